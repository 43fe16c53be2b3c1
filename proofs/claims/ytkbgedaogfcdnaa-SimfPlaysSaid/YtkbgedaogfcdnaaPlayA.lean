/- SimfPlays: what is kept beside one another; names and directories; rows of bytes that came in. -/
import Derived.Test.YtkbgedaogfcdnaaQninJ
import Derived.Test.YtkbgedaogfcdnaaName12
import Derived.Test.YtkbgedaogfcdnaaAwake9
import Derived.Deep.Matrix
namespace Go.Proofs.Ytkbgedaogfcdnaa
set_option linter.unusedSimpArgs false
set_option linter.unusedVariables false
open Go.RowKit
open Crc (Bytes)

def tmpN : ByteArray := ⟨#[116, 109, 112]⟩
set_option maxRecDepth 100000 in
theorem inq_inb : ∀ s ∈ okN, ∀ dir ∈ tmpN :: nm12, inQ dir.data.toList s.data.toList = inB dir s.data.toList := by decide
set_option maxRecDepth 100000 in
theorem ok_in0 : ∀ s ∈ nm12, fileB s = true → (okN.any fun t => t.data.toList == s.data.toList) = true := by decide
theorem ok_in {s : ByteArray} (h : s ∈ nm12) (hf : fileB s = true) : s ∈ okN := by
  obtain ⟨t, ht, he⟩ := List.any_eq_true.1 (ok_in0 s h hf)
  rw [beq_iff_eq] at he
  rw [← key_eq he]; exact ht
/-- What both list is the same. -/
theorem lists_same {S : Fs} {xs : List Qe} {ks : List (List UInt8)} {dir : ByteArray} (hS : QS S xs) (hn : ∀ x ∈ xs, x.nm ∈ okN) (hk : Ks S ks) (hd : dir ∈ tmpN :: nm12) : ks.filter (inB dir) = (xs.map Qe.key).filter (inQ dir.data.toList) := by
  rw [q_ks_eq hS hk]
  refine List.filter_congr fun key hkey => ?_
  obtain ⟨x, hx, rfl⟩ := List.mem_map.1 hkey
  exact (inq_inb x.nm (hn x hx) dir hd).symm
theorem FsH.onlyq {w0 w w' : World} {fb mb k g : Nat} {S : Fs} {t : TypeId} {cs : List Value} (h : FsH w0 w fb mb S k) (ho : Only [g] w w') (hg : Blk w g t cs) (h1 : t ≠ 5) (h2 : t ≠ 52) (hw : w0.heap.size ≤ g) : FsH w0 w' fb mb S k := by
  obtain ⟨n, D, hn, hF⟩ := h.at_
  have e1 : fb ∉ [g] := fun hm => by
    simp at hm
    have := hF.blk.at_; rw [hm, hg.at_] at this; injection this with this; injection this with _ h3; exact h2 h3
  have e2 : mb ∉ [g] := fun hm => by
    simp at hm
    obtain ⟨es, c, h4, _⟩ := hF.own
    rw [hm, hg.at_] at h4; cases h4
  exact ⟨⟨n, D, hn, hF.only ho e1 e2 (fun b hb => by simp at hb; subst hb; exact ⟨_, _, hg, h1⟩)⟩, h.fin, h.hk, h.hf, h.hm, below_only h.bel ho (by intro x hx; simp at hx; omega) h.bel.size⟩
theorem QAt.onlyf {w0 w w' : World} {base qb k fb mb kf : Nat} {S S2 : Fs} (h : QAt w base qb S k) (hf : FsH w0 w fb mb S2 kf) (ho : Only [fb, mb] w w') : QAt w' base qb S k := by
  obtain ⟨m, D, _, hF⟩ := hf.at_
  obtain ⟨es, clock, hmap, _⟩ := hF.own
  have hne : ∀ b ∈ [fb, mb], ∀ cs t fr, w.heap[b]? = some (Obj.cells cs t fr) → t = 52 := fun b hb cs t fr e => by
    simp only [List.mem_cons, List.not_mem_nil, or_false] at hb
    rcases hb with rfl | rfl
    · rw [hF.blk.at_] at e; injection e with e; injection e with _ e; exact e.symm
    · rw [hmap] at e; cases e
  obtain ⟨A, n, c, xs, h1, h2, h3, h4, h5⟩ := h.ex
  have e0 : qb ∉ [fb, mb] := fun hm => absurd (hne qb hm _ _ _ h1.at_) (by decide)
  refine ⟨⟨A, n, c, xs, h1.only ho e0, ⟨h2.own.keep fun g hg => ho.block g (h2.own.blk g hg).2 fun hm => ?_, fun x hx => (h2.ok x hx).keep ho.size fun ad hA h0 => ho.block ad.block ((h2.ok x hx).u8.lt ad hA h0) fun hm => ?_⟩, h3, h4, h5⟩, h.hb⟩
  · obtain ⟨cs, fr, e⟩ := own_at h2.own hg
    exact absurd (hne g hm _ _ _ e) (by decide)
  · obtain ⟨cs, fr, e⟩ := (h2.ok x hx).u8 ad hA h0
    exact absurd (hne ad.block hm _ _ _ e) (by decide)
theorem FsH.more {w0 w : World} {fb mb k k' : Nat} {S : Fs} (h : FsH w0 w fb mb S k) (hk : k ≤ k') (h5 : k' ≤ 5000) : FsH w0 w fb mb S k' := by
  obtain ⟨n, D, hn, hF⟩ := h.at_
  exact ⟨⟨n, D, by omega, hF⟩, h.fin.more (by omega) (by omega) (by omega), h5, h.hf, h.hm, h.bel⟩
/-- Both files, at the same. -/
structure Both (w0 W : World) (fb mb qb : Nat) (S : Fs) (k : Nat) : Prop where
  fs : FsH w0 W fb mb S k
  q : QAt W w0.heap.size qb S (2 * k)
section
variable {w0 w w1 w2 : World} {fb mb qb k : Nat} {S S' : Fs}
theorem Both.below (h : Both w0 w fb mb qb S k) (hb : Below w.heap.size w w1) : Both w0 w1 fb mb qb S k := ⟨h.fs.below hb, h.q.below hb⟩
theorem Both.size (h : Both w0 w fb mb qb S k) : w0.heap.size ≤ w.heap.size := h.fs.bel.size
/-- One op of each. -/
theorem Both.step (h : Both w0 w fb mb qb S k) (h1 : FsH w0 w1 fb mb S' (k + 1)) (o1 : Only [fb, mb] w w1) (h2 : QAt w1 w0.heap.size qb S (2 * k) → QDone w1 w0.heap.size qb S' (2 * k + 2) w2) : Both w0 w2 fb mb qb S' (k + 1) := by
  have hq := h.q.onlyf h.fs o1
  obtain ⟨d1, d2⟩ := h2 hq
  obtain ⟨A, n, c, xs, hb, _⟩ := hq.ex
  exact ⟨h1.onlyq d2 hb (by decide) (by decide) hq.hb, d1⟩
end
/-- Rows of bytes that came in. -/
structure RowsIn (w : World) (A : Option Addr) (n : Nat) : Prop where
  get : ∀ j, j < n → ∃ ad X m c, A = some ad ∧ w.cell? (ad.add j) = some (.slice X m c) ∧ m ≤ c ∧ ∃ l, (m ≤ 300 → Bs w X m l)
  le : n ≤ maxLen
theorem RowsIn.below {w w' : World} {A : Option Addr} {n : Nat} (h : RowsIn w A n) (hb : Below w.heap.size w w') : RowsIn w' A n := by
  refine ⟨fun j hj => ?_, h.le⟩
  obtain ⟨ad, X, m, c, h1, h2, h3, l, h4⟩ := h.get j hj
  have hlt := World.block_lt_of_cell? w (ad.add j) h2
  exact ⟨ad, X, m, c, h1, (World.cell?_of_block (hb.block _ hlt)).trans h2, h3, l, fun h => (h4 h).below hb⟩
end Go.Proofs.Ytkbgedaogfcdnaa
