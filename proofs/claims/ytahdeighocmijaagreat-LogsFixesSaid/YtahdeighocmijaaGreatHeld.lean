/- LogsTells, LogsAgain: what the files hold between two rounds; a loop of a fix from there. -/
import Derived.Test.YtahdeighocmijaaGreatLSteps
namespace Go.Proofs.YtahdeighocmijaaGreat
set_option linter.unusedSimpArgs false
set_option linter.unusedVariables false
open Go.RowKit
open Crc (Bytes)

/-- The trace holds these commits, and perhaps something behind that is none. -/
structure Held (S : Fs) (ds : List Dn) (L : List Int × Int) : Prop where
  ex : ∃ T r, LS 1048576 S T L ∧ oneF r = none ∧ r.length ≤ 100 ∧ ((T = none ∧ ds = []) ∨ ∃ ts, T = some (tr ds ++ r, ts))
  ok : Dns ds
  len : (tr ds).length ≤ 1000
  l10 : L.1.length ≤ 10
/-- From there a fix comes to hold it. -/
structure Fixes (S : Fs) (ds : List Dn) (L : List Int × Int) (m : Nat) (X : Nat → Int × Fix × Fs) (S' : Fs) (ts : Int) : Prop where
  ex : ∃ r, Run ds r S L.2 m X S' ts ∧ ((S.readF nmT).1 = 0 → (S.readF nmT).2.1 = tr ds ++ r ∧ Dns ds ∧ oneF r = none ∧ (tr ds ++ r).length ≤ 100000)
  ls : LS 1048576 S' (some (tr ds, ts)) L
theorem Held.fix {S : Fs} {ds : List Dn} {L : List Int × Int} (h : Held S ds L) : ∃ m X S' ts, Fixes S ds L m X S' ts := by
  obtain ⟨T, r, hl, hr, hr1, hT⟩ := h.ex
  have h1 := h.len
  have h2 := h.l10
  rcases hT with ⟨rfl, hd⟩ | ⟨ts, rfl⟩
  · obtain ⟨X, S', hX, hS, _⟩ := run_none hl (by omega) ds []
    refine ⟨3, X, S', S'.last, ⟨[], hX, fun e => ?_⟩, ?_⟩
    · rw [readF_none nmT_ok hl.t] at e; cases e
    · rw [hd]; exact hS
  · by_cases hr0 : r = []
    · subst hr0
      rw [List.append_nil] at hl
      obtain ⟨X, hX⟩ := run_whole hl
      refine ⟨1, X, S, ts, ⟨[], hX, fun e => ?_⟩, hl⟩
      rw [readF_of nmT_ok hl.t]
      exact ⟨by simp, h.ok, rfl, by rw [List.append_nil]; omega⟩
    · have hl2 : (tr ds ++ r).length = (tr ds).length + r.length := List.length_append
      obtain ⟨X, S', hX, hS, _⟩ := run_cut hl hr0 (by omega)
      refine ⟨3, X, S', S'.last, ⟨r, hX, fun e => ?_⟩, hS⟩
      rw [readF_of nmT_ok hl.t]
      exact ⟨rfl, h.ok, hr, by rw [hl2]; omega⟩
theorem held_new : (fs0 1048576).putF nmL [120] = ((1, 0), (fs0 1048576).write nmL [120]) ∧ Held ((fs0 1048576).write nmL [120]) [] ([120], 1) := by
  obtain ⟨h1, h2⟩ := ls_new 1048576 [120] (by decide) (by decide) (by decide)
  exact ⟨h1, ⟨none, [], h2, rfl, by simp, .inl ⟨rfl, rfl⟩⟩, Dns.nil, by simp [tr], by simp⟩
theorem tr_snoc_len {ds : List Dn} {d : Dn} {i : Nat} (h : (tr ds).length ≤ 50 * i) (hd : d.raw.length ≤ 40) : (tr (ds ++ [d])).length ≤ 50 * (i + 1) := by
  rw [tr_snoc, List.length_append, framed_len]; omega
/-- A round in which it is told. -/
theorem held_tell {S S' : Fs} {ds : List Dn} {L : List Int × Int} {m : Nat} {X : Nat → Int × Fix × Fs} {ts : Int} (hf : Fixes S ds L m X S' ts) (h : Held S ds L) (d : Dn) (hr : d.right = true) (hb : Bytes d.p) (hl : (tr (ds ++ [d])).length ≤ 1000) :
    S'.appF nmT (framed d.raw) [(nmL, L.2), (nmT, ts)] = ((S'.last + 1, 0), S'.write nmT (tr (ds ++ [d]))) ∧ (S'.write nmT (tr (ds ++ [d]))).appF nmT (framed d.raw) [(nmL, L.2), (nmT, ts)] = ((0, 5), S'.write nmT (tr (ds ++ [d]))) ∧ (S'.write nmT (tr (ds ++ [d]))).readF nmT = (0, tr (ds ++ [d]), S'.last + 1) ∧ Held (S'.write nmT (tr (ds ++ [d]))) (ds ++ [d]) L ∧ LS 1048576 (S'.write nmT (tr (ds ++ [d]))) (some (tr (ds ++ [d]), S'.last + 1)) L := by
  have h1 := h.l10
  have h2 : (tr (ds ++ [d])).length = (tr ds).length + (framed d.raw).length := by rw [tr_snoc, List.length_append]
  obtain ⟨h3, h4⟩ := tell_ok hf.ls (framed d.raw) (by omega)
  rw [← tr_snoc] at h3 h4
  have h5 := (hf.ls.ts _ rfl).2
  have h5' : ts ≤ S'.last := h5
  refine ⟨h3, tell_old h4 _ (by omega), readF_of nmT_ok h4.t, ⟨⟨_, [], h4, rfl, by simp, .inr ⟨S'.last + 1, by rw [List.append_nil]⟩⟩, h.ok.snoc hr hb, hl, h1⟩, h4⟩
/-- A round in which it is cut off. -/
theorem held_cut {S S' : Fs} {ds : List Dn} {L : List Int × Int} {m : Nat} {X : Nat → Int × Fix × Fs} {ts : Int} (hf : Fixes S ds L m X S' ts) (h : Held S ds L) (d : Dn) (k : Nat) (hr : d.raw.length ≤ 40) (hk : k < (framed d.raw).length) :
    ∃ S3 q, ({ S' with cuts := true, cut := max (k : Int) 0 } : Fs).appF nmT (framed d.raw) [(nmL, L.2), (nmT, ts)] = ((0, 7), S3) ∧ S3.readF nmT = (0, tr ds ++ (framed d.raw).take k, q) ∧ oneF ((framed d.raw).take k) = none ∧ Held S3 ds L := by
  obtain ⟨S3, ts3, h1, h2⟩ := tell_cut hf.ls (framed d.raw) k hk
  have hfl := framed_len d.raw
  have hno : oneF ((framed d.raw).take k) = none := oneF_cut _ _ (by omega) (by omega)
  exact ⟨S3, ts3, h1, readF_of nmT_ok h2.t, hno, ⟨_, _, h2, hno, by rw [List.length_take]; omega, .inr ⟨ts3, rfl⟩⟩, h.ok, h.len, h.l10⟩
theorem Dx.ok.onlyB {W W' : World} {base : Nat} {bs : List Nat} {x : Dx} (h : x.ok W) (ho : OnlyB base bs W W') (hb : ∀ ad, x.A = some ad → 0 < x.m → ad.block < base ∧ ad.block ∉ bs) : x.ok W' :=
  h.keep ho.size fun ad hA h0 => ho.block _ (hb ad hA h0).1 (hb ad hA h0).2
/-- A row of commits stays where the files turn. -/
theorem DRow.onlyB {w0 W W' : World} {fb mb k b1 base n c : Nat} {S : Fs} {A : Option Addr} {ds : List Dn} (h : DRow W b1 A n c ds) (hH : FsH w0 W fb mb S k) (hb : W.heap.size = base) (ho : OnlyB base [fb, mb] W W') : DRow W' b1 A n c ds := by
  obtain ⟨xs, h1, h2, h3⟩ := h.ex
  refine ⟨xs, h1, h2.keep (fun g hg => ho.block g (by rw [← hb]; exact (h2.blk g hg).2) ?_), fun x hx => (h3 x hx).onlyB ho fun ad hA h0 => ?_⟩
  · obtain ⟨cs, fr, e⟩ := own_at h2 hg
    exact hH.ne e (by decide)
  · obtain ⟨cs, fr, e⟩ := (h3 x hx).u8 ad hA h0
    exact ⟨by rw [← hb]; exact (h3 x hx).u8.lt ad hA h0, hH.ne e (by decide)⟩
theorem own_ne_blk {w : World} {base : Nat} {e t : TypeId} {size n c g : Nat} {A : Option Addr} {xs cs : List Value} (h : Own w base e size A n c xs) (hb : Blk w g t cs) (ht : t ≠ e) : ob A ≠ some g := fun hg => by
  obtain ⟨cs', fr, e2⟩ := own_at h hg
  rw [hb.at_] at e2
  injection e2 with e2
  injection e2 with _ e3
  exact ht e3
theorem OnlyB.of_only {fb mb : Nat} {w w' : World} (h : Only [fb, mb] w w') : OnlyB w.heap.size [fb, mb] w w' := OnlyB.of h (Nat.le_refl _) fun b hb => .inl hb
/-- A fix's loop through its end: the world behind. -/
theorem LoopX.onlyB {w0 w3 wr : World} {base fb mb xb k : Nat} {x : Int × Fix × Fs} {W : World} (h : LoopX w0 w3 base fb mb xb k x wr) (hb : Below base W w3) (hW : W.heap.size = base) : OnlyB base [fb, mb] W wr := (OnlyB.below hb (Nat.le_refl _)).trans h.o
end Go.Proofs.YtahdeighocmijaaGreat
