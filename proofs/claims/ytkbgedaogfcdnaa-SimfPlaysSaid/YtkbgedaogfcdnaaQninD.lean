/- The document's files (fettleref9): a file that goes. -/
import Derived.Test.YtkbgedaogfcdnaaQninC
namespace Go.Proofs.Ytkbgedaogfcdnaa
set_option linter.unusedSimpArgs false
set_option linter.unusedVariables false
open Go.RowKit
open Crc (Bytes)

theorem QRow.only {W W' : World} {base n c : Nat} {A : Option Addr} {xs : List Qe} {bs : List Nat} (h : QRow W base A n c xs) (ho : Only bs W W') (hb : ∀ b ∈ bs, ∃ t cs fr, W.heap[b]? = some (Obj.cells cs t fr) ∧ t ≠ 5 ∧ t ≠ 58) : QRow W' base A n c xs := by
  refine ⟨h.own.keep fun g hg => ho.block g (h.own.blk g hg).2 fun hm => ?_, fun x hx => (h.ok x hx).keep ho.size fun ad hA h0 => ho.block ad.block ((h.ok x hx).u8.lt ad hA h0) fun hm => ?_⟩
  · obtain ⟨t, cs, fr, e, _, ht⟩ := hb g hm
    obtain ⟨cs', fr', e2⟩ := own_at h.own hg
    rw [e2] at e; injection e with e; injection e with _ e; exact ht e.symm
  · obtain ⟨t, cs, fr, e, ht, _⟩ := hb ad.block hm
    obtain ⟨cs', fr', e2⟩ := (h.ok x hx).u8 ad hA h0
    rw [e2] at e; injection e with e; injection e with _ e; exact ht e.symm
theorem QRow.app {W1 w2 : World} {base n c yc : Nat} {A Y : Option Addr} {xs : List Qe} {x : Qe} (hx : x.ok W1) (h : QRow W1 base A n c xs) (hg : W1.grownBy w2 (ob A)) (hown : Own w2 base 58 3 Y (n + 1) yc (qfl xs ++ x.cells)) : QRow w2 base Y (n + 1) yc (xs ++ [x]) := by
  have hr : ∀ k, ob A = some k → ∃ t cs fr, W1.heap[k]? = some (Obj.cells cs t fr) ∧ t ≠ 5 := fun k hk => by
    obtain ⟨cs, fr, e⟩ := own_at h.own hk
    exact ⟨_, cs, fr, e, by decide⟩
  refine ⟨by rw [qfl_app, qfl_one]; exact hown, fun y hy => ?_⟩
  rcases List.mem_append.1 hy with h4 | h4
  · exact (h.ok y h4).grown hg hr
  · simp at h4; subst h4; exact hx.grown hg hr
/-- A row without a name. -/
def wo (s : ByteArray) (xs : List Qe) : List Qe := xs.filter fun x => decide (x.nm ≠ s)
theorem QS.gone' {S : Fs} {xs : List Qe} (h : QS S xs) (s : ByteArray) : QS (S.gone s) (wo s xs) := h.gone s
theorem filt_snoc {xs : List Qe} {k : Nat} {x : Qe} (s : ByteArray) (h : xs[k]? = some x) : wo s (xs.take (k + 1)) = wo s (xs.take k) ++ (if x.nm = s then [] else [x]) := by
  obtain ⟨hk, rfl⟩ := List.getElem?_eq_some_iff.1 h
  unfold wo
  rw [List.take_succ_eq_append_getElem hk, List.filter_append]
  congr 1
  by_cases he : xs[k].nm = s
  · rw [if_pos he]; simp [he]
  · rw [if_neg he]; simp [he]
section
variable {w : World} {base qb n c : Nat} {A : Option Addr} {xs : List Qe} {room last cut : Int}
set_option maxRecDepth 100000 in
set_option maxHeartbeats 2000000 in
theorem qgone_any (s : ByteArray) (hbs : base ≤ w.heap.size) (h : QB w base qb A n c xs room last cut) :
    Calls Try.prog 46 #[.pointer (some ⟨qb, 0, none⟩), .string s] w fun e w' => e = .returned (.tuple #[]) ∧ (∃ B m d, QB w' base qb B m d (wo s xs) room last cut ∧ m ≤ n) ∧ Only [qb] w w' := by
  have hl := h.row.len
  have hn := h.n_
  have H := Lib.hid h
  have hqw := h.blk.lt
  clear h
  go_enter Try.func46, Try.ntmps46
  go_wp2_with fail
  go_loopw [4, 5] (fun v i wr => ∃ (k : Nat) (B : Option Addr) (m d : Nat), k ≤ n ∧ i = .int .i64 k ∧ v = .slice B m d ∧ QRow wr w.heap.size B m d (wo s (xs.take k)) ∧ m ≤ k ∧ Below w.heap.size w wr) (fun _ i _ => n - (intOf i).toNat)
  case atStart => exact ⟨0, none, 0, 0, Nat.zero_le _, rfl, rfl, QRow.nil w w.heap.size, Nat.le_refl _, Below.refl _ _⟩
  case round =>
    obtain ⟨k, B, m, d, hk, rfl, rfl, hrow, hmk, hb⟩ := hrel
    have HB := Lib.hid hb
    have HR := Lib.hid hrow
    have H2 := Lib.hid (H.out.below hb)
    have c0 : wr.cell? ⟨qb, 0, none⟩ = some (.slice A n c) := H2.out.blk.cell 0
    have z0 := H2.out.blk.frozen 0
    have hwz := hb.size
    clear hb hrow
    by_cases hlt : k < n
    · have hlt' : (k : Int) < (n : Int) := by omega
      obtain ⟨g, x, rfl, hg, hx, f1, f2, f3, hok⟩ := H2.out.row.get hlt
      have hsn := filt_snoc s hx
      have Hok := Lib.hid hok
      clear hx hok
      by_cases he : x.nm = s
      · have hbq : (x.nm.toList == s.toList) = true := by rw [nm_eq]; simp [he]
        rw [if_pos he, List.append_nil] at hsn
        have Hsn := Lib.hid hsn
        clear he hsn
        go_wp2_with fail
        exact ⟨⟨k + 1, B, m, d, by omega, by go_num, rfl, by rw [Hsn.out]; exact HR.out, by omega, HB.out⟩, by simp [intOf]; omega⟩
      · have hbq : (x.nm.toList == s.toList) = false := by rw [nm_eq]; simp [he]
        rw [if_neg he] at hsn
        have Hsn := Lib.hid hsn
        clear he hsn
        go_wp2_with (
           at_builtin
           refine wpList_app rfl (.tmp 25) (.tmp 33) 54 rfl Try.underlying54 qeInfo rfl (by decide) rfl (HR.out.own.alloc _) rfl (Rd.lit wr #[.string x.nm, .slice x.A x.n x.c, .int .i64 x.st] 58 (0, 0) 3 1 rfl) (by simp [Value.oneCell']) (by omega) (by omega) (by simp; omega) rfl rfl ?_
           intro Y yc w2 hx1 hg1 hx2
           have hbl : Below wr.heap.size wr (wr.alloc (Obj.cells #[.string x.nm, .slice x.A x.n x.c, .int .i64 x.st] 58)) := bl_alloc (Below.refl _ _)
           have HR2 := Lib.hid (QRow.app (Hok.out.below hbl) (HR.out.below hbl) hg1 hx1)
           have HB2 := Lib.hid ((HB.out.alloc hwz (Obj.cells #[.string x.nm, .slice x.A x.n x.c, .int .i64 x.st] 58)).grown hg1 (by simp; omega) (fun j hj => (HR.out.own.blk j hj).1))
           clear hbl hx1 hg1 hx2)
        exact ⟨⟨k + 1, Y, m + 1, yc, by omega, by go_num, rfl, by rw [Hsn.out]; exact HR2.out, by omega, HB2.out⟩, by simp [intOf]; omega⟩
    · have hlt' : ¬ (k : Int) < (n : Int) := by omega
      have hfx : (xs.take k) = xs := List.take_of_length_le (by omega)
      rw [hfx] at HR
      clear hfx
      go_wp2_with fail
      go_end0
      refine ⟨rfl, ⟨B, m, ⟨d, ⟨H2.out.blk.set_ 0 _, (HR.out.only ((Only.refl [qb] wr).setCell (p := ⟨qb, 0, none⟩) (.inl (by simp)) _) (fun b hb => ?_)).more hbs, by omega⟩⟩, by omega⟩, (Only.of_below HB.out [qb]).setCell (p := ⟨qb, 0, none⟩) (.inl (by simp)) _⟩
      simp at hb
      subst hb
      exact ⟨_, _, _, H2.out.blk.at_, by decide, by decide⟩
end
end Go.Proofs.Ytkbgedaogfcdnaa
