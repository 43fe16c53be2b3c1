/- The files: guards, all of them. The files: Cut, Drop. -/
import Derived.Test.YtkbgedaogfcdnaaFs4
namespace Go.Proofs.Ytkbgedaogfcdnaa
set_option linter.unusedSimpArgs false
set_option linter.unusedVariables false
open Go.RowKit
open Crc (Bytes)

def gcells (gs : List (ByteArray × Int)) : List Value := gs.flatMap fun x => [.string x.1, .int .i64 x.2]
theorem gcells_get (l : List (ByteArray × Int)) : ∀ k (h : k < l.length), (gcells l)[k * 2]? = some (.string l[k].1) ∧ (gcells l)[k * 2 + 1]? = some (.int .i64 l[k].2) := by
  induction l with
  | nil => intro k h; exact absurd h (Nat.not_lt_zero _)
  | cons x l ih =>
    intro k h
    cases k with
    | zero => exact ⟨rfl, rfl⟩
    | succ k =>
      have := ih k (by simpa using h)
      have e : (k + 1) * 2 = k * 2 + 2 := by omega
      rw [e]
      exact this
/-- A row of guards. -/
structure Grd (w : World) (A : Option Addr) (n : Nat) (gs : List (ByteArray × Int)) : Prop where
  rd : Rd w 2 A n (gcells gs)
  len : gs.length = n
  nm : ∀ x ∈ gs, x.1.size ≤ 140737488355328
  le : n ≤ 70368744177664
  frm : ∀ ad, A = some ad → 0 < n → ∃ b o, ad = ⟨b, o, none⟩
theorem add_at (b o j : Nat) : (⟨b, o, none⟩ : Addr).add j = ⟨b, o + j, none⟩ := by unfold Addr.add; split <;> simp_all
theorem Grd.get {w : World} {A : Option Addr} {n : Nat} {gs : List (ByteArray × Int)} (h : Grd w A n gs) {j : Nat} (hj : j < n) :
    ∃ b o x, A = some ⟨b, o, none⟩ ∧ gs[j]? = some x ∧ w.cell? ⟨b, o + j * 2, none⟩ = some (.string x.1) ∧ w.cell? ⟨b, o + j * 2 + 1, none⟩ = some (.int .i64 x.2) ∧ x.1.size ≤ 140737488355328 := by
  have hl : j < gs.length := by rw [h.len]; exact hj
  obtain ⟨ad, hA, _, hc⟩ := h.rd.at_ (by omega)
  obtain ⟨h1, h2⟩ := gcells_get gs j hl
  obtain ⟨b, o, rfl⟩ := h.frm ad hA (by omega)
  have k1 := hc _ _ h1
  have k2 := hc _ _ h2
  rw [add_at] at k1 k2
  exact ⟨b, o, gs[j], hA, by simp [hl], k1, k2, h.nm _ (List.getElem_mem hl)⟩
theorem Grd.below {w w' : World} {A : Option Addr} {n : Nat} {gs : List (ByteArray × Int)} (h : Grd w A n gs) (hb : Below w.heap.size w w') : Grd w' A n gs := ⟨h.rd.below hb, h.len, h.nm, h.le, h.frm⟩
theorem any_step {α : Type} {gs : List α} {j : Nat} {x : α} {f : α → Bool} (h : gs[j]? = some x) (h0 : (gs.take j).any f = false) : (gs.take (j + 1)).any f = f x ∧ (f x = true → gs.any f = true) := by
  obtain ⟨hl, rfl⟩ := List.getElem?_eq_some_iff.1 h
  refine ⟨by rw [List.take_succ_eq_append_getElem hl, List.any_append, h0]; simp, fun hf => List.any_eq_true.2 ⟨gs[j], List.getElem_mem hl, hf⟩⟩
set_option maxRecDepth 100000 in
set_option maxHeartbeats 2000000 in
theorem ifunc_any {w : World} {fb mb n g : Nat} {S : Fs} {D : DataW Value} (gs : List (ByteArray × Int)) (A : Option Addr) (k c : Nat) (h : FSAt w fb S mb n D) (hg : Grd w A k gs) (hgc : w.cell? ⟨g, 0, none⟩ = some (.pointer (some ⟨fb, 0, none⟩))) :
    Calls Try.prog 64 #[.slice A k c, .func (Fn.func 55) #[] #[.pointer (some ⟨g, 0, none⟩)]] w fun e w' => (∃ r : Int, e = .returned (.int .i64 r) ∧ decide (0 ≤ r) = gs.any fun x => S.off x.1 x.2) ∧ Below w.heap.size w w' := by
  have H := Lib.hid h
  have HG := Lib.hid hg
  have Hc := Lib.hid hgc
  have hle := hg.le
  clear h hg hgc
  go_enter Try.func64, Try.ntmps64
  go_wp2_with fail
  go_loopw [8] (fun i wr => ∃ j : Nat, j ≤ k ∧ i = .int .i64 j ∧ Below w.heap.size w wr ∧ (gs.take j).any (fun x => S.off x.1 x.2) = false) (fun i _ => k - (intOf i).toNat)
  case atStart => exact ⟨0, by omega, rfl, Below.refl _ _, rfl⟩
  case round =>
    obtain ⟨j, hj, rfl, hbel, hany⟩ := hrel
    by_cases hjk : j < k
    · obtain ⟨gb, go, x, hA, hx, c0, c1, hsz⟩ := (HG.out.below hbel).get hjk
      subst hA
      obtain ⟨nm, st⟩ := x
      obtain ⟨a1, a2⟩ := any_step hx hany
      have hgc := (hbel.cell (World.block_lt_of_cell? w _ Hc.out)).trans Hc.out
      have Hcall := Lib.hid (guard1_any nm st (Nat.le_trans hsz lt_max) (H.out.below hbel) hgc)
      obtain ⟨o, ho⟩ : ∃ y, S.off nm st = y := ⟨_, rfl⟩
      simp only at c0 c1 a1 a2
      rw [ho] at Hcall a1 a2
      have Ha1 := Lib.hid a1
      have Ha2 := Lib.hid a2
      have Hbel := Lib.hid hbel
      clear a1 a2 hany hx hsz hbel ho hgc
      cases o
      · go_wp2_with (refine Hcall.out.mono ?_; rintro e w2 ⟨rfl, hb2⟩)
        exact ⟨⟨j + 1, by omega, by go_num, Hbel.out.trans (hb2.mono Hbel.out.size), Ha1.out⟩, by simp [intOf]; omega⟩
      · go_wp2_with (refine Hcall.out.mono ?_; rintro e w2 ⟨rfl, hb2⟩)
        go_ret
        exact ⟨⟨j, rfl, by rw [Ha2.out trivial]; simp⟩, Hbel.out.trans (hb2.mono Hbel.out.size)⟩
    · have hjk' : j = k := by omega
      subst hjk'
      have hall : gs.any (fun x => S.off x.1 x.2) = false := by rwa [List.take_of_length_le (by rw [HG.out.len]; exact Nat.le_refl _)] at hany
      have Hall := Lib.hid hall
      have Hbel := Lib.hid hbel
      clear hall hany hbel
      go_wp2_with fail
      go_ret
      exact ⟨⟨-1, rfl, by rw [Hall.out]; rfl⟩, Hbel.out⟩
set_option maxRecDepth 100000 in
theorem cfunc_any {w : World} {fb mb n g : Nat} {S : Fs} {D : DataW Value} (gs : List (ByteArray × Int)) (A : Option Addr) (k c : Nat) (h : FSAt w fb S mb n D) (hg : Grd w A k gs) (hgc : w.cell? ⟨g, 0, none⟩ = some (.pointer (some ⟨fb, 0, none⟩))) :
    Calls Try.prog 54 #[.slice A k c, .func (Fn.func 55) #[] #[.pointer (some ⟨g, 0, none⟩)]] w fun e w' => e = .returned (.bool (gs.any fun x => S.off x.1 x.2)) ∧ Below w.heap.size w w' := by
  have Hi := Lib.hid (ifunc_any gs A k c h hg hgc)
  clear h hg hgc
  go_enter Try.func54, Try.ntmps54
  go_wp2_with (refine Hi.out.mono ?_; rintro e w2 ⟨⟨r, rfl, hr⟩, hb2⟩)
  go_ret
  exact ⟨by rw [← hr]; rfl, hb2⟩
set_option maxRecDepth 100000 in
set_option maxHeartbeats 2000000 in
theorem guards_any {w : World} {fb mb n : Nat} {S : Fs} {D : DataW Value} (gs : List (ByteArray × Int)) (A : Option Addr) (k c : Nat) (h : FSAt w fb S mb n D) (hg : Grd w A k gs) :
    Calls Try.prog 41 #[.pointer (some ⟨fb, 0, none⟩), .slice A k c] w fun e w' => e = .returned (.bool (!(gs.any fun x => S.off x.1 x.2))) ∧ Below w.heap.size w w' := by
  have hX : Below w.heap.size w (w.alloc (Obj.cells #[.pointer (some ⟨fb, 0, none⟩)] 24)) := bl_alloc (Below.refl _ _)
  have hb := Blk.new w 24 [.pointer (some ⟨fb, 0, none⟩)]
  have Hc := Lib.hid (cfunc_any gs A k c (h.below hX) (hg.below hX) (g := w.heap.size) (hb.cell 0))
  clear h hg hb hX
  go_enter Try.func41, Try.ntmps41
  go_wp2_with (refine Hc.out.mono ?_; rintro e w2 ⟨rfl, hb2⟩)
  go_ret
  exact ⟨rfl, bl_then (bl_alloc (Below.refl _ _)) hb2⟩
end Go.Proofs.Ytkbgedaogfcdnaa
namespace Go.Proofs.Ytkbgedaogfcdnaa
set_option linter.unusedSimpArgs false
set_option linter.unusedVariables false
open Go.RowKit
open Crc (Bytes)

/-- Whether a guard of a row does not hold. -/
def Fs.bad (S : Fs) (gs : List (ByteArray × Int)) : Bool := gs.any fun x => S.off x.1 x.2
def Fs.dropF (S : Fs) (s : ByteArray) (gs : List (ByteArray × Int)) : Int × Fs :=
  if fileB s = false then (1, S) else if S.bad gs = true then (5, S) else if S.has s = false then (4, S) else (0, S.gone s)
set_option maxRecDepth 100000 in
set_option maxHeartbeats 2000000 in
theorem drop_any {w : World} {fb mb n : Nat} {S : Fs} {D : DataW Value} {U : Int} (s : ByteArray) (gs : List (ByteArray × Int)) (A : Option Addr) (k c : Nat) (hs0 : s.size ≤ 140737488355328) (ho : S.ok U) (h : FSAt w fb S mb n D) (hg : Grd w A k gs) :
    Calls Try.prog 17 #[.pointer (some ⟨fb, 0, none⟩), .string s, .slice A k c] w fun e w' => e = .returned (.int .i64 (S.dropF s gs).1) ∧ FsDone w fb mb n S D (S.dropF s gs).2 w' := by
  have H := Lib.hid h
  have HG := Lib.hid hg
  have HO := Lib.hid ho
  have Hs2 := Lib.hid hs0
  have hs : s.size ≤ maxLen := Nat.le_trans hs0 lt_max
  clear hs0 h hg ho
  obtain ⟨b1, hb1⟩ : ∃ y, fileB s = y := ⟨_, rfl⟩
  obtain ⟨b2, hb2⟩ : ∃ y, S.bad gs = y := ⟨_, rfl⟩
  obtain ⟨b3, hb3⟩ : ∃ y, S.has s = y := ⟨_, rfl⟩
  have Hp := Lib.hid (show S.dropF s gs = if b1 = false then (1, S) else if b2 = true then (5, S) else if b3 = false then (4, S) else (0, S.gone s) by unfold Fs.dropF; rw [hb1, hb2, hb3])
  have H1 := Lib.hid hb1
  have H2 := Lib.hid (show (gs.any fun x => S.off x.1 x.2) = b2 from hb2)
  have H3 := Lib.hid hb3
  clear hb1 hb2 hb3
  cases b1
  · go_enter Try.func17, Try.ntmps17
    go_wp2_with (go_at_call 33; refine (file_any s _ Hs2.out).mono ?_; rintro e w1 ⟨rfl, e1⟩; rw [H1.out])
    go_ret
    exact ⟨by rw [Hp.out]; rfl, by rw [Hp.out]; exact ⟨⟨_, _, Nat.le_succ _, H.out.below e1, fun _ _ h => h⟩, Only.of_below e1 _⟩⟩
  cases b2
  rotate_left
  · go_enter Try.func17, Try.ntmps17
    go_wp2_with (first
      | (go_at_call 33; refine (file_any s _ Hs2.out).mono ?_; rintro e w1 ⟨rfl, e1⟩; rw [H1.out])
      | (go_at_call 41; refine (guards_any gs A k c (H.out.below e1) (HG.out.below e1)).mono ?_; rintro e w2 ⟨rfl, e2⟩; rw [H2.out]))
    go_ret
    have e3 := e1.trans (e2.mono e1.size)
    exact ⟨by rw [Hp.out]; rfl, by rw [Hp.out]; exact ⟨⟨_, _, Nat.le_succ _, H.out.below e3, fun _ _ h => h⟩, Only.of_below e3 _⟩⟩
  cases b3
  · go_enter Try.func17, Try.ntmps17
    go_wp2_with (first
      | (go_at_call 33; refine (file_any s _ Hs2.out).mono ?_; rintro e w1 ⟨rfl, e1⟩; rw [H1.out])
      | (go_at_call 41; refine (guards_any gs A k c (H.out.below e1) (HG.out.below e1)).mono ?_; rintro e w2 ⟨rfl, e2⟩; rw [H2.out])
      | (go_at_call 34; refine (there_any s hs ((H.out.below e1).below e2)).mono ?_; rintro e w3 ⟨rfl, e3⟩; rw [H3.out]))
    go_ret
    have e4 := e1.trans (e2.mono e1.size)
    have e5 := e4.trans (e3.mono e4.size)
    exact ⟨by rw [Hp.out]; rfl, by rw [Hp.out]; exact ⟨⟨_, _, Nat.le_succ _, H.out.below e5, fun _ _ h => h⟩, Only.of_below e5 _⟩⟩
  · go_enter Try.func17, Try.ntmps17
    go_wp2_with (first
      | (go_at_call 33; refine (file_any s _ Hs2.out).mono ?_; rintro e w1 ⟨rfl, e1⟩; rw [H1.out])
      | (go_at_call 41; refine (guards_any gs A k c (H.out.below e1) (HG.out.below e1)).mono ?_; rintro e w2 ⟨rfl, e2⟩; rw [H2.out])
      | (go_at_call 34; refine (there_any s hs ((H.out.below e1).below e2)).mono ?_; rintro e w3 ⟨rfl, e3⟩; rw [H3.out])
      | (go_at_call 45; refine (gone_any s hs HO.out (((H.out.below e1).below e2).below e3)).mono ?_; rintro e w4 ⟨rfl, ⟨D', h4, f4⟩, o4⟩))
    go_ret
    have e4 := e1.trans (e2.mono e1.size)
    have e5 := e4.trans (e3.mono e4.size)
    exact ⟨by rw [Hp.out]; rfl, by rw [Hp.out]; exact ⟨⟨_, _, Nat.le_succ _, h4, fun g _ h => f4 g h⟩, (Only.of_below e5 _).trans o4⟩⟩
set_option maxRecDepth 100000 in
set_option maxHeartbeats 2000000 in
theorem setcut_any {w : World} {fb mb n : Nat} {S : Fs} {D : DataW Value} (k : Int) (h : FSAt w fb S mb n D) :
    Calls Try.prog 21 #[.pointer (some ⟨fb, 0, none⟩), .int .i64 k] w fun e w' => e = .returned (.tuple #[]) ∧ FSAt w' fb { S with cuts := true, cut := max k 0 } mb n D ∧ Only [fb] w w' := by
  have c3 : w.cell? ⟨fb, 3, none⟩ = some (.bool S.cuts) := h.blk.cell 3
  have c4 : w.cell? ⟨fb, 4, none⟩ = some (.int .i64 S.cut) := h.blk.cell 4
  have z3 := h.blk.frozen 3
  have z4 := h.blk.frozen 4
  have H := Lib.hid ((h.set (S' := { S with cuts := true }) 3 (.bool true) rfl rfl).set (S' := { S with cuts := true, cut := max k 0 }) 4 (.int .i64 (max k 0)) rfl rfl)
  clear h
  have Hon := Lib.hid (fun v : Value => ((Only.refl [fb] w).setCell (p := ⟨fb, 3, none⟩) (.inl (by simp)) (.bool true)).setCell (p := ⟨fb, 4, none⟩) (.inl (by simp)) v)
  by_cases hk : 0 ≤ k
  · have e : max k 0 = k := by omega
    rw [e] at H ⊢
    clear e
    go_enter Try.func21, Try.ntmps21
    go_wp2_with fail
    go_end0
    exact ⟨rfl, H.out, Hon.out _⟩
  · have e : max k 0 = 0 := by omega
    rw [e] at H ⊢
    clear e
    go_enter Try.func21, Try.ntmps21
    go_wp2_with fail
    go_end0
    exact ⟨rfl, H.out, Hon.out _⟩
end Go.Proofs.Ytkbgedaogfcdnaa
