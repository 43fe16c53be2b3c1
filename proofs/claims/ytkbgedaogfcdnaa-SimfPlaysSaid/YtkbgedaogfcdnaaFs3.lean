/- The files: Room, New, Used, Cut, Put, Make, Read. The files: Put, Make, Read. -/
import Derived.Test.YtkbgedaogfcdnaaFs
import Derived.Test.YtkbgedaogfcdnaaCode
namespace Go.Proofs.Ytkbgedaogfcdnaa
set_option linter.unusedSimpArgs false
set_option linter.unusedVariables false
open Go.RowKit
open Crc (Bytes)

/-- The room, as it is kept. -/
def roomOf (n : Int) : Int := min (max n 0) 1073741824
set_option maxRecDepth 100000 in
set_option maxHeartbeats 1000000 in
theorem room_any {w : World} {fb mb n : Nat} {S : Fs} {D : DataW Value} (k : Int) (h : FSAt w fb S mb n D) :
    Calls Try.prog 19 #[.pointer (some ⟨fb, 0, none⟩), .int .i64 k] w fun e w' => e = .returned (.tuple #[]) ∧ FSAt w' fb { S with room := roomOf k } mb n D ∧ Only [fb] w w' := by
  have c0 : w.cell? ⟨fb, 0, none⟩ = some (.int .i64 S.room) := h.blk.cell 0
  have z0 := h.blk.frozen 0
  have H := Lib.hid (h.set (S' := { S with room := roomOf k }) 0 (.int .i64 (roomOf k)) rfl rfl)
  clear h
  go_enter Try.func19, Try.ntmps19
  go_wp2_with fail
  all_goals
    go_end0
    refine ⟨rfl, ?_, (Only.refl _ _).setCell (.inl (by simp)) _⟩
    have H' := H.out
    first
      | (have e : roomOf k = 0 := (by unfold roomOf; omega); rw [e] at H' ⊢; exact H')
      | (have e : roomOf k = 1073741824 := (by unfold roomOf; omega); rw [e] at H' ⊢; exact H')
      | (have e : roomOf k = k := (by unfold roomOf; omega); rw [e] at H' ⊢; exact H')
set_option maxHeartbeats 1000000 in
theorem used_any {w : World} {fb mb n : Nat} {S : Fs} {D : DataW Value} (h : FSAt w fb S mb n D) :
    Calls Try.prog 26 #[.pointer (some ⟨fb, 0, none⟩)] w fun e w' => e = .returned (.int .i64 S.used) ∧ w = w' := by
  have c1 : w.cell? ⟨fb, 1, none⟩ = some (.int .i64 S.used) := h.blk.cell 1
  clear h
  go_enter Try.func26, Try.ntmps26
  go_wp2_with fail
  go_ret
  exact ⟨rfl, rfl⟩
theorem makeM (w : World) : (Instr.makeMap 50 none).run Try.prog w = .ok (.map (some w.heap.size)) (w.alloc (.map #[] 0)) := by kernel_rfl
def fs0 (room : Int) : Fs := { room := roomOf room, used := 0, last := 0, cut := 0, cuts := false, m := fun _ => none }
set_option maxRecDepth 100000 in
set_option maxHeartbeats 1000000 in
theorem newfs_any (w : World) (k : Int) :
    Calls Try.prog 4 #[.int .i64 k] w fun e w' => ∃ fb mb D, e = .returned (.pointer (some ⟨fb, 0, none⟩)) ∧ FSAt w' fb (fs0 k) mb 0 D ∧ w.heap.size ≤ fb ∧ w.heap.size ≤ mb ∧ Below w.heap.size w w' := by
  have hm := makeM
  have h0 := Lib.hid (show FSAt ((w.alloc (Obj.map #[] 0)).alloc (Obj.cells #[.int .i64 0, .int .i64 0, .int .i64 0, .bool false, .int .i64 0, .map (some w.heap.size)] 52)) (w.heap.size + 1) { room := 0, used := 0, last := 0, cut := 0, cuts := false, m := fun _ => none } w.heap.size 0 (.map []) from
    ⟨blk_new (cs := [.int .i64 0, .int .i64 0, .int .i64 0, .bool false, .int .i64 0, .map (some w.heap.size)]) (by simp), (World.ownsMap_made w Try.prog 9 RV).alloc _, fun _ _ => rfl, fun _ _ _ h => by cases h⟩)
  go_enter Try.func4, Try.ntmps4
  go_wp2_with fail
  refine (room_any k h0.out).mono ?_
  rintro e w' ⟨rfl, h1, hon⟩
  have H1 := Lib.hid h1
  have hb : Below w.heap.size w ((w.alloc (Obj.map #[] 0)).alloc (Obj.cells #[.int .i64 0, .int .i64 0, .int .i64 0, .bool false, .int .i64 0, .map (some w.heap.size)] 52)) := by (repeat (first | assumption | exact Below.refl _ _ | (with_reducible apply Below.drew) | (with_reducible apply bl_drewN) | (with_reducible apply bl_alloc) | (with_reducible refine bl_then ?_ (by assumption))))
  have Hb := Lib.hid (below_only hb hon (by simp) hb.size)
  clear h1 hon hb
  go_wp2_with fail
  go_ret
  exact ⟨_, _, _, rfl, H1.out, by omega, by omega, Hb.out⟩
end Go.Proofs.Ytkbgedaogfcdnaa
namespace Go.Proofs.Ytkbgedaogfcdnaa
set_option linter.unusedSimpArgs false
set_option linter.unusedVariables false
open Go.RowKit
open Crc (Bytes)

/-- What a call of the files leaves: an answer, and the files behind it. -/
structure FsDone (w : World) (fb mb n : Nat) (S : Fs) (D : DataW Value) (S' : Fs) (w' : World) : Prop where
  at_ : ∃ n' D', n' ≤ n + 1 ∧ FSAt w' fb S' mb n' D' ∧ ∀ g, g < w.heap.size → Free S D g → Free S' D' g
  only : Only [fb, mb] w w'
def Fs.putF (S : Fs) (s : ByteArray) (l : List Int) : (Int × Int) × Fs := if fileB s = false then ((0, 1), S) else if S.fits s l.length = false then ((0, 2), S) else ((S.last + 1, 0), S.write s l)
theorem own_ne {w : World} {base n c size : Nat} {e : TypeId} {xs : List Value} {A : Option Addr} (h : Own w base e size A n c xs) {g : Nat} (hg : g < base) : ∀ ad, A = some ad → 0 < n → ad.block ≠ g := by
  intro ad hA h0
  rcases h.form with rfl | ⟨g', rfl, h1, _⟩
  · cases hA
  · cases hA; simp; omega
theorem lt_max : 140737488355328 ≤ maxLen := by decide
set_option maxRecDepth 100000 in
set_option maxHeartbeats 2000000 in
theorem put_any {w : World} {fb mb n : Nat} {S : Fs} {D : DataW Value} {U : Int} (s : ByteArray) (l : List Int) (A : Option Addr) (k c : Nat) (hs0 : s.size ≤ 140737488355328) (hk : k ≤ 70368744177664) (hn : n < maxLen) (ho : S.ok U) (h : FSAt w fb S mb n D) (hb : Bs w A k l) :
    Calls Try.prog 11 #[.pointer (some ⟨fb, 0, none⟩), .string s, .slice A k c] w fun e w' => e = .returned (.tuple #[.int .i64 (S.putF s l).1.1, .int .i64 (S.putF s l).1.2]) ∧ FsDone w fb mb n S D (S.putF s l).2 w' := by
  have hl := hb.len
  have H := Lib.hid h
  have HB := Lib.hid hb
  have HO := Lib.hid ho
  have Hs2 := Lib.hid hs0
  have hs : s.size ≤ maxLen := Nat.le_trans hs0 lt_max
  clear hs0
  cases hf : fileB s
  · have Hp := Lib.hid (show S.putF s l = ((0, 1), S) by simp [Fs.putF, hf])
    have Hf := Lib.hid hf
    clear h hb hf hl ho
    go_enter Try.func11, Try.ntmps11
    go_wp2_with (go_at_call 33; refine (file_any s _ Hs2.out).mono ?_; rintro e w1 ⟨rfl, hb1⟩; rw [Hf.out])
    go_ret2
    exact ⟨by rw [Hp.out]; rfl, by rw [Hp.out]; exact ⟨⟨_, _, Nat.le_succ _, H.out.below hb1, fun _ _ h => h⟩, Only.of_below hb1 _⟩⟩
  · have Hf := Lib.hid hf
    cases hf2 : S.fits s k
    · have Hp := Lib.hid (show S.putF s l = ((0, 2), S) by simp [Fs.putF, hf, hl, hf2])
      have Hf2 := Lib.hid hf2
      clear h hb hf hl ho hf2
      go_enter Try.func11, Try.ntmps11
      go_wp2_with (first
        | (go_at_call 33; refine (file_any s _ Hs2.out).mono ?_; rintro e w1 ⟨rfl, hb1⟩; rw [Hf.out])
        | (go_at_call 35; refine (fits_any s k hs hk HO.out (H.out.below hb1)).mono ?_; rintro e w2 ⟨rfl, hb2⟩; rw [Hf2.out]))
      go_ret2
      have hb3 := hb1.trans (hb2.mono hb1.size)
      exact ⟨by rw [Hp.out]; rfl, by rw [Hp.out]; exact ⟨⟨_, _, Nat.le_succ _, H.out.below hb3, fun _ _ h => h⟩, Only.of_below hb3 _⟩⟩
    · have Hp := Lib.hid (show S.putF s l = ((S.last + 1, 0), S.write s l) by simp [Fs.putF, hf, hl, hf2])
      have Hf2 := Lib.hid hf2
      have Hl := Lib.hid hl
      clear h hb hf hl ho hf2
      go_enter Try.func11, Try.ntmps11
      go_wp2_with (first
        | (go_at_call 33; refine (file_any s _ Hs2.out).mono ?_; rintro e w1 ⟨rfl, hb1⟩; rw [Hf.out])
        | (go_at_call 35; refine (fits_any s k hs hk HO.out (H.out.below hb1)).mono ?_; rintro e w2 ⟨rfl, hb2⟩; rw [Hf2.out])
        | (go_at_call 37; refine (clone_any A k c l _ ((HB.out.below hb1).below hb2)).mono ?_; rintro e w3 ⟨B, m, bc, rfl, hm, hown, hnone, hbel⟩))
      have hb3 := (hb1.trans (hb2.mono hb1.size)).trans (hbel.mono (hb1.trans (hb2.mono hb1.size)).size)
      have hlm : k = m := Hl.out.symm.trans hm.out
      subst hlm
      refine (write_any s l B k bc hs hk hn HO.out (H.out.below hb3) (own_bs hown HB.out.by_ (by omega)) hown.cap (U8.of_own hown)).mono ?_
      rintro e w4 ⟨rfl, ⟨D', h4, f4⟩, hon4⟩
      have F4 := Lib.hid (fun g (hg : g < w.heap.size) (hf : Free S D g) => f4 g hf (own_ne hown (Nat.lt_of_lt_of_le hg (hb1.trans (hb2.mono hb1.size)).size)))
      have H4 := Lib.hid h4
      have Hon := Lib.hid ((Only.of_below hb3 [fb, mb]).trans hon4)
      clear h4 f4 hon4 hown hbel hb1 hb2 hb3
      go_wp2_with fail
      go_ret2
      exact ⟨by rw [Hp.out]; rfl, by rw [Hp.out]; exact ⟨⟨_, _, Nat.le_refl _, H4.out, F4.out⟩, Hon.out⟩⟩

def Fs.makeF (S : Fs) (s : ByteArray) (l : List Int) : (Int × Int) × Fs :=
  if fileB s = false then ((0, 1), S) else if S.has s = true then ((0, 3), S) else if S.fits s l.length = false then ((0, 2), S) else ((S.last + 1, 0), S.write s l)
set_option maxRecDepth 100000 in
set_option maxHeartbeats 2000000 in
theorem make_any {w : World} {fb mb n : Nat} {S : Fs} {D : DataW Value} {U : Int} (s : ByteArray) (l : List Int) (A : Option Addr) (k c : Nat) (hs0 : s.size ≤ 140737488355328) (hk : k ≤ 70368744177664) (hn : n < maxLen) (ho : S.ok U) (h : FSAt w fb S mb n D) (hb : Bs w A k l) :
    Calls Try.prog 9 #[.pointer (some ⟨fb, 0, none⟩), .string s, .slice A k c] w fun e w' => e = .returned (.tuple #[.int .i64 (S.makeF s l).1.1, .int .i64 (S.makeF s l).1.2]) ∧ FsDone w fb mb n S D (S.makeF s l).2 w' := by
  have hl := hb.len
  have H := Lib.hid h
  have HB := Lib.hid hb
  have HO := Lib.hid ho
  have Hs2 := Lib.hid hs0
  have hs : s.size ≤ maxLen := Nat.le_trans hs0 lt_max
  clear hs0
  cases hf : fileB s
  · have Hp := Lib.hid (show S.makeF s l = ((0, 1), S) by simp [Fs.makeF, hf])
    have Hf := Lib.hid hf
    clear h hb hf hl ho
    go_enter Try.func9, Try.ntmps9
    go_wp2_with (go_at_call 33; refine (file_any s _ Hs2.out).mono ?_; rintro e w1 ⟨rfl, hb1⟩; rw [Hf.out])
    go_ret2
    exact ⟨by rw [Hp.out]; rfl, by rw [Hp.out]; exact ⟨⟨_, _, Nat.le_succ _, H.out.below hb1, fun _ _ h => h⟩, Only.of_below hb1 _⟩⟩
  have Hf := Lib.hid hf
  cases hh : S.has s
  rotate_left
  · have Hp := Lib.hid (show S.makeF s l = ((0, 3), S) by simp [Fs.makeF, hf, hh])
    have Hh := Lib.hid hh
    clear h hb hf hl ho hh
    go_enter Try.func9, Try.ntmps9
    go_wp2_with (first
      | (go_at_call 33; refine (file_any s _ Hs2.out).mono ?_; rintro e w1 ⟨rfl, hb1⟩; rw [Hf.out])
      | (go_at_call 34; refine (there_any s hs (H.out.below hb1)).mono ?_; rintro e w2 ⟨rfl, hb2⟩; rw [Hh.out]))
    go_ret2
    have hb3 := hb1.trans (hb2.mono hb1.size)
    exact ⟨by rw [Hp.out]; rfl, by rw [Hp.out]; exact ⟨⟨_, _, Nat.le_succ _, H.out.below hb3, fun _ _ h => h⟩, Only.of_below hb3 _⟩⟩
  have Hh := Lib.hid hh
  cases hf2 : S.fits s k
  · have Hp := Lib.hid (show S.makeF s l = ((0, 2), S) by simp [Fs.makeF, hf, hh, hl, hf2])
    have Hf2 := Lib.hid hf2
    clear h hb hf hl ho hf2 hh
    go_enter Try.func9, Try.ntmps9
    go_wp2_with (first
      | (go_at_call 33; refine (file_any s _ Hs2.out).mono ?_; rintro e w1 ⟨rfl, hb1⟩; rw [Hf.out])
      | (go_at_call 34; refine (there_any s hs (H.out.below hb1)).mono ?_; rintro e w2 ⟨rfl, hb2⟩; rw [Hh.out])
      | (go_at_call 35; refine (fits_any s k hs hk HO.out ((H.out.below hb1).below hb2)).mono ?_; rintro e w3 ⟨rfl, hb3⟩; rw [Hf2.out]))
    go_ret2
    have hb4 := hb1.trans (hb2.mono hb1.size)
    have hb5 := hb4.trans (hb3.mono hb4.size)
    exact ⟨by rw [Hp.out]; rfl, by rw [Hp.out]; exact ⟨⟨_, _, Nat.le_succ _, H.out.below hb5, fun _ _ h => h⟩, Only.of_below hb5 _⟩⟩
  · have Hp := Lib.hid (show S.makeF s l = ((S.last + 1, 0), S.write s l) by simp [Fs.makeF, hf, hh, hl, hf2])
    have Hf2 := Lib.hid hf2
    have Hl := Lib.hid hl
    clear h hb hf hl ho hf2 hh
    go_enter Try.func9, Try.ntmps9
    go_wp2_with (first
      | (go_at_call 33; refine (file_any s _ Hs2.out).mono ?_; rintro e w1 ⟨rfl, hb1⟩; rw [Hf.out])
      | (go_at_call 34; refine (there_any s hs (H.out.below hb1)).mono ?_; rintro e w2 ⟨rfl, hb2⟩; rw [Hh.out])
      | (go_at_call 35; refine (fits_any s k hs hk HO.out ((H.out.below hb1).below hb2)).mono ?_; rintro e w3 ⟨rfl, hb3⟩; rw [Hf2.out])
      | (go_at_call 37; refine (clone_any A k c l _ (((HB.out.below hb1).below hb2).below hb3)).mono ?_; rintro e w4 ⟨B, m, bc, rfl, hm, hown, hnone, hbel⟩))
    have hb4 := hb1.trans (hb2.mono hb1.size)
    have hb5 := hb4.trans (hb3.mono hb4.size)
    have hb6 := hb5.trans (hbel.mono hb5.size)
    have hlm : k = m := Hl.out.symm.trans hm.out
    subst hlm
    refine (write_any s l B k bc hs hk hn HO.out (H.out.below hb6) (own_bs hown HB.out.by_ (by omega)) hown.cap (U8.of_own hown)).mono ?_
    rintro e w5 ⟨rfl, ⟨D', h4, f4⟩, hon4⟩
    have F4 := Lib.hid (fun g (hg : g < w.heap.size) (hf : Free S D g) => f4 g hf (own_ne hown (Nat.lt_of_lt_of_le hg hb5.size)))
    have H4 := Lib.hid h4
    have Hon := Lib.hid ((Only.of_below hb6 [fb, mb]).trans hon4)
    clear h4 f4 hon4 hown hbel hb1 hb2 hb3 hb4 hb5 hb6
    go_wp2_with fail
    go_ret2
    exact ⟨by rw [Hp.out]; rfl, by rw [Hp.out]; exact ⟨⟨_, _, Nat.le_refl _, H4.out, F4.out⟩, Hon.out⟩⟩

theorem keepR {W w' : World} {g : Nat} {t : TypeId} {v0 v1 : Value} (h : Blk W g t [v0, v1]) (hb : Below W.heap.size W w') : w'.cell? ⟨g, 0, none⟩ = some v0 ∧ w'.cell? ⟨g, 1, none⟩ = some v1 ∧ Below W.heap.size W w' :=
  ⟨(hb.cell (p := ⟨g, 0, none⟩) h.lt).trans (h.cell 0), (hb.cell (p := ⟨g, 1, none⟩) h.lt).trans (h.cell 1), hb⟩
/-- What Read answers: the error's number, the bytes, the stamp. -/
def Fs.readF (S : Fs) (s : ByteArray) : Int × List Int × Int := if fileB s = false then (1, [], 0) else if S.has s = false then (4, [], 0) else (0, S.by s, S.st s)
set_option maxRecDepth 100000 in
set_option maxHeartbeats 2000000 in
theorem fread_any {w : World} {fb mb n : Nat} {S : Fs} {D : DataW Value} (s : ByteArray) (hs0 : s.size ≤ 140737488355328) (h : FSAt w fb S mb n D) :
    Calls Try.prog 23 #[.pointer (some ⟨fb, 0, none⟩), .string s] w fun e w' => ∃ A k c, e = .returned (.tuple #[.slice A k c, .int .i64 (S.readF s).2.2, .int .i64 (S.readF s).1]) ∧ (S.readF s).2.1.length = k ∧ Own w' w.heap.size 5 1 A k c (ints .u8 (S.readF s).2.1) ∧ Below w.heap.size w w' := by
  have Hs2 := Lib.hid hs0
  have hs : s.size ≤ maxLen := Nat.le_trans hs0 lt_max
  clear hs0
  obtain ⟨A, k, c, hrun, hbs, hkc, _⟩ := h.look_ok s hs
  have c5 : w.cell? ⟨fb, 5, none⟩ = some (.map (some mb)) := h.blk.cell 5
  have HB := Lib.hid hbs
  unfold fileV at hrun
  clear h hbs
  cases hf : fileB s
  · have Hp := Lib.hid (show S.readF s = (1, [], 0) by simp [Fs.readF, hf])
    have Hf := Lib.hid hf
    clear hf
    go_enter Try.func23, Try.ntmps23
    go_wp2_with (go_at_call 33; refine (file_any s _ Hs2.out).mono ?_; rintro e w1 ⟨rfl, hb1⟩; rw [Hf.out])
    go_ret3
    exact ⟨none, 0, 0, by rw [Hp.out]; rfl, by rw [Hp.out]; rfl, by rw [Hp.out]; exact Own.nil _ _ _ _, bl_then (bl_alloc (Below.refl _ _)) hb1⟩
  have Hf := Lib.hid hf
  cases hh : S.has s
  · have Hp := Lib.hid (show S.readF s = (4, [], 0) by simp [Fs.readF, hf, hh])
    rw [hh] at hrun
    clear hf hh
    go_enter Try.func23, Try.ntmps23
    go_wp2_with (go_at_call 33; refine (file_any s _ Hs2.out).mono ?_; rintro e w1 ⟨rfl, hb1⟩; rw [Hf.out])
    go_ret3
    exact ⟨none, 0, 0, by rw [Hp.out]; rfl, by rw [Hp.out]; rfl, by rw [Hp.out]; exact Own.nil _ _ _ _, bl_then (bl_alloc (Below.refl _ _)) hb1⟩
  · have Hp := Lib.hid (show S.readF s = (0, S.by s, S.st s) by simp [Fs.readF, hf, hh])
    rw [hh] at hrun
    clear hf hh
    go_enter Try.func23, Try.ntmps23
    go_wp2_with (go_at_call 33; refine (file_any s _ Hs2.out).mono ?_; rintro e w1 ⟨rfl, hb1⟩; rw [Hf.out])
    refine at_world (fun W => Blk W w.heap.size 66 [.slice A k c, .int .i64 (S.st s)] ∧ Bs W A k (S.by s) ∧ Below w.heap.size w W) ⟨(Blk.new w _ [.slice A k c, .int .i64 (S.st s)]).below hb1, (HB.out.alloc _).below hb1, bl_then (bl_alloc (Below.refl _ _)) hb1⟩ ?_
    rintro W ⟨hk2, hB, hbW⟩
    obtain ⟨g, hg⟩ : ∃ y, y = w.heap.size := ⟨_, rfl⟩
    rw [← hg] at hk2 ⊢
    have Hk := Lib.hid hk2
    have HB2 := Lib.hid hB
    have HbW := Lib.hid hbW
    have q0 : W.cell? ⟨g, 0, none⟩ = some (.slice A k c) := hk2.cell 0
    have q1 : W.cell? ⟨g, 1, none⟩ = some (.int .i64 (S.st s)) := hk2.cell 1
    have Hgw := Lib.hid hg
    obtain ⟨stv, hstv⟩ : ∃ y, y = S.st s := ⟨_, rfl⟩
    rw [← hstv] at Hk Hp q1 ⊢
    clear hk2 hB hbW hb1 hrun hg hstv
    go_region_held3 (fun w' => w'.cell? ⟨g, 0, none⟩ = some (.slice A k c) ∧ w'.cell? ⟨g, 1, none⟩ = some (.int .i64 stv) ∧ Below W.heap.size W w') (first | exact keepR Hk.out (by (repeat (first | assumption | exact Below.refl _ _ | (with_reducible apply Below.drew) | (with_reducible apply bl_drewN) | (with_reducible apply bl_alloc) | (with_reducible refine bl_then ?_ (by assumption))))) | skip)
      (first | (go_at_call 37; refine (clone_any A k c (S.by s) _ HB2.out.drew).mono ?_; rintro e w4 ⟨B, m, bc, rfl, hm, hown, hnone, hbel⟩))
    all_goals
      rename_i hh
      have Hb4 := Lib.hid (HbW.out.trans (hh.2.2.mono HbW.out.size))
      have Hown := Lib.hid (hown.more (show w.heap.size ≤ W.drew.heap.size from HbW.out.size))
      have Hm := Lib.hid hm.out
      clear hown hbel hh hm
      go_wp2_with fail
      go_ret3
      exact ⟨B, m, bc, by rw [Hp.out]; rfl, by rw [Hp.out]; exact Hm.out, by rw [Hp.out]; exact Hown.out, Hb4.out⟩
end Go.Proofs.Ytkbgedaogfcdnaa
