/- The files: bounds that hold along many calls. The files: Append. -/
import Derived.Test.YtkbgedaogfcdnaaFs7
import Derived.Test.YtkbgedaogfcdnaaConcat
namespace Go.Proofs.Ytkbgedaogfcdnaa
set_option linter.unusedSimpArgs false
set_option linter.unusedVariables false
open Go.RowKit
open Crc (Bytes)

/-- How many bytes an append lets in, its error, and the files by then. -/
def Fs.mid (S : Fs) (k : Nat) : (Int × Int) × Fs :=
  if S.cuts = true then ((min S.cut (k : Int), 7), { S with cuts := false }) else if S.room < S.used + (k : Int) ∧ 0 < k then ((max (S.room - S.used) 0, 2), S) else (((k : Int), 0), S)
/-- Append's answer and what it leaves. -/
def Fs.appF (S : Fs) (s : ByteArray) (l : List Int) (gs : List (ByteArray × Int)) : (Int × Int) × Fs :=
  if fileB s = false then ((0, 1), S) else if S.bad gs = true then ((0, 5), S)
  else if (S.mid l.length).1.2 ≠ 0 ∧ (S.mid l.length).1.1 = 0 then ((0, (S.mid l.length).1.2), (S.mid l.length).2)
  else ((if (S.mid l.length).1.2 = 0 then S.last + 1 else 0, (S.mid l.length).1.2), (S.mid l.length).2.write s (S.by s ++ l.take (S.mid l.length).1.1.toNat))
theorem Fs.mid_fs (S : Fs) (k : Nat) : (S.mid k).2 = S ∨ (S.mid k).2 = { S with cuts := false } := by
  unfold Fs.mid; split
  · exact .inr rfl
  · split <;> exact .inl rfl
theorem Fs.mid_last (S : Fs) (k : Nat) : (S.mid k).2.last = S.last := by rcases S.mid_fs k with e | e <;> rw [e]
theorem Fs.mid_by (S : Fs) (k : Nat) (s : ByteArray) : (S.mid k).2.by s = S.by s := by rcases S.mid_fs k with e | e <;> rw [e]; rfl
theorem Fs.mid_bd (S : Fs) (k : Nat) (h : 0 ≤ S.cut) : 0 ≤ (S.mid k).1.1 ∧ (S.mid k).1.1 ≤ k := by
  unfold Fs.mid; split
  · exact ⟨by show 0 ≤ min S.cut (k : Int); omega, by show min S.cut (k : Int) ≤ k; omega⟩
  · split
    · exact ⟨by show 0 ≤ max (S.room - S.used) 0; omega, by show max (S.room - S.used) 0 ≤ k; omega⟩
    · exact ⟨Int.natCast_nonneg _, Int.le_refl _⟩

/-- Bounds: what is used within V, each file's length within B, the last stamp within T. -/
structure Fs.fin (S : Fs) (V B T : Int) : Prop where
  u0 : -V ≤ S.used
  u1 : S.used ≤ V
  r0 : 0 ≤ S.room
  r1 : S.room ≤ 1073741824
  l0 : 0 ≤ S.last
  l1 : S.last ≤ T
  by1 : ∀ s, ((S.by s).length : Int) ≤ B
  c0 : 0 ≤ S.cut
section
variable {S : Fs} {V B T V' B' T' K : Int}
theorem Fs.fin.b0 (h : S.fin V B T) : 0 ≤ B := Int.le_trans (Int.natCast_nonneg _) (h.by1 ⟨#[]⟩)
theorem Fs.fin.ok (h : S.fin V B T) {U : Int} (h1 : V ≤ U) (h2 : B ≤ U) (h3 : T ≤ U) (h4 : U ≤ 70368744177664) : S.ok U := by
  have a := h.u0; have b := h.u1; have c := h.l1
  exact ⟨by omega, by omega, h.r0, h.r1, h.l0, by omega, h4, fun s => by have := h.by1 s; omega⟩
theorem Fs.fin.more (h : S.fin V B T) (h1 : V ≤ V') (h2 : B ≤ B') (h3 : T ≤ T') : S.fin V' B' T' := by
  have a := h.u0; have b := h.u1; have c := h.l1
  exact ⟨by omega, by omega, h.r0, h.r1, h.l0, by omega, fun s => by have := h.by1 s; omega, h.c0⟩
theorem Fs.fin.write (h : S.fin V B T) (s : ByteArray) (l : List Int) (hl : (l.length : Int) ≤ B') (hB : B ≤ B') (hV : V + B' ≤ V') (hT : T + 1 ≤ T') : (S.write s l).fin V' B' T' := by
  have a := h.u0; have b := h.u1; have c := h.l1; have d := h.l0; have e := h.by1 s
  refine ⟨?_, ?_, h.r0, h.r1, ?_, ?_, fun t => ?_, h.c0⟩
  · show -V' ≤ S.used + ((l.length : Int) - ((S.by s).length : Int)); omega
  · show S.used + ((l.length : Int) - ((S.by s).length : Int)) ≤ V'; omega
  · show 0 ≤ S.last + 1; omega
  · show S.last + 1 ≤ T'; omega
  · have h7 := h.by1 t
    unfold Fs.by Fs.write Fs.put at *
    simp only
    split
    · have := h.b0; simp; omega
    · rename_i x hx
      split at hx
      · cases hx; exact hl
      · rw [hx] at h7
        simp only at h7
        omega
theorem Fs.fin.gone (h : S.fin V B T) (s : ByteArray) (hV : V + B ≤ V') : (S.gone s).fin V' B T := by
  have a := h.u0; have b := h.u1; have e := h.by1 s
  refine ⟨?_, ?_, h.r0, h.r1, h.l0, h.l1, fun t => ?_, h.c0⟩
  · show -V' ≤ S.used - ((S.by s).length : Int); omega
  · show S.used - ((S.by s).length : Int) ≤ V'; omega
  · have h7 := h.by1 t
    unfold Fs.by Fs.gone Fs.rm at *
    simp only
    split
    · have := h.b0; simp; omega
    · rename_i x hx
      split at hx
      · cases hx
      · rw [hx] at h7
        simp only at h7
        omega
theorem Fs.fin.uncut (h : S.fin V B T) : ({ S with cuts := false } : Fs).fin V B T := ⟨h.u0, h.u1, h.r0, h.r1, h.l0, h.l1, h.by1, h.c0⟩
theorem Fs.fin.putF (h : S.fin V B T) (s : ByteArray) (l : List Int) (hl : (l.length : Int) ≤ B') (hB : B ≤ B') (hV : V + B' ≤ V') (hT : T + 1 ≤ T') : (S.putF s l).2.fin V' B' T' := by
  have := h.b0
  unfold Fs.putF
  split
  · exact h.more (by omega) hB (by omega)
  split
  · exact h.more (by omega) hB (by omega)
  · exact h.write s l hl hB hV hT
theorem Fs.fin.makeF (h : S.fin V B T) (s : ByteArray) (l : List Int) (hl : (l.length : Int) ≤ B') (hB : B ≤ B') (hV : V + B' ≤ V') (hT : T + 1 ≤ T') : (S.makeF s l).2.fin V' B' T' := by
  have := h.b0
  unfold Fs.makeF
  split
  · exact h.more (by omega) hB (by omega)
  split
  · exact h.more (by omega) hB (by omega)
  split
  · exact h.more (by omega) hB (by omega)
  · exact h.write s l hl hB hV hT
theorem Fs.fin.mid (h : S.fin V B T) (k : Nat) : (S.mid k).2.fin V B T := by
  rcases S.mid_fs k with e | e <;> rw [e]
  · exact h
  · exact h.uncut
theorem Fs.fin.appF (h : S.fin V B T) (s : ByteArray) (l : List Int) (gs : List (ByteArray × Int)) (hB : B + l.length ≤ B') (hV : V + B' ≤ V') (hT : T + 1 ≤ T') : (S.appF s l gs).2.fin V' B' T' := by
  have := h.b0
  have hb := h.by1 s
  have h1 : B ≤ B' := by omega
  have hw : ∀ k, ((S.by s ++ l.take k).length : Int) ≤ B' := fun k => by
    have : (l.take k).length ≤ l.length := List.length_take_le' _ _
    rw [List.length_append]; omega
  unfold Fs.appF
  split
  · exact h.more (by omega) h1 (by omega)
  split
  · exact h.more (by omega) h1 (by omega)
  split
  · exact (h.mid _).more (by omega) h1 (by omega)
  · exact (h.mid _).write s _ (hw _) h1 hV hT
theorem Fs.fin.dropF (h : S.fin V B T) (s : ByteArray) (gs : List (ByteArray × Int)) (hV : V + B ≤ V') : (S.dropF s gs).2.fin V' B T := by
  have := h.b0
  unfold Fs.dropF
  split
  · exact h.more (by omega) (by omega) (by omega)
  split
  · exact h.more (by omega) (by omega) (by omega)
  split
  · exact h.more (by omega) (by omega) (by omega)
  · exact h.gone s hV
theorem Fs.fin.moveF (h : S.fin V B T) (a b : ByteArray) (gs : List (ByteArray × Int)) (hV : V + B + B ≤ V') (hT : T + 1 ≤ T') : (S.moveF a b gs).2.fin V' B T' := by
  have := h.b0
  unfold Fs.moveF
  split
  · exact h.more (by omega) (by omega) (by omega)
  split
  · exact h.more (by omega) (by omega) (by omega)
  split
  · exact h.more (by omega) (by omega) (by omega)
  · exact (h.gone a (Int.le_refl _)).write b _ (h.by1 a) (Int.le_refl _) hV hT
theorem Fs.fin.cutF (h : S.fin V B T) (k : Int) : ({ S with cuts := true, cut := max k 0 } : Fs).fin V B T := ⟨h.u0, h.u1, h.r0, h.r1, h.l0, h.l1, h.by1, by show 0 ≤ max k 0; omega⟩
theorem Fs.fin.roomF (h : S.fin V B T) (k : Int) (h0 : 0 ≤ k) (h1 : k ≤ 1073741824) : ({ S with room := k } : Fs).fin V B T := ⟨h.u0, h.u1, h0, h1, h.l0, h.l1, h.by1, h.c0⟩
end
end Go.Proofs.Ytkbgedaogfcdnaa
namespace Go.Proofs.Ytkbgedaogfcdnaa
set_option linter.unusedSimpArgs false
set_option linter.unusedVariables false
open Go.RowKit
open Crc (Bytes)

theorem addr_zero (A : Option Addr) : A.map (·.add 0) = A := by
  cases A with
  | none => rfl
  | some a => obtain ⟨b, o, p⟩ := a; unfold Addr.add; cases p <;> rfl
theorem slice_upto {P : Program} {t e : TypeId} {size : Nat} (ht : P.underlying t = some (.slice e)) (hs : (P.info? e).map (·.size) = some size) {A : Option Addr} {n c k : Nat} {kk : IntKind} (hk : k ≤ n) (hc : n ≤ c) (w : World) :
    (Instr.slice t (.slice A n c) none (some (.int kk (k : Int))) none).run P w = .ok (.slice A k c) w := by
  obtain ⟨i, hi, hsi⟩ := Option.map_eq_some_iff.1 hs
  have h1 : (0 : Int) ≤ (k : Int) := by omega
  have h2 : (k : Int) ≤ (c : Int) := by omega
  have e1 := addr_zero A
  simp [Instr.slice, run_underlying ht, Instr.sliceBounds, Instr.sliceBound, asIntOf, sizeOf, typeInfo, hi, hsi, h1, h2]
  rw [e1, if_pos (by omega)]
  simp
theorem rws_two {w : World} {t : TypeId} {B A : Option Addr} {m d n c g : Nat} {lb la : List Int} (hg : g = w.heap.size) (hb : Bs w B m lb) (ha : Bs w A n la) :
    Rws (w.alloc (.cells #[.slice B m d, .slice A n c] t)) g 2 [(B, m, d, lb), (A, n, c, la)] := by
  subst hg
  refine ⟨rfl, fun j hj => ?_, fun j hj => ?_, by omega⟩
  · rw [cell_alloc]
    have : j < 2 := hj
    rcases (show j = 0 ∨ j = 1 by omega) with rfl | rfl <;> rfl
  · have : j < 2 := hj
    rcases (show j = 0 ∨ j = 1 by omega) with rfl | rfl
    · exact hb.alloc _
    · exact ha.alloc _
theorem allOf_two (B A : Option Addr) (m d n c : Nat) (lb la : List Int) : allOf [(B, m, d, lb), (A, n, c, la)] = lb ++ la := by simp [allOf]
theorem Fs.ok.mid {S : Fs} {U : Int} (h : S.ok U) (k : Nat) : (S.mid k).2.ok U := by
  rcases S.mid_fs k with e | e <;> rw [e]
  · exact h
  · exact ⟨h.u0, h.u1, h.r0, h.r1, h.l0, h.l1, h.U1, h.by1⟩
set_option maxRecDepth 100000 in
set_option maxHeartbeats 4000000 in
theorem append_any {w : World} {fb mb n : Nat} {S : Fs} {D : DataW Value} {U : Int} (s : ByteArray) (l : List Int) (gs : List (ByteArray × Int)) (A : Option Addr) (k c : Nat) (Ag : Option Addr) (kg cg : Nat) (hs0 : s.size ≤ 140737488355328) (hkc : k ≤ c) (hU : U + k ≤ 70368744177664) (hn : n < maxLen) (ho : S.ok U) (hcut : 0 ≤ S.cut) (h : FSAt w fb S mb n D) (hb : Bs w A k l) (hu : ∀ ad, A = some ad → 0 < k → ad.block ≠ fb) (hg : Grd w Ag kg gs) :
    Calls Try.prog 13 #[.pointer (some ⟨fb, 0, none⟩), .string s, .slice A k c, .slice Ag kg cg] w fun e w' => e = .returned (.tuple #[.int .i64 (S.appF s l gs).1.1, .int .i64 (S.appF s l gs).1.2]) ∧ FsDone w fb mb n S D (S.appF s l gs).2 w' := by
  have H := Lib.hid h
  have HB := Lib.hid hb
  have HU := Lib.hid hu
  have HG := Lib.hid hg
  have HO := Lib.hid ho
  have Hcut := Lib.hid hcut
  have Hs2 := Lib.hid hs0
  have hs : s.size ≤ maxLen := Nat.le_trans hs0 lt_max
  have Hl := Lib.hid hb.len
  clear hs0 h hg ho hb hcut hu
  by_cases h1 : fileB s = false
  · have Hp := Lib.hid (show S.appF s l gs = ((0, 1), S) by simp [Fs.appF, h1])
    have H1 := Lib.hid h1
    clear h1
    go_enter Try.func13, Try.ntmps13
    go_wp2_with (go_at_call 33; refine (file_any s _ Hs2.out).mono ?_; rintro e w1 ⟨rfl, e1⟩; rw [H1.out])
    go_ret2
    exact ⟨by rw [Hp.out]; rfl, by rw [Hp.out]; exact ⟨⟨_, _, Nat.le_succ _, H.out.below e1, fun _ _ h => h⟩, Only.of_below e1 _⟩⟩
  have H1 := Lib.hid (show fileB s = true by simpa using h1)
  cases h2 : S.bad gs
  rotate_left
  · have Hp := Lib.hid (show S.appF s l gs = ((0, 5), S) by simp [Fs.appF, h1, h2])
    have H2 := Lib.hid (show (gs.any fun x => S.off x.1 x.2) = true from h2)
    clear h1 h2
    go_enter Try.func13, Try.ntmps13
    go_wp2_with (first | (go_at_call 33; with_reducible refine (file_any s _ Hs2.out).mono ?_; rintro e w1 ⟨rfl, e1⟩; rw [H1.out]) | (go_at_call 41; refine (guards_any gs Ag kg cg (H.out.below e1) (HG.out.below e1)).mono ?_; rintro e w3 ⟨rfl, e3⟩; rw [H2.out]))
    go_ret2
    have e4 := e1.trans (e3.mono e1.size)
    exact ⟨by rw [Hp.out]; rfl, by rw [Hp.out]; exact ⟨⟨_, _, Nat.le_succ _, H.out.below e4, fun _ _ h => h⟩, Only.of_below e4 _⟩⟩
  have H2 := Lib.hid (show (gs.any fun x => S.off x.1 x.2) = false from h2)
  have Hp := Lib.hid (show S.appF s l gs = if (S.mid k).1.2 ≠ 0 ∧ (S.mid k).1.1 = 0 then ((0, (S.mid k).1.2), (S.mid k).2)
    else ((if (S.mid k).1.2 = 0 then S.last + 1 else 0, (S.mid k).1.2), (S.mid k).2.write s (S.by s ++ l.take (S.mid k).1.1.toNat)) by simp only [Fs.appF, h1, h2, Hl.out]; rfl)
  clear h1 h2
  go_enter Try.func13, Try.ntmps13
  go_upto_block 1 with (first | (go_at_call 33; with_reducible refine (file_any s _ Hs2.out).mono ?_; rintro e w1 ⟨rfl, e1⟩; rw [H1.out]) | (go_at_call 41; refine (guards_any gs Ag kg cg (H.out.below e1) (HG.out.below e1)).mono ?_; rintro e w3 ⟨rfl, e3⟩; rw [H2.out]))
  have e4 := e1.trans (e3.mono e1.size)
  have H3 := Lib.hid (H.out.below e4)
  have HB3 := Lib.hid (HB.out.below e4)
  have HU3 := HU
  have E4 := Lib.hid e4
  clear e1 e3 e4
  go_cut [10, 11] (fun s10 s11 wx => ∃ n1 : Nat, s10 = .int .i64 n1 ∧ s11 = .int .i64 (S.mid k).1.2 ∧ (n1 : Int) = (S.mid k).1.1 ∧ FSAt wx fb (S.mid k).2 mb n D ∧ Only [fb, mb] w wx ∧ Bs wx A k l)
  case first =>
    have c3 : w3.cell? ⟨fb, 3, none⟩ = some (.bool S.cuts) := H3.out.blk.cell 3
    have c4 : w3.cell? ⟨fb, 4, none⟩ = some (.int .i64 S.cut) := H3.out.blk.cell 4
    have c0 : w3.cell? ⟨fb, 0, none⟩ = some (.int .i64 S.room) := H3.out.blk.cell 0
    have c1 : w3.cell? ⟨fb, 1, none⟩ = some (.int .i64 S.used) := H3.out.blk.cell 1
    have z3 := H3.out.blk.frozen 3
    have o1 := HO.out.u0
    have o2 := HO.out.u1
    have o3 := HO.out.U1
    have o4 := HO.out.r0
    have o5 := HO.out.r1
    have oc := Hcut.out
    cases hc : S.cuts
    · have hm : S.mid k = if S.room < S.used + (k : Int) ∧ 0 < k then ((max (S.room - S.used) 0, 2), S) else (((k : Int), 0), S) := by simp [Fs.mid, hc]
      have Hm := Lib.hid hm
      rw [hc] at c3
      obtain ⟨us, hus⟩ : ∃ v : Int, S.used = v := ⟨_, rfl⟩
      obtain ⟨ro, hro⟩ : ∃ v : Int, S.room = v := ⟨_, rfl⟩
      rw [hus, hro] at Hm
      rw [hus] at o1 o2 c1
      rw [hro] at o4 o5 c0
      have hw : IntKind.i64.wrap (us + (k : Int)) = us + (k : Int) := by rw [IntKind.wrap_i64]; omega
      have hw2 : IntKind.i64.wrap (ro - us) = ro - us := by rw [IntKind.wrap_i64]; omega
      have HD := Lib.hid (show Only [fb, mb] w w3 from Only.of_below E4.out _)
      clear hm hus hro hc z3 oc
      by_cases hb1 : ro < us + (k : Int)
      · by_cases hk0 : 0 < k
        · have Hm2 := Lib.hid (Hm.out.trans (if_pos ⟨hb1, hk0⟩))
          clear Hm
          obtain ⟨v, hv⟩ : ∃ v : Int, ro - us = v := ⟨_, rfl⟩
          have hvk : v < (k : Int) := by omega
          rw [hv] at hw2 Hm2
          by_cases hv0 : 0 ≤ v
          · have hmx : max v 0 = v := by omega
            go_wp2_with fail
            go_quiet (fail)
            go_wp2
            go_region
            go_wp2_with fail
            go_meet
            exact ⟨v.toNat, by rw [Int.toNat_of_nonneg hv0], by rw [Hm2.out], by rw [Hm2.out, Int.toNat_of_nonneg hv0]; exact hmx.symm, by rw [Hm2.out]; exact H3.out.drewN, HD.out.drewN _, HB3.out.drewN _⟩
          · have hmx : max v 0 = 0 := by omega
            go_wp2_with fail
            go_quiet (fail)
            go_wp2
            go_region
            go_wp2_with fail
            go_meet
            exact ⟨0, rfl, by rw [Hm2.out], by rw [Hm2.out]; exact hmx.symm, by rw [Hm2.out]; exact H3.out.drewN, HD.out.drewN _, HB3.out.drewN _⟩
        · have Hm2 := Lib.hid (Hm.out.trans (if_neg fun h => hk0 h.2))
          clear Hm
          go_wp2_with fail
          go_quiet (fail)
          go_wp2
          go_meet
          exact ⟨k, rfl, by rw [Hm2.out], by rw [Hm2.out], by rw [Hm2.out]; exact H3.out.drewN, HD.out.drewN _, HB3.out.drewN _⟩
      · have Hm2 := Lib.hid (Hm.out.trans (if_neg fun h => hb1 h.1))
        clear Hm
        have hd : decide (ro < us + (k : Int)) = false := decide_eq_false hb1
        go_wp2_with fail
        go_quiet (fail)
        go_wp2
        go_meet
        exact ⟨k, rfl, by rw [Hm2.out], by rw [Hm2.out], by rw [Hm2.out]; exact H3.out.drewN, HD.out.drewN _, HB3.out.drewN _⟩
    · have hm : S.mid k = ((min S.cut (k : Int), 7), { S with cuts := false }) := by simp [Fs.mid, hc]
      have H4 := Lib.hid (H3.out.set (S' := { S with cuts := false }) 3 (.bool false) rfl rfl)
      have Hb4 := Lib.hid (show Bs (w3.setCell ⟨fb, 3, none⟩ (.bool false)) A k l from ⟨HB3.out.rd.setCell HU3.out _, HB3.out.by_, HB3.out.le⟩)
      rw [hc] at c3
      have Hm := Lib.hid hm
      clear hm c0 c1 hc
      have Hon := Lib.hid ((Only.of_below E4.out [fb, mb]).setCell (p := ⟨fb, 3, none⟩) (.inl (by simp)) (.bool false))
      by_cases hck : S.cut ≤ (k : Int)
      · have hmn : min S.cut (k : Int) = S.cut := by omega
        rw [hmn] at Hm
        obtain ⟨q, hq⟩ : ∃ q : Nat, S.cut = (q : Int) := ⟨S.cut.toNat, by omega⟩
        rw [hq] at c4 hck Hm H4
        clear hmn oc
        go_wp2_with fail
        go_meet
        exact ⟨q, rfl, by rw [Hm.out], by rw [Hm.out], by rw [Hm.out]; exact H4.out, Hon.out, Hb4.out⟩
      · have hmn : min S.cut (k : Int) = k := by omega
        rw [hmn] at Hm
        clear hmn
        go_wp2_with fail
        go_meet
        exact ⟨k, rfl, by rw [Hm.out], by rw [Hm.out], by rw [Hm.out]; exact H4.out, Hon.out, Hb4.out⟩
  case rest =>
    obtain ⟨W, rfl⟩ : ∃ y : World, y = wc := ⟨_, rfl⟩
    obtain ⟨n1, rfl, rfl, hn1, hF, hon, hbw⟩ := hcut
    obtain ⟨e1, he1⟩ : ∃ v : Int, (S.mid k).1.2 = v := ⟨_, rfl⟩
    obtain ⟨S1, hS1⟩ : ∃ v : Fs, (S.mid k).2 = v := ⟨_, rfl⟩
    have hby := S.mid_by k s
    have hla := S.mid_last k
    have hok := HO.out.mid k
    have hbd := (S.mid_bd k Hcut.out).2
    rw [← hn1] at Hp hbd
    rw [he1] at Hp ⊢
    have hSm : ∀ g, Free S D g → Free S1 D g := fun g h => by rw [← hS1]; rcases S.mid_fs k with e | e <;> rw [e] <;> exact h
    have HSm := Lib.hid hSm
    rw [hS1] at Hp hF hby hla hok
    have hn1k : n1 ≤ k := by omega
    have Hby := Lib.hid hby
    have Hla := Lib.hid hla
    have Hok := Lib.hid hok
    have HF := Lib.hid hF
    have Hon := Lib.hid hon
    have Hbw := Lib.hid hbw
    clear hSm hn1 he1 hS1 hF hon hbw hbd hby hla hok H3 HB3 E4 HU3
    by_cases he0 : e1 = 0
    · have Hp2 := Lib.hid (Hp.out.trans (if_neg fun h => h.1 he0))
      go_upto_region 12 with fail
      obtain ⟨X1, hX1⟩ : ∃ y, y = S1.write s (S.by s ++ l.take n1) := ⟨_, rfl⟩
      (obtain ⟨B, m, d, hrun, hbs, hmd, hu1⟩ := HF.out.drew.look s hs; have Hbs := Lib.hid hbs; unfold fileV at hrun; clear hbs hu1; have f0 := fieldB; have q5 : W.drew.cell? ⟨fb, 5, none⟩ = some (.map (some mb)) := HF.out.drew.blk.cell 5; have hsl := fun w => slice_upto (P := Try.prog) (A := A) (kk := .i64) Try.underlying30 (show (Try.prog.info? 5).map (·.size) = some 1 by rfl) hn1k hkc w; have hmU := HO.out.by1 s; have hmby := Hbs.out.len; rw [Hby.out] at hmby; have hlk := Hbw.out.len; have hU1 := HO.out.U1; have hal := Lib.hid (allOf_two B A m d n1 c (S.by s) (l.take n1)); have htl : (l.take n1).length = n1 := (by rw [List.length_take]; omega)); (refine wp_region_held_drew (S := fun _ => True) (by kernel_rfl) (trivial) (fun hHeld => ?_)); (refine wpAnyH_take (i := 0) (oi := _) (v := ?_) (ops_at rfl) (by kernel_rfl) (by kernel_rfl) (by kernel_rfl) (fun _ _ _ h => h) (Or.inl ⟨by rfl, ?_⟩) (by assumption) ?_; rotate_left; (focus (intro w hSw; (try dsimp only at hSw); go_simp; (try with_reducible rfl))); (try simp only [Act.put, List.setIfInBounds_toArray, List.set_cons_zero, List.set_cons_succ])); (refine wpAnyH_take (i := 1) (oi := _) (v := ?_) (ops_at rfl) (by kernel_rfl) (by kernel_rfl) (by kernel_rfl) (fun _ _ _ h => h) (Or.inl ⟨by rfl, ?_⟩) (by assumption) ?_; rotate_left; (focus (intro w hSw; (try dsimp only at hSw); go_simp; (try with_reducible rfl))); (try simp only [Act.put, List.setIfInBounds_toArray, List.set_cons_zero, List.set_cons_succ])); (refine wpAnyH_take (i := 2) (oi := _) (v := ?_) (ops_at rfl) (by kernel_rfl) (by kernel_rfl) (by kernel_rfl) (fun _ _ _ h => h) (Or.inl ⟨by rfl, ?_⟩) (by assumption) ?_; rotate_left; (focus (intro w hSw; (try dsimp only at hSw); go_simp; (try with_reducible rfl))); (try simp only [Act.put, List.setIfInBounds_toArray, List.set_cons_zero, List.set_cons_succ])); (refine wpAnyH_take (i := 3) (oi := _) (v := ?_) (ops_at rfl) (by kernel_rfl) (by kernel_rfl) (by kernel_rfl) (fun _ _ _ h => h) (Or.inl ⟨by rfl, ?_⟩) (by assumption) ?_; rotate_left; (focus (intro w hSw; (try dsimp only at hSw); go_simp; (try with_reducible rfl))); (try simp only [Act.put, List.setIfInBounds_toArray, List.set_cons_zero, List.set_cons_succ])); (refine wpAnyH_take (i := 4) (oi := _) (v := ?_) (ops_at rfl) (by kernel_rfl) (by kernel_rfl) (by kernel_rfl) (fun _ _ _ h => h) (Or.inl ⟨by rfl, ?_⟩) (by assumption) ?_; rotate_left; (focus (intro w hSw; (try dsimp only at hSw); go_simp; (try with_reducible rfl))); (try simp only [Act.put, List.setIfInBounds_toArray, List.set_cons_zero, List.set_cons_succ])); (refine wpAnyH_take (i := 6) (oi := _) (v := ?_) (ops_at rfl) (by kernel_rfl) (by kernel_rfl) (by kernel_rfl) (fun _ _ _ h => h) (Or.inl ⟨by rfl, ?_⟩) (by assumption) ?_; rotate_left; (focus (intro w hSw; (try dsimp only at hSw); go_simp; (try with_reducible rfl))); (try simp only [Act.put, List.setIfInBounds_toArray, List.set_cons_zero, List.set_cons_succ])); (refine wpAnyH_take (i := 9) (oi := _) (v := ?_) (ops_at rfl) (by kernel_rfl) (by kernel_rfl) (by kernel_rfl) (fun _ _ _ h => h) (Or.inl ⟨by rfl, ?_⟩) (by assumption) ?_; rotate_left; (focus (intro w hSw; (try dsimp only at hSw); go_simp; (try with_reducible rfl))); (try simp only [Act.put, List.setIfInBounds_toArray, List.set_cons_zero, List.set_cons_succ])); (refine wpAnyH_take (i := 10) (oi := _) (v := ?_) (ops_at rfl) (by kernel_rfl) (by kernel_rfl) (by kernel_rfl) (fun _ _ _ h => h) (Or.inl ⟨by rfl, ?_⟩) (by assumption) ?_; rotate_left; (focus (intro w hSw; (try dsimp only at hSw); go_simp; (try with_reducible rfl))); (try simp only [Act.put, List.setIfInBounds_toArray, List.set_cons_zero, List.set_cons_succ])); (refine wpAnyH_take (i := 11) (oi := _) (v := ?_) (ops_at rfl) (by kernel_rfl) (by kernel_rfl) (by kernel_rfl) (fun _ _ _ h => h) (Or.inl ⟨by rfl, ?_⟩) (by assumption) ?_; rotate_left; (focus (intro w hSw; (try dsimp only at hSw); go_simp; (try with_reducible rfl))); (try simp only [Act.put, List.setIfInBounds_toArray, List.set_cons_zero, List.set_cons_succ])); (refine wpAnyH_ready (rs := [5]) (by kernel_rfl) (by simp) (AllReadyH.cons (ops_at rfl) (fun K hK => ?_) AllReadyH.nil); go_simp; skip; refine hK.out _ _ (trivial) (fun hHeld => ?_); clear hK K; (try simp only [Act.put, List.setIfInBounds_toArray, List.set_cons_zero, List.set_cons_succ])); (refine wpAnyH_ready (rs := [7]) (by kernel_rfl) (by simp) (AllReadyH.cons (ops_at rfl) (fun K hK => ?_) AllReadyH.nil); go_simp; skip; refine hK.out _ _ (trivial) (fun hHeld => ?_); clear hK K; (try simp only [Act.put, List.setIfInBounds_toArray, List.set_cons_zero, List.set_cons_succ])); (refine wpAnyH_take (i := 8) (oi := _) (v := ?_) (ops_at rfl) (by kernel_rfl) (by kernel_rfl) (by kernel_rfl) (fun _ _ _ h => h) (Or.inl ⟨by rfl, ?_⟩) (by assumption) ?_; rotate_left; (focus (intro w hSw; (try dsimp only at hSw); go_simp; (try with_reducible rfl))); (try simp only [Act.put, List.setIfInBounds_toArray, List.set_cons_zero, List.set_cons_succ])); (refine wpAnyH_ready (rs := [12]) (by kernel_rfl) (by simp) (AllReadyH.cons (ops_at rfl) (fun K hK => ?_) AllReadyH.nil); go_simp; skip; refine hK.out _ _ (trivial) (fun hHeld => ?_); clear hK K; (try simp only [Act.put, List.setIfInBounds_toArray, List.set_cons_zero, List.set_cons_succ])); clear hHeld; (refine wpAnyH_ready (rs := [13]) (by kernel_rfl) (by simp) (AllReadyH.cons (ops_at rfl) (fun K hK => ?_) AllReadyH.nil); go_simp; (refine (concat_any _ W.heap.size 2 2 _ (rws_two (w := W.drew) rfl Hbs.out (Hbw.out.drew.take hn1k)) (by rw [Hby.out, hal.out, List.length_append]; omega)).mono ?_; rintro e w5 ⟨X, N, xc, rfl, hN, hown, hnone, hbel⟩; rw [Hby.out, hal.out] at hN hown); refine hK.out _ _ (trivial) (fun hHeld => ?_); clear hK K; (try simp only [Act.put, List.setIfInBounds_toArray, List.set_cons_zero, List.set_cons_succ])); (refine wpAnyH_ready (rs := [14]) (by kernel_rfl) (by simp) (AllReadyH.cons (ops_at rfl) (fun K hK => ?_) AllReadyH.nil); go_simp; (refine (write_any s (S.by s ++ l.take n1) X N xc hs (by have := hN.out; rw [List.length_append] at this; omega) hn Hok.out ((HF.out.drew.alloc).below hbel) (own_bs hown (bytes_app (by rw [← Hby.out]; exact Hbs.out.by_) (Hbw.out.take hn1k).by_) (by have := hN.out; rw [List.length_append] at this; omega)) hown.cap (U8.of_own hown)).mono ?_; rintro e w6 ⟨rfl, ⟨D4, h4, f4⟩, o4⟩); refine hK.out _ _ (trivial) (fun hHeld => ?_); clear hK K; (try simp only [Act.put, List.setIfInBounds_toArray, List.set_cons_zero, List.set_cons_succ])); (refine wpAnyH_take (i := 15) (oi := _) (v := ?_) (ops_at rfl) (by kernel_rfl) (by kernel_rfl) (by kernel_rfl) (fun _ _ _ h => h) (Or.inl ⟨by rfl, ?_⟩) (by assumption) ?_; rotate_left; (focus (intro w hSw; (try dsimp only at hSw); go_simp; (try with_reducible rfl))); (try simp only [Act.put, List.setIfInBounds_toArray, List.set_cons_zero, List.set_cons_succ])); (refine wpAnyH_done (by kernel_rfl) ?_ _)
      have H4 := Lib.hid h4
      have F4 := Lib.hid (fun g (hg : g < w.heap.size) (hf : Free S D g) => f4 g (HSm.out g hf) (own_ne hown (by have := Hon.out.size; simp; omega)))
      have O4 := Lib.hid (Hon.out.trans ((Only.of_below (((Below.refl _ W).drew.alloc (Nat.le_refl _) _).trans (hbel.mono (by simp))) [fb, mb]).trans o4))
      clear h4 f4 o4 hown hbel hnone
      go_wp2_with fail
      go_ret2
      have hz : ((n1 : Int)).toNat = n1 := by simp
      have ez := Hp2.out
      rw [if_pos he0, he0, hz] at ez
      exact ⟨by rw [ez, ← Hla.out]; rfl, by rw [ez]; exact ⟨⟨_, _, Nat.le_refl _, H4.out, F4.out⟩, O4.out⟩⟩
    · by_cases hn0 : n1 = 0
      · have Hp2 := Lib.hid (Hp.out.trans (if_pos ⟨he0, by rw [hn0]; rfl⟩))
        go_wp2_with fail
        go_ret2
        exact ⟨by rw [Hp2.out]; rfl, by rw [Hp2.out]; exact ⟨⟨_, _, Nat.le_succ _, HF.out, fun g _ h => HSm.out g h⟩, Hon.out⟩⟩
      · have Hp2 := Lib.hid (Hp.out.trans (if_neg fun h => hn0 (by have := h.2; omega)))
        have hn2 : ((n1 : Int) == 0) = false := by rw [beq_eq_false_iff_ne]; omega
        have he2 : (e1 == 0) = false := by rw [beq_eq_false_iff_ne]; exact he0
        go_upto_region 12 with fail
        obtain ⟨X1, hX1⟩ : ∃ y, y = S1.write s (S.by s ++ l.take n1) := ⟨_, rfl⟩
        (obtain ⟨B, m, d, hrun, hbs, hmd, hu1⟩ := HF.out.drew.look s hs; have Hbs := Lib.hid hbs; unfold fileV at hrun; clear hbs hu1; have f0 := fieldB; have q5 : W.drew.cell? ⟨fb, 5, none⟩ = some (.map (some mb)) := HF.out.drew.blk.cell 5; have hsl := fun w => slice_upto (P := Try.prog) (A := A) (kk := .i64) Try.underlying30 (show (Try.prog.info? 5).map (·.size) = some 1 by rfl) hn1k hkc w; have hmU := HO.out.by1 s; have hmby := Hbs.out.len; rw [Hby.out] at hmby; have hlk := Hbw.out.len; have hU1 := HO.out.U1; have hal := Lib.hid (allOf_two B A m d n1 c (S.by s) (l.take n1)); have htl : (l.take n1).length = n1 := (by rw [List.length_take]; omega)); (refine wp_region_held_drew (S := fun _ => True) (by kernel_rfl) (trivial) (fun hHeld => ?_)); (refine wpAnyH_take (i := 0) (oi := _) (v := ?_) (ops_at rfl) (by kernel_rfl) (by kernel_rfl) (by kernel_rfl) (fun _ _ _ h => h) (Or.inl ⟨by rfl, ?_⟩) (by assumption) ?_; rotate_left; (focus (intro w hSw; (try dsimp only at hSw); go_simp; (try with_reducible rfl))); (try simp only [Act.put, List.setIfInBounds_toArray, List.set_cons_zero, List.set_cons_succ])); (refine wpAnyH_take (i := 1) (oi := _) (v := ?_) (ops_at rfl) (by kernel_rfl) (by kernel_rfl) (by kernel_rfl) (fun _ _ _ h => h) (Or.inl ⟨by rfl, ?_⟩) (by assumption) ?_; rotate_left; (focus (intro w hSw; (try dsimp only at hSw); go_simp; (try with_reducible rfl))); (try simp only [Act.put, List.setIfInBounds_toArray, List.set_cons_zero, List.set_cons_succ])); (refine wpAnyH_take (i := 2) (oi := _) (v := ?_) (ops_at rfl) (by kernel_rfl) (by kernel_rfl) (by kernel_rfl) (fun _ _ _ h => h) (Or.inl ⟨by rfl, ?_⟩) (by assumption) ?_; rotate_left; (focus (intro w hSw; (try dsimp only at hSw); go_simp; (try with_reducible rfl))); (try simp only [Act.put, List.setIfInBounds_toArray, List.set_cons_zero, List.set_cons_succ])); (refine wpAnyH_take (i := 3) (oi := _) (v := ?_) (ops_at rfl) (by kernel_rfl) (by kernel_rfl) (by kernel_rfl) (fun _ _ _ h => h) (Or.inl ⟨by rfl, ?_⟩) (by assumption) ?_; rotate_left; (focus (intro w hSw; (try dsimp only at hSw); go_simp; (try with_reducible rfl))); (try simp only [Act.put, List.setIfInBounds_toArray, List.set_cons_zero, List.set_cons_succ])); (refine wpAnyH_take (i := 4) (oi := _) (v := ?_) (ops_at rfl) (by kernel_rfl) (by kernel_rfl) (by kernel_rfl) (fun _ _ _ h => h) (Or.inl ⟨by rfl, ?_⟩) (by assumption) ?_; rotate_left; (focus (intro w hSw; (try dsimp only at hSw); go_simp; (try with_reducible rfl))); (try simp only [Act.put, List.setIfInBounds_toArray, List.set_cons_zero, List.set_cons_succ])); (refine wpAnyH_take (i := 6) (oi := _) (v := ?_) (ops_at rfl) (by kernel_rfl) (by kernel_rfl) (by kernel_rfl) (fun _ _ _ h => h) (Or.inl ⟨by rfl, ?_⟩) (by assumption) ?_; rotate_left; (focus (intro w hSw; (try dsimp only at hSw); go_simp; (try with_reducible rfl))); (try simp only [Act.put, List.setIfInBounds_toArray, List.set_cons_zero, List.set_cons_succ])); (refine wpAnyH_take (i := 9) (oi := _) (v := ?_) (ops_at rfl) (by kernel_rfl) (by kernel_rfl) (by kernel_rfl) (fun _ _ _ h => h) (Or.inl ⟨by rfl, ?_⟩) (by assumption) ?_; rotate_left; (focus (intro w hSw; (try dsimp only at hSw); go_simp; (try with_reducible rfl))); (try simp only [Act.put, List.setIfInBounds_toArray, List.set_cons_zero, List.set_cons_succ])); (refine wpAnyH_take (i := 10) (oi := _) (v := ?_) (ops_at rfl) (by kernel_rfl) (by kernel_rfl) (by kernel_rfl) (fun _ _ _ h => h) (Or.inl ⟨by rfl, ?_⟩) (by assumption) ?_; rotate_left; (focus (intro w hSw; (try dsimp only at hSw); go_simp; (try with_reducible rfl))); (try simp only [Act.put, List.setIfInBounds_toArray, List.set_cons_zero, List.set_cons_succ])); (refine wpAnyH_take (i := 11) (oi := _) (v := ?_) (ops_at rfl) (by kernel_rfl) (by kernel_rfl) (by kernel_rfl) (fun _ _ _ h => h) (Or.inl ⟨by rfl, ?_⟩) (by assumption) ?_; rotate_left; (focus (intro w hSw; (try dsimp only at hSw); go_simp; (try with_reducible rfl))); (try simp only [Act.put, List.setIfInBounds_toArray, List.set_cons_zero, List.set_cons_succ])); (refine wpAnyH_ready (rs := [5]) (by kernel_rfl) (by simp) (AllReadyH.cons (ops_at rfl) (fun K hK => ?_) AllReadyH.nil); go_simp; skip; refine hK.out _ _ (trivial) (fun hHeld => ?_); clear hK K; (try simp only [Act.put, List.setIfInBounds_toArray, List.set_cons_zero, List.set_cons_succ])); (refine wpAnyH_ready (rs := [7]) (by kernel_rfl) (by simp) (AllReadyH.cons (ops_at rfl) (fun K hK => ?_) AllReadyH.nil); go_simp; skip; refine hK.out _ _ (trivial) (fun hHeld => ?_); clear hK K; (try simp only [Act.put, List.setIfInBounds_toArray, List.set_cons_zero, List.set_cons_succ])); (refine wpAnyH_take (i := 8) (oi := _) (v := ?_) (ops_at rfl) (by kernel_rfl) (by kernel_rfl) (by kernel_rfl) (fun _ _ _ h => h) (Or.inl ⟨by rfl, ?_⟩) (by assumption) ?_; rotate_left; (focus (intro w hSw; (try dsimp only at hSw); go_simp; (try with_reducible rfl))); (try simp only [Act.put, List.setIfInBounds_toArray, List.set_cons_zero, List.set_cons_succ])); (refine wpAnyH_ready (rs := [12]) (by kernel_rfl) (by simp) (AllReadyH.cons (ops_at rfl) (fun K hK => ?_) AllReadyH.nil); go_simp; skip; refine hK.out _ _ (trivial) (fun hHeld => ?_); clear hK K; (try simp only [Act.put, List.setIfInBounds_toArray, List.set_cons_zero, List.set_cons_succ])); clear hHeld; (refine wpAnyH_ready (rs := [13]) (by kernel_rfl) (by simp) (AllReadyH.cons (ops_at rfl) (fun K hK => ?_) AllReadyH.nil); go_simp; (refine (concat_any _ W.heap.size 2 2 _ (rws_two (w := W.drew) rfl Hbs.out (Hbw.out.drew.take hn1k)) (by rw [Hby.out, hal.out, List.length_append]; omega)).mono ?_; rintro e w5 ⟨X, N, xc, rfl, hN, hown, hnone, hbel⟩; rw [Hby.out, hal.out] at hN hown); refine hK.out _ _ (trivial) (fun hHeld => ?_); clear hK K; (try simp only [Act.put, List.setIfInBounds_toArray, List.set_cons_zero, List.set_cons_succ])); (refine wpAnyH_ready (rs := [14]) (by kernel_rfl) (by simp) (AllReadyH.cons (ops_at rfl) (fun K hK => ?_) AllReadyH.nil); go_simp; (refine (write_any s (S.by s ++ l.take n1) X N xc hs (by have := hN.out; rw [List.length_append] at this; omega) hn Hok.out ((HF.out.drew.alloc).below hbel) (own_bs hown (bytes_app (by rw [← Hby.out]; exact Hbs.out.by_) (Hbw.out.take hn1k).by_) (by have := hN.out; rw [List.length_append] at this; omega)) hown.cap (U8.of_own hown)).mono ?_; rintro e w6 ⟨rfl, ⟨D4, h4, f4⟩, o4⟩); refine hK.out _ _ (trivial) (fun hHeld => ?_); clear hK K; (try simp only [Act.put, List.setIfInBounds_toArray, List.set_cons_zero, List.set_cons_succ])); (refine wpAnyH_take (i := 15) (oi := _) (v := ?_) (ops_at rfl) (by kernel_rfl) (by kernel_rfl) (by kernel_rfl) (fun _ _ _ h => h) (Or.inl ⟨by rfl, ?_⟩) (by assumption) ?_; rotate_left; (focus (intro w hSw; (try dsimp only at hSw); go_simp; (try with_reducible rfl))); (try simp only [Act.put, List.setIfInBounds_toArray, List.set_cons_zero, List.set_cons_succ])); (refine wpAnyH_done (by kernel_rfl) ?_ _)
        have H4 := Lib.hid h4
        have F4 := Lib.hid (fun g (hg : g < w.heap.size) (hf : Free S D g) => f4 g (HSm.out g hf) (own_ne hown (by have := Hon.out.size; simp; omega)))
        have O4 := Lib.hid (Hon.out.trans ((Only.of_below (((Below.refl _ W).drew.alloc (Nat.le_refl _) _).trans (hbel.mono (by simp))) [fb, mb]).trans o4))
        clear h4 f4 o4 hown hbel hnone
        go_wp2_with fail
        go_ret2
        have hz : ((n1 : Int)).toNat = n1 := by simp
        have ez := Hp2.out
        rw [if_neg he0, hz] at ez
        exact ⟨by rw [ez]; rfl, by rw [ez]; exact ⟨⟨_, _, Nat.le_refl _, H4.out, F4.out⟩, O4.out⟩⟩
end Go.Proofs.Ytkbgedaogfcdnaa
