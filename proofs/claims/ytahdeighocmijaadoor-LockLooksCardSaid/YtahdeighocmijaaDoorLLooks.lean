/- Locks: LockLooks. -/
import Derived.Test.YtahdeighocmijaaDoorRLock
import Derived.Test.YtahdeighocmijaaDoorAwake13
import Derived.Test.YtahdeighocmijaaDoorInts
namespace Go.Proofs.YtahdeighocmijaaDoor
set_option linter.unusedSimpArgs false
set_option linter.unusedVariables false
open Go.RowKit
open Crc (Bytes)
theorem lookL_fst (o : Option Lk) (who inc now : Int) : (lookL o who inc now).1 = o.getD lk0 := by
  cases o with
  | none => rfl
  | some l =>
    unfold lookL
    simp only [Option.getD_some]
    split
    · rfl
    · split
      · rfl
      · split <;> rfl
/-- The three rows of bytes. -/
structure L3 (W : World) (gb : Nat) : Prop where
  at_ : ∀ j, j < 3 → ∃ A n c l, W.cell? ⟨gb, j, none⟩ = some (.slice A n c) ∧ Bs W A n l ∧ n ≤ c ∧ n ≤ 5000000
  lt : gb < W.heap.size
theorem L3.below {W W' : World} {gb : Nat} (h : L3 W gb) (hb : Below W.heap.size W W') : L3 W' gb :=
  ⟨fun j hj => by
    obtain ⟨A, n, c, l, h1, h2, h3, h4⟩ := h.at_ j hj
    exact ⟨A, n, c, l, (hb.cell (p := ⟨gb, j, none⟩) h.lt).trans h1, h2.below hb, h3, h4⟩, by have := hb.size; have := h.lt; omega⟩
set_option maxRecDepth 100000 in
set_option maxHeartbeats 1000000 in
theorem locklooks_any (raw : Lk) (A : Option Addr) (bn bc : Nat) (b : List Int) (n0 who0 inc0 now0 : Int) (w : World) (hb : Bs w A bn b) (hcap : bn ≤ bc) : Calls Tryd.prog 5 #[lkV raw, .slice A bn bc, .int .i64 n0, .int .i64 who0, .int .i64 inc0, .int .i64 now0] w fun e w' => e = .returned (.bool true) ∧ Below w.heap.size w w' := by
  unfold lkV
  have HB := Lib.hid hb
  clear hb
  go_enter Tryd.func5, Tryd.ntmps5
  by_cases hbig : (100 : Int) < (bn : Int)
  · have HBel := Lib.hid (bl_alloc (o := Obj.cells #[.int .i64 raw.who, .int .i64 raw.inc, .int .i64 raw.epoch, .int .i64 raw.till] 27) (Below.refl w.heap.size w))
    go_wp2_with fail
    refine (awake13_any _).mono ?_
    rintro e w1 ⟨rfl, b1⟩
    have HF := Lib.hid (bl_then HBel.out b1)
    clear b1
    go_wp2_with fail
    go_ret
    exact ⟨rfl, HF.out⟩
  · have hsm : bn ≤ 100 := by omega
    go_upto_region 4 with fail
    obtain ⟨g1, hg1⟩ : ∃ g1, g1 = w.heap.size := ⟨_, rfl⟩
    obtain ⟨g2, hg2⟩ : ∃ g2, g2 = w.heap.size + 1 := ⟨_, rfl⟩
    rw [← hg2, ← hg1]
    obtain ⟨lk, hlk⟩ : ∃ lk : Lk, lk = ⟨Go.bits .and .i64 n0 3, Go.bits .and .i64 (n0 / 4) 3, Go.bits .and .i64 (n0 / 16) 255, Go.bits .and .i64 (n0 / 4096) 255⟩ := ⟨_, rfl⟩
    refine at_world (fun W => Blk W g1 27 (lkCells raw) ∧ Blk W g2 27 (lkCells lk) ∧ Bs W A bn b ∧ Below w.heap.size w W) ⟨(blk_new hg1).alloc _, by rw [hlk]; exact blk_new (by simp [hg2]), (HB.out.alloc _).alloc _, bl_alloc (bl_alloc (Below.refl _ _))⟩ ?_
    clear hlk HB hg1 hg2
    rintro W ⟨k1, k2, k3, k4⟩
    have HKc := Lib.hid (fun (w' : World) (hb : Below W.heap.size W w') => (show w'.cell? ⟨g1, 0, none⟩ = some (.int .i64 raw.who) ∧ w'.cell? ⟨g1, 1, none⟩ = some (.int .i64 raw.inc) ∧ w'.cell? ⟨g1, 2, none⟩ = some (.int .i64 raw.epoch) ∧ w'.cell? ⟨g1, 3, none⟩ = some (.int .i64 raw.till) ∧ w'.cell? ⟨g2, 0, none⟩ = some (.int .i64 lk.who) ∧ w'.cell? ⟨g2, 1, none⟩ = some (.int .i64 lk.inc) ∧ w'.cell? ⟨g2, 2, none⟩ = some (.int .i64 lk.epoch) ∧ w'.cell? ⟨g2, 3, none⟩ = some (.int .i64 lk.till) from ⟨(k1.below hb).cell 0, (k1.below hb).cell 1, (k1.below hb).cell 2, (k1.below hb).cell 3, (k2.below hb).cell 0, (k2.below hb).cell 1, (k2.below hb).cell 2, (k2.below hb).cell 3⟩))
    have HB := Lib.hid k3
    have HBel := Lib.hid k4
    have hsz : w.heap.size ≤ W.heap.size := k4.size
    clear k1 k2 k3 k4
    (refine wp_region_held_drew (S := fun w' => w'.cell? ⟨g1, 0, none⟩ = some (.int .i64 raw.who) ∧ w'.cell? ⟨g1, 1, none⟩ = some (.int .i64 raw.inc) ∧ w'.cell? ⟨g1, 2, none⟩ = some (.int .i64 raw.epoch) ∧ w'.cell? ⟨g1, 3, none⟩ = some (.int .i64 raw.till) ∧ w'.cell? ⟨g2, 0, none⟩ = some (.int .i64 lk.who) ∧ w'.cell? ⟨g2, 1, none⟩ = some (.int .i64 lk.inc) ∧ w'.cell? ⟨g2, 2, none⟩ = some (.int .i64 lk.epoch) ∧ w'.cell? ⟨g2, 3, none⟩ = some (.int .i64 lk.till)) (by kernel_rfl) (HKc.out _ (Below.refl _ _).drew) (fun hHeld => ?_))
    (refine wpAnyH_take (i := 0) (oi := _) (v := ?_) (ops_at rfl) (by kernel_rfl) (by kernel_rfl) (by kernel_rfl) (fun _ _ _ h => h) (Or.inl ⟨by rfl, ?_⟩) (by assumption) ?_; rotate_left; (focus (intro w hSw; (try dsimp only at hSw); go_simp; (try with_reducible rfl))); (try simp only [Act.put, List.setIfInBounds_toArray, List.set_cons_zero, List.set_cons_succ])); (refine wpAnyH_take (i := 1) (oi := _) (v := ?_) (ops_at rfl) (by kernel_rfl) (by kernel_rfl) (by kernel_rfl) (fun _ _ _ h => h) (Or.inl ⟨by rfl, ?_⟩) (by assumption) ?_; rotate_left; (focus (intro w hSw; (try dsimp only at hSw); go_simp; (try with_reducible rfl))); (try simp only [Act.put, List.setIfInBounds_toArray, List.set_cons_zero, List.set_cons_succ])); (refine wpAnyH_take (i := 3) (oi := _) (v := ?_) (ops_at rfl) (by kernel_rfl) (by kernel_rfl) (by kernel_rfl) (fun _ _ _ h => h) (Or.inl ⟨by rfl, ?_⟩) (by assumption) ?_; rotate_left; (focus (intro w hSw; (try dsimp only at hSw); go_simp; (try with_reducible rfl))); (try simp only [Act.put, List.setIfInBounds_toArray, List.set_cons_zero, List.set_cons_succ])); (refine wpAnyH_take (i := 7) (oi := _) (v := ?_) (ops_at rfl) (by kernel_rfl) (by kernel_rfl) (by kernel_rfl) (fun _ _ _ h => h) (Or.inl ⟨by rfl, ?_⟩) (by assumption) ?_; rotate_left; (focus (intro w hSw; (try dsimp only at hSw); go_simp; (try with_reducible rfl))); (try simp only [Act.put, List.setIfInBounds_toArray, List.set_cons_zero, List.set_cons_succ]))
    (refine wpAnyH_ready (rs := [2]) (by kernel_rfl) (by simp) (AllReadyH.cons (ops_at rfl) (fun K hK => ?_) AllReadyH.nil); go_simp; (refine (rlk_any raw _).mono ?_; rintro e w1 ⟨A1, n1, c1, rfl, hn1, ho1, hz1, hb1⟩); refine hK.out _ _ (HKc.out _ ((Below.refl _ _).drew.trans hb1)) (fun hHeld => ?_); clear hK K; (try simp only [Act.put, List.setIfInBounds_toArray, List.set_cons_zero, List.set_cons_succ]))
    have hn1' : n1 = 34 := by have := hn1.out; rw [Lk.bytes_len] at this; omega
    subst hn1'
    have HB1 := Lib.hid ((Below.refl _ _).drew.trans hb1 : Below W.heap.size W w1)
    have hcap1 := ho1.cap
    have HR1 := Lib.hid (own_bs ho1 raw.bytes_by (by omega))
    clear hn1 ho1 hz1 hb1
    (refine wpAnyH_ready (rs := [4]) (by kernel_rfl) (by simp) (AllReadyH.cons (ops_at rfl) (fun K hK => ?_) AllReadyH.nil); go_simp; (refine (rlk_any lk _).mono ?_; rintro e w2 ⟨A2, n2, c2, rfl, hn2, ho2, hz2, hb2⟩); refine hK.out _ _ (HKc.out _ (HB1.out.trans (hb2.mono HB1.out.size))) (fun hHeld => ?_); clear hK K; (try simp only [Act.put, List.setIfInBounds_toArray, List.set_cons_zero, List.set_cons_succ]))
    have hn2' : n2 = 34 := by have := hn2.out; rw [Lk.bytes_len] at this; omega
    subst hn2'
    have HB2 := Lib.hid (HB1.out.trans (hb2.mono HB1.out.size))
    have hcap2 := ho2.cap
    have HR2 := Lib.hid (own_bs ho2 lk.bytes_by (by omega))
    have HR1' := Lib.hid (HR1.out.below hb2)
    clear hn2 ho2 hz2 hb2
    have hz2 : W.heap.size ≤ w2.heap.size := HB2.out.size
    (refine wpAnyH_ready (rs := [5]) (by kernel_rfl) (by simp) (AllReadyH.cons (ops_at rfl) (fun K hK => ?_) AllReadyH.nil); go_simp; skip; refine hK.out _ _ (HKc.out _ (HB2.out.alloc hz2 _)) (fun hHeld => ?_); clear hK K; (try simp only [Act.put, List.setIfInBounds_toArray, List.set_cons_zero, List.set_cons_succ]))
    (refine wpAnyH_take (i := 6) (oi := _) (v := ?_) (ops_at rfl) (by kernel_rfl) (by kernel_rfl) (by kernel_rfl) (fun _ _ _ h => h) (Or.inl ⟨by rfl, ?_⟩) (by assumption) ?_; rotate_left; (focus (intro w hSw; (try dsimp only at hSw); go_simp; (try with_reducible rfl))); (try simp only [Act.put, List.setIfInBounds_toArray, List.set_cons_zero, List.set_cons_succ]))
    (refine wpAnyH_done (by kernel_rfl) ?_ _)
    have hL3 : L3 (w2.alloc (Obj.cells #[.slice A bn bc, .slice A1 34 c1, .slice A2 34 c2] 33)) w2.heap.size := by
      have hbk := Blk.new w2 33 [.slice A bn bc, .slice A1 34 c1, .slice A2 34 c2]
      refine ⟨fun j hj => ?_, hbk.lt⟩
      have : j = 0 ∨ j = 1 ∨ j = 2 := by omega
      rcases this with rfl | rfl | rfl
      · exact ⟨A, bn, bc, b, hbk.cell 0, (HB.out.below HB2.out).alloc _, hcap, by omega⟩
      · exact ⟨A1, 34, c1, _, hbk.cell 1, HR1'.out.alloc _, hcap1, by omega⟩
      · exact ⟨A2, 34, c2, _, hbk.cell 2, HR2.out.alloc _, hcap2, by omega⟩
    have HL3 := Lib.hid hL3
    have HBl := Lib.hid ((HBel.out.trans (HB2.out.mono hsz)).alloc (by omega) (Obj.cells #[.slice A bn bc, .slice A1 34 c1, .slice A2 34 c2] 33))
    clear hHeld HR1 HR1' HR2 HB2 HB1 HBel HB HKc hL3
    obtain ⟨gb, hgb⟩ : ∃ gb, gb = w2.heap.size := ⟨_, rfl⟩
    rw [← hgb] at HL3 ⊢
    generalize hw3 : w2.alloc (Obj.cells #[.slice A bn bc, .slice A1 34 c1, .slice A2 34 c2] 33) = w3 at *
    clear hw3 hgb hz2
    go_wp2_with fail
    go_loopw [3, 4, 5, 45] (fun a b c i wr => ∃ (who inc now : Int) (j : Nat), a = .int .i64 who ∧ b = .int .i64 inc ∧ c = .int .i64 now ∧ i = .int .i64 j ∧ j ≤ 3 ∧ L3 wr gb ∧ Below w.heap.size w wr) (fun _ _ _ i _ => 3 - (intOf i).toNat)
    case atStart => exact ⟨who0, inc0, now0, 0, rfl, rfl, rfl, rfl, by omega, HL3.out, HBl.out⟩
    case round =>
      obtain ⟨who, inc, now, j, rfl, rfl, rfl, rfl, hj, hx, hy⟩ := hrel
      have HX := Lib.hid hx
      have HY := Lib.hid hy
      clear HL3 HBl hx hy
      by_cases hj3 : j = 3
      · subst hj3
        go_wp2_with fail
        refine (awake13_any _).mono ?_
        rintro e w4 ⟨rfl, b4⟩
        have HF := Lib.hid (HY.out.trans (b4.mono HY.out.size))
        clear b4
        go_wp2_with fail
        go_ret
        exact ⟨rfl, HF.out⟩
      · have hjl : (j : Int) < 3 := by omega
        obtain ⟨A, n, c, l, hc, hbs, hnc, hn⟩ := HX.out.at_ j (by omega)
        have HBS := Lib.hid hbs
        clear hbs
        go_wp2_with fail
        go_loopw [3, 4, 5, 16] (fun a b c i wr => ∃ (who inc now : Int) (q : Nat), a = .int .i64 who ∧ b = .int .i64 inc ∧ c = .int .i64 now ∧ i = .int .i64 q ∧ q ≤ 2 ∧ L3 wr gb ∧ Bs wr A n l ∧ Below w.heap.size w wr) (fun _ _ _ i _ => 2 - (intOf i).toNat)
        case atStart => exact ⟨who, inc, now, 0, rfl, rfl, rfl, rfl, by omega, HX.out, HBS.out, HY.out⟩
        case round =>
          obtain ⟨who, inc, now, q, rfl, rfl, rfl, rfl, hq, hx, hb, hy⟩ := hrel
          have HX1 := Lib.hid hx
          have HY1 := Lib.hid hy
          have HB1 := Lib.hid hb
          clear HX HY HBS hx hy hb hc
          by_cases hq2 : q = 2
          · subst hq2
            go_wp2_with fail
            exact ⟨⟨who, inc, now, j + 1, rfl, rfl, rfl, by go_num, by omega, HX1.out, HY1.out⟩, by simp [intOf]; omega⟩
          · have hql : (q : Int) < 2 := by omega
            go_wp2_with fail
            refine (ropenlock_any A n c l _ HB1.out hnc hn).mono ?_
            rintro e w4 ⟨rfl, b4⟩
            have HX4 := Lib.hid (HX1.out.below b4)
            have HY4 := Lib.hid (HY1.out.trans (b4.mono HY1.out.size))
            have HB4 := Lib.hid (HB1.out.below b4)
            clear b4 HX1 HY1 HB1
            obtain ⟨o, ho⟩ : ∃ o, openLk l = o := ⟨_, rfl⟩
            have Ho := Lib.hid ho
            rw [ho]
            clear ho
            obtain ⟨m, hm⟩ : ∃ m, o.getD lk0 = m := ⟨_, rfl⟩
            have HM := Lib.hid hm
            rw [hm]
            clear hm
            unfold lkV
            go_upto_block 4 with fail
            obtain ⟨gm, hgm⟩ : ∃ gm, gm = w4.heap.size := ⟨_, rfl⟩
            rw [← hgm]
            refine at_world (fun W => Blk W gm 27 [.int .i64 m.who, .int .i64 m.inc, .int .i64 m.epoch, .int .i64 m.till] ∧ L3 W gb ∧ Bs W A n l ∧ Below w.heap.size w W) ⟨blk_new hgm, HX4.out.below (bl_alloc (Below.refl _ _)), HB4.out.alloc _, HY4.out.alloc HY4.out.size _⟩ ?_
            clear HX4 HB4 HY4 hgm
            rintro W5 ⟨k1, k2, k3, k4⟩
            have HM5 := Lib.hid k1
            have HX5 := Lib.hid k2
            have HB5 := Lib.hid k3
            have HY5 := Lib.hid k4
            have q0 : W5.cell? ⟨gm, 0, none⟩ = some (.int .i64 m.who) := k1.cell 0
            have q1 : W5.cell? ⟨gm, 1, none⟩ = some (.int .i64 m.inc) := k1.cell 1
            have q2 : W5.cell? ⟨gm, 2, none⟩ = some (.int .i64 m.epoch) := k1.cell 2
            have q3 : W5.cell? ⟨gm, 3, none⟩ = some (.int .i64 m.till) := k1.cell 3
            clear k1 k2 k3 k4
            go_cut [19] (fun v wx => v = .int .i64 (lookL o who inc now).2 ∧ wx = W5)
            case first =>
              cases o with
              | none =>
                go_wp2_with fail
                go_meet
                exact ⟨rfl, rfl⟩
              | some l1 =>
                obtain rfl : m = l1 := HM.out.symm
                by_cases he : m.epoch = 1099511627776
                · have HLO := Lib.hid (show (lookL (some m) who inc now).2 = 1 by unfold lookL; simp only; rw [if_pos (show m.epoch = lkTop from he)])
                  have heb : (m.epoch == 1099511627776) = true := by rw [beq_iff_eq]; exact he
                  clear he
                  (go_wp2_with fail; go_meet; exact ⟨by rw [HLO.out], rfl⟩)
                have heb : (m.epoch == 1099511627776) = false := by rw [beq_eq_false_iff_ne]; exact he
                have HE := Lib.hid (show ¬ m.epoch = lkTop from he)
                clear he
                by_cases hmine : m.who = who ∧ m.inc = inc ∧ now < m.till
                · have HLO := Lib.hid (show (lookL (some m) who inc now).2 = 2 by unfold lookL; simp only; rw [if_neg HE.out, if_pos hmine])
                  obtain ⟨m1, m2, m3⟩ := hmine
                  have m1b : (m.who == who) = true := by rw [beq_iff_eq]; exact m1
                  have m2b : (m.inc == inc) = true := by rw [beq_iff_eq]; exact m2
                  clear m1 m2
                  (go_wp2_with fail; go_meet; exact ⟨by rw [HLO.out], rfl⟩)
                · by_cases hopen : m.till ≤ now ∨ (m.who = who ∧ m.inc < inc)
                  · have HLO := Lib.hid (show (lookL (some m) who inc now).2 = 3 by unfold lookL; simp only; rw [if_neg HE.out, if_neg hmine, if_pos hopen])
                    by_cases ht : m.till ≤ now
                    · have ht2 : ¬ now < m.till := by omega
                      by_cases hw1 : m.who = who
                      · have m1b : (m.who == who) = true := by rw [beq_iff_eq]; exact hw1
                        by_cases hi1 : m.inc = inc
                        · have m2b : (m.inc == inc) = true := by rw [beq_iff_eq]; exact hi1
                          clear hw1 hi1 hmine hopen
                          (go_wp2_with fail; go_meet; exact ⟨by rw [HLO.out], rfl⟩)
                        · have m2b : (m.inc == inc) = false := by rw [beq_eq_false_iff_ne]; exact hi1
                          clear hw1 hi1 hmine hopen
                          (go_wp2_with fail; go_meet; exact ⟨by rw [HLO.out], rfl⟩)
                      · have m1b : (m.who == who) = false := by rw [beq_eq_false_iff_ne]; exact hw1
                        clear hw1 hmine hopen
                        (go_wp2_with fail; go_meet; exact ⟨by rw [HLO.out], rfl⟩)
                    · obtain ⟨hw1, hi1⟩ := hopen.resolve_left ht
                      have m1b : (m.who == who) = true := by rw [beq_iff_eq]; exact hw1
                      have m2b : (m.inc == inc) = false := by rw [beq_eq_false_iff_ne]; omega
                      clear hw1 hmine hopen
                      (go_wp2_with fail; go_meet; exact ⟨by rw [HLO.out], rfl⟩)
                  · have HLO := Lib.hid (show (lookL (some m) who inc now).2 = 4 by unfold lookL; simp only; rw [if_neg HE.out, if_neg hmine, if_neg hopen])
                    have ht : ¬ m.till ≤ now := fun h => hopen (.inl h)
                    have ht2 : now < m.till := by omega
                    by_cases hw1 : m.who = who
                    · have m1b : (m.who == who) = true := by rw [beq_iff_eq]; exact hw1
                      have hi1 : ¬ m.inc = inc := fun h => hmine ⟨hw1, h, ht2⟩
                      have hi2 : ¬ m.inc < inc := fun h => hopen (.inr ⟨hw1, h⟩)
                      have m2b : (m.inc == inc) = false := by rw [beq_eq_false_iff_ne]; exact hi1
                      clear hw1 hi1 hmine hopen
                      (go_wp2_with fail; go_meet; exact ⟨by rw [HLO.out], rfl⟩)
                    · have m1b : (m.who == who) = false := by rw [beq_eq_false_iff_ne]; exact hw1
                      clear hw1 hmine hopen
                      (go_wp2_with fail; go_meet; exact ⟨by rw [HLO.out], rfl⟩)
            case rest =>
              obtain ⟨rfl, rfl⟩ := hcut
              go_wp2_with fail
              refine (look_any A n c l who inc now _ HB5.out hn).mono ?_
              rintro e w6 ⟨rfl, b6⟩
              rw [Ho.out, lookL_fst, HM.out]
              unfold lkV
              have HM6 := Lib.hid (HM5.out.below b6)
              have HX6 := Lib.hid (HX5.out.below b6)
              have HB6 := Lib.hid (HB5.out.below b6)
              have HY6 := Lib.hid (HY5.out.trans (b6.mono HY5.out.size))
              have hgl := HM6.out.lt
              have r0 : w6.cell? ⟨gm, 0, none⟩ = some (.int .i64 m.who) := HM6.out.cell 0
              have r1 : w6.cell? ⟨gm, 1, none⟩ = some (.int .i64 m.inc) := HM6.out.cell 1
              have r2 : w6.cell? ⟨gm, 2, none⟩ = some (.int .i64 m.epoch) := HM6.out.cell 2
              have r3 : w6.cell? ⟨gm, 3, none⟩ = some (.int .i64 m.till) := HM6.out.cell 3
              clear b6 HM5 HX5 HB5 HY5 q0 q1 q2 q3
              go_wp2_with fail
              exact ⟨⟨_, _, _, q + 1, rfl, rfl, rfl, by go_num, by omega, HX6.out.below (bl_alloc (Below.refl _ _)), HB6.out.alloc _, HY6.out.alloc HY6.out.size _⟩, by simp [intOf]; omega⟩
end Go.Proofs.YtahdeighocmijaaDoor
