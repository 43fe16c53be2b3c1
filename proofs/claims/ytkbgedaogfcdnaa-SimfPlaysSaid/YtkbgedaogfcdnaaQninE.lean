/- The document's files (fettleref9): a file that is written. -/
import Derived.Test.YtkbgedaogfcdnaaQninD
import Derived.Test.YtkbgedaogfcdnaaLast2
namespace Go.Proofs.Ytkbgedaogfcdnaa
set_option linter.unusedSimpArgs false
set_option linter.unusedVariables false
open Go.RowKit
open Crc (Bytes)

/-- The row behind a writing. -/
structure QSet (w W : World) (base qb n : Nat) (xs : List Qe) (room last cut : Int) (s : ByteArray) (l : List Int) : Prop where
  ex : ∃ A' n' c' i x, x.nm = s ∧ x.b = l ∧ x.st = last + 1 ∧ QB W base qb A' n' c' ((wo s xs).take i ++ [x] ++ (wo s xs).drop i) room (last + 1) cut ∧ n' ≤ n + 1 ∧
    (∀ (j : Nat) (y : Qe), j < i → (wo s xs)[j]? = some y → y.key < s.data.toList) ∧ (∀ y, (wo s xs)[i]? = some y → ¬ y.key < s.data.toList)
  only : Only [qb] w W
theorem QB.setc {W : World} {base qb n c : Nat} {A : Option Addr} {xs : List Qe} {room last cut : Int} (h : QB W base qb A n c xs room last cut) (i : Nat) (v : Value) {r2 l2 c2 : Int}
    (he : ([.slice A n c, .int .i64 room, .int .i64 last, .int .i64 cut] : List Value).set i v = [.slice A n c, .int .i64 r2, .int .i64 l2, .int .i64 c2]) : QB (W.setCell ⟨qb, i, none⟩ v) base qb A n c xs r2 l2 c2 := by
  refine ⟨by rw [← he]; exact h.blk.set_ i v, h.row.only ((Only.refl [qb] W).setCell (p := ⟨qb, i, none⟩) (.inl (by simp)) _) (fun b hb => ?_), h.n_⟩
  simp at hb
  subst hb
  exact ⟨_, _, _, h.blk.at_, by decide, by decide⟩
theorem qes : (Try.prog.info? 58).map (·.size) = some 3 := by kernel_rfl
theorem qfl_one' (xs : List Qe) : ∀ u ∈ qfl xs, u.oneCell' = true := by
  intro u hu
  unfold qfl at hu
  rw [List.mem_flatten] at hu
  obtain ⟨cs, hcs, hu⟩ := hu
  obtain ⟨x, _, rfl⟩ := List.mem_map.1 hcs
  simp [Qe.cells] at hu
  rcases hu with rfl | rfl | rfl <;> rfl
theorem own_bs9 {w : World} {base n c : Nat} {l : List Int} {A : Option Addr} (h : Own w base 5 1 A n c (ints .u8 l)) (hb : Bytes l) (hl : n ≤ 140737488355328) : Bs w A n l := ⟨h.rd, hb, hl⟩
theorem own_ne9 {w : World} {base : Nat} {e t : TypeId} {size n c g : Nat} {A : Option Addr} {xs cs : List Value} (h : Own w base e size A n c xs) (hb : Blk w g t cs) (ht : t ≠ e) : ob A ≠ some g := fun hg => by
  obtain ⟨cs', fr, e2⟩ := own_at h hg
  rw [hb.at_] at e2
  injection e2 with e2
  injection e2 with _ e3
  exact ht e3
theorem bl_set3 {B g : Nat} {w W : World} (h : Below B w W) (hg : B ≤ g) (v0 v1 v2 : Value) : Below B w (((W.setCell ⟨g, 0, none⟩ v0).setCell ⟨g, 1, none⟩ v1).setCell ⟨g, 2, none⟩ v2) :=
  ((h.setCell (p := ⟨g, 0, none⟩) hg v0).setCell (p := ⟨g, 1, none⟩) hg v1).setCell (p := ⟨g, 2, none⟩) hg v2
theorem own_set3 {w : World} {base : Nat} {e : TypeId} {size n c g : Nat} {A : Option Addr} {xs : List Value} (h : Own w base e size A n c xs) (hg : ob A ≠ some g) (v0 v1 v2 : Value) : Own (((w.setCell ⟨g, 0, none⟩ v0).setCell ⟨g, 1, none⟩ v1).setCell ⟨g, 2, none⟩ v2) base e size A n c xs :=
  ((h.setCell (p := ⟨g, 0, none⟩) hg v0).setCell (p := ⟨g, 1, none⟩) hg v1).setCell (p := ⟨g, 2, none⟩) hg v2
theorem set_fin {w Wb w7 : World} {base qb n n1 c1 k m yc zc3 : Nat} {xs ys : List Qe} {room last cut : Int} {s : ByteArray} {l : List Int} {A1 Y Z3 : Option Addr}
    (hys : wo s xs = ys) (hlo : ∀ (j : Nat) (y : Qe), j < k → ys[j]? = some y → y.key < s.data.toList) (hhi : ∀ y, ys[k]? = some y → ¬ y.key < s.data.toList) (h3 : QB Wb base qb A1 n1 c1 ys room (last + 1) cut) (o3 : Only [qb] w Wb)
    (hx : Qe.ok Wb ⟨s, Y, m, yc, l, last + 1⟩) (hb : Below Wb.heap.size Wb w7) (hz : Own w7 Wb.heap.size 58 3 Z3 (k + 1 + (n1 - k)) zc3 (qfl (ys.take k) ++ Qe.cells ⟨s, Y, m, yc, l, last + 1⟩ ++ qfl (ys.drop k))) (hb3 : base ≤ Wb.heap.size) (hl : ys.length = n1) (hk : k ≤ n1) (hn1 : n1 ≤ n) (hn5 : n ≤ 50000) :
    QSet w (w7.setCell ⟨qb, 0, none⟩ (.slice Z3 (k + 1 + (n1 - k)) zc3)) base qb n xs room last cut s l := by
  have hbk := h3.blk.below hb
  have hrow : QRow w7 base Z3 (k + 1 + (n1 - k)) zc3 (ys.take k ++ [⟨s, Y, m, yc, l, last + 1⟩] ++ ys.drop k) := by
    refine ⟨by rw [qfl_app, qfl_app, qfl_one]; exact hz.more hb3, fun y hy => ?_⟩
    rw [List.mem_append, List.mem_append, List.mem_singleton] at hy
    rcases hy with (hy | rfl) | hy
    · exact (h3.row.ok y (List.mem_of_mem_take hy)).below hb
    · exact hx.below hb
    · exact (h3.row.ok y (List.mem_of_mem_drop hy)).below hb
  refine ⟨⟨Z3, k + 1 + (n1 - k), zc3, k, ⟨s, Y, m, yc, l, last + 1⟩, rfl, rfl, rfl, ?_, by omega, by rw [hys]; exact hlo, by rw [hys]; exact hhi⟩, (o3.trans (Only.of_below hb [qb])).setCell (p := ⟨qb, 0, none⟩) (.inl (by simp)) _⟩
  rw [hys]
  refine ⟨hbk.set_ 0 _, hrow.only ((Only.refl [qb] w7).setCell (p := ⟨qb, 0, none⟩) (.inl (by simp)) _) (fun b hb => ?_), by omega⟩
  simp at hb
  subst hb
  exact ⟨_, _, _, hbk.at_, by decide, by decide⟩
section
variable {w : World} {base qb n c : Nat} {A : Option Addr} {xs : List Qe} {room last cut : Int}
set_option maxRecDepth 100000 in
set_option maxHeartbeats 4000000 in
theorem qset_any (s : ByteArray) (l : List Int) (B : Option Addr) (m d : Nat) (hbs : base ≤ w.heap.size) (h : QB w base qb A n c xs room last cut) (hb : Bs w B m l) (hu : ∀ ad, B = some ad → 0 < m → ad.block ≠ qb) (hm : m ≤ 10000000000) (hl0 : 0 ≤ last) (hl1 : last ≤ 1000000000) (hn5 : n ≤ 50000) :
    Calls Try.prog 40 #[.pointer (some ⟨qb, 0, none⟩), .string s, .slice B m d] w fun e w' => e = .returned (.int .i64 (last + 1)) ∧ QSet w w' base qb n xs room last cut s l := by
  have H := Lib.hid h
  have HB := Lib.hid hb
  have HU := Lib.hid hu
  clear h hb hu
  go_enter Try.func40, Try.ntmps40
  go_wp2_with fail
  refine (qgone_any s hbs H.out).mono ?_
  rintro e w1 ⟨rfl, ⟨A1, n1, c1, h1, hn1⟩, o1⟩
  have hnu : ∀ ad, B = some ad → 0 < m → ad.block ∉ [qb] := fun ad hA h0 hmm => by simp at hmm; exact HU.out ad hA h0 hmm
  have HB1 := Lib.hid (HB.out.only o1 hnu)
  have H1 := Lib.hid h1
  have O1 := Lib.hid o1
  have q2 : w1.cell? ⟨qb, 2, none⟩ = some (.int .i64 last) := h1.blk.cell 2
  have z2 := h1.blk.frozen 2
  have hw1 : IntKind.i64.wrap (last + 1) = last + 1 := by rw [IntKind.wrap_i64]; omega
  clear h1 o1
  go_upto_block 0 with fail
  refine at_world (fun W => QB W base qb A1 n1 c1 (wo s xs) room (last + 1) cut ∧ Bs W B m l ∧ Only [qb] w W) ⟨H1.out.setc 2 _ rfl, HB1.out.only ((Only.refl [qb] w1).setCell (p := ⟨qb, 2, none⟩) (.inl (by simp)) _) hnu, O1.out.setCell (p := ⟨qb, 2, none⟩) (.inl (by simp)) _⟩ ?_
  rintro W ⟨h2, b2, o2⟩
  have H2 := Lib.hid h2
  have HB2 := Lib.hid b2
  have O2 := Lib.hid o2
  have hbw : base ≤ W.heap.size := Nat.le_trans hbs o2.size
  have hl2 := h2.row.len
  have c0 : W.cell? ⟨qb, 0, none⟩ = some (.slice A1 n1 c1) := h2.blk.cell 0
  clear h2 b2 o2 H1 HB1 O1 q2 z2 hnu
  obtain ⟨ys, hys⟩ : ∃ ys, wo s xs = ys := ⟨_, rfl⟩
  rw [hys] at H2 hl2
  go_cut [7] (fun v wx => ∃ k : Nat, v = .int .i64 k ∧ wx = W ∧ k ≤ n1 ∧ (∀ (j : Nat) (y : Qe), j < k → ys[j]? = some y → y.key < s.data.toList) ∧ (∀ y, ys[k]? = some y → ¬ y.key < s.data.toList))
  case first =>
    go_wp2_with fail
    go_loopw [7] (fun i wr => ∃ k : Nat, k ≤ n1 ∧ i = .int .i64 k ∧ W = wr ∧ Hid (∀ (j : Nat) (y : Qe), j < k → ys[j]? = some y → y.key < s.data.toList)) (fun i _ => n1 - (intOf i).toNat)
    case atStart => exact ⟨0, Nat.zero_le _, rfl, rfl, Lib.hid fun j y hj => absurd hj (by omega)⟩
    case round =>
      obtain ⟨k, hk, rfl, rfl, hlo⟩ := hrel
      by_cases hlt : k < n1
      · have hlt' : (k : Int) < (n1 : Int) := by omega
        obtain ⟨g, x, rfl, hg, hx, f1, f2, f3, hok⟩ := H2.out.row.get hlt
        have HX := Lib.hid hx
        clear hx hok
        by_cases hkey : x.key < s.data.toList
        · have hc1 : Op.bytesLess x.nm.toList s.toList = true := by rw [bytesLess_eq, ByteArray.toList_eq, ByteArray.toList_eq]; exact decide_eq_true hkey
          have HK := Lib.hid hkey
          clear hkey
          go_wp2_with fail
          refine ⟨⟨k + 1, by omega, by go_num, by trivial, Lib.hid fun j y hj hy => ?_⟩, by simp [intOf]; omega⟩
          by_cases hjk : j = k
          · subst hjk; rw [HX.out] at hy; injection hy with hy; rw [← hy]; exact HK.out
          · exact hlo.out j y (by omega) hy
        · have hc1 : Op.bytesLess x.nm.toList s.toList = false := by rw [bytesLess_eq, ByteArray.toList_eq, ByteArray.toList_eq]; exact decide_eq_false hkey
          have HK := Lib.hid hkey
          clear hkey
          go_wp2_with fail
          go_meet
          exact ⟨k, rfl, rfl, hk, hlo.out, fun y hy => by rw [HX.out] at hy; injection hy with hy; rw [← hy]; exact HK.out⟩
      · have hlt' : ¬ (k : Int) < (n1 : Int) := by omega
        go_wp2_with fail
        go_meet
        exact ⟨k, rfl, rfl, hk, hlo.out, fun y hy => absurd (List.getElem?_eq_some_iff.1 hy).1 (by omega)⟩
  case rest =>
    obtain ⟨k, rfl, hwW, hk, hlo, hhi⟩ := hcut
    subst hwW
    have HLo := Lib.hid hlo
    have HHi := Lib.hid hhi
    clear hlo hhi
    obtain ⟨Wa, hWa⟩ : ∃ Wa, Wa = wc := ⟨_, rfl⟩
    subst hWa
    go_upto_region 6 with fail
    have c2 : Wa.cell? ⟨qb, 2, none⟩ = some (.int .i64 (last + 1)) := H2.out.blk.cell 2
    have HBel := Lib.hid (Below.refl Wa.heap.size Wa)
    have HS := Lib.hid (fun (w' : World) (hb : Below Wa.heap.size Wa w') => (show w'.cell? ⟨qb, 2, none⟩ = some (.int .i64 (last + 1)) ∧ Below Wa.heap.size Wa w' from ⟨(H2.out.blk.below hb).cell 2, hb⟩))
    go_cut [8] (fun v wx => ∃ gx Y yc, v = .pointer (some ⟨gx, 0, none⟩) ∧ Blk wx gx 58 [.string s, .slice Y m yc, .int .i64 (last + 1)] ∧ Own wx Wa.heap.size 5 1 Y m yc (ints .u8 l) ∧ Below Wa.heap.size Wa wx ∧ Wa.heap.size ≤ gx)
    case first =>
      have hlm := HB2.out.len
      (refine wp_region_held_drew (S := fun w' => w'.cell? ⟨qb, 2, none⟩ = some (.int .i64 (last + 1)) ∧ Below Wa.heap.size Wa w') (by kernel_rfl) (⟨c2, HBel.out.drew⟩) (fun hHeld => ?_))
      (refine wpAnyH_take (i := 0) (oi := _) (v := ?_) (ops_at rfl) (by kernel_rfl) (by kernel_rfl) (by kernel_rfl) (fun _ _ _ h => h) (Or.inl ⟨by rfl, ?_⟩) (by assumption) ?_; rotate_left; (focus (intro w hSw; (try dsimp only at hSw); go_simp; (try with_reducible rfl))); (try simp only [Act.put, List.setIfInBounds_toArray, List.set_cons_zero, List.set_cons_succ])); (refine wpAnyH_take (i := 2) (oi := _) (v := ?_) (ops_at rfl) (by kernel_rfl) (by kernel_rfl) (by kernel_rfl) (fun _ _ _ h => h) (Or.inl ⟨by rfl, ?_⟩) (by assumption) ?_; rotate_left; (focus (intro w hSw; (try dsimp only at hSw); go_simp; (try with_reducible rfl))); (try simp only [Act.put, List.setIfInBounds_toArray, List.set_cons_zero, List.set_cons_succ])); (refine wpAnyH_take (i := 4) (oi := _) (v := ?_) (ops_at rfl) (by kernel_rfl) (by kernel_rfl) (by kernel_rfl) (fun _ _ _ h => h) (Or.inl ⟨by rfl, ?_⟩) (by assumption) ?_; rotate_left; (focus (intro w hSw; (try dsimp only at hSw); go_simp; (try with_reducible rfl))); (try simp only [Act.put, List.setIfInBounds_toArray, List.set_cons_zero, List.set_cons_succ])); (refine wpAnyH_take (i := 5) (oi := _) (v := ?_) (ops_at rfl) (by kernel_rfl) (by kernel_rfl) (by kernel_rfl) (fun _ _ _ h => h) (Or.inl ⟨by rfl, ?_⟩) (by assumption) ?_; rotate_left; (focus (intro w hSw; (try dsimp only at hSw); go_simp; (try with_reducible rfl))); (try simp only [Act.put, List.setIfInBounds_toArray, List.set_cons_zero, List.set_cons_succ])); (refine wpAnyH_take (i := 6) (oi := _) (v := ?_) (ops_at rfl) (by kernel_rfl) (by kernel_rfl) (by kernel_rfl) (fun _ _ _ h => h) (Or.inl ⟨by rfl, ?_⟩) (by assumption) ?_; rotate_left; (focus (intro w hSw; (try dsimp only at hSw); go_simp; (try with_reducible rfl))); (try simp only [Act.put, List.setIfInBounds_toArray, List.set_cons_zero, List.set_cons_succ])); (refine wpAnyH_take (i := 7) (oi := _) (v := ?_) (ops_at rfl) (by kernel_rfl) (by kernel_rfl) (by kernel_rfl) (fun _ _ _ h => h) (Or.inl ⟨by rfl, ?_⟩) (by assumption) ?_; rotate_left; (focus (intro w hSw; (try dsimp only at hSw); go_simp; (try with_reducible rfl))); (try simp only [Act.put, List.setIfInBounds_toArray, List.set_cons_zero, List.set_cons_succ]))
      (refine wpAnyH_ready (rs := [1, 9]) (by kernel_rfl) (by simp) (AllReadyH.cons (ops_at rfl) (fun K hK => ?_) (AllReadyH.cons (ops_at rfl) (fun K hK => ?_) AllReadyH.nil)))
      · (go_simp; skip; refine hK.out _ _ (HS.out _ (HBel.out.drew.alloc (Nat.le_refl _) _)) (fun hHeld => ?_); clear hK K; (try simp only [Act.put, List.setIfInBounds_toArray, List.set_cons_zero, List.set_cons_succ]))
        (refine wpAnyH_ready (rs := [3, 9]) (by kernel_rfl) (by simp) (AllReadyH.cons (ops_at rfl) (fun K hK => ?_) (AllReadyH.cons (ops_at rfl) (fun K hK => ?_) AllReadyH.nil)))
        · rw [if_pos (by rfl)]
          refine wp_app (.tmp 41) (.tmp 42) 30 rfl Try.underlying30 u8i rfl (by decide) rfl (Own.lit Wa.drew [] 5 1 0 (Nat.le_refl _) rfl (by decide)) rfl (HB2.out.below hHeld.2).rd (ints_one _ _) (by omega) (by omega) (by simp) (Nat.zero_add _) (List.nil_append _) ?_
          intro Y yc w5 hown5 hg5 _
          have HB5 := Lib.hid (hHeld.2.grown hg5 (by simp) (fun j hj => by cases hj; exact Nat.le_refl _))
          have HY5 := Lib.hid (show Own w5 Wa.heap.size 5 1 Y m yc (ints .u8 l) from hown5)
          refine hK.out _ _ (HS.out _ HB5.out) (fun hHeld => ?_)
          clear hK K
          (try simp only [Act.put, List.setIfInBounds_toArray, List.set_cons_zero, List.set_cons_succ])
          (refine wpAnyH_take (i := 8) (oi := _) (v := ?_) (ops_at rfl) (by kernel_rfl) (by kernel_rfl) (by kernel_rfl) (fun _ _ _ h => h) (Or.inl ⟨by rfl, ?_⟩) (by assumption) ?_; rotate_left; (focus (intro w hSw; (try dsimp only at hSw); go_simp; (try with_reducible rfl))); (try simp only [Act.put, List.setIfInBounds_toArray, List.set_cons_zero, List.set_cons_succ]))
          (refine wpAnyH_ready (rs := [9]) (by kernel_rfl) (by simp) (AllReadyH.cons (ops_at rfl) (fun K hK => ?_) AllReadyH.nil); go_simp; skip; refine hK.out _ _ (HS.out _ (hHeld.2.alloc hHeld.2.size _)) (fun hHeld => ?_); clear hK K; (try simp only [Act.put, List.setIfInBounds_toArray, List.set_cons_zero, List.set_cons_succ]))
          have hBx := Lib.hid (show Below Wa.heap.size Wa (w5.alloc (Obj.cells #[.string s, .slice Y m yc, .int .i64 (last + 1)] 58)) from HB5.out.alloc HB5.out.size _)
          (refine wpAnyH_ready (rs := [10]) (by kernel_rfl) (by simp) (AllReadyH.cons (ops_at rfl) (fun K hK => ?_) AllReadyH.nil); go_simp; skip; refine hK.out _ _ (HS.out _ hBx.out) (fun hHeld => ?_); clear hK K; (try simp only [Act.put, List.setIfInBounds_toArray, List.set_cons_zero, List.set_cons_succ]))
          (refine wpAnyH_done (by kernel_rfl) ?_ _)
          clear hHeld
          go_wp2_with fail
          go_meet
          exact ⟨_, Y, yc, rfl, blk_new rfl, HY5.out.alloc _, hBx.out, HB5.out.size⟩
        · (go_simp; skip; refine hK.out _ _ (HS.out _ (hHeld.2.alloc hHeld.2.size _)) (fun hHeld => ?_); clear hK K; (try simp only [Act.put, List.setIfInBounds_toArray, List.set_cons_zero, List.set_cons_succ]))
          (refine wpAnyH_ready (rs := [3]) (by kernel_rfl) (by simp) (AllReadyH.cons (ops_at rfl) (fun K hK => ?_) AllReadyH.nil); rw [if_pos (by rfl)]; refine wp_app (.tmp 41) (.tmp 42) 30 rfl Try.underlying30 u8i rfl (by decide) rfl ((Own.lit Wa.drew [] 5 1 0 (Nat.le_refl _) rfl (by decide)).alloc _) rfl (HB2.out.below hHeld.2).rd (ints_one _ _) (by omega) (by omega) (by simp; omega) (Nat.zero_add _) (List.nil_append _) ?_; intro Y yc w5 hown5 hg5 _; have HB5 := Lib.hid (hHeld.2.grown hg5 (by simp; omega) (fun j hj => by cases hj; exact Nat.le_refl _)); refine hK.out _ _ (HS.out _ HB5.out) (fun hHeld => ?_); clear hK K; (try simp only [Act.put, List.setIfInBounds_toArray, List.set_cons_zero, List.set_cons_succ]))
          have hgx : Blk w5 (Wa.heap.size + 1) 58 [.string ⟨#[]⟩, .slice none 0 0, .int .i64 0] := (blk_new (by simp)).keep (hg5.block _ (by simp) (by simp [ob]))
          have y0 : w5.cell? ⟨Wa.heap.size + 1, 0, none⟩ = some (.string ⟨#[]⟩) := hgx.cell 0
          have y1 : w5.cell? ⟨Wa.heap.size + 1, 1, none⟩ = some (.slice none 0 0) := hgx.cell 1
          have y2 : w5.cell? ⟨Wa.heap.size + 1, 2, none⟩ = some (.int .i64 0) := hgx.cell 2
          have z0 := hgx.frozen 0
          have z1 := hgx.frozen 1
          have z2 := hgx.frozen 2
          have hne := own_ne9 hown5 hgx (by decide)
          have HGX := Lib.hid hgx
          have HY5 := Lib.hid (show Own w5 Wa.heap.size 5 1 Y m yc (ints .u8 l) from hown5.more (by simp))
          have hge : Wa.heap.size ≤ Wa.heap.size + 1 := by omega
          have HBx := Lib.hid (bl_set3 HB5.out hge (.string s) (.slice Y m yc) (.int .i64 (last + 1)))
          clear hown5 hg5 hgx
          (refine wpAnyH_take (i := 8) (oi := _) (v := ?_) (ops_at rfl) (by kernel_rfl) (by kernel_rfl) (by kernel_rfl) (fun _ _ _ h => h) (Or.inl ⟨by rfl, ?_⟩) (by assumption) ?_; rotate_left; (focus (intro w hSw; (try dsimp only at hSw); go_simp; (try with_reducible rfl))); (try simp only [Act.put, List.setIfInBounds_toArray, List.set_cons_zero, List.set_cons_succ]))
          (refine wpAnyH_ready (rs := [10]) (by kernel_rfl) (by simp) (AllReadyH.cons (ops_at rfl) (fun K hK => ?_) AllReadyH.nil); go_simp; skip; refine hK.out _ _ (HS.out _ HBx.out) (fun hHeld => ?_); clear hK K; (try simp only [Act.put, List.setIfInBounds_toArray, List.set_cons_zero, List.set_cons_succ]))
          (refine wpAnyH_done (by kernel_rfl) ?_ _)
          clear hHeld
          go_wp2_with fail
          go_meet
          exact ⟨_, Y, yc, rfl, ((HGX.out.set_ 0 _).set_ 1 _).set_ 2 _, own_set3 HY5.out hne _ _ _, HBx.out, hge⟩
      · (go_simp; skip; refine hK.out _ _ (HS.out _ (HBel.out.drew.alloc (Nat.le_refl _) _)) (fun hHeld => ?_); clear hK K; (try simp only [Act.put, List.setIfInBounds_toArray, List.set_cons_zero, List.set_cons_succ]))
        (refine wpAnyH_ready (rs := [1]) (by kernel_rfl) (by simp) (AllReadyH.cons (ops_at rfl) (fun K hK => ?_) AllReadyH.nil); go_simp; skip; refine hK.out _ _ (HS.out _ (hHeld.2.alloc hHeld.2.size _)) (fun hHeld => ?_); clear hK K; (try simp only [Act.put, List.setIfInBounds_toArray, List.set_cons_zero, List.set_cons_succ]))
        have hX : Own ((Wa.alloc (Obj.cells #[.string ⟨#[]⟩, .slice none 0 0, .int .i64 0] 58)).alloc (Obj.cells #[] 5)).drew Wa.heap.size 5 1 (some ⟨Wa.heap.size + 1, 0, none⟩) 0 0 [] := by
          have := (Own.lit (base := Wa.heap.size) (Wa.alloc (Obj.cells #[.string ⟨#[]⟩, .slice none 0 0, .int .i64 0] 58)) [] 5 1 0 (by simp) rfl (by decide)).drew
          simpa using this
        (refine wpAnyH_ready (rs := [3]) (by kernel_rfl) (by simp) (AllReadyH.cons (ops_at rfl) (fun K hK => ?_) AllReadyH.nil); rw [if_pos (by rfl)]; refine wp_app (.tmp 41) (.tmp 42) 30 rfl Try.underlying30 u8i rfl (by decide) rfl hX rfl (HB2.out.below hHeld.2).rd (ints_one _ _) (by omega) (by omega) (by simp; omega) (Nat.zero_add _) (List.nil_append _) ?_; intro Y yc w5 hown5 hg5 _; have HB5 := Lib.hid (hHeld.2.grown hg5 (by simp; omega) (fun j hj => by cases hj; simp)); refine hK.out _ _ (HS.out _ HB5.out) (fun hHeld => ?_); clear hK K; (try simp only [Act.put, List.setIfInBounds_toArray, List.set_cons_zero, List.set_cons_succ]))
        have hgx : Blk w5 Wa.heap.size 58 [.string ⟨#[]⟩, .slice none 0 0, .int .i64 0] := by
          have h1 : Blk ((Wa.alloc (Obj.cells #[.string ⟨#[]⟩, .slice none 0 0, .int .i64 0] 58)).alloc (Obj.cells #[] 5)) Wa.heap.size 58 [.string ⟨#[]⟩, .slice none 0 0, .int .i64 0] := (blk_new rfl).alloc _
          exact h1.keep (hg5.block _ (by simp; omega) (by simp [ob]))
        have y0 : w5.cell? ⟨Wa.heap.size, 0, none⟩ = some (.string ⟨#[]⟩) := hgx.cell 0
        have y1 : w5.cell? ⟨Wa.heap.size, 1, none⟩ = some (.slice none 0 0) := hgx.cell 1
        have y2 : w5.cell? ⟨Wa.heap.size, 2, none⟩ = some (.int .i64 0) := hgx.cell 2
        have z0 := hgx.frozen 0
        have z1 := hgx.frozen 1
        have z2 := hgx.frozen 2
        have hne := own_ne9 hown5 hgx (by decide)
        have HGX := Lib.hid hgx
        have HY5 := Lib.hid (show Own w5 Wa.heap.size 5 1 Y m yc (ints .u8 l) from hown5.more (by simp))
        have hge : Wa.heap.size ≤ Wa.heap.size := by omega
        have HBx := Lib.hid (bl_set3 HB5.out hge (.string s) (.slice Y m yc) (.int .i64 (last + 1)))
        clear hown5 hg5 hgx
        (refine wpAnyH_take (i := 8) (oi := _) (v := ?_) (ops_at rfl) (by kernel_rfl) (by kernel_rfl) (by kernel_rfl) (fun _ _ _ h => h) (Or.inl ⟨by rfl, ?_⟩) (by assumption) ?_; rotate_left; (focus (intro w hSw; (try dsimp only at hSw); go_simp; (try with_reducible rfl))); (try simp only [Act.put, List.setIfInBounds_toArray, List.set_cons_zero, List.set_cons_succ]))
        (refine wpAnyH_ready (rs := [10]) (by kernel_rfl) (by simp) (AllReadyH.cons (ops_at rfl) (fun K hK => ?_) AllReadyH.nil); go_simp; skip; refine hK.out _ _ (HS.out _ HBx.out) (fun hHeld => ?_); clear hK K; (try simp only [Act.put, List.setIfInBounds_toArray, List.set_cons_zero, List.set_cons_succ]))
        (refine wpAnyH_done (by kernel_rfl) ?_ _)
        clear hHeld
        go_wp2_with fail
        go_meet
        exact ⟨_, Y, yc, rfl, ((HGX.out.set_ 0 _).set_ 1 _).set_ 2 _, own_set3 HY5.out hne _ _ _, HBx.out, hge⟩
    case rest =>
      obtain ⟨gx, Y, yc, rfl, hbx, hY, hbel, hgx⟩ := hcut
      obtain ⟨Wb, hWb⟩ : ∃ Wb, Wb = wc := ⟨_, rfl⟩
      subst hWb
      have H3 := Lib.hid (H2.out.below hbel)
      have O3 := Lib.hid (O2.out.trans (Only.of_below hbel [qb]))
      have HBX := Lib.hid hbx
      have HXOK := Lib.hid (show Qe.ok Wb ⟨s, Y, m, yc, l, last + 1⟩ from ⟨own_bs9 hY HB2.out.by_ (show m ≤ _ by omega), U8.of_own hY, hY.cap⟩)
      have hb3 : base ≤ Wb.heap.size := Nat.le_trans hbw hbel.size
      have hcap := H3.out.row.own.cap
      clear hbx hY hbel hgx H2 HB2 O2 HS HBel c2 c0
      obtain ⟨A2, hA2⟩ : ∃ A2, (if c1 = k then A1 else A1.map (·.add (k * 3))) = A2 := ⟨_, rfl⟩
      have hs1 := fun w => slice_upto (P := Try.prog) (A := A1) (n := n1) (c := c1) (kk := .i64) (k := k) Try.underlying54 qes hk hcap w
      have hs2 := fun w => slice_from (P := Try.prog) (A := A1) (n := n1) (c := c1) (kk := .i64) (k := k) Try.underlying54 qes hk hcap w
      rw [hA2] at hs2
      have HTk := Lib.hid (show Rd Wb 3 A1 k (qfl (ys.take k)) by rw [qfl_take]; exact H3.out.row.own.rd.take hk)
      have HDr := Lib.hid (show Rd Wb 3 A2 (n1 - k) (qfl (ys.drop k)) by rw [qfl_drop]; exact (H3.out.row.own.rd.from_ hk hcap hA2).1)
      have HS := Lib.hid (fun (w' : World) (hb : Below Wb.heap.size Wb w') => (show w'.cell? ⟨qb, 0, none⟩ = some (.slice A1 n1 c1) ∧ w'.cell? ⟨gx, 0, none⟩ = some (.string s) ∧ w'.cell? ⟨gx, 1, none⟩ = some (.slice Y m yc) ∧ w'.cell? ⟨gx, 2, none⟩ = some (.int .i64 (last + 1)) ∧ Below Wb.heap.size Wb w' from ⟨(H3.out.blk.below hb).cell 0, (HBX.out.below hb).cell 0, (HBX.out.below hb).cell 1, (HBX.out.below hb).cell 2, hb⟩))
      clear hA2
      go_upto_region 7 with fail
      go_cut [7] (fun v wx => QSet w wx base qb n xs room last cut s l)
      case first =>
        have h00 := HS.out _ (Below.refl _ _).drew
        (refine wp_regionL (S := fun w' => w'.cell? ⟨qb, 0, none⟩ = some (.slice A1 n1 c1) ∧ w'.cell? ⟨gx, 0, none⟩ = some (.string s) ∧ w'.cell? ⟨gx, 1, none⟩ = some (.slice Y m yc) ∧ w'.cell? ⟨gx, 2, none⟩ = some (.int .i64 (last + 1)) ∧ Below Wb.heap.size Wb w') [21] (by kernel_rfl) (h00) (fun hHeld => ?_))
        (refine wpL_take (i := 0) (oi := _) (v := ?_) (ops_at rfl) (by kernel_rfl) (by kernel_rfl) (by kernel_rfl) (fun _ _ _ h => h) (by kernel_rfl) (Or.inl ⟨by rfl, ?_⟩) (by assumption) ?_; rotate_left; (focus (intro w hSw; (try dsimp only at hSw); go_simp; (try with_reducible rfl))); (try simp only [Act.put, List.setIfInBounds_toArray, List.set_cons_zero, List.set_cons_succ])); (refine wpL_take (i := 2) (oi := _) (v := ?_) (ops_at rfl) (by kernel_rfl) (by kernel_rfl) (by kernel_rfl) (fun _ _ _ h => h) (by kernel_rfl) (Or.inl ⟨by rfl, ?_⟩) (by assumption) ?_; rotate_left; (focus (intro w hSw; (try dsimp only at hSw); go_simp; (try with_reducible rfl))); (try simp only [Act.put, List.setIfInBounds_toArray, List.set_cons_zero, List.set_cons_succ])); (refine wpL_take (i := 3) (oi := _) (v := ?_) (ops_at rfl) (by kernel_rfl) (by kernel_rfl) (by kernel_rfl) (fun _ _ _ h => h) (by kernel_rfl) (Or.inl ⟨by rfl, ?_⟩) (by assumption) ?_; rotate_left; (focus (intro w hSw; (try dsimp only at hSw); go_simp; (try with_reducible rfl))); (try simp only [Act.put, List.setIfInBounds_toArray, List.set_cons_zero, List.set_cons_succ])); (refine wpL_take (i := 4) (oi := _) (v := ?_) (ops_at rfl) (by kernel_rfl) (by kernel_rfl) (by kernel_rfl) (fun _ _ _ h => h) (by kernel_rfl) (Or.inl ⟨by rfl, ?_⟩) (by assumption) ?_; rotate_left; (focus (intro w hSw; (try dsimp only at hSw); go_simp; (try with_reducible rfl))); (try simp only [Act.put, List.setIfInBounds_toArray, List.set_cons_zero, List.set_cons_succ])); (refine wpL_take (i := 5) (oi := _) (v := ?_) (ops_at rfl) (by kernel_rfl) (by kernel_rfl) (by kernel_rfl) (fun _ _ _ h => h) (by kernel_rfl) (Or.inl ⟨by rfl, ?_⟩) (by assumption) ?_; rotate_left; (focus (intro w hSw; (try dsimp only at hSw); go_simp; (try with_reducible rfl))); (try simp only [Act.put, List.setIfInBounds_toArray, List.set_cons_zero, List.set_cons_succ])); (refine wpL_take (i := 6) (oi := _) (v := ?_) (ops_at rfl) (by kernel_rfl) (by kernel_rfl) (by kernel_rfl) (fun _ _ _ h => h) (by kernel_rfl) (Or.inl ⟨by rfl, ?_⟩) (by assumption) ?_; rotate_left; (focus (intro w hSw; (try dsimp only at hSw); go_simp; (try with_reducible rfl))); (try simp only [Act.put, List.setIfInBounds_toArray, List.set_cons_zero, List.set_cons_succ])); (refine wpL_take (i := 7) (oi := _) (v := ?_) (ops_at rfl) (by kernel_rfl) (by kernel_rfl) (by kernel_rfl) (fun _ _ _ h => h) (by kernel_rfl) (Or.inl ⟨by rfl, ?_⟩) (by assumption) ?_; rotate_left; (focus (intro w hSw; (try dsimp only at hSw); go_simp; (try with_reducible rfl))); (try simp only [Act.put, List.setIfInBounds_toArray, List.set_cons_zero, List.set_cons_succ])); (refine wpL_take (i := 9) (oi := _) (v := ?_) (ops_at rfl) (by kernel_rfl) (by kernel_rfl) (by kernel_rfl) (fun _ _ _ h => h) (by kernel_rfl) (Or.inl ⟨by rfl, ?_⟩) (by assumption) ?_; rotate_left; (focus (intro w hSw; (try dsimp only at hSw); go_simp; (try with_reducible rfl))); (try simp only [Act.put, List.setIfInBounds_toArray, List.set_cons_zero, List.set_cons_succ])); (refine wpL_take (i := 12) (oi := _) (v := ?_) (ops_at rfl) (by kernel_rfl) (by kernel_rfl) (by kernel_rfl) (fun _ _ _ h => h) (by kernel_rfl) (Or.inl ⟨by rfl, ?_⟩) (by assumption) ?_; rotate_left; (focus (intro w hSw; (try dsimp only at hSw); go_simp; (try with_reducible rfl))); (try simp only [Act.put, List.setIfInBounds_toArray, List.set_cons_zero, List.set_cons_succ])); (refine wpL_take (i := 13) (oi := _) (v := ?_) (ops_at rfl) (by kernel_rfl) (by kernel_rfl) (by kernel_rfl) (fun _ _ _ h => h) (by kernel_rfl) (Or.inl ⟨by rfl, ?_⟩) (by assumption) ?_; rotate_left; (focus (intro w hSw; (try dsimp only at hSw); go_simp; (try with_reducible rfl))); (try simp only [Act.put, List.setIfInBounds_toArray, List.set_cons_zero, List.set_cons_succ])); (refine wpL_take (i := 14) (oi := _) (v := ?_) (ops_at rfl) (by kernel_rfl) (by kernel_rfl) (by kernel_rfl) (fun _ _ _ h => h) (by kernel_rfl) (Or.inl ⟨by rfl, ?_⟩) (by assumption) ?_; rotate_left; (focus (intro w hSw; (try dsimp only at hSw); go_simp; (try with_reducible rfl))); (try simp only [Act.put, List.setIfInBounds_toArray, List.set_cons_zero, List.set_cons_succ])); (refine wpL_take (i := 15) (oi := _) (v := ?_) (ops_at rfl) (by kernel_rfl) (by kernel_rfl) (by kernel_rfl) (fun _ _ _ h => h) (by kernel_rfl) (Or.inl ⟨by rfl, ?_⟩) (by assumption) ?_; rotate_left; (focus (intro w hSw; (try dsimp only at hSw); go_simp; (try with_reducible rfl))); (try simp only [Act.put, List.setIfInBounds_toArray, List.set_cons_zero, List.set_cons_succ])); (refine wpL_take (i := 16) (oi := _) (v := ?_) (ops_at rfl) (by kernel_rfl) (by kernel_rfl) (by kernel_rfl) (fun _ _ _ h => h) (by kernel_rfl) (Or.inl ⟨by rfl, ?_⟩) (by assumption) ?_; rotate_left; (focus (intro w hSw; (try dsimp only at hSw); go_simp; (try with_reducible rfl))); (try simp only [Act.put, List.setIfInBounds_toArray, List.set_cons_zero, List.set_cons_succ])); (refine wpL_take (i := 17) (oi := _) (v := ?_) (ops_at rfl) (by kernel_rfl) (by kernel_rfl) (by kernel_rfl) (fun _ _ _ h => h) (by kernel_rfl) (Or.inl ⟨by rfl, ?_⟩) (by assumption) ?_; rotate_left; (focus (intro w hSw; (try dsimp only at hSw); go_simp; (try with_reducible rfl))); (try simp only [Act.put, List.setIfInBounds_toArray, List.set_cons_zero, List.set_cons_succ]))
        clear h00
        (refine wpL_two (i := 1) (j := 10) (by kernel_rfl) (ops_at rfl) (ops_at rfl) (fun K hK => ?_) (fun K hK => ?_))
        · (go_simp; skip; refine hK.out _ _ (HS.out _ (hHeld.2.2.2.2.alloc hHeld.2.2.2.2.size _)) (fun hHeld => ?_); clear hK K; (try simp only [Act.put, List.setIfInBounds_toArray, List.set_cons_zero, List.set_cons_succ]))
          (refine wpL_two (i := 8) (j := 10) (by kernel_rfl) (ops_at rfl) (ops_at rfl) (fun K hK => ?_) (fun K hK => ?_))
          · rw [if_pos (by rfl)]
            refine wp_app (.tmp 50) (.tmp 56) 54 rfl Try.underlying54 qeInfo rfl (by decide) rfl (Own.lit Wb.drew [] 58 3 0 (Nat.le_refl _) rfl (by decide)) rfl (HTk.out.below hHeld.2.2.2.2) (qfl_one' _) (by omega) (by omega) (by simp) (Nat.zero_add _) (List.nil_append _) ?_
            intro Z zc w5 hz5 hg5 _
            have HB4 := Lib.hid (hHeld.2.2.2.2.grown hg5 (by simp) (fun j hj => by cases hj; exact Nat.le_refl _))
            refine hK.out _ _ (HS.out _ HB4.out) (fun hHeld => ?_)
            clear hK K
            (try simp only [Act.put, List.setIfInBounds_toArray, List.set_cons_zero, List.set_cons_succ])
            have HZ := Lib.hid (show Own (w5.alloc (Obj.cells #[.string s, .slice Y m yc, .int .i64 (last + 1)] 58)) Wb.heap.size 58 3 Z k zc (qfl (ys.take k)) from (hz5.more (Nat.le_refl _)).alloc _)
            have HX5 := Lib.hid (show Rd (w5.alloc (Obj.cells #[.string s, .slice Y m yc, .int .i64 (last + 1)] 58)) 3 (some ⟨w5.heap.size, 0, none⟩) 1 (Qe.cells ⟨s, Y, m, yc, l, last + 1⟩) from (blk_new rfl).rd rfl)
            have HB5 := Lib.hid (show Below Wb.heap.size Wb (w5.alloc (Obj.cells #[.string s, .slice Y m yc, .int .i64 (last + 1)] 58)) from HB4.out.alloc HB4.out.size _)
            clear hz5 hg5 HB4
            (refine wpL_one (i := 10) (by kernel_rfl) (ops_at rfl) (fun K hK => ?_); go_simp; skip; refine hK.out _ _ (HS.out _ HB5.out) (fun hHeld => ?_); clear hK K; (try simp only [Act.put, List.setIfInBounds_toArray, List.set_cons_zero, List.set_cons_succ]))
            (refine wpL_one (i := 11) (by kernel_rfl) (ops_at rfl) (fun K hK => ?_); rw [if_pos (by rfl)]; refine wp_app (.tmp 57) (.tmp 59) 54 rfl Try.underlying54 qeInfo rfl (by decide) rfl HZ.out rfl HX5.out (by rw [← qfl_one]; exact qfl_one' _) (by omega) (by omega) HB5.out.size rfl rfl ?_; intro Z2 zc2 w6 hz2 hg6 _; have HB6 := Lib.hid (HB5.out.grown hg6 HB5.out.size (fun j hj => (HZ.out.blk j hj).1)); have HZ2 := Lib.hid (show Own w6 Wb.heap.size 58 3 Z2 (k + 1) zc2 (qfl (ys.take k) ++ Qe.cells ⟨s, Y, m, yc, l, last + 1⟩) from hz2); clear hz2 hg6; refine hK.out _ _ (HS.out _ HB6.out) (fun hHeld => ?_); clear hK K; (try simp only [Act.put, List.setIfInBounds_toArray, List.set_cons_zero, List.set_cons_succ]))
            (refine wpL_one (i := 18) (by kernel_rfl) (ops_at rfl) (fun K hK => ?_); rw [if_pos (by rfl)]; refine wp_app (.tmp 60) (.tmp 66) 54 rfl Try.underlying54 qeInfo rfl (by decide) rfl HZ2.out rfl (HDr.out.below HB6.out) (qfl_one' _) (by omega) (by omega) HB6.out.size rfl rfl ?_; intro Z3 zc3 w7 hz3 hg7 _; have HB7 := Lib.hid (HB6.out.grown hg7 HB6.out.size (fun j hj => (HZ2.out.blk j hj).1)); have HZ3 := Lib.hid (show Own w7 Wb.heap.size 58 3 Z3 (k + 1 + (n1 - k)) zc3 (qfl (ys.take k) ++ Qe.cells ⟨s, Y, m, yc, l, last + 1⟩ ++ qfl (ys.drop k)) from hz3); clear hz3 hg7; refine hK.out _ _ (HS.out _ HB7.out) (fun hHeld => ?_); clear hK K; (try simp only [Act.put, List.setIfInBounds_toArray, List.set_cons_zero, List.set_cons_succ]))
            have zq : w7.frozen? ⟨qb, 0, none⟩ = false := (H3.out.blk.below HB7.out).frozen 0
            (refine wpL_one (i := 19) (by kernel_rfl) (ops_at rfl) (fun K hK => ?_); go_simp; skip; refine hK.out _ _ (hHeld) (fun hHeld => ?_); clear hK K; (try simp only [Act.put, List.setIfInBounds_toArray, List.set_cons_zero, List.set_cons_succ]))
            (refine wpL_one (i := 20) (by kernel_rfl) (ops_at rfl) (fun K hK => ?_); go_simp; skip; refine hK.out _ _ (hHeld) (fun hHeld => ?_); clear hK K; (try simp only [Act.put, List.setIfInBounds_toArray, List.set_cons_zero, List.set_cons_succ]))
            (refine wpL_late (i := 21) (by kernel_rfl) (by simp) (ops_at rfl) (fun K hK => ?_); go_simp; skip; refine hK.out _ _ ?_; clear hK K; (try simp only [Act.put, List.setIfInBounds_toArray, List.set_cons_zero, List.set_cons_succ]))
            (refine wpL_done (by kernel_rfl) ?_ _)
            go_wp2_with fail
            go_meet
            exact set_fin hys HLo.out HHi.out H3.out O3.out HXOK.out HB7.out HZ3.out hb3 hl2 hk hn1 hn5
          · (go_simp; skip; refine hK.out _ _ (HS.out _ (hHeld.2.2.2.2.alloc hHeld.2.2.2.2.size _)) (fun hHeld => ?_); clear hK K; (try simp only [Act.put, List.setIfInBounds_toArray, List.set_cons_zero, List.set_cons_succ]))
            (refine wpL_one (i := 8) (by kernel_rfl) (ops_at rfl) (fun K hK => ?_); rw [if_pos (by rfl)]; refine wp_app (.tmp 50) (.tmp 56) 54 rfl Try.underlying54 qeInfo rfl (by decide) rfl ((Own.lit Wb.drew [] 58 3 0 (Nat.le_refl _) rfl (by decide)).alloc _) rfl (HTk.out.below hHeld.2.2.2.2) (qfl_one' _) (by omega) (by omega) (by simp; omega) (Nat.zero_add _) (List.nil_append _) ?_; intro Z zc w5 hz5 hg5 _; have HB5 := Lib.hid (hHeld.2.2.2.2.grown hg5 (by simp; omega) (fun j hj => by cases hj; exact Nat.le_refl _)); refine hK.out _ _ (HS.out _ HB5.out) (fun hHeld => ?_); clear hK K; (try simp only [Act.put, List.setIfInBounds_toArray, List.set_cons_zero, List.set_cons_succ]))
            have HZ := Lib.hid (show Own w5 Wb.heap.size 58 3 Z k zc (qfl (ys.take k)) from hz5)
            have hgb : Blk w5 (Wb.heap.size + 1) 58 (Qe.cells ⟨s, Y, m, yc, l, last + 1⟩) := (blk_new (by simp)).keep (hg5.block _ (by simp) (by simp [ob]))
            have HX5 := Lib.hid (show Rd w5 3 (some ⟨Wb.heap.size + 1, 0, none⟩) 1 (Qe.cells ⟨s, Y, m, yc, l, last + 1⟩) from hgb.rd rfl)
            clear hz5 hg5 hgb
            (refine wpL_one (i := 11) (by kernel_rfl) (ops_at rfl) (fun K hK => ?_); rw [if_pos (by rfl)]; refine wp_app (.tmp 57) (.tmp 59) 54 rfl Try.underlying54 qeInfo rfl (by decide) rfl HZ.out rfl HX5.out (by rw [← qfl_one]; exact qfl_one' _) (by omega) (by omega) HB5.out.size rfl rfl ?_; intro Z2 zc2 w6 hz2 hg6 _; have HB6 := Lib.hid (HB5.out.grown hg6 HB5.out.size (fun j hj => (HZ.out.blk j hj).1)); have HZ2 := Lib.hid (show Own w6 Wb.heap.size 58 3 Z2 (k + 1) zc2 (qfl (ys.take k) ++ Qe.cells ⟨s, Y, m, yc, l, last + 1⟩) from hz2); clear hz2 hg6; refine hK.out _ _ (HS.out _ HB6.out) (fun hHeld => ?_); clear hK K; (try simp only [Act.put, List.setIfInBounds_toArray, List.set_cons_zero, List.set_cons_succ]))
            (refine wpL_one (i := 18) (by kernel_rfl) (ops_at rfl) (fun K hK => ?_); rw [if_pos (by rfl)]; refine wp_app (.tmp 60) (.tmp 66) 54 rfl Try.underlying54 qeInfo rfl (by decide) rfl HZ2.out rfl (HDr.out.below HB6.out) (qfl_one' _) (by omega) (by omega) HB6.out.size rfl rfl ?_; intro Z3 zc3 w7 hz3 hg7 _; have HB7 := Lib.hid (HB6.out.grown hg7 HB6.out.size (fun j hj => (HZ2.out.blk j hj).1)); have HZ3 := Lib.hid (show Own w7 Wb.heap.size 58 3 Z3 (k + 1 + (n1 - k)) zc3 (qfl (ys.take k) ++ Qe.cells ⟨s, Y, m, yc, l, last + 1⟩ ++ qfl (ys.drop k)) from hz3); clear hz3 hg7; refine hK.out _ _ (HS.out _ HB7.out) (fun hHeld => ?_); clear hK K; (try simp only [Act.put, List.setIfInBounds_toArray, List.set_cons_zero, List.set_cons_succ]))
            have zq : w7.frozen? ⟨qb, 0, none⟩ = false := (H3.out.blk.below HB7.out).frozen 0
            (refine wpL_one (i := 19) (by kernel_rfl) (ops_at rfl) (fun K hK => ?_); go_simp; skip; refine hK.out _ _ (hHeld) (fun hHeld => ?_); clear hK K; (try simp only [Act.put, List.setIfInBounds_toArray, List.set_cons_zero, List.set_cons_succ]))
            (refine wpL_one (i := 20) (by kernel_rfl) (ops_at rfl) (fun K hK => ?_); go_simp; skip; refine hK.out _ _ (hHeld) (fun hHeld => ?_); clear hK K; (try simp only [Act.put, List.setIfInBounds_toArray, List.set_cons_zero, List.set_cons_succ]))
            (refine wpL_late (i := 21) (by kernel_rfl) (by simp) (ops_at rfl) (fun K hK => ?_); go_simp; skip; refine hK.out _ _ ?_; clear hK K; (try simp only [Act.put, List.setIfInBounds_toArray, List.set_cons_zero, List.set_cons_succ]))
            (refine wpL_done (by kernel_rfl) ?_ _)
            go_wp2_with fail
            go_meet
            exact set_fin hys HLo.out HHi.out H3.out O3.out HXOK.out HB7.out HZ3.out hb3 hl2 hk hn1 hn5
        · (go_simp; skip; refine hK.out _ _ (HS.out _ (hHeld.2.2.2.2.alloc hHeld.2.2.2.2.size _)) (fun hHeld => ?_); clear hK K; (try simp only [Act.put, List.setIfInBounds_toArray, List.set_cons_zero, List.set_cons_succ]))
          (refine wpL_one (i := 1) (by kernel_rfl) (ops_at rfl) (fun K hK => ?_); go_simp; skip; refine hK.out _ _ (HS.out _ (hHeld.2.2.2.2.alloc hHeld.2.2.2.2.size _)) (fun hHeld => ?_); clear hK K; (try simp only [Act.put, List.setIfInBounds_toArray, List.set_cons_zero, List.set_cons_succ]))
          have hX : Own ((Wb.alloc (Obj.cells #[.string s, .slice Y m yc, .int .i64 (last + 1)] 58)).alloc (Obj.cells #[] 58)).drew Wb.heap.size 58 3 (some ⟨Wb.heap.size + 1, 0, none⟩) 0 0 [] := by
            have := (Own.lit (base := Wb.heap.size) (Wb.alloc (Obj.cells #[.string s, .slice Y m yc, .int .i64 (last + 1)] 58)) [] 58 3 0 (by simp) rfl (by decide)).drew
            simpa using this
          (refine wpL_one (i := 8) (by kernel_rfl) (ops_at rfl) (fun K hK => ?_); rw [if_pos (by rfl)]; refine wp_app (.tmp 50) (.tmp 56) 54 rfl Try.underlying54 qeInfo rfl (by decide) rfl hX rfl (HTk.out.below hHeld.2.2.2.2) (qfl_one' _) (by omega) (by omega) (by simp; omega) (Nat.zero_add _) (List.nil_append _) ?_; intro Z zc w5 hz5 hg5 _; have HB5 := Lib.hid (hHeld.2.2.2.2.grown hg5 (by simp; omega) (fun j hj => by cases hj; simp)); refine hK.out _ _ (HS.out _ HB5.out) (fun hHeld => ?_); clear hK K; (try simp only [Act.put, List.setIfInBounds_toArray, List.set_cons_zero, List.set_cons_succ]))
          have HZ := Lib.hid (show Own w5 Wb.heap.size 58 3 Z k zc (qfl (ys.take k)) from hz5)
          have hgb : Blk w5 Wb.heap.size 58 (Qe.cells ⟨s, Y, m, yc, l, last + 1⟩) := by
            have h1 : Blk ((Wb.alloc (Obj.cells #[.string s, .slice Y m yc, .int .i64 (last + 1)] 58)).alloc (Obj.cells #[] 58)) Wb.heap.size 58 (Qe.cells ⟨s, Y, m, yc, l, last + 1⟩) := (blk_new rfl).alloc _
            exact h1.keep (hg5.block _ (by simp; omega) (by simp [ob]))
          have HX5 := Lib.hid (show Rd w5 3 (some ⟨Wb.heap.size, 0, none⟩) 1 (Qe.cells ⟨s, Y, m, yc, l, last + 1⟩) from hgb.rd rfl)
          clear hz5 hg5 hgb hX
          (refine wpL_one (i := 11) (by kernel_rfl) (ops_at rfl) (fun K hK => ?_); rw [if_pos (by rfl)]; refine wp_app (.tmp 57) (.tmp 59) 54 rfl Try.underlying54 qeInfo rfl (by decide) rfl HZ.out rfl HX5.out (by rw [← qfl_one]; exact qfl_one' _) (by omega) (by omega) HB5.out.size rfl rfl ?_; intro Z2 zc2 w6 hz2 hg6 _; have HB6 := Lib.hid (HB5.out.grown hg6 HB5.out.size (fun j hj => (HZ.out.blk j hj).1)); have HZ2 := Lib.hid (show Own w6 Wb.heap.size 58 3 Z2 (k + 1) zc2 (qfl (ys.take k) ++ Qe.cells ⟨s, Y, m, yc, l, last + 1⟩) from hz2); clear hz2 hg6; refine hK.out _ _ (HS.out _ HB6.out) (fun hHeld => ?_); clear hK K; (try simp only [Act.put, List.setIfInBounds_toArray, List.set_cons_zero, List.set_cons_succ]))
          (refine wpL_one (i := 18) (by kernel_rfl) (ops_at rfl) (fun K hK => ?_); rw [if_pos (by rfl)]; refine wp_app (.tmp 60) (.tmp 66) 54 rfl Try.underlying54 qeInfo rfl (by decide) rfl HZ2.out rfl (HDr.out.below HB6.out) (qfl_one' _) (by omega) (by omega) HB6.out.size rfl rfl ?_; intro Z3 zc3 w7 hz3 hg7 _; have HB7 := Lib.hid (HB6.out.grown hg7 HB6.out.size (fun j hj => (HZ2.out.blk j hj).1)); have HZ3 := Lib.hid (show Own w7 Wb.heap.size 58 3 Z3 (k + 1 + (n1 - k)) zc3 (qfl (ys.take k) ++ Qe.cells ⟨s, Y, m, yc, l, last + 1⟩ ++ qfl (ys.drop k)) from hz3); clear hz3 hg7; refine hK.out _ _ (HS.out _ HB7.out) (fun hHeld => ?_); clear hK K; (try simp only [Act.put, List.setIfInBounds_toArray, List.set_cons_zero, List.set_cons_succ]))
          have zq : w7.frozen? ⟨qb, 0, none⟩ = false := (H3.out.blk.below HB7.out).frozen 0
          (refine wpL_one (i := 19) (by kernel_rfl) (ops_at rfl) (fun K hK => ?_); go_simp; skip; refine hK.out _ _ (hHeld) (fun hHeld => ?_); clear hK K; (try simp only [Act.put, List.setIfInBounds_toArray, List.set_cons_zero, List.set_cons_succ]))
          (refine wpL_one (i := 20) (by kernel_rfl) (ops_at rfl) (fun K hK => ?_); go_simp; skip; refine hK.out _ _ (hHeld) (fun hHeld => ?_); clear hK K; (try simp only [Act.put, List.setIfInBounds_toArray, List.set_cons_zero, List.set_cons_succ]))
          (refine wpL_late (i := 21) (by kernel_rfl) (by simp) (ops_at rfl) (fun K hK => ?_); go_simp; skip; refine hK.out _ _ ?_; clear hK K; (try simp only [Act.put, List.setIfInBounds_toArray, List.set_cons_zero, List.set_cons_succ]))
          (refine wpL_done (by kernel_rfl) ?_ _)
          go_wp2_with fail
          go_meet
          exact set_fin hys HLo.out HHi.out H3.out O3.out HXOK.out HB7.out HZ3.out hb3 hl2 hk hn1 hn5
      case rest =>
        have hq := hcut
        obtain ⟨⟨A', n', c', i, x, q1, q2, q3, q4, q5, q6, q7⟩, ho⟩ := hcut
        have c2 : wc.cell? ⟨qb, 2, none⟩ = some (.int .i64 (last + 1)) := q4.blk.cell 2
        have HQ := Lib.hid hq
        clear hq q1 q2 q3 q4 q5 q6 q7 ho HS HTk HDr H3 O3 HBX HXOK
        go_wp2_with fail
        go_ret
        exact ⟨rfl, HQ.out⟩
end
end Go.Proofs.Ytkbgedaogfcdnaa
