/- optn.Print; optn.Same. -/
import Derived.Test.YtkbgedaogfcdnaaDoorReptB
namespace Go.Proofs.YtkbgedaogfcdnaaDoor
set_option linter.unusedSimpArgs false
set_option linter.unusedVariables false
open Go.RowKit
open Crc (Bytes)
theorem joinTail_len (sep : List UInt8) (N : Nat) : ∀ (l : List (List UInt8)), (∀ x ∈ l, x.length ≤ N) → (Lib.joinTail sep l).length ≤ (sep.length + N) * l.length
  | [], _ => by simp [Lib.joinTail]
  | x :: l, h => by
    have h1 := joinTail_len sep N l (fun y hy => h y (List.mem_cons_of_mem _ hy))
    have h2 := h x (by simp)
    have e : Lib.joinTail sep (x :: l) = sep ++ x ++ Lib.joinTail sep l := by simp [Lib.joinTail]
    rw [e, List.length_append, List.length_append, List.length_cons, Nat.mul_succ]
    omega
theorem join_len (sep : List UInt8) (N : Nat) (l : List (List UInt8)) (h : ∀ x ∈ l, x.length ≤ N) : (Lib.join l sep).length ≤ (sep.length + N) * l.length := by
  cases l with
  | nil => simp [Lib.join_nil]
  | cons x r =>
    have h1 := joinTail_len sep N r (fun y hy => h y (List.mem_cons_of_mem _ hy))
    have h2 := h x (by simp)
    rw [Lib.join_cons, List.length_append, List.length_cons, Nat.mul_succ]
    omega
theorem ok_len {l : List UInt8} (h : Rep.okL l = true) : l.length ≤ 16 := by
  unfold Rep.okL at h
  simp only [Bool.and_eq_true, decide_eq_true_eq] at h
  exact h.2
theorem words_len (o : Rep.Op) (h : o.good = true) : o.words.length ≤ 12 ∧ ∀ x ∈ o.words, x.length ≤ 16 := by
  have hg := h
  unfold Rep.Op.good at hg
  simp only [Bool.and_eq_true, decide_eq_true_eq, List.all_eq_true] at hg
  constructor
  · have hn := hg.1
    unfold Rep.Op.words
    simp only [List.length_append]
    split <;> split <;> split <;> split <;> simp <;> omega
  · intro x hx
    unfold Rep.Op.words at hx
    simp only [List.mem_append] at hx
    rcases hx with ((hx | hx) | hx) | hx
    · split at hx
      · have : x = Rep.wDry := by simpa using hx
        subst this; decide
      · cases hx
    · split at hx
      · have : x = Rep.wFast := by simpa using hx
        subst this; decide
      · cases hx
    · split at hx
      · have : x = Rep.wClean := by simpa using hx
        subst this; decide
      · cases hx
    · split at hx
      · cases hx
      · rcases List.mem_cons.1 hx with rfl | hx
        · decide
        · exact ok_len (hg.2 x hx)
theorem text_len (o : Rep.Op) : o.text.length ≤ 300 := by
  unfold Rep.Op.text
  split
  · rename_i h
    obtain ⟨h1, h2⟩ := words_len o h
    have := join_len [32] 16 o.words h2
    simp only [List.length_cons, List.length_nil] at this
    have h3 : (0 + 1 + 16) * o.words.length ≤ 17 * 12 := Nat.mul_le_mul (by decide) h1
    omega
  · simp
def opC (o : Rep.Op) (a : Value) : List Value := [.bool o.dry, .bool o.fast, .bool o.clean, a]
theorem keep4 {W w' : World} {g : Nat} {t : TypeId} {v0 v1 v2 v3 : Value} (h : Blk W g t [v0, v1, v2, v3]) (hb : Below W.heap.size W w') : w'.cell? ⟨g, 0, none⟩ = some v0 ∧ w'.cell? ⟨g, 1, none⟩ = some v1 ∧ w'.cell? ⟨g, 2, none⟩ = some v2 ∧ w'.cell? ⟨g, 3, none⟩ = some v3 ∧ Below W.heap.size W w' :=
  ⟨(hb.cell (p := ⟨g, 0, none⟩) h.lt).trans (h.cell 0), (hb.cell (p := ⟨g, 1, none⟩) h.lt).trans (h.cell 1), (hb.cell (p := ⟨g, 2, none⟩) h.lt).trans (h.cell 2), (hb.cell (p := ⟨g, 3, none⟩) h.lt).trans (h.cell 3), hb⟩
/-- The words so far: a row of the call's own. -/
structure Out (W w' : World) (v : Value) (L : List (List UInt8)) : Prop where
  out : ∃ B m d, v = .slice B m d ∧ Own w' W.heap.size 9 1 B m d (L.map sv)
  bel : Below W.heap.size W w'
def fl (b : Bool) (x : List UInt8) : List (List UInt8) := if b then [x] else []
theorem fl_len (b : Bool) (x : List UInt8) : (fl b x).length ≤ 1 := by cases b <;> simp [fl]
theorem map_snoc (L : List (List UInt8)) (x : List UInt8) : L.map sv ++ [sv x] = (L ++ [x]).map sv := by simp
set_option maxRecDepth 100000 in
set_option maxHeartbeats 4000000 in
theorem print_any {w : World} (o : Rep.Op) (A : Option Addr) (n c : Nat) (h : SS w A n o.names) (hs : Short o.names) :
    Calls Tryd.prog 37 #[.agg (opC o (.slice A n c)).toArray] w fun e w' => e = .returned (.string (T o.text)) ∧ Below w.heap.size w w' := by
  have hlen := h.len
  have hle := h.le
  have hnil := h.eq_nil
  have H := Lib.hid h
  have HL := Lib.hid hlen
  have HS := Lib.hid hs
  have HN := Lib.hid hnil
  clear h hlen hs hnil
  obtain ⟨dry, fast, clean, names⟩ := o
  simp only at H HL HS HN
  unfold opC
  go_enter Tryd.func37, Tryd.ntmps37
  go_upto_region 1 with fail
  obtain ⟨g, hg⟩ : ∃ g, g = w.heap.size := ⟨_, rfl⟩
  rw [← hg]
  refine at_world (fun W => Blk W g 35 [.bool dry, .bool fast, .bool clean, .slice A n c] ∧ Below w.heap.size w W) ⟨blk_new hg, by (repeat (first | assumption | exact Below.refl _ _ | (with_reducible apply Below.drew) | (with_reducible apply bl_drewN) | (with_reducible apply bl_alloc) | (with_reducible refine bl_then ?_ (by assumption))))⟩ ?_
  rintro W ⟨hb, hbel⟩
  have HB := Lib.hid hb
  have HBel := Lib.hid hbel
  have c0 : W.cell? ⟨g, 0, none⟩ = some (.bool dry) := hb.cell 0
  have c3 : W.cell? ⟨g, 3, none⟩ = some (.slice A n c) := hb.cell 3
  clear hb hbel hg
  by_cases h8 : n ≤ 8
  rotate_left
  · have e1 : (8 : Int) < (n : Int) := by omega
    have HT := Lib.hid (show (Rep.Op.text ⟨dry, fast, clean, names⟩) = [] by
      unfold Rep.Op.text Rep.Op.good
      rw [decide_eq_false (by rw [HL.out]; exact h8)]
      rfl)
    go_wp2_with fail
    go_ret
    exact ⟨by rw [HT.out]; rfl, HBel.out⟩
  have e1 : ¬ (8 : Int) < (n : Int) := by omega
  go_wp2_with fail
  refine (contf_any A n c names (H.out.below HBel.out) HS.out).mono ?_
  rintro e w1 ⟨rfl, hb1⟩
  have HB1 := Lib.hid (HBel.out.trans (hb1.mono HBel.out.size))
  cases hall : names.all Rep.okL with
  | false =>
    have HT := Lib.hid (show (Rep.Op.text ⟨dry, fast, clean, names⟩) = [] by
      unfold Rep.Op.text Rep.Op.good
      rw [hall, Bool.and_false]
      rfl)
    clear hall
    go_wp2_with fail
    go_ret
    exact ⟨by rw [HT.out]; rfl, HB1.out⟩
  | true =>
  have HG := Lib.hid (show (Rep.Op.good ⟨dry, fast, clean, names⟩) = true by
    unfold Rep.Op.good
    rw [hall, decide_eq_true (by rw [HL.out]; exact h8)]
    rfl)
  have HBk := Lib.hid (HB.out.below hb1)
  have H1 := Lib.hid (H.out.below HB1.out)
  clear hall c0 c3 hb1 HB
  go_upto_region 3 with fail
  go_cut [3] (fun v wx => Out w1 wx v [])
  case first =>
    go_wp2_with fail
    go_meet
    exact ⟨⟨none, 0, 0, rfl, Own.nil _ _ _ _⟩, Below.refl _ _⟩
  case rest =>
  obtain ⟨w1b, rfl⟩ : ∃ y : World, y = wc := ⟨_, rfl⟩
  have HO0 := Lib.hid hcut
  clear hcut
  have c0 : w1b.cell? ⟨g, 0, none⟩ = some (.bool dry) := (HBk.out.below HO0.out.bel).cell 0
  obtain ⟨v, hO⟩ := HO0.out
  obtain ⟨B, m, d, rfl, ho⟩ := v
  have HO0 := Lib.hid (show Out w1 w1b (.slice B m d) ([]) from ⟨⟨B, m, d, rfl, ho⟩, hO⟩)
  have hm : m ≤ 3 := by
    have := ho.row.1
    have f1 := fl_len dry Rep.wDry
    have f2 := fl_len fast Rep.wFast
    have f3 := fl_len clean Rep.wClean
    simp only [List.length_map, List.length_append, List.length_nil, Nat.mul_one] at this
    omega
  have Ho := Lib.hid ho
  have Hm := Lib.hid hm
  clear ho hm hO
  go_upto_if 14 with fail
  go_cut [3] (fun v wx => Out w1 wx v ([] ++ fl dry Rep.wDry))
  case first =>
    clear c0
    cases dry with
    | false =>
      have HQ := Lib.hid (show Out w1 w1b (.slice B m d) ([] ++ fl false Rep.wDry) by rw [show fl false Rep.wDry = [] from rfl, List.append_nil]; exact HO0.out)
      go_wp2_with fail
      go_meet
      exact HQ.out
    | true =>
      have hsz := HO0.out.bel.size
      have hm := Hm.out
      go_wp2_with (at_builtin; refine wpList_app rfl (.tmp 15) (.tmp 16) 23 rfl Tryd.underlying23 strInfo rfl (by decide) rfl (Ho.out.alloc _) rfl (Rd.lit w1b #[.string (T Rep.wDry)] 9 (0, 0) 1 1 rfl) (svs_one [Rep.wDry]) (by omega) (by omega) (by simp; omega) rfl (map_snoc _ _) ?_; intro B2 d2 w5 hown5 hg5 _; have HO5 := Lib.hid hown5; have HB5 := Lib.hid ((HO0.out.bel.alloc hsz _).grown hg5 (by simp; omega) (fun j hj => (Ho.out.blk j hj).1)); clear hown5 hg5)
      go_meet
      exact ⟨⟨B2, m + 1, d2, rfl, HO5.out⟩, HB5.out⟩
  case rest =>
  obtain ⟨w2, rfl⟩ : ∃ y : World, y = wc := ⟨_, rfl⟩
  have HO1 := Lib.hid hcut
  clear hcut HO0 Ho Hm
  have c1 : w2.cell? ⟨g, 1, none⟩ = some (.bool fast) := (HBk.out.below HO1.out.bel).cell 1
  obtain ⟨v, hO⟩ := HO1.out
  obtain ⟨B, m, d, rfl, ho⟩ := v
  have HO1 := Lib.hid (show Out w1 w2 (.slice B m d) ([] ++ fl dry Rep.wDry) from ⟨⟨B, m, d, rfl, ho⟩, hO⟩)
  have hm : m ≤ 3 := by
    have := ho.row.1
    have f1 := fl_len dry Rep.wDry
    have f2 := fl_len fast Rep.wFast
    have f3 := fl_len clean Rep.wClean
    simp only [List.length_map, List.length_append, List.length_nil, Nat.mul_one] at this
    omega
  have Ho := Lib.hid ho
  have Hm := Lib.hid hm
  clear ho hm hO
  go_upto_if 19 with fail
  go_cut [3] (fun v wx => Out w1 wx v ([] ++ fl dry Rep.wDry ++ fl fast Rep.wFast))
  case first =>
    clear c1
    cases fast with
    | false =>
      have HQ := Lib.hid (show Out w1 w2 (.slice B m d) ([] ++ fl dry Rep.wDry ++ fl false Rep.wFast) by rw [show fl false Rep.wFast = [] from rfl, List.append_nil]; exact HO1.out)
      go_wp2_with fail
      go_meet
      exact HQ.out
    | true =>
      have hsz := HO1.out.bel.size
      have hm := Hm.out
      go_wp2_with (at_builtin; refine wpList_app rfl (.tmp 20) (.tmp 21) 23 rfl Tryd.underlying23 strInfo rfl (by decide) rfl (Ho.out.alloc _) rfl (Rd.lit w2 #[.string (T Rep.wFast)] 9 (0, 0) 1 1 rfl) (svs_one [Rep.wFast]) (by omega) (by omega) (by simp; omega) rfl (map_snoc _ _) ?_; intro B2 d2 w5 hown5 hg5 _; have HO5 := Lib.hid hown5; have HB5 := Lib.hid ((HO1.out.bel.alloc hsz _).grown hg5 (by simp; omega) (fun j hj => (Ho.out.blk j hj).1)); clear hown5 hg5)
      go_meet
      exact ⟨⟨B2, m + 1, d2, rfl, HO5.out⟩, HB5.out⟩
  case rest =>
  obtain ⟨w3, rfl⟩ : ∃ y : World, y = wc := ⟨_, rfl⟩
  have HO2 := Lib.hid hcut
  clear hcut HO1 Ho Hm
  have c2 : w3.cell? ⟨g, 2, none⟩ = some (.bool clean) := (HBk.out.below HO2.out.bel).cell 2
  obtain ⟨v, hO⟩ := HO2.out
  obtain ⟨B, m, d, rfl, ho⟩ := v
  have HO2 := Lib.hid (show Out w1 w3 (.slice B m d) ([] ++ fl dry Rep.wDry ++ fl fast Rep.wFast) from ⟨⟨B, m, d, rfl, ho⟩, hO⟩)
  have hm : m ≤ 3 := by
    have := ho.row.1
    have f1 := fl_len dry Rep.wDry
    have f2 := fl_len fast Rep.wFast
    have f3 := fl_len clean Rep.wClean
    simp only [List.length_map, List.length_append, List.length_nil, Nat.mul_one] at this
    omega
  have Ho := Lib.hid ho
  have Hm := Lib.hid hm
  clear ho hm hO
  go_upto_if 24 with fail
  go_cut [3] (fun v wx => Out w1 wx v ([] ++ fl dry Rep.wDry ++ fl fast Rep.wFast ++ fl clean Rep.wClean))
  case first =>
    clear c2
    cases clean with
    | false =>
      have HQ := Lib.hid (show Out w1 w3 (.slice B m d) ([] ++ fl dry Rep.wDry ++ fl fast Rep.wFast ++ fl false Rep.wClean) by rw [show fl false Rep.wClean = [] from rfl, List.append_nil]; exact HO2.out)
      go_wp2_with fail
      go_meet
      exact HQ.out
    | true =>
      have hsz := HO2.out.bel.size
      have hm := Hm.out
      go_wp2_with (at_builtin; refine wpList_app rfl (.tmp 25) (.tmp 26) 23 rfl Tryd.underlying23 strInfo rfl (by decide) rfl (Ho.out.alloc _) rfl (Rd.lit w3 #[.string (T Rep.wClean)] 9 (0, 0) 1 1 rfl) (svs_one [Rep.wClean]) (by omega) (by omega) (by simp; omega) rfl (map_snoc _ _) ?_; intro B2 d2 w5 hown5 hg5 _; have HO5 := Lib.hid hown5; have HB5 := Lib.hid ((HO2.out.bel.alloc hsz _).grown hg5 (by simp; omega) (fun j hj => (Ho.out.blk j hj).1)); clear hown5 hg5)
      go_meet
      exact ⟨⟨B2, m + 1, d2, rfl, HO5.out⟩, HB5.out⟩
  case rest =>
  obtain ⟨w4, rfl⟩ : ∃ y : World, y = wc := ⟨_, rfl⟩
  have HO3 := Lib.hid hcut
  clear hcut HO2 Ho Hm
  obtain ⟨v, hO⟩ := HO3.out
  obtain ⟨B, m, d, rfl, ho⟩ := v
  obtain ⟨L, hL⟩ : ∃ L, L = [] ++ fl dry Rep.wDry ++ fl fast Rep.wFast ++ fl clean Rep.wClean := ⟨_, rfl⟩
  rw [← hL] at ho
  have hm : m ≤ 3 := by
    have := ho.row.1
    have f1 := fl_len dry Rep.wDry
    have f2 := fl_len fast Rep.wFast
    have f3 := fl_len clean Rep.wClean
    rw [hL] at this
    simp only [List.length_map, List.length_append, List.length_nil, Nat.mul_one] at this
    omega
  have Ho := Lib.hid ho
  have HBe := Lib.hid hO
  have c3 : w4.cell? ⟨g, 3, none⟩ = some (.slice A n c) := (HBk.out.below hO).cell 3
  have HW := Lib.hid (show Rep.Op.words ⟨dry, fast, clean, names⟩ = L ++ (if names = [] then [] else Rep.wTo :: names) by rw [hL]; unfold Rep.Op.words fl; rw [List.nil_append])
  have HT := Lib.hid (show Rep.Op.text ⟨dry, fast, clean, names⟩ = Lib.join (Rep.Op.words ⟨dry, fast, clean, names⟩) [32] by unfold Rep.Op.text; rw [if_pos HG.out])
  have HZ := Lib.hid (text_len ⟨dry, fast, clean, names⟩)
  have HH := Lib.hid (H1.out.below hO)
  have HBz := Lib.hid (HB1.out.trans (hO.mono HB1.out.size))
  have hgl : w1.heap.size ≤ w4.heap.size := hO.size
  clear ho hO HO3 hL
  by_cases h0 : n = 0
  · have hn := HN.out.2 h0
    have e0 : ¬ (0 : Int) < (n : Int) := by omega
    have HE := Lib.hid (show Rep.Op.words ⟨dry, fast, clean, names⟩ = L by rw [HW.out, if_pos hn, List.append_nil])
    clear hn
    go_wp2_with fail
    refine (join_any B m d L [32] ⟨Ho.out.rd, by omega⟩ Ho.out.cap (by rw [← HE.out, ← HT.out]; have := HZ.out; omega) (by omega)).mono ?_
    rintro e w5 ⟨rfl, hb5⟩
    have HB5 := Lib.hid (HBz.out.trans (hb5.mono HBz.out.size))
    clear hb5
    go_wp2_with fail
    go_ret
    exact ⟨by rw [HT.out, HE.out]; rfl, HB5.out⟩
  · have e0 : (0 : Int) < (n : Int) := by omega
    have HE := Lib.hid (show Rep.Op.words ⟨dry, fast, clean, names⟩ = L ++ [Rep.wTo] ++ names by rw [HW.out, if_neg (fun e => h0 (HN.out.1 e))]; simp)
    have Hm := Lib.hid hm
    go_upto_region 11 with fail
    have HQ := Lib.hid (fun w' (hb : Below w1.heap.size w1 w') => (⟨(HBk.out.below hb).cell 3, hb⟩ : w'.cell? ⟨g, 3, none⟩ = some (.slice A n c) ∧ Below w1.heap.size w1 w'))
    (refine wp_region_held_drew (S := fun w' => w'.cell? ⟨g, 3, none⟩ = some (.slice A n c) ∧ Below w1.heap.size w1 w') (by kernel_rfl) (HQ.out _ HBe.out.drew) (fun hHeld => ?_))
    (refine wpAnyH_take (i := 0) (oi := _) (v := ?_) (ops_at rfl) (by kernel_rfl) (by kernel_rfl) (by kernel_rfl) (fun _ _ _ h => h) (Or.inl ⟨by rfl, ?_⟩) (by assumption) ?_; rotate_left; (focus (intro w hSw; (try dsimp only at hSw); go_simp; (try first | with_reducible rfl | (rw [if_neg (by omega)])))); (try simp only [Act.put, List.setIfInBounds_toArray, List.set_cons_zero, List.set_cons_succ])); (refine wpAnyH_take (i := 3) (oi := _) (v := ?_) (ops_at rfl) (by kernel_rfl) (by kernel_rfl) (by kernel_rfl) (fun _ _ _ h => h) (Or.inl ⟨by rfl, ?_⟩) (by assumption) ?_; rotate_left; (focus (intro w hSw; (try dsimp only at hSw); go_simp; (try first | with_reducible rfl | (rw [if_neg (by omega)])))); (try simp only [Act.put, List.setIfInBounds_toArray, List.set_cons_zero, List.set_cons_succ])); (refine wpAnyH_take (i := 4) (oi := _) (v := ?_) (ops_at rfl) (by kernel_rfl) (by kernel_rfl) (by kernel_rfl) (fun _ _ _ h => h) (Or.inl ⟨by rfl, ?_⟩) (by assumption) ?_; rotate_left; (focus (intro w hSw; (try dsimp only at hSw); go_simp; (try first | with_reducible rfl | (rw [if_neg (by omega)])))); (try simp only [Act.put, List.setIfInBounds_toArray, List.set_cons_zero, List.set_cons_succ]))
    (refine wpAnyH_ready (rs := [1]) (by kernel_rfl) (by simp) (AllReadyH.cons (ops_at rfl) (fun K hK => ?_) AllReadyH.nil); go_simp; skip; refine hK.out _ _ (HQ.out _ (HBe.out.alloc hgl _).drew) (fun hHeld => ?_); clear hK K; (try simp only [Act.put, List.setIfInBounds_toArray, List.set_cons_zero, List.set_cons_succ]))
    (refine wpAnyH_ready (rs := [2]) (by kernel_rfl) (by simp) (AllReadyH.cons (ops_at rfl) (fun K hK => ?_) AllReadyH.nil); rw [if_pos (by rfl)]; refine wp_app (.tmp 32) (.tmp 33) 23 rfl Tryd.underlying23 strInfo rfl (by decide) rfl (Ho.out.alloc _).drew rfl ((Rd.lit w4 #[.string (T Rep.wTo)] 9 (0, 0) 1 1 rfl).drew) (svs_one [Rep.wTo]) (by have := Hm.out; omega) (by have := Hm.out; omega) (by simp; omega) rfl (map_snoc L Rep.wTo) ?_; intro B2 d2 w5 hown5 hg5 _; have HO5 := Lib.hid hown5; have HB5 := Lib.hid ((HBe.out.alloc hgl _).drew.grown hg5 (by simp; omega) (fun j hj => (Ho.out.blk j hj).1)); clear hown5 hg5; refine hK.out _ _ (HQ.out _ HB5.out) (fun hHeld => ?_); clear hK K; (try simp only [Act.put, List.setIfInBounds_toArray, List.set_cons_zero, List.set_cons_succ]))
    (refine wpAnyH_ready (rs := [5]) (by kernel_rfl) (by simp) (AllReadyH.cons (ops_at rfl) (fun K hK => ?_) AllReadyH.nil); rw [if_pos (by rfl)]; refine wp_app (.tmp 34) (.tmp 36) 23 rfl Tryd.underlying23 strInfo rfl (by decide) rfl HO5.out rfl (H1.out.below HB5.out).rd (svs_one names) (by have := Hm.out; omega) (by have := Hm.out; omega) HB5.out.size rfl (List.map_append).symm ?_; intro B3 d3 w6 hown6 hg6 _; have HO6 := Lib.hid hown6; have HB6 := Lib.hid (HB5.out.grown hg6 HB5.out.size (fun j hj => (HO5.out.blk j hj).1)); clear hown6 hg6; refine hK.out _ _ (HQ.out _ HB6.out) (fun hHeld => ?_); clear hK K; (try simp only [Act.put, List.setIfInBounds_toArray, List.set_cons_zero, List.set_cons_succ]))
    (refine wpAnyH_take (i := 6) (oi := _) (v := ?_) (ops_at rfl) (by kernel_rfl) (by kernel_rfl) (by kernel_rfl) (fun _ _ _ h => h) (Or.inl ⟨by rfl, ?_⟩) (by assumption) ?_; rotate_left; (focus (intro w hSw; (try dsimp only at hSw); go_simp; (try first | with_reducible rfl | (rw [if_neg (by omega)])))); (try simp only [Act.put, List.setIfInBounds_toArray, List.set_cons_zero, List.set_cons_succ]))
    (refine wpAnyH_done (by kernel_rfl) ?_ _)
    clear hHeld
    go_wp2_with fail
    refine (join_any B3 (m + 1 + n) d3 (L ++ [Rep.wTo] ++ names) [32] ⟨HO6.out.rd, by have := Hm.out; omega⟩ HO6.out.cap (by rw [← HE.out, ← HT.out]; have := HZ.out; omega) (by have := Hm.out; omega)).mono ?_
    rintro e w7 ⟨rfl, hb7⟩
    have HB7 := Lib.hid (HB1.out.trans ((HB6.out.trans (hb7.mono HB6.out.size)).mono HB1.out.size))
    rw [← HE.out, ← HT.out]
    clear hb7
    go_wp2_with fail
    go_ret
    exact ⟨rfl, HB7.out⟩
end Go.Proofs.YtkbgedaogfcdnaaDoor
