/- The walks of the reference's reader. -/
import Derived.Test.YtahdeighocmijaaGreatRead
import Derived.Test.YtahdeighocmijaaGreatRcode
namespace Go.Proofs.YtahdeighocmijaaGreat
set_option linter.unusedSimpArgs false
set_option linter.unusedVariables false
open Go.RowKit
open Crc (Bytes)
open Cod (numOf numTo)

/-- The reference's reader: what is left, and whether it is bad. -/
structure QAt (M : Nat) (w : World) (g : Nat) (l : List Int) (bad : Bool) : Prop where
  out : ∃ A n c, Blk w g 95 [.slice A n c, .bool bad] ∧ Bs w A n l ∧ n ≤ c ∧ (∀ ad, A = some ad → 0 < n → ad.block < M) ∧ M ≤ g

section
variable {M : Nat} {w w' : World} {g : Nat} {l : List Int} {bad : Bool}
theorem QAt.lt (h : QAt M w g l bad) : g < w.heap.size := by obtain ⟨_, _, _, hb, _⟩ := h.out; exact hb.lt
theorem QAt.bytes (h : QAt M w g l bad) : Bytes l := by obtain ⟨_, _, _, _, hb, _⟩ := h.out; exact hb.by_
theorem QAt.below (h : QAt M w g l bad) (hb : Below w.heap.size w w') : QAt M w' g l bad := by
  obtain ⟨A, n, c, h1, h2, h3, h4⟩ := h.out
  exact ⟨A, n, c, h1.below hb, h2.below hb, h3, h4⟩
theorem QAt.only {bs : List Nat} (h : QAt M w g l bad) (ho : Only bs w w') (hg : g ∉ bs) (hb : ∀ b ∈ bs, M ≤ b) : QAt M w' g l bad := by
  obtain ⟨A, n, c, h1, h2, h3, h4, h5⟩ := h.out
  exact ⟨A, n, c, h1.only ho hg, h2.only ho (fun ad hA h0 hm => by have := h4 ad hA h0; have := hb _ hm; omega), h3, h4, h5⟩
theorem QAt.drew (h : QAt M w g l bad) : QAt M w.drew g l bad := h.below (Below.refl _ _).drew
end

def qnum (s : List Int × Bool) (top : Int) : Int × (List Int × Bool) := if s.2 = true ∨ s.1.length < 6 ∨ top < numOf s.1 then (0, (s.1, true)) else (numOf s.1, (s.1.drop 6, false))
def qbytes (s : List Int × Bool) (top : Int) : List Int × (List Int × Bool) :=
  if (qnum s top).2.2 = true ∨ (((qnum s top).2.1.length : Nat) : Int) < (qnum s top).1 then ([], ((qnum s top).2.1, true)) else ((qnum s top).2.1.take (qnum s top).1.toNat, ((qnum s top).2.1.drop (qnum s top).1.toNat, false))

structure QNum (M : Nat) (w : World) (g : Nat) (r : Int × (List Int × Bool)) (e : Ending) (w' : World) : Prop where
  ret : e = .returned (.int .i64 r.1)
  rd : QAt M w' g r.2.1 r.2.2
  only : Only [g] w w'
theorem qnum_bad {l : List Int} {bad : Bool} {top : Int} (h : bad = true ∨ l.length < 6 ∨ top < numOf l) : qnum (l, bad) top = (0, (l, true)) := by
  unfold qnum; rw [if_pos h]
theorem qnum_good {l : List Int} {top : Int} (h6 : 6 ≤ l.length) (h : numOf l ≤ top) : qnum (l, false) top = (numOf l, (l.drop 6, false)) := by
  unfold qnum; rw [if_neg (by simp; omega)]
theorem qAt_bad {M : Nat} {w : World} {g : Nat} {l : List Int} {A : Option Addr} {n c : Nat} {b : Value} (H : Blk w g 95 [.slice A n c, b]) (HB : Bs w A n l) (hnc : n ≤ c) (hne : (∀ ad, A = some ad → 0 < n → ad.block < M) ∧ M ≤ g) :
    QAt M (w.setCell ⟨g, 1, none⟩ (.bool true)) g l true :=
  ⟨A, n, c, H.set_ 1 _, ⟨HB.rd.setCell (fun ad h h0 => by have := hne.1 ad h h0; have := hne.2; show _ ≠ g; omega) _, HB.by_, HB.le⟩, hnc, hne⟩
theorem qAt_from {M : Nat} {w : World} {g n c k : Nat} {A A2 : Option Addr} {l : List Int} {bad : Bool} (H : Blk w g 95 [.slice A n c, .bool bad]) (HB : Bs w A n l) (hnc : n ≤ c) (hne : (∀ ad, A = some ad → 0 < n → ad.block < M) ∧ M ≤ g) (hk : k ≤ n)
    (hA : (if c = k then A else A.map (·.add (k * 1))) = A2) : QAt M (w.setCell ⟨g, 0, none⟩ (.slice A2 (n - k) (c - k))) g (l.drop k) bad := by
  obtain ⟨h1, h2⟩ := HB.rd.from_ hk hnc hA
  refine ⟨A2, n - k, c - k, H.set_ 0 _, ⟨?_, fun x hx => HB.by_ x (List.mem_of_mem_drop hx), by have := HB.le; omega⟩, by omega, fun ad hB h0 => ?_, hne.2⟩
  · rw [Nat.mul_one] at h1
    have e : ints .u8 (l.drop k) = (ints .u8 l).drop k := by simp [ints, List.map_drop]
    rw [e]
    refine h1.setCell (fun ad hB h0 => ?_) _
    obtain ⟨ad', hA', he⟩ := h2 ad hB h0
    rw [he]; have := hne.1 ad' hA' (by omega); have := hne.2; show _ ≠ g; omega
  · obtain ⟨ad', hA', he⟩ := h2 ad hB h0
    rw [he]; exact hne.1 ad' hA' (by omega)
set_option maxHeartbeats 1000000 in
theorem qnum_any (M g : Nat) (l : List Int) (bad : Bool) (top : Int) (w : World) (h : QAt M w g l bad) :
    Calls Tryz.prog 48 #[.pointer (some ⟨g, 0, none⟩), .int .i64 top] w (QNum M w g (qnum (l, bad) top)) := by
  obtain ⟨A, n, c, hb, hbs, hnc, hne⟩ := h.out
  have hlen := hbs.len
  have c0 : w.cell? ⟨g, 0, none⟩ = some (.slice A n c) := hb.cell 0
  have c1 : w.cell? ⟨g, 1, none⟩ = some (.bool bad) := hb.cell 1
  have f1 := hb.frozen 1
  have H := Lib.hid hb
  have HB := Lib.hid hbs
  have Hlen := Lib.hid hlen
  clear h hb hbs hlen
  cases bad
  · by_cases h6 : n < 6
    · have hr := Lib.hid (qnum_bad (l := l) (bad := false) (top := top) (.inr (.inl (by rw [Hlen.out]; exact h6))))
      go_enter Tryz.func48, Tryz.ntmps48
      go_wp2_with fail
      go_ret
      rw [hr.out]
      exact ⟨rfl, qAt_bad H.out HB.out hnc hne, (Only.refl _ _).setCell (.inl (by simp)) _⟩
    · have b0 : (0 : Int) ≤ 6 := by omega
      have b1 : (6 : Int) ≤ (n : Int) := by omega
      have b2 : (6 : Int) ≤ (c : Int) := by omega
      have f0 := H.out.frozen 0
      have h0 : 0 < n := by omega
      obtain ⟨A2, hA2⟩ : ∃ A2, (if c = 6 then A else A.map (·.add (6 * 1))) = A2 := ⟨_, rfl⟩
      have hsl : ∀ w : World, (Instr.slice 23 (.slice A n c) (some (.int .i64 6)) none none).run Tryz.prog w = .ok (.slice A2 (n - 6) (c - 6)) w := fun w => by
        rw [← hA2]; exact slice_from (P := Tryz.prog) (k := 6) (kk := .i64) Tryz.underlying23 u8s (by omega) hnc w
      have HA2 := Lib.hid hA2
      clear hA2
      go_enter Tryz.func48, Tryz.ntmps48
      go_wp2_with fail
      go_loop [5, 6] (fun v i => ∃ k : Nat, k ≤ 6 ∧ i = .int .i64 k ∧ v = .int .i64 (numTo l k)) (fun _ i => 6 - (intOf i).toNat)
      case atStart => exact ⟨0, Nat.zero_le _, rfl, rfl⟩
      case round =>
        obtain ⟨k, hk, rfl, rfl⟩ := hrel
        have hbd := Cod.numTo_bd HB.out.by_ k (by rw [Hlen.out]; omega)
        obtain ⟨d0, d1⟩ := hbd
        by_cases hlt : k < 6
        · obtain ⟨ad, hA, hc, h1, h2⟩ := HB.out.get (show k < n by omega)
          subst hA
          have d2 : numTo l k < 1099511627776 := by
            have : k = 0 ∨ k = 1 ∨ k = 2 ∨ k = 3 ∨ k = 4 ∨ k = 5 := by omega
            rcases this with rfl | rfl | rfl | rfl | rfl | rfl <;> simp at d1 <;> omega
          have hor := Cod.or_low (numTo l k) (ix l k) d0 d2 ⟨h1, h2⟩
          have hs : numTo l k * 256 + ix l k = numTo l (k + 1) := by
            rw [Cod.numTo_succ (by rw [Hlen.out]; omega), ix_get]
          rw [hs] at hor
          clear hs d1
          go_wp2_with fail
          go_round
          case rel => exact ⟨k + 1, by omega, by go_num, rfl⟩
          case measure => simp [intOf]; omega
        · have hk6 := Lib.hid (show k = 6 by omega)
          by_cases ht : top < numOf l
          · have hr := Lib.hid (qnum_bad (l := l) (bad := false) (top := top) (.inr (.inr ht)))
            have ht1 : top < numTo l k := by rw [hk6.out]; exact ht
            clear d1
            go_wp2_with fail
            go_ret
            rw [hr.out]
            exact ⟨rfl, qAt_bad H.out HB.out hnc hne, (Only.refl _ _).setCell (.inl (by simp)) _⟩
          · have hr := Lib.hid (qnum_good (l := l) (top := top) (by rw [Hlen.out]; omega) (by omega))
            have ht1 : ¬ top < numTo l k := by rw [hk6.out]; exact ht
            clear d1
            go_wp2_with fail
            go_ret
            rw [hr.out]
            refine ⟨by rw [hk6.out]; rfl, ?_, (Only.refl _ _).setCell (.inl (by simp)) _⟩
            exact qAt_from H.out HB.out hnc hne (by omega) HA2.out
  · have hr := Lib.hid (qnum_bad (l := l) (bad := true) (top := top) (.inl rfl))
    go_enter Tryz.func48, Tryz.ntmps48
    go_wp2_with fail
    go_ret
    rw [hr.out]
    exact ⟨rfl, qAt_bad H.out HB.out hnc hne, (Only.refl _ _).setCell (.inl (by simp)) _⟩

structure QBytes (M : Nat) (w : World) (g : Nat) (r : List Int × (List Int × Bool)) (e : Ending) (w' : World) : Prop where
  ret : ∃ A n c, e = .returned (.slice A n c) ∧ Hid (r.1.length = n) ∧ Own w' w.heap.size 5 1 A n c (ints .u8 r.1) ∧ (A = none → r.1 = [])
  rd : QAt M w' g r.2.1 r.2.2
  by_ : Bytes r.1
  only : Only [g] w w'

theorem QAt.le {M : Nat} {w : World} {g : Nat} {l : List Int} {bad : Bool} (h : QAt M w g l bad) : l.length ≤ 140737488355328 := by
  obtain ⟨A, n, c, _, hb, _⟩ := h.out
  rw [hb.len]; exact hb.le
theorem qnum_lo (l : List Int) (bad : Bool) (top : Int) (hb : Bytes l) : 0 ≤ (qnum (l, bad) top).1 ∧ (qnum (l, bad) top).1 ≤ 1099511627776 * 1024 := by
  unfold qnum
  split
  · simp
  · rename_i h
    have h6 : 6 ≤ l.length := by simp at h; omega
    have := Cod.numTo_bd hb 6 h6
    rw [numTo_six] at this
    simp only
    omega

set_option maxHeartbeats 1000000 in
theorem qbytes_any (M g : Nat) (l : List Int) (bad : Bool) (top : Int) (w : World) (h : QAt M w g l bad) :
    Calls Tryz.prog 47 #[.pointer (some ⟨g, 0, none⟩), .int .i64 top] w (QBytes M w g (qbytes (l, bad) top)) := by
  have Hb := Lib.hid h.bytes
  have H := Lib.hid h
  obtain ⟨lo, hi⟩ := qnum_lo l bad top h.bytes
  have hsz := h.lt
  clear h
  obtain ⟨r, hr⟩ : ∃ r, qnum (l, bad) top = r := ⟨_, rfl⟩
  rw [hr] at lo hi
  have Hr := Lib.hid hr
  clear hr
  obtain ⟨x, l1, bad1⟩ := r
  simp only at lo hi
  obtain ⟨k, rfl⟩ := Int.eq_ofNat_of_zero_le lo
  go_enter Tryz.func47, Tryz.ntmps47
  go_wp2_with fail
  refine (qnum_any M g l bad top _ H.out).mono ?_
  rintro e w1 ⟨he, hrd, hon⟩
  rw [Hr.out] at he hrd
  subst he
  obtain ⟨A, n, c, hb, hbs, hnc, hne⟩ := hrd.out
  have Hl1 := Lib.hid (show l1.length = n from hbs.len)
  have c0 : w1.cell? ⟨g, 0, none⟩ = some (.slice A n c) := hb.cell 0
  have c1 : w1.cell? ⟨g, 1, none⟩ = some (.bool bad1) := hb.cell 1
  have HB := Lib.hid hb
  have HS := Lib.hid hbs
  have Hon := Lib.hid hon
  clear hb hbs hon hrd
  have f1 := HB.out.frozen 1
  have c1' := c1
  cases bad1
  · by_cases hlt : n < k
    · have hq := Lib.hid (show qbytes (l, bad) top = ([], (l1, true)) by unfold qbytes; rw [Hr.out, if_pos (by right; simp only; rw [Hl1.out]; omega)])
      go_wp2_with fail
      go_ret
      rw [hq.out]
      exact ⟨⟨none, 0, 0, rfl, rfl, Own.nil _ _ _ _, fun _ => rfl⟩, qAt_bad HB.out HS.out hnc hne, fun x hx => (by cases hx), Hon.out.setCell (.inl (by simp)) _⟩
    · have hq := Lib.hid (show qbytes (l, bad) top = (l1.take k, (l1.drop k, false)) by unfold qbytes; rw [Hr.out, if_neg (by simp only; rw [Hl1.out]; simp; omega)]; simp)
      have b0 : (0 : Int) ≤ (k : Int) := by omega
      have b1 : (k : Int) ≤ (c : Int) := by omega
      have hkn : k ≤ n := by omega
      have hle := HS.out.le
      have HT := Lib.hid (HS.out.take hkn)
      obtain ⟨A2, hA2⟩ : ∃ A2, (if c = k then A else A.map (·.add (k * 1))) = A2 := ⟨_, rfl⟩
      have hsl := slice_from (P := Tryz.prog) (A := A) (n := n) (c := c) (k := k) (kk := .i64) Tryz.underlying23 u8s (by omega) hnc
      rw [hA2] at hsl
      have HA2 := Lib.hid hA2
      clear hA2
      go_wp2_with (first
        | (at_builtin
           refine wpList_app rfl (.tmp 26) (.tmp 32) 23 rfl Tryz.underlying23 u8i rfl (by decide) rfl (Own.lit w1 [] 5 1 0 (Nat.le_refl _) rfl (by decide)) rfl (HT.out.alloc _).rd (ints_one _ _) (by omega) (by omega) (by simp) (Nat.zero_add k) (List.nil_append _) ?_
           intro B bc w2 hown hg1 hx2
           have hbel : Below w1.heap.size w1 w2 := ((Below.refl _ _).alloc (Nat.le_refl _) _).grown hg1 (by simp) (by intro k hk; simp [ob] at hk; omega)
           have HB2 := Lib.hid (HB.out.below hbel)
           have HS2 := Lib.hid (HS.out.below hbel)
           have c0' : w2.cell? ⟨g, 0, none⟩ = some (.slice A n c) := HB2.out.cell 0
           have f0' := HB2.out.frozen 0
           have Hown := Lib.hid hown
           have Hbel := Lib.hid hbel
           clear hown hg1 hx2 hbel c0 c1 c1'))
      go_ret
      rw [hq.out]
      have hg1 : g < w1.heap.size := HB.out.lt
      refine ⟨⟨B, k, bc, rfl, by show _ = _; rw [List.length_take, Hl1.out]; omega, (Hown.out.setCell ?_ _).more Hon.out.size, fun hB => by subst hB; exact own_none Hown.out⟩, qAt_from HB2.out HS2.out hnc hne hkn HA2.out,
        fun x hx => HS.out.by_ x (List.mem_of_mem_take hx), (Hon.out.trans (Only.of_below Hbel.out _)).setCell (.inl (by simp)) _⟩
      intro he
      have := (Hown.out.blk g he).1
      omega
  · have hq := Lib.hid (show qbytes (l, bad) top = ([], (l1, true)) by unfold qbytes; rw [Hr.out, if_pos (.inl rfl)])
    go_wp2_with fail
    go_ret
    rw [hq.out]
    exact ⟨⟨none, 0, 0, rfl, rfl, Own.nil _ _ _ _, fun _ => rfl⟩, qAt_bad HB.out HS.out hnc hne, fun x hx => (by cases hx), Hon.out.setCell (.inl (by simp)) _⟩
theorem qend_any (M g : Nat) (l : List Int) (bad : Bool) (w : World) (h : QAt M w g l bad) :
    Calls Tryz.prog 49 #[.pointer (some ⟨g, 0, none⟩)] w fun e w' => e = .returned (.bool (!bad && l.isEmpty)) ∧ w = w' := by
  obtain ⟨A, n, c, hb, hbs, hnc, hne⟩ := h.out
  have c0 : w.cell? ⟨g, 0, none⟩ = some (.slice A n c) := hb.cell 0
  have c1 : w.cell? ⟨g, 1, none⟩ = some (.bool bad) := hb.cell 1
  have hl := hbs.len
  have hle := hbs.le
  have he : l.isEmpty = ((n : Int) == 0) := by
    cases l with
    | nil => simp at hl; subst hl; rfl
    | cons x l => simp at hl; simp; omega
  have HE := Lib.hid he
  clear h hb hbs hnc hne hl he
  cases bad
  · go_enter Tryz.func49, Tryz.ntmps49
    go_wp2_with fail
    go_ret
    exact ⟨by rw [HE.out]; rfl, rfl⟩
  · go_enter Tryz.func49, Tryz.ntmps49
    go_wp2_with fail
    go_ret
    exact ⟨rfl, rfl⟩
theorem qnum_eq (M g : Nat) (l : List Int) (bad : Bool) (top : Int) (r : Int × (List Int × Bool)) (w : World) (hr : qnum (l, bad) top = r) (h : QAt M w g l bad) :
    Calls Tryz.prog 48 #[.pointer (some ⟨g, 0, none⟩), .int .i64 top] w (QNum M w g r) := hr ▸ qnum_any M g l bad top w h
theorem qbytes_eq (M g : Nat) (l : List Int) (bad : Bool) (top : Int) (r : List Int × (List Int × Bool)) (w : World) (hr : qbytes (l, bad) top = r) (h : QAt M w g l bad) :
    Calls Tryz.prog 47 #[.pointer (some ⟨g, 0, none⟩), .int .i64 top] w (QBytes M w g r) := hr ▸ qbytes_any M g l bad top w h

/-- Program and reference are alike. -/
def Sim (s t : List Int × Bool) : Prop := s.2 = t.2 ∧ (s.2 = false → s.1 = t.1)
theorem sim_num {s t : List Int × Bool} (h : Sim s t) (top : Int) : (rnum s top).1 = (qnum t top).1 ∧ Sim (rnum s top).2 (qnum t top).2 := by
  obtain ⟨l, b⟩ := s
  obtain ⟨m, d⟩ := t
  obtain ⟨h1, h2⟩ := h
  simp only at h1 h2
  subst h1
  cases b with
  | true => rw [rnum_bad (.inl rfl), qnum_bad (.inl rfl)]; exact ⟨rfl, rfl, fun h => by cases h⟩
  | false =>
    have := h2 rfl
    subst this
    by_cases hc : l.length < 6 ∨ top < numOf l
    · rw [rnum_bad (.inr hc), qnum_bad (.inr hc)]; exact ⟨rfl, rfl, fun h => by cases h⟩
    · rw [rnum_good (by omega) (by omega), qnum_good (by omega) (by omega)]; exact ⟨rfl, rfl, fun _ => rfl⟩
theorem sim_bytes {s t : List Int × Bool} (h : Sim s t) (top : Int) : (rbytes s top).1 = (qbytes t top).1 ∧ Sim (rbytes s top).2 (qbytes t top).2 := by
  have hn := sim_num h top
  have hbad : (qnum t top).2.2 = true → rnum s top = (0, ([], true)) := by
    intro hq
    have : (rnum s top).2.2 = true := by rw [hn.2.1]; exact hq
    unfold rnum at this ⊢
    split
    · rfl
    · rename_i hc; rw [if_neg hc] at this; cases this
  unfold rbytes qbytes
  by_cases hq : (qnum t top).2.2 = true
  · rw [hbad hq, if_neg (by simp), if_pos (Or.inl hq)]
    exact ⟨rfl, rfl, fun h => by cases h⟩
  · have hq' : (qnum t top).2.2 = false := by simpa using hq
    have hs : (rnum s top).2.2 = false := by rw [hn.2.1]; exact hq'
    have hl := hn.2.2 hs
    rw [hn.1, hl]
    by_cases hc : (((qnum t top).2.1.length : Nat) : Int) < (qnum t top).1
    · rw [if_pos hc, if_pos (Or.inr hc)]; exact ⟨rfl, rfl, fun h => by cases h⟩
    · rw [if_neg hc, if_neg (by simp only [hq', Bool.false_eq_true, false_or]; exact hc)]
      exact ⟨rfl, hs, fun _ => rfl⟩
end Go.Proofs.YtahdeighocmijaaGreat
