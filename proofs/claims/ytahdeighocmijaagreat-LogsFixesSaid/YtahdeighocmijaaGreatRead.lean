/- The walks of code.Reader. -/
import Derived.Test.YtahdeighocmijaaGreatCode
namespace Go.Proofs.YtahdeighocmijaaGreat
set_option linter.unusedSimpArgs false
set_option linter.unusedVariables false
open Go.RowKit
open Crc (Bytes)
open Cod (numOf numTo)

/-- The slice lies in a block of bytes. -/
def U8 (w : World) (A : Option Addr) (n : Nat) : Prop := ∀ ad, A = some ad → 0 < n → ∃ cs fr, w.heap[ad.block]? = some (.cells cs 5 fr)
theorem U8.ne {w : World} {A : Option Addr} {n g : Nat} {t : TypeId} {cs : List Value} (h : U8 w A n) (hb : Blk w g t cs) (ht : t ≠ 5) : ∀ ad, A = some ad → 0 < n → ad.block ≠ g := by
  rintro ad hA h0 rfl
  obtain ⟨cs', fr, he⟩ := h ad hA h0
  rw [hb.at_] at he
  injection he with he
  injection he with _ he
  exact ht he
theorem U8.keep {w w' : World} {A : Option Addr} {n : Nat} (h : U8 w A n) (hk : ∀ ad, A = some ad → 0 < n → w'.heap[ad.block]? = w.heap[ad.block]?) : U8 w' A n := fun ad hA h0 => by
  obtain ⟨cs, fr, he⟩ := h ad hA h0
  exact ⟨cs, fr, (hk ad hA h0).trans he⟩
theorem U8.below {w w' : World} {A : Option Addr} {n : Nat} (h : U8 w A n) (hb : Below w.heap.size w w') : U8 w' A n := h.keep fun ad hA h0 => by
  obtain ⟨cs, fr, he⟩ := h ad hA h0
  refine hb.block _ ?_
  rcases Nat.lt_or_ge ad.block w.heap.size with hlt | hge
  · exact hlt
  · rw [Array.getElem?_eq_none hge] at he; cases he
theorem U8.lt {w : World} {A : Option Addr} {n : Nat} (h : U8 w A n) : ∀ ad, A = some ad → 0 < n → ad.block < w.heap.size := fun ad hA h0 => by
  obtain ⟨cs, fr, he⟩ := h ad hA h0
  rcases Nat.lt_or_ge ad.block w.heap.size with hlt | hge
  · exact hlt
  · rw [Array.getElem?_eq_none hge] at he; cases he
theorem U8.of_own {w : World} {base n c : Nat} {A : Option Addr} {xs : List Value} (h : Own w base 5 1 A n c xs) : U8 w A n := fun ad hA h0 => by
  rcases h.row.2 with ⟨_, hz⟩ | ⟨g, cap, cur, hv, _, hh, _⟩
  · omega
  · have : A = some ⟨g, 0, none⟩ := by injection hv
    rw [hA] at this; cases this
    exact ⟨cur, (0, 0), hh⟩
theorem rdT : (133 : TypeId) ≠ 5 := by decide

/-- A reader: what is left, and whether it is bad. -/
structure RdAt (w : World) (g : Nat) (l : List Int) (bad : Bool) : Prop where
  out : ∃ A n c, Blk w g 133 [.slice A n c, .bool bad] ∧ Bs w A n l ∧ n ≤ c ∧ U8 w A n

section
variable {w w' : World} {g : Nat} {l : List Int} {bad : Bool}
theorem RdAt.lt (h : RdAt w g l bad) : g < w.heap.size := by obtain ⟨_, _, _, hb, _⟩ := h.out; exact hb.lt
theorem RdAt.bytes (h : RdAt w g l bad) : Bytes l := by obtain ⟨_, _, _, _, hb, _⟩ := h.out; exact hb.by_
theorem RdAt.below (h : RdAt w g l bad) (hb : Below w.heap.size w w') : RdAt w' g l bad := by
  obtain ⟨A, n, c, h1, h2, h3, h4⟩ := h.out
  exact ⟨A, n, c, h1.below hb, h2.below hb, h3, h4.below hb⟩
theorem RdAt.alloc (h : RdAt w g l bad) {o : Obj} : RdAt (w.alloc o) g l bad := h.below ((Below.refl _ _).alloc (Nat.le_refl _) o)
theorem RdAt.drewN (h : RdAt w g l bad) {n : Nat} : RdAt (w.drewN n) g l bad := h.below (bl_drewN (Below.refl _ _) n)
theorem RdAt.drew (h : RdAt w g l bad) : RdAt w.drew g l bad := h.below (Below.refl _ _).drew
end

/-- A reader that is none of those that have turned. -/
theorem RdAt.only {w w' : World} {g : Nat} {l : List Int} {bad : Bool} {bs : List Nat} (h : RdAt w g l bad) (ho : Only bs w w') (hg : g ∉ bs) (hb : ∀ b ∈ bs, ∃ t cs, Blk w b t cs ∧ t ≠ 5) : RdAt w' g l bad := by
  obtain ⟨A, n, c, h1, h2, h3, h4⟩ := h.out
  have hn : ∀ ad, A = some ad → 0 < n → ad.block ∉ bs := fun ad hA h0 hm => by
    obtain ⟨t, cs, hblk, ht⟩ := hb _ hm
    exact h4.ne hblk ht ad hA h0 rfl
  exact ⟨A, n, c, h1.only ho hg, h2.only ho hn, h3, h4.keep fun ad hA h0 => ho.block _ (h4.lt ad hA h0) (hn ad hA h0)⟩
theorem RdAt.blk {w : World} {g : Nat} {l : List Int} {bad : Bool} (h : RdAt w g l bad) : ∃ t cs, Blk w g t cs ∧ t ≠ 5 := by
  obtain ⟨A, n, c, h1, _⟩ := h.out
  exact ⟨_, _, h1, rdT⟩
def rnum (s : List Int × Bool) (top : Int) : Int × (List Int × Bool) := if s.2 = true ∨ s.1.length < 6 ∨ top < numOf s.1 then (0, ([], true)) else (numOf s.1, (s.1.drop 6, false))
def rbytes (s : List Int × Bool) (top : Int) : List Int × (List Int × Bool) :=
  if (((rnum s top).2.1.length : Nat) : Int) < (rnum s top).1 then ([], ([], true)) else ((rnum s top).2.1.take (rnum s top).1.toNat, ((rnum s top).2.1.drop (rnum s top).1.toNat, (rnum s top).2.2))

structure RNum (w : World) (g : Nat) (r : Int × (List Int × Bool)) (e : Ending) (w' : World) : Prop where
  ret : e = .returned (.int .i64 r.1)
  rd : RdAt w' g r.2.1 r.2.2
  only : Only [g] w w'

set_option maxHeartbeats 400000 in
theorem read_any (A : Option Addr) (n c : Nat) (l : List Int) (w : World) (h : Bs w A n l) :
    Calls Tryz.prog 81 #[.slice A n c] w fun e w' => ∃ g, e = .returned (.pointer (some ⟨g, 0, none⟩)) ∧ RdAt w' g l false ∧ w.heap.size ≤ g ∧ Below w.heap.size w w' := by
  have H := Lib.hid h
  have hle := h.le
  clear h
  go_enter Tryz.func81, Tryz.ntmps81
  go_wp2_with fail
  refine (clone_any A n c l _ H.out).mono ?_
  rintro e w1 ⟨B, m, bc, rfl, hm, hown, hnone, hbel⟩
  go_wp2_with fail
  go_ret
  have hmn : l.length = m := hm
  have hl := H.out.len
  exact ⟨w1.heap.size, rfl, ⟨B, m, bc, Blk.new _ _ _, (own_bs hown H.out.by_ (by omega)).alloc _, hown.cap, (U8.of_own hown).below ((Below.refl _ _).alloc (Nat.le_refl _) _)⟩, hbel.size, hbel.alloc hbel.size _⟩

set_option maxHeartbeats 400000 in
theorem fail_any (g : Nat) (v0 v1 : Value) (w : World) (h : Blk w g 133 [v0, v1]) :
    Calls Tryz.prog 103 #[.pointer (some ⟨g, 0, none⟩)] w fun e w' => e = .returned (.tuple #[]) ∧ RdAt w' g [] true ∧ Only [g] w w' := by
  have c0 : w.cell? ⟨g, 0, none⟩ = some v0 := h.cell 0
  have c1 : w.cell? ⟨g, 1, none⟩ = some v1 := h.cell 1
  have f0 := h.frozen 0
  have f1 := h.frozen 1
  have H := Lib.hid h
  clear h
  go_enter Tryz.func103, Tryz.ntmps103
  go_wp2_with fail
  go_end0
  refine ⟨rfl, ⟨none, 0, 0, ?_, Bs.nil _ _, Nat.le_refl _, fun ad h => by cases h⟩, ((Only.refl _ _).setCell (.inl (by simp)) _).setCell (.inl (by simp)) _⟩
  exact (H.out.set_ 0 _).set_ 1 _

theorem u8s : (Tryz.prog.info? 5).map (·.size) = some 1 := by kernel_rfl
theorem rdAt_from {w : World} {g n c k : Nat} {A A2 : Option Addr} {l : List Int} {bad : Bool} (H : Blk w g 133 [.slice A n c, .bool bad]) (HB : Bs w A n l) (hnc : n ≤ c) (hU : U8 w A n) (hk : k ≤ n)
    (hA : (if c = k then A else A.map (·.add (k * 1))) = A2) : RdAt (w.setCell ⟨g, 0, none⟩ (.slice A2 (n - k) (c - k))) g (l.drop k) bad := by
  obtain ⟨h1, h2⟩ := HB.rd.from_ hk hnc hA
  have hne := hU.ne H rdT
  refine ⟨A2, n - k, c - k, H.set_ 0 _, ⟨?_, fun x hx => HB.by_ x (List.mem_of_mem_drop hx), by have := HB.le; omega⟩, by omega, fun ad hB h0 => ?_⟩
  · rw [Nat.mul_one] at h1
    have e : ints .u8 (l.drop k) = (ints .u8 l).drop k := by simp [ints, List.map_drop]
    rw [e]
    refine h1.setCell (fun ad hB h0 => ?_) _
    obtain ⟨ad', hA', he⟩ := h2 ad hB h0
    rw [he]; exact hne ad' hA' (by omega)
  · obtain ⟨ad', hA', he⟩ := h2 ad hB h0
    obtain ⟨cs, fr, hh⟩ := hU ad' hA' (by omega)
    rw [he]
    exact ⟨cs, fr, (Below.heap_setCell w _ _ _ (hne ad' hA' (by omega))).trans hh⟩
theorem rnum_bad {l : List Int} {bad : Bool} {top : Int} (h : bad = true ∨ l.length < 6 ∨ top < numOf l) : rnum (l, bad) top = (0, ([], true)) := by
  unfold rnum; rw [if_pos h]
theorem rnum_good {l : List Int} {top : Int} (h6 : 6 ≤ l.length) (h : numOf l ≤ top) : rnum (l, false) top = (numOf l, (l.drop 6, false)) := by
  unfold rnum; rw [if_neg (by simp; omega)]
theorem numTo_six {l : List Int} : numTo l 6 = numOf l := rfl

set_option maxHeartbeats 1000000 in
theorem rnum_any (g : Nat) (l : List Int) (bad : Bool) (top : Int) (w : World) (h : RdAt w g l bad) :
    Calls Tryz.prog 83 #[.pointer (some ⟨g, 0, none⟩), .int .i64 top] w (RNum w g (rnum (l, bad) top)) := by
  obtain ⟨A, n, c, hb, hbs, hnc, hne⟩ := h.out
  have hlen := hbs.len
  have c0 : w.cell? ⟨g, 0, none⟩ = some (.slice A n c) := hb.cell 0
  have c1 : w.cell? ⟨g, 1, none⟩ = some (.bool bad) := hb.cell 1
  have H := Lib.hid hb
  have HB := Lib.hid hbs
  have Hlen := Lib.hid hlen
  clear h hb hbs hlen
  cases bad
  · by_cases h6 : n < 6
    · have hr := Lib.hid (rnum_bad (l := l) (bad := false) (top := top) (.inr (.inl (by rw [Hlen.out]; exact h6))))
      go_enter Tryz.func83, Tryz.ntmps83
      go_wp2_with (first | (go_at_call 103; refine (fail_any g _ _ _ H.out).mono ?_; rintro e w1 ⟨rfl, hrd, hon⟩))
      go_ret
      rw [hr.out]
      exact ⟨rfl, hrd, hon⟩
    · have b0 : (0 : Int) ≤ 6 := by omega
      have b1 : (6 : Int) ≤ (n : Int) := by omega
      have b2 : (6 : Int) ≤ (c : Int) := by omega
      have f0 := H.out.frozen 0
      have h0 : 0 < n := by omega
      obtain ⟨A2, hA2⟩ : ∃ A2, (if c = 6 then A else A.map (·.add (6 * 1))) = A2 := ⟨_, rfl⟩
      have hsl : ∀ w : World, (Instr.slice 23 (.slice A n c) (some (.int .i64 6)) none none).run Tryz.prog w = .ok (.slice A2 (n - 6) (c - 6)) w := fun w => by
        rw [← hA2]; exact slice_from (P := Tryz.prog) (k := 6) (kk := .i64) Tryz.underlying23 u8s (by omega) hnc w
      have HA2 := Lib.hid hA2
      clear hA2
      go_enter Tryz.func83, Tryz.ntmps83
      go_wp2_with fail
      go_loop [5, 28] (fun v i => ∃ k : Nat, k ≤ 6 ∧ i = .int .i64 k ∧ v = .int .i64 (numTo l k)) (fun _ i => 6 - (intOf i).toNat)
      case atStart => exact ⟨0, Nat.zero_le _, rfl, rfl⟩
      case round =>
        obtain ⟨k, hk, rfl, rfl⟩ := hrel
        have hbd := Cod.numTo_bd HB.out.by_ k (by rw [Hlen.out]; omega)
        obtain ⟨d0, d1⟩ := hbd
        by_cases hlt : k < 6
        · obtain ⟨ad, hA, hc, h1, h2⟩ := HB.out.get (show k < n by omega)
          subst hA
          have d2 : numTo l k < 1099511627776 := by
            have : k = 0 ∨ k = 1 ∨ k = 2 ∨ k = 3 ∨ k = 4 ∨ k = 5 := by omega
            rcases this with rfl | rfl | rfl | rfl | rfl | rfl <;> simp at d1 <;> omega
          have hor := Cod.or_low (numTo l k) (ix l k) d0 d2 ⟨h1, h2⟩
          have hs : numTo l k * 256 + ix l k = numTo l (k + 1) := by
            rw [Cod.numTo_succ (by rw [Hlen.out]; omega), ix_get]
          rw [hs] at hor
          clear hs d1
          go_wp2_with fail
          go_round
          case rel => exact ⟨k + 1, by omega, by go_num, rfl⟩
          case measure => simp [intOf]; omega
        · have hk6 := Lib.hid (show k = 6 by omega)
          by_cases ht : top < numOf l
          · have hr := Lib.hid (rnum_bad (l := l) (bad := false) (top := top) (.inr (.inr ht)))
            have ht1 : top < numTo l k := by rw [hk6.out]; exact ht
            clear d1
            go_wp2_with (first | (go_at_call 103; refine (fail_any g _ _ _ H.out).mono ?_; rintro e w1 ⟨rfl, hrd, hon⟩))
            go_ret
            rw [hr.out]
            exact ⟨rfl, hrd, hon⟩
          · have hr := Lib.hid (rnum_good (l := l) (top := top) (by rw [Hlen.out]; omega) (by omega))
            have ht1 : ¬ top < numTo l k := by rw [hk6.out]; exact ht
            clear d1
            go_wp2_with fail
            go_ret
            rw [hr.out]
            refine ⟨by rw [hk6.out]; rfl, ?_, (Only.refl _ _).setCell (.inl (by simp)) _⟩
            exact rdAt_from H.out HB.out hnc hne (by omega) HA2.out
  · have hr := Lib.hid (rnum_bad (l := l) (bad := true) (top := top) (.inl rfl))
    go_enter Tryz.func83, Tryz.ntmps83
    go_wp2_with (first | (go_at_call 103; refine (fail_any g _ _ _ H.out).mono ?_; rintro e w1 ⟨rfl, hrd, hon⟩))
    go_ret
    rw [hr.out]
    exact ⟨rfl, hrd, hon⟩

structure RBytes (w : World) (g : Nat) (r : List Int × (List Int × Bool)) (e : Ending) (w' : World) : Prop where
  ret : ∃ A n c, e = .returned (.slice A n c) ∧ Hid (r.1.length = n) ∧ Own w' w.heap.size 5 1 A n c (ints .u8 r.1) ∧ (A = none → r.1 = [])
  rd : RdAt w' g r.2.1 r.2.2
  by_ : Bytes r.1
  only : Only [g] w w'

theorem RdAt.le {w : World} {g : Nat} {l : List Int} {bad : Bool} (h : RdAt w g l bad) : l.length ≤ 140737488355328 := by
  obtain ⟨A, n, c, _, hb, _⟩ := h.out
  rw [hb.len]; exact hb.le
theorem rnum_lo (l : List Int) (bad : Bool) (top : Int) (hb : Bytes l) : 0 ≤ (rnum (l, bad) top).1 ∧ (rnum (l, bad) top).1 ≤ 1099511627776 * 1024 := by
  unfold rnum
  split
  · simp
  · rename_i h
    have h6 : 6 ≤ l.length := by simp at h; omega
    have := Cod.numTo_bd hb 6 h6
    rw [numTo_six] at this
    simp only
    omega

set_option maxHeartbeats 1000000 in
theorem rbytes_any (g : Nat) (l : List Int) (bad : Bool) (top : Int) (w : World) (h : RdAt w g l bad) :
    Calls Tryz.prog 82 #[.pointer (some ⟨g, 0, none⟩), .int .i64 top] w (RBytes w g (rbytes (l, bad) top)) := by
  have Hb := Lib.hid h.bytes
  have H := Lib.hid h
  obtain ⟨lo, hi⟩ := rnum_lo l bad top h.bytes
  have hsz := h.lt
  clear h
  obtain ⟨r, hr⟩ : ∃ r, rnum (l, bad) top = r := ⟨_, rfl⟩
  rw [hr] at lo hi
  have Hr := Lib.hid hr
  clear hr
  obtain ⟨x, l1, bad1⟩ := r
  simp only at lo hi
  obtain ⟨k, rfl⟩ := Int.eq_ofNat_of_zero_le lo
  go_enter Tryz.func82, Tryz.ntmps82
  go_wp2_with fail
  refine (rnum_any g l bad top _ H.out).mono ?_
  rintro e w1 ⟨he, hrd, hon⟩
  rw [Hr.out] at he hrd
  subst he
  obtain ⟨A, n, c, hb, hbs, hnc, hne⟩ := hrd.out
  have Hl1 := Lib.hid (show l1.length = n from hbs.len)
  have c0 : w1.cell? ⟨g, 0, none⟩ = some (.slice A n c) := hb.cell 0
  have c1 : w1.cell? ⟨g, 1, none⟩ = some (.bool bad1) := hb.cell 1
  have HB := Lib.hid hb
  have HS := Lib.hid hbs
  have Hon := Lib.hid hon
  clear hb hbs hon hrd
  by_cases hlt : n < k
  · have hq := Lib.hid (show rbytes (l, bad) top = ([], ([], true)) by unfold rbytes; rw [Hr.out, if_pos (by simp only; rw [Hl1.out]; omega)])
    go_wp2_with (first | (go_at_call 103; refine (fail_any g _ _ _ HB.out).mono ?_; rintro e w2 ⟨rfl, hrd2, hon2⟩))
    go_ret
    rw [hq.out]
    exact ⟨⟨none, 0, 0, rfl, rfl, Own.nil _ _ _ _, fun _ => rfl⟩, hrd2, fun x hx => (by cases hx), Hon.out.trans hon2⟩
  · have hq := Lib.hid (show rbytes (l, bad) top = (l1.take k, (l1.drop k, bad1)) by unfold rbytes; rw [Hr.out, if_neg (by simp only; rw [Hl1.out]; omega)]; simp)
    have b0 : (0 : Int) ≤ (k : Int) := by omega
    have b1 : (k : Int) ≤ (c : Int) := by omega
    have hkn : k ≤ n := by omega
    go_wp2_with fail
    refine (clone_any A k c (l1.take k) _ (HS.out.take hkn)).mono ?_
    rintro e w2 ⟨B, m, bc, rfl, hm, hown, hnone, hbel⟩
    have HB2 := Lib.hid (HB.out.below hbel)
    have HS2 := Lib.hid (HS.out.below hbel)
    have c0' : w2.cell? ⟨g, 0, none⟩ = some (.slice A n c) := HB2.out.cell 0
    have f0' := HB2.out.frozen 0
    clear c0 c1
    obtain ⟨A2, hA2⟩ : ∃ A2, (if c = k then A else A.map (·.add (k * 1))) = A2 := ⟨_, rfl⟩
    have hsl := slice_from (P := Tryz.prog) (A := A) (n := n) (c := c) (k := k) (kk := .i64) Tryz.underlying23 u8s (by omega) hnc
    rw [hA2] at hsl
    have HA2 := Lib.hid hA2
    clear hA2
    go_wp2_with fail
    go_ret
    rw [hq.out]
    have hg1 : g < w1.heap.size := HB.out.lt
    refine ⟨⟨B, m, bc, rfl, hm, (hown.setCell ?_ _).more Hon.out.size, hnone⟩, rdAt_from HB2.out HS2.out hnc (hne.below hbel) hkn HA2.out, fun x hx => HS.out.by_ x (List.mem_of_mem_take hx), (Hon.out.trans (Only.of_below hbel _)).setCell (.inl (by simp)) _⟩
    intro he
    have := (hown.blk g he).1
    omega
theorem rok_any (g : Nat) (l : List Int) (bad : Bool) (w : World) (h : RdAt w g l bad) :
    Calls Tryz.prog 112 #[.pointer (some ⟨g, 0, none⟩)] w fun e w' => e = .returned (.bool (!bad)) ∧ w = w' := by
  obtain ⟨A, n, c, hb, hbs, hnc, hne⟩ := h.out
  have c1 : w.cell? ⟨g, 1, none⟩ = some (.bool bad) := hb.cell 1
  clear h hb hbs hnc hne
  go_enter Tryz.func112, Tryz.ntmps112
  go_wp2_with fail
  go_ret
  exact ⟨rfl, rfl⟩
theorem rend_any (g : Nat) (l : List Int) (bad : Bool) (w : World) (h : RdAt w g l bad) :
    Calls Tryz.prog 84 #[.pointer (some ⟨g, 0, none⟩)] w fun e w' => e = .returned (.bool (!bad && l.isEmpty)) ∧ w = w' := by
  obtain ⟨A, n, c, hb, hbs, hnc, hne⟩ := h.out
  have c0 : w.cell? ⟨g, 0, none⟩ = some (.slice A n c) := hb.cell 0
  have c1 : w.cell? ⟨g, 1, none⟩ = some (.bool bad) := hb.cell 1
  have hl := hbs.len
  have hle := hbs.le
  have he : l.isEmpty = ((n : Int) == 0) := by
    cases l with
    | nil => simp at hl; subst hl; rfl
    | cons x l => simp at hl; simp; omega
  have HE := Lib.hid he
  clear h hb hbs hnc hne hl he
  cases bad
  · go_enter Tryz.func84, Tryz.ntmps84
    go_wp2_with fail
    go_ret
    exact ⟨by rw [HE.out]; rfl, rfl⟩
  · go_enter Tryz.func84, Tryz.ntmps84
    go_wp2_with fail
    go_ret
    exact ⟨rfl, rfl⟩
theorem rnum_eq (g : Nat) (l : List Int) (bad : Bool) (top : Int) (r : Int × (List Int × Bool)) (w : World) (hr : rnum (l, bad) top = r) (h : RdAt w g l bad) :
    Calls Tryz.prog 83 #[.pointer (some ⟨g, 0, none⟩), .int .i64 top] w (RNum w g r) := hr ▸ rnum_any g l bad top w h
theorem rbytes_eq (g : Nat) (l : List Int) (bad : Bool) (top : Int) (r : List Int × (List Int × Bool)) (w : World) (hr : rbytes (l, bad) top = r) (h : RdAt w g l bad) :
    Calls Tryz.prog 82 #[.pointer (some ⟨g, 0, none⟩), .int .i64 top] w (RBytes w g r) := hr ▸ rbytes_any g l bad top w h
theorem rnum_le (s : List Int × Bool) (top : Int) : (rnum s top).2.1.length ≤ s.1.length := by
  unfold rnum
  split
  · simp
  · simp
theorem rbytes_le {w : World} {g : Nat} {l : List Int} {bad : Bool} {top : Int} {r : List Int × (List Int × Bool)} (h : RdAt w g l bad) (hr : rbytes (l, bad) top = r) : r.1.length ≤ 140737488355328 := by
  have h1 := h.le
  have h2 := rnum_le (l, bad) top
  rw [← hr]
  unfold rbytes
  split
  · simp
  · simp only [List.length_take] at *
    omega
end Go.Proofs.YtahdeighocmijaaGreat
