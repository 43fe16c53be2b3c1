/- The walk of CodePlays: what is written. -/
import Derived.Test.YtdegfbhnilbcfaaRread
import Derived.Test.YtdegfbhnilbcfaaBack
namespace Go.Proofs.Ytdegfbhnilbcfaa
set_option linter.unusedSimpArgs false
set_option linter.unusedVariables false
open Go.RowKit
open Crc (Bytes)
open Cod (six held far numOf)

theorem and1 (n : Nat) (h : n < 4294967296) : Go.bits .and .i64 (n : Int) 1 = ((n % 2 : Nat) : Int) := by
  have e : Go.bits .and .i64 (n : Int) 1 = IntKind.i64.wrap ((BitVec.ofInt IntKind.i64.bits (n : Int) &&& BitVec.ofInt IntKind.i64.bits 1).toNat : Int) := rfl
  have e2 : (BitVec.ofInt IntKind.i64.bits (n : Int) &&& BitVec.ofInt IntKind.i64.bits 1).toNat = n % 2 := by
    rw [BitVec.toNat_and, BitVec.ofInt_natCast, BitVec.toNat_ofNat]
    rw [show (BitVec.ofInt IntKind.i64.bits 1).toNat = 2 ^ 1 - 1 by decide, Nat.mod_eq_of_lt (show n < 2 ^ IntKind.i64.bits by show n < 2 ^ 64; omega), Nat.and_two_pow_sub_one_eq_mod]
  rw [e, e2, IntKind.wrap_i64]
  omega

def pl (raw N : List Int) : Nat → List Int
  | 0 => []
  | k + 1 => if k % 2 = 1 then (pl raw N k ++ six (ix N k)) ++ six (((raw.take k).length : Nat) : Int) ++ raw.take k else pl raw N k ++ six (ix N k)
theorem pl_bytes {raw : List Int} (hr : Bytes raw) (N : List Int) : ∀ k, Bytes (pl raw N k)
  | 0 => fun x hx => by cases hx
  | k + 1 => by
    have h := bytes_app (pl_bytes hr N k) (Cod.six_bytes (ix N k))
    unfold pl
    split
    · exact bytes_app (bytes_app h (Cod.six_bytes _)) fun x hx => hr x (List.mem_of_mem_take hx)
    · exact h
theorem pl_len (raw N : List Int) : ∀ k, k ≤ 10 → (pl raw N k).length ≤ k * 22
  | 0, _ => by simp [pl]
  | k + 1, h => by
    have := pl_len raw N k (by omega)
    unfold pl
    split
    · simp only [List.length_append, List.length_take]; simp [six]; omega
    · simp only [List.length_append]; simp [six]; omega

structure PlayRel (w : World) (raw N : List Int) (k : Nat) (B : Option Addr) (nb cb : Nat) (V : Option Addr) (cv : Nat) (wr : World) : Prop where
  len : (pl raw N k).length = nb
  b : Own wr w.heap.size 5 1 B nb cb (ints .u8 (pl raw N k))
  v : Own wr w.heap.size 5 1 V nb cv (ints .u8 (pl raw N k))
  bel : Below w.heap.size w wr
def PlayDone (w : World) (raw N : List Int) (s13 s14 : Value) (wx : World) : Prop :=
  ∃ (k : Nat) (B : Option Addr) (nb cb : Nat) (V : Option Addr) (cv : Nat), k ≤ 10 ∧ nb ≤ 220 ∧ s13 = .slice B nb cb ∧ s14 = .slice V nb cv ∧ PlayRel w raw N k B nb cb V cv wx
/-- Two rows that calls of the round have made. -/
structure PlayTwo (w wr : World) (l : List Int) (s13 s14 : Value) (wx : World) : Prop where
  out : ∃ (B : Option Addr) (nb cb : Nat) (V : Option Addr) (cv : Nat), s13 = .slice B nb cb ∧ s14 = .slice V nb cv ∧ l.length = nb ∧ Own wx w.heap.size 5 1 B nb cb (ints .u8 l) ∧ Own wx w.heap.size 5 1 V nb cv (ints .u8 l)
  bel : Below wr.heap.size wr wx
def CDone (wr : World) (D : Option Addr) (nb dc : Nat) (wx : World) : Prop :=
  ∃ lc : List Int, Own wx wr.heap.size 5 1 D nb dc (ints .u8 lc) ∧ Bytes lc ∧ Below wr.heap.size wr wx ∧ lc.length = nb
theorem cdone_set {wr w3 : World} {g nb dc r : Nat} {pb : List Int} {x : Int} (h : Own w3 wr.heap.size 5 1 (some ⟨g, 0, none⟩) nb dc (ints .u8 pb)) (h0 : 0 ≤ x) (h1 : x ≤ 255) (hb : Bytes pb) (hl : pb.length = nb)
    (hbel : Below wr.heap.size wr w3) (hg : wr.heap.size ≤ g) : CDone wr (some ⟨g, 0, none⟩) nb dc (w3.setCell ⟨g, r, none⟩ (.int .u8 x)) := by
  refine ⟨pb.set r x, ?_, ?_, ?_, by simpa using hl⟩
  · have := h.stored r (.int .u8 x)
    simpa [ints, List.map_set] using this
  · intro y hy
    rcases List.mem_or_eq_of_mem_set hy with hy | rfl
    · exact hb y hy
    · exact ⟨h0, by omega⟩
  · exact ((Only.of_below hbel []).setCell (Or.inr hg) _).below
/-- The five rows that are read. -/
structure PlayCtx (W : World) (g : Nat) : Prop where
  row : ∀ q, q < 5 → ∃ (X : Option Addr) (nx cx : Nat) (l : List Int), W.cell? ⟨g, q, none⟩ = some (.slice X nx cx) ∧ Bs W X nx l ∧ nx ≤ cx
  lt : g < W.heap.size
theorem play_ctx {w : World} {g n c nb cb dc hf ne ce : Nat} {A B D E : Option Addr} {t : TypeId} {l1 l2 l3 l4 : List Int} (hg : g = w.heap.size)
    (h1 : Bs (w.alloc (.cells #[.slice A n c, .slice B nb cb, .slice D nb dc, .slice B hf cb, .slice E ne ce] t)) A n l1)
    (h2 : Bs (w.alloc (.cells #[.slice A n c, .slice B nb cb, .slice D nb dc, .slice B hf cb, .slice E ne ce] t)) B nb l2)
    (h3 : Bs (w.alloc (.cells #[.slice A n c, .slice B nb cb, .slice D nb dc, .slice B hf cb, .slice E ne ce] t)) D nb l3) (hf_ : hf ≤ nb)
    (h4 : Bs (w.alloc (.cells #[.slice A n c, .slice B nb cb, .slice D nb dc, .slice B hf cb, .slice E ne ce] t)) E ne l4)
    (k1 : n ≤ c) (k2 : nb ≤ cb) (k3 : nb ≤ dc) (k4 : ne ≤ ce) : PlayCtx (w.alloc (.cells #[.slice A n c, .slice B nb cb, .slice D nb dc, .slice B hf cb, .slice E ne ce] t)) g := by
  subst hg
  have hb := Blk.new w t [.slice A n c, .slice B nb cb, .slice D nb dc, .slice B hf cb, .slice E ne ce]
  refine ⟨fun q hq => ?_, hb.lt⟩
  have hq' : q = 0 ∨ q = 1 ∨ q = 2 ∨ q = 3 ∨ q = 4 := by omega
  rcases hq' with rfl | rfl | rfl | rfl | rfl
  · exact ⟨A, n, c, l1, hb.cell 0, h1, k1⟩
  · exact ⟨B, nb, cb, l2, hb.cell 1, h2, k2⟩
  · exact ⟨D, nb, dc, l3, hb.cell 2, h3, k3⟩
  · exact ⟨B, hf, cb, l2.take hf, hb.cell 3, h2.take hf_, by omega⟩
  · exact ⟨E, ne, ce, l4, hb.cell 4, h4, k4⟩
/-- The program's reader and the reference's, side by side. -/
structure Two (W : World) (gr gs : Nat) (s t : List Int × Bool) (wx : World) : Prop where
  rd : RdAt wx gr s.1 s.2
  q : QAt W.heap.size wx gs t.1 t.2
  sim : Sim s t
  bel : Below W.heap.size W wx
theorem Two.drew {W : World} {gr gs : Nat} {s t : List Int × Bool} {wx : World} (h : Two W gr gs s t wx) : Two W gr gs s t wx.drew := ⟨h.rd.drew, h.q.drew, h.sim, h.bel.drew⟩
theorem two_start {W w3 : World} {gr nx cx : Nat} {X : Option Addr} {l : List Int} (hr : RdAt w3 gr l false) (hx : Bs w3 X nx l) (hc : nx ≤ cx) (hlt : ∀ ad, X = some ad → 0 < nx → ad.block < W.heap.size) (hb : Below W.heap.size W w3) :
    Two W gr w3.heap.size (l, false) (l, false) (w3.alloc (.cells #[.slice X nx cx, .bool false] 45)) :=
  ⟨hr.alloc, ⟨X, nx, cx, Blk.new w3 _ [.slice X nx cx, .bool false], hx.alloc _, hc, hlt, hb.size⟩, ⟨rfl, fun _ => rfl⟩, hb.alloc hb.size _⟩
theorem QAt.blk {M : Nat} {w : World} {g : Nat} {l : List Int} {bad : Bool} (h : QAt M w g l bad) : ∃ t cs, Blk w g t cs ∧ t ≠ 5 := by
  obtain ⟨_, _, _, hb, _⟩ := h.out
  exact ⟨_, _, hb, by decide⟩
theorem QAt.bad {M : Nat} {w : World} {g : Nat} {l : List Int} {bad : Bool} (h : QAt M w g l bad) : w.cell? ⟨g, 1, none⟩ = some (.bool bad) := by
  obtain ⟨_, _, _, hb, _⟩ := h.out
  exact hb.cell 1
theorem apart5 {w w4 : World} {g n c e size : Nat} {A : Option Addr} {xs : List Value} (h : Own w4 w.heap.size e size A n c xs) (hg : g < w.heap.size) : ∀ ad, A = some ad → 0 < n → ad.block ≠ g := by
  intro ad hA _
  subst hA
  have := (h.blk ad.block rfl).1
  omega
theorem keepc {W w' : World} {ad : Addr} {v : Value} (h : W.cell? ad = some v) (hb : Below W.heap.size W w') : w'.cell? ad = some v ∧ Below W.heap.size W w' := ⟨(hb.cell (World.block_lt_of_cell? W ad h)).trans h, hb⟩

set_option maxRecDepth 100000 in
set_option maxHeartbeats 400000 in
theorem plays_long (A N1 N2 N3 : Option Addr) (n c n1 c1 n2 c2 n3 c3 : Nat) (at_ : Int) (by_ : Int) (w : World) (h : 200 < n) :
    Calls Try.prog 8 #[.slice A n c, .slice N1 n1 c1, .slice N2 n2 c2, .slice N3 n3 c3, .int .i64 at_, .int .u8 by_] w fun e w' => e = .returned (.bool true) ∧ Below w.heap.size w w' := by
  go_enter Try.func8, Try.ntmps8
  go_wp2_with (go_at_call 17; refine (awake2_any _).mono ?_; rintro e w' ⟨rfl, hb⟩)
  go_ret
  exact ⟨rfl, hb⟩

set_option maxRecDepth 100000 in
set_option maxHeartbeats 4000000 in
theorem plays_any (A NA AA BA : Option Addr) (n c n1 c1 n2 c2 n3 c3 : Nat) (raw N acts bounds : List Int) (at_ by_ : Int) (w : World) (hr : Bs w A n raw) (h200 : n ≤ 200) (hnc : n ≤ c) (hN : Is w NA n1 N) (hA : Is w AA n2 acts) (hB : Is w BA n3 bounds)
    (hby : 0 ≤ by_ ∧ by_ ≤ 255) :
    Calls Try.prog 8 #[.slice A n c, .slice NA n1 c1, .slice AA n2 c2, .slice BA n3 c3, .int .i64 at_, .int .u8 by_] w fun e w' => e = .returned (.bool true) ∧ Below w.heap.size w w' := by
  have HR := Lib.hid hr
  have HN := Lib.hid hN
  have HA := Lib.hid hA
  have HB := Lib.hid hB
  have hn1 := hN.le
  have hn2 := hA.le
  have hn3 := hB.le
  have Hnl := Lib.hid (show N.length = n1 from hN.len)
  have Hrl := Lib.hid (show raw.length = n from hr.len)
  clear hr hN hA hB
  go_enter Try.func8, Try.ntmps8
  go_upto_block 0 with fail
  go_cut [13, 14] (fun s13 s14 wx => PlayDone w raw N s13 s14 wx)
  case first =>
    go_wp2_with fail
    go_loopw [13, 14, 15] (fun b v i wr => ∃ (k : Nat) (B : Option Addr) (nb cb : Nat) (V : Option Addr) (cv : Nat), k ≤ n1 ∧ k ≤ 10 ∧ i = .int .i64 k ∧ b = .slice B nb cb ∧ v = .slice V nb cv ∧ PlayRel w raw N k B nb cb V cv wr) (fun _ _ i _ => 10 - (intOf i).toNat)
    case atStart => exact ⟨0, none, 0, 0, none, 0, by omega, by omega, rfl, rfl, rfl, rfl, Own.nil _ _ _ _, Own.nil _ _ _ _, Below.refl _ _⟩
    case round =>
      obtain ⟨k, B, nb, cb, V, cv, hkn, hk10, rfl, rfl, rfl, hrel'⟩ := hrel
      have Hrel := Lib.hid hrel'
      have hnb : nb ≤ 220 := by
        have := pl_len raw N k hk10
        rw [hrel'.len] at this; omega
      clear hrel'
      by_cases hlt : k < n1 ∧ k < 10
      · obtain ⟨hl1, hl2⟩ := hlt
        obtain ⟨ad, hA, hc, hc1, hc2⟩ := (HN.out.below Hrel.out.bel).get hl1
        subst hA
        have Hb := Lib.hid (own_bs Hrel.out.b (pl_bytes HR.out.by_ N k) (by omega))
        have Hv := Lib.hid (own_bs Hrel.out.v (pl_bytes HR.out.by_ N k) (by omega))
        have hsz := Hrel.out.bel.size
        go_upto_region 7 with fail
        go_cut [13, 14] (fun s13 s14 wx => PlayTwo w wr (pl raw N k ++ six (ix N k)) s13 s14 wx)
        case first =>
          go_region_held3 (fun w' => w'.cell? (ad.add k) = some (.int .i64 (ix N k)) ∧ Below wr.heap.size wr w') (first | exact keepc hc (by (repeat (first | assumption | exact Below.refl _ _ | (with_reducible apply Below.drew) | (with_reducible apply bl_drewN) | (with_reducible apply bl_alloc) | (with_reducible refine bl_then ?_ (by assumption))))) | skip)
            (first
             | (go_at_call 14; refine (num_any B nb cb _ (ix N k) _ Hb.out.drew (by omega)).mono ?_; rintro e w1 ⟨C1, m1, d1, rfl, hm1, ho1, _, hb1⟩)
             | (go_at_call 20; refine (qnumw_any V nb cv _ (ix N k) _ (Hv.out.drew.below hb1) (by omega)).mono ?_; rintro e w2 ⟨C2, m2, d2, rfl, hm2, ho2, _, hb2⟩))
          have hm : m1 = m2 := hm1.out.symm.trans hm2.out
          subst hm
          rename_i hh
          have hbw : Below wr.heap.size wr w2 := hh.2
          go_wp2_with fail
          go_meet
          exact ⟨⟨C1, m1, d1, C2, d2, rfl, rfl, hm1.out, (ho1.below hb2).more (by simpa using hsz), ho2.more (by have := hb1.size; simp at this; omega)⟩, hbw⟩
        case rest =>
          obtain ⟨wa, rfl⟩ : ∃ y : World, y = wc := ⟨_, rfl⟩
          obtain ⟨⟨B1, m1, d1, V1, e1, rfl, rfl, hm1, hob, hov⟩, hbw⟩ := hcut
          have Hbw := Lib.hid hbw
          have Hm1 := Lib.hid hm1
          have hm1b : m1 ≤ 226 := by rw [← hm1, List.length_append, Hrel.out.len]; simp [six]; omega
          have Hob := Lib.hid hob
          have Hov := Lib.hid hov
          have hbel2 : Below w.heap.size w wa := Hrel.out.bel.trans (hbw.mono hsz)
          have Hbel2 := Lib.hid hbel2
          have hsz2 := hbel2.size
          clear hc hm1 hob hov hbw hbel2
          have ha1 := and1 k (by omega)
          by_cases hpar : k % 2 = 1
          · have Hpl := Lib.hid (show pl raw N (k + 1) = (pl raw N k ++ six (ix N k)) ++ six (((raw.take k).length : Nat) : Int) ++ raw.take k by rw [pl, if_pos hpar])
            have hp1 : Go.bits .and .i64 (k : Int) 1 = 1 := by rw [ha1, hpar]; rfl
            obtain ⟨q, hq, hqn, hqt⟩ : ∃ q : Nat, (if k < n then (k : Int) else (n : Int)) = (q : Int) ∧ q ≤ n ∧ raw.take q = raw.take k := by
              by_cases h : k < n
              · exact ⟨k, by rw [if_pos h], by omega, rfl⟩
              · exact ⟨n, by rw [if_neg h], Nat.le_refl _, by rw [List.take_of_length_le (by rw [Hrl.out]; exact Nat.le_refl _), List.take_of_length_le (by rw [Hrl.out]; omega)]⟩
            have b0 : (0 : Int) ≤ (q : Int) := by omega
            have b1 : (q : Int) ≤ (c : Int) := by omega
            have ht := (HR.out.below Hbel2.out).take hqn
            rw [hqt] at ht
            have Ht := Lib.hid ht
            have Hb1 := Lib.hid (own_bs Hob.out (bytes_app Hb.out.by_ (Cod.six_bytes _)) (by omega))
            have Hv1 := Lib.hid (own_bs Hov.out (bytes_app Hb.out.by_ (Cod.six_bytes _)) (by omega))
            clear ha1 ht hqt hpar
            go_wp2_with fail
            go_region_held3 (fun w' => Below wa.heap.size wa w') ((repeat (first | assumption | exact Below.refl _ _ | (with_reducible apply Below.drew) | (with_reducible apply bl_drewN) | (with_reducible apply bl_alloc) | (with_reducible refine bl_then ?_ (by assumption)))))
              (first
               | (go_at_call 18; refine (bytes_any B1 A m1 q d1 c _ _ _ Hb1.out.drew Ht.out.drew (by omega)).mono ?_; rintro e w1 ⟨C1, t1, f1, rfl, ht1, ho1, _, hb1⟩)
               | (go_at_call 21; refine (qbytesw_any V1 A m1 q e1 c _ _ _ (Hv1.out.drew.below hb1) (Ht.out.drew.below hb1) (by omega)).mono ?_; rintro e w2 ⟨C2, t2, f2, rfl, ht2, ho2, _, hb2⟩))
            all_goals
              rename_i hh
              have hm : t1 = t2 := ht1.out.symm.trans ht2.out
              subst hm
              rw [← Hpl.out] at ht1 ho1 ho2
              have Hr2 := Lib.hid (show PlayRel w raw N (k + 1) C1 t1 f1 C2 f2 w2 from ⟨ht1.out, (ho1.below hb2).more (by simpa using hsz2), ho2.more (by have := hb1.size; simp at this; omega), Hbel2.out.trans (hh.mono hsz2)⟩)
              clear ht1 ho1 ho2 hb1 hb2 hh
              go_wp2_with fail
              exact ⟨⟨k + 1, C1, t1, f1, C2, f2, by omega, by omega, by go_num, rfl, rfl, Hr2.out⟩, by simp [intOf]; omega⟩
          · have Hpl := Lib.hid (show pl raw N (k + 1) = pl raw N k ++ six (ix N k) by rw [pl, if_neg hpar])
            have hp1 : Go.bits .and .i64 (k : Int) 1 = 0 := by rw [ha1]; have : k % 2 = 0 := by omega
                                                               rw [this]; rfl
            clear ha1 hpar
            have Hr2 := Lib.hid (show PlayRel w raw N (k + 1) B1 m1 d1 V1 e1 wa from ⟨by rw [Hpl.out]; exact Hm1.out, by rw [Hpl.out]; exact Hob.out, by rw [Hpl.out]; exact Hov.out, Hbel2.out⟩)
            go_wp2_with fail
            exact ⟨⟨k + 1, B1, m1, d1, V1, e1, by omega, by omega, by go_num, rfl, rfl, Hr2.out⟩, by simp [intOf]; omega⟩
      · have Hd := Lib.hid (show PlayDone w raw N (.slice B nb cb) (.slice V nb cv) wr from ⟨k, B, nb, cb, V, cv, hk10, hnb, rfl, rfl, Hrel.out⟩)
        by_cases hk8' : k < 10
        · have hkn' : ¬ k < n1 := fun h => hlt ⟨h, hk8'⟩
          clear hlt
          go_wp2_with fail
          go_meet
          exact Hd.out
        · clear hlt
          go_wp2_with fail
          all_goals go_meet
          all_goals exact Hd.out
  case rest =>
    obtain ⟨wr, rfl⟩ : ∃ y : World, y = wc := ⟨_, rfl⟩
    obtain ⟨k, B, nb, cb, V, cv, hk10, hnb, rfl, rfl, hrel⟩ := hcut
    have Hrel := Lib.hid hrel
    clear hrel
    have Hb := Lib.hid (own_bs Hrel.out.b (pl_bytes HR.out.by_ N k) (by omega))
    have Hv := Lib.hid (own_bs Hrel.out.v (pl_bytes HR.out.by_ N k) (by omega))
    have hcap := Hrel.out.b.cap
    have k1 := conv_str (P := Try.prog) (c := cb) Try.underlying26 Try.underlying5 Try.underlying9 Hb.out
    have k2 := conv_str (P := Try.prog) (c := cv) Try.underlying26 Try.underlying5 Try.underlying9 Hv.out
    obtain ⟨pb, hpb⟩ : ∃ y, y = pl raw N k := ⟨_, rfl⟩
    have Hpl := Lib.hid (show pb.length = nb by rw [hpb]; exact Hrel.out.len)
    have HBW := Lib.hid Hrel.out.bel
    rw [← hpb] at k1 k2 Hb Hv
    clear Hrel hpb
    go_upto_if 77 with (first
      | (at_builtin
         refine wpList_app rfl (.tmp 72) (.tmp 73) 26 rfl Try.underlying26 u8i rfl (by decide) rfl (Own.lit wr [] 5 1 0 (Nat.le_refl _) rfl (by decide)) rfl (Hb.out.alloc _).rd (ints_one _ _) (by omega) (by omega) (by simp) (Nat.zero_add _) (List.nil_append _) ?_
         intro D dc w3 hown3 hg3 _))
    have hb3 : Below wr.heap.size wr w3 := ((Below.refl _ _).alloc (Nat.le_refl _) _).grown hg3 (by simp) (fun j hj => by cases hj; exact Nat.le_refl _)
    have Hown3 := Lib.hid hown3
    have Hb3 := Lib.hid hb3
    clear hown3 hg3 hb3 k1 k2
    go_cut [16] (fun s16 wx => s16 = .slice D nb dc ∧ CDone wr D nb dc wx)
    case first =>
      by_cases h0 : 0 < nb
      · obtain ⟨gd, hD, hgd1, hgd2⟩ := Hown3.out.some h0
        subst hD
        obtain ⟨m, hm, he⟩ := and65535 at_
        obtain ⟨r, hrm, hrl⟩ : ∃ r : Nat, (m : Int) % (nb : Int) = (r : Int) ∧ r < nb := ⟨m % nb, by rw [Int.natCast_emod], Nat.mod_lt _ h0⟩
        have hcl := Hown3.out.cellAt r (by omega)
        rw [ints_get .u8 pb (by rw [Hpl.out]; exact hrl)] at hcl
        have hfr := Hown3.out.frozenAt r
        have hn0 : ((nb : Int) == 0) = false := by simp; omega
        have hby1 := hby.1
        have hby2 := hby.2
        have hst := Lib.hid (show CDone wr (some ⟨gd, 0, none⟩) nb dc (w3.setCell ⟨gd, r, none⟩ (.int .u8 by_)) from cdone_set Hown3.out hby1 hby2 Hb.out.by_ Hpl.out Hb3.out hgd1)
        clear hby
        go_wp2_with fail
        go_meet
        exact ⟨rfl, hst.out⟩
      · have Hst := Lib.hid (show CDone wr D nb dc w3 from ⟨pb, Hown3.out, Hb.out.by_, Hb3.out, Hpl.out⟩)
        go_wp2_with fail
        go_meet
        exact ⟨rfl, Hst.out⟩
    case rest =>
      obtain ⟨wa, rfl⟩ : ∃ y : World, y = wc := ⟨_, rfl⟩
      obtain ⟨rfl, lc, hoc, hbc, hbelc, hlc⟩ := hcut
      have Hoc := Lib.hid hoc
      have Hbc := Lib.hid hbc
      have Hbelc := Lib.hid hbelc
      have Hlc := Lib.hid hlc
      have hcapd := hoc.cap
      clear hoc hbc hbelc hlc Hown3 Hb3
      have HBwa := Lib.hid (HBW.out.trans (Hbelc.out.mono HBW.out.size))
      have Hbwa := Lib.hid (Hb.out.below Hbelc.out)
      have Hrwa := Lib.hid (HR.out.below HBwa.out)
      have hndc : nb ≤ dc := hcapd
      obtain ⟨hf, hfe, hfl⟩ : ∃ q : Nat, (nb : Int) / 2 = (q : Int) ∧ q ≤ nb := ⟨nb / 2, by omega, by omega⟩
      have b0 : (0 : Int) ≤ (hf : Int) := by omega
      have b1 : (hf : Int) ≤ (cb : Int) := by omega
      have hwf : IntKind.i64.wrap (hf : Int) = (hf : Int) := by rw [IntKind.wrap_i64]; omega
      go_wp2_with fail
      (refine wp_region_held_drew (S := fun w' => Below wa.heap.size wa w') (by kernel_rfl) ((by (repeat (first | assumption | exact Below.refl _ _ | (with_reducible apply Below.drew) | (with_reducible apply bl_drewN) | (with_reducible apply bl_alloc) | (with_reducible refine bl_then ?_ (by assumption)))))) (fun hHeld => ?_))
      (refine wpAnyH_take (i := 0) (oi := _) (v := ?_) (ops_at rfl) (by kernel_rfl) (by kernel_rfl) (by kernel_rfl) (fun _ _ _ h => h) (Or.inl ⟨by rfl, ?_⟩) (by assumption) ?_; rotate_left; (focus (intro w hSw; (try dsimp only at hSw); go_simp; (try with_reducible rfl))); (try simp only [Act.put, List.setIfInBounds_toArray, List.set_cons_zero, List.set_cons_succ])); (refine wpAnyH_take (i := 1) (oi := _) (v := ?_) (ops_at rfl) (by kernel_rfl) (by kernel_rfl) (by kernel_rfl) (fun _ _ _ h => h) (Or.inl ⟨by rfl, ?_⟩) (by assumption) ?_; rotate_left; (focus (intro w hSw; (try dsimp only at hSw); go_simp; (try with_reducible rfl))); (try simp only [Act.put, List.setIfInBounds_toArray, List.set_cons_zero, List.set_cons_succ])); (refine wpAnyH_take (i := 2) (oi := _) (v := ?_) (ops_at rfl) (by kernel_rfl) (by kernel_rfl) (by kernel_rfl) (fun _ _ _ h => h) (Or.inl ⟨by rfl, ?_⟩) (by assumption) ?_; rotate_left; (focus (intro w hSw; (try dsimp only at hSw); go_simp; (try with_reducible rfl))); (try simp only [Act.put, List.setIfInBounds_toArray, List.set_cons_zero, List.set_cons_succ])); (refine wpAnyH_take (i := 3) (oi := _) (v := ?_) (ops_at rfl) (by kernel_rfl) (by kernel_rfl) (by kernel_rfl) (fun _ _ _ h => h) (Or.inl ⟨by rfl, ?_⟩) (by assumption) ?_; rotate_left; (focus (intro w hSw; (try dsimp only at hSw); go_simp; (try with_reducible rfl))); (try simp only [Act.put, List.setIfInBounds_toArray, List.set_cons_zero, List.set_cons_succ])); (refine wpAnyH_take (i := 4) (oi := _) (v := ?_) (ops_at rfl) (by kernel_rfl) (by kernel_rfl) (by kernel_rfl) (fun _ _ _ h => h) (Or.inl ⟨by rfl, ?_⟩) (by assumption) ?_; rotate_left; (focus (intro w hSw; (try dsimp only at hSw); go_simp; (try with_reducible rfl))); (try simp only [Act.put, List.setIfInBounds_toArray, List.set_cons_zero, List.set_cons_succ])); (refine wpAnyH_take (i := 5) (oi := _) (v := ?_) (ops_at rfl) (by kernel_rfl) (by kernel_rfl) (by kernel_rfl) (fun _ _ _ h => h) (Or.inl ⟨by rfl, ?_⟩) (by assumption) ?_; rotate_left; (focus (intro w hSw; (try dsimp only at hSw); go_simp; (try with_reducible rfl))); (try simp only [Act.put, List.setIfInBounds_toArray, List.set_cons_zero, List.set_cons_succ])); (refine wpAnyH_take (i := 6) (oi := _) (v := ?_) (ops_at rfl) (by kernel_rfl) (by kernel_rfl) (by kernel_rfl) (fun _ _ _ h => h) (Or.inl ⟨by rfl, ?_⟩) (by assumption) ?_; rotate_left; (focus (intro w hSw; (try dsimp only at hSw); go_simp; (try with_reducible rfl))); (try simp only [Act.put, List.setIfInBounds_toArray, List.set_cons_zero, List.set_cons_succ]))
      (refine wpAnyH_take (i := 7) (oi := _) (v := ?_) (ops_at rfl) (by kernel_rfl) (by kernel_rfl) (by kernel_rfl) (fun _ _ _ h => h) (Or.inl ⟨by rfl, ?_⟩) (by assumption) ?_; rotate_left; (focus (intro w hSw; (try dsimp only at hSw); go_simp; (try with_reducible rfl))); (try simp only [Act.put, List.setIfInBounds_toArray, List.set_cons_zero, List.set_cons_succ])); (refine wpAnyH_take (i := 9) (oi := _) (v := ?_) (ops_at rfl) (by kernel_rfl) (by kernel_rfl) (by kernel_rfl) (fun _ _ _ h => h) (Or.inl ⟨by rfl, ?_⟩) (by assumption) ?_; rotate_left; (focus (intro w hSw; (try dsimp only at hSw); go_simp; (try with_reducible rfl))); (try simp only [Act.put, List.setIfInBounds_toArray, List.set_cons_zero, List.set_cons_succ])); (refine wpAnyH_take (i := 11) (oi := _) (v := ?_) (ops_at rfl) (by kernel_rfl) (by kernel_rfl) (by kernel_rfl) (fun _ _ _ h => h) (Or.inl ⟨by rfl, ?_⟩) (by assumption) ?_; rotate_left; (focus (intro w hSw; (try dsimp only at hSw); go_simp; (try with_reducible rfl))); (try simp only [Act.put, List.setIfInBounds_toArray, List.set_cons_zero, List.set_cons_succ])); (refine wpAnyH_take (i := 15) (oi := _) (v := ?_) (ops_at rfl) (by kernel_rfl) (by kernel_rfl) (by kernel_rfl) (fun _ _ _ h => h) (Or.inl ⟨by rfl, ?_⟩) (by assumption) ?_; rotate_left; (focus (intro w hSw; (try dsimp only at hSw); go_simp; (try with_reducible rfl))); (try simp only [Act.put, List.setIfInBounds_toArray, List.set_cons_zero, List.set_cons_succ]))
      (refine wpAnyH_ready (rs := [8]) (by kernel_rfl) (by simp) (AllReadyH.cons (ops_at rfl) (fun K hK => ?_) AllReadyH.nil); go_simp; skip; refine hK.out _ _ ((by (repeat (first | assumption | exact Below.refl _ _ | (with_reducible apply Below.drew) | (with_reducible apply bl_drewN) | (with_reducible apply bl_alloc) | (with_reducible refine bl_then ?_ (by assumption)))))) (fun hHeld => ?_); clear hK K; (try simp only [Act.put, List.setIfInBounds_toArray, List.set_cons_zero, List.set_cons_succ]))
      (refine wpAnyH_ready (rs := [10]) (by kernel_rfl) (by simp) (AllReadyH.cons (ops_at rfl) (fun K hK => ?_) AllReadyH.nil); rw [if_pos (by rfl)]; refine wp_app (.tmp 94) (.tmp 95) 26 rfl Try.underlying26 u8i rfl (by decide) rfl (Own.lit wa.drew [] 5 1 0 (Nat.le_refl _) rfl (by decide)) rfl (Hbwa.out.below hHeld).rd (ints_one _ _) (by omega) (by omega) (by simp) (Nat.zero_add _) (List.nil_append _) ?_; intro E ec w5 hown5 hg5 _; refine hK.out _ _ ((hHeld.grown hg5 (by simp) (fun j hj => by cases hj; exact Nat.le_refl _))) (fun hHeld => ?_); clear hK K; (try simp only [Act.put, List.setIfInBounds_toArray, List.set_cons_zero, List.set_cons_succ]))
      (refine wpAnyH_ready (rs := [12]) (by kernel_rfl) (by simp) (AllReadyH.cons (ops_at rfl) (fun K hK => ?_) AllReadyH.nil); rw [if_pos (by rfl)]; refine wp_app (.tmp 96) (.tmp 97) 26 rfl Try.underlying26 u8i rfl (by decide) rfl hown5 rfl (Hrwa.out.below hHeld).rd (ints_one _ _) (by omega) (by omega) (by have := hHeld.size; simpa using this) rfl (show ints .u8 pb ++ ints .u8 raw = ints .u8 (pb ++ raw) by simp [ints]) ?_; intro E2 ec2 w6 hown6 hg6 _; refine hK.out _ _ ((hHeld.grown hg6 (by have := hHeld.size; simpa using this) (fun j hj => by have := (hown5.blk j hj).1; simpa using this))) (fun hHeld => ?_); clear hK K; (try simp only [Act.put, List.setIfInBounds_toArray, List.set_cons_zero, List.set_cons_succ]))
      (refine wpAnyH_ready (rs := [13]) (by kernel_rfl) (by simp) (AllReadyH.cons (ops_at rfl) (fun K hK => ?_) AllReadyH.nil); go_simp; skip; refine hK.out _ _ ((by (repeat (first | assumption | exact Below.refl _ _ | (with_reducible apply Below.drew) | (with_reducible apply bl_drewN) | (with_reducible apply bl_alloc) | (with_reducible refine bl_then ?_ (by assumption)))))) (fun hHeld => ?_); clear hK K; (try simp only [Act.put, List.setIfInBounds_toArray, List.set_cons_zero, List.set_cons_succ]))
      (refine wpAnyH_take (i := 14) (oi := _) (v := ?_) (ops_at rfl) (by kernel_rfl) (by kernel_rfl) (by kernel_rfl) (fun _ _ _ h => h) (Or.inl ⟨by rfl, ?_⟩) (by assumption) ?_; rotate_left; (focus (intro w hSw; (try dsimp only at hSw); go_simp; (try with_reducible rfl))); (try simp only [Act.put, List.setIfInBounds_toArray, List.set_cons_zero, List.set_cons_succ]))
      (refine wpAnyH_done (by kernel_rfl) ?_ _)
      have Ha := Lib.hid (own_bs (hown6.alloc (.cells #[.slice A n c, .slice B nb cb, .slice D nb dc, .slice B hf cb, .slice E2 (nb + n) ec2] 26)) (bytes_app Hb.out.by_ HR.out.by_) (by omega))
      have hcape := hown6.cap
      have HbelW := Lib.hid hHeld
      have hW := play_ctx (g := w6.heap.size) rfl (Hrwa.out.below hHeld) (Hbwa.out.below hHeld) ((own_bs Hoc.out Hbc.out (by omega)).below hHeld) hfl Ha.out hnc hcap hndc hcape
      go_wp2_with fail
      refine at_world (fun W => PlayCtx W w6.heap.size ∧ Below w.heap.size w W) ⟨hW, HBwa.out.trans (hHeld.mono HBwa.out.size)⟩ ?_
      rintro W ⟨hW, hbW⟩
      have HW := Lib.hid hW
      have HbW := Lib.hid hbW
      clear hW hbW HbelW Ha hown5 hown6 hg5 hg6 hHeld Hoc Hbc Hbelc Hlc HBwa Hbwa Hrwa Hb Hv Hpl HBW hfe hwf b0 b1 hcap hcapd hndc hcape hfl
      obtain ⟨g5, hg5⟩ : ∃ y, y = w6.heap.size := ⟨_, rfl⟩
      rw [← hg5] at HW ⊢
      clear hg5
      go_loopw [101] (fun i wr => ∃ q : Nat, q ≤ 5 ∧ i = .int .i64 q ∧ Below W.heap.size W wr) (fun i _ => 5 - (intOf i).toNat)
      case atStart => exact ⟨0, by omega, rfl, Below.refl _ _⟩
      case round =>
        obtain ⟨q, hq, rfl, hbel⟩ := hrel
        have Hbel := Lib.hid hbel
        clear hbel
        by_cases hq5 : q < 5
        · obtain ⟨X, nx, cx, l, hcell, hX, hnx⟩ := HW.out.row q hq5
          have hcell2 := (Hbel.out.cell (p := ⟨g5, q, none⟩) HW.out.lt).trans hcell
          have HX := Lib.hid (hX.below Hbel.out)
          have HXlt := Lib.hid hX.lt
          clear hX hcell
          go_wp2_with fail
          refine (read_any X nx cx _ _ HX.out).mono ?_
          rintro e w3 ⟨gr, rfl, hr3, hgr, hb3⟩
          have hgrW : W.heap.size ≤ gr := by have := Hbel.out.size; omega
          have hbel3 : Below W.heap.size W w3 := Hbel.out.trans (hb3.mono Hbel.out.size)
          have Htwo := Lib.hid (two_start hr3 (HX.out.below hb3) hnx HXlt.out hbel3)
          have hgsW : W.heap.size ≤ w3.heap.size := hbel3.size
          have hgne : gr ≠ w3.heap.size := by have := hr3.lt; omega
          clear hr3 hgr hb3 hbel3 hcell2 HX HXlt Hbel
          go_wp2_with fail
          obtain ⟨gs, hgs⟩ : ∃ y, y = w3.heap.size := ⟨_, rfl⟩
          rw [← hgs] at Htwo hgsW hgne ⊢
          clear hgs
          go_loopw [21] (fun i wi => ∃ (j : Nat) (s t : List Int × Bool), j ≤ 20 ∧ i = .int .i64 j ∧ Two W gr gs s t wi) (fun i _ => 20 - (intOf i).toNat)
          case atStart => exact ⟨0, _, _, by omega, rfl, Htwo.out⟩
          case round =>
            clear Htwo
            obtain ⟨j, s, t, hj, rfl, htwo⟩ := hrel
            have Htwo := Lib.hid htwo
            clear htwo
            by_cases hlt : j < n2 ∧ j < n3 ∧ j < 20
            · obtain ⟨x1, x2, x3⟩ := hlt
              obtain ⟨aa, hAA, hcaW, hca1, hca2⟩ := (HA.out.below HbW.out).get x1
              obtain ⟨ab, hAB, hcbW, hcb1, hcb2⟩ := (HB.out.below HbW.out).get x2
              subst hAA hAB
              obtain ⟨hca, -⟩ := keepc hcaW Htwo.out.bel
              have hmk : 0 ≤ Go.bits .and .i64 (ix acts j) 1 ∧ Go.bits .and .i64 (ix acts j) 1 < 2 := mask_bd 1 (by decide) _
              obtain ⟨p, hp⟩ : ∃ p, Go.bits .and .i64 (ix acts j) 1 = p := ⟨_, rfl⟩
              rw [hp] at hmk
              go_upto_if 133 with fail
              go_cut [21] (fun i wx => i = .int .i64 j ∧ ∃ s t : List Int × Bool, Two W gr gs s t wx)
              case first =>
                obtain ⟨ls, bs⟩ := s
                obtain ⟨lt, bt⟩ := t
                by_cases hp0 : p = 0
                · subst hp0
                  obtain ⟨y, s', hr1⟩ : ∃ y s', rbytes (ls, bs) (ix bounds j) = (y, s') := ⟨_, _, rfl⟩
                  have hsb := sim_bytes Htwo.out.sim (ix bounds j)
                  rw [hr1] at hsb
                  obtain ⟨t', hq1⟩ : ∃ t', qbytes (lt, bt) (ix bounds j) = (y, t') := ⟨(qbytes (lt, bt) (ix bounds j)).2, Prod.ext hsb.1.symm rfl⟩
                  rw [hq1] at hsb
                  have Hs2 := Lib.hid hsb.2
                  have Hr1 := Lib.hid hr1
                  have Hq1 := Lib.hid hq1
                  have Hyl := Lib.hid (show y.length ≤ 140737488355328 from rbytes_le Htwo.out.rd hr1)
                  have hHb := Lib.hid Htwo.out.bel
                  clear hsb hr1 hq1 hmk hca hp
                  go_wp2_with fail
                  (refine wp_region_held_drew (S := fun w' => w'.cell? (ab.add j) = some (.int .i64 (ix bounds j)) ∧ Below W.heap.size W w') (by kernel_rfl) ((keepc hcbW hHb.out.drew)) (fun hHeld => ?_))
                  (refine wpAnyH_take (i := 0) (oi := _) (v := ?_) (ops_at rfl) (by kernel_rfl) (by kernel_rfl) (by kernel_rfl) (fun _ _ _ h => h) (Or.inl ⟨by rfl, ?_⟩) (by assumption) ?_; rotate_left; (focus (intro w hSw; (try dsimp only at hSw); go_simp; (try with_reducible rfl))); (try simp only [Act.put, List.setIfInBounds_toArray, List.set_cons_zero, List.set_cons_succ])); (refine wpAnyH_take (i := 1) (oi := _) (v := ?_) (ops_at rfl) (by kernel_rfl) (by kernel_rfl) (by kernel_rfl) (fun _ _ _ h => h) (Or.inl ⟨by rfl, ?_⟩) (by assumption) ?_; rotate_left; (focus (intro w hSw; (try dsimp only at hSw); go_simp; (try with_reducible rfl))); (try simp only [Act.put, List.setIfInBounds_toArray, List.set_cons_zero, List.set_cons_succ])); (refine wpAnyH_take (i := 2) (oi := _) (v := ?_) (ops_at rfl) (by kernel_rfl) (by kernel_rfl) (by kernel_rfl) (fun _ _ _ h => h) (Or.inl ⟨by rfl, ?_⟩) (by assumption) ?_; rotate_left; (focus (intro w hSw; (try dsimp only at hSw); go_simp; (try with_reducible rfl))); (try simp only [Act.put, List.setIfInBounds_toArray, List.set_cons_zero, List.set_cons_succ])); (refine wpAnyH_take (i := 3) (oi := _) (v := ?_) (ops_at rfl) (by kernel_rfl) (by kernel_rfl) (by kernel_rfl) (fun _ _ _ h => h) (Or.inl ⟨by rfl, ?_⟩) (by assumption) ?_; rotate_left; (focus (intro w hSw; (try dsimp only at hSw); go_simp; (try with_reducible rfl))); (try simp only [Act.put, List.setIfInBounds_toArray, List.set_cons_zero, List.set_cons_succ])); (refine wpAnyH_take (i := 4) (oi := _) (v := ?_) (ops_at rfl) (by kernel_rfl) (by kernel_rfl) (by kernel_rfl) (fun _ _ _ h => h) (Or.inl ⟨by rfl, ?_⟩) (by assumption) ?_; rotate_left; (focus (intro w hSw; (try dsimp only at hSw); go_simp; (try with_reducible rfl))); (try simp only [Act.put, List.setIfInBounds_toArray, List.set_cons_zero, List.set_cons_succ])); (refine wpAnyH_take (i := 7) (oi := _) (v := ?_) (ops_at rfl) (by kernel_rfl) (by kernel_rfl) (by kernel_rfl) (fun _ _ _ h => h) (Or.inl ⟨by rfl, ?_⟩) (by assumption) ?_; rotate_left; (focus (intro w hSw; (try dsimp only at hSw); go_simp; (try with_reducible rfl))); (try simp only [Act.put, List.setIfInBounds_toArray, List.set_cons_zero, List.set_cons_succ])); (refine wpAnyH_take (i := 8) (oi := _) (v := ?_) (ops_at rfl) (by kernel_rfl) (by kernel_rfl) (by kernel_rfl) (fun _ _ _ h => h) (Or.inl ⟨by rfl, ?_⟩) (by assumption) ?_; rotate_left; (focus (intro w hSw; (try dsimp only at hSw); go_simp; (try with_reducible rfl))); (try simp only [Act.put, List.setIfInBounds_toArray, List.set_cons_zero, List.set_cons_succ])); (refine wpAnyH_take (i := 9) (oi := _) (v := ?_) (ops_at rfl) (by kernel_rfl) (by kernel_rfl) (by kernel_rfl) (fun _ _ _ h => h) (Or.inl ⟨by rfl, ?_⟩) (by assumption) ?_; rotate_left; (focus (intro w hSw; (try dsimp only at hSw); go_simp; (try with_reducible rfl))); (try simp only [Act.put, List.setIfInBounds_toArray, List.set_cons_zero, List.set_cons_succ])); (refine wpAnyH_take (i := 10) (oi := _) (v := ?_) (ops_at rfl) (by kernel_rfl) (by kernel_rfl) (by kernel_rfl) (fun _ _ _ h => h) (Or.inl ⟨by rfl, ?_⟩) (by assumption) ?_; rotate_left; (focus (intro w hSw; (try dsimp only at hSw); go_simp; (try with_reducible rfl))); (try simp only [Act.put, List.setIfInBounds_toArray, List.set_cons_zero, List.set_cons_succ])); (refine wpAnyH_take (i := 11) (oi := _) (v := ?_) (ops_at rfl) (by kernel_rfl) (by kernel_rfl) (by kernel_rfl) (fun _ _ _ h => h) (Or.inl ⟨by rfl, ?_⟩) (by assumption) ?_; rotate_left; (focus (intro w hSw; (try dsimp only at hSw); go_simp; (try with_reducible rfl))); (try simp only [Act.put, List.setIfInBounds_toArray, List.set_cons_zero, List.set_cons_succ]))
                  (refine wpAnyH_ready (rs := [5]) (by kernel_rfl) (by simp) (AllReadyH.cons (ops_at rfl) (fun K hK => ?_) AllReadyH.nil); go_simp; (with_reducible refine (rbytes_eq gr ls bs (ix bounds j) _ _ Hr1.out Htwo.out.rd.drew).mono ?_; rintro e w4 ⟨⟨A5, n5, c5, rfl, hn5, ho5, _⟩, hrd5, hby5, hon5⟩; have hb5 := below_only hHb.out.drew hon5 (by simpa using hgrW) hHb.out.drew.size); refine hK.out _ _ ((keepc hcbW hb5)) (fun hHeld => ?_); clear hK K; (try simp only [Act.put, List.setIfInBounds_toArray, List.set_cons_zero, List.set_cons_succ]))
                  have hn5e : y.length = n5 := hn5.out
                  have Hq5 := Lib.hid (Htwo.out.q.drew.only hon5 (by simp; omega) (by simpa using hgrW))
                  have Hrd5 := Lib.hid hrd5
                  have Hon5 := Lib.hid hon5
                  have Hy5 := Lib.hid (own_bs ho5 hby5 (by have := Hyl.out; omega))
                  have Hg5 := Lib.hid (show ∀ ad, A5 = some ad → 0 < n5 → ad.block ≠ gs from apart5 ho5 Htwo.out.q.drew.lt)
                  clear ho5 hrd5 hby5 hon5 hn5
                  (refine wpAnyH_ready (rs := [6, 12]) (by kernel_rfl) (by simp) (AllReadyH.cons (ops_at rfl) (fun K hK => ?_) (AllReadyH.cons (ops_at rfl) (fun K hK => ?_) AllReadyH.nil)))
                  · have k1 := conv_str (P := Try.prog) (c := c5) Try.underlying26 Try.underlying5 Try.underlying9 Hy5.out
                    (go_simp; skip; refine hK.out _ _ (hHeld) (fun hHeld => ?_); clear hK K; (try simp only [Act.put, List.setIfInBounds_toArray, List.set_cons_zero, List.set_cons_succ]))
                    (refine wpAnyH_ready (rs := [12]) (by kernel_rfl) (by simp) (AllReadyH.cons (ops_at rfl) (fun K hK => ?_) AllReadyH.nil); go_simp; (with_reducible refine (qbytes_eq W.heap.size gs lt bt (ix bounds j) _ _ Hq1.out Hq5.out).mono ?_; rintro e w6 ⟨⟨A6, n6, c6, rfl, hn6, ho6, _⟩, hrd6, hby6, hon6⟩; have hb6 := below_only hb5 hon6 (by simpa using hgsW) hb5.size); refine hK.out _ _ ((keepc hcbW hb6)) (fun hHeld => ?_); clear hK K; (try simp only [Act.put, List.setIfInBounds_toArray, List.set_cons_zero, List.set_cons_succ]))
                    have hn6e : y.length = n6 := hn6.out
                    have k2 := conv_str (P := Try.prog) (c := c6) Try.underlying26 Try.underlying5 Try.underlying9 (own_bs ho6 hby6 (by have := Hyl.out; omega))
                    (refine wpAnyH_ready (rs := [13]) (by kernel_rfl) (by simp) (AllReadyH.cons (ops_at rfl) (fun K hK => ?_) AllReadyH.nil); go_simp; skip; refine hK.out _ _ (hHeld) (fun hHeld => ?_); clear hK K; (try simp only [Act.put, List.setIfInBounds_toArray, List.set_cons_zero, List.set_cons_succ]))
                    (refine wpAnyH_take (i := 14) (oi := _) (v := ?_) (ops_at rfl) (by kernel_rfl) (by kernel_rfl) (by kernel_rfl) (fun _ _ _ h => h) (Or.inl ⟨by rfl, ?_⟩) (by assumption) ?_; rotate_left; (focus (intro w hSw; (try dsimp only at hSw); go_simp; (try with_reducible rfl))); (try simp only [Act.put, List.setIfInBounds_toArray, List.set_cons_zero, List.set_cons_succ]))
                    (refine wpAnyH_done (by kernel_rfl) ?_ _)
                    have Hst := Lib.hid (show Two W gr gs s' t' w6 from ⟨Hrd5.out.only hon6 (by simpa using hgne) (by simpa using Hq5.out.blk), hrd6, Hs2.out, hb6⟩)
                    clear hn6 ho6 hrd6 hby6 hon6 hb6 k1 k2
                    go_wp2_with fail
                    go_meet
                    exact ⟨rfl, _, _, Hst.out⟩
                  · (go_simp; (with_reducible refine (qbytes_eq W.heap.size gs lt bt (ix bounds j) _ _ Hq1.out Hq5.out).mono ?_; rintro e w6 ⟨⟨A6, n6, c6, rfl, hn6, ho6, _⟩, hrd6, hby6, hon6⟩; have hb6 := below_only hb5 hon6 (by simpa using hgsW) hb5.size); refine hK.out _ _ ((keepc hcbW hb6)) (fun hHeld => ?_); clear hK K; (try simp only [Act.put, List.setIfInBounds_toArray, List.set_cons_zero, List.set_cons_succ]))
                    have hn6e : y.length = n6 := hn6.out
                    have k1 := conv_str (P := Try.prog) (c := c5) Try.underlying26 Try.underlying5 Try.underlying9 (Hy5.out.only hon6 (by simpa using Hg5.out))
                    have k2 := conv_str (P := Try.prog) (c := c6) Try.underlying26 Try.underlying5 Try.underlying9 (own_bs ho6 hby6 (by have := Hyl.out; omega))
                    have Hst := Lib.hid (show Two W gr gs s' t' w6 from ⟨Hrd5.out.only hon6 (by simpa using hgne) (by simpa using Hq5.out.blk), hrd6, Hs2.out, hb6⟩)
                    (refine wpAnyH_ready (rs := [6, 13]) (by kernel_rfl) (by simp) (AllReadyH.cons (ops_at rfl) (fun K hK => ?_) (AllReadyH.cons (ops_at rfl) (fun K hK => ?_) AllReadyH.nil)))
                    · (go_simp; skip; refine hK.out _ _ (hHeld) (fun hHeld => ?_); clear hK K; (try simp only [Act.put, List.setIfInBounds_toArray, List.set_cons_zero, List.set_cons_succ]))
                      (refine wpAnyH_ready (rs := [13]) (by kernel_rfl) (by simp) (AllReadyH.cons (ops_at rfl) (fun K hK => ?_) AllReadyH.nil); go_simp; skip; refine hK.out _ _ (hHeld) (fun hHeld => ?_); clear hK K; (try simp only [Act.put, List.setIfInBounds_toArray, List.set_cons_zero, List.set_cons_succ]))
                      (refine wpAnyH_take (i := 14) (oi := _) (v := ?_) (ops_at rfl) (by kernel_rfl) (by kernel_rfl) (by kernel_rfl) (fun _ _ _ h => h) (Or.inl ⟨by rfl, ?_⟩) (by assumption) ?_; rotate_left; (focus (intro w hSw; (try dsimp only at hSw); go_simp; (try with_reducible rfl))); (try simp only [Act.put, List.setIfInBounds_toArray, List.set_cons_zero, List.set_cons_succ]))
                      (refine wpAnyH_done (by kernel_rfl) ?_ _)
                      clear hn6 ho6 hrd6 hby6 hon6 hb6 k1 k2
                      go_wp2_with fail
                      go_meet
                      exact ⟨rfl, _, _, Hst.out⟩
                    · (go_simp; skip; refine hK.out _ _ (hHeld) (fun hHeld => ?_); clear hK K; (try simp only [Act.put, List.setIfInBounds_toArray, List.set_cons_zero, List.set_cons_succ]))
                      (refine wpAnyH_ready (rs := [6]) (by kernel_rfl) (by simp) (AllReadyH.cons (ops_at rfl) (fun K hK => ?_) AllReadyH.nil); go_simp; skip; refine hK.out _ _ (hHeld) (fun hHeld => ?_); clear hK K; (try simp only [Act.put, List.setIfInBounds_toArray, List.set_cons_zero, List.set_cons_succ]))
                      (refine wpAnyH_take (i := 14) (oi := _) (v := ?_) (ops_at rfl) (by kernel_rfl) (by kernel_rfl) (by kernel_rfl) (fun _ _ _ h => h) (Or.inl ⟨by rfl, ?_⟩) (by assumption) ?_; rotate_left; (focus (intro w hSw; (try dsimp only at hSw); go_simp; (try with_reducible rfl))); (try simp only [Act.put, List.setIfInBounds_toArray, List.set_cons_zero, List.set_cons_succ]))
                      (refine wpAnyH_done (by kernel_rfl) ?_ _)
                      clear hn6 ho6 hrd6 hby6 hon6 hb6 k1 k2
                      go_wp2_with fail
                      go_meet
                      exact ⟨rfl, _, _, Hst.out⟩
                · have hp1 : p = 1 := by omega
                  subst hp1
                  obtain ⟨y, s', hr1⟩ : ∃ y s', rnum (ls, bs) (ix bounds j) = (y, s') := ⟨_, _, rfl⟩
                  have hsb := sim_num Htwo.out.sim (ix bounds j)
                  rw [hr1] at hsb
                  obtain ⟨t', hq1⟩ : ∃ t', qnum (lt, bt) (ix bounds j) = (y, t') := ⟨(qnum (lt, bt) (ix bounds j)).2, Prod.ext hsb.1.symm rfl⟩
                  rw [hq1] at hsb
                  have Hs2 := Lib.hid hsb.2
                  have Hr1 := Lib.hid hr1
                  have Hq1 := Lib.hid hq1
                  have hHb := Lib.hid Htwo.out.bel
                  clear hsb hr1 hq1 hmk hca hp hp0
                  go_wp2_with fail
                  (refine wp_region_held_drew (S := fun w' => w'.cell? (ab.add j) = some (.int .i64 (ix bounds j)) ∧ Below W.heap.size W w') (by kernel_rfl) ((keepc hcbW hHb.out.drew)) (fun hHeld => ?_))
                  (refine wpAnyH_take (i := 0) (oi := _) (v := ?_) (ops_at rfl) (by kernel_rfl) (by kernel_rfl) (by kernel_rfl) (fun _ _ _ h => h) (Or.inl ⟨by rfl, ?_⟩) (by assumption) ?_; rotate_left; (focus (intro w hSw; (try dsimp only at hSw); go_simp; (try with_reducible rfl))); (try simp only [Act.put, List.setIfInBounds_toArray, List.set_cons_zero, List.set_cons_succ])); (refine wpAnyH_take (i := 1) (oi := _) (v := ?_) (ops_at rfl) (by kernel_rfl) (by kernel_rfl) (by kernel_rfl) (fun _ _ _ h => h) (Or.inl ⟨by rfl, ?_⟩) (by assumption) ?_; rotate_left; (focus (intro w hSw; (try dsimp only at hSw); go_simp; (try with_reducible rfl))); (try simp only [Act.put, List.setIfInBounds_toArray, List.set_cons_zero, List.set_cons_succ])); (refine wpAnyH_take (i := 2) (oi := _) (v := ?_) (ops_at rfl) (by kernel_rfl) (by kernel_rfl) (by kernel_rfl) (fun _ _ _ h => h) (Or.inl ⟨by rfl, ?_⟩) (by assumption) ?_; rotate_left; (focus (intro w hSw; (try dsimp only at hSw); go_simp; (try with_reducible rfl))); (try simp only [Act.put, List.setIfInBounds_toArray, List.set_cons_zero, List.set_cons_succ])); (refine wpAnyH_take (i := 3) (oi := _) (v := ?_) (ops_at rfl) (by kernel_rfl) (by kernel_rfl) (by kernel_rfl) (fun _ _ _ h => h) (Or.inl ⟨by rfl, ?_⟩) (by assumption) ?_; rotate_left; (focus (intro w hSw; (try dsimp only at hSw); go_simp; (try with_reducible rfl))); (try simp only [Act.put, List.setIfInBounds_toArray, List.set_cons_zero, List.set_cons_succ])); (refine wpAnyH_take (i := 4) (oi := _) (v := ?_) (ops_at rfl) (by kernel_rfl) (by kernel_rfl) (by kernel_rfl) (fun _ _ _ h => h) (Or.inl ⟨by rfl, ?_⟩) (by assumption) ?_; rotate_left; (focus (intro w hSw; (try dsimp only at hSw); go_simp; (try with_reducible rfl))); (try simp only [Act.put, List.setIfInBounds_toArray, List.set_cons_zero, List.set_cons_succ])); (refine wpAnyH_take (i := 6) (oi := _) (v := ?_) (ops_at rfl) (by kernel_rfl) (by kernel_rfl) (by kernel_rfl) (fun _ _ _ h => h) (Or.inl ⟨by rfl, ?_⟩) (by assumption) ?_; rotate_left; (focus (intro w hSw; (try dsimp only at hSw); go_simp; (try with_reducible rfl))); (try simp only [Act.put, List.setIfInBounds_toArray, List.set_cons_zero, List.set_cons_succ])); (refine wpAnyH_take (i := 7) (oi := _) (v := ?_) (ops_at rfl) (by kernel_rfl) (by kernel_rfl) (by kernel_rfl) (fun _ _ _ h => h) (Or.inl ⟨by rfl, ?_⟩) (by assumption) ?_; rotate_left; (focus (intro w hSw; (try dsimp only at hSw); go_simp; (try with_reducible rfl))); (try simp only [Act.put, List.setIfInBounds_toArray, List.set_cons_zero, List.set_cons_succ])); (refine wpAnyH_take (i := 8) (oi := _) (v := ?_) (ops_at rfl) (by kernel_rfl) (by kernel_rfl) (by kernel_rfl) (fun _ _ _ h => h) (Or.inl ⟨by rfl, ?_⟩) (by assumption) ?_; rotate_left; (focus (intro w hSw; (try dsimp only at hSw); go_simp; (try with_reducible rfl))); (try simp only [Act.put, List.setIfInBounds_toArray, List.set_cons_zero, List.set_cons_succ])); (refine wpAnyH_take (i := 9) (oi := _) (v := ?_) (ops_at rfl) (by kernel_rfl) (by kernel_rfl) (by kernel_rfl) (fun _ _ _ h => h) (Or.inl ⟨by rfl, ?_⟩) (by assumption) ?_; rotate_left; (focus (intro w hSw; (try dsimp only at hSw); go_simp; (try with_reducible rfl))); (try simp only [Act.put, List.setIfInBounds_toArray, List.set_cons_zero, List.set_cons_succ])); (refine wpAnyH_take (i := 10) (oi := _) (v := ?_) (ops_at rfl) (by kernel_rfl) (by kernel_rfl) (by kernel_rfl) (fun _ _ _ h => h) (Or.inl ⟨by rfl, ?_⟩) (by assumption) ?_; rotate_left; (focus (intro w hSw; (try dsimp only at hSw); go_simp; (try with_reducible rfl))); (try simp only [Act.put, List.setIfInBounds_toArray, List.set_cons_zero, List.set_cons_succ]))
                  (refine wpAnyH_ready (rs := [5]) (by kernel_rfl) (by simp) (AllReadyH.cons (ops_at rfl) (fun K hK => ?_) AllReadyH.nil); go_simp; (with_reducible refine (rnum_eq gr ls bs (ix bounds j) _ _ Hr1.out Htwo.out.rd.drew).mono ?_; rintro e w4 ⟨rfl, hrd5, hon5⟩; have hb5 := below_only hHb.out.drew hon5 (by simpa using hgrW) hHb.out.drew.size); refine hK.out _ _ ((keepc hcbW hb5)) (fun hHeld => ?_); clear hK K; (try simp only [Act.put, List.setIfInBounds_toArray, List.set_cons_zero, List.set_cons_succ]))
                  have Hq5 := Lib.hid (Htwo.out.q.drew.only hon5 (by simp; omega) (by simpa using hgrW))
                  have Hrd5 := Lib.hid hrd5
                  clear hrd5 hon5
                  (refine wpAnyH_ready (rs := [11]) (by kernel_rfl) (by simp) (AllReadyH.cons (ops_at rfl) (fun K hK => ?_) AllReadyH.nil); go_simp; (with_reducible refine (qnum_eq W.heap.size gs lt bt (ix bounds j) _ _ Hq1.out Hq5.out).mono ?_; rintro e w6 ⟨rfl, hrd6, hon6⟩; have hb6 := below_only hb5 hon6 (by simpa using hgsW) hb5.size); refine hK.out _ _ ((keepc hcbW hb6)) (fun hHeld => ?_); clear hK K; (try simp only [Act.put, List.setIfInBounds_toArray, List.set_cons_zero, List.set_cons_succ]))
                  (refine wpAnyH_take (i := 12) (oi := _) (v := ?_) (ops_at rfl) (by kernel_rfl) (by kernel_rfl) (by kernel_rfl) (fun _ _ _ h => h) (Or.inl ⟨by rfl, ?_⟩) (by assumption) ?_; rotate_left; (focus (intro w hSw; (try dsimp only at hSw); go_simp; (try with_reducible rfl))); (try simp only [Act.put, List.setIfInBounds_toArray, List.set_cons_zero, List.set_cons_succ]))
                  (refine wpAnyH_done (by kernel_rfl) ?_ _)
                  have Hst := Lib.hid (show Two W gr gs s' t' w6 from ⟨Hrd5.out.only hon6 (by simpa using hgne) (by simpa using Hq5.out.blk), hrd6, Hs2.out, hb6⟩)
                  clear hrd6 hon6 hb6
                  go_wp2_with fail
                  go_meet
                  exact ⟨rfl, _, _, Hst.out⟩
              case rest =>
                obtain ⟨wi, rfl⟩ : ∃ y : World, y = wc := ⟨_, rfl⟩
                obtain ⟨rfl, ⟨ls, bs⟩, ⟨lt, bt⟩, htwo2⟩ := hcut
                have hbb : bs = bt := htwo2.sim.1
                subst hbb
                have Hend := Lib.hid (show (!bs && ls.isEmpty) = (!bs && lt.isEmpty) by
                  cases bs with
                  | true => rfl
                  | false => rw [show ls = lt from htwo2.sim.2 rfl])
                have Htwo2 := Lib.hid htwo2
                have hcs : wi.cell? ⟨gs, 1, none⟩ = some (.bool bs) := htwo2.q.bad
                obtain ⟨be, hbe⟩ : ∃ be : Bool, (!bs && lt.isEmpty) = be := ⟨_, rfl⟩
                have Hbe1 := Lib.hid (Hend.out.trans hbe)
                have Hbe2 := Lib.hid hbe
                clear htwo2 Htwo hbe hp hmk hca
                cases bs
                · go_wp2_with fail
                  go_region_held3 (fun w' => w'.cell? ⟨gs, 1, none⟩ = some (.bool false)) (first | exact hcs | assumption | skip)
                    (first
                     | (go_at_call 16; refine (rok_any gr ls false _ Htwo2.out.rd.drew).mono ?_; rintro e w6 ⟨rfl, rfl⟩)
                     | (go_at_call 15; refine (rend_any gr ls false _ Htwo2.out.rd.drew).mono ?_; rintro e w6 ⟨rfl, rfl⟩; rw [Hbe1.out])
                     | (go_at_call 24; refine (qend_any W.heap.size gs lt false _ Htwo2.out.q.drew).mono ?_; rintro e w6 ⟨rfl, rfl⟩; rw [Hbe2.out]))
                  have Htwo3 := Lib.hid Htwo2.out.drew
                  go_wp2_with fail
                  exact ⟨⟨j + 1, (ls, false), (lt, false), by omega, by go_num, Htwo3.out⟩, by simp [intOf]; omega⟩
                · go_wp2_with fail
                  go_region_held3 (fun w' => w'.cell? ⟨gs, 1, none⟩ = some (.bool true)) (first | exact hcs | assumption | skip)
                    (first
                     | (go_at_call 16; refine (rok_any gr ls true _ Htwo2.out.rd.drew).mono ?_; rintro e w6 ⟨rfl, rfl⟩)
                     | (go_at_call 15; refine (rend_any gr ls true _ Htwo2.out.rd.drew).mono ?_; rintro e w6 ⟨rfl, rfl⟩; rw [Hbe1.out])
                     | (go_at_call 24; refine (qend_any W.heap.size gs lt true _ Htwo2.out.q.drew).mono ?_; rintro e w6 ⟨rfl, rfl⟩; rw [Hbe2.out]))
                  have Htwo3 := Lib.hid Htwo2.out.drew
                  go_wp2_with fail
                  exact ⟨⟨j + 1, (ls, true), (lt, true), by omega, by go_num, Htwo3.out⟩, by simp [intOf]; omega⟩
            · by_cases y1 : j < n2
              · by_cases y2 : j < n3
                · have y3 : ¬ j < 20 := fun h => hlt ⟨y1, y2, h⟩
                  clear hlt
                  go_wp2_with fail
                  exact ⟨⟨q + 1, by omega, by go_num, Htwo.out.bel⟩, by simp [intOf]; omega⟩
                · clear hlt
                  go_wp2_with fail
                  exact ⟨⟨q + 1, by omega, by go_num, Htwo.out.bel⟩, by simp [intOf]; omega⟩
              · clear hlt
                go_wp2_with fail
                exact ⟨⟨q + 1, by omega, by go_num, Htwo.out.bel⟩, by simp [intOf]; omega⟩
        · have HbW2 := Lib.hid (HbW.out.trans (Hbel.out.mono HbW.out.size))
          go_wp2_with (first | (go_at_call 17; refine (awake2_any _).mono ?_; rintro e w6 ⟨rfl, hb6⟩))
          go_ret
          exact ⟨rfl, HbW2.out.trans (hb6.mono HbW2.out.size)⟩

theorem plays_row {A NA AA BA : Option Addr} {n c n1 c1 n2 c2 n3 c3 : Nat} {raw N acts bounds : List Int} {at_ by_ : Int} {w : World} (hr : Came .u8 w A n c raw) (yr : n * 1 ≤ 140737488351232) (hn : Came .i64 w NA n1 c1 N) (yn : n1 * 8 ≤ 140737488351232)
    (ha : Came .i64 w AA n2 c2 acts) (ya : n2 * 8 ≤ 140737488351232) (hb : Came .i64 w BA n3 c3 bounds) (yb : n3 * 8 ≤ 140737488351232) (_ : (Lit.int .i64 at_).wf = true) (hy : (Lit.int .u8 by_).wf = true) (W : World) (hW : W = w) :
    Calls Try.prog 8 #[.slice A n c, .slice NA n1 c1, .slice AA n2 c2, .slice BA n3 c3, .int .i64 at_, .int .u8 by_] W fun e w' => e = .returned (.bool true) ∧ Below W.heap.size W w' := by
  subst hW
  by_cases h : 200 < n
  · exact plays_long A NA AA BA n c n1 c1 n2 c2 n3 c3 at_ by_ W h
  · exact plays_any A NA AA BA n c n1 c1 n2 c2 n3 c3 raw N acts bounds at_ by_ W (came_bytes hr yr) (by omega) hr.le (came_ints hn yn) (came_ints ha ya) (came_ints hb yb) (wf_u8 hy)
end Go.Proofs.Ytdegfbhnilbcfaa
