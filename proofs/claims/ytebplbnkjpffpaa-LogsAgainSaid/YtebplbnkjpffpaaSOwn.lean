/- SimfOwn: plain law and walk. -/
import Derived.Test.YtebplbnkjpffpaaSCut
namespace Go.Proofs.Ytebplbnkjpffpaa
set_option linter.unusedSimpArgs false
set_option linter.unusedVariables false
open Go.RowKit
open Crc (Bytes)

/-- The files, and blocks in which no file's bytes lie. -/
structure FsF (w0 w : World) (fb mb : Nat) (S : Fs) (k : Nat) (F : Nat → Prop) : Prop where
  at_ : ∃ n D, n ≤ k ∧ FSAt w fb S mb n D ∧ ∀ g, F g → g < w.heap.size ∧ fb ≠ g ∧ mb ≠ g ∧ Free S D g
  fin : S.fin (2000000000 * k) (100000 * k) k
  hk : k ≤ 5000
  hf : w0.heap.size ≤ fb
  hm : w0.heap.size ≤ mb
  bel : Below w0.heap.size w0 w
section
variable {w0 w w' : World} {fb mb k : Nat} {S : Fs} {F : Nat → Prop}
theorem FsF.toH (h : FsF w0 w fb mb S k F) : FsH w0 w fb mb S k := by
  obtain ⟨n, D, hn, hF, _⟩ := h.at_
  exact ⟨⟨n, D, hn, hF⟩, h.fin, h.hk, h.hf, h.hm, h.bel⟩
theorem FsH.toF (h : FsH w0 w fb mb S k) : FsF w0 w fb mb S k (fun _ => False) := by
  obtain ⟨n, D, hn, hF⟩ := h.at_
  exact ⟨⟨n, D, hn, hF, fun _ h => h.elim⟩, h.fin, h.hk, h.hf, h.hm, h.bel⟩
theorem FsF.below (h : FsF w0 w fb mb S k F) (hb : Below w.heap.size w w') : FsF w0 w' fb mb S k F := by
  obtain ⟨n, D, hn, hF, hg⟩ := h.at_
  exact ⟨⟨n, D, hn, hF.below hb, fun g hgg => by obtain ⟨a, b, c, d⟩ := hg g hgg; exact ⟨by have := hb.size; omega, b, c, d⟩⟩, h.fin, h.hk, h.hf, h.hm, h.bel.trans (hb.mono h.bel.size)⟩
theorem FsF.alloc (h : FsF w0 w fb mb S k F) {o : Obj} : FsF w0 (w.alloc o) fb mb S k F := h.below ((Below.refl _ _).alloc (Nat.le_refl _) o)
/-- A new block is free. -/
theorem FsF.new (h : FsF w0 w fb mb S k F) (hb : Below w.heap.size w w') (g : Nat) (h1 : w.heap.size ≤ g) (h2 : g < w'.heap.size) : FsF w0 w' fb mb S k (fun x => F x ∨ x = g) := by
  obtain ⟨n, D, hn, hF, hg⟩ := h.at_
  have h3 := hF.blk.lt
  have h4 := hF.own.lt
  refine ⟨⟨n, D, hn, hF.below hb, fun x hx => ?_⟩, h.fin, h.hk, h.hf, h.hm, h.bel.trans (hb.mono h.bel.size)⟩
  rcases hx with hx | rfl
  · obtain ⟨a, b, c, d⟩ := hg x hx; exact ⟨by have := hb.size; omega, b, c, d⟩
  · exact ⟨h2, by omega, by omega, hF.new h1⟩
theorem FsF.less (h : FsF w0 w fb mb S k F) {G : Nat → Prop} (hG : ∀ g, G g → F g) : FsF w0 w fb mb S k G := by
  obtain ⟨n, D, hn, hF, hg⟩ := h.at_
  exact ⟨⟨n, D, hn, hF, fun g hgg => hg g (hG g hgg)⟩, h.fin, h.hk, h.hf, h.hm, h.bel⟩
/-- A free block may be turned. -/
theorem FsF.turn (h : FsF w0 w fb mb S k F) {g : Nat} (hg : F g) (ho : Only [g] w w') (hw : w0.heap.size ≤ g) : FsF w0 w' fb mb S k F := by
  obtain ⟨n, D, hn, hF, hfr⟩ := h.at_
  obtain ⟨a, b, c, d⟩ := hfr g hg
  refine ⟨⟨n, D, hn, hF.onlyFree ho b c d, fun x hx => ?_⟩, h.fin, h.hk, h.hf, h.hm, ?_⟩
  · obtain ⟨a', b', c', d'⟩ := hfr x hx; exact ⟨by have := ho.size; omega, b', c', d'⟩
  · exact below_only h.bel ho (by intro x hx; simp at hx; omega) h.bel.size
theorem FsF.done {S' : Fs} (h : FsF w0 w fb mb S k F) (hk : k ≤ 4999) (hf : S'.fin (2000000000 * (k + 1 : Nat)) (100000 * (k + 1 : Nat)) (k + 1 : Nat)) {n : Nat} {D : DataW Value} (hn : n ≤ k) (hd : FsDone w fb mb n S D S' w') (hg : ∀ g, F g → g < w.heap.size ∧ fb ≠ g ∧ mb ≠ g ∧ Free S D g) : FsF w0 w' fb mb S' (k + 1) F := by
  obtain ⟨⟨n', D', hn', hF, hfr⟩, ho⟩ := hd
  refine ⟨⟨n', D', by omega, hF, fun g hgg => ?_⟩, hf, by omega, h.hf, h.hm, ?_⟩
  · obtain ⟨a, b, c, d⟩ := hg g hgg; exact ⟨by have := ho.size; omega, b, c, hfr g a d⟩
  · exact below_only h.bel ho (by intro b hb; simp at hb; rcases hb with e | e <;> rw [e] <;> first | exact h.hf | exact h.hm) h.bel.size
theorem put_f (h : FsF w0 w fb mb S k F) (hk : k ≤ 4999) (s : ByteArray) (l : List Int) (A : Option Addr) (n c : Nat) (hs : s.size ≤ 1000) (hn : n ≤ 100000) (hb : Bs w A n l) :
    Calls Try.prog 13 #[.pointer (some ⟨fb, 0, none⟩), .string s, .slice A n c] w fun e w' => e = .returned (.tuple #[.int .i64 (S.putF s l).1.1, .int .i64 (S.putF s l).1.2]) ∧ FsF w0 w' fb mb (S.putF s l).2 (k + 1) F ∧ Only [fb, mb] w w' := by
  obtain ⟨m, D, hm, hF, hg⟩ := h.at_
  refine (put_any s l A n c (by omega) (by omega) (nMax hm (by omega)) h.toH.ok hF hb).mono ?_
  rintro e w' ⟨rfl, hd⟩
  exact ⟨rfl, h.done hk (h.fin.putF s l (by rw [hb.len]; omega) (by omega) (by omega) (by omega)) hm hd hg, hd.only⟩
theorem append_f (h : FsF w0 w fb mb S k F) (hk : k ≤ 4999) (s : ByteArray) (l : List Int) (gs : List (ByteArray × Int)) (A : Option Addr) (n c : Nat) (Ag : Option Addr) (kg cg : Nat) (hs : s.size ≤ 1000) (hn : n ≤ 100000) (hc : n ≤ c) (hb : Bs w A n l) (hu : U8 w A n) (hgr : Grd w Ag kg gs) :
    Calls Try.prog 28 #[.pointer (some ⟨fb, 0, none⟩), .string s, .slice A n c, .slice Ag kg cg] w fun e w' => e = .returned (.tuple #[.int .i64 (S.appF s l gs).1.1, .int .i64 (S.appF s l gs).1.2]) ∧ FsF w0 w' fb mb (S.appF s l gs).2 (k + 1) F ∧ Only [fb, mb] w w' := by
  obtain ⟨m, D, hm, hF, hg⟩ := h.at_
  refine (append_any s l gs A n c Ag kg cg (by omega) hc (by omega) (nMax hm (by omega)) h.toH.ok h.fin.c0 hF hb hu hgr).mono ?_
  rintro e w' ⟨rfl, hd⟩
  exact ⟨rfl, h.done hk (h.fin.appF s l gs (by rw [hb.len]; omega) (by omega) (by omega)) hm hd hg, hd.only⟩
theorem FsH.free (h : FsH w0 w fb mb S k) (hb : Below w.heap.size w w') (P : Nat → Prop) (hP : ∀ g, P g → w.heap.size ≤ g ∧ g < w'.heap.size) : FsF w0 w' fb mb S k P := by
  obtain ⟨n, D, hn, hF⟩ := h.at_
  have h3 := hF.blk.lt
  have h4 := hF.own.lt
  refine ⟨⟨n, D, hn, hF.below hb, fun x hx => ?_⟩, h.fin, h.hk, h.hf, h.hm, h.bel.trans (hb.mono h.bel.size)⟩
  obtain ⟨a, b⟩ := hP x hx
  exact ⟨b, by omega, by omega, hF.new a⟩
theorem FsF.own (h : FsF w0 w fb mb S k F) {base n c size : Nat} {e : TypeId} {xs : List Value} {A : Option Addr} (hr : Own w base e size A n c xs) (hF : ∀ g, ob A = some g → F g) (ho : Only [fb, mb] w w') : Own w' base e size A n c xs := by
  obtain ⟨_, D, _, _, hg⟩ := h.at_
  refine hr.keep fun g hgg => ?_
  obtain ⟨a, b, c, _⟩ := hg g (hF g hgg)
  exact ho.block g a (by simp; omega)
end

theorem own_turn {w wr : World} {fb mb k g n xc base : Nat} {S : Fs} {L : List Int} (hX : Own wr base 5 1 (some ⟨g, 0, none⟩) n xc (ints .u8 L)) (hF : FsF w wr fb mb S k (fun x => ob (some ⟨g, 0, none⟩) = some x)) (hb : w.heap.size ≤ base) (j : Nat) (v : Int) :
    ∃ L', Own (wr.setCell ⟨g, j, none⟩ (.int .u8 v)) base 5 1 (some ⟨g, 0, none⟩) n xc (ints .u8 L') ∧ FsF w (wr.setCell ⟨g, j, none⟩ (.int .u8 v)) fb mb S k (fun x => ob (some ⟨g, 0, none⟩) = some x) := by
  refine ⟨L.set j v, ?_, hF.turn (g := g) rfl ((Only.refl _ _).setCell (.inl (by simp)) _) (Nat.le_trans hb (hX.blk g rfl).1)⟩
  have h := hX.stored j (.int .u8 v)
  have e : (ints .u8 L).set j (.int .u8 v) = ints .u8 (L.set j v) := by unfold ints; rw [List.map_set]
  rw [e] at h
  exact h

def ow1 (l : List Int) : Fs := ((fs0 1000).putF nA l).2
theorem ow1_eq (l : List Int) (hl : l.length ≤ 200) : (fs0 1000).putF nA l = ((1, 0), (fs0 1000).write nA l) := by
  have hf : fileB nA = true := by kernel_rfl
  have hfit : (fs0 1000).fits nA l.length = true := by
    unfold Fs.fits
    have : (fs0 1000).by nA = [] := rfl
    rw [this]
    have h1 : (fs0 1000).used = 0 := rfl
    have h2 : (fs0 1000).room = 1000 := rfl
    rw [h1, h2]
    simp
    omega
  unfold Fs.putF
  rw [hf, hfit, if_neg (by simp), if_neg (by simp)]
  rfl
def ow2 (l : List Int) : Fs := ((fs0 1000).write nA l).write nA (l ++ l)
theorem ow2_eq (l : List Int) (hl : l.length ≤ 200) : ((fs0 1000).write nA l).appF nA l [(nA, 1)] = ((2, 0), ow2 l) := by
  have hf : fileB nA = true := by kernel_rfl
  have hb : ((fs0 1000).write nA l).bad [(nA, 1)] = false := rfl
  have hby : ((fs0 1000).write nA l).by nA = l := rfl
  have hm : ((fs0 1000).write nA l).mid l.length = (((l.length : Int), 0), (fs0 1000).write nA l) := by
    unfold Fs.mid
    have h1 : ((fs0 1000).write nA l).cuts = false := rfl
    have h2 : ((fs0 1000).write nA l).room = 1000 := rfl
    have h3 : ((fs0 1000).write nA l).used = l.length := by
      show (0 : Int) + ((l.length : Int) - (0 : Int)) = _; omega
    rw [h1, h2, h3, if_neg (by simp), if_neg (by omega)]
  unfold Fs.appF
  rw [hm, hf, hb, hby, if_neg (by simp), if_neg (by simp), if_neg (by simp)]
  simp only [Int.toNat_natCast, List.take_length]
  rfl
theorem ow2_read (l : List Int) : (ow2 l).readF nA = (0, l ++ l, 2) := rfl
theorem ow1_read (l : List Int) : ((fs0 1000).write nA l).readF nA = (0, l, 1) := rfl
theorem ow2_m (l : List Int) (key : List UInt8) : ((ow2 l).m key).isSome = true ↔ key ∈ [([97] : List UInt8)] := by
  show (((((fs0 1000).put nA l 1).put nA (l ++ l) 2).m key).isSome = true ↔ _)
  simp only [Fs.put, fs0, nA, List.mem_singleton]
  by_cases h : key = [97] <;> simp [h]
theorem ow2_ks {l : List Int} {ks : List (List UInt8)} (h : Ks (ow2 l) ks) : ks = [[97]] := ks_eq h (by simp) fun key => (ow2_m l key).symm
set_option maxRecDepth 100000 in
set_option maxHeartbeats 8000000 in
theorem simfown_any (A : Option Addr) (n c : Nat) (l : List Int) (w : World) (hb : Bs w A n l) : Calls Try.prog 6 #[.slice A n c] w fun e w' => e = .returned (.bool true) ∧ Below w.heap.size w w' := by
  have HB := Lib.hid hb
  have hlen := hb.len
  clear hb
  by_cases h200 : 200 < n
  · go_enter Try.func6, Try.ntmps6
    go_wp2_with fail
    refine (awake9_any _).mono ?_
    rintro e w1 ⟨rfl, hb1⟩
    go_wp2_with fail
    go_ret
    exact ⟨rfl, hb1⟩
  have hl200 : l.length ≤ 200 := by omega
  have Hl := Lib.hid hlen
  clear hlen
  go_enter Try.func6, Try.ntmps6
  go_wp2_with fail
  refine (new_h w 1000).mono ?_
  rintro e w1 ⟨fb, mb, rfl, h0⟩
  have H0 := Lib.hid h0
  have HB1 := Lib.hid (HB.out.below h0.bel)
  clear h0
  go_wp2_with (first
    | (at_builtin
       refine wpList_app rfl (.tmp 28) (.tmp 29) 28 rfl Try.underlying28 u8i rfl (by decide) rfl (Own.lit w1 [] 5 1 0 (Nat.le_refl _) rfl (by decide)) rfl (HB1.out.alloc _).rd (ints_one _ _) (by omega) (by omega) (by simp) (Nat.zero_add _) (List.nil_append _) ?_
       intro X xc w3 hown3 hg3 _))
  have hb3 : Below w1.heap.size w1 w3 := ((Below.refl _ _).alloc (Nat.le_refl _) _).grown hg3 (by simp) (fun j hj => by cases hj; exact Nat.le_refl _)
  have HX := Lib.hid hown3
  have H1 := Lib.hid (H0.out.free hb3 (fun g => ob X = some g) (fun g hg => hown3.blk g hg))
  have hw1 := H0.out.bel.size
  clear hown3 hg3 hb3 H0
  go_wp2_with fail
  refine (put_f H1.out (by omega) nA l X n xc (by decide) (by omega) (own_bs HX.out HB.out.by_ (by omega))).mono ?_
  rintro e w4 ⟨rfl, h1, o1⟩
  rw [ow1_eq l hl200] at h1 ⊢
  have HX2 := Lib.hid (H1.out.own HX.out (fun g h => h) o1)
  have H2 := Lib.hid h1
  clear h1 o1 H1 HX
  go_wp2_with fail
  go_loopw [39] (fun i wr => ∃ (k : Nat) (L : List Int), k ≤ n ∧ i = .int .i64 k ∧ Own wr w1.heap.size 5 1 X n xc (ints .u8 L) ∧ FsF w wr fb mb ((fs0 1000).write nA l) (0 + 1) (fun g => ob X = some g)) (fun i _ => n - (intOf i).toNat)
  case atStart => exact ⟨0, l, Nat.zero_le _, rfl, HX2.out, H2.out⟩
  case round =>
    clear HX2 H2
    obtain ⟨k, L, hk, rfl, hX, hF⟩ := hrel; by_cases hlt : k < n; (focus (obtain ⟨g, rfl, hg1, hg2⟩ := hX.some (by omega); have hc := hX.cellAt k (by omega); have hLl : L.length = n := (by have := hX.row.1; rw [ints_len] at this; omega); rw [ints_get .u8 L (by omega)] at hc; have hz := hX.frozenAt k; obtain ⟨v, hv⟩ : ∃ v, L[k] = v := ⟨_, rfl⟩; rw [hv] at hc; have HT := Lib.hid (own_turn hX hF hw1 k ((v + 1) % 256)); clear hX hF hv; go_wp2_with fail; obtain ⟨L2, a, b⟩ := HT.out; exact ⟨⟨k + 1, L2, by omega, by go_num, a, b⟩, by simp [intOf]; omega⟩))
    · have hkn : k = n := by omega
      subst hkn
      have H3 := Lib.hid hF.toH
      clear hX hF hw1
      obtain ⟨wa, rfl⟩ : ∃ y : World, y = wr := ⟨_, rfl⟩
      go_wp2_with fail
      refine (read_h H3.out nA (by decide)).mono ?_
      rintro e w5 ⟨Y, m, yc, rfl, hm, hown, hb⟩
      rw [ow1_read] at hm hown ⊢
      have hm2 : m = k := hm.symm.trans Hl.out
      subst hm2
      have HX2 := Lib.hid hown
      have H2 := Lib.hid (H3.out.free hb (fun g => ob Y = some g) (fun g hg => hown.blk g hg))
      have hw1 := H3.out.bel.size
      clear hm hown hb H3
      go_wp2_with fail
      go_loopw [57] (fun i wx => ∃ (k : Nat) (L : List Int), k ≤ m ∧ i = .int .i64 k ∧ Own wx wa.heap.size 5 1 Y m yc (ints .u8 L) ∧ FsF w wx fb mb ((fs0 1000).write nA l) (0 + 1) (fun g => ob Y = some g)) (fun i _ => m - (intOf i).toNat)
      case atStart => exact ⟨0, l, Nat.zero_le _, rfl, HX2.out, H2.out⟩
      case round =>
        clear HX2 H2
        obtain ⟨k, L, hk, rfl, hX, hF⟩ := hrel; by_cases hlt : k < m; (focus (obtain ⟨g, rfl, hg1, hg2⟩ := hX.some (by omega); have hc := hX.cellAt k (by omega); have hLl : L.length = m := (by have := hX.row.1; rw [ints_len] at this; omega); rw [ints_get .u8 L (by omega)] at hc; have hz := hX.frozenAt k; obtain ⟨v, hv⟩ : ∃ v, L[k] = v := ⟨_, rfl⟩; rw [hv] at hc; have HT := Lib.hid (own_turn hX hF hw1 k ((v + 1) % 256)); clear hX hF hv; go_wp2_with fail; obtain ⟨L2, a, b⟩ := HT.out; exact ⟨⟨k + 1, L2, by omega, by go_num, a, b⟩, by simp [intOf]; omega⟩))
        · have hkn : k = m := by omega
          subst hkn
          have H3 := Lib.hid hF.toH
          clear hX hF hw1
          obtain ⟨wx, rfl⟩ : ∃ y : World, y = wr := ⟨_, rfl⟩
          have HB1 := Lib.hid (HB.out.below H3.out.bel)
          go_wp2_with (first
            | (at_builtin
               refine wpList_app rfl (.tmp 67) (.tmp 68) 28 rfl Try.underlying28 u8i rfl (by decide) rfl (Own.lit wx [] 5 1 0 (Nat.le_refl _) rfl (by decide)) rfl (HB1.out.alloc _).rd (ints_one _ _) (by omega) (by omega) (by simp) (Nat.zero_add _) (List.nil_append _) ?_
               intro Z zc w6 hown3 hg3 _))
          have hb3 : Below wx.heap.size wx w6 := ((Below.refl _ _).alloc (Nat.le_refl _) _).grown hg3 (by simp) (fun j hj => by cases hj; exact Nat.le_refl _)
          have HZ := Lib.hid hown3
          have H4 := Lib.hid (H3.out.free hb3 (fun g => ob Z = some g) (fun g hg => hown3.blk g hg))
          have hw1 := H3.out.bel.size
          clear hown3 hg3 hb3 H3
          go_wp2_with fail
          refine (append_f H4.out.alloc (by omega) nA l [(nA, 1)] Z k zc (some ⟨w6.heap.size, 0, none⟩) 1 1 (by decide) (by omega) HZ.out.cap ((own_bs HZ.out HB.out.by_ (by omega)).alloc _) ((U8.of_own HZ.out).below (bl_alloc (Below.refl _ _))) (Grd.one rfl nA (by decide) 1)).mono ?_
          rintro e w7 ⟨rfl, h1, o1⟩
          rw [ow2_eq l hl200] at h1 ⊢
          have HX2 := Lib.hid (H4.out.alloc.own (HZ.out.alloc _) (fun g h => h) o1)
          have H2 := Lib.hid h1
          clear h1 o1 H4 HZ
          go_wp2_with fail
          go_loopw [81] (fun i wy => ∃ (j : Nat) (L : List Int), j ≤ k ∧ i = .int .i64 j ∧ Own wy wx.heap.size 5 1 Z k zc (ints .u8 L) ∧ FsF w wy fb mb (ow2 l) (0 + 1 + 1) (fun g => ob Z = some g)) (fun i _ => k - (intOf i).toNat)
          case atStart => exact ⟨0, l, Nat.zero_le _, rfl, HX2.out, H2.out⟩
          case round =>
            clear HX2 H2
            obtain ⟨q, rfl⟩ : ∃ q, q = k := ⟨_, rfl⟩
            obtain ⟨k, L, hk, rfl, hX, hF⟩ := hrel; by_cases hlt : k < q; (focus (obtain ⟨g, rfl, hg1, hg2⟩ := hX.some (by omega); have hc := hX.cellAt k (by omega); have hLl : L.length = q := (by have := hX.row.1; rw [ints_len] at this; omega); rw [ints_get .u8 L (by omega)] at hc; have hz := hX.frozenAt k; obtain ⟨v, hv⟩ : ∃ v, L[k] = v := ⟨_, rfl⟩; rw [hv] at hc; have HT := Lib.hid (own_turn hX hF hw1 k ((v + 1) % 256)); clear hX hF hv; go_wp2_with fail; obtain ⟨L2, a, b⟩ := HT.out; exact ⟨⟨k + 1, L2, by omega, by go_num, a, b⟩, by simp [intOf]; omega⟩))
            · have hkn : k = q := by omega
              subst hkn
              have H3 := Lib.hid hF.toH
              clear hX hF hw1
              obtain ⟨wy, rfl⟩ : ∃ y : World, y = wr := ⟨_, rfl⟩
              go_wp2_with fail
              refine (list_h H3.out ⟨#[]⟩ (by decide)).mono ?_
              rintro e w8 ⟨ks, A2, n2, c2, hks, rfl, hn2, hown2, hb2⟩
              rw [ow2_ks hks] at hn2 hown2
              have hf1 : ([[97]] : List (List UInt8)).filter (inB ⟨#[]⟩) = [[97]] := by kernel_rfl
              rw [hf1] at hn2 hown2
              obtain rfl : n2 = 1 := hn2
              obtain ⟨gl, rfl, hgl1, hgl2⟩ := hown2.some (by omega)
              have HX2 := Lib.hid hown2
              have H2 := Lib.hid (H3.out.free hb2 (fun g => gl = g) (fun g hg => by subst hg; exact ⟨hgl1, hgl2⟩))
              have hw1 := H3.out.bel.size
              clear hown2 hb2 H3 hks hf1
              go_wp2_with fail
              go_loopw [95] (fun i wz => ∃ (j : Nat) (xs : List Value), j ≤ 1 ∧ i = .int .i64 j ∧ Own wz wy.heap.size 9 1 (some ⟨gl, 0, none⟩) 1 c2 xs ∧ FsF w wz fb mb (ow2 l) (0 + 1 + 1) (fun g => gl = g)) (fun i _ => 1 - (intOf i).toNat)
              case atStart => exact ⟨0, _, Nat.zero_le _, rfl, HX2.out, H2.out⟩
              case round =>
                clear HX2 H2
                obtain ⟨j, xs, hj, rfl, hX, hF⟩ := hrel
                by_cases hlt : j < 1
                · have hj0 : j = 0 := by omega
                  subst hj0
                  have hz := hX.frozenAt 0
                  have hxl : xs.length = 1 := hX.row.1
                  have hc := hX.cellAt 0 (by omega)
                  rw [List.getElem?_eq_getElem (by omega)] at hc
                  have HT := Lib.hid (show Own (wr.setCell ⟨gl, 0, none⟩ (.string ⟨#[122, 122]⟩)) wy.heap.size 9 1 (some ⟨gl, 0, none⟩) 1 c2 (xs.set 0 (.string ⟨#[122, 122]⟩)) ∧ FsF w (wr.setCell ⟨gl, 0, none⟩ (.string ⟨#[122, 122]⟩)) fb mb (ow2 l) (0 + 1 + 1) (fun g => gl = g) from
                    ⟨hX.stored 0 _, hF.turn (g := gl) rfl ((Only.refl _ _).setCell (.inl (by simp)) _) (Nat.le_trans hw1 hgl1)⟩)
                  clear hX hF
                  go_wp2_with fail
                  obtain ⟨a, b⟩ := HT.out
                  exact ⟨⟨1, _, by omega, by go_num, a, b⟩, by simp [intOf]⟩
                · have hj1 : j = 1 := by omega
                  subst hj1
                  have H3 := Lib.hid hF.toH
                  clear hX hF hw1
                  obtain ⟨wv, rfl⟩ : ∃ y : World, y = wr := ⟨_, rfl⟩
                  go_wp2_with fail
                  refine (read_h H3.out nA (by decide)).mono ?_
                  rintro e w9 ⟨V, m, vc, rfl, hm, hown, hb⟩
                  rw [ow2_read] at hm hown ⊢
                  have hbs := own_bs hown (bytes_app HB.out.by_ HB.out.by_) (by rw [← hm, List.length_append]; omega)
                  have k1 := conv_str (P := Try.prog) (c := vc) Try.underlying28 Try.underlying5 Try.underlying9 hbs
                  have H4 := Lib.hid (H3.out.below hb)
                  have k2 := conv_str (P := Try.prog) (c := c) Try.underlying28 Try.underlying5 Try.underlying9 (HB.out.below H4.out.bel)
                  have hst : str (l ++ l) = str l ++ str l := by
                    apply ByteArray.ext
                    rw [ByteArray.data_append]
                    simp [str]
                  rw [hst] at k1
                  have hss : (str l).size = k := by rw [str_size]; exact Hl.out
                  clear hm hown hb H3 hbs hst
                  go_wp2_with fail
                  refine (list_h H4.out ⟨#[]⟩ (by decide)).mono ?_
                  rintro e w10 ⟨ks, A2, n2, c3, hks, rfl, hn2, hown2, hb2⟩
                  rw [ow2_ks hks] at hn2
                  have hf1 : ([[97]] : List (List UInt8)).filter (inB ⟨#[]⟩) = [[97]] := by kernel_rfl
                  rw [hf1] at hn2
                  obtain rfl : n2 = 1 := hn2
                  have H5 := Lib.hid (H4.out.below hb2)
                  clear hown2 hb2 H4 hks hf1 k1 k2
                  go_wp2_with fail
                  refine (list_h H5.out ⟨#[]⟩ (by decide)).mono ?_
                  rintro e w11 ⟨ks, A3, n2, c4, hks, rfl, hn2, hown2, hb2⟩
                  rw [ow2_ks hks] at hn2 hown2
                  have hf1 : ([[97]] : List (List UInt8)).filter (inB ⟨#[]⟩) = [[97]] := by kernel_rfl
                  rw [hf1] at hn2 hown2
                  obtain rfl : n2 = 1 := hn2
                  obtain ⟨gm, rfl, hgm1, hgm2⟩ := hown2.some (by omega)
                  have hc : w11.cell? ⟨gm, 0, none⟩ = some (.string ⟨#[97]⟩) := hown2.cellAt 0 (by omega)
                  have H6 := Lib.hid (H5.out.below hb2)
                  clear hown2 hb2 H5 hks hf1
                  go_wp2_with fail
                  refine (awake9_any _).mono ?_
                  rintro e w12 ⟨rfl, hb12⟩
                  have Hb := Lib.hid (H6.out.bel.trans (hb12.mono H6.out.bel.size))
                  clear hb12 H6 hc
                  go_wp2_with fail
                  go_ret
                  exact ⟨rfl, Hb.out⟩
theorem simfown_row {A : Option Addr} {n c : Nat} {b : List Int} {w : World} (hb : Came .u8 w A n c b) (yb : n * 1 ≤ 140737488351232) (W : World) (hW : W = w) :
    Calls Try.prog 6 #[.slice A n c] W fun e w' => e = .returned (.bool true) ∧ Below W.heap.size W w' := by
  subst hW
  exact simfown_any A n c b W (came_bytes hb yb)
end Go.Proofs.Ytebplbnkjpffpaa
