/- The document's files (fettleref9): where a name stands, how much there is, stamps, bytes, guards. -/
import Derived.Test.YtkbgedaogfcdnaaQninA
namespace Go.Proofs.Ytkbgedaogfcdnaa
set_option linter.unusedSimpArgs false
set_option linter.unusedVariables false
open Go.RowKit
open Crc (Bytes)

/-- The block and its row. -/
structure QB (W : World) (base qb : Nat) (A : Option Addr) (n c : Nat) (xs : List Qe) (room last cut : Int) : Prop where
  blk : Blk W qb 56 [.slice A n c, .int .i64 room, .int .i64 last, .int .i64 cut]
  row : QRow W base A n c xs
  n_ : n ≤ 100000
theorem qsum_take_le (xs : List Qe) (k : Nat) : qsum (xs.take k) ≤ qsum xs := by
  have e : qsum xs = qsum (xs.take k) + qsum (xs.drop k) := by rw [← qsum_app, List.take_append_drop]
  have := qsum_nonneg (xs.drop k)
  omega
theorem qsum_snoc {xs : List Qe} {k : Nat} {x : Qe} (h : xs[k]? = some x) : qsum (xs.take (k + 1)) = qsum (xs.take k) + (x.b.length : Int) := by
  obtain ⟨hk, rfl⟩ := List.getElem?_eq_some_iff.1 h
  rw [List.take_succ_eq_append_getElem hk, qsum_app]
  simp [qsum]
theorem nm_eq {a b : ByteArray} : (a.toList == b.toList) = decide (a = b) := by
  rw [Bool.eq_iff_iff, beq_iff_eq, decide_eq_true_eq, ByteArray.toList_eq, ByteArray.toList_eq]
  exact ⟨key_eq, fun e => by rw [e]⟩
section
variable {w : World} {base qb n c : Nat} {A : Option Addr} {xs : List Qe} {room last cut : Int}
set_option maxRecDepth 100000 in
set_option maxHeartbeats 1000000 in
theorem qat_any (s : ByteArray) (h : QB w base qb A n c xs room last cut) :
    Calls Try.prog 32 #[.pointer (some ⟨qb, 0, none⟩), .string s] w fun e w' => ∃ r, e = .returned (.int .i64 r) ∧ QIdx xs s r ∧ w = w' := by
  have c0 : w.cell? ⟨qb, 0, none⟩ = some (.slice A n c) := h.blk.cell 0
  have hl := h.row.len
  have hn := h.n_
  have H := Lib.hid h
  clear h
  go_enter Try.func32, Try.ntmps32
  go_wp2_with fail
  go_loopw [5] (fun i wr => ∃ k : Nat, k ≤ n ∧ i = .int .i64 k ∧ w = wr ∧ Hid (∀ (j : Nat) (y : Qe), j < k → xs[j]? = some y → y.nm ≠ s)) (fun i _ => n - (intOf i).toNat)
  case atStart => exact ⟨0, Nat.zero_le _, rfl, rfl, Lib.hid fun j y hj => absurd hj (by omega)⟩
  case round =>
    obtain ⟨k, hk, rfl, rfl, hno⟩ := hrel
    by_cases hlt : k < n
    · have hlt' : (k : Int) < (n : Int) := by omega
      obtain ⟨g, x, rfl, hg, hx, f1, f2, f3, hok⟩ := H.out.row.get hlt
      have HX := Lib.hid hx
      clear hx hok
      by_cases he : x.nm = s
      · have hb : (x.nm.toList == s.toList) = true := by rw [nm_eq]; simp [he]
        have He := Lib.hid he
        clear he
        go_wp2_with fail
        go_ret
        exact ⟨k, rfl, .inr ⟨k, x, rfl, HX.out, He.out⟩, by trivial⟩
      · have hb : (x.nm.toList == s.toList) = false := by rw [nm_eq]; simp [he]
        have He := Lib.hid he
        clear he
        go_wp2_with fail
        refine ⟨⟨k + 1, by omega, by go_num, by trivial, Lib.hid fun j y hj hy => ?_⟩, by simp [intOf]; omega⟩
        by_cases hjk : j = k
        · subst hjk; rw [HX.out] at hy; injection hy with hy; rw [← hy]; exact He.out
        · exact hno.out j y (by omega) hy
    · have hlt' : ¬ (k : Int) < (n : Int) := by omega
      go_wp2_with fail
      go_ret
      refine ⟨-1, rfl, .inl ⟨rfl, fun x hx => ?_⟩, rfl⟩
      obtain ⟨j, hj⟩ := List.mem_iff_getElem?.1 hx
      have := (List.getElem?_eq_some_iff.1 hj).1
      exact hno.out j x (by omega) hj
set_option maxRecDepth 100000 in
set_option maxHeartbeats 1000000 in
theorem qused_any (h : QB w base qb A n c xs room last cut) (hu : qsum xs ≤ 70368744177664) :
    Calls Try.prog 27 #[.pointer (some ⟨qb, 0, none⟩)] w fun e w' => e = .returned (.int .i64 (qsum xs)) ∧ w = w' := by
  have c0 : w.cell? ⟨qb, 0, none⟩ = some (.slice A n c) := h.blk.cell 0
  have hl := h.row.len
  have hn := h.n_
  have H := Lib.hid h
  clear h
  go_enter Try.func27, Try.ntmps27
  go_wp2_with fail
  go_loopw [3, 4] (fun v i wr => ∃ k : Nat, k ≤ n ∧ i = .int .i64 k ∧ v = .int .i64 (qsum (xs.take k)) ∧ w = wr) (fun _ i _ => n - (intOf i).toNat)
  case atStart => exact ⟨0, Nat.zero_le _, rfl, by simp [qsum], rfl⟩
  case round =>
    obtain ⟨k, hk, rfl, rfl, rfl⟩ := hrel
    by_cases hlt : k < n
    · have hlt' : (k : Int) < (n : Int) := by omega
      obtain ⟨g, x, rfl, hg, hx, f1, f2, f3, hok⟩ := H.out.row.get hlt
      have hsn := qsum_snoc hx
      have hbn := hok.bs.len
      have h1 := qsum_take_le xs (k + 1)
      have h2 := qsum_nonneg (xs.take k)
      obtain ⟨v, hv⟩ : ∃ v, qsum (xs.take k) = v := ⟨_, rfl⟩
      rw [hv] at hsn h2 ⊢
      have Hs := Lib.hid hsn
      have hle : v + (x.n : Int) ≤ 70368744177664 := by omega
      clear hx hok hsn hv
      go_wp2_with fail
      exact ⟨⟨k + 1, by omega, by go_num, by rw [Hs.out, hbn], by trivial⟩, by simp [intOf]; omega⟩
    · have hlt' : ¬ (k : Int) < (n : Int) := by omega
      have hv : qsum (xs.take k) = qsum xs := by rw [List.take_of_length_le (by omega)]
      rw [hv]
      go_wp2_with fail
      go_ret
      exact ⟨rfl, rfl⟩
set_option maxRecDepth 100000 in
set_option maxHeartbeats 1000000 in
theorem qstamp_any (s : ByteArray) {S : Fs} (hS : QS S xs) (h : QB w base qb A n c xs room last cut) :
    Calls Try.prog 8 #[.pointer (some ⟨qb, 0, none⟩), .string s] w fun e w' => e = .returned (.int .i64 (S.st s)) ∧ w = w' := by
  have c0 : w.cell? ⟨qb, 0, none⟩ = some (.slice A n c) := h.blk.cell 0
  have hl := h.row.len
  have hn := h.n_
  have H := Lib.hid h
  have HS := Lib.hid hS
  clear h hS
  go_enter Try.func8, Try.ntmps8
  go_wp2_with fail
  refine (qat_any s H.out).mono ?_
  rintro e w' ⟨r, rfl, hr, rfl⟩
  rcases hr with ⟨rfl, hno⟩ | ⟨i, x, rfl, hx, he⟩
  · have Hn := Lib.hid (HS.out.no hno)
    clear hno
    go_wp2_with fail
    go_ret
    exact ⟨by rw [Hn.out.2.2]; rfl, rfl⟩
  · have hi := (List.getElem?_eq_some_iff.1 hx).1
    obtain ⟨g, x2, rfl, hg, hx2, f1, f2, f3, hok⟩ := H.out.row.get (show i < n by omega)
    rw [hx] at hx2
    injection hx2 with hx2
    subst hx2
    have Hn := Lib.hid (HS.out.is (mem_of_get hx) he)
    have hlt' : (i : Int) < (n : Int) := by omega
    clear hx he hok
    go_wp2_with fail
    go_ret
    exact ⟨by rw [Hn.out.2.2]; rfl, rfl⟩
set_option maxRecDepth 100000 in
set_option maxHeartbeats 1000000 in
theorem qhas_any (s : ByteArray) {S : Fs} (hS : QS S xs) (h : QB w base qb A n c xs room last cut) :
    Calls Try.prog 44 #[.pointer (some ⟨qb, 0, none⟩), .string s] w fun e w' => (∃ B d, e = .returned (.slice B (S.by s).length d) ∧ Bs w B (S.by s).length (S.by s) ∧ U8 w B (S.by s).length ∧ (S.by s).length ≤ d) ∧ w = w' := by
  have c0 : w.cell? ⟨qb, 0, none⟩ = some (.slice A n c) := h.blk.cell 0
  have hl := h.row.len
  have hn := h.n_
  have H := Lib.hid h
  have HS := Lib.hid hS
  clear h hS
  go_enter Try.func44, Try.ntmps44
  go_wp2_with fail
  refine (qat_any s H.out).mono ?_
  rintro e w' ⟨r, rfl, hr, rfl⟩
  rcases hr with ⟨rfl, hno⟩ | ⟨i, x, rfl, hx, he⟩
  · have Hn := Lib.hid (HS.out.no hno)
    clear hno
    go_wp2_with fail
    go_ret
    rw [Hn.out.2.1]
    exact ⟨⟨none, 0, rfl, Bs.nil _ _, (fun ad h => by cases h), Nat.le_refl _⟩, rfl⟩
  · have hi := (List.getElem?_eq_some_iff.1 hx).1
    obtain ⟨g, x2, rfl, hg, hx2, f1, f2, f3, hok⟩ := H.out.row.get (show i < n by omega)
    rw [hx] at hx2
    injection hx2 with hx2
    subst hx2
    have Hn := Lib.hid (HS.out.is (mem_of_get hx) he)
    have Hok := Lib.hid hok
    have hlt' : (i : Int) < (n : Int) := by omega
    clear hx he hok
    go_wp2_with fail
    go_ret
    rw [Hn.out.2.1, Hok.out.bs.len]
    exact ⟨⟨x.A, x.c, rfl, Hok.out.bs, Hok.out.u8, Hok.out.cap⟩, rfl⟩
theorem QB.below {W W' : World} (h : QB W base qb A n c xs room last cut) (hb : Below W.heap.size W W') : QB W' base qb A n c xs room last cut := ⟨h.blk.below hb, h.row.below hb, h.n_⟩
theorem QB.drew {W : World} (h : QB W base qb A n c xs room last cut) : QB W.drew base qb A n c xs room last cut := h.below (Below.refl _ _).drew
set_option maxRecDepth 100000 in
set_option maxHeartbeats 1000000 in
theorem qfits_any (s : ByteArray) (a : Nat) {S : Fs} (hS : QS S xs) (h : QB w base qb A n c xs S.room last cut) (hu : S.used ≤ 70368744177664) (ha : a ≤ 70368744177664) (hl : ((S.by s).length : Int) ≤ S.used) :
    Calls Try.prog 39 #[.pointer (some ⟨qb, 0, none⟩), .string s, .int .i64 a] w fun e w' => e = .returned (.bool (S.fits s a)) ∧ Below w.heap.size w w' := by
  have c1 : w.cell? ⟨qb, 1, none⟩ = some (.int .i64 S.room) := h.blk.cell 1
  obtain ⟨room, hroom⟩ : ∃ room, S.room = room := ⟨_, rfl⟩
  have H := Lib.hid h
  have HS := Lib.hid hS
  have hu2 : qsum xs ≤ 70368744177664 := by rw [← hS.used]; exact hu
  have hl2 : ((S.by s).length : Int) ≤ qsum xs := by rw [← hS.used]; exact hl
  have HF := Lib.hid (show S.fits s a = (decide ((a : Int) - ((S.by s).length : Int) ≤ 0) || decide (qsum xs + ((a : Int) - ((S.by s).length : Int)) ≤ room)) by unfold Fs.fits; rw [hS.used, hroom])
  rw [hroom] at c1 H
  obtain ⟨L, hL⟩ : ∃ L, (S.by s).length = L := ⟨_, rfl⟩
  obtain ⟨u, hu3⟩ : ∃ u, qsum xs = u := ⟨_, rfl⟩
  rw [hL] at hl2 HF
  rw [hu3] at hl2 HF hu2
  have HL := Lib.hid hL
  have HU := Lib.hid hu3
  have hu9 := Lib.hid (show qsum xs ≤ 70368744177664 by rw [hu3]; exact hu2)
  clear h hS hu hl hroom hL hu3
  go_enter Try.func39, Try.ntmps39
  go_upto_region 1 with fail
  by_cases h1 : (a : Int) ≤ (L : Int)
  · have d1 : decide ((a : Int) ≤ (L : Int)) = true := decide_eq_true h1
    (refine wp_region_held_drew (S := fun w' => w'.cell? ⟨qb, 1, none⟩ = some (.int .i64 room)) (by kernel_rfl) (c1) (fun hHeld => ?_))
    (refine wpAnyH_take (i := 0) (oi := _) (v := ?_) (ops_at rfl) (by kernel_rfl) (by kernel_rfl) (by kernel_rfl) (fun _ _ _ h => h) (Or.inl ⟨by rfl, ?_⟩) (by assumption) ?_; rotate_left; (focus (intro w hSw; (try dsimp only at hSw); go_simp; (try with_reducible rfl))); (try simp only [Act.put, List.setIfInBounds_toArray, List.set_cons_zero, List.set_cons_succ])); (refine wpAnyH_take (i := 1) (oi := _) (v := ?_) (ops_at rfl) (by kernel_rfl) (by kernel_rfl) (by kernel_rfl) (fun _ _ _ h => h) (Or.inl ⟨by rfl, ?_⟩) (by assumption) ?_; rotate_left; (focus (intro w hSw; (try dsimp only at hSw); go_simp; (try with_reducible rfl))); (try simp only [Act.put, List.setIfInBounds_toArray, List.set_cons_zero, List.set_cons_succ])); (refine wpAnyH_take (i := 2) (oi := _) (v := ?_) (ops_at rfl) (by kernel_rfl) (by kernel_rfl) (by kernel_rfl) (fun _ _ _ h => h) (Or.inl ⟨by rfl, ?_⟩) (by assumption) ?_; rotate_left; (focus (intro w hSw; (try dsimp only at hSw); go_simp; (try with_reducible rfl))); (try simp only [Act.put, List.setIfInBounds_toArray, List.set_cons_zero, List.set_cons_succ]))
    (refine wpAnyH_ready (rs := [3]) (by kernel_rfl) (by simp) (AllReadyH.cons (ops_at rfl) (fun K hK => ?_) AllReadyH.nil); go_simp; (refine (qhas_any s HS.out H.out.drew).mono ?_; rintro e w' ⟨⟨B, d, rfl, -, -, -⟩, rfl⟩; rw [HL.out]); refine hK.out _ _ (hHeld) (fun hHeld => ?_); clear hK K; (try simp only [Act.put, List.setIfInBounds_toArray, List.set_cons_zero, List.set_cons_succ]))
    (refine wpAnyH_take (i := 4) (oi := _) (v := ?_) (ops_at rfl) (by kernel_rfl) (by kernel_rfl) (by kernel_rfl) (fun _ _ _ h => h) (Or.inl ⟨by rfl, ?_⟩) (by assumption) ?_; rotate_left; (focus (intro w hSw; (try dsimp only at hSw); go_simp; (try with_reducible rfl))); (try simp only [Act.put, List.setIfInBounds_toArray, List.set_cons_zero, List.set_cons_succ])); (refine wpAnyH_take (i := 5) (oi := _) (v := ?_) (ops_at rfl) (by kernel_rfl) (by kernel_rfl) (by kernel_rfl) (fun _ _ _ h => h) (Or.inl ⟨by rfl, ?_⟩) (by assumption) ?_; rotate_left; (focus (intro w hSw; (try dsimp only at hSw); go_simp; (try with_reducible rfl))); (try simp only [Act.put, List.setIfInBounds_toArray, List.set_cons_zero, List.set_cons_succ])); (refine wpAnyH_take (i := 6) (oi := _) (v := ?_) (ops_at rfl) (by kernel_rfl) (by kernel_rfl) (by kernel_rfl) (fun _ _ _ h => h) (Or.inl ⟨by rfl, ?_⟩) (by assumption) ?_; rotate_left; (focus (intro w hSw; (try dsimp only at hSw); go_simp; (try with_reducible rfl))); (try simp only [Act.put, List.setIfInBounds_toArray, List.set_cons_zero, List.set_cons_succ]))
    (refine wpAnyH_take (i := 7) (oi := _) (v := undef) (ops_at rfl) (by kernel_rfl) (by kernel_rfl) (by kernel_rfl) (fun _ _ _ h => h) (Or.inr ⟨by rfl, rfl⟩) (by assumption) ?_; (try simp only [Act.put, List.setIfInBounds_toArray, List.set_cons_zero, List.set_cons_succ])); (refine wpAnyH_take (i := 8) (oi := _) (v := undef) (ops_at rfl) (by kernel_rfl) (by kernel_rfl) (by kernel_rfl) (fun _ _ _ h => h) (Or.inr ⟨by rfl, rfl⟩) (by assumption) ?_; (try simp only [Act.put, List.setIfInBounds_toArray, List.set_cons_zero, List.set_cons_succ])); (refine wpAnyH_take (i := 9) (oi := _) (v := undef) (ops_at rfl) (by kernel_rfl) (by kernel_rfl) (by kernel_rfl) (fun _ _ _ h => h) (Or.inr ⟨by rfl, rfl⟩) (by assumption) ?_; (try simp only [Act.put, List.setIfInBounds_toArray, List.set_cons_zero, List.set_cons_succ])); (refine wpAnyH_take (i := 10) (oi := _) (v := undef) (ops_at rfl) (by kernel_rfl) (by kernel_rfl) (by kernel_rfl) (fun _ _ _ h => h) (Or.inr ⟨by rfl, rfl⟩) (by assumption) ?_; (try simp only [Act.put, List.setIfInBounds_toArray, List.set_cons_zero, List.set_cons_succ])); (refine wpAnyH_take (i := 11) (oi := _) (v := undef) (ops_at rfl) (by kernel_rfl) (by kernel_rfl) (by kernel_rfl) (fun _ _ _ h => h) (Or.inr ⟨by rfl, rfl⟩) (by assumption) ?_; (try simp only [Act.put, List.setIfInBounds_toArray, List.set_cons_zero, List.set_cons_succ])); (refine wpAnyH_take (i := 12) (oi := _) (v := undef) (ops_at rfl) (by kernel_rfl) (by kernel_rfl) (by kernel_rfl) (fun _ _ _ h => h) (Or.inr ⟨by rfl, rfl⟩) (by assumption) ?_; (try simp only [Act.put, List.setIfInBounds_toArray, List.set_cons_zero, List.set_cons_succ])); (refine wpAnyH_take (i := 13) (oi := _) (v := undef) (ops_at rfl) (by kernel_rfl) (by kernel_rfl) (by kernel_rfl) (fun _ _ _ h => h) (Or.inr ⟨by rfl, rfl⟩) (by assumption) ?_; (try simp only [Act.put, List.setIfInBounds_toArray, List.set_cons_zero, List.set_cons_succ])); (refine wpAnyH_take (i := 14) (oi := _) (v := undef) (ops_at rfl) (by kernel_rfl) (by kernel_rfl) (by kernel_rfl) (fun _ _ _ h => h) (Or.inr ⟨by rfl, rfl⟩) (by assumption) ?_; (try simp only [Act.put, List.setIfInBounds_toArray, List.set_cons_zero, List.set_cons_succ])); (refine wpAnyH_take (i := 15) (oi := _) (v := undef) (ops_at rfl) (by kernel_rfl) (by kernel_rfl) (by kernel_rfl) (fun _ _ _ h => h) (Or.inr ⟨by rfl, rfl⟩) (by assumption) ?_; (try simp only [Act.put, List.setIfInBounds_toArray, List.set_cons_zero, List.set_cons_succ])); (refine wpAnyH_take (i := 16) (oi := _) (v := undef) (ops_at rfl) (by kernel_rfl) (by kernel_rfl) (by kernel_rfl) (fun _ _ _ h => h) (Or.inr ⟨by rfl, rfl⟩) (by assumption) ?_; (try simp only [Act.put, List.setIfInBounds_toArray, List.set_cons_zero, List.set_cons_succ])); (refine wpAnyH_take (i := 17) (oi := _) (v := undef) (ops_at rfl) (by kernel_rfl) (by kernel_rfl) (by kernel_rfl) (fun _ _ _ h => h) (Or.inr ⟨by rfl, rfl⟩) (by assumption) ?_; (try simp only [Act.put, List.setIfInBounds_toArray, List.set_cons_zero, List.set_cons_succ])); (refine wpAnyH_take (i := 18) (oi := _) (v := undef) (ops_at rfl) (by kernel_rfl) (by kernel_rfl) (by kernel_rfl) (fun _ _ _ h => h) (Or.inr ⟨by rfl, rfl⟩) (by assumption) ?_; (try simp only [Act.put, List.setIfInBounds_toArray, List.set_cons_zero, List.set_cons_succ])); (refine wpAnyH_take (i := 19) (oi := _) (v := undef) (ops_at rfl) (by kernel_rfl) (by kernel_rfl) (by kernel_rfl) (fun _ _ _ h => h) (Or.inr ⟨by rfl, rfl⟩) (by assumption) ?_; (try simp only [Act.put, List.setIfInBounds_toArray, List.set_cons_zero, List.set_cons_succ])); (refine wpAnyH_take (i := 20) (oi := _) (v := undef) (ops_at rfl) (by kernel_rfl) (by kernel_rfl) (by kernel_rfl) (fun _ _ _ h => h) (Or.inr ⟨by rfl, rfl⟩) (by assumption) ?_; (try simp only [Act.put, List.setIfInBounds_toArray, List.set_cons_zero, List.set_cons_succ]))
    (refine wpAnyH_take (i := 21) (oi := _) (v := ?_) (ops_at rfl) (by kernel_rfl) (by kernel_rfl) (by kernel_rfl) (fun _ _ _ h => h) (Or.inl ⟨by rfl, ?_⟩) (by assumption) ?_; rotate_left; (focus (intro w hSw; (try dsimp only at hSw); go_simp; (try with_reducible rfl))); (try simp only [Act.put, List.setIfInBounds_toArray, List.set_cons_zero, List.set_cons_succ])); (refine wpAnyH_take (i := 22) (oi := _) (v := ?_) (ops_at rfl) (by kernel_rfl) (by kernel_rfl) (by kernel_rfl) (fun _ _ _ h => h) (Or.inl ⟨by rfl, ?_⟩) (by assumption) ?_; rotate_left; (focus (intro w hSw; (try dsimp only at hSw); go_simp; (try with_reducible rfl))); (try simp only [Act.put, List.setIfInBounds_toArray, List.set_cons_zero, List.set_cons_succ]))
    (refine wpAnyH_done (by kernel_rfl) ?_ _)
    go_wp2_with fail
    go_ret
    exact ⟨by rw [HF.out]; simp; omega, (Below.refl _ _).drew⟩
  · have d1 : decide ((a : Int) ≤ (L : Int)) = false := decide_eq_false h1
    have hw1 : IntKind.i64.wrap (u - (L : Int)) = u - (L : Int) := by rw [IntKind.wrap_i64]; omega
    have hw2 : IntKind.i64.wrap (u - (L : Int) + (a : Int)) = u - (L : Int) + (a : Int) := by rw [IntKind.wrap_i64]; omega
    (refine wp_region_held_drew (S := fun w' => w'.cell? ⟨qb, 1, none⟩ = some (.int .i64 room)) (by kernel_rfl) (c1) (fun hHeld => ?_))
    (refine wpAnyH_take (i := 0) (oi := _) (v := ?_) (ops_at rfl) (by kernel_rfl) (by kernel_rfl) (by kernel_rfl) (fun _ _ _ h => h) (Or.inl ⟨by rfl, ?_⟩) (by assumption) ?_; rotate_left; (focus (intro w hSw; (try dsimp only at hSw); go_simp; (try with_reducible rfl))); (try simp only [Act.put, List.setIfInBounds_toArray, List.set_cons_zero, List.set_cons_succ])); (refine wpAnyH_take (i := 1) (oi := _) (v := ?_) (ops_at rfl) (by kernel_rfl) (by kernel_rfl) (by kernel_rfl) (fun _ _ _ h => h) (Or.inl ⟨by rfl, ?_⟩) (by assumption) ?_; rotate_left; (focus (intro w hSw; (try dsimp only at hSw); go_simp; (try with_reducible rfl))); (try simp only [Act.put, List.setIfInBounds_toArray, List.set_cons_zero, List.set_cons_succ])); (refine wpAnyH_take (i := 2) (oi := _) (v := ?_) (ops_at rfl) (by kernel_rfl) (by kernel_rfl) (by kernel_rfl) (fun _ _ _ h => h) (Or.inl ⟨by rfl, ?_⟩) (by assumption) ?_; rotate_left; (focus (intro w hSw; (try dsimp only at hSw); go_simp; (try with_reducible rfl))); (try simp only [Act.put, List.setIfInBounds_toArray, List.set_cons_zero, List.set_cons_succ]))
    (refine wpAnyH_ready (rs := [3]) (by kernel_rfl) (by simp) (AllReadyH.cons (ops_at rfl) (fun K hK => ?_) AllReadyH.nil); go_simp; (refine (qhas_any s HS.out H.out.drew).mono ?_; rintro e w' ⟨⟨B, d, rfl, -, -, -⟩, rfl⟩; rw [HL.out]); refine hK.out _ _ (hHeld) (fun hHeld => ?_); clear hK K; (try simp only [Act.put, List.setIfInBounds_toArray, List.set_cons_zero, List.set_cons_succ]))
    (refine wpAnyH_take (i := 4) (oi := _) (v := ?_) (ops_at rfl) (by kernel_rfl) (by kernel_rfl) (by kernel_rfl) (fun _ _ _ h => h) (Or.inl ⟨by rfl, ?_⟩) (by assumption) ?_; rotate_left; (focus (intro w hSw; (try dsimp only at hSw); go_simp; (try with_reducible rfl))); (try simp only [Act.put, List.setIfInBounds_toArray, List.set_cons_zero, List.set_cons_succ])); (refine wpAnyH_take (i := 5) (oi := _) (v := ?_) (ops_at rfl) (by kernel_rfl) (by kernel_rfl) (by kernel_rfl) (fun _ _ _ h => h) (Or.inl ⟨by rfl, ?_⟩) (by assumption) ?_; rotate_left; (focus (intro w hSw; (try dsimp only at hSw); go_simp; (try with_reducible rfl))); (try simp only [Act.put, List.setIfInBounds_toArray, List.set_cons_zero, List.set_cons_succ])); (refine wpAnyH_take (i := 6) (oi := _) (v := ?_) (ops_at rfl) (by kernel_rfl) (by kernel_rfl) (by kernel_rfl) (fun _ _ _ h => h) (Or.inl ⟨by rfl, ?_⟩) (by assumption) ?_; rotate_left; (focus (intro w hSw; (try dsimp only at hSw); go_simp; (try with_reducible rfl))); (try simp only [Act.put, List.setIfInBounds_toArray, List.set_cons_zero, List.set_cons_succ])); (refine wpAnyH_take (i := 7) (oi := _) (v := ?_) (ops_at rfl) (by kernel_rfl) (by kernel_rfl) (by kernel_rfl) (fun _ _ _ h => h) (Or.inl ⟨by rfl, ?_⟩) (by assumption) ?_; rotate_left; (focus (intro w hSw; (try dsimp only at hSw); go_simp; (try with_reducible rfl))); (try simp only [Act.put, List.setIfInBounds_toArray, List.set_cons_zero, List.set_cons_succ])); (refine wpAnyH_take (i := 9) (oi := _) (v := ?_) (ops_at rfl) (by kernel_rfl) (by kernel_rfl) (by kernel_rfl) (fun _ _ _ h => h) (Or.inl ⟨by rfl, ?_⟩) (by assumption) ?_; rotate_left; (focus (intro w hSw; (try dsimp only at hSw); go_simp; (try with_reducible rfl))); (try simp only [Act.put, List.setIfInBounds_toArray, List.set_cons_zero, List.set_cons_succ])); (refine wpAnyH_take (i := 10) (oi := _) (v := ?_) (ops_at rfl) (by kernel_rfl) (by kernel_rfl) (by kernel_rfl) (fun _ _ _ h => h) (Or.inl ⟨by rfl, ?_⟩) (by assumption) ?_; rotate_left; (focus (intro w hSw; (try dsimp only at hSw); go_simp; (try with_reducible rfl))); (try simp only [Act.put, List.setIfInBounds_toArray, List.set_cons_zero, List.set_cons_succ])); (refine wpAnyH_take (i := 14) (oi := _) (v := ?_) (ops_at rfl) (by kernel_rfl) (by kernel_rfl) (by kernel_rfl) (fun _ _ _ h => h) (Or.inl ⟨by rfl, ?_⟩) (by assumption) ?_; rotate_left; (focus (intro w hSw; (try dsimp only at hSw); go_simp; (try with_reducible rfl))); (try simp only [Act.put, List.setIfInBounds_toArray, List.set_cons_zero, List.set_cons_succ])); (refine wpAnyH_take (i := 16) (oi := _) (v := ?_) (ops_at rfl) (by kernel_rfl) (by kernel_rfl) (by kernel_rfl) (fun _ _ _ h => h) (Or.inl ⟨by rfl, ?_⟩) (by assumption) ?_; rotate_left; (focus (intro w hSw; (try dsimp only at hSw); go_simp; (try with_reducible rfl))); (try simp only [Act.put, List.setIfInBounds_toArray, List.set_cons_zero, List.set_cons_succ])); (refine wpAnyH_take (i := 17) (oi := _) (v := ?_) (ops_at rfl) (by kernel_rfl) (by kernel_rfl) (by kernel_rfl) (fun _ _ _ h => h) (Or.inl ⟨by rfl, ?_⟩) (by assumption) ?_; rotate_left; (focus (intro w hSw; (try dsimp only at hSw); go_simp; (try with_reducible rfl))); (try simp only [Act.put, List.setIfInBounds_toArray, List.set_cons_zero, List.set_cons_succ])); (refine wpAnyH_take (i := 18) (oi := _) (v := ?_) (ops_at rfl) (by kernel_rfl) (by kernel_rfl) (by kernel_rfl) (fun _ _ _ h => h) (Or.inl ⟨by rfl, ?_⟩) (by assumption) ?_; rotate_left; (focus (intro w hSw; (try dsimp only at hSw); go_simp; (try with_reducible rfl))); (try simp only [Act.put, List.setIfInBounds_toArray, List.set_cons_zero, List.set_cons_succ])); (refine wpAnyH_take (i := 19) (oi := _) (v := ?_) (ops_at rfl) (by kernel_rfl) (by kernel_rfl) (by kernel_rfl) (fun _ _ _ h => h) (Or.inl ⟨by rfl, ?_⟩) (by assumption) ?_; rotate_left; (focus (intro w hSw; (try dsimp only at hSw); go_simp; (try with_reducible rfl))); (try simp only [Act.put, List.setIfInBounds_toArray, List.set_cons_zero, List.set_cons_succ]))
    (refine wpAnyH_ready (rs := [8]) (by kernel_rfl) (by simp) (AllReadyH.cons (ops_at rfl) (fun K hK => ?_) AllReadyH.nil); go_simp; (refine (qused_any H.out.drew hu9.out).mono ?_; rintro e w' ⟨rfl, rfl⟩; rw [HU.out]); refine hK.out _ _ (hHeld) (fun hHeld => ?_); clear hK K; (try simp only [Act.put, List.setIfInBounds_toArray, List.set_cons_zero, List.set_cons_succ]))
    (refine wpAnyH_ready (rs := [11]) (by kernel_rfl) (by simp) (AllReadyH.cons (ops_at rfl) (fun K hK => ?_) AllReadyH.nil); go_simp; (refine (qhas_any s HS.out H.out.drew).mono ?_; rintro e w' ⟨⟨B2, d2, rfl, -, -, -⟩, rfl⟩; rw [HL.out]); refine hK.out _ _ (hHeld) (fun hHeld => ?_); clear hK K; (try simp only [Act.put, List.setIfInBounds_toArray, List.set_cons_zero, List.set_cons_succ]))
    (refine wpAnyH_take (i := 12) (oi := _) (v := ?_) (ops_at rfl) (by kernel_rfl) (by kernel_rfl) (by kernel_rfl) (fun _ _ _ h => h) (Or.inl ⟨by rfl, ?_⟩) (by assumption) ?_; rotate_left; (focus (intro w hSw; (try dsimp only at hSw); go_simp; (try with_reducible rfl))); (try simp only [Act.put, List.setIfInBounds_toArray, List.set_cons_zero, List.set_cons_succ])); (refine wpAnyH_take (i := 13) (oi := _) (v := ?_) (ops_at rfl) (by kernel_rfl) (by kernel_rfl) (by kernel_rfl) (fun _ _ _ h => h) (Or.inl ⟨by rfl, ?_⟩) (by assumption) ?_; rotate_left; (focus (intro w hSw; (try dsimp only at hSw); go_simp; (try with_reducible rfl))); (try simp only [Act.put, List.setIfInBounds_toArray, List.set_cons_zero, List.set_cons_succ])); (refine wpAnyH_take (i := 15) (oi := _) (v := ?_) (ops_at rfl) (by kernel_rfl) (by kernel_rfl) (by kernel_rfl) (fun _ _ _ h => h) (Or.inl ⟨by rfl, ?_⟩) (by assumption) ?_; rotate_left; (focus (intro w hSw; (try dsimp only at hSw); go_simp; (try with_reducible rfl))); (try simp only [Act.put, List.setIfInBounds_toArray, List.set_cons_zero, List.set_cons_succ])); (refine wpAnyH_take (i := 20) (oi := _) (v := ?_) (ops_at rfl) (by kernel_rfl) (by kernel_rfl) (by kernel_rfl) (fun _ _ _ h => h) (Or.inl ⟨by rfl, ?_⟩) (by assumption) ?_; rotate_left; (focus (intro w hSw; (try dsimp only at hSw); go_simp; (try with_reducible rfl))); (try simp only [Act.put, List.setIfInBounds_toArray, List.set_cons_zero, List.set_cons_succ])); (refine wpAnyH_take (i := 21) (oi := _) (v := ?_) (ops_at rfl) (by kernel_rfl) (by kernel_rfl) (by kernel_rfl) (fun _ _ _ h => h) (Or.inl ⟨by rfl, ?_⟩) (by assumption) ?_; rotate_left; (focus (intro w hSw; (try dsimp only at hSw); go_simp; (try with_reducible rfl))); (try simp only [Act.put, List.setIfInBounds_toArray, List.set_cons_zero, List.set_cons_succ])); (refine wpAnyH_take (i := 22) (oi := _) (v := ?_) (ops_at rfl) (by kernel_rfl) (by kernel_rfl) (by kernel_rfl) (fun _ _ _ h => h) (Or.inl ⟨by rfl, ?_⟩) (by assumption) ?_; rotate_left; (focus (intro w hSw; (try dsimp only at hSw); go_simp; (try with_reducible rfl))); (try simp only [Act.put, List.setIfInBounds_toArray, List.set_cons_zero, List.set_cons_succ]))
    (refine wpAnyH_done (by kernel_rfl) ?_ _)
    go_wp2_with fail
    go_ret
    have hdd : decide (u - (L : Int) + (a : Int) ≤ room) = decide (u + ((a : Int) - (L : Int)) ≤ room) := by rw [show u - (L : Int) + (a : Int) = u + ((a : Int) - (L : Int)) by omega]
    refine ⟨?_, (Below.refl _ _).drew⟩
    rw [HF.out, decide_eq_false (by omega : ¬ ((a : Int) - (L : Int) ≤ 0)), Bool.false_or, ← hdd]
    rfl
end
end Go.Proofs.Ytkbgedaogfcdnaa
