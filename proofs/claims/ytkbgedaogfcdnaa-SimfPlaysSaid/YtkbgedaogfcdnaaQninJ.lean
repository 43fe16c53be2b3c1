/- The document's files (fettleref9): List. -/
import Derived.Test.YtkbgedaogfcdnaaQninI
namespace Go.Proofs.Ytkbgedaogfcdnaa
set_option linter.unusedSimpArgs false
set_option linter.unusedVariables false
open Go.RowKit
open Crc (Bytes)

/-- Whether a name is in a directory, by what stands ahead of k. -/
def inF (d sl : List UInt8) : Nat → Bool
  | 0 => d == []
  | k + 1 => if sl[k]? = some 47 then (!(d == []) && (sl.take k == d)) else inF d sl k
def inQ (d sl : List UInt8) : Bool := if (!(d == []) && (decide (sl.length ≤ d.length) || !(sl.take d.length == d))) = true then false else inF d sl sl.length
/-- What List answers. -/
structure QList (w : World) (S : Fs) (d : List UInt8) (e : Ending) (w' : World) : Prop where
  ex : ∃ xs A n c, QS S xs ∧ (∀ x ∈ xs, x.nm ∈ okN) ∧ e = .returned (.slice A n c) ∧ n = ((xs.map Qe.key).filter (inQ d)).length ∧ Own w' w.heap.size 9 1 A n c (((xs.map Qe.key).filter (inQ d)).map encStr) ∧ xs.length ≤ 100000
  bel : Below w.heap.size w w'
theorem emp_eq (l : List UInt8) : l.isEmpty = (l == []) := by cases l <;> rfl
theorem inF_no {d sl : List UInt8} {k : Nat} (h : sl[k]? ≠ some 47) : inF d sl (k + 1) = inF d sl k := by
  show (if sl[k]? = some 47 then (!(d == []) && (sl.take k == d)) else inF d sl k) = _
  rw [if_neg h]
theorem inF_yes {d sl : List UInt8} {k : Nat} (h : sl[k]? = some 47) (hd : (d == []) = false) : inF d sl (k + 1) = (sl.take k == d) := by
  show (if sl[k]? = some 47 then (!(d == []) && (sl.take k == d)) else inF d sl k) = _
  rw [if_pos h, hd]; rfl
theorem inF_yes0 {d sl : List UInt8} {k : Nat} (h : sl[k]? = some 47) (hd : (d == []) = true) : inF d sl (k + 1) = false := by
  show (if sl[k]? = some 47 then (!(d == []) && (sl.take k == d)) else inF d sl k) = _
  rw [if_pos h, hd]; rfl
theorem extract_take (s : ByteArray) (k : Nat) : (s.extract 0 k).toList = s.data.toList.take k := by rw [Lib.extract_toList]; simp
theorem len_data (s : ByteArray) : s.data.toList.length = s.size := by simp
section
variable {w : World} {base qb k : Nat} {S : Fs}
set_option maxRecDepth 100000 in
set_option maxHeartbeats 4000000 in
theorem qlist_any (h : QAt w base qb S k) (hk : k ≤ 40000) (dir : ByteArray) (hd : dir.size ≤ 1000) :
    Calls Try.prog 30 #[.pointer (some ⟨qb, 0, none⟩), .string dir] w (QList w S dir.data.toList) := by
  obtain ⟨A0, n0, c0, xs, ho⟩ := h.op (by omega)
  have hl := ho.qb_.row.len
  have hn0 := ho.qb_.n_
  have HO := Lib.hid ho
  obtain ⟨d, hdd⟩ : ∃ d, dir.data.toList = d := ⟨_, rfl⟩
  have HD := Lib.hid hdd
  rw [hdd]
  obtain ⟨ks, hks⟩ : ∃ ks, xs.map Qe.key = ks := ⟨_, rfl⟩
  have HKs := Lib.hid hks
  have hkl : ks.length = n0 := by rw [← hks, List.length_map]; exact hl
  clear ho h hks hdd
  go_enter Try.func30, Try.ntmps30
  go_wp2_with fail
  go_loopw [5, 6] (fun v i wr => ∃ (j : Nat) (A : Option Addr) (c : Nat), j ≤ n0 ∧ i = .int .i64 j ∧ v = .slice A ((ks.take j).filter (inQ d)).length c ∧ Own wr w.heap.size 9 1 A ((ks.take j).filter (inQ d)).length c (((ks.take j).filter (inQ d)).map encStr) ∧ Below w.heap.size w wr) (fun _ i _ => n0 - (intOf i).toNat)
  case atStart => exact ⟨0, none, 0, Nat.zero_le _, rfl, rfl, Own.nil _ _ _ _, Below.refl _ _⟩
  case round =>
    obtain ⟨j, A, c, hj, rfl, rfl, hown, hbel⟩ := hrel
    have HOw := Lib.hid hown
    have Hbel := Lib.hid hbel
    have H2 := Lib.hid (HO.out.qb_.below hbel)
    have cc0 : wr.cell? ⟨qb, 0, none⟩ = some (.slice A0 n0 c0) := H2.out.blk.cell 0
    have hfl := filter_le (inQ d) ks j
    clear hown hbel
    by_cases hlt : j < n0
    · have hlt' : (j : Int) < (n0 : Int) := by omega
      obtain ⟨g, x, rfl, hg, hx, f1, f2, f3, hok⟩ := H2.out.row.get hlt
      have hjk : j < ks.length := by omega
      have hkj : ks[j] = x.key := by
        have h1 := List.getElem?_eq_getElem hjk
        have h2 : ks[j]? = some x.key := by rw [← HKs.out, List.getElem?_map, hx]; rfl
        rw [h1] at h2; injection h2
      have hsn := filter_snoc (inQ d) ks j hjk
      rw [hkj] at hsn
      have Hsn := Lib.hid hsn
      have hxn : x.nm.size ≤ 1000 := by
        have h1 := HO.out.nm x (mem_of_get hx)
        have h2 : ∀ s ∈ okN, s.size ≤ 1000 := by decide
        exact h2 _ h1
      obtain ⟨s, hs⟩ : ∃ s, x.nm = s := ⟨_, rfl⟩
      have HSl := Lib.hid (show x.key = s.data.toList by unfold Qe.key; rw [hs])
      rw [hs] at f1 hxn
      clear hx hok hsn hkj hjk f2 f3 hs
      go_upto_block 2 with fail
      go_cut [8] (fun v wx => v = .bool (inF d s.data.toList s.size) ∧ wx = wr)
      case first =>
        clear f1 cc0 HSl Hsn hfl
        cases hd0 : (dir.toList == [])
        · have Hd0 := Lib.hid (show (d == []) = false by rw [← HD.out, ← ByteArray.toList_eq]; exact hd0)
          have hI0 := Lib.hid (show inF d s.data.toList 0 = false from Hd0.out)
          go_wp2_with fail
          go_loopw [8, 9] (fun v i wr2 => ∃ q : Nat, q ≤ s.size ∧ i = .int .i64 q ∧ v = .bool (inF d s.data.toList q) ∧ wr = wr2) (fun _ i _ => s.size - (intOf i).toNat)
          case atStart => exact ⟨0, Nat.zero_le _, rfl, by rw [hI0.out, emp_eq, hd0], rfl⟩
          case round =>
            obtain ⟨q, hq, rfl, rfl, rfl⟩ := hrel
            by_cases hqs : q < s.size
            · by_cases h47 : s[q] = 47
              · have hIq := Lib.hid (inF_yes (d := d) (sl := s.data.toList) (k := q) (by rw [byte_at hqs, h47]) Hd0.out)
                have e47 : (((s[q].toNat : Nat) : Int) == 47) = true := by rw [h47]; rfl
                have b1 : (q : Int) ≤ (s.size : Int) := by omega
                have hex := Lib.hid (show ((s.extract 0 q).toList == dir.toList) = (s.data.toList.take q == d) by rw [extract_take, ByteArray.toList_eq, HD.out])
                clear h47
                cases hbb : ((s.extract 0 q).toList == dir.toList)
                · have Hbb := Lib.hid (hIq.out.trans (hex.out.symm.trans hbb))
                  go_wp2_with fail
                  exact ⟨⟨q + 1, by omega, by go_num, by rw [Hbb.out], by trivial⟩, by simp [intOf]; omega⟩
                · have Hbb := Lib.hid (hIq.out.trans (hex.out.symm.trans hbb))
                  go_wp2_with fail
                  exact ⟨⟨q + 1, by omega, by go_num, by rw [Hbb.out], by trivial⟩, by simp [intOf]; omega⟩
              · have e47 : (((s[q].toNat : Nat) : Int) == 47) = false := by
                  rw [beq_eq_false_iff_ne]
                  intro e
                  refine h47 (UInt8.toNat_inj.1 ?_)
                  have : s[q].toNat = 47 := by omega
                  rw [this]; rfl
                have hIq := Lib.hid (inF_no (d := d) (sl := s.data.toList) (k := q) (by rw [byte_at hqs]; intro e; injection e with e; exact h47 e))
                clear h47
                go_wp2_with fail
                exact ⟨⟨q + 1, by omega, by go_num, by rw [hIq.out], by trivial⟩, by simp [intOf]; omega⟩
            · have hqe : q = s.size := by omega
              subst hqe
              go_wp2_with fail
              go_meet
              exact ⟨rfl, rfl⟩
        · have Hd0 := Lib.hid (show (d == []) = true by rw [← HD.out, ← ByteArray.toList_eq]; exact hd0)
          have hI0 := Lib.hid (show inF d s.data.toList 0 = true from Hd0.out)
          go_wp2_with fail
          go_loopw [8, 9] (fun v i wr2 => ∃ q : Nat, q ≤ s.size ∧ i = .int .i64 q ∧ v = .bool (inF d s.data.toList q) ∧ wr = wr2) (fun _ i _ => s.size - (intOf i).toNat)
          case atStart => exact ⟨0, Nat.zero_le _, rfl, by rw [hI0.out, emp_eq, hd0], rfl⟩
          case round =>
            obtain ⟨q, hq, rfl, rfl, rfl⟩ := hrel
            by_cases hqs : q < s.size
            · by_cases h47 : s[q] = 47
              · have hIq := Lib.hid (inF_yes0 (d := d) (sl := s.data.toList) (k := q) (by rw [byte_at hqs, h47]) Hd0.out)
                have e47 : (((s[q].toNat : Nat) : Int) == 47) = true := by rw [h47]; rfl
                clear h47
                go_wp2_with fail
                exact ⟨⟨q + 1, by omega, by go_num, by rw [hIq.out], by trivial⟩, by simp [intOf]; omega⟩
              · have e47 : (((s[q].toNat : Nat) : Int) == 47) = false := by
                  rw [beq_eq_false_iff_ne]
                  intro e
                  refine h47 (UInt8.toNat_inj.1 ?_)
                  have : s[q].toNat = 47 := by omega
                  rw [this]; rfl
                have hIq := Lib.hid (inF_no (d := d) (sl := s.data.toList) (k := q) (by rw [byte_at hqs]; intro e; injection e with e; exact h47 e))
                clear h47
                go_wp2_with fail
                exact ⟨⟨q + 1, by omega, by go_num, by rw [hIq.out], by trivial⟩, by simp [intOf]; omega⟩
            · have hqe : q = s.size := by omega
              subst hqe
              go_wp2_with fail
              go_meet
              exact ⟨rfl, rfl⟩
      case rest =>
        obtain ⟨rfl, hwc⟩ := hcut
        subst hwc
        have hqd := Lib.hid (show inQ d s.data.toList = if (!(d == []) && (decide ((s.size : Int) ≤ (dir.size : Int)) || !(s.data.toList.take dir.size == d))) = true then false else inF d s.data.toList s.size by
          unfold inQ
          rw [len_data, show d.length = dir.size by rw [← HD.out, len_data]]
          simp only [Int.ofNat_le])
        obtain ⟨iq, hiq⟩ : ∃ iq, inF d s.data.toList s.size = iq := ⟨_, rfl⟩
        rw [hiq] at hqd ⊢
        clear hiq
        obtain ⟨c64, hc64⟩ : ∃ c64, (!(d == []) && (decide ((s.size : Int) ≤ (dir.size : Int)) || !(s.data.toList.take dir.size == d))) = c64 := ⟨_, rfl⟩
        rw [hc64] at hqd
        have HC := Lib.hid hc64
        clear hc64
        go_upto_region 12 with fail
        go_cut [64] (fun v wx => v = .bool c64 ∧ wx = wc)
        case first =>
          clear f1 cc0 HSl Hsn hfl
          cases hd0 : (dir.toList == [])
          · have Hd0 := show (d == []) = false by rw [← HD.out, ← ByteArray.toList_eq]; exact hd0
            by_cases hsz : (s.size : Int) ≤ (dir.size : Int)
            · have hq2 := Lib.hid (show c64 = true by rw [← HC.out, Hd0, decide_eq_true hsz]; rfl)
              clear Hd0
              go_wp2_with fail
              go_meet
              exact ⟨by rw [hq2.out], rfl⟩
            · have hex := show ((s.extract 0 dir.size).toList == dir.toList) = (s.data.toList.take dir.size == d) by rw [extract_take, ByteArray.toList_eq, HD.out]
              have b1 : (dir.size : Int) ≤ (s.size : Int) := by omega
              cases hbb : ((s.extract 0 dir.size).toList == dir.toList)
              · have hq2 := Lib.hid (show c64 = true by rw [← HC.out, Hd0, ← hex, hbb]; simp)
                clear Hd0 hex
                go_wp2_with fail
                go_meet
                exact ⟨by rw [hq2.out], rfl⟩
              · have hq2 := Lib.hid (show c64 = false by rw [← HC.out, Hd0, ← hex, hbb, decide_eq_false hsz]; rfl)
                clear Hd0 hex
                go_wp2_with fail
                go_meet
                exact ⟨by rw [hq2.out], rfl⟩
          · have Hd0 := show (d == []) = true by rw [← HD.out, ← ByteArray.toList_eq]; exact hd0
            have hq2 := Lib.hid (show c64 = false by rw [← HC.out, Hd0]; rfl)
            clear Hd0
            go_wp2_with fail
            go_meet
            exact ⟨by rw [hq2.out], rfl⟩
        case rest =>
          obtain ⟨rfl, hwc⟩ := hcut
          subst hwc
          go_upto_if 64 with fail
          go_cut [8] (fun v wx => v = .bool (inQ d s.data.toList) ∧ wx = wc)
          case first =>
            clear f1 cc0 HSl Hsn hfl HC
            cases c64
            · have hq2 := Lib.hid (hqd.out.trans (if_neg (by simp)))
              go_wp2_with fail
              go_meet
              exact ⟨by rw [hq2.out], rfl⟩
            · have hq2 := Lib.hid (hqd.out.trans (if_pos rfl))
              go_wp2_with fail
              go_meet
              exact ⟨by rw [hq2.out], rfl⟩
          case rest =>
          obtain ⟨rfl, hwc⟩ := hcut
          subst hwc
          have hsk : inQ d x.key = inQ d s.data.toList := by rw [HSl.out]
          have hwz := Hbel.out.size
          cases hin : inQ d s.data.toList
          · have HIn := Lib.hid (hsk.trans hin)
            clear hsk hin
            go_wp2_with fail
            have e1 : (ks.take (j + 1)).filter (inQ d) = (ks.take j).filter (inQ d) := by rw [Hsn.out, HIn.out]; simp
            exact ⟨⟨j + 1, A, c, by omega, by go_num, by rw [e1], by rw [e1]; exact HOw.out, Hbel.out⟩, by simp [intOf]; omega⟩
          · have HIn := Lib.hid (hsk.trans hin)
            clear hsk hin
            go_wp2_with (at_builtin; refine wpList_app rfl (.tmp 66) (.tmp 68) 47 rfl Try.underlying47 strInfo rfl (by decide) rfl (HOw.out.alloc _) rfl (Rd.lit wc #[.string s] 9 (0, 0) 1 1 rfl) (by simp [Value.oneCell']) (by omega) (by omega) (by simp; omega) rfl (show ((ks.take j).filter (inQ d)).map encStr ++ [Value.string s] = ((ks.take (j + 1)).filter (inQ d)).map encStr by rw [Hsn.out, HIn.out, HSl.out]; simp [encStr]) ?_; intro X xc w2 hx1 hg1 hx2)
            have hfl1 : ((ks.take (j + 1)).filter (inQ d)).length = ((ks.take j).filter (inQ d)).length + 1 := by rw [Hsn.out, HIn.out]; simp
            exact ⟨⟨j + 1, X, xc, by omega, by go_num, by rw [hfl1], by rw [hfl1]; exact hx1, (Hbel.out.alloc hwz _).grown hg1 (by simp; omega) (fun k hk => (HOw.out.blk k hk).1)⟩, by simp [intOf]; omega⟩
    · have hlt' : ¬ (j : Int) < (n0 : Int) := by omega
      have hjn : j = n0 := by omega
      have htk : ks.take j = ks := List.take_of_length_le (by omega)
      rw [htk] at HOw ⊢
      have HKe := Lib.hid htk
      clear htk
      go_wp2_with fail
      go_ret
      exact ⟨⟨xs, A, _, c, HO.out.qs, HO.out.nm, rfl, by rw [HKs.out], by rw [HKs.out]; exact HOw.out, by omega⟩, Hbel.out⟩
end
end Go.Proofs.Ytkbgedaogfcdnaa
