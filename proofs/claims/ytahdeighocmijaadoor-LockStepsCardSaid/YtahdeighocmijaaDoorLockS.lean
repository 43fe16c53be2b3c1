/- Locks: LockSteps. -/
import Derived.Test.YtahdeighocmijaaDoorAwake13
import Derived.Test.YtahdeighocmijaaDoorInts
namespace Go.Proofs.YtahdeighocmijaaDoor
set_option linter.unusedSimpArgs false
set_option linter.unusedVariables false
open Go.RowKit
open Crc (Bytes)
open Cod (six held)
theorem madeT_full {now : Int} {S : Fs} {t : Tk} (hm : S.makeF t.file (t.new now 1).bytes = ((0, 2), S)) : madeT now S t = (4, Tk.end_ { t with l := t.new now 1 } 4, S) := by
  unfold madeT; rw [hm, if_neg (by simp), if_neg (by simp)]; rfl
theorem putT_full {now : Int} {S : Fs} {t : Tk} (hm : S.putF t.temp (t.new now (t.l.epoch + 1)).bytes = ((0, 2), S)) : putT now S t = (4, Tk.end_ { t with l := t.new now (t.l.epoch + 1) } 4, S) := by
  unfold putT; rw [hm, if_pos (by simp)]; rfl
/-- Nobody has it, and there is no room. -/
theorem take_none_full {F : ByteArray} {R : Int} {S : Fs} (h : LC F R S none) (hF : fileB F = true) (hFs : F.size ≤ 1000) (tp : ByteArray) (who inc lease now : Int) (hp : tp.size ≤ 1000) (h0 : 0 ≤ lease) (h1 : lease ≤ 1000000) (hR : R < 34) :
    ∃ X t, TRun now S (tk0 F tp who inc lease) 2 X 4 t S := by
  have hr := readF_none hF h.c
  have hw := tk0_wf (F := F) (who := who) (inc := inc) hFs hp h0 h1
  have hm : S.makeF F (Lk.bytes ⟨who, inc, 1, clampN now + lease⟩) = ((0, 2), S) :=
    makeF_full hF h.c (by rw [Lk.bytes_len]; omega) (by rw [h.used, h.room, Lk.bytes_len]; show R < (0 : Int) + (34 : Nat); omega)
  refine ⟨Y4 (0, tk0 F tp who inc lease, S) (0, { tk0 F tp who inc lease with at_ := 1 }, S) (4, Tk.end_ { tk0 F tp who inc lease with at_ := 1, l := ⟨who, inc, 1, clampN now + lease⟩ } 4, S) (0, tk0 F tp who inc lease, S), _, ⟨by omega, by omega, rfl, ?_, ?_, ?_, rfl, by decide, rfl, rfl⟩⟩
  · intro q hq
    have : q = 0 ∨ q = 1 := by omega
    rcases this with rfl | rfl
    · exact stepT_none (S := S) (t := tk0 F tp who inc lease) rfl hr
    · exact (stepT_1 (S := S) (t := { tk0 F tp who inc lease with at_ := 1 }) rfl).trans (madeT_full (S := S) (t := { tk0 F tp who inc lease with at_ := 1 }) hm)
  · intro q hq
    have : q = 0 ∨ q = 1 := by omega
    rcases this with rfl | rfl <;> rfl
  · intro q hq
    have : q = 0 ∨ q = 1 ∨ q = 2 := by omega
    rcases this with rfl | rfl | rfl
    · exact hw
    · exact ⟨hw.f, hw.p, hw.g, (fun e => by cases e), h0, h1, .inr (.inl rfl)⟩
    · exact ⟨hw.f, hw.p, hw.g, (fun e => by cases e), h0, h1, by simp [Y4, Tk.end_]⟩
/-- It is open, and there is no room. -/
theorem take_open_full {F : ByteArray} {R : Int} {S : Fs} {c : List Int} {st : Int} (h : LC F R S (some (c, st))) (hF : fileB F = true) (hFs : F.size ≤ 1000) (tp : ByteArray) (who inc lease now : Int) (hp : tp.size ≤ 1000) (h0 : 0 ≤ lease) (h1 : lease ≤ 1000000) (l : Lk) (ho : lookL (openLk c) who inc (clampN now) = (l, 3)) (hl0 : 0 ≤ l.epoch) (hl1 : l.epoch ≤ 1099511627776)
    (hf : fileB tp = true) (hn : tp.data.toList ≠ F.data.toList) (hu : R < (c.length : Int) + 34) :
    ∃ X t, TRun now S (tk0 F tp who inc lease) 2 X 4 t S := by
  have hw := tk0_wf (F := F) (who := who) (inc := inc) hFs hp h0 h1
  have hs := take_read h hF tp who inc lease now l 3 ho
  rw [if_neg (by decide), if_pos rfl] at hs
  have hm : S.putF tp (Lk.bytes ⟨who, inc, l.epoch + 1, clampN now + lease⟩) = ((0, 2), S) :=
    putF_full hf (h.no _ hn) (by rw [Lk.bytes_len]; omega) (by rw [h.used, h.room, Lk.bytes_len]; show R < (c.length : Int) + (34 : Nat); omega)
  refine ⟨Y4 (0, tk0 F tp who inc lease, S) (0, { tk0 F tp who inc lease with l := l, gn := F, gs := st, at_ := 2 }, S) (4, Tk.end_ { tk0 F tp who inc lease with l := ⟨who, inc, l.epoch + 1, clampN now + lease⟩, gn := F, gs := st, at_ := 2 } 4, S) (0, tk0 F tp who inc lease, S), _, ⟨by omega, by omega, rfl, fun q hq => ?_, fun q hq => ?_, fun q hq => ?_, rfl, by decide, rfl, rfl⟩⟩
  · have : q = 0 ∨ q = 1 := by omega
    rcases this with rfl | rfl
    · exact hs
    · exact (stepT_2 (S := S) (t := { tk0 F tp who inc lease with l := l, gn := F, gs := st, at_ := 2 }) rfl).trans (putT_full (S := S) (t := { tk0 F tp who inc lease with l := l, gn := F, gs := st, at_ := 2 }) hm)
  · have : q = 0 ∨ q = 1 := by omega
    rcases this with rfl | rfl <;> rfl
  · have : q = 0 ∨ q = 1 ∨ q = 2 := by omega
    rcases this with rfl | rfl | rfl
    · exact hw
    · exact ⟨hw.f, hw.p, hw.f, fun _ => ⟨hl0, hl1⟩, h0, h1, .inr (.inr (.inl rfl))⟩
    · exact ⟨hw.f, hw.p, hw.f, (fun e => by cases e), h0, h1, by simp [Y4, Tk.end_]⟩
/-- As much room as is used. -/
theorem LC.less {F : ByteArray} {R : Int} {S : Fs} {C : Option (List Int × Int)} (h : LC F R S C) (h0 : 0 ≤ tl C) (h1 : tl C ≤ 1073741824) : LC F (tl C) { S with room := roomOf S.used } C :=
  ⟨h.c, h.no, h.cuts, (by show roomOf S.used = tl C; rw [h.used]; unfold roomOf; omega), h.used, h.ts, h.l0⟩
/-- What lies there at first. -/
def noLock : List Int := [110, 111, 32, 108, 111, 99, 107]
def fileL (q : Nat) (now : Int) : List Int := if q = 1 then Lk.bytes ⟨5, 1, 7, now + 10⟩ else if q = 2 then Lk.bytes ⟨5, 1, 7, now⟩ else noLock
def fileS (q : Nat) (now : Int) : Fs := if q = 0 then fs0 1000 else (fs0 1000).write nmC (fileL q now)
def fileC (q : Nat) (now : Int) : Option (List Int × Int) := if q = 0 then none else some (fileL q now, 1)
def lessS (room : Bool) (S : Fs) : Fs := if room = true then S else { S with room := roomOf S.used }
def wantQ (q : Nat) (room : Bool) : Int := if q = 1 then 2 else if q = 3 then 3 else if room = true then 1 else 4
def stepsQ (q : Nat) (room : Bool) : Nat := if q = 1 then 1 else if q = 3 then 1 else if room = true then (if q = 0 then 2 else 3) else 2
theorem fileL_len (q : Nat) (now : Int) : (fileL q now).length ≤ 34 := by
  unfold fileL
  split
  · rw [Lk.bytes_len]; omega
  · split
    · rw [Lk.bytes_len]; omega
    · decide
theorem fileC_lc (q : Nat) (now : Int) : LC nmC 1000 (fileS q now) (fileC q now) := by
  have h0 := lc_new nmC 1000 (by decide) (by decide)
  unfold fileS fileC
  by_cases hq : q = 0
  · rw [if_pos hq, if_pos hq]; exact h0
  · rw [if_neg hq, if_neg hq]; exact h0.write (fileL q now)
theorem fileS_put (q : Nat) (now : Int) (hq : q ≠ 0) : (fs0 1000).putF nmC (fileL q now) = ((1, 0), fileS q now) := by
  have := fileL_len q now
  unfold fileS
  rw [if_neg hq]
  exact putF_ok nmC_ok (by show (0 : Int) + (((fileL q now).length : Int) - ((([] : List Int).length : Nat) : Int)) ≤ 1000; rw [List.length_nil]; omega)
theorem fileC_tl (q : Nat) (now : Int) : 0 ≤ tl (fileC q now) ∧ tl (fileC q now) ≤ 34 := by
  have := fileL_len q now
  unfold fileC
  by_cases hq : q = 0
  · rw [if_pos hq]; exact ⟨by decide, by decide⟩
  · rw [if_neg hq]; show 0 ≤ ((fileL q now).length : Int) ∧ ((fileL q now).length : Int) ≤ 34; omega
theorem fileC_less (q : Nat) (now : Int) (room : Bool) : LC nmC (if room = true then 1000 else tl (fileC q now)) (lessS room (fileS q now)) (fileC q now) := by
  unfold lessS
  cases room with
  | true => rw [if_pos rfl, if_pos rfl]; exact fileC_lc q now
  | false => rw [if_neg (by simp), if_neg (by simp)]; have := fileC_tl q now; exact (fileC_lc q now).less this.1 (by omega)
theorem lock5_open (till : Int) (h0 : 0 ≤ till) (h1 : till ≤ 1000000) : openLk (Lk.bytes ⟨5, 1, 7, till⟩) = some ⟨5, 1, 7, till⟩ :=
  openLk_bytes (lk_small ⟨by simp, by simp⟩ ⟨by simp, by simp⟩ ⟨by simp, by simp⟩ ⟨h0, h1⟩)
theorem noLock_open : openLk noLock = none := by unfold openLk aloneF; rw [oneF_short (by decide)]
theorem steps_run (q : Nat) (hq : q < 4) (room : Bool) (now : Nat) (hn : now ≤ 65535) :
    ∃ X t S', TRun now (lessS room (fileS q now)) (tk0 nmC (tmpOf 2 3 9) 2 3 50) (stepsQ q room) X (wantQ q room) t S' ∧ (wantQ q room = 1 → t.l = ⟨2, 3, (if q = 0 then 1 else 8), now + 50⟩) ∧ ((lessS room (fileS q now)).readF nmC).2.1.length ≤ 100000 := by
  have hc : clampN (now : Int) = now := clamp_le (by omega) (by omega)
  have hS := fileC_less q now room
  have hlen : ((lessS room (fileS q now)).readF nmC).2.1.length ≤ 100000 := by
    have h2 := fileL_len q now
    cases hC : fileC q now with
    | none => rw [hC] at hS; rw [readF_none nmC_ok hS.c]; decide
    | some x =>
      rw [hC] at hS; rw [readF_of nmC_ok hS.c]
      unfold fileC at hC
      by_cases h0 : q = 0
      · rw [if_pos h0] at hC; cases hC
      · rw [if_neg h0] at hC; cases hC; show (fileL q now).length ≤ 100000; omega
  have : q = 0 ∨ q = 1 ∨ q = 2 ∨ q = 3 := by omega
  rcases this with rfl | rfl | rfl | rfl
  · rw [show fileC 0 now = none from rfl] at hS
    cases room with
    | true =>
      obtain ⟨X, t, r, _, _, g3⟩ := take_none hS nmC_ok (by decide) (tmpOf 2 3 9) 2 3 50 now (tmp_size _ _ _) (by decide) (by decide) (by decide)
      exact ⟨X, t, _, r, fun _ => by rw [g3, hc]; rfl, hlen⟩
    | false =>
      obtain ⟨X, t, r⟩ := take_none_full hS nmC_ok (by decide) (tmpOf 2 3 9) 2 3 50 now (tmp_size _ _ _) (by decide) (by decide) (by decide)
      exact ⟨X, t, _, r, (fun e => by cases e), hlen⟩
  · rw [show fileC 1 now = some (Lk.bytes ⟨5, 1, 7, now + 10⟩, 1) from rfl] at hS
    obtain ⟨X, t, k, r, _, q4, _⟩ := take_one hS nmC_ok (by decide) (tmpOf 2 3 9) 2 3 50 now (tmp_size _ _ _) (by decide) (by decide) ⟨5, 1, 7, now + 10⟩ 4 (by rw [lock5_open _ (by omega) (by omega), hc]; unfold lookL lkTop; simp; omega) (by decide)
    obtain rfl := q4 rfl
    refine ⟨X, t, lessS room (fileS 1 now), ?_, (fun e => absurd e (by cases room <;> decide)), hlen⟩
    cases room <;> exact r
  · rw [show fileC 2 now = some (Lk.bytes ⟨5, 1, 7, now⟩, 1) from rfl] at hS
    have ho : lookL (openLk (Lk.bytes ⟨5, 1, 7, now⟩)) 2 3 (clampN now) = (⟨5, 1, 7, now⟩, 3) := by rw [lock5_open _ (by omega) (by omega), hc]; unfold lookL lkTop; simp
    cases room with
    | true =>
      obtain ⟨X, t, S2, r, _, _, b3, _, _⟩ := take_open hS nmC_ok (by decide) (tmpOf 2 3 9) 2 3 50 now (tmp_size _ _ _) (by decide) (by decide) ⟨5, 1, 7, now⟩ ho (by simp) (by simp) (tmp_ok _ _ _ (by decide) (by decide) (by decide)) (tmp_ne _ _ _) (by rw [Lk.bytes_len, if_pos rfl]; decide)
      exact ⟨X, t, S2, r, fun _ => by rw [b3, hc]; rfl, hlen⟩
    | false =>
      obtain ⟨X, t, r⟩ := take_open_full hS nmC_ok (by decide) (tmpOf 2 3 9) 2 3 50 now (tmp_size _ _ _) (by decide) (by decide) ⟨5, 1, 7, now⟩ ho (by simp) (by simp) (tmp_ok _ _ _ (by decide) (by decide) (by decide)) (tmp_ne _ _ _) (by show ((Lk.bytes ⟨5, 1, 7, now⟩).length : Int) < ((Lk.bytes ⟨5, 1, 7, now⟩).length : Int) + 34; omega)
      exact ⟨X, t, _, r, (fun e => by cases e), hlen⟩
  · rw [show fileC 3 now = some (noLock, 1) from rfl] at hS
    obtain ⟨X, t, k, r, _, _, q1⟩ := take_one hS nmC_ok (by decide) (tmpOf 2 3 9) 2 3 50 now (tmp_size _ _ _) (by decide) (by decide) lk0 1 (by rw [noLock_open]; rfl) (by decide)
    obtain rfl := q1 rfl
    refine ⟨X, t, lessS room (fileS 3 now), ?_, (fun e => absurd e (by cases room <;> decide)), hlen⟩
    cases room <;> exact r
end Go.Proofs.YtahdeighocmijaaDoor
