/- LogsFixes: the plain law of a round. -/
import Derived.Test.YtahdeighocmijaaGreatHeld
import Derived.Test.YtahdeighocmijaaGreatRtrace2
import Derived.Test.YtahdeighocmijaaGreatFsL
namespace Go.Proofs.YtahdeighocmijaaGreat
set_option linter.unusedSimpArgs false
set_option linter.unusedVariables false
open Go.RowKit
open Crc (Bytes)

/-- Some steps of a fix. -/
structure RunC (ds : List Dn) (r : List Int) (S0 : Fs) (st : Int) (m : Nat) (X : Nat → Int × Fix × Fs) : Prop where
  m0 : 1 ≤ m
  m1 : m ≤ 4
  zero : X 0 = (0, fix0 st, S0)
  step : ∀ q, q < m → stepX ds r (X q).2.2 (X q).2.1 = X (q + 1)
  work : ∀ q, q < m → (X q).1 = 0
  first : ∀ q, q < m → (X q).2.1.at_ = q
theorem Run.toC {ds : List Dn} {r : List Int} {S0 S' : Fs} {st ts : Int} {m : Nat} {X : Nat → Int × Fix × Fs} (h : Run ds r S0 st m X S' ts) : RunC ds r S0 st m X := ⟨h.m0, by have := h.m1; omega, h.zero, h.step, h.work, h.first⟩
theorem run_stepC {w0 wl W : World} {base fb mb xb k m q : Nat} {ds : List Dn} {r : List Int} {S0 : Fs} {st : Int} {X : Nat → Int × Fix × Fs} (R : RunC ds r S0 st m X) (hq : q < m) (h : LoopX w0 wl base fb mb xb k (X q) W) (hk : k ≤ 4999) (hw : w0.heap.size ≤ base) (hbl : base ≤ wl.heap.size)
    (ht : (S0.readF nmT).1 = 0 → (S0.readF nmT).2.1 = tr ds ++ r ∧ Dns ds ∧ NoD r ∧ (tr ds ++ r).length ≤ 100000) :
    Calls Tryz.prog 13 #[.pointer (some ⟨xb, 0, none⟩), .pointer (some ⟨fb, 0, none⟩)] W fun e w' => e = .returned (.int .i64 (X (q + 1)).1) ∧ LoopX w0 wl base fb mb xb (k + 1) (X (q + 1)) w' := by
  have hat := R.first q hq
  have hm1 := R.m1
  have h0 : (X q).2.1.at_ = 0 → q = 0 := fun e => by omega
  refine (fixstep_any ds r h.fs h.fix hw (Nat.le_trans hbl h.o.size) hk (by omega) (fun e => ?_) (fun e => ?_)).mono ?_
  · obtain rfl := h0 e; rw [R.zero]; show 1 ≤ 3; omega
  · obtain rfl := h0 e; rw [R.zero]; exact ht
  · intro e w' hd
    rw [R.step q hq] at hd
    exact ⟨hd.ret, hd.x, hd.h, h.o.trans hd.o⟩
/-- How a round of a fix ends: held, with the trace's guard, or busy. -/
structure RndE (ds : List Dn) (r : List Int) (S : Fs) (st : Int) (m : Nat) (X : Nat → Int × Fix × Fs) (S' : Fs) (code : Int) : Prop where
  run : RunC ds r S st m X
  cd : (X m).1 = code
  fs : (X m).2.2 = S'
  at_ : (X m).2.1.at_ = 4
  told : (X m).2.1.told = code
/-- What the files hold ahead of a round. -/
structure Ahead (S : Fs) (T : Option (List Int × Int)) (L : List Int × Int) (ds : List Dn) (r : List Int) (was : Int) : Prop where
  ls : LS 1048576 S T L
  few : Few S
  dns : Dns ds
  nod : NoD r
  len : (tr ds ++ r).length ≤ 1000
  l1 : L.1.length ≤ 10
  sh : (T = none ∧ tr ds ++ r = [] ∧ was = 0) ∨ T = some (tr ds ++ r, was)
theorem Ahead.read {S : Fs} {T : Option (List Int × Int)} {L : List Int × Int} {ds : List Dn} {r : List Int} {was : Int} (h : Ahead S T L ds r was) : (S.readF nmT).1 = 0 → (S.readF nmT).2.1 = tr ds ++ r ∧ Dns ds ∧ NoD r ∧ (tr ds ++ r).length ≤ 100000 := fun e => by
  rcases h.sh with ⟨rfl, _, _⟩ | rfl
  · rw [readF_none nmT_ok h.ls.t] at e; cases e
  · rw [readF_of nmT_ok h.ls.t]
    exact ⟨rfl, h.dns, h.nod, by have := h.len; omega⟩
theorem Ahead.st {S : Fs} {T : Option (List Int × Int)} {L : List Int × Int} {ds : List Dn} {r : List Int} {was : Int} (h : Ahead S T L ds r was) : S.st nmT = was := by
  rcases h.sh with ⟨rfl, _, hw⟩ | rfl
  · rw [(by_none h.ls.t).2.1, hw]
  · exact (by_of h.ls.t).2.1
theorem Ahead.by_ {S : Fs} {T : Option (List Int × Int)} {L : List Int × Int} {ds : List Dn} {r : List Int} {was : Int} (h : Ahead S T L ds r was) : (S.readF nmT).2.1 = tr ds ++ r := by
  rcases h.sh with ⟨rfl, h2, hw⟩ | rfl
  · rw [readF_none nmT_ok h.ls.t, h2]
  · rw [readF_of nmT_ok h.ls.t]
theorem LS.tmp {R : Int} {S : Fs} {T : Option (List Int × Int)} {L : List Int × Int} (h : LS R S T L) (hf : Few S) {ks : List (List UInt8)} (hk : Ks S ks) : (ks.filter (inB ⟨#[116, 109, 112]⟩)).length = 0 := by
  rw [List.length_eq_zero_iff, List.filter_eq_nil_iff]
  intro key hkey
  have h1 := (hk.mem key).1 hkey
  by_cases ht : key = nmT.data.toList
  · subst ht; decide
  by_cases hl : key = nmL.data.toList
  · subst hl; decide
  by_cases hp : key = nmP.data.toList
  · subst hp; rw [h.p] at h1; cases h1
  · rw [hf key ht hl hp] at h1; cases h1
/-- A round that holds. -/
theorem rnd_held {S : Fs} {T : Option (List Int × Int)} {L : List Int × Int} {ds : List Dn} {r : List Int} {was st : Int} (h : Ahead S T L ds r was) (hh : st = L.2 ∨ (T ≠ none ∧ r = [])) :
    ∃ m X S' ts, RndE ds r S st m X S' 1 ∧ (X m).2.1.tn = nmT ∧ (X m).2.1.ts = ts ∧ Ahead S' (some (tr ds, ts)) L ds [] ts ∧ ((ts = was) ↔ (T ≠ none ∧ r = [])) := by
  have hl := h.ls
  have hlen := h.len
  have hl1 := h.l1
  have hsz : (tr ds ++ r).length = (tr ds).length + r.length := List.length_append
  have hA : ∀ S' ts, LS 1048576 S' (some (tr ds, ts)) L → Few S' → Ahead S' (some (tr ds, ts)) L ds [] ts := fun S' ts h1 h2 => ⟨h1, h2, h.dns, .inl rfl, by rw [List.append_nil]; omega, hl1, .inr (by rw [List.append_nil])⟩
  by_cases hw : T ≠ none ∧ r = []
  · obtain ⟨hT, rfl⟩ := hw
    rcases h.sh with ⟨hn, _, _⟩ | hs
    · exact absurd hn hT
    · rw [List.append_nil] at hs
      subst hs
      have hr := readF_of nmT_ok hl.t
      refine ⟨1, X4 (0, fix0 st, S) (1, { fix0 st with at_ := 4, told := 1, tn := nmT, ts := was }, S) (0, fix0 st, S) (0, fix0 st, S), S, was, ⟨⟨by omega, by omega, rfl, ?_, ?_, ?_⟩, rfl, rfl, rfl, rfl⟩, rfl, rfl, hA S was hl h.few, by simp⟩
      · intro q hq
        obtain rfl : q = 0 := by omega
        show stepX ds [] S (fix0 st) = _
        unfold stepX readX
        rw [hr, if_pos (show (fix0 st).at_ = 0 from rfl), if_neg (by simp), if_pos rfl]
        rfl
      · intro q hq; obtain rfl : q = 0 := (by omega); rfl
      · intro q hq; obtain rfl : q = 0 := (by omega); rfl
  · obtain rfl : st = L.2 := by rcases hh with h1 | h1; exact h1; exact absurd h1 hw
    rcases h.sh with ⟨rfl, hnil, rfl⟩ | rfl
    · have hd : tr ds = [] := (List.append_eq_nil_iff.1 hnil).1
      obtain ⟨X, S', hX, hS, hlt, hf⟩ := run_none hl (by omega) ds r
      have h0 := hl.l0
      refine ⟨3, X, S', S'.last, ⟨hX.toC, hX.hold, hX.fs, hX.at_, hX.told⟩, hX.tn, hX.tts, hA S' _ (by rw [hd]; exact hS) (hf h.few), ?_⟩
      constructor
      · intro e; omega
      · intro e; exact absurd rfl e.1
    · have hr0 : r ≠ [] := fun e => hw ⟨by simp, e⟩
      obtain ⟨X, S', hX, hS, hlt, hf⟩ := run_cut hl hr0 (by omega)
      have h0 := (hl.ts _ rfl).2
      simp only at h0
      refine ⟨3, X, S', S'.last, ⟨hX.toC, hX.hold, hX.fs, hX.at_, hX.told⟩, hX.tn, hX.tts, hA S' _ hS (hf h.few), ?_⟩
      constructor
      · intro e; omega
      · intro e; exact absurd e hw
def X5 (a b c d e : Int × Fix × Fs) (n : Nat) : Int × Fix × Fs := match n with | 0 => a | 1 => b | 2 => c | 3 => d | _ => e
/-- The last three steps where a guard does not hold. -/
theorem run_three {ds : List Dn} {r : List Int} {R : Int} {S : Fs} {T : Option (List Int × Int)} {L : List Int × Int} (h : LS R S T L) (hf : Few S) (s : Fix) (b : List Int) (h1 : s.at_ = 1) (h2 : s.temp = nmP) (h3 : s.b = b) (h4 : (S.write nmP b).bad s.gs = true) (hu : tl T + L.1.length + b.length ≤ R) :
    ∃ S', stepX ds r S s = (0, { s with at_ := 2 }, S.write nmP b) ∧ stepX ds r (S.write nmP b) { s with at_ := 2 } = (0, { s with at_ := 3 }, S.write nmP b) ∧ stepX ds r (S.write nmP b) { s with at_ := 3 } = (2, { s with at_ := 4, told := 2 }, S') ∧ LS R S' T L ∧ Few S' := by
  have hby := (by_none h.p).1
  have hl0 := h.l0
  have hls := h.ls
  have hput : S.putF nmP b = ((S.last + 1, 0), S.write nmP b) := putF_ok nmP_ok (by rw [hby, h.used, h.room]; simp; omega)
  have hb2 := by_of (wr_same S nmP b)
  have hmv : (S.write nmP b).moveF nmP nmT s.gs = ((0, 5), S.write nmP b) := by
    unfold Fs.moveF
    rw [if_neg (by rw [nmP_ok, nmT_ok]; simp; exact nmPT), if_pos h4]
  have hdr : ((S.write nmP b).dropF nmP []).2 = (S.write nmP b).gone nmP := by
    unfold Fs.dropF
    rw [if_neg (by rw [nmP_ok]; simp), if_neg (by unfold Fs.bad; simp), if_neg (by rw [hb2.2.2]; simp)]
  refine ⟨(S.write nmP b).gone nmP, ?_, ?_, ?_, ?_, (hf.write (.inr (.inr rfl)) b).gone nmP⟩
  · unfold stepX
    rw [h1, if_neg (by decide), if_pos rfl, h2, h3, hput, if_pos rfl]
  · unfold stepX
    rw [if_neg (show ¬ ({ s with at_ := 2 } : Fix).at_ = 0 by simp), if_neg (show ¬ ({ s with at_ := 2 } : Fix).at_ = 1 by simp), if_pos rfl]
    show (if ((S.write nmP b).moveF s.temp nmT s.gs).1.2 ≠ 0 then _ else _) = _
    rw [h2, hmv, if_pos (by simp)]
  · unfold stepX
    rw [if_neg (show ¬ ({ s with at_ := 3 } : Fix).at_ = 0 by simp), if_neg (show ¬ ({ s with at_ := 3 } : Fix).at_ = 1 by simp), if_neg (show ¬ ({ s with at_ := 3 } : Fix).at_ = 2 by simp), if_pos rfl]
    show (2, _, ((S.write nmP b).dropF s.temp []).2) = _
    rw [h2, hdr]
  · refine ⟨((gone_other _ nmTP).trans (wr_other S b nmTP)).trans h.t, ((gone_other _ nmLP).trans (wr_other S b nmLP)).trans h.l, gone_same _ _, h.cuts, h.room, ?_, ?_, ?_, ?_⟩
    · show S.used + ((b.length : Int) - ((S.by nmP).length : Int)) - (((S.write nmP b).by nmP).length : Int) = _
      rw [hb2.1, hby, h.used]; simp
    · intro x hx; have := h.ts x hx; show 1 ≤ x.2 ∧ x.2 ≤ S.last + 1; omega
    · show L.2 ≤ S.last + 1; omega
    · show 0 ≤ S.last + 1; omega
/-- A round that is busy. -/
theorem rnd_busy {S : Fs} {T : Option (List Int × Int)} {L : List Int × Int} {ds : List Dn} {r : List Int} {was st : Int} (h : Ahead S T L ds r was) (hh : st ≠ L.2) (hw : ¬ (T ≠ none ∧ r = [])) :
    ∃ m X S', RndE ds r S st m X S' 2 ∧ Ahead S' T L ds r was := by
  have hl := h.ls
  have hlen := h.len
  have hl1 := h.l1
  have hsz : (tr ds ++ r).length = (tr ds).length + r.length := List.length_append
  have hA : ∀ S', LS 1048576 S' T L → Few S' → Ahead S' T L ds r was := fun S' h1 h2 => ⟨h1, h2, h.dns, h.nod, h.len, hl1, h.sh⟩
  rcases h.sh with ⟨rfl, hnil, hw0⟩ | rfl
  · have hr := readF_none nmT_ok hl.t
    have hbad : (S.write nmP []).bad [(nmL, st)] = true := by
      rw [bad_one]; exact off_ne ((wr_other S [] nmLP).trans hl.l) (Ne.symm hh)
    obtain ⟨S', e1, e2, e3, hls, hf⟩ := run_three (ds := ds) (r := r) hl h.few { fix0 st with at_ := 1 } [] rfl rfl rfl hbad (by show (0 : Int) + L.1.length + 0 ≤ 1048576; omega)
    refine ⟨4, X5 (0, fix0 st, S) (0, { fix0 st with at_ := 1 }, S) (0, { fix0 st with at_ := 2 }, S.write nmP []) (0, { fix0 st with at_ := 3 }, S.write nmP []) (2, { fix0 st with at_ := 4, told := 2 }, S'), S', ⟨⟨by omega, by omega, rfl, ?_, ?_, ?_⟩, rfl, rfl, rfl, rfl⟩, hA S' hls hf⟩
    · intro q hq
      have : q = 0 ∨ q = 1 ∨ q = 2 ∨ q = 3 := by omega
      rcases this with rfl | rfl | rfl | rfl
      · show stepX ds r S (fix0 st) = _
        unfold stepX readX
        rw [hr, if_pos (show (fix0 st).at_ = 0 from rfl), if_pos (by simp)]
        rfl
      · exact e1
      · exact e2
      · exact e3
    · intro q hq
      have : q = 0 ∨ q = 1 ∨ q = 2 ∨ q = 3 := by omega
      rcases this with rfl | rfl | rfl | rfl <;> rfl
    · intro q hq
      have : q = 0 ∨ q = 1 ∨ q = 2 ∨ q = 3 := by omega
      rcases this with rfl | rfl | rfl | rfl <;> rfl
  · have hr0 : r ≠ [] := fun e => hw ⟨by simp, e⟩
    have hr := readF_of nmT_ok hl.t
    have hbad : (S.write nmP (tr ds)).bad [(nmL, st), (nmT, was)] = true := by
      rw [bad_two, off_ne ((wr_other S (tr ds) nmLP).trans hl.l) (Ne.symm hh)]; rfl
    obtain ⟨S', e1, e2, e3, hls, hf⟩ := run_three (ds := ds) (r := r) hl h.few { fix0 st with at_ := 1, b := tr ds, gs := [(nmL, st), (nmT, was)], tn := nmT, ts := was } (tr ds) rfl rfl rfl hbad (by show ((tr ds ++ r).length : Int) + L.1.length + _ ≤ 1048576; omega)
    refine ⟨4, X5 (0, fix0 st, S) (0, { fix0 st with at_ := 1, b := tr ds, gs := [(nmL, st), (nmT, was)], tn := nmT, ts := was }, S) (0, { fix0 st with at_ := 2, b := tr ds, gs := [(nmL, st), (nmT, was)], tn := nmT, ts := was }, S.write nmP (tr ds)) (0, { fix0 st with at_ := 3, b := tr ds, gs := [(nmL, st), (nmT, was)], tn := nmT, ts := was }, S.write nmP (tr ds)) (2, { fix0 st with at_ := 4, told := 2, b := tr ds, gs := [(nmL, st), (nmT, was)], tn := nmT, ts := was }, S'), S', ⟨⟨by omega, by omega, rfl, ?_, ?_, ?_⟩, rfl, rfl, rfl, rfl⟩, hA S' hls hf⟩
    · intro q hq
      have : q = 0 ∨ q = 1 ∨ q = 2 ∨ q = 3 := by omega
      rcases this with rfl | rfl | rfl | rfl
      · show stepX ds r S (fix0 st) = _
        unfold stepX readX
        rw [hr, if_pos (show (fix0 st).at_ = 0 from rfl), if_neg (by simp), if_neg hr0]
        rfl
      · exact e1
      · exact e2
      · exact e3
    · intro q hq
      have : q = 0 ∨ q = 1 ∨ q = 2 ∨ q = 3 := by omega
      rcases this with rfl | rfl | rfl | rfl <;> rfl
    · intro q hq
      have : q = 0 ∨ q = 1 ∨ q = 2 ∨ q = 3 := by omega
      rcases this with rfl | rfl | rfl | rfl <;> rfl
/-- The files ahead of the lock. -/
structure PreL (S1 : Fs) (T : Option (List Int × Int)) (was : Int) : Prop where
  ex : ∃ s S2, S1.putF nmL [120] = ((s, 0), S2) ∧ LS 1048576 S2 T ([120], s) ∧ Few S2 ∧ 0 ≤ s ∧ s ≤ 2
  was : was = 0 ∧ T = none ∨ ∃ b, T = some (b, was)
theorem pre_none : PreL (fs0 1048576) none 0 := by
  obtain ⟨h1, h2⟩ := ls_new 1048576 [120] (by decide) (by decide) (by decide)
  exact ⟨⟨1, _, h1, h2, Few.write (S := fs0 1048576) (fun _ _ _ _ => rfl) (.inr (.inl rfl)) _, by decide, by decide⟩, .inl ⟨rfl, rfl⟩⟩
theorem pre_some (b : List Int) (hb : b.length ≤ 1000) : (fs0 1048576).putF nmT b = ((1, 0), (fs0 1048576).write nmT b) ∧ PreL ((fs0 1048576).write nmT b) (some (b, 1)) 1 := by
  obtain ⟨h1, h2, h3⟩ := ls_new2 1048576 b [120] (by decide) (by decide) (by show (b.length : Int) + (1 : Nat) ≤ 1048576; omega)
  exact ⟨h1, ⟨2, _, h2, h3, (Few.write (S := fs0 1048576) (fun _ _ _ _ => rfl) (.inl rfl) _).write (.inr (.inl rfl)) _, by decide, by decide⟩, .inr ⟨b, rfl⟩⟩
set_option maxRecDepth 100000 in
theorem fixtrace2_any {w : World} {base xb : Nat} {s : Fix} (hX : FixAt w base xb s) (h4 : s.at_ = 4) (h1 : s.told = 2) :
    Calls Tryz.prog 14 #[.pointer (some ⟨xb, 0, none⟩)] w fun e w' => e = .returned (.tuple #[.agg #[.string ⟨#[]⟩, .int .i64 0], .bool false]) ∧ Below w.heap.size w w' := by
  obtain ⟨⟨GA, gn, gc, BA, bn, bc, hblk, hgo, hbb, hbu⟩, hxb, hnm, hg4, htz, hbz⟩ := hX
  have c2 : w.cell? ⟨xb, 2, none⟩ = some (.int .i64 4) := by rw [← h4]; exact hblk.cell 2
  have c3 : w.cell? ⟨xb, 3, none⟩ = some (.int .i64 2) := by rw [← h1]; exact hblk.cell 3
  have hlt := hblk.lt
  clear hblk hgo hbb hbu hnm
  go_enter Tryz.func14, Tryz.ntmps14
  go_wp2_with fail
  refine bodyPost_ret (v := .tuple #[.agg #[.string ⟨#[]⟩, .int .i64 0], .bool false]) ?_ rfl ⟨rfl, by (repeat (first | assumption | exact Below.refl _ _ | (with_reducible apply Below.drew) | (with_reducible apply bl_drewN) | (with_reducible apply bl_alloc) | (with_reducible refine bl_then ?_ (by assumption))))⟩
  rw [results_cell_tmp rfl]
  go_simp
end Go.Proofs.YtahdeighocmijaaGreat
