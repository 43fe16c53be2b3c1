/- SimfPlays: the law's walk. -/
import Derived.Test.YtkbgedaogfcdnaaPlayV
namespace Go.Proofs.Ytkbgedaogfcdnaa
set_option linter.unusedSimpArgs false
set_option linter.unusedVariables false
open Go.RowKit
open Crc (Bytes)
theorem play_round {w W : World} {fb mb qb n cp rn rc i k : Nat} {ad : Addr} {RA : Option Addr} {x : Int} {t : Array Value} {S : Fs} {Q0 : Exit → Act → World → Prop} (sl : PlayS ⟨w, fb, mb, qb, some ad, n, cp, RA, rn, rc⟩ t) (s9 : t.getD 9 undef = .int .i64 i) (hi : i < n) (h120 : i < 120) (hc : W.cell? (ad.add i) = some (.int .i64 x)) (hR : RowsIn w RA rn) (hk : k ≤ i) (hB : Both w W fb mb qb S k)
    (hRet : ∀ a' W', a'.defers = [] → a'.tmps.getD 6 undef = .bool true → Below w.heap.size w W' → Q0 .ret a' W') : Code.wp Try.prog playBody (PlayQ ⟨w, fb, mb, qb, some ad, n, cp, RA, rn, rc⟩ t W Q0) ⟨t, []⟩ W := by
  have hmu : playMu ⟨t, []⟩ W = 121 - i := by unfold playMu; rw [s9]; simp [intOf]
  unfold PlayQ
  rw [hmu, body_eq]
  refine wp_seq (play_u7 sl s9 hi h120 ?_)
  intro t1 sl1 a9
  refine wp_seq (wp_block (play_c1 sl1 a9 hi h120 hc hR hk hB ?_ ?_))
  · rintro ⟨t2, df⟩ W2 ⟨h1, h2, h3, k2, S2, h4, h5⟩
    simp only at h1 h2 h3
    subst h1
    refine play_u8 h2 h3 (by omega) ?_
    intro t3 sl3 b9
    exact ⟨⟨rfl, sl3, i + 1, k2, S2, b9, by omega, h4, h5⟩, by unfold playMu; rw [b9]; simp [intOf]; omega⟩
  · intro a' W' h1 h2 h3
    exact hRet a' W' h1 h2 h3
theorem QAt.base {W : World} {b1 b2 qb k : Nat} {S : Fs} (h : QAt W b1 qb S k) (hb : b2 ≤ b1) : QAt W b2 qb S k := by
  obtain ⟨A, n, c, xs, h1, h2, h3, h4, h5⟩ := h.ex
  exact ⟨⟨A, n, c, xs, h1, h2.more hb, h3, h4, h5⟩, Nat.le_trans hb h.hb⟩
set_option maxRecDepth 100000 in
set_option maxHeartbeats 16000000 in
theorem simfplays_any (room : Int) (A : Option Addr) (n cp : Nat) (l : List Int) (RA : Option Addr) (rn rc : Nat) (w : World) (h : Is w A n l) (hR : RowsIn w RA rn) : Calls Try.prog 3 #[.int .i64 room, .slice A n cp, .slice RA rn rc] w fun e w' => e = .returned (.bool true) ∧ Below w.heap.size w w' := by
  have HA := Lib.hid h
  have HR := Lib.hid hR
  clear h hR
  go_enter Try.func3, Try.ntmps3
  go_upto_region 1 with fail
  go_cut [41] (fun v wx => ∃ b, v = .bool b ∧ wx = w)
  case first =>
    go_wp2_with fail
    go_meet
    exact ⟨_, rfl, rfl⟩
  case rest =>
    obtain ⟨b, rfl, hw⟩ := hcut
    subst hw
    go_upto_if 41 with fail
    go_cut [0] (fun v wx => ∃ r, v = .int .i64 r ∧ wx = wc)
    case first =>
      cases b
      · go_wp2_with fail
        go_meet
        exact ⟨_, rfl, rfl⟩
      · go_wp2_with fail
        go_meet
        exact ⟨_, rfl, rfl⟩
    case rest =>
      obtain ⟨r, rfl, hw⟩ := hcut
      subst hw
      go_wp2_with fail
      refine (new_h _ r).mono ?_
      rintro e w1 ⟨fb, mb, rfl, h0⟩
      have H0 := Lib.hid h0
      clear h0
      go_wp2_with fail
      refine (qnew_any r _).mono ?_
      rintro e w2 ⟨qb, rfl, hq, hb2⟩
      have HB := Lib.hid (show Both wc w2 fb mb qb (fs0 r) 0 from ⟨H0.out.below hb2, hq.base H0.out.bel.size⟩)
      clear hq hb2 H0
      go_wp2_with fail
      refine wp_loop (PlayL ⟨wc, fb, mb, qb, A, n, cp, RA, rn, rc⟩) playMu ⟨rfl, ⟨rfl, rfl, rfl, rfl, rfl⟩, 0, 0, _, rfl, by omega, by omega, HB.out⟩ ?_
      clear HB
      rintro ⟨t, df⟩ wr ⟨q1, sl, i, k, S, s9, hi, hk, hB⟩
      simp only at q1 sl s9 hB
      subst q1
      by_cases hin : i < n ∧ i < 120
      · obtain ⟨hlen, h120⟩ := hin
        obtain ⟨ad, hAd, hc, -, -⟩ := (HA.out.below hB.fs.bel).get hlen
        subst hAd
        refine play_round sl s9 hlen h120 hc HR.out hk hB ?_
        intro a' W' h1 h2 h3
        (try simp only [Exit.inBlock, Exit.then])
        exact bodyPost_ret (results_tmp rfl _ _ _) h1 ⟨by rw [h2], h3⟩
      · have HB := Lib.hid hB
        obtain ⟨v, rfl⟩ := frameP t sl.sz _ _ _ _ _ sl.s1 sl.s2 sl.s7 sl.s8 s9
        clear sl s9 hB HA HR
        by_cases hl : i < n
        · have hl' : (i : Int) < (n : Int) := by omega
          have h3 : ¬ (i : Int) < 120 := by omega
          clear hin
          go_wp2_with fail
          refine (awake9_any _).mono ?_
          rintro e w9 ⟨rfl, hb9⟩
          have Hb := Lib.hid (HB.out.fs.bel.trans (hb9.mono HB.out.fs.bel.size))
          clear hb9
          go_wp2_with fail
          go_ret
          exact ⟨rfl, Hb.out⟩
        · have hl' : ¬ (i : Int) < (n : Int) := by omega
          clear hin
          go_wp2_with fail
          refine (awake9_any _).mono ?_
          rintro e w9 ⟨rfl, hb9⟩
          have Hb := Lib.hid (HB.out.fs.bel.trans (hb9.mono HB.out.fs.bel.size))
          clear hb9
          go_wp2_with fail
          go_ret
          exact ⟨rfl, Hb.out⟩
end Go.Proofs.Ytkbgedaogfcdnaa
