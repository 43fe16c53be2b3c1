/- SimfPlays: the tail of a round. -/
import Derived.Test.YtkbgedaogfcdnaaPlayB
namespace Go.Proofs.Ytkbgedaogfcdnaa
set_option linter.unusedSimpArgs false
set_option linter.unusedVariables false
open Go.RowKit
open Crc (Bytes)
theorem QAt.bytes {w : World} {base qb k : Nat} {S : Fs} (h : QAt w base qb S k) (s : ByteArray) : Bytes (S.by s) := by
  obtain ⟨A, n, c, xs, h1, h2, h3, h4, h5⟩ := h.ex
  by_cases hx : ∃ x ∈ xs, x.nm = s
  · obtain ⟨x, hx, he⟩ := hx
    rw [(h3.is hx he).2.1]; exact (h2.ok x hx).bs.by_
  · rw [(h3.no fun x hxx e => hx ⟨x, hxx, e⟩).2.1]; intro x hx; simp at hx
theorem QAt.rbytes {w : World} {base qb k : Nat} {S : Fs} (h : QAt w base qb S k) (s : ByteArray) : Bytes (S.readF s).2.1 := by
  unfold Fs.readF
  split
  · intro x hx; simp at hx
  · split
    · intro x hx; simp at hx
    · exact h.bytes s
set_option maxRecDepth 100000 in
set_option maxHeartbeats 16000000 in
theorem play_tail {w : World} {fb mb qb : Nat} {A : Option Addr} {n cp : Nat} {RA : Option Addr} {rn rc i k : Nat} {t : Array Value} {W : World} {S : Fs} {pa pb : ByteArray} {Q : Exit → Act → World → Prop}
    (sl : PlayS ⟨w, fb, mb, qb, A, n, cp, RA, rn, rc⟩ t) (s9 : t.getD 9 undef = .int .i64 i) (s11 : t.getD 11 undef = .string pa) (s12 : t.getD 12 undef = .string pb) (hpa : pa ∈ nm12) (hpb : pb ∈ nm12) (za : pa.size ≤ 1000) (zb : pb.size ≤ 1000) (hk : k ≤ i + 1) (hi : i ≤ 120) (hB : Both w W fb mb qb S k)
    (hQ : ∀ a' W', PlayE ⟨w, fb, mb, qb, A, n, cp, RA, rn, rc⟩ i a' W' → Q .normal a' W') : Code.wp Try.prog playTail Q ⟨t, []⟩ W := by
  have HB := Lib.hid hB
  have HQ := Lib.hid hQ
  have HPa := Lib.hid hpa
  have hF : QFin S := hB.fs.qfin (by omega)
  have HF := Lib.hid hF
  obtain ⟨x10, s10⟩ : ∃ x, t.getD 10 undef = x := ⟨_, rfl⟩
  obtain ⟨x13, s13⟩ : ∃ x, t.getD 13 undef = x := ⟨_, rfl⟩
  obtain ⟨v, rfl⟩ := frameR t sl.sz _ _ _ _ _ _ _ _ _ sl.s1 sl.s2 sl.s7 sl.s8 s9 s10 s11 s12 s13
  clear s10 s13 sl s9 s11 s12 hB hQ hF hpa
  conv => arg 2; whnf
  go_wp2_with fail
  refine (read_h HB.out.fs pa za).mono ?_
  rintro e w1 ⟨RA1, rn1, rc1, rfl, hrn1, hown1, hb1⟩
  have HB1 := Lib.hid (HB.out.below hb1)
  have hby := HF.out.by1 pa
  obtain ⟨L, hL⟩ : ∃ L, (S.readF pa).2.1 = L := ⟨_, rfl⟩
  obtain ⟨st, hst⟩ : ∃ st, (S.readF pa).2.2 = st := ⟨_, rfl⟩
  obtain ⟨en, hen⟩ : ∃ en, (S.readF pa).1 = en := ⟨_, rfl⟩
  have hLb : L.length ≤ 100000000 := by
    rw [← hL]; unfold Fs.readF
    split
    · simp
    · split
      · simp
      · exact hby
  rw [hL] at hrn1 hown1
  rw [hst, hen]
  have HL := Lib.hid hL
  have Hst := Lib.hid hst
  have Hen := Lib.hid hen
  have HO1 := Lib.hid hown1
  clear hb1 hL hst hen hown1
  go_wp2_with fail
  refine (qread_any HB1.out.q (by omega) pa za hby).mono ?_
  rintro e w2 ⟨RA2, rn2, rc2, rfl, hrn2, hown2, hb2⟩
  have HB2 := Lib.hid (HB1.out.below hb2)
  rw [HL.out] at hrn2 hown2
  rw [Hst.out, Hen.out]
  have hrr : rn2 = rn1 := by omega
  subst hrr
  have hLby : Bytes L := by rw [← HL.out]; exact HB2.out.q.rbytes pa
  have hba := own_bs9 (HO1.out.below hb2) hLby (show rn2 ≤ _ by omega)
  have hbb := own_bs9 hown2 hLby (show rn2 ≤ _ by omega)
  have hs1 := conv_str (P := Try.prog) (c := rc1) (src := 30) (dst := 9) Try.underlying30 Try.underlying5 Try.underlying9 hba
  have hs2 := conv_str (P := Try.prog) (c := rc2) (src := 30) (dst := 9) Try.underlying30 Try.underlying5 Try.underlying9 hbb
  clear hba hbb hrn1 hrn2 hown2 hb2 HO1 HB HB1 hLby
  go_wp2_with fail
  refine (stamp_h HB2.out.fs pb zb).mono ?_
  rintro e w' ⟨rfl, rfl⟩
  clear hs1 hs2
  obtain ⟨sb, hsb⟩ : ∃ sb, S.st pb = sb := ⟨_, rfl⟩
  have HSb := Lib.hid hsb
  rw [hsb]
  clear hsb
  go_wp2_with fail
  refine (qstamp_at HB2.out.q (by omega) pb).mono ?_
  rintro e w' ⟨rfl, rfl⟩
  rw [HSb.out]
  go_wp2_with fail
  refine (used_h HB2.out.fs).mono ?_
  rintro e w' ⟨rfl, rfl⟩
  obtain ⟨us, hus⟩ : ∃ us, S.used = us := ⟨_, rfl⟩
  have HUs := Lib.hid hus
  rw [hus]
  clear hus
  go_wp2_with fail
  refine (qused_at HB2.out.q (by omega) HF.out.u1).mono ?_
  rintro e w' ⟨rfl, rfl⟩
  rw [HUs.out]
  go_wp2_with fail
  refine (list_h HB2.out.fs ⟨#[]⟩ (by decide)).mono ?_
  rintro e w3 ⟨ks3, LA3, ln3, lc3, hks3, rfl, hln3, how3, hb3⟩
  have HB3 := Lib.hid (HB2.out.below hb3)
  have HKs3 := Lib.hid hks3
  have HLn3 := Lib.hid hln3
  have HOw3 := Lib.hid how3
  clear hb3 hks3 hln3 how3 HB2
  go_wp2_with fail
  refine (qlist_any HB3.out.q (by omega) ⟨#[]⟩ (by decide)).mono ?_
  rintro e w4 ⟨⟨xs4, LB4, ln4, lc4, hqs4, hnm4, rfl, hln4, how4, hxl4⟩, hb4⟩
  have HB4 := Lib.hid (HB3.out.below hb4)
  have HCall4 := Lib.hid (lists_any HB4.out.fs ⟨#[]⟩ (by decide) (by simp [nm12]) HKs3.out (c := lc3) (d := lc4) (w1 := w4) hqs4 hnm4 hxl4 (HOw3.out.below hb4) HLn3.out how4 hln4)
  clear hqs4 hnm4 hxl4 how4 hln4 hb4 HB3 HKs3 HLn3 HOw3
  go_wp2_with fail
  refine HCall4.out.mono ?_
  rintro e w5 ⟨rfl, hb5⟩
  have HB5 := Lib.hid (HB4.out.below hb5)
  clear hb5 HB4 HCall4
  go_wp2_with fail
  refine (list_h HB5.out.fs tmpN (by decide)).mono ?_
  rintro e w6 ⟨ks6, LA6, ln6, lc6, hks6, rfl, hln6, how6, hb6⟩
  have HB6 := Lib.hid (HB5.out.below hb6)
  have HKs6 := Lib.hid hks6
  have HLn6 := Lib.hid hln6
  have HOw6 := Lib.hid how6
  clear hb6 hks6 hln6 how6 HB5
  go_wp2_with fail
  refine (qlist_any HB6.out.q (by omega) tmpN (by decide)).mono ?_
  rintro e w7 ⟨⟨xs7, LB7, ln7, lc7, hqs7, hnm7, rfl, hln7, how7, hxl7⟩, hb7⟩
  have HB7 := Lib.hid (HB6.out.below hb7)
  have HCall7 := Lib.hid (lists_any HB7.out.fs tmpN (by decide) (by simp) HKs6.out (c := lc6) (d := lc7) (w1 := w7) hqs7 hnm7 hxl7 (HOw6.out.below hb7) HLn6.out how7 hln7)
  clear hqs7 hnm7 hxl7 how7 hln7 hb7 HB6 HKs6 HLn6 HOw6
  go_wp2_with fail
  refine HCall7.out.mono ?_
  rintro e w8 ⟨rfl, hb8⟩
  have HB8 := Lib.hid (HB7.out.below hb8)
  clear hb8 HB7 HCall7
  go_wp2_with fail
  refine (list_h HB8.out.fs pa za).mono ?_
  rintro e w9 ⟨ks9, LA9, ln9, lc9, hks9, rfl, hln9, how9, hb9⟩
  have HB9 := Lib.hid (HB8.out.below hb9)
  have HKs9 := Lib.hid hks9
  have HLn9 := Lib.hid hln9
  have HOw9 := Lib.hid how9
  clear hb9 hks9 hln9 how9 HB8
  go_wp2_with fail
  refine (qlist_any HB9.out.q (by omega) pa za).mono ?_
  rintro e w10 ⟨⟨xs10, LB10, ln10, lc10, hqs10, hnm10, rfl, hln10, how10, hxl10⟩, hb10⟩
  have HB10 := Lib.hid (HB9.out.below hb10)
  have HCall10 := Lib.hid (lists_any HB10.out.fs pa za (List.mem_cons_of_mem _ HPa.out) HKs9.out (c := lc9) (d := lc10) (w1 := w10) hqs10 hnm10 hxl10 (HOw9.out.below hb10) HLn9.out how10 hln10)
  clear hqs10 hnm10 hxl10 how10 hln10 hb10 HB9 HKs9 HLn9 HOw9
  go_wp2_with fail
  refine HCall10.out.mono ?_
  rintro e w11 ⟨rfl, hb11⟩
  have HB11 := Lib.hid (HB10.out.below hb11)
  clear hb11 HB10 HCall10
  go_wp2_with fail
  exact HQ.out _ _ ⟨rfl, ⟨rfl, rfl, rfl, rfl, rfl⟩, rfl, k, S, hk, HB11.out⟩
end Go.Proofs.Ytkbgedaogfcdnaa
