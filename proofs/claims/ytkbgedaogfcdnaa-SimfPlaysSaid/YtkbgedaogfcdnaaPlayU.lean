/- SimfPlays: a round ahead of its guards. -/
import Derived.Test.YtkbgedaogfcdnaaPlayG
namespace Go.Proofs.Ytkbgedaogfcdnaa
set_option linter.unusedSimpArgs false
set_option linter.unusedVariables false
open Go.RowKit
open Crc (Bytes)
/-- The round's first statements. -/
noncomputable def playU9 : Code := fstOf playC1
noncomputable def playU10 : Code := fstOf (sndOf playC1)
noncomputable def playU11 : Code := fstOf (sndOf (sndOf playC1))
noncomputable def playU12 : Code := fstOf (sndOf (sndOf (sndOf playC1)))
noncomputable def playU14 : Code := fstOf (sndOf (sndOf (sndOf (sndOf playC1))))
noncomputable def playU16 : Code := fstOf (sndOf (sndOf (sndOf (sndOf (sndOf playC1)))))
theorem c1_eq : playC1 = .seq playU9 (.seq playU10 (.seq playU11 (.seq playU12 (.seq playU14 (.seq playU16 (.seq playG playRest)))))) := by kernel_rfl
theorem body_eq : playBody = .seq (fstOf playBody) (.seq (.block 1 playC1) (sndOf (sndOf playBody))) := by kernel_rfl
section
variable {c : PlayC} {w W : World} {fb mb qb : Nat} {A : Option Addr} {n cp : Nat} {RA : Option Addr} {rn rc i : Nat} {x : Int} {pa pb : ByteArray} {t : Array Value} {Q : Exit → Act → World → Prop}
set_option maxRecDepth 100000 in
set_option maxHeartbeats 16000000 in
theorem play_u9 {ad : Addr} (sl : PlayS ⟨w, fb, mb, qb, some ad, n, cp, RA, rn, rc⟩ t) (s9 : t.getD 9 undef = .int .i64 i) (hi : i < n) (hc : W.cell? (ad.add i) = some (.int .i64 x))
    (hQ : ∀ t', PlayS ⟨w, fb, mb, qb, some ad, n, cp, RA, rn, rc⟩ t' → t'.getD 9 undef = .int .i64 i → t'.getD 10 undef = .int .i64 x → Q .normal ⟨t', []⟩ W) : Code.wp Try.prog playU9 Q ⟨t, []⟩ W := by
  have HQ := Lib.hid hQ
  obtain ⟨v, rfl⟩ := frameP t sl.sz _ _ _ _ _ sl.s1 sl.s2 sl.s7 sl.s8 s9
  clear hQ sl s9
  have hlt : (i : Int) < (n : Int) := by omega
  conv => arg 2; whnf
  go_wp2_with fail
  exact HQ.out _ ⟨rfl, rfl, rfl, rfl, rfl⟩ rfl rfl
set_option maxRecDepth 100000 in
set_option maxHeartbeats 16000000 in
theorem play_u10 (sl : PlayS ⟨w, fb, mb, qb, A, n, cp, RA, rn, rc⟩ t) (s9 : t.getD 9 undef = .int .i64 i) (s10 : t.getD 10 undef = .int .i64 x)
    (hQ : ∀ t' W' pa pb, PlayS ⟨w, fb, mb, qb, A, n, cp, RA, rn, rc⟩ t' → t'.getD 9 undef = .int .i64 i → t'.getD 10 undef = .int .i64 x → t'.getD 11 undef = .string pa → t'.getD 12 undef = .string pb → pa ∈ nm12 → pb ∈ nm12 → pa.size ≤ 1000 → pb.size ≤ 1000 → Below W.heap.size W W' → Q .normal ⟨t', []⟩ W') : Code.wp Try.prog playU10 Q ⟨t, []⟩ W := by
  have HQ := Lib.hid hQ
  obtain ⟨x11, s11⟩ : ∃ y, t.getD 11 undef = y := ⟨_, rfl⟩
  obtain ⟨x12, s12⟩ : ∃ y, t.getD 12 undef = y := ⟨_, rfl⟩
  obtain ⟨x13, s13⟩ : ∃ y, t.getD 13 undef = y := ⟨_, rfl⟩
  obtain ⟨v, rfl⟩ := frameR t sl.sz _ _ _ _ _ _ _ _ _ sl.s1 sl.s2 sl.s7 sl.s8 s9 s10 s11 s12 s13
  clear hQ sl s9 s10 s11 s12 s13
  conv => arg 2; whnf
  go_wp2_with fail
  refine (name_any _ _).mono ?_
  rintro e w1 ⟨rfl, hb1⟩
  have HB1 := Lib.hid hb1
  clear hb1
  generalize nmIx (x / 16) = ka
  have H1 := Lib.hid (nmOf_in ka)
  have H1z := Lib.hid (nmOf_size ka)
  generalize nmOf ka = pa at *
  go_wp2_with fail
  refine (name_any _ _).mono ?_
  rintro e w2 ⟨rfl, hb2⟩
  have HB2 := Lib.hid (HB1.out.trans (hb2.mono HB1.out.size))
  clear hb2
  generalize nmIx (x / 4096) = kb
  have H2 := Lib.hid (nmOf_in kb)
  have H2z := Lib.hid (nmOf_size kb)
  generalize nmOf kb = pb at *
  go_wp2_with fail
  exact HQ.out _ _ pa pb ⟨rfl, rfl, rfl, rfl, rfl⟩ rfl rfl rfl rfl H1.out H2.out H1z.out H2z.out HB2.out
set_option maxRecDepth 100000 in
set_option maxHeartbeats 16000000 in
theorem play_u12 (sl : PlayS ⟨w, fb, mb, qb, A, n, cp, RA, rn, rc⟩ t) (s9 : t.getD 9 undef = .int .i64 i) (s10 : t.getD 10 undef = .int .i64 x) (s11 : t.getD 11 undef = .string pa) (s12 : t.getD 12 undef = .string pb) (s13 : t.getD 13 undef = .slice none 0 0) (hR : RowsIn w RA rn) (hb : Below w.heap.size w W)
    (hQ : ∀ t' X m cx l2, PlayS ⟨w, fb, mb, qb, A, n, cp, RA, rn, rc⟩ t' → t'.getD 9 undef = .int .i64 i → t'.getD 10 undef = .int .i64 x → t'.getD 11 undef = .string pa → t'.getD 12 undef = .string pb → t'.getD 13 undef = .slice X m cx → m ≤ cx → (m ≤ 300 → Bs w X m l2) → Q .normal ⟨t', []⟩ W) : Code.wp Try.prog playU12 Q ⟨t, []⟩ W := by
  have HQ := Lib.hid hQ
  obtain ⟨v, rfl⟩ := frameR t sl.sz _ _ _ _ _ _ _ _ _ sl.s1 sl.s2 sl.s7 sl.s8 s9 s10 s11 s12 s13
  clear hQ sl s9 s10 s11 s12 s13
  by_cases h0 : 0 < rn
  · have h0' : (0 : Int) < (rn : Int) := by omega
    obtain ⟨p, hp, hp1⟩ := maskN 8 (by decide) (x / 65536) 255 (by decide)
    have hz0 : ((rn : Int) == 0) = false := by rw [beq_eq_false_iff_ne]; omega
    obtain ⟨kk, hkk, hkl⟩ : ∃ kk : Nat, (p : Int).tmod (rn : Int) = (kk : Int) ∧ kk < rn := ⟨p % rn, by rw [Int.tmod_eq_emod_of_nonneg (by omega), Int.natCast_emod], Nat.mod_lt _ h0⟩
    obtain ⟨ad, X, m, cx, rfl, hc, hm, l, hl⟩ := hR.get kk hkl
    have hlt := World.block_lt_of_cell? w (ad.add kk) hc
    have hc' : W.cell? (ad.add kk) = some (.slice X m cx) := (World.cell?_of_block (hb.block _ hlt)).trans hc
    have hkk2 : (kk : Int) < (rn : Int) := by omega
    have HL := Lib.hid hl
    clear hR hb hc hlt hl
    conv => arg 2; whnf
    go_wp2_with fail
    exact HQ.out _ X m cx l ⟨rfl, rfl, rfl, rfl, rfl⟩ rfl rfl rfl rfl rfl hm HL.out
  · have h0' : ¬ (0 : Int) < (rn : Int) := by omega
    clear hR hb
    conv => arg 2; whnf
    go_wp2_with fail
    exact HQ.out _ none 0 0 [] ⟨rfl, rfl, rfl, rfl, rfl⟩ rfl rfl rfl rfl rfl (Nat.le_refl _) (fun _ => Bs.nil _ _)
end
end Go.Proofs.Ytkbgedaogfcdnaa
