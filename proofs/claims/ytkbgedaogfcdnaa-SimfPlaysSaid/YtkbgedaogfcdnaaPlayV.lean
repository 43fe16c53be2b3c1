/- SimfPlays: a round, and the law. -/
import Derived.Test.YtkbgedaogfcdnaaPlayU
namespace Go.Proofs.Ytkbgedaogfcdnaa
set_option linter.unusedSimpArgs false
set_option linter.unusedVariables false
open Go.RowKit
open Crc (Bytes)
section
variable {w W : World} {fb mb qb : Nat} {A : Option Addr} {n cp : Nat} {RA : Option Addr} {rn rc i k : Nat} {x : Int} {pa pb : ByteArray} {t : Array Value} {S : Fs} {Q : Exit → Act → World → Prop}
set_option maxRecDepth 100000 in
set_option maxHeartbeats 16000000 in
theorem play_u7 (sl : PlayS ⟨w, fb, mb, qb, A, n, cp, RA, rn, rc⟩ t) (s9 : t.getD 9 undef = .int .i64 i) (hi : i < n) (h120 : i < 120)
    (hQ : ∀ t', PlayS ⟨w, fb, mb, qb, A, n, cp, RA, rn, rc⟩ t' → t'.getD 9 undef = .int .i64 i → Q .normal ⟨t', []⟩ W) : Code.wp Try.prog (fstOf playBody) Q ⟨t, []⟩ W := by
  have HQ := Lib.hid hQ
  obtain ⟨v, rfl⟩ := frameP t sl.sz _ _ _ _ _ sl.s1 sl.s2 sl.s7 sl.s8 s9
  clear hQ sl s9
  have hlt : (i : Int) < (n : Int) := by omega
  have hlt2 : (i : Int) < 120 := by omega
  conv => arg 2; whnf
  go_wp2_with fail
  exact HQ.out _ ⟨rfl, rfl, rfl, rfl, rfl⟩ rfl
set_option maxRecDepth 100000 in
set_option maxHeartbeats 16000000 in
theorem play_u8 (sl : PlayS ⟨w, fb, mb, qb, A, n, cp, RA, rn, rc⟩ t) (s9 : t.getD 9 undef = .int .i64 i) (h120 : i ≤ 120)
    (hQ : ∀ t', PlayS ⟨w, fb, mb, qb, A, n, cp, RA, rn, rc⟩ t' → t'.getD 9 undef = .int .i64 ((i + 1 : Nat) : Int) → Q .normal ⟨t', []⟩ W) : Code.wp Try.prog (sndOf (sndOf playBody)) Q ⟨t, []⟩ W := by
  have HQ := Lib.hid hQ
  obtain ⟨v, rfl⟩ := frameP t sl.sz _ _ _ _ _ sl.s1 sl.s2 sl.s7 sl.s8 s9
  clear hQ sl s9
  have hw1 : IntKind.i64.wrap ((i : Int) + 1) = ((i + 1 : Nat) : Int) := by rw [IntKind.wrap_i64]; omega
  conv => arg 2; whnf
  go_wp2_with fail
  exact HQ.out _ ⟨rfl, rfl, rfl, rfl, rfl⟩ rfl
set_option maxRecDepth 100000 in
set_option maxHeartbeats 16000000 in
theorem play_u11 (sl : PlayS ⟨w, fb, mb, qb, A, n, cp, RA, rn, rc⟩ t) (s9 : t.getD 9 undef = .int .i64 i) (s10 : t.getD 10 undef = .int .i64 x) (s11 : t.getD 11 undef = .string pa) (s12 : t.getD 12 undef = .string pb)
    (hQ : ∀ t', PlayS ⟨w, fb, mb, qb, A, n, cp, RA, rn, rc⟩ t' → t'.getD 9 undef = .int .i64 i → t'.getD 10 undef = .int .i64 x → t'.getD 11 undef = .string pa → t'.getD 12 undef = .string pb → t'.getD 13 undef = .slice none 0 0 → Q .normal ⟨t', []⟩ W) : Code.wp Try.prog playU11 Q ⟨t, []⟩ W := by
  have HQ := Lib.hid hQ
  obtain ⟨x13, s13⟩ : ∃ y, t.getD 13 undef = y := ⟨_, rfl⟩
  obtain ⟨v, rfl⟩ := frameR t sl.sz _ _ _ _ _ _ _ _ _ sl.s1 sl.s2 sl.s7 sl.s8 s9 s10 s11 s12 s13
  clear hQ sl s9 s10 s11 s12 s13
  conv => arg 2; whnf
  go_wp2_with fail
  exact HQ.out _ ⟨rfl, rfl, rfl, rfl, rfl⟩ rfl rfl rfl rfl rfl
set_option maxRecDepth 100000 in
set_option maxHeartbeats 16000000 in
theorem play_u14 {X : Option Addr} {m cx : Nat} (sl : PlayS ⟨w, fb, mb, qb, A, n, cp, RA, rn, rc⟩ t) (s9 : t.getD 9 undef = .int .i64 i) (s10 : t.getD 10 undef = .int .i64 x) (s11 : t.getD 11 undef = .string pa) (s12 : t.getD 12 undef = .string pb) (s13 : t.getD 13 undef = .slice X m cx)
    (hQ : m ≤ 300 → ∀ t', PlayS ⟨w, fb, mb, qb, A, n, cp, RA, rn, rc⟩ t' → t'.getD 9 undef = .int .i64 i → t'.getD 10 undef = .int .i64 x → t'.getD 11 undef = .string pa → t'.getD 12 undef = .string pb → t'.getD 13 undef = .slice X m cx → Q .normal ⟨t', []⟩ W)
    (hR : ∀ a' W', a'.defers = [] → a'.tmps.getD 6 undef = .bool true → Below W.heap.size W W' → Q .ret a' W') : Code.wp Try.prog playU14 Q ⟨t, []⟩ W := by
  have HQ := Lib.hid hQ
  have HR := Lib.hid hR
  obtain ⟨v, rfl⟩ := frameR t sl.sz _ _ _ _ _ _ _ _ _ sl.s1 sl.s2 sl.s7 sl.s8 s9 s10 s11 s12 s13
  clear hQ hR sl s9 s10 s11 s12 s13
  by_cases h3 : m ≤ 300
  · have h3' : ¬ (300 : Int) < (m : Int) := by omega
    conv => arg 2; whnf
    go_wp2_with fail
    exact HQ.out h3 _ ⟨rfl, rfl, rfl, rfl, rfl⟩ rfl rfl rfl rfl rfl
  · have h3' : (300 : Int) < (m : Int) := by omega
    conv => arg 2; whnf
    go_wp2_with fail
    refine (awake9_any _).mono ?_
    rintro e w1 ⟨rfl, hb1⟩
    have HB1 := Lib.hid hb1
    clear hb1
    go_wp2_with fail
    exact HR.out _ _ rfl rfl HB1.out
set_option maxRecDepth 100000 in
set_option maxHeartbeats 16000000 in
theorem play_u16 {X : Option Addr} {m cx : Nat} (sl : PlayS ⟨w, fb, mb, qb, A, n, cp, RA, rn, rc⟩ t) (s9 : t.getD 9 undef = .int .i64 i) (s10 : t.getD 10 undef = .int .i64 x) (s11 : t.getD 11 undef = .string pa) (s12 : t.getD 12 undef = .string pb) (s13 : t.getD 13 undef = .slice X m cx)
    (hQ : ∀ t', PlayS ⟨w, fb, mb, qb, A, n, cp, RA, rn, rc⟩ t' → t'.getD 9 undef = .int .i64 i → t'.getD 10 undef = .int .i64 x → t'.getD 11 undef = .string pa → t'.getD 12 undef = .string pb → t'.getD 13 undef = .slice X m cx → t'.getD 14 undef = .slice none 0 0 → Q .normal ⟨t', []⟩ W) : Code.wp Try.prog playU16 Q ⟨t, []⟩ W := by
  have HQ := Lib.hid hQ
  obtain ⟨v, rfl⟩ := frameR t sl.sz _ _ _ _ _ _ _ _ _ sl.s1 sl.s2 sl.s7 sl.s8 s9 s10 s11 s12 s13
  clear hQ sl s9 s10 s11 s12 s13
  conv => arg 2; whnf
  go_wp2_with fail
  exact HQ.out _ ⟨rfl, rfl, rfl, rfl, rfl⟩ rfl rfl rfl rfl rfl rfl
theorem play_c1 {ad : Addr} (sl : PlayS ⟨w, fb, mb, qb, some ad, n, cp, RA, rn, rc⟩ t) (s9 : t.getD 9 undef = .int .i64 i) (hi : i < n) (h120 : i < 120) (hc : W.cell? (ad.add i) = some (.int .i64 x)) (hR : RowsIn w RA rn) (hk : k ≤ i) (hB : Both w W fb mb qb S k)
    (hQ : ∀ a' W', PlayE ⟨w, fb, mb, qb, some ad, n, cp, RA, rn, rc⟩ i a' W' → Q .normal a' W')
    (hRet : ∀ a' W', a'.defers = [] → a'.tmps.getD 6 undef = .bool true → Below w.heap.size w W' → Q .ret a' W') : Code.wp Try.prog playC1 Q ⟨t, []⟩ W := by
  rw [c1_eq]
  refine wp_seq (play_u9 sl s9 hi hc ?_)
  intro t1 sl1 a9 a10
  refine wp_seq (play_u10 sl1 a9 a10 ?_)
  intro t2 W2 pa pb sl2 b9 b10 b11 b12 ha hb za zb bel
  have hB2 := hB.below bel
  refine wp_seq (play_u11 sl2 b9 b10 b11 b12 ?_)
  intro t3 sl3 c9 c10 c11 c12 c13
  refine wp_seq (play_u12 sl3 c9 c10 c11 c12 c13 hR hB2.fs.bel ?_)
  intro t4 X m cx l2 sl4 d9 d10 d11 d12 d13 hm hl
  refine wp_seq (play_u14 sl4 d9 d10 d11 d12 d13 ?_ (fun a' W' h1 h2 h3 => hRet a' W' h1 h2 (hB2.fs.bel.trans (h3.mono hB2.fs.bel.size))))
  intro h3 t5 sl5 e9 e10 e11 e12 e13
  refine wp_seq (play_u16 sl5 e9 e10 e11 e12 e13 ?_)
  intro t6 sl6 f9 f10 f11 f12 f13 f14
  have hbs := hl h3
  have H : PlayI ⟨w, fb, mb, qb, some ad, n, cp, RA, rn, rc⟩ i x pa pb X m cx l2 none 0 0 w.heap.size [] t6 k S W2 :=
    ⟨sl6, f9, f10, f11, f12, f13, f14, ha, hb, za, zb, by omega, hk, hB2, hbs.below hB2.fs.bel, h3, hm, fun ad hA h0 => hbs.lt ad hA h0, ⟨Own.nil _ _ _ _, rfl, (fun x hx => by cases hx), by omega⟩⟩
  refine wp_seq (play_g H ?_)
  rintro ⟨t7, df⟩ W7 ⟨Ag, kg, cg, gs, h1, H7⟩
  simp only at h1
  subst h1
  exact play_rest H7 hQ
end
end Go.Proofs.Ytkbgedaogfcdnaa
