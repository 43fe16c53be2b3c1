/- The files (simf.FS): what a heap says of them; lookups. -/
import Derived.Test.YtkbgedaogfcdnaaRead
import Derived.Test.YtkbgedaogfcdnaaName
import Derived.Maps.OwnSet
namespace Go.Proofs.Ytkbgedaogfcdnaa
set_option linter.unusedSimpArgs false
set_option linter.unusedVariables false
open Go.RowKit
open Crc (Bytes)

/-- The files, as a plain thing. -/
structure Fs where
  room : Int
  used : Int
  last : Int
  cut : Int
  cuts : Bool
  m : List UInt8 → Option (List Int × Int)
def Fs.by (S : Fs) (s : ByteArray) : List Int := match S.m s.data.toList with | none => [] | some x => x.1
def Fs.st (S : Fs) (s : ByteArray) : Int := match S.m s.data.toList with | none => 0 | some x => x.2
def Fs.has (S : Fs) (s : ByteArray) : Bool := (S.m s.data.toList).isSome
def RV : Value → Option (DataW Value × List MemPlace) := fun v => some (.held v, [])
def fileV (A : Option Addr) (n c : Nat) (st : Int) : Value := .agg #[.slice A n c, .int .i64 st]

structure FSAt (w : World) (fb : Nat) (S : Fs) (mb n : Nat) (D : DataW Value) : Prop where
  blk : Blk w fb 52 [.int .i64 S.room, .int .i64 S.used, .int .i64 S.last, .bool S.cuts, .int .i64 S.cut, .map (some mb)]
  own : w.ownsMap Try.prog 9 RV mb n D
  no : ∀ key, S.m key = none → Maps.has D (.string key) = false
  yes : ∀ key l st, S.m key = some (l, st) → Maps.has D (.string key) = true ∧ ∃ A k c, (∀ z, D.atKey (.string key) z = .held (fileV A k c st)) ∧ Bs w A k l ∧ k ≤ c ∧ U8 w A k

/-- No file's bytes lie in block g. -/
def Free (S : Fs) (D : DataW Value) (g : Nat) : Prop := ∀ key l st, S.m key = some (l, st) → ∀ A k c, (∀ z, D.atKey (.string key) z = .held (fileV A k c st)) → ∀ ad, A = some ad → 0 < k → ad.block ≠ g
theorem fileV_inj {A B : Option Addr} {n m c d : Nat} {s t : Int} (h : fileV A n c s = fileV B m d t) : A = B ∧ n = m ∧ c = d ∧ s = t := by
  unfold fileV at h
  simp only [Value.agg.injEq, Array.mk.injEq, List.cons.injEq, Value.slice.injEq, Value.int.injEq] at h
  obtain ⟨⟨a, b, c⟩, ⟨-, d⟩, -⟩ := h
  exact ⟨a, b, c, d⟩
theorem Free.put {S : Fs} {D : DataW Value} {g : Nat} (h : Free S D g) (hD : Maps.IsMap D) (s : ByteArray) (l : List Int) (st : Int) (A : Option Addr) (k c : Nat) (hA : ∀ ad, A = some ad → 0 < k → ad.block ≠ g) {m' : List UInt8 → Option (List Int × Int)} (hm : m' = fun key => if key = s.data.toList then some (l, st) else S.m key) (S' : Fs) (hS : S'.m = m') :
    Free S' (D.put (.string s.data.toList) (.held (fileV A k c st))) g := by
  intro key l' st' hk B k' c' hB
  rw [hS, hm] at hk
  simp only at hk
  by_cases he : key = s.data.toList
  · subst he
    have hkl : WideAt.IsKeyLit (Lit.string s.data.toList) := trivial
    have e := (Maps.atKey_put_same hD hkl (.held (fileV A k c st)) (.held (fileV A k c st))).symm.trans (hB _)
    have e2 := DataW.held.inj e
    obtain ⟨rfl, rfl, -, -⟩ := fileV_inj e2
    exact hA
  · rw [if_neg he] at hk
    refine h key l' st' hk B k' c' fun z => ?_
    rw [← hB z, Maps.atKey_put_other (fun e => he (by injection e))]
theorem Free.del {S : Fs} {D : DataW Value} {g : Nat} (h : Free S D g) (s : ByteArray) (S' : Fs) (hS : S'.m = fun key => if key = s.data.toList then none else S.m key) : Free S' (D.del (.string s.data.toList)) g := by
  intro key l' st' hk B k' c' hB
  rw [hS] at hk
  simp only at hk
  by_cases he : key = s.data.toList
  · rw [if_pos he] at hk; cases hk
  · rw [if_neg he] at hk
    refine h key l' st' hk B k' c' fun z => ?_
    rw [← hB z, Maps.atKey_del_other (fun e => he (by injection e))]
theorem strK : Maps.Keyed Try.prog 9 := Maps.string_keyed Try.underlying9
theorem fileZ (w : World) : (zeroValue 66).run Try.prog w = .ok (fileV none 0 0 0) w := by kernel_rfl
theorem fieldB (w : World) (A : Option Addr) (n c : Nat) (st : Int) : (Instr.field 66 (.agg #[.slice A n c, .int .i64 st]) 0).run Try.prog w = .ok (.slice A n c) w := by kernel_rfl
theorem fieldS (w : World) (A : Option Addr) (n c : Nat) (st : Int) : (Instr.field 66 (.agg #[.slice A n c, .int .i64 st]) 1).run Try.prog w = .ok (.int .i64 st) w := by kernel_rfl
theorem keyS (s : ByteArray) (hs : s.size ≤ maxLen) : keyOf Try.prog 9 (.string s) = some (.string s.data.toList) := WideMaps.keyOf_string_mk Try.underlying9 hs

theorem FSAt.look {w : World} {fb mb n : Nat} {S : Fs} {D : DataW Value} (h : FSAt w fb S mb n D) (s : ByteArray) (hs : s.size ≤ maxLen) :
    ∃ A k c, (Instr.lookup 50 (.map (some mb)) (.string s) false).run Try.prog w = .ok (fileV A k c (S.st s)) w ∧ Bs w A k (S.by s) ∧ k ≤ c ∧ U8 w A k := by
  obtain ⟨v, ps, hrun, hv⟩ := h.own.lookup strK Try.underlying50 (fileZ w) (zd := .held (fileV none 0 0 0)) (zp := []) rfl (keyS s hs)
  cases hm : S.m s.data.toList with
  | none =>
    rw [Maps.atKey_of_not_has (h.no _ hm)] at hv
    simp only [RV, Option.some.injEq, Prod.mk.injEq, DataW.held.injEq] at hv
    refine ⟨none, 0, 0, ?_, ?_, Nat.le_refl _, fun ad hA => by cases hA⟩
    · rw [hrun, hv.1]; simp [Fs.st, hm]
    · simp only [Fs.by, hm]; exact Bs.nil _ _
  | some x =>
    obtain ⟨l, st⟩ := x
    obtain ⟨_, A, k, c, hat, hb, hc, hu⟩ := h.yes _ l st hm
    rw [hat] at hv
    simp only [RV, Option.some.injEq, Prod.mk.injEq, DataW.held.injEq] at hv
    refine ⟨A, k, c, ?_, ?_, hc, hu⟩
    · rw [hrun, hv.1]; simp [Fs.st, hm]
    · simp only [Fs.by, hm]; exact hb
/-- The same, of a file's block too. -/
theorem FSAt.look2 {w : World} {fb mb n : Nat} {S : Fs} {D : DataW Value} (h : FSAt w fb S mb n D) (s : ByteArray) (hs : s.size ≤ maxLen) :
    ∃ A k c, (Instr.lookup 50 (.map (some mb)) (.string s) false).run Try.prog w = .ok (fileV A k c (S.st s)) w ∧ Bs w A k (S.by s) ∧ k ≤ c ∧ U8 w A k ∧ ∀ g, Free S D g → ∀ ad, A = some ad → 0 < k → ad.block ≠ g := by
  obtain ⟨v, ps, hrun, hv⟩ := h.own.lookup strK Try.underlying50 (fileZ w) (zd := .held (fileV none 0 0 0)) (zp := []) rfl (keyS s hs)
  cases hm : S.m s.data.toList with
  | none =>
    rw [Maps.atKey_of_not_has (h.no _ hm)] at hv
    simp only [RV, Option.some.injEq, Prod.mk.injEq, DataW.held.injEq] at hv
    refine ⟨none, 0, 0, ?_, ?_, Nat.le_refl _, (fun ad hA => by cases hA), (fun g _ ad hA => by cases hA)⟩
    · rw [hrun, hv.1]; simp [Fs.st, hm]
    · simp only [Fs.by, hm]; exact Bs.nil _ _
  | some x =>
    obtain ⟨l, st⟩ := x
    obtain ⟨_, A, k, c, hat, hb, hc, hu⟩ := h.yes _ l st hm
    have hat' := hat
    rw [hat] at hv
    simp only [RV, Option.some.injEq, Prod.mk.injEq, DataW.held.injEq] at hv
    refine ⟨A, k, c, ?_, ?_, hc, hu, fun g hf => hf _ _ _ hm A k c hat'⟩
    · rw [hrun, hv.1]; simp [Fs.st, hm]
    · simp only [Fs.by, hm]; exact hb
theorem FSAt.look_ok {w : World} {fb mb n : Nat} {S : Fs} {D : DataW Value} (h : FSAt w fb S mb n D) (s : ByteArray) (hs : s.size ≤ maxLen) :
    ∃ A k c, (Instr.lookup 50 (.map (some mb)) (.string s) true).run Try.prog w = .ok (.tuple #[fileV A k c (S.st s), .bool (S.has s)]) w ∧ Bs w A k (S.by s) ∧ k ≤ c ∧ U8 w A k := by
  obtain ⟨v, ps, hrun, hv⟩ := h.own.look_ok strK Try.underlying50 (fileZ w) (zd := .held (fileV none 0 0 0)) (zp := []) rfl (keyS s hs)
  cases hm : S.m s.data.toList with
  | none =>
    rw [Maps.atKey_of_not_has (h.no _ hm)] at hv
    simp only [RV, Option.some.injEq, Prod.mk.injEq, DataW.held.injEq] at hv
    refine ⟨none, 0, 0, ?_, ?_, Nat.le_refl _, fun ad hA => by cases hA⟩
    · rw [hrun, hv.1, h.no _ hm]; simp [Fs.st, Fs.has, hm]
    · simp only [Fs.by, hm]; exact Bs.nil _ _
  | some x =>
    obtain ⟨l, st⟩ := x
    obtain ⟨hh, A, k, c, hat, hb, hc, hu⟩ := h.yes _ l st hm
    rw [hat] at hv
    simp only [RV, Option.some.injEq, Prod.mk.injEq, DataW.held.injEq] at hv
    refine ⟨A, k, c, ?_, ?_, hc, hu⟩
    · rw [hrun, hv.1, hh]; simp [Fs.st, Fs.has, hm]
    · simp only [Fs.by, hm]; exact hb

section
variable {w w' : World} {fb mb n : Nat} {S : Fs} {D : DataW Value}
theorem FSAt.below (h : FSAt w fb S mb n D) (hb : Below w.heap.size w w') : FSAt w' fb S mb n D := by
  refine ⟨h.blk.below hb, ?_, h.no, fun key l st hm => ?_⟩
  · obtain ⟨es, clock, h1, r⟩ := h.own
    exact ⟨es, clock, (hb.block mb h.own.lt).trans h1, r⟩
  · obtain ⟨h1, A, k, c, h2, h3, h4, h5⟩ := h.yes key l st hm
    exact ⟨h1, A, k, c, h2, h3.below hb, h4, h5.below hb⟩
theorem FSAt.alloc (h : FSAt w fb S mb n D) {o : Obj} : FSAt (w.alloc o) fb S mb n D := h.below ((Below.refl _ _).alloc (Nat.le_refl _) o)
theorem FSAt.drew (h : FSAt w fb S mb n D) : FSAt w.drew fb S mb n D := h.below (Below.refl _ _).drew
theorem FSAt.drewN (h : FSAt w fb S mb n D) {k : Nat} : FSAt (w.drewN k) fb S mb n D := h.below (bl_drewN (Below.refl _ _) k)
theorem FSAt.only {bs : List Nat} (h : FSAt w fb S mb n D) (ho : Only bs w w') (hg : fb ∉ bs) (hm : mb ∉ bs) (hb : ∀ b ∈ bs, ∃ t cs, Blk w b t cs ∧ t ≠ 5) : FSAt w' fb S mb n D := by
  refine ⟨h.blk.only ho hg, ?_, h.no, fun key l st hkm => ?_⟩
  · obtain ⟨es, clock, h1, r⟩ := h.own
    exact ⟨es, clock, (ho.block mb h.own.lt hm).trans h1, r⟩
  · obtain ⟨h1, A, k, c, h2, h3, h4, h5⟩ := h.yes key l st hkm
    have hn : ∀ ad, A = some ad → 0 < k → ad.block ∉ bs := fun ad hA h0 hin => by
      obtain ⟨t, cs, hbk, ht⟩ := hb _ hin
      exact h5.ne hbk ht ad hA h0 rfl
    refine ⟨h1, A, k, c, h2, h3.only ho hn, h4, h5.keep fun ad hA h0 => ?_⟩
    exact ho.block ad.block (h5.lt ad hA h0) (hn ad hA h0)
end

set_option maxRecDepth 100000 in
set_option maxHeartbeats 1000000 in
theorem stamp_any {w : World} {fb mb n : Nat} {S : Fs} {D : DataW Value} (s : ByteArray) (hs : s.size ≤ maxLen) (h : FSAt w fb S mb n D) :
    Calls Try.prog 25 #[.pointer (some ⟨fb, 0, none⟩), .string s] w fun e w' => e = .returned (.int .i64 (S.st s)) ∧ w = w' := by
  obtain ⟨A, k, c, hrun, _, _, _⟩ := h.look s hs
  have c5 : w.cell? ⟨fb, 5, none⟩ = some (.map (some mb)) := h.blk.cell 5
  have f0 := fieldB
  have f1 := fieldS
  unfold fileV at hrun
  clear h
  go_enter Try.func25, Try.ntmps25
  go_wp2_with fail
  go_ret
  exact ⟨rfl, rfl⟩
set_option maxHeartbeats 1000000 in
theorem there_any {w : World} {fb mb n : Nat} {S : Fs} {D : DataW Value} (s : ByteArray) (hs : s.size ≤ maxLen) (h : FSAt w fb S mb n D) :
    Calls Try.prog 34 #[.pointer (some ⟨fb, 0, none⟩), .string s] w fun e w' => e = .returned (.bool (S.has s)) ∧ Below w.heap.size w w' := by
  obtain ⟨A, k, c, hrun, _, _, _⟩ := h.look_ok s hs
  have c5 : w.cell? ⟨fb, 5, none⟩ = some (.map (some mb)) := h.blk.cell 5
  have f0 := fieldB
  have f1 := fieldS
  unfold fileV at hrun
  clear h
  go_enter Try.func34, Try.ntmps34
  go_wp2_with fail
  go_ret
  exact ⟨rfl, by (repeat (first | assumption | exact Below.refl _ _ | (with_reducible apply Below.drew) | (with_reducible apply bl_drewN) | (with_reducible apply bl_alloc) | (with_reducible refine bl_then ?_ (by assumption))))⟩

/-- Whether a file's bytes go in. -/
def Fs.fits (S : Fs) (s : ByteArray) (n : Nat) : Bool := decide ((n : Int) - ((S.by s).length : Int) ≤ 0) || decide (S.used + ((n : Int) - ((S.by s).length : Int)) ≤ S.room)
/-- Bounds that hold along a law. -/
structure Fs.ok (S : Fs) (U : Int) : Prop where
  u0 : -U ≤ S.used
  u1 : S.used ≤ U
  r0 : 0 ≤ S.room
  r1 : S.room ≤ 1073741824
  l0 : 0 ≤ S.last
  l1 : S.last ≤ U
  U1 : U ≤ 70368744177664
  by1 : ∀ s, ((S.by s).length : Int) ≤ U
set_option maxRecDepth 100000 in
set_option maxHeartbeats 1000000 in
theorem fits_any {w : World} {fb mb n : Nat} {S : Fs} {D : DataW Value} {U : Int} (s : ByteArray) (k : Nat) (hs : s.size ≤ maxLen) (hk : k ≤ 70368744177664) (ho : S.ok U) (h : FSAt w fb S mb n D) :
    Calls Try.prog 35 #[.pointer (some ⟨fb, 0, none⟩), .string s, .int .i64 k] w fun e w' => e = .returned (.bool (S.fits s k)) ∧ Below w.heap.size w w' := by
  obtain ⟨A, m, c, hrun, hbs, hmc, _⟩ := h.look s hs
  have c5 : w.cell? ⟨fb, 5, none⟩ = some (.map (some mb)) := h.blk.cell 5
  have c0 : w.cell? ⟨fb, 0, none⟩ = some (.int .i64 S.room) := h.blk.cell 0
  have c1 : w.cell? ⟨fb, 1, none⟩ = some (.int .i64 S.used) := h.blk.cell 1
  have hl := hbs.len
  have hby := ho.by1 s
  have o1 := ho.u0
  have o2 := ho.u1
  have o3 := ho.U1
  rw [hl] at hby
  have Hf := Lib.hid (show S.fits s k = (decide ((k : Int) - (m : Int) ≤ 0) || decide (S.used + ((k : Int) - (m : Int)) ≤ S.room)) by unfold Fs.fits; rw [hl])
  obtain ⟨v, hv⟩ : ∃ v : Int, (k : Int) - (m : Int) = v := ⟨_, rfl⟩
  have hw : IntKind.i64.wrap v = v := by rw [IntKind.wrap_i64]; omega
  have hw2 : IntKind.i64.wrap (S.used + v) = S.used + v := by rw [IntKind.wrap_i64]; omega
  rw [hv] at Hf
  obtain ⟨us, hus⟩ : ∃ v : Int, S.used = v := ⟨_, rfl⟩
  obtain ⟨ro, hro⟩ : ∃ v : Int, S.room = v := ⟨_, rfl⟩
  rw [hus] at Hf hw2 c1
  rw [hro] at Hf c0
  have f0 := fieldB
  have f1 := fieldS
  unfold fileV at hrun
  have Hh := Lib.hid h
  clear h hl hby o1 o2 o3 ho hus hro
  by_cases hv0 : v ≤ 0
  · have Hd := Lib.hid (show decide (v ≤ 0) = true from decide_eq_true hv0)
    go_enter Try.func35, Try.ntmps35
    go_wp2_with fail
    go_quiet (fail)
    go_wp2
    go_ret
    exact ⟨by rw [Hf.out, Hd.out]; rfl, by (repeat (first | assumption | exact Below.refl _ _ | (with_reducible apply Below.drew) | (with_reducible apply bl_drewN) | (with_reducible apply bl_alloc) | (with_reducible refine bl_then ?_ (by assumption))))⟩
  · have hd : decide (v ≤ 0) = false := decide_eq_false hv0
    have Hd := Lib.hid hd
    go_enter Try.func35, Try.ntmps35
    go_wp2_with fail
    go_quiet (fail)
    go_wp2
    go_ret
    exact ⟨by rw [Hf.out, Hd.out]; rfl, by (repeat (first | assumption | exact Below.refl _ _ | (with_reducible apply Below.drew) | (with_reducible apply bl_drewN) | (with_reducible apply bl_alloc) | (with_reducible refine bl_then ?_ (by assumption))))⟩

section
variable {w w' : World} {fb mb n : Nat} {S : Fs} {D : DataW Value}
theorem FSAt.ne (h : FSAt w fb S mb n D) : mb ≠ fb := by
  rintro rfl
  obtain ⟨es, clock, h1, _⟩ := h.own
  have := h.blk.at_
  rw [h1] at this
  cases this
theorem FSAt.set (h : FSAt w fb S mb n D) {S' : Fs} (i : Nat) (u : Value) (hm : S'.m = S.m)
    (hc : [Value.int .i64 S.room, .int .i64 S.used, .int .i64 S.last, .bool S.cuts, .int .i64 S.cut, .map (some mb)].set i u = [.int .i64 S'.room, .int .i64 S'.used, .int .i64 S'.last, .bool S'.cuts, .int .i64 S'.cut, .map (some mb)]) :
    FSAt (w.setCell ⟨fb, i, none⟩ u) fb S' mb n D := by
  refine ⟨hc ▸ h.blk.set_ i u, h.own.setCell h.ne u, fun key hk => h.no key (hm ▸ hk), fun key l st hk => ?_⟩
  obtain ⟨h1, A, k, c, h2, h3, h4, h5⟩ := h.yes key l st (hm ▸ hk)
  have hn : ∀ ad, A = some ad → 0 < k → ad.block ≠ fb := h5.ne h.blk (by decide)
  exact ⟨h1, A, k, c, h2, ⟨h3.rd.setCell hn u, h3.by_, h3.le⟩, h4, h5.keep fun ad hA h0 => Below.heap_setCell _ _ _ _ (hn ad hA h0)⟩
end
theorem FSAt.onlyFree {w w' : World} {fb mb n g : Nat} {S : Fs} {D : DataW Value} (h : FSAt w fb S mb n D) (ho : Only [g] w w') (hg : fb ≠ g) (hm : mb ≠ g) (hf : Free S D g) : FSAt w' fb S mb n D := by
  refine ⟨h.blk.only ho (by simpa using hg), ?_, h.no, fun key l st hkm => ?_⟩
  · obtain ⟨es, clock, h1, r⟩ := h.own
    exact ⟨es, clock, (ho.block mb h.own.lt (by simpa using hm)).trans h1, r⟩
  · obtain ⟨h1, A, k, c, h2, h3, h4, h5⟩ := h.yes key l st hkm
    have hn : ∀ ad, A = some ad → 0 < k → ad.block ∉ [g] := fun ad hA h0 hin => hf key l st hkm A k c h2 ad hA h0 (by simpa using hin)
    refine ⟨h1, A, k, c, h2, h3.only ho hn, h4, h5.keep fun ad hA h0 => ?_⟩
    exact ho.block ad.block (h5.lt ad hA h0) (hn ad hA h0)
theorem FSAt.new {w : World} {fb mb n g : Nat} {S : Fs} {D : DataW Value} (h : FSAt w fb S mb n D) (hg : w.heap.size ≤ g) : Free S D g := by
  intro key l st hkm A k c hA ad hAa h0
  obtain ⟨h1, A', k', c', h2, h3, h4, h5⟩ := h.yes key l st hkm
  have e := DataW.held.inj ((hA (.held (fileV none 0 0 0))).symm.trans (h2 _))
  obtain ⟨rfl, rfl, -, -⟩ := fileV_inj e
  have := h5.lt ad hAa h0
  omega
/-- A file is what it is to be. -/
def Fs.put (S : Fs) (s : ByteArray) (l : List Int) (st : Int) : Fs := { S with m := fun key => if key = s.data.toList then some (l, st) else S.m key }
theorem FSAt.put {w w' : World} {fb mb n n' : Nat} {S : Fs} {D : DataW Value} (h : FSAt w fb S mb n D) {s : ByteArray} {l : List Int} {st : Int} {A : Option Addr} {k c : Nat} (hb : Bs w A k l) (hc : k ≤ c) (hu : U8 w A k)
    (ho : w'.ownsMap Try.prog 9 RV mb n' (D.put (.string s.data.toList) (.held (fileV A k c st)))) (hg : w.grownBy w' (some mb)) : FSAt w' fb (S.put s l st) mb n' (D.put (.string s.data.toList) (.held (fileV A k c st))) := by
  have hmu : ∀ {B : Option Addr} {j : Nat}, U8 w B j → ∀ ad, B = some ad → 0 < j → w'.heap[ad.block]? = w.heap[ad.block]? := fun hu ad hA h0 => by
    obtain ⟨cs, fr, hh⟩ := hu ad hA h0
    refine hg.block _ (Array.getElem?_eq_some_iff.1 hh).1 ?_
    intro e
    obtain ⟨es, clock, h1, _⟩ := h.own
    have e' := Option.some.inj e
    rw [e', h1] at hh
    cases hh
  have hkl : WideAt.IsKeyLit (Lit.string s.data.toList) := trivial
  refine ⟨h.blk.keep (hg.block fb h.blk.lt (fun e => h.ne (Option.some.inj e).symm)), ho, fun key hk => ?_, fun key l' st' hk => ?_⟩
  · simp only [Fs.put] at hk
    split at hk
    · cases hk
    · rename_i hne
      rw [Maps.has_put_other (fun e => hne (by injection e))]
      exact h.no key hk
  · simp only [Fs.put] at hk
    split at hk
    · rename_i he
      subst he
      obtain ⟨rfl, rfl⟩ : l = l' ∧ st = st' := by simpa using hk
      exact ⟨Maps.has_put_same h.own.isMap hkl _, A, k, c, fun z => Maps.atKey_put_same h.own.isMap hkl _ z, ⟨hb.rd.keep hg.size (hmu hu), hb.by_, hb.le⟩, hc, hu.keep (hmu hu)⟩
    · rename_i hne
      obtain ⟨h1, A', k', c', h2, h3, h4, h5⟩ := h.yes key l' st' hk
      have hne' : Lit.string key ≠ Lit.string s.data.toList := fun e => hne (by injection e)
      exact ⟨by rw [Maps.has_put_other hne']; exact h1, A', k', c', fun z => by rw [Maps.atKey_put_other hne']; exact h2 z, ⟨h3.rd.keep hg.size (hmu h5), h3.by_, h3.le⟩, h4, h5.keep (hmu h5)⟩

/-- A file goes. -/
def Fs.rm (S : Fs) (s : ByteArray) : Fs := { S with m := fun key => if key = s.data.toList then none else S.m key }
theorem FSAt.rm {w w' : World} {fb mb n n' : Nat} {S : Fs} {D : DataW Value} (h : FSAt w fb S mb n D) {s : ByteArray} 
    (ho : w'.ownsMap Try.prog 9 RV mb n' (D.del (.string s.data.toList))) (hg : w.grownBy w' (some mb)) : FSAt w' fb (S.rm s) mb n' (D.del (.string s.data.toList)) := by
  have hmu : ∀ {B : Option Addr} {j : Nat}, U8 w B j → ∀ ad, B = some ad → 0 < j → w'.heap[ad.block]? = w.heap[ad.block]? := fun hu ad hA h0 => by
    obtain ⟨cs, fr, hh⟩ := hu ad hA h0
    refine hg.block _ (Array.getElem?_eq_some_iff.1 hh).1 ?_
    intro e
    obtain ⟨es, clock, h1, _⟩ := h.own
    have e' := Option.some.inj e
    rw [e', h1] at hh
    cases hh
  refine ⟨h.blk.keep (hg.block fb h.blk.lt (fun e => h.ne (Option.some.inj e).symm)), ho, fun key hk => ?_, fun key l' st' hk => ?_⟩
  · simp only [Fs.rm] at hk
    split at hk
    · rename_i he
      subst he
      exact Maps.has_del_same
    · rename_i hne
      rw [Maps.has_del_other (fun e => hne (by injection e))]
      exact h.no key hk
  · simp only [Fs.rm] at hk
    split at hk
    · cases hk
    · rename_i hne
      obtain ⟨h1, A', k', c', h2, h3, h4, h5⟩ := h.yes key l' st' hk
      have hne' : Lit.string key ≠ Lit.string s.data.toList := fun e => hne (by injection e)
      exact ⟨by rw [Maps.has_del_other hne']; exact h1, A', k', c', fun z => by rw [Maps.atKey_del_other hne']; exact h2 z, ⟨h3.rd.keep hg.size (hmu h5), h3.by_, h3.le⟩, h4, h5.keep (hmu h5)⟩

/-- What write leaves. -/
def Fs.write (S : Fs) (s : ByteArray) (l : List Int) : Fs := { S.put s l (S.last + 1) with last := S.last + 1, used := S.used + ((l.length : Int) - ((S.by s).length : Int)) }
theorem keepM {w : World} {fb mb n : Nat} {S : Fs} {D : DataW Value} (h : FSAt w fb S mb n D) (w' : World) (hb : Below w.heap.size w w') : w'.cell? ⟨fb, 5, none⟩ = some (.map (some mb)) ∧ w'.cell? ⟨fb, 2, none⟩ = some (.int .i64 S.last) ∧ Below w.heap.size w w' :=
  ⟨(hb.cell (p := ⟨fb, 5, none⟩) h.blk.lt).trans (h.blk.cell 5), (hb.cell (p := ⟨fb, 2, none⟩) h.blk.lt).trans (h.blk.cell 2), hb⟩
set_option maxRecDepth 100000 in
set_option maxHeartbeats 2000000 in
theorem write_any {w : World} {fb mb n : Nat} {S : Fs} {D : DataW Value} {U : Int} (s : ByteArray) (l : List Int) (A : Option Addr) (k c : Nat) (hs : s.size ≤ maxLen) (hk : k ≤ 70368744177664) (hn : n < maxLen) (ho : S.ok U) (h : FSAt w fb S mb n D)
    (hb : Bs w A k l) (hc : k ≤ c) (hu : U8 w A k) :
    Calls Try.prog 36 #[.pointer (some ⟨fb, 0, none⟩), .string s, .slice A k c] w fun e w' => e = .returned (.int .i64 (S.last + 1)) ∧ (∃ D', FSAt w' fb (S.write s l) mb (n + 1) D' ∧ ∀ g, Free S D g → (∀ ad, A = some ad → 0 < k → ad.block ≠ g) → Free (S.write s l) D' g) ∧ Only [fb, mb] w w' := by
  obtain ⟨B, m, d, hrun, hbs, hmc, _⟩ := h.look s hs
  have c5 : w.cell? ⟨fb, 5, none⟩ = some (.map (some mb)) := h.blk.cell 5
  have c1 : w.cell? ⟨fb, 1, none⟩ = some (.int .i64 S.used) := h.blk.cell 1
  have c2 : w.cell? ⟨fb, 2, none⟩ = some (.int .i64 S.last) := h.blk.cell 2
  have z1 := h.blk.frozen 1
  have z2 := h.blk.frozen 2
  have hl := hbs.len
  have hkl := hb.len
  have hby := ho.by1 s
  have o1 := ho.u0
  have o2 := ho.u1
  have o3 := ho.U1
  have o4 := ho.l0
  have o5 := ho.l1
  rw [hl] at hby
  obtain ⟨v, hv⟩ : ∃ v : Int, (k : Int) - (m : Int) = v := ⟨_, rfl⟩
  have hw : IntKind.i64.wrap v = v := by rw [IntKind.wrap_i64]; omega
  have hw2 : IntKind.i64.wrap (S.used + v) = S.used + v := by rw [IntKind.wrap_i64]; omega
  have hw3 : IntKind.i64.wrap (S.last + 1) = S.last + 1 := by rw [IntKind.wrap_i64]; omega
  have Hwr := Lib.hid (show S.write s l = { S.put s l (S.last + 1) with last := S.last + 1, used := S.used + v } by unfold Fs.write; rw [hl, hkl, hv])
  have Hb := Lib.hid hb
  have Hu := Lib.hid hu
  have H := Lib.hid h
  have HM := Lib.hid h.own.isMap
  have h1 := h.set (S' := { S with last := S.last + 1 }) 2 (.int .i64 (S.last + 1)) rfl rfl
  have H1 := Lib.hid h1
  have Hlm := Lib.hid hl
  have hfa : ∀ ad, A = some ad → 0 < k → ad.block ≠ fb := hu.ne h.blk (by decide)
  have Hfa := Lib.hid hfa
  clear h hb hu ho hl hby o1 o2 o3 o4 o5 h1 hbs hrun hfa
  go_enter Try.func36, Try.ntmps36
  go_wp2_with fail
  refine at_world (fun W => FSAt W fb { S with last := S.last + 1 } mb n D ∧ Only [fb, mb] w W ∧ Bs W A k l ∧ U8 W A k) ⟨H1.out, (Only.refl _ _).setCell (.inl (by simp)) _, ⟨Hb.out.rd.setCell Hfa.out _, Hb.out.by_, Hb.out.le⟩, Hu.out.keep fun ad hA h0 => Below.heap_setCell _ _ _ _ (Hfa.out ad hA h0)⟩ ?_
  rintro W ⟨h1, hon, hb, hu⟩
  clear c5 c1 c2 z1 z2 Hb Hu H1 H
  obtain ⟨B2, m2, d2, hrun, hbs2, _, _⟩ := h1.drew.look s hs
  have e2 : m2 = m := hbs2.len.symm.trans Hlm.out
  subst e2
  have c5 : W.cell? ⟨fb, 5, none⟩ = some (.map (some mb)) := h1.blk.cell 5
  have c1 : W.cell? ⟨fb, 1, none⟩ = some (.int .i64 S.used) := h1.blk.cell 1
  have z1 := h1.blk.frozen 1
  have H1 := Lib.hid h1
  have Hon := Lib.hid hon
  have Hb := Lib.hid hb
  have Hu := Lib.hid hu
  have f0 := fieldB
  unfold fileV at hrun
  obtain ⟨st0, hst0⟩ : ∃ y, y = ({ S with last := S.last + 1 } : Fs).st s := ⟨_, rfl⟩
  rw [← hst0] at hrun
  clear h1 hon hb hu hbs2 hst0
  go_region
  have h2 := H1.out.set (S' := { S with last := S.last + 1, used := S.used + v }) 1 (.int .i64 (S.used + v)) rfl rfl
  have H2 := Lib.hid h2
  have hfa2 : ∀ ad, A = some ad → 0 < k → ad.block ≠ fb := Hfa.out
  go_wp2_with fail
  refine at_world (fun W => FSAt W fb { S with last := S.last + 1, used := S.used + v } mb n D ∧ Only [fb, mb] w W ∧ Bs W A k l ∧ U8 W A k) ⟨H2.out.drew, (Hon.out.setCell (.inl (by simp)) _).drew, ⟨Rd.drew (Hb.out.rd.setCell hfa2 _), Hb.out.by_, Hb.out.le⟩, (Hu.out.keep fun ad hA h0 => Below.heap_setCell _ _ _ _ (hfa2 ad hA h0))⟩ ?_
  clear H1 Hon Hb Hu h2 H2 hrun c5 c1 z1
  rintro W2 ⟨h2, hon, hb, hu⟩
  obtain ⟨w', hrunU, hown, hg⟩ := h2.drew.own.update strK Try.underlying50 hn (keyS s hs) (val := fileV A k c (S.last + 1)) (d := .held (fileV A k c (S.last + 1))) (ps := []) rfl
  have h3 := h2.drew.put (st := S.last + 1) (hb.below (Below.refl _ _).drew) hc (hu.below (Below.refl _ _).drew) hown hg
  have H3 := Lib.hid h3
  have hon3 : Only [fb, mb] w w' := (hon.drew).grown hg (fun j hj => .inl (by cases hj; simp))
  have Hon3 := Lib.hid hon3
  have c5 : W2.cell? ⟨fb, 5, none⟩ = some (.map (some mb)) := h2.blk.cell 5
  have c2 : W2.cell? ⟨fb, 2, none⟩ = some (.int .i64 (S.last + 1)) := h2.blk.cell 2
  have c2' : w'.cell? ⟨fb, 2, none⟩ = some (.int .i64 (S.last + 1)) := h3.blk.cell 2
  unfold fileV at hrunU
  clear h2 hon hb hu hown hg h3 hon3
  go_region
  go_wp2_with fail
  go_ret
  exact ⟨rfl, ⟨_, by rw [Hwr.out]; exact H3.out, fun g hf hA => hf.put HM.out s l (S.last + 1) A k c hA rfl _ rfl⟩, Hon3.out⟩

/-- What gone leaves. -/
def Fs.gone (S : Fs) (s : ByteArray) : Fs := { S.rm s with used := S.used - ((S.by s).length : Int) }
set_option maxRecDepth 100000 in
set_option maxHeartbeats 2000000 in
theorem gone_any {w : World} {fb mb n : Nat} {S : Fs} {D : DataW Value} {U : Int} (s : ByteArray) (hs : s.size ≤ maxLen) (ho : S.ok U) (h : FSAt w fb S mb n D) :
    Calls Try.prog 45 #[.pointer (some ⟨fb, 0, none⟩), .string s] w fun e w' => e = .returned (.tuple #[]) ∧ (∃ D', FSAt w' fb (S.gone s) mb n D' ∧ ∀ g, Free S D g → Free (S.gone s) D' g) ∧ Only [fb, mb] w w' := by
  obtain ⟨B, m, d, hrun, hbs, hmc, _⟩ := h.drew.look s hs
  have c5 : w.cell? ⟨fb, 5, none⟩ = some (.map (some mb)) := h.blk.cell 5
  have c1 : w.cell? ⟨fb, 1, none⟩ = some (.int .i64 S.used) := h.blk.cell 1
  have z1 := h.blk.frozen 1
  have hl := hbs.len
  have hby := ho.by1 s
  have o1 := ho.u0
  have o2 := ho.u1
  have o3 := ho.U1
  rw [hl] at hby
  obtain ⟨v, hv⟩ : ∃ v : Int, S.used - (m : Int) = v := ⟨_, rfl⟩
  have hw : IntKind.i64.wrap v = v := by rw [IntKind.wrap_i64]; omega
  have Hgn := Lib.hid (show S.gone s = { S.rm s with used := v } by unfold Fs.gone; rw [hl, hv])
  have H := Lib.hid h
  have f0 := fieldB
  unfold fileV at hrun
  clear h ho hl hby o1 o2 o3 hbs
  go_enter Try.func45, Try.ntmps45
  go_wp2_with fail
  go_region
  have h2 := H.out.set (S' := { S with used := v }) 1 (.int .i64 v) rfl rfl
  have H2 := Lib.hid h2
  clear h2
  obtain ⟨w', hrunD, hown, hmt⟩ := H2.out.drew.own.drop strK Try.underlying50 (keyS s hs) 0
  have H3 := Lib.hid (H2.out.drew.rm hown hmt.grown)
  have Hon := Lib.hid ((((Only.refl [fb, mb] w).setCell (p := ⟨fb, 1, none⟩) (.inl (by simp)) (.int .i64 v)).drew).grown hmt.grown (fun j hj => .inl (by cases hj; simp)))
  clear hown hmt hrun
  go_wp2_with fail

  go_end0
  exact ⟨rfl, ⟨_, by rw [Hgn.out]; exact H3.out, fun g hf => hf.del s _ rfl⟩, Hon.out⟩
end Go.Proofs.Ytkbgedaogfcdnaa
