/- The library's variables as they read; texts and rows of texts in the heap. -/
import Derived.Test.YtkbgedaogfcdnaaDoorInts
import Derived.Test.YtkbgedaogfcdnaaDoorStr
import Derived.Test.YtkbgedaogfcdnaaDoorCode
import Derived.Test.YtkbgedaogfcdnaaDoorName
import Derived.Test.YtkbgedaogfcdnaaDoorReptP
import Derived.Lib.LaidTab
import Derived.Lib.ItoaMem
import Derived.WalkSmall
import Derived.Deep.DeepCutAuto
import Derived.Deep.CutBlock
import Derived.Laws.ResultCell
namespace Go.Proofs.YtkbgedaogfcdnaaDoor
set_option linter.unusedSimpArgs false
set_option linter.unusedVariables false
open Go.RowKit
open Crc (Bytes)

structure Env (w : World) : Prop where
  tab : Lib.TabIs Tryd.prog w "internal/strconv.uint64pow10" .u64 Lib.pow10Tab
  syn : ∃ tp p, w.var? Tryd.prog "strconv.ErrSyntax" = some #[.iface tp p]
  rng : ∃ tp p, w.var? Tryd.prog "strconv.ErrRange" = some #[.iface tp p]
  size : 4 ≤ w.heap.size
theorem gTab : Tryd.prog.globalNamed "internal/strconv.uint64pow10" = some 1 := by kernel_rfl
theorem gSyn : Tryd.prog.globalNamed "strconv.ErrSyntax" = some 2 := by kernel_rfl
theorem gRng : Tryd.prog.globalNamed "strconv.ErrRange" = some 3 := by kernel_rfl
theorem Env.below {w w' : World} (h : Env w) (hb : Below w.heap.size w w') : Env w' := by
  have hz := h.size
  obtain ⟨t1, p1, h1⟩ := h.syn
  obtain ⟨t2, p2, h2⟩ := h.rng
  exact ⟨var?_below hb gTab (Nat.lt_of_lt_of_le (by decide) hz) h.tab, ⟨t1, p1, var?_below hb gSyn (Nat.lt_of_lt_of_le (by decide) hz) h1⟩, ⟨t2, p2, var?_below hb gRng (Nat.lt_of_lt_of_le (by decide) hz) h2⟩, Nat.le_trans hz hb.size⟩

theorem strInfo : (Tryd.prog.info? 9).map (fun i => (i.zero, i.size, i.bytes)) = some (some (.string ⟨#[]⟩), 1, 16) := by kernel_rfl
theorem ba_ext {a b : ByteArray} (h : a.data.toList = b.data.toList) : a = b := by
  cases a; cases b
  simp only at h
  rw [Array.toList_inj.1 h]
/-- A text. -/
def T (l : List UInt8) : ByteArray := ⟨l.toArray⟩
theorem T_size (l : List UInt8) : (T l).size = l.length := by simp [T, ByteArray.size]
theorem T_app (a b : List UInt8) : T a ++ T b = T (a ++ b) := by
  unfold T
  rw [ByteArray.mk_append_mk]
theorem T_data (l : List UInt8) : (T l).data.toList = l := by simp [T]
theorem T_of (s : ByteArray) : T s.data.toList = s := by cases s; simp [T]
theorem T_inj {a b : List UInt8} (h : T a = T b) : a = b := by
  have := congrArg (fun s : ByteArray => s.data.toList) h
  simpa [T] using this
theorem T_beq (a b : List UInt8) : (T a == T b) = decide (a = b) := by
  rw [text_beq]
  by_cases h : a = b
  · subst h; simp
  · rw [decide_eq_false h, decide_eq_false (fun e => h (T_inj e))]
theorem T_empty (l : List UInt8) : (T l).toList.isEmpty = decide (l = []) := by
  rw [ByteArray.toList_eq, T_data]
  cases l <;> simp
def sv (x : List UInt8) : Value := .string (T x)
/-- A row of texts. -/
structure SS (w : World) (A : Option Addr) (n : Nat) (l : List (List UInt8)) : Prop where
  rd : Rd w 1 A n (l.map sv)
  le : n ≤ 4611686018427387000
theorem SS.len {w : World} {A : Option Addr} {n : Nat} {l : List (List UInt8)} (h : SS w A n l) : l.length = n := by have := h.rd.len; simpa using this
theorem SS.get {w : World} {A : Option Addr} {n : Nat} {l : List (List UInt8)} (h : SS w A n l) {k : Nat} (hk : k < n) : ∃ ad, ∃ hl : k < l.length, A = some ad ∧ w.cell? (ad.add k) = some (.string (T l[k])) := by
  obtain ⟨ad, hA, hc, hl⟩ := h.rd.get hk
  have hl' : k < l.length := by simpa using hl
  exact ⟨ad, hl', hA, by rw [hc, List.getElem?_map, List.getElem?_eq_getElem hl']; rfl⟩
theorem SS.below {w w' : World} {A : Option Addr} {n : Nat} {l : List (List UInt8)} (h : SS w A n l) (hb : Below w.heap.size w w') : SS w' A n l := ⟨h.rd.below hb, h.le⟩
theorem SS.nil (w : World) (A : Option Addr) : SS w A 0 [] := ⟨Rd.nil w 1 A, by omega⟩
theorem SS.eq_nil {w : World} {A : Option Addr} {n : Nat} {l : List (List UInt8)} (h : SS w A n l) : l = [] ↔ n = 0 := by
  have := h.len
  constructor
  · intro e; rw [e] at this; simpa using this.symm
  · intro e; exact List.eq_nil_of_length_eq_zero (by omega)
theorem svs_one (l : List (List UInt8)) : ∀ u ∈ l.map sv, u.oneCell' = true := by
  intro u hu
  obtain ⟨x, _, rfl⟩ := List.mem_map.1 hu
  rfl
theorem okB_T (l : List UInt8) : okB (T l) = Rep.okL l := by
  unfold okB Rep.okL
  rw [T_data, T_size]
  have : (fun c : UInt8 => letterB (c.toNat : Int)) = Rep.letterL := by
    funext c
    unfold letterB Rep.letterL
    congr 1
    · congr 1
      · congr 1
        · congr 1
          · exact decide_eq_decide.2 ⟨fun h => by omega, fun h => by omega⟩
          · exact decide_eq_decide.2 ⟨fun h => by omega, fun h => by omega⟩
        · exact decide_eq_decide.2 ⟨fun h => by omega, fun h => by omega⟩
      · exact decide_eq_decide.2 ⟨fun h => by omega, fun h => by omega⟩
    · exact decide_eq_decide.2 ⟨fun h => by omega, fun h => by omega⟩
  rw [this]
end Go.Proofs.YtkbgedaogfcdnaaDoor
