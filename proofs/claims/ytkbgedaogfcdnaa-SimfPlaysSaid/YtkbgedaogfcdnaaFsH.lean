/- The files, held along many calls: bounds by the number of calls. -/
import Derived.Test.YtkbgedaogfcdnaaFs8
import Derived.Test.YtkbgedaogfcdnaaFs7
import Derived.Test.YtkbgedaogfcdnaaFs6
import Derived.Test.YtkbgedaogfcdnaaFs3
namespace Go.Proofs.Ytkbgedaogfcdnaa
set_option linter.unusedSimpArgs false
set_option linter.unusedVariables false
open Go.RowKit
open Crc (Bytes)

/-- The files at blocks fb, mb behind k calls; w0: the world at the start. -/
structure FsH (w0 w : World) (fb mb : Nat) (S : Fs) (k : Nat) : Prop where
  at_ : ∃ n D, n ≤ k ∧ FSAt w fb S mb n D
  fin : S.fin (2000000000 * k) (100000 * k) k
  hk : k ≤ 5000
  hf : w0.heap.size ≤ fb
  hm : w0.heap.size ≤ mb
  bel : Below w0.heap.size w0 w
section
variable {w0 w w' : World} {fb mb k : Nat} {S : Fs}
theorem FsH.below (h : FsH w0 w fb mb S k) (hb : Below w.heap.size w w') : FsH w0 w' fb mb S k := by
  obtain ⟨n, D, hn, hF⟩ := h.at_
  exact ⟨⟨n, D, hn, hF.below hb⟩, h.fin, h.hk, h.hf, h.hm, h.bel.trans (hb.mono h.bel.size)⟩
theorem FsH.alloc (h : FsH w0 w fb mb S k) {o : Obj} : FsH w0 (w.alloc o) fb mb S k := h.below ((Below.refl _ _).alloc (Nat.le_refl _) o)
theorem FsH.drew (h : FsH w0 w fb mb S k) : FsH w0 w.drew fb mb S k := h.below (Below.refl _ _).drew
theorem FsH.drewN (h : FsH w0 w fb mb S k) {n : Nat} : FsH w0 (w.drewN n) fb mb S k := h.below (bl_drewN (Below.refl _ _) n)
theorem FsH.ok (h : FsH w0 w fb mb S k) : S.ok 10000000000000 := h.fin.ok (by have := h.hk; omega) (by have := h.hk; omega) (by have := h.hk; omega) (by omega)
theorem FsH.lt (h : FsH w0 w fb mb S k) : fb < w.heap.size ∧ mb < w.heap.size := by
  obtain ⟨n, D, hn, hF⟩ := h.at_
  exact ⟨hF.blk.lt, hF.own.lt⟩
theorem FsH.done {S' : Fs} (h : FsH w0 w fb mb S k) (hk : k ≤ 4999) (hf : S'.fin (2000000000 * (k + 1 : Nat)) (100000 * (k + 1 : Nat)) (k + 1 : Nat)) {n : Nat} {D : DataW Value} (hn : n ≤ k) (hd : FsDone w fb mb n S D S' w') : FsH w0 w' fb mb S' (k + 1) := by
  obtain ⟨⟨n', D', hn', hF, _⟩, ho⟩ := hd
  refine ⟨⟨n', D', by omega, hF⟩, hf, by omega, h.hf, h.hm, ?_⟩
  exact below_only h.bel ho (by intro b hb; simp at hb; rcases hb with e | e <;> rw [e] <;> first | exact h.hf | exact h.hm) h.bel.size
theorem FsH.bs (h : FsH w0 w fb mb S k) {A : Option Addr} {n : Nat} {l : List Int} (hb : Bs w A n l) (hu : U8 w A n) (ho : Only [fb, mb] w w') : Bs w' A n l := by
  obtain ⟨_, D, _, hF⟩ := h.at_
  exact hb.only ho (hF.apart hu)
theorem FsH.u8 (h : FsH w0 w fb mb S k) {A : Option Addr} {n : Nat} (hu : U8 w A n) (ho : Only [fb, mb] w w') : U8 w' A n := by
  obtain ⟨_, D, _, hF⟩ := h.at_
  exact hu.keep fun ad hA h0 => ho.block ad.block (hu.lt ad hA h0) (hF.apart hu ad hA h0)
end
theorem nMax {n k : Nat} (h : n ≤ k) (hk : k ≤ 5000) : n < maxLen := by
  have : 5000 < maxLen := by decide
  omega
theorem new_h (w : World) (r : Int) :
    Calls Try.prog 4 #[.int .i64 r] w fun e w' => ∃ fb mb, e = .returned (.pointer (some ⟨fb, 0, none⟩)) ∧ FsH w w' fb mb (fs0 r) 0 := by
  refine (newfs_any w r).mono ?_
  rintro e w' ⟨fb, mb, D, rfl, hF, h1, h2, hb⟩
  refine ⟨fb, mb, rfl, ⟨0, D, Nat.le_refl _, hF⟩, ⟨by simp [fs0], by simp [fs0], ?_, ?_, by simp [fs0], by simp [fs0], ?_, by simp [fs0]⟩, by omega, h1, h2, hb⟩
  · show 0 ≤ roomOf r; unfold roomOf; omega
  · show roomOf r ≤ 1073741824; unfold roomOf; omega
  · intro s; simp [Fs.by, fs0]
section
variable {w0 w : World} {fb mb k : Nat} {S : Fs}
theorem put_h (h : FsH w0 w fb mb S k) (hk : k ≤ 4999) (s : ByteArray) (l : List Int) (A : Option Addr) (n c : Nat) (hs : s.size ≤ 1000) (hn : n ≤ 100000) (hb : Bs w A n l) :
    Calls Try.prog 11 #[.pointer (some ⟨fb, 0, none⟩), .string s, .slice A n c] w fun e w' => e = .returned (.tuple #[.int .i64 (S.putF s l).1.1, .int .i64 (S.putF s l).1.2]) ∧ FsH w0 w' fb mb (S.putF s l).2 (k + 1) ∧ Only [fb, mb] w w' := by
  obtain ⟨m, D, hm, hF⟩ := h.at_
  refine (put_any s l A n c (by omega) (by omega) (nMax hm (by omega)) h.ok hF hb).mono ?_
  rintro e w' ⟨rfl, hd⟩
  exact ⟨rfl, h.done hk (h.fin.putF s l (by rw [hb.len]; omega) (by omega) (by omega) (by omega)) hm hd, hd.only⟩
theorem make_h (h : FsH w0 w fb mb S k) (hk : k ≤ 4999) (s : ByteArray) (l : List Int) (A : Option Addr) (n c : Nat) (hs : s.size ≤ 1000) (hn : n ≤ 100000) (hb : Bs w A n l) :
    Calls Try.prog 9 #[.pointer (some ⟨fb, 0, none⟩), .string s, .slice A n c] w fun e w' => e = .returned (.tuple #[.int .i64 (S.makeF s l).1.1, .int .i64 (S.makeF s l).1.2]) ∧ FsH w0 w' fb mb (S.makeF s l).2 (k + 1) ∧ Only [fb, mb] w w' := by
  obtain ⟨m, D, hm, hF⟩ := h.at_
  refine (make_any s l A n c (by omega) (by omega) (nMax hm (by omega)) h.ok hF hb).mono ?_
  rintro e w' ⟨rfl, hd⟩
  exact ⟨rfl, h.done hk (h.fin.makeF s l (by rw [hb.len]; omega) (by omega) (by omega) (by omega)) hm hd, hd.only⟩
theorem append_h (h : FsH w0 w fb mb S k) (hk : k ≤ 4999) (s : ByteArray) (l : List Int) (gs : List (ByteArray × Int)) (A : Option Addr) (n c : Nat) (Ag : Option Addr) (kg cg : Nat) (hs : s.size ≤ 1000) (hn : n ≤ 100000) (hc : n ≤ c) (hb : Bs w A n l) (hu : U8 w A n) (hg : Grd w Ag kg gs) :
    Calls Try.prog 13 #[.pointer (some ⟨fb, 0, none⟩), .string s, .slice A n c, .slice Ag kg cg] w fun e w' => e = .returned (.tuple #[.int .i64 (S.appF s l gs).1.1, .int .i64 (S.appF s l gs).1.2]) ∧ FsH w0 w' fb mb (S.appF s l gs).2 (k + 1) ∧ Only [fb, mb] w w' := by
  obtain ⟨m, D, hm, hF⟩ := h.at_
  refine (append_any s l gs A n c Ag kg cg (by omega) hc (by omega) (nMax hm (by omega)) h.ok h.fin.c0 hF hb (fun ad hA h0 => hu.ne hF.blk (by decide) ad hA h0) hg).mono ?_
  rintro e w' ⟨rfl, hd⟩
  exact ⟨rfl, h.done hk (h.fin.appF s l gs (by rw [hb.len]; omega) (by omega) (by omega)) hm hd, hd.only⟩
theorem append_hN (h : FsH w0 w fb mb S k) (hk : k ≤ 4999) (s : ByteArray) (l : List Int) (gs : List (ByteArray × Int)) (A : Option Addr) (n c : Nat) (Ag : Option Addr) (kg cg : Nat) (hs : s.size ≤ 1000) (hn : n ≤ 100000) (hc : n ≤ c) (hb : Bs w A n l) (hu : ∀ ad, A = some ad → 0 < n → ad.block ≠ fb) (hg : Grd w Ag kg gs) :
    Calls Try.prog 13 #[.pointer (some ⟨fb, 0, none⟩), .string s, .slice A n c, .slice Ag kg cg] w fun e w' => e = .returned (.tuple #[.int .i64 (S.appF s l gs).1.1, .int .i64 (S.appF s l gs).1.2]) ∧ FsH w0 w' fb mb (S.appF s l gs).2 (k + 1) ∧ Only [fb, mb] w w' := by
  obtain ⟨m, D, hm, hF⟩ := h.at_
  refine (append_any s l gs A n c Ag kg cg (by omega) hc (by omega) (nMax hm (by omega)) h.ok h.fin.c0 hF hb hu hg).mono ?_
  rintro e w' ⟨rfl, hd⟩
  exact ⟨rfl, h.done hk (h.fin.appF s l gs (by rw [hb.len]; omega) (by omega) (by omega)) hm hd, hd.only⟩
theorem move_h (h : FsH w0 w fb mb S k) (hk : k ≤ 4999) (a b : ByteArray) (gs : List (ByteArray × Int)) (Ag : Option Addr) (kg cg : Nat) (ha : a.size ≤ 1000) (hb : b.size ≤ 1000) (hg : Grd w Ag kg gs) :
    Calls Try.prog 15 #[.pointer (some ⟨fb, 0, none⟩), .string a, .string b, .slice Ag kg cg] w fun e w' => e = .returned (.tuple #[.int .i64 (S.moveF a b gs).1.1, .int .i64 (S.moveF a b gs).1.2]) ∧ FsH w0 w' fb mb (S.moveF a b gs).2 (k + 1) ∧ Only [fb, mb] w w' := by
  obtain ⟨m, D, hm, hF⟩ := h.at_
  refine (move_any a b gs Ag kg cg (by omega) (by omega) h.ok (by omega) (nMax hm (by omega)) hF hg).mono ?_
  rintro e w' ⟨rfl, hd⟩
  exact ⟨rfl, h.done hk ((h.fin.moveF a b gs (V' := 2000000000 * (k + 1 : Nat)) (T' := (k + 1 : Nat)) (by omega) (by omega)).more (by omega) (by omega) (by omega)) hm hd, hd.only⟩
theorem drop_h (h : FsH w0 w fb mb S k) (hk : k ≤ 4999) (s : ByteArray) (gs : List (ByteArray × Int)) (Ag : Option Addr) (kg cg : Nat) (hs : s.size ≤ 1000) (hg : Grd w Ag kg gs) :
    Calls Try.prog 17 #[.pointer (some ⟨fb, 0, none⟩), .string s, .slice Ag kg cg] w fun e w' => e = .returned (.int .i64 (S.dropF s gs).1) ∧ FsH w0 w' fb mb (S.dropF s gs).2 (k + 1) ∧ Only [fb, mb] w w' := by
  obtain ⟨m, D, hm, hF⟩ := h.at_
  refine (drop_any s gs Ag kg cg (by omega) h.ok hF hg).mono ?_
  rintro e w' ⟨rfl, hd⟩
  exact ⟨rfl, h.done hk ((h.fin.dropF s gs (V' := 2000000000 * (k + 1 : Nat)) (by omega)).more (by omega) (by omega) (by omega)) hm hd, hd.only⟩
theorem read_h (h : FsH w0 w fb mb S k) (s : ByteArray) (hs : s.size ≤ 1000) :
    Calls Try.prog 23 #[.pointer (some ⟨fb, 0, none⟩), .string s] w fun e w' => ∃ A n c, e = .returned (.tuple #[.slice A n c, .int .i64 (S.readF s).2.2, .int .i64 (S.readF s).1]) ∧ (S.readF s).2.1.length = n ∧ Own w' w.heap.size 5 1 A n c (ints .u8 (S.readF s).2.1) ∧ Below w.heap.size w w' := by
  obtain ⟨m, D, hm, hF⟩ := h.at_
  exact fread_any s (by omega) hF
theorem stamp_h (h : FsH w0 w fb mb S k) (s : ByteArray) (hs : s.size ≤ 1000) :
    Calls Try.prog 25 #[.pointer (some ⟨fb, 0, none⟩), .string s] w fun e w' => e = .returned (.int .i64 (S.st s)) ∧ w = w' := by
  obtain ⟨m, D, hm, hF⟩ := h.at_
  exact stamp_any s (Nat.le_trans hs (by decide)) hF
theorem used_h (h : FsH w0 w fb mb S k) :
    Calls Try.prog 26 #[.pointer (some ⟨fb, 0, none⟩)] w fun e w' => e = .returned (.int .i64 S.used) ∧ w = w' := by
  obtain ⟨m, D, hm, hF⟩ := h.at_
  exact used_any hF
theorem cut_h (h : FsH w0 w fb mb S k) (hk : k ≤ 4999) (x : Int) :
    Calls Try.prog 21 #[.pointer (some ⟨fb, 0, none⟩), .int .i64 x] w fun e w' => e = .returned (.tuple #[]) ∧ FsH w0 w' fb mb { S with cuts := true, cut := max x 0 } (k + 1) ∧ Only [fb, mb] w w' := by
  obtain ⟨m, D, hm, hF⟩ := h.at_
  refine (setcut_any x hF).mono ?_
  rintro e w' ⟨rfl, hF', ho⟩
  have ho2 : Only [fb, mb] w w' := ho.more (by intro b hb; left; simp at hb ⊢; exact .inl hb)
  exact ⟨rfl, h.done hk ((h.fin.cutF x).more (by omega) (by omega) (by omega)) hm ⟨⟨m, D, by omega, hF', fun _ _ h => h⟩, ho2⟩, ho2⟩
theorem room_h (h : FsH w0 w fb mb S k) (hk : k ≤ 4999) (x : Int) :
    Calls Try.prog 19 #[.pointer (some ⟨fb, 0, none⟩), .int .i64 x] w fun e w' => e = .returned (.tuple #[]) ∧ FsH w0 w' fb mb { S with room := roomOf x } (k + 1) ∧ Only [fb, mb] w w' := by
  obtain ⟨m, D, hm, hF⟩ := h.at_
  refine (room_any x hF).mono ?_
  rintro e w' ⟨rfl, hF', ho⟩
  have ho2 : Only [fb, mb] w w' := ho.more (by intro b hb; left; simp at hb ⊢; exact .inl hb)
  exact ⟨rfl, h.done hk ((h.fin.roomF (roomOf x) (by unfold roomOf; omega) (by unfold roomOf; omega)).more (by omega) (by omega) (by omega)) hm ⟨⟨m, D, by omega, hF', fun _ _ h => h⟩, ho2⟩, ho2⟩
end
theorem Grd.nil (w : World) : Grd w none 0 [] := ⟨Rd.nil w 2 none, rfl, (fun x hx => absurd hx (by simp)), (by omega), (fun ad h => absurd h (by simp))⟩
/-- A literal row of one guard. -/
theorem Grd.one {w : World} {t : TypeId} {g : Nat} (hg : g = w.heap.size) (s : ByteArray) (hs : s.size ≤ 140737488355328) (st : Int) : Grd (w.alloc (.cells #[.string s, .int .i64 st] t)) (some ⟨g, 0, none⟩) 1 [(s, st)] := by
  subst hg
  exact ⟨Rd.lit w #[.string s, .int .i64 st] t (0, 0) 2 1 rfl, rfl, fun x hx => by simp at hx; subst hx; exact hs, by omega, fun ad h h0 => ⟨_, _, (Option.some.inj h).symm⟩⟩
end Go.Proofs.Ytkbgedaogfcdnaa
