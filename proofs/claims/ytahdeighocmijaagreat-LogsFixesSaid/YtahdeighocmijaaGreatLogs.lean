/- logs: the fix and its steps. -/
import Derived.Test.YtahdeighocmijaaGreatLogsP
import Derived.Test.YtahdeighocmijaaGreatLast
import Derived.Test.YtahdeighocmijaaGreatSame
import Derived.Test.YtahdeighocmijaaGreatTrace2
namespace Go.Proofs.YtahdeighocmijaaGreat
set_option linter.unusedSimpArgs false
set_option linter.unusedVariables false
open Go.RowKit
open Crc (Bytes)

/-- What lies below a base, but for a few blocks, is as it was. -/
structure OnlyB (base : Nat) (bs : List Nat) (w w' : World) : Prop where
  os : w'.os = w.os
  tape : w'.tape = w.tape
  output : w'.output = w.output
  size : w.heap.size ≤ w'.heap.size
  block : ∀ k, k < base → k ∉ bs → w'.heap[k]? = w.heap[k]?
theorem OnlyB.refl (base : Nat) (bs : List Nat) (w : World) : OnlyB base bs w w := ⟨rfl, rfl, rfl, Nat.le_refl _, fun _ _ _ => rfl⟩
theorem OnlyB.trans {base : Nat} {bs : List Nat} {w w1 w2 : World} (h : OnlyB base bs w w1) (k : OnlyB base bs w1 w2) : OnlyB base bs w w2 :=
  ⟨k.os.trans h.os, k.tape.trans h.tape, k.output.trans h.output, Nat.le_trans h.size k.size, fun i hi hn => (k.block i hi hn).trans (h.block i hi hn)⟩
theorem OnlyB.of {base : Nat} {bs cs : List Nat} {w w' : World} (h : Only cs w w') (hw : base ≤ w.heap.size) (hc : ∀ b ∈ cs, b ∈ bs ∨ base ≤ b) : OnlyB base bs w w' :=
  ⟨h.os, h.tape, h.output, h.size, fun i hi hn => h.block i (Nat.lt_of_lt_of_le hi hw) (fun hin => by rcases hc i hin with h1 | h1; exact hn h1; omega)⟩
theorem OnlyB.below {base B : Nat} {bs : List Nat} {w w' : World} (h : Below B w w') (hw : base ≤ B) : OnlyB base bs w w' :=
  ⟨h.os, h.tape, h.output, h.size, fun i hi _ => h.block i (by omega)⟩
structure FixAt (W : World) (base xb : Nat) (s : Fix) : Prop where
  ex : ∃ GA gn gc BA bn bc, Blk W xb 75 [.slice GA gn gc, .string s.temp, .int .i64 s.at_, .int .i64 s.told, .slice BA bn bc, .string s.tn, .int .i64 s.ts] ∧ Own W base 39 2 GA gn gc (gcells s.gs) ∧ Bs W BA bn s.b ∧ U8 W BA bn
  hb : base ≤ xb
  nm : ∀ x ∈ s.gs, x.1.size ≤ 1000
  g4 : s.gs.length ≤ 4
  tz : s.temp.size ≤ 1000
  bz : s.b.length ≤ 100000
theorem gcells_len (gs : List (ByteArray × Int)) : (gcells gs).length = gs.length * 2 := by
  induction gs with
  | nil => rfl
  | cons x xs ih => unfold gcells at *; simp only [List.flatMap_cons, List.length_append, ih, List.length_cons, List.length_nil]; omega
theorem gcells_snoc (gs : List (ByteArray × Int)) (x : ByteArray × Int) : gcells (gs ++ [x]) = gcells gs ++ [.string x.1, .int .i64 x.2] := by unfold gcells; simp
theorem grd_own {W : World} {base gn gc : Nat} {GA : Option Addr} {gs : List (ByteArray × Int)} (h : Own W base 39 2 GA gn gc (gcells gs)) (hn : ∀ x ∈ gs, x.1.size ≤ 1000) (h4 : gs.length ≤ 4) : Grd W GA gn gs := by
  have hl : gs.length = gn := by have := h.rd.len; rw [gcells_len] at this; omega
  exact ⟨h.rd, hl, fun x hx => by have := hn x hx; omega, by omega, fun ad hA h0 => by
    obtain ⟨g, hg, _⟩ := h.some (by omega)
    rw [hg] at hA; injection hA with hA; subst hA; exact ⟨_, _, rfl⟩⟩
set_option maxRecDepth 100000 in
theorem to_any (xb : Nat) (v0 v1 v3 v4 v5 v6 : Value) (a : Int) (w : World) (h : Blk w xb 75 [v0, v1, .int .i64 a, v3, v4, v5, v6]) (q : Int) :
    Calls Tryz.prog 31 #[.pointer (some ⟨xb, 0, none⟩), .int .i64 q] w fun e w' => e = .returned (.int .i64 0) ∧ Blk w' xb 75 [v0, v1, .int .i64 q, v3, v4, v5, v6] ∧ Only [xb] w w' := by
  have c2 : w.cell? ⟨xb, 2, none⟩ = some (.int .i64 a) := h.cell 2
  have z2 := h.frozen 2
  have H := Lib.hid h
  clear h
  go_enter Tryz.func31, Tryz.ntmps31
  go_wp2_with fail
  go_ret
  exact ⟨rfl, H.out.set_ 2 _, (Only.refl _ _).setCell (.inl (by simp)) _⟩
set_option maxRecDepth 100000 in
theorem end_any (xb : Nat) (v0 v1 v4 v5 v6 : Value) (a t : Int) (w : World) (h : Blk w xb 75 [v0, v1, .int .i64 a, .int .i64 t, v4, v5, v6]) (q : Int) :
    Calls Tryz.prog 32 #[.pointer (some ⟨xb, 0, none⟩), .int .i64 q] w fun e w' => e = .returned (.int .i64 q) ∧ Blk w' xb 75 [v0, v1, .int .i64 4, .int .i64 q, v4, v5, v6] ∧ Only [xb] w w' := by
  have c2 : w.cell? ⟨xb, 2, none⟩ = some (.int .i64 a) := h.cell 2
  have z2 := h.frozen 2
  have c3 : w.cell? ⟨xb, 3, none⟩ = some (.int .i64 t) := h.cell 3
  have z3 := h.frozen 3
  have H := Lib.hid h
  clear h
  go_enter Tryz.func32, Tryz.ntmps32
  go_wp2_with fail
  go_ret
  exact ⟨rfl, (H.out.set_ 2 _).set_ 3 _, ((Only.refl _ _).setCell (.inl (by simp)) _).setCell (.inl (by simp)) _⟩
set_option maxRecDepth 100000 in
theorem fixnew_any (nm temp : ByteArray) (st : Int) (w : World) (hn : nm.size ≤ 1000) (ht : temp.size ≤ 1000) :
    Calls Tryz.prog 12 #[.agg #[.string nm, .int .i64 st], .string temp] w fun e w' => ∃ xb, e = .returned (.pointer (some ⟨xb, 0, none⟩)) ∧ FixAt w' w.heap.size xb ⟨[(nm, st)], temp, 0, 0, [], ⟨#[]⟩, 0⟩ ∧ Below w.heap.size w w' := by
  go_enter Tryz.func12, Tryz.ntmps12
  go_wp2_with fail
  go_ret
  have h1 := Own.lit (base := w.heap.size) (w.alloc (Obj.cells #[.string nm, .int .i64 st] 39)) [.string nm, .int .i64 st] 39 2 1 (by simp) rfl (by decide)
  have h2 := Blk.new ((w.alloc (Obj.cells #[.string nm, .int .i64 st] 39)).alloc (Obj.cells #[.string nm, .int .i64 st] 39)) 75 [.slice (some ⟨w.heap.size + 1, 0, none⟩) 1 1, .string temp, .int .i64 0, .int .i64 0, .slice none 0 0, .string ⟨#[]⟩, .int .i64 0]
  rw [World.size_alloc, World.size_alloc] at h2
  rw [World.size_alloc] at h1
  exact ⟨w.heap.size + 1 + 1, rfl, ⟨⟨some ⟨w.heap.size + 1, 0, none⟩, 1, 1, none, 0, 0, h2, h1.alloc _, Bs.nil _ _, fun ad h => by cases h⟩, by omega, fun x hx => by simp at hx; subst hx; exact hn, by simp, ht, by simp⟩, bl_alloc (bl_alloc (bl_alloc (Below.refl _ _)))⟩
theorem fix_turn {w1 w2 : World} {base xb : Nat} {old : List Value} {GA : Option Addr} {gn gc : Nat} {BA : Option Addr} {bn bc : Nat} {s : Fix} (h : Blk w1 xb 75 old) (hg : Own w1 base 39 2 GA gn gc (gcells s.gs)) (hb : Bs w1 BA bn s.b) (hu : U8 w1 BA bn) (ho : Only [xb] w1 w2)
    (hn : Blk w2 xb 75 [.slice GA gn gc, .string s.temp, .int .i64 s.at_, .int .i64 s.told, .slice BA bn bc, .string s.tn, .int .i64 s.ts]) (h1 : base ≤ xb) (h2 : ∀ x ∈ s.gs, x.1.size ≤ 1000) (h3 : s.gs.length ≤ 4) (h4 : s.temp.size ≤ 1000) (h5 : s.b.length ≤ 100000) : FixAt w2 base xb s := by
  refine ⟨⟨GA, gn, gc, BA, bn, bc, hn, hg.keep (fun q hq => ho.block q (hg.blk q hq).2 ?_), hb.only ho (by simpa using hu.ne h (by decide)), hu.keep (fun ad hA h1 => ho.block _ (hu.lt ad hA h1) (by simpa using hu.ne h (by decide) ad hA h1))⟩, h1, h2, h3, h4, h5⟩
  simp only [List.mem_singleton]
  rintro rfl
  obtain ⟨cs, fr, e2⟩ := own_at hg hq
  rw [h.at_] at e2
  injection e2 with e2
  injection e2 with _ e3
  exact absurd e3 (by decide)
structure XDid (w0 : World) (base fb mb xb : Nat) (w w' : World) (e : Ending) (k : Int) (S : Fs) (n : Nat) (s : Fix) : Prop where
  ret : e = .returned (.int .i64 k)
  h : FsH w0 w' fb mb S n
  x : FixAt w' base xb s
  o : OnlyB base [fb, mb] w w'
theorem FixAt.fs {w0 w w1 : World} {base fb mb xb k : Nat} {S : Fs} {s : Fix} (hX : FixAt w base xb s) (h : FsH w0 w fb mb S k) (ho : Only [fb, mb] w w1) : FixAt w1 base xb s := by
  obtain ⟨⟨GA, gn, gc, BA, bn, bc, h1, h2, h3, h4⟩, h5, h6, h7, h8, h9⟩ := hX
  refine ⟨⟨GA, gn, gc, BA, bn, bc, h1.only ho (h.ne h1.at_ (by decide)), h2.keep (fun q hq => ho.block q (h2.blk q hq).2 ?_), h.bs h3 h4 ho, h.u8 h4 ho⟩, h5, h6, h7, h8, h9⟩
  obtain ⟨cs, fr, e⟩ := own_at h2 hq
  exact h.ne e (by decide)
theorem to_x {w0 w : World} {base fb mb xb k : Nat} {S : Fs} {s : Fix} (hH : FsH w0 w fb mb S k) (hX : FixAt w base xb s) (hw : w0.heap.size ≤ base) (hbw : base ≤ w.heap.size) (q : Int) :
    Calls Tryz.prog 31 #[.pointer (some ⟨xb, 0, none⟩), .int .i64 q] w fun e w' => XDid w0 base fb mb xb w w' e 0 S k { s with at_ := q } := by
  obtain ⟨⟨GA, gn, gc, BA, bn, bc, h1, h2, h3, h4⟩, h5, h6, h7, h8, h9⟩ := hX
  refine (to_any xb _ _ _ _ _ _ _ _ h1 q).mono ?_
  rintro e w2 ⟨rfl, hbk, hon⟩
  exact ⟨rfl, hH.turn hon h1 (by decide) (by decide) (by omega), fix_turn (s := { s with at_ := q }) h1 h2 h3 h4 hon hbk h5 h6 h7 h8 h9, OnlyB.of hon hbw (by simp; omega)⟩
theorem end_x {w0 w : World} {base fb mb xb k : Nat} {S : Fs} {s : Fix} (hH : FsH w0 w fb mb S k) (hX : FixAt w base xb s) (hw : w0.heap.size ≤ base) (hbw : base ≤ w.heap.size) (q : Int) :
    Calls Tryz.prog 32 #[.pointer (some ⟨xb, 0, none⟩), .int .i64 q] w fun e w' => XDid w0 base fb mb xb w w' e q S k { s with at_ := 4, told := q } := by
  obtain ⟨⟨GA, gn, gc, BA, bn, bc, h1, h2, h3, h4⟩, h5, h6, h7, h8, h9⟩ := hX
  refine (end_any xb _ _ _ _ _ _ _ _ h1 q).mono ?_
  rintro e w2 ⟨rfl, hbk, hon⟩
  exact ⟨rfl, hH.turn hon h1 (by decide) (by decide) (by omega), fix_turn (s := { s with at_ := 4, told := q }) h1 h2 h3 h4 hon hbk h5 h6 h7 h8 h9, OnlyB.of hon hbw (by simp; omega)⟩
/-- The trace's guard written. -/
theorem tset_x {w0 w : World} {base fb mb xb k : Nat} {S : Fs} {s : Fix} (hH : FsH w0 w fb mb S k) (hX : FixAt w base xb s) (hw : w0.heap.size ≤ base) (hbw : base ≤ w.heap.size) (nm : ByteArray) (st : Int) :
    FsH w0 ((w.setCell ⟨xb, 5, none⟩ (.string nm)).setCell ⟨xb, 6, none⟩ (.int .i64 st)) fb mb S k ∧ FixAt ((w.setCell ⟨xb, 5, none⟩ (.string nm)).setCell ⟨xb, 6, none⟩ (.int .i64 st)) base xb { s with tn := nm, ts := st } ∧ OnlyB base [fb, mb] w ((w.setCell ⟨xb, 5, none⟩ (.string nm)).setCell ⟨xb, 6, none⟩ (.int .i64 st)) := by
  obtain ⟨⟨GA, gn, gc, BA, bn, bc, h1, h2, h3, h4⟩, h5, h6, h7, h8, h9⟩ := hX
  have hon : Only [xb] w ((w.setCell ⟨xb, 5, none⟩ (.string nm)).setCell ⟨xb, 6, none⟩ (.int .i64 st)) := ((Only.refl _ _).setCell (.inl (by simp)) _).setCell (.inl (by simp)) _
  exact ⟨hH.turn hon h1 (by decide) (by decide) (by omega), fix_turn (s := { s with tn := nm, ts := st }) h1 h2 h3 h4 hon ((h1.set_ 5 _).set_ 6 _) h5 h6 h7 h8 h9, OnlyB.of hon hbw (by simp; omega)⟩
theorem XDid.after {w0 w w1 w2 : World} {base fb mb xb n : Nat} {S : Fs} {s : Fix} {e : Ending} {k : Int} (h : XDid w0 base fb mb xb w1 w2 e k S n s) (ho : OnlyB base [fb, mb] w w1) : XDid w0 base fb mb xb w w2 e k S n s := ⟨h.ret, h.h, h.x, ho.trans h.o⟩
theorem OnlyB.fs {w w1 : World} {base fb mb : Nat} (ho : Only [fb, mb] w w1) (hb : base ≤ w.heap.size) : OnlyB base [fb, mb] w w1 := OnlyB.of ho hb fun b h => .inl h
theorem keep7 {W w' : World} {g : Nat} {t : TypeId} {v0 v1 v2 v3 v4 v5 v6 : Value} (h : Blk W g t [v0, v1, v2, v3, v4, v5, v6]) (hb : Below W.heap.size W w') : w'.cell? ⟨g, 0, none⟩ = some v0 ∧ w'.cell? ⟨g, 5, none⟩ = some v5 ∧ w'.cell? ⟨g, 6, none⟩ = some v6 ∧ Below W.heap.size W w' :=
  ⟨(hb.cell (p := ⟨g, 0, none⟩) h.lt).trans (h.cell 0), (hb.cell (p := ⟨g, 5, none⟩) h.lt).trans (h.cell 5), (hb.cell (p := ⟨g, 6, none⟩) h.lt).trans (h.cell 6), hb⟩
theorem guInfo : (Tryz.prog.info? 39).map (fun i => (i.zero, i.size, i.bytes)) = some (some (.agg #[.string ⟨#[]⟩, .int .i64 0]), 2, 24) := by kernel_rfl
set_option maxRecDepth 100000 in
set_option maxHeartbeats 4000000 in
theorem fixread_any {w0 w : World} {base fb mb xb k : Nat} {S : Fs} {s : Fix} (ds : List Dn) (r : List Int) (hH : FsH w0 w fb mb S k) (hX : FixAt w base xb s) (hw : w0.heap.size ≤ base) (hbw : base ≤ w.heap.size) (hg : s.gs.length ≤ 3)
    (ht : (S.readF nmT).1 = 0 → (S.readF nmT).2.1 = tr ds ++ r ∧ Dns ds ∧ NoD r ∧ (tr ds ++ r).length ≤ 100000) :
    Calls Tryz.prog 30 #[.pointer (some ⟨xb, 0, none⟩), .pointer (some ⟨fb, 0, none⟩)] w fun e w' => XDid w0 base fb mb xb w w' e (readX S s ds r).1 S k (readX S s ds r).2 := by
  obtain ⟨⟨GA, gn, gc, BA, bn, bc, hblk, hgo, hbb, hbu⟩, hxb, hnm, hg4, htz, hbz⟩ := hX
  have HH := Lib.hid hH
  have HB := Lib.hid hblk
  have HG := Lib.hid hgo
  have HBB := Lib.hid hbb
  have HBU := Lib.hid hbu
  have HN := Lib.hid hnm
  have HT := Lib.hid ht
  obtain ⟨e0, he0⟩ : ∃ e0, (S.readF nmT).1 = e0 := ⟨_, rfl⟩
  obtain ⟨st, hst⟩ : ∃ st, (S.readF nmT).2.2 = st := ⟨_, rfl⟩
  have hgl : s.gs.length = gn := by have := hgo.rd.len; rw [gcells_len] at this; omega
  have He0 := Lib.hid he0
  have Hst := Lib.hid hst
  clear hH hblk hgo hbb hbu hnm ht he0 hst
  go_enter Tryz.func30, Tryz.ntmps30
  go_wp2_with fail
  refine (read_h HH.out nmT (by decide)).mono ?_
  rintro e w1 ⟨A, n, c, rfl, hn, hown, hb1⟩
  rw [He0.out, Hst.out]
  have HB1 := Lib.hid (HB.out.below hb1)
  have HG1 := Lib.hid (HG.out.below hb1)
  have HBB1 := Lib.hid (HBB.out.below hb1)
  have HBU1 := Lib.hid (HBU.out.below hb1)
  have HH1 := Lib.hid (HH.out.below hb1)
  have Hb1 := Lib.hid hb1
  have hsz1 := hb1.size
  by_cases h0 : e0 = 0
  rotate_left
  · have hbe : (e0 == 0) = false := by rw [beq_eq_false_iff_ne]; exact h0
    have hr := Lib.hid (show readX S s ds r = (0, { s with at_ := 1 }) by unfold readX; rw [He0.out, if_pos h0])
    clear hb1 hown hn
    go_wp2_with fail
    refine (to_any xb _ _ _ _ _ _ _ _ HB1.out 1).mono ?_
    rintro e w2 ⟨rfl, hbk2, hon2⟩
    have hwx : w0.heap.size ≤ xb := by omega
    have HF := Lib.hid (HH1.out.turn hon2 HB1.out (by decide) (by decide) hwx)
    have HX := Lib.hid (fix_turn (s := { s with at_ := 1 }) HB1.out HG1.out HBB1.out HBU1.out hon2 hbk2 hxb HN.out hg4 htz hbz)
    have HO := Lib.hid (show OnlyB base [fb, mb] w w2 from (OnlyB.below Hb1.out hbw).trans (OnlyB.of hon2 (by omega) (by simp; omega)))
    clear hbk2 hon2
    go_wp2_with fail
    go_ret
    rw [hr.out]
    exact ⟨rfl, HF.out, HX.out, HO.out⟩
  obtain ⟨ht1, ht2, ht3, ht4⟩ := HT.out (by rw [He0.out]; exact h0)
  have hrd : (S.readF nmT).1 = 0 := by rw [He0.out]; exact h0
  have hnl : (tr ds ++ r).length = n := by rw [← ht1]; exact hn
  have hbyA : Bytes (S.readF nmT).2.1 := HH.out.bytes nmT
  rw [ht1] at hown
  have HA1 := Lib.hid hown
  have HD := Lib.hid ht2
  have Hr := Lib.hid ht3
  have Hnl := Lib.hid hnl
  have hn5 : n ≤ 100000 := by omega
  have htn : (tr ds).length ≤ n := by rw [List.length_append] at hnl; omega
  have hby : Bytes (tr ds ++ r) := by rw [← ht1]; exact hbyA
  have HBy := Lib.hid hby
  subst h0
  have hxw : xb < w.heap.size := HB.out.lt
  have hwx : w0.heap.size ≤ xb := by omega
  have c5 : w1.cell? ⟨xb, 5, none⟩ = some (.string s.tn) := HB1.out.cell 5
  have c6 : w1.cell? ⟨xb, 6, none⟩ = some (.int .i64 s.ts) := HB1.out.cell 6
  have z5 := HB1.out.frozen 5
  have z6 := HB1.out.frozen 6
  clear hb1 hown hn hbyA hby ht1 ht2 ht3 hnl
  go_wp2_with fail
  have hon2 : Only [xb] w1 ((w1.setCell ⟨xb, 5, none⟩ (.string ⟨#[116, 114, 97, 99, 101]⟩)).setCell ⟨xb, 6, none⟩ (.int .i64 st)) := ((Only.refl _ _).setCell (.inl (by simp)) _).setCell (.inl (by simp)) _
  have hb2 : Blk ((w1.setCell ⟨xb, 5, none⟩ (.string ⟨#[116, 114, 97, 99, 101]⟩)).setCell ⟨xb, 6, none⟩ (.int .i64 st)) xb 75 [.slice GA gn gc, .string s.temp, .int .i64 s.at_, .int .i64 s.told, .slice BA bn bc, .string nmT, .int .i64 st] := (HB1.out.set_ 5 _).set_ 6 _
  generalize hw2 : (w1.setCell ⟨xb, 5, none⟩ (.string ⟨#[116, 114, 97, 99, 101]⟩)).setCell ⟨xb, 6, none⟩ (.int .i64 st) = w2 at *
  have HX2 := Lib.hid (fix_turn (s := { s with tn := nmT, ts := st }) HB1.out HG1.out HBB1.out HBU1.out hon2 hb2 hxb HN.out hg4 htz hbz)
  have HF2 := Lib.hid (HH1.out.turn hon2 HB1.out (by decide) (by decide) hwx)
  have HA2 := Lib.hid (HA1.out.only hon2 (by simp; omega))
  have HO2 := Lib.hid (show OnlyB base [fb, mb] w w2 from (OnlyB.below Hb1.out hbw).trans (OnlyB.of hon2 (by omega) (by simp; omega)))
  have HBk2 := Lib.hid hb2
  have hsz2 : w.heap.size ≤ w2.heap.size := HO2.out.size
  clear hw2 hon2 hb2 c5 c6 z5 z6 HB1 HG1 HBB1 HBU1 HH1 HA1 Hb1
  refine (traceN_any A n c _ ds r _ (own_bs HA2.out HBy.out (by omega)) (by omega) rfl HD.out Hr.out).mono ?_
  rintro e w3 ⟨⟨Y, yc, rfl, hrow⟩, hb3⟩
  have HF3 := Lib.hid (HF2.out.below hb3)
  have HA3 := Lib.hid (HA2.out.below hb3)
  have HBk3 := Lib.hid (HBk2.out.below hb3)
  have hX3 : FixAt w3 base xb { s with tn := nmT, ts := st } := by
    obtain ⟨⟨GA', gn', gc', BA', bn', bc', q1, q2, q3, q4⟩, q5, q6, q7, q8, q9⟩ := HX2.out
    exact ⟨⟨GA', gn', gc', BA', bn', bc', q1.below hb3, q2.below hb3, q3.below hb3, q4.below hb3⟩, q5, q6, q7, q8, q9⟩
  have HX3 := Lib.hid hX3
  have HO3 := Lib.hid (show OnlyB base [fb, mb] w w3 from HO2.out.trans (OnlyB.below hb3 (by omega)))
  have hsz3 : w2.heap.size ≤ w3.heap.size := hb3.size
  clear hrow hb3 HF2 HX2 HBk2 HA2 HO2 hX3
  by_cases hr0 : r = []
  · have hR := Lib.hid (show readX S s ds r = (1, { s with at_ := 4, told := 1, tn := nmT, ts := st }) by unfold readX; rw [if_neg (by rw [hrd]; simp), if_pos hr0, Hst.out])
    have hkn : (tr ds).length = n := by rw [← Hnl.out, hr0, List.append_nil]
    subst hkn
    go_wp2_with fail
    obtain ⟨⟨GA', gn', gc', BA', bn', bc', q1, q2, q3, q4⟩, q5, q6, q7, q8, q9⟩ := HX3.out
    refine (end_any xb _ _ _ _ _ _ _ _ q1 1).mono ?_
    rintro e w4 ⟨rfl, hbk4, hon4⟩
    have HF := Lib.hid (HF3.out.turn hon4 q1 (by decide) (by decide) hwx)
    have HX := Lib.hid (fix_turn (s := { s with at_ := 4, told := 1, tn := nmT, ts := st }) q1 q2 q3 q4 hon4 hbk4 hxb HN.out hg4 htz hbz)
    have HO := Lib.hid (HO3.out.trans (OnlyB.of hon4 (by omega) (by simp; omega)))
    clear hbk4 hon4 q1 q2 q3 q4
    go_wp2_with fail
    go_ret
    rw [hR.out]
    exact ⟨rfl, HF.out, HX.out, HO.out⟩
  · have hR := Lib.hid (show readX S s ds r = (0, { s with at_ := 1, b := tr ds, gs := s.gs ++ [(nmT, st)], tn := nmT, ts := st }) by unfold readX; rw [if_neg (by rw [hrd]; simp), if_neg hr0, Hst.out])
    obtain ⟨m, hm⟩ : ∃ m, (tr ds).length = m := ⟨_, rfl⟩
    have hmn : m < n := by
      have h1 := Hnl.out
      rw [List.length_append] at h1
      have h2 : 0 < r.length := List.length_pos_iff.2 hr0
      omega
    have hbe : ((m : Int) == (n : Int)) = false := by rw [beq_eq_false_iff_ne]; omega
    have hcap := HA3.out.cap
    have hsl := fun w => slice_upto (P := Tryz.prog) (A := A) (n := n) (c := c) (kk := .i64) (k := m) Tryz.underlying23 u8s (by omega) hcap w
    have HA4 := Lib.hid (show Bs w3 A m (tr ds) from by
      have := (own_bs HA3.out HBy.out (by omega)).take (k := m) (by omega)
      rw [← hm, List.take_left, hm] at this; exact this)
    have HU4 := Lib.hid (show U8 w3 A m from fun ad hA h0 => U8.of_own HA3.out ad hA (by omega))
    rw [hm]
    clear htn
    have hmb : m ≤ 100000 := by omega
    obtain ⟨⟨GA', gn', gc', BA', bn', bc', q1, q2, q3, q4⟩, q5, q6, q7, q8, q9⟩ := HX3.out
    have hgl' : s.gs.length = gn' := by have := q2.rd.len; rw [gcells_len] at this; simp only at this; omega
    have c4 : w3.cell? ⟨xb, 4, none⟩ = some (.slice BA' bn' bc') := q1.cell 4
    have z4 := q1.frozen 4
    have Q1 := Lib.hid q1
    have Q2 := Lib.hid q2
    clear q1 q2 q3 q4 HBk3
    go_upto_region 9 with fail
    have hon4 : Only [xb] w3 (w3.setCell ⟨xb, 4, none⟩ (.slice A m c)) := (Only.refl _ _).setCell (.inl (by simp)) _
    have hb4 : Blk (w3.setCell ⟨xb, 4, none⟩ (.slice A m c)) xb 75 [.slice GA' gn' gc', .string s.temp, .int .i64 s.at_, .int .i64 s.told, .slice A m c, .string nmT, .int .i64 st] := Q1.out.set_ 4 _
    generalize hw4 : w3.setCell ⟨xb, 4, none⟩ (.slice A m c) = w4 at *
    have HF4 := Lib.hid (HF3.out.turn hon4 Q1.out (by decide) (by decide) hwx)
    have HX4 := Lib.hid (fix_turn (s := { s with b := tr ds, tn := nmT, ts := st }) Q1.out Q2.out HA4.out HU4.out hon4 hb4 hxb HN.out hg4 htz (by show (tr ds).length ≤ _; omega))
    have HO4 := Lib.hid (HO3.out.trans (OnlyB.of hon4 (by omega) (by simp; omega)))
    have hsz4 : w3.heap.size ≤ w4.heap.size := hon4.size
    clear hw4 hon4 hb4 c4 z4 Q1 Q2 HF3 HX3 HO3 HA4 HU4
    obtain ⟨⟨GB, hn, hc, CA, cn, cc, q1, q2, q3, q4⟩, -, -, -, -, -⟩ := HX4.out
    have hgl2 : s.gs.length = hn := by have := q2.rd.len; rw [gcells_len] at this; simp only at this; omega
    have hqb : Blk w4 xb 75 [.slice GB hn hc, .string s.temp, .int .i64 s.at_, .int .i64 s.told, .slice CA cn cc, .string nmT, .int .i64 st] := q1
    have Q1 := Lib.hid hqb
    have Q2 := Lib.hid (show Own w4 base 39 2 GB hn hc (gcells s.gs) from q2)
    have Q3 := Lib.hid (show Bs w4 CA cn (tr ds) from q3)
    have Q4 := Lib.hid (show U8 w4 CA cn from q4)
    have HKc := Lib.hid (fun (w' : World) (hh : w'.heap[xb]? = w4.heap[xb]?) => (show w'.cell? ⟨xb, 0, none⟩ = some (.slice GB hn hc) ∧ w'.cell? ⟨xb, 5, none⟩ = some (.string nmT) ∧ w'.cell? ⟨xb, 6, none⟩ = some (.int .i64 st) from ⟨(hqb.keep hh).cell 0, (hqb.keep hh).cell 5, (hqb.keep hh).cell 6⟩))
    have hxw4 : xb < w4.heap.size := hqb.lt
    have hbase4 : base ≤ w4.heap.size := by omega
    have hrow : ∀ q, ob GB = some q → q ≠ xb := by
      rintro q hq rfl
      obtain ⟨cs, fr, e2⟩ := own_at Q2.out hq
      rw [hqb.at_] at e2
      injection e2 with e2
      injection e2 with _ e3
      exact absurd e3 (by decide)
    clear hqb q1 q2 q3 q4
    have Hha := Lib.hid (Below.heap_alloc w4.drew (Obj.cells #[.string nmT, .int .i64 st] 39) xb hxw4)
    (refine wp_regionL (S := fun w' => w'.cell? ⟨xb, 0, none⟩ = some (.slice GB hn hc) ∧ w'.cell? ⟨xb, 5, none⟩ = some (.string nmT) ∧ w'.cell? ⟨xb, 6, none⟩ = some (.int .i64 st)) [13] (by kernel_rfl) (HKc.out _ rfl) (fun hHeld => ?_))
    (refine wpL_take (i := 0) (oi := _) (v := ?_) (ops_at rfl) (by kernel_rfl) (by kernel_rfl) (by kernel_rfl) (fun _ _ _ h => h) (by kernel_rfl) (Or.inl ⟨by rfl, ?_⟩) (by assumption) ?_; rotate_left; (focus (intro w hSw; (try dsimp only at hSw); go_simp; (try with_reducible rfl))); (try simp only [Act.put, List.setIfInBounds_toArray, List.set_cons_zero, List.set_cons_succ])); (refine wpL_take (i := 1) (oi := _) (v := ?_) (ops_at rfl) (by kernel_rfl) (by kernel_rfl) (by kernel_rfl) (fun _ _ _ h => h) (by kernel_rfl) (Or.inl ⟨by rfl, ?_⟩) (by assumption) ?_; rotate_left; (focus (intro w hSw; (try dsimp only at hSw); go_simp; (try with_reducible rfl))); (try simp only [Act.put, List.setIfInBounds_toArray, List.set_cons_zero, List.set_cons_succ])); (refine wpL_take (i := 2) (oi := _) (v := ?_) (ops_at rfl) (by kernel_rfl) (by kernel_rfl) (by kernel_rfl) (fun _ _ _ h => h) (by kernel_rfl) (Or.inl ⟨by rfl, ?_⟩) (by assumption) ?_; rotate_left; (focus (intro w hSw; (try dsimp only at hSw); go_simp; (try with_reducible rfl))); (try simp only [Act.put, List.setIfInBounds_toArray, List.set_cons_zero, List.set_cons_succ])); (refine wpL_take (i := 3) (oi := _) (v := ?_) (ops_at rfl) (by kernel_rfl) (by kernel_rfl) (by kernel_rfl) (fun _ _ _ h => h) (by kernel_rfl) (Or.inl ⟨by rfl, ?_⟩) (by assumption) ?_; rotate_left; (focus (intro w hSw; (try dsimp only at hSw); go_simp; (try with_reducible rfl))); (try simp only [Act.put, List.setIfInBounds_toArray, List.set_cons_zero, List.set_cons_succ])); (refine wpL_take (i := 4) (oi := _) (v := ?_) (ops_at rfl) (by kernel_rfl) (by kernel_rfl) (by kernel_rfl) (fun _ _ _ h => h) (by kernel_rfl) (Or.inl ⟨by rfl, ?_⟩) (by assumption) ?_; rotate_left; (focus (intro w hSw; (try dsimp only at hSw); go_simp; (try with_reducible rfl))); (try simp only [Act.put, List.setIfInBounds_toArray, List.set_cons_zero, List.set_cons_succ])); (refine wpL_take (i := 5) (oi := _) (v := ?_) (ops_at rfl) (by kernel_rfl) (by kernel_rfl) (by kernel_rfl) (fun _ _ _ h => h) (by kernel_rfl) (Or.inl ⟨by rfl, ?_⟩) (by assumption) ?_; rotate_left; (focus (intro w hSw; (try dsimp only at hSw); go_simp; (try with_reducible rfl))); (try simp only [Act.put, List.setIfInBounds_toArray, List.set_cons_zero, List.set_cons_succ])); (refine wpL_take (i := 6) (oi := _) (v := ?_) (ops_at rfl) (by kernel_rfl) (by kernel_rfl) (by kernel_rfl) (fun _ _ _ h => h) (by kernel_rfl) (Or.inl ⟨by rfl, ?_⟩) (by assumption) ?_; rotate_left; (focus (intro w hSw; (try dsimp only at hSw); go_simp; (try with_reducible rfl))); (try simp only [Act.put, List.setIfInBounds_toArray, List.set_cons_zero, List.set_cons_succ])); (refine wpL_take (i := 7) (oi := _) (v := ?_) (ops_at rfl) (by kernel_rfl) (by kernel_rfl) (by kernel_rfl) (fun _ _ _ h => h) (by kernel_rfl) (Or.inl ⟨by rfl, ?_⟩) (by assumption) ?_; rotate_left; (focus (intro w hSw; (try dsimp only at hSw); go_simp; (try with_reducible rfl))); (try simp only [Act.put, List.setIfInBounds_toArray, List.set_cons_zero, List.set_cons_succ])); (refine wpL_take (i := 8) (oi := _) (v := ?_) (ops_at rfl) (by kernel_rfl) (by kernel_rfl) (by kernel_rfl) (fun _ _ _ h => h) (by kernel_rfl) (Or.inl ⟨by rfl, ?_⟩) (by assumption) ?_; rotate_left; (focus (intro w hSw; (try dsimp only at hSw); go_simp; (try with_reducible rfl))); (try simp only [Act.put, List.setIfInBounds_toArray, List.set_cons_zero, List.set_cons_succ]))
    (refine wpL_one (i := 9) (by kernel_rfl) (ops_at rfl) (fun K hK => ?_); go_simp; skip; refine hK.out _ _ (HKc.out _ (Hha.out.trans rfl)) (fun hHeld => ?_); clear hK K; (try simp only [Act.put, List.setIfInBounds_toArray, List.set_cons_zero, List.set_cons_succ]))
    (refine wpL_one (i := 10) (by kernel_rfl) (ops_at rfl) (fun K hK => ?_); rw [if_pos (by rfl)]; refine wp_app (.tmp 46) (.tmp 51) 53 rfl Tryz.underlying53 guInfo rfl (by decide) rfl (Q2.out.drew.alloc _) rfl (Rd.lit w4.drew #[.string nmT, .int .i64 st] 39 (0, 0) 2 1 rfl) (by simp [Value.oneCell']) (by omega) (by omega) (by simp; omega) rfl (show gcells s.gs ++ #[Value.string nmT, .int .i64 st].toList = gcells (s.gs ++ [(nmT, st)]) from (gcells_snoc s.gs (nmT, st)).symm) ?_; intro GC gcc w5 hown5 hg5 hob5; refine hK.out _ _ (HKc.out _ ((hg5.block xb (by simp; omega) (fun e => hrow _ e.symm rfl)).trans (Hha.out.trans rfl))) (fun hHeld => ?_); clear hK K; (try simp only [Act.put, List.setIfInBounds_toArray, List.set_cons_zero, List.set_cons_succ]))
    have hx5 : w5.heap[xb]? = w4.heap[xb]? := (hg5.block xb (by simp; omega) (fun e => hrow _ e.symm rfl)).trans (Hha.out.trans rfl)
    have HB5 := Lib.hid (Q1.out.keep hx5)
    have z5 := HB5.out.frozen 0
    have HG5 := Lib.hid hown5
    have Hg5 := Lib.hid hg5
    have hsz5 : w4.heap.size + 1 ≤ w5.heap.size := by have := hg5.size; simpa using this
    (refine wpL_one (i := 11) (by kernel_rfl) (ops_at rfl) (fun K hK => ?_); go_simp; skip; refine hK.out _ _ (hHeld) (fun hHeld => ?_); clear hK K; (try simp only [Act.put, List.setIfInBounds_toArray, List.set_cons_zero, List.set_cons_succ]))
    (refine wpL_one (i := 12) (by kernel_rfl) (ops_at rfl) (fun K hK => ?_); go_simp; skip; refine hK.out _ _ (hHeld) (fun hHeld => ?_); clear hK K; (try simp only [Act.put, List.setIfInBounds_toArray, List.set_cons_zero, List.set_cons_succ]))
    (refine wpL_late (i := 13) (by kernel_rfl) (by simp) (ops_at rfl) (fun K hK => ?_); go_simp; skip; refine hK.out _ _ ?_; clear hK K; (try simp only [Act.put, List.setIfInBounds_toArray, List.set_cons_zero, List.set_cons_succ]))
    (refine wpL_done (by kernel_rfl) ?_ _)
    have hal : Below w4.heap.size w4 (w4.alloc (Obj.cells #[.string nmT, .int .i64 st] 39)).drew := (bl_alloc (Below.refl _ _)).drew
    have hrw : ∀ k, ob GB = some k → base ≤ k ∧ ∃ t cs fr, (w4.alloc (Obj.cells #[.string nmT, .int .i64 st] 39)).drew.heap[k]? = some (Obj.cells cs t fr) ∧ t ≠ 5 ∧ t ≠ 56 := fun k hk => by
      obtain ⟨cs, fr, e⟩ := own_at ((Q2.out.alloc (Obj.cells #[.string nmT, .int .i64 st] 39)).drew) hk
      exact ⟨(Q2.out.blk k hk).1, _, cs, fr, e, by decide, by decide⟩
    have hF5 : FsH w0 w5 fb mb S k := (HF4.out.below hal).grown Hg5.out (fun g hg => ⟨by have := (hrw g hg).1; omega, (hrw g hg).2⟩)
    have hkp := (Q4.out.below hal).grown Hg5.out (fun k hk => by obtain ⟨-, t, cs, fr, e, h1, -⟩ := hrw k hk; exact ⟨t, cs, fr, e, h1⟩)
    have hb5 : Bs w5 CA cn (tr ds) := ⟨(Q3.out.below hal).rd.keep Hg5.out.size hkp, Q3.out.by_, Q3.out.le⟩
    have hu5 : U8 w5 CA cn := (Q4.out.below hal).keep hkp
    have hon6 : Only [xb] w5 (w5.setCell ⟨xb, 0, none⟩ (.slice GC (hn + 1) gcc)) := (Only.refl _ _).setCell (.inl (by simp)) _
    have hb6 : Blk (w5.setCell ⟨xb, 0, none⟩ (.slice GC (hn + 1) gcc)) xb 75 [.slice GC (hn + 1) gcc, .string s.temp, .int .i64 s.at_, .int .i64 s.told, .slice CA cn cc, .string nmT, .int .i64 st] := HB5.out.set_ 0 _
    have HX6 := Lib.hid (fix_turn (s := { s with b := tr ds, gs := s.gs ++ [(nmT, st)], tn := nmT, ts := st }) HB5.out HG5.out hb5 hu5 hon6 hb6 hxb (fun x hx => by
      rcases List.mem_append.1 hx with h1 | h1
      · exact q6 x h1
      · simp at h1; subst h1; show nmT.size ≤ 1000; decide) (by simp; omega) htz (by show (tr ds).length ≤ _; omega))
    have HF6 := Lib.hid (hF5.turn hon6 HB5.out (by decide) (by decide) hwx)
    have hO5 : OnlyB base [fb, mb] w4 w5 := ⟨Hg5.out.os.trans hal.os, Hg5.out.tape.trans hal.tape, Hg5.out.output.trans hal.output, by omega, fun i hi _ => (Hg5.out.block i (by have := hal.size; omega) (fun e => by have := (hrw i e.symm).1; omega)).trans (hal.block i (by omega))⟩
    have HO6 := Lib.hid ((HO4.out.trans hO5).trans (OnlyB.of hon6 (show base ≤ w5.heap.size by omega) (by simp; omega)))
    have hsz6 : base ≤ (w5.setCell ⟨xb, 0, none⟩ (.slice GC (hn + 1) gcc)).heap.size := by have := hon6.size; omega
    generalize hw6 : w5.setCell ⟨xb, 0, none⟩ (.slice GC (hn + 1) gcc) = w6 at *
    clear hw6 hF5 hkp hb5 hu5 hon6 hb6 hO5 hown5 hg5 hx5
    clear hHeld
    go_wp2_with fail
    refine (to_x HF6.out HX6.out hw hsz6 1).mono ?_
    rintro e w7 h
    obtain rfl := h.ret
    have HD7 := Lib.hid (h.after HO6.out)
    clear h
    go_wp2_with fail
    go_ret
    rw [hR.out]
    exact HD7.out
end Go.Proofs.YtahdeighocmijaaGreat
