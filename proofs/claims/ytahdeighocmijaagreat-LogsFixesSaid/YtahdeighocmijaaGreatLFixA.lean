/- LogsFixes: what is kept along a round. LogsFixes: its outer loop: the frame, and what holds at each round. -/
import Derived.Test.YtahdeighocmijaaGreatFixP
namespace Go.Proofs.YtahdeighocmijaaGreat
set_option linter.unusedSimpArgs false
set_option linter.unusedVariables false
open Go.RowKit
open Crc (Bytes)

theorem tr_ge (ds : List Dn) : ds.length ≤ (tr ds).length := by
  induction ds with
  | nil => simp
  | cons d ds ih =>
    have e : tr (d :: ds) = framed d.raw ++ tr ds := by simp [tr]
    rw [e, List.length_append, List.length_cons, framed_len]; omega
/-- What lies beside the files: the guard, the row that is wanted, the bytes that were put. -/
structure Pad (w W : World) (fb mb g : Nat) (st : Int) (TA : Option Addr) (tn : Nat) (tb : List Int) (NA : Option Addr) (nn nc : Nat) (ds : List Dn) (S : Fs) (k : Nat) : Prop where
  fs : FsH w W fb mb S k
  g_ : Blk W g 39 [.string nmL, .int .i64 st]
  hg : w.heap.size ≤ g
  want : DRow W w.heap.size NA nn nc ds
  tb : Bs W TA tn tb
  u8 : U8 W TA tn
section
variable {w W W' : World} {fb mb g tn nn nc k k' base : Nat} {st : Int} {TA NA : Option Addr} {tb : List Int} {ds : List Dn} {S S' : Fs}
theorem Pad.below (h : Pad w W fb mb g st TA tn tb NA nn nc ds S k) (hb : Below W.heap.size W W') : Pad w W' fb mb g st TA tn tb NA nn nc ds S k :=
  ⟨h.fs.below hb, h.g_.below hb, h.hg, h.want.below hb, h.tb.below hb, h.u8.below hb⟩
theorem Pad.onlyB (h : Pad w W fb mb g st TA tn tb NA nn nc ds S k) (hs : W.heap.size = base) (ho : OnlyB base [fb, mb] W W') (hf : FsH w W' fb mb S' k') : Pad w W' fb mb g st TA tn tb NA nn nc ds S' k' := by
  have hk : ∀ ad, TA = some ad → 0 < tn → W'.heap[ad.block]? = W.heap[ad.block]? := fun ad hA h0 => by
    obtain ⟨cs, fr, e⟩ := h.u8 ad hA h0
    exact ho.block ad.block (by rw [← hs]; exact h.u8.lt ad hA h0) (h.fs.ne e (by decide))
  exact ⟨hf, h.g_.onlyB ho (by rw [← hs]; exact h.g_.lt) (h.fs.ne h.g_.at_ (by decide)), h.hg, h.want.onlyB h.fs hs ho, ⟨h.tb.rd.keep ho.size hk, h.tb.by_, h.tb.le⟩, h.u8.keep hk⟩
theorem Pad.set (h : Pad w W fb mb g st TA tn tb NA nn nc ds S k) (v : Int) : Pad w (W.setCell ⟨g, 1, none⟩ (.int .i64 v)) fb mb g v TA tn tb NA nn nc ds S k := by
  have ho : Only [g] W (W.setCell ⟨g, 1, none⟩ (.int .i64 v)) := (Only.refl [g] W).setCell (p := ⟨g, 1, none⟩) (.inl (by simp)) _
  have hk : ∀ ad, TA = some ad → 0 < tn → (W.setCell ⟨g, 1, none⟩ (.int .i64 v)).heap[ad.block]? = W.heap[ad.block]? := fun ad hA h0 =>
    ho.block ad.block (h.u8.lt ad hA h0) (by simp; exact h.u8.ne h.g_ (by decide) ad hA h0)
  refine ⟨h.fs.turn ho h.g_ (by decide) (by decide) h.hg, h.g_.set_ 1 _, h.hg, ?_, ⟨h.tb.rd.keep ho.size hk, h.tb.by_, h.tb.le⟩, h.u8.keep hk⟩
  obtain ⟨xs, h1, h2, h3⟩ := h.want.ex
  refine ⟨xs, h1, h2.setCell (own_ne_blk h2 h.g_ (by decide)) _, fun x hx => (h3 x hx).keep ho.size fun ad hA h0 => ho.block ad.block ((h3 x hx).u8.lt ad hA h0) (by simp; exact (h3 x hx).u8.ne h.g_ (by decide) ad hA h0)⟩
end
/-- How a round stands to the first. -/
structure RndI (hold : Bool) (q : Nat) (T : Option (List Int × Int)) (r : List Int) (was : Int) (T' : Option (List Int × Int)) (r' : List Int) (was' : Int) : Prop where
  zero : q = 0 → T' = T ∧ r' = r ∧ was' = was
  held : 1 ≤ q → hold = true → T' ≠ none ∧ r' = []
  busy : hold = false → T' = T ∧ r' = r ∧ was' = was
theorem RndI.start (hold : Bool) (T : Option (List Int × Int)) (r : List Int) (was : Int) : RndI hold 0 T r was T r was := ⟨fun _ => ⟨rfl, rfl, rfl⟩, fun h => absurd h (by omega), fun _ => ⟨rfl, rfl, rfl⟩⟩
/-- A round, held or busy. -/
structure Rnd (hold : Bool) (wh : Bool) (T : Option (List Int × Int)) (r : List Int) (was : Int) (q : Nat) (S : Fs) (ds : List Dn) (s st was' : Int) (r' : List Int) (T' : Option (List Int × Int)) (m : Nat) (X : Nat → Int × Fix × Fs) (S2 : Fs) : Prop where
  run : RndE ds r' S st m X S2 (if hold = true then 1 else 2)
  held : hold = true → ∃ ts, (X m).2.1.tn = nmT ∧ (X m).2.1.ts = ts ∧ Ahead S2 (some (tr ds, ts)) ([120], s) ds [] ts ∧ (ts == was') = wh ∧ RndI hold (q + 1) T r was (some (tr ds, ts)) [] ts
  busy : hold = false → Ahead S2 T' ([120], s) ds r' was' ∧ RndI hold (q + 1) T r was T' r' was'
theorem rnd_any {mine full hold wh : Bool} {T T' : Option (List Int × Int)} {r r' : List Int} {was was' s st : Int} {q : Nat} {S : Fs} {ds : List Dn} (hq : q ≤ 1) (hh : hold = (mine || full)) (hwh : wh = (decide (q = 1) || full)) (hf : full = true ↔ (T ≠ none ∧ r = [])) (hm : mine = true ∧ st = s ∨ mine = false ∧ st ≠ s) (hi : RndI hold q T r was T' r' was') (ha : Ahead S T' ([120], s) ds r' was') :
    ∃ m X S2, Rnd hold wh T r was q S ds s st was' r' T' m X S2 := by
  cases hold
  · have hb := hi.busy rfl
    cases mine
    · cases full
      · rcases hm with h1 | h1
        · cases h1.1
        · obtain ⟨rfl, rfl, rfl⟩ := hb
          have hw : ¬ (T' ≠ none ∧ r' = []) := fun e => by have := hf.2 e; cases this
          obtain ⟨m, X, S2, h2, h3⟩ := rnd_busy ha h1.2 hw
          exact ⟨m, X, S2, h2, (fun e => by cases e), fun _ => ⟨h3, ⟨(fun e => by omega), (fun _ e => by cases e), fun _ => ⟨rfl, rfl, rfl⟩⟩⟩⟩
      · cases hh
    · cases hh
  · have h1 : st = s ∨ (T' ≠ none ∧ r' = []) := by
      by_cases h0 : q = 0
      · obtain ⟨rfl, rfl, rfl⟩ := hi.zero h0
        rcases hm with ⟨_, h2⟩ | ⟨h2, _⟩
        · exact .inl h2
        · rw [h2] at hh; exact .inr (hf.1 (by simpa using hh.symm))
      · exact .inr (hi.held (by omega) rfl)
    obtain ⟨m, X, S2, ts, h2, h3, h4, h5, h6⟩ := rnd_held ha h1
    refine ⟨m, X, S2, h2, (fun _ => ⟨ts, h3, h4, h5, ?_, ⟨(fun e => by omega), (fun _ _ => ⟨by simp, rfl⟩), (fun e => by cases e)⟩⟩), fun e => by cases e⟩
    rw [Bool.eq_iff_iff, beq_iff_eq, h6, hwh, Bool.or_eq_true, decide_eq_true_eq]
    by_cases h0 : q = 0
    · obtain ⟨rfl, rfl, rfl⟩ := hi.zero h0
      rw [← hf]
      constructor
      · exact .inr
      · rintro (e | e)
        · omega
        · exact e
    · exact ⟨fun _ => .inl (by omega), fun _ => hi.held (by omega) rfl⟩
end Go.Proofs.YtahdeighocmijaaGreat
namespace Go.Proofs.YtahdeighocmijaaGreat
set_option linter.unusedSimpArgs false
set_option linter.unusedVariables false
open Go.RowKit
open Crc (Bytes)

theorem range_frame (t : Array Value) (N : Nat) (h : t.size = N) : t = ((List.range N).map fun k => t.getD k undef).toArray := by
  apply Array.ext
  · simp [h]
  · intro i h1 h2
    simp [Array.getD, h1]
set_option maxRecDepth 100000 in
theorem frame231 (t : Array Value) (h : t.size = 231) : t = #[t.getD 0 undef, t.getD 1 undef, t.getD 2 undef, t.getD 3 undef, t.getD 4 undef, t.getD 5 undef, t.getD 6 undef, t.getD 7 undef, t.getD 8 undef, t.getD 9 undef, t.getD 10 undef, t.getD 11 undef, t.getD 12 undef, t.getD 13 undef, t.getD 14 undef, t.getD 15 undef, t.getD 16 undef, t.getD 17 undef, t.getD 18 undef, t.getD 19 undef, t.getD 20 undef, t.getD 21 undef, t.getD 22 undef, t.getD 23 undef, t.getD 24 undef, t.getD 25 undef, t.getD 26 undef, t.getD 27 undef, t.getD 28 undef, t.getD 29 undef, t.getD 30 undef, t.getD 31 undef, t.getD 32 undef, t.getD 33 undef, t.getD 34 undef, t.getD 35 undef, t.getD 36 undef, t.getD 37 undef, t.getD 38 undef, t.getD 39 undef, t.getD 40 undef, t.getD 41 undef, t.getD 42 undef, t.getD 43 undef, t.getD 44 undef, t.getD 45 undef, t.getD 46 undef, t.getD 47 undef, t.getD 48 undef, t.getD 49 undef, t.getD 50 undef, t.getD 51 undef, t.getD 52 undef, t.getD 53 undef, t.getD 54 undef, t.getD 55 undef, t.getD 56 undef, t.getD 57 undef, t.getD 58 undef, t.getD 59 undef, t.getD 60 undef, t.getD 61 undef, t.getD 62 undef, t.getD 63 undef, t.getD 64 undef, t.getD 65 undef, t.getD 66 undef, t.getD 67 undef, t.getD 68 undef, t.getD 69 undef, t.getD 70 undef, t.getD 71 undef, t.getD 72 undef, t.getD 73 undef, t.getD 74 undef, t.getD 75 undef, t.getD 76 undef, t.getD 77 undef, t.getD 78 undef, t.getD 79 undef, t.getD 80 undef, t.getD 81 undef, t.getD 82 undef, t.getD 83 undef, t.getD 84 undef, t.getD 85 undef, t.getD 86 undef, t.getD 87 undef, t.getD 88 undef, t.getD 89 undef, t.getD 90 undef, t.getD 91 undef, t.getD 92 undef, t.getD 93 undef, t.getD 94 undef, t.getD 95 undef, t.getD 96 undef, t.getD 97 undef, t.getD 98 undef, t.getD 99 undef, t.getD 100 undef, t.getD 101 undef, t.getD 102 undef, t.getD 103 undef, t.getD 104 undef, t.getD 105 undef, t.getD 106 undef, t.getD 107 undef, t.getD 108 undef, t.getD 109 undef, t.getD 110 undef, t.getD 111 undef, t.getD 112 undef, t.getD 113 undef, t.getD 114 undef, t.getD 115 undef, t.getD 116 undef, t.getD 117 undef, t.getD 118 undef, t.getD 119 undef, t.getD 120 undef, t.getD 121 undef, t.getD 122 undef, t.getD 123 undef, t.getD 124 undef, t.getD 125 undef, t.getD 126 undef, t.getD 127 undef, t.getD 128 undef, t.getD 129 undef, t.getD 130 undef, t.getD 131 undef, t.getD 132 undef, t.getD 133 undef, t.getD 134 undef, t.getD 135 undef, t.getD 136 undef, t.getD 137 undef, t.getD 138 undef, t.getD 139 undef, t.getD 140 undef, t.getD 141 undef, t.getD 142 undef, t.getD 143 undef, t.getD 144 undef, t.getD 145 undef, t.getD 146 undef, t.getD 147 undef, t.getD 148 undef, t.getD 149 undef, t.getD 150 undef, t.getD 151 undef, t.getD 152 undef, t.getD 153 undef, t.getD 154 undef, t.getD 155 undef, t.getD 156 undef, t.getD 157 undef, t.getD 158 undef, t.getD 159 undef, t.getD 160 undef, t.getD 161 undef, t.getD 162 undef, t.getD 163 undef, t.getD 164 undef, t.getD 165 undef, t.getD 166 undef, t.getD 167 undef, t.getD 168 undef, t.getD 169 undef, t.getD 170 undef, t.getD 171 undef, t.getD 172 undef, t.getD 173 undef, t.getD 174 undef, t.getD 175 undef, t.getD 176 undef, t.getD 177 undef, t.getD 178 undef, t.getD 179 undef, t.getD 180 undef, t.getD 181 undef, t.getD 182 undef, t.getD 183 undef, t.getD 184 undef, t.getD 185 undef, t.getD 186 undef, t.getD 187 undef, t.getD 188 undef, t.getD 189 undef, t.getD 190 undef, t.getD 191 undef, t.getD 192 undef, t.getD 193 undef, t.getD 194 undef, t.getD 195 undef, t.getD 196 undef, t.getD 197 undef, t.getD 198 undef, t.getD 199 undef, t.getD 200 undef, t.getD 201 undef, t.getD 202 undef, t.getD 203 undef, t.getD 204 undef, t.getD 205 undef, t.getD 206 undef, t.getD 207 undef, t.getD 208 undef, t.getD 209 undef, t.getD 210 undef, t.getD 211 undef, t.getD 212 undef, t.getD 213 undef, t.getD 214 undef, t.getD 215 undef, t.getD 216 undef, t.getD 217 undef, t.getD 218 undef, t.getD 219 undef, t.getD 220 undef, t.getD 221 undef, t.getD 222 undef, t.getD 223 undef, t.getD 224 undef, t.getD 225 undef, t.getD 226 undef, t.getD 227 undef, t.getD 228 undef, t.getD 229 undef, t.getD 230 undef] := (range_frame t 231 h).trans (by kernel_rfl)
set_option maxRecDepth 100000 in
theorem frameF (t : Array Value) (h : t.size = 231) (x3 x4 x11 x12 x14 x15 x18 x19 x20 : Value) (h3 : t.getD 3 undef = x3) (h4 : t.getD 4 undef = x4) (h11 : t.getD 11 undef = x11) (h12 : t.getD 12 undef = x12) (h14 : t.getD 14 undef = x14) (h15 : t.getD 15 undef = x15) (h18 : t.getD 18 undef = x18) (h19 : t.getD 19 undef = x19) (h20 : t.getD 20 undef = x20) :
    ∃ v : Nat → Value, t = #[v 0, v 1, v 2, x3, x4, v 5, v 6, v 7, v 8, v 9, v 10, x11, x12, v 13, x14, x15, v 16, v 17, x18, x19, x20, v 21, v 22, v 23, v 24, v 25, v 26, v 27, v 28, v 29, v 30, v 31, v 32, v 33, v 34, v 35, v 36, v 37, v 38, v 39, v 40, v 41, v 42, v 43, v 44, v 45, v 46, v 47, v 48, v 49, v 50, v 51, v 52, v 53, v 54, v 55, v 56, v 57, v 58, v 59, v 60, v 61, v 62, v 63, v 64, v 65, v 66, v 67, v 68, v 69, v 70, v 71, v 72, v 73, v 74, v 75, v 76, v 77, v 78, v 79, v 80, v 81, v 82, v 83, v 84, v 85, v 86, v 87, v 88, v 89, v 90, v 91, v 92, v 93, v 94, v 95, v 96, v 97, v 98, v 99, v 100, v 101, v 102, v 103, v 104, v 105, v 106, v 107, v 108, v 109, v 110, v 111, v 112, v 113, v 114, v 115, v 116, v 117, v 118, v 119, v 120, v 121, v 122, v 123, v 124, v 125, v 126, v 127, v 128, v 129, v 130, v 131, v 132, v 133, v 134, v 135, v 136, v 137, v 138, v 139, v 140, v 141, v 142, v 143, v 144, v 145, v 146, v 147, v 148, v 149, v 150, v 151, v 152, v 153, v 154, v 155, v 156, v 157, v 158, v 159, v 160, v 161, v 162, v 163, v 164, v 165, v 166, v 167, v 168, v 169, v 170, v 171, v 172, v 173, v 174, v 175, v 176, v 177, v 178, v 179, v 180, v 181, v 182, v 183, v 184, v 185, v 186, v 187, v 188, v 189, v 190, v 191, v 192, v 193, v 194, v 195, v 196, v 197, v 198, v 199, v 200, v 201, v 202, v 203, v 204, v 205, v 206, v 207, v 208, v 209, v 210, v 211, v 212, v 213, v 214, v 215, v 216, v 217, v 218, v 219, v 220, v 221, v 222, v 223, v 224, v 225, v 226, v 227, v 228, v 229, v 230] := by
  refine ⟨fun k => t.getD k undef, ?_⟩
  subst h3 h4 h11 h12 h14 h15 h18 h19 h20
  exact frame231 t h
/-- A function's loops, one behind the other. -/
def loopsOf : Code → List Code
  | .loop c => [c]
  | .seq a b => loopsOf a ++ loopsOf b
  | .block _ c => loopsOf c
  | .scope c => loopsOf c
  | .cond _ a b => loopsOf a ++ loopsOf b
  | _ => []
/-- The body of the outer loop. -/
noncomputable def fixBody : Code := ((Tryz.f3.body.map loopsOf).getD []).getD 1 .skip
/-- What does not turn along the loop. -/
structure FixC where
  w : World
  fb : Nat
  mb : Nat
  g : Nat
  st : Int
  s : Int
  there : Bool
  mine : Bool
  full : Bool
  hold : Bool
  TA : Option Addr
  tn : Nat
  tc : Nat
  tb : List Int
  NA : Option Addr
  nc : Nat
  ds : List Dn
  T : Option (List Int × Int)
  r : List Int
  was : Int
/-- Its own facts. -/
structure FixC.ok (c : FixC) : Prop where
  ho : c.hold = (c.mine || c.full)
  fi : c.full = true ↔ (c.T ≠ none ∧ c.r = [])
  fu : (c.there && decide (c.r = [])) = c.full
  el : (((tr c.ds).length : Int) == (c.tn : Int)) = decide (c.r = [])
  mi : c.mine = true ∧ c.st = c.s ∨ c.mine = false ∧ c.st ≠ c.s
  sp : c.tb = tr c.ds ++ c.r
  tl : c.tb.length ≤ 800
  tg : c.ds.length ≤ (tr c.ds).length
/-- Which slots stand. -/
structure FixS (c : FixC) (t : Array Value) : Prop where
  sz : t.size = 231
  s3 : t.getD 3 undef = .bool c.there
  s4 : t.getD 4 undef = .bool c.mine
  s11 : t.getD 11 undef = .pointer (some ⟨c.fb, 0, none⟩)
  s12 : t.getD 12 undef = .slice c.TA c.tn c.tc
  s14 : t.getD 14 undef = .slice c.NA c.ds.length c.nc
  s15 : t.getD 15 undef = .int .i64 ((tr c.ds).length : Nat)
  s18 : t.getD 18 undef = .pointer (some ⟨c.g, 0, none⟩)
/-- What holds between two rounds. -/
structure FixW (c : FixC) (q : Nat) (S : Fs) (T : Option (List Int × Int)) (r : List Int) (was : Int) (k : Nat) (W : World) : Prop where
  ah : Ahead S T ([120], c.s) c.ds r was
  pad : Pad c.w W c.fb c.mb c.g c.st c.TA c.tn c.tb c.NA c.ds.length c.nc c.ds S k
  hk : k ≤ 2 + 5 * q
  ri : RndI c.hold q c.T c.r c.was T r was
structure FixL (c : FixC) (a : Act) (W : World) : Prop where
  df : a.defers = []
  sl : FixS c a.tmps
  ex : ∃ (q : Nat) (S : Fs) (T : Option (List Int × Int)) (r : List Int) (was : Int) (k : Nat), q ≤ 2 ∧ a.tmps.getD 19 undef = .int .i64 was ∧ a.tmps.getD 20 undef = .int .i64 q ∧ FixW c q S T r was k W
def fixMu (a : Act) (_ : World) : Nat := 2 - (intOf (a.tmps.getD 20 undef)).toNat
/-- What stands at the beginning of a round. -/
structure FixR (c : FixC) (t : Array Value) (q : Nat) (S : Fs) (T : Option (List Int × Int)) (r : List Int) (was : Int) (k : Nat) (W : World) : Prop where
  sl : FixS c t
  s19 : t.getD 19 undef = .int .i64 was
  s20 : t.getD 20 undef = .int .i64 q
  hq : q ≤ 1
  w_ : FixW c q S T r was k W
/-- What a round is to come to. -/
def FixQ (c : FixC) (t : Array Value) (wr : World) (Q0 : Exit → Act → World → Prop) : Exit → Act → World → Prop :=
  Exit.then (fun a' w'' => FixL c a' w'' ∧ fixMu a' w'' < fixMu ⟨t, []⟩ wr) Q0
end Go.Proofs.YtahdeighocmijaaGreat
