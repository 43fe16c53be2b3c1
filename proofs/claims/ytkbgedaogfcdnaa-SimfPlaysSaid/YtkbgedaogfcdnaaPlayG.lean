/- SimfPlays: the guards' loop. -/
import Derived.Test.YtkbgedaogfcdnaaPlayR
namespace Go.Proofs.Ytkbgedaogfcdnaa
set_option linter.unusedSimpArgs false
set_option linter.unusedVariables false
open Go.RowKit
open Crc (Bytes)
def inOf : Code → Code
  | .block _ c => c
  | _ => .skip
/-- A round's code; what stands from the guards on; their loop; its body. -/
noncomputable def playC1 : Code := inOf (fstOf (sndOf playBody))
noncomputable def playC16 : Code := sndOf (sndOf (sndOf (sndOf (sndOf (sndOf playC1)))))
noncomputable def playG : Code := fstOf playC16
noncomputable def playGB : Code := ((some playG).map loopsOf |>.getD []).getD 0 .skip
theorem guInfo : (Try.prog.info? 35).map (fun i => (i.zero, i.size, i.bytes)) = some (some (.agg #[.string ⟨#[]⟩, .int .i64 0]), 2, 24) := by kernel_rfl
theorem gcells_snoc (gs : List (ByteArray × Int)) (x : ByteArray × Int) : gcells (gs ++ [x]) = gcells gs ++ [.string x.1, .int .i64 x.2] := by unfold gcells; simp
set_option maxRecDepth 100000 in
theorem frameQ (t : Array Value) (h : t.size = 330) (x1 x2 x7 x8 x9 x10 x11 x12 x13 x14 x15 : Value) (h1 : t.getD 1 undef = x1) (h2 : t.getD 2 undef = x2) (h7 : t.getD 7 undef = x7) (h8 : t.getD 8 undef = x8) (h9 : t.getD 9 undef = x9) (h10 : t.getD 10 undef = x10) (h11 : t.getD 11 undef = x11) (h12 : t.getD 12 undef = x12) (h13 : t.getD 13 undef = x13) (h14 : t.getD 14 undef = x14) (h15 : t.getD 15 undef = x15) :
    ∃ v : Nat → Value, t = #[v 0, x1, x2, v 3, v 4, v 5, v 6, x7, x8, x9, x10, x11, x12, x13, x14, x15, v 16, v 17, v 18, v 19, v 20, v 21, v 22, v 23, v 24, v 25, v 26, v 27, v 28, v 29, v 30, v 31, v 32, v 33, v 34, v 35, v 36, v 37, v 38, v 39, v 40, v 41, v 42, v 43, v 44, v 45, v 46, v 47, v 48, v 49, v 50, v 51, v 52, v 53, v 54, v 55, v 56, v 57, v 58, v 59, v 60, v 61, v 62, v 63, v 64, v 65, v 66, v 67, v 68, v 69, v 70, v 71, v 72, v 73, v 74, v 75, v 76, v 77, v 78, v 79, v 80, v 81, v 82, v 83, v 84, v 85, v 86, v 87, v 88, v 89, v 90, v 91, v 92, v 93, v 94, v 95, v 96, v 97, v 98, v 99, v 100, v 101, v 102, v 103, v 104, v 105, v 106, v 107, v 108, v 109, v 110, v 111, v 112, v 113, v 114, v 115, v 116, v 117, v 118, v 119, v 120, v 121, v 122, v 123, v 124, v 125, v 126, v 127, v 128, v 129, v 130, v 131, v 132, v 133, v 134, v 135, v 136, v 137, v 138, v 139, v 140, v 141, v 142, v 143, v 144, v 145, v 146, v 147, v 148, v 149, v 150, v 151, v 152, v 153, v 154, v 155, v 156, v 157, v 158, v 159, v 160, v 161, v 162, v 163, v 164, v 165, v 166, v 167, v 168, v 169, v 170, v 171, v 172, v 173, v 174, v 175, v 176, v 177, v 178, v 179, v 180, v 181, v 182, v 183, v 184, v 185, v 186, v 187, v 188, v 189, v 190, v 191, v 192, v 193, v 194, v 195, v 196, v 197, v 198, v 199, v 200, v 201, v 202, v 203, v 204, v 205, v 206, v 207, v 208, v 209, v 210, v 211, v 212, v 213, v 214, v 215, v 216, v 217, v 218, v 219, v 220, v 221, v 222, v 223, v 224, v 225, v 226, v 227, v 228, v 229, v 230, v 231, v 232, v 233, v 234, v 235, v 236, v 237, v 238, v 239, v 240, v 241, v 242, v 243, v 244, v 245, v 246, v 247, v 248, v 249, v 250, v 251, v 252, v 253, v 254, v 255, v 256, v 257, v 258, v 259, v 260, v 261, v 262, v 263, v 264, v 265, v 266, v 267, v 268, v 269, v 270, v 271, v 272, v 273, v 274, v 275, v 276, v 277, v 278, v 279, v 280, v 281, v 282, v 283, v 284, v 285, v 286, v 287, v 288, v 289, v 290, v 291, v 292, v 293, v 294, v 295, v 296, v 297, v 298, v 299, v 300, v 301, v 302, v 303, v 304, v 305, v 306, v 307, v 308, v 309, v 310, v 311, v 312, v 313, v 314, v 315, v 316, v 317, v 318, v 319, v 320, v 321, v 322, v 323, v 324, v 325, v 326, v 327, v 328, v 329] := by
  refine ⟨fun k => t.getD k undef, ?_⟩
  subst h1 h2 h7 h8 h9 h10 h11 h12 h13 h14 h15
  exact frame330 t h
/-- A row's block. -/
theorem own_blk9 {w : World} {base : Nat} {e : TypeId} {size n c : Nat} {A : Option Addr} {xs : List Value} (h : Own w base e size A n c xs) {k : Nat} (hk : ob A = some k) : ∃ cs, Blk w k e cs := by
  rcases h.row.2 with ⟨hv, _⟩ | ⟨g', cap, cur, hv, _, hh, _⟩
  · have : A = none := by injection hv
    rw [this] at hk; cases hk
  · have hO : A = some ⟨g', 0, none⟩ := by injection hv
    rw [hO] at hk
    simp only [ob, Option.some.injEq] at hk
    subst hk
    exact ⟨cur.toList, ⟨by simpa using hh⟩⟩
def obL (A : Option Addr) : List Nat := match ob A with | none => [] | some g => [g]
theorem ob_mem {A : Option Addr} {b : Nat} (h : b ∈ obL A) : ob A = some b := by
  unfold obL at h
  split at h
  · simp at h
  · rename_i g hg; simp at h; rw [hg, h]
theorem mem_ob {A : Option Addr} {b : Nat} (h : ob A = some b) : b ∈ obL A := by unfold obL; rw [h]; simp
theorem rowg_only {w w' : World} {Ag : Option Addr} (hg : w.grownBy w' (ob Ag)) : Only (obL Ag) w w' := (Only.refl (obL Ag) w).grown hg fun k hk => .inl (mem_ob hk)
theorem Both.rowg {w0 w w' : World} {fb mb qb k base kg cg : Nat} {S : Fs} {Ag : Option Addr} {xs : List Value} (h : Both w0 w fb mb qb S k) (hO : Own w base 35 2 Ag kg cg xs) (hg : w.grownBy w' (ob Ag)) (hb : w0.heap.size ≤ base) : Both w0 w' fb mb qb S k := by
  have o := rowg_only hg
  cases hob : ob Ag with
  | none =>
    have e : obL Ag = [] := by unfold obL; rw [hob]
    rw [e] at o
    exact h.below o.below
  | some g =>
    have e : obL Ag = [g] := by unfold obL; rw [hob]
    rw [e] at o
    obtain ⟨cs, hk⟩ := own_blk9 hO hob
    have h1 := (hO.blk g hob).1
    exact ⟨h.fs.onlyq o hk (by decide) (by decide) (by omega), h.q.only o fun b hb => by
      simp at hb; subst hb
      exact ⟨_, _, _, hk.at_, by decide, by decide, by decide⟩⟩
/-- Between two guards. -/
structure PlayG (c : PlayC) (i : Nat) (x : Int) (pa pb : ByteArray) (X : Option Addr) (m cx : Nat) (l2 : List Int) (u : Nat) (k : Nat) (S : Fs) (a : Act) (W : World) : Prop where
  df : a.defers = []
  ex : ∃ (q : Nat) (Ag : Option Addr) (cg : Nat) (gs : List (ByteArray × Int)), q ≤ u ∧ a.tmps.getD 15 undef = .int .i64 q ∧ PlayI c i x pa pb X m cx l2 Ag q cg c.w.heap.size gs a.tmps k S W
def gMu (u : Nat) (a : Act) (_ : World) : Nat := u - (intOf (a.tmps.getD 15 undef)).toNat
section
variable {w : World} {fb mb qb : Nat} {A : Option Addr} {n cp : Nat} {RA : Option Addr} {rn rc i k : Nat} {x : Int} {pa pb : ByteArray} {X : Option Addr} {m cx : Nat} {l2 : List Int} {t : Array Value} {W : World} {S : Fs} {Q : Exit → Act → World → Prop}
set_option maxRecDepth 100000 in
set_option maxHeartbeats 16000000 in
theorem play_g (H : PlayI ⟨w, fb, mb, qb, A, n, cp, RA, rn, rc⟩ i x pa pb X m cx l2 none 0 0 w.heap.size [] t k S W)
    (hQ : ∀ a' W', (∃ Ag kg cg gs, a'.defers = [] ∧ PlayI ⟨w, fb, mb, qb, A, n, cp, RA, rn, rc⟩ i x pa pb X m cx l2 Ag kg cg w.heap.size gs a'.tmps k S W') → Q .normal a' W') : Code.wp Try.prog playG Q ⟨t, []⟩ W := by
  obtain ⟨u, hu, hu1⟩ := maskN 2 (by decide) (x / 1048576) 3 (by decide)
  have hu3 : u ≤ 3 := by omega
  have HQ := Lib.hid hQ
  clear hQ
  have HI := Lib.hid H
  obtain ⟨sl, s9, s10, s11, s12, s13, s14, -, -, -, -, -, -, -, -, -, -, -, -⟩ := H
  obtain ⟨v, rfl⟩ := frameG t sl.sz _ _ _ _ _ _ _ _ _ _ sl.s1 sl.s2 sl.s7 sl.s8 s9 s10 s11 s12 s13 s14
  clear sl s9 s10 s11 s12 s13 s14
  conv => arg 2; whnf
  go_wp2_with fail
  refine wp_loop (PlayG ⟨w, fb, mb, qb, A, n, cp, RA, rn, rc⟩ i x pa pb X m cx l2 u k S) (gMu u) ⟨rfl, 0, none, 0, [], by omega, rfl, ⟨⟨rfl, rfl, rfl, rfl, rfl⟩, rfl, rfl, rfl, rfl, rfl, rfl, HI.out.ha, HI.out.hb, HI.out.za, HI.out.zb, HI.out.hi, HI.out.hk, HI.out.both, HI.out.bs, HI.out.m3, HI.out.mc, HI.out.old, HI.out.gr⟩⟩ ?_
  clear HI v
  rintro ⟨t, df⟩ wr ⟨h1, q, Ag, cg, gs, hq, s15, H⟩
  simp only at h1 s15 H
  subst h1
  have HI := Lib.hid H
  have HMu := Lib.hid (show gMu u ⟨t, []⟩ wr = u - q by unfold gMu; rw [s15]; simp [intOf])
  rw [HMu.out]
  obtain ⟨sl, s9, s10, s11, s12, s13, s14, ha, hb, za, zb, hi, hk, hbo, hbs, m3, mc, old, gr⟩ := H
  have HB := Lib.hid hbo
  have HG := Lib.hid gr
  obtain ⟨v, rfl⟩ := frameQ t sl.sz _ _ _ _ _ _ _ _ _ _ _ sl.s1 sl.s2 sl.s7 sl.s8 s9 s10 s11 s12 s13 s14 s15
  clear sl s9 s10 s11 s12 s13 s14 s15 hbo gr ha hb za zb hbs old HMu
  by_cases hlt : q < u
  · have hlt' : (q : Int) < (u : Int) := by omega
    have hw5 : IntKind.i64.wrap (5 + (q : Int)) = 5 + (q : Int) := by rw [IntKind.wrap_i64]; omega
    have hgl := HG.out.len
    have hgn := Lib.hid HG.out.nm
    go_wp2_with fail
    refine (name_any _ _).mono ?_
    rintro e w1 ⟨rfl, hb1⟩
    obtain ⟨sn, hsn⟩ : ∃ sn, nmOf (nmIx (x / 2 ^ (5 + q))) = sn := ⟨_, rfl⟩
    have hsz : sn.size ≤ 1000 := by rw [← hsn]; exact nmOf_size _
    rw [hsn]
    have HB1 := Lib.hid (HB.out.below hb1)
    have HG1 := Lib.hid (HG.out.below hb1)
    have HI1 := Lib.hid (HI.out.bs.below hb1)
    clear hsn hb1 HB HG
    go_wp2_with fail
    refine (qstamp_at HB1.out.q (by omega) sn).mono ?_
    rintro e w' ⟨rfl, rfl⟩
    have hsz0 := HB1.out.size
    obtain ⟨sv, hsv⟩ : ∃ sv, S.st sn = sv := ⟨_, rfl⟩
    rw [hsv]
    clear hsv
    go_wp2_with (at_builtin; refine wpList_app rfl (.tmp 99) (.tmp 110) 32 rfl Try.underlying32 guInfo rfl (by decide) rfl (HG1.out.own.alloc _) rfl (Rd.lit w1 _ 35 (0, 0) 2 1 rfl) (by simp [Value.oneCell']) (by omega) (by omega) (by simp; omega) rfl rfl ?_; intro Z zc w5 hz hg _)
    have HW := Lib.hid (HB1.out.below (bl_alloc (o := Obj.cells #[.string sn, .int .i64 (wrap64 (sv + wrap64 ((Go.bits .and .i64 (x / 16777216) 7).tdiv 7)))] 35) (Below.refl _ _)))
    have HB5 := Lib.hid (HW.out.rowg (HG1.out.own.alloc _) hg (Nat.le_refl _))
    have hbs5 : Bs w5 X m l2 := by
      have o := rowg_only (w := w1.alloc (Obj.cells #[.string sn, .int .i64 (wrap64 (sv + wrap64 ((Go.bits .and .i64 (x / 16777216) 7).tdiv 7)))] 35)) (Ag := Ag) hg
      refine (HI1.out.alloc _).only o fun ad hA h0 hm => ?_
      have h1 : ad.block < w.heap.size := HI.out.old ad hA h0
      have h2 : w.heap.size ≤ ad.block := (HG1.out.own.blk ad.block (ob_mem hm)).1
      omega
    refine ⟨⟨rfl, q + 1, Z, zc, gs ++ [(sn, _)], by omega, by go_num, ⟨⟨rfl, rfl, rfl, rfl, rfl⟩, rfl, rfl, rfl, rfl, rfl, rfl, HI.out.ha, HI.out.hb, HI.out.za, HI.out.zb, HI.out.hi, HI.out.hk, HB5.out, hbs5, HI.out.m3, HI.out.mc, HI.out.old, ⟨by rw [gcells_snoc]; exact hz, by simp [hgl], ?_, by omega⟩⟩⟩, by simp [gMu, intOf]; omega⟩
    intro y hy
    rcases List.mem_append.1 hy with h | h
    · exact hgn.out y h
    · simp at h; subst h; exact hsz
  · have hlt' : ¬ (q : Int) < (u : Int) := by omega
    go_wp2_with fail
    have hqu : q = u := by omega
    exact HQ.out _ _ ⟨Ag, q, cg, gs, rfl, ⟨⟨rfl, rfl, rfl, rfl, rfl⟩, rfl, rfl, rfl, rfl, rfl, rfl, HI.out.ha, HI.out.hb, HI.out.za, HI.out.zb, HI.out.hi, HI.out.hk, HI.out.both, HI.out.bs, HI.out.m3, HI.out.mc, HI.out.old, HI.out.gr⟩⟩
end
end Go.Proofs.Ytkbgedaogfcdnaa
