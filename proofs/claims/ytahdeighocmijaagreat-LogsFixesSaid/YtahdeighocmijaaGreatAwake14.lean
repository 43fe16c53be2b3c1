/- fettlelaw14.awake; the loop of a fix's steps. -/
import Derived.Test.YtahdeighocmijaaGreatLogs2
namespace Go.Proofs.YtahdeighocmijaaGreat
set_option linter.unusedSimpArgs false
set_option linter.unusedVariables false
open Go.RowKit
open Crc (Bytes)

theorem at_worldC {P : Program} {f : FuncId} {args : Array Value} {Q : Ending → World → Prop} {W : World} (F : World → Prop) (hF : F W) (h : ∀ W', F W' → Calls P f args W' Q) : Calls P f args W Q := h W hF
/-- A round of a fix's steps. -/
structure LoopX (w0 wl : World) (base fb mb xb k : Nat) (x : Int × Fix × Fs) (wr : World) : Prop where
  fix : FixAt wr base xb x.2.1
  fs : FsH w0 wr fb mb x.2.2 k
  o : OnlyB base [fb, mb] wl wr
theorem run_step {w0 wl W : World} {base fb mb xb k m q : Nat} {ds : List Dn} {r : List Int} {S0 S' : Fs} {st ts : Int} {X : Nat → Int × Fix × Fs} (R : Run ds r S0 st m X S' ts) (hq : q < m) (h : LoopX w0 wl base fb mb xb k (X q) W) (hk : k ≤ 4999) (hw : w0.heap.size ≤ base) (hbl : base ≤ wl.heap.size)
    (ht : (S0.readF nmT).1 = 0 → (S0.readF nmT).2.1 = tr ds ++ r ∧ Dns ds ∧ NoD r ∧ (tr ds ++ r).length ≤ 100000) :
    Calls Tryz.prog 13 #[.pointer (some ⟨xb, 0, none⟩), .pointer (some ⟨fb, 0, none⟩)] W fun e w' => e = .returned (.int .i64 (X (q + 1)).1) ∧ LoopX w0 wl base fb mb xb (k + 1) (X (q + 1)) w' := by
  have hat := R.first q hq
  have hm1 := R.m1
  have h0 : (X q).2.1.at_ = 0 → q = 0 := fun e => by omega
  refine (fixstep_any ds r h.fs h.fix hw (Nat.le_trans hbl h.o.size) hk (by omega) (fun e => ?_) (fun e => ?_)).mono ?_
  · obtain rfl := h0 e; rw [R.zero]; show 1 ≤ 3; omega
  · obtain rfl := h0 e; rw [R.zero]; exact ht
  · intro e w' hd
    rw [R.step q hq] at hd
    exact ⟨hd.ret, hd.x, hd.h, h.o.trans hd.o⟩
theorem Grd.two {w : World} {t : TypeId} {g : Nat} (hg : g = w.heap.size) (s s2 : ByteArray) (hs : s.size ≤ 140737488355328) (hs2 : s2.size ≤ 140737488355328) (st st2 : Int) : Grd (w.alloc (.cells #[.string s, .int .i64 st, .string s2, .int .i64 st2] t)) (some ⟨g, 0, none⟩) 2 [(s, st), (s2, st2)] := by
  subst hg
  exact ⟨Rd.lit w #[.string s, .int .i64 st, .string s2, .int .i64 st2] t (0, 0) 2 2 rfl, rfl, fun x hx => by simp at hx; rcases hx with rfl | rfl <;> assumption, by omega, fun ad h h0 => ⟨_, _, (Option.some.inj h).symm⟩⟩
theorem OnlyB.cell {base : Nat} {bs : List Nat} {w w' : World} (h : OnlyB base bs w w') {p : Addr} (hp : p.block < base) (hn : p.block ∉ bs) : w'.cell? p = w.cell? p := World.cell?_of_block (h.block p.block hp hn)
theorem blk_guard {w : World} {t : TypeId} {s : ByteArray} {st : Int} {g : Nat} (hg : g = w.heap.size) : Blk (w.alloc (.cells #[.string s, .int .i64 st] t)) g t [.string s, .int .i64 st] := blk_new hg
theorem Blk.onlyB {base : Nat} {bs : List Nat} {w w' : World} {g : Nat} {t : TypeId} {cs : List Value} (h : Blk w g t cs) (ho : OnlyB base bs w w') (hg : g < base) (hn : g ∉ bs) : Blk w' g t cs := h.keep (ho.block g hg hn)
def dA : Dn := ⟨⟨#[97]⟩, 0, 0, [112]⟩
theorem dA_right : dA.right = true := by kernel_rfl
def d0 : Dn := ⟨⟨#[]⟩, 0, 0, []⟩
theorem dA_bytes : Bytes dA.p := by intro x hx; simp [dA] at hx; omega
theorem d0_right : d0.right = false := by kernel_rfl
set_option maxRecDepth 100000 in
set_option maxHeartbeats 4000000 in
theorem awake14_any (w : World) : Calls Tryz.prog 4 #[] w fun e w' => e = .returned (.bool true) ∧ Below w.heap.size w w' := by
  have kc := @conv_const Tryz.prog _ _ Tryz.underlying23 Tryz.underlying5
  go_enter Tryz.func4, Tryz.ntmps4
  go_wp2_with fail
  refine (new_h w 1000).mono ?_
  rintro e w1 ⟨fb, mb, rfl, h0⟩
  have H0 := Lib.hid h0
  clear h0
  obtain ⟨hp1, hls⟩ := ls_new 1000 [120] (by decide) (by decide) (by decide)
  have HP1 := Lib.hid hp1
  have HLS := Lib.hid hls
  clear hp1 hls
  go_wp2_with fail
  refine (put_h H0.out.alloc (by omega) nmL [120] (some ⟨w1.heap.size, 0, none⟩) 1 1 (by decide) (by omega) (bs_lit (l := [120]) (by intro x hx; simp at hx; omega) (by decide) rfl)).mono ?_
  rintro e w2 ⟨rfl, h1, o1⟩
  rw [HP1.out] at h1 ⊢
  have H1 := Lib.hid h1
  clear h1 o1 H0
  generalize hS0 : (fs0 1000).write nmL [120] = S0 at *
  have HS0 := Lib.hid hS0
  clear hS0
  obtain ⟨X, S', hrun, hls', hlt⟩ := run_none HLS.out (by decide) [] []
  have HR := Lib.hid hrun
  have HL := Lib.hid hls'
  clear hrun hls'
  go_wp2_with fail
  obtain ⟨g, hg⟩ : ∃ g, g = w2.heap.size := ⟨_, rfl⟩
  rw [← hg]
  refine at_worldC (fun W => Blk W g 39 [.string nmL, .int .i64 1] ∧ FsH w W fb mb S0 1) ⟨blk_guard hg, H1.out.alloc⟩ ?_
  rintro W ⟨hgb, hfs⟩
  have HG := Lib.hid hgb
  have HF := Lib.hid hfs
  clear hgb hfs hg H1
  refine (fixnew_any nmL nmP 1 _ (by decide) (by decide)).mono ?_
  rintro e w3 ⟨xb, rfl, hx, hb3⟩
  have HX := Lib.hid (show FixAt w3 W.heap.size xb (fix0 1) from hx)
  have HF3 := Lib.hid (HF.out.below hb3)
  have HG3 := Lib.hid (HG.out.below hb3)
  have hbw := hb3.size
  have hww : w.heap.size ≤ W.heap.size := HF.out.bel.size
  have hgl := HG.out.lt
  have hgn := HF.out.ne HG.out.at_ (by decide)
  clear hx hb3 HF HG
  go_wp2_with fail
  go_loopw [6, 7] (fun kv i wr => ∃ q : Nat, q ≤ 3 ∧ i = .int .i64 q ∧ kv = .int .i64 (X q).1 ∧ LoopX w w3 W.heap.size fb mb xb (1 + q) (X q) wr) (fun _ i _ => 3 - (intOf i).toNat)
  case atStart => exact ⟨0, by omega, rfl, by rw [HR.out.zero], by rw [HR.out.zero]; exact HX.out, by rw [HR.out.zero]; exact HF3.out, OnlyB.refl _ _ _⟩
  case round =>
    obtain ⟨q, hq, rfl, rfl, hx⟩ := hrel
    have HX2 := Lib.hid hx
    clear hx
    have hq5 : (q : Int) < 5 := by omega
    by_cases hlt3 : q < 3
    · rw [HR.out.work q hlt3]
      go_wp2_with fail
      refine (run_step HR.out hlt3 HX2.out (by omega) hww hbw (fun e => by rw [readF_none nmT_ok HLS.out.t] at e; cases e)).mono ?_
      rintro e w4 ⟨rfl, hx⟩
      have HX3 := Lib.hid hx
      clear hx
      go_wp2_with fail
      exact ⟨⟨q + 1, by omega, by go_num, rfl, HX3.out⟩, by simp [intOf]; omega⟩
    · obtain rfl : q = 3 := by omega
      rw [HR.out.hold]
      go_wp2_with fail
      refine (fixtrace_any HX2.out.fix HR.out.at_ HR.out.told).mono ?_
      rintro e w5 ⟨rfl, hb5⟩
      rw [HR.out.tn, HR.out.tts]
      have HF5 := Lib.hid (show FsH w w5 fb mb S' 4 from by have := HX2.out.fs.below hb5; rw [HR.out.fs] at this; exact this)
      have HG5 := Lib.hid ((HG3.out.onlyB HX2.out.o hgl hgn).below hb5)
      obtain ⟨ts, hts⟩ : ∃ ts, S'.last = ts := ⟨_, rfl⟩
      have Hts := Lib.hid hts
      rw [hts] at HL ⊢
      clear hb5 HX2 HX HF3 HG3 HR hts
      have g0 : w5.cell? ⟨g, 0, none⟩ = some (.string nmL) := HG5.out.cell 0
      have g1 : w5.cell? ⟨g, 1, none⟩ = some (.int .i64 1) := HG5.out.cell 1
      have hgl5 := HG5.out.lt
      go_wp2_with fail
      obtain ⟨gt, hgt⟩ : ∃ gt, gt = w5.heap.size := ⟨_, rfl⟩
      rw [← hgt]
      refine at_worldC (fun W => Blk W g 39 [.string nmL, .int .i64 1] ∧ Blk W gt 39 [.string nmT, .int .i64 ts] ∧ Bs W (some ⟨gt + 1, 0, none⟩) 1 dA.p ∧ Grd W (some ⟨gt + 1 + 1, 0, none⟩) 2 [(nmL, 1), (nmT, ts)] ∧ FsH w W fb mb S' 4)
        ⟨(((HG5.out.alloc _).alloc _).alloc _), (((blk_guard hgt).alloc _).alloc _), (bs_lit (l := [112]) (by intro x hx; simp at hx; omega) (by decide) (by simp [hgt])).alloc _, Grd.two (by simp [hgt]) nmL nmT (by decide) (by decide) 1 ts, HF5.out.alloc.alloc.alloc⟩ ?_
      rintro W6 ⟨b1, b2, b3, b4, b5⟩
      have HB1 := Lib.hid b1
      have HB2 := Lib.hid b2
      have HF6 := Lib.hid b5
      refine (tell_any b5 (by omega) dA (some ⟨gt + 1, 0, none⟩) 1 1 dA_right b3 [(nmL, 1), (nmT, ts)] _ 2 2 b4 (by omega) (by omega)).mono ?_
      clear b1 b2 b3 b4 b5 g0 g1 hgl5 hgt HF5 HG5
      rintro e w7 ⟨rfl, h7, o7⟩
      have htell := tell_ok HL.out (framed dA.raw) (by decide)
      rw [Hts.out] at htell
      obtain ⟨ht1, ht2⟩ := htell
      rw [List.nil_append] at ht2
      have ht1 : S'.appF nmT (framed dA.raw) [(nmL, 1), (nmT, ts)] = ((ts + 1, 0), S'.write nmT (framed dA.raw)) := ht1
      rw [ht1] at h7 ⊢
      have HF7 := Lib.hid (show FsH w w7 fb mb (S'.write nmT (framed dA.raw)) 5 from h7)
      have HL7 := Lib.hid (show LS 1000 (S'.write nmT (framed dA.raw)) (some (framed dA.raw, ts + 1)) ([120], 1) from ht2)
      have HB7 := Lib.hid (HB1.out.only o7 (HF6.out.ne HB1.out.at_ (by decide)))
      have HC7 := Lib.hid (HB2.out.only o7 (HF6.out.ne HB2.out.at_ (by decide)))
      clear h7 o7 ht1 ht2 HB1 HB2 HF6 HL
      have g0 : w7.cell? ⟨g, 0, none⟩ = some (.string nmL) := HB7.out.cell 0
      have g1 : w7.cell? ⟨g, 1, none⟩ = some (.int .i64 1) := HB7.out.cell 1
      have g2 : w7.cell? ⟨gt, 0, none⟩ = some (.string nmT) := HC7.out.cell 0
      have g3 : w7.cell? ⟨gt, 1, none⟩ = some (.int .i64 ts) := HC7.out.cell 1
      generalize S'.write nmT (framed dA.raw) = S7 at *
      clear Hts
      go_wp2_with fail
      refine (tell_any HF7.out.alloc.alloc (by omega) dA (some ⟨w7.heap.size, 0, none⟩) 1 1 dA_right ((bs_lit (l := [112]) (by intro x hx; simp at hx; omega) (by decide) rfl).alloc _) [(nmL, 1), (nmT, ts)] (some ⟨w7.heap.size + 1, 0, none⟩) 2 2 (Grd.two (by simp) nmL nmT (by decide) (by decide) 1 ts) (by omega) (by omega)).mono ?_
      rintro e w8 ⟨rfl, h8, o8⟩
      rw [tell_old HL7.out (q := ts) (framed dA.raw) (by omega)] at h8 ⊢
      have HF8 := Lib.hid (show FsH w w8 fb mb S7 6 from h8)
      have HC8 := Lib.hid (((HC7.out.alloc _).alloc _).only o8 (HF7.out.ne HC7.out.at_ (by decide)))
      clear h8 o8 HB7 HC7 HF7 g0 g1 g2 g3
      go_wp2_with fail
      refine (tell_bad _ _ d0 none 0 0 d0_right (by decide) (Bs.nil _ _)).mono ?_
      rintro e w9 ⟨rfl, hb9⟩
      have HF9 := Lib.hid (HF8.out.below hb9)
      have HC9 := Lib.hid (HC8.out.below hb9)
      clear hb9 HF8 HC8
      go_wp2_with fail
      refine (read_h HF9.out nmT (by decide)).mono ?_
      rintro e w10 ⟨A, n, c, rfl, hn, hown, hb10⟩
      rw [readF_of nmT_ok HL7.out.t] at hn hown ⊢
      have HF10 := Lib.hid (HF9.out.below hb10)
      have HC10 := Lib.hid (HC9.out.below hb10)
      have hn' : (framed dA.raw).length = n := hn
      have hn2 : n ≤ 1000 := by rw [← hn']; decide
      have HA := Lib.hid (own_bs hown (framed_bytes (Dn.raw_bytes dA_bytes)) (by omega))
      have hcap := hown.cap
      clear hb10 hn hown HF9 HC9
      go_wp2_with fail
      refine (rtrace_any A n c (framed dA.raw) [dA] [] _ HA.out hcap (by omega) rfl (Dns.nil.snoc dA_right dA_bytes) rfl).mono ?_
      rintro e w11 ⟨⟨Y, yc, rfl, hrow⟩, hb11⟩
      have HF11 := Lib.hid (HF10.out.below hb11)
      have HC11 := Lib.hid (HC10.out.below hb11)
      have hlen : ((tr [dA]).length : Int) = (n : Int) := by rw [← hn']; rfl
      rw [hlen]
      clear hb11 hrow HF10 HC10
      have g2 : w11.cell? ⟨gt, 0, none⟩ = some (.string nmT) := HC11.out.cell 0
      have hst := (by_of HL7.out.t).2.1
      have Hst := Lib.hid hst
      clear hst
      have hnt : nmT.toList = [116, 114, 97, 99, 101] := by rw [ByteArray.toList_eq]; rfl
      go_wp2_with fail
      refine (stamp_h HF11.out nmT (by decide)).mono ?_
      rintro e w' ⟨rfl, rfl⟩
      rw [Hst.out]
      go_wp2_with fail
      go_ret
      exact ⟨rfl, HF11.out.bel⟩
end Go.Proofs.YtahdeighocmijaaGreat
