/- LogsAgain: the law's walk. -/
import Derived.Test.YtebplbnkjpffpaaLTells
namespace Go.Proofs.Ytebplbnkjpffpaa
set_option linter.unusedSimpArgs false
set_option linter.unusedVariables false
open Go.RowKit
open Crc (Bytes)

theorem held_read {S : Fs} {ds : List Dn} {L : List Int × Int} (h : Held S ds L) : ∃ e0 r q, S.readF nmT = (e0, tr ds ++ r, q) ∧ oneF r = none ∧ r.length ≤ 100 := by
  obtain ⟨T, r, hl, hr, hr1, hT⟩ := h.ex
  rcases hT with ⟨rfl, hd⟩ | ⟨ts, rfl⟩
  · exact ⟨4, [], 0, by rw [readF_none nmT_ok hl.t, hd]; rfl, rfl, by simp⟩
  · exact ⟨0, r, ts, readF_of nmT_ok hl.t, hr, hr1⟩
theorem take_none {ds : List Dn} (k : Nat) (h0 : 0 < ds.length) (hd : ∀ d ∈ ds, d.raw.length ≤ 10000) (hk : k < 20) : oneF ((tr ds).take k) = none := by
  cases ds with
  | nil => simp at h0
  | cons d ds =>
    have h1 := framed_len d.raw
    have h2 := Dn.raw_len d
    rw [tr_cons, List.take_append_of_le_length (by omega)]
    exact oneF_cut _ _ (hd d (by simp)) (by omega)
/-- Something is put behind that is none. -/
theorem held_junk {S : Fs} {ds : List Dn} {L : List Int × Int} {ts : Int} (h : Held S ds L) (hl : LS 1048576 S (some (tr ds, ts)) L) (k : Nat) (hk : k < 20) (h0 : 0 < ds.length) :
    ∃ S4 q, S.putF nmT (tr ds ++ (tr ds).take k) = ((q, 0), S4) ∧ Held S4 ds L := by
  have h1 := h.len
  have h2 := h.l10
  have h3 : (tr ds ++ (tr ds).take k).length ≤ (tr ds).length + k := by rw [List.length_append, List.length_take]; omega
  obtain ⟨e1, e2⟩ := put_trace hl (tr ds ++ (tr ds).take k) (by omega)
  exact ⟨_, _, e1, ⟨_, _, e2, take_none k h0 (fun d hd => Dn.raw_le (h.ok.right d hd)) hk, by rw [List.length_take]; omega, .inr ⟨_, rfl⟩⟩, h.ok, h1, h2⟩
/-- Another one takes the lock. -/
theorem held_other {S S' : Fs} {ds : List Dn} {m : Nat} {X : Nat → Int × Fix × Fs} {ts : Int} (hf : Fixes S ds ([120], 1) m X S' ts) (h : Held S ds ([120], 1)) (x : List Int) :
    ∃ S4 q, S'.putF nmL [111, 116, 104, 101, 114] = ((q, 0), S4) ∧ S4.appF nmT x [(nmL, 1), (nmT, ts)] = ((0, 5), S4) ∧ ∃ q2, S4.readF nmT = (0, tr ds, q2) := by
  have h1 := h.len
  have h5 : (1 : Int) ≤ S'.last := hf.ls.ls
  obtain ⟨e1, e2⟩ := put_lock hf.ls [111, 116, 104, 101, 114] (by show ((tr ds).length : Int) + (5 : Nat) ≤ 1048576; omega)
  exact ⟨_, _, e1, tell_lost e2 x (by show S'.last + 1 ≠ 1; omega), ts, readF_of nmT_ok e2.t⟩
theorem bl_of_drew {B : Nat} {w w' : World} (h : Below B w.drew w') : Below B w w' := ⟨h.os, h.tape, h.output, h.size, h.block⟩
set_option maxRecDepth 100000 in
set_option maxHeartbeats 16000000 in
theorem logsagain_any (A : Option Addr) (n c : Nat) (l : List Int) (CA : Option Addr) (cn cc : Nat) (cl : List Int) (other : Bool) (w : World) (h : Is w A n l) (hcu : Is w CA cn cl) : Calls Try.prog 3 #[.slice A n c, .slice CA cn cc, .bool other] w fun e w' => e = .returned (.bool true) ∧ Below w.heap.size w w' := by
  have HA := Lib.hid h
  have HC := Lib.hid hcu
  have hnle := h.le
  have hcle := hcu.le
  clear h hcu
  have kc := @conv_const Try.prog _ _ Try.underlying28 Try.underlying5
  go_enter Try.func3, Try.ntmps3
  go_wp2_with fail
  refine (new_h w 1048576).mono ?_
  rintro e w1 ⟨fb, mb, rfl, h0⟩
  have H0 := Lib.hid h0
  clear h0
  obtain ⟨hp1', hls⟩ := held_new
  have HP1 := Lib.hid hp1'
  have HLS := Lib.hid hls
  clear hp1' hls
  go_wp2_with fail
  refine (put_h H0.out.alloc (by omega) nmL [120] (some ⟨w1.heap.size, 0, none⟩) 1 1 (by decide) (by omega) (bs_lit (l := [120]) (by intro x hx; simp at hx; omega) (by decide) rfl)).mono ?_
  rintro e w2 ⟨rfl, h1, o1⟩
  rw [HP1.out] at h1 ⊢
  have H1 := Lib.hid h1
  clear h1 o1 H0
  generalize hS0 : (fs0 1048576).write nmL [120] = S0 at *
  clear hS0
  go_upto_region 6 with fail
  obtain ⟨g, hg⟩ : ∃ g, g = w2.heap.size := ⟨_, rfl⟩
  rw [← hg]
  refine at_world (fun W => TellsAt w W fb mb g 0 (.slice none 0 0)) ⟨⟨S0, [], none, 0, 0, 1, rfl, DRow.nil _ _, HLS.out, H1.out.alloc, by omega, by simp [tr], by simp⟩, blk_guard hg⟩ ?_
  rintro W0 ht0
  have HT0 := Lib.hid ht0
  clear ht0 hg H1 HLS HP1
  go_wp2_with fail
  go_loopw [11, 12] (fun wv i wr => ∃ j : Nat, j ≤ 10 ∧ j ≤ n ∧ i = .int .i64 j ∧ TellsAt w wr fb mb g j wv) (fun _ i _ => 10 - (intOf i).toNat)
  case atStart => exact ⟨0, by omega, by omega, rfl, HT0.out⟩
  case round =>
    clear HT0
    obtain ⟨Wo, hWo⟩ : ∃ Wo, Wo = wr := ⟨_, rfl⟩
    subst hWo
    obtain ⟨j, hj, hjn, rfl, ⟨S, ds, WA, wn, wk, k, rfl, hrow, hheld, hfs, hk, htl, hdl⟩, hgb⟩ := hrel
    have HRow := Lib.hid hrow
    have HH := Lib.hid hheld
    have HF := Lib.hid hfs
    have HG := Lib.hid hgb
    have hbel := hfs.bel
    have hgl := hgb.lt
    have hgn := hfs.ne hgb.at_ (by decide)
    have HBel := Lib.hid hbel
    clear hrow hheld hfs hgb hbel
    by_cases hgo : j < n ∧ j < 10
    · obtain ⟨hlt, hlt10⟩ := hgo
      have hltn : (j : Int) < (n : Int) := by omega
      have hlt10' : (j : Int) < 10 := by omega
      obtain ⟨m, X, S', ts, hfix⟩ := HH.out.fix
      obtain ⟨r, hrun, hrd⟩ := hfix.ex
      have HR := Lib.hid hrun
      have HD := Lib.hid hrd
      have HX0 := Lib.hid hfix
      clear hrun hrd hfix
      have g0 : Wo.cell? ⟨g, 0, none⟩ = some (.string nmL) := HG.out.cell 0
      have g1 : Wo.cell? ⟨g, 1, none⟩ = some (.int .i64 1) := HG.out.cell 1
      go_wp2_with fail
      refine (fixnew_any nmL nmP 1 _ (by decide) (by decide)).mono ?_
      rintro e w3 ⟨xb, rfl, hx, hb3⟩
      have HX := Lib.hid (show FixAt w3 Wo.heap.size xb (fix0 1) from hx)
      have HF3 := Lib.hid (HF.out.below hb3)
      have HB3 := Lib.hid hb3
      have hbw := hb3.size
      have hww : w.heap.size ≤ Wo.heap.size := HF.out.bel.size
      clear hx hb3 g0 g1
      have hm0 := HR.out.m0
      have hm1 := HR.out.m1
      go_wp2_with fail
      go_loopw [14, 15] (fun kv i wr2 => ∃ q : Nat, q ≤ m ∧ i = .int .i64 q ∧ kv = .int .i64 (X q).1 ∧ LoopX w w3 Wo.heap.size fb mb xb (k + q) (X q) wr2) (fun _ i _ => m - (intOf i).toNat)
      case atStart => exact ⟨0, by omega, rfl, by rw [HR.out.zero], by rw [HR.out.zero]; exact HX.out, by rw [HR.out.zero]; exact HF3.out, OnlyB.refl _ _ _⟩
      case round =>
        obtain ⟨q, hq, rfl, rfl, hx⟩ := hrel
        have HX2 := Lib.hid hx
        clear hx
        have hq8 : (q : Int) < 8 := by omega
        by_cases hlt3 : q < m
        · rw [HR.out.work q hlt3]
          go_wp2_with fail
          refine (run_step HR.out hlt3 HX2.out (by omega) hww hbw HD.out).mono ?_
          rintro e w4 ⟨rfl, hx⟩
          have HX3 := Lib.hid hx
          clear hx
          go_wp2_with fail
          exact ⟨⟨q + 1, by omega, by go_num, rfl, HX3.out⟩, by simp [intOf]; omega⟩
        · have hqm : q = m := by omega
          rw [show (X q).1 = 1 by rw [hqm]; exact HR.out.hold]
          rw [hqm] at HX2
          go_wp2_with fail
          refine (fixtrace_any HX2.out.fix HR.out.at_ HR.out.told).mono ?_
          rintro e w5 ⟨rfl, hb5⟩
          rw [HR.out.tn, HR.out.tts]
          have hO5 : OnlyB Wo.heap.size [fb, mb] Wo w5 := (HX2.out.onlyB HB3.out rfl).trans (OnlyB.below hb5 (Nat.le_trans hbw HX2.out.o.size))
          have HF5 := Lib.hid (show FsH w w5 fb mb S' (k + m) from by have := HX2.out.fs.below hb5; rw [HR.out.fs] at this; exact this)
          have HG5 := Lib.hid (HG.out.onlyB hO5 hgl hgn)
          have HRow5 := Lib.hid (HRow.out.onlyB HF.out rfl hO5)
          clear hO5 hb5 HX2 HR HD HX HF3 HB3 HG HRow HF hgl hgn
          go_upto_region 19 with fail
          obtain ⟨gt, hgt⟩ : ∃ gt, gt = w5.heap.size := ⟨_, rfl⟩
          rw [← hgt]
          refine at_world (fun W => Blk W g 30 [.string nmL, .int .i64 1] ∧ Blk W gt 30 [.string nmT, .int .i64 ts] ∧ DRow W w.heap.size WA wn wk ds ∧ FsH w W fb mb S' (k + m)) ⟨HG5.out.alloc _, blk_guard hgt, HRow5.out.below (bl_alloc (Below.refl _ _)), HF5.out.alloc⟩ ?_
          clear HF5 HG5 HRow5 hgt
          rintro W5 ⟨b1, b2, b3, b4⟩
          have HG5 := Lib.hid b1
          have HT5 := Lib.hid b2
          have HRow5 := Lib.hid b3
          have HF5 := Lib.hid b4
          have hgl5 := b1.lt
          have hgn5 := b4.ne b1.at_ (by decide)
          have htl5 := b2.lt
          have htn5 := b4.ne b2.at_ (by decide)
          clear b1 b2 b3 b4
          obtain ⟨ad, rfl, hcell, hwf1, hwf2⟩ := HA.out.get hlt
          obtain ⟨x, hx⟩ : ∃ x, ix l j = x := ⟨_, rfl⟩
          rw [hx] at hcell
          have hadl : ad.block < w.heap.size := by have := World.block_lt_of_cell? w (ad.add j) hcell; rw [addr_block] at this; exact this
          have hjn0 : (0 : Int) ≤ (j : Int) := by omega
          have hr := lawD_right x
          have hraw := lawD_raw x
          obtain ⟨d, hd⟩ : ∃ d, lawD x = d := ⟨_, rfl⟩
          rw [hd] at hr hraw
          obtain ⟨bb, hbb⟩ : ∃ bb, (other && decide (j = 3)) = bb := ⟨_, rfl⟩
          go_upto_region 21 with fail
          go_cut [87] (fun v wx => W5 = wx ∧ v = .bool bb)
          case first =>
            cases other
            · have hbb2 : bb = false := by rw [← hbb]; rfl
              clear hbb
              go_wp2_with fail
              go_meet
              exact ⟨rfl, by rw [hbb2]⟩
            · by_cases hj3 : j = 3
              · have hj3b : ((j : Int) == 3) = true := by rw [beq_iff_eq]; omega
                have hbb2 : bb = true := by rw [← hbb, hj3]; rfl
                clear hbb hj3
                go_wp2_with fail
                go_meet
                exact ⟨rfl, by rw [hbb2]⟩
              · have hj3b : ((j : Int) == 3) = false := by rw [beq_eq_false_iff_ne]; omega
                have hbb2 : bb = false := by rw [← hbb]; simp [hj3]
                clear hbb hj3
                go_wp2_with fail
                go_meet
                exact ⟨rfl, by rw [hbb2]⟩
          case rest =>
            obtain ⟨rfl, rfl⟩ := hcut
            clear hbb
            cases bb
            · have htr := tr_snoc_len htl hraw.1
              obtain ⟨e1, e2, e3, e4, e5⟩ := held_tell HX0.out HH.out d hr.1 hr.2.1 (by omega)
              generalize S'.write nmT (tr (ds ++ [d])) = Sy at e1 e2 e3 e4 e5
              generalize S'.last + 1 = qq at e1 e3 e5
              have E1 := Lib.hid (show S'.appF nmT (framed d.raw) [(nmL, 1), (nmT, ts)] = ((qq, 0), Sy) from e1)
              have E4 := Lib.hid e4
              have E5 := Lib.hid e5
              obtain ⟨kx, hkx⟩ : ∃ kx, k + m = kx := ⟨_, rfl⟩
              rw [hkx] at HF5
              have hkx2 : kx ≤ k + 3 := by omega
              clear e1 e2 e4 e5
              obtain ⟨W6, hW6⟩ : ∃ W6, W6 = W5 := ⟨_, rfl⟩
              subst hW6
              have HG6 := HG5
              have HRow6 := HRow5
              have HF6 := HF5
              have hgl6 := hgl5
              have hgn6 := hgn5
              have hfb := HF6.out.hf
              have hmb := HF6.out.hm
              have HKc := Lib.hid (fun (w' : World) (hh : OnlyB W6.heap.size [fb, mb] W6 w') => (show w'.cell? (ad.add j) = some (.int .i64 x) ∧ w'.cell? ⟨g, 0, none⟩ = some (.string nmL) ∧ w'.cell? ⟨g, 1, none⟩ = some (.int .i64 1) ∧ w'.cell? ⟨gt, 0, none⟩ = some (.string nmT) ∧ w'.cell? ⟨gt, 1, none⟩ = some (.int .i64 ts) from by
                have h1 := HG5.out.onlyB hh hgl5 hgn5
                have h2 := HT5.out.onlyB hh htl5 htn5
                refine ⟨((hh.cell (p := ad.add j) (by rw [addr_block]; have := HF6.out.bel.size; omega) (by rw [addr_block]; simp; omega)).trans (World.cell?_of_block (HF6.out.bel.block _ (by rw [addr_block]; exact hadl)))).trans hcell, h1.cell 0, h1.cell 1, h2.cell 0, h2.cell 1⟩))
              go_upto_region 27 with fail
              go_cut [25, 26] (fun v1 v2 wx => v1 = .int .i64 qq ∧ v2 = .int .i64 0 ∧ FsH w wx fb mb Sy (kx + 1) ∧ Blk wx g 30 [.string nmL, .int .i64 1] ∧ DRow wx w.heap.size WA wn wk ds)
              case first =>
                (refine wp_region_held_drew (S := fun w' => w'.cell? (ad.add j) = some (.int .i64 x) ∧ w'.cell? ⟨g, 0, none⟩ = some (.string nmL) ∧ w'.cell? ⟨g, 1, none⟩ = some (.int .i64 1) ∧ w'.cell? ⟨gt, 0, none⟩ = some (.string nmT) ∧ w'.cell? ⟨gt, 1, none⟩ = some (.int .i64 ts)) (by kernel_rfl) (HKc.out _ ⟨rfl, rfl, rfl, Nat.le_refl _, fun _ _ _ => rfl⟩) (fun hHeld => ?_))
                (refine wpAnyH_take (i := 0) (oi := _) (v := ?_) (ops_at rfl) (by kernel_rfl) (by kernel_rfl) (by kernel_rfl) (fun _ _ _ h => h) (Or.inl ⟨by rfl, ?_⟩) (by assumption) ?_; rotate_left; (focus (intro w hSw; (try dsimp only at hSw); go_simp; (try with_reducible rfl))); (try simp only [Act.put, List.setIfInBounds_toArray, List.set_cons_zero, List.set_cons_succ])); (refine wpAnyH_take (i := 1) (oi := _) (v := ?_) (ops_at rfl) (by kernel_rfl) (by kernel_rfl) (by kernel_rfl) (fun _ _ _ h => h) (Or.inl ⟨by rfl, ?_⟩) (by assumption) ?_; rotate_left; (focus (intro w hSw; (try dsimp only at hSw); go_simp; (try with_reducible rfl))); (try simp only [Act.put, List.setIfInBounds_toArray, List.set_cons_zero, List.set_cons_succ])); (refine wpAnyH_take (i := 2) (oi := _) (v := ?_) (ops_at rfl) (by kernel_rfl) (by kernel_rfl) (by kernel_rfl) (fun _ _ _ h => h) (Or.inl ⟨by rfl, ?_⟩) (by assumption) ?_; rotate_left; (focus (intro w hSw; (try dsimp only at hSw); go_simp; (try with_reducible rfl))); (try simp only [Act.put, List.setIfInBounds_toArray, List.set_cons_zero, List.set_cons_succ])); (refine wpAnyH_take (i := 3) (oi := _) (v := ?_) (ops_at rfl) (by kernel_rfl) (by kernel_rfl) (by kernel_rfl) (fun _ _ _ h => h) (Or.inl ⟨by rfl, ?_⟩) (by assumption) ?_; rotate_left; (focus (intro w hSw; (try dsimp only at hSw); go_simp; (try with_reducible rfl))); (try simp only [Act.put, List.setIfInBounds_toArray, List.set_cons_zero, List.set_cons_succ])); (refine wpAnyH_take (i := 4) (oi := _) (v := ?_) (ops_at rfl) (by kernel_rfl) (by kernel_rfl) (by kernel_rfl) (fun _ _ _ h => h) (Or.inl ⟨by rfl, ?_⟩) (by assumption) ?_; rotate_left; (focus (intro w hSw; (try dsimp only at hSw); go_simp; (try with_reducible rfl))); (try simp only [Act.put, List.setIfInBounds_toArray, List.set_cons_zero, List.set_cons_succ])); (refine wpAnyH_take (i := 6) (oi := _) (v := ?_) (ops_at rfl) (by kernel_rfl) (by kernel_rfl) (by kernel_rfl) (fun _ _ _ h => h) (Or.inl ⟨by rfl, ?_⟩) (by assumption) ?_; rotate_left; (focus (intro w hSw; (try dsimp only at hSw); go_simp; (try with_reducible rfl))); (try simp only [Act.put, List.setIfInBounds_toArray, List.set_cons_zero, List.set_cons_succ])); (refine wpAnyH_take (i := 7) (oi := _) (v := ?_) (ops_at rfl) (by kernel_rfl) (by kernel_rfl) (by kernel_rfl) (fun _ _ _ h => h) (Or.inl ⟨by rfl, ?_⟩) (by assumption) ?_; rotate_left; (focus (intro w hSw; (try dsimp only at hSw); go_simp; (try with_reducible rfl))); (try simp only [Act.put, List.setIfInBounds_toArray, List.set_cons_zero, List.set_cons_succ]))
                (refine wpAnyH_ready (rs := [5, 8]) (by kernel_rfl) (by simp) (AllReadyH.cons (ops_at rfl) (fun K hK => ?_) (AllReadyH.cons (ops_at rfl) (fun K hK => ?_) AllReadyH.nil)))
                · (go_simp; (refine (lawDone_any x _).mono ?_; rintro e w7 ⟨⟨P, pm, rfl, hpb, hpu, hpm⟩, hb7⟩; rw [hd] at hpb ⊢); refine hK.out _ _ (HKc.out _ (OnlyB.below (bl_of_drew hb7) (Nat.le_refl _))) (fun hHeld => ?_); clear hK K; (try simp only [Act.put, List.setIfInBounds_toArray, List.set_cons_zero, List.set_cons_succ]))
                  have hO7 := Lib.hid (OnlyB.below (bs := [fb, mb]) (bl_of_drew hb7) (Nat.le_refl _))
                  have hz7 : W6.heap.size ≤ w7.heap.size := hO7.out.size
                  have hF7 := Lib.hid (HF6.out.below (bl_of_drew hb7))
                  clear hb7
                  (refine wpAnyH_ready (rs := [8]) (by kernel_rfl) (by simp) (AllReadyH.cons (ops_at rfl) (fun K hK => ?_) AllReadyH.nil); go_simp; skip; refine hK.out _ _ (HKc.out _ (hO7.out.trans (OnlyB.below (bl_alloc (Below.refl _ _)) hz7))) (fun hHeld => ?_); clear hK K; (try simp only [Act.put, List.setIfInBounds_toArray, List.set_cons_zero, List.set_cons_succ]))
                  (refine wpAnyH_ready (rs := [9]) (by kernel_rfl) (by simp) (AllReadyH.cons (ops_at rfl) (fun K hK => ?_) AllReadyH.nil); go_simp; (refine (tell_any hF7.out.alloc (by omega) d P pm 2 hr.1 (hpb.alloc _) [(nmL, 1), (nmT, ts)] _ 2 2 (Grd.two rfl nmL nmT (by decide) (by decide) 1 ts) (by omega) (by omega)).mono ?_; rintro e w9 ⟨rfl, h9, o9⟩; rw [E1.out] at h9 ⊢); refine hK.out _ _ (HKc.out _ ((hO7.out.trans (OnlyB.below (bl_alloc (Below.refl _ _)) hz7)).trans (OnlyB.fs o9 (by simp; omega)))) (fun hHeld => ?_); clear hK K; (try simp only [Act.put, List.setIfInBounds_toArray, List.set_cons_zero, List.set_cons_succ]))
                  have hO9 := Lib.hid ((hO7.out.trans (OnlyB.below (bl_alloc (Below.refl _ _)) hz7)).trans (OnlyB.fs o9 (by simp; omega)))
                  have hF9 := Lib.hid h9
                  clear h9 o9
                  (refine wpAnyH_take (i := 10) (oi := _) (v := ?_) (ops_at rfl) (by kernel_rfl) (by kernel_rfl) (by kernel_rfl) (fun _ _ _ h => h) (Or.inl ⟨by rfl, ?_⟩) (by assumption) ?_; rotate_left; (focus (intro w hSw; (try dsimp only at hSw); go_simp; (try with_reducible rfl))); (try simp only [Act.put, List.setIfInBounds_toArray, List.set_cons_zero, List.set_cons_succ])); (refine wpAnyH_take (i := 11) (oi := _) (v := ?_) (ops_at rfl) (by kernel_rfl) (by kernel_rfl) (by kernel_rfl) (fun _ _ _ h => h) (Or.inl ⟨by rfl, ?_⟩) (by assumption) ?_; rotate_left; (focus (intro w hSw; (try dsimp only at hSw); go_simp; (try with_reducible rfl))); (try simp only [Act.put, List.setIfInBounds_toArray, List.set_cons_zero, List.set_cons_succ])); (refine wpAnyH_take (i := 12) (oi := _) (v := ?_) (ops_at rfl) (by kernel_rfl) (by kernel_rfl) (by kernel_rfl) (fun _ _ _ h => h) (Or.inl ⟨by rfl, ?_⟩) (by assumption) ?_; rotate_left; (focus (intro w hSw; (try dsimp only at hSw); go_simp; (try with_reducible rfl))); (try simp only [Act.put, List.setIfInBounds_toArray, List.set_cons_zero, List.set_cons_succ])); (refine wpAnyH_take (i := 13) (oi := _) (v := ?_) (ops_at rfl) (by kernel_rfl) (by kernel_rfl) (by kernel_rfl) (fun _ _ _ h => h) (Or.inl ⟨by rfl, ?_⟩) (by assumption) ?_; rotate_left; (focus (intro w hSw; (try dsimp only at hSw); go_simp; (try with_reducible rfl))); (try simp only [Act.put, List.setIfInBounds_toArray, List.set_cons_zero, List.set_cons_succ])); (refine wpAnyH_take (i := 14) (oi := _) (v := ?_) (ops_at rfl) (by kernel_rfl) (by kernel_rfl) (by kernel_rfl) (fun _ _ _ h => h) (Or.inl ⟨by rfl, ?_⟩) (by assumption) ?_; rotate_left; (focus (intro w hSw; (try dsimp only at hSw); go_simp; (try with_reducible rfl))); (try simp only [Act.put, List.setIfInBounds_toArray, List.set_cons_zero, List.set_cons_succ])); (refine wpAnyH_done (by kernel_rfl) ?_ _); clear hHeld; go_wp2_with fail; go_meet; exact ⟨rfl, rfl, hF9.out, HG6.out.onlyB hO9.out hgl6 hgn6, HRow6.out.onlyB HF6.out rfl hO9.out⟩
                · (go_simp; skip; refine hK.out _ _ (HKc.out _ (OnlyB.below ((bl_alloc (Below.refl _ _)).drew) (Nat.le_refl _))) (fun hHeld => ?_); clear hK K; (try simp only [Act.put, List.setIfInBounds_toArray, List.set_cons_zero, List.set_cons_succ]))
                  (refine wpAnyH_ready (rs := [5]) (by kernel_rfl) (by simp) (AllReadyH.cons (ops_at rfl) (fun K hK => ?_) AllReadyH.nil); go_simp; (refine (lawDone_any x _).mono ?_; rintro e w7 ⟨⟨P, pm, rfl, hpb, hpu, hpm⟩, hb7⟩; rw [hd] at hpb ⊢); refine hK.out _ _ (HKc.out _ (OnlyB.below (bl_then ((bl_alloc (Below.refl _ _)).drew) hb7) (Nat.le_refl _))) (fun hHeld => ?_); clear hK K; (try simp only [Act.put, List.setIfInBounds_toArray, List.set_cons_zero, List.set_cons_succ]))
                  have hO7 := Lib.hid (OnlyB.below (bs := [fb, mb]) (bl_then ((bl_alloc (Below.refl _ _)).drew) hb7) (Nat.le_refl _))
                  have hz7 : W6.heap.size ≤ w7.heap.size := hO7.out.size
                  have hF7 := Lib.hid (HF6.out.below (bl_then ((bl_alloc (Below.refl _ _)).drew) hb7))
                  have hG7 := Lib.hid (((Grd.two (w := W6) (t := 30) rfl nmL nmT (by decide) (by decide) 1 ts).below (Below.refl _ _).drew).below hb7)
                  clear hb7
                  (refine wpAnyH_ready (rs := [9]) (by kernel_rfl) (by simp) (AllReadyH.cons (ops_at rfl) (fun K hK => ?_) AllReadyH.nil); go_simp; (refine (tell_any hF7.out (by omega) d P pm 2 hr.1 hpb [(nmL, 1), (nmT, ts)] _ 2 2 hG7.out (by omega) (by omega)).mono ?_; rintro e w9 ⟨rfl, h9, o9⟩; rw [E1.out] at h9 ⊢); refine hK.out _ _ (HKc.out _ (hO7.out.trans (OnlyB.fs o9 hz7))) (fun hHeld => ?_); clear hK K; (try simp only [Act.put, List.setIfInBounds_toArray, List.set_cons_zero, List.set_cons_succ]))
                  have hO9 := Lib.hid (hO7.out.trans (OnlyB.fs o9 hz7))
                  have hF9 := Lib.hid h9
                  clear h9 o9
                  (refine wpAnyH_take (i := 10) (oi := _) (v := ?_) (ops_at rfl) (by kernel_rfl) (by kernel_rfl) (by kernel_rfl) (fun _ _ _ h => h) (Or.inl ⟨by rfl, ?_⟩) (by assumption) ?_; rotate_left; (focus (intro w hSw; (try dsimp only at hSw); go_simp; (try with_reducible rfl))); (try simp only [Act.put, List.setIfInBounds_toArray, List.set_cons_zero, List.set_cons_succ])); (refine wpAnyH_take (i := 11) (oi := _) (v := ?_) (ops_at rfl) (by kernel_rfl) (by kernel_rfl) (by kernel_rfl) (fun _ _ _ h => h) (Or.inl ⟨by rfl, ?_⟩) (by assumption) ?_; rotate_left; (focus (intro w hSw; (try dsimp only at hSw); go_simp; (try with_reducible rfl))); (try simp only [Act.put, List.setIfInBounds_toArray, List.set_cons_zero, List.set_cons_succ])); (refine wpAnyH_take (i := 12) (oi := _) (v := ?_) (ops_at rfl) (by kernel_rfl) (by kernel_rfl) (by kernel_rfl) (fun _ _ _ h => h) (Or.inl ⟨by rfl, ?_⟩) (by assumption) ?_; rotate_left; (focus (intro w hSw; (try dsimp only at hSw); go_simp; (try with_reducible rfl))); (try simp only [Act.put, List.setIfInBounds_toArray, List.set_cons_zero, List.set_cons_succ])); (refine wpAnyH_take (i := 13) (oi := _) (v := ?_) (ops_at rfl) (by kernel_rfl) (by kernel_rfl) (by kernel_rfl) (fun _ _ _ h => h) (Or.inl ⟨by rfl, ?_⟩) (by assumption) ?_; rotate_left; (focus (intro w hSw; (try dsimp only at hSw); go_simp; (try with_reducible rfl))); (try simp only [Act.put, List.setIfInBounds_toArray, List.set_cons_zero, List.set_cons_succ])); (refine wpAnyH_take (i := 14) (oi := _) (v := ?_) (ops_at rfl) (by kernel_rfl) (by kernel_rfl) (by kernel_rfl) (fun _ _ _ h => h) (Or.inl ⟨by rfl, ?_⟩) (by assumption) ?_; rotate_left; (focus (intro w hSw; (try dsimp only at hSw); go_simp; (try with_reducible rfl))); (try simp only [Act.put, List.setIfInBounds_toArray, List.set_cons_zero, List.set_cons_succ])); (refine wpAnyH_done (by kernel_rfl) ?_ _); clear hHeld; go_wp2_with fail; go_meet; exact ⟨rfl, rfl, hF9.out, HG6.out.onlyB hO9.out hgl6 hgn6, HRow6.out.onlyB HF6.out rfl hO9.out⟩
              case rest =>
                obtain ⟨rfl, rfl, hf, hg, hrow⟩ := hcut
                have HF7 := Lib.hid hf
                have HG7 := Lib.hid hg
                have HRow7 := Lib.hid hrow
                clear hf hg hrow HKc HF5 HF6 HG5 HG6 HT5 HRow5 HRow6 HX0 HH E1
                have hc7 : wc.cell? (ad.add j) = some (.int .i64 x) := (World.cell?_of_block (HF7.out.bel.block _ (by rw [addr_block]; exact hadl))).trans hcell
                go_wp2_with fail
                refine (lawDone_any x _).mono ?_
                rintro e w8 ⟨⟨P, pm, rfl, hpb, hpu, hpm⟩, hb8⟩
                rw [hd] at hpb ⊢
                unfold dnV
                have HP8 := Lib.hid hpb
                have HU8 := Lib.hid hpu
                have HF8 := Lib.hid (HF7.out.below hb8)
                have HG8 := Lib.hid (HG7.out.below hb8)
                have HRow8 := Lib.hid (HRow7.out.below hb8)
                clear hpb hpu hb8 HF7 HG7 HRow7 hc7
                obtain ⟨xs, x1, x2, x3⟩ := HRow8.out.ex
                have X2 := Lib.hid x2
                have X3 := Lib.hid x3
                have hwl := HRow8.out.len
                clear x2 x3
                have hsz8 : w.heap.size ≤ w8.heap.size := HF8.out.bel.size
                have hwn : wn ≤ 10 := by omega
                go_upto_region 31 with (
                  at_builtin
                  refine wpList_app rfl (.tmp 141) (.tmp 147) 31 rfl Try.underlying31 dnInfo rfl (by decide) rfl (X2.out.alloc _) rfl (Rd.lit w8 #[.string d.t, .int .i64 d.who, .int .i64 d.inc, .slice P pm 2] 39 (0, 0) 4 1 rfl) (by simp [Value.oneCell']) (by omega) (by omega) (by simp; omega) rfl rfl ?_
                  intro Z2 zc2 w12 hx1 hg1 hx2
                  have hbl : Below w8.heap.size w8 (w8.alloc (Obj.cells #[.string d.t, .int .i64 d.who, .int .i64 d.inc, .slice P pm 2] 39)) := bl_alloc (Below.refl _ _)
                  have hk := fun (b : Nat) (hb : b < w8.heap.size) (hn : ob WA ≠ some b) => (hg1.block b (by simp; omega) (fun e => hn e.symm)).trans (hbl.block b hb)
                  have hrw : ∀ k, ob WA = some k → w.heap.size ≤ k ∧ ∃ t cs fr, (w8.alloc (Obj.cells #[.string d.t, .int .i64 d.who, .int .i64 d.inc, .slice P pm 2] 39)).heap[k]? = some (Obj.cells cs t fr) ∧ t ≠ 5 ∧ t ≠ 79 := fun k hk => by
                    obtain ⟨cs, fr, e⟩ := own_at (X2.out.alloc _) hk
                    exact ⟨(X2.out.blk k hk).1, _, cs, fr, e, by decide, by decide⟩
                  have HG12 := Lib.hid (HG8.out.keep (hk g HG8.out.lt (own_ne_blk X2.out HG8.out (by decide))))
                  have HRow12 := Lib.hid (DRow.app (x := ⟨d, P, pm, 2⟩) (o := Obj.cells #[.string d.t, .int .i64 d.who, .int .i64 d.inc, .slice P pm 2] 39) ⟨HP8.out, HU8.out, hpm⟩ x1 X2.out X3.out hg1 hx1)
                  have HF12 := Lib.hid (HF8.out.alloc.grown hg1 hrw)
                  clear hbl hk hrw hx1 hg1 hx2 x1 X2 X3 HG8 HP8 HU8 HRow8 HF8)
                have hdl2 : (ds ++ [d]).length ≤ j + 1 := by simp; omega
                by_cases hcj : j < cn
                · have hcj2 : (j : Int) < (cn : Int) := by omega
                  obtain ⟨ac, rfl, hcc, -, -⟩ := (HC.out.below HF12.out.bel).get hcj
                  obtain ⟨y, hy⟩ : ∃ y, ix cl j = y := ⟨_, rfl⟩
                  rw [hy] at hcc
                  obtain ⟨b1, hb1, hb2⟩ := maskN 1 (by decide) y 1 (by decide)
                  by_cases hb0 : b1 = 1
                  · have hbb1 : ((b1 : Int) == 1) = true := by rw [beq_iff_eq]; omega
                    clear hb0
                    go_wp2_with fail
                    refine (read_h HF12.out nmT (by decide)).mono ?_
                    rintro e w13 ⟨RA, rn, rc, rfl, hrn, hown, hb13⟩
                    rw [e3] at hrn hown ⊢
                    have hrn' : (tr (ds ++ [d])).length = rn := hrn
                    have hrn2 : 34 ≤ rn := by rw [← hrn', tr_snoc, List.length_append, framed_len]; omega
                    have HO13 := Lib.hid (show Own w13 w12.heap.size 5 1 RA rn rc (ints .u8 (tr (ds ++ [d]))) from hown)
                    have HB13 := Lib.hid hb13
                    have hcap := hown.cap
                    have hsz13 := hb13.size
                    have hcc2 : w13.cell? (ac.add j) = some (.int .i64 y) := (World.cell?_of_block (hb13.block _ (World.block_lt_of_cell? w12 _ hcc))).trans hcc
                    clear hrn hown hb13
                    obtain ⟨p, hp, hp1⟩ := maskN 8 (by decide) (y / 2) 255 (by decide)
                    obtain ⟨kk, hkk, hkl⟩ : ∃ kk : Nat, (p : Int).tmod (min (rn : Int) 20) = (kk : Int) ∧ kk < 20 := ⟨p % 20, by rw [show min (rn : Int) 20 = ((20 : Nat) : Int) by omega, Int.tmod_eq_emod_of_nonneg (by omega), Int.natCast_emod], Nat.mod_lt _ (by omega)⟩
                    have hm20 : (min (rn : Int) 20 == 0) = false := by rw [beq_eq_false_iff_ne]; omega
                    have hsl := fun w => slice_upto (P := Try.prog) (A := RA) (n := rn) (c := rc) (kk := .i64) (k := kk) Try.underlying28 u8s (by omega) hcap w
                    have hr0 : ((rn : Int) == 0) = false := by rw [beq_eq_false_iff_ne]; omega
                    have HB' := Lib.hid (own_bs HO13.out (tr_bytes E4.out.ok) (by omega))
                    obtain ⟨S4, q4, p1, p2⟩ := held_junk E4.out E5.out kk hkl (by simp)
                    have P1 := Lib.hid p1
                    have P2 := Lib.hid p2
                    clear p1 p2
                    go_wp2_with (
                      at_builtin
                      refine wpList_app rfl (.tmp 171) (.tmp 183) 28 rfl Try.underlying28 u8i rfl (by decide) rfl HO13.out rfl (HB'.out.take (k := kk) (by omega)).rd (ints_one _ _) (by omega) (by omega) hsz13 rfl (show ints .u8 (tr (ds ++ [d])) ++ ints .u8 ((tr (ds ++ [d])).take kk) = ints .u8 (tr (ds ++ [d]) ++ (tr (ds ++ [d])).take kk) by simp [ints]) ?_
                      intro Y yc w14 hy1 hg1 hy2
                      have HY := Lib.hid hy1
                      have HB14 := Lib.hid (HB13.out.grown hg1 hsz13 (fun k hk => (HO13.out.blk k hk).1))
                      clear hy1 hg1 hy2)
                    refine (put_h (HF12.out.below HB14.out) (by omega) nmT (tr (ds ++ [d]) ++ (tr (ds ++ [d])).take kk) Y (rn + kk) yc (by decide) (by omega) (own_bs HY.out (bytes_app (tr_bytes E4.out.ok) (fun x hx => tr_bytes E4.out.ok x (List.mem_of_mem_take hx))) (by omega))).mono ?_
                    rintro e w15 ⟨rfl, h15, o15⟩
                    rw [P1.out] at h15 ⊢
                    have HF15 := Lib.hid h15
                    have HG15 := Lib.hid ((HG12.out.below HB14.out).only o15 (HF12.out.ne HG12.out.at_ (by decide)))
                    have HRow15 := Lib.hid ((HRow12.out.below HB14.out).onlyB (HF12.out.below HB14.out) rfl (OnlyB.of_only o15))
                    clear h15 o15 HG12 HRow12 HF12 HB14 HY
                    go_wp2_with fail
                    exact ⟨⟨j + 1, by omega, by omega, by go_num, ⟨S4, ds ++ [d], Z2, wn + 1, zc2, _, rfl, HRow15.out, P2.out, HF15.out, by omega, htr, hdl2⟩, HG15.out⟩, by simp [intOf]; omega⟩
                  · have hbb1 : ((b1 : Int) == 1) = false := by rw [beq_eq_false_iff_ne]; omega
                    go_wp2_with fail
                    exact ⟨⟨j + 1, by omega, by omega, by go_num, ⟨Sy, ds ++ [d], Z2, wn + 1, zc2, _, rfl, HRow12.out, E4.out, HF12.out, by omega, htr, hdl2⟩, HG12.out⟩, by simp [intOf]; omega⟩
                · have hcj2 : ¬ (j : Int) < (cn : Int) := by omega
                  go_wp2_with fail
                  exact ⟨⟨j + 1, by omega, by omega, by go_num, ⟨Sy, ds ++ [d], Z2, wn + 1, zc2, _, rfl, HRow12.out, E4.out, HF12.out, by omega, htr, hdl2⟩, HG12.out⟩, by simp [intOf]; omega⟩
            · obtain ⟨Sy, qx, f1, f2, qr, f3⟩ := held_other HX0.out HH.out (framed d.raw)
              have F1 := Lib.hid f1
              obtain ⟨qq, hqq⟩ : ∃ qq : Int, 0 = qq := ⟨_, rfl⟩
              rw [hqq] at f2
              have E1 := Lib.hid f2
              clear f1 f2 hqq
              go_wp2_with fail
              refine (put_h HF5.out.alloc (by omega) nmL [111, 116, 104, 101, 114] (some ⟨W5.heap.size, 0, none⟩) 5 5 (by decide) (by omega) (bs_lit (l := [111, 116, 104, 101, 114]) (by intro x hx; simp at hx; omega) (by decide) rfl)).mono ?_
              rintro e W6 ⟨rfl, h6, o6⟩
              rw [F1.out] at h6 ⊢
              have hbl : Below W5.heap.size W5 (W5.alloc (Obj.cells (ints .u8 [111, 116, 104, 101, 114]).toArray 5 (5, 6))) := bl_alloc (Below.refl _ _)
              obtain ⟨kx, hkx⟩ : ∃ kx, k + m + 1 = kx := ⟨_, rfl⟩
              have hkx2 : kx ≤ k + 4 := by omega
              have HF6 := Lib.hid (show FsH w W6 fb mb Sy kx from by rw [← hkx]; exact h6)
              have HG6 := Lib.hid ((HG5.out.below hbl).only o6 hgn5)
              have HT6 := Lib.hid ((HT5.out.below hbl).only o6 htn5)
              have HRow6 := Lib.hid ((HRow5.out.below hbl).onlyB HF5.out.alloc rfl (OnlyB.of_only o6))
              have hgl6 := HG6.out.lt
              have hgn6 := hgn5
              have htl6 := HT6.out.lt
              have hfb := HF6.out.hf
              have hmb := HF6.out.hm
              have HKc := Lib.hid (fun (w' : World) (hh : OnlyB W6.heap.size [fb, mb] W6 w') => (show w'.cell? (ad.add j) = some (.int .i64 x) ∧ w'.cell? ⟨g, 0, none⟩ = some (.string nmL) ∧ w'.cell? ⟨g, 1, none⟩ = some (.int .i64 1) ∧ w'.cell? ⟨gt, 0, none⟩ = some (.string nmT) ∧ w'.cell? ⟨gt, 1, none⟩ = some (.int .i64 ts) from by
                have h1 := HG6.out.onlyB hh hgl6 hgn5
                have h2 := HT6.out.onlyB hh htl6 htn5
                refine ⟨((hh.cell (p := ad.add j) (by rw [addr_block]; have := HF6.out.bel.size; omega) (by rw [addr_block]; simp; omega)).trans (World.cell?_of_block (HF6.out.bel.block _ (by rw [addr_block]; exact hadl)))).trans hcell, h1.cell 0, h1.cell 1, h2.cell 0, h2.cell 1⟩))
              clear h6 o6 hbl hkx HF5 HG5 HT5 HRow5 F1
              go_upto_region 23 with fail
              go_cut [18, 19] (fun v1 v2 wx => v1 = .int .i64 qq ∧ v2 = .int .i64 5 ∧ FsH w wx fb mb Sy (kx + 1) ∧ Blk wx g 30 [.string nmL, .int .i64 1] ∧ DRow wx w.heap.size WA wn wk ds)
              case first =>
                (refine wp_region_held_drew (S := fun w' => w'.cell? (ad.add j) = some (.int .i64 x) ∧ w'.cell? ⟨g, 0, none⟩ = some (.string nmL) ∧ w'.cell? ⟨g, 1, none⟩ = some (.int .i64 1) ∧ w'.cell? ⟨gt, 0, none⟩ = some (.string nmT) ∧ w'.cell? ⟨gt, 1, none⟩ = some (.int .i64 ts)) (by kernel_rfl) (HKc.out _ ⟨rfl, rfl, rfl, Nat.le_refl _, fun _ _ _ => rfl⟩) (fun hHeld => ?_))
                (refine wpAnyH_take (i := 0) (oi := _) (v := ?_) (ops_at rfl) (by kernel_rfl) (by kernel_rfl) (by kernel_rfl) (fun _ _ _ h => h) (Or.inl ⟨by rfl, ?_⟩) (by assumption) ?_; rotate_left; (focus (intro w hSw; (try dsimp only at hSw); go_simp; (try with_reducible rfl))); (try simp only [Act.put, List.setIfInBounds_toArray, List.set_cons_zero, List.set_cons_succ])); (refine wpAnyH_take (i := 1) (oi := _) (v := ?_) (ops_at rfl) (by kernel_rfl) (by kernel_rfl) (by kernel_rfl) (fun _ _ _ h => h) (Or.inl ⟨by rfl, ?_⟩) (by assumption) ?_; rotate_left; (focus (intro w hSw; (try dsimp only at hSw); go_simp; (try with_reducible rfl))); (try simp only [Act.put, List.setIfInBounds_toArray, List.set_cons_zero, List.set_cons_succ])); (refine wpAnyH_take (i := 2) (oi := _) (v := ?_) (ops_at rfl) (by kernel_rfl) (by kernel_rfl) (by kernel_rfl) (fun _ _ _ h => h) (Or.inl ⟨by rfl, ?_⟩) (by assumption) ?_; rotate_left; (focus (intro w hSw; (try dsimp only at hSw); go_simp; (try with_reducible rfl))); (try simp only [Act.put, List.setIfInBounds_toArray, List.set_cons_zero, List.set_cons_succ])); (refine wpAnyH_take (i := 3) (oi := _) (v := ?_) (ops_at rfl) (by kernel_rfl) (by kernel_rfl) (by kernel_rfl) (fun _ _ _ h => h) (Or.inl ⟨by rfl, ?_⟩) (by assumption) ?_; rotate_left; (focus (intro w hSw; (try dsimp only at hSw); go_simp; (try with_reducible rfl))); (try simp only [Act.put, List.setIfInBounds_toArray, List.set_cons_zero, List.set_cons_succ])); (refine wpAnyH_take (i := 4) (oi := _) (v := ?_) (ops_at rfl) (by kernel_rfl) (by kernel_rfl) (by kernel_rfl) (fun _ _ _ h => h) (Or.inl ⟨by rfl, ?_⟩) (by assumption) ?_; rotate_left; (focus (intro w hSw; (try dsimp only at hSw); go_simp; (try with_reducible rfl))); (try simp only [Act.put, List.setIfInBounds_toArray, List.set_cons_zero, List.set_cons_succ])); (refine wpAnyH_take (i := 6) (oi := _) (v := ?_) (ops_at rfl) (by kernel_rfl) (by kernel_rfl) (by kernel_rfl) (fun _ _ _ h => h) (Or.inl ⟨by rfl, ?_⟩) (by assumption) ?_; rotate_left; (focus (intro w hSw; (try dsimp only at hSw); go_simp; (try with_reducible rfl))); (try simp only [Act.put, List.setIfInBounds_toArray, List.set_cons_zero, List.set_cons_succ])); (refine wpAnyH_take (i := 7) (oi := _) (v := ?_) (ops_at rfl) (by kernel_rfl) (by kernel_rfl) (by kernel_rfl) (fun _ _ _ h => h) (Or.inl ⟨by rfl, ?_⟩) (by assumption) ?_; rotate_left; (focus (intro w hSw; (try dsimp only at hSw); go_simp; (try with_reducible rfl))); (try simp only [Act.put, List.setIfInBounds_toArray, List.set_cons_zero, List.set_cons_succ]))
                (refine wpAnyH_ready (rs := [5, 8]) (by kernel_rfl) (by simp) (AllReadyH.cons (ops_at rfl) (fun K hK => ?_) (AllReadyH.cons (ops_at rfl) (fun K hK => ?_) AllReadyH.nil)))
                · (go_simp; (refine (lawDone_any x _).mono ?_; rintro e w7 ⟨⟨P, pm, rfl, hpb, hpu, hpm⟩, hb7⟩; rw [hd] at hpb ⊢); refine hK.out _ _ (HKc.out _ (OnlyB.below (bl_of_drew hb7) (Nat.le_refl _))) (fun hHeld => ?_); clear hK K; (try simp only [Act.put, List.setIfInBounds_toArray, List.set_cons_zero, List.set_cons_succ]))
                  have hO7 := Lib.hid (OnlyB.below (bs := [fb, mb]) (bl_of_drew hb7) (Nat.le_refl _))
                  have hz7 : W6.heap.size ≤ w7.heap.size := hO7.out.size
                  have hF7 := Lib.hid (HF6.out.below (bl_of_drew hb7))
                  clear hb7
                  (refine wpAnyH_ready (rs := [8]) (by kernel_rfl) (by simp) (AllReadyH.cons (ops_at rfl) (fun K hK => ?_) AllReadyH.nil); go_simp; skip; refine hK.out _ _ (HKc.out _ (hO7.out.trans (OnlyB.below (bl_alloc (Below.refl _ _)) hz7))) (fun hHeld => ?_); clear hK K; (try simp only [Act.put, List.setIfInBounds_toArray, List.set_cons_zero, List.set_cons_succ]))
                  (refine wpAnyH_ready (rs := [9]) (by kernel_rfl) (by simp) (AllReadyH.cons (ops_at rfl) (fun K hK => ?_) AllReadyH.nil); go_simp; (refine (tell_any hF7.out.alloc (by omega) d P pm 2 hr.1 (hpb.alloc _) [(nmL, 1), (nmT, ts)] _ 2 2 (Grd.two rfl nmL nmT (by decide) (by decide) 1 ts) (by omega) (by omega)).mono ?_; rintro e w9 ⟨rfl, h9, o9⟩; rw [E1.out] at h9 ⊢); refine hK.out _ _ (HKc.out _ ((hO7.out.trans (OnlyB.below (bl_alloc (Below.refl _ _)) hz7)).trans (OnlyB.fs o9 (by simp; omega)))) (fun hHeld => ?_); clear hK K; (try simp only [Act.put, List.setIfInBounds_toArray, List.set_cons_zero, List.set_cons_succ]))
                  have hO9 := Lib.hid ((hO7.out.trans (OnlyB.below (bl_alloc (Below.refl _ _)) hz7)).trans (OnlyB.fs o9 (by simp; omega)))
                  have hF9 := Lib.hid h9
                  clear h9 o9
                  (refine wpAnyH_take (i := 10) (oi := _) (v := ?_) (ops_at rfl) (by kernel_rfl) (by kernel_rfl) (by kernel_rfl) (fun _ _ _ h => h) (Or.inl ⟨by rfl, ?_⟩) (by assumption) ?_; rotate_left; (focus (intro w hSw; (try dsimp only at hSw); go_simp; (try with_reducible rfl))); (try simp only [Act.put, List.setIfInBounds_toArray, List.set_cons_zero, List.set_cons_succ])); (refine wpAnyH_take (i := 11) (oi := _) (v := ?_) (ops_at rfl) (by kernel_rfl) (by kernel_rfl) (by kernel_rfl) (fun _ _ _ h => h) (Or.inl ⟨by rfl, ?_⟩) (by assumption) ?_; rotate_left; (focus (intro w hSw; (try dsimp only at hSw); go_simp; (try with_reducible rfl))); (try simp only [Act.put, List.setIfInBounds_toArray, List.set_cons_zero, List.set_cons_succ])); (refine wpAnyH_take (i := 12) (oi := _) (v := ?_) (ops_at rfl) (by kernel_rfl) (by kernel_rfl) (by kernel_rfl) (fun _ _ _ h => h) (Or.inl ⟨by rfl, ?_⟩) (by assumption) ?_; rotate_left; (focus (intro w hSw; (try dsimp only at hSw); go_simp; (try with_reducible rfl))); (try simp only [Act.put, List.setIfInBounds_toArray, List.set_cons_zero, List.set_cons_succ])); (refine wpAnyH_take (i := 13) (oi := _) (v := ?_) (ops_at rfl) (by kernel_rfl) (by kernel_rfl) (by kernel_rfl) (fun _ _ _ h => h) (Or.inl ⟨by rfl, ?_⟩) (by assumption) ?_; rotate_left; (focus (intro w hSw; (try dsimp only at hSw); go_simp; (try with_reducible rfl))); (try simp only [Act.put, List.setIfInBounds_toArray, List.set_cons_zero, List.set_cons_succ])); (refine wpAnyH_take (i := 14) (oi := _) (v := ?_) (ops_at rfl) (by kernel_rfl) (by kernel_rfl) (by kernel_rfl) (fun _ _ _ h => h) (Or.inl ⟨by rfl, ?_⟩) (by assumption) ?_; rotate_left; (focus (intro w hSw; (try dsimp only at hSw); go_simp; (try with_reducible rfl))); (try simp only [Act.put, List.setIfInBounds_toArray, List.set_cons_zero, List.set_cons_succ])); (refine wpAnyH_done (by kernel_rfl) ?_ _); clear hHeld; go_wp2_with fail; go_meet; exact ⟨rfl, rfl, hF9.out, HG6.out.onlyB hO9.out hgl6 hgn6, HRow6.out.onlyB HF6.out rfl hO9.out⟩
                · (go_simp; skip; refine hK.out _ _ (HKc.out _ (OnlyB.below ((bl_alloc (Below.refl _ _)).drew) (Nat.le_refl _))) (fun hHeld => ?_); clear hK K; (try simp only [Act.put, List.setIfInBounds_toArray, List.set_cons_zero, List.set_cons_succ]))
                  (refine wpAnyH_ready (rs := [5]) (by kernel_rfl) (by simp) (AllReadyH.cons (ops_at rfl) (fun K hK => ?_) AllReadyH.nil); go_simp; (refine (lawDone_any x _).mono ?_; rintro e w7 ⟨⟨P, pm, rfl, hpb, hpu, hpm⟩, hb7⟩; rw [hd] at hpb ⊢); refine hK.out _ _ (HKc.out _ (OnlyB.below (bl_then ((bl_alloc (Below.refl _ _)).drew) hb7) (Nat.le_refl _))) (fun hHeld => ?_); clear hK K; (try simp only [Act.put, List.setIfInBounds_toArray, List.set_cons_zero, List.set_cons_succ]))
                  have hO7 := Lib.hid (OnlyB.below (bs := [fb, mb]) (bl_then ((bl_alloc (Below.refl _ _)).drew) hb7) (Nat.le_refl _))
                  have hz7 : W6.heap.size ≤ w7.heap.size := hO7.out.size
                  have hF7 := Lib.hid (HF6.out.below (bl_then ((bl_alloc (Below.refl _ _)).drew) hb7))
                  have hG7 := Lib.hid (((Grd.two (w := W6) (t := 30) rfl nmL nmT (by decide) (by decide) 1 ts).below (Below.refl _ _).drew).below hb7)
                  clear hb7
                  (refine wpAnyH_ready (rs := [9]) (by kernel_rfl) (by simp) (AllReadyH.cons (ops_at rfl) (fun K hK => ?_) AllReadyH.nil); go_simp; (refine (tell_any hF7.out (by omega) d P pm 2 hr.1 hpb [(nmL, 1), (nmT, ts)] _ 2 2 hG7.out (by omega) (by omega)).mono ?_; rintro e w9 ⟨rfl, h9, o9⟩; rw [E1.out] at h9 ⊢); refine hK.out _ _ (HKc.out _ (hO7.out.trans (OnlyB.fs o9 hz7))) (fun hHeld => ?_); clear hK K; (try simp only [Act.put, List.setIfInBounds_toArray, List.set_cons_zero, List.set_cons_succ]))
                  have hO9 := Lib.hid (hO7.out.trans (OnlyB.fs o9 hz7))
                  have hF9 := Lib.hid h9
                  clear h9 o9
                  (refine wpAnyH_take (i := 10) (oi := _) (v := ?_) (ops_at rfl) (by kernel_rfl) (by kernel_rfl) (by kernel_rfl) (fun _ _ _ h => h) (Or.inl ⟨by rfl, ?_⟩) (by assumption) ?_; rotate_left; (focus (intro w hSw; (try dsimp only at hSw); go_simp; (try with_reducible rfl))); (try simp only [Act.put, List.setIfInBounds_toArray, List.set_cons_zero, List.set_cons_succ])); (refine wpAnyH_take (i := 11) (oi := _) (v := ?_) (ops_at rfl) (by kernel_rfl) (by kernel_rfl) (by kernel_rfl) (fun _ _ _ h => h) (Or.inl ⟨by rfl, ?_⟩) (by assumption) ?_; rotate_left; (focus (intro w hSw; (try dsimp only at hSw); go_simp; (try with_reducible rfl))); (try simp only [Act.put, List.setIfInBounds_toArray, List.set_cons_zero, List.set_cons_succ])); (refine wpAnyH_take (i := 12) (oi := _) (v := ?_) (ops_at rfl) (by kernel_rfl) (by kernel_rfl) (by kernel_rfl) (fun _ _ _ h => h) (Or.inl ⟨by rfl, ?_⟩) (by assumption) ?_; rotate_left; (focus (intro w hSw; (try dsimp only at hSw); go_simp; (try with_reducible rfl))); (try simp only [Act.put, List.setIfInBounds_toArray, List.set_cons_zero, List.set_cons_succ])); (refine wpAnyH_take (i := 13) (oi := _) (v := ?_) (ops_at rfl) (by kernel_rfl) (by kernel_rfl) (by kernel_rfl) (fun _ _ _ h => h) (Or.inl ⟨by rfl, ?_⟩) (by assumption) ?_; rotate_left; (focus (intro w hSw; (try dsimp only at hSw); go_simp; (try with_reducible rfl))); (try simp only [Act.put, List.setIfInBounds_toArray, List.set_cons_zero, List.set_cons_succ])); (refine wpAnyH_take (i := 14) (oi := _) (v := ?_) (ops_at rfl) (by kernel_rfl) (by kernel_rfl) (by kernel_rfl) (fun _ _ _ h => h) (Or.inl ⟨by rfl, ?_⟩) (by assumption) ?_; rotate_left; (focus (intro w hSw; (try dsimp only at hSw); go_simp; (try with_reducible rfl))); (try simp only [Act.put, List.setIfInBounds_toArray, List.set_cons_zero, List.set_cons_succ])); (refine wpAnyH_done (by kernel_rfl) ?_ _); clear hHeld; go_wp2_with fail; go_meet; exact ⟨rfl, rfl, hF9.out, HG6.out.onlyB hO9.out hgl6 hgn6, HRow6.out.onlyB HF6.out rfl hO9.out⟩
              case rest =>
                obtain ⟨rfl, rfl, hf, hg, hrow⟩ := hcut
                have HF7 := Lib.hid hf
                have HG7 := Lib.hid hg
                have HRow7 := Lib.hid hrow
                have hbig : (tr ds).length ≤ 2000 := by have := HH.out.len; omega
                clear hf hg hrow HKc HF6 HG6 HRow6 HX0 E1
                (go_wp2_with fail; refine (read_h HF7.out nmT (by decide)).mono ?_; rintro e w20 ⟨RA, rn, rc, rfl, hrn, hown, hb20⟩; rw [f3] at hrn hown ⊢; have hrn' : (tr ds).length = rn := hrn; have hrn2 : rn ≤ 2000 := (by rw [← hrn']; exact hbig); have hcap := hown.cap; have HRA := Lib.hid (own_bs (l := tr ds) hown (tr_bytes HH.out.ok) (by omega)); have HF20 := Lib.hid (HF7.out.below hb20); have HRow20 := Lib.hid (HRow7.out.below hb20); have HG20 := Lib.hid (HG7.out.below hb20); clear hrn hown hb20 HF7 HRow7 HG7; go_wp2_with fail; refine (rtrace_any RA rn rc (tr ds) (ds) ([]) _ HRA.out hcap (by omega) (List.append_nil _).symm HH.out.ok rfl).mono ?_; rintro e w21 ⟨⟨YA, yc2, rfl, hyrow⟩, hb21⟩; have HF21 := Lib.hid (HF20.out.below hb21); have HRow21 := Lib.hid (HRow20.out.below hb21); have HG21 := Lib.hid (HG20.out.below hb21); have HY21 := Lib.hid hyrow; have hwn := HRow21.out.len; clear hyrow hb21 HF20 HRow20 HG20 HRA; rw [hwn] at HY21 ⊢; go_wp2_with fail; refine (samedones_any (ds) YA _ _ yc2 _ _ _ _ HY21.out HRow21.out (by omega)).mono ?_; rintro e w22 ⟨rfl, hb22⟩; have HF22 := Lib.hid (HF21.out.below hb22); have HRow22 := Lib.hid (HRow21.out.below hb22); have HG22 := Lib.hid (HG21.out.below hb22); clear hb22 HF21 HRow21 HG21 HY21; go_wp2_with fail)
                (refine (awake14_any _).mono ?_; rintro e w23 ⟨rfl, hb23⟩; have HF23 := Lib.hid (HF22.out.below hb23); clear hb23 HF22 HRow22 HG22; go_wp2_with fail; go_ret; exact ⟨rfl, HF23.out.bel⟩)
    · obtain ⟨e0, r, q0, e1, e2, e3⟩ := held_read HH.out
      have hby : Bytes (tr ds ++ r) := by have := HF.out.bytes nmT; rw [e1] at this; exact this
      have hbig : (tr ds ++ r).length ≤ 2000 := by rw [List.length_append]; have := HH.out.len; omega
      by_cases hlt : j < n
      · have hlt1 : (j : Int) < (n : Int) := by omega
        have hlt2 : ¬ (j : Int) < 10 := by omega
        (go_wp2_with fail; refine (read_h HF.out nmT (by decide)).mono ?_; rintro e w20 ⟨RA, rn, rc, rfl, hrn, hown, hb20⟩; rw [e1] at hrn hown ⊢; have hrn' : (tr ds ++ r).length = rn := hrn; have hrn2 : rn ≤ 2000 := (by rw [← hrn']; exact hbig); have hcap := hown.cap; have HRA := Lib.hid (own_bs (l := tr ds ++ r) hown hby (by omega)); have HF20 := Lib.hid (HF.out.below hb20); have HRow20 := Lib.hid (HRow.out.below hb20); have HG20 := Lib.hid (HG.out.below hb20); clear hrn hown hb20 HF HRow HG; go_wp2_with fail; refine (rtrace_any RA rn rc (tr ds ++ r) (ds) (r) _ HRA.out hcap (by omega) rfl HH.out.ok e2).mono ?_; rintro e w21 ⟨⟨YA, yc2, rfl, hyrow⟩, hb21⟩; have HF21 := Lib.hid (HF20.out.below hb21); have HRow21 := Lib.hid (HRow20.out.below hb21); have HG21 := Lib.hid (HG20.out.below hb21); have HY21 := Lib.hid hyrow; have hwn := HRow21.out.len; clear hyrow hb21 HF20 HRow20 HG20 HRA; rw [hwn] at HY21 ⊢; go_wp2_with fail; refine (samedones_any (ds) YA _ _ yc2 _ _ _ _ HY21.out HRow21.out (by omega)).mono ?_; rintro e w22 ⟨rfl, hb22⟩; have HF22 := Lib.hid (HF21.out.below hb22); have HRow22 := Lib.hid (HRow21.out.below hb22); have HG22 := Lib.hid (HG21.out.below hb22); clear hb22 HF21 HRow21 HG21 HY21; go_wp2_with fail)
        (refine (awake14_any _).mono ?_; rintro e w23 ⟨rfl, hb23⟩; have HF23 := Lib.hid (HF22.out.below hb23); clear hb23 HF22 HRow22 HG22; go_wp2_with fail; go_ret; exact ⟨rfl, HF23.out.bel⟩)
      · have hlt1 : ¬ (j : Int) < (n : Int) := by omega
        (go_wp2_with fail; refine (read_h HF.out nmT (by decide)).mono ?_; rintro e w20 ⟨RA, rn, rc, rfl, hrn, hown, hb20⟩; rw [e1] at hrn hown ⊢; have hrn' : (tr ds ++ r).length = rn := hrn; have hrn2 : rn ≤ 2000 := (by rw [← hrn']; exact hbig); have hcap := hown.cap; have HRA := Lib.hid (own_bs (l := tr ds ++ r) hown hby (by omega)); have HF20 := Lib.hid (HF.out.below hb20); have HRow20 := Lib.hid (HRow.out.below hb20); have HG20 := Lib.hid (HG.out.below hb20); clear hrn hown hb20 HF HRow HG; go_wp2_with fail; refine (rtrace_any RA rn rc (tr ds ++ r) (ds) (r) _ HRA.out hcap (by omega) rfl HH.out.ok e2).mono ?_; rintro e w21 ⟨⟨YA, yc2, rfl, hyrow⟩, hb21⟩; have HF21 := Lib.hid (HF20.out.below hb21); have HRow21 := Lib.hid (HRow20.out.below hb21); have HG21 := Lib.hid (HG20.out.below hb21); have HY21 := Lib.hid hyrow; have hwn := HRow21.out.len; clear hyrow hb21 HF20 HRow20 HG20 HRA; rw [hwn] at HY21 ⊢; go_wp2_with fail; refine (samedones_any (ds) YA _ _ yc2 _ _ _ _ HY21.out HRow21.out (by omega)).mono ?_; rintro e w22 ⟨rfl, hb22⟩; have HF22 := Lib.hid (HF21.out.below hb22); have HRow22 := Lib.hid (HRow21.out.below hb22); have HG22 := Lib.hid (HG21.out.below hb22); clear hb22 HF21 HRow21 HG21 HY21; go_wp2_with fail)
        (refine (awake14_any _).mono ?_; rintro e w23 ⟨rfl, hb23⟩; have HF23 := Lib.hid (HF22.out.below hb23); clear hb23 HF22 HRow22 HG22; go_wp2_with fail; go_ret; exact ⟨rfl, HF23.out.bel⟩)
theorem logsagain_row {A : Option Addr} {n c : Nat} {l : List Int} {CA : Option Addr} {cn cc : Nat} {cl : List Int} {w : World} (hb : Came .i64 w A n c l) (yb : n * 8 ≤ 140737488351232) (hc : Came .i64 w CA cn cc cl) (yc : cn * 8 ≤ 140737488351232) (o : Bool) (W : World) (hW : W = w) :
    Calls Try.prog 3 #[.slice A n c, .slice CA cn cc, .bool o] W fun e w' => e = .returned (.bool true) ∧ Below W.heap.size W w' := by
  subst hW
  exact logsagain_any A n c l CA cn cc cl o W (came_ints hb yb) (came_ints hc yc)
end Go.Proofs.Ytebplbnkjpffpaa
