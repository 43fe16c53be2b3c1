/- The files: List. The files: their list, held along many calls. -/
import Derived.Test.YtkbgedaogfcdnaaFs8
import Derived.Test.YtkbgedaogfcdnaaIter
import Derived.Lib.Strings
import Derived.Lib.Slices
import Derived.Lib.Walk
import Derived.Test.YtkbgedaogfcdnaaFsH
namespace Go.Proofs.Ytkbgedaogfcdnaa
set_option linter.unusedSimpArgs false
set_option linter.unusedVariables false
open Go.RowKit
open Crc (Bytes)

set_option maxHeartbeats 1000000 in
theorem lhp_any (s p : ByteArray) (w : World) : Calls Try.prog 61 #[.string s, .string p] w fun e w' => e = .returned (.bool (Lib.hasPrefix s.data.toList p.data.toList)) ∧ w = w' := by
  rw [← Lib.hasPrefix_of_take, ← Lib.size_eq, ← Lib.size_eq]
  go_enter Try.func61, Try.ntmps61
  go_wp2
  · rename_i h
    go_ret
    refine ⟨?_, rfl⟩
    show Ending.returned (Value.bool ((s.extract 0 p.size).toList == p.toList)) = _
    rw [Lib.extract_toList, Lib.toList_data]
    simp [h]
  · rename_i h
    go_ret
    refine ⟨?_, rfl⟩
    show Ending.returned (Value.bool false) = _
    simp [h]
theorem hp_any (s p : ByteArray) (w : World) : Calls Try.prog 50 #[.string s, .string p] w fun e w' => e = .returned (.bool (Lib.hasPrefix s.data.toList p.data.toList)) ∧ w = w' := by
  go_enter Try.func50, Try.ntmps50
  go_wp2_with (go_at_call 61; refine (lhp_any _ _ _).mono ?_; rintro e w' ⟨rfl, rfl⟩)
  go_ret
  exact ⟨rfl, rfl⟩
theorem sindex_any (s : ByteArray) (w : World) : Calls Try.prog 60 #[.string s, .string ⟨#[47]⟩] w fun e w' => e = .returned (.int .i64 (slash s)) ∧ w = w' := by
  go_enter Try.func60, Try.ntmps60
  go_wp2_with (go_at_call 68; refine (index_any _ _).mono ?_; rintro e w' ⟨rfl, rfl⟩)
  go_ret
  exact ⟨rfl, rfl⟩
theorem contains_any (s : ByteArray) (w : World) : Calls Try.prog 49 #[.string s, .string ⟨#[47]⟩] w fun e w' => e = .returned (.bool (decide (0 ≤ slash s))) ∧ w = w' := by
  go_enter Try.func49, Try.ntmps49
  go_wp2_with (go_at_call 60; refine (sindex_any _ _).mono ?_; rintro e w' ⟨rfl, rfl⟩)
  go_ret
  exact ⟨rfl, rfl⟩

/-- The names that are there, rising. -/
structure Ks (S : Fs) (ks : List (List UInt8)) : Prop where
  mem : ∀ key, key ∈ ks ↔ (S.m key).isSome = true
  up : ks.Pairwise (fun a b => a < b)
/-- Whether a name is listed. -/
def inB (dir : ByteArray) (key : List UInt8) : Bool := if dir.data.toList = [] then !decide (0 ≤ slash ⟨key.toArray⟩) else Lib.hasPrefix key (dir.data.toList ++ [47])
theorem FSAt.keys {w : World} {fb mb n : Nat} {S : Fs} {D : DataW Value} (h : FSAt w fb S mb n D) : (strKeys D).Nodup ∧ (∀ key, key ∈ strKeys D ↔ (S.m key).isSome = true) ∧ Maps.size D ≤ n ∧ ∀ key ∈ strKeys D, key.length ≤ maxLen := by
  obtain ⟨es, rfl, hp⟩ := h.own.tidy strK
  have hk : ∀ p ∈ es, ∃ x, p.1 = .string x := fun p hp' => by
    obtain ⟨es', e, hko⟩ := h.own.keysOf
    injection e with e
    subst e
    obtain ⟨v, hv⟩ := hko p hp'
    obtain ⟨x, _, hx, _⟩ := Maps.keyOf_str Try.underlying9 hv
    exact ⟨x, hx⟩
  have hm : ∀ x, x ∈ strKeys (.map es) ↔ Maps.has (.map es) (.string x) = true := fun x => by
    rw [Maps.has_eq, List.any_eq_true]
    show x ∈ es.map (fun p => strOf p.1) ↔ _
    rw [List.mem_map]
    constructor
    · rintro ⟨p, hp', rfl⟩
      obtain ⟨a, ha⟩ := hk p hp'
      exact ⟨p, hp', by rw [ha]; exact WideAt.sameKey_self (show WideAt.IsKeyLit (Lit.string a) from trivial)⟩
    · rintro ⟨p, hp', he⟩
      refine ⟨p, hp', ?_⟩
      rw [WideAt.sameKey_eq he]; rfl
  refine ⟨?_, fun key => ?_, h.own.size_le, strKeys_le h.own Try.underlying9⟩
  · show (es.map fun p => strOf p.1).Nodup
    refine List.pairwise_map.2 (hp.imp_of_mem fun {p q} hp' hq' hne e => hne ?_)
    obtain ⟨a, ha⟩ := hk p hp'
    obtain ⟨b, hb⟩ := hk q hq'
    rw [ha, hb] at e ⊢
    exact congrArg _ e
  · rw [hm]
    cases hS : S.m key with
    | none => rw [h.no key hS]; simp
    | some x => rw [(h.yes key x.1 x.2 hS).1]; simp
theorem ks_of {S : Fs} {ss : List (List UInt8)} {D : DataW Value} (hp : ss.Perm (strKeys D)) (hn : (strKeys D).Nodup) (hm : ∀ key, key ∈ strKeys D ↔ (S.m key).isSome = true) : Ks S (ss.mergeSort (fun x y => decide (x ≤ y))) := by
  have tr : ∀ a b c : List UInt8, decide (a ≤ b) = true → decide (b ≤ c) = true → decide (a ≤ c) = true := fun a b c h1 h2 => by simp only [decide_eq_true_eq] at *; exact List.le_trans h1 h2
  have tot : ∀ a b : List UInt8, (decide (a ≤ b) || decide (b ≤ a)) = true := fun a b => by simp only [Bool.or_eq_true, decide_eq_true_eq]; exact List.le_total a b
  have hps := (List.mergeSort_perm ss (fun x y => decide (x ≤ y))).trans hp
  refine ⟨fun key => by rw [hps.mem_iff]; exact hm key, ?_⟩
  have h1 := List.pairwise_mergeSort tr tot ss
  have h2 : (ss.mergeSort (fun x y => decide (x ≤ y))).Nodup := (hps.nodup_iff).2 hn
  refine (h1.and h2).imp fun {a b} h => ?_
  obtain ⟨h3, h4⟩ := h
  rw [decide_eq_true_eq] at h3
  rcases List.le_iff_lt_or_eq.1 h3 with h5 | h5
  · exact h5
  · exact absurd h5 h4
theorem strInfo : (Try.prog.info? 9).map (fun i => (i.zero, i.size, i.bytes)) = some (some (.string ⟨#[]⟩), 1, 16) := by kernel_rfl
theorem own_slice {w : World} {base : Nat} {e : TypeId} {size n : Nat} {v : Value} {xs : List Value} (h : w.ownsRow base e size v n xs) : ∃ A c, v = .slice A n c ∧ Own w base e size A n c xs := by
  rcases h.2 with ⟨rfl, h0⟩ | ⟨g, cap, cur, rfl, h2⟩
  · subst h0
    exact ⟨none, 0, rfl, ⟨h⟩⟩
  · exact ⟨_, _, rfl, ⟨h⟩⟩
theorem filter_snoc {α : Type} (f : α → Bool) (l : List α) (j : Nat) (hj : j < l.length) : (l.take (j + 1)).filter f = (l.take j).filter f ++ (if f l[j] = true then [l[j]] else []) := by
  rw [List.take_succ_eq_append_getElem hj, List.filter_append]
  simp only [List.filter_cons, List.filter_nil]
theorem filter_le {α : Type} (f : α → Bool) (l : List α) (j : Nat) : ((l.take j).filter f).length ≤ j := Nat.le_trans (List.length_filter_le _ _) (List.length_take_le j l)
set_option maxRecDepth 100000 in
set_option maxHeartbeats 4000000 in
theorem list_any {w : World} {fb mb n : Nat} {S : Fs} {D : DataW Value} (dir : ByteArray) (hd : dir.size ≤ 140737488355000) (hn : n ≤ 4398046511104) (h : FSAt w fb S mb n D) :
    Calls Try.prog 29 #[.pointer (some ⟨fb, 0, none⟩), .string dir] w fun e w' => ∃ ks A k c, Ks S ks ∧ e = .returned (.slice A k c) ∧ k = (ks.filter (inB dir)).length ∧ Own w' w.heap.size 9 1 A k c ((ks.filter (inB dir)).map encStr) ∧ Below w.heap.size w w' := by
  have c5 : w.cell? ⟨fb, 5, none⟩ = some (.map (some mb)) := h.blk.cell 5
  obtain ⟨k1, k2, k3, k4⟩ := h.keys
  have K1 := Lib.hid k1
  have K2 := Lib.hid k2
  have K4 := Lib.hid k4
  have H := Lib.hid h
  clear h k1 k2 k4
  go_enter Try.func29, Try.ntmps29
  go_wp2_with (first
    | (go_at_call 48; refine (keys_in (some mb) _).mono ?_; rintro e w' ⟨rfl, rfl⟩)
    | (go_at_call 47; refine (sorted_keys mb n D RV w H.out.own (Nat.le_trans k3 (Nat.le_trans hn (by decide))) (by omega)).mono ?_; rintro e w1 ⟨v, ss, rfl, hS, hrow, hnil, hb⟩; obtain ⟨A0, c0, rfl, hown⟩ := own_slice hrow; clear hrow hnil))
  have hlen : ss.length ≤ n := by rw [hS.length_eq]; have : (strKeys D).length = Maps.size D := (by obtain ⟨es, rfl, _⟩ := H.out.own.tidy strK; simp [strKeys, Maps.size]); omega
  have HK := Lib.hid (ks_of hS K1.out K2.out)
  have hkl : (ss.mergeSort (fun x y => decide (x ≤ y))).length = ss.length := (List.mergeSort_perm ss _).length_eq
  have hkm : ∀ key ∈ ss.mergeSort (fun x y => decide (x ≤ y)), key.length ≤ maxLen := fun key hk => K4.out key ((((List.mergeSort_perm ss _).trans hS).mem_iff).1 hk)
  obtain ⟨ks, hks⟩ : ∃ ks, ss.mergeSort (fun x y => decide (x ≤ y)) = ks := ⟨_, rfl⟩
  rw [hks] at HK hkl hown hkm
  obtain ⟨q, hq⟩ : ∃ q, q = ss.length := ⟨_, rfl⟩
  rw [← hq] at hkl hlen hown ⊢
  have Hown := Lib.hid hown
  have Hb1 := Lib.hid hb.size
  have Hb := Lib.hid (((Below.refl _ w).alloc (Nat.le_refl _) (Obj.cells #[.map (some mb)] 50)).trans (hb.mono (by simp)))
  have Hkm := Lib.hid hkm
  obtain rfl := hkl
  clear hS hb hown hks hq hkm K1 K2 K4 c5
  go_loopw [5, 15] (fun v i wr => ∃ (j : Nat) (A : Option Addr) (c : Nat), j ≤ ks.length ∧ i = .int .i64 j ∧ v = .slice A ((ks.take j).filter (inB dir)).length c ∧ Own wr w1.heap.size 9 1 A ((ks.take j).filter (inB dir)).length c (((ks.take j).filter (inB dir)).map encStr) ∧ Below w.heap.size w wr ∧ w1.heap.size ≤ wr.heap.size ∧ Own wr w.heap.size 9 1 A0 ks.length c0 (ks.map encStr)) (fun _ i _ => ks.length - (intOf i).toNat)
  case atStart => exact ⟨0, none, 0, Nat.zero_le _, rfl, rfl, Own.nil _ _ _ _, Hb.out, Nat.le_refl _, Hown.out.more (by simp)⟩
  case round =>
    obtain ⟨j, A, c, hj, rfl, rfl, hown, hbel, hsz1, hrow⟩ := hrel
    by_cases hlt : j < ks.length
    · obtain ⟨g0, rfl, hg1, hg2⟩ := hrow.some (by omega)
      have hg3 : g0 < w1.heap.size := by obtain ⟨g', e, _, h⟩ := Hown.out.some (by omega); injection e with e; injection e with e; rw [e]; exact h
      have hc := hrow.cellAt j (by omega)
      rw [List.getElem?_map, List.getElem?_eq_getElem hlt, Option.map_some] at hc
      obtain ⟨x, hx⟩ : ∃ x, ks[j] = x := ⟨_, rfl⟩
      have hxm : x.length ≤ maxLen := Hkm.out x (hx ▸ List.getElem_mem hlt)
      have hsn := filter_snoc (inB dir) ks j hlt
      have hfl := filter_le (inB dir) ks j
      rw [hx] at hc hsn
      have hc' : wr.cell? ⟨g0, j, none⟩ = some (.string ⟨x.toArray⟩) := hc
      have Hsn := Lib.hid hsn
      have Hrow := Lib.hid hrow
      have Ho := Lib.hid hown
      have Hbel := Lib.hid hbel
      clear hc hsn hrow hown hbel hx Hown Hb
      by_cases hd0 : dir.data.toList = []
      · have hd1 : dir = ⟨#[]⟩ := ByteArray.ext (Array.toList_inj.1 hd0)
        subst hd1
        cases hb : decide (0 ≤ slash ⟨x.toArray⟩)
        · have Hin := Lib.hid (show inB ⟨#[]⟩ x = true by unfold inB; rw [if_pos rfl, hb]; rfl)
          have Hcb := Lib.hid hb
          clear hb hd0
          go_wp2_with (first | (go_at_call 49; refine (contains_any _ _).mono ?_; rintro e w2 ⟨rfl, rfl⟩; rw [Hcb.out]) | (at_builtin; refine wpList_app rfl (.tmp 36) (.tmp 38) 47 rfl Try.underlying47 strInfo rfl (by decide) rfl (Ho.out.alloc _) rfl (Rd.lit wr #[.string ⟨x.toArray⟩] 9 (0, 0) 1 1 rfl) (by simp [Value.oneCell']) (by omega) (by omega) (by simp; omega) rfl (show ((ks.take j).filter (inB ⟨#[]⟩)).map encStr ++ [Value.string ⟨x.toArray⟩] = ((ks.take (j + 1)).filter (inB ⟨#[]⟩)).map encStr by rw [Hsn.out, Hin.out]; simp) ?_; intro X xc w2 hx1 hg1 hx2)); have hfl1 : ((ks.take (j + 1)).filter (inB ⟨#[]⟩)).length = ((ks.take j).filter (inB ⟨#[]⟩)).length + 1 := (by rw [Hsn.out, Hin.out]; simp); have hsz := Hbel.out.size; refine ⟨⟨j + 1, X, xc, by omega, by go_num, by rw [hfl1], by rw [hfl1]; exact hx1, (Hbel.out.alloc hsz _).grown hg1 (by simp; omega) (fun k hk => by have := (Ho.out.blk k hk).1; omega), by have := hg1.size; simp at this; omega, (Hrow.out.alloc _).grown hg1 (.inr fun e => by have h1 := (Ho.out.blk g0 e.symm).1; omega)⟩, by simp [intOf]; omega⟩
        · have Hin := Lib.hid (show inB ⟨#[]⟩ x = false by unfold inB; rw [if_pos rfl, hb]; rfl)
          have Hcb := Lib.hid hb
          clear hb hd0
          go_wp2_with (go_at_call 49; refine (contains_any _ _).mono ?_; rintro e w2 ⟨rfl, rfl⟩; rw [Hcb.out])
          refine ⟨⟨j + 1, A, c, by omega, by go_num, by rw [Hsn.out, Hin.out]; simp, by rw [Hsn.out, Hin.out]; simpa using Ho.out, Hbel.out, hsz1, Hrow.out⟩, by simp [intOf]; omega⟩
      · have he : (dir.toList == []) = false := by rw [beq_eq_false_iff_ne, ByteArray.toList_eq]; exact hd0
        have hcv : (⟨x.toArray⟩ : ByteArray).data.toList = x ∧ (dir ++ (⟨#[47]⟩ : ByteArray)).data.toList = dir.data.toList ++ [47] := ⟨by simp, by simp [ByteArray.data_append]⟩
        obtain ⟨e1, e2⟩ := hcv
        have Hhp := Lib.hid (show Lib.hasPrefix (⟨x.toArray⟩ : ByteArray).data.toList (dir ++ (⟨#[47]⟩ : ByteArray)).data.toList = Lib.hasPrefix x (dir.data.toList ++ [47]) by rw [e1, e2])
        clear e1 e2
        cases hb : Lib.hasPrefix x (dir.data.toList ++ [47])
        · have Hin := Lib.hid (show inB dir x = false by unfold inB; rw [if_neg hd0, hb])
          have Hcb := Lib.hid hb
          clear hb hd0
          go_wp2_with (go_at_call 50; refine (hp_any _ _ _).mono ?_; rintro e w2 ⟨rfl, rfl⟩; rw [Hhp.out, Hcb.out])
          refine ⟨⟨j + 1, A, c, by omega, by go_num, by rw [Hsn.out, Hin.out]; simp, by rw [Hsn.out, Hin.out]; simpa using Ho.out, Hbel.out, hsz1, Hrow.out⟩, by simp [intOf]; omega⟩
        · have Hin := Lib.hid (show inB dir x = true by unfold inB; rw [if_neg hd0, hb])
          have Hcb := Lib.hid hb
          clear hb hd0
          go_wp2_with (first | (go_at_call 50; refine (hp_any _ _ _).mono ?_; rintro e w2 ⟨rfl, rfl⟩; rw [Hhp.out, Hcb.out]) | (at_builtin; refine wpList_app rfl (.tmp 36) (.tmp 38) 47 rfl Try.underlying47 strInfo rfl (by decide) rfl (Ho.out.alloc _) rfl (Rd.lit wr #[.string ⟨x.toArray⟩] 9 (0, 0) 1 1 rfl) (by simp [Value.oneCell']) (by omega) (by omega) (by simp; omega) rfl (show ((ks.take j).filter (inB dir)).map encStr ++ [Value.string ⟨x.toArray⟩] = ((ks.take (j + 1)).filter (inB dir)).map encStr by rw [Hsn.out, Hin.out]; simp) ?_; intro X xc w2 hx1 hg1 hx2)); have hfl1 : ((ks.take (j + 1)).filter (inB dir)).length = ((ks.take j).filter (inB dir)).length + 1 := (by rw [Hsn.out, Hin.out]; simp); have hsz := Hbel.out.size; refine ⟨⟨j + 1, X, xc, by omega, by go_num, by rw [hfl1], by rw [hfl1]; exact hx1, (Hbel.out.alloc hsz _).grown hg1 (by simp; omega) (fun k hk => by have := (Ho.out.blk k hk).1; omega), by have := hg1.size; simp at this; omega, (Hrow.out.alloc _).grown hg1 (.inr fun e => by have h1 := (Ho.out.blk g0 e.symm).1; omega)⟩, by simp [intOf]; omega⟩
    · have hjl : j = ks.length := by omega
      subst hjl
      rw [List.take_length] at hown ⊢
      have Hown2 := Lib.hid hown
      have Hbel := Lib.hid hbel
      clear hown hbel hrow Hown Hb
      go_wp2_with fail
      go_ret
      exact ⟨ks, A, _, c, HK.out, rfl, rfl, Hown2.out.more (by have := Hb1.out; simp at this; omega), Hbel.out⟩
end Go.Proofs.Ytkbgedaogfcdnaa
namespace Go.Proofs.Ytkbgedaogfcdnaa
set_option linter.unusedSimpArgs false
set_option linter.unusedVariables false
open Go.RowKit
open Crc (Bytes)
variable {w0 w : World} {fb mb k : Nat} {S : Fs}
theorem list_h (h : FsH w0 w fb mb S k) (s : ByteArray) (hs : s.size ≤ 1000) :
    Calls Try.prog 29 #[.pointer (some ⟨fb, 0, none⟩), .string s] w fun e w' => ∃ ks A n c, Ks S ks ∧ e = .returned (.slice A n c) ∧ n = (ks.filter (inB s)).length ∧ Own w' w.heap.size 9 1 A n c ((ks.filter (inB s)).map encStr) ∧ Below w.heap.size w w' := by
  obtain ⟨m, D, hm, hF⟩ := h.at_
  exact list_any s (by omega) (by have := h.hk; omega) hF
end Go.Proofs.Ytkbgedaogfcdnaa
