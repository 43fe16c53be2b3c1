/- Bytes as a text. -/
import Derived.Test.YtkbgedaogfcdnaaDoorMem
namespace Go.Proofs.YtkbgedaogfcdnaaDoor
set_option linter.unusedSimpArgs false
set_option linter.unusedVariables false
open Go.RowKit
open Crc (Bytes)

/-- bytes as a text -/
def str (l : List Int) : ByteArray := ⟨(l.map fun x => UInt8.ofNat x.toNat).toArray⟩
theorem str_size (l : List Int) : (str l).size = l.length := by simp [str, ByteArray.size]
theorem bl_str {l : List Int} (h : Bytes l) : bl (str l) = l := by
  unfold bl str
  simp only [List.map_map]
  have : ∀ x ∈ l, ((fun b : UInt8 => (b.toNat : Int)) ∘ fun x : Int => UInt8.ofNat x.toNat) x = id x := by
    intro x hx
    have := h x hx
    have h2 : x.toNat < 256 := by omega
    simp [UInt8.toNat_ofNat, Nat.mod_eq_of_lt h2]
    omega
  rw [List.map_congr_left this]; simp
theorem str_bl (s : ByteArray) : str (bl s) = s := by
  have h : ∀ b : UInt8, UInt8.ofNat ((b.toNat : Int)).toNat = b := fun b => by simp
  have e : (bl s).map (fun x => UInt8.ofNat x.toNat) = s.data.toList := by
    unfold bl
    rw [List.map_map]
    conv => rhs; rw [← List.map_id s.data.toList]
    exact List.map_congr_left fun b _ => h b
  unfold str
  rw [e]
theorem str_inj {l m : List Int} (hl : Bytes l) (hm : Bytes m) (h : str l = str m) : l = m := by
  rw [← bl_str hl, ← bl_str hm, h]
theorem str_list (l : List Int) : (str l).toList = l.map fun x => UInt8.ofNat x.toNat := by rw [ByteArray.toList_eq]; rfl
theorem text_beq (a b : ByteArray) : (a == b) = decide (a = b) := by
  cases a with
  | mk x => cases b with
    | mk y =>
      have h : ((⟨x⟩ : ByteArray) == ⟨y⟩) = (x == y) := rfl
      rw [h]
      by_cases e : x = y
      · subst e; simp
      · simp [e]
theorem str_eq {l m : List Int} (hl : Bytes l) (hm : Bytes m) : (str l == str m) = decide (l = m) := by
  by_cases h : l = m
  · subst h; rw [text_beq]; simp
  · have : str l ≠ str m := fun he => h (str_inj hl hm he)
    rw [text_beq]; simp [h, this]

theorem load_cells {P : Program} {w : World} {A : Option Addr} {n : Nat} {l : List Int} (h : Bs w A n l) (h0 : 0 < n) : ∃ ad, A = some ad ∧ ∀ j (hj : j < l.length), w.cell? (ad.add j) = some (.int .u8 l[j]) := by
  obtain ⟨ad, e, _, hc⟩ := h.rd.at_ h0
  exact ⟨ad, e, fun j hj => hc j _ (ints_get .u8 l hj)⟩
/-- string(b) -/
theorem conv_str {P : Program} {src dst e : TypeId} (hs : P.underlying src = some (.slice e)) (he : P.underlying e = some (.int .u8)) (hd : P.underlying dst = some .string) {w : World} {A : Option Addr} {n c : Nat} {l : List Int} (h : Bs w A n l) :
    (convert src dst (.slice A n c)).run P w = .ok (.string (str l)) w := by
  rcases Nat.eq_zero_or_pos n with h0 | h0
  · subst h0
    have hl : l = [] := List.eq_nil_of_length_eq_zero h.len
    subst hl
    rw [run_convert_bytes_string w src dst e A 0 c hs he hd]
    cases A with
    | none => simp [Conv.bytesToString, str]; rfl
    | some ad => simp [Conv.bytesToString, str]; rfl
  · obtain ⟨ad, rfl, hc⟩ := load_cells (P := P) h h0
    have hn := h.len
    have key := run_convert_bytes_back (P := P) w src dst e ad c (l.map fun x => UInt8.ofNat x.toNat) hs he hd (fun j hj => by
      have hj' : j < l.length := by simpa using hj
      rw [hc j hj']
      have hb := h.by_ _ (List.getElem_mem hj')
      have h2 : (l[j]).toNat < 256 := by omega
      simp [UInt8.toNat_ofNat, Nat.mod_eq_of_lt h2]
      omega)
    simp only [List.length_map, hn] at key
    exact key
end Go.Proofs.YtkbgedaogfcdnaaDoor
