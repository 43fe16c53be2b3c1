/- A region that draws, in which late operations turn what the loads ahead of them read: what is held is held but till these. -/
import Derived.Deep.RegionHeld
namespace Go.Proofs.YtkbgedaogfcdnaaDoor
open Go

section
variable {P : Program} {ops : Array Oper} {Q : Exit → Act → World → Prop} {md : Region.Mode} {S : World → Prop} {Ls : List Nat}

/-- S holds behind each operation that is none of the late ones. -/
def wpL (P : Program) (md : Region.Mode) (ops : Array Oper) (Q : Exit → Act → World → Prop) (S : World → Prop) (Ls : List Nat) : Nat → Array Bool → Act → World → Prop
  | 0, l, a, w => Region.ready md ops l = [] ∧ Q .normal a w
  | n + 1, l, a, w => (Region.ready md ops l = [] → Q .normal a w) ∧ ∀ i ∈ Region.ready md ops l, wpOp P ops Q i (fun a' w' => (i ∉ Ls → S w') ∧ wpL P md ops Q S Ls n (l.setIfInBounds i true) a' w') a w
theorem wpL_any : ∀ (n : Nat) (l : Array Bool) (a : Act) (w : World), wpL P md ops Q S Ls n l a w → wpAny P md ops Q n l a w
  | 0, _, _, _, h => h
  | n + 1, _, _, _, h => ⟨h.1, fun i hi => wpOp_mono (fun a' w' k => wpL_any n _ a' w' k.2) (h.2 i hi)⟩
/-- Whether all late ones wait for i. -/
def lateAll (md : Region.Mode) (ops : Array Oper) (Ls : List Nat) (i : Nat) : Bool :=
  Ls.all fun k => match ops[k]? with
    | some o => o.after.any fun e => Region.binds md e && e.on == i
    | none => false
theorem lateAll_not {i j : Nat} {l : Array Bool} (h : lateAll md ops Ls i = true) (hi : i ∈ Region.ready md ops l) (hj : j ∈ Region.ready md ops l) : j ∉ Ls := by
  intro hin
  have h1 := List.all_eq_true.1 h j hin
  obtain ⟨_, o, ho, hall⟩ := mem_ready.1 hj
  rw [ho] at h1
  obtain ⟨x, hx, h1⟩ := Array.any_eq_true.1 h1
  have he := Array.getElem_mem hx
  generalize o.after[x] = e at *
  simp only [Bool.and_eq_true, beq_iff_eq] at h1
  obtain ⟨hb, hon⟩ := h1
  have h2 := hall e he hb
  obtain ⟨h0, oi, hoi, _⟩ := mem_ready.1 hi
  rw [hon] at h2
  have hlt : i < l.size := by
    rcases Nat.lt_or_ge i l.size with h' | h'
    · exact h'
    · simp [Array.getElem?_eq_none h'] at h0
  simp [Array.getElem?_eq_getElem hlt] at h0 h2
  rw [h0] at h2
  cases h2
theorem wpL_first {i : Nat} {oi : Oper} {v : Value} (hi : ops[i]? = some oi) (hsel : ∀ (j : Nat) (o : Oper) cs b, ops[j]? = some o → o.op ≠ .select cs b)
    (hQ : ∀ c a w, Q (.panic c) (a.put oi.dst v) w → Q (.panic c) a w) (hlate : lateAll md ops Ls i = true) :
    ∀ (n : Nat) (l : Array Bool) (a : Act) (w : World), (∀ j oj, ops[j]? = some oj → j ≠ i → l.getD j true = false → (∀ e ∈ oj.after, Region.binds md e = true → e.on ≠ i) → oi.apart ops oj = true) →
      i ∈ Region.ready md ops l → YieldsIf P ops S oi v a → S w → wpL P md ops Q S Ls n (l.setIfInBounds i true) (a.put oi.dst v) w → wpL P md ops Q S Ls (n + 1) l a w := by
  intro n
  induction n with
  | zero =>
    intro l a w _ hr hy hS H
    refine ⟨fun h => absurd hr (by rw [h]; simp), fun j hj => ?_⟩
    rcases Nat.decEq j i with hne | rfl
    · have := ready_mono hj hne
      rw [H.1] at this
      cases this
    · exact hy.wpOp hi hS ⟨fun _ => hS, H⟩
  | succ n ih =>
    intro l a w hfree hr hy hS H
    refine ⟨fun h => absurd hr (by rw [h]; simp), fun j hj => ?_⟩
    rcases Nat.decEq j i with hne | rfl
    · have hjL := lateAll_not hlate hr hj
      have h1 := H.2 j (ready_mono hj hne)
      obtain ⟨hjun, oj, hoj, hall⟩ := mem_ready.1 hj
      have hlt : i < l.size := by
        rcases Nat.lt_or_ge i l.size with h' | h'
        · exact h'
        · have h0 := (mem_ready.1 hr).1; simp [Array.getElem?_eq_none h'] at h0
      have hnot : ∀ e ∈ oj.after, Region.binds md e = true → e.on ≠ i := fun e he hb heq => by
        have h1 := hall e he hb
        have h0 := (mem_ready.1 hr).1
        rw [heq] at h1
        simp [Array.getElem?_eq_getElem hlt] at h0 h1
        rw [h0] at h1
        cases h1
      have h2 := wpOp_putIf hoj (hfree j oj hoj hne hjun hnot) (fun cs b => hsel i oi cs b hi) (fun cs b => hsel j oj cs b hoj) hQ hy h1
      refine wpOp_mono (fun a' w' h3 => ⟨fun _ => h3.2.1 hjL, ih (l.setIfInBounds j true) a' w' (fun k ok hk hki hun hno => ?_) (ready_mono hr (Ne.symm hne)) h3.1 (h3.2.1 hjL) ?_⟩) h2
      · rcases Nat.decEq j k with hjk | rfl
        · rw [getD_set_ne true hjk] at hun
          exact hfree k ok hk hki hun hno
        · exact hfree _ ok hk hki hjun hno
      · rw [Array.setIfInBounds_comm _ _ hne]
        exact h3.2.2
    · exact hy.wpOp hi hS ⟨fun _ => hS, H⟩
theorem wpL_take {i : Nat} {oi : Oper} {v : Value} {n : Nat} {l : Array Bool} {a : Act} {w : World} (hi : ops[i]? = some oi)
    (hs : Region.noSelect ops = true) (hf : Region.free md ops l i = true) (hr : (Region.ready md ops l).contains i = true)
    (hQ : ∀ c a w, Q (.panic c) (a.put oi.dst v) w → Q (.panic c) a w) (hlate : lateAll md ops Ls i = true) (hy : YieldsIf P ops S oi v a) (hS : S w)
    (h : wpL P md ops Q S Ls n (l.setIfInBounds i true) (a.put oi.dst v) w) : wpL P md ops Q S Ls (n + 1) l a w :=
  wpL_first hi (Region.noSelect_spec hs) hQ hlate n l a w (Region.free_spec hi hf) (by simpa using hr) hy hS h
/-- The one that can come up, while S holds. -/
theorem wpL_one {i : Nat} {o : Oper} {n : Nat} {l : Array Bool} {a : Act} {w : World} (hr : Region.ready md ops l = [i]) (ho : ops[i]? = some o)
    (h : ∀ K' : Act → World → Prop, Shut (∀ a w, S w → (S w → wpL P md ops Q S Ls n (l.setIfInBounds i true) a w) → K' a w) → if Region.wanted o (yielded ops a.tmps) = true then Oper.wp P o a w K' Q else K' (a.put o.dst undef) w) :
    wpL P md ops Q S Ls (n + 1) l a w := by
  refine ⟨fun h0 => absurd (hr ▸ h0) (by simp), fun j hj => ?_⟩
  rw [hr] at hj
  obtain rfl := List.mem_singleton.1 hj
  exact wpOp_step ho (fun K' hK => h K' (fun a w hS hW => hK a w ⟨fun _ => hS, hW hS⟩))
/-- The one that can come up is a late one: S is told no more. -/
theorem wpL_late {i : Nat} {o : Oper} {n : Nat} {l : Array Bool} {a : Act} {w : World} (hr : Region.ready md ops l = [i]) (hL : i ∈ Ls) (ho : ops[i]? = some o)
    (h : ∀ K' : Act → World → Prop, Shut (∀ a w, wpL P md ops Q S Ls n (l.setIfInBounds i true) a w → K' a w) → if Region.wanted o (yielded ops a.tmps) = true then Oper.wp P o a w K' Q else K' (a.put o.dst undef) w) :
    wpL P md ops Q S Ls (n + 1) l a w := by
  refine ⟨fun h0 => absurd (hr ▸ h0) (by simp), fun j hj => ?_⟩
  rw [hr] at hj
  obtain rfl := List.mem_singleton.1 hj
  exact wpOp_step ho (fun K' hK => h K' (fun a w hW => hK a w ⟨fun hn => absurd hL hn, hW⟩))
/-- Two late ones that can come up in either order. -/
theorem wpL_done {l : Array Bool} {a : Act} {w : World} (hr : Region.ready md ops l = []) (h : Q .normal a w) : ∀ n, wpL P md ops Q S Ls n l a w
  | 0 => ⟨hr, h⟩
  | _ + 1 => ⟨fun _ => h, by rw [hr]; simp⟩
theorem wp_regionL {id : Nat} {a : Act} {w : World} (Ls : List Nat) (hm : P.follows .mixedOrders = true) (hS : S w.drew)
    (h : S w.drew → wpL P .any ops Q S Ls ops.size (Array.replicate ops.size false) a w.drew) : (Code.region id ops true).wp P Q a w :=
  wp_region_any hm (wpL_any _ _ _ _ (h hS))
end
end Go.Proofs.YtkbgedaogfcdnaaDoor
