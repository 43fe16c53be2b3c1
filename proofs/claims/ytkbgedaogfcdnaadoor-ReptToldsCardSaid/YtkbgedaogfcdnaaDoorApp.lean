/- append onto a row of the call's own, as a fact on its run. -/
import Derived.Test.YtkbgedaogfcdnaaDoorMem
namespace Go.Proofs.YtkbgedaogfcdnaaDoor
set_option linter.unusedSimpArgs false
set_option linter.unusedVariables false
open Go.RowKit
open Crc (Bytes)

theorem run_app_nil {P : Program} (w : World) (base : Nat) (t ty e : TypeId) (i : TypeInfo) (size : Nat) (ht : P.underlying t = some (.slice e)) (hi : P.info? e = some i)
    (v : Value) (n : Nat) (xs : List Value) (hown : w.ownsRow base e size v n xs) (c : Nat) : (Builtin.append_ #[t, t] ty #[v, .slice none 0 c]).run P w = .ok v w := by
  rcases hown.2 with ⟨rfl, rfl⟩ | ⟨g, cap, cur, rfl, _, _, hnc, _⟩
  · simp [Builtin.append_, run_underlying ht, sizeOf, typeInfo, hi, Builtin.lenOf, Builtin.firstCells]
  · simp [Builtin.append_, run_underlying ht, sizeOf, typeInfo, hi, Builtin.lenOf, Builtin.firstCells, hnc, storeCells]

/-- A slice that the call owns: the value's own parts. -/
structure Own (w : World) (base : Nat) (e : TypeId) (size : Nat) (A : Option Addr) (n c : Nat) (xs : List Value) : Prop where
  row : w.ownsRow base e size (.slice A n c) n xs

def ob : Option Addr → Option Nat
  | some a => some a.block
  | none => none
theorem ob_own (A : Option Addr) (n c : Nat) : (Value.slice A n c).ownBlock = ob A := by cases A <;> rfl

section
variable {P : Program} {w w' : World} {base : Nat} {e t ty : TypeId} {size n c : Nat} {A : Option Addr} {xs : List Value}
theorem Own.nil (w : World) (base : Nat) (e : TypeId) (size : Nat) : Own w base e size none 0 0 [] := ⟨World.ownsRow_nil w base e size⟩
theorem Own.rd (h : Own w base e size A n c xs) : Rd w size A n xs := Rd.of_own h.row
theorem Own.form (h : Own w base e size A n c xs) : A = none ∨ ∃ g, A = some ⟨g, 0, none⟩ ∧ base ≤ g ∧ g < w.heap.size := by
  rcases h.row.2 with ⟨hv, _⟩ | ⟨g, cap, cur, hv, hg, hh, _⟩
  · left; injection hv
  · right
    refine ⟨g, by injection hv, hg, ?_⟩
    rcases Nat.lt_or_ge g w.heap.size with hlt | hge
    · exact hlt
    · rw [Array.getElem?_eq_none hge] at hh; cases hh
theorem Own.cap (h : Own w base e size A n c xs) : n ≤ c := by
  rcases h.row.2 with ⟨hv, h0⟩ | ⟨g, cap, cur, hv, _, _, hc, _⟩
  · omega
  · have : c = cap := by injection hv
    omega
theorem Own.blk (h : Own w base e size A n c xs) : ∀ k, ob A = some k → base ≤ k ∧ k < w.heap.size := by
  intro k hk
  rcases h.form with rfl | ⟨g, rfl, h1, h2⟩
  · cases hk
  · simp [ob] at hk; omega
theorem Own.keep (h : Own w base e size A n c xs) (hk : ∀ g, ob A = some g → w'.heap[g]? = w.heap[g]?) : Own w' base e size A n c xs := by
  refine ⟨h.row.1, ?_⟩
  rcases h.row.2 with h2 | ⟨g, cap, cur, hv, hg, hh, r⟩
  · exact .inl h2
  · have hA : A = some ⟨g, 0, none⟩ := by injection hv
    exact .inr ⟨g, cap, cur, hv, hg, (hk g (by rw [hA]; rfl)).trans hh, r⟩
theorem Own.below (h : Own w base e size A n c xs) (hb : Below w.heap.size w w') : Own w' base e size A n c xs := h.keep fun g hg => hb.block g (h.blk g hg).2
theorem Own.grown (h : Own w base e size A n c xs) {row : Option Nat} (hb : w.grownBy w' row) (hne : ob A = none ∨ ob A ≠ row) : Own w' base e size A n c xs :=
  h.keep fun g hg => hb.block g (h.blk g hg).2 (by rcases hne with h1 | h1 <;> rw [hg] at h1; cases h1; exact h1)
theorem Own.drew (h : Own w base e size A n c xs) : Own w.drew base e size A n c xs := h.keep fun _ _ => rfl
theorem Own.drewN (h : Own w base e size A n c xs) (k : Nat) : Own (w.drewN k) base e size A n c xs := h.keep fun _ _ => rfl
theorem Own.alloc (h : Own w base e size A n c xs) (o : Obj) : Own (w.alloc o) base e size A n c xs := h.below ((Below.refl _ _).alloc (Nat.le_refl _) o)
theorem Own.setCell (h : Own w base e size A n c xs) {p : Addr} (hp : ob A ≠ some p.block) (u : Value) : Own (w.setCell p u) base e size A n c xs :=
  h.keep fun g hg => Below.heap_setCell w p u g (by rintro rfl; exact hp hg)
theorem Own.more (h : Own w base e size A n c xs) {base' : Nat} (hb : base' ≤ base) : Own w base' e size A n c xs := by
  refine ⟨h.row.1, ?_⟩
  rcases h.row.2 with h2 | ⟨g, cap, cur, hv, hg, r⟩
  · exact .inl h2
  · exact .inr ⟨g, cap, cur, hv, by omega, r⟩
/-- A literal's row is the call's own. -/
theorem Own.lit (w : World) (cs : List Value) (e : TypeId) (size n : Nat) (hb : base ≤ w.heap.size) (hl : cs.length = n * size) (hm : n ≤ maxLen) : Own (w.alloc (.cells cs.toArray e)) base e size (some ⟨w.heap.size, 0, none⟩) n n cs := by
  refine ⟨hl, .inr ⟨w.heap.size, n, cs.toArray, rfl, hb, heap_alloc_new w _, Nat.le_refl _, hm, by simpa using hl, ?_⟩⟩
  simp [← hl]

theorem Own.some (h : Own w base e size A n c xs) (hn : 0 < n) : ∃ g, A = Option.some ⟨g, 0, none⟩ ∧ base ≤ g ∧ g < w.heap.size := by
  rcases h.form with rfl | h2
  · rcases h.row.2 with ⟨_, h0⟩ | ⟨g, cap, cur, hv, _⟩
    · omega
    · injection hv with hv; cases hv
  · exact h2
theorem Own.cellAt {g : Nat} (h : Own w base e size (Option.some ⟨g, 0, none⟩) n c xs) (j : Nat) (hj : j < n * size) : w.cell? ⟨g, j, none⟩ = xs[j]? := by
  have hc : ∃ cap, (Value.slice (Option.some ⟨g, 0, none⟩) n c) = .slice (Option.some ⟨g, 0, none⟩) n cap := ⟨c, rfl⟩
  exact World.ownsRow.cellAt h.row j hj
theorem Own.frozenAt {g : Nat} (h : Own w base e size (Option.some ⟨g, 0, none⟩) n c xs) (j : Nat) : w.frozen? ⟨g, j, none⟩ = false := World.ownsRow.frozenAt h.row j
theorem Own.stored {g : Nat} (h : Own w base e size (Option.some ⟨g, 0, none⟩) n c xs) (j : Nat) (u : Value) : Own (w.setCell ⟨g, j, none⟩ u) base e size (Option.some ⟨g, 0, none⟩) n c (xs.set j u) := ⟨(World.ownsRow.stored h.row j u).1⟩
/-- append(s, x...): its run. -/
theorem app_run {z : Value} {bytes : Nat} (ht : P.underlying t = some (.slice e)) (hinfo : (P.info? e).map (fun i => (i.zero, i.size, i.bytes)) = some (some z, size, bytes))
    (hzs : z.cells.size = size) (hsz : 0 < size) (hown : Own w base e size A n c xs)
    {B : Option Addr} {m d : Nat} {news : List Value} (hr : Rd w size B m news) (h1 : ∀ u ∈ news, u.oneCell' = true)
    (h63 : n + m ≤ 140737488355328) (hbytes : (n + m) * bytes ≤ 140737488355328) (hbase : base ≤ w.heap.size) :
    ∃ A' c' w', (Builtin.append_ #[t, t] ty #[.slice A n c, .slice B m d]).run P w = .ok (.slice A' (n + m) c') w' ∧ Own w' base e size A' (n + m) c' (xs ++ news) ∧
      w.grownBy w' (ob A) ∧ (ob A' = ob A ∨ ob A' = some w.heap.size) := by
  obtain ⟨i, hi, hz, hs, hby⟩ := info_parts hinfo
  have key : ∃ v' w', (Builtin.append_ #[t, t] ty #[.slice A n c, .slice B m d]).run P w = .ok v' w' ∧ w'.ownsRow base e size v' (n + m) (xs ++ news) ∧ w.grownBy w' (Value.slice A n c).ownBlock ∧
      (v'.ownBlock = (Value.slice A n c).ownBlock ∨ v'.ownBlock = some w.heap.size) := by
    rcases B with _ | ad
    · have hm : m = 0 := by
        rcases Nat.eq_zero_or_pos m with h0 | h0
        · exact h0
        · obtain ⟨ad, h, _⟩ := hr.at_ h0
          cases h
      subst hm
      have hn : news = [] := List.eq_nil_of_length_eq_zero (by simpa using hr.len)
      subst hn
      exact ⟨_, w, run_app_nil w base t ty e i size ht hi _ n xs hown.row d, by simpa using hown.row, World.grownBy.refl w _, .inl rfl⟩
    · have hcells : ∀ j u, news[j]? = some u → w.cell? (ad.add j) = some u := by
        intro j u hu
        rcases Nat.eq_zero_or_pos m with h0 | h0
        · subst h0
          have hn : news = [] := List.eq_nil_of_length_eq_zero (by simpa using hr.len)
          subst hn
          simp at hu
        · obtain ⟨ad', h, _, hc⟩ := hr.at_ h0
          injection h with h
          subst h
          exact hc j u hu
      obtain ⟨v', w', hrun, h2, h3, _, h5⟩ := run_append_own_at (P := P) w base t ty e i z size bytes ht hi hz hs hby hzs hsz _ n xs hown.row ad m d news hr.len hcells h1 (by simp only [maxLen]; omega) hbytes hbase
      exact ⟨v', w', hrun, h2, h3, h5⟩
  obtain ⟨v', w', hrun, h2, h3, h5⟩ := key
  have hv : ∃ A' c', v' = .slice A' (n + m) c' := by
    rcases h2.2 with ⟨rfl, h0⟩ | ⟨g, cap, cur, rfl, _⟩
    · exact ⟨none, 0, by rw [h0]⟩
    · exact ⟨_, _, rfl⟩
  obtain ⟨A', c', rfl⟩ := hv
  rw [ob_own] at h3 h5
  rw [ob_own] at h5
  exact ⟨A', c', w', hrun, ⟨h2⟩, h3, h5⟩

/-- append(s, x...), as an operation. -/
theorem wp_app {o : Oper} {a : Act} {K : Act → World → Prop} {Q : Exit → Act → World → Prop} (s x : Operand) (t : TypeId)
    (ho : o.op = .call { callee := .builtin .append, args := #[s, x], argTypes := #[t, t] })
    {z : Value} {bytes : Nat} (ht : P.underlying t = some (.slice e)) (hinfo : (P.info? e).map (fun i => (i.zero, i.size, i.bytes)) = some (some z, size, bytes))
    (hzs : z.cells.size = size) (hsz : 0 < size) (hs : a.eval s = .slice A n c) (hown : Own w base e size A n c xs)
    {B : Option Addr} {m d : Nat} {news : List Value} (hx : a.eval x = .slice B m d) (hr : Rd w size B m news) (h1 : ∀ u ∈ news, u.oneCell' = true)
    (h63 : n + m ≤ 140737488355328) (hbytes : (n + m) * bytes ≤ 140737488355328) (hbase : base ≤ w.heap.size)
    {N : Nat} {zs : List Value} (hN : n + m = N) (hzz : xs ++ news = zs)
    (h : ∀ A' c' w', Own w' base e size A' N c' zs → w.grownBy w' (ob A) → (ob A' = ob A ∨ ob A' = some w.heap.size) → K (a.put o.dst (.slice A' N c')) w') : o.wp P a w K Q := by
  subst hN hzz
  obtain ⟨A', c', w', hrun, h2, h3, h4⟩ := app_run (ty := o.type) ht hinfo hzs hsz hown (d := d) hr h1 h63 hbytes hbase
  unfold Oper.wp execOp
  simp only [ho, resolve, invoke, builtin, Sem.run_bind, Sem.run_pure, Result.andThen_ok, List.map_toArray, List.map_cons, List.map_nil, hs, hx, hrun]
  exact h A' c' w' h2 h3 h4
theorem wpList_app {ops : Array Oper} {rest : List Oper} {o : Oper} {a : Act} {Q : Exit → Act → World → Prop} (hgd : o.guard = none) (s x : Operand) (t : TypeId)
    (ho : o.op = .call { callee := .builtin .append, args := #[s, x], argTypes := #[t, t] })
    {z : Value} {bytes : Nat} (ht : P.underlying t = some (.slice e)) (hinfo : (P.info? e).map (fun i => (i.zero, i.size, i.bytes)) = some (some z, size, bytes))
    (hzs : z.cells.size = size) (hsz : 0 < size) (hs : a.eval s = .slice A n c) (hown : Own w base e size A n c xs)
    {B : Option Addr} {m d : Nat} {news : List Value} (hx : a.eval x = .slice B m d) (hr : Rd w size B m news) (h1 : ∀ u ∈ news, u.oneCell' = true)
    (h63 : n + m ≤ 140737488355328) (hbytes : (n + m) * bytes ≤ 140737488355328) (hbase : base ≤ w.heap.size)
    {N : Nat} {zs : List Value} (hN : n + m = N) (hzz : xs ++ news = zs)
    (h : ∀ A' c' w', Own w' base e size A' N c' zs → w.grownBy w' (ob A) → (ob A' = ob A ∨ ob A' = some w.heap.size) → wpList P ops Q rest (a.put o.dst (.slice A' N c')) w') : wpList P ops Q (o :: rest) a w :=
  wpList_plain hgd fun _ hK => wp_app s x t ho ht hinfo hzs hsz hs hown hx hr h1 h63 hbytes hbase hN hzz fun A' c' w' h2 h3 h4 => hK _ _ (h A' c' w' h2 h3 h4)

/-- What can be appended to so that nobody else is written: owned, or full. -/
inductive Room (w : World) (base : Nat) (e : TypeId) (size : Nat) (A : Option Addr) (n c : Nat) (xs : List Value) : Prop where
  | own (h : Own w base e size A n c xs) : Room w base e size A n c xs
  | full (h : Rd w size A n xs) (hc : c = n) (h0 : A = none → n = 0) : Room w base e size A n c xs
theorem Room.rd (h : Room w base e size A n c xs) : Rd w size A n xs := by
  cases h with
  | own h => exact h.rd
  | full h _ _ => exact h
theorem wpList_room {ops : Array Oper} {rest : List Oper} {o : Oper} {a : Act} {Q : Exit → Act → World → Prop} (hgd : o.guard = none) (s x : Operand) (t : TypeId)
    (ho : o.op = .call { callee := .builtin .append, args := #[s, x], argTypes := #[t, t] })
    {z : Value} {bytes : Nat} (ht : P.underlying t = some (.slice e)) (hinfo : (P.info? e).map (fun i => (i.zero, i.size, i.bytes)) = some (some z, size, bytes))
    (hzs : z.cells.size = size) (hsz : 0 < size) (hs : a.eval s = .slice A n c) (hroom : Room w base e size A n c xs)
    {B : Option Addr} {m d : Nat} {news : List Value} (hx : a.eval x = .slice B m d) (hr : Rd w size B m news) (h1 : ∀ u ∈ news, u.oneCell' = true) (hm : 0 < m)
    (h63 : n + m ≤ 140737488355328) (hbytes : (n + m) * bytes ≤ 140737488355328) (hbase : base ≤ w.heap.size)
    {N : Nat} {zs : List Value} (hN : n + m = N) (hzz : xs ++ news = zs)
    (h : ∀ A' c' w', Own w' base e size A' N c' zs → Below base w w' → wpList P ops Q rest (a.put o.dst (.slice A' N c')) w') : wpList P ops Q (o :: rest) a w := by
  cases hroom with
  | own hown =>
    refine wpList_app hgd s x t ho ht hinfo hzs hsz hs hown hx hr h1 h63 hbytes hbase hN hzz fun A' c' w' h2 h3 _ => h A' c' w' h2 ?_
    exact (Below.refl _ _).grown h3 hbase (fun k hk => (hown.blk k hk).1)
  | full hrd hc h0 =>
    subst hN hzz
    obtain ⟨i, hi, hz, hsi, hby⟩ := info_parts hinfo
    obtain ⟨ad, rfl, _, hcell⟩ := hr.at_ hm
    have holds : ∀ b, A = some b → ∀ j u, xs[j]? = some u → w.cell? (b.add j) = some u := by
      intro b hb j u hu
      rcases Nat.eq_zero_or_pos n with hn | hn
      · have : xs = [] := List.eq_nil_of_length_eq_zero (by rw [hrd.len, hn, Nat.zero_mul])
        rw [this] at hu; simp at hu
      · obtain ⟨b', hb', _, hc'⟩ := hrd.at_ hn
        rw [hb] at hb'; cases hb'
        exact hc' j u hu
    refine wpList_append_grows (P := P) w hgd s x t ho e i z size bytes ht hi hz hsi hby hzs hsz A n c xs hs (fun hA => ⟨h0 hA, by rw [hc]; exact h0 hA⟩) hrd.len holds ad m d news hx hr.len hcell h1 (by omega) (by simp only [maxLen]; omega) hbytes ?_
    intro v' w' h2 h3
    obtain ⟨A', c', rfl⟩ : ∃ A' c', v' = .slice A' (n + m) c' := by
      rcases h2.2 with ⟨rfl, h0⟩ | ⟨g, cap, cur, rfl, _⟩
      · exact ⟨none, 0, by rw [h0]⟩
      · exact ⟨_, _, rfl⟩
    exact h A' c' w' ((Own.mk h2).more hbase) ((Below.refl _ _).grown h3 hbase (fun k hk => by cases hk))
end
end Go.Proofs.YtkbgedaogfcdnaaDoor
