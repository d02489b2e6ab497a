/- What those partial functions come to: plain lemmas on data; each bears its conditions in its statement. -/
import Derived.Test.YtonnooljidombaaGreatLift
import Derived.Test.YtonnooljidombaaGreatEngC
set_option linter.unusedVariables false
set_option linter.unusedSimpArgs false
set_option linter.ambiguousOpen false
set_option linter.unusedSectionVars false
set_option linter.unnecessarySimpa false
set_option linter.unusedVariables false
set_option linter.unusedSimpArgs false
namespace Go.Proofs.YtonnooljidombaaGreat
open Go Go.E
/-- a search for the first that has a property -/
theorem findL_find {α ρ : Type} {p : α → Bool} {r : α → ρ} : ∀ {xs : List α} {i : Nat} {f : Nat → α → Unit → Option (Unit ⊕ ρ)}, (∀ k x, x ∈ xs → (p x = true → f k x () = some (.inr (r x))) ∧ (p x = false → f k x () = some (.inl ()))) →
    findL f i xs () = some (match xs.find? p with | some x => .inr (r x) | none => .inl ())
  | [], _, _, _ => rfl
  | x :: xs, i, f, h => by
    have h0 := h i x (by simp)
    cases hp : p x with
    | true => simp [findL, h0.1 hp, List.find?, hp]
    | false =>
      have ih := findL_find (p := p) (r := r) (xs := xs) (i := i + 1) (f := f) fun k y hy => h k y (by simp [hy])
      simp [findL, h0.2 hp, List.find?, hp, ih]
/-- a loop that gathers what has a property -/
theorem eachL_filter {α β : Type} {p : α → Bool} {g : Nat → α → β} {B : Nat} {f : Nat → α → List β → Option (List β)} (hf : ∀ k x s, s.length < B → f k x s = some (if p x = true then s ++ [g k x] else s)) : ∀ (xs : List α) (i : Nat) (s : List β), s.length + xs.length ≤ B →
    ∃ ys, eachL f i xs s = some (s ++ ys) ∧ ys.length ≤ xs.length
  | [], i, s, _ => ⟨[], by simp [eachL], by simp⟩
  | x :: xs, i, s, h => by
    simp only [List.length_cons] at h
    by_cases hp : p x = true
    · obtain ⟨ys, h1, h2⟩ := eachL_filter hf xs (i + 1) (s ++ [g i x]) (by simp; omega)
      exact ⟨g i x :: ys, by simp [eachL, hf i x s (by omega), hp, h1], by simp; omega⟩
    · obtain ⟨ys, h1, h2⟩ := eachL_filter hf xs (i + 1) s (by omega)
      exact ⟨ys, by simp [eachL, hf i x s (by omega), hp, h1], by simp; omega⟩
theorem sIn_eq (x lo hi : Int) : sl1In_m x lo hi = some (decide (lo ≤ x ∧ x ≤ hi)) := by
  unfold sl1In_m; split <;> simp_all <;> omega
theorem iIn_eq (x lo hi : Int) : iwithin_m x lo hi = some (decide (lo ≤ x ∧ x ≤ hi)) := by
  unfold iwithin_m; split <;> simp_all <;> omega
theorem symAt_same (r : Rule) (k : Int) : iSymbolAt_m r k = sSymbolAt_m r k := by
  unfold iSymbolAt_m sSymbolAt_m; rw [sIn_eq, iIn_eq]
theorem find_same {g : Grammar} (h : ∀ y ∈ g.Symbols, y.Attributes.length ≤ 1048576) (s : ByteArray) : ∃ y b, sFindSymbol_m g s = some (y, b) ∧ ifindSymbol_m g s = some (y, b) ∧ y.Attributes.length ≤ 1048576 := by
  have h1 := findL_find (p := fun y : Symbol => decide (y.Name = s)) (r := fun y => (y, true)) (xs := g.Symbols) (i := 0) (f := sFindSymbol_L1 s) fun k y hy => by
    have hg : sl10Symbol_m y = some y := by
      unfold sl10Symbol_m; have := h y hy; rw [grd_pos (by simp only [List.length_nil]; constructor <;> omega)]
    unfold sFindSymbol_L1; rw [hg]; constructor <;> intro hp <;> simp_all
  have h2 := findL_find (p := fun y : Symbol => decide (y.Name = s)) (r := fun y => (y, true)) (xs := g.Symbols) (i := 0) (f := ifindSymbol_L1 s) fun k y hy => by
    unfold ifindSymbol_L1; constructor <;> intro hp <;> simp_all
  unfold sFindSymbol_m ifindSymbol_m
  rw [h1, h2]
  cases hf : g.Symbols.find? (fun y : Symbol => decide (y.Name = s)) with
  | none => exact ⟨_, _, rfl, rfl, by simp⟩
  | some y => exact ⟨_, _, rfl, rfl, h y (List.mem_of_find?_eq_some hf)⟩
theorem symAt_some (r : Rule) (k : Nat) (hk : k ≤ r.Right.length) (hl : r.Right.length ≤ 1048576) : ∃ x, sSymbolAt_m r (k : Int) = some x := by
  unfold sSymbolAt_m
  by_cases h0 : (k : Int) = 0
  · exact ⟨_, if_pos h0⟩
  · rw [if_neg h0, sIn_eq, Option.bind_some, if_pos (by simp; omega), grd_pos (by constructor <;> omega), grd_pos (by omega)]
    obtain ⟨x, hx⟩ : ∃ x, r.Right[((k : Int) - 1).toNat]? = some x := ⟨_, List.getElem?_eq_getElem (by omega)⟩
    exact ⟨x, by rw [hx]; rfl⟩
theorem szL_mem {α : Type} [Sz α] {x : α} : ∀ {l : List α}, x ∈ l → Sz.szd x ≤ szL l
  | [], h => by simp at h
  | y :: l, h => by
    rcases List.mem_cons.1 h with rfl | h
    · simp only [szL]; omega
    · have := szL_mem h; simp only [szL]; omega
theorem syms_le {g : Grammar} (h : Sz.szd g ≤ 1048576) : ∀ y ∈ g.Symbols, y.Attributes.length ≤ 1048576 := fun y hy => by
  have h1 := szL_mem hy
  have h2 := Symbol_szd y
  have h3 := Grammar_szd g
  have h4 := szL_length y.Attributes
  omega
theorem right_le {r : Rule} (h : Sz.szd r ≤ 1048576) : r.Right.length ≤ 1048576 := by
  have h1 := Rule_szd r
  have h2 := szL_length r.Right
  omega
end Go.Proofs.YtonnooljidombaaGreat

