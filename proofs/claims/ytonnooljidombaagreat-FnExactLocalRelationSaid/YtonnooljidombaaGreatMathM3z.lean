/- What those partial functions come to: plain lemmas on data; each bears its conditions in its statement. -/
import Derived.Test.YtonnooljidombaaGreatLift
import Derived.Test.YtonnooljidombaaGreatEngC
set_option linter.unusedVariables false
set_option linter.unusedSimpArgs false
set_option linter.ambiguousOpen false
set_option linter.unusedSectionVars false
set_option linter.unnecessarySimpa false
set_option linter.unusedVariables false
set_option linter.unusedSimpArgs false
namespace Go.Proofs.YtonnooljidombaaGreat
open Go Go.E
/-- a search for the first that has a property -/
theorem findL_find {α ρ : Type} {p : α → Bool} {r : α → ρ} : ∀ {xs : List α} {i : Nat} {f : Nat → α → Unit → Option (Unit ⊕ ρ)}, (∀ k x, x ∈ xs → (p x = true → f k x () = some (.inr (r x))) ∧ (p x = false → f k x () = some (.inl ()))) →
    findL f i xs () = some (match xs.find? p with | some x => .inr (r x) | none => .inl ())
  | [], _, _, _ => rfl
  | x :: xs, i, f, h => by
    have h0 := h i x (by simp)
    cases hp : p x with
    | true => simp [findL, h0.1 hp, List.find?, hp]
    | false =>
      have ih := findL_find (p := p) (r := r) (xs := xs) (i := i + 1) (f := f) fun k y hy => h k y (by simp [hy])
      simp [findL, h0.2 hp, List.find?, hp, ih]
/-- a loop that gathers what has a property -/
theorem eachL_filter {α β : Type} {p : α → Bool} {g : Nat → α → β} {B : Nat} {f : Nat → α → List β → Option (List β)} (hf : ∀ k x s, s.length < B → f k x s = some (if p x = true then s ++ [g k x] else s)) : ∀ (xs : List α) (i : Nat) (s : List β), s.length + xs.length ≤ B →
    ∃ ys, eachL f i xs s = some (s ++ ys) ∧ ys.length ≤ xs.length
  | [], i, s, _ => ⟨[], by simp [eachL], by simp⟩
  | x :: xs, i, s, h => by
    simp only [List.length_cons] at h
    by_cases hp : p x = true
    · obtain ⟨ys, h1, h2⟩ := eachL_filter hf xs (i + 1) (s ++ [g i x]) (by simp; omega)
      exact ⟨g i x :: ys, by simp [eachL, hf i x s (by omega), hp, h1], by simp; omega⟩
    · obtain ⟨ys, h1, h2⟩ := eachL_filter hf xs (i + 1) s (by omega)
      exact ⟨ys, by simp [eachL, hf i x s (by omega), hp, h1], by simp; omega⟩
theorem sIn_eq (x lo hi : Int) : sl1In_m x lo hi = some (decide (lo ≤ x ∧ x ≤ hi)) := by
  unfold sl1In_m; split <;> simp_all <;> omega
theorem iIn_eq (x lo hi : Int) : iwithin_m x lo hi = some (decide (lo ≤ x ∧ x ≤ hi)) := by
  unfold iwithin_m; split <;> simp_all <;> omega
theorem symAt_same (r : Rule) (k : Int) : iSymbolAt_m r k = sSymbolAt_m r k := by
  unfold iSymbolAt_m sSymbolAt_m; rw [sIn_eq, iIn_eq]
def isPlain (a : Attribute) : Bool := decide (a.Mode = 1 ∨ a.Mode = 2)
theorem plain_same : iPlainAttributes_L1 = sPlainAttributes_L1 := rfl
theorem find_same {g : Grammar} (h : ∀ y ∈ g.Symbols, y.Attributes.length ≤ 1048576) (s : ByteArray) : ∃ y b, sFindSymbol_m g s = some (y, b) ∧ ifindSymbol_m g s = some (y, b) ∧ y.Attributes.length ≤ 1048576 := by
  have h1 := findL_find (p := fun y : Symbol => decide (y.Name = s)) (r := fun y => (y, true)) (xs := g.Symbols) (i := 0) (f := sFindSymbol_L1 s) fun k y hy => by
    have hg : sl10Symbol_m y = some y := by
      unfold sl10Symbol_m; have := h y hy; rw [grd_pos (by simp only [List.length_nil]; constructor <;> omega)]
    unfold sFindSymbol_L1; rw [hg]; constructor <;> intro hp <;> simp_all
  have h2 := findL_find (p := fun y : Symbol => decide (y.Name = s)) (r := fun y => (y, true)) (xs := g.Symbols) (i := 0) (f := ifindSymbol_L1 s) fun k y hy => by
    unfold ifindSymbol_L1; constructor <;> intro hp <;> simp_all
  unfold sFindSymbol_m ifindSymbol_m
  rw [h1, h2]
  cases hf : g.Symbols.find? (fun y : Symbol => decide (y.Name = s)) with
  | none => exact ⟨_, _, rfl, rfl, by simp⟩
  | some y => exact ⟨_, _, rfl, rfl, h y (List.mem_of_find?_eq_some hf)⟩
theorem plain_both {g : Grammar} (h : ∀ y ∈ g.Symbols, y.Attributes.length ≤ 1048576) (s : ByteArray) : ∃ l, sPlainAttributes_m g s = some l ∧ iPlainAttributes_m g s = some l ∧ l.length ≤ 1048576 := by
  obtain ⟨y, b, h1, h2, h3⟩ := find_same h s
  obtain ⟨l, h4, h5⟩ := eachL_filter (p := isPlain) (g := fun _ x => x) (B := 1048577) (f := sPlainAttributes_L1) (fun k x s hs => by
    have hg : ((s.length : Int) + 1) * 40 ≤ 140737488355328 ∧ (s.length : Int) + 1 ≤ 9223372036854775807 := by constructor <;> omega
    unfold sPlainAttributes_L1 isPlain
    rw [grd_pos hg]
    by_cases m1 : x.Mode = 1
    · rw [if_pos m1, if_pos (by simp [m1])]; rfl
    · rw [if_neg m1]
      by_cases m2 : x.Mode = 2
      · rw [if_pos m2, if_pos (by simp [m2])]; rfl
      · rw [if_neg m2, if_neg (by simp [m1, m2])]; rfl) y.Attributes 0 [] (by simp; omega)
  simp only [List.nil_append] at h4
  refine ⟨l, ?_, ?_, by omega⟩
  · unfold sPlainAttributes_m; rw [h1]; dsimp only [Option.bind_some]; rw [h4]; rfl
  · unfold iPlainAttributes_m; rw [h2]; dsimp only [Option.bind_some]; rw [plain_same, h4]; rfl
theorem symAt_some (r : Rule) (k : Nat) (hk : k ≤ r.Right.length) (hl : r.Right.length ≤ 1048576) : ∃ x, sSymbolAt_m r (k : Int) = some x := by
  unfold sSymbolAt_m
  by_cases h0 : (k : Int) = 0
  · exact ⟨_, if_pos h0⟩
  · rw [if_neg h0, sIn_eq, Option.bind_some, if_pos (by simp; omega), grd_pos (by constructor <;> omega), grd_pos (by omega)]
    obtain ⟨x, hx⟩ : ∃ x, r.Right[((k : Int) - 1).toNat]? = some x := ⟨_, List.getElem?_eq_getElem (by omega)⟩
    exact ⟨x, by rw [hx]; rfl⟩
theorem names_all (k : Nat) (B : Nat) (hB : B ≤ 4398046511104) : ∀ (l : List Attribute) (i : Nat) (s : List Occurrence), s.length + l.length ≤ B → ∃ ys, eachL (iOccurrencesOf_L2 k) i l s = some (s ++ ys) ∧ ys.length ≤ l.length := fun l i s h =>
  eachL_filter (p := fun _ => true) (g := fun _ x => (⟨(k : Int), x.Name⟩ : Occurrence)) (B := B) (f := iOccurrencesOf_L2 k) (fun j x s hs => by
    have hg : ((s.length : Int) + 1) * 24 ≤ 140737488355328 ∧ (s.length : Int) + 1 ≤ 9223372036854775807 := by constructor <;> omega
    unfold iOccurrencesOf_L2
    rw [grd_pos hg, if_pos rfl]) l i s h
theorem occ_same (k : Nat) : sOccurrencesOf_L2 (k : Int) = iOccurrencesOf_L2 k := rfl
theorem occ_both {g : Grammar} {r : Rule} (h : ∀ y ∈ g.Symbols, y.Attributes.length ≤ 1048576) (hr : r.Right.length ≤ 1048576) : ∃ l, sOccurrencesOf_m g r = some l ∧ iOccurrencesOf_m g r = some l ∧ l.length ≤ 1099512676352 := by
  have key : ∀ m k (s : List Occurrence), k + m = r.Right.length + 1 → s.length ≤ k * 1048576 → ∃ l, eachN (iOccurrencesOf_L1 g r) k m s = some l ∧ iterO (sOccurrencesOf_L1 g r) (s, (k : Int)) = some l ∧ l.length ≤ (k + m) * 1048576 := by
    intro m
    induction m with
    | zero =>
      intro k s hk hs
      refine ⟨s, rfl, iterO_done ?_, by simpa using hs⟩
      unfold sOccurrencesOf_L1; dsimp only; rw [if_neg (by omega)]
    | succ m ih =>
      intro k s hk hs
      obtain ⟨x, hx⟩ := symAt_some r k (by omega) hr
      obtain ⟨p, hp1, hp2, hp3⟩ := plain_both h x
      obtain ⟨ys, hy1, hy2⟩ := names_all k 4398046511104 (by omega) p 0 s (by omega)
      obtain ⟨l, h1, h2, h3⟩ := ih (k + 1) (s ++ ys) (by omega) (by simp; omega)
      refine ⟨l, ?_, ?_, by rw [show k + (m + 1) = k + 1 + m by omega]; exact h3⟩
      · have e : iOccurrencesOf_L1 g r k s = some (s ++ ys) := by
          unfold iOccurrencesOf_L1; rw [symAt_same, hx, Option.bind_some, hp2, Option.bind_some, hy1]; rfl
        simp only [eachN, e, Option.bind_some]; exact h1
      · have e : sOccurrencesOf_L1 g r (s, (k : Int)) = some (.inl (s ++ ys, ((k + 1 : Nat) : Int))) := by
          unfold sOccurrencesOf_L1; dsimp only
          rw [if_pos (by omega), hx, Option.bind_some, hp1, Option.bind_some, occ_same, hy1, Option.bind_some, grd_pos (by constructor <;> omega)]; rfl
        rw [iterO_next e]; exact h2
  obtain ⟨l, h1, h2, h3⟩ := key (r.Right.length + 1) 0 [] (by omega) (by simp)
  refine ⟨l, ?_, ?_, by omega⟩
  · unfold sOccurrencesOf_m
    have e : iterO (sOccurrencesOf_L1 g r) (([] : List Occurrence), 0) = some l := h2
    rw [e]; rfl
  · unfold iOccurrencesOf_m
    rw [grd_pos (by constructor <;> omega), h1]; rfl
theorem szL_mem {α : Type} [Sz α] {x : α} : ∀ {l : List α}, x ∈ l → Sz.szd x ≤ szL l
  | [], h => by simp at h
  | y :: l, h => by
    rcases List.mem_cons.1 h with rfl | h
    · simp only [szL]; omega
    · have := szL_mem h; simp only [szL]; omega
theorem syms_le {g : Grammar} (h : Sz.szd g ≤ 1048576) : ∀ y ∈ g.Symbols, y.Attributes.length ≤ 1048576 := fun y hy => by
  have h1 := szL_mem hy
  have h2 := Symbol_szd y
  have h3 := Grammar_szd g
  have h4 := szL_length y.Attributes
  omega
theorem right_le {r : Rule} (h : Sz.szd r ≤ 1048576) : r.Right.length ≤ 1048576 := by
  have h1 := Rule_szd r
  have h2 := szL_length r.Right
  omega
theorem cntL_ints : ∀ l : List Int, cntL l = l.length
  | [] => rfl
  | a :: l => by simp only [cntL, cntL_ints l, List.length_cons]; show 1 + _ = _; omega
end Go.Proofs.YtonnooljidombaaGreat

