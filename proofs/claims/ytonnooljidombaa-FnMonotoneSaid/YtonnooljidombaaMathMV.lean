/- What those partial functions come to: plain lemmas on data; each bears its conditions in its statement. -/
import Derived.Test.YtonnooljidombaaMathMG
set_option linter.unusedVariables false
set_option linter.unusedSimpArgs false
set_option linter.ambiguousOpen false
set_option linter.unusedSectionVars false
set_option linter.unnecessarySimpa false
set_option linter.unusedVariables false
set_option linter.unusedSimpArgs false
namespace Go.Proofs.Ytonnooljidombaa
open Go Go.E
/-- how many parts a node has -/
def arity (k : Int) : Int := if k = 4 then 2 else if k = 5 then 3 else if k = 8 then 1 else 0
def bareB (e : Expr) : Bool := decide ((e.Args.length : Int) = arity e.Kind) && ((decide (e.Kind = 3 ∨ e.Kind = 6) || decide (e.Pos = 0)) && ((decide (e.Kind = 3 ∨ e.Kind = 8) || decide (e.Name = ⟨#[]⟩)) && ((decide (e.Kind = 1 ∨ e.Kind = 4) || decide (e.N = 0)) && ((decide (e.Kind = 1) || decide (e.Type_ = 0)) && (decide (e.Kind = 8) || decide (e.Symbol = ⟨#[]⟩))))))
theorem bare_eq (e : Expr) : sl4Bare_m e = some (bareB e) := by
  unfold sl4Bare_m
  have h0 : (if e.Kind = 4 then some 2 else if e.Kind = 5 then some 3 else if e.Kind = 8 then some 1 else some (0 : Int)) = some (arity e.Kind) := by
    unfold arity
    split
    · rfl
    · split
      · rfl
      · split <;> rfl
  have or2 : ∀ a b : Prop, [Decidable a] → [Decidable b] → (if a then some true else some (decide b)) = some (decide (a ∨ b)) := fun a b _ _ => by
    by_cases h : a <;> simp [h]
  have or1 : ∀ (a : Prop) (b : Bool), [Decidable a] → (if a then some true else some b) = some (decide a || b) := fun a b _ => by
    by_cases h : a <;> simp [h]
  have orB : ∀ a b : Bool, (if a = true then some true else some b) = some (a || b) := fun a b => by cases a <;> rfl
  have andB : ∀ a b : Bool, (if a = true then some b else some false) = some (a && b) := fun a b => by cases a <;> rfl
  rw [h0, Option.bind_some]
  unfold bareB
  by_cases hl : (e.Args.length : Int) = arity e.Kind
  · rw [if_pos hl]
    simp only [or2, or1, orB, andB, Option.bind_some]
    simp [hl, Bool.and_assoc]
  · rw [if_neg hl]; simp [hl]
/-- what a kind of node asks besides -/
def kindB (e : Expr) : Bool :=
  if e.Kind = 1 then (decide (1 ≤ e.Type_ ∧ e.Type_ ≤ 3) && typeB e.N e.Type_) && decide (0 ≤ e.N)
  else if e.Kind = 3 then decide (0 ≤ e.Pos ∧ e.Pos ≤ 3) && nameB e.Name
  else if e.Kind = 6 then decide (0 ≤ e.Pos ∧ e.Pos ≤ 3)
  else if e.Kind = 4 then decide (1 ≤ e.N ∧ e.N ≤ 12)
  else if e.Kind = 8 then nameB e.Symbol && nameB e.Name
  else true
def nodeB (e : Expr) : Bool := (decide (1 ≤ e.Kind ∧ e.Kind ≤ 8) && bareB e) && kindB e
theorem sNode_eq (e : Expr) : sl4Node_m e = some (nodeB e) := by
  unfold sl4Node_m nodeB
  rw [si_eq, Option.bind_some, bare_eq, Option.bind_some]
  by_cases hk : 1 ≤ e.Kind ∧ e.Kind ≤ 8
  · rw [if_pos (by simpa using hk), Option.bind_some]
    cases bareB e with
    | false => simp
    | true =>
      rw [if_neg (by simp)]
      unfold kindB
      by_cases k1 : e.Kind = 1
      · rw [if_pos k1, if_pos k1, si_eq, Option.bind_some, sType_eq, Option.bind_some]
        by_cases h : 1 ≤ e.Type_ ∧ e.Type_ ≤ 3
        · cases typeB e.N e.Type_ <;> simp [h, hk]
        · simp [h, hk]
      rw [if_neg k1, if_neg k1]
      by_cases k3 : e.Kind = 3
      · rw [if_pos k3, if_pos k3, si_eq, Option.bind_some, sName_eq]
        by_cases h : 0 ≤ e.Pos ∧ e.Pos ≤ 3
        · simp [h, hk]
        · simp [h, hk]
      rw [if_neg k3, if_neg k3]
      by_cases k6 : e.Kind = 6
      · rw [if_pos k6, if_pos k6, si_eq]; simp [hk]
      rw [if_neg k6, if_neg k6]
      by_cases k4 : e.Kind = 4
      · rw [if_pos k4, if_pos k4, si_eq]; simp [hk]
      rw [if_neg k4, if_neg k4]
      by_cases k8 : e.Kind = 8
      · rw [if_pos k8, if_pos k8, sName_eq, Option.bind_some, sName_eq]
        cases nameB e.Symbol <;> simp [hk]
      rw [if_neg k8, if_neg k8]; simp [hk]
  · rw [if_neg (by simpa using hk)]; simp [hk]
end Go.Proofs.Ytonnooljidombaa

