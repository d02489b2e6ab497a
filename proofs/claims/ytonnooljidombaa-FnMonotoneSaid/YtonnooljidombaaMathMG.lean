/- What those partial functions come to: plain lemmas on data; each bears its conditions in its statement. -/
import Derived.Test.YtonnooljidombaaMathMF
import Derived.Test.YtonnooljidombaaMathMD
set_option linter.unusedVariables false
set_option linter.unusedSimpArgs false
set_option linter.ambiguousOpen false
set_option linter.unusedSectionVars false
set_option linter.unnecessarySimpa false
set_option linter.unusedVariables false
set_option linter.unusedSimpArgs false
namespace Go.Proofs.Ytonnooljidombaa
open Go Go.E
/-! ### values -/
def satI (v : Int) : Int := if (-1000000 : Int) > (if (1000000 : Int) < v then (1000000 : Int) else v) then (-1000000 : Int) else (if (1000000 : Int) < v then (1000000 : Int) else v)
theorem satI_le (v : Int) : -1000000 ≤ satI v ∧ satI v ≤ 1000000 := by
  unfold satI
  split <;> split <;> constructor <;> omega
def truI (b : Bool) : Int := if b = true then 1 else 0
def coerI (v k : Int) : Int := if k = 1 then satI v else if k = 2 then goAnd v 4095 else if k = 3 then truI (!decide (v = 0)) else if k = 4 then (if 0 ≤ v ∧ v ≤ 999 then v else 0) else 0
theorem iSat_eq (v : Int) : iSaturate_m v = some (satI v) := rfl
theorem sMin_eq (a b : Int) : sl1Min_m a b = some (if b < a then b else a) := by
  unfold sl1Min_m
  by_cases h : a < b
  · rw [if_pos h, if_neg (by omega)]
  · rw [if_neg h]
    split
    · rfl
    · congr 1; omega
theorem sSat_eq (v : Int) : sSaturate_m v = some (satI v) := by
  unfold sSaturate_m
  rw [sMin_eq, Option.bind_some, sMax_eq, Option.bind_some]
  congr 1
  unfold satI
  split <;> split <;> (try split) <;> (try split) <;> omega
theorem flag_eq (b : Bool) : iflag_m b = some (truI b) := by unfold iflag_m truI; cases b <;> rfl
theorem truth_eq (b : Bool) : sl3Truth_m b = some (truI b) := by unfold sl3Truth_m truI; cases b <;> rfl
theorem iCoer_eq (v k : Int) : iCoerce_m v k = some (coerI v k) := by
  unfold iCoerce_m coerI
  rw [iSat_eq, flag_eq, wi_eq]
  by_cases h1 : k = 1
  · rw [if_pos h1, if_pos h1]; rfl
  by_cases h2 : k = 2
  · rw [if_neg h1, if_neg h1, if_pos h2, if_pos h2]
  by_cases h3 : k = 3
  · rw [if_neg h1, if_neg h1, if_neg h2, if_neg h2, if_pos h3, if_pos h3]; rfl
  by_cases h4 : k = 4
  · rw [if_neg h1, if_neg h1, if_neg h2, if_neg h2, if_neg h3, if_neg h3, if_pos h4, if_pos h4, Option.bind_some]
    by_cases h : 0 ≤ v ∧ v ≤ 999 <;> simp [h]
  · rw [if_neg h1, if_neg h1, if_neg h2, if_neg h2, if_neg h3, if_neg h3, if_neg h4, if_neg h4]
theorem sCoer_eq (v k : Int) : sCoerce_m v k = some (coerI v k) := by
  unfold sCoerce_m coerI
  rw [sSat_eq, truth_eq, si_eq]
  by_cases h1 : k = 1
  · rw [if_pos h1, if_pos h1]; rfl
  by_cases h2 : k = 2
  · rw [if_neg h1, if_neg h1, if_pos h2, if_pos h2]
  by_cases h3 : k = 3
  · rw [if_neg h1, if_neg h1, if_neg h2, if_neg h2, if_pos h3, if_pos h3]; rfl
  by_cases h4 : k = 4
  · rw [if_neg h1, if_neg h1, if_neg h2, if_neg h2, if_neg h3, if_neg h3, if_pos h4, if_pos h4, Option.bind_some]
    by_cases h : 0 ≤ v ∧ v ≤ 999 <;> simp [h]
  · rw [if_neg h1, if_neg h1, if_neg h2, if_neg h2, if_neg h3, if_neg h3, if_neg h4, if_neg h4]
def typeB (v k : Int) : Bool := decide (1 ≤ k ∧ k ≤ 4) && decide (coerI v k = v)
theorem sType_eq (v k : Int) : sIsOfType_m v k = some (typeB v k) := by
  unfold sIsOfType_m typeB
  rw [si_eq, Option.bind_some, sCoer_eq, Option.bind_some]
  by_cases h : 1 ≤ k ∧ k ≤ 4 <;> simp [h]
/-! ### operators -/
def opT (n : Int) : Int × Int × Int :=
  if 1 ≤ n ∧ n ≤ 5 then (1, 1, 1) else if 6 ≤ n ∧ n ≤ 8 then (2, 2, 2) else if n = 9 ∨ n = 10 then (1, 1, 3) else if n = 11 then (2, 1, 3) else if n = 12 then (2, 1, 2) else (0, 0, 0)
theorem chain5 {n a b c d e : Int} : (if n = a then some (decide (n = a)) else if n = b then some (decide (n = b)) else if n = c then some (decide (n = c)) else if n = d then some (decide (n = d)) else some (decide (n = e))) = some (decide (n = a ∨ n = b ∨ n = c ∨ n = d ∨ n = e)) := by
  by_cases h1 : n = a
  · simp [h1]
  by_cases h2 : n = b
  · simp [h1, h2]
  by_cases h3 : n = c
  · rw [if_neg h1, if_neg h2, if_pos h3]; simp [h3]
  by_cases h4 : n = d
  · rw [if_neg h1, if_neg h2, if_neg h3, if_pos h4]; simp [h4]
  · simp [h1, h2, h3, h4]
theorem chain3 {n a b c : Int} : (if n = a then some (decide (n = a)) else if n = b then some (decide (n = b)) else some (decide (n = c))) = some (decide (n = a ∨ n = b ∨ n = c)) := by
  by_cases h1 : n = a
  · simp [h1]
  by_cases h2 : n = b
  · simp [h1, h2]
  · simp [h1, h2]
theorem iOpT_eq (n : Int) : iOperandTypes_m n = some (opT n) := by
  unfold iOperandTypes_m opT
  rw [chain5, chain3]
  simp only [Option.bind_some]
  by_cases h1 : 1 ≤ n ∧ n ≤ 5
  · rw [if_pos (by simp; omega), if_pos h1]
  rw [if_neg (by simp; omega), if_neg h1]
  by_cases h2 : 6 ≤ n ∧ n ≤ 8
  · rw [if_pos (by simp; omega), if_pos h2]
  rw [if_neg (by simp; omega), if_neg h2]
  by_cases h3 : n = 9
  · simp [h3]
  by_cases h3' : n = 10
  · simp [h3']
  by_cases h4 : n = 11
  · simp [h4]
  by_cases h5 : n = 12
  · simp [h5]
  simp [h3, h3', h4, h5]
theorem sOpT_eq (n : Int) : sOperandTypes_m n = some (opT n) := by
  unfold sOperandTypes_m opT
  rw [si_eq, si_eq]
  simp only [Option.bind_some]
  by_cases h1 : 1 ≤ n ∧ n ≤ 5
  · rw [if_pos (by simpa using h1), if_pos h1]
  rw [if_neg (by simpa using h1), if_neg h1]
  by_cases h2 : 6 ≤ n ∧ n ≤ 8
  · rw [if_pos (by simpa using h2), if_pos h2]
  rw [if_neg (by simpa using h2), if_neg h2]
  by_cases h3 : n = 9
  · rw [if_pos h3, if_pos (.inl h3)]
  rw [if_neg h3]
  by_cases h3' : n = 10
  · rw [if_pos h3', if_pos (.inr h3')]
  have h33 : ¬(n = 9 ∨ n = 10) := by omega
  rw [if_neg h3', if_neg h33]
  by_cases h4 : n = 11
  · rw [if_pos h4, if_pos h4]
  rw [if_neg h4, if_neg h4]
  by_cases h5 : n = 12
  · rw [if_pos h5, if_pos h5]
  rw [if_neg h5, if_neg h5]
/-- what an operator gives for values of its types -/
def opI (n x y : Int) : Int :=
  if n = 1 then satI (x + y) else if n = 2 then satI (x - y) else if n = 3 then satI (x * y) else if n = 4 then (if y > x then y else x) else if n = 5 then (if y < x then y else x)
  else if n = 6 then ((x.toNat ||| y.toNat : Nat) : Int) else if n = 7 then ((x.toNat &&& y.toNat : Nat) : Int) else if n = 8 then goAndNot x y
  else if n = 9 then truI (decide (x < y)) else if n = 10 then truI (decide (x = y))
  else if n = 11 then (if 0 ≤ y ∧ y ≤ 11 then truI (decide ((((x.toNat >>> y.toNat : Nat) : Int).toNat &&& (1 : Int).toNat : Nat) = (1 : Int))) else truI false)
  else if n = 12 then (if 0 ≤ y ∧ y ≤ 11 then ((x.toNat ||| ((2 ^ y.toNat : Nat) : Int).toNat : Nat) : Int) else x) else 0
def applyI (n a b : Int) : Int := opI n (coerI a (opT n).1) (coerI b (opT n).2.1)
theorem goAnd_in (x : Int) : 0 ≤ goAnd x 4095 ∧ goAnd x 4095 ≤ 4095 := goAnd_le (by omega) (by omega)
theorem coerI_in (v k : Int) : (k = 1 → -1000000 ≤ coerI v k ∧ coerI v k ≤ 1000000) ∧ (k = 2 → 0 ≤ coerI v k ∧ coerI v k ≤ 4095) := by
  unfold coerI
  refine ⟨fun h => ?_, fun h => ?_⟩
  · rw [if_pos h]; exact satI_le v
  · rw [if_neg (by omega), if_pos h]; exact goAnd_in v
theorem mul_in {x y : Int} (h1 : -1000000 ≤ x ∧ x ≤ 1000000) (h2 : -1000000 ≤ y ∧ y ≤ 1000000) : I64 (x * y) := by
  have a : x * y ≤ 1000000 * 1000000 := by
    rcases Int.le_total 0 y with h | h
    · exact Int.le_trans (Int.mul_le_mul_of_nonneg_right h1.2 h) (Int.mul_le_mul_of_nonneg_left h2.2 (by omega))
    · have := Int.mul_le_mul_of_nonpos_right h1.1 h
      omega
  have b : -(1000000 * 1000000) ≤ x * y := by
    rcases Int.le_total 0 y with h | h
    · have := Int.mul_le_mul_of_nonneg_right h1.1 h
      omega
    · have := Int.mul_le_mul_of_nonpos_right h1.2 h
      omega
  constructor <;> omega
theorem sApply_eq (n a b : Int) : sApplyOp_m n a b = some (applyI n a b) ∧ iApplyOp_m n a b = some (applyI n a b) := by
  unfold sApplyOp_m iApplyOp_m applyI
  rw [sOpT_eq, iOpT_eq, Option.bind_some, Option.bind_some]
  generalize hT : opT n = q
  obtain ⟨t1, t2, t3⟩ := q
  have h12 : (1 ≤ n ∧ n ≤ 5 → t1 = 1 ∧ t2 = 1) ∧ (6 ≤ n ∧ n ≤ 8 → t1 = 2 ∧ t2 = 2) ∧ (n = 11 ∨ n = 12 → t1 = 2 ∧ t2 = 1) := by
    unfold opT at hT
    refine ⟨fun h => ?_, fun h => ?_, fun h => ?_⟩
    · rw [if_pos h] at hT; cases hT; exact ⟨rfl, rfl⟩
    · rw [if_neg (by omega), if_pos h] at hT; cases hT; exact ⟨rfl, rfl⟩
    · rw [if_neg (by omega), if_neg (by omega), if_neg (by omega)] at hT
      rcases h with h | h
      · rw [if_pos h] at hT; cases hT; exact ⟨rfl, rfl⟩
      · rw [if_neg (by omega), if_pos h] at hT; cases hT; exact ⟨rfl, rfl⟩
  dsimp only
  rw [sCoer_eq, sCoer_eq, iCoer_eq, iCoer_eq]
  rw [Option.bind_some, Option.bind_some, Option.bind_some, Option.bind_some]
  obtain ⟨x1, x2⟩ := coerI_in a t1
  obtain ⟨y1, y2⟩ := coerI_in b t2
  generalize coerI a t1 = x at x1 x2 ⊢
  generalize coerI b t2 = y at y1 y2 ⊢
  unfold opI
  by_cases c1 : n = 1
  · have := h12.1 (by omega); have := x1 this.1; have := y1 (by omega)
    simp only [if_pos c1]
    have hg : I64 (x + y) := by constructor <;> omega
    rw [grd_pos hg, grd_pos hg, sSat_eq, iSat_eq]; exact ⟨rfl, rfl⟩
  simp only [if_neg c1]
  by_cases c2 : n = 2
  · have := h12.1 (by omega); have := x1 this.1; have := y1 (by omega)
    simp only [if_pos c2]
    have hg : I64 (x - y) := by constructor <;> omega
    rw [grd_pos hg, grd_pos hg, sSat_eq, iSat_eq]; exact ⟨rfl, rfl⟩
  simp only [if_neg c2]
  by_cases c3 : n = 3
  · have := h12.1 (by omega); have hx := x1 this.1; have hy := y1 (by omega)
    simp only [if_pos c3]
    have hg : I64 (x * y) := mul_in hx hy
    rw [grd_pos hg, grd_pos hg, sSat_eq, iSat_eq]; exact ⟨rfl, rfl⟩
  simp only [if_neg c3]
  by_cases c4 : n = 4
  · simp only [if_pos c4]; rw [sMax_eq]; exact ⟨rfl, trivial⟩
  simp only [if_neg c4]
  by_cases c5 : n = 5
  · simp only [if_pos c5]; rw [sMin_eq]; exact ⟨rfl, trivial⟩
  simp only [if_neg c5]
  by_cases c6 : n = 6
  · have := h12.2.1 (by omega); have hx := x2 this.1; have hy := y2 (by omega)
    simp only [if_pos c6]
    have hg : 0 ≤ x ∧ 0 ≤ y := by omega
    rw [grd_pos hg]; exact ⟨rfl, rfl⟩
  simp only [if_neg c6]
  by_cases c7 : n = 7
  · have := h12.2.1 (by omega); have hx := x2 this.1; have hy := y2 (by omega)
    simp only [if_pos c7]
    have hg : 0 ≤ x ∧ 0 ≤ y := by omega
    rw [grd_pos hg]; exact ⟨rfl, rfl⟩
  simp only [if_neg c7]
  by_cases c8 : n = 8
  · simp only [if_pos c8]; exact ⟨trivial, trivial⟩
  simp only [if_neg c8]
  by_cases c9 : n = 9
  · simp only [if_pos c9]; rw [truth_eq, flag_eq]; exact ⟨rfl, rfl⟩
  simp only [if_neg c9]
  by_cases c10 : n = 10
  · simp only [if_pos c10]; rw [truth_eq, flag_eq]; exact ⟨rfl, rfl⟩
  simp only [if_neg c10]
  by_cases c11 : n = 11
  · have := h12.2.2 (by omega); have hx := x2 this.1; have hy := y1 (by omega)
    simp only [if_pos c11]
    refine ⟨?_, ?_⟩
    · rw [si_eq, Option.bind_some]
      by_cases hr : 0 ≤ y ∧ y ≤ 11
      · rw [if_pos (by simpa using hr), if_pos hr, sMax_eq, Option.bind_some, if_neg (by omega), grd_pos hr.1, grd_pos (by omega), grd_pos ⟨Int.natCast_nonneg _, by omega⟩, truth_eq]; rfl
      · rw [if_neg (by simpa using hr), if_neg hr, truth_eq]; rfl
    · rw [wi_eq, Option.bind_some]
      by_cases hr : 0 ≤ y ∧ y ≤ 11
      · rw [if_pos (by simpa using hr), if_pos hr, grd_pos hr.1, grd_pos (by omega), grd_pos ⟨Int.natCast_nonneg _, by omega⟩, flag_eq]; rfl
      · rw [if_neg (by simpa using hr), if_neg hr, flag_eq]; rfl
  simp only [if_neg c11]
  by_cases c12 : n = 12
  · have := h12.2.2 (by omega); have hx := x2 this.1; have hy := y1 (by omega)
    simp only [if_pos c12]
    refine ⟨?_, ?_⟩
    · rw [si_eq, Option.bind_some]
      by_cases hr : 0 ≤ y ∧ y ≤ 11
      · rw [if_pos (by simpa using hr), if_pos hr, grd_pos hr.1, grd_pos (by omega), grd_pos ⟨by omega, Int.natCast_nonneg _⟩]
      · rw [if_neg (by simpa using hr), if_neg hr]
    · rw [wi_eq, Option.bind_some]
      by_cases hr : 0 ≤ y ∧ y ≤ 11
      · rw [if_pos (by simpa using hr), if_pos hr, grd_pos hr.1, grd_pos (by omega), grd_pos ⟨by omega, Int.natCast_nonneg _⟩]
      · rw [if_neg (by simpa using hr), if_neg hr]
  simp only [if_neg c12]
  exact ⟨trivial, trivial⟩
end Go.Proofs.Ytonnooljidombaa

