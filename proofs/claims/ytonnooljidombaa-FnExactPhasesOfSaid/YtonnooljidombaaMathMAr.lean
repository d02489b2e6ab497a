/- What those partial functions come to: plain lemmas on data; each bears its conditions in its statement. -/
import Derived.Test.YtonnooljidombaaLift
import Derived.Test.YtonnooljidombaaEngC
set_option linter.unusedVariables false
set_option linter.unusedSimpArgs false
set_option linter.ambiguousOpen false
set_option linter.unusedSectionVars false
set_option linter.unnecessarySimpa false
set_option linter.unusedVariables false
set_option linter.unusedSimpArgs false
namespace Go.Proofs.Ytonnooljidombaa
open Go Go.E
def Valid (r : Relation) : Prop := 0 ≤ r.N ∧ r.N ≤ 16 ∧ (r.Rows.length : Int) = r.N ∧ ∀ x ∈ r.Rows, 0 ≤ x ∧ x ≤ ((2 ^ r.N.toNat : Nat) : Int) - 1
instance (r : Relation) : Decidable (Valid r) := by unfold Valid; infer_instance
def rowAt (r : Relation) (i : Int) : Int := r.Rows.getD i.toNat 0
def bit (x : Int) (k : Int) : Prop := x.toNat >>> k.toNat &&& 1 = 1
instance (x k : Int) : Decidable (bit x k) := by unfold bit; infer_instance
def inN (r : Relation) (i : Int) : Prop := 0 ≤ i ∧ i ≤ r.N - 1
instance (r : Relation) (i : Int) : Decidable (inN r i) := by unfold inN; infer_instance
def hasP (r : Relation) (i k : Int) : Prop := Valid r ∧ inN r i ∧ inN r k ∧ bit (rowAt r i) k
instance (r : Relation) (i k : Int) : Decidable (hasP r i k) := by unfold hasP; infer_instance
def orI (x y : Int) : Int := ((x.toNat ||| y.toNat : Nat) : Int)
theorem Valid.row {r : Relation} (h : Valid r) {i : Int} (hi : inN r i) {x : Int} (hx : r.Rows[i.toNat]? = some x) : rowAt r i = x ∧ 0 ≤ x ∧ x ≤ 65535 := by
  have hm := h.2.2.2 x (List.mem_of_getElem? hx)
  have hp : 2 ^ r.N.toNat ≤ 2 ^ 16 := Nat.pow_le_pow_right (by decide) (by have := h.2.1; omega)
  refine ⟨by unfold rowAt; simp [hx], hm.1, by omega⟩
theorem pow_pos' (n : Int) : 1 ≤ 2 ^ n.toNat := Nat.one_le_two_pow
theorem valid_any {r : Relation} (h0 : 0 ≤ r.N) (h1 : r.N ≤ 16) (h2 : (r.Rows.length : Int) = r.N) : decide (Valid r) = !(r.Rows.any fun x => !decide (0 ≤ x ∧ x ≤ ((2 ^ r.N.toNat : Nat) : Int) - 1)) := by
  by_cases hv : Valid r
  · rw [decide_eq_true hv, eq_comm, Bool.not_eq_true', List.any_eq_false]
    intro x hx
    simp only [Bool.not_eq_true', decide_eq_false_iff_not, Decidable.not_not]
    exact hv.2.2.2 x hx
  · rw [decide_eq_false hv, eq_comm, Bool.not_eq_false', List.any_eq_true]
    refine Classical.byContradiction fun hn => hv ⟨h0, h1, h2, fun x hx => Classical.byContradiction fun hb => hn ⟨x, hx, ?_⟩⟩
    rw [decide_eq_false hb]; rfl
theorem bit_of {x k : Int} (h : (((((x.toNat >>> k.toNat : Nat) : Int)).toNat &&& (1 : Int).toNat : Nat) : Int) = 1) : x.toNat >>> k.toNat &&& 1 = 1 := by
  have : (1 : Int).toNat = 1 := rfl
  rw [Int.toNat_natCast, this] at h
  exact_mod_cast h
theorem of_bit {x k : Int} (h : x.toNat >>> k.toNat &&& 1 = 1) : (((((x.toNat >>> k.toNat : Nat) : Int)).toNat &&& (1 : Int).toNat : Nat) : Int) = 1 := by
  have : (1 : Int).toNat = 1 := rfl
  rw [Int.toNat_natCast, this]
  exact_mod_cast h
theorem sl1In_eq (x lo hi : Int) : sl1In_m x lo hi = some (decide (lo ≤ x ∧ x ≤ hi)) := by
  unfold sl1In_m; split <;> simp_all <;> omega
theorem iwithin_eq (x lo hi : Int) : iwithin_m x lo hi = some (decide (lo ≤ x ∧ x ≤ hi)) := by
  unfold iwithin_m; split <;> simp_all <;> omega
theorem sIsValid_eq (r : Relation) : sIsValidRelation_m r = some (decide (Valid r)) := by
  unfold sIsValidRelation_m
  simp only [sl1In_eq, Option.bind_some, decide_eq_true_eq]
  by_cases h1 : 0 ≤ r.N ∧ r.N ≤ 16
  · rw [if_pos h1]
    by_cases h2 : (r.Rows.length : Int) = r.N
    · rw [if_pos h2]
      have key := findN_any (c := false) (n := r.N.toNat) (i := 0) (p := fun k => ∃ x, r.Rows[k]? = some x ∧ ¬ (0 ≤ x ∧ x ≤ ((2 ^ r.N.toNat : Nat) : Int) - 1)) (f := sIsValidRelation_L1 r) fun k hk => by
        have hk' : k < r.Rows.length := by omega
        obtain ⟨x, hx⟩ : ∃ x, r.Rows[k]? = some x := ⟨_, List.getElem?_eq_getElem hk'⟩
        simp only [Nat.zero_add]
        unfold sIsValidRelation_L1
        rw [hx, Option.bind_some, grd_pos h1.1, grd_pos (by omega), sl1In_eq, Option.bind_some]
        simp only [decide_eq_true_eq]
        refine ⟨fun ⟨y, hy, hn⟩ => ?_, fun hn => ?_⟩
        · cases hy; rw [if_neg hn]
        · by_cases hb : 0 ≤ x ∧ x ≤ ((2 ^ r.N.toNat : Nat) : Int) - 1
          · rw [if_pos hb]
          · exact absurd ⟨x, rfl, hb⟩ hn
      simp only [Nat.zero_add] at key
      by_cases hv : Valid r
      · rw [key.2 fun k hk ⟨x, hx, hn⟩ => hn (hv.2.2.2 x (List.mem_of_getElem? hx))]
        simp [hv]
      · rw [key.1 (Classical.byContradiction fun hn => hv ⟨h1.1, h1.2, h2, fun x hx => ?_⟩)]
        · simp [hv]
        · obtain ⟨k, hk⟩ := List.getElem?_of_mem hx
          have hk' := lt_of hk
          exact Classical.byContradiction fun hb => hn ⟨k, by omega, x, hk, hb⟩
    · rw [if_neg h2, decide_eq_false fun hv => h2 hv.2.2.1]
  · rw [if_neg h1, decide_eq_false fun hv => h1 ⟨hv.1, hv.2.1⟩]
theorem iIsValid_eq (r : Relation) : iIsValidRelation_m r = some (decide (Valid r)) := by
  unfold iIsValidRelation_m
  simp only [iwithin_eq, Option.bind_some, decide_eq_true_eq]
  by_cases h1 : 0 ≤ r.N ∧ r.N ≤ 16
  · rw [if_pos h1]
    simp only [Option.bind_some, Bool.false_eq_true, if_true, if_false, decide_eq_true_eq]
    by_cases h2 : (r.Rows.length : Int) = r.N
    · rw [if_pos h2]
      have h3 : ∀ x, iIsValidRelation_1_m x r = some (!decide (0 ≤ x ∧ x ≤ ((2 ^ r.N.toNat : Nat) : Int) - 1)) := fun x => by
        unfold iIsValidRelation_1_m
        rw [grd_pos h1.1, grd_pos (by omega), iwithin_eq]; rfl
      have h4 : ∀ (xs : List Int) (i : Nat), ∃ z, findL (slices_IndexFunc_int_iIsValidRelation_1_L1 r) i xs () = some z ∧ ((xs.any fun x => !decide (0 ≤ x ∧ x ≤ ((2 ^ r.N.toNat : Nat) : Int) - 1)) = true → ∃ k : Nat, z = .inr (k : Int)) ∧ ((xs.any fun x => !decide (0 ≤ x ∧ x ≤ ((2 ^ r.N.toNat : Nat) : Int) - 1)) = false → z = .inl ()) := by
        intro xs
        induction xs with
        | nil => intro i; exact ⟨_, rfl, by simp, by simp⟩
        | cons x xs ih =>
          intro i
          simp only [findL, slices_IndexFunc_int_iIsValidRelation_1_L1, h3, Option.bind_some, List.any_cons]
          by_cases hb : 0 ≤ x ∧ x ≤ ((2 ^ r.N.toNat : Nat) : Int) - 1
          · simp only [hb, and_self, decide_true, Bool.not_true, Bool.false_eq_true, if_false, Option.bind_some, Bool.false_or]
            exact ih (i + 1)
          · simp only [hb, decide_false, Bool.not_false, if_true, Option.bind_some, Bool.true_or]
            exact ⟨_, rfl, fun _ => ⟨i, rfl⟩, by simp⟩
      unfold slices_ContainsFunc_int_iIsValidRelation_1_m slices_IndexFunc_int_iIsValidRelation_1_m
      obtain ⟨z, hz, hz1, hz2⟩ := h4 r.Rows 0
      rw [hz, valid_any h1.1 h1.2 h2]
      cases ha : (r.Rows.any fun x => !decide (0 ≤ x ∧ x ≤ ((2 ^ r.N.toNat : Nat) : Int) - 1)) with
      | true => obtain ⟨k, rfl⟩ := hz1 ha; simp
      | false => rw [hz2 ha]; simp
    · rw [if_neg h2, decide_eq_false fun hv => h2 hv.2.2.1]; simp only [Option.bind_some, Bool.false_eq_true, if_true, if_false, decide_eq_true_eq]
  · rw [if_neg h1, decide_eq_false fun hv => h1 ⟨hv.1, hv.2.1⟩]; simp only [Option.bind_some, Bool.false_eq_true, if_true, if_false, decide_eq_true_eq]
theorem sHasPair_eq (r : Relation) (i k : Int) : sHasPair_m r i k = some (decide (hasP r i k)) := by
  unfold sHasPair_m
  simp only [sIsValid_eq, sl1In_eq, Option.bind_some, decide_eq_true_eq]
  by_cases hv : Valid r
  · have hv1 := hv.1; have hv2 := hv.2.1; have hv3 := hv.2.2.1
    rw [if_pos hv, grd_pos (by constructor <;> omega)]; simp only [Option.bind_some, Bool.false_eq_true, if_true, if_false, decide_eq_true_eq]
    by_cases hi : 0 ≤ i ∧ i ≤ r.N - 1
    · rw [if_pos hi, grd_pos (by constructor <;> omega)]; simp only [Option.bind_some, Bool.false_eq_true, if_true, if_false, decide_eq_true_eq]
      by_cases hk : 0 ≤ k ∧ k ≤ r.N - 1
      · obtain ⟨x, hx⟩ : ∃ x, r.Rows[i.toNat]? = some x := ⟨_, List.getElem?_eq_getElem (by omega)⟩
        have hrow := hv.row (i := i) hi hx
        rw [if_pos hk, grd_pos hi.1, hx, Option.bind_some, grd_pos hk.1, grd_pos ⟨hrow.2.1, hk.1, by omega⟩, grd_pos ⟨Int.natCast_nonneg _, by decide⟩]
        simp only [Option.bind_some, Bool.false_eq_true, if_true, if_false, decide_eq_true_eq]
        congr 1
        refine decide_eq_decide.2 ⟨fun hb => ⟨hv, hi, hk, ?_⟩, fun hb => ?_⟩
        · unfold bit; rw [hrow.1]; exact bit_of hb
        · have := hb.2.2.2; unfold bit at this; rw [hrow.1] at this; exact of_bit this
      · rw [if_neg hk]; simp only [Option.bind_some, Bool.false_eq_true, if_true, if_false, decide_eq_true_eq]; rw [ decide_eq_false fun h => hk h.2.2.1]
    · rw [if_neg hi]; simp only [Option.bind_some, Bool.false_eq_true, if_true, if_false, decide_eq_true_eq]; rw [ decide_eq_false fun h => hi h.2.1]
  · rw [if_neg hv]; simp only [Option.bind_some, Bool.false_eq_true, if_true, if_false, decide_eq_true_eq]; rw [ decide_eq_false fun h => hv h.1]
theorem iHasPair_eq (r : Relation) (i k : Int) : iHasPair_m r i k = some (decide (hasP r i k)) := by
  rw [← sHasPair_eq]
  unfold iHasPair_m sHasPair_m
  simp only [sIsValid_eq, iIsValid_eq, sl1In_eq, iwithin_eq]
theorem copy_same : icopyRelation_m = sl22Copy_m := by
  funext r; unfold icopyRelation_m sl22Copy_m slices_Clone_int_m
  by_cases h : ((([] : List Int).length : Int) + (r.Rows.length : Int)) * 8 ≤ 140737488355328 ∧ (([] : List Int).length : Int) + (r.Rows.length : Int) ≤ 9223372036854775807
  · rw [grd_pos h, grd_pos h]; rfl
  · unfold grd; rw [if_neg h, if_neg h]; rfl
theorem copy_some {r : Relation} (h : r.Rows.length ≤ 1048576) : sl22Copy_m r = some r := by
  unfold sl22Copy_m; rw [grd_pos (by simp only [List.length_nil]; constructor <;> omega)]
end Go.Proofs.Ytonnooljidombaa

