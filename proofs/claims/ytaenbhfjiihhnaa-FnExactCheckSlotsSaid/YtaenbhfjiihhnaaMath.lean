/- What those partial functions come to: plain lemmas on data; each bears its conditions in its statement. -/
import Derived.Test.YtaenbhfjiihhnaaLift
import Derived.Test.YtaenbhfjiihhnaaRel
import Derived.Test.YtaenbhfjiihhnaaEngC
set_option linter.unusedVariables false
set_option linter.unusedSimpArgs false
set_option linter.ambiguousOpen false
set_option linter.unusedSectionVars false
set_option linter.unusedVariables false
set_option linter.unusedSimpArgs false
namespace Go.Proofs.Ytaenbhfjiihhnaa
open Go Go.E
theorem sl1In_eq (x lo hi : Int) : sl1In_m x lo hi = some (decide (lo ≤ x ∧ x ≤ hi)) := by
  unfold sl1In_m; split <;> simp_all <;> omega
theorem iwithin_eq (x lo hi : Int) : iwithin_m x lo hi = some (decide (lo ≤ x ∧ x ≤ hi)) := by
  unfold iwithin_m; split <;> simp_all <;> omega
theorem sIsValid_eq (r : Relation) : sIsValidRelation_m r = some (decide (Valid r)) := by
  unfold sIsValidRelation_m
  simp only [sl1In_eq, Option.bind_some, decide_eq_true_eq]
  by_cases h1 : 0 ≤ r.N ∧ r.N ≤ 16
  · rw [if_pos h1]
    by_cases h2 : (r.Rows.length : Int) = r.N
    · rw [if_pos h2]
      have key := findN_any (c := false) (n := r.N.toNat) (i := 0) (p := fun k => ∃ x, r.Rows[k]? = some x ∧ ¬ (0 ≤ x ∧ x ≤ ((2 ^ r.N.toNat : Nat) : Int) - 1)) (f := sIsValidRelation_L1 r) fun k hk => by
        have hk' : k < r.Rows.length := by omega
        obtain ⟨x, hx⟩ : ∃ x, r.Rows[k]? = some x := ⟨_, List.getElem?_eq_getElem hk'⟩
        simp only [Nat.zero_add]
        unfold sIsValidRelation_L1
        rw [hx, Option.bind_some, grd_pos h1.1, grd_pos (by omega), sl1In_eq, Option.bind_some]
        simp only [decide_eq_true_eq]
        refine ⟨fun ⟨y, hy, hn⟩ => ?_, fun hn => ?_⟩
        · cases hy; rw [if_neg hn]
        · by_cases hb : 0 ≤ x ∧ x ≤ ((2 ^ r.N.toNat : Nat) : Int) - 1
          · rw [if_pos hb]
          · exact absurd ⟨x, rfl, hb⟩ hn
      simp only [Nat.zero_add] at key
      by_cases hv : Valid r
      · rw [key.2 fun k hk ⟨x, hx, hn⟩ => hn (hv.2.2.2 x (List.mem_of_getElem? hx))]
        simp [hv]
      · rw [key.1 (Classical.byContradiction fun hn => hv ⟨h1.1, h1.2, h2, fun x hx => ?_⟩)]
        · simp [hv]
        · obtain ⟨k, hk⟩ := List.getElem?_of_mem hx
          have hk' := lt_of hk
          exact Classical.byContradiction fun hb => hn ⟨k, by omega, x, hk, hb⟩
    · rw [if_neg h2, decide_eq_false fun hv => h2 hv.2.2.1]
  · rw [if_neg h1, decide_eq_false fun hv => h1 ⟨hv.1, hv.2.1⟩]
theorem iIsValid_eq (r : Relation) : iIsValidRelation_m r = some (decide (Valid r)) := by
  unfold iIsValidRelation_m
  simp only [iwithin_eq, Option.bind_some, decide_eq_true_eq]
  by_cases h1 : 0 ≤ r.N ∧ r.N ≤ 16
  · rw [if_pos h1]
    by_cases h2 : (r.Rows.length : Int) = r.N
    · rw [if_pos h2]
      have h3 : ∀ x, iIsValidRelation_1_m x r = some (!decide (0 ≤ x ∧ x ≤ ((2 ^ r.N.toNat : Nat) : Int) - 1)) := fun x => by
        unfold iIsValidRelation_1_m
        rw [grd_pos h1.1, grd_pos (by omega), iwithin_eq]; rfl
      have h4 : ∀ (xs : List Int) (i : Nat), ∃ z, findL (slices_IndexFunc_int_iIsValidRelation_1_L1 r) i xs () = some z ∧ ((xs.any fun x => !decide (0 ≤ x ∧ x ≤ ((2 ^ r.N.toNat : Nat) : Int) - 1)) = true → ∃ k : Nat, z = .inr (k : Int)) ∧ ((xs.any fun x => !decide (0 ≤ x ∧ x ≤ ((2 ^ r.N.toNat : Nat) : Int) - 1)) = false → z = .inl ()) := by
        intro xs
        induction xs with
        | nil => intro i; exact ⟨_, rfl, by simp, by simp⟩
        | cons x xs ih =>
          intro i
          simp only [findL, slices_IndexFunc_int_iIsValidRelation_1_L1, h3, Option.bind_some, List.any_cons]
          by_cases hb : 0 ≤ x ∧ x ≤ ((2 ^ r.N.toNat : Nat) : Int) - 1
          · simp only [hb, and_self, decide_true, Bool.not_true, Bool.false_eq_true, if_false, Option.bind_some, Bool.false_or]
            exact ih (i + 1)
          · simp only [hb, decide_false, Bool.not_false, if_true, Option.bind_some, Bool.true_or]
            exact ⟨_, rfl, fun _ => ⟨i, rfl⟩, by simp⟩
      unfold slices_ContainsFunc_int_iIsValidRelation_1_m slices_IndexFunc_int_iIsValidRelation_1_m
      obtain ⟨z, hz, hz1, hz2⟩ := h4 r.Rows 0
      rw [hz, valid_any h1.1 h1.2 h2]
      cases ha : (r.Rows.any fun x => !decide (0 ≤ x ∧ x ≤ ((2 ^ r.N.toNat : Nat) : Int) - 1)) with
      | true => obtain ⟨k, rfl⟩ := hz1 ha; simp
      | false => rw [hz2 ha]; simp
    · rw [if_neg h2, decide_eq_false fun hv => h2 hv.2.2.1]
  · rw [if_neg h1, decide_eq_false fun hv => h1 ⟨hv.1, hv.2.1⟩]
theorem sHasPair_eq (r : Relation) (i k : Int) : sHasPair_m r i k = some (decide (hasP r i k)) := by
  unfold sHasPair_m
  simp only [sIsValid_eq, sl1In_eq, Option.bind_some, decide_eq_true_eq]
  by_cases hv : Valid r
  · have hv1 := hv.1; have hv2 := hv.2.1; have hv3 := hv.2.2.1
    rw [if_pos hv, grd_pos (by constructor <;> omega)]
    by_cases hi : 0 ≤ i ∧ i ≤ r.N - 1
    · rw [if_pos hi, grd_pos (by constructor <;> omega)]
      by_cases hk : 0 ≤ k ∧ k ≤ r.N - 1
      · obtain ⟨x, hx⟩ : ∃ x, r.Rows[i.toNat]? = some x := ⟨_, List.getElem?_eq_getElem (by omega)⟩
        have hrow := hv.row (i := i) hi hx
        rw [if_pos hk, grd_pos hi.1, hx, Option.bind_some, grd_pos hk.1, grd_pos ⟨hrow.2.1, hk.1, by omega⟩, grd_pos ⟨Int.natCast_nonneg _, by decide⟩]
        congr 1
        refine decide_eq_decide.2 ⟨fun hb => ⟨hv, hi, hk, ?_⟩, fun hb => ?_⟩
        · unfold bit; rw [hrow.1]; exact bit_of hb
        · have := hb.2.2.2; unfold bit at this; rw [hrow.1] at this; exact of_bit this
      · rw [if_neg hk, decide_eq_false fun h => hk h.2.2.1]
    · rw [if_neg hi, decide_eq_false fun h => hi h.2.1]
  · rw [if_neg hv, decide_eq_false fun h => hv h.1]
theorem iHasPair_eq (r : Relation) (i k : Int) : iHasPair_m r i k = some (decide (hasP r i k)) := by
  rw [← sHasPair_eq]
  unfold iHasPair_m sHasPair_m
  simp only [sIsValid_eq, iIsValid_eq, sl1In_eq, iwithin_eq]
theorem iProject_eq (r : Relation) (l : List Int) : iProjectRelation_m r l = sProjectRelation_m r l := by
  have h2 : iProjectRelation_L2 = sProjectRelation_L2 := by
    funext r k x k2 x2 s; simp only [iProjectRelation_L2, sProjectRelation_L2, sHasPair_eq, iHasPair_eq]
  have h1 : iProjectRelation_L1 = sProjectRelation_L1 := by
    funext r l k x s; simp only [iProjectRelation_L1, sProjectRelation_L1, h2]
  have h0 : iEmptyRelation_m = sEmptyRelation_m := by
    funext n; simp only [iEmptyRelation_m, sEmptyRelation_m, sl1In_eq, iwithin_eq]
  simp only [iProjectRelation_m, sProjectRelation_m, sIsValid_eq, iIsValid_eq, h0, h1]
theorem sProject_some (r : Relation) (l : List Int) : ∃ x, sProjectRelation_m r l = some x ∧ x.Rows.length ≤ 16 := by
  unfold sProjectRelation_m
  rw [sIsValid_eq, Option.bind_some]
  by_cases hv : decide (Valid r) = true
  · rw [if_pos hv]
    by_cases hl : 16 < (l.length : Int)
    · rw [if_pos hl]; exact ⟨_, rfl, by simp⟩
    · rw [if_neg hl]
      unfold sEmptyRelation_m
      rw [sl1In_eq, Option.bind_some, if_pos (by simp; omega), grd_pos (by omega), Option.bind_some]
      obtain ⟨s', h1, h2⟩ := eachL_ok (P := fun _ (s : List Int) => s.length = l.length ∧ ∀ x ∈ s, 0 ≤ x) (xs := l) (i := 0) (s := List.replicate ((l.length : Int)).toNat (0 : Int)) (f := sProjectRelation_L1 r l) (by simp [List.mem_replicate]) fun k x s hx ⟨hs, hp⟩ => by
        obtain ⟨s2, h3, h4⟩ := eachL_ok (P := fun _ (s : List Int) => s.length = l.length ∧ ∀ x ∈ s, 0 ≤ x) (xs := l) (i := 0) (s := s) (f := sProjectRelation_L2 r (0 + k) x) ⟨hs, hp⟩ fun k2 x2 s2 hx2 ⟨hs2, hp2⟩ => by
          unfold sProjectRelation_L2
          rw [sHasPair_eq, Option.bind_some]
          have hk := lt_of hx
          have hk2 := lt_of hx2
          by_cases hb : decide (hasP r x x2) = true
          · obtain ⟨z, hz⟩ : ∃ z, s2[0 + k]? = some z := ⟨_, List.getElem?_eq_getElem (by omega)⟩
            rw [if_pos hb, hz, Option.bind_some, grd_pos (by omega), grd_pos ⟨hp2 z (List.mem_of_getElem? hz), Int.natCast_nonneg _⟩]
            refine ⟨_, rfl, by simp [hs2], fun y hy => ?_⟩
            rcases List.mem_or_eq_of_mem_set hy with h | h
            · exact hp2 y h
            · rw [h]; exact Int.natCast_nonneg _
          · rw [if_neg hb]; exact ⟨_, rfl, hs2, hp2⟩
        unfold sProjectRelation_L1
        rw [h3, Option.bind_some]
        exact ⟨s2, rfl, h4⟩
      simp only at h1 ⊢
      rw [h1, Option.bind_some]
      exact ⟨_, rfl, by simp only; omega⟩
  · rw [if_neg hv]; exact ⟨_, rfl, by simp⟩
theorem sHas_eq (l : List Instance) (x : Instance) : sl31Has_m l x = some (decide (x ∈ l)) := by
  unfold sl31Has_m sInstanceIndex_m
  rw [findL_ixF (y := x) fun k z => ⟨fun h => by simp [sInstanceIndex_L1, h], fun h => by simp [sInstanceIndex_L1, h]⟩, Option.bind_some, ixF_nonneg]
theorem iHas_eq (l : List Instance) (x : Instance) : slices_Contains_Instance_m l x = some (decide (x ∈ l)) := by
  unfold slices_Contains_Instance_m slices_Index_Instance_m
  rw [findL_ixF (y := x) fun k z => ⟨fun h => by simp [slices_Index_Instance_L1, h], fun h => by simp [slices_Index_Instance_L1, Ne.symm h]⟩, Option.bind_some, ixF_nonneg]
/-- the last use by the reference -/
theorem sLastUse_eq (l : List TraceStep) (i : Nat) (hi : i < l.length) (hl : (l.length : Int) ≤ 9223372036854775807) : sLastUse_m l (i : Int) = some ((lastTo l i l.length : Nat) : Int) := by
  unfold sLastUse_m
  obtain ⟨a, ha⟩ : ∃ a, l[i]? = some a := ⟨_, List.getElem?_eq_getElem hi⟩
  rw [sl1In_eq, Option.bind_some, if_pos (by simp; omega), grd_pos (by constructor <;> omega), grd_pos (by omega)]
  have e1 : ((i : Int) + 1).toNat = i + 1 := by omega
  rw [e1]
  obtain ⟨s', h1, h2⟩ := eachN_ok (P := fun k (s : Int) => s = ((lastTo l i k : Nat) : Int)) (n := l.length - (i + 1)) (i := i + 1) (s := (i : Int)) (f := sLastUse_L1 l (i : Int)) (by rw [lastTo_low l i _ (Nat.le_refl _)]) fun k s hk hk2 hs => by
    obtain ⟨p, hp⟩ : ∃ p, l[k]? = some p := ⟨_, List.getElem?_eq_getElem (by omega)⟩
    unfold sLastUse_L1
    rw [hp, Option.bind_some, grd_pos (Int.natCast_nonneg _), Int.toNat_natCast, ha, Option.bind_some, sHas_eq, Option.bind_some]
    by_cases hm : a.At ∈ p.Inputs
    · rw [if_pos (by simp [hm]), lastTo_yes ha hp (by omega) hm]; exact ⟨_, rfl, rfl⟩
    · rw [if_neg (by simp [hm]), lastTo_no ha hp hm]; exact ⟨_, rfl, hs⟩
  rw [h1, Option.bind_some, h2, show i + 1 + (l.length - (i + 1)) = l.length by omega]
/-- and by the program -/
theorem ilastUse_eq (l : List TraceStep) (i : Nat) (hi : i < l.length) (hl : (l.length : Int) ≤ 9223372036854775807) : ilastUse_m l (i : Int) = some ((lastTo l i l.length : Nat) : Int) := by
  unfold ilastUse_m
  obtain ⟨a, ha⟩ : ∃ a, l[i]? = some a := ⟨_, List.getElem?_eq_getElem hi⟩
  have key : ∀ q, q ≤ l.length → i < q → iterO (ilastUse_L1 l (i : Int)) ((q : Int) - 1) = some (if lastTo l i q = i then .inl () else .inr ((lastTo l i q : Nat) : Int)) := by
    intro q
    induction q with
    | zero => intro _ h; omega
    | succ q ih =>
      intro hq hiq
      have e0 : ((q + 1 : Nat) : Int) - 1 = (q : Int) := by omega
      rw [e0]
      by_cases hiq2 : i < q
      · obtain ⟨p, hp⟩ : ∃ p, l[q]? = some p := ⟨_, List.getElem?_eq_getElem (by omega)⟩
        have e1 : ilastUse_L1 l (i : Int) (q : Int) = some (if a.At ∈ p.Inputs then .inr (.inr (q : Int)) else .inl ((q : Int) - 1)) := by
          unfold ilastUse_L1
          rw [if_pos (by omega), grd_pos (Int.natCast_nonneg _), Int.toNat_natCast, hp, Option.bind_some, grd_pos (Int.natCast_nonneg _), Int.toNat_natCast, ha, Option.bind_some, iHas_eq, Option.bind_some]
          by_cases hm : a.At ∈ p.Inputs
          · simp [hm]
          · simp only [hm, decide_false, Bool.false_eq_true, if_false]
            rw [grd_pos (by constructor <;> omega)]
        by_cases hm : a.At ∈ p.Inputs
        · rw [iterO_done (by rw [e1, if_pos hm]), lastTo_yes ha hp hiq2 hm, if_neg (by omega)]
        · rw [iterO_next (by rw [e1, if_neg hm]), lastTo_no ha hp hm]
          exact ih (by omega) hiq2
      · have : q = i := by omega
        subst this
        rw [iterO_done (r := .inl ()) (by unfold ilastUse_L1; rw [if_neg (by omega)]), lastTo_low l q _ (Nat.le_refl _), if_pos rfl]
  rw [key l.length (Nat.le_refl _) hi, Option.bind_some]
  by_cases h : lastTo l i l.length = i
  · rw [if_pos h, h]; rfl
  · rw [if_neg h]; rfl
/-- two steps share a cell, and the first is still needed -/
def clash (t : List TraceStep) (keep : List Instance) (c : List Int) (i k : Nat) : Prop := i < k ∧ k < c.length ∧ c[i]? = c[k]? ∧ (k < lastTo t i t.length ∨ ∃ a, t[i]? = some a ∧ a.At ∈ keep)
theorem sCheck_eq (t : List TraceStep) (keep : List Instance) (c : List Int) (hl : (t.length : Int) ≤ 9223372036854775807) :
    ∃ b, sCheckSlots_m t keep c = some b ∧ (b = true ↔ c.length = t.length ∧ (∀ x ∈ c, 0 ≤ x) ∧ ∀ i k, ¬ clash t keep c i k) := by
  unfold sCheckSlots_m
  by_cases h0 : (c.length : Int) = (t.length : Int)
  · have h0' : c.length = t.length := by omega
    rw [if_pos h0]
    have key := findL_any (c := false) (xs := c) (i := 0) (p := fun k x => x < 0 ∨ ∃ i, clash t keep c i k) (f := sCheckSlots_L1 t keep c) fun k x hx => by
      simp only [Nat.zero_add]
      have hk := lt_of hx
      unfold sCheckSlots_L1
      by_cases hx0 : x < 0
      · exact ⟨fun _ => by rw [if_pos hx0], fun h => absurd (.inl hx0) h⟩
      · rw [if_neg hx0]
        have k2 := findN_any (c := false) (n := k) (i := 0) (p := fun i => clash t keep c i k) (f := sCheckSlots_L2 t keep c k x) fun i hi => by
          simp only [Nat.zero_add]
          obtain ⟨y, hy⟩ : ∃ y, c[i]? = some y := ⟨_, List.getElem?_eq_getElem (by omega)⟩
          obtain ⟨a, ha⟩ : ∃ a, t[i]? = some a := ⟨_, List.getElem?_eq_getElem (by omega)⟩
          unfold sCheckSlots_L2
          rw [hy, Option.bind_some]
          by_cases hyx : y = x
          · subst hyx
            rw [if_pos rfl, sLastUse_eq t i (by omega) hl, Option.bind_some]
            by_cases hlu : k < lastTo t i t.length
            · rw [if_pos (by omega)]
              exact ⟨fun _ => rfl, fun h => absurd ⟨hi, hk, by rw [hy, hx], .inl hlu⟩ h⟩
            · rw [if_neg (by omega), ha, Option.bind_some, sHas_eq, Option.bind_some]
              by_cases hm : a.At ∈ keep
              · rw [if_pos (by simp [hm])]
                exact ⟨fun _ => rfl, fun h => absurd ⟨hi, hk, by rw [hy, hx], .inr ⟨a, ha, hm⟩⟩ h⟩
              · rw [if_neg (by simp [hm])]
                refine ⟨fun h => ?_, fun _ => rfl⟩
                rcases h.2.2.2 with h | ⟨a', ha', hm'⟩
                · exact absurd h hlu
                · rw [ha] at ha'; cases ha'; exact absurd hm' hm
          · rw [if_neg hyx]
            refine ⟨fun h => ?_, fun _ => rfl⟩
            have := h.2.2.1
            rw [hy, hx] at this
            exact absurd (Option.some.inj this) hyx
        simp only [Nat.zero_add] at k2
        refine ⟨fun h => ?_, fun h => ?_⟩
        · obtain ⟨i, hc⟩ := h.resolve_left hx0
          rw [k2.1 ⟨i, hc.1, hc⟩]; rfl
        · rw [k2.2 fun i hi hc => h (.inr ⟨i, hc⟩)]; rfl
    simp only [Nat.zero_add] at key
    by_cases hb : ∃ k x, c[k]? = some x ∧ (x < 0 ∨ ∃ i, clash t keep c i k)
    · refine ⟨false, by rw [key.1 hb]; rfl, ?_⟩
      simp only [Bool.false_eq_true, false_iff]
      rintro ⟨_, h1, h2⟩
      obtain ⟨k, x, hx, h | ⟨i, h⟩⟩ := hb
      · have := h1 x (List.mem_of_getElem? hx); omega
      · exact h2 i k h
    · refine ⟨true, by rw [key.2 fun k x hx hn => hb ⟨k, x, hx, hn⟩]; rfl, ?_⟩
      simp only [true_iff]
      refine ⟨h0', fun x hx => ?_, fun i k h => ?_⟩
      · obtain ⟨k, hk⟩ := List.getElem?_of_mem hx
        exact Classical.byContradiction fun hn => hb ⟨k, x, hk, .inl (by omega)⟩
      · exact hb ⟨k, _, List.getElem?_eq_getElem h.2.1, .inr ⟨i, h⟩⟩
  · rw [if_neg h0]
    exact ⟨false, rfl, by simp; intro h; omega⟩
theorem ixF_drop {c : List Int} {j : Nat} {x : Int} (h : 0 ≤ ixF (c.drop j) x) : ∃ m : Nat, ixF (c.drop j) x = (m : Int) ∧ c[j + m]? = some x ∧ ∀ q, q < m → c[j + q]? ≠ some x := by
  unfold ixF at h ⊢
  by_cases hm : x ∈ c.drop j
  · rw [if_pos hm]
    refine ⟨_, rfl, ?_, fun q hq he => ?_⟩
    · rw [← List.getElem?_drop]
      rw [List.getElem?_eq_getElem (List.idxOf_lt_length_of_mem hm)]
      simp
    · rw [← List.getElem?_drop] at he
      obtain ⟨hq2, he⟩ := List.getElem?_eq_some_iff.1 he
      have := List.not_of_lt_findIdx (p := (· == x)) (xs := c.drop j) (i := q) (by simpa [List.idxOf] using hq)
      simp [he] at this
  · rw [if_neg hm] at h; omega
theorem iCheck_eq (t : List TraceStep) (keep : List Instance) (c : List Int) (hl : (t.length : Int) ≤ 9223372036854775807) :
    ∃ b, iCheckSlots_m t keep c = some b ∧ (b = true ↔ c.length = t.length ∧ (∀ x ∈ c, 0 ≤ x) ∧ ∀ i k, ¬ clash t keep c i k) := by
  unfold iCheckSlots_m
  by_cases h0 : (c.length : Int) = (t.length : Int)
  · have h0' : c.length = t.length := by omega
    rw [if_pos h0]
    have hneg : ∀ (xs : List Int) (i : Nat), ∃ z, findL slices_IndexFunc_int_iCheckSlots_1_L1 i xs () = some z ∧ ((∃ x ∈ xs, x < 0) → ∃ k : Nat, z = .inr (k : Int)) ∧ ((∀ x ∈ xs, 0 ≤ x) → z = .inl ()) := by
      intro xs
      induction xs with
      | nil => intro i; exact ⟨_, rfl, by simp, by simp⟩
      | cons x xs ih =>
        intro i
        simp only [findL, slices_IndexFunc_int_iCheckSlots_1_L1, iCheckSlots_1_m, Option.bind_some, decide_eq_true_eq]
        by_cases hx : x < 0
        · rw [if_pos hx]
          exact ⟨_, rfl, fun _ => ⟨i, rfl⟩, fun h => by have := h x (by simp); omega⟩
        · rw [if_neg hx]
          obtain ⟨z, h1, h2, h3⟩ := ih (i + 1)
          refine ⟨z, h1, fun ⟨y, hy, hn⟩ => h2 ?_, fun h => h3 fun y hy => h y (by simp [hy])⟩
          rcases List.mem_cons.1 hy with rfl | hy
          · exact absurd hn hx
          · exact ⟨y, hy, hn⟩
    unfold slices_ContainsFunc_int_iCheckSlots_1_m slices_IndexFunc_int_iCheckSlots_1_m
    obtain ⟨z, hz, hz1, hz2⟩ := hneg c 0
    rw [hz]
    by_cases hn : ∃ x ∈ c, x < 0
    · obtain ⟨k, rfl⟩ := hz1 hn
      refine ⟨false, by simp, ?_⟩
      simp only [Bool.false_eq_true, false_iff]
      rintro ⟨_, h1, _⟩
      obtain ⟨x, hx, hx0⟩ := hn
      have := h1 x hx; omega
    · have hpos : ∀ x ∈ c, 0 ≤ x := fun x hx => Classical.byContradiction fun h => hn ⟨x, hx, by omega⟩
      rw [hz2 hpos]
      simp only [Option.bind_some, show decide ((0 : Int) ≤ -1) = false from rfl, Bool.false_eq_true, if_false]
      have key := findL_any (c := false) (xs := t) (i := 0) (p := fun i _ => ∃ k, clash t keep c i k) (f := iCheckSlots_L1 t keep c) fun i a ha => by
        simp only [Nat.zero_add]
        have hi := lt_of ha
        obtain ⟨x, hx⟩ : ∃ x, c[i]? = some x := ⟨_, List.getElem?_eq_getElem (by omega)⟩
        unfold iCheckSlots_L1
        rw [grd_pos (by omega), hx, Option.bind_some]
        have hix : slices_Index_int_m (c.drop (i + 1)) x = some (ixF (c.drop (i + 1)) x) := by
          unfold slices_Index_int_m
          exact findL_ixF (y := x) fun k z => ⟨fun h => by simp [slices_Index_int_L1, h], fun h => by simp [slices_Index_int_L1, Ne.symm h]⟩
        rw [hix, Option.bind_some]
        by_cases hy : 0 ≤ ixF (c.drop (i + 1)) x
        · obtain ⟨m, hm, hm1, hm2⟩ := ixF_drop hy
          rw [if_pos hy, ilastUse_eq t i (by omega) hl, Option.bind_some, hm]
          have hlt := lt_of hm1
          have hr := lastTo_range t i t.length
          rw [grd_pos (by constructor <;> omega)]
          by_cases hlu : i + 1 + m < lastTo t i t.length
          · rw [if_pos (by omega)]
            exact ⟨fun _ => rfl, fun h => absurd ⟨i + 1 + m, by omega, hlt, by rw [hx, hm1], .inl hlu⟩ h⟩
          · rw [if_neg (by omega), iHas_eq, Option.bind_some]
            by_cases hk : a.At ∈ keep
            · rw [if_pos (by simp [hk])]
              exact ⟨fun _ => rfl, fun h => absurd ⟨i + 1 + m, by omega, hlt, by rw [hx, hm1], .inr ⟨a, ha, hk⟩⟩ h⟩
            · rw [if_neg (by simp [hk])]
              refine ⟨fun ⟨k, hc⟩ => ?_, fun _ => rfl⟩
              have hge : i + 1 + m ≤ k := Classical.byContradiction fun hlt2 => by
                have := hm2 (k - (i + 1)) (by have := hc.1; omega)
                rw [show i + 1 + (k - (i + 1)) = k by have := hc.1; omega, ← hc.2.2.1, hx] at this
                exact this rfl
              rcases hc.2.2.2 with h | ⟨a', ha', h⟩
              · omega
              · rw [ha] at ha'; cases ha'; exact absurd h hk
        · rw [if_neg hy]
          refine ⟨fun ⟨k, hc⟩ => ?_, fun _ => rfl⟩
          refine absurd ?_ hy
          have hmem : x ∈ c.drop (i + 1) := by
            have : (c.drop (i + 1))[k - (i + 1)]? = some x := by
              rw [List.getElem?_drop, show i + 1 + (k - (i + 1)) = k by have := hc.1; omega, ← hc.2.2.1, hx]
            exact List.mem_of_getElem? this
          unfold ixF
          rw [if_pos hmem]
          exact Int.natCast_nonneg _
      simp only [Nat.zero_add] at key
      by_cases hb : ∃ i a, t[i]? = some a ∧ ∃ k, clash t keep c i k
      · refine ⟨false, by rw [key.1 hb]; rfl, ?_⟩
        simp only [Bool.false_eq_true, false_iff]
        rintro ⟨_, _, h2⟩
        obtain ⟨i, a, _, k, h⟩ := hb
        exact h2 i k h
      · refine ⟨true, by rw [key.2 fun i a ha hn => hb ⟨i, a, ha, hn⟩]; rfl, ?_⟩
        simp only [true_iff]
        refine ⟨h0', hpos, fun i k h => hb ⟨i, _, List.getElem?_eq_getElem (by have := h.1; have := h.2.1; omega), k, h⟩⟩
  · rw [if_neg h0]
    exact ⟨false, rfl, by simp; intro h; omega⟩
theorem check_same (t : List TraceStep) (keep : List Instance) (c : List Int) (hl : (t.length : Int) ≤ 9223372036854775807) : ∃ b, sCheckSlots_m t keep c = some b ∧ iCheckSlots_m t keep c = some b := by
  obtain ⟨b, h1, h2⟩ := sCheck_eq t keep c hl
  obtain ⟨b', h3, h4⟩ := iCheck_eq t keep c hl
  exact ⟨b, h1, by rw [h3]; congr 1; exact Bool.eq_iff_iff.2 (h4.trans h2.symm)⟩
end Go.Proofs.Ytaenbhfjiihhnaa
namespace Go.Proofs.Ytaenbhfjiihhnaa
open Go Go.E
theorem cnt_project (r : Relation) (l : List Int) : MkT.cntT ((sProjectRelation_m r l).getD ⟨0, []⟩) ≤ 1048576 := by
  obtain ⟨x, hx, h⟩ := sProject_some r l
  rw [hx]
  show cntL x.Rows ≤ _
  rw [cntL_length]; omega
theorem cnt_ints (l : List Int) (h : szL l ≤ 1048576) : cntL l ≤ 1048576 := by
  rw [cntL_length]; exact Nat.le_trans (szL_length l) h
end Go.Proofs.Ytaenbhfjiihhnaa
