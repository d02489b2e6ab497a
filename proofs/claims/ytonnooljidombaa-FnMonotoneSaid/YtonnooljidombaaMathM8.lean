/- What those partial functions come to: plain lemmas on data; each bears its conditions in its statement. -/
import Derived.Test.YtonnooljidombaaMathM6
set_option linter.unusedVariables false
set_option linter.unusedSimpArgs false
set_option linter.ambiguousOpen false
set_option linter.unusedSectionVars false
set_option linter.unnecessarySimpa false
set_option linter.unusedVariables false
set_option linter.unusedSimpArgs false
namespace Go.Proofs.Ytonnooljidombaa
open Go Go.E
/-- does the expression use one of the list? -/
def usesB (e : Expr) (list : List Occurrence) : Bool := (usesE e).any fun o => list.contains o
theorem contains_eq (list : List Occurrence) (o : Occurrence) : slices_Contains_Occurrence_m list o = some (list.contains o) := by
  have h : slices_Index_Occurrence_m list o = some (ixF list o) := by
    unfold slices_Index_Occurrence_m
    refine findL_ixF fun k x => ⟨fun e => ?_, fun e => ?_⟩
    · unfold slices_Index_Occurrence_L1; rw [if_pos e.symm]
    · unfold slices_Index_Occurrence_L1; rw [if_neg (fun h => e h.symm)]
  unfold slices_Contains_Occurrence_m
  rw [h, Option.bind_some]
  congr 1
  unfold ixF
  by_cases hm : o ∈ list
  · rw [if_pos hm]; simp [hm]
  · rw [if_neg hm]; simp [hm]
theorem iUses_eq {e : Expr} {list : List Occurrence} (h : Sz.szd e ≤ 1048576) : iUsesAny_m e list = some (usesB e list) := by
  unfold iUsesAny_m
  rw [iAttr_eq h, Option.bind_some]
  have hw : ∀ o, iUsesAny_1_m o list = some (list.contains o) := fun o => by unfold iUsesAny_1_m; rw [contains_eq]; rfl
  have hcf : slices_ContainsFunc_Occurrence_iUsesAny_1_m (attrs e) list = some (usesB e list) := by
    have key : ∀ (l : List Occurrence) (i : Nat), (l.any fun o => list.contains o) = true → ∃ k : Nat, findL (slices_IndexFunc_Occurrence_iUsesAny_1_L1 list) i l () = some (.inr (k : Int)) := by
      intro l
      induction l with
      | nil => intro i h; simp at h
      | cons x l ih =>
        intro i h
        by_cases hx : list.contains x = true
        · exact ⟨i, by simp only [findL, slices_IndexFunc_Occurrence_iUsesAny_1_L1, hw, Option.bind_some, hx, if_true]⟩
        · obtain ⟨k, hk⟩ := ih (i + 1) (by simp only [List.any_cons, Bool.or_eq_true] at h; exact h.resolve_left hx)
          exact ⟨k, by simp only [findL, slices_IndexFunc_Occurrence_iUsesAny_1_L1, hw, Option.bind_some, hx, if_false]; exact hk⟩
    have key2 : ∀ (l : List Occurrence) (i : Nat), (l.any fun o => list.contains o) = false → findL (slices_IndexFunc_Occurrence_iUsesAny_1_L1 list) i l () = some (.inl ()) := by
      intro l
      induction l with
      | nil => intro i _; rfl
      | cons x l ih =>
        intro i h
        simp only [List.any_cons, Bool.or_eq_false_iff] at h
        simp only [findL, slices_IndexFunc_Occurrence_iUsesAny_1_L1, hw, Option.bind_some, h.1, Bool.false_eq_true, if_false]
        exact ih _ h.2
    have hab : (attrs e).any (fun o => list.contains o) = usesB e list := by
      unfold usesB
      rw [Bool.eq_iff_iff, List.any_eq_true, List.any_eq_true]
      exact ⟨fun ⟨o, h1, h2⟩ => ⟨o, mem_attrs.1 h1, h2⟩, fun ⟨o, h1, h2⟩ => ⟨o, mem_attrs.2 h1, h2⟩⟩
    unfold slices_ContainsFunc_Occurrence_iUsesAny_1_m slices_IndexFunc_Occurrence_iUsesAny_1_m
    cases hu : usesB e list with
    | true =>
      obtain ⟨k, hk⟩ := key (attrs e) 0 (by rw [hab, hu])
      rw [hk]
      show some (decide ((0 : Int) ≤ (k : Int))) = _
      simp
    | false =>
      rw [key2 (attrs e) 0 (by rw [hab, hu])]; rfl
  rw [hcf]; rfl
theorem hasAt_eq (list : List Occurrence) (o : Occurrence) : sl11HasAt_m list o = some (list.contains o) := by
  unfold sl11HasAt_m
  have key : ∀ (l : List Occurrence) (i : Nat), findL (sl11HasAt_L1 o) i l () = some (if l.contains o = true then .inr true else .inl ()) := by
    intro l
    induction l with
    | nil => intro i; rfl
    | cons x l ih =>
      intro i
      by_cases hx : x = o
      · subst hx; simp [findL, sl11HasAt_L1]
      · have hx' : ¬ o = x := fun e => hx e.symm
        simp [findL, sl11HasAt_L1, hx, ih, hx']
  rw [key]
  cases list.contains o <;> rfl
theorem usesB_eq (e : Expr) (list : List Occurrence) : usesB e list = ((decide (e.Kind = 3) && list.contains ⟨e.Pos, e.Name⟩) || e.Args.any fun x => usesB x list) := by
  unfold usesB
  rw [usesE_eq, List.any_append]
  congr 1
  · by_cases hk : e.Kind = 3 <;> simp [hk]
  · rw [Bool.eq_iff_iff, List.any_eq_true, List.any_eq_true]
    constructor
    · rintro ⟨o, h1, h2⟩
      obtain ⟨x, h3, h4⟩ := mem_usesEs.1 h1
      exact ⟨x, h3, List.any_eq_true.2 ⟨o, h4, h2⟩⟩
    · rintro ⟨x, h1, h2⟩
      obtain ⟨o, h3, h4⟩ := List.any_eq_true.1 h2
      exact ⟨o, mem_usesEs.2 ⟨x, h1, h3⟩, h4⟩
theorem sUses_sound : ∀ (m : Nat) (e : Expr) (list : List Occurrence) (q : Bool), sUsesAny_n m e list = some q → q = usesB e list := by
  intro m
  induction m with
  | zero => intro e list q h; cases h
  | succ m ih =>
    intro e list q h
    have hl : ∀ (f : Nat → Expr → Unit → Option (Unit ⊕ Bool)) (hf : ∀ k x, f k x () = (sUsesAny_n m x list).bind fun y2 => if y2 = true then some (.inr true) else some (.inl ())) (l : List Expr) (i : Nat) (q : Unit ⊕ Bool), findL f i l () = some q → q = if (l.any fun x => usesB x list) = true then .inr true else .inl () := by
      intro f hf l
      induction l with
      | nil => intro i q h; simp [findL] at h; simp [← h]
      | cons x l ihl =>
        intro i q h
        cases hx : sUsesAny_n m x list with
        | none => simp [findL, hf, hx] at h
        | some r =>
          have hr := ih x list r hx
          cases r with
          | true => simp [findL, hf, hx] at h; simp [← h, ← hr]
          | false =>
            simp only [findL, hf, hx, Option.bind_some, Bool.false_eq_true, if_false] at h
            rw [ihl _ _ h]; simp [← hr]
    have hB : sUsesAny_B (sUsesAny_n m) e list = some q := h
    unfold sUsesAny_B at hB
    rw [usesB_eq]
    by_cases hk : e.Kind = 3
    · rw [if_pos hk, hasAt_eq, Option.bind_some] at hB
      by_cases hc : list.contains (⟨e.Pos, e.Name⟩ : Occurrence) = true
      · rw [if_pos hc] at hB; cases hB; simp only [hk, hc, decide_true, Bool.and_self, Bool.true_or]
      · rw [if_neg hc] at hB
        obtain ⟨r, h1, h2⟩ := bd hB
        have := hl _ (fun k x => rfl) _ _ _ h1
        subst this
        have hc' : list.contains (⟨e.Pos, e.Name⟩ : Occurrence) = false := by simpa using hc
        rw [hc', Bool.and_false, Bool.false_or]
        split at h2 <;> rename_i ha
        · cases h2; exact ha.symm
        · cases h2; simpa using ha
    · rw [if_neg hk] at hB
      obtain ⟨r, h1, h2⟩ := bd hB
      have := hl _ (fun k x => rfl) _ _ _ h1
      subst this
      rw [decide_eq_false hk, Bool.false_and, Bool.false_or]
      split at h2 <;> rename_i ha
      · cases h2; exact ha.symm
      · cases h2; simpa using ha
theorem sUses_total : ∀ (m : Nat) (e : Expr) (list : List Occurrence), fuE e ≤ m → ∃ q, sUsesAny_n m e list = some q := by
  intro m
  induction m with
  | zero => intro e list h; rw [fuE_eq] at h; omega
  | succ m ih =>
    intro e list h
    rw [fuE_eq] at h
    have hl : ∀ (f : Nat → Expr → Unit → Option (Unit ⊕ Bool)) (hf : ∀ k x, f k x () = (sUsesAny_n m x list).bind fun y2 => if y2 = true then some (.inr true) else some (.inl ())) (l : List Expr) (i : Nat), fuEs l ≤ m → ∃ q, findL f i l () = some q := by
      intro f hf l
      induction l with
      | nil => intro i _; exact ⟨_, rfl⟩
      | cons x l ihl =>
        intro i hm
        simp only [fuEs] at hm
        obtain ⟨r, hr⟩ := ih x list (by omega)
        cases r with
        | true => exact ⟨.inr true, by simp [findL, hf, hr]⟩
        | false => obtain ⟨q, hq⟩ := ihl (i + 1) (by omega); exact ⟨q, by simp [findL, hf, hr, hq]⟩
    show ∃ q, sUsesAny_B (sUsesAny_n m) e list = some q
    unfold sUsesAny_B
    by_cases hk : e.Kind = 3
    · rw [if_pos hk, hasAt_eq, Option.bind_some]
      by_cases hc : list.contains (⟨e.Pos, e.Name⟩ : Occurrence) = true
      · exact ⟨true, by rw [if_pos hc]⟩
      · rw [if_neg hc]
        obtain ⟨q, hq⟩ := hl (sUsesAny_L1 (sUsesAny_n m) list) (fun k x => rfl) e.Args 0 (by omega)
        rw [hq]
        cases q with
        | inl u => exact ⟨false, rfl⟩
        | inr b => exact ⟨b, rfl⟩
    · rw [if_neg hk]
      obtain ⟨q, hq⟩ := hl (sUsesAny_L2 (sUsesAny_n m) list) (fun k x => rfl) e.Args 0 (by omega)
      rw [hq]
      cases q with
      | inl u => exact ⟨false, rfl⟩
      | inr b => exact ⟨b, rfl⟩
theorem sUses_eq (e : Expr) (list : List Occurrence) : sUsesAny_m e list = some (usesB e list) := by
  refine recO_ev (fuE e) fun m hm => ?_
  obtain ⟨q, hq⟩ := sUses_total m e list hm
  have := sUses_sound _ _ _ _ hq
  subst this
  exact hq
end Go.Proofs.Ytonnooljidombaa

