/- What those partial functions come to: plain lemmas on data; each bears its conditions in its statement. -/
import Derived.Test.YtonnooljidombaaGreatMathM7z
set_option linter.unusedVariables false
set_option linter.unusedSimpArgs false
set_option linter.ambiguousOpen false
set_option linter.unusedSectionVars false
set_option linter.unnecessarySimpa false
set_option linter.unusedVariables false
set_option linter.unusedSimpArgs false
namespace Go.Proofs.YtonnooljidombaaGreat
open Go Go.E
/-! ### what the checker of a rule's plan asks -/
theorem findL_all {α ρ : Type} {c : ρ} {q : α → Bool} : ∀ {xs : List α} {i : Nat} {f : Nat → α → Unit → Option (Unit ⊕ ρ)}, (∀ k x, x ∈ xs → f k x () = some (if q x = true then .inl () else .inr c)) → findL f i xs () = some (if xs.all q = true then .inl () else .inr c)
  | [], i, f, _ => rfl
  | x :: xs, i, f, h => by
    rw [findL, h i x List.mem_cons_self, Option.bind_some]
    cases hq : q x with
    | true =>
      show findL f (i + 1) xs () = _
      rw [findL_all fun k y hy => h k y (List.mem_cons_of_mem _ hy)]
      simp [hq]
    | false => simp [hq]
theorem findL_idx {α : Type} {q : α → Bool} : ∀ {xs : List α} {i : Nat} {f : Nat → α → Unit → Option (Unit ⊕ Int)}, (∀ k x, x ∈ xs → f k x () = some (if q x = true then .inr (k : Int) else .inl ())) →
    ∃ z : Int, (findL f i xs ()).bind (onr (fun r1 => some r1) fun _ => some (-1)) = some z ∧ decide (0 ≤ z) = xs.any q
  | [], i, f, _ => ⟨-1, rfl, rfl⟩
  | x :: xs, i, f, h => by
    rw [findL, h i x List.mem_cons_self, Option.bind_some]
    cases hq : q x with
    | true => exact ⟨(i : Int), rfl, by simp [hq]⟩
    | false =>
      obtain ⟨z, h1, h2⟩ := findL_idx (xs := xs) (i := i + 1) fun k y hy => h k y (List.mem_cons_of_mem _ hy)
      exact ⟨z, h1, by simp [hq, h2]⟩
theorem findL_tot {α ρ : Type} : ∀ {xs : List α} {i : Nat} {f : Nat → α → Unit → Option (Unit ⊕ ρ)}, (∀ k x, ∃ z, f k x () = some z) → ∃ z, findL f i xs () = some z
  | [], i, f, _ => ⟨_, rfl⟩
  | x :: xs, i, f, h => by
    obtain ⟨z, hz⟩ := h i x
    rw [findL, hz, Option.bind_some]
    cases z with
    | inl u => exact findL_tot (xs := xs) (i := i + 1) h
    | inr r => exact ⟨_, rfl⟩
theorem eachL_snoc {α β : Type} {g : α → β} {B : Nat} {f : Nat → α → List β → Option (List β)} (hf : ∀ k x s, s.length < B → f k x s = some (s ++ [g x])) : ∀ (xs : List α) (i : Nat) (s : List β), s.length + xs.length ≤ B → eachL f i xs s = some (s ++ xs.map g)
  | [], i, s, _ => by simp [eachL]
  | x :: xs, i, s, h => by
    simp only [List.length_cons] at h
    rw [eachL, hf i x s (by omega), Option.bind_some, eachL_snoc hf xs (i + 1) _ (by simp; omega)]
    simp
theorem symIx_same (g : Grammar) (n : ByteArray) : isymbolIndex_m g n = sl12At_m g n := by
  have e : slices_IndexFunc_Symbol_isymbolIndex_1_L1 n = sl12At_L1 n := by
    funext k x u
    unfold slices_IndexFunc_Symbol_isymbolIndex_1_L1 sl12At_L1 isymbolIndex_1_m
    rw [Option.bind_some]
    by_cases h : x.Name = n <;> simp [h]
  unfold isymbolIndex_m slices_IndexFunc_Symbol_isymbolIndex_1_m sl12At_m
  rw [e]
  exact Option.bind_fun_some _
theorem symIx_some (g : Grammar) (n : ByteArray) : ∃ k, sl12At_m g n = some k := by
  obtain ⟨z, hz⟩ := findL_tot (xs := g.Symbols) (i := 0) (f := sl12At_L1 n) fun k x => by
    unfold sl12At_L1; by_cases h : x.Name = n
    · exact ⟨_, if_pos h⟩
    · exact ⟨_, if_neg h⟩
  unfold sl12At_m
  rw [hz]
  cases z with
  | inl u => exact ⟨_, rfl⟩
  | inr r => exact ⟨_, rfl⟩
/-- the phases of a symbol -/
noncomputable def phS (g : Grammar) (ph : List (List Phase)) (n : ByteArray) : List Phase := (sl28Phases_m g ph n).getD []
theorem phS_eq (g : Grammar) (ph : List (List Phase)) (n : ByteArray) : sl28Phases_m g ph n = some (phS g ph n) ∧ (phS g ph n = [] ∨ phS g ph n ∈ ph) := by
  have : ∃ p, sl28Phases_m g ph n = some p ∧ (p = [] ∨ p ∈ ph) := by
    obtain ⟨k, hk⟩ := symIx_some g n
    unfold sl28Phases_m
    rw [hk, Option.bind_some, sIn_eq, Option.bind_some]
    by_cases h : 0 ≤ k ∧ k ≤ (ph.length : Int) - 1
    · rw [if_pos (by simpa using h), grd_pos h.1]
      obtain ⟨x, hx⟩ : ∃ x, ph[k.toNat]? = some x := ⟨_, List.getElem?_eq_getElem (by omega)⟩
      rw [hx]
      exact ⟨x, rfl, .inr (List.mem_of_getElem? hx)⟩
    · rw [if_neg (by simpa using h)]
      exact ⟨[], rfl, .inl rfl⟩
  obtain ⟨p, h1, h2⟩ := this
  unfold phS
  rw [h1]
  exact ⟨rfl, h2⟩
/-- the symbol at a position -/
noncomputable def symS (r : Rule) (k : Int) : ByteArray := (sSymbolAt_m r k).getD ⟨#[]⟩
theorem symS_eq {r : Rule} (hl : r.Right.length ≤ 1048576) (k : Int) : sSymbolAt_m r k = some (symS r k) := by
  have : ∃ x, sSymbolAt_m r k = some x := by
    unfold sSymbolAt_m
    by_cases h0 : k = 0
    · exact ⟨_, if_pos h0⟩
    · rw [if_neg h0, sIn_eq, Option.bind_some]
      by_cases h : 1 ≤ k ∧ k ≤ (r.Right.length : Int)
      · rw [if_pos (by simpa using h), grd_pos (by constructor <;> omega), grd_pos (by omega)]
        obtain ⟨x, hx⟩ : ∃ x, r.Right[(k - 1).toNat]? = some x := ⟨_, List.getElem?_eq_getElem (by omega)⟩
        exact ⟨x, by rw [hx]; rfl⟩
      · exact ⟨_, if_neg (by simpa using h)⟩
  obtain ⟨x, hx⟩ := this
  unfold symS
  rw [hx]; rfl
theorem symS_zero (r : Rule) : symS r 0 = r.Left := by unfold symS sSymbolAt_m; rw [if_pos rfl]; rfl
theorem symS_right {r : Rule} (hl : r.Right.length ≤ 1048576) {k : Int} (h1 : 1 ≤ k) (h2 : k ≤ (r.Right.length : Int)) : r.Right[(k - 1).toNat]? = some (symS r k) := by
  obtain ⟨x, hx⟩ : ∃ x, r.Right[(k - 1).toNat]? = some x := ⟨_, List.getElem?_eq_getElem (by omega)⟩
  unfold symS sSymbolAt_m
  rw [if_neg (by omega), sIn_eq, Option.bind_some, if_pos (by simp; omega), grd_pos (by constructor <;> omega), grd_pos (by omega), hx]; rfl
noncomputable def phP (g : Grammar) (ph : List (List Phase)) (r : Rule) (k : Int) : List Phase := phS g ph (symS r k)
theorem phasesAt_eq {g : Grammar} {ph : List (List Phase)} {r : Rule} (hl : r.Right.length ≤ 1048576) (due K : List Occurrence) (V : List Int) (k : Int) : ivisits_phasesAt_m ⟨g, ph, r, due, K, V⟩ k = some (phP g ph r k) := by
  unfold ivisits_phasesAt_m
  dsimp only
  rw [symAt_same, symS_eq hl, Option.bind_some, symIx_same]
  have h := (phS_eq g ph (symS r k)).1
  unfold sl28Phases_m at h
  obtain ⟨j, hj⟩ := symIx_some g (symS r k)
  rw [hj, Option.bind_some, sIn_eq] at h
  rw [hj, Option.bind_some, iIn_eq]
  exact h
theorem phasesAt_v2 (k : Int) (o : visits) : ivisits_phasesAt_v2_m k o = ivisits_phasesAt_m o k := rfl
theorem sHas_eq (K : List Occurrence) (o : Occurrence) : sl11HasAt_m K o = some (decide (o ∈ K)) := by
  unfold sl11HasAt_m
  have hany := findL_any (c := true) (xs := K) (i := 0) (p := fun _ x => x = o) (f := sl11HasAt_L1 o) fun k x _ => by
    unfold sl11HasAt_L1
    exact ⟨fun h => if_pos h, fun h => if_neg h⟩
  by_cases h : o ∈ K
  · obtain ⟨j, hj, e⟩ := List.getElem_of_mem h
    rw [hany.1 ⟨j, o, by rw [List.getElem?_eq_getElem hj, e], rfl⟩, decide_eq_true h]; rfl
  · rw [hany.2 fun k x hx e => h (e ▸ List.mem_of_getElem? hx), decide_eq_false h]; rfl
theorem iHas_eq (K : List Occurrence) (o : Occurrence) : slices_Contains_Occurrence_m K o = some (decide (o ∈ K)) := by
  unfold slices_Contains_Occurrence_m slices_Index_Occurrence_m
  obtain ⟨z, h1, h2⟩ := findL_idx (q := fun x => decide (x = o)) (xs := K) (i := 0) (f := slices_Index_Occurrence_L1 o) fun k x _ => by
    unfold slices_Index_Occurrence_L1
    by_cases h : x = o
    · rw [if_pos h.symm, decide_eq_true h, if_pos rfl]
    · rw [if_neg (fun e => h e.symm), decide_eq_false h, if_neg (by simp)]
  rw [h1, Option.bind_some, h2]
  congr 1
  by_cases h : o ∈ K
  · rw [decide_eq_true h, List.any_eq_true]; exact ⟨o, h, by simp⟩
  · rw [decide_eq_false h]
    rw [List.any_eq_false]
    intro x hx e
    exact h (of_decide_eq_true e ▸ hx)
def knowsB (K : List Occurrence) (pos : Int) (names : List ByteArray) : Bool := names.all fun n => decide ((⟨pos, n⟩ : Occurrence) ∈ K)
theorem all_any {α : Type} (q : α → Bool) (xs : List α) : (!xs.any fun x => !q x) = xs.all q := by
  induction xs with
  | nil => rfl
  | cons x xs ih => simp only [List.any_cons, List.all_cons, ← ih]; cases q x <;> simp
theorem sKnows_eq (z : l28Work) (pos : Int) (names : List ByteArray) : sl28Knows_m z pos names = some (knowsB z.known pos names) := by
  unfold sl28Knows_m knowsB
  rw [findL_all (c := false) (q := fun n => decide ((⟨pos, n⟩ : Occurrence) ∈ z.known)) fun k x _ => by
    unfold sl28Knows_L1
    rw [sHas_eq, Option.bind_some]
    by_cases h : (⟨pos, x⟩ : Occurrence) ∈ z.known <;> simp [h]]
  cases names.all fun n => decide ((⟨pos, n⟩ : Occurrence) ∈ z.known) <;> rfl
theorem iKnows_eq (v : visits) (pos : Int) (names : List ByteArray) : ivisits_knows_m v pos names = some (knowsB v.known pos names) := by
  unfold ivisits_knows_m slices_ContainsFunc_string_ivisits_knows_1_m slices_IndexFunc_string_ivisits_knows_1_m
  obtain ⟨z, h1, h2⟩ := findL_idx (q := fun n => !decide ((⟨pos, n⟩ : Occurrence) ∈ v.known)) (xs := names) (i := 0) (f := slices_IndexFunc_string_ivisits_knows_1_L1 v pos) fun k x _ => by
    unfold slices_IndexFunc_string_ivisits_knows_1_L1 ivisits_knows_1_m
    rw [iHas_eq, Option.bind_some, Option.bind_some]
    split <;> rfl
  rw [h1, Option.bind_some, h2, Option.bind_some, all_any]
  rfl
theorem sLearn_eq {z : l28Work} (pos : Int) (names : List ByteArray) (h : z.known.length + names.length ≤ 4398046511104) : sl28Learn_m pos names z = some ⟨z.g, z.r, z.phases, z.known ++ names.map (fun n => (⟨pos, n⟩ : Occurrence)), z.visits, z.steps⟩ := by
  unfold sl28Learn_m
  rw [eachL_snoc (g := fun n => (⟨pos, n⟩ : Occurrence)) (B := 4398046511104) (fun k x s hs => by
    unfold sl28Learn_L1; rw [grd_pos (by constructor <;> omega)]; rfl) names 0 z.known h]; rfl
theorem iLearn_eq {v : visits} (pos : Int) (names : List ByteArray) (h : v.known.length + names.length ≤ 4398046511104) : ivisits_learn_m pos names v = some ⟨v.g, v.phases, v.r, v.due, v.known ++ names.map (fun n => (⟨pos, n⟩ : Occurrence)), v.next⟩ := by
  unfold ivisits_learn_m
  rw [eachL_snoc (g := fun n => (⟨pos, n⟩ : Occurrence)) (B := 4398046511104) (fun k x s hs => by
    unfold ivisits_learn_L1; rw [grd_pos (by constructor <;> omega)]) names 0 v.known h]; rfl
theorem req_both {g : Grammar} {r : Rule} (h : ∀ y ∈ g.Symbols, y.Attributes.length ≤ 1048576) (hr : r.Right.length ≤ 1048576) : ∃ l, sRequiredOccurrences_m g r = some l ∧ irequired_m g r = some l := by
  have in2 : ∀ (k : Nat) (p : List Attribute) (s : List Occurrence), s.length + p.length ≤ 4398046511104 → ∃ ys, eachL (irequired_L2 k) 0 p s = some (s ++ ys) ∧ ys.length ≤ p.length := fun k p s hs => by
    obtain ⟨ys, h1, h2⟩ := eachL_filter (p := fun x : Attribute => decide (x.Mode = 2)) (g := fun _ x => (⟨(k : Int), x.Name⟩ : Occurrence)) (B := 4398046511104) (f := irequired_L2 k) (fun j x s hs => by
      unfold irequired_L2
      by_cases hm : x.Mode = 2
      · rw [if_pos hm, if_pos (by simpa using hm), grd_pos (by constructor <;> omega)]; rfl
      · rw [if_neg hm, if_neg (by simpa using hm)]; rfl) p 0 s hs
    exact ⟨ys, h1, h2⟩
  have in3 : ∀ (k : Nat) (p : List Attribute) (s : List Occurrence), s.length + p.length ≤ 4398046511104 → ∃ ys, eachL (irequired_L3 k) 0 p s = some (s ++ ys) ∧ ys.length ≤ p.length := fun k p s hs => by
    obtain ⟨ys, h1, h2⟩ := eachL_filter (p := fun x : Attribute => decide (x.Mode = 1)) (g := fun _ x => (⟨(k : Int), x.Name⟩ : Occurrence)) (B := 4398046511104) (f := irequired_L3 k) (fun j x s hs => by
      unfold irequired_L3
      by_cases hm : x.Mode = 1
      · rw [if_pos hm, if_pos (by simpa using hm), grd_pos (by constructor <;> omega)]; rfl
      · rw [if_neg hm, if_neg (by simpa using hm)]; rfl) p 0 s hs
    exact ⟨ys, h1, h2⟩
  have s2 : ∀ k : Nat, sRequiredOccurrences_L2 (k : Int) = irequired_L2 k := fun _ => rfl
  have s3 : ∀ k : Nat, sRequiredOccurrences_L3 (k : Int) = irequired_L3 k := fun _ => rfl
  have key : ∀ m k (s : List Occurrence), k + m = r.Right.length + 1 → s.length ≤ k * 1048576 → ∃ l, eachN (irequired_L1 g r) k m s = some l ∧ iterO (sRequiredOccurrences_L1 g r) (s, (k : Int)) = some l := by
    intro m
    induction m with
    | zero =>
      intro k s hk hs
      refine ⟨s, rfl, iterO_done ?_⟩
      unfold sRequiredOccurrences_L1; dsimp only; rw [if_neg (by omega)]
    | succ m ih =>
      intro k s hk hs
      obtain ⟨x, hx⟩ := symAt_some r k (by omega) hr
      obtain ⟨y, b, f1, f2, f3⟩ := find_same h x
      have hst : ∃ ys, irequired_L1 g r k s = some (s ++ ys) ∧ sRequiredOccurrences_L1 g r (s, (k : Int)) = some (.inl (s ++ ys, ((k + 1 : Nat) : Int))) ∧ ys.length ≤ 1048576 := by
        by_cases h0 : (k : Int) = 0
        · obtain ⟨ys, hy1, hy2⟩ := in2 k y.Attributes s (by omega)
          refine ⟨ys, ?_, ?_, by omega⟩
          · unfold irequired_L1
            rw [if_pos h0, symAt_same, hx, Option.bind_some, f2, Option.bind_some]
            dsimp only
            rw [hy1]; rfl
          · unfold sRequiredOccurrences_L1
            dsimp only
            rw [if_pos (by omega), hx, Option.bind_some, f1, Option.bind_some]
            dsimp only
            rw [if_pos h0, s2, hy1, Option.bind_some, Option.bind_some, grd_pos (by constructor <;> omega)]; rfl
        · obtain ⟨ys, hy1, hy2⟩ := in3 k y.Attributes s (by omega)
          refine ⟨ys, ?_, ?_, by omega⟩
          · unfold irequired_L1
            rw [if_neg h0, symAt_same, hx, Option.bind_some, f2, Option.bind_some]
            dsimp only
            rw [hy1]; rfl
          · unfold sRequiredOccurrences_L1
            dsimp only
            rw [if_pos (by omega), hx, Option.bind_some, f1, Option.bind_some]
            dsimp only
            rw [if_neg h0, s3, hy1, Option.bind_some, Option.bind_some, grd_pos (by constructor <;> omega)]; rfl
      obtain ⟨ys, e1, e2, e3⟩ := hst
      obtain ⟨l, h1, h2⟩ := ih (k + 1) (s ++ ys) (by omega) (by simp; omega)
      refine ⟨l, ?_, ?_⟩
      · simp only [eachN, e1, Option.bind_some]; exact h1
      · rw [iterO_next e2]; exact h2
  obtain ⟨l, h1, h2⟩ := key (r.Right.length + 1) 0 [] (by omega) (by simp)
  refine ⟨l, ?_, ?_⟩
  · unfold sRequiredOccurrences_m
    have e : iterO (sRequiredOccurrences_L1 g r) (([] : List Occurrence), 0) = some l := h2
    rw [e]; rfl
  · unfold irequired_m
    rw [grd_pos (by constructor <;> omega), h1]; rfl
/-- are the inputs of an occurrence's equation known? -/
noncomputable def inputsB (r : Rule) (K : List Occurrence) (o : Occurrence) : Bool := (eqAt r o).2 && (attrs (eqAt r o).1).all fun u => decide (u ∈ K)
theorem sInputs_eq {z : l28Work} (h : Sz.szd z.r ≤ 1048576) (o : Occurrence) : sl28Inputs_m z o = some (inputsB z.r z.known o) := by
  unfold sl28Inputs_m inputsB
  rw [(find_eq h o).1, Option.bind_some]
  dsimp only
  rw [sAttr_eq (eqAt_sz h o), Option.bind_some, findL_all (c := false) (q := fun u => decide (u ∈ z.known)) fun k x _ => by
    unfold sl28Inputs_L1
    rw [sHas_eq, Option.bind_some]
    by_cases h : x ∈ z.known <;> simp [h]]
  cases (attrs (eqAt z.r o).1).all fun u => decide (u ∈ z.known) with
  | true => simp
  | false => simp
theorem mayEval_eq {v : visits} (h : Sz.szd v.r ≤ 1048576) (o : Occurrence) : ivisits_mayEval_m v o = some (decide (o ∈ v.due) && (!decide (o ∈ v.known) && inputsB v.r v.known o)) := by
  unfold ivisits_mayEval_m inputsB
  rw [iHas_eq, Option.bind_some]
  by_cases h1 : o ∈ v.due
  · rw [if_pos (by simpa using h1), iHas_eq, Option.bind_some]
    by_cases h2 : o ∈ v.known
    · rw [if_pos (by simpa using h2)]; simp [h2]
    · rw [if_neg (by simpa using h2), (find_eq h o).2, Option.bind_some]
      dsimp only
      cases h3 : (eqAt v.r o).2 with
      | false => simp
      | true =>
        rw [if_pos rfl, iAttr_eq (eqAt_sz h o), Option.bind_some]
        unfold slices_ContainsFunc_Occurrence_ivisits_mayEval_1_m slices_IndexFunc_Occurrence_ivisits_mayEval_1_m
        obtain ⟨z, e1, e2⟩ := findL_idx (q := fun u => !decide (u ∈ v.known)) (xs := attrs (eqAt v.r o).1) (i := 0) (f := slices_IndexFunc_Occurrence_ivisits_mayEval_1_L1 v) fun k x _ => by
          unfold slices_IndexFunc_Occurrence_ivisits_mayEval_1_L1 ivisits_mayEval_1_m
          rw [iHas_eq, Option.bind_some, Option.bind_some]
          split <;> rfl
        rw [e1, Option.bind_some, e2, Option.bind_some, all_any]
        simp [h1, h2]
  · rw [if_neg (by simpa using h1)]; simp [h1]
end Go.Proofs.YtonnooljidombaaGreat

