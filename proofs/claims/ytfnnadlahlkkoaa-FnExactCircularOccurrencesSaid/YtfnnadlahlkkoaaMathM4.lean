/- What those partial functions come to: plain lemmas on data; each bears its conditions in its statement. -/
import Derived.Test.YtfnnadlahlkkoaaMathM3
set_option linter.unusedVariables false
set_option linter.unusedSimpArgs false
set_option linter.ambiguousOpen false
set_option linter.unusedSectionVars false
set_option linter.unnecessarySimpa false
set_option linter.unusedVariables false
set_option linter.unusedSimpArgs false
namespace Go.Proofs.Ytfnnadlahlkkoaa
open Go Go.E
def Valid (r : Relation) : Prop := 0 ≤ r.N ∧ r.N ≤ 16 ∧ (r.Rows.length : Int) = r.N ∧ ∀ x ∈ r.Rows, 0 ≤ x ∧ x ≤ ((2 ^ r.N.toNat : Nat) : Int) - 1
instance (r : Relation) : Decidable (Valid r) := by unfold Valid; infer_instance
def rowAt (r : Relation) (i : Int) : Int := r.Rows.getD i.toNat 0
def bit (x : Int) (k : Int) : Prop := x.toNat >>> k.toNat &&& 1 = 1
instance (x k : Int) : Decidable (bit x k) := by unfold bit; infer_instance
def inN (r : Relation) (i : Int) : Prop := 0 ≤ i ∧ i ≤ r.N - 1
instance (r : Relation) (i : Int) : Decidable (inN r i) := by unfold inN; infer_instance
def hasP (r : Relation) (i k : Int) : Prop := Valid r ∧ inN r i ∧ inN r k ∧ bit (rowAt r i) k
instance (r : Relation) (i k : Int) : Decidable (hasP r i k) := by unfold hasP; infer_instance
def withRow (r : Relation) (i : Int) (x : Int) : Relation := ⟨r.N, r.Rows.set i.toNat x⟩
def orI (x y : Int) : Int := ((x.toNat ||| y.toNat : Nat) : Int)
def addP (r : Relation) (i k : Int) : Relation := if Valid r ∧ inN r i ∧ inN r k then withRow r i (orI (rowAt r i) ((2 ^ k.toNat : Nat) : Int)) else r
theorem Valid.row {r : Relation} (h : Valid r) {i : Int} (hi : inN r i) {x : Int} (hx : r.Rows[i.toNat]? = some x) : rowAt r i = x ∧ 0 ≤ x ∧ x ≤ 65535 := by
  have hm := h.2.2.2 x (List.mem_of_getElem? hx)
  have hp : 2 ^ r.N.toNat ≤ 2 ^ 16 := Nat.pow_le_pow_right (by decide) (by have := h.2.1; omega)
  refine ⟨by unfold rowAt; simp [hx], hm.1, by omega⟩
theorem pow16 {n : Int} (h : n ≤ 16) : 2 ^ n.toNat ≤ 65536 := by
  have : 2 ^ n.toNat ≤ 2 ^ 16 := Nat.pow_le_pow_right (by decide) (by omega)
  simpa using this
theorem pow_pos' (n : Int) : 1 ≤ 2 ^ n.toNat := Nat.one_le_two_pow
theorem valid_any {r : Relation} (h0 : 0 ≤ r.N) (h1 : r.N ≤ 16) (h2 : (r.Rows.length : Int) = r.N) : decide (Valid r) = !(r.Rows.any fun x => !decide (0 ≤ x ∧ x ≤ ((2 ^ r.N.toNat : Nat) : Int) - 1)) := by
  by_cases hv : Valid r
  · rw [decide_eq_true hv, eq_comm, Bool.not_eq_true', List.any_eq_false]
    intro x hx
    simp only [Bool.not_eq_true', decide_eq_false_iff_not, Decidable.not_not]
    exact hv.2.2.2 x hx
  · rw [decide_eq_false hv, eq_comm, Bool.not_eq_false', List.any_eq_true]
    refine Classical.byContradiction fun hn => hv ⟨h0, h1, h2, fun x hx => Classical.byContradiction fun hb => hn ⟨x, hx, ?_⟩⟩
    rw [decide_eq_false hb]; rfl
theorem bit_of {x k : Int} (h : (((((x.toNat >>> k.toNat : Nat) : Int)).toNat &&& (1 : Int).toNat : Nat) : Int) = 1) : x.toNat >>> k.toNat &&& 1 = 1 := by
  have : (1 : Int).toNat = 1 := rfl
  rw [Int.toNat_natCast, this] at h
  exact_mod_cast h
theorem of_bit {x k : Int} (h : x.toNat >>> k.toNat &&& 1 = 1) : (((((x.toNat >>> k.toNat : Nat) : Int)).toNat &&& (1 : Int).toNat : Nat) : Int) = 1 := by
  have : (1 : Int).toNat = 1 := rfl
  rw [Int.toNat_natCast, this]
  exact_mod_cast h
theorem sl1In_eq (x lo hi : Int) : sl1In_m x lo hi = some (decide (lo ≤ x ∧ x ≤ hi)) := by
  unfold sl1In_m; split <;> simp_all <;> omega
theorem iwithin_eq (x lo hi : Int) : iwithin_m x lo hi = some (decide (lo ≤ x ∧ x ≤ hi)) := by
  unfold iwithin_m; split <;> simp_all <;> omega
theorem sIsValid_eq (r : Relation) : sIsValidRelation_m r = some (decide (Valid r)) := by
  unfold sIsValidRelation_m
  simp only [sl1In_eq, Option.bind_some, decide_eq_true_eq]
  by_cases h1 : 0 ≤ r.N ∧ r.N ≤ 16
  · rw [if_pos h1]
    by_cases h2 : (r.Rows.length : Int) = r.N
    · rw [if_pos h2]
      have key := findN_any (c := false) (n := r.N.toNat) (i := 0) (p := fun k => ∃ x, r.Rows[k]? = some x ∧ ¬ (0 ≤ x ∧ x ≤ ((2 ^ r.N.toNat : Nat) : Int) - 1)) (f := sIsValidRelation_L1 r) fun k hk => by
        have hk' : k < r.Rows.length := by omega
        obtain ⟨x, hx⟩ : ∃ x, r.Rows[k]? = some x := ⟨_, List.getElem?_eq_getElem hk'⟩
        simp only [Nat.zero_add]
        unfold sIsValidRelation_L1
        rw [hx, Option.bind_some, grd_pos h1.1, grd_pos (by omega), sl1In_eq, Option.bind_some]
        simp only [decide_eq_true_eq]
        refine ⟨fun ⟨y, hy, hn⟩ => ?_, fun hn => ?_⟩
        · cases hy; rw [if_neg hn]
        · by_cases hb : 0 ≤ x ∧ x ≤ ((2 ^ r.N.toNat : Nat) : Int) - 1
          · rw [if_pos hb]
          · exact absurd ⟨x, rfl, hb⟩ hn
      simp only [Nat.zero_add] at key
      by_cases hv : Valid r
      · rw [key.2 fun k hk ⟨x, hx, hn⟩ => hn (hv.2.2.2 x (List.mem_of_getElem? hx))]
        simp [hv]
      · rw [key.1 (Classical.byContradiction fun hn => hv ⟨h1.1, h1.2, h2, fun x hx => ?_⟩)]
        · simp [hv]
        · obtain ⟨k, hk⟩ := List.getElem?_of_mem hx
          have hk' := lt_of hk
          exact Classical.byContradiction fun hb => hn ⟨k, by omega, x, hk, hb⟩
    · rw [if_neg h2, decide_eq_false fun hv => h2 hv.2.2.1]
  · rw [if_neg h1, decide_eq_false fun hv => h1 ⟨hv.1, hv.2.1⟩]
theorem iIsValid_eq (r : Relation) : iIsValidRelation_m r = some (decide (Valid r)) := by
  unfold iIsValidRelation_m
  simp only [iwithin_eq, Option.bind_some, decide_eq_true_eq]
  by_cases h1 : 0 ≤ r.N ∧ r.N ≤ 16
  · rw [if_pos h1]
    simp only [Option.bind_some, Bool.false_eq_true, if_true, if_false, decide_eq_true_eq]
    by_cases h2 : (r.Rows.length : Int) = r.N
    · rw [if_pos h2]
      have h3 : ∀ x, iIsValidRelation_1_m x r = some (!decide (0 ≤ x ∧ x ≤ ((2 ^ r.N.toNat : Nat) : Int) - 1)) := fun x => by
        unfold iIsValidRelation_1_m
        rw [grd_pos h1.1, grd_pos (by omega), iwithin_eq]; rfl
      have h4 : ∀ (xs : List Int) (i : Nat), ∃ z, findL (slices_IndexFunc_int_iIsValidRelation_1_L1 r) i xs () = some z ∧ ((xs.any fun x => !decide (0 ≤ x ∧ x ≤ ((2 ^ r.N.toNat : Nat) : Int) - 1)) = true → ∃ k : Nat, z = .inr (k : Int)) ∧ ((xs.any fun x => !decide (0 ≤ x ∧ x ≤ ((2 ^ r.N.toNat : Nat) : Int) - 1)) = false → z = .inl ()) := by
        intro xs
        induction xs with
        | nil => intro i; exact ⟨_, rfl, by simp, by simp⟩
        | cons x xs ih =>
          intro i
          simp only [findL, slices_IndexFunc_int_iIsValidRelation_1_L1, h3, Option.bind_some, List.any_cons]
          by_cases hb : 0 ≤ x ∧ x ≤ ((2 ^ r.N.toNat : Nat) : Int) - 1
          · simp only [hb, and_self, decide_true, Bool.not_true, Bool.false_eq_true, if_false, Option.bind_some, Bool.false_or]
            exact ih (i + 1)
          · simp only [hb, decide_false, Bool.not_false, if_true, Option.bind_some, Bool.true_or]
            exact ⟨_, rfl, fun _ => ⟨i, rfl⟩, by simp⟩
      unfold slices_ContainsFunc_int_iIsValidRelation_1_m slices_IndexFunc_int_iIsValidRelation_1_m
      obtain ⟨z, hz, hz1, hz2⟩ := h4 r.Rows 0
      rw [hz, valid_any h1.1 h1.2 h2]
      cases ha : (r.Rows.any fun x => !decide (0 ≤ x ∧ x ≤ ((2 ^ r.N.toNat : Nat) : Int) - 1)) with
      | true => obtain ⟨k, rfl⟩ := hz1 ha; simp
      | false => rw [hz2 ha]; simp
    · rw [if_neg h2, decide_eq_false fun hv => h2 hv.2.2.1]; simp only [Option.bind_some, Bool.false_eq_true, if_true, if_false, decide_eq_true_eq]
  · rw [if_neg h1, decide_eq_false fun hv => h1 ⟨hv.1, hv.2.1⟩]; simp only [Option.bind_some, Bool.false_eq_true, if_true, if_false, decide_eq_true_eq]
theorem sHasPair_eq (r : Relation) (i k : Int) : sHasPair_m r i k = some (decide (hasP r i k)) := by
  unfold sHasPair_m
  simp only [sIsValid_eq, sl1In_eq, Option.bind_some, decide_eq_true_eq]
  by_cases hv : Valid r
  · have hv1 := hv.1; have hv2 := hv.2.1; have hv3 := hv.2.2.1
    rw [if_pos hv, grd_pos (by constructor <;> omega)]; simp only [Option.bind_some, Bool.false_eq_true, if_true, if_false, decide_eq_true_eq]
    by_cases hi : 0 ≤ i ∧ i ≤ r.N - 1
    · rw [if_pos hi, grd_pos (by constructor <;> omega)]; simp only [Option.bind_some, Bool.false_eq_true, if_true, if_false, decide_eq_true_eq]
      by_cases hk : 0 ≤ k ∧ k ≤ r.N - 1
      · obtain ⟨x, hx⟩ : ∃ x, r.Rows[i.toNat]? = some x := ⟨_, List.getElem?_eq_getElem (by omega)⟩
        have hrow := hv.row (i := i) hi hx
        rw [if_pos hk, grd_pos hi.1, hx, Option.bind_some, grd_pos hk.1, grd_pos ⟨hrow.2.1, hk.1, by omega⟩, grd_pos ⟨Int.natCast_nonneg _, by decide⟩]
        simp only [Option.bind_some, Bool.false_eq_true, if_true, if_false, decide_eq_true_eq]
        congr 1
        refine decide_eq_decide.2 ⟨fun hb => ⟨hv, hi, hk, ?_⟩, fun hb => ?_⟩
        · unfold bit; rw [hrow.1]; exact bit_of hb
        · have := hb.2.2.2; unfold bit at this; rw [hrow.1] at this; exact of_bit this
      · rw [if_neg hk]; simp only [Option.bind_some, Bool.false_eq_true, if_true, if_false, decide_eq_true_eq]; rw [ decide_eq_false fun h => hk h.2.2.1]
    · rw [if_neg hi]; simp only [Option.bind_some, Bool.false_eq_true, if_true, if_false, decide_eq_true_eq]; rw [ decide_eq_false fun h => hi h.2.1]
  · rw [if_neg hv]; simp only [Option.bind_some, Bool.false_eq_true, if_true, if_false, decide_eq_true_eq]; rw [ decide_eq_false fun h => hv h.1]
theorem iHasPair_eq (r : Relation) (i k : Int) : iHasPair_m r i k = some (decide (hasP r i k)) := by
  rw [← sHasPair_eq]
  unfold iHasPair_m sHasPair_m
  simp only [sIsValid_eq, iIsValid_eq, sl1In_eq, iwithin_eq]
theorem copy_same : icopyRelation_m = sl22Copy_m := by
  funext r; unfold icopyRelation_m sl22Copy_m slices_Clone_int_m
  by_cases h : ((([] : List Int).length : Int) + (r.Rows.length : Int)) * 8 ≤ 140737488355328 ∧ (([] : List Int).length : Int) + (r.Rows.length : Int) ≤ 9223372036854775807
  · rw [grd_pos h, grd_pos h]; rfl
  · unfold grd; rw [if_neg h, if_neg h]; rfl
theorem has_same : iHasPair_m = sHasPair_m := by
  funext r i k; rw [iHasPair_eq, sHasPair_eq]
theorem add_same : iAddPair_m = sAddPair_m := by
  funext r i k; unfold iAddPair_m sAddPair_m; simp only [copy_same, sIsValid_eq, iIsValid_eq, sl1In_eq, iwithin_eq]
theorem empty_same : iEmptyRelation_m = sEmptyRelation_m := by
  funext n; unfold iEmptyRelation_m sEmptyRelation_m; simp only [sl1In_eq, iwithin_eq]
theorem copy_some {r : Relation} (h : r.Rows.length ≤ 1048576) : sl22Copy_m r = some r := by
  unfold sl22Copy_m; rw [grd_pos (by simp only [List.length_nil]; constructor <;> omega)]
theorem add_some {r : Relation} (h : r.Rows.length ≤ 1048576) (i k : Int) : ∃ x, sAddPair_m r i k = some x ∧ x.Rows.length = r.Rows.length := by
  unfold sAddPair_m
  simp only [copy_some h, sIsValid_eq, sl1In_eq, Option.bind_some, decide_eq_true_eq]
  by_cases hv : Valid r
  · have hv1 := hv.1; have hv2 := hv.2.1; have hv3 := hv.2.2.1
    rw [if_pos hv, grd_pos (by constructor <;> omega)]; simp only [Option.bind_some, Bool.false_eq_true, if_true, if_false, decide_eq_true_eq]
    by_cases hi : 0 ≤ i ∧ i ≤ r.N - 1
    · rw [if_pos hi, grd_pos (by constructor <;> omega)]; simp only [Option.bind_some, Bool.false_eq_true, if_true, if_false, decide_eq_true_eq]
      by_cases hk : 0 ≤ k ∧ k ≤ r.N - 1
      · obtain ⟨x, hx⟩ : ∃ x, r.Rows[i.toNat]? = some x := ⟨_, List.getElem?_eq_getElem (by omega)⟩
        have hrow := hv.row (i := i) hi hx
        rw [if_pos hk, grd_pos hi.1, hx, Option.bind_some, grd_pos hk.1, grd_pos ⟨hk.1, by omega⟩, grd_pos ⟨hrow.2.1, Int.natCast_nonneg _⟩]
        exact ⟨_, rfl, by simp⟩
      · rw [if_neg hk]; exact ⟨_, rfl, rfl⟩
    · rw [if_neg hi]; simp only [Option.bind_some, Bool.false_eq_true, if_true, if_false, decide_eq_true_eq]; exact ⟨_, rfl, rfl⟩
  · rw [if_neg hv]; simp only [Option.bind_some, Bool.false_eq_true, if_true, if_false, decide_eq_true_eq]; exact ⟨_, rfl, rfl⟩
theorem empty_some (n : Nat) : ∃ x, sEmptyRelation_m (n : Int) = some x ∧ x.Rows.length ≤ 16 := by
  unfold sEmptyRelation_m; simp only [sl1In_eq, Option.bind_some, decide_eq_true_eq]
  by_cases h : 0 ≤ (n : Int) ∧ (n : Int) ≤ 16
  · rw [if_pos h, grd_pos (by refine ⟨by omega, by omega, by omega⟩)]; exact ⟨_, rfl, by simp; omega⟩
  · rw [if_neg h]; exact ⟨_, rfl, by simp⟩
theorem eachL_append {α σ : Type} {f : Nat → α → σ → Option σ} : ∀ (xs ys : List α) (i : Nat) (s : σ), eachL f i (xs ++ ys) s = (eachL f i xs s).bind fun t => eachL f (i + xs.length) ys t
  | [], ys, i, s => rfl
  | x :: xs, ys, i, s => by
    simp only [List.cons_append, eachL]
    cases f i x s with
    | none => rfl
    | some t => simp only [Option.bind_some]; rw [eachL_append xs ys (i + 1) t, List.length_cons, show i + 1 + xs.length = i + (xs.length + 1) by omega]
theorem names_map (k : Nat) : ∀ (l : List Attribute) (i : Nat) (s : List Occurrence), s.length + l.length ≤ 4398046511104 → eachL (iOccurrencesOf_L2 k) i l s = some (s ++ l.map fun x => (⟨(k : Int), x.Name⟩ : Occurrence))
  | [], i, s, _ => by simp [eachL]
  | x :: l, i, s, h => by
    simp only [List.length_cons] at h
    have hg : ((s.length : Int) + 1) * 24 ≤ 140737488355328 ∧ (s.length : Int) + 1 ≤ 9223372036854775807 := by constructor <;> omega
    have e : iOccurrencesOf_L2 k i x s = some (s ++ [(⟨(k : Int), x.Name⟩ : Occurrence)]) := by unfold iOccurrencesOf_L2; rw [grd_pos hg]
    simp only [eachL, e, Option.bind_some]
    rw [names_map k l (i + 1) _ (by simp; omega)]; simp
/-- the occurrences begin with those of the left side -/
theorem occ_pre {g : Grammar} {r : Rule} (h : ∀ y ∈ g.Symbols, y.Attributes.length ≤ 1048576) (hr : r.Right.length ≤ 1048576) {l : List Attribute} {o : List Occurrence} (hl : iPlainAttributes_m g r.Left = some l) (ho : iOccurrencesOf_m g r = some o) :
    ∃ ys, o = (l.map fun x => (⟨0, x.Name⟩ : Occurrence)) ++ ys := by
  have key : ∀ m k (s : List Occurrence), k + m = r.Right.length + 1 → s.length ≤ k * 1048576 → ∀ q, eachN (iOccurrencesOf_L1 g r) k m s = some q → ∃ ys, q = s ++ ys := by
    intro m
    induction m with
    | zero => intro k s _ _ q hq; cases hq; exact ⟨[], by simp⟩
    | succ m ih =>
      intro k s hk hs q hq
      obtain ⟨x, hx⟩ := symAt_some r k (by omega) hr
      obtain ⟨p, hp1, hp2, hp3⟩ := plain_both h x
      have hy := names_map k p 0 s (by omega)
      have e : iOccurrencesOf_L1 g r k s = some (s ++ p.map fun x => (⟨(k : Int), x.Name⟩ : Occurrence)) := by
        unfold iOccurrencesOf_L1; rw [symAt_same, hx, Option.bind_some, hp2, Option.bind_some, hy]; rfl
      simp only [eachN, e, Option.bind_some] at hq
      obtain ⟨ys, hys⟩ := ih (k + 1) _ (by omega) (by simp; omega) q hq
      exact ⟨_, by rw [hys, List.append_assoc]⟩
  unfold iOccurrencesOf_m at ho
  rw [grd_pos (by constructor <;> omega)] at ho
  have e1 : eachN (iOccurrencesOf_L1 g r) 0 (r.Right.length + 1) [] = some o := by
    cases hq : eachN (iOccurrencesOf_L1 g r) 0 (r.Right.length + 1) [] with
    | none => rw [hq] at ho; cases ho
    | some q => rw [hq] at ho; exact ho
  have hl3 : l.length ≤ 1048576 := by
    obtain ⟨p, _, h2, h3⟩ := plain_both h r.Left
    rw [hl] at h2; cases h2; exact h3
  have hx : iSymbolAt_m r ((0 : Nat) : Int) = some r.Left := by unfold iSymbolAt_m; exact if_pos rfl
  have e : iOccurrencesOf_L1 g r 0 [] = some ([] ++ l.map fun x => (⟨((0 : Nat) : Int), x.Name⟩ : Occurrence)) := by
    unfold iOccurrencesOf_L1; rw [hx, Option.bind_some, hl, Option.bind_some, names_map 0 l 0 [] (by simp; omega)]; rfl
  simp only [eachN, e, Option.bind_some] at e1
  obtain ⟨ys, hys⟩ := key r.Right.length 1 _ (by omega) (by simp; omega) o e1
  exact ⟨ys, by simpa using hys⟩
theorem pos_run : ∀ (xs : List Occurrence) (i : Nat) (s : List Int), s.length + xs.length ≤ 4398046511104 → (∀ x ∈ xs, x.Pos = 0) → eachL (iPositionIndices_L1 0) i xs s = some (s ++ (List.range' i xs.length).map fun (j : Nat) => (j : Int))
  | [], i, s, _, _ => by simp [eachL]
  | x :: xs, i, s, h, h0 => by
    simp only [List.length_cons] at h
    have hg : ((s.length : Int) + 1) * 8 ≤ 140737488355328 ∧ (s.length : Int) + 1 ≤ 9223372036854775807 := by constructor <;> omega
    have e : iPositionIndices_L1 0 i x s = some (s ++ [(i : Int)]) := by
      unfold iPositionIndices_L1; rw [if_pos (h0 x (by simp)), grd_pos hg]; rfl
    simp only [eachL, e, Option.bind_some]
    rw [pos_run xs (i + 1) _ (by simp; omega) fun y hy => h0 y (by simp [hy])]
    simp [List.range'_succ]
/-- the first positions of the left side are 0, 1, .. -/
theorem pos_pre {g : Grammar} {r : Rule} (h : ∀ y ∈ g.Symbols, y.Attributes.length ≤ 1048576) (hr : r.Right.length ≤ 1048576) {l : List Attribute} {y : List Int} (hl : iPlainAttributes_m g r.Left = some l) (hy : iPositionIndices_m g r 0 = some y) : ∀ k : Nat, k < l.length → y[k]? = some (k : Int) := by
  obtain ⟨o, _, ho, ho3⟩ := occ_both h hr
  obtain ⟨ys, hys⟩ := occ_pre h hr hl ho
  have hl3 : l.length ≤ 1048576 := by
    obtain ⟨p, _, h2, h3⟩ := plain_both h r.Left
    rw [hl] at h2; cases h2; exact h3
  unfold iPositionIndices_m at hy
  rw [ho, Option.bind_some] at hy
  have hy' : eachL (iPositionIndices_L1 0) 0 o [] = some y := by
    cases hq : eachL (iPositionIndices_L1 0) 0 o [] with
    | none => rw [hq] at hy; cases hy
    | some q => rw [hq] at hy; exact hy
  have hlen := congrArg List.length hys
  simp only [List.length_append, List.length_map] at hlen
  rw [hys, eachL_append, pos_run _ 0 [] (by simp; omega) (by intro x hx; obtain ⟨a, _, rfl⟩ := List.mem_map.1 hx; rfl), Option.bind_some] at hy'
  obtain ⟨zs, h4, h5⟩ := eachL_filter (p := fun x : Occurrence => decide (x.Pos = 0)) (g := fun i _ => ((i : Nat) : Int)) (B := 4398046511104) (f := iPositionIndices_L1 0) (fun i x s hs => by
    have hg : ((s.length : Int) + 1) * 8 ≤ 140737488355328 ∧ (s.length : Int) + 1 ≤ 9223372036854775807 := by constructor <;> omega
    unfold iPositionIndices_L1
    rw [grd_pos hg]
    by_cases m1 : x.Pos = 0
    · rw [if_pos m1, if_pos (by simp [m1])]; rfl
    · rw [if_neg m1, if_neg (by simp [m1])]; rfl) ys (0 + (l.map fun x => (⟨0, x.Name⟩ : Occurrence)).length) ([] ++ (List.range' 0 (l.map fun x => (⟨0, x.Name⟩ : Occurrence)).length).map fun (j : Nat) => (j : Int)) (by simp; omega)
  rw [h4] at hy'
  cases hy'
  intro k hk
  rw [List.getElem?_append_left (by simpa using hk)]
  simp [hk]
theorem eachL_both {α σ : Type} {P : σ → Prop} {f g : Nat → α → σ → Option σ} : ∀ (xs : List α) (i : Nat) (s : σ), P s → (∀ k x s, k < i + xs.length → x ∈ xs → P s → ∃ s', f k x s = some s' ∧ g k x s = some s' ∧ P s') → ∃ s', eachL f i xs s = some s' ∧ eachL g i xs s = some s' ∧ P s'
  | [], i, s, hs, _ => ⟨s, rfl, rfl, hs⟩
  | x :: xs, i, s, hs, h => by
    obtain ⟨t, h1, h2, h3⟩ := h i x s (by simp) (by simp) hs
    obtain ⟨u, h4, h5, h6⟩ := eachL_both xs (i + 1) t h3 fun k y s hk hy => h k y s (by simp; omega) (by simp [hy])
    exact ⟨u, by simp only [eachL, h1, Option.bind_some, h4], by simp only [eachL, h2, Option.bind_some, h5], h6⟩
theorem summary_both {g : Grammar} {r : Rule} {c : Relation} (h : ∀ y ∈ g.Symbols, y.Attributes.length ≤ 1048576) (hr : r.Right.length ≤ 1048576) : ∃ x, sSummaryOf_m g r c = some x ∧ iSummaryOf_m g r c = some x ∧ x.Rows.length ≤ 16 := by
  obtain ⟨l, l1, l2, l3⟩ := plain_both h r.Left
  obtain ⟨y, _, y2, _⟩ := pos_both 0 h hr
  have hy := pos_pre h hr l2 y2
  obtain ⟨e, e1, e2⟩ := empty_some l.length
  have step : ∀ k1 x1, k1 < l.length → ∀ k2 x2 s, k2 < l.length → s.1.length ≤ 16 → ∃ s', sSummaryOf_L2 c k1 x1 k2 x2 s = some s' ∧ iSummaryOf_L2 c y k1 x1 k2 x2 s = some s' ∧ s'.1.length ≤ 16 := by
    intro k1 x1 hk1 k2 x2 ⟨s3, s4⟩ hk2 hs
    dsimp only at hs
    obtain ⟨z, z1, z2⟩ := add_some (r := ⟨s4, s3⟩) (by show s3.length ≤ _; omega) (k1 : Int) (k2 : Int)
    unfold sSummaryOf_L2 iSummaryOf_L2
    rw [has_same, add_same, hy k1 hk1, hy k2 hk2]
    simp only [Option.bind_some, sHasPair_eq, z1, decide_eq_true_eq]
    by_cases m1 : x1.Mode = 1
    · by_cases m2 : x2.Mode = 2
      · by_cases m3 : hasP c (k1 : Int) (k2 : Int)
        · simp only [m1, m2, m3, if_true, decide_true, Option.bind_some]; exact ⟨_, rfl, rfl, by rw [z2]; exact hs⟩
        · simp only [m1, m2, m3, if_true, if_false, decide_true, decide_false, Option.bind_some]; exact ⟨_, rfl, rfl, hs⟩
      · simp [m1, m2, hs]
    · simp [m1, hs]
  obtain ⟨⟨s1, s2⟩, h1, h2, h3⟩ := eachL_both (P := fun s : List Int × Int => s.1.length ≤ 16) (f := sSummaryOf_L1 c l) (g := iSummaryOf_L1 c l y) l 0 (e.Rows, e.N) e2 fun k x s hk _ hs => by
    obtain ⟨s', t1, t2, t3⟩ := eachL_both (P := fun s : List Int × Int => s.1.length ≤ 16) (f := sSummaryOf_L2 c k x) (g := iSummaryOf_L2 c y k x) l 0 s hs fun k2 x2 s hk2 _ hs => step k x (by omega) k2 x2 s (by omega) hs
    obtain ⟨s3, s4⟩ := s
    exact ⟨s', by unfold sSummaryOf_L1; dsimp only; rw [t1]; rfl, by unfold iSummaryOf_L1; dsimp only; rw [t2]; rfl, t3⟩
  refine ⟨⟨s2, s1⟩, ?_, ?_, h3⟩
  · unfold sSummaryOf_m; rw [l1, Option.bind_some, e1, Option.bind_some, h1]; rfl
  · unfold iSummaryOf_m; rw [l2, Option.bind_some, y2, Option.bind_some, empty_same, e1, Option.bind_some, h2]; rfl
theorem cnt_summary (g : Grammar) (r : Rule) (c : Relation) (h : Sz.szd g ≤ 1048576) (h2 : Sz.szd r ≤ 1048576) : MkT.cntT ((sSummaryOf_m g r c).getD ⟨0, []⟩) ≤ 1048576 := by
  obtain ⟨x, h1, _, h3⟩ := summary_both (c := c) (syms_le h) (right_le h2)
  rw [h1]
  show cntL x.Rows ≤ _
  rw [cntL_ints]; omega

end Go.Proofs.Ytfnnadlahlkkoaa
