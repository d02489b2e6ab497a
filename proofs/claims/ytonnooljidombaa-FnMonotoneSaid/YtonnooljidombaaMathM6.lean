/- What those partial functions come to: plain lemmas on data; each bears its conditions in its statement. -/
import Derived.Test.YtonnooljidombaaLift
import Derived.Test.YtonnooljidombaaEngC
import Derived.Test.YtonnooljidombaaEngD
set_option linter.unusedVariables false
set_option linter.unusedSimpArgs false
set_option linter.ambiguousOpen false
set_option linter.unusedSectionVars false
set_option linter.unnecessarySimpa false
set_option linter.unusedVariables false
set_option linter.unusedSimpArgs false
namespace Go.Proofs.Ytonnooljidombaa
open Go Go.E
/-! ### the uses of an expression, from left to right -/
mutual
def usesE : Expr → List Occurrence
  | ⟨a0, a1, a2, a3, a4, a5, a6⟩ => (if a0 = 3 then [⟨a2, a5⟩] else []) ++ usesEs a6
def usesEs : List Expr → List Occurrence
  | [] => []
  | x :: xs => usesE x ++ usesEs xs
end
mutual
/-- fuel enough -/
def fuE : Expr → Nat
  | ⟨_, _, _, _, _, _, a6⟩ => fuEs a6 + 1
def fuEs : List Expr → Nat
  | [] => 0
  | x :: xs => max (fuE x) (fuEs xs)
end
theorem fuE_eq (e : Expr) : fuE e = fuEs e.Args + 1 := by cases e; rfl
theorem fuEs_mem : ∀ {l : List Expr} {x : Expr}, x ∈ l → fuE x ≤ fuEs l
  | y :: l, x, h => by
    simp only [fuEs]
    rcases List.mem_cons.1 h with e | h
    · subst e; omega
    · have := fuEs_mem h; omega
theorem usesE_eq (e : Expr) : usesE e = (if e.Kind = 3 then [⟨e.Pos, e.Name⟩] else []) ++ usesEs e.Args := by cases e; rfl
mutual
theorem usesE_len : ∀ e : Expr, (usesE e).length ≤ 1 + Expr_szf e
  | ⟨a0, a1, a2, a3, a4, a5, a6⟩ => by
    have := usesEs_len a6
    simp only [usesE, Expr_szf, List.length_append]
    split <;> simp <;> omega
theorem usesEs_len : ∀ l : List Expr, (usesEs l).length ≤ Expr_szs l
  | [] => by simp [usesEs]
  | x :: xs => by
    have h1 := usesE_len x
    have h2 := usesEs_len xs
    simp only [usesEs, Expr_szs, List.length_append]; omega
end
theorem szL_mem' {α : Type} [Sz α] {x : α} : ∀ {l : List α}, x ∈ l → Sz.szd x < szL l
  | [], h => by simp at h
  | y :: l, h => by
    rcases List.mem_cons.1 h with rfl | h
    · simp only [szL]; omega
    · have := szL_mem' h; simp only [szL]; omega
theorem arg_sz {e x : Expr} (h : x ∈ e.Args) : Sz.szd x < Sz.szd e := by
  have h1 := Expr_szd e
  have h2 := szL_mem' h
  omega
theorem uses_sz {e : Expr} (h : Sz.szd e ≤ 1048576) : (usesE e).length ≤ 1048577 := by
  have h1 := usesE_len e
  have h2 : Expr_szf e = Sz.szd e := rfl
  omega
theorem mem_usesEs {o : Occurrence} : ∀ {l : List Expr}, o ∈ usesEs l ↔ ∃ x ∈ l, o ∈ usesE x
  | [] => by simp [usesEs]
  | x :: xs => by simp [usesEs, mem_usesEs (l := xs)]
theorem every_total : ∀ (m : Nat) (e : Expr) (o : List Occurrence), fuE e ≤ m → o.length + (usesE e).length ≤ 4398046511104 → ieveryNode_iAttributeUses_1_n m e o = some (true, o ++ usesE e) := by
  intro m
  induction m with
  | zero => intro e o h; rw [fuE_eq] at h; omega
  | succ m ih =>
    have hl : ∀ (l : List Expr) (i : Nat) (o : List Occurrence), fuEs l ≤ m → o.length + (usesEs l).length ≤ 4398046511104 → findL (slices_IndexFunc_Expr_ieveryNode_1_iAttributeUses_1_L1 (ieveryNode_iAttributeUses_1_n m)) i l o = some (.inl (o ++ usesEs l)) := by
      intro l
      induction l with
      | nil => intro i o _ _; simp [findL, usesEs]
      | cons x l ihl =>
        intro i o hf hb
        simp only [fuEs] at hf
        simp only [usesEs, List.length_append] at hb
        have hx := ih x o (by omega) (by omega)
        simp only [findL, slices_IndexFunc_Expr_ieveryNode_1_iAttributeUses_1_L1, ieveryNode_1_iAttributeUses_1_m, hx, Option.bind_some, Bool.not_true, Bool.false_eq_true, if_false]
        rw [ihl _ _ (by omega) (by rw [List.length_append]; omega), usesEs, List.append_assoc]
    intro e o hf hb
    rw [fuE_eq] at hf
    show ieveryNode_iAttributeUses_1_B (ieveryNode_iAttributeUses_1_n m) e o = _
    have hb' := hb
    rw [usesE_eq, List.length_append] at hb'
    have h1 : iAttributeUses_1_m e o = some (true, o ++ if e.Kind = 3 then [⟨e.Pos, e.Name⟩] else []) := by
      unfold iAttributeUses_1_m
      by_cases hk : e.Kind = 3
      · rw [if_pos hk] at hb' ⊢
        rw [if_pos hk, grd_pos]
        simp only [List.length_cons, List.length_nil] at hb'
        constructor <;> omega
      · rw [if_neg hk, if_neg hk, List.append_nil]
    unfold ieveryNode_iAttributeUses_1_B
    rw [h1, Option.bind_some]
    dsimp only
    rw [if_pos rfl]
    unfold slices_ContainsFunc_Expr_ieveryNode_1_iAttributeUses_1_m slices_IndexFunc_Expr_ieveryNode_1_iAttributeUses_1_m
    rw [hl _ _ _ (by omega) (by rw [List.length_append]; omega), usesE_eq]
    simp [onr]
theorem every_eq {e : Expr} (h : (usesE e).length ≤ 4398046511104) : ieveryNode_iAttributeUses_1_m e [] = some (true, usesE e) :=
  recO_ev (fuE e) fun m hm => by simpa using every_total m e [] hm (by simpa using h)
/-! ### slices.Compact -/
theorem take_set_lt {α : Type} {s : List α} {k : Nat} {x : α} (h : k < s.length) : (s.set k x).take (k + 1) = s.take k ++ [x] := by
  rw [List.take_add_one, List.take_set, List.set_eq_of_length_le (by simp; omega)]
  simp [List.getElem?_set, h]
/-- the inner loop: a: what the row held; s holds k elements without doubles, and is as it was from j - 1 on -/
theorem compact_in {a : List Occurrence} {b : Nat} (ha : a.length ≤ 4398046511104) (hb : 1 ≤ b) (hba : b < a.length) : ∀ (m j k : Nat) (s : List Occurrence), b + j + m = a.length → 1 ≤ j → 1 ≤ k → k ≤ b + j - 1 → s.length = a.length → s.take k = compactL (a.take (b + j)) → s.drop (b + j - 1) = a.drop (b + j - 1) →
    ∃ s' k', iterO (slices_Compact_Occurrence_L2 (b : Int)) (s, (k : Int), (j : Int)) = some (s', ((k' : Nat) : Int)) ∧ k' ≤ s'.length ∧ s'.take k' = compactL a := by
  intro m
  induction m with
  | zero =>
    intro j k s hm hj hk hkj hs ht hd
    refine ⟨s, k, iterO_done ?_, by omega, ?_⟩
    · unfold slices_Compact_Occurrence_L2
      dsimp only
      rw [if_neg (by simp only [Int.toNat_natCast, List.length_drop]; omega)]
    · rw [ht, show b + j = a.length by omega, List.take_length]
  | succ m ih =>
    intro j k s hm hj hk hkj hs ht hd
    obtain ⟨x, hx⟩ : ∃ x, a[b + j]? = some x := ⟨_, List.getElem?_eq_getElem (by omega)⟩
    obtain ⟨y, hy⟩ : ∃ y, a[b + j - 1]? = some y := ⟨_, List.getElem?_eq_getElem (by omega)⟩
    obtain ⟨z, hz⟩ : ∃ z, s[k]? = some z := ⟨_, List.getElem?_eq_getElem (by omega)⟩
    have hsx : s[b + j]? = some x := by
      have := congrArg (fun l => l[1]?) hd
      simp only [List.getElem?_drop] at this
      rw [show b + j - 1 + 1 = b + j by omega] at this
      rw [this, hx]
    have hsy : s[b + (j - 1)]? = some y := by
      have := congrArg (fun l => l[0]?) hd
      simp only [List.getElem?_drop, Nat.add_zero] at this
      rw [show b + (j - 1) = b + j - 1 by omega, this, hy]
    have hc := compactL_take (i := b + j - 1) (b := x) hy (by rw [show b + j - 1 + 1 = b + j by omega]; exact hx)
    rw [show b + j - 1 + 2 = b + (j + 1) by omega, show b + j - 1 + 1 = b + j by omega] at hc
    have hd2 : s.drop (b + (j + 1) - 1) = a.drop (b + (j + 1) - 1) := by
      have := congrArg (fun l => l.drop 1) hd
      simp only [List.drop_drop] at this
      rw [show b + (j + 1) - 1 = b + j - 1 + 1 by omega]; exact this
    have e1 : ((j : Int) - 1).toNat = j - 1 := by omega
    by_cases hxy : x = y
    · have e : slices_Compact_Occurrence_L2 (b : Int) (s, (k : Int), (j : Int)) = some (.inl (s, (k : Int), ((j + 1 : Nat) : Int))) := by
        unfold slices_Compact_Occurrence_L2
        dsimp only
        rw [if_pos (by simp only [Int.toNat_natCast, List.length_drop]; omega), grd_pos (by omega)]
        simp only [Int.toNat_natCast]
        rw [hsx, Option.bind_some, grd_pos (by constructor <;> omega), grd_pos (by omega), e1, hsy, Option.bind_some, if_pos hxy, Option.bind_some]
        dsimp only
        rw [grd_pos (by constructor <;> omega)]; rfl
      rw [iterO_next e]
      exact ih (j + 1) k s (by omega) (by omega) hk (by omega) hs (by rw [hc, if_pos hxy.symm, ht]) hd2
    · have e : slices_Compact_Occurrence_L2 (b : Int) (s, (k : Int), (j : Int)) = some (.inl (s.set k x, ((k + 1 : Nat) : Int), ((j + 1 : Nat) : Int))) := by
        unfold slices_Compact_Occurrence_L2
        dsimp only
        rw [if_pos (by simp only [Int.toNat_natCast, List.length_drop]; omega), grd_pos (by omega)]
        simp only [Int.toNat_natCast]
        rw [hsx, Option.bind_some, grd_pos (by constructor <;> omega), grd_pos (by omega), e1, hsy, Option.bind_some, if_neg hxy, grd_pos (by omega), grd_pos (by omega), hz, Option.bind_some, grd_pos (by constructor <;> omega), Option.bind_some]
        dsimp only
        rw [grd_pos (by constructor <;> omega)]; rfl
      rw [iterO_next e]
      refine ih (j + 1) (k + 1) _ (by omega) (by omega) (by omega) (by omega) (by rw [List.length_set]; exact hs) ?_ ?_
      · rw [take_set_lt (by omega), ht, hc, if_neg (fun h => hxy h.symm)]
      · rw [List.drop_set, if_pos (by omega)]; exact hd2
/-- no doubles among the first -/
theorem compact_out {a : List Occurrence} (ha : a.length ≤ 4398046511104) : ∀ (m k : Nat), k + m = a.length → 1 ≤ k → compactL (a.take k) = a.take k →
    (iterO (slices_Compact_Occurrence_L1 a) (k : Int)).bind (onr (fun r1 => some r1) fun _ => some a) = some (compactL a) := by
  intro m
  induction m with
  | zero =>
    intro k hm hk hc
    have e : slices_Compact_Occurrence_L1 a (k : Int) = some (.inr (.inl ())) := by
      unfold slices_Compact_Occurrence_L1
      dsimp only
      rw [if_neg (by omega)]
    rw [iterO_done e, Option.bind_some]
    show some a = _
    rw [show k = a.length by omega, List.take_length] at hc
    rw [hc]
  | succ m ih =>
    intro k hm hk hc
    obtain ⟨x, hx⟩ : ∃ x, a[k]? = some x := ⟨_, List.getElem?_eq_getElem (by omega)⟩
    obtain ⟨y, hy⟩ : ∃ y, a[k - 1]? = some y := ⟨_, List.getElem?_eq_getElem (by omega)⟩
    have hct := compactL_take (i := k - 1) (b := x) hy (by rw [show k - 1 + 1 = k by omega]; exact hx)
    rw [show k - 1 + 2 = k + 1 by omega, show k - 1 + 1 = k by omega] at hct
    have htk : a.take (k + 1) = a.take k ++ [x] := by rw [List.take_add_one, hx]; rfl
    have e1 : ((k : Int) - 1).toNat = k - 1 := by omega
    by_cases hxy : x = y
    · obtain ⟨s', k', h1, h2, h3⟩ := compact_in (b := k) ha hk (by omega) m 1 k a (by omega) (by omega) hk (by omega) rfl (by rw [hct, if_pos hxy.symm, hc]) rfl
      have hl : (s'.take k' ++ List.replicate (s'.length - k') (⟨(0 : Int), (⟨#[]⟩ : ByteArray)⟩ : Occurrence)).take k' = compactL a := by
        rw [List.take_append_of_le_length (by simp; omega), List.take_take, Nat.min_self, h3]
      have e : slices_Compact_Occurrence_L1 a (k : Int) = some (.inr (.inr (compactL a))) := by
        unfold slices_Compact_Occurrence_L1
        dsimp only
        rw [if_pos (by omega), grd_pos (by omega)]
        simp only [Int.toNat_natCast]
        rw [hx, Option.bind_some, grd_pos (by constructor <;> omega), grd_pos (by omega), e1, hy, Option.bind_some, if_pos hxy, grd_pos (by omega), grd_pos (by omega)]
        have h1' : iterO (slices_Compact_Occurrence_L2 (k : Int)) (a, (k : Int), 1) = some (s', ((k' : Nat) : Int)) := h1
        rw [h1', Option.bind_some]
        dsimp only
        simp only [Int.toNat_natCast]
        rw [grd_pos (by omega), grd_pos (by omega), grd_pos (by omega), grd_pos (by simp; omega), hl]
      rw [iterO_done e, Option.bind_some]; rfl
    · have e : slices_Compact_Occurrence_L1 a (k : Int) = some (.inl ((k + 1 : Nat) : Int)) := by
        unfold slices_Compact_Occurrence_L1
        dsimp only
        rw [if_pos (by omega), grd_pos (by omega)]
        simp only [Int.toNat_natCast]
        rw [hx, Option.bind_some, grd_pos (by constructor <;> omega), grd_pos (by omega), e1, hy, Option.bind_some, if_neg hxy, grd_pos (by constructor <;> omega)]; rfl
      rw [iterO_next e]
      exact ih (k + 1) (by omega) (by omega) (by rw [hct, if_neg (fun h => hxy h.symm), hc, htk])
theorem compact_eq {a : List Occurrence} (ha : a.length ≤ 4398046511104) : slices_Compact_Occurrence_m a = some (compactL a) := by
  unfold slices_Compact_Occurrence_m
  by_cases h : (a.length : Int) < 2
  · rw [if_pos h]
    match a, h with
    | [], _ => rfl
    | [x], _ => rfl
    | x :: y :: l, h => simp only [List.length_cons] at h; omega
  · rw [if_neg h]
    refine compact_out ha (a.length - 1) 1 (by omega) (Nat.le_refl _) ?_
    match a, h with
    | x :: l, _ => rfl
/-! ### the uses, in order and without doubles -/
def attrs (e : Expr) : List Occurrence := compactL (sortO (usesE e))
theorem mem_attrs {o : Occurrence} {e : Expr} : o ∈ attrs e ↔ o ∈ usesE e := by
  unfold attrs sortO
  rw [mem_compactL, List.mem_mergeSort]
theorem attrs_len {e : Expr} : (attrs e).length ≤ (usesE e).length := by
  unfold attrs
  refine Nat.le_trans compactL_len ?_
  unfold sortO
  rw [List.length_mergeSort]; exact Nat.le_refl _
theorem iAttr_eq {e : Expr} (h : Sz.szd e ≤ 1048576) : iAttributeUses_m e = some (attrs e) := by
  have hl := uses_sz h
  have hs : (sortO (usesE e)).length = (usesE e).length := by unfold sortO; exact List.length_mergeSort _
  unfold iAttributeUses_m
  rw [every_eq (by omega), Option.bind_some]
  dsimp only
  unfold slices_SortFunc_Occurrence_m
  rw [grd_pos (by omega), Option.bind_some, compact_eq (by omega)]; rfl
end Go.Proofs.Ytonnooljidombaa

