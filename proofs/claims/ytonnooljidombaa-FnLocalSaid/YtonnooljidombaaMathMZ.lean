/- What those partial functions come to: plain lemmas on data; each bears its conditions in its statement. -/
import Derived.Test.YtonnooljidombaaMathMY
set_option linter.unusedVariables false
set_option linter.unusedSimpArgs false
set_option linter.ambiguousOpen false
set_option linter.unusedSectionVars false
set_option linter.unnecessarySimpa false
set_option linter.unusedVariables false
set_option linter.unusedSimpArgs false
namespace Go.Proofs.Ytonnooljidombaa
open Go Go.E
/-! ### constants -/
def kB (e : Expr) : Bool := decide (e.Kind = 1 ∨ e.Kind = 4 ∨ e.Kind = 5)
theorem contains145 (k : Int) : slices_Contains_int_m [1, 4, 5] k = some (decide (k = 1 ∨ k = 4 ∨ k = 5)) := by
  unfold slices_Contains_int_m slices_Index_int_m
  simp only [findL, slices_Index_int_L1]
  by_cases h1 : k = 1
  · subst h1; rfl
  by_cases h4 : k = 4
  · subst h4; rfl
  by_cases h5 : k = 5
  · subst h5; rfl
  rw [if_neg h1, if_neg h4, if_neg h5, decide_eq_false (by omega)]; rfl
theorem iConst_tot (e : Expr) : ∀ m, fuE e ≤ m → ieveryNode_iConstantValue_1_n m e [1, 4, 5] = some (allE kB e) := by
  induction e using tree_ind with
  | h e ih =>
    intro m hm
    obtain ⟨m, rfl⟩ : ∃ q, m = q + 1 := ⟨m - 1, by have := fu_pos e; omega⟩
    show ieveryNode_iConstantValue_1_B (ieveryNode_iConstantValue_1_n m) e [1, 4, 5] = _
    unfold ieveryNode_iConstantValue_1_B slices_ContainsFunc_Expr_ieveryNode_1_iConstantValue_1_m slices_IndexFunc_Expr_ieveryNode_1_iConstantValue_1_m iConstantValue_1_m
    rw [contains145, Option.bind_some, Option.bind_some, allE_eq]
    have hk : decide (e.Kind = 1 ∨ e.Kind = 4 ∨ e.Kind = 5) = kB e := rfl
    rw [hk]
    cases kB e with
    | false => rfl
    | true =>
      rw [if_pos rfl, findL_ix2 (q := fun x => !allE kB x) fun k x hx => by
        unfold slices_IndexFunc_Expr_ieveryNode_1_iConstantValue_1_L1 ieveryNode_1_iConstantValue_1_m
        rw [ih x hx m (by have := fu_arg hx; omega), Option.bind_some, Option.bind_some]
        cases allE kB x <;> rfl]
      rw [Bool.true_and, ← any_all]
      cases e.Args.any fun x => !allE kB x with
      | true =>
        have : (0 : Int) ≤ ((0 + e.Args.findIdx fun x => !allE kB x : Nat) : Int) := Int.natCast_nonneg _
        rw [if_pos rfl, Option.bind_some, onr_inr, Option.bind_some, Option.bind_some, decide_eq_true this]
      | false => rfl
theorem iConst_eq (e : Expr) : ieveryNode_iConstantValue_1_m e [1, 4, 5] = some (allE kB e) := recO_ev (fuE e) fun m hm => iConst_tot e m hm
theorem sConst_tot (e : Expr) : ∀ m, fuE e ≤ m → sl19Constant_n m e = some (allE kB e) := by
  induction e using tree_ind with
  | h e ih =>
    intro m hm
    obtain ⟨m, rfl⟩ : ∃ q, m = q + 1 := ⟨m - 1, by have := fu_pos e; omega⟩
    show sl19Constant_B (sl19Constant_n m) e = _
    unfold sl19Constant_B
    rw [findL_all2 (c := false) (q := allE kB) fun k x hx => by
      unfold sl19Constant_L1
      rw [ih x hx m (by have := fu_arg hx; omega), Option.bind_some]
      cases allE kB x <;> rfl]
    rw [allE_eq, Option.bind_some]
    cases e.Args.all (allE kB) with
    | true =>
      rw [if_pos rfl, onr_inl, Bool.and_true]
      unfold kB
      by_cases h1 : e.Kind = 1
      · simp [h1]
      · by_cases h4 : e.Kind = 4
        · simp [h4]
        · simp [h1, h4]
    | false => rw [Bool.and_false]; rfl
theorem sConst_eq (e : Expr) : sl19Constant_m e = some (allE kB e) := recO_ev (fuE e) fun m hm => sConst_tot e m hm
theorem eval_const {s s' : List Slot} {lit lit' : Int} {ids ids' : List Int} (e : Expr) : allE kB e = true → evalE s lit ids e = evalE s' lit' ids' e := by
  induction e using tree_ind with
  | h e ih =>
    intro h
    rw [allE_eq, Bool.and_eq_true, List.all_eq_true] at h
    have hm : e.Args.map (evalE s lit ids) = e.Args.map (evalE s' lit' ids') := List.map_congr_left fun x hx => ih x hx (h.2 x hx)
    have hk := h.1
    unfold kB at hk
    simp only [decide_eq_true_eq] at hk
    rw [evalE_eq, evalE_eq, hm]
    rcases hk with hk | hk | hk <;> simp [hk]
def constV (e : Expr) : Int × Bool := if validB e = true ∧ allE kB e = true then (evalE [] 0 [] e, true) else (0, false)
theorem sCV_eq {e : Expr} (h : cntE e ≤ 1099511627776) : sConstantValue_m e = some (constV e) := by
  unfold sConstantValue_m constV
  rw [sValid_eq h, Option.bind_some, sConst_eq]
  by_cases hv : validB e = true
  · rw [if_pos hv, Option.bind_some]
    by_cases hc : allE kB e = true
    · have : sl19Eval_m e [] 0 [] = some (evalE [] 0 [] e) := recO_ev (fuE e) fun m hm => (eval_tot [] 0 [] e m hm (valid_all hv)).1
      rw [if_pos hc, if_pos ⟨hv, hc⟩, this]; rfl
    · rw [if_neg hc, if_neg (fun q => hc q.2)]
  · rw [if_neg hv, if_neg (fun q => hv q.1)]
theorem iCV_eq {e : Expr} (h : cntE e ≤ 1099511627776) : iConstantValue_m e = some (constV e) := by
  unfold iConstantValue_m constV
  rw [iValid_eq h, Option.bind_some, iConst_eq]
  by_cases hv : validB e = true
  · rw [if_pos hv, Option.bind_some]
    by_cases hc : allE kB e = true
    · have : iEvalLocal_v2_m e [] 0 [] = some (evalE [] 0 [] e) := by
        have h1 := iEval_eq h [] 0 []
        unfold evalV at h1
        rw [if_pos hv] at h1
        exact h1
      rw [if_pos hc, if_pos ⟨hv, hc⟩, this]; rfl
    · rw [if_neg hc, if_neg (fun q => hc q.2)]
  · rw [if_neg hv, if_neg (fun q => hv q.1)]
/-! ### the law -/
theorem occIx_has (l : List Occurrence) (q : Occurrence) : whasOccurrence_m l q = some (decide (q ∈ l)) := by
  unfold whasOccurrence_m sOccurrenceIndex_m
  have : ∀ (l : List Occurrence) (i : Nat), findL (sOccurrenceIndex_L1 q) i l () = some (if q ∈ l then .inr ((i + l.findIdx (fun x => decide (x = q)) : Nat) : Int) else .inl ()) := by
    intro l
    induction l with
    | nil => intro i; rfl
    | cons x l ih =>
      intro i
      rw [findL]
      unfold sOccurrenceIndex_L1 at ih ⊢
      by_cases h : x = q
      · rw [if_pos h]; simp [h, List.findIdx_cons]
      · rw [if_neg h, Option.bind_some]
        show findL _ (i + 1) l () = _
        rw [ih]
        have h1 : (q ∈ x :: l) ↔ q ∈ l := by simp [Ne.symm h]
        simp only [h1, List.findIdx_cons, decide_eq_false h, cond_false]
        rw [show i + 1 + l.findIdx (fun x => decide (x = q)) = i + (l.findIdx (fun x => decide (x = q)) + 1) by omega]
  rw [this]
  by_cases h : q ∈ l
  · have h0 : (0 : Int) ≤ ((0 + l.findIdx (fun x => decide (x = q)) : Nat) : Int) := Int.natCast_nonneg _
    rw [if_pos h, Option.bind_some, onr_inr, Option.bind_some, decide_eq_true h, decide_eq_true h0]
  · rw [if_neg h, decide_eq_false h]; rfl
theorem slot_filter {p : Occurrence → Bool} {o : Occurrence} (ho : p o = true) : ∀ s : List Slot, slotV (s.filter fun x => p x.At) o = slotV s o
  | [] => rfl
  | x :: s => by
    have ih := slot_filter ho s
    unfold slotV at ih ⊢
    by_cases hx : p x.At = true
    · rw [List.filter_cons_of_pos (p := fun x : Slot => p x.At) hx]
      by_cases he : x.At = o
      · rw [List.find?_cons_of_pos (by simpa using he), List.find?_cons_of_pos (by simpa using he)]
      · rw [List.find?_cons_of_neg (by simpa using he), List.find?_cons_of_neg (by simpa using he)]; exact ih
    · rw [List.filter_cons_of_neg (p := fun x : Slot => p x.At) hx]
      have he : x.At ≠ o := fun e => hx (e ▸ ho)
      rw [List.find?_cons_of_neg (by simpa using he)]; exact ih
theorem local_run {uses : List Occurrence} : ∀ (l : List Slot) (i : Nat) (s : List Slot), s.length + l.length ≤ 1000000 → eachL (wFnLocal_L1 uses) i l s = some (s ++ l.filter fun x => decide (x.At ∈ uses))
  | [], i, s, _ => by simp [eachL]
  | x :: l, i, s, h => by
    simp only [List.length_cons] at h
    rw [eachL]
    unfold wFnLocal_L1
    rw [occIx_has, Option.bind_some]
    by_cases hx : x.At ∈ uses
    · rw [if_pos (by simpa using hx), grd_pos (by constructor <;> omega), Option.bind_some, Option.bind_some]
      have := local_run (uses := uses) l (i + 1) (s ++ [x]) (by simp; omega)
      unfold wFnLocal_L1 at this
      rw [this, List.filter_cons_of_pos (by simpa using hx)]; simp
    · rw [if_neg (by simpa using hx), Option.bind_some, Option.bind_some]
      have := local_run (uses := uses) l (i + 1) s (by omega)
      unfold wFnLocal_L1 at this
      rw [this, List.filter_cons_of_neg (by simpa using hx)]
theorem local_true (a : List UInt8) : wFnLocal_m a = some true := by
  unfold wFnLocal_m wbig_m
  rw [Option.bind_some]
  by_cases hb : (1048576 : Int) < (a.length : Int)
  · rw [if_pos (by simpa using hb)]
  rw [if_neg (by simpa using hb)]
  have hb' : a.length ≤ 1048576 := by omega
  obtain ⟨⟨e, s, lit, ids⟩, h1, h2, h3⟩ := drawEval_ok hb'
  dsimp only at h2 h3
  obtain ⟨c, h4, h5⟩ := drawConst_ok hb'
  have he : cntE e ≤ 1099511627776 := by have := cnt_of hb' h2; omega
  have hc : cntE c ≤ 1099511627776 := by have := cnt_of hb' h5; omega
  rw [h1, Option.bind_some]
  dsimp only
  rw [iEval_eq he, Option.bind_some, sEval_eq he, Option.bind_some, if_pos rfl, sAttr_eq (by omega), Option.bind_some, local_run s 0 [] (by simp; omega), Option.bind_some, List.nil_append, sValid_eq he, Option.bind_some]
  have hmid : (if validB e = true then (iEvalLocal_m e (s.filter fun x => decide (x.At ∈ attrs e)) lit ids).bind fun y11 => some (!(decide (y11 = evalV e s lit ids))) else some false) = some false := by
    by_cases hv : validB e = true
    · rw [if_pos hv, iEval_eq he, Option.bind_some]
      have : evalV e (s.filter fun x => decide (x.At ∈ attrs e)) lit ids = evalV e s lit ids := by
        unfold evalV
        rw [if_pos hv, if_pos hv]
        exact eval_uses e fun o ho => slot_filter (p := fun o => decide (o ∈ attrs e)) (by simpa using mem_attrs.2 ho) s
      rw [this]; simp
    · rw [if_neg hv]
  rw [hmid, Option.bind_some, if_neg (by simp)]
  have hL2 : findL (wFnLocal_L2 s) 0 s () = some (.inl ()) := by
    have := findL_all2 (c := false) (q := fun _ : Slot => true) (xs := s) (i := 0) (f := wFnLocal_L2 s) fun k x _ => by
      unfold wFnLocal_L2
      rw [iSlot_eq, Option.bind_some, sSlot_eq, Option.bind_some, if_pos rfl, if_pos rfl]
    rw [this, if_pos (by simp)]
  rw [hL2, Option.bind_some, onr_inl, h4, Option.bind_some, iCV_eq hc, Option.bind_some]
  rw [sCV_eq hc, Option.bind_some]
  unfold constV
  by_cases hq : validB c = true ∧ allE kB c = true
  · rw [if_pos hq]
    dsimp only
    rw [if_pos rfl, Option.bind_some, if_pos (by simp), if_pos rfl, iEval_eq hc, Option.bind_some, Option.bind_some, Option.bind_some]
    have : evalV c s lit ids = evalE [] 0 [] c := by
      unfold evalV
      rw [if_pos hq.1]
      exact eval_const c hq.2
    rw [this]; simp
  · rw [if_neg hq]
    rfl
end Go.Proofs.Ytonnooljidombaa

