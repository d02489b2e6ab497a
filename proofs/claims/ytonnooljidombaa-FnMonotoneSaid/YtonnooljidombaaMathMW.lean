/- What those partial functions come to: plain lemmas on data; each bears its conditions in its statement. -/
import Derived.Test.YtonnooljidombaaMathMV
set_option linter.unusedVariables false
set_option linter.unusedSimpArgs false
set_option linter.ambiguousOpen false
set_option linter.unusedSectionVars false
set_option linter.unnecessarySimpa false
set_option linter.unusedVariables false
set_option linter.unusedSimpArgs false
namespace Go.Proofs.Ytonnooljidombaa
open Go Go.E
/-! ### every node, and valid expressions -/
theorem sAll_tot (e : Expr) : ∀ m, fuE e ≤ m → sl4All_n m e = some (allE nodeB e) := by
  induction e using tree_ind with
  | h e ih =>
    intro m hm
    obtain ⟨m, rfl⟩ : ∃ q, m = q + 1 := ⟨m - 1, by have := fu_pos e; omega⟩
    show sl4All_B (sl4All_n m) e = _
    unfold sl4All_B
    rw [findL_all2 (c := false) (q := allE nodeB) fun k x hx => by
      unfold sl4All_L1
      rw [ih x hx m (by have := fu_arg hx; omega), Option.bind_some]
      cases allE nodeB x <;> rfl]
    rw [allE_eq, Option.bind_some]
    cases e.Args.all (allE nodeB) with
    | true => rw [if_pos rfl, onr_inl, sNode_eq, Bool.and_true]; rfl
    | false => rw [if_neg (by simp), onr_inr, Bool.and_false]
theorem sAll_eq (e : Expr) : sl4All_m e = some (allE nodeB e) := recO_ev (fuE e) fun m hm => sAll_tot e m hm
def validB (e : Expr) : Bool := decide (cntE e ≤ 24) && (decide (depE e ≤ 6) && allE nodeB e)
theorem sValid_eq {e : Expr} (h : cntE e ≤ 1099511627776) : sIsValidExpr_m e = some (validB e) := by
  unfold sIsValidExpr_m validB
  rw [sLeft_eq (by omega) (by omega) h, Option.bind_some, sDepth_eq h, sAll_eq]
  unfold leftI
  by_cases h1 : cntE e ≤ 24
  · have h24 : ((cntE e : Nat) : Int) ≤ 24 := by omega
    rw [if_pos h24, if_pos (by omega : (0 : Int) ≤ 24 - ((cntE e : Nat) : Int)), Option.bind_some, Option.bind_some]
    by_cases h2 : depE e ≤ 6
    · rw [if_pos (by simp; omega), Option.bind_some]; simp [h1, h2]
    · rw [if_neg (by simp; omega)]; simp [h1, h2]
  · have h24 : ¬ ((cntE e : Nat) : Int) ≤ 24 := by omega
    rw [if_neg h24, if_neg (by omega : ¬ (0 : Int) ≤ -1)]; simp [h1]
theorem node_arity {e : Expr} (h : nodeB e = true) : (e.Args.length : Int) = arity e.Kind := by
  unfold nodeB bareB at h
  simp only [Bool.and_eq_true, decide_eq_true_eq] at h
  exact h.1.2.1
theorem node_pos {e : Expr} (h : nodeB e = true) : 0 ≤ e.Pos ∧ e.Pos ≤ 3 := by
  unfold nodeB bareB kindB at h
  simp only [Bool.and_eq_true, decide_eq_true_eq, Bool.or_eq_true] at h
  obtain ⟨⟨_, _, h1, _⟩, h2⟩ := h
  rcases h1 with (h1 | h1) | h1
  · rw [if_neg (by omega), if_pos h1] at h2
    simp at h2; exact h2.1
  · rw [if_neg (by omega), if_neg (by omega), if_pos h1] at h2
    simpa using h2
  · omega
/-! ### values of expressions -/
def slotV (s : List Slot) (o : Occurrence) : Int := match s.find? fun x => decide (x.At = o) with
  | some x => x.Value
  | none => 0
theorem slot_run {f : Nat → Slot → Unit → Option (Unit ⊕ Int)} {o : Occurrence} (hf : ∀ k x, f k x () = if x.At = o then some (.inr x.Value) else some (.inl ())) : ∀ (s : List Slot) (i : Nat), ((findL f i s ()).bind <| onr (fun r1 => some r1) fun _ => some 0) = some (slotV s o)
  | [], i => rfl
  | x :: s, i => by
    rw [findL, hf]
    unfold slotV
    by_cases h : x.At = o
    · rw [if_pos h, List.find?_cons_of_pos (by simpa using h)]; rfl
    · rw [if_neg h, List.find?_cons_of_neg (by simpa using h), Option.bind_some]
      exact slot_run hf s (i + 1)
theorem sSlot_eq (s : List Slot) (o : Occurrence) : sSlotValue_m s o = some (slotV s o) := slot_run (fun k x => rfl) s 0
theorem iSlot_eq (s : List Slot) (o : Occurrence) : iSlotValue_m s o = some (slotV s o) := slot_run (fun k x => rfl) s 0
mutual
def evalE (s : List Slot) (lit : Int) (ids : List Int) : Expr → Int
  | ⟨k, n, p, _, _, nm, a⟩ =>
    if k = 1 then n else if k = 2 then lit else if k = 3 then slotV s ⟨p, nm⟩
    else if k = 4 then applyI n ((evalEs s lit ids a).getD 0 0) ((evalEs s lit ids a).getD 1 0)
    else if k = 5 then (if (evalEs s lit ids a).getD 0 0 = 0 then (evalEs s lit ids a).getD 2 0 else (evalEs s lit ids a).getD 1 0)
    else if k = 6 then (if p < (ids.length : Int) then ids.getD p.toNat 0 else 0) else 0
def evalEs (s : List Slot) (lit : Int) (ids : List Int) : List Expr → List Int
  | [] => []
  | x :: xs => evalE s lit ids x :: evalEs s lit ids xs
end
theorem evalEs_eq (s : List Slot) (lit : Int) (ids : List Int) : ∀ l, evalEs s lit ids l = l.map (evalE s lit ids)
  | [] => rfl
  | x :: xs => by rw [evalEs, evalEs_eq s lit ids xs]; rfl
theorem evalE_eq (s : List Slot) (lit : Int) (ids : List Int) (e : Expr) : evalE s lit ids e =
    if e.Kind = 1 then e.N else if e.Kind = 2 then lit else if e.Kind = 3 then slotV s ⟨e.Pos, e.Name⟩
    else if e.Kind = 4 then applyI e.N ((e.Args.map (evalE s lit ids)).getD 0 0) ((e.Args.map (evalE s lit ids)).getD 1 0)
    else if e.Kind = 5 then (if (e.Args.map (evalE s lit ids)).getD 0 0 = 0 then (e.Args.map (evalE s lit ids)).getD 2 0 else (e.Args.map (evalE s lit ids)).getD 1 0)
    else if e.Kind = 6 then (if e.Pos < (ids.length : Int) then ids.getD e.Pos.toNat 0 else 0) else 0 := by
  cases e
  rw [evalE, evalEs_eq]
theorem arg_some {e : Expr} {k : Nat} (h : k < e.Args.length) : ∃ x, e.Args[k]? = some x ∧ x ∈ e.Args ∧ ∀ f : Expr → Int, (e.Args.map f).getD k 0 = f x := by
  refine ⟨e.Args[k], List.getElem?_eq_getElem h, List.getElem_mem h, fun f => ?_⟩
  rw [List.getD_eq_getElem?_getD, List.getElem?_map, List.getElem?_eq_getElem h]; rfl
theorem eval_tot (s : List Slot) (lit : Int) (ids : List Int) (e : Expr) : ∀ m, fuE e ≤ m → allE nodeB e = true → sl19Eval_n m e s lit ids = some (evalE s lit ids e) ∧ ireader_eval_iEvalLocal_1_inowhere_n m s lit ids e = some (evalE s lit ids e) := by
  induction e using tree_ind with
  | h e ih =>
    intro m hm hv
    obtain ⟨m, rfl⟩ : ∃ q, m = q + 1 := ⟨m - 1, by have := fu_pos e; omega⟩
    show sl19Eval_B (sl19Eval_n m) e s lit ids = _ ∧ ireader_eval_iEvalLocal_1_inowhere_B (ireader_eval_iEvalLocal_1_inowhere_n m) s lit ids e = _
    rw [allE_eq, Bool.and_eq_true, List.all_eq_true] at hv
    obtain ⟨hn, ha⟩ := hv
    have har := node_arity hn
    have hpos := node_pos hn
    have hx : ∀ x ∈ e.Args, sl19Eval_n m x s lit ids = some (evalE s lit ids x) ∧ ireader_eval_iEvalLocal_1_inowhere_n m s lit ids x = some (evalE s lit ids x) := fun x h => ih x h m (by have := fu_arg h; omega) (ha x h)
    rw [evalE_eq]
    unfold sl19Eval_B ireader_eval_iEvalLocal_1_inowhere_B
    by_cases k1 : e.Kind = 1
    · simp only [if_pos k1]; exact ⟨trivial, trivial⟩
    simp only [if_neg k1]
    by_cases k2 : e.Kind = 2
    · simp only [if_pos k2]; exact ⟨trivial, trivial⟩
    simp only [if_neg k2]
    by_cases k3 : e.Kind = 3
    · simp only [if_pos k3]
      unfold iEvalLocal_1_m
      rw [sSlot_eq, iSlot_eq]; exact ⟨rfl, rfl⟩
    simp only [if_neg k3]
    by_cases k4 : e.Kind = 4
    · simp only [if_pos k4]
      have hl : e.Args.length = 2 := by rw [k4] at har; unfold arity at har; simp at har; omega
      obtain ⟨x, x1, x2, x3⟩ := arg_some (e := e) (k := 0) (by omega)
      obtain ⟨y, y1, y2, y3⟩ := arg_some (e := e) (k := 1) (by omega)
      rw [x3, y3, x1, y1]
      simp only [Option.bind_some, (hx x x2).1, (hx x x2).2, (hx y y2).1, (hx y y2).2, (sApply_eq _ _ _).1, (sApply_eq _ _ _).2]
      exact ⟨trivial, trivial⟩
    simp only [if_neg k4]
    by_cases k5 : e.Kind = 5
    · simp only [if_pos k5]
      have hl : e.Args.length = 3 := by rw [k5] at har; unfold arity at har; simp at har; omega
      obtain ⟨x, x1, x2, x3⟩ := arg_some (e := e) (k := 0) (by omega)
      obtain ⟨y, y1, y2, y3⟩ := arg_some (e := e) (k := 1) (by omega)
      obtain ⟨z, z1, z2, z3⟩ := arg_some (e := e) (k := 2) (by omega)
      rw [x3, y3, z3, x1, y1, z1]
      simp only [Option.bind_some, (hx x x2).1, (hx x x2).2, (hx y y2).1, (hx y y2).2, (hx z z2).1, (hx z z2).2]
      by_cases h0 : evalE s lit ids x = 0
      · simp only [if_pos h0]; exact ⟨trivial, trivial⟩
      · simp only [if_neg h0]; exact ⟨trivial, trivial⟩
    simp only [if_neg k5]
    by_cases k6 : e.Kind = 6
    · simp only [if_pos k6]
      rw [si_eq, Option.bind_some]
      by_cases hp : e.Pos < (ids.length : Int)
      · have hi : ids[e.Pos.toNat]? = some (ids.getD e.Pos.toNat 0) := by
          rw [List.getD_eq_getElem?_getD, List.getElem?_eq_getElem (by omega)]; rfl
        rw [if_pos (by simp; omega), if_pos hp, if_pos hp, grd_pos hpos.1, hi]; exact ⟨rfl, rfl⟩
      · rw [if_neg (by simp; omega), if_neg hp, if_neg hp]; exact ⟨rfl, rfl⟩
    simp only [if_neg k6]
    by_cases k8 : e.Kind = 8
    · simp only [if_pos k8]
      have hl : e.Args.length = 1 := by rw [k8] at har; unfold arity at har; simp at har; omega
      obtain ⟨x, x1, x2, x3⟩ := arg_some (e := e) (k := 0) (by omega)
      rw [x1]
      simp only [Option.bind_some, (hx x x2).2]
      exact ⟨trivial, rfl⟩
    simp only [if_neg k8]; exact ⟨trivial, trivial⟩
theorem valid_all {e : Expr} (h : validB e = true) : allE nodeB e = true := by
  unfold validB at h; simp only [Bool.and_eq_true] at h; exact h.2.2
def evalV (e : Expr) (s : List Slot) (lit : Int) (ids : List Int) : Int := if validB e = true then evalE s lit ids e else 0
theorem sEval_eq {e : Expr} (h : cntE e ≤ 1099511627776) (s : List Slot) (lit : Int) (ids : List Int) : sEvalLocal_m e s lit ids = some (evalV e s lit ids) := by
  unfold sEvalLocal_m evalV
  rw [sValid_eq h, Option.bind_some]
  by_cases hv : validB e = true
  · rw [if_pos hv, if_pos hv]
    have : sl19Eval_m e s lit ids = some (evalE s lit ids e) := recO_ev (fuE e) fun m hm => (eval_tot s lit ids e m hm (valid_all hv)).1
    rw [this]; rfl
  · rw [if_neg hv, if_neg hv]
/-- what is not used does not matter -/
theorem eval_uses {s s' : List Slot} {lit : Int} {ids : List Int} (e : Expr) : (∀ o ∈ usesE e, slotV s o = slotV s' o) → evalE s lit ids e = evalE s' lit ids e := by
  induction e using tree_ind with
  | h e ih =>
    intro h
    have hm : e.Args.map (evalE s lit ids) = e.Args.map (evalE s' lit ids) := List.map_congr_left fun x hx => ih x hx fun o ho => h o (by rw [usesE_eq]; exact List.mem_append.2 (.inr (mem_usesEs.2 ⟨x, hx, ho⟩)))
    rw [evalE_eq, evalE_eq, hm]
    by_cases k3 : e.Kind = 3
    · rw [h ⟨e.Pos, e.Name⟩ (by rw [usesE_eq, if_pos k3]; simp)]
    · simp only [if_neg k3]
end Go.Proofs.Ytonnooljidombaa

