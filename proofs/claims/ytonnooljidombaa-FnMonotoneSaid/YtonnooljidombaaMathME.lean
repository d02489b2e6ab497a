/- What those partial functions come to: plain lemmas on data; each bears its conditions in its statement. -/
import Derived.Test.YtonnooljidombaaMathM6
set_option linter.unusedVariables false
set_option linter.unusedSimpArgs false
set_option linter.ambiguousOpen false
set_option linter.unusedSectionVars false
set_option linter.unnecessarySimpa false
set_option linter.unusedVariables false
set_option linter.unusedSimpArgs false
namespace Go.Proofs.Ytonnooljidombaa
open Go Go.E
/-! ### trees of expressions -/
theorem fu_pos (e : Expr) : 1 ≤ fuE e := by rw [fuE_eq]; omega
theorem fu_arg {e x : Expr} (hx : x ∈ e.Args) : fuE x + 1 ≤ fuE e := by
  have := fuEs_mem hx
  have := fuE_eq e
  omega
theorem tree_ind {P : Expr → Prop} (h : ∀ e, (∀ x ∈ e.Args, P x) → P e) (e : Expr) : P e := by
  have : ∀ n e, fuE e ≤ n → P e := by
    intro n
    induction n with
    | zero => intro e he; have := fu_pos e; omega
    | succ n ih => intro e he; exact h e fun x hx => ih x (by have := fu_arg hx; omega)
  exact this _ e (Nat.le_refl _)
theorem findL_all2 {α ρ : Type} {c : ρ} {q : α → Bool} : ∀ {xs : List α} {i : Nat} {f : Nat → α → Unit → Option (Unit ⊕ ρ)}, (∀ k x, x ∈ xs → f k x () = some (if q x = true then .inl () else .inr c)) → findL f i xs () = some (if xs.all q = true then .inl () else .inr c)
  | [], i, f, h => rfl
  | x :: xs, i, f, h => by
    rw [findL, h i x (by simp)]
    by_cases hx : q x = true
    · rw [if_pos hx, Option.bind_some]
      show findL f (i + 1) xs () = _
      rw [findL_all2 fun k y hy => h k y (by simp [hy])]
      simp [hx]
    · rw [if_neg hx]; simp [hx]
mutual
def allE (p : Expr → Bool) : Expr → Bool
  | ⟨a0, a1, a2, a3, a4, a5, a6⟩ => p ⟨a0, a1, a2, a3, a4, a5, a6⟩ && allEs p a6
def allEs (p : Expr → Bool) : List Expr → Bool
  | [] => true
  | x :: xs => allE p x && allEs p xs
end
mutual
def cntE : Expr → Nat
  | ⟨_, _, _, _, _, _, a6⟩ => cntEs a6 + 1
def cntEs : List Expr → Nat
  | [] => 0
  | x :: xs => cntE x + cntEs xs
end
mutual
def depE : Expr → Nat
  | ⟨_, _, _, _, _, _, a6⟩ => depEs a6 + 1
def depEs : List Expr → Nat
  | [] => 0
  | x :: xs => max (depE x) (depEs xs)
end
theorem allEs_eq (p : Expr → Bool) : ∀ l, allEs p l = l.all (allE p)
  | [] => rfl
  | x :: xs => by rw [allEs, allEs_eq p xs]; rfl
theorem allE_eq (p : Expr → Bool) (e : Expr) : allE p e = (p e && e.Args.all (allE p)) := by
  cases e; rw [allE, allEs_eq]
theorem cntE_eq (e : Expr) : cntE e = cntEs e.Args + 1 := by cases e; rfl
theorem depE_eq (e : Expr) : depE e = depEs e.Args + 1 := by cases e; rfl
mutual
theorem cntE_len : ∀ e : Expr, cntE e ≤ 1 + Expr_szf e
  | ⟨a0, a1, a2, a3, a4, a5, a6⟩ => by
    have := cntEs_len a6
    simp only [cntE, Expr_szf]; omega
theorem cntEs_len : ∀ l : List Expr, cntEs l ≤ Expr_szs l
  | [] => by simp [cntEs]
  | x :: xs => by
    have h1 := cntE_len x
    have h2 := cntEs_len xs
    simp only [cntEs, Expr_szs]; omega
end
mutual
theorem dep_cnt : ∀ e : Expr, depE e ≤ cntE e
  | ⟨_, _, _, _, _, _, a6⟩ => by
    have := deps_cnt a6
    simp only [depE, cntE]; omega
theorem deps_cnt : ∀ l : List Expr, depEs l ≤ cntEs l
  | [] => Nat.le_refl _
  | x :: xs => by
    have h1 := dep_cnt x
    have h2 := deps_cnt xs
    simp only [depEs, cntEs]; omega
end
theorem cntEs_mem : ∀ {l : List Expr} {x : Expr}, x ∈ l → cntE x ≤ cntEs l
  | y :: l, x, h => by
    simp only [cntEs]
    rcases List.mem_cons.1 h with e | h
    · subst e; omega
    · have := cntEs_mem h; omega
theorem cnt_arg {e x : Expr} (hx : x ∈ e.Args) : cntE x + 1 ≤ cntE e := by
  have := cntEs_mem hx
  have := cntE_eq e
  omega
theorem max_if (a b : Nat) : (if (b : Int) > (a : Int) then (b : Int) else (a : Int)) = ((max a b : Nat) : Int) := by
  split <;> omega
theorem depth_run {f : Expr → Option Int} {g : Nat → Expr → Int → Option Int} (hg : ∀ k x s, g k x s = (f x).bind fun y => some (if y > s then y else s)) : ∀ (l : List Expr) (i s : Nat), (∀ x ∈ l, f x = some (depE x : Int)) → eachL g i l (s : Int) = some ((max s (depEs l) : Nat) : Int)
  | [], i, s, _ => by rw [eachL, depEs, Nat.max_zero]
  | x :: l, i, s, h => by
    rw [eachL, hg, h x (by simp), Option.bind_some, Option.bind_some, max_if, depth_run hg l (i + 1) _ fun y hy => h y (by simp [hy]), depEs, Nat.max_assoc]
theorem sMax_eq (a b : Int) : sl1Max_m a b = some (if b > a then b else a) := by
  unfold sl1Max_m
  by_cases h : b < a
  · rw [if_pos h, if_neg (by omega)]
  · rw [if_neg h]
    split
    · rfl
    · congr 1; omega
theorem iDepth_tot (e : Expr) : ∀ m, fuE e ≤ m → cntE e ≤ 1099511627776 → iDepthOfExpr_n m e = some (depE e : Int) ∧ sDepthOfExpr_n m e = some (depE e : Int) := by
  induction e using tree_ind with
  | h e ih =>
    intro m hm hc
    obtain ⟨m, rfl⟩ : ∃ q, m = q + 1 := ⟨m - 1, by have := fu_pos e; omega⟩
    show iDepthOfExpr_B (iDepthOfExpr_n m) e = _ ∧ sDepthOfExpr_B (sDepthOfExpr_n m) e = _
    unfold iDepthOfExpr_B sDepthOfExpr_B
    have hx : ∀ x ∈ e.Args, iDepthOfExpr_n m x = some (depE x : Int) ∧ sDepthOfExpr_n m x = some (depE x : Int) := fun x hx => ih x hx m (by have := fu_arg hx; omega) (by have := cnt_arg hx; omega)
    have k1 := depth_run (f := iDepthOfExpr_n m) (g := iDepthOfExpr_L1 (iDepthOfExpr_n m)) (fun k x s => rfl) e.Args 0 0 fun x h => (hx x h).1
    have k2 := depth_run (f := sDepthOfExpr_n m) (g := sDepthOfExpr_L1 (sDepthOfExpr_n m)) (fun k x s => by
      unfold sDepthOfExpr_L1
      congr 1; funext y
      rw [sMax_eq, Option.bind_some]) e.Args 0 0 fun x h => (hx x h).2
    rw [show ((0 : Nat) : Int) = 0 from rfl] at k1 k2
    have hd := dep_cnt e
    rw [depE_eq] at hd
    rw [k1, k2]
    have hg : I64 (((max 0 (depEs e.Args) : Nat) : Int) + 1) := by constructor <;> omega
    have he : ((max 0 (depEs e.Args) : Nat) : Int) + 1 = (depE e : Int) := by rw [depE_eq]; omega
    refine ⟨?_, ?_⟩
    · rw [Option.bind_some, grd_pos hg, he]
    · rw [Option.bind_some, grd_pos hg, he]
theorem sDepth_eq {e : Expr} (h : cntE e ≤ 1099511627776) : sDepthOfExpr_m e = some (depE e : Int) := recO_ev (fuE e) fun m hm => (iDepth_tot e m hm h).2
/-- what is left of a number of nodes -/
def leftI (a : Int) (n : Nat) : Int := if (n : Int) ≤ a then a - n else -1
theorem sLeft_tot (e : Expr) : ∀ m, fuE e ≤ m → ∀ a : Int, 0 ≤ a → a ≤ 1048576 → cntE e ≤ 1099511627776 → sl4Left_n m e a = some (leftI a (cntE e)) := by
  induction e using tree_ind with
  | h e ih =>
    intro m hm a h0 h1 hc
    obtain ⟨m, rfl⟩ : ∃ q, m = q + 1 := ⟨m - 1, by have := fu_pos e; omega⟩
    show sl4Left_B (sl4Left_n m) e a = _
    unfold sl4Left_B
    rw [grd_pos (by constructor <;> omega)]
    have hlen : e.Args.length ≤ cntE e := by
      rw [cntE_eq]
      have : ∀ l : List Expr, l.length ≤ cntEs l := by
        intro l
        induction l with
        | nil => simp
        | cons x l ih =>
          have := cntE_eq x
          simp only [cntEs, List.length_cons]; omega
      have := this e.Args; omega
    have key : ∀ (n k : Nat) (s : Int), k + n = e.Args.length → -1 ≤ s → s ≤ 1048576 → iterO (sl4Left_L1 (sl4Left_n m) e) (s, (k : Int)) = some (if 0 ≤ s then leftI s (cntEs (e.Args.drop k)) else s) := by
      intro n
      induction n with
      | zero =>
        intro k s hk _ _
        have hdrop : e.Args.drop k = [] := List.drop_eq_nil_of_le (by omega)
        refine iterO_done ?_
        unfold sl4Left_L1
        dsimp only
        rw [if_neg (by omega), hdrop]
        congr 2
        split
        · unfold leftI; simp [cntEs]; omega
        · rfl
      | succ n ihn =>
        intro k s hk hs1 hs2
        have hkl : k < e.Args.length := by omega
        by_cases hs : 0 ≤ s
        · have hxm : e.Args[k] ∈ e.Args := List.getElem_mem hkl
          have hr := ih _ hxm m (by have := fu_arg hxm; omega) s hs hs2 (by have := cnt_arg hxm; omega)
          have hstep : sl4Left_L1 (sl4Left_n m) e (s, (k : Int)) = some (.inl (leftI s (cntE e.Args[k]), ((k + 1 : Nat) : Int))) := by
            unfold sl4Left_L1
            dsimp only
            rw [if_pos (by omega), if_pos hs, grd_pos (by omega), Int.toNat_natCast, List.getElem?_eq_getElem hkl, Option.bind_some, hr, Option.bind_some, grd_pos (by constructor <;> omega)]
            rfl
          have hb1 : -1 ≤ leftI s (cntE e.Args[k]) := by unfold leftI; split <;> omega
          have hb2 : leftI s (cntE e.Args[k]) ≤ 1048576 := by unfold leftI; split <;> omega
          rw [iterO_next hstep, ihn (k + 1) _ (by omega) hb1 hb2, if_pos hs]
          have hd : e.Args.drop k = e.Args[k] :: e.Args.drop (k + 1) := List.drop_eq_getElem_cons hkl
          rw [hd, cntEs]
          congr 1
          unfold leftI
          split <;> split <;> (try split) <;> omega
        · refine iterO_done ?_
          unfold sl4Left_L1
          dsimp only
          rw [if_pos (by omega), if_neg hs, if_neg hs]
    have := key e.Args.length 0 (a - 1) (by omega) (by omega) (by omega)
    rw [show ((0 : Nat) : Int) = 0 from rfl] at this
    rw [this, Option.bind_some, List.drop_zero, cntE_eq]
    congr 1
    unfold leftI
    split <;> (try split) <;> (try split) <;> omega
theorem sLeft_eq {e : Expr} {a : Int} (h0 : 0 ≤ a) (h1 : a ≤ 1048576) (h : cntE e ≤ 1099511627776) : sl4Left_m e a = some (leftI a (cntE e)) := recO_ev (fuE e) fun m hm => sLeft_tot e m hm a h0 h1 h
end Go.Proofs.Ytonnooljidombaa

