/- What those partial functions come to: plain lemmas on data; each bears its conditions in its statement. -/
import Derived.Test.YtonnooljidombaaMathMZ
import Derived.Test.YtonnooljidombaaMathM8
set_option linter.unusedVariables false
set_option linter.unusedSimpArgs false
set_option linter.ambiguousOpen false
set_option linter.unusedSectionVars false
set_option linter.unnecessarySimpa false
set_option linter.unusedVariables false
set_option linter.unusedSimpArgs false
namespace Go.Proofs.Ytonnooljidombaa
open Go Go.E
/-! ### monotone expressions -/
mutual
def monoE (l : List Occurrence) : Expr → Bool
  | ⟨k, n, p, t, s, m, a⟩ =>
    if usesB ⟨k, n, p, t, s, m, a⟩ l = false ∨ k = 3 then true
    else if k = 5 ∧ (a.length : Int) = 3 then !usesB (a.getD 0 ⟨0, 0, 0, 0, ⟨#[]⟩, ⟨#[]⟩, []⟩) l && ((monoEs l a).getD 1 false && (monoEs l a).getD 2 false)
    else if k = 4 ∧ (a.length : Int) = 2 then
      if n = 6 ∨ n = 7 then (monoEs l a).getD 0 false && (monoEs l a).getD 1 false
      else if n = 8 ∨ n = 12 then (monoEs l a).getD 0 false && !usesB (a.getD 1 ⟨0, 0, 0, 0, ⟨#[]⟩, ⟨#[]⟩, []⟩) l
      else false
    else false
def monoEs (l : List Occurrence) : List Expr → List Bool
  | [] => []
  | x :: xs => monoE l x :: monoEs l xs
end
theorem monoEs_eq (l : List Occurrence) : ∀ a, monoEs l a = a.map (monoE l)
  | [] => rfl
  | x :: xs => by rw [monoEs, monoEs_eq l xs]; rfl
def zE : Expr := ⟨0, 0, 0, 0, ⟨#[]⟩, ⟨#[]⟩, []⟩
theorem monoE_eq (l : List Occurrence) (e : Expr) : monoE l e =
    if usesB e l = false ∨ e.Kind = 3 then true
    else if e.Kind = 5 ∧ (e.Args.length : Int) = 3 then !usesB (e.Args.getD 0 zE) l && ((e.Args.map (monoE l)).getD 1 false && (e.Args.map (monoE l)).getD 2 false)
    else if e.Kind = 4 ∧ (e.Args.length : Int) = 2 then
      if e.N = 6 ∨ e.N = 7 then (e.Args.map (monoE l)).getD 0 false && (e.Args.map (monoE l)).getD 1 false
      else if e.N = 8 ∨ e.N = 12 then (e.Args.map (monoE l)).getD 0 false && !usesB (e.Args.getD 1 zE) l
      else false
    else false := by
  cases e
  rw [monoE, monoEs_eq]; rfl
theorem arg_all {e : Expr} {k : Nat} (h : k < e.Args.length) : ∃ x, e.Args[k]? = some x ∧ x ∈ e.Args ∧ (∀ f : Expr → Bool, (e.Args.map f).getD k false = f x) ∧ e.Args.getD k zE = x ∧ ∀ f : Expr → Int, (e.Args.map f).getD k 0 = f x := by
  refine ⟨e.Args[k], List.getElem?_eq_getElem h, List.getElem_mem h, fun f => ?_, ?_, fun f => ?_⟩
  · rw [List.getD_eq_getElem?_getD, List.getElem?_map, List.getElem?_eq_getElem h]; rfl
  · rw [List.getD_eq_getElem?_getD, List.getElem?_eq_getElem h]; rfl
  · rw [List.getD_eq_getElem?_getD, List.getElem?_map, List.getElem?_eq_getElem h]; rfl
theorem mono_tot (l : List Occurrence) (e : Expr) : ∀ m, fuE e ≤ m → Sz.szd e ≤ 1048576 → sIsMonotone_n m e l = some (monoE l e) ∧ iIsMonotone_n m e l = some (monoE l e) := by
  induction e using tree_ind with
  | h e ih =>
    intro m hm hs
    obtain ⟨m, rfl⟩ : ∃ q, m = q + 1 := ⟨m - 1, by have := fu_pos e; omega⟩
    show sIsMonotone_B (sIsMonotone_n m) e l = _ ∧ iIsMonotone_B (iIsMonotone_n m) e l = _
    have hx : ∀ x ∈ e.Args, Sz.szd x ≤ 1048576 ∧ sIsMonotone_n m x l = some (monoE l x) ∧ iIsMonotone_n m x l = some (monoE l x) := fun x h => by
      have h1 := arg_sz h
      exact ⟨by omega, ih x h m (by have := fu_arg h; omega) (by omega)⟩
    have E0 := monoE_eq l e
    unfold sIsMonotone_B iIsMonotone_B
    rw [sUses_eq, iUses_eq hs, Option.bind_some, Option.bind_some]
    cases hu : usesB e l with
    | false =>
      rw [if_pos (.inl hu)] at E0
      rw [E0]; exact ⟨rfl, rfl⟩
    | true =>
    rw [if_pos rfl, Option.bind_some, Option.bind_some]
    by_cases h3 : e.Kind = 3
    · rw [if_pos (.inr h3)] at E0
      rw [E0]; simp [h3]
    rw [if_neg (by simp [hu, h3])] at E0
    by_cases h5 : e.Kind = 5
    · have h4 : ¬ e.Kind = 4 := by omega
      by_cases hl : (e.Args.length : Int) = 3
      · obtain ⟨x, x1, x2, x3, x4, _⟩ := arg_all (e := e) (k := 0) (by omega)
        obtain ⟨y, y1, y2, y3, y4, _⟩ := arg_all (e := e) (k := 1) (by omega)
        obtain ⟨z, z1, z2, z3, z4, _⟩ := arg_all (e := e) (k := 2) (by omega)
        rw [if_pos (show e.Kind = 5 ∧ (e.Args.length : Int) = 3 from ⟨h5, hl⟩), x4, y3, z3] at E0
        rw [E0]
        have a1 := iUses_eq (list := l) (hx x x2).1
        have a2 := sUses_eq x l
        have b1 := (hx y y2).2
        have c1 := (hx z z2).2
        refine ⟨?_, ?_⟩
        · simp only [h5, hl, x1, y1, z1, a2, b1.1, c1.1, Option.bind_some]
          cases usesB x l <;> cases monoE l y <;> cases monoE l z <;> simp
        · simp only [h5, hl, x1, y1, z1, a1, b1.2, c1.2, Option.bind_some]
          cases usesB x l <;> cases monoE l y <;> cases monoE l z <;> simp
      · rw [if_neg (fun q => hl q.2), if_neg (fun q => h4 q.1)] at E0
        rw [E0]; simp [h5, hl]
    · rw [if_neg (fun q => h5 q.1)] at E0
      by_cases h4 : e.Kind = 4
      · by_cases hl : (e.Args.length : Int) = 2
        · obtain ⟨x, x1, x2, x3, x4, _⟩ := arg_all (e := e) (k := 0) (by omega)
          obtain ⟨y, y1, y2, y3, y4, _⟩ := arg_all (e := e) (k := 1) (by omega)
          rw [if_pos (show e.Kind = 4 ∧ (e.Args.length : Int) = 2 from ⟨h4, hl⟩), x3, y3, y4] at E0
          rw [E0]
          have a1 := iUses_eq (list := l) (hx y y2).1
          have a2 := sUses_eq y l
          have b1 := (hx x x2).2
          have c1 := (hx y y2).2
          refine ⟨?_, ?_⟩
          · simp only [h4, hl, x1, y1, a2, b1.1, c1.1, Option.bind_some]
            by_cases n6 : e.N = 6
            · cases monoE l x <;> cases monoE l y <;> simp [n6]
            by_cases n7 : e.N = 7
            · cases monoE l x <;> cases monoE l y <;> simp [n7]
            by_cases n8 : e.N = 8
            · cases monoE l x <;> cases usesB y l <;> simp [n8]
            by_cases n12 : e.N = 12
            · cases monoE l x <;> cases usesB y l <;> simp [n12]
            · simp [n6, n7, n8, n12]
          · simp only [h4, hl, x1, y1, a1, b1.2, c1.2, Option.bind_some]
            by_cases n6 : e.N = 6
            · cases monoE l x <;> cases monoE l y <;> simp [n6]
            by_cases n7 : e.N = 7
            · cases monoE l x <;> cases monoE l y <;> simp [n7]
            by_cases n8 : e.N = 8
            · cases monoE l x <;> cases usesB y l <;> simp [n8]
            by_cases n12 : e.N = 12
            · cases monoE l x <;> cases usesB y l <;> simp [n12]
            · simp [n6, n7, n8, n12]
        · rw [if_neg (fun q => hl q.2)] at E0
          rw [E0]; simp [h4, hl]
      · rw [if_neg (fun q => h4 q.1)] at E0
        rw [E0]; simp [h3, h4, h5]
theorem sMono_eq {l : List Occurrence} {e : Expr} (h : Sz.szd e ≤ 1048576) : sIsMonotone_m e l = some (monoE l e) := recO_ev (fuE e) fun m hm => (mono_tot l e m hm h).1
theorem iMono_eq {l : List Occurrence} {e : Expr} (h : Sz.szd e ≤ 1048576) : iIsMonotone_m e l = some (monoE l e) := recO_ev (fuE e) fun m hm => (mono_tot l e m hm h).2
/-! ### sets of bits -/
theorem goAnd_toNat (x : Int) : (goAnd x 4095).toNat = (BitVec.ofInt 64 x).toNat &&& 4095 := by
  unfold goAnd
  have h2 : (BitVec.ofInt 64 4095).toNat = 4095 := by decide
  have h3 : (BitVec.ofInt 64 x &&& BitVec.ofInt 64 4095).toNat ≤ 4095 := by
    rw [BitVec.toNat_and, h2]; exact Nat.and_le_right
  rw [IntWalk.i64_in _ (by omega), BitVec.toNat_and, h2]; omega
theorem and_4095 {n : Nat} (h : n ≤ 4095) : n &&& 4095 = n := by
  have : (4095 : Nat) = 2 ^ 12 - 1 := by decide
  rw [this, Nat.and_two_pow_sub_one_eq_mod]
  exact Nat.mod_eq_of_lt (by omega)
theorem goAnd_id {x : Int} (h0 : 0 ≤ x) (h1 : x ≤ 4095) : goAnd x 4095 = x := by
  have h2 := goAnd_in x
  have h3 := goAnd_toNat x
  have h4 : (BitVec.ofInt 64 x).toNat = x.toNat := by
    rw [BitVec.toNat_ofInt, Int.emod_eq_of_lt h0 (by omega)]
  rw [h4, and_4095 (by omega)] at h3
  omega
theorem goAndNot_eq {x y : Int} (h0 : 0 ≤ x) (h1 : x ≤ 4095) (k0 : 0 ≤ y) (k1 : y ≤ 4095) : 0 ≤ goAndNot x y ∧ goAndNot x y ≤ 4095 ∧ ∀ i, (goAndNot x y).toNat.testBit i = (x.toNat.testBit i && !y.toNat.testBit i) := by
  have hx : (BitVec.ofInt 64 x).toNat = x.toNat := by rw [BitVec.toNat_ofInt, Int.emod_eq_of_lt h0 (by omega)]
  have hy : (BitVec.ofInt 64 y).toNat = y.toNat := by rw [BitVec.toNat_ofInt, Int.emod_eq_of_lt k0 (by omega)]
  have h3 : (BitVec.ofInt 64 x &&& ~~~BitVec.ofInt 64 y).toNat ≤ 4095 := by
    rw [BitVec.toNat_and, hx]; exact Nat.le_trans Nat.and_le_left (by omega)
  unfold goAndNot
  rw [IntWalk.i64_in _ (by omega)]
  refine ⟨Int.natCast_nonneg _, by omega, fun i => ?_⟩
  rw [Int.toNat_natCast, BitVec.testBit_toNat, BitVec.getLsbD_and, BitVec.getLsbD_not, ← BitVec.testBit_toNat, ← BitVec.testBit_toNat, hx, hy]
  by_cases hi : i < 64
  · simp [hi]
  · have : x.toNat.testBit i = false := Nat.testBit_lt_two_pow (Nat.lt_of_lt_of_le (by omega : x.toNat < 2 ^ 64) (Nat.pow_le_pow_right (by omega) (by omega)))
    simp [this]
/-- the bits of a value, as those of a set -/
def bitS (x : Int) (i : Nat) : Bool := (goAnd x 4095).toNat.testBit i
def subS (x y : Int) : Prop := ∀ i, bitS x i = true → bitS y i = true
theorem bit_or (a b : Nat) (ha : a ≤ 4095) (hb : b ≤ 4095) : a ||| b ≤ 4095 := by
  have : a ||| b < 2 ^ 12 := Nat.or_lt_two_pow (by omega) (by omega)
  omega
theorem coer2 (x : Int) : coerI x 2 = goAnd x 4095 := by unfold coerI; rw [if_neg (by omega), if_pos rfl]
/-- what an operator on sets gives: a set, and its bits -/
theorem opS {n a b : Int} (hn : n = 6 ∨ n = 7 ∨ n = 8 ∨ n = 12) : 0 ≤ applyI n a b ∧ applyI n a b ≤ 4095 ∧
    (n = 6 → ∀ i, bitS (applyI n a b) i = (bitS a i || bitS b i)) ∧ (n = 7 → ∀ i, bitS (applyI n a b) i = (bitS a i && bitS b i)) ∧ (n = 8 → ∀ i, bitS (applyI n a b) i = (bitS a i && !bitS b i)) ∧
    (n = 12 → ∃ c : Nat, ∀ a' i, bitS (applyI n a' b) i = (bitS a' i || c.testBit i)) := by
  have ga := goAnd_in a
  have gb := goAnd_in b
  rcases hn with rfl | rfl | rfl | rfl
  · have e : applyI 6 a b = (((goAnd a 4095).toNat ||| (goAnd b 4095).toNat : Nat) : Int) := by unfold applyI opI opT; simp [coer2]
    have hle := bit_or (goAnd a 4095).toNat (goAnd b 4095).toNat (by omega) (by omega)
    refine ⟨by rw [e]; omega, by rw [e]; omega, fun _ i => ?_, by simp, by simp, by simp⟩
    unfold bitS
    rw [goAnd_id (by rw [e]; omega) (by rw [e]; omega), e, Int.toNat_natCast, Nat.testBit_or]
  · have e : applyI 7 a b = (((goAnd a 4095).toNat &&& (goAnd b 4095).toNat : Nat) : Int) := by unfold applyI opI opT; simp [coer2]
    have hle : (goAnd a 4095).toNat &&& (goAnd b 4095).toNat ≤ 4095 := Nat.le_trans Nat.and_le_left (by omega)
    refine ⟨by rw [e]; omega, by rw [e]; omega, by simp, fun _ i => ?_, by simp, by simp⟩
    unfold bitS
    rw [goAnd_id (by rw [e]; omega) (by rw [e]; omega), e, Int.toNat_natCast, Nat.testBit_and]
  · have e : applyI 8 a b = goAndNot (goAnd a 4095) (goAnd b 4095) := by unfold applyI opI opT; simp [coer2]
    obtain ⟨h0, h1, h2⟩ := goAndNot_eq ga.1 ga.2 gb.1 gb.2
    refine ⟨by rw [e]; exact h0, by rw [e]; exact h1, by simp, by simp, fun _ i => ?_, by simp⟩
    unfold bitS
    rw [goAnd_id (by rw [e]; exact h0) (by rw [e]; exact h1), e, h2]
  · have e : ∀ a', applyI 12 a' b = if 0 ≤ coerI b 1 ∧ coerI b 1 ≤ 11 then (((goAnd a' 4095).toNat ||| 2 ^ (coerI b 1).toNat : Nat) : Int) else goAnd a' 4095 := fun a' => by
      have h2 : ∀ k : Nat, ((2 : Int) ^ k).toNat = 2 ^ k := fun k => by
        have : ((2 : Int) ^ k) = ((2 ^ k : Nat) : Int) := by simp
        rw [this, Int.toNat_natCast]
      unfold applyI opI opT
      simp [coer2, h2]
    by_cases hr : 0 ≤ coerI b 1 ∧ coerI b 1 ≤ 11
    · have hp : 2 ^ (coerI b 1).toNat ≤ 4095 := Nat.le_trans (Nat.pow_le_pow_right (by omega) (show (coerI b 1).toNat ≤ 11 by omega)) (by decide)
      have key : ∀ a', 0 ≤ applyI 12 a' b ∧ applyI 12 a' b ≤ 4095 := fun a' => by
        have g := goAnd_in a'
        have hle := bit_or (goAnd a' 4095).toNat (2 ^ (coerI b 1).toNat) (by omega) hp
        rw [e, if_pos hr]; omega
      refine ⟨(key a).1, (key a).2, by simp, by simp, by simp, fun _ => ⟨2 ^ (coerI b 1).toNat, fun a' i => ?_⟩⟩
      unfold bitS
      rw [goAnd_id (key a').1 (key a').2, e, if_pos hr, Int.toNat_natCast, Nat.testBit_or]
    · refine ⟨by rw [e, if_neg hr]; omega, by rw [e, if_neg hr]; omega, by simp, by simp, by simp, fun _ => ⟨0, fun a' i => ?_⟩⟩
      have g := goAnd_in a'
      unfold bitS
      rw [e, if_neg hr, goAnd_id g.1 g.2]; simp
theorem usesB_mem {e : Expr} {l : List Occurrence} (h : usesB e l = false) : ∀ o ∈ usesE e, o ∉ l := fun o ho hl => by
  have : usesB e l = true := by unfold usesB; rw [List.any_eq_true]; exact ⟨o, ho, by simpa using hl⟩
  rw [h] at this; cases this
theorem mono_sub {l : List Occurrence} {s s' : List Slot} {lit : Int} {ids : List Int} (e : Expr) : allE nodeB e = true → monoE l e = true → (∀ o ∈ usesE e, o ∉ l → slotV s o = slotV s' o) → (∀ o ∈ usesE e, subS (slotV s o) (slotV s' o)) → subS (evalE s lit ids e) (evalE s' lit ids e) := by
  induction e using tree_ind with
  | h e ih =>
    intro hv hm h1 h2
    cases hu : usesB e l with
    | false => rw [eval_uses e fun o ho => h1 o ho (usesB_mem hu o ho)]; exact fun _ h => h
    | true =>
    have hv' := hv
    rw [allE_eq, Bool.and_eq_true, List.all_eq_true] at hv'
    have har := node_arity hv'.1
    have hx : ∀ x ∈ e.Args, ∀ o ∈ usesE x, o ∈ usesE e := fun x hx o ho => by rw [usesE_eq]; exact List.mem_append.2 (.inr (mem_usesEs.2 ⟨x, hx, ho⟩))
    have ih' : ∀ x ∈ e.Args, monoE l x = true → subS (evalE s lit ids x) (evalE s' lit ids x) := fun x hxm hm => ih x hxm (hv'.2 x hxm) hm (fun o ho => h1 o (hx x hxm o ho)) fun o ho => h2 o (hx x hxm o ho)
    have eq' : ∀ x ∈ e.Args, usesB x l = false → evalE s lit ids x = evalE s' lit ids x := fun x hxm hu => eval_uses x fun o ho => h1 o (hx x hxm o ho) (usesB_mem hu o ho)
    rw [monoE_eq] at hm
    rw [evalE_eq, evalE_eq]
    by_cases h3 : e.Kind = 3
    · simp only [if_pos h3, if_neg (show ¬ e.Kind = 1 by omega), if_neg (show ¬ e.Kind = 2 by omega)]
      exact h2 ⟨e.Pos, e.Name⟩ (by rw [usesE_eq, if_pos h3]; simp)
    rw [if_neg (by simp [hu, h3])] at hm
    by_cases h5 : e.Kind = 5
    · have hl : e.Args.length = 3 := by rw [h5] at har; unfold arity at har; simp at har; omega
      obtain ⟨x, x1, x2, x3, x4, x5⟩ := arg_all (e := e) (k := 0) (by omega)
      obtain ⟨y, y1, y2, y3, y4, y5⟩ := arg_all (e := e) (k := 1) (by omega)
      obtain ⟨z, z1, z2, z3, z4, z5⟩ := arg_all (e := e) (k := 2) (by omega)
      rw [if_pos ⟨h5, by omega⟩, x4, y3, z3] at hm
      simp only [Bool.and_eq_true, Bool.not_eq_true'] at hm
      simp only [if_pos h5, if_neg h3, if_neg (show ¬ e.Kind = 1 by omega), if_neg (show ¬ e.Kind = 2 by omega), if_neg (show ¬ e.Kind = 4 by omega)]
      rw [x5, x5, y5, y5, z5, z5, eq' x x2 hm.1]
      by_cases h0 : evalE s' lit ids x = 0
      · rw [if_pos h0, if_pos h0]; exact ih' z z2 hm.2.2
      · rw [if_neg h0, if_neg h0]; exact ih' y y2 hm.2.1
    · rw [if_neg (fun q => h5 q.1)] at hm
      by_cases h4 : e.Kind = 4
      · have hl : e.Args.length = 2 := by rw [h4] at har; unfold arity at har; simp at har; omega
        obtain ⟨x, x1, x2, x3, x4, x5⟩ := arg_all (e := e) (k := 0) (by omega)
        obtain ⟨y, y1, y2, y3, y4, y5⟩ := arg_all (e := e) (k := 1) (by omega)
        rw [if_pos ⟨h4, by omega⟩, x3, y3, y4] at hm
        simp only [if_pos h4, if_neg h3, if_neg (show ¬ e.Kind = 1 by omega), if_neg (show ¬ e.Kind = 2 by omega)]
        rw [x5, x5, y5, y5]
        by_cases n67 : e.N = 6 ∨ e.N = 7
        · rw [if_pos n67, Bool.and_eq_true] at hm
          have sx := ih' x x2 hm.1
          have sy := ih' y y2 hm.2
          intro i hi
          rcases n67 with n | n
          · have o1 := (opS (n := e.N) (a := evalE s lit ids x) (b := evalE s lit ids y) (by omega)).2.2.1 n i
            have o2 := (opS (n := e.N) (a := evalE s' lit ids x) (b := evalE s' lit ids y) (by omega)).2.2.1 n i
            rw [o1] at hi; rw [o2]
            rcases Bool.or_eq_true _ _ ▸ hi with h | h
            · rw [sx i h]; rfl
            · rw [sy i h]; simp
          · have o1 := (opS (n := e.N) (a := evalE s lit ids x) (b := evalE s lit ids y) (by omega)).2.2.2.1 n i
            have o2 := (opS (n := e.N) (a := evalE s' lit ids x) (b := evalE s' lit ids y) (by omega)).2.2.2.1 n i
            rw [o1, Bool.and_eq_true] at hi; rw [o2, sx i hi.1, sy i hi.2]; rfl
        · rw [if_neg n67] at hm
          by_cases n812 : e.N = 8 ∨ e.N = 12
          · rw [if_pos n812, Bool.and_eq_true, Bool.not_eq_true'] at hm
            have sx := ih' x x2 hm.1
            rw [eq' y y2 hm.2]
            intro i hi
            rcases n812 with n | n
            · have o1 := (opS (n := e.N) (a := evalE s lit ids x) (b := evalE s' lit ids y) (by omega)).2.2.2.2.1 n i
              have o2 := (opS (n := e.N) (a := evalE s' lit ids x) (b := evalE s' lit ids y) (by omega)).2.2.2.2.1 n i
              rw [o1, Bool.and_eq_true] at hi; rw [o2, sx i hi.1, hi.2]; rfl
            · obtain ⟨c, hc⟩ := (opS (n := e.N) (a := evalE s lit ids x) (b := evalE s' lit ids y) (by omega)).2.2.2.2.2 n
              rw [hc] at hi ⊢
              rcases Bool.or_eq_true _ _ ▸ hi with h | h
              · rw [sx i h]; rfl
              · rw [h]; simp
          · rw [if_neg n812] at hm; cases hm
      · rw [if_neg (fun q => h4 q.1)] at hm; cases hm
/-! ### the draw -/
section
variable {b : List UInt8} {o : l1Cur} (hb : b.length ≤ 1048576)
include hb
theorem set_st : ∀ (d : Nat) (m : Nat), d < m → ∀ (l : List Occurrence) (a : Int) (o : l1Cur), a ≤ d + 1 → sl32Set_n (m + 1) l a o = sl32Set_n m l a o := by
  intro d
  induction d with
  | zero =>
    intro m hm l a o ha
    obtain ⟨m, rfl⟩ : ∃ q, m = q + 1 := ⟨m - 1, by omega⟩
    show sl32Set_B (sl32Set_n (m + 1)) l a o = sl32Set_B (sl32Set_n m) l a o
    unfold sl32Set_B
    rw [if_pos (by omega), if_pos (by omega)]
  | succ d ih =>
    intro m hm l a o ha
    obtain ⟨m, rfl⟩ : ∃ q, m = q + 1 := ⟨m - 1, by omega⟩
    have e : sl32Set_n (m + 1) l (a - 1) = sl32Set_n m l (a - 1) := funext fun o => ih m (by omega) l (a - 1) o (by omega)
    show sl32Set_B (sl32Set_n (m + 1)) l a o = sl32Set_B (sl32Set_n m) l a o
    unfold sl32Set_B
    rw [e]
theorem set_tot {l : List Occurrence} (hl : ∀ q ∈ l, q.Name.size ≤ 8) : ∀ (d : Nat) (m : Nat), d < m → ∀ (a : Int) (o : l1Cur), a ≤ d + 1 → -1000000 ≤ a → d ≤ 100000 → CB b o → Dr b (fun e => Sz.szd e ≤ fb d) (sl32Set_n m l a o) := by
  intro d
  induction d with
  | zero =>
    intro m hm a o ha _ _ h
    obtain ⟨m, rfl⟩ : ∃ q, m = q + 1 := ⟨m - 1, by omega⟩
    show Dr b _ (sl32Set_B (sl32Set_n m) l a o)
    unfold sl32Set_B
    rw [if_pos (by omega)]
    refine (leaf_ok hb 2 hl h).bind ?_
    rintro ⟨e, z⟩ ⟨h1, h2⟩
    exact .ret ⟨Nat.le_trans h1 (by have := fb_pos hb 0; omega), h.mk' h2⟩
  | succ d ih =>
    intro m hm a o ha h0 hd h
    obtain ⟨m, rfl⟩ : ∃ q, m = q + 1 := ⟨m - 1, by omega⟩
    have hf := fb_pos hb d
    have hs := fb_succ hb d
    show Dr b _ (sl32Set_B (sl32Set_n m) l a o)
    unfold sl32Set_B
    by_cases ha2 : a < 2
    · rw [if_pos ha2]
      refine (leaf_ok hb 2 hl h).bind ?_
      rintro ⟨e, z⟩ ⟨h1, h2⟩
      exact .ret ⟨Nat.le_trans h1 (by omega), h.mk' h2⟩
    rw [if_neg ha2]
    have ih' : ∀ {o : l1Cur}, CB b o → Dr b (fun e => Sz.szd e ≤ fb d) (sl32Set_n m l (a - 1) o) := fun h => ih m (by omega) (a - 1) _ (by omega) (by omega) (by omega) h
    have hg : I64 (a - 1) := by constructor <;> omega
    refine (once_ok hb 3 h).bind ?_
    rintro ⟨y2, z2⟩ ⟨_, h2⟩
    refine .ite (fun _ => ?_) fun _ => ?_
    · refine (leaf_ok hb 2 hl (h.mk' h2)).bind ?_
      rintro ⟨e, z⟩ ⟨h1, h2⟩
      exact .ret ⟨Nat.le_trans h1 (by omega), h.mk' h2⟩
    refine .grd hg ((ih' (h.mk' h2)).bind ?_)
    rintro ⟨e, z4⟩ ⟨s4, h4⟩
    refine (below_ok hb 6 (h.mk' h4)).bind ?_
    rintro ⟨y5, z5⟩ ⟨_, h5⟩
    have s4' : Sz.szd e ≤ fb d := s4
    have fin : ∀ {R : Option (List Expr × Int × Int × Int × Int × Int × Int × ByteArray × ByteArray)}, Ok (fun q => Sz.szd (⟨q.2.2.2.1, q.2.2.2.2.1, q.2.2.2.2.2.1, q.2.2.2.2.2.2.1, q.2.2.2.2.2.2.2.1, q.2.2.2.2.2.2.2.2, q.1⟩ : Expr) ≤ fb (d + 1) ∧ 0 ≤ q.2.1) R →
        Dr b (fun e => Sz.szd e ≤ fb (d + 1)) (R.bind fun (s1, s2, s3, s4, s5, s6, s7, s8, s9) => some ((⟨s4, s5, s6, s7, s8, s9, s1⟩ : Expr), (⟨o.b, s2, s3⟩ : l1Cur))) := fun hR => by
      refine hR.bind ?_
      rintro ⟨q1, q2, q3, q4, q5, q6, q7, q8, q9⟩ ⟨r1, r2⟩
      exact .ret ⟨r1, r2, h.2⟩
    refine .ite (fun _ => fin ?_) fun _ => .ite (fun _ => fin ?_) fun _ => .ite (fun _ => fin ?_) fun _ => fin ?_
    · refine .grd hg ((ih' (h.mk' h5)).bind ?_)
      rintro ⟨e2, z⟩ ⟨s, h6⟩
      refine .ret ⟨?_, h6.1⟩
      dsimp only at s ⊢
      rw [sz_two hb, nil_size hb]; omega
    · refine (below_ok hb 64 (h.mk' h5)).bind ?_
      rintro ⟨y8, z7⟩ ⟨_, h7⟩
      refine .ret ⟨?_, h7.1⟩
      dsimp only
      rw [sz_two hb, sz_nil hb, nil_size hb]; omega
    · refine (below_ok hb 9 (h.mk' h5)).bind ?_
      rintro ⟨y8, z7⟩ ⟨_, h7⟩
      refine .ret ⟨?_, h7.1⟩
      dsimp only
      rw [sz_two hb, sz_nil hb, nil_size hb]; omega
    · refine .grd hg ((ih' (h.mk' h5)).bind ?_)
      rintro ⟨e2, z⟩ ⟨s, h6⟩
      refine .ret ⟨?_, h6.1⟩
      dsimp only at s ⊢
      rw [sz_two hb, nil_size hb]; omega
theorem set_ok {l : List Occurrence} (hl : ∀ q ∈ l, q.Name.size ≤ 8) (d : Nat) {a : Int} (ha : a ≤ d + 1) (h0 : -1000000 ≤ a) (hd : d ≤ 100000) (h : CB b o) : Dr b (fun e => Sz.szd e ≤ fb d) (sl32Set_m l a o) :=
  recO_st (g := fun n => sl32Set_n n l a o) (N := d + 1) (fun n hn => set_st hb d n (by omega) l a o ha) (set_tot hb hl d (d + 1) (by omega) a o ha h0 hd h)
theorem drawUses_ok : Ok (fun q => Sz.szd q.1 ≤ 40000) (sDrawUsesAny_m b) := by
  unfold sDrawUsesAny_m
  have hl3 : ∀ q ∈ [(⟨0, (⟨#[97]⟩ : ByteArray)⟩ : Occurrence), (⟨1, (⟨#[98]⟩ : ByteArray)⟩ : Occurrence), (⟨1, (⟨#[97]⟩ : ByteArray)⟩ : Occurrence)], q.Name.size ≤ 8 := fun q hq => by
    simp only [List.mem_cons, List.not_mem_nil, or_false] at hq
    rcases hq with hq | hq | hq <;> rw [hq] <;> decide
  refine (new_ok hb).bind fun o h => ?_
  refine (once_ok hb 3 h).bind ?_
  rintro ⟨y2, z1⟩ ⟨_, h1⟩
  refine .ite (fun _ => ?_) fun _ => ?_
  · refine (bent_ok hb (h.mk' h1)).bind ?_
    rintro ⟨e, z⟩ ⟨s, _⟩
    exact .ret (by dsimp only at s ⊢; omega)
  · refine (set_ok hb hl3 3 (a := 4) (by omega) (by omega) (by omega) (h.mk' h1)).bind ?_
    rintro ⟨e, z3⟩ ⟨s3, h3⟩
    have s3' : Sz.szd e ≤ 1280 := s3
    refine (once_ok hb 3 (h.mk' h3)).bind ?_
    rintro ⟨y5, z4⟩ ⟨_, h4⟩
    have tl : ∀ {i g : Int}, 0 ≤ i → Ok (fun _ => True) ((sl1Below_m 4 (⟨o.b, i, g⟩ : l1Cur)).bind fun (y8, z6) => grd (0 ≤ y8) <| grd (y8.toNat ≤ [(⟨0, (⟨#[97]⟩ : ByteArray)⟩ : Occurrence), (⟨1, (⟨#[98]⟩ : ByteArray)⟩ : Occurrence), (⟨1, (⟨#[97]⟩ : ByteArray)⟩ : Occurrence)].length) <|
        some (([(⟨0, (⟨#[97]⟩ : ByteArray)⟩ : Occurrence), (⟨1, (⟨#[98]⟩ : ByteArray)⟩ : Occurrence), (⟨1, (⟨#[97]⟩ : ByteArray)⟩ : Occurrence)].take y8.toNat), z6.i, z6.h)) := fun {i g} hi => by
      refine (below_ok hb 4 (o := ⟨o.b, i, g⟩) ⟨hi, h.2⟩).bind ?_
      rintro ⟨y, z⟩ ⟨⟨a1, a2, _⟩, _⟩
      have := a2 (by omega)
      dsimp only at a1 this
      exact .grd a1 (.grd (by show y.toNat ≤ 3; omega) (.ret trivial))
    refine .ite (fun _ => ?_) fun _ => ?_
    · refine Ok.bind (Q := fun q => Sz.szd (⟨q.2.2.2.1, q.2.2.2.2.1, q.2.2.2.2.2.1, q.2.2.2.2.2.2.1, q.2.2.2.2.2.2.2.1, q.2.2.2.2.2.2.2.2, q.1⟩ : Expr) ≤ 40000 ∧ 0 ≤ q.2.1) ?_ ?_
      · refine (set_ok hb hl3 1 (a := 2) (by omega) (by omega) (by omega) (h.mk' h4)).bind ?_
        rintro ⟨e2, z5⟩ ⟨s5, h5⟩
        have s5' : Sz.szd e2 ≤ 80 := s5
        refine .ret ⟨?_, h5.1⟩
        dsimp only
        rw [sz_two hb, nil_size hb]; omega
      · rintro ⟨q1, q2, q3, q4, q5, q6, q7, q8, q9⟩ ⟨r1, r2⟩
        refine (tl r2).bind ?_
        rintro ⟨t1, t2, t3⟩ _
        exact .ret r1
    · refine (tl h4.1).bind ?_
      rintro ⟨t1, t2, t3⟩ _
      exact .ret (by dsimp only; omega)
end
end Go.Proofs.Ytonnooljidombaa

