/- What those partial functions come to: plain lemmas on data; each bears its conditions in its statement. -/
import Derived.Test.YtonnooljidombaaMathMDr
set_option linter.unusedVariables false
set_option linter.unusedSimpArgs false
set_option linter.ambiguousOpen false
set_option linter.unusedSectionVars false
set_option linter.unnecessarySimpa false
set_option linter.unusedVariables false
set_option linter.unusedSimpArgs false
namespace Go.Proofs.Ytonnooljidombaa
open Go Go.E
theorem add_eq {r : Relation} (h : r.Rows.length ≤ 1048576) (i k : Int) : sAddPair_m r i k = some (addP r i k) := by
  unfold sAddPair_m
  simp only [copy_some h, sIsValid_eq, sl1In_eq, Option.bind_some, decide_eq_true_eq]
  by_cases hv : Valid r
  · have hv1 := hv.1; have hv2 := hv.2.1; have hv3 := hv.2.2.1
    rw [if_pos hv, grd_pos (by constructor <;> omega)]; simp only [Option.bind_some, Bool.false_eq_true, if_true, if_false, decide_eq_true_eq]
    by_cases hi : 0 ≤ i ∧ i ≤ r.N - 1
    · rw [if_pos hi, grd_pos (by constructor <;> omega)]; simp only [Option.bind_some, Bool.false_eq_true, if_true, if_false, decide_eq_true_eq]
      by_cases hk : 0 ≤ k ∧ k ≤ r.N - 1
      · obtain ⟨x, hx⟩ : ∃ x, r.Rows[i.toNat]? = some x := ⟨_, List.getElem?_eq_getElem (by omega)⟩
        have hrow := hv.row (i := i) hi hx
        rw [if_pos hk, grd_pos hi.1, hx, Option.bind_some, grd_pos hk.1, grd_pos ⟨hk.1, by omega⟩, grd_pos ⟨hrow.2.1, Int.natCast_nonneg _⟩]
        have e : addP r i k = withRow r i (orI (rowAt r i) ((2 ^ k.toNat : Nat) : Int)) := if_pos ⟨hv, hi, hk⟩
        rw [e, hrow.1]; rfl
      · rw [if_neg hk]
        have e : addP r i k = r := if_neg fun h => hk h.2.2
        rw [e]
    · rw [if_neg hi]; simp only [Option.bind_some, Bool.false_eq_true, if_true, if_false, decide_eq_true_eq]
      have e : addP r i k = r := if_neg fun h => hi h.2.1
      rw [e]
  · rw [if_neg hv]; simp only [Option.bind_some, Bool.false_eq_true, if_true, if_false, decide_eq_true_eq]
    have e : addP r i k = r := if_neg fun h => hv h.1
    rw [e]
theorem empty_eq {n : Int} (h0 : 0 ≤ n) (h1 : n ≤ 16) : sEmptyRelation_m n = some ⟨n, List.replicate n.toNat 0⟩ := by
  unfold sEmptyRelation_m
  rw [sl1In_eq, Option.bind_some, if_pos (by simp; omega), grd_pos (by omega)]
theorem addP_len (r : Relation) (i k : Int) : (addP r i k).Rows.length = r.Rows.length ∧ (addP r i k).N = r.N := by
  unfold addP
  split
  · exact ⟨by simp [withRow], rfl⟩
  · exact ⟨rfl, rfl⟩
theorem drawRel_some {o : l1Cur} (h : CurOk o) : ∃ r z, sl22Draw_m o = some (r, z) ∧ r.Rows.length ≤ 17 ∧ -1 ≤ r.N ∧ r.N ≤ 17 ∧ CurOk z ∧ z.b = o.b := by
  obtain ⟨n, z1, h1, h2, h3, h3'⟩ := pickInt_some h (l := [0, 1, 2, 3, 4, 5, 8, 16]) (by simp)
  have hn : 0 ≤ n ∧ n ≤ 16 := by simp at h2; omega
  obtain ⟨y3, z2, a1, a2, a3, _, a4, _⟩ := below_some (o := ⟨o.b, z1.i, z1.h⟩) ⟨h3.1, h.2⟩ (2 * n + 1)
  have hloop := eachN_ok (P := fun _ (s : List Int × Int × Int × Int) => s.1.length = n.toNat ∧ 0 ≤ s.2.1 ∧ s.2.2.2 = n) (f := sl22Draw_L1 o n) (n := y3.toNat) (i := 0) (s := (List.replicate n.toNat 0, z2.i, z2.h, n)) ⟨by simp, a4.1, rfl⟩ (fun k s _ _ hs => by
    obtain ⟨s1, s2, s3, s4⟩ := s
    obtain ⟨p1, p2, p3⟩ := hs
    dsimp only at p1 p2 p3
    subst p3
    obtain ⟨y4, z4, b1, b2, b3, _, b4, _⟩ := below_some (o := ⟨o.b, s2, s3⟩) ⟨p2, h.2⟩ s4
    obtain ⟨y5, z5, c1, c2, c3, _, c4, _⟩ := below_some (o := ⟨o.b, z4.i, z4.h⟩) ⟨b4.1, h.2⟩ s4
    have hl := addP_len ⟨s4, s1⟩ y4 y5
    refine ⟨((addP ⟨s4, s1⟩ y4 y5).Rows, z5.i, z5.h, (addP ⟨s4, s1⟩ y4 y5).N), ?_, hl.1.trans p1, c4.1, hl.2⟩
    unfold sl22Draw_L1
    dsimp only
    rw [b1, Option.bind_some]
    dsimp only
    rw [c1, Option.bind_some]
    dsimp only
    rw [add_eq (by show s1.length ≤ _; omega), Option.bind_some])
  obtain ⟨⟨s1, s2, s3, s4⟩, e1, p1, p2, p3⟩ := hloop
  dsimp only at p1 p2 p3
  subst p3
  obtain ⟨y7, z6, d1, d2, d3, _, d4, _⟩ := below_some (o := ⟨o.b, s2, s3⟩) ⟨p2, h.2⟩ 16
  unfold sl22Draw_m
  rw [h1, Option.bind_some]
  dsimp only
  rw [empty_eq hn.1 hn.2, Option.bind_some, grd_pos (by constructor <;> omega), grd_pos (by constructor <;> omega), a1, Option.bind_some]
  dsimp only
  rw [e1, Option.bind_some]
  dsimp only
  rw [d1, Option.bind_some]
  dsimp only
  by_cases g0 : y7 = 0
  · rw [if_pos g0, grd_pos (by constructor <;> omega)]
    exact ⟨_, _, rfl, by show s1.length ≤ 17; omega, by show -1 ≤ s4 + 1; omega, by show s4 + 1 ≤ 17; omega, ⟨d4.1, h.2⟩, rfl⟩
  · rw [if_neg g0]
    by_cases g1 : y7 = 1
    · rw [if_pos g1, grd_pos (by constructor <;> omega)]
      exact ⟨_, _, rfl, by show (s1 ++ [0]).length ≤ 17; simp; omega, by show -1 ≤ s4; omega, by show s4 ≤ 17; omega, ⟨d4.1, h.2⟩, rfl⟩
    · rw [if_neg g1]
      by_cases g2 : y7 = 2
      · rw [if_pos g2]
        by_cases g3 : 0 < s4
        · obtain ⟨y8, z7, f1, f2, f3, _⟩ := pickInt_some (o := ⟨o.b, z6.i, z6.h⟩) ⟨d4.1, h.2⟩ (l := [-1, 65536, 1099511627776]) (by simp)
          obtain ⟨x, hx⟩ : ∃ x, s1[0]? = some x := ⟨_, List.getElem?_eq_getElem (by omega)⟩
          rw [if_pos g3, f1, Option.bind_some]
          dsimp only
          rw [hx, Option.bind_some]
          exact ⟨_, _, rfl, by show (List.set s1 0 y8).length ≤ 17; simp; omega, by show -1 ≤ s4; omega, by show s4 ≤ 17; omega, ⟨f3.1, h.2⟩, rfl⟩
        · rw [if_neg g3]
          exact ⟨_, _, rfl, by show s1.length ≤ 17; omega, by show -1 ≤ s4; omega, by show s4 ≤ 17; omega, ⟨d4.1, h.2⟩, rfl⟩
      · rw [if_neg g2]
        exact ⟨_, _, rfl, by show s1.length ≤ 17; omega, by show -1 ≤ s4; omega, by show s4 ≤ 17; omega, ⟨d4.1, h.2⟩, rfl⟩
/-! ### the closure -/
theorem bit_test (x k : Int) : bit x k ↔ x.toNat.testBit k.toNat = true := by
  unfold bit
  rw [Nat.testBit_eq_decide_div_mod_eq, Nat.shiftRight_eq_div_pow]
  simp [Nat.and_one_is_mod]
/-- one step: all rows that lead to k take k's row -/
def stepK (k : Nat) (s : List Int) : List Int := s.map fun x => if x.toNat.testBit k = true then orI x (s.getD k 0) else x
def closeK (s : List Int) : Nat → List Int
  | 0 => s
  | m + 1 => stepK m (closeK s m)
/-- rows of n elements -/
def RowsOk (n : Nat) (s : List Int) : Prop := s.length = n ∧ ∀ x ∈ s, 0 ≤ x ∧ x.toNat < 2 ^ n
theorem orI_nonneg (x y : Int) : 0 ≤ orI x y := by unfold orI; omega
theorem orI_toNat (x y : Int) : (orI x y).toNat = x.toNat ||| y.toNat := by unfold orI; omega
theorem getD_ok {n : Nat} {s : List Int} (h : RowsOk n s) (k : Nat) : 0 ≤ s.getD k 0 ∧ (s.getD k 0).toNat < 2 ^ n := by
  rw [List.getD_eq_getElem?_getD]
  cases hk : s[k]? with
  | none => simp; exact Nat.two_pow_pos n
  | some x => exact h.2 x (List.mem_of_getElem? hk)
theorem stepK_ok {n k : Nat} {s : List Int} (h : RowsOk n s) : RowsOk n (stepK k s) := by
  refine ⟨by unfold stepK; rw [List.length_map]; exact h.1, fun x hx => ?_⟩
  unfold stepK at hx
  obtain ⟨y, hy, rfl⟩ := List.mem_map.1 hx
  have h1 := h.2 y hy
  split
  · exact ⟨orI_nonneg _ _, by rw [orI_toNat]; exact Nat.or_lt_two_pow h1.2 (getD_ok h k).2⟩
  · exact h1
theorem closeK_ok {n : Nat} {s : List Int} (h : RowsOk n s) : ∀ m, RowsOk n (closeK s m)
  | 0 => h
  | m + 1 => stepK_ok (closeK_ok h m)
/-- does row i lead to j? -/
def Rl (s : List Int) (i j : Nat) : Prop := (s.getD i 0).toNat.testBit j = true
theorem Rl_step {n k : Nat} {s : List Int} (h : RowsOk n s) {i : Nat} (hi : i < n) (j : Nat) : Rl (stepK k s) i j ↔ Rl s i j ∨ (Rl s i k ∧ Rl s k j) := by
  unfold Rl
  have hs : ∃ x, s[i]? = some x := ⟨_, List.getElem?_eq_getElem (by rw [h.1]; exact hi)⟩
  obtain ⟨x, hx⟩ := hs
  have e1 : s.getD i 0 = x := by rw [List.getD_eq_getElem?_getD, hx]; rfl
  have e2 : (stepK k s).getD i 0 = if x.toNat.testBit k = true then orI x (s.getD k 0) else x := by
    unfold stepK
    rw [List.getD_eq_getElem?_getD, List.getElem?_map, hx]; rfl
  rw [e1, e2]
  by_cases hb : x.toNat.testBit k = true
  · rw [if_pos hb, orI_toNat, Nat.testBit_or, Bool.or_eq_true]; simp [hb]
  · rw [if_neg hb]; simp [hb]
theorem Rl_lt {n : Nat} {s : List Int} (h : RowsOk n s) {i j : Nat} (hR : Rl s i j) : j < n := by
  unfold Rl at hR
  have h1 := (getD_ok h i).2
  apply Decidable.byContradiction
  intro hj
  have : (s.getD i 0).toNat.testBit j = false := Nat.testBit_lt_two_pow (Nat.lt_of_lt_of_le h1 (Nat.pow_le_pow_right (by omega) (by omega)))
  rw [this] at hR; cases hR
theorem Rl_row {n : Nat} {s : List Int} (h : RowsOk n s) {i j : Nat} (hR : Rl s i j) : i < n := by
  unfold Rl at hR
  apply Decidable.byContradiction
  intro hi
  have : s.getD i 0 = 0 := by rw [List.getD_eq_getElem?_getD, List.getElem?_eq_none (by rw [h.1]; omega)]; rfl
  rw [this] at hR; simp at hR
theorem Rl_grow {n : Nat} {s : List Int} (h : RowsOk n s) : ∀ (m i j : Nat), Rl s i j → Rl (closeK s m) i j
  | 0, _, _, hR => hR
  | m + 1, i, j, hR => by
    have hR' := Rl_grow h m i j hR
    exact (Rl_step (closeK_ok h m) (Rl_row (closeK_ok h m) hR') j).2 (.inl hR')
/-- by way of all that have been looked at, it is transitive -/
theorem Rl_trans {n : Nat} {s : List Int} (h : RowsOk n s) : ∀ (m k i j : Nat), k < m → m ≤ n → Rl (closeK s m) i k → Rl (closeK s m) k j → Rl (closeK s m) i j := by
  intro m
  induction m with
  | zero => intro k i j hk; omega
  | succ m ih =>
    intro k i j hk hm h1 h2
    have hok := closeK_ok h m
    have hik := Rl_row (closeK_ok h (m + 1)) h1
    have hkj := Rl_row (closeK_ok h (m + 1)) h2
    have s1 := (Rl_step (k := m) hok hik k).1 h1
    have s2 := (Rl_step (k := m) hok hkj j).1 h2
    refine (Rl_step (k := m) hok hik j).2 ?_
    by_cases hkm : k = m
    · subst hkm
      have t1 : Rl (closeK s k) i k := by rcases s1 with h | h; exact h; exact h.1
      have t2 : Rl (closeK s k) k j := by rcases s2 with h | h; exact h; exact h.2
      exact .inr ⟨t1, t2⟩
    · have hk' : k < m := by omega
      rcases s1 with a | ⟨a1, a2⟩ <;> rcases s2 with b | ⟨b1, b2⟩
      · exact .inl (ih k i j hk' (by omega) a b)
      · exact .inr ⟨ih k i m hk' (by omega) a b1, b2⟩
      · exact .inr ⟨a1, ih k m j hk' (by omega) a2 b⟩
      · exact .inr ⟨a1, b2⟩
/-- a transitive one is closed -/
theorem stepK_same {n k : Nat} {s : List Int} (h : RowsOk n s) (ht : ∀ i j, Rl s i k → Rl s k j → Rl s i j) : stepK k s = s := by
  apply List.ext_getElem?
  intro i
  unfold stepK
  rw [List.getElem?_map]
  cases hx : s[i]? with
  | none => rfl
  | some x =>
    have e1 : s.getD i 0 = x := by rw [List.getD_eq_getElem?_getD, hx]; rfl
    show some (if x.toNat.testBit k = true then orI x (s.getD k 0) else x) = some x
    congr 1
    by_cases hb : x.toNat.testBit k = true
    · rw [if_pos hb]
      have hx0 := (h.2 x (List.mem_of_getElem? hx)).1
      have : (orI x (s.getD k 0)).toNat = x.toNat := by
        rw [orI_toNat]
        apply Nat.eq_of_testBit_eq
        intro j
        rw [Nat.testBit_or]
        cases hj : (s.getD k 0).toNat.testBit j with
        | false => simp
        | true =>
          have := ht i j (by unfold Rl; rw [e1]; exact hb) hj
          unfold Rl at this; rw [e1] at this; rw [this]; rfl
      have := orI_nonneg x (s.getD k 0)
      omega
    · rw [if_neg hb]
theorem closeK_same {n : Nat} {s : List Int} (h : RowsOk n s) (ht : ∀ k i j, k < n → Rl s i k → Rl s k j → Rl s i j) : ∀ m, m ≤ n → closeK s m = s
  | 0, _ => rfl
  | m + 1, hm => by
    show stepK m (closeK s m) = s
    rw [closeK_same h ht m (by omega)]
    exact stepK_same h fun i j => ht m i j (by omega)
/-! ### what the program's closures come to -/
theorem close_in {n k : Nat} {s : List Int} (h : RowsOk n s) (hk : k < n) (hn : n ≤ 16) : eachN (sCloseRelation_L2 k) 0 n s = some (stepK k s) := by
  have hkk : ∃ y, s[k]? = some y := ⟨_, List.getElem?_eq_getElem (by rw [h.1]; exact hk)⟩
  obtain ⟨y, hy⟩ := hkk
  have ey : s.getD k 0 = y := by rw [List.getD_eq_getElem?_getD, hy]; rfl
  let f : Int → Int := fun x => if x.toNat.testBit k = true then orI x y else x
  have hf : f y = y := by
    show (if y.toNat.testBit k = true then orI y y else y) = y
    have := (h.2 y (List.mem_of_getElem? hy)).1
    split
    · unfold orI; rw [Nat.or_self]; omega
    · rfl
  obtain ⟨s', h1, h2⟩ := eachN_ok (P := fun m t => t = (s.take m).map f ++ s.drop m) (f := sCloseRelation_L2 k) (n := n) (i := 0) (s := s) (by simp) (fun m t _ hm ht => by
    subst ht
    have hms : m < s.length := by rw [h.1]; omega
    obtain ⟨x, hx⟩ : ∃ x, s[m]? = some x := ⟨_, List.getElem?_eq_getElem hms⟩
    have hx0 := h.2 x (List.mem_of_getElem? hx)
    have hy0 := h.2 y (List.mem_of_getElem? hy)
    have g1 : ((s.take m).map f ++ s.drop m)[m]? = some x := by
      rw [List.getElem?_append_right (by simp; omega)]
      simp only [List.length_map, List.length_take]
      rw [show m - min m s.length = 0 by omega, List.getElem?_drop, Nat.add_zero, hx]
    have g2 : ((s.take m).map f ++ s.drop m)[k]? = some y := by
      by_cases hkm : k < m
      · rw [List.getElem?_append_left (by simp; omega), List.getElem?_map, List.getElem?_take, if_pos hkm, hy]
        show some (f y) = _
        rw [hf]
      · rw [List.getElem?_append_right (by simp; omega)]
        simp only [List.length_map, List.length_take]
        rw [List.getElem?_drop, show m + (k - min m s.length) = k by omega, hy]
    have hset : (((s.take m).map f ++ s.drop m).set m (f x)) = (s.take (m + 1)).map f ++ s.drop (m + 1) := by
      rw [List.set_append_right _ _ (by simp; omega)]
      simp only [List.length_map, List.length_take]
      rw [show m - min m s.length = 0 by omega, List.take_add_one, hx, List.map_append, List.append_assoc]
      congr 1
      rw [List.drop_eq_getElem_cons hms]; rfl
    have hno : f x = x → ((s.take m).map f ++ s.drop m) = (s.take (m + 1)).map f ++ s.drop (m + 1) := fun e => by
      rw [← hset, e]
      apply List.ext_getElem?
      intro q
      rw [List.getElem?_set]
      by_cases hq : m = q
      · subst hq
        rw [if_pos rfl, g1]
        split
        · rfl
        · rename_i hl; exact absurd (by simp; omega) hl
      · rw [if_neg hq]
    refine ⟨_, ?_, rfl⟩
    unfold sCloseRelation_L2
    rw [g1, Option.bind_some, grd_pos (by refine ⟨hx0.1, by omega, by omega⟩), grd_pos ⟨Int.natCast_nonneg _, by decide⟩]
    by_cases hb : bit x (k : Int)
    · have hb' := (bit_test x k).1 hb
      rw [Int.toNat_natCast] at hb'
      rw [if_pos (of_bit hb), g2, Option.bind_some, grd_pos ⟨hx0.1, hy0.1⟩, Option.bind_some, ← hset]
      show some (List.set _ m (orI x y)) = some (List.set _ m (f x))
      have : f x = orI x y := if_pos hb'
      rw [this]
    · have hb' : ¬ x.toNat.testBit k = true := fun h => hb ((bit_test x k).2 (by rw [Int.toNat_natCast]; exact h))
      rw [if_neg (fun h => hb (bit_of h)), Option.bind_some, ← hno (if_neg hb')])
  rw [h1]
  subst h2
  unfold stepK
  rw [Nat.zero_add, List.take_of_length_le (by rw [h.1]; exact Nat.le_refl _), List.drop_eq_nil_of_le (by rw [h.1]; exact Nat.le_refl _), List.append_nil, ey]
theorem valid_ok {r : Relation} (h : Valid r) : RowsOk r.N.toNat r.Rows ∧ r.N.toNat ≤ 16 := by
  obtain ⟨h0, h1, h2, h3⟩ := h
  have := pow_pos' r.N
  exact ⟨⟨by omega, fun x hx => ⟨(h3 x hx).1, by have := (h3 x hx).2; omega⟩⟩, by omega⟩
/-- the closure -/
def closeR (r : Relation) : Relation := if Valid r then ⟨r.N, closeK r.Rows r.N.toNat⟩ else r
theorem L2_same : iCloseRelation_L2 = sCloseRelation_L2 := rfl
theorem sClose_eq {r : Relation} (h : r.Rows.length ≤ 1048576) : sCloseRelation_m r = some (closeR r) := by
  unfold sCloseRelation_m closeR
  rw [copy_some h, Option.bind_some, sIsValid_eq, Option.bind_some]
  by_cases hv : Valid r
  · rw [if_pos (by simpa using hv), if_pos hv]
    obtain ⟨hok, hn⟩ := valid_ok hv
    obtain ⟨t, h1, h2⟩ := eachN_ok (P := fun m t => t = closeK r.Rows m) (f := sCloseRelation_L1 r) (n := r.N.toNat) (i := 0) (s := r.Rows) rfl (fun k s _ hk hs => by
      subst hs
      refine ⟨_, ?_, rfl⟩
      unfold sCloseRelation_L1
      rw [close_in (closeK_ok hok k) (by omega) hn]; rfl)
    rw [h1, Option.bind_some, h2, Nat.zero_add]
  · rw [if_neg (by simpa using hv), if_neg hv]
theorem iClose_eq {r : Relation} (h : r.Rows.length ≤ 1048576) : iCloseRelation_m r = some (closeR r) := by
  unfold iCloseRelation_m closeR
  rw [copy_same, copy_some h, Option.bind_some, iIsValid_eq, Option.bind_some]
  by_cases hv : Valid r
  · rw [if_pos (by simpa using hv), if_pos hv]
    obtain ⟨hok, hn⟩ := valid_ok hv
    obtain ⟨t, h1, h2⟩ := eachN_ok (P := fun m t => t = closeK r.Rows m) (f := iCloseRelation_L1) (n := r.Rows.length) (i := 0) (s := r.Rows) rfl (fun k s _ hk hs => by
      subst hs
      refine ⟨_, ?_, rfl⟩
      unfold iCloseRelation_L1
      have hl := (closeK_ok hok k).1
      rw [hl, L2_same, close_in (closeK_ok hok k) (by rw [hok.1] at hk; omega) hn]; rfl)
    rw [h1, Option.bind_some, h2, Nat.zero_add, hok.1]
  · rw [if_neg (by simpa using hv), if_neg hv]
theorem closeR_len (r : Relation) : (closeR r).Rows.length = r.Rows.length ∧ (closeR r).N = r.N := by
  unfold closeR
  by_cases hv : Valid r
  · rw [if_pos hv]
    obtain ⟨hok, _⟩ := valid_ok hv
    exact ⟨by show (closeK r.Rows r.N.toNat).length = _; rw [(closeK_ok hok _).1, hok.1], rfl⟩
  · rw [if_neg hv]; exact ⟨rfl, rfl⟩
theorem closeR_valid {r : Relation} (h : Valid r) : Valid (closeR r) := by
  obtain ⟨hok, hn⟩ := valid_ok h
  obtain ⟨k1, k2⟩ := closeK_ok hok r.N.toNat
  obtain ⟨h0, h1, h2, h3⟩ := h
  unfold closeR
  rw [if_pos ⟨h0, h1, h2, h3⟩]
  refine ⟨h0, h1, by show ((closeK r.Rows r.N.toNat).length : Int) = r.N; omega, fun x hx => ?_⟩
  have := k2 x hx
  have := pow_pos' r.N
  exact ⟨(k2 x hx).1, by show x ≤ ((2 ^ r.N.toNat : Nat) : Int) - 1; omega⟩
theorem closeR_idem (r : Relation) : closeR (closeR r) = closeR r := by
  by_cases hv : Valid r
  · have hv2 := closeR_valid hv
    obtain ⟨hok, hn⟩ := valid_ok hv
    have e : closeR r = ⟨r.N, closeK r.Rows r.N.toNat⟩ := if_pos hv
    rw [e] at hv2 ⊢
    rw [show closeR ⟨r.N, closeK r.Rows r.N.toNat⟩ = ⟨r.N, closeK (closeK r.Rows r.N.toNat) r.N.toNat⟩ from if_pos hv2]
    rw [closeK_same (closeK_ok hok _) (fun k i j hk h1 h2 => Rl_trans hok _ k i j hk (Nat.le_refl _) h1 h2) _ (Nat.le_refl _)]
  · have e : closeR r = r := if_neg hv
    rw [e, e]
theorem hasP_Rl {r : Relation} (h : Valid r) (i j : Nat) : hasP r (i : Int) (j : Int) ↔ Rl r.Rows i j := by
  obtain ⟨hok, hn⟩ := valid_ok h
  unfold hasP
  have h0 := h.1
  constructor
  · rintro ⟨_, _, _, hb⟩
    have := (bit_test _ _).1 hb
    simpa [Rl, rowAt] using this
  · intro hR
    have hi := Rl_row hok hR
    have hj := Rl_lt hok hR
    refine ⟨h, ⟨by omega, by omega⟩, ⟨by omega, by omega⟩, (bit_test _ _).2 ?_⟩
    simpa [Rl, rowAt] using hR
/-! ### the law -/
theorem equalInts (l : List Int) : ∀ (f : Nat → Int → Unit → Option (Unit ⊕ Bool)), (∀ k x, f k x () = (l[k]?).bind fun x2 => if x = x2 then some (.inl ()) else some (.inr false)) → findL f 0 l () = some (.inl ()) := by
  intro f hf
  have key : ∀ (m k : Nat), k + m = l.length → findL f k (l.drop k) () = some (.inl ()) := by
    intro m
    induction m with
    | zero => intro k hk; rw [List.drop_eq_nil_of_le (by omega)]; rfl
    | succ m ih =>
      intro k hk
      rw [List.drop_eq_getElem_cons (by omega)]
      simp only [findL, hf, List.getElem?_eq_getElem (show k < l.length by omega), Option.bind_some, if_true]
      exact ih (k + 1) (by omega)
  have := key l.length 0 (by omega)
  rwa [List.drop_zero] at this
theorem sEqual_self (r : Relation) : sEqualRelation_m r r = some true := by
  unfold sEqualRelation_m sl1Ints_m
  rw [if_pos rfl, if_pos rfl, equalInts r.Rows _ (fun k x => rfl)]; rfl
theorem iEqual_self (r : Relation) : iEqualRelation_m r r = some true := by
  unfold iEqualRelation_m slices_Equal_int_m
  rw [if_pos rfl, if_pos rfl, equalInts r.Rows _ (fun k x => rfl)]; rfl
theorem iHasLoop_eq {r : Relation} (h : r.Rows.length ≤ 1048576) : iHasLoop_m r = some (decide (∃ k : Nat, k < r.Rows.length ∧ hasP (closeR r) (k : Int) (k : Int))) := by
  unfold iHasLoop_m
  rw [iClose_eq h, Option.bind_some]
  have hl := (closeR_len r).1
  have hf : ∀ (k : Nat) (x : Int), (hasP (closeR r) (k : Int) (k : Int) → iHasLoop_L1 (closeR r) k x () = some (.inr true)) ∧ (¬ hasP (closeR r) (k : Int) (k : Int) → iHasLoop_L1 (closeR r) k x () = some (.inl ())) := fun k x => by
    unfold iHasLoop_L1
    rw [iHasPair_eq, Option.bind_some]
    exact ⟨fun hp => if_pos (by simpa using hp), fun hp => if_neg (by simpa using hp)⟩
  have hany := findL_any (c := true) (xs := (closeR r).Rows) (i := 0) (p := fun k _ => hasP (closeR r) (k : Int) (k : Int)) (f := iHasLoop_L1 (closeR r)) fun k x _ => by
    rw [Nat.zero_add]; exact hf k x
  by_cases hp : ∃ k : Nat, k < r.Rows.length ∧ hasP (closeR r) (k : Int) (k : Int)
  · rw [decide_eq_true hp]
    obtain ⟨k, hk, hpk⟩ := hp
    rw [hany.1 ⟨k, _, List.getElem?_eq_getElem (by omega), by rw [Nat.zero_add]; exact hpk⟩]; rfl
  · rw [decide_eq_false hp]
    rw [hany.2 fun k x hx hpk => hp ⟨k, by rw [← hl]; exact (List.getElem?_eq_some_iff.1 hx).1, by rw [Nat.zero_add] at hpk; exact hpk⟩]; rfl
def anyB (f : Nat → Bool) : Nat → Nat → Bool
  | _, 0 => false
  | k, m + 1 => f k || anyB f (k + 1) m
theorem anyB_iff {f : Nat → Bool} : ∀ {m k : Nat}, anyB f k m = true ↔ ∃ j, k ≤ j ∧ j < k + m ∧ f j = true
  | 0, k => by simp only [anyB, Bool.false_eq_true, false_iff]; rintro ⟨j, h1, h2, _⟩; omega
  | m + 1, k => by
    rw [anyB, Bool.or_eq_true, anyB_iff]
    constructor
    · rintro (h | ⟨j, h1, h2, h3⟩)
      · exact ⟨k, Nat.le_refl _, by omega, h⟩
      · exact ⟨j, by omega, by omega, h3⟩
    · rintro ⟨j, h1, h2, h3⟩
      by_cases hj : j = k
      · subst hj; exact .inl h3
      · exact .inr ⟨j, by omega, by omega, h3⟩
theorem relations_true (a : List UInt8) : wFnRelations_m a = some true := by
  unfold wFnRelations_m wbig_m
  rw [Option.bind_some]
  by_cases hb : 1048576 < (a.length : Int)
  · rw [if_pos (by simpa using hb)]
  rw [if_neg (by simpa using hb)]
  obtain ⟨o, h1, h2, h3⟩ := new_some (a := a) (by omega)
  obtain ⟨r, z, g1, g2, g3, g4, _, _⟩ := drawRel_some h2
  have hd : sDrawCloseRelation_m a = some r := by
    unfold sDrawCloseRelation_m
    rw [h1, Option.bind_some, g1]; rfl
  have hl : r.Rows.length ≤ 1048576 := by omega
  have hcl := closeR_len r
  rw [hd, Option.bind_some, iClose_eq hl, Option.bind_some, sClose_eq hl, Option.bind_some, sEqual_self, Option.bind_some, if_pos rfl, iIsValid_eq, sIsValid_eq, Option.bind_some, Option.bind_some, if_pos rfl, iClose_eq (by rw [hcl.1]; exact hl), Option.bind_some, closeR_idem, iEqual_self, Option.bind_some, Option.bind_some, if_neg (by simp)]
  by_cases hv : Valid r
  · rw [Option.bind_some, if_pos (by simpa using hv)]
    obtain ⟨hok, hn⟩ := valid_ok hv
    have hv2 := closeR_valid hv
    have ec : closeR r = ⟨r.N, closeK r.Rows r.N.toNat⟩ := if_pos hv
    -- the inner loops find nothing
    have h3 : ∀ k1 k2, findN (wFnRelations_L3 (closeR r) k1 k2) 0 r.N.toNat () = some (.inl ()) := fun k1 k2 => by
      refine (findN_any (c := false) (p := fun _ => False) fun k3 hk3 => ⟨fun h => h.elim, fun _ => ?_⟩).2 fun _ _ h => h
      rw [Nat.zero_add]
      unfold wFnRelations_L3
      simp only [sHasPair_eq, Option.bind_some]
      by_cases q1 : hasP (closeR r) (k1 : Int) (k2 : Int)
      · by_cases q2 : hasP (closeR r) (k2 : Int) (k3 : Int)
        · have q3 : hasP (closeR r) (k1 : Int) (k3 : Int) := by
            rw [hasP_Rl hv2] at q1 q2 ⊢
            rw [ec] at q1 q2 ⊢
            exact Rl_trans hok _ k2 k1 k3 (Rl_lt (closeK_ok hok _) q1) (Nat.le_refl _) q1 q2
          simp [q1, q2, q3]
        · simp [q1, q2]
      · simp [q1]
    have h2 : ∀ k1, findN (wFnRelations_L2 r (closeR r) k1) 0 r.N.toNat () = some (.inl ()) := fun k1 => by
      refine (findN_any (c := false) (p := fun _ => False) fun k2 hk2 => ⟨fun h => h.elim, fun _ => ?_⟩).2 fun _ _ h => h
      rw [Nat.zero_add]
      unfold wFnRelations_L2
      simp only [iHasPair_eq, Option.bind_some, h3]
      by_cases q1 : hasP r (k1 : Int) (k2 : Int)
      · have q2 : hasP (closeR r) (k1 : Int) (k2 : Int) := by
          rw [hasP_Rl hv] at q1
          rw [hasP_Rl hv2, ec]
          exact Rl_grow hok _ _ _ q1
        simp [q1, q2]
      · simp [q1]
    have hloop : ∀ (m k : Nat) (s : Bool), findN (wFnRelations_L1 r (closeR r)) k m s = some (.inl (s || anyB (fun j => decide (hasP (closeR r) (j : Int) (j : Int))) k m)) := by
      intro m
      induction m with
      | zero =>
        intro k s
        simp only [findN, anyB, Bool.or_false]
      | succ m ih =>
        intro k s
        have e : wFnRelations_L1 r (closeR r) k s = some (.inl (s || decide (hasP (closeR r) (k : Int) (k : Int)))) := by
          unfold wFnRelations_L1
          cases s with
          | true => rw [if_pos rfl, Option.bind_some, h2]; rfl
          | false => rw [if_neg (by simp), iHasPair_eq, Option.bind_some, Option.bind_some, h2]; rfl
        simp only [findN, e, Option.bind_some]
        rw [ih, anyB, Bool.or_assoc]
    rw [hloop, Option.bind_some]
    show (iHasLoop_m r).bind _ = _
    rw [iHasLoop_eq hl, Option.bind_some]
    congr 1
    rw [decide_eq_true_iff, Bool.false_or, Bool.eq_iff_iff, decide_eq_true_iff, anyB_iff]
    have hN : r.Rows.length = r.N.toNat := hok.1
    constructor
    · rintro ⟨k, h1, h2⟩; exact ⟨k, Nat.zero_le _, by omega, decide_eq_true h2⟩
    · rintro ⟨k, _, h1, h2⟩; exact ⟨k, by omega, of_decide_eq_true h2⟩
  · rw [Option.bind_some, if_neg (by simpa using hv)]
    have ec : closeR r = r := if_neg hv
    rw [ec, sEqual_self, Option.bind_some, if_pos rfl, iHasLoop_eq hl, Option.bind_some, Option.bind_some, ec]
    have : ¬ ∃ k : Nat, k < r.Rows.length ∧ hasP r (k : Int) (k : Int) := fun ⟨k, _, hp⟩ => hv hp.1
    rw [decide_eq_false this]; rfl
end Go.Proofs.Ytonnooljidombaa

