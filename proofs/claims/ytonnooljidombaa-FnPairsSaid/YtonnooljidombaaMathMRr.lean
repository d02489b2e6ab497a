/- What those partial functions come to: plain lemmas on data; each bears its conditions in its statement. -/
import Derived.Test.YtonnooljidombaaMathMDr
set_option linter.unusedVariables false
set_option linter.unusedSimpArgs false
set_option linter.ambiguousOpen false
set_option linter.unusedSectionVars false
set_option linter.unnecessarySimpa false
set_option linter.unusedVariables false
set_option linter.unusedSimpArgs false
namespace Go.Proofs.Ytonnooljidombaa
open Go Go.E
theorem add_eq {r : Relation} (h : r.Rows.length ≤ 1048576) (i k : Int) : sAddPair_m r i k = some (addP r i k) := by
  unfold sAddPair_m
  simp only [copy_some h, sIsValid_eq, sl1In_eq, Option.bind_some, decide_eq_true_eq]
  by_cases hv : Valid r
  · have hv1 := hv.1; have hv2 := hv.2.1; have hv3 := hv.2.2.1
    rw [if_pos hv, grd_pos (by constructor <;> omega)]; simp only [Option.bind_some, Bool.false_eq_true, if_true, if_false, decide_eq_true_eq]
    by_cases hi : 0 ≤ i ∧ i ≤ r.N - 1
    · rw [if_pos hi, grd_pos (by constructor <;> omega)]; simp only [Option.bind_some, Bool.false_eq_true, if_true, if_false, decide_eq_true_eq]
      by_cases hk : 0 ≤ k ∧ k ≤ r.N - 1
      · obtain ⟨x, hx⟩ : ∃ x, r.Rows[i.toNat]? = some x := ⟨_, List.getElem?_eq_getElem (by omega)⟩
        have hrow := hv.row (i := i) hi hx
        rw [if_pos hk, grd_pos hi.1, hx, Option.bind_some, grd_pos hk.1, grd_pos ⟨hk.1, by omega⟩, grd_pos ⟨hrow.2.1, Int.natCast_nonneg _⟩]
        have e : addP r i k = withRow r i (orI (rowAt r i) ((2 ^ k.toNat : Nat) : Int)) := if_pos ⟨hv, hi, hk⟩
        rw [e, hrow.1]; rfl
      · rw [if_neg hk]
        have e : addP r i k = r := if_neg fun h => hk h.2.2
        rw [e]
    · rw [if_neg hi]; simp only [Option.bind_some, Bool.false_eq_true, if_true, if_false, decide_eq_true_eq]
      have e : addP r i k = r := if_neg fun h => hi h.2.1
      rw [e]
  · rw [if_neg hv]; simp only [Option.bind_some, Bool.false_eq_true, if_true, if_false, decide_eq_true_eq]
    have e : addP r i k = r := if_neg fun h => hv h.1
    rw [e]
theorem empty_eq {n : Int} (h0 : 0 ≤ n) (h1 : n ≤ 16) : sEmptyRelation_m n = some ⟨n, List.replicate n.toNat 0⟩ := by
  unfold sEmptyRelation_m
  rw [sl1In_eq, Option.bind_some, if_pos (by simp; omega), grd_pos (by omega)]
theorem addP_len (r : Relation) (i k : Int) : (addP r i k).Rows.length = r.Rows.length ∧ (addP r i k).N = r.N := by
  unfold addP
  split
  · exact ⟨by simp [withRow], rfl⟩
  · exact ⟨rfl, rfl⟩
theorem drawRel_some {o : l1Cur} (h : CurOk o) : ∃ r z, sl22Draw_m o = some (r, z) ∧ r.Rows.length ≤ 17 ∧ -1 ≤ r.N ∧ r.N ≤ 17 ∧ CurOk z ∧ z.b = o.b := by
  obtain ⟨n, z1, h1, h2, h3, h3'⟩ := pickInt_some h (l := [0, 1, 2, 3, 4, 5, 8, 16]) (by simp)
  have hn : 0 ≤ n ∧ n ≤ 16 := by simp at h2; omega
  obtain ⟨y3, z2, a1, a2, a3, _, a4, _⟩ := below_some (o := ⟨o.b, z1.i, z1.h⟩) ⟨h3.1, h.2⟩ (2 * n + 1)
  have hloop := eachN_ok (P := fun _ (s : List Int × Int × Int × Int) => s.1.length = n.toNat ∧ 0 ≤ s.2.1 ∧ s.2.2.2 = n) (f := sl22Draw_L1 o n) (n := y3.toNat) (i := 0) (s := (List.replicate n.toNat 0, z2.i, z2.h, n)) ⟨by simp, a4.1, rfl⟩ (fun k s _ _ hs => by
    obtain ⟨s1, s2, s3, s4⟩ := s
    obtain ⟨p1, p2, p3⟩ := hs
    dsimp only at p1 p2 p3
    subst p3
    obtain ⟨y4, z4, b1, b2, b3, _, b4, _⟩ := below_some (o := ⟨o.b, s2, s3⟩) ⟨p2, h.2⟩ s4
    obtain ⟨y5, z5, c1, c2, c3, _, c4, _⟩ := below_some (o := ⟨o.b, z4.i, z4.h⟩) ⟨b4.1, h.2⟩ s4
    have hl := addP_len ⟨s4, s1⟩ y4 y5
    refine ⟨((addP ⟨s4, s1⟩ y4 y5).Rows, z5.i, z5.h, (addP ⟨s4, s1⟩ y4 y5).N), ?_, hl.1.trans p1, c4.1, hl.2⟩
    unfold sl22Draw_L1
    dsimp only
    rw [b1, Option.bind_some]
    dsimp only
    rw [c1, Option.bind_some]
    dsimp only
    rw [add_eq (by show s1.length ≤ _; omega), Option.bind_some])
  obtain ⟨⟨s1, s2, s3, s4⟩, e1, p1, p2, p3⟩ := hloop
  dsimp only at p1 p2 p3
  subst p3
  obtain ⟨y7, z6, d1, d2, d3, _, d4, _⟩ := below_some (o := ⟨o.b, s2, s3⟩) ⟨p2, h.2⟩ 16
  unfold sl22Draw_m
  rw [h1, Option.bind_some]
  dsimp only
  rw [empty_eq hn.1 hn.2, Option.bind_some, grd_pos (by constructor <;> omega), grd_pos (by constructor <;> omega), a1, Option.bind_some]
  dsimp only
  rw [e1, Option.bind_some]
  dsimp only
  rw [d1, Option.bind_some]
  dsimp only
  by_cases g0 : y7 = 0
  · rw [if_pos g0, grd_pos (by constructor <;> omega)]
    exact ⟨_, _, rfl, by show s1.length ≤ 17; omega, by show -1 ≤ s4 + 1; omega, by show s4 + 1 ≤ 17; omega, ⟨d4.1, h.2⟩, rfl⟩
  · rw [if_neg g0]
    by_cases g1 : y7 = 1
    · rw [if_pos g1, grd_pos (by constructor <;> omega)]
      exact ⟨_, _, rfl, by show (s1 ++ [0]).length ≤ 17; simp; omega, by show -1 ≤ s4; omega, by show s4 ≤ 17; omega, ⟨d4.1, h.2⟩, rfl⟩
    · rw [if_neg g1]
      by_cases g2 : y7 = 2
      · rw [if_pos g2]
        by_cases g3 : 0 < s4
        · obtain ⟨y8, z7, f1, f2, f3, _⟩ := pickInt_some (o := ⟨o.b, z6.i, z6.h⟩) ⟨d4.1, h.2⟩ (l := [-1, 65536, 1099511627776]) (by simp)
          obtain ⟨x, hx⟩ : ∃ x, s1[0]? = some x := ⟨_, List.getElem?_eq_getElem (by omega)⟩
          rw [if_pos g3, f1, Option.bind_some]
          dsimp only
          rw [hx, Option.bind_some]
          exact ⟨_, _, rfl, by show (List.set s1 0 y8).length ≤ 17; simp; omega, by show -1 ≤ s4; omega, by show s4 ≤ 17; omega, ⟨f3.1, h.2⟩, rfl⟩
        · rw [if_neg g3]
          exact ⟨_, _, rfl, by show s1.length ≤ 17; omega, by show -1 ≤ s4; omega, by show s4 ≤ 17; omega, ⟨d4.1, h.2⟩, rfl⟩
      · rw [if_neg g2]
        exact ⟨_, _, rfl, by show s1.length ≤ 17; omega, by show -1 ≤ s4; omega, by show s4 ≤ 17; omega, ⟨d4.1, h.2⟩, rfl⟩
/-! ### the closure -/
theorem bit_test (x k : Int) : bit x k ↔ x.toNat.testBit k.toNat = true := by
  unfold bit
  rw [Nat.testBit_eq_decide_div_mod_eq, Nat.shiftRight_eq_div_pow]
  simp [Nat.and_one_is_mod]
/-- rows of n elements -/
def RowsOk (n : Nat) (s : List Int) : Prop := s.length = n ∧ ∀ x ∈ s, 0 ≤ x ∧ x.toNat < 2 ^ n
theorem orI_nonneg (x y : Int) : 0 ≤ orI x y := by unfold orI; omega
theorem orI_toNat (x y : Int) : (orI x y).toNat = x.toNat ||| y.toNat := by unfold orI; omega
theorem getD_ok {n : Nat} {s : List Int} (h : RowsOk n s) (k : Nat) : 0 ≤ s.getD k 0 ∧ (s.getD k 0).toNat < 2 ^ n := by
  rw [List.getD_eq_getElem?_getD]
  cases hk : s[k]? with
  | none => simp; exact Nat.two_pow_pos n
  | some x => exact h.2 x (List.mem_of_getElem? hk)
/-- does row i lead to j? -/
def Rl (s : List Int) (i j : Nat) : Prop := (s.getD i 0).toNat.testBit j = true
theorem Rl_lt {n : Nat} {s : List Int} (h : RowsOk n s) {i j : Nat} (hR : Rl s i j) : j < n := by
  unfold Rl at hR
  have h1 := (getD_ok h i).2
  apply Decidable.byContradiction
  intro hj
  have : (s.getD i 0).toNat.testBit j = false := Nat.testBit_lt_two_pow (Nat.lt_of_lt_of_le h1 (Nat.pow_le_pow_right (by omega) (by omega)))
  rw [this] at hR; cases hR
theorem Rl_row {n : Nat} {s : List Int} (h : RowsOk n s) {i j : Nat} (hR : Rl s i j) : i < n := by
  unfold Rl at hR
  apply Decidable.byContradiction
  intro hi
  have : s.getD i 0 = 0 := by rw [List.getD_eq_getElem?_getD, List.getElem?_eq_none (by rw [h.1]; omega)]; rfl
  rw [this] at hR; simp at hR
theorem valid_ok {r : Relation} (h : Valid r) : RowsOk r.N.toNat r.Rows ∧ r.N.toNat ≤ 16 := by
  obtain ⟨h0, h1, h2, h3⟩ := h
  have := pow_pos' r.N
  exact ⟨⟨by omega, fun x hx => ⟨(h3 x hx).1, by have := (h3 x hx).2; omega⟩⟩, by omega⟩
theorem hasP_Rl {r : Relation} (h : Valid r) (i j : Nat) : hasP r (i : Int) (j : Int) ↔ Rl r.Rows i j := by
  obtain ⟨hok, hn⟩ := valid_ok h
  unfold hasP
  have h0 := h.1
  constructor
  · rintro ⟨_, _, _, hb⟩
    have := (bit_test _ _).1 hb
    simpa [Rl, rowAt] using this
  · intro hR
    have hi := Rl_row hok hR
    have hj := Rl_lt hok hR
    refine ⟨h, ⟨by omega, by omega⟩, ⟨by omega, by omega⟩, (bit_test _ _).2 ?_⟩
    simpa [Rl, rowAt] using hR
/-! ### the law -/
theorem equalInts (l : List Int) : ∀ (f : Nat → Int → Unit → Option (Unit ⊕ Bool)), (∀ k x, f k x () = (l[k]?).bind fun x2 => if x = x2 then some (.inl ()) else some (.inr false)) → findL f 0 l () = some (.inl ()) := by
  intro f hf
  have key : ∀ (m k : Nat), k + m = l.length → findL f k (l.drop k) () = some (.inl ()) := by
    intro m
    induction m with
    | zero => intro k hk; rw [List.drop_eq_nil_of_le (by omega)]; rfl
    | succ m ih =>
      intro k hk
      rw [List.drop_eq_getElem_cons (by omega)]
      simp only [findL, hf, List.getElem?_eq_getElem (show k < l.length by omega), Option.bind_some, if_true]
      exact ih (k + 1) (by omega)
  have := key l.length 0 (by omega)
  rwa [List.drop_zero] at this
theorem sEqual_self (r : Relation) : sEqualRelation_m r r = some true := by
  unfold sEqualRelation_m sl1Ints_m
  rw [if_pos rfl, if_pos rfl, equalInts r.Rows _ (fun k x => rfl)]; rfl
end Go.Proofs.Ytonnooljidombaa

