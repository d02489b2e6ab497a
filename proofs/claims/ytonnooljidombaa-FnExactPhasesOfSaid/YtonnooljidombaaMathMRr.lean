/- What those partial functions come to: plain lemmas on data; each bears its conditions in its statement. -/
import Derived.Test.YtonnooljidombaaMathMDr
set_option linter.unusedVariables false
set_option linter.unusedSimpArgs false
set_option linter.ambiguousOpen false
set_option linter.unusedSectionVars false
set_option linter.unnecessarySimpa false
set_option linter.unusedVariables false
set_option linter.unusedSimpArgs false
namespace Go.Proofs.Ytonnooljidombaa
open Go Go.E
/-! ### the closure -/
theorem bit_test (x k : Int) : bit x k ↔ x.toNat.testBit k.toNat = true := by
  unfold bit
  rw [Nat.testBit_eq_decide_div_mod_eq, Nat.shiftRight_eq_div_pow]
  simp [Nat.and_one_is_mod]
/-- one step: all rows that lead to k take k's row -/
def stepK (k : Nat) (s : List Int) : List Int := s.map fun x => if x.toNat.testBit k = true then orI x (s.getD k 0) else x
def closeK (s : List Int) : Nat → List Int
  | 0 => s
  | m + 1 => stepK m (closeK s m)
/-- rows of n elements -/
def RowsOk (n : Nat) (s : List Int) : Prop := s.length = n ∧ ∀ x ∈ s, 0 ≤ x ∧ x.toNat < 2 ^ n
theorem orI_nonneg (x y : Int) : 0 ≤ orI x y := by unfold orI; omega
theorem orI_toNat (x y : Int) : (orI x y).toNat = x.toNat ||| y.toNat := by unfold orI; omega
theorem getD_ok {n : Nat} {s : List Int} (h : RowsOk n s) (k : Nat) : 0 ≤ s.getD k 0 ∧ (s.getD k 0).toNat < 2 ^ n := by
  rw [List.getD_eq_getElem?_getD]
  cases hk : s[k]? with
  | none => simp; exact Nat.two_pow_pos n
  | some x => exact h.2 x (List.mem_of_getElem? hk)
theorem stepK_ok {n k : Nat} {s : List Int} (h : RowsOk n s) : RowsOk n (stepK k s) := by
  refine ⟨by unfold stepK; rw [List.length_map]; exact h.1, fun x hx => ?_⟩
  unfold stepK at hx
  obtain ⟨y, hy, rfl⟩ := List.mem_map.1 hx
  have h1 := h.2 y hy
  split
  · exact ⟨orI_nonneg _ _, by rw [orI_toNat]; exact Nat.or_lt_two_pow h1.2 (getD_ok h k).2⟩
  · exact h1
theorem closeK_ok {n : Nat} {s : List Int} (h : RowsOk n s) : ∀ m, RowsOk n (closeK s m)
  | 0 => h
  | m + 1 => stepK_ok (closeK_ok h m)
/-! ### what the program's closures come to -/
theorem close_in {n k : Nat} {s : List Int} (h : RowsOk n s) (hk : k < n) (hn : n ≤ 16) : eachN (sCloseRelation_L2 k) 0 n s = some (stepK k s) := by
  have hkk : ∃ y, s[k]? = some y := ⟨_, List.getElem?_eq_getElem (by rw [h.1]; exact hk)⟩
  obtain ⟨y, hy⟩ := hkk
  have ey : s.getD k 0 = y := by rw [List.getD_eq_getElem?_getD, hy]; rfl
  let f : Int → Int := fun x => if x.toNat.testBit k = true then orI x y else x
  have hf : f y = y := by
    show (if y.toNat.testBit k = true then orI y y else y) = y
    have := (h.2 y (List.mem_of_getElem? hy)).1
    split
    · unfold orI; rw [Nat.or_self]; omega
    · rfl
  obtain ⟨s', h1, h2⟩ := eachN_ok (P := fun m t => t = (s.take m).map f ++ s.drop m) (f := sCloseRelation_L2 k) (n := n) (i := 0) (s := s) (by simp) (fun m t _ hm ht => by
    subst ht
    have hms : m < s.length := by rw [h.1]; omega
    obtain ⟨x, hx⟩ : ∃ x, s[m]? = some x := ⟨_, List.getElem?_eq_getElem hms⟩
    have hx0 := h.2 x (List.mem_of_getElem? hx)
    have hy0 := h.2 y (List.mem_of_getElem? hy)
    have g1 : ((s.take m).map f ++ s.drop m)[m]? = some x := by
      rw [List.getElem?_append_right (by simp; omega)]
      simp only [List.length_map, List.length_take]
      rw [show m - min m s.length = 0 by omega, List.getElem?_drop, Nat.add_zero, hx]
    have g2 : ((s.take m).map f ++ s.drop m)[k]? = some y := by
      by_cases hkm : k < m
      · rw [List.getElem?_append_left (by simp; omega), List.getElem?_map, List.getElem?_take, if_pos hkm, hy]
        show some (f y) = _
        rw [hf]
      · rw [List.getElem?_append_right (by simp; omega)]
        simp only [List.length_map, List.length_take]
        rw [List.getElem?_drop, show m + (k - min m s.length) = k by omega, hy]
    have hset : (((s.take m).map f ++ s.drop m).set m (f x)) = (s.take (m + 1)).map f ++ s.drop (m + 1) := by
      rw [List.set_append_right _ _ (by simp; omega)]
      simp only [List.length_map, List.length_take]
      rw [show m - min m s.length = 0 by omega, List.take_add_one, hx, List.map_append, List.append_assoc]
      congr 1
      rw [List.drop_eq_getElem_cons hms]; rfl
    have hno : f x = x → ((s.take m).map f ++ s.drop m) = (s.take (m + 1)).map f ++ s.drop (m + 1) := fun e => by
      rw [← hset, e]
      apply List.ext_getElem?
      intro q
      rw [List.getElem?_set]
      by_cases hq : m = q
      · subst hq
        rw [if_pos rfl, g1]
        split
        · rfl
        · rename_i hl; exact absurd (by simp; omega) hl
      · rw [if_neg hq]
    refine ⟨_, ?_, rfl⟩
    unfold sCloseRelation_L2
    rw [g1, Option.bind_some, grd_pos (by refine ⟨hx0.1, by omega, by omega⟩), grd_pos ⟨Int.natCast_nonneg _, by decide⟩]
    by_cases hb : bit x (k : Int)
    · have hb' := (bit_test x k).1 hb
      rw [Int.toNat_natCast] at hb'
      rw [if_pos (of_bit hb), g2, Option.bind_some, grd_pos ⟨hx0.1, hy0.1⟩, Option.bind_some, ← hset]
      show some (List.set _ m (orI x y)) = some (List.set _ m (f x))
      have : f x = orI x y := if_pos hb'
      rw [this]
    · have hb' : ¬ x.toNat.testBit k = true := fun h => hb ((bit_test x k).2 (by rw [Int.toNat_natCast]; exact h))
      rw [if_neg (fun h => hb (bit_of h)), Option.bind_some, ← hno (if_neg hb')])
  rw [h1]
  subst h2
  unfold stepK
  rw [Nat.zero_add, List.take_of_length_le (by rw [h.1]; exact Nat.le_refl _), List.drop_eq_nil_of_le (by rw [h.1]; exact Nat.le_refl _), List.append_nil, ey]
theorem valid_ok {r : Relation} (h : Valid r) : RowsOk r.N.toNat r.Rows ∧ r.N.toNat ≤ 16 := by
  obtain ⟨h0, h1, h2, h3⟩ := h
  have := pow_pos' r.N
  exact ⟨⟨by omega, fun x hx => ⟨(h3 x hx).1, by have := (h3 x hx).2; omega⟩⟩, by omega⟩
/-- the closure -/
def closeR (r : Relation) : Relation := if Valid r then ⟨r.N, closeK r.Rows r.N.toNat⟩ else r
theorem L2_same : iCloseRelation_L2 = sCloseRelation_L2 := rfl
theorem sClose_eq {r : Relation} (h : r.Rows.length ≤ 1048576) : sCloseRelation_m r = some (closeR r) := by
  unfold sCloseRelation_m closeR
  rw [copy_some h, Option.bind_some, sIsValid_eq, Option.bind_some]
  by_cases hv : Valid r
  · rw [if_pos (by simpa using hv), if_pos hv]
    obtain ⟨hok, hn⟩ := valid_ok hv
    obtain ⟨t, h1, h2⟩ := eachN_ok (P := fun m t => t = closeK r.Rows m) (f := sCloseRelation_L1 r) (n := r.N.toNat) (i := 0) (s := r.Rows) rfl (fun k s _ hk hs => by
      subst hs
      refine ⟨_, ?_, rfl⟩
      unfold sCloseRelation_L1
      rw [close_in (closeK_ok hok k) (by omega) hn]; rfl)
    rw [h1, Option.bind_some, h2, Nat.zero_add]
  · rw [if_neg (by simpa using hv), if_neg hv]
theorem iClose_eq {r : Relation} (h : r.Rows.length ≤ 1048576) : iCloseRelation_m r = some (closeR r) := by
  unfold iCloseRelation_m closeR
  rw [copy_same, copy_some h, Option.bind_some, iIsValid_eq, Option.bind_some]
  by_cases hv : Valid r
  · rw [if_pos (by simpa using hv), if_pos hv]
    obtain ⟨hok, hn⟩ := valid_ok hv
    obtain ⟨t, h1, h2⟩ := eachN_ok (P := fun m t => t = closeK r.Rows m) (f := iCloseRelation_L1) (n := r.Rows.length) (i := 0) (s := r.Rows) rfl (fun k s _ hk hs => by
      subst hs
      refine ⟨_, ?_, rfl⟩
      unfold iCloseRelation_L1
      have hl := (closeK_ok hok k).1
      rw [hl, L2_same, close_in (closeK_ok hok k) (by rw [hok.1] at hk; omega) hn]; rfl)
    rw [h1, Option.bind_some, h2, Nat.zero_add, hok.1]
  · rw [if_neg (by simpa using hv), if_neg hv]
theorem closeR_len (r : Relation) : (closeR r).Rows.length = r.Rows.length ∧ (closeR r).N = r.N := by
  unfold closeR
  by_cases hv : Valid r
  · rw [if_pos hv]
    obtain ⟨hok, _⟩ := valid_ok hv
    exact ⟨by show (closeK r.Rows r.N.toNat).length = _; rw [(closeK_ok hok _).1, hok.1], rfl⟩
  · rw [if_neg hv]; exact ⟨rfl, rfl⟩
theorem iHasLoop_eq {r : Relation} (h : r.Rows.length ≤ 1048576) : iHasLoop_m r = some (decide (∃ k : Nat, k < r.Rows.length ∧ hasP (closeR r) (k : Int) (k : Int))) := by
  unfold iHasLoop_m
  rw [iClose_eq h, Option.bind_some]
  have hl := (closeR_len r).1
  have hf : ∀ (k : Nat) (x : Int), (hasP (closeR r) (k : Int) (k : Int) → iHasLoop_L1 (closeR r) k x () = some (.inr true)) ∧ (¬ hasP (closeR r) (k : Int) (k : Int) → iHasLoop_L1 (closeR r) k x () = some (.inl ())) := fun k x => by
    unfold iHasLoop_L1
    rw [iHasPair_eq, Option.bind_some]
    exact ⟨fun hp => if_pos (by simpa using hp), fun hp => if_neg (by simpa using hp)⟩
  have hany := findL_any (c := true) (xs := (closeR r).Rows) (i := 0) (p := fun k _ => hasP (closeR r) (k : Int) (k : Int)) (f := iHasLoop_L1 (closeR r)) fun k x _ => by
    rw [Nat.zero_add]; exact hf k x
  by_cases hp : ∃ k : Nat, k < r.Rows.length ∧ hasP (closeR r) (k : Int) (k : Int)
  · rw [decide_eq_true hp]
    obtain ⟨k, hk, hpk⟩ := hp
    rw [hany.1 ⟨k, _, List.getElem?_eq_getElem (by omega), by rw [Nat.zero_add]; exact hpk⟩]; rfl
  · rw [decide_eq_false hp]
    rw [hany.2 fun k x hx hpk => hp ⟨k, by rw [← hl]; exact (List.getElem?_eq_some_iff.1 hx).1, by rw [Nat.zero_add] at hpk; exact hpk⟩]; rfl
end Go.Proofs.Ytonnooljidombaa

