/- What those partial functions come to: plain lemmas on data; each bears its conditions in its statement. -/
import Derived.Test.YtonnooljidombaaMathMRr
set_option linter.unusedVariables false
set_option linter.unusedSimpArgs false
set_option linter.ambiguousOpen false
set_option linter.unusedSectionVars false
set_option linter.unnecessarySimpa false
set_option linter.unusedVariables false
set_option linter.unusedSimpArgs false
namespace Go.Proofs.Ytonnooljidombaa
open Go Go.E
/-! ### draws -/
theorem drawAdd_some {a : List UInt8} (h : a.length ≤ 1048576) : ∃ r i k, sDrawAddPair_m a = some (r, i, k) ∧ r.Rows.length ≤ 17 := by
  obtain ⟨o, h1, h2, h3⟩ := new_some h
  obtain ⟨r, z, g1, g2, g3, g4, g5, g6⟩ := drawRel_some h2
  obtain ⟨y3, z2, a1, a2, a3, _, a4, _⟩ := below_some (o := ⟨o.b, z.i, z.h⟩) ⟨g5.1, h2.2⟩ (r.N + 2)
  obtain ⟨y4, z3, b1, b2, b3, _, b4, _⟩ := below_some (o := ⟨o.b, z2.i, z2.h⟩) ⟨a4.1, h2.2⟩ (r.N + 1)
  have := a3 (by omega)
  refine ⟨r, y3 - 1, y4, ?_, g2⟩
  unfold sDrawAddPair_m sl22Args_m
  rw [h1, Option.bind_some, g1, Option.bind_some]
  dsimp only
  rw [grd_pos (by constructor <;> omega), a1, Option.bind_some]
  dsimp only
  rw [grd_pos (by constructor <;> omega), grd_pos (by constructor <;> omega), b1, Option.bind_some]
  rfl
theorem once_some {o : l1Cur} (h : CurOk o) (n : Int) : ∃ y z, sl1Once_m n o = some (y, z) ∧ CurOk z ∧ z.b = o.b := by
  obtain ⟨y, z, h1, _, _, _, h5, h6⟩ := below_some h n
  unfold sl1Once_m
  rw [h1, Option.bind_some]
  exact ⟨_, _, rfl, ⟨h5.1, h.2⟩, rfl⟩
theorem drawUnion_some {a : List UInt8} (h : a.length ≤ 1048576) : ∃ x y, sDrawUnionRelation_m a = some (x, y) ∧ x.Rows.length ≤ 17 ∧ y.Rows.length ≤ 17 := by
  obtain ⟨o, h1, h2, h3⟩ := new_some h
  obtain ⟨r, z, g1, g2, g3, g4, g5, g6⟩ := drawRel_some h2
  obtain ⟨r2, z2, k1, k2, k3, k4, k5, k6⟩ := drawRel_some (o := ⟨o.b, z.i, z.h⟩) ⟨g5.1, h2.2⟩
  obtain ⟨y4, z3, a1, a4, _⟩ := once_some (o := ⟨o.b, z2.i, z2.h⟩) ⟨k5.1, h2.2⟩ 4
  unfold sDrawUnionRelation_m
  rw [h1, Option.bind_some, g1, Option.bind_some]
  dsimp only
  rw [k1, Option.bind_some]
  dsimp only
  rw [a1, Option.bind_some]
  dsimp only
  by_cases hy : y4 = true
  · rw [if_pos hy]; exact ⟨_, _, rfl, g2, k2⟩
  · rw [if_neg hy]
    by_cases hN : r.N = (r.Rows.length : Int)
    · rw [if_pos hN]
      have he : ∃ n : Int, ∃ rows : List Int, sEmptyRelation_m r.N = some ⟨n, rows⟩ ∧ rows.length ≤ 16 := by
        rw [hN]
        obtain ⟨x, hx, hl⟩ := empty_some r.Rows.length
        exact ⟨x.N, x.Rows, hx, hl⟩
      obtain ⟨n, rows, he, hrl⟩ := he
      have hloop := eachN_ok (P := fun _ (s : List Int × Int × Int × Int) => s.1.length ≤ 16 ∧ 0 ≤ s.2.1) (f := sDrawUnionRelation_L1 o r) (n := r.N.toNat) (i := 0) (s := (rows, z3.i, z3.h, n)) ⟨hrl, a4.1⟩ (fun k s _ _ hs => by
        obtain ⟨s1, s2, s3, s4⟩ := s
        obtain ⟨p1, p2⟩ := hs
        dsimp only at p1 p2
        obtain ⟨y4, z4, b1, b2, b3, _, b4, _⟩ := below_some (o := ⟨o.b, s2, s3⟩) ⟨p2, h2.2⟩ r.N
        obtain ⟨y5, z5, c1, c2, c3, _, c4, _⟩ := below_some (o := ⟨o.b, z4.i, z4.h⟩) ⟨b4.1, h2.2⟩ r.N
        have hl := addP_len ⟨s4, s1⟩ y4 y5
        refine ⟨((addP ⟨s4, s1⟩ y4 y5).Rows, z5.i, z5.h, (addP ⟨s4, s1⟩ y4 y5).N), ?_, by show (addP ⟨s4, s1⟩ y4 y5).Rows.length ≤ 16; rw [hl.1]; exact p1, c4.1⟩
        unfold sDrawUnionRelation_L1
        dsimp only
        rw [b1, Option.bind_some]
        dsimp only
        rw [c1, Option.bind_some]
        dsimp only
        rw [add_eq (by show s1.length ≤ _; omega), Option.bind_some])
      obtain ⟨⟨s1, s2, s3, s4⟩, e1, p1, p2⟩ := hloop
      rw [he, Option.bind_some]
      dsimp only
      rw [e1, Option.bind_some]
      exact ⟨_, _, rfl, g2, by show s1.length ≤ 17; dsimp only at p1; omega⟩
    · rw [if_neg hN]; exact ⟨_, _, rfl, g2, k2⟩
theorem drawProject_some {a : List UInt8} (h : a.length ≤ 1048576) : ∃ r l, sDrawProjectRelation_m a = some (r, l) ∧ r.Rows.length ≤ 17 := by
  obtain ⟨o, h1, h2, h3⟩ := new_some h
  obtain ⟨r, z, g1, g2, g3, g4, g5, g6⟩ := drawRel_some h2
  obtain ⟨n, z1, k1, k2, k3, _⟩ := pickInt_some (o := ⟨o.b, z.i, z.h⟩) ⟨g5.1, h2.2⟩ (l := [0, 1, 2, 3, 4, 16, 17]) (by simp)
  have hn : 0 ≤ n ∧ n ≤ 17 := by simp at k2; omega
  have hloop := eachN_ok (P := fun k (s : List Int × Int × Int) => s.1.length = k ∧ 0 ≤ s.2.1) (f := sDrawProjectRelation_L1 o r) (n := n.toNat) (i := 0) (s := ([], z1.i, z1.h)) ⟨rfl, k3.1⟩ (fun k s _ hk hs => by
    obtain ⟨s1, s2, s3⟩ := s
    obtain ⟨p1, p2⟩ := hs
    dsimp only at p1 p2
    obtain ⟨y4, z4, b1, b2, b3, _, b4, _⟩ := below_some (o := ⟨o.b, s2, s3⟩) ⟨p2, h2.2⟩ (r.N + 2)
    have := b3 (by omega)
    refine ⟨(s1 ++ [y4 - 1], z4.i, z4.h), ?_, by simp [p1], b4.1⟩
    unfold sDrawProjectRelation_L1
    dsimp only
    rw [grd_pos (by constructor <;> omega), b1, Option.bind_some]
    dsimp only
    rw [grd_pos (by constructor <;> omega), grd_pos (by constructor <;> omega)])
  obtain ⟨⟨s1, s2, s3⟩, e1, p1, p2⟩ := hloop
  refine ⟨r, s1, ?_, g2⟩
  unfold sDrawProjectRelation_m
  rw [h1, Option.bind_some, g1, Option.bind_some]
  dsimp only
  rw [k1, Option.bind_some]
  dsimp only
  rw [e1]; rfl
/-! ### unions -/
def unionR (a b : Relation) : Relation := if Valid a ∧ Valid b ∧ a.N = b.N then ⟨a.N, List.zipWith orI a.Rows b.Rows⟩ else a
theorem union_loop {a b : List Int} {n : Nat} (ha : RowsOk n a) (hb : RowsOk n b) {f : Nat → List Int → Option (List Int)} (hf : ∀ k s, f k s = (s[k]?).bind fun x1 => (b[k]?).bind fun x2 => grd (0 ≤ x1 ∧ 0 ≤ x2) <| some (List.set s k ((x1.toNat ||| x2.toNat : Nat) : Int))) : eachN f 0 n a = some (List.zipWith orI a b) := by
  obtain ⟨t, h1, h2⟩ := eachN_ok (P := fun m t => t = (List.zipWith orI a b).take m ++ a.drop m) (f := f) (n := n) (i := 0) (s := a) (by simp) (fun m t _ hm ht => by
    subst ht
    have hma : m < a.length := by rw [ha.1]; omega
    have hmb : m < b.length := by rw [hb.1]; omega
    obtain ⟨x, hx⟩ : ∃ x, a[m]? = some x := ⟨_, List.getElem?_eq_getElem hma⟩
    obtain ⟨y, hy⟩ : ∃ y, b[m]? = some y := ⟨_, List.getElem?_eq_getElem hmb⟩
    have hz : (List.zipWith orI a b)[m]? = some (orI x y) := by rw [List.getElem?_zipWith, hx, hy]
    have hlz : (List.zipWith orI a b).length = n := by rw [List.length_zipWith, ha.1, hb.1]; omega
    have g1 : ((List.zipWith orI a b).take m ++ a.drop m)[m]? = some x := by
      rw [List.getElem?_append_right (by simp; omega)]
      simp only [List.length_take]
      rw [show m - min m (List.zipWith orI a b).length = 0 by omega, List.getElem?_drop, Nat.add_zero, hx]
    refine ⟨_, ?_, rfl⟩
    rw [hf, g1, Option.bind_some, hy, Option.bind_some, grd_pos ⟨(ha.2 x (List.mem_of_getElem? hx)).1, (hb.2 y (List.mem_of_getElem? hy)).1⟩]
    congr 1
    rw [List.set_append_right _ _ (by simp; omega)]
    simp only [List.length_take]
    rw [show m - min m (List.zipWith orI a b).length = 0 by omega, List.take_add_one, hz, List.append_assoc]
    congr 1
    rw [List.drop_eq_getElem_cons hma]; rfl)
  rw [h1, h2, Nat.zero_add, List.take_of_length_le (by rw [List.length_zipWith, ha.1, hb.1]; omega), List.drop_eq_nil_of_le (by rw [ha.1]; exact Nat.le_refl _), List.append_nil]
theorem sUnion_eq {a b : Relation} (h : a.Rows.length ≤ 1048576) : sUnionRelation_m a b = some (unionR a b) := by
  unfold sUnionRelation_m unionR
  rw [copy_some h, Option.bind_some, sIsValid_eq, Option.bind_some]
  by_cases ha : Valid a
  · rw [if_pos (by simpa using ha), sIsValid_eq, Option.bind_some, Option.bind_some]
    by_cases hb : Valid b
    · rw [if_neg (by simpa using hb), Option.bind_some]
      by_cases hN : a.N = b.N
      · rw [if_neg (by simpa using hN), if_pos ⟨ha, hb, hN⟩]
        obtain ⟨ka, _⟩ := valid_ok ha
        obtain ⟨kb, _⟩ := valid_ok hb
        rw [← hN] at kb
        rw [union_loop (f := sUnionRelation_L1 b) ka kb fun k s => rfl]; rfl
      · rw [if_pos (by simpa using hN), if_neg fun h => hN h.2.2]
    · rw [if_pos (by simpa using hb), Option.bind_some, if_pos rfl, if_neg fun h => hb h.2.1]
  · rw [if_neg (by simpa using ha), Option.bind_some, if_pos rfl, Option.bind_some, if_pos rfl, if_neg fun h => ha h.1]
theorem iUnion_eq {a b : Relation} (h : a.Rows.length ≤ 1048576) : iUnionRelation_m a b = some (unionR a b) := by
  unfold iUnionRelation_m unionR
  rw [copy_same, copy_some h, Option.bind_some, iIsValid_eq, Option.bind_some]
  by_cases ha : Valid a
  · rw [if_pos (by simpa using ha), iIsValid_eq, Option.bind_some, Option.bind_some]
    by_cases hb : Valid b
    · rw [if_pos (by simpa using hb), Option.bind_some]
      by_cases hN : a.N = b.N
      · rw [if_pos (by simpa using hN), if_pos ⟨ha, hb, hN⟩]
        obtain ⟨ka, _⟩ := valid_ok ha
        obtain ⟨kb, _⟩ := valid_ok hb
        rw [← hN] at kb
        rw [ka.1, union_loop (f := iUnionRelation_L1 b) ka kb fun k s => rfl]; rfl
      · rw [if_neg (by simpa using hN), if_neg fun h => hN h.2.2]
    · rw [if_neg (by simpa using hb), Option.bind_some, if_neg (by simp), if_neg fun h => hb h.2.1]
  · rw [if_neg (by simpa using ha), Option.bind_some, if_neg (by simp), Option.bind_some, if_neg (by simp), if_neg fun h => ha h.1]
theorem union_ok {n : Nat} {a b : List Int} (ha : RowsOk n a) (hb : RowsOk n b) : RowsOk n (List.zipWith orI a b) := by
  refine ⟨by rw [List.length_zipWith, ha.1, hb.1]; omega, fun x hx => ?_⟩
  obtain ⟨i, hi⟩ := List.mem_iff_getElem?.1 hx
  rw [List.getElem?_zipWith] at hi
  cases h1 : a[i]? with
  | none => rw [h1] at hi; simp at hi
  | some y =>
    cases h2 : b[i]? with
    | none => rw [h1, h2] at hi; simp at hi
    | some z =>
      rw [h1, h2] at hi
      simp only [Option.some.injEq] at hi
      subst hi
      exact ⟨orI_nonneg _ _, by rw [orI_toNat]; exact Nat.or_lt_two_pow (ha.2 y (List.mem_of_getElem? h1)).2 (hb.2 z (List.mem_of_getElem? h2)).2⟩
theorem rows_valid {n : Int} {s : List Int} (h0 : 0 ≤ n) (h1 : n ≤ 16) (h : RowsOk n.toNat s) : Valid ⟨n, s⟩ := by
  have hl := h.1
  refine ⟨h0, h1, by show (s.length : Int) = n; omega, fun x hx => ?_⟩
  have := h.2 x hx
  have := pow_pos' n
  exact ⟨(h.2 x hx).1, by show x ≤ ((2 ^ n.toNat : Nat) : Int) - 1; omega⟩
theorem union_idem (a b : Relation) : unionR (unionR a b) b = unionR a b := by
  by_cases hc : Valid a ∧ Valid b ∧ a.N = b.N
  · have e : unionR a b = ⟨a.N, List.zipWith orI a.Rows b.Rows⟩ := if_pos hc
    obtain ⟨ha, hb, hN⟩ := hc
    obtain ⟨ka, hn⟩ := valid_ok ha
    obtain ⟨kb, _⟩ := valid_ok hb
    rw [← hN] at kb
    have hv : Valid ⟨a.N, List.zipWith orI a.Rows b.Rows⟩ := rows_valid ha.1 ha.2.1 (union_ok ka kb)
    rw [e]
    have e2 : unionR ⟨a.N, List.zipWith orI a.Rows b.Rows⟩ b = ⟨a.N, List.zipWith orI (List.zipWith orI a.Rows b.Rows) b.Rows⟩ := if_pos ⟨hv, hb, hN⟩
    rw [e2]
    congr 1
    apply List.ext_getElem?
    intro i
    rw [List.getElem?_zipWith, List.getElem?_zipWith]
    cases a.Rows[i]? with
    | none => rfl
    | some x =>
      cases b.Rows[i]? with
      | none => rfl
      | some y =>
        show some (orI (orI x y) y) = some (orI x y)
        unfold orI
        rw [Int.toNat_natCast, Nat.or_assoc, Nat.or_self]
  · have e : unionR a b = a := if_neg hc
    rw [e, e]
theorem union_len (a b : Relation) : (unionR a b).Rows.length = a.Rows.length := by
  unfold unionR
  split
  · rename_i hc
    obtain ⟨ka, _⟩ := valid_ok hc.1
    obtain ⟨kb, _⟩ := valid_ok hc.2.1
    rw [← hc.2.2] at kb
    show (List.zipWith orI a.Rows b.Rows).length = _
    rw [(union_ok ka kb).1, ka.1]
  · rfl
/-! ### projections -/
theorem project_in {p : Relation} {l : List Int} (hl : l.length ≤ 16) (k1 : Nat) (x1 : Int) {f : Nat → Int → List Int → Option (List Int)} (hf : ∀ k2 x2 s2, f k2 x2 s2 = ((sHasPair_m p x1 x2).bind fun y3 => if y3 = true then ((s2[k1]?).bind fun x3 => grd (0 ≤ (k2 : Int) ∧ (k2 : Int) < 63) <| grd (0 ≤ x3 ∧ 0 ≤ ((2 ^ (k2 : Int).toNat : Nat) : Int)) <| some (List.set s2 k1 ((x3.toNat ||| ((2 ^ (k2 : Int).toNat : Nat) : Int).toNat : Nat) : Int))) else some s2).bind fun s3 => some s3)
    {s : List Int} {v : Int} (hs : s[k1]? = some v) (hv : 0 ≤ v) :
    ∃ y : Int, eachL f 0 l s = some (s.set k1 y) ∧ 0 ≤ y ∧ ∀ n, y.toNat.testBit n = true ↔ v.toNat.testBit n = true ∨ ∃ x2, l[n]? = some x2 ∧ hasP p x1 x2 := by
  have hk1 := (List.getElem?_eq_some_iff.1 hs).1
  have key : ∀ (m k : Nat) (v : Int), k + m = l.length → 0 ≤ v → ∃ y : Int, eachL f k (l.drop k) (s.set k1 v) = some (s.set k1 y) ∧ 0 ≤ y ∧ ∀ n, y.toNat.testBit n = true ↔ v.toNat.testBit n = true ∨ (k ≤ n ∧ ∃ x2, l[n]? = some x2 ∧ hasP p x1 x2) := by
    intro m
    induction m with
    | zero =>
      intro k v hk hv
      refine ⟨v, by rw [List.drop_eq_nil_of_le (by omega)]; rfl, hv, fun n => ⟨.inl, fun h => h.elim id fun ⟨h1, x2, h2, _⟩ => ?_⟩⟩
      rw [List.getElem?_eq_none (by omega)] at h2; cases h2
    | succ m ih =>
      intro k v hk hv
      obtain ⟨x2, hx2⟩ : ∃ x2, l[k]? = some x2 := ⟨_, List.getElem?_eq_getElem (by omega)⟩
      have hd : l.drop k = x2 :: l.drop (k + 1) := by
        rw [List.drop_eq_getElem_cons (by omega)]
        have : l[k] = x2 := by rw [List.getElem?_eq_getElem (by omega)] at hx2; exact Option.some.inj hx2
        rw [this]
      have hsv : (s.set k1 v)[k1]? = some v := by rw [List.getElem?_set]; simp [hk1]
      by_cases hp : hasP p x1 x2
      · have e : f k x2 (s.set k1 v) = some (s.set k1 (orI v ((2 ^ k : Nat) : Int))) := by
          rw [hf, sHasPair_eq, Option.bind_some, if_pos (by simpa using hp), hsv, Option.bind_some, grd_pos (by constructor <;> omega), grd_pos ⟨hv, Int.natCast_nonneg _⟩, Option.bind_some, List.set_set]
          rfl
        obtain ⟨y, h1, h2, h3⟩ := ih (k + 1) (orI v ((2 ^ k : Nat) : Int)) (by omega) (orI_nonneg _ _)
        refine ⟨y, by rw [hd]; simp only [eachL, e, Option.bind_some]; exact h1, h2, fun n => ?_⟩
        rw [h3, orI_toNat, Nat.testBit_or, Int.toNat_natCast, Nat.testBit_two_pow, Bool.or_eq_true, decide_eq_true_iff]
        constructor
        · rintro ((h | h) | ⟨h, h'⟩)
          · exact .inl h
          · subst h; exact .inr ⟨Nat.le_refl _, x2, hx2, hp⟩
          · exact .inr ⟨by omega, h'⟩
        · rintro (h | ⟨h, h'⟩)
          · exact .inl (.inl h)
          · by_cases hn : k = n
            · exact .inl (.inr hn)
            · exact .inr ⟨by omega, h'⟩
      · have e : f k x2 (s.set k1 v) = some (s.set k1 v) := by
          rw [hf, sHasPair_eq, Option.bind_some, if_neg (by simpa using hp), Option.bind_some]
        obtain ⟨y, h1, h2, h3⟩ := ih (k + 1) v (by omega) hv
        refine ⟨y, by rw [hd]; simp only [eachL, e, Option.bind_some]; exact h1, h2, fun n => ?_⟩
        rw [h3]
        constructor
        · rintro (h | ⟨h, h'⟩)
          · exact .inl h
          · exact .inr ⟨by omega, h'⟩
        · rintro (h | ⟨h, x3, h4, h5⟩)
          · exact .inl h
          · by_cases hn : k = n
            · subst hn; rw [hx2] at h4; cases h4; exact absurd h5 hp
            · exact .inr ⟨by omega, x3, h4, h5⟩
  obtain ⟨y, h1, h2, h3⟩ := key l.length 0 v (by omega) hv
  have e0 : s.set k1 v = s := by
    apply List.ext_getElem?
    intro q
    rw [List.getElem?_set]
    by_cases hq : k1 = q
    · subst hq; rw [if_pos rfl, if_pos hk1, hs]
    · rw [if_neg hq]
  rw [List.drop_zero, e0] at h1
  exact ⟨y, h1, h2, fun n => by rw [h3]; simp⟩
theorem project_same : iProjectRelation_m = sProjectRelation_m := by
  funext p l
  unfold iProjectRelation_m sProjectRelation_m
  rw [iIsValid_eq, sIsValid_eq, empty_same]
  have e : iProjectRelation_L1 p l = sProjectRelation_L1 p l := by
    funext k x s
    unfold iProjectRelation_L1 sProjectRelation_L1
    have e2 : iProjectRelation_L2 p k x = sProjectRelation_L2 p k x := by
      funext k2 x2 s2
      unfold iProjectRelation_L2 sProjectRelation_L2
      rw [has_same]
    rw [e2]
  rw [e]
theorem project_spec {p : Relation} (hp : Valid p) {l : List Int} (hl : l.length ≤ 16) : ∃ q, sProjectRelation_m p l = some q ∧ Valid q ∧ q.N = l.length ∧ ∀ (m n : Nat) (x y : Int), l[m]? = some x → l[n]? = some y → (hasP q (m : Int) (n : Int) ↔ hasP p x y) := by
  have key : ∀ (m k : Nat) (s : List Int), k + m = l.length → RowsOk l.length s → (∀ i, k ≤ i → i < l.length → s[i]? = some 0) → (∀ i x, i < k → l[i]? = some x → ∀ n, Rl s i n ↔ ∃ y, l[n]? = some y ∧ hasP p x y) →
      ∃ s', eachL (sProjectRelation_L1 p l) k (l.drop k) s = some s' ∧ RowsOk l.length s' ∧ ∀ i x, l[i]? = some x → ∀ n, Rl s' i n ↔ ∃ y, l[n]? = some y ∧ hasP p x y := by
    intro m
    induction m with
    | zero =>
      intro k s hk hok _ h
      exact ⟨s, by rw [List.drop_eq_nil_of_le (by omega)]; rfl, hok, fun i x hx => h i x (by have := (List.getElem?_eq_some_iff.1 hx).1; omega) hx⟩
    | succ m ih =>
      intro k s hk hok h0 h
      obtain ⟨x, hx⟩ : ∃ x, l[k]? = some x := ⟨_, List.getElem?_eq_getElem (by omega)⟩
      have hd : l.drop k = x :: l.drop (k + 1) := by
        rw [List.drop_eq_getElem_cons (by omega)]
        have : l[k] = x := by rw [List.getElem?_eq_getElem (by omega)] at hx; exact Option.some.inj hx
        rw [this]
      obtain ⟨y, h1, h2, h3⟩ := project_in (p := p) hl k x (f := sProjectRelation_L2 p k x) (fun _ _ _ => rfl) (h0 k (Nat.le_refl _) (by omega)) (Int.le_refl _)
      have e : sProjectRelation_L1 p l k x s = some (s.set k y) := by
        unfold sProjectRelation_L1; rw [h1]; rfl
      have hks : k < s.length := by rw [hok.1]; omega
      have hget : ∀ i, (s.set k y)[i]? = if k = i then some y else s[i]? := fun i => by
        rw [List.getElem?_set]
        by_cases hi : k = i
        · subst hi; simp [hks]
        · simp [hi]
      have hylt : y.toNat < 2 ^ l.length := by
        apply Nat.lt_pow_two_of_testBit
        intro n hn
        cases hb : y.toNat.testBit n with
        | false => rfl
        | true =>
          rcases (h3 n).1 hb with h4 | ⟨x2, h4, _⟩
          · simp at h4
          · rw [List.getElem?_eq_none (by omega)] at h4; cases h4
      have hok' : RowsOk l.length (s.set k y) := by
        refine ⟨by rw [List.length_set]; exact hok.1, fun z hz => ?_⟩
        rcases List.mem_or_eq_of_mem_set hz with h4 | h4
        · exact hok.2 z h4
        · subst h4; exact ⟨h2, hylt⟩
      obtain ⟨s', k1, k2, k3⟩ := ih (k + 1) (s.set k y) (by omega) hok' (fun i hi hil => by rw [hget, if_neg (by omega)]; exact h0 i (by omega) hil) (fun i x' hi hx' n => by
        by_cases hik : k = i
        · subst hik
          rw [hx] at hx'; cases hx'
          have : (s.set k y).getD k 0 = y := by rw [List.getD_eq_getElem?_getD, hget, if_pos rfl]; rfl
          unfold Rl
          rw [this, h3]; simp
        · have : (s.set k y).getD i 0 = s.getD i 0 := by rw [List.getD_eq_getElem?_getD, hget, if_neg hik, List.getD_eq_getElem?_getD]
          have h5 := h i x' (by omega) hx' n
          unfold Rl at h5 ⊢
          rw [this]; exact h5)
      exact ⟨s', by rw [hd]; simp only [eachL, e, Option.bind_some]; exact k1, k2, k3⟩
  obtain ⟨s', h1, h2, h3⟩ := key l.length 0 (List.replicate l.length 0) (by omega) ⟨by simp, fun x hx => by
    rw [List.mem_replicate] at hx; rw [hx.2]; exact ⟨Int.le_refl _, Nat.two_pow_pos _⟩⟩ (fun i _ hi => by rw [List.getElem?_replicate, if_pos hi]) (fun i x hi => absurd hi (Nat.not_lt_zero _))
  have hv : Valid ⟨(l.length : Int), s'⟩ := rows_valid (Int.natCast_nonneg _) (by omega) (by rw [Int.toNat_natCast]; exact h2)
  refine ⟨⟨(l.length : Int), s'⟩, ?_, hv, rfl, fun m n x y hx hy => ?_⟩
  · unfold sProjectRelation_m
    rw [sIsValid_eq, Option.bind_some, if_pos (by simpa using hp), if_neg (by omega), empty_eq (Int.natCast_nonneg _) (by omega), Option.bind_some]
    dsimp only
    rw [Int.toNat_natCast]
    rw [List.drop_zero] at h1
    rw [h1]; rfl
  · rw [hasP_Rl hv, h3 m x hx n]
    constructor
    · rintro ⟨y', h4, h5⟩
      rw [hy] at h4; cases h4; exact h5
    · intro h; exact ⟨y, hy, h⟩
theorem findN_none {c : Bool} {f : Nat → Unit → Option (Unit ⊕ Bool)} {n : Nat} (h : ∀ k, k < n → f k () = some (.inl ())) : findN f 0 n () = some (.inl ()) :=
  (findN_any (c := c) (p := fun _ => False) fun k hk => ⟨fun h => h.elim, fun _ => by rw [Nat.zero_add]; exact h k hk⟩).2 fun _ _ h => h
theorem pairs_true (a : List UInt8) : wFnPairs_m a = some true := by
  unfold wFnPairs_m wbig_m
  rw [Option.bind_some]
  by_cases hb : 1048576 < (a.length : Int)
  · rw [if_pos (by simpa using hb)]
  rw [if_neg (by simpa using hb)]
  obtain ⟨r, i, k, h1, h2⟩ := drawAdd_some (a := a) (by omega)
  obtain ⟨x, y, g1, g2, g3⟩ := drawUnion_some (a := a) (by omega)
  obtain ⟨p, l, k1, k2⟩ := drawProject_some (a := a) (by omega)
  rw [h1, Option.bind_some]
  dsimp only
  rw [add_same, add_eq (by omega), Option.bind_some, Option.bind_some, sEqual_self, Option.bind_some, if_pos rfl, iHasPair_eq, Option.bind_some, sHasPair_eq, Option.bind_some, Option.bind_some, if_neg (by simp), g1, Option.bind_some]
  dsimp only
  rw [iUnion_eq (by omega), Option.bind_some, sUnion_eq (by omega), Option.bind_some, sEqual_self, Option.bind_some, if_pos rfl, iUnion_eq (by rw [union_len]; omega), Option.bind_some, union_idem, sEqual_self, Option.bind_some, Option.bind_some, if_neg (by simp), k1, Option.bind_some]
  dsimp only
  rw [project_same]
  have hend : ((iEmptyRelation_m 3).bind fun y24 => (sEqualRelation_m y24 (⟨3, ([0, 0, 0] : List Int)⟩ : Relation)).bind fun y25 => some y25) = some true := by
    rw [empty_same, empty_eq (by omega) (by omega), Option.bind_some]
    have : List.replicate (3 : Int).toNat (0 : Int) = [0, 0, 0] := rfl
    rw [this, sEqual_self]; rfl
  have hfin : ∀ q, sProjectRelation_m p l = some q → findN (wFnPairs_L1 p l q) 0 q.N.toNat () = some (.inl ()) → (((sProjectRelation_m p l).bind fun y19 => (sProjectRelation_m p l).bind fun y20 => (sEqualRelation_m y19 y20).bind fun y21 => if y21 = true then ((findN (wFnPairs_L1 p l y19) 0 (y19.N.toNat) ()).bind <| onr (fun r2 => some r2) fun _ => (iEmptyRelation_m 3).bind fun y24 => (sEqualRelation_m y24 (⟨3, ([0, 0, 0] : List Int)⟩ : Relation)).bind fun y25 => some y25) else some false) = some true) := fun q hq hf => by
    rw [hq, Option.bind_some, Option.bind_some, sEqual_self, Option.bind_some, if_pos rfl, hf, Option.bind_some]
    exact hend
  by_cases hc : Valid p ∧ l.length ≤ 16
  · obtain ⟨q, q1, q2, q3, q4⟩ := project_spec hc.1 hc.2
    refine hfin q q1 (findN_none (c := false) fun m hm => ?_)
    unfold wFnPairs_L1
    rw [findN_none (c := false) fun n hn => ?_]
    · rfl
    · unfold wFnPairs_L2
      obtain ⟨u, hu⟩ : ∃ u, l[m]? = some u := ⟨_, List.getElem?_eq_getElem (by omega)⟩
      obtain ⟨v, hv⟩ : ∃ v, l[n]? = some v := ⟨_, List.getElem?_eq_getElem (by omega)⟩
      rw [iHasPair_eq, Option.bind_some, hu, Option.bind_some, hv, Option.bind_some, sHasPair_eq, Option.bind_some, if_pos (by rw [Bool.eq_iff_iff, decide_eq_true_iff, decide_eq_true_iff]; exact q4 m n u v hu hv)]
  · have hq : sProjectRelation_m p l = some ⟨0, []⟩ := by
      unfold sProjectRelation_m
      rw [sIsValid_eq, Option.bind_some]
      by_cases hv : Valid p
      · rw [if_pos (by simpa using hv), if_pos (by have : ¬ l.length ≤ 16 := fun h => hc ⟨hv, h⟩; omega)]
      · rw [if_neg (by simpa using hv)]
    exact hfin _ hq rfl
end Go.Proofs.Ytonnooljidombaa

