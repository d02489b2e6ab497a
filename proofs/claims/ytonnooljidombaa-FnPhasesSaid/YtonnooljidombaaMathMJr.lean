/- What those partial functions come to: plain lemmas on data; each bears its conditions in its statement. -/
import Derived.Test.YtonnooljidombaaMathMIr
set_option linter.unusedVariables false
set_option linter.unusedSimpArgs false
set_option linter.ambiguousOpen false
set_option linter.unusedSectionVars false
set_option linter.unnecessarySimpa false
set_option linter.unusedVariables false
set_option linter.unusedSimpArgs false
namespace Go.Proofs.Ytonnooljidombaa
open Go Go.E
/-! ### draws of symbols -/
def nmK (k : Nat) : ByteArray := ([(⟨#[97]⟩ : ByteArray), (⟨#[98]⟩ : ByteArray), (⟨#[99]⟩ : ByteArray), (⟨#[100]⟩ : ByteArray)]).getD k ⟨#[]⟩
theorem nmK_inj {i k : Nat} (hi : i < 4) (hk : k < 4) (h : nmK i = nmK k) : i = k := by
  have hh : (nmK i).data = (nmK k).data := by rw [h]
  rcases i with _ | _ | _ | _ | i <;> rcases k with _ | _ | _ | _ | k <;> first | rfl | omega | (simp [nmK] at hh)
theorem sl8Draw_step {a2 a3 : Bool} {o : l1Cur} {k : Nat} (hk : k < 4) {i h : Int} {s : List Attribute} (hs : s.length ≤ 1000) (ho : CurOk ⟨o.b, i, h⟩) :
    ∃ x j g, sl8Draw_L1 a2 a3 o k (i, h, s) = some (j, g, s ++ [x]) ∧ x.Name = nmK k ∧ 0 ≤ j := by
  have hx : ([(⟨#[97]⟩ : ByteArray), (⟨#[98]⟩ : ByteArray), (⟨#[99]⟩ : ByteArray), (⟨#[100]⟩ : ByteArray)])[k]? = some (nmK k) := by
    rcases k with _ | _ | _ | _ | k <;> first | rfl | omega
  obtain ⟨y2, z3, e1, m1, c1, b1⟩ := pickInt_some ho (l := [1, 1, 2, 2, 3, 4]) (by simp)
  have c1' : CurOk ⟨o.b, z3.i, z3.h⟩ := ⟨c1.1, ho.2⟩
  obtain ⟨y3, z4, e2, m2, c2, b2⟩ := pickInt_some c1' (l := [1, 2, 2, 1, 2, 3]) (by simp)
  have c2' : CurOk ⟨o.b, z4.i, z4.h⟩ := ⟨c2.1, ho.2⟩
  obtain ⟨y4, z5, e3, m3, c3, b3⟩ := pickInt_some c2' (l := [1, 1, 2, 3]) (by simp)
  have g : ((s.length : Int) + 1) * 40 ≤ 140737488355328 ∧ (s.length : Int) + 1 ≤ 9223372036854775807 := by constructor <;> omega
  unfold sl8Draw_L1
  dsimp only
  rw [hx, Option.bind_some, e1, Option.bind_some]
  dsimp only
  rw [e2, Option.bind_some]
  dsimp only
  have hy3 : y3 = 1 ∨ y3 = 2 ∨ y3 = 3 := by simp at m2; omega
  cases a3 with
  | true =>
    rw [if_pos rfl, e3, Option.bind_some]
    dsimp only
    cases a2 <;> rcases hy3 with rfl | rfl | rfl <;> (simp only [reduceIte, Option.bind_some, grd_pos g]; exact ⟨_, _, _, rfl, rfl, c3.1⟩)
  | false =>
    rw [if_neg (by simp)]
    cases a2 <;> rcases hy3 with rfl | rfl | rfl <;> (simp only [reduceIte, Option.bind_some, grd_pos g]; exact ⟨_, _, _, rfl, rfl, c2.1⟩)
def NamesOk (s : List Attribute) : Prop := ∀ k x, s[k]? = some x → x.Name = nmK k
theorem names_snoc {s : List Attribute} (h : NamesOk s) {x : Attribute} (hx : x.Name = nmK s.length) : NamesOk (s ++ [x]) := by
  intro k y hy
  rw [List.getElem?_append] at hy
  split at hy
  · exact h k y hy
  · rename_i hk
    have : k - s.length = 0 := by
      have := (List.getElem?_eq_some_iff.1 hy).1
      simp at this; omega
    rw [this] at hy
    simp at hy
    rw [← hy, hx]
    congr 1; omega
theorem sl8Draw_some {o : l1Cur} (h : CurOk o) (a1 : ByteArray) (a2 a3 : Bool) : ∃ l z, sl8Draw_m a1 a2 a3 o = some (⟨a1, l⟩, z) ∧ 1 ≤ l.length ∧ l.length ≤ 4 ∧ NamesOk l ∧ CurOk z ∧ z.b = o.b := by
  obtain ⟨y1, z1, e1, p1, p2, _, c1, b1⟩ := below_some h 4
  have p2 := p2 (by omega)
  have hloop := eachN_ok (P := fun k (s : Int × Int × List Attribute) => 0 ≤ s.1 ∧ s.2.2.length = k ∧ NamesOk s.2.2) (f := sl8Draw_L1 a2 a3 o) (n := (1 + y1).toNat) (i := 0) (s := (z1.i, z1.h, ([] : List Attribute))) ⟨c1.1, rfl, fun k x hx => by simp at hx⟩ (fun k s _ hk hs => by
    obtain ⟨s1, s2, s3⟩ := s
    obtain ⟨q1, q2, q3⟩ := hs
    dsimp only at q1 q2 q3
    obtain ⟨x, j, g, f1, f2, f3⟩ := sl8Draw_step (a2 := a2) (a3 := a3) (o := o) (k := k) (by omega) (s := s3) (h := s2) (by omega) ⟨q1, h.2⟩
    exact ⟨_, f1, f3, by simp [q2], names_snoc q3 (by rw [q2]; exact f2)⟩)
  obtain ⟨⟨s1, s2, s3⟩, f1, q1, q2, q3⟩ := hloop
  dsimp only at q1 q2 q3
  unfold sl8Draw_m
  rw [e1, Option.bind_some]
  dsimp only
  rw [grd_pos (by constructor <;> omega), f1, Option.bind_some]
  exact ⟨s3, _, rfl, by omega, by omega, q3, ⟨q1, h.2⟩, rfl⟩
theorem once_some {o : l1Cur} (h : CurOk o) (n : Int) : ∃ y z, sl1Once_m n o = some (y, z) ∧ CurOk z ∧ z.b = o.b := by
  obtain ⟨y, z, e, _, _, _, c, b⟩ := below_some h n
  unfold sl1Once_m
  rw [e, Option.bind_some]
  exact ⟨_, _, rfl, ⟨c.1, h.2⟩, rfl⟩
theorem names_set {s : List Attribute} (h : NamesOk s) {x y : Attribute} (hx : s[0]? = some x) (hy : y.Name = x.Name) : NamesOk (s.set 0 y) := by
  intro k z hz
  rw [List.getElem?_set] at hz
  split at hz
  · rename_i hk
    subst hk
    split at hz
    · simp at hz; rw [← hz, hy]; exact h 0 x hx
    · cases hz
  · exact h k z hz
theorem drawPhases_some {a : List UInt8} (h : a.length ≤ 1048576) : ∃ l r, sDrawPhasesOf_m a = some (l, r) ∧ l.length ≤ 4 ∧ NamesOk l ∧ r.Rows.length ≤ 1048576 := by
  obtain ⟨o, h1, h2, h3⟩ := new_some h
  obtain ⟨l, z, e1, n1, n2, nk, c1, b1⟩ := sl8Draw_some h2 ⟨#[115]⟩ false true
  obtain ⟨y4, z2, e2, _, _, _, c2, b2⟩ := below_some (o := ⟨o.b, z.i, z.h⟩) ⟨c1.1, h2.2⟩ 5
  have hloop := eachN_ok (P := fun _ (s : Int × Int × List Int × Int) => 0 ≤ s.1 ∧ s.2.2.1.length = l.length) (f := sDrawPhasesOf_L1 o ⟨⟨#[115]⟩, l⟩) (n := y4.toNat) (i := 0) (s := (z2.i, z2.h, List.replicate l.length 0, (l.length : Int))) ⟨c2.1, by simp⟩ (fun k s _ _ hs => by
    obtain ⟨s1, s2, s3, s4⟩ := s
    obtain ⟨q1, q2⟩ := hs
    dsimp only at q1 q2
    obtain ⟨y5, w4, f1, _, _, _, d1, _⟩ := below_some (o := ⟨o.b, s1, s2⟩) ⟨q1, h2.2⟩ (l.length : Int)
    obtain ⟨y6, w5, f2, _, _, _, d2, _⟩ := below_some (o := ⟨o.b, w4.i, w4.h⟩) ⟨d1.1, h2.2⟩ (l.length : Int)
    unfold sDrawPhasesOf_L1
    dsimp only
    rw [f1, Option.bind_some]
    dsimp only
    rw [f2, Option.bind_some]
    dsimp only
    by_cases hy : y5 = y6
    · rw [if_pos hy]
      exact ⟨_, rfl, d2.1, q2⟩
    · rw [if_neg hy]
      have hmin : ∃ y7, sl1Min_m y5 y6 = some y7 := by unfold sl1Min_m; split <;> exact ⟨_, rfl⟩
      have hmax : ∃ y8, sl1Max_m y5 y6 = some y8 := by unfold sl1Max_m; split <;> exact ⟨_, rfl⟩
      obtain ⟨y7, g7⟩ := hmin
      obtain ⟨y8, g8⟩ := hmax
      rw [g7, Option.bind_some, g8, Option.bind_some, add_eq (by show s3.length ≤ _; omega), Option.bind_some, Option.bind_some]
      exact ⟨_, rfl, d2.1, (addP_len ⟨s4, s3⟩ y7 y8).1.trans q2⟩)
  obtain ⟨⟨s1, s2, s3, s4⟩, f1, q1, q2⟩ := hloop
  dsimp only at q1 q2
  obtain ⟨y10, z6, e3, c3, b3⟩ := once_some (o := ⟨o.b, s1, s2⟩) ⟨q1, h2.2⟩ 12
  unfold sDrawPhasesOf_m
  rw [h1, Option.bind_some, e1, Option.bind_some]
  dsimp only
  rw [empty_eq (by omega) (by omega), Option.bind_some, e2, Option.bind_some]
  dsimp only
  rw [Int.toNat_natCast, f1, Option.bind_some]
  dsimp only
  rw [e3, Option.bind_some]
  dsimp only
  obtain ⟨x, hx⟩ : ∃ x, l[0]? = some x := ⟨_, List.getElem?_eq_getElem (by omega)⟩
  cases y10 with
  | true =>
    rw [if_pos rfl]
    obtain ⟨r, z7, g1, g2, _, _, c4, _⟩ := drawRel_some (o := ⟨o.b, z6.i, z6.h⟩) ⟨c3.1, h2.2⟩
    obtain ⟨y12, z8, e4, c5, _⟩ := once_some (o := ⟨o.b, z7.i, z7.h⟩) ⟨c4.1, h2.2⟩ 16
    rw [g1, Option.bind_some]
    dsimp only
    rw [e4, Option.bind_some]
    dsimp only
    cases y12 with
    | true => rw [if_pos rfl, hx, Option.bind_some]; exact ⟨_, _, rfl, by simp; omega, names_set nk hx rfl, by omega⟩
    | false => rw [if_neg (by simp)]; exact ⟨_, _, rfl, n2, nk, by omega⟩
  | false =>
    rw [if_neg (by simp)]
    obtain ⟨y12, z8, e4, c5, _⟩ := once_some (o := ⟨o.b, z6.i, z6.h⟩) ⟨c3.1, h2.2⟩ 16
    rw [e4, Option.bind_some]
    dsimp only
    cases y12 with
    | true => rw [if_pos rfl, hx, Option.bind_some]; exact ⟨_, _, rfl, by simp; omega, names_set nk hx rfl, by show s3.length ≤ _; omega⟩
    | false => rw [if_neg (by simp)]; exact ⟨_, _, rfl, n2, nk, by show s3.length ≤ _; omega⟩
/-! ### the law -/
theorem sameTexts_self (l : List ByteArray) : wsameTexts_m l l = some true := by
  unfold wsameTexts_m
  rw [if_pos rfl]
  have := (findL_any (c := false) (xs := l) (i := 0) (p := fun _ _ => False) (f := wsameTexts_L1 l) fun k x hx => ⟨fun h => h.elim, fun _ => by
    rw [Nat.zero_add]; unfold wsameTexts_L1; rw [hx, Option.bind_some, if_pos rfl]⟩).2 fun _ _ _ h => h
  rw [this]; rfl
theorem index_split {x : ByteArray} : ∀ (u v : List ByteArray) (i : Nat), x ∉ u → findL (sIndexOf_L1 x) i (u ++ x :: v) () = some (.inr ((i + u.length : Nat) : Int))
  | [], v, i, _ => by simp [findL, sIndexOf_L1]
  | y :: u, v, i, h => by
    have hy : ¬ y = x := fun e => h (by rw [e]; exact List.mem_cons_self)
    have ih := index_split (x := x) u v (i + 1) fun hm => h (List.mem_cons_of_mem _ hm)
    rw [List.cons_append, findL]
    have e : sIndexOf_L1 x i y () = some (.inl ()) := by unfold sIndexOf_L1; rw [if_neg hy]
    rw [e, Option.bind_some]
    show findL (sIndexOf_L1 x) (i + 1) (u ++ x :: v) () = _
    rw [ih, List.length_cons]
    congr 3; omega
theorem indexOf_split {x : ByteArray} (u v : List ByteArray) (h : x ∉ u) : sIndexOf_m (u ++ x :: v) x = some (u.length : Int) := by
  unfold sIndexOf_m
  rw [index_split u v 0 h, Nat.zero_add]; rfl
theorem allDistinct_true {l : List ByteArray} (h : l.Nodup) : sAllDistinct_m l = some true := by
  unfold sAllDistinct_m
  have := (findL_any (c := false) (xs := l) (i := 0) (p := fun _ _ => False) (f := sAllDistinct_L1 l) fun k x hx => ⟨fun h => h.elim, fun _ => by
    rw [Nat.zero_add]
    have hk := (List.getElem?_eq_some_iff.1 hx).1
    unfold sAllDistinct_L1
    rw [grd_pos (by omega)]
    have hh : sl1Has_m (l.take k) x = some false := by
      unfold sl1Has_m
      have := (findL_any (c := true) (xs := l.take k) (i := 0) (p := fun _ y => y = x) (f := sl1Has_L1 x) fun j y _ => by
        unfold sl1Has_L1
        exact ⟨fun e => if_pos e, fun e => if_neg e⟩).2 fun j y hy e => by
          have hj := (List.getElem?_eq_some_iff.1 hy).1
          rw [List.length_take] at hj
          rw [List.getElem?_take_of_lt (by omega)] at hy
          have e1 := (List.getElem?_eq_some_iff.1 hy).2
          have e2 := (List.getElem?_eq_some_iff.1 hx).2
          have : j = k := (List.getElem_inj h).1 (by rw [e1, e2, e])
          omega
      rw [this]; rfl
    rw [hh, Option.bind_some, if_neg (by simp)]⟩).2 fun _ _ _ h => h
  rw [this]; rfl
theorem nm_eq {l : List Attribute} (h : NamesOk l) {k : Nat} (hk : k < l.length) : nm l k = nmK k := by
  unfold nm
  obtain ⟨x, hx⟩ : ∃ x, l[k]? = some x := ⟨_, List.getElem?_eq_getElem hk⟩
  rw [getD_some hx]; exact h k x hx
theorem map_nodup {l : List Attribute} (h : NamesOk l) (h4 : l.length ≤ 4) : ∀ {s : List Nat}, s.Nodup → (∀ k, k ∈ s → k < l.length) → (s.map (nm l)).Nodup
  | [], _, _ => by simp
  | k :: s, hn, hb => by
    rw [List.nodup_cons] at hn
    rw [List.map_cons, List.nodup_cons]
    refine ⟨fun hm => ?_, map_nodup h h4 hn.2 fun j hj => hb j (List.mem_cons_of_mem _ hj)⟩
    obtain ⟨j, hj, e⟩ := List.mem_map.1 hm
    have b1 := hb j (List.mem_cons_of_mem _ hj)
    have b2 := hb k List.mem_cons_self
    rw [nm_eq h b1, nm_eq h b2] at e
    have := nmK_inj (by omega) (by omega) e
    subst this
    exact hn.1 hj
theorem order_all {a : List Attribute} : ∀ (ps qs : List (List Nat × List Nat)) (i : Nat) (s : List ByteArray) (full : List Phase), full = qs.map (toPh a) → i + ps.length = qs.length → qs.drop i = ps → s.length + (flat ps).length ≤ 1000 →
    findL (wFnPhases_L1 full) i (ps.map (toPh a)) s = some (.inl (s ++ (flat ps).map (nm a)))
  | [], qs, i, s, full, _, _, _, _ => by simp [findL, flat]
  | p :: ps, qs, i, s, full, hf, hl, hd, hb => by
    have hi : qs[i]? = some p := by
      have := List.getElem?_drop (xs := qs) (i := i) (j := 0)
      rw [hd] at this; simpa using this.symm
    have hd' : qs.drop (i + 1) = ps := by
      have := List.drop_drop (l := qs) (i := 1) (j := i)
      rw [hd] at this; simpa [Nat.add_comm] using this.symm
    have hfl : flat (p :: ps) = p.1 ++ p.2 ++ flat ps := by simp [flat]
    have hlen : (flat (p :: ps)).length = p.1.length + p.2.length + (flat ps).length := by rw [hfl]; simp; omega
    have ih := order_all ps qs (i + 1) (s ++ (toPh a p).Inherited ++ (toPh a p).Synthesized) full hf (by simp at hl ⊢; omega) hd' (by simp [toPh]; omega)
    rw [List.map_cons, findL]
    have e : wFnPhases_L1 full i (toPh a p) s = some (.inl (s ++ (toPh a p).Inherited ++ (toPh a p).Synthesized)) := by
      unfold wFnPhases_L1
      rw [hf, List.getElem?_map, hi]
      show (wsameTexts_m (toPh a p).Inherited (toPh a p).Inherited).bind _ = _
      have h1 : (toPh a p).Inherited.length = p.1.length := by simp [toPh]
      have h2 : (toPh a p).Synthesized.length = p.2.length := by simp [toPh]
      rw [sameTexts_self, Option.bind_some, if_pos rfl, sameTexts_self, Option.bind_some, if_pos rfl, grd_pos (by rw [h1]; constructor <;> omega), grd_pos (by rw [List.length_append, h1, h2]; constructor <;> omega)]
    rw [e, Option.bind_some]
    show findL (wFnPhases_L1 full) (i + 1) (ps.map (toPh a)) _ = _
    rw [ih, hfl]
    simp [toPh]
theorem phases_true (a : List UInt8) : wFnPhases_m a = some true := by
  unfold wFnPhases_m wbig_m
  rw [Option.bind_some]
  by_cases hb : 1048576 < (a.length : Int)
  · rw [if_pos (by simpa using hb)]
  rw [if_neg (by simpa using hb)]
  obtain ⟨l, r, h1, h4, hnk, hr⟩ := drawPhases_some (a := a) (by omega)
  obtain ⟨pi, ps⟩ := phases_both (a := l) (r := r) (by omega) hr
  rw [h1, Option.bind_some]
  dsimp only
  rw [pi, Option.bind_some]
  generalize hph : phO l r = o at *
  obtain ⟨y4, y5⟩ := o
  dsimp only
  rw [ps, Option.bind_some]
  dsimp only
  rw [if_pos rfl, Option.bind_some, if_neg (by simp)]
  cases hq : phR l r with
  | none =>
    have : (y4, y5) = ([], false) := by rw [← hph]; unfold phO; rw [hq]
    cases this
    rw [show findL (wFnPhases_L1 []) 0 [] ([] : List ByteArray) = some (.inl []) from rfl, Option.bind_some]
    show (iterO (wFnPhases_L2 l r false []) 0).bind _ = _
    rw [iterO_done (f := wFnPhases_L2 l r false []) (r := .inl ()) (by unfold wFnPhases_L2; by_cases h : (0 : Int) < (l.length : Int) <;> simp [h])]
    rfl
  | some ph =>
    have : (y4, y5) = (ph.map (toPh l), true) := by rw [← hph]; unfold phO; rw [hq]
    cases this
    obtain ⟨d', HI, h0⟩ := phR_inv hq
    have hlen := HI.length h0
    have hall := HI.all h0
    rw [order_all ph ph 0 [] _ rfl (by simp) (by simp) (by simp; omega), Option.bind_some]
    show (iterO (wFnPhases_L2 l r true ([] ++ (flat ph).map (nm l))) 0).bind _ = _
    rw [List.nil_append]
    have hin : ∀ k1 : Nat, k1 < l.length → findL (wFnPhases_L3 l r ((flat ph).map (nm l)) (k1 : Int)) 0 l () = some (.inl ()) := fun k1 hk1 => by
      refine (findL_any (c := false) (p := fun _ _ => False) fun k2 x hx => ⟨fun h => h.elim, fun _ => ?_⟩).2 fun _ _ _ h => h
      rw [Nat.zero_add]
      have hk2 := (List.getElem?_eq_some_iff.1 hx).1
      unfold wFnPhases_L3
      rw [sHasPair_eq, Option.bind_some]
      by_cases hp : hasP r (k1 : Int) (k2 : Int)
      · obtain ⟨x1, hx1⟩ : ∃ x, l[k1]? = some x := ⟨_, List.getElem?_eq_getElem hk1⟩
        rw [if_pos (by simpa using hp), grd_pos (by omega), Int.toNat_natCast, hx1, Option.bind_some]
        obtain ⟨u, v, e⟩ := List.append_of_mem ((hall k2).2 hk2)
        have hu := HI.ord u k2 v e k1 hk1 hp
        obtain ⟨u1, u2, e2⟩ := List.append_of_mem hu
        have hnd := map_nodup hnk h4 HI.nodup fun k hk => (hall k).1 hk
        have n1 : x1.Name = nm l k1 := by unfold nm; rw [getD_some hx1]
        have n2 : x.Name = nm l k2 := by unfold nm; rw [getD_some hx]
        have i2 : sIndexOf_m ((flat ph).map (nm l)) x.Name = some (u.length : Int) := by
          rw [n2]
          rw [e, List.map_append, List.map_cons] at hnd ⊢
          rw [List.nodup_append] at hnd
          have := indexOf_split (x := nm l k2) (u.map (nm l)) (v.map (nm l)) fun hm => hnd.2.2 _ hm _ List.mem_cons_self rfl
          rw [this, List.length_map]
        have i1 : sIndexOf_m ((flat ph).map (nm l)) x1.Name = some (u1.length : Int) := by
          rw [n1]
          rw [e, e2, List.append_assoc, List.cons_append, List.map_append, List.map_cons] at hnd ⊢
          rw [List.nodup_append] at hnd
          have := indexOf_split (x := nm l k1) (u1.map (nm l)) ((u2 ++ k2 :: v).map (nm l)) fun hm => hnd.2.2 _ hm _ List.mem_cons_self rfl
          rw [this, List.length_map]
        rw [i1, i2, Option.bind_some, Option.bind_some, if_neg (by rw [e2]; simp; omega)]
      · rw [if_neg (by simpa using hp)]
    have hout : ∀ j k : Nat, k + j = l.length → iterO (wFnPhases_L2 l r true ((flat ph).map (nm l))) (k : Int) = some (.inl ()) := by
      intro j
      induction j with
      | zero =>
        intro k hk
        exact iterO_done (by unfold wFnPhases_L2; rw [if_neg (by omega)])
      | succ j ih =>
        intro k hk
        rw [iterO_next (s' := ((k + 1 : Nat) : Int)) (by unfold wFnPhases_L2; rw [if_pos (by omega), if_pos rfl, hin k (by omega), Option.bind_some, onr, grd_pos (by constructor <;> omega)]; rfl)]
        exact ih (k + 1) (by omega)
    have := hout l.length 0 (by omega)
    rw [show ((0 : Nat) : Int) = 0 from rfl] at this
    rw [this, Option.bind_some]
    show ((if true = true then _ else _ : Option Bool)).bind _ = _
    rw [if_pos rfl, if_pos (by simp [hlen]), allDistinct_true (map_nodup hnk h4 HI.nodup fun k hk => (hall k).1 hk)]; rfl
end Go.Proofs.Ytonnooljidombaa

