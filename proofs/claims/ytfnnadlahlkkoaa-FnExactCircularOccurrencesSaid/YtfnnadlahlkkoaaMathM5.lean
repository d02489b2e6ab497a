/- What those partial functions come to: plain lemmas on data; each bears its conditions in its statement. -/
import Derived.Test.YtfnnadlahlkkoaaMathM4
set_option linter.unusedVariables false
set_option linter.unusedSimpArgs false
set_option linter.ambiguousOpen false
set_option linter.unusedSectionVars false
set_option linter.unnecessarySimpa false
set_option linter.unusedVariables false
set_option linter.unusedSimpArgs false
namespace Go.Proofs.Ytfnnadlahlkkoaa
open Go Go.E
/-- the occurrences lie at positions of the rule -/
theorem occ_pos {g : Grammar} {r : Rule} (h : ∀ y ∈ g.Symbols, y.Attributes.length ≤ 1048576) (hr : r.Right.length ≤ 1048576) {o : List Occurrence} (ho : iOccurrencesOf_m g r = some o) :
    ∀ x ∈ o, ∃ k : Nat, x.Pos = (k : Int) ∧ k ≤ r.Right.length := by
  have key : ∀ m k (s : List Occurrence), k + m = r.Right.length + 1 → s.length ≤ k * 1048576 → (∀ x ∈ s, ∃ k : Nat, x.Pos = (k : Int) ∧ k ≤ r.Right.length) → ∀ q, eachN (iOccurrencesOf_L1 g r) k m s = some q → ∀ x ∈ q, ∃ k : Nat, x.Pos = (k : Int) ∧ k ≤ r.Right.length := by
    intro m
    induction m with
    | zero => intro k s _ _ hs q hq; cases hq; exact hs
    | succ m ih =>
      intro k s hk hs hp q hq
      obtain ⟨x, hx⟩ := symAt_some r k (by omega) hr
      obtain ⟨p, hp1, hp2, hp3⟩ := plain_both h x
      have hy := names_map k p 0 s (by omega)
      have e : iOccurrencesOf_L1 g r k s = some (s ++ p.map fun x => (⟨(k : Int), x.Name⟩ : Occurrence)) := by
        unfold iOccurrencesOf_L1; rw [symAt_same, hx, Option.bind_some, hp2, Option.bind_some, hy]; rfl
      simp only [eachN, e, Option.bind_some] at hq
      refine ih (k + 1) _ (by omega) (by simp; omega) (fun x hx => ?_) q hq
      rcases List.mem_append.1 hx with hx | hx
      · exact hp x hx
      · obtain ⟨a, _, rfl⟩ := List.mem_map.1 hx
        exact ⟨k, rfl, by omega⟩
  unfold iOccurrencesOf_m at ho
  rw [grd_pos (by constructor <;> omega)] at ho
  have e1 : eachN (iOccurrencesOf_L1 g r) 0 (r.Right.length + 1) [] = some o := by
    cases hq : eachN (iOccurrencesOf_L1 g r) 0 (r.Right.length + 1) [] with
    | none => rw [hq] at ho; cases ho
    | some q => rw [hq] at ho; exact ho
  exact key _ _ _ (by omega) (by simp) (by simp) o e1
theorem attr_some (y : Symbol) (s : ByteArray) : ∃ a b, sFindAttribute_m y s = some (a, b) ∧ iFindAttribute_m y s = some (a, b) := by
  have h1 := findL_find (p := fun y : Attribute => decide (y.Name = s)) (r := fun y => (y, true)) (xs := y.Attributes) (i := 0) (f := sFindAttribute_L1 s) fun k y hy => by
    unfold sFindAttribute_L1; constructor <;> intro hp <;> simp_all
  have e : iFindAttribute_m = sFindAttribute_m := rfl
  rw [e]
  unfold sFindAttribute_m
  rw [h1]
  cases hf : y.Attributes.find? (fun y : Attribute => decide (y.Name = s)) with
  | none => exact ⟨_, _, rfl, rfl⟩
  | some y => exact ⟨_, _, rfl, rfl⟩
/-- is the attribute of the occurrence circular? -/
noncomputable def circ (g : Grammar) (r : Rule) (o : Occurrence) : Bool := match iCircularOccurrences_1_m o g r with
  | some b => !b
  | none => false
theorem circ_both {g : Grammar} {r : Rule} (h : ∀ y ∈ g.Symbols, y.Attributes.length ≤ 1048576) (hr : r.Right.length ≤ 1048576) {o : Occurrence} {k : Nat} (hk : o.Pos = (k : Int)) (hkr : k ≤ r.Right.length) :
    iCircularOccurrences_1_m o g r = some (!circ g r o) ∧ ∀ (i : Nat) (s : List Occurrence), s.length < 4398046511104 → sCircularOccurrences_L1 g r i o s = some (if circ g r o = true then s ++ [o] else s) := by
  obtain ⟨x, hx⟩ := symAt_some r k hkr hr
  obtain ⟨y, b, hy1, hy2, _⟩ := find_same h x
  obtain ⟨a, b2, ha1, ha2⟩ := attr_some y o.Name
  have e1 : iCircularOccurrences_1_m o g r = some (!a.Circular) := by
    unfold iCircularOccurrences_1_m iattributeAt_m
    rw [iwithin_eq, Option.bind_some, if_pos (by rw [hk]; simp; omega), hk, symAt_same, hx, Option.bind_some, hy2]
    dsimp only [Option.bind_some]
    rw [ha2]; rfl
  have e2 : circ g r o = a.Circular := by unfold circ; rw [e1]; simp
  refine ⟨by rw [e1, e2], fun i s hs => ?_⟩
  unfold sCircularOccurrences_L1
  rw [e2, hk, hx, Option.bind_some, hy1]
  dsimp only [Option.bind_some]
  rw [ha1]
  dsimp only [Option.bind_some]
  cases hc : a.Circular with
  | true => rw [if_pos rfl, if_pos rfl, grd_pos (by constructor <;> omega)]; rfl
  | false => rw [if_neg (by simp), if_neg (by simp)]; rfl
theorem eachL_filter2 {α : Type} {p : α → Bool} {B : Nat} {f : Nat → α → List α → Option (List α)} : ∀ (xs : List α) (i : Nat) (s : List α), (∀ k x s, x ∈ xs → s.length < B → f k x s = some (if p x = true then s ++ [x] else s)) → s.length + xs.length ≤ B → eachL f i xs s = some (s ++ xs.filter p)
  | [], i, s, _, _ => by simp [eachL]
  | x :: xs, i, s, hf, h => by
    simp only [List.length_cons] at h
    have e := hf i x s (by simp) (by omega)
    simp only [eachL, e, Option.bind_some]
    by_cases hp : p x = true
    · rw [if_pos hp, eachL_filter2 xs (i + 1) _ (fun k y s hy => hf k y s (by simp [hy])) (by simp; omega)]; simp [hp]
    · rw [if_neg hp, eachL_filter2 xs (i + 1) _ (fun k y s hy => hf k y s (by simp [hy])) (by omega)]; simp [hp]
/-- the loop of DeleteFunc -/
theorem delete_loop {p : Occurrence → Bool} {f : (List Occurrence × Int × Int) → Option ((List Occurrence × Int × Int) ⊕ (List Occurrence × Int))} {xs : List Occurrence} (hn : xs.length ≤ 4398046511104)
    (hdone : ∀ s i j, ¬ j < (s.length : Int) → f (s, i, j) = some (.inr (s, i)))
    (hskip : ∀ s (i j : Nat) x, j < s.length → s[j]? = some x → x ∈ xs → s.length = xs.length → p x = false → f (s, (i : Int), (j : Int)) = some (.inl (s, (i : Int), ((j + 1 : Nat) : Int))))
    (hkeep : ∀ s (i j : Nat) x, j < s.length → i < j → s[j]? = some x → x ∈ xs → s.length = xs.length → p x = true → f (s, (i : Int), (j : Int)) = some (.inl (s.set i x, ((i + 1 : Nat) : Int), ((j + 1 : Nat) : Int)))) :
    ∀ (m i j : Nat) (s : List Occurrence), j + m = xs.length → i < j → s.length = xs.length → s.take i = (xs.take j).filter p → s.drop j = xs.drop j →
      ∃ s' i' : _, iterO f (s, (i : Int), (j : Int)) = some (s', ((i' : Nat) : Int)) ∧ i' ≤ s'.length ∧ s'.length = xs.length ∧ s'.take i' = xs.filter p := by
  intro m
  induction m with
  | zero =>
    intro i j s hm hij hs ht hd
    have hj : j = xs.length := by omega
    refine ⟨s, i, iterO_done (hdone s _ _ (by omega)), by omega, hs, ?_⟩
    rw [ht, hj, List.take_length]
  | succ m ih =>
    intro i j s hm hij hs ht hd
    have hjs : j < s.length := by omega
    obtain ⟨x, hx⟩ : ∃ x, s[j]? = some x := ⟨_, List.getElem?_eq_getElem hjs⟩
    have hxx : xs[j]? = some x := by
      have := congrArg (fun l => l[0]?) hd
      simpa [hx] using this.symm
    have hmem := List.mem_of_getElem? hxx
    have htk : xs.take (j + 1) = xs.take j ++ [x] := by
      rw [List.take_add_one, hxx]; rfl
    have hdr : xs.drop (j + 1) = (xs.drop j).drop 1 := by rw [List.drop_drop]
    cases hp : p x with
    | false =>
      have e := hskip s i j x hjs hx hmem hs hp
      rw [iterO_next e]
      exact ih i (j + 1) s (by omega) (by omega) hs (by rw [htk, List.filter_append, ht]; simp [hp]) (by rw [hdr, ← hd, List.drop_drop])
    | true =>
      have e := hkeep s i j x hjs hij hx hmem hs hp
      rw [iterO_next e]
      refine ih (i + 1) (j + 1) _ (by omega) (by omega) (by rw [List.length_set]; exact hs) ?_ ?_
      · rw [htk, List.filter_append, ← ht, List.take_add_one, List.take_set]
        simp [hp, List.getElem?_set, show i < s.length by omega]
        rw [List.set_eq_of_length_le (by simp; omega)]
      · rw [List.drop_set, if_pos (by omega), hdr, ← hd, List.drop_drop]
theorem delete_same {g : Grammar} {r : Rule} {xs : List Occurrence} (hn : xs.length ≤ 4398046511104) (hx : ∀ o ∈ xs, iCircularOccurrences_1_m o g r = some (!circ g r o)) :
    slices_DeleteFunc_Occurrence_iCircularOccurrences_1_m xs g r = some (xs.filter (circ g r)) := by
  have hix : ∀ (ys : List Occurrence) (i : Nat), (∀ o ∈ ys, iCircularOccurrences_1_m o g r = some (!circ g r o)) → ((∀ o ∈ ys, circ g r o = true) ∧ findL (slices_IndexFunc_Occurrence_iCircularOccurrences_1_L1 g r) i ys () = some (.inl ())) ∨
      ∃ k : Nat, k < ys.length ∧ (∀ o ∈ ys.take k, circ g r o = true) ∧ (∃ o, ys[k]? = some o ∧ circ g r o = false) ∧ findL (slices_IndexFunc_Occurrence_iCircularOccurrences_1_L1 g r) i ys () = some (.inr ((i + k : Nat) : Int)) := by
    intro ys
    induction ys with
    | nil => intro i _; exact .inl ⟨by simp, rfl⟩
    | cons y ys ih =>
      intro i hy
      have e := hy y (by simp)
      cases hc : circ g r y with
      | false =>
        refine .inr ⟨0, by simp, by simp, ⟨y, rfl, hc⟩, ?_⟩
        simp [findL, slices_IndexFunc_Occurrence_iCircularOccurrences_1_L1, e, hc]
      | true =>
        have e2 : findL (slices_IndexFunc_Occurrence_iCircularOccurrences_1_L1 g r) i (y :: ys) () = findL (slices_IndexFunc_Occurrence_iCircularOccurrences_1_L1 g r) (i + 1) ys () := by
          simp [findL, slices_IndexFunc_Occurrence_iCircularOccurrences_1_L1, e, hc]
        rcases ih (i + 1) (fun o ho => hy o (by simp [ho])) with ⟨h1, h2⟩ | ⟨k, h1, h2, h3, h4⟩
        · exact .inl ⟨by intro o ho; exact (List.mem_cons.1 ho).elim (fun e => e ▸ hc) (h1 o), by rw [e2, h2]⟩
        · refine .inr ⟨k + 1, by simpa using h1, ?_, by simpa using h3, by rw [e2, h4]; congr 3; omega⟩
          intro o ho
          rw [List.take_succ_cons] at ho
          exact (List.mem_cons.1 ho).elim (fun e => e ▸ hc) (h2 o)
  unfold slices_DeleteFunc_Occurrence_iCircularOccurrences_1_m
  rcases hix xs 0 hx with ⟨h1, h2⟩ | ⟨k, h1, h2, ⟨o, h3, h3'⟩, h4⟩
  · have e : slices_IndexFunc_Occurrence_iCircularOccurrences_1_m xs g r = some (-1) := by
      unfold slices_IndexFunc_Occurrence_iCircularOccurrences_1_m; rw [h2]; rfl
    rw [e, Option.bind_some, if_pos rfl, List.filter_eq_self.2 h1]
  · have e : slices_IndexFunc_Occurrence_iCircularOccurrences_1_m xs g r = some (k : Int) := by
      unfold slices_IndexFunc_Occurrence_iCircularOccurrences_1_m; rw [h4, Nat.zero_add]; rfl
    rw [e, Option.bind_some, if_neg (by omega), grd_pos (by constructor <;> omega)]
    obtain ⟨s, i, q1, q2, q3, q4⟩ := delete_loop (p := circ g r) (f := slices_DeleteFunc_Occurrence_iCircularOccurrences_1_L1 g r) (xs := xs) hn
      (by intro s i j hj; unfold slices_DeleteFunc_Occurrence_iCircularOccurrences_1_L1; dsimp only; rw [if_neg hj])
      (by
        intro s i j x hj hx' hm hs hp
        unfold slices_DeleteFunc_Occurrence_iCircularOccurrences_1_L1; dsimp only
        rw [if_pos (by omega), grd_pos (by omega), Int.toNat_natCast, hx', Option.bind_some, hx x hm, hp, Option.bind_some, if_pos (by rfl), Option.bind_some]
        dsimp only
        rw [grd_pos (by constructor <;> omega)]; rfl)
      (by
        intro s i j x hj hij hx' hm hs hp
        unfold slices_DeleteFunc_Occurrence_iCircularOccurrences_1_L1; dsimp only
        obtain ⟨x2, hx2⟩ : ∃ x, s[i]? = some x := ⟨_, List.getElem?_eq_getElem (by omega)⟩
        rw [if_pos (by omega), grd_pos (by omega), Int.toNat_natCast, hx', Option.bind_some, hx x hm, hp, Option.bind_some, if_neg (by simp),
          grd_pos (by omega), Int.toNat_natCast, hx2, Option.bind_some, grd_pos (by constructor <;> omega), Option.bind_some]
        dsimp only
        rw [grd_pos (by constructor <;> omega)]; rfl)
      (xs.length - (k + 1)) k (k + 1) xs (by omega) (by omega) rfl (by
        rw [List.take_add_one, h3, List.filter_append, List.filter_eq_self.2 h2]; simp [h3']) rfl
    have e : iterO (slices_DeleteFunc_Occurrence_iCircularOccurrences_1_L1 g r) (xs, (k : Int), (k : Int) + 1) = some (s, (i : Int)) := q1
    rw [e, Option.bind_some]
    dsimp only
    rw [Int.toNat_natCast, grd_pos (by omega), grd_pos q2, grd_pos (by omega), grd_pos (by simp; omega)]
    congr 1
    rw [List.take_append_of_le_length (by simp; omega), List.take_take, Nat.min_self, q4]
theorem circular_both {g : Grammar} {r : Rule} (h : ∀ y ∈ g.Symbols, y.Attributes.length ≤ 1048576) (hr : r.Right.length ≤ 1048576) : ∃ x, sCircularOccurrences_m g r = some x ∧ iCircularOccurrences_m g r = some x ∧ x.length ≤ 1099512676352 := by
  obtain ⟨o, ho1, ho2, ho3⟩ := occ_both h hr
  have hp := occ_pos h hr ho2
  have hc : ∀ x ∈ o, iCircularOccurrences_1_m x g r = some (!circ g r x) ∧ ∀ (i : Nat) (s : List Occurrence), s.length < 4398046511104 → sCircularOccurrences_L1 g r i x s = some (if circ g r x = true then s ++ [x] else s) := fun x hx => by
    obtain ⟨k, h1, h2⟩ := hp x hx
    exact circ_both h hr h1 h2
  refine ⟨o.filter (circ g r), ?_, ?_, by have := List.length_filter_le (circ g r) o; omega⟩
  · unfold sCircularOccurrences_m
    rw [ho1, Option.bind_some, eachL_filter2 (p := circ g r) (B := 4398046511104) o 0 [] (fun k x s hx hs => (hc x hx).2 k s hs) (by simp; omega)]; rfl
  · unfold iCircularOccurrences_m
    rw [ho2, Option.bind_some, delete_same (by omega) fun x hx => (hc x hx).1]; rfl
theorem cnt_circular (g : Grammar) (r : Rule) (h : Sz.szd g ≤ 1048576) (h2 : Sz.szd r ≤ 1048576) : cntL ((sCircularOccurrences_m g r).getD []) ≤ 2199025352704 := by
  obtain ⟨x, h1, _, h3⟩ := circular_both (syms_le h) (right_le h2)
  rw [h1]
  show cntL x ≤ _
  rw [cntL_occ]; omega
end Go.Proofs.Ytfnnadlahlkkoaa
