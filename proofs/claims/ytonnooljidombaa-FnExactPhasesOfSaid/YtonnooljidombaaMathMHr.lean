/- What those partial functions come to: plain lemmas on data; each bears its conditions in its statement. -/
import Derived.Test.YtonnooljidombaaMathMRr
set_option linter.unusedVariables false
set_option linter.unusedSimpArgs false
set_option linter.ambiguousOpen false
set_option linter.unusedSectionVars false
set_option linter.unnecessarySimpa false
set_option linter.unusedVariables false
set_option linter.unusedSimpArgs false
namespace Go.Proofs.Ytonnooljidombaa
open Go Go.E
/-! ### phases: what the program's loops come to -/
def zeroA : Attribute := ⟨⟨#[]⟩, 0, 0, false⟩
def readyB (r : Relation) (d : List Bool) (n k : Nat) : Bool := (List.range n).all fun i => !decide (hasP r (i : Int) (k : Int)) || d.getD i false
/-- may attribute k come now? -/
def okK (a : List Attribute) (r : Relation) (d : List Bool) (m : Int) (k : Nat) : Bool := decide ((a.getD k zeroA).Mode = m) && !d.getD k false && readyB r d a.length k
def candF (a : List Attribute) (r : Relation) (d : List Bool) (m : Int) : Option Nat := (List.range a.length).find? (okK a r d m)
/-- those of a mode that may come now, one by one -/
def halfI (a : List Attribute) (r : Relation) (m : Int) : Nat → List Bool → List Nat × List Bool
  | 0, d => ([], d)
  | f + 1, d => match candF a r d m with
    | none => ([], d)
    | some k => (k :: (halfI a r m f (d.set k true)).1, (halfI a r m f (d.set k true)).2)
def nm (a : List Attribute) (k : Nat) : ByteArray := (a.getD k zeroA).Name
theorem count_set {k : Nat} : ∀ {d : List Bool}, d[k]? = some false → (d.set k true).count false + 1 = d.count false
  | [], h => by simp at h
  | x :: d, h => by
    cases k with
    | zero => simp at h; subst h; simp
    | succ k =>
      have ih := count_set (k := k) (d := d) (by simpa using h)
      simp only [List.set_cons_succ, List.count_cons]
      omega
theorem getD_some {α : Type} {l : List α} {k : Nat} {x z : α} (h : l[k]? = some x) : l.getD k z = x := by rw [List.getD_eq_getElem?_getD, h]; rfl
theorem ready_i {a : List Attribute} {r : Relation} {d : List Bool} (hd : d.length = a.length) (k : Nat) : iPhasesOf_1_m (k : Int) a r d = some (readyB r d a.length k) := by
  unfold iPhasesOf_1_m
  have hany := findL_any (c := false) (xs := a) (i := 0) (p := fun i _ => hasP r (i : Int) (k : Int) ∧ d.getD i false = false) (f := iPhasesOf_1_L1 (k : Int) r d) fun i x hx => by
    rw [Nat.zero_add]
    have hi := (List.getElem?_eq_some_iff.1 hx).1
    obtain ⟨b, hb⟩ : ∃ b, d[i]? = some b := ⟨_, List.getElem?_eq_getElem (by omega)⟩
    rw [getD_some hb]
    unfold iPhasesOf_1_L1
    rw [iHasPair_eq, Option.bind_some]
    by_cases hp : hasP r (i : Int) (k : Int)
    · rw [if_pos (by simpa using hp), hb, Option.bind_some]
      cases b <;> simp [hp]
    · rw [if_neg (by simpa using hp)]; simp [hp]
  cases hr : readyB r d a.length k with
  | true =>
    rw [hany.2 fun i x hx hp => ?_]
    · rfl
    · rw [Nat.zero_add] at hp
      have hi := (List.getElem?_eq_some_iff.1 hx).1
      have := List.all_eq_true.1 hr i (List.mem_range.2 hi)
      rw [decide_eq_true hp.1, hp.2] at this
      cases this
  | false =>
    have : ∃ i, i < a.length ∧ hasP r (i : Int) (k : Int) ∧ d.getD i false = false := by
      apply Classical.byContradiction
      intro hn
      have : readyB r d a.length k = true := List.all_eq_true.2 fun i hi => by
        have hi' := List.mem_range.1 hi
        by_cases hp : hasP r (i : Int) (k : Int)
        · cases hb : d.getD i false with
          | true => simp
          | false => exact absurd ⟨i, hi', hp, hb⟩ hn
        · simp [hp]
      rw [this] at hr; cases hr
    obtain ⟨i, hi, hp⟩ := this
    rw [hany.1 ⟨i, _, List.getElem?_eq_getElem hi, by rw [Nat.zero_add]; exact hp⟩]; rfl
theorem ready_s {a : List Attribute} {r : Relation} {d : List Bool} (hd : d.length = a.length) (hN : r.N = a.length) (k : Nat) : sl27Ready_m r d (k : Int) = some (readyB r d a.length k) := by
  unfold sl27Ready_m
  rw [hN, Int.toNat_natCast]
  have hany := findN_any (c := false) (n := a.length) (i := 0) (p := fun i => hasP r (i : Int) (k : Int) ∧ d.getD i false = false) (f := sl27Ready_L1 r d (k : Int)) fun i hi => by
    rw [Nat.zero_add]
    obtain ⟨b, hb⟩ : ∃ b, d[i]? = some b := ⟨_, List.getElem?_eq_getElem (by omega)⟩
    rw [getD_some hb]
    unfold sl27Ready_L1
    rw [sHasPair_eq, Option.bind_some]
    by_cases hp : hasP r (i : Int) (k : Int)
    · rw [if_pos (by simpa using hp), hb, Option.bind_some]
      cases b <;> simp [hp]
    · rw [if_neg (by simpa using hp)]; simp [hp]
  cases hr : readyB r d a.length k with
  | true =>
    rw [hany.2 fun i hi hp => ?_]
    · rfl
    · rw [Nat.zero_add] at hp
      have := List.all_eq_true.1 hr i (List.mem_range.2 hi)
      rw [decide_eq_true hp.1, hp.2] at this
      cases this
  | false =>
    have : ∃ i, i < a.length ∧ hasP r (i : Int) (k : Int) ∧ d.getD i false = false := by
      apply Classical.byContradiction
      intro hn
      have : readyB r d a.length k = true := List.all_eq_true.2 fun i hi => by
        have hi' := List.mem_range.1 hi
        by_cases hp : hasP r (i : Int) (k : Int)
        · cases hb : d.getD i false with
          | true => simp
          | false => exact absurd ⟨i, hi', hp, hb⟩ hn
        · simp [hp]
      rw [this] at hr; cases hr
    obtain ⟨i, hi, hp⟩ := this
    rw [hany.1 ⟨i, hi, by rw [Nat.zero_add]; exact hp⟩]; rfl
theorem find_range_first {p : Nat → Bool} {n k : Nat} (hk : k < n) (hp : p k = true) (hn : ∀ i, i < k → p i = false) : (List.range n).find? p = some k := by
  have e : List.range n = List.range k ++ (k :: (List.range' (k + 1) (n - k - 1))) := by
    rw [List.range_eq_range', List.range_eq_range', show k :: List.range' (k + 1) (n - k - 1) = List.range' k (n - k) from by
      rw [show n - k = (n - k - 1) + 1 by omega, List.range'_succ]; rfl]
    have := List.range'_append (s := 0) (m := k) (n := n - k) (step := 1)
    simp only [Nat.one_mul, Nat.zero_add] at this
    rw [this]; congr 1; omega
  rw [e, List.find?_append]
  have : (List.range k).find? p = none := List.find?_eq_none.2 fun i hi => by
    rw [hn i (List.mem_range.1 hi)]; simp
  rw [this]
  simp [hp]
theorem find_range_none {p : Nat → Bool} {n : Nat} (hn : ∀ i, i < n → p i = false) : (List.range n).find? p = none :=
  List.find?_eq_none.2 fun i hi => by rw [hn i (List.mem_range.1 hi)]; simp
theorem cand_some {a : List Attribute} {r : Relation} {d : List Bool} {m : Int} {k : Nat} (h : candF a r d m = some k) : k < a.length ∧ okK a r d m k = true ∧ d.getD k false = false := by
  have h1 := List.mem_of_find?_eq_some h
  have h2 := List.find?_some h
  refine ⟨List.mem_range.1 h1, h2, ?_⟩
  unfold okK at h2
  simp only [Bool.and_eq_true, Bool.not_eq_true'] at h2
  exact h2.1.2
theorem getD_false {d : List Bool} {k : Nat} (hk : k < d.length) (h : d.getD k false = false) : d[k]? = some false := by
  obtain ⟨b, hb⟩ : ∃ b, d[k]? = some b := ⟨_, List.getElem?_eq_getElem hk⟩
  rw [getD_some hb] at h; rw [hb, h]
/-- the first way's step -/
theorem take_step {a : List Attribute} {r : Relation} {m : Int} {d : List Bool} (hd : d.length = a.length) (hn : a.length ≤ 16) (acc : List ByteArray) (hacc : acc.length ≤ 1000) : ∀ (j k : Nat), k + j = a.length → (∀ i, i < k → okK a r d m i = false) →
    iterO (iPhasesOf_2_L1 m a r) (acc, (k : Int), d) = match candF a r d m with
      | none => some (acc, d)
      | some q => iterO (iPhasesOf_2_L1 m a r) (acc ++ [nm a q], 0, d.set q true) := by
  intro j
  induction j with
  | zero =>
    intro k hk hno
    have hc : candF a r d m = none := find_range_none fun i hi => hno i (by omega)
    rw [hc]
    exact iterO_done (by unfold iPhasesOf_2_L1; dsimp only; rw [if_neg (by omega)])
  | succ j ih =>
    intro k hk hno
    obtain ⟨x, hx⟩ : ∃ x, a[k]? = some x := ⟨_, List.getElem?_eq_getElem (by omega)⟩
    obtain ⟨b, hb⟩ : ∃ b, d[k]? = some b := ⟨_, List.getElem?_eq_getElem (by omega)⟩
    have hin : ((if x.Mode = m then grd (0 ≤ (k : Int)) <| (d[(k : Int).toNat]?).bind fun x2 => some (!x2) else some false).bind fun s9 => (if s9 = true then (iPhasesOf_1_m (k : Int) a r d).bind fun y1 => some y1 else some false)) = some (okK a r d m k) := by
      unfold okK
      rw [getD_some hx, getD_some hb, ready_i hd]
      by_cases hm : x.Mode = m
      · rw [if_pos hm, grd_pos (by omega), Int.toNat_natCast, hb]
        cases b <;> simp [hm]
      · rw [if_neg hm]; simp [hm]
    cases hok : okK a r d m k with
    | true =>
      have hc : candF a r d m = some k := find_range_first (by omega) hok hno
      rw [hc]
      have e : iPhasesOf_2_L1 m a r (acc, (k : Int), d) = some (.inl (acc ++ [nm a k], 0, d.set k true)) := by
        unfold iPhasesOf_2_L1
        dsimp only
        rw [if_pos (by omega), grd_pos (by omega), Int.toNat_natCast, hx, Option.bind_some]
        rw [Int.toNat_natCast] at hin
        have hin2 := hin
        rw [hok] at hin2
        obtain ⟨s9, h1, h2⟩ := bd hin2
        rw [h1, Option.bind_some, h2, Option.bind_some, if_pos rfl, grd_pos (by constructor <;> omega), grd_pos (by omega), hb, Option.bind_some, Option.bind_some]
        dsimp only
        rw [grd_pos (by constructor <;> omega)]
        unfold nm
        rw [getD_some hx]; rfl
      rw [iterO_next e]
    | false =>
      have e : iPhasesOf_2_L1 m a r (acc, (k : Int), d) = some (.inl (acc, ((k + 1 : Nat) : Int), d)) := by
        unfold iPhasesOf_2_L1
        dsimp only
        rw [if_pos (by omega), grd_pos (by omega), Int.toNat_natCast, hx, Option.bind_some]
        rw [Int.toNat_natCast] at hin
        have hin2 := hin
        rw [hok] at hin2
        obtain ⟨s9, h1, h2⟩ := bd hin2
        rw [h1, Option.bind_some, h2, Option.bind_some, if_neg (by simp), Option.bind_some]
        dsimp only
        rw [grd_pos (by constructor <;> omega)]; rfl
      rw [iterO_next e]
      exact ih (k + 1) (by omega) fun i hi => by
        by_cases h : i = k
        · rw [h]; exact hok
        · exact hno i (by omega)
theorem take_all {a : List Attribute} {r : Relation} {m : Int} (hn : a.length ≤ 16) : ∀ (f : Nat) (d : List Bool) (acc : List ByteArray), d.length = a.length → d.count false ≤ f → acc.length + f ≤ 1000 →
    iterO (iPhasesOf_2_L1 m a r) (acc, 0, d) = some (acc ++ (halfI a r m f d).1.map (nm a), (halfI a r m f d).2) := by
  intro f
  induction f with
  | zero =>
    intro d acc hd hc hb
    have hs := take_step (m := m) (r := r) hd hn acc (by omega) a.length 0 (by omega) (fun i hi => absurd hi (Nat.not_lt_zero _))
    have hcand : candF a r d m = none := by
      cases h : candF a r d m with
      | none => rfl
      | some k =>
        obtain ⟨h1, _, h3⟩ := cand_some h
        have := count_set (getD_false (by omega) h3)
        omega
    rw [hcand] at hs
    have hs' : iterO (iPhasesOf_2_L1 m a r) (acc, 0, d) = some (acc, d) := hs
    rw [hs']; simp [halfI]
  | succ f ih =>
    intro d acc hd hc hb
    have hs := take_step (m := m) (r := r) hd hn acc (by omega) a.length 0 (by omega) (fun i hi => absurd hi (Nat.not_lt_zero _))
    cases h : candF a r d m with
    | none =>
      rw [h] at hs
      have hs' : iterO (iPhasesOf_2_L1 m a r) (acc, 0, d) = some (acc, d) := hs
      rw [hs']; simp [halfI, h]
    | some k =>
      rw [h] at hs
      have hs' : iterO (iPhasesOf_2_L1 m a r) (acc, 0, d) = iterO (iPhasesOf_2_L1 m a r) (acc ++ [nm a k], 0, d.set k true) := hs
      obtain ⟨h1, _, h3⟩ := cand_some h
      have hcs := count_set (getD_false (by omega) h3)
      rw [hs', ih _ _ (by simp [hd]) (by omega) (by simp; omega)]
      simp [halfI, h]
/-- the second way's search from the end -/
theorem back_search {a : List Attribute} {r : Relation} {m : Int} {d : List Bool} (hd : d.length = a.length) (hN : r.N = a.length) (hn : a.length ≤ 16) : ∀ (j : Nat) (at_ : Int), j ≤ a.length →
    iterO (sl27Half_L2 a r m d) (at_, (j : Int) - 1) = some (match (List.range j).find? (okK a r d m) with
      | none => at_
      | some k => (k : Int)) := by
  intro j
  induction j with
  | zero =>
    intro at_ _
    exact iterO_done (by unfold sl27Half_L2; dsimp only; rw [if_neg (by omega)]; rfl)
  | succ j ih =>
    intro at_ hj
    have ej : ((j + 1 : Nat) : Int) - 1 = (j : Int) := by omega
    rw [ej]
    obtain ⟨x, hx⟩ : ∃ x, a[j]? = some x := ⟨_, List.getElem?_eq_getElem (by omega)⟩
    obtain ⟨b, hb⟩ : ∃ b, d[j]? = some b := ⟨_, List.getElem?_eq_getElem (by omega)⟩
    have hin : ((if x.Mode = m then grd (0 ≤ (j : Int)) <| (d[(j : Int).toNat]?).bind fun x2 => some (!x2) else some false).bind fun s7 => (if s7 = true then (sl27Ready_m r d (j : Int)).bind fun y1 => some y1 else some false)) = some (okK a r d m j) := by
      unfold okK
      rw [getD_some hx, getD_some hb, ready_s hd hN]
      by_cases hm : x.Mode = m
      · rw [if_pos hm, grd_pos (by omega), Int.toNat_natCast, hb]
        cases b <;> simp [hm]
      · rw [if_neg hm]; simp [hm]
    have e : sl27Half_L2 a r m d (at_, (j : Int)) = some (.inl ((if okK a r d m j = true then (j : Int) else at_), (j : Int) - 1)) := by
      unfold sl27Half_L2
      dsimp only
      rw [if_pos (by omega), grd_pos (by omega), Int.toNat_natCast, hx, Option.bind_some]
      rw [Int.toNat_natCast] at hin
      obtain ⟨s9, h1, h2⟩ := bd hin
      rw [h1, Option.bind_some, h2, Option.bind_some]
      cases okK a r d m j with
      | true => rw [if_pos rfl, if_pos rfl, Option.bind_some, grd_pos (by constructor <;> omega)]
      | false => rw [if_neg (by simp), if_neg (by simp), Option.bind_some, grd_pos (by constructor <;> omega)]
    rw [iterO_next e, ih _ (by omega), List.range_succ, List.find?_append]
    cases hf : (List.range j).find? (okK a r d m) with
    | some k => rfl
    | none =>
      cases hok : okK a r d m j <;> simp [hok]
theorem half_all {a : List Attribute} {r : Relation} {m : Int} (hN : r.N = a.length) (hn : a.length ≤ 16) : ∀ (f : Nat) (d : List Bool) (acc : List ByteArray), d.length = a.length → d.count false ≤ f → acc.length + f ≤ 1000 →
    iterO (sl27Half_L1 a r m) (acc, d) = some (acc ++ (halfI a r m f d).1.map (nm a), (halfI a r m f d).2) := by
  intro f
  induction f with
  | zero =>
    intro d acc hd hc hb
    have hcand : candF a r d m = none := by
      cases h : candF a r d m with
      | none => rfl
      | some k =>
        obtain ⟨h1, _, h3⟩ := cand_some h
        have := count_set (getD_false (by omega) h3)
        omega
    have hs := back_search (m := m) hd hN hn a.length (-1) (Nat.le_refl _)
    have hcand' : (List.range a.length).find? (okK a r d m) = none := hcand
    rw [hcand'] at hs
    have hs' : iterO (sl27Half_L2 a r m d) (-1, (a.length : Int) - 1) = some (-1) := hs
    rw [iterO_done (r := (acc, d)) (by unfold sl27Half_L1; dsimp only; rw [hs', Option.bind_some, if_pos (by omega)])]
    simp [halfI]
  | succ f ih =>
    intro d acc hd hc hb
    have hs := back_search (m := m) hd hN hn a.length (-1) (Nat.le_refl _)
    cases h : candF a r d m with
    | none =>
      have hcand' : (List.range a.length).find? (okK a r d m) = none := h
      rw [hcand'] at hs
      have hs' : iterO (sl27Half_L2 a r m d) (-1, (a.length : Int) - 1) = some (-1) := hs
      rw [iterO_done (r := (acc, d)) (by unfold sl27Half_L1; dsimp only; rw [hs', Option.bind_some, if_pos (by omega)])]
      simp [halfI, h]
    | some k =>
      obtain ⟨h1, _, h3⟩ := cand_some h
      have hcand' : (List.range a.length).find? (okK a r d m) = some k := h
      rw [hcand'] at hs
      obtain ⟨x, hx⟩ : ∃ x, a[k]? = some x := ⟨_, List.getElem?_eq_getElem h1⟩
      have hdk := getD_false (by omega) h3
      have hcs := count_set hdk
      have e : sl27Half_L1 a r m (acc, d) = some (.inl (acc ++ [nm a k], d.set k true)) := by
        unfold sl27Half_L1
        dsimp only
        rw [hs, Option.bind_some]
        dsimp only
        rw [if_neg (by omega), grd_pos (by omega), Int.toNat_natCast, hdk, Option.bind_some, grd_pos (by omega), hx, Option.bind_some, grd_pos (by constructor <;> omega)]
        unfold nm
        rw [getD_some hx]
      rw [iterO_next e, ih _ _ (by simp [hd]) (by omega) (by simp; omega)]
      simp [halfI, h]
theorem half_len {a : List Attribute} {r : Relation} {m : Int} : ∀ (f : Nat) (d : List Bool), d.length = a.length → (halfI a r m f d).2.length = a.length ∧ (halfI a r m f d).2.count false + (halfI a r m f d).1.length = d.count false := by
  intro f
  induction f with
  | zero => intro d hd; simp [halfI, hd]
  | succ f ih =>
    intro d hd
    cases h : candF a r d m with
    | none => simp [halfI, h, hd]
    | some k =>
      obtain ⟨h1, _, h3⟩ := cand_some h
      have hcs := count_set (getD_false (by omega) h3)
      have := ih (d.set k true) (by simp [hd])
      simp only [halfI, h, List.length_cons]
      refine ⟨this.1, by omega⟩
/-- all phases, as indices; none: it cannot be -/
def runP (a : List Attribute) (r : Relation) : Nat → List (List Nat × List Nat) → List Bool → Option (List (List Nat × List Nat))
  | 0, out, _ => some out
  | f + 1, out, d =>
    if out = [] ∨ 0 < d.count false then
      if 0 < a.length ∧ (halfI a r 1 a.length d).1 = [] ∧ (halfI a r 2 a.length (halfI a r 1 a.length d).2).1 = [] then none
      else runP a r f (out ++ [((halfI a r 1 a.length d).1, (halfI a r 2 a.length (halfI a r 1 a.length d).2).1)]) (halfI a r 2 a.length (halfI a r 1 a.length d).2).2
    else some out
def toPh (a : List Attribute) (q : List Nat × List Nat) : Phase := ⟨q.1.map (nm a), q.2.map (nm a)⟩
theorem count_le {d : List Bool} : d.count false ≤ d.length := List.count_le_length
theorem contains_false (d : List Bool) : slices_Contains_bool_m d false = some (decide (0 < d.count false)) := by
  have h : slices_Index_bool_m d false = some (ixF d false) := by
    unfold slices_Index_bool_m
    refine findL_ixF fun k x => ⟨fun e => ?_, fun e => ?_⟩
    · unfold slices_Index_bool_L1; rw [if_pos e.symm]
    · unfold slices_Index_bool_L1; rw [if_neg (fun h => e h.symm)]
  unfold slices_Contains_bool_m
  rw [h, Option.bind_some]
  congr 1
  unfold ixF
  by_cases hm : false ∈ d
  · rw [if_pos hm]
    have := List.count_pos_iff.2 hm
    simp [this]
  · rw [if_neg hm]
    have : ¬ 0 < d.count false := fun h => hm (List.count_pos_iff.1 h)
    simp [this]
theorem run_both {a : List Attribute} {r : Relation} (hN : r.N = a.length) (hn : a.length ≤ 16) : ∀ (f : Nat) (out : List (List Nat × List Nat)) (d : List Bool), d.length = a.length → (out = [] → d.count false = a.length) → d.count false + (if out = [] then 1 else 0) ≤ f → out.length + f ≤ 1000 →
    (∃ d', iterO (iPhasesOf_L1 a r) (out.map (toPh a), d) = some (match runP a r f out d with | none => .inr ([], false) | some l => .inl (l.map (toPh a), d'))) ∧
    ∃ d', iterO (sPhasesOf_L1 a r) (out.map (toPh a), d, ((d.count false : Nat) : Int)) = some (match runP a r f out d with | none => .inr ([], false) | some l => .inl (l.map (toPh a), d')) := by
  intro f
  induction f with
  | zero =>
    intro out d hd hnil hc hb
    have ho : out ≠ [] := fun e => by rw [if_pos e] at hc; omega
    rw [if_neg ho] at hc
    have h0 : d.count false = 0 := by omega
    have hol : ¬ ((out.map (toPh a)).length : Int) = 0 := by
      have := List.length_pos_iff.2 ho
      simp; exact fun e => ho e
    refine ⟨⟨d, iterO_done ?_⟩, ⟨d, iterO_done ?_⟩⟩
    · unfold iPhasesOf_L1; dsimp only
      rw [if_neg hol, contains_false, Option.bind_some, Option.bind_some, if_neg (by simp [h0])]; rfl
    · unfold sPhasesOf_L1; dsimp only
      rw [h0, if_neg (by omega), Option.bind_some, if_neg (by simpa using hol)]; rfl
  | succ f ih =>
    intro out d hd hnil hc hb
    by_cases hgo : out = [] ∨ 0 < d.count false
    · have hi1 : iPhasesOf_2_m 1 a r d = some ((halfI a r 1 a.length d).1.map (nm a), (halfI a r 1 a.length d).2) := by
        unfold iPhasesOf_2_m
        rw [take_all hn a.length d [] hd (by have := count_le (d := d); omega) (by simp; omega)]; rfl
      have hl1 := half_len (a := a) (r := r) (m := 1) a.length d hd
      have hi2 : iPhasesOf_2_m 2 a r (halfI a r 1 a.length d).2 = some ((halfI a r 2 a.length (halfI a r 1 a.length d).2).1.map (nm a), (halfI a r 2 a.length (halfI a r 1 a.length d).2).2) := by
        unfold iPhasesOf_2_m
        rw [take_all hn a.length _ [] hl1.1 (by have := count_le (d := (halfI a r 1 a.length d).2); omega) (by simp; omega)]; rfl
      have hl2 := half_len (a := a) (r := r) (m := 2) a.length _ hl1.1
      have hs1 : sl27Half_m a r d 1 = some ((halfI a r 1 a.length d).1.map (nm a), (halfI a r 1 a.length d).2) := by
        unfold sl27Half_m
        rw [half_all hN hn a.length d [] hd (by have := count_le (d := d); omega) (by simp; omega)]; rfl
      have hs2 : sl27Half_m a r (halfI a r 1 a.length d).2 2 = some ((halfI a r 2 a.length (halfI a r 1 a.length d).2).1.map (nm a), (halfI a r 2 a.length (halfI a r 1 a.length d).2).2) := by
        unfold sl27Half_m
        rw [half_all hN hn a.length _ [] hl1.1 (by have := count_le (d := (halfI a r 1 a.length d).2); omega) (by simp; omega)]; rfl
      have hdl := count_le (d := d)
      generalize hq1 : (halfI a r 1 a.length d).1 = q1 at *
      generalize hd1 : (halfI a r 1 a.length d).2 = d1 at *
      generalize hq2 : (halfI a r 2 a.length d1).1 = q2 at *
      generalize hd2 : (halfI a r 2 a.length d1).2 = d2 at *
      have hrun : runP a r (f + 1) out d = if 0 < a.length ∧ q1 = [] ∧ q2 = [] then none else runP a r f (out ++ [(q1, q2)]) d2 := by
        simp only [runP, hq1, hd1, hq2, hd2]
        rw [if_pos hgo]
      have hci : (if ((out.map (toPh a)).length : Int) = 0 then some true else (slices_Contains_bool_m d false).bind fun y3 => some y3) = some true := by
        rcases hgo with h | h
        · rw [h, if_pos (by simp)]
        · by_cases h2 : ((out.map (toPh a)).length : Int) = 0
          · rw [if_pos h2]
          · rw [if_neg h2, contains_false, Option.bind_some, decide_eq_true h]
      have hcs : (if 0 < ((d.count false : Nat) : Int) then some true else some (decide (((out.map (toPh a)).length : Int) = 0))) = some true := by
        by_cases h : 0 < d.count false
        · rw [if_pos (by omega)]
        · rw [if_neg (by omega)]
          have : out = [] := hgo.resolve_right h
          rw [this]; simp
      have hlen : ((q1.map (nm a)).length + (q2.map (nm a)).length : Nat) = q1.length + q2.length := by simp
      by_cases hstop : 0 < a.length ∧ q1 = [] ∧ q2 = []
      · rw [hrun, if_pos hstop]
        obtain ⟨hp, e1, e2⟩ := hstop
        have hcd : 0 < d.count false ∨ out = [] := hgo.symm
        refine ⟨⟨d, iterO_done ?_⟩, ⟨d, iterO_done ?_⟩⟩
        · unfold iPhasesOf_L1; dsimp only
          rw [hci, Option.bind_some, if_pos rfl, hi1, Option.bind_some]
          dsimp only
          rw [hi2, Option.bind_some]
          dsimp only
          rw [hlen, if_pos (by omega), grd_pos (by constructor <;> omega), Option.bind_some, if_pos (by simp [e1, e2])]
        · unfold sPhasesOf_L1; dsimp only
          rw [hcs, Option.bind_some, if_pos rfl, hs1, Option.bind_some]
          dsimp only
          rw [hs2, Option.bind_some]
          dsimp only
          rw [hlen, grd_pos (by constructor <;> omega)]
          have hcp : 0 < d.count false := by
            rcases hgo with h | h
            · rw [hnil h]; exact hp
            · exact h
          have hz : ((q1.length + q2.length : Nat) : Int) = 0 := by simp [e1, e2]
          rw [if_pos hz, Option.bind_some, if_pos (decide_eq_true (by omega))]
      · rw [hrun, if_neg hstop]
        have hne : 0 < a.length → ¬ ((q1.length + q2.length : Nat) : Int) = 0 := fun hp h => hstop ⟨hp, List.length_eq_zero_iff.1 (by omega), List.length_eq_zero_iff.1 (by omega)⟩
        have hex : a.length = 0 → q1.length + q2.length = 0 ∧ d.count false = 0 := fun h => by omega
        have hol : (out ++ [(q1, q2)]).map (toPh a) = out.map (toPh a) ++ [toPh a (q1, q2)] := by simp
        have hle : (if out = [] then 1 else 0) ≤ 1 := by split <;> omega
        have hcount : d2.count false + (if out ++ [(q1, q2)] = [] then 1 else 0) ≤ f := by
          rw [if_neg (by simp)]
          by_cases ha : 0 < a.length
          · have := hne ha
            omega
          · have : out = [] ∨ ¬ out = [] := Classical.em _
            rcases this with h | h
            · have := hnil h; rw [if_pos h] at hc; omega
            · have := hgo.resolve_left h; omega
        have hih := ih (out ++ [(q1, q2)]) d2 hl2.1 (fun h => absurd h (by simp)) hcount (by rw [List.length_append]; simp; omega)
        obtain ⟨⟨di, hi⟩, ⟨ds, hs⟩⟩ := hih
        refine ⟨⟨di, ?_⟩, ⟨ds, ?_⟩⟩
        · rw [← hi, hol]
          refine iterO_next ?_
          unfold iPhasesOf_L1; dsimp only
          rw [hci, Option.bind_some, if_pos rfl, hi1, Option.bind_some]
          dsimp only
          rw [hi2, Option.bind_some]
          dsimp only
          rw [hlen]
          have hc8 : (if 0 < (a.length : Int) then grd (I64 ((q1.length + q2.length : Nat) : Int)) <| some (decide (((q1.length + q2.length : Nat) : Int) = 0)) else some false) = some false := by
            by_cases ha : 0 < a.length
            · rw [if_pos (by omega), grd_pos (by constructor <;> omega), decide_eq_false (hne ha)]
            · rw [if_neg (by omega)]
          rw [hc8, Option.bind_some, if_neg (by simp), List.length_map, grd_pos (by constructor <;> omega)]
          rfl
        · have hcz : ((d2.count false : Nat) : Int) = ((d.count false : Nat) : Int) - ((q1.length + q2.length : Nat) : Int) := by omega
          rw [← hs, hol, hcz]
          refine iterO_next ?_
          unfold sPhasesOf_L1; dsimp only
          rw [hcs, Option.bind_some, if_pos rfl, hs1, Option.bind_some]
          dsimp only
          rw [hs2, Option.bind_some]
          dsimp only
          rw [hlen, grd_pos (by constructor <;> omega)]
          have hc9 : (if ((q1.length + q2.length : Nat) : Int) = 0 then some (decide (0 < ((d.count false : Nat) : Int))) else some false) = some false := by
            by_cases ha : 0 < a.length
            · rw [if_neg (hne ha)]
            · rw [if_pos (by omega), decide_eq_false (by omega)]
          rw [hc9, Option.bind_some, if_neg (by simp), grd_pos (by constructor <;> omega), List.length_map, grd_pos (by constructor <;> omega)]
          rfl
    · have ho : out ≠ [] := fun e => hgo (.inl e)
      have h0 : ¬ 0 < d.count false := fun h => hgo (.inr h)
      have hol : ¬ ((out.map (toPh a)).length : Int) = 0 := by
        simp; exact ho
      have hrun : runP a r (f + 1) out d = some out := by simp only [runP]; rw [if_neg hgo]
      rw [hrun]
      refine ⟨⟨d, iterO_done ?_⟩, ⟨d, iterO_done ?_⟩⟩
      · unfold iPhasesOf_L1; dsimp only
        rw [if_neg hol, contains_false, Option.bind_some, Option.bind_some, if_neg (by simpa using h0)]
      · unfold sPhasesOf_L1; dsimp only
        rw [if_neg (by omega), Option.bind_some, if_neg (fun h => hol (of_decide_eq_true h))]
end Go.Proofs.Ytonnooljidombaa

