/- What those partial functions come to: plain lemmas on data; each bears its conditions in its statement. -/
import Derived.Test.YtgbgkhcgpchckaaLift
import Derived.Test.YtgbgkhcgpchckaaEngC
set_option linter.unusedVariables false
set_option linter.unusedSimpArgs false
set_option linter.ambiguousOpen false
set_option linter.unusedSectionVars false
set_option linter.unnecessarySimpa false
set_option linter.unusedVariables false
set_option linter.unusedSimpArgs false
namespace Go.Proofs.Ytgbgkhcgpchckaa
open Go Go.E
/-- does the q-th step read what the i-th gives? -/
def usesB (l : List TraceStep) (i q : Nat) : Bool := match l[i]?, l[q]? with
  | some a, some p => decide (a.At ∈ p.Inputs)
  | _, _ => false
/-- the last place below q, behind i, that reads what i gives; i if there is none -/
def lastTo (l : List TraceStep) (i : Nat) : Nat → Nat
  | 0 => i
  | q + 1 => if i < q ∧ usesB l i q = true then q else lastTo l i q
def lastUseR (l : List TraceStep) (i : Int) : Int := if 0 ≤ i ∧ i ≤ (l.length : Int) - 1 then (lastTo l i.toNat l.length : Int) else -1
theorem lastTo_low (l : List TraceStep) (i : Nat) : ∀ q, q ≤ i + 1 → lastTo l i q = i
  | 0, _ => rfl
  | q + 1, h => by rw [lastTo, if_neg (by omega), lastTo_low l i q (by omega)]
theorem lastTo_yes {l : List TraceStep} {i q : Nat} {a p : TraceStep} (ha : l[i]? = some a) (hp : l[q]? = some p) (hi : i < q) (h : a.At ∈ p.Inputs) : lastTo l i (q + 1) = q := by
  rw [lastTo, if_pos ⟨hi, by simp [usesB, ha, hp, h]⟩]
theorem lastTo_no {l : List TraceStep} {i q : Nat} {a p : TraceStep} (ha : l[i]? = some a) (hp : l[q]? = some p) (h : ¬ a.At ∈ p.Inputs) : lastTo l i (q + 1) = lastTo l i q := by
  rw [lastTo, if_neg (by simp [usesB, ha, hp, h])]
theorem ixF_nonneg {α : Type} [DecidableEq α] (l : List α) (y : α) : decide (0 ≤ ixF l y) = decide (y ∈ l) := by
  unfold ixF
  split
  · next h => simp [h]
  · next h => simp [h]
theorem lastTo_range (l : List TraceStep) (i : Nat) : ∀ q, lastTo l i q = i ∨ (i < lastTo l i q ∧ lastTo l i q < q)
  | 0 => .inl rfl
  | q + 1 => by
    rw [lastTo]
    split
    · exact .inr (by omega)
    · rcases lastTo_range l i q with h | h
      · exact .inl h
      · exact .inr (by omega)
theorem sl1In_eq (x lo hi : Int) : sl1In_m x lo hi = some (decide (lo ≤ x ∧ x ≤ hi)) := by
  unfold sl1In_m; split <;> simp_all <;> omega
theorem sHas_eq (l : List Instance) (x : Instance) : sl31Has_m l x = some (decide (x ∈ l)) := by
  unfold sl31Has_m sInstanceIndex_m
  rw [findL_ixF (y := x) fun k z => ⟨fun h => by simp [sInstanceIndex_L1, h], fun h => by simp [sInstanceIndex_L1, h]⟩, Option.bind_some, ixF_nonneg]
theorem iHas_eq (l : List Instance) (x : Instance) : slices_Contains_Instance_m l x = some (decide (x ∈ l)) := by
  unfold slices_Contains_Instance_m slices_Index_Instance_m
  rw [findL_ixF (y := x) fun k z => ⟨fun h => by simp [slices_Index_Instance_L1, h], fun h => by simp [slices_Index_Instance_L1, Ne.symm h]⟩, Option.bind_some, ixF_nonneg]
theorem sLastUse_eq (l : List TraceStep) (i : Nat) (hi : i < l.length) (hl : (l.length : Int) ≤ 9223372036854775807) : sLastUse_m l (i : Int) = some ((lastTo l i l.length : Nat) : Int) := by
  unfold sLastUse_m
  obtain ⟨a, ha⟩ : ∃ a, l[i]? = some a := ⟨_, List.getElem?_eq_getElem hi⟩
  rw [sl1In_eq, Option.bind_some, if_pos (by simp; omega), grd_pos (by constructor <;> omega), grd_pos (by omega)]
  have e1 : ((i : Int) + 1).toNat = i + 1 := by omega
  rw [e1]
  obtain ⟨s', h1, h2⟩ := eachN_ok (P := fun k (s : Int) => s = ((lastTo l i k : Nat) : Int)) (n := l.length - (i + 1)) (i := i + 1) (s := (i : Int)) (f := sLastUse_L1 l (i : Int)) (by rw [lastTo_low l i _ (Nat.le_refl _)]) fun k s hk hk2 hs => by
    obtain ⟨p, hp⟩ : ∃ p, l[k]? = some p := ⟨_, List.getElem?_eq_getElem (by omega)⟩
    unfold sLastUse_L1
    rw [hp, Option.bind_some, grd_pos (Int.natCast_nonneg _), Int.toNat_natCast, ha, Option.bind_some, sHas_eq, Option.bind_some]
    by_cases hm : a.At ∈ p.Inputs
    · rw [if_pos (by simp [hm]), lastTo_yes ha hp (by omega) hm]; exact ⟨_, rfl, rfl⟩
    · rw [if_neg (by simp [hm]), lastTo_no ha hp hm]; exact ⟨_, rfl, hs⟩
  rw [h1, Option.bind_some, h2, show i + 1 + (l.length - (i + 1)) = l.length by omega]
theorem ilastUse_eq (l : List TraceStep) (i : Nat) (hi : i < l.length) (hl : (l.length : Int) ≤ 9223372036854775807) : ilastUse_m l (i : Int) = some ((lastTo l i l.length : Nat) : Int) := by
  unfold ilastUse_m
  obtain ⟨a, ha⟩ : ∃ a, l[i]? = some a := ⟨_, List.getElem?_eq_getElem hi⟩
  have key : ∀ q, q ≤ l.length → i < q → iterO (ilastUse_L1 l (i : Int)) ((q : Int) - 1) = some (if lastTo l i q = i then .inl () else .inr ((lastTo l i q : Nat) : Int)) := by
    intro q
    induction q with
    | zero => intro _ h; omega
    | succ q ih =>
      intro hq hiq
      have e0 : ((q + 1 : Nat) : Int) - 1 = (q : Int) := by omega
      rw [e0]
      by_cases hiq2 : i < q
      · obtain ⟨p, hp⟩ : ∃ p, l[q]? = some p := ⟨_, List.getElem?_eq_getElem (by omega)⟩
        have e1 : ilastUse_L1 l (i : Int) (q : Int) = some (if a.At ∈ p.Inputs then .inr (.inr (q : Int)) else .inl ((q : Int) - 1)) := by
          unfold ilastUse_L1
          rw [if_pos (by omega), grd_pos (Int.natCast_nonneg _), Int.toNat_natCast, hp, Option.bind_some, grd_pos (Int.natCast_nonneg _), Int.toNat_natCast, ha, Option.bind_some, iHas_eq, Option.bind_some]
          by_cases hm : a.At ∈ p.Inputs
          · simp [hm]
          · simp only [hm, decide_false, Bool.false_eq_true, if_false]
            rw [grd_pos (by constructor <;> omega)]
        by_cases hm : a.At ∈ p.Inputs
        · rw [iterO_done (by rw [e1, if_pos hm]), lastTo_yes ha hp hiq2 hm, if_neg (by omega)]
        · rw [iterO_next (by rw [e1, if_neg hm]), lastTo_no ha hp hm]
          exact ih (by omega) hiq2
      · have : q = i := by omega
        subst this
        rw [iterO_done (r := .inl ()) (by unfold ilastUse_L1; rw [if_neg (by omega)]), lastTo_low l q _ (Nat.le_refl _), if_pos rfl]
  rw [key l.length (Nat.le_refl _) hi, Option.bind_some]
  by_cases h : lastTo l i l.length = i
  · rw [if_pos h, h]; rfl
  · rw [if_neg h]; rfl
theorem eachL_ok2 {α σ τ : Type} {P : Nat → σ → τ → Prop} : ∀ {xs : List α} {i : Nat} {s : σ} {t : τ} {f : Nat → α → σ → Option σ} {g : Nat → α → τ → Option τ}, P i s t → (∀ k x s t, xs[k]? = some x → P (i + k) s t → ∃ s' t', f (i + k) x s = some s' ∧ g (i + k) x t = some t' ∧ P (i + k + 1) s' t') → ∃ s' t', eachL f i xs s = some s' ∧ eachL g i xs t = some t' ∧ P (i + xs.length) s' t'
  | [], i, s, t, f, g, h, _ => ⟨s, t, rfl, rfl, h⟩
  | x :: xs, i, s, t, f, g, h, hs => by
    obtain ⟨s1, t1, h1, g1, h2⟩ := hs 0 x s t rfl h
    simp only [Nat.add_zero] at h1 g1 h2
    obtain ⟨s2, t2, h3, g3, h4⟩ := eachL_ok2 (P := P) (xs := xs) (i := i + 1) (f := f) (g := g) h2 fun k y s t hy hp => by
      have := hs (k + 1) y s t hy (by rwa [show i + (k + 1) = i + 1 + k by omega])
      rwa [show i + (k + 1) = i + 1 + k by omega] at this
    exact ⟨s2, t2, by simp [eachL, h1, h3], by simp [eachL, g1, g3], by rw [List.length_cons, show i + (xs.length + 1) = i + 1 + xs.length by omega]; exact h4⟩
theorem sMax_eq (a b : Int) : sl1Max_m a b = some (max a b) := by
  unfold sl1Max_m
  by_cases h : b < a
  · rw [if_pos h]; congr 1; omega
  · rw [if_neg h]; congr 1; omega
/-- instance i still holds its cell at step k -/
def busy (t : List TraceStep) (keep : List Instance) (i k : Nat) : Prop := k < lastTo t i t.length ∨ ∃ a, t[i]? = some a ∧ a.At ∈ keep
/-- the first cell that is free -/
theorem first_free {s : List Bool} {d : Nat} (hd : s[d]? = some false) : ∀ (m c : Nat), c + m = d → (∀ q, c ≤ q → q < d → s[q]? = some true) → ((d : Int) + 1 ≤ 9223372036854775807) → iterO (sAssignSlots_L3 s) (c : Int) = some (d : Int)
  | 0, c, h, _, _ => by
    have : c = d := by omega
    subst this
    refine iterO_done ?_
    unfold sAssignSlots_L3
    rw [grd_pos (Int.natCast_nonneg _), Int.toNat_natCast, hd, Option.bind_some, if_neg (by decide)]
  | m + 1, c, h, ht, hb => by
    have h1 : sAssignSlots_L3 s (c : Int) = some (.inl (((c + 1 : Nat) : Nat) : Int)) := by
      unfold sAssignSlots_L3
      rw [grd_pos (Int.natCast_nonneg _), Int.toNat_natCast, ht c (by omega) (by omega), Option.bind_some, if_pos rfl, grd_pos (by constructor <;> omega)]
      rfl
    rw [iterO_next h1]
    exact first_free hd m (c + 1) (by omega) (fun q h2 h3 => ht q (by omega) h3) hb
/-- the flags of the cells -/
theorem flags (t : List TraceStep) (keep : List Instance) (s1 s2 : List Int) (k M : Nat) (y : Int) (hk : k < t.length) (h1 : s1.length = k) (h2 : s2.length = k) (hu : ∀ i, i < k → s2[i]? = some ((lastTo t i t.length : Nat) : Int)) (hc : ∀ x ∈ s1, 0 ≤ x ∧ x < (M : Int)) :
    ∃ s4, eachN (sAssignSlots_L2 t keep s1 s2 k y) 0 k (List.replicate (M + 1) false) = some s4 ∧ s4.length = M + 1 ∧ ∀ c, c ≤ M → ∃ b, s4[c]? = some b ∧ (b = true ↔ ∃ i, s1[i]? = some (c : Int) ∧ busy t keep i k) := by
  obtain ⟨s4, e, hl, hs⟩ := eachN_ok (P := fun j (s : List Bool) => s.length = M + 1 ∧ ∀ c, c ≤ M → ∃ b, s[c]? = some b ∧ (b = true ↔ ∃ i, i < j ∧ s1[i]? = some (c : Int) ∧ busy t keep i k)) (n := k) (i := 0) (s := List.replicate (M + 1) false) (f := sAssignSlots_L2 t keep s1 s2 k y)
    ⟨by simp, fun c hc => ⟨false, by simp [List.getElem?_replicate]; omega, by simp⟩⟩ fun j s _ hj ⟨hl, hs⟩ => by
    obtain ⟨x, hx⟩ : ∃ x, s1[j]? = some x := ⟨_, List.getElem?_eq_getElem (by omega)⟩
    obtain ⟨a, ha⟩ : ∃ a, t[j]? = some a := ⟨_, List.getElem?_eq_getElem (by omega)⟩
    have hx2 := hc x (List.mem_of_getElem? hx)
    obtain ⟨z, hz⟩ : ∃ z, s[x.toNat]? = some z := ⟨_, List.getElem?_eq_getElem (by omega)⟩
    have hset : busy t keep j k → ∀ c, c ≤ M → ∃ b, (List.set s x.toNat true)[c]? = some b ∧ (b = true ↔ ∃ i, i < j + 1 ∧ s1[i]? = some (c : Int) ∧ busy t keep i k) := fun hb c hcM => by
      by_cases hcx : x.toNat = c
      · subst hcx
        exact ⟨true, by rw [List.getElem?_set_self (by omega)], by simp only [true_iff]; exact ⟨j, by omega, by rw [hx]; congr 1; omega, hb⟩⟩
      · obtain ⟨b, hb1, hb2⟩ := hs c hcM
        refine ⟨b, by rw [List.getElem?_set_ne hcx]; exact hb1, hb2.trans ⟨fun ⟨i, h3, h4, h5⟩ => ⟨i, by omega, h4, h5⟩, fun ⟨i, h3, h4, h5⟩ => ⟨i, ?_, h4, h5⟩⟩⟩
        by_cases hij : i = j
        · subst hij; rw [hx] at h4; cases h4; exact absurd (by omega) hcx
        · omega
    have hno : ¬ busy t keep j k → ∀ c, c ≤ M → ∃ b, s[c]? = some b ∧ (b = true ↔ ∃ i, i < j + 1 ∧ s1[i]? = some (c : Int) ∧ busy t keep i k) := fun hb c hcM => by
      obtain ⟨b, hb1, hb2⟩ := hs c hcM
      refine ⟨b, hb1, hb2.trans ⟨fun ⟨i, h3, h4, h5⟩ => ⟨i, by omega, h4, h5⟩, fun ⟨i, h3, h4, h5⟩ => ⟨i, ?_, h4, h5⟩⟩⟩
      by_cases hij : i = j
      · subst hij; exact absurd h5 hb
      · omega
    have happ : (s2 ++ [y])[j]? = some ((lastTo t j t.length : Nat) : Int) := by
      rw [List.getElem?_append_left (by omega)]; exact hu j (by omega)
    unfold sAssignSlots_L2
    simp only [happ, hx, ha, hz, sHas_eq, Option.bind_some]
    by_cases hlt : (k : Int) < ((lastTo t j t.length : Nat) : Int)
    · rw [if_pos hlt, grd_pos hx2.1]
      exact ⟨_, rfl, by simp [hl], hset (.inl (by omega))⟩
    · rw [if_neg hlt]
      by_cases hm : a.At ∈ keep
      · rw [if_pos (by simp [hm]), grd_pos hx2.1]
        exact ⟨_, rfl, by simp [hl], hset (.inr ⟨a, ha, hm⟩)⟩
      · rw [if_neg (by simp [hm])]
        refine ⟨_, rfl, hl, hno fun hb => ?_⟩
        rcases hb with hb | ⟨a', ha', hm'⟩
        · omega
        · rw [ha] at ha'; cases ha'; exact hm hm'
  simp only [Nat.zero_add] at hs
  refine ⟨s4, e, hl, fun c hcM => ?_⟩
  obtain ⟨b, hb1, hb2⟩ := hs c hcM
  refine ⟨b, hb1, hb2.trans ⟨fun ⟨i, _, h4, h5⟩ => ⟨i, h4, h5⟩, fun ⟨i, h4, h5⟩ => ⟨i, ?_, h4, h5⟩⟩⟩
  have := lt_of h4; omega
/-- the program's search -/
theorem first_end (k : Nat) : ∀ (e : List Int) (i : Nat), (∃ (d : Nat) (v : Int), e[d]? = some v ∧ v ≤ (k : Int) ∧ (∀ q : Nat, q < d → ∀ u, e[q]? = some u → (k : Int) < u) ∧ findL (slices_IndexFunc_int_iAssignSlots_1_L1 (k : Int)) i e () = some (.inr ((i + d : Nat) : Int))) ∨ ((∀ (q : Nat) u, e[q]? = some u → (k : Int) < u) ∧ findL (slices_IndexFunc_int_iAssignSlots_1_L1 (k : Int)) i e () = some (.inl ()))
  | [], i => .inr ⟨by simp, rfl⟩
  | x :: e, i => by
    by_cases hx : x ≤ (k : Int)
    · refine .inl ⟨0, x, rfl, hx, fun q hq => absurd hq (by omega), ?_⟩
      simp [findL, slices_IndexFunc_int_iAssignSlots_1_L1, iAssignSlots_1_m, hx]
    · have h1 : findL (slices_IndexFunc_int_iAssignSlots_1_L1 (k : Int)) i (x :: e) () = findL (slices_IndexFunc_int_iAssignSlots_1_L1 (k : Int)) (i + 1) e () := by
        simp [findL, slices_IndexFunc_int_iAssignSlots_1_L1, iAssignSlots_1_m, hx]
      rcases first_end k e (i + 1) with ⟨d, v, h2, h3, h4, h5⟩ | ⟨h2, h3⟩
      · refine .inl ⟨d + 1, v, by simpa using h2, h3, fun q hq u hu => ?_, by rw [h1, h5]; congr 3; omega⟩
        cases q with
        | zero => simp at hu; subst hu; omega
        | succ q => exact h4 q (by omega) u (by simpa using hu)
      · refine .inr ⟨fun q u hu => ?_, by rw [h1, h3]⟩
        cases q with
        | zero => simp at hu; subst hu; omega
        | succ q => exact h2 q u (by simpa using hu)
/-- when an instance lets go of its cell -/
def endOf (t : List TraceStep) (keep : List Instance) (i : Nat) : Int := if ∃ a, t[i]? = some a ∧ a.At ∈ keep then (t.length : Int) else ((lastTo t i t.length : Nat) : Int)
theorem busy_end (t : List TraceStep) (keep : List Instance) (i k : Nat) (hk : k < t.length) : busy t keep i k ↔ (k : Int) < endOf t keep i := by
  unfold busy endOf
  by_cases h : ∃ a, t[i]? = some a ∧ a.At ∈ keep
  · rw [if_pos h]; exact ⟨fun _ => by omega, fun _ => .inr h⟩
  · rw [if_neg h]; exact ⟨fun hb => hb.elim (fun hb => by omega) (fun hb => absurd hb h), fun hb => .inl (by omega)⟩
structure Inv (t : List TraceStep) (keep : List Instance) (k : Nat) (s1 s2 : List Int) (s3 : Int) (c1 e : List Int) : Prop where
  same : c1 = s1
  l1 : s1.length = k
  l2 : s2.length = k
  u : ∀ i, i < k → s2[i]? = some ((lastTo t i t.length : Nat) : Int)
  n : s3 = (e.length : Int)
  le : e.length ≤ k
  c : ∀ x ∈ s1, 0 ≤ x ∧ x < (e.length : Int)
  f : ∀ (c : Nat) v, e[c]? = some v → ∀ k', k ≤ k' → k' < t.length → ((∃ i, s1[i]? = some (c : Int) ∧ busy t keep i k') ↔ (k' : Int) < v)
theorem Inv.next {t : List TraceStep} {keep : List Instance} {k : Nat} {s1 s2 : List Int} {s3 : Int} {c1 e : List Int} (h : Inv t keep k s1 s2 s3 c1 e) (d : Nat) (hd : d < e.length) (v : Int) (hv : e[d]? = some v) (hvk : v ≤ (k : Int)) :
    Inv t keep (k + 1) (s1 ++ [(d : Int)]) (s2 ++ [((lastTo t k t.length : Nat) : Int)]) (max s3 ((d : Int) + 1)) (c1 ++ [(d : Int)]) (e.set d (endOf t keep k)) := by
  obtain ⟨rfl, l1, l2, hu, hn, hle, hc, hf⟩ := h
  refine ⟨rfl, by simp [l1], by simp [l2], fun i hi => ?_, by simp; omega, by simp; omega, fun x hx => ?_, fun c w hw k' hk' hk2 => ?_⟩
  · by_cases h : i < k
    · rw [List.getElem?_append_left (by omega)]; exact hu i h
    · have : i = s2.length := by omega
      subst this; simp [l2]
  · rcases List.mem_append.1 hx with h | h
    · simpa using hc x h
    · simp at h; subst h; simp; omega
  · have happ : ∀ i, ((c1 ++ [(d : Int)])[i]? = some (c : Int)) ↔ (c1[i]? = some (c : Int) ∨ (i = k ∧ c = d)) := fun i => by
      by_cases hi : i < k
      · rw [List.getElem?_append_left (by omega)]; constructor
        · exact .inl
        · rintro (h | h); exact h; omega
      · rw [List.getElem?_append_right (by omega), List.getElem?_eq_none (l := c1) (by omega)]
        by_cases hik : i = k
        · subst hik; simp [l1]; omega
        · constructor
          · intro h; have := lt_of h; simp at this; omega
          · rintro (h | h); cases h; omega
    by_cases hcd : d = c
    · subst hcd
      rw [List.getElem?_set_self hd] at hw
      obtain rfl := Option.some.inj hw
      rw [← busy_end t keep k k' hk2]
      refine ⟨fun ⟨i, h1, h2⟩ => ?_, fun h => ⟨k, (happ k).2 (.inr ⟨rfl, rfl⟩), h⟩⟩
      rcases (happ i).1 h1 with h1 | ⟨rfl, _⟩
      · have := (hf d v hv k' (by omega) hk2).1 ⟨i, h1, h2⟩; omega
      · exact h2
    · rw [List.getElem?_set_ne hcd] at hw
      rw [← hf c w hw k' (by omega) hk2]
      refine ⟨fun ⟨i, h1, h2⟩ => ?_, fun ⟨i, h1, h2⟩ => ⟨i, (happ i).2 (.inl h1), h2⟩⟩
      rcases (happ i).1 h1 with h1 | ⟨_, h1⟩
      · exact ⟨i, h1, h2⟩
      · omega
theorem Inv.more {t : List TraceStep} {keep : List Instance} {k : Nat} {s1 s2 : List Int} {s3 : Int} {c1 e : List Int} (h : Inv t keep k s1 s2 s3 c1 e) :
    Inv t keep (k + 1) (s1 ++ [(e.length : Int)]) (s2 ++ [((lastTo t k t.length : Nat) : Int)]) (max s3 ((e.length : Int) + 1)) (c1 ++ [(e.length : Int)]) ((e ++ [0]).set e.length (endOf t keep k)) := by
  obtain ⟨rfl, l1, l2, hu, hn, hle, hc, hf⟩ := h
  refine ⟨rfl, by simp [l1], by simp [l2], fun i hi => ?_, by simp; omega, by simp; omega, fun x hx => ?_, fun c w hw k' hk' hk2 => ?_⟩
  · by_cases h : i < k
    · rw [List.getElem?_append_left (by omega)]; exact hu i h
    · have : i = s2.length := by omega
      subst this; simp [l2]
  · rcases List.mem_append.1 hx with h | h
    · have := hc x h; simp; omega
    · simp at h; subst h; simp; omega
  · have happ : ∀ i, ((c1 ++ [(e.length : Int)])[i]? = some (c : Int)) ↔ (c1[i]? = some (c : Int) ∨ (i = k ∧ c = e.length)) := fun i => by
      by_cases hi : i < k
      · rw [List.getElem?_append_left (by omega)]; constructor
        · exact .inl
        · rintro (h | h); exact h; omega
      · rw [List.getElem?_append_right (by omega), List.getElem?_eq_none (l := c1) (by omega)]
        by_cases hik : i = k
        · subst hik; simp [l1]; omega
        · constructor
          · intro h; have := lt_of h; simp at this; omega
          · rintro (h | h); cases h; omega
    by_cases hcd : e.length = c
    · subst hcd
      rw [List.getElem?_set_self (by simp)] at hw
      obtain rfl := Option.some.inj hw
      rw [← busy_end t keep k k' hk2]
      refine ⟨fun ⟨i, h1, h2⟩ => ?_, fun h => ⟨k, (happ k).2 (.inr ⟨rfl, rfl⟩), h⟩⟩
      rcases (happ i).1 h1 with h1 | ⟨rfl, _⟩
      · have := hc _ (List.mem_of_getElem? h1); omega
      · exact h2
    · rw [List.getElem?_set_ne hcd] at hw
      have hlt : c < e.length := by have := lt_of hw; simp at this; omega
      rw [List.getElem?_append_left hlt] at hw
      rw [← hf c w hw k' (by omega) hk2]
      refine ⟨fun ⟨i, h1, h2⟩ => ?_, fun ⟨i, h1, h2⟩ => ⟨i, (happ i).2 (.inl h1), h2⟩⟩
      rcases (happ i).1 h1 with h1 | ⟨_, h1⟩
      · exact ⟨i, h1, h2⟩
      · omega
theorem spec_step {t : List TraceStep} {keep : List Instance} (hl : t.length ≤ 1048576) {k : Nat} {a : TraceStep} (hk : k < t.length) {c1 s2 e : List Int} (l1 : c1.length = k) (l2 : s2.length = k) (hle : e.length ≤ k) {s4 : List Bool}
    (e4 : eachN (sAssignSlots_L2 t keep c1 s2 k ((lastTo t k t.length : Nat) : Int)) 0 k (List.replicate (e.length + 1) false) = some s4) (d : Nat) (hd : d ≤ e.length) (hd1 : s4[d]? = some false) (hd2 : ∀ q, q < d → s4[q]? = some true) :
    sAssignSlots_L1 t keep k a (c1, s2, (e.length : Int)) = some (c1 ++ [(d : Int)], s2 ++ [((lastTo t k t.length : Nat) : Int)], max (e.length : Int) ((d : Int) + 1)) := by
  have e3 : ((e.length : Int) + 1).toNat = e.length + 1 := by omega
  have g1 : ((s2.length : Int) + 1) * 8 ≤ 140737488355328 ∧ (s2.length : Int) + 1 ≤ 9223372036854775807 := by constructor <;> omega
  have g2 : I64 ((e.length : Int) + 1) := by constructor <;> omega
  have g3 : 0 ≤ ((e.length : Int) + 1) ∧ ((e.length : Int) + 1) * 1 ≤ 281474976710656 ∧ ((e.length : Int) + 1) ≤ 9223372036854775807 := by refine ⟨?_, ?_, ?_⟩ <;> omega
  have g4 : ((c1.length : Int) + 1) * 8 ≤ 140737488355328 ∧ (c1.length : Int) + 1 ≤ 9223372036854775807 := by constructor <;> omega
  have g5 : I64 ((d : Int) + 1) := by constructor <;> omega
  have hfree : iterO (sAssignSlots_L3 s4) 0 = some (d : Int) := first_free hd1 d 0 (by omega) (fun q _ h => hd2 q h) (by omega)
  unfold sAssignSlots_L1
  dsimp only
  rw [sLastUse_eq t k hk (by omega), Option.bind_some, grd_pos g1, grd_pos g2, grd_pos g3, e3, e4, Option.bind_some, hfree, Option.bind_some, grd_pos g4, grd_pos g5, sMax_eq, Option.bind_some]
set_option maxRecDepth 100000 in
/-- the reference and the program assign the same cells -/
theorem assign_same (t : List TraceStep) (keep : List Instance) (hl : t.length ≤ 1048576) : ∃ x, sAssignSlots_m t keep = some x ∧ iAssignSlots_m t keep = some x ∧ x.1.length = t.length ∧ x.2 ≤ t.length ∧ 0 ≤ x.2 := by
  obtain ⟨⟨s1, s2, s3⟩, ⟨c1, e⟩, h1, h2, h3⟩ := eachL_ok2 (P := fun k (s : List Int × List Int × Int) (r : List Int × List Int) => Inv t keep k s.1 s.2.1 s.2.2 r.1 r.2) (xs := t) (i := 0) (s := (([] : List Int), ([] : List Int), 0)) (t := (([] : List Int), ([] : List Int))) (f := sAssignSlots_L1 t keep) (g := iAssignSlots_L1 t keep)
    ⟨rfl, rfl, rfl, fun i h => absurd h (by omega), rfl, by simp, by simp, by simp⟩ fun k a ⟨s1, s2, s3⟩ ⟨c1, e⟩ ha h => by
    have hk := lt_of ha
    simp only [Nat.zero_add] at h ⊢
    have h' := h
    obtain ⟨rfl, l1, l2, hu, rfl, hle, hc, hf⟩ := h
    obtain ⟨s4, e4, hl4, hs4⟩ := flags t keep c1 s2 k e.length ((lastTo t k t.length : Nat) : Int) hk l1 l2 hu hc
    have hfree : s4[e.length]? = some false := by
      obtain ⟨b, hb1, hb2⟩ := hs4 e.length (Nat.le_refl _)
      cases b with
      | false => exact hb1
      | true =>
        obtain ⟨i, h5, _⟩ := hb2.1 rfl
        have := hc _ (List.mem_of_getElem? h5); omega
    have hin : ∀ (q : Nat) u, e[q]? = some u → ∃ b, s4[q]? = some b ∧ (b = true ↔ (k : Int) < u) := fun q u hq => by
      obtain ⟨b, hb1, hb2⟩ := hs4 q (by have := lt_of hq; omega)
      exact ⟨b, hb1, hb2.trans (hf q u hq k (Nat.le_refl _) hk)⟩
    -- the cell
    have spec := spec_step (a := a) hl hk l1 l2 hle e4
    have hc2 : slices_Contains_Instance_m keep a.At = some (decide (a.At ∈ keep)) := iHas_eq keep a.At
    have hend : endOf t keep k = if a.At ∈ keep then (t.length : Int) else ((lastTo t k t.length : Nat) : Int) := by
      unfold endOf
      by_cases hm : a.At ∈ keep
      · rw [if_pos ⟨a, ha, hm⟩, if_pos hm]
      · rw [if_neg (fun ⟨a', h5, h6⟩ => by rw [ha] at h5; cases h5; exact hm h6), if_neg hm]
    rcases first_end k e 0 with ⟨d, v, hd1, hd2, hd3, hd4⟩ | ⟨hd3, hd4⟩
    · have hde := lt_of hd1
      have hix : slices_IndexFunc_int_iAssignSlots_1_m e (k : Int) = some (d : Int) := by
        unfold slices_IndexFunc_int_iAssignSlots_1_m; rw [hd4]; simp
      refine ⟨_, (c1 ++ [(d : Int)], e.set d (endOf t keep k)), spec d (by omega) ?_ fun q hq => ?_, ?_, h'.next d hde v hd1 hd2⟩
      · obtain ⟨b, hb1, hb2⟩ := hin d v hd1
        cases b with
        | false => exact hb1
        | true => have := hb2.1 rfl; omega
      · obtain ⟨u, hu2⟩ : ∃ u, e[q]? = some u := ⟨_, List.getElem?_eq_getElem (by omega)⟩
        obtain ⟨b, hb1, hb2⟩ := hin q u hu2
        rw [hb1, hb2.2 (hd3 q hq u hu2)]
      · unfold iAssignSlots_L1
        dsimp only
        rw [ilastUse_eq t k hk (by omega), Option.bind_some, hc2, Option.bind_some]
        by_cases hm : a.At ∈ keep
        · rw [if_pos (by simp [hm]), hix, Option.bind_some, if_neg (by omega), grd_pos (by constructor <;> omega), grd_pos (Int.natCast_nonneg _), Int.toNat_natCast, hd1, Option.bind_some, hend, if_pos hm]
        · rw [if_neg (by simp [hm]), hix, Option.bind_some, if_neg (by omega), grd_pos (by constructor <;> omega), grd_pos (Int.natCast_nonneg _), Int.toNat_natCast, hd1, Option.bind_some, hend, if_neg hm]
    · have hix : slices_IndexFunc_int_iAssignSlots_1_m e (k : Int) = some (-1) := by
        unfold slices_IndexFunc_int_iAssignSlots_1_m; rw [hd4]; simp
      refine ⟨_, (c1 ++ [(e.length : Int)], (e ++ [0]).set e.length (endOf t keep k)), spec e.length (Nat.le_refl _) hfree fun q hq => ?_, ?_, h'.more⟩
      · obtain ⟨u, hu2⟩ : ∃ u, e[q]? = some u := ⟨_, List.getElem?_eq_getElem (by omega)⟩
        obtain ⟨b, hb1, hb2⟩ := hin q u hu2
        rw [hb1, hb2.2 (hd3 q u hu2)]
      · have hlast : (e ++ [(0 : Int)])[e.length]? = some 0 := by simp
        unfold iAssignSlots_L1
        dsimp only
        rw [ilastUse_eq t k hk (by omega), Option.bind_some, hc2, Option.bind_some]
        by_cases hm : a.At ∈ keep
        · rw [if_pos (by simp [hm]), hix, Option.bind_some, if_pos (by decide), grd_pos (by constructor <;> omega), grd_pos (by constructor <;> omega), hlast, Option.bind_some, hend, if_pos hm]
        · rw [if_neg (by simp [hm]), hix, Option.bind_some, if_pos (by decide), grd_pos (by constructor <;> omega), grd_pos (by constructor <;> omega), hlast, Option.bind_some, hend, if_neg hm]
  obtain ⟨rfl, l1, l2, hu, rfl, hle, hc, hf⟩ := h3
  simp only at *
  refine ⟨(c1, (e.length : Int)), ?_, ?_, by simp only; omega, by simp only; omega, by simp only; omega⟩
  · unfold sAssignSlots_m; rw [h1]; rfl
  · unfold iAssignSlots_m; rw [h2]; rfl
theorem cnt_assign (t : List TraceStep) (k : List Instance) (h : szL t ≤ 1048576) : cntL ((sAssignSlots_m t k).getD ([], 0)).1 ≤ 1048576 := by
  obtain ⟨x, hx, _, h1, _⟩ := assign_same t k (Nat.le_trans (szL_length t) h)
  rw [hx, cntL_length]
  show x.1.length ≤ _
  rw [h1]; exact Nat.le_trans (szL_length t) h
end Go.Proofs.Ytgbgkhcgpchckaa
