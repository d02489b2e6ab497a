/- What those partial functions come to: plain lemmas on data; each bears its conditions in its statement. -/
import Derived.Test.YtonnooljidombaaMathMHr
set_option linter.unusedVariables false
set_option linter.unusedSimpArgs false
set_option linter.ambiguousOpen false
set_option linter.unusedSectionVars false
set_option linter.unnecessarySimpa false
set_option linter.unusedVariables false
set_option linter.unusedSimpArgs false
namespace Go.Proofs.Ytonnooljidombaa
open Go Go.E
/-! ### phases: both ways are one -/
theorem sHasLoop_eq {r : Relation} (h : Valid r) : sHasLoop_m r = some (decide (∃ k : Nat, k < r.Rows.length ∧ hasP (closeR r) (k : Int) (k : Int))) := by
  have hl : r.Rows.length ≤ 1048576 := by have := h.2.1; have := h.2.2.1; omega
  have hN : r.N.toNat = r.Rows.length := by have := h.1; have := h.2.2.1; omega
  unfold sHasLoop_m
  rw [sIsValid_eq, Option.bind_some, if_pos (by simpa using h), sClose_eq hl, Option.bind_some, hN]
  have hf : ∀ (k : Nat), (hasP (closeR r) (k : Int) (k : Int) → sHasLoop_L1 (closeR r) k () = some (.inr true)) ∧ (¬ hasP (closeR r) (k : Int) (k : Int) → sHasLoop_L1 (closeR r) k () = some (.inl ())) := fun k => by
    unfold sHasLoop_L1
    rw [sHasPair_eq, Option.bind_some]
    exact ⟨fun hp => if_pos (by simpa using hp), fun hp => if_neg (by simpa using hp)⟩
  have hany := findN_any (c := true) (n := r.Rows.length) (i := 0) (p := fun k => hasP (closeR r) (k : Int) (k : Int)) (f := sHasLoop_L1 (closeR r)) fun k _ => by
    rw [Nat.zero_add]; exact hf k
  by_cases hp : ∃ k : Nat, k < r.Rows.length ∧ hasP (closeR r) (k : Int) (k : Int)
  · rw [decide_eq_true hp]
    obtain ⟨k, hk, hpk⟩ := hp
    rw [hany.1 ⟨k, hk, by rw [Nat.zero_add]; exact hpk⟩]; rfl
  · rw [decide_eq_false hp]
    rw [hany.2 fun k hx hpk => hp ⟨k, hx, by rw [Nat.zero_add] at hpk; exact hpk⟩]; rfl
/-- what both ways hand back, as indices -/
def phR (a : List Attribute) (r : Relation) : Option (List (List Nat × List Nat)) :=
  if Valid r ∧ r.N = a.length ∧ ¬ (∃ k : Nat, k < r.Rows.length ∧ hasP (closeR r) (k : Int) (k : Int)) then runP a r (a.length + 1) [] (List.replicate a.length false) else none
def phO (a : List Attribute) (r : Relation) : List Phase × Bool := match phR a r with
  | none => ([], false)
  | some l => (l.map (toPh a), true)
theorem count_rep (n : Nat) : (List.replicate n false).count false = n := by simp
theorem phO_none {a : List Attribute} {r : Relation} (h : phR a r = none) : phO a r = ([], false) := by unfold phO; rw [h]
theorem phases_both {a : List Attribute} {r : Relation} (hn : a.length ≤ 16) (hr : r.Rows.length ≤ 1048576) : iPhasesOf_m a r = some (phO a r) ∧ sPhasesOf_m a r = some (phO a r) := by
  have hb := fun h => run_both (a := a) (r := r) h hn (a.length + 1) [] (List.replicate a.length false) (by simp) (fun _ => by simp) (by simp) (by simp; omega)
  unfold iPhasesOf_m sPhasesOf_m
  rw [iIsValid_eq, sIsValid_eq, Option.bind_some, Option.bind_some]
  by_cases hv : Valid r
  · rw [decide_eq_true hv, if_pos rfl]
    rw [Option.bind_some, Option.bind_some]
    by_cases hN : r.N = a.length
    · have e : (!decide (r.N = (a.length : Int))) = false := by simp [hN]
      rw [e, if_neg (by simp), if_neg (by simp), iHasLoop_eq hr, sHasLoop_eq hv]
      by_cases hlp : ∃ k : Nat, k < r.Rows.length ∧ hasP (closeR r) (k : Int) (k : Int)
      · rw [phO_none (if_neg (fun h => h.2.2 hlp)), decide_eq_true hlp, Option.bind_some, Option.bind_some, Option.bind_some, if_pos rfl, if_pos rfl]
        exact ⟨rfl, rfl⟩
      · have ep : phR a r = runP a r (a.length + 1) [] (List.replicate a.length false) := if_pos ⟨hv, hN, hlp⟩
        unfold phO
        rw [ep, decide_eq_false hlp, Option.bind_some, Option.bind_some, Option.bind_some, if_neg (by simp), if_neg (by simp), grd_pos (by constructor <;> omega), grd_pos (by constructor <;> omega)]
        obtain ⟨⟨d1, h1⟩, ⟨d2, h2⟩⟩ := hb hN
        rw [count_rep] at h2
        simp only [List.map_nil] at h1 h2
        rw [h1, h2]
        cases runP a r (a.length + 1) [] (List.replicate a.length false) with
        | none => exact ⟨rfl, rfl⟩
        | some l => exact ⟨rfl, rfl⟩
    · have e : (!decide (r.N = (a.length : Int))) = true := by simp [hN]
      rw [phO_none (if_neg (fun h => hN h.2.1)), e, if_pos rfl, if_pos rfl, Option.bind_some, if_pos rfl]
      exact ⟨rfl, rfl⟩
  · rw [phO_none (if_neg (fun h => hv h.1)), decide_eq_false hv]
    exact ⟨rfl, rfl⟩
/-! ### what order they come in -/
structure PInv (a : List Attribute) (r : Relation) (d : List Bool) (l : List Nat) : Prop where
  len : d.length = a.length
  nodup : l.Nodup
  mem : ∀ k : Nat, k ∈ l ↔ d.getD k false = true
  ord : ∀ (u : List Nat) (k : Nat) (v : List Nat), l = u ++ k :: v → ∀ i, i < a.length → hasP r (i : Int) (k : Int) → i ∈ u
theorem getD_set {d : List Bool} {k j : Nat} (hk : k < d.length) : (d.set k true).getD j false = if j = k then true else d.getD j false := by
  rw [List.getD_eq_getElem?_getD, List.getElem?_set, List.getD_eq_getElem?_getD]
  by_cases h : k = j
  · subst h; simp [hk]
  · rw [if_neg h, if_neg (fun e => h e.symm)]
theorem okK_ready {a : List Attribute} {r : Relation} {d : List Bool} {m : Int} {k : Nat} (h : okK a r d m k = true) : ∀ i, i < a.length → hasP r (i : Int) (k : Int) → d.getD i false = true := by
  unfold okK at h
  rw [Bool.and_eq_true] at h
  intro i hi hp
  have := List.all_eq_true.1 h.2 i (List.mem_range.2 hi)
  rw [decide_eq_true hp] at this
  simpa using this
theorem PInv.take {a : List Attribute} {r : Relation} {d : List Bool} {l : List Nat} (H : PInv a r d l) {m : Int} {k : Nat} (h : candF a r d m = some k) : PInv a r (d.set k true) (l ++ [k]) := by
  obtain ⟨h1, h2, h3⟩ := cand_some h
  have hkd : k < d.length := by rw [H.len]; exact h1
  have hnot : k ∉ l := fun hm => by rw [(H.mem k).1 hm] at h3; cases h3
  refine ⟨by simp [H.len], ?_, fun j => ?_, ?_⟩
  · rw [List.nodup_append]
    exact ⟨H.nodup, by simp, fun x hx y hy e => hnot (by simp at hy; rw [← hy, ← e]; exact hx)⟩
  · rw [getD_set hkd, List.mem_append, List.mem_singleton]
    by_cases hj : j = k
    · simp [hj]
    · rw [if_neg hj, H.mem j]; simp [hj]
  · intro u q v e i hi hp
    rcases List.append_eq_append_iff.1 e with ⟨xs', e1, e2⟩ | ⟨bs, e1, e2⟩
    · cases xs' with
      | nil =>
        simp at e1 e2
        obtain ⟨rfl, _⟩ := e2
        rw [e1]
        exact (H.mem i).2 (okK_ready h2 i hi hp)
      | cons x xs => simp at e2
    · cases bs with
      | nil =>
        simp at e1 e2
        obtain ⟨rfl, _⟩ := e2
        rw [← e1]
        exact (H.mem i).2 (okK_ready h2 i hi hp)
      | cons x xs =>
        simp at e2
        obtain ⟨rfl, e3⟩ := e2
        exact H.ord u q xs e1 i hi hp
theorem PInv.half {a : List Attribute} {r : Relation} {m : Int} : ∀ (f : Nat) {d : List Bool} {l : List Nat}, PInv a r d l → PInv a r (halfI a r m f d).2 (l ++ (halfI a r m f d).1)
  | 0, d, l, H => by simpa [halfI] using H
  | f + 1, d, l, H => by
    cases h : candF a r d m with
    | none => simpa [halfI, h] using H
    | some k =>
      have := PInv.half (m := m) f (H.take h)
      simp only [halfI, h]
      simpa using this
def flat (l : List (List Nat × List Nat)) : List Nat := l.flatMap fun q => q.1 ++ q.2
theorem run_inv {a : List Attribute} {r : Relation} : ∀ (f : Nat) (out : List (List Nat × List Nat)) (d : List Bool) {l : List (List Nat × List Nat)}, PInv a r d (flat out) → (out = [] → d.count false = a.length) → d.count false + (if out = [] then 1 else 0) ≤ f → runP a r f out d = some l →
    ∃ d', PInv a r d' (flat l) ∧ d'.count false = 0 := by
  intro f
  induction f with
  | zero =>
    intro out d l H _ hc h
    simp only [runP, Option.some.injEq] at h
    subst h
    exact ⟨d, H, by omega⟩
  | succ f ih =>
    intro out d l H hnil hc h
    simp only [runP] at h
    by_cases hgo : out = [] ∨ 0 < d.count false
    · rw [if_pos hgo] at h
      have hl1 := half_len (a := a) (r := r) (m := 1) a.length d H.len
      have hl2 := half_len (a := a) (r := r) (m := 2) a.length _ hl1.1
      have H1 := H.half (m := 1) a.length
      have H2 := H1.half (m := 2) a.length
      by_cases hstop : 0 < a.length ∧ (halfI a r 1 a.length d).1 = [] ∧ (halfI a r 2 a.length (halfI a r 1 a.length d).2).1 = []
      · rw [if_pos hstop] at h; cases h
      · rw [if_neg hstop] at h
        refine ih _ _ ?_ (fun e => absurd e (by simp)) ?_ h
        · have e : flat (out ++ [((halfI a r 1 a.length d).1, (halfI a r 2 a.length (halfI a r 1 a.length d).2).1)]) = flat out ++ (halfI a r 1 a.length d).1 ++ (halfI a r 2 a.length (halfI a r 1 a.length d).2).1 := by
            simp [flat]
          rw [e]; exact H2
        · rw [if_neg (by simp)]
          generalize (halfI a r 1 a.length d).2 = d1 at *
          generalize (halfI a r 2 a.length d1).2 = d2 at *
          have hdl := count_le (d := d)
          have hlen := H.len
          by_cases ha : 0 < a.length
          · have hne : 0 < (halfI a r 1 a.length d).1.length ∨ 0 < (halfI a r 2 a.length d1).1.length := by
              rcases Nat.eq_zero_or_pos (halfI a r 1 a.length d).1.length with e1 | e1
              · rcases Nat.eq_zero_or_pos (halfI a r 2 a.length d1).1.length with e2 | e2
                · exact absurd ⟨ha, List.length_eq_zero_iff.1 e1, List.length_eq_zero_iff.1 e2⟩ hstop
                · exact .inr e2
              · exact .inl e1
            have : d.count false ≤ f + 1 := by omega
            omega
          · by_cases h : out = []
            · have := hnil h; rw [if_pos h] at hc; omega
            · have := hgo.resolve_left h; omega
    · rw [if_neg hgo] at h
      simp only [Option.some.injEq] at h
      subst h
      exact ⟨d, H, by have : ¬ 0 < d.count false := fun h => hgo (.inr h); omega⟩
theorem inv_start (a : List Attribute) (r : Relation) : PInv a r (List.replicate a.length false) [] := by
  refine ⟨by simp, by simp, fun k => ?_, fun u k v e => by simp at e⟩
  simp only [List.not_mem_nil, false_iff]
  rw [List.getD_eq_getElem?_getD, List.getElem?_replicate]
  split <;> simp
theorem phR_inv {a : List Attribute} {r : Relation} {l : List (List Nat × List Nat)} (h : phR a r = some l) : ∃ d', PInv a r d' (flat l) ∧ d'.count false = 0 := by
  unfold phR at h
  split at h
  · exact run_inv _ _ _ (by simpa [flat] using inv_start a r) (fun _ => by simp) (by simp) h
  · cases h
theorem PInv.all {a : List Attribute} {r : Relation} {d : List Bool} {l : List Nat} (H : PInv a r d l) (h0 : d.count false = 0) (k : Nat) : k ∈ l ↔ k < a.length := by
  rw [H.mem]
  constructor
  · intro h
    apply Classical.byContradiction
    intro hk
    rw [List.getD_eq_getElem?_getD, List.getElem?_eq_none (by rw [H.len]; omega)] at h
    cases h
  · intro hk
    cases hb : d.getD k false with
    | true => rfl
    | false =>
      have := count_set (getD_false (by rw [H.len]; exact hk) hb)
      omega
theorem PInv.length {a : List Attribute} {r : Relation} {d : List Bool} {l : List Nat} (H : PInv a r d l) (h0 : d.count false = 0) : l.length = a.length := by
  have := (List.perm_ext_iff_of_nodup H.nodup (List.nodup_range (n := a.length))).2 fun k => by rw [H.all h0, List.mem_range]
  simpa using this.length_eq
end Go.Proofs.Ytonnooljidombaa

