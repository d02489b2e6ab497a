/- What the functions on relations and lists compute: plain definitions and lemmas, without conditions of their own. -/
import Derived.Test.YtaenbhfjiihhnaaEngB
import Derived.Test.YtaenbhfjiihhnaaDat
set_option linter.unusedVariables false
set_option linter.unusedSimpArgs false
set_option linter.ambiguousOpen false
set_option linter.unusedSectionVars false
namespace Go.Proofs.Ytaenbhfjiihhnaa
open Go Go.E
/-- the rows of a relation are sets of numbers below N -/
def Valid (r : Relation) : Prop := 0 ≤ r.N ∧ r.N ≤ 16 ∧ (r.Rows.length : Int) = r.N ∧ ∀ x ∈ r.Rows, 0 ≤ x ∧ x ≤ ((2 ^ r.N.toNat : Nat) : Int) - 1
instance (r : Relation) : Decidable (Valid r) := by unfold Valid; infer_instance
def rowAt (r : Relation) (i : Int) : Int := r.Rows.getD i.toNat 0
def bit (x : Int) (k : Int) : Prop := x.toNat >>> k.toNat &&& 1 = 1
instance (x k : Int) : Decidable (bit x k) := by unfold bit; infer_instance
def inN (r : Relation) (i : Int) : Prop := 0 ≤ i ∧ i ≤ r.N - 1
instance (r : Relation) (i : Int) : Decidable (inN r i) := by unfold inN; infer_instance
def hasP (r : Relation) (i k : Int) : Prop := Valid r ∧ inN r i ∧ inN r k ∧ bit (rowAt r i) k
instance (r : Relation) (i k : Int) : Decidable (hasP r i k) := by unfold hasP; infer_instance
def withRow (r : Relation) (i : Int) (x : Int) : Relation := ⟨r.N, r.Rows.set i.toNat x⟩
def orI (x y : Int) : Int := ((x.toNat ||| y.toNat : Nat) : Int)
def addP (r : Relation) (i k : Int) : Relation := if Valid r ∧ inN r i ∧ inN r k then withRow r i (orI (rowAt r i) ((2 ^ k.toNat : Nat) : Int)) else r
theorem Valid.row {r : Relation} (h : Valid r) {i : Int} (hi : inN r i) {x : Int} (hx : r.Rows[i.toNat]? = some x) : rowAt r i = x ∧ 0 ≤ x ∧ x ≤ 65535 := by
  have hm := h.2.2.2 x (List.mem_of_getElem? hx)
  have hp : 2 ^ r.N.toNat ≤ 2 ^ 16 := Nat.pow_le_pow_right (by decide) (by have := h.2.1; omega)
  refine ⟨by unfold rowAt; simp [hx], hm.1, by omega⟩
theorem pow16 {n : Int} (h : n ≤ 16) : 2 ^ n.toNat ≤ 65536 := by
  have : 2 ^ n.toNat ≤ 2 ^ 16 := Nat.pow_le_pow_right (by decide) (by omega)
  simpa using this
theorem pow_pos' (n : Int) : 1 ≤ 2 ^ n.toNat := Nat.one_le_two_pow
theorem valid_any {r : Relation} (h0 : 0 ≤ r.N) (h1 : r.N ≤ 16) (h2 : (r.Rows.length : Int) = r.N) : decide (Valid r) = !(r.Rows.any fun x => !decide (0 ≤ x ∧ x ≤ ((2 ^ r.N.toNat : Nat) : Int) - 1)) := by
  by_cases hv : Valid r
  · rw [decide_eq_true hv, eq_comm, Bool.not_eq_true', List.any_eq_false]
    intro x hx
    simp only [Bool.not_eq_true', decide_eq_false_iff_not, Decidable.not_not]
    exact hv.2.2.2 x hx
  · rw [decide_eq_false hv, eq_comm, Bool.not_eq_false', List.any_eq_true]
    refine Classical.byContradiction fun hn => hv ⟨h0, h1, h2, fun x hx => Classical.byContradiction fun hb => hn ⟨x, hx, ?_⟩⟩
    rw [decide_eq_false hb]; rfl
theorem rdS_i64 {S : Nat → Prop} {w : World} {l : List Int} {z : Value} (h : rdS S w l z) : ∀ x ∈ l, I64 x := by
  intro x hx
  obtain ⟨i, hi, rfl⟩ := List.getElem_of_mem hx
  obtain ⟨A, c, rfl, _⟩ := h.form
  obtain ⟨y, _, _, cs, hy, _, _, hr, _⟩ := rdS.el h hi
  rw [List.getElem?_eq_getElem hi] at hy
  rw [Option.some.inj hy]
  exact hr.2
end Go.Proofs.Ytaenbhfjiihhnaa
namespace Go.Proofs.Ytaenbhfjiihhnaa
open Go Go.E
theorem bit_of {x k : Int} (h : (((((x.toNat >>> k.toNat : Nat) : Int)).toNat &&& (1 : Int).toNat : Nat) : Int) = 1) : x.toNat >>> k.toNat &&& 1 = 1 := by
  have : (1 : Int).toNat = 1 := rfl
  rw [Int.toNat_natCast, this] at h
  exact_mod_cast h
theorem of_bit {x k : Int} (h : x.toNat >>> k.toNat &&& 1 = 1) : (((((x.toNat >>> k.toNat : Nat) : Int)).toNat &&& (1 : Int).toNat : Nat) : Int) = 1 := by
  have : (1 : Int).toNat = 1 := rfl
  rw [Int.toNat_natCast, this]
  exact_mod_cast h
end Go.Proofs.Ytaenbhfjiihhnaa
namespace Go.Proofs.Ytaenbhfjiihhnaa
open Go Go.E
theorem cnt_r (r : Relation) (h : Sz.szd r ≤ 1048576) : MkT.cntT r ≤ 1048576 := by
  show cntL r.Rows ≤ _
  rw [cntL_length]
  exact Nat.le_trans (szL_length r.Rows) h
theorem szd_withRow (r : Relation) (i x : Int) : Sz.szd (withRow r i x) = Sz.szd r := by
  show szL (r.Rows.set i.toNat x) = szL r.Rows
  rw [szL_int, szL_int, List.length_set]
theorem szd_addP (r : Relation) (i k : Int) : Sz.szd (addP r i k) = Sz.szd r := by
  unfold addP; split
  · exact szd_withRow _ _ _
  · rfl
theorem cnt_addP (r : Relation) (i k : Int) (h : Sz.szd r ≤ 1048576) : MkT.cntT (addP r i k) ≤ 1048576 := cnt_r _ (by rw [szd_addP]; exact h)
end Go.Proofs.Ytaenbhfjiihhnaa
namespace Go.Proofs.Ytaenbhfjiihhnaa
open Go Go.E
/-- the first q rows joined with those of the other -/
def orRows (xs ys : List Int) (q : Nat) : List Int := xs.zipIdx.map fun p => if p.2 < q then orI p.1 (ys.getD p.2 0) else p.1
def unionR (a b : Relation) : Relation := if Valid a ∧ Valid b ∧ a.N = b.N then ⟨a.N, orRows a.Rows b.Rows a.Rows.length⟩ else a
theorem orRows_length (xs ys : List Int) (q : Nat) : (orRows xs ys q).length = xs.length := by simp [orRows]
theorem orRows_zero (xs ys : List Int) : orRows xs ys 0 = xs := by
  apply List.ext_getElem?
  intro i
  simp [orRows]
theorem orRows_get {xs ys : List Int} {q i : Nat} : (orRows xs ys q)[i]? = (xs[i]?).map fun x => if i < q then orI x (ys.getD i 0) else x := by
  simp only [orRows, List.getElem?_map, List.getElem?_zipIdx]
  cases xs[i]? <;> simp
theorem or_step {xs ys : List Int} {k : Nat} (hk : k ≤ xs.length) {x y : Int} (hx : (orRows xs ys k)[k]? = some x) (hy : ys[k]? = some y) : orRows xs ys (k + 1) = (orRows xs ys k).set k (((x.toNat ||| y.toNat : Nat) : Int)) := by
  apply List.ext_getElem?
  intro i
  rw [orRows_get, List.getElem?_set, orRows_get]
  rw [orRows_get] at hx
  by_cases hi : k = i
  · subst hi
    have hl : k < xs.length := by
      rcases Nat.lt_or_ge k xs.length with h | h
      · exact h
      · rw [List.getElem?_eq_none h] at hx; cases hx
    simp only [orRows_length, hl, if_true]
    rw [List.getElem?_eq_getElem hl] at hx ⊢
    simp only [Option.map_some, Nat.lt_irrefl, if_false, Option.some.injEq] at hx
    simp [hx, hy, orI]
  · rw [if_neg hi]
    congr 1
    funext z
    by_cases h2 : i < k
    · rw [if_pos (by omega), if_pos h2]
    · rw [if_neg (by omega), if_neg h2]
end Go.Proofs.Ytaenbhfjiihhnaa
namespace Go.Proofs.Ytaenbhfjiihhnaa
open Go Go.E
theorem Valid.mem {r : Relation} (h : Valid r) {i : Nat} {x : Int} (hx : r.Rows[i]? = some x) : 0 ≤ x ∧ x ≤ 65535 := by
  have hm := h.2.2.2 x (List.mem_of_getElem? hx)
  have hp := pow16 h.2.1
  omega
theorem or_el {a b : Relation} (ha : Valid a) (hb : Valid b) {k : Nat} (hk : k ≤ a.Rows.length) {x y : Int} (hx : (orRows a.Rows b.Rows k)[k]? = some x) (hy : b.Rows[k]? = some y) : 0 ≤ x ∧ x ≤ 65535 ∧ 0 ≤ y ∧ y ≤ 65535 := by
  rw [orRows_get] at hx
  cases h : a.Rows[k]? with
  | none => rw [h] at hx; cases hx
  | some z =>
    rw [h] at hx
    simp at hx
    subst hx
    have := ha.mem h
    have := hb.mem hy
    omega
end Go.Proofs.Ytaenbhfjiihhnaa
namespace Go.Proofs.Ytaenbhfjiihhnaa
open Go Go.E
theorem cnt_unionR (a b : Relation) (h : Sz.szd a ≤ 1048576) : MkT.cntT (unionR a b) ≤ 1048576 := by
  refine cnt_r _ ?_
  unfold unionR
  split
  · show szL (orRows a.Rows b.Rows a.Rows.length) ≤ _
    rw [szL_int, orRows_length, ← szL_int]; exact h
  · exact h
end Go.Proofs.Ytaenbhfjiihhnaa
namespace Go.Proofs.Ytaenbhfjiihhnaa
open Go Go.E
def closeStep (k : Nat) (xs : List Int) (i : Nat) : List Int := if bit (xs.getD i 0) (k : Int) then xs.set i (orI (xs.getD i 0) (xs.getD k 0)) else xs
def closeRow (xs : List Int) (k i : Nat) : List Int := (List.range i).foldl (closeStep k) xs
def closeTo (xs : List Int) (k : Nat) : List Int := (List.range k).foldl (fun ys j => closeRow ys j xs.length) xs
def closeR (r : Relation) : Relation := if Valid r then ⟨r.N, closeTo r.Rows r.Rows.length⟩ else r
theorem closeStep_length (k : Nat) (xs : List Int) (i : Nat) : (closeStep k xs i).length = xs.length := by unfold closeStep; split <;> simp
theorem closeRow_succ (xs : List Int) (k i : Nat) : closeRow xs k (i + 1) = closeStep k (closeRow xs k i) i := by simp [closeRow, List.range_succ]
theorem closeRow_length (xs : List Int) (k i : Nat) : (closeRow xs k i).length = xs.length := by
  induction i with
  | zero => rfl
  | succ i ih => rw [closeRow_succ, closeStep_length, ih]
theorem closeTo_succ (xs : List Int) (k : Nat) : closeTo xs (k + 1) = closeRow (closeTo xs k) k xs.length := by simp [closeTo, List.range_succ]
theorem closeTo_length (xs : List Int) (k : Nat) : (closeTo xs k).length = xs.length := by
  induction k with
  | zero => rfl
  | succ k ih => rw [closeTo_succ, closeRow_length, ih]
def Small (xs : List Int) : Prop := ∀ x ∈ xs, 0 ≤ x ∧ x ≤ 65535
theorem Small.get {xs : List Int} (h : Small xs) {i : Nat} {x : Int} (hx : xs[i]? = some x) : 0 ≤ x ∧ x ≤ 65535 := h x (List.mem_of_getElem? hx)
theorem Small.getD {xs : List Int} (h : Small xs) (i : Nat) : 0 ≤ xs.getD i 0 ∧ xs.getD i 0 ≤ 65535 := by
  rw [List.getD_eq_getElem?_getD]
  cases hx : xs[i]? with
  | none => simp
  | some x => exact h.get hx
theorem orI_small {x y : Int} (hx : 0 ≤ x ∧ x ≤ 65535) (hy : 0 ≤ y ∧ y ≤ 65535) : 0 ≤ orI x y ∧ orI x y ≤ 65535 := by
  have h := Nat.or_lt_two_pow (x := x.toNat) (y := y.toNat) (n := 16) (by omega) (by omega)
  unfold orI
  omega
theorem Small.set {xs : List Int} (h : Small xs) (i : Nat) {y : Int} (hy : 0 ≤ y ∧ y ≤ 65535) : Small (xs.set i y) := by
  intro x hx
  rcases List.mem_or_eq_of_mem_set hx with hx | rfl
  · exact h x hx
  · exact hy
theorem Small.step {xs : List Int} (h : Small xs) (k i : Nat) : Small (closeStep k xs i) := by
  unfold closeStep; split
  · exact h.set _ (orI_small (h.getD i) (h.getD k))
  · exact h
theorem Small.row {xs : List Int} (h : Small xs) (k i : Nat) : Small (closeRow xs k i) := by
  induction i with
  | zero => exact h
  | succ i ih => rw [closeRow_succ]; exact ih.step k i
theorem Small.to {xs : List Int} (h : Small xs) (k : Nat) : Small (closeTo xs k) := by
  induction k with
  | zero => exact h
  | succ k ih => rw [closeTo_succ]; exact ih.row k _
theorem Valid.small {r : Relation} (h : Valid r) : Small r.Rows := fun x hx => by
  obtain ⟨i, hi, rfl⟩ := List.getElem_of_mem hx
  exact h.mem (List.getElem?_eq_getElem hi)
theorem close_el {r : Relation} (h : Valid r) {k j i : Nat} {x : Int} (hx : (closeRow (closeTo r.Rows k) k j)[i]? = some x) : 0 ≤ x ∧ x ≤ 65535 := ((h.small.to k).row k j).get hx
theorem close_yes {xs : List Int} {k i : Nat} {x y : Int} (hx : xs[i]? = some x) (hy : xs[k]? = some y) (hb : (((((x.toNat >>> (k : Int).toNat : Nat) : Int)).toNat &&& (1 : Int).toNat : Nat) : Int) = 1) : closeStep k xs i = xs.set i ((x.toNat ||| y.toNat : Nat) : Int) := by
  unfold closeStep
  have e1 : xs.getD i 0 = x := by simp [hx]
  have e2 : xs.getD k 0 = y := by simp [hy]
  rw [e1, e2, if_pos (show bit x (k : Int) from bit_of hb)]; rfl
theorem close_no {xs : List Int} {k i : Nat} {x : Int} (hx : xs[i]? = some x) (hb : ¬ (((((x.toNat >>> (k : Int).toNat : Nat) : Int)).toNat &&& (1 : Int).toNat : Nat) : Int) = 1) : closeStep k xs i = xs := by
  unfold closeStep
  have e1 : xs.getD i 0 = x := by simp [hx]
  rw [e1, if_neg (show ¬ bit x (k : Int) from fun h => hb (of_bit h))]
theorem szd_closeR (r : Relation) : Sz.szd (closeR r) = Sz.szd r := by
  unfold closeR; split
  · show szL (closeTo r.Rows r.Rows.length) = szL r.Rows
    rw [szL_int, szL_int, closeTo_length]
  · rfl
theorem cnt_closeR (r : Relation) (h : Sz.szd r ≤ 1048576) : MkT.cntT (closeR r) ≤ 1048576 := cnt_r _ (by rw [szd_closeR]; exact h)
end Go.Proofs.Ytaenbhfjiihhnaa
namespace Go.Proofs.Ytaenbhfjiihhnaa
open Go Go.E
def loopR (r : Relation) : Bool := (List.range r.Rows.length).any fun i => decide (hasP (closeR r) (i : Int) (i : Int))
theorem loopR_yes {r : Relation} {k : Nat} (hk : k < r.Rows.length) (h : hasP (closeR r) (k : Int) (k : Int)) : loopR r = true := by
  unfold loopR; rw [List.any_eq_true]; exact ⟨k, List.mem_range.2 hk, decide_eq_true h⟩
theorem loopR_no {r : Relation} {k : Nat} (hk : r.Rows.length ≤ k) (h : ∀ i : Nat, i < k → ¬ hasP (closeR r) (i : Int) (i : Int)) : loopR r = false := by
  unfold loopR; rw [List.any_eq_false]; intro i hi
  have := List.mem_range.1 hi
  simpa using h i (by omega)
theorem loopR_bad {r : Relation} (h : ¬ Valid r) : loopR r = false := by
  refine loopR_no (Nat.le_refl _) fun i _ hp => h ?_
  have := hp.1
  unfold closeR at this
  rwa [if_neg h] at this
theorem closeR_N (r : Relation) : (closeR r).N = r.N := by unfold closeR; split <;> rfl
theorem closeR_length (r : Relation) : (closeR r).Rows.length = r.Rows.length := by
  unfold closeR; split
  · exact closeTo_length _ _
  · rfl
theorem no_step {p : Nat → Prop} {k : Nat} (h : ∀ i : Nat, i < k → ¬ p i) (hk : ¬ p k) : ∀ i : Nat, i < k + 1 → ¬ p i := fun i hi => by
  rcases Nat.lt_or_ge i k with h1 | h1
  · exact h i h1
  · obtain rfl : i = k := by omega
    exact hk
end Go.Proofs.Ytaenbhfjiihhnaa
namespace Go.Proofs.Ytaenbhfjiihhnaa
open Go Go.E
def cntK (l : List Step) (kind : Int) : Int := ((l.filter fun s => decide (s.Kind = kind)).length : Int)
def stepsCnt (l : List RulePlan) (kind : Int) : Int := (l.map fun p => cntK p.Steps kind).sum
theorem cntK_step {l : List Step} {j : Nat} {x : Step} {kind : Int} (hx : l[j]? = some x) : cntK (l.take (j + 1)) kind = cntK (l.take j) kind + if x.Kind = kind then 1 else 0 := by
  rw [take_snoc hx]
  simp only [cntK, List.filter_append, List.length_append]
  by_cases h : x.Kind = kind <;> simp [h]
theorem cntK_le (l : List Step) (j : Nat) (kind : Int) : 0 ≤ cntK (l.take j) kind ∧ cntK (l.take j) kind ≤ l.length := by
  have h1 := List.length_filter_le (fun s : Step => decide (s.Kind = kind)) (l.take j)
  have h2 : (l.take j).length ≤ l.length := by rw [List.length_take]; omega
  unfold cntK; omega
theorem cntK_full {l : List Step} {j : Nat} {kind : Int} (h : l.length ≤ j) : cntK (l.take j) kind = cntK l kind := by rw [List.take_of_length_le h]
theorem stepsCnt_step {l : List RulePlan} {k : Nat} {p : RulePlan} {kind : Int} (hp : l[k]? = some p) : stepsCnt (l.take (k + 1)) kind = stepsCnt (l.take k) kind + cntK p.Steps kind := by
  rw [take_snoc hp]; simp [stepsCnt]
theorem stepsCnt_full {l : List RulePlan} {k : Nat} {kind : Int} (h : l.length ≤ k) : stepsCnt (l.take k) kind = stepsCnt l kind := by rw [List.take_of_length_le h]
theorem stepsCnt_le (l : List RulePlan) (kind : Int) : 0 ≤ stepsCnt l kind ∧ stepsCnt l kind ≤ szL l := by
  induction l with
  | nil => simp [stepsCnt, szL]
  | cons p l ih =>
    have h1 := cntK_le p.Steps p.Steps.length kind
    rw [List.take_length] at h1
    have h2 := szL_length p.Steps
    have h3 := RulePlan_szd p
    simp only [stepsCnt, List.map_cons, List.sum_cons, szL] at ih ⊢
    omega
end Go.Proofs.Ytaenbhfjiihhnaa
namespace Go.Proofs.Ytaenbhfjiihhnaa
open Go Go.E
/-- does the q-th step read what the i-th gives? -/
def usesB (l : List TraceStep) (i q : Nat) : Bool := match l[i]?, l[q]? with
  | some a, some p => decide (a.At ∈ p.Inputs)
  | _, _ => false
/-- the last place below q, behind i, that reads what i gives; i if there is none -/
def lastTo (l : List TraceStep) (i : Nat) : Nat → Nat
  | 0 => i
  | q + 1 => if i < q ∧ usesB l i q = true then q else lastTo l i q
def lastUseR (l : List TraceStep) (i : Int) : Int := if 0 ≤ i ∧ i ≤ (l.length : Int) - 1 then (lastTo l i.toNat l.length : Int) else -1
theorem lastTo_low (l : List TraceStep) (i : Nat) : ∀ q, q ≤ i + 1 → lastTo l i q = i
  | 0, _ => rfl
  | q + 1, h => by rw [lastTo, if_neg (by omega), lastTo_low l i q (by omega)]
theorem lastTo_yes {l : List TraceStep} {i q : Nat} {a p : TraceStep} (ha : l[i]? = some a) (hp : l[q]? = some p) (hi : i < q) (h : a.At ∈ p.Inputs) : lastTo l i (q + 1) = q := by
  rw [lastTo, if_pos ⟨hi, by simp [usesB, ha, hp, h]⟩]
theorem lastTo_no {l : List TraceStep} {i q : Nat} {a p : TraceStep} (ha : l[i]? = some a) (hp : l[q]? = some p) (h : ¬ a.At ∈ p.Inputs) : lastTo l i (q + 1) = lastTo l i q := by
  rw [lastTo, if_neg (by simp [usesB, ha, hp, h])]
theorem ixF_nonneg {α : Type} [DecidableEq α] (l : List α) (y : α) : decide (0 ≤ ixF l y) = decide (y ∈ l) := by
  unfold ixF
  split
  · next h => simp [h]
  · next h => simp [h]
theorem lastTo_range (l : List TraceStep) (i : Nat) : ∀ q, lastTo l i q = i ∨ (i < lastTo l i q ∧ lastTo l i q < q)
  | 0 => .inl rfl
  | q + 1 => by
    rw [lastTo]
    split
    · exact .inr (by omega)
    · rcases lastTo_range l i q with h | h
      · exact .inl h
      · exact .inr (by omega)
end Go.Proofs.Ytaenbhfjiihhnaa
namespace Go.Proofs.Ytaenbhfjiihhnaa
open Go Go.E
def stepsR (l : List RulePlan) (rule : ByteArray) : List Step := match l.find? (fun p => decide (p.Rule = rule)) with
  | some p => p.Steps
  | none => []
theorem take_ne_step {l : List RulePlan} {k : Nat} {p : RulePlan} {rule : ByteArray} (h : ∀ p ∈ l.take k, ¬ p.Rule = rule) (hp : l[k]? = some p) (hn : ¬ p.Rule = rule) : ∀ p ∈ l.take (k + 1), ¬ p.Rule = rule := by
  rw [take_snoc hp]
  intro q hq
  rcases List.mem_append.1 hq with hq | hq
  · exact h q hq
  · simp at hq; subst hq; exact hn
theorem stepsR_found {l : List RulePlan} {k : Nat} {p : RulePlan} {rule : ByteArray} (h : ∀ p ∈ l.take k, ¬ p.Rule = rule) (hp : l[k]? = some p) (he : p.Rule = rule) : stepsR l rule = p.Steps := by
  have hk : k < l.length := (List.getElem?_eq_some_iff.1 hp).1
  have hs : l = l.take k ++ p :: l.drop (k + 1) := by
    conv => lhs; rw [← List.take_append_drop k l]
    rw [List.drop_eq_getElem_cons hk]
    congr 2
    exact (List.getElem?_eq_some_iff.1 hp).2
  have h0 : (l.take k).find? (fun p => decide (p.Rule = rule)) = none := by
    rw [List.find?_eq_none]; intro q hq; simpa using h q hq
  unfold stepsR
  rw [hs, List.find?_append, h0]
  simp [he]
theorem stepsR_none {l : List RulePlan} {k : Nat} {rule : ByteArray} (h : ∀ p ∈ l.take k, ¬ p.Rule = rule) (hk : l.length ≤ k) : stepsR l rule = [] := by
  rw [List.take_of_length_le hk] at h
  have h0 : l.find? (fun p => decide (p.Rule = rule)) = none := by
    rw [List.find?_eq_none]; intro q hq; simpa using h q hq
  unfold stepsR; rw [h0]
theorem stepsR_szL (l : List RulePlan) (rule : ByteArray) : szL (stepsR l rule) ≤ szL l := by
  unfold stepsR
  cases h : l.find? (fun p => decide (p.Rule = rule)) with
  | none => simp [szL]
  | some p =>
    obtain ⟨i, hi, e⟩ := List.getElem_of_mem (List.mem_of_find?_eq_some h)
    have h1 := szL_get (xs := l) (i := i) (x := p) (by rw [List.getElem?_eq_getElem hi, e])
    have h2 := RulePlan_szd p
    simp only; omega
end Go.Proofs.Ytaenbhfjiihhnaa
namespace Go.Proofs.Ytaenbhfjiihhnaa
open Go Go.E
theorem cntS_le : ∀ xs : List Step, cntL xs ≤ 4 * szL xs
  | [] => by simp [cntL]
  | x :: xs => by
    have h := cntS_le xs
    have h1 : Mk.cnt x = 4 := rfl
    simp only [cntL, szL]; omega
theorem cntP_le : ∀ xs : List RulePlan, cntL xs ≤ 4 * szL xs
  | [] => by simp [cntL]
  | x :: xs => by
    have h := cntP_le xs
    have h1 : Mk.cnt x = 1 + cntL x.Steps := rfl
    have h2 := cntS_le x.Steps
    have h3 := RulePlan_szd x
    simp only [cntL, szL]; omega
theorem cnt_steps (l : List RulePlan) (rule : ByteArray) (h : szL l ≤ 1048576) : cntL (stepsR l rule) ≤ 4194304 := by
  have h1 := cntS_le (stepsR l rule)
  have h2 := stepsR_szL l rule
  omega
theorem cnt_plans (l : List RulePlan) (h : szL l ≤ 1048576) : cntL l ≤ 4194304 := by
  have h1 := cntP_le l
  omega
end Go.Proofs.Ytaenbhfjiihhnaa
