/- What those partial functions come to: plain lemmas on data; each bears its conditions in its statement. -/
import Derived.Test.YtonnooljidombaaMathMN
set_option linter.unusedVariables false
set_option linter.unusedSimpArgs false
set_option linter.ambiguousOpen false
set_option linter.unusedSectionVars false
set_option linter.unnecessarySimpa false
set_option linter.unusedVariables false
set_option linter.unusedSimpArgs false
namespace Go.Proofs.Ytonnooljidombaa
open Go Go.E
/-! ### the law FnMonotone -/
theorem at0_ok {a : List UInt8} (h : a.length ≤ 1048576) (k : Nat) (hk : k ≤ 1099511627776) : ∃ v : Int, wat0_m a (k : Int) = some v ∧ 0 ≤ v ∧ v ≤ 255 := by
  unfold wat0_m
  by_cases hl : (k : Int) < (a.length : Int)
  · obtain ⟨x, hx⟩ : ∃ x, a[k]? = some x := ⟨_, List.getElem?_eq_getElem (by omega)⟩
    rw [if_pos hl, grd_pos (by omega), Int.toNat_natCast, hx]
    have := x.toNat_lt
    exact ⟨_, rfl, by omega, by omega⟩
  · rw [if_neg hl, grd_pos (by constructor <;> omega), grd_pos (by constructor <;> omega)]
    have := tmod_lt (y := (k : Int) * 7 + (a.length : Int)) (n := 256) (by omega) (by omega)
    exact ⟨_, rfl, this.1, by omega⟩
/-- the two rows of slots: the values, and what is more in the second -/
theorem mono_run {a : List UInt8} (ha : a.length ≤ 1048576) {l : List Occurrence} : ∀ (us : List Occurrence) (i : Nat) (s t : List Slot), i + us.length ≤ 1099511627776 → s.length + us.length ≤ 1000000 → t.length + us.length ≤ 1000000 → us.Nodup →
    ∃ V W : Occurrence → Int, eachL (wFnMonotone_L1 a l) i us (s, t) = some (s ++ us.map (fun o => (⟨o, V o⟩ : Slot)), t ++ us.map (fun o => (⟨o, W o⟩ : Slot))) ∧
      ∀ o ∈ us, 0 ≤ V o ∧ V o ≤ 4095 ∧ 0 ≤ W o ∧ W o ≤ 4095 ∧ (o ∉ l → V o = W o) ∧ ∃ c : Nat, (W o).toNat = (V o).toNat ||| c
  | [], i, s, t, _, _, _, _ => ⟨fun _ => 0, fun _ => 0, by simp [eachL], by simp⟩
  | o :: us, i, s, t, hi, hs, ht, hn => by
    simp only [List.length_cons] at hi hs ht
    rw [List.nodup_cons] at hn
    obtain ⟨v, h1, h2, h3⟩ := at0_ok ha i (by omega)
    obtain ⟨q, h4, h5, h6⟩ := at0_ok ha (i + 1) (by omega)
    have hm := tmod_lt (y := v * 16) (n := 4096) (by omega) (by omega)
    obtain ⟨w, hstep, w0, w1, w2, w3⟩ : ∃ w : Int, wFnMonotone_L1 a l i o (s, t) = some (s ++ [⟨o, (v * 16).tmod 4096⟩], t ++ [⟨o, w⟩]) ∧ 0 ≤ w ∧ w ≤ 4095 ∧ (o ∉ l → (v * 16).tmod 4096 = w) ∧ ∃ c : Nat, w.toNat = ((v * 16).tmod 4096).toNat ||| c := by
      have g1 : ((s.length : Int) + 1) * 32 ≤ 140737488355328 ∧ (s.length : Int) + 1 ≤ 9223372036854775807 := by constructor <;> omega
      have g2 : ((t.length : Int) + 1) * 32 ≤ 140737488355328 ∧ (t.length : Int) + 1 ≤ 9223372036854775807 := by constructor <;> omega
      unfold wFnMonotone_L1
      dsimp only
      rw [h1, Option.bind_some, grd_pos (by constructor <;> omega), occIx_has, Option.bind_some]
      by_cases hl : o ∈ l
      · rw [if_pos (by simpa using hl), h4, Option.bind_some, grd_pos ⟨hm.1, h5⟩]
        have := bit_or ((v * 16).tmod 4096).toNat q.toNat (by omega) (by omega)
        refine ⟨((((v * 16).tmod 4096).toNat ||| q.toNat : Nat) : Int), ?_, Int.natCast_nonneg _, by omega, fun h => absurd hl h, q.toNat, by rw [Int.toNat_natCast]⟩
        first
          | rw [grd_pos g1, grd_pos g2]; rfl
          | rw [Option.bind_some, grd_pos g1, grd_pos g2]
      · rw [if_neg (by simpa using hl)]
        refine ⟨(v * 16).tmod 4096, ?_, hm.1, by omega, fun _ => rfl, 0, by simp⟩
        first
          | rw [grd_pos g1, grd_pos g2]; rfl
          | rw [Option.bind_some, grd_pos g1, grd_pos g2]
    obtain ⟨V, W, e, hVW⟩ := mono_run ha (l := l) us (i + 1) (s ++ [⟨o, (v * 16).tmod 4096⟩]) (t ++ [⟨o, w⟩]) (by omega) (by simp; omega) (by simp; omega) hn.2
    refine ⟨fun x => if x = o then (v * 16).tmod 4096 else V x, fun x => if x = o then w else W x, ?_, fun x hx => ?_⟩
    · rw [eachL]
      rw [hstep, Option.bind_some, e]
      have m1 : us.map (fun x => (⟨x, if x = o then (v * 16).tmod 4096 else V x⟩ : Slot)) = us.map (fun x => (⟨x, V x⟩ : Slot)) := List.map_congr_left fun x hx => by rw [if_neg fun (e : x = o) => hn.1 (e ▸ hx)]
      have m2 : us.map (fun x => (⟨x, if x = o then w else W x⟩ : Slot)) = us.map (fun x => (⟨x, W x⟩ : Slot)) := List.map_congr_left fun x hx => by rw [if_neg fun (e : x = o) => hn.1 (e ▸ hx)]
      simp only [List.map_cons, if_true, m1, m2, List.append_assoc, List.singleton_append]
    · by_cases hxo : x = o
      · subst hxo
        simp only [if_true]
        exact ⟨hm.1, by omega, w0, w1, w2, w3⟩
      · simp only [if_neg hxo]
        exact hVW x (by rcases List.mem_cons.1 hx with h | h; exact absurd h hxo; exact h)
theorem slot_map {us : List Occurrence} {V : Occurrence → Int} {o : Occurrence} (ho : o ∈ us) : slotV (us.map fun o => (⟨o, V o⟩ : Slot)) o = V o := by
  induction us with
  | nil => simp at ho
  | cons x us ih =>
    unfold slotV at ih ⊢
    by_cases h : x = o
    · rw [List.map_cons, List.find?_cons_of_pos (by simpa using h), h]
    · rw [List.map_cons, List.find?_cons_of_neg (by simpa using h)]
      exact ih (by rcases List.mem_cons.1 ho with e | e; exact absurd e.symm h; exact e)
theorem sub_zero {x y : Int} (h0 : 0 ≤ x) (h1 : x ≤ 4095) (k0 : 0 ≤ y) (k1 : y ≤ 4095) (h : subS x y) : goAndNot x y = 0 := by
  obtain ⟨g0, g1, g2⟩ := goAndNot_eq h0 h1 k0 k1
  have : (goAndNot x y).toNat = 0 := by
    apply Nat.eq_of_testBit_eq
    intro i
    rw [g2, Nat.zero_testBit]
    have hi := h i
    unfold bitS at hi
    rw [goAnd_id h0 h1, goAnd_id k0 k1] at hi
    cases hb : x.toNat.testBit i with
    | false => rfl
    | true => rw [hi hb]; rfl
  omega
theorem monotone_true (a : List UInt8) : wFnMonotone_m a = some true := by
  unfold wFnMonotone_m wbig_m
  rw [Option.bind_some]
  by_cases hb : (1048576 : Int) < (a.length : Int)
  · rw [if_pos (by simpa using hb)]
  rw [if_neg (by simpa using hb)]
  have hb' : a.length ≤ 1048576 := by omega
  obtain ⟨⟨e, l⟩, h1, h2⟩ := drawUses_ok hb'
  dsimp only at h2
  have hs : Sz.szd e ≤ 1048576 := by omega
  have he : cntE e ≤ 1099511627776 := by have := cnt_of hb' h2; omega
  have h1' : sDrawIsMonotone_m a = some (e, l) := by unfold sDrawIsMonotone_m; rw [h1]; rfl
  have hal : (attrs e).length ≤ 100000 := by
    have h1 := attrs_len (e := e)
    have h2 := usesE_len e
    have h3 : Expr_szf e = Sz.szd e := rfl
    omega
  rw [h1', Option.bind_some]
  dsimp only
  rw [iMono_eq hs, Option.bind_some, sMono_eq hs, Option.bind_some, if_pos rfl, iUses_eq hs, Option.bind_some, sUses_eq, Option.bind_some, if_pos rfl, sAttr_eq hs, Option.bind_some]
  obtain ⟨V, W, hrun, hVW⟩ := mono_run hb' (l := l) (attrs e) 0 [] [] (by omega) (by simp; omega) (by simp; omega) ((attrs_strict e).imp fun {x y} h e => by subst e; rw [lessO_swo.irrefl] at h; cases h)
  rw [hrun, Option.bind_some]
  dsimp only
  rw [List.nil_append, List.nil_append, sEval_eq he, Option.bind_some, sEval_eq he, Option.bind_some]
  generalize hlow : ((attrs e).map fun o => (⟨o, V o⟩ : Slot)) = low
  generalize hhigh : ((attrs e).map fun o => (⟨o, W o⟩ : Slot)) = high
  have sl : ∀ o ∈ usesE e, slotV low o = V o ∧ slotV high o = W o ∧ o ∈ attrs e := fun o ho => by
    have h := mem_attrs.2 ho
    rw [← hlow, ← hhigh]
    exact ⟨slot_map h, slot_map h, h⟩
  have key : monoE l e = true → usesB e l = true → e.Kind ≠ 5 → goAndNot (evalV e low 3 [1]) (evalV e high 3 [1]) = 0 := fun hm hu h5 => by
    unfold evalV
    by_cases hv : validB e = true
    case neg => rw [if_neg hv, if_neg hv]; decide
    rw [if_pos hv, if_pos hv]
    have hall := valid_all hv
    have hsub := mono_sub (l := l) (s := low) (s' := high) (lit := 3) (ids := [1]) e hall hm (fun o ho hl => by
      obtain ⟨h1, h2, h3⟩ := sl o ho
      rw [h1, h2]; exact (hVW o h3).2.2.2.2.1 hl) fun o ho => by
      obtain ⟨h1, h2, h3⟩ := sl o ho
      obtain ⟨v0, v1, w0, w1, _, c, hc⟩ := hVW o h3
      rw [h1, h2]
      intro i hi
      unfold bitS at hi ⊢
      rw [goAnd_id v0 v1] at hi
      rw [goAnd_id w0 w1, hc, Nat.testBit_or, hi]; rfl
    by_cases h3 : e.Kind = 3
    · have hu : (⟨e.Pos, e.Name⟩ : Occurrence) ∈ usesE e := by rw [usesE_eq, if_pos h3]; simp
      obtain ⟨a1, a2, a3⟩ := sl _ hu
      obtain ⟨v0, v1, w0, w1, _, _⟩ := hVW _ a3
      have e1 : evalE low 3 [1] e = V ⟨e.Pos, e.Name⟩ := by rw [evalE_eq, if_neg (by omega), if_neg (by omega), if_pos h3, a1]
      have e2 : evalE high 3 [1] e = W ⟨e.Pos, e.Name⟩ := by rw [evalE_eq, if_neg (by omega), if_neg (by omega), if_pos h3, a2]
      rw [e1, e2] at hsub ⊢
      exact sub_zero v0 v1 w0 w1 hsub
    · rw [monoE_eq, if_neg (by simp [hu, h3]), if_neg (fun q => h5 q.1)] at hm
      by_cases h4 : e.Kind = 4 ∧ (e.Args.length : Int) = 2
      · rw [if_pos h4] at hm
        have hN : e.N = 6 ∨ e.N = 7 ∨ e.N = 8 ∨ e.N = 12 := by
          by_cases n67 : e.N = 6 ∨ e.N = 7
          · omega
          · rw [if_neg n67] at hm
            by_cases n812 : e.N = 8 ∨ e.N = 12
            · omega
            · rw [if_neg n812] at hm; cases hm
        have ev : ∀ s, 0 ≤ evalE s 3 [1] e ∧ evalE s 3 [1] e ≤ 4095 := fun s => by
          rw [evalE_eq, if_neg (by omega), if_neg (by omega), if_neg h3, if_pos h4.1]
          have := opS (n := e.N) (a := (e.Args.map (evalE s 3 [1])).getD 0 0) (b := (e.Args.map (evalE s 3 [1])).getD 1 0) hN
          exact ⟨this.1, this.2.1⟩
        exact sub_zero (ev low).1 (ev low).2 (ev high).1 (ev high).2 hsub
      · rw [if_neg h4] at hm; cases hm
  generalize evalV e low 3 [1] = x at key ⊢
  generalize evalV e high 3 [1] = y at key ⊢
  generalize hS : (if e.Kind = 4 then (if 6 ≤ e.N then some (decide (e.N ≤ 8)) else some false).bind fun s6 => some s6 else some true) = S
  obtain ⟨b, hb⟩ : ∃ b, S = some b := by
    rw [← hS]
    split
    · split <;> exact ⟨_, rfl⟩
    · exact ⟨_, rfl⟩
  rw [hb, Option.bind_some]
  generalize hT : (if b = true then some true else some (decide (e.N = 12))) = T
  obtain ⟨c, hc⟩ : ∃ c, T = some c := by
    rw [← hT]; split <;> exact ⟨_, rfl⟩
  rw [hc, Option.bind_some]
  cases hm : monoE l e with
  | false => rfl
  | true =>
    cases hu : usesB e l with
    | false => cases c <;> rfl
    | true =>
      by_cases h5 : e.Kind = 5
      · cases c <;> simp [h5]
      · have := key hm hu h5
        cases c <;> simp [h5, this]
end Go.Proofs.Ytonnooljidombaa

