/- A small engine for walks through a Go program: plain lemmas on the model, without conditions of their own. -/
import Derived.Test.YtonnooljidombaaEngC
import Derived.Sort.Grow
import Derived.Deep.Draws
import Derived.Shelf.GgSortFunc.RowK
import Derived.OrdersHeld
import Derived.Laws.CopyRow
import Derived.Laws.IdiomCopy
set_option linter.unusedVariables false
set_option linter.unusedSimpArgs false
set_option linter.ambiguousOpen false
set_option linter.unusedSectionVars false
set_option linter.unnecessarySimpa false
/- A small engine for walks, second series, part 18: regions in any order, over any relation between worlds; worlds that have only grown. Plain theorems; nothing here speaks of one program. -/
namespace Go.E
open Go
section
variable {P : Program} {n : Nat} {Q : Post} {ρ : Env} {w : World} {ops : Array Oper} {o : Oper} {rest : List Oper} {C : World → Prop} {F : Env → Prop} {R : World → World → Prop}
/-- a region whose operations each give one value in every world of C: the walk in the order of the text -/
def QC (R : World → World → Prop) (P : Program) (n : Nat) (ops : Array Oper) (C : World → Prop) (F : Env → Prop) : List Oper → Env → Prop
  | [], ρ => F ρ
  | o :: rest, ρ => ∃ v, (∀ w, C w → OpQ P ops (R w) o ρ w v) ∧ QC R P n ops C F rest (E.put ρ o.dst v)
theorem QC.nil (h : F ρ) : QC R P n ops C F [] ρ := h
theorem QC.ev {v : Value} {d : Nat} (hg : o.guard = none) (hd : o.dst = some d) (he : ∀ w, C w → Ev P ρ o w v) (h : QC R P n ops C F rest (upd ρ d v)) : QC R P n ops C F (o :: rest) ρ :=
  ⟨v, fun w hw => .inl ⟨by simp [gate, hg], by rw [he w hw]; exact ⟨rfl, rfl⟩⟩, by rw [hd]; exact h⟩
theorem QC.on (_hG : okGuards n ops = true) (hg : gate ops ρ o = true) (h : QC R P n ops C F ({ o with guard := none } :: rest) ρ) : QC R P n ops C F (o :: rest) ρ := by
  obtain ⟨v, h1, h2⟩ := h
  refine ⟨v, fun w hw => .inl ⟨hg, ?_⟩, h2⟩
  rcases h1 w hw with h3 | h3
  · exact h3.2
  · exact absurd h3.1 (by simp [gate])
theorem QC.off {d : Nat} (_hG : okGuards n ops = true) (hg : gate ops ρ o = false) (hd : o.dst = some d) (h : QC R P n ops C F rest (upd ρ d undef)) : QC R P n ops C F (o :: rest) ρ :=
  ⟨undef, fun _ _ => .inr ⟨hg, rfl⟩, by rw [hd]; exact h⟩
/-- a call that gives the same value in every world of C -/
theorem QC.call {c : Call} {f : FuncId} {x : Operand} {caps : Array Value} {args : List Value} {v : Value} {d : Nat} (hg : o.guard = none) (hd : o.dst = some d) (ho : o.op = .call c) (hx : c.callee = .value x) (hf : E.ev ρ x = .func (.func f) #[] caps)
    (hc : callable P f = true) (ha : c.args.toList.map (E.ev ρ) ++ caps.toList = args) (hr : ∀ w, C w → Ret P f args.toArray w (fun _ => False) fun u w' => u = v ∧ R w w')
    (h : QC R P n ops C F rest (upd ρ d v)) : QC R P n ops C F (o :: rest) ρ := by
  refine ⟨v, fun w hw => .inl ⟨by simp [gate, hg], ?_⟩, by rw [hd]; exact h⟩
  simp only [execOp, ho]
  rw [run_call hx hf hc ha]
  exact ⟨rfl, Calls.mono (hr w hw) fun _ _ ⟨_, he, _, hv, hch⟩ => ⟨by rw [he, hv], hch⟩⟩
/-- what is asked of each operation of the head -/
def stepsC (R : World → World → Prop) (P : Program) (n : Nat) (ops : Array Oper) (h : Nat) (D : Nat → List Nat) (Ψ : Nat → List Value → World → Prop) (ρ : Env) (w : World) : Nat → List Oper → Prop
  | _, [] => True
  | i, o :: l => (∀ ρ' w', R w w' → (∀ t, (∀ j, j < h → dstOf ops j ≠ some t) → ρ' t = ρ t) → (∀ j, (directs o).contains j = true → Ψ j ((D j).map ρ') w') →
      OpW P n ops o ρ' w' (fun v w'' => R w' w'' ∧ Ψ i ((D i).map (E.put ρ' o.dst v)) w'')) ∧ stepsC R P n ops h D Ψ ρ w (i + 1) l

theorem stepsC.get {h : Nat} {D : Nat → List Nat} {Ψ : Nat → List Value → World → Prop} : ∀ (l : List Oper) (k i : Nat) (o : Oper), stepsC R P n ops h D Ψ ρ w k l → l[i]? = some o →
    (∀ ρ' w', R w w' → (∀ t, (∀ j, j < h → dstOf ops j ≠ some t) → ρ' t = ρ t) → (∀ j, (directs o).contains j = true → Ψ j ((D j).map ρ') w') →
      OpW P n ops o ρ' w' (fun v w'' => R w' w'' ∧ Ψ (k + i) ((D (k + i)).map (E.put ρ' o.dst v)) w''))
  | [], _, _, _, _, hh => by simp at hh
  | x :: l, k, 0, o, hs, hh => by simp at hh; subst hh; exact hs.1
  | x :: l, k, i + 1, o, hs, hh => by
    have := stepsC.get l (k + 1) i o hs.2 (by simpa using hh)
    rwa [Nat.add_right_comm] at this

/-- the state of the walk through an open order -/
structure InvC (R : World → World → Prop) (n : Nat) (ops : Array Oper) (h : Nat) (D : Nat → List Nat) (Ψ : Nat → List Value → World → Prop) (ρ0 : Env) (w0 : World) (listed : Array Bool) (ρ : Env) (w : World) : Prop where
  head : HeadInv .any ops h listed
  ext : R w0 w
  out : ∀ t, (∀ j, j < h → dstOf ops j ≠ some t) → ρ t = ρ0 t
  known : ∀ j, j < h → listed.getD j false = true → Ψ j ((D j).map ρ) w

section loose
variable {h : Nat} {D : Nat → List Nat}
theorem CW.looseC {id : Nat} (h : Nat) (D : Nat → List Nat) (Ψ : Nat → List Value → World → Prop) (hm : P.follows .mixedOrders = true) (hB : looseB ops h D = true)
    (htrans : ∀ {a b c}, R a b → R b c → R a c) (hdraw : ∀ w, R w { w with drawn := w.drawn + 1 })
    (hext : ∀ i vs w w', Ψ i vs w → R w w' → Ψ i vs w')
    (hstep : stepsC R P n ops h D Ψ ρ w 0 (ops.toList.take h))
    (hend : ∀ ρ' w', R w w' → (∀ t, (∀ j, j < h → dstOf ops j ≠ some t) → ρ' t = ρ t) → (∀ j, j < h → Ψ j ((D j).map ρ') w') → WL P n ops Q (ops.toList.drop h) ρ' w') : CW P n (.region id ops true) Q ρ w := by
  intro hok a ha
  have hok' : ops.toList.all (okOper n) = true := by simpa [okCode] using hok
  refine wp_region_any hm ?_
  have hB' := hB
  simp only [looseB, Bool.and_eq_true] at hB'
  have hle : h ≤ ops.size := by simpa using hB'.1.1.1
  have hseq := hB'.2
  -- when the head is through
  have done : ∀ (listed : Array Bool) (ρ' : Env) (a : Act) (w' : World), InvC R n ops h D Ψ ρ w listed ρ' w' → Rel n ρ' a → (∀ j, j < h → listed.getD j false = true) → wpAny P .any ops (lift n Q) (ops.size - h) listed a w' := by
    intro listed ρ' a w' inv hr hall
    have hlisted : listed = Array.replicate h true ++ Array.replicate (ops.size - h) false := by
      apply Array.ext
      · simp [inv.head.size]; omega
      · intro i h1 h2
        by_cases hi : i < h
        · have := hall i hi
          simp [h1] at this
          rw [this, Array.getElem_append_left (by simpa using hi)]
          simp
        · have := inv.head.tail i (by omega) (by rw [← inv.head.size]; exact h1)
          simp [h1] at this
          rw [this, Array.getElem_append_right (by simpa using Nat.le_of_not_lt hi)]
          simp
    subst hlisted
    have hw := hend ρ' w' inv.ext inv.out (fun j hj => inv.known j hj (hall j hj)) (by
      refine List.all_eq_true.2 fun o ho => List.all_eq_true.1 hok' o (List.mem_of_mem_drop ho)) a hr
    have hlen : (ops.toList.drop h).length = ops.size - h := by simp
    have := wpAny_of_seq (P := P) (md := .any) (ops := ops) (Q' := lift n Q) (ops.toList.drop h) h (Array.replicate h true ++ Array.replicate (ops.size - h) false) a w'
      (fun j => by simp [List.getElem?_drop]) (by rw [hlen]; exact hseq) hw
    rwa [hlen] at this
  have main : ∀ (c : Nat) (listed : Array Bool) (ρ' : Env) (a : Act) (w' : World), ((List.range h).filter (fun j => !listed.getD j false)).length = c → InvC R n ops h D Ψ ρ w listed ρ' w' → Rel n ρ' a →
      wpAny P .any ops (lift n Q) (c + (ops.size - h)) listed a w' := by
    intro c
    induction c with
    | zero =>
      intro listed ρ' a w' hc inv hr
      rw [Nat.zero_add]
      refine done listed ρ' a w' inv hr fun j hj => ?_
      have h0 : (List.range h).filter (fun j => !listed.getD j false) = [] := List.eq_nil_of_length_eq_zero hc
      have := List.filter_eq_nil_iff.1 h0 j (List.mem_range.2 hj)
      simpa using this
    | succ c ih =>
      intro listed ρ' a w' hc inv hr
      have hex : ∃ j, j < h ∧ listed.getD j true = false := by
        have : ((List.range h).filter (fun j => !listed.getD j false)) ≠ [] := fun e => by rw [e] at hc; simp at hc
        obtain ⟨j, hj⟩ := List.exists_mem_of_ne_nil _ this
        rw [List.mem_filter, List.mem_range] at hj
        exact ⟨j, hj.1, getD_in (by rw [inv.head.size]; omega) (by simpa using hj.2)⟩
      obtain ⟨j0, hj0, hl0⟩ := hex
      obtain ⟨i0, hi0, _⟩ := ready_of_unlisted hB inv.head.size j0 j0 (Nat.le_refl _) (by omega) hl0
      rw [show c + 1 + (ops.size - h) = (c + (ops.size - h)) + 1 by omega]
      refine ⟨fun h0 => (by rw [h0] at hi0; cases hi0), fun i hi => ?_⟩
      have hih : i < h := by
        rcases Nat.lt_or_ge i h with hlt | hge
        · exact hlt
        · exfalso
          obtain ⟨_, oi, hoi, _⟩ := mem_ready.1 hi
          have hlt : i < ops.size := (Array.getElem?_eq_some_iff.1 hoi).1
          have hsc : Region.sinkB .any ops h = true ∧ Region.chainB .any ops h = true := by
            have h3 := hB'.1.2
            simp only [Bool.or_eq_true, Bool.and_eq_true] at h3
            rcases h3 with h3 | h3
            · have := Nat.eq_of_beq_eq_true h3; omega
            · exact h3
          exact tail_waits hsc.1 hsc.2 (by omega) inv.head _ j0 rfl hj0 hl0 i hge hi
      obtain ⟨hun, o, ho, hall⟩ := mem_ready.1 hi
      have hmem : o ∈ ops.toList := by rw [Array.mem_toList_iff]; exact Array.mem_of_getElem? ho
      have hoko : okOper n o = true := List.all_eq_true.1 hok' o hmem
      have hguards : okGuards n ops = true := by
        refine List.all_eq_true.2 fun o' ho' => ?_
        have := List.all_eq_true.1 hok' o' ho'
        simp only [okOper, Bool.and_eq_true] at this
        exact this.1.1
      have hst := stepsC.get (ops.toList.take h) 0 i o hstep (by rw [List.getElem?_take, if_pos hih]; simpa using ho) ρ' w' inv.ext inv.out (fun j hj => by
        have hjd : j ∈ directs o := by simpa using hj
        obtain ⟨e, he, hb, rfl⟩ := mem_directs.1 hjd
        have := looseB_back hB ho _ hjd
        exact inv.known _ (by omega) (hall e he hb))
      rw [Nat.zero_add] at hst
      -- what holds when it has been carried out
      have next : ∀ v w'', (R w' w'' ∧ Ψ i ((D i).map (E.put ρ' o.dst v)) w'') → wpAny P .any ops (lift n Q) (c + (ops.size - h)) (listed.setIfInBounds i true) (a.put o.dst v) w'' := by
        intro v w'' ⟨hx, hΨ⟩
        have hi_size : i < listed.size := by rw [inv.head.size]; omega
        have hi_un : listed.getD i false = false := getD_both hun
        refine ih _ (E.put ρ' o.dst v) _ _ ?_ ⟨inv.head.set hi hih, htrans inv.ext hx, fun t ht => ?_, fun j hj hl => ?_⟩ (hr.put _ _)
        · have hcount : ∀ (l : List Nat), l.Nodup → i ∈ l → (l.filter (fun j => !listed.getD j false)).length = (l.filter (fun j => !(listed.setIfInBounds i true).getD j false)).length + 1 := by
            intro l
            induction l with
            | nil => intro _ h; cases h
            | cons x l ihl =>
              intro hnd hmem
              rw [List.nodup_cons] at hnd
              by_cases hx : x = i
              · subst hx
                have hsame : l.filter (fun j => !listed.getD j false) = l.filter (fun j => !(listed.setIfInBounds x true).getD j false) :=
                  List.filter_congr fun y hy => by
                    have hne : x ≠ y := fun e => hnd.1 (by rw [e]; exact hy)
                    rw [getD_set_ne false hne]
                have hset : (listed.setIfInBounds x true).getD x false = true := by simp [hi_size]
                rw [List.filter_cons, List.filter_cons, if_pos (by rw [hi_un]; rfl), if_neg (by rw [hset]; decide), hsame, List.length_cons]
              · have hmem' : i ∈ l := by rcases List.mem_cons.1 hmem with h | h; exact absurd h.symm hx; exact h
                have := ihl hnd.2 hmem'
                rw [List.filter_cons, List.filter_cons, getD_set_ne false (Ne.symm hx)]
                split
                · rw [List.length_cons, List.length_cons, this]
                · exact this
          have := hcount (List.range h) List.nodup_range (List.mem_range.2 hih)
          omega
        · cases hd : o.dst with
          | none => exact inv.out t ht
          | some d =>
            have hne : t ≠ d := fun e => ht i hih (by unfold dstOf; rw [ho]; simp [hd, e])
            show upd ρ' d v t = ρ t
            rw [upd_other _ _ hne]
            exact inv.out t ht
        · by_cases hji : j = i
          · subst hji; exact hΨ
          · rw [getD_set_ne false (Ne.symm hji)] at hl
            have hkn := hext j _ _ _ (inv.known j hj hl) hx
            obtain ⟨oj, hoj⟩ : ∃ oj, ops[j]? = some oj := ⟨ops[j]'(by omega), by rw [Array.getElem?_eq_getElem (by omega)]⟩
            have hnot : ∀ t, o.dst = some t → t ∉ D j := fun t ht hmemt => by
              have hdi : dstOf ops i = some t := by unfold dstOf; rw [ho]; exact ht
              have h5 := (looseB_apart hB hoj hdi (Ne.symm hji)).1 hmemt
              obtain ⟨e, he, hb, hon⟩ := mem_directs.1 h5
              have := inv.head.closed j oj hoj hl e he hb
              rw [hon, hi_un] at this
              cases this
            rw [map_put_other hnot]
            exact hkn
      unfold wpOp
      simp only [ho]
      rw [gate_wanted hguards hr]
      rcases hst with ⟨hg, hop⟩ | ⟨hg, hR⟩
      · rw [if_pos hg]
        exact .inl (hop a _ _ hr hoko next)
      · rw [if_neg (by rw [hg]; decide)]
        exact next undef w' hR
  have h0 : InvC R n ops h D Ψ ρ w (Array.replicate ops.size false) ρ { w with drawn := w.drawn + 1 } := by
    refine ⟨⟨by simp, fun j oj _ hl => ?_, fun t _ ht => by simp [ht]⟩, hdraw w, fun _ _ => rfl, fun j _ hl => ?_⟩
    · rw [getD_replicate_false] at hl; cases hl
    · rw [getD_replicate_false] at hl; cases hl
  have hc0 : ((List.range h).filter (fun j => !(Array.replicate ops.size false).getD j false)).length = h := by
    rw [List.filter_eq_self.2 (fun j _ => by rw [getD_replicate_false]; rfl)]
    simp
  have := main h _ ρ a _ hc0 h0 ha
  rwa [show h + (ops.size - h) = ops.size by omega] at this

theorem OpQ.opC {o : Oper} {v : Value} (hrefl : ∀ w, R w w) (h : OpQ P ops (R w) o ρ w v) {S : Value → World → Prop} (hR : ∀ w', R w w' → S v w') : OpW P n ops o ρ w S := by
  rcases h with ⟨hg, h⟩ | ⟨hg, rfl⟩
  · refine .inl ⟨hg, fun a K Q' ha hok hK => ?_⟩
    unfold Oper.wp
    rw [execOp_ev ha hok]
    generalize (execOp (E.ev ρ) o).run P w = r at h
    cases r with
    | ok x w' =>
      cases x <;> simp only [Oper.quietUpon] at h <;> simp only [Oper.upon]
      case value u =>
        obtain ⟨e1, e2⟩ := h
        subst e1; subst e2
        exact hK _ _ (hR _ (hrefl _))
      case skip =>
        obtain ⟨e1, e2⟩ := h
        subst e1; subst e2
        exact hK _ _ (hR _ (hrefl _))
      case enter f args =>
        obtain ⟨e1, hc⟩ := h
        subst e1
        exact hc.mono fun e w'' ⟨he, hw''⟩ => by subst he; exact hK _ _ (hR _ hw'')
    | halt x w' => simp only [Oper.quietUpon] at h
  · exact .inr ⟨hg, hR _ (hrefl _)⟩
theorem QC.vals : ∀ (l : List Oper) (k : Nat) (ρ : Env), (∀ j, l[j]? = if j < l.length then ops[k + j]? else none) → (∀ i j, i < j → j < k + l.length → ∀ t, dstOf ops i = some t → dstOf ops j ≠ some t) → QC R P n ops C F l ρ →
    ∃ (vs : Nat → Value) (ρe : Env), F ρe ∧ (∀ t, (∀ j, k ≤ j → j < k + l.length → dstOf ops j ≠ some t) → ρe t = ρ t) ∧
      ∀ j o, k ≤ j → j < k + l.length → ops[j]? = some o → (∀ d, o.dst = some d → ρe d = vs j) ∧
        ∃ ρj : Env, (∀ t, (∀ i, j ≤ i → i < k + l.length → dstOf ops i ≠ some t) → ρj t = ρe t) ∧ ∀ w, C w → OpQ P ops (R w) o ρj w (vs j)
  | [], k, ρ, _, _, h => ⟨fun _ => undef, ρ, h, fun _ _ => rfl, fun j o h1 h2 => by simp at h2; omega⟩
  | o :: l, k, ρ, hl, hd, h => by
    obtain ⟨v, h1, h2⟩ := h
    have hlen : k + 1 + l.length = k + (o :: l).length := by simp; omega
    obtain ⟨vs, ρe, hF, hout, hvs⟩ := QC.vals l (k + 1) (E.put ρ o.dst v) (fun j => by
      have := hl (j + 1)
      simp only [List.getElem?_cons_succ, List.length_cons] at this
      rw [this]
      by_cases hj : j < l.length
      · rw [if_pos (by omega), if_pos hj]; congr 1; omega
      · rw [if_neg (by omega), if_neg hj]) (fun i j hij hj => hd i j hij (by omega)) h2
    have ho : ops[k]? = some o := by have := hl 0; simpa using this.symm
    refine ⟨fun j => if j = k then v else vs j, ρe, hF, fun t ht => ?_, fun j o' hj1 hj2 hoj => ?_⟩
    · rw [hout t (fun j a b => ht j (by omega) (by omega))]
      cases hdst : o.dst with
      | none => rfl
      | some d => exact upd_other _ _ fun e => ht k (Nat.le_refl _) (by simp) (by unfold dstOf; rw [ho]; simp [hdst, e])
    · by_cases hjk : j = k
      · subst hjk
        have : o' = o := Option.some.inj (hoj.symm.trans ho)
        subst this
        simp only [if_pos]
        refine ⟨fun d hdst => ?_, ρ, fun t ht => ?_, h1⟩
        · rw [hout d (fun i a b => hd j i (by omega) (by omega) d (by unfold dstOf; rw [ho]; exact hdst))]
          rw [hdst]; exact upd_same _ _ _
        · rw [hout t (fun i a b => ht i (by omega) (by omega))]
          cases hdst : o'.dst with
          | none => rfl
          | some d => exact (upd_other _ _ fun e => ht j (Nat.le_refl _) (by simp) (by unfold dstOf; rw [ho]; simp [hdst, e])).symm
      · obtain ⟨h3, ρj, h4, h5⟩ := hvs j o' (by omega) (by omega) hoj
        simp only [if_neg hjk]
        exact ⟨h3, ρj, fun t ht => h4 t fun i a b => ht i a (by omega), h5⟩

theorem CW.quietC {id : Nat} (h : Nat) (hrefl : ∀ w, R w w) (htrans : ∀ {a b c}, R a b → R b c → R a c) (hdraw : ∀ w, R w { w with drawn := w.drawn + 1 }) (hm : P.follows .mixedOrders = true) (hB : (looseB ops h (ownD ops) && looksB ops h) = true)
    (hq : QC R P n ops (R w) (fun ρ' => ∀ w', R w w' → WL P n ops Q (ops.toList.drop h) ρ' w') (ops.toList.take h) ρ) : CW P n (.region id ops true) Q ρ w := by
  simp only [Bool.and_eq_true] at hB
  obtain ⟨hB1, hB2⟩ := hB
  have hle : h ≤ ops.size := by
    have := hB1
    simp only [looseB, Bool.and_eq_true] at this
    simpa using this.1.1.1
  have hlen : (ops.toList.take h).length = h := by simp; omega
  have hdist : ∀ i j, i < j → j < h → ∀ t, dstOf ops i = some t → dstOf ops j ≠ some t := fun i j hij hj t hi hjt => by
    have hoj : ops[j]? = some (ops[j]'(by omega)) := Array.getElem?_eq_getElem _
    have := (looseB_apart hB1 hoj hi (by omega)).2
    unfold dstOf at hjt
    rw [hoj] at hjt
    exact this hjt
  obtain ⟨vs, ρe, hF, hout, hvs⟩ := QC.vals (ops.toList.take h) 0 ρ (fun j => by
    rw [hlen, List.getElem?_take, Nat.zero_add]
    split
    · simp
    · rfl) (by rw [hlen]; intro i j hij hj; exact hdist i j hij (by omega)) hq
  rw [hlen, Nat.zero_add] at hout hvs
  intro hok
  refine CW.looseC (R := R) h (ownD ops) (fun i l _ => l = (if dstOf ops i = none then [] else [vs i])) hm hB1 htrans hdraw (fun _ _ _ _ h _ => h) ?_ ?_ hok
  · -- each operation of the head
    have hok' : ops.toList.all (okOper n) = true := by simpa [okCode] using hok
    have main : ∀ (l : List Oper) (k : Nat), (∀ j, j < l.length → l[j]? = ops[k + j]?) → k + l.length ≤ h →
        stepsC R P n ops h (ownD ops) (fun i l _ => l = (if dstOf ops i = none then [] else [vs i])) ρ w k l := by
      intro l
      induction l with
      | nil => intro k _ _; trivial
      | cons o l ih =>
        intro k hl hk
        have ho : ops[k]? = some o := by have := hl 0 (by simp); simpa using this.symm
        simp only [List.length_cons] at hk
        refine ⟨fun ρ' w' hw ho' hp => ?_, ih (k + 1) (fun j hj => by have := hl (j + 1) (by simp; omega); simp only [List.getElem?_cons_succ] at this; rw [this]; congr 1; omega) (by omega)⟩
        obtain ⟨h3, ρj, h4, h5⟩ := hvs k o (Nat.zero_le _) (by omega) ho
        have hoko : okOper n o = true := List.all_eq_true.1 hok' o (by rw [Array.mem_toList_iff]; exact Array.mem_of_getElem? ho)
        have hsame : ∀ t ∈ o.looksAt ops, ρ' t = ρj t := fun t ht => by
          by_cases hin : ∃ j, j < h ∧ dstOf ops j = some t
          · obtain ⟨j, hj, hdj⟩ := hin
            have hdir : j ∈ directs o := by
              have h6 := List.all_eq_true.1 hB2 k (List.mem_range.2 (by omega))
              simp only [ho] at h6
              have h7 := List.all_eq_true.1 (List.all_eq_true.1 h6 t ht) j (List.mem_range.2 hj)
              simp only [hdj, Bool.or_eq_true, Bool.not_eq_true'] at h7
              rcases h7 with h7 | h7
              · have : Nat.beq t t = true := Nat.beq_refl t
                rw [this] at h7; cases h7
              · simpa using h7
            have hjk := looseB_back hB1 ho j hdir
            have h8 := hp j (by simpa using hdir)
            have hne : dstOf ops j ≠ none := by rw [hdj]; simp
            simp only [ownD, hdj, Option.toList_some, List.map_cons, List.map_nil, reduceCtorEq, if_false] at h8
            have h9 : ρ' t = vs j := by injection h8
            obtain ⟨oj, hoj⟩ : ∃ oj, ops[j]? = some oj := ⟨ops[j]'(by omega), by rw [Array.getElem?_eq_getElem (by omega)]⟩
            have hdo : oj.dst = some t := by unfold dstOf at hdj; rw [hoj] at hdj; exact hdj
            rw [h9, h4 t (fun i a b => hdist j i (by omega) b t hdj)]
            exact ((hvs j oj (Nat.zero_le _) hj hoj).1 t hdo).symm
          · have hno : ∀ j, j < h → dstOf ops j ≠ some t := fun j hj hd => hin ⟨j, hj, hd⟩
            rw [ho' t hno, h4 t (fun i _ b => hno i b), hout t (fun j _ b => hno j b)]
        have hopq := OpQ.congr hoko hsame (h5 w' hw)
        exact OpQ.opC hrefl hopq fun w'' hx => ⟨hx, by
          simp only [ownD, dstOf, ho, Option.bind_some]
          cases hd : o.dst with
          | none => simp
          | some d => simp [E.put, upd_same]⟩
    exact main _ 0 (fun j hj => by rw [hlen] at hj; rw [List.getElem?_take, if_pos hj, Nat.zero_add]; simp) (by rw [hlen]; omega)
  · intro ρ' w' hw ho' hk
    have : ρ' = ρe := by
      funext t
      by_cases hin : ∃ j, j < h ∧ dstOf ops j = some t
      · obtain ⟨j, hj, hdj⟩ := hin
        have h8 := hk j hj
        simp only [ownD, hdj, Option.toList_some, List.map_cons, List.map_nil, reduceCtorEq, if_false] at h8
        have h9 : ρ' t = vs j := by injection h8
        obtain ⟨oj, hoj⟩ : ∃ oj, ops[j]? = some oj := ⟨ops[j]'(by omega), by rw [Array.getElem?_eq_getElem (by omega)]⟩
        have hdo : oj.dst = some t := by unfold dstOf at hdj; rw [hoj] at hdj; exact hdj
        rw [h9]
        exact ((hvs j oj (Nat.zero_le _) hj hoj).1 t hdo).symm
      · have hno : ∀ j, j < h → dstOf ops j ≠ some t := fun j hj hd => hin ⟨j, hj, hd⟩
        rw [ho' t hno, hout t (fun j _ b => hno j b)]
    rw [this]
    exact hF w' hw
end loose
end
/-- new blocks and draws, and nothing else -/
def Gr (w w' : World) : Prop := ∃ q os, w' = Sort.grow (w.drewN q) os
theorem Gr.refl (w : World) : Gr w w := ⟨0, #[], by simp [Sort.grow, World.drewN]⟩
theorem Gr.trans {a b c : World} (h : Gr a b) (k : Gr b c) : Gr a c := by
  obtain ⟨q, os, rfl⟩ := h
  obtain ⟨q2, os2, rfl⟩ := k
  exact ⟨q + q2, os ++ os2, by simp [Sort.grow, World.drewN, Array.append_assoc, Nat.add_assoc]⟩
theorem Gr.draw (w : World) : Gr w { w with drawn := w.drawn + 1 } := ⟨1, #[], by simp only [Sort.grow, World.drewN, Array.append_empty]⟩
theorem Gr.alloc (w : World) (o : Obj) : Gr w (w.alloc o) := ⟨0, #[o], Sort.alloc_eq_grow w o⟩
theorem Gr.ext {w w' : World} (h : Gr w w') : Ext w w' := by
  obtain ⟨q, os, rfl⟩ := h
  refine ⟨rfl, rfl, rfl, by simp [Sort.grow, World.drewN], fun k hk _ => ?_⟩
  simp only [Sort.grow, World.drewN]
  rw [Array.getElem?_append_left hk]
section
variable {P : Program} {n d : Nat} {Q : Post} {ρ : Env} {w : World} {ops : Array Oper} {o : Oper} {rest : List Oper} {e : TypeId} {v : Value} {cs : List Value}
theorem WL.boxG {T : TypeId} {x : Operand} (hg : o.guard = none) (hd : o.dst = some d) (ho : o.op = .box T x) (hx : E.ev ρ x = v) (hc : v.cells = cs.toArray)
    (h : ∀ b w', Gr w w' → w.heap.size ≤ b → Blk w' b T cs → WL P n ops Q rest (upd ρ d (.pointer (some ⟨b, 0, none⟩))) w') : WL P n ops Q (o :: rest) ρ w :=
  WL.step hg fun a K ha hok hK => by
    unfold Oper.wp
    rw [execOp_ev ha hok]
    simp only [execOp, ho, hx, Instr.box, newVar, hc, Sem.run_bind, run_newRow, Result.andThen_ok, Sem.run_pure]
    exact hK _ _ (by rw [hd]; exact h _ _ (Gr.alloc _ _) (Nat.le_refl _) (blk_alloc _ _ _))
theorem WL.litNG {T m : Nat} {z : Value} {parts : Array (Nat × Operand)} {vs : List Value} (hg : o.guard = none) (hd : o.dst = some d) (ho : o.op = .buildSlice T m parts) (hT : elemT P T = some e) (hk : szT P e = some 1) (hz : zeroT P e = some [z])
    (hp : parts.toList.map (fun p => (p.1, E.ev ρ p.2)) = idxL 0 vs) (h1 : ∀ v ∈ vs, v.cells = #[v]) (hn : vs.length = m) (hm : Nat.blt 0 m = true) (hm2 : Nat.ble m 100000 = true)
    (h : ∀ g w', Gr w w' → Blk w' g e vs → WL P n ops Q rest (upd ρ d (.slice (some ⟨g, 0, none⟩) m m)) w') : WL P n ops Q (o :: rest) ρ w :=
  WL.step hg fun a K ha hok hK => by
    unfold Oper.wp
    rw [execOp_ev ha hok]
    have hp' : parts.map (fun p => (p.1, E.ev ρ p.2)) = (idxL 0 vs).toArray := by
      apply Array.ext'; simpa using hp
    have hr := run_litN (P := P) (w := w) hT hk hz h1 hn hm hm2
    simp only [execOp, ho, hp', Sem.run_bind, hr, Result.andThen_ok, Sem.run_pure]
    exact hK _ _ (by rw [hd]; exact h _ _ (Gr.alloc _ _) (blk_alloc w e vs))
end
end Go.E
/- A small engine for walks, second series, part 19: rows that the sort of the library lays anew. Plain theorems; nothing here speaks of one program. -/
namespace Go.E
open Go
open Rep (rd)
open Sep (own)
section
variable {α : Type} [Sep α] {enc : α → List Value} {ok : α → Prop}
theorem ownL_flat (he : ∀ {L w x cs}, own L w x cs → L = [] ∧ cs = enc x ∧ ok x) {w : World} : ∀ {xs : List α} {L : List Nat} {cs : List Value}, ownL w L xs cs → L = [] ∧ cs = xs.flatMap enc ∧ ∀ x ∈ xs, ok x
  | [], _, _, h => ⟨h.1, h.2, by simp⟩
  | x :: xs, _, _, ⟨L1, L2, c, r, hL, hc, h1, h2⟩ => by
    obtain ⟨a1, a2, a3⟩ := he h1
    obtain ⟨b1, b2, b3⟩ := ownL_flat he h2
    refine ⟨by rw [hL, a1, b1]; rfl, by rw [hc, a2, b2]; simp, fun y hy => ?_⟩
    rcases List.mem_cons.1 hy with rfl | hy
    · exact a3
    · exact b3 y hy
theorem flat_ownL (ho : ∀ {w x}, ok x → own [] w x (enc x)) {w : World} : ∀ {xs : List α}, (∀ x ∈ xs, ok x) → ownL w [] xs (xs.flatMap enc)
  | [], _ => ⟨rfl, rfl⟩
  | x :: xs, h => ⟨[], [], enc x, xs.flatMap enc, rfl, by simp, ho (h x (by simp)), flat_ownL ho fun y hy => h y (by simp [hy])⟩
end
section
variable {α : Type} {enc : α → List Value} {k : Nat}
theorem flatMap_length (hk : ∀ x, (enc x).length = k) : ∀ l : List α, (l.flatMap enc).length = l.length * k
  | [] => by simp
  | x :: l => by simp [flatMap_length hk l, hk, Nat.add_mul]; omega
theorem flatMap_get (hk : ∀ x, (enc x).length = k) : ∀ (l : List α) (t : Nat), t < l.length * k → (l.flatMap enc)[t]? = (l[t / k]?).bind fun x => (enc x)[t % k]?
  | [], t, h => by simp at h
  | x :: l, t, h => by
    have k0 : 0 < k := by
      rcases Nat.eq_zero_or_pos k with h0 | h0
      · rw [h0] at h; simp at h
      · exact h0
    simp only [List.flatMap_cons]
    by_cases ht : t < k
    · rw [List.getElem?_append_left (by rw [hk]; exact ht), Nat.div_eq_of_lt ht, Nat.mod_eq_of_lt ht]; rfl
    · have hm : (x :: l).length * k = l.length * k + k := by rw [List.length_cons, Nat.add_mul]; omega
      rw [List.getElem?_append_right (by rw [hk]; omega), hk, flatMap_get hk l (t - k) (by omega)]
      have h1 : t / k = (t - k) / k + 1 := by rw [Nat.div_eq_sub_div k0 (by omega)]
      have h2 : t % k = (t - k) % k := Nat.mod_eq_sub_mod (by omega)
      rw [h1, h2, List.getElem?_cons_succ]
theorem flatK_list [Inhabited α] (hk : ∀ x, (enc x).length = k) (l : List α) : (Sort.flatK enc k l.toArray).toList = l.flatMap enc := by
  apply List.ext_getElem?
  intro t
  by_cases ht : t < l.length * k
  · rw [flatMap_get hk l t ht]
    have k0 : 0 < k := by
      rcases Nat.eq_zero_or_pos k with h0 | h0
      · rw [h0] at ht; simp at ht
      · exact h0
    have hq : t / k < l.length := (Nat.div_lt_iff_lt_mul k0).2 ht
    have hm : t % k < k := Nat.mod_lt _ k0
    have h1 : l[t / k]? = some l[t / k] := List.getElem?_eq_getElem hq
    have hm' : t % k < (enc l[t / k]).length := by rw [hk]; exact hm
    have h2 : (enc l[t / k])[t % k]? = some (enc l[t / k])[t % k] := List.getElem?_eq_getElem hm'
    rw [h1, Option.bind_some, h2]
    simp [Sort.flatK, ht, hq, hk, hm]
  · rw [List.getElem?_eq_none (by simp; omega), List.getElem?_eq_none (by rw [flatMap_length hk]; omega)]
end
/-- a row laid at the beginning of a block -/
theorem putRow_blk {w : World} {g : Nat} {e : TypeId} {cur : List Value} {F : Array Value} (h : Blk w g e cur) (hl : F.size ≤ cur.length) : Blk (Sort.putRow id w g 0 F) g e (splice cur 0 F.toList) := by
  have hb : w.heap[g]? = some (.cells cur.toArray e (0, 0)) := h
  show (Sort.putRow id w g 0 F).heap[g]? = some (.cells (splice cur 0 F.toList).toArray e (0, 0))
  simp only [Sort.putRow, Sort.mapBlock, Array.getElem?_modify, if_true, hb, Option.map_some, Sort.onCells]
  congr 2
  apply Array.ext_getElem?
  intro t
  simp only [Sort.putCells, Array.getElem?_mapIdx]
  by_cases ht : t < F.size
  · have h1 : t < cur.length := by omega
    simp [splice, h1, ht, List.getElem?_append]
  · by_cases h1 : t < cur.length
    · simp [splice, h1, ht, List.getElem?_append, List.getElem?_drop, show F.size + (t - F.size) = t by omega]
    · simp [splice, h1, ht, List.getElem?_append, List.getElem?_drop, show cur.length ≤ F.size + (t - F.size) by omega]
theorem putRow_chg {w : World} {g : Nat} {F : Array Value} : Chg (· = g) w (Sort.putRow id w g 0 F) :=
  ⟨rfl, rfl, rfl, by simp [Sort.putRow, Sort.mapBlock], fun q _ hq => by simp only [Sort.putRow, Sort.mapBlock, Array.getElem?_modify]; rw [if_neg fun e => hq e.symm]⟩
theorem grow_chg {M : Nat → Prop} {w w' : World} {os : Array Obj} (h : Chg M w w') : Chg M w (Sort.grow w' os) := h.trans (.of_ext (Gr.ext ⟨0, os, by simp [World.drewN]⟩))
theorem ahead_ext (w : World) (n : Nat) : Ext w (Sort.ahead w n) := ⟨rfl, rfl, rfl, Nat.le_refl _, fun _ _ _ => rfl⟩
section
variable {α : Type} [Inhabited α] [Sep α] {enc : α → List Value} {ok : α → Prop} {F0 : Nat → Prop} {M : List Nat} {w0 w : World} {fr : List Pr} {ow : List It} {i : Nat} {e : TypeId}
/-- the row's cells, as the sort's contract tells of them -/
theorem HL.holdsK (he : ∀ {L w x cs}, own L w x cs → L = [] ∧ cs = enc x ∧ ok x) (hk : ∀ x, (enc x).length = Rep.sz α) {xs : List α} {g m c : Nat} (H : HL F0 M w0 w fr ow) (hi : ow[i]? = some (It.O e xs (.slice (some ⟨g, 0, none⟩) m c))) (h0 : xs ≠ []) :
    Sort.HoldsK enc (Rep.sz α) w g 0 xs.toArray ∧ g < w.heap.size ∧ xs.length = m ∧ m ≤ maxLen ∧ (∀ x ∈ xs, ok x) ∧
      ∀ {w' : World} {ys : List α} {n : Nat} {os : Array Obj}, ys.length = xs.length → (∀ y ∈ ys, ok y) → (∀ {w x}, ok x → own [] w x (enc x)) → w' = Sort.grow (Sort.putRowK enc (Rep.sz α) (Sort.ahead w n) g 0 ys.toArray) os → HL F0 M w0 w' fr (ow.set i (It.O e ys (.slice (some ⟨g, 0, none⟩) m c))) := by
  obtain ⟨F, L, C, ⟨cs, hr, h3⟩, hN, hF, hupd⟩ := H.upd hi
  obtain ⟨A2, c2, he2, hmc, hcm⟩ := hr.form
  injection he2 with e1 e2 e3
  subst e3; subst e2
  obtain ⟨rfl, hcs, hok⟩ := ownL_flat he h3
  have hlt : 0 < xs.length := List.length_pos_iff.2 h0
  obtain ⟨h1, h2⟩ := hr.own hlt
  rcases h1.2 with ⟨hv, h00⟩ | ⟨g', cap, cur, hv, _, hgb, hn, hcm', hs, ht⟩
  · omega
  · injection hv with e1 e2 e3
    injection e1 with e1; injection e1 with e1
    subst e1; subst e3
    have hB : Blk w g e cur.toList := by simpa [Blk] using hgb
    have hflat : (Sort.flatK enc (Rep.sz α) xs.toArray).toList = cs := by rw [flatK_list hk, hcs]
    have hsz : (Sort.flatK enc (Rep.sz α) xs.toArray).size = xs.length * Rep.sz α := by simp
    have hfit : xs.length * Rep.sz α ≤ cur.size := by rw [hs]; exact Nat.mul_le_mul_right _ hn
    refine ⟨fun j hj => ?_, hB.lt, rfl, by omega, hok, fun {w' ys n os} hl hoy hown hw' => ?_⟩
    · have hjc : cs[j]? = some (Sort.flatK enc (Rep.sz α) xs.toArray)[j]! := by
        rw [← hflat, Array.getElem?_toList, Array.getElem?_eq_getElem hj, getElem!_pos _ j hj]
      have hcj : cur[0 + j]? = some (Sort.flatK enc (Rep.sz α) xs.toArray)[j]! := by
        rw [Nat.zero_add]
        rw [← ht, List.getElem?_take] at hjc
        split at hjc
        · simpa using hjc
        · cases hjc
      refine ⟨?_, ?_⟩
      · rw [cell_of_row w g (0 + j) cur e (0, 0) hgb]; exact hcj
      · unfold World.frozen?; rw [hgb]; simp
    · have hsy : (Sort.flatK enc (Rep.sz α) ys.toArray).size = xs.length * Rep.sz α := by simp [hl]
      have hB1 : Blk (Sort.ahead w n) g e cur.toList := hB.ext (ahead_ext w n)
      have hB2 := putRow_blk (F := Sort.flatK enc (Rep.sz α) ys.toArray) hB1 (by rw [hsy]; simpa using hfit)
      have hc1 : Chg (· = g) w (Sort.putRow id (Sort.ahead w n) g 0 (Sort.flatK enc (Rep.sz α) ys.toArray)) := Chg.trans (.of_ext (ahead_ext w n)) putRow_chg
      have hc2 : Chg (· = g) w w' := by rw [hw']; exact grow_chg hc1
      have hB3 : Blk w' g e (splice cur.toList 0 (Sort.flatK enc (Rep.sz α) ys.toArray).toList) := by
        rw [hw']; exact hB2.ext (Gr.ext ⟨0, os, rfl⟩)
      rw [flatK_list hk] at hB3
      have hcl : cs.length = xs.length * Rep.sz α := h1.1
      have hyl : (ys.flatMap enc).length = xs.length * Rep.sz α := by rw [flatMap_length hk, hl]
      refine hupd (L' := L) (C' := []) (hc2.mono fun q _ e => by rw [h2]; simp [Value.ownBlock, e]) (fun F' _ => ⟨ys.flatMap enc, .inl ⟨?_, h2⟩, flat_ownL hown hoy⟩) (by simpa using (List.nodup_append.1 hN).1) (fun q hq => .inl hq) (fun q hq => by simp at hq)
      have := h1.st (w' := w') rfl hB (off := 0) (l := ys.flatMap enc) (by rw [hyl]; omega) hB3
      rw [hl]
      have hsp : splice cs 0 (ys.flatMap enc) = ys.flatMap enc := by
        unfold splice; rw [List.drop_eq_nil_of_le (by rw [hyl, hcl]; omega)]; simp
      rw [hsp] at this
      exact this
end
end Go.E
/- A small engine for walks, second series, part 20: regions in any order in which calls write, in turn, to one variable (a cursor). Plain theorems; nothing here speaks of one program. -/
namespace Go.E
open Go
open Rep (rd)
open Sep (own)
/-- the cursor's block holds, behind so many calls, these cells -/
def ThB (b : Nat) (T : TypeId) (css : List (List Value)) (m : Nat) (w : World) : Prop := ∃ cs, css[m]? = some cs ∧ Blk w b T cs
section
variable {F0 : Nat → Prop} {M : List Nat} {w0 w w' : World} {fr ps : List Pr} {ow l : List It} {i j b m : Nat} {T : TypeId} {cs cs' : List Value} {S : Nat → Prop} {css : List (List Value)}
theorem ThB.mono (hb : b < w.heap.size) : ∀ m a c (T' : Nat → Prop), ThB b T css m a → Chg T' a c → (∀ q, T' q → w.heap.size ≤ q) → ThB b T css m c :=
  fun _ _ _ _ ⟨cs, h1, h2⟩ hc hT => ⟨cs, h1, (hc.block b h2.lt fun ht => absurd (hT b ht) (by omega)).trans h2⟩
theorem ThB.get (h : css[m]? = some cs) (hT : ThB b T css m w) : Blk w b T cs := by
  obtain ⟨c, h1, h2⟩ := hT
  obtain rfl : cs = c := Option.some.inj (h.symm.trans h1)
  exact h2
theorem NewI.nil : NewI (fun _ => False) w [] := ⟨[], trivial, List.nodup_nil, fun _ h => by simp [blks] at h⟩
end
section
variable {P : Program} {n d : Nat} {Q : Post} {ρ : Env} {w : World} {ops : Array Oper} {o : Oper} {l : List Oper} {h i m : Nat} {ks : List K2} {Mw : Nat → Prop} {Θ : Nat → World → Prop} {C : List Nat} {os : List (Option Nat)} {K : Nat → World → Prop} {G : Nat → Nat → Prop} {X : World → Prop}
end
end Go.E
/- A small engine for walks, second series, part 21: rows whose elements are only read, and grow. Plain theorems; nothing here speaks of one program. -/
namespace Go.E
open Go
open Rep (rd)
open Sep (own)
section
variable {F0 : Nat → Prop} {M : List Nat} {w0 w w' : World} {fr : List Pr} {ow : List It}
theorem HL.updP {i : Nat} {o : It} (H : HL F0 M w0 w fr ow) (hi : ow[i]? = some o) :
    ∃ F L C, AllP F w fr ∧ (∀ q ∈ L, ¬ F q) ∧ o.p L C F w ∧ (L ++ C).Nodup ∧ (∀ q ∈ C, F q) ∧
      ∀ {w' : World} {o' : It} {L' C' : List Nat}, Chg (· ∈ L) w w' → (∀ F', (∀ b, F b → F' b) → o'.p L' C' F' w') → (L' ++ C').Nodup → (∀ q ∈ L', q ∈ L ∨ w.heap.size ≤ q) → (∀ q ∈ C', q ∈ C ∨ q ∈ L ∨ w.heap.size ≤ q) →
        HL F0 M w0 w' fr (ow.set i o') := by
  obtain ⟨Fr, LC, h1, h2, h3, h4, h5, h6⟩ := H
  have hlt := h3.lt
  obtain ⟨a, b, A, L, C, B, rfl, rfl, rfl, g1, g2, g3⟩ := h3.split hi
  have hnf : ∀ q ∈ L, ¬ fz F0 w0 M (Fr ++ claims (A ++ (L, C) :: B)) q := fun q hq => fz_not h4 h6 rfl hq
  have hb : blks (A ++ (L, C) :: B) = blks A ++ ((L ++ C) ++ blks B) := by rw [blks_app]; rfl
  have hcl : claims (A ++ (L, C) :: B) = claims A ++ (C ++ claims B) := by rw [claims_app]; rfl
  rw [hb] at h4 h6 hlt
  have h4' := h4
  simp only [List.nodup_append, List.mem_append] at h4'
  obtain ⟨n1, ⟨n2, ⟨⟨n3, n4, n5⟩, n6, n7⟩, n8⟩, n9⟩ := h4'
  refine ⟨_, L, C, h2, hnf, g2, by rw [List.nodup_append]; exact ⟨n3, n4, n5⟩, fun q hq => .inr (by rw [hcl]; simp [hq]), fun {w' o' L' C'} hc ho hN hL hC => ?_⟩
  have hF : ∀ q, fz F0 w0 M (Fr ++ claims (A ++ (L, C) :: B)) q → q < w.heap.size → w'.heap[q]? = w.heap[q]? := fun q hq hl => hc.block q hl fun hm => hnf q hm hq
  have hsub : ∀ q, fz F0 w0 M (Fr ++ claims (A ++ (L, C) :: B)) q → fz F0 w0 M ((Fr ++ C.filter (fun q => !C'.contains q)) ++ claims (A ++ (L', C') :: B)) q := by
    refine fz_sub fun q hq => ?_
    rw [hcl] at hq
    rw [claims_app]
    simp only [claims, List.mem_append, List.mem_filter] at hq ⊢
    rcases hq with h | h | h | h
    · simp [h]
    · simp [h]
    · by_cases hc' : q ∈ C'
      · simp [hc']
      · left; right; exact ⟨h, by simp [hc']⟩
    · simp [h]
  have hA : ∀ q ∈ blks A, w'.heap[q]? = w.heap[q]? := fun q hq => hc.block q (hlt q (by simp [hq])) fun hm => n8 q hq q (.inl (.inl hm)) rfl
  have hB : ∀ q ∈ blks B, w'.heap[q]? = w.heap[q]? := fun q hq => hc.block q (hlt q (by simp [hq])) fun hm => n7 q (.inl hm) q hq rfl
  refine ⟨Fr ++ C.filter (fun q => !C'.contains q), A ++ (L', C') :: B, ?_, ?_, ?_, ?_, ?_, ?_⟩
  · refine ⟨hc.os.trans h1.os, hc.tape.trans h1.tape, hc.output.trans h1.output, Nat.le_trans h1.size hc.size, fun k hk hm => ?_⟩
    refine (hc.block k (Nat.lt_of_lt_of_le hk h1.size) fun hl => ?_).trans (h1.block k hk hm)
    rcases h6 k (by simp [hl]) with h | h
    · exact hm h
    · omega
  · exact (h2.frame hF).mono hsub
  · rw [List.set_append_right _ _ (Nat.le_refl _), Nat.sub_self, List.set_cons_zero]
    exact AllI.app (AllI.trans hsub hF g1 hA) ⟨ho _ hsub, AllI.trans hsub hF g3 hB⟩
  · rw [blks_app]
    simp only [blks, List.nodup_append, List.mem_append, List.mem_filter]
    rw [List.nodup_append] at hN
    have out : ∀ q, q ∈ L' ∨ q ∈ C' → q ∈ L ∨ q ∈ C ∨ w.heap.size ≤ q := fun q hq => by
      rcases hq with hq | hq
      · rcases hL q hq with h | h
        · exact .inl h
        · exact .inr (.inr h)
      · rcases hC q hq with h | h | h
        · exact .inr (.inl h)
        · exact .inl h
        · exact .inr (.inr h)
    refine ⟨⟨n1, n4.filter _, fun x hx y hy => n9 x hx y (.inr (.inl (.inr hy.1)))⟩, ⟨n2, ⟨hN, n6, fun x hx y hy e => ?_⟩, fun x hx y hy e => ?_⟩, fun x hx y hy e => ?_⟩
    · subst e
      rcases out x hx with h | h | h
      · exact n7 x (.inl h) x hy rfl
      · exact n7 x (.inr h) x hy rfl
      · have := hlt x (by simp [hy]); omega
    · subst e
      rcases hy with hy | hy
      · rcases out x hy with h | h | h
        · exact n8 x hx x (.inl (.inl h)) rfl
        · exact n8 x hx x (.inl (.inr h)) rfl
        · have := hlt x (by simp [hx]); omega
      · exact n8 x hx x (.inr hy) rfl
    · subst e
      rcases hx with hx | hx
      · rcases hy with hy | hy | hy
        · exact n9 x hx x (.inl hy) rfl
        · rcases out x hy with h | h | h
          · exact n9 x hx x (.inr (.inl (.inl h))) rfl
          · exact n9 x hx x (.inr (.inl (.inr h))) rfl
          · have := h5 x hx; omega
        · exact n9 x hx x (.inr (.inr hy)) rfl
      · obtain ⟨hx, hx'⟩ := hx
        rcases hy with hy | hy | hy
        · exact n8 x hy x (.inl (.inr hx)) rfl
        · rcases hy with hy | hy
          · rcases hL x hy with h | h
            · exact n5 x h x hx rfl
            · have := hlt x (by simp [hx]); omega
          · simp [hy] at hx'
        · exact n7 x (.inr hx) x hy rfl
  · intro q hq
    rcases List.mem_append.1 hq with hq | hq
    · exact Nat.lt_of_lt_of_le (h5 q hq) hc.size
    · exact Nat.lt_of_lt_of_le (hlt q (by simp [(List.mem_filter.1 hq).1])) hc.size
  · intro q hq
    rw [blks_app] at hq
    simp only [blks, List.mem_append, List.mem_filter] at hq
    have := h1.size
    rcases hq with (hq | hq) | hq | (hq | hq) | hq
    · exact h6 q (by simp [hq])
    · exact h6 q (by simp [hq.1])
    · exact h6 q (by simp [hq])
    · rcases hL q hq with h | h
      · exact h6 q (by simp [h])
      · exact .inr (by omega)
    · rcases hC q hq with h | h | h
      · exact h6 q (by simp [h])
      · exact h6 q (by simp [h])
      · exact .inr (by omega)
    · exact h6 q (by simp [hq])

end
section
variable {F0 : Nat → Prop} {M : List Nat} {w0 w w' : World} {fr : List Pr} {ow : List It} {i j : Nat} {e : TypeId} {v : Value} {cs : List Value}
variable {P : Program} {n d : Nat} {Q : Post} {ρ : Env} {ops : Array Oper} {o : Oper} {rest : List Oper}
theorem WL.appG {α : Type} [Rep α] {T b : Nat} {z : List Value} {s x : Operand} {xs ys : List α} {A : Option Addr} {c2 : Nat} {news : List Value} (hg : o.guard = none) (hd : o.dst = some d)
    (ho : o.op = .call { callee := .builtin .append, args := #[s, x], argTypes := #[T, T] }) (hT : elemT P T = some e) (hk : szT P e = some (Rep.sz α)) (hb : byT P e = some b) (hz : zeroT P e = some z) (hzk : z.length = Rep.sz α)
    (hs : E.ev ρ s = v) (hx : E.ev ρ x = .slice A ys.length c2) (H : HL F0 M w0 w fr ow) (hi : ow[i]? = some (It.G e xs v)) (hy : ∀ F, AllP F w fr → rdL F w ys news) (hat : ys.length = 0 ∨ ∃ b o, A = some ⟨b, o, none⟩ ∧ At w b o news)
    (hmax : ((xs.length : Int) + (ys.length : Int)) * b ≤ 140737488355328 ∧ (xs.length : Int) + ys.length ≤ 9223372036854775807)
    (h : ∀ A m c w', HL F0 M w0 w' fr (ow.set i (It.G e (xs ++ ys) (.slice A m c))) → WL P n ops Q rest (upd ρ d (.slice A m c)) w') : WL P n ops Q (o :: rest) ρ w := by
  have h : ∀ v' w', (∃ A m c, v' = .slice A m c) → HL F0 M w0 w' fr (ow.set i (It.G e (xs ++ ys) v')) → WL P n ops Q rest (upd ρ d v') w' := by
    rintro v' w' ⟨A, m, c, rfl⟩ H
    exact h A m c w' H
  obtain ⟨F, L, C, hP, hnF, ⟨cs, h0, rfl, h3⟩, hN, hF, hupd⟩ := H.updP hi
  have hy0 := hy F hP
  have hm1 : (xs.length + ys.length) * b ≤ 140737488355328 := by
    have : (((xs.length + ys.length) * b : Nat) : Int) ≤ 140737488355328 := by rw [Int.natCast_mul, Int.natCast_add]; exact hmax.1
    omega
  have hm2 : xs.length + ys.length ≤ maxLen := by show _ ≤ 9223372036854775807; omega
  have hNC := (List.nodup_append.1 hN).2.1
  rcases h0 with ⟨h1, h2⟩ | ⟨⟨A0, rfl⟩, hx0, rfl, rfl⟩
  · refine WL.app hg hd ho hT hk hb hz hzk (by simpa using Rep.pos (α := α)) hs hx h1 hy0.len hat (rdL.one hy0) hm1 hm2 (Nat.zero_le _) fun v' w' hc ho' hnew => h v' w' (by obtain ⟨A, c, e⟩ := ho'.form; exact ⟨A, _, c, e⟩) ?_
    have f : ∀ b, F b → b < w.heap.size → w'.heap[b]? = w.heap[b]? := fun b hb hl => hc.block b hl fun e => hnF b (by rw [h2]; simpa [blkOf] using e) hb
    refine hupd (L' := v'.ownBlock.toList) (C' := []) (hc.mono fun q _ e => by rw [h2]; simpa [blkOf] using e) (fun F' hm => ⟨cs ++ news, .inl ⟨by rw [List.length_append]; exact ho', rfl⟩, rfl, ((h3.frame f).append (hy0.frame f)).mono hm⟩) (by cases v'.ownBlock <;> simp) (fun q hq => ?_) (by simp)
    rcases hnew q (by simpa [blkOf] using hq) with h | h
    · left; rw [h2]; simpa [blkOf] using h
    · exact .inr h
  · -- a slice without room
    obtain rfl := List.eq_nil_of_length_eq_zero hx0
    obtain ⟨v', w', hrun, hE, hv⟩ := run_appN (P := P) (ty := o.type) (A0 := A0) (c2 := c2) hT hk hb hz hzk hy0.len hat (by simpa using hm1) (by simpa using hm2)
    refine WL.step hg fun a K ha hok hK => ?_
    unfold Oper.wp
    rw [execOp_ev ha hok]
    simp only [execOp, ho, resolve, invoke, builtin, Sem.run_bind, Sem.run_pure, Result.andThen_ok, List.map_toArray, List.map_cons, List.map_nil, hs, hx, hrun]
    refine hK _ _ (by
      rw [hd]
      refine h v' w' ?_ ?_
      · obtain ⟨L', hv, _⟩ := hv
        obtain ⟨A, c, e, _⟩ := hv.form
        exact ⟨A, _, c, e⟩
      · obtain ⟨L', hv, hn⟩ := hv
        exact hupd (L' := L') (C' := []) (hE.mono fun q _ e => e.elim) (fun F' hm => ⟨news, by simpa using hv, rfl, by simpa using (hy0.frame fun b _ hl => hE.block b hl id).mono hm⟩) (by simpa using hv.nodup) (fun q hq => .inr (hn q hq)) (by simp))
end
end Go.E
/- A small engine for walks, second series, part 22: literals of several elements, in any order. Plain theorems; nothing here speaks of one program. -/
namespace Go.E
open Go
open Rep (rd)
open Sep (own)
section
variable {P : Program} {n d : Nat} {Q : Post} {ρ : Env} {w w0 : World} {ops : Array Oper} {o : Oper} {e : TypeId} {F0 : Nat → Prop} {M : List Nat} {fr : List Pr} {ow : List It}
theorem OpX.litN {α : Type} [Sep α] {T m : Nat} {z : Value} {parts : Array (Nat × Operand)} {vs : List Value} {xs : List α} {R : Value → World → Prop} (hg : o.guard = none) (ho : o.op = .buildSlice T m parts) (hT : elemT P T = some e) (hk : szT P e = some 1) (hz : zeroT P e = some [z])
    (hp : parts.toList.map (fun p => (p.1, E.ev ρ p.2)) = idxL 0 vs) (h1 : ∀ v ∈ vs, v.cells = #[v]) (hn : vs.length = m) (hm : Nat.blt 0 m = true) (hm2 : Nat.ble m 100000 = true) (hx : ∀ w, ownL w [] xs vs) (hs : Rep.sz α = 1)
    (h : ∀ A k c w', Ext w w' → NewI (fun q => w.heap.size ≤ q ∧ q < w'.heap.size) w' [It.O e xs (.slice A k c)] → R (.slice A k c) w') : OpX P ops o ρ w R := by
  refine .inl ⟨by simp [gate, hg], ?_⟩
  have hp' : parts.map (fun p => (p.1, E.ev ρ p.2)) = (idxL 0 vs).toArray := by
    apply Array.ext'; simpa using hp
  have hr := run_litN (P := P) (w := w) hT hk hz h1 hn hm hm2
  simp only [execOp, ho, hp', Sem.run_bind, hr, Result.andThen_ok, Sem.run_pure]
  have hxl : xs.length = m := by
    have := (hx w).rd.len
    rw [hs, Nat.mul_one] at this
    omega
  have hm2' : m ≤ 100000 := by simpa using hm2
  have hml : xs.length ≤ maxLen := by show _ ≤ 9223372036854775807; omega
  have hE := Ext.alloc w (.cells vs.toArray e)
  have hB := blk_alloc w e vs
  rw [← hxl]
  refine h _ _ _ _ hE ⟨[([w.heap.size], [])], ⟨⟨vs, .inl ⟨Own.of_blk hB (by rw [← (hx w).rd.len]) (Nat.zero_le _) hml, rfl⟩, hx _⟩, trivial⟩, by simp [blks], fun q hq => ?_⟩
  obtain rfl : q = w.heap.size := by simpa [blks] using hq
  exact ⟨Nat.le_refl _, hB.lt⟩
theorem Ev.convB {S T : TypeId} {x : Operand} {m : UInt8} {d : TypeDesc} (ho : o.op = .convert S T x) (hS : P.underlying S = some d) (hT : intT P T = some .i64) (hx : E.ev ρ x = .int .u8 (m.toNat : Int)) : Ev P ρ o w (.int .i64 (m.toNat : Int)) := by
  have h := Ev.conv (w := w) ho hS hT hx
  have := m.toNat_lt
  rwa [IntWalk.i64_in _ (by omega)] at h
theorem Opens.byte {T : TypeId} (hc : P.cellsOf T = 1) (ht : P.underlying T = some (.int .u8)) : Opens P T UInt8 := by
  refine ⟨hc, fun H enc w base spare held fuel cs x h => ?_⟩
  obtain ⟨n, rfl, _, hw⟩ := DataW.trod_int ht h
  have hb := bounds_u8 hw
  refine ⟨UInt8.ofNat n.toNat, ?_⟩
  show [Value.int .u8 n] = [.int .u8 ((UInt8.ofNat n.toNat).toNat : Int)]
  have : ((UInt8.ofNat n.toNat).toNat : Int) = n := by
    rw [UInt8.toNat_ofNat']; omega
  rw [this]
end
section
variable {P : Program} {n d : Nat} {Q : Post} {ρ : Env} {w : World} {ops : Array Oper} {o : Oper} {l : List Oper} {h i m : Nat} {ks : List K2} {Mw : Nat → Prop} {Θ : Nat → World → Prop} {C : List Nat} {os : List (Option Nat)} {K : Nat → World → Prop} {G : Nat → Nat → Prop}
theorem OpX.on {R : Value → World → Prop} (hg : gate ops ρ o = true) (h : OpX P ops { o with guard := none } ρ w R) : OpX P ops o ρ w R := by
  rcases h with h | h
  · exact .inl ⟨hg, h.2⟩
  · exact absurd h.1 (by simp [gate])
/-- a guarded operation that is carried out -/
theorem LL2.on (hg : gate ops ρ o = true) (h' : LL2 P n Q ops h ks Mw Θ C os w i ({ o with guard := none } :: l) ρ K G m) : LL2 P n Q ops h ks Mw Θ C os w i (o :: l) ρ K G m := by
  rcases h' with ⟨u, d, h1, h2, h3, h4, h5, h6⟩ | ⟨φ, d, h1, h2, h3, h4, h5, h6⟩ | ⟨t, g, d, h1, h2, h3, h4, h5, h6⟩ | ⟨u, d, h1, h2, h3, h4, h5, h6⟩ | ⟨φ, d, h1, h2, h3, h4, h5, h6⟩ | ⟨t, s, ψ, φ, h1, h2, h3, h4, h5, h6, h7, h8⟩ | ⟨t, s, ψ, h1, h2, h3, h4, h5, h6, h7⟩
  · exact .inl ⟨u, d, h1, h2, h3, h4, fun w' a b c => OpX.on hg (h5 w' a b c), h6⟩
  · exact .inr (.inl ⟨φ, d, h1, h2, h3, h4, fun w' a b c => OpX.on hg (h5 w' a b c), h6⟩)
  · exact .inr (.inr (.inl ⟨t, g, d, h1, h2, h3, h4, fun w' a b c => OpX.on hg (h5 w' a b c), h6⟩))
  · exact .inr (.inr (.inr (.inl ⟨u, d, h1, h2, h3, h4, fun w' a b c => OpX.on hg (h5 w' a b c), h6⟩)))
  · exact .inr (.inr (.inr (.inr (.inl ⟨φ, d, h1, h2, h3, h4, fun w' a b c => OpX.on hg (h5 w' a b c), h6⟩))))
  · exact .inr (.inr (.inr (.inr (.inr (.inl ⟨t, s, ψ, φ, h1, h2, h3, h4, h5, h6, fun w' a b c => OpX.on hg (h7 w' a b c), h8⟩)))))
  · exact .inr (.inr (.inr (.inr (.inr (.inr ⟨t, s, ψ, h1, h2, h3, h4, h5, fun w' a b c => OpX.on hg (h6 w' a b c), h7⟩)))))
/-- and one that is passed over -/
theorem LL2.off (hg : gate ops ρ o = false) (hk : ks[i]? = some (.fix undef)) (hc : C.contains i = false) (hoo : ownOf os i = i) (hd : o.dst = some d) (hr : LL2 P n Q ops h ks Mw Θ C os w (i + 1) l (upd ρ d undef) K G m) : LL2 P n Q ops h ks Mw Θ C os w i (o :: l) ρ K G m :=
  .inl ⟨undef, d, hk, hd, hc, hoo, fun _ _ _ _ => .inr ⟨hg, Ext.refl _, rfl⟩, hr⟩
end
end Go.E
/- A small engine for walks, second series, part 23: a chain that writes to two variables, by calls and by stores. Plain theorems; nothing here speaks of one program. -/
namespace Go.E
open Go
open Rep (rd)
open Sep (own)
def Th2 (b : Nat) (T : TypeId) (css : List (List Value)) (b2 : Nat) (T2 : TypeId) (css2 : List (List Value)) (m : Nat) (w : World) : Prop := ThB b T css m w ∧ ThB b2 T2 css2 m w
section
variable {F0 : Nat → Prop} {M : List Nat} {w0 w w' w'' : World} {fr ps : List Pr} {ow l : List It} {i j b b2 m : Nat} {T T2 : TypeId} {cs cs' c2 c2' : List Value} {S : Nat → Prop} {css css2 : List (List Value)}
theorem Blk.keep (h : Chg (fun q => q = b) w w') (hB : Blk w b2 T2 c2) (hne : b2 ≠ b) : Blk w' b2 T2 c2 := (h.block b2 hB.lt fun e => hne e).trans hB
theorem Th2.mono (hb : b < w.heap.size) (hb2 : b2 < w.heap.size) : ∀ m a c (T' : Nat → Prop), Th2 b T css b2 T2 css2 m a → Chg T' a c → (∀ q, T' q → w.heap.size ≤ q) → Th2 b T css b2 T2 css2 m c :=
  fun m a c T' h hc hT => ⟨ThB.mono hb m a c T' h.1 hc hT, ThB.mono hb2 m a c T' h.2 hc hT⟩
end
section
variable {P : Program} {n d : Nat} {Q : Post} {ρ : Env} {w : World} {ops : Array Oper} {o : Oper} {l : List Oper} {h i m : Nat} {ks : List K2} {Mw : Nat → Prop} {Θ : Nat → World → Prop} {C : List Nat} {os : List (Option Nat)} {K : Nat → World → Prop} {G : Nat → Nat → Prop} {X : World → Prop}
end
section
variable {P : Program} {ρ : Env} {w : World}
end
end Go.E
/- A small engine for walks, second series, part 24: elements of literals that an open region has made itself. Plain theorems; nothing here speaks of one program. -/
namespace Go.E
open Go
open Rep (rd)
open Sep (own)
section
variable {P : Program} {n d : Nat} {Q : Post} {ρ : Env} {w : World} {ops : Array Oper} {o : Oper} {l : List Oper} {h i m : Nat} {ks : List K2} {Mw : Nat → Prop} {Θ : Nat → World → Prop} {C : List Nat} {os : List (Option Nat)} {K : Nat → World → Prop} {G : Nat → Nat → Prop} {X : World → Prop} {e : TypeId} {v : Value} {S : Nat → Prop}
end
end Go.E
/- A small engine for walks, second series, part 25: a field of a struct's value. Plain theorems; nothing here speaks of one program. -/
namespace Go.E
open Go
section
variable {P : Program} {ρ : Env} {o : Oper} {w : World} {T : TypeId} {x : Operand} {i ft off k : Nat} {cs : List Value} {u : Value}
end
end Go.E
/- A small engine for walks, second series, part 26: a store into a part of an element. Plain theorems; nothing here speaks of one program. -/
namespace Go.E
open Go
open Rep (rd)
open Sep (own)
section
variable {F0 : Nat → Prop} {M : List Nat} {w0 w w' : World} {fr : List Pr} {ow : List It} {i j : Nat} {e : TypeId} {v : Value} {cs : List Value}
variable {P : Program} {n d : Nat} {Q : Post} {ρ : Env} {ops : Array Oper} {o : Oper} {rest : List Oper}
end
end Go.E
/- A small engine for walks, second series, part 27: regions in an open order in which what writes is in order: what only reads is taken first. Plain theorems over the kit's 'wpAnyH'; nothing here speaks of one program. -/
namespace Go.E
open Go
section
variable {P : Program} {n : Nat} {K : Env → World → Prop} {Q : Post} {ρ : Env} {w : World} {ops : Array Oper} {o : Oper} {S : World → Prop} {listed : Array Bool} {k i : Nat} {v : Value}
/-- only the normal end -/
abbrev onlyN (K : Env → World → Prop) : Post := fun e ρ w => e = .normal ∧ K ρ w
/-- whatever order is picked from here on; S holds behind each operation -/
def HW (P : Program) (n : Nat) (ops : Array Oper) (K : Env → World → Prop) (S : World → Prop) (k : Nat) (listed : Array Bool) (ρ : Env) (w : World) : Prop :=
  ops.toList.all (okOper n) = true → ∀ a, Rel n ρ a → wpAnyH P .any ops (lift n (onlyN K)) S k listed a w
theorem CW.held {id : Nat} (S : World → Prop) (hm : P.follows .mixedOrders = true) (h : ∀ w', Ext w w' → HW P n ops (fun ρ w => Q .normal ρ w) S ops.size (Array.replicate ops.size false) ρ w') : CW P n (.region id ops true) Q ρ w := by
  intro hok a ha
  have hok' : ops.toList.all (okOper n) = true := by simpa [okCode] using hok
  refine Code.wp_mono (Q := lift n (onlyN fun ρ w => Q .normal ρ w)) (fun e a w ⟨ρ, hr, he, hq⟩ => ⟨ρ, hr, by subst he; exact hq⟩) ?_
  exact wp_region_held hm (h { w with drawn := w.drawn + 1 } ⟨rfl, rfl, rfl, Nat.le_refl _, fun _ _ _ => rfl⟩ hok' a ha)
theorem oks_guard (hok : ops.toList.all (okOper n) = true) : okGuards n ops = true := by
  refine List.all_eq_true.2 fun o' ho' => ?_
  have := List.all_eq_true.1 hok o' ho'
  simp only [okOper, Bool.and_eq_true] at this
  exact this.1.1
theorem HW.take0 (hi : ops[i]? = some o) (hs : Region.noSelect ops = true) (hf : Region.free .any ops listed i = true) (hr : (Region.ready .any ops listed).contains i = true) (hS : S w)
    (hy : (gate ops ρ o = true ∧ ∀ w', S w' → Ev P ρ o w' v) ∨ (gate ops ρ o = false ∧ v = undef)) (h : HW P n ops K S k (listed.setIfInBounds i true) (E.put ρ o.dst v) w) : HW P n ops K S (k + 1) listed ρ w := fun hok a ha => by
  have hoko : okOper n o = true := List.all_eq_true.1 hok o (by rw [Array.mem_toList_iff]; exact Array.mem_of_getElem? hi)
  refine wpAnyH_take (v := v) hi hs hf hr (fun c a w ⟨ρ, _, he, _⟩ => by cases he) ?_ hS (h hok _ (ha.put _ _))
  rcases hy with ⟨h1, h2⟩ | ⟨h1, h2⟩
  · refine .inl ⟨by rw [gate_wanted (oks_guard hok) ha]; exact h1, fun w' hw' => ?_⟩
    rw [execOp_ev ha hoko]; exact h2 w' hw'
  · exact .inr ⟨by rw [gate_wanted (oks_guard hok) ha]; exact h1, h2⟩
/-- an operation that only reads is taken first -/
theorem HW.take {d : Nat} (i : Nat) (hS : S w) (hi : ops[i]? = some o) (hs : (Region.noSelect ops && Region.free .any ops listed i && (Region.ready .any ops listed).contains i) = true) (hg : o.guard = none) (hd : o.dst = some d) (he : ∀ w', S w' → Ev P ρ o w' v) (h : HW P n ops K S k (listed.setIfInBounds i true) (upd ρ d v) w) : HW P n ops K S (k + 1) listed ρ w := by
  simp only [Bool.and_eq_true] at hs
  exact HW.take0 hi hs.1.1 hs.1.2 hs.2 hS (.inl ⟨by simp [gate, hg], he⟩) (by rw [hd]; exact h)
theorem HW.off {d : Nat} (i : Nat) (hS : S w) (hi : ops[i]? = some o) (hs : (Region.noSelect ops && Region.free .any ops listed i && (Region.ready .any ops listed).contains i) = true) (hg : gate ops ρ o = false) (hd : o.dst = some d) (h : HW P n ops K S k (listed.setIfInBounds i true) (upd ρ d undef) w) : HW P n ops K S (k + 1) listed ρ w := by
  simp only [Bool.and_eq_true] at hs
  exact HW.take0 hi hs.1.1 hs.1.2 hs.2 hS (.inr ⟨hg, rfl⟩) (by rw [hd]; exact h)
/-- the one operation that may come up now -/
theorem HW.eff (i : Nat) (hi : ops[i]? = some o) (hr : Region.ready .any ops listed = [i]) (h : WL P n ops (onlyN fun ρ' w' => S w' ∧ HW P n ops K S k (listed.setIfInBounds i true) ρ' w') [o] ρ w) : HW P n ops K S (k + 1) listed ρ w := fun hok a ha => by
  have hoko : okOper n o = true := List.all_eq_true.1 hok o (by rw [Array.mem_toList_iff]; exact Array.mem_of_getElem? hi)
  refine wpAnyH_all hr (by simp) fun j hj => ?_
  obtain rfl : j = i := by simpa using hj
  have h1 := h (by simp [hoko]) a ha
  unfold wpList at h1
  unfold wpOp
  simp only [hi]
  by_cases hw : Region.wanted o (yielded ops a.tmps) = true
  · rw [if_pos hw] at h1 ⊢
    rcases h1 with h1 | h1
    · refine .inl (Oper_wp_mono2 (fun a' w' h2 => ?_) (fun e a' w' he ⟨ρ', _, h3, _⟩ => absurd h3 he) h1)
      unfold wpList at h2
      obtain ⟨ρ', hr', _, hS', hH⟩ := h2
      exact ⟨hS', hH hok a' hr'⟩
    · obtain ⟨_, a', w', ρ', _, he, _⟩ := h1
      cases he
  · rw [if_neg hw] at h1 ⊢
    unfold wpList at h1
    obtain ⟨ρ', hr', _, hS', hH⟩ := h1
    exact ⟨hS', hH hok _ hr'⟩
/-- all have come up -/
theorem HW.done (hr : Region.ready .any ops listed = []) (h : K ρ w) : HW P n ops K S k listed ρ w := fun _ a ha => wpAnyH_done hr ⟨ρ, ha, rfl, h⟩ k
/-- behind the one operation -/
theorem HW.next (hS : S w) (h : HW P n ops K S k listed ρ w) : WL P n ops (onlyN fun ρ' w' => S w' ∧ HW P n ops K S k listed ρ' w') [] ρ w := WL.nil ⟨rfl, hS, h⟩
end
end Go.E
/- A small engine for walks, second series, part 28: elements that bring rows of their own. Plain theorems; nothing here speaks of one program. -/
namespace Go.E
open Go
open Rep (rd)
open Sep (own)
/-- something put aside, to become part of an element -/
structure Sp where
  p : List Nat → World → Prop
  frame : ∀ {L : List Nat} {w w' : World}, p L w → (∀ b ∈ L, w'.heap[b]? = w.heap[b]?) → p L w'
  lt : ∀ {L : List Nat} {w : World}, p L w → ∀ b ∈ L, b < w.heap.size
def Sp.S {α : Type} [Sep α] (ys : List α) (u : Value) : Sp := ⟨fun L w => ownS L w ys u, fun h hf => h.frame hf, fun h => h.lt⟩
def AllSp (w : World) : List Nat → List Sp → Prop
  | L, [] => L = []
  | L, s :: l => ∃ L1 L2, L = L1 ++ L2 ∧ s.p L1 w ∧ AllSp w L2 l
theorem AllSp.frame {w w' : World} : ∀ {l : List Sp} {L : List Nat}, AllSp w L l → (∀ b ∈ L, w'.heap[b]? = w.heap[b]?) → AllSp w' L l
  | [], _, h, _ => h
  | s :: l, _, ⟨L1, L2, e, h1, h2⟩, hf => by
    subst e
    exact ⟨L1, L2, rfl, s.frame h1 fun b hb => hf b (List.mem_append.2 (.inl hb)), AllSp.frame h2 fun b hb => hf b (List.mem_append.2 (.inr hb))⟩
theorem AllSp.lt {w : World} : ∀ {l : List Sp} {L : List Nat}, AllSp w L l → ∀ b ∈ L, b < w.heap.size
  | [], _, h, b, hb => by rw [show _ = _ from h] at hb; simp at hb
  | s :: l, _, ⟨L1, L2, e, h1, h2⟩, b, hb => by
    subst e
    rcases List.mem_append.1 hb with hb | hb
    · exact s.lt h1 b hb
    · exact AllSp.lt h2 b hb
theorem AllSp.snoc {w : World} {s : Sp} {M : List Nat} (hs : s.p M w) : ∀ {l : List Sp} {L : List Nat}, AllSp w L l → AllSp w (L ++ M) (l ++ [s])
  | [], _, h => by rw [show _ = _ from h]; exact ⟨M, [], by simp, hs, rfl⟩
  | t :: l, _, ⟨L1, L2, e, h1, h2⟩ => by subst e; exact ⟨L1, L2 ++ M, by simp, h1, AllSp.snoc hs h2⟩
/-- a row of the call's own, and rows that are put aside for its next element -/
def It.W {α : Type} [Sep α] (e : TypeId) (xs : List α) (v : Value) (sp : List Sp) : It :=
  ⟨fun L C _ w => ∃ cs C1 C2, C = C1 ++ C2 ∧ RowO w e (Rep.sz α) v xs.length L cs ∧ ownL w C1 xs cs ∧ AllSp w C2 sp, fun h _ => h,
  by
    rintro L C F w w' ⟨cs, C1, C2, rfl, h1, h2, h3⟩ _ hf
    exact ⟨cs, C1, C2, rfl, h1.frm fun b hb => hf b (by simp [hb]), h2.frame fun b hb => hf b (by simp [hb]), h3.frame fun b hb => hf b (by simp [hb])⟩,
  by
    rintro L C F w ⟨cs, C1, C2, rfl, h1, h2, h3⟩ q hq
    simp only [List.mem_append] at hq
    rcases hq with hq | hq | hq
    · exact h1.lst q hq
    · exact h2.lt q hq
    · exact h3.lt q hq⟩
theorem RowO.ownS {α : Type} [Sep α] {w : World} {e : TypeId} {xs : List α} {v : Value} {L C : List Nat} {cs : List Value} (hr : RowO w e (Rep.sz α) v xs.length L cs) (ho : ownL w C xs cs) : ownS (L ++ C) w xs v := by
  have nilC : xs = [] → C = [] := fun e => by subst e; exact ho.1
  rcases hr with ⟨hr, rfl⟩ | ⟨⟨A, rfl⟩, hx0, rfl, rfl⟩
  · rcases hr.2 with ⟨rfl, hx0⟩ | ⟨g, cap, cur, rfl, _, hg, hn, hc, hs, ht⟩
    · obtain rfl := List.eq_nil_of_length_eq_zero hx0
      rw [nilC rfl]
      exact ownS.nil (Nat.zero_le _)
    · refine ⟨_, cap, cs, rfl, hn, hc, .inr ⟨g, 0, e, cur.toList, C, rfl, rfl, by simpa [Blk] using hg, fun j u hu => ?_, ho⟩⟩
      rw [Nat.zero_add]
      rw [← ht, List.getElem?_take] at hu
      split at hu
      · exact hu
      · cases hu
  · obtain rfl := List.eq_nil_of_length_eq_zero hx0
    rw [nilC rfl]
    exact ownS.nil (Nat.zero_le _)
/-! ### items by their places -/
theorem AllI.iff {F : Nat → Prop} {w : World} : ∀ {is : List It} {l : List (List Nat × List Nat)}, AllI F w is l ↔ is.length = l.length ∧ ∀ (j : Nat) (it : It) (q : List Nat × List Nat), is[j]? = some it → l[j]? = some q → it.p q.1 q.2 F w
  | [], [] => ⟨fun _ => ⟨rfl, fun j it q h => by simp at h⟩, fun _ => trivial⟩
  | [], _ :: _ => ⟨fun h => h.elim, fun h => by simp at h⟩
  | _ :: _, [] => ⟨fun h => h.elim, fun h => by simp at h⟩
  | i :: is, (L, C) :: l => by
    constructor
    · rintro ⟨h1, h2⟩
      obtain ⟨e, h3⟩ := AllI.iff.1 h2
      refine ⟨by simp [e], fun j it q hj hq => ?_⟩
      cases j with
      | zero => simp at hj hq; subst hj; subst hq; exact h1
      | succ j => exact h3 j it q (by simpa using hj) (by simpa using hq)
    · rintro ⟨e, h⟩
      exact ⟨h 0 i (L, C) rfl rfl, AllI.iff.2 ⟨by simpa using e, fun j it q hj hq => h (j + 1) it q (by simpa using hj) (by simpa using hq)⟩⟩
theorem blks_permI : ∀ {l : List (List Nat × List Nat)} {i : Nat} {q : List Nat × List Nat}, l[i]? = some q → (blks l).Perm ((q.1 ++ q.2) ++ blks (l.set i ([], [])))
  | [], _, _, h => by simp at h
  | (L, C) :: l, 0, q, h => by simp at h; subst h; simp [blks]
  | (L, C) :: l, i + 1, q, h => by
    have ih := blks_permI (l := l) (i := i) (q := q) (by simpa using h)
    simp only [List.set_cons_succ, blks]
    refine (ih.append_left (L ++ C)).trans ?_
    have := (List.perm_append_comm (l₁ := L ++ C) (l₂ := q.1 ++ q.2)).append_right (blks (l.set i ([], [])))
    rw [List.append_assoc (q.1 ++ q.2), List.append_assoc (L ++ C)] at this
    exact this
section
variable {F0 : Nat → Prop} {M : List Nat} {w0 w w' : World} {fr : List Pr} {ow : List It} {i k : Nat} {e : TypeId} {v u : Value}
/-- the blocks of one item become part of another's -/
theorem HL.join {o o2 o' : It} (H : HL F0 M w0 w fr ow) (hi : ow[i]? = some o) (hk : ow[k]? = some o2) (hik : i ≠ k)
    (ho : ∀ F L C L2 C2, o.p L C F w → o2.p L2 C2 F w → o'.p L (C ++ (L2 ++ C2)) F w) : HL F0 M w0 w fr ((ow.set i o').set k It.emp) := by
  obtain ⟨Fr, LC, h1, h2, h3, h4, h5, h6⟩ := H
  obtain ⟨hlen, hall⟩ := AllI.iff.1 h3
  have hil : i < ow.length := (List.getElem?_eq_some_iff.1 hi).1
  have hkl : k < ow.length := (List.getElem?_eq_some_iff.1 hk).1
  obtain ⟨q, hq⟩ : ∃ q, LC[i]? = some q := ⟨_, List.getElem?_eq_getElem (by omega)⟩
  obtain ⟨q2, hq2⟩ : ∃ q, LC[k]? = some q := ⟨_, List.getElem?_eq_getElem (by omega)⟩
  have hLC : ∀ j, ((LC.set i (q.1, q.2 ++ (q2.1 ++ q2.2))).set k ([], []))[j]? = if j = k then some ([], []) else if j = i then some (q.1, q.2 ++ (q2.1 ++ q2.2)) else LC[j]? := fun j => by
    rw [List.getElem?_set, List.getElem?_set]
    by_cases hj : k = j
    · rw [if_pos hj, if_pos hj.symm, if_pos (by simp; omega)]
    · rw [if_neg hj, if_neg (fun (e : j = k) => hj e.symm)]
      by_cases hj2 : i = j
      · rw [if_pos hj2, if_pos hj2.symm, if_pos (by omega)]
      · rw [if_neg hj2, if_neg (fun (e : j = i) => hj2 e.symm)]
  have hperm : (blks LC).Perm (blks ((LC.set i (q.1, q.2 ++ (q2.1 ++ q2.2))).set k ([], []))) := by
    have p1 := blks_permI hq
    have p2 : (blks (LC.set i ([], []))).Perm ((q2.1 ++ q2.2) ++ blks ((LC.set i ([], [])).set k ([], []))) := blks_permI (by rw [List.getElem?_set, if_neg hik]; exact hq2)
    have p3 : (blks ((LC.set i (q.1, q.2 ++ (q2.1 ++ q2.2))).set k ([], []))).Perm ((q.1 ++ (q.2 ++ (q2.1 ++ q2.2))) ++ blks (((LC.set i (q.1, q.2 ++ (q2.1 ++ q2.2))).set k ([], [])).set i ([], []))) := blks_permI (by rw [hLC, if_neg hik, if_pos rfl])
    have e : ((LC.set i (q.1, q.2 ++ (q2.1 ++ q2.2))).set k ([], [])).set i ([], []) = (LC.set i ([], [])).set k ([], []) := by
      rw [List.set_comm _ _ (fun e => hik e.symm), List.set_set]
    rw [e] at p3
    refine p1.trans (List.Perm.trans ?_ p3.symm)
    refine ((p2.append_left (q.1 ++ q.2))).trans ?_
    simp only [List.append_assoc]
    exact List.Perm.refl _
  have hcl : ∀ b, b ∈ claims LC → b ∈ claims ((LC.set i (q.1, q.2 ++ (q2.1 ++ q2.2))).set k ([], [])) := fun b hb => by
    obtain ⟨x, hx, hxb⟩ := mem_claims.1 hb
    obtain ⟨j, hj, e⟩ := List.getElem_of_mem hx
    have hj2 : LC[j]? = some x := by rw [List.getElem?_eq_getElem hj, e]
    have hat : ((LC.set i (q.1, q.2 ++ (q2.1 ++ q2.2))).set k ([], []))[i]? = some (q.1, q.2 ++ (q2.1 ++ q2.2)) := by rw [hLC, if_neg hik, if_pos rfl]
    by_cases h1 : j = k
    · subst h1
      rw [hq2] at hj2; cases hj2
      exact mem_claims.2 ⟨_, List.mem_of_getElem? hat, by simp [hxb]⟩
    · by_cases h2 : j = i
      · subst h2
        rw [hq] at hj2; cases hj2
        exact mem_claims.2 ⟨_, List.mem_of_getElem? hat, by simp [hxb]⟩
      · refine mem_claims.2 ⟨x, List.mem_of_getElem? (i := j) ?_, hxb⟩
        rw [hLC, if_neg h1, if_neg h2]; exact hj2
  have hsub : ∀ b, fz F0 w0 M (Fr ++ claims LC) b → fz F0 w0 M (Fr ++ claims ((LC.set i (q.1, q.2 ++ (q2.1 ++ q2.2))).set k ([], []))) b := fz_sub fun b hb => by
    rcases List.mem_append.1 hb with hb | hb
    · exact List.mem_append.2 (.inl hb)
    · exact List.mem_append.2 (.inr (hcl b hb))
  refine ⟨Fr, (LC.set i (q.1, q.2 ++ (q2.1 ++ q2.2))).set k ([], []), h1, h2.mono hsub, AllI.iff.2 ⟨by simp [hlen], fun j it x hj hx => ?_⟩, (hperm.append_left Fr).nodup_iff.1 h4, h5, fun b hb => h6 b ((hperm.append_left Fr).mem_iff.2 hb)⟩
  rw [hLC] at hx
  rw [List.getElem?_set, List.getElem?_set] at hj
  by_cases h1 : j = k
  · subst h1
    rw [if_pos rfl] at hx hj
    rw [if_pos (by simpa using hkl)] at hj
    cases hx; cases hj
    exact ⟨rfl, rfl⟩
  · rw [if_neg h1] at hx
    rw [if_neg (fun e => h1 e.symm)] at hj
    by_cases h2 : j = i
    · subst h2
      rw [if_pos rfl] at hx hj
      rw [if_pos hil] at hj
      cases hx; cases hj
      exact o'.mono (ho _ _ _ _ _ (hall j o q hi hq) (hall k o2 q2 hk hq2)) hsub
    · rw [if_neg h2] at hx
      rw [if_neg (fun e => h2 e.symm)] at hj
      exact it.mono (hall j it x hj hx) hsub
theorem HL.give {α β : Type} [Sep α] [Sep β] {xs : List α} {ys : List β} {sp : List Sp} {e2 : TypeId} (H : HL F0 M w0 w fr ow) (hi : ow[i]? = some (It.W e xs v sp)) (hk : ow[k]? = some (It.O e2 ys u)) (hik : i ≠ k) :
    HL F0 M w0 w fr ((ow.set i (It.W e xs v (sp ++ [Sp.S ys u]))).set k It.emp) :=
  H.join hi hk hik fun F L C L2 C2 ⟨cs, C1, C3, e1, h1, h2, h3⟩ ⟨ds, g1, g2⟩ => ⟨cs, C1, C3 ++ (L2 ++ C2), by rw [e1, List.append_assoc], h1, h2, h3.snoc (s := Sp.S ys u) (g1.ownS g2)⟩
end
section
variable {F0 : Nat → Prop} {M : List Nat} {w0 w w' : World} {fr : List Pr} {ow : List It} {i j : Nat} {e : TypeId} {v : Value} {cs : List Value}
variable {P : Program} {n d : Nat} {Q : Post} {ρ : Env} {ops : Array Oper} {o : Oper} {rest : List Oper}
end
end Go.E
/- A small engine for walks, second series, part 29: calls that write to some items and hand views back. Plain theorems; nothing here speaks of one program. -/
namespace Go.E
open Go
open Rep (rd)
open Sep (own)
section
variable {F0 : Nat → Prop} {M : List Nat} {w0 w w' : World} {fr : List Pr} {ow : List It} {i j : Nat} {e : TypeId} {v : Value} {cs : List Value}
end
end Go.E
/- A small engine for walks, second series, part 30: regions in an open order, two operations of which may come up. Plain theorems; nothing here speaks of one program. -/
namespace Go.E
open Go
section
variable {P : Program} {n : Nat} {K : Env → World → Prop} {Q : Post} {ρ : Env} {w : World} {ops : Array Oper} {o : Oper} {S : World → Prop} {listed : Array Bool} {k i : Nat} {v : Value}
/-- an operation that comes up now -/
def HW.Do (P : Program) (n : Nat) (ops : Array Oper) (K : Env → World → Prop) (S : World → Prop) (k : Nat) (listed : Array Bool) (ρ : Env) (w : World) (i : Nat) : Prop :=
  ∃ o, ops[i]? = some o ∧ WL P n ops (onlyN fun ρ' w' => S w' ∧ HW P n ops K S k (listed.setIfInBounds i true) ρ' w') [o] ρ w
theorem HW.do1 (hi : ops[i]? = some o) (h : WL P n ops (onlyN fun ρ' w' => S w' ∧ HW P n ops K S k (listed.setIfInBounds i true) ρ' w') [o] ρ w) : HW.Do P n ops K S k listed ρ w i := ⟨o, hi, h⟩
def HW.Dos (P : Program) (n : Nat) (ops : Array Oper) (K : Env → World → Prop) (S : World → Prop) (k : Nat) (listed : Array Bool) (ρ : Env) (w : World) : List Nat → Prop
  | [] => True
  | i :: l => HW.Do P n ops K S k listed ρ w i ∧ HW.Dos P n ops K S k listed ρ w l
theorem HW.Dos.get : ∀ {l : List Nat} {i : Nat}, HW.Dos P n ops K S k listed ρ w l → i ∈ l → HW.Do P n ops K S k listed ρ w i
  | j :: l, i, h, hi => by
    rcases List.mem_cons.1 hi with rfl | hi
    · exact h.1
    · exact HW.Dos.get h.2 hi
/-- whichever comes up -/
theorem HW.some (rs : List Nat) (hr : Region.ready .any ops listed = rs) (hne : rs.isEmpty = false) (h : HW.Dos P n ops K S k listed ρ w rs) : HW P n ops K S (k + 1) listed ρ w := fun hok a ha => by
  refine wpAnyH_all hr (by rintro rfl; cases hne) fun j hj => ?_
  obtain ⟨o, hi, h⟩ := h.get hj
  have hoko : okOper n o = true := List.all_eq_true.1 hok o (by rw [Array.mem_toList_iff]; exact Array.mem_of_getElem? hi)
  have h1 := h (by simp [hoko]) a ha
  unfold wpList at h1
  unfold wpOp
  simp only [hi]
  by_cases hw : Region.wanted o (yielded ops a.tmps) = true
  · rw [if_pos hw] at h1 ⊢
    rcases h1 with h1 | h1
    · refine .inl (Oper_wp_mono2 (fun a' w' h2 => ?_) (fun e a' w' he ⟨ρ', _, h3, _⟩ => absurd h3 he) h1)
      unfold wpList at h2
      obtain ⟨ρ', hr', _, hS', hH⟩ := h2
      exact ⟨hS', hH hok a' hr'⟩
    · obtain ⟨_, a', w', ρ', _, he, _⟩ := h1
      cases he
  · rw [if_neg hw] at h1 ⊢
    unfold wpList at h1
    obtain ⟨ρ', hr', _, hS', hH⟩ := h1
    exact ⟨hS', hH hok _ hr'⟩
end
end Go.E
/- A small engine for walks, second series, part 31: fields of fields in memory that no longer turns. Plain theorems; nothing here speaks of one program. -/
namespace Go.E
open Go
end Go.E
/- A small engine for walks, second series, part 32: greatest and least of two numbers, literals of elements of several cells. Plain theorems; nothing here speaks of one program. -/
namespace Go.E
open Go
open Rep (rd)
open Sep (own)
section
variable {P : Program} {ρ : Env} {w : World} {o : Oper}
end
theorem foldl_seg (off : Nat) : ∀ (l : List Value) (k : Nat) (cs : Array Value), off + (k + l.length) ≤ cs.size →
    ((l.zipIdx k).foldl (fun cs (p : Value × Nat) => cs.setIfInBounds (off + p.2) p.1) cs).toList = cs.toList.take (off + k) ++ (l ++ cs.toList.drop (off + (k + l.length)))
  | [], k, cs, _ => by simp
  | x :: l, k, cs, h => by
    simp only [List.length_cons] at h
    simp only [List.zipIdx_cons, List.foldl_cons]
    rw [foldl_seg off l (k + 1) _ (by simp; omega)]
    have hk : off + k < cs.toList.length := by simp; omega
    have h1 : (cs.setIfInBounds (off + k) x).toList.take (off + (k + 1)) = cs.toList.take (off + k) ++ [x] := by
      rw [Array.toList_setIfInBounds, ← Nat.add_assoc, List.take_add_one, List.take_set_of_le (Nat.le_refl _)]
      simp only [Array.length_toList] at hk
      simp [hk]
    have h2 : (cs.setIfInBounds (off + k) x).toList.drop (off + (k + 1 + l.length)) = cs.toList.drop (off + (k + (x :: l).length)) := by
      rw [Array.toList_setIfInBounds, List.drop_set_of_lt (by omega)]
      congr 1
      simp only [List.length_cons]; omega
    rw [h1, h2]; simp
/-- the values' cells, one after the other -/
def catL (k : Nat) : List Value → List (List Value) → Prop
  | [], [] => True
  | v :: vs, c :: cs => v.cells = c.toArray ∧ c.length = k ∧ catL k vs cs
  | _, _ => False
theorem catL.len {k : Nat} : ∀ {vs : List Value} {css : List (List Value)}, catL k vs css → css.flatten.length = vs.length * k
  | [], [], _ => by simp
  | v :: vs, c :: cs, ⟨_, h, h2⟩ => by
    have := catL.len h2
    simp only [List.flatten_cons, List.length_append, List.length_cons, h, this, Nat.add_mul]; omega
  | [], _ :: _, h => h.elim
  | _ :: _, [], h => h.elim
theorem fill_rows {k : Nat} : ∀ (vs : List Value) (css : List (List Value)) (j : Nat) (cs : Array Value), catL k vs css → cs.size = (j + vs.length) * k → Instr.fill (fun i => some (i * k, k)) cs (idxL j vs) = some (cs.toList.take (j * k) ++ css.flatten).toArray
  | [], [], j, cs, _, h => by
    simp only [idxL, Instr.fill, List.flatten_nil, List.append_nil]
    congr 1
    apply Array.ext'
    simp at h
    simp [List.take_of_length_le, h]
  | v :: vs, c :: css, j, cs, ⟨hv, hc, hr⟩, h => by
    have hl : (v :: vs).length = vs.length + 1 := rfl
    rw [hl] at h
    have hmul : (j + (vs.length + 1)) * k = j * k + k + vs.length * k := by rw [Nat.add_mul, Nat.add_mul]; omega
    have hseg := foldl_seg (j * k) c 0 cs (by rw [hc]; omega)
    simp only [idxL, Instr.fill, hv]
    have e1 : ¬ ((c.toArray.size ≠ k || j * k + c.toArray.size > cs.size) = true) := by simp [hc]; omega
    rw [if_neg e1]
    have e2 : (c.toArray.zipIdx.foldl (fun cs (x : Value × Nat) => cs.setIfInBounds (j * k + x.2) x.1) cs) = (cs.toList.take (j * k) ++ (c ++ cs.toList.drop (j * k + (0 + c.length)))).toArray := by
      apply Array.ext'
      rw [Nat.add_zero] at hseg
      rw [← Array.foldl_toList]
      refine Eq.trans ?_ hseg
      simp
    have ih := fill_rows vs css (j + 1) (cs.toList.take (j * k) ++ (c ++ cs.toList.drop (j * k + (0 + c.length)))).toArray hr (by
      simp [hc]
      rw [Nat.min_eq_left (by omega), Nat.add_mul, Nat.add_mul]
      omega)
    refine (congrArg (fun q => Instr.fill _ q _) e2).trans (ih.trans ?_)
    congr 1
    apply Array.ext'
    simp only [List.flatten_cons]
    rw [← List.append_assoc, ← List.append_assoc]
    rw [List.take_append_of_le_length (by simp [hc, Nat.add_mul]; omega), List.take_of_length_le (by simp [hc, Nat.add_mul]; omega)]
  | [], _ :: _, _, _, h, _ => h.elim
  | _ :: _, [], _, _, h, _ => h.elim
section
variable {F0 : Nat → Prop} {M : List Nat} {w0 w w' : World} {fr : List Pr} {ow : List It} {i j : Nat} {e : TypeId} {v : Value} {cs : List Value}
variable {P : Program} {n d : Nat} {Q : Post} {ρ : Env} {ops : Array Oper} {o : Oper} {rest : List Oper}
theorem run_litK {T m k : Nat} {z : List Value} {vs : List Value} {css : List (List Value)} (hT : elemT P T = some e) (hk : szT P e = some k) (hz : zeroT P e = some z) (hzk : z.length = k) (h1 : catL k vs css) (hn : vs.length = m) (hk0 : Nat.blt 0 k = true) (hm : Nat.blt 0 m = true) (hm2 : Nat.ble (m * k) 100000 = true) :
    (Instr.buildSlice T m (idxL 0 vs).toArray).run P w = .ok (.slice (some ⟨w.heap.size, 0, none⟩) m m) (w.alloc (.cells css.flatten.toArray e)) := by
  obtain ⟨zv, hzv, hzc⟩ := run_zeroValue (P := P) (w := w) hz
  have hm' : 0 < m := by simpa using hm
  have hk' : 0 < k := by simpa using hk0
  have hm2' : m * k ≤ 100000 := by simpa using hm2
  have hpos : 0 < m * k := Nat.mul_pos hm' hk'
  have n1 : ¬ 16777216 < m * k := by omega
  have n2 : ¬ m * k = 0 := by omega
  have n3 : ¬ (m = 0 ∨ k = 0) := by omega
  have hf := fill_rows vs css 0 ((Array.range (m * k)).map (z.toArray[· % z.toArray.size]!)) h1 (by simp [hn])
  have hnr := run_newRow (P := P) (w := w) e css.flatten
  have hr : (Array.range (m * k)).map (fun x => z.toArray[x % z.toArray.size]!) = (Array.range (m * k)).map (z.toArray[· % z.toArray.size]!) := rfl
  unfold Instr.buildSlice
  simp only [Sem.run_bind, run_underlying (und_elem hT), Result.andThen_ok, run_sizeOf' hk, Sem.run_pure]
  simp only [Nat.zero_mul, List.take_zero, List.nil_append] at hf
  simp [n1, n2, hzv, hzc]
  simp only [List.size_toArray] at hf
  simp at hf
  rw [hf]
  simp [hnr]
/-- a literal of several elements that lead to no memory -/
theorem WL.litK {α : Type} [Sep α] {T m k : Nat} {z : List Value} {parts : Array (Nat × Operand)} {vs : List Value} {css : List (List Value)} {xs : List α} (hg : o.guard = none) (hd : o.dst = some d) (ho : o.op = .buildSlice T m parts) (hT : elemT P T = some e) (hk : szT P e = some k) (hz : zeroT P e = some z) (hzk : z.length = k)
    (hp : parts.toList.map (fun p => (p.1, E.ev ρ p.2)) = idxL 0 vs) (h1 : catL k vs css) (hn : vs.length = m) (hk0 : Nat.blt 0 k = true) (hm : Nat.blt 0 m = true) (hm2 : Nat.ble (m * k) 100000 = true) (hx : ∀ w, ownL w [] xs css.flatten) (hs : Rep.sz α = k) (hlen : xs.length = m) (H : HL F0 M w0 w fr ow)
    (h : ∀ A q c w', HL F0 M w0 w' fr (ow ++ [It.O e xs (.slice A q c)]) → WL P n ops Q rest (upd ρ d (.slice A q c)) w') : WL P n ops Q (o :: rest) ρ w :=
  WL.step hg fun a K ha hok hK => by
    unfold Oper.wp
    rw [execOp_ev ha hok]
    have hp' : parts.map (fun p => (p.1, E.ev ρ p.2)) = (idxL 0 vs).toArray := by
      apply Array.ext'; simpa using hp
    have hr := run_litK (P := P) (w := w) hT hk hz hzk h1 hn hk0 hm hm2
    simp only [execOp, ho, hp', Sem.run_bind, hr, Result.andThen_ok, Sem.run_pure]
    refine hK _ _ (by
      rw [hd]
      refine h _ _ _ _ ?_
      have hm2' : m * k ≤ 100000 := by simpa using hm2
      have hk' : 0 < k := by simpa using hk0
      have : m ≤ m * k := Nat.le_mul_of_pos_right m hk'
      have hml : xs.length ≤ maxLen := by show _ ≤ 9223372036854775807; omega
      have := H.newO (xs := xs) (C := []) (Ext.alloc w (.cells css.flatten.toArray e)) (Nat.le_refl _) (blk_alloc w e css.flatten) (hx _) List.nodup_nil (by simp) hml
      rw [hlen] at this
      exact this)
/-- a literal of several elements that are only read from here on -/
theorem WL.litG {α : Type} [Rep α] {T m k : Nat} {z : List Value} {parts : Array (Nat × Operand)} {vs : List Value} {css : List (List Value)} {xs : List α} (hg : o.guard = none) (hd : o.dst = some d) (ho : o.op = .buildSlice T m parts) (hT : elemT P T = some e) (hk : szT P e = some k) (hz : zeroT P e = some z) (hzk : z.length = k)
    (hp : parts.toList.map (fun p => (p.1, E.ev ρ p.2)) = idxL 0 vs) (h1 : catL k vs css) (hn : vs.length = m) (hk0 : Nat.blt 0 k = true) (hm : Nat.blt 0 m = true) (hm2 : Nat.ble (m * k) 100000 = true) (hx : ∀ F, AllP F w fr → rdL F w xs css.flatten) (hs : Rep.sz α = k) (hlen : xs.length = m) (H : HL F0 M w0 w fr ow)
    (h : ∀ A q c w', HL F0 M w0 w' fr (ow ++ [It.G e xs (.slice A q c)]) → WL P n ops Q rest (upd ρ d (.slice A q c)) w') : WL P n ops Q (o :: rest) ρ w :=
  WL.step hg fun a K ha hok hK => by
    unfold Oper.wp
    rw [execOp_ev ha hok]
    have hp' : parts.map (fun p => (p.1, E.ev ρ p.2)) = (idxL 0 vs).toArray := by
      apply Array.ext'; simpa using hp
    have hr := run_litK (P := P) (w := w) hT hk hz hzk h1 hn hk0 hm hm2
    simp only [execOp, ho, hp', Sem.run_bind, hr, Result.andThen_ok, Sem.run_pure]
    refine hK _ _ (by
      rw [hd]
      refine h _ _ _ _ ?_
      have hm2' : m * k ≤ 100000 := by simpa using hm2
      have hk' : 0 < k := by simpa using hk0
      have : m ≤ m * k := Nat.le_mul_of_pos_right m hk'
      have hml : xs.length ≤ maxLen := by show _ ≤ 9223372036854775807; omega
      have hE := Ext.alloc w (.cells css.flatten.toArray e)
      have H1 := H.new1 (o := It.emp) (L := []) (C := []) (Ext.refl w) (fun _ => ⟨rfl, rfl⟩) (by simp) (by simp) fun _ _ _ _ _ h => h
      obtain ⟨F, L, C, hP, hnF, ⟨hL, hC⟩, hN, hF, hupd⟩ := H1.updP (i := ow.length) (o := It.emp) (by simp)
      subst hL; subst hC
      have hB := blk_alloc w e css.flatten
      have h2 := hupd (o' := It.G e xs (.slice (some ⟨w.heap.size, 0, none⟩) xs.length xs.length)) (L' := [w.heap.size]) (C' := []) (hE.mono fun q _ e => e.elim) (fun F' hm => ⟨css.flatten, .inl ⟨Own.of_blk hB (by rw [h1.len, hs, hlen, hn]) (Nat.zero_le _) hml, rfl⟩, rfl, ((hx F hP).frame fun b _ hl => hE.block b hl id).mono hm⟩) (by simp) (fun q hq => by simp at hq; right; omega) (by simp)
      rw [List.set_append_right _ _ (Nat.le_refl _), Nat.sub_self, List.set_cons_zero, hlen] at h2
      exact h2)
end
theorem ownL.consK {α : Type} [Sep α] {w : World} {x : α} {xs : List α} {c r : List Value} (h : own [] w x c) (h2 : ownL w [] xs r) : ownL w [] (x :: xs) (c ++ r) := ⟨[], [], c, r, rfl, rfl, h, h2⟩
theorem rdL.consK {α : Type} [Rep α] {S : Nat → Prop} {w : World} {x : α} {xs : List α} {c r : List Value} (h : rd S w x c) (h2 : rdL S w xs r) : rdL S w (x :: xs) (c ++ r) := ⟨c, r, rfl, h, h2⟩
section
variable {F0 : Nat → Prop} {M : List Nat} {w0 w w' : World} {fr : List Pr} {ow : List It} {i j : Nat} {e : TypeId} {v u : Value} {cs : List Value}
variable {P : Program} {n d : Nat} {Q : Post} {ρ : Env} {ops : Array Oper} {o : Oper} {rest : List Oper}
end
end Go.E
/- A small engine for walks, second series, part 33: calls that write to some items and hand back views, and rows whose elements are only read. Plain theorems; nothing here speaks of one program. -/
namespace Go.E
open Go
open Rep (rd)
open Sep (own)
section
variable {F0 : Nat → Prop} {M : List Nat} {w0 w w' : World} {fr : List Pr} {ow : List It} {i j : Nat} {e : TypeId} {v : Value} {cs : List Value}
/-- A call that is handed the marked items, to write to as well, and hands back views of what no longer turns. -/
theorem HL.callWM (m : List Bool) (H : HL F0 M w0 w fr ow) (hC : NoC (maskL m ow)) :
    ∃ F' M', AllP F' w fr ∧
      ∀ {ps : List Pr}, AllP F' w ps → HL F' M' w w ps (maskL m ow) ∧
        ∀ {w' : World} {rs : List Pr} {ow1 ow2 : List It}, HL F' M' w w' rs (ow1 ++ ow2) → ow1.length = (maskL m ow).length → HL F0 M w0 w' (fr ++ rs) (mergeL m ow ow1 ++ ow2) := by
  obtain ⟨Fr, LC, h1, h2, h3, h4, h5, h6⟩ := H
  obtain ⟨hm, hr⟩ := h3.mask m
  have hlt := h3.lt
  have hp := blks_perm m LC
  have hcm := hC.claims hm
  have h4p := List.nodup_append.1 (perm_nodup_append h4 hp)
  have h4q := List.nodup_append.1 h4p.2.1
  -- what may be read
  have hF : ∀ q, fz F0 w0 M (Fr ++ claims LC) q → q < w.heap.size → q < w.heap.size ∧ q ∉ blks (maskL m LC) := fun q hq hl => ⟨hl, fun hb => by
    rcases hq with ⟨_, g1, g2⟩ | hq
    · rcases h6 q (List.mem_append.2 (.inr (hp.mem_iff.2 (List.mem_append.2 (.inl hb))))) with h | h
      · exact g2 h
      · omega
    · rcases List.mem_append.1 hq with hq | hq
      · exact h4p.2.2 q hq q (List.mem_append.2 (.inl hb)) rfl
      · rcases claims_mask m LC q hq with h | h
        · rw [hcm] at h; simp at h
        · exact h4q.2.2 q hb q (claims_blks h) rfl⟩
  have hFl : ∀ q, fz F0 w0 M (Fr ++ claims LC) q → q < w.heap.size := fun q hq => by
    rcases hq with ⟨_, g1, _⟩ | hq
    · exact Nat.lt_of_lt_of_le g1 h1.size
    · rcases List.mem_append.1 hq with hq | hq
      · exact h5 q hq
      · exact hlt q (claims_blks hq)
  refine ⟨fz F0 w0 M (Fr ++ claims LC), blks (maskL m LC), h2, fun {ps} hps => ⟨?_, ?_⟩⟩
  · refine ⟨[], maskL m LC, Chg.refl w, hps.mono fun q hq => .inl ⟨hq, hFl q hq, (hF q hq (hFl q hq)).2⟩, AllI.trans (fun q hq => .inl ⟨hq, hFl q hq, (hF q hq (hFl q hq)).2⟩) (fun _ _ _ => rfl) hm fun _ _ => rfl, by simpa using h4q.1, by simp, fun q hq => .inl (by simpa using hq)⟩
  · rintro w' rs ow1 ow2 ⟨Fr2, LC2, k1, k2, k3, k4, k5, k6⟩ hn
    obtain ⟨A2, B2, rfl, ka, kb⟩ := k3.unapp
    have hA2 : A2.length = (maskL m LC).length := by rw [← ka.length, hn, hm.length]
    have hpm := blks_merge m LC A2 hA2
    have hcm2 := claims_merge m LC A2 hA2
    have hs1 : ∀ q, fz F0 w0 M (Fr ++ claims LC) q → fz F0 w0 M ((Fr ++ Fr2) ++ claims (mergeL m LC A2 ++ B2)) q := fz_sub fun q hq => by
      rw [claims_app]
      simp only [List.mem_append, hcm2] at hq ⊢
      rcases hq with h | h
      · simp [h]
      · rcases claims_mask m LC q h with h | h
        · rw [hcm] at h; simp at h
        · simp [h]
    have hs2 : ∀ q, fz (fz F0 w0 M (Fr ++ claims LC)) w (blks (maskL m LC)) (Fr2 ++ claims (A2 ++ B2)) q → fz F0 w0 M ((Fr ++ Fr2) ++ claims (mergeL m LC A2 ++ B2)) q := fun q hq => by
      rcases hq with ⟨h, _, _⟩ | h
      · exact hs1 q h
      · refine .inr ?_
        rw [claims_app] at h ⊢
        simp only [List.mem_append, hcm2] at h ⊢
        rcases h with h | h | h <;> simp [h]
    have hfr : ∀ q, fz F0 w0 M (Fr ++ claims LC) q → q < w.heap.size → w'.heap[q]? = w.heap[q]? := fun q hq hl => k1.block q hl fun hm => (hF q hq hl).2 hm
    have k6' : ∀ q ∈ Fr2 ++ blks (A2 ++ B2), q ∈ blks (maskL m LC) ∨ w.heap.size ≤ q := k6
    have hrl : ∀ q ∈ blks (restL m LC), q < w.heap.size ∧ q ∉ blks (maskL m LC) := fun q hq => ⟨hlt q (hp.mem_iff.2 (List.mem_append.2 (.inr hq))), fun hm => h4q.2.2 q hm q hq rfl⟩
    have hFr : ∀ q ∈ Fr, q < w.heap.size ∧ q ∉ blks (maskL m LC) := fun q hq => ⟨h5 q hq, fun hm => h4p.2.2 q hq q (List.mem_append.2 (.inl hm)) rfl⟩
    have hpb : (blks (mergeL m LC A2 ++ B2)).Perm (blks (A2 ++ B2) ++ blks (restL m LC)) := by
      rw [blks_app, blks_app]
      refine (hpm.append_right _).trans ?_
      rw [List.append_assoc, List.append_assoc]
      exact List.Perm.append_left _ List.perm_append_comm
    refine ⟨Fr ++ Fr2, mergeL m LC A2 ++ B2, ?_, ((h2.frame hfr).mono hs1).app (k2.mono hs2), ?_, ?_, ?_, ?_⟩
    · refine ⟨k1.os.trans h1.os, k1.tape.trans h1.tape, k1.output.trans h1.output, Nat.le_trans h1.size k1.size, fun k hk hnm => ?_⟩
      refine (k1.block k (Nat.lt_of_lt_of_le hk h1.size) fun hl => ?_).trans (h1.block k hk hnm)
      rcases h6 k (List.mem_append.2 (.inr (hp.mem_iff.2 (List.mem_append.2 (.inl hl))))) with h | h
      · exact hnm h
      · omega
    · exact AllI.app (AllI.merge m h3.length (AllI.trans hs1 hfr hr fun q hq => k1.block q (hrl q hq).1 (hrl q hq).2) (AllI.trans hs2 (fun _ _ _ => rfl) ka fun _ _ => rfl) hn) (AllI.trans hs2 (fun _ _ _ => rfl) kb fun _ _ => rfl)
    · refine (List.Perm.append_left _ hpb).nodup_iff.2 ?_
      have k4' := List.nodup_append.1 k4
      rw [List.append_assoc, List.nodup_append]
      refine ⟨h4p.1, ?_, fun x hx y hy e => ?_⟩
      · rw [← List.append_assoc, List.nodup_append]
        refine ⟨k4, h4q.2.1, fun x hx y hy e => ?_⟩
        subst e
        have := hrl x hy
        rcases k6' x hx with h | h
        · exact this.2 h
        · omega
      · subst e
        have := hFr x hx
        rcases List.mem_append.1 hy with hy | hy
        · rcases k6' x (List.mem_append.2 (.inl hy)) with h | h
          · exact this.2 h
          · omega
        · rcases List.mem_append.1 hy with hy | hy
          · rcases k6' x (List.mem_append.2 (.inr hy)) with h | h
            · exact this.2 h
            · omega
          · exact h4p.2.2 x hx x (List.mem_append.2 (.inr hy)) rfl
    · intro q hq
      rcases List.mem_append.1 hq with h | h
      · exact Nat.lt_of_lt_of_le (h5 q h) k1.size
      · exact k5 q h
    · intro q hq
      have conv : ∀ q ∈ Fr2 ++ blks (A2 ++ B2), q ∈ M ∨ w0.heap.size ≤ q := fun q hq => by
        rcases k6' q hq with h | h
        · exact h6 q (List.mem_append.2 (.inr (hp.mem_iff.2 (List.mem_append.2 (.inl h)))))
        · exact .inr (Nat.le_trans h1.size h)
      rcases List.mem_append.1 hq with hq | hq
      · rcases List.mem_append.1 hq with hq | hq
        · exact h6 q (List.mem_append.2 (.inl hq))
        · exact conv q (List.mem_append.2 (.inl hq))
      · rcases List.mem_append.1 (hpb.mem_iff.1 hq) with hq | hq
        · exact conv q (List.mem_append.2 (.inr hq))
        · exact h6 q (List.mem_append.2 (.inr (hp.mem_iff.2 (List.mem_append.2 (.inr hq)))))
theorem HL.callW (m : List Bool) (H : HL F0 M w0 w fr ow) (hC : NoC (maskL m ow)) :
    ∃ F' M', AllP F' w fr ∧
      ∀ {ps : List Pr}, AllP F' w ps → HL F' M' w w ps (maskL m ow) ∧
        ∀ {w' : World} {rs : List Pr} {l : List It} (n : Nat), HL F' M' w w' rs l → (l.take n).length = (maskL m ow).length → HL F0 M w0 w' (fr ++ rs) (mergeL m ow (l.take n) ++ l.drop n) := by
  obtain ⟨F', M', h1, h3⟩ := H.callWM m hC
  refine ⟨F', M', h1, fun hps => ⟨(h3 hps).1, fun n H2 hn => ?_⟩⟩
  exact (h3 hps).2 (by rwa [List.take_append_drop]) hn
end
end Go.E
/- A small engine for walks, second series, part 34: what a function gives back. Plain theorems; nothing here speaks of one program. -/
namespace Go.E
open Go
section
variable {P : Program} {ρ : Env} {w : World}
theorem res_ttt {fn : Func} {t0 : Nat} {u0 : Value} {t1 : Nat} {u1 : Value} {t2 : Nat} {u2 : Value} (hr : fn.results = #[.tmp t0, .tmp t1, .tmp t2]) (ht0 : Nat.blt t0 fn.ntmps = true) (hu0 : ρ t0 = u0) (ht1 : Nat.blt t1 fn.ntmps = true) (hu1 : ρ t1 = u1) (ht2 : Nat.blt t2 fn.ntmps = true) (hu2 : ρ t2 = u2) : ∀ a : Act, Rel fn.ntmps ρ a → (results fn a.tmps).run P w = .ok (.tuple #[u0, u1, u2]) w := fun a ha => by
  have h0 : a.tmps.getD t0 undef = u0 := (ha.at_ t0 (by simpa using ht0)).trans hu0
  have h1 : a.tmps.getD t1 undef = u1 := (ha.at_ t1 (by simpa using ht1)).trans hu1
  have h2 : a.tmps.getD t2 undef = u2 := (ha.at_ t2 (by simpa using ht2)).trans hu2
  simp only [Array.getD_eq_getD_getElem?] at h0 h1 h2
  simp [results, hr, h0, h1, h2]
end
end Go.E
/- Lists in strict order: plain lemmas; nothing here speaks of one program. -/
namespace Go.E
section
variable {α : Type} {lt : α → α → Bool}
/-- two lists in strict order with the same elements are the same -/
theorem strict_ext (irr : ∀ a, lt a a = false) (tr : ∀ a b c, lt a b = true → lt b c = true → lt a c = true) :
    ∀ {xs ys : List α}, xs.Pairwise (fun a b => lt a b = true) → ys.Pairwise (fun a b => lt a b = true) → (∀ a, a ∈ xs ↔ a ∈ ys) → xs = ys
  | [], [], _, _, _ => rfl
  | [], y :: ys, _, _, h => absurd ((h y).2 (by simp)) (by simp)
  | x :: xs, [], _, _, h => absurd ((h x).1 (by simp)) (by simp)
  | x :: xs, y :: ys, hx, hy, h => by
    rw [List.pairwise_cons] at hx hy
    have asym : ∀ a b, lt a b = true → lt b a = true → False := fun a b h1 h2 => by have := tr a b a h1 h2; rw [irr] at this; cases this
    have hxy : x = y := by
      have h1 := (h x).1 (by simp)
      have h2 := (h y).2 (by simp)
      rcases List.mem_cons.1 h1 with e | h1
      · exact e
      rcases List.mem_cons.1 h2 with e | h2
      · exact e.symm
      exact (asym x y (hx.1 y h2) (hy.1 x h1)).elim
    subst hxy
    congr 1
    refine strict_ext irr tr hx.2 hy.2 fun a => ?_
    constructor
    · intro ha
      rcases List.mem_cons.1 ((h a).1 (by simp [ha])) with e | h1
      · subst e; have := hx.1 _ ha; rw [irr] at this; cases this
      · exact h1
    · intro ha
      rcases List.mem_cons.1 ((h a).2 (by simp [ha])) with e | h1
      · subst e; have := hy.1 _ ha; rw [irr] at this; cases this
      · exact h1
/-- an element put in its place keeps the strict order -/
theorem put_strict (tr : ∀ a b c, lt a b = true → lt b c = true → lt a c = true) (tot : ∀ a b, lt a b = false → lt b a = false → a = b) {l : List α} {o : α} {k : Nat} (hl : l.Pairwise (fun a b => lt a b = true))
    (hb : ∀ a ∈ l.take k, lt a o = true) (ha : ∀ y, l[k]? = some y → lt y o = false ∧ y ≠ o) : (l.take k ++ o :: l.drop k).Pairwise (fun a b => lt a b = true) := by
  have hs : (l.take k ++ l.drop k).Pairwise (fun a b => lt a b = true) := by rw [List.take_append_drop]; exact hl
  rw [List.pairwise_append] at hs
  have ho : ∀ z ∈ l.drop k, lt o z = true := by
    cases hd : l.drop k with
    | nil => intro z hz; cases hz
    | cons y r =>
      have hy : l[k]? = some y := by
        have : (l.drop k)[0]? = some y := by rw [hd]; rfl
        simpa using this
      obtain ⟨h1, h2⟩ := ha y hy
      have h3 : lt o y = true := by
        cases h : lt o y with
        | true => rfl
        | false => exact absurd (tot _ _ h1 h) h2
      intro z hz
      rcases List.mem_cons.1 hz with e | hz
      · rw [e]; exact h3
      · have := hs.2.1; rw [hd, List.pairwise_cons] at this
        exact tr _ _ _ h3 (this.1 z hz)
  rw [List.pairwise_append, List.pairwise_cons]
  refine ⟨hs.1, ⟨ho, hs.2.1⟩, fun a h1 b h2 => ?_⟩
  rcases List.mem_cons.1 h2 with e | h2
  · rw [e]; exact hb a h1
  · exact hs.2.2 a h1 b h2
end
section
variable {α : Type} [DecidableEq α] {lt : α → α → Bool}
/-- without doubles side by side -/
def compactL : List α → List α
  | [] => []
  | [x] => [x]
  | x :: y :: l => if x = y then compactL (y :: l) else x :: compactL (y :: l)
theorem mem_compactL {a : α} : ∀ {l : List α}, a ∈ compactL l ↔ a ∈ l
  | [] => Iff.rfl
  | [x] => Iff.rfl
  | x :: y :: l => by
    unfold compactL
    have ih := mem_compactL (a := a) (l := y :: l)
    split
    · rename_i e; subst e; rw [ih]; simp
    · rw [List.mem_cons, ih]; simp
theorem compactL_len : ∀ {l : List α}, (compactL l).length ≤ l.length
  | [] => Nat.le_refl _
  | [x] => Nat.le_refl _
  | x :: y :: l => by
    unfold compactL
    have ih := compactL_len (l := y :: l)
    simp only [List.length_cons] at ih ⊢
    split
    · omega
    · simp only [List.length_cons]; omega
theorem compactL_strict (tr : ∀ a b c, lt a b = true → lt b c = true → lt a c = true) (tot : ∀ a b, lt a b = false → lt b a = false → a = b) :
    ∀ {l : List α}, l.Pairwise (fun a b => lt b a = false) → (compactL l).Pairwise (fun a b => lt a b = true)
  | [], _ => List.Pairwise.nil
  | [x], _ => by simp [compactL]
  | x :: y :: l, h => by
    unfold compactL
    rw [List.pairwise_cons] at h
    have ih := compactL_strict tr tot h.2
    split
    · exact ih
    · rename_i hne
      rw [List.pairwise_cons]
      refine ⟨fun z hz => ?_, ih⟩
      have h1 : lt x y = true := by
        cases e : lt x y with
        | true => rfl
        | false => exact absurd (tot _ _ e (h.1 y (by simp))) hne
      rcases List.mem_cons.1 (mem_compactL.1 hz) with e | hz
      · rw [e]; exact h1
      · have h2 := (List.pairwise_cons.1 h.2).1 z hz
        cases e : lt y z with
        | true => exact tr _ _ _ h1 e
        | false => rw [← tot _ _ e h2]; exact h1
/-- one element more at the end -/
theorem compactL_snoc {a : α} : ∀ {l : List α}, compactL (l ++ [a]) = if l.getLast? = some a then compactL l else compactL l ++ [a]
  | [] => by simp [compactL]
  | [x] => by
    simp only [compactL, List.cons_append, List.nil_append, List.getLast?_singleton, Option.some.injEq]
    by_cases e : x = a
    · subst e; simp
    · simp [e]
  | x :: y :: l => by
    have ih := compactL_snoc (a := a) (l := y :: l)
    simp only [List.cons_append] at ih ⊢
    have e : (x :: y :: l).getLast? = (y :: l).getLast? := by simp [List.getLast?_cons_cons]
    rw [e]
    show (if x = y then compactL (y :: (l ++ [a])) else x :: compactL (y :: (l ++ [a]))) = _
    rw [ih]
    show _ = if (y :: l).getLast? = some a then (if x = y then compactL (y :: l) else x :: compactL (y :: l)) else (if x = y then compactL (y :: l) else x :: compactL (y :: l)) ++ [a]
    split <;> split <;> simp
/-- one step of the loop that goes on with k elements kept -/
theorem compactL_take {l : List α} {i : Nat} {a b : α} (ha : l[i]? = some a) (hb : l[i + 1]? = some b) : compactL (l.take (i + 2)) = if a = b then compactL (l.take (i + 1)) else compactL (l.take (i + 1)) ++ [b] := by
  have h1 : l.take (i + 2) = l.take (i + 1) ++ [b] := by rw [show i + 2 = (i + 1) + 1 from rfl, List.take_add_one, hb]; rfl
  have h2 : (l.take (i + 1)).getLast? = some a := by rw [List.take_add_one, ha]; simp
  rw [h1, compactL_snoc, h2]
  by_cases e : a = b
  · simp [e]
  · simp [e]
end
end Go.E

