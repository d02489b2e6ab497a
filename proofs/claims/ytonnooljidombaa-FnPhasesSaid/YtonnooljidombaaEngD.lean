/- A small engine for walks through a Go program: plain lemmas on the model, without conditions of their own. -/
import Derived.Test.YtonnooljidombaaEngC
import Derived.Sort.Grow
import Derived.Deep.Draws
import Derived.Shelf.GgSortFunc.RowK
import Derived.OrdersHeld
set_option linter.unusedVariables false
set_option linter.unusedSimpArgs false
set_option linter.ambiguousOpen false
set_option linter.unusedSectionVars false
set_option linter.unnecessarySimpa false
/- A small engine for walks, second series, part 18: regions in any order, over any relation between worlds; worlds that have only grown. Plain theorems; nothing here speaks of one program. -/
namespace Go.E
open Go
section
variable {P : Program} {n : Nat} {Q : Post} {ρ : Env} {w : World} {ops : Array Oper} {o : Oper} {rest : List Oper} {C : World → Prop} {F : Env → Prop} {R : World → World → Prop}
/-- a region whose operations each give one value in every world of C: the walk in the order of the text -/
def QC (R : World → World → Prop) (P : Program) (n : Nat) (ops : Array Oper) (C : World → Prop) (F : Env → Prop) : List Oper → Env → Prop
  | [], ρ => F ρ
  | o :: rest, ρ => ∃ v, (∀ w, C w → OpQ P ops (R w) o ρ w v) ∧ QC R P n ops C F rest (E.put ρ o.dst v)
theorem QC.nil (h : F ρ) : QC R P n ops C F [] ρ := h
theorem QC.ev {v : Value} {d : Nat} (hg : o.guard = none) (hd : o.dst = some d) (he : ∀ w, C w → Ev P ρ o w v) (h : QC R P n ops C F rest (upd ρ d v)) : QC R P n ops C F (o :: rest) ρ :=
  ⟨v, fun w hw => .inl ⟨by simp [gate, hg], by rw [he w hw]; exact ⟨rfl, rfl⟩⟩, by rw [hd]; exact h⟩
theorem QC.on (_hG : okGuards n ops = true) (hg : gate ops ρ o = true) (h : QC R P n ops C F ({ o with guard := none } :: rest) ρ) : QC R P n ops C F (o :: rest) ρ := by
  obtain ⟨v, h1, h2⟩ := h
  refine ⟨v, fun w hw => .inl ⟨hg, ?_⟩, h2⟩
  rcases h1 w hw with h3 | h3
  · exact h3.2
  · exact absurd h3.1 (by simp [gate])
theorem QC.off {d : Nat} (_hG : okGuards n ops = true) (hg : gate ops ρ o = false) (hd : o.dst = some d) (h : QC R P n ops C F rest (upd ρ d undef)) : QC R P n ops C F (o :: rest) ρ :=
  ⟨undef, fun _ _ => .inr ⟨hg, rfl⟩, by rw [hd]; exact h⟩
/-- a call that gives the same value in every world of C -/
theorem QC.call {c : Call} {f : FuncId} {x : Operand} {caps : Array Value} {args : List Value} {v : Value} {d : Nat} (hg : o.guard = none) (hd : o.dst = some d) (ho : o.op = .call c) (hx : c.callee = .value x) (hf : E.ev ρ x = .func (.func f) #[] caps)
    (hc : callable P f = true) (ha : c.args.toList.map (E.ev ρ) ++ caps.toList = args) (hr : ∀ w, C w → Ret P f args.toArray w (fun _ => False) fun u w' => u = v ∧ R w w')
    (h : QC R P n ops C F rest (upd ρ d v)) : QC R P n ops C F (o :: rest) ρ := by
  refine ⟨v, fun w hw => .inl ⟨by simp [gate, hg], ?_⟩, by rw [hd]; exact h⟩
  simp only [execOp, ho]
  rw [run_call hx hf hc ha]
  exact ⟨rfl, Calls.mono (hr w hw) fun _ _ ⟨_, he, _, hv, hch⟩ => ⟨by rw [he, hv], hch⟩⟩
/-- what is asked of each operation of the head -/
def stepsC (R : World → World → Prop) (P : Program) (n : Nat) (ops : Array Oper) (h : Nat) (D : Nat → List Nat) (Ψ : Nat → List Value → World → Prop) (ρ : Env) (w : World) : Nat → List Oper → Prop
  | _, [] => True
  | i, o :: l => (∀ ρ' w', R w w' → (∀ t, (∀ j, j < h → dstOf ops j ≠ some t) → ρ' t = ρ t) → (∀ j, (directs o).contains j = true → Ψ j ((D j).map ρ') w') →
      OpW P n ops o ρ' w' (fun v w'' => R w' w'' ∧ Ψ i ((D i).map (E.put ρ' o.dst v)) w'')) ∧ stepsC R P n ops h D Ψ ρ w (i + 1) l

theorem stepsC.get {h : Nat} {D : Nat → List Nat} {Ψ : Nat → List Value → World → Prop} : ∀ (l : List Oper) (k i : Nat) (o : Oper), stepsC R P n ops h D Ψ ρ w k l → l[i]? = some o →
    (∀ ρ' w', R w w' → (∀ t, (∀ j, j < h → dstOf ops j ≠ some t) → ρ' t = ρ t) → (∀ j, (directs o).contains j = true → Ψ j ((D j).map ρ') w') →
      OpW P n ops o ρ' w' (fun v w'' => R w' w'' ∧ Ψ (k + i) ((D (k + i)).map (E.put ρ' o.dst v)) w''))
  | [], _, _, _, _, hh => by simp at hh
  | x :: l, k, 0, o, hs, hh => by simp at hh; subst hh; exact hs.1
  | x :: l, k, i + 1, o, hs, hh => by
    have := stepsC.get l (k + 1) i o hs.2 (by simpa using hh)
    rwa [Nat.add_right_comm] at this

/-- the state of the walk through an open order -/
structure InvC (R : World → World → Prop) (n : Nat) (ops : Array Oper) (h : Nat) (D : Nat → List Nat) (Ψ : Nat → List Value → World → Prop) (ρ0 : Env) (w0 : World) (listed : Array Bool) (ρ : Env) (w : World) : Prop where
  head : HeadInv .any ops h listed
  ext : R w0 w
  out : ∀ t, (∀ j, j < h → dstOf ops j ≠ some t) → ρ t = ρ0 t
  known : ∀ j, j < h → listed.getD j false = true → Ψ j ((D j).map ρ) w

section loose
variable {h : Nat} {D : Nat → List Nat}
theorem QC.vals : ∀ (l : List Oper) (k : Nat) (ρ : Env), (∀ j, l[j]? = if j < l.length then ops[k + j]? else none) → (∀ i j, i < j → j < k + l.length → ∀ t, dstOf ops i = some t → dstOf ops j ≠ some t) → QC R P n ops C F l ρ →
    ∃ (vs : Nat → Value) (ρe : Env), F ρe ∧ (∀ t, (∀ j, k ≤ j → j < k + l.length → dstOf ops j ≠ some t) → ρe t = ρ t) ∧
      ∀ j o, k ≤ j → j < k + l.length → ops[j]? = some o → (∀ d, o.dst = some d → ρe d = vs j) ∧
        ∃ ρj : Env, (∀ t, (∀ i, j ≤ i → i < k + l.length → dstOf ops i ≠ some t) → ρj t = ρe t) ∧ ∀ w, C w → OpQ P ops (R w) o ρj w (vs j)
  | [], k, ρ, _, _, h => ⟨fun _ => undef, ρ, h, fun _ _ => rfl, fun j o h1 h2 => by simp at h2; omega⟩
  | o :: l, k, ρ, hl, hd, h => by
    obtain ⟨v, h1, h2⟩ := h
    have hlen : k + 1 + l.length = k + (o :: l).length := by simp; omega
    obtain ⟨vs, ρe, hF, hout, hvs⟩ := QC.vals l (k + 1) (E.put ρ o.dst v) (fun j => by
      have := hl (j + 1)
      simp only [List.getElem?_cons_succ, List.length_cons] at this
      rw [this]
      by_cases hj : j < l.length
      · rw [if_pos (by omega), if_pos hj]; congr 1; omega
      · rw [if_neg (by omega), if_neg hj]) (fun i j hij hj => hd i j hij (by omega)) h2
    have ho : ops[k]? = some o := by have := hl 0; simpa using this.symm
    refine ⟨fun j => if j = k then v else vs j, ρe, hF, fun t ht => ?_, fun j o' hj1 hj2 hoj => ?_⟩
    · rw [hout t (fun j a b => ht j (by omega) (by omega))]
      cases hdst : o.dst with
      | none => rfl
      | some d => exact upd_other _ _ fun e => ht k (Nat.le_refl _) (by simp) (by unfold dstOf; rw [ho]; simp [hdst, e])
    · by_cases hjk : j = k
      · subst hjk
        have : o' = o := Option.some.inj (hoj.symm.trans ho)
        subst this
        simp only [if_pos]
        refine ⟨fun d hdst => ?_, ρ, fun t ht => ?_, h1⟩
        · rw [hout d (fun i a b => hd j i (by omega) (by omega) d (by unfold dstOf; rw [ho]; exact hdst))]
          rw [hdst]; exact upd_same _ _ _
        · rw [hout t (fun i a b => ht i (by omega) (by omega))]
          cases hdst : o'.dst with
          | none => rfl
          | some d => exact (upd_other _ _ fun e => ht j (Nat.le_refl _) (by simp) (by unfold dstOf; rw [ho]; simp [hdst, e])).symm
      · obtain ⟨h3, ρj, h4, h5⟩ := hvs j o' (by omega) (by omega) hoj
        simp only [if_neg hjk]
        exact ⟨h3, ρj, fun t ht => h4 t fun i a b => ht i a (by omega), h5⟩

end loose
end
/-- new blocks and draws, and nothing else -/
def Gr (w w' : World) : Prop := ∃ q os, w' = Sort.grow (w.drewN q) os
theorem Gr.refl (w : World) : Gr w w := ⟨0, #[], by simp [Sort.grow, World.drewN]⟩
theorem Gr.trans {a b c : World} (h : Gr a b) (k : Gr b c) : Gr a c := by
  obtain ⟨q, os, rfl⟩ := h
  obtain ⟨q2, os2, rfl⟩ := k
  exact ⟨q + q2, os ++ os2, by simp [Sort.grow, World.drewN, Array.append_assoc, Nat.add_assoc]⟩
theorem Gr.alloc (w : World) (o : Obj) : Gr w (w.alloc o) := ⟨0, #[o], Sort.alloc_eq_grow w o⟩
theorem Gr.ext {w w' : World} (h : Gr w w') : Ext w w' := by
  obtain ⟨q, os, rfl⟩ := h
  refine ⟨rfl, rfl, rfl, by simp [Sort.grow, World.drewN], fun k hk _ => ?_⟩
  simp only [Sort.grow, World.drewN]
  rw [Array.getElem?_append_left hk]
section
variable {P : Program} {n d : Nat} {Q : Post} {ρ : Env} {w : World} {ops : Array Oper} {o : Oper} {rest : List Oper} {e : TypeId} {v : Value} {cs : List Value}
end
end Go.E
/- A small engine for walks, second series, part 19: rows that the sort of the library lays anew. Plain theorems; nothing here speaks of one program. -/
namespace Go.E
open Go
open Rep (rd)
open Sep (own)
section
variable {α : Type} [Sep α] {enc : α → List Value} {ok : α → Prop}
end
section
variable {α : Type} {enc : α → List Value} {k : Nat}
end
section
variable {α : Type} [Inhabited α] [Sep α] {enc : α → List Value} {ok : α → Prop} {F0 : Nat → Prop} {M : List Nat} {w0 w : World} {fr : List Pr} {ow : List It} {i : Nat} {e : TypeId}
end
end Go.E
/- A small engine for walks, second series, part 20: regions in any order in which calls write, in turn, to one variable (a cursor). Plain theorems; nothing here speaks of one program. -/
namespace Go.E
open Go
open Rep (rd)
open Sep (own)
theorem blks_mem : ∀ {LC : List (List Nat × List Nat)} {i : Nat} {L C : List Nat} {q : Nat}, LC[i]? = some (L, C) → q ∈ L ++ C → q ∈ blks LC
  | [], _, _, _, _, h, _ => by simp at h
  | (L', C') :: l, 0, L, C, q, h, hq => by
    simp only [List.getElem?_cons_zero, Option.some.injEq, Prod.mk.injEq] at h
    obtain ⟨rfl, rfl⟩ := h
    simp only [blks]; exact List.mem_append.2 (.inl hq)
  | (L', C') :: l, i + 1, L, C, q, h, hq => by
    simp only [blks]; exact List.mem_append.2 (.inr (blks_mem (by simpa using h) hq))
theorem blks_apart : ∀ {LC : List (List Nat × List Nat)}, (blks LC).Nodup → ∀ {i j : Nat} {L C L' C' : List Nat}, LC[i]? = some (L, C) → LC[j]? = some (L', C') → i ≠ j → ∀ q, q ∈ L ++ C → q ∈ L' ++ C' → False
  | [], _, _, _, _, _, _, _, h, _, _, _, _, _ => by simp at h
  | (L0, C0) :: l, hn, 0, 0, _, _, _, _, _, _, hij, _, _, _ => hij rfl
  | (L0, C0) :: l, hn, 0, j + 1, L, C, L', C', h1, h2, _, q, hq, hq' => by
    simp only [blks] at hn
    simp only [List.getElem?_cons_zero, Option.some.injEq, Prod.mk.injEq] at h1
    obtain ⟨rfl, rfl⟩ := h1
    exact (List.nodup_append.1 hn).2.2 q hq q (blks_mem (by simpa using h2) hq') rfl
  | (L0, C0) :: l, hn, i + 1, 0, L, C, L', C', h1, h2, _, q, hq, hq' => by
    simp only [blks] at hn
    simp only [List.getElem?_cons_zero, Option.some.injEq, Prod.mk.injEq] at h2
    obtain ⟨rfl, rfl⟩ := h2
    exact (List.nodup_append.1 hn).2.2 q hq' q (blks_mem (by simpa using h1) hq) rfl
  | (L0, C0) :: l, hn, i + 1, j + 1, L, C, L', C', h1, h2, hij, q, hq, hq' => by
    simp only [blks] at hn
    exact blks_apart (List.nodup_append.1 hn).2.1 (by simpa using h1) (by simpa using h2) (fun e => hij (by rw [e])) q hq hq'
/-- the cursor's block holds, behind so many calls, these cells -/
def ThB (b : Nat) (T : TypeId) (css : List (List Value)) (m : Nat) (w : World) : Prop := ∃ cs, css[m]? = some cs ∧ Blk w b T cs
section
variable {F0 : Nat → Prop} {M : List Nat} {w0 w w' : World} {fr ps : List Pr} {ow l : List It} {i j b m : Nat} {T : TypeId} {cs cs' : List Value} {S : Nat → Prop} {css : List (List Value)}
theorem RW.chgB (h : RW (fun q => q = b) w w') : Chg (· ∈ [b]) w w' := h.mono fun k hk hm => hm.elim (fun e => by simp [e]) fun h => by omega
theorem HL.turnB (H : HL F0 M w0 w fr ow) (hi : ow[i]? = some (It.B b T cs)) (hE : RW (fun q => q = b) w w') (hB : Blk w' b T cs') : HL F0 M w0 w' fr (ow.set i (It.B b T cs')) := by
  obtain ⟨F, L, C, ⟨rfl, rfl, hb⟩, hN, hF, hupd⟩ := H.upd hi
  exact hupd (L' := [b]) (C' := []) hE.chgB (fun _ _ => ⟨rfl, rfl, hB⟩) (by simp) (by simp) (by simp)
/-- what an operation of the chain may assume -/
theorem HL.chX (H : HL F0 M w0 w fr ow) (hi : ow[i]? = some (It.B b T cs)) (hm : css[m]? = some cs') : ∀ w', RW (fun q => q = b) w w' → ThB b T css m w' → HL F0 M w0 w' fr (ow.set i (It.B b T cs')) :=
  fun _ hE ⟨cs2, h1, hB⟩ => by
    obtain rfl : cs' = cs2 := Option.some.inj (hm.symm.trans h1)
    exact H.turnB hi hE hB
theorem ThB.mono (hb : b < w.heap.size) : ∀ m a c (T' : Nat → Prop), ThB b T css m a → Chg T' a c → (∀ q, T' q → w.heap.size ≤ q) → ThB b T css m c :=
  fun _ _ _ _ ⟨cs, h1, h2⟩ hc hT => ⟨cs, h1, (hc.block b h2.lt fun ht => absurd (hT b ht) (by omega)).trans h2⟩
/-- a call that is handed the variable, to write to, and may read the rest -/
theorem HL.seeB (H : HL F0 M w0 w fr ow) (hi : ow[i]? = some (It.B b T cs)) :
    ∃ F', AllP F' w fr ∧ (∀ (j : Nat) (o : It), j ≠ i → ow[j]? = some o → ∃ L C F'', o.p L C F'' w ∧ (∀ q ∈ L ++ C, F' q) ∧ ∀ q, F'' q → F' q) ∧
      ∀ {ps : List Pr}, AllP F' w ps → HL F' [b] w w ps [It.B b T cs] := by
  obtain ⟨Fr, LC, h1, h2, h3, h4, h5, h6⟩ := H
  have hlt := h3.lt
  have hFl : ∀ q, fz F0 w0 M (Fr ++ claims LC) q → q < w.heap.size := fun q hq => by
    rcases hq with ⟨_, g1, _⟩ | hq
    · exact Nat.lt_of_lt_of_le g1 h1.size
    · rcases List.mem_append.1 hq with hq | hq
      · exact h5 q hq
      · exact hlt q (claims_blks hq)
  obtain ⟨a, c, A, L, C, B, e1, e2, e3, g1, ⟨rfl, rfl, g2⟩, g3⟩ := h3.split hi
  have hnb : ¬ fz F0 w0 M (Fr ++ claims LC) b := fz_not h4 h6 e3 (by simp)
  have hNd := (List.nodup_append.1 h4).2.1
  have hgi : LC[i]? = some ([b], []) := by rw [e3, ← e2, g1.length]; simp
  refine ⟨fun q => q < w.heap.size ∧ q ≠ b, h2.mono fun q hq => ⟨hFl q hq, fun e => hnb (e ▸ hq)⟩, fun j o hj ho => ?_, fun {ps} hps => ?_⟩
  · obtain ⟨a', c', A', L', C', B', _, e5, e6, k1, k2, _⟩ := h3.split ho
    have hgj : LC[j]? = some (L', C') := by rw [e6, ← e5, k1.length]; simp
    exact ⟨L', C', _, k2, fun q hq => ⟨hlt q (blks_mem hgj hq), fun e => blks_apart hNd hgj hgi hj q hq (by simp [e])⟩, fun q hq => ⟨hFl q hq, fun e => hnb (e ▸ hq)⟩⟩
  · exact ⟨[], [([b], [])], Chg.refl w, hps.mono fun q hq => .inl ⟨hq, hq.1, by simp [hq.2]⟩, ⟨⟨rfl, rfl, g2⟩, trivial⟩, by simp [blks], by simp, by simp [blks]⟩
theorem HL.afterB {F' : Nat → Prop} (H : HL F' [b] w w' [] (It.B b T cs :: l)) (hf : Frees l) : Chg (fun q => q = b) w w' ∧ Blk w' b T cs ∧ NewI (fun q => w.heap.size ≤ q ∧ q < w'.heap.size) w' l := by
  obtain ⟨Fr, LC, h1, _, h3, h4, h5, h6⟩ := H
  have hlt := h3.lt
  have hc : Chg (fun q => q = b) w w' := h1.mono fun k _ h => by simpa using h
  cases LC with
  | nil => exact h3.elim
  | cons x LC =>
    obtain ⟨L, C⟩ := x
    obtain ⟨⟨rfl, rfl, g⟩, h3⟩ := h3
    have hNd := (List.nodup_append.1 h4).2.1
    simp only [blks, List.append_nil, List.cons_append, List.nil_append, List.nodup_cons] at hNd
    refine ⟨hc, g, LC, h3.free hf, hNd.2, fun q hq => ⟨?_, hlt q (by simp [blks, hq])⟩⟩
    rcases h6 q (by simp [blks, hq]) with h | h
    · obtain rfl : q = b := by simpa using h
      exact absurd hq hNd.1
    · exact h
/-- at the end: the variable has turned, and there is new memory -/
theorem HL.turnAdd (mk : List Bool) (H : HL F0 M w0 w fr ow) (hm : maskL mk ow = [It.B b T cs]) (hE : RW (fun q => q = b) w w') (hB : Blk w' b T cs') (h : NewI S w' l) (hf : Frees l) (hS : ∀ q, S q → w.heap.size ≤ q) : HL F0 M w0 w' fr (mergeL mk ow [It.B b T cs'] ++ l) := by
  obtain ⟨F', M', _, _, hcM⟩ := H.callN mk (by rw [hm]; exact ⟨noB, trivial⟩)
  obtain ⟨H', hcN⟩ := hcM (ps := []) trivial
  rw [hm] at H' hcN
  obtain ⟨LC, k1, k2, k3⟩ := h
  have hb : b ∈ M' ∧ b < w.heap.size := by
    obtain ⟨Fr, LC, _, _, h3, _, _, h6⟩ := H'
    cases LC with
    | nil => exact h3.elim
    | cons x LC =>
      obtain ⟨L, C⟩ := x
      obtain ⟨⟨rfl, rfl, g⟩, _⟩ := h3
      have hl := g.lt
      exact ⟨(h6 b (by simp [blks])).resolve_right (by omega), hl⟩
  have hx := hcN (w' := w') (l := It.B b T cs' :: l) 1 ⟨[], ([b], []) :: LC, hE.mono fun k hk hm => hm.elim (fun e => e ▸ hb.1) fun h => by omega, trivial, ⟨⟨rfl, rfl, hB⟩, k1.free hf⟩, by
      simp only [blks, List.append_nil, List.cons_append, List.nil_append, List.nodup_cons]
      exact ⟨fun hq => absurd (hS b (k3 b hq)) (by omega), k2⟩, by simp, fun q hq => by
      simp only [blks, List.append_nil, List.cons_append, List.nil_append, List.mem_cons] at hq
      rcases hq with e | hq
      · exact .inl (e ▸ hb.1)
      · exact .inr (hS q (k3 q hq))⟩ rfl ⟨fun _ _ _ _ _ h => h, hf⟩
  simpa using hx
theorem ThB.get (h : css[m]? = some cs) (hT : ThB b T css m w) : Blk w b T cs := by
  obtain ⟨c, h1, h2⟩ := hT
  obtain rfl : cs = c := Option.some.inj (h.symm.trans h1)
  exact h2
theorem RW.ofB (h : Chg (fun q => q = b) w w') : RW (fun q => q = b) w w' := h.mono fun _ _ h => .inl h
theorem NewI.nil : NewI (fun _ => False) w [] := ⟨[], trivial, List.nodup_nil, fun _ h => by simp [blks] at h⟩
end
section
variable {P : Program} {n d : Nat} {Q : Post} {ρ : Env} {w : World} {ops : Array Oper} {o : Oper} {l : List Oper} {h i m : Nat} {ks : List K2} {Mw : Nat → Prop} {Θ : Nat → World → Prop} {C : List Nat} {os : List (Option Nat)} {K : Nat → World → Prop} {G : Nat → Nat → Prop} {X : World → Prop}
theorem LL2.fxG {u : Value} (hX : ∀ w', RW Mw w w' → (∃ q, Θ q w') → X w') (hk : ks[i]? = some (.fix u)) (hc : C.contains i = false) (hoo : ownOf os i = i) (hg : o.guard = none) (hd : o.dst = some d) (he : ∀ w', X w' → (∀ j, (directs o).contains j = true → K j w') → Ev P ρ o w' u)
    (hr : LL2 P n Q ops h ks Mw Θ C os w (i + 1) l (upd ρ d u) K G m) : LL2 P n Q ops h ks Mw Θ C os w i (o :: l) ρ K G m :=
  .inl ⟨u, d, hk, hd, hc, hoo, fun w' hw hq hK => OpX.ev hg (he w' (hX w' hw hq) hK) ⟨Ext.refl _, rfl⟩, hr⟩
theorem LL2.freeG {φ : (Nat → Prop) → Value → World → Prop} (hX : ∀ w', RW Mw w w' → (∃ q, Θ q w') → X w') (hk : ks[i]? = some (.free φ)) (hc : C.contains i = false) (hoo : ownOf os i = i) (hd : o.dst = some d) (he : ∀ w', X w' → (∀ j, (directs o).contains j = true → K j w') → OpX P ops o ρ w' (fun v w'' => Ext w' w'' ∧ φ (fun q => w'.heap.size ≤ q ∧ q < w''.heap.size) v w''))
    (hr : ∀ v S, LL2 P n Q ops h ks Mw Θ C os w (i + 1) l (upd ρ d v) (fun j w' => if j = i then φ S v w' else K j w') (fun j q => if j = i then S q else G j q) m) : LL2 P n Q ops h ks Mw Θ C os w i (o :: l) ρ K G m :=
  .inr (.inl ⟨φ, d, hk, hd, hc, hoo, fun w' hw hq hK => he w' (hX w' hw hq) hK, hr⟩)
/-- the next call of the chain, with a value that is known -/
theorem LL2.chF {u : Value} (hX : ∀ w', RW Mw w w' → Θ m w' → X w') (hk : ks[i]? = some (.fix u)) (hc : C[m]? = some i) (hoo : ownOf os i = i) (hd : o.dst = some d) (he : ∀ w', X w' → (∀ j, (directs o).contains j = true → K j w') → OpX P ops o ρ w' (fun v w'' => Chg Mw w' w'' ∧ Θ (m + 1) w'' ∧ v = u))
    (hr : LL2 P n Q ops h ks Mw Θ C os w (i + 1) l (upd ρ d u) K G (m + 1)) : LL2 P n Q ops h ks Mw Θ C os w i (o :: l) ρ K G m :=
  .inr (.inr (.inr (.inl ⟨u, d, hk, hd, hc, hoo, fun w' hw hq hK => he w' (hX w' hw hq) hK, hr⟩)))
end
end Go.E
/- A small engine for walks, second series, part 21: rows whose elements are only read, and grow. Plain theorems; nothing here speaks of one program. -/
namespace Go.E
open Go
open Rep (rd)
open Sep (own)
section
variable {F0 : Nat → Prop} {M : List Nat} {w0 w w' : World} {fr : List Pr} {ow : List It}
theorem HL.updP {i : Nat} {o : It} (H : HL F0 M w0 w fr ow) (hi : ow[i]? = some o) :
    ∃ F L C, AllP F w fr ∧ (∀ q ∈ L, ¬ F q) ∧ o.p L C F w ∧ (L ++ C).Nodup ∧ (∀ q ∈ C, F q) ∧
      ∀ {w' : World} {o' : It} {L' C' : List Nat}, Chg (· ∈ L) w w' → (∀ F', (∀ b, F b → F' b) → o'.p L' C' F' w') → (L' ++ C').Nodup → (∀ q ∈ L', q ∈ L ∨ w.heap.size ≤ q) → (∀ q ∈ C', q ∈ C ∨ q ∈ L ∨ w.heap.size ≤ q) →
        HL F0 M w0 w' fr (ow.set i o') := by
  obtain ⟨Fr, LC, h1, h2, h3, h4, h5, h6⟩ := H
  have hlt := h3.lt
  obtain ⟨a, b, A, L, C, B, rfl, rfl, rfl, g1, g2, g3⟩ := h3.split hi
  have hnf : ∀ q ∈ L, ¬ fz F0 w0 M (Fr ++ claims (A ++ (L, C) :: B)) q := fun q hq => fz_not h4 h6 rfl hq
  have hb : blks (A ++ (L, C) :: B) = blks A ++ ((L ++ C) ++ blks B) := by rw [blks_app]; rfl
  have hcl : claims (A ++ (L, C) :: B) = claims A ++ (C ++ claims B) := by rw [claims_app]; rfl
  rw [hb] at h4 h6 hlt
  have h4' := h4
  simp only [List.nodup_append, List.mem_append] at h4'
  obtain ⟨n1, ⟨n2, ⟨⟨n3, n4, n5⟩, n6, n7⟩, n8⟩, n9⟩ := h4'
  refine ⟨_, L, C, h2, hnf, g2, by rw [List.nodup_append]; exact ⟨n3, n4, n5⟩, fun q hq => .inr (by rw [hcl]; simp [hq]), fun {w' o' L' C'} hc ho hN hL hC => ?_⟩
  have hF : ∀ q, fz F0 w0 M (Fr ++ claims (A ++ (L, C) :: B)) q → q < w.heap.size → w'.heap[q]? = w.heap[q]? := fun q hq hl => hc.block q hl fun hm => hnf q hm hq
  have hsub : ∀ q, fz F0 w0 M (Fr ++ claims (A ++ (L, C) :: B)) q → fz F0 w0 M ((Fr ++ C.filter (fun q => !C'.contains q)) ++ claims (A ++ (L', C') :: B)) q := by
    refine fz_sub fun q hq => ?_
    rw [hcl] at hq
    rw [claims_app]
    simp only [claims, List.mem_append, List.mem_filter] at hq ⊢
    rcases hq with h | h | h | h
    · simp [h]
    · simp [h]
    · by_cases hc' : q ∈ C'
      · simp [hc']
      · left; right; exact ⟨h, by simp [hc']⟩
    · simp [h]
  have hA : ∀ q ∈ blks A, w'.heap[q]? = w.heap[q]? := fun q hq => hc.block q (hlt q (by simp [hq])) fun hm => n8 q hq q (.inl (.inl hm)) rfl
  have hB : ∀ q ∈ blks B, w'.heap[q]? = w.heap[q]? := fun q hq => hc.block q (hlt q (by simp [hq])) fun hm => n7 q (.inl hm) q hq rfl
  refine ⟨Fr ++ C.filter (fun q => !C'.contains q), A ++ (L', C') :: B, ?_, ?_, ?_, ?_, ?_, ?_⟩
  · refine ⟨hc.os.trans h1.os, hc.tape.trans h1.tape, hc.output.trans h1.output, Nat.le_trans h1.size hc.size, fun k hk hm => ?_⟩
    refine (hc.block k (Nat.lt_of_lt_of_le hk h1.size) fun hl => ?_).trans (h1.block k hk hm)
    rcases h6 k (by simp [hl]) with h | h
    · exact hm h
    · omega
  · exact (h2.frame hF).mono hsub
  · rw [List.set_append_right _ _ (Nat.le_refl _), Nat.sub_self, List.set_cons_zero]
    exact AllI.app (AllI.trans hsub hF g1 hA) ⟨ho _ hsub, AllI.trans hsub hF g3 hB⟩
  · rw [blks_app]
    simp only [blks, List.nodup_append, List.mem_append, List.mem_filter]
    rw [List.nodup_append] at hN
    have out : ∀ q, q ∈ L' ∨ q ∈ C' → q ∈ L ∨ q ∈ C ∨ w.heap.size ≤ q := fun q hq => by
      rcases hq with hq | hq
      · rcases hL q hq with h | h
        · exact .inl h
        · exact .inr (.inr h)
      · rcases hC q hq with h | h | h
        · exact .inr (.inl h)
        · exact .inl h
        · exact .inr (.inr h)
    refine ⟨⟨n1, n4.filter _, fun x hx y hy => n9 x hx y (.inr (.inl (.inr hy.1)))⟩, ⟨n2, ⟨hN, n6, fun x hx y hy e => ?_⟩, fun x hx y hy e => ?_⟩, fun x hx y hy e => ?_⟩
    · subst e
      rcases out x hx with h | h | h
      · exact n7 x (.inl h) x hy rfl
      · exact n7 x (.inr h) x hy rfl
      · have := hlt x (by simp [hy]); omega
    · subst e
      rcases hy with hy | hy
      · rcases out x hy with h | h | h
        · exact n8 x hx x (.inl (.inl h)) rfl
        · exact n8 x hx x (.inl (.inr h)) rfl
        · have := hlt x (by simp [hx]); omega
      · exact n8 x hx x (.inr hy) rfl
    · subst e
      rcases hx with hx | hx
      · rcases hy with hy | hy | hy
        · exact n9 x hx x (.inl hy) rfl
        · rcases out x hy with h | h | h
          · exact n9 x hx x (.inr (.inl (.inl h))) rfl
          · exact n9 x hx x (.inr (.inl (.inr h))) rfl
          · have := h5 x hx; omega
        · exact n9 x hx x (.inr (.inr hy)) rfl
      · obtain ⟨hx, hx'⟩ := hx
        rcases hy with hy | hy | hy
        · exact n8 x hy x (.inl (.inr hx)) rfl
        · rcases hy with hy | hy
          · rcases hL x hy with h | h
            · exact n5 x h x hx rfl
            · have := hlt x (by simp [hx]); omega
          · simp [hy] at hx'
        · exact n7 x (.inr hx) x hy rfl
  · intro q hq
    rcases List.mem_append.1 hq with hq | hq
    · exact Nat.lt_of_lt_of_le (h5 q hq) hc.size
    · exact Nat.lt_of_lt_of_le (hlt q (by simp [(List.mem_filter.1 hq).1])) hc.size
  · intro q hq
    rw [blks_app] at hq
    simp only [blks, List.mem_append, List.mem_filter] at hq
    have := h1.size
    rcases hq with (hq | hq) | hq | (hq | hq) | hq
    · exact h6 q (by simp [hq])
    · exact h6 q (by simp [hq.1])
    · exact h6 q (by simp [hq])
    · rcases hL q hq with h | h
      · exact h6 q (by simp [h])
      · exact .inr (by omega)
    · rcases hC q hq with h | h | h
      · exact h6 q (by simp [h])
      · exact h6 q (by simp [h])
      · exact .inr (by omega)
    · exact h6 q (by simp [hq])

end
section
variable {F0 : Nat → Prop} {M : List Nat} {w0 w w' : World} {fr : List Pr} {ow : List It} {i j : Nat} {e : TypeId} {v : Value} {cs : List Value}
variable {P : Program} {n d : Nat} {Q : Post} {ρ : Env} {ops : Array Oper} {o : Oper} {rest : List Oper}
theorem WL.appG {α : Type} [Rep α] {T b : Nat} {z : List Value} {s x : Operand} {xs ys : List α} {A : Option Addr} {c2 : Nat} {news : List Value} (hg : o.guard = none) (hd : o.dst = some d)
    (ho : o.op = .call { callee := .builtin .append, args := #[s, x], argTypes := #[T, T] }) (hT : elemT P T = some e) (hk : szT P e = some (Rep.sz α)) (hb : byT P e = some b) (hz : zeroT P e = some z) (hzk : z.length = Rep.sz α)
    (hs : E.ev ρ s = v) (hx : E.ev ρ x = .slice A ys.length c2) (H : HL F0 M w0 w fr ow) (hi : ow[i]? = some (It.G e xs v)) (hy : ∀ F, AllP F w fr → rdL F w ys news) (hat : ys.length = 0 ∨ ∃ b o, A = some ⟨b, o, none⟩ ∧ At w b o news)
    (hmax : ((xs.length : Int) + (ys.length : Int)) * b ≤ 140737488355328 ∧ (xs.length : Int) + ys.length ≤ 9223372036854775807)
    (h : ∀ A m c w', HL F0 M w0 w' fr (ow.set i (It.G e (xs ++ ys) (.slice A m c))) → WL P n ops Q rest (upd ρ d (.slice A m c)) w') : WL P n ops Q (o :: rest) ρ w := by
  have h : ∀ v' w', (∃ A m c, v' = .slice A m c) → HL F0 M w0 w' fr (ow.set i (It.G e (xs ++ ys) v')) → WL P n ops Q rest (upd ρ d v') w' := by
    rintro v' w' ⟨A, m, c, rfl⟩ H
    exact h A m c w' H
  obtain ⟨F, L, C, hP, hnF, ⟨cs, h0, rfl, h3⟩, hN, hF, hupd⟩ := H.updP hi
  have hy0 := hy F hP
  have hm1 : (xs.length + ys.length) * b ≤ 140737488355328 := by
    have : (((xs.length + ys.length) * b : Nat) : Int) ≤ 140737488355328 := by rw [Int.natCast_mul, Int.natCast_add]; exact hmax.1
    omega
  have hm2 : xs.length + ys.length ≤ maxLen := by show _ ≤ 9223372036854775807; omega
  have hNC := (List.nodup_append.1 hN).2.1
  rcases h0 with ⟨h1, h2⟩ | ⟨⟨A0, rfl⟩, hx0, rfl, rfl⟩
  · refine WL.app hg hd ho hT hk hb hz hzk (by simpa using Rep.pos (α := α)) hs hx h1 hy0.len hat (rdL.one hy0) hm1 hm2 (Nat.zero_le _) fun v' w' hc ho' hnew => h v' w' (by obtain ⟨A, c, e⟩ := ho'.form; exact ⟨A, _, c, e⟩) ?_
    have f : ∀ b, F b → b < w.heap.size → w'.heap[b]? = w.heap[b]? := fun b hb hl => hc.block b hl fun e => hnF b (by rw [h2]; simpa [blkOf] using e) hb
    refine hupd (L' := v'.ownBlock.toList) (C' := []) (hc.mono fun q _ e => by rw [h2]; simpa [blkOf] using e) (fun F' hm => ⟨cs ++ news, .inl ⟨by rw [List.length_append]; exact ho', rfl⟩, rfl, ((h3.frame f).append (hy0.frame f)).mono hm⟩) (by cases v'.ownBlock <;> simp) (fun q hq => ?_) (by simp)
    rcases hnew q (by simpa [blkOf] using hq) with h | h
    · left; rw [h2]; simpa [blkOf] using h
    · exact .inr h
  · -- a slice without room
    obtain rfl := List.eq_nil_of_length_eq_zero hx0
    obtain ⟨v', w', hrun, hE, hv⟩ := run_appN (P := P) (ty := o.type) (A0 := A0) (c2 := c2) hT hk hb hz hzk hy0.len hat (by simpa using hm1) (by simpa using hm2)
    refine WL.step hg fun a K ha hok hK => ?_
    unfold Oper.wp
    rw [execOp_ev ha hok]
    simp only [execOp, ho, resolve, invoke, builtin, Sem.run_bind, Sem.run_pure, Result.andThen_ok, List.map_toArray, List.map_cons, List.map_nil, hs, hx, hrun]
    refine hK _ _ (by
      rw [hd]
      refine h v' w' ?_ ?_
      · obtain ⟨L', hv, _⟩ := hv
        obtain ⟨A, c, e, _⟩ := hv.form
        exact ⟨A, _, c, e⟩
      · obtain ⟨L', hv, hn⟩ := hv
        exact hupd (L' := L') (C' := []) (hE.mono fun q _ e => e.elim) (fun F' hm => ⟨news, by simpa using hv, rfl, by simpa using (hy0.frame fun b _ hl => hE.block b hl id).mono hm⟩) (by simpa using hv.nodup) (fun q hq => .inr (hn q hq)) (by simp))
end
end Go.E
/- A small engine for walks, second series, part 22: literals of several elements, in any order. Plain theorems; nothing here speaks of one program. -/
namespace Go.E
open Go
open Rep (rd)
open Sep (own)
section
variable {P : Program} {n d : Nat} {Q : Post} {ρ : Env} {w w0 : World} {ops : Array Oper} {o : Oper} {e : TypeId} {F0 : Nat → Prop} {M : List Nat} {fr : List Pr} {ow : List It}
theorem OpX.litN {α : Type} [Sep α] {T m : Nat} {z : Value} {parts : Array (Nat × Operand)} {vs : List Value} {xs : List α} {R : Value → World → Prop} (hg : o.guard = none) (ho : o.op = .buildSlice T m parts) (hT : elemT P T = some e) (hk : szT P e = some 1) (hz : zeroT P e = some [z])
    (hp : parts.toList.map (fun p => (p.1, E.ev ρ p.2)) = idxL 0 vs) (h1 : ∀ v ∈ vs, v.cells = #[v]) (hn : vs.length = m) (hm : Nat.blt 0 m = true) (hm2 : Nat.ble m 100000 = true) (hx : ∀ w, ownL w [] xs vs) (hs : Rep.sz α = 1)
    (h : ∀ A k c w', Ext w w' → NewI (fun q => w.heap.size ≤ q ∧ q < w'.heap.size) w' [It.O e xs (.slice A k c)] → R (.slice A k c) w') : OpX P ops o ρ w R := by
  refine .inl ⟨by simp [gate, hg], ?_⟩
  have hp' : parts.map (fun p => (p.1, E.ev ρ p.2)) = (idxL 0 vs).toArray := by
    apply Array.ext'; simpa using hp
  have hr := run_litN (P := P) (w := w) hT hk hz h1 hn hm hm2
  simp only [execOp, ho, hp', Sem.run_bind, hr, Result.andThen_ok, Sem.run_pure]
  have hxl : xs.length = m := by
    have := (hx w).rd.len
    rw [hs, Nat.mul_one] at this
    omega
  have hm2' : m ≤ 100000 := by simpa using hm2
  have hml : xs.length ≤ maxLen := by show _ ≤ 9223372036854775807; omega
  have hE := Ext.alloc w (.cells vs.toArray e)
  have hB := blk_alloc w e vs
  rw [← hxl]
  refine h _ _ _ _ hE ⟨[([w.heap.size], [])], ⟨⟨vs, .inl ⟨Own.of_blk hB (by rw [← (hx w).rd.len]) (Nat.zero_le _) hml, rfl⟩, hx _⟩, trivial⟩, by simp [blks], fun q hq => ?_⟩
  obtain rfl : q = w.heap.size := by simpa [blks] using hq
  exact ⟨Nat.le_refl _, hB.lt⟩
theorem Ret.get2 {f : FuncId} {args : Array Value} {M : Nat → Prop} {R : Value → World → Prop} (h : Ret P f args w M R) : ∃ v w', Chg M w w' ∧ R v w' := by
  obtain ⟨e, w', fr, ⟨v, _, hc, hR⟩, _⟩ := h []
  exact ⟨v, w', hc, hR⟩
theorem Ev.convB {S T : TypeId} {x : Operand} {m : UInt8} {d : TypeDesc} (ho : o.op = .convert S T x) (hS : P.underlying S = some d) (hT : intT P T = some .i64) (hx : E.ev ρ x = .int .u8 (m.toNat : Int)) : Ev P ρ o w (.int .i64 (m.toNat : Int)) := by
  have h := Ev.conv (w := w) ho hS hT hx
  have := m.toNat_lt
  rwa [IntWalk.i64_in _ (by omega)] at h
theorem Opens.byte {T : TypeId} (hc : P.cellsOf T = 1) (ht : P.underlying T = some (.int .u8)) : Opens P T UInt8 := by
  refine ⟨hc, fun H enc w base spare held fuel cs x h => ?_⟩
  obtain ⟨n, rfl, _, hw⟩ := DataW.trod_int ht h
  have hb := bounds_u8 hw
  refine ⟨UInt8.ofNat n.toNat, ?_⟩
  show [Value.int .u8 n] = [.int .u8 ((UInt8.ofNat n.toNat).toNat : Int)]
  have : ((UInt8.ofNat n.toNat).toNat : Int) = n := by
    rw [UInt8.toNat_ofNat']; omega
  rw [this]
/-- a world in which there is such a literal besides -/
theorem HL.litX {α : Type} [Sep α] {vs : List Value} {xs : List α} (H : HL F0 M w0 w fr ow) (e : TypeId) (hx : ∀ w, ownL w [] xs vs) (hm : Nat.ble xs.length 100000 = true) : ∃ w' A k c, HL F0 M w0 w' fr (ow ++ [It.O e xs (.slice A k c)]) := by
  have hm2' : xs.length ≤ 100000 := by simpa using hm
  have hml : xs.length ≤ maxLen := by show _ ≤ 9223372036854775807; omega
  exact ⟨_, _, _, _, H.newO (xs := xs) (C := []) (Ext.alloc w (.cells vs.toArray e)) (Nat.le_refl _) (blk_alloc w e vs) (hx _) List.nodup_nil (by simp) hml⟩
theorem HL.knowS {i b : Nat} {T : TypeId} {cs : List Value} {css : List (List Value)} (H : HL F0 M w0 w fr ow) (hi : ow[i]? = some (It.B b T cs)) : ∀ w', RW (fun q => q = b) w w' → (∃ q, ThB b T css q w') → ∃ cs', HL F0 M w0 w' fr (ow.set i (It.B b T cs')) ∧ w.heap.size ≤ w'.heap.size :=
  fun _ hE ⟨_, cs', _, hB⟩ => ⟨cs', H.turnB hi hE hB, hE.size⟩
end
section
variable {P : Program} {n d : Nat} {Q : Post} {ρ : Env} {w : World} {ops : Array Oper} {o : Oper} {l : List Oper} {h i m : Nat} {ks : List K2} {Mw : Nat → Prop} {Θ : Nat → World → Prop} {C : List Nat} {os : List (Option Nat)} {K : Nat → World → Prop} {G : Nat → Nat → Prop}
theorem OpX.on {R : Value → World → Prop} (hg : gate ops ρ o = true) (h : OpX P ops { o with guard := none } ρ w R) : OpX P ops o ρ w R := by
  rcases h with h | h
  · exact .inl ⟨hg, h.2⟩
  · exact absurd h.1 (by simp [gate])
/-- a guarded operation that is carried out -/
theorem LL2.on (hg : gate ops ρ o = true) (h' : LL2 P n Q ops h ks Mw Θ C os w i ({ o with guard := none } :: l) ρ K G m) : LL2 P n Q ops h ks Mw Θ C os w i (o :: l) ρ K G m := by
  rcases h' with ⟨u, d, h1, h2, h3, h4, h5, h6⟩ | ⟨φ, d, h1, h2, h3, h4, h5, h6⟩ | ⟨t, g, d, h1, h2, h3, h4, h5, h6⟩ | ⟨u, d, h1, h2, h3, h4, h5, h6⟩ | ⟨φ, d, h1, h2, h3, h4, h5, h6⟩ | ⟨t, s, ψ, φ, h1, h2, h3, h4, h5, h6, h7, h8⟩ | ⟨t, s, ψ, h1, h2, h3, h4, h5, h6, h7⟩
  · exact .inl ⟨u, d, h1, h2, h3, h4, fun w' a b c => OpX.on hg (h5 w' a b c), h6⟩
  · exact .inr (.inl ⟨φ, d, h1, h2, h3, h4, fun w' a b c => OpX.on hg (h5 w' a b c), h6⟩)
  · exact .inr (.inr (.inl ⟨t, g, d, h1, h2, h3, h4, fun w' a b c => OpX.on hg (h5 w' a b c), h6⟩))
  · exact .inr (.inr (.inr (.inl ⟨u, d, h1, h2, h3, h4, fun w' a b c => OpX.on hg (h5 w' a b c), h6⟩)))
  · exact .inr (.inr (.inr (.inr (.inl ⟨φ, d, h1, h2, h3, h4, fun w' a b c => OpX.on hg (h5 w' a b c), h6⟩))))
  · exact .inr (.inr (.inr (.inr (.inr (.inl ⟨t, s, ψ, φ, h1, h2, h3, h4, h5, h6, fun w' a b c => OpX.on hg (h7 w' a b c), h8⟩)))))
  · exact .inr (.inr (.inr (.inr (.inr (.inr ⟨t, s, ψ, h1, h2, h3, h4, h5, fun w' a b c => OpX.on hg (h6 w' a b c), h7⟩)))))
/-- and one that is passed over -/
theorem LL2.off (hg : gate ops ρ o = false) (hk : ks[i]? = some (.fix undef)) (hc : C.contains i = false) (hoo : ownOf os i = i) (hd : o.dst = some d) (hr : LL2 P n Q ops h ks Mw Θ C os w (i + 1) l (upd ρ d undef) K G m) : LL2 P n Q ops h ks Mw Θ C os w i (o :: l) ρ K G m :=
  .inl ⟨undef, d, hk, hd, hc, hoo, fun _ _ _ _ => .inr ⟨hg, Ext.refl _, rfl⟩, hr⟩
end
end Go.E
/- A small engine for walks, second series, part 23: a chain that writes to two variables, by calls and by stores. Plain theorems; nothing here speaks of one program. -/
namespace Go.E
open Go
open Rep (rd)
open Sep (own)
def Th2 (b : Nat) (T : TypeId) (css : List (List Value)) (b2 : Nat) (T2 : TypeId) (css2 : List (List Value)) (m : Nat) (w : World) : Prop := ThB b T css m w ∧ ThB b2 T2 css2 m w
section
variable {F0 : Nat → Prop} {M : List Nat} {w0 w w' w'' : World} {fr ps : List Pr} {ow l : List It} {i j b b2 m : Nat} {T T2 : TypeId} {cs cs' c2 c2' : List Value} {S : Nat → Prop} {css css2 : List (List Value)}
theorem Blk.keep (h : Chg (fun q => q = b) w w') (hB : Blk w b2 T2 c2) (hne : b2 ≠ b) : Blk w' b2 T2 c2 := (h.block b2 hB.lt fun e => hne e).trans hB
theorem Th2.mono (hb : b < w.heap.size) (hb2 : b2 < w.heap.size) : ∀ m a c (T' : Nat → Prop), Th2 b T css b2 T2 css2 m a → Chg T' a c → (∀ q, T' q → w.heap.size ≤ q) → Th2 b T css b2 T2 css2 m c :=
  fun m a c T' h hc hT => ⟨ThB.mono hb m a c T' h.1 hc hT, ThB.mono hb2 m a c T' h.2 hc hT⟩
end
section
variable {P : Program} {n d : Nat} {Q : Post} {ρ : Env} {w : World} {ops : Array Oper} {o : Oper} {l : List Oper} {h i m : Nat} {ks : List K2} {Mw : Nat → Prop} {Θ : Nat → World → Prop} {C : List Nat} {os : List (Option Nat)} {K : Nat → World → Prop} {G : Nat → Nat → Prop} {X : World → Prop}
end
section
variable {P : Program} {ρ : Env} {w : World}
theorem res_tc {fn : Func} {t0 : Nat} {u0 : Value} {t1 T1 k1 b1 off1 : Nat} {cs1 : List Value} (hr : fn.results = #[.tmp t0, .cell t1 T1]) (ht0 : Nat.blt t0 fn.ntmps = true) (hu0 : ρ t0 = u0) (hT1 : aggT P T1 = some true) (hk1 : szT P T1 = some k1) (ht1 : Nat.blt t1 fn.ntmps = true) (hv1 : ρ t1 = .pointer (some ⟨b1, off1, none⟩)) (hc1 : At w b1 off1 cs1) (hl1 : cs1.length = k1) : ∀ a : Act, Rel fn.ntmps ρ a → (results fn a.tmps).run P w = .ok (.tuple #[u0, .agg cs1.toArray]) w := fun a ha => by
  have h0 : a.tmps.getD t0 undef = u0 := (ha.at_ t0 (by simpa using ht0)).trans hu0
  subst hl1
  have h1 : a.tmps.getD t1 undef = .pointer (some ⟨b1, off1, none⟩) := (ha.at_ t1 (by simpa using ht1)).trans hv1
  have g1 := run_loadCellsFrom (P := P) (w := w) (b := b1) (off := off1) cs1 0 #[] hc1
  simp only [Array.getD_eq_getD_getElem?] at h0 h1
  simp [results, hr, loadVar, loadCells, asAddr, h0, h1, run_isAgg hT1, run_sizeOf' hk1, g1]
end
end Go.E
/- A small engine for walks, second series, part 24: elements of literals that an open region has made itself. Plain theorems; nothing here speaks of one program. -/
namespace Go.E
open Go
open Rep (rd)
open Sep (own)
/-- where so many cells behind a slice's first lie -/
def ptrAt (n : Nat) : Value → Value
  | .slice (some ⟨b, o, s⟩) _ _ => .pointer (some ⟨b, o + n, s⟩)
  | _ => undef
section
variable {P : Program} {n d : Nat} {Q : Post} {ρ : Env} {w : World} {ops : Array Oper} {o : Oper} {l : List Oper} {h i m : Nat} {ks : List K2} {Mw : Nat → Prop} {Θ : Nat → World → Prop} {C : List Nat} {os : List (Option Nat)} {K : Nat → World → Prop} {G : Nat → Nat → Prop} {X : World → Prop} {e : TypeId} {v : Value} {S : Nat → Prop}
theorem NewI.pt {α : Type} [Sep α] {xs : List α} {x : α} {k : Nat} (h : NewI S w [It.O e xs v]) (hx : xs[k]? = some x) : ∃ b c cs, v = .slice (some ⟨b, 0, none⟩) xs.length c ∧ At w b (0 + k * Rep.sz α) cs ∧ rd (Lt w) w x cs := by
  obtain ⟨LC, h1, _, _⟩ := h
  obtain ⟨_, _, _, L, C, _, _, _, _, _, ⟨cells, q0, q3⟩, _⟩ := h1.split (i := 0) rfl
  have hk : k < xs.length := (List.getElem?_eq_some_iff.1 hx).1
  have q1 := (q0.own hk).1
  obtain ⟨b, c, hv, hb⟩ := q1.slice hk
  obtain ⟨cs, hr, hat⟩ := q3.rd.get k hk
  have hxe : xs[k] = x := by rw [List.getElem?_eq_getElem hk] at hx; exact Option.some.inj hx
  rw [hxe] at hr
  exact ⟨b, c, cs, hv, (q1.at hb).sub _ cs hat, Rep.mono (Rep.bound hr) fun _ hb => hb.2⟩
theorem Ev.ixNew {α : Type} [Sep α] {xs : List α} {x : α} {k : Nat} {T : TypeId} {a b : Operand} (hN : NewI S w [It.O e xs v]) (hx : xs[k]? = some x) (ho : o.op = .indexAddr T a b) (hT : elemT P T = some e) (hk : szT P e = some (Rep.sz α)) (ha : E.ev ρ a = v) (hb : E.ev ρ b = .int .i64 (k : Int)) : Ev P ρ o w (ptrAt (k * Rep.sz α) v) := by
  obtain ⟨g, c, cs, hv, _, _⟩ := hN.pt hx
  have := Ev.ixVN (w := w) (P := P) ho hT hk (ha.trans hv) rfl hb (List.getElem?_eq_some_iff.1 hx).1
  rw [hv]; exact this
theorem Ev.ldNew {α : Type} [Sep α] {xs : List α} {x : α} {k : Nat} {T : TypeId} {y : Operand} {u : Value} (hN : NewI S w [It.O e xs v]) (hx : xs[k]? = some x) (ho : o.op = .load T y) (hT : aggT P T = some false) (hy : E.ev ρ y = ptrAt (k * Rep.sz α) v) (hu : ∀ cs, rd (Lt w) w x cs → cs = [u]) : Ev P ρ o w u := by
  obtain ⟨g, c, cs, hv, hA, hr⟩ := hN.pt hx
  obtain rfl := hu cs hr
  rw [hv] at hy
  exact Ev.ld ho hT (hA.cell0 rfl) (hx := hy)
theorem LL2.dpG {t : Nat} {g : Value → Value} (hX : ∀ w', RW Mw w w' → (∃ q, Θ q w') → X w') (hk : ks[i]? = some (.dep t g)) (hc : C.contains i = false) (hoo : ownOf os i = i) (hg : o.guard = none) (hd : o.dst = some d) (he : ∀ w', X w' → (∀ j, (directs o).contains j = true → K j w') → Ev P ρ o w' (g (ρ t)))
    (hr : LL2 P n Q ops h ks Mw Θ C os w (i + 1) l (upd ρ d (g (ρ t))) (fun j w' => if j = i then (∀ j', (directs o).contains j' = true → K j' w') else K j w') G m) : LL2 P n Q ops h ks Mw Θ C os w i (o :: l) ρ K G m :=
  .inr (.inr (.inl ⟨t, g, d, hk, hd, hc, hoo, fun w' hw hq hK => OpX.ev hg (he w' (hX w' hw hq) hK) ⟨Ext.refl _, rfl⟩, hr⟩))
end
end Go.E
/- A small engine for walks, second series, part 25: a field of a struct's value. Plain theorems; nothing here speaks of one program. -/
namespace Go.E
open Go
/-- a field's type and offset -/
def fieldTy (P : Program) (T : TypeId) (i : Nat) : Option (TypeId × Nat) := match P.underlying T with
  | some (.struct fs) => (fs[i]?).map fun f => (f.type, f.offset)
  | _ => none
theorem fieldTy_some {P : Program} {T : TypeId} {i ft off : Nat} (h : fieldTy P T i = some (ft, off)) : ∃ fs f, P.underlying T = some (.struct fs) ∧ fs[i]? = some f ∧ f.type = ft ∧ f.offset = off := by
  unfold fieldTy at h
  split at h
  · rename_i fs hfs
    cases hf : fs[i]? with
    | none => rw [hf] at h; cases h
    | some f =>
      rw [hf] at h
      simp only [Option.map_some, Option.some.injEq, Prod.mk.injEq] at h
      exact ⟨fs, f, hfs, hf, h.1, h.2⟩
  · cases h
section
variable {P : Program} {ρ : Env} {o : Oper} {w : World} {T : TypeId} {x : Operand} {i ft off k : Nat} {cs : List Value} {u : Value}
theorem Ev.fld (ho : o.op = .field T x i) (hT : fieldTy P T i = some (ft, off)) (hg : aggT P ft = some false) (hx : E.ev ρ x = .agg cs.toArray) (hc : cs[off]? = some u) : Ev P ρ o w u := by
  obtain ⟨fs, f, h1, h2, h3, h4⟩ := fieldTy_some hT
  subst h3; subst h4
  simp [Ev, execOp, ho, hx, Instr.field, run_underlying h1, h2, asAgg, part, run_isAgg hg, hc]
end
end Go.E
/- A small engine for walks, second series, part 26: a store into a part of an element. Plain theorems; nothing here speaks of one program. -/
namespace Go.E
open Go
open Rep (rd)
open Sep (own)
theorem splice_in {cur ce l : List Value} {m off sz : Nat} (hce : (cur.drop m).take sz = ce) (hl : ce.length = sz) (hf : off + l.length ≤ sz) (hm : m + sz ≤ cur.length) : splice cur (m + off) l = splice cur m (splice ce off l) := by
  have hd : cur.drop m = ce ++ cur.drop (m + sz) := by
    have := (List.take_append_drop sz (cur.drop m)).symm
    rwa [hce, List.drop_drop] at this
  unfold splice
  have e1 : cur.take (m + off) = cur.take m ++ ce.take off := by
    rw [List.take_add, hd, List.take_append_of_le_length (by omega)]
  have e2 : cur.drop (m + off + l.length) = ce.drop (off + l.length) ++ cur.drop (m + sz) := by
    rw [show m + off + l.length = m + (off + l.length) by omega, ← List.drop_drop, hd, List.drop_append_of_le_length (by omega)]
  have e3 : (ce.take off ++ l ++ ce.drop (off + l.length)).length = sz := by simp; omega
  rw [e1, e2, e3]
  simp [List.append_assoc]
theorem ownL_get {α : Type} [Sep α] {w : World} : ∀ {xs : List α} {C : List Nat} {cs : List Value} {k : Nat} {x : α}, ownL w C xs cs → xs[k]? = some x → ∃ L c, own L w x c ∧ (cs.drop (k * Rep.sz α)).take (Rep.sz α) = c ∧ c.length = Rep.sz α
  | y :: ys, C, cs, 0, x, ⟨L1, L2, c, r, hL, hc, h1, h2⟩, hx => by
    simp only [List.getElem?_cons_zero, Option.some.injEq] at hx
    subst hx; subst hc
    have hlen := Rep.len (Sep.own_rd h1)
    exact ⟨L1, c, h1, by simp [← hlen], hlen⟩
  | y :: ys, C, cs, k + 1, x, ⟨L1, L2, c, r, hL, hc, h1, h2⟩, hx => by
    subst hc
    have hlen := Rep.len (Sep.own_rd h1)
    obtain ⟨L, c', h3, h4, h5⟩ := ownL_get h2 (k := k) (by simpa using hx)
    refine ⟨L, c', h3, ?_, h5⟩
    have hk : (k + 1) * Rep.sz α = c.length + k * Rep.sz α := by rw [Nat.succ_mul, hlen]; omega
    rw [hk, List.drop_append, ← h4, List.drop_eq_nil_of_le (by omega), List.nil_append, Nat.add_sub_cancel_left]
section
variable {F0 : Nat → Prop} {M : List Nat} {w0 w w' : World} {fr : List Pr} {ow : List It} {i j : Nat} {e : TypeId} {v : Value} {cs : List Value}
variable {P : Program} {n d : Nat} {Q : Post} {ρ : Env} {ops : Array Oper} {o : Oper} {rest : List Oper}
theorem WL.stP {α : Type} [Sep α] {T : TypeId} {a y : Operand} {xs : List α} {u : Value} {l ce : List Value} {x z : α} {b k off n1 : Nat} (hg : o.guard = none) (hd : o.dst = none) (ho : o.op = .store T a y) (hk : szT P T = some n1) (hx : E.ev ρ a = .pointer (some ⟨b, 0 + k * Rep.sz α + off, none⟩)) (hy : E.ev ρ y = u)
    (hu : u.cells = l.toArray) (hl1 : l.length = n1) (h1c : ∀ u ∈ l, u.oneCell' = true) (hdet : ∀ L w c, own L w x c → c = ce) (hfit : Nat.ble (off + n1) ce.length = true) (hz : ∀ w, own [] w z (splice ce off l)) (H : HL F0 M w0 w fr ow) (hi : ow[i]? = some (It.O e xs v)) (hb : v.ownBlock = some b) (hxk : xs[k]? = some x)
    (h : ∀ w', HL F0 M w0 w' fr (ow.set i (It.O e (xs.set k z) v)) → WL P n ops Q rest ρ w') : WL P n ops Q (o :: rest) ρ w := by
  have hlt := (List.getElem?_eq_some_iff.1 hxk).1
  obtain ⟨F, L, C, ⟨cs, h0, h3⟩, hN, hF, hupd⟩ := H.upd hi
  obtain ⟨h1, h2⟩ := h0.own hlt
  have hrz := Sep.own_rd (hz w)
  obtain ⟨cur, hcur⟩ : ∃ cur, Blk w b e cur := by
    rcases h1.2 with ⟨rfl, _⟩ | ⟨g, cap, cur, rfl, _, hg, _⟩
    · cases hb
    · cases hb; exact ⟨cur.toList, by simpa [Blk] using hg⟩
  have hmul : k * Rep.sz α + Rep.sz α ≤ xs.length * Rep.sz α := by rw [← Nat.succ_mul]; exact Nat.mul_le_mul_right _ hlt
  have hlen : xs.length * Rep.sz α ≤ cur.length := by
    rcases h1.2 with ⟨rfl, _⟩ | ⟨g, cap, cur2, rfl, _, hg, hn, _, hs, _⟩
    · cases hb
    · cases hb
      have h1 : w.heap[g]? = some (.cells cur.toArray e (0, 0)) := hcur
      rw [h1] at hg; injection hg with hg; injection hg with hg; subst hg
      simp only [List.size_toArray] at hs
      rw [hs]; exact Nat.mul_le_mul_right _ hn
  obtain ⟨La, ca, hoa, hcs, hla⟩ := ownL_get h3 hxk
  obtain rfl := hdet _ _ _ hoa
  have hfit' := Nat.le_of_ble_eq_true hfit
  have hcur2 : cur.take (xs.length * Rep.sz α) = cs := by
    rcases h1.2 with ⟨rfl, _⟩ | ⟨g, cap, cur2, rfl, _, hg, hn, _, hs, ht⟩
    · cases hb
    · cases hb
      have h1 : w.heap[g]? = some (.cells cur.toArray e (0, 0)) := hcur
      rw [h1] at hg; injection hg with hg; injection hg with hg; subst hg
      simpa using ht
  have hce : (cur.drop (k * Rep.sz α)).take (Rep.sz α) = ca := by
    rw [← hcs, ← hcur2, List.drop_take, List.take_take]
    congr 1
    omega
  have hsp : splice cur (0 + k * Rep.sz α + off) l = splice cur (0 + k * Rep.sz α) (splice ca off l) := by
    rw [Nat.zero_add]; exact splice_in hce (by omega) (by omega) (by omega)
  refine WL.st hg hd ho hk hx hy hu hl1 h1c hcur (by omega) fun w' hc hb' => h w' ?_
  rw [hsp] at hb'
  have hbC : b ∉ C := fun hm => by
    rw [h2, hb] at hN
    simp at hN
    exact hN.1 hm
  obtain ⟨L', g1, g2, g3⟩ := ownL.set h3 hlt (hz w)
  have hNC := (List.nodup_append.1 hN).2.1
  refine hupd (L' := L) (C' := L') (hc.mono fun q _ e => by rw [h2, hb]; simp [e]) (fun F' _ => ⟨splice cs (k * Rep.sz α) (splice ca off l), .inl ⟨?_, h2⟩, ?_⟩) ?_ (fun q hq => .inl hq) (fun q hq => .inl (g1 q hq))
  · rw [List.length_set, ← Nat.zero_add (k * Rep.sz α)]
    exact h1.st hb hcur (by rw [Rep.len hrz]; omega) hb'
  · refine g3.frame fun q hq => hc.block q (h3.lt q (g1 q hq)) fun e => hbC ?_
    subst e; exact g1 q hq
  · rw [List.nodup_append] at hN ⊢
    exact ⟨hN.1, g2 hNC, fun x hx y hy => hN.2.2 x hx y (g1 y hy)⟩

end
end Go.E
/- A small engine for walks, second series, part 27: regions in an open order in which what writes is in order: what only reads is taken first. Plain theorems over the kit's 'wpAnyH'; nothing here speaks of one program. -/
namespace Go.E
open Go
section
variable {P : Program} {n : Nat} {K : Env → World → Prop} {Q : Post} {ρ : Env} {w : World} {ops : Array Oper} {o : Oper} {S : World → Prop} {listed : Array Bool} {k i : Nat} {v : Value}
/-- only the normal end -/
abbrev onlyN (K : Env → World → Prop) : Post := fun e ρ w => e = .normal ∧ K ρ w
/-- whatever order is picked from here on; S holds behind each operation -/
def HW (P : Program) (n : Nat) (ops : Array Oper) (K : Env → World → Prop) (S : World → Prop) (k : Nat) (listed : Array Bool) (ρ : Env) (w : World) : Prop :=
  ops.toList.all (okOper n) = true → ∀ a, Rel n ρ a → wpAnyH P .any ops (lift n (onlyN K)) S k listed a w
theorem CW.held {id : Nat} (S : World → Prop) (hm : P.follows .mixedOrders = true) (h : ∀ w', Ext w w' → HW P n ops (fun ρ w => Q .normal ρ w) S ops.size (Array.replicate ops.size false) ρ w') : CW P n (.region id ops true) Q ρ w := by
  intro hok a ha
  have hok' : ops.toList.all (okOper n) = true := by simpa [okCode] using hok
  refine Code.wp_mono (Q := lift n (onlyN fun ρ w => Q .normal ρ w)) (fun e a w ⟨ρ, hr, he, hq⟩ => ⟨ρ, hr, by subst he; exact hq⟩) ?_
  exact wp_region_held hm (h { w with drawn := w.drawn + 1 } ⟨rfl, rfl, rfl, Nat.le_refl _, fun _ _ _ => rfl⟩ hok' a ha)
theorem oks_guard (hok : ops.toList.all (okOper n) = true) : okGuards n ops = true := by
  refine List.all_eq_true.2 fun o' ho' => ?_
  have := List.all_eq_true.1 hok o' ho'
  simp only [okOper, Bool.and_eq_true] at this
  exact this.1.1
theorem HW.take0 (hi : ops[i]? = some o) (hs : Region.noSelect ops = true) (hf : Region.free .any ops listed i = true) (hr : (Region.ready .any ops listed).contains i = true) (hS : S w)
    (hy : (gate ops ρ o = true ∧ ∀ w', S w' → Ev P ρ o w' v) ∨ (gate ops ρ o = false ∧ v = undef)) (h : HW P n ops K S k (listed.setIfInBounds i true) (E.put ρ o.dst v) w) : HW P n ops K S (k + 1) listed ρ w := fun hok a ha => by
  have hoko : okOper n o = true := List.all_eq_true.1 hok o (by rw [Array.mem_toList_iff]; exact Array.mem_of_getElem? hi)
  refine wpAnyH_take (v := v) hi hs hf hr (fun c a w ⟨ρ, _, he, _⟩ => by cases he) ?_ hS (h hok _ (ha.put _ _))
  rcases hy with ⟨h1, h2⟩ | ⟨h1, h2⟩
  · refine .inl ⟨by rw [gate_wanted (oks_guard hok) ha]; exact h1, fun w' hw' => ?_⟩
    rw [execOp_ev ha hoko]; exact h2 w' hw'
  · exact .inr ⟨by rw [gate_wanted (oks_guard hok) ha]; exact h1, h2⟩
/-- an operation that only reads is taken first -/
theorem HW.take {d : Nat} (i : Nat) (hS : S w) (hi : ops[i]? = some o) (hs : (Region.noSelect ops && Region.free .any ops listed i && (Region.ready .any ops listed).contains i) = true) (hg : o.guard = none) (hd : o.dst = some d) (he : ∀ w', S w' → Ev P ρ o w' v) (h : HW P n ops K S k (listed.setIfInBounds i true) (upd ρ d v) w) : HW P n ops K S (k + 1) listed ρ w := by
  simp only [Bool.and_eq_true] at hs
  exact HW.take0 hi hs.1.1 hs.1.2 hs.2 hS (.inl ⟨by simp [gate, hg], he⟩) (by rw [hd]; exact h)
theorem HW.off {d : Nat} (i : Nat) (hS : S w) (hi : ops[i]? = some o) (hs : (Region.noSelect ops && Region.free .any ops listed i && (Region.ready .any ops listed).contains i) = true) (hg : gate ops ρ o = false) (hd : o.dst = some d) (h : HW P n ops K S k (listed.setIfInBounds i true) (upd ρ d undef) w) : HW P n ops K S (k + 1) listed ρ w := by
  simp only [Bool.and_eq_true] at hs
  exact HW.take0 hi hs.1.1 hs.1.2 hs.2 hS (.inr ⟨hg, rfl⟩) (by rw [hd]; exact h)
/-- the one operation that may come up now -/
theorem HW.eff (i : Nat) (hi : ops[i]? = some o) (hr : Region.ready .any ops listed = [i]) (h : WL P n ops (onlyN fun ρ' w' => S w' ∧ HW P n ops K S k (listed.setIfInBounds i true) ρ' w') [o] ρ w) : HW P n ops K S (k + 1) listed ρ w := fun hok a ha => by
  have hoko : okOper n o = true := List.all_eq_true.1 hok o (by rw [Array.mem_toList_iff]; exact Array.mem_of_getElem? hi)
  refine wpAnyH_all hr (by simp) fun j hj => ?_
  obtain rfl : j = i := by simpa using hj
  have h1 := h (by simp [hoko]) a ha
  unfold wpList at h1
  unfold wpOp
  simp only [hi]
  by_cases hw : Region.wanted o (yielded ops a.tmps) = true
  · rw [if_pos hw] at h1 ⊢
    rcases h1 with h1 | h1
    · refine .inl (Oper_wp_mono2 (fun a' w' h2 => ?_) (fun e a' w' he ⟨ρ', _, h3, _⟩ => absurd h3 he) h1)
      unfold wpList at h2
      obtain ⟨ρ', hr', _, hS', hH⟩ := h2
      exact ⟨hS', hH hok a' hr'⟩
    · obtain ⟨_, a', w', ρ', _, he, _⟩ := h1
      cases he
  · rw [if_neg hw] at h1 ⊢
    unfold wpList at h1
    obtain ⟨ρ', hr', _, hS', hH⟩ := h1
    exact ⟨hS', hH hok _ hr'⟩
/-- all have come up -/
theorem HW.done (hr : Region.ready .any ops listed = []) (h : K ρ w) : HW P n ops K S k listed ρ w := fun _ a ha => wpAnyH_done hr ⟨ρ, ha, rfl, h⟩ k
/-- behind the one operation -/
theorem HW.next (hS : S w) (h : HW P n ops K S k listed ρ w) : WL P n ops (onlyN fun ρ' w' => S w' ∧ HW P n ops K S k listed ρ' w') [] ρ w := WL.nil ⟨rfl, hS, h⟩
end
end Go.E
/- Lists in strict order: plain lemmas; nothing here speaks of one program. -/
namespace Go.E
section
variable {α : Type} {lt : α → α → Bool}
end
section
variable {α : Type} [DecidableEq α] {lt : α → α → Bool}
end
end Go.E

