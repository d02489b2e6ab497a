/- A small engine for walks through a Go program: plain lemmas on the model, without conditions of their own. -/
import Derived.Test.YtonnooljidombaaEngC
import Derived.Sort.Grow
import Derived.Deep.Draws
import Derived.Shelf.GgSortFunc.RowK
set_option linter.unusedVariables false
set_option linter.unusedSimpArgs false
set_option linter.ambiguousOpen false
set_option linter.unusedSectionVars false
set_option linter.unnecessarySimpa false
/- A small engine for walks, second series, part 18: regions in any order, over any relation between worlds; worlds that have only grown. Plain theorems; nothing here speaks of one program. -/
namespace Go.E
open Go
section
variable {P : Program} {n : Nat} {Q : Post} {ρ : Env} {w : World} {ops : Array Oper} {o : Oper} {rest : List Oper} {C : World → Prop} {F : Env → Prop} {R : World → World → Prop}
/-- a region whose operations each give one value in every world of C: the walk in the order of the text -/
def QC (R : World → World → Prop) (P : Program) (n : Nat) (ops : Array Oper) (C : World → Prop) (F : Env → Prop) : List Oper → Env → Prop
  | [], ρ => F ρ
  | o :: rest, ρ => ∃ v, (∀ w, C w → OpQ P ops (R w) o ρ w v) ∧ QC R P n ops C F rest (E.put ρ o.dst v)
theorem QC.nil (h : F ρ) : QC R P n ops C F [] ρ := h
theorem QC.ev {v : Value} {d : Nat} (hg : o.guard = none) (hd : o.dst = some d) (he : ∀ w, C w → Ev P ρ o w v) (h : QC R P n ops C F rest (upd ρ d v)) : QC R P n ops C F (o :: rest) ρ :=
  ⟨v, fun w hw => .inl ⟨by simp [gate, hg], by rw [he w hw]; exact ⟨rfl, rfl⟩⟩, by rw [hd]; exact h⟩
theorem QC.on (_hG : okGuards n ops = true) (hg : gate ops ρ o = true) (h : QC R P n ops C F ({ o with guard := none } :: rest) ρ) : QC R P n ops C F (o :: rest) ρ := by
  obtain ⟨v, h1, h2⟩ := h
  refine ⟨v, fun w hw => .inl ⟨hg, ?_⟩, h2⟩
  rcases h1 w hw with h3 | h3
  · exact h3.2
  · exact absurd h3.1 (by simp [gate])
theorem QC.off {d : Nat} (_hG : okGuards n ops = true) (hg : gate ops ρ o = false) (hd : o.dst = some d) (h : QC R P n ops C F rest (upd ρ d undef)) : QC R P n ops C F (o :: rest) ρ :=
  ⟨undef, fun _ _ => .inr ⟨hg, rfl⟩, by rw [hd]; exact h⟩
/-- a call that gives the same value in every world of C -/
theorem QC.call {c : Call} {f : FuncId} {x : Operand} {caps : Array Value} {args : List Value} {v : Value} {d : Nat} (hg : o.guard = none) (hd : o.dst = some d) (ho : o.op = .call c) (hx : c.callee = .value x) (hf : E.ev ρ x = .func (.func f) #[] caps)
    (hc : callable P f = true) (ha : c.args.toList.map (E.ev ρ) ++ caps.toList = args) (hr : ∀ w, C w → Ret P f args.toArray w (fun _ => False) fun u w' => u = v ∧ R w w')
    (h : QC R P n ops C F rest (upd ρ d v)) : QC R P n ops C F (o :: rest) ρ := by
  refine ⟨v, fun w hw => .inl ⟨by simp [gate, hg], ?_⟩, by rw [hd]; exact h⟩
  simp only [execOp, ho]
  rw [run_call hx hf hc ha]
  exact ⟨rfl, Calls.mono (hr w hw) fun _ _ ⟨_, he, _, hv, hch⟩ => ⟨by rw [he, hv], hch⟩⟩
/-- what is asked of each operation of the head -/
def stepsC (R : World → World → Prop) (P : Program) (n : Nat) (ops : Array Oper) (h : Nat) (D : Nat → List Nat) (Ψ : Nat → List Value → World → Prop) (ρ : Env) (w : World) : Nat → List Oper → Prop
  | _, [] => True
  | i, o :: l => (∀ ρ' w', R w w' → (∀ t, (∀ j, j < h → dstOf ops j ≠ some t) → ρ' t = ρ t) → (∀ j, (directs o).contains j = true → Ψ j ((D j).map ρ') w') →
      OpW P n ops o ρ' w' (fun v w'' => R w' w'' ∧ Ψ i ((D i).map (E.put ρ' o.dst v)) w'')) ∧ stepsC R P n ops h D Ψ ρ w (i + 1) l

theorem stepsC.get {h : Nat} {D : Nat → List Nat} {Ψ : Nat → List Value → World → Prop} : ∀ (l : List Oper) (k i : Nat) (o : Oper), stepsC R P n ops h D Ψ ρ w k l → l[i]? = some o →
    (∀ ρ' w', R w w' → (∀ t, (∀ j, j < h → dstOf ops j ≠ some t) → ρ' t = ρ t) → (∀ j, (directs o).contains j = true → Ψ j ((D j).map ρ') w') →
      OpW P n ops o ρ' w' (fun v w'' => R w' w'' ∧ Ψ (k + i) ((D (k + i)).map (E.put ρ' o.dst v)) w''))
  | [], _, _, _, _, hh => by simp at hh
  | x :: l, k, 0, o, hs, hh => by simp at hh; subst hh; exact hs.1
  | x :: l, k, i + 1, o, hs, hh => by
    have := stepsC.get l (k + 1) i o hs.2 (by simpa using hh)
    rwa [Nat.add_right_comm] at this

/-- the state of the walk through an open order -/
structure InvC (R : World → World → Prop) (n : Nat) (ops : Array Oper) (h : Nat) (D : Nat → List Nat) (Ψ : Nat → List Value → World → Prop) (ρ0 : Env) (w0 : World) (listed : Array Bool) (ρ : Env) (w : World) : Prop where
  head : HeadInv .any ops h listed
  ext : R w0 w
  out : ∀ t, (∀ j, j < h → dstOf ops j ≠ some t) → ρ t = ρ0 t
  known : ∀ j, j < h → listed.getD j false = true → Ψ j ((D j).map ρ) w

section loose
variable {h : Nat} {D : Nat → List Nat}
theorem QC.vals : ∀ (l : List Oper) (k : Nat) (ρ : Env), (∀ j, l[j]? = if j < l.length then ops[k + j]? else none) → (∀ i j, i < j → j < k + l.length → ∀ t, dstOf ops i = some t → dstOf ops j ≠ some t) → QC R P n ops C F l ρ →
    ∃ (vs : Nat → Value) (ρe : Env), F ρe ∧ (∀ t, (∀ j, k ≤ j → j < k + l.length → dstOf ops j ≠ some t) → ρe t = ρ t) ∧
      ∀ j o, k ≤ j → j < k + l.length → ops[j]? = some o → (∀ d, o.dst = some d → ρe d = vs j) ∧
        ∃ ρj : Env, (∀ t, (∀ i, j ≤ i → i < k + l.length → dstOf ops i ≠ some t) → ρj t = ρe t) ∧ ∀ w, C w → OpQ P ops (R w) o ρj w (vs j)
  | [], k, ρ, _, _, h => ⟨fun _ => undef, ρ, h, fun _ _ => rfl, fun j o h1 h2 => by simp at h2; omega⟩
  | o :: l, k, ρ, hl, hd, h => by
    obtain ⟨v, h1, h2⟩ := h
    have hlen : k + 1 + l.length = k + (o :: l).length := by simp; omega
    obtain ⟨vs, ρe, hF, hout, hvs⟩ := QC.vals l (k + 1) (E.put ρ o.dst v) (fun j => by
      have := hl (j + 1)
      simp only [List.getElem?_cons_succ, List.length_cons] at this
      rw [this]
      by_cases hj : j < l.length
      · rw [if_pos (by omega), if_pos hj]; congr 1; omega
      · rw [if_neg (by omega), if_neg hj]) (fun i j hij hj => hd i j hij (by omega)) h2
    have ho : ops[k]? = some o := by have := hl 0; simpa using this.symm
    refine ⟨fun j => if j = k then v else vs j, ρe, hF, fun t ht => ?_, fun j o' hj1 hj2 hoj => ?_⟩
    · rw [hout t (fun j a b => ht j (by omega) (by omega))]
      cases hdst : o.dst with
      | none => rfl
      | some d => exact upd_other _ _ fun e => ht k (Nat.le_refl _) (by simp) (by unfold dstOf; rw [ho]; simp [hdst, e])
    · by_cases hjk : j = k
      · subst hjk
        have : o' = o := Option.some.inj (hoj.symm.trans ho)
        subst this
        simp only [if_pos]
        refine ⟨fun d hdst => ?_, ρ, fun t ht => ?_, h1⟩
        · rw [hout d (fun i a b => hd j i (by omega) (by omega) d (by unfold dstOf; rw [ho]; exact hdst))]
          rw [hdst]; exact upd_same _ _ _
        · rw [hout t (fun i a b => ht i (by omega) (by omega))]
          cases hdst : o'.dst with
          | none => rfl
          | some d => exact (upd_other _ _ fun e => ht j (Nat.le_refl _) (by simp) (by unfold dstOf; rw [ho]; simp [hdst, e])).symm
      · obtain ⟨h3, ρj, h4, h5⟩ := hvs j o' (by omega) (by omega) hoj
        simp only [if_neg hjk]
        exact ⟨h3, ρj, fun t ht => h4 t fun i a b => ht i a (by omega), h5⟩

end loose
end
/-- new blocks and draws, and nothing else -/
def Gr (w w' : World) : Prop := ∃ q os, w' = Sort.grow (w.drewN q) os
theorem Gr.refl (w : World) : Gr w w := ⟨0, #[], by simp [Sort.grow, World.drewN]⟩
theorem Gr.trans {a b c : World} (h : Gr a b) (k : Gr b c) : Gr a c := by
  obtain ⟨q, os, rfl⟩ := h
  obtain ⟨q2, os2, rfl⟩ := k
  exact ⟨q + q2, os ++ os2, by simp [Sort.grow, World.drewN, Array.append_assoc, Nat.add_assoc]⟩
theorem Gr.alloc (w : World) (o : Obj) : Gr w (w.alloc o) := ⟨0, #[o], Sort.alloc_eq_grow w o⟩
theorem Gr.ext {w w' : World} (h : Gr w w') : Ext w w' := by
  obtain ⟨q, os, rfl⟩ := h
  refine ⟨rfl, rfl, rfl, by simp [Sort.grow, World.drewN], fun k hk _ => ?_⟩
  simp only [Sort.grow, World.drewN]
  rw [Array.getElem?_append_left hk]
section
variable {P : Program} {n d : Nat} {Q : Post} {ρ : Env} {w : World} {ops : Array Oper} {o : Oper} {rest : List Oper} {e : TypeId} {v : Value} {cs : List Value}
end
end Go.E
/- A small engine for walks, second series, part 19: rows that the sort of the library lays anew. Plain theorems; nothing here speaks of one program. -/
namespace Go.E
open Go
open Rep (rd)
open Sep (own)
section
variable {α : Type} [Sep α] {enc : α → List Value} {ok : α → Prop}
end
section
variable {α : Type} {enc : α → List Value} {k : Nat}
end
section
variable {α : Type} [Inhabited α] [Sep α] {enc : α → List Value} {ok : α → Prop} {F0 : Nat → Prop} {M : List Nat} {w0 w : World} {fr : List Pr} {ow : List It} {i : Nat} {e : TypeId}
end
end Go.E
/- A small engine for walks, second series, part 20: regions in any order in which calls write, in turn, to one variable (a cursor). Plain theorems; nothing here speaks of one program. -/
namespace Go.E
open Go
open Rep (rd)
open Sep (own)
theorem blks_mem : ∀ {LC : List (List Nat × List Nat)} {i : Nat} {L C : List Nat} {q : Nat}, LC[i]? = some (L, C) → q ∈ L ++ C → q ∈ blks LC
  | [], _, _, _, _, h, _ => by simp at h
  | (L', C') :: l, 0, L, C, q, h, hq => by
    simp only [List.getElem?_cons_zero, Option.some.injEq, Prod.mk.injEq] at h
    obtain ⟨rfl, rfl⟩ := h
    simp only [blks]; exact List.mem_append.2 (.inl hq)
  | (L', C') :: l, i + 1, L, C, q, h, hq => by
    simp only [blks]; exact List.mem_append.2 (.inr (blks_mem (by simpa using h) hq))
theorem blks_apart : ∀ {LC : List (List Nat × List Nat)}, (blks LC).Nodup → ∀ {i j : Nat} {L C L' C' : List Nat}, LC[i]? = some (L, C) → LC[j]? = some (L', C') → i ≠ j → ∀ q, q ∈ L ++ C → q ∈ L' ++ C' → False
  | [], _, _, _, _, _, _, _, h, _, _, _, _, _ => by simp at h
  | (L0, C0) :: l, hn, 0, 0, _, _, _, _, _, _, hij, _, _, _ => hij rfl
  | (L0, C0) :: l, hn, 0, j + 1, L, C, L', C', h1, h2, _, q, hq, hq' => by
    simp only [blks] at hn
    simp only [List.getElem?_cons_zero, Option.some.injEq, Prod.mk.injEq] at h1
    obtain ⟨rfl, rfl⟩ := h1
    exact (List.nodup_append.1 hn).2.2 q hq q (blks_mem (by simpa using h2) hq') rfl
  | (L0, C0) :: l, hn, i + 1, 0, L, C, L', C', h1, h2, _, q, hq, hq' => by
    simp only [blks] at hn
    simp only [List.getElem?_cons_zero, Option.some.injEq, Prod.mk.injEq] at h2
    obtain ⟨rfl, rfl⟩ := h2
    exact (List.nodup_append.1 hn).2.2 q hq' q (blks_mem (by simpa using h1) hq) rfl
  | (L0, C0) :: l, hn, i + 1, j + 1, L, C, L', C', h1, h2, hij, q, hq, hq' => by
    simp only [blks] at hn
    exact blks_apart (List.nodup_append.1 hn).2.1 (by simpa using h1) (by simpa using h2) (fun e => hij (by rw [e])) q hq hq'
/-- the cursor's block holds, behind so many calls, these cells -/
def ThB (b : Nat) (T : TypeId) (css : List (List Value)) (m : Nat) (w : World) : Prop := ∃ cs, css[m]? = some cs ∧ Blk w b T cs
section
variable {F0 : Nat → Prop} {M : List Nat} {w0 w w' : World} {fr ps : List Pr} {ow l : List It} {i j b m : Nat} {T : TypeId} {cs cs' : List Value} {S : Nat → Prop} {css : List (List Value)}
theorem RW.chgB (h : RW (fun q => q = b) w w') : Chg (· ∈ [b]) w w' := h.mono fun k hk hm => hm.elim (fun e => by simp [e]) fun h => by omega
theorem HL.turnB (H : HL F0 M w0 w fr ow) (hi : ow[i]? = some (It.B b T cs)) (hE : RW (fun q => q = b) w w') (hB : Blk w' b T cs') : HL F0 M w0 w' fr (ow.set i (It.B b T cs')) := by
  obtain ⟨F, L, C, ⟨rfl, rfl, hb⟩, hN, hF, hupd⟩ := H.upd hi
  exact hupd (L' := [b]) (C' := []) hE.chgB (fun _ _ => ⟨rfl, rfl, hB⟩) (by simp) (by simp) (by simp)
/-- what an operation of the chain may assume -/
theorem HL.chX (H : HL F0 M w0 w fr ow) (hi : ow[i]? = some (It.B b T cs)) (hm : css[m]? = some cs') : ∀ w', RW (fun q => q = b) w w' → ThB b T css m w' → HL F0 M w0 w' fr (ow.set i (It.B b T cs')) :=
  fun _ hE ⟨cs2, h1, hB⟩ => by
    obtain rfl : cs' = cs2 := Option.some.inj (hm.symm.trans h1)
    exact H.turnB hi hE hB
theorem ThB.mono (hb : b < w.heap.size) : ∀ m a c (T' : Nat → Prop), ThB b T css m a → Chg T' a c → (∀ q, T' q → w.heap.size ≤ q) → ThB b T css m c :=
  fun _ _ _ _ ⟨cs, h1, h2⟩ hc hT => ⟨cs, h1, (hc.block b h2.lt fun ht => absurd (hT b ht) (by omega)).trans h2⟩
/-- a call that is handed the variable, to write to, and may read the rest -/
theorem HL.seeB (H : HL F0 M w0 w fr ow) (hi : ow[i]? = some (It.B b T cs)) :
    ∃ F', AllP F' w fr ∧ (∀ (j : Nat) (o : It), j ≠ i → ow[j]? = some o → ∃ L C F'', o.p L C F'' w ∧ (∀ q ∈ L ++ C, F' q) ∧ ∀ q, F'' q → F' q) ∧
      ∀ {ps : List Pr}, AllP F' w ps → HL F' [b] w w ps [It.B b T cs] := by
  obtain ⟨Fr, LC, h1, h2, h3, h4, h5, h6⟩ := H
  have hlt := h3.lt
  have hFl : ∀ q, fz F0 w0 M (Fr ++ claims LC) q → q < w.heap.size := fun q hq => by
    rcases hq with ⟨_, g1, _⟩ | hq
    · exact Nat.lt_of_lt_of_le g1 h1.size
    · rcases List.mem_append.1 hq with hq | hq
      · exact h5 q hq
      · exact hlt q (claims_blks hq)
  obtain ⟨a, c, A, L, C, B, e1, e2, e3, g1, ⟨rfl, rfl, g2⟩, g3⟩ := h3.split hi
  have hnb : ¬ fz F0 w0 M (Fr ++ claims LC) b := fz_not h4 h6 e3 (by simp)
  have hNd := (List.nodup_append.1 h4).2.1
  have hgi : LC[i]? = some ([b], []) := by rw [e3, ← e2, g1.length]; simp
  refine ⟨fun q => q < w.heap.size ∧ q ≠ b, h2.mono fun q hq => ⟨hFl q hq, fun e => hnb (e ▸ hq)⟩, fun j o hj ho => ?_, fun {ps} hps => ?_⟩
  · obtain ⟨a', c', A', L', C', B', _, e5, e6, k1, k2, _⟩ := h3.split ho
    have hgj : LC[j]? = some (L', C') := by rw [e6, ← e5, k1.length]; simp
    exact ⟨L', C', _, k2, fun q hq => ⟨hlt q (blks_mem hgj hq), fun e => blks_apart hNd hgj hgi hj q hq (by simp [e])⟩, fun q hq => ⟨hFl q hq, fun e => hnb (e ▸ hq)⟩⟩
  · exact ⟨[], [([b], [])], Chg.refl w, hps.mono fun q hq => .inl ⟨hq, hq.1, by simp [hq.2]⟩, ⟨⟨rfl, rfl, g2⟩, trivial⟩, by simp [blks], by simp, by simp [blks]⟩
theorem HL.afterB {F' : Nat → Prop} (H : HL F' [b] w w' [] (It.B b T cs :: l)) (hf : Frees l) : Chg (fun q => q = b) w w' ∧ Blk w' b T cs ∧ NewI (fun q => w.heap.size ≤ q ∧ q < w'.heap.size) w' l := by
  obtain ⟨Fr, LC, h1, _, h3, h4, h5, h6⟩ := H
  have hlt := h3.lt
  have hc : Chg (fun q => q = b) w w' := h1.mono fun k _ h => by simpa using h
  cases LC with
  | nil => exact h3.elim
  | cons x LC =>
    obtain ⟨L, C⟩ := x
    obtain ⟨⟨rfl, rfl, g⟩, h3⟩ := h3
    have hNd := (List.nodup_append.1 h4).2.1
    simp only [blks, List.append_nil, List.cons_append, List.nil_append, List.nodup_cons] at hNd
    refine ⟨hc, g, LC, h3.free hf, hNd.2, fun q hq => ⟨?_, hlt q (by simp [blks, hq])⟩⟩
    rcases h6 q (by simp [blks, hq]) with h | h
    · obtain rfl : q = b := by simpa using h
      exact absurd hq hNd.1
    · exact h
/-- at the end: the variable has turned, and there is new memory -/
theorem HL.turnAdd (mk : List Bool) (H : HL F0 M w0 w fr ow) (hm : maskL mk ow = [It.B b T cs]) (hE : RW (fun q => q = b) w w') (hB : Blk w' b T cs') (h : NewI S w' l) (hf : Frees l) (hS : ∀ q, S q → w.heap.size ≤ q) : HL F0 M w0 w' fr (mergeL mk ow [It.B b T cs'] ++ l) := by
  obtain ⟨F', M', _, _, hcM⟩ := H.callN mk (by rw [hm]; exact ⟨noB, trivial⟩)
  obtain ⟨H', hcN⟩ := hcM (ps := []) trivial
  rw [hm] at H' hcN
  obtain ⟨LC, k1, k2, k3⟩ := h
  have hb : b ∈ M' ∧ b < w.heap.size := by
    obtain ⟨Fr, LC, _, _, h3, _, _, h6⟩ := H'
    cases LC with
    | nil => exact h3.elim
    | cons x LC =>
      obtain ⟨L, C⟩ := x
      obtain ⟨⟨rfl, rfl, g⟩, _⟩ := h3
      have hl := g.lt
      exact ⟨(h6 b (by simp [blks])).resolve_right (by omega), hl⟩
  have hx := hcN (w' := w') (l := It.B b T cs' :: l) 1 ⟨[], ([b], []) :: LC, hE.mono fun k hk hm => hm.elim (fun e => e ▸ hb.1) fun h => by omega, trivial, ⟨⟨rfl, rfl, hB⟩, k1.free hf⟩, by
      simp only [blks, List.append_nil, List.cons_append, List.nil_append, List.nodup_cons]
      exact ⟨fun hq => absurd (hS b (k3 b hq)) (by omega), k2⟩, by simp, fun q hq => by
      simp only [blks, List.append_nil, List.cons_append, List.nil_append, List.mem_cons] at hq
      rcases hq with e | hq
      · exact .inl (e ▸ hb.1)
      · exact .inr (hS q (k3 q hq))⟩ rfl ⟨fun _ _ _ _ _ h => h, hf⟩
  simpa using hx
theorem ThB.get (h : css[m]? = some cs) (hT : ThB b T css m w) : Blk w b T cs := by
  obtain ⟨c, h1, h2⟩ := hT
  obtain rfl : cs = c := Option.some.inj (h.symm.trans h1)
  exact h2
theorem RW.ofB (h : Chg (fun q => q = b) w w') : RW (fun q => q = b) w w' := h.mono fun _ _ h => .inl h
theorem NewI.nil : NewI (fun _ => False) w [] := ⟨[], trivial, List.nodup_nil, fun _ h => by simp [blks] at h⟩
end
section
variable {P : Program} {n d : Nat} {Q : Post} {ρ : Env} {w : World} {ops : Array Oper} {o : Oper} {l : List Oper} {h i m : Nat} {ks : List K2} {Mw : Nat → Prop} {Θ : Nat → World → Prop} {C : List Nat} {os : List (Option Nat)} {K : Nat → World → Prop} {G : Nat → Nat → Prop} {X : World → Prop}
theorem LL2.fxG {u : Value} (hX : ∀ w', RW Mw w w' → (∃ q, Θ q w') → X w') (hk : ks[i]? = some (.fix u)) (hc : C.contains i = false) (hoo : ownOf os i = i) (hg : o.guard = none) (hd : o.dst = some d) (he : ∀ w', X w' → (∀ j, (directs o).contains j = true → K j w') → Ev P ρ o w' u)
    (hr : LL2 P n Q ops h ks Mw Θ C os w (i + 1) l (upd ρ d u) K G m) : LL2 P n Q ops h ks Mw Θ C os w i (o :: l) ρ K G m :=
  .inl ⟨u, d, hk, hd, hc, hoo, fun w' hw hq hK => OpX.ev hg (he w' (hX w' hw hq) hK) ⟨Ext.refl _, rfl⟩, hr⟩
theorem LL2.freeG {φ : (Nat → Prop) → Value → World → Prop} (hX : ∀ w', RW Mw w w' → (∃ q, Θ q w') → X w') (hk : ks[i]? = some (.free φ)) (hc : C.contains i = false) (hoo : ownOf os i = i) (hd : o.dst = some d) (he : ∀ w', X w' → (∀ j, (directs o).contains j = true → K j w') → OpX P ops o ρ w' (fun v w'' => Ext w' w'' ∧ φ (fun q => w'.heap.size ≤ q ∧ q < w''.heap.size) v w''))
    (hr : ∀ v S, LL2 P n Q ops h ks Mw Θ C os w (i + 1) l (upd ρ d v) (fun j w' => if j = i then φ S v w' else K j w') (fun j q => if j = i then S q else G j q) m) : LL2 P n Q ops h ks Mw Θ C os w i (o :: l) ρ K G m :=
  .inr (.inl ⟨φ, d, hk, hd, hc, hoo, fun w' hw hq hK => he w' (hX w' hw hq) hK, hr⟩)
/-- the next call of the chain, with a value that is known -/
theorem LL2.chF {u : Value} (hX : ∀ w', RW Mw w w' → Θ m w' → X w') (hk : ks[i]? = some (.fix u)) (hc : C[m]? = some i) (hoo : ownOf os i = i) (hd : o.dst = some d) (he : ∀ w', X w' → (∀ j, (directs o).contains j = true → K j w') → OpX P ops o ρ w' (fun v w'' => Chg Mw w' w'' ∧ Θ (m + 1) w'' ∧ v = u))
    (hr : LL2 P n Q ops h ks Mw Θ C os w (i + 1) l (upd ρ d u) K G (m + 1)) : LL2 P n Q ops h ks Mw Θ C os w i (o :: l) ρ K G m :=
  .inr (.inr (.inr (.inl ⟨u, d, hk, hd, hc, hoo, fun w' hw hq hK => he w' (hX w' hw hq) hK, hr⟩)))
end
end Go.E
/- A small engine for walks, second series, part 21: rows whose elements are only read, and grow. Plain theorems; nothing here speaks of one program. -/
namespace Go.E
open Go
open Rep (rd)
open Sep (own)
section
variable {F0 : Nat → Prop} {M : List Nat} {w0 w w' : World} {fr : List Pr} {ow : List It}
end
section
variable {F0 : Nat → Prop} {M : List Nat} {w0 w w' : World} {fr : List Pr} {ow : List It} {i j : Nat} {e : TypeId} {v : Value} {cs : List Value}
variable {P : Program} {n d : Nat} {Q : Post} {ρ : Env} {ops : Array Oper} {o : Oper} {rest : List Oper}
end
end Go.E
/- A small engine for walks, second series, part 22: literals of several elements, in any order. Plain theorems; nothing here speaks of one program. -/
namespace Go.E
open Go
open Rep (rd)
open Sep (own)
section
variable {P : Program} {n d : Nat} {Q : Post} {ρ : Env} {w w0 : World} {ops : Array Oper} {o : Oper} {e : TypeId} {F0 : Nat → Prop} {M : List Nat} {fr : List Pr} {ow : List It}
theorem OpX.litN {α : Type} [Sep α] {T m : Nat} {z : Value} {parts : Array (Nat × Operand)} {vs : List Value} {xs : List α} {R : Value → World → Prop} (hg : o.guard = none) (ho : o.op = .buildSlice T m parts) (hT : elemT P T = some e) (hk : szT P e = some 1) (hz : zeroT P e = some [z])
    (hp : parts.toList.map (fun p => (p.1, E.ev ρ p.2)) = idxL 0 vs) (h1 : ∀ v ∈ vs, v.cells = #[v]) (hn : vs.length = m) (hm : Nat.blt 0 m = true) (hm2 : Nat.ble m 100000 = true) (hx : ∀ w, ownL w [] xs vs) (hs : Rep.sz α = 1)
    (h : ∀ A k c w', Ext w w' → NewI (fun q => w.heap.size ≤ q ∧ q < w'.heap.size) w' [It.O e xs (.slice A k c)] → R (.slice A k c) w') : OpX P ops o ρ w R := by
  refine .inl ⟨by simp [gate, hg], ?_⟩
  have hp' : parts.map (fun p => (p.1, E.ev ρ p.2)) = (idxL 0 vs).toArray := by
    apply Array.ext'; simpa using hp
  have hr := run_litN (P := P) (w := w) hT hk hz h1 hn hm hm2
  simp only [execOp, ho, hp', Sem.run_bind, hr, Result.andThen_ok, Sem.run_pure]
  have hxl : xs.length = m := by
    have := (hx w).rd.len
    rw [hs, Nat.mul_one] at this
    omega
  have hm2' : m ≤ 100000 := by simpa using hm2
  have hml : xs.length ≤ maxLen := by show _ ≤ 9223372036854775807; omega
  have hE := Ext.alloc w (.cells vs.toArray e)
  have hB := blk_alloc w e vs
  rw [← hxl]
  refine h _ _ _ _ hE ⟨[([w.heap.size], [])], ⟨⟨vs, .inl ⟨Own.of_blk hB (by rw [← (hx w).rd.len]) (Nat.zero_le _) hml, rfl⟩, hx _⟩, trivial⟩, by simp [blks], fun q hq => ?_⟩
  obtain rfl : q = w.heap.size := by simpa [blks] using hq
  exact ⟨Nat.le_refl _, hB.lt⟩
theorem NewI.rdI {α : Type} [Sep α] {xs : List α} {v : Value} {i : Nat} {S : Nat → Prop} {l : List It} (h : NewI S w l) (hi : l[i]? = some (It.O e xs v)) : rdS (Lt w) w xs v := by
  obtain ⟨LC, h1, _, _⟩ := h
  obtain ⟨_, _, _, L, C, _, _, _, _, _, ⟨cs, k1, k3⟩, _⟩ := h1.split hi
  exact k1.rd (k3.rd.mono fun b hb => k3.lt b hb) k1.lst
theorem Ret.get2 {f : FuncId} {args : Array Value} {M : Nat → Prop} {R : Value → World → Prop} (h : Ret P f args w M R) : ∃ v w', Chg M w w' ∧ R v w' := by
  obtain ⟨e, w', fr, ⟨v, _, hc, hR⟩, _⟩ := h []
  exact ⟨v, w', hc, hR⟩
theorem Ev.convB {S T : TypeId} {x : Operand} {m : UInt8} {d : TypeDesc} (ho : o.op = .convert S T x) (hS : P.underlying S = some d) (hT : intT P T = some .i64) (hx : E.ev ρ x = .int .u8 (m.toNat : Int)) : Ev P ρ o w (.int .i64 (m.toNat : Int)) := by
  have h := Ev.conv (w := w) ho hS hT hx
  have := m.toNat_lt
  rwa [IntWalk.i64_in _ (by omega)] at h
theorem Opens.byte {T : TypeId} (hc : P.cellsOf T = 1) (ht : P.underlying T = some (.int .u8)) : Opens P T UInt8 := by
  refine ⟨hc, fun H enc w base spare held fuel cs x h => ?_⟩
  obtain ⟨n, rfl, _, hw⟩ := DataW.trod_int ht h
  have hb := bounds_u8 hw
  refine ⟨UInt8.ofNat n.toNat, ?_⟩
  show [Value.int .u8 n] = [.int .u8 ((UInt8.ofNat n.toNat).toNat : Int)]
  have : ((UInt8.ofNat n.toNat).toNat : Int) = n := by
    rw [UInt8.toNat_ofNat']; omega
  rw [this]
/-- a world in which there is such a literal besides -/
theorem HL.litX {α : Type} [Sep α] {vs : List Value} {xs : List α} (H : HL F0 M w0 w fr ow) (e : TypeId) (hx : ∀ w, ownL w [] xs vs) (hm : Nat.ble xs.length 100000 = true) : ∃ w' A k c, HL F0 M w0 w' fr (ow ++ [It.O e xs (.slice A k c)]) := by
  have hm2' : xs.length ≤ 100000 := by simpa using hm
  have hml : xs.length ≤ maxLen := by show _ ≤ 9223372036854775807; omega
  exact ⟨_, _, _, _, H.newO (xs := xs) (C := []) (Ext.alloc w (.cells vs.toArray e)) (Nat.le_refl _) (blk_alloc w e vs) (hx _) List.nodup_nil (by simp) hml⟩
theorem HL.knowS {i b : Nat} {T : TypeId} {cs : List Value} {css : List (List Value)} (H : HL F0 M w0 w fr ow) (hi : ow[i]? = some (It.B b T cs)) : ∀ w', RW (fun q => q = b) w w' → (∃ q, ThB b T css q w') → ∃ cs', HL F0 M w0 w' fr (ow.set i (It.B b T cs')) ∧ w.heap.size ≤ w'.heap.size :=
  fun _ hE ⟨_, cs', _, hB⟩ => ⟨cs', H.turnB hi hE hB, hE.size⟩
end
section
variable {P : Program} {n d : Nat} {Q : Post} {ρ : Env} {w : World} {ops : Array Oper} {o : Oper} {l : List Oper} {h i m : Nat} {ks : List K2} {Mw : Nat → Prop} {Θ : Nat → World → Prop} {C : List Nat} {os : List (Option Nat)} {K : Nat → World → Prop} {G : Nat → Nat → Prop}
theorem OpX.on {R : Value → World → Prop} (hg : gate ops ρ o = true) (h : OpX P ops { o with guard := none } ρ w R) : OpX P ops o ρ w R := by
  rcases h with h | h
  · exact .inl ⟨hg, h.2⟩
  · exact absurd h.1 (by simp [gate])
/-- a guarded operation that is carried out -/
theorem LL2.on (hg : gate ops ρ o = true) (h' : LL2 P n Q ops h ks Mw Θ C os w i ({ o with guard := none } :: l) ρ K G m) : LL2 P n Q ops h ks Mw Θ C os w i (o :: l) ρ K G m := by
  rcases h' with ⟨u, d, h1, h2, h3, h4, h5, h6⟩ | ⟨φ, d, h1, h2, h3, h4, h5, h6⟩ | ⟨t, g, d, h1, h2, h3, h4, h5, h6⟩ | ⟨u, d, h1, h2, h3, h4, h5, h6⟩ | ⟨φ, d, h1, h2, h3, h4, h5, h6⟩ | ⟨t, s, ψ, φ, h1, h2, h3, h4, h5, h6, h7, h8⟩ | ⟨t, s, ψ, h1, h2, h3, h4, h5, h6, h7⟩
  · exact .inl ⟨u, d, h1, h2, h3, h4, fun w' a b c => OpX.on hg (h5 w' a b c), h6⟩
  · exact .inr (.inl ⟨φ, d, h1, h2, h3, h4, fun w' a b c => OpX.on hg (h5 w' a b c), h6⟩)
  · exact .inr (.inr (.inl ⟨t, g, d, h1, h2, h3, h4, fun w' a b c => OpX.on hg (h5 w' a b c), h6⟩))
  · exact .inr (.inr (.inr (.inl ⟨u, d, h1, h2, h3, h4, fun w' a b c => OpX.on hg (h5 w' a b c), h6⟩)))
  · exact .inr (.inr (.inr (.inr (.inl ⟨φ, d, h1, h2, h3, h4, fun w' a b c => OpX.on hg (h5 w' a b c), h6⟩))))
  · exact .inr (.inr (.inr (.inr (.inr (.inl ⟨t, s, ψ, φ, h1, h2, h3, h4, h5, h6, fun w' a b c => OpX.on hg (h7 w' a b c), h8⟩)))))
  · exact .inr (.inr (.inr (.inr (.inr (.inr ⟨t, s, ψ, h1, h2, h3, h4, h5, fun w' a b c => OpX.on hg (h6 w' a b c), h7⟩)))))
/-- and one that is passed over -/
theorem LL2.off (hg : gate ops ρ o = false) (hk : ks[i]? = some (.fix undef)) (hc : C.contains i = false) (hoo : ownOf os i = i) (hd : o.dst = some d) (hr : LL2 P n Q ops h ks Mw Θ C os w (i + 1) l (upd ρ d undef) K G m) : LL2 P n Q ops h ks Mw Θ C os w i (o :: l) ρ K G m :=
  .inl ⟨undef, d, hk, hd, hc, hoo, fun _ _ _ _ => .inr ⟨hg, Ext.refl _, rfl⟩, hr⟩
end
end Go.E
/- A small engine for walks, second series, part 23: a chain that writes to two variables, by calls and by stores. Plain theorems; nothing here speaks of one program. -/
namespace Go.E
open Go
open Rep (rd)
open Sep (own)
def Th2 (b : Nat) (T : TypeId) (css : List (List Value)) (b2 : Nat) (T2 : TypeId) (css2 : List (List Value)) (m : Nat) (w : World) : Prop := ThB b T css m w ∧ ThB b2 T2 css2 m w
section
variable {F0 : Nat → Prop} {M : List Nat} {w0 w w' w'' : World} {fr ps : List Pr} {ow l : List It} {i j b b2 m : Nat} {T T2 : TypeId} {cs cs' c2 c2' : List Value} {S : Nat → Prop} {css css2 : List (List Value)}
theorem HL.neB (H : HL F0 M w0 w fr ow) (hi : ow[i]? = some (It.B b T cs)) (hj : ow[j]? = some (It.B b2 T2 c2)) (hij : i ≠ j) : b ≠ b2 := by
  obtain ⟨Fr, LC, h1, h2, h3, h4, h5, h6⟩ := H
  have hNd := (List.nodup_append.1 h4).2.1
  obtain ⟨a, c, A, L, C, B, _, e2, e3, g1, ⟨rfl, rfl, _⟩, _⟩ := h3.split hi
  obtain ⟨a', c', A', L', C', B', _, e5, e6, k1, ⟨rfl, rfl, _⟩, _⟩ := h3.split hj
  have hgi : LC[i]? = some ([b], []) := by rw [e3, ← e2, g1.length]; simp
  have hgj : LC[j]? = some ([b2], []) := by rw [e6, ← e5, k1.length]; simp
  exact fun e => blks_apart hNd hgi hgj hij b (by simp) (by simp [e])
theorem Blk.keep (h : Chg (fun q => q = b) w w') (hB : Blk w b2 T2 c2) (hne : b2 ≠ b) : Blk w' b2 T2 c2 := (h.block b2 hB.lt fun e => hne e).trans hB
theorem Th2.mono (hb : b < w.heap.size) (hb2 : b2 < w.heap.size) : ∀ m a c (T' : Nat → Prop), Th2 b T css b2 T2 css2 m a → Chg T' a c → (∀ q, T' q → w.heap.size ≤ q) → Th2 b T css b2 T2 css2 m c :=
  fun m a c T' h hc hT => ⟨ThB.mono hb m a c T' h.1 hc hT, ThB.mono hb2 m a c T' h.2 hc hT⟩
/-- the two variables have turned, and there is new memory -/
theorem HL.turnAdd2 (mk : List Bool) (H : HL F0 M w0 w fr ow) (hm : maskL mk ow = [It.B b T cs, It.B b2 T2 c2]) (hE : RW (fun q => q = b ∨ q = b2) w w') (hB : Blk w' b T cs') (hB2 : Blk w' b2 T2 c2') (h : NewI S w' l) (hf : Frees l) (hS : ∀ q, S q → w.heap.size ≤ q) :
    HL F0 M w0 w' fr (mergeL mk ow [It.B b T cs', It.B b2 T2 c2'] ++ l) := by
  obtain ⟨F', M', _, _, hcM⟩ := H.callN mk (by rw [hm]; exact ⟨noB, noB, trivial⟩)
  obtain ⟨H', hcN⟩ := hcM (ps := []) trivial
  rw [hm] at H' hcN
  obtain ⟨LC, k1, k2, k3⟩ := h
  have hne : b ≠ b2 := H'.neB (i := 0) (j := 1) rfl rfl (by decide)
  have hlt := (H'.rB (i := 0) rfl).lt
  have hlt2 := (H'.rB (i := 1) rfl).lt
  have hb : b ∈ M' ∧ b2 ∈ M' := by
    obtain ⟨Fr, LC, _, _, h3, _, _, h6⟩ := H'
    match LC, h3 with
    | (L, C) :: (L2, C2) :: LC, ⟨⟨e1, e2, _⟩, ⟨e3, e4, _⟩, _⟩ =>
      subst e1; subst e2; subst e3; subst e4
      exact ⟨(h6 b (by simp [blks])).resolve_right (by omega), (h6 b2 (by simp [blks])).resolve_right (by omega)⟩
  have hx := hcN (w' := w') (l := It.B b T cs' :: It.B b2 T2 c2' :: l) 2 ⟨[], ([b], []) :: ([b2], []) :: LC, hE.mono fun k hk hm => hm.elim (fun e => e.elim (fun e => e ▸ hb.1) fun e => e ▸ hb.2) fun h => by omega, trivial, ⟨⟨rfl, rfl, hB⟩, ⟨rfl, rfl, hB2⟩, k1.free hf⟩, by
      simp only [blks, List.append_nil, List.cons_append, List.nil_append, List.nodup_cons, List.mem_cons, not_or]
      exact ⟨⟨hne, fun hq => absurd (hS b (k3 b hq)) (by omega)⟩, fun hq => absurd (hS b2 (k3 b2 hq)) (by omega), k2⟩, by simp, fun q hq => by
      simp only [blks, List.append_nil, List.cons_append, List.nil_append, List.mem_cons] at hq
      rcases hq with e | e | hq
      · exact .inl (e ▸ hb.1)
      · exact .inl (e ▸ hb.2)
      · exact .inr (hS q (k3 q hq))⟩ rfl ⟨fun _ _ _ _ _ h => h, fun _ _ _ _ _ h => h, hf⟩
  simpa using hx
theorem HL.turn2 (mk : List Bool) (H : HL F0 M w0 w fr ow) (hm : maskL mk ow = [It.B b T cs, It.B b2 T2 c2]) (hE : RW (fun q => q = b ∨ q = b2) w w') (hB : Blk w' b T cs') (hB2 : Blk w' b2 T2 c2') : HL F0 M w0 w' fr (mergeL mk ow [It.B b T cs', It.B b2 T2 c2']) := by
  have := H.turnAdd2 mk hm hE hB hB2 NewI.nil trivial fun _ h => h.elim
  simpa using this
theorem HL.know2 (mk : List Bool) (H : HL F0 M w0 w fr ow) (hm : maskL mk ow = [It.B b T cs, It.B b2 T2 c2]) : ∀ w', RW (fun q => q = b ∨ q = b2) w w' → (∃ q, Th2 b T css b2 T2 css2 q w') → ∃ c c', HL F0 M w0 w' fr (mergeL mk ow [It.B b T c, It.B b2 T2 c']) ∧ w.heap.size ≤ w'.heap.size :=
  fun _ hE ⟨_, ⟨c, _, h1⟩, ⟨c', _, h2⟩⟩ => ⟨c, c', H.turn2 mk hm hE h1 h2, hE.size⟩
theorem HL.chX2 (mk : List Bool) (H : HL F0 M w0 w fr ow) (hm : maskL mk ow = [It.B b T cs, It.B b2 T2 c2]) (h1 : css[m]? = some cs') (h2 : css2[m]? = some c2') : ∀ w', RW (fun q => q = b ∨ q = b2) w w' → Th2 b T css b2 T2 css2 m w' → HL F0 M w0 w' fr (mergeL mk ow [It.B b T cs', It.B b2 T2 c2']) :=
  fun _ hE hT => H.turn2 mk hm hE (ThB.get h1 hT.1) (ThB.get h2 hT.2)
end
section
variable {P : Program} {n d : Nat} {Q : Post} {ρ : Env} {w : World} {ops : Array Oper} {o : Oper} {l : List Oper} {h i m : Nat} {ks : List K2} {Mw : Nat → Prop} {Θ : Nat → World → Prop} {C : List Nat} {os : List (Option Nat)} {K : Nat → World → Prop} {G : Nat → Nat → Prop} {X : World → Prop}
/-- a store into a variable -/
theorem OpX.storeB {T : TypeId} {x y : Operand} {b off k : Nat} {TB : TypeId} {u : Value} {cs cs' : List Value} {l : List Value} {R : Value → World → Prop} (hg : o.guard = none) (ho : o.op = .store T x y) (hk : szT P T = some k) (hx : E.ev ρ x = .pointer (some ⟨b, off, none⟩))
    (hy : E.ev ρ y = u) (hv : u.cells = l.toArray) (hl : l.length = k) (h1 : ∀ u ∈ l, u.oneCell' = true) (hB : Blk w b TB cs) (hfit : Nat.ble (off + k) cs.length = true) (hcs : splice cs off l = cs')
    (h : ∀ v w', Chg (fun q => q = b) w w' → Blk w' b TB cs' → R v w') : OpX P ops o ρ w R := by
  obtain ⟨w'', hrun, hch, hB'⟩ := run_storeVar (P := P) (off := off) hk hv hl h1 hB (Nat.le_of_ble_eq_true hfit)
  rw [hcs] at hB'
  refine .inl ⟨by simp [gate, hg], ?_⟩
  simp only [execOp, ho, hx, hy, Instr.storeAt, Instr.sureAddr, Sem.run_bind, Sem.run_pure, Result.andThen_ok, hrun, uponR]
  exact h _ _ hch hB'
/-- the next of the chain is a store -/
theorem LL2.chS {t s : Nat} (hX : ∀ w', RW Mw w w' → Θ m w' → X w') (hk : ks[i]? = some (.wr t s (fun _ _ _ _ => True))) (hc : C[m]? = some i) (hoo : ownOf os i = i) (hd : o.dst = none) (he : ∀ w', X w' → (∀ j, (directs o).contains j = true → K j w') → OpX P ops o ρ w' (fun _ w'' => Chg Mw w' w'' ∧ Θ (m + 1) w''))
    (hr : LL2 P n Q ops h ks Mw Θ C os w (i + 1) l ρ K G (m + 1)) : LL2 P n Q ops h ks Mw Θ C os w i (o :: l) ρ K G m :=
  .inr (.inr (.inr (.inr (.inr (.inr ⟨t, s, _, hk, hd, hc, hoo, fun _ _ _ _ => trivial, fun w' hw hq hK => he w' (hX w' hw hq) hK, hr⟩)))))
end
section
variable {P : Program} {ρ : Env} {w : World}
theorem res_ctt {fn : Func} {t0 T0 k0 b0 off0 : Nat} {cs0 : List Value} {t1 : Nat} {u1 : Value} {t2 : Nat} {u2 : Value} (hr : fn.results = #[.cell t0 T0, .tmp t1, .tmp t2]) (hT0 : aggT P T0 = some true) (hk0 : szT P T0 = some k0) (ht0 : Nat.blt t0 fn.ntmps = true) (hv0 : ρ t0 = .pointer (some ⟨b0, off0, none⟩)) (hc0 : At w b0 off0 cs0) (hl0 : cs0.length = k0) (ht1 : Nat.blt t1 fn.ntmps = true) (hu1 : ρ t1 = u1) (ht2 : Nat.blt t2 fn.ntmps = true) (hu2 : ρ t2 = u2) : ∀ a : Act, Rel fn.ntmps ρ a → (results fn a.tmps).run P w = .ok (.tuple #[.agg cs0.toArray, u1, u2]) w := fun a ha => by
  subst hl0
  have h0 : a.tmps.getD t0 undef = .pointer (some ⟨b0, off0, none⟩) := (ha.at_ t0 (by simpa using ht0)).trans hv0
  have g0 := run_loadCellsFrom (P := P) (w := w) (b := b0) (off := off0) cs0 0 #[] hc0
  have h1 : a.tmps.getD t1 undef = u1 := (ha.at_ t1 (by simpa using ht1)).trans hu1
  have h2 : a.tmps.getD t2 undef = u2 := (ha.at_ t2 (by simpa using ht2)).trans hu2
  simp only [Array.getD_eq_getD_getElem?] at h0 h1 h2
  simp [results, hr, loadVar, loadCells, asAddr, h0, run_isAgg hT0, run_sizeOf' hk0, g0, h1, h2]
theorem res_cc {fn : Func} {t0 T0 k0 b0 off0 : Nat} {cs0 : List Value} {t1 T1 k1 b1 off1 : Nat} {cs1 : List Value} (hr : fn.results = #[.cell t0 T0, .cell t1 T1]) (hT0 : aggT P T0 = some true) (hk0 : szT P T0 = some k0) (ht0 : Nat.blt t0 fn.ntmps = true) (hv0 : ρ t0 = .pointer (some ⟨b0, off0, none⟩)) (hc0 : At w b0 off0 cs0) (hl0 : cs0.length = k0) (hT1 : aggT P T1 = some true) (hk1 : szT P T1 = some k1) (ht1 : Nat.blt t1 fn.ntmps = true) (hv1 : ρ t1 = .pointer (some ⟨b1, off1, none⟩)) (hc1 : At w b1 off1 cs1) (hl1 : cs1.length = k1) : ∀ a : Act, Rel fn.ntmps ρ a → (results fn a.tmps).run P w = .ok (.tuple #[.agg cs0.toArray, .agg cs1.toArray]) w := fun a ha => by
  subst hl0
  have h0 : a.tmps.getD t0 undef = .pointer (some ⟨b0, off0, none⟩) := (ha.at_ t0 (by simpa using ht0)).trans hv0
  have g0 := run_loadCellsFrom (P := P) (w := w) (b := b0) (off := off0) cs0 0 #[] hc0
  subst hl1
  have h1 : a.tmps.getD t1 undef = .pointer (some ⟨b1, off1, none⟩) := (ha.at_ t1 (by simpa using ht1)).trans hv1
  have g1 := run_loadCellsFrom (P := P) (w := w) (b := b1) (off := off1) cs1 0 #[] hc1
  simp only [Array.getD_eq_getD_getElem?] at h0 h1
  simp [results, hr, loadVar, loadCells, asAddr, h0, run_isAgg hT0, run_sizeOf' hk0, g0, h1, run_isAgg hT1, run_sizeOf' hk1, g1]
end
end Go.E
/- Lists in strict order: plain lemmas; nothing here speaks of one program. -/
namespace Go.E
section
variable {α : Type} {lt : α → α → Bool}
end
section
variable {α : Type} [DecidableEq α] {lt : α → α → Bool}
end
end Go.E

