/- A small engine for walks through a Go program: plain lemmas on the model, without conditions of their own. -/
import Derived.Test.YtonnooljidombaaEngC
import Derived.Sort.Grow
import Derived.Deep.Draws
import Derived.Shelf.GgSortFunc.RowK
import Derived.OrdersHeld
set_option linter.unusedVariables false
set_option linter.unusedSimpArgs false
set_option linter.ambiguousOpen false
set_option linter.unusedSectionVars false
set_option linter.unnecessarySimpa false
/- A small engine for walks, second series, part 18: regions in any order, over any relation between worlds; worlds that have only grown. Plain theorems; nothing here speaks of one program. -/
namespace Go.E
open Go
section
variable {P : Program} {n : Nat} {Q : Post} {ρ : Env} {w : World} {ops : Array Oper} {o : Oper} {rest : List Oper} {C : World → Prop} {F : Env → Prop} {R : World → World → Prop}
/-- a region whose operations each give one value in every world of C: the walk in the order of the text -/
def QC (R : World → World → Prop) (P : Program) (n : Nat) (ops : Array Oper) (C : World → Prop) (F : Env → Prop) : List Oper → Env → Prop
  | [], ρ => F ρ
  | o :: rest, ρ => ∃ v, (∀ w, C w → OpQ P ops (R w) o ρ w v) ∧ QC R P n ops C F rest (E.put ρ o.dst v)
theorem QC.nil (h : F ρ) : QC R P n ops C F [] ρ := h
theorem QC.ev {v : Value} {d : Nat} (hg : o.guard = none) (hd : o.dst = some d) (he : ∀ w, C w → Ev P ρ o w v) (h : QC R P n ops C F rest (upd ρ d v)) : QC R P n ops C F (o :: rest) ρ :=
  ⟨v, fun w hw => .inl ⟨by simp [gate, hg], by rw [he w hw]; exact ⟨rfl, rfl⟩⟩, by rw [hd]; exact h⟩
theorem QC.on (_hG : okGuards n ops = true) (hg : gate ops ρ o = true) (h : QC R P n ops C F ({ o with guard := none } :: rest) ρ) : QC R P n ops C F (o :: rest) ρ := by
  obtain ⟨v, h1, h2⟩ := h
  refine ⟨v, fun w hw => .inl ⟨hg, ?_⟩, h2⟩
  rcases h1 w hw with h3 | h3
  · exact h3.2
  · exact absurd h3.1 (by simp [gate])
theorem QC.off {d : Nat} (_hG : okGuards n ops = true) (hg : gate ops ρ o = false) (hd : o.dst = some d) (h : QC R P n ops C F rest (upd ρ d undef)) : QC R P n ops C F (o :: rest) ρ :=
  ⟨undef, fun _ _ => .inr ⟨hg, rfl⟩, by rw [hd]; exact h⟩
/-- a call that gives the same value in every world of C -/
theorem QC.call {c : Call} {f : FuncId} {x : Operand} {caps : Array Value} {args : List Value} {v : Value} {d : Nat} (hg : o.guard = none) (hd : o.dst = some d) (ho : o.op = .call c) (hx : c.callee = .value x) (hf : E.ev ρ x = .func (.func f) #[] caps)
    (hc : callable P f = true) (ha : c.args.toList.map (E.ev ρ) ++ caps.toList = args) (hr : ∀ w, C w → Ret P f args.toArray w (fun _ => False) fun u w' => u = v ∧ R w w')
    (h : QC R P n ops C F rest (upd ρ d v)) : QC R P n ops C F (o :: rest) ρ := by
  refine ⟨v, fun w hw => .inl ⟨by simp [gate, hg], ?_⟩, by rw [hd]; exact h⟩
  simp only [execOp, ho]
  rw [run_call hx hf hc ha]
  exact ⟨rfl, Calls.mono (hr w hw) fun _ _ ⟨_, he, _, hv, hch⟩ => ⟨by rw [he, hv], hch⟩⟩
/-- what is asked of each operation of the head -/
def stepsC (R : World → World → Prop) (P : Program) (n : Nat) (ops : Array Oper) (h : Nat) (D : Nat → List Nat) (Ψ : Nat → List Value → World → Prop) (ρ : Env) (w : World) : Nat → List Oper → Prop
  | _, [] => True
  | i, o :: l => (∀ ρ' w', R w w' → (∀ t, (∀ j, j < h → dstOf ops j ≠ some t) → ρ' t = ρ t) → (∀ j, (directs o).contains j = true → Ψ j ((D j).map ρ') w') →
      OpW P n ops o ρ' w' (fun v w'' => R w' w'' ∧ Ψ i ((D i).map (E.put ρ' o.dst v)) w'')) ∧ stepsC R P n ops h D Ψ ρ w (i + 1) l

theorem stepsC.get {h : Nat} {D : Nat → List Nat} {Ψ : Nat → List Value → World → Prop} : ∀ (l : List Oper) (k i : Nat) (o : Oper), stepsC R P n ops h D Ψ ρ w k l → l[i]? = some o →
    (∀ ρ' w', R w w' → (∀ t, (∀ j, j < h → dstOf ops j ≠ some t) → ρ' t = ρ t) → (∀ j, (directs o).contains j = true → Ψ j ((D j).map ρ') w') →
      OpW P n ops o ρ' w' (fun v w'' => R w' w'' ∧ Ψ (k + i) ((D (k + i)).map (E.put ρ' o.dst v)) w''))
  | [], _, _, _, _, hh => by simp at hh
  | x :: l, k, 0, o, hs, hh => by simp at hh; subst hh; exact hs.1
  | x :: l, k, i + 1, o, hs, hh => by
    have := stepsC.get l (k + 1) i o hs.2 (by simpa using hh)
    rwa [Nat.add_right_comm] at this

/-- the state of the walk through an open order -/
structure InvC (R : World → World → Prop) (n : Nat) (ops : Array Oper) (h : Nat) (D : Nat → List Nat) (Ψ : Nat → List Value → World → Prop) (ρ0 : Env) (w0 : World) (listed : Array Bool) (ρ : Env) (w : World) : Prop where
  head : HeadInv .any ops h listed
  ext : R w0 w
  out : ∀ t, (∀ j, j < h → dstOf ops j ≠ some t) → ρ t = ρ0 t
  known : ∀ j, j < h → listed.getD j false = true → Ψ j ((D j).map ρ) w

section loose
variable {h : Nat} {D : Nat → List Nat}
theorem QC.vals : ∀ (l : List Oper) (k : Nat) (ρ : Env), (∀ j, l[j]? = if j < l.length then ops[k + j]? else none) → (∀ i j, i < j → j < k + l.length → ∀ t, dstOf ops i = some t → dstOf ops j ≠ some t) → QC R P n ops C F l ρ →
    ∃ (vs : Nat → Value) (ρe : Env), F ρe ∧ (∀ t, (∀ j, k ≤ j → j < k + l.length → dstOf ops j ≠ some t) → ρe t = ρ t) ∧
      ∀ j o, k ≤ j → j < k + l.length → ops[j]? = some o → (∀ d, o.dst = some d → ρe d = vs j) ∧
        ∃ ρj : Env, (∀ t, (∀ i, j ≤ i → i < k + l.length → dstOf ops i ≠ some t) → ρj t = ρe t) ∧ ∀ w, C w → OpQ P ops (R w) o ρj w (vs j)
  | [], k, ρ, _, _, h => ⟨fun _ => undef, ρ, h, fun _ _ => rfl, fun j o h1 h2 => by simp at h2; omega⟩
  | o :: l, k, ρ, hl, hd, h => by
    obtain ⟨v, h1, h2⟩ := h
    have hlen : k + 1 + l.length = k + (o :: l).length := by simp; omega
    obtain ⟨vs, ρe, hF, hout, hvs⟩ := QC.vals l (k + 1) (E.put ρ o.dst v) (fun j => by
      have := hl (j + 1)
      simp only [List.getElem?_cons_succ, List.length_cons] at this
      rw [this]
      by_cases hj : j < l.length
      · rw [if_pos (by omega), if_pos hj]; congr 1; omega
      · rw [if_neg (by omega), if_neg hj]) (fun i j hij hj => hd i j hij (by omega)) h2
    have ho : ops[k]? = some o := by have := hl 0; simpa using this.symm
    refine ⟨fun j => if j = k then v else vs j, ρe, hF, fun t ht => ?_, fun j o' hj1 hj2 hoj => ?_⟩
    · rw [hout t (fun j a b => ht j (by omega) (by omega))]
      cases hdst : o.dst with
      | none => rfl
      | some d => exact upd_other _ _ fun e => ht k (Nat.le_refl _) (by simp) (by unfold dstOf; rw [ho]; simp [hdst, e])
    · by_cases hjk : j = k
      · subst hjk
        have : o' = o := Option.some.inj (hoj.symm.trans ho)
        subst this
        simp only [if_pos]
        refine ⟨fun d hdst => ?_, ρ, fun t ht => ?_, h1⟩
        · rw [hout d (fun i a b => hd j i (by omega) (by omega) d (by unfold dstOf; rw [ho]; exact hdst))]
          rw [hdst]; exact upd_same _ _ _
        · rw [hout t (fun i a b => ht i (by omega) (by omega))]
          cases hdst : o'.dst with
          | none => rfl
          | some d => exact (upd_other _ _ fun e => ht j (Nat.le_refl _) (by simp) (by unfold dstOf; rw [ho]; simp [hdst, e])).symm
      · obtain ⟨h3, ρj, h4, h5⟩ := hvs j o' (by omega) (by omega) hoj
        simp only [if_neg hjk]
        exact ⟨h3, ρj, fun t ht => h4 t fun i a b => ht i a (by omega), h5⟩

end loose
end
/-- new blocks and draws, and nothing else -/
def Gr (w w' : World) : Prop := ∃ q os, w' = Sort.grow (w.drewN q) os
theorem Gr.refl (w : World) : Gr w w := ⟨0, #[], by simp [Sort.grow, World.drewN]⟩
theorem Gr.trans {a b c : World} (h : Gr a b) (k : Gr b c) : Gr a c := by
  obtain ⟨q, os, rfl⟩ := h
  obtain ⟨q2, os2, rfl⟩ := k
  exact ⟨q + q2, os ++ os2, by simp [Sort.grow, World.drewN, Array.append_assoc, Nat.add_assoc]⟩
theorem Gr.alloc (w : World) (o : Obj) : Gr w (w.alloc o) := ⟨0, #[o], Sort.alloc_eq_grow w o⟩
theorem Gr.ext {w w' : World} (h : Gr w w') : Ext w w' := by
  obtain ⟨q, os, rfl⟩ := h
  refine ⟨rfl, rfl, rfl, by simp [Sort.grow, World.drewN], fun k hk _ => ?_⟩
  simp only [Sort.grow, World.drewN]
  rw [Array.getElem?_append_left hk]
section
variable {P : Program} {n d : Nat} {Q : Post} {ρ : Env} {w : World} {ops : Array Oper} {o : Oper} {rest : List Oper} {e : TypeId} {v : Value} {cs : List Value}
end
end Go.E
/- A small engine for walks, second series, part 19: rows that the sort of the library lays anew. Plain theorems; nothing here speaks of one program. -/
namespace Go.E
open Go
open Rep (rd)
open Sep (own)
section
variable {α : Type} [Sep α] {enc : α → List Value} {ok : α → Prop}
end
section
variable {α : Type} {enc : α → List Value} {k : Nat}
end
section
variable {α : Type} [Inhabited α] [Sep α] {enc : α → List Value} {ok : α → Prop} {F0 : Nat → Prop} {M : List Nat} {w0 w : World} {fr : List Pr} {ow : List It} {i : Nat} {e : TypeId}
end
end Go.E
/- A small engine for walks, second series, part 20: regions in any order in which calls write, in turn, to one variable (a cursor). Plain theorems; nothing here speaks of one program. -/
namespace Go.E
open Go
open Rep (rd)
open Sep (own)
/-- the cursor's block holds, behind so many calls, these cells -/
def ThB (b : Nat) (T : TypeId) (css : List (List Value)) (m : Nat) (w : World) : Prop := ∃ cs, css[m]? = some cs ∧ Blk w b T cs
section
variable {F0 : Nat → Prop} {M : List Nat} {w0 w w' : World} {fr ps : List Pr} {ow l : List It} {i j b m : Nat} {T : TypeId} {cs cs' : List Value} {S : Nat → Prop} {css : List (List Value)}
theorem ThB.mono (hb : b < w.heap.size) : ∀ m a c (T' : Nat → Prop), ThB b T css m a → Chg T' a c → (∀ q, T' q → w.heap.size ≤ q) → ThB b T css m c :=
  fun _ _ _ _ ⟨cs, h1, h2⟩ hc hT => ⟨cs, h1, (hc.block b h2.lt fun ht => absurd (hT b ht) (by omega)).trans h2⟩
theorem ThB.get (h : css[m]? = some cs) (hT : ThB b T css m w) : Blk w b T cs := by
  obtain ⟨c, h1, h2⟩ := hT
  obtain rfl : cs = c := Option.some.inj (h.symm.trans h1)
  exact h2
theorem NewI.nil : NewI (fun _ => False) w [] := ⟨[], trivial, List.nodup_nil, fun _ h => by simp [blks] at h⟩
end
section
variable {P : Program} {n d : Nat} {Q : Post} {ρ : Env} {w : World} {ops : Array Oper} {o : Oper} {l : List Oper} {h i m : Nat} {ks : List K2} {Mw : Nat → Prop} {Θ : Nat → World → Prop} {C : List Nat} {os : List (Option Nat)} {K : Nat → World → Prop} {G : Nat → Nat → Prop} {X : World → Prop}
end
end Go.E
/- A small engine for walks, second series, part 21: rows whose elements are only read, and grow. Plain theorems; nothing here speaks of one program. -/
namespace Go.E
open Go
open Rep (rd)
open Sep (own)
section
variable {F0 : Nat → Prop} {M : List Nat} {w0 w w' : World} {fr : List Pr} {ow : List It}
end
section
variable {F0 : Nat → Prop} {M : List Nat} {w0 w w' : World} {fr : List Pr} {ow : List It} {i j : Nat} {e : TypeId} {v : Value} {cs : List Value}
variable {P : Program} {n d : Nat} {Q : Post} {ρ : Env} {ops : Array Oper} {o : Oper} {rest : List Oper}
end
end Go.E
/- A small engine for walks, second series, part 22: literals of several elements, in any order. Plain theorems; nothing here speaks of one program. -/
namespace Go.E
open Go
open Rep (rd)
open Sep (own)
section
variable {P : Program} {n d : Nat} {Q : Post} {ρ : Env} {w w0 : World} {ops : Array Oper} {o : Oper} {e : TypeId} {F0 : Nat → Prop} {M : List Nat} {fr : List Pr} {ow : List It}
end
section
variable {P : Program} {n d : Nat} {Q : Post} {ρ : Env} {w : World} {ops : Array Oper} {o : Oper} {l : List Oper} {h i m : Nat} {ks : List K2} {Mw : Nat → Prop} {Θ : Nat → World → Prop} {C : List Nat} {os : List (Option Nat)} {K : Nat → World → Prop} {G : Nat → Nat → Prop}
theorem OpX.on {R : Value → World → Prop} (hg : gate ops ρ o = true) (h : OpX P ops { o with guard := none } ρ w R) : OpX P ops o ρ w R := by
  rcases h with h | h
  · exact .inl ⟨hg, h.2⟩
  · exact absurd h.1 (by simp [gate])
/-- a guarded operation that is carried out -/
theorem LL2.on (hg : gate ops ρ o = true) (h' : LL2 P n Q ops h ks Mw Θ C os w i ({ o with guard := none } :: l) ρ K G m) : LL2 P n Q ops h ks Mw Θ C os w i (o :: l) ρ K G m := by
  rcases h' with ⟨u, d, h1, h2, h3, h4, h5, h6⟩ | ⟨φ, d, h1, h2, h3, h4, h5, h6⟩ | ⟨t, g, d, h1, h2, h3, h4, h5, h6⟩ | ⟨u, d, h1, h2, h3, h4, h5, h6⟩ | ⟨φ, d, h1, h2, h3, h4, h5, h6⟩ | ⟨t, s, ψ, φ, h1, h2, h3, h4, h5, h6, h7, h8⟩ | ⟨t, s, ψ, h1, h2, h3, h4, h5, h6, h7⟩
  · exact .inl ⟨u, d, h1, h2, h3, h4, fun w' a b c => OpX.on hg (h5 w' a b c), h6⟩
  · exact .inr (.inl ⟨φ, d, h1, h2, h3, h4, fun w' a b c => OpX.on hg (h5 w' a b c), h6⟩)
  · exact .inr (.inr (.inl ⟨t, g, d, h1, h2, h3, h4, fun w' a b c => OpX.on hg (h5 w' a b c), h6⟩))
  · exact .inr (.inr (.inr (.inl ⟨u, d, h1, h2, h3, h4, fun w' a b c => OpX.on hg (h5 w' a b c), h6⟩)))
  · exact .inr (.inr (.inr (.inr (.inl ⟨φ, d, h1, h2, h3, h4, fun w' a b c => OpX.on hg (h5 w' a b c), h6⟩))))
  · exact .inr (.inr (.inr (.inr (.inr (.inl ⟨t, s, ψ, φ, h1, h2, h3, h4, h5, h6, fun w' a b c => OpX.on hg (h7 w' a b c), h8⟩)))))
  · exact .inr (.inr (.inr (.inr (.inr (.inr ⟨t, s, ψ, h1, h2, h3, h4, h5, fun w' a b c => OpX.on hg (h6 w' a b c), h7⟩)))))
/-- and one that is passed over -/
theorem LL2.off (hg : gate ops ρ o = false) (hk : ks[i]? = some (.fix undef)) (hc : C.contains i = false) (hoo : ownOf os i = i) (hd : o.dst = some d) (hr : LL2 P n Q ops h ks Mw Θ C os w (i + 1) l (upd ρ d undef) K G m) : LL2 P n Q ops h ks Mw Θ C os w i (o :: l) ρ K G m :=
  .inl ⟨undef, d, hk, hd, hc, hoo, fun _ _ _ _ => .inr ⟨hg, Ext.refl _, rfl⟩, hr⟩
end
end Go.E
/- A small engine for walks, second series, part 23: a chain that writes to two variables, by calls and by stores. Plain theorems; nothing here speaks of one program. -/
namespace Go.E
open Go
open Rep (rd)
open Sep (own)
def Th2 (b : Nat) (T : TypeId) (css : List (List Value)) (b2 : Nat) (T2 : TypeId) (css2 : List (List Value)) (m : Nat) (w : World) : Prop := ThB b T css m w ∧ ThB b2 T2 css2 m w
section
variable {F0 : Nat → Prop} {M : List Nat} {w0 w w' w'' : World} {fr ps : List Pr} {ow l : List It} {i j b b2 m : Nat} {T T2 : TypeId} {cs cs' c2 c2' : List Value} {S : Nat → Prop} {css css2 : List (List Value)}
theorem Blk.keep (h : Chg (fun q => q = b) w w') (hB : Blk w b2 T2 c2) (hne : b2 ≠ b) : Blk w' b2 T2 c2 := (h.block b2 hB.lt fun e => hne e).trans hB
theorem Th2.mono (hb : b < w.heap.size) (hb2 : b2 < w.heap.size) : ∀ m a c (T' : Nat → Prop), Th2 b T css b2 T2 css2 m a → Chg T' a c → (∀ q, T' q → w.heap.size ≤ q) → Th2 b T css b2 T2 css2 m c :=
  fun m a c T' h hc hT => ⟨ThB.mono hb m a c T' h.1 hc hT, ThB.mono hb2 m a c T' h.2 hc hT⟩
end
section
variable {P : Program} {n d : Nat} {Q : Post} {ρ : Env} {w : World} {ops : Array Oper} {o : Oper} {l : List Oper} {h i m : Nat} {ks : List K2} {Mw : Nat → Prop} {Θ : Nat → World → Prop} {C : List Nat} {os : List (Option Nat)} {K : Nat → World → Prop} {G : Nat → Nat → Prop} {X : World → Prop}
end
section
variable {P : Program} {ρ : Env} {w : World}
end
end Go.E
/- A small engine for walks, second series, part 24: elements of literals that an open region has made itself. Plain theorems; nothing here speaks of one program. -/
namespace Go.E
open Go
open Rep (rd)
open Sep (own)
section
variable {P : Program} {n d : Nat} {Q : Post} {ρ : Env} {w : World} {ops : Array Oper} {o : Oper} {l : List Oper} {h i m : Nat} {ks : List K2} {Mw : Nat → Prop} {Θ : Nat → World → Prop} {C : List Nat} {os : List (Option Nat)} {K : Nat → World → Prop} {G : Nat → Nat → Prop} {X : World → Prop} {e : TypeId} {v : Value} {S : Nat → Prop}
end
end Go.E
/- A small engine for walks, second series, part 25: a field of a struct's value. Plain theorems; nothing here speaks of one program. -/
namespace Go.E
open Go
/-- a field's type and offset -/
def fieldTy (P : Program) (T : TypeId) (i : Nat) : Option (TypeId × Nat) := match P.underlying T with
  | some (.struct fs) => (fs[i]?).map fun f => (f.type, f.offset)
  | _ => none
theorem fieldTy_some {P : Program} {T : TypeId} {i ft off : Nat} (h : fieldTy P T i = some (ft, off)) : ∃ fs f, P.underlying T = some (.struct fs) ∧ fs[i]? = some f ∧ f.type = ft ∧ f.offset = off := by
  unfold fieldTy at h
  split at h
  · rename_i fs hfs
    cases hf : fs[i]? with
    | none => rw [hf] at h; cases h
    | some f =>
      rw [hf] at h
      simp only [Option.map_some, Option.some.injEq, Prod.mk.injEq] at h
      exact ⟨fs, f, hfs, hf, h.1, h.2⟩
  · cases h
section
variable {P : Program} {ρ : Env} {o : Oper} {w : World} {T : TypeId} {x : Operand} {i ft off k : Nat} {cs : List Value} {u : Value}
theorem Ev.fld (ho : o.op = .field T x i) (hT : fieldTy P T i = some (ft, off)) (hg : aggT P ft = some false) (hx : E.ev ρ x = .agg cs.toArray) (hc : cs[off]? = some u) : Ev P ρ o w u := by
  obtain ⟨fs, f, h1, h2, h3, h4⟩ := fieldTy_some hT
  subst h3; subst h4
  simp [Ev, execOp, ho, hx, Instr.field, run_underlying h1, h2, asAgg, part, run_isAgg hg, hc]
end
end Go.E
/- A small engine for walks, second series, part 26: a store into a part of an element. Plain theorems; nothing here speaks of one program. -/
namespace Go.E
open Go
open Rep (rd)
open Sep (own)
section
variable {F0 : Nat → Prop} {M : List Nat} {w0 w w' : World} {fr : List Pr} {ow : List It} {i j : Nat} {e : TypeId} {v : Value} {cs : List Value}
variable {P : Program} {n d : Nat} {Q : Post} {ρ : Env} {ops : Array Oper} {o : Oper} {rest : List Oper}
end
end Go.E
/- A small engine for walks, second series, part 27: regions in an open order in which what writes is in order: what only reads is taken first. Plain theorems over the kit's 'wpAnyH'; nothing here speaks of one program. -/
namespace Go.E
open Go
section
variable {P : Program} {n : Nat} {K : Env → World → Prop} {Q : Post} {ρ : Env} {w : World} {ops : Array Oper} {o : Oper} {S : World → Prop} {listed : Array Bool} {k i : Nat} {v : Value}
/-- only the normal end -/
abbrev onlyN (K : Env → World → Prop) : Post := fun e ρ w => e = .normal ∧ K ρ w
/-- whatever order is picked from here on; S holds behind each operation -/
def HW (P : Program) (n : Nat) (ops : Array Oper) (K : Env → World → Prop) (S : World → Prop) (k : Nat) (listed : Array Bool) (ρ : Env) (w : World) : Prop :=
  ops.toList.all (okOper n) = true → ∀ a, Rel n ρ a → wpAnyH P .any ops (lift n (onlyN K)) S k listed a w
theorem CW.held {id : Nat} (S : World → Prop) (hm : P.follows .mixedOrders = true) (h : ∀ w', Ext w w' → HW P n ops (fun ρ w => Q .normal ρ w) S ops.size (Array.replicate ops.size false) ρ w') : CW P n (.region id ops true) Q ρ w := by
  intro hok a ha
  have hok' : ops.toList.all (okOper n) = true := by simpa [okCode] using hok
  refine Code.wp_mono (Q := lift n (onlyN fun ρ w => Q .normal ρ w)) (fun e a w ⟨ρ, hr, he, hq⟩ => ⟨ρ, hr, by subst he; exact hq⟩) ?_
  exact wp_region_held hm (h { w with drawn := w.drawn + 1 } ⟨rfl, rfl, rfl, Nat.le_refl _, fun _ _ _ => rfl⟩ hok' a ha)
theorem oks_guard (hok : ops.toList.all (okOper n) = true) : okGuards n ops = true := by
  refine List.all_eq_true.2 fun o' ho' => ?_
  have := List.all_eq_true.1 hok o' ho'
  simp only [okOper, Bool.and_eq_true] at this
  exact this.1.1
theorem HW.take0 (hi : ops[i]? = some o) (hs : Region.noSelect ops = true) (hf : Region.free .any ops listed i = true) (hr : (Region.ready .any ops listed).contains i = true) (hS : S w)
    (hy : (gate ops ρ o = true ∧ ∀ w', S w' → Ev P ρ o w' v) ∨ (gate ops ρ o = false ∧ v = undef)) (h : HW P n ops K S k (listed.setIfInBounds i true) (E.put ρ o.dst v) w) : HW P n ops K S (k + 1) listed ρ w := fun hok a ha => by
  have hoko : okOper n o = true := List.all_eq_true.1 hok o (by rw [Array.mem_toList_iff]; exact Array.mem_of_getElem? hi)
  refine wpAnyH_take (v := v) hi hs hf hr (fun c a w ⟨ρ, _, he, _⟩ => by cases he) ?_ hS (h hok _ (ha.put _ _))
  rcases hy with ⟨h1, h2⟩ | ⟨h1, h2⟩
  · refine .inl ⟨by rw [gate_wanted (oks_guard hok) ha]; exact h1, fun w' hw' => ?_⟩
    rw [execOp_ev ha hoko]; exact h2 w' hw'
  · exact .inr ⟨by rw [gate_wanted (oks_guard hok) ha]; exact h1, h2⟩
/-- an operation that only reads is taken first -/
theorem HW.take {d : Nat} (i : Nat) (hS : S w) (hi : ops[i]? = some o) (hs : (Region.noSelect ops && Region.free .any ops listed i && (Region.ready .any ops listed).contains i) = true) (hg : o.guard = none) (hd : o.dst = some d) (he : ∀ w', S w' → Ev P ρ o w' v) (h : HW P n ops K S k (listed.setIfInBounds i true) (upd ρ d v) w) : HW P n ops K S (k + 1) listed ρ w := by
  simp only [Bool.and_eq_true] at hs
  exact HW.take0 hi hs.1.1 hs.1.2 hs.2 hS (.inl ⟨by simp [gate, hg], he⟩) (by rw [hd]; exact h)
theorem HW.off {d : Nat} (i : Nat) (hS : S w) (hi : ops[i]? = some o) (hs : (Region.noSelect ops && Region.free .any ops listed i && (Region.ready .any ops listed).contains i) = true) (hg : gate ops ρ o = false) (hd : o.dst = some d) (h : HW P n ops K S k (listed.setIfInBounds i true) (upd ρ d undef) w) : HW P n ops K S (k + 1) listed ρ w := by
  simp only [Bool.and_eq_true] at hs
  exact HW.take0 hi hs.1.1 hs.1.2 hs.2 hS (.inr ⟨hg, rfl⟩) (by rw [hd]; exact h)
/-- the one operation that may come up now -/
theorem HW.eff (i : Nat) (hi : ops[i]? = some o) (hr : Region.ready .any ops listed = [i]) (h : WL P n ops (onlyN fun ρ' w' => S w' ∧ HW P n ops K S k (listed.setIfInBounds i true) ρ' w') [o] ρ w) : HW P n ops K S (k + 1) listed ρ w := fun hok a ha => by
  have hoko : okOper n o = true := List.all_eq_true.1 hok o (by rw [Array.mem_toList_iff]; exact Array.mem_of_getElem? hi)
  refine wpAnyH_all hr (by simp) fun j hj => ?_
  obtain rfl : j = i := by simpa using hj
  have h1 := h (by simp [hoko]) a ha
  unfold wpList at h1
  unfold wpOp
  simp only [hi]
  by_cases hw : Region.wanted o (yielded ops a.tmps) = true
  · rw [if_pos hw] at h1 ⊢
    rcases h1 with h1 | h1
    · refine .inl (Oper_wp_mono2 (fun a' w' h2 => ?_) (fun e a' w' he ⟨ρ', _, h3, _⟩ => absurd h3 he) h1)
      unfold wpList at h2
      obtain ⟨ρ', hr', _, hS', hH⟩ := h2
      exact ⟨hS', hH hok a' hr'⟩
    · obtain ⟨_, a', w', ρ', _, he, _⟩ := h1
      cases he
  · rw [if_neg hw] at h1 ⊢
    unfold wpList at h1
    obtain ⟨ρ', hr', _, hS', hH⟩ := h1
    exact ⟨hS', hH hok _ hr'⟩
/-- all have come up -/
theorem HW.done (hr : Region.ready .any ops listed = []) (h : K ρ w) : HW P n ops K S k listed ρ w := fun _ a ha => wpAnyH_done hr ⟨ρ, ha, rfl, h⟩ k
/-- behind the one operation -/
theorem HW.next (hS : S w) (h : HW P n ops K S k listed ρ w) : WL P n ops (onlyN fun ρ' w' => S w' ∧ HW P n ops K S k listed ρ' w') [] ρ w := WL.nil ⟨rfl, hS, h⟩
end
end Go.E
/- A small engine for walks, second series, part 28: elements that bring rows of their own. Plain theorems; nothing here speaks of one program. -/
namespace Go.E
open Go
open Rep (rd)
open Sep (own)
/-- something put aside, to become part of an element -/
structure Sp where
  p : List Nat → World → Prop
  frame : ∀ {L : List Nat} {w w' : World}, p L w → (∀ b ∈ L, w'.heap[b]? = w.heap[b]?) → p L w'
  lt : ∀ {L : List Nat} {w : World}, p L w → ∀ b ∈ L, b < w.heap.size
def Sp.S {α : Type} [Sep α] (ys : List α) (u : Value) : Sp := ⟨fun L w => ownS L w ys u, fun h hf => h.frame hf, fun h => h.lt⟩
def AllSp (w : World) : List Nat → List Sp → Prop
  | L, [] => L = []
  | L, s :: l => ∃ L1 L2, L = L1 ++ L2 ∧ s.p L1 w ∧ AllSp w L2 l
theorem AllSp.frame {w w' : World} : ∀ {l : List Sp} {L : List Nat}, AllSp w L l → (∀ b ∈ L, w'.heap[b]? = w.heap[b]?) → AllSp w' L l
  | [], _, h, _ => h
  | s :: l, _, ⟨L1, L2, e, h1, h2⟩, hf => by
    subst e
    exact ⟨L1, L2, rfl, s.frame h1 fun b hb => hf b (List.mem_append.2 (.inl hb)), AllSp.frame h2 fun b hb => hf b (List.mem_append.2 (.inr hb))⟩
theorem AllSp.lt {w : World} : ∀ {l : List Sp} {L : List Nat}, AllSp w L l → ∀ b ∈ L, b < w.heap.size
  | [], _, h, b, hb => by rw [show _ = _ from h] at hb; simp at hb
  | s :: l, _, ⟨L1, L2, e, h1, h2⟩, b, hb => by
    subst e
    rcases List.mem_append.1 hb with hb | hb
    · exact s.lt h1 b hb
    · exact AllSp.lt h2 b hb
theorem AllSp.snoc {w : World} {s : Sp} {M : List Nat} (hs : s.p M w) : ∀ {l : List Sp} {L : List Nat}, AllSp w L l → AllSp w (L ++ M) (l ++ [s])
  | [], _, h => by rw [show _ = _ from h]; exact ⟨M, [], by simp, hs, rfl⟩
  | t :: l, _, ⟨L1, L2, e, h1, h2⟩ => by subst e; exact ⟨L1, L2 ++ M, by simp, h1, AllSp.snoc hs h2⟩
/-- a row of the call's own, and rows that are put aside for its next element -/
def It.W {α : Type} [Sep α] (e : TypeId) (xs : List α) (v : Value) (sp : List Sp) : It :=
  ⟨fun L C _ w => ∃ cs C1 C2, C = C1 ++ C2 ∧ RowO w e (Rep.sz α) v xs.length L cs ∧ ownL w C1 xs cs ∧ AllSp w C2 sp, fun h _ => h,
  by
    rintro L C F w w' ⟨cs, C1, C2, rfl, h1, h2, h3⟩ _ hf
    exact ⟨cs, C1, C2, rfl, h1.frm fun b hb => hf b (by simp [hb]), h2.frame fun b hb => hf b (by simp [hb]), h3.frame fun b hb => hf b (by simp [hb])⟩,
  by
    rintro L C F w ⟨cs, C1, C2, rfl, h1, h2, h3⟩ q hq
    simp only [List.mem_append] at hq
    rcases hq with hq | hq | hq
    · exact h1.lst q hq
    · exact h2.lt q hq
    · exact h3.lt q hq⟩
theorem RowO.ownS {α : Type} [Sep α] {w : World} {e : TypeId} {xs : List α} {v : Value} {L C : List Nat} {cs : List Value} (hr : RowO w e (Rep.sz α) v xs.length L cs) (ho : ownL w C xs cs) : ownS (L ++ C) w xs v := by
  have nilC : xs = [] → C = [] := fun e => by subst e; exact ho.1
  rcases hr with ⟨hr, rfl⟩ | ⟨⟨A, rfl⟩, hx0, rfl, rfl⟩
  · rcases hr.2 with ⟨rfl, hx0⟩ | ⟨g, cap, cur, rfl, _, hg, hn, hc, hs, ht⟩
    · obtain rfl := List.eq_nil_of_length_eq_zero hx0
      rw [nilC rfl]
      exact ownS.nil (Nat.zero_le _)
    · refine ⟨_, cap, cs, rfl, hn, hc, .inr ⟨g, 0, e, cur.toList, C, rfl, rfl, by simpa [Blk] using hg, fun j u hu => ?_, ho⟩⟩
      rw [Nat.zero_add]
      rw [← ht, List.getElem?_take] at hu
      split at hu
      · exact hu
      · cases hu
  · obtain rfl := List.eq_nil_of_length_eq_zero hx0
    rw [nilC rfl]
    exact ownS.nil (Nat.zero_le _)
/-! ### items by their places -/
theorem AllI.iff {F : Nat → Prop} {w : World} : ∀ {is : List It} {l : List (List Nat × List Nat)}, AllI F w is l ↔ is.length = l.length ∧ ∀ (j : Nat) (it : It) (q : List Nat × List Nat), is[j]? = some it → l[j]? = some q → it.p q.1 q.2 F w
  | [], [] => ⟨fun _ => ⟨rfl, fun j it q h => by simp at h⟩, fun _ => trivial⟩
  | [], _ :: _ => ⟨fun h => h.elim, fun h => by simp at h⟩
  | _ :: _, [] => ⟨fun h => h.elim, fun h => by simp at h⟩
  | i :: is, (L, C) :: l => by
    constructor
    · rintro ⟨h1, h2⟩
      obtain ⟨e, h3⟩ := AllI.iff.1 h2
      refine ⟨by simp [e], fun j it q hj hq => ?_⟩
      cases j with
      | zero => simp at hj hq; subst hj; subst hq; exact h1
      | succ j => exact h3 j it q (by simpa using hj) (by simpa using hq)
    · rintro ⟨e, h⟩
      exact ⟨h 0 i (L, C) rfl rfl, AllI.iff.2 ⟨by simpa using e, fun j it q hj hq => h (j + 1) it q (by simpa using hj) (by simpa using hq)⟩⟩
theorem blks_permI : ∀ {l : List (List Nat × List Nat)} {i : Nat} {q : List Nat × List Nat}, l[i]? = some q → (blks l).Perm ((q.1 ++ q.2) ++ blks (l.set i ([], [])))
  | [], _, _, h => by simp at h
  | (L, C) :: l, 0, q, h => by simp at h; subst h; simp [blks]
  | (L, C) :: l, i + 1, q, h => by
    have ih := blks_permI (l := l) (i := i) (q := q) (by simpa using h)
    simp only [List.set_cons_succ, blks]
    refine (ih.append_left (L ++ C)).trans ?_
    have := (List.perm_append_comm (l₁ := L ++ C) (l₂ := q.1 ++ q.2)).append_right (blks (l.set i ([], [])))
    rw [List.append_assoc (q.1 ++ q.2), List.append_assoc (L ++ C)] at this
    exact this
section
variable {F0 : Nat → Prop} {M : List Nat} {w0 w w' : World} {fr : List Pr} {ow : List It} {i k : Nat} {e : TypeId} {v u : Value}
/-- the blocks of one item become part of another's -/
theorem HL.join {o o2 o' : It} (H : HL F0 M w0 w fr ow) (hi : ow[i]? = some o) (hk : ow[k]? = some o2) (hik : i ≠ k)
    (ho : ∀ F L C L2 C2, o.p L C F w → o2.p L2 C2 F w → o'.p L (C ++ (L2 ++ C2)) F w) : HL F0 M w0 w fr ((ow.set i o').set k It.emp) := by
  obtain ⟨Fr, LC, h1, h2, h3, h4, h5, h6⟩ := H
  obtain ⟨hlen, hall⟩ := AllI.iff.1 h3
  have hil : i < ow.length := (List.getElem?_eq_some_iff.1 hi).1
  have hkl : k < ow.length := (List.getElem?_eq_some_iff.1 hk).1
  obtain ⟨q, hq⟩ : ∃ q, LC[i]? = some q := ⟨_, List.getElem?_eq_getElem (by omega)⟩
  obtain ⟨q2, hq2⟩ : ∃ q, LC[k]? = some q := ⟨_, List.getElem?_eq_getElem (by omega)⟩
  have hLC : ∀ j, ((LC.set i (q.1, q.2 ++ (q2.1 ++ q2.2))).set k ([], []))[j]? = if j = k then some ([], []) else if j = i then some (q.1, q.2 ++ (q2.1 ++ q2.2)) else LC[j]? := fun j => by
    rw [List.getElem?_set, List.getElem?_set]
    by_cases hj : k = j
    · rw [if_pos hj, if_pos hj.symm, if_pos (by simp; omega)]
    · rw [if_neg hj, if_neg (fun (e : j = k) => hj e.symm)]
      by_cases hj2 : i = j
      · rw [if_pos hj2, if_pos hj2.symm, if_pos (by omega)]
      · rw [if_neg hj2, if_neg (fun (e : j = i) => hj2 e.symm)]
  have hperm : (blks LC).Perm (blks ((LC.set i (q.1, q.2 ++ (q2.1 ++ q2.2))).set k ([], []))) := by
    have p1 := blks_permI hq
    have p2 : (blks (LC.set i ([], []))).Perm ((q2.1 ++ q2.2) ++ blks ((LC.set i ([], [])).set k ([], []))) := blks_permI (by rw [List.getElem?_set, if_neg hik]; exact hq2)
    have p3 : (blks ((LC.set i (q.1, q.2 ++ (q2.1 ++ q2.2))).set k ([], []))).Perm ((q.1 ++ (q.2 ++ (q2.1 ++ q2.2))) ++ blks (((LC.set i (q.1, q.2 ++ (q2.1 ++ q2.2))).set k ([], [])).set i ([], []))) := blks_permI (by rw [hLC, if_neg hik, if_pos rfl])
    have e : ((LC.set i (q.1, q.2 ++ (q2.1 ++ q2.2))).set k ([], [])).set i ([], []) = (LC.set i ([], [])).set k ([], []) := by
      rw [List.set_comm _ _ (fun e => hik e.symm), List.set_set]
    rw [e] at p3
    refine p1.trans (List.Perm.trans ?_ p3.symm)
    refine ((p2.append_left (q.1 ++ q.2))).trans ?_
    simp only [List.append_assoc]
    exact List.Perm.refl _
  have hcl : ∀ b, b ∈ claims LC → b ∈ claims ((LC.set i (q.1, q.2 ++ (q2.1 ++ q2.2))).set k ([], [])) := fun b hb => by
    obtain ⟨x, hx, hxb⟩ := mem_claims.1 hb
    obtain ⟨j, hj, e⟩ := List.getElem_of_mem hx
    have hj2 : LC[j]? = some x := by rw [List.getElem?_eq_getElem hj, e]
    have hat : ((LC.set i (q.1, q.2 ++ (q2.1 ++ q2.2))).set k ([], []))[i]? = some (q.1, q.2 ++ (q2.1 ++ q2.2)) := by rw [hLC, if_neg hik, if_pos rfl]
    by_cases h1 : j = k
    · subst h1
      rw [hq2] at hj2; cases hj2
      exact mem_claims.2 ⟨_, List.mem_of_getElem? hat, by simp [hxb]⟩
    · by_cases h2 : j = i
      · subst h2
        rw [hq] at hj2; cases hj2
        exact mem_claims.2 ⟨_, List.mem_of_getElem? hat, by simp [hxb]⟩
      · refine mem_claims.2 ⟨x, List.mem_of_getElem? (i := j) ?_, hxb⟩
        rw [hLC, if_neg h1, if_neg h2]; exact hj2
  have hsub : ∀ b, fz F0 w0 M (Fr ++ claims LC) b → fz F0 w0 M (Fr ++ claims ((LC.set i (q.1, q.2 ++ (q2.1 ++ q2.2))).set k ([], []))) b := fz_sub fun b hb => by
    rcases List.mem_append.1 hb with hb | hb
    · exact List.mem_append.2 (.inl hb)
    · exact List.mem_append.2 (.inr (hcl b hb))
  refine ⟨Fr, (LC.set i (q.1, q.2 ++ (q2.1 ++ q2.2))).set k ([], []), h1, h2.mono hsub, AllI.iff.2 ⟨by simp [hlen], fun j it x hj hx => ?_⟩, (hperm.append_left Fr).nodup_iff.1 h4, h5, fun b hb => h6 b ((hperm.append_left Fr).mem_iff.2 hb)⟩
  rw [hLC] at hx
  rw [List.getElem?_set, List.getElem?_set] at hj
  by_cases h1 : j = k
  · subst h1
    rw [if_pos rfl] at hx hj
    rw [if_pos (by simpa using hkl)] at hj
    cases hx; cases hj
    exact ⟨rfl, rfl⟩
  · rw [if_neg h1] at hx
    rw [if_neg (fun e => h1 e.symm)] at hj
    by_cases h2 : j = i
    · subst h2
      rw [if_pos rfl] at hx hj
      rw [if_pos hil] at hj
      cases hx; cases hj
      exact o'.mono (ho _ _ _ _ _ (hall j o q hi hq) (hall k o2 q2 hk hq2)) hsub
    · rw [if_neg h2] at hx
      rw [if_neg (fun e => h2 e.symm)] at hj
      exact it.mono (hall j it x hj hx) hsub
theorem HL.give0 {α : Type} [Sep α] {xs : List α} (H : HL F0 M w0 w fr ow) (hi : ow[i]? = some (It.O e xs v)) : HL F0 M w0 w fr (ow.set i (It.W e xs v [])) := by
  obtain ⟨F, L, C, ⟨cs, h1, h3⟩, hN, hF, hupd⟩ := H.upd hi
  exact hupd (Chg.refl w) (fun F' hm => ⟨cs, C, [], by simp, h1, h3, rfl⟩) hN (fun q hq => .inl hq) (fun q hq => .inl hq)
theorem HL.give {α β : Type} [Sep α] [Sep β] {xs : List α} {ys : List β} {sp : List Sp} {e2 : TypeId} (H : HL F0 M w0 w fr ow) (hi : ow[i]? = some (It.W e xs v sp)) (hk : ow[k]? = some (It.O e2 ys u)) (hik : i ≠ k) :
    HL F0 M w0 w fr ((ow.set i (It.W e xs v (sp ++ [Sp.S ys u]))).set k It.emp) :=
  H.join hi hk hik fun F L C L2 C2 ⟨cs, C1, C3, e1, h1, h2, h3⟩ ⟨ds, g1, g2⟩ => ⟨cs, C1, C3 ++ (L2 ++ C2), by rw [e1, List.append_assoc], h1, h2, h3.snoc (s := Sp.S ys u) (g1.ownS g2)⟩
end
section
variable {F0 : Nat → Prop} {M : List Nat} {w0 w w' : World} {fr : List Pr} {ow : List It} {i j : Nat} {e : TypeId} {v : Value} {cs : List Value}
variable {P : Program} {n d : Nat} {Q : Post} {ρ : Env} {ops : Array Oper} {o : Oper} {rest : List Oper}
/-- append of one element that brings rows of its own -/
theorem WL.appW {α : Type} [Sep α] {T b : Nat} {z : List Value} {s x : Operand} {xs : List α} {y : α} {sp : List Sp} {A : Option Addr} {c2 : Nat} {news : List Value} (hg : o.guard = none) (hd : o.dst = some d)
    (ho : o.op = .call { callee := .builtin .append, args := #[s, x], argTypes := #[T, T] }) (hT : elemT P T = some e) (hk : szT P e = some (Rep.sz α)) (hb : byT P e = some b) (hz : zeroT P e = some z) (hzk : z.length = Rep.sz α)
    (hs : E.ev ρ s = v) (hx : E.ev ρ x = .slice A 1 c2) (H : HL F0 M w0 w fr ow) (hi : ow[i]? = some (It.W e xs v sp)) (hy : ∀ C w, AllSp w C sp → own C w y news) (hat : ∃ b o, A = some ⟨b, o, none⟩ ∧ At w b o news)
    (hmax : ((xs.length : Int) + 1) * b ≤ 140737488355328 ∧ (xs.length : Int) + 1 ≤ 9223372036854775807)
    (h : ∀ A m c w', HL F0 M w0 w' fr (ow.set i (It.O e (xs ++ [y]) (.slice A m c))) → WL P n ops Q rest (upd ρ d (.slice A m c)) w') : WL P n ops Q (o :: rest) ρ w := by
  have h : ∀ v' w', (∃ A m c, v' = .slice A m c) → HL F0 M w0 w' fr (ow.set i (It.O e (xs ++ [y]) v')) → WL P n ops Q rest (upd ρ d v') w' := by
    rintro v' w' ⟨A, m, c, rfl⟩ H
    exact h A m c w' H
  obtain ⟨F, L, C, ⟨cs, C1, C2, rfl, h0, h3, h4⟩, hN, hF, hupd⟩ := H.upd hi
  have hm1 : (xs.length + [y].length) * b ≤ 140737488355328 := by
    have : (((xs.length + 1) * b : Nat) : Int) ≤ 140737488355328 := by rw [Int.natCast_mul, Int.natCast_add]; exact hmax.1
    show (xs.length + 1) * b ≤ _
    omega
  have hm2 : xs.length + [y].length ≤ maxLen := by show xs.length + 1 ≤ 9223372036854775807; omega
  have hNC := (List.nodup_append.1 hN).2.1
  have hyl : ∀ w, AllSp w C2 sp → ownL w C2 [y] news := fun w h => ⟨C2, [], news, [], by simp, by simp, hy C2 w h, rfl, rfl⟩
  have hat' : [y].length = 0 ∨ ∃ b o, A = some ⟨b, o, none⟩ ∧ At w b o news := .inr hat
  rcases h0 with ⟨h1, h2⟩ | ⟨⟨A0, rfl⟩, hx0, rfl, rfl⟩
  · refine WL.app hg hd ho hT hk hb hz hzk (by simpa using Rep.pos (α := α)) hs hx h1 (hyl w h4).rd.len hat' (rdL.one (hyl w h4).rd) hm1 hm2 (Nat.zero_le _) fun v' w' hc ho' hnew => h v' w' (by obtain ⟨A, c, e⟩ := ho'.form; exact ⟨A, _, c, e⟩) ?_
    have hbC : ∀ q, blkOf v q → q ∉ C1 ++ C2 := fun q hq hm => by
      rw [h2] at hN
      have hq' : v.ownBlock = some q := hq
      rw [hq'] at hN
      simp only [Option.toList_some, List.nodup_append, List.mem_singleton] at hN
      exact hN.2.2 q rfl q hm rfl
    refine hupd (L' := v'.ownBlock.toList) (C' := C1 ++ C2) (hc.mono fun q _ e => by rw [h2]; simpa [blkOf] using e) (fun F' _ => ⟨cs ++ news, .inl ⟨by rw [List.length_append]; exact ho', rfl⟩, ?_⟩) ?_ (fun q hq => ?_) (fun q hq => .inl hq)
    · exact (h3.frame (w' := w') fun q hq => hc.block q (h3.lt q hq) fun e => hbC q e (by simp [hq])).append (hyl w' (h4.frame fun q hq => hc.block q (h4.lt q hq) fun e => hbC q e (by simp [hq])))
    · rw [List.nodup_append]
      refine ⟨by cases v'.ownBlock <;> simp, hNC, fun x hx y hy e => ?_⟩
      subst e
      rcases hnew x (by simpa [blkOf] using hx) with h | h
      · exact hbC x h hy
      · have : x < w.heap.size := by
          rcases List.mem_append.1 hy with hy | hy
          · exact h3.lt x hy
          · exact h4.lt x hy
        omega
    · rcases hnew q (by simpa [blkOf] using hq) with h | h
      · left; rw [h2]; simpa [blkOf] using h
      · exact .inr h
  · -- a slice without room
    obtain rfl := List.eq_nil_of_length_eq_zero hx0
    obtain ⟨e1, _⟩ := (show C1 = [] ∧ _ from h3)
    subst e1
    obtain ⟨v', w', hrun, hE, hv⟩ := run_appN (P := P) (ty := o.type) (A0 := A0) (c2 := c2) hT hk hb hz hzk (hyl w h4).rd.len hat' (by simpa using hm1) (by simpa using hm2)
    have hx' : E.ev ρ x = .slice A [y].length c2 := hx
    refine WL.step hg fun a K ha hok hK => ?_
    unfold Oper.wp
    rw [execOp_ev ha hok]
    simp only [execOp, ho, resolve, invoke, builtin, Sem.run_bind, Sem.run_pure, Result.andThen_ok, List.map_toArray, List.map_cons, List.map_nil, hs, hx', hrun]
    refine hK _ _ (by
      rw [hd]
      refine h v' w' ?_ ?_
      · obtain ⟨L', hv, _⟩ := hv
        obtain ⟨A, c, e, _⟩ := hv.form
        exact ⟨A, _, c, e⟩
      · obtain ⟨L', hv, hn⟩ := hv
        simp only [List.nil_append] at h4 hN hNC hupd
        refine hupd (L' := L') (C' := C2) (hE.mono fun q _ e => e.elim) (fun F' _ => ⟨news, by simpa using hv, ?_⟩) ?_ (fun q hq => .inr (hn q hq)) (fun q hq => .inl hq)
        · exact hyl w' (h4.frame fun q hq => hE.block q (h4.lt q hq) id)
        · rw [List.nodup_append]
          exact ⟨hv.nodup, hNC, fun x hx y hy e => by subst e; have := hn x hx; have := h4.lt x hy; omega⟩)
end
end Go.E
/- Lists in strict order: plain lemmas; nothing here speaks of one program. -/
namespace Go.E
section
variable {α : Type} {lt : α → α → Bool}
end
section
variable {α : Type} [DecidableEq α] {lt : α → α → Bool}
end
end Go.E

