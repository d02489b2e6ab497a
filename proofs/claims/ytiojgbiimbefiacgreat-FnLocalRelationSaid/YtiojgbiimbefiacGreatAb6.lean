/- Abstract states of a walk: plain lemmas on the model, without conditions of their own. -/
import Derived.Test.YtiojgbiimbefiacGreatSort
import Derived.KernelRfl
set_option linter.unusedVariables false
set_option linter.unusedSimpArgs false
set_option linter.ambiguousOpen false
set_option linter.unusedSectionVars false
set_option linter.unnecessarySimpa false
namespace Go.A
open Go Go.E
theorem endA.renK {P:Program}{S:Start}{fn:Func}{ρ:AE}{σ:St}{e:Exit}{lr:List ResultVar}{res:X}{post:St}{n0:Nat}(l:List (Nat × Nat))(n:Nat)(hS:S.n0=n0)(he:e = .normal∨e = .ret:=by first | exact .inr rfl | exact .inl rfl)(hl:fn.results=lr.toArray:=by rfl)(ht:lr.all (z2P fn.ntmps)=true:=by rfl)
  (hx:(z6d P ρ σ lr).map (fun xs=>renX l (tupX xs))=some res:=by kernel_rfl) (hc:z8n l n0 n σ=true:=by kernel_rfl) (hp:renS l n σ=post:=by kernel_rfl):endA P S fn res post e ρ σ:=by
 cases hr:z6d P ρ σ lr with
 | none=>rw [hr] at hx; cases hx
 | some xs=>
  rw [hr] at hx
  have hx:renX l (tupX xs)=res:=Option.some.inj hx
  exact endA.ren l n he hS hl ht hr (by rw [hx]; exact .rfl) hc hp
section
variable {P:Program}[HasTab P]{S:Start}{ops:Array Oper}{Q:AE→St→Prop}{o:Oper}{rest:List Oper}{ρ:AE}{σ:St}{d:Nat}{md:Md2}{T e:Nat}{t te:TI}
end
theorem q1r {ρ:AE}{σ σ' : St}{L:List (Nat × X)}(hL:WkL ρ L:=by repeat (first | exact trivial | refine And.intro (.of (by kernel_rfl)) ?_))(hσ:σ=σ':=by kernel_rfl):WkL ρ L∧σ=σ':=⟨hL,hσ⟩
section
variable {P:Program}{S:Start}{o:Oper}{ρ:AE}{σ:St}
end
section
variable {P:Program}[HasTab P]{S:Start}{ops:Array Oper}{Q:AE→St→Prop}{o:Oper}{rest:List Oper}{ρ:AE}{σ:St}{d:Nat}{md:Md2}{T e:Nat}{t te:TI}
end
end Go.A
