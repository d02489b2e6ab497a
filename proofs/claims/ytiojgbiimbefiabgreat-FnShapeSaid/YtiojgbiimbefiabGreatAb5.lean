/- Abstract states of a walk: plain lemmas on the model, without conditions of their own. -/
import Derived.Test.YtiojgbiimbefiabGreatDat
import Derived.KernelRfl
set_option linter.unusedVariables false
set_option linter.unusedSimpArgs false
set_option linter.ambiguousOpen false
set_option linter.unusedSectionVars false
set_option linter.unnecessarySimpa false
namespace Go.A
open Go Go.E
theorem endA.renK {P:Program}{S:Start}{fn:Func}{ρ:AE}{σ:St}{e:Exit}{lr:List ResultVar}{res:X}{post:St}{n0:Nat}(l:List (Nat × Nat))(n:Nat)(hS:S.n0=n0)(he:e = .normal∨e = .ret:=by first | exact .inr rfl | exact .inl rfl)(hl:fn.results=lr.toArray:=by rfl)(ht:lr.all (z2T fn.ntmps)=true:=by rfl)
  (hx:(z5M P ρ σ lr).map (fun xs=>renX l (tupX xs))=some res:=by kernel_rfl) (hc:z7J l n0 n σ=true:=by kernel_rfl) (hp:renS l n σ=post:=by kernel_rfl):endA P S fn res post e ρ σ:=by
 cases hr:z5M P ρ σ lr with
 | none=>rw [hr] at hx; cases hx
 | some xs=>
  rw [hr] at hx
  have hx:renX l (tupX xs)=res:=Option.some.inj hx
  exact endA.ren l n he hS hl ht hr (by rw [hx]; exact .rfl) hc hp
section
variable {P:Program}[HasTab P]{S:Start}{ops:Array Oper}{Q:AE→St→Prop}{o:Oper}{rest:List Oper}{ρ:AE}{σ:St}{d:Nat}{md:Md2}{T e:Nat}{t te:TI}
theorem APB {α:Type}{s x:Operand}{X1:X}{m' m0:Md}{f:α→D}{xs ys:List α}{zs:List X}{r b1:Nat}(r' : Nat)(m:Md)(B:Nat)(hmax:((xs.length:Int)+(ys.length:Int))*(B:Int)≤140737488355328∧(xs.length:Int)+(ys.length:Int)≤9223372036854775807)(h:AL P S ops Q (q2D md (q5a X1) [r,r']) rest (updX ρ d (.ref r' none)) (setL (setL σ r .dead) r' (.row m te.sz ((xs++ys).map f))))
  (ho:o.op = .call { callee:=.builtin .append,args:=#[s,x],argTypes:=#[T,T] }:=by rfl) (hT:(HasTab.tab P).get T=some t:=by rfl) (he:t.el=some e:=by rfl) (hE:(HasTab.tab P).get e=some te:=by rfl) (hs:evX ρ s = .ref r none:=by rfl) (hx:evX ρ x=X1:=by rfl) (hsrc:srcD (fnOf σ) X1=some (m',te.sz,ys.map f):=by rfl) (hσ:fnOf σ r = .row m0 te.sz (xs.map f):=by rfl) (hz:te.z=some zs:=by rfl) (hb:te.by_=b1+1:=by rfl) (hzl:zs.length=te.sz:=by rfl) (hk0:Nat.blt 0 te.sz=true:=by rfl) (hm:mle m' m=true:=by first | rfl | exact q7T | exact q7U) (hm0:mle m0 m=true:=by first | rfl | exact q7T | exact q7U) (hr:fnOf σ r' = .none:=by rfl) (hB:te.by_=B:=by rfl) (hd:o.dst=some d:=by rfl) (hg:q2o ops ρ o=some true:=by rfl):AL P S ops Q md (o :: rest) ρ σ:=
 AP r' m (by rw [hB]; exact hmax) h ho hT he hE hs hx hsrc hσ hz hb hzl hk0 hm hm0 hr hd hg
end
theorem q1i {ρ:AE}{σ σ' : St}{L:List (Nat × X)}(hL:WkL ρ L:=by repeat (first | exact trivial | refine And.intro (.of (by kernel_rfl)) ?_))(hσ:σ=σ':=by kernel_rfl):WkL ρ L∧σ=σ':=⟨hL,hσ⟩
end Go.A
