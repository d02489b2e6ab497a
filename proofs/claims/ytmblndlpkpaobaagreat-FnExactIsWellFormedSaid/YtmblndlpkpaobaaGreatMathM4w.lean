/- What those partial functions come to: plain lemmas on data; each bears its conditions in its statement. -/
import Derived.Test.YtmblndlpkpaobaaGreatMathM3w
import Derived.Test.YtmblndlpkpaobaaGreatMathMAw
set_option linter.unusedVariables false
set_option linter.unusedSimpArgs false
set_option linter.ambiguousOpen false
set_option linter.unusedSectionVars false
set_option linter.unnecessarySimpa false
set_option linter.unusedVariables false
set_option linter.unusedSimpArgs false
namespace Go.Proofs.YtmblndlpkpaobaaGreat
open Go Go.E
theorem z5b (k:Nat):∀ (l:List Attribute)(i:Nat)(s:List Occurrence),s.length+l.length≤4398046511104→eachL (q1O k) i l s=some (s++l.map fun x=>(⟨(k:Int),x.Name⟩:Occurrence))
 | [],i,s,_=>by simp [eachL]
 | x :: l,i,s,h=>by
  simp only [List.length_cons] at h
  have hg:((s.length:Int)+1)*24≤140737488355328∧(s.length:Int)+1≤9223372036854775807:=by constructor<;>omega
  have e:q1O k i x s=some (s++[(⟨(k:Int),x.Name⟩:Occurrence)]):=by unfold q1O; rw [q0d hg]
  simp only [eachL,e,Option.bind_some]
  rw [z5b k l (i+1) _ (by simp; omega)]; simp
end Go.Proofs.YtmblndlpkpaobaaGreat
