/- What those partial functions come to: plain lemmas on data; each bears its conditions in its statement. -/
import Derived.Test.YtmblndlpkpaobabGreatMathMEa
import Derived.Test.YtmblndlpkpaobabGreatMathM8a
set_option linter.unusedVariables false
set_option linter.unusedSimpArgs false
set_option linter.ambiguousOpen false
set_option linter.unusedSectionVars false
set_option linter.unnecessarySimpa false
set_option linter.unusedVariables false
set_option linter.unusedSimpArgs false
namespace Go.Proofs.YtmblndlpkpaobabGreat
open Go Go.E
mutual
def k3E (l:List Occurrence):Expr→Bool
 | ⟨k,n,p,t,s,m,a⟩=>
  if k0p ⟨k,n,p,t,s,m,a⟩ l=false∨k=3 then true
  else if k=5∧(a.length:Int)=3 then !k0p (a.getD 0 ⟨0,0,0,0,⟨#[]⟩,⟨#[]⟩,[]⟩) l&&((j0l l a).getD 1 false&&(j0l l a).getD 2 false)
  else if k=4∧(a.length:Int)=2 then
   if n=6∨n=7 then (j0l l a).getD 0 false&&(j0l l a).getD 1 false
   else if n=8∨n=12 then (j0l l a).getD 0 false && !k0p (a.getD 1 ⟨0,0,0,0,⟨#[]⟩,⟨#[]⟩,[]⟩) l
   else false
  else false
def j0l (l:List Occurrence):List Expr→List Bool
 | []=>[]
 | x :: xs=>k3E l x :: j0l l xs
end
end Go.Proofs.YtmblndlpkpaobabGreat
