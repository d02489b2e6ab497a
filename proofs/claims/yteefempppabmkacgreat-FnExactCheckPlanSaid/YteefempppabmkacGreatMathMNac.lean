/- What those partial functions come to: plain lemmas on data; each bears its conditions in its statement. -/
import Derived.Test.YteefempppabmkacGreatMathMEc
import Derived.Test.YteefempppabmkacGreatMathM8c
set_option linter.unusedVariables false
set_option linter.unusedSimpArgs false
set_option linter.ambiguousOpen false
set_option linter.unusedSectionVars false
set_option linter.unnecessarySimpa false
set_option linter.unusedVariables false
set_option linter.unusedSimpArgs false
namespace Go.Proofs.YteefempppabmkacGreat
open Go Go.E
mutual
def k4i (l:List Occurrence):Expr→Bool
 | ⟨k,n,p,t,s,m,a⟩=>
  if k0E ⟨k,n,p,t,s,m,a⟩ l=false∨k=3 then true
  else if k=5∧(a.length:Int)=3 then !k0E (a.getD 0 ⟨0,0,0,0,⟨#[]⟩,⟨#[]⟩,[]⟩) l&&((j0B l a).getD 1 false&&(j0B l a).getD 2 false)
  else if k=4∧(a.length:Int)=2 then
   if n=6∨n=7 then (j0B l a).getD 0 false&&(j0B l a).getD 1 false
   else if n=8∨n=12 then (j0B l a).getD 0 false && !k0E (a.getD 1 ⟨0,0,0,0,⟨#[]⟩,⟨#[]⟩,[]⟩) l
   else false
  else false
def j0B (l:List Occurrence):List Expr→List Bool
 | []=>[]
 | x :: xs=>k4i l x :: j0B l xs
end
end Go.Proofs.YteefempppabmkacGreat
