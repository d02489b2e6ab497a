/- What those partial functions come to: plain lemmas on data; each bears its conditions in its statement. -/
import Derived.Test.YteefempppabmkacGreatMathNGc
import Derived.Test.YteefempppabmkacGreatMathM5c
import Derived.Test.YteefempppabmkacGreatMathMNac
set_option linter.unusedVariables false
set_option linter.unusedSimpArgs false
set_option linter.ambiguousOpen false
set_option linter.unusedSectionVars false
set_option linter.unnecessarySimpa false
set_option linter.unusedVariables false
set_option linter.unusedSimpArgs false
namespace Go.Proofs.YteefempppabmkacGreat
open Go Go.E
def farB (e:Expr):Bool:=!allE (fun x=>!decide (x.Kind=8)) e
theorem j8T (e:Expr):∀ m,fuE e≤m→q9Z m e=some (farB e):=by
 induction e using q8Y with
 | h e ih=>
  intro m hm
  obtain⟨m,rfl⟩:∃ q,m=q+1:=⟨m - 1,by have:=z3r e; omega⟩
  show z1A (q9Z m) e=_
  unfold z1A
  rw [q2P (c:=true) (q:=fun x=>!farB x) fun k x hx=>by
   unfold z5X
   rw [ih x hx m (by have:=z3s hx; omega),Option.bind_some]
   cases farB x<;>rfl]
  have e1:farB e=!(!decide (e.Kind=8)&&e.Args.all fun x=>!farB x):=by
   unfold farB
   rw [z7l]
   congr 2
   congr 1; funext x; rw [Bool.not_not]
  rw [e1,Option.bind_some]
  cases e.Args.all fun x=>!farB x with
  | true=>rw [if_pos rfl,q2S,Bool.and_true,Bool.not_not]
  | false=>rw [if_neg (by simp),z6K,Bool.and_false]; rfl
theorem k0K (e:Expr):z3O e=some (farB e):=q7E (fuE e) fun m hm=>j8T e m hm
theorem j8U (e:Expr):∀ m,fuE e≤m→q4j m e=some (!farB e):=by
 induction e using q8Y with
 | h e ih=>
  intro m hm
  obtain⟨m,rfl⟩:∃ q,m=q+1:=⟨m - 1,by have:=z3r e; omega⟩
  show q4W (q4j m) e=_
  unfold q4W q2O q2U z2c
  have e1:(!farB e)=(!decide (e.Kind=8)&&e.Args.all fun x=>!farB x):=by
   unfold farB
   rw [z7l,Bool.not_not]
   congr 1
   congr 1; funext x; rw [Bool.not_not]
  rw [Option.bind_some,e1]
  cases decide (e.Kind=8) with
  | true=>rfl
  | false=>
   rw [Bool.not_false,if_pos rfl,q3d (q:=fun x=>farB x) fun k x hx=>by
    unfold q3W q5Q
    rw [ih x hx m (by have:=z3s hx; omega),Option.bind_some,Option.bind_some]
    cases farB x<;>rfl]
   rw [Bool.true_and,Option.bind_some,List.not_any_eq_all_not]
theorem k0L (e:Expr):z0f e=some (farB e):=by
 unfold z0f
 rw [show q6p e=some (!farB e) from q7E (fuE e) fun m hm=>j8U e m hm,Option.bind_some,Bool.not_not]
def farR (r:Rule):Bool:=r.Equations.any fun q=>farB q.Expr
theorem j8V (r:Rule):z1B r=some (farR r):=by
 unfold z1B farR
 rw [q2P (c:=true) (q:=fun q:Equation=>!farB q.Expr) fun k x hx=>by
  unfold z5Y
  rw [k0K,Option.bind_some]
  cases farB x.Expr<;>rfl]
 have e:(r.Equations.all fun q=>!farB q.Expr)=!(r.Equations.any fun q=>farB q.Expr):=by rw [List.not_any_eq_all_not]
 rw [e]
 cases r.Equations.any fun q=>farB q.Expr<;>rfl
theorem j8W {g:Grammar}(h:Sz.szd g≤1048576):z1L g=some (g.Rules.any fun r=>(z2x r).any farB):=by
 unfold z1L q3U q4k
 rw [q3d (q:=fun r=>(z2x r).any farB) fun k r hr=>by
  unfold q5z q9T
  rw [j4I (Nat.le_trans (z4s hr) h),Option.bind_some]
  unfold q4d q4t
  rw [q3d (q:=farB) fun k e he=>by
   unfold q5R
   rw [k0L,Option.bind_some,← apply_ite some]]
  rw [Option.bind_some,Option.bind_some,← apply_ite some]]
 rfl
def colG (g:Grammar):Bool:=g.Symbols.any fun y=>y.Attributes.any fun a=>decide (a.Mode=3)
theorem j7i (g:Grammar):q4r g=some (colG g):=by
 unfold q4r q2C q2I colG
 rw [q3d (q:=fun y:Symbol=>y.Attributes.any fun a=>decide (a.Mode=3)) fun k y hy=>by
  unfold q3B q5c q3s q3E
  rw [q3d (q:=fun a:Attribute=>decide (a.Mode=3)) fun k a ha=>by
   unfold q4D q9U
   rw [Option.bind_some,← apply_ite some]]
  rw [Option.bind_some,Option.bind_some,← apply_ite some]]
 rfl
theorem j5G {g:Grammar}(h:z9H g=true):∀ r∈g.Rules,typR g r=true:=by
 intro r hr
 unfold z9H at h
 rw [decide_eq_true_eq] at h
 unfold j5F at h
 by_cases h0:(z4u g).1=0
 ·rw [if_pos h0] at h
  cases e:g.Rules.findIdx? fun r=>!typR g r with
  | some k=>rw [e] at h; simp at h
  | none=>
   rw [List.findIdx?_eq_none_iff] at e
   have:=e r hr
   simpa using this
 ·rw [if_neg h0] at h; exact absurd h h0
theorem j8X {g:Grammar}(h:z9H g=true)(hc:colG g=false){r:Rule}(hr:r∈g.Rules):r.Contributions=[]:=by
 have ht:=j5G h r hr
 unfold typR at ht
 rw [Bool.and_eq_true,List.all_eq_true,List.all_eq_true] at ht
 cases hq:r.Contributions with
 | nil=>rfl
 | cons q qs=>
  have h1:=ht.2 q (by rw [hq]; simp)
  unfold conT at h1
  simp only [Bool.and_eq_true,decide_eq_true_eq] at h1
  have h3:=h1.2
  unfold z2g at h3
  cases ha:(q7V g q.Symbol).1.Attributes.find? fun a=>decide (a.Name=q.Name) with
  | none=>rw [ha] at h3; exact absurd h3 (by simp [zA])
  | some a=>
   rw [ha] at h3
   have hm:=List.mem_of_find?_eq_some ha
   unfold q7V at hm
   cases hs:g.Symbols.find? fun y=>decide (y.Name=q.Symbol) with
   | none=>rw [hs] at hm; simp [zS] at hm
   | some y=>
    rw [hs] at hm
    unfold colG at hc
    rw [List.any_eq_false] at hc
    exact absurd (List.any_eq_true.2 ⟨a,hm,by simpa using h3⟩) (hc y (List.mem_of_find?_eq_some hs))
end Go.Proofs.YteefempppabmkacGreat
