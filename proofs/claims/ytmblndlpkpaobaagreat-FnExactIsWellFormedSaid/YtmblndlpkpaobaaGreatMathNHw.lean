/- What those partial functions come to: plain lemmas on data; each bears its conditions in its statement. -/
import Derived.Test.YtmblndlpkpaobaaGreatMathNGw
import Derived.Test.YtmblndlpkpaobaaGreatMathM5w
import Derived.Test.YtmblndlpkpaobaaGreatMathMNaw
set_option linter.unusedVariables false
set_option linter.unusedSimpArgs false
set_option linter.ambiguousOpen false
set_option linter.unusedSectionVars false
set_option linter.unnecessarySimpa false
set_option linter.unusedVariables false
set_option linter.unusedSimpArgs false
namespace Go.Proofs.YtmblndlpkpaobaaGreat
open Go Go.E
def farB (e:Expr):Bool:=!allE (fun x=>!decide (x.Kind=8)) e
theorem z9D (e:Expr):∀ m,fuE e≤m→q6g m e=some (farB e):=by
 induction e using q5d with
 | h e ih=>
  intro m hm
  obtain⟨m,rfl⟩:∃ q,m=q+1:=⟨m - 1,by have:=fu_pos e; omega⟩
  show q7h (q6g m) e=_
  unfold q7h
  rw [q0v (c:=true) (q:=fun x=>!farB x) fun k x hx=>by
   unfold z0d
   rw [ih x hx m (by have:=fu_arg hx; omega),Option.bind_some]
   cases farB x<;>rfl]
  have e1:farB e=!(!decide (e.Kind=8)&&e.Args.all fun x=>!farB x):=by
   unfold farB
   rw [z1e]
   congr 2
   congr 1; funext x; rw [Bool.not_not]
  rw [e1,Option.bind_some]
  cases e.Args.all fun x=>!farB x with
  | true=>rw [if_pos rfl,q0s,Bool.and_true,Bool.not_not]
  | false=>rw [if_neg (by simp),z1T,Bool.and_false]; rfl
theorem j0u (e:Expr):q8H e=some (farB e):=q4q (fuE e) fun m hm=>z9D e m hm
theorem z9E (e:Expr):∀ m,fuE e≤m→q1G m e=some (!farB e):=by
 induction e using q5d with
 | h e ih=>
  intro m hm
  obtain⟨m,rfl⟩:∃ q,m=q+1:=⟨m - 1,by have:=fu_pos e; omega⟩
  show q2s (q1G m) e=_
  unfold q2s q0C q0F q7C
  have e1:(!farB e)=(!decide (e.Kind=8)&&e.Args.all fun x=>!farB x):=by
   unfold farB
   rw [z1e,Bool.not_not]
   congr 1
   congr 1; funext x; rw [Bool.not_not]
  rw [Option.bind_some,e1]
  cases decide (e.Kind=8) with
  | true=>rfl
  | false=>
   rw [Bool.not_false,if_pos rfl,q1e (q:=fun x=>farB x) fun k x hx=>by
    unfold q1s q3a
    rw [ih x hx m (by have:=fu_arg hx; omega),Option.bind_some,Option.bind_some]
    cases farB x<;>rfl]
   rw [Bool.true_and,Option.bind_some,List.not_any_eq_all_not]
theorem j0v (e:Expr):q7p e=some (farB e):=by
 unfold q7p
 rw [show q3q e=some (!farB e) from q4q (fuE e) fun m hm=>z9E e m hm,Option.bind_some,Bool.not_not]
def farR (r:Rule):Bool:=r.Equations.any fun q=>farB q.Expr
theorem z9F (r:Rule):q7i r=some (farR r):=by
 unfold q7i farR
 rw [q0v (c:=true) (q:=fun q:Equation=>!farB q.Expr) fun k x hx=>by
  unfold z0e
  rw [j0u,Option.bind_some]
  cases farB x.Expr<;>rfl]
 have e:(r.Equations.all fun q=>!farB q.Expr)=!(r.Equations.any fun q=>farB q.Expr):=by rw [List.not_any_eq_all_not]
 rw [e]
 cases r.Equations.any fun q=>farB q.Expr<;>rfl
theorem z9G {g:Grammar}(h:Sz.szd g≤1048576):q7q g=some (g.Rules.any fun r=>(exprsL r).any farB):=by
 unfold q7q q1r q1H
 rw [q1e (q:=fun r=>(exprsL r).any farB) fun k r hr=>by
  unfold q2G q7D
  rw [z6O (Nat.le_trans (q8q hr) h),Option.bind_some]
  unfold q1z q1R
  rw [q1e (q:=farB) fun k e he=>by
   unfold q3b
   rw [j0v,Option.bind_some,← apply_ite some]]
  rw [Option.bind_some,Option.bind_some,← apply_ite some]]
 rfl
def colG (g:Grammar):Bool:=g.Symbols.any fun y=>y.Attributes.any fun a=>decide (a.Mode=3)
theorem z8C (g:Grammar):q1P g=some (colG g):=by
 unfold q1P q0r q0x colG
 rw [q1e (q:=fun y:Symbol=>y.Attributes.any fun a=>decide (a.Mode=3)) fun k y hy=>by
  unfold q1d q2v q0W q1f
  rw [q1e (q:=fun a:Attribute=>decide (a.Mode=3)) fun k a ha=>by
   unfold q2d q7E
   rw [Option.bind_some,← apply_ite some]]
  rw [Option.bind_some,Option.bind_some,← apply_ite some]]
 rfl
theorem z7x {g:Grammar}(h:goodB g=true):∀ r∈g.Rules,typR g r=true:=by
 intro r hr
 unfold goodB at h
 rw [decide_eq_true_eq] at h
 unfold gramI at h
 by_cases h0:(shapeI g).1=0
 ·rw [if_pos h0] at h
  cases e:g.Rules.findIdx? fun r=>!typR g r with
  | some k=>rw [e] at h; simp at h
  | none=>
   rw [List.findIdx?_eq_none_iff] at e
   have:=e r hr
   simpa using this
 ·rw [if_neg h0] at h; exact absurd h h0
theorem z9H {g:Grammar}(h:goodB g=true)(hc:colG g=false){r:Rule}(hr:r∈g.Rules):r.Contributions=[]:=by
 have ht:=z7x h r hr
 unfold typR at ht
 rw [Bool.and_eq_true,List.all_eq_true,List.all_eq_true] at ht
 cases hq:r.Contributions with
 | nil=>rfl
 | cons q qs=>
  have h1:=ht.2 q (by rw [hq]; simp)
  unfold conT at h1
  simp only [Bool.and_eq_true,decide_eq_true_eq] at h1
  have h3:=h1.2
  unfold findA at h3
  cases ha:(findS g q.Symbol).1.Attributes.find? fun a=>decide (a.Name=q.Name) with
  | none=>rw [ha] at h3; exact absurd h3 (by simp [zA])
  | some a=>
   rw [ha] at h3
   have hm:=List.mem_of_find?_eq_some ha
   unfold findS at hm
   cases hs:g.Symbols.find? fun y=>decide (y.Name=q.Symbol) with
   | none=>rw [hs] at hm; simp [zS] at hm
   | some y=>
    rw [hs] at hm
    unfold colG at hc
    rw [List.any_eq_false] at hc
    exact absurd (List.any_eq_true.2 ⟨a,hm,by simpa using h3⟩) (hc y (List.mem_of_find?_eq_some hs))
noncomputable def circL (g:Grammar) (r:Rule):List Occurrence:=(q1D g r).getD []
theorem z8D {g:Grammar}(h:GOk g){r:Rule}(hl:ROk r):q1D g r=some (circL g r)∧q2j g r=some (circL g r):=by
 obtain⟨x,h1,h2,_⟩:=z4n h hl
 unfold circL
 rw [h1,h2]; exact⟨rfl,rfl⟩
noncomputable def monoR (g:Grammar) (r:Rule):Bool:=r.Equations.all fun q=>!decide (q.At∈circL g r)||monoE (circL g r) q.Expr
noncomputable def wellB (g:Grammar):Bool:=goodB g&&(!colG g&&g.Rules.all fun r=>monoR g r && !farR r)
theorem z6Q {g:Grammar}(h:Sz.szd g≤1048576):q0Q g=some (wellB g):=by
 unfold q0Q wellB
 rw [q0v (c:=false) (q:=fun y:Symbol=>!y.Attributes.any fun a=>decide (a.Mode=3)) fun k y hy=>by
  unfold q8u
  rw [q0v (c:=false) (q:=fun a:Attribute=>!decide (a.Mode=3)) fun k a ha=>by
   unfold q8t
   by_cases hm:a.Mode=3
   ·rw [if_pos hm,if_neg (by simp [hm])]
   ·rw [if_neg hm,if_pos (by simp [hm])]]
  have e:(y.Attributes.all fun a=>!decide (a.Mode=3))=!(y.Attributes.any fun a=>decide (a.Mode=3)):=by rw [List.not_any_eq_all_not]
  rw [e]
  cases y.Attributes.any fun a=>decide (a.Mode=3)<;>rfl]
 have e:(g.Symbols.all fun y=>!y.Attributes.any fun a=>decide (a.Mode=3))=!colG g:=by unfold colG; rw [List.not_any_eq_all_not]
 rw [e]
 cases colG g with
 | true=>cases goodB g<;>rfl
 | false=>
  rw [Bool.not_false,if_pos rfl,Option.bind_some,q0s]
  rw [q0v (c:=false) (q:=fun r=>monoR g r && !farR r) fun k r hr=>by
   have hs:=Nat.le_trans (q8q hr) h
   unfold q8v z0M monoR
   rw [(z8D (q9T h) (q4i hs)).1,Option.bind_some]
   rw [q0v (c:=false) (q:=fun q:Equation=>!decide (q.At∈circL g r)||monoE (circL g r) q.Expr) fun k q hq=>by
    unfold z2d
    rw [z6j,Option.bind_some]
    cases decide (q.At∈circL g r) with
    | false=>rfl
    | true=>rw [if_pos rfl,z9l (Nat.le_trans (q8Y hq) hs),Option.bind_some,← apply_ite some]; rfl]
   cases r.Equations.all fun q=>!decide (q.At∈circL g r)||monoE (circL g r) q.Expr with
   | false=>rfl
   | true=>
    rw [if_pos rfl,Option.bind_some,q0s,z9F,Option.bind_some,Option.bind_some]
    cases farR r<;>rfl]
  cases g.Rules.all fun r=>monoR g r && !farR r with
  | false=>cases goodB g<;>rfl
  | true=>rw [if_pos rfl,Option.bind_some,q0s,z9C h]; cases goodB g<;>rfl
theorem z6R {g:Grammar}(h:Sz.szd g≤1048576):q4t g=some (wellB g):=by
 unfold q4t wellB
 rw [z9B h,Option.bind_some]
 cases hg:goodB g with
 | false=>rfl
 | true=>
  rw [if_pos rfl,z9G h,Option.bind_some,Option.bind_some]
  cases hc:colG g with
  | true=>
   cases g.Rules.any fun r=>(exprsL r).any farB with
   | true=>rfl
   | false=>rw [if_neg (by simp),z8C,hc]; rfl
  | false=>
   have e1:(g.Rules.any fun r=>(exprsL r).any farB)=g.Rules.any farR:=by
    have:∀ r∈g.Rules,(exprsL r).any farB=farR r:=fun r hr=>by
     unfold exprsL farR
     rw [z9H hg hc hr,List.flatMap_nil,List.append_nil,List.any_map]; rfl
    rw [Bool.eq_iff_iff,List.any_eq_true,List.any_eq_true]
    exact⟨fun ⟨r,hr,hx⟩=>⟨r,hr,(this r hr)▸hx⟩,fun ⟨r,hr,hx⟩=>⟨r,hr,(this r hr).symm▸hx⟩⟩
   rw [e1]
   have e2:(g.Rules.all fun r=>monoR g r && !farR r)=(!g.Rules.any farR&&g.Rules.all (monoR g)):=by
    rw [List.not_any_eq_all_not,Bool.eq_iff_iff,Bool.and_eq_true,List.all_eq_true,List.all_eq_true,List.all_eq_true]
    constructor
    ·intro hh
     exact⟨fun r hr=>((Bool.and_eq_true _ _).mp (hh r hr)).2,fun r hr=>((Bool.and_eq_true _ _).mp (hh r hr)).1⟩
    ·rintro⟨h1,h2⟩ r hr
     rw [Bool.and_eq_true]; exact⟨h2 r hr,h1 r hr⟩
   rw [e2]
   cases g.Rules.any farR with
   | true=>rfl
   | false=>
    rw [if_neg (by simp),z8C,hc,Option.bind_some,Option.bind_some,if_neg (by simp)]
    rw [q0v (c:=false) (q:=monoR g) fun k r hr=>by
     have hs:=Nat.le_trans (q8q hr) h
     unfold q8z monoR
     rw [(z8D (q9T h) (q4i hs)).2,Option.bind_some]
     rw [q0v (c:=false) (q:=fun q:Equation=>!decide (q.At∈circL g r)||monoE (circL g r) q.Expr) fun k q hq=>by
      unfold q8y
      rw [z8t,Option.bind_some]
      cases decide (q.At∈circL g r) with
      | false=>rfl
      | true=>rw [if_pos rfl,z9m (Nat.le_trans (q8Y hq) hs),Option.bind_some,← apply_ite some]; rfl]
     cases r.Equations.all fun q=>!decide (q.At∈circL g r)||monoE (circL g r) q.Expr<;>rfl]
    cases g.Rules.all (monoR g)<;>rfl
end Go.Proofs.YtmblndlpkpaobaaGreat
