/- What those partial functions come to: plain lemmas on data; each bears its conditions in its statement. -/
import Derived.Test.YteefempppabmkacGreatMathNBc
set_option linter.unusedVariables false
set_option linter.unusedSimpArgs false
set_option linter.ambiguousOpen false
set_option linter.unusedSectionVars false
set_option linter.unnecessarySimpa false
set_option linter.unusedVariables false
set_option linter.unusedSimpArgs false
namespace Go.Proofs.YteefempppabmkacGreat
open Go Go.E
theorem z6E {r:Rule}{q:Contribution}(h:q∈r.Contributions):Sz.szd q.Target≤Sz.szd r∧Sz.szd q.Value≤Sz.szd r:=by
 have h1:=z4y r
 have h2:=z0k q
 have h3:=q6u h
 have h4:=q7v q.Target
 have h5:=q7v q.Value
 omega
theorem z4s {g:Grammar}{r:Rule}(h:r∈g.Rules):Sz.szd r≤Sz.szd g:=by
 have h1:=z0O g
 have h3:=q6u h
 omega
theorem j9H {r:Rule}(h:Sz.szd r≤1048576):r.Equations.length≤1048576∧r.Contributions.length≤1048576:=by
 have h1:=z4y r
 have h2:=q2R r.Equations
 have h3:=q2R r.Contributions
 omega
def q8a (n:Int)(e:Expr):Bool:=allE (fun x=>decide (x.Pos≤n)) e
theorem j3U (n:Int)(e:Expr):∀ m,fuE e≤m→z1a m e n=some (q8a n e):=by
 induction e using q8Y with
 | h e ih=>
  intro m hm
  obtain⟨m,rfl⟩:∃ q,m=q+1:=⟨m - 1,by have:=z3r e; omega⟩
  show z2O (z1a m) e n=_
  unfold z2O
  rw [q2P (c:=false) (q:=q8a n) fun k x hx=>by
   unfold z7w
   rw [ih x hx m (by have:=z3s hx; omega),Option.bind_some]
   cases q8a n x<;>rfl]
  have e1:q8a n e=(decide (e.Pos≤n)&&e.Args.all (q8a n)):=by unfold q8a; rw [z7l]
  rw [e1,Option.bind_some]
  cases e.Args.all (q8a n) with
  | true=>rw [if_pos rfl,q2S,Bool.and_true]
  | false=>rw [if_neg (by simp),z6K,Bool.and_false]
theorem j5B (n:Int)(e:Expr):z5q e n=some (q8a n e):=q7E (fuE e) fun m hm=>j3U n e m hm
theorem j3V (n:Int)(e:Expr):∀ m,fuE e≤m→q5w m e n=some (q8a n e):=by
 induction e using q8Y with
 | h e ih=>
  intro m hm
  obtain⟨m,rfl⟩:∃ q,m=q+1:=⟨m - 1,by have:=z3r e; omega⟩
  show q6t (q5w m) e n=_
  unfold q6t q3h q3r z9h
  have e1:q8a n e=(decide (e.Pos≤n)&&e.Args.all (q8a n)):=by unfold q8a; rw [z7l]
  rw [Option.bind_some,e1]
  cases decide (e.Pos≤n) with
  | false=>rfl
  | true=>
   rw [if_pos rfl,q3d (q:=fun x=>!q8a n x) fun k x hx=>by
    unfold q4q q7m
    rw [ih x hx m (by have:=z3s hx; omega),Option.bind_some,Option.bind_some]
    cases q8a n x<;>rfl]
   rw [Bool.true_and,← z9A]; rfl
theorem j5C (n:Int)(e:Expr):q7W e n=some (q8a n e):=q7E (fuE e) fun m hm=>j3V n e m hm
def z3u (e:Expr)(n:Int):Bool:=z9B e&&q8a n e
theorem j1F {e:Expr}(h:Sz.szd e≤1048576)(n:Int):z7c e n=some (z3u e n):=by
 unfold z7c z3u
 have:=j9G h
 rw [j6N (by omega),Option.bind_some]
 cases z9B e with
 | false=>rfl
 | true=>rw [if_pos rfl,j5C]; rfl
theorem j1G {e:Expr}(h:Sz.szd e≤1048576)(n:Int):z2n e n=some (z3u e n):=by
 unfold z2n z3u
 have:=j9G h
 rw [j6O (by omega),Option.bind_some]
 cases z9B e with
 | false=>rfl
 | true=>rw [if_pos rfl,j5B]; rfl
def eqnB (n:Int)(q:Equation):Bool:=z3u q.Expr n&&(q6X q.At.Name&&decide (0≤q.At.Pos∧q.At.Pos≤n))
def conB (n:Int)(q:Contribution):Bool:=(z3u q.Target n&&z3u q.Value n)&&(q6X q.Symbol&&q6X q.Name)
def ruleB (r:Rule):Bool:=(q6X r.Name&&q6X r.Left)&&((decide (r.Right.length≤3)&&decide (r.Contributions.length≤2))&&(r.Right.all q6X&&(r.Equations.all (eqnB (r.Right.length:Int))&&r.Contributions.all (conB (r.Right.length:Int)))))
theorem j2F {α β γ:Type}{p:α→Bool}{q:β→Bool}{t:γ→Bool}(xs:List α)(ys:List β)(zs:List γ) :
  ((some (if xs.all p=true then (.inl ():Unit ⊕ Bool) else .inr false)).bind <| onr (fun r1=>some r1) fun _=>
   (some (if ys.all q=true then (.inl ():Unit ⊕ Bool) else .inr false)).bind <| onr (fun r1=>some r1) fun _=>
   (some (if zs.all t=true then (.inl ():Unit ⊕ Bool) else .inr false)).bind <| onr (fun r1=>some r1) fun _=>some true)=some (xs.all p&&(ys.all q&&zs.all t)):=by
 cases xs.all p<;>cases ys.all q<;>cases zs.all t<;>rfl
theorem j6T {r:Rule}(h:Sz.szd r≤1048576):q9M r=some (ruleB r):=by
 unfold q9M ruleB
 rw [z0K,Option.bind_some]
 cases q6X r.Name with
 | false=>rfl
 | true=>
  rw [if_pos rfl,z0K,Option.bind_some,Option.bind_some]
  cases q6X r.Left with
  | false=>rfl
  | true=>
   rw [Bool.not_true,if_neg (by simp),Option.bind_some]
   by_cases h3:r.Right.length≤3
   ·rw [decide_eq_true h3,decide_eq_false (by omega),if_neg (by simp),Option.bind_some]
    by_cases h2:r.Contributions.length≤2
    ·rw [decide_eq_true h2,decide_eq_false (by omega),if_neg (by simp)]
     rw [q2P (c:=false) (q:=q6X) fun k x hx=>by
      unfold z3Y; rw [z0K,Option.bind_some]; cases q6X x<;>rfl]
     rw [q2P (c:=false) (q:=eqnB (r.Right.length:Int)) fun k x hx=>by
      unfold z3Z eqnB
      rw [j1F (Nat.le_trans (z5C hx) h),Option.bind_some]
      cases z3u x.Expr (r.Right.length:Int) with
      | false=>rfl
      | true=>
       rw [if_pos rfl,z0K,Option.bind_some,Option.bind_some]
       cases q6X x.At.Name with
       | false=>rfl
       | true=>
        rw [Bool.not_true,if_neg (by simp),z4Z,Option.bind_some,Option.bind_some]
        cases decide (0≤x.At.Pos∧x.At.Pos≤(r.Right.length:Int))<;>rfl]
     rw [q2P (c:=false) (q:=conB (r.Right.length:Int)) fun k x hx=>by
      have hs:=z6E hx
      unfold z4a conB
      rw [j1F (Nat.le_trans hs.1 h),Option.bind_some]
      cases z3u x.Target (r.Right.length:Int) with
      | false=>rfl
      | true=>
       rw [if_pos rfl,j1F (Nat.le_trans hs.2 h),Option.bind_some,Option.bind_some]
       cases z3u x.Value (r.Right.length:Int) with
       | false=>rfl
       | true=>
        rw [Bool.not_true,if_neg (by simp),z0K,Option.bind_some,Option.bind_some]
        cases q6X x.Symbol with
        | false=>rfl
        | true=>
         rw [Bool.not_true,if_neg (by simp),z0K,Option.bind_some,Option.bind_some]
         cases q6X x.Name<;>rfl]
     exact j2F _ _ _
    ·rw [decide_eq_false h2,decide_eq_true (by omega)]; rfl
   ·rw [decide_eq_false h3,decide_eq_true (by omega)]; rfl
theorem j6U {r:Rule}(h:Sz.szd r≤1048576):q9E r=some (ruleB r):=by
 unfold q9E ruleB
 rw [q8Z,Option.bind_some]
 cases q6X r.Name with
 | false=>rfl
 | true=>
  rw [if_pos rfl,q8Z,Option.bind_some,Option.bind_some]
  cases q6X r.Left with
  | false=>rfl
  | true=>
   rw [Bool.not_true,if_neg (by simp),Option.bind_some]
   by_cases h3:r.Right.length≤3
   ·rw [decide_eq_true h3,decide_eq_false (by omega),if_neg (by simp),Option.bind_some]
    by_cases h2:r.Contributions.length≤2
    ·rw [decide_eq_true h2,decide_eq_false (by omega),if_neg (by simp)]
     rw [q2P (c:=false) (q:=q6X) fun k x hx=>by
      unfold z3P; rw [q8Z,Option.bind_some]; cases q6X x<;>rfl]
     rw [q2P (c:=false) (q:=eqnB (r.Right.length:Int)) fun k x hx=>by
      unfold z3Q eqnB
      rw [q8Z,Option.bind_some]
      cases q6X x.At.Name with
      | false=>rw [Bool.false_and,Bool.and_false]; rfl
      | true=>
       rw [if_pos rfl,z1n,Option.bind_some,Option.bind_some]
       cases decide (0≤x.At.Pos∧x.At.Pos≤(r.Right.length:Int)) with
       | false=>rw [Bool.and_false,Bool.and_false]; rfl
       | true=>
        rw [Bool.not_true,if_neg (by simp),j1G (Nat.le_trans (z5C hx) h),Option.bind_some,Option.bind_some]
        cases z3u x.Expr (r.Right.length:Int)<;>rfl]
     rw [q2P (c:=false) (q:=conB (r.Right.length:Int)) fun k x hx=>by
      have hs:=z6E hx
      unfold z3R conB
      rw [q8Z,Option.bind_some]
      cases q6X x.Symbol with
      | false=>rw [Bool.false_and,Bool.and_false]; rfl
      | true=>
       rw [if_pos rfl,q8Z,Option.bind_some,Option.bind_some]
       cases q6X x.Name with
       | false=>rw [Bool.and_false,Bool.and_false]; rfl
       | true=>
        rw [Bool.not_true,if_neg (by simp),j1G (Nat.le_trans hs.1 h),Option.bind_some,Option.bind_some]
        cases z3u x.Target (r.Right.length:Int) with
        | false=>rfl
        | true=>
         rw [Bool.not_true,if_neg (by simp),j1G (Nat.le_trans hs.2 h),Option.bind_some,Option.bind_some]
         cases z3u x.Value (r.Right.length:Int)<;>rfl]
     exact j2F _ _ _
    ·rw [decide_eq_false h2,decide_eq_true (by omega)]; rfl
   ·rw [decide_eq_false h3,decide_eq_true (by omega)]; rfl
def z2w (p:List Symbol)(x:Symbol):Bool:=!symB x||dupB (fun y:Symbol=>y.Name) p x
def z0p (p:List Rule)(x:Rule):Bool:=!ruleB x||dupB (fun y:Rule=>y.Name) p x
def z5a (g:Grammar):Int:=match q3e z2w [] g.Symbols with
 | some k=>(k:Int)
 | none=>match q3e z0p [] g.Rules with
  | some k=>(k:Int)
  | none=>-1
theorem j6V {g:Grammar}(h:Sz.szd g≤1048576):z0D g=some (z5a g):=by
 unfold z0D z5a
 rw [show q2u (q9N g) 0 g.Symbols ()=_ from z4r (bad:=z2w) (c:=fun k=>(k:Int)) (all:=g.Symbols) (f:=q9N g) (fun pre x post e=>by
  unfold q9N z2w
  rw [j8C,Option.bind_some]
  cases symB x with
  | false=>rfl
  | true=>
   rw [if_pos rfl,q2q (by rw [e]; simp),show g.Symbols.take pre.length=pre by rw [e]; simp]
   unfold q3y q3S
   rw [q3d (q:=fun o:Symbol=>decide (o.Name=x.Name)) fun k y hy=>by
    unfold q4Q q8M
    rw [Option.bind_some]
    by_cases h:y.Name=x.Name
    ·rw [decide_eq_true h]; rfl
    ·rw [decide_eq_false h]; rfl]
   rw [Option.bind_some,← apply_ite some]; rfl) g.Symbols [] rfl]
 rw [show q2u (q9O g) 0 g.Rules ()=_ from z4r (bad:=z0p) (c:=fun k=>(k:Int)) (all:=g.Rules) (f:=q9O g) (fun pre x post e=>by
  unfold q9O z0p
  rw [j6T (Nat.le_trans (z4s (by rw [e]; simp)) h),Option.bind_some]
  cases ruleB x with
  | false=>rfl
  | true=>
   rw [if_pos rfl,q2q (by rw [e]; simp),show g.Rules.take pre.length=pre by rw [e]; simp]
   unfold q3I q4b
   rw [q3d (q:=fun o:Rule=>decide (o.Name=x.Name)) fun k y hy=>by
    unfold q5l q8N
    rw [Option.bind_some]
    by_cases h:y.Name=x.Name
    ·rw [decide_eq_true h]; rfl
    ·rw [decide_eq_false h]; rfl]
   rw [Option.bind_some,← apply_ite some]; rfl) g.Rules [] rfl]
 cases q3e z2w [] g.Symbols with
 | some k=>rfl
 | none=>cases q3e z0p [] g.Rules<;>rfl
theorem j3W {g:Grammar}(h:Sz.szd g≤1048576):g.Symbols.length≤1048576∧g.Rules.length≤1048576:=by
 have h1:=z0O g
 have h2:=q2R g.Symbols
 have h3:=q2R g.Rules
 omega
theorem j6W {g:Grammar}(h:Sz.szd g≤1048576):z6g g=some (z5a g):=by
 have hl:=j3W h
 unfold z6g z5a
 have h1:=(z2v (bad:=z2w) (nm:=fun y:Symbol=>y.Name) (c:=fun k=>(k:Int)) (all:=g.Symbols) (f:=fun k x _=>some (if z2w (g.Symbols.take k) x=true then .inr (k:Int) else .inl ())) (h:=z4B) (fun pre x post e=>by
   rw [show g.Symbols.take pre.length=pre by rw [e]; simp]) (fun pre x post e=>by
  unfold z4B z2w
  rw [j8D (z7j h x (by rw [e]; simp)),Option.bind_some]
  cases symB x with
  | false=>rfl
  | true=>
   have hp:pre.length≤1048576:=by
     have:g.Symbols.length=pre.length+(post.length+1):=by rw [e]; simp
     omega
   rw [if_pos rfl,j6Q,Option.bind_some,List.any_map,q2q (by rw [List.length_map]; constructor<;>omega),List.map_append,← apply_ite some]; rfl) g.Symbols [] rfl).2
 have h2:=(z2v (bad:=z0p) (nm:=fun y:Rule=>y.Name) (c:=fun k=>(k:Int)) (all:=g.Rules) (f:=fun k x _=>some (if z0p (g.Rules.take k) x=true then .inr (k:Int) else .inl ())) (h:=z4C) (fun pre x post e=>by
   rw [show g.Rules.take pre.length=pre by rw [e]; simp]) (fun pre x post e=>by
  unfold z4C z0p
  rw [j6U (Nat.le_trans (z4s (by rw [e]; simp)) h),Option.bind_some]
  cases ruleB x with
  | false=>rfl
  | true=>
   have hp:pre.length≤1048576:=by
     have:g.Rules.length=pre.length+(post.length+1):=by rw [e]; simp
     omega
   rw [if_pos rfl,j6Q,Option.bind_some,List.any_map,q2q (by rw [List.length_map]; constructor<;>omega),List.map_append,← apply_ite some]; rfl) g.Rules [] rfl).2
 rw [show q2u z4B 0 g.Symbols []=_ from h1,show q2u z4C 0 g.Rules []=_ from h2]
 cases q3e z2w [] g.Symbols with
 | some k=>rfl
 | none=>cases q3e z0p [] g.Rules<;>rfl
end Go.Proofs.YteefempppabmkacGreat
