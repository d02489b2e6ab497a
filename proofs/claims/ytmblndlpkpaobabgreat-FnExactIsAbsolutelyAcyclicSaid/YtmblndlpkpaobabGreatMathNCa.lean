/- What those partial functions come to: plain lemmas on data; each bears its conditions in its statement. -/
import Derived.Test.YtmblndlpkpaobabGreatMathNBa
set_option linter.unusedVariables false
set_option linter.unusedSimpArgs false
set_option linter.ambiguousOpen false
set_option linter.unusedSectionVars false
set_option linter.unnecessarySimpa false
set_option linter.unusedVariables false
set_option linter.unusedSimpArgs false
namespace Go.Proofs.YtmblndlpkpaobabGreat
open Go Go.E
theorem z6t {r:Rule}{q:Contribution}(h:q∈r.Contributions):Sz.szd q.Target≤Sz.szd r∧Sz.szd q.Value≤Sz.szd r:=by
 have h1:=z4x r
 have h2:=z0h q
 have h3:=z0K h
 have h4:=q7o q.Target
 have h5:=q7o q.Value
 omega
theorem z2h {g:Grammar}{r:Rule}(h:r∈g.Rules):Sz.szd r≤Sz.szd g:=by
 have h1:=z0V g
 have h3:=z0K h
 omega
theorem j9i {r:Rule}(h:Sz.szd r≤1048576):r.Equations.length≤1048576∧r.Contributions.length≤1048576:=by
 have h1:=z4x r
 have h2:=q4n r.Equations
 have h3:=q4n r.Contributions
 omega
def q7Y (n:Int)(e:Expr):Bool:=allE (fun x=>decide (x.Pos≤n)) e
theorem j3m (n:Int)(e:Expr):∀ m,fuE e≤m→z0Z m e n=some (q7Y n e):=by
 induction e using z0L with
 | h e ih=>
  intro m hm
  obtain⟨m,rfl⟩:∃ q,m=q+1:=⟨m - 1,by have:=z4S e; omega⟩
  show z2U (z0Z m) e n=_
  unfold z2U
  rw [q3L (c:=false) (q:=q7Y n) fun k x hx=>by
   unfold z7k
   rw [ih x hx m (by have:=z4T hx; omega),Option.bind_some]
   cases q7Y n x<;>rfl]
  have e1:q7Y n e=(decide (e.Pos≤n)&&e.Args.all (q7Y n)):=by unfold q7Y; rw [j1e]
  rw [e1,Option.bind_some]
  cases e.Args.all (q7Y n) with
  | true=>rw [if_pos rfl,q3q,Bool.and_true]
  | false=>rw [if_neg (by simp),z8i,Bool.and_false]
theorem j5l (n:Int)(e:Expr):z5c e n=some (q7Y n e):=q8q (fuE e) fun m hm=>j3m n e m hm
theorem j3n (n:Int)(e:Expr):∀ m,fuE e≤m→q5y m e n=some (q7Y n e):=by
 induction e using z0L with
 | h e ih=>
  intro m hm
  obtain⟨m,rfl⟩:∃ q,m=q+1:=⟨m - 1,by have:=z4S e; omega⟩
  show q6l (q5y m) e n=_
  unfold q6l q3m q3x z8H
  have e1:q7Y n e=(decide (e.Pos≤n)&&e.Args.all (q7Y n)):=by unfold q7Y; rw [j1e]
  rw [Option.bind_some,e1]
  cases decide (e.Pos≤n) with
  | false=>rfl
  | true=>
   rw [if_pos rfl,q5o (q:=fun x=>!q7Y n x) fun k x hx=>by
    unfold q4D q7i
    rw [ih x hx m (by have:=z4T hx; omega),Option.bind_some,Option.bind_some]
    cases q7Y n x<;>rfl]
   rw [Bool.true_and,← z9g]; rfl
theorem j5m (n:Int)(e:Expr):q7V e n=some (q7Y n e):=q8q (fuE e) fun m hm=>j3n n e m hm
def z3w (e:Expr)(n:Int):Bool:=z9h e&&q7Y n e
theorem j1i {e:Expr}(h:Sz.szd e≤1048576)(n:Int):z6I e n=some (z3w e n):=by
 unfold z6I z3w
 have:=j9h h
 rw [j6u (by omega),Option.bind_some]
 cases z9h e with
 | false=>rfl
 | true=>rw [if_pos rfl,j5m]; rfl
theorem j1j {e:Expr}(h:Sz.szd e≤1048576)(n:Int):z2p e n=some (z3w e n):=by
 unfold z2p z3w
 have:=j9h h
 rw [j6v (by omega),Option.bind_some]
 cases z9h e with
 | false=>rfl
 | true=>rw [if_pos rfl,j5l]; rfl
def eqnB (n:Int)(q:Equation):Bool:=z3w q.Expr n&&(q6S q.At.Name&&decide (0≤q.At.Pos∧q.At.Pos≤n))
def conB (n:Int)(q:Contribution):Bool:=(z3w q.Target n&&z3w q.Value n)&&(q6S q.Symbol&&q6S q.Name)
def ruleB (r:Rule):Bool:=(q6S r.Name&&q6S r.Left)&&((decide (r.Right.length≤3)&&decide (r.Contributions.length≤2))&&(r.Right.all q6S&&(r.Equations.all (eqnB (r.Right.length:Int))&&r.Contributions.all (conB (r.Right.length:Int)))))
theorem j2f {α β γ:Type}{p:α→Bool}{q:β→Bool}{t:γ→Bool}(xs:List α)(ys:List β)(zs:List γ) :
  ((some (if xs.all p=true then (.inl ():Unit ⊕ Bool) else .inr false)).bind <| onr (fun r1=>some r1) fun _=>
   (some (if ys.all q=true then (.inl ():Unit ⊕ Bool) else .inr false)).bind <| onr (fun r1=>some r1) fun _=>
   (some (if zs.all t=true then (.inl ():Unit ⊕ Bool) else .inr false)).bind <| onr (fun r1=>some r1) fun _=>some true)=some (xs.all p&&(ys.all q&&zs.all t)):=by
 cases xs.all p<;>cases ys.all q<;>cases zs.all t<;>rfl
theorem j6C {r:Rule}(h:Sz.szd r≤1048576):q9N r=some (ruleB r):=by
 unfold q9N ruleB
 rw [z0M,Option.bind_some]
 cases q6S r.Name with
 | false=>rfl
 | true=>
  rw [if_pos rfl,z0M,Option.bind_some,Option.bind_some]
  cases q6S r.Left with
  | false=>rfl
  | true=>
   rw [Bool.not_true,if_neg (by simp),Option.bind_some]
   by_cases h3:r.Right.length≤3
   ·rw [decide_eq_true h3,decide_eq_false (by omega),if_neg (by simp),Option.bind_some]
    by_cases h2:r.Contributions.length≤2
    ·rw [decide_eq_true h2,decide_eq_false (by omega),if_neg (by simp)]
     rw [q3L (c:=false) (q:=q6S) fun k x hx=>by
      unfold z3Q; rw [z0M,Option.bind_some]; cases q6S x<;>rfl]
     rw [q3L (c:=false) (q:=eqnB (r.Right.length:Int)) fun k x hx=>by
      unfold z3R eqnB
      rw [j1i (Nat.le_trans (z5z hx) h),Option.bind_some]
      cases z3w x.Expr (r.Right.length:Int) with
      | false=>rfl
      | true=>
       rw [if_pos rfl,z0M,Option.bind_some,Option.bind_some]
       cases q6S x.At.Name with
       | false=>rfl
       | true=>
        rw [Bool.not_true,if_neg (by simp),z7s,Option.bind_some,Option.bind_some]
        cases decide (0≤x.At.Pos∧x.At.Pos≤(r.Right.length:Int))<;>rfl]
     rw [q3L (c:=false) (q:=conB (r.Right.length:Int)) fun k x hx=>by
      have hs:=z6t hx
      unfold z3S conB
      rw [j1i (Nat.le_trans hs.1 h),Option.bind_some]
      cases z3w x.Target (r.Right.length:Int) with
      | false=>rfl
      | true=>
       rw [if_pos rfl,j1i (Nat.le_trans hs.2 h),Option.bind_some,Option.bind_some]
       cases z3w x.Value (r.Right.length:Int) with
       | false=>rfl
       | true=>
        rw [Bool.not_true,if_neg (by simp),z0M,Option.bind_some,Option.bind_some]
        cases q6S x.Symbol with
        | false=>rfl
        | true=>
         rw [Bool.not_true,if_neg (by simp),z0M,Option.bind_some,Option.bind_some]
         cases q6S x.Name<;>rfl]
     exact j2f _ _ _
    ·rw [decide_eq_false h2,decide_eq_true (by omega)]; rfl
   ·rw [decide_eq_false h3,decide_eq_true (by omega)]; rfl
theorem j6D {r:Rule}(h:Sz.szd r≤1048576):q9G r=some (ruleB r):=by
 unfold q9G ruleB
 rw [q9d,Option.bind_some]
 cases q6S r.Name with
 | false=>rfl
 | true=>
  rw [if_pos rfl,q9d,Option.bind_some,Option.bind_some]
  cases q6S r.Left with
  | false=>rfl
  | true=>
   rw [Bool.not_true,if_neg (by simp),Option.bind_some]
   by_cases h3:r.Right.length≤3
   ·rw [decide_eq_true h3,decide_eq_false (by omega),if_neg (by simp),Option.bind_some]
    by_cases h2:r.Contributions.length≤2
    ·rw [decide_eq_true h2,decide_eq_false (by omega),if_neg (by simp)]
     rw [q3L (c:=false) (q:=q6S) fun k x hx=>by
      unfold z3I; rw [q9d,Option.bind_some]; cases q6S x<;>rfl]
     rw [q3L (c:=false) (q:=eqnB (r.Right.length:Int)) fun k x hx=>by
      unfold z3J eqnB
      rw [q9d,Option.bind_some]
      cases q6S x.At.Name with
      | false=>rw [Bool.false_and,Bool.and_false]; rfl
      | true=>
       rw [if_pos rfl,z4m,Option.bind_some,Option.bind_some]
       cases decide (0≤x.At.Pos∧x.At.Pos≤(r.Right.length:Int)) with
       | false=>rw [Bool.and_false,Bool.and_false]; rfl
       | true=>
        rw [Bool.not_true,if_neg (by simp),j1j (Nat.le_trans (z5z hx) h),Option.bind_some,Option.bind_some]
        cases z3w x.Expr (r.Right.length:Int)<;>rfl]
     rw [q3L (c:=false) (q:=conB (r.Right.length:Int)) fun k x hx=>by
      have hs:=z6t hx
      unfold z3K conB
      rw [q9d,Option.bind_some]
      cases q6S x.Symbol with
      | false=>rw [Bool.false_and,Bool.and_false]; rfl
      | true=>
       rw [if_pos rfl,q9d,Option.bind_some,Option.bind_some]
       cases q6S x.Name with
       | false=>rw [Bool.and_false,Bool.and_false]; rfl
       | true=>
        rw [Bool.not_true,if_neg (by simp),j1j (Nat.le_trans hs.1 h),Option.bind_some,Option.bind_some]
        cases z3w x.Target (r.Right.length:Int) with
        | false=>rfl
        | true=>
         rw [Bool.not_true,if_neg (by simp),j1j (Nat.le_trans hs.2 h),Option.bind_some,Option.bind_some]
         cases z3w x.Value (r.Right.length:Int)<;>rfl]
     exact j2f _ _ _
    ·rw [decide_eq_false h2,decide_eq_true (by omega)]; rfl
   ·rw [decide_eq_false h3,decide_eq_true (by omega)]; rfl
def z2L (p:List Symbol)(x:Symbol):Bool:=!symB x||dupB (fun y:Symbol=>y.Name) p x
def z0q (p:List Rule)(x:Rule):Bool:=!ruleB x||dupB (fun y:Rule=>y.Name) p x
def z4U (g:Grammar):Int:=match q3i z2L [] g.Symbols with
 | some k=>(k:Int)
 | none=>match q3i z0q [] g.Rules with
  | some k=>(k:Int)
  | none=>-1
theorem j6E {g:Grammar}(h:Sz.szd g≤1048576):z0F g=some (z4U g):=by
 unfold z0F z4U
 rw [show q2I (q9O g) 0 g.Symbols ()=_ from z4r (bad:=z2L) (c:=fun k=>(k:Int)) (all:=g.Symbols) (f:=q9O g) (fun pre x post e=>by
  unfold q9O z2L
  rw [j8g,Option.bind_some]
  cases symB x with
  | false=>rfl
  | true=>
   rw [if_pos rfl,q2B (by rw [e]; simp),show g.Symbols.take pre.length=pre by rw [e]; simp]
   unfold q3E q4b
   rw [q5o (q:=fun o:Symbol=>decide (o.Name=x.Name)) fun k y hy=>by
    unfold q5j q8O
    rw [Option.bind_some]
    by_cases h:y.Name=x.Name
    ·rw [decide_eq_true h]; rfl
    ·rw [decide_eq_false h]; rfl]
   rw [Option.bind_some,← apply_ite some]; rfl) g.Symbols [] rfl]
 rw [show q2I (q9P g) 0 g.Rules ()=_ from z4r (bad:=z0q) (c:=fun k=>(k:Int)) (all:=g.Rules) (f:=q9P g) (fun pre x post e=>by
  unfold q9P z0q
  rw [j6C (Nat.le_trans (z2h (by rw [e]; simp)) h),Option.bind_some]
  cases ruleB x with
  | false=>rfl
  | true=>
   rw [if_pos rfl,q2B (by rw [e]; simp),show g.Rules.take pre.length=pre by rw [e]; simp]
   unfold q3Q q4i
   rw [q5o (q:=fun o:Rule=>decide (o.Name=x.Name)) fun k y hy=>by
    unfold q5s q8P
    rw [Option.bind_some]
    by_cases h:y.Name=x.Name
    ·rw [decide_eq_true h]; rfl
    ·rw [decide_eq_false h]; rfl]
   rw [Option.bind_some,← apply_ite some]; rfl) g.Rules [] rfl]
 cases q3i z2L [] g.Symbols with
 | some k=>rfl
 | none=>cases q3i z0q [] g.Rules<;>rfl
theorem j3o {g:Grammar}(h:Sz.szd g≤1048576):g.Symbols.length≤1048576∧g.Rules.length≤1048576:=by
 have h1:=z0V g
 have h2:=q4n g.Symbols
 have h3:=q4n g.Rules
 omega
theorem j6F {g:Grammar}(h:Sz.szd g≤1048576):z5W g=some (z4U g):=by
 have hl:=j3o h
 unfold z5W z4U
 have h1:=(z2K (bad:=z2L) (nm:=fun y:Symbol=>y.Name) (c:=fun k=>(k:Int)) (all:=g.Symbols) (f:=fun k x _=>some (if z2L (g.Symbols.take k) x=true then .inr (k:Int) else .inl ())) (h:=z4z) (fun pre x post e=>by
   rw [show g.Symbols.take pre.length=pre by rw [e]; simp]) (fun pre x post e=>by
  unfold z4z z2L
  rw [j8h (z2g h x (by rw [e]; simp)),Option.bind_some]
  cases symB x with
  | false=>rfl
  | true=>
   have hp:pre.length≤1048576:=by
     have:g.Symbols.length=pre.length+(post.length+1):=by rw [e]; simp
     omega
   rw [if_pos rfl,j6z,Option.bind_some,List.any_map,q2B (by rw [List.length_map]; constructor<;>omega),List.map_append,← apply_ite some]; rfl) g.Symbols [] rfl).2
 have h2:=(z2K (bad:=z0q) (nm:=fun y:Rule=>y.Name) (c:=fun k=>(k:Int)) (all:=g.Rules) (f:=fun k x _=>some (if z0q (g.Rules.take k) x=true then .inr (k:Int) else .inl ())) (h:=z4A) (fun pre x post e=>by
   rw [show g.Rules.take pre.length=pre by rw [e]; simp]) (fun pre x post e=>by
  unfold z4A z0q
  rw [j6D (Nat.le_trans (z2h (by rw [e]; simp)) h),Option.bind_some]
  cases ruleB x with
  | false=>rfl
  | true=>
   have hp:pre.length≤1048576:=by
     have:g.Rules.length=pre.length+(post.length+1):=by rw [e]; simp
     omega
   rw [if_pos rfl,j6z,Option.bind_some,List.any_map,q2B (by rw [List.length_map]; constructor<;>omega),List.map_append,← apply_ite some]; rfl) g.Rules [] rfl).2
 rw [show q2I z4z 0 g.Symbols []=_ from h1,show q2I z4A 0 g.Rules []=_ from h2]
 cases q3i z2L [] g.Symbols with
 | some k=>rfl
 | none=>cases q3i z0q [] g.Rules<;>rfl
end Go.Proofs.YtmblndlpkpaobabGreat
