/- What those partial functions come to: plain lemmas on data; each bears its conditions in its statement. -/
import Derived.Test.YtmblndlpkpaobabGreatMathNBa
set_option linter.unusedVariables false
set_option linter.unusedSimpArgs false
set_option linter.ambiguousOpen false
set_option linter.unusedSectionVars false
set_option linter.unnecessarySimpa false
set_option linter.unusedVariables false
set_option linter.unusedSimpArgs false
namespace Go.Proofs.YtmblndlpkpaobabGreat
open Go Go.E
theorem z6v {r:Rule}{q:Contribution}(h:q∈r.Contributions):Sz.szd q.Target≤Sz.szd r∧Sz.szd q.Value≤Sz.szd r:=by
 have h1:=z4y r
 have h2:=z0j q
 have h3:=z0M h
 have h4:=q7o q.Target
 have h5:=q7o q.Value
 omega
theorem z2i {g:Grammar}{r:Rule}(h:r∈g.Rules):Sz.szd r≤Sz.szd g:=by
 have h1:=z0X g
 have h3:=z0M h
 omega
theorem j9n {r:Rule}(h:Sz.szd r≤1048576):r.Equations.length≤1048576∧r.Contributions.length≤1048576:=by
 have h1:=z4y r
 have h2:=q4n r.Equations
 have h3:=q4n r.Contributions
 omega
def q7X (n:Int)(e:Expr):Bool:=allE (fun x=>decide (x.Pos≤n)) e
theorem j3r (n:Int)(e:Expr):∀ m,fuE e≤m→z1b m e n=some (q7X n e):=by
 induction e using z0N with
 | h e ih=>
  intro m hm
  obtain⟨m,rfl⟩:∃ q,m=q+1:=⟨m - 1,by have:=z4T e; omega⟩
  show z2V (z1b m) e n=_
  unfold z2V
  rw [q3L (c:=false) (q:=q7X n) fun k x hx=>by
   unfold z7m
   rw [ih x hx m (by have:=z4U hx; omega),Option.bind_some]
   cases q7X n x<;>rfl]
  have e1:q7X n e=(decide (e.Pos≤n)&&e.Args.all (q7X n)):=by unfold q7X; rw [j1i]
  rw [e1,Option.bind_some]
  cases e.Args.all (q7X n) with
  | true=>rw [if_pos rfl,q3q,Bool.and_true]
  | false=>rw [if_neg (by simp),z8k,Bool.and_false]
theorem j5q (n:Int)(e:Expr):z5d e n=some (q7X n e):=q8p (fuE e) fun m hm=>j3r n e m hm
theorem j3s (n:Int)(e:Expr):∀ m,fuE e≤m→q5y m e n=some (q7X n e):=by
 induction e using z0N with
 | h e ih=>
  intro m hm
  obtain⟨m,rfl⟩:∃ q,m=q+1:=⟨m - 1,by have:=z4T e; omega⟩
  show q6l (q5y m) e n=_
  unfold q6l q3m q3x z8J
  have e1:q7X n e=(decide (e.Pos≤n)&&e.Args.all (q7X n)):=by unfold q7X; rw [j1i]
  rw [Option.bind_some,e1]
  cases decide (e.Pos≤n) with
  | false=>rfl
  | true=>
   rw [if_pos rfl,q5o (q:=fun x=>!q7X n x) fun k x hx=>by
    unfold q4D q7i
    rw [ih x hx m (by have:=z4U hx; omega),Option.bind_some,Option.bind_some]
    cases q7X n x<;>rfl]
   rw [Bool.true_and,← z9i]; rfl
theorem j5r (n:Int)(e:Expr):q7U e n=some (q7X n e):=q8p (fuE e) fun m hm=>j3s n e m hm
def z3x (e:Expr)(n:Int):Bool:=z9j e&&q7X n e
theorem j1m {e:Expr}(h:Sz.szd e≤1048576)(n:Int):z6K e n=some (z3x e n):=by
 unfold z6K z3x
 have:=j9m h
 rw [j6y (by omega),Option.bind_some]
 cases z9j e with
 | false=>rfl
 | true=>rw [if_pos rfl,j5r]; rfl
theorem j1n {e:Expr}(h:Sz.szd e≤1048576)(n:Int):z2q e n=some (z3x e n):=by
 unfold z2q z3x
 have:=j9m h
 rw [j6z (by omega),Option.bind_some]
 cases z9j e with
 | false=>rfl
 | true=>rw [if_pos rfl,j5q]; rfl
def eqnB (n:Int)(q:Equation):Bool:=z3x q.Expr n&&(q6S q.At.Name&&decide (0≤q.At.Pos∧q.At.Pos≤n))
def conB (n:Int)(q:Contribution):Bool:=(z3x q.Target n&&z3x q.Value n)&&(q6S q.Symbol&&q6S q.Name)
def ruleB (r:Rule):Bool:=(q6S r.Name&&q6S r.Left)&&((decide (r.Right.length≤3)&&decide (r.Contributions.length≤2))&&(r.Right.all q6S&&(r.Equations.all (eqnB (r.Right.length:Int))&&r.Contributions.all (conB (r.Right.length:Int)))))
theorem j2k {α β γ:Type}{p:α→Bool}{q:β→Bool}{t:γ→Bool}(xs:List α)(ys:List β)(zs:List γ) :
  ((some (if xs.all p=true then (.inl ():Unit ⊕ Bool) else .inr false)).bind <| onr (fun r1=>some r1) fun _=>
   (some (if ys.all q=true then (.inl ():Unit ⊕ Bool) else .inr false)).bind <| onr (fun r1=>some r1) fun _=>
   (some (if zs.all t=true then (.inl ():Unit ⊕ Bool) else .inr false)).bind <| onr (fun r1=>some r1) fun _=>some true)=some (xs.all p&&(ys.all q&&zs.all t)):=by
 cases xs.all p<;>cases ys.all q<;>cases zs.all t<;>rfl
theorem j6G {r:Rule}(h:Sz.szd r≤1048576):q9P r=some (ruleB r):=by
 unfold q9P ruleB
 rw [z0O,Option.bind_some]
 cases q6S r.Name with
 | false=>rfl
 | true=>
  rw [if_pos rfl,z0O,Option.bind_some,Option.bind_some]
  cases q6S r.Left with
  | false=>rfl
  | true=>
   rw [Bool.not_true,if_neg (by simp),Option.bind_some]
   by_cases h3:r.Right.length≤3
   ·rw [decide_eq_true h3,decide_eq_false (by omega),if_neg (by simp),Option.bind_some]
    by_cases h2:r.Contributions.length≤2
    ·rw [decide_eq_true h2,decide_eq_false (by omega),if_neg (by simp)]
     rw [q3L (c:=false) (q:=q6S) fun k x hx=>by
      unfold z3S; rw [z0O,Option.bind_some]; cases q6S x<;>rfl]
     rw [q3L (c:=false) (q:=eqnB (r.Right.length:Int)) fun k x hx=>by
      unfold z3T eqnB
      rw [j1m (Nat.le_trans (z5A hx) h),Option.bind_some]
      cases z3x x.Expr (r.Right.length:Int) with
      | false=>rfl
      | true=>
       rw [if_pos rfl,z0O,Option.bind_some,Option.bind_some]
       cases q6S x.At.Name with
       | false=>rfl
       | true=>
        rw [Bool.not_true,if_neg (by simp),z7u,Option.bind_some,Option.bind_some]
        cases decide (0≤x.At.Pos∧x.At.Pos≤(r.Right.length:Int))<;>rfl]
     rw [q3L (c:=false) (q:=conB (r.Right.length:Int)) fun k x hx=>by
      have hs:=z6v hx
      unfold z3U conB
      rw [j1m (Nat.le_trans hs.1 h),Option.bind_some]
      cases z3x x.Target (r.Right.length:Int) with
      | false=>rfl
      | true=>
       rw [if_pos rfl,j1m (Nat.le_trans hs.2 h),Option.bind_some,Option.bind_some]
       cases z3x x.Value (r.Right.length:Int) with
       | false=>rfl
       | true=>
        rw [Bool.not_true,if_neg (by simp),z0O,Option.bind_some,Option.bind_some]
        cases q6S x.Symbol with
        | false=>rfl
        | true=>
         rw [Bool.not_true,if_neg (by simp),z0O,Option.bind_some,Option.bind_some]
         cases q6S x.Name<;>rfl]
     exact j2k _ _ _
    ·rw [decide_eq_false h2,decide_eq_true (by omega)]; rfl
   ·rw [decide_eq_false h3,decide_eq_true (by omega)]; rfl
theorem j6H {r:Rule}(h:Sz.szd r≤1048576):q9I r=some (ruleB r):=by
 unfold q9I ruleB
 rw [q9e,Option.bind_some]
 cases q6S r.Name with
 | false=>rfl
 | true=>
  rw [if_pos rfl,q9e,Option.bind_some,Option.bind_some]
  cases q6S r.Left with
  | false=>rfl
  | true=>
   rw [Bool.not_true,if_neg (by simp),Option.bind_some]
   by_cases h3:r.Right.length≤3
   ·rw [decide_eq_true h3,decide_eq_false (by omega),if_neg (by simp),Option.bind_some]
    by_cases h2:r.Contributions.length≤2
    ·rw [decide_eq_true h2,decide_eq_false (by omega),if_neg (by simp)]
     rw [q3L (c:=false) (q:=q6S) fun k x hx=>by
      unfold z3J; rw [q9e,Option.bind_some]; cases q6S x<;>rfl]
     rw [q3L (c:=false) (q:=eqnB (r.Right.length:Int)) fun k x hx=>by
      unfold z3K eqnB
      rw [q9e,Option.bind_some]
      cases q6S x.At.Name with
      | false=>rw [Bool.false_and,Bool.and_false]; rfl
      | true=>
       rw [if_pos rfl,z4o,Option.bind_some,Option.bind_some]
       cases decide (0≤x.At.Pos∧x.At.Pos≤(r.Right.length:Int)) with
       | false=>rw [Bool.and_false,Bool.and_false]; rfl
       | true=>
        rw [Bool.not_true,if_neg (by simp),j1n (Nat.le_trans (z5A hx) h),Option.bind_some,Option.bind_some]
        cases z3x x.Expr (r.Right.length:Int)<;>rfl]
     rw [q3L (c:=false) (q:=conB (r.Right.length:Int)) fun k x hx=>by
      have hs:=z6v hx
      unfold z3L conB
      rw [q9e,Option.bind_some]
      cases q6S x.Symbol with
      | false=>rw [Bool.false_and,Bool.and_false]; rfl
      | true=>
       rw [if_pos rfl,q9e,Option.bind_some,Option.bind_some]
       cases q6S x.Name with
       | false=>rw [Bool.and_false,Bool.and_false]; rfl
       | true=>
        rw [Bool.not_true,if_neg (by simp),j1n (Nat.le_trans hs.1 h),Option.bind_some,Option.bind_some]
        cases z3x x.Target (r.Right.length:Int) with
        | false=>rfl
        | true=>
         rw [Bool.not_true,if_neg (by simp),j1n (Nat.le_trans hs.2 h),Option.bind_some,Option.bind_some]
         cases z3x x.Value (r.Right.length:Int)<;>rfl]
     exact j2k _ _ _
    ·rw [decide_eq_false h2,decide_eq_true (by omega)]; rfl
   ·rw [decide_eq_false h3,decide_eq_true (by omega)]; rfl
def z2M (p:List Symbol)(x:Symbol):Bool:=!symB x||dupB (fun y:Symbol=>y.Name) p x
def z0s (p:List Rule)(x:Rule):Bool:=!ruleB x||dupB (fun y:Rule=>y.Name) p x
def z4V (g:Grammar):Int:=match q3i z2M [] g.Symbols with
 | some k=>(k:Int)
 | none=>match q3i z0s [] g.Rules with
  | some k=>(k:Int)
  | none=>-1
theorem j6I {g:Grammar}(h:Sz.szd g≤1048576):z0H g=some (z4V g):=by
 unfold z0H z4V
 rw [show q2I (q9Q g) 0 g.Symbols ()=_ from z4t (bad:=z2M) (c:=fun k=>(k:Int)) (all:=g.Symbols) (f:=q9Q g) (fun pre x post e=>by
  unfold q9Q z2M
  rw [j8k,Option.bind_some]
  cases symB x with
  | false=>rfl
  | true=>
   rw [if_pos rfl,q2B (by rw [e]; simp),show g.Symbols.take pre.length=pre by rw [e]; simp]
   unfold q3E q4b
   rw [q5o (q:=fun o:Symbol=>decide (o.Name=x.Name)) fun k y hy=>by
    unfold q5j q8O
    rw [Option.bind_some]
    by_cases h:y.Name=x.Name
    ·rw [decide_eq_true h]; rfl
    ·rw [decide_eq_false h]; rfl]
   rw [Option.bind_some,← apply_ite some]; rfl) g.Symbols [] rfl]
 rw [show q2I (q9R g) 0 g.Rules ()=_ from z4t (bad:=z0s) (c:=fun k=>(k:Int)) (all:=g.Rules) (f:=q9R g) (fun pre x post e=>by
  unfold q9R z0s
  rw [j6G (Nat.le_trans (z2i (by rw [e]; simp)) h),Option.bind_some]
  cases ruleB x with
  | false=>rfl
  | true=>
   rw [if_pos rfl,q2B (by rw [e]; simp),show g.Rules.take pre.length=pre by rw [e]; simp]
   unfold q3Q q4i
   rw [q5o (q:=fun o:Rule=>decide (o.Name=x.Name)) fun k y hy=>by
    unfold q5s q8P
    rw [Option.bind_some]
    by_cases h:y.Name=x.Name
    ·rw [decide_eq_true h]; rfl
    ·rw [decide_eq_false h]; rfl]
   rw [Option.bind_some,← apply_ite some]; rfl) g.Rules [] rfl]
 cases q3i z2M [] g.Symbols with
 | some k=>rfl
 | none=>cases q3i z0s [] g.Rules<;>rfl
theorem j3t {g:Grammar}(h:Sz.szd g≤1048576):g.Symbols.length≤1048576∧g.Rules.length≤1048576:=by
 have h1:=z0X g
 have h2:=q4n g.Symbols
 have h3:=q4n g.Rules
 omega
theorem j6J {g:Grammar}(h:Sz.szd g≤1048576):z5Y g=some (z4V g):=by
 have hl:=j3t h
 unfold z5Y z4V
 have h1:=(z2L (bad:=z2M) (nm:=fun y:Symbol=>y.Name) (c:=fun k=>(k:Int)) (all:=g.Symbols) (f:=fun k x _=>some (if z2M (g.Symbols.take k) x=true then .inr (k:Int) else .inl ())) (h:=z4A) (fun pre x post e=>by
   rw [show g.Symbols.take pre.length=pre by rw [e]; simp]) (fun pre x post e=>by
  unfold z4A z2M
  rw [j8l (z2h h x (by rw [e]; simp)),Option.bind_some]
  cases symB x with
  | false=>rfl
  | true=>
   have hp:pre.length≤1048576:=by
     have:g.Symbols.length=pre.length+(post.length+1):=by rw [e]; simp
     omega
   rw [if_pos rfl,j6D,Option.bind_some,List.any_map,q2B (by rw [List.length_map]; constructor<;>omega),List.map_append,← apply_ite some]; rfl) g.Symbols [] rfl).2
 have h2:=(z2L (bad:=z0s) (nm:=fun y:Rule=>y.Name) (c:=fun k=>(k:Int)) (all:=g.Rules) (f:=fun k x _=>some (if z0s (g.Rules.take k) x=true then .inr (k:Int) else .inl ())) (h:=z4B) (fun pre x post e=>by
   rw [show g.Rules.take pre.length=pre by rw [e]; simp]) (fun pre x post e=>by
  unfold z4B z0s
  rw [j6H (Nat.le_trans (z2i (by rw [e]; simp)) h),Option.bind_some]
  cases ruleB x with
  | false=>rfl
  | true=>
   have hp:pre.length≤1048576:=by
     have:g.Rules.length=pre.length+(post.length+1):=by rw [e]; simp
     omega
   rw [if_pos rfl,j6D,Option.bind_some,List.any_map,q2B (by rw [List.length_map]; constructor<;>omega),List.map_append,← apply_ite some]; rfl) g.Rules [] rfl).2
 rw [show q2I z4A 0 g.Symbols []=_ from h1,show q2I z4B 0 g.Rules []=_ from h2]
 cases q3i z2M [] g.Symbols with
 | some k=>rfl
 | none=>cases q3i z0s [] g.Rules<;>rfl
end Go.Proofs.YtmblndlpkpaobabGreat
