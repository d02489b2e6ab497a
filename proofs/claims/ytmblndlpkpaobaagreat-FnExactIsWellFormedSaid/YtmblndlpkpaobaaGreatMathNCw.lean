/- What those partial functions come to: plain lemmas on data; each bears its conditions in its statement. -/
import Derived.Test.YtmblndlpkpaobaaGreatMathNBw
set_option linter.unusedVariables false
set_option linter.unusedSimpArgs false
set_option linter.ambiguousOpen false
set_option linter.unusedSectionVars false
set_option linter.unnecessarySimpa false
set_option linter.unusedVariables false
set_option linter.unusedSimpArgs false
namespace Go.Proofs.YtmblndlpkpaobaaGreat
open Go Go.E
theorem z0z {r:Rule}{q:Contribution}(h:q∈r.Contributions):Sz.szd q.Target≤Sz.szd r∧Sz.szd q.Value≤Sz.szd r:=by
 have h1:=q7W r
 have h2:=q4V q
 have h3:=z0v h
 have h4:=q2L q.Target
 have h5:=q2L q.Value
 omega
theorem q8q {g:Grammar}{r:Rule}(h:r∈g.Rules):Sz.szd r≤Sz.szd g:=by
 have h1:=q5e g
 have h3:=z0v h
 omega
theorem eqs_le {r:Rule}(h:Sz.szd r≤1048576):r.Equations.length≤1048576∧r.Contributions.length≤1048576:=by
 have h1:=q7W r
 have h2:=q0O r.Equations
 have h3:=q0O r.Contributions
 omega
def q4J (n:Int)(e:Expr):Bool:=allE (fun x=>decide (x.Pos≤n)) e
theorem z6e (n:Int)(e:Expr):∀ m,fuE e≤m→q6N m e n=some (q4J n e):=by
 induction e using q5d with
 | h e ih=>
  intro m hm
  obtain⟨m,rfl⟩:∃ q,m=q+1:=⟨m - 1,by have:=fu_pos e; omega⟩
  show q8d (q6N m) e n=_
  unfold q8d
  rw [q0v (c:=false) (q:=q4J n) fun k x hx=>by
   unfold z1l
   rw [ih x hx m (by have:=fu_arg hx; omega),Option.bind_some]
   cases q4J n x<;>rfl]
  have e1:q4J n e=(decide (e.Pos≤n)&&e.Args.all (q4J n)):=by unfold q4J; rw [z1e]
  rw [e1,Option.bind_some]
  cases e.Args.all (q4J n) with
  | true=>rw [if_pos rfl,q0s,Bool.and_true]
  | false=>rw [if_neg (by simp),z1T,Bool.and_false]
theorem z7t (n:Int)(e:Expr):q9G e n=some (q4J n e):=q4q (fuE e) fun m hm=>z6e n e m hm
theorem z6f (n:Int)(e:Expr):∀ m,fuE e≤m→q2D m e n=some (q4J n e):=by
 induction e using q5d with
 | h e ih=>
  intro m hm
  obtain⟨m,rfl⟩:∃ q,m=q+1:=⟨m - 1,by have:=fu_pos e; omega⟩
  show q3v (q2D m) e n=_
  unfold q3v q0N q0V z2w
  have e1:q4J n e=(decide (e.Pos≤n)&&e.Args.all (q4J n)):=by unfold q4J; rw [z1e]
  rw [Option.bind_some,e1]
  cases decide (e.Pos≤n) with
  | false=>rfl
  | true=>
   rw [if_pos rfl,q1e (q:=fun x=>!q4J n x) fun k x hx=>by
    unfold q1N q4a
    rw [ih x hx m (by have:=fu_arg hx; omega),Option.bind_some,Option.bind_some]
    cases q4J n x<;>rfl]
   rw [Bool.true_and,← z2O]; rfl
theorem z7u (n:Int)(e:Expr):q4G e n=some (q4J n e):=q4q (fuE e) fun m hm=>z6f n e m hm
def fitsB (e:Expr)(n:Int):Bool:=validB e&&q4J n e
theorem z4r {e:Expr}(h:Sz.szd e≤1048576)(n:Int):z0S e n=some (fitsB e n):=by
 unfold z0S fitsB
 have:=cnt_sz h
 rw [z8h (by omega),Option.bind_some]
 cases validB e with
 | false=>rfl
 | true=>rw [if_pos rfl,z7u]; rfl
theorem z4s {e:Expr}(h:Sz.szd e≤1048576)(n:Int):q7J e n=some (fitsB e n):=by
 unfold q7J fitsB
 have:=cnt_sz h
 rw [z8i (by omega),Option.bind_some]
 cases validB e with
 | false=>rfl
 | true=>rw [if_pos rfl,z7t]; rfl
def eqnB (n:Int)(q:Equation):Bool:=fitsB q.Expr n&&(nameB q.At.Name&&decide (0≤q.At.Pos∧q.At.Pos≤n))
def conB (n:Int)(q:Contribution):Bool:=(fitsB q.Target n&&fitsB q.Value n)&&(nameB q.Symbol&&nameB q.Name)
def ruleB (r:Rule):Bool:=(nameB r.Name&&nameB r.Left)&&((decide (r.Right.length≤3)&&decide (r.Contributions.length≤2))&&(r.Right.all nameB&&(r.Equations.all (eqnB (r.Right.length:Int))&&r.Contributions.all (conB (r.Right.length:Int)))))
theorem z5k {α β γ:Type}{p:α→Bool}{q:β→Bool}{t:γ→Bool}(xs:List α)(ys:List β)(zs:List γ) :
  ((some (if xs.all p=true then (.inl ():Unit ⊕ Bool) else .inr false)).bind <| onr (fun r1=>some r1) fun _=>
   (some (if ys.all q=true then (.inl ():Unit ⊕ Bool) else .inr false)).bind <| onr (fun r1=>some r1) fun _=>
   (some (if zs.all t=true then (.inl ():Unit ⊕ Bool) else .inr false)).bind <| onr (fun r1=>some r1) fun _=>some true)=some (xs.all p&&(ys.all q&&zs.all t)):=by
 cases xs.all p<;>cases ys.all q<;>cases zs.all t<;>rfl
theorem z8p {r:Rule}(h:Sz.szd r≤1048576):q6a r=some (ruleB r):=by
 unfold q6a ruleB
 rw [q6E,Option.bind_some]
 cases nameB r.Name with
 | false=>rfl
 | true=>
  rw [if_pos rfl,q6E,Option.bind_some,Option.bind_some]
  cases nameB r.Left with
  | false=>rfl
  | true=>
   rw [Bool.not_true,if_neg (by simp),Option.bind_some]
   by_cases h3:r.Right.length≤3
   ·rw [decide_eq_true h3,decide_eq_false (by omega),if_neg (by simp),Option.bind_some]
    by_cases h2:r.Contributions.length≤2
    ·rw [decide_eq_true h2,decide_eq_false (by omega),if_neg (by simp)]
     rw [q0v (c:=false) (q:=nameB) fun k x hx=>by
      unfold q8Q; rw [q6E,Option.bind_some]; cases nameB x<;>rfl]
     rw [q0v (c:=false) (q:=eqnB (r.Right.length:Int)) fun k x hx=>by
      unfold q8R eqnB
      rw [z4r (Nat.le_trans (q8Y hx) h),Option.bind_some]
      cases fitsB x.Expr (r.Right.length:Int) with
      | false=>rfl
      | true=>
       rw [if_pos rfl,q6E,Option.bind_some,Option.bind_some]
       cases nameB x.At.Name with
       | false=>rfl
       | true=>
        rw [Bool.not_true,if_neg (by simp),iIn_eq,Option.bind_some,Option.bind_some]
        cases decide (0≤x.At.Pos∧x.At.Pos≤(r.Right.length:Int))<;>rfl]
     rw [q0v (c:=false) (q:=conB (r.Right.length:Int)) fun k x hx=>by
      have hs:=z0z hx
      unfold q8S conB
      rw [z4r (Nat.le_trans hs.1 h),Option.bind_some]
      cases fitsB x.Target (r.Right.length:Int) with
      | false=>rfl
      | true=>
       rw [if_pos rfl,z4r (Nat.le_trans hs.2 h),Option.bind_some,Option.bind_some]
       cases fitsB x.Value (r.Right.length:Int) with
       | false=>rfl
       | true=>
        rw [Bool.not_true,if_neg (by simp),q6E,Option.bind_some,Option.bind_some]
        cases nameB x.Symbol with
        | false=>rfl
        | true=>
         rw [Bool.not_true,if_neg (by simp),q6E,Option.bind_some,Option.bind_some]
         cases nameB x.Name<;>rfl]
     exact z5k _ _ _
    ·rw [decide_eq_false h2,decide_eq_true (by omega)]; rfl
   ·rw [decide_eq_false h3,decide_eq_true (by omega)]; rfl
theorem z8q {r:Rule}(h:Sz.szd r≤1048576):q5T r=some (ruleB r):=by
 unfold q5T ruleB
 rw [q5A,Option.bind_some]
 cases nameB r.Name with
 | false=>rfl
 | true=>
  rw [if_pos rfl,q5A,Option.bind_some,Option.bind_some]
  cases nameB r.Left with
  | false=>rfl
  | true=>
   rw [Bool.not_true,if_neg (by simp),Option.bind_some]
   by_cases h3:r.Right.length≤3
   ·rw [decide_eq_true h3,decide_eq_false (by omega),if_neg (by simp),Option.bind_some]
    by_cases h2:r.Contributions.length≤2
    ·rw [decide_eq_true h2,decide_eq_false (by omega),if_neg (by simp)]
     rw [q0v (c:=false) (q:=nameB) fun k x hx=>by
      unfold q8I; rw [q5A,Option.bind_some]; cases nameB x<;>rfl]
     rw [q0v (c:=false) (q:=eqnB (r.Right.length:Int)) fun k x hx=>by
      unfold q8J eqnB
      rw [q5A,Option.bind_some]
      cases nameB x.At.Name with
      | false=>rw [Bool.false_and,Bool.and_false]; rfl
      | true=>
       rw [if_pos rfl,sIn_eq,Option.bind_some,Option.bind_some]
       cases decide (0≤x.At.Pos∧x.At.Pos≤(r.Right.length:Int)) with
       | false=>rw [Bool.and_false,Bool.and_false]; rfl
       | true=>
        rw [Bool.not_true,if_neg (by simp),z4s (Nat.le_trans (q8Y hx) h),Option.bind_some,Option.bind_some]
        cases fitsB x.Expr (r.Right.length:Int)<;>rfl]
     rw [q0v (c:=false) (q:=conB (r.Right.length:Int)) fun k x hx=>by
      have hs:=z0z hx
      unfold q8K conB
      rw [q5A,Option.bind_some]
      cases nameB x.Symbol with
      | false=>rw [Bool.false_and,Bool.and_false]; rfl
      | true=>
       rw [if_pos rfl,q5A,Option.bind_some,Option.bind_some]
       cases nameB x.Name with
       | false=>rw [Bool.and_false,Bool.and_false]; rfl
       | true=>
        rw [Bool.not_true,if_neg (by simp),z4s (Nat.le_trans hs.1 h),Option.bind_some,Option.bind_some]
        cases fitsB x.Target (r.Right.length:Int) with
        | false=>rfl
        | true=>
         rw [Bool.not_true,if_neg (by simp),z4s (Nat.le_trans hs.2 h),Option.bind_some,Option.bind_some]
         cases fitsB x.Value (r.Right.length:Int)<;>rfl]
     exact z5k _ _ _
    ·rw [decide_eq_false h2,decide_eq_true (by omega)]; rfl
   ·rw [decide_eq_false h3,decide_eq_true (by omega)]; rfl
def symBad (p:List Symbol)(x:Symbol):Bool:=!symB x||dupB (fun y:Symbol=>y.Name) p x
def q6k (p:List Rule)(x:Rule):Bool:=!ruleB x||dupB (fun y:Rule=>y.Name) p x
def faultI (g:Grammar):Int:=match q0K symBad [] g.Symbols with
 | some k=>(k:Int)
 | none=>match q0K q6k [] g.Rules with
  | some k=>(k:Int)
  | none=>-1
theorem z8r {g:Grammar}(h:Sz.szd g≤1048576):q6y g=some (faultI g):=by
 unfold q6y faultI
 rw [show findL (q6b g) 0 g.Symbols ()=_ from q9b (bad:=symBad) (c:=fun k=>(k:Int)) (all:=g.Symbols) (f:=q6b g) (fun pre x post e=>by
  unfold q6b symBad
  rw [z9n,Option.bind_some]
  cases symB x with
  | false=>rfl
  | true=>
   rw [if_pos rfl,q0d (by rw [e]; simp),show g.Symbols.take pre.length=pre by rw [e]; simp]
   unfold q1a q1p
   rw [q1e (q:=fun o:Symbol=>decide (o.Name=x.Name)) fun k y hy=>by
    unfold q2o q6R
    rw [Option.bind_some]
    by_cases h:y.Name=x.Name
    ·rw [decide_eq_true h]; rfl
    ·rw [decide_eq_false h]; rfl]
   rw [Option.bind_some,← apply_ite some]; rfl) g.Symbols [] rfl]
 rw [show findL (q6c g) 0 g.Rules ()=_ from q9b (bad:=q6k) (c:=fun k=>(k:Int)) (all:=g.Rules) (f:=q6c g) (fun pre x post e=>by
  unfold q6c q6k
  rw [z8p (Nat.le_trans (q8q (by rw [e]; simp)) h),Option.bind_some]
  cases ruleB x with
  | false=>rfl
  | true=>
   rw [if_pos rfl,q0d (by rw [e]; simp),show g.Rules.take pre.length=pre by rw [e]; simp]
   unfold q1i q1x
   rw [q1e (q:=fun o:Rule=>decide (o.Name=x.Name)) fun k y hy=>by
    unfold q2y q6U
    rw [Option.bind_some]
    by_cases h:y.Name=x.Name
    ·rw [decide_eq_true h]; rfl
    ·rw [decide_eq_false h]; rfl]
   rw [Option.bind_some,← apply_ite some]; rfl) g.Rules [] rfl]
 cases q0K symBad [] g.Symbols with
 | some k=>rfl
 | none=>cases q0K q6k [] g.Rules<;>rfl
theorem z6g {g:Grammar}(h:Sz.szd g≤1048576):g.Symbols.length≤1048576∧g.Rules.length≤1048576:=by
 have h1:=q5e g
 have h2:=q0O g.Symbols
 have h3:=q0O g.Rules
 omega
theorem z8s {g:Grammar}(h:Sz.szd g≤1048576):z0m g=some (faultI g):=by
 have hl:=z6g h
 unfold z0m faultI
 have h1:=(q7O (bad:=symBad) (nm:=fun y:Symbol=>y.Name) (c:=fun k=>(k:Int)) (all:=g.Symbols) (f:=fun k x _=>some (if symBad (g.Symbols.take k) x=true then .inr (k:Int) else .inl ())) (h:=q9g) (fun pre x post e=>by
   rw [show g.Symbols.take pre.length=pre by rw [e]; simp]) (fun pre x post e=>by
  unfold q9g symBad
  rw [z9o (q9T h x (by rw [e]; simp)),Option.bind_some]
  cases symB x with
  | false=>rfl
  | true=>
   have hp:pre.length≤1048576:=by
     have:g.Symbols.length=pre.length+(post.length+1):=by rw [e]; simp
     omega
   rw [if_pos rfl,has_eq,Option.bind_some,List.any_map,q0d (by rw [List.length_map]; constructor<;>omega),List.map_append,← apply_ite some]; rfl) g.Symbols [] rfl).2
 have h2:=(q7O (bad:=q6k) (nm:=fun y:Rule=>y.Name) (c:=fun k=>(k:Int)) (all:=g.Rules) (f:=fun k x _=>some (if q6k (g.Rules.take k) x=true then .inr (k:Int) else .inl ())) (h:=q9h) (fun pre x post e=>by
   rw [show g.Rules.take pre.length=pre by rw [e]; simp]) (fun pre x post e=>by
  unfold q9h q6k
  rw [z8q (Nat.le_trans (q8q (by rw [e]; simp)) h),Option.bind_some]
  cases ruleB x with
  | false=>rfl
  | true=>
   have hp:pre.length≤1048576:=by
     have:g.Rules.length=pre.length+(post.length+1):=by rw [e]; simp
     omega
   rw [if_pos rfl,has_eq,Option.bind_some,List.any_map,q0d (by rw [List.length_map]; constructor<;>omega),List.map_append,← apply_ite some]; rfl) g.Rules [] rfl).2
 rw [show findL q9g 0 g.Symbols []=_ from h1,show findL q9h 0 g.Rules []=_ from h2]
 cases q0K symBad [] g.Symbols with
 | some k=>rfl
 | none=>cases q0K q6k [] g.Rules<;>rfl
end Go.Proofs.YtmblndlpkpaobaaGreat
