/- What some functions of the program compute, as partial functions on plain data, and that they do; each lemma bears its conditions in its statement. -/
import Derived.Test.YtibagkppfnjgcaaGreatLift2
set_option linter.unusedVariables false
set_option linter.unusedSimpArgs false
set_option linter.ambiguousOpen false
set_option linter.unusedSectionVars false
set_option linter.unnecessarySimpa false
set_option maxRecDepth 100000
set_option maxHeartbeats 40000000
noncomputable section
namespace Go.Proofs.YtibagkppfnjgcaaGreat
open Go Go.E Go.A
def q4t (a0:ByteArray):Option Bool:=
 (z3V a0).bind fun y1=>
 (
 if y1=true then (
 some (decide ((a0.size:Int)≤8))
 ) else (
 some false
 )
 ).bind fun s1=>
 (
 if s1=true then (
 (q8X a0).bind fun y2=>
 some (!y2)
 ) else (
 some false
 )
 ).bind fun s2=>
 some s2
theorem q4Q {a0:ByteArray}{r:Bool}(hr:q4t a0=some r):Ok Tryz.prog 167 [.d .fz (.s a0)] [] (.d .fz (.b r)) []:=by
 refine Ok.enter rfl Tryz.func167 rfl rfl rfl fun S hS=>?_
 unfold q4t at hr
 refine sr ?_
 refine N1 ?_
 refine sr ?_
 refine W1 ?_
 refine bdE hr fun y1 hy1 hr=>?_
 refine CB [] [] (j2j hy1) ?_
 refine bdE hr fun s1 hqq1 hr=>?_
 refine q0h 5 [(0,.d .fz (.s a0)),(2,.d .fz (.b false)),(9,.d .fz (.b s1))] ?_ ?_
 replace hr:=hqq1
 refine ifE hr (fun h1 hr=>?_) fun h1 hr=>?_
 refine VT rfl h1 ?_
 refine W1 ?_
 refine LS ?_
 refine N2 ?_
 cases hr
 exact q3n
 refine VF rfl (bF h1) ?_
 iterate 3 refine AL.off ?_
 refine N1 ?_
 cases hr
 exact q3n
 refine bdE hr fun s2 hqq2 hr=>?_
 refine q0h 5 [(2,.d .fz (.b false)),(14,.d .fz (.b s2))] ?_ ?_
 replace hr:=hqq2
 refine ifE hr (fun h2 hr=>?_) fun h2 hr=>?_
 refine VT rfl h2 ?_
 refine W1 ?_
 refine bdE hr fun y2 hy2 hr=>?_
 refine CB [] [] (z8j hy2) ?_
 refine N2 ?_
 cases hr
 exact q3n
 refine VF rfl (bF h2) ?_
 iterate 3 refine AL.off ?_
 refine N1 ?_
 cases hr
 exact q3n
 refine N1 ?_
 refine AW.ret ?_
 cases hr
 exact q0a [] 0 hS
def z3g (a0:Expr):Option Bool:=
 (q5H a0.Kind 1 8).bind fun y1=>
 (
 if y1=true then (
 (z3e a0).bind fun y2=>
 some (!y2)
 ) else (
 some true
 )
 ).bind fun s1=>
 if s1=true then (
 some false
 ) else (
 if a0.Kind=1 then (
 (q5H a0.Type_ 1 3).bind fun y3=>
 (
 if y3=true then (
 (z0Y a0.N a0.Type_).bind fun y4=>
 some y4
 ) else (
 some false
 )
 ).bind fun s2=>
 (
 if s2=true then (
 some (decide (0≤a0.N))
 ) else (
 some false
 )
 ).bind fun s3=>
 some s3
 ) else (
 if a0.Kind=3 then (
 (q5H a0.Pos 0 3).bind fun y5=>
 (
 if y5=true then (
 (q4t a0.Name).bind fun y6=>
 some y6
 ) else (
 some false
 )
 ).bind fun s4=>
 some s4
 ) else (
 if a0.Kind=6 then (
 (q5H a0.Pos 0 3).bind fun y7=>
 some y7
 ) else (
 if a0.Kind=4 then (
 (q5H a0.N 1 12).bind fun y8=>
 some y8
 ) else (
 if a0.Kind=8 then (
 (q4t a0.Symbol).bind fun y9=>
 (
 if y9=true then (
 (q4t a0.Name).bind fun y10=>
 some y10
 ) else (
 some false
 )
 ).bind fun s5=>
 some s5
 ) else (
 some true
 )
 )
 )
 )
 )
 )
theorem j4p {m:Md}{a0:Expr}{r:Bool}(hr:z3g a0=some r):Ok Tryz.prog 140 [Expr.x m a0] [] (.d .fz (.b r)) []:=by
 refine Ok.enter rfl Tryz.func140 rfl rfl rfl fun S hS=>?_
 unfold z3g at hr
 refine sr ?_
 refine BX 0 ?_
 refine N1 ?_
 refine ssr ?_
 refine W2 ?_
 refine bdE hr fun y1 hy1 hr=>?_
 refine CB [] [] (q6x hy1) ?_
 refine W1 ?_
 refine bdE hr fun s1 hqq1 hr=>?_
 refine q0h 5 [(1,.pb 0 0),(11,.d .fz (.b s1))] ?_ ?_
 replace hr:=hqq1
 refine ifE hr (fun h1 hr=>?_) fun h1 hr=>?_
 refine VF rfl (bnF h1) ?_
 refine W1 ?_
 refine bdE hr fun y2 hy2 hr=>?_
 refine CB [] [] (j4n (m:=m) hy2) ?_
 refine N2 ?_
 cases hr
 exact q3n
 refine VT rfl (bnT h1) ?_
 iterate 3 refine AL.off ?_
 refine N1 ?_
 cases hr
 exact q3n
 refine N0 ?_
 refine ifE hr (fun h2 hr=>?_) fun h2 hr=>?_
 refine q0f rfl h2 ?_
 refine sr ?_
 refine N1 ?_
 refine AW.ret ?_
 cases hr
 exact q0a [] 0 hS
 refine q0g rfl (bF h2) ?_
 refine q0b ?_
 refine ssr ?_
 refine N2 ?_
 refine AW.block (q0d (q0c ?_))
 refine N2 ?_
 refine ifE hr (fun h3 hr=>?_) fun h3 hr=>?_
 refine q0f rfl (dT h3) ?_
 refine sr ?_
 refine W2 ?_
 refine bdE hr fun y3 hy3 hr=>?_
 refine CB [] [] (q6x hy3) ?_
 refine bdE hr fun s2 hqq2 hr=>?_
 refine q0h 7 [(1,.pb 0 0),(25,.d .fz (.b s2))] ?_ ?_
 replace hr:=hqq2
 refine ifE hr (fun h4 hr=>?_) fun h4 hr=>?_
 refine VT rfl h4 ?_
 refine W4 ?_
 refine bdE hr fun y4 hy4 hr=>?_
 refine CB [] [] (j0Y hy4) ?_
 refine N1 ?_
 cases hr
 exact q3n
 refine VF rfl (bF h4) ?_
 iterate 5 refine AL.off ?_
 refine N1 ?_
 cases hr
 exact q3n
 refine bdE hr fun s3 hqq3 hr=>?_
 refine q0h 5 [(30,.d .fz (.b s3))] ?_ ?_
 replace hr:=hqq3
 refine ifE hr (fun h5 hr=>?_) fun h5 hr=>?_
 refine VT rfl h5 ?_
 refine N4 ?_
 cases hr
 exact q3n
 refine VF rfl (bF h5) ?_
 iterate 3 refine AL.off ?_
 refine N1 ?_
 cases hr
 exact q3n
 refine N1 ?_
 refine AW.ret ?_
 cases hr
 exact q0a [] 0 hS
 refine q0g rfl (dF h3) ?_
 refine sr ?_
 refine N2 ?_
 refine ifE hr (fun h6 hr=>?_) fun h6 hr=>?_
 refine q0f rfl (dT h6) ?_
 refine sr ?_
 refine W2 ?_
 refine bdE hr fun y5 hy5 hr=>?_
 refine CB [] [] (q6x hy5) ?_
 refine bdE hr fun s4 hqq4 hr=>?_
 refine q0h 5 [(40,.d .fz (.b s4))] ?_ ?_
 replace hr:=hqq4
 refine ifE hr (fun h7 hr=>?_) fun h7 hr=>?_
 refine VT rfl h7 ?_
 refine W2 ?_
 refine bdE hr fun y6 hy6 hr=>?_
 refine CB [] [] (q4Q hy6) ?_
 refine N1 ?_
 cases hr
 exact q3n
 refine VF rfl (bF h7) ?_
 iterate 3 refine AL.off ?_
 refine N1 ?_
 cases hr
 exact q3n
 refine N1 ?_
 refine AW.ret ?_
 cases hr
 exact q0a [] 0 hS
 refine q0g rfl (dF h6) ?_
 refine sr ?_
 refine N2 ?_
 refine ifE hr (fun h8 hr=>?_) fun h8 hr=>?_
 refine q0f rfl (dT h8) ?_
 refine sr ?_
 refine W2 ?_
 refine bdE hr fun y7 hy7 hr=>?_
 refine CB [] [] (q6x hy7) ?_
 refine N1 ?_
 refine AW.ret ?_
 cases hr
 exact q0a [] 0 hS
 refine q0g rfl (dF h8) ?_
 refine sr ?_
 refine N2 ?_
 refine ifE hr (fun h9 hr=>?_) fun h9 hr=>?_
 refine q0f rfl (dT h9) ?_
 refine sr ?_
 refine W2 ?_
 refine bdE hr fun y8 hy8 hr=>?_
 refine CB [] [] (q6x hy8) ?_
 refine N1 ?_
 refine AW.ret ?_
 cases hr
 exact q0a [] 0 hS
 refine q0g rfl (dF h9) ?_
 refine sr ?_
 refine N2 ?_
 refine ifE hr (fun h10 hr=>?_) fun h10 hr=>?_
 refine q0f rfl (dT h10) ?_
 refine sr ?_
 refine W2 ?_
 refine bdE hr fun y9 hy9 hr=>?_
 refine CB [] [] (q4Q hy9) ?_
 refine bdE hr fun s5 hqq5 hr=>?_
 refine q0h 5 [(60,.d .fz (.b s5))] ?_ ?_
 replace hr:=hqq5
 refine ifE hr (fun h11 hr=>?_) fun h11 hr=>?_
 refine VT rfl h11 ?_
 refine W2 ?_
 refine bdE hr fun y10 hy10 hr=>?_
 refine CB [] [] (q4Q hy10) ?_
 refine N1 ?_
 cases hr
 exact q3n
 refine VF rfl (bF h11) ?_
 iterate 3 refine AL.off ?_
 refine N1 ?_
 cases hr
 exact q3n
 refine N1 ?_
 refine AW.ret ?_
 cases hr
 exact q0a [] 0 hS
 refine q0g rfl (dF h10) ?_
 refine q0b ?_
 refine sr ?_
 refine N1 ?_
 refine AW.ret ?_
 cases hr
 exact q0a [] 0 hS
def j0Z (rec_sl4All:Expr→Option Bool):Nat→Expr→Unit→Option (Unit ⊕ Bool):=fun k1 xk1 _=>
 (rec_sl4All xk1).bind fun y1=>
 if y1=true then (
 some (.inl ())
 ) else (
 some (.inr false)
 )
def z4T (rec_sl4All:Expr→Option Bool)(a0:Expr):Option Bool:=
 (findL (j0Z rec_sl4All) 0 a0.Args ()).bind <| onr (fun r1=>some r1) fun _=>
 (z3g a0).bind fun y2=>
 some y2
theorem j4q {rec_sl4All:Expr→Option Bool}(ih_sl4All:∀ {m:Md} {a0:Expr} {r:Bool},rec_sl4All a0=some r→Ok Tryz.prog 111 [Expr.x m a0] [] (.d .fz (.b r)) []){m:Md}{a0:Expr}{r:Bool}(hr:z4T rec_sl4All a0=some r):Ok Tryz.prog 111 [Expr.x m a0] [] (.d .fz (.b r)) []:=by
 refine Ok.enter rfl Tryz.func111 rfl rfl rfl fun S hS=>?_
 unfold z4T at hr
 refine sr ?_
 refine BX 0 ?_
 refine N1 ?_
 refine ssr ?_
 refine N1 ?_
 refine AW.block ?_
 refine AW.len (.ag 6 (.tmp 0 rfl) rfl) fun hl1=>?_
 refine bdE hr fun q1 hqq1 hr=>?_
 refine q0k hqq1 hl1 1 (fun k1 _=>[(1,.pb 0 0),(3,.d .fz (.i .i64 (k1:Int)))]) (fun k1 _=>[]) (q0e hS 1) (fun k1 xk1 sk1 ok1 hxk1 hr hltk1 hik1=>?_) fun k1 sk1 ek1 hltk1=>?_
 refine ssr ?_
 refine W3 ?_
 refine LF ?_
 refine N1 ?_
 refine q0f rfl (dT hltk1) ?_
 refine q0b ?_
 refine q0d (AW.block (q0d (q0c ?_)))
 refine W3 ?_
 refine IFq (Int.natCast_nonneg _) hxk1 (Expr.D_cells xk1) ?_
 refine W1 ?_
 refine bdE hr fun y1 hy1 hr=>?_
 refine CB [] [] (ih_sl4All (m:=m) hy1) ?_
 refine N1 ?_
 refine ifE hr (fun h1 hr=>?_) fun h1 hr=>?_
 refine q0g rfl (bnF h1) ?_
 refine q0b ?_
 refine q0c ?_
 refine W1 ?_
 refine OB _ (q3B (p:=k1) (q:=1) (q3m hltk1 hl1)) ?_
 refine N1 ?_
 cases hr
 exact⟨_,rfl,q0e hS 1⟩
 refine q0f rfl (bnT h1) ?_
 refine sr ?_
 refine N1 ?_
 refine AW.ret ?_
 cases hr
 cases hik1 _ rfl
 rename_i hr
 cases hr
 exact q0a [] 0 hS
 subst ek1
 refine ssr ?_
 refine W3 ?_
 refine LF ?_
 refine N1 ?_
 refine q0g rfl (dF hltk1) ?_
 refine q0i ?_
 refine sr ?_
 refine W1 ?_
 refine bdE hr fun y2 hy2 hr=>?_
 refine CB [] [] (j4p (m:=m) hy2) ?_
 refine N1 ?_
 refine AW.ret ?_
 cases hr
 exact q0a [] 0 hS
def z4U:Nat→Expr→Option Bool
  | 0,_=>none
  | n+1,a0=>z4T (z4U n) a0
def z9B (a0:Expr):Option Bool:=recO fun n=>z4U n a0
theorem j4r (n:Nat):∀ {m:Md} {a0:Expr} {r:Bool},z4U n a0=some r→Ok Tryz.prog 111 [Expr.x m a0] [] (.d .fz (.b r)) []:=by
  induction n with
  | zero=>intro _ _ r hr; exact nomatch (show (none:Option Bool)=some r from hr)
  | succ n ih=>intro _ _ r hr; exact j4q ih hr
theorem j5C {m:Md}{a0:Expr}{r:Bool}(hr:z9B a0=some r):Ok Tryz.prog 111 [Expr.x m a0] [] (.d .fz (.b r)) []:=by
 obtain⟨n,hn⟩:=q5a hr
 exact j4r n hn
def q6M (a0:Expr):Option Bool:=
 (z7a a0 24).bind fun y1=>
 (
 if 0≤y1 then (
 (z1J a0).bind fun y2=>
 some (decide (y2≤6))
 ) else (
 some false
 )
 ).bind fun s1=>
 (
 if s1=true then (
 (z9B a0).bind fun y3=>
 some y3
 ) else (
 some false
 )
 ).bind fun s2=>
 some s2
theorem z0Z {m:Md}{a0:Expr}{r:Bool}(hr:q6M a0=some r):Ok Tryz.prog 80 [Expr.x m a0] [] (.d .fz (.b r)) []:=by
 refine Ok.enter rfl Tryz.func80 rfl rfl rfl fun S hS=>?_
 unfold q6M at hr
 refine sr ?_
 refine BX 0 ?_
 refine N1 ?_
 refine sr ?_
 refine W1 ?_
 refine bdE hr fun y1 hy1 hr=>?_
 refine CB [] [] (j4m (m:=m) hy1) ?_
 refine W1 ?_
 refine bdE hr fun s1 hqq1 hr=>?_
 refine q0h 5 [(1,.pb 0 0),(2,.d .fz (.b false)),(10,.d .fz (.b s1))] ?_ ?_
 replace hr:=hqq1
 refine ifE hr (fun h1 hr=>?_) fun h1 hr=>?_
 refine VT rfl (dT h1) ?_
 refine W1 ?_
 refine bdE hr fun y2 hy2 hr=>?_
 refine CB [] [] (z7c (m:=m) hy2) ?_
 refine N2 ?_
 cases hr
 exact q3n
 refine VF rfl (dF h1) ?_
 iterate 3 refine AL.off ?_
 refine N1 ?_
 cases hr
 exact q3n
 refine bdE hr fun s2 hqq2 hr=>?_
 refine q0h 4 [(2,.d .fz (.b false)),(14,.d .fz (.b s2))] ?_ ?_
 replace hr:=hqq2
 refine ifE hr (fun h2 hr=>?_) fun h2 hr=>?_
 refine VT rfl h2 ?_
 refine W1 ?_
 refine bdE hr fun y3 hy3 hr=>?_
 refine CB [] [] (j5C (m:=m) hy3) ?_
 refine N1 ?_
 cases hr
 exact q3n
 refine VF rfl (bF h2) ?_
 iterate 2 refine AL.off ?_
 refine N1 ?_
 cases hr
 exact q3n
 refine N1 ?_
 refine AW.ret ?_
 cases hr
 exact q0a [] 0 hS
def z7e (a1:Grammar)(a2:Rule)(a3:Bool)(o0:l1Cur):Nat→Occurrence→(Int × Int × (List Equation))→Option (Int × Int × (List Equation)):=fun k1 xk1 (s2,s3,s1)=>
 (
 (q4P (⟨a2.Name,a2.Left,a2.Right,a2.Literal,s1,a2.Contributions⟩:Rule) xk1.Pos).bind fun y2=>
 (q4C a1 y2).bind fun (y3,y4)=>
 (q4m y3 xk1.Name).bind fun (y5,y6)=>
 (q3q 3 (⟨o0.b,s2,s3⟩:l1Cur)).bind fun (y7,z1)=>
 grd (I64 (1+y7)) <|
 (z5v a1 (⟨a2.Name,a2.Left,a2.Right,a2.Literal,s1,a2.Contributions⟩:Rule) y5.Type_ (1+y7) a3 (⟨o0.b,z1.i,z1.h⟩:l1Cur)).bind fun (y8,z2)=>
 (q6M y8).bind fun y9=>
 if y9=true then (
 grd (((s1.length:Int)+1)*112≤140737488355328∧(s1.length:Int)+1≤9223372036854775807) <|
 some (z2.i,z2.h,(s1++[(⟨xk1,y8⟩:Equation)]))
 ) else (
 (q5S y5.Type_ [] (⟨o0.b,z2.i,z2.h⟩:l1Cur)).bind fun (y10,z3)=>
 grd (((s1.length:Int)+1)*112≤140737488355328∧(s1.length:Int)+1≤9223372036854775807) <|
 some (z3.i,z3.h,(s1++[(⟨xk1,y10⟩:Equation)]))
 )
 ).bind fun (s5,s6,s4)=>
 some (s5,s6,s4)
def z1Y (a1:Grammar)(a2:Rule)(a3:Bool)(o0:l1Cur):Option (Rule × l1Cur):=
 (q4K a1 a2).bind fun y1=>
 (eachL (z7e a1 a2 a3 o0) 0 y1 (o0.i,o0.h,a2.Equations)).bind fun (s2,s3,s1)=>
 some ((⟨a2.Name,a2.Left,a2.Right,a2.Literal,s1,a2.Contributions⟩:Rule),(⟨o0.b,s2,s3⟩:l1Cur))
theorem j2k {m:Md}{m2:Md}{a1:Grammar}{a2:Rule}{a3:Bool}{o0:l1Cur}{r:(Rule × l1Cur)}(hr:z1Y a1 a2 a3 o0=some r):Ok Tryz.prog 75 [.pb 0 0,Grammar.y m a1,.ag [.d .fz (.s a2.Name),.d .fz (.s a2.Left),.ref 1 none,.d .fz (.b a2.Literal),.ref 2 none,.ref 3 none],.d .fz (.b a3)] [.box [.d .fz (.sl 1 (o0.b.map byD)),.d .fz (.i .i64 o0.i),.d .fz (.i .i64 o0.h)],.row .fz 1 (a2.Right.map A.D.s),.row m2 9 (a2.Equations.map Equation.D),.row m2 16 (a2.Contributions.map Contribution.D)] (.ag [.d .fz (.s r.1.Name),.d .fz (.s r.1.Left),.ref 1 none,.d .fz (.b r.1.Literal),.ref 4 none,.ref 3 none]) [.box [.d .fz (.sl 1 (o0.b.map byD)),.d .fz (.i .i64 r.2.i),.d .fz (.i .i64 r.2.h)],.row .fz 1 (r.1.Right.map A.D.s),.dead,.row m2 16 (r.1.Contributions.map Contribution.D),.row m2 9 (r.1.Equations.map Equation.D)]:=by
 refine Ok.enter rfl Tryz.func75 rfl rfl rfl fun S hS=>?_
 unfold z1Y at hr
 refine sr ?_
 refine BX 4 ?_
 refine BX 5 ?_
 refine NV 6 ?_
 refine N0 ?_
 refine sr ?_
 refine W2 ?_
 refine bdE hr fun y1 hy1 hr=>?_
 refine CB [(0,7)] [1,2,3] (q7m (m:=.bo) hy1) ?_
 refine N1 ?_
 refine ssr ?_
 refine N1 ?_
 refine AW.block ?_
 refine q2A 2 8 rfl ?_
 refine q0r 7 rfl fun hl1=>?_
 refine bdE hr fun q1 hqq1 hr=>?_
 obtain⟨s2,s3,s1⟩:=q1
 refine q0o hqq1 hl1 9 (fun k1 (s2,s3,s1)=>[(0,.pb 0 0),(3,.d .fz (.b a3)),(5,.pb 4 0),(6,.pb 5 0),(8,.pb 6 0),(9,.ref 7 none),(10,.d .fz (.i .i64 (k1:Int)))]) (fun k1 (s2,s3,s1)=>[(0,.box [.d .fz (.sl 1 (o0.b.map byD)),.d .fz (.i .i64 s2),.d .fz (.i .i64 s3)]),(8,.row m2 9 (s1.map Equation.D))]) (GH.trans (q0m (q:=4) [.d m (.sl 2 (a1.Symbols.map Symbol.D)),.u] (.cons .rfl (.cons .u .nil)) rfl) (q0e hS 9)) (fun k1 xk1 sk1 ok1 hxk1 hr hltk1=>?_) fun k1 hltk1=>?_
 obtain⟨s2,s3,s1⟩:=sk1
 refine ssr ?_
 refine W2 ?_
 refine LE ?_
 refine N1 ?_
 refine q0f rfl (dT hltk1) ?_
 refine q0b ?_
 refine bdE hr fun q2 hqq2 hr=>?_
 obtain⟨s5,s6,s4⟩:=q2
 refine q0d (q0n 10 [(0,.pb 0 0),(3,.d .fz (.b a3)),(5,.pb 4 0),(6,.pb 5 0),(8,.pb 6 0),(9,.ref 7 none),(10,.d .fz (.i .i64 (k1:Int)))] [(0,.box [.d .fz (.sl 1 (o0.b.map byD)),.d .fz (.i .i64 s5),.d .fz (.i .i64 s6)]),(5,.box [.d .fz (.s a2.Name),.d .fz (.s a2.Left),.ref 1 none,.d .fz (.b a2.Literal),.ref 9 none,.ref 3 none]),(8,.none),(9,.row m2 9 (s4.map Equation.D))] ?_ ?_)
 replace hr:=hqq2
 refine AW.block (q0d (q0j (h:=?_)))
 refine W4 ?_
 refine IE hxk1 (Int.natCast_nonneg _) ?_
 refine W1 ?_
 refine LP hxk1 ?_
 refine bdE hr fun y2 hy2 hr=>?_
 refine CB [] [1,8,3] (q6F (m:=.bo) hy2) ?_
 refine bdE hr fun q3 hq3 hr=>?_
 obtain⟨y3,y4⟩:=q3
 refine CB [(0,9)] [] (q5C (m:=m) hq3) ?_
 refine W3 ?_
 refine NV 10 ?_
 refine SB ?_
 refine N1 ?_
 refine q0d (q0j (h:=?_))
 refine W3 ?_
 refine IE hxk1 (Int.natCast_nonneg _) ?_
 refine W1 ?_
 refine LP hxk1 ?_
 refine bdE hr fun q4 hq4 hr=>?_
 obtain⟨y5,y6⟩:=q4
 refine CB [] [9] (q6U (m:=.bo) hq4) ?_
 refine W3 ?_
 refine NV 11 ?_
 refine SB ?_
 refine N1 ?_
 refine q0d (q0j (h:=?_))
 refine W5 ?_
 refine W1 ?_
 refine bdE hr fun q5 hq5 hr=>?_
 obtain⟨y7,z1⟩:=q5
 refine CB [(0,0)] [] (q3s hq5) ?_
 refine ggE hr fun g1 hr=>?_
 refine OB _ (bAdd g1) ?_
 refine W1 ?_
 refine bdE hr fun q6 hq6 hr=>?_
 obtain⟨y8,z2⟩:=q6
 refine CB [(0,0),(1,12)] [1,8,3] (j2f (m:=.bo) hq6) ?_
 refine NV 13 ?_
 refine SB ?_
 refine N0 ?_
 refine ssr ?_
 refine W1 ?_
 refine bdE hr fun y9 hy9 hr=>?_
 refine CB [] [12] (z0Z (m:=.bo) hy9) ?_
 refine N1 ?_
 refine ifE hr (fun h1 hr=>?_) fun h1 hr=>?_
 refine q0g rfl (bnF h1) ?_
 refine q0b ?_
 refine AW.fz 12 rfl ?_
 refine q0j (h:=?_)
 refine W4 ?_
 refine IE hxk1 (Int.natCast_nonneg _) ?_
 refine LPa hxk1 ?_
 refine W2 ?_
 refine LIR 14 (m:=.fz) (f:=Equation.D) (xs:=[(⟨xk1,y8⟩:Equation)]) ?_
 refine ggE hr fun g2 hr=>?_
 refine AP1 15 m2 112 g2 ?_
 refine W1 ?_
 refine SB ?_
 refine N0 ?_
 cases hr
 exact GH.trans (q0m (q:=4) [.d m (.sl 2 (a1.Symbols.map Symbol.D)),.u] (.cons .rfl (.cons .u .nil)) rfl) (q0l hS [(0,0),(1,1),(2,2),(3,3),(4,4),(5,5),(6,6),(7,7),(15,9)] 10)
 refine q0f rfl (bnT h1) ?_
 refine q0c ?_
 refine W3 ?_
 refine L0 14 Occurrence.D ?_
 refine bdE hr fun q7 hq7 hr=>?_
 obtain⟨y10,z3⟩:=q7
 refine CB [(0,0),(1,15)] [14] (q6V (m:=.bo) hq7) ?_
 refine SB ?_
 refine N0 ?_
 refine AW.fz 15 rfl ?_
 refine q0j (h:=?_)
 refine W4 ?_
 refine IE hxk1 (Int.natCast_nonneg _) ?_
 refine LPa hxk1 ?_
 refine W2 ?_
 refine LIR 16 (m:=.fz) (f:=Equation.D) (xs:=[(⟨xk1,y10⟩:Equation)]) ?_
 refine ggE hr fun g3 hr=>?_
 refine AP1 17 m2 112 g3 ?_
 refine W1 ?_
 refine SB ?_
 refine N0 ?_
 cases hr
 exact GH.trans (q0m (q:=4) [.d m (.sl 2 (a1.Symbols.map Symbol.D)),.u] (.cons .rfl (.cons .u .nil)) rfl) (q0l hS [(0,0),(1,1),(2,2),(3,3),(4,4),(5,5),(6,6),(7,7),(17,9)] 10)
 refine q0c ?_
 refine W1 ?_
 refine OB _ (q3B (p:=k1) (q:=1) (q3m hltk1 hl1)) ?_
 refine N1 ?_
 cases hr
 exact GH.trans (q0m (q:=4) [.d m (.sl 2 (a1.Symbols.map Symbol.D)),.u] (.cons .rfl (.cons .u .nil)) rfl) (q0l hS [(0,0),(1,1),(2,2),(3,3),(4,4),(5,5),(6,6),(7,7),(9,8)] 9)
 refine ssr ?_
 refine W2 ?_
 refine LE ?_
 refine N1 ?_
 refine q0g rfl (dF hltk1) ?_
 refine q0i ?_
 refine sr ?_
 refine W1 ?_
 refine SB ?_
 refine N0 ?_
 refine AW.ret ?_
 cases hr
 exact q0a [(0,0),(1,1),(2,2),(3,3),(8,4)] 5 hS
def z8P (a1:Grammar)(a2:Rule)(o0:l1Cur)(xk1:Symbol):Nat→Attribute→(Int × Int × (List Contribution))→Option (Int × Int × (List Contribution)):=fun k2 xk2 (s4,s5,s6)=>
 (
 (
 if xk2.Mode=3 then (
 some (decide ((s6.length:Int) < 2))
 ) else (
 some false
 )
 ).bind fun s10=>
 (
 if s10=true then (
 (q4g 3 (⟨o0.b,s4,s5⟩:l1Cur)).bind fun (y1,z1)=>
 some (!y1,z1.i,z1.h)
 ) else (
 some (false,s4,s5)
 )
 ).bind fun (s14,s15,s16)=>
 if s14=true then (
 (q8W a1 (⟨a2.Name,a2.Left,a2.Right,a2.Literal,a2.Equations,s6⟩:Rule) 4).bind fun y2=>
 (q5S 4 y2 (⟨o0.b,s15,s16⟩:l1Cur)).bind fun (y3,z2)=>
 (q8W a1 (⟨a2.Name,a2.Left,a2.Right,a2.Literal,a2.Equations,s6⟩:Rule) 2).bind fun y4=>
 (q5S 2 y4 (⟨o0.b,z2.i,z2.h⟩:l1Cur)).bind fun (y5,z3)=>
 grd (((s6.length:Int)+1)*208≤140737488355328∧(s6.length:Int)+1≤9223372036854775807) <|
 some (z3.i,z3.h,(s6++[(⟨xk1.Name,xk2.Name,y3,y5⟩:Contribution)]))
 ) else (
 some (s15,s16,s6)
 )
 ).bind fun (s8,s9,s7)=>
 some (s8,s9,s7)
def z8Q (a1:Grammar)(a2:Rule)(o0:l1Cur):Nat→Symbol→(Int × Int × (List Contribution))→Option (Int × Int × (List Contribution)):=fun k1 xk1 (s1,s2,s3)=>
 (eachL (z8P a1 a2 o0 xk1) 0 xk1.Attributes (s1,s2,s3)).bind fun (s4,s5,s6)=>
 some (s4,s5,s6)
def z3h (a1:Grammar)(a2:Rule)(o0:l1Cur):Option (Rule × l1Cur):=
 (eachL (z8Q a1 a2 o0) 0 a1.Symbols (o0.i,o0.h,a2.Contributions)).bind fun (s1,s2,s3)=>
 some ((⟨a2.Name,a2.Left,a2.Right,a2.Literal,a2.Equations,s3⟩:Rule),(⟨o0.b,s1,s2⟩:l1Cur))
theorem j4s {m:Md}{m2:Md}{a1:Grammar}{a2:Rule}{o0:l1Cur}{r:(Rule × l1Cur)}(hr:z3h a1 a2 o0=some r):Ok Tryz.prog 76 [.pb 0 0,Grammar.y m a1,.ag [.d .fz (.s a2.Name),.d .fz (.s a2.Left),.ref 1 none,.d .fz (.b a2.Literal),.ref 2 none,.ref 3 none]] [.box [.d .fz (.sl 1 (o0.b.map byD)),.d .fz (.i .i64 o0.i),.d .fz (.i .i64 o0.h)],.row .fz 1 (a2.Right.map A.D.s),.row m2 9 (a2.Equations.map Equation.D),.row m2 16 (a2.Contributions.map Contribution.D)] (.ag [.d .fz (.s r.1.Name),.d .fz (.s r.1.Left),.ref 1 none,.d .fz (.b r.1.Literal),.ref 2 none,.ref 4 none]) [.box [.d .fz (.sl 1 (o0.b.map byD)),.d .fz (.i .i64 r.2.i),.d .fz (.i .i64 r.2.h)],.row .fz 1 (r.1.Right.map A.D.s),.row m2 9 (r.1.Equations.map Equation.D),.dead,.row m2 16 (r.1.Contributions.map Contribution.D)]:=by
 refine Ok.enter rfl Tryz.func76 rfl rfl rfl fun S hS=>?_
 unfold z3h at hr
 refine sr ?_
 refine BX 4 ?_
 refine BX 5 ?_
 refine NV 6 ?_
 refine N0 ?_
 refine ssr ?_
 refine N1 ?_
 refine AW.block ?_
 refine q2A 3 7 rfl ?_
 refine AW.len (.ag 0 (.tmp 1 rfl) rfl) fun hl1=>?_
 refine bdE hr fun q1 hqq1 hr=>?_
 obtain⟨s1,s2,s3⟩:=q1
 refine q0o hqq1 hl1 8 (fun k1 (s1,s2,s3)=>[(0,.pb 0 0),(4,.pb 4 0),(5,.pb 5 0),(6,.pb 6 0),(7,.d .fz (.i .i64 (k1:Int)))]) (fun k1 (s1,s2,s3)=>[(0,.box [.d .fz (.sl 1 (o0.b.map byD)),.d .fz (.i .i64 s1),.d .fz (.i .i64 s2)]),(7,.row m2 16 (s3.map Contribution.D))]) (GH.trans (q0m (q:=4) [.d m (.sl 2 (a1.Symbols.map Symbol.D)),.u] (.cons .rfl (.cons .u .nil)) rfl) (q0e hS 8)) (fun k1 xk1 sk1 ok1 hxk1 hr hltk1=>?_) fun k1 hltk1=>?_
 obtain⟨s1,s2,s3⟩:=sk1
 refine ssr ?_
 refine W3 ?_
 refine LF ?_
 refine N1 ?_
 refine q0f rfl (dT hltk1) ?_
 refine q0b ?_
 refine q0d (AW.block (q0d (q0c ?_)))
 refine N1 ?_
 refine AW.block ?_
 refine AW.len (.el 1 (.tmp 12 rfl) hxk1 rfl) fun hl2=>?_
 refine bdE hr fun q2 hqq2 hr=>?_
 obtain⟨s4,s5,s6⟩:=q2
 refine q0o hqq2 hl2 8 (fun k2 (s4,s5,s6)=>[(0,.pb 0 0),(4,.pb 4 0),(5,.pb 5 0),(6,.pb 6 0),(7,.d .fz (.i .i64 (k1:Int))),(8,.d .fz (.i .i64 (k2:Int)))]) (fun k2 (s4,s5,s6)=>[(0,.box [.d .fz (.sl 1 (o0.b.map byD)),.d .fz (.i .i64 s4),.d .fz (.i .i64 s5)]),(7,.row m2 16 (s6.map Contribution.D))]) (GH.trans (q0m (q:=4) [.d m (.sl 2 (a1.Symbols.map Symbol.D)),.u] (.cons .rfl (.cons .u .nil)) rfl) (q0e hS 8)) (fun k2 xk2 sk2 ok2 hxk2 hr hltk2=>?_) fun k2 hltk2=>?_
 obtain⟨s4,s5,s6⟩:=sk2
 refine ssr ?_
 refine W4 ?_
 refine IF (Int.natCast_nonneg _) hxk1 ?_
 refine W2 ?_
 refine LF ?_
 refine N1 ?_
 refine q0f rfl (dT hltk2) ?_
 refine q0b ?_
 refine bdE hr fun q3 hqq3 hr=>?_
 obtain⟨s8,s9,s7⟩:=q3
 refine q0d (q0n 8 [(0,.pb 0 0),(4,.pb 4 0),(5,.pb 5 0),(6,.pb 6 0),(7,.d .fz (.i .i64 (k1:Int))),(8,.d .fz (.i .i64 (k2:Int)))] [(0,.box [.d .fz (.sl 1 (o0.b.map byD)),.d .fz (.i .i64 s8),.d .fz (.i .i64 s9)]),(7,.row m2 16 (s7.map Contribution.D))] ?_ ?_)
 replace hr:=hqq3
 refine AW.block (q0d (q0c ?_))
 refine W3 ?_
 refine IF (Int.natCast_nonneg _) hxk1 ?_
 refine W3 ?_
 refine IF (Int.natCast_nonneg _) hxk2 ?_
 refine W1 ?_
 refine NV 8 ?_
 refine SB ?_
 refine N0 ?_
 refine sr ?_
 refine W3 ?_
 refine bdE hr fun s10 hqq4 hr=>?_
 refine q0h 6 [(0,.pb 0 0),(4,.pb 4 0),(5,.pb 5 0),(6,.pb 6 0),(7,.d .fz (.i .i64 (k1:Int))),(8,.d .fz (.i .i64 (k2:Int))),(9,.pb 8 0),(45,.d .fz (.b s10))] ?_ ?_
 replace hr:=hqq4
 refine ifE hr (fun h1 hr=>?_) fun h1 hr=>?_
 refine VT rfl (dT h1) ?_
 refine W2 ?_
 refine LE ?_
 refine N2 ?_
 cases hr
 exact q3n
 refine VF rfl (dF h1) ?_
 iterate 4 refine AL.off ?_
 refine N1 ?_
 cases hr
 exact q3n
 refine bdE hr fun q5 hqq5 hr=>?_
 obtain⟨s14,s15,s16⟩:=q5
 refine q0A 5 9 [(0,.pb 0 0),(4,.pb 4 0),(5,.pb 5 0),(6,.pb 6 0),(7,.d .fz (.i .i64 (k1:Int))),(8,.d .fz (.i .i64 (k2:Int))),(9,.pb 8 0),(50,.d .fz (.b s14))] [(0,.box [.d .fz (.sl 1 (o0.b.map byD)),.d .fz (.i .i64 s15),.d .fz (.i .i64 s16)])] ?_ ?_
 replace hr:=hqq5
 refine ifE hr (fun h2 hr=>?_) fun h2 hr=>?_
 refine VT rfl h2 ?_
 refine W1 ?_
 refine bdE hr fun q6 hq6 hr=>?_
 obtain⟨y1,z1⟩:=q6
 refine CB [(0,0)] [] (q4y hq6) ?_
 refine N2 ?_
 cases hr
 exact GH.trans (q0m (q:=4) [.d m (.sl 2 (a1.Symbols.map Symbol.D)),.u] (.cons .rfl (.cons .u .nil)) rfl) (q0e hS 9)
 refine VF rfl (bF h2) ?_
 iterate 3 refine AL.off ?_
 refine N1 ?_
 cases hr
 exact GH.trans (q0m (q:=4) [.d m (.sl 2 (a1.Symbols.map Symbol.D)),.u] (.cons .rfl (.cons .u .nil)) rfl) (q0e hS 9)
 refine N0 ?_
 refine ifE hr (fun h3 hr=>?_) fun h3 hr=>?_
 refine q0f rfl h3 ?_
 refine q0j (h:=?_)
 refine W5 ?_
 refine IF (Int.natCast_nonneg _) hxk1 ?_
 refine W5 ?_
 refine W2 ?_
 refine bdE hr fun y2 hy2 hr=>?_
 refine CB [(0,9)] [1,2,7] (z0U (m:=.bo) hy2) ?_
 refine bdE hr fun q7 hq7 hr=>?_
 obtain⟨y3,z2⟩:=q7
 refine CBz 10 [(0,0),(1,10)] [9] (q6V (m:=.bo) hq7) ?_
 refine W3 ?_
 refine bdE hr fun y4 hy4 hr=>?_
 refine CB [(0,11)] [1,2,7] (z0U (m:=.bo) hy4) ?_
 refine bdE hr fun q8 hq8 hr=>?_
 obtain⟨y5,z3⟩:=q8
 refine CBz 12 [(0,0),(1,12)] [11] (q6V (m:=.bo) hq8) ?_
 refine W1 ?_
 refine LIR 13 (m:=.fz) (f:=Contribution.D) (xs:=[(⟨xk1.Name,xk2.Name,y3,y5⟩:Contribution)]) ?_
 refine ggE hr fun g1 hr=>?_
 refine AP1 14 m2 208 g1 ?_
 refine W1 ?_
 refine SB ?_
 refine N0 ?_
 cases hr
 exact GH.trans (q0m (q:=4) [.d m (.sl 2 (a1.Symbols.map Symbol.D)),.u] (.cons .rfl (.cons .u .nil)) rfl) (q0l hS [(0,0),(1,1),(2,2),(3,3),(4,4),(5,5),(6,6),(14,7)] 8)
 refine q0g rfl (bF h3) ?_
 refine q0b ?_
 cases hr
 exact GH.trans (q0m (q:=4) [.d m (.sl 2 (a1.Symbols.map Symbol.D)),.u] (.cons .rfl (.cons .u .nil)) rfl) (q0e hS 8)
 refine q0c ?_
 refine W1 ?_
 refine OB _ (q3B (p:=k2) (q:=1) (q3m hltk2 hl2)) ?_
 refine N1 ?_
 cases hr
 exact GH.trans (q0m (q:=4) [.d m (.sl 2 (a1.Symbols.map Symbol.D)),.u] (.cons .rfl (.cons .u .nil)) rfl) (q0e hS 8)
 refine ssr ?_
 refine W4 ?_
 refine IF (Int.natCast_nonneg _) hxk1 ?_
 refine W2 ?_
 refine LF ?_
 refine N1 ?_
 refine q0g rfl (dF hltk2) ?_
 refine q0i ?_
 refine q0c ?_
 refine W1 ?_
 refine OB _ (q3B (p:=k1) (q:=1) (q3m hltk1 hl1)) ?_
 refine N1 ?_
 cases hr
 exact GH.trans (q0m (q:=4) [.d m (.sl 2 (a1.Symbols.map Symbol.D)),.u] (.cons .rfl (.cons .u .nil)) rfl) (q0e hS 8)
 refine ssr ?_
 refine W3 ?_
 refine LF ?_
 refine N1 ?_
 refine q0g rfl (dF hltk1) ?_
 refine q0i ?_
 refine sr ?_
 refine W1 ?_
 refine SB ?_
 refine N0 ?_
 refine AW.ret ?_
 cases hr
 exact q0a [(0,0),(1,1),(2,2),(3,3),(7,4)] 5 hS
def z7f (a1:Bool)(o0:l1Cur)(y1:Int):Nat→(Int × Int × (List Symbol))→Option (Int × Int × (List Symbol)):=fun k1 (s2,s3,s1)=>
 (([(⟨#[115]⟩:ByteArray),(⟨#[116]⟩:ByteArray),(⟨#[117]⟩:ByteArray)].take ((1+y1).toNat))[k1]?).bind fun x1=>
 (z1W x1 (decide ((k1:Int)=0)) a1 (⟨o0.b,s2,s3⟩:l1Cur)).bind fun (y2,z2)=>
 grd (((s1.length:Int)+1)*40≤140737488355328∧(s1.length:Int)+1≤9223372036854775807) <|
 some (z2.i,z2.h,(s1++[y2]))
def z7g (o0:l1Cur)(y1:Int):Nat→(Int × Int × (List ByteArray))→Option (Int × Int × (List ByteArray)):=fun k4 (s11,s12,s10)=>
 (q6n ([(⟨#[115]⟩:ByteArray),(⟨#[116]⟩:ByteArray),(⟨#[117]⟩:ByteArray)].take ((1+y1).toNat)) (⟨o0.b,s11,s12⟩:l1Cur)).bind fun (y8,z7)=>
 grd (((s10.length:Int)+1)*16≤140737488355328∧(s10.length:Int)+1≤9223372036854775807) <|
 some (z7.i,z7.h,(s10++[y8]))
def z7h (o0:l1Cur)(y1:Int)(x2:ByteArray):Nat→(Int × Int × (List Rule))→Option (Int × Int × (List Rule)):=fun k3 (s8,s9,s7)=>
 grd ((⟨#[112]⟩:ByteArray).size+x2.size≤9223372036854775807) <|
 (q8O (k3:Int)).bind fun y5=>
 grd (((⟨#[112]⟩:ByteArray)++x2).size+y5.size≤9223372036854775807) <|
 (q4g 4 (⟨o0.b,s8,s9⟩:l1Cur)).bind fun (y6,z5)=>
 (q3q 3 (⟨o0.b,z5.i,z5.h⟩:l1Cur)).bind fun (y7,z6)=>
 grd (I64 (1+y7)) <|
 (eachN (z7g o0 y1) 0 (1+y7).toNat (z6.i,z6.h,([]:List ByteArray))).bind fun (s11,s12,s10)=>
 grd (((s7.length:Int)+1)*112≤140737488355328∧(s7.length:Int)+1≤9223372036854775807) <|
 some (s11,s12,(s7++[(⟨(((⟨#[112]⟩:ByteArray)++x2)++y5),x2,s10,y6,[],[]⟩:Rule)]))
def z7i (o0:l1Cur)(y1:Int):Nat→(Int × Int × (List Rule))→Option (Int × Int × (List Rule)):=fun k2 (s5,s6,s4)=>
 (([(⟨#[115]⟩:ByteArray),(⟨#[116]⟩:ByteArray),(⟨#[117]⟩:ByteArray)].take ((1+y1).toNat))[k2]?).bind fun x2=>
 grd ((⟨#[108,101,97,102]⟩:ByteArray).size+x2.size≤9223372036854775807) <|
 (q4g 3 (⟨o0.b,s5,s6⟩:l1Cur)).bind fun (y3,z3)=>
 grd (((s4.length:Int)+1)*112≤140737488355328∧(s4.length:Int)+1≤9223372036854775807) <|
 (q3q 2 (⟨o0.b,z3.i,z3.h⟩:l1Cur)).bind fun (y4,z4)=>
 grd (I64 (1+y4)) <|
 (eachN (z7h o0 y1 x2) 0 (1+y4).toNat (z4.i,z4.h,(s4++[(⟨((⟨#[108,101,97,102]⟩:ByteArray)++x2),x2,[],!y3,[],[]⟩:Rule)]))).bind fun (s8,s9,s7)=>
 some (s8,s9,s7)
def z4r (a1:Bool)(o0:l1Cur)(s1:List Symbol):(Int × Int × Int × (List Rule))→Option ((Int × Int × Int × (List Rule)) ⊕ (Int × Int × (List Rule))):=fun (s17,s18,s19,s20)=>
 if s17 < (s20.length:Int) then (
 (
 grd (0≤s17) <|
 (s20[s17.toNat]?).bind fun x3=>
 (z1Y (⟨s1,s20⟩:Grammar) x3 (!a1) (⟨o0.b,s18,s19⟩:l1Cur)).bind fun (y9,z8)=>
 if a1=true then (
 some (z8.i,z8.h,(List.set s20 s17.toNat y9))
 ) else (
 (z3h (⟨s1,s20⟩:Grammar) y9 (⟨o0.b,z8.i,z8.h⟩:l1Cur)).bind fun (y10,z9)=>
 some (z9.i,z9.h,(List.set s20 s17.toNat y10))
 )
 ).bind fun (s21,s22,s23)=>
 grd (I64 (s17+1)) <|
 some (.inl ((s17+1),s21,s22,s23))
 ) else (
 some (.inr (s18,s19,s20))
 )
def z0K (a1:Bool)(o0:l1Cur):Option (Grammar × l1Cur):=
 (q3q 3 o0).bind fun (y1,z1)=>
 grd (I64 (1+y1)) <|
 grd (0≤(1+y1)) <|
 grd ((1+y1).toNat≤[(⟨#[115]⟩:ByteArray),(⟨#[116]⟩:ByteArray),(⟨#[117]⟩:ByteArray)].length) <|
 (eachN (z7f a1 o0 y1) 0 (1+y1).toNat (z1.i,z1.h,([]:List Symbol))).bind fun (s2,s3,s1)=>
 (eachN (z7i o0 y1) 0 (1+y1).toNat (s2,s3,([]:List Rule))).bind fun (s5,s6,s4)=>
 (
 if 8 < (s4.length:Int) then (
 grd (8≤s4.length) <|
 some (s4.take 8)
 ) else (
 some s4
 )
 ).bind fun s13=>
 (q5m (z4r a1 o0 s1) (0,s5,s6,s13)).bind fun (s14,s15,s16)=>
 some ((⟨s1,s16⟩:Grammar),(⟨o0.b,s14,s15⟩:l1Cur))
theorem z7j {a1:Bool}{o0:l1Cur}{r:(Grammar × l1Cur)}(hr:z0K a1 o0=some r):Ok Tryz.prog 37 [.pb 0 0,.d .fz (.b a1)] [.box [.d .fz (.sl 1 (o0.b.map byD)),.d .fz (.i .i64 o0.i),.d .fz (.i .i64 o0.h)]] (.ag [.ref 1 none,.ref 2 none]) [.box [.d .fz (.sl 1 (o0.b.map byD)),.d .fz (.i .i64 r.2.i),.d .fz (.i .i64 r.2.h)],.deep .fz 2 (r.1.Symbols.map Symbol.O) [],.deep .fz 6 (r.1.Rules.map Rule.O) []]:=by
 refine Ok.enter rfl Tryz.func37 rfl rfl rfl fun S hS=>?_
 unfold z0K at hr
 refine sr ?_
 refine NV 1 ?_
 refine N0 ?_
 refine sr ?_
 refine W1 ?_
 refine NV 2 ?_
 refine SB ?_
 refine N0 ?_
 refine sr ?_
 refine W1 ?_
 refine bdE hr fun q1 hq1 hr=>?_
 obtain⟨y1,z1⟩:=q1
 refine CB [(0,0)] [] (q3s hq1) ?_
 refine ggE hr fun g1 hr=>?_
 refine OB _ (bAdd g1) ?_
 refine N1 ?_
 refine sr ?_
 refine LIR 3 (m:=.fz) (f:=A.D.s) (xs:=[(⟨#[115]⟩:ByteArray),(⟨#[116]⟩:ByteArray),(⟨#[117]⟩:ByteArray)]) ?_
 refine W1 ?_
 refine ggE hr fun g2 hr=>?_
 refine ggE hr fun g3 hr=>?_
 refine CU 4 g2 g3 ?_
 refine N1 ?_
 refine ssr ?_
 refine N1 ?_
 refine AW.block ?_
 refine q0C 2 0 5 .fz 2 rfl rfl ?_
 refine q3j 5 Symbol.O ?_
 refine q0w (.tmp 6 rfl) fun hl1=>?_
 refine bdE hr fun q2 hqq2 hr=>?_
 obtain⟨s2,s3,s1⟩:=q2
 refine q0s hqq2 6 (fun k1 (s2,s3,s1)=>[(0,.pb 0 0),(1,.d .fz (.b a1)),(4,.pb 1 0),(5,.pb 2 0),(6,.d .fz (.i .i64 (1+y1))),(7,.ref 4 none),(8,.d .fz (.i .i64 (k1:Int)))]) (fun k1 (s2,s3,s1)=>[(0,.box [.d .fz (.sl 1 (o0.b.map byD)),.d .fz (.i .i64 s2),.d .fz (.i .i64 s3)]),(3,.none),(5,.deep .fz 2 (s1.map Symbol.O) [])]) (q0l hS [(0,0),(1,1),(2,2),(4,4),(5,5)] 6) (fun k1 sk1 ok1 hr hltk1=>?_) ?_
 obtain⟨s2,s3,s1⟩:=sk1
 refine ssr ?_
 refine N3 ?_
 refine q0f rfl (dT (ltI hltk1)) ?_
 refine q0b ?_
 refine q0d (AW.block (q0j (h:=?_)))
 refine W5 ?_
 refine bdE hr fun x1 hx1 hr=>?_
 refine IE hx1 (Int.natCast_nonneg _) ?_
 refine LP hx1 ?_
 refine W3 ?_
 refine bdE hr fun q3 hq3 hr=>?_
 obtain⟨y2,z2⟩:=q3
 refine CB [(0,0),(1,6)] [] (z8O hq3) ?_
 refine LID (f:=Symbol.O) 7 y2 [6] ?_
 refine ggE hr fun g4 hr=>?_
 refine APD1 8 40 g4 ?_
 refine W1 ?_
 refine SB ?_
 refine N0 ?_
 refine q0c ?_
 refine W1 ?_
 refine OB _ (q3B (p:=k1) (q:=1) (q3m (ltI hltk1) hl1.2)) ?_
 refine N1 ?_
 cases hr
 exact q0l hS [(0,0),(1,1),(2,2),(4,4),(8,5)] 6
 refine ssr ?_
 refine N3 ?_
 refine q0g rfl (dF geI) ?_
 refine q0i ?_
 refine ssr ?_
 refine N1 ?_
 refine AW.block ?_
 refine q0C 2 1 6 .fz 6 rfl rfl ?_
 refine q3j 6 Rule.O ?_
 refine q0w (.tmp 6 rfl) fun hl2=>?_
 refine bdE hr fun q4 hqq4 hr=>?_
 obtain⟨s5,s6,s4⟩:=q4
 refine q0s hqq4 7 (fun k2 (s5,s6,s4)=>[(0,.pb 0 0),(1,.d .fz (.b a1)),(4,.pb 1 0),(5,.pb 2 0),(6,.d .fz (.i .i64 (1+y1))),(7,.ref 4 none),(9,.d .fz (.i .i64 (k2:Int)))]) (fun k2 (s5,s6,s4)=>[(0,.box [.d .fz (.sl 1 (o0.b.map byD)),.d .fz (.i .i64 s5),.d .fz (.i .i64 s6)]),(6,.deep .fz 6 (s4.map Rule.O) [])]) (q0l hS [(0,0),(1,1),(2,2),(4,4),(5,5),(6,6)] 7) (fun k2 sk2 ok2 hr hltk2=>?_) ?_
 obtain⟨s5,s6,s4⟩:=sk2
 refine ssr ?_
 refine N3 ?_
 refine q0f rfl (dT (ltI hltk2)) ?_
 refine q0b ?_
 refine q0d (AW.block (q0d (q0j (h:=?_))))
 refine W4 ?_
 refine bdE hr fun x2 hx2 hr=>?_
 refine IE hx2 (Int.natCast_nonneg _) ?_
 refine LP hx2 ?_
 refine ggE hr fun g5 hr=>?_
 refine OB _ (j4h g5) ?_
 refine W2 ?_
 refine IE hx2 (Int.natCast_nonneg _) ?_
 refine LP hx2 ?_
 refine W1 ?_
 refine bdE hr fun q5 hq5 hr=>?_
 obtain⟨y3,z3⟩:=q5
 refine CB [(0,0)] [] (q4y hq5) ?_
 refine W2 ?_
 refine LID (f:=Rule.O) 7 (⟨((⟨#[108,101,97,102]⟩:ByteArray)++x2),x2,[],!y3,[],[]⟩:Rule) [] ?_
 refine ggE hr fun g6 hr=>?_
 refine APD1 8 112 g6 ?_
 refine W1 ?_
 refine SB ?_
 refine N0 ?_
 refine sr ?_
 refine W1 ?_
 refine bdE hr fun q6 hq6 hr=>?_
 obtain⟨y4,z4⟩:=q6
 refine CB [(0,0)] [] (q3s hq6) ?_
 refine ggE hr fun g7 hr=>?_
 refine OB _ (bAdd g7) ?_
 refine N1 ?_
 refine sr ?_
 refine N1 ?_
 refine AW.block ?_
 refine q0w (.tmp 10 rfl) fun hl3=>?_
 refine bdE hr fun q7 hqq7 hr=>?_
 obtain⟨s8,s9,s7⟩:=q7
 refine q0s hqq7 9 (fun k3 (s8,s9,s7)=>[(0,.pb 0 0),(1,.d .fz (.b a1)),(4,.pb 1 0),(5,.pb 2 0),(6,.d .fz (.i .i64 (1+y1))),(7,.ref 4 none),(9,.d .fz (.i .i64 (k2:Int))),(10,.d .fz (.i .i64 (1+y4))),(11,.d .fz (.i .i64 (k3:Int)))]) (fun k3 (s8,s9,s7)=>[(0,.box [.d .fz (.sl 1 (o0.b.map byD)),.d .fz (.i .i64 s8),.d .fz (.i .i64 s9)]),(6,.none),(7,.none),(8,.deep .fz 6 (s7.map Rule.O) [])]) (q0l hS [(0,0),(1,1),(2,2),(4,4),(5,5),(8,8)] 9) (fun k3 sk3 ok3 hr hltk3=>?_) ?_
 obtain⟨s8,s9,s7⟩:=sk3
 refine ssr ?_
 refine N3 ?_
 refine q0f rfl (dT (ltI hltk3)) ?_
 refine q0b ?_
 refine q0d (AW.block (q0d (q0j (h:=?_))))
 refine W2 ?_
 refine IE hx2 (Int.natCast_nonneg _) ?_
 refine LP hx2 ?_
 refine ggE hr fun g8 hr=>?_
 refine OB _ (j4h g8) ?_
 refine W1 ?_
 refine bdE hr fun y5 hy5 hr=>?_
 refine CB [] [] (z9z hy5) ?_
 refine ggE hr fun g9 hr=>?_
 refine OB _ (j4h g9) ?_
 refine W2 ?_
 refine IE hx2 (Int.natCast_nonneg _) ?_
 refine LP hx2 ?_
 refine W1 ?_
 refine bdE hr fun q8 hq8 hr=>?_
 obtain⟨y6,z5⟩:=q8
 refine CB [(0,0)] [] (q4y hq8) ?_
 refine W1 ?_
 refine NV 9 ?_
 refine SB ?_
 refine N0 ?_
 refine sr ?_
 refine W1 ?_
 refine bdE hr fun q9 hq9 hr=>?_
 obtain⟨y7,z6⟩:=q9
 refine CB [(0,0)] [] (q3s hq9) ?_
 refine ggE hr fun g10 hr=>?_
 refine OB _ (bAdd g10) ?_
 refine N1 ?_
 refine ssr ?_
 refine N1 ?_
 refine AW.block ?_
 refine q0C 9 2 10 .fz 1 rfl rfl ?_
 refine q0w (.tmp 13 rfl) fun hl4=>?_
 refine bdE hr fun q10 hqq10 hr=>?_
 obtain⟨s11,s12,s10⟩:=q10
 refine q0s hqq10 11 (fun k4 (s11,s12,s10)=>[(0,.pb 0 0),(1,.d .fz (.b a1)),(4,.pb 1 0),(5,.pb 2 0),(6,.d .fz (.i .i64 (1+y1))),(7,.ref 4 none),(9,.d .fz (.i .i64 (k2:Int))),(10,.d .fz (.i .i64 (1+y4))),(11,.d .fz (.i .i64 (k3:Int))),(12,.pb 9 0),(13,.d .fz (.i .i64 (1+y7))),(14,.d .fz (.i .i64 (k4:Int)))]) (fun k4 (s11,s12,s10)=>[(0,.box [.d .fz (.sl 1 (o0.b.map byD)),.d .fz (.i .i64 s11),.d .fz (.i .i64 s12)]),(10,.row .fz 1 (s10.map A.D.s))]) (q0l hS [(0,0),(1,1),(2,2),(4,4),(5,5),(8,8),(9,9),(10,10)] 11) (fun k4 sk4 ok4 hr hltk4=>?_) ?_
 obtain⟨s11,s12,s10⟩:=sk4
 refine ssr ?_
 refine N3 ?_
 refine q0f rfl (dT (ltI hltk4)) ?_
 refine q0b ?_
 refine q0d (AW.block (q0j (h:=?_)))
 refine W4 ?_
 refine bdE hr fun q11 hq11 hr=>?_
 obtain⟨y8,z7⟩:=q11
 refine CB [(0,0)] [4] (q6S (m:=.bo) hq11) ?_
 refine LIR 11 (m:=.fz) (f:=A.D.s) (xs:=[y8]) ?_
 refine ggE hr fun g11 hr=>?_
 refine APf1 (f:=A.D.s) 12 (fun _=>rfl) 16 g11 ?_
 refine W1 ?_
 refine SB ?_
 refine N0 ?_
 refine q0c ?_
 refine W1 ?_
 refine OB _ (q3B (p:=k4) (q:=1) (q3m (ltI hltk4) hl4.2)) ?_
 refine N1 ?_
 cases hr
 exact q0l hS [(0,0),(1,1),(2,2),(4,4),(5,5),(8,8),(9,9),(12,10)] 11
 refine ssr ?_
 refine N3 ?_
 refine q0g rfl (dF geI) ?_
 refine q0i ?_
 refine q0c ?_
 refine W3 ?_
 refine LID (f:=Rule.O) 11 (⟨(((⟨#[112]⟩:ByteArray)++x2)++y5),x2,s10,y6,[],[]⟩:Rule) [10] ?_
 refine ggE hr fun g12 hr=>?_
 refine APD1 12 112 g12 ?_
 refine W1 ?_
 refine SB ?_
 refine N0 ?_
 refine q0c ?_
 refine W1 ?_
 refine OB _ (q3B (p:=k3) (q:=1) (q3m (ltI hltk3) hl3.2)) ?_
 refine N1 ?_
 cases hr
 exact q0l hS [(0,0),(1,1),(2,2),(4,4),(5,5),(12,8)] 9
 refine ssr ?_
 refine N3 ?_
 refine q0g rfl (dF geI) ?_
 refine q0i ?_
 refine q0c ?_
 refine W1 ?_
 refine OB _ (q3B (p:=k2) (q:=1) (q3m (ltI hltk2) hl2.2)) ?_
 refine N1 ?_
 cases hr
 exact q0l hS [(0,0),(1,1),(2,2),(4,4),(5,5),(8,6)] 7
 refine ssr ?_
 refine N3 ?_
 refine q0g rfl (dF geI) ?_
 refine q0i ?_
 refine ssr ?_
 refine W2 ?_
 refine LEd s4.length ?_
 refine N1 ?_
 refine bdE hr fun s13 hqq12 hr=>?_
 refine q0n 7 [(0,.pb 0 0),(1,.d .fz (.b a1)),(4,.pb 1 0),(5,.pb 2 0)] [(6,.deep .fz 6 (s13.map Rule.O) [])] ?_ ?_
 replace hr:=hqq12
 refine ifE hr (fun h1 hr=>?_) fun h1 hr=>?_
 refine q0f rfl (dT h1) ?_
 refine q0c ?_
 refine W2 ?_
 refine ggE hr fun g13 hr=>?_
 refine CUd (xs:=s4) (b:=8) 7 (by decide) g13 ?_
 refine W1 ?_
 refine SB ?_
 refine N0 ?_
 cases hr
 exact q0l hS [(0,0),(1,1),(2,2),(4,4),(5,5),(7,6)] 7
 refine q0g rfl (dF h1) ?_
 refine q0b ?_
 cases hr
 exact q0l hS [(0,0),(1,1),(2,2),(4,4),(5,5),(6,6)] 7
 refine ssr ?_
 refine N1 ?_
 refine bdE hr fun q13 hqq13 hr=>?_
 obtain⟨s14,s15,s16⟩:=q13
 refine q0n 7 [(4,.pb 1 0),(5,.pb 2 0)] [(0,.box [.d .fz (.sl 1 (o0.b.map byD)),.d .fz (.i .i64 s14),.d .fz (.i .i64 s15)]),(6,.deep .fz 6 (s16.map Rule.O) [])] ?_ ?_
 refine AW.block (q0q hqq13 7 (fun (s17,s18,s19,s20)=>[(0,.pb 0 0),(1,.d .fz (.b a1)),(4,.pb 1 0),(5,.pb 2 0),(15,.d .fz (.i .i64 s17))]) (fun (s17,s18,s19,s20)=>[(0,.box [.d .fz (.sl 1 (o0.b.map byD)),.d .fz (.i .i64 s18),.d .fz (.i .i64 s19)]),(6,.deep .fz 6 (s20.map Rule.O) [])]) (q0l hS [(0,0),(1,1),(2,2),(4,4),(5,5),(6,6)] 7) fun sk5 ok5 hr hik5=>?_)
 obtain⟨s17,s18,s19,s20⟩:=sk5
 have hr:=hr
 refine ssr ?_
 refine W3 ?_
 refine LEd s20.length ?_
 refine N1 ?_
 refine ifE hr (fun h2 hr=>?_) fun h2 hr=>?_
 refine q0f rfl (dT h2) ?_
 refine q0b ?_
 refine bdE hr fun q14 hqq14 hr=>?_
 obtain⟨s21,s22,s23⟩:=q14
 refine q0d (q0n 7 [(0,.pb 0 0),(1,.d .fz (.b a1)),(4,.pb 1 0),(5,.pb 2 0),(15,.d .fz (.i .i64 s17))] [(0,.box [.d .fz (.sl 1 (o0.b.map byD)),.d .fz (.i .i64 s21),.d .fz (.i .i64 s22)]),(6,.deep .fz 6 (s23.map Rule.O) [])] ?_ ?_)
 replace hr:=hqq14
 refine ggE hr fun g14 hr=>?_
 refine bdE hr fun x3 hx3 hr=>?_
 refine AW.out 6 s17.toNat 2 7 (q3A hx3) ?_
 refine AW.out 6 s17.toNat 4 8 (q3u (q3A hx3)) ?_
 refine AW.out 6 s17.toNat 5 9 (q3u (q3u (q3A hx3))) ?_
 refine AW.block (q0d (q0j (h:=?_)))
 refine W5 ?_
 refine W3 ?_
 refine IEd g14 (q3u (q3u (q3u (q3A hx3)))) ?_
 refine LPad [(5,9),(4,8),(2,7)] (q3u (q3u (q3u (q3A hx3)))) ?_
 refine W2 ?_
 refine bdE hr fun q15 hq15 hr=>?_
 obtain⟨y9,z8⟩:=q15
 refine CB [(0,0),(1,7),(2,8),(3,9),(4,10)] [5] (j2k (m:=.bo) (m2:=.fz) hq15) ?_
 refine IEd g14 (q3u (q3u (q3u (q3A hx3)))) ?_
 refine SD [.d .fz (.s y9.Name),.d .fz (.s y9.Left),.o .fz 1 (y9.Right.map A.D.s),.d .fz (.b y9.Literal),.o .fz 9 (y9.Equations.map Equation.D),.o .fz 16 (y9.Contributions.map Contribution.D)] [7,10,9] (q3u (q3u (q3u (q3A hx3)))) ?_
 refine N0 ?_
 refine sr ?_
 refine N2 ?_
 refine ifE hr (fun h3 hr=>?_) fun h3 hr=>?_
 refine q0g rfl (bnF h3) ?_
 refine q0b ?_
 cases hr
 exact GH.trans (q0u 6 (he:=eset (f:=Rule.O) (x':=y9) (by first | rfl | (simp only [List.set_set]; rfl)))) (q0l hS [(0,0),(1,1),(2,2),(4,4),(5,5),(6,6)] 7)
 refine q0f rfl (bnT h3) ?_
 refine AW.out 6 s17.toNat 2 11 (q3u (q3u (q3u (q3u (q3A hx3))))) ?_
 refine AW.out 6 s17.toNat 4 12 (q3u (q3u (q3u (q3u (q3u (q3A hx3)))))) ?_
 refine AW.out 6 s17.toNat 5 13 (q3u (q3u (q3u (q3u (q3u (q3u (q3A hx3))))))) ?_
 refine q0j (h:=?_)
 refine W5 ?_
 refine W3 ?_
 refine IEd g14 (q3u (q3u (q3u (q3u (q3u (q3u (q3u (q3A hx3)))))))) ?_
 refine LPad [(5,13),(4,12),(2,11)] (q3u (q3u (q3u (q3u (q3u (q3u (q3u (q3A hx3)))))))) ?_
 refine bdE hr fun q16 hq16 hr=>?_
 obtain⟨y10,z9⟩:=q16
 refine CB [(0,0),(1,11),(2,12),(3,13),(4,14)] [5] (j4s (m:=.bo) (m2:=.fz) hq16) ?_
 refine IEd g14 (q3u (q3u (q3u (q3u (q3u (q3u (q3u (q3A hx3)))))))) ?_
 refine SD [.d .fz (.s y10.Name),.d .fz (.s y10.Left),.o .fz 1 (y10.Right.map A.D.s),.d .fz (.b y10.Literal),.o .fz 9 (y10.Equations.map Equation.D),.o .fz 16 (y10.Contributions.map Contribution.D)] [11,12,14] (q3u (q3u (q3u (q3u (q3u (q3u (q3u (q3A hx3)))))))) ?_
 refine N0 ?_
 cases hr
 exact GH.trans (q0u 6 (he:=eset (f:=Rule.O) (x':=y10) (by first | rfl | (simp only [List.set_set]; rfl)))) (q0l hS [(0,0),(1,1),(2,2),(4,4),(5,5),(6,6)] 7)
 refine q0c ?_
 refine W1 ?_
 refine ggE hr fun g15 hr=>?_
 refine OB _ (bAdd g15) ?_
 refine N1 ?_
 cases hr
 exact⟨_,rfl,q0l hS [(0,0),(1,1),(2,2),(4,4),(5,5),(6,6)] 7⟩
 refine q0g rfl (dF h2) ?_
 refine q0i ?_
 cases hr
 cases hik5 _ rfl
 exact q0l hS [(0,0),(1,1),(2,2),(4,4),(5,5),(6,6)] 7
 refine sr ?_
 refine W1 ?_
 refine SB ?_
 refine N0 ?_
 refine AW.ret ?_
 cases hr
 exact q0a [(0,0),(5,1),(6,2)] 3 hS
def q8Y (o0:l1Cur):Option (ByteArray × l1Cur):=
 (q6n [(⟨#[97]⟩:ByteArray),(⟨#[98]⟩:ByteArray),(⟨#[99]⟩:ByteArray),(⟨#[100]⟩:ByteArray),(⟨#[120]⟩:ByteArray),(⟨#[121]⟩:ByteArray),(⟨#[116]⟩:ByteArray),(⟨#[117]⟩:ByteArray)] o0).bind fun (y1,z1)=>
 some (y1,(⟨o0.b,z1.i,z1.h⟩:l1Cur))
theorem z3W {o0:l1Cur}{r:(ByteArray × l1Cur)}(hr:q8Y o0=some r):Ok Tryz.prog 108 [.pb 0 0] [.box [.d .fz (.sl 1 (o0.b.map byD)),.d .fz (.i .i64 o0.i),.d .fz (.i .i64 o0.h)]] (.d .fz (.s r.1)) [.box [.d .fz (.sl 1 (o0.b.map byD)),.d .fz (.i .i64 r.2.i),.d .fz (.i .i64 r.2.h)]]:=by
 refine Ok.enter rfl Tryz.func108 rfl rfl rfl fun S hS=>?_
 unfold q8Y at hr
 refine sr ?_
 refine N1 ?_
 refine sr ?_
 refine W1 ?_
 refine LIR 1 (m:=.fz) (f:=A.D.s) (xs:=[(⟨#[97]⟩:ByteArray),(⟨#[98]⟩:ByteArray),(⟨#[99]⟩:ByteArray),(⟨#[100]⟩:ByteArray),(⟨#[120]⟩:ByteArray),(⟨#[121]⟩:ByteArray),(⟨#[116]⟩:ByteArray),(⟨#[117]⟩:ByteArray)]) ?_
 refine bdE hr fun q1 hq1 hr=>?_
 obtain⟨y1,z1⟩:=q1
 refine CB [(0,0)] [1] (q6S (m:=.bo) hq1) ?_
 refine N1 ?_
 refine AW.ret ?_
 cases hr
 exact q0a [(0,0)] 1 hS
def q6W (rec_sl4Free:Int→l1Cur→Option (Expr × l1Cur))(a1:Int)(o0:l1Cur):Option (Expr × l1Cur):=
 if a1 < 2 then (
 (q4g 5 o0).bind fun (y1,z1)=>
 if y1=true then (
 some ((⟨2,0,0,0,(⟨#[]⟩:ByteArray),(⟨#[]⟩:ByteArray),[]⟩:Expr),(⟨o0.b,z1.i,z1.h⟩:l1Cur))
 ) else (
 (q4g 6 (⟨o0.b,z1.i,z1.h⟩:l1Cur)).bind fun (y2,z2)=>
 if y2=true then (
 (q3q 4 (⟨o0.b,z2.i,z2.h⟩:l1Cur)).bind fun (y3,z3)=>
 some ((⟨6,0,y3,0,(⟨#[]⟩:ByteArray),(⟨#[]⟩:ByteArray),[]⟩:Expr),(⟨o0.b,z3.i,z3.h⟩:l1Cur))
 ) else (
 (q3q 4 (⟨o0.b,z2.i,z2.h⟩:l1Cur)).bind fun (y4,z4)=>
 grd (I64 (1+y4)) <|
 (q3q 4 (⟨o0.b,z4.i,z4.h⟩:l1Cur)).bind fun (y5,z5)=>
 (q8Y (⟨o0.b,z5.i,z5.h⟩:l1Cur)).bind fun (y6,z6)=>
 (q5S (1+y4) [(⟨y5,y6⟩:Occurrence)] (⟨o0.b,z6.i,z6.h⟩:l1Cur)).bind fun (y7,z7)=>
 some (y7,(⟨o0.b,z7.i,z7.h⟩:l1Cur))
 )
 )
 ) else (
 (q4g 4 o0).bind fun (y8,z8)=>
 if y8=true then (
 (q4g 5 (⟨o0.b,z8.i,z8.h⟩:l1Cur)).bind fun (y9,z9)=>
 if y9=true then (
 some ((⟨2,0,0,0,(⟨#[]⟩:ByteArray),(⟨#[]⟩:ByteArray),[]⟩:Expr),(⟨o0.b,z9.i,z9.h⟩:l1Cur))
 ) else (
 (q4g 6 (⟨o0.b,z9.i,z9.h⟩:l1Cur)).bind fun (y10,z10)=>
 if y10=true then (
 (q3q 4 (⟨o0.b,z10.i,z10.h⟩:l1Cur)).bind fun (y11,z11)=>
 some ((⟨6,0,y11,0,(⟨#[]⟩:ByteArray),(⟨#[]⟩:ByteArray),[]⟩:Expr),(⟨o0.b,z11.i,z11.h⟩:l1Cur))
 ) else (
 (q3q 4 (⟨o0.b,z10.i,z10.h⟩:l1Cur)).bind fun (y12,z12)=>
 grd (I64 (1+y12)) <|
 (q3q 4 (⟨o0.b,z12.i,z12.h⟩:l1Cur)).bind fun (y13,z13)=>
 (q8Y (⟨o0.b,z13.i,z13.h⟩:l1Cur)).bind fun (y14,z14)=>
 (q5S (1+y12) [(⟨y13,y14⟩:Occurrence)] (⟨o0.b,z14.i,z14.h⟩:l1Cur)).bind fun (y15,z15)=>
 some (y15,(⟨o0.b,z15.i,z15.h⟩:l1Cur))
 )
 )
 ) else (
 (q3q 5 (⟨o0.b,z8.i,z8.h⟩:l1Cur)).bind fun (y16,z16)=>
 if y16=0 then (
 grd (I64 (a1 - 1)) <|
 (rec_sl4Free (a1 - 1) (⟨o0.b,z16.i,z16.h⟩:l1Cur)).bind fun (y17,z17)=>
 grd (I64 (a1 - 1)) <|
 (rec_sl4Free (a1 - 1) (⟨o0.b,z17.i,z17.h⟩:l1Cur)).bind fun (y18,z18)=>
 grd (I64 (a1 - 1)) <|
 (rec_sl4Free (a1 - 1) (⟨o0.b,z18.i,z18.h⟩:l1Cur)).bind fun (y19,z19)=>
 some ((⟨5,0,0,0,(⟨#[]⟩:ByteArray),(⟨#[]⟩:ByteArray),[y17,y18,y19]⟩:Expr),(⟨o0.b,z19.i,z19.h⟩:l1Cur))
 ) else (
 if y16=1 then (
 (q6n [(⟨#[115]⟩:ByteArray),(⟨#[116]⟩:ByteArray)] (⟨o0.b,z16.i,z16.h⟩:l1Cur)).bind fun (y20,z20)=>
 (q8Y (⟨o0.b,z20.i,z20.h⟩:l1Cur)).bind fun (y21,z21)=>
 grd (I64 (a1 - 1)) <|
 (rec_sl4Free (a1 - 1) (⟨o0.b,z21.i,z21.h⟩:l1Cur)).bind fun (y22,z22)=>
 some ((⟨8,0,0,0,y20,y21,[y22]⟩:Expr),(⟨o0.b,z22.i,z22.h⟩:l1Cur))
 ) else (
 (q3q 12 (⟨o0.b,z16.i,z16.h⟩:l1Cur)).bind fun (y23,z23)=>
 grd (I64 (1+y23)) <|
 grd (I64 (a1 - 1)) <|
 (rec_sl4Free (a1 - 1) (⟨o0.b,z23.i,z23.h⟩:l1Cur)).bind fun (y24,z24)=>
 grd (I64 (a1 - 1)) <|
 (rec_sl4Free (a1 - 1) (⟨o0.b,z24.i,z24.h⟩:l1Cur)).bind fun (y25,z25)=>
 (q8L (1+y23) y24 y25).bind fun y26=>
 some (y26,(⟨o0.b,z25.i,z25.h⟩:l1Cur))
 )
 )
 )
 )
theorem j2l {rec_sl4Free:Int→l1Cur→Option (Expr × l1Cur)}(ih_sl4Free:∀ {a1:Int} {o0:l1Cur} {r:(Expr × l1Cur)},rec_sl4Free a1 o0=some r→Ok Tryz.prog 79 [.pb 0 0,.d .fz (.i .i64 a1)] [.box [.d .fz (.sl 1 (o0.b.map byD)),.d .fz (.i .i64 o0.i),.d .fz (.i .i64 o0.h)]] (.ag [.d .fz (.i .i64 r.1.Kind),.d .fz (.i .i64 r.1.N),.d .fz (.i .i64 r.1.Pos),.d .fz (.i .i64 r.1.Type_),.d .fz (.s r.1.Symbol),.d .fz (.s r.1.Name),.ref 1 none]) [.box [.d .fz (.sl 1 (o0.b.map byD)),.d .fz (.i .i64 r.2.i),.d .fz (.i .i64 r.2.h)],.row .fz 7 (r.1.Args.map Expr.D)]){a1:Int}{o0:l1Cur}{r:(Expr × l1Cur)}(hr:q6W rec_sl4Free a1 o0=some r):Ok Tryz.prog 79 [.pb 0 0,.d .fz (.i .i64 a1)] [.box [.d .fz (.sl 1 (o0.b.map byD)),.d .fz (.i .i64 o0.i),.d .fz (.i .i64 o0.h)]] (.ag [.d .fz (.i .i64 r.1.Kind),.d .fz (.i .i64 r.1.N),.d .fz (.i .i64 r.1.Pos),.d .fz (.i .i64 r.1.Type_),.d .fz (.s r.1.Symbol),.d .fz (.s r.1.Name),.ref 1 none]) [.box [.d .fz (.sl 1 (o0.b.map byD)),.d .fz (.i .i64 r.2.i),.d .fz (.i .i64 r.2.h)],.row .fz 7 (r.1.Args.map Expr.D)]:=by
 refine Ok.enter rfl Tryz.func79 rfl rfl rfl fun S hS=>?_
 unfold q6W at hr
 refine sr ?_
 refine NV 1 ?_
 refine N0 ?_
 refine ssr ?_
 refine W2 ?_
 refine ifE hr (fun h1 hr=>?_) fun h1 hr=>?_
 refine VT rfl (dT h1) ?_
 iterate 2 refine AL.off ?_
 refine N1 ?_
 refine q0f rfl rfl ?_
 refine ssr ?_
 refine W1 ?_
 refine bdE hr fun q1 hq1 hr=>?_
 obtain⟨y1,z1⟩:=q1
 refine CB [(0,0)] [] (q4y hq1) ?_
 refine N0 ?_
 refine ifE hr (fun h2 hr=>?_) fun h2 hr=>?_
 refine q0f rfl h2 ?_
 refine sr ?_
 refine W1 ?_
 refine SB ?_
 refine N0 ?_
 refine AW.ret ?_
 refine endA.gh (q0t (q:=1) (c:=6) (r:=2) .fz 7 rfl rfl rfl) ?_
 cases hr
 exact q0a [(0,0),(2,1)] 2 hS
 refine q0g rfl (bF h2) ?_
 refine q0b ?_
 refine ssr ?_
 refine W1 ?_
 refine bdE hr fun q2 hq2 hr=>?_
 obtain⟨y2,z2⟩:=q2
 refine CB [(0,0)] [] (q4y hq2) ?_
 refine N0 ?_
 refine ifE hr (fun h3 hr=>?_) fun h3 hr=>?_
 refine q0f rfl h3 ?_
 refine sr ?_
 refine W1 ?_
 refine bdE hr fun q3 hq3 hr=>?_
 obtain⟨y3,z3⟩:=q3
 refine CB [(0,0)] [] (q3s hq3) ?_
 refine W1 ?_
 refine SB ?_
 refine N0 ?_
 refine AW.ret ?_
 refine endA.gh (q0t (q:=1) (c:=6) (r:=2) .fz 7 rfl rfl rfl) ?_
 cases hr
 exact q0a [(0,0),(2,1)] 2 hS
 refine q0g rfl (bF h3) ?_
 refine q0b ?_
 refine sr ?_
 refine W2 ?_
 refine bdE hr fun q4 hq4 hr=>?_
 obtain⟨y4,z4⟩:=q4
 refine CB [(0,0)] [] (q3s hq4) ?_
 refine ggE hr fun g1 hr=>?_
 refine OB _ (bAdd g1) ?_
 refine W1 ?_
 refine bdE hr fun q5 hq5 hr=>?_
 obtain⟨y5,z5⟩:=q5
 refine CB [(0,0)] [] (q3s hq5) ?_
 refine W1 ?_
 refine bdE hr fun q6 hq6 hr=>?_
 obtain⟨y6,z6⟩:=q6
 refine CB [(0,0)] [] (z3W hq6) ?_
 refine W1 ?_
 refine LIR 2 (m:=.fz) (f:=Occurrence.D) (xs:=[(⟨y5,y6⟩:Occurrence)]) ?_
 refine bdE hr fun q7 hq7 hr=>?_
 obtain⟨y7,z7⟩:=q7
 refine CB [(0,0),(1,3)] [2] (q6V (m:=.bo) hq7) ?_
 refine SB ?_
 refine N0 ?_
 refine AW.ret ?_
 cases hr
 exact q0a [(0,0),(3,1)] 2 hS
 refine VF rfl (dF h1) ?_
 refine W1 ?_
 refine bdE hr fun q8 hq8 hr=>?_
 obtain⟨y8,z8⟩:=q8
 refine CB [(0,0)] [] (q4y hq8) ?_
 refine N1 ?_
 refine ifE hr (fun h4 hr=>?_) fun h4 hr=>?_
 refine q0f rfl h4 ?_
 refine ssr ?_
 refine W1 ?_
 refine bdE hr fun q9 hq9 hr=>?_
 obtain⟨y9,z9⟩:=q9
 refine CB [(0,0)] [] (q4y hq9) ?_
 refine N0 ?_
 refine ifE hr (fun h5 hr=>?_) fun h5 hr=>?_
 refine q0f rfl h5 ?_
 refine sr ?_
 refine W1 ?_
 refine SB ?_
 refine N0 ?_
 refine AW.ret ?_
 refine endA.gh (q0t (q:=1) (c:=6) (r:=2) .fz 7 rfl rfl rfl) ?_
 cases hr
 exact q0a [(0,0),(2,1)] 2 hS
 refine q0g rfl (bF h5) ?_
 refine q0b ?_
 refine ssr ?_
 refine W1 ?_
 refine bdE hr fun q10 hq10 hr=>?_
 obtain⟨y10,z10⟩:=q10
 refine CB [(0,0)] [] (q4y hq10) ?_
 refine N0 ?_
 refine ifE hr (fun h6 hr=>?_) fun h6 hr=>?_
 refine q0f rfl h6 ?_
 refine sr ?_
 refine W1 ?_
 refine bdE hr fun q11 hq11 hr=>?_
 obtain⟨y11,z11⟩:=q11
 refine CB [(0,0)] [] (q3s hq11) ?_
 refine W1 ?_
 refine SB ?_
 refine N0 ?_
 refine AW.ret ?_
 refine endA.gh (q0t (q:=1) (c:=6) (r:=2) .fz 7 rfl rfl rfl) ?_
 cases hr
 exact q0a [(0,0),(2,1)] 2 hS
 refine q0g rfl (bF h6) ?_
 refine q0b ?_
 refine sr ?_
 refine W2 ?_
 refine bdE hr fun q12 hq12 hr=>?_
 obtain⟨y12,z12⟩:=q12
 refine CB [(0,0)] [] (q3s hq12) ?_
 refine ggE hr fun g2 hr=>?_
 refine OB _ (bAdd g2) ?_
 refine W1 ?_
 refine bdE hr fun q13 hq13 hr=>?_
 obtain⟨y13,z13⟩:=q13
 refine CB [(0,0)] [] (q3s hq13) ?_
 refine W1 ?_
 refine bdE hr fun q14 hq14 hr=>?_
 obtain⟨y14,z14⟩:=q14
 refine CB [(0,0)] [] (z3W hq14) ?_
 refine W1 ?_
 refine LIR 2 (m:=.fz) (f:=Occurrence.D) (xs:=[(⟨y13,y14⟩:Occurrence)]) ?_
 refine bdE hr fun q15 hq15 hr=>?_
 obtain⟨y15,z15⟩:=q15
 refine CB [(0,0),(1,3)] [2] (q6V (m:=.bo) hq15) ?_
 refine SB ?_
 refine N0 ?_
 refine AW.ret ?_
 cases hr
 exact q0a [(0,0),(3,1)] 2 hS
 refine q0g rfl (bF h4) ?_
 refine q0b ?_
 refine ssr ?_
 refine W1 ?_
 refine bdE hr fun q16 hq16 hr=>?_
 obtain⟨y16,z16⟩:=q16
 refine CB [(0,0)] [] (q3s hq16) ?_
 refine N0 ?_
 refine AW.block (q0d (q0c ?_))
 refine N2 ?_
 refine ifE hr (fun h7 hr=>?_) fun h7 hr=>?_
 refine q0f rfl (dT h7) ?_
 refine sr ?_
 refine W2 ?_
 refine ggE hr fun g3 hr=>?_
 refine OB _ (bSub g3) ?_
 refine bdE hr fun q17 hq17 hr=>?_
 obtain⟨y17,z17⟩:=q17
 refine CB [(0,0),(1,2)] [] (ih_sl4Free hq17) ?_
 refine W2 ?_
 refine ggE hr fun g4 hr=>?_
 refine OB _ (bSub g4) ?_
 refine bdE hr fun q18 hq18 hr=>?_
 obtain⟨y18,z18⟩:=q18
 refine CB [(0,0),(1,3)] [] (ih_sl4Free hq18) ?_
 refine W2 ?_
 refine ggE hr fun g5 hr=>?_
 refine OB _ (bSub g5) ?_
 refine bdE hr fun q19 hq19 hr=>?_
 obtain⟨y19,z19⟩:=q19
 refine CB [(0,0),(1,4)] [] (ih_sl4Free hq19) ?_
 refine AL.fz 2 rfl ?_
 refine AL.fz 3 rfl ?_
 refine AL.fz 4 rfl ?_
 refine LIRq 5 (m:=.fz) (f:=Expr.D) [y17,y18,y19] (by simp only [List.map_cons,List.map_nil,Expr.D_eq]; rfl) ?_
 refine W1 ?_
 refine SB ?_
 refine N0 ?_
 refine AW.ret ?_
 cases hr
 exact q0a [(0,0),(5,1)] 2 hS
 refine q0g rfl (dF h7) ?_
 refine sr ?_
 refine N2 ?_
 refine ifE hr (fun h8 hr=>?_) fun h8 hr=>?_
 refine q0f rfl (dT h8) ?_
 refine sr ?_
 refine W1 ?_
 refine LIR 2 (m:=.fz) (f:=A.D.s) (xs:=[(⟨#[115]⟩:ByteArray),(⟨#[116]⟩:ByteArray)]) ?_
 refine bdE hr fun q20 hq20 hr=>?_
 obtain⟨y20,z20⟩:=q20
 refine CB [(0,0)] [2] (q6S (m:=.bo) hq20) ?_
 refine W1 ?_
 refine bdE hr fun q21 hq21 hr=>?_
 obtain⟨y21,z21⟩:=q21
 refine CB [(0,0)] [] (z3W hq21) ?_
 refine W2 ?_
 refine ggE hr fun g6 hr=>?_
 refine OB _ (bSub g6) ?_
 refine bdE hr fun q22 hq22 hr=>?_
 obtain⟨y22,z22⟩:=q22
 refine CB [(0,0),(1,3)] [] (ih_sl4Free hq22) ?_
 refine AL.fz 3 rfl ?_
 refine LIRq 4 (m:=.fz) (f:=Expr.D) [y22] (by simp only [List.map_cons,List.map_nil,Expr.D_eq]; rfl) ?_
 refine W1 ?_
 refine SB ?_
 refine N0 ?_
 refine AW.ret ?_
 cases hr
 exact q0a [(0,0),(4,1)] 2 hS
 refine q0g rfl (dF h8) ?_
 refine q0b ?_
 refine sr ?_
 refine W1 ?_
 refine bdE hr fun q23 hq23 hr=>?_
 obtain⟨y23,z23⟩:=q23
 refine CB [(0,0)] [] (q3s hq23) ?_
 refine ggE hr fun g7 hr=>?_
 refine OB _ (bAdd g7) ?_
 refine W2 ?_
 refine ggE hr fun g8 hr=>?_
 refine OB _ (bSub g8) ?_
 refine bdE hr fun q24 hq24 hr=>?_
 obtain⟨y24,z24⟩:=q24
 refine CB [(0,0),(1,2)] [] (ih_sl4Free hq24) ?_
 refine W2 ?_
 refine ggE hr fun g9 hr=>?_
 refine OB _ (bSub g9) ?_
 refine bdE hr fun q25 hq25 hr=>?_
 obtain⟨y25,z25⟩:=q25
 refine CB [(0,0),(1,3)] [] (ih_sl4Free hq25) ?_
 refine AL.fz 2 rfl ?_
 refine AL.fz 3 rfl ?_
 refine bdE hr fun y26 hy26 hr=>?_
 refine CB [(0,4)] [] (q8G (m:=.fz) hy26) ?_
 refine SB ?_
 refine N0 ?_
 refine AW.ret ?_
 cases hr
 exact q0a [(0,0),(4,1)] 2 hS
end Go.Proofs.YtibagkppfnjgcaaGreat
