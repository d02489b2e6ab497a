/- What some functions of the program compute, as partial functions on plain data, and that they do; each lemma bears its conditions in its statement. -/
import Derived.Test.YtibagkppfnjgcaaGreatLift3
set_option linter.unusedVariables false
set_option linter.unusedSimpArgs false
set_option linter.ambiguousOpen false
set_option linter.unusedSectionVars false
set_option linter.unnecessarySimpa false
set_option maxRecDepth 100000
set_option maxHeartbeats 40000000
noncomputable section
namespace Go.Proofs.YtibagkppfnjgcaaGreat
open Go Go.E Go.A
def q5T:Nat→Int→l1Cur→Option (Expr × l1Cur)
  | 0,_,_=>none
  | n+1,a1,o0=>q6W (q5T n) a1 o0
def z4V (a1:Int)(o0:l1Cur):Option (Expr × l1Cur):=recO fun n=>q5T n a1 o0
theorem j2m (n:Nat):∀ {a1:Int} {o0:l1Cur} {r:(Expr × l1Cur)},q5T n a1 o0=some r→Ok Tryz.prog 79 [.pb 0 0,.d .fz (.i .i64 a1)] [.box [.d .fz (.sl 1 (o0.b.map byD)),.d .fz (.i .i64 o0.i),.d .fz (.i .i64 o0.h)]] (.ag [.d .fz (.i .i64 r.1.Kind),.d .fz (.i .i64 r.1.N),.d .fz (.i .i64 r.1.Pos),.d .fz (.i .i64 r.1.Type_),.d .fz (.s r.1.Symbol),.d .fz (.s r.1.Name),.ref 1 none]) [.box [.d .fz (.sl 1 (o0.b.map byD)),.d .fz (.i .i64 r.2.i),.d .fz (.i .i64 r.2.h)],.row .fz 7 (r.1.Args.map Expr.D)]:=by
  induction n with
  | zero=>intro _ _ r hr; exact nomatch (show (none:Option (Expr × l1Cur))=some r from hr)
  | succ n ih=>intro _ _ r hr; exact j2l ih hr
theorem z8R {a1:Int}{o0:l1Cur}{r:(Expr × l1Cur)}(hr:z4V a1 o0=some r):Ok Tryz.prog 79 [.pb 0 0,.d .fz (.i .i64 a1)] [.box [.d .fz (.sl 1 (o0.b.map byD)),.d .fz (.i .i64 o0.i),.d .fz (.i .i64 o0.h)]] (.ag [.d .fz (.i .i64 r.1.Kind),.d .fz (.i .i64 r.1.N),.d .fz (.i .i64 r.1.Pos),.d .fz (.i .i64 r.1.Type_),.d .fz (.s r.1.Symbol),.d .fz (.s r.1.Name),.ref 1 none]) [.box [.d .fz (.sl 1 (o0.b.map byD)),.d .fz (.i .i64 r.2.i),.d .fz (.i .i64 r.2.h)],.row .fz 7 (r.1.Args.map Expr.D)]:=by
 obtain⟨n,hn⟩:=q5a hr
 exact j2m n hn
def q7W (rec_sl9Within:Expr→Int→Option Bool)(a1:Int):Nat→Expr→Unit→Option (Unit ⊕ Bool):=fun k1 xk1 _=>
 (rec_sl9Within xk1 a1).bind fun y1=>
 if y1=true then (
 some (.inl ())
 ) else (
 some (.inr false)
 )
def q7X (rec_sl9Within:Expr→Int→Option Bool)(a0:Expr)(a1:Int):Option Bool:=
 (findL (q7W rec_sl9Within a1) 0 a0.Args ()).bind <| onr (fun r1=>some r1) fun _=>
 some (decide (a0.Pos≤a1))
theorem z9C {rec_sl9Within:Expr→Int→Option Bool}(ih_sl9Within:∀ {m:Md} {a0:Expr} {a1:Int} {r:Bool},rec_sl9Within a0 a1=some r→Ok Tryz.prog 138 [Expr.x m a0,.d .fz (.i .i64 a1)] [] (.d .fz (.b r)) []){m:Md}{a0:Expr}{a1:Int}{r:Bool}(hr:q7X rec_sl9Within a0 a1=some r):Ok Tryz.prog 138 [Expr.x m a0,.d .fz (.i .i64 a1)] [] (.d .fz (.b r)) []:=by
 refine Ok.enter rfl Tryz.func138 rfl rfl rfl fun S hS=>?_
 unfold q7X at hr
 refine sr ?_
 refine BX 0 ?_
 refine N1 ?_
 refine ssr ?_
 refine N1 ?_
 refine AW.block ?_
 refine AW.len (.ag 6 (.tmp 0 rfl) rfl) fun hl1=>?_
 refine bdE hr fun q1 hqq1 hr=>?_
 refine q0k hqq1 hl1 1 (fun k1 _=>[(1,.d .fz (.i .i64 a1)),(2,.pb 0 0),(5,.d .fz (.i .i64 (k1:Int)))]) (fun k1 _=>[]) (q0e hS 1) (fun k1 xk1 sk1 ok1 hxk1 hr hltk1 hik1=>?_) fun k1 sk1 ek1 hltk1=>?_
 refine ssr ?_
 refine W3 ?_
 refine LF ?_
 refine N1 ?_
 refine q0f rfl (dT hltk1) ?_
 refine q0b ?_
 refine q0d (AW.block (q0d (q0c ?_)))
 refine W3 ?_
 refine IFq (Int.natCast_nonneg _) hxk1 (Expr.D_cells xk1) ?_
 refine W2 ?_
 refine bdE hr fun y1 hy1 hr=>?_
 refine CB [] [] (ih_sl9Within (m:=m) hy1) ?_
 refine N1 ?_
 refine ifE hr (fun h1 hr=>?_) fun h1 hr=>?_
 refine q0g rfl (bnF h1) ?_
 refine q0b ?_
 refine q0c ?_
 refine W1 ?_
 refine OB _ (q3B (p:=k1) (q:=1) (q3m hltk1 hl1)) ?_
 refine N1 ?_
 cases hr
 exact⟨_,rfl,q0e hS 1⟩
 refine q0f rfl (bnT h1) ?_
 refine sr ?_
 refine N1 ?_
 refine AW.ret ?_
 cases hr
 cases hik1 _ rfl
 rename_i hr
 cases hr
 exact q0a [] 0 hS
 subst ek1
 refine ssr ?_
 refine W3 ?_
 refine LF ?_
 refine N1 ?_
 refine q0g rfl (dF hltk1) ?_
 refine q0i ?_
 refine sr ?_
 refine N5 ?_
 refine AW.ret ?_
 cases hr
 exact q0a [] 0 hS
def q6o:Nat→Expr→Int→Option Bool
  | 0,_,_=>none
  | n+1,a0,a1=>q7X (q6o n) a0 a1
def z2x (a0:Expr)(a1:Int):Option Bool:=recO fun n=>q6o n a0 a1
theorem z9D (n:Nat):∀ {m:Md} {a0:Expr} {a1:Int} {r:Bool},q6o n a0 a1=some r→Ok Tryz.prog 138 [Expr.x m a0,.d .fz (.i .i64 a1)] [] (.d .fz (.b r)) []:=by
  induction n with
  | zero=>intro _ _ _ r hr; exact nomatch (show (none:Option Bool)=some r from hr)
  | succ n ih=>intro _ _ _ r hr; exact z9C ih hr
theorem j1a {m:Md}{a0:Expr}{a1:Int}{r:Bool}(hr:z2x a0 a1=some r):Ok Tryz.prog 138 [Expr.x m a0,.d .fz (.i .i64 a1)] [] (.d .fz (.b r)) []:=by
 obtain⟨n,hn⟩:=q5a hr
 exact z9D n hn
def q8v (a0:Expr)(a1:Int):Option Bool:=
 (q6M a0).bind fun y1=>
 if y1=true then (
 (z2x a0 a1).bind fun y2=>
 some y2
 ) else (
 some false
 )
theorem z3X {m:Md}{a0:Expr}{a1:Int}{r:Bool}(hr:q8v a0 a1=some r):Ok Tryz.prog 107 [Expr.x m a0,.d .fz (.i .i64 a1)] [] (.d .fz (.b r)) []:=by
 refine Ok.enter rfl Tryz.func107 rfl rfl rfl fun S hS=>?_
 unfold q8v at hr
 refine sr ?_
 refine BX 0 ?_
 refine N1 ?_
 refine sr ?_
 refine W1 ?_
 refine bdE hr fun y1 hy1 hr=>?_
 refine CB [] [] (z0Z (m:=m) hy1) ?_
 refine ifE hr (fun h1 hr=>?_) fun h1 hr=>?_
 refine VT rfl h1 ?_
 refine W2 ?_
 refine bdE hr fun y2 hy2 hr=>?_
 refine CB [] [] (j1a (m:=m) hy2) ?_
 refine N2 ?_
 refine AW.ret ?_
 cases hr
 exact q0a [] 0 hS
 refine VF rfl (bF h1) ?_
 iterate 3 refine AL.off ?_
 refine N2 ?_
 refine AW.ret ?_
 cases hr
 exact q0a [] 0 hS
def z8S (o0:l1Cur):Nat→(Int × Int × (List ByteArray))→Option (Int × Int × (List ByteArray)):=fun k1 (s2,s3,s1)=>
 (q6n [(⟨#[115]⟩:ByteArray),(⟨#[116]⟩:ByteArray),(⟨#[117]⟩:ByteArray)] (⟨o0.b,s2,s3⟩:l1Cur)).bind fun (y5,z5)=>
 grd (((s1.length:Int)+1)*16≤140737488355328∧(s1.length:Int)+1≤9223372036854775807) <|
 some (z5.i,z5.h,(s1++[y5]))
def z8T (o0:l1Cur)(y4:Int):Nat→(Int × Int × (List Equation))→Option (Int × Int × (List Equation)):=fun k2 (s4,s5,s6)=>
 (
 (q3q 3 (⟨o0.b,s4,s5⟩:l1Cur)).bind fun (y7,z7)=>
 grd (I64 (1+y7)) <|
 (z4V (1+y7) (⟨o0.b,z7.i,z7.h⟩:l1Cur)).bind fun (y8,z8)=>
 (q8v y8 y4).bind fun y9=>
 if y9=true then (
 grd (I64 (y4+1)) <|
 (q3q (y4+1) (⟨o0.b,z8.i,z8.h⟩:l1Cur)).bind fun (y10,z9)=>
 (q8Y (⟨o0.b,z9.i,z9.h⟩:l1Cur)).bind fun (y11,z10)=>
 grd (((s6.length:Int)+1)*112≤140737488355328∧(s6.length:Int)+1≤9223372036854775807) <|
 some (z10.i,z10.h,(s6++[(⟨(⟨y10,y11⟩:Occurrence),y8⟩:Equation)]))
 ) else (
 some (z8.i,z8.h,s6)
 )
 ).bind fun (s8,s9,s7)=>
 some (s8,s9,s7)
def z3i (o0:l1Cur):Option (Rule × l1Cur):=
 (q6n [(⟨#[112]⟩:ByteArray),(⟨#[113]⟩:ByteArray),(⟨#[108,101,97,102]⟩:ByteArray)] o0).bind fun (y1,z1)=>
 (q6n [(⟨#[115]⟩:ByteArray),(⟨#[116]⟩:ByteArray)] (⟨o0.b,z1.i,z1.h⟩:l1Cur)).bind fun (y2,z2)=>
 (q4g 2 (⟨o0.b,z2.i,z2.h⟩:l1Cur)).bind fun (y3,z3)=>
 (q3q 4 (⟨o0.b,z3.i,z3.h⟩:l1Cur)).bind fun (y4,z4)=>
 (eachN (z8S o0) 0 y4.toNat (z4.i,z4.h,([]:List ByteArray))).bind fun (s2,s3,s1)=>
 (q3q 4 (⟨o0.b,s2,s3⟩:l1Cur)).bind fun (y6,z6)=>
 (eachN (z8T o0 y4) 0 y6.toNat (z6.i,z6.h,([]:List Equation))).bind fun (s4,s5,s6)=>
 (q4g 4 (⟨o0.b,s4,s5⟩:l1Cur)).bind fun (y12,z11)=>
 if y12=true then (
 (q3q 4096 (⟨o0.b,z11.i,z11.h⟩:l1Cur)).bind fun (y13,z12)=>
 (q5z y13 2).bind fun y14=>
 grd (((([]:List Contribution).length:Int)+1)*208≤140737488355328∧(([]:List Contribution).length:Int)+1≤9223372036854775807) <|
 some ((⟨y1,y2,s1,y3,s6,(([]:List Contribution)++[(⟨(⟨#[115]⟩:ByteArray),(⟨#[99]⟩:ByteArray),(⟨6,0,0,0,(⟨#[]⟩:ByteArray),(⟨#[]⟩:ByteArray),[]⟩:Expr),y14⟩:Contribution)])⟩:Rule),(⟨o0.b,z12.i,z12.h⟩:l1Cur))
 ) else (
 some ((⟨y1,y2,s1,y3,s6,[]⟩:Rule),(⟨o0.b,z11.i,z11.h⟩:l1Cur))
 )
theorem j4t {o0:l1Cur}{r:(Rule × l1Cur)}(hr:z3i o0=some r):Ok Tryz.prog 77 [.pb 0 0] [.box [.d .fz (.sl 1 (o0.b.map byD)),.d .fz (.i .i64 o0.i),.d .fz (.i .i64 o0.h)]] (.ag [.d .fz (.s r.1.Name),.d .fz (.s r.1.Left),.ref 1 none,.d .fz (.b r.1.Literal),.ref 2 none,.ref 3 none]) [.box [.d .fz (.sl 1 (o0.b.map byD)),.d .fz (.i .i64 r.2.i),.d .fz (.i .i64 r.2.h)],.row .fz 1 (r.1.Right.map A.D.s),.row .fz 9 (r.1.Equations.map Equation.D),.row .fz 16 (r.1.Contributions.map Contribution.D)]:=by
 refine Ok.enter rfl Tryz.func77 rfl rfl rfl fun S hS=>?_
 unfold z3i at hr
 refine sr ?_
 refine NV 1 ?_
 refine N0 ?_
 refine sr ?_
 refine W1 ?_
 refine LIR 2 (m:=.fz) (f:=A.D.s) (xs:=[(⟨#[112]⟩:ByteArray),(⟨#[113]⟩:ByteArray),(⟨#[108,101,97,102]⟩:ByteArray)]) ?_
 refine bdE hr fun q1 hq1 hr=>?_
 obtain⟨y1,z1⟩:=q1
 refine CB [(0,0)] [2] (q6S (m:=.bo) hq1) ?_
 refine W1 ?_
 refine LIR 3 (m:=.fz) (f:=A.D.s) (xs:=[(⟨#[115]⟩:ByteArray),(⟨#[116]⟩:ByteArray)]) ?_
 refine bdE hr fun q2 hq2 hr=>?_
 obtain⟨y2,z2⟩:=q2
 refine CB [(0,0)] [3] (q6S (m:=.bo) hq2) ?_
 refine W1 ?_
 refine bdE hr fun q3 hq3 hr=>?_
 obtain⟨y3,z3⟩:=q3
 refine CB [(0,0)] [] (q4y hq3) ?_
 refine W1 ?_
 refine NV 4 ?_
 refine SB ?_
 refine N0 ?_
 refine sr ?_
 refine W1 ?_
 refine bdE hr fun q4 hq4 hr=>?_
 obtain⟨y4,z4⟩:=q4
 refine CB [(0,0)] [] (q3s hq4) ?_
 refine N1 ?_
 refine ssr ?_
 refine N1 ?_
 refine AW.block ?_
 refine q0C 4 2 5 .fz 1 rfl rfl ?_
 refine q0w (.tmp 4 rfl) fun hl1=>?_
 refine bdE hr fun q5 hqq5 hr=>?_
 obtain⟨s2,s3,s1⟩:=q5
 refine q0s hqq5 6 (fun k1 (s2,s3,s1)=>[(0,.pb 0 0),(2,.pb 1 0),(3,.pb 4 0),(4,.d .fz (.i .i64 y4)),(5,.d .fz (.i .i64 (k1:Int)))]) (fun k1 (s2,s3,s1)=>[(0,.box [.d .fz (.sl 1 (o0.b.map byD)),.d .fz (.i .i64 s2),.d .fz (.i .i64 s3)]),(5,.row .fz 1 (s1.map A.D.s))]) (q0e hS 6) (fun k1 sk1 ok1 hr hltk1=>?_) ?_
 obtain⟨s2,s3,s1⟩:=sk1
 refine ssr ?_
 refine N3 ?_
 refine q0f rfl (dT (ltI hltk1)) ?_
 refine q0b ?_
 refine q0d (AW.block (q0j (h:=?_)))
 refine W3 ?_
 refine LIR 6 (m:=.fz) (f:=A.D.s) (xs:=[(⟨#[115]⟩:ByteArray),(⟨#[116]⟩:ByteArray),(⟨#[117]⟩:ByteArray)]) ?_
 refine bdE hr fun q6 hq6 hr=>?_
 obtain⟨y5,z5⟩:=q6
 refine CB [(0,0)] [6] (q6S (m:=.bo) hq6) ?_
 refine LIR 7 (m:=.fz) (f:=A.D.s) (xs:=[y5]) ?_
 refine ggE hr fun g1 hr=>?_
 refine APf1 (f:=A.D.s) 8 (fun _=>rfl) 16 g1 ?_
 refine W1 ?_
 refine SB ?_
 refine N0 ?_
 refine q0c ?_
 refine W1 ?_
 refine OB _ (q3B (p:=k1) (q:=1) (q3m (ltI hltk1) hl1.2)) ?_
 refine N1 ?_
 cases hr
 exact q0l hS [(0,0),(1,1),(2,2),(3,3),(4,4),(8,5)] 6
 refine ssr ?_
 refine N3 ?_
 refine q0g rfl (dF geI) ?_
 refine q0i ?_
 refine sr ?_
 refine W1 ?_
 refine bdE hr fun q7 hq7 hr=>?_
 obtain⟨y6,z6⟩:=q7
 refine CB [(0,0)] [] (q3s hq7) ?_
 refine N1 ?_
 refine ssr ?_
 refine N1 ?_
 refine AW.block ?_
 refine q0C 4 4 6 .fz 9 rfl rfl ?_
 refine q0w (.tmp 6 rfl) fun hl2=>?_
 refine bdE hr fun q8 hqq8 hr=>?_
 obtain⟨s4,s5,s6⟩:=q8
 refine q0s hqq8 7 (fun k2 (s4,s5,s6)=>[(0,.pb 0 0),(2,.pb 1 0),(3,.pb 4 0),(4,.d .fz (.i .i64 y4)),(6,.d .fz (.i .i64 y6)),(7,.d .fz (.i .i64 (k2:Int)))]) (fun k2 (s4,s5,s6)=>[(0,.box [.d .fz (.sl 1 (o0.b.map byD)),.d .fz (.i .i64 s4),.d .fz (.i .i64 s5)]),(6,.row .fz 9 (s6.map Equation.D))]) (q0e hS 7) (fun k2 sk2 ok2 hr hltk2=>?_) ?_
 obtain⟨s4,s5,s6⟩:=sk2
 refine ssr ?_
 refine N3 ?_
 refine q0f rfl (dT (ltI hltk2)) ?_
 refine q0b ?_
 refine bdE hr fun q9 hqq9 hr=>?_
 obtain⟨s8,s9,s7⟩:=q9
 refine q0d (q0n 7 [(0,.pb 0 0),(2,.pb 1 0),(3,.pb 4 0),(4,.d .fz (.i .i64 y4)),(6,.d .fz (.i .i64 y6)),(7,.d .fz (.i .i64 (k2:Int)))] [(0,.box [.d .fz (.sl 1 (o0.b.map byD)),.d .fz (.i .i64 s8),.d .fz (.i .i64 s9)]),(6,.row .fz 9 (s7.map Equation.D))] ?_ ?_)
 replace hr:=hqq9
 refine AW.block (q0d (q0c ?_))
 refine W2 ?_
 refine bdE hr fun q10 hq10 hr=>?_
 obtain⟨y7,z7⟩:=q10
 refine CB [(0,0)] [] (q3s hq10) ?_
 refine ggE hr fun g2 hr=>?_
 refine OB _ (bAdd g2) ?_
 refine bdE hr fun q11 hq11 hr=>?_
 obtain⟨y8,z8⟩:=q11
 refine CB [(0,0),(1,7)] [] (z8R hq11) ?_
 refine NV 8 ?_
 refine SB ?_
 refine N0 ?_
 refine sr ?_
 refine W2 ?_
 refine bdE hr fun y9 hy9 hr=>?_
 refine CB [] [7] (z3X (m:=.bo) hy9) ?_
 refine N0 ?_
 refine ifE hr (fun h1 hr=>?_) fun h1 hr=>?_
 refine q0f rfl h1 ?_
 refine AW.fz 7 rfl ?_
 refine q0j (h:=?_)
 refine W4 ?_
 refine ggE hr fun g3 hr=>?_
 refine OB _ (bAdd g3) ?_
 refine bdE hr fun q12 hq12 hr=>?_
 obtain⟨y10,z9⟩:=q12
 refine CB [(0,0)] [] (q3s hq12) ?_
 refine W1 ?_
 refine bdE hr fun q13 hq13 hr=>?_
 obtain⟨y11,z10⟩:=q13
 refine CB [(0,0)] [] (z3W hq13) ?_
 refine W3 ?_
 refine LIR 9 (m:=.fz) (f:=Equation.D) (xs:=[(⟨(⟨y10,y11⟩:Occurrence),y8⟩:Equation)]) ?_
 refine ggE hr fun g4 hr=>?_
 refine AP1 10 .fz 112 g4 ?_
 refine W1 ?_
 refine SB ?_
 refine N0 ?_
 cases hr
 exact q0l hS [(0,0),(1,1),(2,2),(3,3),(4,4),(5,5),(10,6)] 7
 refine q0g rfl (bF h1) ?_
 refine q0b ?_
 cases hr
 exact q0e hS 7
 refine q0c ?_
 refine W1 ?_
 refine OB _ (q3B (p:=k2) (q:=1) (q3m (ltI hltk2) hl2.2)) ?_
 refine N1 ?_
 cases hr
 exact q0e hS 7
 refine ssr ?_
 refine N3 ?_
 refine q0g rfl (dF geI) ?_
 refine q0i ?_
 refine ssr ?_
 refine W1 ?_
 refine bdE hr fun q14 hq14 hr=>?_
 obtain⟨y12,z11⟩:=q14
 refine CB [(0,0)] [] (q4y hq14) ?_
 refine N0 ?_
 refine ifE hr (fun h2 hr=>?_) fun h2 hr=>?_
 refine q0f rfl h2 ?_
 refine q0j (h:=?_)
 refine W4 ?_
 refine bdE hr fun q15 hq15 hr=>?_
 obtain⟨y13,z12⟩:=q15
 refine CB [(0,0)] [] (q3s hq15) ?_
 refine bdE hr fun y14 hy14 hr=>?_
 refine CBz 7 [(0,7)] [] (q7n hy14) ?_
 refine W1 ?_
 refine LIR 8 (m:=.fz) (f:=Contribution.D) (xs:=[(⟨(⟨#[115]⟩:ByteArray),(⟨#[99]⟩:ByteArray),(⟨6,0,0,0,(⟨#[]⟩:ByteArray),(⟨#[]⟩:ByteArray),[]⟩:Expr),y14⟩:Contribution)]) ?_
 refine q3d 65 9 .fz 16 rfl ?_
 refine ggE hr fun g5 hr=>?_
 refine AP1 10 .fz 208 g5 ?_
 refine W1 ?_
 refine SB ?_
 refine N0 ?_
 refine sr ?_
 refine W1 ?_
 refine SB ?_
 refine N0 ?_
 refine AW.ret ?_
 cases hr
 exact q0a [(0,0),(5,1),(6,2),(10,3)] 4 hS
 refine q0g rfl (bF h2) ?_
 refine q0b ?_
 refine sr ?_
 refine W1 ?_
 refine SB ?_
 refine N0 ?_
 refine AW.ret ?_
 refine endA.gh (q0t (q:=1) (c:=5) (r:=7) .fz 16 rfl rfl rfl) ?_
 cases hr
 exact q0a [(0,0),(5,1),(6,2),(7,3)] 4 hS
def z1Z (o0:l1Cur):Option (Expr × l1Cur):=
 (q3q 5 o0).bind fun (y1,z1)=>
 grd (I64 (1+y1)) <|
 (z4V (1+y1) (⟨o0.b,z1.i,z1.h⟩:l1Cur)).bind fun (y2,z2)=>
 (q6M y2).bind fun y3=>
 if y3=true then (
 some (y2,(⟨o0.b,z2.i,z2.h⟩:l1Cur))
 ) else (
 some ((⟨2,0,0,0,(⟨#[]⟩:ByteArray),(⟨#[]⟩:ByteArray),[]⟩:Expr),(⟨o0.b,z2.i,z2.h⟩:l1Cur))
 )
theorem z8U {o0:l1Cur}{r:(Expr × l1Cur)}(hr:z1Z o0=some r):Ok Tryz.prog 41 [.pb 0 0] [.box [.d .fz (.sl 1 (o0.b.map byD)),.d .fz (.i .i64 o0.i),.d .fz (.i .i64 o0.h)]] (.ag [.d .fz (.i .i64 r.1.Kind),.d .fz (.i .i64 r.1.N),.d .fz (.i .i64 r.1.Pos),.d .fz (.i .i64 r.1.Type_),.d .fz (.s r.1.Symbol),.d .fz (.s r.1.Name),.ref 1 none]) [.box [.d .fz (.sl 1 (o0.b.map byD)),.d .fz (.i .i64 r.2.i),.d .fz (.i .i64 r.2.h)],.row .fz 7 (r.1.Args.map Expr.D)]:=by
 refine Ok.enter rfl Tryz.func41 rfl rfl rfl fun S hS=>?_
 unfold z1Z at hr
 refine sr ?_
 refine NV 1 ?_
 refine N0 ?_
 refine sr ?_
 refine W2 ?_
 refine bdE hr fun q1 hq1 hr=>?_
 obtain⟨y1,z1⟩:=q1
 refine CB [(0,0)] [] (q3s hq1) ?_
 refine ggE hr fun g1 hr=>?_
 refine OB _ (bAdd g1) ?_
 refine bdE hr fun q2 hq2 hr=>?_
 obtain⟨y2,z2⟩:=q2
 refine CB [(0,0),(1,2)] [] (z8R hq2) ?_
 refine NV 3 ?_
 refine SB ?_
 refine N0 ?_
 refine ssr ?_
 refine W1 ?_
 refine bdE hr fun y3 hy3 hr=>?_
 refine CB [] [2] (z0Z (m:=.bo) hy3) ?_
 refine N1 ?_
 refine ifE hr (fun h1 hr=>?_) fun h1 hr=>?_
 refine q0g rfl (bnF h1) ?_
 refine q0b ?_
 refine sr ?_
 refine W1 ?_
 refine SB ?_
 refine N0 ?_
 refine AW.ret ?_
 cases hr
 exact q0a [(0,0),(2,1)] 2 hS
 refine q0f rfl (bnT h1) ?_
 refine sr ?_
 refine W1 ?_
 refine SB ?_
 refine N0 ?_
 refine AW.ret ?_
 refine endA.gh (q0t (q:=1) (c:=6) (r:=4) .fz 7 rfl rfl rfl) ?_
 cases hr
 exact q0a [(0,0),(4,1)] 2 hS
def z5w:Nat→((List Expr) × Int × Int × Int × Int × ByteArray × ByteArray)→Option ((List Expr) × Int × Int × Int × Int × ByteArray × ByteArray):=fun k1 (s1,s2,s3,s4,s5,s6,s7)=>
 (q8L 1 (⟨s2,s3,s4,s5,s6,s7,s1⟩:Expr) (⟨2,0,0,0,(⟨#[]⟩:ByteArray),(⟨#[]⟩:ByteArray),[]⟩:Expr)).bind fun y7=>
 some (y7.Args,y7.Kind,y7.N,y7.Pos,y7.Type_,y7.Symbol,y7.Name)
def z3j (o0:l1Cur):Option (Expr × l1Cur):=
 (z1Z o0).bind fun (y1,z1)=>
 (q3q 14 (⟨o0.b,z1.i,z1.h⟩:l1Cur)).bind fun (y2,z2)=>
 if y2=0 then (
 (q3q 11 (⟨o0.b,z2.i,z2.h⟩:l1Cur)).bind fun (y3,z3)=>
 some ((⟨y3,y1.N,y1.Pos,y1.Type_,y1.Symbol,y1.Name,y1.Args⟩:Expr),(⟨o0.b,z3.i,z3.h⟩:l1Cur))
 ) else (
 if y2=1 then (
 grd (((y1.Args.length:Int)+1)*88≤140737488355328∧(y1.Args.length:Int)+1≤9223372036854775807) <|
 some ((⟨y1.Kind,y1.N,y1.Pos,y1.Type_,y1.Symbol,y1.Name,(y1.Args++[(⟨7,0,0,0,(⟨#[]⟩:ByteArray),(⟨#[]⟩:ByteArray),[]⟩:Expr)])⟩:Expr),(⟨o0.b,z2.i,z2.h⟩:l1Cur))
 ) else (
 if y2=2 then (
 (q4I ([(-1),13,4096,1000001]:List Int) (⟨o0.b,z2.i,z2.h⟩:l1Cur)).bind fun (y4,z4)=>
 some ((⟨y1.Kind,y4,y1.Pos,y1.Type_,y1.Symbol,y1.Name,y1.Args⟩:Expr),(⟨o0.b,z4.i,z4.h⟩:l1Cur))
 ) else (
 if y2=3 then (
 (q4I ([(-1),4,1]:List Int) (⟨o0.b,z2.i,z2.h⟩:l1Cur)).bind fun (y5,z5)=>
 some ((⟨y1.Kind,y1.N,y5,y1.Type_,y1.Symbol,y1.Name,y1.Args⟩:Expr),(⟨o0.b,z5.i,z5.h⟩:l1Cur))
 ) else (
 if y2=4 then (
 (q6n [(⟨#[105,102]⟩:ByteArray),(⟨#[]⟩:ByteArray),(⟨#[120]⟩:ByteArray)] (⟨o0.b,z2.i,z2.h⟩:l1Cur)).bind fun (y6,z6)=>
 some ((⟨y1.Kind,y1.N,y1.Pos,y1.Type_,y1.Symbol,y6,y1.Args⟩:Expr),(⟨o0.b,z6.i,z6.h⟩:l1Cur))
 ) else (
 if y2=5 then (
 (eachN z5w 0 5 (y1.Args,y1.Kind,y1.N,y1.Pos,y1.Type_,y1.Symbol,y1.Name)).bind fun (s1,s2,s3,s4,s5,s6,s7)=>
 some ((⟨s2,s3,s4,s5,s6,s7,s1⟩:Expr),(⟨o0.b,z2.i,z2.h⟩:l1Cur))
 ) else (
 some (y1,(⟨o0.b,z2.i,z2.h⟩:l1Cur))
 )
 )
 )
 )
 )
 )
theorem j4u {o0:l1Cur}{r:(Expr × l1Cur)}(hr:z3j o0=some r):Ok Tryz.prog 78 [.pb 0 0] [.box [.d .fz (.sl 1 (o0.b.map byD)),.d .fz (.i .i64 o0.i),.d .fz (.i .i64 o0.h)]] (.ag [.d .fz (.i .i64 r.1.Kind),.d .fz (.i .i64 r.1.N),.d .fz (.i .i64 r.1.Pos),.d .fz (.i .i64 r.1.Type_),.d .fz (.s r.1.Symbol),.d .fz (.s r.1.Name),.ref 1 none]) [.box [.d .fz (.sl 1 (o0.b.map byD)),.d .fz (.i .i64 r.2.i),.d .fz (.i .i64 r.2.h)],.row .fz 7 (r.1.Args.map Expr.D)]:=by
 refine Ok.enter rfl Tryz.func78 rfl rfl rfl fun S hS=>?_
 unfold z3j at hr
 refine sr ?_
 refine NV 1 ?_
 refine N0 ?_
 refine sr ?_
 refine W1 ?_
 refine bdE hr fun q1 hq1 hr=>?_
 obtain⟨y1,z1⟩:=q1
 refine CB [(0,0),(1,2)] [] (z8U hq1) ?_
 refine NV 3 ?_
 refine SB ?_
 refine N0 ?_
 refine ssr ?_
 refine W1 ?_
 refine bdE hr fun q2 hq2 hr=>?_
 obtain⟨y2,z2⟩:=q2
 refine CB [(0,0)] [] (q3s hq2) ?_
 refine N0 ?_
 refine AW.block (q0d (q0c ?_))
 refine N2 ?_
 refine ifE hr (fun h1 hr=>?_) fun h1 hr=>?_
 refine q0f rfl (dT h1) ?_
 refine q0c ?_
 refine W1 ?_
 refine bdE hr fun q3 hq3 hr=>?_
 obtain⟨y3,z3⟩:=q3
 refine CB [(0,0)] [] (q3s hq3) ?_
 refine W1 ?_
 refine SB ?_
 refine N0 ?_
 refine sr ?_
 refine W1 ?_
 refine SB ?_
 refine N0 ?_
 refine AW.ret ?_
 cases hr
 exact q0a [(0,0),(2,1)] 2 hS
 refine q0g rfl (dF h1) ?_
 refine sr ?_
 refine N2 ?_
 refine ifE hr (fun h2 hr=>?_) fun h2 hr=>?_
 refine q0f rfl (dT h2) ?_
 refine q0c ?_
 refine W3 ?_
 refine LIRq 4 (m:=.fz) (f:=Expr.D) [(⟨7,0,0,0,(⟨#[]⟩:ByteArray),(⟨#[]⟩:ByteArray),[]⟩:Expr)] (by simp only [List.map_cons,List.map_nil,Expr.D_eq]; rfl) ?_
 refine ggE hr fun g1 hr=>?_
 refine AP1 5 .fz 88 g1 ?_
 refine W1 ?_
 refine SB ?_
 refine N0 ?_
 refine sr ?_
 refine W1 ?_
 refine SB ?_
 refine N0 ?_
 refine AW.ret ?_
 cases hr
 exact q0a [(0,0),(5,1)] 2 hS
 refine q0g rfl (dF h2) ?_
 refine sr ?_
 refine N2 ?_
 refine ifE hr (fun h3 hr=>?_) fun h3 hr=>?_
 refine q0f rfl (dT h3) ?_
 refine q0c ?_
 refine W1 ?_
 refine LIR 4 (m:=.fz) (f:=(A.D.i .i64)) (xs:=([(-1),13,4096,1000001]:List Int)) ?_
 refine bdE hr fun q4 hq4 hr=>?_
 obtain⟨y4,z4⟩:=q4
 refine CB [(0,0)] [4] (q5o (m:=.bo) hq4) ?_
 refine W1 ?_
 refine SB ?_
 refine N0 ?_
 refine sr ?_
 refine W1 ?_
 refine SB ?_
 refine N0 ?_
 refine AW.ret ?_
 cases hr
 exact q0a [(0,0),(2,1)] 2 hS
 refine q0g rfl (dF h3) ?_
 refine sr ?_
 refine N2 ?_
 refine ifE hr (fun h4 hr=>?_) fun h4 hr=>?_
 refine q0f rfl (dT h4) ?_
 refine q0c ?_
 refine W1 ?_
 refine LIR 4 (m:=.fz) (f:=(A.D.i .i64)) (xs:=([(-1),4,1]:List Int)) ?_
 refine bdE hr fun q5 hq5 hr=>?_
 obtain⟨y5,z5⟩:=q5
 refine CB [(0,0)] [4] (q5o (m:=.bo) hq5) ?_
 refine W1 ?_
 refine SB ?_
 refine N0 ?_
 refine sr ?_
 refine W1 ?_
 refine SB ?_
 refine N0 ?_
 refine AW.ret ?_
 cases hr
 exact q0a [(0,0),(2,1)] 2 hS
 refine q0g rfl (dF h4) ?_
 refine sr ?_
 refine N2 ?_
 refine ifE hr (fun h5 hr=>?_) fun h5 hr=>?_
 refine q0f rfl (dT h5) ?_
 refine q0c ?_
 refine W1 ?_
 refine LIR 4 (m:=.fz) (f:=A.D.s) (xs:=[(⟨#[105,102]⟩:ByteArray),(⟨#[]⟩:ByteArray),(⟨#[120]⟩:ByteArray)]) ?_
 refine bdE hr fun q6 hq6 hr=>?_
 obtain⟨y6,z6⟩:=q6
 refine CB [(0,0)] [4] (q6S (m:=.bo) hq6) ?_
 refine W1 ?_
 refine SB ?_
 refine N0 ?_
 refine sr ?_
 refine W1 ?_
 refine SB ?_
 refine N0 ?_
 refine AW.ret ?_
 cases hr
 exact q0a [(0,0),(2,1)] 2 hS
 refine q0g rfl (dF h5) ?_
 refine sr ?_
 refine N2 ?_
 refine ifE hr (fun h6 hr=>?_) fun h6 hr=>?_
 refine q0f rfl (dT h6) ?_
 refine sr ?_
 refine N1 ?_
 refine AW.block ?_
 have hl1:rngI .i64 5:=⟨by decide,by decide⟩
 refine bdE hr fun q7 hqq7 hr=>?_
 obtain⟨s1,s2,s3,s4,s5,s6,s7⟩:=q7
 refine q0s hqq7 4 (fun k1 (s1,s2,s3,s4,s5,s6,s7)=>[(2,.pb 1 0),(3,.pb 3 0),(4,.d .fz (.i .i64 (k1:Int)))]) (fun k1 (s1,s2,s3,s4,s5,s6,s7)=>[(2,.row .fz 7 (s1.map Expr.D)),(3,.box [.d .fz (.i .i64 s2),.d .fz (.i .i64 s3),.d .fz (.i .i64 s4),.d .fz (.i .i64 s5),.d .fz (.s s6),.d .fz (.s s7),.ref 2 none])]) (q0e hS 4) (fun k1 sk1 ok1 hr hltk1=>?_) ?_
 obtain⟨s1,s2,s3,s4,s5,s6,s7⟩:=sk1
 unfold z5w at hr
 dsimp only at hr
 refine ssr ?_
 refine N2 ?_
 refine q0f rfl (dT (ltN hltk1)) ?_
 refine q0b ?_
 refine q0d (AW.block (q0c ?_))
 refine W2 ?_
 refine AL.fz 2 rfl ?_
 refine bdE hr fun y7 hy7 hr=>?_
 refine CB [(0,4)] [] (q8G (m:=.fz) hy7) ?_
 refine SB ?_
 refine N0 ?_
 refine q0c ?_
 refine W1 ?_
 refine OB _ (q3B (p:=k1) (q:=1) (q3m (ltN hltk1) hl1.2)) ?_
 refine N1 ?_
 cases hr
 exact q0l hS [(0,0),(1,1),(4,2),(3,3)] 4
 refine ssr ?_
 refine N2 ?_
 refine q0g rfl (dF geN) ?_
 refine q0i ?_
 refine sr ?_
 refine W1 ?_
 refine SB ?_
 refine N0 ?_
 refine AW.ret ?_
 cases hr
 exact q0a [(0,0),(2,1)] 2 hS
 refine q0g rfl (dF h6) ?_
 refine q0b ?_
 refine sr ?_
 refine W1 ?_
 refine SB ?_
 refine N0 ?_
 refine AW.ret ?_
 cases hr
 exact q0a [(0,0),(2,1)] 2 hS
def z3k (o0:l1Cur):Option (Rule × l1Cur):=
 (z3i o0).bind fun (y1,z1)=>
 (q3q 12 (⟨o0.b,z1.i,z1.h⟩:l1Cur)).bind fun (y2,z2)=>
 if y2=0 then (
 (q6n [(⟨#[105,102]⟩:ByteArray),(⟨#[]⟩:ByteArray),(⟨#[111,102]⟩:ByteArray)] (⟨o0.b,z2.i,z2.h⟩:l1Cur)).bind fun (y3,z3)=>
 some ((⟨y3,y1.Left,y1.Right,y1.Literal,y1.Equations,y1.Contributions⟩:Rule),(⟨o0.b,z3.i,z3.h⟩:l1Cur))
 ) else (
 if y2=1 then (
 grd (((y1.Right.length:Int)+([(⟨#[115]⟩:ByteArray),(⟨#[115]⟩:ByteArray)].length:Int))*16≤140737488355328∧(y1.Right.length:Int)+([(⟨#[115]⟩:ByteArray),(⟨#[115]⟩:ByteArray)].length:Int)≤9223372036854775807) <|
 some ((⟨y1.Name,y1.Left,(y1.Right++[(⟨#[115]⟩:ByteArray),(⟨#[115]⟩:ByteArray)]),y1.Literal,y1.Equations,y1.Contributions⟩:Rule),(⟨o0.b,z2.i,z2.h⟩:l1Cur))
 ) else (
 if y2=2 then (
 (q3q 5 (⟨o0.b,z2.i,z2.h⟩:l1Cur)).bind fun (y4,z4)=>
 grd (I64 (y4 - 1)) <|
 (z3j (⟨o0.b,z4.i,z4.h⟩:l1Cur)).bind fun (y5,z5)=>
 grd (((y1.Equations.length:Int)+1)*112≤140737488355328∧(y1.Equations.length:Int)+1≤9223372036854775807) <|
 some ((⟨y1.Name,y1.Left,y1.Right,y1.Literal,(y1.Equations++[(⟨(⟨(y4 - 1),(⟨#[97]⟩:ByteArray)⟩:Occurrence),y5⟩:Equation)]),y1.Contributions⟩:Rule),(⟨o0.b,z5.i,z5.h⟩:l1Cur))
 ) else (
 if y2=3 then (
 some ((⟨y1.Name,(⟨#[109,97,120]⟩:ByteArray),y1.Right,y1.Literal,y1.Equations,y1.Contributions⟩:Rule),(⟨o0.b,z2.i,z2.h⟩:l1Cur))
 ) else (
 if y2=4 then (
 grd (I64 ((y1.Right.length+1:Nat):Int)) <|
 (q3q ((y1.Right.length+1:Nat):Int) (⟨o0.b,z2.i,z2.h⟩:l1Cur)).bind fun (y6,z6)=>
 grd (0≤y6) <|
 grd (y6.toNat≤y1.Right.length) <|
 some ((⟨y1.Name,y1.Left,(y1.Right.take y6.toNat),y1.Literal,y1.Equations,y1.Contributions⟩:Rule),(⟨o0.b,z6.i,z6.h⟩:l1Cur))
 ) else (
 some (y1,(⟨o0.b,z2.i,z2.h⟩:l1Cur))
 )
 )
 )
 )
 )
theorem j4v {o0:l1Cur}{r:(Rule × l1Cur)}(hr:z3k o0=some r):Ok Tryz.prog 38 [.pb 0 0] [.box [.d .fz (.sl 1 (o0.b.map byD)),.d .fz (.i .i64 o0.i),.d .fz (.i .i64 o0.h)]] (.ag [.d .fz (.s r.1.Name),.d .fz (.s r.1.Left),.ref 1 none,.d .fz (.b r.1.Literal),.ref 2 none,.ref 3 none]) [.box [.d .fz (.sl 1 (o0.b.map byD)),.d .fz (.i .i64 r.2.i),.d .fz (.i .i64 r.2.h)],.row .fz 1 (r.1.Right.map A.D.s),.row .fz 9 (r.1.Equations.map Equation.D),.row .fz 16 (r.1.Contributions.map Contribution.D)]:=by
 refine Ok.enter rfl Tryz.func38 rfl rfl rfl fun S hS=>?_
 unfold z3k at hr
 refine sr ?_
 refine NV 1 ?_
 refine N0 ?_
 refine sr ?_
 refine W1 ?_
 refine bdE hr fun q1 hq1 hr=>?_
 obtain⟨y1,z1⟩:=q1
 refine CB [(0,0),(1,2),(2,3),(3,4)] [] (j4t hq1) ?_
 refine NV 5 ?_
 refine SB ?_
 refine N0 ?_
 refine ssr ?_
 refine W1 ?_
 refine bdE hr fun q2 hq2 hr=>?_
 obtain⟨y2,z2⟩:=q2
 refine CB [(0,0)] [] (q3s hq2) ?_
 refine N0 ?_
 refine AW.block (q0d (q0c ?_))
 refine N2 ?_
 refine ifE hr (fun h1 hr=>?_) fun h1 hr=>?_
 refine q0f rfl (dT h1) ?_
 refine q0c ?_
 refine W1 ?_
 refine LIR 6 (m:=.fz) (f:=A.D.s) (xs:=[(⟨#[105,102]⟩:ByteArray),(⟨#[]⟩:ByteArray),(⟨#[111,102]⟩:ByteArray)]) ?_
 refine bdE hr fun q3 hq3 hr=>?_
 obtain⟨y3,z3⟩:=q3
 refine CB [(0,0)] [6] (q6S (m:=.bo) hq3) ?_
 refine W1 ?_
 refine SB ?_
 refine N0 ?_
 refine sr ?_
 refine W1 ?_
 refine SB ?_
 refine N0 ?_
 refine AW.ret ?_
 cases hr
 exact q0a [(0,0),(2,1),(3,2),(4,3)] 4 hS
 refine q0g rfl (dF h1) ?_
 refine sr ?_
 refine N2 ?_
 refine ifE hr (fun h2 hr=>?_) fun h2 hr=>?_
 refine q0f rfl (dT h2) ?_
 refine q0c ?_
 refine W2 ?_
 refine LIR 6 (m:=.fz) (f:=A.D.s) (xs:=[(⟨#[115]⟩:ByteArray),(⟨#[115]⟩:ByteArray)]) ?_
 refine ggE hr fun g1 hr=>?_
 refine APfB (f:=A.D.s) 7 16 (fun _=>rfl) g1 ?_
 refine W1 ?_
 refine SB ?_
 refine N0 ?_
 refine sr ?_
 refine W1 ?_
 refine SB ?_
 refine N0 ?_
 refine AW.ret ?_
 cases hr
 exact q0a [(0,0),(7,1),(3,2),(4,3)] 4 hS
 refine q0g rfl (dF h2) ?_
 refine sr ?_
 refine N2 ?_
 refine ifE hr (fun h3 hr=>?_) fun h3 hr=>?_
 refine q0f rfl (dT h3) ?_
 refine q0j (h:=?_)
 refine W3 ?_
 refine bdE hr fun q4 hq4 hr=>?_
 obtain⟨y4,z4⟩:=q4
 refine CB [(0,0)] [] (q3s hq4) ?_
 refine ggE hr fun g2 hr=>?_
 refine OB _ (bSub g2) ?_
 refine W2 ?_
 refine bdE hr fun q5 hq5 hr=>?_
 obtain⟨y5,z5⟩:=q5
 refine CBz 6 [(0,0),(1,6)] [] (j4u hq5) ?_
 refine W1 ?_
 refine LIR 7 (m:=.fz) (f:=Equation.D) (xs:=[(⟨(⟨(y4 - 1),(⟨#[97]⟩:ByteArray)⟩:Occurrence),y5⟩:Equation)]) ?_
 refine ggE hr fun g3 hr=>?_
 refine AP1 8 .fz 112 g3 ?_
 refine W1 ?_
 refine SB ?_
 refine N0 ?_
 refine sr ?_
 refine W1 ?_
 refine SB ?_
 refine N0 ?_
 refine AW.ret ?_
 cases hr
 exact q0a [(0,0),(2,1),(8,2),(4,3)] 4 hS
 refine q0g rfl (dF h3) ?_
 refine sr ?_
 refine N2 ?_
 refine ifE hr (fun h4 hr=>?_) fun h4 hr=>?_
 refine q0f rfl (dT h4) ?_
 refine q0c ?_
 refine W1 ?_
 refine SB ?_
 refine N0 ?_
 refine sr ?_
 refine W1 ?_
 refine SB ?_
 refine N0 ?_
 refine AW.ret ?_
 cases hr
 exact q0a [(0,0),(2,1),(3,2),(4,3)] 4 hS
 refine q0g rfl (dF h4) ?_
 refine sr ?_
 refine N2 ?_
 refine ifE hr (fun h5 hr=>?_) fun h5 hr=>?_
 refine q0f rfl (dT h5) ?_
 refine q0j (h:=?_)
 refine W5 ?_
 refine LE ?_
 refine ggE hr fun g4 hr=>?_
 refine OB _ (q3B (p:=y1.Right.length) (q:=1) g4) ?_
 refine bdE hr fun q6 hq6 hr=>?_
 obtain⟨y6,z6⟩:=q6
 refine CB [(0,0)] [] (q3s hq6) ?_
 refine ggE hr fun g5 hr=>?_
 refine ggE hr fun g6 hr=>?_
 refine CU 6 g5 g6 ?_
 refine W1 ?_
 refine SB ?_
 refine N0 ?_
 refine sr ?_
 refine W1 ?_
 refine SB ?_
 refine N0 ?_
 refine AW.ret ?_
 cases hr
 exact q0a [(0,0),(6,1),(3,2),(4,3)] 4 hS
 refine q0g rfl (dF h5) ?_
 refine q0b ?_
 refine sr ?_
 refine W1 ?_
 refine SB ?_
 refine N0 ?_
 refine AW.ret ?_
 cases hr
 exact q0a [(0,0),(2,1),(3,2),(4,3)] 4 hS
def z8V:(List Attribute)→Option ((List Attribute) ⊕ ((List Attribute))):=fun s2=>
 if (s2.length:Int) < 5 then (
 ([(⟨#[101]⟩:ByteArray),(⟨#[102]⟩:ByteArray),(⟨#[103]⟩:ByteArray),(⟨#[104]⟩:ByteArray),(⟨#[105]⟩:ByteArray)][s2.length]?).bind fun x5=>
 grd (((s2.length:Int)+1)*40≤140737488355328∧(s2.length:Int)+1≤9223372036854775807) <|
 some (.inl (s2++[(⟨x5,1,2,false⟩:Attribute)]))
 ) else (
 some (.inr s2)
 )
def z3l (o0:l1Cur):Option (Symbol × l1Cur):=
 (q6n [(⟨#[115]⟩:ByteArray),(⟨#[116]⟩:ByteArray),(⟨#[105,102]⟩:ByteArray),(⟨#[108,105,115,116,49]⟩:ByteArray)] o0).bind fun (y1,z1)=>
 (z1W y1 false false (⟨o0.b,z1.i,z1.h⟩:l1Cur)).bind fun (y2,z2)=>
 (q3q 10 (⟨o0.b,z2.i,z2.h⟩:l1Cur)).bind fun (y3,z3)=>
 if y3=0 then (
 (y2.Attributes[0]?).bind fun x1=>
 some ((⟨y2.Name,(List.set y2.Attributes 0 (⟨x1.Name,x1.Type_,x1.Mode,true⟩:Attribute))⟩:Symbol),(⟨o0.b,z3.i,z3.h⟩:l1Cur))
 ) else (
 if y3=1 then (
 (q3q 5 (⟨o0.b,z3.i,z3.h⟩:l1Cur)).bind fun (y4,z4)=>
 (y2.Attributes[0]?).bind fun x2=>
 some ((⟨y2.Name,(List.set y2.Attributes 0 (⟨x2.Name,x2.Type_,y4,x2.Circular⟩:Attribute))⟩:Symbol),(⟨o0.b,z4.i,z4.h⟩:l1Cur))
 ) else (
 if y3=2 then (
 (q3q 6 (⟨o0.b,z3.i,z3.h⟩:l1Cur)).bind fun (y5,z5)=>
 (y2.Attributes[0]?).bind fun x3=>
 some ((⟨y2.Name,(List.set y2.Attributes 0 (⟨x3.Name,y5,x3.Mode,x3.Circular⟩:Attribute))⟩:Symbol),(⟨o0.b,z5.i,z5.h⟩:l1Cur))
 ) else (
 if y3=3 then (
 (q6n [(⟨#[98]⟩:ByteArray),(⟨#[111,102]⟩:ByteArray),(⟨#[]⟩:ByteArray)] (⟨o0.b,z3.i,z3.h⟩:l1Cur)).bind fun (y6,z6)=>
 (y2.Attributes[0]?).bind fun x4=>
 some ((⟨y2.Name,(List.set y2.Attributes 0 (⟨y6,x4.Type_,x4.Mode,x4.Circular⟩:Attribute))⟩:Symbol),(⟨o0.b,z6.i,z6.h⟩:l1Cur))
 ) else (
 if y3=4 then (
 (q5m z8V y2.Attributes).bind fun s1=>
 some ((⟨y2.Name,s1⟩:Symbol),(⟨o0.b,z3.i,z3.h⟩:l1Cur))
 ) else (
 some (y2,(⟨o0.b,z3.i,z3.h⟩:l1Cur))
 )
 )
 )
 )
 )
theorem j4w {o0:l1Cur}{r:(Symbol × l1Cur)}(hr:z3l o0=some r):Ok Tryz.prog 39 [.pb 0 0] [.box [.d .fz (.sl 1 (o0.b.map byD)),.d .fz (.i .i64 o0.i),.d .fz (.i .i64 o0.h)]] (.ag [.d .fz (.s r.1.Name),.ref 1 none]) [.box [.d .fz (.sl 1 (o0.b.map byD)),.d .fz (.i .i64 r.2.i),.d .fz (.i .i64 r.2.h)],.row .fz 4 (r.1.Attributes.map Attribute.D)]:=by
 refine Ok.enter rfl Tryz.func39 rfl rfl rfl fun S hS=>?_
 unfold z3l at hr
 refine sr ?_
 refine NV 1 ?_
 refine N0 ?_
 refine sr ?_
 refine W2 ?_
 refine LIR 2 (m:=.fz) (f:=A.D.s) (xs:=[(⟨#[115]⟩:ByteArray),(⟨#[116]⟩:ByteArray),(⟨#[105,102]⟩:ByteArray),(⟨#[108,105,115,116,49]⟩:ByteArray)]) ?_
 refine bdE hr fun q1 hq1 hr=>?_
 obtain⟨y1,z1⟩:=q1
 refine CB [(0,0)] [2] (q6S (m:=.bo) hq1) ?_
 refine bdE hr fun q2 hq2 hr=>?_
 obtain⟨y2,z2⟩:=q2
 refine CB [(0,0),(1,3)] [] (z8O hq2) ?_
 refine NV 4 ?_
 refine SB ?_
 refine N0 ?_
 refine ssr ?_
 refine W1 ?_
 refine bdE hr fun q3 hq3 hr=>?_
 obtain⟨y3,z3⟩:=q3
 refine CB [(0,0)] [] (q3s hq3) ?_
 refine N0 ?_
 refine AW.block (q0d (q0c ?_))
 refine N2 ?_
 refine ifE hr (fun h1 hr=>?_) fun h1 hr=>?_
 refine q0f rfl (dT h1) ?_
 refine q0c ?_
 refine W2 ?_
 refine bdE hr fun x1 hx1 hr=>?_
 refine IE hx1 (Int.natCast_nonneg _) ?_
 refine W1 ?_
 refine SE (⟨x1.Name,x1.Type_,x1.Mode,true⟩:Attribute) hx1 ?_
 refine N0 ?_
 refine sr ?_
 refine W1 ?_
 refine SB ?_
 refine N0 ?_
 refine AW.ret ?_
 cases hr
 exact q0a [(0,0),(3,1)] 2 hS
 refine q0g rfl (dF h1) ?_
 refine sr ?_
 refine N2 ?_
 refine ifE hr (fun h2 hr=>?_) fun h2 hr=>?_
 refine q0f rfl (dT h2) ?_
 refine q0j (h:=?_)
 refine W3 ?_
 refine bdE hr fun q4 hq4 hr=>?_
 obtain⟨y4,z4⟩:=q4
 refine CB [(0,0)] [] (q3s hq4) ?_
 refine bdE hr fun x2 hx2 hr=>?_
 refine IE hx2 (Int.natCast_nonneg _) ?_
 refine W1 ?_
 refine SE (⟨x2.Name,x2.Type_,y4,x2.Circular⟩:Attribute) hx2 ?_
 refine N0 ?_
 refine sr ?_
 refine W1 ?_
 refine SB ?_
 refine N0 ?_
 refine AW.ret ?_
 cases hr
 exact q0a [(0,0),(3,1)] 2 hS
 refine q0g rfl (dF h2) ?_
 refine sr ?_
 refine N2 ?_
 refine ifE hr (fun h3 hr=>?_) fun h3 hr=>?_
 refine q0f rfl (dT h3) ?_
 refine q0j (h:=?_)
 refine W3 ?_
 refine bdE hr fun q5 hq5 hr=>?_
 obtain⟨y5,z5⟩:=q5
 refine CB [(0,0)] [] (q3s hq5) ?_
 refine bdE hr fun x3 hx3 hr=>?_
 refine IE hx3 (Int.natCast_nonneg _) ?_
 refine W1 ?_
 refine SE (⟨x3.Name,y5,x3.Mode,x3.Circular⟩:Attribute) hx3 ?_
 refine N0 ?_
 refine sr ?_
 refine W1 ?_
 refine SB ?_
 refine N0 ?_
 refine AW.ret ?_
 cases hr
 exact q0a [(0,0),(3,1)] 2 hS
 refine q0g rfl (dF h3) ?_
 refine sr ?_
 refine N2 ?_
 refine ifE hr (fun h4 hr=>?_) fun h4 hr=>?_
 refine q0f rfl (dT h4) ?_
 refine q0j (h:=?_)
 refine W3 ?_
 refine LIR 5 (m:=.fz) (f:=A.D.s) (xs:=[(⟨#[98]⟩:ByteArray),(⟨#[111,102]⟩:ByteArray),(⟨#[]⟩:ByteArray)]) ?_
 refine bdE hr fun q6 hq6 hr=>?_
 obtain⟨y6,z6⟩:=q6
 refine CB [(0,0)] [5] (q6S (m:=.bo) hq6) ?_
 refine bdE hr fun x4 hx4 hr=>?_
 refine IE hx4 (Int.natCast_nonneg _) ?_
 refine W1 ?_
 refine SE (⟨y6,x4.Type_,x4.Mode,x4.Circular⟩:Attribute) hx4 ?_
 refine N0 ?_
 refine sr ?_
 refine W1 ?_
 refine SB ?_
 refine N0 ?_
 refine AW.ret ?_
 cases hr
 exact q0a [(0,0),(3,1)] 2 hS
 refine q0g rfl (dF h4) ?_
 refine sr ?_
 refine N2 ?_
 refine ifE hr (fun h5 hr=>?_) fun h5 hr=>?_
 refine q0f rfl (dT h5) ?_
 refine bdE hr fun s1 hqq7 hr=>?_
 refine q0n 5 [(2,.pb 1 0),(3,.pb 4 0)] [(3,.row .fz 4 (s1.map Attribute.D))] ?_ ?_
 refine AW.block (q0q hqq7 5 (fun s2=>[(2,.pb 1 0),(3,.pb 4 0)]) (fun s2=>[(3,.row .fz 4 (s2.map Attribute.D))]) (q0e hS 5) fun sk1 ok1 hr hik1=>?_)
 obtain⟨s2,rfl⟩:∃ y,y=sk1:=⟨_,rfl⟩
 have hr:=hr
 refine ssr ?_
 refine W2 ?_
 refine LE ?_
 refine N1 ?_
 refine ifE hr (fun h6 hr=>?_) fun h6 hr=>?_
 refine q0f rfl (dT h6) ?_
 refine q0b ?_
 refine AW.block (q0j (h:=?_))
 refine W2 ?_
 refine LIR 5 (m:=.fz) (f:=A.D.s) (xs:=[(⟨#[101]⟩:ByteArray),(⟨#[102]⟩:ByteArray),(⟨#[103]⟩:ByteArray),(⟨#[104]⟩:ByteArray),(⟨#[105]⟩:ByteArray)]) ?_
 refine W2 ?_
 refine LE ?_
 refine bdE hr fun x5 hx5 hr=>?_
 refine IE hx5 (Int.natCast_nonneg _) ?_
 refine LP hx5 ?_
 refine W1 ?_
 refine LIR 6 (m:=.fz) (f:=Attribute.D) (xs:=[(⟨x5,1,2,false⟩:Attribute)]) ?_
 refine ggE hr fun g1 hr=>?_
 refine APf1 (f:=Attribute.D) 7 (fun _=>rfl) 40 g1 ?_
 refine W1 ?_
 refine SB ?_
 refine N0 ?_
 cases hr
 exact⟨_,rfl,q0l hS [(0,0),(1,1),(2,2),(7,3),(4,4)] 5⟩
 refine q0g rfl (dF h6) ?_
 refine q0i ?_
 cases hr
 cases hik1 _ rfl
 exact q0e hS 5
 refine sr ?_
 refine W1 ?_
 refine SB ?_
 refine N0 ?_
 refine AW.ret ?_
 cases hr
 exact q0a [(0,0),(3,1)] 2 hS
 refine q0g rfl (dF h5) ?_
 refine q0b ?_
 refine sr ?_
 refine W1 ?_
 refine SB ?_
 refine N0 ?_
 refine AW.ret ?_
 cases hr
 exact q0a [(0,0),(3,1)] 2 hS
def z2a (o0:l1Cur):Option (Grammar × l1Cur):=
 (q4g 2 o0).bind fun (y1,z1)=>
 (z0K y1 (⟨o0.b,z1.i,z1.h⟩:l1Cur)).bind fun (y2,z2)=>
 (q3q (y2.Rules.length:Int) (⟨o0.b,z2.i,z2.h⟩:l1Cur)).bind fun (y3,z3)=>
 (q3q 14 (⟨o0.b,z3.i,z3.h⟩:l1Cur)).bind fun (y4,z4)=>
 if y4=0 then (
 (z3k (⟨o0.b,z4.i,z4.h⟩:l1Cur)).bind fun (y5,z5)=>
 grd (0≤y3) <|
 (y2.Rules[y3.toNat]?).bind fun x1=>
 some ((⟨y2.Symbols,(List.set y2.Rules y3.toNat y5)⟩:Grammar),(⟨o0.b,z5.i,z5.h⟩:l1Cur))
 ) else (
 if y4=1 then (
 (z3l (⟨o0.b,z4.i,z4.h⟩:l1Cur)).bind fun (y6,z6)=>
 (y2.Symbols[0]?).bind fun x2=>
 some ((⟨(List.set y2.Symbols 0 y6),y2.Rules⟩:Grammar),(⟨o0.b,z6.i,z6.h⟩:l1Cur))
 ) else (
 if y4=2 then (
 (y2.Rules[0]?).bind fun x3=>
 grd (0≤y3) <|
 (y2.Rules[y3.toNat]?).bind fun x4=>
 some ((⟨y2.Symbols,(List.set y2.Rules y3.toNat (⟨x3.Name,x4.Left,x4.Right,x4.Literal,x4.Equations,x4.Contributions⟩:Rule))⟩:Grammar),(⟨o0.b,z4.i,z4.h⟩:l1Cur))
 ) else (
 if y4=3 then (
 grd (0≤y3) <|
 (y2.Rules[y3.toNat]?).bind fun x5=>
 if 0 < (x5.Equations.length:Int) then (
 grd (1≤x5.Equations.length) <|
 some ((⟨y2.Symbols,(List.set y2.Rules y3.toNat (⟨x5.Name,x5.Left,x5.Right,x5.Literal,(x5.Equations.drop 1),x5.Contributions⟩:Rule))⟩:Grammar),(⟨o0.b,z4.i,z4.h⟩:l1Cur))
 ) else (
 some (y2,(⟨o0.b,z4.i,z4.h⟩:l1Cur))
 )
 ) else (
 if y4=4 then (
 grd (0≤y3) <|
 (y2.Rules[y3.toNat]?).bind fun x6=>
 if 0 < (x6.Equations.length:Int) then (
 (x6.Equations[0]?).bind fun x7=>
 grd (((x6.Equations.length:Int)+1)*112≤140737488355328∧(x6.Equations.length:Int)+1≤9223372036854775807) <|
 some ((⟨y2.Symbols,(List.set y2.Rules y3.toNat (⟨x6.Name,x6.Left,x6.Right,x6.Literal,(x6.Equations++[x7]),x6.Contributions⟩:Rule))⟩:Grammar),(⟨o0.b,z4.i,z4.h⟩:l1Cur))
 ) else (
 some (y2,(⟨o0.b,z4.i,z4.h⟩:l1Cur))
 )
 ) else (
 if y4=5 then (
 (q6n [(⟨#[115]⟩:ByteArray),(⟨#[122]⟩:ByteArray)] (⟨o0.b,z4.i,z4.h⟩:l1Cur)).bind fun (y7,z7)=>
 grd (0≤y3) <|
 (y2.Rules[y3.toNat]?).bind fun x8=>
 some ((⟨y2.Symbols,(List.set y2.Rules y3.toNat (⟨x8.Name,y7,x8.Right,x8.Literal,x8.Equations,x8.Contributions⟩:Rule))⟩:Grammar),(⟨o0.b,z7.i,z7.h⟩:l1Cur))
 ) else (
 if y4=6 then (
 grd (0≤y3) <|
 (y2.Rules[y3.toNat]?).bind fun x9=>
 if 0 < (x9.Equations.length:Int) then (
 (z1Z (⟨o0.b,z4.i,z4.h⟩:l1Cur)).bind fun (y8,z8)=>
 (x9.Equations[0]?).bind fun x10=>
 some ((⟨y2.Symbols,(List.set y2.Rules y3.toNat (⟨x9.Name,x9.Left,x9.Right,x9.Literal,(List.set x9.Equations 0 (⟨x10.At,y8⟩:Equation)),x9.Contributions⟩:Rule))⟩:Grammar),(⟨o0.b,z8.i,z8.h⟩:l1Cur))
 ) else (
 some (y2,(⟨o0.b,z4.i,z4.h⟩:l1Cur))
 )
 ) else (
 some (y2,(⟨o0.b,z4.i,z4.h⟩:l1Cur))
 )
 )
 )
 )
 )
 )
 )
theorem j2n {o0:l1Cur}{r:(Grammar × l1Cur)}(hr:z2a o0=some r):Ok Tryz.prog 16 [.pb 0 0] [.box [.d .fz (.sl 1 (o0.b.map byD)),.d .fz (.i .i64 o0.i),.d .fz (.i .i64 o0.h)]] (.ag [.ref 1 none,.d .fz (.sl 6 (r.1.Rules.map Rule.D))]) [.box [.d .fz (.sl 1 (o0.b.map byD)),.d .fz (.i .i64 r.2.i),.d .fz (.i .i64 r.2.h)],.deep .fz 2 (r.1.Symbols.map Symbol.O) []]:=by
 refine Ok.enter rfl Tryz.func16 rfl rfl rfl fun S hS=>?_
 unfold z2a at hr
 refine sr ?_
 refine NV 1 ?_
 refine N0 ?_
 refine sr ?_
 refine W2 ?_
 refine bdE hr fun q1 hq1 hr=>?_
 obtain⟨y1,z1⟩:=q1
 refine CB [(0,0)] [] (q4y hq1) ?_
 refine bdE hr fun q2 hq2 hr=>?_
 obtain⟨y2,z2⟩:=q2
 refine CB [(0,0),(1,2),(2,3)] [] (z7j hq2) ?_
 refine NV 4 ?_
 refine SB ?_
 refine N0 ?_
 refine sr ?_
 refine W3 ?_
 refine LEd y2.Rules.length ?_
 refine bdE hr fun q3 hq3 hr=>?_
 obtain⟨y3,z3⟩:=q3
 refine CB [(0,0)] [] (q3s hq3) ?_
 refine N1 ?_
 refine ssr ?_
 refine W1 ?_
 refine bdE hr fun q4 hq4 hr=>?_
 obtain⟨y4,z4⟩:=q4
 refine CB [(0,0)] [] (q3s hq4) ?_
 refine N0 ?_
 refine AW.block (q0d (q0c ?_))
 refine N2 ?_
 refine ifE hr (fun h1 hr=>?_) fun h1 hr=>?_
 refine q0f rfl (dT h1) ?_
 refine q0j (h:=?_)
 refine W4 ?_
 refine bdE hr fun q5 hq5 hr=>?_
 obtain⟨y5,z5⟩:=q5
 refine CB [(0,0),(1,5),(2,6),(3,7)] [] (j4v hq5) ?_
 refine ggE hr fun g1 hr=>?_
 refine bdE hr fun x1 hx1 hr=>?_
 refine IEd g1 (q3A hx1) ?_
 refine SD [.d .fz (.s y5.Name),.d .fz (.s y5.Left),.o .fz 1 (y5.Right.map A.D.s),.d .fz (.b y5.Literal),.o .fz 9 (y5.Equations.map Equation.D),.o .fz 16 (y5.Contributions.map Contribution.D)] [5,6,7] (q3A hx1) ?_
 refine N0 ?_
 refine sr ?_
 refine W1 ?_
 refine SB ?_
 refine N0 ?_
 refine AW.ret ?_
 refine endA.gh (q0u 3 (he:=eset (f:=Rule.O) (x':=y5) (by first | rfl | (simp only [List.set_set]; rfl)))) ?_
 refine endA.gh (q0x 3 Rule.D (by exact fun _=>rfl) rfl) ?_
 cases hr
 exact q0a [(0,0),(2,1)] 2 hS
 refine q0g rfl (dF h1) ?_
 refine sr ?_
 refine N2 ?_
 refine ifE hr (fun h2 hr=>?_) fun h2 hr=>?_
 refine q0f rfl (dT h2) ?_
 refine q0j (h:=?_)
 refine W3 ?_
 refine bdE hr fun q6 hq6 hr=>?_
 obtain⟨y6,z6⟩:=q6
 refine CB [(0,0),(1,5)] [] (j4w hq6) ?_
 refine bdE hr fun x2 hx2 hr=>?_
 refine IEd (Int.natCast_nonneg _) (q3A hx2) ?_
 refine SD [.d .fz (.s y6.Name),.o .fz 4 (y6.Attributes.map Attribute.D)] [5] (q3A hx2) ?_
 refine N0 ?_
 refine sr ?_
 refine W1 ?_
 refine SB ?_
 refine N0 ?_
 refine AW.ret ?_
 refine endA.gh (q0u 2 (he:=eset (f:=Symbol.O) (x':=y6) (by first | rfl | (simp only [List.set_set]; rfl)))) ?_
 refine endA.gh (q0x 3 Rule.D (by exact fun _=>rfl) rfl) ?_
 cases hr
 exact q0a [(0,0),(2,1)] 2 hS
 refine q0g rfl (dF h2) ?_
 refine sr ?_
 refine N2 ?_
 refine ifE hr (fun h3 hr=>?_) fun h3 hr=>?_
 refine q0f rfl (dT h3) ?_
 refine q0j (h:=?_)
 refine W5 ?_
 refine bdE hr fun x3 hx3 hr=>?_
 refine IEd (Int.natCast_nonneg _) (q3A hx3) ?_
 refine W1 ?_
 refine LPd [] (q3A hx3) ?_
 refine ggE hr fun g2 hr=>?_
 refine bdE hr fun x4 hx4 hr=>?_
 refine IEd g2 (q3A hx4) ?_
 refine W1 ?_
 refine SD [.d .fz (.s x3.Name)] [] (q3A hx4) ?_
 refine N0 ?_
 refine sr ?_
 refine W1 ?_
 refine SB ?_
 refine N0 ?_
 refine AW.ret ?_
 refine endA.gh (q0u 3 (he:=eset (f:=Rule.O) (x':=(⟨x3.Name,x4.Left,x4.Right,x4.Literal,x4.Equations,x4.Contributions⟩:Rule)) (by first | rfl | (simp only [List.set_set]; rfl)))) ?_
 refine endA.gh (q0x 3 Rule.D (by exact fun _=>rfl) rfl) ?_
 cases hr
 exact q0a [(0,0),(2,1)] 2 hS
 refine q0g rfl (dF h3) ?_
 refine sr ?_
 refine N2 ?_
 refine ifE hr (fun h4 hr=>?_) fun h4 hr=>?_
 refine q0f rfl (dT h4) ?_
 refine sr ?_
 refine W3 ?_
 refine ggE hr fun g3 hr=>?_
 refine bdE hr fun x5 hx5 hr=>?_
 refine IEd g3 (q3A hx5) ?_
 refine W1 ?_
 refine AL.out 3 y3.toNat 4 5 (q3A hx5) ?_
 refine LPd [(4,5)] (q3u (q3A hx5)) ?_
 refine LE ?_
 refine N1 ?_
 refine ifE hr (fun h5 hr=>?_) fun h5 hr=>?_
 refine q0f rfl (dT h5) ?_
 refine q0j (h:=?_)
 refine W5 ?_
 refine W1 ?_
 refine IEd g3 (q3u (q3A hx5)) ?_
 refine W1 ?_
 refine LPd [(4,5)] (q3u (q3A hx5)) ?_
 refine ggE hr fun g4 hr=>?_
 refine SVL (xs:=x5.Equations) (a:=1) (by decide) g4 ?_
 refine IEd g3 (q3u (q3A hx5)) ?_
 refine W1 ?_
 refine AL.fz 5 rfl ?_
 refine q3l 62 (.d .fz (.sl 9 ((x5.Equations.drop 1).map Equation.D))) (congrArg (fun l=>X.d .fz (.sl 9 l)) j8U) ?_
 refine SD [.d .fz (.sl 9 ((x5.Equations.drop 1).map Equation.D))] [] (q3u (q3A hx5)) ?_
 refine q2C (f:=Rule.O) 3 Rule.D (⟨x5.Name,x5.Left,x5.Right,x5.Literal,(x5.Equations.drop 1),x5.Contributions⟩:Rule) (by exact fun _=>rfl) hx5 ?_
 refine N0 ?_
 refine sr ?_
 refine W1 ?_
 refine SB ?_
 refine N0 ?_
 refine AW.ret ?_
 cases hr
 exact q0a [(0,0),(2,1)] 2 hS
 refine q0g rfl (dF h5) ?_
 refine q0b ?_
 refine sr ?_
 refine W1 ?_
 refine SB ?_
 refine N0 ?_
 refine AW.ret ?_
 refine endA.gh (q0v 3 y3.toNat 4 5 (q3u (q3A hx5))) ?_
 refine endA.gh (q0u 3 (he:=j2c (f:=Rule.O) hx5 (by first | rfl | (simp only [List.set_set]; rfl)))) ?_
 refine endA.gh (q0x 3 Rule.D (by exact fun _=>rfl) rfl) ?_
 cases hr
 exact q0a [(0,0),(2,1)] 2 hS
 refine q0g rfl (dF h4) ?_
 refine sr ?_
 refine N2 ?_
 refine ifE hr (fun h6 hr=>?_) fun h6 hr=>?_
 refine q0f rfl (dT h6) ?_
 refine sr ?_
 refine W3 ?_
 refine ggE hr fun g5 hr=>?_
 refine bdE hr fun x6 hx6 hr=>?_
 refine IEd g5 (q3A hx6) ?_
 refine W1 ?_
 refine AL.out 3 y3.toNat 4 5 (q3A hx6) ?_
 refine LPd [(4,5)] (q3u (q3A hx6)) ?_
 refine LE ?_
 refine N1 ?_
 refine ifE hr (fun h7 hr=>?_) fun h7 hr=>?_
 refine q0f rfl (dT h7) ?_
 refine q0j (h:=?_)
 refine W5 ?_
 refine W1 ?_
 refine IEd g5 (q3u (q3A hx6)) ?_
 refine W1 ?_
 refine LPd [(4,5)] (q3u (q3A hx6)) ?_
 refine W3 ?_
 refine IEd g5 (q3u (q3A hx6)) ?_
 refine W1 ?_
 refine LPd [(4,5)] (q3u (q3A hx6)) ?_
 refine bdE hr fun x7 hx7 hr=>?_
 refine IE hx7 (Int.natCast_nonneg _) ?_
 refine LPa hx7 ?_
 refine LIR 6 (m:=.fz) (f:=Equation.D) (xs:=[x7]) ?_
 refine ggE hr fun g6 hr=>?_
 refine AP1 7 .fz 112 g6 ?_
 refine IEd g5 (q3u (q3A hx6)) ?_
 refine W1 ?_
 refine SD [.o .fz 9 ((x6.Equations++[x7]).map Equation.D)] [7] (q3u (q3A hx6)) ?_
 refine N0 ?_
 refine sr ?_
 refine W1 ?_
 refine SB ?_
 refine N0 ?_
 refine AW.ret ?_
 refine endA.gh (q0u 3 (he:=eset (f:=Rule.O) (x':=(⟨x6.Name,x6.Left,x6.Right,x6.Literal,(x6.Equations++[x7]),x6.Contributions⟩:Rule)) (by first | rfl | (simp only [List.set_set]; rfl)))) ?_
 refine endA.gh (q0x 3 Rule.D (by exact fun _=>rfl) rfl) ?_
 cases hr
 exact q0a [(0,0),(2,1)] 2 hS
 refine q0g rfl (dF h7) ?_
 refine q0b ?_
 refine sr ?_
 refine W1 ?_
 refine SB ?_
 refine N0 ?_
 refine AW.ret ?_
 refine endA.gh (q0v 3 y3.toNat 4 5 (q3u (q3A hx6))) ?_
 refine endA.gh (q0u 3 (he:=j2c (f:=Rule.O) hx6 (by first | rfl | (simp only [List.set_set]; rfl)))) ?_
 refine endA.gh (q0x 3 Rule.D (by exact fun _=>rfl) rfl) ?_
 cases hr
 exact q0a [(0,0),(2,1)] 2 hS
 refine q0g rfl (dF h6) ?_
 refine sr ?_
 refine N2 ?_
 refine ifE hr (fun h8 hr=>?_) fun h8 hr=>?_
 refine q0f rfl (dT h8) ?_
 refine q0j (h:=?_)
 refine W4 ?_
 refine LIR 5 (m:=.fz) (f:=A.D.s) (xs:=[(⟨#[115]⟩:ByteArray),(⟨#[122]⟩:ByteArray)]) ?_
 refine bdE hr fun q7 hq7 hr=>?_
 obtain⟨y7,z7⟩:=q7
 refine CB [(0,0)] [5] (q6S (m:=.bo) hq7) ?_
 refine ggE hr fun g7 hr=>?_
 refine bdE hr fun x8 hx8 hr=>?_
 refine IEd g7 (q3A hx8) ?_
 refine W1 ?_
 refine SD [.d .fz (.s y7)] [] (q3A hx8) ?_
 refine N0 ?_
 refine sr ?_
 refine W1 ?_
 refine SB ?_
 refine N0 ?_
 refine AW.ret ?_
 refine endA.gh (q0u 3 (he:=eset (f:=Rule.O) (x':=(⟨x8.Name,y7,x8.Right,x8.Literal,x8.Equations,x8.Contributions⟩:Rule)) (by first | rfl | (simp only [List.set_set]; rfl)))) ?_
 refine endA.gh (q0x 3 Rule.D (by exact fun _=>rfl) rfl) ?_
 cases hr
 exact q0a [(0,0),(2,1)] 2 hS
 refine q0g rfl (dF h8) ?_
 refine sr ?_
 refine N2 ?_
 refine ifE hr (fun h9 hr=>?_) fun h9 hr=>?_
 refine q0f rfl (dT h9) ?_
 refine sr ?_
 refine W3 ?_
 refine ggE hr fun g8 hr=>?_
 refine bdE hr fun x9 hx9 hr=>?_
 refine IEd g8 (q3A hx9) ?_
 refine W1 ?_
 refine AL.out 3 y3.toNat 4 5 (q3A hx9) ?_
 refine LPd [(4,5)] (q3u (q3A hx9)) ?_
 refine LE ?_
 refine N1 ?_
 refine ifE hr (fun h10 hr=>?_) fun h10 hr=>?_
 refine q0f rfl (dT h10) ?_
 refine q0j (h:=?_)
 refine W3 ?_
 refine IEd g8 (q3u (q3A hx9)) ?_
 refine W1 ?_
 refine LPd [(4,5)] (q3u (q3A hx9)) ?_
 refine W1 ?_
 refine bdE hr fun q8 hq8 hr=>?_
 obtain⟨y8,z8⟩:=q8
 refine CBz 6 [(0,0),(1,6)] [] (z8U hq8) ?_
 refine bdE hr fun x10 hx10 hr=>?_
 refine IE hx10 (Int.natCast_nonneg _) ?_
 refine W1 ?_
 refine SE (⟨x10.At,y8⟩:Equation) hx10 ?_
 refine N0 ?_
 refine sr ?_
 refine W1 ?_
 refine SB ?_
 refine N0 ?_
 refine AW.ret ?_
 refine endA.gh (q0v 3 y3.toNat 4 5 (q3u (q3A hx9))) ?_
 refine endA.gh (q0u 3 (he:=eset (f:=Rule.O) (x':=(⟨x9.Name,x9.Left,x9.Right,x9.Literal,(List.set x9.Equations 0 (⟨x10.At,y8⟩:Equation)),x9.Contributions⟩:Rule)) (by first | rfl | (simp only [List.set_set]; rfl)))) ?_
 refine endA.gh (q0x 3 Rule.D (by exact fun _=>rfl) rfl) ?_
 cases hr
 exact q0a [(0,0),(2,1)] 2 hS
 refine q0g rfl (dF h10) ?_
 refine q0b ?_
 refine sr ?_
 refine W1 ?_
 refine SB ?_
 refine N0 ?_
 refine AW.ret ?_
 refine endA.gh (q0v 3 y3.toNat 4 5 (q3u (q3A hx9))) ?_
 refine endA.gh (q0u 3 (he:=j2c (f:=Rule.O) hx9 (by first | rfl | (simp only [List.set_set]; rfl)))) ?_
 refine endA.gh (q0x 3 Rule.D (by exact fun _=>rfl) rfl) ?_
 cases hr
 exact q0a [(0,0),(2,1)] 2 hS
 refine q0g rfl (dF h9) ?_
 refine q0b ?_
 refine sr ?_
 refine W1 ?_
 refine SB ?_
 refine N0 ?_
 refine AW.ret ?_
 refine endA.gh (q0x 3 Rule.D (by exact fun _=>rfl) rfl) ?_
 cases hr
 exact q0a [(0,0),(2,1)] 2 hS
def q7o:Nat→Attribute→((List Attribute))→Option ((List Attribute)):=fun k1 xk1 s1=>
 (
 if xk1.Mode=1 then (
 grd (((s1.length:Int)+1)*40≤140737488355328∧(s1.length:Int)+1≤9223372036854775807) <|
 some (s1++[xk1])
 ) else (
 if xk1.Mode=2 then (
 grd (((s1.length:Int)+1)*40≤140737488355328∧(s1.length:Int)+1≤9223372036854775807) <|
 some (s1++[xk1])
 ) else (
 some s1
 )
 )
 ).bind fun s2=>
 some s2
def q6G (a0:Grammar)(a1:ByteArray):Option (List Attribute):=
 (q4C a0 a1).bind fun (y1,y2)=>
 (eachL q7o 0 y1.Attributes ([]:List Attribute)).bind fun s1=>
 some s1
theorem z4s {m:Md}{a0:Grammar}{a1:ByteArray}{r:(List Attribute)}(hr:q6G a0 a1=some r):Ok Tryz.prog 63 [Grammar.y m a0,.d .fz (.s a1)] [] (.ref 0 none) [.row .fz 4 (r.map Attribute.D)]:=by
 refine Ok.enter rfl Tryz.func63 rfl rfl rfl fun S hS=>?_
 unfold q6G at hr
 refine sr ?_
 refine BX 0 ?_
 refine N1 ?_
 refine sr ?_
 refine L0 1 Attribute.D ?_
 refine N1 ?_
 refine sr ?_
 refine W2 ?_
 refine bdE hr fun q1 hq1 hr=>?_
 obtain⟨y1,y2⟩:=q1
 refine CB [(0,2)] [] (q5C (m:=m) hq1) ?_
 refine W3 ?_
 refine NV 3 ?_
 refine SB ?_
 refine N1 ?_
 refine ssr ?_
 refine N1 ?_
 refine AW.block ?_
 refine q0r 2 rfl fun hl1=>?_
 refine bdE hr fun s1 hqq2 hr=>?_
 refine q0o hqq2 hl1 4 (fun k1 s1=>[(5,.ref 1 none),(6,.pb 3 0),(8,.d .fz (.i .i64 (k1:Int)))]) (fun k1 s1=>[(1,.row .fz 4 (s1.map Attribute.D))]) (GH.trans (q0m (q:=0) [.d m (.sl 2 (a0.Symbols.map Symbol.D)),.u] (.cons .rfl (.cons .u .nil)) rfl) (q0e hS 4)) (fun k1 xk1 sk1 ok1 hxk1 hr hltk1=>?_) fun k1 hltk1=>?_
 obtain⟨s1,rfl⟩:∃ y,y=sk1:=⟨_,rfl⟩
 refine ssr ?_
 refine W3 ?_
 refine LE ?_
 refine N1 ?_
 refine q0f rfl (dT hltk1) ?_
 refine q0b ?_
 refine bdE hr fun s2 hqq3 hr=>?_
 refine q0d (q0n 4 [(5,.ref 1 none),(6,.pb 3 0),(8,.d .fz (.i .i64 (k1:Int)))] [(1,.row .fz 4 (s2.map Attribute.D))] ?_ ?_)
 replace hr:=hqq3
 refine AW.block (q0d (q0c ?_))
 refine W3 ?_
 refine IE hxk1 (Int.natCast_nonneg _) ?_
 refine W1 ?_
 refine LP hxk1 ?_
 refine W1 ?_
 refine ifE hr (fun h1 hr=>?_) fun h1 hr=>?_
 refine VT rfl (dT h1) ?_
 iterate 7 refine AL.off ?_
 refine N1 ?_
 refine q0f rfl rfl ?_
 refine q0c ?_
 refine W4 ?_
 refine IE hxk1 (Int.natCast_nonneg _) ?_
 refine LPa hxk1 ?_
 refine LIR 4 (m:=.fz) (f:=Attribute.D) (xs:=[xk1]) ?_
 refine ggE hr fun g1 hr=>?_
 refine APf1 (f:=Attribute.D) 5 (fun _=>rfl) 40 g1 ?_
 refine N1 ?_
 cases hr
 exact GH.trans (q0m (q:=0) [.d m (.sl 2 (a0.Symbols.map Symbol.D)),.u] (.cons .rfl (.cons .u .nil)) rfl) (q0l hS [(0,0),(5,1),(2,2),(3,3)] 4)
 refine VF rfl (dF h1) ?_
 refine W3 ?_
 refine IE hxk1 (Int.natCast_nonneg _) ?_
 refine W1 ?_
 refine LP hxk1 ?_
 refine N2 ?_
 refine ifE hr (fun h2 hr=>?_) fun h2 hr=>?_
 refine q0f rfl (dT h2) ?_
 refine q0c ?_
 refine W4 ?_
 refine IE hxk1 (Int.natCast_nonneg _) ?_
 refine LPa hxk1 ?_
 refine LIR 4 (m:=.fz) (f:=Attribute.D) (xs:=[xk1]) ?_
 refine ggE hr fun g2 hr=>?_
 refine APf1 (f:=Attribute.D) 5 (fun _=>rfl) 40 g2 ?_
 refine N1 ?_
 cases hr
 exact GH.trans (q0m (q:=0) [.d m (.sl 2 (a0.Symbols.map Symbol.D)),.u] (.cons .rfl (.cons .u .nil)) rfl) (q0l hS [(0,0),(5,1),(2,2),(3,3)] 4)
 refine q0g rfl (dF h2) ?_
 refine q0b ?_
 cases hr
 exact GH.trans (q0m (q:=0) [.d m (.sl 2 (a0.Symbols.map Symbol.D)),.u] (.cons .rfl (.cons .u .nil)) rfl) (q0e hS 4)
 refine q0c ?_
 refine W1 ?_
 refine OB _ (q3B (p:=k1) (q:=1) (q3m hltk1 hl1)) ?_
 refine N1 ?_
 cases hr
 exact GH.trans (q0m (q:=0) [.d m (.sl 2 (a0.Symbols.map Symbol.D)),.u] (.cons .rfl (.cons .u .nil)) rfl) (q0e hS 4)
 refine ssr ?_
 refine W3 ?_
 refine LE ?_
 refine N1 ?_
 refine q0g rfl (dF hltk1) ?_
 refine q0i ?_
 refine sr ?_
 refine N2 ?_
 refine AW.ret ?_
 cases hr
 exact q0a [(1,0)] 1 hS
def z2b (s3:Int):Nat→Attribute→((List Occurrence))→Option ((List Occurrence)):=fun k2 xk2 s4=>
 grd (((s4.length:Int)+1)*24≤140737488355328∧(s4.length:Int)+1≤9223372036854775807) <|
 some (s4++[(⟨s3,xk2.Name⟩:Occurrence)])
def q6j (a0:Grammar)(a1:Rule):((List Occurrence) × Int)→Option (((List Occurrence) × Int) ⊕ ((List Occurrence))):=fun (s2,s3)=>
 if s3≤(a1.Right.length:Int) then (
 (q4P a1 s3).bind fun y1=>
 (q6G a0 y1).bind fun y2=>
 (eachL (z2b s3) 0 y2 s2).bind fun s4=>
 grd (I64 (s3+1)) <|
 some (.inl (s4,(s3+1)))
 ) else (
 some (.inr s2)
 )
def q7A (a0:Grammar)(a1:Rule):Option (List Occurrence):=
 (q5m (q6j a0 a1) (([]:List Occurrence),0)).bind fun s1=>
 some s1
theorem z5x {m:Md}{a0:Grammar}{a1:Rule}{r:(List Occurrence)}(hr:q7A a0 a1=some r):Ok Tryz.prog 29 [Grammar.y m a0,Rule.x m a1] [] (.ref 0 none) [.row .fz 2 (r.map Occurrence.D)]:=by
 refine Ok.enter rfl Tryz.func29 rfl rfl rfl fun S hS=>?_
 unfold q7A at hr
 refine sr ?_
 refine BX 0 ?_
 refine BX 1 ?_
 refine N1 ?_
 refine sr ?_
 refine L0 2 Occurrence.D ?_
 refine N1 ?_
 refine ssr ?_
 refine N1 ?_
 refine bdE hr fun s1 hqq1 hr=>?_
 refine q0n 3 [(5,.ref 2 none)] [(2,.row .fz 2 (s1.map Occurrence.D))] ?_ ?_
 refine AW.block (q0q hqq1 3 (fun (s2,s3)=>[(2,.pb 0 0),(3,.pb 1 0),(5,.ref 2 none),(6,.d .fz (.i .i64 s3))]) (fun (s2,s3)=>[(2,.row .fz 2 (s2.map Occurrence.D))]) (GH.trans (q0m (q:=0) [.d m (.sl 2 (a0.Symbols.map Symbol.D)),.u] (.cons .rfl (.cons .u .nil)) rfl) (q0e hS 3)) fun sk1 ok1 hr hik1=>?_)
 obtain⟨s2,s3⟩:=sk1
 have hr:=hr
 refine ssr ?_
 refine W3 ?_
 refine LF ?_
 refine N1 ?_
 refine ifE hr (fun h1 hr=>?_) fun h1 hr=>?_
 refine q0f rfl (dT h1) ?_
 refine q0b ?_
 refine q0d (AW.block (q0d (q0j (h:=?_))))
 refine W3 ?_
 refine bdE hr fun y1 hy1 hr=>?_
 refine CB [] [] (q6F (m:=m) hy1) ?_
 refine bdE hr fun y2 hy2 hr=>?_
 refine CB [(0,3)] [] (z4s (m:=m) hy2) ?_
 refine N1 ?_
 refine sr ?_
 refine N1 ?_
 refine AW.block ?_
 refine q0r 3 rfl fun hl2=>?_
 refine bdE hr fun s4 hqq2 hr=>?_
 refine q0o hqq2 hl2 4 (fun k2 s4=>[(2,.pb 0 0),(3,.pb 1 0),(5,.ref 2 none),(6,.d .fz (.i .i64 s3)),(7,.ref 3 none),(8,.d .fz (.i .i64 (k2:Int)))]) (fun k2 s4=>[(2,.row .fz 2 (s4.map Occurrence.D))]) (GH.trans (q0m (q:=0) [.d m (.sl 2 (a0.Symbols.map Symbol.D)),.u] (.cons .rfl (.cons .u .nil)) rfl) (q0e hS 4)) (fun k2 xk2 sk2 ok2 hxk2 hr hltk2=>?_) fun k2 hltk2=>?_
 obtain⟨s4,rfl⟩:∃ y,y=sk2:=⟨_,rfl⟩
 refine ssr ?_
 refine W2 ?_
 refine LE ?_
 refine N1 ?_
 refine q0f rfl (dT hltk2) ?_
 refine q0b ?_
 refine q0d (AW.block (q0c ?_))
 refine W4 ?_
 refine IE hxk2 (Int.natCast_nonneg _) ?_
 refine W1 ?_
 refine LP hxk2 ?_
 refine W1 ?_
 refine LIR 4 (m:=.fz) (f:=Occurrence.D) (xs:=[(⟨s3,xk2.Name⟩:Occurrence)]) ?_
 refine ggE hr fun g1 hr=>?_
 refine APf1 (f:=Occurrence.D) 5 (fun _=>rfl) 24 g1 ?_
 refine N1 ?_
 refine q0c ?_
 refine W1 ?_
 refine OB _ (q3B (p:=k2) (q:=1) (q3m hltk2 hl2)) ?_
 refine N1 ?_
 cases hr
 exact GH.trans (q0m (q:=0) [.d m (.sl 2 (a0.Symbols.map Symbol.D)),.u] (.cons .rfl (.cons .u .nil)) rfl) (q0l hS [(0,0),(1,1),(5,2),(3,3)] 4)
 refine ssr ?_
 refine W2 ?_
 refine LE ?_
 refine N1 ?_
 refine q0g rfl (dF hltk2) ?_
 refine q0i ?_
 refine q0c ?_
 refine W1 ?_
 refine ggE hr fun g2 hr=>?_
 refine OB _ (bAdd g2) ?_
 refine N1 ?_
 cases hr
 exact⟨_,rfl,GH.trans (q0m (q:=0) [.d m (.sl 2 (a0.Symbols.map Symbol.D)),.u] (.cons .rfl (.cons .u .nil)) rfl) (q0e hS 3)⟩
 refine q0g rfl (dF h1) ?_
 refine q0i ?_
 cases hr
 cases hik1 _ rfl
 exact GH.trans (q0m (q:=0) [.d m (.sl 2 (a0.Symbols.map Symbol.D)),.u] (.cons .rfl (.cons .u .nil)) rfl) (q0e hS 3)
 refine sr ?_
 refine N2 ?_
 refine AW.ret ?_
 cases hr
 exact q0a [(2,0)] 1 hS
end Go.Proofs.YtibagkppfnjgcaaGreat
