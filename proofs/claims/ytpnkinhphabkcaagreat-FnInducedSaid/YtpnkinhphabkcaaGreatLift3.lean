/- What some functions of the program compute, as partial functions on plain data, and that they do; each lemma bears its conditions in its statement. -/
import Derived.Test.YtpnkinhphabkcaaGreatLift2
set_option linter.unusedVariables false
set_option linter.unusedSimpArgs false
set_option linter.ambiguousOpen false
set_option linter.unusedSectionVars false
set_option linter.unnecessarySimpa false
set_option maxRecDepth 100000
set_option maxHeartbeats 40000000
noncomputable section
namespace Go.Proofs.YtpnkinhphabkcaaGreat
open Go Go.E Go.A
def z0j (a0:Expr)(a1:Int):Option Bool:=
 (q8i a0).bind fun y1=>
 if y1=true then (
 (z5z a0 a1).bind fun y2=>
 some y2
 ) else (
 some false
 )
theorem z7o {m:Md}{a0:Expr}{a1:Int}{r:Bool}(hr:z0j a0 a1=some r):Ok Tryz.prog 151 [Expr.x m a0,dI a1] [] (dB r) []:=by
 refine OE Tryz.func151 fun S hS=>?_
 unfold z0j at hr
 refine J g<|J (BX' 0)<|bdE hr fun y1 hy1 hr=>J g<|J (CB' [] [] (z3D (m:=m) hy1))<|ifE hr ?_ ?_<;>intro h1 hr
 refine bdE hr fun y2 hy2 hr=>J g<|J (CB' [] [] (j5O (m:=m) hy2))<|e
 exact e
def j3k (o0:l1Cur):Nat→(Int × Int × (List ByteArray))→Option (Int × Int × (List ByteArray)):=fun k1 (s2,s3,s1)=>
 (q7F [(⟨#[115]⟩:ByteArray),(⟨#[116]⟩:ByteArray),(⟨#[117]⟩:ByteArray)] (⟨o0.b,s2,s3⟩:l1Cur)).bind fun (y5,z5)=>
 grd (((s1.length:Int)+1)*16≤140737488355328∧(s1.length:Int)+1≤9223372036854775807) <|
 some (z5.i,z5.h,(s1++[y5]))
def j3l (o0:l1Cur)(y4:Int):Nat→(Int × Int × (List Equation))→Option (Int × Int × (List Equation)):=fun k2 (s4,s5,s6)=>
 (
 (q3H 3 (⟨o0.b,s4,s5⟩:l1Cur)).bind fun (y7,z7)=>
 grd (I64 (1+y7)) <|
 (z8u (1+y7) (⟨o0.b,z7.i,z7.h⟩:l1Cur)).bind fun (y8,z8)=>
 (z0j y8 y4).bind fun y9=>
 if y9=true then (
 grd (I64 (y4+1)) <|
 (q3H (y4+1) (⟨o0.b,z8.i,z8.h⟩:l1Cur)).bind fun (y10,z9)=>
 (z0Y (⟨o0.b,z9.i,z9.h⟩:l1Cur)).bind fun (y11,z10)=>
 grd (((s6.length:Int)+1)*112≤140737488355328∧(s6.length:Int)+1≤9223372036854775807) <|
 some (z10.i,z10.h,(s6++[(⟨(⟨y10,y11⟩:Occurrence),y8⟩:Equation)]))
 ) else (
 some (z8.i,z8.h,s6)
 )
 ).bind fun (s8,s9,s7)=>
 some (s8,s9,s7)
def z6t (o0:l1Cur):Option (Rule × l1Cur):=
 (q7F [(⟨#[112]⟩:ByteArray),(⟨#[113]⟩:ByteArray),(⟨#[108,101,97,102]⟩:ByteArray)] o0).bind fun (y1,z1)=>
 (q7F [(⟨#[115]⟩:ByteArray),(⟨#[116]⟩:ByteArray)] (⟨o0.b,z1.i,z1.h⟩:l1Cur)).bind fun (y2,z2)=>
 (q5a 2 (⟨o0.b,z2.i,z2.h⟩:l1Cur)).bind fun (y3,z3)=>
 (q3H 4 (⟨o0.b,z3.i,z3.h⟩:l1Cur)).bind fun (y4,z4)=>
 (eachN (j3k o0) 0 y4.toNat (z4.i,z4.h,([]:List ByteArray))).bind fun (s2,s3,s1)=>
 (q3H 4 (⟨o0.b,s2,s3⟩:l1Cur)).bind fun (y6,z6)=>
 (eachN (j3l o0 y4) 0 y6.toNat (z6.i,z6.h,([]:List Equation))).bind fun (s4,s5,s6)=>
 (q5a 4 (⟨o0.b,s4,s5⟩:l1Cur)).bind fun (y12,z11)=>
 if y12=true then (
 (q3H 4096 (⟨o0.b,z11.i,z11.h⟩:l1Cur)).bind fun (y13,z12)=>
 (q7Y y13 2).bind fun y14=>
 grd (((([]:List Contribution).length:Int)+1)*208≤140737488355328∧(([]:List Contribution).length:Int)+1≤9223372036854775807) <|
 some ((⟨y1,y2,s1,y3,s6,(([]:List Contribution)++[(⟨(⟨#[115]⟩:ByteArray),(⟨#[99]⟩:ByteArray),(⟨6,0,0,0,(⟨#[]⟩:ByteArray),(⟨#[]⟩:ByteArray),[]⟩:Expr),y14⟩:Contribution)])⟩:Rule),(⟨o0.b,z12.i,z12.h⟩:l1Cur))
 ) else (
 some ((⟨y1,y2,s1,y3,s6,[]⟩:Rule),(⟨o0.b,z11.i,z11.h⟩:l1Cur))
 )
theorem j9E {o0:l1Cur}{r:(Rule × l1Cur)}(hr:z6t o0=some r):Ok Tryz.prog 120 [.pb 0 0] [.box [.d .fz (.sl 1 (o0.b.map byD)),dI o0.i,dI o0.h]] (.ag [dS r.1.Name,dS r.1.Left,.ref 1 none,dB r.1.Literal,.ref 2 none,.ref 3 none]) [.box [.d .fz (.sl 1 (o0.b.map byD)),dI r.2.i,dI r.2.h],.row .fz 1 (r.1.Right.map A.D.s),.row .fz 9 (r.1.Equations.map Equation.D),.row .fz 16 (r.1.Contributions.map Contribution.D)]:=by
 refine OE Tryz.func120 fun S hS=>?_
 unfold z6t at hr
 refine J g<|J (NV' 1)<|J g<|J (LIR' 2 (m:=.fz) (f:=A.D.s) (xs:=[(⟨#[112]⟩:ByteArray),(⟨#[113]⟩:ByteArray),(⟨#[108,101,97,102]⟩:ByteArray)]))<|bdP hr fun y1 z1 hq1 hr=>J (CB' [(0,0)] [2] (q8s (m:=.bo) hq1))<|J g<|J (LIR' 3 (m:=.fz) (f:=A.D.s) (xs:=[(⟨#[115]⟩:ByteArray),(⟨#[116]⟩:ByteArray)]))<|bdP hr fun y2 z2 hq2 hr=>J (CB' [(0,0)] [3] (q8s (m:=.bo) hq2))<|bdP hr fun y3 z3 hq3 hr=>J g<|J (CB' [(0,0)] [] (q5B hq3))<|J g<|J (NV' 4)<|bdP hr fun y4 z4 hq4 hr=>J g<|J (CB' [(0,0)] [] (q3J hq4))<|J (gn 8) ?_
 refine J (q0t 4 2 5 .fz 1 rfl rfl)<|J (rngT 4)<|fun hl1=>bdT hr fun s2 s3 s1 hqq5 hr=>q0i hqq5 6 (fun k1 (s2,s3,s1)=>[(0,.pb 0 0),(2,.pb 1 0),(3,.pb 4 0),(4,dI y4),(5,dI (k1:Int))]) (fun k1 (s2,s3,s1)=>[(0,.box [.d .fz (.sl 1 (o0.b.map byD)),dI s2,dI s3]),(5,.row .fz 1 (s1.map A.D.s))]) I (fun k1 sk1 ok1 hr hltk1=>?_) ?_
 obtain⟨s2,s3,s1⟩:=sk1
 refine J g<|J (LIR' 6 (m:=.fz) (f:=A.D.s) (xs:=[(⟨#[115]⟩:ByteArray),(⟨#[116]⟩:ByteArray),(⟨#[117]⟩:ByteArray)]))<|bdP hr fun y5 z5 hq6 hr=>J (CB' [(0,0)] [6] (q8s (m:=.bo) hq6))<|J (LIR' 7 (m:=.fz) (f:=A.D.s) (xs:=[y5]))<|ggE hr fun g1 hr=>J (q9Z (f:=A.D.s) 8 (fun _=>rfl) 16 g1)<|e
 refine bdP hr fun y6 z6 hq7 hr=>J g<|J (CB' [(0,0)] [] (q3J hq7))<|J (gn 8) ?_
 refine J (q0t 4 4 6 .fz 9 rfl rfl)<|J (rngT 6)<|fun hl2=>bdT hr fun s4 s5 s6 hqq8 hr=>q0i hqq8 7 (fun k2 (s4,s5,s6)=>[(0,.pb 0 0),(2,.pb 1 0),(3,.pb 4 0),(4,dI y4),(6,dI y6),(7,dI (k2:Int))]) (fun k2 (s4,s5,s6)=>[(0,.box [.d .fz (.sl 1 (o0.b.map byD)),dI s4,dI s5]),(6,.row .fz 9 (s6.map Equation.D))]) I (fun k2 sk2 ok2 hr hltk2=>?_) ?_
 obtain⟨s4,s5,s6⟩:=sk2
 refine bdT hr fun s8 s9 s7 hqq9 hr=>J (gn 10)<|q0e 7 [(0,.pb 0 0),(2,.pb 1 0),(3,.pb 4 0),(4,dI y4),(6,dI y6),(7,dI (k2:Int))] [(0,.box [.d .fz (.sl 1 (o0.b.map byD)),dI s8,dI s9]),(6,.row .fz 9 (s7.map Equation.D))] ?_ ?_
 replace hr:=hqq9
 refine bdP hr fun y7 z7 hq10 hr=>J g<|J (CB' [(0,0)] [] (q3J hq10))<|ggE hr fun g2 hr=>bdP hr fun y8 z8 hq11 hr=>J g<|J (CB' [(0,0),(1,7)] [] (j3j hq11))<|J (NV' 8)<|bdE hr fun y9 hy9 hr=>J g<|J (CB' [] [7] (z7o (m:=.bo) hy9))<|J (gn 1)<|ifE hr ?_ ?_<;>intro h1 hr
 refine J (gn 1) ?_
 refine J (q0X 7 rfl)<|ggE hr fun g3 hr=>bdP hr fun y10 z9 hq12 hr=>J g<|J (CB' [(0,0)] [] (q3J hq12))<|bdP hr fun y11 z10 hq13 hr=>J g<|J (CB' [(0,0)] [] (z7n hq13))<|J g<|J (LIR' 9 (m:=.fz) (f:=Equation.D) (xs:=[(⟨(⟨y10,y11⟩:Occurrence),y8⟩:Equation)]))<|ggE hr fun g4 hr=>J (AP1' 10 .fz 112 g4)<|J g<|E
 exact e
 exact e
 refine bdP hr fun y12 z11 hq14 hr=>J g<|J (CB' [(0,0)] [] (q5B hq14))<|J (gn 1)<|ifE hr ?_ ?_<;>intro h2 hr
 refine bdP hr fun y13 z12 hq15 hr=>J g<|J (CB' [(0,0)] [] (q3J hq15))<|bdE hr fun y14 hy14 hr=>J (CBz' 7 [(0,7)] [] (z0A hy14))<|J g<|J (LIR' 8 (m:=.fz) (f:=Contribution.D) (xs:=[(⟨(⟨#[115]⟩:ByteArray),(⟨#[99]⟩:ByteArray),(⟨6,0,0,0,(⟨#[]⟩:ByteArray),(⟨#[]⟩:ByteArray),[]⟩:Expr),y14⟩:Contribution)])) ?_
 refine J (q2Y 65 9 .fz 16 rfl)<|ggE hr fun g5 hr=>J (AP1' 10 .fz 208 g5)<|J g<|E
 refine J (gn 8) ?_
 refine J (q0c (q0j (q:=1) (c:=5) (r:=7) .fz 16 rfl rfl rfl))<|J g<|E
def z4M (o0:l1Cur):Option (Expr × l1Cur):=
 (q3H 5 o0).bind fun (y1,z1)=>
 grd (I64 (1+y1)) <|
 (z8u (1+y1) (⟨o0.b,z1.i,z1.h⟩:l1Cur)).bind fun (y2,z2)=>
 (q8i y2).bind fun y3=>
 if y3=true then (
 some (y2,(⟨o0.b,z2.i,z2.h⟩:l1Cur))
 ) else (
 some ((⟨2,0,0,0,(⟨#[]⟩:ByteArray),(⟨#[]⟩:ByteArray),[]⟩:Expr),(⟨o0.b,z2.i,z2.h⟩:l1Cur))
 )
theorem j3m {o0:l1Cur}{r:(Expr × l1Cur)}(hr:z4M o0=some r):Ok Tryz.prog 86 [.pb 0 0] [.box [.d .fz (.sl 1 (o0.b.map byD)),dI o0.i,dI o0.h]] (.ag [dI r.1.Kind,dI r.1.N,dI r.1.Pos,dI r.1.Type_,dS r.1.Symbol,dS r.1.Name,.ref 1 none]) [.box [.d .fz (.sl 1 (o0.b.map byD)),dI r.2.i,dI r.2.h],.row .fz 7 (r.1.Args.map Expr.D)]:=by
 refine OE Tryz.func86 fun S hS=>?_
 unfold z4M at hr
 refine J g<|J (NV' 1)<|bdP hr fun y1 z1 hq1 hr=>J g<|J (CB' [(0,0)] [] (q3J hq1))<|ggE hr fun g1 hr=>bdP hr fun y2 z2 hq2 hr=>J g<|J (CB' [(0,0),(1,2)] [] (j3j hq2))<|J (NV' 3)<|bdE hr fun y3 hy3 hr=>J g<|J (CB' [] [2] (z3D (m:=.bo) hy3))<|J (gn 2)<|ifE hr ?_ ?_<;>intro h1 hr
 exact e
 refine J (gn 7) ?_
 refine J (q0c (q0j (q:=1) (c:=6) (r:=4) .fz 7 rfl rfl rfl))<|J g<|E
def z9i:Nat→((List Expr) × Int × Int × Int × Int × ByteArray × ByteArray)→Option ((List Expr) × Int × Int × Int × Int × ByteArray × ByteArray):=fun k1 (s1,s2,s3,s4,s5,s6,s7)=>
 (z3y 1 (⟨s2,s3,s4,s5,s6,s7,s1⟩:Expr) (⟨2,0,0,0,(⟨#[]⟩:ByteArray),(⟨#[]⟩:ByteArray),[]⟩:Expr)).bind fun y7=>
 some (y7.Args,y7.Kind,y7.N,y7.Pos,y7.Type_,y7.Symbol,y7.Name)
def z6u (o0:l1Cur):Option (Expr × l1Cur):=
 (z4M o0).bind fun (y1,z1)=>
 (q3H 14 (⟨o0.b,z1.i,z1.h⟩:l1Cur)).bind fun (y2,z2)=>
 if y2=0 then (
 (q3H 11 (⟨o0.b,z2.i,z2.h⟩:l1Cur)).bind fun (y3,z3)=>
 some ((⟨y3,y1.N,y1.Pos,y1.Type_,y1.Symbol,y1.Name,y1.Args⟩:Expr),(⟨o0.b,z3.i,z3.h⟩:l1Cur))
 ) else (
 if y2=1 then (
 grd (((y1.Args.length:Int)+1)*88≤140737488355328∧(y1.Args.length:Int)+1≤9223372036854775807) <|
 some ((⟨y1.Kind,y1.N,y1.Pos,y1.Type_,y1.Symbol,y1.Name,(y1.Args++[(⟨7,0,0,0,(⟨#[]⟩:ByteArray),(⟨#[]⟩:ByteArray),[]⟩:Expr)])⟩:Expr),(⟨o0.b,z2.i,z2.h⟩:l1Cur))
 ) else (
 if y2=2 then (
 (q5q ([(-1),13,4096,1000001]:List Int) (⟨o0.b,z2.i,z2.h⟩:l1Cur)).bind fun (y4,z4)=>
 some ((⟨y1.Kind,y4,y1.Pos,y1.Type_,y1.Symbol,y1.Name,y1.Args⟩:Expr),(⟨o0.b,z4.i,z4.h⟩:l1Cur))
 ) else (
 if y2=3 then (
 (q5q ([(-1),4,1]:List Int) (⟨o0.b,z2.i,z2.h⟩:l1Cur)).bind fun (y5,z5)=>
 some ((⟨y1.Kind,y1.N,y5,y1.Type_,y1.Symbol,y1.Name,y1.Args⟩:Expr),(⟨o0.b,z5.i,z5.h⟩:l1Cur))
 ) else (
 if y2=4 then (
 (q7F [(⟨#[105,102]⟩:ByteArray),(⟨#[]⟩:ByteArray),(⟨#[120]⟩:ByteArray)] (⟨o0.b,z2.i,z2.h⟩:l1Cur)).bind fun (y6,z6)=>
 some ((⟨y1.Kind,y1.N,y1.Pos,y1.Type_,y1.Symbol,y6,y1.Args⟩:Expr),(⟨o0.b,z6.i,z6.h⟩:l1Cur))
 ) else (
 if y2=5 then (
 (eachN z9i 0 5 (y1.Args,y1.Kind,y1.N,y1.Pos,y1.Type_,y1.Symbol,y1.Name)).bind fun (s1,s2,s3,s4,s5,s6,s7)=>
 some ((⟨s2,s3,s4,s5,s6,s7,s1⟩:Expr),(⟨o0.b,z2.i,z2.h⟩:l1Cur))
 ) else (
 some (y1,(⟨o0.b,z2.i,z2.h⟩:l1Cur))
 )
 )
 )
 )
 )
 )
theorem j9F {o0:l1Cur}{r:(Expr × l1Cur)}(hr:z6u o0=some r):Ok Tryz.prog 121 [.pb 0 0] [.box [.d .fz (.sl 1 (o0.b.map byD)),dI o0.i,dI o0.h]] (.ag [dI r.1.Kind,dI r.1.N,dI r.1.Pos,dI r.1.Type_,dS r.1.Symbol,dS r.1.Name,.ref 1 none]) [.box [.d .fz (.sl 1 (o0.b.map byD)),dI r.2.i,dI r.2.h],.row .fz 7 (r.1.Args.map Expr.D)]:=by
 refine OE Tryz.func121 fun S hS=>?_
 unfold z6u at hr
 refine J g<|J (NV' 1)<|bdP hr fun y1 z1 hq1 hr=>J g<|J (CB' [(0,0),(1,2)] [] (j3m hq1))<|J (NV' 3)<|bdP hr fun y2 z2 hq2 hr=>J g<|J (CB' [(0,0)] [] (q3J hq2))<|J (gn 7)<|ifE hr ?_ ?_<;>intro h1 hr
 refine bdP hr fun y3 z3 hq3 hr=>J g<|J (CB' [(0,0)] [] (q3J hq3))<|e
 refine J (gn 6)<|ifE hr ?_ ?_<;>intro h2 hr
 refine J g ?_
 refine J (j5E 4 (m:=.fz) (f:=Expr.D) [(⟨7,0,0,0,(⟨#[]⟩:ByteArray),(⟨#[]⟩:ByteArray),[]⟩:Expr)] (by simp only [List.map_cons,List.map_nil,Expr.D_eq]; rfl))<|ggE hr fun g1 hr=>J (AP1' 5 .fz 88 g1)<|J g<|E
 refine J (gn 6)<|ifE hr ?_ ?_<;>intro h3 hr
 refine J g<|J (LIR' 4 (m:=.fz) (f:=(A.D.i .i64)) (xs:=([(-1),13,4096,1000001]:List Int)))<|bdP hr fun y4 z4 hq4 hr=>J (CB' [(0,0)] [4] (q6p (m:=.bo) hq4))<|e
 refine J (gn 6)<|ifE hr ?_ ?_<;>intro h4 hr
 refine J g<|J (LIR' 4 (m:=.fz) (f:=(A.D.i .i64)) (xs:=([(-1),4,1]:List Int)))<|bdP hr fun y5 z5 hq5 hr=>J (CB' [(0,0)] [4] (q6p (m:=.bo) hq5))<|e
 refine J (gn 6)<|ifE hr ?_ ?_<;>intro h5 hr
 refine J g<|J (LIR' 4 (m:=.fz) (f:=A.D.s) (xs:=[(⟨#[105,102]⟩:ByteArray),(⟨#[]⟩:ByteArray),(⟨#[120]⟩:ByteArray)]))<|bdP hr fun y6 z6 hq6 hr=>J (CB' [(0,0)] [4] (q8s (m:=.bo) hq6))<|e
 refine J (gn 6)<|ifE hr ?_ ?_<;>intro h6 hr
 refine J g ?_
 have hl1:rngI .i64 5:=⟨by decide,by decide⟩
 refine bdE hr fun q7 hqq7 hr=>?_
 obtain⟨s1,s2,s3,s4,s5,s6,s7⟩:=q7
 refine q0i hqq7 4 (fun k1 (s1,s2,s3,s4,s5,s6,s7)=>[(2,.pb 1 0),(3,.pb 3 0),(4,dI (k1:Int))]) (fun k1 (s1,s2,s3,s4,s5,s6,s7)=>[(2,.row .fz 7 (s1.map Expr.D)),(3,.box [dI s2,dI s3,dI s4,dI s5,dS s6,dS s7,.ref 2 none])]) I (fun k1 sk1 ok1 hr hltk1=>?_) ?_
 obtain⟨s1,s2,s3,s4,s5,s6,s7⟩:=sk1
 unfold z9i at hr
 dsimp only at hr
 refine J (gn 13) ?_
 refine J (q0k 2 rfl)<|bdE hr fun y7 hy7 hr=>J (CB' [(0,4)] [] (z4g (m:=.fz) hy7))<|J g<|E
 exact e
 exact e
def z6v (o0:l1Cur):Option (Rule × l1Cur):=
 (z6t o0).bind fun (y1,z1)=>
 (q3H 12 (⟨o0.b,z1.i,z1.h⟩:l1Cur)).bind fun (y2,z2)=>
 if y2=0 then (
 (q7F [(⟨#[105,102]⟩:ByteArray),(⟨#[]⟩:ByteArray),(⟨#[111,102]⟩:ByteArray)] (⟨o0.b,z2.i,z2.h⟩:l1Cur)).bind fun (y3,z3)=>
 some ((⟨y3,y1.Left,y1.Right,y1.Literal,y1.Equations,y1.Contributions⟩:Rule),(⟨o0.b,z3.i,z3.h⟩:l1Cur))
 ) else (
 if y2=1 then (
 grd (((y1.Right.length:Int)+([(⟨#[115]⟩:ByteArray),(⟨#[115]⟩:ByteArray)].length:Int))*16≤140737488355328∧(y1.Right.length:Int)+([(⟨#[115]⟩:ByteArray),(⟨#[115]⟩:ByteArray)].length:Int)≤9223372036854775807) <|
 some ((⟨y1.Name,y1.Left,(y1.Right++[(⟨#[115]⟩:ByteArray),(⟨#[115]⟩:ByteArray)]),y1.Literal,y1.Equations,y1.Contributions⟩:Rule),(⟨o0.b,z2.i,z2.h⟩:l1Cur))
 ) else (
 if y2=2 then (
 (q3H 5 (⟨o0.b,z2.i,z2.h⟩:l1Cur)).bind fun (y4,z4)=>
 grd (I64 (y4 - 1)) <|
 (z6u (⟨o0.b,z4.i,z4.h⟩:l1Cur)).bind fun (y5,z5)=>
 grd (((y1.Equations.length:Int)+1)*112≤140737488355328∧(y1.Equations.length:Int)+1≤9223372036854775807) <|
 some ((⟨y1.Name,y1.Left,y1.Right,y1.Literal,(y1.Equations++[(⟨(⟨(y4 - 1),(⟨#[97]⟩:ByteArray)⟩:Occurrence),y5⟩:Equation)]),y1.Contributions⟩:Rule),(⟨o0.b,z5.i,z5.h⟩:l1Cur))
 ) else (
 if y2=3 then (
 some ((⟨y1.Name,(⟨#[109,97,120]⟩:ByteArray),y1.Right,y1.Literal,y1.Equations,y1.Contributions⟩:Rule),(⟨o0.b,z2.i,z2.h⟩:l1Cur))
 ) else (
 if y2=4 then (
 grd (I64 ((y1.Right.length+1:Nat):Int)) <|
 (q3H ((y1.Right.length+1:Nat):Int) (⟨o0.b,z2.i,z2.h⟩:l1Cur)).bind fun (y6,z6)=>
 grd (0≤y6) <|
 grd (y6.toNat≤y1.Right.length) <|
 some ((⟨y1.Name,y1.Left,(y1.Right.take y6.toNat),y1.Literal,y1.Equations,y1.Contributions⟩:Rule),(⟨o0.b,z6.i,z6.h⟩:l1Cur))
 ) else (
 some (y1,(⟨o0.b,z2.i,z2.h⟩:l1Cur))
 )
 )
 )
 )
 )
theorem j9G {o0:l1Cur}{r:(Rule × l1Cur)}(hr:z6v o0=some r):Ok Tryz.prog 83 [.pb 0 0] [.box [.d .fz (.sl 1 (o0.b.map byD)),dI o0.i,dI o0.h]] (.ag [dS r.1.Name,dS r.1.Left,.ref 1 none,dB r.1.Literal,.ref 2 none,.ref 3 none]) [.box [.d .fz (.sl 1 (o0.b.map byD)),dI r.2.i,dI r.2.h],.row .fz 1 (r.1.Right.map A.D.s),.row .fz 9 (r.1.Equations.map Equation.D),.row .fz 16 (r.1.Contributions.map Contribution.D)]:=by
 refine OE Tryz.func83 fun S hS=>?_
 unfold z6v at hr
 refine J g<|J (NV' 1)<|bdP hr fun y1 z1 hq1 hr=>J g<|J (CB' [(0,0),(1,2),(2,3),(3,4)] [] (j9E hq1))<|J (NV' 5)<|bdP hr fun y2 z2 hq2 hr=>J g<|J (CB' [(0,0)] [] (q3J hq2))<|J (gn 7)<|ifE hr ?_ ?_<;>intro h1 hr
 refine J g<|J (LIR' 6 (m:=.fz) (f:=A.D.s) (xs:=[(⟨#[105,102]⟩:ByteArray),(⟨#[]⟩:ByteArray),(⟨#[111,102]⟩:ByteArray)]))<|bdP hr fun y3 z3 hq3 hr=>J (CB' [(0,0)] [6] (q8s (m:=.bo) hq3))<|e
 refine J (gn 6)<|ifE hr ?_ ?_<;>intro h2 hr
 refine J g<|J (LIR' 6 (m:=.fz) (f:=A.D.s) (xs:=[(⟨#[115]⟩:ByteArray),(⟨#[115]⟩:ByteArray)]))<|ggE hr fun g1 hr=>J (j5F (f:=A.D.s) 7 16 (fun _=>rfl) g1)<|e
 refine J (gn 6)<|ifE hr ?_ ?_<;>intro h3 hr
 refine bdP hr fun y4 z4 hq4 hr=>J g<|J (CB' [(0,0)] [] (q3J hq4))<|ggE hr fun g2 hr=>bdP hr fun y5 z5 hq5 hr=>J g<|J (CBz' 6 [(0,0),(1,6)] [] (j9F hq5))<|J g<|J (LIR' 7 (m:=.fz) (f:=Equation.D) (xs:=[(⟨(⟨(y4 - 1),(⟨#[97]⟩:ByteArray)⟩:Occurrence),y5⟩:Equation)]))<|ggE hr fun g3 hr=>J (AP1' 8 .fz 112 g3)<|e
 refine J (gn 6)<|ifE hr ?_ ?_<;>intro h4 hr
 exact e
 refine J (gn 6)<|ifE hr ?_ ?_<;>intro h5 hr
 refine ggE hr fun g4 hr=>bdP hr fun y6 z6 hq6 hr=>J g<|J (CB' [(0,0)] [] (q3J hq6))<|ggE hr fun g5 hr=>ggE hr fun g6 hr=>J (CU' 6 g5 g6)<|e
 exact e
def j3n:(List Attribute)→Option ((List Attribute) ⊕ ((List Attribute))):=fun s2=>
 if (s2.length:Int) < 5 then (
 ([(⟨#[101]⟩:ByteArray),(⟨#[102]⟩:ByteArray),(⟨#[103]⟩:ByteArray),(⟨#[104]⟩:ByteArray),(⟨#[105]⟩:ByteArray)][s2.length]?).bind fun x5=>
 grd (((s2.length:Int)+1)*40≤140737488355328∧(s2.length:Int)+1≤9223372036854775807) <|
 some (.inl (s2++[(⟨x5,1,2,false⟩:Attribute)]))
 ) else (
 some (.inr s2)
 )
def z6w (o0:l1Cur):Option (Symbol × l1Cur):=
 (q7F [(⟨#[115]⟩:ByteArray),(⟨#[116]⟩:ByteArray),(⟨#[105,102]⟩:ByteArray),(⟨#[108,105,115,116,49]⟩:ByteArray)] o0).bind fun (y1,z1)=>
 (z4I y1 false false (⟨o0.b,z1.i,z1.h⟩:l1Cur)).bind fun (y2,z2)=>
 (q3H 10 (⟨o0.b,z2.i,z2.h⟩:l1Cur)).bind fun (y3,z3)=>
 if y3=0 then (
 (y2.Attributes[0]?).bind fun x1=>
 some ((⟨y2.Name,(List.set y2.Attributes 0 (⟨x1.Name,x1.Type_,x1.Mode,true⟩:Attribute))⟩:Symbol),(⟨o0.b,z3.i,z3.h⟩:l1Cur))
 ) else (
 if y3=1 then (
 (q3H 5 (⟨o0.b,z3.i,z3.h⟩:l1Cur)).bind fun (y4,z4)=>
 (y2.Attributes[0]?).bind fun x2=>
 some ((⟨y2.Name,(List.set y2.Attributes 0 (⟨x2.Name,x2.Type_,y4,x2.Circular⟩:Attribute))⟩:Symbol),(⟨o0.b,z4.i,z4.h⟩:l1Cur))
 ) else (
 if y3=2 then (
 (q3H 6 (⟨o0.b,z3.i,z3.h⟩:l1Cur)).bind fun (y5,z5)=>
 (y2.Attributes[0]?).bind fun x3=>
 some ((⟨y2.Name,(List.set y2.Attributes 0 (⟨x3.Name,y5,x3.Mode,x3.Circular⟩:Attribute))⟩:Symbol),(⟨o0.b,z5.i,z5.h⟩:l1Cur))
 ) else (
 if y3=3 then (
 (q7F [(⟨#[98]⟩:ByteArray),(⟨#[111,102]⟩:ByteArray),(⟨#[]⟩:ByteArray)] (⟨o0.b,z3.i,z3.h⟩:l1Cur)).bind fun (y6,z6)=>
 (y2.Attributes[0]?).bind fun x4=>
 some ((⟨y2.Name,(List.set y2.Attributes 0 (⟨y6,x4.Type_,x4.Mode,x4.Circular⟩:Attribute))⟩:Symbol),(⟨o0.b,z6.i,z6.h⟩:l1Cur))
 ) else (
 if y3=4 then (
 (q4L j3n y2.Attributes).bind fun s1=>
 some ((⟨y2.Name,s1⟩:Symbol),(⟨o0.b,z3.i,z3.h⟩:l1Cur))
 ) else (
 some (y2,(⟨o0.b,z3.i,z3.h⟩:l1Cur))
 )
 )
 )
 )
 )
theorem j9H {o0:l1Cur}{r:(Symbol × l1Cur)}(hr:z6w o0=some r):Ok Tryz.prog 84 [.pb 0 0] [.box [.d .fz (.sl 1 (o0.b.map byD)),dI o0.i,dI o0.h]] (.ag [dS r.1.Name,.ref 1 none]) [.box [.d .fz (.sl 1 (o0.b.map byD)),dI r.2.i,dI r.2.h],.row .fz 4 (r.1.Attributes.map Attribute.D)]:=by
 refine OE Tryz.func84 fun S hS=>?_
 unfold z6w at hr
 refine J g<|J (NV' 1)<|J g<|J (LIR' 2 (m:=.fz) (f:=A.D.s) (xs:=[(⟨#[115]⟩:ByteArray),(⟨#[116]⟩:ByteArray),(⟨#[105,102]⟩:ByteArray),(⟨#[108,105,115,116,49]⟩:ByteArray)]))<|bdP hr fun y1 z1 hq1 hr=>J (CB' [(0,0)] [2] (q8s (m:=.bo) hq1))<|bdP hr fun y2 z2 hq2 hr=>J (CB' [(0,0),(1,3)] [] (j3g hq2))<|J (NV' 4)<|bdP hr fun y3 z3 hq3 hr=>J g<|J (CB' [(0,0)] [] (q3J hq3))<|J (gn 7)<|ifE hr ?_ ?_<;>intro h1 hr
 refine bdE hr fun x1 hx1 hr=>J g<|J (SE' (⟨x1.Name,x1.Type_,x1.Mode,true⟩:Attribute) hx1)<|e
 refine J (gn 6)<|ifE hr ?_ ?_<;>intro h2 hr
 refine bdP hr fun y4 z4 hq4 hr=>J g<|J (CB' [(0,0)] [] (q3J hq4))<|bdE hr fun x2 hx2 hr=>J g<|J (SE' (⟨x2.Name,x2.Type_,y4,x2.Circular⟩:Attribute) hx2)<|e
 refine J (gn 6)<|ifE hr ?_ ?_<;>intro h3 hr
 refine bdP hr fun y5 z5 hq5 hr=>J g<|J (CB' [(0,0)] [] (q3J hq5))<|bdE hr fun x3 hx3 hr=>J g<|J (SE' (⟨x3.Name,y5,x3.Mode,x3.Circular⟩:Attribute) hx3)<|e
 refine J (gn 6)<|ifE hr ?_ ?_<;>intro h4 hr
 refine J g<|J (LIR' 5 (m:=.fz) (f:=A.D.s) (xs:=[(⟨#[98]⟩:ByteArray),(⟨#[111,102]⟩:ByteArray),(⟨#[]⟩:ByteArray)]))<|bdP hr fun y6 z6 hq6 hr=>J (CB' [(0,0)] [5] (q8s (m:=.bo) hq6))<|bdE hr fun x4 hx4 hr=>J g<|J (SE' (⟨y6,x4.Type_,x4.Mode,x4.Circular⟩:Attribute) hx4)<|e
 refine J (gn 6)<|ifE hr ?_ ?_<;>intro h5 hr
 refine bdE hr fun s1 hqq7 hr=>J (gn 1)<|q0e 5 [(2,.pb 1 0),(3,.pb 4 0)] [(3,.row .fz 4 (s1.map Attribute.D))] ?_ ?_
 refine J g<|q0h hqq7 5 (fun s2=>[(2,.pb 1 0),(3,.pb 4 0)]) (fun s2=>[(3,.row .fz 4 (s2.map Attribute.D))]) I fun sk1 ok1 hr hik1=>?_
 obtain⟨s2,rfl⟩:∃ y,y=sk1:=⟨_,rfl⟩
 have hr:=hr
 refine J (gn 8)<|ifE hr ?_ ?_<;>intro h6 hr
 refine J g<|J (LIR' 5 (m:=.fz) (f:=A.D.s) (xs:=[(⟨#[101]⟩:ByteArray),(⟨#[102]⟩:ByteArray),(⟨#[103]⟩:ByteArray),(⟨#[104]⟩:ByteArray),(⟨#[105]⟩:ByteArray)]))<|bdE hr fun x5 hx5 hr=>J g<|J (LIR' 6 (m:=.fz) (f:=Attribute.D) (xs:=[(⟨x5,1,2,false⟩:Attribute)]))<|ggE hr fun g1 hr=>J (q9Z (f:=Attribute.D) 7 (fun _=>rfl) 40 g1)<|e
 refine J (gn 2) ?_
 cases hr
 cases hik1 _ rfl
 exact q0g hS 5
 exact e
 exact e
def z4N (o0:l1Cur):Option (Grammar × l1Cur):=
 (q5a 2 o0).bind fun (y1,z1)=>
 (z3m y1 (⟨o0.b,z1.i,z1.h⟩:l1Cur)).bind fun (y2,z2)=>
 (q3H (y2.Rules.length:Int) (⟨o0.b,z2.i,z2.h⟩:l1Cur)).bind fun (y3,z3)=>
 (q3H 14 (⟨o0.b,z3.i,z3.h⟩:l1Cur)).bind fun (y4,z4)=>
 if y4=0 then (
 (z6v (⟨o0.b,z4.i,z4.h⟩:l1Cur)).bind fun (y5,z5)=>
 grd (0≤y3) <|
 (y2.Rules[y3.toNat]?).bind fun x1=>
 some ((⟨y2.Symbols,(List.set y2.Rules y3.toNat y5)⟩:Grammar),(⟨o0.b,z5.i,z5.h⟩:l1Cur))
 ) else (
 if y4=1 then (
 (z6w (⟨o0.b,z4.i,z4.h⟩:l1Cur)).bind fun (y6,z6)=>
 (y2.Symbols[0]?).bind fun x2=>
 some ((⟨(List.set y2.Symbols 0 y6),y2.Rules⟩:Grammar),(⟨o0.b,z6.i,z6.h⟩:l1Cur))
 ) else (
 if y4=2 then (
 (y2.Rules[0]?).bind fun x3=>
 grd (0≤y3) <|
 (y2.Rules[y3.toNat]?).bind fun x4=>
 some ((⟨y2.Symbols,(List.set y2.Rules y3.toNat (⟨x3.Name,x4.Left,x4.Right,x4.Literal,x4.Equations,x4.Contributions⟩:Rule))⟩:Grammar),(⟨o0.b,z4.i,z4.h⟩:l1Cur))
 ) else (
 if y4=3 then (
 grd (0≤y3) <|
 (y2.Rules[y3.toNat]?).bind fun x5=>
 if 0 < (x5.Equations.length:Int) then (
 grd (1≤x5.Equations.length) <|
 some ((⟨y2.Symbols,(List.set y2.Rules y3.toNat (⟨x5.Name,x5.Left,x5.Right,x5.Literal,(x5.Equations.drop 1),x5.Contributions⟩:Rule))⟩:Grammar),(⟨o0.b,z4.i,z4.h⟩:l1Cur))
 ) else (
 some (y2,(⟨o0.b,z4.i,z4.h⟩:l1Cur))
 )
 ) else (
 if y4=4 then (
 grd (0≤y3) <|
 (y2.Rules[y3.toNat]?).bind fun x6=>
 if 0 < (x6.Equations.length:Int) then (
 (x6.Equations[0]?).bind fun x7=>
 grd (((x6.Equations.length:Int)+1)*112≤140737488355328∧(x6.Equations.length:Int)+1≤9223372036854775807) <|
 some ((⟨y2.Symbols,(List.set y2.Rules y3.toNat (⟨x6.Name,x6.Left,x6.Right,x6.Literal,(x6.Equations++[x7]),x6.Contributions⟩:Rule))⟩:Grammar),(⟨o0.b,z4.i,z4.h⟩:l1Cur))
 ) else (
 some (y2,(⟨o0.b,z4.i,z4.h⟩:l1Cur))
 )
 ) else (
 if y4=5 then (
 (q7F [(⟨#[115]⟩:ByteArray),(⟨#[122]⟩:ByteArray)] (⟨o0.b,z4.i,z4.h⟩:l1Cur)).bind fun (y7,z7)=>
 grd (0≤y3) <|
 (y2.Rules[y3.toNat]?).bind fun x8=>
 some ((⟨y2.Symbols,(List.set y2.Rules y3.toNat (⟨x8.Name,y7,x8.Right,x8.Literal,x8.Equations,x8.Contributions⟩:Rule))⟩:Grammar),(⟨o0.b,z7.i,z7.h⟩:l1Cur))
 ) else (
 if y4=6 then (
 grd (0≤y3) <|
 (y2.Rules[y3.toNat]?).bind fun x9=>
 if 0 < (x9.Equations.length:Int) then (
 (z4M (⟨o0.b,z4.i,z4.h⟩:l1Cur)).bind fun (y8,z8)=>
 (x9.Equations[0]?).bind fun x10=>
 some ((⟨y2.Symbols,(List.set y2.Rules y3.toNat (⟨x9.Name,x9.Left,x9.Right,x9.Literal,(List.set x9.Equations 0 (⟨x10.At,y8⟩:Equation)),x9.Contributions⟩:Rule))⟩:Grammar),(⟨o0.b,z8.i,z8.h⟩:l1Cur))
 ) else (
 some (y2,(⟨o0.b,z4.i,z4.h⟩:l1Cur))
 )
 ) else (
 some (y2,(⟨o0.b,z4.i,z4.h⟩:l1Cur))
 )
 )
 )
 )
 )
 )
 )
theorem j7l {o0:l1Cur}{r:(Grammar × l1Cur)}(hr:z4N o0=some r):Ok Tryz.prog 46 [.pb 0 0] [.box [.d .fz (.sl 1 (o0.b.map byD)),dI o0.i,dI o0.h]] (.ag [.ref 1 none,.d .fz (.sl 6 (r.1.Rules.map Rule.D))]) [.box [.d .fz (.sl 1 (o0.b.map byD)),dI r.2.i,dI r.2.h],.deep .fz 2 (r.1.Symbols.map Symbol.O) []]:=by
 refine OE Tryz.func46 fun S hS=>?_
 unfold z4N at hr
 refine J g<|J (NV' 1)<|bdP hr fun y1 z1 hq1 hr=>J g<|J (CB' [(0,0)] [] (q5B hq1))<|bdP hr fun y2 z2 hq2 hr=>J (CB' [(0,0),(1,2),(2,3)] [] (j1q hq2))<|J (NV' 4)<|J g<|J (LEd' y2.Rules.length)<|bdP hr fun y3 z3 hq3 hr=>J (CB' [(0,0)] [] (q3J hq3))<|bdP hr fun y4 z4 hq4 hr=>J g<|J (CB' [(0,0)] [] (q3J hq4))<|J (gn 7)<|ifE hr ?_ ?_<;>intro h1 hr
 refine bdP hr fun y5 z5 hq5 hr=>J g<|J (CB' [(0,0),(1,5),(2,6),(3,7)] [] (j9G hq5))<|ggE hr fun g1 hr=>bdE hr fun x1 hx1 hr=>J (IEd' g1 (q4B hx1))<|J (SD' [.d .fz (.s y5.Name),.d .fz (.s y5.Left),.o .fz 1 (y5.Right.map A.D.s),.d .fz (.b y5.Literal),.o .fz 9 (y5.Equations.map Equation.D),.o .fz 16 (y5.Contributions.map Contribution.D)] [5,6,7] (q4B hx1))<|J (gn 7) ?_
 refine J (q0c (q0m 3 (he:=eset (f:=Rule.O) (x':=y5) (by first | rfl | (simp only [List.set_set]; rfl))))) ?_
 refine J (q0c (q0n 3 Rule.D (by exact fun _=>rfl) rfl))<|J g<|E
 refine J (gn 6)<|ifE hr ?_ ?_<;>intro h2 hr
 refine bdP hr fun y6 z6 hq6 hr=>J g<|J (CB' [(0,0),(1,5)] [] (j9H hq6))<|bdE hr fun x2 hx2 hr=>J (IEd' (Int.natCast_nonneg _) (q4B hx2))<|J (SD' [.d .fz (.s y6.Name),.o .fz 4 (y6.Attributes.map Attribute.D)] [5] (q4B hx2))<|J (gn 7) ?_
 refine J (q0c (q0m 2 (he:=eset (f:=Symbol.O) (x':=y6) (by first | rfl | (simp only [List.set_set]; rfl))))) ?_
 refine J (q0c (q0n 3 Rule.D (by exact fun _=>rfl) rfl))<|J g<|E
 refine J (gn 6)<|ifE hr ?_ ?_<;>intro h3 hr
 refine bdE hr fun x3 hx3 hr=>J g<|J (IEd' (Int.natCast_nonneg _) (q4B hx3))<|J g<|J (LPd' [] (q4B hx3))<|ggE hr fun g2 hr=>bdE hr fun x4 hx4 hr=>J (IEd' g2 (q4B hx4))<|J g<|J (SD' [.d .fz (.s x3.Name)] [] (q4B hx4))<|J (gn 7) ?_
 refine J (q0c (q0m 3 (he:=eset (f:=Rule.O) (x':=(⟨x3.Name,x4.Left,x4.Right,x4.Literal,x4.Equations,x4.Contributions⟩:Rule)) (by first | rfl | (simp only [List.set_set]; rfl))))) ?_
 refine J (q0c (q0n 3 Rule.D (by exact fun _=>rfl) rfl))<|J g<|E
 refine J (gn 6)<|ifE hr ?_ ?_<;>intro h4 hr
 refine ggE hr fun g3 hr=>bdE hr fun x5 hx5 hr=>J g<|J (IEd' g3 (q4B hx5))<|J (gn 1)<|J (q0Q 3 y3.toNat 4 5 (q4B hx5))<|J (LPd' [(4,5)] (q3V (q4B hx5)))<|J (gn 3)<|ifE hr ?_ ?_<;>intro h5 hr
 refine J g<|J (IEd' g3 (q3V (q4B hx5)))<|J g<|J (LPd' [(4,5)] (q3V (q4B hx5)))<|ggE hr fun g4 hr=>J (SVL' (xs:=x5.Equations) (a:=1) (by decide) g4)<|J (IEd' g3 (q3V (q4B hx5)))<|J (gn 1) ?_
 refine J (q0k 5 rfl)<|J (q3a 62 (.d .fz (.sl 9 ((x5.Equations.drop 1).map Equation.D))) (congrArg (fun l=>X.d .fz (.sl 9 l)) k5c))<|J (SD' [.d .fz (.sl 9 ((x5.Equations.drop 1).map Equation.D))] [] (q3V (q4B hx5)))<|J (q1X (f:=Rule.O) 3 Rule.D (⟨x5.Name,x5.Left,x5.Right,x5.Literal,(x5.Equations.drop 1),x5.Contributions⟩:Rule) (by exact fun _=>rfl) hx5)<|J g<|E
 refine J (gn 8)<|J (q0c (q0z 3 y3.toNat 4 5 (q3V (q4B hx5)))) ?_
 refine J (q0c (q0m 3 (he:=k5b (f:=Rule.O) hx5 (by first | rfl | (simp only [List.set_set]; rfl))))) ?_
 refine J (q0c (q0n 3 Rule.D (by exact fun _=>rfl) rfl))<|J g<|E
 refine J (gn 6)<|ifE hr ?_ ?_<;>intro h6 hr
 refine ggE hr fun g5 hr=>bdE hr fun x6 hx6 hr=>J g<|J (IEd' g5 (q4B hx6))<|J (gn 1)<|J (q0Q 3 y3.toNat 4 5 (q4B hx6))<|J (LPd' [(4,5)] (q3V (q4B hx6)))<|J (gn 3)<|ifE hr ?_ ?_<;>intro h7 hr
 refine J g<|J (IEd' g5 (q3V (q4B hx6)))<|J g<|J (LPd' [(4,5)] (q3V (q4B hx6)))<|J g<|J (IEd' g5 (q3V (q4B hx6)))<|J g<|J (LPd' [(4,5)] (q3V (q4B hx6)))<|bdE hr fun x7 hx7 hr=>J g<|J (LIR' 6 (m:=.fz) (f:=Equation.D) (xs:=[x7]))<|ggE hr fun g6 hr=>J (AP1' 7 .fz 112 g6)<|J (IEd' g5 (q3V (q4B hx6)))<|J g<|J (SD' [.o .fz 9 ((x6.Equations++[x7]).map Equation.D)] [7] (q3V (q4B hx6)))<|J (gn 7) ?_
 refine J (q0c (q0m 3 (he:=eset (f:=Rule.O) (x':=(⟨x6.Name,x6.Left,x6.Right,x6.Literal,(x6.Equations++[x7]),x6.Contributions⟩:Rule)) (by first | rfl | (simp only [List.set_set]; rfl))))) ?_
 refine J (q0c (q0n 3 Rule.D (by exact fun _=>rfl) rfl))<|J g<|E
 refine J (gn 8)<|J (q0c (q0z 3 y3.toNat 4 5 (q3V (q4B hx6)))) ?_
 refine J (q0c (q0m 3 (he:=k5b (f:=Rule.O) hx6 (by first | rfl | (simp only [List.set_set]; rfl))))) ?_
 refine J (q0c (q0n 3 Rule.D (by exact fun _=>rfl) rfl))<|J g<|E
 refine J (gn 6)<|ifE hr ?_ ?_<;>intro h8 hr
 refine J g<|J (LIR' 5 (m:=.fz) (f:=A.D.s) (xs:=[(⟨#[115]⟩:ByteArray),(⟨#[122]⟩:ByteArray)]))<|bdP hr fun y7 z7 hq7 hr=>J (CB' [(0,0)] [5] (q8s (m:=.bo) hq7))<|ggE hr fun g7 hr=>bdE hr fun x8 hx8 hr=>J (IEd' g7 (q4B hx8))<|J g<|J (SD' [.d .fz (.s y7)] [] (q4B hx8))<|J (gn 7) ?_
 refine J (q0c (q0m 3 (he:=eset (f:=Rule.O) (x':=(⟨x8.Name,y7,x8.Right,x8.Literal,x8.Equations,x8.Contributions⟩:Rule)) (by first | rfl | (simp only [List.set_set]; rfl))))) ?_
 refine J (q0c (q0n 3 Rule.D (by exact fun _=>rfl) rfl))<|J g<|E
 refine J (gn 6)<|ifE hr ?_ ?_<;>intro h9 hr
 refine ggE hr fun g8 hr=>bdE hr fun x9 hx9 hr=>J g<|J (IEd' g8 (q4B hx9))<|J (gn 1)<|J (q0Q 3 y3.toNat 4 5 (q4B hx9))<|J (LPd' [(4,5)] (q3V (q4B hx9)))<|J (gn 3)<|ifE hr ?_ ?_<;>intro h10 hr
 refine J g<|J (IEd' g8 (q3V (q4B hx9)))<|J g<|J (LPd' [(4,5)] (q3V (q4B hx9)))<|bdP hr fun y8 z8 hq8 hr=>J g<|J (CBz' 6 [(0,0),(1,6)] [] (j3m hq8))<|bdE hr fun x10 hx10 hr=>J g<|J (SE' (⟨x10.At,y8⟩:Equation) hx10)<|J (gn 7)<|J (q0c (q0z 3 y3.toNat 4 5 (q3V (q4B hx9)))) ?_
 refine J (q0c (q0m 3 (he:=eset (f:=Rule.O) (x':=(⟨x9.Name,x9.Left,x9.Right,x9.Literal,(List.set x9.Equations 0 (⟨x10.At,y8⟩:Equation)),x9.Contributions⟩:Rule)) (by first | rfl | (simp only [List.set_set]; rfl))))) ?_
 refine J (q0c (q0n 3 Rule.D (by exact fun _=>rfl) rfl))<|J g<|E
 refine J (gn 8)<|J (q0c (q0z 3 y3.toNat 4 5 (q3V (q4B hx9)))) ?_
 refine J (q0c (q0m 3 (he:=k5b (f:=Rule.O) hx9 (by first | rfl | (simp only [List.set_set]; rfl))))) ?_
 refine J (q0c (q0n 3 Rule.D (by exact fun _=>rfl) rfl))<|J g<|E
 refine J (gn 8) ?_
 refine J (q0c (q0n 3 Rule.D (by exact fun _=>rfl) rfl))<|J g<|E
def z0s (a0:(List UInt8)):Option Grammar:=
 (z7l a0).bind fun y1=>
 (q5a 8 y1).bind fun (y2,z1)=>
 if y2=true then (
 (z4N (⟨y1.b,z1.i,z1.h⟩:l1Cur)).bind fun (y3,z2)=>
 some y3
 ) else (
 (z3m true (⟨y1.b,z1.i,z1.h⟩:l1Cur)).bind fun (y4,z3)=>
 some y4
 )
theorem z9j {a0:(List UInt8)}{r:Grammar}(hr:z0s a0=some r):Ok Tryz.prog 13 [.d .fz (.sl 1 (a0.map byD))] [] (.ag [.ref 0 none,.d .fz (.sl 6 (r.Rules.map Rule.D))]) [.deep .fz 2 (r.Symbols.map Symbol.O) []]:=by
 refine OE Tryz.func13 fun S hS=>?_
 unfold z0s at hr
 refine J g<|J (NV' 0)<|bdE hr fun y1 hy1 hr=>J g<|J (CB' [(0,1)] [] (k0X hy1))<|bdP hr fun y2 z1 hq1 hr=>J g<|J (CB' [(0,1)] [] (q5B hq1))<|J (gn 1)<|ifE hr ?_ ?_<;>intro h1 hr
 refine bdP hr fun y3 z2 hq2 hr=>J g<|J (CB' [(0,1),(1,2)] [] (j7l hq2))<|e
 refine bdP hr fun y4 z3 hq3 hr=>J g<|J (CB' [(0,1),(1,2),(2,3)] [] (j1q hq3))<|J (gn 3) ?_
 refine J (q0c (q0n 3 Rule.D (by exact fun _=>rfl) rfl))<|J g<|E
def q6r (a0:(List UInt8)):Option Grammar:=
 (z0s a0).bind fun y1=>
 some y1
theorem z4O {a0:(List UInt8)}{r:Grammar}(hr:q6r a0=some r):Ok Tryz.prog 5 [.d .fz (.sl 1 (a0.map byD))] [] (.ag [.ref 0 none,.d .fz (.sl 6 (r.Rules.map Rule.D))]) [.deep .fz 2 (r.Symbols.map Symbol.O) []]:=by
 refine OE Tryz.func5 fun S hS=>?_
 unfold q6r at hr
 refine J g<|J (NV' 0)<|bdE hr fun y1 hy1 hr=>J g<|J (CB' [(0,1)] [] (z9j hy1))<|e
def q4d (a0:Int)(a1:Int)(a2:Int):Option Bool:=
 if a1≤a0 then (
 some (decide (a0≤a2))
 ) else (
 some false
 )
theorem q4C {a0:Int}{a1:Int}{a2:Int}{r:Bool}(hr:q4d a0 a1 a2=some r):Ok Tryz.prog 62 [dI a0,dI a1,dI a2] [] (dB r) []:=by
 refine OE Tryz.func62 fun S hS=>?_
 unfold q4d at hr
 refine J (gn 9)<|ifE hr ?_ ?_<;>intro h1 hr
 exact e
 exact e
def z3n (a0:UInt8):Option Bool:=
 if 97≤(a0.toNat:Int) then (
 some (decide ((a0.toNat:Int)≤122))
 ) else (
 some false
 )
theorem j1r {a0:UInt8}{r:Bool}(hr:z3n a0=some r):Ok Tryz.prog 235 [.d .fz (.i .u8 (a0.toNat:Int))] [] (dB r) []:=by
 refine OE Tryz.func235 fun S hS=>?_
 unfold z3n at hr
 refine J (gn 8)<|ifE hr ?_ ?_<;>intro h1 hr
 exact e
 exact e
def z4P (a0:UInt8):Option Bool:=
 if 48≤(a0.toNat:Int) then (
 some (decide ((a0.toNat:Int)≤57))
 ) else (
 some false
 )
theorem j7m {a0:UInt8}{r:Bool}(hr:z4P a0=some r):Ok Tryz.prog 236 [.d .fz (.i .u8 (a0.toNat:Int))] [] (dB r) []:=by
 refine OE Tryz.func236 fun S hS=>?_
 unfold z4P at hr
 refine J (gn 8)<|ifE hr ?_ ?_<;>intro h1 hr
 exact e
 exact e
def z0Z (a0:ByteArray):Option Bool:=
 if a0=(⟨#[105,102]⟩:ByteArray) then (
 if a0=(⟨#[105,102]⟩:ByteArray) then (
 some true
 ) else (
 some false
 )
 ) else (
 if a0=(⟨#[116,104,101,110]⟩:ByteArray) then (
 if a0=(⟨#[116,104,101,110]⟩:ByteArray) then (
 some true
 ) else (
 some false
 )
 ) else (
 if a0=(⟨#[101,108,115,101]⟩:ByteArray) then (
 if a0=(⟨#[101,108,115,101]⟩:ByteArray) then (
 some true
 ) else (
 some false
 )
 ) else (
 if a0=(⟨#[116,114,117,101]⟩:ByteArray) then (
 if a0=(⟨#[116,114,117,101]⟩:ByteArray) then (
 some true
 ) else (
 some false
 )
 ) else (
 if a0=(⟨#[102,97,108,115,101]⟩:ByteArray) then (
 if a0=(⟨#[102,97,108,115,101]⟩:ByteArray) then (
 some true
 ) else (
 some false
 )
 ) else (
 if a0=(⟨#[108,105,116]⟩:ByteArray) then (
 if a0=(⟨#[108,105,116]⟩:ByteArray) then (
 some true
 ) else (
 some false
 )
 ) else (
 if a0=(⟨#[110,111,110,101]⟩:ByteArray) then (
 if a0=(⟨#[110,111,110,101]⟩:ByteArray) then (
 some true
 ) else (
 some false
 )
 ) else (
 if a0=(⟨#[115,101,108,102]⟩:ByteArray) then (
 if a0=(⟨#[115,101,108,102]⟩:ByteArray) then (
 some true
 ) else (
 some false
 )
 ) else (
 if a0=(⟨#[111,102]⟩:ByteArray) then (
 if a0=(⟨#[111,102]⟩:ByteArray) then (
 some true
 ) else (
 some false
 )
 ) else (
 if a0=(⟨#[109,97,120]⟩:ByteArray) then (
 if a0=(⟨#[109,97,120]⟩:ByteArray) then (
 some true
 ) else (
 some false
 )
 ) else (
 if a0=(⟨#[109,105,110]⟩:ByteArray) then (
 if a0=(⟨#[109,105,110]⟩:ByteArray) then (
 some true
 ) else (
 some false
 )
 ) else (
 if a0=(⟨#[119,105,116,104]⟩:ByteArray) then (
 if a0=(⟨#[119,105,116,104]⟩:ByteArray) then (
 some true
 ) else (
 some false
 )
 ) else (
 if a0=(⟨#[104,97,115]⟩:ByteArray) then (
 some true
 ) else (
 some false
 )
 )
 )
 )
 )
 )
 )
 )
 )
 )
 )
 )
 )
theorem j2z {a0:ByteArray}{r:Bool}(hr:z0Z a0=some r):Ok Tryz.prog 237 [dS a0] [] (dB r) []:=by
 refine OE Tryz.func237 fun S hS=>?_
 unfold z0Z at hr
 refine J (gn 16)<|ifE hr ?_ ?_<;>intro h1 hr
 refine J (gn 2)<|ifE hr ?_ ?_<;>intro h2 hr
 exact e
 exact e
 refine J (gn 6)<|ifE hr ?_ ?_<;>intro h3 hr
 refine J (gn 2)<|ifE hr ?_ ?_<;>intro h4 hr
 exact e
 exact e
 refine J (gn 6)<|ifE hr ?_ ?_<;>intro h5 hr
 refine J (gn 2)<|ifE hr ?_ ?_<;>intro h6 hr
 exact e
 exact e
 refine J (gn 6)<|ifE hr ?_ ?_<;>intro h7 hr
 refine J (gn 2)<|ifE hr ?_ ?_<;>intro h8 hr
 exact e
 exact e
 refine J (gn 6)<|ifE hr ?_ ?_<;>intro h9 hr
 refine J (gn 2)<|ifE hr ?_ ?_<;>intro h10 hr
 exact e
 exact e
 refine J (gn 6)<|ifE hr ?_ ?_<;>intro h11 hr
 refine J (gn 2)<|ifE hr ?_ ?_<;>intro h12 hr
 exact e
 exact e
 refine J (gn 6)<|ifE hr ?_ ?_<;>intro h13 hr
 refine J (gn 2)<|ifE hr ?_ ?_<;>intro h14 hr
 exact e
 exact e
 refine J (gn 6)<|ifE hr ?_ ?_<;>intro h15 hr
 refine J (gn 2)<|ifE hr ?_ ?_<;>intro h16 hr
 exact e
 exact e
 refine J (gn 6)<|ifE hr ?_ ?_<;>intro h17 hr
 refine J (gn 2)<|ifE hr ?_ ?_<;>intro h18 hr
 exact e
 exact e
 refine J (gn 6)<|ifE hr ?_ ?_<;>intro h19 hr
 refine J (gn 2)<|ifE hr ?_ ?_<;>intro h20 hr
 exact e
 exact e
 refine J (gn 6)<|ifE hr ?_ ?_<;>intro h21 hr
 refine J (gn 2)<|ifE hr ?_ ?_<;>intro h22 hr
 exact e
 exact e
 refine J (gn 6)<|ifE hr ?_ ?_<;>intro h23 hr
 refine J (gn 2)<|ifE hr ?_ ?_<;>intro h24 hr
 exact e
 exact e
 refine J (gn 5)<|ifE hr ?_ ?_<;>intro h25 hr
 exact e
 exact e
def z6x (a0:ByteArray):Nat→Unit→Option (Unit ⊕ Bool):=fun k1 _=>
 (a0.data[k1]?).bind fun x1=>
 (z3n x1).bind fun y1=>
 if y1=true then (
 some (.inl ())
 ) else (
 (z4P x1).bind fun y2=>
 if y2=true then (
 some (.inl ())
 ) else (
 some (.inr false)
 )
 )
def q4E (a0:ByteArray):Option Bool:=
 (findN (z6x a0) 0 a0.size ()).bind <| onr (fun r1=>some r1) fun _=>
 (q4d (a0.size:Int) 1 8).bind fun y3=>
 (
 if y3=true then (
 (a0.data[0]?).bind fun x2=>
 (z3n x2).bind fun y4=>
 some y4
 ) else (
 some false
 )
 ).bind fun s1=>
 (
 if s1=true then (
 (z0Z a0).bind fun y5=>
 some (!y5)
 ) else (
 some false
 )
 ).bind fun s2=>
 some s2
theorem q5E {a0:ByteArray}{r:Bool}(hr:q4E a0=some r):Ok Tryz.prog 225 [dS a0] [] (dB r) []:=by
 refine OE Tryz.func225 fun S hS=>?_
 unfold q4E at hr
 refine J g<|J LS'<|J (gn 3)<|J (rngT 5)<|fun hl1=>bdE hr fun q1 hqq1 hr=>q0q hqq1 0 (fun k1 _=>[(0,dS a0),(5,dI (a0.size:Int)),(6,dI (k1:Int))]) (fun k1 _=>[]) I (fun k1 sk1 ok1 hr hltk1 hik1=>?_) fun sk1 ek1=>?_
 refine bdE hr fun x1 hx1 hr=>J g ?_
 refine J (SI' rfl rfl (Int.natCast_nonneg _) hx1)<|bdE hr fun y1 hy1 hr=>J (CB' [] [] (j1r hy1))<|J (gn 1)<|ifE hr ?_ ?_<;>intro h1 hr
 exact e
 refine J g ?_
 refine J (SI' rfl rfl (Int.natCast_nonneg _) hx1)<|bdE hr fun y2 hy2 hr=>J (CB' [] [] (j7m hy2))<|J (gn 3)<|ifE hr ?_ ?_<;>intro h2 hr
 exact e
 exact e
 subst ek1
 refine J g<|J LS'<|bdE hr fun y3 hy3 hr=>J (CB' [] [] (q4C hy3))<|bdE hr fun s1 hqq2 hr=>q0a 5 [(0,dS a0),(29,dB s1)] ?_ ?_
 replace hr:=hqq2
 refine ifE hr ?_ ?_<;>intro h3 hr
 refine bdE hr fun x2 hx2 hr=>J g ?_
 refine J (SI' rfl rfl (Int.natCast_nonneg _) hx2)<|bdE hr fun y4 hy4 hr=>J (CB' [] [] (j1r hy4))<|J g<|E
 exact e
 refine bdE hr fun s2 hqq3 hr=>q0a 5 [(34,dB s2)] ?_ ?_
 replace hr:=hqq3
 refine ifE hr ?_ ?_<;>intro h4 hr
 refine bdE hr fun y5 hy5 hr=>J g<|J (CB' [] [] (j2z hy5))<|e
 exact e
 exact e
def z4Q (a0:Int):Option Bool:=
 (q4d a0 1 4).bind fun y1=>
 some y1
theorem j3o {a0:Int}{r:Bool}(hr:z4Q a0=some r):Ok Tryz.prog 234 [dI a0] [] (dB r) []:=by
 refine OE Tryz.func234 fun S hS=>?_
 unfold z4Q at hr
 refine bdE hr fun y1 hy1 hr=>J g<|J (CB' [] [] (q4C hy1))<|e
def q7H (a0:Attribute):Option Bool:=
 (q4E a0.Name).bind fun y1=>
 (
 if y1=true then (
 (z4Q a0.Type_).bind fun y2=>
 some (!y2)
 ) else (
 some true
 )
 ).bind fun s1=>
 (
 if s1=true then (
 some true
 ) else (
 (q4d a0.Mode 1 3).bind fun y3=>
 some (!y3)
 )
 ).bind fun s2=>
 if s2=true then (
 some false
 ) else (
 if a0.Mode=3 then (
 (
 if a0.Type_=2 then (
 some (!a0.Circular)
 ) else (
 some false
 )
 ).bind fun s3=>
 some s3
 ) else (
 (
 if a0.Circular=true then (
 some (decide (a0.Type_=2))
 ) else (
 some true
 )
 ).bind fun s4=>
 some s4
 )
 )
theorem z7v {a0:Attribute}{r:Bool}(hr:q7H a0=some r):Ok Tryz.prog 223 [Attribute.x .fz a0] [] (dB r) []:=by
 refine OE Tryz.func223 fun S hS=>?_
 unfold q7H at hr
 refine J g<|J (BX' 0)<|bdE hr fun y1 hy1 hr=>J g<|J (CB' [] [] (q5E hy1))<|bdE hr fun s1 hqq1 hr=>J (gn 1)<|q0a 6 [(1,.pb 0 0),(13,dB s1)] ?_ ?_
 replace hr:=hqq1
 refine ifE hr ?_ ?_<;>intro h1 hr
 refine bdE hr fun y2 hy2 hr=>J g<|J (CB' [] [] (j3o hy2))<|e
 exact e
 refine bdE hr fun s2 hqq2 hr=>q0a 6 [(1,.pb 0 0),(19,dB s2)] ?_ ?_
 replace hr:=hqq2
 refine ifE hr ?_ ?_<;>intro h2 hr
 exact e
 refine bdE hr fun y3 hy3 hr=>J g<|J (CB' [] [] (q4C hy3))<|e
 refine J (gn 2)<|ifE hr ?_ ?_<;>intro h3 hr
 exact e
 refine J (gn 8)<|ifE hr ?_ ?_<;>intro h4 hr
 refine bdE hr fun s3 hqq3 hr=>J (gn 6)<|q0a 5 [(31,dB s3)] ?_ ?_
 replace hr:=hqq3
 refine ifE hr ?_ ?_<;>intro h5 hr
 exact e
 exact e
 exact e
 refine bdE hr fun s4 hqq4 hr=>J (gn 7)<|q0a 5 [(39,dB s4)] ?_ ?_
 replace hr:=hqq4
 refine ifE hr ?_ ?_<;>intro h6 hr
 exact e
 exact e
 exact e
def q9q (a0:Attribute)(a1:Attribute):Option Bool:=
 some (decide (a0.Name=a1.Name))
theorem z7L {a0:Attribute}{a1:Attribute}{r:Bool}(hr:q9q a0 a1=some r):Ok Tryz.prog 224 [Attribute.x .fz a0,.pb 0 0] [.box [dS a1.Name,dI a1.Type_,dI a1.Mode,dB a1.Circular]] (dB r) [.box [dS a1.Name,dI a1.Type_,dI a1.Mode,dB a1.Circular]]:=by
 refine OE Tryz.func224 fun S hS=>?_
 unfold q9q at hr
 refine J g<|J (BX' 1)<|e
def q6b (a1_0:Attribute):Nat→Attribute→Unit→Option (Unit ⊕ Int):=fun k1 xk1 _=>
 (q9q xk1 a1_0).bind fun y1=>
 if y1=true then (
 some (.inr (k1:Int))
 ) else (
 some (.inl ())
 )
def q4g (a0:(List Attribute))(a1_0:Attribute):Option Int:=
 (findL (q6b a1_0) 0 a0 ()).bind <| onr (fun r1=>some r1) fun _=>
 some (-1)
theorem q8m {m:Md}{a0:(List Attribute)}{a1_0:Attribute}{r:Int}(hr:q4g a0 a1_0=some r):Ok Tryz.prog 136 [.d m (.sl 4 (a0.map Attribute.D)),.fn 224 [.pb 0 0]] [.box [dS a1_0.Name,dI a1_0.Type_,dI a1_0.Mode,dB a1_0.Circular]] (dI r) [.box [dS a1_0.Name,dI a1_0.Type_,dI a1_0.Mode,dB a1_0.Circular]]:=by
 refine OE Tryz.func136 fun S hS=>?_
 unfold q4g at hr
 refine J (gn 12)<|J (lenT 0)<|fun hl1=>bdE hr fun q1 hqq1 hr=>q0b hqq1 hl1 1 (fun k1 _=>[(0,.d m (.sl 4 (a0.map Attribute.D))),(1,.fn 224 [.pb 0 0]),(7,dI (a0.length:Int)),(8,dI (k1:Int))]) (fun k1 _=>[]) I (fun k1 xk1 sk1 ok1 hxk1 hr hltk1 hik1=>?_) fun k1 sk1 ek1 hltk1=>?_
 refine bdE hr fun y1 hy1 hr=>J g<|J (CB' [(0,0)] [] (z7L hy1))<|J (gn 1)<|ifE hr ?_ ?_<;>intro h1 hr
 exact e
 exact e
 subst ek1
 exact e
def q3Z (a0:(List Attribute))(a1_0:Attribute):Option Bool:=
 (q4g a0 a1_0).bind fun y1=>
 some (decide (0≤y1))
theorem q7U {m:Md}{a0:(List Attribute)}{a1_0:Attribute}{r:Bool}(hr:q3Z a0 a1_0=some r):Ok Tryz.prog 99 [.d m (.sl 4 (a0.map Attribute.D)),.fn 224 [.pb 0 0]] [.box [dS a1_0.Name,dI a1_0.Type_,dI a1_0.Mode,dB a1_0.Circular]] (dB r) [.box [dS a1_0.Name,dI a1_0.Type_,dI a1_0.Mode,dB a1_0.Circular]]:=by
 refine OE Tryz.func99 fun S hS=>?_
 unfold q3Z at hr
 refine bdE hr fun y1 hy1 hr=>J g<|J (CB' [(0,0)] [] (q8m (m:=m) hy1))<|e
def q9K (a0:Symbol):Nat→Attribute→Unit→Option (Unit ⊕ Bool):=fun k1 xk1 _=>
 (q7H xk1).bind fun y1=>
 if y1=true then (
 grd (k1≤a0.Attributes.length) <|
 (q3Z (a0.Attributes.take k1) xk1).bind fun y2=>
 if y2=true then (
 some (.inr false)
 ) else (
 some (.inl ())
 )
 ) else (
 some (.inr false)
 )
def q8X (a0:Symbol):Option Bool:=
 (findL (q9K a0) 0 a0.Attributes ()).bind <| onr (fun r1=>some r1) fun _=>
 (q4E a0.Name).bind fun y3=>
 (
 if y3=true then (
 some (decide ((a0.Attributes.length:Int)≤4))
 ) else (
 some false
 )
 ).bind fun s1=>
 some s1
theorem z9k {m:Md}{a0:Symbol}{r:Bool}(hr:q8X a0=some r):Ok Tryz.prog 194 [Symbol.x m a0] [] (dB r) []:=by
 refine OE Tryz.func194 fun S hS=>?_
 unfold q8X at hr
 refine J g<|J (BX' 0)<|J (gn 11)<|J (lenA 1 0)<|fun hl1=>bdE hr fun q1 hqq1 hr=>q0b hqq1 hl1 1 (fun k1 _=>[(1,.pb 0 0),(6,.d m (.sl 4 (a0.Attributes.map Attribute.D))),(7,dI (a0.Attributes.length:Int)),(8,dI (k1:Int))]) (fun k1 _=>[]) I (fun k1 xk1 sk1 ok1 hxk1 hr hltk1 hik1=>?_) fun k1 sk1 ek1 hltk1=>?_
 refine J g<|J (NV' 1)<|bdE hr fun y1 hy1 hr=>J g<|J (CB' [] [] (z7v hy1))<|J (gn 1)<|ifE hr ?_ ?_<;>intro h1 hr
 refine ggE hr fun g1 hr=>J g<|J (SLH' (Int.natCast_nonneg _) g1)<|bdE hr fun y2 hy2 hr=>J g<|J (CB' [(0,1)] [] (q7U (m:=m) hy2))<|J (gn 2)<|ifE hr ?_ ?_<;>intro h2 hr
 exact e
 exact e
 exact e
 subst ek1
 refine bdE hr fun y3 hy3 hr=>J g<|J (CB' [] [] (q5E hy3))<|bdE hr fun s1 hqq2 hr=>q0a 6 [(33,dB s1)] ?_ ?_
 replace hr:=hqq2
 refine ifE hr ?_ ?_<;>intro h3 hr
 exact e
 exact e
 exact e
def z1a (a0:Symbol)(a1:Symbol):Option Bool:=
 some (decide (a0.Name=a1.Name))
theorem j0f {m:Md}{m2:Md}{a0:Symbol}{a1:Symbol}{r:Bool}(hr:z1a a0 a1=some r):Ok Tryz.prog 195 [Symbol.x m a0,.pb 0 0] [.box [dS a1.Name,.d m2 (.sl 4 (a1.Attributes.map Attribute.D))]] (dB r) [.box [dS a1.Name,.d m2 (.sl 4 (a1.Attributes.map Attribute.D))]]:=by
 refine OE Tryz.func195 fun S hS=>?_
 unfold z1a at hr
 refine J g<|J (BX' 1)<|e
def q6Q (a1_0:Symbol):Nat→Symbol→Unit→Option (Unit ⊕ Int):=fun k1 xk1 _=>
 (z1a xk1 a1_0).bind fun y1=>
 if y1=true then (
 some (.inr (k1:Int))
 ) else (
 some (.inl ())
 )
def q4N (a0:(List Symbol))(a1_0:Symbol):Option Int:=
 (findL (q6Q a1_0) 0 a0 ()).bind <| onr (fun r1=>some r1) fun _=>
 some (-1)
theorem q9t {m:Md}{m2:Md}{a0:(List Symbol)}{a1_0:Symbol}{r:Int}(hr:q4N a0 a1_0=some r):Ok Tryz.prog 60 [.d m (.sl 2 (a0.map Symbol.D)),.fn 195 [.pb 0 0]] [.box [dS a1_0.Name,.d m2 (.sl 4 (a1_0.Attributes.map Attribute.D))]] (dI r) [.box [dS a1_0.Name,.d m2 (.sl 4 (a1_0.Attributes.map Attribute.D))]]:=by
 refine OE Tryz.func60 fun S hS=>?_
 unfold q4N at hr
 refine J (gn 12)<|J (lenT 0)<|fun hl1=>bdE hr fun q1 hqq1 hr=>q0b hqq1 hl1 1 (fun k1 _=>[(0,.d m (.sl 2 (a0.map Symbol.D))),(1,.fn 195 [.pb 0 0]),(7,dI (a0.length:Int)),(8,dI (k1:Int))]) (fun k1 _=>[]) I (fun k1 xk1 sk1 ok1 hxk1 hr hltk1 hik1=>?_) fun k1 sk1 ek1 hltk1=>?_
 refine bdE hr fun y1 hy1 hr=>J g<|J (CB' [(0,0)] [] (j0f (m:=m) (m2:=m2) hy1))<|J (gn 1)<|ifE hr ?_ ?_<;>intro h1 hr
 exact e
 exact e
 subst ek1
 exact e
def q4w (a0:(List Symbol))(a1_0:Symbol):Option Bool:=
 (q4N a0 a1_0).bind fun y1=>
 some (decide (0≤y1))
theorem q8O {m:Md}{m2:Md}{a0:(List Symbol)}{a1_0:Symbol}{r:Bool}(hr:q4w a0 a1_0=some r):Ok Tryz.prog 97 [.d m (.sl 2 (a0.map Symbol.D)),.fn 195 [.pb 0 0]] [.box [dS a1_0.Name,.d m2 (.sl 4 (a1_0.Attributes.map Attribute.D))]] (dB r) [.box [dS a1_0.Name,.d m2 (.sl 4 (a1_0.Attributes.map Attribute.D))]]:=by
 refine OE Tryz.func97 fun S hS=>?_
 unfold q4w at hr
 refine bdE hr fun y1 hy1 hr=>J g<|J (CB' [(0,0)] [] (q9t (m:=m) (m2:=m2) hy1))<|e
def z3b (rec_iCountExpr:Expr→Option Int):Nat→Expr→Int→Option Int:=fun k1 xk1 s1=>
 (rec_iCountExpr xk1).bind fun y1=>
 grd (I64 (s1+y1)) <|
 some (s1+y1)
def z2y (rec_iCountExpr:Expr→Option Int)(a0:Expr):Option Int:=
 (eachL (z3b rec_iCountExpr) 0 a0.Args 1).bind fun s1=>
 some s1
theorem j2A {rec_iCountExpr:Expr→Option Int}(ih_iCountExpr:∀ {m:Md} {a0:Expr} {r:Int},rec_iCountExpr a0=some r→Ok Tryz.prog 243 [Expr.x m a0] [] (dI r) []){m:Md}{a0:Expr}{r:Int}(hr:z2y rec_iCountExpr a0=some r):Ok Tryz.prog 243 [Expr.x m a0] [] (dI r) []:=by
 refine OE Tryz.func243 fun S hS=>?_
 unfold z2y at hr
 refine J g<|J (BX' 0)<|J (gn 15)<|J (lenA 6 0)<|fun hl1=>bdE hr fun s1 hqq1 hr=>q0d hqq1 hl1 1 (fun k1 s1=>[(3,dI s1),(7,.d m (.sl 7 (a0.Args.map Expr.D))),(8,dI (a0.Args.length:Int)),(9,dI (k1:Int))]) (fun k1 s1=>[]) I (fun k1 xk1 sk1 ok1 hxk1 hr hltk1=>?_) fun k1 hltk1=>?_
 obtain⟨s1,rfl⟩:∃ y,y=sk1:=⟨_,rfl⟩
 refine J g<|J (NV' 1)<|bdE hr fun y1 hy1 hr=>J g<|J (CB' [] [] (ih_iCountExpr (m:=m) hy1))<|ggE hr fun g1 hr=>e
 exact e
def z0M:Nat→Expr→Option Int
  | 0,_=>none
  | n+1,a0=>z2y (z0M n) a0
def z6y (a0:Expr):Option Int:=recO fun n=>z0M n a0
theorem j2B (n:Nat):∀ {m:Md} {a0:Expr} {r:Int},z0M n a0=some r→Ok Tryz.prog 243 [Expr.x m a0] [] (dI r) []:=by
  induction n with
  | zero=>intro _ _ r hr; exact nomatch (show (none:Option Int)=some r from hr)
  | succ n ih=>intro _ _ r hr; exact j2A ih hr
theorem j4d {m:Md}{a0:Expr}{r:Int}(hr:z6y a0=some r):Ok Tryz.prog 243 [Expr.x m a0] [] (dI r) []:=by
 obtain⟨n,hn⟩:=q6D hr
 exact j2B n hn
def z6z (rec_iDepthOfExpr:Expr→Option Int):Nat→Expr→Int→Option Int:=fun k1 xk1 s1=>
 (rec_iDepthOfExpr xk1).bind fun y1=>
 some (if y1 > s1 then y1 else s1)
def z0k (rec_iDepthOfExpr:Expr→Option Int)(a0:Expr):Option Int:=
 (eachL (z6z rec_iDepthOfExpr) 0 a0.Args 0).bind fun s1=>
 grd (I64 (s1+1)) <|
 some (s1+1)
theorem j0g {rec_iDepthOfExpr:Expr→Option Int}(ih_iDepthOfExpr:∀ {m:Md} {a0:Expr} {r:Int},rec_iDepthOfExpr a0=some r→Ok Tryz.prog 244 [Expr.x m a0] [] (dI r) []){m:Md}{a0:Expr}{r:Int}(hr:z0k rec_iDepthOfExpr a0=some r):Ok Tryz.prog 244 [Expr.x m a0] [] (dI r) []:=by
 refine OE Tryz.func244 fun S hS=>?_
 unfold z0k at hr
 refine J g<|J (BX' 0)<|J (gn 15)<|J (lenA 6 0)<|fun hl1=>bdE hr fun s1 hqq1 hr=>q0d hqq1 hl1 1 (fun k1 s1=>[(3,dI s1),(7,.d m (.sl 7 (a0.Args.map Expr.D))),(8,dI (a0.Args.length:Int)),(9,dI (k1:Int))]) (fun k1 s1=>[]) I (fun k1 xk1 sk1 ok1 hxk1 hr hltk1=>?_) fun k1 hltk1=>?_
 obtain⟨s1,rfl⟩:∃ y,y=sk1:=⟨_,rfl⟩
 refine J g<|J (NV' 1)<|bdE hr fun y1 hy1 hr=>J g<|J (CB' [] [] (ih_iDepthOfExpr (m:=m) hy1)) ?_
 refine J (MXI' rfl rfl)<|J g<|E
 refine ggE hr fun g1 hr=>e
def q7y:Nat→Expr→Option Int
  | 0,_=>none
  | n+1,a0=>z0k (q7y n) a0
def z4v (a0:Expr):Option Int:=recO fun n=>q7y n a0
theorem j0h (n:Nat):∀ {m:Md} {a0:Expr} {r:Int},q7y n a0=some r→Ok Tryz.prog 244 [Expr.x m a0] [] (dI r) []:=by
  induction n with
  | zero=>intro _ _ r hr; exact nomatch (show (none:Option Int)=some r from hr)
  | succ n ih=>intro _ _ r hr; exact j0g ih hr
theorem j1s {m:Md}{a0:Expr}{r:Int}(hr:z4v a0=some r):Ok Tryz.prog 244 [Expr.x m a0] [] (dI r) []:=by
 obtain⟨n,hn⟩:=q6D hr
 exact j0h n hn
def z5A (a0:Int):Option Int:=
 some (if ((-1000000):Int) > (if (1000000:Int) < a0 then (1000000:Int) else a0) then ((-1000000):Int) else (if (1000000:Int) < a0 then (1000000:Int) else a0))
theorem j5P {a0:Int}{r:Int}(hr:z5A a0=some r):Ok Tryz.prog 250 [dI a0] [] (dI r) []:=by
 refine OE Tryz.func250 fun S hS=>?_
 unfold z5A at hr
 refine J g ?_
 refine J (MNI' rfl rfl) ?_
 refine J (MXI' rfl rfl)<|J g<|E
def j1t (a0:Bool):Option Int:=
 if a0=true then (
 some 1
 ) else (
 some 0
 )
theorem k3f {a0:Bool}{r:Int}(hr:j1t a0=some r):Ok Tryz.prog 251 [dB a0] [] (dI r) []:=by
 refine OE Tryz.func251 fun S hS=>?_
 unfold j1t at hr
 refine J (gn 9)<|ifE hr ?_ ?_<;>intro h1 hr
 exact e
 exact e
def z6A (a0:Int)(a1:Int):Option Int:=
 if a1=1 then (
 (z5A a0).bind fun y1=>
 some y1
 ) else (
 if a1=2 then (
 some (z8j a0 4095)
 ) else (
 if a1=3 then (
 (j1t (!(decide (a0=0)))).bind fun y2=>
 some y2
 ) else (
 if a1=4 then (
 (q4d a0 0 999).bind fun y3=>
 if y3=true then (
 some a0
 ) else (
 some 0
 )
 ) else (
 some 0
 )
 )
 )
 )
theorem j9I {a0:Int}{a1:Int}{r:Int}(hr:z6A a0 a1=some r):Ok Tryz.prog 249 [dI a0,dI a1] [] (dI r) []:=by
 refine OE Tryz.func249 fun S hS=>?_
 unfold z6A at hr
 refine J (gn 12)<|ifE hr ?_ ?_<;>intro h1 hr
 refine bdE hr fun y1 hy1 hr=>J g<|J (CB' [] [] (j5P hy1))<|e
 refine J (gn 7)<|ifE hr ?_ ?_<;>intro h2 hr
 refine J g<|J (OB' _ k0O)<|e
 refine J (gn 7)<|ifE hr ?_ ?_<;>intro h3 hr
 refine bdE hr fun y2 hy2 hr=>J g<|J (CB' [] [] (k3f hy2))<|e
 refine J (gn 5)<|ifE hr ?_ ?_<;>intro h4 hr
 refine bdE hr fun y3 hy3 hr=>J g<|J (CB' [] [] (q4C hy3))<|J (gn 3)<|ifE hr ?_ ?_<;>intro h5 hr
 exact e
 exact e
 exact e
def z3E (a0:Int)(a1:Int):Option Bool:=
 (z4Q a1).bind fun y1=>
 if y1=true then (
 (z6A a0 a1).bind fun y2=>
 some (decide (y2=a0))
 ) else (
 some false
 )
theorem j5Q {a0:Int}{a1:Int}{r:Bool}(hr:z3E a0 a1=some r):Ok Tryz.prog 247 [dI a0,dI a1] [] (dB r) []:=by
 refine OE Tryz.func247 fun S hS=>?_
 unfold z3E at hr
 refine bdE hr fun y1 hy1 hr=>J g<|J (CB' [] [] (j3o hy1))<|ifE hr ?_ ?_<;>intro h1 hr
 refine bdE hr fun y2 hy2 hr=>J g<|J (CB' [] [] (j9I hy2))<|e
 exact e
def q7d (a0:Expr)(a1:Expr):Option Bool:=
 (
 if a0.Kind=a1.Kind then (
 some (decide (a0.N=a1.N))
 ) else (
 some false
 )
 ).bind fun s1=>
 (
 if s1=true then (
 some (decide (a0.Pos=a1.Pos))
 ) else (
 some false
 )
 ).bind fun s2=>
 (
 if s2=true then (
 some (decide (a0.Type_=a1.Type_))
 ) else (
 some false
 )
 ).bind fun s3=>
 (
 if s3=true then (
 some (decide (a0.Symbol=a1.Symbol))
 ) else (
 some false
 )
 ).bind fun s4=>
 (
 if s4=true then (
 some (decide (a0.Name=a1.Name))
 ) else (
 some false
 )
 ).bind fun s5=>
 some s5
theorem q8I {m:Md}{a0:Expr}{a1:Expr}{r:Bool}(hr:q7d a0 a1=some r):Ok Tryz.prog 248 [Expr.x m a0,Expr.x m a1] [] (dB r) []:=by
 refine OE Tryz.func248 fun S hS=>?_
 unfold q7d at hr
 refine J g<|J (BX' 0)<|J (BX' 1)<|bdE hr fun s1 hqq1 hr=>J (gn 9)<|q0a 7 [(2,.pb 0 0),(3,.pb 1 0),(4,dB false),(16,dB s1)] ?_ ?_
 replace hr:=hqq1
 refine ifE hr ?_ ?_<;>intro h1 hr
 exact e
 exact e
 refine bdE hr fun s2 hqq2 hr=>q0a 7 [(2,.pb 0 0),(3,.pb 1 0),(4,dB false),(23,dB s2)] ?_ ?_
 replace hr:=hqq2
 refine ifE hr ?_ ?_<;>intro h2 hr
 exact e
 exact e
 refine bdE hr fun s3 hqq3 hr=>q0a 7 [(2,.pb 0 0),(3,.pb 1 0),(4,dB false),(30,dB s3)] ?_ ?_
 replace hr:=hqq3
 refine ifE hr ?_ ?_<;>intro h3 hr
 exact e
 exact e
 refine bdE hr fun s4 hqq4 hr=>q0a 7 [(2,.pb 0 0),(3,.pb 1 0),(4,dB false),(37,dB s4)] ?_ ?_
 replace hr:=hqq4
 refine ifE hr ?_ ?_<;>intro h4 hr
 exact e
 exact e
 refine bdE hr fun s5 hqq5 hr=>q0a 7 [(4,dB false),(44,dB s5)] ?_ ?_
 replace hr:=hqq5
 refine ifE hr ?_ ?_<;>intro h5 hr
 exact e
 exact e
 exact e
end Go.Proofs.YtpnkinhphabkcaaGreat
