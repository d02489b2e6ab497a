/- What some functions of the program compute, as partial functions on plain data, and that they do; each lemma bears its conditions in its statement. -/
import Derived.Test.YtiojgbiimbefiacGreatLift2
set_option linter.unusedVariables false
set_option linter.unusedSimpArgs false
set_option linter.ambiguousOpen false
set_option linter.unusedSectionVars false
set_option linter.unnecessarySimpa false
set_option maxRecDepth 100000
set_option maxHeartbeats 40000000
noncomputable section
namespace Go.Proofs.YtiojgbiimbefiacGreat
open Go Go.E Go.A
def q5j (o0:l1Cur):Option (ByteArray × l1Cur):=
 (q3t [(⟨#[97]⟩:ByteArray),(⟨#[98]⟩:ByteArray),(⟨#[99]⟩:ByteArray),(⟨#[100]⟩:ByteArray),(⟨#[120]⟩:ByteArray),(⟨#[121]⟩:ByteArray),(⟨#[116]⟩:ByteArray),(⟨#[117]⟩:ByteArray)] o0).bind fun (y1,z1)=>
 some (y1,(⟨o0.b,z1.i,z1.h⟩:l1Cur))
theorem q8O {o0:l1Cur}{r:(ByteArray × l1Cur)}(hr:q5j o0=some r):Ok Tryz.prog 92 [.pb 0 0] [.box [.d .fz (.sl 1 (o0.b.map byD)),.d .fz (.i .i64 o0.i),.d .fz (.i .i64 o0.h)]] (.d .fz (.s r.1)) [.box [.d .fz (.sl 1 (o0.b.map byD)),.d .fz (.i .i64 r.2.i),.d .fz (.i .i64 r.2.h)]]:=by
 refine Ok.enter rfl Tryz.func92 rfl rfl rfl fun S hS=>?_
 unfold q5j at hr
 refine AW.seq (AW.regL ?_)
 refine V rfl ?_
 refine AL.nil ?_
 refine AW.seq (AW.regL ?_)
 refine V rfl ?_
 refine LIR 1 (m:=.fz) (f:=A.D.s) (xs:=[(⟨#[97]⟩:ByteArray),(⟨#[98]⟩:ByteArray),(⟨#[99]⟩:ByteArray),(⟨#[100]⟩:ByteArray),(⟨#[120]⟩:ByteArray),(⟨#[121]⟩:ByteArray),(⟨#[116]⟩:ByteArray),(⟨#[117]⟩:ByteArray)]) ?_
 refine bdE hr fun q1 hq1 hr=>?_
 obtain⟨y1,z1⟩:=q1
 refine CB [(0,0)] [1] (q3Q (m:=.bo) hq1) ?_
 refine V rfl ?_
 refine AL.nil ?_
 refine AW.ret ?_
 cases hr
 exact endA.renK [(0,0)] 1 hS
def q3R (rec_sl4Free:Int→l1Cur→Option (Expr × l1Cur))(a1:Int)(o0:l1Cur):Option (Expr × l1Cur):=
 if a1 < 2 then (
 (q1L 5 o0).bind fun (y1,z1)=>
 if y1=true then (
 some ((⟨2,0,0,0,(⟨#[]⟩:ByteArray),(⟨#[]⟩:ByteArray),[]⟩:Expr),(⟨o0.b,z1.i,z1.h⟩:l1Cur))
 ) else (
 (q1L 6 (⟨o0.b,z1.i,z1.h⟩:l1Cur)).bind fun (y2,z2)=>
 if y2=true then (
 (q1p 4 (⟨o0.b,z2.i,z2.h⟩:l1Cur)).bind fun (y3,z3)=>
 some ((⟨6,0,y3,0,(⟨#[]⟩:ByteArray),(⟨#[]⟩:ByteArray),[]⟩:Expr),(⟨o0.b,z3.i,z3.h⟩:l1Cur))
 ) else (
 (q1p 4 (⟨o0.b,z2.i,z2.h⟩:l1Cur)).bind fun (y4,z4)=>
 grd (I64 (1+y4)) <|
 (q1p 4 (⟨o0.b,z4.i,z4.h⟩:l1Cur)).bind fun (y5,z5)=>
 (q5j (⟨o0.b,z5.i,z5.h⟩:l1Cur)).bind fun (y6,z6)=>
 (q3G (1+y4) [(⟨y5,y6⟩:Occurrence)] (⟨o0.b,z6.i,z6.h⟩:l1Cur)).bind fun (y7,z7)=>
 some (y7,(⟨o0.b,z7.i,z7.h⟩:l1Cur))
 )
 )
 ) else (
 (q1L 4 o0).bind fun (y8,z8)=>
 if y8=true then (
 (q1L 5 (⟨o0.b,z8.i,z8.h⟩:l1Cur)).bind fun (y9,z9)=>
 if y9=true then (
 some ((⟨2,0,0,0,(⟨#[]⟩:ByteArray),(⟨#[]⟩:ByteArray),[]⟩:Expr),(⟨o0.b,z9.i,z9.h⟩:l1Cur))
 ) else (
 (q1L 6 (⟨o0.b,z9.i,z9.h⟩:l1Cur)).bind fun (y10,z10)=>
 if y10=true then (
 (q1p 4 (⟨o0.b,z10.i,z10.h⟩:l1Cur)).bind fun (y11,z11)=>
 some ((⟨6,0,y11,0,(⟨#[]⟩:ByteArray),(⟨#[]⟩:ByteArray),[]⟩:Expr),(⟨o0.b,z11.i,z11.h⟩:l1Cur))
 ) else (
 (q1p 4 (⟨o0.b,z10.i,z10.h⟩:l1Cur)).bind fun (y12,z12)=>
 grd (I64 (1+y12)) <|
 (q1p 4 (⟨o0.b,z12.i,z12.h⟩:l1Cur)).bind fun (y13,z13)=>
 (q5j (⟨o0.b,z13.i,z13.h⟩:l1Cur)).bind fun (y14,z14)=>
 (q3G (1+y12) [(⟨y13,y14⟩:Occurrence)] (⟨o0.b,z14.i,z14.h⟩:l1Cur)).bind fun (y15,z15)=>
 some (y15,(⟨o0.b,z15.i,z15.h⟩:l1Cur))
 )
 )
 ) else (
 (q1p 5 (⟨o0.b,z8.i,z8.h⟩:l1Cur)).bind fun (y16,z16)=>
 if y16=0 then (
 grd (I64 (a1 - 1)) <|
 (rec_sl4Free (a1 - 1) (⟨o0.b,z16.i,z16.h⟩:l1Cur)).bind fun (y17,z17)=>
 grd (I64 (a1 - 1)) <|
 (rec_sl4Free (a1 - 1) (⟨o0.b,z17.i,z17.h⟩:l1Cur)).bind fun (y18,z18)=>
 grd (I64 (a1 - 1)) <|
 (rec_sl4Free (a1 - 1) (⟨o0.b,z18.i,z18.h⟩:l1Cur)).bind fun (y19,z19)=>
 some ((⟨5,0,0,0,(⟨#[]⟩:ByteArray),(⟨#[]⟩:ByteArray),[y17,y18,y19]⟩:Expr),(⟨o0.b,z19.i,z19.h⟩:l1Cur))
 ) else (
 if y16=1 then (
 (q3t [(⟨#[115]⟩:ByteArray),(⟨#[116]⟩:ByteArray)] (⟨o0.b,z16.i,z16.h⟩:l1Cur)).bind fun (y20,z20)=>
 (q5j (⟨o0.b,z20.i,z20.h⟩:l1Cur)).bind fun (y21,z21)=>
 grd (I64 (a1 - 1)) <|
 (rec_sl4Free (a1 - 1) (⟨o0.b,z21.i,z21.h⟩:l1Cur)).bind fun (y22,z22)=>
 some ((⟨8,0,0,0,y20,y21,[y22]⟩:Expr),(⟨o0.b,z22.i,z22.h⟩:l1Cur))
 ) else (
 (q1p 12 (⟨o0.b,z16.i,z16.h⟩:l1Cur)).bind fun (y23,z23)=>
 grd (I64 (1+y23)) <|
 grd (I64 (a1 - 1)) <|
 (rec_sl4Free (a1 - 1) (⟨o0.b,z23.i,z23.h⟩:l1Cur)).bind fun (y24,z24)=>
 grd (I64 (a1 - 1)) <|
 (rec_sl4Free (a1 - 1) (⟨o0.b,z24.i,z24.h⟩:l1Cur)).bind fun (y25,z25)=>
 (q6z (1+y23) y24 y25).bind fun y26=>
 some (y26,(⟨o0.b,z25.i,z25.h⟩:l1Cur))
 )
 )
 )
 )
theorem z6t {rec_sl4Free:Int→l1Cur→Option (Expr × l1Cur)}(ih_sl4Free:∀ {a1:Int} {o0:l1Cur} {r:(Expr × l1Cur)},rec_sl4Free a1 o0=some r→Ok Tryz.prog 89 [.pb 0 0,.d .fz (.i .i64 a1)] [.box [.d .fz (.sl 1 (o0.b.map byD)),.d .fz (.i .i64 o0.i),.d .fz (.i .i64 o0.h)]] (.ag [.d .fz (.i .i64 r.1.Kind),.d .fz (.i .i64 r.1.N),.d .fz (.i .i64 r.1.Pos),.d .fz (.i .i64 r.1.Type_),.d .fz (.s r.1.Symbol),.d .fz (.s r.1.Name),.ref 1 none]) [.box [.d .fz (.sl 1 (o0.b.map byD)),.d .fz (.i .i64 r.2.i),.d .fz (.i .i64 r.2.h)],.row .fz 7 (r.1.Args.map Expr.D)]){a1:Int}{o0:l1Cur}{r:(Expr × l1Cur)}(hr:q3R rec_sl4Free a1 o0=some r):Ok Tryz.prog 89 [.pb 0 0,.d .fz (.i .i64 a1)] [.box [.d .fz (.sl 1 (o0.b.map byD)),.d .fz (.i .i64 o0.i),.d .fz (.i .i64 o0.h)]] (.ag [.d .fz (.i .i64 r.1.Kind),.d .fz (.i .i64 r.1.N),.d .fz (.i .i64 r.1.Pos),.d .fz (.i .i64 r.1.Type_),.d .fz (.s r.1.Symbol),.d .fz (.s r.1.Name),.ref 1 none]) [.box [.d .fz (.sl 1 (o0.b.map byD)),.d .fz (.i .i64 r.2.i),.d .fz (.i .i64 r.2.h)],.row .fz 7 (r.1.Args.map Expr.D)]:=by
 refine Ok.enter rfl Tryz.func89 rfl rfl rfl fun S hS=>?_
 unfold q3R at hr
 refine AW.seq (AW.regL ?_)
 refine NV 1 ?_
 refine AL.nil ?_
 refine AW.seq (AW.seq (AW.regL ?_))
 iterate 2 refine V rfl ?_
 refine ifE hr (fun h1 hr=>?_) fun h1 hr=>?_
 ·refine VT rfl (dT h1) ?_
  refine AL.off ?_
  refine AL.off ?_
  refine V rfl ?_
  refine AL.nil ?_
  refine AW.cT rfl rfl ?_
  refine AW.seq (AW.seq (AW.regL ?_))
  refine V rfl ?_
  refine bdE hr fun q1 hq1 hr=>?_
  obtain⟨y1,z1⟩:=q1
  refine CB [(0,0)] [] (q1W hq1) ?_
  refine AL.nil ?_
  refine ifE hr (fun h2 hr=>?_) fun h2 hr=>?_
  ·refine AW.cT rfl h2 ?_
   refine AW.seq (AW.regL ?_)
   refine V rfl ?_
   refine SB ?_
   refine AL.nil ?_
   refine AW.ret ?_
   refine endA.gh (GH.nlB (q:=1) (c:=6) (r:=2) .fz 7 rfl rfl rfl) ?_
   cases hr
   exact endA.renK [(0,0),(2,1)] 2 hS
  ·refine AW.cF rfl (bF h2) ?_
   refine AW.skip ?_
   refine AW.seq (AW.seq (AW.regL ?_))
   refine V rfl ?_
   refine bdE hr fun q2 hq2 hr=>?_
   obtain⟨y2,z2⟩:=q2
   refine CB [(0,0)] [] (q1W hq2) ?_
   refine AL.nil ?_
   refine ifE hr (fun h3 hr=>?_) fun h3 hr=>?_
   ·refine AW.cT rfl h3 ?_
    refine AW.seq (AW.regL ?_)
    refine V rfl ?_
    refine bdE hr fun q3 hq3 hr=>?_
    obtain⟨y3,z3⟩:=q3
    refine CB [(0,0)] [] (q1q hq3) ?_
    refine V rfl ?_
    refine SB ?_
    refine AL.nil ?_
    refine AW.ret ?_
    refine endA.gh (GH.nlB (q:=1) (c:=6) (r:=2) .fz 7 rfl rfl rfl) ?_
    cases hr
    exact endA.renK [(0,0),(2,1)] 2 hS
   ·refine AW.cF rfl (bF h3) ?_
    refine AW.skip ?_
    refine AW.seq (AW.regL ?_)
    iterate 2 refine V rfl ?_
    refine bdE hr fun q4 hq4 hr=>?_
    obtain⟨y4,z4⟩:=q4
    refine CB [(0,0)] [] (q1q hq4) ?_
    refine ggE hr fun g1 hr=>?_
    refine OB _ (bAdd g1) ?_
    refine V rfl ?_
    refine bdE hr fun q5 hq5 hr=>?_
    obtain⟨y5,z5⟩:=q5
    refine CB [(0,0)] [] (q1q hq5) ?_
    refine V rfl ?_
    refine bdE hr fun q6 hq6 hr=>?_
    obtain⟨y6,z6⟩:=q6
    refine CB [(0,0)] [] (q8O hq6) ?_
    refine V rfl ?_
    refine LIR 2 (m:=.fz) (f:=Occurrence.D) (xs:=[(⟨y5,y6⟩:Occurrence)]) ?_
    refine bdE hr fun q7 hq7 hr=>?_
    obtain⟨y7,z7⟩:=q7
    refine CB [(0,0),(1,3)] [2] (q4E (m:=.bo) hq7) ?_
    refine SB ?_
    refine AL.nil ?_
    refine AW.ret ?_
    cases hr
    exact endA.renK [(0,0),(3,1)] 2 hS
 ·refine VF rfl (dF h1) ?_
  refine V rfl ?_
  refine bdE hr fun q8 hq8 hr=>?_
  obtain⟨y8,z8⟩:=q8
  refine CB [(0,0)] [] (q1W hq8) ?_
  refine V rfl ?_
  refine AL.nil ?_
  refine ifE hr (fun h4 hr=>?_) fun h4 hr=>?_
  ·refine AW.cT rfl h4 ?_
   refine AW.seq (AW.seq (AW.regL ?_))
   refine V rfl ?_
   refine bdE hr fun q9 hq9 hr=>?_
   obtain⟨y9,z9⟩:=q9
   refine CB [(0,0)] [] (q1W hq9) ?_
   refine AL.nil ?_
   refine ifE hr (fun h5 hr=>?_) fun h5 hr=>?_
   ·refine AW.cT rfl h5 ?_
    refine AW.seq (AW.regL ?_)
    refine V rfl ?_
    refine SB ?_
    refine AL.nil ?_
    refine AW.ret ?_
    refine endA.gh (GH.nlB (q:=1) (c:=6) (r:=2) .fz 7 rfl rfl rfl) ?_
    cases hr
    exact endA.renK [(0,0),(2,1)] 2 hS
   ·refine AW.cF rfl (bF h5) ?_
    refine AW.skip ?_
    refine AW.seq (AW.seq (AW.regL ?_))
    refine V rfl ?_
    refine bdE hr fun q10 hq10 hr=>?_
    obtain⟨y10,z10⟩:=q10
    refine CB [(0,0)] [] (q1W hq10) ?_
    refine AL.nil ?_
    refine ifE hr (fun h6 hr=>?_) fun h6 hr=>?_
    ·refine AW.cT rfl h6 ?_
     refine AW.seq (AW.regL ?_)
     refine V rfl ?_
     refine bdE hr fun q11 hq11 hr=>?_
     obtain⟨y11,z11⟩:=q11
     refine CB [(0,0)] [] (q1q hq11) ?_
     refine V rfl ?_
     refine SB ?_
     refine AL.nil ?_
     refine AW.ret ?_
     refine endA.gh (GH.nlB (q:=1) (c:=6) (r:=2) .fz 7 rfl rfl rfl) ?_
     cases hr
     exact endA.renK [(0,0),(2,1)] 2 hS
    ·refine AW.cF rfl (bF h6) ?_
     refine AW.skip ?_
     refine AW.seq (AW.regL ?_)
     iterate 2 refine V rfl ?_
     refine bdE hr fun q12 hq12 hr=>?_
     obtain⟨y12,z12⟩:=q12
     refine CB [(0,0)] [] (q1q hq12) ?_
     refine ggE hr fun g2 hr=>?_
     refine OB _ (bAdd g2) ?_
     refine V rfl ?_
     refine bdE hr fun q13 hq13 hr=>?_
     obtain⟨y13,z13⟩:=q13
     refine CB [(0,0)] [] (q1q hq13) ?_
     refine V rfl ?_
     refine bdE hr fun q14 hq14 hr=>?_
     obtain⟨y14,z14⟩:=q14
     refine CB [(0,0)] [] (q8O hq14) ?_
     refine V rfl ?_
     refine LIR 2 (m:=.fz) (f:=Occurrence.D) (xs:=[(⟨y13,y14⟩:Occurrence)]) ?_
     refine bdE hr fun q15 hq15 hr=>?_
     obtain⟨y15,z15⟩:=q15
     refine CB [(0,0),(1,3)] [2] (q4E (m:=.bo) hq15) ?_
     refine SB ?_
     refine AL.nil ?_
     refine AW.ret ?_
     cases hr
     exact endA.renK [(0,0),(3,1)] 2 hS
  ·refine AW.cF rfl (bF h4) ?_
   refine AW.skip ?_
   refine AW.seq (AW.seq (AW.regL ?_))
   refine V rfl ?_
   refine bdE hr fun q16 hq16 hr=>?_
   obtain⟨y16,z16⟩:=q16
   refine CB [(0,0)] [] (q1q hq16) ?_
   refine AL.nil ?_
   refine AW.block (AW.seq (AW.regL ?_))
   iterate 2 refine V rfl ?_
   refine AL.nil ?_
   refine ifE hr (fun h7 hr=>?_) fun h7 hr=>?_
   ·refine AW.cT rfl (dT h7) ?_
    refine AW.seq (AW.regL ?_)
    iterate 2 refine V rfl ?_
    refine ggE hr fun g3 hr=>?_
    refine OB _ (bSub g3) ?_
    refine bdE hr fun q17 hq17 hr=>?_
    obtain⟨y17,z17⟩:=q17
    refine CB [(0,0),(1,2)] [] (ih_sl4Free hq17) ?_
    iterate 2 refine V rfl ?_
    refine ggE hr fun g4 hr=>?_
    refine OB _ (bSub g4) ?_
    refine bdE hr fun q18 hq18 hr=>?_
    obtain⟨y18,z18⟩:=q18
    refine CB [(0,0),(1,3)] [] (ih_sl4Free hq18) ?_
    iterate 2 refine V rfl ?_
    refine ggE hr fun g5 hr=>?_
    refine OB _ (bSub g5) ?_
    refine bdE hr fun q19 hq19 hr=>?_
    obtain⟨y19,z19⟩:=q19
    refine CB [(0,0),(1,4)] [] (ih_sl4Free hq19) ?_
    refine AL.fz 2 rfl ?_
    refine AL.fz 3 rfl ?_
    refine AL.fz 4 rfl ?_
    refine LIRq 5 (m:=.fz) (f:=Expr.D) [y17,y18,y19] (by simp only [List.map_cons,List.map_nil,Expr.D_eq]; rfl) ?_
    refine V rfl ?_
    refine SB ?_
    refine AL.nil ?_
    refine AW.ret ?_
    cases hr
    exact endA.renK [(0,0),(5,1)] 2 hS
   ·refine AW.cF rfl (dF h7) ?_
    refine AW.seq (AW.regL ?_)
    iterate 2 refine V rfl ?_
    refine AL.nil ?_
    refine ifE hr (fun h8 hr=>?_) fun h8 hr=>?_
    ·refine AW.cT rfl (dT h8) ?_
     refine AW.seq (AW.regL ?_)
     refine V rfl ?_
     refine LIR 2 (m:=.fz) (f:=A.D.s) (xs:=[(⟨#[115]⟩:ByteArray),(⟨#[116]⟩:ByteArray)]) ?_
     refine bdE hr fun q20 hq20 hr=>?_
     obtain⟨y20,z20⟩:=q20
     refine CB [(0,0)] [2] (q3Q (m:=.bo) hq20) ?_
     refine V rfl ?_
     refine bdE hr fun q21 hq21 hr=>?_
     obtain⟨y21,z21⟩:=q21
     refine CB [(0,0)] [] (q8O hq21) ?_
     iterate 2 refine V rfl ?_
     refine ggE hr fun g6 hr=>?_
     refine OB _ (bSub g6) ?_
     refine bdE hr fun q22 hq22 hr=>?_
     obtain⟨y22,z22⟩:=q22
     refine CB [(0,0),(1,3)] [] (ih_sl4Free hq22) ?_
     refine AL.fz 3 rfl ?_
     refine LIRq 4 (m:=.fz) (f:=Expr.D) [y22] (by simp only [List.map_cons,List.map_nil,Expr.D_eq]; rfl) ?_
     refine V rfl ?_
     refine SB ?_
     refine AL.nil ?_
     refine AW.ret ?_
     cases hr
     exact endA.renK [(0,0),(4,1)] 2 hS
    ·refine AW.cF rfl (dF h8) ?_
     refine AW.skip ?_
     refine AW.seq (AW.regL ?_)
     refine V rfl ?_
     refine bdE hr fun q23 hq23 hr=>?_
     obtain⟨y23,z23⟩:=q23
     refine CB [(0,0)] [] (q1q hq23) ?_
     refine ggE hr fun g7 hr=>?_
     refine OB _ (bAdd g7) ?_
     iterate 2 refine V rfl ?_
     refine ggE hr fun g8 hr=>?_
     refine OB _ (bSub g8) ?_
     refine bdE hr fun q24 hq24 hr=>?_
     obtain⟨y24,z24⟩:=q24
     refine CB [(0,0),(1,2)] [] (ih_sl4Free hq24) ?_
     iterate 2 refine V rfl ?_
     refine ggE hr fun g9 hr=>?_
     refine OB _ (bSub g9) ?_
     refine bdE hr fun q25 hq25 hr=>?_
     obtain⟨y25,z25⟩:=q25
     refine CB [(0,0),(1,3)] [] (ih_sl4Free hq25) ?_
     refine AL.fz 2 rfl ?_
     refine AL.fz 3 rfl ?_
     refine bdE hr fun y26 hy26 hr=>?_
     refine CB [(0,4)] [] (q6W (m:=.fz) hy26) ?_
     refine SB ?_
     refine AL.nil ?_
     refine AW.ret ?_
     cases hr
     exact endA.renK [(0,0),(4,1)] 2 hS
def q3e:Nat→Int→l1Cur→Option (Expr × l1Cur)
  | 0,_,_=>none
  | n+1,a1,o0=>q3R (q3e n) a1 o0
def q9N (a1:Int)(o0:l1Cur):Option (Expr × l1Cur):=recO fun n=>q3e n a1 o0
theorem z6u (n:Nat):∀ {a1:Int} {o0:l1Cur} {r:(Expr × l1Cur)},q3e n a1 o0=some r→Ok Tryz.prog 89 [.pb 0 0,.d .fz (.i .i64 a1)] [.box [.d .fz (.sl 1 (o0.b.map byD)),.d .fz (.i .i64 o0.i),.d .fz (.i .i64 o0.h)]] (.ag [.d .fz (.i .i64 r.1.Kind),.d .fz (.i .i64 r.1.N),.d .fz (.i .i64 r.1.Pos),.d .fz (.i .i64 r.1.Type_),.d .fz (.s r.1.Symbol),.d .fz (.s r.1.Name),.ref 1 none]) [.box [.d .fz (.sl 1 (o0.b.map byD)),.d .fz (.i .i64 r.2.i),.d .fz (.i .i64 r.2.h)],.row .fz 7 (r.1.Args.map Expr.D)]:=by
  induction n with
  | zero=>intro _ _ r hr; exact nomatch (show (none:Option (Expr × l1Cur))=some r from hr)
  | succ n ih=>intro _ _ r hr; exact z6t ih hr
theorem z2Z {a1:Int}{o0:l1Cur}{r:(Expr × l1Cur)}(hr:q9N a1 o0=some r):Ok Tryz.prog 89 [.pb 0 0,.d .fz (.i .i64 a1)] [.box [.d .fz (.sl 1 (o0.b.map byD)),.d .fz (.i .i64 o0.i),.d .fz (.i .i64 o0.h)]] (.ag [.d .fz (.i .i64 r.1.Kind),.d .fz (.i .i64 r.1.N),.d .fz (.i .i64 r.1.Pos),.d .fz (.i .i64 r.1.Type_),.d .fz (.s r.1.Symbol),.d .fz (.s r.1.Name),.ref 1 none]) [.box [.d .fz (.sl 1 (o0.b.map byD)),.d .fz (.i .i64 r.2.i),.d .fz (.i .i64 r.2.h)],.row .fz 7 (r.1.Args.map Expr.D)]:=by
  obtain⟨n,hn⟩:=q4v hr
  exact z6u n hn
def q4y (rec_sl9Within:Expr→Int→Option Bool)(a1:Int):Nat→Expr→Unit→Option (Unit ⊕ Bool):=fun k1 xk1 _=>
 (rec_sl9Within xk1 a1).bind fun y1=>
 if y1=true then (
 some (.inl ())
 ) else (
 some (.inr false)
 )
def q4z (rec_sl9Within:Expr→Int→Option Bool)(a0:Expr)(a1:Int):Option Bool:=
 (findL (q4y rec_sl9Within a1) 0 a0.Args ()).bind <| onr (fun r1=>some r1) fun _=>
 some (decide (a0.Pos≤a1))
theorem z3P {rec_sl9Within:Expr→Int→Option Bool}(ih_sl9Within:∀ {m:Md} {a0:Expr} {a1:Int} {r:Bool},rec_sl9Within a0 a1=some r→Ok Tryz.prog 127 [Expr.x m a0,.d .fz (.i .i64 a1)] [] (.d .fz (.b r)) []){m:Md}{a0:Expr}{a1:Int}{r:Bool}(hr:q4z rec_sl9Within a0 a1=some r):Ok Tryz.prog 127 [Expr.x m a0,.d .fz (.i .i64 a1)] [] (.d .fz (.b r)) []:=by
 refine Ok.enter rfl Tryz.func127 rfl rfl rfl fun S hS=>?_
 unfold q4z at hr
 refine AW.seq (AW.regL ?_)
 refine BX 0 ?_
 refine V rfl ?_
 refine AL.nil ?_
 refine AW.seq (AW.seq (AW.regL ?_))
 refine V rfl ?_
 refine AL.nil ?_
 refine AW.block ?_
 refine AW.len (.ag 6 (.tmp 0 rfl) rfl) fun hl1=>?_
 refine bdE hr fun q1 hqq1 hr=>?_
 refine AW.findL hqq1 hl1 1 (fun k1 _=>[(1,.d .fz (.i .i64 a1)),(2,.pb 0 0),(5,.d .fz (.i .i64 (k1:Int)))]) (fun k1 _=>[]) (GH.renK hS [(0,0)] 1) (fun k1 xk1 sk1 ok1 hxk1 hr hltk1 hik1=>?_) fun k1 sk1 ek1 hltk1=>?_
 ·refine AW.seq (AW.seq (AW.regL ?_))
  iterate 3 refine V rfl ?_
  refine LF ?_
  refine V rfl ?_
  refine AL.nil ?_
  refine AW.cT rfl (dT hltk1) ?_
  refine AW.skip ?_
  refine AW.seq (AW.block (AW.seq (AW.regL ?_)))
  iterate 3 refine V rfl ?_
  refine IFq (Int.natCast_nonneg _) hxk1 (Expr.D_cells xk1) ?_
  iterate 2 refine V rfl ?_
  refine bdE hr fun y1 hy1 hr=>?_
  refine CB [] [] (ih_sl9Within (m:=m) hy1) ?_
  refine V rfl ?_
  refine AL.nil ?_
  refine ifE hr (fun h1 hr=>?_) fun h1 hr=>?_
  ·refine AW.cF rfl (bnF h1) ?_
   refine AW.skip ?_
   refine AW.regL ?_
   refine V rfl ?_
   refine OB _ (q2b (p:=k1) (q:=1) (q1o hltk1 hl1)) ?_
   refine V rfl ?_
   refine AL.nil ?_
   cases hr
   exact⟨_,rfl,GH.renK hS [(0,0)] 1⟩
  ·refine AW.cT rfl (bnT h1) ?_
   refine AW.seq (AW.regL ?_)
   refine V rfl ?_
   refine AL.nil ?_
   refine AW.ret ?_
   cases hr
   cases hik1 _ rfl
   rename_i hr
   cases hr
   exact endA.renK [] 0 hS
 ·subst ek1
  refine AW.seq (AW.seq (AW.regL ?_))
  iterate 3 refine V rfl ?_
  refine LF ?_
  refine V rfl ?_
  refine AL.nil ?_
  refine AW.cF rfl (dF hltk1) ?_
  refine AW.exit ?_
  refine AW.seq (AW.regL ?_)
  iterate 5 refine V rfl ?_
  refine AL.nil ?_
  refine AW.ret ?_
  cases hr
  exact endA.renK [] 0 hS
def q3u:Nat→Expr→Int→Option Bool
  | 0,_,_=>none
  | n+1,a0,a1=>q4z (q3u n) a0 a1
def q7O (a0:Expr)(a1:Int):Option Bool:=recO fun n=>q3u n a0 a1
theorem z3Q (n:Nat):∀ {m:Md} {a0:Expr} {a1:Int} {r:Bool},q3u n a0 a1=some r→Ok Tryz.prog 127 [Expr.x m a0,.d .fz (.i .i64 a1)] [] (.d .fz (.b r)) []:=by
  induction n with
  | zero=>intro _ _ _ r hr; exact nomatch (show (none:Option Bool)=some r from hr)
  | succ n ih=>intro _ _ _ r hr; exact z3P ih hr
theorem z5j {m:Md}{a0:Expr}{a1:Int}{r:Bool}(hr:q7O a0 a1=some r):Ok Tryz.prog 127 [Expr.x m a0,.d .fz (.i .i64 a1)] [] (.d .fz (.b r)) []:=by
  obtain⟨n,hn⟩:=q4v hr
  exact z3Q n hn
def q4L (a0:Expr)(a1:Int):Option Bool:=
 (q3L a0).bind fun y1=>
 if y1=true then (
 (q7O a0 a1).bind fun y2=>
 some y2
 ) else (
 some false
 )
theorem q8P {m:Md}{a0:Expr}{a1:Int}{r:Bool}(hr:q4L a0 a1=some r):Ok Tryz.prog 91 [Expr.x m a0,.d .fz (.i .i64 a1)] [] (.d .fz (.b r)) []:=by
 refine Ok.enter rfl Tryz.func91 rfl rfl rfl fun S hS=>?_
 unfold q4L at hr
 refine AW.seq (AW.regL ?_)
 refine BX 0 ?_
 refine V rfl ?_
 refine AL.nil ?_
 refine AW.seq (AW.regL ?_)
 refine V rfl ?_
 refine bdE hr fun y1 hy1 hr=>?_
 refine CB [] [] (q6E (m:=m) hy1) ?_
 refine ifE hr (fun h1 hr=>?_) fun h1 hr=>?_
 ·refine VT rfl h1 ?_
  iterate 2 refine V rfl ?_
  refine bdE hr fun y2 hy2 hr=>?_
  refine CB [] [] (z5j (m:=m) hy2) ?_
  iterate 2 refine V rfl ?_
  refine AL.nil ?_
  refine AW.ret ?_
  cases hr
  exact endA.renK [] 0 hS
 ·refine VF rfl (bF h1) ?_
  refine AL.off ?_
  refine AL.off ?_
  refine AL.off ?_
  iterate 2 refine V rfl ?_
  refine AL.nil ?_
  refine AW.ret ?_
  cases hr
  exact endA.renK [] 0 hS
def z3a (o0:l1Cur):Nat→(Int × Int × (List ByteArray))→Option (Int × Int × (List ByteArray)):=fun k1 (s2,s3,s1)=>
 (q3t [(⟨#[115]⟩:ByteArray),(⟨#[116]⟩:ByteArray),(⟨#[117]⟩:ByteArray)] (⟨o0.b,s2,s3⟩:l1Cur)).bind fun (y5,z5)=>
 grd (((s1.length:Int)+1)*16≤140737488355328∧(s1.length:Int)+1≤9223372036854775807) <|
 some (z5.i,z5.h,(s1++[y5]))
def z3b (o0:l1Cur)(y4:Int):Nat→(Int × Int × (List Equation))→Option (Int × Int × (List Equation)):=fun k2 (s4,s5,s6)=>
 (
 (q1p 3 (⟨o0.b,s4,s5⟩:l1Cur)).bind fun (y7,z7)=>
 grd (I64 (1+y7)) <|
 (q9N (1+y7) (⟨o0.b,z7.i,z7.h⟩:l1Cur)).bind fun (y8,z8)=>
 (q4L y8 y4).bind fun y9=>
 if y9=true then (
 grd (I64 (y4+1)) <|
 (q1p (y4+1) (⟨o0.b,z8.i,z8.h⟩:l1Cur)).bind fun (y10,z9)=>
 (q5j (⟨o0.b,z9.i,z9.h⟩:l1Cur)).bind fun (y11,z10)=>
 grd (((s6.length:Int)+1)*112≤140737488355328∧(s6.length:Int)+1≤9223372036854775807) <|
 some (z10.i,z10.h,(s6++[(⟨(⟨y10,y11⟩:Occurrence),y8⟩:Equation)]))
 ) else (
 some (z8.i,z8.h,s6)
 )
 ).bind fun (s8,s9,s7)=>
 some (s8,s9,s7)
def q8n (o0:l1Cur):Option (Rule × l1Cur):=
 (q3t [(⟨#[112]⟩:ByteArray),(⟨#[113]⟩:ByteArray),(⟨#[108,101,97,102]⟩:ByteArray)] o0).bind fun (y1,z1)=>
 (q3t [(⟨#[115]⟩:ByteArray),(⟨#[116]⟩:ByteArray)] (⟨o0.b,z1.i,z1.h⟩:l1Cur)).bind fun (y2,z2)=>
 (q1L 2 (⟨o0.b,z2.i,z2.h⟩:l1Cur)).bind fun (y3,z3)=>
 (q1p 4 (⟨o0.b,z3.i,z3.h⟩:l1Cur)).bind fun (y4,z4)=>
 (eachN (z3a o0) 0 y4.toNat (z4.i,z4.h,([]:List ByteArray))).bind fun (s2,s3,s1)=>
 (q1p 4 (⟨o0.b,s2,s3⟩:l1Cur)).bind fun (y6,z6)=>
 (eachN (z3b o0 y4) 0 y6.toNat (z6.i,z6.h,([]:List Equation))).bind fun (s4,s5,s6)=>
 (q1L 4 (⟨o0.b,s4,s5⟩:l1Cur)).bind fun (y12,z11)=>
 if y12=true then (
 (q1p 4096 (⟨o0.b,z11.i,z11.h⟩:l1Cur)).bind fun (y13,z12)=>
 (q3C y13 2).bind fun y14=>
 grd (((([]:List Contribution).length:Int)+1)*208≤140737488355328∧(([]:List Contribution).length:Int)+1≤9223372036854775807) <|
 some ((⟨y1,y2,s1,y3,s6,(([]:List Contribution)++[(⟨(⟨#[115]⟩:ByteArray),(⟨#[99]⟩:ByteArray),(⟨6,0,0,0,(⟨#[]⟩:ByteArray),(⟨#[]⟩:ByteArray),[]⟩:Expr),y14⟩:Contribution)])⟩:Rule),(⟨o0.b,z12.i,z12.h⟩:l1Cur))
 ) else (
 some ((⟨y1,y2,s1,y3,s6,[]⟩:Rule),(⟨o0.b,z11.i,z11.h⟩:l1Cur))
 )
theorem z8z {o0:l1Cur}{r:(Rule × l1Cur)}(hr:q8n o0=some r):Ok Tryz.prog 65 [.pb 0 0] [.box [.d .fz (.sl 1 (o0.b.map byD)),.d .fz (.i .i64 o0.i),.d .fz (.i .i64 o0.h)]] (.ag [.d .fz (.s r.1.Name),.d .fz (.s r.1.Left),.ref 1 none,.d .fz (.b r.1.Literal),.ref 2 none,.ref 3 none]) [.box [.d .fz (.sl 1 (o0.b.map byD)),.d .fz (.i .i64 r.2.i),.d .fz (.i .i64 r.2.h)],.row .fz 1 (r.1.Right.map A.D.s),.row .fz 9 (r.1.Equations.map Equation.D),.row .fz 16 (r.1.Contributions.map Contribution.D)]:=by
 refine Ok.enter rfl Tryz.func65 rfl rfl rfl fun S hS=>?_
 unfold q8n at hr
 refine AW.seq (AW.regL ?_)
 refine NV 1 ?_
 refine AL.nil ?_
 refine AW.seq (AW.regL ?_)
 refine V rfl ?_
 refine LIR 2 (m:=.fz) (f:=A.D.s) (xs:=[(⟨#[112]⟩:ByteArray),(⟨#[113]⟩:ByteArray),(⟨#[108,101,97,102]⟩:ByteArray)]) ?_
 refine bdE hr fun q1 hq1 hr=>?_
 obtain⟨y1,z1⟩:=q1
 refine CB [(0,0)] [2] (q3Q (m:=.bo) hq1) ?_
 refine V rfl ?_
 refine LIR 3 (m:=.fz) (f:=A.D.s) (xs:=[(⟨#[115]⟩:ByteArray),(⟨#[116]⟩:ByteArray)]) ?_
 refine bdE hr fun q2 hq2 hr=>?_
 obtain⟨y2,z2⟩:=q2
 refine CB [(0,0)] [3] (q3Q (m:=.bo) hq2) ?_
 refine V rfl ?_
 refine bdE hr fun q3 hq3 hr=>?_
 obtain⟨y3,z3⟩:=q3
 refine CB [(0,0)] [] (q1W hq3) ?_
 refine V rfl ?_
 refine NV 4 ?_
 refine SB ?_
 refine AL.nil ?_
 refine AW.seq (AW.regL ?_)
 refine V rfl ?_
 refine bdE hr fun q4 hq4 hr=>?_
 obtain⟨y4,z4⟩:=q4
 refine CB [(0,0)] [] (q1q hq4) ?_
 refine V rfl ?_
 refine AL.nil ?_
 refine AW.seq (AW.seq (AW.regL ?_))
 refine V rfl ?_
 refine AL.nil ?_
 refine AW.block ?_
 refine AW.nlB 4 2 5 .fz 1 rfl rfl ?_
 refine AW.rng (.tmp 4 rfl) fun hl1=>?_
 refine bdE hr fun q5 hqq5 hr=>?_
 obtain⟨s2,s3,s1⟩:=q5
 refine AW.eachN hqq5 6 (fun k1 (s2,s3,s1)=>[(0,.pb 0 0),(2,.pb 1 0),(3,.pb 4 0),(4,.d .fz (.i .i64 y4)),(5,.d .fz (.i .i64 (k1:Int)))]) (fun k1 (s2,s3,s1)=>[(0,.box [.d .fz (.sl 1 (o0.b.map byD)),.d .fz (.i .i64 s2),.d .fz (.i .i64 s3)]),(5,.row .fz 1 (s1.map A.D.s))]) (GH.renK hS [(0,0),(1,1),(2,2),(3,3),(4,4),(5,5)] 6) (fun k1 sk1 ok1 hr hltk1=>?_) ?_
 ·obtain⟨s2,s3,s1⟩:=sk1
  refine AW.seq (AW.seq (AW.regL ?_))
  iterate 3 refine V rfl ?_
  refine AL.nil ?_
  refine AW.cT rfl (dT (ltI hltk1)) ?_
  refine AW.skip ?_
  refine AW.seq (AW.block (AW.drawL (h:=?_)))
  iterate 3 refine V rfl ?_
  refine LIR 6 (m:=.fz) (f:=A.D.s) (xs:=[(⟨#[115]⟩:ByteArray),(⟨#[116]⟩:ByteArray),(⟨#[117]⟩:ByteArray)]) ?_
  refine bdE hr fun q6 hq6 hr=>?_
  obtain⟨y5,z5⟩:=q6
  refine CB [(0,0)] [6] (q3Q (m:=.bo) hq6) ?_
  refine LIR 7 (m:=.fz) (f:=A.D.s) (xs:=[y5]) ?_
  refine ggE hr fun g1 hr=>?_
  refine APf1 (f:=A.D.s) 8 (fun _=>rfl) 16 g1 ?_
  refine V rfl ?_
  refine SB ?_
  refine AL.nil ?_
  refine AW.regL ?_
  refine V rfl ?_
  refine OB _ (q2b (p:=k1) (q:=1) (q1o (ltI hltk1) hl1.2)) ?_
  refine V rfl ?_
  refine AL.nil ?_
  cases hr
  exact GH.renK hS [(0,0),(1,1),(2,2),(3,3),(4,4),(8,5)] 6
 ·refine AW.seq (AW.seq (AW.regL ?_))
  iterate 3 refine V rfl ?_
  refine AL.nil ?_
  refine AW.cF rfl (dF geI) ?_
  refine AW.exit ?_
  refine AW.seq (AW.regL ?_)
  refine V rfl ?_
  refine bdE hr fun q7 hq7 hr=>?_
  obtain⟨y6,z6⟩:=q7
  refine CB [(0,0)] [] (q1q hq7) ?_
  refine V rfl ?_
  refine AL.nil ?_
  refine AW.seq (AW.seq (AW.regL ?_))
  refine V rfl ?_
  refine AL.nil ?_
  refine AW.block ?_
  refine AW.nlB 4 4 6 .fz 9 rfl rfl ?_
  refine AW.rng (.tmp 6 rfl) fun hl2=>?_
  refine bdE hr fun q8 hqq8 hr=>?_
  obtain⟨s4,s5,s6⟩:=q8
  refine AW.eachN hqq8 7 (fun k2 (s4,s5,s6)=>[(0,.pb 0 0),(2,.pb 1 0),(3,.pb 4 0),(4,.d .fz (.i .i64 y4)),(6,.d .fz (.i .i64 y6)),(7,.d .fz (.i .i64 (k2:Int)))]) (fun k2 (s4,s5,s6)=>[(0,.box [.d .fz (.sl 1 (o0.b.map byD)),.d .fz (.i .i64 s4),.d .fz (.i .i64 s5)]),(6,.row .fz 9 (s6.map Equation.D))]) (GH.renK hS [(0,0),(1,1),(2,2),(3,3),(4,4),(5,5),(6,6)] 7) (fun k2 sk2 ok2 hr hltk2=>?_) ?_
  ·obtain⟨s4,s5,s6⟩:=sk2
   refine AW.seq (AW.seq (AW.regL ?_))
   iterate 3 refine V rfl ?_
   refine AL.nil ?_
   refine AW.cT rfl (dT (ltI hltk2)) ?_
   refine AW.skip ?_
   refine bdE hr fun q9 hqq9 hr=>?_
   obtain⟨s8,s9,s7⟩:=q9
   refine AW.seq (AW.cut1 7 [(0,.pb 0 0),(2,.pb 1 0),(3,.pb 4 0),(4,.d .fz (.i .i64 y4)),(6,.d .fz (.i .i64 y6)),(7,.d .fz (.i .i64 (k2:Int)))] [(0,.box [.d .fz (.sl 1 (o0.b.map byD)),.d .fz (.i .i64 s8),.d .fz (.i .i64 s9)]),(6,.row .fz 9 (s7.map Equation.D))] ?_ ?_)
   ·replace hr:=hqq9
    refine AW.block (AW.seq (AW.regL ?_))
    iterate 2 refine V rfl ?_
    refine bdE hr fun q10 hq10 hr=>?_
    obtain⟨y7,z7⟩:=q10
    refine CB [(0,0)] [] (q1q hq10) ?_
    refine ggE hr fun g2 hr=>?_
    refine OB _ (bAdd g2) ?_
    refine bdE hr fun q11 hq11 hr=>?_
    obtain⟨y8,z8⟩:=q11
    refine CB [(0,0),(1,7)] [] (z2Z hq11) ?_
    refine NV 8 ?_
    refine SB ?_
    refine AL.nil ?_
    refine AW.seq (AW.regL ?_)
    iterate 2 refine V rfl ?_
    refine bdE hr fun y9 hy9 hr=>?_
    refine CB [] [7] (q8P (m:=.bo) hy9) ?_
    refine AL.nil ?_
    refine ifE hr (fun h1 hr=>?_) fun h1 hr=>?_
    ·refine AW.cT rfl h1 ?_
     refine AW.fz 7 rfl ?_
     refine AW.drawL (h:=?_)
     iterate 4 refine V rfl ?_
     refine ggE hr fun g3 hr=>?_
     refine OB _ (bAdd g3) ?_
     refine bdE hr fun q12 hq12 hr=>?_
     obtain⟨y10,z9⟩:=q12
     refine CB [(0,0)] [] (q1q hq12) ?_
     refine V rfl ?_
     refine bdE hr fun q13 hq13 hr=>?_
     obtain⟨y11,z10⟩:=q13
     refine CB [(0,0)] [] (q8O hq13) ?_
     iterate 3 refine V rfl ?_
     refine LIR 9 (m:=.fz) (f:=Equation.D) (xs:=[(⟨(⟨y10,y11⟩:Occurrence),y8⟩:Equation)]) ?_
     refine ggE hr fun g4 hr=>?_
     refine AP1 10 .fz 112 g4 ?_
     refine V rfl ?_
     refine SB ?_
     refine AL.nil ?_
     cases hr
     exact GH.renK hS [(0,0),(1,1),(2,2),(3,3),(4,4),(5,5),(10,6)] 7
    ·refine AW.cF rfl (bF h1) ?_
     refine AW.skip ?_
     cases hr
     exact GH.renK hS [(0,0),(1,1),(2,2),(3,3),(4,4),(5,5),(6,6)] 7
   ·refine AW.regL ?_
    refine V rfl ?_
    refine OB _ (q2b (p:=k2) (q:=1) (q1o (ltI hltk2) hl2.2)) ?_
    refine V rfl ?_
    refine AL.nil ?_
    cases hr
    exact GH.renK hS [(0,0),(1,1),(2,2),(3,3),(4,4),(5,5),(6,6)] 7
  ·refine AW.seq (AW.seq (AW.regL ?_))
   iterate 3 refine V rfl ?_
   refine AL.nil ?_
   refine AW.cF rfl (dF geI) ?_
   refine AW.exit ?_
   refine AW.seq (AW.seq (AW.regL ?_))
   refine V rfl ?_
   refine bdE hr fun q14 hq14 hr=>?_
   obtain⟨y12,z11⟩:=q14
   refine CB [(0,0)] [] (q1W hq14) ?_
   refine AL.nil ?_
   refine ifE hr (fun h2 hr=>?_) fun h2 hr=>?_
   ·refine AW.cT rfl h2 ?_
    refine AW.drawL (h:=?_)
    iterate 4 refine V rfl ?_
    refine bdE hr fun q15 hq15 hr=>?_
    obtain⟨y13,z12⟩:=q15
    refine CB [(0,0)] [] (q1q hq15) ?_
    refine bdE hr fun y14 hy14 hr=>?_
    refine CBz 7 [(0,7)] [] (q4T hy14) ?_
    refine V rfl ?_
    refine LIR 8 (m:=.fz) (f:=Contribution.D) (xs:=[(⟨(⟨#[115]⟩:ByteArray),(⟨#[99]⟩:ByteArray),(⟨6,0,0,0,(⟨#[]⟩:ByteArray),(⟨#[]⟩:ByteArray),[]⟩:Expr),y14⟩:Contribution)]) ?_
    refine AL.nlT 65 9 .fz 16 rfl ?_
    refine ggE hr fun g5 hr=>?_
    refine AP1 10 .fz 208 g5 ?_
    refine V rfl ?_
    refine SB ?_
    refine AL.nil ?_
    refine AW.seq (AW.regL ?_)
    refine V rfl ?_
    refine SB ?_
    refine AL.nil ?_
    refine AW.ret ?_
    cases hr
    exact endA.renK [(0,0),(5,1),(6,2),(10,3)] 4 hS
   ·refine AW.cF rfl (bF h2) ?_
    refine AW.skip ?_
    refine AW.seq (AW.regL ?_)
    refine V rfl ?_
    refine SB ?_
    refine AL.nil ?_
    refine AW.ret ?_
    refine endA.gh (GH.nlB (q:=1) (c:=5) (r:=7) .fz 16 rfl rfl rfl) ?_
    cases hr
    exact endA.renK [(0,0),(5,1),(6,2),(7,3)] 4 hS
def q7u (o0:l1Cur):Option (Expr × l1Cur):=
 (q1p 5 o0).bind fun (y1,z1)=>
 grd (I64 (1+y1)) <|
 (q9N (1+y1) (⟨o0.b,z1.i,z1.h⟩:l1Cur)).bind fun (y2,z2)=>
 (q3L y2).bind fun y3=>
 if y3=true then (
 some (y2,(⟨o0.b,z2.i,z2.h⟩:l1Cur))
 ) else (
 some ((⟨2,0,0,0,(⟨#[]⟩:ByteArray),(⟨#[]⟩:ByteArray),[]⟩:Expr),(⟨o0.b,z2.i,z2.h⟩:l1Cur))
 )
theorem z3c {o0:l1Cur}{r:(Expr × l1Cur)}(hr:q7u o0=some r):Ok Tryz.prog 64 [.pb 0 0] [.box [.d .fz (.sl 1 (o0.b.map byD)),.d .fz (.i .i64 o0.i),.d .fz (.i .i64 o0.h)]] (.ag [.d .fz (.i .i64 r.1.Kind),.d .fz (.i .i64 r.1.N),.d .fz (.i .i64 r.1.Pos),.d .fz (.i .i64 r.1.Type_),.d .fz (.s r.1.Symbol),.d .fz (.s r.1.Name),.ref 1 none]) [.box [.d .fz (.sl 1 (o0.b.map byD)),.d .fz (.i .i64 r.2.i),.d .fz (.i .i64 r.2.h)],.row .fz 7 (r.1.Args.map Expr.D)]:=by
 refine Ok.enter rfl Tryz.func64 rfl rfl rfl fun S hS=>?_
 unfold q7u at hr
 refine AW.seq (AW.regL ?_)
 refine NV 1 ?_
 refine AL.nil ?_
 refine AW.seq (AW.regL ?_)
 iterate 2 refine V rfl ?_
 refine bdE hr fun q1 hq1 hr=>?_
 obtain⟨y1,z1⟩:=q1
 refine CB [(0,0)] [] (q1q hq1) ?_
 refine ggE hr fun g1 hr=>?_
 refine OB _ (bAdd g1) ?_
 refine bdE hr fun q2 hq2 hr=>?_
 obtain⟨y2,z2⟩:=q2
 refine CB [(0,0),(1,2)] [] (z2Z hq2) ?_
 refine NV 3 ?_
 refine SB ?_
 refine AL.nil ?_
 refine AW.seq (AW.seq (AW.regL ?_))
 refine V rfl ?_
 refine bdE hr fun y3 hy3 hr=>?_
 refine CB [] [2] (q6E (m:=.bo) hy3) ?_
 refine V rfl ?_
 refine AL.nil ?_
 refine ifE hr (fun h1 hr=>?_) fun h1 hr=>?_
 ·refine AW.cF rfl (bnF h1) ?_
  refine AW.skip ?_
  refine AW.seq (AW.regL ?_)
  refine V rfl ?_
  refine SB ?_
  refine AL.nil ?_
  refine AW.ret ?_
  cases hr
  exact endA.renK [(0,0),(2,1)] 2 hS
 ·refine AW.cT rfl (bnT h1) ?_
  refine AW.seq (AW.regL ?_)
  refine V rfl ?_
  refine SB ?_
  refine AL.nil ?_
  refine AW.ret ?_
  refine endA.gh (GH.nlB (q:=1) (c:=6) (r:=4) .fz 7 rfl rfl rfl) ?_
  cases hr
  exact endA.renK [(0,0),(4,1)] 2 hS
def z0k:Nat→((List Expr) × Int × Int × Int × Int × ByteArray × ByteArray)→Option ((List Expr) × Int × Int × Int × Int × ByteArray × ByteArray):=fun k1 (s1,s2,s3,s4,s5,s6,s7)=>
 (q6z 1 (⟨s2,s3,s4,s5,s6,s7,s1⟩:Expr) (⟨2,0,0,0,(⟨#[]⟩:ByteArray),(⟨#[]⟩:ByteArray),[]⟩:Expr)).bind fun y7=>
 some (y7.Args,y7.Kind,y7.N,y7.Pos,y7.Type_,y7.Symbol,y7.Name)
def q8o (o0:l1Cur):Option (Expr × l1Cur):=
 (q7u o0).bind fun (y1,z1)=>
 (q1p 14 (⟨o0.b,z1.i,z1.h⟩:l1Cur)).bind fun (y2,z2)=>
 if y2=0 then (
 (q1p 11 (⟨o0.b,z2.i,z2.h⟩:l1Cur)).bind fun (y3,z3)=>
 some ((⟨y3,y1.N,y1.Pos,y1.Type_,y1.Symbol,y1.Name,y1.Args⟩:Expr),(⟨o0.b,z3.i,z3.h⟩:l1Cur))
 ) else (
 if y2=1 then (
 grd (((y1.Args.length:Int)+1)*88≤140737488355328∧(y1.Args.length:Int)+1≤9223372036854775807) <|
 some ((⟨y1.Kind,y1.N,y1.Pos,y1.Type_,y1.Symbol,y1.Name,(y1.Args++[(⟨7,0,0,0,(⟨#[]⟩:ByteArray),(⟨#[]⟩:ByteArray),[]⟩:Expr)])⟩:Expr),(⟨o0.b,z2.i,z2.h⟩:l1Cur))
 ) else (
 if y2=2 then (
 (q1S ([(-1),13,4096,1000001]:List Int) (⟨o0.b,z2.i,z2.h⟩:l1Cur)).bind fun (y4,z4)=>
 some ((⟨y1.Kind,y4,y1.Pos,y1.Type_,y1.Symbol,y1.Name,y1.Args⟩:Expr),(⟨o0.b,z4.i,z4.h⟩:l1Cur))
 ) else (
 if y2=3 then (
 (q1S ([(-1),4,1]:List Int) (⟨o0.b,z2.i,z2.h⟩:l1Cur)).bind fun (y5,z5)=>
 some ((⟨y1.Kind,y1.N,y5,y1.Type_,y1.Symbol,y1.Name,y1.Args⟩:Expr),(⟨o0.b,z5.i,z5.h⟩:l1Cur))
 ) else (
 if y2=4 then (
 (q3t [(⟨#[105,102]⟩:ByteArray),(⟨#[]⟩:ByteArray),(⟨#[120]⟩:ByteArray)] (⟨o0.b,z2.i,z2.h⟩:l1Cur)).bind fun (y6,z6)=>
 some ((⟨y1.Kind,y1.N,y1.Pos,y1.Type_,y1.Symbol,y6,y1.Args⟩:Expr),(⟨o0.b,z6.i,z6.h⟩:l1Cur))
 ) else (
 if y2=5 then (
 (eachN z0k 0 5 (y1.Args,y1.Kind,y1.N,y1.Pos,y1.Type_,y1.Symbol,y1.Name)).bind fun (s1,s2,s3,s4,s5,s6,s7)=>
 some ((⟨s2,s3,s4,s5,s6,s7,s1⟩:Expr),(⟨o0.b,z2.i,z2.h⟩:l1Cur))
 ) else (
 some (y1,(⟨o0.b,z2.i,z2.h⟩:l1Cur))
 )
 )
 )
 )
 )
 )
theorem z8A {o0:l1Cur}{r:(Expr × l1Cur)}(hr:q8o o0=some r):Ok Tryz.prog 66 [.pb 0 0] [.box [.d .fz (.sl 1 (o0.b.map byD)),.d .fz (.i .i64 o0.i),.d .fz (.i .i64 o0.h)]] (.ag [.d .fz (.i .i64 r.1.Kind),.d .fz (.i .i64 r.1.N),.d .fz (.i .i64 r.1.Pos),.d .fz (.i .i64 r.1.Type_),.d .fz (.s r.1.Symbol),.d .fz (.s r.1.Name),.ref 1 none]) [.box [.d .fz (.sl 1 (o0.b.map byD)),.d .fz (.i .i64 r.2.i),.d .fz (.i .i64 r.2.h)],.row .fz 7 (r.1.Args.map Expr.D)]:=by
 refine Ok.enter rfl Tryz.func66 rfl rfl rfl fun S hS=>?_
 unfold q8o at hr
 refine AW.seq (AW.regL ?_)
 refine NV 1 ?_
 refine AL.nil ?_
 refine AW.seq (AW.regL ?_)
 refine V rfl ?_
 refine bdE hr fun q1 hq1 hr=>?_
 obtain⟨y1,z1⟩:=q1
 refine CB [(0,0),(1,2)] [] (z3c hq1) ?_
 refine NV 3 ?_
 refine SB ?_
 refine AL.nil ?_
 refine AW.seq (AW.seq (AW.regL ?_))
 refine V rfl ?_
 refine bdE hr fun q2 hq2 hr=>?_
 obtain⟨y2,z2⟩:=q2
 refine CB [(0,0)] [] (q1q hq2) ?_
 refine AL.nil ?_
 refine AW.block (AW.seq (AW.regL ?_))
 iterate 2 refine V rfl ?_
 refine AL.nil ?_
 refine ifE hr (fun h1 hr=>?_) fun h1 hr=>?_
 ·refine AW.cT rfl (dT h1) ?_
  refine AW.regL ?_
  refine V rfl ?_
  refine bdE hr fun q3 hq3 hr=>?_
  obtain⟨y3,z3⟩:=q3
  refine CB [(0,0)] [] (q1q hq3) ?_
  refine V rfl ?_
  refine SB ?_
  refine AL.nil ?_
  refine AW.seq (AW.regL ?_)
  refine V rfl ?_
  refine SB ?_
  refine AL.nil ?_
  refine AW.ret ?_
  cases hr
  exact endA.renK [(0,0),(2,1)] 2 hS
 ·refine AW.cF rfl (dF h1) ?_
  refine AW.seq (AW.regL ?_)
  iterate 2 refine V rfl ?_
  refine AL.nil ?_
  refine ifE hr (fun h2 hr=>?_) fun h2 hr=>?_
  ·refine AW.cT rfl (dT h2) ?_
   refine AW.regL ?_
   iterate 3 refine V rfl ?_
   refine LIRq 4 (m:=.fz) (f:=Expr.D) [(⟨7,0,0,0,(⟨#[]⟩:ByteArray),(⟨#[]⟩:ByteArray),[]⟩:Expr)] (by simp only [List.map_cons,List.map_nil,Expr.D_eq]; rfl) ?_
   refine ggE hr fun g1 hr=>?_
   refine AP1 5 .fz 88 g1 ?_
   refine V rfl ?_
   refine SB ?_
   refine AL.nil ?_
   refine AW.seq (AW.regL ?_)
   refine V rfl ?_
   refine SB ?_
   refine AL.nil ?_
   refine AW.ret ?_
   cases hr
   exact endA.renK [(0,0),(5,1)] 2 hS
  ·refine AW.cF rfl (dF h2) ?_
   refine AW.seq (AW.regL ?_)
   iterate 2 refine V rfl ?_
   refine AL.nil ?_
   refine ifE hr (fun h3 hr=>?_) fun h3 hr=>?_
   ·refine AW.cT rfl (dT h3) ?_
    refine AW.regL ?_
    refine V rfl ?_
    refine LIR 4 (m:=.fz) (f:=(A.D.i .i64)) (xs:=([(-1),13,4096,1000001]:List Int)) ?_
    refine bdE hr fun q4 hq4 hr=>?_
    obtain⟨y4,z4⟩:=q4
    refine CB [(0,0)] [4] (q2v (m:=.bo) hq4) ?_
    refine V rfl ?_
    refine SB ?_
    refine AL.nil ?_
    refine AW.seq (AW.regL ?_)
    refine V rfl ?_
    refine SB ?_
    refine AL.nil ?_
    refine AW.ret ?_
    cases hr
    exact endA.renK [(0,0),(2,1)] 2 hS
   ·refine AW.cF rfl (dF h3) ?_
    refine AW.seq (AW.regL ?_)
    iterate 2 refine V rfl ?_
    refine AL.nil ?_
    refine ifE hr (fun h4 hr=>?_) fun h4 hr=>?_
    ·refine AW.cT rfl (dT h4) ?_
     refine AW.regL ?_
     refine V rfl ?_
     refine LIR 4 (m:=.fz) (f:=(A.D.i .i64)) (xs:=([(-1),4,1]:List Int)) ?_
     refine bdE hr fun q5 hq5 hr=>?_
     obtain⟨y5,z5⟩:=q5
     refine CB [(0,0)] [4] (q2v (m:=.bo) hq5) ?_
     refine V rfl ?_
     refine SB ?_
     refine AL.nil ?_
     refine AW.seq (AW.regL ?_)
     refine V rfl ?_
     refine SB ?_
     refine AL.nil ?_
     refine AW.ret ?_
     cases hr
     exact endA.renK [(0,0),(2,1)] 2 hS
    ·refine AW.cF rfl (dF h4) ?_
     refine AW.seq (AW.regL ?_)
     iterate 2 refine V rfl ?_
     refine AL.nil ?_
     refine ifE hr (fun h5 hr=>?_) fun h5 hr=>?_
     ·refine AW.cT rfl (dT h5) ?_
      refine AW.regL ?_
      refine V rfl ?_
      refine LIR 4 (m:=.fz) (f:=A.D.s) (xs:=[(⟨#[105,102]⟩:ByteArray),(⟨#[]⟩:ByteArray),(⟨#[120]⟩:ByteArray)]) ?_
      refine bdE hr fun q6 hq6 hr=>?_
      obtain⟨y6,z6⟩:=q6
      refine CB [(0,0)] [4] (q3Q (m:=.bo) hq6) ?_
      refine V rfl ?_
      refine SB ?_
      refine AL.nil ?_
      refine AW.seq (AW.regL ?_)
      refine V rfl ?_
      refine SB ?_
      refine AL.nil ?_
      refine AW.ret ?_
      cases hr
      exact endA.renK [(0,0),(2,1)] 2 hS
     ·refine AW.cF rfl (dF h5) ?_
      refine AW.seq (AW.regL ?_)
      iterate 2 refine V rfl ?_
      refine AL.nil ?_
      refine ifE hr (fun h6 hr=>?_) fun h6 hr=>?_
      ·refine AW.cT rfl (dT h6) ?_
       refine AW.seq (AW.regL ?_)
       refine V rfl ?_
       refine AL.nil ?_
       refine AW.block ?_
       have hl1:rngI .i64 5:=⟨by decide,by decide⟩
       refine bdE hr fun q7 hqq7 hr=>?_
       obtain⟨s1,s2,s3,s4,s5,s6,s7⟩:=q7
       refine AW.eachN hqq7 4 (fun k1 (s1,s2,s3,s4,s5,s6,s7)=>[(2,.pb 1 0),(3,.pb 3 0),(4,.d .fz (.i .i64 (k1:Int)))]) (fun k1 (s1,s2,s3,s4,s5,s6,s7)=>[(2,.row .fz 7 (s1.map Expr.D)),(3,.box [.d .fz (.i .i64 s2),.d .fz (.i .i64 s3),.d .fz (.i .i64 s4),.d .fz (.i .i64 s5),.d .fz (.s s6),.d .fz (.s s7),.ref 2 none])]) (GH.renK hS [(0,0),(1,1),(2,2),(3,3)] 4) (fun k1 sk1 ok1 hr hltk1=>?_) ?_
       ·obtain⟨s1,s2,s3,s4,s5,s6,s7⟩:=sk1
        unfold z0k at hr
        dsimp only at hr
        refine AW.seq (AW.seq (AW.regL ?_))
        iterate 2 refine V rfl ?_
        refine AL.nil ?_
        refine AW.cT rfl (dT (ltN hltk1)) ?_
        refine AW.skip ?_
        refine AW.seq (AW.block (AW.regL ?_))
        iterate 2 refine V rfl ?_
        refine AL.fz 2 rfl ?_
        refine bdE hr fun y7 hy7 hr=>?_
        refine CB [(0,4)] [] (q6W (m:=.fz) hy7) ?_
        refine SB ?_
        refine AL.nil ?_
        refine AW.regL ?_
        refine V rfl ?_
        refine OB _ (q2b (p:=k1) (q:=1) (q1o (ltN hltk1) hl1.2)) ?_
        refine V rfl ?_
        refine AL.nil ?_
        cases hr
        exact GH.renK hS [(0,0),(1,1),(4,2),(3,3)] 4
       ·refine AW.seq (AW.seq (AW.regL ?_))
        iterate 2 refine V rfl ?_
        refine AL.nil ?_
        refine AW.cF rfl (dF geN) ?_
        refine AW.exit ?_
        refine AW.seq (AW.regL ?_)
        refine V rfl ?_
        refine SB ?_
        refine AL.nil ?_
        refine AW.ret ?_
        cases hr
        exact endA.renK [(0,0),(2,1)] 2 hS
      ·refine AW.cF rfl (dF h6) ?_
       refine AW.skip ?_
       refine AW.seq (AW.regL ?_)
       refine V rfl ?_
       refine SB ?_
       refine AL.nil ?_
       refine AW.ret ?_
       cases hr
       exact endA.renK [(0,0),(2,1)] 2 hS
def q7v (o0:l1Cur):Option (Rule × l1Cur):=
 (q8n o0).bind fun (y1,z1)=>
 (q1p 12 (⟨o0.b,z1.i,z1.h⟩:l1Cur)).bind fun (y2,z2)=>
 if y2=0 then (
 (q3t [(⟨#[105,102]⟩:ByteArray),(⟨#[]⟩:ByteArray),(⟨#[111,102]⟩:ByteArray)] (⟨o0.b,z2.i,z2.h⟩:l1Cur)).bind fun (y3,z3)=>
 some ((⟨y3,y1.Left,y1.Right,y1.Literal,y1.Equations,y1.Contributions⟩:Rule),(⟨o0.b,z3.i,z3.h⟩:l1Cur))
 ) else (
 if y2=1 then (
 grd (((y1.Right.length:Int)+([(⟨#[115]⟩:ByteArray),(⟨#[115]⟩:ByteArray)].length:Int))*16≤140737488355328∧(y1.Right.length:Int)+([(⟨#[115]⟩:ByteArray),(⟨#[115]⟩:ByteArray)].length:Int)≤9223372036854775807) <|
 some ((⟨y1.Name,y1.Left,(y1.Right++[(⟨#[115]⟩:ByteArray),(⟨#[115]⟩:ByteArray)]),y1.Literal,y1.Equations,y1.Contributions⟩:Rule),(⟨o0.b,z2.i,z2.h⟩:l1Cur))
 ) else (
 if y2=2 then (
 (q1p 5 (⟨o0.b,z2.i,z2.h⟩:l1Cur)).bind fun (y4,z4)=>
 grd (I64 (y4 - 1)) <|
 (q8o (⟨o0.b,z4.i,z4.h⟩:l1Cur)).bind fun (y5,z5)=>
 grd (((y1.Equations.length:Int)+1)*112≤140737488355328∧(y1.Equations.length:Int)+1≤9223372036854775807) <|
 some ((⟨y1.Name,y1.Left,y1.Right,y1.Literal,(y1.Equations++[(⟨(⟨(y4 - 1),(⟨#[97]⟩:ByteArray)⟩:Occurrence),y5⟩:Equation)]),y1.Contributions⟩:Rule),(⟨o0.b,z5.i,z5.h⟩:l1Cur))
 ) else (
 if y2=3 then (
 some ((⟨y1.Name,(⟨#[109,97,120]⟩:ByteArray),y1.Right,y1.Literal,y1.Equations,y1.Contributions⟩:Rule),(⟨o0.b,z2.i,z2.h⟩:l1Cur))
 ) else (
 if y2=4 then (
 grd (I64 ((y1.Right.length+1:Nat):Int)) <|
 (q1p ((y1.Right.length+1:Nat):Int) (⟨o0.b,z2.i,z2.h⟩:l1Cur)).bind fun (y6,z6)=>
 grd (0≤y6) <|
 grd (y6.toNat≤y1.Right.length) <|
 some ((⟨y1.Name,y1.Left,(y1.Right.take y6.toNat),y1.Literal,y1.Equations,y1.Contributions⟩:Rule),(⟨o0.b,z6.i,z6.h⟩:l1Cur))
 ) else (
 some (y1,(⟨o0.b,z2.i,z2.h⟩:l1Cur))
 )
 )
 )
 )
 )
theorem z3d {o0:l1Cur}{r:(Rule × l1Cur)}(hr:q7v o0=some r):Ok Tryz.prog 42 [.pb 0 0] [.box [.d .fz (.sl 1 (o0.b.map byD)),.d .fz (.i .i64 o0.i),.d .fz (.i .i64 o0.h)]] (.ag [.d .fz (.s r.1.Name),.d .fz (.s r.1.Left),.ref 1 none,.d .fz (.b r.1.Literal),.ref 2 none,.ref 3 none]) [.box [.d .fz (.sl 1 (o0.b.map byD)),.d .fz (.i .i64 r.2.i),.d .fz (.i .i64 r.2.h)],.row .fz 1 (r.1.Right.map A.D.s),.row .fz 9 (r.1.Equations.map Equation.D),.row .fz 16 (r.1.Contributions.map Contribution.D)]:=by
 refine Ok.enter rfl Tryz.func42 rfl rfl rfl fun S hS=>?_
 unfold q7v at hr
 refine AW.seq (AW.regL ?_)
 refine NV 1 ?_
 refine AL.nil ?_
 refine AW.seq (AW.regL ?_)
 refine V rfl ?_
 refine bdE hr fun q1 hq1 hr=>?_
 obtain⟨y1,z1⟩:=q1
 refine CB [(0,0),(1,2),(2,3),(3,4)] [] (z8z hq1) ?_
 refine NV 5 ?_
 refine SB ?_
 refine AL.nil ?_
 refine AW.seq (AW.seq (AW.regL ?_))
 refine V rfl ?_
 refine bdE hr fun q2 hq2 hr=>?_
 obtain⟨y2,z2⟩:=q2
 refine CB [(0,0)] [] (q1q hq2) ?_
 refine AL.nil ?_
 refine AW.block (AW.seq (AW.regL ?_))
 iterate 2 refine V rfl ?_
 refine AL.nil ?_
 refine ifE hr (fun h1 hr=>?_) fun h1 hr=>?_
 ·refine AW.cT rfl (dT h1) ?_
  refine AW.regL ?_
  refine V rfl ?_
  refine LIR 6 (m:=.fz) (f:=A.D.s) (xs:=[(⟨#[105,102]⟩:ByteArray),(⟨#[]⟩:ByteArray),(⟨#[111,102]⟩:ByteArray)]) ?_
  refine bdE hr fun q3 hq3 hr=>?_
  obtain⟨y3,z3⟩:=q3
  refine CB [(0,0)] [6] (q3Q (m:=.bo) hq3) ?_
  refine V rfl ?_
  refine SB ?_
  refine AL.nil ?_
  refine AW.seq (AW.regL ?_)
  refine V rfl ?_
  refine SB ?_
  refine AL.nil ?_
  refine AW.ret ?_
  cases hr
  exact endA.renK [(0,0),(2,1),(3,2),(4,3)] 4 hS
 ·refine AW.cF rfl (dF h1) ?_
  refine AW.seq (AW.regL ?_)
  iterate 2 refine V rfl ?_
  refine AL.nil ?_
  refine ifE hr (fun h2 hr=>?_) fun h2 hr=>?_
  ·refine AW.cT rfl (dT h2) ?_
   refine AW.regL ?_
   iterate 2 refine V rfl ?_
   refine LIR 6 (m:=.fz) (f:=A.D.s) (xs:=[(⟨#[115]⟩:ByteArray),(⟨#[115]⟩:ByteArray)]) ?_
   refine ggE hr fun g1 hr=>?_
   refine APfB (f:=A.D.s) 7 16 (fun _=>rfl) g1 ?_
   refine V rfl ?_
   refine SB ?_
   refine AL.nil ?_
   refine AW.seq (AW.regL ?_)
   refine V rfl ?_
   refine SB ?_
   refine AL.nil ?_
   refine AW.ret ?_
   cases hr
   exact endA.renK [(0,0),(7,1),(3,2),(4,3)] 4 hS
  ·refine AW.cF rfl (dF h2) ?_
   refine AW.seq (AW.regL ?_)
   iterate 2 refine V rfl ?_
   refine AL.nil ?_
   refine ifE hr (fun h3 hr=>?_) fun h3 hr=>?_
   ·refine AW.cT rfl (dT h3) ?_
    refine AW.drawL (h:=?_)
    iterate 3 refine V rfl ?_
    refine bdE hr fun q4 hq4 hr=>?_
    obtain⟨y4,z4⟩:=q4
    refine CB [(0,0)] [] (q1q hq4) ?_
    refine ggE hr fun g2 hr=>?_
    refine OB _ (bSub g2) ?_
    iterate 2 refine V rfl ?_
    refine bdE hr fun q5 hq5 hr=>?_
    obtain⟨y5,z5⟩:=q5
    refine CBz 6 [(0,0),(1,6)] [] (z8A hq5) ?_
    refine V rfl ?_
    refine LIR 7 (m:=.fz) (f:=Equation.D) (xs:=[(⟨(⟨(y4 - 1),(⟨#[97]⟩:ByteArray)⟩:Occurrence),y5⟩:Equation)]) ?_
    refine ggE hr fun g3 hr=>?_
    refine AP1 8 .fz 112 g3 ?_
    refine V rfl ?_
    refine SB ?_
    refine AL.nil ?_
    refine AW.seq (AW.regL ?_)
    refine V rfl ?_
    refine SB ?_
    refine AL.nil ?_
    refine AW.ret ?_
    cases hr
    exact endA.renK [(0,0),(2,1),(8,2),(4,3)] 4 hS
   ·refine AW.cF rfl (dF h3) ?_
    refine AW.seq (AW.regL ?_)
    iterate 2 refine V rfl ?_
    refine AL.nil ?_
    refine ifE hr (fun h4 hr=>?_) fun h4 hr=>?_
    ·refine AW.cT rfl (dT h4) ?_
     refine AW.regL ?_
     refine V rfl ?_
     refine SB ?_
     refine AL.nil ?_
     refine AW.seq (AW.regL ?_)
     refine V rfl ?_
     refine SB ?_
     refine AL.nil ?_
     refine AW.ret ?_
     cases hr
     exact endA.renK [(0,0),(2,1),(3,2),(4,3)] 4 hS
    ·refine AW.cF rfl (dF h4) ?_
     refine AW.seq (AW.regL ?_)
     iterate 2 refine V rfl ?_
     refine AL.nil ?_
     refine ifE hr (fun h5 hr=>?_) fun h5 hr=>?_
     ·refine AW.cT rfl (dT h5) ?_
      refine AW.drawL (h:=?_)
      iterate 5 refine V rfl ?_
      refine LE ?_
      refine ggE hr fun g4 hr=>?_
      refine OB _ (q2b (p:=y1.Right.length) (q:=1) g4) ?_
      refine bdE hr fun q6 hq6 hr=>?_
      obtain⟨y6,z6⟩:=q6
      refine CB [(0,0)] [] (q1q hq6) ?_
      refine ggE hr fun g5 hr=>?_
      refine ggE hr fun g6 hr=>?_
      refine CU 6 g5 g6 ?_
      refine V rfl ?_
      refine SB ?_
      refine AL.nil ?_
      refine AW.seq (AW.regL ?_)
      refine V rfl ?_
      refine SB ?_
      refine AL.nil ?_
      refine AW.ret ?_
      cases hr
      exact endA.renK [(0,0),(6,1),(3,2),(4,3)] 4 hS
     ·refine AW.cF rfl (dF h5) ?_
      refine AW.skip ?_
      refine AW.seq (AW.regL ?_)
      refine V rfl ?_
      refine SB ?_
      refine AL.nil ?_
      refine AW.ret ?_
      cases hr
      exact endA.renK [(0,0),(2,1),(3,2),(4,3)] 4 hS
def z3e:(List Attribute)→Option ((List Attribute) ⊕ ((List Attribute))):=fun s2=>
 if (s2.length:Int) < 5 then (
 ([(⟨#[101]⟩:ByteArray),(⟨#[102]⟩:ByteArray),(⟨#[103]⟩:ByteArray),(⟨#[104]⟩:ByteArray),(⟨#[105]⟩:ByteArray)][s2.length]?).bind fun x5=>
 grd (((s2.length:Int)+1)*40≤140737488355328∧(s2.length:Int)+1≤9223372036854775807) <|
 some (.inl (s2++[(⟨x5,1,2,false⟩:Attribute)]))
 ) else (
 some (.inr s2)
 )
def q8p (o0:l1Cur):Option (Symbol × l1Cur):=
 (q3t [(⟨#[115]⟩:ByteArray),(⟨#[116]⟩:ByteArray),(⟨#[105,102]⟩:ByteArray),(⟨#[108,105,115,116,49]⟩:ByteArray)] o0).bind fun (y1,z1)=>
 (q7p y1 false false (⟨o0.b,z1.i,z1.h⟩:l1Cur)).bind fun (y2,z2)=>
 (q1p 10 (⟨o0.b,z2.i,z2.h⟩:l1Cur)).bind fun (y3,z3)=>
 if y3=0 then (
 (y2.Attributes[0]?).bind fun x1=>
 some ((⟨y2.Name,(List.set y2.Attributes 0 (⟨x1.Name,x1.Type_,x1.Mode,true⟩:Attribute))⟩:Symbol),(⟨o0.b,z3.i,z3.h⟩:l1Cur))
 ) else (
 if y3=1 then (
 (q1p 5 (⟨o0.b,z3.i,z3.h⟩:l1Cur)).bind fun (y4,z4)=>
 (y2.Attributes[0]?).bind fun x2=>
 some ((⟨y2.Name,(List.set y2.Attributes 0 (⟨x2.Name,x2.Type_,y4,x2.Circular⟩:Attribute))⟩:Symbol),(⟨o0.b,z4.i,z4.h⟩:l1Cur))
 ) else (
 if y3=2 then (
 (q1p 6 (⟨o0.b,z3.i,z3.h⟩:l1Cur)).bind fun (y5,z5)=>
 (y2.Attributes[0]?).bind fun x3=>
 some ((⟨y2.Name,(List.set y2.Attributes 0 (⟨x3.Name,y5,x3.Mode,x3.Circular⟩:Attribute))⟩:Symbol),(⟨o0.b,z5.i,z5.h⟩:l1Cur))
 ) else (
 if y3=3 then (
 (q3t [(⟨#[98]⟩:ByteArray),(⟨#[111,102]⟩:ByteArray),(⟨#[]⟩:ByteArray)] (⟨o0.b,z3.i,z3.h⟩:l1Cur)).bind fun (y6,z6)=>
 (y2.Attributes[0]?).bind fun x4=>
 some ((⟨y2.Name,(List.set y2.Attributes 0 (⟨y6,x4.Type_,x4.Mode,x4.Circular⟩:Attribute))⟩:Symbol),(⟨o0.b,z6.i,z6.h⟩:l1Cur))
 ) else (
 if y3=4 then (
 (q2t z3e y2.Attributes).bind fun s1=>
 some ((⟨y2.Name,s1⟩:Symbol),(⟨o0.b,z3.i,z3.h⟩:l1Cur))
 ) else (
 some (y2,(⟨o0.b,z3.i,z3.h⟩:l1Cur))
 )
 )
 )
 )
 )
theorem z8B {o0:l1Cur}{r:(Symbol × l1Cur)}(hr:q8p o0=some r):Ok Tryz.prog 62 [.pb 0 0] [.box [.d .fz (.sl 1 (o0.b.map byD)),.d .fz (.i .i64 o0.i),.d .fz (.i .i64 o0.h)]] (.ag [.d .fz (.s r.1.Name),.ref 1 none]) [.box [.d .fz (.sl 1 (o0.b.map byD)),.d .fz (.i .i64 r.2.i),.d .fz (.i .i64 r.2.h)],.row .fz 4 (r.1.Attributes.map Attribute.D)]:=by
 refine Ok.enter rfl Tryz.func62 rfl rfl rfl fun S hS=>?_
 unfold q8p at hr
 refine AW.seq (AW.regL ?_)
 refine NV 1 ?_
 refine AL.nil ?_
 refine AW.seq (AW.regL ?_)
 iterate 2 refine V rfl ?_
 refine LIR 2 (m:=.fz) (f:=A.D.s) (xs:=[(⟨#[115]⟩:ByteArray),(⟨#[116]⟩:ByteArray),(⟨#[105,102]⟩:ByteArray),(⟨#[108,105,115,116,49]⟩:ByteArray)]) ?_
 refine bdE hr fun q1 hq1 hr=>?_
 obtain⟨y1,z1⟩:=q1
 refine CB [(0,0)] [2] (q3Q (m:=.bo) hq1) ?_
 refine bdE hr fun q2 hq2 hr=>?_
 obtain⟨y2,z2⟩:=q2
 refine CB [(0,0),(1,3)] [] (z2W hq2) ?_
 refine NV 4 ?_
 refine SB ?_
 refine AL.nil ?_
 refine AW.seq (AW.seq (AW.regL ?_))
 refine V rfl ?_
 refine bdE hr fun q3 hq3 hr=>?_
 obtain⟨y3,z3⟩:=q3
 refine CB [(0,0)] [] (q1q hq3) ?_
 refine AL.nil ?_
 refine AW.block (AW.seq (AW.regL ?_))
 iterate 2 refine V rfl ?_
 refine AL.nil ?_
 refine ifE hr (fun h1 hr=>?_) fun h1 hr=>?_
 ·refine AW.cT rfl (dT h1) ?_
  refine AW.regL ?_
  iterate 2 refine V rfl ?_
  refine bdE hr fun x1 hx1 hr=>?_
  refine IE hx1 (Int.natCast_nonneg _) ?_
  refine V rfl ?_
  refine SE (⟨x1.Name,x1.Type_,x1.Mode,true⟩:Attribute) hx1 ?_
  refine AL.nil ?_
  refine AW.seq (AW.regL ?_)
  refine V rfl ?_
  refine SB ?_
  refine AL.nil ?_
  refine AW.ret ?_
  cases hr
  exact endA.renK [(0,0),(3,1)] 2 hS
 ·refine AW.cF rfl (dF h1) ?_
  refine AW.seq (AW.regL ?_)
  iterate 2 refine V rfl ?_
  refine AL.nil ?_
  refine ifE hr (fun h2 hr=>?_) fun h2 hr=>?_
  ·refine AW.cT rfl (dT h2) ?_
   refine AW.drawL (h:=?_)
   iterate 3 refine V rfl ?_
   refine bdE hr fun q4 hq4 hr=>?_
   obtain⟨y4,z4⟩:=q4
   refine CB [(0,0)] [] (q1q hq4) ?_
   refine bdE hr fun x2 hx2 hr=>?_
   refine IE hx2 (Int.natCast_nonneg _) ?_
   refine V rfl ?_
   refine SE (⟨x2.Name,x2.Type_,y4,x2.Circular⟩:Attribute) hx2 ?_
   refine AL.nil ?_
   refine AW.seq (AW.regL ?_)
   refine V rfl ?_
   refine SB ?_
   refine AL.nil ?_
   refine AW.ret ?_
   cases hr
   exact endA.renK [(0,0),(3,1)] 2 hS
  ·refine AW.cF rfl (dF h2) ?_
   refine AW.seq (AW.regL ?_)
   iterate 2 refine V rfl ?_
   refine AL.nil ?_
   refine ifE hr (fun h3 hr=>?_) fun h3 hr=>?_
   ·refine AW.cT rfl (dT h3) ?_
    refine AW.drawL (h:=?_)
    iterate 3 refine V rfl ?_
    refine bdE hr fun q5 hq5 hr=>?_
    obtain⟨y5,z5⟩:=q5
    refine CB [(0,0)] [] (q1q hq5) ?_
    refine bdE hr fun x3 hx3 hr=>?_
    refine IE hx3 (Int.natCast_nonneg _) ?_
    refine V rfl ?_
    refine SE (⟨x3.Name,y5,x3.Mode,x3.Circular⟩:Attribute) hx3 ?_
    refine AL.nil ?_
    refine AW.seq (AW.regL ?_)
    refine V rfl ?_
    refine SB ?_
    refine AL.nil ?_
    refine AW.ret ?_
    cases hr
    exact endA.renK [(0,0),(3,1)] 2 hS
   ·refine AW.cF rfl (dF h3) ?_
    refine AW.seq (AW.regL ?_)
    iterate 2 refine V rfl ?_
    refine AL.nil ?_
    refine ifE hr (fun h4 hr=>?_) fun h4 hr=>?_
    ·refine AW.cT rfl (dT h4) ?_
     refine AW.drawL (h:=?_)
     iterate 3 refine V rfl ?_
     refine LIR 5 (m:=.fz) (f:=A.D.s) (xs:=[(⟨#[98]⟩:ByteArray),(⟨#[111,102]⟩:ByteArray),(⟨#[]⟩:ByteArray)]) ?_
     refine bdE hr fun q6 hq6 hr=>?_
     obtain⟨y6,z6⟩:=q6
     refine CB [(0,0)] [5] (q3Q (m:=.bo) hq6) ?_
     refine bdE hr fun x4 hx4 hr=>?_
     refine IE hx4 (Int.natCast_nonneg _) ?_
     refine V rfl ?_
     refine SE (⟨y6,x4.Type_,x4.Mode,x4.Circular⟩:Attribute) hx4 ?_
     refine AL.nil ?_
     refine AW.seq (AW.regL ?_)
     refine V rfl ?_
     refine SB ?_
     refine AL.nil ?_
     refine AW.ret ?_
     cases hr
     exact endA.renK [(0,0),(3,1)] 2 hS
    ·refine AW.cF rfl (dF h4) ?_
     refine AW.seq (AW.regL ?_)
     iterate 2 refine V rfl ?_
     refine AL.nil ?_
     refine ifE hr (fun h5 hr=>?_) fun h5 hr=>?_
     ·refine AW.cT rfl (dT h5) ?_
      refine bdE hr fun s1 hqq7 hr=>?_
      refine AW.cut1 5 [(2,.pb 1 0),(3,.pb 4 0)] [(3,.row .fz 4 (s1.map Attribute.D))] ?_ ?_
      ·refine AW.block (AW.iter hqq7 5 (fun s2=>[(2,.pb 1 0),(3,.pb 4 0)]) (fun s2=>[(3,.row .fz 4 (s2.map Attribute.D))]) (GH.renK hS [(0,0),(1,1),(2,2),(3,3),(4,4)] 5) fun sk1 ok1 hr hik1=>?_)
       obtain⟨s2,rfl⟩:∃ y,y=sk1:=⟨_,rfl⟩
       have hr:=hr
       refine AW.seq (AW.seq (AW.regL ?_))
       iterate 2 refine V rfl ?_
       refine LE ?_
       refine V rfl ?_
       refine AL.nil ?_
       refine ifE hr (fun h6 hr=>?_) fun h6 hr=>?_
       ·refine AW.cT rfl (dT h6) ?_
        refine AW.skip ?_
        refine AW.block (AW.drawL (h:=?_))
        iterate 2 refine V rfl ?_
        refine LIR 5 (m:=.fz) (f:=A.D.s) (xs:=[(⟨#[101]⟩:ByteArray),(⟨#[102]⟩:ByteArray),(⟨#[103]⟩:ByteArray),(⟨#[104]⟩:ByteArray),(⟨#[105]⟩:ByteArray)]) ?_
        iterate 2 refine V rfl ?_
        refine LE ?_
        refine bdE hr fun x5 hx5 hr=>?_
        refine IE hx5 (Int.natCast_nonneg _) ?_
        refine LP hx5 ?_
        refine V rfl ?_
        refine LIR 6 (m:=.fz) (f:=Attribute.D) (xs:=[(⟨x5,1,2,false⟩:Attribute)]) ?_
        refine ggE hr fun g1 hr=>?_
        refine APf1 (f:=Attribute.D) 7 (fun _=>rfl) 40 g1 ?_
        refine V rfl ?_
        refine SB ?_
        refine AL.nil ?_
        cases hr
        exact⟨_,rfl,GH.renK hS [(0,0),(1,1),(2,2),(7,3),(4,4)] 5⟩
       ·refine AW.cF rfl (dF h6) ?_
        refine AW.exit ?_
        cases hr
        cases hik1 _ rfl
        exact GH.renK hS [(0,0),(1,1),(2,2),(3,3),(4,4)] 5
      ·refine AW.seq (AW.regL ?_)
       refine V rfl ?_
       refine SB ?_
       refine AL.nil ?_
       refine AW.ret ?_
       cases hr
       exact endA.renK [(0,0),(3,1)] 2 hS
     ·refine AW.cF rfl (dF h5) ?_
      refine AW.skip ?_
      refine AW.seq (AW.regL ?_)
      refine V rfl ?_
      refine SB ?_
      refine AL.nil ?_
      refine AW.ret ?_
      cases hr
      exact endA.renK [(0,0),(3,1)] 2 hS
def q7w (o0:l1Cur):Option (Grammar × l1Cur):=
 (q1L 2 o0).bind fun (y1,z1)=>
 (q7t y1 (⟨o0.b,z1.i,z1.h⟩:l1Cur)).bind fun (y2,z2)=>
 (q1p (y2.Rules.length:Int) (⟨o0.b,z2.i,z2.h⟩:l1Cur)).bind fun (y3,z3)=>
 (q1p 14 (⟨o0.b,z3.i,z3.h⟩:l1Cur)).bind fun (y4,z4)=>
 if y4=0 then (
 (q7v (⟨o0.b,z4.i,z4.h⟩:l1Cur)).bind fun (y5,z5)=>
 grd (0≤y3) <|
 (y2.Rules[y3.toNat]?).bind fun x1=>
 some ((⟨y2.Symbols,(List.set y2.Rules y3.toNat y5)⟩:Grammar),(⟨o0.b,z5.i,z5.h⟩:l1Cur))
 ) else (
 if y4=1 then (
 (q8p (⟨o0.b,z4.i,z4.h⟩:l1Cur)).bind fun (y6,z6)=>
 (y2.Symbols[0]?).bind fun x2=>
 some ((⟨(List.set y2.Symbols 0 y6),y2.Rules⟩:Grammar),(⟨o0.b,z6.i,z6.h⟩:l1Cur))
 ) else (
 if y4=2 then (
 (y2.Rules[0]?).bind fun x3=>
 grd (0≤y3) <|
 (y2.Rules[y3.toNat]?).bind fun x4=>
 some ((⟨y2.Symbols,(List.set y2.Rules y3.toNat (⟨x3.Name,x4.Left,x4.Right,x4.Literal,x4.Equations,x4.Contributions⟩:Rule))⟩:Grammar),(⟨o0.b,z4.i,z4.h⟩:l1Cur))
 ) else (
 if y4=3 then (
 grd (0≤y3) <|
 (y2.Rules[y3.toNat]?).bind fun x5=>
 if 0 < (x5.Equations.length:Int) then (
 grd (1≤x5.Equations.length) <|
 some ((⟨y2.Symbols,(List.set y2.Rules y3.toNat (⟨x5.Name,x5.Left,x5.Right,x5.Literal,(x5.Equations.drop 1),x5.Contributions⟩:Rule))⟩:Grammar),(⟨o0.b,z4.i,z4.h⟩:l1Cur))
 ) else (
 some (y2,(⟨o0.b,z4.i,z4.h⟩:l1Cur))
 )
 ) else (
 if y4=4 then (
 grd (0≤y3) <|
 (y2.Rules[y3.toNat]?).bind fun x6=>
 if 0 < (x6.Equations.length:Int) then (
 (x6.Equations[0]?).bind fun x7=>
 grd (((x6.Equations.length:Int)+1)*112≤140737488355328∧(x6.Equations.length:Int)+1≤9223372036854775807) <|
 some ((⟨y2.Symbols,(List.set y2.Rules y3.toNat (⟨x6.Name,x6.Left,x6.Right,x6.Literal,(x6.Equations++[x7]),x6.Contributions⟩:Rule))⟩:Grammar),(⟨o0.b,z4.i,z4.h⟩:l1Cur))
 ) else (
 some (y2,(⟨o0.b,z4.i,z4.h⟩:l1Cur))
 )
 ) else (
 if y4=5 then (
 (q3t [(⟨#[115]⟩:ByteArray),(⟨#[122]⟩:ByteArray)] (⟨o0.b,z4.i,z4.h⟩:l1Cur)).bind fun (y7,z7)=>
 grd (0≤y3) <|
 (y2.Rules[y3.toNat]?).bind fun x8=>
 some ((⟨y2.Symbols,(List.set y2.Rules y3.toNat (⟨x8.Name,y7,x8.Right,x8.Literal,x8.Equations,x8.Contributions⟩:Rule))⟩:Grammar),(⟨o0.b,z7.i,z7.h⟩:l1Cur))
 ) else (
 if y4=6 then (
 grd (0≤y3) <|
 (y2.Rules[y3.toNat]?).bind fun x9=>
 if 0 < (x9.Equations.length:Int) then (
 (q7u (⟨o0.b,z4.i,z4.h⟩:l1Cur)).bind fun (y8,z8)=>
 (x9.Equations[0]?).bind fun x10=>
 some ((⟨y2.Symbols,(List.set y2.Rules y3.toNat (⟨x9.Name,x9.Left,x9.Right,x9.Literal,(List.set x9.Equations 0 (⟨x10.At,y8⟩:Equation)),x9.Contributions⟩:Rule))⟩:Grammar),(⟨o0.b,z8.i,z8.h⟩:l1Cur))
 ) else (
 some (y2,(⟨o0.b,z4.i,z4.h⟩:l1Cur))
 )
 ) else (
 some (y2,(⟨o0.b,z4.i,z4.h⟩:l1Cur))
 )
 )
 )
 )
 )
 )
 )
theorem z6v {o0:l1Cur}{r:(Grammar × l1Cur)}(hr:q7w o0=some r):Ok Tryz.prog 40 [.pb 0 0] [.box [.d .fz (.sl 1 (o0.b.map byD)),.d .fz (.i .i64 o0.i),.d .fz (.i .i64 o0.h)]] (.ag [.ref 1 none,.d .fz (.sl 6 (r.1.Rules.map Rule.D))]) [.box [.d .fz (.sl 1 (o0.b.map byD)),.d .fz (.i .i64 r.2.i),.d .fz (.i .i64 r.2.h)],.deep .fz 2 (r.1.Symbols.map Symbol.O) []]:=by
 refine Ok.enter rfl Tryz.func40 rfl rfl rfl fun S hS=>?_
 unfold q7w at hr
 refine AW.seq (AW.regL ?_)
 refine NV 1 ?_
 refine AL.nil ?_
 refine AW.seq (AW.regL ?_)
 iterate 2 refine V rfl ?_
 refine bdE hr fun q1 hq1 hr=>?_
 obtain⟨y1,z1⟩:=q1
 refine CB [(0,0)] [] (q1W hq1) ?_
 refine bdE hr fun q2 hq2 hr=>?_
 obtain⟨y2,z2⟩:=q2
 refine CB [(0,0),(1,2),(2,3)] [] (z6s hq2) ?_
 refine NV 4 ?_
 refine SB ?_
 refine AL.nil ?_
 refine AW.seq (AW.regL ?_)
 iterate 3 refine V rfl ?_
 refine LEd y2.Rules.length ?_
 refine bdE hr fun q3 hq3 hr=>?_
 obtain⟨y3,z3⟩:=q3
 refine CB [(0,0)] [] (q1q hq3) ?_
 refine V rfl ?_
 refine AL.nil ?_
 refine AW.seq (AW.seq (AW.regL ?_))
 refine V rfl ?_
 refine bdE hr fun q4 hq4 hr=>?_
 obtain⟨y4,z4⟩:=q4
 refine CB [(0,0)] [] (q1q hq4) ?_
 refine AL.nil ?_
 refine AW.block (AW.seq (AW.regL ?_))
 iterate 2 refine V rfl ?_
 refine AL.nil ?_
 refine ifE hr (fun h1 hr=>?_) fun h1 hr=>?_
 ·refine AW.cT rfl (dT h1) ?_
  refine AW.drawL (h:=?_)
  iterate 4 refine V rfl ?_
  refine bdE hr fun q5 hq5 hr=>?_
  obtain⟨y5,z5⟩:=q5
  refine CB [(0,0),(1,5),(2,6),(3,7)] [] (z3d hq5) ?_
  refine ggE hr fun g1 hr=>?_
  refine bdE hr fun x1 hx1 hr=>?_
  refine IEd g1 (q1G hx1) ?_
  refine SD [.d .fz (.s y5.Name),.d .fz (.s y5.Left),.o .fz 1 (y5.Right.map A.D.s),.d .fz (.b y5.Literal),.o .fz 9 (y5.Equations.map Equation.D),.o .fz 16 (y5.Contributions.map Contribution.D)] [5,6,7] (q1G hx1) ?_
  refine AL.nil ?_
  refine AW.seq (AW.regL ?_)
  refine V rfl ?_
  refine SB ?_
  refine AL.nil ?_
  refine AW.ret ?_
  refine endA.gh (GH.ees 3 (he:=eset (f:=Rule.O) (x':=y5) (by first | rfl | (simp only [List.set_set]; rfl)))) ?_
  refine endA.gh (GH.fzD 3 Rule.D (by exact fun _=>rfl) rfl) ?_
  cases hr
  exact endA.renK [(0,0),(2,1)] 2 hS
 ·refine AW.cF rfl (dF h1) ?_
  refine AW.seq (AW.regL ?_)
  iterate 2 refine V rfl ?_
  refine AL.nil ?_
  refine ifE hr (fun h2 hr=>?_) fun h2 hr=>?_
  ·refine AW.cT rfl (dT h2) ?_
   refine AW.drawL (h:=?_)
   iterate 3 refine V rfl ?_
   refine bdE hr fun q6 hq6 hr=>?_
   obtain⟨y6,z6⟩:=q6
   refine CB [(0,0),(1,5)] [] (z8B hq6) ?_
   refine bdE hr fun x2 hx2 hr=>?_
   refine IEd (Int.natCast_nonneg _) (q1G hx2) ?_
   refine SD [.d .fz (.s y6.Name),.o .fz 4 (y6.Attributes.map Attribute.D)] [5] (q1G hx2) ?_
   refine AL.nil ?_
   refine AW.seq (AW.regL ?_)
   refine V rfl ?_
   refine SB ?_
   refine AL.nil ?_
   refine AW.ret ?_
   refine endA.gh (GH.ees 2 (he:=eset (f:=Symbol.O) (x':=y6) (by first | rfl | (simp only [List.set_set]; rfl)))) ?_
   refine endA.gh (GH.fzD 3 Rule.D (by exact fun _=>rfl) rfl) ?_
   cases hr
   exact endA.renK [(0,0),(2,1)] 2 hS
  ·refine AW.cF rfl (dF h2) ?_
   refine AW.seq (AW.regL ?_)
   iterate 2 refine V rfl ?_
   refine AL.nil ?_
   refine ifE hr (fun h3 hr=>?_) fun h3 hr=>?_
   ·refine AW.cT rfl (dT h3) ?_
    refine AW.drawL (h:=?_)
    iterate 5 refine V rfl ?_
    refine bdE hr fun x3 hx3 hr=>?_
    refine IEd (Int.natCast_nonneg _) (q1G hx3) ?_
    refine V rfl ?_
    refine LPd [] (q1G hx3) ?_
    refine ggE hr fun g2 hr=>?_
    refine bdE hr fun x4 hx4 hr=>?_
    refine IEd g2 (q1G hx4) ?_
    refine V rfl ?_
    refine SD [.d .fz (.s x3.Name)] [] (q1G hx4) ?_
    refine AL.nil ?_
    refine AW.seq (AW.regL ?_)
    refine V rfl ?_
    refine SB ?_
    refine AL.nil ?_
    refine AW.ret ?_
    refine endA.gh (GH.ees 3 (he:=eset (f:=Rule.O) (x':=(⟨x3.Name,x4.Left,x4.Right,x4.Literal,x4.Equations,x4.Contributions⟩:Rule)) (by first | rfl | (simp only [List.set_set]; rfl)))) ?_
    refine endA.gh (GH.fzD 3 Rule.D (by exact fun _=>rfl) rfl) ?_
    cases hr
    exact endA.renK [(0,0),(2,1)] 2 hS
   ·refine AW.cF rfl (dF h3) ?_
    refine AW.seq (AW.regL ?_)
    iterate 2 refine V rfl ?_
    refine AL.nil ?_
    refine ifE hr (fun h4 hr=>?_) fun h4 hr=>?_
    ·refine AW.cT rfl (dT h4) ?_
     refine AW.seq (AW.regL ?_)
     iterate 3 refine V rfl ?_
     refine ggE hr fun g3 hr=>?_
     refine bdE hr fun x5 hx5 hr=>?_
     refine IEd g3 (q1G hx5) ?_
     refine V rfl ?_
     refine AL.out 3 y3.toNat 4 5 (q1G hx5) ?_
     refine LPd [(4,5)] (q1w (q1G hx5)) ?_
     refine LE ?_
     refine V rfl ?_
     refine AL.nil ?_
     refine ifE hr (fun h5 hr=>?_) fun h5 hr=>?_
     ·refine AW.cT rfl (dT h5) ?_
      refine AW.drawL (h:=?_)
      iterate 6 refine V rfl ?_
      refine IEd g3 (q1w (q1G hx5)) ?_
      refine V rfl ?_
      refine LPd [(4,5)] (q1w (q1G hx5)) ?_
      refine ggE hr fun g4 hr=>?_
      refine SVL (xs:=x5.Equations) (a:=1) (by decide) g4 ?_
      refine IEd g3 (q1w (q1G hx5)) ?_
      refine V rfl ?_
      refine AL.fz 5 rfl ?_
      refine AL.eqT 62 (.d .fz (.sl 9 ((x5.Equations.drop 1).map Equation.D))) (congrArg (fun l=>X.d .fz (.sl 9 l)) j3d) ?_
      refine SD [.d .fz (.sl 9 ((x5.Equations.drop 1).map Equation.D))] [] (q1w (q1G hx5)) ?_
      refine AL.fzDs (f:=Rule.O) 3 Rule.D (⟨x5.Name,x5.Left,x5.Right,x5.Literal,(x5.Equations.drop 1),x5.Contributions⟩:Rule) (by exact fun _=>rfl) hx5 ?_
      refine AL.nil ?_
      refine AW.seq (AW.regL ?_)
      refine V rfl ?_
      refine SB ?_
      refine AL.nil ?_
      refine AW.ret ?_
      cases hr
      exact endA.renK [(0,0),(2,1)] 2 hS
     ·refine AW.cF rfl (dF h5) ?_
      refine AW.skip ?_
      refine AW.seq (AW.regL ?_)
      refine V rfl ?_
      refine SB ?_
      refine AL.nil ?_
      refine AW.ret ?_
      refine endA.gh (GH.inn' 3 y3.toNat 4 5 (q1w (q1G hx5))) ?_
      refine endA.gh (GH.ees 3 (he:=j3c (f:=Rule.O) hx5 (by first | rfl | (simp only [List.set_set]; rfl)))) ?_
      refine endA.gh (GH.fzD 3 Rule.D (by exact fun _=>rfl) rfl) ?_
      cases hr
      exact endA.renK [(0,0),(2,1)] 2 hS
    ·refine AW.cF rfl (dF h4) ?_
     refine AW.seq (AW.regL ?_)
     iterate 2 refine V rfl ?_
     refine AL.nil ?_
     refine ifE hr (fun h6 hr=>?_) fun h6 hr=>?_
     ·refine AW.cT rfl (dT h6) ?_
      refine AW.seq (AW.regL ?_)
      iterate 3 refine V rfl ?_
      refine ggE hr fun g5 hr=>?_
      refine bdE hr fun x6 hx6 hr=>?_
      refine IEd g5 (q1G hx6) ?_
      refine V rfl ?_
      refine AL.out 3 y3.toNat 4 5 (q1G hx6) ?_
      refine LPd [(4,5)] (q1w (q1G hx6)) ?_
      refine LE ?_
      refine V rfl ?_
      refine AL.nil ?_
      refine ifE hr (fun h7 hr=>?_) fun h7 hr=>?_
      ·refine AW.cT rfl (dT h7) ?_
       refine AW.drawL (h:=?_)
       iterate 6 refine V rfl ?_
       refine IEd g5 (q1w (q1G hx6)) ?_
       refine V rfl ?_
       refine LPd [(4,5)] (q1w (q1G hx6)) ?_
       iterate 3 refine V rfl ?_
       refine IEd g5 (q1w (q1G hx6)) ?_
       refine V rfl ?_
       refine LPd [(4,5)] (q1w (q1G hx6)) ?_
       refine bdE hr fun x7 hx7 hr=>?_
       refine IE hx7 (Int.natCast_nonneg _) ?_
       refine LPa hx7 ?_
       refine LIR 6 (m:=.fz) (f:=Equation.D) (xs:=[x7]) ?_
       refine ggE hr fun g6 hr=>?_
       refine AP1 7 .fz 112 g6 ?_
       refine IEd g5 (q1w (q1G hx6)) ?_
       refine V rfl ?_
       refine SD [.o .fz 9 ((x6.Equations++[x7]).map Equation.D)] [7] (q1w (q1G hx6)) ?_
       refine AL.nil ?_
       refine AW.seq (AW.regL ?_)
       refine V rfl ?_
       refine SB ?_
       refine AL.nil ?_
       refine AW.ret ?_
       refine endA.gh (GH.ees 3 (he:=eset (f:=Rule.O) (x':=(⟨x6.Name,x6.Left,x6.Right,x6.Literal,(x6.Equations++[x7]),x6.Contributions⟩:Rule)) (by first | rfl | (simp only [List.set_set]; rfl)))) ?_
       refine endA.gh (GH.fzD 3 Rule.D (by exact fun _=>rfl) rfl) ?_
       cases hr
       exact endA.renK [(0,0),(2,1)] 2 hS
      ·refine AW.cF rfl (dF h7) ?_
       refine AW.skip ?_
       refine AW.seq (AW.regL ?_)
       refine V rfl ?_
       refine SB ?_
       refine AL.nil ?_
       refine AW.ret ?_
       refine endA.gh (GH.inn' 3 y3.toNat 4 5 (q1w (q1G hx6))) ?_
       refine endA.gh (GH.ees 3 (he:=j3c (f:=Rule.O) hx6 (by first | rfl | (simp only [List.set_set]; rfl)))) ?_
       refine endA.gh (GH.fzD 3 Rule.D (by exact fun _=>rfl) rfl) ?_
       cases hr
       exact endA.renK [(0,0),(2,1)] 2 hS
     ·refine AW.cF rfl (dF h6) ?_
      refine AW.seq (AW.regL ?_)
      iterate 2 refine V rfl ?_
      refine AL.nil ?_
      refine ifE hr (fun h8 hr=>?_) fun h8 hr=>?_
      ·refine AW.cT rfl (dT h8) ?_
       refine AW.drawL (h:=?_)
       iterate 4 refine V rfl ?_
       refine LIR 5 (m:=.fz) (f:=A.D.s) (xs:=[(⟨#[115]⟩:ByteArray),(⟨#[122]⟩:ByteArray)]) ?_
       refine bdE hr fun q7 hq7 hr=>?_
       obtain⟨y7,z7⟩:=q7
       refine CB [(0,0)] [5] (q3Q (m:=.bo) hq7) ?_
       refine ggE hr fun g7 hr=>?_
       refine bdE hr fun x8 hx8 hr=>?_
       refine IEd g7 (q1G hx8) ?_
       refine V rfl ?_
       refine SD [.d .fz (.s y7)] [] (q1G hx8) ?_
       refine AL.nil ?_
       refine AW.seq (AW.regL ?_)
       refine V rfl ?_
       refine SB ?_
       refine AL.nil ?_
       refine AW.ret ?_
       refine endA.gh (GH.ees 3 (he:=eset (f:=Rule.O) (x':=(⟨x8.Name,y7,x8.Right,x8.Literal,x8.Equations,x8.Contributions⟩:Rule)) (by first | rfl | (simp only [List.set_set]; rfl)))) ?_
       refine endA.gh (GH.fzD 3 Rule.D (by exact fun _=>rfl) rfl) ?_
       cases hr
       exact endA.renK [(0,0),(2,1)] 2 hS
      ·refine AW.cF rfl (dF h8) ?_
       refine AW.seq (AW.regL ?_)
       iterate 2 refine V rfl ?_
       refine AL.nil ?_
       refine ifE hr (fun h9 hr=>?_) fun h9 hr=>?_
       ·refine AW.cT rfl (dT h9) ?_
        refine AW.seq (AW.regL ?_)
        iterate 3 refine V rfl ?_
        refine ggE hr fun g8 hr=>?_
        refine bdE hr fun x9 hx9 hr=>?_
        refine IEd g8 (q1G hx9) ?_
        refine V rfl ?_
        refine AL.out 3 y3.toNat 4 5 (q1G hx9) ?_
        refine LPd [(4,5)] (q1w (q1G hx9)) ?_
        refine LE ?_
        refine V rfl ?_
        refine AL.nil ?_
        refine ifE hr (fun h10 hr=>?_) fun h10 hr=>?_
        ·refine AW.cT rfl (dT h10) ?_
         refine AW.drawL (h:=?_)
         iterate 3 refine V rfl ?_
         refine IEd g8 (q1w (q1G hx9)) ?_
         refine V rfl ?_
         refine LPd [(4,5)] (q1w (q1G hx9)) ?_
         refine V rfl ?_
         refine bdE hr fun q8 hq8 hr=>?_
         obtain⟨y8,z8⟩:=q8
         refine CBz 6 [(0,0),(1,6)] [] (z3c hq8) ?_
         refine bdE hr fun x10 hx10 hr=>?_
         refine IE hx10 (Int.natCast_nonneg _) ?_
         refine V rfl ?_
         refine SE (⟨x10.At,y8⟩:Equation) hx10 ?_
         refine AL.nil ?_
         refine AW.seq (AW.regL ?_)
         refine V rfl ?_
         refine SB ?_
         refine AL.nil ?_
         refine AW.ret ?_
         refine endA.gh (GH.inn' 3 y3.toNat 4 5 (q1w (q1G hx9))) ?_
         refine endA.gh (GH.ees 3 (he:=eset (f:=Rule.O) (x':=(⟨x9.Name,x9.Left,x9.Right,x9.Literal,(List.set x9.Equations 0 (⟨x10.At,y8⟩:Equation)),x9.Contributions⟩:Rule)) (by first | rfl | (simp only [List.set_set]; rfl)))) ?_
         refine endA.gh (GH.fzD 3 Rule.D (by exact fun _=>rfl) rfl) ?_
         cases hr
         exact endA.renK [(0,0),(2,1)] 2 hS
        ·refine AW.cF rfl (dF h10) ?_
         refine AW.skip ?_
         refine AW.seq (AW.regL ?_)
         refine V rfl ?_
         refine SB ?_
         refine AL.nil ?_
         refine AW.ret ?_
         refine endA.gh (GH.inn' 3 y3.toNat 4 5 (q1w (q1G hx9))) ?_
         refine endA.gh (GH.ees 3 (he:=j3c (f:=Rule.O) hx9 (by first | rfl | (simp only [List.set_set]; rfl)))) ?_
         refine endA.gh (GH.fzD 3 Rule.D (by exact fun _=>rfl) rfl) ?_
         cases hr
         exact endA.renK [(0,0),(2,1)] 2 hS
       ·refine AW.cF rfl (dF h9) ?_
        refine AW.skip ?_
        refine AW.seq (AW.regL ?_)
        refine V rfl ?_
        refine SB ?_
        refine AL.nil ?_
        refine AW.ret ?_
        refine endA.gh (GH.fzD 3 Rule.D (by exact fun _=>rfl) rfl) ?_
        cases hr
        exact endA.renK [(0,0),(2,1)] 2 hS
def q7x (a0:(List UInt8)):Option (Grammar × Rule):=
 (q8M a0).bind fun y1=>
 (q7w y1).bind fun (y2,z1)=>
 (q1L 8 (⟨y1.b,z1.i,z1.h⟩:l1Cur)).bind fun (y3,z2)=>
 if y3=true then (
 (q7v (⟨y1.b,z2.i,z2.h⟩:l1Cur)).bind fun (y4,z3)=>
 some (y2,y4)
 ) else (
 (q1p (y2.Rules.length:Int) (⟨y1.b,z2.i,z2.h⟩:l1Cur)).bind fun (y5,z4)=>
 grd (0≤y5) <|
 (y2.Rules[y5.toNat]?).bind fun x1=>
 some (y2,x1)
 )
theorem z6w {a0:(List UInt8)}{r:(Grammar × Rule)}(hr:q7x a0=some r):Ok Tryz.prog 20 [.d .fz (.sl 1 (a0.map byD))] [] (.tu [.ag [.ref 0 none,.d .fz (.sl 6 (r.1.Rules.map Rule.D))],Rule.x .fz r.2]) [.deep .fz 2 (r.1.Symbols.map Symbol.O) []]:=by
 refine Ok.enter rfl Tryz.func20 rfl rfl rfl fun S hS=>?_
 unfold q7x at hr
 refine AW.seq (AW.regL ?_)
 refine NV 0 ?_
 refine NV 1 ?_
 refine AL.nil ?_
 refine AW.seq (AW.regL ?_)
 refine V rfl ?_
 refine bdE hr fun y1 hy1 hr=>?_
 refine CB [(0,2)] [] (z9N hy1) ?_
 refine V rfl ?_
 refine AL.nil ?_
 refine AW.seq (AW.regL ?_)
 refine V rfl ?_
 refine bdE hr fun q1 hq1 hr=>?_
 obtain⟨y2,z1⟩:=q1
 refine CB [(0,2),(1,3)] [] (z6v hq1) ?_
 refine NV 4 ?_
 refine SB ?_
 refine AL.nil ?_
 refine AW.seq (AW.seq (AW.regL ?_))
 refine V rfl ?_
 refine bdE hr fun q2 hq2 hr=>?_
 obtain⟨y3,z2⟩:=q2
 refine CB [(0,2)] [] (q1W hq2) ?_
 refine AL.nil ?_
 refine ifE hr (fun h1 hr=>?_) fun h1 hr=>?_
 ·refine AW.cT rfl h1 ?_
  refine AW.seq (AW.drawL (h:=?_))
  iterate 2 refine V rfl ?_
  refine bdE hr fun q3 hq3 hr=>?_
  obtain⟨y4,z3⟩:=q3
  refine CB [(0,2),(1,5),(2,6),(3,7)] [] (z3d hq3) ?_
  refine SB ?_
  refine SB ?_
  refine AL.nil ?_
  refine AW.ret ?_
  refine endA.gh (GH.freeze (r:=5) rfl) ?_
  refine endA.gh (GH.freeze (r:=6) rfl) ?_
  refine endA.gh (GH.freeze (r:=7) rfl) ?_
  cases hr
  exact endA.renK [(3,0)] 1 hS
 ·refine AW.cF rfl (bF h1) ?_
  refine AW.skip ?_
  refine AW.seq (AW.drawL (h:=?_))
  iterate 6 refine V rfl ?_
  refine LF ?_
  refine bdE hr fun q4 hq4 hr=>?_
  obtain⟨y5,z4⟩:=q4
  refine CB [(0,2)] [] (q1q hq4) ?_
  refine ggE hr fun g1 hr=>?_
  refine bdE hr fun x1 hx1 hr=>?_
  refine IF g1 hx1 ?_
  refine V rfl ?_
  refine SB ?_
  refine SB ?_
  refine AL.nil ?_
  refine AW.ret ?_
  cases hr
  exact endA.renK [(3,0)] 1 hS
def q3f (a0:(List UInt8)):Option (Grammar × Rule):=
 (q7x a0).bind fun (y1,y2)=>
 some (y1,y2)
theorem q8q {a0:(List UInt8)}{r:(Grammar × Rule)}(hr:q3f a0=some r):Ok Tryz.prog 5 [.d .fz (.sl 1 (a0.map byD))] [] (.tu [.ag [.ref 0 none,.d .fz (.sl 6 (r.1.Rules.map Rule.D))],Rule.x .fz r.2]) [.deep .fz 2 (r.1.Symbols.map Symbol.O) []]:=by
 refine Ok.enter rfl Tryz.func5 rfl rfl rfl fun S hS=>?_
 unfold q3f at hr
 refine AW.seq (AW.regL ?_)
 refine NV 0 ?_
 refine NV 1 ?_
 refine AL.nil ?_
 refine AW.seq (AW.regL ?_)
 refine V rfl ?_
 refine bdE hr fun q1 hq1 hr=>?_
 obtain⟨y1,y2⟩:=q1
 refine CB [(0,2)] [] (z6w hq1) ?_
 iterate 2 refine V rfl ?_
 refine SB ?_
 refine SB ?_
 refine AL.nil ?_
 refine AW.ret ?_
 cases hr
 exact endA.renK [(2,0)] 1 hS
def q3v (a0:Int)(a1:Int)(a2:Int):Option Bool:=
 if a1≤a0 then (
 some (decide (a0≤a2))
 ) else (
 some false
 )
theorem q4W {a0:Int}{a1:Int}{a2:Int}{r:Bool}(hr:q3v a0 a1 a2=some r):Ok Tryz.prog 38 [.d .fz (.i .i64 a0),.d .fz (.i .i64 a1),.d .fz (.i .i64 a2)] [] (.d .fz (.b r)) []:=by
 refine Ok.enter rfl Tryz.func38 rfl rfl rfl fun S hS=>?_
 unfold q3v at hr
 refine AW.seq (AW.regL ?_)
 refine V rfl ?_
 refine AL.nil ?_
 refine AW.seq (AW.regL ?_)
 iterate 3 refine V rfl ?_
 refine ifE hr (fun h1 hr=>?_) fun h1 hr=>?_
 ·refine VT rfl (dT h1) ?_
  iterate 5 refine V rfl ?_
  refine AL.nil ?_
  refine AW.ret ?_
  cases hr
  exact endA.renK [] 0 hS
 ·refine VF rfl (dF h1) ?_
  refine AL.off ?_
  refine AL.off ?_
  refine AL.off ?_
  iterate 2 refine V rfl ?_
  refine AL.nil ?_
  refine AW.ret ?_
  cases hr
  exact endA.renK [] 0 hS
def q4g (a0:Rule)(a1:Int):Option ByteArray:=
 if a1=0 then (
 some a0.Left
 ) else (
 (q3v a1 1 (a0.Right.length:Int)).bind fun y1=>
 if y1=true then (
 grd (I64 (a1 - 1)) <|
 grd (0≤(a1 - 1)) <|
 (a0.Right[(a1 - 1).toNat]?).bind fun x1=>
 some x1
 ) else (
 some (⟨#[]⟩:ByteArray)
 )
 )
theorem z5k {m:Md}{a0:Rule}{a1:Int}{r:ByteArray}(hr:q4g a0 a1=some r):Ok Tryz.prog 26 [Rule.x m a0,.d .fz (.i .i64 a1)] [] (.d .fz (.s r)) []:=by
 refine Ok.enter rfl Tryz.func26 rfl rfl rfl fun S hS=>?_
 unfold q4g at hr
 refine AW.seq (AW.regL ?_)
 refine BX 0 ?_
 refine V rfl ?_
 refine AL.nil ?_
 refine AW.seq (AW.block (AW.seq (AW.regL ?_)))
 iterate 3 refine V rfl ?_
 refine AL.nil ?_
 refine ifE hr (fun h1 hr=>?_) fun h1 hr=>?_
 ·refine AW.cT rfl (dT h1) ?_
  refine AW.seq (AW.regL ?_)
  iterate 3 refine V rfl ?_
  refine AL.nil ?_
  refine AW.ret ?_
  cases hr
  exact endA.renK [] 0 hS
 ·refine AW.cF rfl (dF h1) ?_
  refine AW.seq (AW.regL ?_)
  iterate 3 refine V rfl ?_
  refine LF ?_
  refine bdE hr fun y1 hy1 hr=>?_
  refine CB [] [] (q4W hy1) ?_
  refine V rfl ?_
  refine AL.nil ?_
  refine ifE hr (fun h2 hr=>?_) fun h2 hr=>?_
  ·refine AW.cT rfl h2 ?_
   refine AW.seq (AW.regL ?_)
   iterate 3 refine V rfl ?_
   refine ggE hr fun g1 hr=>?_
   refine OB _ (bSub g1) ?_
   refine ggE hr fun g2 hr=>?_
   refine bdE hr fun x1 hx1 hr=>?_
   refine IF g2 hx1 ?_
   iterate 2 refine V rfl ?_
   refine AL.nil ?_
   refine AW.ret ?_
   cases hr
   exact endA.renK [] 0 hS
  ·refine AW.cF rfl (bF h2) ?_
   refine AW.skip ?_
   refine AW.seq (AW.regL ?_)
   refine V rfl ?_
   refine AL.nil ?_
   refine AW.ret ?_
   cases hr
   exact endA.renK [] 0 hS
def q4M (a1:ByteArray):Nat→Symbol→Unit→Option (Unit ⊕ (Symbol × Bool)):=fun k1 xk1 _=>
 if xk1.Name=a1 then (
 some (.inr (xk1,true))
 ) else (
 some (.inl ())
 )
def q2U (a0:Grammar)(a1:ByteArray):Option (Symbol × Bool):=
 (findL (q4M a1) 0 a0.Symbols ()).bind <| onr (fun r1=>some r1) fun _=>
 some ((⟨(⟨#[]⟩:ByteArray),[]⟩:Symbol),false)
theorem z2x {m:Md}{a0:Grammar}{a1:ByteArray}{r:(Symbol × Bool)}(hr:q2U a0 a1=some r):Ok Tryz.prog 33 [Grammar.y m a0,.d .fz (.s a1)] [] (.tu [Symbol.x m r.1,.d .fz (.b r.2)]) []:=by
 refine Ok.enter rfl Tryz.func33 rfl rfl rfl fun S hS=>?_
 unfold q2U at hr
 refine AW.seq (AW.regL ?_)
 refine BX 0 ?_
 refine NV 1 ?_
 refine V rfl ?_
 refine AL.nil ?_
 refine AW.seq (AW.seq (AW.regL ?_))
 iterate 2 refine V rfl ?_
 refine LF ?_
 refine V rfl ?_
 refine AL.nil ?_
 refine AW.block ?_
 refine AW.len (.ag 0 (.tmp 0 rfl) rfl) fun hl1=>?_
 refine bdE hr fun q1 hqq1 hr=>?_
 refine AW.findL hqq1 hl1 2 (fun k1 _=>[(1,.d .fz (.s a1)),(4,.pb 1 0),(9,.d m (.sl 2 (a0.Symbols.map Symbol.D))),(10,.d .fz (.i .i64 (a0.Symbols.length:Int))),(11,.d .fz (.i .i64 (k1:Int)))]) (fun k1 _=>[]) (GH.trans (GH.bw (q:=0) [.d m (.sl 2 (a0.Symbols.map Symbol.D)),.u] (.cons .rfl (.cons .u .nil)) rfl) (GH.renK hS [(0,0),(1,1)] 2)) (fun k1 xk1 sk1 ok1 hxk1 hr hltk1 hik1=>?_) fun k1 sk1 ek1 hltk1=>?_
 ·refine AW.seq (AW.regL ?_)
  refine V rfl ?_
  refine AL.nil ?_
  refine AW.seq (AW.cT rfl (dT hltk1) ?_)
  refine AW.skip ?_
  refine AW.seq (AW.block (AW.seq (AW.regL ?_)))
  refine IF (Int.natCast_nonneg _) hxk1 ?_
  refine V rfl ?_
  refine NV 2 ?_
  refine SB ?_
  refine AL.nil ?_
  refine AW.seq (AW.regL ?_)
  iterate 4 refine V rfl ?_
  refine AL.nil ?_
  refine ifE hr (fun h1 hr=>?_) fun h1 hr=>?_
  ·refine AW.cT rfl (dT h1) ?_
   refine AW.seq (AW.regL ?_)
   refine V rfl ?_
   refine SB ?_
   refine V rfl ?_
   refine AL.nil ?_
   refine AW.ret ?_
   cases hr
   cases hik1 _ rfl
   rename_i hr
   cases hr
   exact endA.renK [] 0 hS
  ·refine AW.cF rfl (dF h1) ?_
   refine AW.skip ?_
   refine AW.regL ?_
   refine OB _ (q2b (p:=k1) (q:=1) (q1o hltk1 hl1)) ?_
   refine V rfl ?_
   refine AL.nil ?_
   cases hr
   exact⟨_,rfl,GH.trans (GH.bw (q:=0) [.d m (.sl 2 (a0.Symbols.map Symbol.D)),.u] (.cons .rfl (.cons .u .nil)) rfl) (GH.renK hS [(0,0),(1,1)] 2)⟩
 ·subst ek1
  refine AW.seq (AW.regL ?_)
  refine V rfl ?_
  refine AL.nil ?_
  refine AW.seq (AW.cF rfl (dF hltk1) ?_)
  refine AW.exit ?_
  refine AW.seq (AW.regL ?_)
  refine V rfl ?_
  refine SB ?_
  refine V rfl ?_
  refine AL.nil ?_
  refine AW.ret ?_
  cases hr
  exact endA.ren [] 0 (.inr rfl) hS rfl rfl rfl (.tu (.cons (.ag (.cons .rfl (.cons .nld .nil))) (.cons .rfl .nil))) rfl rfl
def q6F:Nat→Attribute→((List Attribute))→Option ((List Attribute)):=fun k1 xk1 s1=>
 (
 if xk1.Mode=1 then (
 grd (((s1.length:Int)+1)*40≤140737488355328∧(s1.length:Int)+1≤9223372036854775807) <|
 some (s1++[xk1])
 ) else (
 if xk1.Mode=2 then (
 grd (((s1.length:Int)+1)*40≤140737488355328∧(s1.length:Int)+1≤9223372036854775807) <|
 some (s1++[xk1])
 ) else (
 some s1
 )
 )
 ).bind fun s2=>
 some s2
def q2h (a0:Grammar)(a1:ByteArray):Option (List Attribute):=
 (q2U a0 a1).bind fun (y1,y2)=>
 (eachL q6F 0 y1.Attributes ([]:List Attribute)).bind fun s1=>
 some s1
theorem q6G {m:Md}{a0:Grammar}{a1:ByteArray}{r:(List Attribute)}(hr:q2h a0 a1=some r):Ok Tryz.prog 14 [Grammar.y m a0,.d .fz (.s a1)] [] (.ref 0 none) [.row .fz 4 (r.map Attribute.D)]:=by
 refine Ok.enter rfl Tryz.func14 rfl rfl rfl fun S hS=>?_
 unfold q2h at hr
 refine AW.seq (AW.regL ?_)
 refine BX 0 ?_
 refine V rfl ?_
 refine AL.nil ?_
 refine AW.seq (AW.regL ?_)
 refine L0 1 Attribute.D ?_
 refine V rfl ?_
 refine AL.nil ?_
 refine AW.seq (AW.regL ?_)
 iterate 2 refine V rfl ?_
 refine bdE hr fun q1 hq1 hr=>?_
 obtain⟨y1,y2⟩:=q1
 refine CB [] [] (z2x (m:=m) hq1) ?_
 iterate 3 refine V rfl ?_
 refine NV 2 ?_
 refine SB ?_
 refine V rfl ?_
 refine AL.nil ?_
 refine AW.seq (AW.seq (AW.regL ?_))
 iterate 2 refine V rfl ?_
 refine LF ?_
 refine V rfl ?_
 refine AL.nil ?_
 refine AW.block ?_
 refine AW.len (.ag 1 (.tu 0 (.tmp 11 rfl) rfl) rfl) fun hl1=>?_
 refine bdE hr fun s1 hqq2 hr=>?_
 refine AW.eachL hqq2 hl1 3 (fun k1 s1=>[(5,.ref 1 none),(18,.d m (.sl 4 (y1.Attributes.map Attribute.D))),(19,.d .fz (.i .i64 (y1.Attributes.length:Int))),(20,.d .fz (.i .i64 (k1:Int)))]) (fun k1 s1=>[(1,.row .fz 4 (s1.map Attribute.D))]) (GH.trans (GH.bw (q:=0) [.d m (.sl 2 (a0.Symbols.map Symbol.D)),.u] (.cons .rfl (.cons .u .nil)) rfl) (GH.renK hS [(0,0),(1,1),(2,2)] 3)) (fun k1 xk1 sk1 ok1 hxk1 hr hltk1=>?_) fun k1 hltk1=>?_
 ·obtain⟨s1,rfl⟩:∃ y,y=sk1:=⟨_,rfl⟩
  refine AW.seq (AW.regL ?_)
  refine V rfl ?_
  refine AL.nil ?_
  refine AW.seq (AW.cT rfl (dT hltk1) ?_)
  refine AW.skip ?_
  refine bdE hr fun s2 hqq3 hr=>?_
  refine AW.seq (AW.cut1 3 [(5,.ref 1 none),(18,.d m (.sl 4 (y1.Attributes.map Attribute.D))),(19,.d .fz (.i .i64 (y1.Attributes.length:Int))),(20,.d .fz (.i .i64 (k1:Int)))] [(1,.row .fz 4 (s2.map Attribute.D))] ?_ ?_)
  ·replace hr:=hqq3
   refine AW.block (AW.seq (AW.regL ?_))
   refine IF (Int.natCast_nonneg _) hxk1 ?_
   refine V rfl ?_
   refine NV 3 ?_
   refine SB ?_
   refine AL.nil ?_
   refine AW.seq (AW.regL ?_)
   iterate 3 refine V rfl ?_
   refine ifE hr (fun h1 hr=>?_) fun h1 hr=>?_
   ·refine VT rfl (dT h1) ?_
    refine AL.off ?_
    refine AL.off ?_
    refine AL.off ?_
    refine V rfl ?_
    refine AL.nil ?_
    refine AW.cT rfl rfl ?_
    refine AW.regL ?_
    iterate 2 refine V rfl ?_
    refine LIR 4 (m:=.fz) (f:=Attribute.D) (xs:=[xk1]) ?_
    refine ggE hr fun g1 hr=>?_
    refine APf1 (f:=Attribute.D) 5 (fun _=>rfl) 40 g1 ?_
    refine V rfl ?_
    refine AL.nil ?_
    cases hr
    exact GH.trans (GH.bw (q:=0) [.d m (.sl 2 (a0.Symbols.map Symbol.D)),.u] (.cons .rfl (.cons .u .nil)) rfl) (GH.renK hS [(0,0),(5,1),(2,2)] 3)
   ·refine VF rfl (dF h1) ?_
    iterate 4 refine V rfl ?_
    refine AL.nil ?_
    refine ifE hr (fun h2 hr=>?_) fun h2 hr=>?_
    ·refine AW.cT rfl (dT h2) ?_
     refine AW.regL ?_
     iterate 2 refine V rfl ?_
     refine LIR 4 (m:=.fz) (f:=Attribute.D) (xs:=[xk1]) ?_
     refine ggE hr fun g2 hr=>?_
     refine APf1 (f:=Attribute.D) 5 (fun _=>rfl) 40 g2 ?_
     refine V rfl ?_
     refine AL.nil ?_
     cases hr
     exact GH.trans (GH.bw (q:=0) [.d m (.sl 2 (a0.Symbols.map Symbol.D)),.u] (.cons .rfl (.cons .u .nil)) rfl) (GH.renK hS [(0,0),(5,1),(2,2)] 3)
    ·refine AW.cF rfl (dF h2) ?_
     refine AW.skip ?_
     cases hr
     exact GH.trans (GH.bw (q:=0) [.d m (.sl 2 (a0.Symbols.map Symbol.D)),.u] (.cons .rfl (.cons .u .nil)) rfl) (GH.renK hS [(0,0),(1,1),(2,2)] 3)
  ·refine AW.regL ?_
   refine OB _ (q2b (p:=k1) (q:=1) (q1o hltk1 hl1)) ?_
   refine V rfl ?_
   refine AL.nil ?_
   cases hr
   exact GH.trans (GH.bw (q:=0) [.d m (.sl 2 (a0.Symbols.map Symbol.D)),.u] (.cons .rfl (.cons .u .nil)) rfl) (GH.renK hS [(0,0),(1,1),(2,2)] 3)
 ·refine AW.seq (AW.regL ?_)
  refine V rfl ?_
  refine AL.nil ?_
  refine AW.seq (AW.cF rfl (dF hltk1) ?_)
  refine AW.exit ?_
  refine AW.seq (AW.regL ?_)
  iterate 2 refine V rfl ?_
  refine AL.nil ?_
  refine AW.ret ?_
  cases hr
  exact endA.renK [(1,0)] 1 hS
end Go.Proofs.YtiojgbiimbefiacGreat
