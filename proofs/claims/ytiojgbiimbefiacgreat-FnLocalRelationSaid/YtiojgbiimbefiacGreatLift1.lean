/- What some functions of the program compute, as partial functions on plain data, and that they do; each lemma bears its conditions in its statement. -/
import Derived.Test.YtiojgbiimbefiacGreatAb6
set_option linter.unusedVariables false
set_option linter.unusedSimpArgs false
set_option linter.ambiguousOpen false
set_option linter.unusedSectionVars false
set_option linter.unnecessarySimpa false
set_option maxRecDepth 100000
set_option maxHeartbeats 40000000
noncomputable section
namespace Go.Proofs.YtiojgbiimbefiacGreat
open Go Go.E Go.A
def z7H (a0:(List UInt8)):Option Bool:=
 some (decide (1048576 < (a0.length:Int)))
theorem j3l {a0:(List UInt8)}{r:Bool}(hr:z7H a0=some r):Ok Tryz.prog 4 [.d .fz (.sl 1 (a0.map byD))] [] (.d .fz (.b r)) []:=by
 refine Ok.enter rfl Tryz.func4 rfl rfl rfl fun S hS=>?_
 unfold z7H at hr
 refine AW.seq (AW.regL ?_)
 refine V rfl ?_
 refine AL.nil ?_
 refine AW.seq (AW.regL ?_)
 refine V rfl ?_
 refine LF ?_
 iterate 2 refine V rfl ?_
 refine AL.nil ?_
 refine AW.ret ?_
 cases hr
 exact endA.renK [] 0 hS
def q7n (a0:(List UInt8)):(Int × Int)→Option ((Int × Int) ⊕ Int):=fun (s2,s3)=>
 if s3 < (a0.length:Int) then (
 if s3 < 4000 then (
 grd (0≤s3) <|
 (a0[s3.toNat]?).bind fun x1=>
 some (.inl ((z0g (IntKind.i64.wrap ((IntKind.i64.wrap ((IntKind.i64.wrap (s2*131))+(x1.toNat:Int)))+7)) 1073741823),(IntKind.i64.wrap (s3+1))))
 ) else (
 some (.inr s2)
 )
 ) else (
 some (.inr s2)
 )
def q8M (a0:(List UInt8)):Option l1Cur:=
 (q2t (q7n a0) ((IntKind.i64.wrap (26583+(a0.length:Int))),0)).bind fun s1=>
 some (⟨a0,0,s1⟩:l1Cur)
theorem z9N {a0:(List UInt8)}{r:l1Cur}(hr:q8M a0=some r):Ok Tryz.prog 39 [.d .fz (.sl 1 (a0.map byD))] [] (.pb 0 0) [.box [.d .fz (.sl 1 (r.b.map byD)),.d .fz (.i .i64 r.i),.d .fz (.i .i64 r.h)]]:=by
 refine Ok.enter rfl Tryz.func39 rfl rfl rfl fun S hS=>?_
 unfold q8M at hr
 refine AW.seq (AW.regL ?_)
 refine V rfl ?_
 refine AL.nil ?_
 refine AW.seq (AW.regL ?_)
 refine V rfl ?_
 refine LF ?_
 refine OB _ z6j ?_
 refine V rfl ?_
 refine AL.nil ?_
 refine AW.seq (AW.seq (AW.regL ?_))
 refine V rfl ?_
 refine AL.nil ?_
 refine bdE hr fun s1 hqq1 hr=>?_
 refine AW.cut1 0 [(0,.d .fz (.sl 1 (a0.map byD))),(3,.d .fz (.i .i64 s1))] [] ?_ ?_
 ·refine AW.block (AW.iter hqq1 0 (fun (s2,s3)=>[(0,.d .fz (.sl 1 (a0.map byD))),(3,.d .fz (.i .i64 s2)),(4,.d .fz (.i .i64 s3))]) (fun (s2,s3)=>[]) (GH.renK hS [] 0) fun sk1 ok1 hr hik1=>?_)
  obtain⟨s2,s3⟩:=sk1
  have hr:=hr
  refine AW.seq (AW.seq (AW.regL ?_))
  iterate 2 refine V rfl ?_
  refine LF ?_
  refine V rfl ?_
  refine ifE hr (fun h1 hr=>?_) fun h1 hr=>?_
  ·refine VT rfl (dT h1) ?_
   iterate 3 refine V rfl ?_
   refine AL.nil ?_
   refine ifE hr (fun h2 hr=>?_) fun h2 hr=>?_
   ·refine AW.cT rfl (dT h2) ?_
    refine AW.skip ?_
    refine AW.seq (AW.block (AW.regL ?_))
    refine V rfl ?_
    refine OB _ j4i ?_
    iterate 2 refine V rfl ?_
    refine ggE hr fun g1 hr=>?_
    refine bdE hr fun x1 hx1 hr=>?_
    refine IF g1 hx1 ?_
    refine V rfl ?_
    refine CUB rfl ?_
    refine OB _ z6j ?_
    refine OB _ z6j ?_
    refine OB _ j1k ?_
    refine V rfl ?_
    refine AL.nil ?_
    refine AW.regL ?_
    refine V rfl ?_
    refine OB _ z6j ?_
    refine V rfl ?_
    refine AL.nil ?_
    cases hr
    exact⟨_,rfl,GH.renK hS [] 0⟩
   ·refine AW.cF rfl (dF h2) ?_
    refine AW.exit ?_
    cases hr
    cases hik1 _ rfl
    exact GH.renK hS [] 0
  ·refine VF rfl (dF h1) ?_
   refine AL.off ?_
   refine AL.off ?_
   refine V rfl ?_
   refine AL.nil ?_
   refine AW.cF rfl rfl ?_
   refine AW.exit ?_
   cases hr
   cases hik1 _ rfl
   exact GH.renK hS [] 0
 ·refine AW.seq (AW.regL ?_)
  iterate 3 refine V rfl ?_
  refine BX 0 ?_
  refine V rfl ?_
  refine AL.nil ?_
  refine AW.ret ?_
  cases hr
  exact endA.renK [(0,0)] 1 hS
def q5h (o0:l1Cur):Option (Int × l1Cur):=
 if o0.i < (o0.b.length:Int) then (
 grd (0≤o0.i) <|
 (o0.b[o0.i.toNat]?).bind fun x1=>
 some ((z0g (IntKind.i64.wrap ((z0g (z9l (z2s (IntKind.i64.wrap ((IntKind.i64.wrap (o0.h*6364136223846793005))+1442695040888963407)) 33) (z2s (IntKind.i64.wrap ((IntKind.i64.wrap (o0.h*6364136223846793005))+1442695040888963407)) 45)) 255)+(x1.toNat:Int))) 255),(⟨o0.b,(IntKind.i64.wrap (o0.i+1)),(IntKind.i64.wrap ((IntKind.i64.wrap (o0.h*6364136223846793005))+1442695040888963407))⟩:l1Cur))
 ) else (
 some ((z0g (z9l (z2s (IntKind.i64.wrap ((IntKind.i64.wrap (o0.h*6364136223846793005))+1442695040888963407)) 33) (z2s (IntKind.i64.wrap ((IntKind.i64.wrap (o0.h*6364136223846793005))+1442695040888963407)) 45)) 255),(⟨o0.b,o0.i,(IntKind.i64.wrap ((IntKind.i64.wrap (o0.h*6364136223846793005))+1442695040888963407))⟩:l1Cur))
 )
theorem q7o {o0:l1Cur}{r:(Int × l1Cur)}(hr:q5h o0=some r):Ok Tryz.prog 67 [.pb 0 0] [.box [.d .fz (.sl 1 (o0.b.map byD)),.d .fz (.i .i64 o0.i),.d .fz (.i .i64 o0.h)]] (.d .fz (.i .i64 r.1)) [.box [.d .fz (.sl 1 (o0.b.map byD)),.d .fz (.i .i64 r.2.i),.d .fz (.i .i64 r.2.h)]]:=by
 refine Ok.enter rfl Tryz.func67 rfl rfl rfl fun S hS=>?_
 unfold q5h at hr
 refine AW.seq (AW.regL ?_)
 refine V rfl ?_
 refine AL.nil ?_
 refine AW.seq (AW.regL ?_)
 iterate 5 refine V rfl ?_
 refine OB _ j4i ?_
 refine OB _ z6j ?_
 iterate 2 refine V rfl ?_
 refine SB ?_
 refine AL.nil ?_
 refine AW.seq (AW.drawL (h:=?_))
 iterate 4 refine V rfl ?_
 refine OB _ (j4j (b:=33) (by decide)) ?_
 iterate 4 refine V rfl ?_
 refine OB _ (j4j (b:=45) (by decide)) ?_
 refine OB _ j4L ?_
 refine OB _ j1k ?_
 refine V rfl ?_
 refine AL.nil ?_
 refine AW.seq (AW.seq (AW.drawL (h:=?_)))
 iterate 8 refine V rfl ?_
 refine LF ?_
 refine V rfl ?_
 refine AL.nil ?_
 refine ifE hr (fun h1 hr=>?_) fun h1 hr=>?_
 ·refine AW.cT rfl (dT h1) ?_
  refine AW.seq (AW.drawL (h:=?_))
  iterate 9 refine V rfl ?_
  refine ggE hr fun g1 hr=>?_
  refine bdE hr fun x1 hx1 hr=>?_
  refine IF g1 hx1 ?_
  refine V rfl ?_
  refine CUB rfl ?_
  refine OB _ z6j ?_
  refine OB _ j1k ?_
  refine AL.gh .refl ?_
  refine V rfl ?_
  refine AL.nil ?_
  refine AW.regL ?_
  iterate 5 refine V rfl ?_
  refine OB _ z6j ?_
  iterate 2 refine V rfl ?_
  refine SB ?_
  refine AL.nil ?_
  refine AW.seq (AW.regL ?_)
  iterate 2 refine V rfl ?_
  refine AL.nil ?_
  refine AW.ret ?_
  cases hr
  exact endA.renK [(0,0)] 1 hS
 ·refine AW.cF rfl (dF h1) ?_
  refine AW.skip ?_
  refine AW.seq (AW.regL ?_)
  iterate 2 refine V rfl ?_
  refine AL.nil ?_
  refine AW.ret ?_
  cases hr
  exact endA.renK [(0,0)] 1 hS
def q1p (a1:Int)(o0:l1Cur):Option (Int × l1Cur):=
 if a1≤0 then (
 some (0,o0)
 ) else (
 if a1≤256 then (
 (q5h o0).bind fun (y1,z1)=>
 grd (a1≠0) <|
 some ((y1.tmod a1),(⟨o0.b,z1.i,z1.h⟩:l1Cur))
 ) else (
 (q5h o0).bind fun (y2,z2)=>
 (q5h (⟨o0.b,z2.i,z2.h⟩:l1Cur)).bind fun (y3,z3)=>
 (q5h (⟨o0.b,z3.i,z3.h⟩:l1Cur)).bind fun (y4,z4)=>
 (q5h (⟨o0.b,z4.i,z4.h⟩:l1Cur)).bind fun (y5,z5)=>
 grd (I64 (y2*16777216)) <|
 grd (I64 (y3*65536)) <|
 grd (I64 ((y2*16777216)+(y3*65536))) <|
 grd (I64 (y4*256)) <|
 grd (I64 (((y2*16777216)+(y3*65536))+(y4*256))) <|
 grd (I64 ((((y2*16777216)+(y3*65536))+(y4*256))+y5)) <|
 grd (a1≠0) <|
 some ((((((y2*16777216)+(y3*65536))+(y4*256))+y5).tmod a1),(⟨o0.b,z5.i,z5.h⟩:l1Cur))
 )
 )
theorem q1q {a1:Int}{o0:l1Cur}{r:(Int × l1Cur)}(hr:q1p a1 o0=some r):Ok Tryz.prog 43 [.pb 0 0,.d .fz (.i .i64 a1)] [.box [.d .fz (.sl 1 (o0.b.map byD)),.d .fz (.i .i64 o0.i),.d .fz (.i .i64 o0.h)]] (.d .fz (.i .i64 r.1)) [.box [.d .fz (.sl 1 (o0.b.map byD)),.d .fz (.i .i64 r.2.i),.d .fz (.i .i64 r.2.h)]]:=by
 refine Ok.enter rfl Tryz.func43 rfl rfl rfl fun S hS=>?_
 unfold q1p at hr
 refine AW.seq (AW.regL ?_)
 refine V rfl ?_
 refine AL.nil ?_
 refine AW.seq (AW.seq (AW.regL ?_))
 iterate 2 refine V rfl ?_
 refine AL.nil ?_
 refine ifE hr (fun h1 hr=>?_) fun h1 hr=>?_
 ·refine AW.cT rfl (dT h1) ?_
  refine AW.seq (AW.regL ?_)
  refine V rfl ?_
  refine AL.nil ?_
  refine AW.ret ?_
  cases hr
  exact endA.renK [(0,0)] 1 hS
 ·refine AW.cF rfl (dF h1) ?_
  refine AW.skip ?_
  refine AW.seq (AW.seq (AW.regL ?_))
  iterate 2 refine V rfl ?_
  refine AL.nil ?_
  refine ifE hr (fun h2 hr=>?_) fun h2 hr=>?_
  ·refine AW.cT rfl (dT h2) ?_
   refine AW.seq (AW.regL ?_)
   refine V rfl ?_
   refine bdE hr fun q1 hq1 hr=>?_
   obtain⟨y1,z1⟩:=q1
   refine CB [(0,0)] [] (q7o hq1) ?_
   refine V rfl ?_
   refine ggE hr fun g1 hr=>?_
   refine OB _ (bRem (b:=a1) g1) ?_
   refine V rfl ?_
   refine AL.nil ?_
   refine AW.ret ?_
   cases hr
   exact endA.renK [(0,0)] 1 hS
  ·refine AW.cF rfl (dF h2) ?_
   refine AW.skip ?_
   refine AW.seq (AW.regL ?_)
   refine V rfl ?_
   refine bdE hr fun q2 hq2 hr=>?_
   obtain⟨y2,z2⟩:=q2
   refine CB [(0,0)] [] (q7o hq2) ?_
   refine V rfl ?_
   refine AL.nil ?_
   refine AW.seq (AW.regL ?_)
   refine V rfl ?_
   refine bdE hr fun q3 hq3 hr=>?_
   obtain⟨y3,z3⟩:=q3
   refine CB [(0,0)] [] (q7o hq3) ?_
   refine V rfl ?_
   refine AL.nil ?_
   refine AW.seq (AW.regL ?_)
   refine V rfl ?_
   refine bdE hr fun q4 hq4 hr=>?_
   obtain⟨y4,z4⟩:=q4
   refine CB [(0,0)] [] (q7o hq4) ?_
   refine V rfl ?_
   refine AL.nil ?_
   refine AW.seq (AW.regL ?_)
   refine V rfl ?_
   refine bdE hr fun q5 hq5 hr=>?_
   obtain⟨y5,z5⟩:=q5
   refine CB [(0,0)] [] (q7o hq5) ?_
   refine V rfl ?_
   refine AL.nil ?_
   refine AW.seq (AW.regL ?_)
   refine V rfl ?_
   refine ggE hr fun g2 hr=>?_
   refine OB _ (bMul g2) ?_
   refine V rfl ?_
   refine ggE hr fun g3 hr=>?_
   refine OB _ (bMul g3) ?_
   refine ggE hr fun g4 hr=>?_
   refine OB _ (bAdd g4) ?_
   refine V rfl ?_
   refine ggE hr fun g5 hr=>?_
   refine OB _ (bMul g5) ?_
   refine ggE hr fun g6 hr=>?_
   refine OB _ (bAdd g6) ?_
   refine V rfl ?_
   refine ggE hr fun g7 hr=>?_
   refine OB _ (bAdd g7) ?_
   refine V rfl ?_
   refine ggE hr fun g8 hr=>?_
   refine OB _ (bRem (b:=a1) g8) ?_
   refine V rfl ?_
   refine AL.nil ?_
   refine AW.ret ?_
   cases hr
   exact endA.renK [(0,0)] 1 hS
def q1L (a1:Int)(o0:l1Cur):Option (Bool × l1Cur):=
 (q1p a1 o0).bind fun (y1,z1)=>
 some (decide (y1=0),(⟨o0.b,z1.i,z1.h⟩:l1Cur))
theorem q1W {a1:Int}{o0:l1Cur}{r:(Bool × l1Cur)}(hr:q1L a1 o0=some r):Ok Tryz.prog 41 [.pb 0 0,.d .fz (.i .i64 a1)] [.box [.d .fz (.sl 1 (o0.b.map byD)),.d .fz (.i .i64 o0.i),.d .fz (.i .i64 o0.h)]] (.d .fz (.b r.1)) [.box [.d .fz (.sl 1 (o0.b.map byD)),.d .fz (.i .i64 r.2.i),.d .fz (.i .i64 r.2.h)]]:=by
 refine Ok.enter rfl Tryz.func41 rfl rfl rfl fun S hS=>?_
 unfold q1L at hr
 refine AW.seq (AW.regL ?_)
 refine V rfl ?_
 refine AL.nil ?_
 refine AW.seq (AW.regL ?_)
 iterate 2 refine V rfl ?_
 refine bdE hr fun q1 hq1 hr=>?_
 obtain⟨y1,z1⟩:=q1
 refine CB [(0,0)] [] (q1q hq1) ?_
 iterate 2 refine V rfl ?_
 refine AL.nil ?_
 refine AW.ret ?_
 cases hr
 exact endA.renK [(0,0)] 1 hS
def q1S (a1:(List Int))(o0:l1Cur):Option (Int × l1Cur):=
 (q1p (a1.length:Int) o0).bind fun (y1,z1)=>
 grd (0≤y1) <|
 (a1[y1.toNat]?).bind fun x1=>
 some (x1,(⟨o0.b,z1.i,z1.h⟩:l1Cur))
theorem q2v {m:Md}{a1:(List Int)}{o0:l1Cur}{r:(Int × l1Cur)}(hr:q1S a1 o0=some r):Ok Tryz.prog 94 [.pb 0 0,.d m (.sl 1 (a1.map (A.D.i .i64)))] [.box [.d .fz (.sl 1 (o0.b.map byD)),.d .fz (.i .i64 o0.i),.d .fz (.i .i64 o0.h)]] (.d .fz (.i .i64 r.1)) [.box [.d .fz (.sl 1 (o0.b.map byD)),.d .fz (.i .i64 r.2.i),.d .fz (.i .i64 r.2.h)]]:=by
 refine Ok.enter rfl Tryz.func94 rfl rfl rfl fun S hS=>?_
 unfold q1S at hr
 refine AW.seq (AW.regL ?_)
 refine V rfl ?_
 refine AL.nil ?_
 refine AW.seq (AW.regL ?_)
 iterate 3 refine V rfl ?_
 refine LF ?_
 refine bdE hr fun q1 hq1 hr=>?_
 obtain⟨y1,z1⟩:=q1
 refine CB [(0,0)] [] (q1q hq1) ?_
 refine ggE hr fun g1 hr=>?_
 refine bdE hr fun x1 hx1 hr=>?_
 refine IF g1 hx1 ?_
 iterate 2 refine V rfl ?_
 refine AL.nil ?_
 refine AW.ret ?_
 cases hr
 exact endA.renK [(0,0)] 1 hS
def z2V (a2:Bool)(a3:Bool)(o0:l1Cur):Nat→(Int × Int × (List Attribute))→Option (Int × Int × (List Attribute)):=fun k1 (s2,s3,s1)=>
 (
 ([(⟨#[97]⟩:ByteArray),(⟨#[98]⟩:ByteArray),(⟨#[99]⟩:ByteArray),(⟨#[100]⟩:ByteArray)][k1]?).bind fun x1=>
 (q1S ([1,1,2,2,3,4]:List Int) (⟨o0.b,s2,s3⟩:l1Cur)).bind fun (y2,z2)=>
 (q1S ([1,2,2,1,2,3]:List Int) (⟨o0.b,z2.i,z2.h⟩:l1Cur)).bind fun (y3,z3)=>
 if a3=true then (
 (q1S ([1,1,2,3]:List Int) (⟨o0.b,z3.i,z3.h⟩:l1Cur)).bind fun (y4,z4)=>
 (
 if a2=true then (
 some (decide (y3=1))
 ) else (
 some false
 )
 ).bind fun s7=>
 (
 if s7=true then (
 some true
 ) else (
 (
 if a3=true then (
 some (true,decide (y3=3))
 ) else (
 some (false,false)
 )
 ).bind fun (s9,s10)=>
 some s10
 )
 ).bind fun s8=>
 if s8=true then (
 if (2:Int)=3 then (
 grd (((s1.length:Int)+1)*40≤140737488355328∧(s1.length:Int)+1≤9223372036854775807) <|
 some ((s1++[(⟨x1,2,2,false⟩:Attribute)]),z4.i,z4.h)
 ) else (
 grd (((s1.length:Int)+1)*40≤140737488355328∧(s1.length:Int)+1≤9223372036854775807) <|
 some ((s1++[(⟨x1,y4,2,false⟩:Attribute)]),z4.i,z4.h)
 )
 ) else (
 if y3=3 then (
 grd (((s1.length:Int)+1)*40≤140737488355328∧(s1.length:Int)+1≤9223372036854775807) <|
 some ((s1++[(⟨x1,2,y3,false⟩:Attribute)]),z4.i,z4.h)
 ) else (
 grd (((s1.length:Int)+1)*40≤140737488355328∧(s1.length:Int)+1≤9223372036854775807) <|
 some ((s1++[(⟨x1,y4,y3,false⟩:Attribute)]),z4.i,z4.h)
 )
 )
 ) else (
 (
 if a2=true then (
 some (decide (y3=1))
 ) else (
 some false
 )
 ).bind fun s11=>
 (
 if s11=true then (
 some true
 ) else (
 (
 if a3=true then (
 some (true,decide (y3=3))
 ) else (
 some (false,false)
 )
 ).bind fun (s13,s14)=>
 some s14
 )
 ).bind fun s12=>
 if s12=true then (
 if (2:Int)=3 then (
 grd (((s1.length:Int)+1)*40≤140737488355328∧(s1.length:Int)+1≤9223372036854775807) <|
 some ((s1++[(⟨x1,2,2,false⟩:Attribute)]),z3.i,z3.h)
 ) else (
 grd (((s1.length:Int)+1)*40≤140737488355328∧(s1.length:Int)+1≤9223372036854775807) <|
 some ((s1++[(⟨x1,y2,2,false⟩:Attribute)]),z3.i,z3.h)
 )
 ) else (
 if y3=3 then (
 grd (((s1.length:Int)+1)*40≤140737488355328∧(s1.length:Int)+1≤9223372036854775807) <|
 some ((s1++[(⟨x1,2,y3,false⟩:Attribute)]),z3.i,z3.h)
 ) else (
 grd (((s1.length:Int)+1)*40≤140737488355328∧(s1.length:Int)+1≤9223372036854775807) <|
 some ((s1++[(⟨x1,y2,y3,false⟩:Attribute)]),z3.i,z3.h)
 )
 )
 )
 ).bind fun (s4,s5,s6)=>
 some (s5,s6,s4)
def q7p (a1:ByteArray)(a2:Bool)(a3:Bool)(o0:l1Cur):Option (Symbol × l1Cur):=
 (q1p 4 o0).bind fun (y1,z1)=>
 grd (I64 (1+y1)) <|
 (eachN (z2V a2 a3 o0) 0 (1+y1).toNat (z1.i,z1.h,([]:List Attribute))).bind fun (s2,s3,s1)=>
 some ((⟨a1,s1⟩:Symbol),(⟨o0.b,s2,s3⟩:l1Cur))
theorem z2W {a1:ByteArray}{a2:Bool}{a3:Bool}{o0:l1Cur}{r:(Symbol × l1Cur)}(hr:q7p a1 a2 a3 o0=some r):Ok Tryz.prog 85 [.pb 0 0,.d .fz (.s a1),.d .fz (.b a2),.d .fz (.b a3)] [.box [.d .fz (.sl 1 (o0.b.map byD)),.d .fz (.i .i64 o0.i),.d .fz (.i .i64 o0.h)]] (.ag [.d .fz (.s r.1.Name),.ref 1 none]) [.box [.d .fz (.sl 1 (o0.b.map byD)),.d .fz (.i .i64 r.2.i),.d .fz (.i .i64 r.2.h)],.row .fz 4 (r.1.Attributes.map Attribute.D)]:=by
 refine Ok.enter rfl Tryz.func85 rfl rfl rfl fun S hS=>?_
 unfold q7p at hr
 refine AW.seq (AW.regL ?_)
 refine NV 1 ?_
 refine AL.nil ?_
 refine AW.seq (AW.regL ?_)
 iterate 2 refine V rfl ?_
 refine NV 2 ?_
 refine SB ?_
 refine AL.nil ?_
 refine AW.seq (AW.regL ?_)
 refine V rfl ?_
 refine bdE hr fun q1 hq1 hr=>?_
 obtain⟨y1,z1⟩:=q1
 refine CB [(0,0)] [] (q1q hq1) ?_
 refine ggE hr fun g1 hr=>?_
 refine OB _ (bAdd g1) ?_
 refine V rfl ?_
 refine AL.nil ?_
 refine AW.seq (AW.seq (AW.regL ?_))
 refine V rfl ?_
 refine AL.nil ?_
 refine AW.block ?_
 refine AW.nlB 2 1 3 .fz 4 rfl rfl ?_
 refine AW.rng (.tmp 10 rfl) fun hl1=>?_
 refine bdE hr fun q2 hqq2 hr=>?_
 obtain⟨s2,s3,s1⟩:=q2
 refine AW.eachN hqq2 4 (fun k1 (s2,s3,s1)=>[(0,.pb 0 0),(2,.d .fz (.b a2)),(3,.d .fz (.b a3)),(8,.pb 1 0),(9,.pb 2 0),(10,.d .fz (.i .i64 (1+y1))),(11,.d .fz (.i .i64 (k1:Int)))]) (fun k1 (s2,s3,s1)=>[(0,.box [.d .fz (.sl 1 (o0.b.map byD)),.d .fz (.i .i64 s2),.d .fz (.i .i64 s3)]),(3,.row .fz 4 (s1.map Attribute.D))]) (GH.renK hS [(0,0),(1,1),(2,2),(3,3)] 4) (fun k1 sk1 ok1 hr hltk1=>?_) ?_
 ·obtain⟨s2,s3,s1⟩:=sk1
  refine AW.seq (AW.seq (AW.regL ?_))
  iterate 3 refine V rfl ?_
  refine AL.nil ?_
  refine AW.cT rfl (dT (ltI hltk1)) ?_
  refine AW.skip ?_
  refine bdE hr fun q3 hqq3 hr=>?_
  obtain⟨s4,s5,s6⟩:=q3
  refine AW.seq (AW.cut1 5 [(0,.pb 0 0),(2,.d .fz (.b a2)),(3,.d .fz (.b a3)),(8,.pb 1 0),(9,.pb 2 0),(10,.d .fz (.i .i64 (1+y1))),(11,.d .fz (.i .i64 (k1:Int)))] [(0,.box [.d .fz (.sl 1 (o0.b.map byD)),.d .fz (.i .i64 s5),.d .fz (.i .i64 s6)]),(2,.box [.d .fz (.s a1),.ref 4 none]),(3,.none),(4,.row .fz 4 (s4.map Attribute.D))] ?_ ?_)
  ·replace hr:=hqq3
   refine AW.block (AW.seq (AW.drawL (h:=?_)))
   refine LIR 4 (m:=.fz) (f:=A.D.s) (xs:=[(⟨#[97]⟩:ByteArray),(⟨#[98]⟩:ByteArray),(⟨#[99]⟩:ByteArray),(⟨#[100]⟩:ByteArray)]) ?_
   refine V rfl ?_
   refine bdE hr fun x1 hx1 hr=>?_
   refine IE hx1 (Int.natCast_nonneg _) ?_
   refine LP hx1 ?_
   refine V rfl ?_
   refine LIR 5 (m:=.fz) (f:=(A.D.i .i64)) (xs:=([1,1,2,2,3,4]:List Int)) ?_
   refine bdE hr fun q4 hq4 hr=>?_
   obtain⟨y2,z2⟩:=q4
   refine CB [(0,0)] [5] (q2v (m:=.bo) hq4) ?_
   refine V rfl ?_
   refine LIR 6 (m:=.fz) (f:=(A.D.i .i64)) (xs:=([1,2,2,1,2,3]:List Int)) ?_
   refine bdE hr fun q5 hq5 hr=>?_
   obtain⟨y3,z3⟩:=q5
   refine CB [(0,0)] [6] (q2v (m:=.bo) hq5) ?_
   refine V rfl ?_
   refine NV 7 ?_
   refine SB ?_
   refine AL.nil ?_
   refine AW.seq (AW.seq (AW.regL ?_))
   refine V rfl ?_
   refine AL.nil ?_
   refine ifE hr (fun h1 hr=>?_) fun h1 hr=>?_
   ·refine AW.cT rfl h1 ?_
    refine AW.regL ?_
    refine V rfl ?_
    refine LIR 8 (m:=.fz) (f:=(A.D.i .i64)) (xs:=([1,1,2,3]:List Int)) ?_
    refine bdE hr fun q6 hq6 hr=>?_
    obtain⟨y4,z4⟩:=q6
    refine CB [(0,0)] [8] (q2v (m:=.bo) hq6) ?_
    refine V rfl ?_
    refine SB ?_
    refine AL.nil ?_
    refine AW.seq (AW.seq (AW.regL ?_))
    refine V rfl ?_
    refine bdE hr fun s7 hqq7 hr=>?_
    refine AL.meet1 5 [(0,.pb 0 0),(2,.d .fz (.b a2)),(3,.d .fz (.b a3)),(8,.pb 1 0),(9,.pb 2 0),(10,.d .fz (.i .i64 (1+y1))),(11,.d .fz (.i .i64 (k1:Int))),(12,.pb 7 0),(44,.d .fz (.b s7))] ?_ ?_
    ·replace hr:=hqq7
     refine ifE hr (fun h2 hr=>?_) fun h2 hr=>?_
     ·refine VT rfl h2 ?_
      iterate 4 refine V rfl ?_
      refine AL.nil ?_
      cases hr
      exact q1r
     ·refine VF rfl (bF h2) ?_
      refine AL.off ?_
      refine AL.off ?_
      refine AL.off ?_
      refine V rfl ?_
      refine AL.nil ?_
      cases hr
      exact q1r
    ·refine bdE hr fun s8 hqq8 hr=>?_
     refine AL.meet1 8 [(0,.pb 0 0),(2,.d .fz (.b a2)),(3,.d .fz (.b a3)),(8,.pb 1 0),(9,.pb 2 0),(10,.d .fz (.i .i64 (1+y1))),(11,.d .fz (.i .i64 (k1:Int))),(12,.pb 7 0),(52,.d .fz (.b s8))] ?_ ?_
     ·replace hr:=hqq8
      refine ifE hr (fun h3 hr=>?_) fun h3 hr=>?_
      ·refine VT rfl h3 ?_
       refine AL.off ?_
       refine AL.off ?_
       refine AL.off ?_
       refine AL.off ?_
       refine AL.off ?_
       refine AL.off ?_
       refine V rfl ?_
       refine AL.nil ?_
       cases hr
       exact q1r
      ·refine VF rfl (bF h3) ?_
       refine V rfl ?_
       refine bdE hr fun q9 hqq9 hr=>?_
       obtain⟨s9,s10⟩:=q9
       refine AL.meet1 5 [(0,.pb 0 0),(2,.d .fz (.b a2)),(3,.d .fz (.b a3)),(8,.pb 1 0),(9,.pb 2 0),(10,.d .fz (.i .i64 (1+y1))),(11,.d .fz (.i .i64 (k1:Int))),(12,.pb 7 0),(45,.d .fz (.b false)),(46,.d .fz (.b a3)),(47,.d .fz (.b s9)),(51,.d .fz (.b s10))] ?_ ?_
       ·replace hr:=hqq9
        refine ifE hr (fun h4 hr=>?_) fun h4 hr=>?_
        ·refine VT rfl h4 ?_
         iterate 4 refine V rfl ?_
         refine AL.nil ?_
         cases hr
         exact q1r
        ·refine VF rfl (bF h4) ?_
         refine AL.off ?_
         refine AL.off ?_
         refine AL.off ?_
         refine V rfl ?_
         refine AL.nil ?_
         cases hr
         exact q1r
       ·refine V rfl ?_
        refine AL.nil ?_
        cases hr
        exact q1r
     ·refine AL.nil ?_
      refine ifE hr (fun h5 hr=>?_) fun h5 hr=>?_
      ·refine AW.cT rfl h5 ?_
       refine AW.regL ?_
       refine V rfl ?_
       refine SB ?_
       refine AL.nil ?_
       refine AW.seq (AW.seq (AW.regL ?_))
       iterate 3 refine V rfl ?_
       refine AL.nil ?_
       refine ifE hr (fun h6 hr=>?_) fun h6 hr=>?_
       ·refine AW.cT rfl (dT h6) ?_
        refine AW.regL ?_
        refine V rfl ?_
        refine SB ?_
        refine AL.nil ?_
        refine AW.regL ?_
        iterate 3 refine V rfl ?_
        refine LIR 9 (m:=.fz) (f:=Attribute.D) (xs:=[(⟨x1,2,2,false⟩:Attribute)]) ?_
        refine ggE hr fun g2 hr=>?_
        refine APf1 (f:=Attribute.D) 10 (fun _=>rfl) 40 g2 ?_
        refine V rfl ?_
        refine SB ?_
        refine AL.nil ?_
        cases hr
        exact GH.renK hS [(0,0),(1,1),(2,2),(10,4)] 5
       ·refine AW.cF rfl (dF h6) ?_
        refine AW.skip ?_
        refine AW.regL ?_
        iterate 3 refine V rfl ?_
        refine LIR 9 (m:=.fz) (f:=Attribute.D) (xs:=[(⟨x1,y4,2,false⟩:Attribute)]) ?_
        refine ggE hr fun g3 hr=>?_
        refine APf1 (f:=Attribute.D) 10 (fun _=>rfl) 40 g3 ?_
        refine V rfl ?_
        refine SB ?_
        refine AL.nil ?_
        cases hr
        exact GH.renK hS [(0,0),(1,1),(2,2),(10,4)] 5
      ·refine AW.cF rfl (bF h5) ?_
       refine AW.skip ?_
       refine AW.seq (AW.seq (AW.regL ?_))
       iterate 3 refine V rfl ?_
       refine AL.nil ?_
       refine ifE hr (fun h7 hr=>?_) fun h7 hr=>?_
       ·refine AW.cT rfl (dT h7) ?_
        refine AW.regL ?_
        refine V rfl ?_
        refine SB ?_
        refine AL.nil ?_
        refine AW.regL ?_
        iterate 3 refine V rfl ?_
        refine LIR 9 (m:=.fz) (f:=Attribute.D) (xs:=[(⟨x1,2,y3,false⟩:Attribute)]) ?_
        refine ggE hr fun g4 hr=>?_
        refine APf1 (f:=Attribute.D) 10 (fun _=>rfl) 40 g4 ?_
        refine V rfl ?_
        refine SB ?_
        refine AL.nil ?_
        cases hr
        exact GH.renK hS [(0,0),(1,1),(2,2),(10,4)] 5
       ·refine AW.cF rfl (dF h7) ?_
        refine AW.skip ?_
        refine AW.regL ?_
        iterate 3 refine V rfl ?_
        refine LIR 9 (m:=.fz) (f:=Attribute.D) (xs:=[(⟨x1,y4,y3,false⟩:Attribute)]) ?_
        refine ggE hr fun g5 hr=>?_
        refine APf1 (f:=Attribute.D) 10 (fun _=>rfl) 40 g5 ?_
        refine V rfl ?_
        refine SB ?_
        refine AL.nil ?_
        cases hr
        exact GH.renK hS [(0,0),(1,1),(2,2),(10,4)] 5
   ·refine AW.cF rfl (bF h1) ?_
    refine AW.skip ?_
    refine AW.seq (AW.seq (AW.regL ?_))
    refine V rfl ?_
    refine bdE hr fun s11 hqq10 hr=>?_
    refine AL.meet1 5 [(0,.pb 0 0),(2,.d .fz (.b a2)),(3,.d .fz (.b a3)),(8,.pb 1 0),(9,.pb 2 0),(10,.d .fz (.i .i64 (1+y1))),(11,.d .fz (.i .i64 (k1:Int))),(12,.pb 7 0),(44,.d .fz (.b s11))] ?_ ?_
    ·replace hr:=hqq10
     refine ifE hr (fun h8 hr=>?_) fun h8 hr=>?_
     ·refine VT rfl h8 ?_
      iterate 4 refine V rfl ?_
      refine AL.nil ?_
      cases hr
      exact q1r
     ·refine VF rfl (bF h8) ?_
      refine AL.off ?_
      refine AL.off ?_
      refine AL.off ?_
      refine V rfl ?_
      refine AL.nil ?_
      cases hr
      exact q1r
    ·refine bdE hr fun s12 hqq11 hr=>?_
     refine AL.meet1 8 [(0,.pb 0 0),(2,.d .fz (.b a2)),(3,.d .fz (.b a3)),(8,.pb 1 0),(9,.pb 2 0),(10,.d .fz (.i .i64 (1+y1))),(11,.d .fz (.i .i64 (k1:Int))),(12,.pb 7 0),(52,.d .fz (.b s12))] ?_ ?_
     ·replace hr:=hqq11
      refine ifE hr (fun h9 hr=>?_) fun h9 hr=>?_
      ·refine VT rfl h9 ?_
       refine AL.off ?_
       refine AL.off ?_
       refine AL.off ?_
       refine AL.off ?_
       refine AL.off ?_
       refine AL.off ?_
       refine V rfl ?_
       refine AL.nil ?_
       cases hr
       exact q1r
      ·refine VF rfl (bF h9) ?_
       refine V rfl ?_
       refine bdE hr fun q12 hqq12 hr=>?_
       obtain⟨s13,s14⟩:=q12
       refine AL.meet1 5 [(0,.pb 0 0),(2,.d .fz (.b a2)),(3,.d .fz (.b a3)),(8,.pb 1 0),(9,.pb 2 0),(10,.d .fz (.i .i64 (1+y1))),(11,.d .fz (.i .i64 (k1:Int))),(12,.pb 7 0),(45,.d .fz (.b false)),(46,.d .fz (.b a3)),(47,.d .fz (.b s13)),(51,.d .fz (.b s14))] ?_ ?_
       ·replace hr:=hqq12
        refine ifE hr (fun h10 hr=>?_) fun h10 hr=>?_
        ·refine VT rfl h10 ?_
         iterate 4 refine V rfl ?_
         refine AL.nil ?_
         cases hr
         exact q1r
        ·refine VF rfl (bF h10) ?_
         refine AL.off ?_
         refine AL.off ?_
         refine AL.off ?_
         refine V rfl ?_
         refine AL.nil ?_
         cases hr
         exact q1r
       ·refine V rfl ?_
        refine AL.nil ?_
        cases hr
        exact q1r
     ·refine AL.nil ?_
      refine ifE hr (fun h11 hr=>?_) fun h11 hr=>?_
      ·refine AW.cT rfl h11 ?_
       refine AW.regL ?_
       refine V rfl ?_
       refine SB ?_
       refine AL.nil ?_
       refine AW.seq (AW.seq (AW.regL ?_))
       iterate 3 refine V rfl ?_
       refine AL.nil ?_
       refine ifE hr (fun h12 hr=>?_) fun h12 hr=>?_
       ·refine AW.cT rfl (dT h12) ?_
        refine AW.regL ?_
        refine V rfl ?_
        refine SB ?_
        refine AL.nil ?_
        refine AW.regL ?_
        iterate 3 refine V rfl ?_
        refine LIR 8 (m:=.fz) (f:=Attribute.D) (xs:=[(⟨x1,2,2,false⟩:Attribute)]) ?_
        refine ggE hr fun g6 hr=>?_
        refine APf1 (f:=Attribute.D) 9 (fun _=>rfl) 40 g6 ?_
        refine V rfl ?_
        refine SB ?_
        refine AL.nil ?_
        cases hr
        exact GH.renK hS [(0,0),(1,1),(2,2),(9,4)] 5
       ·refine AW.cF rfl (dF h12) ?_
        refine AW.skip ?_
        refine AW.regL ?_
        iterate 3 refine V rfl ?_
        refine LIR 8 (m:=.fz) (f:=Attribute.D) (xs:=[(⟨x1,y2,2,false⟩:Attribute)]) ?_
        refine ggE hr fun g7 hr=>?_
        refine APf1 (f:=Attribute.D) 9 (fun _=>rfl) 40 g7 ?_
        refine V rfl ?_
        refine SB ?_
        refine AL.nil ?_
        cases hr
        exact GH.renK hS [(0,0),(1,1),(2,2),(9,4)] 5
      ·refine AW.cF rfl (bF h11) ?_
       refine AW.skip ?_
       refine AW.seq (AW.seq (AW.regL ?_))
       iterate 3 refine V rfl ?_
       refine AL.nil ?_
       refine ifE hr (fun h13 hr=>?_) fun h13 hr=>?_
       ·refine AW.cT rfl (dT h13) ?_
        refine AW.regL ?_
        refine V rfl ?_
        refine SB ?_
        refine AL.nil ?_
        refine AW.regL ?_
        iterate 3 refine V rfl ?_
        refine LIR 8 (m:=.fz) (f:=Attribute.D) (xs:=[(⟨x1,2,y3,false⟩:Attribute)]) ?_
        refine ggE hr fun g8 hr=>?_
        refine APf1 (f:=Attribute.D) 9 (fun _=>rfl) 40 g8 ?_
        refine V rfl ?_
        refine SB ?_
        refine AL.nil ?_
        cases hr
        exact GH.renK hS [(0,0),(1,1),(2,2),(9,4)] 5
       ·refine AW.cF rfl (dF h13) ?_
        refine AW.skip ?_
        refine AW.regL ?_
        iterate 3 refine V rfl ?_
        refine LIR 8 (m:=.fz) (f:=Attribute.D) (xs:=[(⟨x1,y2,y3,false⟩:Attribute)]) ?_
        refine ggE hr fun g9 hr=>?_
        refine APf1 (f:=Attribute.D) 9 (fun _=>rfl) 40 g9 ?_
        refine V rfl ?_
        refine SB ?_
        refine AL.nil ?_
        cases hr
        exact GH.renK hS [(0,0),(1,1),(2,2),(9,4)] 5
  ·refine AW.regL ?_
   refine V rfl ?_
   refine OB _ (q2b (p:=k1) (q:=1) (q1o (ltI hltk1) hl1.2)) ?_
   refine V rfl ?_
   refine AL.nil ?_
   cases hr
   exact GH.renK hS [(0,0),(1,1),(2,2),(4,3)] 4
 ·refine AW.seq (AW.seq (AW.regL ?_))
  iterate 3 refine V rfl ?_
  refine AL.nil ?_
  refine AW.cF rfl (dF geI) ?_
  refine AW.exit ?_
  refine AW.seq (AW.regL ?_)
  refine V rfl ?_
  refine SB ?_
  refine AL.nil ?_
  refine AW.ret ?_
  cases hr
  exact endA.renK [(0,0),(3,1)] 2 hS
def q6l:(Int × ByteArray)→Option ((Int × ByteArray) ⊕ ByteArray):=fun (s2,s3)=>
 if s2=0 then (
 some (.inr s3)
 ) else (
 if (s2.tmod 10) < 0 then (
 grd (I64 (0 - (s2.tmod 10))) <|
 grd (I64 (48+(0 - (s2.tmod 10)))) <|
 grd ((⟨#[(UInt8.ofNat ((48+(0 - (s2.tmod 10))) % 256).toNat)]⟩:ByteArray).size+s3.size≤9223372036854775807) <|
 grd (I64 (s2.tdiv 10)) <|
 some (.inl ((s2.tdiv 10),((⟨#[(UInt8.ofNat ((48+(0 - (s2.tmod 10))) % 256).toNat)]⟩:ByteArray)++s3)))
 ) else (
 grd (I64 (48+(s2.tmod 10))) <|
 grd ((⟨#[(UInt8.ofNat ((48+(s2.tmod 10)) % 256).toNat)]⟩:ByteArray).size+s3.size≤9223372036854775807) <|
 grd (I64 (s2.tdiv 10)) <|
 some (.inl ((s2.tdiv 10),((⟨#[(UInt8.ofNat ((48+(s2.tmod 10)) % 256).toNat)]⟩:ByteArray)++s3)))
 )
 )
def q4V (a0:Int):Option ByteArray:=
 if a0=0 then (
 some (⟨#[48]⟩:ByteArray)
 ) else (
 (q2t q6l (a0,(⟨#[]⟩:ByteArray))).bind fun s1=>
 if a0 < 0 then (
 grd ((⟨#[45]⟩:ByteArray).size+s1.size≤9223372036854775807) <|
 some ((⟨#[45]⟩:ByteArray)++s1)
 ) else (
 some s1
 )
 )
theorem z3M {a0:Int}{r:ByteArray}(hr:q4V a0=some r):Ok Tryz.prog 86 [.d .fz (.i .i64 a0)] [] (.d .fz (.s r)) []:=by
 refine Ok.enter rfl Tryz.func86 rfl rfl rfl fun S hS=>?_
 unfold q4V at hr
 refine AW.seq (AW.regL ?_)
 refine V rfl ?_
 refine AL.nil ?_
 refine AW.seq (AW.seq (AW.regL ?_))
 iterate 2 refine V rfl ?_
 refine AL.nil ?_
 refine ifE hr (fun h1 hr=>?_) fun h1 hr=>?_
 ·refine AW.cT rfl (dT h1) ?_
  refine AW.seq (AW.regL ?_)
  refine V rfl ?_
  refine AL.nil ?_
  refine AW.ret ?_
  cases hr
  exact endA.renK [] 0 hS
 ·refine AW.cF rfl (dF h1) ?_
  refine AW.skip ?_
  refine AW.seq (AW.regL ?_)
  iterate 3 refine V rfl ?_
  refine AL.nil ?_
  refine AW.seq (AW.regL ?_)
  refine V rfl ?_
  refine AL.nil ?_
  refine bdE hr fun s1 hqq1 hr=>?_
  refine AW.seq (AW.cut1 0 [(3,.d .fz (.b (decide (a0 < 0)))),(4,.d .fz (.s s1))] [] ?_ ?_)
  ·refine AW.block (AW.iter hqq1 0 (fun (s2,s3)=>[(0,.d .fz (.i .i64 s2)),(3,.d .fz (.b (decide (a0 < 0)))),(4,.d .fz (.s s3))]) (fun (s2,s3)=>[]) (GH.renK hS [] 0) fun sk1 ok1 hr hik1=>?_)
   obtain⟨s2,s3⟩:=sk1
   have hr:=hr
   refine AW.seq (AW.seq (AW.regL ?_))
   iterate 2 refine V rfl ?_
   refine AL.nil ?_
   refine ifE hr (fun h2 hr=>?_) fun h2 hr=>?_
   ·refine AW.cF rfl (nF h2) ?_
    refine AW.exit ?_
    cases hr
    cases hik1 _ rfl
    exact GH.renK hS [] 0
   ·refine AW.cT rfl (nT h2) ?_
    refine AW.skip ?_
    refine AW.block (AW.seq (AW.regL ?_))
    refine V rfl ?_
    refine OB _ (bRem (b:=10) (by decide)) ?_
    refine V rfl ?_
    refine AL.nil ?_
    refine AW.seq (AW.seq (AW.regL ?_))
    iterate 2 refine V rfl ?_
    refine AL.nil ?_
    refine ifE hr (fun h3 hr=>?_) fun h3 hr=>?_
    ·refine AW.cT rfl (dT h3) ?_
     refine AW.regL ?_
     refine V rfl ?_
     refine ggE hr fun g1 hr=>?_
     refine OB _ (bSub g1) ?_
     refine V rfl ?_
     refine AL.nil ?_
     refine AW.seq (AW.regL ?_)
     refine V rfl ?_
     refine ggE hr fun g2 hr=>?_
     refine OB _ (bAdd g2) ?_
     refine CIB rfl ?_
     refine LIR 0 (m:=.fz) (f:=byD) (xs:=([(UInt8.ofNat ((48+(0 - (s2.tmod 10))) % 256).toNat)]:List UInt8)) ?_
     refine TS rfl rfl ?_
     refine V rfl ?_
     refine ggE hr fun g3 hr=>?_
     refine OB _ (z8m g3) ?_
     refine V rfl ?_
     refine AL.nil ?_
     refine AW.regL ?_
     refine V rfl ?_
     refine ggE hr fun g4 hr=>?_
     refine OB _ (bQuo (b:=10) (by decide) g4) ?_
     refine V rfl ?_
     refine AL.nil ?_
     cases hr
     exact⟨_,rfl,GH.renK hS [] 0⟩
    ·refine AW.cF rfl (dF h3) ?_
     refine AW.skip ?_
     refine AW.seq (AW.regL ?_)
     refine V rfl ?_
     refine ggE hr fun g5 hr=>?_
     refine OB _ (bAdd g5) ?_
     refine CIB rfl ?_
     refine LIR 0 (m:=.fz) (f:=byD) (xs:=([(UInt8.ofNat ((48+(s2.tmod 10)) % 256).toNat)]:List UInt8)) ?_
     refine TS rfl rfl ?_
     refine V rfl ?_
     refine ggE hr fun g6 hr=>?_
     refine OB _ (z8m g6) ?_
     refine V rfl ?_
     refine AL.nil ?_
     refine AW.regL ?_
     refine V rfl ?_
     refine ggE hr fun g7 hr=>?_
     refine OB _ (bQuo (b:=10) (by decide) g7) ?_
     refine V rfl ?_
     refine AL.nil ?_
     cases hr
     exact⟨_,rfl,GH.renK hS [] 0⟩
  ·refine AW.seq (AW.seq (AW.regL ?_))
   refine V rfl ?_
   refine AL.nil ?_
   refine ifE hr (fun h4 hr=>?_) fun h4 hr=>?_
   ·refine AW.cT rfl (dT h4) ?_
    refine AW.seq (AW.regL ?_)
    refine V rfl ?_
    refine ggE hr fun g8 hr=>?_
    refine OB _ (z8m g8) ?_
    refine V rfl ?_
    refine AL.nil ?_
    refine AW.ret ?_
    cases hr
    exact endA.renK [] 0 hS
   ·refine AW.cF rfl (dF h4) ?_
    refine AW.skip ?_
    refine AW.seq (AW.regL ?_)
    iterate 2 refine V rfl ?_
    refine AL.nil ?_
    refine AW.ret ?_
    cases hr
    exact endA.renK [] 0 hS
def q3t (a1:(List ByteArray))(o0:l1Cur):Option (ByteArray × l1Cur):=
 (q1p (a1.length:Int) o0).bind fun (y1,z1)=>
 grd (0≤y1) <|
 (a1[y1.toNat]?).bind fun x1=>
 some (x1,(⟨o0.b,z1.i,z1.h⟩:l1Cur))
theorem q3Q {m:Md}{a1:(List ByteArray)}{o0:l1Cur}{r:(ByteArray × l1Cur)}(hr:q3t a1 o0=some r):Ok Tryz.prog 63 [.pb 0 0,.d m (.sl 1 (a1.map A.D.s))] [.box [.d .fz (.sl 1 (o0.b.map byD)),.d .fz (.i .i64 o0.i),.d .fz (.i .i64 o0.h)]] (.d .fz (.s r.1)) [.box [.d .fz (.sl 1 (o0.b.map byD)),.d .fz (.i .i64 r.2.i),.d .fz (.i .i64 r.2.h)]]:=by
 refine Ok.enter rfl Tryz.func63 rfl rfl rfl fun S hS=>?_
 unfold q3t at hr
 refine AW.seq (AW.regL ?_)
 refine V rfl ?_
 refine AL.nil ?_
 refine AW.seq (AW.regL ?_)
 iterate 3 refine V rfl ?_
 refine LF ?_
 refine bdE hr fun q1 hq1 hr=>?_
 obtain⟨y1,z1⟩:=q1
 refine CB [(0,0)] [] (q1q hq1) ?_
 refine ggE hr fun g1 hr=>?_
 refine bdE hr fun x1 hx1 hr=>?_
 refine IF g1 hx1 ?_
 iterate 2 refine V rfl ?_
 refine AL.nil ?_
 refine AW.ret ?_
 cases hr
 exact endA.renK [(0,0)] 1 hS
def q2g (a0:Int)(a1:Int)(a2:Int):Option Bool:=
 if a1≤a0 then (
 some (decide (a0≤a2))
 ) else (
 some false
 )
theorem q2w {a0:Int}{a1:Int}{a2:Int}{r:Bool}(hr:q2g a0 a1 a2=some r):Ok Tryz.prog 34 [.d .fz (.i .i64 a0),.d .fz (.i .i64 a1),.d .fz (.i .i64 a2)] [] (.d .fz (.b r)) []:=by
 refine Ok.enter rfl Tryz.func34 rfl rfl rfl fun S hS=>?_
 unfold q2g at hr
 refine AW.seq (AW.regL ?_)
 refine V rfl ?_
 refine AL.nil ?_
 refine AW.seq (AW.regL ?_)
 iterate 3 refine V rfl ?_
 refine ifE hr (fun h1 hr=>?_) fun h1 hr=>?_
 ·refine VT rfl (dT h1) ?_
  iterate 5 refine V rfl ?_
  refine AL.nil ?_
  refine AW.ret ?_
  cases hr
  exact endA.renK [] 0 hS
 ·refine VF rfl (dF h1) ?_
  refine AL.off ?_
  refine AL.off ?_
  refine AL.off ?_
  iterate 2 refine V rfl ?_
  refine AL.nil ?_
  refine AW.ret ?_
  cases hr
  exact endA.renK [] 0 hS
def q1X (a0:Rule)(a1:Int):Option ByteArray:=
 if a1=0 then (
 some a0.Left
 ) else (
 (q2g a1 1 (a0.Right.length:Int)).bind fun y1=>
 if y1=true then (
 grd (I64 (a1 - 1)) <|
 grd (0≤(a1 - 1)) <|
 (a0.Right[(a1 - 1).toNat]?).bind fun x1=>
 some x1
 ) else (
 some (⟨#[]⟩:ByteArray)
 )
 )
theorem q3F {m:Md}{a0:Rule}{a1:Int}{r:ByteArray}(hr:q1X a0 a1=some r):Ok Tryz.prog 15 [Rule.x m a0,.d .fz (.i .i64 a1)] [] (.d .fz (.s r)) []:=by
 refine Ok.enter rfl Tryz.func15 rfl rfl rfl fun S hS=>?_
 unfold q1X at hr
 refine AW.seq (AW.regL ?_)
 refine BX 0 ?_
 refine V rfl ?_
 refine AL.nil ?_
 refine AW.seq (AW.seq (AW.regL ?_))
 iterate 2 refine V rfl ?_
 refine AL.nil ?_
 refine ifE hr (fun h1 hr=>?_) fun h1 hr=>?_
 ·refine AW.cT rfl (dT h1) ?_
  refine AW.seq (AW.regL ?_)
  iterate 3 refine V rfl ?_
  refine AL.nil ?_
  refine AW.ret ?_
  cases hr
  exact endA.renK [] 0 hS
 ·refine AW.cF rfl (dF h1) ?_
  refine AW.skip ?_
  refine AW.seq (AW.seq (AW.regL ?_))
  iterate 3 refine V rfl ?_
  refine LF ?_
  refine bdE hr fun y1 hy1 hr=>?_
  refine CB [] [] (q2w hy1) ?_
  refine V rfl ?_
  refine AL.nil ?_
  refine ifE hr (fun h2 hr=>?_) fun h2 hr=>?_
  ·refine AW.cF rfl (bnF h2) ?_
   refine AW.skip ?_
   refine AW.seq (AW.regL ?_)
   iterate 3 refine V rfl ?_
   refine ggE hr fun g1 hr=>?_
   refine OB _ (bSub g1) ?_
   refine ggE hr fun g2 hr=>?_
   refine bdE hr fun x1 hx1 hr=>?_
   refine IF g2 hx1 ?_
   iterate 2 refine V rfl ?_
   refine AL.nil ?_
   refine AW.ret ?_
   cases hr
   exact endA.renK [] 0 hS
  ·refine AW.cT rfl (bnT h2) ?_
   refine AW.seq (AW.regL ?_)
   refine V rfl ?_
   refine AL.nil ?_
   refine AW.ret ?_
   cases hr
   exact endA.renK [] 0 hS
def q4x (a0:Symbol):Option Symbol:=
 grd (((([]:List Attribute).length:Int)+(a0.Attributes.length:Int))*40≤140737488355328∧(([]:List Attribute).length:Int)+(a0.Attributes.length:Int)≤9223372036854775807) <|
 some a0
theorem z3N {m:Md}{a0:Symbol}{r:Symbol}(hr:q4x a0=some r):Ok Tryz.prog 76 [Symbol.x m a0] [] (.ag [.d .fz (.s r.Name),.ref 0 none]) [.row .fz 4 (r.Attributes.map Attribute.D)]:=by
 refine Ok.enter rfl Tryz.func76 rfl rfl rfl fun S hS=>?_
 unfold q4x at hr
 refine AW.seq (AW.regL ?_)
 refine BX 0 ?_
 refine NV 1 ?_
 refine AL.nil ?_
 refine AW.seq (AW.drawL (h:=?_))
 iterate 2 refine V rfl ?_
 refine L0 2 Attribute.D ?_
 iterate 2 refine V rfl ?_
 refine ggE hr fun g1 hr=>?_
 refine APfB (f:=Attribute.D) 3 40 (fun _=>rfl) g1 ?_
 refine V rfl ?_
 refine SB ?_
 refine AL.nil ?_
 refine AW.ret ?_
 cases hr
 exact endA.renK [(3,0)] 1 hS
def q4J (a1:ByteArray):Nat→Symbol→Unit→Option (Unit ⊕ (Symbol × Bool)):=fun k1 xk1 _=>
 if xk1.Name=a1 then (
 (q4x xk1).bind fun y1=>
 some (.inr (y1,true))
 ) else (
 some (.inl ())
 )
def q1U (a0:Grammar)(a1:ByteArray):Option (Symbol × Bool):=
 (findL (q4J a1) 0 a0.Symbols ()).bind <| onr (fun r1=>some r1) fun _=>
 some ((⟨(⟨#[]⟩:ByteArray),[]⟩:Symbol),false)
theorem q3m {m:Md}{a0:Grammar}{a1:ByteArray}{r:(Symbol × Bool)}(hr:q1U a0 a1=some r):Ok Tryz.prog 54 [Grammar.y m a0,.d .fz (.s a1)] [] (.tu [.ag [.d .fz (.s r.1.Name),.ref 0 none],.d .fz (.b r.2)]) [.row .fz 4 (r.1.Attributes.map Attribute.D)]:=by
 refine Ok.enter rfl Tryz.func54 rfl rfl rfl fun S hS=>?_
 unfold q1U at hr
 refine AW.seq (AW.regL ?_)
 refine BX 0 ?_
 refine NV 1 ?_
 refine V rfl ?_
 refine AL.nil ?_
 refine AW.seq (AW.seq (AW.regL ?_))
 refine V rfl ?_
 refine AL.nil ?_
 refine AW.block ?_
 refine AW.len (.ag 0 (.tmp 0 rfl) rfl) fun hl1=>?_
 refine bdE hr fun q1 hqq1 hr=>?_
 refine AW.findL hqq1 hl1 2 (fun k1 _=>[(1,.d .fz (.s a1)),(2,.pb 0 0),(4,.pb 1 0),(6,.d .fz (.i .i64 (k1:Int)))]) (fun k1 _=>[]) (GH.trans (GH.bw (q:=0) [.d m (.sl 2 (a0.Symbols.map Symbol.D)),.u] (.cons .rfl (.cons .u .nil)) rfl) (GH.renK hS [(0,0),(1,1)] 2)) (fun k1 xk1 sk1 ok1 hxk1 hr hltk1 hik1=>?_) fun k1 sk1 ek1 hltk1=>?_
 ·refine AW.seq (AW.seq (AW.regL ?_))
  iterate 3 refine V rfl ?_
  refine LF ?_
  refine V rfl ?_
  refine AL.nil ?_
  refine AW.cT rfl (dT hltk1) ?_
  refine AW.skip ?_
  refine AW.seq (AW.block (AW.seq (AW.regL ?_)))
  iterate 3 refine V rfl ?_
  refine IF (Int.natCast_nonneg _) hxk1 ?_
  iterate 4 refine V rfl ?_
  refine AL.nil ?_
  refine ifE hr (fun h1 hr=>?_) fun h1 hr=>?_
  ·refine AW.cT rfl (dT h1) ?_
   refine AW.seq (AW.regL ?_)
   iterate 3 refine V rfl ?_
   refine IF (Int.natCast_nonneg _) hxk1 ?_
   refine V rfl ?_
   refine bdE hr fun y1 hy1 hr=>?_
   refine CB [(0,2)] [] (z3N (m:=m) hy1) ?_
   refine SB ?_
   refine V rfl ?_
   refine AL.nil ?_
   refine AW.ret ?_
   cases hr
   cases hik1 _ rfl
   rename_i hr
   cases hr
   exact endA.renK [(2,0)] 1 hS
  ·refine AW.cF rfl (dF h1) ?_
   refine AW.skip ?_
   refine AW.regL ?_
   refine V rfl ?_
   refine OB _ (q2b (p:=k1) (q:=1) (q1o hltk1 hl1)) ?_
   refine V rfl ?_
   refine AL.nil ?_
   cases hr
   exact⟨_,rfl,GH.trans (GH.bw (q:=0) [.d m (.sl 2 (a0.Symbols.map Symbol.D)),.u] (.cons .rfl (.cons .u .nil)) rfl) (GH.renK hS [(0,0),(1,1)] 2)⟩
 ·subst ek1
  refine AW.seq (AW.seq (AW.regL ?_))
  iterate 3 refine V rfl ?_
  refine LF ?_
  refine V rfl ?_
  refine AL.nil ?_
  refine AW.cF rfl (dF hltk1) ?_
  refine AW.exit ?_
  refine AW.seq (AW.regL ?_)
  refine V rfl ?_
  refine SB ?_
  refine V rfl ?_
  refine AL.nil ?_
  refine AW.ret ?_
  refine endA.gh (GH.nlB (q:=1) (c:=1) (r:=2) .fz 4 rfl rfl rfl) ?_
  cases hr
  exact endA.renK [(2,0)] 1 hS
def q4d (s3:Int):Nat→Attribute→((List Occurrence))→Option ((List Occurrence)):=fun k2 xk2 s5=>
 (
 if xk2.Mode=2 then (
 grd (((s5.length:Int)+1)*24≤140737488355328∧(s5.length:Int)+1≤9223372036854775807) <|
 some (s5++[(⟨s3,xk2.Name⟩:Occurrence)])
 ) else (
 some s5
 )
 ).bind fun s6=>
 some s6
def q4e (s3:Int):Nat→Attribute→((List Occurrence))→Option ((List Occurrence)):=fun k3 xk3 s7=>
 (
 if xk3.Mode=1 then (
 grd (((s7.length:Int)+1)*24≤140737488355328∧(s7.length:Int)+1≤9223372036854775807) <|
 some (s7++[(⟨s3,xk3.Name⟩:Occurrence)])
 ) else (
 some s7
 )
 ).bind fun s8=>
 some s8
def q2x (a0:Grammar)(a1:Rule):((List Occurrence) × Int)→Option (((List Occurrence) × Int) ⊕ ((List Occurrence))):=fun (s2,s3)=>
 if s3≤(a1.Right.length:Int) then (
 (
 (q1X a1 s3).bind fun y1=>
 (q1U a0 y1).bind fun (y2,y3)=>
 if s3=0 then (
 (eachL (q4d s3) 0 y2.Attributes s2).bind fun s5=>
 some s5
 ) else (
 (eachL (q4e s3) 0 y2.Attributes s2).bind fun s7=>
 some s7
 )
 ).bind fun s4=>
 grd (I64 (s3+1)) <|
 some (.inl (s4,(s3+1)))
 ) else (
 some (.inr s2)
 )
def q1T (a0:Grammar)(a1:Rule):Option (List Occurrence):=
 (q2t (q2x a0 a1) (([]:List Occurrence),0)).bind fun s1=>
 some s1
theorem q4f {m:Md}{a0:Grammar}{a1:Rule}{r:(List Occurrence)}(hr:q1T a0 a1=some r):Ok Tryz.prog 120 [Grammar.y m a0,Rule.x m a1] [] (.ref 0 none) [.row .fz 2 (r.map Occurrence.D)]:=by
 refine Ok.enter rfl Tryz.func120 rfl rfl rfl fun S hS=>?_
 unfold q1T at hr
 refine AW.seq (AW.regL ?_)
 refine BX 0 ?_
 refine BX 1 ?_
 refine V rfl ?_
 refine AL.nil ?_
 refine AW.seq (AW.regL ?_)
 refine L0 2 Occurrence.D ?_
 refine V rfl ?_
 refine AL.nil ?_
 refine AW.seq (AW.seq (AW.regL ?_))
 refine V rfl ?_
 refine AL.nil ?_
 refine bdE hr fun s1 hqq1 hr=>?_
 refine AW.cut1 3 [(5,.ref 2 none)] [(2,.row .fz 2 (s1.map Occurrence.D))] ?_ ?_
 ·refine AW.block (AW.iter hqq1 3 (fun (s2,s3)=>[(2,.pb 0 0),(3,.pb 1 0),(5,.ref 2 none),(6,.d .fz (.i .i64 s3))]) (fun (s2,s3)=>[(2,.row .fz 2 (s2.map Occurrence.D))]) (GH.trans (GH.bw (q:=0) [.d m (.sl 2 (a0.Symbols.map Symbol.D)),.u] (.cons .rfl (.cons .u .nil)) rfl) (GH.renK hS [(0,0),(1,1),(2,2)] 3)) fun sk1 ok1 hr hik1=>?_)
  obtain⟨s2,s3⟩:=sk1
  have hr:=hr
  refine AW.seq (AW.seq (AW.regL ?_))
  iterate 3 refine V rfl ?_
  refine LF ?_
  refine V rfl ?_
  refine AL.nil ?_
  refine ifE hr (fun h1 hr=>?_) fun h1 hr=>?_
  ·refine AW.cT rfl (dT h1) ?_
   refine AW.skip ?_
   refine bdE hr fun s4 hqq2 hr=>?_
   refine AW.seq (AW.cut1 3 [(2,.pb 0 0),(3,.pb 1 0),(5,.ref 2 none),(6,.d .fz (.i .i64 s3))] [(2,.row .fz 2 (s4.map Occurrence.D))] ?_ ?_)
   ·replace hr:=hqq2
    refine AW.block (AW.seq (AW.drawL (h:=?_)))
    iterate 3 refine V rfl ?_
    refine bdE hr fun y1 hy1 hr=>?_
    refine CB [] [] (q3F (m:=m) hy1) ?_
    refine bdE hr fun q3 hq3 hr=>?_
    obtain⟨y2,y3⟩:=q3
    refine CB [(0,3)] [] (q3m (m:=m) hq3) ?_
    iterate 3 refine V rfl ?_
    refine NV 4 ?_
    refine SB ?_
    refine V rfl ?_
    refine AL.nil ?_
    refine AW.seq (AW.regL ?_)
    refine V rfl ?_
    refine AL.nil ?_
    refine AW.seq (AW.seq (AW.regL ?_))
    iterate 2 refine V rfl ?_
    refine AL.nil ?_
    refine ifE hr (fun h2 hr=>?_) fun h2 hr=>?_
    ·refine AW.cT rfl (dT h2) ?_
     refine AW.regL ?_
     refine V rfl ?_
     refine AL.nil ?_
     refine AW.seq (AW.regL ?_)
     refine V rfl ?_
     refine AL.nil ?_
     refine AW.block ?_
     refine AW.lenR 3 rfl fun hl2=>?_
     refine bdE hr fun s5 hqq4 hr=>?_
     refine AW.eachL hqq4 hl2 5 (fun k2 s5=>[(2,.pb 0 0),(3,.pb 1 0),(5,.ref 2 none),(6,.d .fz (.i .i64 s3)),(7,.pb 4 0),(9,.d .fz (.i .i64 2)),(10,.d .fz (.i .i64 (k2:Int)))]) (fun k2 s5=>[(2,.row .fz 2 (s5.map Occurrence.D))]) (GH.trans (GH.bw (q:=0) [.d m (.sl 2 (a0.Symbols.map Symbol.D)),.u] (.cons .rfl (.cons .u .nil)) rfl) (GH.renK hS [(0,0),(1,1),(2,2),(3,3),(4,4)] 5)) (fun k2 xk2 sk2 ok2 hxk2 hr hltk2=>?_) fun k2 hltk2=>?_
     ·obtain⟨s5,rfl⟩:∃ y,y=sk2:=⟨_,rfl⟩
      refine AW.seq (AW.seq (AW.regL ?_))
      iterate 3 refine V rfl ?_
      refine LE ?_
      refine V rfl ?_
      refine AL.nil ?_
      refine AW.cT rfl (dT hltk2) ?_
      refine AW.skip ?_
      refine bdE hr fun s6 hqq5 hr=>?_
      refine AW.seq (AW.cut1 5 [(2,.pb 0 0),(3,.pb 1 0),(5,.ref 2 none),(6,.d .fz (.i .i64 s3)),(7,.pb 4 0),(9,.d .fz (.i .i64 2)),(10,.d .fz (.i .i64 (k2:Int)))] [(2,.row .fz 2 (s6.map Occurrence.D))] ?_ ?_)
      ·replace hr:=hqq5
       refine AW.block (AW.seq (AW.regL ?_))
       iterate 3 refine V rfl ?_
       refine IE hxk2 (Int.natCast_nonneg _) ?_
       refine V rfl ?_
       refine LP hxk2 ?_
       iterate 2 refine V rfl ?_
       refine AL.nil ?_
       refine ifE hr (fun h3 hr=>?_) fun h3 hr=>?_
       ·refine AW.cT rfl (dT h3) ?_
        refine AW.regL ?_
        iterate 5 refine V rfl ?_
        refine IE hxk2 (Int.natCast_nonneg _) ?_
        refine V rfl ?_
        refine LP hxk2 ?_
        refine V rfl ?_
        refine LIR 5 (m:=.fz) (f:=Occurrence.D) (xs:=[(⟨s3,xk2.Name⟩:Occurrence)]) ?_
        refine ggE hr fun g1 hr=>?_
        refine APf1 (f:=Occurrence.D) 6 (fun _=>rfl) 24 g1 ?_
        refine V rfl ?_
        refine AL.nil ?_
        cases hr
        exact GH.trans (GH.bw (q:=0) [.d m (.sl 2 (a0.Symbols.map Symbol.D)),.u] (.cons .rfl (.cons .u .nil)) rfl) (GH.renK hS [(0,0),(1,1),(6,2),(3,3),(4,4)] 5)
       ·refine AW.cF rfl (dF h3) ?_
        refine AW.skip ?_
        cases hr
        exact GH.trans (GH.bw (q:=0) [.d m (.sl 2 (a0.Symbols.map Symbol.D)),.u] (.cons .rfl (.cons .u .nil)) rfl) (GH.renK hS [(0,0),(1,1),(2,2),(3,3),(4,4)] 5)
      ·refine AW.regL ?_
       refine V rfl ?_
       refine OB _ (q2b (p:=k2) (q:=1) (q1o hltk2 hl2)) ?_
       refine V rfl ?_
       refine AL.nil ?_
       cases hr
       exact GH.trans (GH.bw (q:=0) [.d m (.sl 2 (a0.Symbols.map Symbol.D)),.u] (.cons .rfl (.cons .u .nil)) rfl) (GH.renK hS [(0,0),(1,1),(2,2),(3,3),(4,4)] 5)
     ·refine AW.seq (AW.seq (AW.regL ?_))
      iterate 3 refine V rfl ?_
      refine LE ?_
      refine V rfl ?_
      refine AL.nil ?_
      refine AW.cF rfl (dF hltk2) ?_
      refine AW.exit ?_
      cases hr
      exact GH.trans (GH.bw (q:=0) [.d m (.sl 2 (a0.Symbols.map Symbol.D)),.u] (.cons .rfl (.cons .u .nil)) rfl) (GH.renK hS [(0,0),(1,1),(2,2)] 3)
    ·refine AW.cF rfl (dF h2) ?_
     refine AW.skip ?_
     refine AW.seq (AW.regL ?_)
     refine V rfl ?_
     refine AL.nil ?_
     refine AW.block ?_
     refine AW.lenR 3 rfl fun hl3=>?_
     refine bdE hr fun s7 hqq6 hr=>?_
     refine AW.eachL hqq6 hl3 5 (fun k3 s7=>[(2,.pb 0 0),(3,.pb 1 0),(5,.ref 2 none),(6,.d .fz (.i .i64 s3)),(7,.pb 4 0),(9,.d .fz (.i .i64 1)),(10,.d .fz (.i .i64 (k3:Int)))]) (fun k3 s7=>[(2,.row .fz 2 (s7.map Occurrence.D))]) (GH.trans (GH.bw (q:=0) [.d m (.sl 2 (a0.Symbols.map Symbol.D)),.u] (.cons .rfl (.cons .u .nil)) rfl) (GH.renK hS [(0,0),(1,1),(2,2),(3,3),(4,4)] 5)) (fun k3 xk3 sk3 ok3 hxk3 hr hltk3=>?_) fun k3 hltk3=>?_
     ·obtain⟨s7,rfl⟩:∃ y,y=sk3:=⟨_,rfl⟩
      refine AW.seq (AW.seq (AW.regL ?_))
      iterate 3 refine V rfl ?_
      refine LE ?_
      refine V rfl ?_
      refine AL.nil ?_
      refine AW.cT rfl (dT hltk3) ?_
      refine AW.skip ?_
      refine bdE hr fun s8 hqq7 hr=>?_
      refine AW.seq (AW.cut1 5 [(2,.pb 0 0),(3,.pb 1 0),(5,.ref 2 none),(6,.d .fz (.i .i64 s3)),(7,.pb 4 0),(9,.d .fz (.i .i64 1)),(10,.d .fz (.i .i64 (k3:Int)))] [(2,.row .fz 2 (s8.map Occurrence.D))] ?_ ?_)
      ·replace hr:=hqq7
       refine AW.block (AW.seq (AW.regL ?_))
       iterate 3 refine V rfl ?_
       refine IE hxk3 (Int.natCast_nonneg _) ?_
       refine V rfl ?_
       refine LP hxk3 ?_
       iterate 2 refine V rfl ?_
       refine AL.nil ?_
       refine ifE hr (fun h4 hr=>?_) fun h4 hr=>?_
       ·refine AW.cT rfl (dT h4) ?_
        refine AW.regL ?_
        iterate 5 refine V rfl ?_
        refine IE hxk3 (Int.natCast_nonneg _) ?_
        refine V rfl ?_
        refine LP hxk3 ?_
        refine V rfl ?_
        refine LIR 5 (m:=.fz) (f:=Occurrence.D) (xs:=[(⟨s3,xk3.Name⟩:Occurrence)]) ?_
        refine ggE hr fun g2 hr=>?_
        refine APf1 (f:=Occurrence.D) 6 (fun _=>rfl) 24 g2 ?_
        refine V rfl ?_
        refine AL.nil ?_
        cases hr
        exact GH.trans (GH.bw (q:=0) [.d m (.sl 2 (a0.Symbols.map Symbol.D)),.u] (.cons .rfl (.cons .u .nil)) rfl) (GH.renK hS [(0,0),(1,1),(6,2),(3,3),(4,4)] 5)
       ·refine AW.cF rfl (dF h4) ?_
        refine AW.skip ?_
        cases hr
        exact GH.trans (GH.bw (q:=0) [.d m (.sl 2 (a0.Symbols.map Symbol.D)),.u] (.cons .rfl (.cons .u .nil)) rfl) (GH.renK hS [(0,0),(1,1),(2,2),(3,3),(4,4)] 5)
      ·refine AW.regL ?_
       refine V rfl ?_
       refine OB _ (q2b (p:=k3) (q:=1) (q1o hltk3 hl3)) ?_
       refine V rfl ?_
       refine AL.nil ?_
       cases hr
       exact GH.trans (GH.bw (q:=0) [.d m (.sl 2 (a0.Symbols.map Symbol.D)),.u] (.cons .rfl (.cons .u .nil)) rfl) (GH.renK hS [(0,0),(1,1),(2,2),(3,3),(4,4)] 5)
     ·refine AW.seq (AW.seq (AW.regL ?_))
      iterate 3 refine V rfl ?_
      refine LE ?_
      refine V rfl ?_
      refine AL.nil ?_
      refine AW.cF rfl (dF hltk3) ?_
      refine AW.exit ?_
      cases hr
      exact GH.trans (GH.bw (q:=0) [.d m (.sl 2 (a0.Symbols.map Symbol.D)),.u] (.cons .rfl (.cons .u .nil)) rfl) (GH.renK hS [(0,0),(1,1),(2,2)] 3)
   ·refine AW.regL ?_
    refine V rfl ?_
    refine ggE hr fun g3 hr=>?_
    refine OB _ (bAdd g3) ?_
    refine V rfl ?_
    refine AL.nil ?_
    cases hr
    exact⟨_,rfl,GH.trans (GH.bw (q:=0) [.d m (.sl 2 (a0.Symbols.map Symbol.D)),.u] (.cons .rfl (.cons .u .nil)) rfl) (GH.renK hS [(0,0),(1,1),(2,2)] 3)⟩
  ·refine AW.cF rfl (dF h1) ?_
   refine AW.exit ?_
   cases hr
   cases hik1 _ rfl
   exact GH.trans (GH.bw (q:=0) [.d m (.sl 2 (a0.Symbols.map Symbol.D)),.u] (.cons .rfl (.cons .u .nil)) rfl) (GH.renK hS [(0,0),(1,1),(2,2)] 3)
 ·refine AW.seq (AW.regL ?_)
  iterate 2 refine V rfl ?_
  refine AL.nil ?_
  refine AW.ret ?_
  cases hr
  exact endA.renK [(2,0)] 1 hS
def q5C (a1:ByteArray):Nat→Attribute→Unit→Option (Unit ⊕ (Attribute × Bool)):=fun k1 xk1 _=>
 if xk1.Name=a1 then (
 some (.inr (xk1,true))
 ) else (
 some (.inl ())
 )
def q2j (a0:Symbol)(a1:ByteArray):Option (Attribute × Bool):=
 (findL (q5C a1) 0 a0.Attributes ()).bind <| onr (fun r1=>some r1) fun _=>
 some ((⟨(⟨#[]⟩:ByteArray),0,0,false⟩:Attribute),false)
theorem q4D {m:Md}{a0:Symbol}{a1:ByteArray}{r:(Attribute × Bool)}(hr:q2j a0 a1=some r):Ok Tryz.prog 81 [Symbol.x m a0,.d .fz (.s a1)] [] (.tu [Attribute.x .fz r.1,.d .fz (.b r.2)]) []:=by
 refine Ok.enter rfl Tryz.func81 rfl rfl rfl fun S hS=>?_
 unfold q2j at hr
 refine AW.seq (AW.regL ?_)
 refine BX 0 ?_
 refine NV 1 ?_
 refine V rfl ?_
 refine AL.nil ?_
 refine AW.seq (AW.seq (AW.regL ?_))
 refine V rfl ?_
 refine AL.nil ?_
 refine AW.block ?_
 refine AW.len (.ag 1 (.tmp 0 rfl) rfl) fun hl1=>?_
 refine bdE hr fun q1 hqq1 hr=>?_
 refine AW.findL hqq1 hl1 2 (fun k1 _=>[(1,.d .fz (.s a1)),(2,.pb 0 0),(4,.pb 1 0),(6,.d .fz (.i .i64 (k1:Int)))]) (fun k1 _=>[]) (GH.renK hS [(0,0),(1,1)] 2) (fun k1 xk1 sk1 ok1 hxk1 hr hltk1 hik1=>?_) fun k1 sk1 ek1 hltk1=>?_
 ·refine AW.seq (AW.seq (AW.regL ?_))
  iterate 3 refine V rfl ?_
  refine LF ?_
  refine V rfl ?_
  refine AL.nil ?_
  refine AW.cT rfl (dT hltk1) ?_
  refine AW.skip ?_
  refine AW.seq (AW.block (AW.seq (AW.regL ?_)))
  iterate 3 refine V rfl ?_
  refine IF (Int.natCast_nonneg _) hxk1 ?_
  iterate 4 refine V rfl ?_
  refine AL.nil ?_
  refine ifE hr (fun h1 hr=>?_) fun h1 hr=>?_
  ·refine AW.cT rfl (dT h1) ?_
   refine AW.seq (AW.regL ?_)
   iterate 3 refine V rfl ?_
   refine IF (Int.natCast_nonneg _) hxk1 ?_
   refine V rfl ?_
   refine SB ?_
   refine V rfl ?_
   refine AL.nil ?_
   refine AW.ret ?_
   cases hr
   cases hik1 _ rfl
   rename_i hr
   cases hr
   exact endA.renK [] 0 hS
  ·refine AW.cF rfl (dF h1) ?_
   refine AW.skip ?_
   refine AW.regL ?_
   refine V rfl ?_
   refine OB _ (q2b (p:=k1) (q:=1) (q1o hltk1 hl1)) ?_
   refine V rfl ?_
   refine AL.nil ?_
   cases hr
   exact⟨_,rfl,GH.renK hS [(0,0),(1,1)] 2⟩
 ·subst ek1
  refine AW.seq (AW.seq (AW.regL ?_))
  iterate 3 refine V rfl ?_
  refine LF ?_
  refine V rfl ?_
  refine AL.nil ?_
  refine AW.cF rfl (dF hltk1) ?_
  refine AW.exit ?_
  refine AW.seq (AW.regL ?_)
  refine V rfl ?_
  refine SB ?_
  refine V rfl ?_
  refine AL.nil ?_
  refine AW.ret ?_
  cases hr
  exact endA.renK [] 0 hS
def z5c (a2:Int)(s3:Int):Nat→Attribute→((List Occurrence))→Option ((List Occurrence)):=fun k2 xk2 s4=>
 (
 (
 if s3=0 then (
 some (decide (xk2.Mode=1))
 ) else (
 some false
 )
 ).bind fun s6=>
 (
 if s6=true then (
 some true
 ) else (
 (
 if 0 < s3 then (
 some (true,decide (xk2.Mode=2))
 ) else (
 some (false,false)
 )
 ).bind fun (s8,s9)=>
 some s9
 )
 ).bind fun s7=>
 (
 if xk2.Type_=a2 then (
 some s7
 ) else (
 some false
 )
 ).bind fun s10=>
 if s10=true then (
 grd (((s4.length:Int)+1)*24≤140737488355328∧(s4.length:Int)+1≤9223372036854775807) <|
 some (s4++[(⟨s3,xk2.Name⟩:Occurrence)])
 ) else (
 some s4
 )
 ).bind fun s5=>
 some s5
def z5d (a0:Grammar)(a1:Rule)(a2:Int):((List Occurrence) × Int)→Option (((List Occurrence) × Int) ⊕ ((List Occurrence))):=fun (s2,s3)=>
 if s3≤(a1.Right.length:Int) then (
 (q1X a1 s3).bind fun y1=>
 (q1U a0 y1).bind fun (y2,y3)=>
 (eachL (z5c a2 s3) 0 y2.Attributes s2).bind fun s4=>
 grd (I64 (s3+1)) <|
 some (.inl (s4,(s3+1)))
 ) else (
 some (.inr s2)
 )
def q5P (a0:Grammar)(a1:Rule)(a2:Int):Option (List Occurrence):=
 (q2t (z5d a0 a1 a2) (([]:List Occurrence),0)).bind fun s1=>
 some s1
theorem q7q {m:Md}{a0:Grammar}{a1:Rule}{a2:Int}{r:(List Occurrence)}(hr:q5P a0 a1 a2=some r):Ok Tryz.prog 123 [Grammar.y m a0,Rule.x m a1,.d .fz (.i .i64 a2)] [] (.ref 0 none) [.row .fz 2 (r.map Occurrence.D)]:=by
 refine Ok.enter rfl Tryz.func123 rfl rfl rfl fun S hS=>?_
 unfold q5P at hr
 refine AW.seq (AW.regL ?_)
 refine BX 0 ?_
 refine BX 1 ?_
 refine V rfl ?_
 refine AL.nil ?_
 refine AW.seq (AW.regL ?_)
 refine L0 2 Occurrence.D ?_
 refine V rfl ?_
 refine AL.nil ?_
 refine AW.seq (AW.seq (AW.regL ?_))
 refine V rfl ?_
 refine AL.nil ?_
 refine bdE hr fun s1 hqq1 hr=>?_
 refine AW.cut1 3 [(7,.ref 2 none)] [(2,.row .fz 2 (s1.map Occurrence.D))] ?_ ?_
 ·refine AW.block (AW.iter hqq1 3 (fun (s2,s3)=>[(2,.d .fz (.i .i64 a2)),(3,.pb 0 0),(4,.pb 1 0),(7,.ref 2 none),(8,.d .fz (.i .i64 s3))]) (fun (s2,s3)=>[(2,.row .fz 2 (s2.map Occurrence.D))]) (GH.trans (GH.bw (q:=0) [.d m (.sl 2 (a0.Symbols.map Symbol.D)),.u] (.cons .rfl (.cons .u .nil)) rfl) (GH.renK hS [(0,0),(1,1),(2,2)] 3)) fun sk1 ok1 hr hik1=>?_)
  obtain⟨s2,s3⟩:=sk1
  have hr:=hr
  refine AW.seq (AW.seq (AW.regL ?_))
  iterate 3 refine V rfl ?_
  refine LF ?_
  refine V rfl ?_
  refine AL.nil ?_
  refine ifE hr (fun h1 hr=>?_) fun h1 hr=>?_
  ·refine AW.cT rfl (dT h1) ?_
   refine AW.skip ?_
   refine AW.seq (AW.block (AW.seq (AW.drawL (h:=?_))))
   iterate 3 refine V rfl ?_
   refine bdE hr fun y1 hy1 hr=>?_
   refine CB [] [] (q3F (m:=m) hy1) ?_
   refine bdE hr fun q2 hq2 hr=>?_
   obtain⟨y2,y3⟩:=q2
   refine CB [(0,3)] [] (q3m (m:=m) hq2) ?_
   iterate 3 refine V rfl ?_
   refine NV 4 ?_
   refine SB ?_
   refine V rfl ?_
   refine AL.nil ?_
   refine AW.seq (AW.regL ?_)
   refine V rfl ?_
   refine AL.nil ?_
   refine AW.block ?_
   refine AW.lenR 3 rfl fun hl2=>?_
   refine bdE hr fun s4 hqq3 hr=>?_
   refine AW.eachL hqq3 hl2 5 (fun k2 s4=>[(2,.d .fz (.i .i64 a2)),(3,.pb 0 0),(4,.pb 1 0),(7,.ref 2 none),(8,.d .fz (.i .i64 s3)),(9,.pb 4 0),(11,.d .fz (.i .i64 (k2:Int)))]) (fun k2 s4=>[(2,.row .fz 2 (s4.map Occurrence.D))]) (GH.trans (GH.bw (q:=0) [.d m (.sl 2 (a0.Symbols.map Symbol.D)),.u] (.cons .rfl (.cons .u .nil)) rfl) (GH.renK hS [(0,0),(1,1),(2,2),(3,3),(4,4)] 5)) (fun k2 xk2 sk2 ok2 hxk2 hr hltk2=>?_) fun k2 hltk2=>?_
   ·obtain⟨s4,rfl⟩:∃ y,y=sk2:=⟨_,rfl⟩
    refine AW.seq (AW.seq (AW.regL ?_))
    iterate 3 refine V rfl ?_
    refine LE ?_
    refine V rfl ?_
    refine AL.nil ?_
    refine AW.cT rfl (dT hltk2) ?_
    refine AW.skip ?_
    refine bdE hr fun s5 hqq4 hr=>?_
    refine AW.seq (AW.cut1 5 [(2,.d .fz (.i .i64 a2)),(3,.pb 0 0),(4,.pb 1 0),(7,.ref 2 none),(8,.d .fz (.i .i64 s3)),(9,.pb 4 0),(11,.d .fz (.i .i64 (k2:Int)))] [(2,.row .fz 2 (s5.map Occurrence.D))] ?_ ?_)
    ·replace hr:=hqq4
     refine AW.block (AW.seq (AW.regL ?_))
     iterate 3 refine V rfl ?_
     refine IE hxk2 (Int.natCast_nonneg _) ?_
     refine LPa hxk2 ?_
     refine NV 5 ?_
     refine SB ?_
     refine AL.nil ?_
     refine AW.seq (AW.regL ?_)
     iterate 2 refine V rfl ?_
     refine bdE hr fun s6 hqq5 hr=>?_
     refine AL.meet1 5 [(2,.d .fz (.i .i64 a2)),(3,.pb 0 0),(4,.pb 1 0),(7,.ref 2 none),(8,.d .fz (.i .i64 s3)),(9,.pb 4 0),(11,.d .fz (.i .i64 (k2:Int))),(12,.pb 5 0),(48,.d .fz (.b s6))] ?_ ?_
     ·replace hr:=hqq5
      refine ifE hr (fun h2 hr=>?_) fun h2 hr=>?_
      ·refine VT rfl (dT h2) ?_
       iterate 4 refine V rfl ?_
       refine AL.nil ?_
       cases hr
       exact q1r
      ·refine VF rfl (dF h2) ?_
       refine AL.off ?_
       refine AL.off ?_
       refine AL.off ?_
       refine V rfl ?_
       refine AL.nil ?_
       cases hr
       exact q1r
     ·refine bdE hr fun s7 hqq6 hr=>?_
      refine AL.meet1 9 [(2,.d .fz (.i .i64 a2)),(3,.pb 0 0),(4,.pb 1 0),(7,.ref 2 none),(8,.d .fz (.i .i64 s3)),(9,.pb 4 0),(11,.d .fz (.i .i64 (k2:Int))),(12,.pb 5 0),(57,.d .fz (.b s7))] ?_ ?_
      ·replace hr:=hqq6
       refine ifE hr (fun h3 hr=>?_) fun h3 hr=>?_
       ·refine VT rfl h3 ?_
        refine AL.off ?_
        refine AL.off ?_
        refine AL.off ?_
        refine AL.off ?_
        refine AL.off ?_
        refine AL.off ?_
        refine AL.off ?_
        refine V rfl ?_
        refine AL.nil ?_
        cases hr
        exact q1r
       ·refine VF rfl (bF h3) ?_
        iterate 2 refine V rfl ?_
        refine bdE hr fun q7 hqq7 hr=>?_
        obtain⟨s8,s9⟩:=q7
        refine AL.meet1 5 [(2,.d .fz (.i .i64 a2)),(3,.pb 0 0),(4,.pb 1 0),(7,.ref 2 none),(8,.d .fz (.i .i64 s3)),(9,.pb 4 0),(11,.d .fz (.i .i64 (k2:Int))),(12,.pb 5 0),(49,.d .fz (.b false)),(50,.d .fz (.i .i64 s3)),(51,.d .fz (.b (decide (0 < s3)))),(52,.d .fz (.b s8)),(56,.d .fz (.b s9))] ?_ ?_
        ·replace hr:=hqq7
         refine ifE hr (fun h4 hr=>?_) fun h4 hr=>?_
         ·refine VT rfl (dT h4) ?_
          iterate 4 refine V rfl ?_
          refine AL.nil ?_
          cases hr
          exact q1r
         ·refine VF rfl (dF h4) ?_
          refine AL.off ?_
          refine AL.off ?_
          refine AL.off ?_
          refine V rfl ?_
          refine AL.nil ?_
          cases hr
          exact q1r
        ·refine V rfl ?_
         refine AL.nil ?_
         cases hr
         exact q1r
      ·refine V rfl ?_
       refine AL.nil ?_
       refine AW.seq (AW.regL ?_)
       iterate 4 refine V rfl ?_
       refine bdE hr fun s10 hqq8 hr=>?_
       refine AL.meet1 3 [(2,.d .fz (.i .i64 a2)),(3,.pb 0 0),(4,.pb 1 0),(7,.ref 2 none),(8,.d .fz (.i .i64 s3)),(9,.pb 4 0),(11,.d .fz (.i .i64 (k2:Int))),(12,.pb 5 0),(64,.d .fz (.b s10))] ?_ ?_
       ·replace hr:=hqq8
        refine ifE hr (fun h5 hr=>?_) fun h5 hr=>?_
        ·refine VT rfl (dT h5) ?_
         iterate 2 refine V rfl ?_
         refine AL.nil ?_
         cases hr
         exact q1r
        ·refine VF rfl (dF h5) ?_
         refine AL.off ?_
         refine V rfl ?_
         refine AL.nil ?_
         cases hr
         exact q1r
       ·refine AL.nil ?_
        refine ifE hr (fun h6 hr=>?_) fun h6 hr=>?_
        ·refine AW.cT rfl h6 ?_
         refine AW.regL ?_
         iterate 5 refine V rfl ?_
         refine LIR 6 (m:=.fz) (f:=Occurrence.D) (xs:=[(⟨s3,xk2.Name⟩:Occurrence)]) ?_
         refine ggE hr fun g1 hr=>?_
         refine APf1 (f:=Occurrence.D) 7 (fun _=>rfl) 24 g1 ?_
         refine V rfl ?_
         refine AL.nil ?_
         cases hr
         exact GH.trans (GH.bw (q:=0) [.d m (.sl 2 (a0.Symbols.map Symbol.D)),.u] (.cons .rfl (.cons .u .nil)) rfl) (GH.renK hS [(0,0),(1,1),(7,2),(3,3),(4,4)] 5)
        ·refine AW.cF rfl (bF h6) ?_
         refine AW.skip ?_
         cases hr
         exact GH.trans (GH.bw (q:=0) [.d m (.sl 2 (a0.Symbols.map Symbol.D)),.u] (.cons .rfl (.cons .u .nil)) rfl) (GH.renK hS [(0,0),(1,1),(2,2),(3,3),(4,4)] 5)
    ·refine AW.regL ?_
     refine V rfl ?_
     refine OB _ (q2b (p:=k2) (q:=1) (q1o hltk2 hl2)) ?_
     refine V rfl ?_
     refine AL.nil ?_
     cases hr
     exact GH.trans (GH.bw (q:=0) [.d m (.sl 2 (a0.Symbols.map Symbol.D)),.u] (.cons .rfl (.cons .u .nil)) rfl) (GH.renK hS [(0,0),(1,1),(2,2),(3,3),(4,4)] 5)
   ·refine AW.seq (AW.seq (AW.regL ?_))
    iterate 3 refine V rfl ?_
    refine LE ?_
    refine V rfl ?_
    refine AL.nil ?_
    refine AW.cF rfl (dF hltk2) ?_
    refine AW.exit ?_
    refine AW.regL ?_
    refine V rfl ?_
    refine ggE hr fun g2 hr=>?_
    refine OB _ (bAdd g2) ?_
    refine V rfl ?_
    refine AL.nil ?_
    cases hr
    exact⟨_,rfl,GH.trans (GH.bw (q:=0) [.d m (.sl 2 (a0.Symbols.map Symbol.D)),.u] (.cons .rfl (.cons .u .nil)) rfl) (GH.renK hS [(0,0),(1,1),(2,2)] 3)⟩
  ·refine AW.cF rfl (dF h1) ?_
   refine AW.exit ?_
   cases hr
   cases hik1 _ rfl
   exact GH.trans (GH.bw (q:=0) [.d m (.sl 2 (a0.Symbols.map Symbol.D)),.u] (.cons .rfl (.cons .u .nil)) rfl) (GH.renK hS [(0,0),(1,1),(2,2)] 3)
 ·refine AW.seq (AW.regL ?_)
  iterate 2 refine V rfl ?_
  refine AL.nil ?_
  refine AW.ret ?_
  cases hr
  exact endA.renK [(2,0)] 1 hS
def q3C (a0:Int)(a1:Int):Option Expr:=
 some (⟨1,a0,0,a1,(⟨#[]⟩:ByteArray),(⟨#[]⟩:ByteArray),[]⟩:Expr)
theorem q4T {a0:Int}{a1:Int}{r:Expr}(hr:q3C a0 a1=some r):Ok Tryz.prog 93 [.d .fz (.i .i64 a0),.d .fz (.i .i64 a1)] [] (.ag [.d .fz (.i .i64 r.Kind),.d .fz (.i .i64 r.N),.d .fz (.i .i64 r.Pos),.d .fz (.i .i64 r.Type_),.d .fz (.s r.Symbol),.d .fz (.s r.Name),.ref 0 none]) [.row .fz 7 (r.Args.map Expr.D)]:=by
 refine Ok.enter rfl Tryz.func93 rfl rfl rfl fun S hS=>?_
 unfold q3C at hr
 refine AW.seq (AW.regL ?_)
 refine NV 0 ?_
 refine AL.nil ?_
 refine AW.seq (AW.regL ?_)
 iterate 3 refine V rfl ?_
 refine SB ?_
 refine AL.nil ?_
 refine AW.ret ?_
 refine endA.gh (GH.nlB (q:=0) (c:=6) (r:=1) .fz 7 rfl rfl rfl) ?_
 cases hr
 exact endA.renK [(1,0)] 1 hS
def q3G (a1:Int)(a2:(List Occurrence))(o0:l1Cur):Option (Expr × l1Cur):=
 if 0 < (a2.length:Int) then (
 (q1L 4 o0).bind fun (y1,z1)=>
 if y1=true then (
 if a1=4 then (
 (q1L 3 (⟨o0.b,z1.i,z1.h⟩:l1Cur)).bind fun (y2,z2)=>
 if y2=true then (
 some ((⟨7,0,0,0,(⟨#[]⟩:ByteArray),(⟨#[]⟩:ByteArray),[]⟩:Expr),(⟨o0.b,z2.i,z2.h⟩:l1Cur))
 ) else (
 some ((⟨6,0,0,0,(⟨#[]⟩:ByteArray),(⟨#[]⟩:ByteArray),[]⟩:Expr),(⟨o0.b,z2.i,z2.h⟩:l1Cur))
 )
 ) else (
 if a1=3 then (
 (q1p 2 (⟨o0.b,z1.i,z1.h⟩:l1Cur)).bind fun (y3,z3)=>
 (q3C y3 a1).bind fun y4=>
 some (y4,(⟨o0.b,z3.i,z3.h⟩:l1Cur))
 ) else (
 if a1=2 then (
 (q1p 12 (⟨o0.b,z1.i,z1.h⟩:l1Cur)).bind fun (y5,z4)=>
 grd (0≤y5) <|
 grd (0≤y5∧y5 < 63) <|
 (q3C ((2 ^ y5.toNat:Nat):Int) a1).bind fun y6=>
 some (y6,(⟨o0.b,z4.i,z4.h⟩:l1Cur))
 ) else (
 (q1p 9 (⟨o0.b,z1.i,z1.h⟩:l1Cur)).bind fun (y7,z5)=>
 (q3C y7 1).bind fun y8=>
 some (y8,(⟨o0.b,z5.i,z5.h⟩:l1Cur))
 )
 )
 )
 ) else (
 (q1p (a2.length:Int) (⟨o0.b,z1.i,z1.h⟩:l1Cur)).bind fun (y9,z6)=>
 grd (0≤y9) <|
 (a2[y9.toNat]?).bind fun x1=>
 some ((⟨3,0,x1.Pos,0,(⟨#[]⟩:ByteArray),x1.Name,[]⟩:Expr),(⟨o0.b,z6.i,z6.h⟩:l1Cur))
 )
 ) else (
 if a1=4 then (
 (q1L 3 o0).bind fun (y10,z7)=>
 if y10=true then (
 some ((⟨7,0,0,0,(⟨#[]⟩:ByteArray),(⟨#[]⟩:ByteArray),[]⟩:Expr),(⟨o0.b,z7.i,z7.h⟩:l1Cur))
 ) else (
 some ((⟨6,0,0,0,(⟨#[]⟩:ByteArray),(⟨#[]⟩:ByteArray),[]⟩:Expr),(⟨o0.b,z7.i,z7.h⟩:l1Cur))
 )
 ) else (
 if a1=3 then (
 (q1p 2 o0).bind fun (y11,z8)=>
 (q3C y11 a1).bind fun y12=>
 some (y12,(⟨o0.b,z8.i,z8.h⟩:l1Cur))
 ) else (
 if a1=2 then (
 (q1p 12 o0).bind fun (y13,z9)=>
 grd (0≤y13) <|
 grd (0≤y13∧y13 < 63) <|
 (q3C ((2 ^ y13.toNat:Nat):Int) a1).bind fun y14=>
 some (y14,(⟨o0.b,z9.i,z9.h⟩:l1Cur))
 ) else (
 (q1p 9 o0).bind fun (y15,z10)=>
 (q3C y15 1).bind fun y16=>
 some (y16,(⟨o0.b,z10.i,z10.h⟩:l1Cur))
 )
 )
 )
 )
theorem q4E {m:Md}{a1:Int}{a2:(List Occurrence)}{o0:l1Cur}{r:(Expr × l1Cur)}(hr:q3G a1 a2 o0=some r):Ok Tryz.prog 122 [.pb 0 0,.d .fz (.i .i64 a1),.d m (.sl 2 (a2.map Occurrence.D))] [.box [.d .fz (.sl 1 (o0.b.map byD)),.d .fz (.i .i64 o0.i),.d .fz (.i .i64 o0.h)]] (.ag [.d .fz (.i .i64 r.1.Kind),.d .fz (.i .i64 r.1.N),.d .fz (.i .i64 r.1.Pos),.d .fz (.i .i64 r.1.Type_),.d .fz (.s r.1.Symbol),.d .fz (.s r.1.Name),.ref 1 none]) [.box [.d .fz (.sl 1 (o0.b.map byD)),.d .fz (.i .i64 r.2.i),.d .fz (.i .i64 r.2.h)],.row .fz 7 (r.1.Args.map Expr.D)]:=by
 refine Ok.enter rfl Tryz.func122 rfl rfl rfl fun S hS=>?_
 unfold q3G at hr
 refine AW.seq (AW.regL ?_)
 refine NV 1 ?_
 refine AL.nil ?_
 refine AW.seq (AW.seq (AW.regL ?_))
 refine V rfl ?_
 refine LF ?_
 refine V rfl ?_
 refine ifE hr (fun h1 hr=>?_) fun h1 hr=>?_
 ·refine VT rfl (dT h1) ?_
  refine V rfl ?_
  refine bdE hr fun q1 hq1 hr=>?_
  obtain⟨y1,z1⟩:=q1
  refine CB [(0,0)] [] (q1W hq1) ?_
  iterate 2 refine V rfl ?_
  refine AL.nil ?_
  refine ifE hr (fun h2 hr=>?_) fun h2 hr=>?_
  ·refine AW.cF rfl (bnF h2) ?_
   refine AW.skip ?_
   refine AW.seq (AW.seq (AW.regL ?_))
   refine V rfl ?_
   refine AL.nil ?_
   refine AW.block (AW.seq (AW.regL ?_))
   iterate 2 refine V rfl ?_
   refine AL.nil ?_
   refine ifE hr (fun h3 hr=>?_) fun h3 hr=>?_
   ·refine AW.cT rfl (dT h3) ?_
    refine AW.seq (AW.seq (AW.regL ?_))
    refine V rfl ?_
    refine bdE hr fun q2 hq2 hr=>?_
    obtain⟨y2,z2⟩:=q2
    refine CB [(0,0)] [] (q1W hq2) ?_
    refine AL.nil ?_
    refine ifE hr (fun h4 hr=>?_) fun h4 hr=>?_
    ·refine AW.cT rfl h4 ?_
     refine AW.seq (AW.regL ?_)
     refine V rfl ?_
     refine SB ?_
     refine AL.nil ?_
     refine AW.ret ?_
     refine endA.gh (GH.nlB (q:=1) (c:=6) (r:=2) .fz 7 rfl rfl rfl) ?_
     cases hr
     exact endA.renK [(0,0),(2,1)] 2 hS
    ·refine AW.cF rfl (bF h4) ?_
     refine AW.skip ?_
     refine AW.seq (AW.regL ?_)
     refine V rfl ?_
     refine SB ?_
     refine AL.nil ?_
     refine AW.ret ?_
     refine endA.gh (GH.nlB (q:=1) (c:=6) (r:=2) .fz 7 rfl rfl rfl) ?_
     cases hr
     exact endA.renK [(0,0),(2,1)] 2 hS
   ·refine AW.cF rfl (dF h3) ?_
    refine AW.seq (AW.regL ?_)
    iterate 2 refine V rfl ?_
    refine AL.nil ?_
    refine ifE hr (fun h5 hr=>?_) fun h5 hr=>?_
    ·refine AW.cT rfl (dT h5) ?_
     refine AW.seq (AW.regL ?_)
     refine V rfl ?_
     refine bdE hr fun q3 hq3 hr=>?_
     obtain⟨y3,z3⟩:=q3
     refine CB [(0,0)] [] (q1q hq3) ?_
     refine V rfl ?_
     refine bdE hr fun y4 hy4 hr=>?_
     refine CB [(0,2)] [] (q4T hy4) ?_
     refine SB ?_
     refine AL.nil ?_
     refine AW.ret ?_
     cases hr
     exact endA.renK [(0,0),(2,1)] 2 hS
    ·refine AW.cF rfl (dF h5) ?_
     refine AW.seq (AW.regL ?_)
     iterate 2 refine V rfl ?_
     refine AL.nil ?_
     refine ifE hr (fun h6 hr=>?_) fun h6 hr=>?_
     ·refine AW.cT rfl (dT h6) ?_
      refine AW.seq (AW.regL ?_)
      refine V rfl ?_
      refine bdE hr fun q4 hq4 hr=>?_
      obtain⟨y5,z4⟩:=q4
      refine CB [(0,0)] [] (q1q hq4) ?_
      refine ggE hr fun g1 hr=>?_
      refine CIU g1 rfl ?_
      refine ggE hr fun g2 hr=>?_
      refine OB _ (z8l g2) ?_
      refine V rfl ?_
      refine bdE hr fun y6 hy6 hr=>?_
      refine CB [(0,2)] [] (q4T hy6) ?_
      refine SB ?_
      refine AL.nil ?_
      refine AW.ret ?_
      cases hr
      exact endA.renK [(0,0),(2,1)] 2 hS
     ·refine AW.cF rfl (dF h6) ?_
      refine AW.skip ?_
      refine AW.seq (AW.regL ?_)
      refine V rfl ?_
      refine bdE hr fun q5 hq5 hr=>?_
      obtain⟨y7,z5⟩:=q5
      refine CB [(0,0)] [] (q1q hq5) ?_
      refine bdE hr fun y8 hy8 hr=>?_
      refine CB [(0,2)] [] (q4T hy8) ?_
      refine SB ?_
      refine AL.nil ?_
      refine AW.ret ?_
      cases hr
      exact endA.renK [(0,0),(2,1)] 2 hS
  ·refine AW.cT rfl (bnT h2) ?_
   refine AW.seq (AW.regL ?_)
   iterate 3 refine V rfl ?_
   refine LF ?_
   refine bdE hr fun q6 hq6 hr=>?_
   obtain⟨y9,z6⟩:=q6
   refine CB [(0,0)] [] (q1q hq6) ?_
   refine ggE hr fun g3 hr=>?_
   refine bdE hr fun x1 hx1 hr=>?_
   refine IF g3 hx1 ?_
   refine V rfl ?_
   refine NV 2 ?_
   refine SB ?_
   refine AL.nil ?_
   refine AW.seq (AW.regL ?_)
   iterate 5 refine V rfl ?_
   refine SB ?_
   refine AL.nil ?_
   refine AW.ret ?_
   refine endA.gh (GH.nlB (q:=1) (c:=6) (r:=3) .fz 7 rfl rfl rfl) ?_
   cases hr
   exact endA.renK [(0,0),(3,1)] 2 hS
 ·refine VF rfl (dF h1) ?_
  refine AL.off ?_
  refine AL.off ?_
  refine AL.off ?_
  refine V rfl ?_
  refine AL.nil ?_
  refine AW.cF rfl rfl ?_
  refine AW.skip ?_
  refine AW.seq (AW.seq (AW.regL ?_))
  refine V rfl ?_
  refine AL.nil ?_
  refine AW.block (AW.seq (AW.regL ?_))
  iterate 2 refine V rfl ?_
  refine AL.nil ?_
  refine ifE hr (fun h7 hr=>?_) fun h7 hr=>?_
  ·refine AW.cT rfl (dT h7) ?_
   refine AW.seq (AW.seq (AW.regL ?_))
   refine V rfl ?_
   refine bdE hr fun q7 hq7 hr=>?_
   obtain⟨y10,z7⟩:=q7
   refine CB [(0,0)] [] (q1W hq7) ?_
   refine AL.nil ?_
   refine ifE hr (fun h8 hr=>?_) fun h8 hr=>?_
   ·refine AW.cT rfl h8 ?_
    refine AW.seq (AW.regL ?_)
    refine V rfl ?_
    refine SB ?_
    refine AL.nil ?_
    refine AW.ret ?_
    refine endA.gh (GH.nlB (q:=1) (c:=6) (r:=2) .fz 7 rfl rfl rfl) ?_
    cases hr
    exact endA.renK [(0,0),(2,1)] 2 hS
   ·refine AW.cF rfl (bF h8) ?_
    refine AW.skip ?_
    refine AW.seq (AW.regL ?_)
    refine V rfl ?_
    refine SB ?_
    refine AL.nil ?_
    refine AW.ret ?_
    refine endA.gh (GH.nlB (q:=1) (c:=6) (r:=2) .fz 7 rfl rfl rfl) ?_
    cases hr
    exact endA.renK [(0,0),(2,1)] 2 hS
  ·refine AW.cF rfl (dF h7) ?_
   refine AW.seq (AW.regL ?_)
   iterate 2 refine V rfl ?_
   refine AL.nil ?_
   refine ifE hr (fun h9 hr=>?_) fun h9 hr=>?_
   ·refine AW.cT rfl (dT h9) ?_
    refine AW.seq (AW.regL ?_)
    refine V rfl ?_
    refine bdE hr fun q8 hq8 hr=>?_
    obtain⟨y11,z8⟩:=q8
    refine CB [(0,0)] [] (q1q hq8) ?_
    refine V rfl ?_
    refine bdE hr fun y12 hy12 hr=>?_
    refine CB [(0,2)] [] (q4T hy12) ?_
    refine SB ?_
    refine AL.nil ?_
    refine AW.ret ?_
    cases hr
    exact endA.renK [(0,0),(2,1)] 2 hS
   ·refine AW.cF rfl (dF h9) ?_
    refine AW.seq (AW.regL ?_)
    iterate 2 refine V rfl ?_
    refine AL.nil ?_
    refine ifE hr (fun h10 hr=>?_) fun h10 hr=>?_
    ·refine AW.cT rfl (dT h10) ?_
     refine AW.seq (AW.regL ?_)
     refine V rfl ?_
     refine bdE hr fun q9 hq9 hr=>?_
     obtain⟨y13,z9⟩:=q9
     refine CB [(0,0)] [] (q1q hq9) ?_
     refine ggE hr fun g4 hr=>?_
     refine CIU g4 rfl ?_
     refine ggE hr fun g5 hr=>?_
     refine OB _ (z8l g5) ?_
     refine V rfl ?_
     refine bdE hr fun y14 hy14 hr=>?_
     refine CB [(0,2)] [] (q4T hy14) ?_
     refine SB ?_
     refine AL.nil ?_
     refine AW.ret ?_
     cases hr
     exact endA.renK [(0,0),(2,1)] 2 hS
    ·refine AW.cF rfl (dF h10) ?_
     refine AW.skip ?_
     refine AW.seq (AW.regL ?_)
     refine V rfl ?_
     refine bdE hr fun q10 hq10 hr=>?_
     obtain⟨y15,z10⟩:=q10
     refine CB [(0,0)] [] (q1q hq10) ?_
     refine bdE hr fun y16 hy16 hr=>?_
     refine CB [(0,2)] [] (q4T hy16) ?_
     refine SB ?_
     refine AL.nil ?_
     refine AW.ret ?_
     cases hr
     exact endA.renK [(0,0),(2,1)] 2 hS
def q1M (a0:Int):Option (Int × Int × Int):=
 (q2g a0 1 5).bind fun y1=>
 if y1=true then (
 some (1,1,1)
 ) else (
 (q2g a0 6 8).bind fun y2=>
 if y2=true then (
 some (2,2,2)
 ) else (
 if a0=9 then (
 some (1,1,3)
 ) else (
 if a0=10 then (
 some (1,1,3)
 ) else (
 if a0=11 then (
 some (2,1,3)
 ) else (
 if a0=12 then (
 some (2,1,2)
 ) else (
 some (0,0,0)
 )
 )
 )
 )
 )
 )
theorem q3a {a0:Int}{r:(Int × Int × Int)}(hr:q1M a0=some r):Ok Tryz.prog 138 [.d .fz (.i .i64 a0)] [] (.tu [.d .fz (.i .i64 r.1),.d .fz (.i .i64 r.2.1),.d .fz (.i .i64 r.2.2)]) []:=by
 refine Ok.enter rfl Tryz.func138 rfl rfl rfl fun S hS=>?_
 unfold q1M at hr
 refine AW.seq (AW.regL ?_)
 iterate 3 refine V rfl ?_
 refine AL.nil ?_
 refine AW.seq (AW.block (AW.seq (AW.regL ?_)))
 refine V rfl ?_
 refine bdE hr fun y1 hy1 hr=>?_
 refine CB [] [] (q2w hy1) ?_
 refine V rfl ?_
 refine AL.nil ?_
 refine ifE hr (fun h1 hr=>?_) fun h1 hr=>?_
 ·refine AW.cT rfl h1 ?_
  refine AW.seq (AW.regL ?_)
  iterate 3 refine V rfl ?_
  refine AL.nil ?_
  refine AW.ret ?_
  cases hr
  exact endA.renK [] 0 hS
 ·refine AW.cF rfl (bF h1) ?_
  refine AW.seq (AW.regL ?_)
  refine V rfl ?_
  refine bdE hr fun y2 hy2 hr=>?_
  refine CB [] [] (q2w hy2) ?_
  refine V rfl ?_
  refine AL.nil ?_
  refine ifE hr (fun h2 hr=>?_) fun h2 hr=>?_
  ·refine AW.cT rfl h2 ?_
   refine AW.seq (AW.regL ?_)
   iterate 3 refine V rfl ?_
   refine AL.nil ?_
   refine AW.ret ?_
   cases hr
   exact endA.renK [] 0 hS
  ·refine AW.cF rfl (bF h2) ?_
   refine AW.seq (AW.regL ?_)
   iterate 2 refine V rfl ?_
   refine ifE hr (fun h3 hr=>?_) fun h3 hr=>?_
   ·refine VT rfl (dT h3) ?_
    refine AL.off ?_
    refine AL.off ?_
    iterate 2 refine V rfl ?_
    refine AL.nil ?_
    refine AW.cT rfl rfl ?_
    refine AW.seq (AW.regL ?_)
    iterate 3 refine V rfl ?_
    refine AL.nil ?_
    refine AW.ret ?_
    cases hr
    exact endA.renK [] 0 hS
   ·refine VF rfl (dF h3) ?_
    iterate 4 refine V rfl ?_
    refine AL.nil ?_
    refine ifE hr (fun h4 hr=>?_) fun h4 hr=>?_
    ·refine AW.cT rfl (dT h4) ?_
     refine AW.seq (AW.regL ?_)
     iterate 3 refine V rfl ?_
     refine AL.nil ?_
     refine AW.ret ?_
     cases hr
     exact endA.renK [] 0 hS
    ·refine AW.cF rfl (dF h4) ?_
     refine AW.seq (AW.regL ?_)
     iterate 3 refine V rfl ?_
     refine AL.nil ?_
     refine ifE hr (fun h5 hr=>?_) fun h5 hr=>?_
     ·refine AW.cT rfl (dT h5) ?_
      refine AW.seq (AW.regL ?_)
      iterate 3 refine V rfl ?_
      refine AL.nil ?_
      refine AW.ret ?_
      cases hr
      exact endA.renK [] 0 hS
     ·refine AW.cF rfl (dF h5) ?_
      refine AW.seq (AW.regL ?_)
      iterate 3 refine V rfl ?_
      refine AL.nil ?_
      refine ifE hr (fun h6 hr=>?_) fun h6 hr=>?_
      ·refine AW.cT rfl (dT h6) ?_
       refine AW.seq (AW.regL ?_)
       iterate 3 refine V rfl ?_
       refine AL.nil ?_
       refine AW.ret ?_
       cases hr
       exact endA.renK [] 0 hS
      ·refine AW.cF rfl (dF h6) ?_
       refine AW.skip ?_
       refine AW.seq (AW.regL ?_)
       iterate 3 refine V rfl ?_
       refine AL.nil ?_
       refine AW.ret ?_
       cases hr
       exact endA.renK [] 0 hS
def q6z (a0:Int)(a1:Expr)(a2:Expr):Option Expr:=
 some (⟨4,a0,0,0,(⟨#[]⟩:ByteArray),(⟨#[]⟩:ByteArray),[a1,a2]⟩:Expr)
theorem q6W {m:Md}{a0:Int}{a1:Expr}{a2:Expr}{r:Expr}(hr:q6z a0 a1 a2=some r):Ok Tryz.prog 95 [.d .fz (.i .i64 a0),Expr.x m a1,Expr.x m a2] [] (.ag [.d .fz (.i .i64 r.Kind),.d .fz (.i .i64 r.N),.d .fz (.i .i64 r.Pos),.d .fz (.i .i64 r.Type_),.d .fz (.s r.Symbol),.d .fz (.s r.Name),.ref 0 none]) [.row m 7 (r.Args.map Expr.D)]:=by
 refine Ok.enter rfl Tryz.func95 rfl rfl rfl fun S hS=>?_
 unfold q6z at hr
 refine AW.seq (AW.regL ?_)
 refine BX 0 ?_
 refine BX 1 ?_
 refine NV 2 ?_
 refine AL.nil ?_
 refine AW.seq (AW.regL ?_)
 iterate 3 refine V rfl ?_
 refine LIRm 3 (m:=m) (f:=Expr.D) [a1,a2] (by simp only [List.map_cons,List.map_nil,Expr.D_eq]; rfl) ?_
 refine V rfl ?_
 refine SB ?_
 refine AL.nil ?_
 refine AW.ret ?_
 cases hr
 exact endA.renK [(3,0)] 1 hS
def q3q (rec_sl10Expr:Grammar→Rule→Int→Int→Bool→l1Cur→Option (Expr × l1Cur))(a1:Grammar)(a2:Rule)(a3:Int)(a4:Int)(a5:Bool)(o0:l1Cur):Option (Expr × l1Cur):=
 (
 if a4 < 2 then (
 some (true,o0.i,o0.h)
 ) else (
 (q1L 3 o0).bind fun (y1,z1)=>
 some (y1,z1.i,z1.h)
 )
 ).bind fun (s4,s5,s6)=>
 if s4=true then (
 (
 if a3=1 then (
 some a2.Literal
 ) else (
 some false
 )
 ).bind fun s7=>
 (
 if s7=true then (
 (q1L 3 (⟨o0.b,s5,s6⟩:l1Cur)).bind fun (y2,z2)=>
 some (y2,z2.i,z2.h)
 ) else (
 some (false,s5,s6)
 )
 ).bind fun (s11,s12,s13)=>
 if s11=true then (
 some ((⟨2,0,0,0,(⟨#[]⟩:ByteArray),(⟨#[]⟩:ByteArray),[]⟩:Expr),(⟨o0.b,s12,s13⟩:l1Cur))
 ) else (
 (q5P a1 a2 a3).bind fun y3=>
 (q3G a3 y3 (⟨o0.b,s12,s13⟩:l1Cur)).bind fun (y4,z3)=>
 some (y4,(⟨o0.b,z3.i,z3.h⟩:l1Cur))
 )
 ) else (
 (
 if a5=true then (
 (q1L 4 (⟨o0.b,s5,s6⟩:l1Cur)).bind fun (y5,z4)=>
 some (y5,z4.i,z4.h)
 ) else (
 some (false,s5,s6)
 )
 ).bind fun (s17,s18,s19)=>
 if s17=true then (
 (q1p (a1.Symbols.length:Int) (⟨o0.b,s18,s19⟩:l1Cur)).bind fun (y6,z5)=>
 grd (0≤y6) <|
 (a1.Symbols[y6.toNat]?).bind fun x1=>
 (q1p (x1.Attributes.length:Int) (⟨o0.b,z5.i,z5.h⟩:l1Cur)).bind fun (y7,z6)=>
 grd (0≤y7) <|
 (x1.Attributes[y7.toNat]?).bind fun x2=>
 if x2.Type_=a3 then (
 (q5P a1 a2 4).bind fun y8=>
 (q3G 4 y8 (⟨o0.b,z6.i,z6.h⟩:l1Cur)).bind fun (y9,z7)=>
 some ((⟨8,0,0,0,x1.Name,x2.Name,[y9]⟩:Expr),(⟨o0.b,z7.i,z7.h⟩:l1Cur))
 ) else (
 (q1L 6 (⟨o0.b,z6.i,z6.h⟩:l1Cur)).bind fun (y10,z8)=>
 if y10=true then (
 grd (I64 (a4 - 1)) <|
 (rec_sl10Expr a1 a2 3 (a4 - 1) a5 (⟨o0.b,z8.i,z8.h⟩:l1Cur)).bind fun (y11,z9)=>
 grd (I64 (a4 - 1)) <|
 (rec_sl10Expr a1 a2 a3 (a4 - 1) a5 (⟨o0.b,z9.i,z9.h⟩:l1Cur)).bind fun (y12,z10)=>
 grd (I64 (a4 - 1)) <|
 (rec_sl10Expr a1 a2 a3 (a4 - 1) a5 (⟨o0.b,z10.i,z10.h⟩:l1Cur)).bind fun (y13,z11)=>
 some ((⟨5,0,0,0,(⟨#[]⟩:ByteArray),(⟨#[]⟩:ByteArray),[y11,y12,y13]⟩:Expr),(⟨o0.b,z11.i,z11.h⟩:l1Cur))
 ) else (
 if a3=4 then (
 (q5P a1 a2 a3).bind fun y14=>
 (q3G a3 y14 (⟨o0.b,z8.i,z8.h⟩:l1Cur)).bind fun (y15,z12)=>
 some (y15,(⟨o0.b,z12.i,z12.h⟩:l1Cur))
 ) else (
 if a3=1 then (
 (q1S ([1,1,2,3,4,5]:List Int) (⟨o0.b,z8.i,z8.h⟩:l1Cur)).bind fun (y16,z13)=>
 (q1M y16).bind fun (y17,y18,y19)=>
 grd (I64 (a4 - 1)) <|
 (rec_sl10Expr a1 a2 y17 (a4 - 1) a5 (⟨o0.b,z13.i,z13.h⟩:l1Cur)).bind fun (y20,z14)=>
 grd (I64 (a4 - 1)) <|
 (rec_sl10Expr a1 a2 y18 (a4 - 1) a5 (⟨o0.b,z14.i,z14.h⟩:l1Cur)).bind fun (y21,z15)=>
 (q6z y16 y20 y21).bind fun y22=>
 some (y22,(⟨o0.b,z15.i,z15.h⟩:l1Cur))
 ) else (
 if a3=2 then (
 (q1S ([6,6,7,8,12]:List Int) (⟨o0.b,z8.i,z8.h⟩:l1Cur)).bind fun (y23,z16)=>
 (q1M y23).bind fun (y24,y25,y26)=>
 grd (I64 (a4 - 1)) <|
 (rec_sl10Expr a1 a2 y24 (a4 - 1) a5 (⟨o0.b,z16.i,z16.h⟩:l1Cur)).bind fun (y27,z17)=>
 grd (I64 (a4 - 1)) <|
 (rec_sl10Expr a1 a2 y25 (a4 - 1) a5 (⟨o0.b,z17.i,z17.h⟩:l1Cur)).bind fun (y28,z18)=>
 (q6z y23 y27 y28).bind fun y29=>
 some (y29,(⟨o0.b,z18.i,z18.h⟩:l1Cur))
 ) else (
 (q1S ([9,10,11]:List Int) (⟨o0.b,z8.i,z8.h⟩:l1Cur)).bind fun (y30,z19)=>
 (q1M y30).bind fun (y31,y32,y33)=>
 grd (I64 (a4 - 1)) <|
 (rec_sl10Expr a1 a2 y31 (a4 - 1) a5 (⟨o0.b,z19.i,z19.h⟩:l1Cur)).bind fun (y34,z20)=>
 grd (I64 (a4 - 1)) <|
 (rec_sl10Expr a1 a2 y32 (a4 - 1) a5 (⟨o0.b,z20.i,z20.h⟩:l1Cur)).bind fun (y35,z21)=>
 (q6z y30 y34 y35).bind fun y36=>
 some (y36,(⟨o0.b,z21.i,z21.h⟩:l1Cur))
 )
 )
 )
 )
 )
 ) else (
 (q1L 6 (⟨o0.b,s18,s19⟩:l1Cur)).bind fun (y37,z22)=>
 if y37=true then (
 grd (I64 (a4 - 1)) <|
 (rec_sl10Expr a1 a2 3 (a4 - 1) a5 (⟨o0.b,z22.i,z22.h⟩:l1Cur)).bind fun (y38,z23)=>
 grd (I64 (a4 - 1)) <|
 (rec_sl10Expr a1 a2 a3 (a4 - 1) a5 (⟨o0.b,z23.i,z23.h⟩:l1Cur)).bind fun (y39,z24)=>
 grd (I64 (a4 - 1)) <|
 (rec_sl10Expr a1 a2 a3 (a4 - 1) a5 (⟨o0.b,z24.i,z24.h⟩:l1Cur)).bind fun (y40,z25)=>
 some ((⟨5,0,0,0,(⟨#[]⟩:ByteArray),(⟨#[]⟩:ByteArray),[y38,y39,y40]⟩:Expr),(⟨o0.b,z25.i,z25.h⟩:l1Cur))
 ) else (
 if a3=4 then (
 (q5P a1 a2 a3).bind fun y41=>
 (q3G a3 y41 (⟨o0.b,z22.i,z22.h⟩:l1Cur)).bind fun (y42,z26)=>
 some (y42,(⟨o0.b,z26.i,z26.h⟩:l1Cur))
 ) else (
 if a3=1 then (
 (q1S ([1,1,2,3,4,5]:List Int) (⟨o0.b,z22.i,z22.h⟩:l1Cur)).bind fun (y43,z27)=>
 (q1M y43).bind fun (y44,y45,y46)=>
 grd (I64 (a4 - 1)) <|
 (rec_sl10Expr a1 a2 y44 (a4 - 1) a5 (⟨o0.b,z27.i,z27.h⟩:l1Cur)).bind fun (y47,z28)=>
 grd (I64 (a4 - 1)) <|
 (rec_sl10Expr a1 a2 y45 (a4 - 1) a5 (⟨o0.b,z28.i,z28.h⟩:l1Cur)).bind fun (y48,z29)=>
 (q6z y43 y47 y48).bind fun y49=>
 some (y49,(⟨o0.b,z29.i,z29.h⟩:l1Cur))
 ) else (
 if a3=2 then (
 (q1S ([6,6,7,8,12]:List Int) (⟨o0.b,z22.i,z22.h⟩:l1Cur)).bind fun (y50,z30)=>
 (q1M y50).bind fun (y51,y52,y53)=>
 grd (I64 (a4 - 1)) <|
 (rec_sl10Expr a1 a2 y51 (a4 - 1) a5 (⟨o0.b,z30.i,z30.h⟩:l1Cur)).bind fun (y54,z31)=>
 grd (I64 (a4 - 1)) <|
 (rec_sl10Expr a1 a2 y52 (a4 - 1) a5 (⟨o0.b,z31.i,z31.h⟩:l1Cur)).bind fun (y55,z32)=>
 (q6z y50 y54 y55).bind fun y56=>
 some (y56,(⟨o0.b,z32.i,z32.h⟩:l1Cur))
 ) else (
 (q1S ([9,10,11]:List Int) (⟨o0.b,z22.i,z22.h⟩:l1Cur)).bind fun (y57,z33)=>
 (q1M y57).bind fun (y58,y59,y60)=>
 grd (I64 (a4 - 1)) <|
 (rec_sl10Expr a1 a2 y58 (a4 - 1) a5 (⟨o0.b,z33.i,z33.h⟩:l1Cur)).bind fun (y61,z34)=>
 grd (I64 (a4 - 1)) <|
 (rec_sl10Expr a1 a2 y59 (a4 - 1) a5 (⟨o0.b,z34.i,z34.h⟩:l1Cur)).bind fun (y62,z35)=>
 (q6z y57 y61 y62).bind fun y63=>
 some (y63,(⟨o0.b,z35.i,z35.h⟩:l1Cur))
 )
 )
 )
 )
 )
 )
theorem z5e {rec_sl10Expr:Grammar→Rule→Int→Int→Bool→l1Cur→Option (Expr × l1Cur)}(ih_sl10Expr:∀ {m:Md} {a1:Grammar} {a2:Rule} {a3:Int} {a4:Int} {a5:Bool} {o0:l1Cur} {r:(Expr × l1Cur)},rec_sl10Expr a1 a2 a3 a4 a5 o0=some r→Ok Tryz.prog 121 [.pb 0 0,Grammar.y m a1,Rule.x m a2,.d .fz (.i .i64 a3),.d .fz (.i .i64 a4),.d .fz (.b a5)] [.box [.d .fz (.sl 1 (o0.b.map byD)),.d .fz (.i .i64 o0.i),.d .fz (.i .i64 o0.h)]] (.ag [.d .fz (.i .i64 r.1.Kind),.d .fz (.i .i64 r.1.N),.d .fz (.i .i64 r.1.Pos),.d .fz (.i .i64 r.1.Type_),.d .fz (.s r.1.Symbol),.d .fz (.s r.1.Name),.ref 1 none]) [.box [.d .fz (.sl 1 (o0.b.map byD)),.d .fz (.i .i64 r.2.i),.d .fz (.i .i64 r.2.h)],.row .fz 7 (r.1.Args.map Expr.D)]){m:Md}{a1:Grammar}{a2:Rule}{a3:Int}{a4:Int}{a5:Bool}{o0:l1Cur}{r:(Expr × l1Cur)}(hr:q3q rec_sl10Expr a1 a2 a3 a4 a5 o0=some r):Ok Tryz.prog 121 [.pb 0 0,Grammar.y m a1,Rule.x m a2,.d .fz (.i .i64 a3),.d .fz (.i .i64 a4),.d .fz (.b a5)] [.box [.d .fz (.sl 1 (o0.b.map byD)),.d .fz (.i .i64 o0.i),.d .fz (.i .i64 o0.h)]] (.ag [.d .fz (.i .i64 r.1.Kind),.d .fz (.i .i64 r.1.N),.d .fz (.i .i64 r.1.Pos),.d .fz (.i .i64 r.1.Type_),.d .fz (.s r.1.Symbol),.d .fz (.s r.1.Name),.ref 1 none]) [.box [.d .fz (.sl 1 (o0.b.map byD)),.d .fz (.i .i64 r.2.i),.d .fz (.i .i64 r.2.h)],.row .fz 7 (r.1.Args.map Expr.D)]:=by
 refine Ok.enter rfl Tryz.func121 rfl rfl rfl fun S hS=>?_
 unfold q3q at hr
 refine AW.seq (AW.regL ?_)
 refine BX 1 ?_
 refine BX 2 ?_
 refine NV 3 ?_
 refine AL.nil ?_
 refine AW.seq (AW.seq (AW.regL ?_))
 iterate 2 refine V rfl ?_
 refine bdE hr fun q1 hqq1 hr=>?_
 obtain⟨s4,s5,s6⟩:=q1
 refine AL.meet2 4 4 [(0,.pb 0 0),(3,.d .fz (.i .i64 a3)),(4,.d .fz (.i .i64 a4)),(5,.d .fz (.b a5)),(7,.pb 1 0),(8,.pb 2 0),(12,.pb 3 0),(24,.d .fz (.b s4))] [(0,.box [.d .fz (.sl 1 (o0.b.map byD)),.d .fz (.i .i64 s5),.d .fz (.i .i64 s6)])] ?_ ?_
 ·replace hr:=hqq1
  refine ifE hr (fun h1 hr=>?_) fun h1 hr=>?_
  ·refine VT rfl (dT h1) ?_
   refine AL.off ?_
   refine AL.off ?_
   refine V rfl ?_
   refine AL.nil ?_
   cases hr
   exact GH.trans (GH.bw (q:=1) [.d m (.sl 2 (a1.Symbols.map Symbol.D)),.u] (.cons .rfl (.cons .u .nil)) rfl) (GH.renK hS [(0,0),(1,1),(2,2),(3,3)] 4)
  ·refine VF rfl (dF h1) ?_
   refine V rfl ?_
   refine bdE hr fun q2 hq2 hr=>?_
   obtain⟨y1,z1⟩:=q2
   refine CB [(0,0)] [] (q1W hq2) ?_
   refine V rfl ?_
   refine AL.nil ?_
   cases hr
   exact GH.trans (GH.bw (q:=1) [.d m (.sl 2 (a1.Symbols.map Symbol.D)),.u] (.cons .rfl (.cons .u .nil)) rfl) (GH.renK hS [(0,0),(1,1),(2,2),(3,3)] 4)
 ·refine AL.nil ?_
  refine ifE hr (fun h2 hr=>?_) fun h2 hr=>?_
  ·refine AW.cT rfl h2 ?_
   refine AW.seq (AW.seq (AW.regL ?_))
   iterate 2 refine V rfl ?_
   refine bdE hr fun s7 hqq3 hr=>?_
   refine AL.meet1 4 [(0,.pb 0 0),(3,.d .fz (.i .i64 a3)),(7,.pb 1 0),(8,.pb 2 0),(12,.pb 3 0),(30,.d .fz (.b s7))] ?_ ?_
   ·replace hr:=hqq3
    refine ifE hr (fun h3 hr=>?_) fun h3 hr=>?_
    ·refine VT rfl (dT h3) ?_
     iterate 3 refine V rfl ?_
     refine AL.nil ?_
     cases hr
     exact q1r
    ·refine VF rfl (dF h3) ?_
     refine AL.off ?_
     refine AL.off ?_
     refine V rfl ?_
     refine AL.nil ?_
     cases hr
     exact q1r
   ·refine bdE hr fun q4 hqq4 hr=>?_
    obtain⟨s11,s12,s13⟩:=q4
    refine AL.meet2 4 4 [(0,.pb 0 0),(3,.d .fz (.i .i64 a3)),(7,.pb 1 0),(8,.pb 2 0),(12,.pb 3 0),(34,.d .fz (.b s11))] [(0,.box [.d .fz (.sl 1 (o0.b.map byD)),.d .fz (.i .i64 s12),.d .fz (.i .i64 s13)])] ?_ ?_
    ·replace hr:=hqq4
     refine ifE hr (fun h4 hr=>?_) fun h4 hr=>?_
     ·refine VT rfl h4 ?_
      refine V rfl ?_
      refine bdE hr fun q5 hq5 hr=>?_
      obtain⟨y2,z2⟩:=q5
      refine CB [(0,0)] [] (q1W hq5) ?_
      refine V rfl ?_
      refine AL.nil ?_
      cases hr
      exact GH.trans (GH.bw (q:=1) [.d m (.sl 2 (a1.Symbols.map Symbol.D)),.u] (.cons .rfl (.cons .u .nil)) rfl) (GH.renK hS [(0,0),(1,1),(2,2),(3,3)] 4)
     ·refine VF rfl (bF h4) ?_
      refine AL.off ?_
      refine AL.off ?_
      refine V rfl ?_
      refine AL.nil ?_
      cases hr
      exact GH.trans (GH.bw (q:=1) [.d m (.sl 2 (a1.Symbols.map Symbol.D)),.u] (.cons .rfl (.cons .u .nil)) rfl) (GH.renK hS [(0,0),(1,1),(2,2),(3,3)] 4)
    ·refine AL.nil ?_
     refine ifE hr (fun h5 hr=>?_) fun h5 hr=>?_
     ·refine AW.cT rfl h5 ?_
      refine AW.seq (AW.regL ?_)
      refine V rfl ?_
      refine SB ?_
      refine AL.nil ?_
      refine AW.ret ?_
      refine endA.gh (GH.nlB (q:=3) (c:=6) (r:=4) .fz 7 rfl rfl rfl) ?_
      cases hr
      exact endA.renK [(0,0),(4,1)] 2 hS
     ·refine AW.cF rfl (bF h5) ?_
      refine AW.skip ?_
      refine AW.seq (AW.regL ?_)
      iterate 5 refine V rfl ?_
      refine bdE hr fun y3 hy3 hr=>?_
      refine CB [(0,4)] [] (q7q (m:=m) hy3) ?_
      refine bdE hr fun q6 hq6 hr=>?_
      obtain⟨y4,z3⟩:=q6
      refine CB [(0,0),(1,5)] [4] (q4E (m:=.bo) hq6) ?_
      refine SB ?_
      refine AL.nil ?_
      refine AW.ret ?_
      cases hr
      exact endA.renK [(0,0),(5,1)] 2 hS
  ·refine AW.cF rfl (bF h2) ?_
   refine AW.skip ?_
   refine AW.seq (AW.seq (AW.regL ?_))
   refine V rfl ?_
   refine bdE hr fun q7 hqq7 hr=>?_
   obtain⟨s17,s18,s19⟩:=q7
   refine AL.meet2 4 4 [(0,.pb 0 0),(3,.d .fz (.i .i64 a3)),(4,.d .fz (.i .i64 a4)),(5,.d .fz (.b a5)),(7,.pb 1 0),(8,.pb 2 0),(12,.pb 3 0),(47,.d .fz (.b s17))] [(0,.box [.d .fz (.sl 1 (o0.b.map byD)),.d .fz (.i .i64 s18),.d .fz (.i .i64 s19)])] ?_ ?_
   ·replace hr:=hqq7
    refine ifE hr (fun h6 hr=>?_) fun h6 hr=>?_
    ·refine VT rfl h6 ?_
     refine V rfl ?_
     refine bdE hr fun q8 hq8 hr=>?_
     obtain⟨y5,z4⟩:=q8
     refine CB [(0,0)] [] (q1W hq8) ?_
     refine V rfl ?_
     refine AL.nil ?_
     cases hr
     exact GH.trans (GH.bw (q:=1) [.d m (.sl 2 (a1.Symbols.map Symbol.D)),.u] (.cons .rfl (.cons .u .nil)) rfl) (GH.renK hS [(0,0),(1,1),(2,2),(3,3)] 4)
    ·refine VF rfl (bF h6) ?_
     refine AL.off ?_
     refine AL.off ?_
     refine V rfl ?_
     refine AL.nil ?_
     cases hr
     exact GH.trans (GH.bw (q:=1) [.d m (.sl 2 (a1.Symbols.map Symbol.D)),.u] (.cons .rfl (.cons .u .nil)) rfl) (GH.renK hS [(0,0),(1,1),(2,2),(3,3)] 4)
   ·refine AL.nil ?_
    refine ifE hr (fun h7 hr=>?_) fun h7 hr=>?_
    ·refine AW.cT rfl h7 ?_
     refine AW.seq (AW.drawL (h:=?_))
     iterate 5 refine V rfl ?_
     refine LF ?_
     refine bdE hr fun q9 hq9 hr=>?_
     obtain⟨y6,z5⟩:=q9
     refine CB [(0,0)] [] (q1q hq9) ?_
     refine ggE hr fun g1 hr=>?_
     refine bdE hr fun x1 hx1 hr=>?_
     refine IF g1 hx1 ?_
     refine V rfl ?_
     refine NV 4 ?_
     refine SB ?_
     refine AL.nil ?_
     refine AW.seq (AW.drawL (h:=?_))
     iterate 5 refine V rfl ?_
     refine LF ?_
     refine bdE hr fun q10 hq10 hr=>?_
     obtain⟨y7,z6⟩:=q10
     refine CB [(0,0)] [] (q1q hq10) ?_
     refine ggE hr fun g2 hr=>?_
     refine bdE hr fun x2 hx2 hr=>?_
     refine IF g2 hx2 ?_
     refine V rfl ?_
     refine NV 5 ?_
     refine SB ?_
     refine AL.nil ?_
     refine AW.seq (AW.regL ?_)
     iterate 4 refine V rfl ?_
     refine AL.nil ?_
     refine ifE hr (fun h8 hr=>?_) fun h8 hr=>?_
     ·refine AW.cT rfl (dT h8) ?_
      refine AW.seq (AW.drawL (h:=?_))
      iterate 7 refine V rfl ?_
      refine bdE hr fun y8 hy8 hr=>?_
      refine CB [(0,6)] [] (q7q (m:=m) hy8) ?_
      refine bdE hr fun q11 hq11 hr=>?_
      obtain⟨y9,z7⟩:=q11
      refine CBz 7 [(0,0),(1,7)] [6] (q4E (m:=.bo) hq11) ?_
      refine LIRq 8 (m:=.fz) (f:=Expr.D) [y9] (by simp only [List.map_cons,List.map_nil,Expr.D_eq]; rfl) ?_
      refine V rfl ?_
      refine SB ?_
      refine AL.nil ?_
      refine AW.ret ?_
      cases hr
      exact endA.renK [(0,0),(8,1)] 2 hS
     ·refine AW.cF rfl (dF h8) ?_
      refine AW.skip ?_
      refine AW.seq (AW.seq (AW.regL ?_))
      refine V rfl ?_
      refine bdE hr fun q12 hq12 hr=>?_
      obtain⟨y10,z8⟩:=q12
      refine CB [(0,0)] [] (q1W hq12) ?_
      refine AL.nil ?_
      refine ifE hr (fun h9 hr=>?_) fun h9 hr=>?_
      ·refine AW.cT rfl h9 ?_
       refine AW.seq (AW.drawL (h:=?_))
       iterate 4 refine V rfl ?_
       refine ggE hr fun g3 hr=>?_
       refine OB _ (bSub g3) ?_
       refine V rfl ?_
       refine bdE hr fun q13 hq13 hr=>?_
       obtain⟨y11,z9⟩:=q13
       refine CBz 6 [(0,0),(1,6)] [] (ih_sl10Expr (m:=m) hq13) ?_
       iterate 5 refine V rfl ?_
       refine ggE hr fun g4 hr=>?_
       refine OB _ (bSub g4) ?_
       refine V rfl ?_
       refine bdE hr fun q14 hq14 hr=>?_
       obtain⟨y12,z10⟩:=q14
       refine CBz 7 [(0,0),(1,7)] [] (ih_sl10Expr (m:=m) hq14) ?_
       iterate 5 refine V rfl ?_
       refine ggE hr fun g5 hr=>?_
       refine OB _ (bSub g5) ?_
       refine V rfl ?_
       refine bdE hr fun q15 hq15 hr=>?_
       obtain⟨y13,z11⟩:=q15
       refine CBz 8 [(0,0),(1,8)] [] (ih_sl10Expr (m:=m) hq15) ?_
       refine LIRq 9 (m:=.fz) (f:=Expr.D) [y11,y12,y13] (by simp only [List.map_cons,List.map_nil,Expr.D_eq]; rfl) ?_
       refine V rfl ?_
       refine SB ?_
       refine AL.nil ?_
       refine AW.ret ?_
       cases hr
       exact endA.renK [(0,0),(9,1)] 2 hS
      ·refine AW.cF rfl (bF h9) ?_
       refine AW.skip ?_
       refine AW.seq (AW.regL ?_)
       refine V rfl ?_
       refine AL.nil ?_
       refine AW.seq (AW.seq (AW.regL ?_))
       refine V rfl ?_
       refine AL.nil ?_
       refine AW.block (AW.seq (AW.regL ?_))
       iterate 2 refine V rfl ?_
       refine AL.nil ?_
       refine ifE hr (fun h10 hr=>?_) fun h10 hr=>?_
       ·refine AW.cT rfl (dT h10) ?_
        refine AW.seq (AW.regL ?_)
        iterate 5 refine V rfl ?_
        refine bdE hr fun y14 hy14 hr=>?_
        refine CB [(0,6)] [] (q7q (m:=m) hy14) ?_
        refine bdE hr fun q16 hq16 hr=>?_
        obtain⟨y15,z12⟩:=q16
        refine CB [(0,0),(1,7)] [6] (q4E (m:=.bo) hq16) ?_
        refine SB ?_
        refine AL.nil ?_
        refine AW.ret ?_
        cases hr
        exact endA.renK [(0,0),(7,1)] 2 hS
       ·refine AW.cF rfl (dF h10) ?_
        refine AW.seq (AW.regL ?_)
        iterate 2 refine V rfl ?_
        refine AL.nil ?_
        refine ifE hr (fun h11 hr=>?_) fun h11 hr=>?_
        ·refine AW.cT rfl (dT h11) ?_
         refine AW.regL ?_
         refine V rfl ?_
         refine LIR 6 (m:=.fz) (f:=(A.D.i .i64)) (xs:=([1,1,2,3,4,5]:List Int)) ?_
         refine bdE hr fun q17 hq17 hr=>?_
         obtain⟨y16,z13⟩:=q17
         refine CB [(0,0)] [6] (q2v (m:=.bo) hq17) ?_
         refine V rfl ?_
         refine AL.nil ?_
         refine AW.seq (AW.regL ?_)
         refine V rfl ?_
         refine bdE hr fun q18 hq18 hr=>?_
         obtain⟨y17,y18,y19⟩:=q18
         refine CB [] [] (q3a hq18) ?_
         iterate 7 refine V rfl ?_
         refine AL.nil ?_
         refine AW.seq (AW.drawL (h:=?_))
         iterate 6 refine V rfl ?_
         refine ggE hr fun g6 hr=>?_
         refine OB _ (bSub g6) ?_
         refine V rfl ?_
         refine bdE hr fun q19 hq19 hr=>?_
         obtain⟨y20,z14⟩:=q19
         refine CBz 7 [(0,0),(1,7)] [] (ih_sl10Expr (m:=m) hq19) ?_
         iterate 5 refine V rfl ?_
         refine ggE hr fun g7 hr=>?_
         refine OB _ (bSub g7) ?_
         refine V rfl ?_
         refine bdE hr fun q20 hq20 hr=>?_
         obtain⟨y21,z15⟩:=q20
         refine CBz 8 [(0,0),(1,8)] [] (ih_sl10Expr (m:=m) hq20) ?_
         refine bdE hr fun y22 hy22 hr=>?_
         refine CB [(0,9)] [] (q6W (m:=.fz) hy22) ?_
         refine SB ?_
         refine AL.nil ?_
         refine AW.ret ?_
         cases hr
         exact endA.renK [(0,0),(9,1)] 2 hS
        ·refine AW.cF rfl (dF h11) ?_
         refine AW.seq (AW.regL ?_)
         iterate 2 refine V rfl ?_
         refine AL.nil ?_
         refine ifE hr (fun h12 hr=>?_) fun h12 hr=>?_
         ·refine AW.cT rfl (dT h12) ?_
          refine AW.regL ?_
          refine V rfl ?_
          refine LIR 6 (m:=.fz) (f:=(A.D.i .i64)) (xs:=([6,6,7,8,12]:List Int)) ?_
          refine bdE hr fun q21 hq21 hr=>?_
          obtain⟨y23,z16⟩:=q21
          refine CB [(0,0)] [6] (q2v (m:=.bo) hq21) ?_
          refine V rfl ?_
          refine AL.nil ?_
          refine AW.seq (AW.regL ?_)
          refine V rfl ?_
          refine bdE hr fun q22 hq22 hr=>?_
          obtain⟨y24,y25,y26⟩:=q22
          refine CB [] [] (q3a hq22) ?_
          iterate 7 refine V rfl ?_
          refine AL.nil ?_
          refine AW.seq (AW.drawL (h:=?_))
          iterate 6 refine V rfl ?_
          refine ggE hr fun g8 hr=>?_
          refine OB _ (bSub g8) ?_
          refine V rfl ?_
          refine bdE hr fun q23 hq23 hr=>?_
          obtain⟨y27,z17⟩:=q23
          refine CBz 7 [(0,0),(1,7)] [] (ih_sl10Expr (m:=m) hq23) ?_
          iterate 5 refine V rfl ?_
          refine ggE hr fun g9 hr=>?_
          refine OB _ (bSub g9) ?_
          refine V rfl ?_
          refine bdE hr fun q24 hq24 hr=>?_
          obtain⟨y28,z18⟩:=q24
          refine CBz 8 [(0,0),(1,8)] [] (ih_sl10Expr (m:=m) hq24) ?_
          refine bdE hr fun y29 hy29 hr=>?_
          refine CB [(0,9)] [] (q6W (m:=.fz) hy29) ?_
          refine SB ?_
          refine AL.nil ?_
          refine AW.ret ?_
          cases hr
          exact endA.renK [(0,0),(9,1)] 2 hS
         ·refine AW.cF rfl (dF h12) ?_
          refine AW.regL ?_
          refine V rfl ?_
          refine LIR 6 (m:=.fz) (f:=(A.D.i .i64)) (xs:=([9,10,11]:List Int)) ?_
          refine bdE hr fun q25 hq25 hr=>?_
          obtain⟨y30,z19⟩:=q25
          refine CB [(0,0)] [6] (q2v (m:=.bo) hq25) ?_
          refine V rfl ?_
          refine AL.nil ?_
          refine AW.seq (AW.regL ?_)
          refine V rfl ?_
          refine bdE hr fun q26 hq26 hr=>?_
          obtain⟨y31,y32,y33⟩:=q26
          refine CB [] [] (q3a hq26) ?_
          iterate 7 refine V rfl ?_
          refine AL.nil ?_
          refine AW.seq (AW.drawL (h:=?_))
          iterate 6 refine V rfl ?_
          refine ggE hr fun g10 hr=>?_
          refine OB _ (bSub g10) ?_
          refine V rfl ?_
          refine bdE hr fun q27 hq27 hr=>?_
          obtain⟨y34,z20⟩:=q27
          refine CBz 7 [(0,0),(1,7)] [] (ih_sl10Expr (m:=m) hq27) ?_
          iterate 5 refine V rfl ?_
          refine ggE hr fun g11 hr=>?_
          refine OB _ (bSub g11) ?_
          refine V rfl ?_
          refine bdE hr fun q28 hq28 hr=>?_
          obtain⟨y35,z21⟩:=q28
          refine CBz 8 [(0,0),(1,8)] [] (ih_sl10Expr (m:=m) hq28) ?_
          refine bdE hr fun y36 hy36 hr=>?_
          refine CB [(0,9)] [] (q6W (m:=.fz) hy36) ?_
          refine SB ?_
          refine AL.nil ?_
          refine AW.ret ?_
          cases hr
          exact endA.renK [(0,0),(9,1)] 2 hS
    ·refine AW.cF rfl (bF h7) ?_
     refine AW.skip ?_
     refine AW.seq (AW.seq (AW.regL ?_))
     refine V rfl ?_
     refine bdE hr fun q29 hq29 hr=>?_
     obtain⟨y37,z22⟩:=q29
     refine CB [(0,0)] [] (q1W hq29) ?_
     refine AL.nil ?_
     refine ifE hr (fun h13 hr=>?_) fun h13 hr=>?_
     ·refine AW.cT rfl h13 ?_
      refine AW.seq (AW.drawL (h:=?_))
      iterate 4 refine V rfl ?_
      refine ggE hr fun g12 hr=>?_
      refine OB _ (bSub g12) ?_
      refine V rfl ?_
      refine bdE hr fun q30 hq30 hr=>?_
      obtain⟨y38,z23⟩:=q30
      refine CBz 4 [(0,0),(1,4)] [] (ih_sl10Expr (m:=m) hq30) ?_
      iterate 5 refine V rfl ?_
      refine ggE hr fun g13 hr=>?_
      refine OB _ (bSub g13) ?_
      refine V rfl ?_
      refine bdE hr fun q31 hq31 hr=>?_
      obtain⟨y39,z24⟩:=q31
      refine CBz 5 [(0,0),(1,5)] [] (ih_sl10Expr (m:=m) hq31) ?_
      iterate 5 refine V rfl ?_
      refine ggE hr fun g14 hr=>?_
      refine OB _ (bSub g14) ?_
      refine V rfl ?_
      refine bdE hr fun q32 hq32 hr=>?_
      obtain⟨y40,z25⟩:=q32
      refine CBz 6 [(0,0),(1,6)] [] (ih_sl10Expr (m:=m) hq32) ?_
      refine LIRq 7 (m:=.fz) (f:=Expr.D) [y38,y39,y40] (by simp only [List.map_cons,List.map_nil,Expr.D_eq]; rfl) ?_
      refine V rfl ?_
      refine SB ?_
      refine AL.nil ?_
      refine AW.ret ?_
      cases hr
      exact endA.renK [(0,0),(7,1)] 2 hS
     ·refine AW.cF rfl (bF h13) ?_
      refine AW.skip ?_
      refine AW.seq (AW.regL ?_)
      refine V rfl ?_
      refine AL.nil ?_
      refine AW.seq (AW.seq (AW.regL ?_))
      refine V rfl ?_
      refine AL.nil ?_
      refine AW.block (AW.seq (AW.regL ?_))
      iterate 2 refine V rfl ?_
      refine AL.nil ?_
      refine ifE hr (fun h14 hr=>?_) fun h14 hr=>?_
      ·refine AW.cT rfl (dT h14) ?_
       refine AW.seq (AW.regL ?_)
       iterate 5 refine V rfl ?_
       refine bdE hr fun y41 hy41 hr=>?_
       refine CB [(0,4)] [] (q7q (m:=m) hy41) ?_
       refine bdE hr fun q33 hq33 hr=>?_
       obtain⟨y42,z26⟩:=q33
       refine CB [(0,0),(1,5)] [4] (q4E (m:=.bo) hq33) ?_
       refine SB ?_
       refine AL.nil ?_
       refine AW.ret ?_
       cases hr
       exact endA.renK [(0,0),(5,1)] 2 hS
      ·refine AW.cF rfl (dF h14) ?_
       refine AW.seq (AW.regL ?_)
       iterate 2 refine V rfl ?_
       refine AL.nil ?_
       refine ifE hr (fun h15 hr=>?_) fun h15 hr=>?_
       ·refine AW.cT rfl (dT h15) ?_
        refine AW.regL ?_
        refine V rfl ?_
        refine LIR 4 (m:=.fz) (f:=(A.D.i .i64)) (xs:=([1,1,2,3,4,5]:List Int)) ?_
        refine bdE hr fun q34 hq34 hr=>?_
        obtain⟨y43,z27⟩:=q34
        refine CB [(0,0)] [4] (q2v (m:=.bo) hq34) ?_
        refine V rfl ?_
        refine AL.nil ?_
        refine AW.seq (AW.regL ?_)
        refine V rfl ?_
        refine bdE hr fun q35 hq35 hr=>?_
        obtain⟨y44,y45,y46⟩:=q35
        refine CB [] [] (q3a hq35) ?_
        iterate 7 refine V rfl ?_
        refine AL.nil ?_
        refine AW.seq (AW.drawL (h:=?_))
        iterate 6 refine V rfl ?_
        refine ggE hr fun g15 hr=>?_
        refine OB _ (bSub g15) ?_
        refine V rfl ?_
        refine bdE hr fun q36 hq36 hr=>?_
        obtain⟨y47,z28⟩:=q36
        refine CBz 5 [(0,0),(1,5)] [] (ih_sl10Expr (m:=m) hq36) ?_
        iterate 5 refine V rfl ?_
        refine ggE hr fun g16 hr=>?_
        refine OB _ (bSub g16) ?_
        refine V rfl ?_
        refine bdE hr fun q37 hq37 hr=>?_
        obtain⟨y48,z29⟩:=q37
        refine CBz 6 [(0,0),(1,6)] [] (ih_sl10Expr (m:=m) hq37) ?_
        refine bdE hr fun y49 hy49 hr=>?_
        refine CB [(0,7)] [] (q6W (m:=.fz) hy49) ?_
        refine SB ?_
        refine AL.nil ?_
        refine AW.ret ?_
        cases hr
        exact endA.renK [(0,0),(7,1)] 2 hS
       ·refine AW.cF rfl (dF h15) ?_
        refine AW.seq (AW.regL ?_)
        iterate 2 refine V rfl ?_
        refine AL.nil ?_
        refine ifE hr (fun h16 hr=>?_) fun h16 hr=>?_
        ·refine AW.cT rfl (dT h16) ?_
         refine AW.regL ?_
         refine V rfl ?_
         refine LIR 4 (m:=.fz) (f:=(A.D.i .i64)) (xs:=([6,6,7,8,12]:List Int)) ?_
         refine bdE hr fun q38 hq38 hr=>?_
         obtain⟨y50,z30⟩:=q38
         refine CB [(0,0)] [4] (q2v (m:=.bo) hq38) ?_
         refine V rfl ?_
         refine AL.nil ?_
         refine AW.seq (AW.regL ?_)
         refine V rfl ?_
         refine bdE hr fun q39 hq39 hr=>?_
         obtain⟨y51,y52,y53⟩:=q39
         refine CB [] [] (q3a hq39) ?_
         iterate 7 refine V rfl ?_
         refine AL.nil ?_
         refine AW.seq (AW.drawL (h:=?_))
         iterate 6 refine V rfl ?_
         refine ggE hr fun g17 hr=>?_
         refine OB _ (bSub g17) ?_
         refine V rfl ?_
         refine bdE hr fun q40 hq40 hr=>?_
         obtain⟨y54,z31⟩:=q40
         refine CBz 5 [(0,0),(1,5)] [] (ih_sl10Expr (m:=m) hq40) ?_
         iterate 5 refine V rfl ?_
         refine ggE hr fun g18 hr=>?_
         refine OB _ (bSub g18) ?_
         refine V rfl ?_
         refine bdE hr fun q41 hq41 hr=>?_
         obtain⟨y55,z32⟩:=q41
         refine CBz 6 [(0,0),(1,6)] [] (ih_sl10Expr (m:=m) hq41) ?_
         refine bdE hr fun y56 hy56 hr=>?_
         refine CB [(0,7)] [] (q6W (m:=.fz) hy56) ?_
         refine SB ?_
         refine AL.nil ?_
         refine AW.ret ?_
         cases hr
         exact endA.renK [(0,0),(7,1)] 2 hS
        ·refine AW.cF rfl (dF h16) ?_
         refine AW.regL ?_
         refine V rfl ?_
         refine LIR 4 (m:=.fz) (f:=(A.D.i .i64)) (xs:=([9,10,11]:List Int)) ?_
         refine bdE hr fun q42 hq42 hr=>?_
         obtain⟨y57,z33⟩:=q42
         refine CB [(0,0)] [4] (q2v (m:=.bo) hq42) ?_
         refine V rfl ?_
         refine AL.nil ?_
         refine AW.seq (AW.regL ?_)
         refine V rfl ?_
         refine bdE hr fun q43 hq43 hr=>?_
         obtain⟨y58,y59,y60⟩:=q43
         refine CB [] [] (q3a hq43) ?_
         iterate 7 refine V rfl ?_
         refine AL.nil ?_
         refine AW.seq (AW.drawL (h:=?_))
         iterate 6 refine V rfl ?_
         refine ggE hr fun g19 hr=>?_
         refine OB _ (bSub g19) ?_
         refine V rfl ?_
         refine bdE hr fun q44 hq44 hr=>?_
         obtain⟨y61,z34⟩:=q44
         refine CBz 5 [(0,0),(1,5)] [] (ih_sl10Expr (m:=m) hq44) ?_
         iterate 5 refine V rfl ?_
         refine ggE hr fun g20 hr=>?_
         refine OB _ (bSub g20) ?_
         refine V rfl ?_
         refine bdE hr fun q45 hq45 hr=>?_
         obtain⟨y62,z35⟩:=q45
         refine CBz 6 [(0,0),(1,6)] [] (ih_sl10Expr (m:=m) hq45) ?_
         refine bdE hr fun y63 hy63 hr=>?_
         refine CB [(0,7)] [] (q6W (m:=.fz) hy63) ?_
         refine SB ?_
         refine AL.nil ?_
         refine AW.ret ?_
         cases hr
         exact endA.renK [(0,0),(7,1)] 2 hS
end Go.Proofs.YtiojgbiimbefiacGreat
