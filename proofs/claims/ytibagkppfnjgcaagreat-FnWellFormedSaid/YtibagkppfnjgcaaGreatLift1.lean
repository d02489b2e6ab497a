/- What some functions of the program compute, as partial functions on plain data, and that they do; each lemma bears its conditions in its statement. -/
import Derived.Test.YtibagkppfnjgcaaGreatSort
set_option linter.unusedVariables false
set_option linter.unusedSimpArgs false
set_option linter.ambiguousOpen false
set_option linter.unusedSectionVars false
set_option linter.unnecessarySimpa false
set_option maxRecDepth 100000
set_option maxHeartbeats 40000000
noncomputable section
namespace Go.Proofs.YtibagkppfnjgcaaGreat
open Go Go.E Go.A
def j3F (a0:(List UInt8)):Option Bool:=
 some (decide (1048576 < (a0.length:Int)))
theorem j9c {a0:(List UInt8)}{r:Bool}(hr:j3F a0=some r):Ok Tryz.prog 4 [.d .fz (.sl 1 (a0.map byD))] [] (.d .fz (.b r)) []:=by
 refine Ok.enter rfl Tryz.func4 rfl rfl rfl fun S hS=>?_
 unfold j3F at hr
 refine sr ?_
 refine N1 ?_
 refine sr ?_
 refine W1 ?_
 refine LF ?_
 refine N2 ?_
 refine AW.ret ?_
 cases hr
 exact q0a [] 0 hS
def z1U (a0:(List UInt8)):(Int × Int)→Option ((Int × Int) ⊕ Int):=fun (s2,s3)=>
 if s3 < (a0.length:Int) then (
 if s3 < 4000 then (
 grd (0≤s3) <|
 (a0[s3.toNat]?).bind fun x1=>
 some (.inl ((z4L (IntKind.i64.wrap ((IntKind.i64.wrap ((IntKind.i64.wrap (s2*131))+(x1.toNat:Int)))+7)) 1073741823),(IntKind.i64.wrap (s3+1))))
 ) else (
 some (.inr s2)
 )
 ) else (
 some (.inr s2)
 )
def z3U (a0:(List UInt8)):Option l1Cur:=
 (q5m (z1U a0) ((IntKind.i64.wrap (26583+(a0.length:Int))),0)).bind fun s1=>
 some (⟨a0,0,s1⟩:l1Cur)
theorem j5A {a0:(List UInt8)}{r:l1Cur}(hr:z3U a0=some r):Ok Tryz.prog 14 [.d .fz (.sl 1 (a0.map byD))] [] (.pb 0 0) [.box [.d .fz (.sl 1 (r.b.map byD)),.d .fz (.i .i64 r.i),.d .fz (.i .i64 r.h)]]:=by
 refine Ok.enter rfl Tryz.func14 rfl rfl rfl fun S hS=>?_
 unfold z3U at hr
 refine sr ?_
 refine N1 ?_
 refine sr ?_
 refine W1 ?_
 refine LF ?_
 refine OB _ j1Z ?_
 refine N1 ?_
 refine ssr ?_
 refine N1 ?_
 refine bdE hr fun s1 hqq1 hr=>?_
 refine q0n 0 [(0,.d .fz (.sl 1 (a0.map byD))),(3,.d .fz (.i .i64 s1))] [] ?_ ?_
 refine AW.block (q0q hqq1 0 (fun (s2,s3)=>[(0,.d .fz (.sl 1 (a0.map byD))),(3,.d .fz (.i .i64 s2)),(4,.d .fz (.i .i64 s3))]) (fun (s2,s3)=>[]) (q0e hS 0) fun sk1 ok1 hr hik1=>?_)
 obtain⟨s2,s3⟩:=sk1
 have hr:=hr
 refine ssr ?_
 refine W2 ?_
 refine LF ?_
 refine W1 ?_
 refine ifE hr (fun h1 hr=>?_) fun h1 hr=>?_
 refine VT rfl (dT h1) ?_
 refine N3 ?_
 refine ifE hr (fun h2 hr=>?_) fun h2 hr=>?_
 refine q0f rfl (dT h2) ?_
 refine q0b ?_
 refine q0d (AW.block (q0c ?_))
 refine W1 ?_
 refine OB _ j9R ?_
 refine W2 ?_
 refine ggE hr fun g1 hr=>?_
 refine bdE hr fun x1 hx1 hr=>?_
 refine IF g1 hx1 ?_
 refine W1 ?_
 refine CUB rfl ?_
 refine OB _ j1Z ?_
 refine OB _ j1Z ?_
 refine OB _ j5s ?_
 refine N1 ?_
 refine q0c ?_
 refine W1 ?_
 refine OB _ j1Z ?_
 refine N1 ?_
 cases hr
 exact⟨_,rfl,q0e hS 0⟩
 refine q0g rfl (dF h2) ?_
 refine q0i ?_
 cases hr
 cases hik1 _ rfl
 exact q0e hS 0
 refine VF rfl (dF h1) ?_
 iterate 2 refine AL.off ?_
 refine N1 ?_
 refine q0g rfl rfl ?_
 refine q0i ?_
 cases hr
 cases hik1 _ rfl
 exact q0e hS 0
 refine sr ?_
 refine W3 ?_
 refine BX 0 ?_
 refine N1 ?_
 refine AW.ret ?_
 cases hr
 exact q0a [(0,0)] 1 hS
def q8V (o0:l1Cur):Option (Int × l1Cur):=
 if o0.i < (o0.b.length:Int) then (
 grd (0≤o0.i) <|
 (o0.b[o0.i.toNat]?).bind fun x1=>
 some ((z4L (IntKind.i64.wrap ((z4L (j5c (z8f (IntKind.i64.wrap ((IntKind.i64.wrap (o0.h*6364136223846793005))+1442695040888963407)) 33) (z8f (IntKind.i64.wrap ((IntKind.i64.wrap (o0.h*6364136223846793005))+1442695040888963407)) 45)) 255)+(x1.toNat:Int))) 255),(⟨o0.b,(IntKind.i64.wrap (o0.i+1)),(IntKind.i64.wrap ((IntKind.i64.wrap (o0.h*6364136223846793005))+1442695040888963407))⟩:l1Cur))
 ) else (
 some ((z4L (j5c (z8f (IntKind.i64.wrap ((IntKind.i64.wrap (o0.h*6364136223846793005))+1442695040888963407)) 33) (z8f (IntKind.i64.wrap ((IntKind.i64.wrap (o0.h*6364136223846793005))+1442695040888963407)) 45)) 255),(⟨o0.b,o0.i,(IntKind.i64.wrap ((IntKind.i64.wrap (o0.h*6364136223846793005))+1442695040888963407))⟩:l1Cur))
 )
theorem z1V {o0:l1Cur}{r:(Int × l1Cur)}(hr:q8V o0=some r):Ok Tryz.prog 72 [.pb 0 0] [.box [.d .fz (.sl 1 (o0.b.map byD)),.d .fz (.i .i64 o0.i),.d .fz (.i .i64 o0.h)]] (.d .fz (.i .i64 r.1)) [.box [.d .fz (.sl 1 (o0.b.map byD)),.d .fz (.i .i64 r.2.i),.d .fz (.i .i64 r.2.h)]]:=by
 refine Ok.enter rfl Tryz.func72 rfl rfl rfl fun S hS=>?_
 unfold q8V at hr
 refine sr ?_
 refine N1 ?_
 refine sr ?_
 refine W5 ?_
 refine OB _ j9R ?_
 refine OB _ j1Z ?_
 refine W2 ?_
 refine SB ?_
 refine N0 ?_
 refine q0d (q0j (h:=?_))
 refine W4 ?_
 refine OB _ (j9S (b:=33) (by decide)) ?_
 refine W4 ?_
 refine OB _ (j9S (b:=45) (by decide)) ?_
 refine OB _ k0o ?_
 refine OB _ j5s ?_
 refine N1 ?_
 refine q0d (q0d (q0j (h:=?_)))
 refine W5 ?_
 refine W3 ?_
 refine LF ?_
 refine N1 ?_
 refine ifE hr (fun h1 hr=>?_) fun h1 hr=>?_
 refine q0f rfl (dT h1) ?_
 refine q0d (q0j (h:=?_))
 refine W5 ?_
 refine W4 ?_
 refine ggE hr fun g1 hr=>?_
 refine bdE hr fun x1 hx1 hr=>?_
 refine IF g1 hx1 ?_
 refine W1 ?_
 refine CUB rfl ?_
 refine OB _ j1Z ?_
 refine OB _ j5s ?_
 refine AL.gh .refl ?_
 refine N1 ?_
 refine q0c ?_
 refine W5 ?_
 refine OB _ j1Z ?_
 refine W2 ?_
 refine SB ?_
 refine N0 ?_
 refine sr ?_
 refine N2 ?_
 refine AW.ret ?_
 cases hr
 exact q0a [(0,0)] 1 hS
 refine q0g rfl (dF h1) ?_
 refine q0b ?_
 refine sr ?_
 refine N2 ?_
 refine AW.ret ?_
 cases hr
 exact q0a [(0,0)] 1 hS
def q3q (a1:Int)(o0:l1Cur):Option (Int × l1Cur):=
 if a1≤0 then (
 some (0,o0)
 ) else (
 if a1≤256 then (
 (q8V o0).bind fun (y1,z1)=>
 grd (a1≠0) <|
 some ((y1.tmod a1),(⟨o0.b,z1.i,z1.h⟩:l1Cur))
 ) else (
 (q8V o0).bind fun (y2,z2)=>
 (q8V (⟨o0.b,z2.i,z2.h⟩:l1Cur)).bind fun (y3,z3)=>
 (q8V (⟨o0.b,z3.i,z3.h⟩:l1Cur)).bind fun (y4,z4)=>
 (q8V (⟨o0.b,z4.i,z4.h⟩:l1Cur)).bind fun (y5,z5)=>
 grd (I64 (y2*16777216)) <|
 grd (I64 (y3*65536)) <|
 grd (I64 ((y2*16777216)+(y3*65536))) <|
 grd (I64 (y4*256)) <|
 grd (I64 (((y2*16777216)+(y3*65536))+(y4*256))) <|
 grd (I64 ((((y2*16777216)+(y3*65536))+(y4*256))+y5)) <|
 grd (a1≠0) <|
 some ((((((y2*16777216)+(y3*65536))+(y4*256))+y5).tmod a1),(⟨o0.b,z5.i,z5.h⟩:l1Cur))
 )
 )
theorem q3s {a1:Int}{o0:l1Cur}{r:(Int × l1Cur)}(hr:q3q a1 o0=some r):Ok Tryz.prog 36 [.pb 0 0,.d .fz (.i .i64 a1)] [.box [.d .fz (.sl 1 (o0.b.map byD)),.d .fz (.i .i64 o0.i),.d .fz (.i .i64 o0.h)]] (.d .fz (.i .i64 r.1)) [.box [.d .fz (.sl 1 (o0.b.map byD)),.d .fz (.i .i64 r.2.i),.d .fz (.i .i64 r.2.h)]]:=by
 refine Ok.enter rfl Tryz.func36 rfl rfl rfl fun S hS=>?_
 unfold q3q at hr
 refine sr ?_
 refine N1 ?_
 refine ssr ?_
 refine N2 ?_
 refine ifE hr (fun h1 hr=>?_) fun h1 hr=>?_
 refine q0f rfl (dT h1) ?_
 refine sr ?_
 refine N1 ?_
 refine AW.ret ?_
 cases hr
 exact q0a [(0,0)] 1 hS
 refine q0g rfl (dF h1) ?_
 refine q0b ?_
 refine ssr ?_
 refine N2 ?_
 refine ifE hr (fun h2 hr=>?_) fun h2 hr=>?_
 refine q0f rfl (dT h2) ?_
 refine sr ?_
 refine W1 ?_
 refine bdE hr fun q1 hq1 hr=>?_
 obtain⟨y1,z1⟩:=q1
 refine CB [(0,0)] [] (z1V hq1) ?_
 refine W1 ?_
 refine ggE hr fun g1 hr=>?_
 refine OB _ (bRem (b:=a1) g1) ?_
 refine N1 ?_
 refine AW.ret ?_
 cases hr
 exact q0a [(0,0)] 1 hS
 refine q0g rfl (dF h2) ?_
 refine q0b ?_
 refine sr ?_
 refine W1 ?_
 refine bdE hr fun q2 hq2 hr=>?_
 obtain⟨y2,z2⟩:=q2
 refine CB [(0,0)] [] (z1V hq2) ?_
 refine N1 ?_
 refine sr ?_
 refine W1 ?_
 refine bdE hr fun q3 hq3 hr=>?_
 obtain⟨y3,z3⟩:=q3
 refine CB [(0,0)] [] (z1V hq3) ?_
 refine N1 ?_
 refine sr ?_
 refine W1 ?_
 refine bdE hr fun q4 hq4 hr=>?_
 obtain⟨y4,z4⟩:=q4
 refine CB [(0,0)] [] (z1V hq4) ?_
 refine N1 ?_
 refine sr ?_
 refine W1 ?_
 refine bdE hr fun q5 hq5 hr=>?_
 obtain⟨y5,z5⟩:=q5
 refine CB [(0,0)] [] (z1V hq5) ?_
 refine N1 ?_
 refine sr ?_
 refine W1 ?_
 refine ggE hr fun g2 hr=>?_
 refine OB _ (bMul g2) ?_
 refine W1 ?_
 refine ggE hr fun g3 hr=>?_
 refine OB _ (bMul g3) ?_
 refine ggE hr fun g4 hr=>?_
 refine OB _ (bAdd g4) ?_
 refine W1 ?_
 refine ggE hr fun g5 hr=>?_
 refine OB _ (bMul g5) ?_
 refine ggE hr fun g6 hr=>?_
 refine OB _ (bAdd g6) ?_
 refine W1 ?_
 refine ggE hr fun g7 hr=>?_
 refine OB _ (bAdd g7) ?_
 refine W1 ?_
 refine ggE hr fun g8 hr=>?_
 refine OB _ (bRem (b:=a1) g8) ?_
 refine N1 ?_
 refine AW.ret ?_
 cases hr
 exact q0a [(0,0)] 1 hS
def q4g (a1:Int)(o0:l1Cur):Option (Bool × l1Cur):=
 (q3q a1 o0).bind fun (y1,z1)=>
 some (decide (y1=0),(⟨o0.b,z1.i,z1.h⟩:l1Cur))
theorem q4y {a1:Int}{o0:l1Cur}{r:(Bool × l1Cur)}(hr:q4g a1 o0=some r):Ok Tryz.prog 15 [.pb 0 0,.d .fz (.i .i64 a1)] [.box [.d .fz (.sl 1 (o0.b.map byD)),.d .fz (.i .i64 o0.i),.d .fz (.i .i64 o0.h)]] (.d .fz (.b r.1)) [.box [.d .fz (.sl 1 (o0.b.map byD)),.d .fz (.i .i64 r.2.i),.d .fz (.i .i64 r.2.h)]]:=by
 refine Ok.enter rfl Tryz.func15 rfl rfl rfl fun S hS=>?_
 unfold q4g at hr
 refine sr ?_
 refine N1 ?_
 refine sr ?_
 refine W2 ?_
 refine bdE hr fun q1 hq1 hr=>?_
 obtain⟨y1,z1⟩:=q1
 refine CB [(0,0)] [] (q3s hq1) ?_
 refine N2 ?_
 refine AW.ret ?_
 cases hr
 exact q0a [(0,0)] 1 hS
def q4I (a1:(List Int))(o0:l1Cur):Option (Int × l1Cur):=
 (q3q (a1.length:Int) o0).bind fun (y1,z1)=>
 grd (0≤y1) <|
 (a1[y1.toNat]?).bind fun x1=>
 some (x1,(⟨o0.b,z1.i,z1.h⟩:l1Cur))
theorem q5o {m:Md}{a1:(List Int)}{o0:l1Cur}{r:(Int × l1Cur)}(hr:q4I a1 o0=some r):Ok Tryz.prog 104 [.pb 0 0,.d m (.sl 1 (a1.map (A.D.i .i64)))] [.box [.d .fz (.sl 1 (o0.b.map byD)),.d .fz (.i .i64 o0.i),.d .fz (.i .i64 o0.h)]] (.d .fz (.i .i64 r.1)) [.box [.d .fz (.sl 1 (o0.b.map byD)),.d .fz (.i .i64 r.2.i),.d .fz (.i .i64 r.2.h)]]:=by
 refine Ok.enter rfl Tryz.func104 rfl rfl rfl fun S hS=>?_
 unfold q4I at hr
 refine sr ?_
 refine N1 ?_
 refine sr ?_
 refine W3 ?_
 refine LF ?_
 refine bdE hr fun q1 hq1 hr=>?_
 obtain⟨y1,z1⟩:=q1
 refine CB [(0,0)] [] (q3s hq1) ?_
 refine ggE hr fun g1 hr=>?_
 refine bdE hr fun x1 hx1 hr=>?_
 refine IF g1 hx1 ?_
 refine N2 ?_
 refine AW.ret ?_
 cases hr
 exact q0a [(0,0)] 1 hS
def z8N (a2:Bool)(a3:Bool)(o0:l1Cur):Nat→(Int × Int × (List Attribute))→Option (Int × Int × (List Attribute)):=fun k1 (s2,s3,s1)=>
 (
 ([(⟨#[97]⟩:ByteArray),(⟨#[98]⟩:ByteArray),(⟨#[99]⟩:ByteArray),(⟨#[100]⟩:ByteArray)][k1]?).bind fun x1=>
 (q4I ([1,1,2,2,3,4]:List Int) (⟨o0.b,s2,s3⟩:l1Cur)).bind fun (y2,z2)=>
 (q4I ([1,2,2,1,2,3]:List Int) (⟨o0.b,z2.i,z2.h⟩:l1Cur)).bind fun (y3,z3)=>
 if a3=true then (
 (q4I ([1,1,2,3]:List Int) (⟨o0.b,z3.i,z3.h⟩:l1Cur)).bind fun (y4,z4)=>
 (
 if a2=true then (
 some (decide (y3=1))
 ) else (
 some false
 )
 ).bind fun s7=>
 (
 if s7=true then (
 some true
 ) else (
 (
 if a3=true then (
 some (true,decide (y3=3))
 ) else (
 some (false,false)
 )
 ).bind fun (s9,s10)=>
 some s10
 )
 ).bind fun s8=>
 if s8=true then (
 if (2:Int)=3 then (
 grd (((s1.length:Int)+1)*40≤140737488355328∧(s1.length:Int)+1≤9223372036854775807) <|
 some ((s1++[(⟨x1,2,2,false⟩:Attribute)]),z4.i,z4.h)
 ) else (
 grd (((s1.length:Int)+1)*40≤140737488355328∧(s1.length:Int)+1≤9223372036854775807) <|
 some ((s1++[(⟨x1,y4,2,false⟩:Attribute)]),z4.i,z4.h)
 )
 ) else (
 if y3=3 then (
 grd (((s1.length:Int)+1)*40≤140737488355328∧(s1.length:Int)+1≤9223372036854775807) <|
 some ((s1++[(⟨x1,2,y3,false⟩:Attribute)]),z4.i,z4.h)
 ) else (
 grd (((s1.length:Int)+1)*40≤140737488355328∧(s1.length:Int)+1≤9223372036854775807) <|
 some ((s1++[(⟨x1,y4,y3,false⟩:Attribute)]),z4.i,z4.h)
 )
 )
 ) else (
 (
 if a2=true then (
 some (decide (y3=1))
 ) else (
 some false
 )
 ).bind fun s11=>
 (
 if s11=true then (
 some true
 ) else (
 (
 if a3=true then (
 some (true,decide (y3=3))
 ) else (
 some (false,false)
 )
 ).bind fun (s13,s14)=>
 some s14
 )
 ).bind fun s12=>
 if s12=true then (
 if (2:Int)=3 then (
 grd (((s1.length:Int)+1)*40≤140737488355328∧(s1.length:Int)+1≤9223372036854775807) <|
 some ((s1++[(⟨x1,2,2,false⟩:Attribute)]),z3.i,z3.h)
 ) else (
 grd (((s1.length:Int)+1)*40≤140737488355328∧(s1.length:Int)+1≤9223372036854775807) <|
 some ((s1++[(⟨x1,y2,2,false⟩:Attribute)]),z3.i,z3.h)
 )
 ) else (
 if y3=3 then (
 grd (((s1.length:Int)+1)*40≤140737488355328∧(s1.length:Int)+1≤9223372036854775807) <|
 some ((s1++[(⟨x1,2,y3,false⟩:Attribute)]),z3.i,z3.h)
 ) else (
 grd (((s1.length:Int)+1)*40≤140737488355328∧(s1.length:Int)+1≤9223372036854775807) <|
 some ((s1++[(⟨x1,y2,y3,false⟩:Attribute)]),z3.i,z3.h)
 )
 )
 )
 ).bind fun (s4,s5,s6)=>
 some (s5,s6,s4)
def z1W (a1:ByteArray)(a2:Bool)(a3:Bool)(o0:l1Cur):Option (Symbol × l1Cur):=
 (q3q 4 o0).bind fun (y1,z1)=>
 grd (I64 (1+y1)) <|
 (eachN (z8N a2 a3 o0) 0 (1+y1).toNat (z1.i,z1.h,([]:List Attribute))).bind fun (s2,s3,s1)=>
 some ((⟨a1,s1⟩:Symbol),(⟨o0.b,s2,s3⟩:l1Cur))
theorem z8O {a1:ByteArray}{a2:Bool}{a3:Bool}{o0:l1Cur}{r:(Symbol × l1Cur)}(hr:z1W a1 a2 a3 o0=some r):Ok Tryz.prog 73 [.pb 0 0,.d .fz (.s a1),.d .fz (.b a2),.d .fz (.b a3)] [.box [.d .fz (.sl 1 (o0.b.map byD)),.d .fz (.i .i64 o0.i),.d .fz (.i .i64 o0.h)]] (.ag [.d .fz (.s r.1.Name),.ref 1 none]) [.box [.d .fz (.sl 1 (o0.b.map byD)),.d .fz (.i .i64 r.2.i),.d .fz (.i .i64 r.2.h)],.row .fz 4 (r.1.Attributes.map Attribute.D)]:=by
 refine Ok.enter rfl Tryz.func73 rfl rfl rfl fun S hS=>?_
 unfold z1W at hr
 refine sr ?_
 refine NV 1 ?_
 refine N0 ?_
 refine sr ?_
 refine W2 ?_
 refine NV 2 ?_
 refine SB ?_
 refine N0 ?_
 refine sr ?_
 refine W1 ?_
 refine bdE hr fun q1 hq1 hr=>?_
 obtain⟨y1,z1⟩:=q1
 refine CB [(0,0)] [] (q3s hq1) ?_
 refine ggE hr fun g1 hr=>?_
 refine OB _ (bAdd g1) ?_
 refine N1 ?_
 refine ssr ?_
 refine N1 ?_
 refine AW.block ?_
 refine q0C 2 1 3 .fz 4 rfl rfl ?_
 refine q0w (.tmp 10 rfl) fun hl1=>?_
 refine bdE hr fun q2 hqq2 hr=>?_
 obtain⟨s2,s3,s1⟩:=q2
 refine q0s hqq2 4 (fun k1 (s2,s3,s1)=>[(0,.pb 0 0),(2,.d .fz (.b a2)),(3,.d .fz (.b a3)),(8,.pb 1 0),(9,.pb 2 0),(10,.d .fz (.i .i64 (1+y1))),(11,.d .fz (.i .i64 (k1:Int)))]) (fun k1 (s2,s3,s1)=>[(0,.box [.d .fz (.sl 1 (o0.b.map byD)),.d .fz (.i .i64 s2),.d .fz (.i .i64 s3)]),(3,.row .fz 4 (s1.map Attribute.D))]) (q0e hS 4) (fun k1 sk1 ok1 hr hltk1=>?_) ?_
 obtain⟨s2,s3,s1⟩:=sk1
 refine ssr ?_
 refine N3 ?_
 refine q0f rfl (dT (ltI hltk1)) ?_
 refine q0b ?_
 refine bdE hr fun q3 hqq3 hr=>?_
 obtain⟨s4,s5,s6⟩:=q3
 refine q0d (q0n 5 [(0,.pb 0 0),(2,.d .fz (.b a2)),(3,.d .fz (.b a3)),(8,.pb 1 0),(9,.pb 2 0),(10,.d .fz (.i .i64 (1+y1))),(11,.d .fz (.i .i64 (k1:Int)))] [(0,.box [.d .fz (.sl 1 (o0.b.map byD)),.d .fz (.i .i64 s5),.d .fz (.i .i64 s6)]),(2,.box [.d .fz (.s a1),.ref 4 none]),(3,.none),(4,.row .fz 4 (s4.map Attribute.D))] ?_ ?_)
 replace hr:=hqq3
 refine AW.block (q0d (q0j (h:=?_)))
 refine LIR 4 (m:=.fz) (f:=A.D.s) (xs:=[(⟨#[97]⟩:ByteArray),(⟨#[98]⟩:ByteArray),(⟨#[99]⟩:ByteArray),(⟨#[100]⟩:ByteArray)]) ?_
 refine W1 ?_
 refine bdE hr fun x1 hx1 hr=>?_
 refine IE hx1 (Int.natCast_nonneg _) ?_
 refine LP hx1 ?_
 refine W1 ?_
 refine LIR 5 (m:=.fz) (f:=(A.D.i .i64)) (xs:=([1,1,2,2,3,4]:List Int)) ?_
 refine bdE hr fun q4 hq4 hr=>?_
 obtain⟨y2,z2⟩:=q4
 refine CB [(0,0)] [5] (q5o (m:=.bo) hq4) ?_
 refine W1 ?_
 refine LIR 6 (m:=.fz) (f:=(A.D.i .i64)) (xs:=([1,2,2,1,2,3]:List Int)) ?_
 refine bdE hr fun q5 hq5 hr=>?_
 obtain⟨y3,z3⟩:=q5
 refine CB [(0,0)] [6] (q5o (m:=.bo) hq5) ?_
 refine W1 ?_
 refine NV 7 ?_
 refine SB ?_
 refine N0 ?_
 refine ssr ?_
 refine N1 ?_
 refine ifE hr (fun h1 hr=>?_) fun h1 hr=>?_
 refine q0f rfl h1 ?_
 refine q0c ?_
 refine W1 ?_
 refine LIR 8 (m:=.fz) (f:=(A.D.i .i64)) (xs:=([1,1,2,3]:List Int)) ?_
 refine bdE hr fun q6 hq6 hr=>?_
 obtain⟨y4,z4⟩:=q6
 refine CB [(0,0)] [8] (q5o (m:=.bo) hq6) ?_
 refine W1 ?_
 refine SB ?_
 refine N0 ?_
 refine ssr ?_
 refine W1 ?_
 refine bdE hr fun s7 hqq7 hr=>?_
 refine q0h 5 [(0,.pb 0 0),(2,.d .fz (.b a2)),(3,.d .fz (.b a3)),(8,.pb 1 0),(9,.pb 2 0),(10,.d .fz (.i .i64 (1+y1))),(11,.d .fz (.i .i64 (k1:Int))),(12,.pb 7 0),(44,.d .fz (.b s7))] ?_ ?_
 replace hr:=hqq7
 refine ifE hr (fun h2 hr=>?_) fun h2 hr=>?_
 refine VT rfl h2 ?_
 refine N4 ?_
 cases hr
 exact q3n
 refine VF rfl (bF h2) ?_
 iterate 3 refine AL.off ?_
 refine N1 ?_
 cases hr
 exact q3n
 refine bdE hr fun s8 hqq8 hr=>?_
 refine q0h 8 [(0,.pb 0 0),(2,.d .fz (.b a2)),(3,.d .fz (.b a3)),(8,.pb 1 0),(9,.pb 2 0),(10,.d .fz (.i .i64 (1+y1))),(11,.d .fz (.i .i64 (k1:Int))),(12,.pb 7 0),(52,.d .fz (.b s8))] ?_ ?_
 replace hr:=hqq8
 refine ifE hr (fun h3 hr=>?_) fun h3 hr=>?_
 refine VT rfl h3 ?_
 iterate 6 refine AL.off ?_
 refine N1 ?_
 cases hr
 exact q3n
 refine VF rfl (bF h3) ?_
 refine W1 ?_
 refine bdE hr fun q9 hqq9 hr=>?_
 obtain⟨s9,s10⟩:=q9
 refine q0h 5 [(0,.pb 0 0),(2,.d .fz (.b a2)),(3,.d .fz (.b a3)),(8,.pb 1 0),(9,.pb 2 0),(10,.d .fz (.i .i64 (1+y1))),(11,.d .fz (.i .i64 (k1:Int))),(12,.pb 7 0),(45,.d .fz (.b false)),(46,.d .fz (.b a3)),(47,.d .fz (.b s9)),(51,.d .fz (.b s10))] ?_ ?_
 replace hr:=hqq9
 refine ifE hr (fun h4 hr=>?_) fun h4 hr=>?_
 refine VT rfl h4 ?_
 refine N4 ?_
 cases hr
 exact q3n
 refine VF rfl (bF h4) ?_
 iterate 3 refine AL.off ?_
 refine N1 ?_
 cases hr
 exact q3n
 refine N1 ?_
 cases hr
 exact q3n
 refine N0 ?_
 refine ifE hr (fun h5 hr=>?_) fun h5 hr=>?_
 refine q0f rfl h5 ?_
 refine q0c ?_
 refine W1 ?_
 refine SB ?_
 refine N0 ?_
 refine ssr ?_
 refine N3 ?_
 refine ifE hr (fun h6 hr=>?_) fun h6 hr=>?_
 refine q0f rfl (dT h6) ?_
 refine q0c ?_
 refine W1 ?_
 refine SB ?_
 refine N0 ?_
 refine q0c ?_
 refine W3 ?_
 refine LIR 9 (m:=.fz) (f:=Attribute.D) (xs:=[(⟨x1,2,2,false⟩:Attribute)]) ?_
 refine ggE hr fun g2 hr=>?_
 refine APf1 (f:=Attribute.D) 10 (fun _=>rfl) 40 g2 ?_
 refine W1 ?_
 refine SB ?_
 refine N0 ?_
 cases hr
 exact q0l hS [(0,0),(1,1),(2,2),(10,4)] 5
 refine q0g rfl (dF h6) ?_
 refine q0b ?_
 refine q0c ?_
 refine W3 ?_
 refine LIR 9 (m:=.fz) (f:=Attribute.D) (xs:=[(⟨x1,y4,2,false⟩:Attribute)]) ?_
 refine ggE hr fun g3 hr=>?_
 refine APf1 (f:=Attribute.D) 10 (fun _=>rfl) 40 g3 ?_
 refine W1 ?_
 refine SB ?_
 refine N0 ?_
 cases hr
 exact q0l hS [(0,0),(1,1),(2,2),(10,4)] 5
 refine q0g rfl (bF h5) ?_
 refine q0b ?_
 refine ssr ?_
 refine N3 ?_
 refine ifE hr (fun h7 hr=>?_) fun h7 hr=>?_
 refine q0f rfl (dT h7) ?_
 refine q0c ?_
 refine W1 ?_
 refine SB ?_
 refine N0 ?_
 refine q0c ?_
 refine W3 ?_
 refine LIR 9 (m:=.fz) (f:=Attribute.D) (xs:=[(⟨x1,2,y3,false⟩:Attribute)]) ?_
 refine ggE hr fun g4 hr=>?_
 refine APf1 (f:=Attribute.D) 10 (fun _=>rfl) 40 g4 ?_
 refine W1 ?_
 refine SB ?_
 refine N0 ?_
 cases hr
 exact q0l hS [(0,0),(1,1),(2,2),(10,4)] 5
 refine q0g rfl (dF h7) ?_
 refine q0b ?_
 refine q0c ?_
 refine W3 ?_
 refine LIR 9 (m:=.fz) (f:=Attribute.D) (xs:=[(⟨x1,y4,y3,false⟩:Attribute)]) ?_
 refine ggE hr fun g5 hr=>?_
 refine APf1 (f:=Attribute.D) 10 (fun _=>rfl) 40 g5 ?_
 refine W1 ?_
 refine SB ?_
 refine N0 ?_
 cases hr
 exact q0l hS [(0,0),(1,1),(2,2),(10,4)] 5
 refine q0g rfl (bF h1) ?_
 refine q0b ?_
 refine ssr ?_
 refine W1 ?_
 refine bdE hr fun s11 hqq10 hr=>?_
 refine q0h 5 [(0,.pb 0 0),(2,.d .fz (.b a2)),(3,.d .fz (.b a3)),(8,.pb 1 0),(9,.pb 2 0),(10,.d .fz (.i .i64 (1+y1))),(11,.d .fz (.i .i64 (k1:Int))),(12,.pb 7 0),(44,.d .fz (.b s11))] ?_ ?_
 replace hr:=hqq10
 refine ifE hr (fun h8 hr=>?_) fun h8 hr=>?_
 refine VT rfl h8 ?_
 refine N4 ?_
 cases hr
 exact q3n
 refine VF rfl (bF h8) ?_
 iterate 3 refine AL.off ?_
 refine N1 ?_
 cases hr
 exact q3n
 refine bdE hr fun s12 hqq11 hr=>?_
 refine q0h 8 [(0,.pb 0 0),(2,.d .fz (.b a2)),(3,.d .fz (.b a3)),(8,.pb 1 0),(9,.pb 2 0),(10,.d .fz (.i .i64 (1+y1))),(11,.d .fz (.i .i64 (k1:Int))),(12,.pb 7 0),(52,.d .fz (.b s12))] ?_ ?_
 replace hr:=hqq11
 refine ifE hr (fun h9 hr=>?_) fun h9 hr=>?_
 refine VT rfl h9 ?_
 iterate 6 refine AL.off ?_
 refine N1 ?_
 cases hr
 exact q3n
 refine VF rfl (bF h9) ?_
 refine W1 ?_
 refine bdE hr fun q12 hqq12 hr=>?_
 obtain⟨s13,s14⟩:=q12
 refine q0h 5 [(0,.pb 0 0),(2,.d .fz (.b a2)),(3,.d .fz (.b a3)),(8,.pb 1 0),(9,.pb 2 0),(10,.d .fz (.i .i64 (1+y1))),(11,.d .fz (.i .i64 (k1:Int))),(12,.pb 7 0),(45,.d .fz (.b false)),(46,.d .fz (.b a3)),(47,.d .fz (.b s13)),(51,.d .fz (.b s14))] ?_ ?_
 replace hr:=hqq12
 refine ifE hr (fun h10 hr=>?_) fun h10 hr=>?_
 refine VT rfl h10 ?_
 refine N4 ?_
 cases hr
 exact q3n
 refine VF rfl (bF h10) ?_
 iterate 3 refine AL.off ?_
 refine N1 ?_
 cases hr
 exact q3n
 refine N1 ?_
 cases hr
 exact q3n
 refine N0 ?_
 refine ifE hr (fun h11 hr=>?_) fun h11 hr=>?_
 refine q0f rfl h11 ?_
 refine q0c ?_
 refine W1 ?_
 refine SB ?_
 refine N0 ?_
 refine ssr ?_
 refine N3 ?_
 refine ifE hr (fun h12 hr=>?_) fun h12 hr=>?_
 refine q0f rfl (dT h12) ?_
 refine q0c ?_
 refine W1 ?_
 refine SB ?_
 refine N0 ?_
 refine q0c ?_
 refine W3 ?_
 refine LIR 8 (m:=.fz) (f:=Attribute.D) (xs:=[(⟨x1,2,2,false⟩:Attribute)]) ?_
 refine ggE hr fun g6 hr=>?_
 refine APf1 (f:=Attribute.D) 9 (fun _=>rfl) 40 g6 ?_
 refine W1 ?_
 refine SB ?_
 refine N0 ?_
 cases hr
 exact q0l hS [(0,0),(1,1),(2,2),(9,4)] 5
 refine q0g rfl (dF h12) ?_
 refine q0b ?_
 refine q0c ?_
 refine W3 ?_
 refine LIR 8 (m:=.fz) (f:=Attribute.D) (xs:=[(⟨x1,y2,2,false⟩:Attribute)]) ?_
 refine ggE hr fun g7 hr=>?_
 refine APf1 (f:=Attribute.D) 9 (fun _=>rfl) 40 g7 ?_
 refine W1 ?_
 refine SB ?_
 refine N0 ?_
 cases hr
 exact q0l hS [(0,0),(1,1),(2,2),(9,4)] 5
 refine q0g rfl (bF h11) ?_
 refine q0b ?_
 refine ssr ?_
 refine N3 ?_
 refine ifE hr (fun h13 hr=>?_) fun h13 hr=>?_
 refine q0f rfl (dT h13) ?_
 refine q0c ?_
 refine W1 ?_
 refine SB ?_
 refine N0 ?_
 refine q0c ?_
 refine W3 ?_
 refine LIR 8 (m:=.fz) (f:=Attribute.D) (xs:=[(⟨x1,2,y3,false⟩:Attribute)]) ?_
 refine ggE hr fun g8 hr=>?_
 refine APf1 (f:=Attribute.D) 9 (fun _=>rfl) 40 g8 ?_
 refine W1 ?_
 refine SB ?_
 refine N0 ?_
 cases hr
 exact q0l hS [(0,0),(1,1),(2,2),(9,4)] 5
 refine q0g rfl (dF h13) ?_
 refine q0b ?_
 refine q0c ?_
 refine W3 ?_
 refine LIR 8 (m:=.fz) (f:=Attribute.D) (xs:=[(⟨x1,y2,y3,false⟩:Attribute)]) ?_
 refine ggE hr fun g9 hr=>?_
 refine APf1 (f:=Attribute.D) 9 (fun _=>rfl) 40 g9 ?_
 refine W1 ?_
 refine SB ?_
 refine N0 ?_
 cases hr
 exact q0l hS [(0,0),(1,1),(2,2),(9,4)] 5
 refine q0c ?_
 refine W1 ?_
 refine OB _ (q3B (p:=k1) (q:=1) (q3m (ltI hltk1) hl1.2)) ?_
 refine N1 ?_
 cases hr
 exact q0l hS [(0,0),(1,1),(2,2),(4,3)] 4
 refine ssr ?_
 refine N3 ?_
 refine q0g rfl (dF geI) ?_
 refine q0i ?_
 refine sr ?_
 refine W1 ?_
 refine SB ?_
 refine N0 ?_
 refine AW.ret ?_
 cases hr
 exact q0a [(0,0),(3,1)] 2 hS
def z0A:(Int × ByteArray)→Option ((Int × ByteArray) ⊕ ByteArray):=fun (s2,s3)=>
 if s2=0 then (
 some (.inr s3)
 ) else (
 if (s2.tmod 10) < 0 then (
 grd (I64 (0 - (s2.tmod 10))) <|
 grd (I64 (48+(0 - (s2.tmod 10)))) <|
 grd ((⟨#[(UInt8.ofNat ((48+(0 - (s2.tmod 10))) % 256).toNat)]⟩:ByteArray).size+s3.size≤9223372036854775807) <|
 grd (I64 (s2.tdiv 10)) <|
 some (.inl ((s2.tdiv 10),((⟨#[(UInt8.ofNat ((48+(0 - (s2.tmod 10))) % 256).toNat)]⟩:ByteArray)++s3)))
 ) else (
 grd (I64 (48+(s2.tmod 10))) <|
 grd ((⟨#[(UInt8.ofNat ((48+(s2.tmod 10)) % 256).toNat)]⟩:ByteArray).size+s3.size≤9223372036854775807) <|
 grd (I64 (s2.tdiv 10)) <|
 some (.inl ((s2.tdiv 10),((⟨#[(UInt8.ofNat ((48+(s2.tmod 10)) % 256).toNat)]⟩:ByteArray)++s3)))
 )
 )
def q8O (a0:Int):Option ByteArray:=
 if a0=0 then (
 some (⟨#[48]⟩:ByteArray)
 ) else (
 (q5m z0A (a0,(⟨#[]⟩:ByteArray))).bind fun s1=>
 if a0 < 0 then (
 grd ((⟨#[45]⟩:ByteArray).size+s1.size≤9223372036854775807) <|
 some ((⟨#[45]⟩:ByteArray)++s1)
 ) else (
 some s1
 )
 )
theorem z9z {a0:Int}{r:ByteArray}(hr:q8O a0=some r):Ok Tryz.prog 74 [.d .fz (.i .i64 a0)] [] (.d .fz (.s r)) []:=by
 refine Ok.enter rfl Tryz.func74 rfl rfl rfl fun S hS=>?_
 unfold q8O at hr
 refine sr ?_
 refine N1 ?_
 refine ssr ?_
 refine N2 ?_
 refine ifE hr (fun h1 hr=>?_) fun h1 hr=>?_
 refine q0f rfl (dT h1) ?_
 refine sr ?_
 refine N1 ?_
 refine AW.ret ?_
 cases hr
 exact q0a [] 0 hS
 refine q0g rfl (dF h1) ?_
 refine q0b ?_
 refine sr ?_
 refine N3 ?_
 refine sr ?_
 refine N1 ?_
 refine bdE hr fun s1 hqq1 hr=>?_
 refine q0d (q0n 0 [(3,.d .fz (.b (decide (a0 < 0)))),(4,.d .fz (.s s1))] [] ?_ ?_)
 refine AW.block (q0q hqq1 0 (fun (s2,s3)=>[(0,.d .fz (.i .i64 s2)),(3,.d .fz (.b (decide (a0 < 0)))),(4,.d .fz (.s s3))]) (fun (s2,s3)=>[]) (q0e hS 0) fun sk1 ok1 hr hik1=>?_)
 obtain⟨s2,s3⟩:=sk1
 have hr:=hr
 refine ssr ?_
 refine N2 ?_
 refine ifE hr (fun h2 hr=>?_) fun h2 hr=>?_
 refine q0g rfl (nF h2) ?_
 refine q0i ?_
 cases hr
 cases hik1 _ rfl
 exact q0e hS 0
 refine q0f rfl (nT h2) ?_
 refine q0b ?_
 refine AW.block (q0d (q0c ?_))
 refine W1 ?_
 refine OB _ (bRem (b:=10) (by decide)) ?_
 refine N1 ?_
 refine ssr ?_
 refine N2 ?_
 refine ifE hr (fun h3 hr=>?_) fun h3 hr=>?_
 refine q0f rfl (dT h3) ?_
 refine q0c ?_
 refine W1 ?_
 refine ggE hr fun g1 hr=>?_
 refine OB _ (bSub g1) ?_
 refine N1 ?_
 refine sr ?_
 refine W1 ?_
 refine ggE hr fun g2 hr=>?_
 refine OB _ (bAdd g2) ?_
 refine CIB rfl ?_
 refine LIR 0 (m:=.fz) (f:=byD) (xs:=([(UInt8.ofNat ((48+(0 - (s2.tmod 10))) % 256).toNat)]:List UInt8)) ?_
 refine TS rfl rfl ?_
 refine W1 ?_
 refine ggE hr fun g3 hr=>?_
 refine OB _ (j4h g3) ?_
 refine N1 ?_
 refine q0c ?_
 refine W1 ?_
 refine ggE hr fun g4 hr=>?_
 refine OB _ (bQuo (b:=10) (by decide) g4) ?_
 refine N1 ?_
 cases hr
 exact⟨_,rfl,q0e hS 0⟩
 refine q0g rfl (dF h3) ?_
 refine q0b ?_
 refine sr ?_
 refine W1 ?_
 refine ggE hr fun g5 hr=>?_
 refine OB _ (bAdd g5) ?_
 refine CIB rfl ?_
 refine LIR 0 (m:=.fz) (f:=byD) (xs:=([(UInt8.ofNat ((48+(s2.tmod 10)) % 256).toNat)]:List UInt8)) ?_
 refine TS rfl rfl ?_
 refine W1 ?_
 refine ggE hr fun g6 hr=>?_
 refine OB _ (j4h g6) ?_
 refine N1 ?_
 refine q0c ?_
 refine W1 ?_
 refine ggE hr fun g7 hr=>?_
 refine OB _ (bQuo (b:=10) (by decide) g7) ?_
 refine N1 ?_
 cases hr
 exact⟨_,rfl,q0e hS 0⟩
 refine ssr ?_
 refine N1 ?_
 refine ifE hr (fun h4 hr=>?_) fun h4 hr=>?_
 refine q0f rfl (dT h4) ?_
 refine sr ?_
 refine W1 ?_
 refine ggE hr fun g8 hr=>?_
 refine OB _ (j4h g8) ?_
 refine N1 ?_
 refine AW.ret ?_
 cases hr
 exact q0a [] 0 hS
 refine q0g rfl (dF h4) ?_
 refine q0b ?_
 refine sr ?_
 refine N2 ?_
 refine AW.ret ?_
 cases hr
 exact q0a [] 0 hS
def q6n (a1:(List ByteArray))(o0:l1Cur):Option (ByteArray × l1Cur):=
 (q3q (a1.length:Int) o0).bind fun (y1,z1)=>
 grd (0≤y1) <|
 (a1[y1.toNat]?).bind fun x1=>
 some (x1,(⟨o0.b,z1.i,z1.h⟩:l1Cur))
theorem q6S {m:Md}{a1:(List ByteArray)}{o0:l1Cur}{r:(ByteArray × l1Cur)}(hr:q6n a1 o0=some r):Ok Tryz.prog 40 [.pb 0 0,.d m (.sl 1 (a1.map A.D.s))] [.box [.d .fz (.sl 1 (o0.b.map byD)),.d .fz (.i .i64 o0.i),.d .fz (.i .i64 o0.h)]] (.d .fz (.s r.1)) [.box [.d .fz (.sl 1 (o0.b.map byD)),.d .fz (.i .i64 r.2.i),.d .fz (.i .i64 r.2.h)]]:=by
 refine Ok.enter rfl Tryz.func40 rfl rfl rfl fun S hS=>?_
 unfold q6n at hr
 refine sr ?_
 refine N1 ?_
 refine sr ?_
 refine W3 ?_
 refine LF ?_
 refine bdE hr fun q1 hq1 hr=>?_
 obtain⟨y1,z1⟩:=q1
 refine CB [(0,0)] [] (q3s hq1) ?_
 refine ggE hr fun g1 hr=>?_
 refine bdE hr fun x1 hx1 hr=>?_
 refine IF g1 hx1 ?_
 refine N2 ?_
 refine AW.ret ?_
 cases hr
 exact q0a [(0,0)] 1 hS
def q5H (a0:Int)(a1:Int)(a2:Int):Option Bool:=
 if a1≤a0 then (
 some (decide (a0≤a2))
 ) else (
 some false
 )
theorem q6x {a0:Int}{a1:Int}{a2:Int}{r:Bool}(hr:q5H a0 a1 a2=some r):Ok Tryz.prog 65 [.d .fz (.i .i64 a0),.d .fz (.i .i64 a1),.d .fz (.i .i64 a2)] [] (.d .fz (.b r)) []:=by
 refine Ok.enter rfl Tryz.func65 rfl rfl rfl fun S hS=>?_
 unfold q5H at hr
 refine sr ?_
 refine N1 ?_
 refine sr ?_
 refine W3 ?_
 refine ifE hr (fun h1 hr=>?_) fun h1 hr=>?_
 refine VT rfl (dT h1) ?_
 refine N5 ?_
 refine AW.ret ?_
 cases hr
 exact q0a [] 0 hS
 refine VF rfl (dF h1) ?_
 iterate 3 refine AL.off ?_
 refine N2 ?_
 refine AW.ret ?_
 cases hr
 exact q0a [] 0 hS
def q4P (a0:Rule)(a1:Int):Option ByteArray:=
 if a1=0 then (
 some a0.Left
 ) else (
 (q5H a1 1 (a0.Right.length:Int)).bind fun y1=>
 if y1=true then (
 grd (I64 (a1 - 1)) <|
 grd (0≤(a1 - 1)) <|
 (a0.Right[(a1 - 1).toNat]?).bind fun x1=>
 some x1
 ) else (
 some (⟨#[]⟩:ByteArray)
 )
 )
theorem q6F {m:Md}{a0:Rule}{a1:Int}{r:ByteArray}(hr:q4P a0 a1=some r):Ok Tryz.prog 31 [Rule.x m a0,.d .fz (.i .i64 a1)] [] (.d .fz (.s r)) []:=by
 refine Ok.enter rfl Tryz.func31 rfl rfl rfl fun S hS=>?_
 unfold q4P at hr
 refine sr ?_
 refine BX 0 ?_
 refine N1 ?_
 refine ssr ?_
 refine N2 ?_
 refine ifE hr (fun h1 hr=>?_) fun h1 hr=>?_
 refine q0f rfl (dT h1) ?_
 refine sr ?_
 refine N3 ?_
 refine AW.ret ?_
 cases hr
 exact q0a [] 0 hS
 refine q0g rfl (dF h1) ?_
 refine q0b ?_
 refine ssr ?_
 refine W3 ?_
 refine LF ?_
 refine bdE hr fun y1 hy1 hr=>?_
 refine CB [] [] (q6x hy1) ?_
 refine N1 ?_
 refine ifE hr (fun h2 hr=>?_) fun h2 hr=>?_
 refine q0g rfl (bnF h2) ?_
 refine q0b ?_
 refine sr ?_
 refine W3 ?_
 refine ggE hr fun g1 hr=>?_
 refine OB _ (bSub g1) ?_
 refine ggE hr fun g2 hr=>?_
 refine bdE hr fun x1 hx1 hr=>?_
 refine IF g2 hx1 ?_
 refine N2 ?_
 refine AW.ret ?_
 cases hr
 exact q0a [] 0 hS
 refine q0f rfl (bnT h2) ?_
 refine sr ?_
 refine N1 ?_
 refine AW.ret ?_
 cases hr
 exact q0a [] 0 hS
def q7V (a0:Symbol):Option Symbol:=
 grd (((([]:List Attribute).length:Int)+(a0.Attributes.length:Int))*40≤140737488355328∧(([]:List Attribute).length:Int)+(a0.Attributes.length:Int)≤9223372036854775807) <|
 some a0
theorem z9A {m:Md}{a0:Symbol}{r:Symbol}(hr:q7V a0=some r):Ok Tryz.prog 64 [Symbol.x m a0] [] (.ag [.d .fz (.s r.Name),.ref 0 none]) [.row .fz 4 (r.Attributes.map Attribute.D)]:=by
 refine Ok.enter rfl Tryz.func64 rfl rfl rfl fun S hS=>?_
 unfold q7V at hr
 refine sr ?_
 refine BX 0 ?_
 refine NV 1 ?_
 refine N0 ?_
 refine q0d (q0j (h:=?_))
 refine W2 ?_
 refine L0 2 Attribute.D ?_
 refine W2 ?_
 refine ggE hr fun g1 hr=>?_
 refine APfB (f:=Attribute.D) 3 40 (fun _=>rfl) g1 ?_
 refine W1 ?_
 refine SB ?_
 refine N0 ?_
 refine AW.ret ?_
 cases hr
 exact q0a [(3,0)] 1 hS
def q8t (a1:ByteArray):Nat→Symbol→Unit→Option (Unit ⊕ (Symbol × Bool)):=fun k1 xk1 _=>
 if xk1.Name=a1 then (
 (q7V xk1).bind fun y1=>
 some (.inr (y1,true))
 ) else (
 some (.inl ())
 )
def q4C (a0:Grammar)(a1:ByteArray):Option (Symbol × Bool):=
 (findL (q8t a1) 0 a0.Symbols ()).bind <| onr (fun r1=>some r1) fun _=>
 some ((⟨(⟨#[]⟩:ByteArray),[]⟩:Symbol),false)
theorem q5C {m:Md}{a0:Grammar}{a1:ByteArray}{r:(Symbol × Bool)}(hr:q4C a0 a1=some r):Ok Tryz.prog 30 [Grammar.y m a0,.d .fz (.s a1)] [] (.tu [.ag [.d .fz (.s r.1.Name),.ref 0 none],.d .fz (.b r.2)]) [.row .fz 4 (r.1.Attributes.map Attribute.D)]:=by
 refine Ok.enter rfl Tryz.func30 rfl rfl rfl fun S hS=>?_
 unfold q4C at hr
 refine sr ?_
 refine BX 0 ?_
 refine NV 1 ?_
 refine N1 ?_
 refine ssr ?_
 refine N1 ?_
 refine AW.block ?_
 refine AW.len (.ag 0 (.tmp 0 rfl) rfl) fun hl1=>?_
 refine bdE hr fun q1 hqq1 hr=>?_
 refine q0k hqq1 hl1 2 (fun k1 _=>[(1,.d .fz (.s a1)),(2,.pb 0 0),(4,.pb 1 0),(6,.d .fz (.i .i64 (k1:Int)))]) (fun k1 _=>[]) (GH.trans (q0m (q:=0) [.d m (.sl 2 (a0.Symbols.map Symbol.D)),.u] (.cons .rfl (.cons .u .nil)) rfl) (q0e hS 2)) (fun k1 xk1 sk1 ok1 hxk1 hr hltk1 hik1=>?_) fun k1 sk1 ek1 hltk1=>?_
 refine ssr ?_
 refine W3 ?_
 refine LF ?_
 refine N1 ?_
 refine q0f rfl (dT hltk1) ?_
 refine q0b ?_
 refine q0d (AW.block (q0d (q0c ?_)))
 refine W3 ?_
 refine IF (Int.natCast_nonneg _) hxk1 ?_
 refine N4 ?_
 refine ifE hr (fun h1 hr=>?_) fun h1 hr=>?_
 refine q0f rfl (dT h1) ?_
 refine sr ?_
 refine W3 ?_
 refine IF (Int.natCast_nonneg _) hxk1 ?_
 refine W1 ?_
 refine bdE hr fun y1 hy1 hr=>?_
 refine CB [(0,2)] [] (z9A (m:=m) hy1) ?_
 refine SB ?_
 refine N1 ?_
 refine AW.ret ?_
 cases hr
 cases hik1 _ rfl
 rename_i hr
 cases hr
 exact q0a [(2,0)] 1 hS
 refine q0g rfl (dF h1) ?_
 refine q0b ?_
 refine q0c ?_
 refine W1 ?_
 refine OB _ (q3B (p:=k1) (q:=1) (q3m hltk1 hl1)) ?_
 refine N1 ?_
 cases hr
 exact⟨_,rfl,GH.trans (q0m (q:=0) [.d m (.sl 2 (a0.Symbols.map Symbol.D)),.u] (.cons .rfl (.cons .u .nil)) rfl) (q0e hS 2)⟩
 subst ek1
 refine ssr ?_
 refine W3 ?_
 refine LF ?_
 refine N1 ?_
 refine q0g rfl (dF hltk1) ?_
 refine q0i ?_
 refine sr ?_
 refine W1 ?_
 refine SB ?_
 refine N1 ?_
 refine AW.ret ?_
 refine endA.gh (q0t (q:=1) (c:=1) (r:=2) .fz 4 rfl rfl rfl) ?_
 cases hr
 exact q0a [(2,0)] 1 hS
def q7k (s3:Int):Nat→Attribute→((List Occurrence))→Option ((List Occurrence)):=fun k2 xk2 s5=>
 (
 if xk2.Mode=2 then (
 grd (((s5.length:Int)+1)*24≤140737488355328∧(s5.length:Int)+1≤9223372036854775807) <|
 some (s5++[(⟨s3,xk2.Name⟩:Occurrence)])
 ) else (
 some s5
 )
 ).bind fun s6=>
 some s6
def q7l (s3:Int):Nat→Attribute→((List Occurrence))→Option ((List Occurrence)):=fun k3 xk3 s7=>
 (
 if xk3.Mode=1 then (
 grd (((s7.length:Int)+1)*24≤140737488355328∧(s7.length:Int)+1≤9223372036854775807) <|
 some (s7++[(⟨s3,xk3.Name⟩:Occurrence)])
 ) else (
 some s7
 )
 ).bind fun s8=>
 some s8
def q5p (a0:Grammar)(a1:Rule):((List Occurrence) × Int)→Option (((List Occurrence) × Int) ⊕ ((List Occurrence))):=fun (s2,s3)=>
 if s3≤(a1.Right.length:Int) then (
 (
 (q4P a1 s3).bind fun y1=>
 (q4C a0 y1).bind fun (y2,y3)=>
 if s3=0 then (
 (eachL (q7k s3) 0 y2.Attributes s2).bind fun s5=>
 some s5
 ) else (
 (eachL (q7l s3) 0 y2.Attributes s2).bind fun s7=>
 some s7
 )
 ).bind fun s4=>
 grd (I64 (s3+1)) <|
 some (.inl (s4,(s3+1)))
 ) else (
 some (.inr s2)
 )
def q4K (a0:Grammar)(a1:Rule):Option (List Occurrence):=
 (q5m (q5p a0 a1) (([]:List Occurrence),0)).bind fun s1=>
 some s1
theorem q7m {m:Md}{a0:Grammar}{a1:Rule}{r:(List Occurrence)}(hr:q4K a0 a1=some r):Ok Tryz.prog 105 [Grammar.y m a0,Rule.x m a1] [] (.ref 0 none) [.row .fz 2 (r.map Occurrence.D)]:=by
 refine Ok.enter rfl Tryz.func105 rfl rfl rfl fun S hS=>?_
 unfold q4K at hr
 refine sr ?_
 refine BX 0 ?_
 refine BX 1 ?_
 refine N1 ?_
 refine sr ?_
 refine L0 2 Occurrence.D ?_
 refine N1 ?_
 refine ssr ?_
 refine N1 ?_
 refine bdE hr fun s1 hqq1 hr=>?_
 refine q0n 3 [(5,.ref 2 none)] [(2,.row .fz 2 (s1.map Occurrence.D))] ?_ ?_
 refine AW.block (q0q hqq1 3 (fun (s2,s3)=>[(2,.pb 0 0),(3,.pb 1 0),(5,.ref 2 none),(6,.d .fz (.i .i64 s3))]) (fun (s2,s3)=>[(2,.row .fz 2 (s2.map Occurrence.D))]) (GH.trans (q0m (q:=0) [.d m (.sl 2 (a0.Symbols.map Symbol.D)),.u] (.cons .rfl (.cons .u .nil)) rfl) (q0e hS 3)) fun sk1 ok1 hr hik1=>?_)
 obtain⟨s2,s3⟩:=sk1
 have hr:=hr
 refine ssr ?_
 refine W3 ?_
 refine LF ?_
 refine N1 ?_
 refine ifE hr (fun h1 hr=>?_) fun h1 hr=>?_
 refine q0f rfl (dT h1) ?_
 refine q0b ?_
 refine bdE hr fun s4 hqq2 hr=>?_
 refine q0d (q0n 3 [(2,.pb 0 0),(3,.pb 1 0),(5,.ref 2 none),(6,.d .fz (.i .i64 s3))] [(2,.row .fz 2 (s4.map Occurrence.D))] ?_ ?_)
 replace hr:=hqq2
 refine AW.block (q0d (q0j (h:=?_)))
 refine W3 ?_
 refine bdE hr fun y1 hy1 hr=>?_
 refine CB [] [] (q6F (m:=m) hy1) ?_
 refine bdE hr fun q3 hq3 hr=>?_
 obtain⟨y2,y3⟩:=q3
 refine CB [(0,3)] [] (q5C (m:=m) hq3) ?_
 refine W3 ?_
 refine NV 4 ?_
 refine SB ?_
 refine N1 ?_
 refine sr ?_
 refine N1 ?_
 refine ssr ?_
 refine N2 ?_
 refine ifE hr (fun h2 hr=>?_) fun h2 hr=>?_
 refine q0f rfl (dT h2) ?_
 refine q0c ?_
 refine N1 ?_
 refine sr ?_
 refine N1 ?_
 refine AW.block ?_
 refine q0r 3 rfl fun hl2=>?_
 refine bdE hr fun s5 hqq4 hr=>?_
 refine q0o hqq4 hl2 5 (fun k2 s5=>[(2,.pb 0 0),(3,.pb 1 0),(5,.ref 2 none),(6,.d .fz (.i .i64 s3)),(7,.pb 4 0),(9,.d .fz (.i .i64 2)),(10,.d .fz (.i .i64 (k2:Int)))]) (fun k2 s5=>[(2,.row .fz 2 (s5.map Occurrence.D))]) (GH.trans (q0m (q:=0) [.d m (.sl 2 (a0.Symbols.map Symbol.D)),.u] (.cons .rfl (.cons .u .nil)) rfl) (q0e hS 5)) (fun k2 xk2 sk2 ok2 hxk2 hr hltk2=>?_) fun k2 hltk2=>?_
 obtain⟨s5,rfl⟩:∃ y,y=sk2:=⟨_,rfl⟩
 refine ssr ?_
 refine W3 ?_
 refine LE ?_
 refine N1 ?_
 refine q0f rfl (dT hltk2) ?_
 refine q0b ?_
 refine bdE hr fun s6 hqq5 hr=>?_
 refine q0d (q0n 5 [(2,.pb 0 0),(3,.pb 1 0),(5,.ref 2 none),(6,.d .fz (.i .i64 s3)),(7,.pb 4 0),(9,.d .fz (.i .i64 2)),(10,.d .fz (.i .i64 (k2:Int)))] [(2,.row .fz 2 (s6.map Occurrence.D))] ?_ ?_)
 replace hr:=hqq5
 refine AW.block (q0d (q0c ?_))
 refine W3 ?_
 refine IE hxk2 (Int.natCast_nonneg _) ?_
 refine W1 ?_
 refine LP hxk2 ?_
 refine N2 ?_
 refine ifE hr (fun h3 hr=>?_) fun h3 hr=>?_
 refine q0f rfl (dT h3) ?_
 refine q0c ?_
 refine W5 ?_
 refine IE hxk2 (Int.natCast_nonneg _) ?_
 refine W1 ?_
 refine LP hxk2 ?_
 refine W1 ?_
 refine LIR 5 (m:=.fz) (f:=Occurrence.D) (xs:=[(⟨s3,xk2.Name⟩:Occurrence)]) ?_
 refine ggE hr fun g1 hr=>?_
 refine APf1 (f:=Occurrence.D) 6 (fun _=>rfl) 24 g1 ?_
 refine N1 ?_
 cases hr
 exact GH.trans (q0m (q:=0) [.d m (.sl 2 (a0.Symbols.map Symbol.D)),.u] (.cons .rfl (.cons .u .nil)) rfl) (q0l hS [(0,0),(1,1),(6,2),(3,3),(4,4)] 5)
 refine q0g rfl (dF h3) ?_
 refine q0b ?_
 cases hr
 exact GH.trans (q0m (q:=0) [.d m (.sl 2 (a0.Symbols.map Symbol.D)),.u] (.cons .rfl (.cons .u .nil)) rfl) (q0e hS 5)
 refine q0c ?_
 refine W1 ?_
 refine OB _ (q3B (p:=k2) (q:=1) (q3m hltk2 hl2)) ?_
 refine N1 ?_
 cases hr
 exact GH.trans (q0m (q:=0) [.d m (.sl 2 (a0.Symbols.map Symbol.D)),.u] (.cons .rfl (.cons .u .nil)) rfl) (q0e hS 5)
 refine ssr ?_
 refine W3 ?_
 refine LE ?_
 refine N1 ?_
 refine q0g rfl (dF hltk2) ?_
 refine q0i ?_
 cases hr
 exact GH.trans (q0m (q:=0) [.d m (.sl 2 (a0.Symbols.map Symbol.D)),.u] (.cons .rfl (.cons .u .nil)) rfl) (q0e hS 3)
 refine q0g rfl (dF h2) ?_
 refine q0b ?_
 refine sr ?_
 refine N1 ?_
 refine AW.block ?_
 refine q0r 3 rfl fun hl3=>?_
 refine bdE hr fun s7 hqq6 hr=>?_
 refine q0o hqq6 hl3 5 (fun k3 s7=>[(2,.pb 0 0),(3,.pb 1 0),(5,.ref 2 none),(6,.d .fz (.i .i64 s3)),(7,.pb 4 0),(9,.d .fz (.i .i64 1)),(10,.d .fz (.i .i64 (k3:Int)))]) (fun k3 s7=>[(2,.row .fz 2 (s7.map Occurrence.D))]) (GH.trans (q0m (q:=0) [.d m (.sl 2 (a0.Symbols.map Symbol.D)),.u] (.cons .rfl (.cons .u .nil)) rfl) (q0e hS 5)) (fun k3 xk3 sk3 ok3 hxk3 hr hltk3=>?_) fun k3 hltk3=>?_
 obtain⟨s7,rfl⟩:∃ y,y=sk3:=⟨_,rfl⟩
 refine ssr ?_
 refine W3 ?_
 refine LE ?_
 refine N1 ?_
 refine q0f rfl (dT hltk3) ?_
 refine q0b ?_
 refine bdE hr fun s8 hqq7 hr=>?_
 refine q0d (q0n 5 [(2,.pb 0 0),(3,.pb 1 0),(5,.ref 2 none),(6,.d .fz (.i .i64 s3)),(7,.pb 4 0),(9,.d .fz (.i .i64 1)),(10,.d .fz (.i .i64 (k3:Int)))] [(2,.row .fz 2 (s8.map Occurrence.D))] ?_ ?_)
 replace hr:=hqq7
 refine AW.block (q0d (q0c ?_))
 refine W3 ?_
 refine IE hxk3 (Int.natCast_nonneg _) ?_
 refine W1 ?_
 refine LP hxk3 ?_
 refine N2 ?_
 refine ifE hr (fun h4 hr=>?_) fun h4 hr=>?_
 refine q0f rfl (dT h4) ?_
 refine q0c ?_
 refine W5 ?_
 refine IE hxk3 (Int.natCast_nonneg _) ?_
 refine W1 ?_
 refine LP hxk3 ?_
 refine W1 ?_
 refine LIR 5 (m:=.fz) (f:=Occurrence.D) (xs:=[(⟨s3,xk3.Name⟩:Occurrence)]) ?_
 refine ggE hr fun g2 hr=>?_
 refine APf1 (f:=Occurrence.D) 6 (fun _=>rfl) 24 g2 ?_
 refine N1 ?_
 cases hr
 exact GH.trans (q0m (q:=0) [.d m (.sl 2 (a0.Symbols.map Symbol.D)),.u] (.cons .rfl (.cons .u .nil)) rfl) (q0l hS [(0,0),(1,1),(6,2),(3,3),(4,4)] 5)
 refine q0g rfl (dF h4) ?_
 refine q0b ?_
 cases hr
 exact GH.trans (q0m (q:=0) [.d m (.sl 2 (a0.Symbols.map Symbol.D)),.u] (.cons .rfl (.cons .u .nil)) rfl) (q0e hS 5)
 refine q0c ?_
 refine W1 ?_
 refine OB _ (q3B (p:=k3) (q:=1) (q3m hltk3 hl3)) ?_
 refine N1 ?_
 cases hr
 exact GH.trans (q0m (q:=0) [.d m (.sl 2 (a0.Symbols.map Symbol.D)),.u] (.cons .rfl (.cons .u .nil)) rfl) (q0e hS 5)
 refine ssr ?_
 refine W3 ?_
 refine LE ?_
 refine N1 ?_
 refine q0g rfl (dF hltk3) ?_
 refine q0i ?_
 cases hr
 exact GH.trans (q0m (q:=0) [.d m (.sl 2 (a0.Symbols.map Symbol.D)),.u] (.cons .rfl (.cons .u .nil)) rfl) (q0e hS 3)
 refine q0c ?_
 refine W1 ?_
 refine ggE hr fun g3 hr=>?_
 refine OB _ (bAdd g3) ?_
 refine N1 ?_
 cases hr
 exact⟨_,rfl,GH.trans (q0m (q:=0) [.d m (.sl 2 (a0.Symbols.map Symbol.D)),.u] (.cons .rfl (.cons .u .nil)) rfl) (q0e hS 3)⟩
 refine q0g rfl (dF h1) ?_
 refine q0i ?_
 cases hr
 cases hik1 _ rfl
 exact GH.trans (q0m (q:=0) [.d m (.sl 2 (a0.Symbols.map Symbol.D)),.u] (.cons .rfl (.cons .u .nil)) rfl) (q0e hS 3)
 refine sr ?_
 refine N2 ?_
 refine AW.ret ?_
 cases hr
 exact q0a [(2,0)] 1 hS
def q6T (a1:ByteArray):Nat→Attribute→Unit→Option (Unit ⊕ (Attribute × Bool)):=fun k1 xk1 _=>
 if xk1.Name=a1 then (
 some (.inr (xk1,true))
 ) else (
 some (.inl ())
 )
def q4m (a0:Symbol)(a1:ByteArray):Option (Attribute × Bool):=
 (findL (q6T a1) 0 a0.Attributes ()).bind <| onr (fun r1=>some r1) fun _=>
 some ((⟨(⟨#[]⟩:ByteArray),0,0,false⟩:Attribute),false)
theorem q6U {m:Md}{a0:Symbol}{a1:ByteArray}{r:(Attribute × Bool)}(hr:q4m a0 a1=some r):Ok Tryz.prog 32 [Symbol.x m a0,.d .fz (.s a1)] [] (.tu [Attribute.x .fz r.1,.d .fz (.b r.2)]) []:=by
 refine Ok.enter rfl Tryz.func32 rfl rfl rfl fun S hS=>?_
 unfold q4m at hr
 refine sr ?_
 refine BX 0 ?_
 refine NV 1 ?_
 refine N1 ?_
 refine ssr ?_
 refine N1 ?_
 refine AW.block ?_
 refine AW.len (.ag 1 (.tmp 0 rfl) rfl) fun hl1=>?_
 refine bdE hr fun q1 hqq1 hr=>?_
 refine q0k hqq1 hl1 2 (fun k1 _=>[(1,.d .fz (.s a1)),(2,.pb 0 0),(4,.pb 1 0),(6,.d .fz (.i .i64 (k1:Int)))]) (fun k1 _=>[]) (q0e hS 2) (fun k1 xk1 sk1 ok1 hxk1 hr hltk1 hik1=>?_) fun k1 sk1 ek1 hltk1=>?_
 refine ssr ?_
 refine W3 ?_
 refine LF ?_
 refine N1 ?_
 refine q0f rfl (dT hltk1) ?_
 refine q0b ?_
 refine q0d (AW.block (q0d (q0c ?_)))
 refine W3 ?_
 refine IF (Int.natCast_nonneg _) hxk1 ?_
 refine N4 ?_
 refine ifE hr (fun h1 hr=>?_) fun h1 hr=>?_
 refine q0f rfl (dT h1) ?_
 refine sr ?_
 refine W3 ?_
 refine IF (Int.natCast_nonneg _) hxk1 ?_
 refine W1 ?_
 refine SB ?_
 refine N1 ?_
 refine AW.ret ?_
 cases hr
 cases hik1 _ rfl
 rename_i hr
 cases hr
 exact q0a [] 0 hS
 refine q0g rfl (dF h1) ?_
 refine q0b ?_
 refine q0c ?_
 refine W1 ?_
 refine OB _ (q3B (p:=k1) (q:=1) (q3m hltk1 hl1)) ?_
 refine N1 ?_
 cases hr
 exact⟨_,rfl,q0e hS 2⟩
 subst ek1
 refine ssr ?_
 refine W3 ?_
 refine LF ?_
 refine N1 ?_
 refine q0g rfl (dF hltk1) ?_
 refine q0i ?_
 refine sr ?_
 refine W1 ?_
 refine SB ?_
 refine N1 ?_
 refine AW.ret ?_
 cases hr
 exact q0a [] 0 hS
def j0T (a2:Int)(s3:Int):Nat→Attribute→((List Occurrence))→Option ((List Occurrence)):=fun k2 xk2 s4=>
 (
 (
 if s3=0 then (
 some (decide (xk2.Mode=1))
 ) else (
 some false
 )
 ).bind fun s6=>
 (
 if s6=true then (
 some true
 ) else (
 (
 if 0 < s3 then (
 some (true,decide (xk2.Mode=2))
 ) else (
 some (false,false)
 )
 ).bind fun (s8,s9)=>
 some s9
 )
 ).bind fun s7=>
 (
 if xk2.Type_=a2 then (
 some s7
 ) else (
 some false
 )
 ).bind fun s10=>
 if s10=true then (
 grd (((s4.length:Int)+1)*24≤140737488355328∧(s4.length:Int)+1≤9223372036854775807) <|
 some (s4++[(⟨s3,xk2.Name⟩:Occurrence)])
 ) else (
 some s4
 )
 ).bind fun s5=>
 some s5
def j0U (a0:Grammar)(a1:Rule)(a2:Int):((List Occurrence) × Int)→Option (((List Occurrence) × Int) ⊕ ((List Occurrence))):=fun (s2,s3)=>
 if s3≤(a1.Right.length:Int) then (
 (q4P a1 s3).bind fun y1=>
 (q4C a0 y1).bind fun (y2,y3)=>
 (eachL (j0T a2 s3) 0 y2.Attributes s2).bind fun s4=>
 grd (I64 (s3+1)) <|
 some (.inl (s4,(s3+1)))
 ) else (
 some (.inr s2)
 )
def q8W (a0:Grammar)(a1:Rule)(a2:Int):Option (List Occurrence):=
 (q5m (j0U a0 a1 a2) (([]:List Occurrence),0)).bind fun s1=>
 some s1
theorem z0U {m:Md}{a0:Grammar}{a1:Rule}{a2:Int}{r:(List Occurrence)}(hr:q8W a0 a1 a2=some r):Ok Tryz.prog 44 [Grammar.y m a0,Rule.x m a1,.d .fz (.i .i64 a2)] [] (.ref 0 none) [.row .fz 2 (r.map Occurrence.D)]:=by
 refine Ok.enter rfl Tryz.func44 rfl rfl rfl fun S hS=>?_
 unfold q8W at hr
 refine sr ?_
 refine BX 0 ?_
 refine BX 1 ?_
 refine N1 ?_
 refine sr ?_
 refine L0 2 Occurrence.D ?_
 refine N1 ?_
 refine ssr ?_
 refine N1 ?_
 refine bdE hr fun s1 hqq1 hr=>?_
 refine q0n 3 [(7,.ref 2 none)] [(2,.row .fz 2 (s1.map Occurrence.D))] ?_ ?_
 refine AW.block (q0q hqq1 3 (fun (s2,s3)=>[(2,.d .fz (.i .i64 a2)),(3,.pb 0 0),(4,.pb 1 0),(7,.ref 2 none),(8,.d .fz (.i .i64 s3))]) (fun (s2,s3)=>[(2,.row .fz 2 (s2.map Occurrence.D))]) (GH.trans (q0m (q:=0) [.d m (.sl 2 (a0.Symbols.map Symbol.D)),.u] (.cons .rfl (.cons .u .nil)) rfl) (q0e hS 3)) fun sk1 ok1 hr hik1=>?_)
 obtain⟨s2,s3⟩:=sk1
 have hr:=hr
 refine ssr ?_
 refine W3 ?_
 refine LF ?_
 refine N1 ?_
 refine ifE hr (fun h1 hr=>?_) fun h1 hr=>?_
 refine q0f rfl (dT h1) ?_
 refine q0b ?_
 refine q0d (AW.block (q0d (q0j (h:=?_))))
 refine W3 ?_
 refine bdE hr fun y1 hy1 hr=>?_
 refine CB [] [] (q6F (m:=m) hy1) ?_
 refine bdE hr fun q2 hq2 hr=>?_
 obtain⟨y2,y3⟩:=q2
 refine CB [(0,3)] [] (q5C (m:=m) hq2) ?_
 refine W3 ?_
 refine NV 4 ?_
 refine SB ?_
 refine N1 ?_
 refine sr ?_
 refine N1 ?_
 refine AW.block ?_
 refine q0r 3 rfl fun hl2=>?_
 refine bdE hr fun s4 hqq3 hr=>?_
 refine q0o hqq3 hl2 5 (fun k2 s4=>[(2,.d .fz (.i .i64 a2)),(3,.pb 0 0),(4,.pb 1 0),(7,.ref 2 none),(8,.d .fz (.i .i64 s3)),(9,.pb 4 0),(11,.d .fz (.i .i64 (k2:Int)))]) (fun k2 s4=>[(2,.row .fz 2 (s4.map Occurrence.D))]) (GH.trans (q0m (q:=0) [.d m (.sl 2 (a0.Symbols.map Symbol.D)),.u] (.cons .rfl (.cons .u .nil)) rfl) (q0e hS 5)) (fun k2 xk2 sk2 ok2 hxk2 hr hltk2=>?_) fun k2 hltk2=>?_
 obtain⟨s4,rfl⟩:∃ y,y=sk2:=⟨_,rfl⟩
 refine ssr ?_
 refine W3 ?_
 refine LE ?_
 refine N1 ?_
 refine q0f rfl (dT hltk2) ?_
 refine q0b ?_
 refine bdE hr fun s5 hqq4 hr=>?_
 refine q0d (q0n 5 [(2,.d .fz (.i .i64 a2)),(3,.pb 0 0),(4,.pb 1 0),(7,.ref 2 none),(8,.d .fz (.i .i64 s3)),(9,.pb 4 0),(11,.d .fz (.i .i64 (k2:Int)))] [(2,.row .fz 2 (s5.map Occurrence.D))] ?_ ?_)
 replace hr:=hqq4
 refine AW.block (q0d (q0c ?_))
 refine W3 ?_
 refine IE hxk2 (Int.natCast_nonneg _) ?_
 refine LPa hxk2 ?_
 refine NV 5 ?_
 refine SB ?_
 refine N0 ?_
 refine sr ?_
 refine W2 ?_
 refine bdE hr fun s6 hqq5 hr=>?_
 refine q0h 5 [(2,.d .fz (.i .i64 a2)),(3,.pb 0 0),(4,.pb 1 0),(7,.ref 2 none),(8,.d .fz (.i .i64 s3)),(9,.pb 4 0),(11,.d .fz (.i .i64 (k2:Int))),(12,.pb 5 0),(48,.d .fz (.b s6))] ?_ ?_
 replace hr:=hqq5
 refine ifE hr (fun h2 hr=>?_) fun h2 hr=>?_
 refine VT rfl (dT h2) ?_
 refine N4 ?_
 cases hr
 exact q3n
 refine VF rfl (dF h2) ?_
 iterate 3 refine AL.off ?_
 refine N1 ?_
 cases hr
 exact q3n
 refine bdE hr fun s7 hqq6 hr=>?_
 refine q0h 9 [(2,.d .fz (.i .i64 a2)),(3,.pb 0 0),(4,.pb 1 0),(7,.ref 2 none),(8,.d .fz (.i .i64 s3)),(9,.pb 4 0),(11,.d .fz (.i .i64 (k2:Int))),(12,.pb 5 0),(57,.d .fz (.b s7))] ?_ ?_
 replace hr:=hqq6
 refine ifE hr (fun h3 hr=>?_) fun h3 hr=>?_
 refine VT rfl h3 ?_
 iterate 7 refine AL.off ?_
 refine N1 ?_
 cases hr
 exact q3n
 refine VF rfl (bF h3) ?_
 refine W2 ?_
 refine bdE hr fun q7 hqq7 hr=>?_
 obtain⟨s8,s9⟩:=q7
 refine q0h 5 [(2,.d .fz (.i .i64 a2)),(3,.pb 0 0),(4,.pb 1 0),(7,.ref 2 none),(8,.d .fz (.i .i64 s3)),(9,.pb 4 0),(11,.d .fz (.i .i64 (k2:Int))),(12,.pb 5 0),(49,.d .fz (.b false)),(50,.d .fz (.i .i64 s3)),(51,.d .fz (.b (decide (0 < s3)))),(52,.d .fz (.b s8)),(56,.d .fz (.b s9))] ?_ ?_
 replace hr:=hqq7
 refine ifE hr (fun h4 hr=>?_) fun h4 hr=>?_
 refine VT rfl (dT h4) ?_
 refine N4 ?_
 cases hr
 exact q3n
 refine VF rfl (dF h4) ?_
 iterate 3 refine AL.off ?_
 refine N1 ?_
 cases hr
 exact q3n
 refine N1 ?_
 cases hr
 exact q3n
 refine N1 ?_
 refine sr ?_
 refine W4 ?_
 refine bdE hr fun s10 hqq8 hr=>?_
 refine q0h 3 [(2,.d .fz (.i .i64 a2)),(3,.pb 0 0),(4,.pb 1 0),(7,.ref 2 none),(8,.d .fz (.i .i64 s3)),(9,.pb 4 0),(11,.d .fz (.i .i64 (k2:Int))),(12,.pb 5 0),(64,.d .fz (.b s10))] ?_ ?_
 replace hr:=hqq8
 refine ifE hr (fun h5 hr=>?_) fun h5 hr=>?_
 refine VT rfl (dT h5) ?_
 refine N2 ?_
 cases hr
 exact q3n
 refine VF rfl (dF h5) ?_
 refine AL.off ?_
 refine N1 ?_
 cases hr
 exact q3n
 refine N0 ?_
 refine ifE hr (fun h6 hr=>?_) fun h6 hr=>?_
 refine q0f rfl h6 ?_
 refine q0c ?_
 refine W5 ?_
 refine LIR 6 (m:=.fz) (f:=Occurrence.D) (xs:=[(⟨s3,xk2.Name⟩:Occurrence)]) ?_
 refine ggE hr fun g1 hr=>?_
 refine APf1 (f:=Occurrence.D) 7 (fun _=>rfl) 24 g1 ?_
 refine N1 ?_
 cases hr
 exact GH.trans (q0m (q:=0) [.d m (.sl 2 (a0.Symbols.map Symbol.D)),.u] (.cons .rfl (.cons .u .nil)) rfl) (q0l hS [(0,0),(1,1),(7,2),(3,3),(4,4)] 5)
 refine q0g rfl (bF h6) ?_
 refine q0b ?_
 cases hr
 exact GH.trans (q0m (q:=0) [.d m (.sl 2 (a0.Symbols.map Symbol.D)),.u] (.cons .rfl (.cons .u .nil)) rfl) (q0e hS 5)
 refine q0c ?_
 refine W1 ?_
 refine OB _ (q3B (p:=k2) (q:=1) (q3m hltk2 hl2)) ?_
 refine N1 ?_
 cases hr
 exact GH.trans (q0m (q:=0) [.d m (.sl 2 (a0.Symbols.map Symbol.D)),.u] (.cons .rfl (.cons .u .nil)) rfl) (q0e hS 5)
 refine ssr ?_
 refine W3 ?_
 refine LE ?_
 refine N1 ?_
 refine q0g rfl (dF hltk2) ?_
 refine q0i ?_
 refine q0c ?_
 refine W1 ?_
 refine ggE hr fun g2 hr=>?_
 refine OB _ (bAdd g2) ?_
 refine N1 ?_
 cases hr
 exact⟨_,rfl,GH.trans (q0m (q:=0) [.d m (.sl 2 (a0.Symbols.map Symbol.D)),.u] (.cons .rfl (.cons .u .nil)) rfl) (q0e hS 3)⟩
 refine q0g rfl (dF h1) ?_
 refine q0i ?_
 cases hr
 cases hik1 _ rfl
 exact GH.trans (q0m (q:=0) [.d m (.sl 2 (a0.Symbols.map Symbol.D)),.u] (.cons .rfl (.cons .u .nil)) rfl) (q0e hS 3)
 refine sr ?_
 refine N2 ?_
 refine AW.ret ?_
 cases hr
 exact q0a [(2,0)] 1 hS
def q5z (a0:Int)(a1:Int):Option Expr:=
 some (⟨1,a0,0,a1,(⟨#[]⟩:ByteArray),(⟨#[]⟩:ByteArray),[]⟩:Expr)
theorem q7n {a0:Int}{a1:Int}{r:Expr}(hr:q5z a0 a1=some r):Ok Tryz.prog 83 [.d .fz (.i .i64 a0),.d .fz (.i .i64 a1)] [] (.ag [.d .fz (.i .i64 r.Kind),.d .fz (.i .i64 r.N),.d .fz (.i .i64 r.Pos),.d .fz (.i .i64 r.Type_),.d .fz (.s r.Symbol),.d .fz (.s r.Name),.ref 0 none]) [.row .fz 7 (r.Args.map Expr.D)]:=by
 refine Ok.enter rfl Tryz.func83 rfl rfl rfl fun S hS=>?_
 unfold q5z at hr
 refine sr ?_
 refine NV 0 ?_
 refine N0 ?_
 refine sr ?_
 refine W3 ?_
 refine SB ?_
 refine N0 ?_
 refine AW.ret ?_
 refine endA.gh (q0t (q:=0) (c:=6) (r:=1) .fz 7 rfl rfl rfl) ?_
 cases hr
 exact q0a [(1,0)] 1 hS
def q5S (a1:Int)(a2:(List Occurrence))(o0:l1Cur):Option (Expr × l1Cur):=
 if 0 < (a2.length:Int) then (
 (q4g 4 o0).bind fun (y1,z1)=>
 if y1=true then (
 if a1=4 then (
 (q4g 3 (⟨o0.b,z1.i,z1.h⟩:l1Cur)).bind fun (y2,z2)=>
 if y2=true then (
 some ((⟨7,0,0,0,(⟨#[]⟩:ByteArray),(⟨#[]⟩:ByteArray),[]⟩:Expr),(⟨o0.b,z2.i,z2.h⟩:l1Cur))
 ) else (
 some ((⟨6,0,0,0,(⟨#[]⟩:ByteArray),(⟨#[]⟩:ByteArray),[]⟩:Expr),(⟨o0.b,z2.i,z2.h⟩:l1Cur))
 )
 ) else (
 if a1=3 then (
 (q3q 2 (⟨o0.b,z1.i,z1.h⟩:l1Cur)).bind fun (y3,z3)=>
 (q5z y3 a1).bind fun y4=>
 some (y4,(⟨o0.b,z3.i,z3.h⟩:l1Cur))
 ) else (
 if a1=2 then (
 (q3q 12 (⟨o0.b,z1.i,z1.h⟩:l1Cur)).bind fun (y5,z4)=>
 grd (0≤y5) <|
 grd (0≤y5∧y5 < 63) <|
 (q5z ((2 ^ y5.toNat:Nat):Int) a1).bind fun y6=>
 some (y6,(⟨o0.b,z4.i,z4.h⟩:l1Cur))
 ) else (
 (q3q 9 (⟨o0.b,z1.i,z1.h⟩:l1Cur)).bind fun (y7,z5)=>
 (q5z y7 1).bind fun y8=>
 some (y8,(⟨o0.b,z5.i,z5.h⟩:l1Cur))
 )
 )
 )
 ) else (
 (q3q (a2.length:Int) (⟨o0.b,z1.i,z1.h⟩:l1Cur)).bind fun (y9,z6)=>
 grd (0≤y9) <|
 (a2[y9.toNat]?).bind fun x1=>
 some ((⟨3,0,x1.Pos,0,(⟨#[]⟩:ByteArray),x1.Name,[]⟩:Expr),(⟨o0.b,z6.i,z6.h⟩:l1Cur))
 )
 ) else (
 if a1=4 then (
 (q4g 3 o0).bind fun (y10,z7)=>
 if y10=true then (
 some ((⟨7,0,0,0,(⟨#[]⟩:ByteArray),(⟨#[]⟩:ByteArray),[]⟩:Expr),(⟨o0.b,z7.i,z7.h⟩:l1Cur))
 ) else (
 some ((⟨6,0,0,0,(⟨#[]⟩:ByteArray),(⟨#[]⟩:ByteArray),[]⟩:Expr),(⟨o0.b,z7.i,z7.h⟩:l1Cur))
 )
 ) else (
 if a1=3 then (
 (q3q 2 o0).bind fun (y11,z8)=>
 (q5z y11 a1).bind fun y12=>
 some (y12,(⟨o0.b,z8.i,z8.h⟩:l1Cur))
 ) else (
 if a1=2 then (
 (q3q 12 o0).bind fun (y13,z9)=>
 grd (0≤y13) <|
 grd (0≤y13∧y13 < 63) <|
 (q5z ((2 ^ y13.toNat:Nat):Int) a1).bind fun y14=>
 some (y14,(⟨o0.b,z9.i,z9.h⟩:l1Cur))
 ) else (
 (q3q 9 o0).bind fun (y15,z10)=>
 (q5z y15 1).bind fun y16=>
 some (y16,(⟨o0.b,z10.i,z10.h⟩:l1Cur))
 )
 )
 )
 )
theorem q6V {m:Md}{a1:Int}{a2:(List Occurrence)}{o0:l1Cur}{r:(Expr × l1Cur)}(hr:q5S a1 a2 o0=some r):Ok Tryz.prog 81 [.pb 0 0,.d .fz (.i .i64 a1),.d m (.sl 2 (a2.map Occurrence.D))] [.box [.d .fz (.sl 1 (o0.b.map byD)),.d .fz (.i .i64 o0.i),.d .fz (.i .i64 o0.h)]] (.ag [.d .fz (.i .i64 r.1.Kind),.d .fz (.i .i64 r.1.N),.d .fz (.i .i64 r.1.Pos),.d .fz (.i .i64 r.1.Type_),.d .fz (.s r.1.Symbol),.d .fz (.s r.1.Name),.ref 1 none]) [.box [.d .fz (.sl 1 (o0.b.map byD)),.d .fz (.i .i64 r.2.i),.d .fz (.i .i64 r.2.h)],.row .fz 7 (r.1.Args.map Expr.D)]:=by
 refine Ok.enter rfl Tryz.func81 rfl rfl rfl fun S hS=>?_
 unfold q5S at hr
 refine sr ?_
 refine NV 1 ?_
 refine N0 ?_
 refine ssr ?_
 refine W1 ?_
 refine LF ?_
 refine W1 ?_
 refine ifE hr (fun h1 hr=>?_) fun h1 hr=>?_
 refine VT rfl (dT h1) ?_
 refine W1 ?_
 refine bdE hr fun q1 hq1 hr=>?_
 obtain⟨y1,z1⟩:=q1
 refine CB [(0,0)] [] (q4y hq1) ?_
 refine N2 ?_
 refine ifE hr (fun h2 hr=>?_) fun h2 hr=>?_
 refine q0g rfl (bnF h2) ?_
 refine q0b ?_
 refine ssr ?_
 refine N1 ?_
 refine AW.block (q0d (q0c ?_))
 refine N2 ?_
 refine ifE hr (fun h3 hr=>?_) fun h3 hr=>?_
 refine q0f rfl (dT h3) ?_
 refine ssr ?_
 refine W1 ?_
 refine bdE hr fun q2 hq2 hr=>?_
 obtain⟨y2,z2⟩:=q2
 refine CB [(0,0)] [] (q4y hq2) ?_
 refine N0 ?_
 refine ifE hr (fun h4 hr=>?_) fun h4 hr=>?_
 refine q0f rfl h4 ?_
 refine sr ?_
 refine W1 ?_
 refine SB ?_
 refine N0 ?_
 refine AW.ret ?_
 refine endA.gh (q0t (q:=1) (c:=6) (r:=2) .fz 7 rfl rfl rfl) ?_
 cases hr
 exact q0a [(0,0),(2,1)] 2 hS
 refine q0g rfl (bF h4) ?_
 refine q0b ?_
 refine sr ?_
 refine W1 ?_
 refine SB ?_
 refine N0 ?_
 refine AW.ret ?_
 refine endA.gh (q0t (q:=1) (c:=6) (r:=2) .fz 7 rfl rfl rfl) ?_
 cases hr
 exact q0a [(0,0),(2,1)] 2 hS
 refine q0g rfl (dF h3) ?_
 refine sr ?_
 refine N2 ?_
 refine ifE hr (fun h5 hr=>?_) fun h5 hr=>?_
 refine q0f rfl (dT h5) ?_
 refine sr ?_
 refine W1 ?_
 refine bdE hr fun q3 hq3 hr=>?_
 obtain⟨y3,z3⟩:=q3
 refine CB [(0,0)] [] (q3s hq3) ?_
 refine W1 ?_
 refine bdE hr fun y4 hy4 hr=>?_
 refine CB [(0,2)] [] (q7n hy4) ?_
 refine SB ?_
 refine N0 ?_
 refine AW.ret ?_
 cases hr
 exact q0a [(0,0),(2,1)] 2 hS
 refine q0g rfl (dF h5) ?_
 refine sr ?_
 refine N2 ?_
 refine ifE hr (fun h6 hr=>?_) fun h6 hr=>?_
 refine q0f rfl (dT h6) ?_
 refine sr ?_
 refine W1 ?_
 refine bdE hr fun q4 hq4 hr=>?_
 obtain⟨y5,z4⟩:=q4
 refine CB [(0,0)] [] (q3s hq4) ?_
 refine ggE hr fun g1 hr=>?_
 refine CIU g1 rfl ?_
 refine ggE hr fun g2 hr=>?_
 refine OB _ (j9T g2) ?_
 refine W1 ?_
 refine bdE hr fun y6 hy6 hr=>?_
 refine CB [(0,2)] [] (q7n hy6) ?_
 refine SB ?_
 refine N0 ?_
 refine AW.ret ?_
 cases hr
 exact q0a [(0,0),(2,1)] 2 hS
 refine q0g rfl (dF h6) ?_
 refine q0b ?_
 refine sr ?_
 refine W1 ?_
 refine bdE hr fun q5 hq5 hr=>?_
 obtain⟨y7,z5⟩:=q5
 refine CB [(0,0)] [] (q3s hq5) ?_
 refine bdE hr fun y8 hy8 hr=>?_
 refine CB [(0,2)] [] (q7n hy8) ?_
 refine SB ?_
 refine N0 ?_
 refine AW.ret ?_
 cases hr
 exact q0a [(0,0),(2,1)] 2 hS
 refine q0f rfl (bnT h2) ?_
 refine sr ?_
 refine W3 ?_
 refine LF ?_
 refine bdE hr fun q6 hq6 hr=>?_
 obtain⟨y9,z6⟩:=q6
 refine CB [(0,0)] [] (q3s hq6) ?_
 refine ggE hr fun g3 hr=>?_
 refine bdE hr fun x1 hx1 hr=>?_
 refine IF g3 hx1 ?_
 refine W1 ?_
 refine NV 2 ?_
 refine SB ?_
 refine N0 ?_
 refine sr ?_
 refine W5 ?_
 refine SB ?_
 refine N0 ?_
 refine AW.ret ?_
 refine endA.gh (q0t (q:=1) (c:=6) (r:=3) .fz 7 rfl rfl rfl) ?_
 cases hr
 exact q0a [(0,0),(3,1)] 2 hS
 refine VF rfl (dF h1) ?_
 iterate 3 refine AL.off ?_
 refine N1 ?_
 refine q0g rfl rfl ?_
 refine q0b ?_
 refine ssr ?_
 refine N1 ?_
 refine AW.block (q0d (q0c ?_))
 refine N2 ?_
 refine ifE hr (fun h7 hr=>?_) fun h7 hr=>?_
 refine q0f rfl (dT h7) ?_
 refine ssr ?_
 refine W1 ?_
 refine bdE hr fun q7 hq7 hr=>?_
 obtain⟨y10,z7⟩:=q7
 refine CB [(0,0)] [] (q4y hq7) ?_
 refine N0 ?_
 refine ifE hr (fun h8 hr=>?_) fun h8 hr=>?_
 refine q0f rfl h8 ?_
 refine sr ?_
 refine W1 ?_
 refine SB ?_
 refine N0 ?_
 refine AW.ret ?_
 refine endA.gh (q0t (q:=1) (c:=6) (r:=2) .fz 7 rfl rfl rfl) ?_
 cases hr
 exact q0a [(0,0),(2,1)] 2 hS
 refine q0g rfl (bF h8) ?_
 refine q0b ?_
 refine sr ?_
 refine W1 ?_
 refine SB ?_
 refine N0 ?_
 refine AW.ret ?_
 refine endA.gh (q0t (q:=1) (c:=6) (r:=2) .fz 7 rfl rfl rfl) ?_
 cases hr
 exact q0a [(0,0),(2,1)] 2 hS
 refine q0g rfl (dF h7) ?_
 refine sr ?_
 refine N2 ?_
 refine ifE hr (fun h9 hr=>?_) fun h9 hr=>?_
 refine q0f rfl (dT h9) ?_
 refine sr ?_
 refine W1 ?_
 refine bdE hr fun q8 hq8 hr=>?_
 obtain⟨y11,z8⟩:=q8
 refine CB [(0,0)] [] (q3s hq8) ?_
 refine W1 ?_
 refine bdE hr fun y12 hy12 hr=>?_
 refine CB [(0,2)] [] (q7n hy12) ?_
 refine SB ?_
 refine N0 ?_
 refine AW.ret ?_
 cases hr
 exact q0a [(0,0),(2,1)] 2 hS
 refine q0g rfl (dF h9) ?_
 refine sr ?_
 refine N2 ?_
 refine ifE hr (fun h10 hr=>?_) fun h10 hr=>?_
 refine q0f rfl (dT h10) ?_
 refine sr ?_
 refine W1 ?_
 refine bdE hr fun q9 hq9 hr=>?_
 obtain⟨y13,z9⟩:=q9
 refine CB [(0,0)] [] (q3s hq9) ?_
 refine ggE hr fun g4 hr=>?_
 refine CIU g4 rfl ?_
 refine ggE hr fun g5 hr=>?_
 refine OB _ (j9T g5) ?_
 refine W1 ?_
 refine bdE hr fun y14 hy14 hr=>?_
 refine CB [(0,2)] [] (q7n hy14) ?_
 refine SB ?_
 refine N0 ?_
 refine AW.ret ?_
 cases hr
 exact q0a [(0,0),(2,1)] 2 hS
 refine q0g rfl (dF h10) ?_
 refine q0b ?_
 refine sr ?_
 refine W1 ?_
 refine bdE hr fun q10 hq10 hr=>?_
 obtain⟨y15,z10⟩:=q10
 refine CB [(0,0)] [] (q3s hq10) ?_
 refine bdE hr fun y16 hy16 hr=>?_
 refine CB [(0,2)] [] (q7n hy16) ?_
 refine SB ?_
 refine N0 ?_
 refine AW.ret ?_
 cases hr
 exact q0a [(0,0),(2,1)] 2 hS
end Go.Proofs.YtibagkppfnjgcaaGreat
