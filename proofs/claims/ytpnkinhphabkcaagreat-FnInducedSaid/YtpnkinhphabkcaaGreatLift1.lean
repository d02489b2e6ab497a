/- What some functions of the program compute, as partial functions on plain data, and that they do; each lemma bears its conditions in its statement. -/
import Derived.Test.YtpnkinhphabkcaaGreatAb6
set_option linter.unusedVariables false
set_option linter.unusedSimpArgs false
set_option linter.ambiguousOpen false
set_option linter.unusedSectionVars false
set_option linter.unnecessarySimpa false
set_option maxRecDepth 100000
set_option maxHeartbeats 40000000
noncomputable section
namespace Go.Proofs.YtpnkinhphabkcaaGreat
open Go Go.E Go.A
def j8C (a0:(List UInt8)):Option Bool:=
 some (decide (1048576 < (a0.length:Int)))
theorem k5n {a0:(List UInt8)}{r:Bool}(hr:j8C a0=some r):Ok Tryz.prog 4 [.d .fz (.sl 1 (a0.map byD))] [] (dB r) []:=by
 refine OE Tryz.func4 fun S hS=>?_
 unfold j8C at hr
 exact e
def z4G (a0:(List UInt8)):(Int × Int)→Option ((Int × Int) ⊕ Int):=fun (s2,s3)=>
 if s3 < (a0.length:Int) then (
 if s3 < 4000 then (
 grd (0≤s3) <|
 (a0[s3.toNat]?).bind fun x1=>
 some (.inl ((z8j (IntKind.i64.wrap ((IntKind.i64.wrap ((IntKind.i64.wrap (s2*131))+(x1.toNat:Int)))+7)) 1073741823),(IntKind.i64.wrap (s3+1))))
 ) else (
 some (.inr s2)
 )
 ) else (
 some (.inr s2)
 )
def z7l (a0:(List UInt8)):Option l1Cur:=
 (q4L (z4G a0) ((IntKind.i64.wrap (26583+(a0.length:Int))),0)).bind fun s1=>
 some (⟨a0,0,s1⟩:l1Cur)
theorem k0X {a0:(List UInt8)}{r:l1Cur}(hr:z7l a0=some r):Ok Tryz.prog 44 [.d .fz (.sl 1 (a0.map byD))] [] (.pb 0 0) [.box [.d .fz (.sl 1 (r.b.map byD)),dI r.i,dI r.h]]:=by
 refine OE Tryz.func44 fun S hS=>?_
 unfold z7l at hr
 refine J g<|J (OB' _ j7b)<|bdE hr fun s1 hqq1 hr=>J (gn 7)<|q0e 0 [(0,.d .fz (.sl 1 (a0.map byD))),(3,dI s1)] [] ?_ ?_
 refine J g<|q0h hqq1 0 (fun (s2,s3)=>[(0,.d .fz (.sl 1 (a0.map byD))),(3,dI s2),(4,dI s3)]) (fun (s2,s3)=>[]) I fun sk1 ok1 hr hik1=>?_
 obtain⟨s2,s3⟩:=sk1
 have hr:=hr
 refine J (gn 7)<|ifE hr ?_ ?_<;>intro h1 hr
 refine J (gn 5)<|ifE hr ?_ ?_<;>intro h2 hr
 refine J g<|J (OB' _ k6r)<|ggE hr fun g1 hr=>bdE hr fun x1 hx1 hr=>J g ?_
 refine J (CUB' rfl)<|J (OB' _ j7b)<|J (OB' _ j7b)<|J (OB' _ k0O)<|J g<|J (OB' _ j7b)<|J g<|E
 refine J (gn 2) ?_
 cases hr
 cases hik1 _ rfl
 exact q0g hS 0
 refine J (gn 7) ?_
 cases hr
 cases hik1 _ rfl
 exact q0g hS 0
 refine J g<|J (BX' 0)<|e
def z0W (o0:l1Cur):Option (Int × l1Cur):=
 if o0.i < (o0.b.length:Int) then (
 grd (0≤o0.i) <|
 (o0.b[o0.i.toNat]?).bind fun x1=>
 some ((z8j (IntKind.i64.wrap ((z8j (k0y (j2u (IntKind.i64.wrap ((IntKind.i64.wrap (o0.h*6364136223846793005))+1442695040888963407)) 33) (j2u (IntKind.i64.wrap ((IntKind.i64.wrap (o0.h*6364136223846793005))+1442695040888963407)) 45)) 255)+(x1.toNat:Int))) 255),(⟨o0.b,(IntKind.i64.wrap (o0.i+1)),(IntKind.i64.wrap ((IntKind.i64.wrap (o0.h*6364136223846793005))+1442695040888963407))⟩:l1Cur))
 ) else (
 some ((z8j (k0y (j2u (IntKind.i64.wrap ((IntKind.i64.wrap (o0.h*6364136223846793005))+1442695040888963407)) 33) (j2u (IntKind.i64.wrap ((IntKind.i64.wrap (o0.h*6364136223846793005))+1442695040888963407)) 45)) 255),(⟨o0.b,o0.i,(IntKind.i64.wrap ((IntKind.i64.wrap (o0.h*6364136223846793005))+1442695040888963407))⟩:l1Cur))
 )
theorem z4H {o0:l1Cur}{r:(Int × l1Cur)}(hr:z0W o0=some r):Ok Tryz.prog 119 [.pb 0 0] [.box [.d .fz (.sl 1 (o0.b.map byD)),dI o0.i,dI o0.h]] (dI r.1) [.box [.d .fz (.sl 1 (o0.b.map byD)),dI r.2.i,dI r.2.h]]:=by
 refine OE Tryz.func119 fun S hS=>?_
 unfold z0W at hr
 refine J g<|J (OB' _ k6r)<|J (OB' _ j7b)<|J g<|J (OB' _ (k6s (b:=33) (by decide)))<|J g<|J (OB' _ (k6s (b:=45) (by decide)))<|J (OB' _ k6S)<|J (OB' _ k0O)<|J (gn 16)<|ifE hr ?_ ?_<;>intro h1 hr
 refine ggE hr fun g1 hr=>bdE hr fun x1 hx1 hr=>J g ?_
 refine J (CUB' rfl)<|J (OB' _ j7b)<|J (OB' _ k0O)<|J (q0o .refl)<|J g<|J (OB' _ j7b)<|J g<|E
 exact e
def q3H (a1:Int)(o0:l1Cur):Option (Int × l1Cur):=
 if a1≤0 then (
 some (0,o0)
 ) else (
 if a1≤256 then (
 (z0W o0).bind fun (y1,z1)=>
 grd (a1≠0) <|
 some ((y1.tmod a1),(⟨o0.b,z1.i,z1.h⟩:l1Cur))
 ) else (
 (z0W o0).bind fun (y2,z2)=>
 (z0W (⟨o0.b,z2.i,z2.h⟩:l1Cur)).bind fun (y3,z3)=>
 (z0W (⟨o0.b,z3.i,z3.h⟩:l1Cur)).bind fun (y4,z4)=>
 (z0W (⟨o0.b,z4.i,z4.h⟩:l1Cur)).bind fun (y5,z5)=>
 grd (I64 (y2*16777216)) <|
 grd (I64 (y3*65536)) <|
 grd (I64 ((y2*16777216)+(y3*65536))) <|
 grd (I64 (y4*256)) <|
 grd (I64 (((y2*16777216)+(y3*65536))+(y4*256))) <|
 grd (I64 ((((y2*16777216)+(y3*65536))+(y4*256))+y5)) <|
 grd (a1≠0) <|
 some ((((((y2*16777216)+(y3*65536))+(y4*256))+y5).tmod a1),(⟨o0.b,z5.i,z5.h⟩:l1Cur))
 )
 )
theorem q3J {a1:Int}{o0:l1Cur}{r:(Int × l1Cur)}(hr:q3H a1 o0=some r):Ok Tryz.prog 82 [.pb 0 0,dI a1] [.box [.d .fz (.sl 1 (o0.b.map byD)),dI o0.i,dI o0.h]] (dI r.1) [.box [.d .fz (.sl 1 (o0.b.map byD)),dI r.2.i,dI r.2.h]]:=by
 refine OE Tryz.func82 fun S hS=>?_
 unfold q3H at hr
 refine J (gn 10)<|ifE hr ?_ ?_<;>intro h1 hr
 exact e
 refine J (gn 8)<|ifE hr ?_ ?_<;>intro h2 hr
 refine bdP hr fun y1 z1 hq1 hr=>J g<|J (CB' [(0,0)] [] (z4H hq1))<|ggE hr fun g1 hr=>J g<|J (OB' _ (bRem (b:=a1) g1))<|e
 refine bdP hr fun y2 z2 hq2 hr=>J g<|J (CB' [(0,0)] [] (z4H hq2))<|bdP hr fun y3 z3 hq3 hr=>J g<|J (CB' [(0,0)] [] (z4H hq3))<|bdP hr fun y4 z4 hq4 hr=>J g<|J (CB' [(0,0)] [] (z4H hq4))<|bdP hr fun y5 z5 hq5 hr=>J g<|J (CB' [(0,0)] [] (z4H hq5))<|ggE hr fun g2 hr=>J g<|J (OB' _ (bMul g2))<|ggE hr fun g3 hr=>J g<|J (OB' _ (bMul g3))<|ggE hr fun g4 hr=>ggE hr fun g5 hr=>J g<|J (OB' _ (bMul g5))<|ggE hr fun g6 hr=>ggE hr fun g7 hr=>ggE hr fun g8 hr=>J g<|J (OB' _ (bRem (b:=a1) g8)) ?_
 exact e
def q5a (a1:Int)(o0:l1Cur):Option (Bool × l1Cur):=
 (q3H a1 o0).bind fun (y1,z1)=>
 some (decide (y1=0),(⟨o0.b,z1.i,z1.h⟩:l1Cur))
theorem q5B {a1:Int}{o0:l1Cur}{r:(Bool × l1Cur)}(hr:q5a a1 o0=some r):Ok Tryz.prog 45 [.pb 0 0,dI a1] [.box [.d .fz (.sl 1 (o0.b.map byD)),dI o0.i,dI o0.h]] (dB r.1) [.box [.d .fz (.sl 1 (o0.b.map byD)),dI r.2.i,dI r.2.h]]:=by
 refine OE Tryz.func45 fun S hS=>?_
 unfold q5a at hr
 refine bdP hr fun y1 z1 hq1 hr=>J g<|J (CB' [(0,0)] [] (q3J hq1))<|e
def q5q (a1:(List Int))(o0:l1Cur):Option (Int × l1Cur):=
 (q3H (a1.length:Int) o0).bind fun (y1,z1)=>
 grd (0≤y1) <|
 (a1[y1.toNat]?).bind fun x1=>
 some (x1,(⟨o0.b,z1.i,z1.h⟩:l1Cur))
theorem q6p {m:Md}{a1:(List Int)}{o0:l1Cur}{r:(Int × l1Cur)}(hr:q5q a1 o0=some r):Ok Tryz.prog 124 [.pb 0 0,.d m (.sl 1 (a1.map (A.D.i .i64)))] [.box [.d .fz (.sl 1 (o0.b.map byD)),dI o0.i,dI o0.h]] (dI r.1) [.box [.d .fz (.sl 1 (o0.b.map byD)),dI r.2.i,dI r.2.h]]:=by
 refine OE Tryz.func124 fun S hS=>?_
 unfold q5q at hr
 refine bdP hr fun y1 z1 hq1 hr=>J g<|J (CB' [(0,0)] [] (q3J hq1))<|ggE hr fun g1 hr=>bdE hr fun x1 hx1 hr=>e
def j3f (a2:Bool)(a3:Bool)(o0:l1Cur):Nat→(Int × Int × (List Attribute))→Option (Int × Int × (List Attribute)):=fun k1 (s2,s3,s1)=>
 (
 ([(⟨#[97]⟩:ByteArray),(⟨#[98]⟩:ByteArray),(⟨#[99]⟩:ByteArray),(⟨#[100]⟩:ByteArray)][k1]?).bind fun x1=>
 (q5q ([1,1,2,2,3,4]:List Int) (⟨o0.b,s2,s3⟩:l1Cur)).bind fun (y2,z2)=>
 (q5q ([1,2,2,1,2,3]:List Int) (⟨o0.b,z2.i,z2.h⟩:l1Cur)).bind fun (y3,z3)=>
 if a3=true then (
 (q5q ([1,1,2,3]:List Int) (⟨o0.b,z3.i,z3.h⟩:l1Cur)).bind fun (y4,z4)=>
 (
 if a2=true then (
 some (decide (y3=1))
 ) else (
 some false
 )
 ).bind fun s7=>
 (
 if s7=true then (
 some true
 ) else (
 (
 if a3=true then (
 some (true,decide (y3=3))
 ) else (
 some (false,false)
 )
 ).bind fun (s9,s10)=>
 some s10
 )
 ).bind fun s8=>
 if s8=true then (
 if (2:Int)=3 then (
 grd (((s1.length:Int)+1)*40≤140737488355328∧(s1.length:Int)+1≤9223372036854775807) <|
 some ((s1++[(⟨x1,2,2,false⟩:Attribute)]),z4.i,z4.h)
 ) else (
 grd (((s1.length:Int)+1)*40≤140737488355328∧(s1.length:Int)+1≤9223372036854775807) <|
 some ((s1++[(⟨x1,y4,2,false⟩:Attribute)]),z4.i,z4.h)
 )
 ) else (
 if y3=3 then (
 grd (((s1.length:Int)+1)*40≤140737488355328∧(s1.length:Int)+1≤9223372036854775807) <|
 some ((s1++[(⟨x1,2,y3,false⟩:Attribute)]),z4.i,z4.h)
 ) else (
 grd (((s1.length:Int)+1)*40≤140737488355328∧(s1.length:Int)+1≤9223372036854775807) <|
 some ((s1++[(⟨x1,y4,y3,false⟩:Attribute)]),z4.i,z4.h)
 )
 )
 ) else (
 (
 if a2=true then (
 some (decide (y3=1))
 ) else (
 some false
 )
 ).bind fun s11=>
 (
 if s11=true then (
 some true
 ) else (
 (
 if a3=true then (
 some (true,decide (y3=3))
 ) else (
 some (false,false)
 )
 ).bind fun (s13,s14)=>
 some s14
 )
 ).bind fun s12=>
 if s12=true then (
 if (2:Int)=3 then (
 grd (((s1.length:Int)+1)*40≤140737488355328∧(s1.length:Int)+1≤9223372036854775807) <|
 some ((s1++[(⟨x1,2,2,false⟩:Attribute)]),z3.i,z3.h)
 ) else (
 grd (((s1.length:Int)+1)*40≤140737488355328∧(s1.length:Int)+1≤9223372036854775807) <|
 some ((s1++[(⟨x1,y2,2,false⟩:Attribute)]),z3.i,z3.h)
 )
 ) else (
 if y3=3 then (
 grd (((s1.length:Int)+1)*40≤140737488355328∧(s1.length:Int)+1≤9223372036854775807) <|
 some ((s1++[(⟨x1,2,y3,false⟩:Attribute)]),z3.i,z3.h)
 ) else (
 grd (((s1.length:Int)+1)*40≤140737488355328∧(s1.length:Int)+1≤9223372036854775807) <|
 some ((s1++[(⟨x1,y2,y3,false⟩:Attribute)]),z3.i,z3.h)
 )
 )
 )
 ).bind fun (s4,s5,s6)=>
 some (s5,s6,s4)
def z4I (a1:ByteArray)(a2:Bool)(a3:Bool)(o0:l1Cur):Option (Symbol × l1Cur):=
 (q3H 4 o0).bind fun (y1,z1)=>
 grd (I64 (1+y1)) <|
 (eachN (j3f a2 a3 o0) 0 (1+y1).toNat (z1.i,z1.h,([]:List Attribute))).bind fun (s2,s3,s1)=>
 some ((⟨a1,s1⟩:Symbol),(⟨o0.b,s2,s3⟩:l1Cur))
theorem j3g {a1:ByteArray}{a2:Bool}{a3:Bool}{o0:l1Cur}{r:(Symbol × l1Cur)}(hr:z4I a1 a2 a3 o0=some r):Ok Tryz.prog 87 [.pb 0 0,dS a1,dB a2,dB a3] [.box [.d .fz (.sl 1 (o0.b.map byD)),dI o0.i,dI o0.h]] (.ag [dS r.1.Name,.ref 1 none]) [.box [.d .fz (.sl 1 (o0.b.map byD)),dI r.2.i,dI r.2.h],.row .fz 4 (r.1.Attributes.map Attribute.D)]:=by
 refine OE Tryz.func87 fun S hS=>?_
 unfold z4I at hr
 refine J (gw 2)<|J (NV' 1)<|J (gw 5)<|J (NV' 2)<|bdP hr fun y1 z1 hq1 hr=>J (gw 5)<|J (CB' [(0,0)] [] (q3J hq1))<|ggE hr fun g1 hr=>J (gw 9) ?_
 refine J (q0t 2 1 3 .fz 4 rfl rfl)<|J (rngT 10)<|fun hl1=>bdT hr fun s2 s3 s1 hqq2 hr=>q0i hqq2 4 (fun k1 (s2,s3,s1)=>[(0,.pb 0 0),(2,dB a2),(3,dB a3),(8,.pb 1 0),(9,.pb 2 0),(10,dI (1+y1)),(11,dI (k1:Int))]) (fun k1 (s2,s3,s1)=>[(0,.box [.d .fz (.sl 1 (o0.b.map byD)),dI s2,dI s3]),(3,.row .fz 4 (s1.map Attribute.D))]) I (fun k1 sk1 ok1 hr hltk1=>?_) ?_
 obtain⟨s2,s3,s1⟩:=sk1
 refine bdT hr fun s4 s5 s6 hqq3 hr=>J (gw 10)<|q0e 5 [(0,.pb 0 0),(2,dB a2),(3,dB a3),(8,.pb 1 0),(9,.pb 2 0),(10,dI (1+y1)),(11,dI (k1:Int))] [(0,.box [.d .fz (.sl 1 (o0.b.map byD)),dI s5,dI s6]),(2,.box [dS a1,.ref 4 none]),(3,.none),(4,.row .fz 4 (s4.map Attribute.D))] ?_ ?_
 replace hr:=hqq3
 refine J (gw 3)<|J (LIR' 4 (m:=.fz) (f:=A.D.s) (xs:=[(⟨#[97]⟩:ByteArray),(⟨#[98]⟩:ByteArray),(⟨#[99]⟩:ByteArray),(⟨#[100]⟩:ByteArray)]))<|bdE hr fun x1 hx1 hr=>J (gw 4)<|J (LIR' 5 (m:=.fz) (f:=(A.D.i .i64)) (xs:=([1,1,2,2,3,4]:List Int)))<|bdP hr fun y2 z2 hq4 hr=>J (CB' [(0,0)] [5] (q6p (m:=.bo) hq4))<|J (gw 1)<|J (LIR' 6 (m:=.fz) (f:=(A.D.i .i64)) (xs:=([1,2,2,1,2,3]:List Int)))<|bdP hr fun y3 z3 hq5 hr=>J (CB' [(0,0)] [6] (q6p (m:=.bo) hq5))<|J (gw 1)<|J (NV' 7)<|J (gw 7)<|ifE hr ?_ ?_<;>intro h1 hr
 refine J (gw 3)<|J (LIR' 8 (m:=.fz) (f:=(A.D.i .i64)) (xs:=([1,1,2,3]:List Int)))<|bdP hr fun y4 z4 hq6 hr=>J (CB' [(0,0)] [8] (q6p (m:=.bo) hq6))<|bdE hr fun s7 hqq7 hr=>J (gw 7)<|q0a 5 [(0,.pb 0 0),(2,dB a2),(3,dB a3),(8,.pb 1 0),(9,.pb 2 0),(10,dI (1+y1)),(11,dI (k1:Int)),(12,.pb 7 0),(44,dB s7)] ?_ ?_
 replace hr:=hqq7
 refine ifE hr ?_ ?_<;>intro h2 hr
 refine J (VT' h2)<|J (gw 5)<|E
 refine J (VF' (bF h2))<|J (gw 5)<|E
 refine bdE hr fun s8 hqq8 hr=>q0a 8 [(0,.pb 0 0),(2,dB a2),(3,dB a3),(8,.pb 1 0),(9,.pb 2 0),(10,dI (1+y1)),(11,dI (k1:Int)),(12,.pb 7 0),(52,dB s8)] ?_ ?_
 replace hr:=hqq8
 refine ifE hr ?_ ?_<;>intro h3 hr
 refine J (VT' h3)<|J (gw 8)<|E
 refine J (VF' (bF h3))<|bdP hr fun s9 s10 hqq9 hr=>J (gw 1)<|q0a 5 [(0,.pb 0 0),(2,dB a2),(3,dB a3),(8,.pb 1 0),(9,.pb 2 0),(10,dI (1+y1)),(11,dI (k1:Int)),(12,.pb 7 0),(45,dB false),(46,dB a3),(47,dB s9),(51,dB s10)] ?_ ?_
 replace hr:=hqq9
 refine ifE hr ?_ ?_<;>intro h4 hr
 refine J (VT' h4)<|J (gw 5)<|E
 refine J (VF' (bF h4))<|J (gw 5)<|E
 refine J (gw 2)<|E
 refine J (gw 1)<|ifE hr ?_ ?_<;>intro h5 hr
 refine J (gw 12)<|ifE hr ?_ ?_<;>intro h6 hr
 refine J (gw 9)<|J (LIR' 9 (m:=.fz) (f:=Attribute.D) (xs:=[(⟨x1,2,2,false⟩:Attribute)]))<|ggE hr fun g2 hr=>J (q9Z (f:=Attribute.D) 10 (fun _=>rfl) 40 g2)<|J (gw 3)<|E
 refine J (gw 6)<|J (LIR' 9 (m:=.fz) (f:=Attribute.D) (xs:=[(⟨x1,y4,2,false⟩:Attribute)]))<|ggE hr fun g3 hr=>J (q9Z (f:=Attribute.D) 10 (fun _=>rfl) 40 g3)<|J (gw 3)<|E
 refine J (gw 9)<|ifE hr ?_ ?_<;>intro h7 hr
 refine J (gw 9)<|J (LIR' 9 (m:=.fz) (f:=Attribute.D) (xs:=[(⟨x1,2,y3,false⟩:Attribute)]))<|ggE hr fun g4 hr=>J (q9Z (f:=Attribute.D) 10 (fun _=>rfl) 40 g4)<|J (gw 3)<|E
 refine J (gw 6)<|J (LIR' 9 (m:=.fz) (f:=Attribute.D) (xs:=[(⟨x1,y4,y3,false⟩:Attribute)]))<|ggE hr fun g5 hr=>J (q9Z (f:=Attribute.D) 10 (fun _=>rfl) 40 g5)<|J (gw 3)<|E
 refine bdE hr fun s11 hqq10 hr=>J (gw 6)<|q0a 5 [(0,.pb 0 0),(2,dB a2),(3,dB a3),(8,.pb 1 0),(9,.pb 2 0),(10,dI (1+y1)),(11,dI (k1:Int)),(12,.pb 7 0),(44,dB s11)] ?_ ?_
 replace hr:=hqq10
 refine ifE hr ?_ ?_<;>intro h8 hr
 refine J (VT' h8)<|J (gw 5)<|E
 refine J (VF' (bF h8))<|J (gw 5)<|E
 refine bdE hr fun s12 hqq11 hr=>q0a 8 [(0,.pb 0 0),(2,dB a2),(3,dB a3),(8,.pb 1 0),(9,.pb 2 0),(10,dI (1+y1)),(11,dI (k1:Int)),(12,.pb 7 0),(52,dB s12)] ?_ ?_
 replace hr:=hqq11
 refine ifE hr ?_ ?_<;>intro h9 hr
 refine J (VT' h9)<|J (gw 8)<|E
 refine J (VF' (bF h9))<|bdP hr fun s13 s14 hqq12 hr=>J (gw 1)<|q0a 5 [(0,.pb 0 0),(2,dB a2),(3,dB a3),(8,.pb 1 0),(9,.pb 2 0),(10,dI (1+y1)),(11,dI (k1:Int)),(12,.pb 7 0),(45,dB false),(46,dB a3),(47,dB s13),(51,dB s14)] ?_ ?_
 replace hr:=hqq12
 refine ifE hr ?_ ?_<;>intro h10 hr
 refine J (VT' h10)<|J (gw 5)<|E
 refine J (VF' (bF h10))<|J (gw 5)<|E
 refine J (gw 2)<|E
 refine J (gw 1)<|ifE hr ?_ ?_<;>intro h11 hr
 refine J (gw 12)<|ifE hr ?_ ?_<;>intro h12 hr
 refine J (gw 9)<|J (LIR' 8 (m:=.fz) (f:=Attribute.D) (xs:=[(⟨x1,2,2,false⟩:Attribute)]))<|ggE hr fun g6 hr=>J (q9Z (f:=Attribute.D) 9 (fun _=>rfl) 40 g6)<|J (gw 3)<|E
 refine J (gw 6)<|J (LIR' 8 (m:=.fz) (f:=Attribute.D) (xs:=[(⟨x1,y2,2,false⟩:Attribute)]))<|ggE hr fun g7 hr=>J (q9Z (f:=Attribute.D) 9 (fun _=>rfl) 40 g7)<|J (gw 3)<|E
 refine J (gw 9)<|ifE hr ?_ ?_<;>intro h13 hr
 refine J (gw 9)<|J (LIR' 8 (m:=.fz) (f:=Attribute.D) (xs:=[(⟨x1,2,y3,false⟩:Attribute)]))<|ggE hr fun g8 hr=>J (q9Z (f:=Attribute.D) 9 (fun _=>rfl) 40 g8)<|J (gw 3)<|E
 refine J (gw 6)<|J (LIR' 8 (m:=.fz) (f:=Attribute.D) (xs:=[(⟨x1,y2,y3,false⟩:Attribute)]))<|ggE hr fun g9 hr=>J (q9Z (f:=Attribute.D) 9 (fun _=>rfl) 40 g9)<|J (gw 3)<|E
 refine J (gw 5)<|E
 refine J (gw 15)<|E
def z2Z:(Int × ByteArray)→Option ((Int × ByteArray) ⊕ ByteArray):=fun (s2,s3)=>
 if s2=0 then (
 some (.inr s3)
 ) else (
 if (s2.tmod 10) < 0 then (
 grd (I64 (0 - (s2.tmod 10))) <|
 grd (I64 (48+(0 - (s2.tmod 10)))) <|
 grd ((⟨#[(UInt8.ofNat ((48+(0 - (s2.tmod 10))) % 256).toNat)]⟩:ByteArray).size+s3.size≤9223372036854775807) <|
 grd (I64 (s2.tdiv 10)) <|
 some (.inl ((s2.tdiv 10),((⟨#[(UInt8.ofNat ((48+(0 - (s2.tmod 10))) % 256).toNat)]⟩:ByteArray)++s3)))
 ) else (
 grd (I64 (48+(s2.tmod 10))) <|
 grd ((⟨#[(UInt8.ofNat ((48+(s2.tmod 10)) % 256).toNat)]⟩:ByteArray).size+s3.size≤9223372036854775807) <|
 grd (I64 (s2.tdiv 10)) <|
 some (.inl ((s2.tdiv 10),((⟨#[(UInt8.ofNat ((48+(s2.tmod 10)) % 256).toNat)]⟩:ByteArray)++s3)))
 )
 )
def z0L (a0:Int):Option ByteArray:=
 if a0=0 then (
 some (⟨#[48]⟩:ByteArray)
 ) else (
 (q4L z2Z (a0,(⟨#[]⟩:ByteArray))).bind fun s1=>
 if a0 < 0 then (
 grd ((⟨#[45]⟩:ByteArray).size+s1.size≤9223372036854775807) <|
 some ((⟨#[45]⟩:ByteArray)++s1)
 ) else (
 some s1
 )
 )
theorem j3Y {a0:Int}{r:ByteArray}(hr:z0L a0=some r):Ok Tryz.prog 88 [dI a0] [] (dS r) []:=by
 refine OE Tryz.func88 fun S hS=>?_
 unfold z0L at hr
 refine J (gn 10)<|ifE hr ?_ ?_<;>intro h1 hr
 exact e
 refine bdE hr fun s1 hqq1 hr=>J (gn 13)<|q0e 0 [(3,dB (decide (a0 < 0))),(4,dS s1)] [] ?_ ?_
 refine J g<|q0h hqq1 0 (fun (s2,s3)=>[(0,dI s2),(3,dB (decide (a0 < 0))),(4,dS s3)]) (fun (s2,s3)=>[]) I fun sk1 ok1 hr hik1=>?_
 obtain⟨s2,s3⟩:=sk1
 have hr:=hr
 refine J (gn 6)<|ifE hr ?_ ?_<;>intro h2 hr
 refine J (gn 2) ?_
 cases hr
 cases hik1 _ rfl
 exact q0g hS 0
 refine J g<|J (OB' _ (bRem (b:=10) (by decide)))<|J (gn 8)<|ifE hr ?_ ?_<;>intro h3 hr
 refine ggE hr fun g1 hr=>ggE hr fun g2 hr=>J g ?_
 refine J (CIB' rfl)<|J (LIR' 0 (m:=.fz) (f:=byD) (xs:=([(UInt8.ofNat ((48+(0 - (s2.tmod 10))) % 256).toNat)]:List UInt8))) ?_
 refine J (TS' rfl rfl)<|ggE hr fun g3 hr=>J g<|J (OB' _ (j9t g3))<|ggE hr fun g4 hr=>J g<|J (OB' _ (bQuo (b:=10) (by decide) g4))<|J g<|E
 refine ggE hr fun g5 hr=>J g ?_
 refine J (CIB' rfl)<|J (LIR' 0 (m:=.fz) (f:=byD) (xs:=([(UInt8.ofNat ((48+(s2.tmod 10)) % 256).toNat)]:List UInt8))) ?_
 refine J (TS' rfl rfl)<|ggE hr fun g6 hr=>J g<|J (OB' _ (j9t g6))<|ggE hr fun g7 hr=>J g<|J (OB' _ (bQuo (b:=10) (by decide) g7))<|J g<|E
 refine J (gn 5)<|ifE hr ?_ ?_<;>intro h4 hr
 refine ggE hr fun g8 hr=>J g<|J (OB' _ (j9t g8))<|e
 exact e
def q7F (a1:(List ByteArray))(o0:l1Cur):Option (ByteArray × l1Cur):=
 (q3H (a1.length:Int) o0).bind fun (y1,z1)=>
 grd (0≤y1) <|
 (a1[y1.toNat]?).bind fun x1=>
 some (x1,(⟨o0.b,z1.i,z1.h⟩:l1Cur))
theorem q8s {m:Md}{a1:(List ByteArray)}{o0:l1Cur}{r:(ByteArray × l1Cur)}(hr:q7F a1 o0=some r):Ok Tryz.prog 85 [.pb 0 0,.d m (.sl 1 (a1.map A.D.s))] [.box [.d .fz (.sl 1 (o0.b.map byD)),dI o0.i,dI o0.h]] (dS r.1) [.box [.d .fz (.sl 1 (o0.b.map byD)),dI r.2.i,dI r.2.h]]:=by
 refine OE Tryz.func85 fun S hS=>?_
 unfold q7F at hr
 refine bdP hr fun y1 z1 hq1 hr=>J g<|J (CB' [(0,0)] [] (q3J hq1))<|ggE hr fun g1 hr=>bdE hr fun x1 hx1 hr=>e
def q5O (a0:Int)(a1:Int)(a2:Int):Option Bool:=
 if a1≤a0 then (
 some (decide (a0≤a2))
 ) else (
 some false
 )
theorem q5W {a0:Int}{a1:Int}{a2:Int}{r:Bool}(hr:q5O a0 a1 a2=some r):Ok Tryz.prog 67 [dI a0,dI a1,dI a2] [] (dB r) []:=by
 refine OE Tryz.func67 fun S hS=>?_
 unfold q5O at hr
 refine J (gn 9)<|ifE hr ?_ ?_<;>intro h1 hr
 exact e
 exact e
def q5s (a0:Rule)(a1:Int):Option ByteArray:=
 if a1=0 then (
 some a0.Left
 ) else (
 (q5O a1 1 (a0.Right.length:Int)).bind fun y1=>
 if y1=true then (
 grd (I64 (a1 - 1)) <|
 grd (0≤(a1 - 1)) <|
 (a0.Right[(a1 - 1).toNat]?).bind fun x1=>
 some x1
 ) else (
 some (⟨#[]⟩:ByteArray)
 )
 )
theorem q7v {m:Md}{a0:Rule}{a1:Int}{r:ByteArray}(hr:q5s a0 a1=some r):Ok Tryz.prog 32 [Rule.x m a0,dI a1] [] (dS r) []:=by
 refine OE Tryz.func32 fun S hS=>?_
 unfold q5s at hr
 refine J g<|J (BX' 0)<|J (gn 8)<|ifE hr ?_ ?_<;>intro h1 hr
 exact e
 refine bdE hr fun y1 hy1 hr=>J g<|J (CB' [] [] (q5W hy1))<|J (gn 2)<|ifE hr ?_ ?_<;>intro h2 hr
 refine ggE hr fun g1 hr=>ggE hr fun g2 hr=>bdE hr fun x1 hx1 hr=>e
 exact e
def q9x (a0:Symbol):Option Symbol:=
 grd (((([]:List Attribute).length:Int)+(a0.Attributes.length:Int))*40≤140737488355328∧(([]:List Attribute).length:Int)+(a0.Attributes.length:Int)≤9223372036854775807) <|
 some a0
theorem j3Z {m:Md}{a0:Symbol}{r:Symbol}(hr:q9x a0=some r):Ok Tryz.prog 111 [Symbol.x m a0] [] (.ag [dS r.Name,.ref 0 none]) [.row .fz 4 (r.Attributes.map Attribute.D)]:=by
 refine OE Tryz.func111 fun S hS=>?_
 unfold q9x at hr
 refine J g<|J (BX' 0)<|J (NV' 1)<|J g<|J (L0' 2 Attribute.D)<|ggE hr fun g1 hr=>J g<|J (j5F (f:=Attribute.D) 3 40 (fun _=>rfl) g1)<|e
def z0h (a1:ByteArray):Nat→Symbol→Unit→Option (Unit ⊕ (Symbol × Bool)):=fun k1 xk1 _=>
 if xk1.Name=a1 then (
 (q9x xk1).bind fun y1=>
 some (.inr (y1,true))
 ) else (
 some (.inl ())
 )
def q5u (a0:Grammar)(a1:ByteArray):Option (Symbol × Bool):=
 (findL (z0h a1) 0 a0.Symbols ()).bind <| onr (fun r1=>some r1) fun _=>
 some ((⟨(⟨#[]⟩:ByteArray),[]⟩:Symbol),false)
theorem q7w {m:Md}{a0:Grammar}{a1:ByteArray}{r:(Symbol × Bool)}(hr:q5u a0 a1=some r):Ok Tryz.prog 68 [Grammar.y m a0,dS a1] [] (.tu [.ag [dS r.1.Name,.ref 0 none],dB r.2]) [.row .fz 4 (r.1.Attributes.map Attribute.D)]:=by
 refine OE Tryz.func68 fun S hS=>?_
 unfold q5u at hr
 refine J g<|J (BX' 0)<|J (NV' 1)<|J (gn 8)<|J (lenA 0 0)<|fun hl1=>bdE hr fun q1 hqq1 hr=>q0b hqq1 hl1 2 (fun k1 _=>[(1,dS a1),(2,.pb 0 0),(4,.pb 1 0),(6,dI (k1:Int))]) (fun k1 _=>[]) I (fun k1 xk1 sk1 ok1 hxk1 hr hltk1 hik1=>?_) fun k1 sk1 ek1 hltk1=>?_
 refine J (gn 24)<|ifE hr ?_ ?_<;>intro h1 hr
 refine bdE hr fun y1 hy1 hr=>J g<|J (CB' [(0,2)] [] (j3Z (m:=m) hy1))<|e
 exact e
 subst ek1
 refine J (gn 18) ?_
 refine J (q0c (q0j (q:=1) (c:=1) (r:=2) .fz 4 rfl rfl rfl))<|J g<|E
def q8L (s3:Int):Nat→Attribute→((List Occurrence))→Option ((List Occurrence)):=fun k2 xk2 s5=>
 (
 if xk2.Mode=2 then (
 grd (((s5.length:Int)+1)*24≤140737488355328∧(s5.length:Int)+1≤9223372036854775807) <|
 some (s5++[(⟨s3,xk2.Name⟩:Occurrence)])
 ) else (
 some s5
 )
 ).bind fun s6=>
 some s6
def q8M (s3:Int):Nat→Attribute→((List Occurrence))→Option ((List Occurrence)):=fun k3 xk3 s7=>
 (
 if xk3.Mode=1 then (
 grd (((s7.length:Int)+1)*24≤140737488355328∧(s7.length:Int)+1≤9223372036854775807) <|
 some (s7++[(⟨s3,xk3.Name⟩:Occurrence)])
 ) else (
 some s7
 )
 ).bind fun s8=>
 some s8
def q6q (a0:Grammar)(a1:Rule):((List Occurrence) × Int)→Option (((List Occurrence) × Int) ⊕ ((List Occurrence))):=fun (s2,s3)=>
 if s3≤(a1.Right.length:Int) then (
 (
 (q5s a1 s3).bind fun y1=>
 (q5u a0 y1).bind fun (y2,y3)=>
 if s3=0 then (
 (eachL (q8L s3) 0 y2.Attributes s2).bind fun s5=>
 some s5
 ) else (
 (eachL (q8M s3) 0 y2.Attributes s2).bind fun s7=>
 some s7
 )
 ).bind fun s4=>
 grd (I64 (s3+1)) <|
 some (.inl (s4,(s3+1)))
 ) else (
 some (.inr s2)
 )
def q5t (a0:Grammar)(a1:Rule):Option (List Occurrence):=
 (q4L (q6q a0 a1) (([]:List Occurrence),0)).bind fun s1=>
 some s1
theorem q8N {m:Md}{a0:Grammar}{a1:Rule}{r:(List Occurrence)}(hr:q5t a0 a1=some r):Ok Tryz.prog 125 [Grammar.y m a0,Rule.x m a1] [] (.ref 0 none) [.row .fz 2 (r.map Occurrence.D)]:=by
 refine OE Tryz.func125 fun S hS=>?_
 unfold q5t at hr
 refine J g<|J (BX' 0)<|J (BX' 1)<|J g<|J (L0' 2 Occurrence.D)<|bdE hr fun s1 hqq1 hr=>J (gn 7)<|q0e 3 [(5,.ref 2 none)] [(2,.row .fz 2 (s1.map Occurrence.D))] ?_ ?_
 refine J g<|q0h hqq1 3 (fun (s2,s3)=>[(2,.pb 0 0),(3,.pb 1 0),(5,.ref 2 none),(6,dI s3)]) (fun (s2,s3)=>[(2,.row .fz 2 (s2.map Occurrence.D))]) I fun sk1 ok1 hr hik1=>?_
 obtain⟨s2,s3⟩:=sk1
 have hr:=hr
 refine J (gn 9)<|ifE hr ?_ ?_<;>intro h1 hr
 refine bdE hr fun s4 hqq2 hr=>J (gn 3)<|q0e 3 [(2,.pb 0 0),(3,.pb 1 0),(5,.ref 2 none),(6,dI s3)] [(2,.row .fz 2 (s4.map Occurrence.D))] ?_ ?_
 replace hr:=hqq2
 refine bdE hr fun y1 hy1 hr=>J g<|J (CB' [] [] (q7v (m:=m) hy1))<|bdP hr fun y2 y3 hq3 hr=>J (CB' [(0,3)] [] (q7w (m:=m) hq3))<|J g<|J (NV' 4)<|J (gn 13)<|ifE hr ?_ ?_<;>intro h2 hr
 refine J (gn 9)<|J (lenR 3)<|fun hl2=>bdE hr fun s5 hqq4 hr=>q0d hqq4 hl2 5 (fun k2 s5=>[(2,.pb 0 0),(3,.pb 1 0),(5,.ref 2 none),(6,dI s3),(7,.pb 4 0),(9,dI 2),(10,dI (k2:Int))]) (fun k2 s5=>[(2,.row .fz 2 (s5.map Occurrence.D))]) I (fun k2 xk2 sk2 ok2 hxk2 hr hltk2=>?_) fun k2 hltk2=>?_
 obtain⟨s5,rfl⟩:∃ y,y=sk2:=⟨_,rfl⟩
 refine bdE hr fun s6 hqq5 hr=>J (gn 12)<|q0e 5 [(2,.pb 0 0),(3,.pb 1 0),(5,.ref 2 none),(6,dI s3),(7,.pb 4 0),(9,dI 2),(10,dI (k2:Int))] [(2,.row .fz 2 (s6.map Occurrence.D))] ?_ ?_
 replace hr:=hqq5
 refine J (gn 12)<|ifE hr ?_ ?_<;>intro h3 hr
 refine J g<|J (LIR' 5 (m:=.fz) (f:=Occurrence.D) (xs:=[(⟨s3,xk2.Name⟩:Occurrence)]))<|ggE hr fun g1 hr=>J (q9Z (f:=Occurrence.D) 6 (fun _=>rfl) 24 g1)<|e
 exact e
 exact e
 exact e
 refine J (gn 7)<|J (lenR 3)<|fun hl3=>bdE hr fun s7 hqq6 hr=>q0d hqq6 hl3 5 (fun k3 s7=>[(2,.pb 0 0),(3,.pb 1 0),(5,.ref 2 none),(6,dI s3),(7,.pb 4 0),(9,dI 1),(10,dI (k3:Int))]) (fun k3 s7=>[(2,.row .fz 2 (s7.map Occurrence.D))]) I (fun k3 xk3 sk3 ok3 hxk3 hr hltk3=>?_) fun k3 hltk3=>?_
 obtain⟨s7,rfl⟩:∃ y,y=sk3:=⟨_,rfl⟩
 refine bdE hr fun s8 hqq7 hr=>J (gn 12)<|q0e 5 [(2,.pb 0 0),(3,.pb 1 0),(5,.ref 2 none),(6,dI s3),(7,.pb 4 0),(9,dI 1),(10,dI (k3:Int))] [(2,.row .fz 2 (s8.map Occurrence.D))] ?_ ?_
 replace hr:=hqq7
 refine J (gn 12)<|ifE hr ?_ ?_<;>intro h4 hr
 refine J g<|J (LIR' 5 (m:=.fz) (f:=Occurrence.D) (xs:=[(⟨s3,xk3.Name⟩:Occurrence)]))<|ggE hr fun g2 hr=>J (q9Z (f:=Occurrence.D) 6 (fun _=>rfl) 24 g2)<|e
 exact e
 exact e
 exact e
 refine ggE hr fun g3 hr=>e
 refine J (gn 2) ?_
 cases hr
 cases hik1 _ rfl
 exact GH.trans (q0y (q:=0) [.d m (.sl 2 (a0.Symbols.map Symbol.D)),.u] (.cons .rfl (.cons .u .nil)) rfl) (q0g hS 3)
 exact e
def z1I (a1:ByteArray):Nat→Attribute→Unit→Option (Unit ⊕ (Attribute × Bool)):=fun k1 xk1 _=>
 if xk1.Name=a1 then (
 some (.inr (xk1,true))
 ) else (
 some (.inl ())
 )
def q5X (a0:Symbol)(a1:ByteArray):Option (Attribute × Bool):=
 (findL (z1I a1) 0 a0.Attributes ()).bind <| onr (fun r1=>some r1) fun _=>
 some ((⟨(⟨#[]⟩:ByteArray),0,0,false⟩:Attribute),false)
theorem q9I {m:Md}{a0:Symbol}{a1:ByteArray}{r:(Attribute × Bool)}(hr:q5X a0 a1=some r):Ok Tryz.prog 126 [Symbol.x m a0,dS a1] [] (.tu [Attribute.x .fz r.1,dB r.2]) []:=by
 refine OE Tryz.func126 fun S hS=>?_
 unfold q5X at hr
 refine J g<|J (BX' 0)<|J (NV' 1)<|J (gn 8)<|J (lenA 1 0)<|fun hl1=>bdE hr fun q1 hqq1 hr=>q0b hqq1 hl1 2 (fun k1 _=>[(1,dS a1),(2,.pb 0 0),(4,.pb 1 0),(6,dI (k1:Int))]) (fun k1 _=>[]) I (fun k1 xk1 sk1 ok1 hxk1 hr hltk1 hik1=>?_) fun k1 sk1 ek1 hltk1=>?_
 refine J (gn 24)<|ifE hr ?_ ?_<;>intro h1 hr
 exact e
 exact e
 subst ek1
 exact e
def j5H (a2:Int)(s3:Int):Nat→Attribute→((List Occurrence))→Option ((List Occurrence)):=fun k2 xk2 s4=>
 (
 (
 if s3=0 then (
 some (decide (xk2.Mode=1))
 ) else (
 some false
 )
 ).bind fun s6=>
 (
 if s6=true then (
 some true
 ) else (
 (
 if 0 < s3 then (
 some (true,decide (xk2.Mode=2))
 ) else (
 some (false,false)
 )
 ).bind fun (s8,s9)=>
 some s9
 )
 ).bind fun s7=>
 (
 if xk2.Type_=a2 then (
 some s7
 ) else (
 some false
 )
 ).bind fun s10=>
 if s10=true then (
 grd (((s4.length:Int)+1)*24≤140737488355328∧(s4.length:Int)+1≤9223372036854775807) <|
 some (s4++[(⟨s3,xk2.Name⟩:Occurrence)])
 ) else (
 some s4
 )
 ).bind fun s5=>
 some s5
def j5I (a0:Grammar)(a1:Rule)(a2:Int):((List Occurrence) × Int)→Option (((List Occurrence) × Int) ⊕ ((List Occurrence))):=fun (s2,s3)=>
 if s3≤(a1.Right.length:Int) then (
 (q5s a1 s3).bind fun y1=>
 (q5u a0 y1).bind fun (y2,y3)=>
 (eachL (j5H a2 s3) 0 y2.Attributes s2).bind fun s4=>
 grd (I64 (s3+1)) <|
 some (.inl (s4,(s3+1)))
 ) else (
 some (.inr s2)
 )
def z2i (a0:Grammar)(a1:Rule)(a2:Int):Option (List Occurrence):=
 (q4L (j5I a0 a1 a2) (([]:List Occurrence),0)).bind fun s1=>
 some s1
theorem z4J {m:Md}{a0:Grammar}{a1:Rule}{a2:Int}{r:(List Occurrence)}(hr:z2i a0 a1 a2=some r):Ok Tryz.prog 129 [Grammar.y m a0,Rule.x m a1,dI a2] [] (.ref 0 none) [.row .fz 2 (r.map Occurrence.D)]:=by
 refine OE Tryz.func129 fun S hS=>?_
 unfold z2i at hr
 refine J g<|J (BX' 0)<|J (BX' 1)<|J g<|J (L0' 2 Occurrence.D)<|bdE hr fun s1 hqq1 hr=>J (gn 7)<|q0e 3 [(7,.ref 2 none)] [(2,.row .fz 2 (s1.map Occurrence.D))] ?_ ?_
 refine J g<|q0h hqq1 3 (fun (s2,s3)=>[(2,dI a2),(3,.pb 0 0),(4,.pb 1 0),(7,.ref 2 none),(8,dI s3)]) (fun (s2,s3)=>[(2,.row .fz 2 (s2.map Occurrence.D))]) I fun sk1 ok1 hr hik1=>?_
 obtain⟨s2,s3⟩:=sk1
 have hr:=hr
 refine J (gn 9)<|ifE hr ?_ ?_<;>intro h1 hr
 refine bdE hr fun y1 hy1 hr=>J g<|J (CB' [] [] (q7v (m:=m) hy1))<|bdP hr fun y2 y3 hq2 hr=>J (CB' [(0,3)] [] (q7w (m:=m) hq2))<|J g<|J (NV' 4)<|J (gn 8)<|J (lenR 3)<|fun hl2=>bdE hr fun s4 hqq3 hr=>q0d hqq3 hl2 5 (fun k2 s4=>[(2,dI a2),(3,.pb 0 0),(4,.pb 1 0),(7,.ref 2 none),(8,dI s3),(9,.pb 4 0),(11,dI (k2:Int))]) (fun k2 s4=>[(2,.row .fz 2 (s4.map Occurrence.D))]) I (fun k2 xk2 sk2 ok2 hxk2 hr hltk2=>?_) fun k2 hltk2=>?_
 obtain⟨s4,rfl⟩:∃ y,y=sk2:=⟨_,rfl⟩
 refine bdE hr fun s5 hqq4 hr=>J (gn 12)<|q0e 5 [(2,dI a2),(3,.pb 0 0),(4,.pb 1 0),(7,.ref 2 none),(8,dI s3),(9,.pb 4 0),(11,dI (k2:Int))] [(2,.row .fz 2 (s5.map Occurrence.D))] ?_ ?_
 replace hr:=hqq4
 refine J g<|J (NV' 5)<|bdE hr fun s6 hqq5 hr=>J (gn 6)<|q0a 5 [(2,dI a2),(3,.pb 0 0),(4,.pb 1 0),(7,.ref 2 none),(8,dI s3),(9,.pb 4 0),(11,dI (k2:Int)),(12,.pb 5 0),(48,dB s6)] ?_ ?_
 replace hr:=hqq5
 refine ifE hr ?_ ?_<;>intro h2 hr
 exact e
 exact e
 refine bdE hr fun s7 hqq6 hr=>q0a 9 [(2,dI a2),(3,.pb 0 0),(4,.pb 1 0),(7,.ref 2 none),(8,dI s3),(9,.pb 4 0),(11,dI (k2:Int)),(12,.pb 5 0),(57,dB s7)] ?_ ?_
 replace hr:=hqq6
 refine ifE hr ?_ ?_<;>intro h3 hr
 exact e
 refine bdP hr fun s8 s9 hqq7 hr=>J (gn 3)<|q0a 5 [(2,dI a2),(3,.pb 0 0),(4,.pb 1 0),(7,.ref 2 none),(8,dI s3),(9,.pb 4 0),(11,dI (k2:Int)),(12,.pb 5 0),(49,dB false),(50,dI s3),(51,dB (decide (0 < s3))),(52,dB s8),(56,dB s9)] ?_ ?_
 replace hr:=hqq7
 refine ifE hr ?_ ?_<;>intro h4 hr
 exact e
 exact e
 exact e
 refine bdE hr fun s10 hqq8 hr=>J (gn 8)<|q0a 3 [(2,dI a2),(3,.pb 0 0),(4,.pb 1 0),(7,.ref 2 none),(8,dI s3),(9,.pb 4 0),(11,dI (k2:Int)),(12,.pb 5 0),(64,dB s10)] ?_ ?_
 replace hr:=hqq8
 refine ifE hr ?_ ?_<;>intro h5 hr
 exact e
 exact e
 refine J (gn 1)<|ifE hr ?_ ?_<;>intro h6 hr
 refine J g<|J (LIR' 6 (m:=.fz) (f:=Occurrence.D) (xs:=[(⟨s3,xk2.Name⟩:Occurrence)]))<|ggE hr fun g1 hr=>J (q9Z (f:=Occurrence.D) 7 (fun _=>rfl) 24 g1)<|e
 exact e
 exact e
 refine ggE hr fun g2 hr=>e
 refine J (gn 2) ?_
 cases hr
 cases hik1 _ rfl
 exact GH.trans (q0y (q:=0) [.d m (.sl 2 (a0.Symbols.map Symbol.D)),.u] (.cons .rfl (.cons .u .nil)) rfl) (q0g hS 3)
 exact e
def q7Y (a0:Int)(a1:Int):Option Expr:=
 some (⟨1,a0,0,a1,(⟨#[]⟩:ByteArray),(⟨#[]⟩:ByteArray),[]⟩:Expr)
theorem z0A {a0:Int}{a1:Int}{r:Expr}(hr:q7Y a0 a1=some r):Ok Tryz.prog 153 [dI a0,dI a1] [] (.ag [dI r.Kind,dI r.N,dI r.Pos,dI r.Type_,dS r.Symbol,dS r.Name,.ref 0 none]) [.row .fz 7 (r.Args.map Expr.D)]:=by
 refine OE Tryz.func153 fun S hS=>?_
 unfold q7Y at hr
 refine J g<|J (NV' 0)<|J (gn 9) ?_
 refine J (q0c (q0j (q:=0) (c:=6) (r:=1) .fz 7 rfl rfl rfl))<|J g<|E
def q8b (a1:Int)(a2:(List Occurrence))(o0:l1Cur):Option (Expr × l1Cur):=
 if 0 < (a2.length:Int) then (
 (q5a 4 o0).bind fun (y1,z1)=>
 if y1=true then (
 if a1=4 then (
 (q5a 3 (⟨o0.b,z1.i,z1.h⟩:l1Cur)).bind fun (y2,z2)=>
 if y2=true then (
 some ((⟨7,0,0,0,(⟨#[]⟩:ByteArray),(⟨#[]⟩:ByteArray),[]⟩:Expr),(⟨o0.b,z2.i,z2.h⟩:l1Cur))
 ) else (
 some ((⟨6,0,0,0,(⟨#[]⟩:ByteArray),(⟨#[]⟩:ByteArray),[]⟩:Expr),(⟨o0.b,z2.i,z2.h⟩:l1Cur))
 )
 ) else (
 if a1=3 then (
 (q3H 2 (⟨o0.b,z1.i,z1.h⟩:l1Cur)).bind fun (y3,z3)=>
 (q7Y y3 a1).bind fun y4=>
 some (y4,(⟨o0.b,z3.i,z3.h⟩:l1Cur))
 ) else (
 if a1=2 then (
 (q3H 12 (⟨o0.b,z1.i,z1.h⟩:l1Cur)).bind fun (y5,z4)=>
 grd (0≤y5) <|
 grd (0≤y5∧y5 < 63) <|
 (q7Y ((2 ^ y5.toNat:Nat):Int) a1).bind fun y6=>
 some (y6,(⟨o0.b,z4.i,z4.h⟩:l1Cur))
 ) else (
 (q3H 9 (⟨o0.b,z1.i,z1.h⟩:l1Cur)).bind fun (y7,z5)=>
 (q7Y y7 1).bind fun y8=>
 some (y8,(⟨o0.b,z5.i,z5.h⟩:l1Cur))
 )
 )
 )
 ) else (
 (q3H (a2.length:Int) (⟨o0.b,z1.i,z1.h⟩:l1Cur)).bind fun (y9,z6)=>
 grd (0≤y9) <|
 (a2[y9.toNat]?).bind fun x1=>
 some ((⟨3,0,x1.Pos,0,(⟨#[]⟩:ByteArray),x1.Name,[]⟩:Expr),(⟨o0.b,z6.i,z6.h⟩:l1Cur))
 )
 ) else (
 if a1=4 then (
 (q5a 3 o0).bind fun (y10,z7)=>
 if y10=true then (
 some ((⟨7,0,0,0,(⟨#[]⟩:ByteArray),(⟨#[]⟩:ByteArray),[]⟩:Expr),(⟨o0.b,z7.i,z7.h⟩:l1Cur))
 ) else (
 some ((⟨6,0,0,0,(⟨#[]⟩:ByteArray),(⟨#[]⟩:ByteArray),[]⟩:Expr),(⟨o0.b,z7.i,z7.h⟩:l1Cur))
 )
 ) else (
 if a1=3 then (
 (q3H 2 o0).bind fun (y11,z8)=>
 (q7Y y11 a1).bind fun y12=>
 some (y12,(⟨o0.b,z8.i,z8.h⟩:l1Cur))
 ) else (
 if a1=2 then (
 (q3H 12 o0).bind fun (y13,z9)=>
 grd (0≤y13) <|
 grd (0≤y13∧y13 < 63) <|
 (q7Y ((2 ^ y13.toNat:Nat):Int) a1).bind fun y14=>
 some (y14,(⟨o0.b,z9.i,z9.h⟩:l1Cur))
 ) else (
 (q3H 9 o0).bind fun (y15,z10)=>
 (q7Y y15 1).bind fun y16=>
 some (y16,(⟨o0.b,z10.i,z10.h⟩:l1Cur))
 )
 )
 )
 )
theorem q9J {m:Md}{a1:Int}{a2:(List Occurrence)}{o0:l1Cur}{r:(Expr × l1Cur)}(hr:q8b a1 a2 o0=some r):Ok Tryz.prog 128 [.pb 0 0,dI a1,.d m (.sl 2 (a2.map Occurrence.D))] [.box [.d .fz (.sl 1 (o0.b.map byD)),dI o0.i,dI o0.h]] (.ag [dI r.1.Kind,dI r.1.N,dI r.1.Pos,dI r.1.Type_,dS r.1.Symbol,dS r.1.Name,.ref 1 none]) [.box [.d .fz (.sl 1 (o0.b.map byD)),dI r.2.i,dI r.2.h],.row .fz 7 (r.1.Args.map Expr.D)]:=by
 refine OE Tryz.func128 fun S hS=>?_
 unfold q8b at hr
 refine J g<|J (NV' 1)<|J (gn 7)<|ifE hr ?_ ?_<;>intro h1 hr
 refine bdP hr fun y1 z1 hq1 hr=>J g<|J (CB' [(0,0)] [] (q5B hq1))<|J (gn 3)<|ifE hr ?_ ?_<;>intro h2 hr
 refine J (gn 13)<|ifE hr ?_ ?_<;>intro h3 hr
 refine bdP hr fun y2 z2 hq2 hr=>J g<|J (CB' [(0,0)] [] (q5B hq2))<|J (gn 1)<|ifE hr ?_ ?_<;>intro h4 hr
 refine J (gn 7) ?_
 refine J (q0c (q0j (q:=1) (c:=6) (r:=2) .fz 7 rfl rfl rfl))<|J g<|E
 refine J (gn 8) ?_
 refine J (q0c (q0j (q:=1) (c:=6) (r:=2) .fz 7 rfl rfl rfl))<|J g<|E
 refine J (gn 6)<|ifE hr ?_ ?_<;>intro h5 hr
 refine bdP hr fun y3 z3 hq3 hr=>J g<|J (CB' [(0,0)] [] (q3J hq3))<|bdE hr fun y4 hy4 hr=>J g<|J (CB' [(0,2)] [] (z0A hy4))<|e
 refine J (gn 6)<|ifE hr ?_ ?_<;>intro h6 hr
 refine bdP hr fun y5 z4 hq4 hr=>J g<|J (CB' [(0,0)] [] (q3J hq4))<|ggE hr fun g1 hr=>?_
 refine J (CIU' g1 rfl)<|ggE hr fun g2 hr=>J (OB' _ (j5y g2))<|bdE hr fun y6 hy6 hr=>J g<|J (CB' [(0,2)] [] (z0A hy6))<|J g<|E
 refine bdP hr fun y7 z5 hq5 hr=>J g<|J (CB' [(0,0)] [] (q3J hq5))<|bdE hr fun y8 hy8 hr=>J (CB' [(0,2)] [] (z0A hy8))<|e
 refine bdP hr fun y9 z6 hq6 hr=>J g<|J (CB' [(0,0)] [] (q3J hq6))<|ggE hr fun g3 hr=>bdE hr fun x1 hx1 hr=>J g<|J (NV' 2)<|J (gn 12) ?_
 refine J (q0c (q0j (q:=1) (c:=6) (r:=3) .fz 7 rfl rfl rfl))<|J g<|E
 refine J (gn 19)<|ifE hr ?_ ?_<;>intro h7 hr
 refine bdP hr fun y10 z7 hq7 hr=>J g<|J (CB' [(0,0)] [] (q5B hq7))<|J (gn 1)<|ifE hr ?_ ?_<;>intro h8 hr
 refine J (gn 7) ?_
 refine J (q0c (q0j (q:=1) (c:=6) (r:=2) .fz 7 rfl rfl rfl))<|J g<|E
 refine J (gn 8) ?_
 refine J (q0c (q0j (q:=1) (c:=6) (r:=2) .fz 7 rfl rfl rfl))<|J g<|E
 refine J (gn 6)<|ifE hr ?_ ?_<;>intro h9 hr
 refine bdP hr fun y11 z8 hq8 hr=>J g<|J (CB' [(0,0)] [] (q3J hq8))<|bdE hr fun y12 hy12 hr=>J g<|J (CB' [(0,2)] [] (z0A hy12))<|e
 refine J (gn 6)<|ifE hr ?_ ?_<;>intro h10 hr
 refine bdP hr fun y13 z9 hq9 hr=>J g<|J (CB' [(0,0)] [] (q3J hq9))<|ggE hr fun g4 hr=>?_
 refine J (CIU' g4 rfl)<|ggE hr fun g5 hr=>J (OB' _ (j5y g5))<|bdE hr fun y14 hy14 hr=>J g<|J (CB' [(0,2)] [] (z0A hy14))<|J g<|E
 refine bdP hr fun y15 z10 hq10 hr=>J g<|J (CB' [(0,0)] [] (q3J hq10))<|bdE hr fun y16 hy16 hr=>J (CB' [(0,2)] [] (z0A hy16))<|e
def q5b (a0:Int):Option (Int × Int × Int):=
 (q5O a0 1 5).bind fun y1=>
 if y1=true then (
 some (1,1,1)
 ) else (
 (q5O a0 6 8).bind fun y2=>
 if y2=true then (
 some (2,2,2)
 ) else (
 if a0=9 then (
 some (1,1,3)
 ) else (
 if a0=10 then (
 some (1,1,3)
 ) else (
 if a0=11 then (
 some (2,1,3)
 ) else (
 if a0=12 then (
 some (2,1,2)
 ) else (
 some (0,0,0)
 )
 )
 )
 )
 )
 )
theorem q7c {a0:Int}{r:(Int × Int × Int)}(hr:q5b a0=some r):Ok Tryz.prog 158 [dI a0] [] (.tu [dI r.1,dI r.2.1,dI r.2.2]) []:=by
 refine OE Tryz.func158 fun S hS=>?_
 unfold q5b at hr
 refine bdE hr fun y1 hy1 hr=>J g<|J (CB' [] [] (q5W hy1))<|J (gn 2)<|ifE hr ?_ ?_<;>intro h1 hr
 exact e
 refine bdE hr fun y2 hy2 hr=>J g<|J (CB' [] [] (q5W hy2))<|J (gn 2)<|ifE hr ?_ ?_<;>intro h2 hr
 exact e
 refine J (gn 5)<|ifE hr ?_ ?_<;>intro h3 hr
 exact e
 refine J (gn 6)<|ifE hr ?_ ?_<;>intro h4 hr
 exact e
 refine J (gn 7)<|ifE hr ?_ ?_<;>intro h5 hr
 exact e
 refine J (gn 7)<|ifE hr ?_ ?_<;>intro h6 hr
 exact e
 exact e
def z3y (a0:Int)(a1:Expr)(a2:Expr):Option Expr:=
 some (⟨4,a0,0,0,(⟨#[]⟩:ByteArray),(⟨#[]⟩:ByteArray),[a1,a2]⟩:Expr)
theorem z4g {m:Md}{a0:Int}{a1:Expr}{a2:Expr}{r:Expr}(hr:z3y a0 a1 a2=some r):Ok Tryz.prog 154 [dI a0,Expr.x m a1,Expr.x m a2] [] (.ag [dI r.Kind,dI r.N,dI r.Pos,dI r.Type_,dS r.Symbol,dS r.Name,.ref 0 none]) [.row m 7 (r.Args.map Expr.D)]:=by
 refine OE Tryz.func154 fun S hS=>?_
 unfold z3y at hr
 refine J g<|J (BX' 0)<|J (BX' 1)<|J (NV' 2)<|J g ?_
 refine J (k3e 3 (m:=m) (f:=Expr.D) [a1,a2] (by simp only [List.map_cons,List.map_nil,Expr.D_eq]; rfl))<|J g<|E
def q7z (rec_sl10Expr:Grammar→Rule→Int→Int→Bool→l1Cur→Option (Expr × l1Cur))(a1:Grammar)(a2:Rule)(a3:Int)(a4:Int)(a5:Bool)(o0:l1Cur):Option (Expr × l1Cur):=
 (
 if a4 < 2 then (
 some (true,o0.i,o0.h)
 ) else (
 (q5a 3 o0).bind fun (y1,z1)=>
 some (y1,z1.i,z1.h)
 )
 ).bind fun (s4,s5,s6)=>
 if s4=true then (
 (
 if a3=1 then (
 some a2.Literal
 ) else (
 some false
 )
 ).bind fun s7=>
 (
 if s7=true then (
 (q5a 3 (⟨o0.b,s5,s6⟩:l1Cur)).bind fun (y2,z2)=>
 some (y2,z2.i,z2.h)
 ) else (
 some (false,s5,s6)
 )
 ).bind fun (s11,s12,s13)=>
 if s11=true then (
 some ((⟨2,0,0,0,(⟨#[]⟩:ByteArray),(⟨#[]⟩:ByteArray),[]⟩:Expr),(⟨o0.b,s12,s13⟩:l1Cur))
 ) else (
 (z2i a1 a2 a3).bind fun y3=>
 (q8b a3 y3 (⟨o0.b,s12,s13⟩:l1Cur)).bind fun (y4,z3)=>
 some (y4,(⟨o0.b,z3.i,z3.h⟩:l1Cur))
 )
 ) else (
 (
 if a5=true then (
 (q5a 4 (⟨o0.b,s5,s6⟩:l1Cur)).bind fun (y5,z4)=>
 some (y5,z4.i,z4.h)
 ) else (
 some (false,s5,s6)
 )
 ).bind fun (s17,s18,s19)=>
 if s17=true then (
 (q3H (a1.Symbols.length:Int) (⟨o0.b,s18,s19⟩:l1Cur)).bind fun (y6,z5)=>
 grd (0≤y6) <|
 (a1.Symbols[y6.toNat]?).bind fun x1=>
 (q3H (x1.Attributes.length:Int) (⟨o0.b,z5.i,z5.h⟩:l1Cur)).bind fun (y7,z6)=>
 grd (0≤y7) <|
 (x1.Attributes[y7.toNat]?).bind fun x2=>
 if x2.Type_=a3 then (
 (z2i a1 a2 4).bind fun y8=>
 (q8b 4 y8 (⟨o0.b,z6.i,z6.h⟩:l1Cur)).bind fun (y9,z7)=>
 some ((⟨8,0,0,0,x1.Name,x2.Name,[y9]⟩:Expr),(⟨o0.b,z7.i,z7.h⟩:l1Cur))
 ) else (
 (q5a 6 (⟨o0.b,z6.i,z6.h⟩:l1Cur)).bind fun (y10,z8)=>
 if y10=true then (
 grd (I64 (a4 - 1)) <|
 (rec_sl10Expr a1 a2 3 (a4 - 1) a5 (⟨o0.b,z8.i,z8.h⟩:l1Cur)).bind fun (y11,z9)=>
 grd (I64 (a4 - 1)) <|
 (rec_sl10Expr a1 a2 a3 (a4 - 1) a5 (⟨o0.b,z9.i,z9.h⟩:l1Cur)).bind fun (y12,z10)=>
 grd (I64 (a4 - 1)) <|
 (rec_sl10Expr a1 a2 a3 (a4 - 1) a5 (⟨o0.b,z10.i,z10.h⟩:l1Cur)).bind fun (y13,z11)=>
 some ((⟨5,0,0,0,(⟨#[]⟩:ByteArray),(⟨#[]⟩:ByteArray),[y11,y12,y13]⟩:Expr),(⟨o0.b,z11.i,z11.h⟩:l1Cur))
 ) else (
 if a3=4 then (
 (z2i a1 a2 a3).bind fun y14=>
 (q8b a3 y14 (⟨o0.b,z8.i,z8.h⟩:l1Cur)).bind fun (y15,z12)=>
 some (y15,(⟨o0.b,z12.i,z12.h⟩:l1Cur))
 ) else (
 if a3=1 then (
 (q5q ([1,1,2,3,4,5]:List Int) (⟨o0.b,z8.i,z8.h⟩:l1Cur)).bind fun (y16,z13)=>
 (q5b y16).bind fun (y17,y18,y19)=>
 grd (I64 (a4 - 1)) <|
 (rec_sl10Expr a1 a2 y17 (a4 - 1) a5 (⟨o0.b,z13.i,z13.h⟩:l1Cur)).bind fun (y20,z14)=>
 grd (I64 (a4 - 1)) <|
 (rec_sl10Expr a1 a2 y18 (a4 - 1) a5 (⟨o0.b,z14.i,z14.h⟩:l1Cur)).bind fun (y21,z15)=>
 (z3y y16 y20 y21).bind fun y22=>
 some (y22,(⟨o0.b,z15.i,z15.h⟩:l1Cur))
 ) else (
 if a3=2 then (
 (q5q ([6,6,7,8,12]:List Int) (⟨o0.b,z8.i,z8.h⟩:l1Cur)).bind fun (y23,z16)=>
 (q5b y23).bind fun (y24,y25,y26)=>
 grd (I64 (a4 - 1)) <|
 (rec_sl10Expr a1 a2 y24 (a4 - 1) a5 (⟨o0.b,z16.i,z16.h⟩:l1Cur)).bind fun (y27,z17)=>
 grd (I64 (a4 - 1)) <|
 (rec_sl10Expr a1 a2 y25 (a4 - 1) a5 (⟨o0.b,z17.i,z17.h⟩:l1Cur)).bind fun (y28,z18)=>
 (z3y y23 y27 y28).bind fun y29=>
 some (y29,(⟨o0.b,z18.i,z18.h⟩:l1Cur))
 ) else (
 (q5q ([9,10,11]:List Int) (⟨o0.b,z8.i,z8.h⟩:l1Cur)).bind fun (y30,z19)=>
 (q5b y30).bind fun (y31,y32,y33)=>
 grd (I64 (a4 - 1)) <|
 (rec_sl10Expr a1 a2 y31 (a4 - 1) a5 (⟨o0.b,z19.i,z19.h⟩:l1Cur)).bind fun (y34,z20)=>
 grd (I64 (a4 - 1)) <|
 (rec_sl10Expr a1 a2 y32 (a4 - 1) a5 (⟨o0.b,z20.i,z20.h⟩:l1Cur)).bind fun (y35,z21)=>
 (z3y y30 y34 y35).bind fun y36=>
 some (y36,(⟨o0.b,z21.i,z21.h⟩:l1Cur))
 )
 )
 )
 )
 )
 ) else (
 (q5a 6 (⟨o0.b,s18,s19⟩:l1Cur)).bind fun (y37,z22)=>
 if y37=true then (
 grd (I64 (a4 - 1)) <|
 (rec_sl10Expr a1 a2 3 (a4 - 1) a5 (⟨o0.b,z22.i,z22.h⟩:l1Cur)).bind fun (y38,z23)=>
 grd (I64 (a4 - 1)) <|
 (rec_sl10Expr a1 a2 a3 (a4 - 1) a5 (⟨o0.b,z23.i,z23.h⟩:l1Cur)).bind fun (y39,z24)=>
 grd (I64 (a4 - 1)) <|
 (rec_sl10Expr a1 a2 a3 (a4 - 1) a5 (⟨o0.b,z24.i,z24.h⟩:l1Cur)).bind fun (y40,z25)=>
 some ((⟨5,0,0,0,(⟨#[]⟩:ByteArray),(⟨#[]⟩:ByteArray),[y38,y39,y40]⟩:Expr),(⟨o0.b,z25.i,z25.h⟩:l1Cur))
 ) else (
 if a3=4 then (
 (z2i a1 a2 a3).bind fun y41=>
 (q8b a3 y41 (⟨o0.b,z22.i,z22.h⟩:l1Cur)).bind fun (y42,z26)=>
 some (y42,(⟨o0.b,z26.i,z26.h⟩:l1Cur))
 ) else (
 if a3=1 then (
 (q5q ([1,1,2,3,4,5]:List Int) (⟨o0.b,z22.i,z22.h⟩:l1Cur)).bind fun (y43,z27)=>
 (q5b y43).bind fun (y44,y45,y46)=>
 grd (I64 (a4 - 1)) <|
 (rec_sl10Expr a1 a2 y44 (a4 - 1) a5 (⟨o0.b,z27.i,z27.h⟩:l1Cur)).bind fun (y47,z28)=>
 grd (I64 (a4 - 1)) <|
 (rec_sl10Expr a1 a2 y45 (a4 - 1) a5 (⟨o0.b,z28.i,z28.h⟩:l1Cur)).bind fun (y48,z29)=>
 (z3y y43 y47 y48).bind fun y49=>
 some (y49,(⟨o0.b,z29.i,z29.h⟩:l1Cur))
 ) else (
 if a3=2 then (
 (q5q ([6,6,7,8,12]:List Int) (⟨o0.b,z22.i,z22.h⟩:l1Cur)).bind fun (y50,z30)=>
 (q5b y50).bind fun (y51,y52,y53)=>
 grd (I64 (a4 - 1)) <|
 (rec_sl10Expr a1 a2 y51 (a4 - 1) a5 (⟨o0.b,z30.i,z30.h⟩:l1Cur)).bind fun (y54,z31)=>
 grd (I64 (a4 - 1)) <|
 (rec_sl10Expr a1 a2 y52 (a4 - 1) a5 (⟨o0.b,z31.i,z31.h⟩:l1Cur)).bind fun (y55,z32)=>
 (z3y y50 y54 y55).bind fun y56=>
 some (y56,(⟨o0.b,z32.i,z32.h⟩:l1Cur))
 ) else (
 (q5q ([9,10,11]:List Int) (⟨o0.b,z22.i,z22.h⟩:l1Cur)).bind fun (y57,z33)=>
 (q5b y57).bind fun (y58,y59,y60)=>
 grd (I64 (a4 - 1)) <|
 (rec_sl10Expr a1 a2 y58 (a4 - 1) a5 (⟨o0.b,z33.i,z33.h⟩:l1Cur)).bind fun (y61,z34)=>
 grd (I64 (a4 - 1)) <|
 (rec_sl10Expr a1 a2 y59 (a4 - 1) a5 (⟨o0.b,z34.i,z34.h⟩:l1Cur)).bind fun (y62,z35)=>
 (z3y y57 y61 y62).bind fun y63=>
 some (y63,(⟨o0.b,z35.i,z35.h⟩:l1Cur))
 )
 )
 )
 )
 )
 )
theorem j5J {rec_sl10Expr:Grammar→Rule→Int→Int→Bool→l1Cur→Option (Expr × l1Cur)}(ih_sl10Expr:∀ {m:Md} {a1:Grammar} {a2:Rule} {a3:Int} {a4:Int} {a5:Bool} {o0:l1Cur} {r:(Expr × l1Cur)},rec_sl10Expr a1 a2 a3 a4 a5 o0=some r→Ok Tryz.prog 127 [.pb 0 0,Grammar.y m a1,Rule.x m a2,dI a3,dI a4,dB a5] [.box [.d .fz (.sl 1 (o0.b.map byD)),dI o0.i,dI o0.h]] (.ag [dI r.1.Kind,dI r.1.N,dI r.1.Pos,dI r.1.Type_,dS r.1.Symbol,dS r.1.Name,.ref 1 none]) [.box [.d .fz (.sl 1 (o0.b.map byD)),dI r.2.i,dI r.2.h],.row .fz 7 (r.1.Args.map Expr.D)]){m:Md}{a1:Grammar}{a2:Rule}{a3:Int}{a4:Int}{a5:Bool}{o0:l1Cur}{r:(Expr × l1Cur)}(hr:q7z rec_sl10Expr a1 a2 a3 a4 a5 o0=some r):Ok Tryz.prog 127 [.pb 0 0,Grammar.y m a1,Rule.x m a2,dI a3,dI a4,dB a5] [.box [.d .fz (.sl 1 (o0.b.map byD)),dI o0.i,dI o0.h]] (.ag [dI r.1.Kind,dI r.1.N,dI r.1.Pos,dI r.1.Type_,dS r.1.Symbol,dS r.1.Name,.ref 1 none]) [.box [.d .fz (.sl 1 (o0.b.map byD)),dI r.2.i,dI r.2.h],.row .fz 7 (r.1.Args.map Expr.D)]:=by
 refine OE Tryz.func127 fun S hS=>?_
 unfold q7z at hr
 refine J g<|J (BX' 1)<|J (BX' 2)<|J (NV' 3)<|bdT hr fun s4 s5 s6 hqq1 hr=>J (gn 6)<|q0v 4 4 [(0,.pb 0 0),(3,dI a3),(4,dI a4),(5,dB a5),(7,.pb 1 0),(8,.pb 2 0),(12,.pb 3 0),(24,dB s4)] [(0,.box [.d .fz (.sl 1 (o0.b.map byD)),dI s5,dI s6])] ?_ ?_
 replace hr:=hqq1
 refine ifE hr ?_ ?_<;>intro h1 hr
 exact e
 refine bdP hr fun y1 z1 hq2 hr=>J g<|J (CB' [(0,0)] [] (q5B hq2))<|e
 refine J (gn 1)<|ifE hr ?_ ?_<;>intro h2 hr
 refine bdE hr fun s7 hqq3 hr=>J (gn 6)<|q0a 4 [(0,.pb 0 0),(3,dI a3),(7,.pb 1 0),(8,.pb 2 0),(12,.pb 3 0),(30,dB s7)] ?_ ?_
 replace hr:=hqq3
 refine ifE hr ?_ ?_<;>intro h3 hr
 exact e
 exact e
 refine bdT hr fun s11 s12 s13 hqq4 hr=>q0v 4 4 [(0,.pb 0 0),(3,dI a3),(7,.pb 1 0),(8,.pb 2 0),(12,.pb 3 0),(34,dB s11)] [(0,.box [.d .fz (.sl 1 (o0.b.map byD)),dI s12,dI s13])] ?_ ?_
 replace hr:=hqq4
 refine ifE hr ?_ ?_<;>intro h4 hr
 refine bdP hr fun y2 z2 hq5 hr=>J g<|J (CB' [(0,0)] [] (q5B hq5))<|e
 exact e
 refine J (gn 1)<|ifE hr ?_ ?_<;>intro h5 hr
 refine J (gn 7) ?_
 refine J (q0c (q0j (q:=3) (c:=6) (r:=4) .fz 7 rfl rfl rfl))<|J g<|E
 refine bdE hr fun y3 hy3 hr=>J g<|J (CB' [(0,4)] [] (z4J (m:=m) hy3))<|bdP hr fun y4 z3 hq6 hr=>J (CB' [(0,0),(1,5)] [4] (q9J (m:=.bo) hq6))<|e
 refine bdT hr fun s17 s18 s19 hqq7 hr=>J (gn 6)<|q0v 4 4 [(0,.pb 0 0),(3,dI a3),(4,dI a4),(5,dB a5),(7,.pb 1 0),(8,.pb 2 0),(12,.pb 3 0),(47,dB s17)] [(0,.box [.d .fz (.sl 1 (o0.b.map byD)),dI s18,dI s19])] ?_ ?_
 replace hr:=hqq7
 refine ifE hr ?_ ?_<;>intro h6 hr
 refine bdP hr fun y5 z4 hq8 hr=>J g<|J (CB' [(0,0)] [] (q5B hq8))<|e
 exact e
 refine J (gn 1)<|ifE hr ?_ ?_<;>intro h7 hr
 refine bdP hr fun y6 z5 hq9 hr=>J g<|J (CB' [(0,0)] [] (q3J hq9))<|ggE hr fun g1 hr=>bdE hr fun x1 hx1 hr=>J g<|J (NV' 4)<|bdP hr fun y7 z6 hq10 hr=>J g<|J (CB' [(0,0)] [] (q3J hq10))<|ggE hr fun g2 hr=>bdE hr fun x2 hx2 hr=>J g<|J (NV' 5)<|J (gn 9)<|ifE hr ?_ ?_<;>intro h8 hr
 refine bdE hr fun y8 hy8 hr=>J g<|J (CB' [(0,6)] [] (z4J (m:=m) hy8))<|bdP hr fun y9 z7 hq11 hr=>J (CBz' 7 [(0,0),(1,7)] [6] (q9J (m:=.bo) hq11)) ?_
 refine J (j5E 8 (m:=.fz) (f:=Expr.D) [y9] (by simp only [List.map_cons,List.map_nil,Expr.D_eq]; rfl))<|J g<|E
 refine bdP hr fun y10 z8 hq12 hr=>J g<|J (CB' [(0,0)] [] (q5B hq12))<|J (gn 1)<|ifE hr ?_ ?_<;>intro h9 hr
 refine ggE hr fun g3 hr=>bdP hr fun y11 z9 hq13 hr=>J g<|J (CBz' 6 [(0,0),(1,6)] [] (ih_sl10Expr (m:=m) hq13))<|ggE hr fun g4 hr=>bdP hr fun y12 z10 hq14 hr=>J g<|J (CBz' 7 [(0,0),(1,7)] [] (ih_sl10Expr (m:=m) hq14))<|ggE hr fun g5 hr=>bdP hr fun y13 z11 hq15 hr=>J g<|J (CBz' 8 [(0,0),(1,8)] [] (ih_sl10Expr (m:=m) hq15)) ?_
 refine J (j5E 9 (m:=.fz) (f:=Expr.D) [y11,y12,y13] (by simp only [List.map_cons,List.map_nil,Expr.D_eq]; rfl))<|J g<|E
 refine J (gn 17)<|ifE hr ?_ ?_<;>intro h10 hr
 refine bdE hr fun y14 hy14 hr=>J g<|J (CB' [(0,6)] [] (z4J (m:=m) hy14))<|bdP hr fun y15 z12 hq16 hr=>J (CB' [(0,0),(1,7)] [6] (q9J (m:=.bo) hq16))<|e
 refine J (gn 6)<|ifE hr ?_ ?_<;>intro h11 hr
 refine J g<|J (LIR' 6 (m:=.fz) (f:=(A.D.i .i64)) (xs:=([1,1,2,3,4,5]:List Int)))<|bdP hr fun y16 z13 hq17 hr=>J (CB' [(0,0)] [6] (q6p (m:=.bo) hq17))<|bdT hr fun y17 y18 y19 hq18 hr=>J g<|J (CB' [] [] (q7c hq18))<|ggE hr fun g6 hr=>bdP hr fun y20 z14 hq19 hr=>J g<|J (CBz' 7 [(0,0),(1,7)] [] (ih_sl10Expr (m:=m) hq19))<|ggE hr fun g7 hr=>bdP hr fun y21 z15 hq20 hr=>J g<|J (CBz' 8 [(0,0),(1,8)] [] (ih_sl10Expr (m:=m) hq20))<|bdE hr fun y22 hy22 hr=>J (CB' [(0,9)] [] (z4g (m:=.fz) hy22))<|e
 refine J (gn 6)<|ifE hr ?_ ?_<;>intro h12 hr
 refine J g<|J (LIR' 6 (m:=.fz) (f:=(A.D.i .i64)) (xs:=([6,6,7,8,12]:List Int)))<|bdP hr fun y23 z16 hq21 hr=>J (CB' [(0,0)] [6] (q6p (m:=.bo) hq21))<|bdT hr fun y24 y25 y26 hq22 hr=>J g<|J (CB' [] [] (q7c hq22))<|ggE hr fun g8 hr=>bdP hr fun y27 z17 hq23 hr=>J g<|J (CBz' 7 [(0,0),(1,7)] [] (ih_sl10Expr (m:=m) hq23))<|ggE hr fun g9 hr=>bdP hr fun y28 z18 hq24 hr=>J g<|J (CBz' 8 [(0,0),(1,8)] [] (ih_sl10Expr (m:=m) hq24))<|bdE hr fun y29 hy29 hr=>J (CB' [(0,9)] [] (z4g (m:=.fz) hy29))<|e
 refine J g<|J (LIR' 6 (m:=.fz) (f:=(A.D.i .i64)) (xs:=([9,10,11]:List Int)))<|bdP hr fun y30 z19 hq25 hr=>J (CB' [(0,0)] [6] (q6p (m:=.bo) hq25))<|bdT hr fun y31 y32 y33 hq26 hr=>J g<|J (CB' [] [] (q7c hq26))<|ggE hr fun g10 hr=>bdP hr fun y34 z20 hq27 hr=>J g<|J (CBz' 7 [(0,0),(1,7)] [] (ih_sl10Expr (m:=m) hq27))<|ggE hr fun g11 hr=>bdP hr fun y35 z21 hq28 hr=>J g<|J (CBz' 8 [(0,0),(1,8)] [] (ih_sl10Expr (m:=m) hq28))<|bdE hr fun y36 hy36 hr=>J (CB' [(0,9)] [] (z4g (m:=.fz) hy36))<|e
 refine bdP hr fun y37 z22 hq29 hr=>J g<|J (CB' [(0,0)] [] (q5B hq29))<|J (gn 1)<|ifE hr ?_ ?_<;>intro h13 hr
 refine ggE hr fun g12 hr=>bdP hr fun y38 z23 hq30 hr=>J g<|J (CBz' 4 [(0,0),(1,4)] [] (ih_sl10Expr (m:=m) hq30))<|ggE hr fun g13 hr=>bdP hr fun y39 z24 hq31 hr=>J g<|J (CBz' 5 [(0,0),(1,5)] [] (ih_sl10Expr (m:=m) hq31))<|ggE hr fun g14 hr=>bdP hr fun y40 z25 hq32 hr=>J g<|J (CBz' 6 [(0,0),(1,6)] [] (ih_sl10Expr (m:=m) hq32)) ?_
 refine J (j5E 7 (m:=.fz) (f:=Expr.D) [y38,y39,y40] (by simp only [List.map_cons,List.map_nil,Expr.D_eq]; rfl))<|J g<|E
 refine J (gn 17)<|ifE hr ?_ ?_<;>intro h14 hr
 refine bdE hr fun y41 hy41 hr=>J g<|J (CB' [(0,4)] [] (z4J (m:=m) hy41))<|bdP hr fun y42 z26 hq33 hr=>J (CB' [(0,0),(1,5)] [4] (q9J (m:=.bo) hq33))<|e
 refine J (gn 6)<|ifE hr ?_ ?_<;>intro h15 hr
 refine J g<|J (LIR' 4 (m:=.fz) (f:=(A.D.i .i64)) (xs:=([1,1,2,3,4,5]:List Int)))<|bdP hr fun y43 z27 hq34 hr=>J (CB' [(0,0)] [4] (q6p (m:=.bo) hq34))<|bdT hr fun y44 y45 y46 hq35 hr=>J g<|J (CB' [] [] (q7c hq35))<|ggE hr fun g15 hr=>bdP hr fun y47 z28 hq36 hr=>J g<|J (CBz' 5 [(0,0),(1,5)] [] (ih_sl10Expr (m:=m) hq36))<|ggE hr fun g16 hr=>bdP hr fun y48 z29 hq37 hr=>J g<|J (CBz' 6 [(0,0),(1,6)] [] (ih_sl10Expr (m:=m) hq37))<|bdE hr fun y49 hy49 hr=>J (CB' [(0,7)] [] (z4g (m:=.fz) hy49))<|e
 refine J (gn 6)<|ifE hr ?_ ?_<;>intro h16 hr
 refine J g<|J (LIR' 4 (m:=.fz) (f:=(A.D.i .i64)) (xs:=([6,6,7,8,12]:List Int)))<|bdP hr fun y50 z30 hq38 hr=>J (CB' [(0,0)] [4] (q6p (m:=.bo) hq38))<|bdT hr fun y51 y52 y53 hq39 hr=>J g<|J (CB' [] [] (q7c hq39))<|ggE hr fun g17 hr=>bdP hr fun y54 z31 hq40 hr=>J g<|J (CBz' 5 [(0,0),(1,5)] [] (ih_sl10Expr (m:=m) hq40))<|ggE hr fun g18 hr=>bdP hr fun y55 z32 hq41 hr=>J g<|J (CBz' 6 [(0,0),(1,6)] [] (ih_sl10Expr (m:=m) hq41))<|bdE hr fun y56 hy56 hr=>J (CB' [(0,7)] [] (z4g (m:=.fz) hy56))<|e
 refine J g<|J (LIR' 4 (m:=.fz) (f:=(A.D.i .i64)) (xs:=([9,10,11]:List Int)))<|bdP hr fun y57 z33 hq42 hr=>J (CB' [(0,0)] [4] (q6p (m:=.bo) hq42))<|bdT hr fun y58 y59 y60 hq43 hr=>J g<|J (CB' [] [] (q7c hq43))<|ggE hr fun g19 hr=>bdP hr fun y61 z34 hq44 hr=>J g<|J (CBz' 5 [(0,0),(1,5)] [] (ih_sl10Expr (m:=m) hq44))<|ggE hr fun g20 hr=>bdP hr fun y62 z35 hq45 hr=>J g<|J (CBz' 6 [(0,0),(1,6)] [] (ih_sl10Expr (m:=m) hq45))<|bdE hr fun y63 hy63 hr=>J (CB' [(0,7)] [] (z4g (m:=.fz) hy63))<|e
def q6K:Nat→Grammar→Rule→Int→Int→Bool→l1Cur→Option (Expr × l1Cur)
  | 0,_,_,_,_,_,_=>none
  | n+1,a1,a2,a3,a4,a5,o0=>q7z (q6K n) a1 a2 a3 a4 a5 o0
def z9h (a1:Grammar)(a2:Rule)(a3:Int)(a4:Int)(a5:Bool)(o0:l1Cur):Option (Expr × l1Cur):=recO fun n=>q6K n a1 a2 a3 a4 a5 o0
theorem j5K (n:Nat):∀ {m:Md} {a1:Grammar} {a2:Rule} {a3:Int} {a4:Int} {a5:Bool} {o0:l1Cur} {r:(Expr × l1Cur)},q6K n a1 a2 a3 a4 a5 o0=some r→Ok Tryz.prog 127 [.pb 0 0,Grammar.y m a1,Rule.x m a2,dI a3,dI a4,dB a5] [.box [.d .fz (.sl 1 (o0.b.map byD)),dI o0.i,dI o0.h]] (.ag [dI r.1.Kind,dI r.1.N,dI r.1.Pos,dI r.1.Type_,dS r.1.Symbol,dS r.1.Name,.ref 1 none]) [.box [.d .fz (.sl 1 (o0.b.map byD)),dI r.2.i,dI r.2.h],.row .fz 7 (r.1.Args.map Expr.D)]:=by
  induction n with
  | zero=>intro _ _ _ _ _ _ _ r hr; exact nomatch (show (none:Option (Expr × l1Cur))=some r from hr)
  | succ n ih=>intro _ _ _ _ _ _ _ r hr; exact j5J ih hr
theorem j7d {m:Md}{a1:Grammar}{a2:Rule}{a3:Int}{a4:Int}{a5:Bool}{o0:l1Cur}{r:(Expr × l1Cur)}(hr:z9h a1 a2 a3 a4 a5 o0=some r):Ok Tryz.prog 127 [.pb 0 0,Grammar.y m a1,Rule.x m a2,dI a3,dI a4,dB a5] [.box [.d .fz (.sl 1 (o0.b.map byD)),dI o0.i,dI o0.h]] (.ag [dI r.1.Kind,dI r.1.N,dI r.1.Pos,dI r.1.Type_,dS r.1.Symbol,dS r.1.Name,.ref 1 none]) [.box [.d .fz (.sl 1 (o0.b.map byD)),dI r.2.i,dI r.2.h],.row .fz 7 (r.1.Args.map Expr.D)]:=by
 obtain⟨n,hn⟩:=q6D hr
 exact j5K n hn
end Go.Proofs.YtpnkinhphabkcaaGreat
