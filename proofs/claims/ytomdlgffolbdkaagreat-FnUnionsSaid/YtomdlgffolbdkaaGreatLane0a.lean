/- What some functions of the program compute, as partial functions on plain data, and that they do; each lemma bears its conditions in its statement. -/
import Derived.Test.YtomdlgffolbdkaaGreatDef
set_option linter.unusedVariables false
set_option linter.unusedSimpArgs false
set_option linter.ambiguousOpen false
set_option linter.unusedSectionVars false
set_option linter.unnecessarySimpa false
set_option maxRecDepth 100000
set_option maxHeartbeats 40000000
noncomputable section
namespace Go.Proofs.YtomdlgffolbdkaaGreat
open Go Go.E Go.A
theorem j9F {a0:(List UInt8)}{r:l1Cur}(hr:z5N a0=some r):Ok Tryz.prog 29 [.d .fz (.sl 1 (a0.map byD))] [] (.pb 0 0) [.box [.d .fz (.sl 1 (r.b.map byD)),dI r.i,dI r.h]]:=by
 refine OE Tryz.func29 fun S hS=>?_
 unfold z5N at hr
 refine J g<|J (OB' _ j5F)<|bdE hr fun s1 hqq1 hr=>J (gn 7)<|q0e 0 [(0,.d .fz (.sl 1 (a0.map byD))),(3,dI s1)] [] ?_ ?_
 refine J g<|q0h hqq1 0 (fun (s2,s3)=>[(0,.d .fz (.sl 1 (a0.map byD))),(3,dI s2),(4,dI s3)]) (fun (s2,s3)=>[]) I fun sk1 ok1 hr hik1=>?_
 obtain⟨s2,s3⟩:=sk1
 have hr:=hr
 refine J (gn 7)<|ifE hr ?_ ?_<;>intro h1 hr
 refine J (gn 5)<|ifE hr ?_ ?_<;>intro h2 hr
 refine J g<|J (OB' _ k5c)<|ggE hr fun g1 hr=>bdE hr fun x1 hx1 hr=>J g ?_
 refine J (CUB' rfl)<|J (OB' _ j5F)<|J (OB' _ j5F)<|J (OB' _ j9t)<|J g<|J (OB' _ j5F)<|J g<|E
 refine J (gn 2) ?_
 cases hr
 cases hik1 _ rfl
 exact q0g hS 0
 refine J (gn 7) ?_
 cases hr
 cases hik1 _ rfl
 exact q0g hS 0
 refine J g<|J (BX' 0)<|e
theorem z3D {o0:l1Cur}{r:(Int×l1Cur)}(hr:q9Q o0=some r):Ok Tryz.prog 128 [.pb 0 0] [.box [.d .fz (.sl 1 (o0.b.map byD)),dI o0.i,dI o0.h]] (dI r.1) [.box [.d .fz (.sl 1 (o0.b.map byD)),dI r.2.i,dI r.2.h]]:=by
 refine OE Tryz.func128 fun S hS=>?_
 unfold q9Q at hr
 refine J g<|J (OB' _ k5c)<|J (OB' _ j5F)<|J g<|J (OB' _ (k5d (b:=33) (by decide)))<|J g<|J (OB' _ (k5d (b:=45) (by decide)))<|J (OB' _ k5D)<|J (OB' _ j9t)<|J (gn 16)<|ifE hr ?_ ?_<;>intro h1 hr
 refine ggE hr fun g1 hr=>bdE hr fun x1 hx1 hr=>J g ?_
 refine J (CUB' rfl)<|J (OB' _ j5F)<|J (OB' _ j9t)<|J (q0x .refl)<|J g<|J (OB' _ j5F)<|J g<|E
 exact e
theorem q3R {a1:Int}{o0:l1Cur}{r:(Int×l1Cur)}(hr:q3Q a1 o0=some r):Ok Tryz.prog 70 [.pb 0 0,dI a1] [.box [.d .fz (.sl 1 (o0.b.map byD)),dI o0.i,dI o0.h]] (dI r.1) [.box [.d .fz (.sl 1 (o0.b.map byD)),dI r.2.i,dI r.2.h]]:=by
 refine OE Tryz.func70 fun S hS=>?_
 unfold q3Q at hr
 refine J (gn 10)<|ifE hr ?_ ?_<;>intro h1 hr
 exact e
 refine J (gn 8)<|ifE hr ?_ ?_<;>intro h2 hr
 refine bdP hr fun y1 z1 hq1 hr=>J g<|J (CB' [(0,0)] [] (z3D hq1))<|ggE hr fun g1 hr=>J g<|J (OB' _ (bRem (b:=a1) g1))<|e
 refine bdP hr fun y2 z2 hq2 hr=>J g<|J (CB' [(0,0)] [] (z3D hq2))<|bdP hr fun y3 z3 hq3 hr=>J g<|J (CB' [(0,0)] [] (z3D hq3))<|bdP hr fun y4 z4 hq4 hr=>J g<|J (CB' [(0,0)] [] (z3D hq4))<|bdP hr fun y5 z5 hq5 hr=>J g<|J (CB' [(0,0)] [] (z3D hq5))<|ggE hr fun g2 hr=>J g<|J (OB' _ (bMul g2))<|ggE hr fun g3 hr=>J g<|J (OB' _ (bMul g3))<|ggE hr fun g4 hr=>ggE hr fun g5 hr=>J g<|J (OB' _ (bMul g5))<|ggE hr fun g6 hr=>ggE hr fun g7 hr=>ggE hr fun g8 hr=>J g<|J (OB' _ (bRem (b:=a1) g8)) ?_
 exact e
theorem q5m {a1:Int}{o0:l1Cur}{r:(Bool×l1Cur)}(hr:q4R a1 o0=some r):Ok Tryz.prog 30 [.pb 0 0,dI a1] [.box [.d .fz (.sl 1 (o0.b.map byD)),dI o0.i,dI o0.h]] (dB r.1) [.box [.d .fz (.sl 1 (o0.b.map byD)),dI r.2.i,dI r.2.h]]:=by
 refine OE Tryz.func30 fun S hS=>?_
 unfold q4R at hr
 refine bdP hr fun y1 z1 hq1 hr=>J g<|J (CB' [(0,0)] [] (q3R hq1))<|e
theorem q5V {m:Md}{a1:(List Int)}{o0:l1Cur}{r:(Int×l1Cur)}(hr:q5f a1 o0=some r):Ok Tryz.prog 133 [.pb 0 0,.d m (.sl 1 (a1.map (A.D.i .i64)))] [.box [.d .fz (.sl 1 (o0.b.map byD)),dI o0.i,dI o0.h]] (dI r.1) [.box [.d .fz (.sl 1 (o0.b.map byD)),dI r.2.i,dI r.2.h]]:=by
 refine OE Tryz.func133 fun S hS=>?_
 unfold q5f at hr
 refine bdP hr fun y1 z1 hq1 hr=>J g<|J (CB' [(0,0)] [] (q3R hq1))<|ggE hr fun g1 hr=>bdE hr fun x1 hx1 hr=>e
theorem j1S {a1:ByteArray}{a2:Bool}{a3:Bool}{o0:l1Cur}{r:(Symbol×l1Cur)}(hr:z3o a1 a2 a3 o0=some r):Ok Tryz.prog 75 [.pb 0 0,dS a1,dB a2,dB a3] [.box [.d .fz (.sl 1 (o0.b.map byD)),dI o0.i,dI o0.h]] (.ag [dS r.1.Name,.ref 1 none]) [.box [.d .fz (.sl 1 (o0.b.map byD)),dI r.2.i,dI r.2.h],.row .fz 4 (r.1.Attributes.map At_.D)]:=by
 refine Ok.enter rfl Tryz.func75 rfl rfl rfl fun S hS=>?_
 unfold z3o at hr
 refine sr ?_
 refine NV 1 ?_
 refine N0 ?_
 refine sr ?_
 refine W2 ?_
 refine NV 2 ?_
 refine SB ?_
 refine N0 ?_
 refine sr ?_
 refine W1 ?_
 refine bdE hr fun q1 hq1 hr=>?_
 obtain⟨y1,z1⟩:=q1
 refine CB [(0,0)] [] (q3R hq1) ?_
 refine ggE hr fun g1 hr=>?_
 refine OB _ (bAdd g1) ?_
 refine N1 ?_
 refine ssr ?_
 refine N1 ?_
 refine AW.block ?_
 refine q3H 2 1 3 .fz 4 rfl rfl ?_
 refine q0F (.tmp 10 rfl) fun hl1=>?_
 refine bdE hr fun q2 hqq2 hr=>?_
 obtain⟨s2,s3,s1⟩:=q2
 refine q0i hqq2 4 (fun k1 (s2,s3,s1)=>[(0,.pb 0 0),(2,dB a2),(3,dB a3),(8,.pb 1 0),(9,.pb 2 0),(10,dI (1+y1)),(11,dI (k1:Int))]) (fun k1 (s2,s3,s1)=>[(0,.box [.d .fz (.sl 1 (o0.b.map byD)),dI s2,dI s3]),(3,.row .fz 4 (s1.map At_.D))]) (q0g hS 4) (fun k1 sk1 ok1 hr hltk1=>?_) ?_
 obtain⟨s2,s3,s1⟩:=sk1
 refine ssr ?_
 refine N3 ?_
 refine q0z rfl (dT (ltI hltk1)) ?_
 refine q0n ?_
 refine bdE hr fun q3 hqq3 hr=>?_
 obtain⟨s4,s5,s6⟩:=q3
 refine q0s (q0e 5 [(0,.pb 0 0),(2,dB a2),(3,dB a3),(8,.pb 1 0),(9,.pb 2 0),(10,dI (1+y1)),(11,dI (k1:Int))] [(0,.box [.d .fz (.sl 1 (o0.b.map byD)),dI s5,dI s6]),(2,.box [dS a1,.ref 4 none]),(3,.none),(4,.row .fz 4 (s4.map At_.D))] ?_ ?_)
 replace hr:=hqq3
 refine AW.block (q0s (q0q (h:=?_)))
 refine LIR 4 (m:=.fz) (f:=A.D.s) (xs:=[(⟨#[97]⟩:ByteArray),(⟨#[98]⟩:ByteArray),(⟨#[99]⟩:ByteArray),(⟨#[100]⟩:ByteArray)]) ?_
 refine W1 ?_
 refine bdE hr fun x1 hx1 hr=>?_
 refine IE hx1 (Int.natCast_nonneg _) ?_
 refine LP hx1 ?_
 refine W1 ?_
 refine LIR 5 (m:=.fz) (f:=(A.D.i .i64)) (xs:=([1,1,2,2,3,4]:List Int)) ?_
 refine bdE hr fun q4 hq4 hr=>?_
 obtain⟨y2,z2⟩:=q4
 refine CB [(0,0)] [5] (q5V (m:=.bo) hq4) ?_
 refine W1 ?_
 refine LIR 6 (m:=.fz) (f:=(A.D.i .i64)) (xs:=([1,2,2,1,2,3]:List Int)) ?_
 refine bdE hr fun q5 hq5 hr=>?_
 obtain⟨y3,z3⟩:=q5
 refine CB [(0,0)] [6] (q5V (m:=.bo) hq5) ?_
 refine W1 ?_
 refine NV 7 ?_
 refine SB ?_
 refine N0 ?_
 refine ssr ?_
 refine N1 ?_
 refine ifE hr (fun h1 hr=>?_) fun h1 hr=>?_
 refine q0z rfl h1 ?_
 refine q0k ?_
 refine W1 ?_
 refine LIR 8 (m:=.fz) (f:=(A.D.i .i64)) (xs:=([1,1,2,3]:List Int)) ?_
 refine bdE hr fun q6 hq6 hr=>?_
 obtain⟨y4,z4⟩:=q6
 refine CB [(0,0)] [8] (q5V (m:=.bo) hq6) ?_
 refine W1 ?_
 refine SB ?_
 refine N0 ?_
 refine ssr ?_
 refine W1 ?_
 refine bdE hr fun s7 hqq7 hr=>?_
 refine q0a 5 [(0,.pb 0 0),(2,dB a2),(3,dB a3),(8,.pb 1 0),(9,.pb 2 0),(10,dI (1+y1)),(11,dI (k1:Int)),(12,.pb 7 0),(44,dB s7)] ?_ ?_
 replace hr:=hqq7
 refine ifE hr (fun h2 hr=>?_) fun h2 hr=>?_
 refine VT rfl h2 ?_
 refine N4 ?_
 cases hr
 exact z7P
 refine VF rfl (bF h2) ?_
 iterate 3 refine AL.off ?_
 refine N1 ?_
 cases hr
 exact z7P
 refine bdE hr fun s8 hqq8 hr=>?_
 refine q0a 8 [(0,.pb 0 0),(2,dB a2),(3,dB a3),(8,.pb 1 0),(9,.pb 2 0),(10,dI (1+y1)),(11,dI (k1:Int)),(12,.pb 7 0),(52,dB s8)] ?_ ?_
 replace hr:=hqq8
 refine ifE hr (fun h3 hr=>?_) fun h3 hr=>?_
 refine VT rfl h3 ?_
 iterate 6 refine AL.off ?_
 refine N1 ?_
 cases hr
 exact z7P
 refine VF rfl (bF h3) ?_
 refine W1 ?_
 refine bdE hr fun q9 hqq9 hr=>?_
 obtain⟨s9,s10⟩:=q9
 refine q0a 5 [(0,.pb 0 0),(2,dB a2),(3,dB a3),(8,.pb 1 0),(9,.pb 2 0),(10,dI (1+y1)),(11,dI (k1:Int)),(12,.pb 7 0),(45,dB false),(46,dB a3),(47,dB s9),(51,dB s10)] ?_ ?_
 replace hr:=hqq9
 refine ifE hr (fun h4 hr=>?_) fun h4 hr=>?_
 refine VT rfl h4 ?_
 refine N4 ?_
 cases hr
 exact z7P
 refine VF rfl (bF h4) ?_
 iterate 3 refine AL.off ?_
 refine N1 ?_
 cases hr
 exact z7P
 refine N1 ?_
 cases hr
 exact z7P
 refine N0 ?_
 refine ifE hr (fun h5 hr=>?_) fun h5 hr=>?_
 refine q0z rfl h5 ?_
 refine q0k ?_
 refine W1 ?_
 refine SB ?_
 refine N0 ?_
 refine ssr ?_
 refine N3 ?_
 refine ifE hr (fun h6 hr=>?_) fun h6 hr=>?_
 refine q0z rfl (dT h6) ?_
 refine q0k ?_
 refine W1 ?_
 refine SB ?_
 refine N0 ?_
 refine q0k ?_
 refine W3 ?_
 refine LIR 9 (m:=.fz) (f:=At_.D) (xs:=[(⟨x1,2,2,false⟩:At_)]) ?_
 refine ggE hr fun g2 hr=>?_
 refine APf1 (f:=At_.D) 10 (fun _=>rfl) 40 g2 ?_
 refine W1 ?_
 refine SB ?_
 refine N0 ?_
 cases hr
 exact q0l hS [(0,0),(1,1),(2,2),(10,4)] 5
 refine q0A rfl (dF h6) ?_
 refine q0n ?_
 refine q0k ?_
 refine W3 ?_
 refine LIR 9 (m:=.fz) (f:=At_.D) (xs:=[(⟨x1,y4,2,false⟩:At_)]) ?_
 refine ggE hr fun g3 hr=>?_
 refine APf1 (f:=At_.D) 10 (fun _=>rfl) 40 g3 ?_
 refine W1 ?_
 refine SB ?_
 refine N0 ?_
 cases hr
 exact q0l hS [(0,0),(1,1),(2,2),(10,4)] 5
 refine q0A rfl (bF h5) ?_
 refine q0n ?_
 refine ssr ?_
 refine N3 ?_
 refine ifE hr (fun h7 hr=>?_) fun h7 hr=>?_
 refine q0z rfl (dT h7) ?_
 refine q0k ?_
 refine W1 ?_
 refine SB ?_
 refine N0 ?_
 refine q0k ?_
 refine W3 ?_
 refine LIR 9 (m:=.fz) (f:=At_.D) (xs:=[(⟨x1,2,y3,false⟩:At_)]) ?_
 refine ggE hr fun g4 hr=>?_
 refine APf1 (f:=At_.D) 10 (fun _=>rfl) 40 g4 ?_
 refine W1 ?_
 refine SB ?_
 refine N0 ?_
 cases hr
 exact q0l hS [(0,0),(1,1),(2,2),(10,4)] 5
 refine q0A rfl (dF h7) ?_
 refine q0n ?_
 refine q0k ?_
 refine W3 ?_
 refine LIR 9 (m:=.fz) (f:=At_.D) (xs:=[(⟨x1,y4,y3,false⟩:At_)]) ?_
 refine ggE hr fun g5 hr=>?_
 refine APf1 (f:=At_.D) 10 (fun _=>rfl) 40 g5 ?_
 refine W1 ?_
 refine SB ?_
 refine N0 ?_
 cases hr
 exact q0l hS [(0,0),(1,1),(2,2),(10,4)] 5
 refine q0A rfl (bF h1) ?_
 refine q0n ?_
 refine ssr ?_
 refine W1 ?_
 refine bdE hr fun s11 hqq10 hr=>?_
 refine q0a 5 [(0,.pb 0 0),(2,dB a2),(3,dB a3),(8,.pb 1 0),(9,.pb 2 0),(10,dI (1+y1)),(11,dI (k1:Int)),(12,.pb 7 0),(44,dB s11)] ?_ ?_
 replace hr:=hqq10
 refine ifE hr (fun h8 hr=>?_) fun h8 hr=>?_
 refine VT rfl h8 ?_
 refine N4 ?_
 cases hr
 exact z7P
 refine VF rfl (bF h8) ?_
 iterate 3 refine AL.off ?_
 refine N1 ?_
 cases hr
 exact z7P
 refine bdE hr fun s12 hqq11 hr=>?_
 refine q0a 8 [(0,.pb 0 0),(2,dB a2),(3,dB a3),(8,.pb 1 0),(9,.pb 2 0),(10,dI (1+y1)),(11,dI (k1:Int)),(12,.pb 7 0),(52,dB s12)] ?_ ?_
 replace hr:=hqq11
 refine ifE hr (fun h9 hr=>?_) fun h9 hr=>?_
 refine VT rfl h9 ?_
 iterate 6 refine AL.off ?_
 refine N1 ?_
 cases hr
 exact z7P
 refine VF rfl (bF h9) ?_
 refine W1 ?_
 refine bdE hr fun q12 hqq12 hr=>?_
 obtain⟨s13,s14⟩:=q12
 refine q0a 5 [(0,.pb 0 0),(2,dB a2),(3,dB a3),(8,.pb 1 0),(9,.pb 2 0),(10,dI (1+y1)),(11,dI (k1:Int)),(12,.pb 7 0),(45,dB false),(46,dB a3),(47,dB s13),(51,dB s14)] ?_ ?_
 replace hr:=hqq12
 refine ifE hr (fun h10 hr=>?_) fun h10 hr=>?_
 refine VT rfl h10 ?_
 refine N4 ?_
 cases hr
 exact z7P
 refine VF rfl (bF h10) ?_
 iterate 3 refine AL.off ?_
 refine N1 ?_
 cases hr
 exact z7P
 refine N1 ?_
 cases hr
 exact z7P
 refine N0 ?_
 refine ifE hr (fun h11 hr=>?_) fun h11 hr=>?_
 refine q0z rfl h11 ?_
 refine q0k ?_
 refine W1 ?_
 refine SB ?_
 refine N0 ?_
 refine ssr ?_
 refine N3 ?_
 refine ifE hr (fun h12 hr=>?_) fun h12 hr=>?_
 refine q0z rfl (dT h12) ?_
 refine q0k ?_
 refine W1 ?_
 refine SB ?_
 refine N0 ?_
 refine q0k ?_
 refine W3 ?_
 refine LIR 8 (m:=.fz) (f:=At_.D) (xs:=[(⟨x1,2,2,false⟩:At_)]) ?_
 refine ggE hr fun g6 hr=>?_
 refine APf1 (f:=At_.D) 9 (fun _=>rfl) 40 g6 ?_
 refine W1 ?_
 refine SB ?_
 refine N0 ?_
 cases hr
 exact q0l hS [(0,0),(1,1),(2,2),(9,4)] 5
 refine q0A rfl (dF h12) ?_
 refine q0n ?_
 refine q0k ?_
 refine W3 ?_
 refine LIR 8 (m:=.fz) (f:=At_.D) (xs:=[(⟨x1,y2,2,false⟩:At_)]) ?_
 refine ggE hr fun g7 hr=>?_
 refine APf1 (f:=At_.D) 9 (fun _=>rfl) 40 g7 ?_
 refine W1 ?_
 refine SB ?_
 refine N0 ?_
 cases hr
 exact q0l hS [(0,0),(1,1),(2,2),(9,4)] 5
 refine q0A rfl (bF h11) ?_
 refine q0n ?_
 refine ssr ?_
 refine N3 ?_
 refine ifE hr (fun h13 hr=>?_) fun h13 hr=>?_
 refine q0z rfl (dT h13) ?_
 refine q0k ?_
 refine W1 ?_
 refine SB ?_
 refine N0 ?_
 refine q0k ?_
 refine W3 ?_
 refine LIR 8 (m:=.fz) (f:=At_.D) (xs:=[(⟨x1,2,y3,false⟩:At_)]) ?_
 refine ggE hr fun g8 hr=>?_
 refine APf1 (f:=At_.D) 9 (fun _=>rfl) 40 g8 ?_
 refine W1 ?_
 refine SB ?_
 refine N0 ?_
 cases hr
 exact q0l hS [(0,0),(1,1),(2,2),(9,4)] 5
 refine q0A rfl (dF h13) ?_
 refine q0n ?_
 refine q0k ?_
 refine W3 ?_
 refine LIR 8 (m:=.fz) (f:=At_.D) (xs:=[(⟨x1,y2,y3,false⟩:At_)]) ?_
 refine ggE hr fun g9 hr=>?_
 refine APf1 (f:=At_.D) 9 (fun _=>rfl) 40 g9 ?_
 refine W1 ?_
 refine SB ?_
 refine N0 ?_
 cases hr
 exact q0l hS [(0,0),(1,1),(2,2),(9,4)] 5
 refine q0k ?_
 refine W1 ?_
 refine OB _ (z6m (p:=k1) (q:=1) (q6m (ltI hltk1) hl1.2)) ?_
 refine N1 ?_
 cases hr
 exact q0l hS [(0,0),(1,1),(2,2),(4,3)] 4
 refine ssr ?_
 refine N3 ?_
 refine q0A rfl (dF geI) ?_
 refine q1r ?_
 refine sr ?_
 refine W1 ?_
 refine SB ?_
 refine N0 ?_
 refine AW.ret ?_
 cases hr
 exact q0C [(0,0),(3,1)] 2 hS
theorem j2O {a0:Int}{r:ByteArray}(hr:q9D a0=some r):Ok Tryz.prog 76 [dI a0] [] (dS r) []:=by
 refine OE Tryz.func76 fun S hS=>?_
 unfold q9D at hr
 refine J (gn 10)<|ifE hr ?_ ?_<;>intro h1 hr
 exact e
 refine bdE hr fun s1 hqq1 hr=>J (gn 13)<|q0e 0 [(3,dB (decide (a0<0))),(4,dS s1)] [] ?_ ?_
 refine J g<|q0h hqq1 0 (fun (s2,s3)=>[(0,dI s2),(3,dB (decide (a0<0))),(4,dS s3)]) (fun (s2,s3)=>[]) I fun sk1 ok1 hr hik1=>?_
 obtain⟨s2,s3⟩:=sk1
 have hr:=hr
 refine J (gn 6)<|ifE hr ?_ ?_<;>intro h2 hr
 refine J (gn 2) ?_
 cases hr
 cases hik1 _ rfl
 exact q0g hS 0
 refine J g<|J (OB' _ (bRem (b:=10) (by decide)))<|J (gn 8)<|ifE hr ?_ ?_<;>intro h3 hr
 refine ggE hr fun g1 hr=>ggE hr fun g2 hr=>J g ?_
 refine J (CIB' rfl)<|J (LIR' 0 (m:=.fz) (f:=byD) (xs:=([(UInt8.ofNat ((48+(0-(s2.tmod 10))) % 256).toNat)]:List UInt8))) ?_
 refine J (TS' rfl rfl)<|ggE hr fun g3 hr=>J g<|J (OB' _ (j7Z g3))<|ggE hr fun g4 hr=>J g<|J (OB' _ (bQuo (b:=10) (by decide) g4))<|J g<|E
 refine ggE hr fun g5 hr=>J g ?_
 refine J (CIB' rfl)<|J (LIR' 0 (m:=.fz) (f:=byD) (xs:=([(UInt8.ofNat ((48+(s2.tmod 10)) % 256).toNat)]:List UInt8))) ?_
 refine J (TS' rfl rfl)<|ggE hr fun g6 hr=>J g<|J (OB' _ (j7Z g6))<|ggE hr fun g7 hr=>J g<|J (OB' _ (bQuo (b:=10) (by decide) g7))<|J g<|E
 refine J (gn 5)<|ifE hr ?_ ?_<;>intro h4 hr
 refine ggE hr fun g8 hr=>J g<|J (OB' _ (j7Z g8))<|e
 exact e
theorem q7M {m:Md}{a1:(List ByteArray)}{o0:l1Cur}{r:(ByteArray×l1Cur)}(hr:q6R a1 o0=some r):Ok Tryz.prog 73 [.pb 0 0,.d m (.sl 1 (a1.map A.D.s))] [.box [.d .fz (.sl 1 (o0.b.map byD)),dI o0.i,dI o0.h]] (dS r.1) [.box [.d .fz (.sl 1 (o0.b.map byD)),dI r.2.i,dI r.2.h]]:=by
 refine OE Tryz.func73 fun S hS=>?_
 unfold q6R at hr
 refine bdP hr fun y1 z1 hq1 hr=>J g<|J (CB' [(0,0)] [] (q3R hq1))<|ggE hr fun g1 hr=>bdE hr fun x1 hx1 hr=>e
theorem q5E {a0:Int}{a1:Int}{a2:Int}{r:Bool}(hr:q5v a0 a1 a2=some r):Ok Tryz.prog 101 [dI a0,dI a1,dI a2] [] (dB r) []:=by
 refine OE Tryz.func101 fun S hS=>?_
 unfold q5v at hr
 refine J (gn 9)<|ifE hr ?_ ?_<;>intro h1 hr
 exact e
 exact e
theorem q7R {m:Md}{a0:Rule}{a1:Int}{r:ByteArray}(hr:q5w a0 a1=some r):Ok Tryz.prog 135 [Rule.x m a0,dI a1] [] (dS r) []:=by
 refine OE Tryz.func135 fun S hS=>?_
 unfold q5w at hr
 refine J g<|J (BX' 0)<|J (gn 8)<|ifE hr ?_ ?_<;>intro h1 hr
 exact e
 refine bdE hr fun y1 hy1 hr=>J g<|J (CB' [] [] (q5E hy1))<|J (gn 2)<|ifE hr ?_ ?_<;>intro h2 hr
 refine ggE hr fun g1 hr=>ggE hr fun g2 hr=>bdE hr fun x1 hx1 hr=>e
 exact e
theorem j2P {m:Md}{a0:Symbol}{r:Symbol}(hr:q8E a0=some r):Ok Tryz.prog 158 [Symbol.x m a0] [] (.ag [dS r.Name,.ref 0 none]) [.row .fz 4 (r.Attributes.map At_.D)]:=by
 refine OE Tryz.func158 fun S hS=>?_
 unfold q8E at hr
 refine J g<|J (BX' 0)<|J (NV' 1)<|J g<|J (L0' 2 At_.D)<|ggE hr fun g1 hr=>J g<|J (j2K (f:=At_.D) 3 40 (fun _=>rfl) g1)<|e
theorem q6K {m:Md}{a0:Gm_}{a1:ByteArray}{r:(Symbol×Bool)}(hr:q5h a0 a1=some r):Ok Tryz.prog 102 [Gm_.y m a0,dS a1] [] (.tu [.ag [dS r.1.Name,.ref 0 none],dB r.2]) [.row .fz 4 (r.1.Attributes.map At_.D)]:=by
 refine OE Tryz.func102 fun S hS=>?_
 unfold q5h at hr
 refine J g<|J (BX' 0)<|J (NV' 1)<|J (gn 8)<|J (lenA 0 0)<|fun hl1=>bdE hr fun q1 hqq1 hr=>q0b hqq1 hl1 2 (fun k1 _=>[(1,dS a1),(2,.pb 0 0),(4,.pb 1 0),(6,dI (k1:Int))]) (fun k1 _=>[]) I (fun k1 xk1 sk1 ok1 hxk1 hr hltk1 hik1=>?_) fun k1 sk1 ek1 hltk1=>?_
 refine J (gn 24)<|ifE hr ?_ ?_<;>intro h1 hr
 refine bdE hr fun y1 hy1 hr=>J g<|J (CB' [(0,2)] [] (j2P (m:=m) hy1))<|e
 exact e
 subst ek1
 refine J (gn 18) ?_
 refine J (q0c (q0j (q:=1) (c:=1) (r:=2) .fz 4 rfl rfl rfl))<|J g<|E
theorem q7Z {m:Md}{a0:Gm_}{a1:Rule}{r:(List Oc)}(hr:q5g a0 a1=some r):Ok Tryz.prog 134 [Gm_.y m a0,Rule.x m a1] [] (.ref 0 none) [.row .fz 2 (r.map Oc.D)]:=by
 refine OE Tryz.func134 fun S hS=>?_
 unfold q5g at hr
 refine J g<|J (BX' 0)<|J (BX' 1)<|J g<|J (L0' 2 Oc.D)<|bdE hr fun s1 hqq1 hr=>J (gn 7)<|q0e 3 [(5,.ref 2 none)] [(2,.row .fz 2 (s1.map Oc.D))] ?_ ?_
 refine J g<|q0h hqq1 3 (fun (s2,s3)=>[(2,.pb 0 0),(3,.pb 1 0),(5,.ref 2 none),(6,dI s3)]) (fun (s2,s3)=>[(2,.row .fz 2 (s2.map Oc.D))]) I fun sk1 ok1 hr hik1=>?_
 obtain⟨s2,s3⟩:=sk1
 have hr:=hr
 refine J (gn 9)<|ifE hr ?_ ?_<;>intro h1 hr
 refine bdE hr fun s4 hqq2 hr=>J (gn 3)<|q0e 3 [(2,.pb 0 0),(3,.pb 1 0),(5,.ref 2 none),(6,dI s3)] [(2,.row .fz 2 (s4.map Oc.D))] ?_ ?_
 replace hr:=hqq2
 refine bdE hr fun y1 hy1 hr=>J g<|J (CB' [] [] (q7R (m:=m) hy1))<|bdP hr fun y2 y3 hq3 hr=>J (CB' [(0,3)] [] (q6K (m:=m) hq3))<|J g<|J (NV' 4)<|J (gn 13)<|ifE hr ?_ ?_<;>intro h2 hr
 refine J (gn 9)<|J (lenR 3)<|fun hl2=>bdE hr fun s5 hqq4 hr=>q0d hqq4 hl2 5 (fun k2 s5=>[(2,.pb 0 0),(3,.pb 1 0),(5,.ref 2 none),(6,dI s3),(7,.pb 4 0),(9,dI 2),(10,dI (k2:Int))]) (fun k2 s5=>[(2,.row .fz 2 (s5.map Oc.D))]) I (fun k2 xk2 sk2 ok2 hxk2 hr hltk2=>?_) fun k2 hltk2=>?_
 obtain⟨s5,rfl⟩:∃ y,y=sk2:=⟨_,rfl⟩
 refine bdE hr fun s6 hqq5 hr=>J (gn 12)<|q0e 5 [(2,.pb 0 0),(3,.pb 1 0),(5,.ref 2 none),(6,dI s3),(7,.pb 4 0),(9,dI 2),(10,dI (k2:Int))] [(2,.row .fz 2 (s6.map Oc.D))] ?_ ?_
 replace hr:=hqq5
 refine J (gn 12)<|ifE hr ?_ ?_<;>intro h3 hr
 refine J g<|J (LIR' 5 (m:=.fz) (f:=Oc.D) (xs:=[(⟨s3,xk2.Name⟩:Oc)]))<|ggE hr fun g1 hr=>J (z0F (f:=Oc.D) 6 (fun _=>rfl) 24 g1)<|e
 exact e
 exact e
 exact e
 refine J (gn 7)<|J (lenR 3)<|fun hl3=>bdE hr fun s7 hqq6 hr=>q0d hqq6 hl3 5 (fun k3 s7=>[(2,.pb 0 0),(3,.pb 1 0),(5,.ref 2 none),(6,dI s3),(7,.pb 4 0),(9,dI 1),(10,dI (k3:Int))]) (fun k3 s7=>[(2,.row .fz 2 (s7.map Oc.D))]) I (fun k3 xk3 sk3 ok3 hxk3 hr hltk3=>?_) fun k3 hltk3=>?_
 obtain⟨s7,rfl⟩:∃ y,y=sk3:=⟨_,rfl⟩
 refine bdE hr fun s8 hqq7 hr=>J (gn 12)<|q0e 5 [(2,.pb 0 0),(3,.pb 1 0),(5,.ref 2 none),(6,dI s3),(7,.pb 4 0),(9,dI 1),(10,dI (k3:Int))] [(2,.row .fz 2 (s8.map Oc.D))] ?_ ?_
 replace hr:=hqq7
 refine J (gn 12)<|ifE hr ?_ ?_<;>intro h4 hr
 refine J g<|J (LIR' 5 (m:=.fz) (f:=Oc.D) (xs:=[(⟨s3,xk3.Name⟩:Oc)]))<|ggE hr fun g2 hr=>J (z0F (f:=Oc.D) 6 (fun _=>rfl) 24 g2)<|e
 exact e
 exact e
 exact e
 refine ggE hr fun g3 hr=>e
 refine J (gn 2) ?_
 cases hr
 cases hik1 _ rfl
 exact GH.trans (q0E (q:=0) [.d m (.sl 2 (a0.Symbols.map Symbol.D)),.u] (.cons .rfl (.cons .u .nil)) rfl) (q0g hS 3)
 exact e
theorem q8T {m:Md}{a0:Symbol}{a1:ByteArray}{r:(At_×Bool)}(hr:q5B a0 a1=some r):Ok Tryz.prog 136 [Symbol.x m a0,dS a1] [] (.tu [At_.x .fz r.1,dB r.2]) []:=by
 refine OE Tryz.func136 fun S hS=>?_
 unfold q5B at hr
 refine J g<|J (BX' 0)<|J (NV' 1)<|J (gn 8)<|J (lenA 1 0)<|fun hl1=>bdE hr fun q1 hqq1 hr=>q0b hqq1 hl1 2 (fun k1 _=>[(1,dS a1),(2,.pb 0 0),(4,.pb 1 0),(6,dI (k1:Int))]) (fun k1 _=>[]) I (fun k1 xk1 sk1 ok1 hxk1 hr hltk1 hik1=>?_) fun k1 sk1 ek1 hltk1=>?_
 refine J (gn 24)<|ifE hr ?_ ?_<;>intro h1 hr
 exact e
 exact e
 subst ek1
 exact e
theorem z3E {m:Md}{a0:Gm_}{a1:Rule}{a2:Int}{r:(List Oc)}(hr:z1g a0 a1 a2=some r):Ok Tryz.prog 139 [Gm_.y m a0,Rule.x m a1,dI a2] [] (.ref 0 none) [.row .fz 2 (r.map Oc.D)]:=by
 refine OE Tryz.func139 fun S hS=>?_
 unfold z1g at hr
 refine J g<|J (BX' 0)<|J (BX' 1)<|J g<|J (L0' 2 Oc.D)<|bdE hr fun s1 hqq1 hr=>J (gn 7)<|q0e 3 [(7,.ref 2 none)] [(2,.row .fz 2 (s1.map Oc.D))] ?_ ?_
 refine J g<|q0h hqq1 3 (fun (s2,s3)=>[(2,dI a2),(3,.pb 0 0),(4,.pb 1 0),(7,.ref 2 none),(8,dI s3)]) (fun (s2,s3)=>[(2,.row .fz 2 (s2.map Oc.D))]) I fun sk1 ok1 hr hik1=>?_
 obtain⟨s2,s3⟩:=sk1
 have hr:=hr
 refine J (gn 9)<|ifE hr ?_ ?_<;>intro h1 hr
 refine bdE hr fun y1 hy1 hr=>J g<|J (CB' [] [] (q7R (m:=m) hy1))<|bdP hr fun y2 y3 hq2 hr=>J (CB' [(0,3)] [] (q6K (m:=m) hq2))<|J g<|J (NV' 4)<|J (gn 8)<|J (lenR 3)<|fun hl2=>bdE hr fun s4 hqq3 hr=>q0d hqq3 hl2 5 (fun k2 s4=>[(2,dI a2),(3,.pb 0 0),(4,.pb 1 0),(7,.ref 2 none),(8,dI s3),(9,.pb 4 0),(11,dI (k2:Int))]) (fun k2 s4=>[(2,.row .fz 2 (s4.map Oc.D))]) I (fun k2 xk2 sk2 ok2 hxk2 hr hltk2=>?_) fun k2 hltk2=>?_
 obtain⟨s4,rfl⟩:∃ y,y=sk2:=⟨_,rfl⟩
 refine bdE hr fun s5 hqq4 hr=>J (gn 12)<|q0e 5 [(2,dI a2),(3,.pb 0 0),(4,.pb 1 0),(7,.ref 2 none),(8,dI s3),(9,.pb 4 0),(11,dI (k2:Int))] [(2,.row .fz 2 (s5.map Oc.D))] ?_ ?_
 replace hr:=hqq4
 refine J g<|J (NV' 5)<|bdE hr fun s6 hqq5 hr=>J (gn 6)<|q0a 5 [(2,dI a2),(3,.pb 0 0),(4,.pb 1 0),(7,.ref 2 none),(8,dI s3),(9,.pb 4 0),(11,dI (k2:Int)),(12,.pb 5 0),(48,dB s6)] ?_ ?_
 replace hr:=hqq5
 refine ifE hr ?_ ?_<;>intro h2 hr
 exact e
 exact e
 refine bdE hr fun s7 hqq6 hr=>q0a 9 [(2,dI a2),(3,.pb 0 0),(4,.pb 1 0),(7,.ref 2 none),(8,dI s3),(9,.pb 4 0),(11,dI (k2:Int)),(12,.pb 5 0),(57,dB s7)] ?_ ?_
 replace hr:=hqq6
 refine ifE hr ?_ ?_<;>intro h3 hr
 exact e
 refine bdP hr fun s8 s9 hqq7 hr=>J (gn 3)<|q0a 5 [(2,dI a2),(3,.pb 0 0),(4,.pb 1 0),(7,.ref 2 none),(8,dI s3),(9,.pb 4 0),(11,dI (k2:Int)),(12,.pb 5 0),(49,dB false),(50,dI s3),(51,dB (decide (0<s3))),(52,dB s8),(56,dB s9)] ?_ ?_
 replace hr:=hqq7
 refine ifE hr ?_ ?_<;>intro h4 hr
 exact e
 exact e
 exact e
 refine bdE hr fun s10 hqq8 hr=>J (gn 8)<|q0a 3 [(2,dI a2),(3,.pb 0 0),(4,.pb 1 0),(7,.ref 2 none),(8,dI s3),(9,.pb 4 0),(11,dI (k2:Int)),(12,.pb 5 0),(64,dB s10)] ?_ ?_
 replace hr:=hqq8
 refine ifE hr ?_ ?_<;>intro h5 hr
 exact e
 exact e
 refine J (gn 1)<|ifE hr ?_ ?_<;>intro h6 hr
 refine J g<|J (LIR' 6 (m:=.fz) (f:=Oc.D) (xs:=[(⟨s3,xk2.Name⟩:Oc)]))<|ggE hr fun g1 hr=>J (z0F (f:=Oc.D) 7 (fun _=>rfl) 24 g1)<|e
 exact e
 exact e
 refine ggE hr fun g2 hr=>e
 refine J (gn 2) ?_
 cases hr
 cases hik1 _ rfl
 exact GH.trans (q0E (q:=0) [.d m (.sl 2 (a0.Symbols.map Symbol.D)),.u] (.cons .rfl (.cons .u .nil)) rfl) (q0g hS 3)
 exact e
theorem q9A {a0:Int}{a1:Int}{r:Expr}(hr:q7h a0 a1=some r):Ok Tryz.prog 178 [dI a0,dI a1] [] (.ag [dI r.Kind,dI r.N,dI r.Pos,dI r.Type_,dS r.Symbol,dS r.Name,.ref 0 none]) [.row .fz 7 (r.Args.map Expr.D)]:=by
 refine OE Tryz.func178 fun S hS=>?_
 unfold q7h at hr
 refine J g<|J (NV' 0)<|J (gn 9) ?_
 refine J (q0c (q0j (q:=0) (c:=6) (r:=1) .fz 7 rfl rfl rfl))<|J g<|E
theorem q8U {m:Md}{a1:Int}{a2:(List Oc)}{o0:l1Cur}{r:(Expr×l1Cur)}(hr:q7p a1 a2 o0=some r):Ok Tryz.prog 138 [.pb 0 0,dI a1,.d m (.sl 2 (a2.map Oc.D))] [.box [.d .fz (.sl 1 (o0.b.map byD)),dI o0.i,dI o0.h]] (.ag [dI r.1.Kind,dI r.1.N,dI r.1.Pos,dI r.1.Type_,dS r.1.Symbol,dS r.1.Name,.ref 1 none]) [.box [.d .fz (.sl 1 (o0.b.map byD)),dI r.2.i,dI r.2.h],.row .fz 7 (r.1.Args.map Expr.D)]:=by
 refine OE Tryz.func138 fun S hS=>?_
 unfold q7p at hr
 refine J g<|J (NV' 1)<|J (gn 7)<|ifE hr ?_ ?_<;>intro h1 hr
 refine bdP hr fun y1 z1 hq1 hr=>J g<|J (CB' [(0,0)] [] (q5m hq1))<|J (gn 3)<|ifE hr ?_ ?_<;>intro h2 hr
 refine J (gn 13)<|ifE hr ?_ ?_<;>intro h3 hr
 refine bdP hr fun y2 z2 hq2 hr=>J g<|J (CB' [(0,0)] [] (q5m hq2))<|J (gn 1)<|ifE hr ?_ ?_<;>intro h4 hr
 refine J (gn 7) ?_
 refine J (q0c (q0j (q:=1) (c:=6) (r:=2) .fz 7 rfl rfl rfl))<|J g<|E
 refine J (gn 8) ?_
 refine J (q0c (q0j (q:=1) (c:=6) (r:=2) .fz 7 rfl rfl rfl))<|J g<|E
 refine J (gn 6)<|ifE hr ?_ ?_<;>intro h5 hr
 refine bdP hr fun y3 z3 hq3 hr=>J g<|J (CB' [(0,0)] [] (q3R hq3))<|bdE hr fun y4 hy4 hr=>J g<|J (CB' [(0,2)] [] (q9A hy4))<|e
 refine J (gn 6)<|ifE hr ?_ ?_<;>intro h6 hr
 refine bdP hr fun y5 z4 hq4 hr=>J g<|J (CB' [(0,0)] [] (q3R hq4))<|ggE hr fun g1 hr=>?_
 refine J (CIU' g1 rfl)<|ggE hr fun g2 hr=>J (OB' _ (j7Y g2))<|bdE hr fun y6 hy6 hr=>J g<|J (CB' [(0,2)] [] (q9A hy6))<|J g<|E
 refine bdP hr fun y7 z5 hq5 hr=>J g<|J (CB' [(0,0)] [] (q3R hq5))<|bdE hr fun y8 hy8 hr=>J (CB' [(0,2)] [] (q9A hy8))<|e
 refine bdP hr fun y9 z6 hq6 hr=>J g<|J (CB' [(0,0)] [] (q3R hq6))<|ggE hr fun g3 hr=>bdE hr fun x1 hx1 hr=>J g<|J (NV' 2)<|J (gn 12) ?_
 refine J (q0c (q0j (q:=1) (c:=6) (r:=3) .fz 7 rfl rfl rfl))<|J g<|E
 refine J (gn 19)<|ifE hr ?_ ?_<;>intro h7 hr
 refine bdP hr fun y10 z7 hq7 hr=>J g<|J (CB' [(0,0)] [] (q5m hq7))<|J (gn 1)<|ifE hr ?_ ?_<;>intro h8 hr
 refine J (gn 7) ?_
 refine J (q0c (q0j (q:=1) (c:=6) (r:=2) .fz 7 rfl rfl rfl))<|J g<|E
 refine J (gn 8) ?_
 refine J (q0c (q0j (q:=1) (c:=6) (r:=2) .fz 7 rfl rfl rfl))<|J g<|E
 refine J (gn 6)<|ifE hr ?_ ?_<;>intro h9 hr
 refine bdP hr fun y11 z8 hq8 hr=>J g<|J (CB' [(0,0)] [] (q3R hq8))<|bdE hr fun y12 hy12 hr=>J g<|J (CB' [(0,2)] [] (q9A hy12))<|e
 refine J (gn 6)<|ifE hr ?_ ?_<;>intro h10 hr
 refine bdP hr fun y13 z9 hq9 hr=>J g<|J (CB' [(0,0)] [] (q3R hq9))<|ggE hr fun g4 hr=>?_
 refine J (CIU' g4 rfl)<|ggE hr fun g5 hr=>J (OB' _ (j7Y g5))<|bdE hr fun y14 hy14 hr=>J g<|J (CB' [(0,2)] [] (q9A hy14))<|J g<|E
 refine bdP hr fun y15 z10 hq10 hr=>J g<|J (CB' [(0,0)] [] (q3R hq10))<|bdE hr fun y16 hy16 hr=>J (CB' [(0,2)] [] (q9A hy16))<|e
theorem q6w {a0:Int}{r:(Int×Int×Int)}(hr:q4S a0=some r):Ok Tryz.prog 183 [dI a0] [] (.tu [dI r.1,dI r.2.1,dI r.2.2]) []:=by
 refine OE Tryz.func183 fun S hS=>?_
 unfold q4S at hr
 refine bdE hr fun y1 hy1 hr=>J g<|J (CB' [] [] (q5E hy1))<|J (gn 2)<|ifE hr ?_ ?_<;>intro h1 hr
 exact e
 refine bdE hr fun y2 hy2 hr=>J g<|J (CB' [] [] (q5E hy2))<|J (gn 2)<|ifE hr ?_ ?_<;>intro h2 hr
 exact e
 refine J (gn 5)<|ifE hr ?_ ?_<;>intro h3 hr
 exact e
 refine J (gn 6)<|ifE hr ?_ ?_<;>intro h4 hr
 exact e
 refine J (gn 7)<|ifE hr ?_ ?_<;>intro h5 hr
 exact e
 refine J (gn 7)<|ifE hr ?_ ?_<;>intro h6 hr
 exact e
 exact e
theorem z2R {m:Md}{a0:Int}{a1:Expr}{a2:Expr}{r:Expr}(hr:z2f a0 a1 a2=some r):Ok Tryz.prog 179 [dI a0,Expr.x m a1,Expr.x m a2] [] (.ag [dI r.Kind,dI r.N,dI r.Pos,dI r.Type_,dS r.Symbol,dS r.Name,.ref 0 none]) [.row m 7 (r.Args.map Expr.D)]:=by
 refine OE Tryz.func179 fun S hS=>?_
 unfold z2f at hr
 refine J g<|J (BX' 0)<|J (BX' 1)<|J (NV' 2)<|J g ?_
 refine J (j8a 3 (m:=m) (f:=Expr.D) [a1,a2] (by simp only[List.map_cons,List.map_nil,Expr.D_eq];rfl))<|J g<|E
theorem j4t {Rc0:Gm_→Rule→Int→Int→Bool→l1Cur→Option (Expr×l1Cur)}(Ic0:∀ {m:Md} {a1:Gm_} {a2:Rule} {a3:Int} {a4:Int} {a5:Bool} {o0:l1Cur} {r:(Expr×l1Cur)},Rc0 a1 a2 a3 a4 a5 o0=some r→Ok Tryz.prog 137 [.pb 0 0,Gm_.y m a1,Rule.x m a2,dI a3,dI a4,dB a5] [.box [.d .fz (.sl 1 (o0.b.map byD)),dI o0.i,dI o0.h]] (.ag [dI r.1.Kind,dI r.1.N,dI r.1.Pos,dI r.1.Type_,dS r.1.Symbol,dS r.1.Name,.ref 1 none]) [.box [.d .fz (.sl 1 (o0.b.map byD)),dI r.2.i,dI r.2.h],.row .fz 7 (r.1.Args.map Expr.D)]){m:Md}{a1:Gm_}{a2:Rule}{a3:Int}{a4:Int}{a5:Bool}{o0:l1Cur}{r:(Expr×l1Cur)}(hr:q6L Rc0 a1 a2 a3 a4 a5 o0=some r):Ok Tryz.prog 137 [.pb 0 0,Gm_.y m a1,Rule.x m a2,dI a3,dI a4,dB a5] [.box [.d .fz (.sl 1 (o0.b.map byD)),dI o0.i,dI o0.h]] (.ag [dI r.1.Kind,dI r.1.N,dI r.1.Pos,dI r.1.Type_,dS r.1.Symbol,dS r.1.Name,.ref 1 none]) [.box [.d .fz (.sl 1 (o0.b.map byD)),dI r.2.i,dI r.2.h],.row .fz 7 (r.1.Args.map Expr.D)]:=by
 refine OE Tryz.func137 fun S hS=>?_
 unfold q6L at hr
 refine J g<|J (BX' 1)<|J (BX' 2)<|J (NV' 3)<|bdT hr fun s4 s5 s6 hqq1 hr=>J (gn 6)<|q0v 4 4 [(0,.pb 0 0),(3,dI a3),(4,dI a4),(5,dB a5),(7,.pb 1 0),(8,.pb 2 0),(12,.pb 3 0),(24,dB s4)] [(0,.box [.d .fz (.sl 1 (o0.b.map byD)),dI s5,dI s6])] ?_ ?_
 replace hr:=hqq1
 refine ifE hr ?_ ?_<;>intro h1 hr
 exact e
 refine bdP hr fun y1 z1 hq2 hr=>J g<|J (CB' [(0,0)] [] (q5m hq2))<|e
 refine J (gn 1)<|ifE hr ?_ ?_<;>intro h2 hr
 refine bdE hr fun s7 hqq3 hr=>J (gn 6)<|q0a 4 [(0,.pb 0 0),(3,dI a3),(7,.pb 1 0),(8,.pb 2 0),(12,.pb 3 0),(30,dB s7)] ?_ ?_
 replace hr:=hqq3
 refine ifE hr ?_ ?_<;>intro h3 hr
 exact e
 exact e
 refine bdT hr fun s11 s12 s13 hqq4 hr=>q0v 4 4 [(0,.pb 0 0),(3,dI a3),(7,.pb 1 0),(8,.pb 2 0),(12,.pb 3 0),(34,dB s11)] [(0,.box [.d .fz (.sl 1 (o0.b.map byD)),dI s12,dI s13])] ?_ ?_
 replace hr:=hqq4
 refine ifE hr ?_ ?_<;>intro h4 hr
 refine bdP hr fun y2 z2 hq5 hr=>J g<|J (CB' [(0,0)] [] (q5m hq5))<|e
 exact e
 refine J (gn 1)<|ifE hr ?_ ?_<;>intro h5 hr
 refine J (gn 7) ?_
 refine J (q0c (q0j (q:=3) (c:=6) (r:=4) .fz 7 rfl rfl rfl))<|J g<|E
 refine bdE hr fun y3 hy3 hr=>J g<|J (CB' [(0,4)] [] (z3E (m:=m) hy3))<|bdP hr fun y4 z3 hq6 hr=>J (CB' [(0,0),(1,5)] [4] (q8U (m:=.bo) hq6))<|e
 refine bdT hr fun s17 s18 s19 hqq7 hr=>J (gn 6)<|q0v 4 4 [(0,.pb 0 0),(3,dI a3),(4,dI a4),(5,dB a5),(7,.pb 1 0),(8,.pb 2 0),(12,.pb 3 0),(47,dB s17)] [(0,.box [.d .fz (.sl 1 (o0.b.map byD)),dI s18,dI s19])] ?_ ?_
 replace hr:=hqq7
 refine ifE hr ?_ ?_<;>intro h6 hr
 refine bdP hr fun y5 z4 hq8 hr=>J g<|J (CB' [(0,0)] [] (q5m hq8))<|e
 exact e
 refine J (gn 1)<|ifE hr ?_ ?_<;>intro h7 hr
 refine bdP hr fun y6 z5 hq9 hr=>J g<|J (CB' [(0,0)] [] (q3R hq9))<|ggE hr fun g1 hr=>bdE hr fun x1 hx1 hr=>J g<|J (NV' 4)<|bdP hr fun y7 z6 hq10 hr=>J g<|J (CB' [(0,0)] [] (q3R hq10))<|ggE hr fun g2 hr=>bdE hr fun x2 hx2 hr=>J g<|J (NV' 5)<|J (gn 9)<|ifE hr ?_ ?_<;>intro h8 hr
 refine bdE hr fun y8 hy8 hr=>J g<|J (CB' [(0,6)] [] (z3E (m:=m) hy8))<|bdP hr fun y9 z7 hq11 hr=>J (CBz' 7 [(0,0),(1,7)] [6] (q8U (m:=.bo) hq11)) ?_
 refine J (j4k 8 (m:=.fz) (f:=Expr.D) [y9] (by simp only[List.map_cons,List.map_nil,Expr.D_eq];rfl))<|J g<|E
 refine bdP hr fun y10 z8 hq12 hr=>J g<|J (CB' [(0,0)] [] (q5m hq12))<|J (gn 1)<|ifE hr ?_ ?_<;>intro h9 hr
 refine ggE hr fun g3 hr=>bdP hr fun y11 z9 hq13 hr=>J g<|J (CBz' 6 [(0,0),(1,6)] [] (Ic0 (m:=m) hq13))<|ggE hr fun g4 hr=>bdP hr fun y12 z10 hq14 hr=>J g<|J (CBz' 7 [(0,0),(1,7)] [] (Ic0 (m:=m) hq14))<|ggE hr fun g5 hr=>bdP hr fun y13 z11 hq15 hr=>J g<|J (CBz' 8 [(0,0),(1,8)] [] (Ic0 (m:=m) hq15)) ?_
 refine J (j4k 9 (m:=.fz) (f:=Expr.D) [y11,y12,y13] (by simp only[List.map_cons,List.map_nil,Expr.D_eq];rfl))<|J g<|E
 refine J (gn 17)<|ifE hr ?_ ?_<;>intro h10 hr
 refine bdE hr fun y14 hy14 hr=>J g<|J (CB' [(0,6)] [] (z3E (m:=m) hy14))<|bdP hr fun y15 z12 hq16 hr=>J (CB' [(0,0),(1,7)] [6] (q8U (m:=.bo) hq16))<|e
 refine J (gn 6)<|ifE hr ?_ ?_<;>intro h11 hr
 refine J g<|J (LIR' 6 (m:=.fz) (f:=(A.D.i .i64)) (xs:=([1,1,2,3,4,5]:List Int)))<|bdP hr fun y16 z13 hq17 hr=>J (CB' [(0,0)] [6] (q5V (m:=.bo) hq17))<|bdT hr fun y17 y18 y19 hq18 hr=>J g<|J (CB' [] [] (q6w hq18))<|ggE hr fun g6 hr=>bdP hr fun y20 z14 hq19 hr=>J g<|J (CBz' 7 [(0,0),(1,7)] [] (Ic0 (m:=m) hq19))<|ggE hr fun g7 hr=>bdP hr fun y21 z15 hq20 hr=>J g<|J (CBz' 8 [(0,0),(1,8)] [] (Ic0 (m:=m) hq20))<|bdE hr fun y22 hy22 hr=>J (CB' [(0,9)] [] (z2R (m:=.fz) hy22))<|e
 refine J (gn 6)<|ifE hr ?_ ?_<;>intro h12 hr
 refine J g<|J (LIR' 6 (m:=.fz) (f:=(A.D.i .i64)) (xs:=([6,6,7,8,12]:List Int)))<|bdP hr fun y23 z16 hq21 hr=>J (CB' [(0,0)] [6] (q5V (m:=.bo) hq21))<|bdT hr fun y24 y25 y26 hq22 hr=>J g<|J (CB' [] [] (q6w hq22))<|ggE hr fun g8 hr=>bdP hr fun y27 z17 hq23 hr=>J g<|J (CBz' 7 [(0,0),(1,7)] [] (Ic0 (m:=m) hq23))<|ggE hr fun g9 hr=>bdP hr fun y28 z18 hq24 hr=>J g<|J (CBz' 8 [(0,0),(1,8)] [] (Ic0 (m:=m) hq24))<|bdE hr fun y29 hy29 hr=>J (CB' [(0,9)] [] (z2R (m:=.fz) hy29))<|e
 refine J g<|J (LIR' 6 (m:=.fz) (f:=(A.D.i .i64)) (xs:=([9,10,11]:List Int)))<|bdP hr fun y30 z19 hq25 hr=>J (CB' [(0,0)] [6] (q5V (m:=.bo) hq25))<|bdT hr fun y31 y32 y33 hq26 hr=>J g<|J (CB' [] [] (q6w hq26))<|ggE hr fun g10 hr=>bdP hr fun y34 z20 hq27 hr=>J g<|J (CBz' 7 [(0,0),(1,7)] [] (Ic0 (m:=m) hq27))<|ggE hr fun g11 hr=>bdP hr fun y35 z21 hq28 hr=>J g<|J (CBz' 8 [(0,0),(1,8)] [] (Ic0 (m:=m) hq28))<|bdE hr fun y36 hy36 hr=>J (CB' [(0,9)] [] (z2R (m:=.fz) hy36))<|e
 refine bdP hr fun y37 z22 hq29 hr=>J g<|J (CB' [(0,0)] [] (q5m hq29))<|J (gn 1)<|ifE hr ?_ ?_<;>intro h13 hr
 refine ggE hr fun g12 hr=>bdP hr fun y38 z23 hq30 hr=>J g<|J (CBz' 4 [(0,0),(1,4)] [] (Ic0 (m:=m) hq30))<|ggE hr fun g13 hr=>bdP hr fun y39 z24 hq31 hr=>J g<|J (CBz' 5 [(0,0),(1,5)] [] (Ic0 (m:=m) hq31))<|ggE hr fun g14 hr=>bdP hr fun y40 z25 hq32 hr=>J g<|J (CBz' 6 [(0,0),(1,6)] [] (Ic0 (m:=m) hq32)) ?_
 refine J (j4k 7 (m:=.fz) (f:=Expr.D) [y38,y39,y40] (by simp only[List.map_cons,List.map_nil,Expr.D_eq];rfl))<|J g<|E
 refine J (gn 17)<|ifE hr ?_ ?_<;>intro h14 hr
 refine bdE hr fun y41 hy41 hr=>J g<|J (CB' [(0,4)] [] (z3E (m:=m) hy41))<|bdP hr fun y42 z26 hq33 hr=>J (CB' [(0,0),(1,5)] [4] (q8U (m:=.bo) hq33))<|e
 refine J (gn 6)<|ifE hr ?_ ?_<;>intro h15 hr
 refine J g<|J (LIR' 4 (m:=.fz) (f:=(A.D.i .i64)) (xs:=([1,1,2,3,4,5]:List Int)))<|bdP hr fun y43 z27 hq34 hr=>J (CB' [(0,0)] [4] (q5V (m:=.bo) hq34))<|bdT hr fun y44 y45 y46 hq35 hr=>J g<|J (CB' [] [] (q6w hq35))<|ggE hr fun g15 hr=>bdP hr fun y47 z28 hq36 hr=>J g<|J (CBz' 5 [(0,0),(1,5)] [] (Ic0 (m:=m) hq36))<|ggE hr fun g16 hr=>bdP hr fun y48 z29 hq37 hr=>J g<|J (CBz' 6 [(0,0),(1,6)] [] (Ic0 (m:=m) hq37))<|bdE hr fun y49 hy49 hr=>J (CB' [(0,7)] [] (z2R (m:=.fz) hy49))<|e
 refine J (gn 6)<|ifE hr ?_ ?_<;>intro h16 hr
 refine J g<|J (LIR' 4 (m:=.fz) (f:=(A.D.i .i64)) (xs:=([6,6,7,8,12]:List Int)))<|bdP hr fun y50 z30 hq38 hr=>J (CB' [(0,0)] [4] (q5V (m:=.bo) hq38))<|bdT hr fun y51 y52 y53 hq39 hr=>J g<|J (CB' [] [] (q6w hq39))<|ggE hr fun g17 hr=>bdP hr fun y54 z31 hq40 hr=>J g<|J (CBz' 5 [(0,0),(1,5)] [] (Ic0 (m:=m) hq40))<|ggE hr fun g18 hr=>bdP hr fun y55 z32 hq41 hr=>J g<|J (CBz' 6 [(0,0),(1,6)] [] (Ic0 (m:=m) hq41))<|bdE hr fun y56 hy56 hr=>J (CB' [(0,7)] [] (z2R (m:=.fz) hy56))<|e
 refine J g<|J (LIR' 4 (m:=.fz) (f:=(A.D.i .i64)) (xs:=([9,10,11]:List Int)))<|bdP hr fun y57 z33 hq42 hr=>J (CB' [(0,0)] [4] (q5V (m:=.bo) hq42))<|bdT hr fun y58 y59 y60 hq43 hr=>J g<|J (CB' [] [] (q6w hq43))<|ggE hr fun g19 hr=>bdP hr fun y61 z34 hq44 hr=>J g<|J (CBz' 5 [(0,0),(1,5)] [] (Ic0 (m:=m) hq44))<|ggE hr fun g20 hr=>bdP hr fun y62 z35 hq45 hr=>J g<|J (CBz' 6 [(0,0),(1,6)] [] (Ic0 (m:=m) hq45))<|bdE hr fun y63 hy63 hr=>J (CB' [(0,7)] [] (z2R (m:=.fz) hy63))<|e
theorem j4u (n:Nat):∀ {m:Md} {a1:Gm_} {a2:Rule} {a3:Int} {a4:Int} {a5:Bool} {o0:l1Cur} {r:(Expr×l1Cur)},q6d n a1 a2 a3 a4 a5 o0=some r→Ok Tryz.prog 137 [.pb 0 0,Gm_.y m a1,Rule.x m a2,dI a3,dI a4,dB a5] [.box [.d .fz (.sl 1 (o0.b.map byD)),dI o0.i,dI o0.h]] (.ag [dI r.1.Kind,dI r.1.N,dI r.1.Pos,dI r.1.Type_,dS r.1.Symbol,dS r.1.Name,.ref 1 none]) [.box [.d .fz (.sl 1 (o0.b.map byD)),dI r.2.i,dI r.2.h],.row .fz 7 (r.1.Args.map Expr.D)]:=by
  induction n with
  | zero=>intro _ _ _ _ _ _ _ r hr;exact nomatch (show (none:Option (Expr×l1Cur))=some r from hr)
  | succ n ih=>intro _ _ _ _ _ _ _ r hr;exact j4t ih hr
theorem j5H {m:Md}{a1:Gm_}{a2:Rule}{a3:Int}{a4:Int}{a5:Bool}{o0:l1Cur}{r:(Expr×l1Cur)}(hr:z7Q a1 a2 a3 a4 a5 o0=some r):Ok Tryz.prog 137 [.pb 0 0,Gm_.y m a1,Rule.x m a2,dI a3,dI a4,dB a5] [.box [.d .fz (.sl 1 (o0.b.map byD)),dI o0.i,dI o0.h]] (.ag [dI r.1.Kind,dI r.1.N,dI r.1.Pos,dI r.1.Type_,dS r.1.Symbol,dS r.1.Name,.ref 1 none]) [.box [.d .fz (.sl 1 (o0.b.map byD)),dI r.2.i,dI r.2.h],.row .fz 7 (r.1.Args.map Expr.D)]:=by
 obtain⟨n,hn⟩:=q6x hr
 exact j4u n hn
theorem j5I {Rc1:Expr→Int→Option Int}(Ic1:∀ {m:Md} {a0:Expr} {a1:Int} {r:Int},Rc1 a0 a1=some r→Ok Tryz.prog 180 [Expr.x m a0,dI a1] [] (dI r) []){m:Md}{a0:Expr}{a1:Int}{r:Int}(hr:z4R Rc1 a0 a1=some r):Ok Tryz.prog 180 [Expr.x m a0,dI a1] [] (dI r) []:=by
 refine OE Tryz.func180 fun S hS=>?_
 unfold z4R at hr
 refine J g<|J (BX' 0)<|ggE hr fun g1 hr=>bdE hr fun s1 hqq1 hr=>J (gn 13)<|q0e 1 [(1,dI s1)] [] ?_ ?_
 refine J g<|q0h hqq1 1 (fun (s2,s3)=>[(1,dI s2),(2,.pb 0 0),(5,dI s3)]) (fun (s2,s3)=>[]) I fun sk1 ok1 hr hik1=>?_
 obtain⟨s2,s3⟩:=sk1
 have hr:=hr
 refine J (gn 8)<|ifE hr ?_ ?_<;>intro h1 hr
 refine J (gn 5)<|ifE hr ?_ ?_<;>intro h2 hr
 refine ggE hr fun g2 hr=>bdE hr fun x1 hx1 hr=>bdE hr fun y1 hy1 hr=>J g<|J (CB' [] [] (Ic1 (m:=m) hy1))<|ggE hr fun g3 hr=>e
 refine J (gn 2) ?_
 cases hr
 cases hik1 _ rfl
 exact q0g hS 1
 refine J (gn 7) ?_
 cases hr
 cases hik1 _ rfl
 exact q0g hS 1
 exact e
theorem j5J (n:Nat):∀ {m:Md} {a0:Expr} {a1:Int} {r:Int},z2g n a0 a1=some r→Ok Tryz.prog 180 [Expr.x m a0,dI a1] [] (dI r) []:=by
  induction n with
  | zero=>intro _ _ _ r hr;exact nomatch (show (none:Option Int)=some r from hr)
  | succ n ih=>intro _ _ _ r hr;exact j5I ih hr
theorem j8f {m:Md}{a0:Expr}{a1:Int}{r:Int}(hr:z9R a0 a1=some r):Ok Tryz.prog 180 [Expr.x m a0,dI a1] [] (dI r) []:=by
 obtain⟨n,hn⟩:=q6x hr
 exact j5J n hn
theorem z3F {a0:Int}{a1:Int}{r:Int}(hr:q8L a0 a1=some r):Ok Tryz.prog 111 [dI a0,dI a1] [] (dI r) []:=by
 refine OE Tryz.func111 fun S hS=>?_
 unfold q8L at hr
 refine J (gn 11)<|ifE hr ?_ ?_<;>intro h1 hr
 exact e
 exact e
theorem z8S {Rc2:Expr→Option Int}(Ic2:∀ {m:Md} {a0:Expr} {r:Int},Rc2 a0=some r→Ok Tryz.prog 181 [Expr.x m a0] [] (dI r) []){m:Md}{a0:Expr}{r:Int}(hr:q9i Rc2 a0=some r):Ok Tryz.prog 181 [Expr.x m a0] [] (dI r) []:=by
 refine OE Tryz.func181 fun S hS=>?_
 unfold q9i at hr
 refine J g<|J (BX' 0)<|J (gn 12)<|J (lenA 6 0)<|fun hl1=>bdE hr fun s1 hqq1 hr=>q0d hqq1 hl1 1 (fun k1 s1=>[(1,.pb 0 0),(3,dI s1),(4,dI (k1:Int))]) (fun k1 s1=>[]) I (fun k1 xk1 sk1 ok1 hxk1 hr hltk1=>?_) fun k1 hltk1=>?_
 obtain⟨s1,rfl⟩:∃ y,y=sk1:=⟨_,rfl⟩
 refine bdE hr fun y1 hy1 hr=>J g<|J (CB' [] [] (Ic2 (m:=m) hy1))<|bdE hr fun y2 hy2 hr=>J (CB' [] [] (z3F hy2))<|e
 refine ggE hr fun g1 hr=>e
theorem z8T (n:Nat):∀ {m:Md} {a0:Expr} {r:Int},q6H n a0=some r→Ok Tryz.prog 181 [Expr.x m a0] [] (dI r) []:=by
  induction n with
  | zero=>intro _ _ r hr;exact nomatch (show (none:Option Int)=some r from hr)
  | succ n ih=>intro _ _ r hr;exact z8S ih hr
theorem j0h {m:Md}{a0:Expr}{r:Int}(hr:z2Y a0=some r):Ok Tryz.prog 181 [Expr.x m a0] [] (dI r) []:=by
 obtain⟨n,hn⟩:=q6x hr
 exact z8T n hn
theorem j8g {m:Md}{a0:Expr}{r:Bool}(hr:z4S a0=some r):Ok Tryz.prog 265 [Expr.x m a0] [] (dB r) []:=by
 refine OE Tryz.func265 fun S hS=>?_
 unfold z4S at hr
 refine J g<|J (BX' 0)<|bdE hr fun s1 hqq1 hr=>J (gn 12)<|q0e 1 [(1,.pb 0 0),(3,dI s1)] [] ?_ ?_
 replace hr:=hqq1
 refine J (gn 6)<|ifE hr ?_ ?_<;>intro h1 hr
 exact e
 refine J (gn 6)<|ifE hr ?_ ?_<;>intro h2 hr
 exact e
 refine J (gn 6)<|ifE hr ?_ ?_<;>intro h3 hr
 exact e
 exact e
 refine J (gn 9)<|ifE hr ?_ ?_<;>intro h4 hr
 refine bdE hr fun s2 hqq2 hr=>J (gn 7)<|q0a 5 [(1,.pb 0 0),(27,dB s2)] ?_ ?_
 replace hr:=hqq2
 refine ifE hr ?_ ?_<;>intro h5 hr
 exact e
 exact e
 refine bdE hr fun s3 hqq3 hr=>J (gn 7)<|q0a 5 [(1,.pb 0 0),(4,dB s2),(35,dB s3)] ?_ ?_
 replace hr:=hqq3
 refine ifE hr ?_ ?_<;>intro h6 hr
 exact e
 exact e
 refine bdE hr fun s4 hqq4 hr=>J (gn 7)<|q0a 5 [(1,.pb 0 0),(4,dB s2),(5,dB s3),(43,dB s4)] ?_ ?_
 replace hr:=hqq4
 refine ifE hr ?_ ?_<;>intro h7 hr
 exact e
 exact e
 refine bdE hr fun s5 hqq5 hr=>J (gn 5)<|q0a 5 [(1,.pb 0 0),(5,dB s3),(6,dB s4),(49,dB s5)] ?_ ?_
 replace hr:=hqq5
 refine ifE hr ?_ ?_<;>intro h8 hr
 exact e
 exact e
 refine bdE hr fun s6 hqq6 hr=>q0a 8 [(1,.pb 0 0),(6,dB s4),(57,dB s6)] ?_ ?_
 replace hr:=hqq6
 refine ifE hr ?_ ?_<;>intro h9 hr
 refine bdE hr fun s7 hqq7 hr=>J (gn 2)<|q0a 5 [(1,.pb 0 0),(6,dB s4),(50,dB true),(56,dB s7)] ?_ ?_
 replace hr:=hqq7
 refine ifE hr ?_ ?_<;>intro h10 hr
 exact e
 exact e
 exact e
 exact e
 refine bdE hr fun s8 hqq8 hr=>q0a 8 [(1,.pb 0 0),(65,dB s8)] ?_ ?_
 replace hr:=hqq8
 refine ifE hr ?_ ?_<;>intro h11 hr
 refine bdE hr fun s9 hqq9 hr=>J (gn 2)<|q0a 5 [(1,.pb 0 0),(58,dB true),(64,dB s9)] ?_ ?_
 replace hr:=hqq9
 refine ifE hr ?_ ?_<;>intro h12 hr
 exact e
 exact e
 exact e
 exact e
 refine bdE hr fun s10 hqq10 hr=>q0a 10 [(1,.pb 0 0),(75,dB s10)] ?_ ?_
 replace hr:=hqq10
 refine ifE hr ?_ ?_<;>intro h13 hr
 refine bdE hr fun s11 hqq11 hr=>J (gn 4)<|q0a 5 [(1,.pb 0 0),(66,dB true),(74,dB s11)] ?_ ?_
 replace hr:=hqq11
 refine ifE hr ?_ ?_<;>intro h14 hr
 exact e
 exact e
 exact e
 exact e
 refine bdE hr fun s12 hqq12 hr=>q0a 10 [(85,dB s12)] ?_ ?_
 replace hr:=hqq12
 refine ifE hr ?_ ?_<;>intro h15 hr
 refine bdE hr fun s13 hqq13 hr=>J (gn 4)<|q0a 5 [(76,dB true),(84,dB s13)] ?_ ?_
 replace hr:=hqq13
 refine ifE hr ?_ ?_<;>intro h16 hr
 exact e
 exact e
 exact e
 exact e
 exact e
 exact e
theorem j9G {a0:Int}{a1:Int}{r:Int}(hr:z6X a0 a1=some r):Ok Tryz.prog 318 [dI a0,dI a1] [] (dI r) []:=by
 refine OE Tryz.func318 fun S hS=>?_
 unfold z6X at hr
 refine J (gn 11)<|ifE hr ?_ ?_<;>intro h1 hr
 exact e
 exact e
theorem j4v {a0:Int}{r:Int}(hr:z2i a0=some r):Ok Tryz.prog 308 [dI a0] [] (dI r) []:=by
 refine OE Tryz.func308 fun S hS=>?_
 unfold z2i at hr
 refine bdE hr fun y1 hy1 hr=>J g<|J (CB' [] [] (j9G hy1))<|bdE hr fun y2 hy2 hr=>J (CB' [] [] (z3F hy2))<|e
theorem j5K {a0:Bool}{r:Int}(hr:z3p a0=some r):Ok Tryz.prog 309 [dB a0] [] (dI r) []:=by
 refine OE Tryz.func309 fun S hS=>?_
 unfold z3p at hr
 refine J (gn 9)<|ifE hr ?_ ?_<;>intro h1 hr
 exact e
 exact e
theorem j8h {a0:Int}{a1:Int}{r:Int}(hr:z4T a0 a1=some r):Ok Tryz.prog 288 [dI a0,dI a1] [] (dI r) []:=by
 refine OE Tryz.func288 fun S hS=>?_
 unfold z4T at hr
 refine J (gn 15)<|ifE hr ?_ ?_<;>intro h1 hr
 refine bdE hr fun y1 hy1 hr=>J g<|J (CB' [] [] (j4v hy1))<|e
 refine J (gn 6)<|ifE hr ?_ ?_<;>intro h2 hr
 refine J g<|J (OB' _ j9t)<|e
 refine J (gn 6)<|ifE hr ?_ ?_<;>intro h3 hr
 refine bdE hr fun y2 hy2 hr=>J g<|J (CB' [] [] (j5K hy2))<|e
 refine J (gn 6)<|ifE hr ?_ ?_<;>intro h4 hr
 refine bdE hr fun y3 hy3 hr=>J g<|J (CB' [] [] (q5E hy3))<|J (gn 1)<|ifE hr ?_ ?_<;>intro h5 hr
 exact e
 exact e
 exact e
theorem j4w {a0:Int}{a1:Int}{r:Bool}(hr:z2j a0 a1=some r):Ok Tryz.prog 266 [dI a0,dI a1] [] (dB r) []:=by
 refine OE Tryz.func266 fun S hS=>?_
 unfold z2j at hr
 refine bdE hr fun y1 hy1 hr=>J g<|J (CB' [] [] (q5E hy1))<|ifE hr ?_ ?_<;>intro h1 hr
 refine bdE hr fun y2 hy2 hr=>J g<|J (CB' [] [] (j8h hy2))<|e
 exact e
theorem j5L {a0:ByteArray}{r:Bool}(hr:z5O a0=some r):Ok Tryz.prog 275 [dS a0] [] (dB r) []:=by
 refine OE Tryz.func275 fun S hS=>?_
 unfold z5O at hr
 refine J (gn 10) ?_
 refine q3b (.tmp 0 rfl) fun ht1=>?_
 have hl1:rngI .i64 (a0.size:Int):=k1s ht1
 refine bdE hr fun q1 hqq1 hr=>q0u hqq1 0 (fun k1 _=>[(0,dS a0),(3,dI (k1:Int))]) (fun k1 _=>[]) I (fun k1 sk1 ok1 hr hltk1 hik1=>?_) fun sk1 ek1=>?_
 refine J g<|J LS'<|bdE hr fun x1 hx1 hr=>J g ?_
 refine J (SI' rfl rfl (Int.natCast_nonneg _) hx1)<|bdE hr fun s1 hqq2 hr=>J (gn 1)<|q0a 6 [(0,dS a0),(3,dI (k1:Int)),(21,dB s1)] ?_ ?_
 replace hr:=hqq2
 refine ifE hr ?_ ?_<;>intro h1 hr
 refine J g ?_
 refine J (SI' rfl rfl (Int.natCast_nonneg _) hx1)<|J g<|E
 exact e
 refine J g ?_
 refine J (SI' rfl rfl (Int.natCast_nonneg _) hx1)<|bdE hr fun s2 hqq3 hr=>J (gn 1)<|q0a 6 [(0,dS a0),(3,dI (k1:Int)),(4,dB s1),(31,dB s2)] ?_ ?_
 replace hr:=hqq3
 refine ifE hr ?_ ?_<;>intro h2 hr
 refine J g ?_
 refine J (SI' rfl rfl (Int.natCast_nonneg _) hx1)<|J g<|E
 exact e
 refine bdE hr fun s3 hqq4 hr=>J (gn 6)<|q0a 8 [(0,dS a0),(3,dI (k1:Int)),(41,dB s3)] ?_ ?_
 replace hr:=hqq4
 refine ifE hr ?_ ?_<;>intro h3 hr
 exact e
 refine bdP hr fun s4 s5 hqq5 hr=>J (gn 3)<|q0a 4 [(0,dS a0),(3,dI (k1:Int)),(34,dB true),(35,dI (k1:Int)),(36,dB (decide ((k1:Int)=0))),(37,dB s4),(40,dB s5)] ?_ ?_
 replace hr:=hqq5
 refine ifE hr ?_ ?_<;>intro h4 hr
 exact e
 exact e
 exact e
 refine J (gn 1)<|ifE hr ?_ ?_<;>intro h5 hr
 exact e
 exact e
 subst ek1
 refine J g<|J LS'<|J g<|J LS'<|e
theorem j1h {r:(List ByteArray)}(hr:z1K=some r):Ok Tryz.prog 295 [] [] (.ref 0 none) [.row .fz 1 (r.map A.D.s)]:=by
 refine OE Tryz.func295 fun S hS=>?_
 unfold z1K at hr
 refine J g<|J (LIR' 0 (m:=.fz) (f:=A.D.s) (xs:=[(⟨#[105,102]⟩:ByteArray),(⟨#[116,104,101,110]⟩:ByteArray),(⟨#[101,108,115,101]⟩:ByteArray),(⟨#[116,114,117,101]⟩:ByteArray),(⟨#[102,97,108,115,101]⟩:ByteArray),(⟨#[108,105,116]⟩:ByteArray),(⟨#[110,111,110,101]⟩:ByteArray),(⟨#[115,101,108,102]⟩:ByteArray),(⟨#[111,102]⟩:ByteArray),(⟨#[109,97,120]⟩:ByteArray),(⟨#[109,105,110]⟩:ByteArray),(⟨#[119,105,116,104]⟩:ByteArray),(⟨#[104,97,115]⟩:ByteArray)]))<|e
theorem z7o {m:Md}{a0:(List ByteArray)}{a1:ByteArray}{r:Bool}(hr:z1h a0 a1=some r):Ok Tryz.prog 197 [.d m (.sl 1 (a0.map A.D.s)),dS a1] [] (dB r) []:=by
 refine OE Tryz.func197 fun S hS=>?_
 unfold z1h at hr
 refine J (gn 10)<|J (lenT 0)<|fun hl1=>bdE hr fun q1 hqq1 hr=>q0b hqq1 hl1 0 (fun k1 _=>[(0,.d m (.sl 1 (a0.map A.D.s))),(1,dS a1),(5,dI (k1:Int))]) (fun k1 _=>[]) I (fun k1 xk1 sk1 ok1 hxk1 hr hltk1 hik1=>?_) fun k1 sk1 ek1 hltk1=>?_
 refine J (gn 21)<|ifE hr ?_ ?_<;>intro h1 hr
 exact e
 exact e
 subst ek1
 exact e
theorem j1i {a0:ByteArray}{r:Bool}(hr:q9R a0=some r):Ok Tryz.prog 276 [dS a0] [] (dB r) []:=by
 refine OE Tryz.func276 fun S hS=>?_
 unfold q9R at hr
 refine bdE hr fun y1 hy1 hr=>J g<|J (CB' [(0,0)] [] (j1h hy1))<|bdE hr fun y2 hy2 hr=>J g<|J (CB' [] [0] (z7o (m:=.bo) hy2))<|e
theorem q5p {a0:ByteArray}{r:Bool}(hr:q4O a0=some r):Ok Tryz.prog 246 [dS a0] [] (dB r) []:=by
 refine OE Tryz.func246 fun S hS=>?_
 unfold q4O at hr
 refine bdE hr fun y1 hy1 hr=>J g<|J (CB' [] [] (j5L hy1))<|bdE hr fun s1 hqq1 hr=>q0a 5 [(0,dS a0),(2,dB false),(9,dB s1)] ?_ ?_
 replace hr:=hqq1
 refine ifE hr ?_ ?_<;>intro h1 hr
 refine J g<|J LS'<|e
 exact e
 refine bdE hr fun s2 hqq2 hr=>q0a 5 [(2,dB false),(14,dB s2)] ?_ ?_
 replace hr:=hqq2
 refine ifE hr ?_ ?_<;>intro h2 hr
 refine bdE hr fun y2 hy2 hr=>J g<|J (CB' [] [] (j1i hy2))<|e
 exact e
 exact e
theorem j8i {m:Md}{a0:Expr}{r:Bool}(hr:z4U a0=some r):Ok Tryz.prog 223 [Expr.x m a0] [] (dB r) []:=by
 refine OE Tryz.func223 fun S hS=>?_
 unfold z4U at hr
 refine J g<|J (BX' 0)<|bdE hr fun y1 hy1 hr=>J g<|J (CB' [] [] (q5E hy1))<|bdE hr fun s1 hqq1 hr=>J (gn 1)<|q0a 5 [(1,.pb 0 0),(11,dB s1)] ?_ ?_
 replace hr:=hqq1
 refine ifE hr ?_ ?_<;>intro h1 hr
 refine bdE hr fun y2 hy2 hr=>J g<|J (CB' [] [] (j8g (m:=m) hy2))<|e
 exact e
 refine J (gn 1)<|ifE hr ?_ ?_<;>intro h2 hr
 exact e
 refine J (gn 14)<|ifE hr ?_ ?_<;>intro h3 hr
 refine bdE hr fun y3 hy3 hr=>J g<|J (CB' [] [] (q5E hy3))<|bdE hr fun s2 hqq2 hr=>q0a 7 [(1,.pb 0 0),(25,dB s2)] ?_ ?_
 replace hr:=hqq2
 refine ifE hr ?_ ?_<;>intro h4 hr
 refine bdE hr fun y4 hy4 hr=>J g<|J (CB' [] [] (j4w hy4))<|e
 exact e
 refine bdE hr fun s3 hqq3 hr=>q0a 5 [(30,dB s3)] ?_ ?_
 replace hr:=hqq3
 refine ifE hr ?_ ?_<;>intro h5 hr
 exact e
 exact e
 exact e
 refine J (gn 6)<|ifE hr ?_ ?_<;>intro h6 hr
 refine bdE hr fun y5 hy5 hr=>J g<|J (CB' [] [] (q5E hy5))<|bdE hr fun s4 hqq4 hr=>q0a 5 [(40,dB s4)] ?_ ?_
 replace hr:=hqq4
 refine ifE hr ?_ ?_<;>intro h7 hr
 refine bdE hr fun y6 hy6 hr=>J g<|J (CB' [] [] (q5p hy6))<|e
 exact e
 exact e
 refine J (gn 6)<|ifE hr ?_ ?_<;>intro h8 hr
 refine bdE hr fun y7 hy7 hr=>J g<|J (CB' [] [] (q5E hy7))<|e
 refine J (gn 6)<|ifE hr ?_ ?_<;>intro h9 hr
 refine bdE hr fun y8 hy8 hr=>J g<|J (CB' [] [] (q5E hy8))<|e
 refine J (gn 6)<|ifE hr ?_ ?_<;>intro h10 hr
 refine bdE hr fun y9 hy9 hr=>J g<|J (CB' [] [] (q5p hy9))<|bdE hr fun s5 hqq5 hr=>q0a 5 [(60,dB s5)] ?_ ?_
 replace hr:=hqq5
 refine ifE hr ?_ ?_<;>intro h11 hr
 refine bdE hr fun y10 hy10 hr=>J g<|J (CB' [] [] (q5p hy10))<|e
 exact e
 exact e
 exact e
theorem j8j {Rc3:Expr→Option Bool}(Ic3:∀ {m:Md} {a0:Expr} {r:Bool},Rc3 a0=some r→Ok Tryz.prog 182 [Expr.x m a0] [] (dB r) []){m:Md}{a0:Expr}{r:Bool}(hr:z6Z Rc3 a0=some r):Ok Tryz.prog 182 [Expr.x m a0] [] (dB r) []:=by
 refine OE Tryz.func182 fun S hS=>?_
 unfold z6Z at hr
 refine J g<|J (BX' 0)<|J (gn 8)<|J (lenA 6 0)<|fun hl1=>bdE hr fun q1 hqq1 hr=>q0b hqq1 hl1 1 (fun k1 _=>[(1,.pb 0 0),(3,dI (k1:Int))]) (fun k1 _=>[]) I (fun k1 xk1 sk1 ok1 hxk1 hr hltk1 hik1=>?_) fun k1 sk1 ek1 hltk1=>?_
 refine bdE hr fun y1 hy1 hr=>J g<|J (CB' [] [] (Ic3 (m:=m) hy1))<|J (gn 2)<|ifE hr ?_ ?_<;>intro h1 hr
 exact e
 exact e
 subst ek1
 refine bdE hr fun y2 hy2 hr=>J g<|J (CB' [] [] (j8i (m:=m) hy2))<|e
theorem j8k (n:Nat):∀ {m:Md} {a0:Expr} {r:Bool},z7a n a0=some r→Ok Tryz.prog 182 [Expr.x m a0] [] (dB r) []:=by
  induction n with
  | zero=>intro _ _ r hr;exact nomatch (show (none:Option Bool)=some r from hr)
  | succ n ih=>intro _ _ r hr;exact j8j ih hr
theorem j9H {m:Md}{a0:Expr}{r:Bool}(hr:j2N a0=some r):Ok Tryz.prog 182 [Expr.x m a0] [] (dB r) []:=by
 obtain⟨n,hn⟩:=q6x hr
 exact j8k n hn
theorem z2s {m:Md}{a0:Expr}{r:Bool}(hr:q7w a0=some r):Ok Tryz.prog 132 [Expr.x m a0] [] (dB r) []:=by
 refine OE Tryz.func132 fun S hS=>?_
 unfold q7w at hr
 refine J g<|J (BX' 0)<|bdE hr fun y1 hy1 hr=>J g<|J (CB' [] [] (j8f (m:=m) hy1))<|bdE hr fun s1 hqq1 hr=>J (gn 1)<|q0a 5 [(1,.pb 0 0),(2,dB false),(10,dB s1)] ?_ ?_
 replace hr:=hqq1
 refine ifE hr ?_ ?_<;>intro h1 hr
 refine bdE hr fun y2 hy2 hr=>J g<|J (CB' [] [] (j0h (m:=m) hy2))<|e
 exact e
 refine bdE hr fun s2 hqq2 hr=>q0a 4 [(2,dB false),(14,dB s2)] ?_ ?_
 replace hr:=hqq2
 refine ifE hr ?_ ?_<;>intro h2 hr
 refine bdE hr fun y3 hy3 hr=>J g<|J (CB' [] [] (j9H (m:=m) hy3))<|e
 exact e
 exact e
theorem j5M {m:Md}{m2:Md}{a1:Gm_}{a2:Rule}{a3:Bool}{o0:l1Cur}{r:(Rule×l1Cur)}(hr:z3q a1 a2 a3 o0=some r):Ok Tryz.prog 77 [.pb 0 0,Gm_.y m a1,.ag [dS a2.Name,dS a2.Left,.ref 1 none,dB a2.Literal,.ref 2 none,.ref 3 none],dB a3] [.box [.d .fz (.sl 1 (o0.b.map byD)),dI o0.i,dI o0.h],.row .fz 1 (a2.Right.map A.D.s),.row m2 9 (a2.Equations.map Eqn.D),.row m2 16 (a2.Contributions.map Cn.D)] (.ag [dS r.1.Name,dS r.1.Left,.ref 1 none,dB r.1.Literal,.ref 4 none,.ref 3 none]) [.box [.d .fz (.sl 1 (o0.b.map byD)),dI r.2.i,dI r.2.h],.row .fz 1 (r.1.Right.map A.D.s),.dead,.row m2 16 (r.1.Contributions.map Cn.D),.row m2 9 (r.1.Equations.map Eqn.D)]:=by
 refine Ok.enter rfl Tryz.func77 rfl rfl rfl fun S hS=>?_
 unfold z3q at hr
 refine sr ?_
 refine BX 4 ?_
 refine BX 5 ?_
 refine NV 6 ?_
 refine N0 ?_
 refine sr ?_
 refine W2 ?_
 refine bdE hr fun y1 hy1 hr=>?_
 refine CB [(0,7)] [1,2,3] (q7Z (m:=.bo) hy1) ?_
 refine N1 ?_
 refine ssr ?_
 refine N1 ?_
 refine AW.block ?_
 refine AW.mv 2 8 rfl ?_
 refine q1C 7 rfl fun hl1=>?_
 refine bdE hr fun q1 hqq1 hr=>?_
 obtain⟨s2,s3,s1⟩:=q1
 refine q0d hqq1 hl1 9 (fun k1 (s2,s3,s1)=>[(0,.pb 0 0),(3,dB a3),(5,.pb 4 0),(6,.pb 5 0),(8,.pb 6 0),(9,.ref 7 none),(10,dI (k1:Int))]) (fun k1 (s2,s3,s1)=>[(0,.box [.d .fz (.sl 1 (o0.b.map byD)),dI s2,dI s3]),(8,.row m2 9 (s1.map Eqn.D))]) (GH.trans (q0E (q:=4) [.d m (.sl 2 (a1.Symbols.map Symbol.D)),.u] (.cons .rfl (.cons .u .nil)) rfl) (q0g hS 9)) (fun k1 xk1 sk1 ok1 hxk1 hr hltk1=>?_) fun k1 hltk1=>?_
 obtain⟨s2,s3,s1⟩:=sk1
 refine ssr ?_
 refine W2 ?_
 refine LE ?_
 refine N1 ?_
 refine q0z rfl (dT hltk1) ?_
 refine q0n ?_
 refine bdE hr fun q2 hqq2 hr=>?_
 obtain⟨s5,s6,s4⟩:=q2
 refine q0s (q0e 10 [(0,.pb 0 0),(3,dB a3),(5,.pb 4 0),(6,.pb 5 0),(8,.pb 6 0),(9,.ref 7 none),(10,dI (k1:Int))] [(0,.box [.d .fz (.sl 1 (o0.b.map byD)),dI s5,dI s6]),(5,.box [dS a2.Name,dS a2.Left,.ref 1 none,dB a2.Literal,.ref 9 none,.ref 3 none]),(8,.none),(9,.row m2 9 (s4.map Eqn.D))] ?_ ?_)
 replace hr:=hqq2
 refine AW.block (q0s (q0q (h:=?_)))
 refine W4 ?_
 refine IE hxk1 (Int.natCast_nonneg _) ?_
 refine W1 ?_
 refine LP hxk1 ?_
 refine bdE hr fun y2 hy2 hr=>?_
 refine CB [] [1,8,3] (q7R (m:=.bo) hy2) ?_
 refine bdE hr fun q3 hq3 hr=>?_
 obtain⟨y3,y4⟩:=q3
 refine CB [(0,9)] [] (q6K (m:=m) hq3) ?_
 refine W3 ?_
 refine NV 10 ?_
 refine SB ?_
 refine N1 ?_
 refine q0s (q0q (h:=?_))
 refine W3 ?_
 refine IE hxk1 (Int.natCast_nonneg _) ?_
 refine W1 ?_
 refine LP hxk1 ?_
 refine bdE hr fun q4 hq4 hr=>?_
 obtain⟨y5,y6⟩:=q4
 refine CB [] [9] (q8T (m:=.bo) hq4) ?_
 refine W3 ?_
 refine NV 11 ?_
 refine SB ?_
 refine N1 ?_
 refine q0s (q0q (h:=?_))
 refine W5 ?_
 refine W1 ?_
 refine bdE hr fun q5 hq5 hr=>?_
 obtain⟨y7,z1⟩:=q5
 refine CB [(0,0)] [] (q3R hq5) ?_
 refine ggE hr fun g1 hr=>?_
 refine OB _ (bAdd g1) ?_
 refine W1 ?_
 refine bdE hr fun q6 hq6 hr=>?_
 obtain⟨y8,z2⟩:=q6
 refine CB [(0,0),(1,12)] [1,8,3] (j5H (m:=.bo) hq6) ?_
 refine NV 13 ?_
 refine SB ?_
 refine N0 ?_
 refine ssr ?_
 refine W1 ?_
 refine bdE hr fun y9 hy9 hr=>?_
 refine CB [] [12] (z2s (m:=.bo) hy9) ?_
 refine N1 ?_
 refine ifE hr (fun h1 hr=>?_) fun h1 hr=>?_
 refine q0A rfl (bnF h1) ?_
 refine q0n ?_
 refine AW.fz 12 rfl ?_
 refine q0q (h:=?_)
 refine W4 ?_
 refine IE hxk1 (Int.natCast_nonneg _) ?_
 refine LPa hxk1 ?_
 refine W2 ?_
 refine LIR 14 (m:=.fz) (f:=Eqn.D) (xs:=[(⟨xk1,y8⟩:Eqn)]) ?_
 refine ggE hr fun g2 hr=>?_
 refine AP1 15 m2 112 g2 ?_
 refine W1 ?_
 refine SB ?_
 refine N0 ?_
 cases hr
 exact GH.trans (q0E (q:=4) [.d m (.sl 2 (a1.Symbols.map Symbol.D)),.u] (.cons .rfl (.cons .u .nil)) rfl) (q0l hS [(0,0),(1,1),(2,2),(3,3),(4,4),(5,5),(6,6),(7,7),(15,9)] 10)
 refine q0z rfl (bnT h1) ?_
 refine q0k ?_
 refine W3 ?_
 refine L0 14 Oc.D ?_
 refine bdE hr fun q7 hq7 hr=>?_
 obtain⟨y10,z3⟩:=q7
 refine CB [(0,0),(1,15)] [14] (q8U (m:=.bo) hq7) ?_
 refine SB ?_
 refine N0 ?_
 refine AW.fz 15 rfl ?_
 refine q0q (h:=?_)
 refine W4 ?_
 refine IE hxk1 (Int.natCast_nonneg _) ?_
 refine LPa hxk1 ?_
 refine W2 ?_
 refine LIR 16 (m:=.fz) (f:=Eqn.D) (xs:=[(⟨xk1,y10⟩:Eqn)]) ?_
 refine ggE hr fun g3 hr=>?_
 refine AP1 17 m2 112 g3 ?_
 refine W1 ?_
 refine SB ?_
 refine N0 ?_
 cases hr
 exact GH.trans (q0E (q:=4) [.d m (.sl 2 (a1.Symbols.map Symbol.D)),.u] (.cons .rfl (.cons .u .nil)) rfl) (q0l hS [(0,0),(1,1),(2,2),(3,3),(4,4),(5,5),(6,6),(7,7),(17,9)] 10)
 refine q0k ?_
 refine W1 ?_
 refine OB _ (z6m (p:=k1) (q:=1) (q6m hltk1 hl1)) ?_
 refine N1 ?_
 cases hr
 exact GH.trans (q0E (q:=4) [.d m (.sl 2 (a1.Symbols.map Symbol.D)),.u] (.cons .rfl (.cons .u .nil)) rfl) (q0l hS [(0,0),(1,1),(2,2),(3,3),(4,4),(5,5),(6,6),(7,7),(9,8)] 9)
 refine ssr ?_
 refine W2 ?_
 refine LE ?_
 refine N1 ?_
 refine q0A rfl (dF hltk1) ?_
 refine q1r ?_
 refine sr ?_
 refine W1 ?_
 refine SB ?_
 refine N0 ?_
 refine AW.ret ?_
 cases hr
 exact q0C [(0,0),(1,1),(2,2),(3,3),(8,4)] 5 hS
theorem j8l {m:Md}{m2:Md}{a1:Gm_}{a2:Rule}{o0:l1Cur}{r:(Rule×l1Cur)}(hr:z4V a1 a2 o0=some r):Ok Tryz.prog 78 [.pb 0 0,Gm_.y m a1,.ag [dS a2.Name,dS a2.Left,.ref 1 none,dB a2.Literal,.ref 2 none,.ref 3 none]] [.box [.d .fz (.sl 1 (o0.b.map byD)),dI o0.i,dI o0.h],.row .fz 1 (a2.Right.map A.D.s),.row m2 9 (a2.Equations.map Eqn.D),.row m2 16 (a2.Contributions.map Cn.D)] (.ag [dS r.1.Name,dS r.1.Left,.ref 1 none,dB r.1.Literal,.ref 2 none,.ref 4 none]) [.box [.d .fz (.sl 1 (o0.b.map byD)),dI r.2.i,dI r.2.h],.row .fz 1 (r.1.Right.map A.D.s),.row m2 9 (r.1.Equations.map Eqn.D),.dead,.row m2 16 (r.1.Contributions.map Cn.D)]:=by
 refine OE Tryz.func78 fun S hS=>?_
 unfold z4V at hr
 refine J g<|J (BX' 4)<|J (BX' 5)<|J (NV' 6)<|J (gn 7) ?_
 refine J (q1G 3 7 rfl)<|J (lenA 0 1)<|fun hl1=>bdT hr fun s1 s2 s3 hqq1 hr=>q0d hqq1 hl1 8 (fun k1 (s1,s2,s3)=>[(0,.pb 0 0),(4,.pb 4 0),(5,.pb 5 0),(6,.pb 6 0),(7,dI (k1:Int))]) (fun k1 (s1,s2,s3)=>[(0,.box [.d .fz (.sl 1 (o0.b.map byD)),dI s1,dI s2]),(7,.row m2 16 (s3.map Cn.D))]) I (fun k1 xk1 sk1 ok1 hxk1 hr hltk1=>?_) fun k1 hltk1=>?_
 obtain⟨s1,s2,s3⟩:=sk1
 refine J (gn 18) ?_
 refine AW.len (.el 1 (.tmp 12 rfl) hxk1 rfl) fun hl2=>?_
 refine bdT hr fun s4 s5 s6 hqq2 hr=>q0d hqq2 hl2 8 (fun k2 (s4,s5,s6)=>[(0,.pb 0 0),(4,.pb 4 0),(5,.pb 5 0),(6,.pb 6 0),(7,dI (k1:Int)),(8,dI (k2:Int))]) (fun k2 (s4,s5,s6)=>[(0,.box [.d .fz (.sl 1 (o0.b.map byD)),dI s4,dI s5]),(7,.row m2 16 (s6.map Cn.D))]) I (fun k2 xk2 sk2 ok2 hxk2 hr hltk2=>?_) fun k2 hltk2=>?_
 obtain⟨s4,s5,s6⟩:=sk2
 refine bdT hr fun s8 s9 s7 hqq3 hr=>J (gn 16)<|q0e 8 [(0,.pb 0 0),(4,.pb 4 0),(5,.pb 5 0),(6,.pb 6 0),(7,dI (k1:Int)),(8,dI (k2:Int))] [(0,.box [.d .fz (.sl 1 (o0.b.map byD)),dI s8,dI s9]),(7,.row m2 16 (s7.map Cn.D))] ?_ ?_
 replace hr:=hqq3
 refine J g<|J (NV' 8)<|bdE hr fun s10 hqq4 hr=>J (gn 7)<|q0a 6 [(0,.pb 0 0),(4,.pb 4 0),(5,.pb 5 0),(6,.pb 6 0),(7,dI (k1:Int)),(8,dI (k2:Int)),(9,.pb 8 0),(45,dB s10)] ?_ ?_
 replace hr:=hqq4
 refine ifE hr ?_ ?_<;>intro h1 hr
 exact e
 exact e
 refine bdT hr fun s14 s15 s16 hqq5 hr=>q0v 5 9 [(0,.pb 0 0),(4,.pb 4 0),(5,.pb 5 0),(6,.pb 6 0),(7,dI (k1:Int)),(8,dI (k2:Int)),(9,.pb 8 0),(50,dB s14)] [(0,.box [.d .fz (.sl 1 (o0.b.map byD)),dI s15,dI s16])] ?_ ?_
 replace hr:=hqq5
 refine ifE hr ?_ ?_<;>intro h2 hr
 refine bdP hr fun y1 z1 hq6 hr=>J g<|J (CB' [(0,0)] [] (q5m hq6))<|e
 exact e
 refine J (gn 1)<|ifE hr ?_ ?_<;>intro h3 hr
 refine bdE hr fun y2 hy2 hr=>J g<|J (CB' [(0,9)] [1,2,7] (z3E (m:=.bo) hy2))<|bdP hr fun y3 z2 hq7 hr=>J (CBz' 10 [(0,0),(1,10)] [9] (q8U (m:=.bo) hq7))<|bdE hr fun y4 hy4 hr=>J g<|J (CB' [(0,11)] [1,2,7] (z3E (m:=.bo) hy4))<|bdP hr fun y5 z3 hq8 hr=>J (CBz' 12 [(0,0),(1,12)] [11] (q8U (m:=.bo) hq8))<|J g<|J (LIR' 13 (m:=.fz) (f:=Cn.D) (xs:=[(⟨xk1.Name,xk2.Name,y3,y5⟩:Cn)]))<|ggE hr fun g1 hr=>J (AP1' 14 m2 208 g1)<|e
 exact e
 exact e
 exact e
 exact e
theorem j0i {a1:Bool}{o0:l1Cur}{r:(Gm_×l1Cur)}(hr:z1S a1 o0=some r):Ok Tryz.prog 32 [.pb 0 0,dB a1] [.box [.d .fz (.sl 1 (o0.b.map byD)),dI o0.i,dI o0.h]] (.ag [.ref 1 none,.ref 2 none]) [.box [.d .fz (.sl 1 (o0.b.map byD)),dI r.2.i,dI r.2.h],.deep .fz 2 (r.1.Symbols.map Symbol.O) [],.deep .fz 6 (r.1.Rules.map Rule.O) []]:=by
 refine OE Tryz.func32 fun S hS=>?_
 unfold z1S at hr
 refine J g<|J (NV' 1)<|J g<|J (NV' 2)<|bdP hr fun y1 z1 hq1 hr=>J g<|J (CB' [(0,0)] [] (q3R hq1))<|ggE hr fun g1 hr=>J g<|J (LIR' 3 (m:=.fz) (f:=A.D.s) (xs:=[(⟨#[115]⟩:ByteArray),(⟨#[116]⟩:ByteArray),(⟨#[117]⟩:ByteArray)]))<|ggE hr fun g2 hr=>ggE hr fun g3 hr=>J g<|J (CU' 4 g2 g3)<|J (gn 8) ?_
 refine J (q0D 2 0 5 .fz 2 rfl rfl)<|J (q2p 5 Symbol.O)<|J (rngT 6)<|fun hl1=>bdT hr fun s2 s3 s1 hqq2 hr=>q0i hqq2 6 (fun k1 (s2,s3,s1)=>[(0,.pb 0 0),(1,dB a1),(4,.pb 1 0),(5,.pb 2 0),(6,dI (1+y1)),(7,.ref 4 none),(8,dI (k1:Int))]) (fun k1 (s2,s3,s1)=>[(0,.box [.d .fz (.sl 1 (o0.b.map byD)),dI s2,dI s3]),(3,.none),(5,.deep .fz 2 (s1.map Symbol.O) [])]) I (fun k1 sk1 ok1 hr hltk1=>?_) ?_
 obtain⟨s2,s3,s1⟩:=sk1
 refine bdE hr fun x1 hx1 hr=>bdP hr fun y2 z2 hq3 hr=>J g<|J (CB' [(0,0),(1,6)] [] (j1S hq3))<|J (LID' (f:=Symbol.O) 7 y2 [6])<|ggE hr fun g4 hr=>J (k1J 8 40 g4)<|e
 refine J (gn 15) ?_
 refine J (q0D 2 1 6 .fz 6 rfl rfl)<|J (q2p 6 Rule.O)<|J (rngT 6)<|fun hl2=>bdT hr fun s5 s6 s4 hqq4 hr=>q0i hqq4 7 (fun k2 (s5,s6,s4)=>[(0,.pb 0 0),(1,dB a1),(4,.pb 1 0),(5,.pb 2 0),(6,dI (1+y1)),(7,.ref 4 none),(9,dI (k2:Int))]) (fun k2 (s5,s6,s4)=>[(0,.box [.d .fz (.sl 1 (o0.b.map byD)),dI s5,dI s6]),(6,.deep .fz 6 (s4.map Rule.O) [])]) I (fun k2 sk2 ok2 hr hltk2=>?_) ?_
 obtain⟨s5,s6,s4⟩:=sk2
 refine bdE hr fun x2 hx2 hr=>ggE hr fun g5 hr=>J g<|J (OB' _ (j7Z g5))<|bdP hr fun y3 z3 hq5 hr=>J g<|J (CB' [(0,0)] [] (q5m hq5))<|J g<|J (LID' (f:=Rule.O) 7 (⟨((⟨#[108,101,97,102]⟩:ByteArray)++x2),x2,[],!y3,[],[]⟩:Rule) [])<|ggE hr fun g6 hr=>J (k1J 8 112 g6)<|bdP hr fun y4 z4 hq6 hr=>J g<|J (CB' [(0,0)] [] (q3R hq6))<|ggE hr fun g7 hr=>J (gn 8)<|J (rngT 10)<|fun hl3=>bdT hr fun s8 s9 s7 hqq7 hr=>q0i hqq7 9 (fun k3 (s8,s9,s7)=>[(0,.pb 0 0),(1,dB a1),(4,.pb 1 0),(5,.pb 2 0),(6,dI (1+y1)),(7,.ref 4 none),(9,dI (k2:Int)),(10,dI (1+y4)),(11,dI (k3:Int))]) (fun k3 (s8,s9,s7)=>[(0,.box [.d .fz (.sl 1 (o0.b.map byD)),dI s8,dI s9]),(6,.none),(7,.none),(8,.deep .fz 6 (s7.map Rule.O) [])]) I (fun k3 sk3 ok3 hr hltk3=>?_) ?_
 obtain⟨s8,s9,s7⟩:=sk3
 refine ggE hr fun g8 hr=>J g<|J (OB' _ (j7Z g8))<|bdE hr fun y5 hy5 hr=>J g<|J (CB' [] [] (j2O hy5))<|ggE hr fun g9 hr=>J (OB' _ (j7Z g9))<|bdP hr fun y6 z5 hq8 hr=>J g<|J (CB' [(0,0)] [] (q5m hq8))<|J g<|J (NV' 9)<|bdP hr fun y7 z6 hq9 hr=>J g<|J (CB' [(0,0)] [] (q3R hq9))<|ggE hr fun g10 hr=>J (gn 9) ?_
 refine J (q0D 9 2 10 .fz 1 rfl rfl)<|J (rngT 13)<|fun hl4=>bdT hr fun s11 s12 s10 hqq10 hr=>q0i hqq10 11 (fun k4 (s11,s12,s10)=>[(0,.pb 0 0),(1,dB a1),(4,.pb 1 0),(5,.pb 2 0),(6,dI (1+y1)),(7,.ref 4 none),(9,dI (k2:Int)),(10,dI (1+y4)),(11,dI (k3:Int)),(12,.pb 9 0),(13,dI (1+y7)),(14,dI (k4:Int))]) (fun k4 (s11,s12,s10)=>[(0,.box [.d .fz (.sl 1 (o0.b.map byD)),dI s11,dI s12]),(10,.row .fz 1 (s10.map A.D.s))]) I (fun k4 sk4 ok4 hr hltk4=>?_) ?_
 obtain⟨s11,s12,s10⟩:=sk4
 refine bdP hr fun y8 z7 hq11 hr=>J g<|J (CB' [(0,0)] [4] (q7M (m:=.bo) hq11))<|J (LIR' 11 (m:=.fz) (f:=A.D.s) (xs:=[y8]))<|ggE hr fun g11 hr=>J (z0F (f:=A.D.s) 12 (fun _=>rfl) 16 g11)<|e
 refine J g<|J (LID' (f:=Rule.O) 11 (⟨(((⟨#[112]⟩:ByteArray)++x2)++y5),x2,s10,y6,[],[]⟩:Rule) [10])<|ggE hr fun g12 hr=>J (k1J 12 112 g12)<|e
 exact e
 refine J g<|J (LEd' s4.length)<|bdE hr fun s13 hqq12 hr=>J (gn 2)<|q0e 7 [(0,.pb 0 0),(1,dB a1),(4,.pb 1 0),(5,.pb 2 0)] [(6,.deep .fz 6 (s13.map Rule.O) [])] ?_ ?_
 replace hr:=hqq12
 refine ifE hr ?_ ?_<;>intro h1 hr
 refine ggE hr fun g13 hr=>J g<|J (CUd' (xs:=s4) (b:=8) 7 (by decide) g13)<|e
 exact e
 refine bdT hr fun s14 s15 s16 hqq13 hr=>J (gn 5)<|q0e 7 [(4,.pb 1 0),(5,.pb 2 0)] [(0,.box [.d .fz (.sl 1 (o0.b.map byD)),dI s14,dI s15]),(6,.deep .fz 6 (s16.map Rule.O) [])] ?_ ?_
 refine J g<|q0h hqq13 7 (fun (s17,s18,s19,s20)=>[(0,.pb 0 0),(1,dB a1),(4,.pb 1 0),(5,.pb 2 0),(15,dI s17)]) (fun (s17,s18,s19,s20)=>[(0,.box [.d .fz (.sl 1 (o0.b.map byD)),dI s18,dI s19]),(6,.deep .fz 6 (s20.map Rule.O) [])]) I fun sk5 ok5 hr hik5=>?_
 obtain⟨s17,s18,s19,s20⟩:=sk5
 have hr:=hr
 refine J g<|J (LEd' s20.length)<|J (gn 2)<|ifE hr ?_ ?_<;>intro h2 hr
 refine bdT hr fun s21 s22 s23 hqq14 hr=>J (gn 3)<|q0e 7 [(0,.pb 0 0),(1,dB a1),(4,.pb 1 0),(5,.pb 2 0),(15,dI s17)] [(0,.box [.d .fz (.sl 1 (o0.b.map byD)),dI s21,dI s22]),(6,.deep .fz 6 (s23.map Rule.O) [])] ?_ ?_
 replace hr:=hqq14
 refine ggE hr fun g14 hr=>bdE hr fun x3 hx3 hr=>J (q0t 6 s17.toNat 2 7 (q3Z hx3))<|J (q0t 6 s17.toNat 4 8 (q3T (q3Z hx3)))<|J (q0t 6 s17.toNat 5 9 (q3T (q3T (q3Z hx3))))<|J g<|J (IEd' g14 (q3T (q3T (q3T (q3Z hx3)))))<|J (k5h [(5,9),(4,8),(2,7)] (q3T (q3T (q3T (q3Z hx3)))))<|bdP hr fun y9 z8 hq15 hr=>J g<|J (CB' [(0,0),(1,7),(2,8),(3,9),(4,10)] [5] (j5M (m:=.bo) (m2:=.fz) hq15))<|J (IEd' g14 (q3T (q3T (q3T (q3Z hx3)))))<|J (SD' [.d .fz (.s y9.Name),.d .fz (.s y9.Left),.o .fz 1 (y9.Right.map A.D.s),.d .fz (.b y9.Literal),.o .fz 9 (y9.Equations.map Eqn.D),.o .fz 16 (y9.Contributions.map Cn.D)] [7,10,9] (q3T (q3T (q3T (q3Z hx3)))))<|J (gn 6)<|ifE hr ?_ ?_<;>intro h3 hr
 refine J (gn 2) ?_
 cases hr
 exact GH.trans (q0o 6 (he:=eset (f:=Rule.O) (x':=y9) (by first|rfl|(simp only[List.set_set];rfl)))) (q0l hS [(0,0),(1,1),(2,2),(4,4),(5,5),(6,6)] 7)
 refine J (gn 1)<|J (q0t 6 s17.toNat 2 11 (q3T (q3T (q3T (q3T (q3Z hx3))))))<|J (q0t 6 s17.toNat 4 12 (q3T (q3T (q3T (q3T (q3T (q3Z hx3)))))))<|J (q0t 6 s17.toNat 5 13 (q3T (q3T (q3T (q3T (q3T (q3T (q3Z hx3))))))))<|J g<|J (IEd' g14 (q3T (q3T (q3T (q3T (q3T (q3T (q3T (q3Z hx3)))))))))<|J (k5h [(5,13),(4,12),(2,11)] (q3T (q3T (q3T (q3T (q3T (q3T (q3T (q3Z hx3)))))))))<|bdP hr fun y10 z9 hq16 hr=>J (CB' [(0,0),(1,11),(2,12),(3,13),(4,14)] [5] (j8l (m:=.bo) (m2:=.fz) hq16))<|J (IEd' g14 (q3T (q3T (q3T (q3T (q3T (q3T (q3T (q3Z hx3)))))))))<|J (SD' [.d .fz (.s y10.Name),.d .fz (.s y10.Left),.o .fz 1 (y10.Right.map A.D.s),.d .fz (.b y10.Literal),.o .fz 9 (y10.Equations.map Eqn.D),.o .fz 16 (y10.Contributions.map Cn.D)] [11,12,14] (q3T (q3T (q3T (q3T (q3T (q3T (q3T (q3Z hx3)))))))))<|J (gn 1) ?_
 cases hr
 exact GH.trans (q0o 6 (he:=eset (f:=Rule.O) (x':=y10) (by first|rfl|(simp only[List.set_set];rfl)))) (q0l hS [(0,0),(1,1),(2,2),(4,4),(5,5),(6,6)] 7)
 refine ggE hr fun g15 hr=>e
 refine J (gn 2) ?_
 cases hr
 cases hik5 _ rfl
 exact q0l hS [(0,0),(1,1),(2,2),(4,4),(5,5),(6,6)] 7
 exact e
theorem z5S {o0:l1Cur}{r:(ByteArray×l1Cur)}(hr:q9S o0=some r):Ok Tryz.prog 177 [.pb 0 0] [.box [.d .fz (.sl 1 (o0.b.map byD)),dI o0.i,dI o0.h]] (dS r.1) [.box [.d .fz (.sl 1 (o0.b.map byD)),dI r.2.i,dI r.2.h]]:=by
 refine OE Tryz.func177 fun S hS=>?_
 unfold q9S at hr
 refine J g<|J (LIR' 1 (m:=.fz) (f:=A.D.s) (xs:=[(⟨#[97]⟩:ByteArray),(⟨#[98]⟩:ByteArray),(⟨#[99]⟩:ByteArray),(⟨#[100]⟩:ByteArray),(⟨#[120]⟩:ByteArray),(⟨#[121]⟩:ByteArray),(⟨#[116]⟩:ByteArray),(⟨#[117]⟩:ByteArray)]))<|bdP hr fun y1 z1 hq1 hr=>J (CB' [(0,0)] [1] (q7M (m:=.bo) hq1))<|e
theorem j5N {Rc4:Int→l1Cur→Option (Expr×l1Cur)}(Ic4:∀ {a1:Int} {o0:l1Cur} {r:(Expr×l1Cur)},Rc4 a1 o0=some r→Ok Tryz.prog 131 [.pb 0 0,dI a1] [.box [.d .fz (.sl 1 (o0.b.map byD)),dI o0.i,dI o0.h]] (.ag [dI r.1.Kind,dI r.1.N,dI r.1.Pos,dI r.1.Type_,dS r.1.Symbol,dS r.1.Name,.ref 1 none]) [.box [.d .fz (.sl 1 (o0.b.map byD)),dI r.2.i,dI r.2.h],.row .fz 7 (r.1.Args.map Expr.D)]){a1:Int}{o0:l1Cur}{r:(Expr×l1Cur)}(hr:q7E Rc4 a1 o0=some r):Ok Tryz.prog 131 [.pb 0 0,dI a1] [.box [.d .fz (.sl 1 (o0.b.map byD)),dI o0.i,dI o0.h]] (.ag [dI r.1.Kind,dI r.1.N,dI r.1.Pos,dI r.1.Type_,dS r.1.Symbol,dS r.1.Name,.ref 1 none]) [.box [.d .fz (.sl 1 (o0.b.map byD)),dI r.2.i,dI r.2.h],.row .fz 7 (r.1.Args.map Expr.D)]:=by
 refine OE Tryz.func131 fun S hS=>?_
 unfold q7E at hr
 refine J g<|J (NV' 1)<|J (gn 6)<|ifE hr ?_ ?_<;>intro h1 hr
 refine bdP hr fun y1 z1 hq1 hr=>J g<|J (CB' [(0,0)] [] (q5m hq1))<|J (gn 1)<|ifE hr ?_ ?_<;>intro h2 hr
 refine J (gn 7) ?_
 refine J (q0c (q0j (q:=1) (c:=6) (r:=2) .fz 7 rfl rfl rfl))<|J g<|E
 refine bdP hr fun y2 z2 hq2 hr=>J g<|J (CB' [(0,0)] [] (q5m hq2))<|J (gn 1)<|ifE hr ?_ ?_<;>intro h3 hr
 refine bdP hr fun y3 z3 hq3 hr=>J g<|J (CB' [(0,0)] [] (q3R hq3))<|J (gn 4) ?_
 refine J (q0c (q0j (q:=1) (c:=6) (r:=2) .fz 7 rfl rfl rfl))<|J g<|E
 refine bdP hr fun y4 z4 hq4 hr=>J g<|J (CB' [(0,0)] [] (q3R hq4))<|ggE hr fun g1 hr=>bdP hr fun y5 z5 hq5 hr=>J g<|J (CB' [(0,0)] [] (q3R hq5))<|bdP hr fun y6 z6 hq6 hr=>J g<|J (CB' [(0,0)] [] (z5S hq6))<|J g<|J (LIR' 2 (m:=.fz) (f:=Oc.D) (xs:=[(⟨y5,y6⟩:Oc)]))<|bdP hr fun y7 z7 hq7 hr=>J (CB' [(0,0),(1,3)] [2] (q8U (m:=.bo) hq7))<|e
 refine bdP hr fun y8 z8 hq8 hr=>J g<|J (CB' [(0,0)] [] (q5m hq8))<|J (gn 2)<|ifE hr ?_ ?_<;>intro h4 hr
 refine bdP hr fun y9 z9 hq9 hr=>J g<|J (CB' [(0,0)] [] (q5m hq9))<|J (gn 1)<|ifE hr ?_ ?_<;>intro h5 hr
 refine J (gn 7) ?_
 refine J (q0c (q0j (q:=1) (c:=6) (r:=2) .fz 7 rfl rfl rfl))<|J g<|E
 refine bdP hr fun y10 z10 hq10 hr=>J g<|J (CB' [(0,0)] [] (q5m hq10))<|J (gn 1)<|ifE hr ?_ ?_<;>intro h6 hr
 refine bdP hr fun y11 z11 hq11 hr=>J g<|J (CB' [(0,0)] [] (q3R hq11))<|J (gn 4) ?_
 refine J (q0c (q0j (q:=1) (c:=6) (r:=2) .fz 7 rfl rfl rfl))<|J g<|E
 refine bdP hr fun y12 z12 hq12 hr=>J g<|J (CB' [(0,0)] [] (q3R hq12))<|ggE hr fun g2 hr=>bdP hr fun y13 z13 hq13 hr=>J g<|J (CB' [(0,0)] [] (q3R hq13))<|bdP hr fun y14 z14 hq14 hr=>J g<|J (CB' [(0,0)] [] (z5S hq14))<|J g<|J (LIR' 2 (m:=.fz) (f:=Oc.D) (xs:=[(⟨y13,y14⟩:Oc)]))<|bdP hr fun y15 z15 hq15 hr=>J (CB' [(0,0),(1,3)] [2] (q8U (m:=.bo) hq15))<|e
 refine bdP hr fun y16 z16 hq16 hr=>J g<|J (CB' [(0,0)] [] (q3R hq16))<|J (gn 7)<|ifE hr ?_ ?_<;>intro h7 hr
 refine ggE hr fun g3 hr=>bdP hr fun y17 z17 hq17 hr=>J g<|J (CB' [(0,0),(1,2)] [] (Ic4 hq17))<|ggE hr fun g4 hr=>bdP hr fun y18 z18 hq18 hr=>J g<|J (CB' [(0,0),(1,3)] [] (Ic4 hq18))<|ggE hr fun g5 hr=>bdP hr fun y19 z19 hq19 hr=>J g<|J (CB' [(0,0),(1,4)] [] (Ic4 hq19)) ?_
 refine J (q0m 2 rfl) ?_
 refine J (q0m 3 rfl) ?_
 refine J (q0m 4 rfl) ?_
 refine J (j4k 5 (m:=.fz) (f:=Expr.D) [y17,y18,y19] (by simp only[List.map_cons,List.map_nil,Expr.D_eq];rfl))<|J g<|E
 refine J (gn 6)<|ifE hr ?_ ?_<;>intro h8 hr
 refine J g<|J (LIR' 2 (m:=.fz) (f:=A.D.s) (xs:=[(⟨#[115]⟩:ByteArray),(⟨#[116]⟩:ByteArray)]))<|bdP hr fun y20 z20 hq20 hr=>J (CB' [(0,0)] [2] (q7M (m:=.bo) hq20))<|bdP hr fun y21 z21 hq21 hr=>J g<|J (CB' [(0,0)] [] (z5S hq21))<|ggE hr fun g6 hr=>bdP hr fun y22 z22 hq22 hr=>J g<|J (CB' [(0,0),(1,3)] [] (Ic4 hq22)) ?_
 refine J (q0m 3 rfl) ?_
 refine J (j4k 4 (m:=.fz) (f:=Expr.D) [y22] (by simp only[List.map_cons,List.map_nil,Expr.D_eq];rfl))<|J g<|E
 refine bdP hr fun y23 z23 hq23 hr=>J g<|J (CB' [(0,0)] [] (q3R hq23))<|ggE hr fun g7 hr=>ggE hr fun g8 hr=>bdP hr fun y24 z24 hq24 hr=>J g<|J (CB' [(0,0),(1,2)] [] (Ic4 hq24))<|ggE hr fun g9 hr=>bdP hr fun y25 z25 hq25 hr=>J g<|J (CB' [(0,0),(1,3)] [] (Ic4 hq25)) ?_
 refine J (q0m 2 rfl) ?_
 refine J (q0m 3 rfl)<|bdE hr fun y26 hy26 hr=>J (CB' [(0,4)] [] (z2R (m:=.fz) hy26))<|J g<|E
theorem j5O (n:Nat):∀ {a1:Int} {o0:l1Cur} {r:(Expr×l1Cur)},q6y n a1 o0=some r→Ok Tryz.prog 131 [.pb 0 0,dI a1] [.box [.d .fz (.sl 1 (o0.b.map byD)),dI o0.i,dI o0.h]] (.ag [dI r.1.Kind,dI r.1.N,dI r.1.Pos,dI r.1.Type_,dS r.1.Symbol,dS r.1.Name,.ref 1 none]) [.box [.d .fz (.sl 1 (o0.b.map byD)),dI r.2.i,dI r.2.h],.row .fz 7 (r.1.Args.map Expr.D)]:=by
  induction n with
  | zero=>intro _ _ r hr;exact nomatch (show (none:Option (Expr×l1Cur))=some r from hr)
  | succ n ih=>intro _ _ r hr;exact j5N ih hr
theorem j1T {a1:Int}{o0:l1Cur}{r:(Expr×l1Cur)}(hr:z7b a1 o0=some r):Ok Tryz.prog 131 [.pb 0 0,dI a1] [.box [.d .fz (.sl 1 (o0.b.map byD)),dI o0.i,dI o0.h]] (.ag [dI r.1.Kind,dI r.1.N,dI r.1.Pos,dI r.1.Type_,dS r.1.Symbol,dS r.1.Name,.ref 1 none]) [.box [.d .fz (.sl 1 (o0.b.map byD)),dI r.2.i,dI r.2.h],.row .fz 7 (r.1.Args.map Expr.D)]:=by
 obtain⟨n,hn⟩:=q6x hr
 exact j5O n hn
theorem j2Q {Rc5:Expr→Int→Option Bool}(Ic5:∀ {m:Md} {a0:Expr} {a1:Int} {r:Bool},Rc5 a0 a1=some r→Ok Tryz.prog 222 [Expr.x m a0,dI a1] [] (dB r) []){m:Md}{a0:Expr}{a1:Int}{r:Bool}(hr:q8G Rc5 a0 a1=some r):Ok Tryz.prog 222 [Expr.x m a0,dI a1] [] (dB r) []:=by
 refine OE Tryz.func222 fun S hS=>?_
 unfold q8G at hr
 refine J g<|J (BX' 0)<|J (gn 8)<|J (lenA 6 0)<|fun hl1=>bdE hr fun q1 hqq1 hr=>q0b hqq1 hl1 1 (fun k1 _=>[(1,dI a1),(2,.pb 0 0),(5,dI (k1:Int))]) (fun k1 _=>[]) I (fun k1 xk1 sk1 ok1 hxk1 hr hltk1 hik1=>?_) fun k1 sk1 ek1 hltk1=>?_
 refine bdE hr fun y1 hy1 hr=>J g<|J (CB' [] [] (Ic5 (m:=m) hy1))<|J (gn 2)<|ifE hr ?_ ?_<;>intro h1 hr
 exact e
 exact e
 subst ek1
 exact e
theorem j2R (n:Nat):∀ {m:Md} {a0:Expr} {a1:Int} {r:Bool},q6S n a0 a1=some r→Ok Tryz.prog 222 [Expr.x m a0,dI a1] [] (dB r) []:=by
  induction n with
  | zero=>intro _ _ _ r hr;exact nomatch (show (none:Option Bool)=some r from hr)
  | succ n ih=>intro _ _ _ r hr;exact j2Q ih hr
theorem j4x {m:Md}{a0:Expr}{a1:Int}{r:Bool}(hr:z4c a0 a1=some r):Ok Tryz.prog 222 [Expr.x m a0,dI a1] [] (dB r) []:=by
 obtain⟨n,hn⟩:=q6x hr
 exact j2R n hn
theorem z5T {m:Md}{a0:Expr}{a1:Int}{r:Bool}(hr:q9j a0 a1=some r):Ok Tryz.prog 176 [Expr.x m a0,dI a1] [] (dB r) []:=by
 refine OE Tryz.func176 fun S hS=>?_
 unfold q9j at hr
 refine J g<|J (BX' 0)<|bdE hr fun y1 hy1 hr=>J g<|J (CB' [] [] (z2s (m:=m) hy1))<|ifE hr ?_ ?_<;>intro h1 hr
 refine bdE hr fun y2 hy2 hr=>J g<|J (CB' [] [] (j4x (m:=m) hy2))<|e
 exact e
theorem j8m {o0:l1Cur}{r:(Rule×l1Cur)}(hr:z4W o0=some r):Ok Tryz.prog 129 [.pb 0 0] [.box [.d .fz (.sl 1 (o0.b.map byD)),dI o0.i,dI o0.h]] (.ag [dS r.1.Name,dS r.1.Left,.ref 1 none,dB r.1.Literal,.ref 2 none,.ref 3 none]) [.box [.d .fz (.sl 1 (o0.b.map byD)),dI r.2.i,dI r.2.h],.row .fz 1 (r.1.Right.map A.D.s),.row .fz 9 (r.1.Equations.map Eqn.D),.row .fz 16 (r.1.Contributions.map Cn.D)]:=by
 refine OE Tryz.func129 fun S hS=>?_
 unfold z4W at hr
 refine J g<|J (NV' 1)<|J g<|J (LIR' 2 (m:=.fz) (f:=A.D.s) (xs:=[(⟨#[112]⟩:ByteArray),(⟨#[113]⟩:ByteArray),(⟨#[108,101,97,102]⟩:ByteArray)]))<|bdP hr fun y1 z1 hq1 hr=>J (CB' [(0,0)] [2] (q7M (m:=.bo) hq1))<|J g<|J (LIR' 3 (m:=.fz) (f:=A.D.s) (xs:=[(⟨#[115]⟩:ByteArray),(⟨#[116]⟩:ByteArray)]))<|bdP hr fun y2 z2 hq2 hr=>J (CB' [(0,0)] [3] (q7M (m:=.bo) hq2))<|bdP hr fun y3 z3 hq3 hr=>J g<|J (CB' [(0,0)] [] (q5m hq3))<|J g<|J (NV' 4)<|bdP hr fun y4 z4 hq4 hr=>J g<|J (CB' [(0,0)] [] (q3R hq4))<|J (gn 8) ?_
 refine J (q0D 4 2 5 .fz 1 rfl rfl)<|J (rngT 4)<|fun hl1=>bdT hr fun s2 s3 s1 hqq5 hr=>q0i hqq5 6 (fun k1 (s2,s3,s1)=>[(0,.pb 0 0),(2,.pb 1 0),(3,.pb 4 0),(4,dI y4),(5,dI (k1:Int))]) (fun k1 (s2,s3,s1)=>[(0,.box [.d .fz (.sl 1 (o0.b.map byD)),dI s2,dI s3]),(5,.row .fz 1 (s1.map A.D.s))]) I (fun k1 sk1 ok1 hr hltk1=>?_) ?_
 obtain⟨s2,s3,s1⟩:=sk1
 refine J g<|J (LIR' 6 (m:=.fz) (f:=A.D.s) (xs:=[(⟨#[115]⟩:ByteArray),(⟨#[116]⟩:ByteArray),(⟨#[117]⟩:ByteArray)]))<|bdP hr fun y5 z5 hq6 hr=>J (CB' [(0,0)] [6] (q7M (m:=.bo) hq6))<|J (LIR' 7 (m:=.fz) (f:=A.D.s) (xs:=[y5]))<|ggE hr fun g1 hr=>J (z0F (f:=A.D.s) 8 (fun _=>rfl) 16 g1)<|e
 refine bdP hr fun y6 z6 hq7 hr=>J g<|J (CB' [(0,0)] [] (q3R hq7))<|J (gn 8) ?_
 refine J (q0D 4 4 6 .fz 9 rfl rfl)<|J (rngT 6)<|fun hl2=>bdT hr fun s4 s5 s6 hqq8 hr=>q0i hqq8 7 (fun k2 (s4,s5,s6)=>[(0,.pb 0 0),(2,.pb 1 0),(3,.pb 4 0),(4,dI y4),(6,dI y6),(7,dI (k2:Int))]) (fun k2 (s4,s5,s6)=>[(0,.box [.d .fz (.sl 1 (o0.b.map byD)),dI s4,dI s5]),(6,.row .fz 9 (s6.map Eqn.D))]) I (fun k2 sk2 ok2 hr hltk2=>?_) ?_
 obtain⟨s4,s5,s6⟩:=sk2
 refine bdT hr fun s8 s9 s7 hqq9 hr=>J (gn 10)<|q0e 7 [(0,.pb 0 0),(2,.pb 1 0),(3,.pb 4 0),(4,dI y4),(6,dI y6),(7,dI (k2:Int))] [(0,.box [.d .fz (.sl 1 (o0.b.map byD)),dI s8,dI s9]),(6,.row .fz 9 (s7.map Eqn.D))] ?_ ?_
 replace hr:=hqq9
 refine bdP hr fun y7 z7 hq10 hr=>J g<|J (CB' [(0,0)] [] (q3R hq10))<|ggE hr fun g2 hr=>bdP hr fun y8 z8 hq11 hr=>J g<|J (CB' [(0,0),(1,7)] [] (j1T hq11))<|J (NV' 8)<|bdE hr fun y9 hy9 hr=>J g<|J (CB' [] [7] (z5T (m:=.bo) hy9))<|J (gn 1)<|ifE hr ?_ ?_<;>intro h1 hr
 refine J (gn 1) ?_
 refine J (q2o 7 rfl)<|ggE hr fun g3 hr=>bdP hr fun y10 z9 hq12 hr=>J g<|J (CB' [(0,0)] [] (q3R hq12))<|bdP hr fun y11 z10 hq13 hr=>J g<|J (CB' [(0,0)] [] (z5S hq13))<|J g<|J (LIR' 9 (m:=.fz) (f:=Eqn.D) (xs:=[(⟨(⟨y10,y11⟩:Oc),y8⟩:Eqn)]))<|ggE hr fun g4 hr=>J (AP1' 10 .fz 112 g4)<|J g<|E
 exact e
 exact e
 refine bdP hr fun y12 z11 hq14 hr=>J g<|J (CB' [(0,0)] [] (q5m hq14))<|J (gn 1)<|ifE hr ?_ ?_<;>intro h2 hr
 refine bdP hr fun y13 z12 hq15 hr=>J g<|J (CB' [(0,0)] [] (q3R hq15))<|bdE hr fun y14 hy14 hr=>J (CBz' 7 [(0,7)] [] (q9A hy14))<|J g<|J (LIR' 8 (m:=.fz) (f:=Cn.D) (xs:=[(⟨(⟨#[115]⟩:ByteArray),(⟨#[99]⟩:ByteArray),(⟨6,0,0,0,(⟨#[]⟩:ByteArray),(⟨#[]⟩:ByteArray),[]⟩:Expr),y14⟩:Cn)])) ?_
 refine J (q3g 65 9 .fz 16 rfl)<|ggE hr fun g5 hr=>J (AP1' 10 .fz 208 g5)<|J g<|E
 refine J (gn 8) ?_
 refine J (q0c (q0j (q:=1) (c:=5) (r:=7) .fz 16 rfl rfl rfl))<|J g<|E
theorem j1U {o0:l1Cur}{r:(Expr×l1Cur)}(hr:z3r o0=some r):Ok Tryz.prog 74 [.pb 0 0] [.box [.d .fz (.sl 1 (o0.b.map byD)),dI o0.i,dI o0.h]] (.ag [dI r.1.Kind,dI r.1.N,dI r.1.Pos,dI r.1.Type_,dS r.1.Symbol,dS r.1.Name,.ref 1 none]) [.box [.d .fz (.sl 1 (o0.b.map byD)),dI r.2.i,dI r.2.h],.row .fz 7 (r.1.Args.map Expr.D)]:=by
 refine OE Tryz.func74 fun S hS=>?_
 unfold z3r at hr
 refine J g<|J (NV' 1)<|bdP hr fun y1 z1 hq1 hr=>J g<|J (CB' [(0,0)] [] (q3R hq1))<|ggE hr fun g1 hr=>bdP hr fun y2 z2 hq2 hr=>J g<|J (CB' [(0,0),(1,2)] [] (j1T hq2))<|J (NV' 3)<|bdE hr fun y3 hy3 hr=>J g<|J (CB' [] [2] (z2s (m:=.bo) hy3))<|J (gn 2)<|ifE hr ?_ ?_<;>intro h1 hr
 exact e
 refine J (gn 7) ?_
 refine J (q0c (q0j (q:=1) (c:=6) (r:=4) .fz 7 rfl rfl rfl))<|J g<|E
theorem j8n {o0:l1Cur}{r:(Expr×l1Cur)}(hr:z4X o0=some r):Ok Tryz.prog 130 [.pb 0 0] [.box [.d .fz (.sl 1 (o0.b.map byD)),dI o0.i,dI o0.h]] (.ag [dI r.1.Kind,dI r.1.N,dI r.1.Pos,dI r.1.Type_,dS r.1.Symbol,dS r.1.Name,.ref 1 none]) [.box [.d .fz (.sl 1 (o0.b.map byD)),dI r.2.i,dI r.2.h],.row .fz 7 (r.1.Args.map Expr.D)]:=by
 refine OE Tryz.func130 fun S hS=>?_
 unfold z4X at hr
 refine J g<|J (NV' 1)<|bdP hr fun y1 z1 hq1 hr=>J g<|J (CB' [(0,0),(1,2)] [] (j1U hq1))<|J (NV' 3)<|bdP hr fun y2 z2 hq2 hr=>J g<|J (CB' [(0,0)] [] (q3R hq2))<|J (gn 7)<|ifE hr ?_ ?_<;>intro h1 hr
 refine bdP hr fun y3 z3 hq3 hr=>J g<|J (CB' [(0,0)] [] (q3R hq3))<|e
 refine J (gn 6)<|ifE hr ?_ ?_<;>intro h2 hr
 refine J g ?_
 refine J (j4k 4 (m:=.fz) (f:=Expr.D) [(⟨7,0,0,0,(⟨#[]⟩:ByteArray),(⟨#[]⟩:ByteArray),[]⟩:Expr)] (by simp only[List.map_cons,List.map_nil,Expr.D_eq];rfl))<|ggE hr fun g1 hr=>J (AP1' 5 .fz 88 g1)<|J g<|E
 refine J (gn 6)<|ifE hr ?_ ?_<;>intro h3 hr
 refine J g<|J (LIR' 4 (m:=.fz) (f:=(A.D.i .i64)) (xs:=([(-1),13,4096,1000001]:List Int)))<|bdP hr fun y4 z4 hq4 hr=>J (CB' [(0,0)] [4] (q5V (m:=.bo) hq4))<|e
 refine J (gn 6)<|ifE hr ?_ ?_<;>intro h4 hr
 refine J g<|J (LIR' 4 (m:=.fz) (f:=(A.D.i .i64)) (xs:=([(-1),4,1]:List Int)))<|bdP hr fun y5 z5 hq5 hr=>J (CB' [(0,0)] [4] (q5V (m:=.bo) hq5))<|e
 refine J (gn 6)<|ifE hr ?_ ?_<;>intro h5 hr
 refine J g<|J (LIR' 4 (m:=.fz) (f:=A.D.s) (xs:=[(⟨#[105,102]⟩:ByteArray),(⟨#[]⟩:ByteArray),(⟨#[120]⟩:ByteArray)]))<|bdP hr fun y6 z6 hq6 hr=>J (CB' [(0,0)] [4] (q7M (m:=.bo) hq6))<|e
 refine J (gn 6)<|ifE hr ?_ ?_<;>intro h6 hr
 refine J g ?_
 have hl1:rngI .i64 5:=⟨by decide,by decide⟩
 refine bdE hr fun q7 hqq7 hr=>?_
 obtain⟨s1,s2,s3,s4,s5,s6,s7⟩:=q7
 refine q0i hqq7 4 (fun k1 (s1,s2,s3,s4,s5,s6,s7)=>[(2,.pb 1 0),(3,.pb 3 0),(4,dI (k1:Int))]) (fun k1 (s1,s2,s3,s4,s5,s6,s7)=>[(2,.row .fz 7 (s1.map Expr.D)),(3,.box [dI s2,dI s3,dI s4,dI s5,dS s6,dS s7,.ref 2 none])]) I (fun k1 sk1 ok1 hr hltk1=>?_) ?_
 obtain⟨s1,s2,s3,s4,s5,s6,s7⟩:=sk1
 unfold z7R at hr
 dsimp only at hr
 refine J (gn 13) ?_
 refine J (q0m 2 rfl)<|bdE hr fun y7 hy7 hr=>J (CB' [(0,4)] [] (z2R (m:=.fz) hy7))<|J g<|E
 exact e
 exact e
theorem j8o {o0:l1Cur}{r:(Rule×l1Cur)}(hr:z4Y o0=some r):Ok Tryz.prog 71 [.pb 0 0] [.box [.d .fz (.sl 1 (o0.b.map byD)),dI o0.i,dI o0.h]] (.ag [dS r.1.Name,dS r.1.Left,.ref 1 none,dB r.1.Literal,.ref 2 none,.ref 3 none]) [.box [.d .fz (.sl 1 (o0.b.map byD)),dI r.2.i,dI r.2.h],.row .fz 1 (r.1.Right.map A.D.s),.row .fz 9 (r.1.Equations.map Eqn.D),.row .fz 16 (r.1.Contributions.map Cn.D)]:=by
 refine OE Tryz.func71 fun S hS=>?_
 unfold z4Y at hr
 refine J g<|J (NV' 1)<|bdP hr fun y1 z1 hq1 hr=>J g<|J (CB' [(0,0),(1,2),(2,3),(3,4)] [] (j8m hq1))<|J (NV' 5)<|bdP hr fun y2 z2 hq2 hr=>J g<|J (CB' [(0,0)] [] (q3R hq2))<|J (gn 7)<|ifE hr ?_ ?_<;>intro h1 hr
 refine J g<|J (LIR' 6 (m:=.fz) (f:=A.D.s) (xs:=[(⟨#[105,102]⟩:ByteArray),(⟨#[]⟩:ByteArray),(⟨#[111,102]⟩:ByteArray)]))<|bdP hr fun y3 z3 hq3 hr=>J (CB' [(0,0)] [6] (q7M (m:=.bo) hq3))<|e
 refine J (gn 6)<|ifE hr ?_ ?_<;>intro h2 hr
 refine J g<|J (LIR' 6 (m:=.fz) (f:=A.D.s) (xs:=[(⟨#[115]⟩:ByteArray),(⟨#[115]⟩:ByteArray)]))<|ggE hr fun g1 hr=>J (j2K (f:=A.D.s) 7 16 (fun _=>rfl) g1)<|e
 refine J (gn 6)<|ifE hr ?_ ?_<;>intro h3 hr
 refine bdP hr fun y4 z4 hq4 hr=>J g<|J (CB' [(0,0)] [] (q3R hq4))<|ggE hr fun g2 hr=>bdP hr fun y5 z5 hq5 hr=>J g<|J (CBz' 6 [(0,0),(1,6)] [] (j8n hq5))<|J g<|J (LIR' 7 (m:=.fz) (f:=Eqn.D) (xs:=[(⟨(⟨(y4-1),(⟨#[97]⟩:ByteArray)⟩:Oc),y5⟩:Eqn)]))<|ggE hr fun g3 hr=>J (AP1' 8 .fz 112 g3)<|e
 refine J (gn 6)<|ifE hr ?_ ?_<;>intro h4 hr
 exact e
 refine J (gn 6)<|ifE hr ?_ ?_<;>intro h5 hr
 refine ggE hr fun g4 hr=>bdP hr fun y6 z6 hq6 hr=>J g<|J (CB' [(0,0)] [] (q3R hq6))<|ggE hr fun g5 hr=>ggE hr fun g6 hr=>J (CU' 6 g5 g6)<|e
 exact e
theorem j8p {o0:l1Cur}{r:(Symbol×l1Cur)}(hr:z4Z o0=some r):Ok Tryz.prog 72 [.pb 0 0] [.box [.d .fz (.sl 1 (o0.b.map byD)),dI o0.i,dI o0.h]] (.ag [dS r.1.Name,.ref 1 none]) [.box [.d .fz (.sl 1 (o0.b.map byD)),dI r.2.i,dI r.2.h],.row .fz 4 (r.1.Attributes.map At_.D)]:=by
 refine OE Tryz.func72 fun S hS=>?_
 unfold z4Z at hr
 refine J g<|J (NV' 1)<|J g<|J (LIR' 2 (m:=.fz) (f:=A.D.s) (xs:=[(⟨#[115]⟩:ByteArray),(⟨#[116]⟩:ByteArray),(⟨#[105,102]⟩:ByteArray),(⟨#[108,105,115,116,49]⟩:ByteArray)]))<|bdP hr fun y1 z1 hq1 hr=>J (CB' [(0,0)] [2] (q7M (m:=.bo) hq1))<|bdP hr fun y2 z2 hq2 hr=>J (CB' [(0,0),(1,3)] [] (j1S hq2))<|J (NV' 4)<|bdP hr fun y3 z3 hq3 hr=>J g<|J (CB' [(0,0)] [] (q3R hq3))<|J (gn 7)<|ifE hr ?_ ?_<;>intro h1 hr
 refine bdE hr fun x1 hx1 hr=>J g<|J (SE' (⟨x1.Name,x1.Type_,x1.Mode,true⟩:At_) hx1)<|e
 refine J (gn 6)<|ifE hr ?_ ?_<;>intro h2 hr
 refine bdP hr fun y4 z4 hq4 hr=>J g<|J (CB' [(0,0)] [] (q3R hq4))<|bdE hr fun x2 hx2 hr=>J g<|J (SE' (⟨x2.Name,x2.Type_,y4,x2.Circular⟩:At_) hx2)<|e
 refine J (gn 6)<|ifE hr ?_ ?_<;>intro h3 hr
 refine bdP hr fun y5 z5 hq5 hr=>J g<|J (CB' [(0,0)] [] (q3R hq5))<|bdE hr fun x3 hx3 hr=>J g<|J (SE' (⟨x3.Name,y5,x3.Mode,x3.Circular⟩:At_) hx3)<|e
 refine J (gn 6)<|ifE hr ?_ ?_<;>intro h4 hr
 refine J g<|J (LIR' 5 (m:=.fz) (f:=A.D.s) (xs:=[(⟨#[98]⟩:ByteArray),(⟨#[111,102]⟩:ByteArray),(⟨#[]⟩:ByteArray)]))<|bdP hr fun y6 z6 hq6 hr=>J (CB' [(0,0)] [5] (q7M (m:=.bo) hq6))<|bdE hr fun x4 hx4 hr=>J g<|J (SE' (⟨y6,x4.Type_,x4.Mode,x4.Circular⟩:At_) hx4)<|e
 refine J (gn 6)<|ifE hr ?_ ?_<;>intro h5 hr
 refine bdE hr fun s1 hqq7 hr=>J (gn 1)<|q0e 5 [(2,.pb 1 0),(3,.pb 4 0)] [(3,.row .fz 4 (s1.map At_.D))] ?_ ?_
 refine J g<|q0h hqq7 5 (fun s2=>[(2,.pb 1 0),(3,.pb 4 0)]) (fun s2=>[(3,.row .fz 4 (s2.map At_.D))]) I fun sk1 ok1 hr hik1=>?_
 obtain⟨s2,rfl⟩:∃ y,y=sk1:=⟨_,rfl⟩
 have hr:=hr
 refine J (gn 8)<|ifE hr ?_ ?_<;>intro h6 hr
 refine J g<|J (LIR' 5 (m:=.fz) (f:=A.D.s) (xs:=[(⟨#[101]⟩:ByteArray),(⟨#[102]⟩:ByteArray),(⟨#[103]⟩:ByteArray),(⟨#[104]⟩:ByteArray),(⟨#[105]⟩:ByteArray)]))<|bdE hr fun x5 hx5 hr=>J g<|J (LIR' 6 (m:=.fz) (f:=At_.D) (xs:=[(⟨x5,1,2,false⟩:At_)]))<|ggE hr fun g1 hr=>J (z0F (f:=At_.D) 7 (fun _=>rfl) 40 g1)<|e
 refine J (gn 2) ?_
 cases hr
 cases hik1 _ rfl
 exact q0g hS 5
 exact e
 exact e
theorem j5P {o0:l1Cur}{r:(Gm_×l1Cur)}(hr:z3s o0=some r):Ok Tryz.prog 31 [.pb 0 0] [.box [.d .fz (.sl 1 (o0.b.map byD)),dI o0.i,dI o0.h]] (.ag [.ref 1 none,.d .fz (.sl 6 (r.1.Rules.map Rule.D))]) [.box [.d .fz (.sl 1 (o0.b.map byD)),dI r.2.i,dI r.2.h],.deep .fz 2 (r.1.Symbols.map Symbol.O) []]:=by
 refine OE Tryz.func31 fun S hS=>?_
 unfold z3s at hr
 refine J g<|J (NV' 1)<|bdP hr fun y1 z1 hq1 hr=>J g<|J (CB' [(0,0)] [] (q5m hq1))<|bdP hr fun y2 z2 hq2 hr=>J (CB' [(0,0),(1,2),(2,3)] [] (j0i hq2))<|J (NV' 4)<|J g<|J (LEd' y2.Rules.length)<|bdP hr fun y3 z3 hq3 hr=>J (CB' [(0,0)] [] (q3R hq3))<|bdP hr fun y4 z4 hq4 hr=>J g<|J (CB' [(0,0)] [] (q3R hq4))<|J (gn 7)<|ifE hr ?_ ?_<;>intro h1 hr
 refine bdP hr fun y5 z5 hq5 hr=>J g<|J (CB' [(0,0),(1,5),(2,6),(3,7)] [] (j8o hq5))<|ggE hr fun g1 hr=>bdE hr fun x1 hx1 hr=>J (IEd' g1 (q3Z hx1))<|J (SD' [.d .fz (.s y5.Name),.d .fz (.s y5.Left),.o .fz 1 (y5.Right.map A.D.s),.d .fz (.b y5.Literal),.o .fz 9 (y5.Equations.map Eqn.D),.o .fz 16 (y5.Contributions.map Cn.D)] [5,6,7] (q3Z hx1))<|J (gn 7) ?_
 refine J (q0c (q0o 3 (he:=eset (f:=Rule.O) (x':=y5) (by first|rfl|(simp only[List.set_set];rfl))))) ?_
 refine J (q0c (q0p 3 Rule.D (by exact fun _=>rfl) rfl))<|J g<|E
 refine J (gn 6)<|ifE hr ?_ ?_<;>intro h2 hr
 refine bdP hr fun y6 z6 hq6 hr=>J g<|J (CB' [(0,0),(1,5)] [] (j8p hq6))<|bdE hr fun x2 hx2 hr=>J (IEd' (Int.natCast_nonneg _) (q3Z hx2))<|J (SD' [.d .fz (.s y6.Name),.o .fz 4 (y6.Attributes.map At_.D)] [5] (q3Z hx2))<|J (gn 7) ?_
 refine J (q0c (q0o 2 (he:=eset (f:=Symbol.O) (x':=y6) (by first|rfl|(simp only[List.set_set];rfl))))) ?_
 refine J (q0c (q0p 3 Rule.D (by exact fun _=>rfl) rfl))<|J g<|E
 refine J (gn 6)<|ifE hr ?_ ?_<;>intro h3 hr
 refine bdE hr fun x3 hx3 hr=>J g<|J (IEd' (Int.natCast_nonneg _) (q3Z hx3))<|J g<|J (LPd' [] (q3Z hx3))<|ggE hr fun g2 hr=>bdE hr fun x4 hx4 hr=>J (IEd' g2 (q3Z hx4))<|J g<|J (SD' [.d .fz (.s x3.Name)] [] (q3Z hx4))<|J (gn 7) ?_
 refine J (q0c (q0o 3 (he:=eset (f:=Rule.O) (x':=(⟨x3.Name,x4.Left,x4.Right,x4.Literal,x4.Equations,x4.Contributions⟩:Rule)) (by first|rfl|(simp only[List.set_set];rfl))))) ?_
 refine J (q0c (q0p 3 Rule.D (by exact fun _=>rfl) rfl))<|J g<|E
 refine J (gn 6)<|ifE hr ?_ ?_<;>intro h4 hr
 refine ggE hr fun g3 hr=>bdE hr fun x5 hx5 hr=>J g<|J (IEd' g3 (q3Z hx5))<|J (gn 1)<|J (q0U 3 y3.toNat 4 5 (q3Z hx5))<|J (LPd' [(4,5)] (q3T (q3Z hx5)))<|J (gn 3)<|ifE hr ?_ ?_<;>intro h5 hr
 refine J g<|J (IEd' g3 (q3T (q3Z hx5)))<|J g<|J (LPd' [(4,5)] (q3T (q3Z hx5)))<|ggE hr fun g4 hr=>J (SVL' (xs:=x5.Equations) (a:=1) (by decide) g4)<|J (IEd' g3 (q3T (q3Z hx5)))<|J (gn 1) ?_
 refine J (q0m 5 rfl)<|J (q3i 62 (.d .fz (.sl 9 ((x5.Equations.drop 1).map Eqn.D))) (congrArg (fun l=>X.d .fz (.sl 9 l)) k3K))<|J (SD' [.d .fz (.sl 9 ((x5.Equations.drop 1).map Eqn.D))] [] (q3T (q3Z hx5)))<|J (q2j (f:=Rule.O) 3 Rule.D (⟨x5.Name,x5.Left,x5.Right,x5.Literal,(x5.Equations.drop 1),x5.Contributions⟩:Rule) (by exact fun _=>rfl) hx5)<|J g<|E
 refine J (gn 8)<|J (q0c (q0B 3 y3.toNat 4 5 (q3T (q3Z hx5)))) ?_
 refine J (q0c (q0o 3 (he:=k1H (f:=Rule.O) hx5 (by first|rfl|(simp only[List.set_set];rfl))))) ?_
 refine J (q0c (q0p 3 Rule.D (by exact fun _=>rfl) rfl))<|J g<|E
 refine J (gn 6)<|ifE hr ?_ ?_<;>intro h6 hr
 refine ggE hr fun g5 hr=>bdE hr fun x6 hx6 hr=>J g<|J (IEd' g5 (q3Z hx6))<|J (gn 1)<|J (q0U 3 y3.toNat 4 5 (q3Z hx6))<|J (LPd' [(4,5)] (q3T (q3Z hx6)))<|J (gn 3)<|ifE hr ?_ ?_<;>intro h7 hr
 refine J g<|J (IEd' g5 (q3T (q3Z hx6)))<|J g<|J (LPd' [(4,5)] (q3T (q3Z hx6)))<|J g<|J (IEd' g5 (q3T (q3Z hx6)))<|J g<|J (LPd' [(4,5)] (q3T (q3Z hx6)))<|bdE hr fun x7 hx7 hr=>J g<|J (LIR' 6 (m:=.fz) (f:=Eqn.D) (xs:=[x7]))<|ggE hr fun g6 hr=>J (AP1' 7 .fz 112 g6)<|J (IEd' g5 (q3T (q3Z hx6)))<|J g<|J (SD' [.o .fz 9 ((x6.Equations++[x7]).map Eqn.D)] [7] (q3T (q3Z hx6)))<|J (gn 7) ?_
 refine J (q0c (q0o 3 (he:=eset (f:=Rule.O) (x':=(⟨x6.Name,x6.Left,x6.Right,x6.Literal,(x6.Equations++[x7]),x6.Contributions⟩:Rule)) (by first|rfl|(simp only[List.set_set];rfl))))) ?_
 refine J (q0c (q0p 3 Rule.D (by exact fun _=>rfl) rfl))<|J g<|E
 refine J (gn 8)<|J (q0c (q0B 3 y3.toNat 4 5 (q3T (q3Z hx6)))) ?_
 refine J (q0c (q0o 3 (he:=k1H (f:=Rule.O) hx6 (by first|rfl|(simp only[List.set_set];rfl))))) ?_
 refine J (q0c (q0p 3 Rule.D (by exact fun _=>rfl) rfl))<|J g<|E
 refine J (gn 6)<|ifE hr ?_ ?_<;>intro h8 hr
 refine J g<|J (LIR' 5 (m:=.fz) (f:=A.D.s) (xs:=[(⟨#[115]⟩:ByteArray),(⟨#[122]⟩:ByteArray)]))<|bdP hr fun y7 z7 hq7 hr=>J (CB' [(0,0)] [5] (q7M (m:=.bo) hq7))<|ggE hr fun g7 hr=>bdE hr fun x8 hx8 hr=>J (IEd' g7 (q3Z hx8))<|J g<|J (SD' [.d .fz (.s y7)] [] (q3Z hx8))<|J (gn 7) ?_
 refine J (q0c (q0o 3 (he:=eset (f:=Rule.O) (x':=(⟨x8.Name,y7,x8.Right,x8.Literal,x8.Equations,x8.Contributions⟩:Rule)) (by first|rfl|(simp only[List.set_set];rfl))))) ?_
 refine J (q0c (q0p 3 Rule.D (by exact fun _=>rfl) rfl))<|J g<|E
 refine J (gn 6)<|ifE hr ?_ ?_<;>intro h9 hr
 refine ggE hr fun g8 hr=>bdE hr fun x9 hx9 hr=>J g<|J (IEd' g8 (q3Z hx9))<|J (gn 1)<|J (q0U 3 y3.toNat 4 5 (q3Z hx9))<|J (LPd' [(4,5)] (q3T (q3Z hx9)))<|J (gn 3)<|ifE hr ?_ ?_<;>intro h10 hr
 refine J g<|J (IEd' g8 (q3T (q3Z hx9)))<|J g<|J (LPd' [(4,5)] (q3T (q3Z hx9)))<|bdP hr fun y8 z8 hq8 hr=>J g<|J (CBz' 6 [(0,0),(1,6)] [] (j1U hq8))<|bdE hr fun x10 hx10 hr=>J g<|J (SE' (⟨x10.At,y8⟩:Eqn) hx10)<|J (gn 7)<|J (q0c (q0B 3 y3.toNat 4 5 (q3T (q3Z hx9)))) ?_
 refine J (q0c (q0o 3 (he:=eset (f:=Rule.O) (x':=(⟨x9.Name,x9.Left,x9.Right,x9.Literal,(List.set x9.Equations 0 (⟨x10.At,y8⟩:Eqn)),x9.Contributions⟩:Rule)) (by first|rfl|(simp only[List.set_set];rfl))))) ?_
 refine J (q0c (q0p 3 Rule.D (by exact fun _=>rfl) rfl))<|J g<|E
 refine J (gn 8)<|J (q0c (q0B 3 y3.toNat 4 5 (q3T (q3Z hx9)))) ?_
 refine J (q0c (q0o 3 (he:=k1H (f:=Rule.O) hx9 (by first|rfl|(simp only[List.set_set];rfl))))) ?_
 refine J (q0c (q0p 3 Rule.D (by exact fun _=>rfl) rfl))<|J g<|E
 refine J (gn 8) ?_
 refine J (q0c (q0p 3 Rule.D (by exact fun _=>rfl) rfl))<|J g<|E
theorem z7T {a0:(List UInt8)}{r:Gm_}(hr:q8h a0=some r):Ok Tryz.prog 8 [.d .fz (.sl 1 (a0.map byD))] [] (.ag [.ref 0 none,.d .fz (.sl 6 (r.Rules.map Rule.D))]) [.deep .fz 2 (r.Symbols.map Symbol.O) []]:=by
 refine OE Tryz.func8 fun S hS=>?_
 unfold q8h at hr
 refine J g<|J (NV' 0)<|bdE hr fun y1 hy1 hr=>J g<|J (CB' [(0,1)] [] (j9F hy1))<|bdP hr fun y2 z1 hq1 hr=>J g<|J (CB' [(0,1)] [] (q5m hq1))<|J (gn 1)<|ifE hr ?_ ?_<;>intro h1 hr
 refine bdP hr fun y3 z2 hq2 hr=>J g<|J (CB' [(0,1),(1,2)] [] (j5P hq2))<|e
 refine bdP hr fun y4 z3 hq3 hr=>J g<|J (CB' [(0,1),(1,2),(2,3)] [] (j0i hq3))<|J (gn 3) ?_
 refine J (q0c (q0p 3 Rule.D (by exact fun _=>rfl) rfl))<|J g<|E
theorem z4H {a0:(List UInt8)}{r:Gm_}(hr:q7q a0=some r):Ok Tryz.prog 13 [.d .fz (.sl 1 (a0.map byD))] [] (.ag [.ref 0 none,.d .fz (.sl 6 (r.Rules.map Rule.D))]) [.deep .fz 2 (r.Symbols.map Symbol.O) []]:=by
 refine OE Tryz.func13 fun S hS=>?_
 unfold q7q at hr
 refine J g<|J (NV' 0)<|bdE hr fun y1 hy1 hr=>J g<|J (CB' [(0,1)] [] (z7T hy1))<|e
theorem z6a {a0:At_}{r:Bool}(hr:q6X a0=some r):Ok Tryz.prog 245 [At_.x .fz a0] [] (dB r) []:=by
 refine OE Tryz.func245 fun S hS=>?_
 unfold q6X at hr
 refine J g<|J (BX' 0)<|bdE hr fun y1 hy1 hr=>J g<|J (CB' [] [] (q5p hy1))<|bdE hr fun s1 hqq1 hr=>J (gn 1)<|q0a 6 [(1,.pb 0 0),(12,dB s1)] ?_ ?_
 replace hr:=hqq1
 refine ifE hr ?_ ?_<;>intro h1 hr
 refine bdE hr fun y2 hy2 hr=>J g<|J (CB' [] [] (q5E hy2))<|e
 exact e
 refine bdE hr fun s2 hqq2 hr=>q0a 6 [(1,.pb 0 0),(18,dB s2)] ?_ ?_
 replace hr:=hqq2
 refine ifE hr ?_ ?_<;>intro h2 hr
 exact e
 refine bdE hr fun y3 hy3 hr=>J g<|J (CB' [] [] (q5E hy3))<|e
 refine J (gn 1)<|ifE hr ?_ ?_<;>intro h3 hr
 exact e
 refine bdE hr fun s3 hqq3 hr=>J (gn 8)<|q0a 9 [(1,.pb 0 0),(30,dB s3)] ?_ ?_
 replace hr:=hqq3
 refine ifE hr ?_ ?_<;>intro h4 hr
 refine bdE hr fun s4 hqq4 hr=>J (gn 4)<|q0a 4 [(1,.pb 0 0),(22,dB true),(29,dB s4)] ?_ ?_
 replace hr:=hqq4
 refine ifE hr ?_ ?_<;>intro h5 hr
 exact e
 exact e
 exact e
 exact e
 refine J (gn 1)<|ifE hr ?_ ?_<;>intro h6 hr
 exact e
 refine bdE hr fun s5 hqq5 hr=>J (gn 7)<|q0a 5 [(38,dB s5)] ?_ ?_
 replace hr:=hqq5
 refine ifE hr ?_ ?_<;>intro h7 hr
 exact e
 exact e
 exact e
theorem j0j {m:Md}{a0:(List ByteArray)}{r:Bool}(hr:q9q a0=some r):Ok Tryz.prog 247 [.d m (.sl 1 (a0.map A.D.s))] [] (dB r) []:=by
 refine OE Tryz.func247 fun S hS=>?_
 unfold q9q at hr
 refine J (gn 10)<|J (lenT 0)<|fun hl1=>bdE hr fun q1 hqq1 hr=>q0b hqq1 hl1 0 (fun k1 _=>[(0,.d m (.sl 1 (a0.map A.D.s))),(3,dI (k1:Int))]) (fun k1 _=>[]) I (fun k1 xk1 sk1 ok1 hxk1 hr hltk1 hik1=>?_) fun k1 sk1 ek1 hltk1=>?_
 refine ggE hr fun g1 hr=>J g<|J (SLH' (Int.natCast_nonneg _) g1)<|bdE hr fun y1 hy1 hr=>J g<|J (CB' [] [] (z7o (m:=m) hy1))<|J (gn 1)<|ifE hr ?_ ?_<;>intro h1 hr
 exact e
 exact e
 subst ek1
 exact e
theorem z7U {m:Md}{a0:Symbol}{r:Bool}(hr:q8k a0=some r):Ok Tryz.prog 196 [Symbol.x m a0] [] (dB r) []:=by
 refine OE Tryz.func196 fun S hS=>?_
 unfold q8k at hr
 refine J g<|J (BX' 0)<|J g<|J (L0' 1 A.D.s)<|J (gn 8)<|J (lenA 1 0)<|fun hl1=>bdE hr fun q1 hqq1 hr=>q0b hqq1 hl1 2 (fun k1 s1=>[(1,.pb 0 0),(3,.ref 1 none),(4,dI (k1:Int))]) (fun k1 s1=>[(1,.row .fz 1 (s1.map A.D.s))]) I (fun k1 xk1 sk1 ok1 hxk1 hr hltk1 hik1=>?_) fun k1 sk1 ek1 hltk1=>?_
 obtain⟨s1,rfl⟩:∃ y,y=sk1:=⟨_,rfl⟩
 refine bdE hr fun y1 hy1 hr=>J g<|J (CB' [] [] (z6a hy1))<|J (gn 2)<|ifE hr ?_ ?_<;>intro h1 hr
 refine J g<|J (LIR' 2 (m:=.fz) (f:=A.D.s) (xs:=[xk1.Name]))<|ggE hr fun g1 hr=>J (z0F (f:=A.D.s) 3 (fun _=>rfl) 16 g1)<|e
 exact e
 subst ek1
 obtain⟨s1,rfl⟩:∃ y,y=sk1:=⟨_,rfl⟩
 refine bdE hr fun y2 hy2 hr=>J g<|J (CB' [] [] (q5p hy2))<|bdE hr fun s2 hqq2 hr=>q0a 5 [(3,.ref 1 none),(36,dB s2)] ?_ ?_
 replace hr:=hqq2
 refine ifE hr ?_ ?_<;>intro h2 hr
 exact e
 exact e
 refine bdE hr fun s3 hqq3 hr=>q0a 4 [(40,dB s3)] ?_ ?_
 replace hr:=hqq3
 refine ifE hr ?_ ?_<;>intro h3 hr
 refine bdE hr fun y3 hy3 hr=>J g<|J (CB' [] [1] (j0j (m:=.bo) hy3))<|e
 exact e
 exact e
theorem j0k {m:Md}{a0:Rule}{r:Bool}(hr:q9r a0=some r):Ok Tryz.prog 198 [Rule.x m a0] [] (dB r) []:=by
 refine OE Tryz.func198 fun S hS=>?_
 unfold q9r at hr
 refine J g<|J (BX' 0)<|bdE hr fun y1 hy1 hr=>J g<|J (CB' [] [] (q5p hy1))<|bdE hr fun s1 hqq1 hr=>J (gn 1)<|q0a 6 [(1,.pb 0 0),(3,dI (a0.Right.length:Int)),(21,dB s1)] ?_ ?_
 replace hr:=hqq1
 refine ifE hr ?_ ?_<;>intro h1 hr
 refine bdE hr fun y2 hy2 hr=>J g<|J (CB' [] [] (q5p hy2))<|e
 exact e
 refine bdE hr fun s2 hqq2 hr=>q0a 4 [(1,.pb 0 0),(3,dI (a0.Right.length:Int)),(25,dB s2)] ?_ ?_
 replace hr:=hqq2
 refine ifE hr ?_ ?_<;>intro h2 hr
 exact e
 exact e
 refine bdE hr fun s3 hqq3 hr=>q0a 6 [(1,.pb 0 0),(3,dI (a0.Right.length:Int)),(31,dB s3)] ?_ ?_
 replace hr:=hqq3
 refine ifE hr ?_ ?_<;>intro h3 hr
 exact e
 exact e
 refine J (gn 1)<|ifE hr ?_ ?_<;>intro h4 hr
 exact e
 refine J (gn 8) ?_
 refine AW.len (.box 0 2 rfl rfl) fun hl1=>?_
 refine bdE hr fun q4 hqq4 hr=>q0b hqq4 hl1 1 (fun k1 _=>[(1,.pb 0 0),(3,dI (a0.Right.length:Int)),(4,dI (k1:Int))]) (fun k1 _=>[]) I (fun k1 xk1 sk1 ok1 hxk1 hr hltk1 hik1=>?_) fun k1 sk1 ek1 hltk1=>?_
 refine bdE hr fun y3 hy3 hr=>J g<|J (CB' [] [] (q5p hy3))<|J (gn 2)<|ifE hr ?_ ?_<;>intro h5 hr
 exact e
 exact e
 subst ek1
 refine J (gn 15) ?_
 refine AW.len (.box 0 4 rfl rfl) fun hl2=>?_
 refine bdE hr fun q5 hqq5 hr=>q0b hqq5 hl2 1 (fun k2 _=>[(1,.pb 0 0),(3,dI (a0.Right.length:Int)),(5,dI (k2:Int))]) (fun k2 _=>[]) I (fun k2 xk2 sk2 ok2 hxk2 hr hltk2 hik2=>?_) fun k2 sk2 ek2 hltk2=>?_
 refine J g<|J (NV' 1)<|bdE hr fun y4 hy4 hr=>J g<|J (CB' [] [] (q5p hy4))<|bdE hr fun s4 hqq6 hr=>J (gn 1)<|q0a 8 [(1,.pb 0 0),(3,dI (a0.Right.length:Int)),(5,dI (k2:Int)),(6,.pb 1 0),(68,dB s4)] ?_ ?_
 replace hr:=hqq6
 refine ifE hr ?_ ?_<;>intro h6 hr
 refine bdE hr fun y5 hy5 hr=>J g<|J (CB' [] [] (q5E hy5))<|e
 exact e
 refine bdE hr fun s5 hqq7 hr=>q0a 7 [(1,.pb 0 0),(3,dI (a0.Right.length:Int)),(5,dI (k2:Int)),(75,dB s5)] ?_ ?_
 replace hr:=hqq7
 refine ifE hr ?_ ?_<;>intro h7 hr
 exact e
 refine bdE hr fun y6 hy6 hr=>J g<|J (CB' [] [] (z5T (m:=m) hy6))<|e
 refine J (gn 1)<|ifE hr ?_ ?_<;>intro h8 hr
 exact e
 exact e
 subst ek2
 refine J (gn 17) ?_
 refine AW.len (.box 0 5 rfl rfl) fun hl3=>?_
 refine bdE hr fun q8 hqq8 hr=>q0b hqq8 hl3 1 (fun k3 _=>[(1,.pb 0 0),(3,dI (a0.Right.length:Int)),(7,dI (k3:Int))]) (fun k3 _=>[]) I (fun k3 xk3 sk3 ok3 hxk3 hr hltk3 hik3=>?_) fun k3 sk3 ek3 hltk3=>?_
 refine J g<|J (NV' 1)<|bdE hr fun y7 hy7 hr=>J g<|J (CB' [] [] (q5p hy7))<|bdE hr fun s6 hqq9 hr=>J (gn 1)<|q0a 6 [(1,.pb 0 0),(3,dI (a0.Right.length:Int)),(7,dI (k3:Int)),(8,.pb 1 0),(97,dB s6)] ?_ ?_
 replace hr:=hqq9
 refine ifE hr ?_ ?_<;>intro h9 hr
 refine bdE hr fun y8 hy8 hr=>J g<|J (CB' [] [] (q5p hy8))<|e
 exact e
 refine bdE hr fun s7 hqq10 hr=>q0a 7 [(1,.pb 0 0),(3,dI (a0.Right.length:Int)),(7,dI (k3:Int)),(8,.pb 1 0),(104,dB s7)] ?_ ?_
 replace hr:=hqq10
 refine ifE hr ?_ ?_<;>intro h10 hr
 exact e
 refine bdE hr fun y9 hy9 hr=>J g<|J (CB' [] [] (z5T (m:=m) hy9))<|e
 refine bdE hr fun s8 hqq11 hr=>q0a 7 [(1,.pb 0 0),(3,dI (a0.Right.length:Int)),(7,dI (k3:Int)),(111,dB s8)] ?_ ?_
 replace hr:=hqq11
 refine ifE hr ?_ ?_<;>intro h11 hr
 exact e
 refine bdE hr fun y10 hy10 hr=>J g<|J (CB' [] [] (z5T (m:=m) hy10))<|e
 refine J (gn 1)<|ifE hr ?_ ?_<;>intro h12 hr
 exact e
 exact e
 subst ek3
 exact e
theorem j8q {m:Md}{a0:Gm_}{r:Int}(hr:z5n a0=some r):Ok Tryz.prog 146 [Gm_.x m a0] [] (dI r) []:=by
 refine OE Tryz.func146 fun S hS=>?_
 unfold z5n at hr
 refine J g<|J (BX' 0)<|J g<|J (L0' 1 A.D.s)<|J (gn 8)<|J (lenA 0 0)<|fun hl1=>bdE hr fun q1 hqq1 hr=>q0b hqq1 hl1 2 (fun k1 s1=>[(1,.pb 0 0),(3,.ref 1 none),(4,dI (k1:Int))]) (fun k1 s1=>[(1,.row .fz 1 (s1.map A.D.s))]) I (fun k1 xk1 sk1 ok1 hxk1 hr hltk1 hik1=>?_) fun k1 sk1 ek1 hltk1=>?_
 obtain⟨s1,rfl⟩:∃ y,y=sk1:=⟨_,rfl⟩
 refine bdE hr fun y1 hy1 hr=>J g<|J (CB' [] [] (z7U (m:=m) hy1))<|J (gn 1)<|ifE hr ?_ ?_<;>intro h1 hr
 refine bdE hr fun y2 hy2 hr=>J g<|J (CB' [] [1] (z7o (m:=.bo) hy2))<|J (gn 2)<|ifE hr ?_ ?_<;>intro h2 hr
 exact e
 refine J g<|J (LIR' 2 (m:=.fz) (f:=A.D.s) (xs:=[xk1.Name]))<|ggE hr fun g1 hr=>J (z0F (f:=A.D.s) 3 (fun _=>rfl) 16 g1)<|e
 exact e
 subst ek1
 obtain⟨s1,rfl⟩:∃ y,y=sk1:=⟨_,rfl⟩
 refine J g<|J (L0' 2 A.D.s)<|J (gn 8) ?_
 refine AW.len (.box 0 1 rfl rfl) fun hl2=>?_
 refine bdE hr fun q2 hqq2 hr=>q0b hqq2 hl2 3 (fun k2 s2=>[(1,.pb 0 0),(3,.ref 2 none),(5,dI (k2:Int))]) (fun k2 s2=>[(2,.row .fz 1 (s2.map A.D.s))]) I (fun k2 xk2 sk2 ok2 hxk2 hr hltk2 hik2=>?_) fun k2 sk2 ek2 hltk2=>?_
 obtain⟨s2,rfl⟩:∃ y,y=sk2:=⟨_,rfl⟩
 refine bdE hr fun y3 hy3 hr=>J g<|J (CB' [] [] (j0k (m:=m) hy3))<|J (gn 1)<|ifE hr ?_ ?_<;>intro h3 hr
 refine bdE hr fun y4 hy4 hr=>J g<|J (CB' [] [2] (z7o (m:=.bo) hy4))<|J (gn 2)<|ifE hr ?_ ?_<;>intro h4 hr
 exact e
 refine J g<|J (LIR' 3 (m:=.fz) (f:=A.D.s) (xs:=[xk2.Name]))<|ggE hr fun g2 hr=>J (z0F (f:=A.D.s) 4 (fun _=>rfl) 16 g2)<|e
 exact e
 subst ek2
 obtain⟨s2,rfl⟩:∃ y,y=sk2:=⟨_,rfl⟩
 exact e
theorem j1j {m:Md}{a0:Gm_}{a1:Rule}{r:Bool}(hr:z0h a0 a1=some r):Ok Tryz.prog 199 [Gm_.y m a0,Rule.x m a1] [] (dB r) []:=by
 refine OE Tryz.func199 fun S hS=>?_
 unfold z0h at hr
 refine J g<|J (BX' 0)<|J (BX' 1)<|bdE hr fun q1 hqq1 hr=>J (gn 7)<|AW.cut 2 (fun _=>[]) (fun _=>[]) (M:=fun x=>q1=.inl x) ?_ fun x hx=>?_
 refine J g<|q0h hqq1 2 (fun s1=>[(2,.pb 0 0),(3,.pb 1 0),(5,dI s1)]) (fun s1=>[]) I fun sk1 ok1 hr hik1=>?_
 obtain⟨s1,rfl⟩:∃ y,y=sk1:=⟨_,rfl⟩
 have hr:=hr
 refine J (gn 9)<|ifE hr ?_ ?_<;>intro h1 hr
 refine bdE hr fun y1 hy1 hr=>J g<|J (CB' [] [] (q7R (m:=m) hy1))<|bdP hr fun y2 y3 hq2 hr=>J (CB' [(0,2)] [] (q6K (m:=m) hq2))<|J g<|J (NV' 3)<|J (gn 8)<|ifE hr ?_ ?_<;>intro h2 hr
 refine ggE hr fun g1 hr=>e
 exact e
 refine J (gn 2) ?_
 cases hr
 cases hik1 _ rfl
 exact⟨_,rfl,GH.trans (q0E (q:=0) [.d m (.sl 2 (a0.Symbols.map Symbol.D)),.u] (.cons .rfl (.cons .u .nil)) rfl) (q0g hS 2)⟩
 subst hx
 exact e
theorem j5Q {Rc13:Expr→Option Expr}(Ic13:∀ {m:Md} {a0:Expr} {r:Expr},Rc13 a0=some r→Ok Tryz.prog 211 [Expr.x m a0] [] (.ag [dI r.Kind,dI r.N,dI r.Pos,dI r.Type_,dS r.Symbol,dS r.Name,.ref 0 none]) [.row .fz 7 (r.Args.map Expr.D)]){m:Md}{a0:Expr}{r:Expr}(hr:z0i Rc13 a0=some r):Ok Tryz.prog 211 [Expr.x m a0] [] (.ag [dI r.Kind,dI r.N,dI r.Pos,dI r.Type_,dS r.Symbol,dS r.Name,.ref 0 none]) [.row .fz 7 (r.Args.map Expr.D)]:=by
 refine OE Tryz.func211 fun S hS=>?_
 unfold z0i at hr
 refine J g<|J (BX' 0)<|J (NV' 1)<|J g<|J (L0' 2 Expr.D)<|J (gn 8)<|J (lenA 6 0)<|fun hl1=>bdE hr fun s1 hqq1 hr=>q0d hqq1 hl1 3 (fun k1 s1=>[(1,.pb 0 0),(2,.pb 1 0),(3,.ref 2 none),(4,dI (k1:Int))]) (fun k1 s1=>[(2,.row .fz 7 (s1.map Expr.D))]) I (fun k1 xk1 sk1 ok1 hxk1 hr hltk1=>?_) fun k1 hltk1=>?_
 obtain⟨s1,rfl⟩:∃ y,y=sk1:=⟨_,rfl⟩
 refine bdE hr fun y1 hy1 hr=>J g<|J (CB' [(0,3)] [] (Ic13 (m:=m) hy1)) ?_
 refine J (q0m 3 rfl) ?_
 refine J (j4k 4 (m:=.fz) (f:=Expr.D) [y1] (by simp only[List.map_cons,List.map_nil,Expr.D_eq];rfl))<|ggE hr fun g1 hr=>J (AP1' 5 .fz 88 g1)<|J g<|E
 exact e
theorem j5R (n:Nat):∀ {m:Md} {a0:Expr} {r:Expr},q6Y n a0=some r→Ok Tryz.prog 211 [Expr.x m a0] [] (.ag [dI r.Kind,dI r.N,dI r.Pos,dI r.Type_,dS r.Symbol,dS r.Name,.ref 0 none]) [.row .fz 7 (r.Args.map Expr.D)]:=by
  induction n with
  | zero=>intro _ _ r hr;exact nomatch (show (none:Option Expr)=some r from hr)
  | succ n ih=>intro _ _ r hr;exact j5Q ih hr
theorem j8r {m:Md}{a0:Expr}{r:Expr}(hr:z7j a0=some r):Ok Tryz.prog 211 [Expr.x m a0] [] (.ag [dI r.Kind,dI r.N,dI r.Pos,dI r.Type_,dS r.Symbol,dS r.Name,.ref 0 none]) [.row .fz 7 (r.Args.map Expr.D)]:=by
 obtain⟨n,hn⟩:=q6x hr
 exact j5R n hn
theorem z4A {m:Md}{a0:Rule}{a1:Oc}{r:(Expr×Bool)}(hr:q5z a0 a1=some r):Ok Tryz.prog 159 [Rule.x m a0,Oc.x .fz a1] [] (.tu [.ag [dI r.1.Kind,dI r.1.N,dI r.1.Pos,dI r.1.Type_,dS r.1.Symbol,dS r.1.Name,.ref 0 none],dB r.2]) [.row .fz 7 (r.1.Args.map Expr.D)]:=by
 refine OE Tryz.func159 fun S hS=>?_
 unfold q5z at hr
 refine J g<|J (BX' 0)<|J (BX' 1)<|J (NV' 2)<|J (gn 8)<|J (lenA 4 0)<|fun hl1=>bdE hr fun q1 hqq1 hr=>q0b hqq1 hl1 3 (fun k1 _=>[(2,.pb 0 0),(3,.pb 1 0),(4,.pb 2 0),(6,dI (k1:Int))]) (fun k1 _=>[]) I (fun k1 xk1 sk1 ok1 hxk1 hr hltk1 hik1=>?_) fun k1 sk1 ek1 hltk1=>?_
 refine J g ?_
 refine J (SQ' rfl rfl rfl rfl (q5P xk1.At a1))<|J (gn 1)<|ifE hr ?_ ?_<;>intro h1 hr
 refine bdE hr fun y1 hy1 hr=>J g<|J (CB' [(0,3)] [] (j8r (m:=m) hy1))<|e
 exact e
 subst ek1
 refine J (gn 18) ?_
 refine J (q0c (q0j (q:=2) (c:=6) (r:=3) .fz 7 rfl rfl rfl))<|J g<|E
theorem j1k {m:Md}{a0:Gm_}{a1:Rule}{r:Bool}(hr:z0j a0 a1=some r):Ok Tryz.prog 200 [Gm_.y m a0,Rule.x m a1] [] (dB r) []:=by
 refine OE Tryz.func200 fun S hS=>?_
 unfold z0j at hr
 refine J g<|J (BX' 0)<|J (BX' 1)<|bdE hr fun y1 hy1 hr=>J g<|J (CB' [(0,2)] [] (q7Z (m:=m) hy1))<|J (gn 8)<|J (lenR 2)<|fun hl1=>bdE hr fun q1 hqq1 hr=>q0b hqq1 hl1 3 (fun k1 _=>[(3,.pb 1 0),(5,.ref 2 none),(6,dI (k1:Int))]) (fun k1 _=>[]) I (fun k1 xk1 sk1 ok1 hxk1 hr hltk1 hik1=>?_) fun k1 sk1 ek1 hltk1=>?_
 refine bdP hr fun y2 y3 hq2 hr=>J g<|J (CB' [(0,3)] [] (z4A (m:=m) hq2))<|J g<|J (NV' 4)<|J (gn 8)<|ifE hr ?_ ?_<;>intro h1 hr
 exact e
 exact e
 subst ek1
 exact e
theorem z8D {m:Md}{a0:(List Oc)}{a1:Oc}{r:Bool}(hr:z0O a0 a1=some r):Ok Tryz.prog 248 [.d m (.sl 2 (a0.map Oc.D)),Oc.x .fz a1] [] (dB r) []:=by
 refine OE Tryz.func248 fun S hS=>?_
 unfold z0O at hr
 refine J g<|J (BX' 0)<|J (gn 8)<|J (lenT 0)<|fun hl1=>bdE hr fun q1 hqq1 hr=>q0b hqq1 hl1 1 (fun k1 _=>[(0,.d m (.sl 2 (a0.map Oc.D))),(3,.pb 0 0),(5,dI (k1:Int))]) (fun k1 _=>[]) I (fun k1 xk1 sk1 ok1 hxk1 hr hltk1 hik1=>?_) fun k1 sk1 ek1 hltk1=>?_
 refine J g ?_
 refine J (SQ' rfl rfl rfl rfl (q5P xk1 a1))<|J (gn 1)<|ifE hr ?_ ?_<;>intro h1 hr
 exact e
 exact e
 subst ek1
 exact e
theorem j4y {m:Md}{a0:Gm_}{a1:Rule}{r:Bool}(hr:z2n a0 a1=some r):Ok Tryz.prog 201 [Gm_.y m a0,Rule.x m a1] [] (dB r) []:=by
 refine OE Tryz.func201 fun S hS=>?_
 unfold z2n at hr
 refine J g<|J (BX' 0)<|J (BX' 1)<|bdE hr fun y1 hy1 hr=>J g<|J (CB' [(0,2)] [] (q7Z (m:=m) hy1))<|J g<|J (L0' 3 Oc.D)<|J (gn 8)<|J (lenA 4 1)<|fun hl1=>bdE hr fun q1 hqq1 hr=>q0b hqq1 hl1 4 (fun k1 s1=>[(3,.pb 1 0),(5,.ref 2 none),(6,.ref 3 none),(7,dI (k1:Int))]) (fun k1 s1=>[(3,.row .fz 2 (s1.map Oc.D))]) I (fun k1 xk1 sk1 ok1 hxk1 hr hltk1 hik1=>?_) fun k1 sk1 ek1 hltk1=>?_
 obtain⟨s1,rfl⟩:∃ y,y=sk1:=⟨_,rfl⟩
 refine J g<|J (NV' 4)<|bdE hr fun y2 hy2 hr=>J g<|J (CB' [] [2] (z8D (m:=.bo) hy2))<|J (gn 1)<|ifE hr ?_ ?_<;>intro h1 hr
 refine bdE hr fun y3 hy3 hr=>J g<|J (CB' [] [3] (z8D (m:=.bo) hy3))<|J (gn 2)<|ifE hr ?_ ?_<;>intro h2 hr
 exact e
 refine J g<|J (LIR' 5 (m:=.fz) (f:=Oc.D) (xs:=[xk1.At]))<|ggE hr fun g1 hr=>J (z0F (f:=Oc.D) 6 (fun _=>rfl) 24 g1)<|e
 exact e
 subst ek1
 obtain⟨s1,rfl⟩:∃ y,y=sk1:=⟨_,rfl⟩
 exact e
theorem j4z {a0:Oc}{a1:Oc}{r:Bool}(hr:z2o a0 a1=some r):Ok Tryz.prog 284 [Oc.x .fz a0,Oc.x .fz a1] [] (dB r) []:=by
 refine OE Tryz.func284 fun S hS=>?_
 unfold z2o at hr
 refine J g<|J (BX' 0)<|J (BX' 1)<|bdE hr fun s1 hqq1 hr=>J (gn 9)<|q0a 14 [(4,dB false),(23,dB s1)] ?_ ?_
 replace hr:=hqq1
 refine ifE hr ?_ ?_<;>intro h1 hr
 exact e
 refine bdE hr fun s2 hqq2 hr=>J (gn 6)<|q0a 7 [(4,dB false),(10,dB false),(22,dB s2)] ?_ ?_
 replace hr:=hqq2
 refine ifE hr ?_ ?_<;>intro h2 hr
 exact e
 exact e
 exact e
 exact e
theorem j9I {m:Md}{a0:(List Oc)}{a1:Oc}{r:(List Oc)}(hr:z7k a0 a1=some r):Ok Tryz.prog 258 [.d m (.sl 2 (a0.map Oc.D)),Oc.x .fz a1] [] (.d m (.sl 2 (r.map Oc.D))) []:=by
 refine OE Tryz.func258 fun S hS=>?_
 unfold z7k at hr
 refine J g<|J (BX' 0)<|bdE hr fun s1 hqq1 hr=>J (gn 7)<|q0e 1 [(0,.d m (.sl 2 (a0.map Oc.D))),(3,.pb 0 0),(5,dI s1)] [] ?_ ?_
 refine J g<|q0h hqq1 1 (fun s2=>[(0,.d m (.sl 2 (a0.map Oc.D))),(3,.pb 0 0),(5,dI s2)]) (fun s2=>[]) I fun sk1 ok1 hr hik1=>?_
 obtain⟨s2,rfl⟩:∃ y,y=sk1:=⟨_,rfl⟩
 have hr:=hr
 refine J (gn 7)<|ifE hr ?_ ?_<;>intro h1 hr
 refine ggE hr fun g1 hr=>bdE hr fun x1 hx1 hr=>bdE hr fun y1 hy1 hr=>J g<|J (CB' [] [] (j4z hy1))<|J (gn 2)<|ifE hr ?_ ?_<;>intro h2 hr
 refine ggE hr fun g2 hr=>e
 refine J (gn 2) ?_
 cases hr
 cases hik1 _ rfl
 exact q0g hS 1
 refine J (gn 11) ?_
 cases hr
 cases hik1 _ rfl
 exact q0g hS 1
 refine J (gn 7)<|ifE hr ?_ ?_<;>intro h3 hr
 refine ggE hr fun g3 hr=>bdE hr fun x2 hx2 hr=>J g ?_
 refine J (SQ' rfl rfl rfl rfl (q5P x2 a1))<|J (gn 2)<|ifE hr ?_ ?_<;>intro h4 hr
 exact e
 refine J g<|J (L0' 1 Oc.D)<|ggE hr fun g4 hr=>ggE hr fun g5 hr=>J g<|J (SLH' g4 g5)<|ggE hr fun g6 hr=>J (j2K (f:=Oc.D) 2 24 (fun _=>rfl) g6)<|J g<|J (LIR' 3 (m:=.fz) (f:=Oc.D) (xs:=[a1]))<|ggE hr fun g7 hr=>J (z0F (f:=Oc.D) 4 (fun _=>rfl) 24 g7)<|ggE hr fun g8 hr=>ggE hr fun g9 hr=>J g<|J (SLL' g8 g9)<|ggE hr fun g10 hr=>J (j2K (f:=Oc.D) 5 24 (fun _=>rfl) g10)<|J (gn 3) ?_
 refine J (q0c (q0r (r:=5) rfl)) ?_
 cases hr
 exact endA.ren [] 0 (.inr rfl) hS rfl rfl rfl (.md rfl) rfl rfl
 refine J g<|J (L0' 1 Oc.D)<|ggE hr fun g11 hr=>ggE hr fun g12 hr=>J g<|J (SLH' g11 g12)<|ggE hr fun g13 hr=>J (j2K (f:=Oc.D) 2 24 (fun _=>rfl) g13)<|J g<|J (LIR' 3 (m:=.fz) (f:=Oc.D) (xs:=[a1]))<|ggE hr fun g14 hr=>J (z0F (f:=Oc.D) 4 (fun _=>rfl) 24 g14)<|ggE hr fun g15 hr=>ggE hr fun g16 hr=>J g<|J (SLL' g15 g16)<|ggE hr fun g17 hr=>J (j2K (f:=Oc.D) 5 24 (fun _=>rfl) g17)<|J (gn 3) ?_
 refine J (q0c (q0r (r:=5) rfl)) ?_
 cases hr
 exact endA.ren [] 0 (.inr rfl) hS rfl rfl rfl (.md rfl) rfl rfl
theorem j5S {Rc14:Expr→(List Oc)→Option (List Oc)}(Ic14:∀ {m:Md} {a0:Expr} {a1:(List Oc)} {r:(List Oc)},Rc14 a0 a1=some r→Ok Tryz.prog 212 [Expr.x m a0,.d m (.sl 2 (a1.map Oc.D))] [] (.d m (.sl 2 (r.map Oc.D))) []){m:Md}{a0:Expr}{a1:(List Oc)}{r:(List Oc)}(hr:z1w Rc14 a0 a1=some r):Ok Tryz.prog 212 [Expr.x m a0,.d m (.sl 2 (a1.map Oc.D))] [] (.d m (.sl 2 (r.map Oc.D))) []:=by
 refine OE Tryz.func212 fun S hS=>?_
 unfold z1w at hr
 refine J g<|J (BX' 0)<|J (gn 9)<|ifE hr ?_ ?_<;>intro h1 hr
 refine bdE hr fun y1 hy1 hr=>J g<|J (CB' [] [] (j9I (m:=m) hy1))<|J (gn 8)<|J (lenA 6 0)<|fun hl1=>bdE hr fun s1 hqq1 hr=>q0d hqq1 hl1 1 (fun k1 s1=>[(1,.d m (.sl 2 (s1.map Oc.D))),(2,.pb 0 0),(5,dI (k1:Int))]) (fun k1 s1=>[]) I (fun k1 xk1 sk1 ok1 hxk1 hr hltk1=>?_) fun k1 hltk1=>?_
 obtain⟨s1,rfl⟩:∃ y,y=sk1:=⟨_,rfl⟩
 refine bdE hr fun y2 hy2 hr=>J g<|J (CB' [] [] (Ic14 (m:=m) hy2))<|e
 exact e
 refine J (gn 8)<|J (lenA 6 0)<|fun hl2=>bdE hr fun s2 hqq2 hr=>q0d hqq2 hl2 1 (fun k2 s2=>[(1,.d m (.sl 2 (s2.map Oc.D))),(2,.pb 0 0),(5,dI (k2:Int))]) (fun k2 s2=>[]) I (fun k2 xk2 sk2 ok2 hxk2 hr hltk2=>?_) fun k2 hltk2=>?_
 obtain⟨s2,rfl⟩:∃ y,y=sk2:=⟨_,rfl⟩
 refine bdE hr fun y3 hy3 hr=>J g<|J (CB' [] [] (Ic14 (m:=m) hy3))<|e
 exact e
theorem j5T (n:Nat):∀ {m:Md} {a0:Expr} {a1:(List Oc)} {r:(List Oc)},q7s n a0 a1=some r→Ok Tryz.prog 212 [Expr.x m a0,.d m (.sl 2 (a1.map Oc.D))] [] (.d m (.sl 2 (r.map Oc.D))) []:=by
  induction n with
  | zero=>intro _ _ _ r hr;exact nomatch (show (none:Option (List Oc))=some r from hr)
  | succ n ih=>intro _ _ _ r hr;exact j5S ih hr
theorem j8s {m:Md}{a0:Expr}{a1:(List Oc)}{r:(List Oc)}(hr:j0a a0 a1=some r):Ok Tryz.prog 212 [Expr.x m a0,.d m (.sl 2 (a1.map Oc.D))] [] (.d m (.sl 2 (r.map Oc.D))) []:=by
 obtain⟨n,hn⟩:=q6x hr
 exact j5T n hn
theorem z3G {m:Md}{a0:Expr}{r:(List Oc)}(hr:q6u a0=some r):Ok Tryz.prog 160 [Expr.x m a0] [] (.d m (.sl 2 (r.map Oc.D))) []:=by
 refine OE Tryz.func160 fun S hS=>?_
 unfold q6u at hr
 refine J g<|J (BX' 0)<|J g<|J (L0' 1 Oc.D) ?_
 refine J (q0m 1 rfl)<|bdE hr fun y1 hy1 hr=>J (CB' [] [] (j8s (m:=m) hy1))<|J g<|E
theorem j8t {m:Md}{a0:Gm_}{a1:Rule}{a2:Oc}{r:Bool}(hr:z5o a0 a1 a2=some r):Ok Tryz.prog 277 [Gm_.y m a0,Rule.x m a1,Oc.x .fz a2] [] (dB r) []:=by
 refine OE Tryz.func277 fun S hS=>?_
 unfold z5o at hr
 refine J g<|J (BX' 0)<|J (BX' 1)<|J (BX' 2)<|bdE hr fun y1 hy1 hr=>J g<|J (CB' [] [] (q5E hy1))<|J (gn 2)<|ifE hr ?_ ?_<;>intro h1 hr
 refine bdE hr fun y2 hy2 hr=>J g<|J (CB' [] [] (q7R (m:=m) hy2))<|bdP hr fun y3 y4 hq1 hr=>J (CB' [(0,3)] [] (q6K (m:=m) hq1))<|J g<|J (NV' 4)<|bdP hr fun y5 y6 hq2 hr=>J g<|J (CB' [] [3] (q8T (m:=.bo) hq2))<|J g<|J (NV' 5)<|J (gn 10)<|ifE hr ?_ ?_<;>intro h2 hr
 refine bdE hr fun s1 hqq3 hr=>J (gn 4)<|q0a 5 [(6,dB false),(42,dB s1)] ?_ ?_
 replace hr:=hqq3
 refine ifE hr ?_ ?_<;>intro h3 hr
 exact e
 exact e
 exact e
 refine bdE hr fun s2 hqq4 hr=>J (gn 5)<|q0a 5 [(6,dB false),(48,dB s2)] ?_ ?_
 replace hr:=hqq4
 refine ifE hr ?_ ?_<;>intro h4 hr
 exact e
 exact e
 exact e
 exact e
theorem z6t {m:Md}{a0:Gm_}{a1:Rule}{a2:Expr}{r:Bool}(hr:z0P a0 a1 a2=some r):Ok Tryz.prog 249 [Gm_.y m a0,Rule.x m a1,Expr.x m a2] [] (dB r) []:=by
 refine OE Tryz.func249 fun S hS=>?_
 unfold z0P at hr
 refine J g<|J (BX' 0)<|J (BX' 1)<|J (BX' 2)<|bdE hr fun y1 hy1 hr=>J g<|J (CB' [] [] (z3G (m:=m) hy1))<|J (gn 8)<|J (lenT 7)<|fun hl1=>bdE hr fun q1 hqq1 hr=>q0b hqq1 hl1 3 (fun k1 _=>[(3,.pb 0 0),(4,.pb 1 0),(7,.d m (.sl 2 (y1.map Oc.D))),(8,dI (k1:Int))]) (fun k1 _=>[]) I (fun k1 xk1 sk1 ok1 hxk1 hr hltk1 hik1=>?_) fun k1 sk1 ek1 hltk1=>?_
 refine bdE hr fun y2 hy2 hr=>J g<|J (CB' [] [] (j8t (m:=m) hy2))<|J (gn 2)<|ifE hr ?_ ?_<;>intro h1 hr
 exact e
 exact e
 subst ek1
 exact e
theorem j2S {m:Md}{a0:Gm_}{a1:Rule}{r:Bool}(hr:z1x a0 a1=some r):Ok Tryz.prog 202 [Gm_.y m a0,Rule.x m a1] [] (dB r) []:=by
 refine OE Tryz.func202 fun S hS=>?_
 unfold z1x at hr
 refine J g<|J (BX' 0)<|J (BX' 1)<|J (gn 8)<|J (lenA 4 1)<|fun hl1=>bdE hr fun q1 hqq1 hr=>q0b hqq1 hl1 2 (fun k1 _=>[(2,.pb 0 0),(3,.pb 1 0),(5,dI (k1:Int))]) (fun k1 _=>[]) I (fun k1 xk1 sk1 ok1 hxk1 hr hltk1 hik1=>?_) fun k1 sk1 ek1 hltk1=>?_
 refine bdE hr fun y1 hy1 hr=>J g<|J (CB' [] [] (z6t (m:=m) hy1))<|J (gn 2)<|ifE hr ?_ ?_<;>intro h1 hr
 exact e
 exact e
 subst ek1
 refine J (gn 17) ?_
 refine AW.len (.box 1 5 rfl rfl) fun hl2=>?_
 refine bdE hr fun q2 hqq2 hr=>q0b hqq2 hl2 2 (fun k2 _=>[(2,.pb 0 0),(3,.pb 1 0),(6,dI (k2:Int))]) (fun k2 _=>[]) I (fun k2 xk2 sk2 ok2 hxk2 hr hltk2 hik2=>?_) fun k2 sk2 ek2 hltk2=>?_
 refine bdE hr fun y2 hy2 hr=>J g<|J (CB' [] [] (z6t (m:=m) hy2))<|J (gn 1)<|ifE hr ?_ ?_<;>intro h2 hr
 refine bdE hr fun y3 hy3 hr=>J g<|J (CB' [] [] (z6t (m:=m) hy3))<|J (gn 3)<|ifE hr ?_ ?_<;>intro h3 hr
 exact e
 exact e
 exact e
 subst ek2
 exact e
theorem j2T {m:Md}{a0:Gm_}{a1:Rule}{a2:Int}{r:Bool}(hr:z1y a0 a1 a2=some r):Ok Tryz.prog 147 [Gm_.y m a0,Rule.x m a1,dI a2] [] (dB r) []:=by
 refine OE Tryz.func147 fun S hS=>?_
 unfold z1y at hr
 refine J g<|J (BX' 0)<|J (BX' 1)<|J (gn 13)<|ifE hr ?_ ?_<;>intro h1 hr
 refine bdE hr fun y1 hy1 hr=>J g<|J (CB' [] [] (j1j (m:=m) hy1))<|e
 refine J (gn 6)<|ifE hr ?_ ?_<;>intro h2 hr
 refine bdE hr fun y2 hy2 hr=>J g<|J (CB' [] [] (j1k (m:=m) hy2))<|e
 refine J (gn 6)<|ifE hr ?_ ?_<;>intro h3 hr
 refine bdE hr fun y3 hy3 hr=>J g<|J (CB' [] [] (j4y (m:=m) hy3))<|e
 refine bdE hr fun y4 hy4 hr=>J g<|J (CB' [] [] (j2S (m:=m) hy4))<|e
theorem j1l {m:Md}{a0:Gm_}{r:(Int×Int)}(hr:z0k a0=some r):Ok Tryz.prog 87 [Gm_.x m a0] [] (.tu [dI r.1,dI r.2]) []:=by
 refine OE Tryz.func87 fun S hS=>?_
 unfold z0k at hr
 refine J g<|J (BX' 0)<|bdE hr fun y1 hy1 hr=>J g<|J (CB' [] [] (q5E hy1))<|J (gn 1)<|ifE hr ?_ ?_<;>intro h1 hr
 refine bdE hr fun y2 hy2 hr=>J g<|J (CB' [] [] (q5E hy2))<|J (gn 3)<|ifE hr ?_ ?_<;>intro h2 hr
 refine bdE hr fun y3 hy3 hr=>J g<|J (CB' [] [] (j8q (m:=m) hy3))<|J (gn 8)<|ifE hr ?_ ?_<;>intro h3 hr
 exact e
 refine bdE hr fun x1 hx1 hr=>J (gn 8) ?_
 refine AW.len (.el 1 (.ag 0 (.tmp 0 rfl) rfl) hx1 rfl) fun hl1=>?_
 refine bdE hr fun q1 hqq1 hr=>q0b hqq1 hl1 1 (fun k1 _=>[(1,.pb 0 0),(5,dI (k1:Int))]) (fun k1 _=>[]) I (fun k1 xk1 sk1 ok1 hxk1 hr hltk1 hik1=>?_) fun k1 sk1 ek1 hltk1=>?_
 refine J (gn 29)<|ifE hr ?_ ?_<;>intro h4 hr
 exact e
 exact e
 subst ek1
 refine bdE hr fun q2 hqq2 hr=>J (gn 19)<|AW.cut 1 (fun _=>[]) (fun _=>[]) (M:=fun x=>q2=.inl x) ?_ fun x hx=>?_
 refine J g<|q0h hqq2 1 (fun s1=>[(1,.pb 0 0),(6,dI s1)]) (fun s1=>[]) I fun sk2 ok2 hr hik2=>?_
 obtain⟨s1,rfl⟩:∃ y,y=sk2:=⟨_,rfl⟩
 have hr:=hr
 refine J (gn 6)<|ifE hr ?_ ?_<;>intro h5 hr
 refine J (gn 9) ?_
 refine AW.len (.box 0 1 rfl rfl) fun hl3=>?_
 refine bdE hr fun q3 hqq3 hr=>q0b hqq3 hl3 1 (fun k3 _=>[(1,.pb 0 0),(6,dI s1),(7,dI (k3:Int))]) (fun k3 _=>[]) I (fun k3 xk3 sk3 ok3 hxk3 hr hltk3 hik3=>?_) fun k3 sk3 ek3 hltk3=>?_
 refine bdE hr fun y4 hy4 hr=>J g<|J (CB' [] [] (j2T (m:=m) hy4))<|J (gn 1)<|ifE hr ?_ ?_<;>intro h6 hr
 exact e
 exact e
 subst ek3
 refine ggE hr fun g1 hr=>e
 refine J (gn 2) ?_
 cases hr
 cases hik2 _ rfl
 exact⟨_,rfl,q0g hS 1⟩
 subst hx
 exact e
 exact e
 exact e
theorem z1C {m:Md}{a0:Gm_}{a1:ByteArray}{a2:ByteArray}{r:Int}(hr:q6Z a0 a1 a2=some r):Ok Tryz.prog 149 [Gm_.y m a0,dS a1,dS a2] [] (dI r) []:=by
 refine OE Tryz.func149 fun S hS=>?_
 unfold q6Z at hr
 refine J g<|J (BX' 0)<|bdP hr fun y1 y2 hq1 hr=>J g<|J (CB' [(0,1)] [] (q6K (m:=m) hq1))<|J g<|J (NV' 2)<|bdP hr fun y3 y4 hq2 hr=>J g<|J (CB' [] [1] (q8T (m:=.bo) hq2))<|J g<|J (NV' 3)<|J (gn 9)<|ifE hr ?_ ?_<;>intro h1 hr
 exact e
 exact e
theorem j9J {Rc15:Gm_→Rule→Expr→Option Int}(Ic15:∀ {m:Md} {a0:Gm_} {a1:Rule} {a2:Expr} {r:Int},Rc15 a0 a1 a2=some r→Ok Tryz.prog 148 [Gm_.y m a0,Rule.x m a1,Expr.x m a2] [] (dI r) []){m:Md}{a0:Gm_}{a1:Rule}{a2:Expr}{r:Int}(hr:z9l Rc15 a0 a1 a2=some r):Ok Tryz.prog 203 [Gm_.y m a0,Rule.x m a1,Expr.x m a2] [] (dI r) []:=by
 refine OE Tryz.func203 fun S hS=>?_
 unfold z9l at hr
 refine J g<|J (BX' 0)<|J (BX' 1)<|J (BX' 2)<|bdT hr fun y1 y2 y3 hq1 hr=>J g<|J (CB' [] [] (q6w hq1))<|J (gn 15)<|ifE hr ?_ ?_<;>intro h1 hr
 refine bdE hr fun x1 hx1 hr=>bdE hr fun y4 hy4 hr=>J g<|J (CB' [] [] (Ic15 (m:=m) hy4))<|J (gn 3)<|ifE hr ?_ ?_<;>intro h2 hr
 refine bdE hr fun x2 hx2 hr=>bdE hr fun y5 hy5 hr=>J g<|J (CB' [] [] (Ic15 (m:=m) hy5))<|J (gn 4)<|ifE hr ?_ ?_<;>intro h3 hr
 exact e
 exact e
 exact e
 exact e
theorem j9K {Rc15:Gm_→Rule→Expr→Option Int}(Ic15:∀ {m:Md} {a0:Gm_} {a1:Rule} {a2:Expr} {r:Int},Rc15 a0 a1 a2=some r→Ok Tryz.prog 148 [Gm_.y m a0,Rule.x m a1,Expr.x m a2] [] (dI r) []){m:Md}{a0:Gm_}{a1:Rule}{a2:Expr}{r:Int}(hr:z9m Rc15 a0 a1 a2=some r):Ok Tryz.prog 204 [Gm_.y m a0,Rule.x m a1,Expr.x m a2] [] (dI r) []:=by
 refine OE Tryz.func204 fun S hS=>?_
 unfold z9m at hr
 refine J g<|J (BX' 0)<|J (BX' 1)<|J (BX' 2)<|J (gn 9)<|ifE hr ?_ ?_<;>intro h1 hr
 refine bdE hr fun x1 hx1 hr=>bdE hr fun y1 hy1 hr=>J g<|J (CB' [] [] (Ic15 (m:=m) hy1))<|J (gn 3)<|ifE hr ?_ ?_<;>intro h2 hr
 refine bdE hr fun x2 hx2 hr=>bdE hr fun y2 hy2 hr=>J g<|J (CB' [] [] (Ic15 (m:=m) hy2))<|bdE hr fun x3 hx3 hr=>bdE hr fun y3 hy3 hr=>J g<|J (CB' [] [] (Ic15 (m:=m) hy3))<|J (gn 2)<|ifE hr ?_ ?_<;>intro h3 hr
 exact e
 exact e
 exact e
 exact e
theorem j0l {Rc15:Gm_→Rule→Expr→Option Int}(Ic15:∀ {m:Md} {a0:Gm_} {a1:Rule} {a2:Expr} {r:Int},Rc15 a0 a1 a2=some r→Ok Tryz.prog 148 [Gm_.y m a0,Rule.x m a1,Expr.x m a2] [] (dI r) []){m:Md}{a0:Gm_}{a1:Rule}{a2:Expr}{r:Int}(hr:z0l Rc15 a0 a1 a2=some r):Ok Tryz.prog 148 [Gm_.y m a0,Rule.x m a1,Expr.x m a2] [] (dI r) []:=by
 refine OE Tryz.func148 fun S hS=>?_
 unfold z0l at hr
 refine J g<|J (BX' 0)<|J (BX' 1)<|J (BX' 2)<|J (gn 14)<|ifE hr ?_ ?_<;>intro h1 hr
 exact e
 refine J (gn 6)<|ifE hr ?_ ?_<;>intro h2 hr
 refine J (gn 6)<|ifE hr ?_ ?_<;>intro h3 hr
 exact e
 exact e
 refine J (gn 6)<|ifE hr ?_ ?_<;>intro h4 hr
 refine bdE hr fun y1 hy1 hr=>J g<|J (CB' [] [] (q5E hy1))<|J (gn 1)<|ifE hr ?_ ?_<;>intro h5 hr
 refine bdE hr fun y2 hy2 hr=>J g<|J (CB' [] [] (q7R (m:=m) hy2))<|bdE hr fun y3 hy3 hr=>J g<|J (CB' [] [] (z1C (m:=m) hy3))<|e
 exact e
 refine J (gn 6)<|ifE hr ?_ ?_<;>intro h6 hr
 refine bdE hr fun y4 hy4 hr=>J g<|J (CB' [] [] (j9J Ic15 (m:=m) hy4))<|e
 refine J (gn 6)<|ifE hr ?_ ?_<;>intro h7 hr
 refine bdE hr fun y5 hy5 hr=>J g<|J (CB' [] [] (j9K Ic15 (m:=m) hy5))<|e
 refine J (gn 6)<|ifE hr ?_ ?_<;>intro h8 hr
 refine bdE hr fun y6 hy6 hr=>J g<|J (CB' [] [] (q5E hy6))<|J (gn 1)<|ifE hr ?_ ?_<;>intro h9 hr
 exact e
 exact e
 refine J (gn 6)<|ifE hr ?_ ?_<;>intro h10 hr
 exact e
 refine J (gn 6)<|ifE hr ?_ ?_<;>intro h11 hr
 refine J (gn 7)<|ifE hr ?_ ?_<;>intro h12 hr
 refine bdE hr fun x1 hx1 hr=>bdE hr fun y7 hy7 hr=>J g<|J (CB' [] [] (Ic15 (m:=m) hy7))<|J (gn 3)<|ifE hr ?_ ?_<;>intro h13 hr
 refine bdE hr fun y8 hy8 hr=>J g<|J (CB' [] [] (z1C (m:=m) hy8))<|e
 exact e
 exact e
 exact e
theorem j0m (n:Nat):∀ {m:Md} {a0:Gm_} {a1:Rule} {a2:Expr} {r:Int},q8Q n a0 a1 a2=some r→Ok Tryz.prog 148 [Gm_.y m a0,Rule.x m a1,Expr.x m a2] [] (dI r) []:=by
  induction n with
  | zero=>intro _ _ _ _ r hr;exact nomatch (show (none:Option Int)=some r from hr)
  | succ n ih=>intro _ _ _ _ r hr;exact j0l ih hr
theorem z3e {m:Md}{a0:Gm_}{a1:Rule}{a2:Expr}{r:Int}(hr:z0m a0 a1 a2=some r):Ok Tryz.prog 148 [Gm_.y m a0,Rule.x m a1,Expr.x m a2] [] (dI r) []:=by
 obtain⟨n,hn⟩:=q6x hr
 exact j0m n hn
theorem j5U {m:Md}{a0:Gm_}{a1:Rule}{r:Bool}(hr:z3A a0 a1=some r):Ok Tryz.prog 88 [Gm_.y m a0,Rule.x m a1] [] (dB r) []:=by
 refine OE Tryz.func88 fun S hS=>?_
 unfold z3A at hr
 refine J g<|J (BX' 0)<|J (BX' 1)<|J (gn 8)<|J (lenA 4 1)<|fun hl1=>bdE hr fun q1 hqq1 hr=>q0b hqq1 hl1 2 (fun k1 _=>[(2,.pb 0 0),(3,.pb 1 0),(5,dI (k1:Int))]) (fun k1 _=>[]) I (fun k1 xk1 sk1 ok1 hxk1 hr hltk1 hik1=>?_) fun k1 sk1 ek1 hltk1=>?_
 refine J g<|J (NV' 2)<|bdE hr fun y1 hy1 hr=>J g<|J (CB' [] [] (z3e (m:=m) hy1))<|bdE hr fun y2 hy2 hr=>J g<|J (CB' [] [] (q7R (m:=m) hy2))<|bdE hr fun y3 hy3 hr=>J g<|J (CB' [] [] (z1C (m:=m) hy3))<|J (gn 2)<|ifE hr ?_ ?_<;>intro h1 hr
 exact e
 exact e
 subst ek1
 refine J (gn 17) ?_
 refine AW.len (.box 1 5 rfl rfl) fun hl2=>?_
 refine bdE hr fun q2 hqq2 hr=>q0b hqq2 hl2 2 (fun k2 _=>[(2,.pb 0 0),(3,.pb 1 0),(7,dI (k2:Int))]) (fun k2 _=>[]) I (fun k2 xk2 sk2 ok2 hxk2 hr hltk2 hik2=>?_) fun k2 sk2 ek2 hltk2=>?_
 refine J g<|J (NV' 2)<|bdP hr fun y4 y5 hq3 hr=>J g<|J (CB' [(0,3)] [] (q6K (m:=m) hq3))<|J g<|J (NV' 4)<|bdP hr fun y6 y7 hq4 hr=>J g<|J (CB' [] [3] (q8T (m:=.bo) hq4))<|J g<|J (NV' 5)<|bdE hr fun s1 hqq5 hr=>J (gn 7)<|q0a 5 [(2,.pb 0 0),(3,.pb 1 0),(7,dI (k2:Int)),(8,.pb 2 0),(73,dB s1)] ?_ ?_
 replace hr:=hqq5
 refine ifE hr ?_ ?_<;>intro h2 hr
 exact e
 exact e
 refine bdE hr fun s2 hqq6 hr=>q0a 8 [(2,.pb 0 0),(3,.pb 1 0),(7,dI (k2:Int)),(8,.pb 2 0),(81,dB s2)] ?_ ?_
 replace hr:=hqq6
 refine ifE hr ?_ ?_<;>intro h3 hr
 exact e
 refine bdE hr fun y8 hy8 hr=>J g<|J (CB' [] [] (z3e (m:=m) hy8))<|e
 refine bdE hr fun s3 hqq7 hr=>q0a 8 [(2,.pb 0 0),(3,.pb 1 0),(7,dI (k2:Int)),(89,dB s3)] ?_ ?_
 replace hr:=hqq7
 refine ifE hr ?_ ?_<;>intro h4 hr
 exact e
 refine bdE hr fun y9 hy9 hr=>J g<|J (CB' [] [] (z3e (m:=m) hy9))<|e
 refine J (gn 1)<|ifE hr ?_ ?_<;>intro h5 hr
 exact e
 exact e
 subst ek2
 exact e
theorem z2t {m:Md}{a0:Gm_}{a1:ByteArray}{r:Int}(hr:z0n a0 a1=some r):Ok Tryz.prog 47 [Gm_.y m a0,dS a1] [] (dI r) []:=by
 refine OE Tryz.func47 fun S hS=>?_
 unfold z0n at hr
 refine J g<|J (BX' 0)<|J (gn 8)<|J (lenA 0 0)<|fun hl1=>bdE hr fun q1 hqq1 hr=>q0b hqq1 hl1 1 (fun k1 _=>[(1,dS a1),(2,.pb 0 0),(5,dI (k1:Int))]) (fun k1 _=>[]) I (fun k1 xk1 sk1 ok1 hxk1 hr hltk1 hik1=>?_) fun k1 sk1 ek1 hltk1=>?_
 refine J (gn 24)<|ifE hr ?_ ?_<;>intro h1 hr
 exact e
 exact e
 subst ek1
 exact e
theorem j1m {m:Md}{a0:Gm_}{a1:ByteArray}{a2:(List Int)}{r:Bool}(hr:z0o a0 a1 a2=some r):Ok Tryz.prog 250 [Gm_.x m a0,dS a1,.d m (.sl 1 (a2.map (A.D.i .i64)))] [] (dB r) []:=by
 refine OE Tryz.func250 fun S hS=>?_
 unfold z0o at hr
 refine J g<|J (BX' 0)<|J (gn 8)<|J (lenA 1 0)<|fun hl1=>bdE hr fun q1 hqq1 hr=>q0b hqq1 hl1 1 (fun k1 _=>[(1,dS a1),(2,.d m (.sl 1 (a2.map (A.D.i .i64)))),(3,.pb 0 0),(7,dI (k1:Int))]) (fun k1 _=>[]) I (fun k1 xk1 sk1 ok1 hxk1 hr hltk1 hik1=>?_) fun k1 sk1 ek1 hltk1=>?_
 refine J g<|J (NV' 1)<|J (gn 16)<|J (lenA 2 23)<|fun hl2=>bdE hr fun s1 hqq2 hr=>q0d hqq2 hl2 2 (fun k2 s1=>[(1,dS a1),(2,.d m (.sl 1 (a2.map (A.D.i .i64)))),(3,.pb 0 0),(7,dI (k1:Int)),(8,.pb 1 0),(9,dB s1),(10,dI (k2:Int))]) (fun k2 s1=>[]) I (fun k2 xk2 sk2 ok2 hxk2 hr hltk2=>?_) fun k2 hltk2=>?_
 obtain⟨s1,rfl⟩:∃ y,y=sk2:=⟨_,rfl⟩
 refine bdE hr fun y1 hy1 hr=>J g<|J (CB' [] [] (z2t (m:=m) hy1))<|bdE hr fun s2 hqq3 hr=>J (gn 4)<|q0a 4 [(1,dS a1),(2,.d m (.sl 1 (a2.map (A.D.i .i64)))),(3,.pb 0 0),(7,dI (k1:Int)),(8,.pb 1 0),(9,dB s1),(10,dI (k2:Int)),(11,dI y1),(46,dB s2)] ?_ ?_
 replace hr:=hqq3
 refine ifE hr ?_ ?_<;>intro h1 hr
 exact e
 exact e
 refine bdE hr fun s3 hqq4 hr=>q0a 8 [(1,dS a1),(2,.d m (.sl 1 (a2.map (A.D.i .i64)))),(3,.pb 0 0),(7,dI (k1:Int)),(8,.pb 1 0),(9,dB s1),(10,dI (k2:Int)),(54,dB s3)] ?_ ?_
 replace hr:=hqq4
 refine ifE hr ?_ ?_<;>intro h2 hr
 refine bdE hr fun y2 hy2 hr=>J g<|J (CB' [] [] (z3F hy2))<|ggE hr fun g1 hr=>bdE hr fun x1 hx1 hr=>e
 exact e
 exact e
 refine J (gn 15)<|ifE hr ?_ ?_<;>intro h3 hr
 exact e
 exact e
 subst ek1
 exact e
theorem j1n {m:Md}{a0:Gm_}{r:(List Int)}(hr:z0p a0=some r):Ok Tryz.prog 205 [Gm_.x m a0] [] (.ref 0 none) [.row .fz 1 (r.map (A.D.i .i64))]:=by
 refine OE Tryz.func205 fun S hS=>?_
 unfold z0p at hr
 refine J g<|J (BX' 0)<|ggE hr fun g1 hr=>J g<|J (MKR' 1 (f:=(A.D.i .i64)) (0:Int) g1.1 g1.2.1 g1.2.2)<|bdE hr fun s1 hqq1 hr=>J (gn 7)<|q0e 2 [(3,.ref 1 none)] [(1,.row .fz 1 (s1.map (A.D.i .i64)))] ?_ ?_
 refine J g<|q0h hqq1 2 (fun (s2,s3)=>[(1,.pb 0 0),(3,.ref 1 none),(4,dI s3)]) (fun (s2,s3)=>[(1,.row .fz 1 (s2.map (A.D.i .i64)))]) I fun sk1 ok1 hr hik1=>?_
 obtain⟨s2,s3⟩:=sk1
 have hr:=hr
 refine J (gn 9)<|ifE hr ?_ ?_<;>intro h1 hr
 refine J g<|J (L0' 2 (A.D.i .i64))<|ggE hr fun g2 hr=>J g<|J (j2K (f:=(A.D.i .i64)) 3 8 (fun _=>rfl) g2)<|J (gn 8)<|J (lenT 13)<|fun hl2=>bdE hr fun s4 hqq2 hr=>q0d hqq2 hl2 4 (fun k2 s4=>[(1,.pb 0 0),(3,.ref 1 none),(4,dI s3),(5,.ref 3 none),(6,dI (k2:Int))]) (fun k2 s4=>[(2,.none),(3,.row .fz 1 (s4.map (A.D.i .i64)))]) I (fun k2 xk2 sk2 ok2 hxk2 hr hltk2=>?_) fun k2 hltk2=>?_
 obtain⟨s4,rfl⟩:∃ y,y=sk2:=⟨_,rfl⟩
 refine bdE hr fun s5 hqq3 hr=>J (gn 12)<|q0e 4 [(1,.pb 0 0),(3,.ref 1 none),(4,dI s3),(5,.ref 3 none),(6,dI (k2:Int))] [(3,.row .fz 1 (s5.map (A.D.i .i64)))] ?_ ?_
 replace hr:=hqq3
 refine bdE hr fun x1 hx1 hr=>J (gn 8)<|ifE hr ?_ ?_<;>intro h2 hr
 refine bdE hr fun y1 hy1 hr=>J g<|J (CB' [] [1] (j1m (m:=.bo) hy1))<|J (gn 2)<|ifE hr ?_ ?_<;>intro h3 hr
 refine bdE hr fun x2 hx2 hr=>J g<|J (SE' s3 hx2)<|e
 exact e
 exact e
 exact e
 refine ggE hr fun g3 hr=>e
 refine J (gn 2) ?_
 cases hr
 cases hik1 _ rfl
 exact q0g hS 2
 exact e
theorem j2U {m:Md}{a0:Gm_}{a1:ByteArray}{r:Int}(hr:z2M a0 a1=some r):Ok Tryz.prog 150 [Gm_.x m a0,dS a1] [] (dI r) []:=by
 refine OE Tryz.func150 fun S hS=>?_
 unfold z2M at hr
 refine J g<|J (BX' 0)<|bdE hr fun y1 hy1 hr=>J g<|J (CB' [] [] (z2t (m:=m) hy1))<|J (gn 8)<|ifE hr ?_ ?_<;>intro h1 hr
 exact e
 refine bdE hr fun y2 hy2 hr=>J g<|J (CB' [(0,1)] [] (j1n (m:=m) hy2))<|ggE hr fun g1 hr=>bdE hr fun x1 hx1 hr=>e
theorem z8U {m:Md}{a0:Gm_}{a1:ByteArray}{r:Bool}(hr:q8J a0 a1=some r):Ok Tryz.prog 89 [Gm_.x m a0,dS a1] [] (dB r) []:=by
 refine OE Tryz.func89 fun S hS=>?_
 unfold q8J at hr
 refine J g<|J (BX' 0)<|bdE hr fun y1 hy1 hr=>J g<|J (CB' [] [] (j2U (m:=m) hy1))<|e
theorem z4B {m:Md}{a0:Gm_}{r:(Int×Int)}(hr:q7J a0=some r):Ok Tryz.prog 37 [Gm_.x m a0] [] (.tu [dI r.1,dI r.2]) []:=by
 refine OE Tryz.func37 fun S hS=>?_
 unfold q7J at hr
 refine J g<|J (BX' 0)<|bdP hr fun y1 y2 hq1 hr=>J g<|J (CB' [] [] (j1l (m:=m) hq1))<|J (gn 12)<|ifE hr ?_ ?_<;>intro h1 hr
 refine J (gn 8)<|J (lenA 1 0)<|fun hl1=>bdE hr fun q2 hqq2 hr=>q0b hqq2 hl1 1 (fun k1 _=>[(1,.pb 0 0),(6,dI (k1:Int))]) (fun k1 _=>[]) I (fun k1 xk1 sk1 ok1 hxk1 hr hltk1 hik1=>?_) fun k1 sk1 ek1 hltk1=>?_
 refine bdE hr fun y3 hy3 hr=>J g<|J (CB' [] [] (j5U (m:=m) hy3))<|J (gn 2)<|ifE hr ?_ ?_<;>intro h2 hr
 exact e
 exact e
 subst ek1
 refine J (gn 17) ?_
 refine AW.len (.box 0 0 rfl rfl) fun hl2=>?_
 refine bdE hr fun q3 hqq3 hr=>q0b hqq3 hl2 1 (fun k2 _=>[(1,.pb 0 0),(7,dI (k2:Int))]) (fun k2 _=>[]) I (fun k2 xk2 sk2 ok2 hxk2 hr hltk2 hik2=>?_) fun k2 sk2 ek2 hltk2=>?_
 refine bdE hr fun y4 hy4 hr=>J g<|J (CB' [] [] (z8U (m:=m) hy4))<|J (gn 2)<|ifE hr ?_ ?_<;>intro h3 hr
 exact e
 exact e
 subst ek2
 exact e
 exact e
theorem z6u {m:Md}{a0:Gm_}{r:Bool}(hr:z0Q a0=some r):Ok Tryz.prog 35 [Gm_.x m a0] [] (dB r) []:=by
 refine OE Tryz.func35 fun S hS=>?_
 unfold z0Q at hr
 refine J g<|J (BX' 0)<|bdP hr fun y1 y2 hq1 hr=>J g<|J (CB' [] [] (z4B (m:=m) hq1))<|e
theorem q9B {m:Md}{a0:Gm_}{a1:ByteArray}{r:(List At_)}(hr:q5k a0 a1=some r):Ok Tryz.prog 46 [Gm_.y m a0,dS a1] [] (.ref 0 none) [.row .fz 4 (r.map At_.D)]:=by
 refine OE Tryz.func46 fun S hS=>?_
 unfold q5k at hr
 refine J g<|J (BX' 0)<|J g<|J (L0' 1 At_.D)<|bdP hr fun y1 y2 hq1 hr=>J g<|J (CB' [(0,2)] [] (q6K (m:=m) hq1))<|J g<|J (NV' 3)<|J (gn 9)<|J (lenR 2)<|fun hl1=>bdE hr fun s1 hqq2 hr=>q0d hqq2 hl1 4 (fun k1 s1=>[(5,.ref 1 none),(6,.pb 3 0),(8,dI (k1:Int))]) (fun k1 s1=>[(1,.row .fz 4 (s1.map At_.D))]) I (fun k1 xk1 sk1 ok1 hxk1 hr hltk1=>?_) fun k1 hltk1=>?_
 obtain⟨s1,rfl⟩:∃ y,y=sk1:=⟨_,rfl⟩
 refine bdE hr fun s2 hqq3 hr=>J (gn 12)<|q0e 4 [(5,.ref 1 none),(6,.pb 3 0),(8,dI (k1:Int))] [(1,.row .fz 4 (s2.map At_.D))] ?_ ?_
 replace hr:=hqq3
 refine J (gn 10)<|ifE hr ?_ ?_<;>intro h1 hr
 refine J g<|J (LIR' 4 (m:=.fz) (f:=At_.D) (xs:=[xk1]))<|ggE hr fun g1 hr=>J (z0F (f:=At_.D) 5 (fun _=>rfl) 40 g1)<|e
 refine J (gn 10)<|ifE hr ?_ ?_<;>intro h2 hr
 refine J g<|J (LIR' 4 (m:=.fz) (f:=At_.D) (xs:=[xk1]))<|ggE hr fun g2 hr=>J (z0F (f:=At_.D) 5 (fun _=>rfl) 40 g2)<|e
 exact e
 exact e
 exact e
theorem z0U {a0:Int}{r:Rl_}(hr:q4I a0=some r):Ok Tryz.prog 45 [dI a0] [] (.ag [dI r.N,.ref 0 none]) [.row .fz 1 (r.Rows.map (A.D.i .i64))]:=by
 refine OE Tryz.func45 fun S hS=>?_
 unfold q4I at hr
 refine J g<|J (NV' 0)<|bdE hr fun y1 hy1 hr=>J g<|J (CB' [] [] (q5E hy1))<|J (gn 2)<|ifE hr ?_ ?_<;>intro h1 hr
 refine ggE hr fun g1 hr=>J g<|J (MKR' 1 (f:=(A.D.i .i64)) (0:Int) g1.1 g1.2.1 g1.2.2)<|e
 refine J (gn 7) ?_
 refine J (q0c (q0j (q:=0) (c:=1) (r:=1) .fz 1 rfl rfl rfl))<|J g<|E
theorem j0n {m:Md}{m2:Md}{a0:Gm_}{a1:Rule}{a2:(List Rl_)}{r:(List Rl_)}(hr:z1X a0 a1 a2=some r):Ok Tryz.prog 51 [Gm_.y m a0,Rule.x m a1,.ref 0 none] [.row m2 2 (a2.map Rl_.D)] (.ref 1 none) [.row m2 2 (a2.map Rl_.D),.row m2 2 (r.map Rl_.D)]:=by
 refine OE Tryz.func51 fun S hS=>?_
 unfold z1X at hr
 refine J g<|J (BX' 1)<|J (BX' 2)<|J g<|J (L0' 3 Rl_.D)<|J (gn 8)<|J (lenA 2 1)<|fun hl1=>bdE hr fun s1 hqq1 hr=>?_
 refine q0d hqq1 hl1 4 (fun k1 s1=>[(2,.ref 0 none),(3,.pb 1 0),(4,.pb 2 0),(7,.ref 3 none),(8,dI (k1:Int))]) (fun k1 s1=>[(3,.row m2 2 (s1.map Rl_.D))]) (GH.trans (q0Z (r:=3) m2 rfl) I) (fun k1 xk1 sk1 ok1 hxk1 hr hltk1=>?_) fun k1 hltk1=>?_
 obtain⟨s1,rfl⟩:∃ y,y=sk1:=⟨_,rfl⟩
 refine bdE hr fun y1 hy1 hr=>J g<|J (CB' [] [] (z2t (m:=m) hy1))<|bdE hr fun y2 hy2 hr=>J (CB' [] [] (z3F hy2))<|ggE hr fun g1 hr=>bdE hr fun x1 hx1 hr=>J g ?_
 refine J (j8a 4 (m:=m2) (f:=Rl_.D) [x1] rfl)<|ggE hr fun g2 hr=>J (AP1' 5 m2 32 g2)<|J (q0x .refl)<|J g<|E
 exact e
theorem z0V {m:Md}{a0:Gm_}{a1:Rule}{r:(List Oc)}(hr:q5D a0 a1=some r):Ok Tryz.prog 107 [Gm_.y m a0,Rule.x m a1] [] (.ref 0 none) [.row .fz 2 (r.map Oc.D)]:=by
 refine OE Tryz.func107 fun S hS=>?_
 unfold q5D at hr
 refine J g<|J (BX' 0)<|J (BX' 1)<|J g<|J (L0' 2 Oc.D)<|bdE hr fun s1 hqq1 hr=>J (gn 7)<|q0e 3 [(5,.ref 2 none)] [(2,.row .fz 2 (s1.map Oc.D))] ?_ ?_
 refine J g<|q0h hqq1 3 (fun (s2,s3)=>[(2,.pb 0 0),(3,.pb 1 0),(5,.ref 2 none),(6,dI s3)]) (fun (s2,s3)=>[(2,.row .fz 2 (s2.map Oc.D))]) I fun sk1 ok1 hr hik1=>?_
 obtain⟨s2,s3⟩:=sk1
 have hr:=hr
 refine J (gn 9)<|ifE hr ?_ ?_<;>intro h1 hr
 refine bdE hr fun y1 hy1 hr=>J g<|J (CB' [] [] (q7R (m:=m) hy1))<|bdE hr fun y2 hy2 hr=>J (CB' [(0,3)] [] (q9B (m:=m) hy2))<|J (gn 7)<|J (lenR 3)<|fun hl2=>bdE hr fun s4 hqq2 hr=>q0d hqq2 hl2 4 (fun k2 s4=>[(2,.pb 0 0),(3,.pb 1 0),(5,.ref 2 none),(6,dI s3),(7,.ref 3 none),(8,dI (k2:Int))]) (fun k2 s4=>[(2,.row .fz 2 (s4.map Oc.D))]) I (fun k2 xk2 sk2 ok2 hxk2 hr hltk2=>?_) fun k2 hltk2=>?_
 obtain⟨s4,rfl⟩:∃ y,y=sk2:=⟨_,rfl⟩
 refine J g<|J (LIR' 4 (m:=.fz) (f:=Oc.D) (xs:=[(⟨s3,xk2.Name⟩:Oc)]))<|ggE hr fun g1 hr=>J (z0F (f:=Oc.D) 5 (fun _=>rfl) 24 g1)<|e
 refine ggE hr fun g2 hr=>e
 refine J (gn 2) ?_
 cases hr
 cases hik1 _ rfl
 exact GH.trans (q0E (q:=0) [.d m (.sl 2 (a0.Symbols.map Symbol.D)),.u] (.cons .rfl (.cons .u .nil)) rfl) (q0g hS 3)
 exact e
theorem z6v {m:Md}{a0:(List Oc)}{a1:Oc}{r:Int}(hr:q7t a0 a1=some r):Ok Tryz.prog 161 [.d m (.sl 2 (a0.map Oc.D)),Oc.x .fz a1] [] (dI r) []:=by
 refine OE Tryz.func161 fun S hS=>?_
 unfold q7t at hr
 refine J g<|J (BX' 0)<|J (gn 8)<|J (lenT 0)<|fun hl1=>bdE hr fun q1 hqq1 hr=>q0b hqq1 hl1 1 (fun k1 _=>[(0,.d m (.sl 2 (a0.map Oc.D))),(3,.pb 0 0),(5,dI (k1:Int))]) (fun k1 _=>[]) I (fun k1 xk1 sk1 ok1 hxk1 hr hltk1 hik1=>?_) fun k1 sk1 ek1 hltk1=>?_
 refine J g ?_
 refine J (SQ' rfl rfl rfl rfl (q5P xk1 a1))<|J (gn 1)<|ifE hr ?_ ?_<;>intro h1 hr
 exact e
 exact e
 subst ek1
 exact e
theorem z6w {m:Md}{a0:Rl_}{r:Rl_}(hr:q8q a0=some r):Ok Tryz.prog 103 [Rl_.x m a0] [] (.ag [dI r.N,.ref 0 none]) [.row .fz 1 (r.Rows.map (A.D.i .i64))]:=by
 refine OE Tryz.func103 fun S hS=>?_
 unfold q8q at hr
 refine J g<|J (BX' 0)<|J (NV' 1)<|J g<|J (L0' 2 (A.D.i .i64))<|ggE hr fun g1 hr=>J g<|J (j2K (f:=(A.D.i .i64)) 3 8 (fun _=>rfl) g1)<|e
theorem q5I {m:Md}{a0:Rl_}{r:Bool}(hr:q4L a0=some r):Ok Tryz.prog 104 [Rl_.x m a0] [] (dB r) []:=by
 refine OE Tryz.func104 fun S hS=>?_
 unfold q4L at hr
 refine J g<|J (BX' 0)<|bdE hr fun y1 hy1 hr=>J g<|J (CB' [] [] (q5E hy1))<|J (gn 1)<|ifE hr ?_ ?_<;>intro h1 hr
 refine J (gn 9)<|ifE hr ?_ ?_<;>intro h2 hr
 refine J (gn 8) ?_
 refine q0F (.ag 0 (.tmp 0 rfl) rfl) fun hl1=>?_
 refine bdE hr fun q1 hqq1 hr=>q0u hqq1 1 (fun k1 _=>[(1,.pb 0 0),(3,dI (k1:Int))]) (fun k1 _=>[]) I (fun k1 sk1 ok1 hr hltk1 hik1=>?_) fun sk1 ek1=>?_
 refine bdE hr fun x1 hx1 hr=>ggE hr fun g1 hr=>J g ?_
 refine J (CIU' g1 rfl)<|ggE hr fun g2 hr=>J (OB' _ (j7Y g2))<|J (OB' _ (k5b (p:=(2 ^ a0.N.toNat)) (k:=1) (by decide)))<|bdE hr fun y2 hy2 hr=>J (CB' [] [] (q5E hy2))<|J (gn 2)<|ifE hr ?_ ?_<;>intro h3 hr
 exact e
 exact e
 subst ek1
 exact e
 exact e
 exact e
theorem z6x {m:Md}{a0:Rl_}{a1:Int}{a2:Int}{r:Rl_}(hr:q6M a0 a1 a2=some r):Ok Tryz.prog 106 [Rl_.x m a0,dI a1,dI a2] [] (.ag [dI r.N,.ref 0 none]) [.row .fz 1 (r.Rows.map (A.D.i .i64))]:=by
 refine OE Tryz.func106 fun S hS=>?_
 unfold q6M at hr
 refine J g<|J (BX' 0)<|J (NV' 1)<|bdE hr fun y1 hy1 hr=>J g<|J (CB' [(0,2)] [] (z6w (m:=m) hy1))<|J (NV' 3)<|bdE hr fun y2 hy2 hr=>J g<|J (CB' [] [] (q5I (m:=m) hy2))<|bdE hr fun s1 hqq1 hr=>q0a 7 [(1,dI a1),(2,dI a2),(3,.pb 0 0),(6,.pb 1 0),(7,.pb 3 0),(18,dB s1)] ?_ ?_
 replace hr:=hqq1
 refine ifE hr ?_ ?_<;>intro h1 hr
 refine ggE hr fun g1 hr=>bdE hr fun y3 hy3 hr=>J g<|J (CB' [] [] (q5E hy3))<|e
 exact e
 refine bdE hr fun s2 hqq2 hr=>q0a 7 [(1,dI a1),(2,dI a2),(6,.pb 1 0),(7,.pb 3 0),(25,dB s2)] ?_ ?_
 replace hr:=hqq2
 refine ifE hr ?_ ?_<;>intro h2 hr
 refine ggE hr fun g2 hr=>bdE hr fun y4 hy4 hr=>J g<|J (CB' [] [] (q5E hy4))<|e
 exact e
 refine J (gn 1)<|ifE hr ?_ ?_<;>intro h3 hr
 refine ggE hr fun g3 hr=>bdE hr fun x1 hx1 hr=>ggE hr fun g4 hr=>J g ?_
 refine J (CIU' g4 rfl)<|ggE hr fun g5 hr=>J (OB' _ (j7Y g5))<|ggE hr fun g6 hr=>J (OB' _ (bOrI g6))<|J g<|J (SE' ((x1.toNat ||| ((2 ^ a2.toNat:Nat):Int).toNat:Nat):Int) hx1)<|J g<|E
 exact e
theorem z7V {m:Md}{a0:Gm_}{a1:Rule}{r:Rl_}(hr:q6v a0 a1=some r):Ok Tryz.prog 108 [Gm_.y m a0,Rule.x m a1] [] (.ag [dI r.N,.ref 0 none]) [.row .fz 1 (r.Rows.map (A.D.i .i64))]:=by
 refine OE Tryz.func108 fun S hS=>?_
 unfold q6v at hr
 refine J g<|J (BX' 0)<|J (BX' 1)<|J (NV' 2)<|bdE hr fun y1 hy1 hr=>J g<|J (CB' [(0,3)] [] (z0V (m:=m) hy1))<|bdE hr fun y2 hy2 hr=>J g<|J (CB' [(0,4)] [] (z0U hy2))<|J (NV' 5)<|bdP hr fun s1 s2 hqq1 hr=>J (gn 7)<|q0e 6 [(4,.pb 2 0),(6,.pb 5 0)] [(4,.row .fz 1 (s1.map (A.D.i .i64))),(5,.box [dI s2,.ref 4 none])] ?_ ?_
 refine J g<|q0h hqq1 6 (fun (s3,s4,s5)=>[(3,.pb 1 0),(4,.pb 2 0),(5,.ref 3 none),(6,.pb 5 0),(7,dI s3)]) (fun (s3,s4,s5)=>[(4,.row .fz 1 (s4.map (A.D.i .i64))),(5,.box [dI s5,.ref 4 none])]) I fun sk1 ok1 hr hik1=>?_
 obtain⟨s3,s4,s5⟩:=sk1
 have hr:=hr
 refine J (gn 7)<|ifE hr ?_ ?_<;>intro h1 hr
 refine J (gn 6)<|ifE hr ?_ ?_<;>intro h2 hr
 refine bdP hr fun s6 s7 hqq2 hr=>J (gn 3)<|q0e 6 [(3,.pb 1 0),(4,.pb 2 0),(5,.ref 3 none),(6,.pb 5 0),(7,dI s3),(23,.pb 5 0),(24,dI s5),(25,dB (decide (0<s5)))] [(4,.row .fz 1 (s6.map (A.D.i .i64))),(5,.box [dI s7,.ref 4 none])] ?_ ?_
 replace hr:=hqq2
 refine ggE hr fun g1 hr=>bdE hr fun x1 hx1 hr=>bdP hr fun y3 y4 hq3 hr=>J g<|J (CB' [(0,6)] [] (z4A (m:=m) hq3))<|J g<|J (NV' 7)<|J (gn 9)<|ifE hr ?_ ?_<;>intro h3 hr
 refine J (gn 5) ?_
 refine J (q0m 6 rfl)<|bdE hr fun y5 hy5 hr=>J (CB' [] [] (z3G (m:=.fz) hy5))<|J (gn 7)<|J (lenT 10)<|fun hl2=>bdP hr fun s8 s9 hqq4 hr=>q0d hqq4 hl2 8 (fun k2 (s8,s9)=>[(3,.pb 1 0),(4,.pb 2 0),(5,.ref 3 none),(6,.pb 5 0),(7,dI s3),(10,.d .fz (.sl 2 (y5.map Oc.D))),(11,dI (k2:Int)),(23,.pb 5 0),(24,dI s5),(25,dB (decide (0<s5)))]) (fun k2 (s8,s9)=>[(4,.row .fz 1 (s8.map (A.D.i .i64))),(5,.box [dI s9,.ref 4 none]),(6,.none)]) I (fun k2 xk2 sk2 ok2 hxk2 hr hltk2=>?_) fun k2 hltk2=>?_
 obtain⟨s8,s9⟩:=sk2
 refine bdE hr fun y6 hy6 hr=>J g<|J (CB' [] [3] (z6v (m:=.bo) hy6))<|bdE hr fun y7 hy7 hr=>J g<|J (CB' [(0,8)] [4] (z6x (m:=.bo) hy7))<|e
 exact e
 exact e
 refine ggE hr fun g2 hr=>e
 refine J (gn 2) ?_
 cases hr
 cases hik1 _ rfl
 exact GH.trans (q0E (q:=0) [.d m (.sl 2 (a0.Symbols.map Symbol.D)),.u] (.cons .rfl (.cons .u .nil)) rfl) (q0g hS 6)
 refine J (gn 8) ?_
 cases hr
 cases hik1 _ rfl
 exact GH.trans (q0E (q:=0) [.d m (.sl 2 (a0.Symbols.map Symbol.D)),.u] (.cons .rfl (.cons .u .nil)) rfl) (q0g hS 6)
 exact e
theorem z6y {m:Md}{a0:Gm_}{a1:Rule}{a2:Int}{r:(List Int)}(hr:q5U a0 a1 a2=some r):Ok Tryz.prog 109 [Gm_.y m a0,Rule.x m a1,dI a2] [] (.ref 0 none) [.row .fz 1 (r.map (A.D.i .i64))]:=by
 refine OE Tryz.func109 fun S hS=>?_
 unfold q5U at hr
 refine J g<|J (BX' 0)<|J (BX' 1)<|J g<|J (L0' 2 (A.D.i .i64))<|bdE hr fun y1 hy1 hr=>J g<|J (CB' [(0,3)] [] (z0V (m:=m) hy1))<|J (gn 8)<|J (lenR 3)<|fun hl1=>bdE hr fun s1 hqq1 hr=>q0d hqq1 hl1 4 (fun k1 s1=>[(2,dI a2),(7,.ref 2 none),(8,.ref 3 none),(9,dI (k1:Int))]) (fun k1 s1=>[(2,.row .fz 1 (s1.map (A.D.i .i64)))]) I (fun k1 xk1 sk1 ok1 hxk1 hr hltk1=>?_) fun k1 hltk1=>?_
 obtain⟨s1,rfl⟩:∃ y,y=sk1:=⟨_,rfl⟩
 refine bdE hr fun s2 hqq2 hr=>J (gn 11)<|q0e 4 [(2,dI a2),(7,.ref 2 none),(8,.ref 3 none),(9,dI (k1:Int))] [(2,.row .fz 1 (s2.map (A.D.i .i64)))] ?_ ?_
 replace hr:=hqq2
 refine J (gn 11)<|ifE hr ?_ ?_<;>intro h1 hr
 refine J g<|J (LIR' 4 (m:=.fz) (f:=(A.D.i .i64)) (xs:=([(k1:Int)]:List Int)))<|ggE hr fun g1 hr=>J (z0F (f:=(A.D.i .i64)) 5 (fun _=>rfl) 8 g1)<|e
 exact e
 exact e
 exact e
theorem z6z {m:Md}{a0:Rl_}{a1:Int}{a2:Int}{r:Bool}(hr:q8R a0 a1 a2=some r):Ok Tryz.prog 105 [Rl_.x m a0,dI a1,dI a2] [] (dB r) []:=by
 refine OE Tryz.func105 fun S hS=>?_
 unfold q8R at hr
 refine J g<|J (BX' 0)<|bdE hr fun y1 hy1 hr=>J g<|J (CB' [] [] (q5I (m:=m) hy1))<|bdE hr fun s1 hqq1 hr=>q0a 7 [(1,dI a1),(2,dI a2),(3,.pb 0 0),(6,dB false),(15,dB s1)] ?_ ?_
 replace hr:=hqq1
 refine ifE hr ?_ ?_<;>intro h1 hr
 refine ggE hr fun g1 hr=>bdE hr fun y2 hy2 hr=>J g<|J (CB' [] [] (q5E hy2))<|e
 exact e
 refine bdE hr fun s2 hqq2 hr=>q0a 7 [(1,dI a1),(2,dI a2),(3,.pb 0 0),(6,dB false),(22,dB s2)] ?_ ?_
 replace hr:=hqq2
 refine ifE hr ?_ ?_<;>intro h2 hr
 refine ggE hr fun g2 hr=>bdE hr fun y3 hy3 hr=>J g<|J (CB' [] [] (q5E hy3))<|e
 exact e
 refine bdE hr fun s3 hqq3 hr=>q0a 12 [(6,dB false),(34,dB s3)] ?_ ?_
 replace hr:=hqq3
 refine ifE hr ?_ ?_<;>intro h3 hr
 refine ggE hr fun g3 hr=>bdE hr fun x1 hx1 hr=>ggE hr fun g4 hr=>J g ?_
 refine J (CIU' g4 rfl)<|ggE hr fun g5 hr=>J (OB' _ (k1D g5))<|ggE hr fun g6 hr=>J (OB' _ (k1E g6))<|J g<|E
 exact e
 exact e
theorem z3H {m:Md}{a0:Rl_}{r:Rl_}(hr:q7m a0=some r):Ok Tryz.prog 110 [Rl_.x m a0] [] (.ag [dI r.N,.ref 0 none]) [.row .fz 1 (r.Rows.map (A.D.i .i64))]:=by
 refine OE Tryz.func110 fun S hS=>?_
 unfold q7m at hr
 refine J g<|J (BX' 0)<|J (NV' 1)<|bdE hr fun y1 hy1 hr=>J g<|J (CB' [(0,2)] [] (z6w (m:=m) hy1))<|J (NV' 3)<|bdE hr fun y2 hy2 hr=>J g<|J (CB' [] [] (q5I (m:=m) hy2))<|J (gn 2)<|ifE hr ?_ ?_<;>intro h1 hr
 refine J (gn 8) ?_
 refine q0F (.ag 0 (.tmp 0 rfl) rfl) fun hl1=>?_
 refine bdE hr fun s1 hqq1 hr=>q0i hqq1 4 (fun k1 s1=>[(1,.pb 0 0),(2,.pb 1 0),(3,.pb 3 0),(4,dI (k1:Int))]) (fun k1 s1=>[(2,.row .fz 1 (s1.map (A.D.i .i64)))]) I (fun k1 sk1 ok1 hr hltk1=>?_) ?_
 obtain⟨s1,rfl⟩:∃ y,y=sk1:=⟨_,rfl⟩
 refine J (gn 17)<|J (rngT 14)<|fun hl2=>bdE hr fun s2 hqq2 hr=>q0i hqq2 4 (fun k2 s2=>[(1,.pb 0 0),(2,.pb 1 0),(3,.pb 3 0),(4,dI (k1:Int)),(5,dI (k2:Int))]) (fun k2 s2=>[(2,.row .fz 1 (s2.map (A.D.i .i64)))]) I (fun k2 sk2 ok2 hr hltk2=>?_) ?_
 obtain⟨s2,rfl⟩:∃ y,y=sk2:=⟨_,rfl⟩
 refine bdE hr fun s3 hqq3 hr=>J (gn 11)<|q0e 4 [(1,.pb 0 0),(2,.pb 1 0),(3,.pb 3 0),(4,dI (k1:Int)),(5,dI (k2:Int))] [(2,.row .fz 1 (s3.map (A.D.i .i64)))] ?_ ?_
 replace hr:=hqq3
 refine bdE hr fun x1 hx1 hr=>J g ?_
 refine J (CIU' (Int.natCast_nonneg _) rfl)<|ggE hr fun g1 hr=>J (OB' _ (k1D g1))<|ggE hr fun g2 hr=>J (OB' _ (k1E g2))<|J (gn 2)<|ifE hr ?_ ?_<;>intro h2 hr
 refine bdE hr fun x2 hx2 hr=>ggE hr fun g3 hr=>J g<|J (OB' _ (bOrI g3))<|J g<|J (SE' ((x1.toNat ||| x2.toNat:Nat):Int) hx1)<|e
 exact e
 exact e
 exact e
 exact e
 exact e
theorem z0v {m:Md}{a0:Gm_}{a1:Rule}{a2:(List Rl_)}{r:Rl_}(hr:q6J a0 a1 a2=some r):Ok Tryz.prog 50 [Gm_.y m a0,Rule.x m a1,.d m (.sl 2 (a2.map Rl_.D))] [] (.ag [dI r.N,.ref 0 none]) [.row .fz 1 (r.Rows.map (A.D.i .i64))]:=by
 refine OE Tryz.func50 fun S hS=>?_
 unfold q6J at hr
 refine J g<|J (BX' 0)<|J (BX' 1)<|J (NV' 2)<|bdE hr fun y1 hy1 hr=>J g<|J (CB' [(0,3)] [] (z0V (m:=m) hy1))<|bdE hr fun s1 hqq1 hr=>J (gn 11)<|q0a 5 [(2,.d m (.sl 2 (a2.map Rl_.D))),(3,.pb 0 0),(4,.pb 1 0),(6,.pb 2 0),(26,dB s1)] ?_ ?_
 replace hr:=hqq1
 refine ifE hr ?_ ?_<;>intro h1 hr
 exact e
 exact e
 refine J (gn 1)<|ifE hr ?_ ?_<;>intro h2 hr
 refine J (gn 7) ?_
 refine J (q0c (q0j (q:=2) (c:=1) (r:=4) .fz 1 rfl rfl rfl))<|J g<|E
 refine bdE hr fun y2 hy2 hr=>J g<|J (CB' [(0,4)] [] (z7V (m:=m) hy2))<|J (NV' 5)<|J (gn 8)<|J (lenT 2)<|fun hl1=>bdE hr fun q2 hqq2 hr=>q0b hqq2 hl1 6 (fun k1 (s2,s3)=>[(2,.d m (.sl 2 (a2.map Rl_.D))),(3,.pb 0 0),(4,.pb 1 0),(6,.pb 2 0),(8,.pb 5 0),(9,dI (k1:Int))]) (fun k1 (s2,s3)=>[(4,.row .fz 1 (s2.map (A.D.i .i64))),(5,.box [dI s3,.ref 4 none])]) I (fun k1 xk1 sk1 ok1 hxk1 hr hltk1 hik1=>?_) fun k1 sk1 ek1 hltk1=>?_
 obtain⟨s2,s3⟩:=sk1
 refine bdE hr fun y3 hy3 hr=>J g<|J (CB' [(0,6)] [] (z6y (m:=m) hy3))<|bdE hr fun y4 hy4 hr=>J g<|J (CB' [] [] (q5I (m:=m) hy4))<|J (gn 1)<|ifE hr ?_ ?_<;>intro h3 hr
 refine J (gn 11)<|ifE hr ?_ ?_<;>intro h4 hr
 refine J (gn 7)<|J (lenR 6)<|fun hl2=>bdP hr fun s4 s5 hqq3 hr=>q0d hqq3 hl2 7 (fun k2 (s4,s5)=>[(2,.d m (.sl 2 (a2.map Rl_.D))),(3,.pb 0 0),(4,.pb 1 0),(6,.pb 2 0),(8,.pb 5 0),(9,dI (k1:Int)),(10,.ref 6 none),(11,dI (k2:Int)),(49,.d m (.sl 2 (a2.map Rl_.D))),(50,dI (k1:Int)),(51,.pf m (Rl_.l xk1)),(52,.pf m (Rl_.l xk1)),(53,dI xk1.N),(54,.ref 6 none),(55,dI (y3.length:Int)),(56,dB (!(decide (xk1.N=(y3.length:Int)))))]) (fun k2 (s4,s5)=>[(4,.row .fz 1 (s4.map (A.D.i .i64))),(5,.box [dI s5,.ref 4 none])]) I (fun k2 xk2 sk2 ok2 hxk2 hr hltk2=>?_) fun k2 hltk2=>?_
 obtain⟨s4,s5⟩:=sk2
 refine J (gn 17)<|J (lenR 6)<|fun hl3=>bdP hr fun s6 s7 hqq4 hr=>q0d hqq4 hl3 7 (fun k3 (s6,s7)=>[(2,.d m (.sl 2 (a2.map Rl_.D))),(3,.pb 0 0),(4,.pb 1 0),(6,.pb 2 0),(8,.pb 5 0),(9,dI (k1:Int)),(10,.ref 6 none),(11,dI (k2:Int)),(12,dI (k3:Int)),(49,.d m (.sl 2 (a2.map Rl_.D))),(50,dI (k1:Int)),(51,.pf m (Rl_.l xk1)),(52,.pf m (Rl_.l xk1)),(53,dI xk1.N),(54,.ref 6 none),(55,dI (y3.length:Int)),(56,dB (!(decide (xk1.N=(y3.length:Int)))))]) (fun k3 (s6,s7)=>[(4,.row .fz 1 (s6.map (A.D.i .i64))),(5,.box [dI s7,.ref 4 none])]) I (fun k3 xk3 sk3 ok3 hxk3 hr hltk3=>?_) fun k3 hltk3=>?_
 obtain⟨s6,s7⟩:=sk3
 refine bdP hr fun s8 s9 hqq5 hr=>J (gn 11)<|q0e 7 [(2,.d m (.sl 2 (a2.map Rl_.D))),(3,.pb 0 0),(4,.pb 1 0),(6,.pb 2 0),(8,.pb 5 0),(9,dI (k1:Int)),(10,.ref 6 none),(11,dI (k2:Int)),(12,dI (k3:Int)),(49,.d m (.sl 2 (a2.map Rl_.D))),(50,dI (k1:Int)),(51,.pf m (Rl_.l xk1)),(52,.pf m (Rl_.l xk1)),(53,dI xk1.N),(54,.ref 6 none),(55,dI (y3.length:Int)),(56,dB (!(decide (xk1.N=(y3.length:Int)))))] [(4,.row .fz 1 (s8.map (A.D.i .i64))),(5,.box [dI s9,.ref 4 none])] ?_ ?_
 replace hr:=hqq5
 refine bdE hr fun y5 hy5 hr=>J g<|J (CB' [] [] (z6z (m:=m) hy5))<|J (gn 1)<|ifE hr ?_ ?_<;>intro h5 hr
 refine bdE hr fun y6 hy6 hr=>J g<|J (CB' [(0,7)] [4] (z6x (m:=.bo) hy6))<|e
 exact e
 exact e
 exact e
 exact e
 refine J (gn 7) ?_
 refine J (q0c (q0j (q:=2) (c:=1) (r:=7) .fz 1 rfl rfl rfl))<|J g<|E
 refine J (gn 18) ?_
 refine J (q0c (q0j (q:=2) (c:=1) (r:=7) .fz 1 rfl rfl rfl))<|J g<|E
 subst ek1
 obtain⟨s2,s3⟩:=sk1
 refine bdE hr fun y7 hy7 hr=>J g<|J (CB' [(0,6)] [4] (z3H (m:=.bo) hy7))<|e
theorem z7p {m:Md}{a0:Gm_}{a1:Rule}{a2:Rl_}{r:Rl_}(hr:q5x a0 a1 a2=some r):Ok Tryz.prog 49 [Gm_.y m a0,Rule.x m a1,Rl_.x m a2] [] (.ag [dI r.N,.ref 0 none]) [.row .fz 1 (r.Rows.map (A.D.i .i64))]:=by
 refine OE Tryz.func49 fun S hS=>?_
 unfold q5x at hr
 refine J g<|J (BX' 0)<|J (BX' 1)<|J (BX' 2)<|J (NV' 3)<|bdE hr fun y1 hy1 hr=>J g<|J (CB' [(0,4)] [] (q9B (m:=m) hy1))<|bdE hr fun y2 hy2 hr=>J g<|J (CB' [(0,5)] [] (z0U hy2))<|J (NV' 6)<|J (gn 8)<|J (lenR 4)<|fun hl1=>bdP hr fun s1 s2 hqq1 hr=>q0d hqq1 hl1 7 (fun k1 (s1,s2)=>[(5,.pb 2 0),(6,.pb 3 0),(7,.ref 4 none),(8,.pb 6 0),(9,dI (k1:Int))]) (fun k1 (s1,s2)=>[(5,.row .fz 1 (s1.map (A.D.i .i64))),(6,.box [dI s2,.ref 5 none])]) I (fun k1 xk1 sk1 ok1 hxk1 hr hltk1=>?_) fun k1 hltk1=>?_
 obtain⟨s1,s2⟩:=sk1
 refine J (gn 17)<|J (lenR 4)<|fun hl2=>bdP hr fun s3 s4 hqq2 hr=>q0d hqq2 hl2 7 (fun k2 (s3,s4)=>[(5,.pb 2 0),(6,.pb 3 0),(7,.ref 4 none),(8,.pb 6 0),(9,dI (k1:Int)),(10,dI (k2:Int))]) (fun k2 (s3,s4)=>[(5,.row .fz 1 (s3.map (A.D.i .i64))),(6,.box [dI s4,.ref 5 none])]) I (fun k2 xk2 sk2 ok2 hxk2 hr hltk2=>?_) fun k2 hltk2=>?_
 obtain⟨s3,s4⟩:=sk2
 refine bdP hr fun s5 s6 hqq3 hr=>J (gn 11)<|q0e 7 [(5,.pb 2 0),(6,.pb 3 0),(7,.ref 4 none),(8,.pb 6 0),(9,dI (k1:Int)),(10,dI (k2:Int))] [(5,.row .fz 1 (s5.map (A.D.i .i64))),(6,.box [dI s6,.ref 5 none])] ?_ ?_
 replace hr:=hqq3
 refine bdE hr fun s7 hqq4 hr=>J (gn 9)<|q0a 8 [(5,.pb 2 0),(6,.pb 3 0),(7,.ref 4 none),(8,.pb 6 0),(9,dI (k1:Int)),(10,dI (k2:Int)),(43,dB s7)] ?_ ?_
 replace hr:=hqq4
 refine ifE hr ?_ ?_<;>intro h1 hr
 exact e
 exact e
 refine bdE hr fun s8 hqq5 hr=>q0a 6 [(5,.pb 2 0),(6,.pb 3 0),(7,.ref 4 none),(8,.pb 6 0),(9,dI (k1:Int)),(10,dI (k2:Int)),(49,dB s8)] ?_ ?_
 replace hr:=hqq5
 refine ifE hr ?_ ?_<;>intro h2 hr
 refine bdE hr fun y3 hy3 hr=>J g<|J (CB' [] [] (z6z (m:=m) hy3))<|e
 exact e
 refine J (gn 1)<|ifE hr ?_ ?_<;>intro h3 hr
 refine bdE hr fun y4 hy4 hr=>J g<|J (CB' [(0,7)] [5] (z6x (m:=.bo) hy4))<|e
 exact e
 exact e
 exact e
 exact e
theorem z3I {m:Md}{a0:Rl_}{a1:Rl_}{r:Rl_}(hr:q7n a0 a1=some r):Ok Tryz.prog 48 [Rl_.x m a0,Rl_.x m a1] [] (.ag [dI r.N,.ref 0 none]) [.row .fz 1 (r.Rows.map (A.D.i .i64))]:=by
 refine OE Tryz.func48 fun S hS=>?_
 unfold q7n at hr
 refine J g<|J (BX' 0)<|J (BX' 1)<|J (NV' 2)<|bdE hr fun y1 hy1 hr=>J g<|J (CB' [(0,3)] [] (z6w (m:=m) hy1))<|J (NV' 4)<|bdE hr fun y2 hy2 hr=>J g<|J (CB' [] [] (q5I (m:=m) hy2))<|bdE hr fun s1 hqq1 hr=>J (gn 1)<|q0a 5 [(2,.pb 0 0),(3,.pb 1 0),(4,.pb 2 0),(5,.pb 4 0),(16,dB s1)] ?_ ?_
 replace hr:=hqq1
 refine ifE hr ?_ ?_<;>intro h1 hr
 refine bdE hr fun y3 hy3 hr=>J g<|J (CB' [] [] (q5I (m:=m) hy3))<|e
 exact e
 refine bdE hr fun s2 hqq2 hr=>q0a 7 [(2,.pb 0 0),(3,.pb 1 0),(4,.pb 2 0),(5,.pb 4 0),(23,dB s2)] ?_ ?_
 replace hr:=hqq2
 refine ifE hr ?_ ?_<;>intro h2 hr
 exact e
 exact e
 refine J (gn 1)<|ifE hr ?_ ?_<;>intro h3 hr
 exact e
 refine J (gn 8) ?_
 refine q0F (.box 0 0 rfl rfl) fun hl1=>?_
 refine bdE hr fun s3 hqq3 hr=>q0i hqq3 5 (fun k1 s3=>[(2,.pb 0 0),(3,.pb 1 0),(4,.pb 2 0),(5,.pb 4 0),(6,dI (k1:Int))]) (fun k1 s3=>[(3,.row .fz 1 (s3.map (A.D.i .i64)))]) I (fun k1 sk1 ok1 hr hltk1=>?_) ?_
 obtain⟨s3,rfl⟩:∃ y,y=sk1:=⟨_,rfl⟩
 refine bdE hr fun x1 hx1 hr=>bdE hr fun x2 hx2 hr=>ggE hr fun g1 hr=>J g<|J (OB' _ (bOrI g1))<|J g<|J (SE' ((x1.toNat ||| x2.toNat:Nat):Int) hx1)<|e
 exact e
theorem j8u {m:Md}{a0:(List Int)}{a1:(List Int)}{r:Bool}(hr:z5p a0 a1=some r):Ok Tryz.prog 38 [.d m (.sl 1 (a0.map (A.D.i .i64))),.d m (.sl 1 (a1.map (A.D.i .i64)))] [] (dB r) []:=by
 refine OE Tryz.func38 fun S hS=>?_
 unfold z5p at hr
 refine J (gn 13)<|ifE hr ?_ ?_<;>intro h1 hr
 refine J (gn 8)<|J (lenT 0)<|fun hl1=>bdE hr fun q1 hqq1 hr=>q0b hqq1 hl1 0 (fun k1 _=>[(0,.d m (.sl 1 (a0.map (A.D.i .i64)))),(1,.d m (.sl 1 (a1.map (A.D.i .i64)))),(5,dI (k1:Int))]) (fun k1 _=>[]) I (fun k1 xk1 sk1 ok1 hxk1 hr hltk1 hik1=>?_) fun k1 sk1 ek1 hltk1=>?_
 refine bdE hr fun x1 hx1 hr=>J (gn 24)<|ifE hr ?_ ?_<;>intro h2 hr
 exact e
 exact e
 subst ek1
 exact e
 exact e
theorem q8V {m:Md}{a0:Rl_}{a1:Rl_}{r:Bool}(hr:q5r a0 a1=some r):Ok Tryz.prog 12 [Rl_.x m a0,Rl_.x m a1] [] (dB r) []:=by
 refine OE Tryz.func12 fun S hS=>?_
 unfold q5r at hr
 refine J g<|J (BX' 0)<|J (BX' 1)<|J (gn 9)<|ifE hr ?_ ?_<;>intro h1 hr
 refine bdE hr fun y1 hy1 hr=>J g<|J (CB' [] [] (j8u (m:=m) hy1))<|e
 exact e
theorem z2S {m:Md}{a0:Gm_}{r:((List Rl_)×Bool)}(hr:q5d a0=some r):Ok Tryz.prog 15 [Gm_.x m a0] [] (.tu [.ref 0 none,dB r.2]) [.row .fz 2 (r.1.map Rl_.D)]:=by
 refine OE Tryz.func15 fun S hS=>?_
 unfold q5d at hr
 refine J g<|J (BX' 0)<|bdE hr fun y1 hy1 hr=>J g<|J (CB' [] [] (z6u (m:=m) hy1))<|J (gn 2)<|ifE hr ?_ ?_<;>intro h1 hr
 refine J g<|J (L0' 1 Rl_.D)<|J (gn 8)<|J (lenA 0 0)<|fun hl1=>bdE hr fun s1 hqq1 hr=>q0d hqq1 hl1 2 (fun k1 s1=>[(1,.pb 0 0),(4,.ref 1 none),(5,dI (k1:Int))]) (fun k1 s1=>[(1,.row .fz 2 (s1.map Rl_.D))]) I (fun k1 xk1 sk1 ok1 hxk1 hr hltk1=>?_) fun k1 hltk1=>?_
 obtain⟨s1,rfl⟩:∃ y,y=sk1:=⟨_,rfl⟩
 refine bdE hr fun y2 hy2 hr=>J g<|J (CB' [(0,2)] [] (q9B (m:=m) hy2))<|bdE hr fun y3 hy3 hr=>J g<|J (CBz' 3 [(0,3)] [] (z0U hy3))<|J (LIR' 4 (m:=.fz) (f:=Rl_.D) (xs:=[y3]))<|ggE hr fun g1 hr=>J (AP1' 5 .fz 32 g1)<|J (q0x .refl)<|e
 refine bdE hr fun q2 hqq2 hr=>J g<|q0h hqq2 2 (fun s2=>[(1,.pb 0 0),(4,.ref 1 none)]) (fun s2=>[(1,.row .fz 2 (s2.map Rl_.D))]) I fun sk2 ok2 hr hik2=>?_
 obtain⟨s2,rfl⟩:∃ y,y=sk2:=⟨_,rfl⟩
 refine J (gn 11) ?_
 refine AW.len (.box 0 1 rfl rfl) fun hl3=>?_
 refine bdP hr fun s3 s4 hqq3 hr=>q0d hqq3 hl3 2 (fun k3 (s3,s4)=>[(1,.pb 0 0),(4,.ref 1 none),(6,dB s3),(7,dI (k3:Int))]) (fun k3 (s3,s4)=>[(1,.row .fz 2 (s4.map Rl_.D))]) I (fun k3 xk3 sk3 ok3 hxk3 hr hltk3=>?_) fun k3 hltk3=>?_
 obtain⟨s3,s4⟩:=sk3
 refine bdP hr fun s5 s6 hqq4 hr=>J (gn 12)<|q0e 2 [(1,.pb 0 0),(4,.ref 1 none),(6,dB s5),(7,dI (k3:Int))] [(1,.row .fz 2 (s6.map Rl_.D))] ?_ ?_
 replace hr:=hqq4
 refine J g<|J (NV' 2)<|bdE hr fun y4 hy4 hr=>J g<|J (CB' [] [] (z2t (m:=m) hy4))<|ggE hr fun g2 hr=>bdE hr fun x1 hx1 hr=>bdE hr fun y5 hy5 hr=>J g<|J (CBk' 0 1 [(1,3)] [] (j0n (m:=m) (m2:=.fz) hy5))<|bdE hr fun y6 hy6 hr=>J (CB' [(0,4)] [3] (z0v (m:=.bo) hy6))<|bdE hr fun y7 hy7 hr=>J (CB' [(0,5)] [4] (z7p (m:=.bo) hy7))<|bdE hr fun y8 hy8 hr=>J (CB' [(0,6)] [5] (z3I (m:=.bo) hy8))<|J (NV' 7)<|J (gn 5)<|ifE hr ?_ ?_<;>intro h2 hr
 refine J (gn 9)<|J (q0x .refl)<|J (gn 7) ?_
 refine J (q0m 6 rfl)<|J (SE' y8 hx1)<|J g<|E
 refine bdE hr fun y9 hy9 hr=>J g<|J (CB' [] [6] (q8V (m:=.bo) hy9))<|J (gn 2)<|J (q0x .refl)<|J (gn 7) ?_
 refine J (q0m 6 rfl)<|J (SE' y8 hx1)<|J g<|E
 exact e
 refine J (gn 16)<|ifE hr ?_ ?_<;>intro h3 hr
 exact e
 exact e
 refine J g<|J (L0' 1 Rl_.D)<|e
theorem z7q {m:Md}{a0:(List (List Rl_))}{r:(List Int)}(hr:q9H a0=some r):Ok Tryz.prog 55 [.d m (.sl 1 (a0.map (fun (l:List Rl_)=>A.D.sl 2 (l.map Rl_.D))))] [] (.ref 0 none) [.row .fz 1 (r.map (A.D.i .i64))]:=by
 refine OE Tryz.func55 fun S hS=>?_
 unfold q9H at hr
 refine J g<|J (L0' 0 (A.D.i .i64))<|J (gn 8)<|J (lenT 0)<|fun hl1=>bdE hr fun s1 hqq1 hr=>q0d hqq1 hl1 1 (fun k1 s1=>[(0,.d m (.sl 1 (a0.map (fun (l:List Rl_)=>A.D.sl 2 (l.map Rl_.D))))),(3,.ref 0 none),(4,dI (k1:Int))]) (fun k1 s1=>[(0,.row .fz 1 (s1.map (A.D.i .i64)))]) I (fun k1 xk1 sk1 ok1 hxk1 hr hltk1=>?_) fun k1 hltk1=>?_
 obtain⟨s1,rfl⟩:∃ y,y=sk1:=⟨_,rfl⟩
 refine J g<|J (LIR' 1 (m:=.fz) (f:=(A.D.i .i64)) (xs:=([(xk1.length:Int)]:List Int)))<|ggE hr fun g1 hr=>J (z0F (f:=(A.D.i .i64)) 2 (fun _=>rfl) 8 g1)<|e
 exact e
theorem z6f {m:Md}{a0:Gm_}{a1:Rule}{a2:(List Int)}{r:(List (List Int))}(hr:q8S a0 a1 a2=some r):Ok Tryz.prog 54 [Gm_.y m a0,Rule.x m a1,.d m (.sl 1 (a2.map (A.D.i .i64)))] [] (.ref 0 none) [.row .fz 1 (r.map (fun (l:List Int)=>A.D.sl 1 (l.map (A.D.i .i64))))]:=by
 refine OE Tryz.func54 fun S hS=>?_
 unfold q8S at hr
 refine J g<|J (BX' 0)<|J (BX' 1)<|J g<|J (L0' 2 (A.D.i .i64)) ?_
 refine J (q0m 2 rfl)<|J (LIR' 3 (m:=.fz) (f:=(fun (l:List Int)=>A.D.sl 1 (l.map (A.D.i .i64)))) (xs:=[[]]))<|J (gn 8)<|J (lenA 2 1)<|fun hl1=>bdE hr fun s1 hqq1 hr=>q0d hqq1 hl1 4 (fun k1 s1=>[(2,.d m (.sl 1 (a2.map (A.D.i .i64)))),(3,.pb 0 0),(4,.pb 1 0),(7,.ref 3 none),(8,dI (k1:Int))]) (fun k1 s1=>[(2,.none),(3,.row .fz 1 (s1.map (fun (l:List Int)=>A.D.sl 1 (l.map (A.D.i .i64)))))]) I (fun k1 xk1 sk1 ok1 hxk1 hr hltk1=>?_) fun k1 hltk1=>?_
 obtain⟨s1,rfl⟩:∃ y,y=sk1:=⟨_,rfl⟩
 refine J g<|J (L0' 4 (fun (l:List Int)=>A.D.sl 1 (l.map (A.D.i .i64))))<|bdE hr fun y1 hy1 hr=>J g<|J (CB' [] [] (z2t (m:=m) hy1))<|bdE hr fun y2 hy2 hr=>J (CB' [] [] (z3F hy2))<|ggE hr fun g1 hr=>bdE hr fun x1 hx1 hr=>J (gn 10)<|J (lenR 3)<|fun hl2=>bdE hr fun s2 hqq2 hr=>q0d hqq2 hl2 5 (fun k2 s2=>[(2,.d m (.sl 1 (a2.map (A.D.i .i64)))),(3,.pb 0 0),(4,.pb 1 0),(7,.ref 3 none),(8,dI (k1:Int)),(9,.ref 4 none),(10,dI x1),(11,dI (k2:Int))]) (fun k2 s2=>[(4,.row .fz 1 (s2.map (fun (l:List Int)=>A.D.sl 1 (l.map (A.D.i .i64)))))]) I (fun k2 xk2 sk2 ok2 hxk2 hr hltk2=>?_) fun k2 hltk2=>?_
 obtain⟨s2,rfl⟩:∃ y,y=sk2:=⟨_,rfl⟩
 refine J (gn 17)<|J (rngT 10)<|fun hl3=>bdE hr fun s3 hqq3 hr=>q0i hqq3 5 (fun k3 s3=>[(2,.d m (.sl 1 (a2.map (A.D.i .i64)))),(3,.pb 0 0),(4,.pb 1 0),(7,.ref 3 none),(8,dI (k1:Int)),(9,.ref 4 none),(10,dI x1),(11,dI (k2:Int)),(12,dI (k3:Int))]) (fun k3 s3=>[(4,.row .fz 1 (s3.map (fun (l:List Int)=>A.D.sl 1 (l.map (A.D.i .i64)))))]) I (fun k3 sk3 ok3 hr hltk3=>?_) ?_
 obtain⟨s3,rfl⟩:∃ y,y=sk3:=⟨_,rfl⟩
 refine J g<|J (L0' 5 (A.D.i .i64))<|ggE hr fun g2 hr=>J g<|J (j2K (f:=(A.D.i .i64)) 6 8 (fun _=>rfl) g2)<|J g<|J (LIR' 7 (m:=.fz) (f:=(A.D.i .i64)) (xs:=([(k3:Int)]:List Int)))<|ggE hr fun g3 hr=>J (z0F (f:=(A.D.i .i64)) 8 (fun _=>rfl) 8 g3) ?_
 refine J (q0m 8 rfl)<|J (LIR' 9 (m:=.fz) (f:=(fun (l:List Int)=>A.D.sl 1 (l.map (A.D.i .i64)))) (xs:=[(xk2++[(k3:Int)])]))<|ggE hr fun g4 hr=>J (AP1' 10 .fz 24 g4)<|J g<|E
 exact e
 exact e
 exact e
theorem j0o {m:Md}{a0:Gm_}{a1:Rule}{a2:(List (List Rl_))}{a3:(List Int)}{r:(List Rl_)}(hr:z1Y a0 a1 a2 a3=some r):Ok Tryz.prog 57 [Gm_.y m a0,Rule.x m a1,.d m (.sl 1 (a2.map (fun (l:List Rl_)=>A.D.sl 2 (l.map Rl_.D)))),.d m (.sl 1 (a3.map (A.D.i .i64)))] [] (.ref 0 none) [.row m 2 (r.map Rl_.D)]:=by
 refine OE Tryz.func57 fun S hS=>?_
 unfold z1Y at hr
 refine J g<|J (BX' 0)<|J (BX' 1)<|J g<|J (L0' 2 Rl_.D)<|J (gn 8)<|J (lenT 3)<|fun hl1=>bdE hr fun s1 hqq1 hr=>?_
 refine q0d hqq1 hl1 3 (fun k1 s1=>[(2,.d m (.sl 1 (a2.map (fun (l:List Rl_)=>A.D.sl 2 (l.map Rl_.D))))),(3,.d m (.sl 1 (a3.map (A.D.i .i64)))),(4,.pb 0 0),(5,.pb 1 0),(9,.ref 2 none),(10,dI (k1:Int))]) (fun k1 s1=>[(2,.row m 2 (s1.map Rl_.D))]) (GH.trans (q0Z (r:=2) m rfl) I) (fun k1 xk1 sk1 ok1 hxk1 hr hltk1=>?_) fun k1 hltk1=>?_
 obtain⟨s1,rfl⟩:∃ y,y=sk1:=⟨_,rfl⟩
 refine bdE hr fun x1 hx1 hr=>bdE hr fun y1 hy1 hr=>J g<|J (CB' [] [] (z2t (m:=m) hy1))<|bdE hr fun y2 hy2 hr=>J (CB' [] [] (z3F hy2))<|ggE hr fun g1 hr=>bdE hr fun x2 hx2 hr=>ggE hr fun g2 hr=>bdE hr fun x3 hx3 hr=>J g ?_
 refine J (j8a 3 (m:=m) (f:=Rl_.D) [x3] rfl)<|ggE hr fun g3 hr=>J (AP1' 4 m 32 g3)<|J (q0x .refl)<|J g<|E
 exact e
theorem j8v {m:Md}{a0:(List Rl_)}{a1:Rl_}{r:Bool}(hr:z5q a0 a1=some r):Ok Tryz.prog 86 [.d m (.sl 2 (a0.map Rl_.D)),Rl_.x m a1] [] (dB r) []:=by
 refine OE Tryz.func86 fun S hS=>?_
 unfold z5q at hr
 refine J g<|J (BX' 0)<|J (gn 8)<|J (lenT 0)<|fun hl1=>bdE hr fun q1 hqq1 hr=>q0b hqq1 hl1 1 (fun k1 _=>[(0,.d m (.sl 2 (a0.map Rl_.D))),(3,.pb 0 0),(5,dI (k1:Int))]) (fun k1 _=>[]) I (fun k1 xk1 sk1 ok1 hxk1 hr hltk1 hik1=>?_) fun k1 sk1 ek1 hltk1=>?_
 refine bdE hr fun y1 hy1 hr=>J g<|J (CB' [] [] (q8V (m:=m) hy1))<|J (gn 1)<|ifE hr ?_ ?_<;>intro h1 hr
 exact e
 exact e
 subst ek1
 exact e
theorem j4A {m:Md}{a0:Gm_}{a1:(List (List Rl_))}{r:((List (List Rl_))×Bool)}(hr:z2q a0 a1=some r):Ok Tryz.prog 36 [Gm_.x m a0,.d .fz (.sl 1 (a1.map (fun (l:List Rl_)=>A.D.sl 2 (l.map Rl_.D))))] [] (.tu [.ref 0 none,dB r.2]) [.deep .fz 1 (r.1.map (fun (l:List Rl_)=>[Cell.o .fz 2 (l.map Rl_.D)])) []]:=by
 refine OE Tryz.func36 fun S hS=>?_
 unfold z2q at hr
 refine J g<|J (BX' 0)<|J g<|J (L0' 1 (fun (l:List Rl_)=>A.D.sl 2 (l.map Rl_.D)))<|q3K 1 (fun (l:List Rl_)=>[Cell.o .fz 2 (l.map Rl_.D)]) ?_
 refine J (gn 8)<|J (lenT 1)<|fun hl1=>bdE hr fun s1 hqq1 hr=>q0d hqq1 hl1 2 (fun k1 s1=>[(1,.d .fz (.sl 1 (a1.map (fun (l:List Rl_)=>A.D.sl 2 (l.map Rl_.D))))),(2,.pb 0 0),(6,.ref 1 none),(7,dI (k1:Int))]) (fun k1 s1=>[(1,.deep .fz 1 (s1.map (fun (l:List Rl_)=>[Cell.o .fz 2 (l.map Rl_.D)])) [])]) I (fun k1 xk1 sk1 ok1 hxk1 hr hltk1=>?_) fun k1 hltk1=>?_
 obtain⟨s1,rfl⟩:∃ y,y=sk1:=⟨_,rfl⟩
 refine J g<|J (L0' 2 Rl_.D)<|ggE hr fun g1 hr=>J g<|J (APB' 3 .fz 32 g1)<|J (LID' (f:=(fun (l:List Rl_)=>[Cell.o .fz 2 (l.map Rl_.D)])) 4 xk1 [3])<|ggE hr fun g2 hr=>J (k1J 5 24 g2)<|e
 refine J (gn 20) ?_
 refine AW.len (.box 0 1 rfl rfl) fun hl2=>?_
 refine bdP hr fun s2 s3 hqq2 hr=>q0d hqq2 hl2 2 (fun k2 (s2,s3)=>[(1,.d .fz (.sl 1 (a1.map (fun (l:List Rl_)=>A.D.sl 2 (l.map Rl_.D))))),(2,.pb 0 0),(6,.ref 1 none),(8,dB s3),(9,dI (k2:Int))]) (fun k2 (s2,s3)=>[(1,.deep .fz 1 (s2.map (fun (l:List Rl_)=>[Cell.o .fz 2 (l.map Rl_.D)])) [])]) I (fun k2 xk2 sk2 ok2 hxk2 hr hltk2=>?_) fun k2 hltk2=>?_
 obtain⟨s2,s3⟩:=sk2
 refine J g<|J (NV' 2)<|bdE hr fun y1 hy1 hr=>J g<|J (CB' [(0,3)] [] (z7q (m:=.fz) hy1))<|bdE hr fun y2 hy2 hr=>J (CB' [(0,4)] [3] (z6f (m:=.bo) hy2))<|bdE hr fun y3 hy3 hr=>J g<|J (CB' [] [] (z2t (m:=m) hy3))<|J (gn 7)<|J (lenR 4)<|fun hl3=>bdP hr fun s4 s5 hqq3 hr=>q0d hqq3 hl3 5 (fun k3 (s4,s5)=>[(1,.d .fz (.sl 1 (a1.map (fun (l:List Rl_)=>A.D.sl 2 (l.map Rl_.D))))),(2,.pb 0 0),(6,.ref 1 none),(8,dB s5),(9,dI (k2:Int)),(10,.pb 2 0),(11,.ref 4 none),(12,dI y3),(13,dI (k3:Int))]) (fun k3 (s4,s5)=>[(1,.deep .fz 1 (s4.map (fun (l:List Rl_)=>[Cell.o .fz 2 (l.map Rl_.D)])) [])]) I (fun k3 xk3 sk3 ok3 hxk3 hr hltk3=>?_) fun k3 hltk3=>?_
 obtain⟨s4,s5⟩:=sk3
 refine bdP hr fun s6 s7 hqq4 hr=>J (gn 11)<|q0e 5 [(1,.d .fz (.sl 1 (a1.map (fun (l:List Rl_)=>A.D.sl 2 (l.map Rl_.D))))),(2,.pb 0 0),(6,.ref 1 none),(8,dB s6),(9,dI (k2:Int)),(10,.pb 2 0),(11,.ref 4 none),(12,dI y3),(13,dI (k3:Int))] [(1,.deep .fz 1 (s7.map (fun (l:List Rl_)=>[Cell.o .fz 2 (l.map Rl_.D)])) [])] ?_ ?_
 replace hr:=hqq4
 refine bdE hr fun y4 hy4 hr=>J g<|J (CB' [(0,5)] [] (j0o (m:=m) hy4))<|bdE hr fun y5 hy5 hr=>J (CB' [(0,6)] [5] (z0v (m:=.bo) hy5))<|bdE hr fun y6 hy6 hr=>J (CB' [(0,7)] [6] (z7p (m:=.bo) hy6))<|J (NV' 8)<|ggE hr fun g3 hr=>bdE hr fun x1 hx1 hr=>J (gn 2)<|J (q0t 1 y3.toNat 0 9 (q3Z hx1))<|J g<|J (IEd' g3 (q3T (q3Z hx1)))<|J (LPd' [(0,9)] (q3T (q3Z hx1)))<|bdE hr fun y7 hy7 hr=>J g<|J (CB' [] [9,7] (j8v (m:=.bo) hy7))<|J (gn 2)<|ifE hr ?_ ?_<;>intro h1 hr
 refine J (gn 2) ?_
 cases hr
 exact GH.trans (q0B 1 y3.toNat 0 9 (q3T (q3Z hx1))) (GH.trans (q0o 1 (he:=k1H (f:=(fun (l:List Rl_)=>[Cell.o .fz 2 (l.map Rl_.D)])) hx1 (by first|rfl|(simp only[List.set_set];rfl)))) (q0g hS 5))
 refine J (gn 1) ?_
 refine J (q2o 7 rfl)<|J g<|J (IEd' g3 (q3T (q3Z hx1)))<|J (LPd' [(0,9)] (q3T (q3Z hx1)))<|J g<|J (LIR' 10 (m:=.fz) (f:=Rl_.D) (xs:=[y6]))<|ggE hr fun g4 hr=>J (AP1' 11 .fz 32 g4)<|J (IEd' g3 (q3T (q3Z hx1)))<|J (SD' [.o .fz 2 ((x1++[y6]).map Rl_.D)] [11] (q3T (q3Z hx1)))<|J (gn 4) ?_
 cases hr
 exact GH.trans (q0o 1 (he:=eset (f:=(fun (l:List Rl_)=>[Cell.o .fz 2 (l.map Rl_.D)])) (x':=(x1++[y6])) (by first|rfl|(simp only[List.set_set];rfl)))) (q0g hS 5)
 exact e
 exact e
 exact e
theorem z7r {m:Md}{a0:Gm_}{r:((List (List Rl_))×Bool)}(hr:q7u a0=some r):Ok Tryz.prog 10 [Gm_.x m a0] [] (.tu [.d .fz (.sl 1 (r.1.map (fun (l:List Rl_)=>A.D.sl 2 (l.map Rl_.D)))),dB r.2]) []:=by
 refine OE Tryz.func10 fun S hS=>?_
 unfold q7u at hr
 refine J g<|J (BX' 0)<|bdE hr fun y1 hy1 hr=>J g<|J (CB' [] [] (z6u (m:=m) hy1))<|J (gn 2)<|ifE hr ?_ ?_<;>intro h1 hr
 refine ggE hr fun g1 hr=>J g<|MKW 1 (f:=(fun (l:List Rl_)=>[Cell.o .fz 2 (l.map Rl_.D)])) [] g1.1 g1.2.1 g1.2.2 ?_
 refine bdE hr fun q1 hqq1 hr=>J g<|q0h hqq1 2 (fun s1=>[(1,.pb 0 0),(4,.ref 1 none)]) (fun s1=>[(1,.deep .fz 1 (s1.map (fun (l:List Rl_)=>[Cell.o .fz 2 (l.map Rl_.D)])) [])]) I fun sk1 ok1 hr hik1=>?_
 obtain⟨s1,rfl⟩:∃ y,y=sk1:=⟨_,rfl⟩
 refine J (gn 5) ?_
 refine q3M 1 (fun (l:List Rl_)=>A.D.sl 2 (l.map Rl_.D)) (by exact fun _=>rfl) rfl ?_
 refine bdP hr fun y2 y3 hq2 hr=>J (CB' [(0,2)] [] (j4A (m:=m) hq2))<|J (gn 12)<|ifE hr ?_ ?_<;>intro h2 hr
 exact e
 exact e
 refine J g<|J (L0' 1 (fun (l:List Rl_)=>A.D.sl 2 (l.map Rl_.D)))<|q3K 1 (fun (l:List Rl_)=>[Cell.o .fz 2 (l.map Rl_.D)]) ?_
 refine J (gn 4) ?_
 refine J (q0c (q0p 1 (fun (l:List Rl_)=>A.D.sl 2 (l.map Rl_.D)) (by exact fun _=>rfl) rfl))<|J g<|E
theorem j0p {m:Md}{a0:Rl_}{r:Bool}(hr:z0T a0=some r):Ok Tryz.prog 56 [Rl_.x m a0] [] (dB r) []:=by
 refine OE Tryz.func56 fun S hS=>?_
 unfold z0T at hr
 refine J g<|J (BX' 0)<|bdE hr fun y1 hy1 hr=>J g<|J (CB' [] [] (q5I (m:=m) hy1))<|J (gn 2)<|ifE hr ?_ ?_<;>intro h1 hr
 refine bdE hr fun y2 hy2 hr=>J g<|J (CB' [(0,1)] [] (z3H (m:=m) hy2))<|J (NV' 2)<|J (gn 8) ?_
 refine q0F (.ag 0 (.tmp 0 rfl) rfl) fun hl1=>?_
 refine bdE hr fun q1 hqq1 hr=>q0u hqq1 3 (fun k1 _=>[(1,.pb 0 0),(3,.pb 2 0),(4,dI (k1:Int))]) (fun k1 _=>[]) I (fun k1 sk1 ok1 hr hltk1 hik1=>?_) fun sk1 ek1=>?_
 refine bdE hr fun y3 hy3 hr=>J g<|J (CB' [] [1] (z6z (m:=.bo) hy3))<|J (gn 1)<|ifE hr ?_ ?_<;>intro h2 hr
 exact e
 exact e
 subst ek1
 exact e
 exact e
theorem z7W {m:Md}{a0:Gm_}{r:(List ByteArray)}(hr:q8l a0=some r):Ok Tryz.prog 52 [Gm_.x m a0] [] (.ref 0 none) [.row .fz 1 (r.map A.D.s)]:=by
 refine OE Tryz.func52 fun S hS=>?_
 unfold q8l at hr
 refine J g<|J (BX' 0)<|J g<|J (L0' 1 A.D.s)<|bdP hr fun y1 y2 hq1 hr=>J g<|J (CB' [(0,2)] [] (z2S (m:=m) hq1))<|bdE hr fun s1 hqq2 hr=>J (gn 11)<|q0e 3 [(3,.ref 1 none)] [(1,.row .fz 1 (s1.map A.D.s))] ?_ ?_
 refine J g<|q0h hqq2 3 (fun (s2,s3)=>[(1,.pb 0 0),(3,.ref 1 none),(4,.ref 2 none),(5,dB y2),(6,dI s3)]) (fun (s2,s3)=>[(1,.row .fz 1 (s2.map A.D.s))]) I fun sk1 ok1 hr hik1=>?_
 obtain⟨s2,s3⟩:=sk1
 have hr:=hr
 refine J (gn 8)<|ifE hr ?_ ?_<;>intro h1 hr
 refine J (gn 4)<|ifE hr ?_ ?_<;>intro h2 hr
 refine bdE hr fun s4 hqq3 hr=>J (gn 3)<|q0e 3 [(1,.pb 0 0),(3,.ref 1 none),(4,.ref 2 none),(5,dB y2),(6,dI s3),(19,dB y2)] [(1,.row .fz 1 (s4.map A.D.s))] ?_ ?_
 replace hr:=hqq3
 refine ggE hr fun g1 hr=>bdE hr fun x1 hx1 hr=>bdE hr fun y3 hy3 hr=>J g<|J (CBk' 0 2 [(1,3)] [] (j0n (m:=m) (m2:=.fz) hy3))<|bdE hr fun y4 hy4 hr=>J (CB' [(0,4)] [3] (z0v (m:=.bo) hy4))<|bdE hr fun y5 hy5 hr=>J (CB' [] [4] (j0p (m:=.bo) hy5))<|J (gn 1)<|ifE hr ?_ ?_<;>intro h3 hr
 refine J g<|J (LIR' 5 (m:=.fz) (f:=A.D.s) (xs:=[x1.Name]))<|ggE hr fun g2 hr=>J (z0F (f:=A.D.s) 6 (fun _=>rfl) 16 g2)<|e
 exact e
 refine ggE hr fun g3 hr=>e
 refine J (gn 2) ?_
 cases hr
 cases hik1 _ rfl
 exact q0g hS 3
 refine J (gn 6) ?_
 cases hr
 cases hik1 _ rfl
 exact q0g hS 3
 exact e
theorem z4k {m:Md}{a0:Gm_}{r:Bool}(hr:q6b a0=some r):Ok Tryz.prog 18 [Gm_.x m a0] [] (dB r) []:=by
 refine OE Tryz.func18 fun S hS=>?_
 unfold q6b at hr
 refine J g<|J (BX' 0)<|bdE hr fun y1 hy1 hr=>J g<|J (CB' [] [] (z6u (m:=m) hy1))<|ifE hr ?_ ?_<;>intro h1 hr
 refine bdE hr fun y2 hy2 hr=>J g<|J (CB' [(0,1)] [] (z7W (m:=m) hy2))<|e
 exact e
theorem j1o {m:Md}{a0:Gm_}{r:Bool}(hr:z0u a0=some r):Ok Tryz.prog 20 [Gm_.x m a0] [] (dB r) []:=by
 refine OE Tryz.func20 fun S hS=>?_
 unfold z0u at hr
 refine J g<|J (BX' 0)<|bdP hr fun y1 y2 hq1 hr=>J g<|J (CB' [] [] (z7r (m:=m) hq1))<|bdE hr fun q2 hqq2 hr=>J (gn 11)<|AW.cut 1 (fun _=>[]) (fun _=>[]) (M:=fun x=>q2=.inl x) ?_ fun x hx=>?_
 refine J g<|q0h hqq2 1 (fun s1=>[(1,.pb 0 0),(3,.d .fz (.sl 1 (y1.map (fun (l:List Rl_)=>A.D.sl 2 (l.map Rl_.D))))),(4,dB y2),(5,dI s1)]) (fun s1=>[]) I fun sk1 ok1 hr hik1=>?_
 obtain⟨s1,rfl⟩:∃ y,y=sk1:=⟨_,rfl⟩
 have hr:=hr
 refine J (gn 8)<|ifE hr ?_ ?_<;>intro h1 hr
 refine J (gn 4)<|ifE hr ?_ ?_<;>intro h2 hr
 refine ggE hr fun g1 hr=>bdE hr fun x1 hx1 hr=>J g<|J (NV' 1)<|bdE hr fun y3 hy3 hr=>J g<|J (CB' [(0,2)] [] (z7q (m:=.fz) hy3))<|bdE hr fun y4 hy4 hr=>J (CB' [(0,3)] [2] (z6f (m:=.bo) hy4))<|J (gn 7)<|J (lenR 3)<|fun hl2=>bdE hr fun q3 hqq3 hr=>q0b hqq3 hl2 4 (fun k2 _=>[(1,.pb 0 0),(3,.d .fz (.sl 1 (y1.map (fun (l:List Rl_)=>A.D.sl 2 (l.map Rl_.D))))),(4,dB y2),(5,dI s1),(6,.pb 1 0),(7,.ref 3 none),(8,dI (k2:Int)),(20,dB y2)]) (fun k2 _=>[]) I (fun k2 xk2 sk2 ok2 hxk2 hr hltk2 hik2=>?_) fun k2 sk2 ek2 hltk2=>?_
 refine bdE hr fun y5 hy5 hr=>J g<|J (CB' [(0,4)] [] (j0o (m:=m) hy5))<|bdE hr fun y6 hy6 hr=>J (CB' [(0,5)] [4] (z0v (m:=.bo) hy6))<|bdE hr fun y7 hy7 hr=>J (CB' [] [5] (j0p (m:=.bo) hy7))<|J (gn 1)<|ifE hr ?_ ?_<;>intro h3 hr
 exact e
 exact e
 subst ek2
 refine ggE hr fun g2 hr=>e
 refine J (gn 2) ?_
 cases hr
 cases hik1 _ rfl
 exact⟨_,rfl,q0g hS 1⟩
 refine J (gn 6) ?_
 cases hr
 cases hik1 _ rfl
 exact⟨_,rfl,q0g hS 1⟩
 subst hx
 exact e
end Go.Proofs.YtomdlgffolbdkaaGreat
