/- What some functions of the program compute, as partial functions on plain data, and that they do; each lemma bears its conditions in its statement. -/
import Derived.Test.YtppbkkcekpbaiaaGreatDef
set_option linter.unusedVariables false
set_option linter.unusedSimpArgs false
set_option linter.ambiguousOpen false
set_option linter.unusedSectionVars false
set_option linter.unnecessarySimpa false
set_option maxRecDepth 100000
set_option maxHeartbeats 40000000
noncomputable section
namespace Go.Proofs.YtppbkkcekpbaiaaGreat
open Go Go.E Go.A
theorem j6G {a0:(List UInt8)}{r:l1Cur}(hr:z6e a0=some r):Ok Tryz.prog 26 [.d .fz (.sl 1 (a0.map byD))] [] (.pb 0 0) [.box [.d .fz (.sl 1 (r.b.map byD)),dI r.i,dI r.h]]:=by
 refine OE Tryz.func26 fun S hS=>?_
 unfold z6e at hr
 refine J g<|J (OB' _ j7U)<|bdE hr fun s1 hqq1 hr=>J (gn 7)<|q0d 0 [(0,.d .fz (.sl 1 (a0.map byD))),(3,dI s1)] [] ?_ ?_
 refine J g<|q0l hqq1 0 (fun (s2,s3)=>[(0,.d .fz (.sl 1 (a0.map byD))),(3,dI s2),(4,dI s3)]) (fun (s2,s3)=>[]) I fun sk1 ok1 hr hik1=>?_
 obtain⟨s2,s3⟩:=sk1
 have hr:=hr
 refine J (gn 7)<|ifE hr ?_ ?_<;>intro h1 hr
 refine J (gn 5)<|ifE hr ?_ ?_<;>intro h2 hr
 refine J g<|J (OB' _ k7D)<|ggE hr fun g1 hr=>bdE hr fun x1 hx1 hr=>J g ?_
 refine J (CUB' rfl)<|J (OB' _ j7U)<|J (OB' _ j7U)<|J (OB' _ k1P)<|J g<|J (OB' _ j7U)<|J g<|E
 refine J (gn 2) ?_
 cases hr
 cases hik1 _ rfl
 exact q0i hS 0
 refine J (gn 7) ?_
 cases hr
 cases hik1 _ rfl
 exact q0i hS 0
 refine J g<|J (BX' 0)<|e
theorem z5E {o0:l1Cur}{r:(Int×l1Cur)}(hr:z1k o0=some r):Ok Tryz.prog 60 [.pb 0 0] [.box [.d .fz (.sl 1 (o0.b.map byD)),dI o0.i,dI o0.h]] (dI r.1) [.box [.d .fz (.sl 1 (o0.b.map byD)),dI r.2.i,dI r.2.h]]:=by
 refine OE Tryz.func60 fun S hS=>?_
 unfold z1k at hr
 refine J g<|J (OB' _ k7D)<|J (OB' _ j7U)<|J g<|J (OB' _ (k7E (b:=33) (by decide)))<|J g<|J (OB' _ (k7E (b:=45) (by decide)))<|J (OB' _ k8o)<|J (OB' _ k1P)<|J (gn 16)<|ifE hr ?_ ?_<;>intro h1 hr
 refine ggE hr fun g1 hr=>bdE hr fun x1 hx1 hr=>J g ?_
 refine J (CUB' rfl)<|J (OB' _ j7U)<|J (OB' _ k1P)<|J (q1b .refl)<|J g<|J (OB' _ j7U)<|J g<|E
 exact e
theorem q4F {a1:Int}{o0:l1Cur}{r:(Int×l1Cur)}(hr:q4i a1 o0=some r):Ok Tryz.prog 27 [.pb 0 0,dI a1] [.box [.d .fz (.sl 1 (o0.b.map byD)),dI o0.i,dI o0.h]] (dI r.1) [.box [.d .fz (.sl 1 (o0.b.map byD)),dI r.2.i,dI r.2.h]]:=by
 refine OE Tryz.func27 fun S hS=>?_
 unfold q4i at hr
 refine J (gn 10)<|ifE hr ?_ ?_<;>intro h1 hr
 exact e
 refine J (gn 8)<|ifE hr ?_ ?_<;>intro h2 hr
 refine bdP hr fun y1 z1 hq1 hr=>J g<|J (CB' [(0,0)] [] (z5E hq1))<|ggE hr fun g1 hr=>J g<|J (OB' _ (bRem (b:=a1) g1))<|e
 refine bdP hr fun y2 z2 hq2 hr=>J g<|J (CB' [(0,0)] [] (z5E hq2))<|bdP hr fun y3 z3 hq3 hr=>J g<|J (CB' [(0,0)] [] (z5E hq3))<|bdP hr fun y4 z4 hq4 hr=>J g<|J (CB' [(0,0)] [] (z5E hq4))<|bdP hr fun y5 z5 hq5 hr=>J g<|J (CB' [(0,0)] [] (z5E hq5))<|ggE hr fun g2 hr=>J g<|J (OB' _ (bMul g2))<|ggE hr fun g3 hr=>J g<|J (OB' _ (bMul g3))<|ggE hr fun g4 hr=>ggE hr fun g5 hr=>J g<|J (OB' _ (bMul g5))<|ggE hr fun g6 hr=>ggE hr fun g7 hr=>ggE hr fun g8 hr=>J g<|J (OB' _ (bRem (b:=a1) g8)) ?_
 exact e
theorem q7x {m:Md}{a1:(List Int)}{o0:l1Cur}{r:(Int×l1Cur)}(hr:q5U a1 o0=some r):Ok Tryz.prog 148 [.pb 0 0,.d m (.sl 1 (a1.map (A.D.i .i64)))] [.box [.d .fz (.sl 1 (o0.b.map byD)),dI o0.i,dI o0.h]] (dI r.1) [.box [.d .fz (.sl 1 (o0.b.map byD)),dI r.2.i,dI r.2.h]]:=by
 refine OE Tryz.func148 fun S hS=>?_
 unfold q5U at hr
 refine bdP hr fun y1 z1 hq1 hr=>J g<|J (CB' [(0,0)] [] (q4F hq1))<|ggE hr fun g1 hr=>bdE hr fun x1 hx1 hr=>e
theorem k0B {a1:ByteArray}{a2:Bool}{a3:Bool}{o0:l1Cur}{r:(Symbol×l1Cur)}(hr:z6W a1 a2 a3 o0=some r):Ok Tryz.prog 94 [.pb 0 0,dS a1,dB a2,dB a3] [.box [.d .fz (.sl 1 (o0.b.map byD)),dI o0.i,dI o0.h]] (.ag [dS r.1.Name,.ref 1 none]) [.box [.d .fz (.sl 1 (o0.b.map byD)),dI r.2.i,dI r.2.h],.row .fz 4 (r.1.Attributes.map At_.D)]:=by
 refine Ok.enter rfl Tryz.func94 rfl rfl rfl fun S hS=>?_
 unfold z6W at hr
 refine sr ?_
 refine NV 1 ?_
 refine N0 ?_
 refine sr ?_
 refine W2 ?_
 refine NV 2 ?_
 refine SB ?_
 refine N0 ?_
 refine sr ?_
 refine W1 ?_
 refine bdE hr fun q1 hq1 hr=>?_
 obtain⟨y1,z1⟩:=q1
 refine CB [(0,0)] [] (q4F hq1) ?_
 refine ggE hr fun g1 hr=>?_
 refine OB _ (bAdd g1) ?_
 refine N1 ?_
 refine ssr ?_
 refine N1 ?_
 refine AW.block ?_
 refine q1y 2 1 3 .fz 4 rfl rfl ?_
 refine AW.rng (.tmp 10 rfl) fun hl1=>?_
 refine bdE hr fun q2 hqq2 hr=>?_
 obtain⟨s2,s3,s1⟩:=q2
 refine q0s hqq2 4 (fun k1 (s2,s3,s1)=>[(0,.pb 0 0),(2,dB a2),(3,dB a3),(8,.pb 1 0),(9,.pb 2 0),(10,dI (1+y1)),(11,dI (k1:Int))]) (fun k1 (s2,s3,s1)=>[(0,.box [.d .fz (.sl 1 (o0.b.map byD)),dI s2,dI s3]),(3,.row .fz 4 (s1.map At_.D))]) (q0i hS 4) (fun k1 sk1 ok1 hr hltk1=>?_) ?_
 obtain⟨s2,s3,s1⟩:=sk1
 refine ssr ?_
 refine N3 ?_
 refine q0o rfl (dT (ltI hltk1)) ?_
 refine q0k ?_
 refine bdE hr fun q3 hqq3 hr=>?_
 obtain⟨s4,s5,s6⟩:=q3
 refine q0m (q0d 5 [(0,.pb 0 0),(2,dB a2),(3,dB a3),(8,.pb 1 0),(9,.pb 2 0),(10,dI (1+y1)),(11,dI (k1:Int))] [(0,.box [.d .fz (.sl 1 (o0.b.map byD)),dI s5,dI s6]),(2,.box [dS a1,.ref 4 none]),(3,.none),(4,.row .fz 4 (s4.map At_.D))] ?_ ?_)
 replace hr:=hqq3
 refine AW.block (q0m (q0n (h:=?_)))
 refine LIR 4 (m:=.fz) (f:=A.D.s) (xs:=[(⟨#[97]⟩:ByteArray),(⟨#[98]⟩:ByteArray),(⟨#[99]⟩:ByteArray),(⟨#[100]⟩:ByteArray)]) ?_
 refine W1 ?_
 refine bdE hr fun x1 hx1 hr=>?_
 refine IE hx1 (Int.natCast_nonneg _) ?_
 refine LP hx1 ?_
 refine W1 ?_
 refine LIR 5 (m:=.fz) (f:=(A.D.i .i64)) (xs:=([1,1,2,2,3,4]:List Int)) ?_
 refine bdE hr fun q4 hq4 hr=>?_
 obtain⟨y2,z2⟩:=q4
 refine CB [(0,0)] [5] (q7x (m:=.bo) hq4) ?_
 refine W1 ?_
 refine LIR 6 (m:=.fz) (f:=(A.D.i .i64)) (xs:=([1,2,2,1,2,3]:List Int)) ?_
 refine bdE hr fun q5 hq5 hr=>?_
 obtain⟨y3,z3⟩:=q5
 refine CB [(0,0)] [6] (q7x (m:=.bo) hq5) ?_
 refine W1 ?_
 refine NV 7 ?_
 refine SB ?_
 refine N0 ?_
 refine ssr ?_
 refine N1 ?_
 refine ifE hr (fun h1 hr=>?_) fun h1 hr=>?_
 refine q0o rfl h1 ?_
 refine q0g ?_
 refine W1 ?_
 refine LIR 8 (m:=.fz) (f:=(A.D.i .i64)) (xs:=([1,1,2,3]:List Int)) ?_
 refine bdE hr fun q6 hq6 hr=>?_
 obtain⟨y4,z4⟩:=q6
 refine CB [(0,0)] [8] (q7x (m:=.bo) hq6) ?_
 refine W1 ?_
 refine SB ?_
 refine N0 ?_
 refine ssr ?_
 refine W1 ?_
 refine bdE hr fun s7 hqq7 hr=>?_
 refine q0a 5 [(0,.pb 0 0),(2,dB a2),(3,dB a3),(8,.pb 1 0),(9,.pb 2 0),(10,dI (1+y1)),(11,dI (k1:Int)),(12,.pb 7 0),(44,dB s7)] ?_ ?_
 replace hr:=hqq7
 refine ifE hr (fun h2 hr=>?_) fun h2 hr=>?_
 refine VT rfl h2 ?_
 refine N4 ?_
 cases hr
 exact z0M
 refine VF rfl (bF h2) ?_
 iterate 3 refine AL.off ?_
 refine N1 ?_
 cases hr
 exact z0M
 refine bdE hr fun s8 hqq8 hr=>?_
 refine q0a 8 [(0,.pb 0 0),(2,dB a2),(3,dB a3),(8,.pb 1 0),(9,.pb 2 0),(10,dI (1+y1)),(11,dI (k1:Int)),(12,.pb 7 0),(52,dB s8)] ?_ ?_
 replace hr:=hqq8
 refine ifE hr (fun h3 hr=>?_) fun h3 hr=>?_
 refine VT rfl h3 ?_
 iterate 6 refine AL.off ?_
 refine N1 ?_
 cases hr
 exact z0M
 refine VF rfl (bF h3) ?_
 refine W1 ?_
 refine bdE hr fun q9 hqq9 hr=>?_
 obtain⟨s9,s10⟩:=q9
 refine q0a 5 [(0,.pb 0 0),(2,dB a2),(3,dB a3),(8,.pb 1 0),(9,.pb 2 0),(10,dI (1+y1)),(11,dI (k1:Int)),(12,.pb 7 0),(45,dB false),(46,dB a3),(47,dB s9),(51,dB s10)] ?_ ?_
 replace hr:=hqq9
 refine ifE hr (fun h4 hr=>?_) fun h4 hr=>?_
 refine VT rfl h4 ?_
 refine N4 ?_
 cases hr
 exact z0M
 refine VF rfl (bF h4) ?_
 iterate 3 refine AL.off ?_
 refine N1 ?_
 cases hr
 exact z0M
 refine N1 ?_
 cases hr
 exact z0M
 refine N0 ?_
 refine ifE hr (fun h5 hr=>?_) fun h5 hr=>?_
 refine q0o rfl h5 ?_
 refine q0g ?_
 refine W1 ?_
 refine SB ?_
 refine N0 ?_
 refine ssr ?_
 refine N3 ?_
 refine ifE hr (fun h6 hr=>?_) fun h6 hr=>?_
 refine q0o rfl (dT h6) ?_
 refine q0g ?_
 refine W1 ?_
 refine SB ?_
 refine N0 ?_
 refine q0g ?_
 refine W3 ?_
 refine LIR 9 (m:=.fz) (f:=At_.D) (xs:=[(⟨x1,2,2,false⟩:At_)]) ?_
 refine ggE hr fun g2 hr=>?_
 refine APf1 (f:=At_.D) 10 (fun _=>rfl) 40 g2 ?_
 refine W1 ?_
 refine SB ?_
 refine N0 ?_
 cases hr
 exact q0h hS [(0,0),(1,1),(2,2),(10,4)] 5
 refine q0p rfl (dF h6) ?_
 refine q0k ?_
 refine q0g ?_
 refine W3 ?_
 refine LIR 9 (m:=.fz) (f:=At_.D) (xs:=[(⟨x1,y4,2,false⟩:At_)]) ?_
 refine ggE hr fun g3 hr=>?_
 refine APf1 (f:=At_.D) 10 (fun _=>rfl) 40 g3 ?_
 refine W1 ?_
 refine SB ?_
 refine N0 ?_
 cases hr
 exact q0h hS [(0,0),(1,1),(2,2),(10,4)] 5
 refine q0p rfl (bF h5) ?_
 refine q0k ?_
 refine ssr ?_
 refine N3 ?_
 refine ifE hr (fun h7 hr=>?_) fun h7 hr=>?_
 refine q0o rfl (dT h7) ?_
 refine q0g ?_
 refine W1 ?_
 refine SB ?_
 refine N0 ?_
 refine q0g ?_
 refine W3 ?_
 refine LIR 9 (m:=.fz) (f:=At_.D) (xs:=[(⟨x1,2,y3,false⟩:At_)]) ?_
 refine ggE hr fun g4 hr=>?_
 refine APf1 (f:=At_.D) 10 (fun _=>rfl) 40 g4 ?_
 refine W1 ?_
 refine SB ?_
 refine N0 ?_
 cases hr
 exact q0h hS [(0,0),(1,1),(2,2),(10,4)] 5
 refine q0p rfl (dF h7) ?_
 refine q0k ?_
 refine q0g ?_
 refine W3 ?_
 refine LIR 9 (m:=.fz) (f:=At_.D) (xs:=[(⟨x1,y4,y3,false⟩:At_)]) ?_
 refine ggE hr fun g5 hr=>?_
 refine APf1 (f:=At_.D) 10 (fun _=>rfl) 40 g5 ?_
 refine W1 ?_
 refine SB ?_
 refine N0 ?_
 cases hr
 exact q0h hS [(0,0),(1,1),(2,2),(10,4)] 5
 refine q0p rfl (bF h1) ?_
 refine q0k ?_
 refine ssr ?_
 refine W1 ?_
 refine bdE hr fun s11 hqq10 hr=>?_
 refine q0a 5 [(0,.pb 0 0),(2,dB a2),(3,dB a3),(8,.pb 1 0),(9,.pb 2 0),(10,dI (1+y1)),(11,dI (k1:Int)),(12,.pb 7 0),(44,dB s11)] ?_ ?_
 replace hr:=hqq10
 refine ifE hr (fun h8 hr=>?_) fun h8 hr=>?_
 refine VT rfl h8 ?_
 refine N4 ?_
 cases hr
 exact z0M
 refine VF rfl (bF h8) ?_
 iterate 3 refine AL.off ?_
 refine N1 ?_
 cases hr
 exact z0M
 refine bdE hr fun s12 hqq11 hr=>?_
 refine q0a 8 [(0,.pb 0 0),(2,dB a2),(3,dB a3),(8,.pb 1 0),(9,.pb 2 0),(10,dI (1+y1)),(11,dI (k1:Int)),(12,.pb 7 0),(52,dB s12)] ?_ ?_
 replace hr:=hqq11
 refine ifE hr (fun h9 hr=>?_) fun h9 hr=>?_
 refine VT rfl h9 ?_
 iterate 6 refine AL.off ?_
 refine N1 ?_
 cases hr
 exact z0M
 refine VF rfl (bF h9) ?_
 refine W1 ?_
 refine bdE hr fun q12 hqq12 hr=>?_
 obtain⟨s13,s14⟩:=q12
 refine q0a 5 [(0,.pb 0 0),(2,dB a2),(3,dB a3),(8,.pb 1 0),(9,.pb 2 0),(10,dI (1+y1)),(11,dI (k1:Int)),(12,.pb 7 0),(45,dB false),(46,dB a3),(47,dB s13),(51,dB s14)] ?_ ?_
 replace hr:=hqq12
 refine ifE hr (fun h10 hr=>?_) fun h10 hr=>?_
 refine VT rfl h10 ?_
 refine N4 ?_
 cases hr
 exact z0M
 refine VF rfl (bF h10) ?_
 iterate 3 refine AL.off ?_
 refine N1 ?_
 cases hr
 exact z0M
 refine N1 ?_
 cases hr
 exact z0M
 refine N0 ?_
 refine ifE hr (fun h11 hr=>?_) fun h11 hr=>?_
 refine q0o rfl h11 ?_
 refine q0g ?_
 refine W1 ?_
 refine SB ?_
 refine N0 ?_
 refine ssr ?_
 refine N3 ?_
 refine ifE hr (fun h12 hr=>?_) fun h12 hr=>?_
 refine q0o rfl (dT h12) ?_
 refine q0g ?_
 refine W1 ?_
 refine SB ?_
 refine N0 ?_
 refine q0g ?_
 refine W3 ?_
 refine LIR 8 (m:=.fz) (f:=At_.D) (xs:=[(⟨x1,2,2,false⟩:At_)]) ?_
 refine ggE hr fun g6 hr=>?_
 refine APf1 (f:=At_.D) 9 (fun _=>rfl) 40 g6 ?_
 refine W1 ?_
 refine SB ?_
 refine N0 ?_
 cases hr
 exact q0h hS [(0,0),(1,1),(2,2),(9,4)] 5
 refine q0p rfl (dF h12) ?_
 refine q0k ?_
 refine q0g ?_
 refine W3 ?_
 refine LIR 8 (m:=.fz) (f:=At_.D) (xs:=[(⟨x1,y2,2,false⟩:At_)]) ?_
 refine ggE hr fun g7 hr=>?_
 refine APf1 (f:=At_.D) 9 (fun _=>rfl) 40 g7 ?_
 refine W1 ?_
 refine SB ?_
 refine N0 ?_
 cases hr
 exact q0h hS [(0,0),(1,1),(2,2),(9,4)] 5
 refine q0p rfl (bF h11) ?_
 refine q0k ?_
 refine ssr ?_
 refine N3 ?_
 refine ifE hr (fun h13 hr=>?_) fun h13 hr=>?_
 refine q0o rfl (dT h13) ?_
 refine q0g ?_
 refine W1 ?_
 refine SB ?_
 refine N0 ?_
 refine q0g ?_
 refine W3 ?_
 refine LIR 8 (m:=.fz) (f:=At_.D) (xs:=[(⟨x1,2,y3,false⟩:At_)]) ?_
 refine ggE hr fun g8 hr=>?_
 refine APf1 (f:=At_.D) 9 (fun _=>rfl) 40 g8 ?_
 refine W1 ?_
 refine SB ?_
 refine N0 ?_
 cases hr
 exact q0h hS [(0,0),(1,1),(2,2),(9,4)] 5
 refine q0p rfl (dF h13) ?_
 refine q0k ?_
 refine q0g ?_
 refine W3 ?_
 refine LIR 8 (m:=.fz) (f:=At_.D) (xs:=[(⟨x1,y2,y3,false⟩:At_)]) ?_
 refine ggE hr fun g9 hr=>?_
 refine APf1 (f:=At_.D) 9 (fun _=>rfl) 40 g9 ?_
 refine W1 ?_
 refine SB ?_
 refine N0 ?_
 cases hr
 exact q0h hS [(0,0),(1,1),(2,2),(9,4)] 5
 refine q0g ?_
 refine W1 ?_
 refine OB _ (z1R (p:=k1) (q:=1) (q4J (ltI hltk1) hl1.2)) ?_
 refine N1 ?_
 cases hr
 exact q0h hS [(0,0),(1,1),(2,2),(4,3)] 4
 refine ssr ?_
 refine N3 ?_
 refine q0p rfl (dF geI) ?_
 refine q0t ?_
 refine sr ?_
 refine W1 ?_
 refine SB ?_
 refine N0 ?_
 refine AW.ret ?_
 cases hr
 exact q0j [(0,0),(3,1)] 2 hS
theorem q8I {a1:Int}{o0:l1Cur}{r:(Bool×l1Cur)}(hr:q7n a1 o0=some r):Ok Tryz.prog 76 [.pb 0 0,dI a1] [.box [.d .fz (.sl 1 (o0.b.map byD)),dI o0.i,dI o0.h]] (dB r.1) [.box [.d .fz (.sl 1 (o0.b.map byD)),dI r.2.i,dI r.2.h]]:=by
 refine OE Tryz.func76 fun S hS=>?_
 unfold q7n at hr
 refine bdP hr fun y1 z1 hq1 hr=>J g<|J (CB' [(0,0)] [] (q4F hq1))<|e
theorem j5b {a0:Int}{r:ByteArray}(hr:z0Z a0=some r):Ok Tryz.prog 95 [dI a0] [] (dS r) []:=by
 refine OE Tryz.func95 fun S hS=>?_
 unfold z0Z at hr
 refine J (gn 10)<|ifE hr ?_ ?_<;>intro h1 hr
 exact e
 refine bdE hr fun s1 hqq1 hr=>J (gn 13)<|q0d 0 [(3,dB (decide (a0<0))),(4,dS s1)] [] ?_ ?_
 refine J g<|q0l hqq1 0 (fun (s2,s3)=>[(0,dI s2),(3,dB (decide (a0<0))),(4,dS s3)]) (fun (s2,s3)=>[]) I fun sk1 ok1 hr hik1=>?_
 obtain⟨s2,s3⟩:=sk1
 have hr:=hr
 refine J (gn 6)<|ifE hr ?_ ?_<;>intro h2 hr
 refine J (gn 2) ?_
 cases hr
 cases hik1 _ rfl
 exact q0i hS 0
 refine J g<|J (OB' _ (bRem (b:=10) (by decide)))<|J (gn 8)<|ifE hr ?_ ?_<;>intro h3 hr
 refine ggE hr fun g1 hr=>ggE hr fun g2 hr=>J g ?_
 refine J (CIB' rfl)<|J (LIR' 0 (m:=.fz) (f:=byD) (xs:=([(UInt8.ofNat ((48+(0-(s2.tmod 10))) % 256).toNat)]:List UInt8))) ?_
 refine J (TS' rfl rfl)<|ggE hr fun g3 hr=>J g<|J (OB' _ (k0w g3))<|ggE hr fun g4 hr=>J g<|J (OB' _ (bQuo (b:=10) (by decide) g4))<|J g<|E
 refine ggE hr fun g5 hr=>J g ?_
 refine J (CIB' rfl)<|J (LIR' 0 (m:=.fz) (f:=byD) (xs:=([(UInt8.ofNat ((48+(s2.tmod 10)) % 256).toNat)]:List UInt8))) ?_
 refine J (TS' rfl rfl)<|ggE hr fun g6 hr=>J g<|J (OB' _ (k0w g6))<|ggE hr fun g7 hr=>J g<|J (OB' _ (bQuo (b:=10) (by decide) g7))<|J g<|E
 refine J (gn 5)<|ifE hr ?_ ?_<;>intro h4 hr
 refine ggE hr fun g8 hr=>J g<|J (OB' _ (k0w g8))<|e
 exact e
theorem k0C {m:Md}{a1:(List ByteArray)}{o0:l1Cur}{r:(ByteArray×l1Cur)}(hr:z6X a1 o0=some r):Ok Tryz.prog 96 [.pb 0 0,.d m (.sl 1 (a1.map A.D.s))] [.box [.d .fz (.sl 1 (o0.b.map byD)),dI o0.i,dI o0.h]] (dS r.1) [.box [.d .fz (.sl 1 (o0.b.map byD)),dI r.2.i,dI r.2.h]]:=by
 refine OE Tryz.func96 fun S hS=>?_
 unfold z6X at hr
 refine bdP hr fun y1 z1 hq1 hr=>J g<|J (CB' [(0,0)] [] (q4F hq1))<|ggE hr fun g1 hr=>bdE hr fun x1 hx1 hr=>e
theorem q5R {a0:Int}{a1:Int}{a2:Int}{r:Bool}(hr:q5F a0 a1 a2=some r):Ok Tryz.prog 73 [dI a0,dI a1,dI a2] [] (dB r) []:=by
 refine OE Tryz.func73 fun S hS=>?_
 unfold q5F at hr
 refine J (gn 9)<|ifE hr ?_ ?_<;>intro h1 hr
 exact e
 exact e
theorem q7E {m:Md}{a0:Rule}{a1:Int}{r:ByteArray}(hr:q4w a0 a1=some r):Ok Tryz.prog 48 [Rule.x m a0,dI a1] [] (dS r) []:=by
 refine OE Tryz.func48 fun S hS=>?_
 unfold q4w at hr
 refine J g<|J (BX' 0)<|J (gn 8)<|ifE hr ?_ ?_<;>intro h1 hr
 exact e
 refine bdE hr fun y1 hy1 hr=>J g<|J (CB' [] [] (q5R hy1))<|J (gn 2)<|ifE hr ?_ ?_<;>intro h2 hr
 refine ggE hr fun g1 hr=>ggE hr fun g2 hr=>bdE hr fun x1 hx1 hr=>e
 exact e
theorem j5c {m:Md}{a0:Symbol}{r:Symbol}(hr:q9O a0=some r):Ok Tryz.prog 93 [Symbol.x m a0] [] (.ag [dS r.Name,.ref 0 none]) [.row .fz 4 (r.Attributes.map At_.D)]:=by
 refine OE Tryz.func93 fun S hS=>?_
 unfold q9O at hr
 refine J g<|J (BX' 0)<|J (NV' 1)<|J g<|J (L0' 2 At_.D)<|ggE hr fun g1 hr=>J g<|J (j4Z (f:=At_.D) 3 40 (fun _=>rfl) g1)<|e
theorem q7F {m:Md}{a0:Gm_}{a1:ByteArray}{r:(Symbol×Bool)}(hr:q5y a0 a1=some r):Ok Tryz.prog 47 [Gm_.y m a0,dS a1] [] (.tu [.ag [dS r.1.Name,.ref 0 none],dB r.2]) [.row .fz 4 (r.1.Attributes.map At_.D)]:=by
 refine OE Tryz.func47 fun S hS=>?_
 unfold q5y at hr
 refine J g<|J (BX' 0)<|J (NV' 1)<|J (gn 8)<|J (lenA 0 0)<|fun hl1=>bdE hr fun q1 hqq1 hr=>q0b hqq1 hl1 2 (fun k1 _=>[(1,dS a1),(2,.pb 0 0),(4,.pb 1 0),(6,dI (k1:Int))]) (fun k1 _=>[]) I (fun k1 xk1 sk1 ok1 hxk1 hr hltk1 hik1=>?_) fun k1 sk1 ek1 hltk1=>?_
 refine J (gn 24)<|ifE hr ?_ ?_<;>intro h1 hr
 refine bdE hr fun y1 hy1 hr=>J g<|J (CB' [(0,2)] [] (j5c (m:=m) hy1))<|e
 exact e
 subst ek1
 refine J (gn 18) ?_
 refine J (q0c (q0r (q:=1) (c:=1) (r:=2) .fz 4 rfl rfl rfl))<|J g<|E
theorem q5S {m:Md}{a0:Gm_}{a1:Rule}{r:(List Oc)}(hr:q3G a0 a1=some r):Ok Tryz.prog 17 [Gm_.y m a0,Rule.x m a1] [] (.ref 0 none) [.row .fz 2 (r.map Oc.D)]:=by
 refine OE Tryz.func17 fun S hS=>?_
 unfold q3G at hr
 refine J g<|J (BX' 0)<|J (BX' 1)<|J g<|J (L0' 2 Oc.D)<|bdE hr fun s1 hqq1 hr=>J (gn 7)<|q0d 3 [(5,.ref 2 none)] [(2,.row .fz 2 (s1.map Oc.D))] ?_ ?_
 refine J g<|q0l hqq1 3 (fun (s2,s3)=>[(2,.pb 0 0),(3,.pb 1 0),(5,.ref 2 none),(6,dI s3)]) (fun (s2,s3)=>[(2,.row .fz 2 (s2.map Oc.D))]) I fun sk1 ok1 hr hik1=>?_
 obtain⟨s2,s3⟩:=sk1
 have hr:=hr
 refine J (gn 9)<|ifE hr ?_ ?_<;>intro h1 hr
 refine bdE hr fun s4 hqq2 hr=>J (gn 3)<|q0d 3 [(2,.pb 0 0),(3,.pb 1 0),(5,.ref 2 none),(6,dI s3)] [(2,.row .fz 2 (s4.map Oc.D))] ?_ ?_
 replace hr:=hqq2
 refine bdE hr fun y1 hy1 hr=>J g<|J (CB' [] [] (q7E (m:=m) hy1))<|bdP hr fun y2 y3 hq3 hr=>J (CB' [(0,3)] [] (q7F (m:=m) hq3))<|J g<|J (NV' 4)<|J (gn 13)<|ifE hr ?_ ?_<;>intro h2 hr
 refine J (gn 9)<|J (lenR 3)<|fun hl2=>bdE hr fun s5 hqq4 hr=>q0f hqq4 hl2 5 (fun k2 s5=>[(2,.pb 0 0),(3,.pb 1 0),(5,.ref 2 none),(6,dI s3),(7,.pb 4 0),(9,dI 2),(10,dI (k2:Int))]) (fun k2 s5=>[(2,.row .fz 2 (s5.map Oc.D))]) I (fun k2 xk2 sk2 ok2 hxk2 hr hltk2=>?_) fun k2 hltk2=>?_
 obtain⟨s5,rfl⟩:∃ y,y=sk2:=⟨_,rfl⟩
 refine bdE hr fun s6 hqq5 hr=>J (gn 12)<|q0d 5 [(2,.pb 0 0),(3,.pb 1 0),(5,.ref 2 none),(6,dI s3),(7,.pb 4 0),(9,dI 2),(10,dI (k2:Int))] [(2,.row .fz 2 (s6.map Oc.D))] ?_ ?_
 replace hr:=hqq5
 refine J (gn 12)<|ifE hr ?_ ?_<;>intro h3 hr
 refine J g<|J (LIR' 5 (m:=.fz) (f:=Oc.D) (xs:=[(⟨s3,xk2.Name⟩:Oc)]))<|ggE hr fun g1 hr=>J (z3z (f:=Oc.D) 6 (fun _=>rfl) 24 g1)<|e
 exact e
 exact e
 exact e
 refine J (gn 7)<|J (lenR 3)<|fun hl3=>bdE hr fun s7 hqq6 hr=>q0f hqq6 hl3 5 (fun k3 s7=>[(2,.pb 0 0),(3,.pb 1 0),(5,.ref 2 none),(6,dI s3),(7,.pb 4 0),(9,dI 1),(10,dI (k3:Int))]) (fun k3 s7=>[(2,.row .fz 2 (s7.map Oc.D))]) I (fun k3 xk3 sk3 ok3 hxk3 hr hltk3=>?_) fun k3 hltk3=>?_
 obtain⟨s7,rfl⟩:∃ y,y=sk3:=⟨_,rfl⟩
 refine bdE hr fun s8 hqq7 hr=>J (gn 12)<|q0d 5 [(2,.pb 0 0),(3,.pb 1 0),(5,.ref 2 none),(6,dI s3),(7,.pb 4 0),(9,dI 1),(10,dI (k3:Int))] [(2,.row .fz 2 (s8.map Oc.D))] ?_ ?_
 replace hr:=hqq7
 refine J (gn 12)<|ifE hr ?_ ?_<;>intro h4 hr
 refine J g<|J (LIR' 5 (m:=.fz) (f:=Oc.D) (xs:=[(⟨s3,xk3.Name⟩:Oc)]))<|ggE hr fun g2 hr=>J (z3z (f:=Oc.D) 6 (fun _=>rfl) 24 g2)<|e
 exact e
 exact e
 exact e
 refine ggE hr fun g3 hr=>e
 refine J (gn 2) ?_
 cases hr
 cases hik1 _ rfl
 exact GH.trans (q0B (q:=0) [.d m (.sl 2 (a0.Symbols.map Symbol.D)),.u] (.cons .rfl (.cons .u .nil)) rfl) (q0i hS 3)
 exact e
theorem z0f {m:Md}{a0:Symbol}{a1:ByteArray}{r:(At_×Bool)}(hr:q5Z a0 a1=some r):Ok Tryz.prog 149 [Symbol.x m a0,dS a1] [] (.tu [At_.x .fz r.1,dB r.2]) []:=by
 refine OE Tryz.func149 fun S hS=>?_
 unfold q5Z at hr
 refine J g<|J (BX' 0)<|J (NV' 1)<|J (gn 8)<|J (lenA 1 0)<|fun hl1=>bdE hr fun q1 hqq1 hr=>q0b hqq1 hl1 2 (fun k1 _=>[(1,dS a1),(2,.pb 0 0),(4,.pb 1 0),(6,dI (k1:Int))]) (fun k1 _=>[]) I (fun k1 xk1 sk1 ok1 hxk1 hr hltk1 hik1=>?_) fun k1 sk1 ek1 hltk1=>?_
 refine J (gn 24)<|ifE hr ?_ ?_<;>intro h1 hr
 exact e
 exact e
 subst ek1
 exact e
theorem z5F {m:Md}{a0:Gm_}{a1:Rule}{a2:Int}{r:(List Oc)}(hr:z2z a0 a1 a2=some r):Ok Tryz.prog 153 [Gm_.y m a0,Rule.x m a1,dI a2] [] (.ref 0 none) [.row .fz 2 (r.map Oc.D)]:=by
 refine OE Tryz.func153 fun S hS=>?_
 unfold z2z at hr
 refine J g<|J (BX' 0)<|J (BX' 1)<|J g<|J (L0' 2 Oc.D)<|bdE hr fun s1 hqq1 hr=>J (gn 7)<|q0d 3 [(7,.ref 2 none)] [(2,.row .fz 2 (s1.map Oc.D))] ?_ ?_
 refine J g<|q0l hqq1 3 (fun (s2,s3)=>[(2,dI a2),(3,.pb 0 0),(4,.pb 1 0),(7,.ref 2 none),(8,dI s3)]) (fun (s2,s3)=>[(2,.row .fz 2 (s2.map Oc.D))]) I fun sk1 ok1 hr hik1=>?_
 obtain⟨s2,s3⟩:=sk1
 have hr:=hr
 refine J (gn 9)<|ifE hr ?_ ?_<;>intro h1 hr
 refine bdE hr fun y1 hy1 hr=>J g<|J (CB' [] [] (q7E (m:=m) hy1))<|bdP hr fun y2 y3 hq2 hr=>J (CB' [(0,3)] [] (q7F (m:=m) hq2))<|J g<|J (NV' 4)<|J (gn 8)<|J (lenR 3)<|fun hl2=>bdE hr fun s4 hqq3 hr=>q0f hqq3 hl2 5 (fun k2 s4=>[(2,dI a2),(3,.pb 0 0),(4,.pb 1 0),(7,.ref 2 none),(8,dI s3),(9,.pb 4 0),(11,dI (k2:Int))]) (fun k2 s4=>[(2,.row .fz 2 (s4.map Oc.D))]) I (fun k2 xk2 sk2 ok2 hxk2 hr hltk2=>?_) fun k2 hltk2=>?_
 obtain⟨s4,rfl⟩:∃ y,y=sk2:=⟨_,rfl⟩
 refine bdE hr fun s5 hqq4 hr=>J (gn 12)<|q0d 5 [(2,dI a2),(3,.pb 0 0),(4,.pb 1 0),(7,.ref 2 none),(8,dI s3),(9,.pb 4 0),(11,dI (k2:Int))] [(2,.row .fz 2 (s5.map Oc.D))] ?_ ?_
 replace hr:=hqq4
 refine J g<|J (NV' 5)<|bdE hr fun s6 hqq5 hr=>J (gn 6)<|q0a 5 [(2,dI a2),(3,.pb 0 0),(4,.pb 1 0),(7,.ref 2 none),(8,dI s3),(9,.pb 4 0),(11,dI (k2:Int)),(12,.pb 5 0),(48,dB s6)] ?_ ?_
 replace hr:=hqq5
 refine ifE hr ?_ ?_<;>intro h2 hr
 exact e
 exact e
 refine bdE hr fun s7 hqq6 hr=>q0a 9 [(2,dI a2),(3,.pb 0 0),(4,.pb 1 0),(7,.ref 2 none),(8,dI s3),(9,.pb 4 0),(11,dI (k2:Int)),(12,.pb 5 0),(57,dB s7)] ?_ ?_
 replace hr:=hqq6
 refine ifE hr ?_ ?_<;>intro h3 hr
 exact e
 refine bdP hr fun s8 s9 hqq7 hr=>J (gn 3)<|q0a 5 [(2,dI a2),(3,.pb 0 0),(4,.pb 1 0),(7,.ref 2 none),(8,dI s3),(9,.pb 4 0),(11,dI (k2:Int)),(12,.pb 5 0),(49,dB false),(50,dI s3),(51,dB (decide (0<s3))),(52,dB s8),(56,dB s9)] ?_ ?_
 replace hr:=hqq7
 refine ifE hr ?_ ?_<;>intro h4 hr
 exact e
 exact e
 exact e
 refine bdE hr fun s10 hqq8 hr=>J (gn 8)<|q0a 3 [(2,dI a2),(3,.pb 0 0),(4,.pb 1 0),(7,.ref 2 none),(8,dI s3),(9,.pb 4 0),(11,dI (k2:Int)),(12,.pb 5 0),(64,dB s10)] ?_ ?_
 replace hr:=hqq8
 refine ifE hr ?_ ?_<;>intro h5 hr
 exact e
 exact e
 refine J (gn 1)<|ifE hr ?_ ?_<;>intro h6 hr
 refine J g<|J (LIR' 6 (m:=.fz) (f:=Oc.D) (xs:=[(⟨s3,xk2.Name⟩:Oc)]))<|ggE hr fun g1 hr=>J (z3z (f:=Oc.D) 7 (fun _=>rfl) 24 g1)<|e
 exact e
 exact e
 refine ggE hr fun g2 hr=>e
 refine J (gn 2) ?_
 cases hr
 cases hik1 _ rfl
 exact GH.trans (q0B (q:=0) [.d m (.sl 2 (a0.Symbols.map Symbol.D)),.u] (.cons .rfl (.cons .u .nil)) rfl) (q0i hS 3)
 exact e
theorem z2k {a0:Int}{a1:Int}{r:Expr}(hr:q8B a0 a1=some r):Ok Tryz.prog 191 [dI a0,dI a1] [] (.ag [dI r.Kind,dI r.N,dI r.Pos,dI r.Type_,dS r.Symbol,dS r.Name,.ref 0 none]) [.row .fz 7 (r.Args.map Expr.D)]:=by
 refine OE Tryz.func191 fun S hS=>?_
 unfold q8B at hr
 refine J g<|J (NV' 0)<|J (gn 9) ?_
 refine J (q0c (q0r (q:=0) (c:=6) (r:=1) .fz 7 rfl rfl rfl))<|J g<|E
theorem z2l {m:Md}{a1:Int}{a2:(List Oc)}{o0:l1Cur}{r:(Expr×l1Cur)}(hr:q9P a1 a2 o0=some r):Ok Tryz.prog 152 [.pb 0 0,dI a1,.d m (.sl 2 (a2.map Oc.D))] [.box [.d .fz (.sl 1 (o0.b.map byD)),dI o0.i,dI o0.h]] (.ag [dI r.1.Kind,dI r.1.N,dI r.1.Pos,dI r.1.Type_,dS r.1.Symbol,dS r.1.Name,.ref 1 none]) [.box [.d .fz (.sl 1 (o0.b.map byD)),dI r.2.i,dI r.2.h],.row .fz 7 (r.1.Args.map Expr.D)]:=by
 refine OE Tryz.func152 fun S hS=>?_
 unfold q9P at hr
 refine J g<|J (NV' 1)<|J (gn 7)<|ifE hr ?_ ?_<;>intro h1 hr
 refine bdP hr fun y1 z1 hq1 hr=>J g<|J (CB' [(0,0)] [] (q8I hq1))<|J (gn 3)<|ifE hr ?_ ?_<;>intro h2 hr
 refine J (gn 13)<|ifE hr ?_ ?_<;>intro h3 hr
 refine bdP hr fun y2 z2 hq2 hr=>J g<|J (CB' [(0,0)] [] (q8I hq2))<|J (gn 1)<|ifE hr ?_ ?_<;>intro h4 hr
 refine J (gn 7) ?_
 refine J (q0c (q0r (q:=1) (c:=6) (r:=2) .fz 7 rfl rfl rfl))<|J g<|E
 refine J (gn 8) ?_
 refine J (q0c (q0r (q:=1) (c:=6) (r:=2) .fz 7 rfl rfl rfl))<|J g<|E
 refine J (gn 6)<|ifE hr ?_ ?_<;>intro h5 hr
 refine bdP hr fun y3 z3 hq3 hr=>J g<|J (CB' [(0,0)] [] (q4F hq3))<|bdE hr fun y4 hy4 hr=>J g<|J (CB' [(0,2)] [] (z2k hy4))<|e
 refine J (gn 6)<|ifE hr ?_ ?_<;>intro h6 hr
 refine bdP hr fun y5 z4 hq4 hr=>J g<|J (CB' [(0,0)] [] (q4F hq4))<|ggE hr fun g1 hr=>?_
 refine J (CIU' g1 rfl)<|ggE hr fun g2 hr=>J (OB' _ (k1Q g2))<|bdE hr fun y6 hy6 hr=>J g<|J (CB' [(0,2)] [] (z2k hy6))<|J g<|E
 refine bdP hr fun y7 z5 hq5 hr=>J g<|J (CB' [(0,0)] [] (q4F hq5))<|bdE hr fun y8 hy8 hr=>J (CB' [(0,2)] [] (z2k hy8))<|e
 refine bdP hr fun y9 z6 hq6 hr=>J g<|J (CB' [(0,0)] [] (q4F hq6))<|ggE hr fun g3 hr=>bdE hr fun x1 hx1 hr=>J g<|J (NV' 2)<|J (gn 12) ?_
 refine J (q0c (q0r (q:=1) (c:=6) (r:=3) .fz 7 rfl rfl rfl))<|J g<|E
 refine J (gn 19)<|ifE hr ?_ ?_<;>intro h7 hr
 refine bdP hr fun y10 z7 hq7 hr=>J g<|J (CB' [(0,0)] [] (q8I hq7))<|J (gn 1)<|ifE hr ?_ ?_<;>intro h8 hr
 refine J (gn 7) ?_
 refine J (q0c (q0r (q:=1) (c:=6) (r:=2) .fz 7 rfl rfl rfl))<|J g<|E
 refine J (gn 8) ?_
 refine J (q0c (q0r (q:=1) (c:=6) (r:=2) .fz 7 rfl rfl rfl))<|J g<|E
 refine J (gn 6)<|ifE hr ?_ ?_<;>intro h9 hr
 refine bdP hr fun y11 z8 hq8 hr=>J g<|J (CB' [(0,0)] [] (q4F hq8))<|bdE hr fun y12 hy12 hr=>J g<|J (CB' [(0,2)] [] (z2k hy12))<|e
 refine J (gn 6)<|ifE hr ?_ ?_<;>intro h10 hr
 refine bdP hr fun y13 z9 hq9 hr=>J g<|J (CB' [(0,0)] [] (q4F hq9))<|ggE hr fun g4 hr=>?_
 refine J (CIU' g4 rfl)<|ggE hr fun g5 hr=>J (OB' _ (k1Q g5))<|bdE hr fun y14 hy14 hr=>J g<|J (CB' [(0,2)] [] (z2k hy14))<|J g<|E
 refine bdP hr fun y15 z10 hq10 hr=>J g<|J (CB' [(0,0)] [] (q4F hq10))<|bdE hr fun y16 hy16 hr=>J (CB' [(0,2)] [] (z2k hy16))<|e
theorem q7l {a0:Int}{r:(Int×Int×Int)}(hr:q5h a0=some r):Ok Tryz.prog 186 [dI a0] [] (.tu [dI r.1,dI r.2.1,dI r.2.2]) []:=by
 refine OE Tryz.func186 fun S hS=>?_
 unfold q5h at hr
 refine bdE hr fun y1 hy1 hr=>J g<|J (CB' [] [] (q5R hy1))<|J (gn 2)<|ifE hr ?_ ?_<;>intro h1 hr
 exact e
 refine bdE hr fun y2 hy2 hr=>J g<|J (CB' [] [] (q5R hy2))<|J (gn 2)<|ifE hr ?_ ?_<;>intro h2 hr
 exact e
 refine J (gn 5)<|ifE hr ?_ ?_<;>intro h3 hr
 exact e
 refine J (gn 6)<|ifE hr ?_ ?_<;>intro h4 hr
 exact e
 refine J (gn 7)<|ifE hr ?_ ?_<;>intro h5 hr
 exact e
 refine J (gn 7)<|ifE hr ?_ ?_<;>intro h6 hr
 exact e
 exact e
theorem z7X {m:Md}{a0:Int}{a1:Expr}{a2:Expr}{r:Expr}(hr:z6f a0 a1 a2=some r):Ok Tryz.prog 187 [dI a0,Expr.x m a1,Expr.x m a2] [] (.ag [dI r.Kind,dI r.N,dI r.Pos,dI r.Type_,dS r.Symbol,dS r.Name,.ref 0 none]) [.row m 7 (r.Args.map Expr.D)]:=by
 refine OE Tryz.func187 fun S hS=>?_
 unfold z6f at hr
 refine J g<|J (BX' 0)<|J (BX' 1)<|J (NV' 2)<|J g ?_
 refine J (k6q 3 (m:=m) (f:=Expr.D) [a1,a2] (by simp only[List.map_cons,List.map_nil,Expr.D_eq];rfl))<|J g<|E
theorem j6H {Rc0:Gm_→Rule→Int→Int→Bool→l1Cur→Option (Expr×l1Cur)}(Ic0:∀ {m:Md} {a1:Gm_} {a2:Rule} {a3:Int} {a4:Int} {a5:Bool} {o0:l1Cur} {r:(Expr×l1Cur)},Rc0 a1 a2 a3 a4 a5 o0=some r→Ok Tryz.prog 150 [.pb 0 0,Gm_.y m a1,Rule.x m a2,dI a3,dI a4,dB a5] [.box [.d .fz (.sl 1 (o0.b.map byD)),dI o0.i,dI o0.h]] (.ag [dI r.1.Kind,dI r.1.N,dI r.1.Pos,dI r.1.Type_,dS r.1.Symbol,dS r.1.Name,.ref 1 none]) [.box [.d .fz (.sl 1 (o0.b.map byD)),dI r.2.i,dI r.2.h],.row .fz 7 (r.1.Args.map Expr.D)]){m:Md}{a1:Gm_}{a2:Rule}{a3:Int}{a4:Int}{a5:Bool}{o0:l1Cur}{r:(Expr×l1Cur)}(hr:q7G Rc0 a1 a2 a3 a4 a5 o0=some r):Ok Tryz.prog 150 [.pb 0 0,Gm_.y m a1,Rule.x m a2,dI a3,dI a4,dB a5] [.box [.d .fz (.sl 1 (o0.b.map byD)),dI o0.i,dI o0.h]] (.ag [dI r.1.Kind,dI r.1.N,dI r.1.Pos,dI r.1.Type_,dS r.1.Symbol,dS r.1.Name,.ref 1 none]) [.box [.d .fz (.sl 1 (o0.b.map byD)),dI r.2.i,dI r.2.h],.row .fz 7 (r.1.Args.map Expr.D)]:=by
 refine OE Tryz.func150 fun S hS=>?_
 unfold q7G at hr
 refine J g<|J (BX' 1)<|J (BX' 2)<|J (NV' 3)<|bdT hr fun s4 s5 s6 hqq1 hr=>J (gn 6)<|q0u 4 4 [(0,.pb 0 0),(3,dI a3),(4,dI a4),(5,dB a5),(7,.pb 1 0),(8,.pb 2 0),(12,.pb 3 0),(24,dB s4)] [(0,.box [.d .fz (.sl 1 (o0.b.map byD)),dI s5,dI s6])] ?_ ?_
 replace hr:=hqq1
 refine ifE hr ?_ ?_<;>intro h1 hr
 exact e
 refine bdP hr fun y1 z1 hq2 hr=>J g<|J (CB' [(0,0)] [] (q8I hq2))<|e
 refine J (gn 1)<|ifE hr ?_ ?_<;>intro h2 hr
 refine bdE hr fun s7 hqq3 hr=>J (gn 6)<|q0a 4 [(0,.pb 0 0),(3,dI a3),(7,.pb 1 0),(8,.pb 2 0),(12,.pb 3 0),(30,dB s7)] ?_ ?_
 replace hr:=hqq3
 refine ifE hr ?_ ?_<;>intro h3 hr
 exact e
 exact e
 refine bdT hr fun s11 s12 s13 hqq4 hr=>q0u 4 4 [(0,.pb 0 0),(3,dI a3),(7,.pb 1 0),(8,.pb 2 0),(12,.pb 3 0),(34,dB s11)] [(0,.box [.d .fz (.sl 1 (o0.b.map byD)),dI s12,dI s13])] ?_ ?_
 replace hr:=hqq4
 refine ifE hr ?_ ?_<;>intro h4 hr
 refine bdP hr fun y2 z2 hq5 hr=>J g<|J (CB' [(0,0)] [] (q8I hq5))<|e
 exact e
 refine J (gn 1)<|ifE hr ?_ ?_<;>intro h5 hr
 refine J (gn 7) ?_
 refine J (q0c (q0r (q:=3) (c:=6) (r:=4) .fz 7 rfl rfl rfl))<|J g<|E
 refine bdE hr fun y3 hy3 hr=>J g<|J (CB' [(0,4)] [] (z5F (m:=m) hy3))<|bdP hr fun y4 z3 hq6 hr=>J (CB' [(0,0),(1,5)] [4] (z2l (m:=.bo) hq6))<|e
 refine bdT hr fun s17 s18 s19 hqq7 hr=>J (gn 6)<|q0u 4 4 [(0,.pb 0 0),(3,dI a3),(4,dI a4),(5,dB a5),(7,.pb 1 0),(8,.pb 2 0),(12,.pb 3 0),(47,dB s17)] [(0,.box [.d .fz (.sl 1 (o0.b.map byD)),dI s18,dI s19])] ?_ ?_
 replace hr:=hqq7
 refine ifE hr ?_ ?_<;>intro h6 hr
 refine bdP hr fun y5 z4 hq8 hr=>J g<|J (CB' [(0,0)] [] (q8I hq8))<|e
 exact e
 refine J (gn 1)<|ifE hr ?_ ?_<;>intro h7 hr
 refine bdP hr fun y6 z5 hq9 hr=>J g<|J (CB' [(0,0)] [] (q4F hq9))<|ggE hr fun g1 hr=>bdE hr fun x1 hx1 hr=>J g<|J (NV' 4)<|bdP hr fun y7 z6 hq10 hr=>J g<|J (CB' [(0,0)] [] (q4F hq10))<|ggE hr fun g2 hr=>bdE hr fun x2 hx2 hr=>J g<|J (NV' 5)<|J (gn 9)<|ifE hr ?_ ?_<;>intro h8 hr
 refine bdE hr fun y8 hy8 hr=>J g<|J (CB' [(0,6)] [] (z5F (m:=m) hy8))<|bdP hr fun y9 z7 hq11 hr=>J (CBz' 7 [(0,0),(1,7)] [6] (z2l (m:=.bo) hq11)) ?_
 refine J (k2b 8 (m:=.fz) (f:=Expr.D) [y9] (by simp only[List.map_cons,List.map_nil,Expr.D_eq];rfl))<|J g<|E
 refine bdP hr fun y10 z8 hq12 hr=>J g<|J (CB' [(0,0)] [] (q8I hq12))<|J (gn 1)<|ifE hr ?_ ?_<;>intro h9 hr
 refine ggE hr fun g3 hr=>bdP hr fun y11 z9 hq13 hr=>J g<|J (CBz' 6 [(0,0),(1,6)] [] (Ic0 (m:=m) hq13))<|ggE hr fun g4 hr=>bdP hr fun y12 z10 hq14 hr=>J g<|J (CBz' 7 [(0,0),(1,7)] [] (Ic0 (m:=m) hq14))<|ggE hr fun g5 hr=>bdP hr fun y13 z11 hq15 hr=>J g<|J (CBz' 8 [(0,0),(1,8)] [] (Ic0 (m:=m) hq15)) ?_
 refine J (k2b 9 (m:=.fz) (f:=Expr.D) [y11,y12,y13] (by simp only[List.map_cons,List.map_nil,Expr.D_eq];rfl))<|J g<|E
 refine J (gn 17)<|ifE hr ?_ ?_<;>intro h10 hr
 refine bdE hr fun y14 hy14 hr=>J g<|J (CB' [(0,6)] [] (z5F (m:=m) hy14))<|bdP hr fun y15 z12 hq16 hr=>J (CB' [(0,0),(1,7)] [6] (z2l (m:=.bo) hq16))<|e
 refine J (gn 6)<|ifE hr ?_ ?_<;>intro h11 hr
 refine J g<|J (LIR' 6 (m:=.fz) (f:=(A.D.i .i64)) (xs:=([1,1,2,3,4,5]:List Int)))<|bdP hr fun y16 z13 hq17 hr=>J (CB' [(0,0)] [6] (q7x (m:=.bo) hq17))<|bdT hr fun y17 y18 y19 hq18 hr=>J g<|J (CB' [] [] (q7l hq18))<|ggE hr fun g6 hr=>bdP hr fun y20 z14 hq19 hr=>J g<|J (CBz' 7 [(0,0),(1,7)] [] (Ic0 (m:=m) hq19))<|ggE hr fun g7 hr=>bdP hr fun y21 z15 hq20 hr=>J g<|J (CBz' 8 [(0,0),(1,8)] [] (Ic0 (m:=m) hq20))<|bdE hr fun y22 hy22 hr=>J (CB' [(0,9)] [] (z7X (m:=.fz) hy22))<|e
 refine J (gn 6)<|ifE hr ?_ ?_<;>intro h12 hr
 refine J g<|J (LIR' 6 (m:=.fz) (f:=(A.D.i .i64)) (xs:=([6,6,7,8,12]:List Int)))<|bdP hr fun y23 z16 hq21 hr=>J (CB' [(0,0)] [6] (q7x (m:=.bo) hq21))<|bdT hr fun y24 y25 y26 hq22 hr=>J g<|J (CB' [] [] (q7l hq22))<|ggE hr fun g8 hr=>bdP hr fun y27 z17 hq23 hr=>J g<|J (CBz' 7 [(0,0),(1,7)] [] (Ic0 (m:=m) hq23))<|ggE hr fun g9 hr=>bdP hr fun y28 z18 hq24 hr=>J g<|J (CBz' 8 [(0,0),(1,8)] [] (Ic0 (m:=m) hq24))<|bdE hr fun y29 hy29 hr=>J (CB' [(0,9)] [] (z7X (m:=.fz) hy29))<|e
 refine J g<|J (LIR' 6 (m:=.fz) (f:=(A.D.i .i64)) (xs:=([9,10,11]:List Int)))<|bdP hr fun y30 z19 hq25 hr=>J (CB' [(0,0)] [6] (q7x (m:=.bo) hq25))<|bdT hr fun y31 y32 y33 hq26 hr=>J g<|J (CB' [] [] (q7l hq26))<|ggE hr fun g10 hr=>bdP hr fun y34 z20 hq27 hr=>J g<|J (CBz' 7 [(0,0),(1,7)] [] (Ic0 (m:=m) hq27))<|ggE hr fun g11 hr=>bdP hr fun y35 z21 hq28 hr=>J g<|J (CBz' 8 [(0,0),(1,8)] [] (Ic0 (m:=m) hq28))<|bdE hr fun y36 hy36 hr=>J (CB' [(0,9)] [] (z7X (m:=.fz) hy36))<|e
 refine bdP hr fun y37 z22 hq29 hr=>J g<|J (CB' [(0,0)] [] (q8I hq29))<|J (gn 1)<|ifE hr ?_ ?_<;>intro h13 hr
 refine ggE hr fun g12 hr=>bdP hr fun y38 z23 hq30 hr=>J g<|J (CBz' 4 [(0,0),(1,4)] [] (Ic0 (m:=m) hq30))<|ggE hr fun g13 hr=>bdP hr fun y39 z24 hq31 hr=>J g<|J (CBz' 5 [(0,0),(1,5)] [] (Ic0 (m:=m) hq31))<|ggE hr fun g14 hr=>bdP hr fun y40 z25 hq32 hr=>J g<|J (CBz' 6 [(0,0),(1,6)] [] (Ic0 (m:=m) hq32)) ?_
 refine J (k2b 7 (m:=.fz) (f:=Expr.D) [y38,y39,y40] (by simp only[List.map_cons,List.map_nil,Expr.D_eq];rfl))<|J g<|E
 refine J (gn 17)<|ifE hr ?_ ?_<;>intro h14 hr
 refine bdE hr fun y41 hy41 hr=>J g<|J (CB' [(0,4)] [] (z5F (m:=m) hy41))<|bdP hr fun y42 z26 hq33 hr=>J (CB' [(0,0),(1,5)] [4] (z2l (m:=.bo) hq33))<|e
 refine J (gn 6)<|ifE hr ?_ ?_<;>intro h15 hr
 refine J g<|J (LIR' 4 (m:=.fz) (f:=(A.D.i .i64)) (xs:=([1,1,2,3,4,5]:List Int)))<|bdP hr fun y43 z27 hq34 hr=>J (CB' [(0,0)] [4] (q7x (m:=.bo) hq34))<|bdT hr fun y44 y45 y46 hq35 hr=>J g<|J (CB' [] [] (q7l hq35))<|ggE hr fun g15 hr=>bdP hr fun y47 z28 hq36 hr=>J g<|J (CBz' 5 [(0,0),(1,5)] [] (Ic0 (m:=m) hq36))<|ggE hr fun g16 hr=>bdP hr fun y48 z29 hq37 hr=>J g<|J (CBz' 6 [(0,0),(1,6)] [] (Ic0 (m:=m) hq37))<|bdE hr fun y49 hy49 hr=>J (CB' [(0,7)] [] (z7X (m:=.fz) hy49))<|e
 refine J (gn 6)<|ifE hr ?_ ?_<;>intro h16 hr
 refine J g<|J (LIR' 4 (m:=.fz) (f:=(A.D.i .i64)) (xs:=([6,6,7,8,12]:List Int)))<|bdP hr fun y50 z30 hq38 hr=>J (CB' [(0,0)] [4] (q7x (m:=.bo) hq38))<|bdT hr fun y51 y52 y53 hq39 hr=>J g<|J (CB' [] [] (q7l hq39))<|ggE hr fun g17 hr=>bdP hr fun y54 z31 hq40 hr=>J g<|J (CBz' 5 [(0,0),(1,5)] [] (Ic0 (m:=m) hq40))<|ggE hr fun g18 hr=>bdP hr fun y55 z32 hq41 hr=>J g<|J (CBz' 6 [(0,0),(1,6)] [] (Ic0 (m:=m) hq41))<|bdE hr fun y56 hy56 hr=>J (CB' [(0,7)] [] (z7X (m:=.fz) hy56))<|e
 refine J g<|J (LIR' 4 (m:=.fz) (f:=(A.D.i .i64)) (xs:=([9,10,11]:List Int)))<|bdP hr fun y57 z33 hq42 hr=>J (CB' [(0,0)] [4] (q7x (m:=.bo) hq42))<|bdT hr fun y58 y59 y60 hq43 hr=>J g<|J (CB' [] [] (q7l hq43))<|ggE hr fun g19 hr=>bdP hr fun y61 z34 hq44 hr=>J g<|J (CBz' 5 [(0,0),(1,5)] [] (Ic0 (m:=m) hq44))<|ggE hr fun g20 hr=>bdP hr fun y62 z35 hq45 hr=>J g<|J (CBz' 6 [(0,0),(1,6)] [] (Ic0 (m:=m) hq45))<|bdE hr fun y63 hy63 hr=>J (CB' [(0,7)] [] (z7X (m:=.fz) hy63))<|e
theorem j6I (n:Nat):∀ {m:Md} {a1:Gm_} {a2:Rule} {a3:Int} {a4:Int} {a5:Bool} {o0:l1Cur} {r:(Expr×l1Cur)},q6K n a1 a2 a3 a4 a5 o0=some r→Ok Tryz.prog 150 [.pb 0 0,Gm_.y m a1,Rule.x m a2,dI a3,dI a4,dB a5] [.box [.d .fz (.sl 1 (o0.b.map byD)),dI o0.i,dI o0.h]] (.ag [dI r.1.Kind,dI r.1.N,dI r.1.Pos,dI r.1.Type_,dS r.1.Symbol,dS r.1.Name,.ref 1 none]) [.box [.d .fz (.sl 1 (o0.b.map byD)),dI r.2.i,dI r.2.h],.row .fz 7 (r.1.Args.map Expr.D)]:=by
  induction n with
  | zero=>intro _ _ _ _ _ _ _ r hr;exact nomatch (show (none:Option (Expr×l1Cur))=some r from hr)
  | succ n ih=>intro _ _ _ _ _ _ _ r hr;exact j6H ih hr
theorem j7X {m:Md}{a1:Gm_}{a2:Rule}{a3:Int}{a4:Int}{a5:Bool}{o0:l1Cur}{r:(Expr×l1Cur)}(hr:z9Q a1 a2 a3 a4 a5 o0=some r):Ok Tryz.prog 150 [.pb 0 0,Gm_.y m a1,Rule.x m a2,dI a3,dI a4,dB a5] [.box [.d .fz (.sl 1 (o0.b.map byD)),dI o0.i,dI o0.h]] (.ag [dI r.1.Kind,dI r.1.N,dI r.1.Pos,dI r.1.Type_,dS r.1.Symbol,dS r.1.Name,.ref 1 none]) [.box [.d .fz (.sl 1 (o0.b.map byD)),dI r.2.i,dI r.2.h],.row .fz 7 (r.1.Args.map Expr.D)]:=by
 obtain⟨n,hn⟩:=q6U hr
 exact j6I n hn
theorem j7Y {Rc1:Expr→Int→Option Int}(Ic1:∀ {m:Md} {a0:Expr} {a1:Int} {r:Int},Rc1 a0 a1=some r→Ok Tryz.prog 188 [Expr.x m a0,dI a1] [] (dI r) []){m:Md}{a0:Expr}{a1:Int}{r:Int}(hr:z6Y Rc1 a0 a1=some r):Ok Tryz.prog 188 [Expr.x m a0,dI a1] [] (dI r) []:=by
 refine OE Tryz.func188 fun S hS=>?_
 unfold z6Y at hr
 refine J g<|J (BX' 0)<|ggE hr fun g1 hr=>bdE hr fun s1 hqq1 hr=>J (gn 13)<|q0d 1 [(1,dI s1)] [] ?_ ?_
 refine J g<|q0l hqq1 1 (fun (s2,s3)=>[(1,dI s2),(2,.pb 0 0),(5,dI s3)]) (fun (s2,s3)=>[]) I fun sk1 ok1 hr hik1=>?_
 obtain⟨s2,s3⟩:=sk1
 have hr:=hr
 refine J (gn 8)<|ifE hr ?_ ?_<;>intro h1 hr
 refine J (gn 5)<|ifE hr ?_ ?_<;>intro h2 hr
 refine ggE hr fun g2 hr=>bdE hr fun x1 hx1 hr=>bdE hr fun y1 hy1 hr=>J g<|J (CB' [] [] (Ic1 (m:=m) hy1))<|ggE hr fun g3 hr=>e
 refine J (gn 2) ?_
 cases hr
 cases hik1 _ rfl
 exact q0i hS 1
 refine J (gn 7) ?_
 cases hr
 cases hik1 _ rfl
 exact q0i hS 1
 exact e
theorem j7Z (n:Nat):∀ {m:Md} {a0:Expr} {a1:Int} {r:Int},z3Z n a0 a1=some r→Ok Tryz.prog 188 [Expr.x m a0,dI a1] [] (dI r) []:=by
  induction n with
  | zero=>intro _ _ _ r hr;exact nomatch (show (none:Option Int)=some r from hr)
  | succ n ih=>intro _ _ _ r hr;exact j7Y ih hr
theorem k0D {m:Md}{a0:Expr}{a1:Int}{r:Int}(hr:j1Z a0 a1=some r):Ok Tryz.prog 188 [Expr.x m a0,dI a1] [] (dI r) []:=by
 obtain⟨n,hn⟩:=q6U hr
 exact j7Z n hn
theorem z9l {a0:Int}{a1:Int}{r:Int}(hr:z2A a0 a1=some r):Ok Tryz.prog 140 [dI a0,dI a1] [] (dI r) []:=by
 refine OE Tryz.func140 fun S hS=>?_
 unfold z2A at hr
 refine J (gn 11)<|ifE hr ?_ ?_<;>intro h1 hr
 exact e
 exact e
theorem j0V {Rc2:Expr→Option Int}(Ic2:∀ {m:Md} {a0:Expr} {r:Int},Rc2 a0=some r→Ok Tryz.prog 189 [Expr.x m a0] [] (dI r) []){m:Md}{a0:Expr}{r:Int}(hr:z0v Rc2 a0=some r):Ok Tryz.prog 189 [Expr.x m a0] [] (dI r) []:=by
 refine OE Tryz.func189 fun S hS=>?_
 unfold z0v at hr
 refine J g<|J (BX' 0)<|J (gn 12)<|J (lenA 6 0)<|fun hl1=>bdE hr fun s1 hqq1 hr=>q0f hqq1 hl1 1 (fun k1 s1=>[(1,.pb 0 0),(3,dI s1),(4,dI (k1:Int))]) (fun k1 s1=>[]) I (fun k1 xk1 sk1 ok1 hxk1 hr hltk1=>?_) fun k1 hltk1=>?_
 obtain⟨s1,rfl⟩:∃ y,y=sk1:=⟨_,rfl⟩
 refine bdE hr fun y1 hy1 hr=>J g<|J (CB' [] [] (Ic2 (m:=m) hy1))<|bdE hr fun y2 hy2 hr=>J (CB' [] [] (z9l hy2))<|e
 refine ggE hr fun g1 hr=>e
theorem j0W (n:Nat):∀ {m:Md} {a0:Expr} {r:Int},q7C n a0=some r→Ok Tryz.prog 189 [Expr.x m a0] [] (dI r) []:=by
  induction n with
  | zero=>intro _ _ r hr;exact nomatch (show (none:Option Int)=some r from hr)
  | succ n ih=>intro _ _ r hr;exact j0V ih hr
theorem j2n {m:Md}{a0:Expr}{r:Int}(hr:z5c a0=some r):Ok Tryz.prog 189 [Expr.x m a0] [] (dI r) []:=by
 obtain⟨n,hn⟩:=q6U hr
 exact j0W n hn
theorem k0E {m:Md}{a0:Expr}{r:Bool}(hr:z6Z a0=some r):Ok Tryz.prog 255 [Expr.x m a0] [] (dB r) []:=by
 refine OE Tryz.func255 fun S hS=>?_
 unfold z6Z at hr
 refine J g<|J (BX' 0)<|bdE hr fun s1 hqq1 hr=>J (gn 12)<|q0d 1 [(1,.pb 0 0),(3,dI s1)] [] ?_ ?_
 replace hr:=hqq1
 refine J (gn 6)<|ifE hr ?_ ?_<;>intro h1 hr
 exact e
 refine J (gn 6)<|ifE hr ?_ ?_<;>intro h2 hr
 exact e
 refine J (gn 6)<|ifE hr ?_ ?_<;>intro h3 hr
 exact e
 exact e
 refine J (gn 9)<|ifE hr ?_ ?_<;>intro h4 hr
 refine bdE hr fun s2 hqq2 hr=>J (gn 7)<|q0a 5 [(1,.pb 0 0),(27,dB s2)] ?_ ?_
 replace hr:=hqq2
 refine ifE hr ?_ ?_<;>intro h5 hr
 exact e
 exact e
 refine bdE hr fun s3 hqq3 hr=>J (gn 7)<|q0a 5 [(1,.pb 0 0),(4,dB s2),(35,dB s3)] ?_ ?_
 replace hr:=hqq3
 refine ifE hr ?_ ?_<;>intro h6 hr
 exact e
 exact e
 refine bdE hr fun s4 hqq4 hr=>J (gn 7)<|q0a 5 [(1,.pb 0 0),(4,dB s2),(5,dB s3),(43,dB s4)] ?_ ?_
 replace hr:=hqq4
 refine ifE hr ?_ ?_<;>intro h7 hr
 exact e
 exact e
 refine bdE hr fun s5 hqq5 hr=>J (gn 5)<|q0a 5 [(1,.pb 0 0),(5,dB s3),(6,dB s4),(49,dB s5)] ?_ ?_
 replace hr:=hqq5
 refine ifE hr ?_ ?_<;>intro h8 hr
 exact e
 exact e
 refine bdE hr fun s6 hqq6 hr=>q0a 8 [(1,.pb 0 0),(6,dB s4),(57,dB s6)] ?_ ?_
 replace hr:=hqq6
 refine ifE hr ?_ ?_<;>intro h9 hr
 refine bdE hr fun s7 hqq7 hr=>J (gn 2)<|q0a 5 [(1,.pb 0 0),(6,dB s4),(50,dB true),(56,dB s7)] ?_ ?_
 replace hr:=hqq7
 refine ifE hr ?_ ?_<;>intro h10 hr
 exact e
 exact e
 exact e
 exact e
 refine bdE hr fun s8 hqq8 hr=>q0a 8 [(1,.pb 0 0),(65,dB s8)] ?_ ?_
 replace hr:=hqq8
 refine ifE hr ?_ ?_<;>intro h11 hr
 refine bdE hr fun s9 hqq9 hr=>J (gn 2)<|q0a 5 [(1,.pb 0 0),(58,dB true),(64,dB s9)] ?_ ?_
 replace hr:=hqq9
 refine ifE hr ?_ ?_<;>intro h12 hr
 exact e
 exact e
 exact e
 exact e
 refine bdE hr fun s10 hqq10 hr=>q0a 10 [(1,.pb 0 0),(75,dB s10)] ?_ ?_
 replace hr:=hqq10
 refine ifE hr ?_ ?_<;>intro h13 hr
 refine bdE hr fun s11 hqq11 hr=>J (gn 4)<|q0a 5 [(1,.pb 0 0),(66,dB true),(74,dB s11)] ?_ ?_
 replace hr:=hqq11
 refine ifE hr ?_ ?_<;>intro h14 hr
 exact e
 exact e
 exact e
 exact e
 refine bdE hr fun s12 hqq12 hr=>q0a 10 [(85,dB s12)] ?_ ?_
 replace hr:=hqq12
 refine ifE hr ?_ ?_<;>intro h15 hr
 refine bdE hr fun s13 hqq13 hr=>J (gn 4)<|q0a 5 [(76,dB true),(84,dB s13)] ?_ ?_
 replace hr:=hqq13
 refine ifE hr ?_ ?_<;>intro h16 hr
 exact e
 exact e
 exact e
 exact e
 exact e
 exact e
theorem k2c {a0:Int}{a1:Int}{r:Int}(hr:z8V a0 a1=some r):Ok Tryz.prog 289 [dI a0,dI a1] [] (dI r) []:=by
 refine OE Tryz.func289 fun S hS=>?_
 unfold z8V at hr
 refine J (gn 11)<|ifE hr ?_ ?_<;>intro h1 hr
 exact e
 exact e
theorem j6J {a0:Int}{r:Int}(hr:z4c a0=some r):Ok Tryz.prog 283 [dI a0] [] (dI r) []:=by
 refine OE Tryz.func283 fun S hS=>?_
 unfold z4c at hr
 refine bdE hr fun y1 hy1 hr=>J g<|J (CB' [] [] (k2c hy1))<|bdE hr fun y2 hy2 hr=>J (CB' [] [] (z9l hy2))<|e
theorem j8a {a0:Bool}{r:Int}(hr:z5p a0=some r):Ok Tryz.prog 284 [dB a0] [] (dI r) []:=by
 refine OE Tryz.func284 fun S hS=>?_
 unfold z5p at hr
 refine J (gn 9)<|ifE hr ?_ ?_<;>intro h1 hr
 exact e
 exact e
theorem k0F {a0:Int}{a1:Int}{r:Int}(hr:z7a a0 a1=some r):Ok Tryz.prog 272 [dI a0,dI a1] [] (dI r) []:=by
 refine OE Tryz.func272 fun S hS=>?_
 unfold z7a at hr
 refine J (gn 15)<|ifE hr ?_ ?_<;>intro h1 hr
 refine bdE hr fun y1 hy1 hr=>J g<|J (CB' [] [] (j6J hy1))<|e
 refine J (gn 6)<|ifE hr ?_ ?_<;>intro h2 hr
 refine J g<|J (OB' _ k1P)<|e
 refine J (gn 6)<|ifE hr ?_ ?_<;>intro h3 hr
 refine bdE hr fun y2 hy2 hr=>J g<|J (CB' [] [] (j8a hy2))<|e
 refine J (gn 6)<|ifE hr ?_ ?_<;>intro h4 hr
 refine bdE hr fun y3 hy3 hr=>J g<|J (CB' [] [] (q5R hy3))<|J (gn 1)<|ifE hr ?_ ?_<;>intro h5 hr
 exact e
 exact e
 exact e
theorem j6K {a0:Int}{a1:Int}{r:Bool}(hr:z4d a0 a1=some r):Ok Tryz.prog 256 [dI a0,dI a1] [] (dB r) []:=by
 refine OE Tryz.func256 fun S hS=>?_
 unfold z4d at hr
 refine bdE hr fun y1 hy1 hr=>J g<|J (CB' [] [] (q5R hy1))<|ifE hr ?_ ?_<;>intro h1 hr
 refine bdE hr fun y2 hy2 hr=>J g<|J (CB' [] [] (k0F hy2))<|e
 exact e
theorem j8b {a0:ByteArray}{r:Bool}(hr:z7T a0=some r):Ok Tryz.prog 273 [dS a0] [] (dB r) []:=by
 refine OE Tryz.func273 fun S hS=>?_
 unfold z7T at hr
 refine J (gn 10) ?_
 refine q2Z (.tmp 0 rfl) fun ht1=>?_
 have hl1:rngI .i64 (a0.size:Int):=k3P ht1
 refine bdE hr fun q1 hqq1 hr=>q0w hqq1 0 (fun k1 _=>[(0,dS a0),(3,dI (k1:Int))]) (fun k1 _=>[]) I (fun k1 sk1 ok1 hr hltk1 hik1=>?_) fun sk1 ek1=>?_
 refine J g<|J LS'<|bdE hr fun x1 hx1 hr=>J g ?_
 refine J (SI' rfl rfl (Int.natCast_nonneg _) hx1)<|bdE hr fun s1 hqq2 hr=>J (gn 1)<|q0a 6 [(0,dS a0),(3,dI (k1:Int)),(21,dB s1)] ?_ ?_
 replace hr:=hqq2
 refine ifE hr ?_ ?_<;>intro h1 hr
 refine J g ?_
 refine J (SI' rfl rfl (Int.natCast_nonneg _) hx1)<|J g<|E
 exact e
 refine J g ?_
 refine J (SI' rfl rfl (Int.natCast_nonneg _) hx1)<|bdE hr fun s2 hqq3 hr=>J (gn 1)<|q0a 6 [(0,dS a0),(3,dI (k1:Int)),(4,dB s1),(31,dB s2)] ?_ ?_
 replace hr:=hqq3
 refine ifE hr ?_ ?_<;>intro h2 hr
 refine J g ?_
 refine J (SI' rfl rfl (Int.natCast_nonneg _) hx1)<|J g<|E
 exact e
 refine bdE hr fun s3 hqq4 hr=>J (gn 6)<|q0a 8 [(0,dS a0),(3,dI (k1:Int)),(41,dB s3)] ?_ ?_
 replace hr:=hqq4
 refine ifE hr ?_ ?_<;>intro h3 hr
 exact e
 refine bdP hr fun s4 s5 hqq5 hr=>J (gn 3)<|q0a 4 [(0,dS a0),(3,dI (k1:Int)),(34,dB true),(35,dI (k1:Int)),(36,dB (decide ((k1:Int)=0))),(37,dB s4),(40,dB s5)] ?_ ?_
 replace hr:=hqq5
 refine ifE hr ?_ ?_<;>intro h4 hr
 exact e
 exact e
 exact e
 refine J (gn 1)<|ifE hr ?_ ?_<;>intro h5 hr
 exact e
 exact e
 subst ek1
 refine J g<|J LS'<|J g<|J LS'<|e
theorem j3z {r:(List ByteArray)}(hr:z3B=some r):Ok Tryz.prog 285 [] [] (.ref 0 none) [.row .fz 1 (r.map A.D.s)]:=by
 refine OE Tryz.func285 fun S hS=>?_
 unfold z3B at hr
 refine J g<|J (LIR' 0 (m:=.fz) (f:=A.D.s) (xs:=[(⟨#[105,102]⟩:ByteArray),(⟨#[116,104,101,110]⟩:ByteArray),(⟨#[101,108,115,101]⟩:ByteArray),(⟨#[116,114,117,101]⟩:ByteArray),(⟨#[102,97,108,115,101]⟩:ByteArray),(⟨#[108,105,116]⟩:ByteArray),(⟨#[110,111,110,101]⟩:ByteArray),(⟨#[115,101,108,102]⟩:ByteArray),(⟨#[111,102]⟩:ByteArray),(⟨#[109,97,120]⟩:ByteArray),(⟨#[109,105,110]⟩:ByteArray),(⟨#[119,105,116,104]⟩:ByteArray),(⟨#[104,97,115]⟩:ByteArray)]))<|e
theorem z9m {m:Md}{a0:(List ByteArray)}{a1:ByteArray}{r:Bool}(hr:z2B a0 a1=some r):Ok Tryz.prog 232 [.d m (.sl 1 (a0.map A.D.s)),dS a1] [] (dB r) []:=by
 refine OE Tryz.func232 fun S hS=>?_
 unfold z2B at hr
 refine J (gn 10)<|J (lenT 0)<|fun hl1=>bdE hr fun q1 hqq1 hr=>q0b hqq1 hl1 0 (fun k1 _=>[(0,.d m (.sl 1 (a0.map A.D.s))),(1,dS a1),(5,dI (k1:Int))]) (fun k1 _=>[]) I (fun k1 xk1 sk1 ok1 hxk1 hr hltk1 hik1=>?_) fun k1 sk1 ek1 hltk1=>?_
 refine J (gn 21)<|ifE hr ?_ ?_<;>intro h1 hr
 exact e
 exact e
 subst ek1
 exact e
theorem j3A {a0:ByteArray}{r:Bool}(hr:z1l a0=some r):Ok Tryz.prog 274 [dS a0] [] (dB r) []:=by
 refine OE Tryz.func274 fun S hS=>?_
 unfold z1l at hr
 refine bdE hr fun y1 hy1 hr=>J g<|J (CB' [(0,0)] [] (j3z hy1))<|bdE hr fun y2 hy2 hr=>J g<|J (CB' [] [0] (z9m (m:=.bo) hy2))<|e
theorem q5J {a0:ByteArray}{r:Bool}(hr:q4Z a0=some r):Ok Tryz.prog 257 [dS a0] [] (dB r) []:=by
 refine OE Tryz.func257 fun S hS=>?_
 unfold q4Z at hr
 refine bdE hr fun y1 hy1 hr=>J g<|J (CB' [] [] (j8b hy1))<|bdE hr fun s1 hqq1 hr=>q0a 5 [(0,dS a0),(2,dB false),(9,dB s1)] ?_ ?_
 replace hr:=hqq1
 refine ifE hr ?_ ?_<;>intro h1 hr
 refine J g<|J LS'<|e
 exact e
 refine bdE hr fun s2 hqq2 hr=>q0a 5 [(2,dB false),(14,dB s2)] ?_ ?_
 replace hr:=hqq2
 refine ifE hr ?_ ?_<;>intro h2 hr
 refine bdE hr fun y2 hy2 hr=>J g<|J (CB' [] [] (j3A hy2))<|e
 exact e
 exact e
theorem k0G {m:Md}{a0:Expr}{r:Bool}(hr:z7b a0=some r):Ok Tryz.prog 218 [Expr.x m a0] [] (dB r) []:=by
 refine OE Tryz.func218 fun S hS=>?_
 unfold z7b at hr
 refine J g<|J (BX' 0)<|bdE hr fun y1 hy1 hr=>J g<|J (CB' [] [] (q5R hy1))<|bdE hr fun s1 hqq1 hr=>J (gn 1)<|q0a 5 [(1,.pb 0 0),(11,dB s1)] ?_ ?_
 replace hr:=hqq1
 refine ifE hr ?_ ?_<;>intro h1 hr
 refine bdE hr fun y2 hy2 hr=>J g<|J (CB' [] [] (k0E (m:=m) hy2))<|e
 exact e
 refine J (gn 1)<|ifE hr ?_ ?_<;>intro h2 hr
 exact e
 refine J (gn 14)<|ifE hr ?_ ?_<;>intro h3 hr
 refine bdE hr fun y3 hy3 hr=>J g<|J (CB' [] [] (q5R hy3))<|bdE hr fun s2 hqq2 hr=>q0a 7 [(1,.pb 0 0),(25,dB s2)] ?_ ?_
 replace hr:=hqq2
 refine ifE hr ?_ ?_<;>intro h4 hr
 refine bdE hr fun y4 hy4 hr=>J g<|J (CB' [] [] (j6K hy4))<|e
 exact e
 refine bdE hr fun s3 hqq3 hr=>q0a 5 [(30,dB s3)] ?_ ?_
 replace hr:=hqq3
 refine ifE hr ?_ ?_<;>intro h5 hr
 exact e
 exact e
 exact e
 refine J (gn 6)<|ifE hr ?_ ?_<;>intro h6 hr
 refine bdE hr fun y5 hy5 hr=>J g<|J (CB' [] [] (q5R hy5))<|bdE hr fun s4 hqq4 hr=>q0a 5 [(40,dB s4)] ?_ ?_
 replace hr:=hqq4
 refine ifE hr ?_ ?_<;>intro h7 hr
 refine bdE hr fun y6 hy6 hr=>J g<|J (CB' [] [] (q5J hy6))<|e
 exact e
 exact e
 refine J (gn 6)<|ifE hr ?_ ?_<;>intro h8 hr
 refine bdE hr fun y7 hy7 hr=>J g<|J (CB' [] [] (q5R hy7))<|e
 refine J (gn 6)<|ifE hr ?_ ?_<;>intro h9 hr
 refine bdE hr fun y8 hy8 hr=>J g<|J (CB' [] [] (q5R hy8))<|e
 refine J (gn 6)<|ifE hr ?_ ?_<;>intro h10 hr
 refine bdE hr fun y9 hy9 hr=>J g<|J (CB' [] [] (q5J hy9))<|bdE hr fun s5 hqq5 hr=>q0a 5 [(60,dB s5)] ?_ ?_
 replace hr:=hqq5
 refine ifE hr ?_ ?_<;>intro h11 hr
 refine bdE hr fun y10 hy10 hr=>J g<|J (CB' [] [] (q5J hy10))<|e
 exact e
 exact e
 exact e
theorem k0H {Rc3:Expr→Option Bool}(Ic3:∀ {m:Md} {a0:Expr} {r:Bool},Rc3 a0=some r→Ok Tryz.prog 190 [Expr.x m a0] [] (dB r) []){m:Md}{a0:Expr}{r:Bool}(hr:z8X Rc3 a0=some r):Ok Tryz.prog 190 [Expr.x m a0] [] (dB r) []:=by
 refine OE Tryz.func190 fun S hS=>?_
 unfold z8X at hr
 refine J g<|J (BX' 0)<|J (gn 8)<|J (lenA 6 0)<|fun hl1=>bdE hr fun q1 hqq1 hr=>q0b hqq1 hl1 1 (fun k1 _=>[(1,.pb 0 0),(3,dI (k1:Int))]) (fun k1 _=>[]) I (fun k1 xk1 sk1 ok1 hxk1 hr hltk1 hik1=>?_) fun k1 sk1 ek1 hltk1=>?_
 refine bdE hr fun y1 hy1 hr=>J g<|J (CB' [] [] (Ic3 (m:=m) hy1))<|J (gn 2)<|ifE hr ?_ ?_<;>intro h1 hr
 exact e
 exact e
 subst ek1
 refine bdE hr fun y2 hy2 hr=>J g<|J (CB' [] [] (k0G (m:=m) hy2))<|e
theorem k0I (n:Nat):∀ {m:Md} {a0:Expr} {r:Bool},z8Y n a0=some r→Ok Tryz.prog 190 [Expr.x m a0] [] (dB r) []:=by
  induction n with
  | zero=>intro _ _ r hr;exact nomatch (show (none:Option Bool)=some r from hr)
  | succ n ih=>intro _ _ r hr;exact k0H ih hr
theorem k2d {m:Md}{a0:Expr}{r:Bool}(hr:j5a a0=some r):Ok Tryz.prog 190 [Expr.x m a0] [] (dB r) []:=by
 obtain⟨n,hn⟩:=q6U hr
 exact k0I n hn
theorem z7u {m:Md}{a0:Expr}{r:Bool}(hr:q9v a0=some r):Ok Tryz.prog 151 [Expr.x m a0] [] (dB r) []:=by
 refine OE Tryz.func151 fun S hS=>?_
 unfold q9v at hr
 refine J g<|J (BX' 0)<|bdE hr fun y1 hy1 hr=>J g<|J (CB' [] [] (k0D (m:=m) hy1))<|bdE hr fun s1 hqq1 hr=>J (gn 1)<|q0a 5 [(1,.pb 0 0),(2,dB false),(10,dB s1)] ?_ ?_
 replace hr:=hqq1
 refine ifE hr ?_ ?_<;>intro h1 hr
 refine bdE hr fun y2 hy2 hr=>J g<|J (CB' [] [] (j2n (m:=m) hy2))<|e
 exact e
 refine bdE hr fun s2 hqq2 hr=>q0a 4 [(2,dB false),(14,dB s2)] ?_ ?_
 replace hr:=hqq2
 refine ifE hr ?_ ?_<;>intro h2 hr
 refine bdE hr fun y3 hy3 hr=>J g<|J (CB' [] [] (k2d (m:=m) hy3))<|e
 exact e
 exact e
theorem j8c {m:Md}{m2:Md}{a1:Gm_}{a2:Rule}{a3:Bool}{o0:l1Cur}{r:(Rule×l1Cur)}(hr:z5q a1 a2 a3 o0=some r):Ok Tryz.prog 97 [.pb 0 0,Gm_.y m a1,.ag [dS a2.Name,dS a2.Left,.ref 1 none,dB a2.Literal,.ref 2 none,.ref 3 none],dB a3] [.box [.d .fz (.sl 1 (o0.b.map byD)),dI o0.i,dI o0.h],.row .fz 1 (a2.Right.map A.D.s),.row m2 9 (a2.Equations.map Eqn.D),.row m2 16 (a2.Contributions.map Cn.D)] (.ag [dS r.1.Name,dS r.1.Left,.ref 1 none,dB r.1.Literal,.ref 4 none,.ref 3 none]) [.box [.d .fz (.sl 1 (o0.b.map byD)),dI r.2.i,dI r.2.h],.row .fz 1 (r.1.Right.map A.D.s),.dead,.row m2 16 (r.1.Contributions.map Cn.D),.row m2 9 (r.1.Equations.map Eqn.D)]:=by
 refine Ok.enter rfl Tryz.func97 rfl rfl rfl fun S hS=>?_
 unfold z5q at hr
 refine sr ?_
 refine BX 4 ?_
 refine BX 5 ?_
 refine NV 6 ?_
 refine N0 ?_
 refine sr ?_
 refine W2 ?_
 refine bdE hr fun y1 hy1 hr=>?_
 refine CB [(0,7)] [1,2,3] (q5S (m:=.bo) hy1) ?_
 refine N1 ?_
 refine ssr ?_
 refine N1 ?_
 refine AW.block ?_
 refine AW.mv 2 8 rfl ?_
 refine q1z 7 rfl fun hl1=>?_
 refine bdE hr fun q1 hqq1 hr=>?_
 obtain⟨s2,s3,s1⟩:=q1
 refine q0f hqq1 hl1 9 (fun k1 (s2,s3,s1)=>[(0,.pb 0 0),(3,dB a3),(5,.pb 4 0),(6,.pb 5 0),(8,.pb 6 0),(9,.ref 7 none),(10,dI (k1:Int))]) (fun k1 (s2,s3,s1)=>[(0,.box [.d .fz (.sl 1 (o0.b.map byD)),dI s2,dI s3]),(8,.row m2 9 (s1.map Eqn.D))]) (GH.trans (q0B (q:=4) [.d m (.sl 2 (a1.Symbols.map Symbol.D)),.u] (.cons .rfl (.cons .u .nil)) rfl) (q0i hS 9)) (fun k1 xk1 sk1 ok1 hxk1 hr hltk1=>?_) fun k1 hltk1=>?_
 obtain⟨s2,s3,s1⟩:=sk1
 refine ssr ?_
 refine W2 ?_
 refine LE ?_
 refine N1 ?_
 refine q0o rfl (dT hltk1) ?_
 refine q0k ?_
 refine bdE hr fun q2 hqq2 hr=>?_
 obtain⟨s5,s6,s4⟩:=q2
 refine q0m (q0d 10 [(0,.pb 0 0),(3,dB a3),(5,.pb 4 0),(6,.pb 5 0),(8,.pb 6 0),(9,.ref 7 none),(10,dI (k1:Int))] [(0,.box [.d .fz (.sl 1 (o0.b.map byD)),dI s5,dI s6]),(5,.box [dS a2.Name,dS a2.Left,.ref 1 none,dB a2.Literal,.ref 9 none,.ref 3 none]),(8,.none),(9,.row m2 9 (s4.map Eqn.D))] ?_ ?_)
 replace hr:=hqq2
 refine AW.block (q0m (q0n (h:=?_)))
 refine W4 ?_
 refine IE hxk1 (Int.natCast_nonneg _) ?_
 refine W1 ?_
 refine LP hxk1 ?_
 refine bdE hr fun y2 hy2 hr=>?_
 refine CB [] [1,8,3] (q7E (m:=.bo) hy2) ?_
 refine bdE hr fun q3 hq3 hr=>?_
 obtain⟨y3,y4⟩:=q3
 refine CB [(0,9)] [] (q7F (m:=m) hq3) ?_
 refine W3 ?_
 refine NV 10 ?_
 refine SB ?_
 refine N1 ?_
 refine q0m (q0n (h:=?_))
 refine W3 ?_
 refine IE hxk1 (Int.natCast_nonneg _) ?_
 refine W1 ?_
 refine LP hxk1 ?_
 refine bdE hr fun q4 hq4 hr=>?_
 obtain⟨y5,y6⟩:=q4
 refine CB [] [9] (z0f (m:=.bo) hq4) ?_
 refine W3 ?_
 refine NV 11 ?_
 refine SB ?_
 refine N1 ?_
 refine q0m (q0n (h:=?_))
 refine W5 ?_
 refine W1 ?_
 refine bdE hr fun q5 hq5 hr=>?_
 obtain⟨y7,z1⟩:=q5
 refine CB [(0,0)] [] (q4F hq5) ?_
 refine ggE hr fun g1 hr=>?_
 refine OB _ (bAdd g1) ?_
 refine W1 ?_
 refine bdE hr fun q6 hq6 hr=>?_
 obtain⟨y8,z2⟩:=q6
 refine CB [(0,0),(1,12)] [1,8,3] (j7X (m:=.bo) hq6) ?_
 refine NV 13 ?_
 refine SB ?_
 refine N0 ?_
 refine ssr ?_
 refine W1 ?_
 refine bdE hr fun y9 hy9 hr=>?_
 refine CB [] [12] (z7u (m:=.bo) hy9) ?_
 refine N1 ?_
 refine ifE hr (fun h1 hr=>?_) fun h1 hr=>?_
 refine q0p rfl (bnF h1) ?_
 refine q0k ?_
 refine AW.fz 12 rfl ?_
 refine q0n (h:=?_)
 refine W4 ?_
 refine IE hxk1 (Int.natCast_nonneg _) ?_
 refine LPa hxk1 ?_
 refine W2 ?_
 refine LIR 14 (m:=.fz) (f:=Eqn.D) (xs:=[(⟨xk1,y8⟩:Eqn)]) ?_
 refine ggE hr fun g2 hr=>?_
 refine AP1 15 m2 112 g2 ?_
 refine W1 ?_
 refine SB ?_
 refine N0 ?_
 cases hr
 exact GH.trans (q0B (q:=4) [.d m (.sl 2 (a1.Symbols.map Symbol.D)),.u] (.cons .rfl (.cons .u .nil)) rfl) (q0h hS [(0,0),(1,1),(2,2),(3,3),(4,4),(5,5),(6,6),(7,7),(15,9)] 10)
 refine q0o rfl (bnT h1) ?_
 refine q0g ?_
 refine W3 ?_
 refine L0 14 Oc.D ?_
 refine bdE hr fun q7 hq7 hr=>?_
 obtain⟨y10,z3⟩:=q7
 refine CB [(0,0),(1,15)] [14] (z2l (m:=.bo) hq7) ?_
 refine SB ?_
 refine N0 ?_
 refine AW.fz 15 rfl ?_
 refine q0n (h:=?_)
 refine W4 ?_
 refine IE hxk1 (Int.natCast_nonneg _) ?_
 refine LPa hxk1 ?_
 refine W2 ?_
 refine LIR 16 (m:=.fz) (f:=Eqn.D) (xs:=[(⟨xk1,y10⟩:Eqn)]) ?_
 refine ggE hr fun g3 hr=>?_
 refine AP1 17 m2 112 g3 ?_
 refine W1 ?_
 refine SB ?_
 refine N0 ?_
 cases hr
 exact GH.trans (q0B (q:=4) [.d m (.sl 2 (a1.Symbols.map Symbol.D)),.u] (.cons .rfl (.cons .u .nil)) rfl) (q0h hS [(0,0),(1,1),(2,2),(3,3),(4,4),(5,5),(6,6),(7,7),(17,9)] 10)
 refine q0g ?_
 refine W1 ?_
 refine OB _ (z1R (p:=k1) (q:=1) (q4J hltk1 hl1)) ?_
 refine N1 ?_
 cases hr
 exact GH.trans (q0B (q:=4) [.d m (.sl 2 (a1.Symbols.map Symbol.D)),.u] (.cons .rfl (.cons .u .nil)) rfl) (q0h hS [(0,0),(1,1),(2,2),(3,3),(4,4),(5,5),(6,6),(7,7),(9,8)] 9)
 refine ssr ?_
 refine W2 ?_
 refine LE ?_
 refine N1 ?_
 refine q0p rfl (dF hltk1) ?_
 refine q0t ?_
 refine sr ?_
 refine W1 ?_
 refine SB ?_
 refine N0 ?_
 refine AW.ret ?_
 cases hr
 exact q0j [(0,0),(1,1),(2,2),(3,3),(8,4)] 5 hS
theorem k0J {m:Md}{m2:Md}{a1:Gm_}{a2:Rule}{o0:l1Cur}{r:(Rule×l1Cur)}(hr:z7c a1 a2 o0=some r):Ok Tryz.prog 98 [.pb 0 0,Gm_.y m a1,.ag [dS a2.Name,dS a2.Left,.ref 1 none,dB a2.Literal,.ref 2 none,.ref 3 none]] [.box [.d .fz (.sl 1 (o0.b.map byD)),dI o0.i,dI o0.h],.row .fz 1 (a2.Right.map A.D.s),.row m2 9 (a2.Equations.map Eqn.D),.row m2 16 (a2.Contributions.map Cn.D)] (.ag [dS r.1.Name,dS r.1.Left,.ref 1 none,dB r.1.Literal,.ref 2 none,.ref 4 none]) [.box [.d .fz (.sl 1 (o0.b.map byD)),dI r.2.i,dI r.2.h],.row .fz 1 (r.1.Right.map A.D.s),.row m2 9 (r.1.Equations.map Eqn.D),.dead,.row m2 16 (r.1.Contributions.map Cn.D)]:=by
 refine OE Tryz.func98 fun S hS=>?_
 unfold z7c at hr
 refine J g<|J (BX' 4)<|J (BX' 5)<|J (NV' 6)<|J (gn 7) ?_
 refine J (q1d 3 7 rfl)<|J (lenA 0 1)<|fun hl1=>bdT hr fun s1 s2 s3 hqq1 hr=>q0f hqq1 hl1 8 (fun k1 (s1,s2,s3)=>[(0,.pb 0 0),(4,.pb 4 0),(5,.pb 5 0),(6,.pb 6 0),(7,dI (k1:Int))]) (fun k1 (s1,s2,s3)=>[(0,.box [.d .fz (.sl 1 (o0.b.map byD)),dI s1,dI s2]),(7,.row m2 16 (s3.map Cn.D))]) I (fun k1 xk1 sk1 ok1 hxk1 hr hltk1=>?_) fun k1 hltk1=>?_
 obtain⟨s1,s2,s3⟩:=sk1
 refine J (gn 18) ?_
 refine AW.len (.el 1 (.tmp 12 rfl) hxk1 rfl) fun hl2=>?_
 refine bdT hr fun s4 s5 s6 hqq2 hr=>q0f hqq2 hl2 8 (fun k2 (s4,s5,s6)=>[(0,.pb 0 0),(4,.pb 4 0),(5,.pb 5 0),(6,.pb 6 0),(7,dI (k1:Int)),(8,dI (k2:Int))]) (fun k2 (s4,s5,s6)=>[(0,.box [.d .fz (.sl 1 (o0.b.map byD)),dI s4,dI s5]),(7,.row m2 16 (s6.map Cn.D))]) I (fun k2 xk2 sk2 ok2 hxk2 hr hltk2=>?_) fun k2 hltk2=>?_
 obtain⟨s4,s5,s6⟩:=sk2
 refine bdT hr fun s8 s9 s7 hqq3 hr=>J (gn 16)<|q0d 8 [(0,.pb 0 0),(4,.pb 4 0),(5,.pb 5 0),(6,.pb 6 0),(7,dI (k1:Int)),(8,dI (k2:Int))] [(0,.box [.d .fz (.sl 1 (o0.b.map byD)),dI s8,dI s9]),(7,.row m2 16 (s7.map Cn.D))] ?_ ?_
 replace hr:=hqq3
 refine J g<|J (NV' 8)<|bdE hr fun s10 hqq4 hr=>J (gn 7)<|q0a 6 [(0,.pb 0 0),(4,.pb 4 0),(5,.pb 5 0),(6,.pb 6 0),(7,dI (k1:Int)),(8,dI (k2:Int)),(9,.pb 8 0),(45,dB s10)] ?_ ?_
 replace hr:=hqq4
 refine ifE hr ?_ ?_<;>intro h1 hr
 exact e
 exact e
 refine bdT hr fun s14 s15 s16 hqq5 hr=>q0u 5 9 [(0,.pb 0 0),(4,.pb 4 0),(5,.pb 5 0),(6,.pb 6 0),(7,dI (k1:Int)),(8,dI (k2:Int)),(9,.pb 8 0),(50,dB s14)] [(0,.box [.d .fz (.sl 1 (o0.b.map byD)),dI s15,dI s16])] ?_ ?_
 replace hr:=hqq5
 refine ifE hr ?_ ?_<;>intro h2 hr
 refine bdP hr fun y1 z1 hq6 hr=>J g<|J (CB' [(0,0)] [] (q8I hq6))<|e
 exact e
 refine J (gn 1)<|ifE hr ?_ ?_<;>intro h3 hr
 refine bdE hr fun y2 hy2 hr=>J g<|J (CB' [(0,9)] [1,2,7] (z5F (m:=.bo) hy2))<|bdP hr fun y3 z2 hq7 hr=>J (CBz' 10 [(0,0),(1,10)] [9] (z2l (m:=.bo) hq7))<|bdE hr fun y4 hy4 hr=>J g<|J (CB' [(0,11)] [1,2,7] (z5F (m:=.bo) hy4))<|bdP hr fun y5 z3 hq8 hr=>J (CBz' 12 [(0,0),(1,12)] [11] (z2l (m:=.bo) hq8))<|J g<|J (LIR' 13 (m:=.fz) (f:=Cn.D) (xs:=[(⟨xk1.Name,xk2.Name,y3,y5⟩:Cn)]))<|ggE hr fun g1 hr=>J (AP1' 14 m2 208 g1)<|e
 exact e
 exact e
 exact e
 exact e
theorem j2o {a1:Bool}{o0:l1Cur}{r:(Gm_×l1Cur)}(hr:z3L a1 o0=some r):Ok Tryz.prog 51 [.pb 0 0,dB a1] [.box [.d .fz (.sl 1 (o0.b.map byD)),dI o0.i,dI o0.h]] (.ag [.ref 1 none,.ref 2 none]) [.box [.d .fz (.sl 1 (o0.b.map byD)),dI r.2.i,dI r.2.h],.deep .fz 2 (r.1.Symbols.map Symbol.O) [],.deep .fz 6 (r.1.Rules.map Rule.O) []]:=by
 refine OE Tryz.func51 fun S hS=>?_
 unfold z3L at hr
 refine J g<|J (NV' 1)<|J g<|J (NV' 2)<|bdP hr fun y1 z1 hq1 hr=>J g<|J (CB' [(0,0)] [] (q4F hq1))<|ggE hr fun g1 hr=>J g<|J (LIR' 3 (m:=.fz) (f:=A.D.s) (xs:=[(⟨#[115]⟩:ByteArray),(⟨#[116]⟩:ByteArray),(⟨#[117]⟩:ByteArray)]))<|ggE hr fun g2 hr=>ggE hr fun g3 hr=>J g<|J (CU' 4 g2 g3)<|J (gn 8) ?_
 refine J (q0S 2 0 5 .fz 2 rfl rfl)<|J (q2o 5 Symbol.O)<|J (rngT 6)<|fun hl1=>bdT hr fun s2 s3 s1 hqq2 hr=>q0s hqq2 6 (fun k1 (s2,s3,s1)=>[(0,.pb 0 0),(1,dB a1),(4,.pb 1 0),(5,.pb 2 0),(6,dI (1+y1)),(7,.ref 4 none),(8,dI (k1:Int))]) (fun k1 (s2,s3,s1)=>[(0,.box [.d .fz (.sl 1 (o0.b.map byD)),dI s2,dI s3]),(3,.none),(5,.deep .fz 2 (s1.map Symbol.O) [])]) I (fun k1 sk1 ok1 hr hltk1=>?_) ?_
 obtain⟨s2,s3,s1⟩:=sk1
 refine bdE hr fun x1 hx1 hr=>bdP hr fun y2 z2 hq3 hr=>J g<|J (CB' [(0,0),(1,6)] [] (k0B hq3))<|J (LID' (f:=Symbol.O) 7 y2 [6])<|ggE hr fun g4 hr=>J (k4j 8 40 g4)<|e
 refine J (gn 15) ?_
 refine J (q0S 2 1 6 .fz 6 rfl rfl)<|J (q2o 6 Rule.O)<|J (rngT 6)<|fun hl2=>bdT hr fun s5 s6 s4 hqq4 hr=>q0s hqq4 7 (fun k2 (s5,s6,s4)=>[(0,.pb 0 0),(1,dB a1),(4,.pb 1 0),(5,.pb 2 0),(6,dI (1+y1)),(7,.ref 4 none),(9,dI (k2:Int))]) (fun k2 (s5,s6,s4)=>[(0,.box [.d .fz (.sl 1 (o0.b.map byD)),dI s5,dI s6]),(6,.deep .fz 6 (s4.map Rule.O) [])]) I (fun k2 sk2 ok2 hr hltk2=>?_) ?_
 obtain⟨s5,s6,s4⟩:=sk2
 refine bdE hr fun x2 hx2 hr=>ggE hr fun g5 hr=>J g<|J (OB' _ (k0w g5))<|bdP hr fun y3 z3 hq5 hr=>J g<|J (CB' [(0,0)] [] (q8I hq5))<|J g<|J (LID' (f:=Rule.O) 7 (⟨((⟨#[108,101,97,102]⟩:ByteArray)++x2),x2,[],!y3,[],[]⟩:Rule) [])<|ggE hr fun g6 hr=>J (k4j 8 112 g6)<|bdP hr fun y4 z4 hq6 hr=>J g<|J (CB' [(0,0)] [] (q4F hq6))<|ggE hr fun g7 hr=>J (gn 8)<|J (rngT 10)<|fun hl3=>bdT hr fun s8 s9 s7 hqq7 hr=>q0s hqq7 9 (fun k3 (s8,s9,s7)=>[(0,.pb 0 0),(1,dB a1),(4,.pb 1 0),(5,.pb 2 0),(6,dI (1+y1)),(7,.ref 4 none),(9,dI (k2:Int)),(10,dI (1+y4)),(11,dI (k3:Int))]) (fun k3 (s8,s9,s7)=>[(0,.box [.d .fz (.sl 1 (o0.b.map byD)),dI s8,dI s9]),(6,.none),(7,.none),(8,.deep .fz 6 (s7.map Rule.O) [])]) I (fun k3 sk3 ok3 hr hltk3=>?_) ?_
 obtain⟨s8,s9,s7⟩:=sk3
 refine ggE hr fun g8 hr=>J g<|J (OB' _ (k0w g8))<|bdE hr fun y5 hy5 hr=>J g<|J (CB' [] [] (j5b hy5))<|ggE hr fun g9 hr=>J (OB' _ (k0w g9))<|bdP hr fun y6 z5 hq8 hr=>J g<|J (CB' [(0,0)] [] (q8I hq8))<|J g<|J (NV' 9)<|bdP hr fun y7 z6 hq9 hr=>J g<|J (CB' [(0,0)] [] (q4F hq9))<|ggE hr fun g10 hr=>J (gn 9) ?_
 refine J (q0S 9 2 10 .fz 1 rfl rfl)<|J (rngT 13)<|fun hl4=>bdT hr fun s11 s12 s10 hqq10 hr=>q0s hqq10 11 (fun k4 (s11,s12,s10)=>[(0,.pb 0 0),(1,dB a1),(4,.pb 1 0),(5,.pb 2 0),(6,dI (1+y1)),(7,.ref 4 none),(9,dI (k2:Int)),(10,dI (1+y4)),(11,dI (k3:Int)),(12,.pb 9 0),(13,dI (1+y7)),(14,dI (k4:Int))]) (fun k4 (s11,s12,s10)=>[(0,.box [.d .fz (.sl 1 (o0.b.map byD)),dI s11,dI s12]),(10,.row .fz 1 (s10.map A.D.s))]) I (fun k4 sk4 ok4 hr hltk4=>?_) ?_
 obtain⟨s11,s12,s10⟩:=sk4
 refine bdP hr fun y8 z7 hq11 hr=>J g<|J (CB' [(0,0)] [4] (k0C (m:=.bo) hq11))<|J (LIR' 11 (m:=.fz) (f:=A.D.s) (xs:=[y8]))<|ggE hr fun g11 hr=>J (z3z (f:=A.D.s) 12 (fun _=>rfl) 16 g11)<|e
 refine J g<|J (LID' (f:=Rule.O) 11 (⟨(((⟨#[112]⟩:ByteArray)++x2)++y5),x2,s10,y6,[],[]⟩:Rule) [10])<|ggE hr fun g12 hr=>J (k4j 12 112 g12)<|e
 exact e
 refine J g<|J (LEd' s4.length)<|bdE hr fun s13 hqq12 hr=>J (gn 2)<|q0d 7 [(0,.pb 0 0),(1,dB a1),(4,.pb 1 0),(5,.pb 2 0)] [(6,.deep .fz 6 (s13.map Rule.O) [])] ?_ ?_
 replace hr:=hqq12
 refine ifE hr ?_ ?_<;>intro h1 hr
 refine ggE hr fun g13 hr=>J g<|J (CUd' (xs:=s4) (b:=8) 7 (by decide) g13)<|e
 exact e
 refine bdT hr fun s14 s15 s16 hqq13 hr=>J (gn 5)<|q0d 7 [(4,.pb 1 0),(5,.pb 2 0)] [(0,.box [.d .fz (.sl 1 (o0.b.map byD)),dI s14,dI s15]),(6,.deep .fz 6 (s16.map Rule.O) [])] ?_ ?_
 refine J g<|q0l hqq13 7 (fun (s17,s18,s19,s20)=>[(0,.pb 0 0),(1,dB a1),(4,.pb 1 0),(5,.pb 2 0),(15,dI s17)]) (fun (s17,s18,s19,s20)=>[(0,.box [.d .fz (.sl 1 (o0.b.map byD)),dI s18,dI s19]),(6,.deep .fz 6 (s20.map Rule.O) [])]) I fun sk5 ok5 hr hik5=>?_
 obtain⟨s17,s18,s19,s20⟩:=sk5
 have hr:=hr
 refine J g<|J (LEd' s20.length)<|J (gn 2)<|ifE hr ?_ ?_<;>intro h2 hr
 refine bdT hr fun s21 s22 s23 hqq14 hr=>J (gn 3)<|q0d 7 [(0,.pb 0 0),(1,dB a1),(4,.pb 1 0),(5,.pb 2 0),(15,dI s17)] [(0,.box [.d .fz (.sl 1 (o0.b.map byD)),dI s21,dI s22]),(6,.deep .fz 6 (s23.map Rule.O) [])] ?_ ?_
 replace hr:=hqq14
 refine ggE hr fun g14 hr=>bdE hr fun x3 hx3 hr=>J (q0y 6 s17.toNat 2 7 (q4Y hx3))<|J (q0y 6 s17.toNat 4 8 (q3W (q4Y hx3)))<|J (q0y 6 s17.toNat 5 9 (q3W (q3W (q4Y hx3))))<|J g<|J (IEd' g14 (q3W (q3W (q3W (q4Y hx3)))))<|J (k7M [(5,9),(4,8),(2,7)] (q3W (q3W (q3W (q4Y hx3)))))<|bdP hr fun y9 z8 hq15 hr=>J g<|J (CB' [(0,0),(1,7),(2,8),(3,9),(4,10)] [5] (j8c (m:=.bo) (m2:=.fz) hq15))<|J (IEd' g14 (q3W (q3W (q3W (q4Y hx3)))))<|J (SD' [.d .fz (.s y9.Name),.d .fz (.s y9.Left),.o .fz 1 (y9.Right.map A.D.s),.d .fz (.b y9.Literal),.o .fz 9 (y9.Equations.map Eqn.D),.o .fz 16 (y9.Contributions.map Cn.D)] [7,10,9] (q3W (q3W (q3W (q4Y hx3)))))<|J (gn 6)<|ifE hr ?_ ?_<;>intro h3 hr
 refine J (gn 2) ?_
 cases hr
 exact GH.trans (q0C 6 (he:=eset (f:=Rule.O) (x':=y9) (by first|rfl|(simp only[List.set_set];rfl)))) (q0h hS [(0,0),(1,1),(2,2),(4,4),(5,5),(6,6)] 7)
 refine J (gn 1)<|J (q0y 6 s17.toNat 2 11 (q3W (q3W (q3W (q3W (q4Y hx3))))))<|J (q0y 6 s17.toNat 4 12 (q3W (q3W (q3W (q3W (q3W (q4Y hx3)))))))<|J (q0y 6 s17.toNat 5 13 (q3W (q3W (q3W (q3W (q3W (q3W (q4Y hx3))))))))<|J g<|J (IEd' g14 (q3W (q3W (q3W (q3W (q3W (q3W (q3W (q4Y hx3)))))))))<|J (k7M [(5,13),(4,12),(2,11)] (q3W (q3W (q3W (q3W (q3W (q3W (q3W (q4Y hx3)))))))))<|bdP hr fun y10 z9 hq16 hr=>J (CB' [(0,0),(1,11),(2,12),(3,13),(4,14)] [5] (k0J (m:=.bo) (m2:=.fz) hq16))<|J (IEd' g14 (q3W (q3W (q3W (q3W (q3W (q3W (q3W (q4Y hx3)))))))))<|J (SD' [.d .fz (.s y10.Name),.d .fz (.s y10.Left),.o .fz 1 (y10.Right.map A.D.s),.d .fz (.b y10.Literal),.o .fz 9 (y10.Equations.map Eqn.D),.o .fz 16 (y10.Contributions.map Cn.D)] [11,12,14] (q3W (q3W (q3W (q3W (q3W (q3W (q3W (q4Y hx3)))))))))<|J (gn 1) ?_
 cases hr
 exact GH.trans (q0C 6 (he:=eset (f:=Rule.O) (x':=y10) (by first|rfl|(simp only[List.set_set];rfl)))) (q0h hS [(0,0),(1,1),(2,2),(4,4),(5,5),(6,6)] 7)
 refine ggE hr fun g15 hr=>e
 refine J (gn 2) ?_
 cases hr
 cases hik5 _ rfl
 exact q0h hS [(0,0),(1,1),(2,2),(4,4),(5,5),(6,6)] 7
 exact e
theorem j3B {Rc4:Expr→Option Bool}(Ic4:∀ {m:Md} {a0:Expr} {r:Bool},Rc4 a0=some r→Ok Tryz.prog 108 [Expr.x m a0] [] (dB r) []){m:Md}{a0:Expr}{r:Bool}(hr:z2Q Rc4 a0=some r):Ok Tryz.prog 108 [Expr.x m a0] [] (dB r) []:=by
 refine OE Tryz.func108 fun S hS=>?_
 unfold z2Q at hr
 refine J g<|J (BX' 0)<|J (gn 8)<|J (lenA 6 0)<|fun hl1=>bdE hr fun q1 hqq1 hr=>q0b hqq1 hl1 1 (fun k1 _=>[(1,.pb 0 0),(3,dI (k1:Int))]) (fun k1 _=>[]) I (fun k1 xk1 sk1 ok1 hxk1 hr hltk1 hik1=>?_) fun k1 sk1 ek1 hltk1=>?_
 refine bdE hr fun y1 hy1 hr=>J g<|J (CB' [] [] (Ic4 (m:=m) hy1))<|J (gn 1)<|ifE hr ?_ ?_<;>intro h1 hr
 exact e
 exact e
 subst ek1
 exact e
theorem j3C (n:Nat):∀ {m:Md} {a0:Expr} {r:Bool},z2R n a0=some r→Ok Tryz.prog 108 [Expr.x m a0] [] (dB r) []:=by
  induction n with
  | zero=>intro _ _ r hr;exact nomatch (show (none:Option Bool)=some r from hr)
  | succ n ih=>intro _ _ r hr;exact j3B ih hr
theorem j5d {m:Md}{a0:Expr}{r:Bool}(hr:z7d a0=some r):Ok Tryz.prog 108 [Expr.x m a0] [] (dB r) []:=by
 obtain⟨n,hn⟩:=q6U hr
 exact j3C n hn
theorem j5e {m:Md}{a0:Rule}{r:Bool}(hr:z2S a0=some r):Ok Tryz.prog 58 [Rule.x m a0] [] (dB r) []:=by
 refine OE Tryz.func58 fun S hS=>?_
 unfold z2S at hr
 refine J g<|J (BX' 0)<|J (gn 8)<|J (lenA 4 0)<|fun hl1=>bdE hr fun q1 hqq1 hr=>q0b hqq1 hl1 1 (fun k1 _=>[(1,.pb 0 0),(3,dI (k1:Int))]) (fun k1 _=>[]) I (fun k1 xk1 sk1 ok1 hxk1 hr hltk1 hik1=>?_) fun k1 sk1 ek1 hltk1=>?_
 refine bdE hr fun y1 hy1 hr=>J g<|J (CB' [] [] (j5d (m:=m) hy1))<|J (gn 1)<|ifE hr ?_ ?_<;>intro h1 hr
 exact e
 exact e
 subst ek1
 exact e
theorem z8f {a0:At_}{r:Bool}(hr:q7P a0=some r):Ok Tryz.prog 263 [At_.x .fz a0] [] (dB r) []:=by
 refine OE Tryz.func263 fun S hS=>?_
 unfold q7P at hr
 refine J g<|J (BX' 0)<|bdE hr fun y1 hy1 hr=>J g<|J (CB' [] [] (q5J hy1))<|bdE hr fun s1 hqq1 hr=>J (gn 1)<|q0a 6 [(1,.pb 0 0),(12,dB s1)] ?_ ?_
 replace hr:=hqq1
 refine ifE hr ?_ ?_<;>intro h1 hr
 refine bdE hr fun y2 hy2 hr=>J g<|J (CB' [] [] (q5R hy2))<|e
 exact e
 refine bdE hr fun s2 hqq2 hr=>q0a 6 [(1,.pb 0 0),(18,dB s2)] ?_ ?_
 replace hr:=hqq2
 refine ifE hr ?_ ?_<;>intro h2 hr
 exact e
 refine bdE hr fun y3 hy3 hr=>J g<|J (CB' [] [] (q5R hy3))<|e
 refine J (gn 1)<|ifE hr ?_ ?_<;>intro h3 hr
 exact e
 refine bdE hr fun s3 hqq3 hr=>J (gn 8)<|q0a 9 [(1,.pb 0 0),(30,dB s3)] ?_ ?_
 replace hr:=hqq3
 refine ifE hr ?_ ?_<;>intro h4 hr
 refine bdE hr fun s4 hqq4 hr=>J (gn 4)<|q0a 4 [(1,.pb 0 0),(22,dB true),(29,dB s4)] ?_ ?_
 replace hr:=hqq4
 refine ifE hr ?_ ?_<;>intro h5 hr
 exact e
 exact e
 exact e
 exact e
 refine J (gn 1)<|ifE hr ?_ ?_<;>intro h6 hr
 exact e
 refine bdE hr fun s5 hqq5 hr=>J (gn 7)<|q0a 5 [(38,dB s5)] ?_ ?_
 replace hr:=hqq5
 refine ifE hr ?_ ?_<;>intro h7 hr
 exact e
 exact e
 exact e
theorem j2p {m:Md}{a0:(List ByteArray)}{r:Bool}(hr:z0w a0=some r):Ok Tryz.prog 264 [.d m (.sl 1 (a0.map A.D.s))] [] (dB r) []:=by
 refine OE Tryz.func264 fun S hS=>?_
 unfold z0w at hr
 refine J (gn 10)<|J (lenT 0)<|fun hl1=>bdE hr fun q1 hqq1 hr=>q0b hqq1 hl1 0 (fun k1 _=>[(0,.d m (.sl 1 (a0.map A.D.s))),(3,dI (k1:Int))]) (fun k1 _=>[]) I (fun k1 xk1 sk1 ok1 hxk1 hr hltk1 hik1=>?_) fun k1 sk1 ek1 hltk1=>?_
 refine ggE hr fun g1 hr=>J g<|J (SLH' (Int.natCast_nonneg _) g1)<|bdE hr fun y1 hy1 hr=>J g<|J (CB' [] [] (z9m (m:=m) hy1))<|J (gn 1)<|ifE hr ?_ ?_<;>intro h1 hr
 exact e
 exact e
 subst ek1
 exact e
theorem z9S {m:Md}{a0:Symbol}{r:Bool}(hr:q9l a0=some r):Ok Tryz.prog 231 [Symbol.x m a0] [] (dB r) []:=by
 refine OE Tryz.func231 fun S hS=>?_
 unfold q9l at hr
 refine J g<|J (BX' 0)<|J g<|J (L0' 1 A.D.s)<|J (gn 8)<|J (lenA 1 0)<|fun hl1=>bdE hr fun q1 hqq1 hr=>q0b hqq1 hl1 2 (fun k1 s1=>[(1,.pb 0 0),(3,.ref 1 none),(4,dI (k1:Int))]) (fun k1 s1=>[(1,.row .fz 1 (s1.map A.D.s))]) I (fun k1 xk1 sk1 ok1 hxk1 hr hltk1 hik1=>?_) fun k1 sk1 ek1 hltk1=>?_
 obtain⟨s1,rfl⟩:∃ y,y=sk1:=⟨_,rfl⟩
 refine bdE hr fun y1 hy1 hr=>J g<|J (CB' [] [] (z8f hy1))<|J (gn 2)<|ifE hr ?_ ?_<;>intro h1 hr
 refine J g<|J (LIR' 2 (m:=.fz) (f:=A.D.s) (xs:=[xk1.Name]))<|ggE hr fun g1 hr=>J (z3z (f:=A.D.s) 3 (fun _=>rfl) 16 g1)<|e
 exact e
 subst ek1
 obtain⟨s1,rfl⟩:∃ y,y=sk1:=⟨_,rfl⟩
 refine bdE hr fun y2 hy2 hr=>J g<|J (CB' [] [] (q5J hy2))<|bdE hr fun s2 hqq2 hr=>q0a 5 [(3,.ref 1 none),(36,dB s2)] ?_ ?_
 replace hr:=hqq2
 refine ifE hr ?_ ?_<;>intro h2 hr
 exact e
 exact e
 refine bdE hr fun s3 hqq3 hr=>q0a 4 [(40,dB s3)] ?_ ?_
 replace hr:=hqq3
 refine ifE hr ?_ ?_<;>intro h3 hr
 refine bdE hr fun y3 hy3 hr=>J g<|J (CB' [] [1] (j2p (m:=.bo) hy3))<|e
 exact e
 exact e
theorem j5f {Rc5:Expr→Int→Option Bool}(Ic5:∀ {m:Md} {a0:Expr} {a1:Int} {r:Bool},Rc5 a0 a1=some r→Ok Tryz.prog 254 [Expr.x m a0,dI a1] [] (dB r) []){m:Md}{a0:Expr}{a1:Int}{r:Bool}(hr:z4e Rc5 a0 a1=some r):Ok Tryz.prog 254 [Expr.x m a0,dI a1] [] (dB r) []:=by
 refine OE Tryz.func254 fun S hS=>?_
 unfold z4e at hr
 refine J g<|J (BX' 0)<|J (gn 8)<|J (lenA 6 0)<|fun hl1=>bdE hr fun q1 hqq1 hr=>q0b hqq1 hl1 1 (fun k1 _=>[(1,dI a1),(2,.pb 0 0),(5,dI (k1:Int))]) (fun k1 _=>[]) I (fun k1 xk1 sk1 ok1 hxk1 hr hltk1 hik1=>?_) fun k1 sk1 ek1 hltk1=>?_
 refine bdE hr fun y1 hy1 hr=>J g<|J (CB' [] [] (Ic5 (m:=m) hy1))<|J (gn 2)<|ifE hr ?_ ?_<;>intro h1 hr
 exact e
 exact e
 subst ek1
 exact e
theorem j5g (n:Nat):∀ {m:Md} {a0:Expr} {a1:Int} {r:Bool},z4f n a0 a1=some r→Ok Tryz.prog 254 [Expr.x m a0,dI a1] [] (dB r) []:=by
  induction n with
  | zero=>intro _ _ _ r hr;exact nomatch (show (none:Option Bool)=some r from hr)
  | succ n ih=>intro _ _ _ r hr;exact j5f ih hr
theorem j6L {m:Md}{a0:Expr}{a1:Int}{r:Bool}(hr:z8u a0 a1=some r):Ok Tryz.prog 254 [Expr.x m a0,dI a1] [] (dB r) []:=by
 obtain⟨n,hn⟩:=q6U hr
 exact j5g n hn
theorem z9T {m:Md}{a0:Expr}{a1:Int}{r:Bool}(hr:z4g a0 a1=some r):Ok Tryz.prog 214 [Expr.x m a0,dI a1] [] (dB r) []:=by
 refine OE Tryz.func214 fun S hS=>?_
 unfold z4g at hr
 refine J g<|J (BX' 0)<|bdE hr fun y1 hy1 hr=>J g<|J (CB' [] [] (z7u (m:=m) hy1))<|ifE hr ?_ ?_<;>intro h1 hr
 refine bdE hr fun y2 hy2 hr=>J g<|J (CB' [] [] (j6L (m:=m) hy2))<|e
 exact e
theorem j2q {m:Md}{a0:Rule}{r:Bool}(hr:z0x a0=some r):Ok Tryz.prog 233 [Rule.x m a0] [] (dB r) []:=by
 refine OE Tryz.func233 fun S hS=>?_
 unfold z0x at hr
 refine J g<|J (BX' 0)<|bdE hr fun y1 hy1 hr=>J g<|J (CB' [] [] (q5J hy1))<|bdE hr fun s1 hqq1 hr=>J (gn 1)<|q0a 6 [(1,.pb 0 0),(3,dI (a0.Right.length:Int)),(21,dB s1)] ?_ ?_
 replace hr:=hqq1
 refine ifE hr ?_ ?_<;>intro h1 hr
 refine bdE hr fun y2 hy2 hr=>J g<|J (CB' [] [] (q5J hy2))<|e
 exact e
 refine bdE hr fun s2 hqq2 hr=>q0a 4 [(1,.pb 0 0),(3,dI (a0.Right.length:Int)),(25,dB s2)] ?_ ?_
 replace hr:=hqq2
 refine ifE hr ?_ ?_<;>intro h2 hr
 exact e
 exact e
 refine bdE hr fun s3 hqq3 hr=>q0a 6 [(1,.pb 0 0),(3,dI (a0.Right.length:Int)),(31,dB s3)] ?_ ?_
 replace hr:=hqq3
 refine ifE hr ?_ ?_<;>intro h3 hr
 exact e
 exact e
 refine J (gn 1)<|ifE hr ?_ ?_<;>intro h4 hr
 exact e
 refine J (gn 8) ?_
 refine AW.len (.box 0 2 rfl rfl) fun hl1=>?_
 refine bdE hr fun q4 hqq4 hr=>q0b hqq4 hl1 1 (fun k1 _=>[(1,.pb 0 0),(3,dI (a0.Right.length:Int)),(4,dI (k1:Int))]) (fun k1 _=>[]) I (fun k1 xk1 sk1 ok1 hxk1 hr hltk1 hik1=>?_) fun k1 sk1 ek1 hltk1=>?_
 refine bdE hr fun y3 hy3 hr=>J g<|J (CB' [] [] (q5J hy3))<|J (gn 2)<|ifE hr ?_ ?_<;>intro h5 hr
 exact e
 exact e
 subst ek1
 refine J (gn 15) ?_
 refine AW.len (.box 0 4 rfl rfl) fun hl2=>?_
 refine bdE hr fun q5 hqq5 hr=>q0b hqq5 hl2 1 (fun k2 _=>[(1,.pb 0 0),(3,dI (a0.Right.length:Int)),(5,dI (k2:Int))]) (fun k2 _=>[]) I (fun k2 xk2 sk2 ok2 hxk2 hr hltk2 hik2=>?_) fun k2 sk2 ek2 hltk2=>?_
 refine J g<|J (NV' 1)<|bdE hr fun y4 hy4 hr=>J g<|J (CB' [] [] (q5J hy4))<|bdE hr fun s4 hqq6 hr=>J (gn 1)<|q0a 8 [(1,.pb 0 0),(3,dI (a0.Right.length:Int)),(5,dI (k2:Int)),(6,.pb 1 0),(68,dB s4)] ?_ ?_
 replace hr:=hqq6
 refine ifE hr ?_ ?_<;>intro h6 hr
 refine bdE hr fun y5 hy5 hr=>J g<|J (CB' [] [] (q5R hy5))<|e
 exact e
 refine bdE hr fun s5 hqq7 hr=>q0a 7 [(1,.pb 0 0),(3,dI (a0.Right.length:Int)),(5,dI (k2:Int)),(75,dB s5)] ?_ ?_
 replace hr:=hqq7
 refine ifE hr ?_ ?_<;>intro h7 hr
 exact e
 refine bdE hr fun y6 hy6 hr=>J g<|J (CB' [] [] (z9T (m:=m) hy6))<|e
 refine J (gn 1)<|ifE hr ?_ ?_<;>intro h8 hr
 exact e
 exact e
 subst ek2
 refine J (gn 17) ?_
 refine AW.len (.box 0 5 rfl rfl) fun hl3=>?_
 refine bdE hr fun q8 hqq8 hr=>q0b hqq8 hl3 1 (fun k3 _=>[(1,.pb 0 0),(3,dI (a0.Right.length:Int)),(7,dI (k3:Int))]) (fun k3 _=>[]) I (fun k3 xk3 sk3 ok3 hxk3 hr hltk3 hik3=>?_) fun k3 sk3 ek3 hltk3=>?_
 refine J g<|J (NV' 1)<|bdE hr fun y7 hy7 hr=>J g<|J (CB' [] [] (q5J hy7))<|bdE hr fun s6 hqq9 hr=>J (gn 1)<|q0a 6 [(1,.pb 0 0),(3,dI (a0.Right.length:Int)),(7,dI (k3:Int)),(8,.pb 1 0),(97,dB s6)] ?_ ?_
 replace hr:=hqq9
 refine ifE hr ?_ ?_<;>intro h9 hr
 refine bdE hr fun y8 hy8 hr=>J g<|J (CB' [] [] (q5J hy8))<|e
 exact e
 refine bdE hr fun s7 hqq10 hr=>q0a 7 [(1,.pb 0 0),(3,dI (a0.Right.length:Int)),(7,dI (k3:Int)),(8,.pb 1 0),(104,dB s7)] ?_ ?_
 replace hr:=hqq10
 refine ifE hr ?_ ?_<;>intro h10 hr
 exact e
 refine bdE hr fun y9 hy9 hr=>J g<|J (CB' [] [] (z9T (m:=m) hy9))<|e
 refine bdE hr fun s8 hqq11 hr=>q0a 7 [(1,.pb 0 0),(3,dI (a0.Right.length:Int)),(7,dI (k3:Int)),(111,dB s8)] ?_ ?_
 replace hr:=hqq11
 refine ifE hr ?_ ?_<;>intro h11 hr
 exact e
 refine bdE hr fun y10 hy10 hr=>J g<|J (CB' [] [] (z9T (m:=m) hy10))<|e
 refine J (gn 1)<|ifE hr ?_ ?_<;>intro h12 hr
 exact e
 exact e
 subst ek3
 exact e
theorem k0K {m:Md}{a0:Gm_}{r:Int}(hr:z7h a0=some r):Ok Tryz.prog 203 [Gm_.x m a0] [] (dI r) []:=by
 refine OE Tryz.func203 fun S hS=>?_
 unfold z7h at hr
 refine J g<|J (BX' 0)<|J g<|J (L0' 1 A.D.s)<|J (gn 8)<|J (lenA 0 0)<|fun hl1=>bdE hr fun q1 hqq1 hr=>q0b hqq1 hl1 2 (fun k1 s1=>[(1,.pb 0 0),(3,.ref 1 none),(4,dI (k1:Int))]) (fun k1 s1=>[(1,.row .fz 1 (s1.map A.D.s))]) I (fun k1 xk1 sk1 ok1 hxk1 hr hltk1 hik1=>?_) fun k1 sk1 ek1 hltk1=>?_
 obtain⟨s1,rfl⟩:∃ y,y=sk1:=⟨_,rfl⟩
 refine bdE hr fun y1 hy1 hr=>J g<|J (CB' [] [] (z9S (m:=m) hy1))<|J (gn 1)<|ifE hr ?_ ?_<;>intro h1 hr
 refine bdE hr fun y2 hy2 hr=>J g<|J (CB' [] [1] (z9m (m:=.bo) hy2))<|J (gn 2)<|ifE hr ?_ ?_<;>intro h2 hr
 exact e
 refine J g<|J (LIR' 2 (m:=.fz) (f:=A.D.s) (xs:=[xk1.Name]))<|ggE hr fun g1 hr=>J (z3z (f:=A.D.s) 3 (fun _=>rfl) 16 g1)<|e
 exact e
 subst ek1
 obtain⟨s1,rfl⟩:∃ y,y=sk1:=⟨_,rfl⟩
 refine J g<|J (L0' 2 A.D.s)<|J (gn 8) ?_
 refine AW.len (.box 0 1 rfl rfl) fun hl2=>?_
 refine bdE hr fun q2 hqq2 hr=>q0b hqq2 hl2 3 (fun k2 s2=>[(1,.pb 0 0),(3,.ref 2 none),(5,dI (k2:Int))]) (fun k2 s2=>[(2,.row .fz 1 (s2.map A.D.s))]) I (fun k2 xk2 sk2 ok2 hxk2 hr hltk2 hik2=>?_) fun k2 sk2 ek2 hltk2=>?_
 obtain⟨s2,rfl⟩:∃ y,y=sk2:=⟨_,rfl⟩
 refine bdE hr fun y3 hy3 hr=>J g<|J (CB' [] [] (j2q (m:=m) hy3))<|J (gn 1)<|ifE hr ?_ ?_<;>intro h3 hr
 refine bdE hr fun y4 hy4 hr=>J g<|J (CB' [] [2] (z9m (m:=.bo) hy4))<|J (gn 2)<|ifE hr ?_ ?_<;>intro h4 hr
 exact e
 refine J g<|J (LIR' 3 (m:=.fz) (f:=A.D.s) (xs:=[xk2.Name]))<|ggE hr fun g2 hr=>J (z3z (f:=A.D.s) 4 (fun _=>rfl) 16 g2)<|e
 exact e
 subst ek2
 obtain⟨s2,rfl⟩:∃ y,y=sk2:=⟨_,rfl⟩
 exact e
theorem j3D {m:Md}{a0:Gm_}{a1:Rule}{r:Bool}(hr:z1n a0 a1=some r):Ok Tryz.prog 234 [Gm_.y m a0,Rule.x m a1] [] (dB r) []:=by
 refine OE Tryz.func234 fun S hS=>?_
 unfold z1n at hr
 refine J g<|J (BX' 0)<|J (BX' 1)<|bdE hr fun q1 hqq1 hr=>J (gn 7)<|AW.cut 2 (fun _=>[]) (fun _=>[]) (M:=fun x=>q1=.inl x) ?_ fun x hx=>?_
 refine J g<|q0l hqq1 2 (fun s1=>[(2,.pb 0 0),(3,.pb 1 0),(5,dI s1)]) (fun s1=>[]) I fun sk1 ok1 hr hik1=>?_
 obtain⟨s1,rfl⟩:∃ y,y=sk1:=⟨_,rfl⟩
 have hr:=hr
 refine J (gn 9)<|ifE hr ?_ ?_<;>intro h1 hr
 refine bdE hr fun y1 hy1 hr=>J g<|J (CB' [] [] (q7E (m:=m) hy1))<|bdP hr fun y2 y3 hq2 hr=>J (CB' [(0,2)] [] (q7F (m:=m) hq2))<|J g<|J (NV' 3)<|J (gn 8)<|ifE hr ?_ ?_<;>intro h2 hr
 refine ggE hr fun g1 hr=>e
 exact e
 refine J (gn 2) ?_
 cases hr
 cases hik1 _ rfl
 exact⟨_,rfl,GH.trans (q0B (q:=0) [.d m (.sl 2 (a0.Symbols.map Symbol.D)),.u] (.cons .rfl (.cons .u .nil)) rfl) (q0i hS 2)⟩
 subst hx
 exact e
theorem j8d {Rc6:Expr→Option Expr}(Ic6:∀ {m:Md} {a0:Expr} {r:Expr},Rc6 a0=some r→Ok Tryz.prog 171 [Expr.x m a0] [] (.ag [dI r.Kind,dI r.N,dI r.Pos,dI r.Type_,dS r.Symbol,dS r.Name,.ref 0 none]) [.row .fz 7 (r.Args.map Expr.D)]){m:Md}{a0:Expr}{r:Expr}(hr:z1o Rc6 a0=some r):Ok Tryz.prog 171 [Expr.x m a0] [] (.ag [dI r.Kind,dI r.N,dI r.Pos,dI r.Type_,dS r.Symbol,dS r.Name,.ref 0 none]) [.row .fz 7 (r.Args.map Expr.D)]:=by
 refine OE Tryz.func171 fun S hS=>?_
 unfold z1o at hr
 refine J g<|J (BX' 0)<|J (NV' 1)<|J g<|J (L0' 2 Expr.D)<|J (gn 8)<|J (lenA 6 0)<|fun hl1=>bdE hr fun s1 hqq1 hr=>q0f hqq1 hl1 3 (fun k1 s1=>[(1,.pb 0 0),(2,.pb 1 0),(3,.ref 2 none),(4,dI (k1:Int))]) (fun k1 s1=>[(2,.row .fz 7 (s1.map Expr.D))]) I (fun k1 xk1 sk1 ok1 hxk1 hr hltk1=>?_) fun k1 hltk1=>?_
 obtain⟨s1,rfl⟩:∃ y,y=sk1:=⟨_,rfl⟩
 refine bdE hr fun y1 hy1 hr=>J g<|J (CB' [(0,3)] [] (Ic6 (m:=m) hy1)) ?_
 refine J (q0x 3 rfl) ?_
 refine J (k2b 4 (m:=.fz) (f:=Expr.D) [y1] (by simp only[List.map_cons,List.map_nil,Expr.D_eq];rfl))<|ggE hr fun g1 hr=>J (AP1' 5 .fz 88 g1)<|J g<|E
 exact e
theorem j8e (n:Nat):∀ {m:Md} {a0:Expr} {r:Expr},q7Q n a0=some r→Ok Tryz.prog 171 [Expr.x m a0] [] (.ag [dI r.Kind,dI r.N,dI r.Pos,dI r.Type_,dS r.Symbol,dS r.Name,.ref 0 none]) [.row .fz 7 (r.Args.map Expr.D)]:=by
  induction n with
  | zero=>intro _ _ r hr;exact nomatch (show (none:Option Expr)=some r from hr)
  | succ n ih=>intro _ _ r hr;exact j8d ih hr
theorem k0L {m:Md}{a0:Expr}{r:Expr}(hr:z9b a0=some r):Ok Tryz.prog 171 [Expr.x m a0] [] (.ag [dI r.Kind,dI r.N,dI r.Pos,dI r.Type_,dS r.Symbol,dS r.Name,.ref 0 none]) [.row .fz 7 (r.Args.map Expr.D)]:=by
 obtain⟨n,hn⟩:=q6U hr
 exact j8e n hn
theorem z3p {m:Md}{a0:Rule}{a1:Oc}{r:(Expr×Bool)}(hr:q5G a0 a1=some r):Ok Tryz.prog 120 [Rule.x m a0,Oc.x .fz a1] [] (.tu [.ag [dI r.1.Kind,dI r.1.N,dI r.1.Pos,dI r.1.Type_,dS r.1.Symbol,dS r.1.Name,.ref 0 none],dB r.2]) [.row .fz 7 (r.1.Args.map Expr.D)]:=by
 refine OE Tryz.func120 fun S hS=>?_
 unfold q5G at hr
 refine J g<|J (BX' 0)<|J (BX' 1)<|J (NV' 2)<|J (gn 8)<|J (lenA 4 0)<|fun hl1=>bdE hr fun q1 hqq1 hr=>q0b hqq1 hl1 3 (fun k1 _=>[(2,.pb 0 0),(3,.pb 1 0),(4,.pb 2 0),(6,dI (k1:Int))]) (fun k1 _=>[]) I (fun k1 xk1 sk1 ok1 hxk1 hr hltk1 hik1=>?_) fun k1 sk1 ek1 hltk1=>?_
 refine J g ?_
 refine J (SQ' rfl rfl rfl rfl (q6o xk1.At a1))<|J (gn 1)<|ifE hr ?_ ?_<;>intro h1 hr
 refine bdE hr fun y1 hy1 hr=>J g<|J (CB' [(0,3)] [] (k0L (m:=m) hy1))<|e
 exact e
 subst ek1
 refine J (gn 18) ?_
 refine J (q0c (q0r (q:=2) (c:=6) (r:=3) .fz 7 rfl rfl rfl))<|J g<|E
theorem j3E {m:Md}{a0:Gm_}{a1:Rule}{r:Bool}(hr:z1p a0 a1=some r):Ok Tryz.prog 235 [Gm_.y m a0,Rule.x m a1] [] (dB r) []:=by
 refine OE Tryz.func235 fun S hS=>?_
 unfold z1p at hr
 refine J g<|J (BX' 0)<|J (BX' 1)<|bdE hr fun y1 hy1 hr=>J g<|J (CB' [(0,2)] [] (q5S (m:=m) hy1))<|J (gn 8)<|J (lenR 2)<|fun hl1=>bdE hr fun q1 hqq1 hr=>q0b hqq1 hl1 3 (fun k1 _=>[(3,.pb 1 0),(5,.ref 2 none),(6,dI (k1:Int))]) (fun k1 _=>[]) I (fun k1 xk1 sk1 ok1 hxk1 hr hltk1 hik1=>?_) fun k1 sk1 ek1 hltk1=>?_
 refine bdP hr fun y2 y3 hq2 hr=>J g<|J (CB' [(0,3)] [] (z3p (m:=m) hq2))<|J g<|J (NV' 4)<|J (gn 8)<|ifE hr ?_ ?_<;>intro h1 hr
 exact e
 exact e
 subst ek1
 exact e
theorem q8R {m:Md}{a0:(List Oc)}{a1:Oc}{r:Bool}(hr:q6q a0 a1=some r):Ok Tryz.prog 74 [.d m (.sl 2 (a0.map Oc.D)),Oc.x .fz a1] [] (dB r) []:=by
 refine OE Tryz.func74 fun S hS=>?_
 unfold q6q at hr
 refine J g<|J (BX' 0)<|J (gn 8)<|J (lenT 0)<|fun hl1=>bdE hr fun q1 hqq1 hr=>q0b hqq1 hl1 1 (fun k1 _=>[(0,.d m (.sl 2 (a0.map Oc.D))),(3,.pb 0 0),(5,dI (k1:Int))]) (fun k1 _=>[]) I (fun k1 xk1 sk1 ok1 hxk1 hr hltk1 hik1=>?_) fun k1 sk1 ek1 hltk1=>?_
 refine J g ?_
 refine J (SQ' rfl rfl rfl rfl (q6o xk1 a1))<|J (gn 1)<|ifE hr ?_ ?_<;>intro h1 hr
 exact e
 exact e
 subst ek1
 exact e
theorem j6M {m:Md}{a0:Gm_}{a1:Rule}{r:Bool}(hr:z4j a0 a1=some r):Ok Tryz.prog 236 [Gm_.y m a0,Rule.x m a1] [] (dB r) []:=by
 refine OE Tryz.func236 fun S hS=>?_
 unfold z4j at hr
 refine J g<|J (BX' 0)<|J (BX' 1)<|bdE hr fun y1 hy1 hr=>J g<|J (CB' [(0,2)] [] (q5S (m:=m) hy1))<|J g<|J (L0' 3 Oc.D)<|J (gn 8)<|J (lenA 4 1)<|fun hl1=>bdE hr fun q1 hqq1 hr=>q0b hqq1 hl1 4 (fun k1 s1=>[(3,.pb 1 0),(5,.ref 2 none),(6,.ref 3 none),(7,dI (k1:Int))]) (fun k1 s1=>[(3,.row .fz 2 (s1.map Oc.D))]) I (fun k1 xk1 sk1 ok1 hxk1 hr hltk1 hik1=>?_) fun k1 sk1 ek1 hltk1=>?_
 obtain⟨s1,rfl⟩:∃ y,y=sk1:=⟨_,rfl⟩
 refine J g<|J (NV' 4)<|bdE hr fun y2 hy2 hr=>J g<|J (CB' [] [2] (q8R (m:=.bo) hy2))<|J (gn 1)<|ifE hr ?_ ?_<;>intro h1 hr
 refine bdE hr fun y3 hy3 hr=>J g<|J (CB' [] [3] (q8R (m:=.bo) hy3))<|J (gn 2)<|ifE hr ?_ ?_<;>intro h2 hr
 exact e
 refine J g<|J (LIR' 5 (m:=.fz) (f:=Oc.D) (xs:=[xk1.At]))<|ggE hr fun g1 hr=>J (z3z (f:=Oc.D) 6 (fun _=>rfl) 24 g1)<|e
 exact e
 subst ek1
 obtain⟨s1,rfl⟩:∃ y,y=sk1:=⟨_,rfl⟩
 exact e
theorem j6N {a0:Oc}{a1:Oc}{r:Bool}(hr:z4k a0 a1=some r):Ok Tryz.prog 253 [Oc.x .fz a0,Oc.x .fz a1] [] (dB r) []:=by
 refine OE Tryz.func253 fun S hS=>?_
 unfold z4k at hr
 refine J g<|J (BX' 0)<|J (BX' 1)<|bdE hr fun s1 hqq1 hr=>J (gn 9)<|q0a 14 [(4,dB false),(23,dB s1)] ?_ ?_
 replace hr:=hqq1
 refine ifE hr ?_ ?_<;>intro h1 hr
 exact e
 refine bdE hr fun s2 hqq2 hr=>J (gn 6)<|q0a 7 [(4,dB false),(10,dB false),(22,dB s2)] ?_ ?_
 replace hr:=hqq2
 refine ifE hr ?_ ?_<;>intro h2 hr
 exact e
 exact e
 exact e
 exact e
theorem k2e {m:Md}{a0:(List Oc)}{a1:Oc}{r:(List Oc)}(hr:z9c a0 a1=some r):Ok Tryz.prog 213 [.d m (.sl 2 (a0.map Oc.D)),Oc.x .fz a1] [] (.d m (.sl 2 (r.map Oc.D))) []:=by
 refine OE Tryz.func213 fun S hS=>?_
 unfold z9c at hr
 refine J g<|J (BX' 0)<|bdE hr fun s1 hqq1 hr=>J (gn 7)<|q0d 1 [(0,.d m (.sl 2 (a0.map Oc.D))),(3,.pb 0 0),(5,dI s1)] [] ?_ ?_
 refine J g<|q0l hqq1 1 (fun s2=>[(0,.d m (.sl 2 (a0.map Oc.D))),(3,.pb 0 0),(5,dI s2)]) (fun s2=>[]) I fun sk1 ok1 hr hik1=>?_
 obtain⟨s2,rfl⟩:∃ y,y=sk1:=⟨_,rfl⟩
 have hr:=hr
 refine J (gn 7)<|ifE hr ?_ ?_<;>intro h1 hr
 refine ggE hr fun g1 hr=>bdE hr fun x1 hx1 hr=>bdE hr fun y1 hy1 hr=>J g<|J (CB' [] [] (j6N hy1))<|J (gn 2)<|ifE hr ?_ ?_<;>intro h2 hr
 refine ggE hr fun g2 hr=>e
 refine J (gn 2) ?_
 cases hr
 cases hik1 _ rfl
 exact q0i hS 1
 refine J (gn 11) ?_
 cases hr
 cases hik1 _ rfl
 exact q0i hS 1
 refine J (gn 7)<|ifE hr ?_ ?_<;>intro h3 hr
 refine ggE hr fun g3 hr=>bdE hr fun x2 hx2 hr=>J g ?_
 refine J (SQ' rfl rfl rfl rfl (q6o x2 a1))<|J (gn 2)<|ifE hr ?_ ?_<;>intro h4 hr
 exact e
 refine J g<|J (L0' 1 Oc.D)<|ggE hr fun g4 hr=>ggE hr fun g5 hr=>J g<|J (SLH' g4 g5)<|ggE hr fun g6 hr=>J (j4Z (f:=Oc.D) 2 24 (fun _=>rfl) g6)<|J g<|J (LIR' 3 (m:=.fz) (f:=Oc.D) (xs:=[a1]))<|ggE hr fun g7 hr=>J (z3z (f:=Oc.D) 4 (fun _=>rfl) 24 g7)<|ggE hr fun g8 hr=>ggE hr fun g9 hr=>J g<|J (SLL' g8 g9)<|ggE hr fun g10 hr=>J (j4Z (f:=Oc.D) 5 24 (fun _=>rfl) g10)<|J (gn 3) ?_
 refine J (q0c (q0v (r:=5) rfl)) ?_
 cases hr
 exact endA.ren [] 0 (.inr rfl) hS rfl rfl rfl (.md rfl) rfl rfl
 refine J g<|J (L0' 1 Oc.D)<|ggE hr fun g11 hr=>ggE hr fun g12 hr=>J g<|J (SLH' g11 g12)<|ggE hr fun g13 hr=>J (j4Z (f:=Oc.D) 2 24 (fun _=>rfl) g13)<|J g<|J (LIR' 3 (m:=.fz) (f:=Oc.D) (xs:=[a1]))<|ggE hr fun g14 hr=>J (z3z (f:=Oc.D) 4 (fun _=>rfl) 24 g14)<|ggE hr fun g15 hr=>ggE hr fun g16 hr=>J g<|J (SLL' g15 g16)<|ggE hr fun g17 hr=>J (j4Z (f:=Oc.D) 5 24 (fun _=>rfl) g17)<|J (gn 3) ?_
 refine J (q0c (q0v (r:=5) rfl)) ?_
 cases hr
 exact endA.ren [] 0 (.inr rfl) hS rfl rfl rfl (.md rfl) rfl rfl
theorem j8f {Rc7:Expr→(List Oc)→Option (List Oc)}(Ic7:∀ {m:Md} {a0:Expr} {a1:(List Oc)} {r:(List Oc)},Rc7 a0 a1=some r→Ok Tryz.prog 172 [Expr.x m a0,.d m (.sl 2 (a1.map Oc.D))] [] (.d m (.sl 2 (r.map Oc.D))) []){m:Md}{a0:Expr}{a1:(List Oc)}{r:(List Oc)}(hr:z2T Rc7 a0 a1=some r):Ok Tryz.prog 172 [Expr.x m a0,.d m (.sl 2 (a1.map Oc.D))] [] (.d m (.sl 2 (r.map Oc.D))) []:=by
 refine OE Tryz.func172 fun S hS=>?_
 unfold z2T at hr
 refine J g<|J (BX' 0)<|J (gn 9)<|ifE hr ?_ ?_<;>intro h1 hr
 refine bdE hr fun y1 hy1 hr=>J g<|J (CB' [] [] (k2e (m:=m) hy1))<|J (gn 8)<|J (lenA 6 0)<|fun hl1=>bdE hr fun s1 hqq1 hr=>q0f hqq1 hl1 1 (fun k1 s1=>[(1,.d m (.sl 2 (s1.map Oc.D))),(2,.pb 0 0),(5,dI (k1:Int))]) (fun k1 s1=>[]) I (fun k1 xk1 sk1 ok1 hxk1 hr hltk1=>?_) fun k1 hltk1=>?_
 obtain⟨s1,rfl⟩:∃ y,y=sk1:=⟨_,rfl⟩
 refine bdE hr fun y2 hy2 hr=>J g<|J (CB' [] [] (Ic7 (m:=m) hy2))<|e
 exact e
 refine J (gn 8)<|J (lenA 6 0)<|fun hl2=>bdE hr fun s2 hqq2 hr=>q0f hqq2 hl2 1 (fun k2 s2=>[(1,.d m (.sl 2 (s2.map Oc.D))),(2,.pb 0 0),(5,dI (k2:Int))]) (fun k2 s2=>[]) I (fun k2 xk2 sk2 ok2 hxk2 hr hltk2=>?_) fun k2 hltk2=>?_
 obtain⟨s2,rfl⟩:∃ y,y=sk2:=⟨_,rfl⟩
 refine bdE hr fun y3 hy3 hr=>J g<|J (CB' [] [] (Ic7 (m:=m) hy3))<|e
 exact e
theorem j8g (n:Nat):∀ {m:Md} {a0:Expr} {a1:(List Oc)} {r:(List Oc)},q8m n a0 a1=some r→Ok Tryz.prog 172 [Expr.x m a0,.d m (.sl 2 (a1.map Oc.D))] [] (.d m (.sl 2 (r.map Oc.D))) []:=by
  induction n with
  | zero=>intro _ _ _ r hr;exact nomatch (show (none:Option (List Oc))=some r from hr)
  | succ n ih=>intro _ _ _ r hr;exact j8f ih hr
theorem k0M {m:Md}{a0:Expr}{a1:(List Oc)}{r:(List Oc)}(hr:j2g a0 a1=some r):Ok Tryz.prog 172 [Expr.x m a0,.d m (.sl 2 (a1.map Oc.D))] [] (.d m (.sl 2 (r.map Oc.D))) []:=by
 obtain⟨n,hn⟩:=q6U hr
 exact j8g n hn
theorem z2m {m:Md}{a0:Expr}{r:(List Oc)}(hr:q6A a0=some r):Ok Tryz.prog 121 [Expr.x m a0] [] (.d m (.sl 2 (r.map Oc.D))) []:=by
 refine OE Tryz.func121 fun S hS=>?_
 unfold q6A at hr
 refine J g<|J (BX' 0)<|J g<|J (L0' 1 Oc.D) ?_
 refine J (q0x 1 rfl)<|bdE hr fun y1 hy1 hr=>J (CB' [] [] (k0M (m:=m) hy1))<|J g<|E
theorem k0N {m:Md}{a0:Gm_}{a1:Rule}{a2:Oc}{r:Bool}(hr:z7i a0 a1 a2=some r):Ok Tryz.prog 281 [Gm_.y m a0,Rule.x m a1,Oc.x .fz a2] [] (dB r) []:=by
 refine OE Tryz.func281 fun S hS=>?_
 unfold z7i at hr
 refine J g<|J (BX' 0)<|J (BX' 1)<|J (BX' 2)<|bdE hr fun y1 hy1 hr=>J g<|J (CB' [] [] (q5R hy1))<|J (gn 2)<|ifE hr ?_ ?_<;>intro h1 hr
 refine bdE hr fun y2 hy2 hr=>J g<|J (CB' [] [] (q7E (m:=m) hy2))<|bdP hr fun y3 y4 hq1 hr=>J (CB' [(0,3)] [] (q7F (m:=m) hq1))<|J g<|J (NV' 4)<|bdP hr fun y5 y6 hq2 hr=>J g<|J (CB' [] [3] (z0f (m:=.bo) hq2))<|J g<|J (NV' 5)<|J (gn 10)<|ifE hr ?_ ?_<;>intro h2 hr
 refine bdE hr fun s1 hqq3 hr=>J (gn 4)<|q0a 5 [(6,dB false),(42,dB s1)] ?_ ?_
 replace hr:=hqq3
 refine ifE hr ?_ ?_<;>intro h3 hr
 exact e
 exact e
 exact e
 refine bdE hr fun s2 hqq4 hr=>J (gn 5)<|q0a 5 [(6,dB false),(48,dB s2)] ?_ ?_
 replace hr:=hqq4
 refine ifE hr ?_ ?_<;>intro h4 hr
 exact e
 exact e
 exact e
 exact e
theorem z8y {m:Md}{a0:Gm_}{a1:Rule}{a2:Expr}{r:Bool}(hr:z1W a0 a1 a2=some r):Ok Tryz.prog 265 [Gm_.y m a0,Rule.x m a1,Expr.x m a2] [] (dB r) []:=by
 refine OE Tryz.func265 fun S hS=>?_
 unfold z1W at hr
 refine J g<|J (BX' 0)<|J (BX' 1)<|J (BX' 2)<|bdE hr fun y1 hy1 hr=>J g<|J (CB' [] [] (z2m (m:=m) hy1))<|J (gn 8)<|J (lenT 7)<|fun hl1=>bdE hr fun q1 hqq1 hr=>q0b hqq1 hl1 3 (fun k1 _=>[(3,.pb 0 0),(4,.pb 1 0),(7,.d m (.sl 2 (y1.map Oc.D))),(8,dI (k1:Int))]) (fun k1 _=>[]) I (fun k1 xk1 sk1 ok1 hxk1 hr hltk1 hik1=>?_) fun k1 sk1 ek1 hltk1=>?_
 refine bdE hr fun y2 hy2 hr=>J g<|J (CB' [] [] (k0N (m:=m) hy2))<|J (gn 2)<|ifE hr ?_ ?_<;>intro h1 hr
 exact e
 exact e
 subst ek1
 exact e
theorem j5h {m:Md}{a0:Gm_}{a1:Rule}{r:Bool}(hr:z2U a0 a1=some r):Ok Tryz.prog 237 [Gm_.y m a0,Rule.x m a1] [] (dB r) []:=by
 refine OE Tryz.func237 fun S hS=>?_
 unfold z2U at hr
 refine J g<|J (BX' 0)<|J (BX' 1)<|J (gn 8)<|J (lenA 4 1)<|fun hl1=>bdE hr fun q1 hqq1 hr=>q0b hqq1 hl1 2 (fun k1 _=>[(2,.pb 0 0),(3,.pb 1 0),(5,dI (k1:Int))]) (fun k1 _=>[]) I (fun k1 xk1 sk1 ok1 hxk1 hr hltk1 hik1=>?_) fun k1 sk1 ek1 hltk1=>?_
 refine bdE hr fun y1 hy1 hr=>J g<|J (CB' [] [] (z8y (m:=m) hy1))<|J (gn 2)<|ifE hr ?_ ?_<;>intro h1 hr
 exact e
 exact e
 subst ek1
 refine J (gn 17) ?_
 refine AW.len (.box 1 5 rfl rfl) fun hl2=>?_
 refine bdE hr fun q2 hqq2 hr=>q0b hqq2 hl2 2 (fun k2 _=>[(2,.pb 0 0),(3,.pb 1 0),(6,dI (k2:Int))]) (fun k2 _=>[]) I (fun k2 xk2 sk2 ok2 hxk2 hr hltk2 hik2=>?_) fun k2 sk2 ek2 hltk2=>?_
 refine bdE hr fun y2 hy2 hr=>J g<|J (CB' [] [] (z8y (m:=m) hy2))<|J (gn 1)<|ifE hr ?_ ?_<;>intro h2 hr
 refine bdE hr fun y3 hy3 hr=>J g<|J (CB' [] [] (z8y (m:=m) hy3))<|J (gn 3)<|ifE hr ?_ ?_<;>intro h3 hr
 exact e
 exact e
 exact e
 subst ek2
 exact e
theorem j5i {m:Md}{a0:Gm_}{a1:Rule}{a2:Int}{r:Bool}(hr:z2V a0 a1 a2=some r):Ok Tryz.prog 204 [Gm_.y m a0,Rule.x m a1,dI a2] [] (dB r) []:=by
 refine OE Tryz.func204 fun S hS=>?_
 unfold z2V at hr
 refine J g<|J (BX' 0)<|J (BX' 1)<|J (gn 13)<|ifE hr ?_ ?_<;>intro h1 hr
 refine bdE hr fun y1 hy1 hr=>J g<|J (CB' [] [] (j3D (m:=m) hy1))<|e
 refine J (gn 6)<|ifE hr ?_ ?_<;>intro h2 hr
 refine bdE hr fun y2 hy2 hr=>J g<|J (CB' [] [] (j3E (m:=m) hy2))<|e
 refine J (gn 6)<|ifE hr ?_ ?_<;>intro h3 hr
 refine bdE hr fun y3 hy3 hr=>J g<|J (CB' [] [] (j6M (m:=m) hy3))<|e
 refine bdE hr fun y4 hy4 hr=>J g<|J (CB' [] [] (j5h (m:=m) hy4))<|e
theorem j3F {m:Md}{a0:Gm_}{r:(Int×Int)}(hr:z1q a0=some r):Ok Tryz.prog 162 [Gm_.x m a0] [] (.tu [dI r.1,dI r.2]) []:=by
 refine OE Tryz.func162 fun S hS=>?_
 unfold z1q at hr
 refine J g<|J (BX' 0)<|bdE hr fun y1 hy1 hr=>J g<|J (CB' [] [] (q5R hy1))<|J (gn 1)<|ifE hr ?_ ?_<;>intro h1 hr
 refine bdE hr fun y2 hy2 hr=>J g<|J (CB' [] [] (q5R hy2))<|J (gn 3)<|ifE hr ?_ ?_<;>intro h2 hr
 refine bdE hr fun y3 hy3 hr=>J g<|J (CB' [] [] (k0K (m:=m) hy3))<|J (gn 8)<|ifE hr ?_ ?_<;>intro h3 hr
 exact e
 refine bdE hr fun x1 hx1 hr=>J (gn 8) ?_
 refine AW.len (.el 1 (.ag 0 (.tmp 0 rfl) rfl) hx1 rfl) fun hl1=>?_
 refine bdE hr fun q1 hqq1 hr=>q0b hqq1 hl1 1 (fun k1 _=>[(1,.pb 0 0),(5,dI (k1:Int))]) (fun k1 _=>[]) I (fun k1 xk1 sk1 ok1 hxk1 hr hltk1 hik1=>?_) fun k1 sk1 ek1 hltk1=>?_
 refine J (gn 29)<|ifE hr ?_ ?_<;>intro h4 hr
 exact e
 exact e
 subst ek1
 refine bdE hr fun q2 hqq2 hr=>J (gn 19)<|AW.cut 1 (fun _=>[]) (fun _=>[]) (M:=fun x=>q2=.inl x) ?_ fun x hx=>?_
 refine J g<|q0l hqq2 1 (fun s1=>[(1,.pb 0 0),(6,dI s1)]) (fun s1=>[]) I fun sk2 ok2 hr hik2=>?_
 obtain⟨s1,rfl⟩:∃ y,y=sk2:=⟨_,rfl⟩
 have hr:=hr
 refine J (gn 6)<|ifE hr ?_ ?_<;>intro h5 hr
 refine J (gn 9) ?_
 refine AW.len (.box 0 1 rfl rfl) fun hl3=>?_
 refine bdE hr fun q3 hqq3 hr=>q0b hqq3 hl3 1 (fun k3 _=>[(1,.pb 0 0),(6,dI s1),(7,dI (k3:Int))]) (fun k3 _=>[]) I (fun k3 xk3 sk3 ok3 hxk3 hr hltk3 hik3=>?_) fun k3 sk3 ek3 hltk3=>?_
 refine bdE hr fun y4 hy4 hr=>J g<|J (CB' [] [] (j5i (m:=m) hy4))<|J (gn 1)<|ifE hr ?_ ?_<;>intro h6 hr
 exact e
 exact e
 subst ek3
 refine ggE hr fun g1 hr=>e
 refine J (gn 2) ?_
 cases hr
 cases hik2 _ rfl
 exact⟨_,rfl,q0i hS 1⟩
 subst hx
 exact e
 exact e
 exact e
theorem z3q {m:Md}{a0:Gm_}{a1:ByteArray}{a2:ByteArray}{r:Int}(hr:q7R a0 a1 a2=some r):Ok Tryz.prog 206 [Gm_.y m a0,dS a1,dS a2] [] (dI r) []:=by
 refine OE Tryz.func206 fun S hS=>?_
 unfold q7R at hr
 refine J g<|J (BX' 0)<|bdP hr fun y1 y2 hq1 hr=>J g<|J (CB' [(0,1)] [] (q7F (m:=m) hq1))<|J g<|J (NV' 2)<|bdP hr fun y3 y4 hq2 hr=>J g<|J (CB' [] [1] (z0f (m:=.bo) hq2))<|J g<|J (NV' 3)<|J (gn 9)<|ifE hr ?_ ?_<;>intro h1 hr
 exact e
 exact e
theorem k2f {Rc8:Gm_→Rule→Expr→Option Int}(Ic8:∀ {m:Md} {a0:Gm_} {a1:Rule} {a2:Expr} {r:Int},Rc8 a0 a1 a2=some r→Ok Tryz.prog 205 [Gm_.y m a0,Rule.x m a1,Expr.x m a2] [] (dI r) []){m:Md}{a0:Gm_}{a1:Rule}{a2:Expr}{r:Int}(hr:j1s Rc8 a0 a1 a2=some r):Ok Tryz.prog 238 [Gm_.y m a0,Rule.x m a1,Expr.x m a2] [] (dI r) []:=by
 refine OE Tryz.func238 fun S hS=>?_
 unfold j1s at hr
 refine J g<|J (BX' 0)<|J (BX' 1)<|J (BX' 2)<|bdT hr fun y1 y2 y3 hq1 hr=>J g<|J (CB' [] [] (q7l hq1))<|J (gn 15)<|ifE hr ?_ ?_<;>intro h1 hr
 refine bdE hr fun x1 hx1 hr=>bdE hr fun y4 hy4 hr=>J g<|J (CB' [] [] (Ic8 (m:=m) hy4))<|J (gn 3)<|ifE hr ?_ ?_<;>intro h2 hr
 refine bdE hr fun x2 hx2 hr=>bdE hr fun y5 hy5 hr=>J g<|J (CB' [] [] (Ic8 (m:=m) hy5))<|J (gn 4)<|ifE hr ?_ ?_<;>intro h3 hr
 exact e
 exact e
 exact e
 exact e
theorem k2g {Rc8:Gm_→Rule→Expr→Option Int}(Ic8:∀ {m:Md} {a0:Gm_} {a1:Rule} {a2:Expr} {r:Int},Rc8 a0 a1 a2=some r→Ok Tryz.prog 205 [Gm_.y m a0,Rule.x m a1,Expr.x m a2] [] (dI r) []){m:Md}{a0:Gm_}{a1:Rule}{a2:Expr}{r:Int}(hr:j1t Rc8 a0 a1 a2=some r):Ok Tryz.prog 239 [Gm_.y m a0,Rule.x m a1,Expr.x m a2] [] (dI r) []:=by
 refine OE Tryz.func239 fun S hS=>?_
 unfold j1t at hr
 refine J g<|J (BX' 0)<|J (BX' 1)<|J (BX' 2)<|J (gn 9)<|ifE hr ?_ ?_<;>intro h1 hr
 refine bdE hr fun x1 hx1 hr=>bdE hr fun y1 hy1 hr=>J g<|J (CB' [] [] (Ic8 (m:=m) hy1))<|J (gn 3)<|ifE hr ?_ ?_<;>intro h2 hr
 refine bdE hr fun x2 hx2 hr=>bdE hr fun y2 hy2 hr=>J g<|J (CB' [] [] (Ic8 (m:=m) hy2))<|bdE hr fun x3 hx3 hr=>bdE hr fun y3 hy3 hr=>J g<|J (CB' [] [] (Ic8 (m:=m) hy3))<|J (gn 2)<|ifE hr ?_ ?_<;>intro h3 hr
 exact e
 exact e
 exact e
 exact e
theorem j2r {Rc8:Gm_→Rule→Expr→Option Int}(Ic8:∀ {m:Md} {a0:Gm_} {a1:Rule} {a2:Expr} {r:Int},Rc8 a0 a1 a2=some r→Ok Tryz.prog 205 [Gm_.y m a0,Rule.x m a1,Expr.x m a2] [] (dI r) []){m:Md}{a0:Gm_}{a1:Rule}{a2:Expr}{r:Int}(hr:z1r Rc8 a0 a1 a2=some r):Ok Tryz.prog 205 [Gm_.y m a0,Rule.x m a1,Expr.x m a2] [] (dI r) []:=by
 refine OE Tryz.func205 fun S hS=>?_
 unfold z1r at hr
 refine J g<|J (BX' 0)<|J (BX' 1)<|J (BX' 2)<|J (gn 14)<|ifE hr ?_ ?_<;>intro h1 hr
 exact e
 refine J (gn 6)<|ifE hr ?_ ?_<;>intro h2 hr
 refine J (gn 6)<|ifE hr ?_ ?_<;>intro h3 hr
 exact e
 exact e
 refine J (gn 6)<|ifE hr ?_ ?_<;>intro h4 hr
 refine bdE hr fun y1 hy1 hr=>J g<|J (CB' [] [] (q5R hy1))<|J (gn 1)<|ifE hr ?_ ?_<;>intro h5 hr
 refine bdE hr fun y2 hy2 hr=>J g<|J (CB' [] [] (q7E (m:=m) hy2))<|bdE hr fun y3 hy3 hr=>J g<|J (CB' [] [] (z3q (m:=m) hy3))<|e
 exact e
 refine J (gn 6)<|ifE hr ?_ ?_<;>intro h6 hr
 refine bdE hr fun y4 hy4 hr=>J g<|J (CB' [] [] (k2f Ic8 (m:=m) hy4))<|e
 refine J (gn 6)<|ifE hr ?_ ?_<;>intro h7 hr
 refine bdE hr fun y5 hy5 hr=>J g<|J (CB' [] [] (k2g Ic8 (m:=m) hy5))<|e
 refine J (gn 6)<|ifE hr ?_ ?_<;>intro h8 hr
 refine bdE hr fun y6 hy6 hr=>J g<|J (CB' [] [] (q5R hy6))<|J (gn 1)<|ifE hr ?_ ?_<;>intro h9 hr
 exact e
 exact e
 refine J (gn 6)<|ifE hr ?_ ?_<;>intro h10 hr
 exact e
 refine J (gn 6)<|ifE hr ?_ ?_<;>intro h11 hr
 refine J (gn 7)<|ifE hr ?_ ?_<;>intro h12 hr
 refine bdE hr fun x1 hx1 hr=>bdE hr fun y7 hy7 hr=>J g<|J (CB' [] [] (Ic8 (m:=m) hy7))<|J (gn 3)<|ifE hr ?_ ?_<;>intro h13 hr
 refine bdE hr fun y8 hy8 hr=>J g<|J (CB' [] [] (z3q (m:=m) hy8))<|e
 exact e
 exact e
 exact e
theorem j2s (n:Nat):∀ {m:Md} {a0:Gm_} {a1:Rule} {a2:Expr} {r:Int},q9Z n a0 a1 a2=some r→Ok Tryz.prog 205 [Gm_.y m a0,Rule.x m a1,Expr.x m a2] [] (dI r) []:=by
  induction n with
  | zero=>intro _ _ _ _ r hr;exact nomatch (show (none:Option Int)=some r from hr)
  | succ n ih=>intro _ _ _ _ r hr;exact j2r ih hr
theorem z5f {m:Md}{a0:Gm_}{a1:Rule}{a2:Expr}{r:Int}(hr:z1s a0 a1 a2=some r):Ok Tryz.prog 205 [Gm_.y m a0,Rule.x m a1,Expr.x m a2] [] (dI r) []:=by
 obtain⟨n,hn⟩:=q6U hr
 exact j2s n hn
theorem j8h {m:Md}{a0:Gm_}{a1:Rule}{r:Bool}(hr:z5r a0 a1=some r):Ok Tryz.prog 163 [Gm_.y m a0,Rule.x m a1] [] (dB r) []:=by
 refine OE Tryz.func163 fun S hS=>?_
 unfold z5r at hr
 refine J g<|J (BX' 0)<|J (BX' 1)<|J (gn 8)<|J (lenA 4 1)<|fun hl1=>bdE hr fun q1 hqq1 hr=>q0b hqq1 hl1 2 (fun k1 _=>[(2,.pb 0 0),(3,.pb 1 0),(5,dI (k1:Int))]) (fun k1 _=>[]) I (fun k1 xk1 sk1 ok1 hxk1 hr hltk1 hik1=>?_) fun k1 sk1 ek1 hltk1=>?_
 refine J g<|J (NV' 2)<|bdE hr fun y1 hy1 hr=>J g<|J (CB' [] [] (z5f (m:=m) hy1))<|bdE hr fun y2 hy2 hr=>J g<|J (CB' [] [] (q7E (m:=m) hy2))<|bdE hr fun y3 hy3 hr=>J g<|J (CB' [] [] (z3q (m:=m) hy3))<|J (gn 2)<|ifE hr ?_ ?_<;>intro h1 hr
 exact e
 exact e
 subst ek1
 refine J (gn 17) ?_
 refine AW.len (.box 1 5 rfl rfl) fun hl2=>?_
 refine bdE hr fun q2 hqq2 hr=>q0b hqq2 hl2 2 (fun k2 _=>[(2,.pb 0 0),(3,.pb 1 0),(7,dI (k2:Int))]) (fun k2 _=>[]) I (fun k2 xk2 sk2 ok2 hxk2 hr hltk2 hik2=>?_) fun k2 sk2 ek2 hltk2=>?_
 refine J g<|J (NV' 2)<|bdP hr fun y4 y5 hq3 hr=>J g<|J (CB' [(0,3)] [] (q7F (m:=m) hq3))<|J g<|J (NV' 4)<|bdP hr fun y6 y7 hq4 hr=>J g<|J (CB' [] [3] (z0f (m:=.bo) hq4))<|J g<|J (NV' 5)<|bdE hr fun s1 hqq5 hr=>J (gn 7)<|q0a 5 [(2,.pb 0 0),(3,.pb 1 0),(7,dI (k2:Int)),(8,.pb 2 0),(73,dB s1)] ?_ ?_
 replace hr:=hqq5
 refine ifE hr ?_ ?_<;>intro h2 hr
 exact e
 exact e
 refine bdE hr fun s2 hqq6 hr=>q0a 8 [(2,.pb 0 0),(3,.pb 1 0),(7,dI (k2:Int)),(8,.pb 2 0),(81,dB s2)] ?_ ?_
 replace hr:=hqq6
 refine ifE hr ?_ ?_<;>intro h3 hr
 exact e
 refine bdE hr fun y8 hy8 hr=>J g<|J (CB' [] [] (z5f (m:=m) hy8))<|e
 refine bdE hr fun s3 hqq7 hr=>q0a 8 [(2,.pb 0 0),(3,.pb 1 0),(7,dI (k2:Int)),(89,dB s3)] ?_ ?_
 replace hr:=hqq7
 refine ifE hr ?_ ?_<;>intro h4 hr
 exact e
 refine bdE hr fun y9 hy9 hr=>J g<|J (CB' [] [] (z5f (m:=m) hy9))<|e
 refine J (gn 1)<|ifE hr ?_ ?_<;>intro h5 hr
 exact e
 exact e
 subst ek2
 exact e
theorem z7v {m:Md}{a0:Gm_}{a1:ByteArray}{r:Int}(hr:z0a a0 a1=some r):Ok Tryz.prog 72 [Gm_.y m a0,dS a1] [] (dI r) []:=by
 refine OE Tryz.func72 fun S hS=>?_
 unfold z0a at hr
 refine J g<|J (BX' 0)<|J (gn 8)<|J (lenA 0 0)<|fun hl1=>bdE hr fun q1 hqq1 hr=>q0b hqq1 hl1 1 (fun k1 _=>[(1,dS a1),(2,.pb 0 0),(5,dI (k1:Int))]) (fun k1 _=>[]) I (fun k1 xk1 sk1 ok1 hxk1 hr hltk1 hik1=>?_) fun k1 sk1 ek1 hltk1=>?_
 refine J (gn 24)<|ifE hr ?_ ?_<;>intro h1 hr
 exact e
 exact e
 subst ek1
 exact e
theorem j3G {m:Md}{a0:Gm_}{a1:ByteArray}{a2:(List Int)}{r:Bool}(hr:z1t a0 a1 a2=some r):Ok Tryz.prog 266 [Gm_.x m a0,dS a1,.d m (.sl 1 (a2.map (A.D.i .i64)))] [] (dB r) []:=by
 refine OE Tryz.func266 fun S hS=>?_
 unfold z1t at hr
 refine J g<|J (BX' 0)<|J (gn 8)<|J (lenA 1 0)<|fun hl1=>bdE hr fun q1 hqq1 hr=>q0b hqq1 hl1 1 (fun k1 _=>[(1,dS a1),(2,.d m (.sl 1 (a2.map (A.D.i .i64)))),(3,.pb 0 0),(7,dI (k1:Int))]) (fun k1 _=>[]) I (fun k1 xk1 sk1 ok1 hxk1 hr hltk1 hik1=>?_) fun k1 sk1 ek1 hltk1=>?_
 refine J g<|J (NV' 1)<|J (gn 16)<|J (lenA 2 23)<|fun hl2=>bdE hr fun s1 hqq2 hr=>q0f hqq2 hl2 2 (fun k2 s1=>[(1,dS a1),(2,.d m (.sl 1 (a2.map (A.D.i .i64)))),(3,.pb 0 0),(7,dI (k1:Int)),(8,.pb 1 0),(9,dB s1),(10,dI (k2:Int))]) (fun k2 s1=>[]) I (fun k2 xk2 sk2 ok2 hxk2 hr hltk2=>?_) fun k2 hltk2=>?_
 obtain⟨s1,rfl⟩:∃ y,y=sk2:=⟨_,rfl⟩
 refine bdE hr fun y1 hy1 hr=>J g<|J (CB' [] [] (z7v (m:=m) hy1))<|bdE hr fun s2 hqq3 hr=>J (gn 4)<|q0a 4 [(1,dS a1),(2,.d m (.sl 1 (a2.map (A.D.i .i64)))),(3,.pb 0 0),(7,dI (k1:Int)),(8,.pb 1 0),(9,dB s1),(10,dI (k2:Int)),(11,dI y1),(46,dB s2)] ?_ ?_
 replace hr:=hqq3
 refine ifE hr ?_ ?_<;>intro h1 hr
 exact e
 exact e
 refine bdE hr fun s3 hqq4 hr=>q0a 8 [(1,dS a1),(2,.d m (.sl 1 (a2.map (A.D.i .i64)))),(3,.pb 0 0),(7,dI (k1:Int)),(8,.pb 1 0),(9,dB s1),(10,dI (k2:Int)),(54,dB s3)] ?_ ?_
 replace hr:=hqq4
 refine ifE hr ?_ ?_<;>intro h2 hr
 refine bdE hr fun y2 hy2 hr=>J g<|J (CB' [] [] (z9l hy2))<|ggE hr fun g1 hr=>bdE hr fun x1 hx1 hr=>e
 exact e
 exact e
 refine J (gn 15)<|ifE hr ?_ ?_<;>intro h3 hr
 exact e
 exact e
 subst ek1
 exact e
theorem j3H {m:Md}{a0:Gm_}{r:(List Int)}(hr:z1u a0=some r):Ok Tryz.prog 240 [Gm_.x m a0] [] (.ref 0 none) [.row .fz 1 (r.map (A.D.i .i64))]:=by
 refine OE Tryz.func240 fun S hS=>?_
 unfold z1u at hr
 refine J g<|J (BX' 0)<|ggE hr fun g1 hr=>J g<|J (MKR' 1 (f:=(A.D.i .i64)) (0:Int) g1.1 g1.2.1 g1.2.2)<|bdE hr fun s1 hqq1 hr=>J (gn 7)<|q0d 2 [(3,.ref 1 none)] [(1,.row .fz 1 (s1.map (A.D.i .i64)))] ?_ ?_
 refine J g<|q0l hqq1 2 (fun (s2,s3)=>[(1,.pb 0 0),(3,.ref 1 none),(4,dI s3)]) (fun (s2,s3)=>[(1,.row .fz 1 (s2.map (A.D.i .i64)))]) I fun sk1 ok1 hr hik1=>?_
 obtain⟨s2,s3⟩:=sk1
 have hr:=hr
 refine J (gn 9)<|ifE hr ?_ ?_<;>intro h1 hr
 refine J g<|J (L0' 2 (A.D.i .i64))<|ggE hr fun g2 hr=>J g<|J (j4Z (f:=(A.D.i .i64)) 3 8 (fun _=>rfl) g2)<|J (gn 8)<|J (lenT 13)<|fun hl2=>bdE hr fun s4 hqq2 hr=>q0f hqq2 hl2 4 (fun k2 s4=>[(1,.pb 0 0),(3,.ref 1 none),(4,dI s3),(5,.ref 3 none),(6,dI (k2:Int))]) (fun k2 s4=>[(2,.none),(3,.row .fz 1 (s4.map (A.D.i .i64)))]) I (fun k2 xk2 sk2 ok2 hxk2 hr hltk2=>?_) fun k2 hltk2=>?_
 obtain⟨s4,rfl⟩:∃ y,y=sk2:=⟨_,rfl⟩
 refine bdE hr fun s5 hqq3 hr=>J (gn 12)<|q0d 4 [(1,.pb 0 0),(3,.ref 1 none),(4,dI s3),(5,.ref 3 none),(6,dI (k2:Int))] [(3,.row .fz 1 (s5.map (A.D.i .i64)))] ?_ ?_
 replace hr:=hqq3
 refine bdE hr fun x1 hx1 hr=>J (gn 8)<|ifE hr ?_ ?_<;>intro h2 hr
 refine bdE hr fun y1 hy1 hr=>J g<|J (CB' [] [1] (j3G (m:=.bo) hy1))<|J (gn 2)<|ifE hr ?_ ?_<;>intro h3 hr
 refine bdE hr fun x2 hx2 hr=>J g<|J (SE' s3 hx2)<|e
 exact e
 exact e
 exact e
 refine ggE hr fun g3 hr=>e
 refine J (gn 2) ?_
 cases hr
 cases hik1 _ rfl
 exact q0i hS 2
 exact e
theorem j5j {m:Md}{a0:Gm_}{a1:ByteArray}{r:Int}(hr:z4O a0 a1=some r):Ok Tryz.prog 207 [Gm_.x m a0,dS a1] [] (dI r) []:=by
 refine OE Tryz.func207 fun S hS=>?_
 unfold z4O at hr
 refine J g<|J (BX' 0)<|bdE hr fun y1 hy1 hr=>J g<|J (CB' [] [] (z7v (m:=m) hy1))<|J (gn 8)<|ifE hr ?_ ?_<;>intro h1 hr
 exact e
 refine bdE hr fun y2 hy2 hr=>J g<|J (CB' [(0,1)] [] (j3H (m:=m) hy2))<|ggE hr fun g1 hr=>bdE hr fun x1 hx1 hr=>e
theorem j0X {m:Md}{a0:Gm_}{a1:ByteArray}{r:Bool}(hr:q9Q a0 a1=some r):Ok Tryz.prog 164 [Gm_.x m a0,dS a1] [] (dB r) []:=by
 refine OE Tryz.func164 fun S hS=>?_
 unfold q9Q at hr
 refine J g<|J (BX' 0)<|bdE hr fun y1 hy1 hr=>J g<|J (CB' [] [] (j5j (m:=m) hy1))<|e
theorem j0Y {m:Md}{a0:Gm_}{r:(Int×Int)}(hr:q9R a0=some r):Ok Tryz.prog 109 [Gm_.x m a0] [] (.tu [dI r.1,dI r.2]) []:=by
 refine OE Tryz.func109 fun S hS=>?_
 unfold q9R at hr
 refine J g<|J (BX' 0)<|bdP hr fun y1 y2 hq1 hr=>J g<|J (CB' [] [] (j3F (m:=m) hq1))<|J (gn 12)<|ifE hr ?_ ?_<;>intro h1 hr
 refine J (gn 8)<|J (lenA 1 0)<|fun hl1=>bdE hr fun q2 hqq2 hr=>q0b hqq2 hl1 1 (fun k1 _=>[(1,.pb 0 0),(6,dI (k1:Int))]) (fun k1 _=>[]) I (fun k1 xk1 sk1 ok1 hxk1 hr hltk1 hik1=>?_) fun k1 sk1 ek1 hltk1=>?_
 refine bdE hr fun y3 hy3 hr=>J g<|J (CB' [] [] (j8h (m:=m) hy3))<|J (gn 2)<|ifE hr ?_ ?_<;>intro h2 hr
 exact e
 exact e
 subst ek1
 refine J (gn 17) ?_
 refine AW.len (.box 0 0 rfl rfl) fun hl2=>?_
 refine bdE hr fun q3 hqq3 hr=>q0b hqq3 hl2 1 (fun k2 _=>[(1,.pb 0 0),(7,dI (k2:Int))]) (fun k2 _=>[]) I (fun k2 xk2 sk2 ok2 hxk2 hr hltk2 hik2=>?_) fun k2 sk2 ek2 hltk2=>?_
 refine bdE hr fun y4 hy4 hr=>J g<|J (CB' [] [] (j0X (m:=m) hy4))<|J (gn 2)<|ifE hr ?_ ?_<;>intro h3 hr
 exact e
 exact e
 subst ek2
 exact e
 exact e
theorem j8i {m:Md}{a0:Gm_}{r:Bool}(hr:z5t a0=some r):Ok Tryz.prog 59 [Gm_.x m a0] [] (dB r) []:=by
 refine OE Tryz.func59 fun S hS=>?_
 unfold z5t at hr
 refine J g<|J (BX' 0)<|bdP hr fun y1 y2 hq1 hr=>J g<|J (CB' [] [] (j0Y (m:=m) hq1))<|e
theorem j0J {m:Md}{a0:Gm_}{r:Bool}(hr:z1X a0=some r):Ok Tryz.prog 25 [Gm_.x m a0] [] (dB r) []:=by
 refine OE Tryz.func25 fun S hS=>?_
 unfold z1X at hr
 refine J g<|J (BX' 0)<|J (gn 8)<|J (lenA 0 0)<|fun hl1=>bdE hr fun q1 hqq1 hr=>q0b hqq1 hl1 1 (fun k1 _=>[(1,.pb 0 0),(3,dI (k1:Int))]) (fun k1 _=>[]) I (fun k1 xk1 sk1 ok1 hxk1 hr hltk1 hik1=>?_) fun k1 sk1 ek1 hltk1=>?_
 refine J (gn 18) ?_
 refine AW.len (.el 1 (.tmp 9 rfl) hxk1 rfl) fun hl2=>?_
 refine bdE hr fun q2 hqq2 hr=>q0b hqq2 hl2 1 (fun k2 _=>[(1,.pb 0 0),(3,dI (k1:Int)),(4,dI (k2:Int))]) (fun k2 _=>[]) I (fun k2 xk2 sk2 ok2 hxk2 hr hltk2 hik2=>?_) fun k2 sk2 ek2 hltk2=>?_
 refine J g<|J (NV' 1)<|J (gn 6)<|ifE hr ?_ ?_<;>intro h1 hr
 exact e
 refine J (gn 6)<|ifE hr ?_ ?_<;>intro h2 hr
 exact e
 exact e
 subst ek2
 exact e
 subst ek1
 refine J (gn 17) ?_
 refine AW.len (.box 0 1 rfl rfl) fun hl3=>?_
 refine bdE hr fun q3 hqq3 hr=>q0b hqq3 hl3 1 (fun k3 _=>[(1,.pb 0 0),(6,dI (k3:Int))]) (fun k3 _=>[]) I (fun k3 xk3 sk3 ok3 hxk3 hr hltk3 hik3=>?_) fun k3 sk3 ek3 hltk3=>?_
 refine bdE hr fun y1 hy1 hr=>J g<|J (CB' [] [] (j5e (m:=m) hy1))<|J (gn 1)<|ifE hr ?_ ?_<;>intro h3 hr
 exact e
 exact e
 subst ek3
 refine bdE hr fun y2 hy2 hr=>J g<|J (CB' [] [] (j8i (m:=m) hy2))<|e
theorem z0Q {m:Md}{a0:Gm_}{a1:ByteArray}{r:(List At_)}(hr:q5z a0 a1=some r):Ok Tryz.prog 46 [Gm_.y m a0,dS a1] [] (.ref 0 none) [.row .fz 4 (r.map At_.D)]:=by
 refine OE Tryz.func46 fun S hS=>?_
 unfold q5z at hr
 refine J g<|J (BX' 0)<|J g<|J (L0' 1 At_.D)<|bdP hr fun y1 y2 hq1 hr=>J g<|J (CB' [(0,2)] [] (q7F (m:=m) hq1))<|J g<|J (NV' 3)<|J (gn 9)<|J (lenR 2)<|fun hl1=>bdE hr fun s1 hqq2 hr=>q0f hqq2 hl1 4 (fun k1 s1=>[(5,.ref 1 none),(6,.pb 3 0),(8,dI (k1:Int))]) (fun k1 s1=>[(1,.row .fz 4 (s1.map At_.D))]) I (fun k1 xk1 sk1 ok1 hxk1 hr hltk1=>?_) fun k1 hltk1=>?_
 obtain⟨s1,rfl⟩:∃ y,y=sk1:=⟨_,rfl⟩
 refine bdE hr fun s2 hqq3 hr=>J (gn 12)<|q0d 4 [(5,.ref 1 none),(6,.pb 3 0),(8,dI (k1:Int))] [(1,.row .fz 4 (s2.map At_.D))] ?_ ?_
 replace hr:=hqq3
 refine J (gn 10)<|ifE hr ?_ ?_<;>intro h1 hr
 refine J g<|J (LIR' 4 (m:=.fz) (f:=At_.D) (xs:=[xk1]))<|ggE hr fun g1 hr=>J (z3z (f:=At_.D) 5 (fun _=>rfl) 40 g1)<|e
 refine J (gn 10)<|ifE hr ?_ ?_<;>intro h2 hr
 refine J g<|J (LIR' 4 (m:=.fz) (f:=At_.D) (xs:=[xk1]))<|ggE hr fun g2 hr=>J (z3z (f:=At_.D) 5 (fun _=>rfl) 40 g2)<|e
 exact e
 exact e
 exact e
theorem z2n {a0:Int}{r:Rl_}(hr:q5l a0=some r):Ok Tryz.prog 84 [dI a0] [] (.ag [dI r.N,.ref 0 none]) [.row .fz 1 (r.Rows.map (A.D.i .i64))]:=by
 refine OE Tryz.func84 fun S hS=>?_
 unfold q5l at hr
 refine J g<|J (NV' 0)<|bdE hr fun y1 hy1 hr=>J g<|J (CB' [] [] (q5R hy1))<|J (gn 2)<|ifE hr ?_ ?_<;>intro h1 hr
 refine ggE hr fun g1 hr=>J g<|J (MKR' 1 (f:=(A.D.i .i64)) (0:Int) g1.1 g1.2.1 g1.2.2)<|e
 refine J (gn 7) ?_
 refine J (q0c (q0r (q:=0) (c:=1) (r:=1) .fz 1 rfl rfl rfl))<|J g<|E
theorem z5G {m:Md}{a0:Gm_}{a1:Rule}{r:(List Oc)}(hr:q6B a0 a1=some r):Ok Tryz.prog 145 [Gm_.y m a0,Rule.x m a1] [] (.ref 0 none) [.row .fz 2 (r.map Oc.D)]:=by
 refine OE Tryz.func145 fun S hS=>?_
 unfold q6B at hr
 refine J g<|J (BX' 0)<|J (BX' 1)<|J g<|J (L0' 2 Oc.D)<|bdE hr fun s1 hqq1 hr=>J (gn 7)<|q0d 3 [(5,.ref 2 none)] [(2,.row .fz 2 (s1.map Oc.D))] ?_ ?_
 refine J g<|q0l hqq1 3 (fun (s2,s3)=>[(2,.pb 0 0),(3,.pb 1 0),(5,.ref 2 none),(6,dI s3)]) (fun (s2,s3)=>[(2,.row .fz 2 (s2.map Oc.D))]) I fun sk1 ok1 hr hik1=>?_
 obtain⟨s2,s3⟩:=sk1
 have hr:=hr
 refine J (gn 9)<|ifE hr ?_ ?_<;>intro h1 hr
 refine bdE hr fun y1 hy1 hr=>J g<|J (CB' [] [] (q7E (m:=m) hy1))<|bdE hr fun y2 hy2 hr=>J (CB' [(0,3)] [] (z0Q (m:=m) hy2))<|J (gn 7)<|J (lenR 3)<|fun hl2=>bdE hr fun s4 hqq2 hr=>q0f hqq2 hl2 4 (fun k2 s4=>[(2,.pb 0 0),(3,.pb 1 0),(5,.ref 2 none),(6,dI s3),(7,.ref 3 none),(8,dI (k2:Int))]) (fun k2 s4=>[(2,.row .fz 2 (s4.map Oc.D))]) I (fun k2 xk2 sk2 ok2 hxk2 hr hltk2=>?_) fun k2 hltk2=>?_
 obtain⟨s4,rfl⟩:∃ y,y=sk2:=⟨_,rfl⟩
 refine J g<|J (LIR' 4 (m:=.fz) (f:=Oc.D) (xs:=[(⟨s3,xk2.Name⟩:Oc)]))<|ggE hr fun g1 hr=>J (z3z (f:=Oc.D) 5 (fun _=>rfl) 24 g1)<|e
 refine ggE hr fun g2 hr=>e
 refine J (gn 2) ?_
 cases hr
 cases hik1 _ rfl
 exact GH.trans (q0B (q:=0) [.d m (.sl 2 (a0.Symbols.map Symbol.D)),.u] (.cons .rfl (.cons .u .nil)) rfl) (q0i hS 3)
 exact e
theorem z8z {m:Md}{a0:(List Oc)}{a1:Oc}{r:Int}(hr:q8n a0 a1=some r):Ok Tryz.prog 185 [.d m (.sl 2 (a0.map Oc.D)),Oc.x .fz a1] [] (dI r) []:=by
 refine OE Tryz.func185 fun S hS=>?_
 unfold q8n at hr
 refine J g<|J (BX' 0)<|J (gn 8)<|J (lenT 0)<|fun hl1=>bdE hr fun q1 hqq1 hr=>q0b hqq1 hl1 1 (fun k1 _=>[(0,.d m (.sl 2 (a0.map Oc.D))),(3,.pb 0 0),(5,dI (k1:Int))]) (fun k1 _=>[]) I (fun k1 xk1 sk1 ok1 hxk1 hr hltk1 hik1=>?_) fun k1 sk1 ek1 hltk1=>?_
 refine J g ?_
 refine J (SQ' rfl rfl rfl rfl (q6o xk1 a1))<|J (gn 1)<|ifE hr ?_ ?_<;>intro h1 hr
 exact e
 exact e
 subst ek1
 exact e
theorem z8A {m:Md}{a0:Rl_}{r:Rl_}(hr:q9x a0=some r):Ok Tryz.prog 144 [Rl_.x m a0] [] (.ag [dI r.N,.ref 0 none]) [.row .fz 1 (r.Rows.map (A.D.i .i64))]:=by
 refine OE Tryz.func144 fun S hS=>?_
 unfold q9x at hr
 refine J g<|J (BX' 0)<|J (NV' 1)<|J g<|J (L0' 2 (A.D.i .i64))<|ggE hr fun g1 hr=>J g<|J (j4Z (f:=(A.D.i .i64)) 3 8 (fun _=>rfl) g1)<|e
theorem q5K {m:Md}{a0:Rl_}{r:Bool}(hr:q4A a0=some r):Ok Tryz.prog 91 [Rl_.x m a0] [] (dB r) []:=by
 refine OE Tryz.func91 fun S hS=>?_
 unfold q4A at hr
 refine J g<|J (BX' 0)<|bdE hr fun y1 hy1 hr=>J g<|J (CB' [] [] (q5R hy1))<|J (gn 1)<|ifE hr ?_ ?_<;>intro h1 hr
 refine J (gn 9)<|ifE hr ?_ ?_<;>intro h2 hr
 refine J (gn 8) ?_
 refine AW.rng (.ag 0 (.tmp 0 rfl) rfl) fun hl1=>?_
 refine bdE hr fun q1 hqq1 hr=>q0w hqq1 1 (fun k1 _=>[(1,.pb 0 0),(3,dI (k1:Int))]) (fun k1 _=>[]) I (fun k1 sk1 ok1 hr hltk1 hik1=>?_) fun sk1 ek1=>?_
 refine bdE hr fun x1 hx1 hr=>ggE hr fun g1 hr=>J g ?_
 refine J (CIU' g1 rfl)<|ggE hr fun g2 hr=>J (OB' _ (k1Q g2))<|J (OB' _ (j7T (p:=(2 ^ a0.N.toNat)) (k:=1) (by decide)))<|bdE hr fun y2 hy2 hr=>J (CB' [] [] (q5R hy2))<|J (gn 2)<|ifE hr ?_ ?_<;>intro h3 hr
 exact e
 exact e
 subst ek1
 exact e
 exact e
 exact e
theorem j2t {m:Md}{a0:Rl_}{a1:Int}{a2:Int}{r:Rl_}(hr:q7H a0 a1 a2=some r):Ok Tryz.prog 142 [Rl_.x m a0,dI a1,dI a2] [] (.ag [dI r.N,.ref 0 none]) [.row .fz 1 (r.Rows.map (A.D.i .i64))]:=by
 refine OE Tryz.func142 fun S hS=>?_
 unfold q7H at hr
 refine J g<|J (BX' 0)<|J (NV' 1)<|bdE hr fun y1 hy1 hr=>J g<|J (CB' [(0,2)] [] (z8A (m:=m) hy1))<|J (NV' 3)<|bdE hr fun y2 hy2 hr=>J g<|J (CB' [] [] (q5K (m:=m) hy2))<|bdE hr fun s1 hqq1 hr=>q0a 7 [(1,dI a1),(2,dI a2),(3,.pb 0 0),(6,.pb 1 0),(7,.pb 3 0),(18,dB s1)] ?_ ?_
 replace hr:=hqq1
 refine ifE hr ?_ ?_<;>intro h1 hr
 refine ggE hr fun g1 hr=>bdE hr fun y3 hy3 hr=>J g<|J (CB' [] [] (q5R hy3))<|e
 exact e
 refine bdE hr fun s2 hqq2 hr=>q0a 7 [(1,dI a1),(2,dI a2),(6,.pb 1 0),(7,.pb 3 0),(25,dB s2)] ?_ ?_
 replace hr:=hqq2
 refine ifE hr ?_ ?_<;>intro h2 hr
 refine ggE hr fun g2 hr=>bdE hr fun y4 hy4 hr=>J g<|J (CB' [] [] (q5R hy4))<|e
 exact e
 refine J (gn 1)<|ifE hr ?_ ?_<;>intro h3 hr
 refine ggE hr fun g3 hr=>bdE hr fun x1 hx1 hr=>ggE hr fun g4 hr=>J g ?_
 refine J (CIU' g4 rfl)<|ggE hr fun g5 hr=>J (OB' _ (k1Q g5))<|ggE hr fun g6 hr=>J (OB' _ (bOrI g6))<|J g<|J (SE' ((x1.toNat ||| ((2 ^ a2.toNat:Nat):Int).toNat:Nat):Int) hx1)<|J g<|E
 exact e
theorem z9U {m:Md}{a0:Gm_}{a1:Rule}{r:Rl_}(hr:q7e a0 a1=some r):Ok Tryz.prog 139 [Gm_.y m a0,Rule.x m a1] [] (.ag [dI r.N,.ref 0 none]) [.row .fz 1 (r.Rows.map (A.D.i .i64))]:=by
 refine OE Tryz.func139 fun S hS=>?_
 unfold q7e at hr
 refine J g<|J (BX' 0)<|J (BX' 1)<|J (NV' 2)<|bdE hr fun y1 hy1 hr=>J g<|J (CB' [(0,3)] [] (z5G (m:=m) hy1))<|bdE hr fun y2 hy2 hr=>J g<|J (CB' [(0,4)] [] (z2n hy2))<|J (NV' 5)<|bdP hr fun s1 s2 hqq1 hr=>J (gn 7)<|q0d 6 [(4,.pb 2 0),(6,.pb 5 0)] [(4,.row .fz 1 (s1.map (A.D.i .i64))),(5,.box [dI s2,.ref 4 none])] ?_ ?_
 refine J g<|q0l hqq1 6 (fun (s3,s4,s5)=>[(3,.pb 1 0),(4,.pb 2 0),(5,.ref 3 none),(6,.pb 5 0),(7,dI s3)]) (fun (s3,s4,s5)=>[(4,.row .fz 1 (s4.map (A.D.i .i64))),(5,.box [dI s5,.ref 4 none])]) I fun sk1 ok1 hr hik1=>?_
 obtain⟨s3,s4,s5⟩:=sk1
 have hr:=hr
 refine J (gn 7)<|ifE hr ?_ ?_<;>intro h1 hr
 refine J (gn 6)<|ifE hr ?_ ?_<;>intro h2 hr
 refine bdP hr fun s6 s7 hqq2 hr=>J (gn 3)<|q0d 6 [(3,.pb 1 0),(4,.pb 2 0),(5,.ref 3 none),(6,.pb 5 0),(7,dI s3),(23,.pb 5 0),(24,dI s5),(25,dB (decide (0<s5)))] [(4,.row .fz 1 (s6.map (A.D.i .i64))),(5,.box [dI s7,.ref 4 none])] ?_ ?_
 replace hr:=hqq2
 refine ggE hr fun g1 hr=>bdE hr fun x1 hx1 hr=>bdP hr fun y3 y4 hq3 hr=>J g<|J (CB' [(0,6)] [] (z3p (m:=m) hq3))<|J g<|J (NV' 7)<|J (gn 9)<|ifE hr ?_ ?_<;>intro h3 hr
 refine J (gn 5) ?_
 refine J (q0x 6 rfl)<|bdE hr fun y5 hy5 hr=>J (CB' [] [] (z2m (m:=.fz) hy5))<|J (gn 7)<|J (lenT 10)<|fun hl2=>bdP hr fun s8 s9 hqq4 hr=>q0f hqq4 hl2 8 (fun k2 (s8,s9)=>[(3,.pb 1 0),(4,.pb 2 0),(5,.ref 3 none),(6,.pb 5 0),(7,dI s3),(10,.d .fz (.sl 2 (y5.map Oc.D))),(11,dI (k2:Int)),(23,.pb 5 0),(24,dI s5),(25,dB (decide (0<s5)))]) (fun k2 (s8,s9)=>[(4,.row .fz 1 (s8.map (A.D.i .i64))),(5,.box [dI s9,.ref 4 none]),(6,.none)]) I (fun k2 xk2 sk2 ok2 hxk2 hr hltk2=>?_) fun k2 hltk2=>?_
 obtain⟨s8,s9⟩:=sk2
 refine bdE hr fun y6 hy6 hr=>J g<|J (CB' [] [3] (z8z (m:=.bo) hy6))<|bdE hr fun y7 hy7 hr=>J g<|J (CB' [(0,8)] [4] (j2t (m:=.bo) hy7))<|e
 exact e
 exact e
 refine ggE hr fun g2 hr=>e
 refine J (gn 2) ?_
 cases hr
 cases hik1 _ rfl
 exact GH.trans (q0B (q:=0) [.d m (.sl 2 (a0.Symbols.map Symbol.D)),.u] (.cons .rfl (.cons .u .nil)) rfl) (q0i hS 6)
 refine J (gn 8) ?_
 cases hr
 cases hik1 _ rfl
 exact GH.trans (q0B (q:=0) [.d m (.sl 2 (a0.Symbols.map Symbol.D)),.u] (.cons .rfl (.cons .u .nil)) rfl) (q0i hS 6)
 exact e
theorem z4t {m:Md}{a0:Gm_}{a1:Rule}{a2:Int}{r:(List Int)}(hr:q7a a0 a1 a2=some r):Ok Tryz.prog 89 [Gm_.y m a0,Rule.x m a1,dI a2] [] (.ref 0 none) [.row .fz 1 (r.map (A.D.i .i64))]:=by
 refine OE Tryz.func89 fun S hS=>?_
 unfold q7a at hr
 refine J g<|J (BX' 0)<|J (BX' 1)<|J g<|J (L0' 2 (A.D.i .i64))<|bdE hr fun y1 hy1 hr=>J g<|J (CB' [(0,3)] [] (z5G (m:=m) hy1))<|J (gn 8)<|J (lenR 3)<|fun hl1=>bdE hr fun s1 hqq1 hr=>q0f hqq1 hl1 4 (fun k1 s1=>[(2,dI a2),(7,.ref 2 none),(8,.ref 3 none),(9,dI (k1:Int))]) (fun k1 s1=>[(2,.row .fz 1 (s1.map (A.D.i .i64)))]) I (fun k1 xk1 sk1 ok1 hxk1 hr hltk1=>?_) fun k1 hltk1=>?_
 obtain⟨s1,rfl⟩:∃ y,y=sk1:=⟨_,rfl⟩
 refine bdE hr fun s2 hqq2 hr=>J (gn 11)<|q0d 4 [(2,dI a2),(7,.ref 2 none),(8,.ref 3 none),(9,dI (k1:Int))] [(2,.row .fz 1 (s2.map (A.D.i .i64)))] ?_ ?_
 replace hr:=hqq2
 refine J (gn 11)<|ifE hr ?_ ?_<;>intro h1 hr
 refine J g<|J (LIR' 4 (m:=.fz) (f:=(A.D.i .i64)) (xs:=([(k1:Int)]:List Int)))<|ggE hr fun g1 hr=>J (z3z (f:=(A.D.i .i64)) 5 (fun _=>rfl) 8 g1)<|e
 exact e
 exact e
 exact e
theorem z6q {m:Md}{a0:Rl_}{a1:Int}{a2:Int}{r:Bool}(hr:q8j a0 a1 a2=some r):Ok Tryz.prog 141 [Rl_.x m a0,dI a1,dI a2] [] (dB r) []:=by
 refine OE Tryz.func141 fun S hS=>?_
 unfold q8j at hr
 refine J g<|J (BX' 0)<|bdE hr fun y1 hy1 hr=>J g<|J (CB' [] [] (q5K (m:=m) hy1))<|bdE hr fun s1 hqq1 hr=>q0a 7 [(1,dI a1),(2,dI a2),(3,.pb 0 0),(6,dB false),(15,dB s1)] ?_ ?_
 replace hr:=hqq1
 refine ifE hr ?_ ?_<;>intro h1 hr
 refine ggE hr fun g1 hr=>bdE hr fun y2 hy2 hr=>J g<|J (CB' [] [] (q5R hy2))<|e
 exact e
 refine bdE hr fun s2 hqq2 hr=>q0a 7 [(1,dI a1),(2,dI a2),(3,.pb 0 0),(6,dB false),(22,dB s2)] ?_ ?_
 replace hr:=hqq2
 refine ifE hr ?_ ?_<;>intro h2 hr
 refine ggE hr fun g2 hr=>bdE hr fun y3 hy3 hr=>J g<|J (CB' [] [] (q5R hy3))<|e
 exact e
 refine bdE hr fun s3 hqq3 hr=>q0a 12 [(6,dB false),(34,dB s3)] ?_ ?_
 replace hr:=hqq3
 refine ifE hr ?_ ?_<;>intro h3 hr
 refine ggE hr fun g3 hr=>bdE hr fun x1 hx1 hr=>ggE hr fun g4 hr=>J g ?_
 refine J (CIU' g4 rfl)<|ggE hr fun g5 hr=>J (OB' _ (k7F g5))<|ggE hr fun g6 hr=>J (OB' _ (k7G g6))<|J g<|E
 exact e
 exact e
theorem z5H {m:Md}{a0:Rl_}{r:Rl_}(hr:q8k a0=some r):Ok Tryz.prog 143 [Rl_.x m a0] [] (.ag [dI r.N,.ref 0 none]) [.row .fz 1 (r.Rows.map (A.D.i .i64))]:=by
 refine OE Tryz.func143 fun S hS=>?_
 unfold q8k at hr
 refine J g<|J (BX' 0)<|J (NV' 1)<|bdE hr fun y1 hy1 hr=>J g<|J (CB' [(0,2)] [] (z8A (m:=m) hy1))<|J (NV' 3)<|bdE hr fun y2 hy2 hr=>J g<|J (CB' [] [] (q5K (m:=m) hy2))<|J (gn 2)<|ifE hr ?_ ?_<;>intro h1 hr
 refine J (gn 8) ?_
 refine AW.rng (.ag 0 (.tmp 0 rfl) rfl) fun hl1=>?_
 refine bdE hr fun s1 hqq1 hr=>q0s hqq1 4 (fun k1 s1=>[(1,.pb 0 0),(2,.pb 1 0),(3,.pb 3 0),(4,dI (k1:Int))]) (fun k1 s1=>[(2,.row .fz 1 (s1.map (A.D.i .i64)))]) I (fun k1 sk1 ok1 hr hltk1=>?_) ?_
 obtain⟨s1,rfl⟩:∃ y,y=sk1:=⟨_,rfl⟩
 refine J (gn 17)<|J (rngT 14)<|fun hl2=>bdE hr fun s2 hqq2 hr=>q0s hqq2 4 (fun k2 s2=>[(1,.pb 0 0),(2,.pb 1 0),(3,.pb 3 0),(4,dI (k1:Int)),(5,dI (k2:Int))]) (fun k2 s2=>[(2,.row .fz 1 (s2.map (A.D.i .i64)))]) I (fun k2 sk2 ok2 hr hltk2=>?_) ?_
 obtain⟨s2,rfl⟩:∃ y,y=sk2:=⟨_,rfl⟩
 refine bdE hr fun s3 hqq3 hr=>J (gn 11)<|q0d 4 [(1,.pb 0 0),(2,.pb 1 0),(3,.pb 3 0),(4,dI (k1:Int)),(5,dI (k2:Int))] [(2,.row .fz 1 (s3.map (A.D.i .i64)))] ?_ ?_
 replace hr:=hqq3
 refine bdE hr fun x1 hx1 hr=>J g ?_
 refine J (CIU' (Int.natCast_nonneg _) rfl)<|ggE hr fun g1 hr=>J (OB' _ (k7F g1))<|ggE hr fun g2 hr=>J (OB' _ (k7G g2))<|J (gn 2)<|ifE hr ?_ ?_<;>intro h2 hr
 refine bdE hr fun x2 hx2 hr=>ggE hr fun g3 hr=>J g<|J (OB' _ (bOrI g3))<|J g<|J (SE' ((x1.toNat ||| x2.toNat:Nat):Int) hx1)<|e
 exact e
 exact e
 exact e
 exact e
 exact e
theorem j8j {m:Md}{a0:Gm_}{a1:Rule}{a2:(List Rl_)}{r:Rl_}(hr:z5v a0 a1 a2=some r):Ok Tryz.prog 85 [Gm_.y m a0,Rule.x m a1,.d m (.sl 2 (a2.map Rl_.D))] [] (.ag [dI r.N,.ref 0 none]) [.row .fz 1 (r.Rows.map (A.D.i .i64))]:=by
 refine OE Tryz.func85 fun S hS=>?_
 unfold z5v at hr
 refine J g<|J (BX' 0)<|J (BX' 1)<|J (NV' 2)<|bdE hr fun y1 hy1 hr=>J g<|J (CB' [(0,3)] [] (z9U (m:=m) hy1))<|J (NV' 4)<|bdP hr fun s1 s2 hqq1 hr=>J (gn 7)<|q0d 5 [(6,.pb 2 0),(7,.pb 4 0)] [(3,.row .fz 1 (s1.map (A.D.i .i64))),(4,.box [dI s2,.ref 3 none])] ?_ ?_
 refine J g<|q0l hqq1 5 (fun (s3,s4,s5)=>[(2,.d m (.sl 2 (a2.map Rl_.D))),(3,.pb 0 0),(4,.pb 1 0),(6,.pb 2 0),(7,.pb 4 0),(8,dI s3)]) (fun (s3,s4,s5)=>[(3,.row .fz 1 (s4.map (A.D.i .i64))),(4,.box [dI s5,.ref 3 none])]) I fun sk1 ok1 hr hik1=>?_
 obtain⟨s3,s4,s5⟩:=sk1
 have hr:=hr
 refine J (gn 9)<|ifE hr ?_ ?_<;>intro h1 hr
 refine bdE hr fun y2 hy2 hr=>J g<|J (CB' [(0,5)] [] (z4t (m:=m) hy2))<|bdE hr fun y3 hy3 hr=>J g<|J (CB' [] [] (q7E (m:=m) hy3))<|bdE hr fun y4 hy4 hr=>J (CB' [] [] (z7v (m:=m) hy4))<|bdE hr fun y5 hy5 hr=>J (CB' [] [] (z9l hy5))<|ggE hr fun g1 hr=>bdE hr fun x1 hx1 hr=>J g<|J (NV' 6)<|J (gn 7)<|J (lenR 5)<|fun hl2=>bdP hr fun s6 s7 hqq2 hr=>q0f hqq2 hl2 7 (fun k2 (s6,s7)=>[(2,.d m (.sl 2 (a2.map Rl_.D))),(3,.pb 0 0),(4,.pb 1 0),(6,.pb 2 0),(7,.pb 4 0),(8,dI s3),(9,.ref 5 none),(10,.pb 6 0),(11,dI (k2:Int))]) (fun k2 (s6,s7)=>[(3,.row .fz 1 (s6.map (A.D.i .i64))),(4,.box [dI s7,.ref 3 none])]) I (fun k2 xk2 sk2 ok2 hxk2 hr hltk2=>?_) fun k2 hltk2=>?_
 obtain⟨s6,s7⟩:=sk2
 refine J (gn 17)<|J (lenR 5)<|fun hl3=>bdP hr fun s8 s9 hqq3 hr=>q0f hqq3 hl3 7 (fun k3 (s8,s9)=>[(2,.d m (.sl 2 (a2.map Rl_.D))),(3,.pb 0 0),(4,.pb 1 0),(6,.pb 2 0),(7,.pb 4 0),(8,dI s3),(9,.ref 5 none),(10,.pb 6 0),(11,dI (k2:Int)),(12,dI (k3:Int))]) (fun k3 (s8,s9)=>[(3,.row .fz 1 (s8.map (A.D.i .i64))),(4,.box [dI s9,.ref 3 none])]) I (fun k3 xk3 sk3 ok3 hxk3 hr hltk3=>?_) fun k3 hltk3=>?_
 obtain⟨s8,s9⟩:=sk3
 refine bdP hr fun s10 s11 hqq4 hr=>J (gn 11)<|q0d 7 [(2,.d m (.sl 2 (a2.map Rl_.D))),(3,.pb 0 0),(4,.pb 1 0),(6,.pb 2 0),(7,.pb 4 0),(8,dI s3),(9,.ref 5 none),(10,.pb 6 0),(11,dI (k2:Int)),(12,dI (k3:Int))] [(3,.row .fz 1 (s10.map (A.D.i .i64))),(4,.box [dI s11,.ref 3 none])] ?_ ?_
 replace hr:=hqq4
 refine bdE hr fun y6 hy6 hr=>J g<|J (CB' [] [] (z6q (m:=m) hy6))<|J (gn 1)<|ifE hr ?_ ?_<;>intro h2 hr
 refine bdE hr fun y7 hy7 hr=>J g<|J (CB' [(0,7)] [3] (j2t (m:=.bo) hy7))<|e
 exact e
 exact e
 exact e
 refine ggE hr fun g2 hr=>e
 refine J (gn 2) ?_
 cases hr
 cases hik1 _ rfl
 exact GH.trans (q0B (q:=0) [.d m (.sl 2 (a0.Symbols.map Symbol.D)),.u] (.cons .rfl (.cons .u .nil)) rfl) (q0i hS 5)
 refine bdE hr fun y8 hy8 hr=>J g<|J (CB' [(0,5)] [3] (z5H (m:=.bo) hy8))<|e
theorem j2u {m:Md}{a0:Rl_}{r:Bool}(hr:z1a a0=some r):Ok Tryz.prog 86 [Rl_.x m a0] [] (dB r) []:=by
 refine OE Tryz.func86 fun S hS=>?_
 unfold z1a at hr
 refine J g<|J (BX' 0)<|bdE hr fun y1 hy1 hr=>J g<|J (CB' [] [] (q5K (m:=m) hy1))<|J (gn 2)<|ifE hr ?_ ?_<;>intro h1 hr
 refine bdE hr fun y2 hy2 hr=>J g<|J (CB' [(0,1)] [] (z5H (m:=m) hy2))<|J (NV' 2)<|J (gn 8) ?_
 refine AW.rng (.ag 0 (.tmp 0 rfl) rfl) fun hl1=>?_
 refine bdE hr fun q1 hqq1 hr=>q0w hqq1 3 (fun k1 _=>[(1,.pb 0 0),(3,.pb 2 0),(4,dI (k1:Int))]) (fun k1 _=>[]) I (fun k1 sk1 ok1 hr hltk1 hik1=>?_) fun sk1 ek1=>?_
 refine bdE hr fun y3 hy3 hr=>J g<|J (CB' [] [1] (z6q (m:=.bo) hy3))<|J (gn 1)<|ifE hr ?_ ?_<;>intro h2 hr
 exact e
 exact e
 subst ek1
 exact e
 exact e
theorem z8B {m:Md}{a0:Rl_}{a1:(List Int)}{r:Rl_}(hr:q5A a0 a1=some r):Ok Tryz.prog 88 [Rl_.x m a0,.d m (.sl 1 (a1.map (A.D.i .i64)))] [] (.ag [dI r.N,.ref 0 none]) [.row .fz 1 (r.Rows.map (A.D.i .i64))]:=by
 refine OE Tryz.func88 fun S hS=>?_
 unfold q5A at hr
 refine J g<|J (BX' 0)<|J (NV' 1)<|bdE hr fun y1 hy1 hr=>J g<|J (CB' [] [] (q5K (m:=m) hy1))<|J (gn 1)<|ifE hr ?_ ?_<;>intro h1 hr
 refine J (gn 6)<|ifE hr ?_ ?_<;>intro h2 hr
 refine J (gn 7) ?_
 refine J (q0c (q0r (q:=1) (c:=1) (r:=2) .fz 1 rfl rfl rfl))<|J g<|E
 refine bdE hr fun y2 hy2 hr=>J g<|J (CB' [(0,2)] [] (z2n hy2))<|J (NV' 3)<|J (gn 8)<|J (lenT 1)<|fun hl1=>bdE hr fun s1 hqq1 hr=>q0f hqq1 hl1 4 (fun k1 s1=>[(1,.d m (.sl 1 (a1.map (A.D.i .i64)))),(2,.pb 0 0),(4,.pb 1 0),(5,.pb 3 0),(6,dI (k1:Int))]) (fun k1 s1=>[(2,.row .fz 1 (s1.map (A.D.i .i64)))]) I (fun k1 xk1 sk1 ok1 hxk1 hr hltk1=>?_) fun k1 hltk1=>?_
 obtain⟨s1,rfl⟩:∃ y,y=sk1:=⟨_,rfl⟩
 refine J (gn 17)<|J (lenT 1)<|fun hl2=>bdE hr fun s2 hqq2 hr=>q0f hqq2 hl2 4 (fun k2 s2=>[(1,.d m (.sl 1 (a1.map (A.D.i .i64)))),(2,.pb 0 0),(4,.pb 1 0),(5,.pb 3 0),(6,dI (k1:Int)),(7,dI (k2:Int))]) (fun k2 s2=>[(2,.row .fz 1 (s2.map (A.D.i .i64)))]) I (fun k2 xk2 sk2 ok2 hxk2 hr hltk2=>?_) fun k2 hltk2=>?_
 obtain⟨s2,rfl⟩:∃ y,y=sk2:=⟨_,rfl⟩
 refine bdE hr fun s3 hqq3 hr=>J (gn 11)<|q0d 4 [(1,.d m (.sl 1 (a1.map (A.D.i .i64)))),(2,.pb 0 0),(4,.pb 1 0),(5,.pb 3 0),(6,dI (k1:Int)),(7,dI (k2:Int))] [(2,.row .fz 1 (s3.map (A.D.i .i64)))] ?_ ?_
 replace hr:=hqq3
 refine bdE hr fun y3 hy3 hr=>J g<|J (CB' [] [] (z6q (m:=m) hy3))<|J (gn 1)<|ifE hr ?_ ?_<;>intro h3 hr
 refine bdE hr fun x1 hx1 hr=>J g ?_
 refine J (CIU' (Int.natCast_nonneg _) rfl)<|ggE hr fun g1 hr=>J (OB' _ (k1Q g1))<|ggE hr fun g2 hr=>J (OB' _ (bOrI g2))<|J g<|J (SE' ((x1.toNat ||| ((2 ^ (k2:Int).toNat:Nat):Int).toNat:Nat):Int) hx1)<|J g<|E
 exact e
 exact e
 exact e
 exact e
 refine J (gn 13) ?_
 refine J (q0c (q0r (q:=1) (c:=1) (r:=2) .fz 1 rfl rfl rfl))<|J g<|E
theorem z9V {m:Md}{a0:Rl_}{a1:Rl_}{r:Rl_}(hr:q9m a0 a1=some r):Ok Tryz.prog 87 [Rl_.x m a0,Rl_.x m a1] [] (.ag [dI r.N,.ref 0 none]) [.row .fz 1 (r.Rows.map (A.D.i .i64))]:=by
 refine OE Tryz.func87 fun S hS=>?_
 unfold q9m at hr
 refine J g<|J (BX' 0)<|J (BX' 1)<|J (NV' 2)<|bdE hr fun y1 hy1 hr=>J g<|J (CB' [(0,3)] [] (z8A (m:=m) hy1))<|J (NV' 4)<|bdE hr fun y2 hy2 hr=>J g<|J (CB' [] [] (q5K (m:=m) hy2))<|bdE hr fun s1 hqq1 hr=>J (gn 1)<|q0a 5 [(2,.pb 0 0),(3,.pb 1 0),(4,.pb 2 0),(5,.pb 4 0),(16,dB s1)] ?_ ?_
 replace hr:=hqq1
 refine ifE hr ?_ ?_<;>intro h1 hr
 refine bdE hr fun y3 hy3 hr=>J g<|J (CB' [] [] (q5K (m:=m) hy3))<|e
 exact e
 refine bdE hr fun s2 hqq2 hr=>q0a 7 [(2,.pb 0 0),(3,.pb 1 0),(4,.pb 2 0),(5,.pb 4 0),(23,dB s2)] ?_ ?_
 replace hr:=hqq2
 refine ifE hr ?_ ?_<;>intro h2 hr
 exact e
 exact e
 refine J (gn 1)<|ifE hr ?_ ?_<;>intro h3 hr
 exact e
 refine J (gn 8) ?_
 refine AW.rng (.box 0 0 rfl rfl) fun hl1=>?_
 refine bdE hr fun s3 hqq3 hr=>q0s hqq3 5 (fun k1 s3=>[(2,.pb 0 0),(3,.pb 1 0),(4,.pb 2 0),(5,.pb 4 0),(6,dI (k1:Int))]) (fun k1 s3=>[(3,.row .fz 1 (s3.map (A.D.i .i64)))]) I (fun k1 sk1 ok1 hr hltk1=>?_) ?_
 obtain⟨s3,rfl⟩:∃ y,y=sk1:=⟨_,rfl⟩
 refine bdE hr fun x1 hx1 hr=>bdE hr fun x2 hx2 hr=>ggE hr fun g1 hr=>J g<|J (OB' _ (bOrI g1))<|J g<|J (SE' ((x1.toNat ||| x2.toNat:Nat):Int) hx1)<|e
 exact e
theorem k0O {m:Md}{a0:(List Int)}{a1:(List Int)}{r:Bool}(hr:z9f a0 a1=some r):Ok Tryz.prog 146 [.d m (.sl 1 (a0.map (A.D.i .i64))),.d m (.sl 1 (a1.map (A.D.i .i64)))] [] (dB r) []:=by
 refine OE Tryz.func146 fun S hS=>?_
 unfold z9f at hr
 refine J (gn 13)<|ifE hr ?_ ?_<;>intro h1 hr
 refine J (gn 8)<|J (lenT 0)<|fun hl1=>bdE hr fun q1 hqq1 hr=>q0b hqq1 hl1 0 (fun k1 _=>[(0,.d m (.sl 1 (a0.map (A.D.i .i64)))),(1,.d m (.sl 1 (a1.map (A.D.i .i64)))),(5,dI (k1:Int))]) (fun k1 _=>[]) I (fun k1 xk1 sk1 ok1 hxk1 hr hltk1 hik1=>?_) fun k1 sk1 ek1 hltk1=>?_
 refine bdE hr fun x1 hx1 hr=>J (gn 24)<|ifE hr ?_ ?_<;>intro h2 hr
 exact e
 exact e
 subst ek1
 exact e
 exact e
theorem z9W {m:Md}{a0:Rl_}{a1:Rl_}{r:Bool}(hr:q9n a0 a1=some r):Ok Tryz.prog 90 [Rl_.x m a0,Rl_.x m a1] [] (dB r) []:=by
 refine OE Tryz.func90 fun S hS=>?_
 unfold q9n at hr
 refine J g<|J (BX' 0)<|J (BX' 1)<|J (gn 9)<|ifE hr ?_ ?_<;>intro h1 hr
 refine bdE hr fun y1 hy1 hr=>J g<|J (CB' [] [] (k0O (m:=m) hy1))<|e
 exact e
theorem z8g {m:Md}{a0:Gm_}{r:((List Rl_)×Bool)}(hr:q7T a0=some r):Ok Tryz.prog 44 [Gm_.x m a0] [] (.tu [.ref 0 none,dB r.2]) [.row .fz 2 (r.1.map Rl_.D)]:=by
 refine OE Tryz.func44 fun S hS=>?_
 unfold q7T at hr
 refine J g<|J (BX' 0)<|bdE hr fun y1 hy1 hr=>J g<|J (CB' [] [] (j0J (m:=m) hy1))<|J (gn 2)<|ifE hr ?_ ?_<;>intro h1 hr
 refine J g<|J (L0' 1 Rl_.D)<|J (gn 8)<|J (lenA 0 0)<|fun hl1=>bdE hr fun s1 hqq1 hr=>q0f hqq1 hl1 2 (fun k1 s1=>[(1,.pb 0 0),(4,.ref 1 none),(5,dI (k1:Int))]) (fun k1 s1=>[(1,.row .fz 2 (s1.map Rl_.D))]) I (fun k1 xk1 sk1 ok1 hxk1 hr hltk1=>?_) fun k1 hltk1=>?_
 obtain⟨s1,rfl⟩:∃ y,y=sk1:=⟨_,rfl⟩
 refine bdE hr fun y2 hy2 hr=>J g<|J (CB' [(0,2)] [] (z0Q (m:=m) hy2))<|bdE hr fun y3 hy3 hr=>J g<|J (CBz' 3 [(0,3)] [] (z2n hy3))<|J (LIR' 4 (m:=.fz) (f:=Rl_.D) (xs:=[y3]))<|ggE hr fun g1 hr=>J (AP1' 5 .fz 32 g1)<|J (q1b .refl)<|e
 refine bdE hr fun q2 hqq2 hr=>J g<|q0l hqq2 2 (fun s2=>[(1,.pb 0 0),(4,.ref 1 none)]) (fun s2=>[(1,.row .fz 2 (s2.map Rl_.D))]) I fun sk2 ok2 hr hik2=>?_
 obtain⟨s2,rfl⟩:∃ y,y=sk2:=⟨_,rfl⟩
 refine J (gn 11) ?_
 refine AW.len (.box 0 1 rfl rfl) fun hl3=>?_
 refine bdE hr fun q3 hqq3 hr=>q0b hqq3 hl3 2 (fun k3 (s3,s4)=>[(1,.pb 0 0),(4,.ref 1 none),(6,dB s4),(7,dI (k3:Int))]) (fun k3 (s3,s4)=>[(1,.row .fz 2 (s3.map Rl_.D))]) I (fun k3 xk3 sk3 ok3 hxk3 hr hltk3 hik3=>?_) fun k3 sk3 ek3 hltk3=>?_
 obtain⟨s3,s4⟩:=sk3
 refine J g<|J (NV' 2)<|bdE hr fun y4 hy4 hr=>J g<|J (CB' [(0,3)] [1] (j8j (m:=.bo) hy4))<|J (NV' 4)<|bdE hr fun y5 hy5 hr=>J g<|J (CB' [] [3] (j2u (m:=.bo) hy5))<|J (gn 1)<|ifE hr ?_ ?_<;>intro h2 hr
 refine J g<|J (L0' 5 Rl_.D)<|e
 refine bdP hr fun s5 s6 hqq4 hr=>J (gn 6)<|q0d 5 [(1,.pb 0 0),(4,.ref 1 none),(6,dB s6),(7,dI (k3:Int))] [(1,.row .fz 2 (s5.map Rl_.D))] ?_ ?_
 refine J g<|q0l hqq4 5 (fun (s7,s8,s9)=>[(1,.pb 0 0),(4,.ref 1 none),(6,dB s8),(7,dI (k3:Int)),(8,.pb 2 0),(9,.pb 4 0),(10,dI s9)]) (fun (s7,s8,s9)=>[(1,.row .fz 2 (s7.map Rl_.D))]) I fun sk4 ok4 hr hik4=>?_
 obtain⟨s7,s8,s9⟩:=sk4
 have hr:=hr
 refine J (gn 9)<|ifE hr ?_ ?_<;>intro h3 hr
 refine bdP hr fun s10 s11 hqq5 hr=>J (gn 3)<|q0d 5 [(1,.pb 0 0),(4,.ref 1 none),(6,dB s10),(7,dI (k3:Int)),(8,.pb 2 0),(9,.pb 4 0),(10,dI s9)] [(1,.row .fz 2 (s11.map Rl_.D))] ?_ ?_
 replace hr:=hqq5
 refine bdE hr fun y6 hy6 hr=>J g<|J (CB' [] [] (q7E (m:=m) hy6))<|bdE hr fun y7 hy7 hr=>J (CB' [] [] (z7v (m:=m) hy7))<|ggE hr fun g2 hr=>bdE hr fun x1 hx1 hr=>bdE hr fun y8 hy8 hr=>J g<|J (CB' [(0,5)] [] (z4t (m:=m) hy8))<|bdE hr fun y9 hy9 hr=>J (CB' [(0,6)] [3,5] (z8B (m:=.bo) hy9))<|bdE hr fun y10 hy10 hr=>J (CB' [(0,7)] [6] (z9V (m:=.bo) hy10))<|J (NV' 8)<|J (gn 5)<|ifE hr ?_ ?_<;>intro h4 hr
 refine J (gn 9)<|J (q1b .refl)<|J (gn 7) ?_
 refine J (q0x 7 rfl)<|J (SE' y10 hx1)<|J g<|E
 refine bdE hr fun y11 hy11 hr=>J g<|J (CB' [] [7] (z9W (m:=.bo) hy11))<|J (gn 2)<|J (q1b .refl)<|J (gn 7) ?_
 refine J (q0x 7 rfl)<|J (SE' y10 hx1)<|J g<|E
 refine ggE hr fun g3 hr=>e
 refine J (gn 2) ?_
 cases hr
 cases hik4 _ rfl
 exact q0i hS 5
 exact e
 subst ek3
 obtain⟨s3,s4⟩:=sk3
 refine J (gn 16)<|ifE hr ?_ ?_<;>intro h5 hr
 exact e
 exact e
 refine J g<|J (L0' 1 Rl_.D)<|e
theorem j6O {m:Md}{a0:Rl_}{a1:(List Bool)}{a2:Int}{r:Bool}(hr:z2b a0 a1 a2=some r):Ok Tryz.prog 147 [Rl_.x m a0,.d m (.sl 1 (a1.map A.D.b)),dI a2] [] (dB r) []:=by
 refine OE Tryz.func147 fun S hS=>?_
 unfold z2b at hr
 refine J g<|J (BX' 0)<|J (gn 8) ?_
 refine AW.rng (.ag 0 (.tmp 0 rfl) rfl) fun hl1=>?_
 refine bdE hr fun q1 hqq1 hr=>q0w hqq1 1 (fun k1 _=>[(1,.d m (.sl 1 (a1.map A.D.b))),(2,dI a2),(3,.pb 0 0),(7,dI (k1:Int))]) (fun k1 _=>[]) I (fun k1 sk1 ok1 hr hltk1 hik1=>?_) fun sk1 ek1=>?_
 refine bdE hr fun y1 hy1 hr=>J g<|J (CB' [] [] (z6q (m:=m) hy1))<|ifE hr ?_ ?_<;>intro h1 hr
 refine bdE hr fun x1 hx1 hr=>J (gn 8)<|ifE hr ?_ ?_<;>intro h2 hr
 exact e
 exact e
 exact e
 subst ek1
 exact e
theorem j2v {m:Md}{a0:(List At_)}{a1:Rl_}{a2:(List Bool)}{a3:Int}{r:((List ByteArray)×(List Bool))}(hr:z1b a0 a1 a2 a3=some r):Ok Tryz.prog 92 [.d m (.sl 4 (a0.map At_.D)),Rl_.x m a1,.ref 0 none,dI a3] [.row .fz 1 (a2.map A.D.b)] (.ref 1 none) [.row .fz 1 (r.2.map A.D.b),.row .fz 1 (r.1.map A.D.s)]:=by
 refine OE Tryz.func92 fun S hS=>?_
 unfold z1b at hr
 refine J g<|J (BX' 1)<|J g<|J (L0' 2 A.D.s)<|bdE hr fun q1 hqq1 hr=>J g<|q0l hqq1 3 (fun (s1,s2)=>[(0,.d m (.sl 4 (a0.map At_.D))),(2,.ref 0 none),(3,dI a3),(5,.pb 1 0),(9,.ref 2 none)]) (fun (s1,s2)=>[(0,.row .fz 1 (s2.map A.D.b)),(2,.row .fz 1 (s1.map A.D.s))]) I fun sk1 ok1 hr hik1=>?_
 obtain⟨s1,s2⟩:=sk1
 refine J g<|J (OB' _ (j7T (p:=a0.length) (k:=1) (by decide)))<|bdE hr fun s3 hqq2 hr=>J (gn 2)<|q0d 3 [(0,.d m (.sl 4 (a0.map At_.D))),(2,.ref 0 none),(3,dI a3),(5,.pb 1 0),(9,.ref 2 none),(10,dI s3)] [] ?_ ?_
 refine J g<|q0l hqq2 3 (fun (s4,s5)=>[(0,.d m (.sl 4 (a0.map At_.D))),(2,.ref 0 none),(3,dI a3),(5,.pb 1 0),(9,.ref 2 none),(10,dI s4),(11,dI s5)]) (fun (s4,s5)=>[]) I fun sk2 ok2 hr hik2=>?_
 obtain⟨s4,s5⟩:=sk2
 have hr:=hr
 refine J (gn 6)<|ifE hr ?_ ?_<;>intro h1 hr
 refine bdE hr fun s6 hqq3 hr=>J (gn 3)<|q0d 3 [(0,.d m (.sl 4 (a0.map At_.D))),(2,.ref 0 none),(3,dI a3),(5,.pb 1 0),(9,.ref 2 none),(10,dI s6),(11,dI s5)] [] ?_ ?_
 replace hr:=hqq3
 refine ggE hr fun g1 hr=>bdE hr fun x1 hx1 hr=>bdE hr fun s7 hqq4 hr=>J (gn 10)<|q0a 7 [(0,.d m (.sl 4 (a0.map At_.D))),(2,.ref 0 none),(3,dI a3),(5,.pb 1 0),(9,.ref 2 none),(10,dI s4),(11,dI s5),(33,dB s7)] ?_ ?_
 replace hr:=hqq4
 refine ifE hr ?_ ?_<;>intro h2 hr
 refine ggE hr fun g2 hr=>bdE hr fun x2 hx2 hr=>e
 exact e
 refine bdE hr fun s8 hqq5 hr=>q0a 6 [(0,.d m (.sl 4 (a0.map At_.D))),(2,.ref 0 none),(3,dI a3),(5,.pb 1 0),(9,.ref 2 none),(10,dI s4),(11,dI s5),(39,dB s8)] ?_ ?_
 replace hr:=hqq5
 refine ifE hr ?_ ?_<;>intro h3 hr
 refine bdE hr fun y1 hy1 hr=>J g<|J (CB' [] [0] (j6O (m:=.bo) hy1))<|e
 exact e
 refine J (gn 1)<|ifE hr ?_ ?_<;>intro h4 hr
 exact e
 exact e
 refine ggE hr fun g3 hr=>e
 refine J (gn 2) ?_
 cases hr
 cases hik2 _ rfl
 exact q0i hS 3
 refine J (gn 6)<|ifE hr ?_ ?_<;>intro h5 hr
 exact e
 refine ggE hr fun g4 hr=>bdE hr fun x3 hx3 hr=>J g<|J (SE' true hx3)<|ggE hr fun g5 hr=>bdE hr fun x4 hx4 hr=>J g<|J (LIR' 3 (m:=.fz) (f:=A.D.s) (xs:=[x4.Name]))<|ggE hr fun g6 hr=>J (z3z (f:=A.D.s) 4 (fun _=>rfl) 16 g6)<|e
theorem j6P {m:Md}{a0:(List At_)}{a1:Rl_}{r:((List Phase)×Bool)}(hr:z4m a0 a1=some r):Ok Tryz.prog 45 [.d m (.sl 4 (a0.map At_.D)),Rl_.x m a1] [] (.tu [.ref 0 none,dB r.2]) [.row .fz 2 (r.1.map Phase.D)]:=by
 refine OE Tryz.func45 fun S hS=>?_
 unfold z4m at hr
 refine J g<|J (BX' 0)<|bdE hr fun y1 hy1 hr=>J g<|J (CB' [] [] (q5K (m:=m) hy1))<|bdE hr fun s1 hqq1 hr=>J (gn 1)<|q0a 7 [(0,.d m (.sl 4 (a0.map At_.D))),(3,.pb 0 0),(20,dB s1)] ?_ ?_
 replace hr:=hqq1
 refine ifE hr ?_ ?_<;>intro h1 hr
 exact e
 exact e
 refine bdE hr fun s2 hqq2 hr=>q0a 4 [(0,.d m (.sl 4 (a0.map At_.D))),(3,.pb 0 0),(24,dB s2)] ?_ ?_
 replace hr:=hqq2
 refine ifE hr ?_ ?_<;>intro h2 hr
 exact e
 refine bdE hr fun y2 hy2 hr=>J g<|J (CB' [] [] (j2u (m:=m) hy2))<|e
 refine J (gn 1)<|ifE hr ?_ ?_<;>intro h3 hr
 refine J g<|J (L0' 1 Phase.D)<|e
 refine J g<|J (L0' 1 Phase.D)<|ggE hr fun g1 hr=>J g<|J (MKR' 2 (f:=A.D.b) false g1.1 g1.2.1 g1.2.2)<|bdE hr fun q3 hqq3 hr=>J (gn 9)<|AW.cut 3 (fun (s3,s4)=>[(6,.ref 1 none)]) (fun (s3,s4)=>[(1,.row .fz 2 (s3.map Phase.D)),(2,.row .fz 1 (s4.map A.D.b))]) (M:=fun x=>q3=.inl x) ?_ fun x hx=>?_
 refine J g<|q0l hqq3 3 (fun (s5,s6,s7)=>[(0,.d m (.sl 4 (a0.map At_.D))),(3,.pb 0 0),(6,.ref 1 none),(7,.ref 2 none),(8,dI s7)]) (fun (s5,s6,s7)=>[(1,.row .fz 2 (s5.map Phase.D)),(2,.row .fz 1 (s6.map A.D.b))]) I fun sk1 ok1 hr hik1=>?_
 obtain⟨s5,s6,s7⟩:=sk1
 have hr:=hr
 refine bdE hr fun s8 hqq4 hr=>J (gn 5)<|q0a 5 [(0,.d m (.sl 4 (a0.map At_.D))),(3,.pb 0 0),(6,.ref 1 none),(7,.ref 2 none),(8,dI s7),(38,dB s8)] ?_ ?_
 replace hr:=hqq4
 refine ifE hr ?_ ?_<;>intro h4 hr
 exact e
 exact e
 refine J (gn 1)<|ifE hr ?_ ?_<;>intro h5 hr
 refine bdP hr fun y3 z1 hq5 hr=>J g<|J (CB' [(0,2),(1,3)] [] (j2v (m:=m) hq5))<|J g<|J (NV' 4)<|bdP hr fun y4 z2 hq6 hr=>J g<|J (CB' [(0,2),(1,5)] [] (j2v (m:=m) hq6))<|ggE hr fun g2 hr=>J g<|J (OB' _ (z1R (p:=y3.length) (q:=y4.length) g2))<|bdE hr fun s9 hqq7 hr=>J (gn 7)<|q0a 4 [(0,.d m (.sl 4 (a0.map At_.D))),(3,.pb 0 0),(6,.ref 1 none),(7,.ref 2 none),(8,dI s7),(9,.pb 4 0),(10,dI ((y3.length+y4.length:Nat):Int)),(61,dB s9)] ?_ ?_
 replace hr:=hqq7
 refine ifE hr ?_ ?_<;>intro h6 hr
 exact e
 exact e
 refine J (gn 1)<|ifE hr ?_ ?_<;>intro h7 hr
 refine J g<|J (L0' 6 Phase.D)<|e
 refine ggE hr fun g3 hr=>J (gn 12) ?_
 refine J (q0x 3 rfl) ?_
 refine J (q0x 5 rfl)<|J (LIR' 6 (m:=.fz) (f:=Phase.D) (xs:=[(⟨y3,y4⟩:Phase)]))<|ggE hr fun g4 hr=>J (AP1' 7 .fz 48 g4)<|J g<|E
 refine J (gn 2) ?_
 cases hr
 cases hik1 _ rfl
 exact⟨_,rfl,q0i hS 3⟩
 subst hx
 obtain⟨s3,s4⟩:=x
 exact e
theorem z6G {m:Md}{a0:Gm_}{r:((List (List Phase))×Bool)}(hr:q8E a0=some r):Ok Tryz.prog 16 [Gm_.x m a0] [] (.tu [.ref 0 none,dB r.2]) [.row .fz 1 (r.1.map (fun (l:List Phase)=>A.D.sl 2 (l.map Phase.D)))]:=by
 refine OE Tryz.func16 fun S hS=>?_
 unfold q8E at hr
 refine J g<|J (BX' 0)<|bdP hr fun y1 y2 hq1 hr=>J g<|J (CB' [(0,1)] [] (z8g (m:=m) hq1))<|J g<|J (L0' 2 (fun (l:List Phase)=>A.D.sl 2 (l.map Phase.D)))<|bdE hr fun q2 hqq2 hr=>J (gn 7)<|AW.cut 3 (fun s1=>[(5,dB y2),(6,.ref 2 none)]) (fun s1=>[(2,.row .fz 1 (s1.map (fun (l:List Phase)=>A.D.sl 2 (l.map Phase.D))))]) (M:=fun x=>q2=.inl x) ?_ fun x hx=>?_
 refine J g<|q0l hqq2 3 (fun (s2,s3)=>[(1,.pb 0 0),(4,.ref 1 none),(5,dB y2),(6,.ref 2 none),(7,dI s3)]) (fun (s2,s3)=>[(2,.row .fz 1 (s2.map (fun (l:List Phase)=>A.D.sl 2 (l.map Phase.D))))]) I fun sk1 ok1 hr hik1=>?_
 obtain⟨s2,s3⟩:=sk1
 have hr:=hr
 refine J (gn 8)<|ifE hr ?_ ?_<;>intro h1 hr
 refine J (gn 4)<|ifE hr ?_ ?_<;>intro h2 hr
 refine ggE hr fun g1 hr=>bdE hr fun x1 hx1 hr=>bdE hr fun y3 hy3 hr=>J g<|J (CB' [(0,3)] [] (z0Q (m:=m) hy3))<|ggE hr fun g2 hr=>bdE hr fun x2 hx2 hr=>bdP hr fun y4 y5 hq3 hr=>J g<|J (CB' [(0,4)] [3] (j6P (m:=.bo) hq3))<|J (gn 12)<|ifE hr ?_ ?_<;>intro h3 hr
 refine J (gn 5) ?_
 refine J (q0x 4 rfl)<|J (LIR' 5 (m:=.fz) (f:=(fun (l:List Phase)=>A.D.sl 2 (l.map Phase.D))) (xs:=[y4]))<|ggE hr fun g3 hr=>J (AP1' 6 .fz 24 g3)<|ggE hr fun g4 hr=>J g<|E
 refine J g<|J (L0' 5 (fun (l:List Phase)=>A.D.sl 2 (l.map Phase.D)))<|e
 refine J (gn 2) ?_
 cases hr
 cases hik1 _ rfl
 exact⟨_,rfl,q0i hS 3⟩
 refine J (gn 6) ?_
 cases hr
 cases hik1 _ rfl
 exact⟨_,rfl,q0i hS 3⟩
 subst hx
 obtain⟨s1,rfl⟩:∃ y,y=x:=⟨_,rfl⟩
 exact e
theorem z1G {m:Md}{a0:Gm_}{a1:(List (List Phase))}{a2:ByteArray}{r:(List Phase)}(hr:q6h a0 a1 a2=some r):Ok Tryz.prog 34 [Gm_.y m a0,.d m (.sl 1 (a1.map (fun (l:List Phase)=>A.D.sl 2 (l.map Phase.D)))),dS a2] [] (.d m (.sl 2 (r.map Phase.D))) []:=by
 refine OE Tryz.func34 fun S hS=>?_
 unfold q6h at hr
 refine J g<|J (BX' 0)<|bdE hr fun y1 hy1 hr=>J g<|J (CB' [] [] (z7v (m:=m) hy1))<|J g<|J (OB' _ (j7T (p:=a1.length) (k:=1) (by decide)))<|bdE hr fun y2 hy2 hr=>J (CB' [] [] (q5R hy2))<|J (gn 2)<|ifE hr ?_ ?_<;>intro h1 hr
 refine ggE hr fun g1 hr=>bdE hr fun x1 hx1 hr=>e
 refine J g<|J (L0' 1 Phase.D)<|J (gn 3) ?_
 refine J (q0c (q0v (r:=1) rfl)) ?_
 cases hr
 exact endA.ren [] 0 (.inr rfl) hS rfl rfl rfl (.md rfl) rfl rfl
theorem z3e {m:Md}{m2:Md}{a1:Int}{a2:(List ByteArray)}{o0:l28Work}{r:l28Work}(hr:q8Z a1 a2 o0=some r):Ok Tryz.prog 35 [.pb 0 0,dI a1,.d m (.sl 1 (a2.map A.D.s))] [.box [.d m2 (.sl 2 (o0.g.Symbols.map Symbol.D)),.d m2 (.sl 6 (o0.g.Rules.map Rule.D)),dS o0.r.Name,dS o0.r.Left,.d m2 (.sl 1 (o0.r.Right.map A.D.s)),dB o0.r.Literal,.d m2 (.sl 9 (o0.r.Equations.map Eqn.D)),.d m2 (.sl 16 (o0.r.Contributions.map Cn.D)),.d m2 (.sl 1 (o0.phases.map (fun (l:List Phase)=>A.D.sl 2 (l.map Phase.D)))),.ref 1 none,.ref 2 none,.ref 3 none],.row .fz 2 (o0.known.map Oc.D),.row .fz 1 (o0.visits.map (A.D.i .i64)),.row .fz 4 (o0.steps.map Step.D)] (.tu []) [.box [.d m2 (.sl 2 (o0.g.Symbols.map Symbol.D)),.d m2 (.sl 6 (o0.g.Rules.map Rule.D)),dS r.r.Name,dS r.r.Left,.d m2 (.sl 1 (o0.r.Right.map A.D.s)),dB r.r.Literal,.d m2 (.sl 9 (o0.r.Equations.map Eqn.D)),.d m2 (.sl 16 (o0.r.Contributions.map Cn.D)),.d m2 (.sl 1 (o0.phases.map (fun (l:List Phase)=>A.D.sl 2 (l.map Phase.D)))),.ref 4 none,.ref 2 none,.ref 3 none],.dead,.row .fz 1 (r.visits.map (A.D.i .i64)),.row .fz 4 (r.steps.map Step.D),.row .fz 2 (r.known.map Oc.D)]:=by
 refine OE Tryz.func35 fun S hS=>?_
 unfold q8Z at hr
 refine J (gn 5) ?_
 refine J (q1d 1 4 rfl)<|J (lenT 2)<|fun hl1=>bdE hr fun s1 hqq1 hr=>q0f hqq1 hl1 5 (fun k1 s1=>[(0,.pb 0 0),(1,dI a1),(2,.d m (.sl 1 (a2.map A.D.s))),(6,dI (k1:Int))]) (fun k1 s1=>[(4,.row .fz 2 (s1.map Oc.D))]) I (fun k1 xk1 sk1 ok1 hxk1 hr hltk1=>?_) fun k1 hltk1=>?_
 obtain⟨s1,rfl⟩:∃ y,y=sk1:=⟨_,rfl⟩
 refine J g<|J (LIR' 5 (m:=.fz) (f:=Oc.D) (xs:=[(⟨a1,xk1⟩:Oc)]))<|ggE hr fun g1 hr=>J (z3z (f:=Oc.D) 6 (fun _=>rfl) 24 g1)<|e
 exact e
theorem z9n {m2:Md}{a0:l28Work}{a1:Oc}{r:Bool}(hr:z1d a0 a1=some r):Ok Tryz.prog 75 [.pb 0 0,Oc.x .fz a1] [.box [.d m2 (.sl 2 (a0.g.Symbols.map Symbol.D)),.d m2 (.sl 6 (a0.g.Rules.map Rule.D)),dS a0.r.Name,dS a0.r.Left,.d m2 (.sl 1 (a0.r.Right.map A.D.s)),dB a0.r.Literal,.d m2 (.sl 9 (a0.r.Equations.map Eqn.D)),.d m2 (.sl 16 (a0.r.Contributions.map Cn.D)),.d m2 (.sl 1 (a0.phases.map (fun (l:List Phase)=>A.D.sl 2 (l.map Phase.D)))),.ref 1 none,.ref 2 none,.ref 3 none],.row .fz 2 (a0.known.map Oc.D),.row .fz 1 (a0.visits.map (A.D.i .i64)),.row .fz 4 (a0.steps.map Step.D)] (dB r) [.box [.d m2 (.sl 2 (a0.g.Symbols.map Symbol.D)),.d m2 (.sl 6 (a0.g.Rules.map Rule.D)),dS a0.r.Name,dS a0.r.Left,.d m2 (.sl 1 (a0.r.Right.map A.D.s)),dB a0.r.Literal,.d m2 (.sl 9 (a0.r.Equations.map Eqn.D)),.d m2 (.sl 16 (a0.r.Contributions.map Cn.D)),.d m2 (.sl 1 (a0.phases.map (fun (l:List Phase)=>A.D.sl 2 (l.map Phase.D)))),.ref 1 none,.ref 2 none,.ref 3 none],.row .fz 2 (a0.known.map Oc.D),.row .fz 1 (a0.visits.map (A.D.i .i64)),.row .fz 4 (a0.steps.map Step.D)]:=by
 refine OE Tryz.func75 fun S hS=>?_
 unfold z1d at hr
 refine J g<|J (BX' 4)<|bdP hr fun y1 y2 hq1 hr=>J g<|J (CB' [(0,5)] [] (z3p (m:=m2) hq1))<|J g<|J (NV' 6)<|J (gn 6) ?_
 refine J (q0x 5 rfl)<|bdE hr fun y3 hy3 hr=>J (CB' [] [] (z2m (m:=.fz) hy3))<|J (gn 8)<|J (lenT 7)<|fun hl1=>bdE hr fun q2 hqq2 hr=>q0b hqq2 hl1 7 (fun k1 _=>[(0,.pb 0 0),(6,dB y2),(7,.d .fz (.sl 2 (y3.map Oc.D))),(8,dI (k1:Int))]) (fun k1 _=>[(5,.none)]) I (fun k1 xk1 sk1 ok1 hxk1 hr hltk1 hik1=>?_) fun k1 sk1 ek1 hltk1=>?_
 refine bdE hr fun y4 hy4 hr=>J g<|J (CB' [] [1] (q8R (m:=.bo) hy4))<|J (gn 2)<|ifE hr ?_ ?_<;>intro h1 hr
 exact e
 exact e
 subst ek1
 exact e
theorem j8k {m2:Md}{o0:l28Work}{r:(Bool×l28Work)}(hr:z5w o0=some r):Ok Tryz.prog 82 [.pb 0 0] [.box [.d m2 (.sl 2 (o0.g.Symbols.map Symbol.D)),.d m2 (.sl 6 (o0.g.Rules.map Rule.D)),dS o0.r.Name,dS o0.r.Left,.d m2 (.sl 1 (o0.r.Right.map A.D.s)),dB o0.r.Literal,.d m2 (.sl 9 (o0.r.Equations.map Eqn.D)),.d m2 (.sl 16 (o0.r.Contributions.map Cn.D)),.d m2 (.sl 1 (o0.phases.map (fun (l:List Phase)=>A.D.sl 2 (l.map Phase.D)))),.ref 1 none,.ref 2 none,.ref 3 none],.row .fz 2 (o0.known.map Oc.D),.row .fz 1 (o0.visits.map (A.D.i .i64)),.row .fz 4 (o0.steps.map Step.D)] (dB r.1) [.box [.d m2 (.sl 2 (o0.g.Symbols.map Symbol.D)),.d m2 (.sl 6 (o0.g.Rules.map Rule.D)),dS r.2.r.Name,dS r.2.r.Left,.d m2 (.sl 1 (o0.r.Right.map A.D.s)),dB r.2.r.Literal,.d m2 (.sl 9 (o0.r.Equations.map Eqn.D)),.d m2 (.sl 16 (o0.r.Contributions.map Cn.D)),.d m2 (.sl 1 (o0.phases.map (fun (l:List Phase)=>A.D.sl 2 (l.map Phase.D)))),.ref 4 none,.ref 2 none,.ref 5 none],.dead,.row .fz 1 (r.2.visits.map (A.D.i .i64)),.dead,.row .fz 2 (r.2.known.map Oc.D),.row .fz 4 (r.2.steps.map Step.D)]:=by
 refine OE Tryz.func82 fun S hS=>?_
 unfold z5w at hr
 refine bdE hr fun y1 hy1 hr=>J g<|J (CB' [(0,4)] [] (q5S (m:=m2) hy1))<|J (gn 8)<|J (lenR 4)<|fun hl1=>bdE hr fun q1 hqq1 hr=>q0b hqq1 hl1 5 (fun k1 _=>[(0,.pb 0 0),(3,.ref 4 none),(4,dI (k1:Int))]) (fun k1 _=>[]) I (fun k1 xk1 sk1 ok1 hxk1 hr hltk1 hik1=>?_) fun k1 sk1 ek1 hltk1=>?_
 refine bdE hr fun y2 hy2 hr=>J g<|J (CB' [] [1] (q8R (m:=.bo) hy2))<|J (gn 1)<|ifE hr ?_ ?_<;>intro h1 hr
 exact e
 refine bdE hr fun y3 hy3 hr=>J g<|CBK2 [(0,0),(1,1),(2,2),(3,3)] [] [] (z9n (m2:=m2) hy3) ?_
 refine J (gn 2)<|ifE hr ?_ ?_<;>intro h2 hr
 refine J g<|J (LIR' 5 (m:=.fz) (f:=Oc.D) (xs:=[xk1]))<|ggE hr fun g1 hr=>J (z3z (f:=Oc.D) 6 (fun _=>rfl) 24 g1)<|J g<|J (LIR' 7 (m:=.fz) (f:=Step.D) (xs:=[(⟨1,xk1.Pos,0,xk1.Name⟩:Step)]))<|ggE hr fun g2 hr=>J (z3z (f:=Step.D) 8 (fun _=>rfl) 40 g2)<|e
 exact e
 subst ek1
 refine J (gn 15) ?_
 refine J (q0c (q0q (i:=1) (j:=5) rfl rfl)) ?_
 refine J (q0c (q0q (i:=3) (j:=6) rfl rfl))<|J g<|E
theorem z4R {m:Md}{m2:Md}{a0:l28Work}{a1:Int}{a2:(List ByteArray)}{r:Bool}(hr:q8r a0 a1 a2=some r):Ok Tryz.prog 38 [.pb 0 0,dI a1,.d m (.sl 1 (a2.map A.D.s))] [.box [.d m2 (.sl 2 (a0.g.Symbols.map Symbol.D)),.d m2 (.sl 6 (a0.g.Rules.map Rule.D)),dS a0.r.Name,dS a0.r.Left,.d m2 (.sl 1 (a0.r.Right.map A.D.s)),dB a0.r.Literal,.d m2 (.sl 9 (a0.r.Equations.map Eqn.D)),.d m2 (.sl 16 (a0.r.Contributions.map Cn.D)),.d m2 (.sl 1 (a0.phases.map (fun (l:List Phase)=>A.D.sl 2 (l.map Phase.D)))),.ref 1 none,.ref 2 none,.ref 3 none],.row .fz 2 (a0.known.map Oc.D),.row .fz 1 (a0.visits.map (A.D.i .i64)),.row .fz 4 (a0.steps.map Step.D)] (dB r) [.box [.d m2 (.sl 2 (a0.g.Symbols.map Symbol.D)),.d m2 (.sl 6 (a0.g.Rules.map Rule.D)),dS a0.r.Name,dS a0.r.Left,.d m2 (.sl 1 (a0.r.Right.map A.D.s)),dB a0.r.Literal,.d m2 (.sl 9 (a0.r.Equations.map Eqn.D)),.d m2 (.sl 16 (a0.r.Contributions.map Cn.D)),.d m2 (.sl 1 (a0.phases.map (fun (l:List Phase)=>A.D.sl 2 (l.map Phase.D)))),.ref 1 none,.ref 2 none,.ref 3 none],.row .fz 2 (a0.known.map Oc.D),.row .fz 1 (a0.visits.map (A.D.i .i64)),.row .fz 4 (a0.steps.map Step.D)]:=by
 refine OE Tryz.func38 fun S hS=>?_
 unfold q8r at hr
 refine J (gn 10)<|J (lenT 2)<|fun hl1=>bdE hr fun q1 hqq1 hr=>q0b hqq1 hl1 4 (fun k1 _=>[(0,.pb 0 0),(1,dI a1),(2,.d m (.sl 1 (a2.map A.D.s))),(7,dI (k1:Int))]) (fun k1 _=>[]) I (fun k1 xk1 sk1 ok1 hxk1 hr hltk1 hik1=>?_) fun k1 sk1 ek1 hltk1=>?_
 refine bdE hr fun y1 hy1 hr=>J g<|J (CB' [] [1] (q8R (m:=.bo) hy1))<|J (gn 2)<|ifE hr ?_ ?_<;>intro h1 hr
 exact e
 exact e
 subst ek1
 exact e
theorem j6Q {m2:Md}{o0:l28Work}{r:(Bool×l28Work)}(hr:z4n o0=some r):Ok Tryz.prog 83 [.pb 0 0] [.box [.d m2 (.sl 2 (o0.g.Symbols.map Symbol.D)),.d m2 (.sl 6 (o0.g.Rules.map Rule.D)),dS o0.r.Name,dS o0.r.Left,.d m2 (.sl 1 (o0.r.Right.map A.D.s)),dB o0.r.Literal,.d m2 (.sl 9 (o0.r.Equations.map Eqn.D)),.d m2 (.sl 16 (o0.r.Contributions.map Cn.D)),.d m2 (.sl 1 (o0.phases.map (fun (l:List Phase)=>A.D.sl 2 (l.map Phase.D)))),.ref 1 none,.ref 2 none,.ref 3 none],.row .fz 2 (o0.known.map Oc.D),.row .fz 1 (o0.visits.map (A.D.i .i64)),.row .fz 4 (o0.steps.map Step.D)] (dB r.1) [.box [.d m2 (.sl 2 (o0.g.Symbols.map Symbol.D)),.d m2 (.sl 6 (o0.g.Rules.map Rule.D)),dS r.2.r.Name,dS r.2.r.Left,.d m2 (.sl 1 (o0.r.Right.map A.D.s)),dB r.2.r.Literal,.d m2 (.sl 9 (o0.r.Equations.map Eqn.D)),.d m2 (.sl 16 (o0.r.Contributions.map Cn.D)),.d m2 (.sl 1 (o0.phases.map (fun (l:List Phase)=>A.D.sl 2 (l.map Phase.D)))),.ref 4 none,.ref 2 none,.ref 5 none],.dead,.row .fz 1 (r.2.visits.map (A.D.i .i64)),.dead,.row .fz 2 (r.2.known.map Oc.D),.row .fz 4 (r.2.steps.map Step.D)]:=by
 refine Ok.enter rfl Tryz.func83 rfl rfl rfl fun S hS=>?_
 unfold z4n at hr
 refine sr ?_
 refine N1 ?_
 refine ssr ?_
 refine N1 ?_
 refine AW.block ?_
 refine AW.len (.box 0 4 rfl rfl) fun hl1=>?_
 refine bdE hr fun q1 hqq1 hr=>?_
 refine q0b hqq1 hl1 4 (fun k1 _=>[(0,.pb 0 0),(3,dI (k1:Int))]) (fun k1 _=>[]) (q0i hS 4) (fun k1 xk1 sk1 ok1 hxk1 hr hltk1 hik1=>?_) fun k1 sk1 ek1 hltk1=>?_
 refine ssr ?_
 refine W5 ?_
 refine W1 ?_
 refine LF ?_
 refine N1 ?_
 refine q0o rfl (dT hltk1) ?_
 refine q0k ?_
 refine q0m (AW.block (q0m (q0n (h:=?_))))
 refine W5 ?_
 refine W5 ?_
 refine W4 ?_
 refine IF (Int.natCast_nonneg _) hxk1 ?_
 refine W1 ?_
 refine bdE hr fun y1 hy1 hr=>?_
 refine CB [] [] (z1G (m:=m2) hy1) ?_
 refine N1 ?_
 refine sr ?_
 refine W5 ?_
 refine bdE hr fun x1 hx1 hr=>?_
 refine IE hx1 (Int.natCast_nonneg _) ?_
 refine LP hx1 ?_
 refine N1 ?_
 refine sr ?_
 refine W2 ?_
 refine LF ?_
 refine W1 ?_
 refine ifE hr (fun h1 hr=>?_) fun h1 hr=>?_
 refine VT rfl (dT h1) ?_
 refine W2 ?_
 refine OB _ (z1R (p:=k1) (q:=1) (q4J hltk1 hl1)) ?_
 refine W2 ?_
 refine ggE hr fun g1 hr=>?_
 refine bdE hr fun x2 hx2 hr=>?_
 refine IF g1 hx2 ?_
 refine W2 ?_
 refine bdE hr fun y2 hy2 hr=>?_
 refine CB [(0,0),(1,1),(2,2),(3,3)] [] (z4R (m:=m2) (m2:=m2) hy2) ?_
 refine N1 ?_
 refine ifE hr (fun h2 hr=>?_) fun h2 hr=>?_
 refine q0o rfl h2 ?_
 refine sr ?_
 refine W5 ?_
 refine W1 ?_
 refine ggE hr fun g2 hr=>?_
 refine OB _ (bAdd g2) ?_
 refine IE hx1 (Int.natCast_nonneg _) ?_
 refine SE (x1+1) hx1 ?_
 refine N0 ?_
 refine sr ?_
 refine W5 ?_
 refine W1 ?_
 refine OB _ (z1R (p:=k1) (q:=1) (q4J hltk1 hl1)) ?_
 refine W1 ?_
 refine ggE hr fun g3 hr=>?_
 refine OB _ (bAdd g3) ?_
 refine W1 ?_
 refine LIR 4 (m:=.fz) (f:=Step.D) (xs:=[(⟨2,((k1+1:Nat):Int),(x1+1),(⟨#[]⟩:ByteArray)⟩:Step)]) ?_
 refine ggE hr fun g4 hr=>?_
 refine APf1 (f:=Step.D) 5 (fun _=>rfl) 40 g4 ?_
 refine W2 ?_
 refine SB ?_
 refine N0 ?_
 refine sr ?_
 refine W2 ?_
 refine OB _ (z1R (p:=k1) (q:=1) (q4J hltk1 hl1)) ?_
 refine W2 ?_
 refine IF g1 hx2 ?_
 refine W2 ?_
 refine bdE hr fun z1 hz1 hr=>?_
 refine CB [(0,0),(1,1),(2,2),(3,5),(4,6)] [] (z3e (m:=m2) (m2:=m2) hz1) ?_
 refine N0 ?_
 refine sr ?_
 refine N1 ?_
 refine AW.ret ?_
 cases hr
 have hz9:=hik1 _ rfl
 subst hz9
 rename_i hr
 cases hr
 exact q0j [(0,0),(1,1),(2,2),(3,3),(6,4),(5,5)] 6 hS
 refine q0p rfl (bF h2) ?_
 refine q0k ?_
 refine q0g ?_
 refine W1 ?_
 refine OB _ (z1R (p:=k1) (q:=1) (q4J hltk1 hl1)) ?_
 refine N1 ?_
 cases hr
 exact⟨_,rfl,q0i hS 4⟩
 refine VF rfl (dF h1) ?_
 iterate 9 refine AL.off ?_
 refine N1 ?_
 refine q0p rfl rfl ?_
 refine q0k ?_
 refine q0g ?_
 refine W1 ?_
 refine OB _ (z1R (p:=k1) (q:=1) (q4J hltk1 hl1)) ?_
 refine N1 ?_
 cases hr
 exact⟨_,rfl,q0i hS 4⟩
 subst ek1
 refine ssr ?_
 refine W5 ?_
 refine W1 ?_
 refine LF ?_
 refine N1 ?_
 refine q0p rfl (dF hltk1) ?_
 refine q0t ?_
 refine sr ?_
 refine N1 ?_
 refine AW.ret ?_
 refine endA.gh (q0q (i:=1) (j:=4) rfl rfl) ?_
 refine endA.gh (q0q (i:=3) (j:=5) rfl rfl) ?_
 cases hr
 exact q0j [(0,0),(1,1),(2,2),(3,3),(4,4),(5,5)] 6 hS
theorem j0K {m2:Md}{a0:l28Work}{r:Bool}(hr:q9a a0=some r):Ok Tryz.prog 39 [.pb 0 0] [.box [.d m2 (.sl 2 (a0.g.Symbols.map Symbol.D)),.d m2 (.sl 6 (a0.g.Rules.map Rule.D)),dS a0.r.Name,dS a0.r.Left,.d m2 (.sl 1 (a0.r.Right.map A.D.s)),dB a0.r.Literal,.d m2 (.sl 9 (a0.r.Equations.map Eqn.D)),.d m2 (.sl 16 (a0.r.Contributions.map Cn.D)),.d m2 (.sl 1 (a0.phases.map (fun (l:List Phase)=>A.D.sl 2 (l.map Phase.D)))),.ref 1 none,.ref 2 none,.ref 3 none],.row .fz 2 (a0.known.map Oc.D),.row .fz 1 (a0.visits.map (A.D.i .i64)),.row .fz 4 (a0.steps.map Step.D)] (dB r) [.box [.d m2 (.sl 2 (a0.g.Symbols.map Symbol.D)),.d m2 (.sl 6 (a0.g.Rules.map Rule.D)),dS a0.r.Name,dS a0.r.Left,.d m2 (.sl 1 (a0.r.Right.map A.D.s)),dB a0.r.Literal,.d m2 (.sl 9 (a0.r.Equations.map Eqn.D)),.d m2 (.sl 16 (a0.r.Contributions.map Cn.D)),.d m2 (.sl 1 (a0.phases.map (fun (l:List Phase)=>A.D.sl 2 (l.map Phase.D)))),.ref 1 none,.ref 2 none,.ref 3 none],.row .fz 2 (a0.known.map Oc.D),.row .fz 1 (a0.visits.map (A.D.i .i64)),.row .fz 4 (a0.steps.map Step.D)]:=by
 refine OE Tryz.func39 fun S hS=>?_
 unfold q9a at hr
 refine bdE hr fun y1 hy1 hr=>J g<|J (CB' [(0,4)] [] (q5S (m:=m2) hy1))<|J (gn 8)<|J (lenR 4)<|fun hl1=>bdE hr fun q1 hqq1 hr=>q0b hqq1 hl1 5 (fun k1 _=>[(0,.pb 0 0),(3,.ref 4 none),(4,dI (k1:Int))]) (fun k1 _=>[]) I (fun k1 xk1 sk1 ok1 hxk1 hr hltk1 hik1=>?_) fun k1 sk1 ek1 hltk1=>?_
 refine bdE hr fun y2 hy2 hr=>J g<|J (CB' [] [1] (q8R (m:=.bo) hy2))<|J (gn 2)<|ifE hr ?_ ?_<;>intro h1 hr
 exact e
 exact e
 subst ek1
 refine J (gn 16) ?_
 refine AW.len (.box 0 4 rfl rfl) fun hl2=>?_
 refine bdE hr fun q2 hqq2 hr=>q0b hqq2 hl2 5 (fun k2 _=>[(0,.pb 0 0),(5,dI (k2:Int))]) (fun k2 _=>[]) I (fun k2 xk2 sk2 ok2 hxk2 hr hltk2 hik2=>?_) fun k2 sk2 ek2 hltk2=>?_
 refine bdE hr fun x1 hx1 hr=>bdE hr fun y3 hy3 hr=>J g<|J (CB' [] [] (z1G (m:=m2) hy3))<|J (gn 3)<|ifE hr ?_ ?_<;>intro h2 hr
 exact e
 exact e
 subst ek2
 exact e
theorem j8l {m:Md}{a0:Gm_}{a1:(List (List Phase))}{a2:Rule}{r:((List Step)×Bool)}(hr:z3O a0 a1 a2=some r):Ok Tryz.prog 43 [Gm_.x m a0,.d m (.sl 1 (a1.map (fun (l:List Phase)=>A.D.sl 2 (l.map Phase.D)))),Rule.x m a2] [] (.tu [.ref 0 none,dB r.2]) [.row .fz 4 (r.1.map Step.D)]:=by
 refine Ok.enter rfl Tryz.func43 rfl rfl rfl fun S hS=>?_
 unfold z3O at hr
 refine sr ?_
 refine BX 0 ?_
 refine BX 1 ?_
 refine N2 ?_
 refine q0m (q0n (h:=?_))
 refine W5 ?_
 refine LF ?_
 refine ggE hr fun g1 hr=>?_
 refine MKR 2 (f:=(A.D.i .i64)) (0:Int) g1.1 g1.2.1 g1.2.2 ?_
 refine W1 ?_
 refine BX 3 ?_
 refine N1 ?_
 refine sr ?_
 refine W4 ?_
 refine bdE hr fun y1 hy1 hr=>?_
 refine CB [] [] (z1G (m:=m) hy1) ?_
 refine N1 ?_
 refine ssr ?_
 refine N1 ?_
 refine AW.block ?_
 refine q1y 3 9 4 .fz 2 rfl rfl ?_
 refine q1y 3 11 5 .fz 4 rfl rfl ?_
 refine AW.len (.tmp 9 rfl) fun hl1=>?_
 refine bdE hr fun q1 hqq1 hr=>?_
 refine q0b hqq1 hl1 6 (fun k1 (s3,s4,s5,s6,s1,s2)=>[(8,.pb 3 0),(9,.d m (.sl 2 (y1.map Phase.D))),(10,dI (k1:Int))]) (fun k1 (s3,s4,s5,s6,s1,s2)=>[(2,.row .fz 1 (s3.map (A.D.i .i64))),(3,.box [.d m (.sl 2 (a0.Symbols.map Symbol.D)),.d m (.sl 6 (a0.Rules.map Rule.D)),dS s4,dS s5,.d m (.sl 1 (a2.Right.map A.D.s)),dB s6,.d m (.sl 9 (a2.Equations.map Eqn.D)),.d m (.sl 16 (a2.Contributions.map Cn.D)),.d m (.sl 1 (a1.map (fun (l:List Phase)=>A.D.sl 2 (l.map Phase.D)))),.ref 4 none,.ref 2 none,.ref 5 none]),(4,.row .fz 2 (s1.map Oc.D)),(5,.row .fz 4 (s2.map Step.D))]) (q0i hS 6) (fun k1 xk1 sk1 ok1 hxk1 hr hltk1 hik1=>?_) fun k1 sk1 ek1 hltk1=>?_
 obtain⟨s3,s4,s5,s6,s1,s2⟩:=sk1
 refine ssr ?_
 refine W2 ?_
 refine LF ?_
 refine N1 ?_
 refine q0o rfl (dT hltk1) ?_
 refine q0k ?_
 refine q0m (AW.block (q0m (q0g ?_)))
 refine W3 ?_
 refine IF (Int.natCast_nonneg _) hxk1 ?_
 refine W2 ?_
 refine bdE hr fun z1 hz1 hr=>?_
 refine CB [(0,3),(1,4),(2,2),(3,5),(4,6)] [] (z3e (m:=m) (m2:=m) hz1) ?_
 refine N0 ?_
 refine bdE hr fun q2 hqq2 hr=>?_
 obtain⟨s9,s10,s11,s12,s7,s8,s13⟩:=q2
 refine q0m (q0d 7 [(8,.pb 3 0),(9,.d m (.sl 2 (y1.map Phase.D))),(10,dI (k1:Int)),(41,.pb 3 0),(42,dB s13)] [(2,.row .fz 1 (s9.map (A.D.i .i64))),(3,.box [.d m (.sl 2 (a0.Symbols.map Symbol.D)),.d m (.sl 6 (a0.Rules.map Rule.D)),dS s10,dS s11,.d m (.sl 1 (a2.Right.map A.D.s)),dB s12,.d m (.sl 9 (a2.Equations.map Eqn.D)),.d m (.sl 16 (a2.Contributions.map Cn.D)),.d m (.sl 1 (a1.map (fun (l:List Phase)=>A.D.sl 2 (l.map Phase.D)))),.ref 6 none,.ref 2 none,.ref 5 none]),(4,.none),(5,.row .fz 4 (s8.map Step.D)),(6,.row .fz 2 (s7.map Oc.D))] ?_ ?_)
 refine AW.block (q0l hqq2 7 (fun (s16,s17,s18,s19,s14,s15)=>[(8,.pb 3 0),(9,.d m (.sl 2 (y1.map Phase.D))),(10,dI (k1:Int))]) (fun (s16,s17,s18,s19,s14,s15)=>[(2,.row .fz 1 (s16.map (A.D.i .i64))),(3,.box [.d m (.sl 2 (a0.Symbols.map Symbol.D)),.d m (.sl 6 (a0.Rules.map Rule.D)),dS s17,dS s18,.d m (.sl 1 (a2.Right.map A.D.s)),dB s19,.d m (.sl 9 (a2.Equations.map Eqn.D)),.d m (.sl 16 (a2.Contributions.map Cn.D)),.d m (.sl 1 (a1.map (fun (l:List Phase)=>A.D.sl 2 (l.map Phase.D)))),.ref 6 none,.ref 2 none,.ref 5 none]),(4,.none),(5,.row .fz 4 (s15.map Step.D)),(6,.row .fz 2 (s14.map Oc.D))]) (q0h hS [(0,0),(1,1),(2,2),(3,3),(5,5),(6,6)] 7) fun sk2 ok2 hr hik2=>?_)
 obtain⟨s16,s17,s18,s19,s14,s15⟩:=sk2
 have hr:=hr
 refine ssr ?_
 refine W1 ?_
 refine bdE hr fun q3 hq3 hr=>?_
 obtain⟨y2,z2⟩:=q3
 refine CB [(0,3),(1,6),(2,2),(3,5),(4,7),(5,8)] [] (j8k (m2:=m) hq3) ?_
 refine ifE hr (fun h1 hr=>?_) fun h1 hr=>?_
 refine VT rfl h1 ?_
 iterate 2 refine AL.off ?_
 refine N1 ?_
 refine q0o rfl rfl ?_
 refine q0k ?_
 refine AW.block (q0t ?_)
 cases hr
 exact⟨_,rfl,q0h hS [(0,0),(1,1),(2,2),(3,3),(8,5),(7,6)] 7⟩
 refine VF rfl (bF h1) ?_
 refine W1 ?_
 refine bdE hr fun q4 hq4 hr=>?_
 obtain⟨y3,z3⟩:=q4
 refine CB [(0,3),(1,7),(2,2),(3,8),(4,9),(5,10)] [] (j6Q (m2:=m) hq4) ?_
 refine N1 ?_
 refine ifE hr (fun h2 hr=>?_) fun h2 hr=>?_
 refine q0o rfl h2 ?_
 refine q0k ?_
 refine AW.block (q0t ?_)
 cases hr
 exact⟨_,rfl,q0h hS [(0,0),(1,1),(2,2),(3,3),(10,5),(9,6)] 7⟩
 refine q0p rfl (bF h2) ?_
 refine q0t ?_
 cases hr
 cases hik2 _ rfl
 exact q0h hS [(0,0),(1,1),(2,2),(3,3),(10,5),(9,6)] 7
 refine ssr ?_
 refine W3 ?_
 refine IF (Int.natCast_nonneg _) hxk1 ?_
 refine W2 ?_
 refine bdE hr fun y4 hy4 hr=>?_
 refine CB [(0,3),(1,6),(2,2),(3,5)] [] (z4R (m:=m) (m2:=m) hy4) ?_
 refine N1 ?_
 refine ifE hr (fun h3 hr=>?_) fun h3 hr=>?_
 refine q0p rfl (bnF h3) ?_
 refine q0k ?_
 refine q0g ?_
 refine W5 ?_
 refine W1 ?_
 refine OB _ (z1R (p:=k1) (q:=1) (q4J hltk1 hl1)) ?_
 refine W1 ?_
 refine LIR 7 (m:=.fz) (f:=Step.D) (xs:=[(⟨3,0,((k1+1:Nat):Int),(⟨#[]⟩:ByteArray)⟩:Step)]) ?_
 refine ggE hr fun g2 hr=>?_
 refine APf1 (f:=Step.D) 8 (fun _=>rfl) 40 g2 ?_
 refine W2 ?_
 refine SB ?_
 refine N0 ?_
 refine q0g ?_
 refine W1 ?_
 refine OB _ (z1R (p:=k1) (q:=1) (q4J hltk1 hl1)) ?_
 refine N1 ?_
 cases hr
 exact⟨_,rfl,q0h hS [(0,0),(1,1),(2,2),(3,3),(6,4),(8,5)] 6⟩
 refine q0o rfl (bnT h3) ?_
 refine sr ?_
 refine L0 7 Step.D ?_
 refine N2 ?_
 refine AW.ret ?_
 cases hr
 cases hik1 _ rfl
 rename_i hr
 cases hr
 exact q0j [(7,0)] 1 hS
 subst ek1
 obtain⟨s3,s4,s5,s6,s1,s2⟩:=sk1
 refine ssr ?_
 refine W2 ?_
 refine LF ?_
 refine N1 ?_
 refine q0p rfl (dF hltk1) ?_
 refine q0t ?_
 refine q0m (q0n (h:=?_))
 refine W5 ?_
 refine bdE hr fun y5 hy5 hr=>?_
 refine CBK2 [(0,3),(1,4),(2,2),(3,5)] [] [] (j0K (m2:=m) hy5) ?_
 refine N2 ?_
 refine AW.ret ?_
 cases hr
 exact q0j [(5,0)] 1 hS
theorem z9o {m:Md}{a0:Gm_}{r:((List RPl_)×Bool)}(hr:z1e a0=some r):Ok Tryz.prog 14 [Gm_.x m a0] [] (.tu [.ref 0 none,dB r.2]) [.deep .fz 2 (r.1.map RPl_.W) []]:=by
 refine OE Tryz.func14 fun S hS=>?_
 unfold z1e at hr
 refine J g<|J (BX' 0)<|bdP hr fun y1 y2 hq1 hr=>J g<|J (CB' [(0,1)] [] (z6G (m:=m) hq1))<|J g<|J (L0' 2 RPl_.D)<|q3B 2 RPl_.W ?_
 refine bdE hr fun q2 hqq2 hr=>J (gn 7)<|AW.cut 3 (fun s1=>[(5,dB y2),(6,.ref 2 none)]) (fun s1=>[(2,.deep .fz 2 (s1.map RPl_.W) [])]) (M:=fun x=>q2=.inl x) ?_ fun x hx=>?_
 refine J g<|q0l hqq2 3 (fun (s2,s3)=>[(1,.pb 0 0),(4,.ref 1 none),(5,dB y2),(6,.ref 2 none),(7,dI s3)]) (fun (s2,s3)=>[(2,.deep .fz 2 (s2.map RPl_.W) [])]) I fun sk1 ok1 hr hik1=>?_
 obtain⟨s2,s3⟩:=sk1
 have hr:=hr
 refine J (gn 8)<|ifE hr ?_ ?_<;>intro h1 hr
 refine J (gn 4)<|ifE hr ?_ ?_<;>intro h2 hr
 refine ggE hr fun g1 hr=>bdE hr fun x1 hx1 hr=>bdP hr fun y3 y4 hq3 hr=>J g<|J (CB' [(0,3)] [1] (j8l (m:=.bo) hq3))<|J (gn 12)<|ifE hr ?_ ?_<;>intro h3 hr
 refine J g<|J (LID' (f:=RPl_.W) 4 (⟨x1.Name,y3⟩:RPl_) [3])<|ggE hr fun g2 hr=>J (k4j 5 40 g2)<|ggE hr fun g3 hr=>e
 refine J g<|J (L0' 4 RPl_.D)<|q3B 4 RPl_.W ?_
 exact e
 refine J (gn 2) ?_
 cases hr
 cases hik1 _ rfl
 exact⟨_,rfl,q0i hS 3⟩
 refine J (gn 6) ?_
 cases hr
 cases hik1 _ rfl
 exact⟨_,rfl,q0i hS 3⟩
 subst hx
 obtain⟨s1,rfl⟩:∃ y,y=x:=⟨_,rfl⟩
 exact e
theorem j2w {a0:(List UInt8)}{r:(Gm_×(List (List Phase))×(List RPl_))}(hr:z3P a0=some r):Ok Tryz.prog 21 [.d .fz (.sl 1 (a0.map byD))] [] (.tu [.ag [.ref 0 none,.ref 1 none],.ref 2 none,.ref 3 none]) [.deep .fz 2 (r.1.Symbols.map Symbol.O) [],.deep .fz 6 (r.1.Rules.map Rule.O) [],.row .fz 1 (r.2.1.map (fun (l:List Phase)=>A.D.sl 2 (l.map Phase.D))),.deep .fz 2 (r.2.2.map RPl_.W) []]:=by
 refine Ok.enter rfl Tryz.func21 rfl rfl rfl fun S hS=>?_
 unfold z3P at hr
 refine sr ?_
 refine NV 0 ?_
 refine N2 ?_
 refine sr ?_
 refine W1 ?_
 refine bdE hr fun y1 hy1 hr=>?_
 refine CB [(0,1)] [] (j6G hy1) ?_
 refine N1 ?_
 refine sr ?_
 refine W1 ?_
 refine bdE hr fun q1 hq1 hr=>?_
 obtain⟨y2,z1⟩:=q1
 refine CB [(0,1),(1,2),(2,3)] [] (j2o hq1) ?_
 refine NV 4 ?_
 refine SB ?_
 refine N0 ?_
 refine ssr ?_
 refine N1 ?_
 refine bdE hr fun q2 hqq2 hr=>?_
 obtain⟨s3,s4,s1,s2⟩:=q2
 refine q0d 5 [(2,.pb 0 0),(5,.pb 1 0),(6,.pb 4 0)] [(1,.box [.d .fz (.sl 1 (y1.b.map byD)),dI s3,dI s4]),(2,.deep .fz 2 (s1.map Symbol.O) []),(3,.deep .fz 6 (s2.map Rule.O) [])] ?_ ?_
 refine AW.block (q0l hqq2 5 (fun (s7,s8,s9,s5,s6)=>[(2,.pb 0 0),(5,.pb 1 0),(6,.pb 4 0),(7,dI s7)]) (fun (s7,s8,s9,s5,s6)=>[(1,.box [.d .fz (.sl 1 (y1.b.map byD)),dI s8,dI s9]),(2,.deep .fz 2 (s5.map Symbol.O) []),(3,.deep .fz 6 (s6.map Rule.O) [])]) (q0i hS 5) fun sk1 ok1 hr hik1=>?_)
 obtain⟨s7,s8,s9,s5,s6⟩:=sk1
 have hr:=hr
 refine ssr ?_
 refine N2 ?_
 refine ifE hr (fun h1 hr=>?_) fun h1 hr=>?_
 refine q0o rfl (dT h1) ?_
 refine q0k ?_
 refine q0m (AW.block (q0m (q0g ?_)))
 refine W1 ?_
 refine bdE hr fun q3 hq3 hr=>?_
 obtain⟨y3,y4⟩:=q3
 refine CB [(0,5)] [2,3] (z9o (m:=.bo) hq3) ?_
 refine N5 ?_
 refine ssr ?_
 refine N1 ?_
 refine ifE hr (fun h2 hr=>?_) fun h2 hr=>?_
 refine q0o rfl h2 ?_
 refine q0t ?_
 cases hr
 cases hik1 _ rfl
 exact q0i hS 5
 refine q0p rfl (bF h2) ?_
 refine q0k ?_
 refine q0g ?_
 refine W1 ?_
 refine bdE hr fun q4 hq4 hr=>?_
 obtain⟨y5,z2⟩:=q4
 refine CB [(0,1),(1,6),(2,7)] [] (j2o hq4) ?_
 refine SB ?_
 refine N0 ?_
 refine q0g ?_
 refine W1 ?_
 refine ggE hr fun g1 hr=>?_
 refine OB _ (bAdd g1) ?_
 refine N1 ?_
 cases hr
 exact⟨_,rfl,q0h hS [(0,0),(1,1),(6,2),(7,3),(4,4)] 5⟩
 refine q0p rfl (dF h1) ?_
 refine q0t ?_
 cases hr
 cases hik1 _ rfl
 exact q0i hS 5
 refine sr ?_
 refine W1 ?_
 refine bdE hr fun q5 hq5 hr=>?_
 obtain⟨y6,y7⟩:=q5
 refine CB [(0,5)] [2,3] (z6G (m:=.bo) hq5) ?_
 refine N5 ?_
 refine sr ?_
 refine W1 ?_
 refine bdE hr fun q6 hq6 hr=>?_
 obtain⟨y8,y9⟩:=q6
 refine CB [(0,6)] [2,3] (z9o (m:=.bo) hq6) ?_
 refine N5 ?_
 refine ssr ?_
 refine W1 ?_
 refine LEd y8.length ?_
 refine N1 ?_
 refine ifE hr (fun h3 hr=>?_) fun h3 hr=>?_
 refine q0o rfl (dT h3) ?_
 refine sr ?_
 refine W3 ?_
 refine SB ?_
 refine N2 ?_
 refine AW.ret ?_
 cases hr
 exact q0j [(2,0),(3,1),(5,2),(6,3)] 4 hS
 refine q0p rfl (dF h3) ?_
 refine q0k ?_
 refine sr ?_
 refine W2 ?_
 refine LEd y8.length ?_
 refine bdE hr fun q7 hq7 hr=>?_
 obtain⟨y10,z3⟩:=q7
 refine CB [(0,1)] [] (q4F hq7) ?_
 refine N1 ?_
 refine sr ?_
 refine W2 ?_
 refine ggE hr fun g2 hr=>?_
 refine bdE hr fun x1 hx1 hr=>?_
 refine IEd g2 (q4Y hx1) ?_
 refine W1 ?_
 refine AL.out 6 y10.toNat 1 7 (q4Y hx1) ?_
 refine LPd [(1,7)] (q3W (q4Y hx1)) ?_
 refine LE ?_
 refine N1 ?_
 refine ssr ?_
 refine W1 ?_
 refine bdE hr fun q8 hq8 hr=>?_
 obtain⟨y11,z4⟩:=q8
 refine CB [(0,1)] [] (q4F hq8) ?_
 refine N0 ?_
 refine AW.block (q0m (q0g ?_))
 refine N2 ?_
 refine ifE hr (fun h4 hr=>?_) fun h4 hr=>?_
 refine q0o rfl (dT h4) ?_
 refine sr ?_
 refine N2 ?_
 refine ifE hr (fun h5 hr=>?_) fun h5 hr=>?_
 refine q0o rfl (dT h5) ?_
 refine sr ?_
 refine W2 ?_
 refine OB _ (j7T (p:=x1.Steps.length) (k:=1) (by decide)) ?_
 refine bdE hr fun q9 hq9 hr=>?_
 obtain⟨y12,z5⟩:=q9
 refine CB [(0,1)] [] (q4F hq9) ?_
 refine N1 ?_
 refine sr ?_
 refine W2 ?_
 refine IEd g2 (q3W (q4Y hx1)) ?_
 refine W1 ?_
 refine LPd [(1,7)] (q3W (q4Y hx1)) ?_
 refine W1 ?_
 refine ggE hr fun g3 hr=>?_
 refine bdE hr fun x2 hx2 hr=>?_
 refine IE hx2 g3 ?_
 refine LPa hx2 ?_
 refine NV 8 ?_
 refine SB ?_
 refine N0 ?_
 refine q0m (q0n (h:=?_))
 refine W2 ?_
 refine IEd g2 (q3W (q4Y hx1)) ?_
 refine W1 ?_
 refine LPd [(1,7)] (q3W (q4Y hx1)) ?_
 refine W3 ?_
 refine IEd g2 (q3W (q4Y hx1)) ?_
 refine W1 ?_
 refine LPd [(1,7)] (q3W (q4Y hx1)) ?_
 refine W1 ?_
 refine ggE hr fun g4 hr=>?_
 refine OB _ (bAdd g4) ?_
 refine ggE hr fun g5 hr=>?_
 refine bdE hr fun x3 hx3 hr=>?_
 refine IE hx3 g5 ?_
 refine LPa hx3 ?_
 refine IE hx2 g3 ?_
 refine SE x3 hx2 ?_
 refine N0 ?_
 refine q0n (h:=?_)
 refine W2 ?_
 refine IEd g2 (q3W (q4Y hx1)) ?_
 refine W1 ?_
 refine LPd [(1,7)] (q3W (q4Y hx1)) ?_
 refine W1 ?_
 refine ggE hr fun g6 hr=>?_
 refine OB _ (bAdd g6) ?_
 refine W1 ?_
 refine ggE hr fun g7 hr=>?_
 refine bdE hr fun x4 hx4 hr=>?_
 refine IE hx4 g7 ?_
 refine SE x2 hx4 ?_
 refine N0 ?_
 refine sr ?_
 refine W3 ?_
 refine SB ?_
 refine N2 ?_
 refine AW.ret ?_
 refine endA.gh (q0R 6 y10.toNat 1 7 (q3W (q4Y hx1)) (hx:=.flatM (fun _=>rfl))) ?_
 refine endA.gh (q0C 6 (he:=eset (f:=RPl_.W) (x':=(⟨x1.Rule,(List.set (List.set x1.Steps y12.toNat x3) ((y12+1).toNat) x2)⟩:RPl_)) (by first|rfl|(simp only[List.set_set];rfl)))) ?_
 cases hr
 exact q0j [(2,0),(3,1),(5,2),(6,3)] 4 hS
 refine q0p rfl (dF h5) ?_
 refine q0k ?_
 refine sr ?_
 refine W3 ?_
 refine SB ?_
 refine N2 ?_
 refine AW.ret ?_
 refine endA.gh (q0R 6 y10.toNat 1 7 (q3W (q4Y hx1)) (hx:=.flatM (fun _=>rfl))) ?_
 refine endA.gh (q0C 6 (he:=k7J (f:=RPl_.W) hx1 (by first|rfl|(simp only[List.set_set];rfl)))) ?_
 cases hr
 exact q0j [(2,0),(3,1),(5,2),(6,3)] 4 hS
 refine q0p rfl (dF h4) ?_
 refine sr ?_
 refine N2 ?_
 refine ifE hr (fun h6 hr=>?_) fun h6 hr=>?_
 refine q0o rfl (dT h6) ?_
 refine sr ?_
 refine W2 ?_
 refine bdE hr fun q10 hq10 hr=>?_
 obtain⟨y13,z6⟩:=q10
 refine CB [(0,1)] [] (q4F hq10) ?_
 refine N1 ?_
 refine q0n (h:=?_)
 refine W2 ?_
 refine L0 8 Step.D ?_
 refine W2 ?_
 refine IEd g2 (q3W (q4Y hx1)) ?_
 refine W1 ?_
 refine LPd [(1,7)] (q3W (q4Y hx1)) ?_
 refine W1 ?_
 refine ggE hr fun g8 hr=>?_
 refine ggE hr fun g9 hr=>?_
 refine SVH g8 g9 ?_
 refine ggE hr fun g10 hr=>?_
 refine APfV (f:=Step.D) 9 40 (fun _=>rfl) g10 ?_
 refine W2 ?_
 refine IEd g2 (q3W (q4Y hx1)) ?_
 refine W1 ?_
 refine LPd [(1,7)] (q3W (q4Y hx1)) ?_
 refine W1 ?_
 refine ggE hr fun g11 hr=>?_
 refine OB _ (bAdd g11) ?_
 refine ggE hr fun g12 hr=>?_
 refine ggE hr fun g13 hr=>?_
 refine SVL g12 g13 ?_
 refine ggE hr fun g14 hr=>?_
 refine APfV (f:=Step.D) 10 40 (fun _=>rfl) g14 ?_
 refine IEd g2 (q3W (q4Y hx1)) ?_
 refine W1 ?_
 refine SD [.w 4 ((((x1.Steps.drop 0).take y13.toNat)++(x1.Steps.drop ((y13+1).toNat))).map Step.D)] [10] (q3W (q4Y hx1)) ?_
 refine N0 ?_
 refine sr ?_
 refine W3 ?_
 refine SB ?_
 refine N2 ?_
 refine AW.ret ?_
 refine endA.gh (q0C 6 (he:=eset (f:=RPl_.W) (x':=(⟨x1.Rule,(((x1.Steps.drop 0).take y13.toNat)++(x1.Steps.drop ((y13+1).toNat)))⟩:RPl_)) (by first|rfl|(simp only[List.set_set];rfl)))) ?_
 cases hr
 exact q0j [(2,0),(3,1),(5,2),(6,3)] 4 hS
 refine q0p rfl (dF h6) ?_
 refine sr ?_
 refine N2 ?_
 refine ifE hr (fun h7 hr=>?_) fun h7 hr=>?_
 refine q0o rfl (dT h7) ?_
 refine sr ?_
 refine W2 ?_
 refine bdE hr fun q11 hq11 hr=>?_
 obtain⟨y14,z7⟩:=q11
 refine CB [(0,1)] [] (q4F hq11) ?_
 refine N1 ?_
 refine q0n (h:=?_)
 refine W2 ?_
 refine L0 8 Step.D ?_
 refine W2 ?_
 refine IEd g2 (q3W (q4Y hx1)) ?_
 refine W1 ?_
 refine LPd [(1,7)] (q3W (q4Y hx1)) ?_
 refine W1 ?_
 refine ggE hr fun g15 hr=>?_
 refine OB _ (bAdd g15) ?_
 refine ggE hr fun g16 hr=>?_
 refine ggE hr fun g17 hr=>?_
 refine SVH g16 g17 ?_
 refine ggE hr fun g18 hr=>?_
 refine APfV (f:=Step.D) 9 40 (fun _=>rfl) g18 ?_
 refine W2 ?_
 refine IEd g2 (q3W (q4Y hx1)) ?_
 refine W1 ?_
 refine LPd [(1,7)] (q3W (q4Y hx1)) ?_
 refine W1 ?_
 refine ggE hr fun g19 hr=>?_
 refine ggE hr fun g20 hr=>?_
 refine SVL g19 g20 ?_
 refine ggE hr fun g21 hr=>?_
 refine APfV (f:=Step.D) 10 40 (fun _=>rfl) g21 ?_
 refine IEd g2 (q3W (q4Y hx1)) ?_
 refine W1 ?_
 refine SD [.w 4 ((((x1.Steps.drop 0).take ((y14+1).toNat))++(x1.Steps.drop y14.toNat)).map Step.D)] [10] (q3W (q4Y hx1)) ?_
 refine N0 ?_
 refine sr ?_
 refine W3 ?_
 refine SB ?_
 refine N2 ?_
 refine AW.ret ?_
 refine endA.gh (q0C 6 (he:=eset (f:=RPl_.W) (x':=(⟨x1.Rule,(((x1.Steps.drop 0).take ((y14+1).toNat))++(x1.Steps.drop y14.toNat))⟩:RPl_)) (by first|rfl|(simp only[List.set_set];rfl)))) ?_
 cases hr
 exact q0j [(2,0),(3,1),(5,2),(6,3)] 4 hS
 refine q0p rfl (dF h7) ?_
 refine q0k ?_
 refine sr ?_
 refine W3 ?_
 refine SB ?_
 refine N2 ?_
 refine AW.ret ?_
 refine endA.gh (q0R 6 y10.toNat 1 7 (q3W (q4Y hx1)) (hx:=.flatM (fun _=>rfl))) ?_
 refine endA.gh (q0C 6 (he:=k7J (f:=RPl_.W) hx1 (by first|rfl|(simp only[List.set_set];rfl)))) ?_
 cases hr
 exact q0j [(2,0),(3,1),(5,2),(6,3)] 4 hS
theorem z9X {a0:(List UInt8)}{r:(Gm_×(List (List Phase))×(List RPl_))}(hr:q9o a0=some r):Ok Tryz.prog 6 [.d .fz (.sl 1 (a0.map byD))] [] (.tu [.ag [.ref 0 none,.ref 1 none],.ref 2 none,.ref 3 none]) [.deep .fz 2 (r.1.Symbols.map Symbol.O) [],.deep .fz 6 (r.1.Rules.map Rule.O) [],.row .fz 1 (r.2.1.map (fun (l:List Phase)=>A.D.sl 2 (l.map Phase.D))),.deep .fz 2 (r.2.2.map RPl_.W) []]:=by
 refine OE Tryz.func6 fun S hS=>?_
 unfold q9o at hr
 refine J g<|J (NV' 0)<|bdT hr fun y1 y2 y3 hq1 hr=>J g<|J (CB' [(0,1),(1,2),(2,3),(3,4)] [] (j2w hq1))<|e
theorem j8m {m2:Md}{a1:Step}{o0:l28Work}{r:(Bool×l28Work)}(hr:z5C a1 o0=some r):Ok Tryz.prog 36 [.pb 0 0,Step.x .fz a1] [.box [.d m2 (.sl 2 (o0.g.Symbols.map Symbol.D)),.d m2 (.sl 6 (o0.g.Rules.map Rule.D)),dS o0.r.Name,dS o0.r.Left,.d m2 (.sl 1 (o0.r.Right.map A.D.s)),dB o0.r.Literal,.d m2 (.sl 9 (o0.r.Equations.map Eqn.D)),.d m2 (.sl 16 (o0.r.Contributions.map Cn.D)),.d m2 (.sl 1 (o0.phases.map (fun (l:List Phase)=>A.D.sl 2 (l.map Phase.D)))),.ref 1 none,.ref 2 none,.ref 3 none],.row .fz 2 (o0.known.map Oc.D),.row .fz 1 (o0.visits.map (A.D.i .i64)),.row .fz 4 (o0.steps.map Step.D)] (dB r.1) [.box [.d m2 (.sl 2 (o0.g.Symbols.map Symbol.D)),.d m2 (.sl 6 (o0.g.Rules.map Rule.D)),dS r.2.r.Name,dS r.2.r.Left,.d m2 (.sl 1 (o0.r.Right.map A.D.s)),dB r.2.r.Literal,.d m2 (.sl 9 (o0.r.Equations.map Eqn.D)),.d m2 (.sl 16 (o0.r.Contributions.map Cn.D)),.d m2 (.sl 1 (o0.phases.map (fun (l:List Phase)=>A.D.sl 2 (l.map Phase.D)))),.ref 4 none,.ref 2 none,.ref 3 none],.dead,.row .fz 1 (r.2.visits.map (A.D.i .i64)),.row .fz 4 (r.2.steps.map Step.D),.row .fz 2 (r.2.known.map Oc.D)]:=by
 refine OE Tryz.func36 fun S hS=>?_
 unfold z5C at hr
 refine J g<|J (BX' 4)<|J g<|J (NV' 5)<|J (gn 8)<|ifE hr ?_ ?_<;>intro h1 hr
 refine bdE hr fun y1 hy1 hr=>J g<|J (CB' [(0,6)] [] (q5S (m:=m2) hy1))<|bdE hr fun y2 hy2 hr=>J g<|J (CB' [] [6] (q8R (m:=.bo) hy2))<|J (gn 2)<|ifE hr ?_ ?_<;>intro h2 hr
 refine bdE hr fun y3 hy3 hr=>J g<|J (CB' [] [1] (q8R (m:=.bo) hy3))<|J (gn 1)<|ifE hr ?_ ?_<;>intro h3 hr
 refine J (gn 13) ?_
 refine J (q0c (q0q (i:=1) (j:=7) rfl rfl))<|J g<|E
 refine bdE hr fun y4 hy4 hr=>J g<|CBK2 [(0,0),(1,1),(2,2),(3,3)] [] [] (z9n (m2:=m2) hy4) ?_
 refine J (gn 3)<|ifE hr ?_ ?_<;>intro h4 hr
 refine J g<|J (LIR' 7 (m:=.fz) (f:=Oc.D) (xs:=[(⟨a1.Pos,a1.Name⟩:Oc)]))<|ggE hr fun g1 hr=>J (z3z (f:=Oc.D) 8 (fun _=>rfl) 24 g1)<|e
 refine J (gn 6) ?_
 refine J (q0c (q0q (i:=1) (j:=7) rfl rfl))<|J g<|E
 refine J (gn 21) ?_
 refine J (q0c (q0q (i:=1) (j:=7) rfl rfl))<|J g<|E
 refine J (gn 35) ?_
 refine J (q0c (q0q (i:=1) (j:=6) rfl rfl))<|J g<|E
theorem j6R {m2:Md}{a1:Step}{o0:l28Work}{r:(Bool×l28Work)}(hr:z4s a1 o0=some r):Ok Tryz.prog 37 [.pb 0 0,Step.x .fz a1] [.box [.d m2 (.sl 2 (o0.g.Symbols.map Symbol.D)),.d m2 (.sl 6 (o0.g.Rules.map Rule.D)),dS o0.r.Name,dS o0.r.Left,.d m2 (.sl 1 (o0.r.Right.map A.D.s)),dB o0.r.Literal,.d m2 (.sl 9 (o0.r.Equations.map Eqn.D)),.d m2 (.sl 16 (o0.r.Contributions.map Cn.D)),.d m2 (.sl 1 (o0.phases.map (fun (l:List Phase)=>A.D.sl 2 (l.map Phase.D)))),.ref 1 none,.ref 2 none,.ref 3 none],.row .fz 2 (o0.known.map Oc.D),.row .fz 1 (o0.visits.map (A.D.i .i64)),.row .fz 4 (o0.steps.map Step.D)] (dB r.1) [.box [.d m2 (.sl 2 (o0.g.Symbols.map Symbol.D)),.d m2 (.sl 6 (o0.g.Rules.map Rule.D)),dS r.2.r.Name,dS r.2.r.Left,.d m2 (.sl 1 (o0.r.Right.map A.D.s)),dB r.2.r.Literal,.d m2 (.sl 9 (o0.r.Equations.map Eqn.D)),.d m2 (.sl 16 (o0.r.Contributions.map Cn.D)),.d m2 (.sl 1 (o0.phases.map (fun (l:List Phase)=>A.D.sl 2 (l.map Phase.D)))),.ref 4 none,.ref 2 none,.ref 3 none],.dead,.row .fz 1 (r.2.visits.map (A.D.i .i64)),.row .fz 4 (r.2.steps.map Step.D),.row .fz 2 (r.2.known.map Oc.D)]:=by
 refine OE Tryz.func37 fun S hS=>?_
 unfold z4s at hr
 refine J g<|J (BX' 4)<|bdE hr fun y1 hy1 hr=>J g<|J (CB' [] [] (q5R hy1))<|J (gn 1)<|ifE hr ?_ ?_<;>intro h1 hr
 refine J (gn 6)<|ifE hr ?_ ?_<;>intro h2 hr
 refine ggE hr fun g1 hr=>ggE hr fun g2 hr=>bdE hr fun x1 hx1 hr=>bdE hr fun y2 hy2 hr=>J g<|J (CB' [] [] (z1G (m:=m2) hy2))<|ggE hr fun g3 hr=>ggE hr fun g4 hr=>bdE hr fun x2 hx2 hr=>ggE hr fun g5 hr=>J (gn 23)<|ifE hr ?_ ?_<;>intro h3 hr
 refine J (gn 6)<|ifE hr ?_ ?_<;>intro h4 hr
 refine J (gn 19) ?_
 refine J (q0c (q0q (i:=1) (j:=5) rfl rfl))<|J g<|E
 refine ggE hr fun g6 hr=>bdE hr fun x3 hx3 hr=>bdE hr fun y3 hy3 hr=>J g<|CBK2 [(0,0),(1,1),(2,2),(3,3)] [] [] (z4R (m:=m2) (m2:=m2) hy3) ?_
 refine J (gn 3)<|ifE hr ?_ ?_<;>intro h5 hr
 refine ggE hr fun g7 hr=>ggE hr fun g8 hr=>J g<|J (SE' (x2+1) hx2)<|bdE hr fun z1 hz1 hr=>J g<|J (CB' [(0,0),(1,1),(2,2),(3,3),(4,5)] [] (z3e (m:=m2) (m2:=m2) hz1))<|e
 refine J (gn 6) ?_
 refine J (q0c (q0q (i:=1) (j:=5) rfl rfl))<|J g<|E
 refine J (gn 25) ?_
 refine J (q0c (q0q (i:=1) (j:=5) rfl rfl))<|J g<|E
 refine J (gn 6) ?_
 refine J (q0c (q0q (i:=1) (j:=5) rfl rfl))<|J g<|E
 refine J (gn 12) ?_
 refine J (q0c (q0q (i:=1) (j:=5) rfl rfl))<|J g<|E
theorem z5I {m:Md}{a0:Gm_}{a1:(List (List Phase))}{a2:Rule}{a3:(List Step)}{r:Bool}(hr:q6D a0 a1 a2 a3=some r):Ok Tryz.prog 11 [Gm_.x m a0,.d m (.sl 1 (a1.map (fun (l:List Phase)=>A.D.sl 2 (l.map Phase.D)))),Rule.x m a2,.d m (.sl 4 (a3.map Step.D))] [] (dB r) []:=by
 refine Ok.enter rfl Tryz.func11 rfl rfl rfl fun S hS=>?_
 unfold q6D at hr
 refine sr ?_
 refine BX 0 ?_
 refine BX 1 ?_
 refine N1 ?_
 refine q0m (q0n (h:=?_))
 refine W5 ?_
 refine LF ?_
 refine ggE hr fun g1 hr=>?_
 refine MKR 2 (f:=(A.D.i .i64)) (0:Int) g1.1 g1.2.1 g1.2.2 ?_
 refine W1 ?_
 refine BX 3 ?_
 refine N1 ?_
 refine sr ?_
 refine W4 ?_
 refine bdE hr fun y1 hy1 hr=>?_
 refine CB [] [] (z1G (m:=m) hy1) ?_
 refine N1 ?_
 refine ssr ?_
 refine W1 ?_
 refine LF ?_
 refine N1 ?_
 refine ifE hr (fun h1 hr=>?_) fun h1 hr=>?_
 refine q0o rfl (dT h1) ?_
 refine sr ?_
 refine N1 ?_
 refine AW.ret ?_
 cases hr
 exact q0j [] 0 hS
 refine q0p rfl (dF h1) ?_
 refine q0k ?_
 refine sr ?_
 refine N1 ?_
 refine sr ?_
 refine W2 ?_
 refine bdE hr fun x1 hx1 hr=>?_
 refine IF (Int.natCast_nonneg _) hx1 ?_
 refine W2 ?_
 refine q2n 3 9 4 .fz 2 rfl rfl ?_
 refine q2n 3 11 5 .fz 4 rfl rfl ?_
 refine bdE hr fun z1 hz1 hr=>?_
 refine CB [(0,3),(1,4),(2,2),(3,5),(4,6)] [] (z3e (m:=m) (m2:=m) hz1) ?_
 refine N0 ?_
 refine ssr ?_
 refine N1 ?_
 refine AW.block ?_
 refine AW.len (.tmp 3 rfl) fun hl1=>?_
 refine bdE hr fun q1 hqq1 hr=>?_
 refine q0b hqq1 hl1 7 (fun k1 (s2,s3,s4,s5,s1,s6,s7)=>[(3,.d m (.sl 4 (a3.map Step.D))),(9,.pb 3 0),(10,.d m (.sl 2 (y1.map Phase.D))),(11,dI s7),(12,dI (k1:Int))]) (fun k1 (s2,s3,s4,s5,s1,s6,s7)=>[(2,.row .fz 1 (s2.map (A.D.i .i64))),(3,.box [.d m (.sl 2 (a0.Symbols.map Symbol.D)),.d m (.sl 6 (a0.Rules.map Rule.D)),dS s3,dS s4,.d m (.sl 1 (a2.Right.map A.D.s)),dB s5,.d m (.sl 9 (a2.Equations.map Eqn.D)),.d m (.sl 16 (a2.Contributions.map Cn.D)),.d m (.sl 1 (a1.map (fun (l:List Phase)=>A.D.sl 2 (l.map Phase.D)))),.ref 6 none,.ref 2 none,.ref 5 none]),(4,.none),(5,.row .fz 4 (s6.map Step.D)),(6,.row .fz 2 (s1.map Oc.D))]) (q0h hS [(0,0),(1,1),(2,2),(3,3),(5,5),(6,6)] 7) (fun k1 xk1 sk1 ok1 hxk1 hr hltk1 hik1=>?_) fun k1 sk1 ek1 hltk1=>?_
 obtain⟨s2,s3,s4,s5,s1,s6,s7⟩:=sk1
 refine ssr ?_
 refine W2 ?_
 refine LF ?_
 refine N1 ?_
 refine q0o rfl (dT hltk1) ?_
 refine q0k ?_
 refine q0m (AW.block (q0m (q0g ?_)))
 refine W2 ?_
 refine IF (Int.natCast_nonneg _) hxk1 ?_
 refine W1 ?_
 refine NV 7 ?_
 refine SB ?_
 refine N0 ?_
 refine sr ?_
 refine W2 ?_
 refine LF ?_
 refine N2 ?_
 refine ssr ?_
 refine N2 ?_
 refine AW.block (q0m (q0g ?_))
 refine N2 ?_
 refine ifE hr (fun h2 hr=>?_) fun h2 hr=>?_
 refine q0o rfl (dT h2) ?_
 refine q0g ?_
 refine W1 ?_
 refine bdE hr fun q2 hqq2 hr=>?_
 obtain⟨s16,s17,s18,s19,s20,s15,s21⟩:=q2
 refine q0u 5 8 [(3,.d m (.sl 4 (a3.map Step.D))),(9,.pb 3 0),(10,.d m (.sl 2 (y1.map Phase.D))),(11,dI s7),(12,dI (k1:Int)),(14,dB (decide (s7<(y1.length:Int)))),(61,dB s16)] [(2,.row .fz 1 (s17.map (A.D.i .i64))),(3,.box [.d m (.sl 2 (a0.Symbols.map Symbol.D)),.d m (.sl 6 (a0.Rules.map Rule.D)),dS s18,dS s19,.d m (.sl 1 (a2.Right.map A.D.s)),dB s20,.d m (.sl 9 (a2.Equations.map Eqn.D)),.d m (.sl 16 (a2.Contributions.map Cn.D)),.d m (.sl 1 (a1.map (fun (l:List Phase)=>A.D.sl 2 (l.map Phase.D)))),.ref 6 none,.ref 2 none,.ref 5 none]),(5,.row .fz 4 (s21.map Step.D)),(6,.row .fz 2 (s15.map Oc.D))] ?_ ?_
 replace hr:=hqq2
 refine ifE hr (fun h3 hr=>?_) fun h3 hr=>?_
 refine VT rfl (dT h3) ?_
 refine W2 ?_
 refine bdE hr fun q3 hq3 hr=>?_
 obtain⟨y2,z2⟩:=q3
 refine CB [(0,3),(1,6),(2,2),(3,5),(4,8)] [] (j8m (m2:=m) hq3) ?_
 refine N1 ?_
 cases hr
 exact q0h hS [(0,0),(1,1),(2,2),(3,3),(5,5),(8,6),(7,7)] 8
 refine VF rfl (dF h3) ?_
 iterate 3 refine AL.off ?_
 refine N1 ?_
 cases hr
 exact q0h hS [(0,0),(1,1),(2,2),(3,3),(5,5),(6,6),(7,7)] 8
 refine N1 ?_
 refine sr ?_
 refine N2 ?_
 refine ifE hr (fun h4 hr=>?_) fun h4 hr=>?_
 refine q0p rfl (bnF h4) ?_
 refine q0k ?_
 refine q0g ?_
 refine W1 ?_
 refine OB _ (z1R (p:=k1) (q:=1) (q4J hltk1 hl1)) ?_
 refine N1 ?_
 cases hr
 exact⟨_,rfl,q0h hS [(0,0),(1,1),(2,2),(3,3),(5,5),(6,6)] 7⟩
 refine q0o rfl (bnT h4) ?_
 refine sr ?_
 refine N1 ?_
 refine AW.ret ?_
 cases hr
 cases hik1 _ rfl
 rename_i hr
 cases hr
 exact q0j [] 0 hS
 refine q0p rfl (dF h2) ?_
 refine sr ?_
 refine N2 ?_
 refine ifE hr (fun h5 hr=>?_) fun h5 hr=>?_
 refine q0o rfl (dT h5) ?_
 refine q0g ?_
 refine W1 ?_
 refine bdE hr fun q4 hqq4 hr=>?_
 obtain⟨s30,s31,s32,s33,s34,s29,s35⟩:=q4
 refine q0u 5 8 [(3,.d m (.sl 4 (a3.map Step.D))),(9,.pb 3 0),(10,.d m (.sl 2 (y1.map Phase.D))),(11,dI s7),(12,dI (k1:Int)),(14,dB (decide (s7<(y1.length:Int)))),(69,dB s30)] [(2,.row .fz 1 (s31.map (A.D.i .i64))),(3,.box [.d m (.sl 2 (a0.Symbols.map Symbol.D)),.d m (.sl 6 (a0.Rules.map Rule.D)),dS s32,dS s33,.d m (.sl 1 (a2.Right.map A.D.s)),dB s34,.d m (.sl 9 (a2.Equations.map Eqn.D)),.d m (.sl 16 (a2.Contributions.map Cn.D)),.d m (.sl 1 (a1.map (fun (l:List Phase)=>A.D.sl 2 (l.map Phase.D)))),.ref 6 none,.ref 2 none,.ref 5 none]),(5,.row .fz 4 (s35.map Step.D)),(6,.row .fz 2 (s29.map Oc.D))] ?_ ?_
 replace hr:=hqq4
 refine ifE hr (fun h6 hr=>?_) fun h6 hr=>?_
 refine VT rfl (dT h6) ?_
 refine W2 ?_
 refine bdE hr fun q5 hq5 hr=>?_
 obtain⟨y3,z3⟩:=q5
 refine CB [(0,3),(1,6),(2,2),(3,5),(4,8)] [] (j6R (m2:=m) hq5) ?_
 refine N1 ?_
 cases hr
 exact q0h hS [(0,0),(1,1),(2,2),(3,3),(5,5),(8,6),(7,7)] 8
 refine VF rfl (dF h6) ?_
 iterate 3 refine AL.off ?_
 refine N1 ?_
 cases hr
 exact q0h hS [(0,0),(1,1),(2,2),(3,3),(5,5),(6,6),(7,7)] 8
 refine N1 ?_
 refine sr ?_
 refine N2 ?_
 refine ifE hr (fun h7 hr=>?_) fun h7 hr=>?_
 refine q0p rfl (bnF h7) ?_
 refine q0k ?_
 refine q0g ?_
 refine W1 ?_
 refine OB _ (z1R (p:=k1) (q:=1) (q4J hltk1 hl1)) ?_
 refine N1 ?_
 cases hr
 exact⟨_,rfl,q0h hS [(0,0),(1,1),(2,2),(3,3),(5,5),(6,6)] 7⟩
 refine q0o rfl (bnT h7) ?_
 refine sr ?_
 refine N1 ?_
 refine AW.ret ?_
 cases hr
 cases hik1 _ rfl
 rename_i hr
 cases hr
 exact q0j [] 0 hS
 refine q0p rfl (dF h5) ?_
 refine sr ?_
 refine N2 ?_
 refine ifE hr (fun h8 hr=>?_) fun h8 hr=>?_
 refine q0o rfl (dT h8) ?_
 refine sr ?_
 refine W1 ?_
 refine bdE hr fun s36 hqq6 hr=>?_
 refine q0a 5 [(3,.d m (.sl 4 (a3.map Step.D))),(9,.pb 3 0),(10,.d m (.sl 2 (y1.map Phase.D))),(11,dI s7),(12,dI (k1:Int)),(13,.pb 7 0),(14,dB (decide (s7<(y1.length:Int)))),(77,dB s36)] ?_ ?_
 replace hr:=hqq6
 refine ifE hr (fun h9 hr=>?_) fun h9 hr=>?_
 refine VT rfl (dT h9) ?_
 refine N4 ?_
 cases hr
 exact z0M
 refine VF rfl (dF h9) ?_
 iterate 3 refine AL.off ?_
 refine N1 ?_
 cases hr
 exact z0M
 refine bdE hr fun s37 hqq7 hr=>?_
 refine q0a 5 [(3,.d m (.sl 4 (a3.map Step.D))),(9,.pb 3 0),(10,.d m (.sl 2 (y1.map Phase.D))),(11,dI s7),(12,dI (k1:Int)),(13,.pb 7 0),(14,dB (decide (s7<(y1.length:Int)))),(82,dB s37)] ?_ ?_
 replace hr:=hqq7
 refine ifE hr (fun h10 hr=>?_) fun h10 hr=>?_
 refine VT rfl h10 ?_
 refine N4 ?_
 cases hr
 exact z0M
 refine VF rfl (bF h10) ?_
 iterate 3 refine AL.off ?_
 refine N1 ?_
 cases hr
 exact z0M
 refine bdE hr fun s38 hqq8 hr=>?_
 refine q0a 7 [(3,.d m (.sl 4 (a3.map Step.D))),(9,.pb 3 0),(10,.d m (.sl 2 (y1.map Phase.D))),(11,dI s7),(12,dI (k1:Int)),(14,dB (decide (s7<(y1.length:Int)))),(89,dB s38)] ?_ ?_
 replace hr:=hqq8
 refine ifE hr (fun h11 hr=>?_) fun h11 hr=>?_
 refine VT rfl h11 ?_
 refine W3 ?_
 refine ggE hr fun g2 hr=>?_
 refine OB _ (bAdd g2) ?_
 refine N2 ?_
 cases hr
 exact z0M
 refine VF rfl (bF h11) ?_
 iterate 5 refine AL.off ?_
 refine N1 ?_
 cases hr
 exact z0M
 refine bdE hr fun s39 hqq9 hr=>?_
 refine q0a 9 [(3,.d m (.sl 4 (a3.map Step.D))),(9,.pb 3 0),(10,.d m (.sl 2 (y1.map Phase.D))),(11,dI s7),(12,dI (k1:Int)),(14,dB (decide (s7<(y1.length:Int)))),(98,dB s39)] ?_ ?_
 replace hr:=hqq9
 refine ifE hr (fun h12 hr=>?_) fun h12 hr=>?_
 refine VT rfl h12 ?_
 refine W3 ?_
 refine ggE hr fun g3 hr=>?_
 refine bdE hr fun x2 hx2 hr=>?_
 refine IF g3 hx2 ?_
 refine W2 ?_
 refine bdE hr fun y4 hy4 hr=>?_
 refine CB [(0,3),(1,6),(2,2),(3,5)] [] (z4R (m:=m) (m2:=m) hy4) ?_
 refine N1 ?_
 cases hr
 exact z0M
 refine VF rfl (bF h12) ?_
 iterate 7 refine AL.off ?_
 refine N1 ?_
 cases hr
 exact z0M
 refine N1 ?_
 refine sr ?_
 refine W1 ?_
 refine ggE hr fun g4 hr=>?_
 refine OB _ (bAdd g4) ?_
 refine N1 ?_
 refine sr ?_
 refine W1 ?_
 refine bdE hr fun s40 hqq10 hr=>?_
 refine q0a 6 [(3,.d m (.sl 4 (a3.map Step.D))),(9,.pb 3 0),(10,.d m (.sl 2 (y1.map Phase.D))),(11,dI (s7+1)),(12,dI (k1:Int)),(14,dB s39),(107,dB s40)] ?_ ?_
 replace hr:=hqq10
 refine ifE hr (fun h13 hr=>?_) fun h13 hr=>?_
 refine VT rfl h13 ?_
 refine W2 ?_
 refine LF ?_
 refine N2 ?_
 cases hr
 exact z0M
 refine VF rfl (bF h13) ?_
 iterate 4 refine AL.off ?_
 refine N1 ?_
 cases hr
 exact z0M
 refine N0 ?_
 refine ifE hr (fun h14 hr=>?_) fun h14 hr=>?_
 refine q0o rfl h14 ?_
 refine q0g ?_
 refine W3 ?_
 refine ggE hr fun g5 hr=>?_
 refine bdE hr fun x3 hx3 hr=>?_
 refine IF g5 hx3 ?_
 refine W2 ?_
 refine bdE hr fun z4 hz4 hr=>?_
 refine CB [(0,3),(1,6),(2,2),(3,5),(4,8)] [] (z3e (m:=m) (m2:=m) hz4) ?_
 refine N0 ?_
 refine sr ?_
 refine N2 ?_
 refine ifE hr (fun h15 hr=>?_) fun h15 hr=>?_
 refine q0p rfl (bnF h15) ?_
 refine q0k ?_
 refine q0g ?_
 refine W1 ?_
 refine OB _ (z1R (p:=k1) (q:=1) (q4J hltk1 hl1)) ?_
 refine N1 ?_
 cases hr
 exact⟨_,rfl,q0h hS [(0,0),(1,1),(2,2),(3,3),(5,5),(8,6)] 7⟩
 refine q0o rfl (bnT h15) ?_
 refine sr ?_
 refine N1 ?_
 refine AW.ret ?_
 cases hr
 cases hik1 _ rfl
 rename_i hr
 cases hr
 exact q0j [] 0 hS
 refine q0p rfl (bF h14) ?_
 refine q0k ?_
 refine sr ?_
 refine N2 ?_
 refine ifE hr (fun h16 hr=>?_) fun h16 hr=>?_
 refine q0p rfl (bnF h16) ?_
 refine q0k ?_
 refine q0g ?_
 refine W1 ?_
 refine OB _ (z1R (p:=k1) (q:=1) (q4J hltk1 hl1)) ?_
 refine N1 ?_
 cases hr
 exact⟨_,rfl,q0h hS [(0,0),(1,1),(2,2),(3,3),(5,5),(6,6)] 7⟩
 refine q0o rfl (bnT h16) ?_
 refine sr ?_
 refine N1 ?_
 refine AW.ret ?_
 cases hr
 cases hik1 _ rfl
 rename_i hr
 cases hr
 exact q0j [] 0 hS
 refine q0p rfl (dF h8) ?_
 refine q0g ?_
 refine N1 ?_
 refine sr ?_
 refine N2 ?_
 refine q0o rfl rfl ?_
 refine sr ?_
 refine N1 ?_
 refine AW.ret ?_
 cases hr
 cases hik1 _ rfl
 rename_i hr
 cases hr
 exact q0j [] 0 hS
 subst ek1
 obtain⟨s2,s3,s4,s5,s1,s6,s7⟩:=sk1
 refine ssr ?_
 refine W2 ?_
 refine LF ?_
 refine N1 ?_
 refine q0p rfl (dF hltk1) ?_
 refine q0t ?_
 refine sr ?_
 refine W2 ?_
 refine LF ?_
 refine W1 ?_
 refine bdE hr fun s41 hqq11 hr=>?_
 refine q0a 4 [(124,dB s41)] ?_ ?_
 replace hr:=hqq11
 refine ifE hr (fun h17 hr=>?_) fun h17 hr=>?_
 refine VT rfl (dT h17) ?_
 refine W1 ?_
 refine bdE hr fun y5 hy5 hr=>?_
 refine CB [(0,3),(1,6),(2,2),(3,5)] [] (j0K (m2:=m) hy5) ?_
 refine N1 ?_
 cases hr
 exact z0M
 refine VF rfl (dF h17) ?_
 iterate 2 refine AL.off ?_
 refine N1 ?_
 cases hr
 exact z0M
 refine N1 ?_
 refine AW.ret ?_
 cases hr
 exact q0j [] 0 hS
theorem j5k {m:Md}{a0:Gm_}{a1:(List (List Phase))}{a2:(List RPl_)}{r:Bool}(hr:z3d a0 a1 a2=some r):Ok Tryz.prog 8 [Gm_.x m a0,.d m (.sl 1 (a1.map (fun (l:List Phase)=>A.D.sl 2 (l.map Phase.D)))),.d m (.sl 2 (a2.map RPl_.D))] [] (dB r) []:=by
 refine OE Tryz.func8 fun S hS=>?_
 unfold z3d at hr
 refine J g<|J (BX' 0)<|bdE hr fun y1 hy1 hr=>J g<|J (CB' [] [] (j0J (m:=m) hy1))<|bdE hr fun s1 hqq1 hr=>J (gn 1)<|q0a 8 [(1,.d m (.sl 1 (a1.map (fun (l:List Phase)=>A.D.sl 2 (l.map Phase.D))))),(2,.d m (.sl 2 (a2.map RPl_.D))),(3,.pb 0 0),(19,dB s1)] ?_ ?_
 replace hr:=hqq1
 refine ifE hr ?_ ?_<;>intro h1 hr
 exact e
 exact e
 refine bdE hr fun s2 hqq2 hr=>q0a 8 [(1,.d m (.sl 1 (a1.map (fun (l:List Phase)=>A.D.sl 2 (l.map Phase.D))))),(2,.d m (.sl 2 (a2.map RPl_.D))),(3,.pb 0 0),(27,dB s2)] ?_ ?_
 replace hr:=hqq2
 refine ifE hr ?_ ?_<;>intro h2 hr
 exact e
 exact e
 refine J (gn 1)<|ifE hr ?_ ?_<;>intro h3 hr
 exact e
 refine J (gn 8)<|J (lenT 1)<|fun hl1=>bdE hr fun q3 hqq3 hr=>q0b hqq3 hl1 1 (fun k1 _=>[(1,.d m (.sl 1 (a1.map (fun (l:List Phase)=>A.D.sl 2 (l.map Phase.D))))),(2,.d m (.sl 2 (a2.map RPl_.D))),(3,.pb 0 0),(7,dI (k1:Int))]) (fun k1 _=>[]) I (fun k1 xk1 sk1 ok1 hxk1 hr hltk1 hik1=>?_) fun k1 sk1 ek1 hltk1=>?_
 refine J (gn 21)<|ifE hr ?_ ?_<;>intro h4 hr
 exact e
 exact e
 subst ek1
 refine J (gn 16)<|J (lenT 2)<|fun hl2=>bdE hr fun q4 hqq4 hr=>q0b hqq4 hl2 1 (fun k2 _=>[(1,.d m (.sl 1 (a1.map (fun (l:List Phase)=>A.D.sl 2 (l.map Phase.D))))),(2,.d m (.sl 2 (a2.map RPl_.D))),(3,.pb 0 0),(8,dI (k2:Int))]) (fun k2 _=>[]) I (fun k2 xk2 sk2 ok2 hxk2 hr hltk2 hik2=>?_) fun k2 sk2 ek2 hltk2=>?_
 refine bdE hr fun x1 hx1 hr=>J (gn 26)<|ifE hr ?_ ?_<;>intro h5 hr
 refine bdE hr fun y2 hy2 hr=>J g<|J (CB' [] [] (z5I (m:=m) hy2))<|J (gn 3)<|ifE hr ?_ ?_<;>intro h6 hr
 exact e
 exact e
 exact e
 subst ek2
 exact e
theorem j8n {m:Md}{a0:(List RPl_)}{a1:ByteArray}{r:(List Step)}(hr:z5D a0 a1=some r):Ok Tryz.prog 28 [.d m (.sl 2 (a0.map RPl_.D)),dS a1] [] (.ref 0 none) [.row .fz 4 (r.map Step.D)]:=by
 refine OE Tryz.func28 fun S hS=>?_
 unfold z5D at hr
 refine J (gn 10)<|J (lenT 0)<|fun hl1=>bdE hr fun q1 hqq1 hr=>q0b hqq1 hl1 0 (fun k1 _=>[(0,.d m (.sl 2 (a0.map RPl_.D))),(1,dS a1),(5,dI (k1:Int))]) (fun k1 _=>[]) I (fun k1 xk1 sk1 ok1 hxk1 hr hltk1 hik1=>?_) fun k1 sk1 ek1 hltk1=>?_
 refine J (gn 22)<|ifE hr ?_ ?_<;>intro h1 hr
 refine J g<|J (L0' 0 Step.D)<|ggE hr fun g1 hr=>J g<|J (j4Z (f:=Step.D) 1 40 (fun _=>rfl) g1)<|e
 exact e
 subst ek1
 refine J g<|J (L0' 0 Step.D)<|e
theorem z7w {a0:(List UInt8)}{r:(Gm_×(List (List Phase))×Rule×(List Step))}(hr:q7s a0=some r):Ok Tryz.prog 9 [.d .fz (.sl 1 (a0.map byD))] [] (.tu [Gm_.x .fz r.1,.ref 0 none,Rule.x .fz r.2.2.1,.ref 1 none]) [.row .fz 1 (r.2.1.map (fun (l:List Phase)=>A.D.sl 2 (l.map Phase.D))),.row .fz 4 (r.2.2.2.map Step.D)]:=by
 refine OE Tryz.func9 fun S hS=>?_
 unfold q7s at hr
 refine J g<|J (NV' 0)<|J g<|J (NV' 1)<|bdT hr fun y1 y2 y3 hq1 hr=>J g<|J (CB' [(0,2),(1,3),(2,4),(3,5)] [] (j2w hq1))<|J g<|J (NV' 6)<|J (gn 5) ?_
 refine q0E 2 Symbol.D (by exact fun _=>rfl) rfl ?_
 refine q0E 3 Rule.D (by exact fun _=>rfl) rfl ?_
 refine q0E 5 RPl_.D OwD.rd rfl ?_
 refine bdE hr fun y4 hy4 hr=>J g<|J (CB' [(0,7)] [] (j6G hy4))<|bdP hr fun y5 z1 hq2 hr=>J g<|J (CB' [(0,7)] [] (q4F hq2))<|ggE hr fun g1 hr=>bdE hr fun x1 hx1 hr=>bdE hr fun y6 hy6 hr=>J g<|J (CB' [(0,8)] [] (j8n (m:=.fz) hy6))<|e
end Go.Proofs.YtppbkkcekpbaiaaGreat
