/- What some functions of the program compute, as partial functions on plain data, and that they do; each lemma bears its conditions in its statement. -/
import Derived.Test.YtgkepiefcpfimaaGreatDoorDef
set_option linter.unusedVariables false
set_option linter.unusedSimpArgs false
set_option linter.ambiguousOpen false
set_option linter.unusedSectionVars false
set_option linter.unnecessarySimpa false
set_option maxRecDepth 100000
set_option maxHeartbeats 40000000
noncomputable section
open Int renaming natCast_nonneg→Dpz
open List renaming map_cons→Blz,map_nil→Ddz
namespace Go.Proofs.YtgkepiefcpfimaaGreatDoor
open Go Go.E Go.A
theorem k3d {a0:List UInt8}{r:L1_}(hr:z8o a0=some r):Okp 25 [rw0 .fz a0] [] (.pb 0 0) [cuB r.b r.i r.h]:=by
 refine OE Tryz.func25 fun S hS=>?_
 unfold z8o at hr
 refine J g<|J (OB' _ j8T)<|bdE hr fun s1 hqq1 hr=>J (gn 7)<|q0d 0 [(0,rw0 .fz a0),(3,dI s1)] [] ?_ ?_
 refine J g<|q0i hqq1 0 (fun (s2,s3)=>[(0,rw0 .fz a0),(3,dI s2),(4,dI s3)]) (fun (s2,s3)=>[]) I fun sk1 ok1 hr hik1=>?_
 obtain⟨s2,s3⟩:=sk1
 have hr:=hr
 refine fE 7 hr ?_ ?_<;>intro h1 hr
 refine fE 5 hr ?_ ?_<;>intro h2 hr
 refine J g<|J (OB' _ k8Y)<|ggE hr fun g1 hr=>bdE hr fun x1 hx1 hr=>J g ?_
 refine J (CUB' rfl)<|J (OB' _ j8T)<|J (OB' _ j8T)<|J (OB' _ k2R)<|J g<|J (OB' _ j8T)<|J g<|E
 refine J (gn 2) ?_
 cases hr
 cases hik1 _ rfl
 exact q0g hS 0
 refine J (gn 7) ?_
 cases hr
 cases hik1 _ rfl
 exact q0g hS 0
 refine J g<|J (BX' 0)<|e
theorem z6f {o0:L1_}{r:(Int×L1_)}(hr:z1J o0=some r):Okp 111 [.pb 0 0] [cuB o0.b o0.i o0.h] (dI r.1) [cuB o0.b r.2.i r.2.h]:=by
 refine OE Tryz.func111 fun S hS=>?_
 unfold z1J at hr
 refine J g<|J (OB' _ k8Y)<|J (OB' _ j8T)<|J g<|J (OB' _ (k8Z (b:=33) (by decide)))<|J g<|J (OB' _ (k8Z (b:=45) (by decide)))<|J (OB' _ k9F)<|J (OB' _ k2R)<|fE 16 hr ?_ ?_<;>intro h1 hr
 refine ggE hr fun g1 hr=>bdE hr fun x1 hx1 hr=>J g ?_
 refine J (CUB' rfl)<|J (OB' _ j8T)<|J (OB' _ k2R)<|J (q0I .refl)<|J g<|J (OB' _ j8T)<|J g<|E
 exact e
theorem q3T {a1:Int}{o0:L1_}{r:(Int×L1_)}(hr:q3R a1 o0=some r):Okp 58 [.pb 0 0,dI a1] [cuB o0.b o0.i o0.h] (dI r.1) [cuB o0.b r.2.i r.2.h]:=by
 refine OE Tryz.func58 fun S hS=>?_
 unfold q3R at hr
 refine fE 10 hr ?_ ?_<;>intro h1 hr
 exact e
 refine fE 8 hr ?_ ?_<;>intro h2 hr
 refine bdP hr fun y1 z1 hq1 hr=>J g<|J (CB' [(0,0)] [] (z6f hq1))<|ggE hr fun g1 hr=>J g<|J (OB' _ (bRem (b:=a1) g1))<|e
 refine bdP hr fun y2 z2 hq2 hr=>J g<|J (CB' [(0,0)] [] (z6f hq2))<|bdP hr fun y3 z3 hq3 hr=>J g<|J (CB' [(0,0)] [] (z6f hq3))<|bdP hr fun y4 z4 hq4 hr=>J g<|J (CB' [(0,0)] [] (z6f hq4))<|bdP hr fun y5 z5 hq5 hr=>J g<|J (CB' [(0,0)] [] (z6f hq5))<|ggE hr fun g2 hr=>J g<|J (OB' _ (bMul g2))<|ggE hr fun g3 hr=>J g<|J (OB' _ (bMul g3))<|ggE hr fun g4 hr=>ggE hr fun g5 hr=>J g<|J (OB' _ (bMul g5))<|ggE hr fun g6 hr=>ggE hr fun g7 hr=>ggE hr fun g8 hr=>J g<|J (OB' _ (bRem (b:=a1) g8)) ?_
 exact e
theorem q5S {a1:Int}{o0:L1_}{r:(Bool×L1_)}(hr:q5u a1 o0=some r):Okp 26 [.pb 0 0,dI a1] [cuB o0.b o0.i o0.h] (dB r.1) [cuB o0.b r.2.i r.2.h]:=by
 refine OE Tryz.func26 fun S hS=>?_
 unfold q5u at hr
 refine bdP hr fun y1 z1 hq1 hr=>J g<|J (CB' [(0,0)] [] (q3T hq1))<|e
theorem q6H {m:Md}{a1:List Int}{o0:L1_}{r:(Int×L1_)}(hr:q5J a1 o0=some r):Okp 116 [.pb 0 0,rw1 m a1] [cuB o0.b o0.i o0.h] (dI r.1) [cuB o0.b r.2.i r.2.h]:=by
 refine OE Tryz.func116 fun S hS=>?_
 unfold q5J at hr
 refine bdP hr fun y1 z1 hq1 hr=>J g<|J (CB' [(0,0)] [] (q3T hq1))<|ggE hr fun g1 hr=>bdE hr fun x1 hx1 hr=>e
theorem j5b {a1:BA_}{a2 a3:Bool}{o0:L1_}{r:(Symbol×L1_)}(hr:z5K a1 a2 a3 o0=some r):Okp 63 [.pb 0 0,dS a1,dB a2,dB a3] [cuB o0.b o0.i o0.h] (.ag [dS r.1.Name,.ref 1 none]) [cuB o0.b r.2.i r.2.h,.row .fz 4 (r.1.as_.map At_.D)]:=by
 refine Ok.enter rfl Tryz.func63 rfl rfl rfl fun S hS=>?_
 unfold z5K at hr
 refine sr ?_
 refine NV 1 ?_
 refine N0 ?_
 refine sr ?_
 refine W2 ?_
 refine NV 2 ?_
 refine SB ?_
 refine N0 ?_
 refine sr ?_
 refine W1 ?_
 refine bdE hr fun q1 hq1 hr=>?_
 obtain⟨y1,z1⟩:=q1
 refine CB [(0,0)] [] (q3T hq1) ?_
 refine ggE hr fun g1 hr=>?_
 refine OB _ (bAdd g1) ?_
 refine N1 ?_
 refine ssr ?_
 refine N1 ?_
 refine AW.block ?_
 refine q1g 2 1 3 .fz 4 rfl rfl ?_
 refine AW.rng (.tmp 10 rfl) fun hl1=>?_
 refine bdE hr fun q2 hqq2 hr=>?_
 obtain⟨s2,s3,s1⟩:=q2
 refine q0l hqq2 4 (fun k1 (s2,s3,s1)=>[(0,.pb 0 0),(2,dB a2),(3,dB a3),(8,.pb 1 0),(9,.pb 2 0),(10,dI (1+y1)),(11,dI (k1:Int))]) (fun k1 (s2,s3,s1)=>[(0,(cuB o0.b s2 s3)),(3,.row .fz 4 (s1.map At_.D))]) (q0g hS 4) (fun k1 sk1 ok1 hr hltk1=>?_) ?_
 obtain⟨s2,s3,s1⟩:=sk1
 refine ssr ?_
 refine N3 ?_
 refine q0s rfl (dT (ltI hltk1)) ?_
 refine q0k ?_
 refine bdE hr fun q3 hqq3 hr=>?_
 obtain⟨s4,s5,s6⟩:=q3
 refine q0m (q0d 5 [(0,.pb 0 0),(2,dB a2),(3,dB a3),(8,.pb 1 0),(9,.pb 2 0),(10,dI (1+y1)),(11,dI (k1:Int))] [(0,(cuB o0.b s5 s6)),(2,.box [dS a1,.ref 4 none]),(3,.none),(4,.row .fz 4 (s4.map At_.D))] ?_ ?_)
 replace hr:=hqq3
 refine AW.block (q0m (q0q (h:=?_)))
 refine LIR 4 (m:=.fz) (f:=A.D.s) (xs:=[(⟨#[97]⟩:BA_),(⟨#[98]⟩:BA_),(⟨#[99]⟩:BA_),(⟨#[100]⟩:BA_)]) ?_
 refine W1 ?_
 refine bdE hr fun x1 hx1 hr=>?_
 refine IE hx1 (Dpz _) ?_
 refine LP hx1 ?_
 refine W1 ?_
 refine LIR 5 (m:=.fz) (f:=(A.D.i .i64)) (xs:=([1,1,2,2,3,4]:List Int)) ?_
 refine bdE hr fun q4 hq4 hr=>?_
 obtain⟨y2,z2⟩:=q4
 refine CB [(0,0)] [5] (q6H (m:=.bo) hq4) ?_
 refine W1 ?_
 refine LIR 6 (m:=.fz) (f:=(A.D.i .i64)) (xs:=([1,2,2,1,2,3]:List Int)) ?_
 refine bdE hr fun q5 hq5 hr=>?_
 obtain⟨y3,z3⟩:=q5
 refine CB [(0,0)] [6] (q6H (m:=.bo) hq5) ?_
 refine W1 ?_
 refine NV 7 ?_
 refine SB ?_
 refine N0 ?_
 refine ssr ?_
 refine N1 ?_
 refine ifE hr (fun h1 hr=>?_) fun h1 hr=>?_
 refine q0s rfl h1 ?_
 refine q0h ?_
 refine W1 ?_
 refine LIR 8 (m:=.fz) (f:=(A.D.i .i64)) (xs:=([1,1,2,3]:List Int)) ?_
 refine bdE hr fun q6 hq6 hr=>?_
 obtain⟨y4,z4⟩:=q6
 refine CB [(0,0)] [8] (q6H (m:=.bo) hq6) ?_
 refine W1 ?_
 refine SB ?_
 refine N0 ?_
 refine ssr ?_
 refine W1 ?_
 refine bdE hr fun s7 hqq7 hr=>?_
 refine q0a 5 [(0,.pb 0 0),(2,dB a2),(3,dB a3),(8,.pb 1 0),(9,.pb 2 0),(10,dI (1+y1)),(11,dI (k1:Int)),(12,.pb 7 0),(44,dB s7)] ?_ ?_
 replace hr:=hqq7
 refine ifE hr (fun h2 hr=>?_) fun h2 hr=>?_
 refine VT rfl h2 ?_
 refine N4 ?_
 cases hr
 exact j0F
 refine VF rfl (bF h2) ?_
 iterate 3 refine AL.off ?_
 refine N1 ?_
 cases hr
 exact j0F
 refine bdE hr fun s8 hqq8 hr=>?_
 refine q0a 8 [(0,.pb 0 0),(2,dB a2),(3,dB a3),(8,.pb 1 0),(9,.pb 2 0),(10,dI (1+y1)),(11,dI (k1:Int)),(12,.pb 7 0),(52,dB s8)] ?_ ?_
 replace hr:=hqq8
 refine ifE hr (fun h3 hr=>?_) fun h3 hr=>?_
 refine VT rfl h3 ?_
 iterate 6 refine AL.off ?_
 refine N1 ?_
 cases hr
 exact j0F
 refine VF rfl (bF h3) ?_
 refine W1 ?_
 refine bdE hr fun q9 hqq9 hr=>?_
 obtain⟨s9,s10⟩:=q9
 refine q0a 5 [(0,.pb 0 0),(2,dB a2),(3,dB a3),(8,.pb 1 0),(9,.pb 2 0),(10,dI (1+y1)),(11,dI (k1:Int)),(12,.pb 7 0),(45,dB false),(46,dB a3),(47,dB s9),(51,dB s10)] ?_ ?_
 replace hr:=hqq9
 refine ifE hr (fun h4 hr=>?_) fun h4 hr=>?_
 refine VT rfl h4 ?_
 refine N4 ?_
 cases hr
 exact j0F
 refine VF rfl (bF h4) ?_
 iterate 3 refine AL.off ?_
 refine N1 ?_
 cases hr
 exact j0F
 refine N1 ?_
 cases hr
 exact j0F
 refine N0 ?_
 refine ifE hr (fun h5 hr=>?_) fun h5 hr=>?_
 refine q0s rfl h5 ?_
 refine q0h ?_
 refine W1 ?_
 refine SB ?_
 refine N0 ?_
 refine ssr ?_
 refine N3 ?_
 refine ifE hr (fun h6 hr=>?_) fun h6 hr=>?_
 refine q0s rfl (dT h6) ?_
 refine q0h ?_
 refine W1 ?_
 refine SB ?_
 refine N0 ?_
 refine q0h ?_
 refine W3 ?_
 refine LIR 9 (m:=.fz) (f:=At_.D) (xs:=[(⟨x1,2,2,false⟩:At_)]) ?_
 refine ggE hr fun g2 hr=>?_
 refine APf1 (f:=At_.D) 10 (fun _=>rfl) 40 g2 ?_
 refine W1 ?_
 refine SB ?_
 refine N0 ?_
 cases hr
 exact q0j hS [(0,0),(1,1),(2,2),(10,4)] 5
 refine q0t rfl (dF h6) ?_
 refine q0k ?_
 refine q0h ?_
 refine W3 ?_
 refine LIR 9 (m:=.fz) (f:=At_.D) (xs:=[(⟨x1,y4,2,false⟩:At_)]) ?_
 refine ggE hr fun g3 hr=>?_
 refine APf1 (f:=At_.D) 10 (fun _=>rfl) 40 g3 ?_
 refine W1 ?_
 refine SB ?_
 refine N0 ?_
 cases hr
 exact q0j hS [(0,0),(1,1),(2,2),(10,4)] 5
 refine q0t rfl (bF h5) ?_
 refine q0k ?_
 refine ssr ?_
 refine N3 ?_
 refine ifE hr (fun h7 hr=>?_) fun h7 hr=>?_
 refine q0s rfl (dT h7) ?_
 refine q0h ?_
 refine W1 ?_
 refine SB ?_
 refine N0 ?_
 refine q0h ?_
 refine W3 ?_
 refine LIR 9 (m:=.fz) (f:=At_.D) (xs:=[(⟨x1,2,y3,false⟩:At_)]) ?_
 refine ggE hr fun g4 hr=>?_
 refine APf1 (f:=At_.D) 10 (fun _=>rfl) 40 g4 ?_
 refine W1 ?_
 refine SB ?_
 refine N0 ?_
 cases hr
 exact q0j hS [(0,0),(1,1),(2,2),(10,4)] 5
 refine q0t rfl (dF h7) ?_
 refine q0k ?_
 refine q0h ?_
 refine W3 ?_
 refine LIR 9 (m:=.fz) (f:=At_.D) (xs:=[(⟨x1,y4,y3,false⟩:At_)]) ?_
 refine ggE hr fun g5 hr=>?_
 refine APf1 (f:=At_.D) 10 (fun _=>rfl) 40 g5 ?_
 refine W1 ?_
 refine SB ?_
 refine N0 ?_
 cases hr
 exact q0j hS [(0,0),(1,1),(2,2),(10,4)] 5
 refine q0t rfl (bF h1) ?_
 refine q0k ?_
 refine ssr ?_
 refine W1 ?_
 refine bdE hr fun s11 hqq10 hr=>?_
 refine q0a 5 [(0,.pb 0 0),(2,dB a2),(3,dB a3),(8,.pb 1 0),(9,.pb 2 0),(10,dI (1+y1)),(11,dI (k1:Int)),(12,.pb 7 0),(44,dB s11)] ?_ ?_
 replace hr:=hqq10
 refine ifE hr (fun h8 hr=>?_) fun h8 hr=>?_
 refine VT rfl h8 ?_
 refine N4 ?_
 cases hr
 exact j0F
 refine VF rfl (bF h8) ?_
 iterate 3 refine AL.off ?_
 refine N1 ?_
 cases hr
 exact j0F
 refine bdE hr fun s12 hqq11 hr=>?_
 refine q0a 8 [(0,.pb 0 0),(2,dB a2),(3,dB a3),(8,.pb 1 0),(9,.pb 2 0),(10,dI (1+y1)),(11,dI (k1:Int)),(12,.pb 7 0),(52,dB s12)] ?_ ?_
 replace hr:=hqq11
 refine ifE hr (fun h9 hr=>?_) fun h9 hr=>?_
 refine VT rfl h9 ?_
 iterate 6 refine AL.off ?_
 refine N1 ?_
 cases hr
 exact j0F
 refine VF rfl (bF h9) ?_
 refine W1 ?_
 refine bdE hr fun q12 hqq12 hr=>?_
 obtain⟨s13,s14⟩:=q12
 refine q0a 5 [(0,.pb 0 0),(2,dB a2),(3,dB a3),(8,.pb 1 0),(9,.pb 2 0),(10,dI (1+y1)),(11,dI (k1:Int)),(12,.pb 7 0),(45,dB false),(46,dB a3),(47,dB s13),(51,dB s14)] ?_ ?_
 replace hr:=hqq12
 refine ifE hr (fun h10 hr=>?_) fun h10 hr=>?_
 refine VT rfl h10 ?_
 refine N4 ?_
 cases hr
 exact j0F
 refine VF rfl (bF h10) ?_
 iterate 3 refine AL.off ?_
 refine N1 ?_
 cases hr
 exact j0F
 refine N1 ?_
 cases hr
 exact j0F
 refine N0 ?_
 refine ifE hr (fun h11 hr=>?_) fun h11 hr=>?_
 refine q0s rfl h11 ?_
 refine q0h ?_
 refine W1 ?_
 refine SB ?_
 refine N0 ?_
 refine ssr ?_
 refine N3 ?_
 refine ifE hr (fun h12 hr=>?_) fun h12 hr=>?_
 refine q0s rfl (dT h12) ?_
 refine q0h ?_
 refine W1 ?_
 refine SB ?_
 refine N0 ?_
 refine q0h ?_
 refine W3 ?_
 refine LIR 8 (m:=.fz) (f:=At_.D) (xs:=[(⟨x1,2,2,false⟩:At_)]) ?_
 refine ggE hr fun g6 hr=>?_
 refine APf1 (f:=At_.D) 9 (fun _=>rfl) 40 g6 ?_
 refine W1 ?_
 refine SB ?_
 refine N0 ?_
 cases hr
 exact q0j hS [(0,0),(1,1),(2,2),(9,4)] 5
 refine q0t rfl (dF h12) ?_
 refine q0k ?_
 refine q0h ?_
 refine W3 ?_
 refine LIR 8 (m:=.fz) (f:=At_.D) (xs:=[(⟨x1,y2,2,false⟩:At_)]) ?_
 refine ggE hr fun g7 hr=>?_
 refine APf1 (f:=At_.D) 9 (fun _=>rfl) 40 g7 ?_
 refine W1 ?_
 refine SB ?_
 refine N0 ?_
 cases hr
 exact q0j hS [(0,0),(1,1),(2,2),(9,4)] 5
 refine q0t rfl (bF h11) ?_
 refine q0k ?_
 refine ssr ?_
 refine N3 ?_
 refine ifE hr (fun h13 hr=>?_) fun h13 hr=>?_
 refine q0s rfl (dT h13) ?_
 refine q0h ?_
 refine W1 ?_
 refine SB ?_
 refine N0 ?_
 refine q0h ?_
 refine W3 ?_
 refine LIR 8 (m:=.fz) (f:=At_.D) (xs:=[(⟨x1,2,y3,false⟩:At_)]) ?_
 refine ggE hr fun g8 hr=>?_
 refine APf1 (f:=At_.D) 9 (fun _=>rfl) 40 g8 ?_
 refine W1 ?_
 refine SB ?_
 refine N0 ?_
 cases hr
 exact q0j hS [(0,0),(1,1),(2,2),(9,4)] 5
 refine q0t rfl (dF h13) ?_
 refine q0k ?_
 refine q0h ?_
 refine W3 ?_
 refine LIR 8 (m:=.fz) (f:=At_.D) (xs:=[(⟨x1,y2,y3,false⟩:At_)]) ?_
 refine ggE hr fun g9 hr=>?_
 refine APf1 (f:=At_.D) 9 (fun _=>rfl) 40 g9 ?_
 refine W1 ?_
 refine SB ?_
 refine N0 ?_
 cases hr
 exact q0j hS [(0,0),(1,1),(2,2),(9,4)] 5
 refine q0h ?_
 refine W1 ?_
 refine OB _ (z2q (p:=k1) (q:=1) (q5o (ltI hltk1) hl1.2)) ?_
 refine N1 ?_
 cases hr
 exact q0j hS [(0,0),(1,1),(2,2),(4,3)] 4
 refine ssr ?_
 refine N3 ?_
 refine q0t rfl (dF geI) ?_
 refine q0u ?_
 refine sr ?_
 refine W1 ?_
 refine SB ?_
 refine N0 ?_
 refine AW.ret ?_
 cases hr
 exact q0o [(0,0),(3,1)] 2 hS
theorem z2i {a0:Int}{r:BA_}(hr:q6e a0=some r):Okp 24 [dI a0] [] (dS r) []:=by
 refine OE Tryz.func24 fun S hS=>?_
 unfold q6e at hr
 refine fE 10 hr ?_ ?_<;>intro h1 hr
 exact e
 refine bdE hr fun s1 hqq1 hr=>J (gn 13)<|q0d 0 [(3,dB (decide (a0<0))),(4,dS s1)] [] ?_ ?_
 refine J g<|q0i hqq1 0 (fun (s2,s3)=>[(0,dI s2),(3,dB (decide (a0<0))),(4,dS s3)]) (fun (s2,s3)=>[]) I fun sk1 ok1 hr hik1=>?_
 obtain⟨s2,s3⟩:=sk1
 have hr:=hr
 refine fE 6 hr ?_ ?_<;>intro h2 hr
 refine J (gn 2) ?_
 cases hr
 cases hik1 _ rfl
 exact q0g hS 0
 refine J g<|J (OB' _ (bRem (b:=10) (by decide)))<|fE 8 hr ?_ ?_<;>intro h3 hr
 refine ggE hr fun g1 hr=>ggE hr fun g2 hr=>J g ?_
 refine J (CIB' rfl)<|J (LIR' 0 (m:=.fz) (f:=byD) (xs:=([(UInt8.ofNat ((48+(0-(s2.tmod 10))) % 256).toNat)]:List UInt8))) ?_
 refine J (TS' rfl rfl)<|ggE hr fun g3 hr=>J g<|J (OB' _ (z5I g3))<|ggE hr fun g4 hr=>J g<|J (OB' _ (bQuo (b:=10) (by decide) g4))<|J g<|E
 refine ggE hr fun g5 hr=>J g ?_
 refine J (CIB' rfl)<|J (LIR' 0 (m:=.fz) (f:=byD) (xs:=([(UInt8.ofNat ((48+(s2.tmod 10)) % 256).toNat)]:List UInt8))) ?_
 refine J (TS' rfl rfl)<|ggE hr fun g6 hr=>J g<|J (OB' _ (z5I g6))<|ggE hr fun g7 hr=>J g<|J (OB' _ (bQuo (b:=10) (by decide) g7))<|J g<|E
 refine fE 5 hr ?_ ?_<;>intro h4 hr
 refine ggE hr fun g8 hr=>J g<|J (OB' _ (z5I g8))<|e
 exact e
theorem q9i {m:Md}{a1:List BA_}{o0:L1_}{r:(BA_×L1_)}(hr:q8c a1 o0=some r):Okp 61 [.pb 0 0,rw2 m a1] [cuB o0.b o0.i o0.h] (dS r.1) [cuB o0.b r.2.i r.2.h]:=by
 refine OE Tryz.func61 fun S hS=>?_
 unfold q8c at hr
 refine bdP hr fun y1 z1 hq1 hr=>J g<|J (CB' [(0,0)] [] (q3T hq1))<|ggE hr fun g1 hr=>bdE hr fun x1 hx1 hr=>e
theorem q6h {a0 a1 a2:Int}{r:Bool}(hr:q6a a0 a1 a2=some r):Okp 94 [dI a0,dI a1,dI a2] [] (dB r) []:=by
 refine OE Tryz.func94 fun S hS=>?_
 unfold q6a at hr
 refine fE 9 hr ?_ ?_<;>intro h1 hr
 exact e
 exact e
theorem q7S {m:Md}{a0:Rule}{a1:Int}{r:BA_}(hr:q4K a0 a1=some r):Okp 49 [Rule.x m a0,dI a1] [] (dS r) []:=by
 refine OE Tryz.func49 fun S hS=>?_
 unfold q4K at hr
 refine J g<|J (BX' 0)<|fE 8 hr ?_ ?_<;>intro h1 hr
 exact e
 refine bdE hr fun y1 hy1 hr=>J g<|J (CB' [] [] (q6h hy1))<|fE 2 hr ?_ ?_<;>intro h2 hr
 refine ggE hr fun g1 hr=>ggE hr fun g2 hr=>bdE hr fun x1 hx1 hr=>e
 exact e
theorem j5V {m:Md}{a0 r:Symbol}(hr:z0k a0=some r):Okp 109 [Symbol.x m a0] [] (.ag [dS r.Name,.ref 0 none]) [.row .fz 4 (r.as_.map At_.D)]:=by
 refine OE Tryz.func109 fun S hS=>?_
 unfold z0k at hr
 refine J g<|J (BX' 0)<|J (NV' 1)<|J g<|J (L0' 2 At_.D)<|ggE hr fun g1 hr=>J g<|J (j7v (f:=At_.D) 3 40 (fun _=>rfl) g1)<|e
theorem q7T {m:Md}{a0:Gm_}{a1:BA_}{r:(Symbol×Bool)}(hr:q5L a0 a1=some r):Okp 56 [Gm_.y m a0,dS a1] [] (.tu [.ag [dS r.1.Name,.ref 0 none],dB r.2]) [.row .fz 4 (r.1.as_.map At_.D)]:=by
 refine OE Tryz.func56 fun S hS=>?_
 unfold q5L at hr
 refine J g<|J (BX' 0)<|J (NV' 1)<|J (gn 8)<|J (lenA 0 0)<|fun hl1=>bdE hr fun q1 hqq1 hr=>q0b hqq1 hl1 2 (fun k1 _=>[(1,dS a1),(2,.pb 0 0),(4,.pb 1 0),(6,dI (k1:Int))]) (fun k1 _=>[]) I (fun k1 xk1 sk1 ok1 hxk1 hr hltk1 hik1=>?_) fun k1 sk1 ek1 hltk1=>?_
 refine fE 24 hr ?_ ?_<;>intro h1 hr
 refine bdE hr fun y1 hy1 hr=>J g<|J (CB' [(0,2)] [] (j5V (m:=m) hy1))<|e
 exact e
 subst ek1
 refine J (gn 18) ?_
 refine J (q0c (q0n (q:=1) (c:=1) (r:=2) .fz 4 rfl rfl rfl))<|J g<|E
theorem q6I {m:Md}{a0:Gm_}{a1:Rule}{r:List Oc}(hr:q3W a0 a1=some r):Okp 95 [Gm_.y m a0,Rule.x m a1] [] (.ref 0 none) [.row .fz 2 (r.map Oc.D)]:=by
 refine OE Tryz.func95 fun S hS=>?_
 unfold q3W at hr
 refine J g<|J (BX' 0)<|J (BX' 1)<|J g<|J (L0' 2 Oc.D)<|bdE hr fun s1 hqq1 hr=>J (gn 7)<|q0d 3 [(5,.ref 2 none)] [(2,.row .fz 2 (s1.map Oc.D))] ?_ ?_
 refine J g<|q0i hqq1 3 (fun (s2,s3)=>[(2,.pb 0 0),(3,.pb 1 0),(5,.ref 2 none),(6,dI s3)]) (fun (s2,s3)=>[(2,.row .fz 2 (s2.map Oc.D))]) I fun sk1 ok1 hr hik1=>?_
 obtain⟨s2,s3⟩:=sk1
 have hr:=hr
 refine fE 9 hr ?_ ?_<;>intro h1 hr
 refine bdE hr fun s4 hqq2 hr=>J (gn 3)<|q0d 3 [(2,.pb 0 0),(3,.pb 1 0),(5,.ref 2 none),(6,dI s3)] [(2,.row .fz 2 (s4.map Oc.D))] ?_ ?_
 replace hr:=hqq2
 refine bdE hr fun y1 hy1 hr=>J g<|J (CB' [] [] (q7S (m:=m) hy1))<|bdP hr fun y2 y3 hq3 hr=>J (CB' [(0,3)] [] (q7T (m:=m) hq3))<|J g<|J (NV' 4)<|fE 13 hr ?_ ?_<;>intro h2 hr
 refine J (gn 9)<|J (lenR 3)<|fun hl2=>bdE hr fun s5 hqq4 hr=>q0e hqq4 hl2 5 (fun k2 s5=>[(2,.pb 0 0),(3,.pb 1 0),(5,.ref 2 none),(6,dI s3),(7,.pb 4 0),(9,dI 2),(10,dI (k2:Int))]) (fun k2 s5=>[(2,.row .fz 2 (s5.map Oc.D))]) I (fun k2 xk2 sk2 ok2 hxk2 hr hltk2=>?_) fun k2 hltk2=>?_
 obtain⟨s5,rfl⟩:∃ y,y=sk2:=⟨_,rfl⟩
 refine bdE hr fun s6 hqq5 hr=>J (gn 12)<|q0d 5 [(2,.pb 0 0),(3,.pb 1 0),(5,.ref 2 none),(6,dI s3),(7,.pb 4 0),(9,dI 2),(10,dI (k2:Int))] [(2,.row .fz 2 (s6.map Oc.D))] ?_ ?_
 replace hr:=hqq5
 refine fE 12 hr ?_ ?_<;>intro h3 hr
 refine J g<|J (LIR' 5 (m:=.fz) (f:=Oc.D) (xs:=[(⟨s3,xk2.Name⟩:Oc)]))<|ggE hr fun g1 hr=>J (z1D (f:=Oc.D) 6 (fun _=>rfl) 24 g1)<|e
 exact e
 exact e
 exact e
 refine J (gn 7)<|J (lenR 3)<|fun hl3=>bdE hr fun s7 hqq6 hr=>q0e hqq6 hl3 5 (fun k3 s7=>[(2,.pb 0 0),(3,.pb 1 0),(5,.ref 2 none),(6,dI s3),(7,.pb 4 0),(9,dI 1),(10,dI (k3:Int))]) (fun k3 s7=>[(2,.row .fz 2 (s7.map Oc.D))]) I (fun k3 xk3 sk3 ok3 hxk3 hr hltk3=>?_) fun k3 hltk3=>?_
 obtain⟨s7,rfl⟩:∃ y,y=sk3:=⟨_,rfl⟩
 refine bdE hr fun s8 hqq7 hr=>J (gn 12)<|q0d 5 [(2,.pb 0 0),(3,.pb 1 0),(5,.ref 2 none),(6,dI s3),(7,.pb 4 0),(9,dI 1),(10,dI (k3:Int))] [(2,.row .fz 2 (s8.map Oc.D))] ?_ ?_
 replace hr:=hqq7
 refine fE 12 hr ?_ ?_<;>intro h4 hr
 refine J g<|J (LIR' 5 (m:=.fz) (f:=Oc.D) (xs:=[(⟨s3,xk3.Name⟩:Oc)]))<|ggE hr fun g2 hr=>J (z1D (f:=Oc.D) 6 (fun _=>rfl) 24 g2)<|e
 exact e
 exact e
 exact e
 refine ggE hr fun g3 hr=>e
 refine J (gn 2) ?_
 cases hr
 cases hik1 _ rfl
 exact GH.trans (q0D (q:=0) [rw3 m a0.ss_,.u] (.cons .rfl (.cons .u .nil)) rfl) (q0g hS 3)
 exact e
theorem z0C {m:Md}{a0:Symbol}{a1:BA_}{r:(At_×Bool)}(hr:q6m a0 a1=some r):Okp 117 [Symbol.x m a0,dS a1] [] (.tu [At_.x .fz r.1,dB r.2]) []:=by
 refine OE Tryz.func117 fun S hS=>?_
 unfold q6m at hr
 refine J g<|J (BX' 0)<|J (NV' 1)<|J (gn 8)<|J (lenA 1 0)<|fun hl1=>bdE hr fun q1 hqq1 hr=>q0b hqq1 hl1 2 (fun k1 _=>[(1,dS a1),(2,.pb 0 0),(4,.pb 1 0),(6,dI (k1:Int))]) (fun k1 _=>[]) I (fun k1 xk1 sk1 ok1 hxk1 hr hltk1 hik1=>?_) fun k1 sk1 ek1 hltk1=>?_
 refine fE 24 hr ?_ ?_<;>intro h1 hr
 exact e
 exact e
 subst ek1
 exact e
theorem z6g {m:Md}{a0:Gm_}{a1:Rule}{a2:Int}{r:List Oc}(hr:z2X a0 a1 a2=some r):Okp 120 [Gm_.y m a0,Rule.x m a1,dI a2] [] (.ref 0 none) [.row .fz 2 (r.map Oc.D)]:=by
 refine OE Tryz.func120 fun S hS=>?_
 unfold z2X at hr
 refine J g<|J (BX' 0)<|J (BX' 1)<|J g<|J (L0' 2 Oc.D)<|bdE hr fun s1 hqq1 hr=>J (gn 7)<|q0d 3 [(7,.ref 2 none)] [(2,.row .fz 2 (s1.map Oc.D))] ?_ ?_
 refine J g<|q0i hqq1 3 (fun (s2,s3)=>[(2,dI a2),(3,.pb 0 0),(4,.pb 1 0),(7,.ref 2 none),(8,dI s3)]) (fun (s2,s3)=>[(2,.row .fz 2 (s2.map Oc.D))]) I fun sk1 ok1 hr hik1=>?_
 obtain⟨s2,s3⟩:=sk1
 have hr:=hr
 refine fE 9 hr ?_ ?_<;>intro h1 hr
 refine bdE hr fun y1 hy1 hr=>J g<|J (CB' [] [] (q7S (m:=m) hy1))<|bdP hr fun y2 y3 hq2 hr=>J (CB' [(0,3)] [] (q7T (m:=m) hq2))<|J g<|J (NV' 4)<|J (gn 8)<|J (lenR 3)<|fun hl2=>bdE hr fun s4 hqq3 hr=>q0e hqq3 hl2 5 (fun k2 s4=>[(2,dI a2),(3,.pb 0 0),(4,.pb 1 0),(7,.ref 2 none),(8,dI s3),(9,.pb 4 0),(11,dI (k2:Int))]) (fun k2 s4=>[(2,.row .fz 2 (s4.map Oc.D))]) I (fun k2 xk2 sk2 ok2 hxk2 hr hltk2=>?_) fun k2 hltk2=>?_
 obtain⟨s4,rfl⟩:∃ y,y=sk2:=⟨_,rfl⟩
 refine bdE hr fun s5 hqq4 hr=>J (gn 12)<|q0d 5 [(2,dI a2),(3,.pb 0 0),(4,.pb 1 0),(7,.ref 2 none),(8,dI s3),(9,.pb 4 0),(11,dI (k2:Int))] [(2,.row .fz 2 (s5.map Oc.D))] ?_ ?_
 replace hr:=hqq4
 refine J g<|J (NV' 5)<|bdE hr fun s6 hqq5 hr=>J (gn 6)<|q0a 5 [(2,dI a2),(3,.pb 0 0),(4,.pb 1 0),(7,.ref 2 none),(8,dI s3),(9,.pb 4 0),(11,dI (k2:Int)),(12,.pb 5 0),(48,dB s6)] ?_ ?_
 replace hr:=hqq5
 refine ifE hr ?_ ?_<;>intro h2 hr
 exact e
 exact e
 refine bdE hr fun s7 hqq6 hr=>q0a 9 [(2,dI a2),(3,.pb 0 0),(4,.pb 1 0),(7,.ref 2 none),(8,dI s3),(9,.pb 4 0),(11,dI (k2:Int)),(12,.pb 5 0),(57,dB s7)] ?_ ?_
 replace hr:=hqq6
 refine ifE hr ?_ ?_<;>intro h3 hr
 exact e
 refine bdP hr fun s8 s9 hqq7 hr=>J (gn 3)<|q0a 5 [(2,dI a2),(3,.pb 0 0),(4,.pb 1 0),(7,.ref 2 none),(8,dI s3),(9,.pb 4 0),(11,dI (k2:Int)),(12,.pb 5 0),(49,dB false),(50,dI s3),(51,dB (decide (0<s3))),(52,dB s8),(56,dB s9)] ?_ ?_
 replace hr:=hqq7
 refine ifE hr ?_ ?_<;>intro h4 hr
 exact e
 exact e
 exact e
 refine bdE hr fun s10 hqq8 hr=>J (gn 8)<|q0a 3 [(2,dI a2),(3,.pb 0 0),(4,.pb 1 0),(7,.ref 2 none),(8,dI s3),(9,.pb 4 0),(11,dI (k2:Int)),(12,.pb 5 0),(64,dB s10)] ?_ ?_
 replace hr:=hqq8
 refine ifE hr ?_ ?_<;>intro h5 hr
 exact e
 exact e
 refine fE 1 hr ?_ ?_<;>intro h6 hr
 refine J g<|J (LIR' 6 (m:=.fz) (f:=Oc.D) (xs:=[(⟨s3,xk2.Name⟩:Oc)]))<|ggE hr fun g1 hr=>J (z1D (f:=Oc.D) 7 (fun _=>rfl) 24 g1)<|e
 exact e
 exact e
 refine ggE hr fun g2 hr=>e
 refine J (gn 2) ?_
 cases hr
 cases hik1 _ rfl
 exact GH.trans (q0D (q:=0) [rw3 m a0.ss_,.u] (.cons .rfl (.cons .u .nil)) rfl) (q0g hS 3)
 exact e
theorem z1p {a0 a1:Int}{r:Expr}(hr:q8x a0 a1=some r):Okp 151 [dI a0,dI a1] [] (.ag [dI r.Kind,dI r.N,dI r.Pos,dI r.t__,dS r.Symbol,dS r.Name,.ref 0 none]) [.row .fz 7 (r.Args.map Expr.D)]:=by
 refine OE Tryz.func151 fun S hS=>?_
 unfold q8x at hr
 refine J g<|J (NV' 0)<|J (gn 9) ?_
 refine J (q0c (q0n (q:=0) (c:=6) (r:=1) .fz 7 rfl rfl rfl))<|J g<|E
theorem z0D {m:Md}{a1:Int}{a2:List Oc}{o0:L1_}{r:(Expr×L1_)}(hr:q8E a1 a2 o0=some r):Okp 119 [.pb 0 0,dI a1,rw4 m a2] [cuB o0.b o0.i o0.h] (.ag [dI r.1.Kind,dI r.1.N,dI r.1.Pos,dI r.1.t__,dS r.1.Symbol,dS r.1.Name,.ref 1 none]) [cuB o0.b r.2.i r.2.h,.row .fz 7 (r.1.Args.map Expr.D)]:=by
 refine OE Tryz.func119 fun S hS=>?_
 unfold q8E at hr
 refine J g<|J (NV' 1)<|fE 7 hr ?_ ?_<;>intro h1 hr
 refine bdP hr fun y1 z1 hq1 hr=>J g<|J (CB' [(0,0)] [] (q5S hq1))<|fE 3 hr ?_ ?_<;>intro h2 hr
 refine fE 13 hr ?_ ?_<;>intro h3 hr
 refine bdP hr fun y2 z2 hq2 hr=>J g<|J (CB' [(0,0)] [] (q5S hq2))<|fE 1 hr ?_ ?_<;>intro h4 hr
 refine J (gn 7) ?_
 refine J (q0c (q0n (q:=1) (c:=6) (r:=2) .fz 7 rfl rfl rfl))<|J g<|E
 refine J (gn 8) ?_
 refine J (q0c (q0n (q:=1) (c:=6) (r:=2) .fz 7 rfl rfl rfl))<|J g<|E
 refine fE 6 hr ?_ ?_<;>intro h5 hr
 refine bdP hr fun y3 z3 hq3 hr=>J g<|J (CB' [(0,0)] [] (q3T hq3))<|bdE hr fun y4 hy4 hr=>J g<|J (CB' [(0,2)] [] (z1p hy4))<|e
 refine fE 6 hr ?_ ?_<;>intro h6 hr
 refine bdP hr fun y5 z4 hq4 hr=>J g<|J (CB' [(0,0)] [] (q3T hq4))<|ggE hr fun g1 hr=>?_
 refine J (CIU' g1 rfl)<|ggE hr fun g2 hr=>J (OB' _ (j7q g2))<|bdE hr fun y6 hy6 hr=>J g<|J (CB' [(0,2)] [] (z1p hy6))<|J g<|E
 refine bdP hr fun y7 z5 hq5 hr=>J g<|J (CB' [(0,0)] [] (q3T hq5))<|bdE hr fun y8 hy8 hr=>J (CB' [(0,2)] [] (z1p hy8))<|e
 refine bdP hr fun y9 z6 hq6 hr=>J g<|J (CB' [(0,0)] [] (q3T hq6))<|ggE hr fun g3 hr=>bdE hr fun x1 hx1 hr=>J g<|J (NV' 2)<|J (gn 12) ?_
 refine J (q0c (q0n (q:=1) (c:=6) (r:=3) .fz 7 rfl rfl rfl))<|J g<|E
 refine fE 19 hr ?_ ?_<;>intro h7 hr
 refine bdP hr fun y10 z7 hq7 hr=>J g<|J (CB' [(0,0)] [] (q5S hq7))<|fE 1 hr ?_ ?_<;>intro h8 hr
 refine J (gn 7) ?_
 refine J (q0c (q0n (q:=1) (c:=6) (r:=2) .fz 7 rfl rfl rfl))<|J g<|E
 refine J (gn 8) ?_
 refine J (q0c (q0n (q:=1) (c:=6) (r:=2) .fz 7 rfl rfl rfl))<|J g<|E
 refine fE 6 hr ?_ ?_<;>intro h9 hr
 refine bdP hr fun y11 z8 hq8 hr=>J g<|J (CB' [(0,0)] [] (q3T hq8))<|bdE hr fun y12 hy12 hr=>J g<|J (CB' [(0,2)] [] (z1p hy12))<|e
 refine fE 6 hr ?_ ?_<;>intro h10 hr
 refine bdP hr fun y13 z9 hq9 hr=>J g<|J (CB' [(0,0)] [] (q3T hq9))<|ggE hr fun g4 hr=>?_
 refine J (CIU' g4 rfl)<|ggE hr fun g5 hr=>J (OB' _ (j7q g5))<|bdE hr fun y14 hy14 hr=>J g<|J (CB' [(0,2)] [] (z1p hy14))<|J g<|E
 refine bdP hr fun y15 z10 hq10 hr=>J g<|J (CB' [(0,0)] [] (q3T hq10))<|bdE hr fun y16 hy16 hr=>J (CB' [(0,2)] [] (z1p hy16))<|e
theorem q7A {a0:Int}{r:(Int×Int×Int)}(hr:q5v a0=some r):Okp 156 [dI a0] [] (.tu [dI r.1,dI r.2.1,dI r.2.2]) []:=by
 refine OE Tryz.func156 fun S hS=>?_
 unfold q5v at hr
 refine bdE hr fun y1 hy1 hr=>J g<|J (CB' [] [] (q6h hy1))<|fE 2 hr ?_ ?_<;>intro h1 hr
 exact e
 refine bdE hr fun y2 hy2 hr=>J g<|J (CB' [] [] (q6h hy2))<|fE 2 hr ?_ ?_<;>intro h2 hr
 exact e
 refine fE 5 hr ?_ ?_<;>intro h3 hr
 exact e
 refine fE 6 hr ?_ ?_<;>intro h4 hr
 exact e
 refine fE 7 hr ?_ ?_<;>intro h5 hr
 exact e
 refine fE 7 hr ?_ ?_<;>intro h6 hr
 exact e
 exact e
theorem z5n {m:Md}{a0:Int}{a1 a2 r:Expr}(hr:z4t a0 a1 a2=some r):Okp 152 [dI a0,Expr.x m a1,Expr.x m a2] [] (.ag [dI r.Kind,dI r.N,dI r.Pos,dI r.t__,dS r.Symbol,dS r.Name,.ref 0 none]) [.row m 7 (r.Args.map Expr.D)]:=by
 refine OE Tryz.func152 fun S hS=>?_
 unfold z4t at hr
 refine J g<|J (BX' 0)<|J (BX' 1)<|J (NV' 2)<|J g ?_
 refine J (k7F 3 (m:=m) (f:=Expr.D) [a1,a2] (by simp only[Blz,Ddz,Expr.D_eq];rfl))<|J g<|E
theorem j7E {Rc0:Gm_→Rule→Int→Int→Bool→L1_→Option (Expr×L1_)}(Ic0:∀ {m:Md} {a1:Gm_} {a2:Rule} {a3 a4:Int} {a5:Bool} {o0:L1_} {r:(Expr×L1_)},Rc0 a1 a2 a3 a4 a5 o0=some r→Okp 118 [.pb 0 0,Gm_.y m a1,Rule.x m a2,dI a3,dI a4,dB a5] [cuB o0.b o0.i o0.h] (.ag [dI r.1.Kind,dI r.1.N,dI r.1.Pos,dI r.1.t__,dS r.1.Symbol,dS r.1.Name,.ref 1 none]) [cuB o0.b r.2.i r.2.h,.row .fz 7 (r.1.Args.map Expr.D)]){m:Md}{a1:Gm_}{a2:Rule}{a3 a4:Int}{a5:Bool}{o0:L1_}{r:(Expr×L1_)}(hr:q7U Rc0 a1 a2 a3 a4 a5 o0=some r):Okp 118 [.pb 0 0,Gm_.y m a1,Rule.x m a2,dI a3,dI a4,dB a5] [cuB o0.b o0.i o0.h] (.ag [dI r.1.Kind,dI r.1.N,dI r.1.Pos,dI r.1.t__,dS r.1.Symbol,dS r.1.Name,.ref 1 none]) [cuB o0.b r.2.i r.2.h,.row .fz 7 (r.1.Args.map Expr.D)]:=by
 refine OE Tryz.func118 fun S hS=>?_
 unfold q7U at hr
 refine J g<|J (BX' 1)<|J (BX' 2)<|J (NV' 3)<|bdT hr fun s4 s5 s6 hqq1 hr=>J (gn 6)<|q0B 4 4 [(0,.pb 0 0),(3,dI a3),(4,dI a4),(5,dB a5),(7,.pb 1 0),(8,.pb 2 0),(12,.pb 3 0),(24,dB s4)] [(0,(cuB o0.b s5 s6))] ?_ ?_
 replace hr:=hqq1
 refine ifE hr ?_ ?_<;>intro h1 hr
 exact e
 refine bdP hr fun y1 z1 hq2 hr=>J g<|J (CB' [(0,0)] [] (q5S hq2))<|e
 refine fE 1 hr ?_ ?_<;>intro h2 hr
 refine bdE hr fun s7 hqq3 hr=>J (gn 6)<|q0a 4 [(0,.pb 0 0),(3,dI a3),(7,.pb 1 0),(8,.pb 2 0),(12,.pb 3 0),(30,dB s7)] ?_ ?_
 replace hr:=hqq3
 refine ifE hr ?_ ?_<;>intro h3 hr
 exact e
 exact e
 refine bdT hr fun s11 s12 s13 hqq4 hr=>q0B 4 4 [(0,.pb 0 0),(3,dI a3),(7,.pb 1 0),(8,.pb 2 0),(12,.pb 3 0),(34,dB s11)] [(0,(cuB o0.b s12 s13))] ?_ ?_
 replace hr:=hqq4
 refine ifE hr ?_ ?_<;>intro h4 hr
 refine bdP hr fun y2 z2 hq5 hr=>J g<|J (CB' [(0,0)] [] (q5S hq5))<|e
 exact e
 refine fE 1 hr ?_ ?_<;>intro h5 hr
 refine J (gn 7) ?_
 refine J (q0c (q0n (q:=3) (c:=6) (r:=4) .fz 7 rfl rfl rfl))<|J g<|E
 refine bdE hr fun y3 hy3 hr=>J g<|J (CB' [(0,4)] [] (z6g (m:=m) hy3))<|bdP hr fun y4 z3 hq6 hr=>J (CB' [(0,0),(1,5)] [4] (z0D (m:=.bo) hq6))<|e
 refine bdT hr fun s17 s18 s19 hqq7 hr=>J (gn 6)<|q0B 4 4 [(0,.pb 0 0),(3,dI a3),(4,dI a4),(5,dB a5),(7,.pb 1 0),(8,.pb 2 0),(12,.pb 3 0),(47,dB s17)] [(0,(cuB o0.b s18 s19))] ?_ ?_
 replace hr:=hqq7
 refine ifE hr ?_ ?_<;>intro h6 hr
 refine bdP hr fun y5 z4 hq8 hr=>J g<|J (CB' [(0,0)] [] (q5S hq8))<|e
 exact e
 refine fE 1 hr ?_ ?_<;>intro h7 hr
 refine bdP hr fun y6 z5 hq9 hr=>J g<|J (CB' [(0,0)] [] (q3T hq9))<|ggE hr fun g1 hr=>bdE hr fun x1 hx1 hr=>J g<|J (NV' 4)<|bdP hr fun y7 z6 hq10 hr=>J g<|J (CB' [(0,0)] [] (q3T hq10))<|ggE hr fun g2 hr=>bdE hr fun x2 hx2 hr=>J g<|J (NV' 5)<|fE 9 hr ?_ ?_<;>intro h8 hr
 refine bdE hr fun y8 hy8 hr=>J g<|J (CB' [(0,6)] [] (z6g (m:=m) hy8))<|bdP hr fun y9 z7 hq11 hr=>J (CBz' 7 [(0,0),(1,7)] [6] (z0D (m:=.bo) hq11)) ?_
 refine J (j7u 8 (m:=.fz) (f:=Expr.D) [y9] (by simp only[Blz,Ddz,Expr.D_eq];rfl))<|J g<|E
 refine bdP hr fun y10 z8 hq12 hr=>J g<|J (CB' [(0,0)] [] (q5S hq12))<|fE 1 hr ?_ ?_<;>intro h9 hr
 refine ggE hr fun g3 hr=>bdP hr fun y11 z9 hq13 hr=>J g<|J (CBz' 6 [(0,0),(1,6)] [] (Ic0 (m:=m) hq13))<|ggE hr fun g4 hr=>bdP hr fun y12 z10 hq14 hr=>J g<|J (CBz' 7 [(0,0),(1,7)] [] (Ic0 (m:=m) hq14))<|ggE hr fun g5 hr=>bdP hr fun y13 z11 hq15 hr=>J g<|J (CBz' 8 [(0,0),(1,8)] [] (Ic0 (m:=m) hq15)) ?_
 refine J (j7u 9 (m:=.fz) (f:=Expr.D) [y11,y12,y13] (by simp only[Blz,Ddz,Expr.D_eq];rfl))<|J g<|E
 refine fE 17 hr ?_ ?_<;>intro h10 hr
 refine bdE hr fun y14 hy14 hr=>J g<|J (CB' [(0,6)] [] (z6g (m:=m) hy14))<|bdP hr fun y15 z12 hq16 hr=>J (CB' [(0,0),(1,7)] [6] (z0D (m:=.bo) hq16))<|e
 refine fE 6 hr ?_ ?_<;>intro h11 hr
 refine J g<|J (LIR' 6 (m:=.fz) (f:=(A.D.i .i64)) (xs:=([1,1,2,3,4,5]:List Int)))<|bdP hr fun y16 z13 hq17 hr=>J (CB' [(0,0)] [6] (q6H (m:=.bo) hq17))<|bdT hr fun y17 y18 y19 hq18 hr=>J g<|J (CB' [] [] (q7A hq18))<|ggE hr fun g6 hr=>bdP hr fun y20 z14 hq19 hr=>J g<|J (CBz' 7 [(0,0),(1,7)] [] (Ic0 (m:=m) hq19))<|ggE hr fun g7 hr=>bdP hr fun y21 z15 hq20 hr=>J g<|J (CBz' 8 [(0,0),(1,8)] [] (Ic0 (m:=m) hq20))<|bdE hr fun y22 hy22 hr=>J (CB' [(0,9)] [] (z5n (m:=.fz) hy22))<|e
 refine fE 6 hr ?_ ?_<;>intro h12 hr
 refine J g<|J (LIR' 6 (m:=.fz) (f:=(A.D.i .i64)) (xs:=([6,6,7,8,12]:List Int)))<|bdP hr fun y23 z16 hq21 hr=>J (CB' [(0,0)] [6] (q6H (m:=.bo) hq21))<|bdT hr fun y24 y25 y26 hq22 hr=>J g<|J (CB' [] [] (q7A hq22))<|ggE hr fun g8 hr=>bdP hr fun y27 z17 hq23 hr=>J g<|J (CBz' 7 [(0,0),(1,7)] [] (Ic0 (m:=m) hq23))<|ggE hr fun g9 hr=>bdP hr fun y28 z18 hq24 hr=>J g<|J (CBz' 8 [(0,0),(1,8)] [] (Ic0 (m:=m) hq24))<|bdE hr fun y29 hy29 hr=>J (CB' [(0,9)] [] (z5n (m:=.fz) hy29))<|e
 refine J g<|J (LIR' 6 (m:=.fz) (f:=(A.D.i .i64)) (xs:=([9,10,11]:List Int)))<|bdP hr fun y30 z19 hq25 hr=>J (CB' [(0,0)] [6] (q6H (m:=.bo) hq25))<|bdT hr fun y31 y32 y33 hq26 hr=>J g<|J (CB' [] [] (q7A hq26))<|ggE hr fun g10 hr=>bdP hr fun y34 z20 hq27 hr=>J g<|J (CBz' 7 [(0,0),(1,7)] [] (Ic0 (m:=m) hq27))<|ggE hr fun g11 hr=>bdP hr fun y35 z21 hq28 hr=>J g<|J (CBz' 8 [(0,0),(1,8)] [] (Ic0 (m:=m) hq28))<|bdE hr fun y36 hy36 hr=>J (CB' [(0,9)] [] (z5n (m:=.fz) hy36))<|e
 refine bdP hr fun y37 z22 hq29 hr=>J g<|J (CB' [(0,0)] [] (q5S hq29))<|fE 1 hr ?_ ?_<;>intro h13 hr
 refine ggE hr fun g12 hr=>bdP hr fun y38 z23 hq30 hr=>J g<|J (CBz' 4 [(0,0),(1,4)] [] (Ic0 (m:=m) hq30))<|ggE hr fun g13 hr=>bdP hr fun y39 z24 hq31 hr=>J g<|J (CBz' 5 [(0,0),(1,5)] [] (Ic0 (m:=m) hq31))<|ggE hr fun g14 hr=>bdP hr fun y40 z25 hq32 hr=>J g<|J (CBz' 6 [(0,0),(1,6)] [] (Ic0 (m:=m) hq32)) ?_
 refine J (j7u 7 (m:=.fz) (f:=Expr.D) [y38,y39,y40] (by simp only[Blz,Ddz,Expr.D_eq];rfl))<|J g<|E
 refine fE 17 hr ?_ ?_<;>intro h14 hr
 refine bdE hr fun y41 hy41 hr=>J g<|J (CB' [(0,4)] [] (z6g (m:=m) hy41))<|bdP hr fun y42 z26 hq33 hr=>J (CB' [(0,0),(1,5)] [4] (z0D (m:=.bo) hq33))<|e
 refine fE 6 hr ?_ ?_<;>intro h15 hr
 refine J g<|J (LIR' 4 (m:=.fz) (f:=(A.D.i .i64)) (xs:=([1,1,2,3,4,5]:List Int)))<|bdP hr fun y43 z27 hq34 hr=>J (CB' [(0,0)] [4] (q6H (m:=.bo) hq34))<|bdT hr fun y44 y45 y46 hq35 hr=>J g<|J (CB' [] [] (q7A hq35))<|ggE hr fun g15 hr=>bdP hr fun y47 z28 hq36 hr=>J g<|J (CBz' 5 [(0,0),(1,5)] [] (Ic0 (m:=m) hq36))<|ggE hr fun g16 hr=>bdP hr fun y48 z29 hq37 hr=>J g<|J (CBz' 6 [(0,0),(1,6)] [] (Ic0 (m:=m) hq37))<|bdE hr fun y49 hy49 hr=>J (CB' [(0,7)] [] (z5n (m:=.fz) hy49))<|e
 refine fE 6 hr ?_ ?_<;>intro h16 hr
 refine J g<|J (LIR' 4 (m:=.fz) (f:=(A.D.i .i64)) (xs:=([6,6,7,8,12]:List Int)))<|bdP hr fun y50 z30 hq38 hr=>J (CB' [(0,0)] [4] (q6H (m:=.bo) hq38))<|bdT hr fun y51 y52 y53 hq39 hr=>J g<|J (CB' [] [] (q7A hq39))<|ggE hr fun g17 hr=>bdP hr fun y54 z31 hq40 hr=>J g<|J (CBz' 5 [(0,0),(1,5)] [] (Ic0 (m:=m) hq40))<|ggE hr fun g18 hr=>bdP hr fun y55 z32 hq41 hr=>J g<|J (CBz' 6 [(0,0),(1,6)] [] (Ic0 (m:=m) hq41))<|bdE hr fun y56 hy56 hr=>J (CB' [(0,7)] [] (z5n (m:=.fz) hy56))<|e
 refine J g<|J (LIR' 4 (m:=.fz) (f:=(A.D.i .i64)) (xs:=([9,10,11]:List Int)))<|bdP hr fun y57 z33 hq42 hr=>J (CB' [(0,0)] [4] (q6H (m:=.bo) hq42))<|bdT hr fun y58 y59 y60 hq43 hr=>J g<|J (CB' [] [] (q7A hq43))<|ggE hr fun g19 hr=>bdP hr fun y61 z34 hq44 hr=>J g<|J (CBz' 5 [(0,0),(1,5)] [] (Ic0 (m:=m) hq44))<|ggE hr fun g20 hr=>bdP hr fun y62 z35 hq45 hr=>J g<|J (CBz' 6 [(0,0),(1,6)] [] (Ic0 (m:=m) hq45))<|bdE hr fun y63 hy63 hr=>J (CB' [(0,7)] [] (z5n (m:=.fz) hy63))<|e
theorem j7F (n:Nat):∀ {m:Md} {a1:Gm_} {a2:Rule} {a3 a4:Int} {a5:Bool} {o0:L1_} {r:(Expr×L1_)},q6W n a1 a2 a3 a4 a5 o0=some r→Okp 118 [.pb 0 0,Gm_.y m a1,Rule.x m a2,dI a3,dI a4,dB a5] [cuB o0.b o0.i o0.h] (.ag [dI r.1.Kind,dI r.1.N,dI r.1.Pos,dI r.1.t__,dS r.1.Symbol,dS r.1.Name,.ref 1 none]) [cuB o0.b r.2.i r.2.h,.row .fz 7 (r.1.Args.map Expr.D)]:=by
  induction n with
  | zero=>intro _ _ _ _ _ _ _ r hr;exact nomatch (show (none:Option (Expr×L1_))=some r from hr)
  | succ n ih=>intro _ _ _ _ _ _ _ r hr;exact j7E ih hr
theorem j8W {m:Md}{a1:Gm_}{a2:Rule}{a3 a4:Int}{a5:Bool}{o0:L1_}{r:(Expr×L1_)}(hr:j0G a1 a2 a3 a4 a5 o0=some r):Okp 118 [.pb 0 0,Gm_.y m a1,Rule.x m a2,dI a3,dI a4,dB a5] [cuB o0.b o0.i o0.h] (.ag [dI r.1.Kind,dI r.1.N,dI r.1.Pos,dI r.1.t__,dS r.1.Symbol,dS r.1.Name,.ref 1 none]) [cuB o0.b r.2.i r.2.h,.row .fz 7 (r.1.Args.map Expr.D)]:=by
 obtain⟨n,hn⟩:=q6R hr
 exact j7F n hn
theorem j8X {Rc1:Expr→Int→Option Int}(Ic1:∀ {m:Md} {a0:Expr} {a1 r:Int},Rc1 a0 a1=some r→Okp 153 [Expr.x m a0,dI a1] [] (dI r) []){m:Md}{a0:Expr}{a1 r:Int}(hr:z7n Rc1 a0 a1=some r):Okp 153 [Expr.x m a0,dI a1] [] (dI r) []:=by
 refine OE Tryz.func153 fun S hS=>?_
 unfold z7n at hr
 refine J g<|J (BX' 0)<|ggE hr fun g1 hr=>bdE hr fun s1 hqq1 hr=>J (gn 13)<|q0d 1 [(1,dI s1)] [] ?_ ?_
 refine J g<|q0i hqq1 1 (fun (s2,s3)=>[(1,dI s2),(2,.pb 0 0),(5,dI s3)]) (fun (s2,s3)=>[]) I fun sk1 ok1 hr hik1=>?_
 obtain⟨s2,s3⟩:=sk1
 have hr:=hr
 refine fE 8 hr ?_ ?_<;>intro h1 hr
 refine fE 5 hr ?_ ?_<;>intro h2 hr
 refine ggE hr fun g2 hr=>bdE hr fun x1 hx1 hr=>bdE hr fun y1 hy1 hr=>J g<|J (CB' [] [] (Ic1 (m:=m) hy1))<|ggE hr fun g3 hr=>e
 refine J (gn 2) ?_
 cases hr
 cases hik1 _ rfl
 exact q0g hS 1
 refine J (gn 7) ?_
 cases hr
 cases hik1 _ rfl
 exact q0g hS 1
 exact e
theorem j8Y (n:Nat):∀ {m:Md} {a0:Expr} {a1 r:Int},z4u n a0 a1=some r→Okp 153 [Expr.x m a0,dI a1] [] (dI r) []:=by
  induction n with
  | zero=>intro _ _ _ r hr;exact nomatch (show (none:Option Int)=some r from hr)
  | succ n ih=>intro _ _ _ r hr;exact j8X ih hr
theorem k1v {m:Md}{a0:Expr}{a1 r:Int}(hr:j2Q a0 a1=some r):Okp 153 [Expr.x m a0,dI a1] [] (dI r) []:=by
 obtain⟨n,hn⟩:=q6R hr
 exact j8Y n hn
theorem j0c {a0 a1 r:Int}(hr:z2Y a0 a1=some r):Okp 101 [dI a0,dI a1] [] (dI r) []:=by
 refine OE Tryz.func101 fun S hS=>?_
 unfold z2Y at hr
 refine fE 11 hr ?_ ?_<;>intro h1 hr
 exact e
 exact e
theorem j1J {Rc2:Expr→Option Int}(Ic2:∀ {m:Md} {a0:Expr} {r:Int},Rc2 a0=some r→Okp 154 [Expr.x m a0] [] (dI r) []){m:Md}{a0:Expr}{r:Int}(hr:z0T Rc2 a0=some r):Okp 154 [Expr.x m a0] [] (dI r) []:=by
 refine OE Tryz.func154 fun S hS=>?_
 unfold z0T at hr
 refine J g<|J (BX' 0)<|J (gn 12)<|J (lenA 6 0)<|fun hl1=>bdE hr fun s1 hqq1 hr=>q0e hqq1 hl1 1 (fun k1 s1=>[(1,.pb 0 0),(3,dI s1),(4,dI (k1:Int))]) (fun k1 s1=>[]) I (fun k1 xk1 sk1 ok1 hxk1 hr hltk1=>?_) fun k1 hltk1=>?_
 obtain⟨s1,rfl⟩:∃ y,y=sk1:=⟨_,rfl⟩
 refine bdE hr fun y1 hy1 hr=>J g<|J (CB' [] [] (Ic2 (m:=m) hy1))<|bdE hr fun y2 hy2 hr=>J (CB' [] [] (j0c hy2))<|e
 refine ggE hr fun g1 hr=>e
theorem j1K (n:Nat):∀ {m:Md} {a0:Expr} {r:Int},q7Q n a0=some r→Okp 154 [Expr.x m a0] [] (dI r) []:=by
  induction n with
  | zero=>intro _ _ r hr;exact nomatch (show (none:Option Int)=some r from hr)
  | succ n ih=>intro _ _ r hr;exact j1J ih hr
theorem j3f {m:Md}{a0:Expr}{r:Int}(hr:z5v a0=some r):Okp 154 [Expr.x m a0] [] (dI r) []:=by
 obtain⟨n,hn⟩:=q6R hr
 exact j1K n hn
theorem k1w {m:Md}{a0:Expr}{r:Bool}(hr:z7o a0=some r):Okp 209 [Expr.x m a0] [] (dB r) []:=by
 refine OE Tryz.func209 fun S hS=>?_
 unfold z7o at hr
 refine J g<|J (BX' 0)<|bdE hr fun s1 hqq1 hr=>J (gn 12)<|q0d 1 [(1,.pb 0 0),(3,dI s1)] [] ?_ ?_
 replace hr:=hqq1
 refine fE 6 hr ?_ ?_<;>intro h1 hr
 exact e
 refine fE 6 hr ?_ ?_<;>intro h2 hr
 exact e
 refine fE 6 hr ?_ ?_<;>intro h3 hr
 exact e
 exact e
 refine fE 9 hr ?_ ?_<;>intro h4 hr
 refine bdE hr fun s2 hqq2 hr=>J (gn 7)<|q0a 5 [(1,.pb 0 0),(27,dB s2)] ?_ ?_
 replace hr:=hqq2
 refine ifE hr ?_ ?_<;>intro h5 hr
 exact e
 exact e
 refine bdE hr fun s3 hqq3 hr=>J (gn 7)<|q0a 5 [(1,.pb 0 0),(4,dB s2),(35,dB s3)] ?_ ?_
 replace hr:=hqq3
 refine ifE hr ?_ ?_<;>intro h6 hr
 exact e
 exact e
 refine bdE hr fun s4 hqq4 hr=>J (gn 7)<|q0a 5 [(1,.pb 0 0),(4,dB s2),(5,dB s3),(43,dB s4)] ?_ ?_
 replace hr:=hqq4
 refine ifE hr ?_ ?_<;>intro h7 hr
 exact e
 exact e
 refine bdE hr fun s5 hqq5 hr=>J (gn 5)<|q0a 5 [(1,.pb 0 0),(5,dB s3),(6,dB s4),(49,dB s5)] ?_ ?_
 replace hr:=hqq5
 refine ifE hr ?_ ?_<;>intro h8 hr
 exact e
 exact e
 refine bdE hr fun s6 hqq6 hr=>q0a 8 [(1,.pb 0 0),(6,dB s4),(57,dB s6)] ?_ ?_
 replace hr:=hqq6
 refine ifE hr ?_ ?_<;>intro h9 hr
 refine bdE hr fun s7 hqq7 hr=>J (gn 2)<|q0a 5 [(1,.pb 0 0),(6,dB s4),(50,dB true),(56,dB s7)] ?_ ?_
 replace hr:=hqq7
 refine ifE hr ?_ ?_<;>intro h10 hr
 exact e
 exact e
 exact e
 exact e
 refine bdE hr fun s8 hqq8 hr=>q0a 8 [(1,.pb 0 0),(65,dB s8)] ?_ ?_
 replace hr:=hqq8
 refine ifE hr ?_ ?_<;>intro h11 hr
 refine bdE hr fun s9 hqq9 hr=>J (gn 2)<|q0a 5 [(1,.pb 0 0),(58,dB true),(64,dB s9)] ?_ ?_
 replace hr:=hqq9
 refine ifE hr ?_ ?_<;>intro h12 hr
 exact e
 exact e
 exact e
 exact e
 refine bdE hr fun s10 hqq10 hr=>q0a 10 [(1,.pb 0 0),(75,dB s10)] ?_ ?_
 replace hr:=hqq10
 refine ifE hr ?_ ?_<;>intro h13 hr
 refine bdE hr fun s11 hqq11 hr=>J (gn 4)<|q0a 5 [(1,.pb 0 0),(66,dB true),(74,dB s11)] ?_ ?_
 replace hr:=hqq11
 refine ifE hr ?_ ?_<;>intro h14 hr
 exact e
 exact e
 exact e
 exact e
 refine bdE hr fun s12 hqq12 hr=>q0a 10 [(85,dB s12)] ?_ ?_
 replace hr:=hqq12
 refine ifE hr ?_ ?_<;>intro h15 hr
 refine bdE hr fun s13 hqq13 hr=>J (gn 4)<|q0a 5 [(76,dB true),(84,dB s13)] ?_ ?_
 replace hr:=hqq13
 refine ifE hr ?_ ?_<;>intro h16 hr
 exact e
 exact e
 exact e
 exact e
 exact e
 exact e
theorem k3e {a0 a1 r:Int}(hr:z9G a0 a1=some r):Okp 280 [dI a0,dI a1] [] (dI r) []:=by
 refine OE Tryz.func280 fun S hS=>?_
 unfold z9G at hr
 refine fE 11 hr ?_ ?_<;>intro h1 hr
 exact e
 exact e
theorem j7G {a0 r:Int}(hr:z4w a0=some r):Okp 270 [dI a0] [] (dI r) []:=by
 refine OE Tryz.func270 fun S hS=>?_
 unfold z4w at hr
 refine bdE hr fun y1 hy1 hr=>J g<|J (CB' [] [] (k3e hy1))<|bdE hr fun y2 hy2 hr=>J (CB' [] [] (j0c hy2))<|e
theorem j8Z {a0:Bool}{r:Int}(hr:z5L a0=some r):Okp 271 [dB a0] [] (dI r) []:=by
 refine OE Tryz.func271 fun S hS=>?_
 unfold z5L at hr
 refine fE 9 hr ?_ ?_<;>intro h1 hr
 exact e
 exact e
theorem k1x {a0 a1 r:Int}(hr:z7p a0 a1=some r):Okp 246 [dI a0,dI a1] [] (dI r) []:=by
 refine OE Tryz.func246 fun S hS=>?_
 unfold z7p at hr
 refine fE 15 hr ?_ ?_<;>intro h1 hr
 refine bdE hr fun y1 hy1 hr=>J g<|J (CB' [] [] (j7G hy1))<|e
 refine fE 6 hr ?_ ?_<;>intro h2 hr
 refine J g<|J (OB' _ k2R)<|e
 refine fE 6 hr ?_ ?_<;>intro h3 hr
 refine bdE hr fun y2 hy2 hr=>J g<|J (CB' [] [] (j8Z hy2))<|e
 refine fE 6 hr ?_ ?_<;>intro h4 hr
 refine bdE hr fun y3 hy3 hr=>J g<|J (CB' [] [] (q6h hy3))<|fE 1 hr ?_ ?_<;>intro h5 hr
 exact e
 exact e
 exact e
theorem j7H {a0 a1:Int}{r:Bool}(hr:z4x a0 a1=some r):Okp 210 [dI a0,dI a1] [] (dB r) []:=by
 refine OE Tryz.func210 fun S hS=>?_
 unfold z4x at hr
 refine bdE hr fun y1 hy1 hr=>J g<|J (CB' [] [] (q6h hy1))<|ifE hr ?_ ?_<;>intro h1 hr
 refine bdE hr fun y2 hy2 hr=>J g<|J (CB' [] [] (k1x hy2))<|e
 exact e
theorem j9a {a0:BA_}{r:Bool}(hr:z8p a0=some r):Okp 247 [dS a0] [] (dB r) []:=by
 refine OE Tryz.func247 fun S hS=>?_
 unfold z8p at hr
 refine J (gn 10) ?_
 refine q3e (.tmp 0 rfl) fun ht1=>?_
 have hl1:rngI .i64 (a0.size:Int):=k5d ht1
 refine bdE hr fun q1 hqq1 hr=>q0y hqq1 0 (fun k1 _=>[(0,dS a0),(3,dI (k1:Int))]) (fun k1 _=>[]) I (fun k1 sk1 ok1 hr hltk1 hik1=>?_) fun sk1 ek1=>?_
 refine J g<|J LS'<|bdE hr fun x1 hx1 hr=>J g ?_
 refine J (SI' rfl rfl (Dpz _) hx1)<|bdE hr fun s1 hqq2 hr=>J (gn 1)<|q0a 6 [(0,dS a0),(3,dI (k1:Int)),(21,dB s1)] ?_ ?_
 replace hr:=hqq2
 refine ifE hr ?_ ?_<;>intro h1 hr
 refine J g ?_
 refine J (SI' rfl rfl (Dpz _) hx1)<|J g<|E
 exact e
 refine J g ?_
 refine J (SI' rfl rfl (Dpz _) hx1)<|bdE hr fun s2 hqq3 hr=>J (gn 1)<|q0a 6 [(0,dS a0),(3,dI (k1:Int)),(4,dB s1),(31,dB s2)] ?_ ?_
 replace hr:=hqq3
 refine ifE hr ?_ ?_<;>intro h2 hr
 refine J g ?_
 refine J (SI' rfl rfl (Dpz _) hx1)<|J g<|E
 exact e
 refine bdE hr fun s3 hqq4 hr=>J (gn 6)<|q0a 8 [(0,dS a0),(3,dI (k1:Int)),(41,dB s3)] ?_ ?_
 replace hr:=hqq4
 refine ifE hr ?_ ?_<;>intro h3 hr
 exact e
 refine bdP hr fun s4 s5 hqq5 hr=>J (gn 3)<|q0a 4 [(0,dS a0),(3,dI (k1:Int)),(34,dB true),(35,dI (k1:Int)),(36,dB (decide ((k1:Int)=0))),(37,dB s4),(40,dB s5)] ?_ ?_
 replace hr:=hqq5
 refine ifE hr ?_ ?_<;>intro h4 hr
 exact e
 exact e
 exact e
 refine fE 1 hr ?_ ?_<;>intro h5 hr
 exact e
 exact e
 subst ek1
 refine J g<|J LS'<|J g<|J LS'<|e
theorem j4n {r:List BA_}(hr:z3T=some r):Okp 272 [] [] (.ref 0 none) [.row .fz 1 (r.map A.D.s)]:=by
 refine OE Tryz.func272 fun S hS=>?_
 unfold z3T at hr
 refine J g<|J (LIR' 0 (m:=.fz) (f:=A.D.s) (xs:=[(⟨#[105,102]⟩:BA_),(⟨#[116,104,101,110]⟩:BA_),(⟨#[101,108,115,101]⟩:BA_),(⟨#[116,114,117,101]⟩:BA_),(⟨#[102,97,108,115,101]⟩:BA_),(⟨#[108,105,116]⟩:BA_),(⟨#[110,111,110,101]⟩:BA_),(⟨#[115,101,108,102]⟩:BA_),(⟨#[111,102]⟩:BA_),(⟨#[109,97,120]⟩:BA_),(⟨#[109,105,110]⟩:BA_),(⟨#[119,105,116,104]⟩:BA_),(⟨#[104,97,115]⟩:BA_)]))<|e
theorem j0d {m:Md}{a0:List BA_}{a1:BA_}{r:Bool}(hr:z2Z a0 a1=some r):Okp 235 [rw2 m a0,dS a1] [] (dB r) []:=by
 refine OE Tryz.func235 fun S hS=>?_
 unfold z2Z at hr
 refine J (gn 10)<|J (lenT 0)<|fun hl1=>bdE hr fun q1 hqq1 hr=>q0b hqq1 hl1 0 (fun k1 _=>[(0,rw2 m a0),(1,dS a1),(5,dI (k1:Int))]) (fun k1 _=>[]) I (fun k1 xk1 sk1 ok1 hxk1 hr hltk1 hik1=>?_) fun k1 sk1 ek1 hltk1=>?_
 refine fE 21 hr ?_ ?_<;>intro h1 hr
 exact e
 exact e
 subst ek1
 exact e
theorem j4o {a0:BA_}{r:Bool}(hr:z1K a0=some r):Okp 248 [dS a0] [] (dB r) []:=by
 refine OE Tryz.func248 fun S hS=>?_
 unfold z1K at hr
 refine bdE hr fun y1 hy1 hr=>J g<|J (CB' [(0,0)] [] (j4n hy1))<|bdE hr fun y2 hy2 hr=>J g<|J (CB' [] [0] (j0d (m:=.bo) hy2))<|e
theorem q5W {a0:BA_}{r:Bool}(hr:q5n a0=some r):Okp 211 [dS a0] [] (dB r) []:=by
 refine OE Tryz.func211 fun S hS=>?_
 unfold q5n at hr
 refine bdE hr fun y1 hy1 hr=>J g<|J (CB' [] [] (j9a hy1))<|bdE hr fun s1 hqq1 hr=>q0a 5 [(0,dS a0),(2,dB false),(9,dB s1)] ?_ ?_
 replace hr:=hqq1
 refine ifE hr ?_ ?_<;>intro h1 hr
 refine J g<|J LS'<|e
 exact e
 refine bdE hr fun s2 hqq2 hr=>q0a 5 [(2,dB false),(14,dB s2)] ?_ ?_
 replace hr:=hqq2
 refine ifE hr ?_ ?_<;>intro h2 hr
 refine bdE hr fun y2 hy2 hr=>J g<|J (CB' [] [] (j4o hy2))<|e
 exact e
 exact e
theorem k1y {m:Md}{a0:Expr}{r:Bool}(hr:z7q a0=some r):Okp 184 [Expr.x m a0] [] (dB r) []:=by
 refine OE Tryz.func184 fun S hS=>?_
 unfold z7q at hr
 refine J g<|J (BX' 0)<|bdE hr fun y1 hy1 hr=>J g<|J (CB' [] [] (q6h hy1))<|bdE hr fun s1 hqq1 hr=>J (gn 1)<|q0a 5 [(1,.pb 0 0),(11,dB s1)] ?_ ?_
 replace hr:=hqq1
 refine ifE hr ?_ ?_<;>intro h1 hr
 refine bdE hr fun y2 hy2 hr=>J g<|J (CB' [] [] (k1w (m:=m) hy2))<|e
 exact e
 refine fE 1 hr ?_ ?_<;>intro h2 hr
 exact e
 refine fE 14 hr ?_ ?_<;>intro h3 hr
 refine bdE hr fun y3 hy3 hr=>J g<|J (CB' [] [] (q6h hy3))<|bdE hr fun s2 hqq2 hr=>q0a 7 [(1,.pb 0 0),(25,dB s2)] ?_ ?_
 replace hr:=hqq2
 refine ifE hr ?_ ?_<;>intro h4 hr
 refine bdE hr fun y4 hy4 hr=>J g<|J (CB' [] [] (j7H hy4))<|e
 exact e
 refine bdE hr fun s3 hqq3 hr=>q0a 5 [(30,dB s3)] ?_ ?_
 replace hr:=hqq3
 refine ifE hr ?_ ?_<;>intro h5 hr
 exact e
 exact e
 exact e
 refine fE 6 hr ?_ ?_<;>intro h6 hr
 refine bdE hr fun y5 hy5 hr=>J g<|J (CB' [] [] (q6h hy5))<|bdE hr fun s4 hqq4 hr=>q0a 5 [(40,dB s4)] ?_ ?_
 replace hr:=hqq4
 refine ifE hr ?_ ?_<;>intro h7 hr
 refine bdE hr fun y6 hy6 hr=>J g<|J (CB' [] [] (q5W hy6))<|e
 exact e
 exact e
 refine fE 6 hr ?_ ?_<;>intro h8 hr
 refine bdE hr fun y7 hy7 hr=>J g<|J (CB' [] [] (q6h hy7))<|e
 refine fE 6 hr ?_ ?_<;>intro h9 hr
 refine bdE hr fun y8 hy8 hr=>J g<|J (CB' [] [] (q6h hy8))<|e
 refine fE 6 hr ?_ ?_<;>intro h10 hr
 refine bdE hr fun y9 hy9 hr=>J g<|J (CB' [] [] (q5W hy9))<|bdE hr fun s5 hqq5 hr=>q0a 5 [(60,dB s5)] ?_ ?_
 replace hr:=hqq5
 refine ifE hr ?_ ?_<;>intro h11 hr
 refine bdE hr fun y10 hy10 hr=>J g<|J (CB' [] [] (q5W hy10))<|e
 exact e
 exact e
 exact e
theorem k1z {Rc3:Expr→Option Bool}(Ic3:∀ {m:Md} {a0:Expr} {r:Bool},Rc3 a0=some r→Okp 155 [Expr.x m a0] [] (dB r) []){m:Md}{a0:Expr}{r:Bool}(hr:z9I Rc3 a0=some r):Okp 155 [Expr.x m a0] [] (dB r) []:=by
 refine OE Tryz.func155 fun S hS=>?_
 unfold z9I at hr
 refine J g<|J (BX' 0)<|J (gn 8)<|J (lenA 6 0)<|fun hl1=>bdE hr fun q1 hqq1 hr=>q0b hqq1 hl1 1 (fun k1 _=>[(1,.pb 0 0),(3,dI (k1:Int))]) (fun k1 _=>[]) I (fun k1 xk1 sk1 ok1 hxk1 hr hltk1 hik1=>?_) fun k1 sk1 ek1 hltk1=>?_
 refine bdE hr fun y1 hy1 hr=>J g<|J (CB' [] [] (Ic3 (m:=m) hy1))<|fE 2 hr ?_ ?_<;>intro h1 hr
 exact e
 exact e
 subst ek1
 refine bdE hr fun y2 hy2 hr=>J g<|J (CB' [] [] (k1y (m:=m) hy2))<|e
theorem k1A (n:Nat):∀ {m:Md} {a0:Expr} {r:Bool},z9J n a0=some r→Okp 155 [Expr.x m a0] [] (dB r) []:=by
  induction n with
  | zero=>intro _ _ r hr;exact nomatch (show (none:Option Bool)=some r from hr)
  | succ n ih=>intro _ _ r hr;exact k1z ih hr
theorem k3f {m:Md}{a0:Expr}{r:Bool}(hr:j5U a0=some r):Okp 155 [Expr.x m a0] [] (dB r) []:=by
 obtain⟨n,hn⟩:=q6R hr
 exact k1A n hn
theorem z4M {m:Md}{a0:Expr}{r:Bool}(hr:q8N a0=some r):Okp 115 [Expr.x m a0] [] (dB r) []:=by
 refine OE Tryz.func115 fun S hS=>?_
 unfold q8N at hr
 refine J g<|J (BX' 0)<|bdE hr fun y1 hy1 hr=>J g<|J (CB' [] [] (k1v (m:=m) hy1))<|bdE hr fun s1 hqq1 hr=>J (gn 1)<|q0a 5 [(1,.pb 0 0),(2,dB false),(10,dB s1)] ?_ ?_
 replace hr:=hqq1
 refine ifE hr ?_ ?_<;>intro h1 hr
 refine bdE hr fun y2 hy2 hr=>J g<|J (CB' [] [] (j3f (m:=m) hy2))<|e
 exact e
 refine bdE hr fun s2 hqq2 hr=>q0a 4 [(2,dB false),(14,dB s2)] ?_ ?_
 replace hr:=hqq2
 refine ifE hr ?_ ?_<;>intro h2 hr
 refine bdE hr fun y3 hy3 hr=>J g<|J (CB' [] [] (k3f (m:=m) hy3))<|e
 exact e
 exact e
theorem j9b {m m2:Md}{a1:Gm_}{a2:Rule}{a3:Bool}{o0:L1_}{r:(Rule×L1_)}(hr:z5M a1 a2 a3 o0=some r):Okp 64 [.pb 0 0,Gm_.y m a1,.ag [dS a2.Name,dS a2.Left,.ref 1 none,dB a2.ll_,.ref 2 none,.ref 3 none],dB a3] [cuB o0.b o0.i o0.h,.row .fz 1 (a2.rt_.map A.D.s),.row m2 9 (a2.es_.map Eqn.D),.row m2 16 (a2.cs_.map Cn.D)] (.ag [dS r.1.Name,dS r.1.Left,.ref 1 none,dB r.1.ll_,.ref 4 none,.ref 3 none]) [cuB o0.b r.2.i r.2.h,.row .fz 1 (r.1.rt_.map A.D.s),.dead,.row m2 16 (r.1.cs_.map Cn.D),.row m2 9 (r.1.es_.map Eqn.D)]:=by
 refine Ok.enter rfl Tryz.func64 rfl rfl rfl fun S hS=>?_
 unfold z5M at hr
 refine sr ?_
 refine BX 4 ?_
 refine BX 5 ?_
 refine NV 6 ?_
 refine N0 ?_
 refine sr ?_
 refine W2 ?_
 refine bdE hr fun y1 hy1 hr=>?_
 refine CB [(0,7)] [1,2,3] (q6I (m:=.bo) hy1) ?_
 refine N1 ?_
 refine ssr ?_
 refine N1 ?_
 refine AW.block ?_
 refine AW.mv 2 8 rfl ?_
 refine q1I 7 rfl fun hl1=>?_
 refine bdE hr fun q1 hqq1 hr=>?_
 obtain⟨s2,s3,s1⟩:=q1
 refine q0e hqq1 hl1 9 (fun k1 (s2,s3,s1)=>[(0,.pb 0 0),(3,dB a3),(5,.pb 4 0),(6,.pb 5 0),(8,.pb 6 0),(9,.ref 7 none),(10,dI (k1:Int))]) (fun k1 (s2,s3,s1)=>[(0,(cuB o0.b s2 s3)),(8,.row m2 9 (s1.map Eqn.D))]) (GH.trans (q0D (q:=4) [rw3 m a1.ss_,.u] (.cons .rfl (.cons .u .nil)) rfl) (q0g hS 9)) (fun k1 xk1 sk1 ok1 hxk1 hr hltk1=>?_) fun k1 hltk1=>?_
 obtain⟨s2,s3,s1⟩:=sk1
 refine ssr ?_
 refine W2 ?_
 refine LE ?_
 refine N1 ?_
 refine q0s rfl (dT hltk1) ?_
 refine q0k ?_
 refine bdE hr fun q2 hqq2 hr=>?_
 obtain⟨s5,s6,s4⟩:=q2
 refine q0m (q0d 10 [(0,.pb 0 0),(3,dB a3),(5,.pb 4 0),(6,.pb 5 0),(8,.pb 6 0),(9,.ref 7 none),(10,dI (k1:Int))] [(0,(cuB o0.b s5 s6)),(5,.box [dS a2.Name,dS a2.Left,.ref 1 none,dB a2.ll_,.ref 9 none,.ref 3 none]),(8,.none),(9,.row m2 9 (s4.map Eqn.D))] ?_ ?_)
 replace hr:=hqq2
 refine AW.block (q0m (q0q (h:=?_)))
 refine W4 ?_
 refine IE hxk1 (Dpz _) ?_
 refine W1 ?_
 refine LP hxk1 ?_
 refine bdE hr fun y2 hy2 hr=>?_
 refine CB [] [1,8,3] (q7S (m:=.bo) hy2) ?_
 refine bdE hr fun q3 hq3 hr=>?_
 obtain⟨y3,y4⟩:=q3
 refine CB [(0,9)] [] (q7T (m:=m) hq3) ?_
 refine W3 ?_
 refine NV 10 ?_
 refine SB ?_
 refine N1 ?_
 refine q0m (q0q (h:=?_))
 refine W3 ?_
 refine IE hxk1 (Dpz _) ?_
 refine W1 ?_
 refine LP hxk1 ?_
 refine bdE hr fun q4 hq4 hr=>?_
 obtain⟨y5,y6⟩:=q4
 refine CB [] [9] (z0C (m:=.bo) hq4) ?_
 refine W3 ?_
 refine NV 11 ?_
 refine SB ?_
 refine N1 ?_
 refine q0m (q0q (h:=?_))
 refine W5 ?_
 refine W1 ?_
 refine bdE hr fun q5 hq5 hr=>?_
 obtain⟨y7,z1⟩:=q5
 refine CB [(0,0)] [] (q3T hq5) ?_
 refine ggE hr fun g1 hr=>?_
 refine OB _ (bAdd g1) ?_
 refine W1 ?_
 refine bdE hr fun q6 hq6 hr=>?_
 obtain⟨y8,z2⟩:=q6
 refine CB [(0,0),(1,12)] [1,8,3] (j8W (m:=.bo) hq6) ?_
 refine NV 13 ?_
 refine SB ?_
 refine N0 ?_
 refine ssr ?_
 refine W1 ?_
 refine bdE hr fun y9 hy9 hr=>?_
 refine CB [] [12] (z4M (m:=.bo) hy9) ?_
 refine N1 ?_
 refine ifE hr (fun h1 hr=>?_) fun h1 hr=>?_
 refine q0t rfl (bnF h1) ?_
 refine q0k ?_
 refine AW.fz 12 rfl ?_
 refine q0q (h:=?_)
 refine W4 ?_
 refine IE hxk1 (Dpz _) ?_
 refine LPa hxk1 ?_
 refine W2 ?_
 refine LIR 14 (m:=.fz) (f:=Eqn.D) (xs:=[(⟨xk1,y8⟩:Eqn)]) ?_
 refine ggE hr fun g2 hr=>?_
 refine AP1 15 m2 112 g2 ?_
 refine W1 ?_
 refine SB ?_
 refine N0 ?_
 cases hr
 exact GH.trans (q0D (q:=4) [rw3 m a1.ss_,.u] (.cons .rfl (.cons .u .nil)) rfl) (q0j hS [(0,0),(1,1),(2,2),(3,3),(4,4),(5,5),(6,6),(7,7),(15,9)] 10)
 refine q0s rfl (bnT h1) ?_
 refine q0h ?_
 refine W3 ?_
 refine L0 14 Oc.D ?_
 refine bdE hr fun q7 hq7 hr=>?_
 obtain⟨y10,z3⟩:=q7
 refine CB [(0,0),(1,15)] [14] (z0D (m:=.bo) hq7) ?_
 refine SB ?_
 refine N0 ?_
 refine AW.fz 15 rfl ?_
 refine q0q (h:=?_)
 refine W4 ?_
 refine IE hxk1 (Dpz _) ?_
 refine LPa hxk1 ?_
 refine W2 ?_
 refine LIR 16 (m:=.fz) (f:=Eqn.D) (xs:=[(⟨xk1,y10⟩:Eqn)]) ?_
 refine ggE hr fun g3 hr=>?_
 refine AP1 17 m2 112 g3 ?_
 refine W1 ?_
 refine SB ?_
 refine N0 ?_
 cases hr
 exact GH.trans (q0D (q:=4) [rw3 m a1.ss_,.u] (.cons .rfl (.cons .u .nil)) rfl) (q0j hS [(0,0),(1,1),(2,2),(3,3),(4,4),(5,5),(6,6),(7,7),(17,9)] 10)
 refine q0h ?_
 refine W1 ?_
 refine OB _ (z2q (p:=k1) (q:=1) (q5o hltk1 hl1)) ?_
 refine N1 ?_
 cases hr
 exact GH.trans (q0D (q:=4) [rw3 m a1.ss_,.u] (.cons .rfl (.cons .u .nil)) rfl) (q0j hS [(0,0),(1,1),(2,2),(3,3),(4,4),(5,5),(6,6),(7,7),(9,8)] 9)
 refine ssr ?_
 refine W2 ?_
 refine LE ?_
 refine N1 ?_
 refine q0t rfl (dF hltk1) ?_
 refine q0u ?_
 refine sr ?_
 refine W1 ?_
 refine SB ?_
 refine N0 ?_
 refine AW.ret ?_
 cases hr
 exact q0o [(0,0),(1,1),(2,2),(3,3),(8,4)] 5 hS
theorem k1B {m m2:Md}{a1:Gm_}{a2:Rule}{o0:L1_}{r:(Rule×L1_)}(hr:z7r a1 a2 o0=some r):Okp 65 [.pb 0 0,Gm_.y m a1,.ag [dS a2.Name,dS a2.Left,.ref 1 none,dB a2.ll_,.ref 2 none,.ref 3 none]] [cuB o0.b o0.i o0.h,.row .fz 1 (a2.rt_.map A.D.s),.row m2 9 (a2.es_.map Eqn.D),.row m2 16 (a2.cs_.map Cn.D)] (.ag [dS r.1.Name,dS r.1.Left,.ref 1 none,dB r.1.ll_,.ref 2 none,.ref 4 none]) [cuB o0.b r.2.i r.2.h,.row .fz 1 (r.1.rt_.map A.D.s),.row m2 9 (r.1.es_.map Eqn.D),.dead,.row m2 16 (r.1.cs_.map Cn.D)]:=by
 refine OE Tryz.func65 fun S hS=>?_
 unfold z7r at hr
 refine J g<|J (BX' 4)<|J (BX' 5)<|J (NV' 6)<|J (gn 7) ?_
 refine J (q0P 3 7 rfl)<|J (lenA 0 1)<|fun hl1=>bdT hr fun s1 s2 s3 hqq1 hr=>q0e hqq1 hl1 8 (fun k1 (s1,s2,s3)=>[(0,.pb 0 0),(4,.pb 4 0),(5,.pb 5 0),(6,.pb 6 0),(7,dI (k1:Int))]) (fun k1 (s1,s2,s3)=>[(0,(cuB o0.b s1 s2)),(7,.row m2 16 (s3.map Cn.D))]) I (fun k1 xk1 sk1 ok1 hxk1 hr hltk1=>?_) fun k1 hltk1=>?_
 obtain⟨s1,s2,s3⟩:=sk1
 refine J (gn 18) ?_
 refine AW.len (.el 1 (.tmp 12 rfl) hxk1 rfl) fun hl2=>?_
 refine bdT hr fun s4 s5 s6 hqq2 hr=>q0e hqq2 hl2 8 (fun k2 (s4,s5,s6)=>[(0,.pb 0 0),(4,.pb 4 0),(5,.pb 5 0),(6,.pb 6 0),(7,dI (k1:Int)),(8,dI (k2:Int))]) (fun k2 (s4,s5,s6)=>[(0,(cuB o0.b s4 s5)),(7,.row m2 16 (s6.map Cn.D))]) I (fun k2 xk2 sk2 ok2 hxk2 hr hltk2=>?_) fun k2 hltk2=>?_
 obtain⟨s4,s5,s6⟩:=sk2
 refine bdT hr fun s8 s9 s7 hqq3 hr=>J (gn 16)<|q0d 8 [(0,.pb 0 0),(4,.pb 4 0),(5,.pb 5 0),(6,.pb 6 0),(7,dI (k1:Int)),(8,dI (k2:Int))] [(0,(cuB o0.b s8 s9)),(7,.row m2 16 (s7.map Cn.D))] ?_ ?_
 replace hr:=hqq3
 refine J g<|J (NV' 8)<|bdE hr fun s10 hqq4 hr=>J (gn 7)<|q0a 6 [(0,.pb 0 0),(4,.pb 4 0),(5,.pb 5 0),(6,.pb 6 0),(7,dI (k1:Int)),(8,dI (k2:Int)),(9,.pb 8 0),(45,dB s10)] ?_ ?_
 replace hr:=hqq4
 refine ifE hr ?_ ?_<;>intro h1 hr
 exact e
 exact e
 refine bdT hr fun s14 s15 s16 hqq5 hr=>q0B 5 9 [(0,.pb 0 0),(4,.pb 4 0),(5,.pb 5 0),(6,.pb 6 0),(7,dI (k1:Int)),(8,dI (k2:Int)),(9,.pb 8 0),(50,dB s14)] [(0,(cuB o0.b s15 s16))] ?_ ?_
 replace hr:=hqq5
 refine ifE hr ?_ ?_<;>intro h2 hr
 refine bdP hr fun y1 z1 hq6 hr=>J g<|J (CB' [(0,0)] [] (q5S hq6))<|e
 exact e
 refine fE 1 hr ?_ ?_<;>intro h3 hr
 refine bdE hr fun y2 hy2 hr=>J g<|J (CB' [(0,9)] [1,2,7] (z6g (m:=.bo) hy2))<|bdP hr fun y3 z2 hq7 hr=>J (CBz' 10 [(0,0),(1,10)] [9] (z0D (m:=.bo) hq7))<|bdE hr fun y4 hy4 hr=>J g<|J (CB' [(0,11)] [1,2,7] (z6g (m:=.bo) hy4))<|bdP hr fun y5 z3 hq8 hr=>J (CBz' 12 [(0,0),(1,12)] [11] (z0D (m:=.bo) hq8))<|J g<|J (LIR' 13 (m:=.fz) (f:=Cn.D) (xs:=[(⟨xk1.Name,xk2.Name,y3,y5⟩:Cn)]))<|ggE hr fun g1 hr=>J (AP1' 14 m2 208 g1)<|e
 exact e
 exact e
 exact e
 exact e
end Go.Proofs.YtgkepiefcpfimaaGreatDoor
