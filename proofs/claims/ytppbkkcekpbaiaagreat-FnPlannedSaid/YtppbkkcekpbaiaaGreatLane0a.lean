/- What some functions of the program compute, as partial functions on plain data, and that they do; each lemma bears its conditions in its statement. -/
import Derived.Test.YtppbkkcekpbaiaaGreatDef
set_option linter.unusedVariables false
set_option linter.unusedSimpArgs false
set_option linter.ambiguousOpen false
set_option linter.unusedSectionVars false
set_option linter.unnecessarySimpa false
set_option maxRecDepth 100000
set_option maxHeartbeats 40000000
noncomputable section
open Int renaming natCast_nonneg→Eaz
open List renaming map_cons→Bcz,map_nil→Dpz,set_set→Ebz
namespace Go.Proofs.YtppbkkcekpbaiaaGreat
open Go Go.E Go.A
theorem k3z {a0:List UInt8}{r:L1_}(hr:z8y a0=some r):Okp 26 [rw0 .fz a0] [] (.pb 0 0) [cuB r.b r.i r.h]:=by
 refine OE Tryz.func26 fun S hS=>?_
 unfold z8y at hr
 refine J g<|J (OB' _ j9o)<|bdE hr fun s1 hqq1 hr=>J (gn 7)<|q0e 0 [(0,rw0 .fz a0),(3,dI s1)] [] ?_ ?_
 refine J g<|q0i hqq1 0 (fun (s2,s3)=>[(0,rw0 .fz a0),(3,dI s2),(4,dI s3)]) (fun (s2,s3)=>[]) I fun sk1 ok1 hr hik1=>?_
 obtain⟨s2,s3⟩:=sk1
 have hr:=hr
 refine fE 7 hr ?_ ?_<;>intro h1 hr
 refine fE 5 hr ?_ ?_<;>intro h2 hr
 refine J g<|J (OB' _ k9B)<|ggE hr fun g1 hr=>bdE hr fun x1 hx1 hr=>J g ?_
 refine J (CUB' rfl)<|J (OB' _ j9o)<|J (OB' _ j9o)<|J (OB' _ k3o)<|J g<|J (OB' _ j9o)<|J g<|E
 refine J (gn 2) ?_
 cases hr
 cases hik1 _ rfl
 exact q0g hS 0
 refine J (gn 7) ?_
 cases hr
 cases hik1 _ rfl
 exact q0g hS 0
 refine J g<|J (BX' 0)<|e
theorem z6o {o0:L1_}{r:(Int×L1_)}(hr:z1T o0=some r):Okp 60 [.pb 0 0] [cuB o0.b o0.i o0.h] (dI r.1) [cuB o0.b r.2.i r.2.h]:=by
 refine OE Tryz.func60 fun S hS=>?_
 unfold z1T at hr
 refine J g<|J (OB' _ k9B)<|J (OB' _ j9o)<|J g<|J (OB' _ (k9C (b:=33) (by decide)))<|J g<|J (OB' _ (k9C (b:=45) (by decide)))<|J (OB' _ x0e)<|J (OB' _ k3o)<|fE 16 hr ?_ ?_<;>intro h1 hr
 refine ggE hr fun g1 hr=>bdE hr fun x1 hx1 hr=>J g ?_
 refine J (CUB' rfl)<|J (OB' _ j9o)<|J (OB' _ k3o)<|J (q0G .refl)<|J g<|J (OB' _ j9o)<|J g<|E
 exact e
theorem q3Q {a1:Int}{o0:L1_}{r:(Int×L1_)}(hr:q3O a1 o0=some r):Okp 27 [.pb 0 0,dI a1] [cuB o0.b o0.i o0.h] (dI r.1) [cuB o0.b r.2.i r.2.h]:=by
 refine OE Tryz.func27 fun S hS=>?_
 unfold q3O at hr
 refine fE 10 hr ?_ ?_<;>intro h1 hr
 exact e
 refine fE 8 hr ?_ ?_<;>intro h2 hr
 refine bdP hr fun y1 z1 hq1 hr=>J g<|J (CB' [(0,0)] [] (z6o hq1))<|ggE hr fun g1 hr=>J g<|J (OB' _ (bRem (b:=a1) g1))<|e
 refine bdP hr fun y2 z2 hq2 hr=>J g<|J (CB' [(0,0)] [] (z6o hq2))<|bdP hr fun y3 z3 hq3 hr=>J g<|J (CB' [(0,0)] [] (z6o hq3))<|bdP hr fun y4 z4 hq4 hr=>J g<|J (CB' [(0,0)] [] (z6o hq4))<|bdP hr fun y5 z5 hq5 hr=>J g<|J (CB' [(0,0)] [] (z6o hq5))<|ggE hr fun g2 hr=>J g<|J (OB' _ (bMul g2))<|ggE hr fun g3 hr=>J g<|J (OB' _ (bMul g3))<|ggE hr fun g4 hr=>ggE hr fun g5 hr=>J g<|J (OB' _ (bMul g5))<|ggE hr fun g6 hr=>ggE hr fun g7 hr=>ggE hr fun g8 hr=>J g<|J (OB' _ (bRem (b:=a1) g8)) ?_
 exact e
theorem q5X {a1:Int}{o0:L1_}{r:(Bool×L1_)}(hr:q5x a1 o0=some r):Okp 76 [.pb 0 0,dI a1] [cuB o0.b o0.i o0.h] (dB r.1) [cuB o0.b r.2.i r.2.h]:=by
 refine OE Tryz.func76 fun S hS=>?_
 unfold q5x at hr
 refine bdP hr fun y1 z1 hq1 hr=>J g<|J (CB' [(0,0)] [] (q3Q hq1))<|e
theorem q6J {m:Md}{a1:List Int}{o0:L1_}{r:(Int×L1_)}(hr:q5N a1 o0=some r):Okp 148 [.pb 0 0,rw1 m a1] [cuB o0.b o0.i o0.h] (dI r.1) [cuB o0.b r.2.i r.2.h]:=by
 refine OE Tryz.func148 fun S hS=>?_
 unfold q5N at hr
 refine bdP hr fun y1 z1 hq1 hr=>J g<|J (CB' [(0,0)] [] (q3Q hq1))<|ggE hr fun g1 hr=>bdE hr fun x1 hx1 hr=>e
theorem j5f {a1:BA_}{a2 a3:Bool}{o0:L1_}{r:(Symbol×L1_)}(hr:z5T a1 a2 a3 o0=some r):Okp 94 [.pb 0 0,dS a1,dB a2,dB a3] [cuB o0.b o0.i o0.h] (.ag [dS r.1.Name,.ref 1 none]) [cuB o0.b r.2.i r.2.h,.row .fz 4 (r.1.as_.map At_.D)]:=by
 refine Ok.enter rfl Tryz.func94 rfl rfl rfl fun S hS=>?_
 unfold z5T at hr
 refine sr ?_
 refine NV 1 ?_
 refine N0 ?_
 refine sr ?_
 refine W2 ?_
 refine NV 2 ?_
 refine SB ?_
 refine N0 ?_
 refine sr ?_
 refine W1 ?_
 refine bdE hr fun q1 hq1 hr=>?_
 obtain⟨y1,z1⟩:=q1
 refine CB [(0,0)] [] (q3Q hq1) ?_
 refine ggE hr fun g1 hr=>?_
 refine OB _ (bAdd g1) ?_
 refine N1 ?_
 refine ssr ?_
 refine N1 ?_
 refine AW.block ?_
 refine q1g 2 1 3 .fz 4 rfl rfl ?_
 refine AW.rng (.tmp 10 rfl) fun hl1=>?_
 refine bdE hr fun q2 hqq2 hr=>?_
 obtain⟨s2,s3,s1⟩:=q2
 refine q0n hqq2 4 (fun k1 (s2,s3,s1)=>[(0,.pb 0 0),(2,dB a2),(3,dB a3),(8,.pb 1 0),(9,.pb 2 0),(10,dI (1+y1)),(11,dI (k1:Int))]) (fun k1 (s2,s3,s1)=>[(0,(cuB o0.b s2 s3)),(3,.row .fz 4 (s1.map At_.D))]) (q0g hS 4) (fun k1 sk1 ok1 hr hltk1=>?_) ?_
 obtain⟨s2,s3,s1⟩:=sk1
 refine ssr ?_
 refine N3 ?_
 refine q0r rfl (dT (ltI hltk1)) ?_
 refine q0k ?_
 refine bdE hr fun q3 hqq3 hr=>?_
 obtain⟨s4,s5,s6⟩:=q3
 refine q0l (q0e 5 [(0,.pb 0 0),(2,dB a2),(3,dB a3),(8,.pb 1 0),(9,.pb 2 0),(10,dI (1+y1)),(11,dI (k1:Int))] [(0,(cuB o0.b s5 s6)),(2,.box [dS a1,.ref 4 none]),(3,.none),(4,.row .fz 4 (s4.map At_.D))] ?_ ?_)
 replace hr:=hqq3
 refine AW.block (q0l (q0q (h:=?_)))
 refine LIR 4 (m:=.fz) (f:=A.D.s) (xs:=[(⟨#[97]⟩:BA_),(⟨#[98]⟩:BA_),(⟨#[99]⟩:BA_),(⟨#[100]⟩:BA_)]) ?_
 refine W1 ?_
 refine bdE hr fun x1 hx1 hr=>?_
 refine IE hx1 (Eaz _) ?_
 refine LP hx1 ?_
 refine W1 ?_
 refine LIR 5 (m:=.fz) (f:=(A.D.i .i64)) (xs:=([1,1,2,2,3,4]:List Int)) ?_
 refine bdE hr fun q4 hq4 hr=>?_
 obtain⟨y2,z2⟩:=q4
 refine CB [(0,0)] [5] (q6J (m:=.bo) hq4) ?_
 refine W1 ?_
 refine LIR 6 (m:=.fz) (f:=(A.D.i .i64)) (xs:=([1,2,2,1,2,3]:List Int)) ?_
 refine bdE hr fun q5 hq5 hr=>?_
 obtain⟨y3,z3⟩:=q5
 refine CB [(0,0)] [6] (q6J (m:=.bo) hq5) ?_
 refine W1 ?_
 refine NV 7 ?_
 refine SB ?_
 refine N0 ?_
 refine ssr ?_
 refine N1 ?_
 refine ifE hr (fun h1 hr=>?_) fun h1 hr=>?_
 refine q0r rfl h1 ?_
 refine q0h ?_
 refine W1 ?_
 refine LIR 8 (m:=.fz) (f:=(A.D.i .i64)) (xs:=([1,1,2,3]:List Int)) ?_
 refine bdE hr fun q6 hq6 hr=>?_
 obtain⟨y4,z4⟩:=q6
 refine CB [(0,0)] [8] (q6J (m:=.bo) hq6) ?_
 refine W1 ?_
 refine SB ?_
 refine N0 ?_
 refine ssr ?_
 refine W1 ?_
 refine bdE hr fun s7 hqq7 hr=>?_
 refine q0a 5 [(0,.pb 0 0),(2,dB a2),(3,dB a3),(8,.pb 1 0),(9,.pb 2 0),(10,dI (1+y1)),(11,dI (k1:Int)),(12,.pb 7 0),(44,dB s7)] ?_ ?_
 replace hr:=hqq7
 refine ifE hr (fun h2 hr=>?_) fun h2 hr=>?_
 refine VT rfl h2 ?_
 refine N4 ?_
 cases hr
 exact z6M
 refine VF rfl (bF h2) ?_
 iterate 3 refine AL.off ?_
 refine N1 ?_
 cases hr
 exact z6M
 refine bdE hr fun s8 hqq8 hr=>?_
 refine q0a 8 [(0,.pb 0 0),(2,dB a2),(3,dB a3),(8,.pb 1 0),(9,.pb 2 0),(10,dI (1+y1)),(11,dI (k1:Int)),(12,.pb 7 0),(52,dB s8)] ?_ ?_
 replace hr:=hqq8
 refine ifE hr (fun h3 hr=>?_) fun h3 hr=>?_
 refine VT rfl h3 ?_
 iterate 6 refine AL.off ?_
 refine N1 ?_
 cases hr
 exact z6M
 refine VF rfl (bF h3) ?_
 refine W1 ?_
 refine bdE hr fun q9 hqq9 hr=>?_
 obtain⟨s9,s10⟩:=q9
 refine q0a 5 [(0,.pb 0 0),(2,dB a2),(3,dB a3),(8,.pb 1 0),(9,.pb 2 0),(10,dI (1+y1)),(11,dI (k1:Int)),(12,.pb 7 0),(45,dB false),(46,dB a3),(47,dB s9),(51,dB s10)] ?_ ?_
 replace hr:=hqq9
 refine ifE hr (fun h4 hr=>?_) fun h4 hr=>?_
 refine VT rfl h4 ?_
 refine N4 ?_
 cases hr
 exact z6M
 refine VF rfl (bF h4) ?_
 iterate 3 refine AL.off ?_
 refine N1 ?_
 cases hr
 exact z6M
 refine N1 ?_
 cases hr
 exact z6M
 refine N0 ?_
 refine ifE hr (fun h5 hr=>?_) fun h5 hr=>?_
 refine q0r rfl h5 ?_
 refine q0h ?_
 refine W1 ?_
 refine SB ?_
 refine N0 ?_
 refine ssr ?_
 refine N3 ?_
 refine ifE hr (fun h6 hr=>?_) fun h6 hr=>?_
 refine q0r rfl (dT h6) ?_
 refine q0h ?_
 refine W1 ?_
 refine SB ?_
 refine N0 ?_
 refine q0h ?_
 refine W3 ?_
 refine LIR 9 (m:=.fz) (f:=At_.D) (xs:=[(⟨x1,2,2,false⟩:At_)]) ?_
 refine ggE hr fun g2 hr=>?_
 refine APf1 (f:=At_.D) 10 (fun _=>rfl) 40 g2 ?_
 refine W1 ?_
 refine SB ?_
 refine N0 ?_
 cases hr
 exact q0j hS [(0,0),(1,1),(2,2),(10,4)] 5
 refine q0s rfl (dF h6) ?_
 refine q0k ?_
 refine q0h ?_
 refine W3 ?_
 refine LIR 9 (m:=.fz) (f:=At_.D) (xs:=[(⟨x1,y4,2,false⟩:At_)]) ?_
 refine ggE hr fun g3 hr=>?_
 refine APf1 (f:=At_.D) 10 (fun _=>rfl) 40 g3 ?_
 refine W1 ?_
 refine SB ?_
 refine N0 ?_
 cases hr
 exact q0j hS [(0,0),(1,1),(2,2),(10,4)] 5
 refine q0s rfl (bF h5) ?_
 refine q0k ?_
 refine ssr ?_
 refine N3 ?_
 refine ifE hr (fun h7 hr=>?_) fun h7 hr=>?_
 refine q0r rfl (dT h7) ?_
 refine q0h ?_
 refine W1 ?_
 refine SB ?_
 refine N0 ?_
 refine q0h ?_
 refine W3 ?_
 refine LIR 9 (m:=.fz) (f:=At_.D) (xs:=[(⟨x1,2,y3,false⟩:At_)]) ?_
 refine ggE hr fun g4 hr=>?_
 refine APf1 (f:=At_.D) 10 (fun _=>rfl) 40 g4 ?_
 refine W1 ?_
 refine SB ?_
 refine N0 ?_
 cases hr
 exact q0j hS [(0,0),(1,1),(2,2),(10,4)] 5
 refine q0s rfl (dF h7) ?_
 refine q0k ?_
 refine q0h ?_
 refine W3 ?_
 refine LIR 9 (m:=.fz) (f:=At_.D) (xs:=[(⟨x1,y4,y3,false⟩:At_)]) ?_
 refine ggE hr fun g5 hr=>?_
 refine APf1 (f:=At_.D) 10 (fun _=>rfl) 40 g5 ?_
 refine W1 ?_
 refine SB ?_
 refine N0 ?_
 cases hr
 exact q0j hS [(0,0),(1,1),(2,2),(10,4)] 5
 refine q0s rfl (bF h1) ?_
 refine q0k ?_
 refine ssr ?_
 refine W1 ?_
 refine bdE hr fun s11 hqq10 hr=>?_
 refine q0a 5 [(0,.pb 0 0),(2,dB a2),(3,dB a3),(8,.pb 1 0),(9,.pb 2 0),(10,dI (1+y1)),(11,dI (k1:Int)),(12,.pb 7 0),(44,dB s11)] ?_ ?_
 replace hr:=hqq10
 refine ifE hr (fun h8 hr=>?_) fun h8 hr=>?_
 refine VT rfl h8 ?_
 refine N4 ?_
 cases hr
 exact z6M
 refine VF rfl (bF h8) ?_
 iterate 3 refine AL.off ?_
 refine N1 ?_
 cases hr
 exact z6M
 refine bdE hr fun s12 hqq11 hr=>?_
 refine q0a 8 [(0,.pb 0 0),(2,dB a2),(3,dB a3),(8,.pb 1 0),(9,.pb 2 0),(10,dI (1+y1)),(11,dI (k1:Int)),(12,.pb 7 0),(52,dB s12)] ?_ ?_
 replace hr:=hqq11
 refine ifE hr (fun h9 hr=>?_) fun h9 hr=>?_
 refine VT rfl h9 ?_
 iterate 6 refine AL.off ?_
 refine N1 ?_
 cases hr
 exact z6M
 refine VF rfl (bF h9) ?_
 refine W1 ?_
 refine bdE hr fun q12 hqq12 hr=>?_
 obtain⟨s13,s14⟩:=q12
 refine q0a 5 [(0,.pb 0 0),(2,dB a2),(3,dB a3),(8,.pb 1 0),(9,.pb 2 0),(10,dI (1+y1)),(11,dI (k1:Int)),(12,.pb 7 0),(45,dB false),(46,dB a3),(47,dB s13),(51,dB s14)] ?_ ?_
 replace hr:=hqq12
 refine ifE hr (fun h10 hr=>?_) fun h10 hr=>?_
 refine VT rfl h10 ?_
 refine N4 ?_
 cases hr
 exact z6M
 refine VF rfl (bF h10) ?_
 iterate 3 refine AL.off ?_
 refine N1 ?_
 cases hr
 exact z6M
 refine N1 ?_
 cases hr
 exact z6M
 refine N0 ?_
 refine ifE hr (fun h11 hr=>?_) fun h11 hr=>?_
 refine q0r rfl h11 ?_
 refine q0h ?_
 refine W1 ?_
 refine SB ?_
 refine N0 ?_
 refine ssr ?_
 refine N3 ?_
 refine ifE hr (fun h12 hr=>?_) fun h12 hr=>?_
 refine q0r rfl (dT h12) ?_
 refine q0h ?_
 refine W1 ?_
 refine SB ?_
 refine N0 ?_
 refine q0h ?_
 refine W3 ?_
 refine LIR 8 (m:=.fz) (f:=At_.D) (xs:=[(⟨x1,2,2,false⟩:At_)]) ?_
 refine ggE hr fun g6 hr=>?_
 refine APf1 (f:=At_.D) 9 (fun _=>rfl) 40 g6 ?_
 refine W1 ?_
 refine SB ?_
 refine N0 ?_
 cases hr
 exact q0j hS [(0,0),(1,1),(2,2),(9,4)] 5
 refine q0s rfl (dF h12) ?_
 refine q0k ?_
 refine q0h ?_
 refine W3 ?_
 refine LIR 8 (m:=.fz) (f:=At_.D) (xs:=[(⟨x1,y2,2,false⟩:At_)]) ?_
 refine ggE hr fun g7 hr=>?_
 refine APf1 (f:=At_.D) 9 (fun _=>rfl) 40 g7 ?_
 refine W1 ?_
 refine SB ?_
 refine N0 ?_
 cases hr
 exact q0j hS [(0,0),(1,1),(2,2),(9,4)] 5
 refine q0s rfl (bF h11) ?_
 refine q0k ?_
 refine ssr ?_
 refine N3 ?_
 refine ifE hr (fun h13 hr=>?_) fun h13 hr=>?_
 refine q0r rfl (dT h13) ?_
 refine q0h ?_
 refine W1 ?_
 refine SB ?_
 refine N0 ?_
 refine q0h ?_
 refine W3 ?_
 refine LIR 8 (m:=.fz) (f:=At_.D) (xs:=[(⟨x1,2,y3,false⟩:At_)]) ?_
 refine ggE hr fun g8 hr=>?_
 refine APf1 (f:=At_.D) 9 (fun _=>rfl) 40 g8 ?_
 refine W1 ?_
 refine SB ?_
 refine N0 ?_
 cases hr
 exact q0j hS [(0,0),(1,1),(2,2),(9,4)] 5
 refine q0s rfl (dF h13) ?_
 refine q0k ?_
 refine q0h ?_
 refine W3 ?_
 refine LIR 8 (m:=.fz) (f:=At_.D) (xs:=[(⟨x1,y2,y3,false⟩:At_)]) ?_
 refine ggE hr fun g9 hr=>?_
 refine APf1 (f:=At_.D) 9 (fun _=>rfl) 40 g9 ?_
 refine W1 ?_
 refine SB ?_
 refine N0 ?_
 cases hr
 exact q0j hS [(0,0),(1,1),(2,2),(9,4)] 5
 refine q0h ?_
 refine W1 ?_
 refine OB _ (z2y (p:=k1) (q:=1) (q5g (ltI hltk1) hl1.2)) ?_
 refine N1 ?_
 cases hr
 exact q0j hS [(0,0),(1,1),(2,2),(4,3)] 4
 refine ssr ?_
 refine N3 ?_
 refine q0s rfl (dF geI) ?_
 refine q0t ?_
 refine sr ?_
 refine W1 ?_
 refine SB ?_
 refine N0 ?_
 refine AW.ret ?_
 cases hr
 exact q0m [(0,0),(3,1)] 2 hS
theorem j6e {a0:Int}{r:BA_}(hr:z1F a0=some r):Okp 95 [dI a0] [] (dS r) []:=by
 refine OE Tryz.func95 fun S hS=>?_
 unfold z1F at hr
 refine fE 10 hr ?_ ?_<;>intro h1 hr
 exact e
 refine bdE hr fun s1 hqq1 hr=>J (gn 13)<|q0e 0 [(3,dB (decide (a0<0))),(4,dS s1)] [] ?_ ?_
 refine J g<|q0i hqq1 0 (fun (s2,s3)=>[(0,dI s2),(3,dB (decide (a0<0))),(4,dS s3)]) (fun (s2,s3)=>[]) I fun sk1 ok1 hr hik1=>?_
 obtain⟨s2,s3⟩:=sk1
 have hr:=hr
 refine fE 6 hr ?_ ?_<;>intro h2 hr
 refine J (gn 2) ?_
 cases hr
 cases hik1 _ rfl
 exact q0g hS 0
 refine J g<|J (OB' _ (bRem (b:=10) (by decide)))<|fE 8 hr ?_ ?_<;>intro h3 hr
 refine ggE hr fun g1 hr=>ggE hr fun g2 hr=>J g ?_
 refine J (CIB' rfl)<|J (LIR' 0 (m:=.fz) (f:=byD) (xs:=([(UInt8.ofNat ((48+(0-(s2.tmod 10))) % 256).toNat)]:List UInt8))) ?_
 refine J (TS' rfl rfl)<|ggE hr fun g3 hr=>J g<|J (OB' _ (k1R g3))<|ggE hr fun g4 hr=>J g<|J (OB' _ (bQuo (b:=10) (by decide) g4))<|J g<|E
 refine ggE hr fun g5 hr=>J g ?_
 refine J (CIB' rfl)<|J (LIR' 0 (m:=.fz) (f:=byD) (xs:=([(UInt8.ofNat ((48+(s2.tmod 10)) % 256).toNat)]:List UInt8))) ?_
 refine J (TS' rfl rfl)<|ggE hr fun g6 hr=>J g<|J (OB' _ (k1R g6))<|ggE hr fun g7 hr=>J g<|J (OB' _ (bQuo (b:=10) (by decide) g7))<|J g<|E
 refine fE 5 hr ?_ ?_<;>intro h4 hr
 refine ggE hr fun g8 hr=>J g<|J (OB' _ (k1R g8))<|e
 exact e
theorem q9i {m:Md}{a1:List BA_}{o0:L1_}{r:(BA_×L1_)}(hr:q8i a1 o0=some r):Okp 96 [.pb 0 0,rw2 m a1] [cuB o0.b o0.i o0.h] (dS r.1) [cuB o0.b r.2.i r.2.h]:=by
 refine OE Tryz.func96 fun S hS=>?_
 unfold q8i at hr
 refine bdP hr fun y1 z1 hq1 hr=>J g<|J (CB' [(0,0)] [] (q3Q hq1))<|ggE hr fun g1 hr=>bdE hr fun x1 hx1 hr=>e
theorem q6m {a0 a1 a2:Int}{r:Bool}(hr:q6f a0 a1 a2=some r):Okp 73 [dI a0,dI a1,dI a2] [] (dB r) []:=by
 refine OE Tryz.func73 fun S hS=>?_
 unfold q6f at hr
 refine fE 9 hr ?_ ?_<;>intro h1 hr
 exact e
 exact e
theorem q7X {m:Md}{a0:Rule}{a1:Int}{r:BA_}(hr:q4K a0 a1=some r):Okp 48 [Rule.x m a0,dI a1] [] (dS r) []:=by
 refine OE Tryz.func48 fun S hS=>?_
 unfold q4K at hr
 refine J g<|J (BX' 0)<|fE 8 hr ?_ ?_<;>intro h1 hr
 exact e
 refine bdE hr fun y1 hy1 hr=>J g<|J (CB' [] [] (q6m hy1))<|fE 2 hr ?_ ?_<;>intro h2 hr
 refine ggE hr fun g1 hr=>ggE hr fun g2 hr=>bdE hr fun x1 hx1 hr=>e
 exact e
theorem j6f {m:Md}{a0 r:Symbol}(hr:z0k a0=some r):Okp 93 [Symbol.x m a0] [] (.ag [dS r.Name,.ref 0 none]) [.row .fz 4 (r.as_.map At_.D)]:=by
 refine OE Tryz.func93 fun S hS=>?_
 unfold z0k at hr
 refine J g<|J (BX' 0)<|J (NV' 1)<|J g<|J (L0' 2 At_.D)<|ggE hr fun g1 hr=>J g<|J (j7T (f:=At_.D) 3 40 (fun _=>rfl) g1)<|e
theorem q7Y {m:Md}{a0:Gm_}{a1:BA_}{r:(Symbol×Bool)}(hr:q5P a0 a1=some r):Okp 47 [Gm_.y m a0,dS a1] [] (.tu [.ag [dS r.1.Name,.ref 0 none],dB r.2]) [.row .fz 4 (r.1.as_.map At_.D)]:=by
 refine OE Tryz.func47 fun S hS=>?_
 unfold q5P at hr
 refine J g<|J (BX' 0)<|J (NV' 1)<|J (gn 8)<|J (lenA 0 0)<|fun hl1=>bdE hr fun q1 hqq1 hr=>q0b hqq1 hl1 2 (fun k1 _=>[(1,dS a1),(2,.pb 0 0),(4,.pb 1 0),(6,dI (k1:Int))]) (fun k1 _=>[]) I (fun k1 xk1 sk1 ok1 hxk1 hr hltk1 hik1=>?_) fun k1 sk1 ek1 hltk1=>?_
 refine fE 24 hr ?_ ?_<;>intro h1 hr
 refine bdE hr fun y1 hy1 hr=>J g<|J (CB' [(0,2)] [] (j6f (m:=m) hy1))<|e
 exact e
 subst ek1
 refine J (gn 18) ?_
 refine J (q0c (q0o (q:=1) (c:=1) (r:=2) .fz 4 rfl rfl rfl))<|J g<|E
theorem q6h {m:Md}{a0:Gm_}{a1:Rule}{r:List Oc}(hr:q3T a0 a1=some r):Okp 17 [Gm_.y m a0,Rule.x m a1] [] (.ref 0 none) [.row .fz 2 (r.map Oc.D)]:=by
 refine OE Tryz.func17 fun S hS=>?_
 unfold q3T at hr
 refine J g<|J (BX' 0)<|J (BX' 1)<|J g<|J (L0' 2 Oc.D)<|bdE hr fun s1 hqq1 hr=>J (gn 7)<|q0e 3 [(5,.ref 2 none)] [(2,.row .fz 2 (s1.map Oc.D))] ?_ ?_
 refine J g<|q0i hqq1 3 (fun (s2,s3)=>[(2,.pb 0 0),(3,.pb 1 0),(5,.ref 2 none),(6,dI s3)]) (fun (s2,s3)=>[(2,.row .fz 2 (s2.map Oc.D))]) I fun sk1 ok1 hr hik1=>?_
 obtain⟨s2,s3⟩:=sk1
 have hr:=hr
 refine fE 9 hr ?_ ?_<;>intro h1 hr
 refine bdE hr fun s4 hqq2 hr=>J (gn 3)<|q0e 3 [(2,.pb 0 0),(3,.pb 1 0),(5,.ref 2 none),(6,dI s3)] [(2,.row .fz 2 (s4.map Oc.D))] ?_ ?_
 replace hr:=hqq2
 refine bdE hr fun y1 hy1 hr=>J g<|J (CB' [] [] (q7X (m:=m) hy1))<|bdP hr fun y2 y3 hq3 hr=>J (CB' [(0,3)] [] (q7Y (m:=m) hq3))<|J g<|J (NV' 4)<|fE 13 hr ?_ ?_<;>intro h2 hr
 refine J (gn 9)<|J (lenR 3)<|fun hl2=>bdE hr fun s5 hqq4 hr=>q0d hqq4 hl2 5 (fun k2 s5=>[(2,.pb 0 0),(3,.pb 1 0),(5,.ref 2 none),(6,dI s3),(7,.pb 4 0),(9,dI 2),(10,dI (k2:Int))]) (fun k2 s5=>[(2,.row .fz 2 (s5.map Oc.D))]) I (fun k2 xk2 sk2 ok2 hxk2 hr hltk2=>?_) fun k2 hltk2=>?_
 obtain⟨s5,rfl⟩:∃ y,y=sk2:=⟨_,rfl⟩
 refine bdE hr fun s6 hqq5 hr=>J (gn 12)<|q0e 5 [(2,.pb 0 0),(3,.pb 1 0),(5,.ref 2 none),(6,dI s3),(7,.pb 4 0),(9,dI 2),(10,dI (k2:Int))] [(2,.row .fz 2 (s6.map Oc.D))] ?_ ?_
 replace hr:=hqq5
 refine fE 12 hr ?_ ?_<;>intro h3 hr
 refine J g<|J (LIR' 5 (m:=.fz) (f:=Oc.D) (xs:=[(⟨s3,xk2.Name⟩:Oc)]))<|ggE hr fun g1 hr=>J (z1p (f:=Oc.D) 6 (fun _=>rfl) 24 g1)<|e
 exact e
 exact e
 exact e
 refine J (gn 7)<|J (lenR 3)<|fun hl3=>bdE hr fun s7 hqq6 hr=>q0d hqq6 hl3 5 (fun k3 s7=>[(2,.pb 0 0),(3,.pb 1 0),(5,.ref 2 none),(6,dI s3),(7,.pb 4 0),(9,dI 1),(10,dI (k3:Int))]) (fun k3 s7=>[(2,.row .fz 2 (s7.map Oc.D))]) I (fun k3 xk3 sk3 ok3 hxk3 hr hltk3=>?_) fun k3 hltk3=>?_
 obtain⟨s7,rfl⟩:∃ y,y=sk3:=⟨_,rfl⟩
 refine bdE hr fun s8 hqq7 hr=>J (gn 12)<|q0e 5 [(2,.pb 0 0),(3,.pb 1 0),(5,.ref 2 none),(6,dI s3),(7,.pb 4 0),(9,dI 1),(10,dI (k3:Int))] [(2,.row .fz 2 (s8.map Oc.D))] ?_ ?_
 replace hr:=hqq7
 refine fE 12 hr ?_ ?_<;>intro h4 hr
 refine J g<|J (LIR' 5 (m:=.fz) (f:=Oc.D) (xs:=[(⟨s3,xk3.Name⟩:Oc)]))<|ggE hr fun g2 hr=>J (z1p (f:=Oc.D) 6 (fun _=>rfl) 24 g2)<|e
 exact e
 exact e
 exact e
 refine ggE hr fun g3 hr=>e
 refine J (gn 2) ?_
 cases hr
 cases hik1 _ rfl
 exact GH.trans (q0E (q:=0) [rw3 m a0.ss_,.u] (.cons .rfl (.cons .u .nil)) rfl) (q0g hS 3)
 exact e
theorem z0E {m:Md}{a0:Symbol}{a1:BA_}{r:(At_×Bool)}(hr:q6q a0 a1=some r):Okp 149 [Symbol.x m a0,dS a1] [] (.tu [At_.x .fz r.1,dB r.2]) []:=by
 refine OE Tryz.func149 fun S hS=>?_
 unfold q6q at hr
 refine J g<|J (BX' 0)<|J (NV' 1)<|J (gn 8)<|J (lenA 1 0)<|fun hl1=>bdE hr fun q1 hqq1 hr=>q0b hqq1 hl1 2 (fun k1 _=>[(1,dS a1),(2,.pb 0 0),(4,.pb 1 0),(6,dI (k1:Int))]) (fun k1 _=>[]) I (fun k1 xk1 sk1 ok1 hxk1 hr hltk1 hik1=>?_) fun k1 sk1 ek1 hltk1=>?_
 refine fE 24 hr ?_ ?_<;>intro h1 hr
 exact e
 exact e
 subst ek1
 exact e
theorem z6p {m:Md}{a0:Gm_}{a1:Rule}{a2:Int}{r:List Oc}(hr:z3g a0 a1 a2=some r):Okp 153 [Gm_.y m a0,Rule.x m a1,dI a2] [] (.ref 0 none) [.row .fz 2 (r.map Oc.D)]:=by
 refine OE Tryz.func153 fun S hS=>?_
 unfold z3g at hr
 refine J g<|J (BX' 0)<|J (BX' 1)<|J g<|J (L0' 2 Oc.D)<|bdE hr fun s1 hqq1 hr=>J (gn 7)<|q0e 3 [(7,.ref 2 none)] [(2,.row .fz 2 (s1.map Oc.D))] ?_ ?_
 refine J g<|q0i hqq1 3 (fun (s2,s3)=>[(2,dI a2),(3,.pb 0 0),(4,.pb 1 0),(7,.ref 2 none),(8,dI s3)]) (fun (s2,s3)=>[(2,.row .fz 2 (s2.map Oc.D))]) I fun sk1 ok1 hr hik1=>?_
 obtain⟨s2,s3⟩:=sk1
 have hr:=hr
 refine fE 9 hr ?_ ?_<;>intro h1 hr
 refine bdE hr fun y1 hy1 hr=>J g<|J (CB' [] [] (q7X (m:=m) hy1))<|bdP hr fun y2 y3 hq2 hr=>J (CB' [(0,3)] [] (q7Y (m:=m) hq2))<|J g<|J (NV' 4)<|J (gn 8)<|J (lenR 3)<|fun hl2=>bdE hr fun s4 hqq3 hr=>q0d hqq3 hl2 5 (fun k2 s4=>[(2,dI a2),(3,.pb 0 0),(4,.pb 1 0),(7,.ref 2 none),(8,dI s3),(9,.pb 4 0),(11,dI (k2:Int))]) (fun k2 s4=>[(2,.row .fz 2 (s4.map Oc.D))]) I (fun k2 xk2 sk2 ok2 hxk2 hr hltk2=>?_) fun k2 hltk2=>?_
 obtain⟨s4,rfl⟩:∃ y,y=sk2:=⟨_,rfl⟩
 refine bdE hr fun s5 hqq4 hr=>J (gn 12)<|q0e 5 [(2,dI a2),(3,.pb 0 0),(4,.pb 1 0),(7,.ref 2 none),(8,dI s3),(9,.pb 4 0),(11,dI (k2:Int))] [(2,.row .fz 2 (s5.map Oc.D))] ?_ ?_
 replace hr:=hqq4
 refine J g<|J (NV' 5)<|bdE hr fun s6 hqq5 hr=>J (gn 6)<|q0a 5 [(2,dI a2),(3,.pb 0 0),(4,.pb 1 0),(7,.ref 2 none),(8,dI s3),(9,.pb 4 0),(11,dI (k2:Int)),(12,.pb 5 0),(48,dB s6)] ?_ ?_
 replace hr:=hqq5
 refine ifE hr ?_ ?_<;>intro h2 hr
 exact e
 exact e
 refine bdE hr fun s7 hqq6 hr=>q0a 9 [(2,dI a2),(3,.pb 0 0),(4,.pb 1 0),(7,.ref 2 none),(8,dI s3),(9,.pb 4 0),(11,dI (k2:Int)),(12,.pb 5 0),(57,dB s7)] ?_ ?_
 replace hr:=hqq6
 refine ifE hr ?_ ?_<;>intro h3 hr
 exact e
 refine bdP hr fun s8 s9 hqq7 hr=>J (gn 3)<|q0a 5 [(2,dI a2),(3,.pb 0 0),(4,.pb 1 0),(7,.ref 2 none),(8,dI s3),(9,.pb 4 0),(11,dI (k2:Int)),(12,.pb 5 0),(49,dB false),(50,dI s3),(51,dB (decide (0<s3))),(52,dB s8),(56,dB s9)] ?_ ?_
 replace hr:=hqq7
 refine ifE hr ?_ ?_<;>intro h4 hr
 exact e
 exact e
 exact e
 refine bdE hr fun s10 hqq8 hr=>J (gn 8)<|q0a 3 [(2,dI a2),(3,.pb 0 0),(4,.pb 1 0),(7,.ref 2 none),(8,dI s3),(9,.pb 4 0),(11,dI (k2:Int)),(12,.pb 5 0),(64,dB s10)] ?_ ?_
 replace hr:=hqq8
 refine ifE hr ?_ ?_<;>intro h5 hr
 exact e
 exact e
 refine fE 1 hr ?_ ?_<;>intro h6 hr
 refine J g<|J (LIR' 6 (m:=.fz) (f:=Oc.D) (xs:=[(⟨s3,xk2.Name⟩:Oc)]))<|ggE hr fun g1 hr=>J (z1p (f:=Oc.D) 7 (fun _=>rfl) 24 g1)<|e
 exact e
 exact e
 refine ggE hr fun g2 hr=>e
 refine J (gn 2) ?_
 cases hr
 cases hik1 _ rfl
 exact GH.trans (q0E (q:=0) [rw3 m a0.ss_,.u] (.cons .rfl (.cons .u .nil)) rfl) (q0g hS 3)
 exact e
theorem z1x {a0 a1:Int}{r:Expr}(hr:q8D a0 a1=some r):Okp 191 [dI a0,dI a1] [] (.ag [dI r.Kind,dI r.N,dI r.Pos,dI r.t__,dS r.Symbol,dS r.Name,.ref 0 none]) [.row .fz 7 (r.Args.map Expr.D)]:=by
 refine OE Tryz.func191 fun S hS=>?_
 unfold q8D at hr
 refine J g<|J (NV' 0)<|J (gn 9) ?_
 refine J (q0c (q0o (q:=0) (c:=6) (r:=1) .fz 7 rfl rfl rfl))<|J g<|E
theorem z0F {m:Md}{a1:Int}{a2:List Oc}{o0:L1_}{r:(Expr×L1_)}(hr:q8I a1 a2 o0=some r):Okp 152 [.pb 0 0,dI a1,rw4 m a2] [cuB o0.b o0.i o0.h] (.ag [dI r.1.Kind,dI r.1.N,dI r.1.Pos,dI r.1.t__,dS r.1.Symbol,dS r.1.Name,.ref 1 none]) [cuB o0.b r.2.i r.2.h,.row .fz 7 (r.1.Args.map Expr.D)]:=by
 refine OE Tryz.func152 fun S hS=>?_
 unfold q8I at hr
 refine J g<|J (NV' 1)<|fE 7 hr ?_ ?_<;>intro h1 hr
 refine bdP hr fun y1 z1 hq1 hr=>J g<|J (CB' [(0,0)] [] (q5X hq1))<|fE 3 hr ?_ ?_<;>intro h2 hr
 refine fE 13 hr ?_ ?_<;>intro h3 hr
 refine bdP hr fun y2 z2 hq2 hr=>J g<|J (CB' [(0,0)] [] (q5X hq2))<|fE 1 hr ?_ ?_<;>intro h4 hr
 refine J (gn 7) ?_
 refine J (q0c (q0o (q:=1) (c:=6) (r:=2) .fz 7 rfl rfl rfl))<|J g<|E
 refine J (gn 8) ?_
 refine J (q0c (q0o (q:=1) (c:=6) (r:=2) .fz 7 rfl rfl rfl))<|J g<|E
 refine fE 6 hr ?_ ?_<;>intro h5 hr
 refine bdP hr fun y3 z3 hq3 hr=>J g<|J (CB' [(0,0)] [] (q3Q hq3))<|bdE hr fun y4 hy4 hr=>J g<|J (CB' [(0,2)] [] (z1x hy4))<|e
 refine fE 6 hr ?_ ?_<;>intro h6 hr
 refine bdP hr fun y5 z4 hq4 hr=>J g<|J (CB' [(0,0)] [] (q3Q hq4))<|ggE hr fun g1 hr=>?_
 refine J (CIU' g1 rfl)<|ggE hr fun g2 hr=>J (OB' _ (j7M g2))<|bdE hr fun y6 hy6 hr=>J g<|J (CB' [(0,2)] [] (z1x hy6))<|J g<|E
 refine bdP hr fun y7 z5 hq5 hr=>J g<|J (CB' [(0,0)] [] (q3Q hq5))<|bdE hr fun y8 hy8 hr=>J (CB' [(0,2)] [] (z1x hy8))<|e
 refine bdP hr fun y9 z6 hq6 hr=>J g<|J (CB' [(0,0)] [] (q3Q hq6))<|ggE hr fun g3 hr=>bdE hr fun x1 hx1 hr=>J g<|J (NV' 2)<|J (gn 12) ?_
 refine J (q0c (q0o (q:=1) (c:=6) (r:=3) .fz 7 rfl rfl rfl))<|J g<|E
 refine fE 19 hr ?_ ?_<;>intro h7 hr
 refine bdP hr fun y10 z7 hq7 hr=>J g<|J (CB' [(0,0)] [] (q5X hq7))<|fE 1 hr ?_ ?_<;>intro h8 hr
 refine J (gn 7) ?_
 refine J (q0c (q0o (q:=1) (c:=6) (r:=2) .fz 7 rfl rfl rfl))<|J g<|E
 refine J (gn 8) ?_
 refine J (q0c (q0o (q:=1) (c:=6) (r:=2) .fz 7 rfl rfl rfl))<|J g<|E
 refine fE 6 hr ?_ ?_<;>intro h9 hr
 refine bdP hr fun y11 z8 hq8 hr=>J g<|J (CB' [(0,0)] [] (q3Q hq8))<|bdE hr fun y12 hy12 hr=>J g<|J (CB' [(0,2)] [] (z1x hy12))<|e
 refine fE 6 hr ?_ ?_<;>intro h10 hr
 refine bdP hr fun y13 z9 hq9 hr=>J g<|J (CB' [(0,0)] [] (q3Q hq9))<|ggE hr fun g4 hr=>?_
 refine J (CIU' g4 rfl)<|ggE hr fun g5 hr=>J (OB' _ (j7M g5))<|bdE hr fun y14 hy14 hr=>J g<|J (CB' [(0,2)] [] (z1x hy14))<|J g<|E
 refine bdP hr fun y15 z10 hq10 hr=>J g<|J (CB' [(0,0)] [] (q3Q hq10))<|bdE hr fun y16 hy16 hr=>J (CB' [(0,2)] [] (z1x hy16))<|e
theorem q7G {a0:Int}{r:(Int×Int×Int)}(hr:q5y a0=some r):Okp 186 [dI a0] [] (.tu [dI r.1,dI r.2.1,dI r.2.2]) []:=by
 refine OE Tryz.func186 fun S hS=>?_
 unfold q5y at hr
 refine bdE hr fun y1 hy1 hr=>J g<|J (CB' [] [] (q6m hy1))<|fE 2 hr ?_ ?_<;>intro h1 hr
 exact e
 refine bdE hr fun y2 hy2 hr=>J g<|J (CB' [] [] (q6m hy2))<|fE 2 hr ?_ ?_<;>intro h2 hr
 exact e
 refine fE 5 hr ?_ ?_<;>intro h3 hr
 exact e
 refine fE 6 hr ?_ ?_<;>intro h4 hr
 exact e
 refine fE 7 hr ?_ ?_<;>intro h5 hr
 exact e
 refine fE 7 hr ?_ ?_<;>intro h6 hr
 exact e
 exact e
theorem z5w {m:Md}{a0:Int}{a1 a2 r:Expr}(hr:z4E a0 a1 a2=some r):Okp 187 [dI a0,Expr.x m a1,Expr.x m a2] [] (.ag [dI r.Kind,dI r.N,dI r.Pos,dI r.t__,dS r.Symbol,dS r.Name,.ref 0 none]) [.row m 7 (r.Args.map Expr.D)]:=by
 refine OE Tryz.func187 fun S hS=>?_
 unfold z4E at hr
 refine J g<|J (BX' 0)<|J (BX' 1)<|J (NV' 2)<|J g ?_
 refine J (k8j 3 (m:=m) (f:=Expr.D) [a1,a2] (by simp only[Bcz,Dpz,Expr.D_eq];rfl))<|J g<|E
theorem j7Z {Rc0:Gm_→Rule→Int→Int→Bool→L1_→Option (Expr×L1_)}(Ic0:∀ {m:Md} {a1:Gm_} {a2:Rule} {a3 a4:Int} {a5:Bool} {o0:L1_} {r:(Expr×L1_)},Rc0 a1 a2 a3 a4 a5 o0=some r→Okp 150 [.pb 0 0,Gm_.y m a1,Rule.x m a2,dI a3,dI a4,dB a5] [cuB o0.b o0.i o0.h] (.ag [dI r.1.Kind,dI r.1.N,dI r.1.Pos,dI r.1.t__,dS r.1.Symbol,dS r.1.Name,.ref 1 none]) [cuB o0.b r.2.i r.2.h,.row .fz 7 (r.1.Args.map Expr.D)]){m:Md}{a1:Gm_}{a2:Rule}{a3 a4:Int}{a5:Bool}{o0:L1_}{r:(Expr×L1_)}(hr:q7Z Rc0 a1 a2 a3 a4 a5 o0=some r):Okp 150 [.pb 0 0,Gm_.y m a1,Rule.x m a2,dI a3,dI a4,dB a5] [cuB o0.b o0.i o0.h] (.ag [dI r.1.Kind,dI r.1.N,dI r.1.Pos,dI r.1.t__,dS r.1.Symbol,dS r.1.Name,.ref 1 none]) [cuB o0.b r.2.i r.2.h,.row .fz 7 (r.1.Args.map Expr.D)]:=by
 refine OE Tryz.func150 fun S hS=>?_
 unfold q7Z at hr
 refine J g<|J (BX' 1)<|J (BX' 2)<|J (NV' 3)<|bdT hr fun s4 s5 s6 hqq1 hr=>J (gn 6)<|q0A 4 4 [(0,.pb 0 0),(3,dI a3),(4,dI a4),(5,dB a5),(7,.pb 1 0),(8,.pb 2 0),(12,.pb 3 0),(24,dB s4)] [(0,(cuB o0.b s5 s6))] ?_ ?_
 replace hr:=hqq1
 refine ifE hr ?_ ?_<;>intro h1 hr
 exact e
 refine bdP hr fun y1 z1 hq2 hr=>J g<|J (CB' [(0,0)] [] (q5X hq2))<|e
 refine fE 1 hr ?_ ?_<;>intro h2 hr
 refine bdE hr fun s7 hqq3 hr=>J (gn 6)<|q0a 4 [(0,.pb 0 0),(3,dI a3),(7,.pb 1 0),(8,.pb 2 0),(12,.pb 3 0),(30,dB s7)] ?_ ?_
 replace hr:=hqq3
 refine ifE hr ?_ ?_<;>intro h3 hr
 exact e
 exact e
 refine bdT hr fun s11 s12 s13 hqq4 hr=>q0A 4 4 [(0,.pb 0 0),(3,dI a3),(7,.pb 1 0),(8,.pb 2 0),(12,.pb 3 0),(34,dB s11)] [(0,(cuB o0.b s12 s13))] ?_ ?_
 replace hr:=hqq4
 refine ifE hr ?_ ?_<;>intro h4 hr
 refine bdP hr fun y2 z2 hq5 hr=>J g<|J (CB' [(0,0)] [] (q5X hq5))<|e
 exact e
 refine fE 1 hr ?_ ?_<;>intro h5 hr
 refine J (gn 7) ?_
 refine J (q0c (q0o (q:=3) (c:=6) (r:=4) .fz 7 rfl rfl rfl))<|J g<|E
 refine bdE hr fun y3 hy3 hr=>J g<|J (CB' [(0,4)] [] (z6p (m:=m) hy3))<|bdP hr fun y4 z3 hq6 hr=>J (CB' [(0,0),(1,5)] [4] (z0F (m:=.bo) hq6))<|e
 refine bdT hr fun s17 s18 s19 hqq7 hr=>J (gn 6)<|q0A 4 4 [(0,.pb 0 0),(3,dI a3),(4,dI a4),(5,dB a5),(7,.pb 1 0),(8,.pb 2 0),(12,.pb 3 0),(47,dB s17)] [(0,(cuB o0.b s18 s19))] ?_ ?_
 replace hr:=hqq7
 refine ifE hr ?_ ?_<;>intro h6 hr
 refine bdP hr fun y5 z4 hq8 hr=>J g<|J (CB' [(0,0)] [] (q5X hq8))<|e
 exact e
 refine fE 1 hr ?_ ?_<;>intro h7 hr
 refine bdP hr fun y6 z5 hq9 hr=>J g<|J (CB' [(0,0)] [] (q3Q hq9))<|ggE hr fun g1 hr=>bdE hr fun x1 hx1 hr=>J g<|J (NV' 4)<|bdP hr fun y7 z6 hq10 hr=>J g<|J (CB' [(0,0)] [] (q3Q hq10))<|ggE hr fun g2 hr=>bdE hr fun x2 hx2 hr=>J g<|J (NV' 5)<|fE 9 hr ?_ ?_<;>intro h8 hr
 refine bdE hr fun y8 hy8 hr=>J g<|J (CB' [(0,6)] [] (z6p (m:=m) hy8))<|bdP hr fun y9 z7 hq11 hr=>J (CBz' 7 [(0,0),(1,7)] [6] (z0F (m:=.bo) hq11)) ?_
 refine J (j7S 8 (m:=.fz) (f:=Expr.D) [y9] (by simp only[Bcz,Dpz,Expr.D_eq];rfl))<|J g<|E
 refine bdP hr fun y10 z8 hq12 hr=>J g<|J (CB' [(0,0)] [] (q5X hq12))<|fE 1 hr ?_ ?_<;>intro h9 hr
 refine ggE hr fun g3 hr=>bdP hr fun y11 z9 hq13 hr=>J g<|J (CBz' 6 [(0,0),(1,6)] [] (Ic0 (m:=m) hq13))<|ggE hr fun g4 hr=>bdP hr fun y12 z10 hq14 hr=>J g<|J (CBz' 7 [(0,0),(1,7)] [] (Ic0 (m:=m) hq14))<|ggE hr fun g5 hr=>bdP hr fun y13 z11 hq15 hr=>J g<|J (CBz' 8 [(0,0),(1,8)] [] (Ic0 (m:=m) hq15)) ?_
 refine J (j7S 9 (m:=.fz) (f:=Expr.D) [y11,y12,y13] (by simp only[Bcz,Dpz,Expr.D_eq];rfl))<|J g<|E
 refine fE 17 hr ?_ ?_<;>intro h10 hr
 refine bdE hr fun y14 hy14 hr=>J g<|J (CB' [(0,6)] [] (z6p (m:=m) hy14))<|bdP hr fun y15 z12 hq16 hr=>J (CB' [(0,0),(1,7)] [6] (z0F (m:=.bo) hq16))<|e
 refine fE 6 hr ?_ ?_<;>intro h11 hr
 refine J g<|J (LIR' 6 (m:=.fz) (f:=(A.D.i .i64)) (xs:=([1,1,2,3,4,5]:List Int)))<|bdP hr fun y16 z13 hq17 hr=>J (CB' [(0,0)] [6] (q6J (m:=.bo) hq17))<|bdT hr fun y17 y18 y19 hq18 hr=>J g<|J (CB' [] [] (q7G hq18))<|ggE hr fun g6 hr=>bdP hr fun y20 z14 hq19 hr=>J g<|J (CBz' 7 [(0,0),(1,7)] [] (Ic0 (m:=m) hq19))<|ggE hr fun g7 hr=>bdP hr fun y21 z15 hq20 hr=>J g<|J (CBz' 8 [(0,0),(1,8)] [] (Ic0 (m:=m) hq20))<|bdE hr fun y22 hy22 hr=>J (CB' [(0,9)] [] (z5w (m:=.fz) hy22))<|e
 refine fE 6 hr ?_ ?_<;>intro h12 hr
 refine J g<|J (LIR' 6 (m:=.fz) (f:=(A.D.i .i64)) (xs:=([6,6,7,8,12]:List Int)))<|bdP hr fun y23 z16 hq21 hr=>J (CB' [(0,0)] [6] (q6J (m:=.bo) hq21))<|bdT hr fun y24 y25 y26 hq22 hr=>J g<|J (CB' [] [] (q7G hq22))<|ggE hr fun g8 hr=>bdP hr fun y27 z17 hq23 hr=>J g<|J (CBz' 7 [(0,0),(1,7)] [] (Ic0 (m:=m) hq23))<|ggE hr fun g9 hr=>bdP hr fun y28 z18 hq24 hr=>J g<|J (CBz' 8 [(0,0),(1,8)] [] (Ic0 (m:=m) hq24))<|bdE hr fun y29 hy29 hr=>J (CB' [(0,9)] [] (z5w (m:=.fz) hy29))<|e
 refine J g<|J (LIR' 6 (m:=.fz) (f:=(A.D.i .i64)) (xs:=([9,10,11]:List Int)))<|bdP hr fun y30 z19 hq25 hr=>J (CB' [(0,0)] [6] (q6J (m:=.bo) hq25))<|bdT hr fun y31 y32 y33 hq26 hr=>J g<|J (CB' [] [] (q7G hq26))<|ggE hr fun g10 hr=>bdP hr fun y34 z20 hq27 hr=>J g<|J (CBz' 7 [(0,0),(1,7)] [] (Ic0 (m:=m) hq27))<|ggE hr fun g11 hr=>bdP hr fun y35 z21 hq28 hr=>J g<|J (CBz' 8 [(0,0),(1,8)] [] (Ic0 (m:=m) hq28))<|bdE hr fun y36 hy36 hr=>J (CB' [(0,9)] [] (z5w (m:=.fz) hy36))<|e
 refine bdP hr fun y37 z22 hq29 hr=>J g<|J (CB' [(0,0)] [] (q5X hq29))<|fE 1 hr ?_ ?_<;>intro h13 hr
 refine ggE hr fun g12 hr=>bdP hr fun y38 z23 hq30 hr=>J g<|J (CBz' 4 [(0,0),(1,4)] [] (Ic0 (m:=m) hq30))<|ggE hr fun g13 hr=>bdP hr fun y39 z24 hq31 hr=>J g<|J (CBz' 5 [(0,0),(1,5)] [] (Ic0 (m:=m) hq31))<|ggE hr fun g14 hr=>bdP hr fun y40 z25 hq32 hr=>J g<|J (CBz' 6 [(0,0),(1,6)] [] (Ic0 (m:=m) hq32)) ?_
 refine J (j7S 7 (m:=.fz) (f:=Expr.D) [y38,y39,y40] (by simp only[Bcz,Dpz,Expr.D_eq];rfl))<|J g<|E
 refine fE 17 hr ?_ ?_<;>intro h14 hr
 refine bdE hr fun y41 hy41 hr=>J g<|J (CB' [(0,4)] [] (z6p (m:=m) hy41))<|bdP hr fun y42 z26 hq33 hr=>J (CB' [(0,0),(1,5)] [4] (z0F (m:=.bo) hq33))<|e
 refine fE 6 hr ?_ ?_<;>intro h15 hr
 refine J g<|J (LIR' 4 (m:=.fz) (f:=(A.D.i .i64)) (xs:=([1,1,2,3,4,5]:List Int)))<|bdP hr fun y43 z27 hq34 hr=>J (CB' [(0,0)] [4] (q6J (m:=.bo) hq34))<|bdT hr fun y44 y45 y46 hq35 hr=>J g<|J (CB' [] [] (q7G hq35))<|ggE hr fun g15 hr=>bdP hr fun y47 z28 hq36 hr=>J g<|J (CBz' 5 [(0,0),(1,5)] [] (Ic0 (m:=m) hq36))<|ggE hr fun g16 hr=>bdP hr fun y48 z29 hq37 hr=>J g<|J (CBz' 6 [(0,0),(1,6)] [] (Ic0 (m:=m) hq37))<|bdE hr fun y49 hy49 hr=>J (CB' [(0,7)] [] (z5w (m:=.fz) hy49))<|e
 refine fE 6 hr ?_ ?_<;>intro h16 hr
 refine J g<|J (LIR' 4 (m:=.fz) (f:=(A.D.i .i64)) (xs:=([6,6,7,8,12]:List Int)))<|bdP hr fun y50 z30 hq38 hr=>J (CB' [(0,0)] [4] (q6J (m:=.bo) hq38))<|bdT hr fun y51 y52 y53 hq39 hr=>J g<|J (CB' [] [] (q7G hq39))<|ggE hr fun g17 hr=>bdP hr fun y54 z31 hq40 hr=>J g<|J (CBz' 5 [(0,0),(1,5)] [] (Ic0 (m:=m) hq40))<|ggE hr fun g18 hr=>bdP hr fun y55 z32 hq41 hr=>J g<|J (CBz' 6 [(0,0),(1,6)] [] (Ic0 (m:=m) hq41))<|bdE hr fun y56 hy56 hr=>J (CB' [(0,7)] [] (z5w (m:=.fz) hy56))<|e
 refine J g<|J (LIR' 4 (m:=.fz) (f:=(A.D.i .i64)) (xs:=([9,10,11]:List Int)))<|bdP hr fun y57 z33 hq42 hr=>J (CB' [(0,0)] [4] (q6J (m:=.bo) hq42))<|bdT hr fun y58 y59 y60 hq43 hr=>J g<|J (CB' [] [] (q7G hq43))<|ggE hr fun g19 hr=>bdP hr fun y61 z34 hq44 hr=>J g<|J (CBz' 5 [(0,0),(1,5)] [] (Ic0 (m:=m) hq44))<|ggE hr fun g20 hr=>bdP hr fun y62 z35 hq45 hr=>J g<|J (CBz' 6 [(0,0),(1,6)] [] (Ic0 (m:=m) hq45))<|bdE hr fun y63 hy63 hr=>J (CB' [(0,7)] [] (z5w (m:=.fz) hy63))<|e
theorem j8a (n:Nat):∀ {m:Md} {a1:Gm_} {a2:Rule} {a3 a4:Int} {a5:Bool} {o0:L1_} {r:(Expr×L1_)},q6Y n a1 a2 a3 a4 a5 o0=some r→Okp 150 [.pb 0 0,Gm_.y m a1,Rule.x m a2,dI a3,dI a4,dB a5] [cuB o0.b o0.i o0.h] (.ag [dI r.1.Kind,dI r.1.N,dI r.1.Pos,dI r.1.t__,dS r.1.Symbol,dS r.1.Name,.ref 1 none]) [cuB o0.b r.2.i r.2.h,.row .fz 7 (r.1.Args.map Expr.D)]:=by
  induction n with
  | zero=>intro _ _ _ _ _ _ _ r hr;exact nomatch (show (none:Option (Expr×L1_))=some r from hr)
  | succ n ih=>intro _ _ _ _ _ _ _ r hr;exact j7Z ih hr
theorem j9q {m:Md}{a1:Gm_}{a2:Rule}{a3 a4:Int}{a5:Bool}{o0:L1_}{r:(Expr×L1_)}(hr:j0H a1 a2 a3 a4 a5 o0=some r):Okp 150 [.pb 0 0,Gm_.y m a1,Rule.x m a2,dI a3,dI a4,dB a5] [cuB o0.b o0.i o0.h] (.ag [dI r.1.Kind,dI r.1.N,dI r.1.Pos,dI r.1.t__,dS r.1.Symbol,dS r.1.Name,.ref 1 none]) [cuB o0.b r.2.i r.2.h,.row .fz 7 (r.1.Args.map Expr.D)]:=by
 obtain⟨n,hn⟩:=q6S hr
 exact j8a n hn
theorem j9r {Rc1:Expr→Int→Option Int}(Ic1:∀ {m:Md} {a0:Expr} {a1 r:Int},Rc1 a0 a1=some r→Okp 188 [Expr.x m a0,dI a1] [] (dI r) []){m:Md}{a0:Expr}{a1 r:Int}(hr:z7B Rc1 a0 a1=some r):Okp 188 [Expr.x m a0,dI a1] [] (dI r) []:=by
 refine OE Tryz.func188 fun S hS=>?_
 unfold z7B at hr
 refine J g<|J (BX' 0)<|ggE hr fun g1 hr=>bdE hr fun s1 hqq1 hr=>J (gn 13)<|q0e 1 [(1,dI s1)] [] ?_ ?_
 refine J g<|q0i hqq1 1 (fun (s2,s3)=>[(1,dI s2),(2,.pb 0 0),(5,dI s3)]) (fun (s2,s3)=>[]) I fun sk1 ok1 hr hik1=>?_
 obtain⟨s2,s3⟩:=sk1
 have hr:=hr
 refine fE 8 hr ?_ ?_<;>intro h1 hr
 refine fE 5 hr ?_ ?_<;>intro h2 hr
 refine ggE hr fun g2 hr=>bdE hr fun x1 hx1 hr=>bdE hr fun y1 hy1 hr=>J g<|J (CB' [] [] (Ic1 (m:=m) hy1))<|ggE hr fun g3 hr=>e
 refine J (gn 2) ?_
 cases hr
 cases hik1 _ rfl
 exact q0g hS 1
 refine J (gn 7) ?_
 cases hr
 cases hik1 _ rfl
 exact q0g hS 1
 exact e
theorem j9s (n:Nat):∀ {m:Md} {a0:Expr} {a1 r:Int},z4F n a0 a1=some r→Okp 188 [Expr.x m a0,dI a1] [] (dI r) []:=by
  induction n with
  | zero=>intro _ _ _ r hr;exact nomatch (show (none:Option Int)=some r from hr)
  | succ n ih=>intro _ _ _ r hr;exact j9r ih hr
theorem k1W {m:Md}{a0:Expr}{a1 r:Int}(hr:j2U a0 a1=some r):Okp 188 [Expr.x m a0,dI a1] [] (dI r) []:=by
 obtain⟨n,hn⟩:=q6S hr
 exact j9s n hn
theorem j0c {a0 a1 r:Int}(hr:z3h a0 a1=some r):Okp 140 [dI a0,dI a1] [] (dI r) []:=by
 refine OE Tryz.func140 fun S hS=>?_
 unfold z3h at hr
 refine fE 11 hr ?_ ?_<;>intro h1 hr
 exact e
 exact e
theorem j1Q {Rc2:Expr→Option Int}(Ic2:∀ {m:Md} {a0:Expr} {r:Int},Rc2 a0=some r→Okp 189 [Expr.x m a0] [] (dI r) []){m:Md}{a0:Expr}{r:Int}(hr:z0W Rc2 a0=some r):Okp 189 [Expr.x m a0] [] (dI r) []:=by
 refine OE Tryz.func189 fun S hS=>?_
 unfold z0W at hr
 refine J g<|J (BX' 0)<|J (gn 12)<|J (lenA 6 0)<|fun hl1=>bdE hr fun s1 hqq1 hr=>q0d hqq1 hl1 1 (fun k1 s1=>[(1,.pb 0 0),(3,dI s1),(4,dI (k1:Int))]) (fun k1 s1=>[]) I (fun k1 xk1 sk1 ok1 hxk1 hr hltk1=>?_) fun k1 hltk1=>?_
 obtain⟨s1,rfl⟩:∃ y,y=sk1:=⟨_,rfl⟩
 refine bdE hr fun y1 hy1 hr=>J g<|J (CB' [] [] (Ic2 (m:=m) hy1))<|bdE hr fun y2 hy2 hr=>J (CB' [] [] (j0c hy2))<|e
 refine ggE hr fun g1 hr=>e
theorem j1R (n:Nat):∀ {m:Md} {a0:Expr} {r:Int},q7V n a0=some r→Okp 189 [Expr.x m a0] [] (dI r) []:=by
  induction n with
  | zero=>intro _ _ r hr;exact nomatch (show (none:Option Int)=some r from hr)
  | succ n ih=>intro _ _ r hr;exact j1Q ih hr
theorem j3i {m:Md}{a0:Expr}{r:Int}(hr:z5F a0=some r):Okp 189 [Expr.x m a0] [] (dI r) []:=by
 obtain⟨n,hn⟩:=q6S hr
 exact j1R n hn
theorem k1X {m:Md}{a0:Expr}{r:Bool}(hr:z7C a0=some r):Okp 255 [Expr.x m a0] [] (dB r) []:=by
 refine OE Tryz.func255 fun S hS=>?_
 unfold z7C at hr
 refine J g<|J (BX' 0)<|bdE hr fun s1 hqq1 hr=>J (gn 12)<|q0e 1 [(1,.pb 0 0),(3,dI s1)] [] ?_ ?_
 replace hr:=hqq1
 refine fE 6 hr ?_ ?_<;>intro h1 hr
 exact e
 refine fE 6 hr ?_ ?_<;>intro h2 hr
 exact e
 refine fE 6 hr ?_ ?_<;>intro h3 hr
 exact e
 exact e
 refine fE 9 hr ?_ ?_<;>intro h4 hr
 refine bdE hr fun s2 hqq2 hr=>J (gn 7)<|q0a 5 [(1,.pb 0 0),(27,dB s2)] ?_ ?_
 replace hr:=hqq2
 refine ifE hr ?_ ?_<;>intro h5 hr
 exact e
 exact e
 refine bdE hr fun s3 hqq3 hr=>J (gn 7)<|q0a 5 [(1,.pb 0 0),(4,dB s2),(35,dB s3)] ?_ ?_
 replace hr:=hqq3
 refine ifE hr ?_ ?_<;>intro h6 hr
 exact e
 exact e
 refine bdE hr fun s4 hqq4 hr=>J (gn 7)<|q0a 5 [(1,.pb 0 0),(4,dB s2),(5,dB s3),(43,dB s4)] ?_ ?_
 replace hr:=hqq4
 refine ifE hr ?_ ?_<;>intro h7 hr
 exact e
 exact e
 refine bdE hr fun s5 hqq5 hr=>J (gn 5)<|q0a 5 [(1,.pb 0 0),(5,dB s3),(6,dB s4),(49,dB s5)] ?_ ?_
 replace hr:=hqq5
 refine ifE hr ?_ ?_<;>intro h8 hr
 exact e
 exact e
 refine bdE hr fun s6 hqq6 hr=>q0a 8 [(1,.pb 0 0),(6,dB s4),(57,dB s6)] ?_ ?_
 replace hr:=hqq6
 refine ifE hr ?_ ?_<;>intro h9 hr
 refine bdE hr fun s7 hqq7 hr=>J (gn 2)<|q0a 5 [(1,.pb 0 0),(6,dB s4),(50,dB true),(56,dB s7)] ?_ ?_
 replace hr:=hqq7
 refine ifE hr ?_ ?_<;>intro h10 hr
 exact e
 exact e
 exact e
 exact e
 refine bdE hr fun s8 hqq8 hr=>q0a 8 [(1,.pb 0 0),(65,dB s8)] ?_ ?_
 replace hr:=hqq8
 refine ifE hr ?_ ?_<;>intro h11 hr
 refine bdE hr fun s9 hqq9 hr=>J (gn 2)<|q0a 5 [(1,.pb 0 0),(58,dB true),(64,dB s9)] ?_ ?_
 replace hr:=hqq9
 refine ifE hr ?_ ?_<;>intro h12 hr
 exact e
 exact e
 exact e
 exact e
 refine bdE hr fun s10 hqq10 hr=>q0a 10 [(1,.pb 0 0),(75,dB s10)] ?_ ?_
 replace hr:=hqq10
 refine ifE hr ?_ ?_<;>intro h13 hr
 refine bdE hr fun s11 hqq11 hr=>J (gn 4)<|q0a 5 [(1,.pb 0 0),(66,dB true),(74,dB s11)] ?_ ?_
 replace hr:=hqq11
 refine ifE hr ?_ ?_<;>intro h14 hr
 exact e
 exact e
 exact e
 exact e
 refine bdE hr fun s12 hqq12 hr=>q0a 10 [(85,dB s12)] ?_ ?_
 replace hr:=hqq12
 refine ifE hr ?_ ?_<;>intro h15 hr
 refine bdE hr fun s13 hqq13 hr=>J (gn 4)<|q0a 5 [(76,dB true),(84,dB s13)] ?_ ?_
 replace hr:=hqq13
 refine ifE hr ?_ ?_<;>intro h16 hr
 exact e
 exact e
 exact e
 exact e
 exact e
 exact e
theorem k3A {a0 a1 r:Int}(hr:z9F a0 a1=some r):Okp 289 [dI a0,dI a1] [] (dI r) []:=by
 refine OE Tryz.func289 fun S hS=>?_
 unfold z9F at hr
 refine fE 11 hr ?_ ?_<;>intro h1 hr
 exact e
 exact e
theorem j8b {a0 r:Int}(hr:z4H a0=some r):Okp 283 [dI a0] [] (dI r) []:=by
 refine OE Tryz.func283 fun S hS=>?_
 unfold z4H at hr
 refine bdE hr fun y1 hy1 hr=>J g<|J (CB' [] [] (k3A hy1))<|bdE hr fun y2 hy2 hr=>J (CB' [] [] (j0c hy2))<|e
theorem j9t {a0:Bool}{r:Int}(hr:z5U a0=some r):Okp 284 [dB a0] [] (dI r) []:=by
 refine OE Tryz.func284 fun S hS=>?_
 unfold z5U at hr
 refine fE 9 hr ?_ ?_<;>intro h1 hr
 exact e
 exact e
theorem k1Y {a0 a1 r:Int}(hr:z7D a0 a1=some r):Okp 272 [dI a0,dI a1] [] (dI r) []:=by
 refine OE Tryz.func272 fun S hS=>?_
 unfold z7D at hr
 refine fE 15 hr ?_ ?_<;>intro h1 hr
 refine bdE hr fun y1 hy1 hr=>J g<|J (CB' [] [] (j8b hy1))<|e
 refine fE 6 hr ?_ ?_<;>intro h2 hr
 refine J g<|J (OB' _ k3o)<|e
 refine fE 6 hr ?_ ?_<;>intro h3 hr
 refine bdE hr fun y2 hy2 hr=>J g<|J (CB' [] [] (j9t hy2))<|e
 refine fE 6 hr ?_ ?_<;>intro h4 hr
 refine bdE hr fun y3 hy3 hr=>J g<|J (CB' [] [] (q6m hy3))<|fE 1 hr ?_ ?_<;>intro h5 hr
 exact e
 exact e
 exact e
theorem j8c {a0 a1:Int}{r:Bool}(hr:z4I a0 a1=some r):Okp 256 [dI a0,dI a1] [] (dB r) []:=by
 refine OE Tryz.func256 fun S hS=>?_
 unfold z4I at hr
 refine bdE hr fun y1 hy1 hr=>J g<|J (CB' [] [] (q6m hy1))<|ifE hr ?_ ?_<;>intro h1 hr
 refine bdE hr fun y2 hy2 hr=>J g<|J (CB' [] [] (k1Y hy2))<|e
 exact e
theorem j9u {a0:BA_}{r:Bool}(hr:z8z a0=some r):Okp 273 [dS a0] [] (dB r) []:=by
 refine OE Tryz.func273 fun S hS=>?_
 unfold z8z at hr
 refine J (gn 10) ?_
 refine q3c (.tmp 0 rfl) fun ht1=>?_
 have hl1:rngI .i64 (a0.size:Int):=k5x ht1
 refine bdE hr fun q1 hqq1 hr=>q0z hqq1 0 (fun k1 _=>[(0,dS a0),(3,dI (k1:Int))]) (fun k1 _=>[]) I (fun k1 sk1 ok1 hr hltk1 hik1=>?_) fun sk1 ek1=>?_
 refine J g<|J LS'<|bdE hr fun x1 hx1 hr=>J g ?_
 refine J (SI' rfl rfl (Eaz _) hx1)<|bdE hr fun s1 hqq2 hr=>J (gn 1)<|q0a 6 [(0,dS a0),(3,dI (k1:Int)),(21,dB s1)] ?_ ?_
 replace hr:=hqq2
 refine ifE hr ?_ ?_<;>intro h1 hr
 refine J g ?_
 refine J (SI' rfl rfl (Eaz _) hx1)<|J g<|E
 exact e
 refine J g ?_
 refine J (SI' rfl rfl (Eaz _) hx1)<|bdE hr fun s2 hqq3 hr=>J (gn 1)<|q0a 6 [(0,dS a0),(3,dI (k1:Int)),(4,dB s1),(31,dB s2)] ?_ ?_
 replace hr:=hqq3
 refine ifE hr ?_ ?_<;>intro h2 hr
 refine J g ?_
 refine J (SI' rfl rfl (Eaz _) hx1)<|J g<|E
 exact e
 refine bdE hr fun s3 hqq4 hr=>J (gn 6)<|q0a 8 [(0,dS a0),(3,dI (k1:Int)),(41,dB s3)] ?_ ?_
 replace hr:=hqq4
 refine ifE hr ?_ ?_<;>intro h3 hr
 exact e
 refine bdP hr fun s4 s5 hqq5 hr=>J (gn 3)<|q0a 4 [(0,dS a0),(3,dI (k1:Int)),(34,dB true),(35,dI (k1:Int)),(36,dB (decide ((k1:Int)=0))),(37,dB s4),(40,dB s5)] ?_ ?_
 replace hr:=hqq5
 refine ifE hr ?_ ?_<;>intro h4 hr
 exact e
 exact e
 exact e
 refine fE 1 hr ?_ ?_<;>intro h5 hr
 exact e
 exact e
 subst ek1
 refine J g<|J LS'<|J g<|J LS'<|e
theorem j4r {r:List BA_}(hr:z4f=some r):Okp 285 [] [] (.ref 0 none) [.row .fz 1 (r.map A.D.s)]:=by
 refine OE Tryz.func285 fun S hS=>?_
 unfold z4f at hr
 refine J g<|J (LIR' 0 (m:=.fz) (f:=A.D.s) (xs:=[(⟨#[105,102]⟩:BA_),(⟨#[116,104,101,110]⟩:BA_),(⟨#[101,108,115,101]⟩:BA_),(⟨#[116,114,117,101]⟩:BA_),(⟨#[102,97,108,115,101]⟩:BA_),(⟨#[108,105,116]⟩:BA_),(⟨#[110,111,110,101]⟩:BA_),(⟨#[115,101,108,102]⟩:BA_),(⟨#[111,102]⟩:BA_),(⟨#[109,97,120]⟩:BA_),(⟨#[109,105,110]⟩:BA_),(⟨#[119,105,116,104]⟩:BA_),(⟨#[104,97,115]⟩:BA_)]))<|e
theorem j0d {m:Md}{a0:List BA_}{a1:BA_}{r:Bool}(hr:z3i a0 a1=some r):Okp 232 [rw2 m a0,dS a1] [] (dB r) []:=by
 refine OE Tryz.func232 fun S hS=>?_
 unfold z3i at hr
 refine J (gn 10)<|J (lenT 0)<|fun hl1=>bdE hr fun q1 hqq1 hr=>q0b hqq1 hl1 0 (fun k1 _=>[(0,rw2 m a0),(1,dS a1),(5,dI (k1:Int))]) (fun k1 _=>[]) I (fun k1 xk1 sk1 ok1 hxk1 hr hltk1 hik1=>?_) fun k1 sk1 ek1 hltk1=>?_
 refine fE 21 hr ?_ ?_<;>intro h1 hr
 exact e
 exact e
 subst ek1
 exact e
theorem j4s {a0:BA_}{r:Bool}(hr:z1U a0=some r):Okp 274 [dS a0] [] (dB r) []:=by
 refine OE Tryz.func274 fun S hS=>?_
 unfold z1U at hr
 refine bdE hr fun y1 hy1 hr=>J g<|J (CB' [(0,0)] [] (j4r hy1))<|bdE hr fun y2 hy2 hr=>J g<|J (CB' [] [0] (j0d (m:=.bo) hy2))<|e
theorem q6b {a0:BA_}{r:Bool}(hr:q5p a0=some r):Okp 257 [dS a0] [] (dB r) []:=by
 refine OE Tryz.func257 fun S hS=>?_
 unfold q5p at hr
 refine bdE hr fun y1 hy1 hr=>J g<|J (CB' [] [] (j9u hy1))<|bdE hr fun s1 hqq1 hr=>q0a 5 [(0,dS a0),(2,dB false),(9,dB s1)] ?_ ?_
 replace hr:=hqq1
 refine ifE hr ?_ ?_<;>intro h1 hr
 refine J g<|J LS'<|e
 exact e
 refine bdE hr fun s2 hqq2 hr=>q0a 5 [(2,dB false),(14,dB s2)] ?_ ?_
 replace hr:=hqq2
 refine ifE hr ?_ ?_<;>intro h2 hr
 refine bdE hr fun y2 hy2 hr=>J g<|J (CB' [] [] (j4s hy2))<|e
 exact e
 exact e
theorem k1Z {m:Md}{a0:Expr}{r:Bool}(hr:z7E a0=some r):Okp 218 [Expr.x m a0] [] (dB r) []:=by
 refine OE Tryz.func218 fun S hS=>?_
 unfold z7E at hr
 refine J g<|J (BX' 0)<|bdE hr fun y1 hy1 hr=>J g<|J (CB' [] [] (q6m hy1))<|bdE hr fun s1 hqq1 hr=>J (gn 1)<|q0a 5 [(1,.pb 0 0),(11,dB s1)] ?_ ?_
 replace hr:=hqq1
 refine ifE hr ?_ ?_<;>intro h1 hr
 refine bdE hr fun y2 hy2 hr=>J g<|J (CB' [] [] (k1X (m:=m) hy2))<|e
 exact e
 refine fE 1 hr ?_ ?_<;>intro h2 hr
 exact e
 refine fE 14 hr ?_ ?_<;>intro h3 hr
 refine bdE hr fun y3 hy3 hr=>J g<|J (CB' [] [] (q6m hy3))<|bdE hr fun s2 hqq2 hr=>q0a 7 [(1,.pb 0 0),(25,dB s2)] ?_ ?_
 replace hr:=hqq2
 refine ifE hr ?_ ?_<;>intro h4 hr
 refine bdE hr fun y4 hy4 hr=>J g<|J (CB' [] [] (j8c hy4))<|e
 exact e
 refine bdE hr fun s3 hqq3 hr=>q0a 5 [(30,dB s3)] ?_ ?_
 replace hr:=hqq3
 refine ifE hr ?_ ?_<;>intro h5 hr
 exact e
 exact e
 exact e
 refine fE 6 hr ?_ ?_<;>intro h6 hr
 refine bdE hr fun y5 hy5 hr=>J g<|J (CB' [] [] (q6m hy5))<|bdE hr fun s4 hqq4 hr=>q0a 5 [(40,dB s4)] ?_ ?_
 replace hr:=hqq4
 refine ifE hr ?_ ?_<;>intro h7 hr
 refine bdE hr fun y6 hy6 hr=>J g<|J (CB' [] [] (q6b hy6))<|e
 exact e
 exact e
 refine fE 6 hr ?_ ?_<;>intro h8 hr
 refine bdE hr fun y7 hy7 hr=>J g<|J (CB' [] [] (q6m hy7))<|e
 refine fE 6 hr ?_ ?_<;>intro h9 hr
 refine bdE hr fun y8 hy8 hr=>J g<|J (CB' [] [] (q6m hy8))<|e
 refine fE 6 hr ?_ ?_<;>intro h10 hr
 refine bdE hr fun y9 hy9 hr=>J g<|J (CB' [] [] (q6b hy9))<|bdE hr fun s5 hqq5 hr=>q0a 5 [(60,dB s5)] ?_ ?_
 replace hr:=hqq5
 refine ifE hr ?_ ?_<;>intro h11 hr
 refine bdE hr fun y10 hy10 hr=>J g<|J (CB' [] [] (q6b hy10))<|e
 exact e
 exact e
 exact e
theorem k2a {Rc3:Expr→Option Bool}(Ic3:∀ {m:Md} {a0:Expr} {r:Bool},Rc3 a0=some r→Okp 190 [Expr.x m a0] [] (dB r) []){m:Md}{a0:Expr}{r:Bool}(hr:z9H Rc3 a0=some r):Okp 190 [Expr.x m a0] [] (dB r) []:=by
 refine OE Tryz.func190 fun S hS=>?_
 unfold z9H at hr
 refine J g<|J (BX' 0)<|J (gn 8)<|J (lenA 6 0)<|fun hl1=>bdE hr fun q1 hqq1 hr=>q0b hqq1 hl1 1 (fun k1 _=>[(1,.pb 0 0),(3,dI (k1:Int))]) (fun k1 _=>[]) I (fun k1 xk1 sk1 ok1 hxk1 hr hltk1 hik1=>?_) fun k1 sk1 ek1 hltk1=>?_
 refine bdE hr fun y1 hy1 hr=>J g<|J (CB' [] [] (Ic3 (m:=m) hy1))<|fE 2 hr ?_ ?_<;>intro h1 hr
 exact e
 exact e
 subst ek1
 refine bdE hr fun y2 hy2 hr=>J g<|J (CB' [] [] (k1Z (m:=m) hy2))<|e
theorem k2b (n:Nat):∀ {m:Md} {a0:Expr} {r:Bool},z9I n a0=some r→Okp 190 [Expr.x m a0] [] (dB r) []:=by
  induction n with
  | zero=>intro _ _ r hr;exact nomatch (show (none:Option Bool)=some r from hr)
  | succ n ih=>intro _ _ r hr;exact k2a ih hr
theorem k3B {m:Md}{a0:Expr}{r:Bool}(hr:j6d a0=some r):Okp 190 [Expr.x m a0] [] (dB r) []:=by
 obtain⟨n,hn⟩:=q6S hr
 exact k2b n hn
theorem z4V {m:Md}{a0:Expr}{r:Bool}(hr:q8P a0=some r):Okp 151 [Expr.x m a0] [] (dB r) []:=by
 refine OE Tryz.func151 fun S hS=>?_
 unfold q8P at hr
 refine J g<|J (BX' 0)<|bdE hr fun y1 hy1 hr=>J g<|J (CB' [] [] (k1W (m:=m) hy1))<|bdE hr fun s1 hqq1 hr=>J (gn 1)<|q0a 5 [(1,.pb 0 0),(2,dB false),(10,dB s1)] ?_ ?_
 replace hr:=hqq1
 refine ifE hr ?_ ?_<;>intro h1 hr
 refine bdE hr fun y2 hy2 hr=>J g<|J (CB' [] [] (j3i (m:=m) hy2))<|e
 exact e
 refine bdE hr fun s2 hqq2 hr=>q0a 4 [(2,dB false),(14,dB s2)] ?_ ?_
 replace hr:=hqq2
 refine ifE hr ?_ ?_<;>intro h2 hr
 refine bdE hr fun y3 hy3 hr=>J g<|J (CB' [] [] (k3B (m:=m) hy3))<|e
 exact e
 exact e
theorem j9v {m m2:Md}{a1:Gm_}{a2:Rule}{a3:Bool}{o0:L1_}{r:(Rule×L1_)}(hr:z5V a1 a2 a3 o0=some r):Okp 97 [.pb 0 0,Gm_.y m a1,.ag [dS a2.Name,dS a2.Left,.ref 1 none,dB a2.ll_,.ref 2 none,.ref 3 none],dB a3] [cuB o0.b o0.i o0.h,.row .fz 1 (a2.rt_.map A.D.s),.row m2 9 (a2.es_.map Eqn.D),.row m2 16 (a2.cs_.map Cn.D)] (.ag [dS r.1.Name,dS r.1.Left,.ref 1 none,dB r.1.ll_,.ref 4 none,.ref 3 none]) [cuB o0.b r.2.i r.2.h,.row .fz 1 (r.1.rt_.map A.D.s),.dead,.row m2 16 (r.1.cs_.map Cn.D),.row m2 9 (r.1.es_.map Eqn.D)]:=by
 refine Ok.enter rfl Tryz.func97 rfl rfl rfl fun S hS=>?_
 unfold z5V at hr
 refine sr ?_
 refine BX 4 ?_
 refine BX 5 ?_
 refine NV 6 ?_
 refine N0 ?_
 refine sr ?_
 refine W2 ?_
 refine bdE hr fun y1 hy1 hr=>?_
 refine CB [(0,7)] [1,2,3] (q6h (m:=.bo) hy1) ?_
 refine N1 ?_
 refine ssr ?_
 refine N1 ?_
 refine AW.block ?_
 refine AW.mv 2 8 rfl ?_
 refine q1I 7 rfl fun hl1=>?_
 refine bdE hr fun q1 hqq1 hr=>?_
 obtain⟨s2,s3,s1⟩:=q1
 refine q0d hqq1 hl1 9 (fun k1 (s2,s3,s1)=>[(0,.pb 0 0),(3,dB a3),(5,.pb 4 0),(6,.pb 5 0),(8,.pb 6 0),(9,.ref 7 none),(10,dI (k1:Int))]) (fun k1 (s2,s3,s1)=>[(0,(cuB o0.b s2 s3)),(8,.row m2 9 (s1.map Eqn.D))]) (GH.trans (q0E (q:=4) [rw3 m a1.ss_,.u] (.cons .rfl (.cons .u .nil)) rfl) (q0g hS 9)) (fun k1 xk1 sk1 ok1 hxk1 hr hltk1=>?_) fun k1 hltk1=>?_
 obtain⟨s2,s3,s1⟩:=sk1
 refine ssr ?_
 refine W2 ?_
 refine LE ?_
 refine N1 ?_
 refine q0r rfl (dT hltk1) ?_
 refine q0k ?_
 refine bdE hr fun q2 hqq2 hr=>?_
 obtain⟨s5,s6,s4⟩:=q2
 refine q0l (q0e 10 [(0,.pb 0 0),(3,dB a3),(5,.pb 4 0),(6,.pb 5 0),(8,.pb 6 0),(9,.ref 7 none),(10,dI (k1:Int))] [(0,(cuB o0.b s5 s6)),(5,.box [dS a2.Name,dS a2.Left,.ref 1 none,dB a2.ll_,.ref 9 none,.ref 3 none]),(8,.none),(9,.row m2 9 (s4.map Eqn.D))] ?_ ?_)
 replace hr:=hqq2
 refine AW.block (q0l (q0q (h:=?_)))
 refine W4 ?_
 refine IE hxk1 (Eaz _) ?_
 refine W1 ?_
 refine LP hxk1 ?_
 refine bdE hr fun y2 hy2 hr=>?_
 refine CB [] [1,8,3] (q7X (m:=.bo) hy2) ?_
 refine bdE hr fun q3 hq3 hr=>?_
 obtain⟨y3,y4⟩:=q3
 refine CB [(0,9)] [] (q7Y (m:=m) hq3) ?_
 refine W3 ?_
 refine NV 10 ?_
 refine SB ?_
 refine N1 ?_
 refine q0l (q0q (h:=?_))
 refine W3 ?_
 refine IE hxk1 (Eaz _) ?_
 refine W1 ?_
 refine LP hxk1 ?_
 refine bdE hr fun q4 hq4 hr=>?_
 obtain⟨y5,y6⟩:=q4
 refine CB [] [9] (z0E (m:=.bo) hq4) ?_
 refine W3 ?_
 refine NV 11 ?_
 refine SB ?_
 refine N1 ?_
 refine q0l (q0q (h:=?_))
 refine W5 ?_
 refine W1 ?_
 refine bdE hr fun q5 hq5 hr=>?_
 obtain⟨y7,z1⟩:=q5
 refine CB [(0,0)] [] (q3Q hq5) ?_
 refine ggE hr fun g1 hr=>?_
 refine OB _ (bAdd g1) ?_
 refine W1 ?_
 refine bdE hr fun q6 hq6 hr=>?_
 obtain⟨y8,z2⟩:=q6
 refine CB [(0,0),(1,12)] [1,8,3] (j9q (m:=.bo) hq6) ?_
 refine NV 13 ?_
 refine SB ?_
 refine N0 ?_
 refine ssr ?_
 refine W1 ?_
 refine bdE hr fun y9 hy9 hr=>?_
 refine CB [] [12] (z4V (m:=.bo) hy9) ?_
 refine N1 ?_
 refine ifE hr (fun h1 hr=>?_) fun h1 hr=>?_
 refine q0s rfl (bnF h1) ?_
 refine q0k ?_
 refine AW.fz 12 rfl ?_
 refine q0q (h:=?_)
 refine W4 ?_
 refine IE hxk1 (Eaz _) ?_
 refine LPa hxk1 ?_
 refine W2 ?_
 refine LIR 14 (m:=.fz) (f:=Eqn.D) (xs:=[(⟨xk1,y8⟩:Eqn)]) ?_
 refine ggE hr fun g2 hr=>?_
 refine AP1 15 m2 112 g2 ?_
 refine W1 ?_
 refine SB ?_
 refine N0 ?_
 cases hr
 exact GH.trans (q0E (q:=4) [rw3 m a1.ss_,.u] (.cons .rfl (.cons .u .nil)) rfl) (q0j hS [(0,0),(1,1),(2,2),(3,3),(4,4),(5,5),(6,6),(7,7),(15,9)] 10)
 refine q0r rfl (bnT h1) ?_
 refine q0h ?_
 refine W3 ?_
 refine L0 14 Oc.D ?_
 refine bdE hr fun q7 hq7 hr=>?_
 obtain⟨y10,z3⟩:=q7
 refine CB [(0,0),(1,15)] [14] (z0F (m:=.bo) hq7) ?_
 refine SB ?_
 refine N0 ?_
 refine AW.fz 15 rfl ?_
 refine q0q (h:=?_)
 refine W4 ?_
 refine IE hxk1 (Eaz _) ?_
 refine LPa hxk1 ?_
 refine W2 ?_
 refine LIR 16 (m:=.fz) (f:=Eqn.D) (xs:=[(⟨xk1,y10⟩:Eqn)]) ?_
 refine ggE hr fun g3 hr=>?_
 refine AP1 17 m2 112 g3 ?_
 refine W1 ?_
 refine SB ?_
 refine N0 ?_
 cases hr
 exact GH.trans (q0E (q:=4) [rw3 m a1.ss_,.u] (.cons .rfl (.cons .u .nil)) rfl) (q0j hS [(0,0),(1,1),(2,2),(3,3),(4,4),(5,5),(6,6),(7,7),(17,9)] 10)
 refine q0h ?_
 refine W1 ?_
 refine OB _ (z2y (p:=k1) (q:=1) (q5g hltk1 hl1)) ?_
 refine N1 ?_
 cases hr
 exact GH.trans (q0E (q:=4) [rw3 m a1.ss_,.u] (.cons .rfl (.cons .u .nil)) rfl) (q0j hS [(0,0),(1,1),(2,2),(3,3),(4,4),(5,5),(6,6),(7,7),(9,8)] 9)
 refine ssr ?_
 refine W2 ?_
 refine LE ?_
 refine N1 ?_
 refine q0s rfl (dF hltk1) ?_
 refine q0t ?_
 refine sr ?_
 refine W1 ?_
 refine SB ?_
 refine N0 ?_
 refine AW.ret ?_
 cases hr
 exact q0m [(0,0),(1,1),(2,2),(3,3),(8,4)] 5 hS
theorem k2c {m m2:Md}{a1:Gm_}{a2:Rule}{o0:L1_}{r:(Rule×L1_)}(hr:z7F a1 a2 o0=some r):Okp 98 [.pb 0 0,Gm_.y m a1,.ag [dS a2.Name,dS a2.Left,.ref 1 none,dB a2.ll_,.ref 2 none,.ref 3 none]] [cuB o0.b o0.i o0.h,.row .fz 1 (a2.rt_.map A.D.s),.row m2 9 (a2.es_.map Eqn.D),.row m2 16 (a2.cs_.map Cn.D)] (.ag [dS r.1.Name,dS r.1.Left,.ref 1 none,dB r.1.ll_,.ref 2 none,.ref 4 none]) [cuB o0.b r.2.i r.2.h,.row .fz 1 (r.1.rt_.map A.D.s),.row m2 9 (r.1.es_.map Eqn.D),.dead,.row m2 16 (r.1.cs_.map Cn.D)]:=by
 refine OE Tryz.func98 fun S hS=>?_
 unfold z7F at hr
 refine J g<|J (BX' 4)<|J (BX' 5)<|J (NV' 6)<|J (gn 7) ?_
 refine J (q0P 3 7 rfl)<|J (lenA 0 1)<|fun hl1=>bdT hr fun s1 s2 s3 hqq1 hr=>q0d hqq1 hl1 8 (fun k1 (s1,s2,s3)=>[(0,.pb 0 0),(4,.pb 4 0),(5,.pb 5 0),(6,.pb 6 0),(7,dI (k1:Int))]) (fun k1 (s1,s2,s3)=>[(0,(cuB o0.b s1 s2)),(7,.row m2 16 (s3.map Cn.D))]) I (fun k1 xk1 sk1 ok1 hxk1 hr hltk1=>?_) fun k1 hltk1=>?_
 obtain⟨s1,s2,s3⟩:=sk1
 refine J (gn 18) ?_
 refine AW.len (.el 1 (.tmp 12 rfl) hxk1 rfl) fun hl2=>?_
 refine bdT hr fun s4 s5 s6 hqq2 hr=>q0d hqq2 hl2 8 (fun k2 (s4,s5,s6)=>[(0,.pb 0 0),(4,.pb 4 0),(5,.pb 5 0),(6,.pb 6 0),(7,dI (k1:Int)),(8,dI (k2:Int))]) (fun k2 (s4,s5,s6)=>[(0,(cuB o0.b s4 s5)),(7,.row m2 16 (s6.map Cn.D))]) I (fun k2 xk2 sk2 ok2 hxk2 hr hltk2=>?_) fun k2 hltk2=>?_
 obtain⟨s4,s5,s6⟩:=sk2
 refine bdT hr fun s8 s9 s7 hqq3 hr=>J (gn 16)<|q0e 8 [(0,.pb 0 0),(4,.pb 4 0),(5,.pb 5 0),(6,.pb 6 0),(7,dI (k1:Int)),(8,dI (k2:Int))] [(0,(cuB o0.b s8 s9)),(7,.row m2 16 (s7.map Cn.D))] ?_ ?_
 replace hr:=hqq3
 refine J g<|J (NV' 8)<|bdE hr fun s10 hqq4 hr=>J (gn 7)<|q0a 6 [(0,.pb 0 0),(4,.pb 4 0),(5,.pb 5 0),(6,.pb 6 0),(7,dI (k1:Int)),(8,dI (k2:Int)),(9,.pb 8 0),(45,dB s10)] ?_ ?_
 replace hr:=hqq4
 refine ifE hr ?_ ?_<;>intro h1 hr
 exact e
 exact e
 refine bdT hr fun s14 s15 s16 hqq5 hr=>q0A 5 9 [(0,.pb 0 0),(4,.pb 4 0),(5,.pb 5 0),(6,.pb 6 0),(7,dI (k1:Int)),(8,dI (k2:Int)),(9,.pb 8 0),(50,dB s14)] [(0,(cuB o0.b s15 s16))] ?_ ?_
 replace hr:=hqq5
 refine ifE hr ?_ ?_<;>intro h2 hr
 refine bdP hr fun y1 z1 hq6 hr=>J g<|J (CB' [(0,0)] [] (q5X hq6))<|e
 exact e
 refine fE 1 hr ?_ ?_<;>intro h3 hr
 refine bdE hr fun y2 hy2 hr=>J g<|J (CB' [(0,9)] [1,2,7] (z6p (m:=.bo) hy2))<|bdP hr fun y3 z2 hq7 hr=>J (CBz' 10 [(0,0),(1,10)] [9] (z0F (m:=.bo) hq7))<|bdE hr fun y4 hy4 hr=>J g<|J (CB' [(0,11)] [1,2,7] (z6p (m:=.bo) hy4))<|bdP hr fun y5 z3 hq8 hr=>J (CBz' 12 [(0,0),(1,12)] [11] (z0F (m:=.bo) hq8))<|J g<|J (LIR' 13 (m:=.fz) (f:=Cn.D) (xs:=[(⟨xk1.Name,xk2.Name,y3,y5⟩:Cn)]))<|ggE hr fun g1 hr=>J (AP1' 14 m2 208 g1)<|e
 exact e
 exact e
 exact e
 exact e
theorem j3j {a1:Bool}{o0:L1_}{r:(Gm_×L1_)}(hr:z4q a1 o0=some r):Okp 51 [.pb 0 0,dB a1] [cuB o0.b o0.i o0.h] (.ag [.ref 1 none,.ref 2 none]) [cuB o0.b r.2.i r.2.h,.deep .fz 2 (r.1.ss_.map Symbol.O) [],.deep .fz 6 (r.1.rs_.map Rule.O) []]:=by
 refine OE Tryz.func51 fun S hS=>?_
 unfold z4q at hr
 refine J g<|J (NV' 1)<|J g<|J (NV' 2)<|bdP hr fun y1 z1 hq1 hr=>J g<|J (CB' [(0,0)] [] (q3Q hq1))<|ggE hr fun g1 hr=>J g<|J (LIR' 3 (m:=.fz) (f:=A.D.s) (xs:=[(⟨#[115]⟩:BA_),(⟨#[116]⟩:BA_),(⟨#[117]⟩:BA_)]))<|ggE hr fun g2 hr=>ggE hr fun g3 hr=>J g<|J (CU' 4 g2 g3)<|J (gn 8) ?_
 refine J (q0H 2 0 5 .fz 2 rfl rfl)<|J (q2r 5 Symbol.O)<|J (rngT 6)<|fun hl1=>bdT hr fun s2 s3 s1 hqq2 hr=>q0n hqq2 6 (fun k1 (s2,s3,s1)=>[(0,.pb 0 0),(1,dB a1),(4,.pb 1 0),(5,.pb 2 0),(6,dI (1+y1)),(7,.ref 4 none),(8,dI (k1:Int))]) (fun k1 (s2,s3,s1)=>[(0,(cuB o0.b s2 s3)),(3,.none),(5,.deep .fz 2 (s1.map Symbol.O) [])]) I (fun k1 sk1 ok1 hr hltk1=>?_) ?_
 obtain⟨s2,s3,s1⟩:=sk1
 refine bdE hr fun x1 hx1 hr=>bdP hr fun y2 z2 hq3 hr=>J g<|J (CB' [(0,0),(1,6)] [] (j5f hq3))<|J (LID' (f:=Symbol.O) 7 y2 [6])<|ggE hr fun g4 hr=>J (k8k 8 40 g4)<|e
 refine J (gn 15) ?_
 refine J (q0H 2 1 6 .fz 6 rfl rfl)<|J (q2r 6 Rule.O)<|J (rngT 6)<|fun hl2=>bdT hr fun s5 s6 s4 hqq4 hr=>q0n hqq4 7 (fun k2 (s5,s6,s4)=>[(0,.pb 0 0),(1,dB a1),(4,.pb 1 0),(5,.pb 2 0),(6,dI (1+y1)),(7,.ref 4 none),(9,dI (k2:Int))]) (fun k2 (s5,s6,s4)=>[(0,(cuB o0.b s5 s6)),(6,.deep .fz 6 (s4.map Rule.O) [])]) I (fun k2 sk2 ok2 hr hltk2=>?_) ?_
 obtain⟨s5,s6,s4⟩:=sk2
 refine bdE hr fun x2 hx2 hr=>ggE hr fun g5 hr=>J g<|J (OB' _ (k1R g5))<|bdP hr fun y3 z3 hq5 hr=>J g<|J (CB' [(0,0)] [] (q5X hq5))<|J g<|J (LID' (f:=Rule.O) 7 (⟨((⟨#[108,101,97,102]⟩:BA_)++x2),x2,[],!y3,[],[]⟩:Rule) [])<|ggE hr fun g6 hr=>J (k8k 8 112 g6)<|bdP hr fun y4 z4 hq6 hr=>J g<|J (CB' [(0,0)] [] (q3Q hq6))<|ggE hr fun g7 hr=>J (gn 8)<|J (rngT 10)<|fun hl3=>bdT hr fun s8 s9 s7 hqq7 hr=>q0n hqq7 9 (fun k3 (s8,s9,s7)=>[(0,.pb 0 0),(1,dB a1),(4,.pb 1 0),(5,.pb 2 0),(6,dI (1+y1)),(7,.ref 4 none),(9,dI (k2:Int)),(10,dI (1+y4)),(11,dI (k3:Int))]) (fun k3 (s8,s9,s7)=>[(0,(cuB o0.b s8 s9)),(6,.none),(7,.none),(8,.deep .fz 6 (s7.map Rule.O) [])]) I (fun k3 sk3 ok3 hr hltk3=>?_) ?_
 obtain⟨s8,s9,s7⟩:=sk3
 refine ggE hr fun g8 hr=>J g<|J (OB' _ (k1R g8))<|bdE hr fun y5 hy5 hr=>J g<|J (CB' [] [] (j6e hy5))<|ggE hr fun g9 hr=>J (OB' _ (k1R g9))<|bdP hr fun y6 z5 hq8 hr=>J g<|J (CB' [(0,0)] [] (q5X hq8))<|J g<|J (NV' 9)<|bdP hr fun y7 z6 hq9 hr=>J g<|J (CB' [(0,0)] [] (q3Q hq9))<|ggE hr fun g10 hr=>J (gn 9) ?_
 refine J (q0H 9 2 10 .fz 1 rfl rfl)<|J (rngT 13)<|fun hl4=>bdT hr fun s11 s12 s10 hqq10 hr=>q0n hqq10 11 (fun k4 (s11,s12,s10)=>[(0,.pb 0 0),(1,dB a1),(4,.pb 1 0),(5,.pb 2 0),(6,dI (1+y1)),(7,.ref 4 none),(9,dI (k2:Int)),(10,dI (1+y4)),(11,dI (k3:Int)),(12,.pb 9 0),(13,dI (1+y7)),(14,dI (k4:Int))]) (fun k4 (s11,s12,s10)=>[(0,(cuB o0.b s11 s12)),(10,.row .fz 1 (s10.map A.D.s))]) I (fun k4 sk4 ok4 hr hltk4=>?_) ?_
 obtain⟨s11,s12,s10⟩:=sk4
 refine bdP hr fun y8 z7 hq11 hr=>J g<|J (CB' [(0,0)] [4] (q9i (m:=.bo) hq11))<|J (LIR' 11 (m:=.fz) (f:=A.D.s) (xs:=[y8]))<|ggE hr fun g11 hr=>J (z1p (f:=A.D.s) 12 (fun _=>rfl) 16 g11)<|e
 refine J g<|J (LID' (f:=Rule.O) 11 (⟨(((⟨#[112]⟩:BA_)++x2)++y5),x2,s10,y6,[],[]⟩:Rule) [10])<|ggE hr fun g12 hr=>J (k8k 12 112 g12)<|e
 exact e
 refine J g<|J (LEd' s4.length)<|bdE hr fun s13 hqq12 hr=>J (gn 2)<|q0e 7 [(0,.pb 0 0),(1,dB a1),(4,.pb 1 0),(5,.pb 2 0)] [(6,.deep .fz 6 (s13.map Rule.O) [])] ?_ ?_
 replace hr:=hqq12
 refine ifE hr ?_ ?_<;>intro h1 hr
 refine ggE hr fun g13 hr=>J g<|J (CUd' (xs:=s4) (b:=8) 7 (by decide) g13)<|e
 exact e
 refine bdT hr fun s14 s15 s16 hqq13 hr=>J (gn 5)<|q0e 7 [(4,.pb 1 0),(5,.pb 2 0)] [(0,(cuB o0.b s14 s15)),(6,.deep .fz 6 (s16.map Rule.O) [])] ?_ ?_
 refine J g<|q0i hqq13 7 (fun (s17,s18,s19,s20)=>[(0,.pb 0 0),(1,dB a1),(4,.pb 1 0),(5,.pb 2 0),(15,dI s17)]) (fun (s17,s18,s19,s20)=>[(0,(cuB o0.b s18 s19)),(6,.deep .fz 6 (s20.map Rule.O) [])]) I fun sk5 ok5 hr hik5=>?_
 obtain⟨s17,s18,s19,s20⟩:=sk5
 have hr:=hr
 refine J g<|J (LEd' s20.length)<|fE 2 hr ?_ ?_<;>intro h2 hr
 refine bdT hr fun s21 s22 s23 hqq14 hr=>J (gn 3)<|q0e 7 [(0,.pb 0 0),(1,dB a1),(4,.pb 1 0),(5,.pb 2 0),(15,dI s17)] [(0,(cuB o0.b s21 s22)),(6,.deep .fz 6 (s23.map Rule.O) [])] ?_ ?_
 replace hr:=hqq14
 refine ggE hr fun g14 hr=>bdE hr fun x3 hx3 hr=>J (q0C 6 s17.toNat 2 7 (q4H hx3))<|J (q0C 6 s17.toNat 4 8 (q4k (q4H hx3)))<|J (q0C 6 s17.toNat 5 9 (q4k (q4k (q4H hx3))))<|J g<|J (IEd' g14 (q4k (q4k (q4k (q4H hx3)))))<|J (k9H [(5,9),(4,8),(2,7)] (q4k (q4k (q4k (q4H hx3)))))<|bdP hr fun y9 z8 hq15 hr=>J g<|J (CB' [(0,0),(1,7),(2,8),(3,9),(4,10)] [5] (j9v (m:=.bo) (m2:=.fz) hq15))<|J (IEd' g14 (q4k (q4k (q4k (q4H hx3)))))<|J (SD' [.d .fz (.s y9.Name),.d .fz (.s y9.Left),.o .fz 1 (y9.rt_.map A.D.s),.d .fz (.b y9.ll_),.o .fz 9 (y9.es_.map Eqn.D),.o .fz 16 (y9.cs_.map Cn.D)] [7,10,9] (q4k (q4k (q4k (q4H hx3)))))<|fE 6 hr ?_ ?_<;>intro h3 hr
 refine J (gn 2) ?_
 cases hr
 exact GH.trans (q0x 6 (he:=eset (f:=Rule.O) (x':=y9) (by first|rfl|(simp only[Ebz];rfl)))) (q0j hS [(0,0),(1,1),(2,2),(4,4),(5,5),(6,6)] 7)
 refine J (gn 1)<|J (q0C 6 s17.toNat 2 11 (q4k (q4k (q4k (q4k (q4H hx3))))))<|J (q0C 6 s17.toNat 4 12 (q4k (q4k (q4k (q4k (q4k (q4H hx3)))))))<|J (q0C 6 s17.toNat 5 13 (q4k (q4k (q4k (q4k (q4k (q4k (q4H hx3))))))))<|J g<|J (IEd' g14 (q4k (q4k (q4k (q4k (q4k (q4k (q4k (q4H hx3)))))))))<|J (k9H [(5,13),(4,12),(2,11)] (q4k (q4k (q4k (q4k (q4k (q4k (q4k (q4H hx3)))))))))<|bdP hr fun y10 z9 hq16 hr=>J (CB' [(0,0),(1,11),(2,12),(3,13),(4,14)] [5] (k2c (m:=.bo) (m2:=.fz) hq16))<|J (IEd' g14 (q4k (q4k (q4k (q4k (q4k (q4k (q4k (q4H hx3)))))))))<|J (SD' [.d .fz (.s y10.Name),.d .fz (.s y10.Left),.o .fz 1 (y10.rt_.map A.D.s),.d .fz (.b y10.ll_),.o .fz 9 (y10.es_.map Eqn.D),.o .fz 16 (y10.cs_.map Cn.D)] [11,12,14] (q4k (q4k (q4k (q4k (q4k (q4k (q4k (q4H hx3)))))))))<|J (gn 1) ?_
 cases hr
 exact GH.trans (q0x 6 (he:=eset (f:=Rule.O) (x':=y10) (by first|rfl|(simp only[Ebz];rfl)))) (q0j hS [(0,0),(1,1),(2,2),(4,4),(5,5),(6,6)] 7)
 refine ggE hr fun g15 hr=>e
 refine J (gn 2) ?_
 cases hr
 cases hik5 _ rfl
 exact q0j hS [(0,0),(1,1),(2,2),(4,4),(5,5),(6,6)] 7
 exact e
theorem z8E {o0:L1_}{r:(BA_×L1_)}(hr:z1V o0=some r):Okp 215 [.pb 0 0] [cuB o0.b o0.i o0.h] (dS r.1) [cuB o0.b r.2.i r.2.h]:=by
 refine OE Tryz.func215 fun S hS=>?_
 unfold z1V at hr
 refine J g<|J (LIR' 1 (m:=.fz) (f:=A.D.s) (xs:=[(⟨#[97]⟩:BA_),(⟨#[98]⟩:BA_),(⟨#[99]⟩:BA_),(⟨#[100]⟩:BA_),(⟨#[120]⟩:BA_),(⟨#[121]⟩:BA_),(⟨#[116]⟩:BA_),(⟨#[117]⟩:BA_)]))<|bdP hr fun y1 z1 hq1 hr=>J (CB' [(0,0)] [1] (q9i (m:=.bo) hq1))<|e
theorem j9w {Rc4:Int→L1_→Option (Expr×L1_)}(Ic4:∀ {a1:Int} {o0:L1_} {r:(Expr×L1_)},Rc4 a1 o0=some r→Okp 175 [.pb 0 0,dI a1] [cuB o0.b o0.i o0.h] (.ag [dI r.1.Kind,dI r.1.N,dI r.1.Pos,dI r.1.t__,dS r.1.Symbol,dS r.1.Name,.ref 1 none]) [cuB o0.b r.2.i r.2.h,.row .fz 7 (r.1.Args.map Expr.D)]){a1:Int}{o0:L1_}{r:(Expr×L1_)}(hr:q9a Rc4 a1 o0=some r):Okp 175 [.pb 0 0,dI a1] [cuB o0.b o0.i o0.h] (.ag [dI r.1.Kind,dI r.1.N,dI r.1.Pos,dI r.1.t__,dS r.1.Symbol,dS r.1.Name,.ref 1 none]) [cuB o0.b r.2.i r.2.h,.row .fz 7 (r.1.Args.map Expr.D)]:=by
 refine OE Tryz.func175 fun S hS=>?_
 unfold q9a at hr
 refine J g<|J (NV' 1)<|fE 6 hr ?_ ?_<;>intro h1 hr
 refine bdP hr fun y1 z1 hq1 hr=>J g<|J (CB' [(0,0)] [] (q5X hq1))<|fE 1 hr ?_ ?_<;>intro h2 hr
 refine J (gn 7) ?_
 refine J (q0c (q0o (q:=1) (c:=6) (r:=2) .fz 7 rfl rfl rfl))<|J g<|E
 refine bdP hr fun y2 z2 hq2 hr=>J g<|J (CB' [(0,0)] [] (q5X hq2))<|fE 1 hr ?_ ?_<;>intro h3 hr
 refine bdP hr fun y3 z3 hq3 hr=>J g<|J (CB' [(0,0)] [] (q3Q hq3))<|J (gn 4) ?_
 refine J (q0c (q0o (q:=1) (c:=6) (r:=2) .fz 7 rfl rfl rfl))<|J g<|E
 refine bdP hr fun y4 z4 hq4 hr=>J g<|J (CB' [(0,0)] [] (q3Q hq4))<|ggE hr fun g1 hr=>bdP hr fun y5 z5 hq5 hr=>J g<|J (CB' [(0,0)] [] (q3Q hq5))<|bdP hr fun y6 z6 hq6 hr=>J g<|J (CB' [(0,0)] [] (z8E hq6))<|J g<|J (LIR' 2 (m:=.fz) (f:=Oc.D) (xs:=[(⟨y5,y6⟩:Oc)]))<|bdP hr fun y7 z7 hq7 hr=>J (CB' [(0,0),(1,3)] [2] (z0F (m:=.bo) hq7))<|e
 refine bdP hr fun y8 z8 hq8 hr=>J g<|J (CB' [(0,0)] [] (q5X hq8))<|fE 2 hr ?_ ?_<;>intro h4 hr
 refine bdP hr fun y9 z9 hq9 hr=>J g<|J (CB' [(0,0)] [] (q5X hq9))<|fE 1 hr ?_ ?_<;>intro h5 hr
 refine J (gn 7) ?_
 refine J (q0c (q0o (q:=1) (c:=6) (r:=2) .fz 7 rfl rfl rfl))<|J g<|E
 refine bdP hr fun y10 z10 hq10 hr=>J g<|J (CB' [(0,0)] [] (q5X hq10))<|fE 1 hr ?_ ?_<;>intro h6 hr
 refine bdP hr fun y11 z11 hq11 hr=>J g<|J (CB' [(0,0)] [] (q3Q hq11))<|J (gn 4) ?_
 refine J (q0c (q0o (q:=1) (c:=6) (r:=2) .fz 7 rfl rfl rfl))<|J g<|E
 refine bdP hr fun y12 z12 hq12 hr=>J g<|J (CB' [(0,0)] [] (q3Q hq12))<|ggE hr fun g2 hr=>bdP hr fun y13 z13 hq13 hr=>J g<|J (CB' [(0,0)] [] (q3Q hq13))<|bdP hr fun y14 z14 hq14 hr=>J g<|J (CB' [(0,0)] [] (z8E hq14))<|J g<|J (LIR' 2 (m:=.fz) (f:=Oc.D) (xs:=[(⟨y13,y14⟩:Oc)]))<|bdP hr fun y15 z15 hq15 hr=>J (CB' [(0,0),(1,3)] [2] (z0F (m:=.bo) hq15))<|e
 refine bdP hr fun y16 z16 hq16 hr=>J g<|J (CB' [(0,0)] [] (q3Q hq16))<|fE 7 hr ?_ ?_<;>intro h7 hr
 refine ggE hr fun g3 hr=>bdP hr fun y17 z17 hq17 hr=>J g<|J (CB' [(0,0),(1,2)] [] (Ic4 hq17))<|ggE hr fun g4 hr=>bdP hr fun y18 z18 hq18 hr=>J g<|J (CB' [(0,0),(1,3)] [] (Ic4 hq18))<|ggE hr fun g5 hr=>bdP hr fun y19 z19 hq19 hr=>J g<|J (CB' [(0,0),(1,4)] [] (Ic4 hq19)) ?_
 refine J (q0p 2 rfl) ?_
 refine J (q0p 3 rfl) ?_
 refine J (q0p 4 rfl) ?_
 refine J (j7S 5 (m:=.fz) (f:=Expr.D) [y17,y18,y19] (by simp only[Bcz,Dpz,Expr.D_eq];rfl))<|J g<|E
 refine fE 6 hr ?_ ?_<;>intro h8 hr
 refine J g<|J (LIR' 2 (m:=.fz) (f:=A.D.s) (xs:=[(⟨#[115]⟩:BA_),(⟨#[116]⟩:BA_)]))<|bdP hr fun y20 z20 hq20 hr=>J (CB' [(0,0)] [2] (q9i (m:=.bo) hq20))<|bdP hr fun y21 z21 hq21 hr=>J g<|J (CB' [(0,0)] [] (z8E hq21))<|ggE hr fun g6 hr=>bdP hr fun y22 z22 hq22 hr=>J g<|J (CB' [(0,0),(1,3)] [] (Ic4 hq22)) ?_
 refine J (q0p 3 rfl) ?_
 refine J (j7S 4 (m:=.fz) (f:=Expr.D) [y22] (by simp only[Bcz,Dpz,Expr.D_eq];rfl))<|J g<|E
 refine bdP hr fun y23 z23 hq23 hr=>J g<|J (CB' [(0,0)] [] (q3Q hq23))<|ggE hr fun g7 hr=>ggE hr fun g8 hr=>bdP hr fun y24 z24 hq24 hr=>J g<|J (CB' [(0,0),(1,2)] [] (Ic4 hq24))<|ggE hr fun g9 hr=>bdP hr fun y25 z25 hq25 hr=>J g<|J (CB' [(0,0),(1,3)] [] (Ic4 hq25)) ?_
 refine J (q0p 2 rfl) ?_
 refine J (q0p 3 rfl)<|bdE hr fun y26 hy26 hr=>J (CB' [(0,4)] [] (z5w (m:=.fz) hy26))<|J g<|E
theorem j9x (n:Nat):∀ {a1:Int} {o0:L1_} {r:(Expr×L1_)},q7J n a1 o0=some r→Okp 175 [.pb 0 0,dI a1] [cuB o0.b o0.i o0.h] (.ag [dI r.1.Kind,dI r.1.N,dI r.1.Pos,dI r.1.t__,dS r.1.Symbol,dS r.1.Name,.ref 1 none]) [cuB o0.b r.2.i r.2.h,.row .fz 7 (r.1.Args.map Expr.D)]:=by
  induction n with
  | zero=>intro _ _ r hr;exact nomatch (show (none:Option (Expr×L1_))=some r from hr)
  | succ n ih=>intro _ _ r hr;exact j9w ih hr
theorem j5g {a1:Int}{o0:L1_}{r:(Expr×L1_)}(hr:z9J a1 o0=some r):Okp 175 [.pb 0 0,dI a1] [cuB o0.b o0.i o0.h] (.ag [dI r.1.Kind,dI r.1.N,dI r.1.Pos,dI r.1.t__,dS r.1.Symbol,dS r.1.Name,.ref 1 none]) [cuB o0.b r.2.i r.2.h,.row .fz 7 (r.1.Args.map Expr.D)]:=by
 obtain⟨n,hn⟩:=q6S hr
 exact j9x n hn
theorem j6g {Rc5:Expr→Int→Option Bool}(Ic5:∀ {m:Md} {a0:Expr} {a1:Int} {r:Bool},Rc5 a0 a1=some r→Okp 254 [Expr.x m a0,dI a1] [] (dB r) []){m:Md}{a0:Expr}{a1:Int}{r:Bool}(hr:z0m Rc5 a0 a1=some r):Okp 254 [Expr.x m a0,dI a1] [] (dB r) []:=by
 refine OE Tryz.func254 fun S hS=>?_
 unfold z0m at hr
 refine J g<|J (BX' 0)<|J (gn 8)<|J (lenA 6 0)<|fun hl1=>bdE hr fun q1 hqq1 hr=>q0b hqq1 hl1 1 (fun k1 _=>[(1,dI a1),(2,.pb 0 0),(5,dI (k1:Int))]) (fun k1 _=>[]) I (fun k1 xk1 sk1 ok1 hxk1 hr hltk1 hik1=>?_) fun k1 sk1 ek1 hltk1=>?_
 refine bdE hr fun y1 hy1 hr=>J g<|J (CB' [] [] (Ic5 (m:=m) hy1))<|fE 2 hr ?_ ?_<;>intro h1 hr
 exact e
 exact e
 subst ek1
 exact e
theorem j6h (n:Nat):∀ {m:Md} {a0:Expr} {a1:Int} {r:Bool},q8j n a0 a1=some r→Okp 254 [Expr.x m a0,dI a1] [] (dB r) []:=by
  induction n with
  | zero=>intro _ _ _ r hr;exact nomatch (show (none:Option Bool)=some r from hr)
  | succ n ih=>intro _ _ _ r hr;exact j6g ih hr
theorem j8d {m:Md}{a0:Expr}{a1:Int}{r:Bool}(hr:z6N a0 a1=some r):Okp 254 [Expr.x m a0,dI a1] [] (dB r) []:=by
 obtain⟨n,hn⟩:=q6S hr
 exact j6h n hn
theorem z8F {m:Md}{a0:Expr}{a1:Int}{r:Bool}(hr:z0X a0 a1=some r):Okp 214 [Expr.x m a0,dI a1] [] (dB r) []:=by
 refine OE Tryz.func214 fun S hS=>?_
 unfold z0X at hr
 refine J g<|J (BX' 0)<|bdE hr fun y1 hy1 hr=>J g<|J (CB' [] [] (z4V (m:=m) hy1))<|ifE hr ?_ ?_<;>intro h1 hr
 refine bdE hr fun y2 hy2 hr=>J g<|J (CB' [] [] (j8d (m:=m) hy2))<|e
 exact e
theorem k2d {o0:L1_}{r:(Rule×L1_)}(hr:z7G o0=some r):Okp 173 [.pb 0 0] [cuB o0.b o0.i o0.h] (.ag [dS r.1.Name,dS r.1.Left,.ref 1 none,dB r.1.ll_,.ref 2 none,.ref 3 none]) [cuB o0.b r.2.i r.2.h,.row .fz 1 (r.1.rt_.map A.D.s),.row .fz 9 (r.1.es_.map Eqn.D),.row .fz 16 (r.1.cs_.map Cn.D)]:=by
 refine OE Tryz.func173 fun S hS=>?_
 unfold z7G at hr
 refine J g<|J (NV' 1)<|J g<|J (LIR' 2 (m:=.fz) (f:=A.D.s) (xs:=[(⟨#[112]⟩:BA_),(⟨#[113]⟩:BA_),(⟨#[108,101,97,102]⟩:BA_)]))<|bdP hr fun y1 z1 hq1 hr=>J (CB' [(0,0)] [2] (q9i (m:=.bo) hq1))<|J g<|J (LIR' 3 (m:=.fz) (f:=A.D.s) (xs:=[(⟨#[115]⟩:BA_),(⟨#[116]⟩:BA_)]))<|bdP hr fun y2 z2 hq2 hr=>J (CB' [(0,0)] [3] (q9i (m:=.bo) hq2))<|bdP hr fun y3 z3 hq3 hr=>J g<|J (CB' [(0,0)] [] (q5X hq3))<|J g<|J (NV' 4)<|bdP hr fun y4 z4 hq4 hr=>J g<|J (CB' [(0,0)] [] (q3Q hq4))<|J (gn 8) ?_
 refine J (q0H 4 2 5 .fz 1 rfl rfl)<|J (rngT 4)<|fun hl1=>bdT hr fun s2 s3 s1 hqq5 hr=>q0n hqq5 6 (fun k1 (s2,s3,s1)=>[(0,.pb 0 0),(2,.pb 1 0),(3,.pb 4 0),(4,dI y4),(5,dI (k1:Int))]) (fun k1 (s2,s3,s1)=>[(0,(cuB o0.b s2 s3)),(5,.row .fz 1 (s1.map A.D.s))]) I (fun k1 sk1 ok1 hr hltk1=>?_) ?_
 obtain⟨s2,s3,s1⟩:=sk1
 refine J g<|J (LIR' 6 (m:=.fz) (f:=A.D.s) (xs:=[(⟨#[115]⟩:BA_),(⟨#[116]⟩:BA_),(⟨#[117]⟩:BA_)]))<|bdP hr fun y5 z5 hq6 hr=>J (CB' [(0,0)] [6] (q9i (m:=.bo) hq6))<|J (LIR' 7 (m:=.fz) (f:=A.D.s) (xs:=[y5]))<|ggE hr fun g1 hr=>J (z1p (f:=A.D.s) 8 (fun _=>rfl) 16 g1)<|e
 refine bdP hr fun y6 z6 hq7 hr=>J g<|J (CB' [(0,0)] [] (q3Q hq7))<|J (gn 8) ?_
 refine J (q0H 4 4 6 .fz 9 rfl rfl)<|J (rngT 6)<|fun hl2=>bdT hr fun s4 s5 s6 hqq8 hr=>q0n hqq8 7 (fun k2 (s4,s5,s6)=>[(0,.pb 0 0),(2,.pb 1 0),(3,.pb 4 0),(4,dI y4),(6,dI y6),(7,dI (k2:Int))]) (fun k2 (s4,s5,s6)=>[(0,(cuB o0.b s4 s5)),(6,.row .fz 9 (s6.map Eqn.D))]) I (fun k2 sk2 ok2 hr hltk2=>?_) ?_
 obtain⟨s4,s5,s6⟩:=sk2
 refine bdT hr fun s8 s9 s7 hqq9 hr=>J (gn 10)<|q0e 7 [(0,.pb 0 0),(2,.pb 1 0),(3,.pb 4 0),(4,dI y4),(6,dI y6),(7,dI (k2:Int))] [(0,(cuB o0.b s8 s9)),(6,.row .fz 9 (s7.map Eqn.D))] ?_ ?_
 replace hr:=hqq9
 refine bdP hr fun y7 z7 hq10 hr=>J g<|J (CB' [(0,0)] [] (q3Q hq10))<|ggE hr fun g2 hr=>bdP hr fun y8 z8 hq11 hr=>J g<|J (CB' [(0,0),(1,7)] [] (j5g hq11))<|J (NV' 8)<|bdE hr fun y9 hy9 hr=>J g<|J (CB' [] [7] (z8F (m:=.bo) hy9))<|fE 1 hr ?_ ?_<;>intro h1 hr
 refine J (gn 1) ?_
 refine J (q3K 7 rfl)<|ggE hr fun g3 hr=>bdP hr fun y10 z9 hq12 hr=>J g<|J (CB' [(0,0)] [] (q3Q hq12))<|bdP hr fun y11 z10 hq13 hr=>J g<|J (CB' [(0,0)] [] (z8E hq13))<|J g<|J (LIR' 9 (m:=.fz) (f:=Eqn.D) (xs:=[(⟨(⟨y10,y11⟩:Oc),y8⟩:Eqn)]))<|ggE hr fun g4 hr=>J (AP1' 10 .fz 112 g4)<|J g<|E
 exact e
 exact e
 refine bdP hr fun y12 z11 hq14 hr=>J g<|J (CB' [(0,0)] [] (q5X hq14))<|fE 1 hr ?_ ?_<;>intro h2 hr
 refine bdP hr fun y13 z12 hq15 hr=>J g<|J (CB' [(0,0)] [] (q3Q hq15))<|bdE hr fun y14 hy14 hr=>J (CBz' 7 [(0,7)] [] (z1x hy14))<|J g<|J (LIR' 8 (m:=.fz) (f:=Cn.D) (xs:=[(⟨(⟨#[115]⟩:BA_),(⟨#[99]⟩:BA_),(⟨6,0,0,0,(⟨#[]⟩:BA_),(⟨#[]⟩:BA_),[]⟩:Expr),y14⟩:Cn)])) ?_
 refine J (q3g 65 9 .fz 16 rfl)<|ggE hr fun g5 hr=>J (AP1' 10 .fz 208 g5)<|J g<|E
 refine J (gn 8) ?_
 refine J (q0c (q0o (q:=1) (c:=5) (r:=7) .fz 16 rfl rfl rfl))<|J g<|E
theorem j5h {o0:L1_}{r:(Expr×L1_)}(hr:z5W o0=some r):Okp 124 [.pb 0 0] [cuB o0.b o0.i o0.h] (.ag [dI r.1.Kind,dI r.1.N,dI r.1.Pos,dI r.1.t__,dS r.1.Symbol,dS r.1.Name,.ref 1 none]) [cuB o0.b r.2.i r.2.h,.row .fz 7 (r.1.Args.map Expr.D)]:=by
 refine OE Tryz.func124 fun S hS=>?_
 unfold z5W at hr
 refine J g<|J (NV' 1)<|bdP hr fun y1 z1 hq1 hr=>J g<|J (CB' [(0,0)] [] (q3Q hq1))<|ggE hr fun g1 hr=>bdP hr fun y2 z2 hq2 hr=>J g<|J (CB' [(0,0),(1,2)] [] (j5g hq2))<|J (NV' 3)<|bdE hr fun y3 hy3 hr=>J g<|J (CB' [] [2] (z4V (m:=.bo) hy3))<|fE 2 hr ?_ ?_<;>intro h1 hr
 exact e
 refine J (gn 7) ?_
 refine J (q0c (q0o (q:=1) (c:=6) (r:=4) .fz 7 rfl rfl rfl))<|J g<|E
theorem k2e {o0:L1_}{r:(Expr×L1_)}(hr:z7H o0=some r):Okp 174 [.pb 0 0] [cuB o0.b o0.i o0.h] (.ag [dI r.1.Kind,dI r.1.N,dI r.1.Pos,dI r.1.t__,dS r.1.Symbol,dS r.1.Name,.ref 1 none]) [cuB o0.b r.2.i r.2.h,.row .fz 7 (r.1.Args.map Expr.D)]:=by
 refine OE Tryz.func174 fun S hS=>?_
 unfold z7H at hr
 refine J g<|J (NV' 1)<|bdP hr fun y1 z1 hq1 hr=>J g<|J (CB' [(0,0),(1,2)] [] (j5h hq1))<|J (NV' 3)<|bdP hr fun y2 z2 hq2 hr=>J g<|J (CB' [(0,0)] [] (q3Q hq2))<|fE 7 hr ?_ ?_<;>intro h1 hr
 refine bdP hr fun y3 z3 hq3 hr=>J g<|J (CB' [(0,0)] [] (q3Q hq3))<|e
 refine fE 6 hr ?_ ?_<;>intro h2 hr
 refine J g ?_
 refine J (j7S 4 (m:=.fz) (f:=Expr.D) [(⟨7,0,0,0,(⟨#[]⟩:BA_),(⟨#[]⟩:BA_),[]⟩:Expr)] (by simp only[Bcz,Dpz,Expr.D_eq];rfl))<|ggE hr fun g1 hr=>J (AP1' 5 .fz 88 g1)<|J g<|E
 refine fE 6 hr ?_ ?_<;>intro h3 hr
 refine J g<|J (LIR' 4 (m:=.fz) (f:=(A.D.i .i64)) (xs:=([(-1),13,4096,1000001]:List Int)))<|bdP hr fun y4 z4 hq4 hr=>J (CB' [(0,0)] [4] (q6J (m:=.bo) hq4))<|e
 refine fE 6 hr ?_ ?_<;>intro h4 hr
 refine J g<|J (LIR' 4 (m:=.fz) (f:=(A.D.i .i64)) (xs:=([(-1),4,1]:List Int)))<|bdP hr fun y5 z5 hq5 hr=>J (CB' [(0,0)] [4] (q6J (m:=.bo) hq5))<|e
 refine fE 6 hr ?_ ?_<;>intro h5 hr
 refine J g<|J (LIR' 4 (m:=.fz) (f:=A.D.s) (xs:=[(⟨#[105,102]⟩:BA_),(⟨#[]⟩:BA_),(⟨#[120]⟩:BA_)]))<|bdP hr fun y6 z6 hq6 hr=>J (CB' [(0,0)] [4] (q9i (m:=.bo) hq6))<|e
 refine fE 6 hr ?_ ?_<;>intro h6 hr
 refine J g ?_
 have hl1:rngI .i64 5:=⟨by decide,by decide⟩
 refine bdE hr fun q7 hqq7 hr=>?_
 obtain⟨s1,s2,s3,s4,s5,s6,s7⟩:=q7
 refine q0n hqq7 4 (fun k1 (s1,s2,s3,s4,s5,s6,s7)=>[(2,.pb 1 0),(3,.pb 3 0),(4,dI (k1:Int))]) (fun k1 (s1,s2,s3,s4,s5,s6,s7)=>[(2,.row .fz 7 (s1.map Expr.D)),(3,.box [dI s2,dI s3,dI s4,dI s5,dS s6,dS s7,.ref 2 none])]) I (fun k1 sk1 ok1 hr hltk1=>?_) ?_
 obtain⟨s1,s2,s3,s4,s5,s6,s7⟩:=sk1
 unfold j0I at hr
 dsimp only at hr
 refine J (gn 13) ?_
 refine J (q0p 2 rfl)<|bdE hr fun y7 hy7 hr=>J (CB' [(0,4)] [] (z5w (m:=.fz) hy7))<|J g<|E
 exact e
 exact e
theorem k2f {o0:L1_}{r:(Rule×L1_)}(hr:z7I o0=some r):Okp 122 [.pb 0 0] [cuB o0.b o0.i o0.h] (.ag [dS r.1.Name,dS r.1.Left,.ref 1 none,dB r.1.ll_,.ref 2 none,.ref 3 none]) [cuB o0.b r.2.i r.2.h,.row .fz 1 (r.1.rt_.map A.D.s),.row .fz 9 (r.1.es_.map Eqn.D),.row .fz 16 (r.1.cs_.map Cn.D)]:=by
 refine OE Tryz.func122 fun S hS=>?_
 unfold z7I at hr
 refine J g<|J (NV' 1)<|bdP hr fun y1 z1 hq1 hr=>J g<|J (CB' [(0,0),(1,2),(2,3),(3,4)] [] (k2d hq1))<|J (NV' 5)<|bdP hr fun y2 z2 hq2 hr=>J g<|J (CB' [(0,0)] [] (q3Q hq2))<|fE 7 hr ?_ ?_<;>intro h1 hr
 refine J g<|J (LIR' 6 (m:=.fz) (f:=A.D.s) (xs:=[(⟨#[105,102]⟩:BA_),(⟨#[]⟩:BA_),(⟨#[111,102]⟩:BA_)]))<|bdP hr fun y3 z3 hq3 hr=>J (CB' [(0,0)] [6] (q9i (m:=.bo) hq3))<|e
 refine fE 6 hr ?_ ?_<;>intro h2 hr
 refine J g<|J (LIR' 6 (m:=.fz) (f:=A.D.s) (xs:=[(⟨#[115]⟩:BA_),(⟨#[115]⟩:BA_)]))<|ggE hr fun g1 hr=>J (j7T (f:=A.D.s) 7 16 (fun _=>rfl) g1)<|e
 refine fE 6 hr ?_ ?_<;>intro h3 hr
 refine bdP hr fun y4 z4 hq4 hr=>J g<|J (CB' [(0,0)] [] (q3Q hq4))<|ggE hr fun g2 hr=>bdP hr fun y5 z5 hq5 hr=>J g<|J (CBz' 6 [(0,0),(1,6)] [] (k2e hq5))<|J g<|J (LIR' 7 (m:=.fz) (f:=Eqn.D) (xs:=[(⟨(⟨(y4-1),(⟨#[97]⟩:BA_)⟩:Oc),y5⟩:Eqn)]))<|ggE hr fun g3 hr=>J (AP1' 8 .fz 112 g3)<|e
 refine fE 6 hr ?_ ?_<;>intro h4 hr
 exact e
 refine fE 6 hr ?_ ?_<;>intro h5 hr
 refine ggE hr fun g4 hr=>bdP hr fun y6 z6 hq6 hr=>J g<|J (CB' [(0,0)] [] (q3Q hq6))<|ggE hr fun g5 hr=>ggE hr fun g6 hr=>J (CU' 6 g5 g6)<|e
 exact e
theorem k2g {o0:L1_}{r:(Symbol×L1_)}(hr:z7J o0=some r):Okp 123 [.pb 0 0] [cuB o0.b o0.i o0.h] (.ag [dS r.1.Name,.ref 1 none]) [cuB o0.b r.2.i r.2.h,.row .fz 4 (r.1.as_.map At_.D)]:=by
 refine OE Tryz.func123 fun S hS=>?_
 unfold z7J at hr
 refine J g<|J (NV' 1)<|J g<|J (LIR' 2 (m:=.fz) (f:=A.D.s) (xs:=[(⟨#[115]⟩:BA_),(⟨#[116]⟩:BA_),(⟨#[105,102]⟩:BA_),(⟨#[108,105,115,116,49]⟩:BA_)]))<|bdP hr fun y1 z1 hq1 hr=>J (CB' [(0,0)] [2] (q9i (m:=.bo) hq1))<|bdP hr fun y2 z2 hq2 hr=>J (CB' [(0,0),(1,3)] [] (j5f hq2))<|J (NV' 4)<|bdP hr fun y3 z3 hq3 hr=>J g<|J (CB' [(0,0)] [] (q3Q hq3))<|fE 7 hr ?_ ?_<;>intro h1 hr
 refine bdE hr fun x1 hx1 hr=>J g<|J (SE' (⟨x1.Name,x1.t__,x1.Mode,true⟩:At_) hx1)<|e
 refine fE 6 hr ?_ ?_<;>intro h2 hr
 refine bdP hr fun y4 z4 hq4 hr=>J g<|J (CB' [(0,0)] [] (q3Q hq4))<|bdE hr fun x2 hx2 hr=>J g<|J (SE' (⟨x2.Name,x2.t__,y4,x2.Circular⟩:At_) hx2)<|e
 refine fE 6 hr ?_ ?_<;>intro h3 hr
 refine bdP hr fun y5 z5 hq5 hr=>J g<|J (CB' [(0,0)] [] (q3Q hq5))<|bdE hr fun x3 hx3 hr=>J g<|J (SE' (⟨x3.Name,y5,x3.Mode,x3.Circular⟩:At_) hx3)<|e
 refine fE 6 hr ?_ ?_<;>intro h4 hr
 refine J g<|J (LIR' 5 (m:=.fz) (f:=A.D.s) (xs:=[(⟨#[98]⟩:BA_),(⟨#[111,102]⟩:BA_),(⟨#[]⟩:BA_)]))<|bdP hr fun y6 z6 hq6 hr=>J (CB' [(0,0)] [5] (q9i (m:=.bo) hq6))<|bdE hr fun x4 hx4 hr=>J g<|J (SE' (⟨y6,x4.t__,x4.Mode,x4.Circular⟩:At_) hx4)<|e
 refine fE 6 hr ?_ ?_<;>intro h5 hr
 refine bdE hr fun s1 hqq7 hr=>J (gn 1)<|q0e 5 [(2,.pb 1 0),(3,.pb 4 0)] [(3,.row .fz 4 (s1.map At_.D))] ?_ ?_
 refine J g<|q0i hqq7 5 (fun s2=>[(2,.pb 1 0),(3,.pb 4 0)]) (fun s2=>[(3,.row .fz 4 (s2.map At_.D))]) I fun sk1 ok1 hr hik1=>?_
 obtain⟨s2,rfl⟩:∃ y,y=sk1:=⟨_,rfl⟩
 have hr:=hr
 refine fE 8 hr ?_ ?_<;>intro h6 hr
 refine J g<|J (LIR' 5 (m:=.fz) (f:=A.D.s) (xs:=[(⟨#[101]⟩:BA_),(⟨#[102]⟩:BA_),(⟨#[103]⟩:BA_),(⟨#[104]⟩:BA_),(⟨#[105]⟩:BA_)]))<|bdE hr fun x5 hx5 hr=>J g<|J (LIR' 6 (m:=.fz) (f:=At_.D) (xs:=[(⟨x5,1,2,false⟩:At_)]))<|ggE hr fun g1 hr=>J (z1p (f:=At_.D) 7 (fun _=>rfl) 40 g1)<|e
 refine J (gn 2) ?_
 cases hr
 cases hik1 _ rfl
 exact q0g hS 5
 exact e
 exact e
theorem j9y {o0:L1_}{r:(Gm_×L1_)}(hr:z5X o0=some r):Okp 77 [.pb 0 0] [cuB o0.b o0.i o0.h] (.ag [.ref 1 none,rw5 .fz r.1.rs_]) [cuB o0.b r.2.i r.2.h,.deep .fz 2 (r.1.ss_.map Symbol.O) []]:=by
 refine OE Tryz.func77 fun S hS=>?_
 unfold z5X at hr
 refine J g<|J (NV' 1)<|bdP hr fun y1 z1 hq1 hr=>J g<|J (CB' [(0,0)] [] (q5X hq1))<|bdP hr fun y2 z2 hq2 hr=>J (CB' [(0,0),(1,2),(2,3)] [] (j3j hq2))<|J (NV' 4)<|J g<|J (LEd' y2.rs_.length)<|bdP hr fun y3 z3 hq3 hr=>J (CB' [(0,0)] [] (q3Q hq3))<|bdP hr fun y4 z4 hq4 hr=>J g<|J (CB' [(0,0)] [] (q3Q hq4))<|fE 7 hr ?_ ?_<;>intro h1 hr
 refine bdP hr fun y5 z5 hq5 hr=>J g<|J (CB' [(0,0),(1,5),(2,6),(3,7)] [] (k2f hq5))<|ggE hr fun g1 hr=>bdE hr fun x1 hx1 hr=>J (IEd' g1 (q4H hx1))<|J (SD' [.d .fz (.s y5.Name),.d .fz (.s y5.Left),.o .fz 1 (y5.rt_.map A.D.s),.d .fz (.b y5.ll_),.o .fz 9 (y5.es_.map Eqn.D),.o .fz 16 (y5.cs_.map Cn.D)] [5,6,7] (q4H hx1))<|J (gn 7) ?_
 refine J (q0c (q0x 3 (he:=eset (f:=Rule.O) (x':=y5) (by first|rfl|(simp only[Ebz];rfl))))) ?_
 refine J (q0c (q0y 3 Rule.D (by exact fun _=>rfl) rfl))<|J g<|E
 refine fE 6 hr ?_ ?_<;>intro h2 hr
 refine bdP hr fun y6 z6 hq6 hr=>J g<|J (CB' [(0,0),(1,5)] [] (k2g hq6))<|bdE hr fun x2 hx2 hr=>J (IEd' (Eaz _) (q4H hx2))<|J (SD' [.d .fz (.s y6.Name),.o .fz 4 (y6.as_.map At_.D)] [5] (q4H hx2))<|J (gn 7) ?_
 refine J (q0c (q0x 2 (he:=eset (f:=Symbol.O) (x':=y6) (by first|rfl|(simp only[Ebz];rfl))))) ?_
 refine J (q0c (q0y 3 Rule.D (by exact fun _=>rfl) rfl))<|J g<|E
 refine fE 6 hr ?_ ?_<;>intro h3 hr
 refine bdE hr fun x3 hx3 hr=>J g<|J (IEd' (Eaz _) (q4H hx3))<|J g<|J (LPd' [] (q4H hx3))<|ggE hr fun g2 hr=>bdE hr fun x4 hx4 hr=>J (IEd' g2 (q4H hx4))<|J g<|J (SD' [.d .fz (.s x3.Name)] [] (q4H hx4))<|J (gn 7) ?_
 refine J (q0c (q0x 3 (he:=eset (f:=Rule.O) (x':=(⟨x3.Name,x4.Left,x4.rt_,x4.ll_,x4.es_,x4.cs_⟩:Rule)) (by first|rfl|(simp only[Ebz];rfl))))) ?_
 refine J (q0c (q0y 3 Rule.D (by exact fun _=>rfl) rfl))<|J g<|E
 refine fE 6 hr ?_ ?_<;>intro h4 hr
 refine ggE hr fun g3 hr=>bdE hr fun x5 hx5 hr=>J g<|J (IEd' g3 (q4H hx5))<|J (gn 1)<|J (q1b 3 y3.toNat 4 5 (q4H hx5))<|J (LPd' [(4,5)] (q4k (q4H hx5)))<|fE 3 hr ?_ ?_<;>intro h5 hr
 refine J g<|J (IEd' g3 (q4k (q4H hx5)))<|J g<|J (LPd' [(4,5)] (q4k (q4H hx5)))<|ggE hr fun g4 hr=>J (SVL' (xs:=x5.es_) (a:=1) (by decide) g4)<|J (IEd' g3 (q4k (q4H hx5)))<|J (gn 1) ?_
 refine J (q0p 5 rfl)<|J (q3i 62 (.d .fz (.sl 9 ((x5.es_.drop 1).map Eqn.D))) (congrArg (fun l=>X.d .fz (.sl 9 l)) k8b))<|J (SD' [.d .fz (.sl 9 ((x5.es_.drop 1).map Eqn.D))] [] (q4k (q4H hx5)))<|J (q2l (f:=Rule.O) 3 Rule.D (⟨x5.Name,x5.Left,x5.rt_,x5.ll_,(x5.es_.drop 1),x5.cs_⟩:Rule) (by exact fun _=>rfl) hx5)<|J g<|E
 refine J (gn 8)<|J (q0c (q0J 3 y3.toNat 4 5 (q4k (q4H hx5)))) ?_
 refine J (q0c (q0x 3 (he:=k8a (f:=Rule.O) hx5 (by first|rfl|(simp only[Ebz];rfl))))) ?_
 refine J (q0c (q0y 3 Rule.D (by exact fun _=>rfl) rfl))<|J g<|E
 refine fE 6 hr ?_ ?_<;>intro h6 hr
 refine ggE hr fun g5 hr=>bdE hr fun x6 hx6 hr=>J g<|J (IEd' g5 (q4H hx6))<|J (gn 1)<|J (q1b 3 y3.toNat 4 5 (q4H hx6))<|J (LPd' [(4,5)] (q4k (q4H hx6)))<|fE 3 hr ?_ ?_<;>intro h7 hr
 refine J g<|J (IEd' g5 (q4k (q4H hx6)))<|J g<|J (LPd' [(4,5)] (q4k (q4H hx6)))<|J g<|J (IEd' g5 (q4k (q4H hx6)))<|J g<|J (LPd' [(4,5)] (q4k (q4H hx6)))<|bdE hr fun x7 hx7 hr=>J g<|J (LIR' 6 (m:=.fz) (f:=Eqn.D) (xs:=[x7]))<|ggE hr fun g6 hr=>J (AP1' 7 .fz 112 g6)<|J (IEd' g5 (q4k (q4H hx6)))<|J g<|J (SD' [.o .fz 9 ((x6.es_++[x7]).map Eqn.D)] [7] (q4k (q4H hx6)))<|J (gn 7) ?_
 refine J (q0c (q0x 3 (he:=eset (f:=Rule.O) (x':=(⟨x6.Name,x6.Left,x6.rt_,x6.ll_,(x6.es_++[x7]),x6.cs_⟩:Rule)) (by first|rfl|(simp only[Ebz];rfl))))) ?_
 refine J (q0c (q0y 3 Rule.D (by exact fun _=>rfl) rfl))<|J g<|E
 refine J (gn 8)<|J (q0c (q0J 3 y3.toNat 4 5 (q4k (q4H hx6)))) ?_
 refine J (q0c (q0x 3 (he:=k8a (f:=Rule.O) hx6 (by first|rfl|(simp only[Ebz];rfl))))) ?_
 refine J (q0c (q0y 3 Rule.D (by exact fun _=>rfl) rfl))<|J g<|E
 refine fE 6 hr ?_ ?_<;>intro h8 hr
 refine J g<|J (LIR' 5 (m:=.fz) (f:=A.D.s) (xs:=[(⟨#[115]⟩:BA_),(⟨#[122]⟩:BA_)]))<|bdP hr fun y7 z7 hq7 hr=>J (CB' [(0,0)] [5] (q9i (m:=.bo) hq7))<|ggE hr fun g7 hr=>bdE hr fun x8 hx8 hr=>J (IEd' g7 (q4H hx8))<|J g<|J (SD' [.d .fz (.s y7)] [] (q4H hx8))<|J (gn 7) ?_
 refine J (q0c (q0x 3 (he:=eset (f:=Rule.O) (x':=(⟨x8.Name,y7,x8.rt_,x8.ll_,x8.es_,x8.cs_⟩:Rule)) (by first|rfl|(simp only[Ebz];rfl))))) ?_
 refine J (q0c (q0y 3 Rule.D (by exact fun _=>rfl) rfl))<|J g<|E
 refine fE 6 hr ?_ ?_<;>intro h9 hr
 refine ggE hr fun g8 hr=>bdE hr fun x9 hx9 hr=>J g<|J (IEd' g8 (q4H hx9))<|J (gn 1)<|J (q1b 3 y3.toNat 4 5 (q4H hx9))<|J (LPd' [(4,5)] (q4k (q4H hx9)))<|fE 3 hr ?_ ?_<;>intro h10 hr
 refine J g<|J (IEd' g8 (q4k (q4H hx9)))<|J g<|J (LPd' [(4,5)] (q4k (q4H hx9)))<|bdP hr fun y8 z8 hq8 hr=>J g<|J (CBz' 6 [(0,0),(1,6)] [] (j5h hq8))<|bdE hr fun x10 hx10 hr=>J g<|J (SE' (⟨x10.At,y8⟩:Eqn) hx10)<|J (gn 7)<|J (q0c (q0J 3 y3.toNat 4 5 (q4k (q4H hx9)))) ?_
 refine J (q0c (q0x 3 (he:=eset (f:=Rule.O) (x':=(⟨x9.Name,x9.Left,x9.rt_,x9.ll_,(List.set x9.es_ 0 (⟨x10.At,y8⟩:Eqn)),x9.cs_⟩:Rule)) (by first|rfl|(simp only[Ebz];rfl))))) ?_
 refine J (q0c (q0y 3 Rule.D (by exact fun _=>rfl) rfl))<|J g<|E
 refine J (gn 8)<|J (q0c (q0J 3 y3.toNat 4 5 (q4k (q4H hx9)))) ?_
 refine J (q0c (q0x 3 (he:=k8a (f:=Rule.O) hx9 (by first|rfl|(simp only[Ebz];rfl))))) ?_
 refine J (q0c (q0y 3 Rule.D (by exact fun _=>rfl) rfl))<|J g<|E
 refine J (gn 8) ?_
 refine J (q0c (q0y 3 Rule.D (by exact fun _=>rfl) rfl))<|J g<|E
theorem j0K {a0:List UInt8}{r:Gm_}(hr:z1h a0=some r):Okp 40 [rw0 .fz a0] [] (.ag [.ref 0 none,rw5 .fz r.rs_]) [.deep .fz 2 (r.ss_.map Symbol.O) []]:=by
 refine OE Tryz.func40 fun S hS=>?_
 unfold z1h at hr
 refine J g<|J (NV' 0)<|bdE hr fun y1 hy1 hr=>J g<|J (CB' [(0,1)] [] (k3z hy1))<|bdP hr fun y2 z1 hq1 hr=>J g<|J (CB' [(0,1)] [] (q5X hq1))<|fE 1 hr ?_ ?_<;>intro h1 hr
 refine bdP hr fun y3 z2 hq2 hr=>J g<|J (CB' [(0,1),(1,2)] [] (j9y hq2))<|e
 refine bdP hr fun y4 z3 hq3 hr=>J g<|J (CB' [(0,1),(1,2),(2,3)] [] (j3j hq3))<|J (gn 3) ?_
 refine J (q0c (q0y 3 Rule.D (by exact fun _=>rfl) rfl))<|J g<|E
theorem j0L {a0:List UInt8}{r:Gm_}(hr:q9I a0=some r):Okp 12 [rw0 .fz a0] [] (.ag [.ref 0 none,rw5 .fz r.rs_]) [.deep .fz 2 (r.ss_.map Symbol.O) []]:=by
 refine OE Tryz.func12 fun S hS=>?_
 unfold q9I at hr
 refine J g<|J (NV' 0)<|bdE hr fun y1 hy1 hr=>J g<|J (CB' [(0,1)] [] (j0K hy1))<|e
theorem j4t {Rc14:Expr→Option Bool}(Ic14:∀ {m:Md} {a0:Expr} {r:Bool},Rc14 a0=some r→Okp 108 [Expr.x m a0] [] (dB r) []){m:Md}{a0:Expr}{r:Bool}(hr:z3D Rc14 a0=some r):Okp 108 [Expr.x m a0] [] (dB r) []:=by
 refine OE Tryz.func108 fun S hS=>?_
 unfold z3D at hr
 refine J g<|J (BX' 0)<|J (gn 8)<|J (lenA 6 0)<|fun hl1=>bdE hr fun q1 hqq1 hr=>q0b hqq1 hl1 1 (fun k1 _=>[(1,.pb 0 0),(3,dI (k1:Int))]) (fun k1 _=>[]) I (fun k1 xk1 sk1 ok1 hxk1 hr hltk1 hik1=>?_) fun k1 sk1 ek1 hltk1=>?_
 refine bdE hr fun y1 hy1 hr=>J g<|J (CB' [] [] (Ic14 (m:=m) hy1))<|fE 1 hr ?_ ?_<;>intro h1 hr
 exact e
 exact e
 subst ek1
 exact e
theorem j4u (n:Nat):∀ {m:Md} {a0:Expr} {r:Bool},z3E n a0=some r→Okp 108 [Expr.x m a0] [] (dB r) []:=by
  induction n with
  | zero=>intro _ _ r hr;exact nomatch (show (none:Option Bool)=some r from hr)
  | succ n ih=>intro _ _ r hr;exact j4t ih hr
theorem j6i {m:Md}{a0:Expr}{r:Bool}(hr:z7V a0=some r):Okp 108 [Expr.x m a0] [] (dB r) []:=by
 obtain⟨n,hn⟩:=q6S hr
 exact j4u n hn
theorem j6j {m:Md}{a0:Rule}{r:Bool}(hr:z3F a0=some r):Okp 58 [Rule.x m a0] [] (dB r) []:=by
 refine OE Tryz.func58 fun S hS=>?_
 unfold z3F at hr
 refine J g<|J (BX' 0)<|J (gn 8)<|J (lenA 4 0)<|fun hl1=>bdE hr fun q1 hqq1 hr=>q0b hqq1 hl1 1 (fun k1 _=>[(1,.pb 0 0),(3,dI (k1:Int))]) (fun k1 _=>[]) I (fun k1 xk1 sk1 ok1 hxk1 hr hltk1 hik1=>?_) fun k1 sk1 ek1 hltk1=>?_
 refine bdE hr fun y1 hy1 hr=>J g<|J (CB' [] [] (j6i (m:=m) hy1))<|fE 1 hr ?_ ?_<;>intro h1 hr
 exact e
 exact e
 subst ek1
 exact e
theorem z8K {a0:At_}{r:Bool}(hr:q8s a0=some r):Okp 263 [At_.x .fz a0] [] (dB r) []:=by
 refine OE Tryz.func263 fun S hS=>?_
 unfold q8s at hr
 refine J g<|J (BX' 0)<|bdE hr fun y1 hy1 hr=>J g<|J (CB' [] [] (q6b hy1))<|bdE hr fun s1 hqq1 hr=>J (gn 1)<|q0a 6 [(1,.pb 0 0),(12,dB s1)] ?_ ?_
 replace hr:=hqq1
 refine ifE hr ?_ ?_<;>intro h1 hr
 refine bdE hr fun y2 hy2 hr=>J g<|J (CB' [] [] (q6m hy2))<|e
 exact e
 refine bdE hr fun s2 hqq2 hr=>q0a 6 [(1,.pb 0 0),(18,dB s2)] ?_ ?_
 replace hr:=hqq2
 refine ifE hr ?_ ?_<;>intro h2 hr
 exact e
 refine bdE hr fun y3 hy3 hr=>J g<|J (CB' [] [] (q6m hy3))<|e
 refine fE 1 hr ?_ ?_<;>intro h3 hr
 exact e
 refine bdE hr fun s3 hqq3 hr=>J (gn 8)<|q0a 9 [(1,.pb 0 0),(30,dB s3)] ?_ ?_
 replace hr:=hqq3
 refine ifE hr ?_ ?_<;>intro h4 hr
 refine bdE hr fun s4 hqq4 hr=>J (gn 4)<|q0a 4 [(1,.pb 0 0),(22,dB true),(29,dB s4)] ?_ ?_
 replace hr:=hqq4
 refine ifE hr ?_ ?_<;>intro h5 hr
 exact e
 exact e
 exact e
 exact e
 refine fE 1 hr ?_ ?_<;>intro h6 hr
 exact e
 refine bdE hr fun s5 hqq5 hr=>J (gn 7)<|q0a 5 [(38,dB s5)] ?_ ?_
 replace hr:=hqq5
 refine ifE hr ?_ ?_<;>intro h7 hr
 exact e
 exact e
 exact e
theorem j3k {m:Md}{a0:List BA_}{r:Bool}(hr:z1c a0=some r):Okp 264 [rw2 m a0] [] (dB r) []:=by
 refine OE Tryz.func264 fun S hS=>?_
 unfold z1c at hr
 refine J (gn 10)<|J (lenT 0)<|fun hl1=>bdE hr fun q1 hqq1 hr=>q0b hqq1 hl1 0 (fun k1 _=>[(0,rw2 m a0),(3,dI (k1:Int))]) (fun k1 _=>[]) I (fun k1 xk1 sk1 ok1 hxk1 hr hltk1 hik1=>?_) fun k1 sk1 ek1 hltk1=>?_
 refine ggE hr fun g1 hr=>J g<|J (SLH' (Eaz _) g1)<|bdE hr fun y1 hy1 hr=>J g<|J (CB' [] [] (j0d (m:=m) hy1))<|fE 1 hr ?_ ?_<;>intro h1 hr
 exact e
 exact e
 subst ek1
 exact e
theorem j0M {m:Md}{a0:Symbol}{r:Bool}(hr:q9M a0=some r):Okp 231 [Symbol.x m a0] [] (dB r) []:=by
 refine OE Tryz.func231 fun S hS=>?_
 unfold q9M at hr
 refine J g<|J (BX' 0)<|J g<|J (L0' 1 A.D.s)<|J (gn 8)<|J (lenA 1 0)<|fun hl1=>bdE hr fun q1 hqq1 hr=>q0b hqq1 hl1 2 (fun k1 s1=>[(1,.pb 0 0),(3,.ref 1 none),(4,dI (k1:Int))]) (fun k1 s1=>[(1,.row .fz 1 (s1.map A.D.s))]) I (fun k1 xk1 sk1 ok1 hxk1 hr hltk1 hik1=>?_) fun k1 sk1 ek1 hltk1=>?_
 obtain⟨s1,rfl⟩:∃ y,y=sk1:=⟨_,rfl⟩
 refine bdE hr fun y1 hy1 hr=>J g<|J (CB' [] [] (z8K hy1))<|fE 2 hr ?_ ?_<;>intro h1 hr
 refine J g<|J (LIR' 2 (m:=.fz) (f:=A.D.s) (xs:=[xk1.Name]))<|ggE hr fun g1 hr=>J (z1p (f:=A.D.s) 3 (fun _=>rfl) 16 g1)<|e
 exact e
 subst ek1
 obtain⟨s1,rfl⟩:∃ y,y=sk1:=⟨_,rfl⟩
 refine bdE hr fun y2 hy2 hr=>J g<|J (CB' [] [] (q6b hy2))<|bdE hr fun s2 hqq2 hr=>q0a 5 [(3,.ref 1 none),(36,dB s2)] ?_ ?_
 replace hr:=hqq2
 refine ifE hr ?_ ?_<;>intro h2 hr
 exact e
 exact e
 refine bdE hr fun s3 hqq3 hr=>q0a 4 [(40,dB s3)] ?_ ?_
 replace hr:=hqq3
 refine ifE hr ?_ ?_<;>intro h3 hr
 refine bdE hr fun y3 hy3 hr=>J g<|J (CB' [] [1] (j3k (m:=.bo) hy3))<|e
 exact e
 exact e
theorem j3l {m:Md}{a0:Rule}{r:Bool}(hr:z1d a0=some r):Okp 233 [Rule.x m a0] [] (dB r) []:=by
 refine OE Tryz.func233 fun S hS=>?_
 unfold z1d at hr
 refine J g<|J (BX' 0)<|bdE hr fun y1 hy1 hr=>J g<|J (CB' [] [] (q6b hy1))<|bdE hr fun s1 hqq1 hr=>J (gn 1)<|q0a 6 [(1,.pb 0 0),(3,dI (a0.rt_.length:Int)),(21,dB s1)] ?_ ?_
 replace hr:=hqq1
 refine ifE hr ?_ ?_<;>intro h1 hr
 refine bdE hr fun y2 hy2 hr=>J g<|J (CB' [] [] (q6b hy2))<|e
 exact e
 refine bdE hr fun s2 hqq2 hr=>q0a 4 [(1,.pb 0 0),(3,dI (a0.rt_.length:Int)),(25,dB s2)] ?_ ?_
 replace hr:=hqq2
 refine ifE hr ?_ ?_<;>intro h2 hr
 exact e
 exact e
 refine bdE hr fun s3 hqq3 hr=>q0a 6 [(1,.pb 0 0),(3,dI (a0.rt_.length:Int)),(31,dB s3)] ?_ ?_
 replace hr:=hqq3
 refine ifE hr ?_ ?_<;>intro h3 hr
 exact e
 exact e
 refine fE 1 hr ?_ ?_<;>intro h4 hr
 exact e
 refine J (gn 8) ?_
 refine AW.len (.box 0 2 rfl rfl) fun hl1=>?_
 refine bdE hr fun q4 hqq4 hr=>q0b hqq4 hl1 1 (fun k1 _=>[(1,.pb 0 0),(3,dI (a0.rt_.length:Int)),(4,dI (k1:Int))]) (fun k1 _=>[]) I (fun k1 xk1 sk1 ok1 hxk1 hr hltk1 hik1=>?_) fun k1 sk1 ek1 hltk1=>?_
 refine bdE hr fun y3 hy3 hr=>J g<|J (CB' [] [] (q6b hy3))<|fE 2 hr ?_ ?_<;>intro h5 hr
 exact e
 exact e
 subst ek1
 refine J (gn 15) ?_
 refine AW.len (.box 0 4 rfl rfl) fun hl2=>?_
 refine bdE hr fun q5 hqq5 hr=>q0b hqq5 hl2 1 (fun k2 _=>[(1,.pb 0 0),(3,dI (a0.rt_.length:Int)),(5,dI (k2:Int))]) (fun k2 _=>[]) I (fun k2 xk2 sk2 ok2 hxk2 hr hltk2 hik2=>?_) fun k2 sk2 ek2 hltk2=>?_
 refine J g<|J (NV' 1)<|bdE hr fun y4 hy4 hr=>J g<|J (CB' [] [] (q6b hy4))<|bdE hr fun s4 hqq6 hr=>J (gn 1)<|q0a 8 [(1,.pb 0 0),(3,dI (a0.rt_.length:Int)),(5,dI (k2:Int)),(6,.pb 1 0),(68,dB s4)] ?_ ?_
 replace hr:=hqq6
 refine ifE hr ?_ ?_<;>intro h6 hr
 refine bdE hr fun y5 hy5 hr=>J g<|J (CB' [] [] (q6m hy5))<|e
 exact e
 refine bdE hr fun s5 hqq7 hr=>q0a 7 [(1,.pb 0 0),(3,dI (a0.rt_.length:Int)),(5,dI (k2:Int)),(75,dB s5)] ?_ ?_
 replace hr:=hqq7
 refine ifE hr ?_ ?_<;>intro h7 hr
 exact e
 refine bdE hr fun y6 hy6 hr=>J g<|J (CB' [] [] (z8F (m:=m) hy6))<|e
 refine fE 1 hr ?_ ?_<;>intro h8 hr
 exact e
 exact e
 subst ek2
 refine J (gn 17) ?_
 refine AW.len (.box 0 5 rfl rfl) fun hl3=>?_
 refine bdE hr fun q8 hqq8 hr=>q0b hqq8 hl3 1 (fun k3 _=>[(1,.pb 0 0),(3,dI (a0.rt_.length:Int)),(7,dI (k3:Int))]) (fun k3 _=>[]) I (fun k3 xk3 sk3 ok3 hxk3 hr hltk3 hik3=>?_) fun k3 sk3 ek3 hltk3=>?_
 refine J g<|J (NV' 1)<|bdE hr fun y7 hy7 hr=>J g<|J (CB' [] [] (q6b hy7))<|bdE hr fun s6 hqq9 hr=>J (gn 1)<|q0a 6 [(1,.pb 0 0),(3,dI (a0.rt_.length:Int)),(7,dI (k3:Int)),(8,.pb 1 0),(97,dB s6)] ?_ ?_
 replace hr:=hqq9
 refine ifE hr ?_ ?_<;>intro h9 hr
 refine bdE hr fun y8 hy8 hr=>J g<|J (CB' [] [] (q6b hy8))<|e
 exact e
 refine bdE hr fun s7 hqq10 hr=>q0a 7 [(1,.pb 0 0),(3,dI (a0.rt_.length:Int)),(7,dI (k3:Int)),(8,.pb 1 0),(104,dB s7)] ?_ ?_
 replace hr:=hqq10
 refine ifE hr ?_ ?_<;>intro h10 hr
 exact e
 refine bdE hr fun y9 hy9 hr=>J g<|J (CB' [] [] (z8F (m:=m) hy9))<|e
 refine bdE hr fun s8 hqq11 hr=>q0a 7 [(1,.pb 0 0),(3,dI (a0.rt_.length:Int)),(7,dI (k3:Int)),(111,dB s8)] ?_ ?_
 replace hr:=hqq11
 refine ifE hr ?_ ?_<;>intro h11 hr
 exact e
 refine bdE hr fun y10 hy10 hr=>J g<|J (CB' [] [] (z8F (m:=m) hy10))<|e
 refine fE 1 hr ?_ ?_<;>intro h12 hr
 exact e
 exact e
 subst ek3
 exact e
theorem k2h {m:Md}{a0:Gm_}{r:Int}(hr:z7Z a0=some r):Okp 203 [Gm_.x m a0] [] (dI r) []:=by
 refine OE Tryz.func203 fun S hS=>?_
 unfold z7Z at hr
 refine J g<|J (BX' 0)<|J g<|J (L0' 1 A.D.s)<|J (gn 8)<|J (lenA 0 0)<|fun hl1=>bdE hr fun q1 hqq1 hr=>q0b hqq1 hl1 2 (fun k1 s1=>[(1,.pb 0 0),(3,.ref 1 none),(4,dI (k1:Int))]) (fun k1 s1=>[(1,.row .fz 1 (s1.map A.D.s))]) I (fun k1 xk1 sk1 ok1 hxk1 hr hltk1 hik1=>?_) fun k1 sk1 ek1 hltk1=>?_
 obtain⟨s1,rfl⟩:∃ y,y=sk1:=⟨_,rfl⟩
 refine bdE hr fun y1 hy1 hr=>J g<|J (CB' [] [] (j0M (m:=m) hy1))<|fE 1 hr ?_ ?_<;>intro h1 hr
 refine bdE hr fun y2 hy2 hr=>J g<|J (CB' [] [1] (j0d (m:=.bo) hy2))<|fE 2 hr ?_ ?_<;>intro h2 hr
 exact e
 refine J g<|J (LIR' 2 (m:=.fz) (f:=A.D.s) (xs:=[xk1.Name]))<|ggE hr fun g1 hr=>J (z1p (f:=A.D.s) 3 (fun _=>rfl) 16 g1)<|e
 exact e
 subst ek1
 obtain⟨s1,rfl⟩:∃ y,y=sk1:=⟨_,rfl⟩
 refine J g<|J (L0' 2 A.D.s)<|J (gn 8) ?_
 refine AW.len (.box 0 1 rfl rfl) fun hl2=>?_
 refine bdE hr fun q2 hqq2 hr=>q0b hqq2 hl2 3 (fun k2 s2=>[(1,.pb 0 0),(3,.ref 2 none),(5,dI (k2:Int))]) (fun k2 s2=>[(2,.row .fz 1 (s2.map A.D.s))]) I (fun k2 xk2 sk2 ok2 hxk2 hr hltk2 hik2=>?_) fun k2 sk2 ek2 hltk2=>?_
 obtain⟨s2,rfl⟩:∃ y,y=sk2:=⟨_,rfl⟩
 refine bdE hr fun y3 hy3 hr=>J g<|J (CB' [] [] (j3l (m:=m) hy3))<|fE 1 hr ?_ ?_<;>intro h3 hr
 refine bdE hr fun y4 hy4 hr=>J g<|J (CB' [] [2] (j0d (m:=.bo) hy4))<|fE 2 hr ?_ ?_<;>intro h4 hr
 exact e
 refine J g<|J (LIR' 3 (m:=.fz) (f:=A.D.s) (xs:=[xk2.Name]))<|ggE hr fun g2 hr=>J (z1p (f:=A.D.s) 4 (fun _=>rfl) 16 g2)<|e
 exact e
 subst ek2
 obtain⟨s2,rfl⟩:∃ y,y=sk2:=⟨_,rfl⟩
 exact e
theorem j4v {m:Md}{a0:Gm_}{a1:Rule}{r:Bool}(hr:z2k a0 a1=some r):Okp 234 [Gm_.y m a0,Rule.x m a1] [] (dB r) []:=by
 refine OE Tryz.func234 fun S hS=>?_
 unfold z2k at hr
 refine J g<|J (BX' 0)<|J (BX' 1)<|bdE hr fun q1 hqq1 hr=>J (gn 7)<|AW.cut 2 (fun _=>[]) (fun _=>[]) (M:=fun x=>q1=.inl x) ?_ fun x hx=>?_
 refine J g<|q0i hqq1 2 (fun s1=>[(2,.pb 0 0),(3,.pb 1 0),(5,dI s1)]) (fun s1=>[]) I fun sk1 ok1 hr hik1=>?_
 obtain⟨s1,rfl⟩:∃ y,y=sk1:=⟨_,rfl⟩
 have hr:=hr
 refine fE 9 hr ?_ ?_<;>intro h1 hr
 refine bdE hr fun y1 hy1 hr=>J g<|J (CB' [] [] (q7X (m:=m) hy1))<|bdP hr fun y2 y3 hq2 hr=>J (CB' [(0,2)] [] (q7Y (m:=m) hq2))<|J g<|J (NV' 3)<|fE 8 hr ?_ ?_<;>intro h2 hr
 refine ggE hr fun g1 hr=>e
 exact e
 refine J (gn 2) ?_
 cases hr
 cases hik1 _ rfl
 exact⟨_,rfl,GH.trans (q0E (q:=0) [rw3 m a0.ss_,.u] (.cons .rfl (.cons .u .nil)) rfl) (q0g hS 2)⟩
 subst hx
 exact e
theorem j9z {Rc15:Expr→Option Expr}(Ic15:∀ {m:Md} {a0 r:Expr},Rc15 a0=some r→Okp 171 [Expr.x m a0] [] (.ag [dI r.Kind,dI r.N,dI r.Pos,dI r.t__,dS r.Symbol,dS r.Name,.ref 0 none]) [.row .fz 7 (r.Args.map Expr.D)]){m:Md}{a0 r:Expr}(hr:z2l Rc15 a0=some r):Okp 171 [Expr.x m a0] [] (.ag [dI r.Kind,dI r.N,dI r.Pos,dI r.t__,dS r.Symbol,dS r.Name,.ref 0 none]) [.row .fz 7 (r.Args.map Expr.D)]:=by
 refine OE Tryz.func171 fun S hS=>?_
 unfold z2l at hr
 refine J g<|J (BX' 0)<|J (NV' 1)<|J g<|J (L0' 2 Expr.D)<|J (gn 8)<|J (lenA 6 0)<|fun hl1=>bdE hr fun s1 hqq1 hr=>q0d hqq1 hl1 3 (fun k1 s1=>[(1,.pb 0 0),(2,.pb 1 0),(3,.ref 2 none),(4,dI (k1:Int))]) (fun k1 s1=>[(2,.row .fz 7 (s1.map Expr.D))]) I (fun k1 xk1 sk1 ok1 hxk1 hr hltk1=>?_) fun k1 hltk1=>?_
 obtain⟨s1,rfl⟩:∃ y,y=sk1:=⟨_,rfl⟩
 refine bdE hr fun y1 hy1 hr=>J g<|J (CB' [(0,3)] [] (Ic15 (m:=m) hy1)) ?_
 refine J (q0p 3 rfl) ?_
 refine J (j7S 4 (m:=.fz) (f:=Expr.D) [y1] (by simp only[Bcz,Dpz,Expr.D_eq];rfl))<|ggE hr fun g1 hr=>J (AP1' 5 .fz 88 g1)<|J g<|E
 exact e
theorem j9A (n:Nat):∀ {m:Md} {a0 r:Expr},q8t n a0=some r→Okp 171 [Expr.x m a0] [] (.ag [dI r.Kind,dI r.N,dI r.Pos,dI r.t__,dS r.Symbol,dS r.Name,.ref 0 none]) [.row .fz 7 (r.Args.map Expr.D)]:=by
  induction n with
  | zero=>intro _ _ r hr;exact nomatch (show (none:Option Expr)=some r from hr)
  | succ n ih=>intro _ _ r hr;exact j9z ih hr
theorem k2i {m:Md}{a0 r:Expr}(hr:z9T a0=some r):Okp 171 [Expr.x m a0] [] (.ag [dI r.Kind,dI r.N,dI r.Pos,dI r.t__,dS r.Symbol,dS r.Name,.ref 0 none]) [.row .fz 7 (r.Args.map Expr.D)]:=by
 obtain⟨n,hn⟩:=q6S hr
 exact j9A n hn
theorem z3T {m:Md}{a0:Rule}{a1:Oc}{r:(Expr×Bool)}(hr:q6a a0 a1=some r):Okp 120 [Rule.x m a0,Oc.x .fz a1] [] (.tu [.ag [dI r.1.Kind,dI r.1.N,dI r.1.Pos,dI r.1.t__,dS r.1.Symbol,dS r.1.Name,.ref 0 none],dB r.2]) [.row .fz 7 (r.1.Args.map Expr.D)]:=by
 refine OE Tryz.func120 fun S hS=>?_
 unfold q6a at hr
 refine J g<|J (BX' 0)<|J (BX' 1)<|J (NV' 2)<|J (gn 8)<|J (lenA 4 0)<|fun hl1=>bdE hr fun q1 hqq1 hr=>q0b hqq1 hl1 3 (fun k1 _=>[(2,.pb 0 0),(3,.pb 1 0),(4,.pb 2 0),(6,dI (k1:Int))]) (fun k1 _=>[]) I (fun k1 xk1 sk1 ok1 hxk1 hr hltk1 hik1=>?_) fun k1 sk1 ek1 hltk1=>?_
 refine J g ?_
 refine J (SQ' rfl rfl rfl rfl (q6E xk1.At a1))<|fE 1 hr ?_ ?_<;>intro h1 hr
 refine bdE hr fun y1 hy1 hr=>J g<|J (CB' [(0,3)] [] (k2i (m:=m) hy1))<|e
 exact e
 subst ek1
 refine J (gn 18) ?_
 refine J (q0c (q0o (q:=2) (c:=6) (r:=3) .fz 7 rfl rfl rfl))<|J g<|E
theorem j4w {m:Md}{a0:Gm_}{a1:Rule}{r:Bool}(hr:z2m a0 a1=some r):Okp 235 [Gm_.y m a0,Rule.x m a1] [] (dB r) []:=by
 refine OE Tryz.func235 fun S hS=>?_
 unfold z2m at hr
 refine J g<|J (BX' 0)<|J (BX' 1)<|bdE hr fun y1 hy1 hr=>J g<|J (CB' [(0,2)] [] (q6h (m:=m) hy1))<|J (gn 8)<|J (lenR 2)<|fun hl1=>bdE hr fun q1 hqq1 hr=>q0b hqq1 hl1 3 (fun k1 _=>[(3,.pb 1 0),(5,.ref 2 none),(6,dI (k1:Int))]) (fun k1 _=>[]) I (fun k1 xk1 sk1 ok1 hxk1 hr hltk1 hik1=>?_) fun k1 sk1 ek1 hltk1=>?_
 refine bdP hr fun y2 y3 hq2 hr=>J g<|J (CB' [(0,3)] [] (z3T (m:=m) hq2))<|J g<|J (NV' 4)<|fE 8 hr ?_ ?_<;>intro h1 hr
 exact e
 exact e
 subst ek1
 exact e
theorem z1M {m:Md}{a0:List Oc}{a1:Oc}{r:Bool}(hr:q7C a0 a1=some r):Okp 74 [rw4 m a0,Oc.x .fz a1] [] (dB r) []:=by
 refine OE Tryz.func74 fun S hS=>?_
 unfold q7C at hr
 refine J g<|J (BX' 0)<|J (gn 8)<|J (lenT 0)<|fun hl1=>bdE hr fun q1 hqq1 hr=>q0b hqq1 hl1 1 (fun k1 _=>[(0,rw4 m a0),(3,.pb 0 0),(5,dI (k1:Int))]) (fun k1 _=>[]) I (fun k1 xk1 sk1 ok1 hxk1 hr hltk1 hik1=>?_) fun k1 sk1 ek1 hltk1=>?_
 refine J g ?_
 refine J (SQ' rfl rfl rfl rfl (q6E xk1 a1))<|fE 1 hr ?_ ?_<;>intro h1 hr
 exact e
 exact e
 subst ek1
 exact e
theorem j8e {m:Md}{a0:Gm_}{a1:Rule}{r:Bool}(hr:z4P a0 a1=some r):Okp 236 [Gm_.y m a0,Rule.x m a1] [] (dB r) []:=by
 refine OE Tryz.func236 fun S hS=>?_
 unfold z4P at hr
 refine J g<|J (BX' 0)<|J (BX' 1)<|bdE hr fun y1 hy1 hr=>J g<|J (CB' [(0,2)] [] (q6h (m:=m) hy1))<|J g<|J (L0' 3 Oc.D)<|J (gn 8)<|J (lenA 4 1)<|fun hl1=>bdE hr fun q1 hqq1 hr=>q0b hqq1 hl1 4 (fun k1 s1=>[(3,.pb 1 0),(5,.ref 2 none),(6,.ref 3 none),(7,dI (k1:Int))]) (fun k1 s1=>[(3,.row .fz 2 (s1.map Oc.D))]) I (fun k1 xk1 sk1 ok1 hxk1 hr hltk1 hik1=>?_) fun k1 sk1 ek1 hltk1=>?_
 obtain⟨s1,rfl⟩:∃ y,y=sk1:=⟨_,rfl⟩
 refine J g<|J (NV' 4)<|bdE hr fun y2 hy2 hr=>J g<|J (CB' [] [2] (z1M (m:=.bo) hy2))<|fE 1 hr ?_ ?_<;>intro h1 hr
 refine bdE hr fun y3 hy3 hr=>J g<|J (CB' [] [3] (z1M (m:=.bo) hy3))<|fE 2 hr ?_ ?_<;>intro h2 hr
 exact e
 refine J g<|J (LIR' 5 (m:=.fz) (f:=Oc.D) (xs:=[xk1.At]))<|ggE hr fun g1 hr=>J (z1p (f:=Oc.D) 6 (fun _=>rfl) 24 g1)<|e
 exact e
 subst ek1
 obtain⟨s1,rfl⟩:∃ y,y=sk1:=⟨_,rfl⟩
 exact e
theorem j8f {a0 a1:Oc}{r:Bool}(hr:z4Q a0 a1=some r):Okp 253 [Oc.x .fz a0,Oc.x .fz a1] [] (dB r) []:=by
 refine OE Tryz.func253 fun S hS=>?_
 unfold z4Q at hr
 refine J g<|J (BX' 0)<|J (BX' 1)<|bdE hr fun s1 hqq1 hr=>J (gn 9)<|q0a 14 [(4,dB false),(23,dB s1)] ?_ ?_
 replace hr:=hqq1
 refine ifE hr ?_ ?_<;>intro h1 hr
 exact e
 refine bdE hr fun s2 hqq2 hr=>J (gn 6)<|q0a 7 [(4,dB false),(10,dB false),(22,dB s2)] ?_ ?_
 replace hr:=hqq2
 refine ifE hr ?_ ?_<;>intro h2 hr
 exact e
 exact e
 exact e
 exact e
theorem k3C {m:Md}{a0:List Oc}{a1:Oc}{r:List Oc}(hr:z9U a0 a1=some r):Okp 213 [rw4 m a0,Oc.x .fz a1] [] (rw4 m r) []:=by
 refine OE Tryz.func213 fun S hS=>?_
 unfold z9U at hr
 refine J g<|J (BX' 0)<|bdE hr fun s1 hqq1 hr=>J (gn 7)<|q0e 1 [(0,rw4 m a0),(3,.pb 0 0),(5,dI s1)] [] ?_ ?_
 refine J g<|q0i hqq1 1 (fun s2=>[(0,rw4 m a0),(3,.pb 0 0),(5,dI s2)]) (fun s2=>[]) I fun sk1 ok1 hr hik1=>?_
 obtain⟨s2,rfl⟩:∃ y,y=sk1:=⟨_,rfl⟩
 have hr:=hr
 refine fE 7 hr ?_ ?_<;>intro h1 hr
 refine ggE hr fun g1 hr=>bdE hr fun x1 hx1 hr=>bdE hr fun y1 hy1 hr=>J g<|J (CB' [] [] (j8f hy1))<|fE 2 hr ?_ ?_<;>intro h2 hr
 refine ggE hr fun g2 hr=>e
 refine J (gn 2) ?_
 cases hr
 cases hik1 _ rfl
 exact q0g hS 1
 refine J (gn 11) ?_
 cases hr
 cases hik1 _ rfl
 exact q0g hS 1
 refine fE 7 hr ?_ ?_<;>intro h3 hr
 refine ggE hr fun g3 hr=>bdE hr fun x2 hx2 hr=>J g ?_
 refine J (SQ' rfl rfl rfl rfl (q6E x2 a1))<|fE 2 hr ?_ ?_<;>intro h4 hr
 exact e
 refine J g<|J (L0' 1 Oc.D)<|ggE hr fun g4 hr=>ggE hr fun g5 hr=>J g<|J (SLH' g4 g5)<|ggE hr fun g6 hr=>J (j7T (f:=Oc.D) 2 24 (fun _=>rfl) g6)<|J g<|J (LIR' 3 (m:=.fz) (f:=Oc.D) (xs:=[a1]))<|ggE hr fun g7 hr=>J (z1p (f:=Oc.D) 4 (fun _=>rfl) 24 g7)<|ggE hr fun g8 hr=>ggE hr fun g9 hr=>J g<|J (SLL' g8 g9)<|ggE hr fun g10 hr=>J (j7T (f:=Oc.D) 5 24 (fun _=>rfl) g10)<|J (gn 3) ?_
 refine J (q0c (q0u (r:=5) rfl)) ?_
 cases hr
 exact endA.ren [] 0 (.inr rfl) hS rfl rfl rfl (.md rfl) rfl rfl
 refine J g<|J (L0' 1 Oc.D)<|ggE hr fun g11 hr=>ggE hr fun g12 hr=>J g<|J (SLH' g11 g12)<|ggE hr fun g13 hr=>J (j7T (f:=Oc.D) 2 24 (fun _=>rfl) g13)<|J g<|J (LIR' 3 (m:=.fz) (f:=Oc.D) (xs:=[a1]))<|ggE hr fun g14 hr=>J (z1p (f:=Oc.D) 4 (fun _=>rfl) 24 g14)<|ggE hr fun g15 hr=>ggE hr fun g16 hr=>J g<|J (SLL' g15 g16)<|ggE hr fun g17 hr=>J (j7T (f:=Oc.D) 5 24 (fun _=>rfl) g17)<|J (gn 3) ?_
 refine J (q0c (q0u (r:=5) rfl)) ?_
 cases hr
 exact endA.ren [] 0 (.inr rfl) hS rfl rfl rfl (.md rfl) rfl rfl
theorem j9B {Rc16:Expr→(List Oc)→Option (List Oc)}(Ic16:∀ {m:Md} {a0:Expr} {a1 r:List Oc},Rc16 a0 a1=some r→Okp 172 [Expr.x m a0,rw4 m a1] [] (rw4 m r) []){m:Md}{a0:Expr}{a1 r:List Oc}(hr:z3G Rc16 a0 a1=some r):Okp 172 [Expr.x m a0,rw4 m a1] [] (rw4 m r) []:=by
 refine OE Tryz.func172 fun S hS=>?_
 unfold z3G at hr
 refine J g<|J (BX' 0)<|fE 9 hr ?_ ?_<;>intro h1 hr
 refine bdE hr fun y1 hy1 hr=>J g<|J (CB' [] [] (k3C (m:=m) hy1))<|J (gn 8)<|J (lenA 6 0)<|fun hl1=>bdE hr fun s1 hqq1 hr=>q0d hqq1 hl1 1 (fun k1 s1=>[(1,rw4 m s1),(2,.pb 0 0),(5,dI (k1:Int))]) (fun k1 s1=>[]) I (fun k1 xk1 sk1 ok1 hxk1 hr hltk1=>?_) fun k1 hltk1=>?_
 obtain⟨s1,rfl⟩:∃ y,y=sk1:=⟨_,rfl⟩
 refine bdE hr fun y2 hy2 hr=>J g<|J (CB' [] [] (Ic16 (m:=m) hy2))<|e
 exact e
 refine J (gn 8)<|J (lenA 6 0)<|fun hl2=>bdE hr fun s2 hqq2 hr=>q0d hqq2 hl2 1 (fun k2 s2=>[(1,rw4 m s2),(2,.pb 0 0),(5,dI (k2:Int))]) (fun k2 s2=>[]) I (fun k2 xk2 sk2 ok2 hxk2 hr hltk2=>?_) fun k2 hltk2=>?_
 obtain⟨s2,rfl⟩:∃ y,y=sk2:=⟨_,rfl⟩
 refine bdE hr fun y3 hy3 hr=>J g<|J (CB' [] [] (Ic16 (m:=m) hy3))<|e
 exact e
theorem j9C (n:Nat):∀ {m:Md} {a0:Expr} {a1 r:List Oc},q8L n a0 a1=some r→Okp 172 [Expr.x m a0,rw4 m a1] [] (rw4 m r) []:=by
  induction n with
  | zero=>intro _ _ _ r hr;exact nomatch (show (none:Option (List Oc))=some r from hr)
  | succ n ih=>intro _ _ _ r hr;exact j9B ih hr
theorem k2j {m:Md}{a0:Expr}{a1 r:List Oc}(hr:j3d a0 a1=some r):Okp 172 [Expr.x m a0,rw4 m a1] [] (rw4 m r) []:=by
 obtain⟨n,hn⟩:=q6S hr
 exact j9C n hn
theorem z2U {m:Md}{a0:Expr}{r:List Oc}(hr:q6P a0=some r):Okp 121 [Expr.x m a0] [] (rw4 m r) []:=by
 refine OE Tryz.func121 fun S hS=>?_
 unfold q6P at hr
 refine J g<|J (BX' 0)<|J g<|J (L0' 1 Oc.D) ?_
 refine J (q0p 1 rfl)<|bdE hr fun y1 hy1 hr=>J (CB' [] [] (k2j (m:=m) hy1))<|J g<|E
theorem k2k {m:Md}{a0:Gm_}{a1:Rule}{a2:Oc}{r:Bool}(hr:z8a a0 a1 a2=some r):Okp 281 [Gm_.y m a0,Rule.x m a1,Oc.x .fz a2] [] (dB r) []:=by
 refine OE Tryz.func281 fun S hS=>?_
 unfold z8a at hr
 refine J g<|J (BX' 0)<|J (BX' 1)<|J (BX' 2)<|bdE hr fun y1 hy1 hr=>J g<|J (CB' [] [] (q6m hy1))<|fE 2 hr ?_ ?_<;>intro h1 hr
 refine bdE hr fun y2 hy2 hr=>J g<|J (CB' [] [] (q7X (m:=m) hy2))<|bdP hr fun y3 y4 hq1 hr=>J (CB' [(0,3)] [] (q7Y (m:=m) hq1))<|J g<|J (NV' 4)<|bdP hr fun y5 y6 hq2 hr=>J g<|J (CB' [] [3] (z0E (m:=.bo) hq2))<|J g<|J (NV' 5)<|fE 10 hr ?_ ?_<;>intro h2 hr
 refine bdE hr fun s1 hqq3 hr=>J (gn 4)<|q0a 5 [(6,dB false),(42,dB s1)] ?_ ?_
 replace hr:=hqq3
 refine ifE hr ?_ ?_<;>intro h3 hr
 exact e
 exact e
 exact e
 refine bdE hr fun s2 hqq4 hr=>J (gn 5)<|q0a 5 [(6,dB false),(48,dB s2)] ?_ ?_
 replace hr:=hqq4
 refine ifE hr ?_ ?_<;>intro h4 hr
 exact e
 exact e
 exact e
 exact e
theorem z9g {m:Md}{a0:Gm_}{a1:Rule}{a2:Expr}{r:Bool}(hr:z2K a0 a1 a2=some r):Okp 265 [Gm_.y m a0,Rule.x m a1,Expr.x m a2] [] (dB r) []:=by
 refine OE Tryz.func265 fun S hS=>?_
 unfold z2K at hr
 refine J g<|J (BX' 0)<|J (BX' 1)<|J (BX' 2)<|bdE hr fun y1 hy1 hr=>J g<|J (CB' [] [] (z2U (m:=m) hy1))<|J (gn 8)<|J (lenT 7)<|fun hl1=>bdE hr fun q1 hqq1 hr=>q0b hqq1 hl1 3 (fun k1 _=>[(3,.pb 0 0),(4,.pb 1 0),(7,rw4 m y1),(8,dI (k1:Int))]) (fun k1 _=>[]) I (fun k1 xk1 sk1 ok1 hxk1 hr hltk1 hik1=>?_) fun k1 sk1 ek1 hltk1=>?_
 refine bdE hr fun y2 hy2 hr=>J g<|J (CB' [] [] (k2k (m:=m) hy2))<|fE 2 hr ?_ ?_<;>intro h1 hr
 exact e
 exact e
 subst ek1
 exact e
theorem j6k {m:Md}{a0:Gm_}{a1:Rule}{r:Bool}(hr:z3H a0 a1=some r):Okp 237 [Gm_.y m a0,Rule.x m a1] [] (dB r) []:=by
 refine OE Tryz.func237 fun S hS=>?_
 unfold z3H at hr
 refine J g<|J (BX' 0)<|J (BX' 1)<|J (gn 8)<|J (lenA 4 1)<|fun hl1=>bdE hr fun q1 hqq1 hr=>q0b hqq1 hl1 2 (fun k1 _=>[(2,.pb 0 0),(3,.pb 1 0),(5,dI (k1:Int))]) (fun k1 _=>[]) I (fun k1 xk1 sk1 ok1 hxk1 hr hltk1 hik1=>?_) fun k1 sk1 ek1 hltk1=>?_
 refine bdE hr fun y1 hy1 hr=>J g<|J (CB' [] [] (z9g (m:=m) hy1))<|fE 2 hr ?_ ?_<;>intro h1 hr
 exact e
 exact e
 subst ek1
 refine J (gn 17) ?_
 refine AW.len (.box 1 5 rfl rfl) fun hl2=>?_
 refine bdE hr fun q2 hqq2 hr=>q0b hqq2 hl2 2 (fun k2 _=>[(2,.pb 0 0),(3,.pb 1 0),(6,dI (k2:Int))]) (fun k2 _=>[]) I (fun k2 xk2 sk2 ok2 hxk2 hr hltk2 hik2=>?_) fun k2 sk2 ek2 hltk2=>?_
 refine bdE hr fun y2 hy2 hr=>J g<|J (CB' [] [] (z9g (m:=m) hy2))<|fE 1 hr ?_ ?_<;>intro h2 hr
 refine bdE hr fun y3 hy3 hr=>J g<|J (CB' [] [] (z9g (m:=m) hy3))<|fE 3 hr ?_ ?_<;>intro h3 hr
 exact e
 exact e
 exact e
 subst ek2
 exact e
theorem j6l {m:Md}{a0:Gm_}{a1:Rule}{a2:Int}{r:Bool}(hr:z3I a0 a1 a2=some r):Okp 204 [Gm_.y m a0,Rule.x m a1,dI a2] [] (dB r) []:=by
 refine OE Tryz.func204 fun S hS=>?_
 unfold z3I at hr
 refine J g<|J (BX' 0)<|J (BX' 1)<|fE 13 hr ?_ ?_<;>intro h1 hr
 refine bdE hr fun y1 hy1 hr=>J g<|J (CB' [] [] (j4v (m:=m) hy1))<|e
 refine fE 6 hr ?_ ?_<;>intro h2 hr
 refine bdE hr fun y2 hy2 hr=>J g<|J (CB' [] [] (j4w (m:=m) hy2))<|e
 refine fE 6 hr ?_ ?_<;>intro h3 hr
 refine bdE hr fun y3 hy3 hr=>J g<|J (CB' [] [] (j8e (m:=m) hy3))<|e
 refine bdE hr fun y4 hy4 hr=>J g<|J (CB' [] [] (j6k (m:=m) hy4))<|e
theorem j4x {m:Md}{a0:Gm_}{r:(Int×Int)}(hr:z2n a0=some r):Okp 162 [Gm_.x m a0] [] (.tu [dI r.1,dI r.2]) []:=by
 refine OE Tryz.func162 fun S hS=>?_
 unfold z2n at hr
 refine J g<|J (BX' 0)<|bdE hr fun y1 hy1 hr=>J g<|J (CB' [] [] (q6m hy1))<|fE 1 hr ?_ ?_<;>intro h1 hr
 refine bdE hr fun y2 hy2 hr=>J g<|J (CB' [] [] (q6m hy2))<|fE 3 hr ?_ ?_<;>intro h2 hr
 refine bdE hr fun y3 hy3 hr=>J g<|J (CB' [] [] (k2h (m:=m) hy3))<|fE 8 hr ?_ ?_<;>intro h3 hr
 exact e
 refine bdE hr fun x1 hx1 hr=>J (gn 8) ?_
 refine AW.len (.el 1 (.ag 0 (.tmp 0 rfl) rfl) hx1 rfl) fun hl1=>?_
 refine bdE hr fun q1 hqq1 hr=>q0b hqq1 hl1 1 (fun k1 _=>[(1,.pb 0 0),(5,dI (k1:Int))]) (fun k1 _=>[]) I (fun k1 xk1 sk1 ok1 hxk1 hr hltk1 hik1=>?_) fun k1 sk1 ek1 hltk1=>?_
 refine fE 29 hr ?_ ?_<;>intro h4 hr
 exact e
 exact e
 subst ek1
 refine bdE hr fun q2 hqq2 hr=>J (gn 19)<|AW.cut 1 (fun _=>[]) (fun _=>[]) (M:=fun x=>q2=.inl x) ?_ fun x hx=>?_
 refine J g<|q0i hqq2 1 (fun s1=>[(1,.pb 0 0),(6,dI s1)]) (fun s1=>[]) I fun sk2 ok2 hr hik2=>?_
 obtain⟨s1,rfl⟩:∃ y,y=sk2:=⟨_,rfl⟩
 have hr:=hr
 refine fE 6 hr ?_ ?_<;>intro h5 hr
 refine J (gn 9) ?_
 refine AW.len (.box 0 1 rfl rfl) fun hl3=>?_
 refine bdE hr fun q3 hqq3 hr=>q0b hqq3 hl3 1 (fun k3 _=>[(1,.pb 0 0),(6,dI s1),(7,dI (k3:Int))]) (fun k3 _=>[]) I (fun k3 xk3 sk3 ok3 hxk3 hr hltk3 hik3=>?_) fun k3 sk3 ek3 hltk3=>?_
 refine bdE hr fun y4 hy4 hr=>J g<|J (CB' [] [] (j6l (m:=m) hy4))<|fE 1 hr ?_ ?_<;>intro h6 hr
 exact e
 exact e
 subst ek3
 refine ggE hr fun g1 hr=>e
 refine J (gn 2) ?_
 cases hr
 cases hik2 _ rfl
 exact⟨_,rfl,q0g hS 1⟩
 subst hx
 exact e
 exact e
 exact e
theorem z3U {m:Md}{a0:Gm_}{a1 a2:BA_}{r:Int}(hr:q8u a0 a1 a2=some r):Okp 206 [Gm_.y m a0,dS a1,dS a2] [] (dI r) []:=by
 refine OE Tryz.func206 fun S hS=>?_
 unfold q8u at hr
 refine J g<|J (BX' 0)<|bdP hr fun y1 y2 hq1 hr=>J g<|J (CB' [(0,1)] [] (q7Y (m:=m) hq1))<|J g<|J (NV' 2)<|bdP hr fun y3 y4 hq2 hr=>J g<|J (CB' [] [1] (z0E (m:=.bo) hq2))<|J g<|J (NV' 3)<|fE 9 hr ?_ ?_<;>intro h1 hr
 exact e
 exact e
theorem k3D {Rc17:Gm_→Rule→Expr→Option Int}(Ic17:∀ {m:Md} {a0:Gm_} {a1:Rule} {a2:Expr} {r:Int},Rc17 a0 a1 a2=some r→Okp 205 [Gm_.y m a0,Rule.x m a1,Expr.x m a2] [] (dI r) []){m:Md}{a0:Gm_}{a1:Rule}{a2:Expr}{r:Int}(hr:j2l Rc17 a0 a1 a2=some r):Okp 238 [Gm_.y m a0,Rule.x m a1,Expr.x m a2] [] (dI r) []:=by
 refine OE Tryz.func238 fun S hS=>?_
 unfold j2l at hr
 refine J g<|J (BX' 0)<|J (BX' 1)<|J (BX' 2)<|bdT hr fun y1 y2 y3 hq1 hr=>J g<|J (CB' [] [] (q7G hq1))<|fE 15 hr ?_ ?_<;>intro h1 hr
 refine bdE hr fun x1 hx1 hr=>bdE hr fun y4 hy4 hr=>J g<|J (CB' [] [] (Ic17 (m:=m) hy4))<|fE 3 hr ?_ ?_<;>intro h2 hr
 refine bdE hr fun x2 hx2 hr=>bdE hr fun y5 hy5 hr=>J g<|J (CB' [] [] (Ic17 (m:=m) hy5))<|fE 4 hr ?_ ?_<;>intro h3 hr
 exact e
 exact e
 exact e
 exact e
theorem k3E {Rc17:Gm_→Rule→Expr→Option Int}(Ic17:∀ {m:Md} {a0:Gm_} {a1:Rule} {a2:Expr} {r:Int},Rc17 a0 a1 a2=some r→Okp 205 [Gm_.y m a0,Rule.x m a1,Expr.x m a2] [] (dI r) []){m:Md}{a0:Gm_}{a1:Rule}{a2:Expr}{r:Int}(hr:j2m Rc17 a0 a1 a2=some r):Okp 239 [Gm_.y m a0,Rule.x m a1,Expr.x m a2] [] (dI r) []:=by
 refine OE Tryz.func239 fun S hS=>?_
 unfold j2m at hr
 refine J g<|J (BX' 0)<|J (BX' 1)<|J (BX' 2)<|fE 9 hr ?_ ?_<;>intro h1 hr
 refine bdE hr fun x1 hx1 hr=>bdE hr fun y1 hy1 hr=>J g<|J (CB' [] [] (Ic17 (m:=m) hy1))<|fE 3 hr ?_ ?_<;>intro h2 hr
 refine bdE hr fun x2 hx2 hr=>bdE hr fun y2 hy2 hr=>J g<|J (CB' [] [] (Ic17 (m:=m) hy2))<|bdE hr fun x3 hx3 hr=>bdE hr fun y3 hy3 hr=>J g<|J (CB' [] [] (Ic17 (m:=m) hy3))<|fE 2 hr ?_ ?_<;>intro h3 hr
 exact e
 exact e
 exact e
 exact e
theorem j3m {Rc17:Gm_→Rule→Expr→Option Int}(Ic17:∀ {m:Md} {a0:Gm_} {a1:Rule} {a2:Expr} {r:Int},Rc17 a0 a1 a2=some r→Okp 205 [Gm_.y m a0,Rule.x m a1,Expr.x m a2] [] (dI r) []){m:Md}{a0:Gm_}{a1:Rule}{a2:Expr}{r:Int}(hr:z2o Rc17 a0 a1 a2=some r):Okp 205 [Gm_.y m a0,Rule.x m a1,Expr.x m a2] [] (dI r) []:=by
 refine OE Tryz.func205 fun S hS=>?_
 unfold z2o at hr
 refine J g<|J (BX' 0)<|J (BX' 1)<|J (BX' 2)<|fE 14 hr ?_ ?_<;>intro h1 hr
 exact e
 refine fE 6 hr ?_ ?_<;>intro h2 hr
 refine fE 6 hr ?_ ?_<;>intro h3 hr
 exact e
 exact e
 refine fE 6 hr ?_ ?_<;>intro h4 hr
 refine bdE hr fun y1 hy1 hr=>J g<|J (CB' [] [] (q6m hy1))<|fE 1 hr ?_ ?_<;>intro h5 hr
 refine bdE hr fun y2 hy2 hr=>J g<|J (CB' [] [] (q7X (m:=m) hy2))<|bdE hr fun y3 hy3 hr=>J g<|J (CB' [] [] (z3U (m:=m) hy3))<|e
 exact e
 refine fE 6 hr ?_ ?_<;>intro h6 hr
 refine bdE hr fun y4 hy4 hr=>J g<|J (CB' [] [] (k3D Ic17 (m:=m) hy4))<|e
 refine fE 6 hr ?_ ?_<;>intro h7 hr
 refine bdE hr fun y5 hy5 hr=>J g<|J (CB' [] [] (k3E Ic17 (m:=m) hy5))<|e
 refine fE 6 hr ?_ ?_<;>intro h8 hr
 refine bdE hr fun y6 hy6 hr=>J g<|J (CB' [] [] (q6m hy6))<|fE 1 hr ?_ ?_<;>intro h9 hr
 exact e
 exact e
 refine fE 6 hr ?_ ?_<;>intro h10 hr
 exact e
 refine fE 6 hr ?_ ?_<;>intro h11 hr
 refine fE 7 hr ?_ ?_<;>intro h12 hr
 refine bdE hr fun x1 hx1 hr=>bdE hr fun y7 hy7 hr=>J g<|J (CB' [] [] (Ic17 (m:=m) hy7))<|fE 3 hr ?_ ?_<;>intro h13 hr
 refine bdE hr fun y8 hy8 hr=>J g<|J (CB' [] [] (z3U (m:=m) hy8))<|e
 exact e
 exact e
 exact e
theorem j3n (n:Nat):∀ {m:Md} {a0:Gm_} {a1:Rule} {a2:Expr} {r:Int},z0B n a0 a1 a2=some r→Okp 205 [Gm_.y m a0,Rule.x m a1,Expr.x m a2] [] (dI r) []:=by
  induction n with
  | zero=>intro _ _ _ _ r hr;exact nomatch (show (none:Option Int)=some r from hr)
  | succ n ih=>intro _ _ _ _ r hr;exact j3m ih hr
theorem z5J {m:Md}{a0:Gm_}{a1:Rule}{a2:Expr}{r:Int}(hr:z2p a0 a1 a2=some r):Okp 205 [Gm_.y m a0,Rule.x m a1,Expr.x m a2] [] (dI r) []:=by
 obtain⟨n,hn⟩:=q6S hr
 exact j3n n hn
theorem j9D {m:Md}{a0:Gm_}{a1:Rule}{r:Bool}(hr:z6h a0 a1=some r):Okp 163 [Gm_.y m a0,Rule.x m a1] [] (dB r) []:=by
 refine OE Tryz.func163 fun S hS=>?_
 unfold z6h at hr
 refine J g<|J (BX' 0)<|J (BX' 1)<|J (gn 8)<|J (lenA 4 1)<|fun hl1=>bdE hr fun q1 hqq1 hr=>q0b hqq1 hl1 2 (fun k1 _=>[(2,.pb 0 0),(3,.pb 1 0),(5,dI (k1:Int))]) (fun k1 _=>[]) I (fun k1 xk1 sk1 ok1 hxk1 hr hltk1 hik1=>?_) fun k1 sk1 ek1 hltk1=>?_
 refine J g<|J (NV' 2)<|bdE hr fun y1 hy1 hr=>J g<|J (CB' [] [] (z5J (m:=m) hy1))<|bdE hr fun y2 hy2 hr=>J g<|J (CB' [] [] (q7X (m:=m) hy2))<|bdE hr fun y3 hy3 hr=>J g<|J (CB' [] [] (z3U (m:=m) hy3))<|fE 2 hr ?_ ?_<;>intro h1 hr
 exact e
 exact e
 subst ek1
 refine J (gn 17) ?_
 refine AW.len (.box 1 5 rfl rfl) fun hl2=>?_
 refine bdE hr fun q2 hqq2 hr=>q0b hqq2 hl2 2 (fun k2 _=>[(2,.pb 0 0),(3,.pb 1 0),(7,dI (k2:Int))]) (fun k2 _=>[]) I (fun k2 xk2 sk2 ok2 hxk2 hr hltk2 hik2=>?_) fun k2 sk2 ek2 hltk2=>?_
 refine J g<|J (NV' 2)<|bdP hr fun y4 y5 hq3 hr=>J g<|J (CB' [(0,3)] [] (q7Y (m:=m) hq3))<|J g<|J (NV' 4)<|bdP hr fun y6 y7 hq4 hr=>J g<|J (CB' [] [3] (z0E (m:=.bo) hq4))<|J g<|J (NV' 5)<|bdE hr fun s1 hqq5 hr=>J (gn 7)<|q0a 5 [(2,.pb 0 0),(3,.pb 1 0),(7,dI (k2:Int)),(8,.pb 2 0),(73,dB s1)] ?_ ?_
 replace hr:=hqq5
 refine ifE hr ?_ ?_<;>intro h2 hr
 exact e
 exact e
 refine bdE hr fun s2 hqq6 hr=>q0a 8 [(2,.pb 0 0),(3,.pb 1 0),(7,dI (k2:Int)),(8,.pb 2 0),(81,dB s2)] ?_ ?_
 replace hr:=hqq6
 refine ifE hr ?_ ?_<;>intro h3 hr
 exact e
 refine bdE hr fun y8 hy8 hr=>J g<|J (CB' [] [] (z5J (m:=m) hy8))<|e
 refine bdE hr fun s3 hqq7 hr=>q0a 8 [(2,.pb 0 0),(3,.pb 1 0),(7,dI (k2:Int)),(89,dB s3)] ?_ ?_
 replace hr:=hqq7
 refine ifE hr ?_ ?_<;>intro h4 hr
 exact e
 refine bdE hr fun y9 hy9 hr=>J g<|J (CB' [] [] (z5J (m:=m) hy9))<|e
 refine fE 1 hr ?_ ?_<;>intro h5 hr
 exact e
 exact e
 subst ek2
 exact e
theorem z8c {m:Md}{a0:Gm_}{a1:BA_}{r:Int}(hr:z0C a0 a1=some r):Okp 72 [Gm_.y m a0,dS a1] [] (dI r) []:=by
 refine OE Tryz.func72 fun S hS=>?_
 unfold z0C at hr
 refine J g<|J (BX' 0)<|J (gn 8)<|J (lenA 0 0)<|fun hl1=>bdE hr fun q1 hqq1 hr=>q0b hqq1 hl1 1 (fun k1 _=>[(1,dS a1),(2,.pb 0 0),(5,dI (k1:Int))]) (fun k1 _=>[]) I (fun k1 xk1 sk1 ok1 hxk1 hr hltk1 hik1=>?_) fun k1 sk1 ek1 hltk1=>?_
 refine fE 24 hr ?_ ?_<;>intro h1 hr
 exact e
 exact e
 subst ek1
 exact e
theorem j4y {m:Md}{a0:Gm_}{a1:BA_}{a2:List Int}{r:Bool}(hr:z2q a0 a1 a2=some r):Okp 266 [Gm_.x m a0,dS a1,rw1 m a2] [] (dB r) []:=by
 refine OE Tryz.func266 fun S hS=>?_
 unfold z2q at hr
 refine J g<|J (BX' 0)<|J (gn 8)<|J (lenA 1 0)<|fun hl1=>bdE hr fun q1 hqq1 hr=>q0b hqq1 hl1 1 (fun k1 _=>[(1,dS a1),(2,rw1 m a2),(3,.pb 0 0),(7,dI (k1:Int))]) (fun k1 _=>[]) I (fun k1 xk1 sk1 ok1 hxk1 hr hltk1 hik1=>?_) fun k1 sk1 ek1 hltk1=>?_
 refine J g<|J (NV' 1)<|J (gn 16)<|J (lenA 2 23)<|fun hl2=>bdE hr fun s1 hqq2 hr=>q0d hqq2 hl2 2 (fun k2 s1=>[(1,dS a1),(2,rw1 m a2),(3,.pb 0 0),(7,dI (k1:Int)),(8,.pb 1 0),(9,dB s1),(10,dI (k2:Int))]) (fun k2 s1=>[]) I (fun k2 xk2 sk2 ok2 hxk2 hr hltk2=>?_) fun k2 hltk2=>?_
 obtain⟨s1,rfl⟩:∃ y,y=sk2:=⟨_,rfl⟩
 refine bdE hr fun y1 hy1 hr=>J g<|J (CB' [] [] (z8c (m:=m) hy1))<|bdE hr fun s2 hqq3 hr=>J (gn 4)<|q0a 4 [(1,dS a1),(2,rw1 m a2),(3,.pb 0 0),(7,dI (k1:Int)),(8,.pb 1 0),(9,dB s1),(10,dI (k2:Int)),(11,dI y1),(46,dB s2)] ?_ ?_
 replace hr:=hqq3
 refine ifE hr ?_ ?_<;>intro h1 hr
 exact e
 exact e
 refine bdE hr fun s3 hqq4 hr=>q0a 8 [(1,dS a1),(2,rw1 m a2),(3,.pb 0 0),(7,dI (k1:Int)),(8,.pb 1 0),(9,dB s1),(10,dI (k2:Int)),(54,dB s3)] ?_ ?_
 replace hr:=hqq4
 refine ifE hr ?_ ?_<;>intro h2 hr
 refine bdE hr fun y2 hy2 hr=>J g<|J (CB' [] [] (j0c hy2))<|ggE hr fun g1 hr=>bdE hr fun x1 hx1 hr=>e
 exact e
 exact e
 refine fE 15 hr ?_ ?_<;>intro h3 hr
 exact e
 exact e
 subst ek1
 exact e
theorem j4z {m:Md}{a0:Gm_}{r:List Int}(hr:z2r a0=some r):Okp 240 [Gm_.x m a0] [] (.ref 0 none) [.row .fz 1 (r.map (A.D.i .i64))]:=by
 refine OE Tryz.func240 fun S hS=>?_
 unfold z2r at hr
 refine J g<|J (BX' 0)<|ggE hr fun g1 hr=>J g<|J (MKR' 1 (f:=(A.D.i .i64)) (0:Int) g1.1 g1.2.1 g1.2.2)<|bdE hr fun s1 hqq1 hr=>J (gn 7)<|q0e 2 [(3,.ref 1 none)] [(1,.row .fz 1 (s1.map (A.D.i .i64)))] ?_ ?_
 refine J g<|q0i hqq1 2 (fun (s2,s3)=>[(1,.pb 0 0),(3,.ref 1 none),(4,dI s3)]) (fun (s2,s3)=>[(1,.row .fz 1 (s2.map (A.D.i .i64)))]) I fun sk1 ok1 hr hik1=>?_
 obtain⟨s2,s3⟩:=sk1
 have hr:=hr
 refine fE 9 hr ?_ ?_<;>intro h1 hr
 refine J g<|J (L0' 2 (A.D.i .i64))<|ggE hr fun g2 hr=>J g<|J (j7T (f:=(A.D.i .i64)) 3 8 (fun _=>rfl) g2)<|J (gn 8)<|J (lenT 13)<|fun hl2=>bdE hr fun s4 hqq2 hr=>q0d hqq2 hl2 4 (fun k2 s4=>[(1,.pb 0 0),(3,.ref 1 none),(4,dI s3),(5,.ref 3 none),(6,dI (k2:Int))]) (fun k2 s4=>[(2,.none),(3,.row .fz 1 (s4.map (A.D.i .i64)))]) I (fun k2 xk2 sk2 ok2 hxk2 hr hltk2=>?_) fun k2 hltk2=>?_
 obtain⟨s4,rfl⟩:∃ y,y=sk2:=⟨_,rfl⟩
 refine bdE hr fun s5 hqq3 hr=>J (gn 12)<|q0e 4 [(1,.pb 0 0),(3,.ref 1 none),(4,dI s3),(5,.ref 3 none),(6,dI (k2:Int))] [(3,.row .fz 1 (s5.map (A.D.i .i64)))] ?_ ?_
 replace hr:=hqq3
 refine bdE hr fun x1 hx1 hr=>fE 8 hr ?_ ?_<;>intro h2 hr
 refine bdE hr fun y1 hy1 hr=>J g<|J (CB' [] [1] (j4y (m:=.bo) hy1))<|fE 2 hr ?_ ?_<;>intro h3 hr
 refine bdE hr fun x2 hx2 hr=>J g<|J (SE' s3 hx2)<|e
 exact e
 exact e
 exact e
 refine ggE hr fun g3 hr=>e
 refine J (gn 2) ?_
 cases hr
 cases hik1 _ rfl
 exact q0g hS 2
 exact e
theorem j6m {m:Md}{a0:Gm_}{a1:BA_}{r:Int}(hr:z5t a0 a1=some r):Okp 207 [Gm_.x m a0,dS a1] [] (dI r) []:=by
 refine OE Tryz.func207 fun S hS=>?_
 unfold z5t at hr
 refine J g<|J (BX' 0)<|bdE hr fun y1 hy1 hr=>J g<|J (CB' [] [] (z8c (m:=m) hy1))<|fE 8 hr ?_ ?_<;>intro h1 hr
 exact e
 refine bdE hr fun y2 hy2 hr=>J g<|J (CB' [(0,1)] [] (j4z (m:=m) hy2))<|ggE hr fun g1 hr=>bdE hr fun x1 hx1 hr=>e
theorem j1S {m:Md}{a0:Gm_}{a1:BA_}{r:Bool}(hr:z0q a0 a1=some r):Okp 164 [Gm_.x m a0,dS a1] [] (dB r) []:=by
 refine OE Tryz.func164 fun S hS=>?_
 unfold z0q at hr
 refine J g<|J (BX' 0)<|bdE hr fun y1 hy1 hr=>J g<|J (CB' [] [] (j6m (m:=m) hy1))<|e
theorem j1T {m:Md}{a0:Gm_}{r:(Int×Int)}(hr:z0r a0=some r):Okp 109 [Gm_.x m a0] [] (.tu [dI r.1,dI r.2]) []:=by
 refine OE Tryz.func109 fun S hS=>?_
 unfold z0r at hr
 refine J g<|J (BX' 0)<|bdP hr fun y1 y2 hq1 hr=>J g<|J (CB' [] [] (j4x (m:=m) hq1))<|fE 12 hr ?_ ?_<;>intro h1 hr
 refine J (gn 8)<|J (lenA 1 0)<|fun hl1=>bdE hr fun q2 hqq2 hr=>q0b hqq2 hl1 1 (fun k1 _=>[(1,.pb 0 0),(6,dI (k1:Int))]) (fun k1 _=>[]) I (fun k1 xk1 sk1 ok1 hxk1 hr hltk1 hik1=>?_) fun k1 sk1 ek1 hltk1=>?_
 refine bdE hr fun y3 hy3 hr=>J g<|J (CB' [] [] (j9D (m:=m) hy3))<|fE 2 hr ?_ ?_<;>intro h2 hr
 exact e
 exact e
 subst ek1
 refine J (gn 17) ?_
 refine AW.len (.box 0 0 rfl rfl) fun hl2=>?_
 refine bdE hr fun q3 hqq3 hr=>q0b hqq3 hl2 1 (fun k2 _=>[(1,.pb 0 0),(7,dI (k2:Int))]) (fun k2 _=>[]) I (fun k2 xk2 sk2 ok2 hxk2 hr hltk2 hik2=>?_) fun k2 sk2 ek2 hltk2=>?_
 refine bdE hr fun y4 hy4 hr=>J g<|J (CB' [] [] (j1S (m:=m) hy4))<|fE 2 hr ?_ ?_<;>intro h3 hr
 exact e
 exact e
 subst ek2
 exact e
 exact e
theorem j9E {m:Md}{a0:Gm_}{r:Bool}(hr:z6j a0=some r):Okp 59 [Gm_.x m a0] [] (dB r) []:=by
 refine OE Tryz.func59 fun S hS=>?_
 unfold z6j at hr
 refine J g<|J (BX' 0)<|bdP hr fun y1 y2 hq1 hr=>J g<|J (CB' [] [] (j1T (m:=m) hq1))<|e
theorem j8g {m:Md}{a0:Gm_}{r:Bool}(hr:z4S a0=some r):Okp 25 [Gm_.x m a0] [] (dB r) []:=by
 refine OE Tryz.func25 fun S hS=>?_
 unfold z4S at hr
 refine J g<|J (BX' 0)<|J (gn 8)<|J (lenA 0 0)<|fun hl1=>bdE hr fun q1 hqq1 hr=>q0b hqq1 hl1 1 (fun k1 _=>[(1,.pb 0 0),(3,dI (k1:Int))]) (fun k1 _=>[]) I (fun k1 xk1 sk1 ok1 hxk1 hr hltk1 hik1=>?_) fun k1 sk1 ek1 hltk1=>?_
 refine J (gn 18) ?_
 refine AW.len (.el 1 (.tmp 9 rfl) hxk1 rfl) fun hl2=>?_
 refine bdE hr fun q2 hqq2 hr=>q0b hqq2 hl2 1 (fun k2 _=>[(1,.pb 0 0),(3,dI (k1:Int)),(4,dI (k2:Int))]) (fun k2 _=>[]) I (fun k2 xk2 sk2 ok2 hxk2 hr hltk2 hik2=>?_) fun k2 sk2 ek2 hltk2=>?_
 refine J g<|J (NV' 1)<|fE 6 hr ?_ ?_<;>intro h1 hr
 exact e
 refine fE 6 hr ?_ ?_<;>intro h2 hr
 exact e
 exact e
 subst ek2
 exact e
 subst ek1
 refine J (gn 17) ?_
 refine AW.len (.box 0 1 rfl rfl) fun hl3=>?_
 refine bdE hr fun q3 hqq3 hr=>q0b hqq3 hl3 1 (fun k3 _=>[(1,.pb 0 0),(6,dI (k3:Int))]) (fun k3 _=>[]) I (fun k3 xk3 sk3 ok3 hxk3 hr hltk3 hik3=>?_) fun k3 sk3 ek3 hltk3=>?_
 refine bdE hr fun y1 hy1 hr=>J g<|J (CB' [] [] (j6j (m:=m) hy1))<|fE 1 hr ?_ ?_<;>intro h3 hr
 exact e
 exact e
 subst ek3
 refine bdE hr fun y2 hy2 hr=>J g<|J (CB' [] [] (j9E (m:=m) hy2))<|e
theorem z1y {m:Md}{a0:Gm_}{a1:BA_}{r:List At_}(hr:q5U a0 a1=some r):Okp 46 [Gm_.y m a0,dS a1] [] (.ref 0 none) [.row .fz 4 (r.map At_.D)]:=by
 refine OE Tryz.func46 fun S hS=>?_
 unfold q5U at hr
 refine J g<|J (BX' 0)<|J g<|J (L0' 1 At_.D)<|bdP hr fun y1 y2 hq1 hr=>J g<|J (CB' [(0,2)] [] (q7Y (m:=m) hq1))<|J g<|J (NV' 3)<|J (gn 9)<|J (lenR 2)<|fun hl1=>bdE hr fun s1 hqq2 hr=>q0d hqq2 hl1 4 (fun k1 s1=>[(5,.ref 1 none),(6,.pb 3 0),(8,dI (k1:Int))]) (fun k1 s1=>[(1,.row .fz 4 (s1.map At_.D))]) I (fun k1 xk1 sk1 ok1 hxk1 hr hltk1=>?_) fun k1 hltk1=>?_
 obtain⟨s1,rfl⟩:∃ y,y=sk1:=⟨_,rfl⟩
 refine bdE hr fun s2 hqq3 hr=>J (gn 12)<|q0e 4 [(5,.ref 1 none),(6,.pb 3 0),(8,dI (k1:Int))] [(1,.row .fz 4 (s2.map At_.D))] ?_ ?_
 replace hr:=hqq3
 refine fE 10 hr ?_ ?_<;>intro h1 hr
 refine J g<|J (LIR' 4 (m:=.fz) (f:=At_.D) (xs:=[xk1]))<|ggE hr fun g1 hr=>J (z1p (f:=At_.D) 5 (fun _=>rfl) 40 g1)<|e
 refine fE 10 hr ?_ ?_<;>intro h2 hr
 refine J g<|J (LIR' 4 (m:=.fz) (f:=At_.D) (xs:=[xk1]))<|ggE hr fun g2 hr=>J (z1p (f:=At_.D) 5 (fun _=>rfl) 40 g2)<|e
 exact e
 exact e
 exact e
theorem z2V {a0:Int}{r:Rl_}(hr:q5H a0=some r):Okp 84 [dI a0] [] (.ag [dI r.N,.ref 0 none]) [.row .fz 1 (r.Rows.map (A.D.i .i64))]:=by
 refine OE Tryz.func84 fun S hS=>?_
 unfold q5H at hr
 refine J g<|J (NV' 0)<|bdE hr fun y1 hy1 hr=>J g<|J (CB' [] [] (q6m hy1))<|fE 2 hr ?_ ?_<;>intro h1 hr
 refine ggE hr fun g1 hr=>J g<|J (MKR' 1 (f:=(A.D.i .i64)) (0:Int) g1.1 g1.2.1 g1.2.2)<|e
 refine J (gn 7) ?_
 refine J (q0c (q0o (q:=0) (c:=1) (r:=1) .fz 1 rfl rfl rfl))<|J g<|E
theorem z6q {m:Md}{a0:Gm_}{a1:Rule}{r:List Oc}(hr:q6Q a0 a1=some r):Okp 145 [Gm_.y m a0,Rule.x m a1] [] (.ref 0 none) [.row .fz 2 (r.map Oc.D)]:=by
 refine OE Tryz.func145 fun S hS=>?_
 unfold q6Q at hr
 refine J g<|J (BX' 0)<|J (BX' 1)<|J g<|J (L0' 2 Oc.D)<|bdE hr fun s1 hqq1 hr=>J (gn 7)<|q0e 3 [(5,.ref 2 none)] [(2,.row .fz 2 (s1.map Oc.D))] ?_ ?_
 refine J g<|q0i hqq1 3 (fun (s2,s3)=>[(2,.pb 0 0),(3,.pb 1 0),(5,.ref 2 none),(6,dI s3)]) (fun (s2,s3)=>[(2,.row .fz 2 (s2.map Oc.D))]) I fun sk1 ok1 hr hik1=>?_
 obtain⟨s2,s3⟩:=sk1
 have hr:=hr
 refine fE 9 hr ?_ ?_<;>intro h1 hr
 refine bdE hr fun y1 hy1 hr=>J g<|J (CB' [] [] (q7X (m:=m) hy1))<|bdE hr fun y2 hy2 hr=>J (CB' [(0,3)] [] (z1y (m:=m) hy2))<|J (gn 7)<|J (lenR 3)<|fun hl2=>bdE hr fun s4 hqq2 hr=>q0d hqq2 hl2 4 (fun k2 s4=>[(2,.pb 0 0),(3,.pb 1 0),(5,.ref 2 none),(6,dI s3),(7,.ref 3 none),(8,dI (k2:Int))]) (fun k2 s4=>[(2,.row .fz 2 (s4.map Oc.D))]) I (fun k2 xk2 sk2 ok2 hxk2 hr hltk2=>?_) fun k2 hltk2=>?_
 obtain⟨s4,rfl⟩:∃ y,y=sk2:=⟨_,rfl⟩
 refine J g<|J (LIR' 4 (m:=.fz) (f:=Oc.D) (xs:=[(⟨s3,xk2.Name⟩:Oc)]))<|ggE hr fun g1 hr=>J (z1p (f:=Oc.D) 5 (fun _=>rfl) 24 g1)<|e
 refine ggE hr fun g2 hr=>e
 refine J (gn 2) ?_
 cases hr
 cases hik1 _ rfl
 exact GH.trans (q0E (q:=0) [rw3 m a0.ss_,.u] (.cons .rfl (.cons .u .nil)) rfl) (q0g hS 3)
 exact e
theorem z9h {m:Md}{a0:List Oc}{a1:Oc}{r:Int}(hr:q8M a0 a1=some r):Okp 185 [rw4 m a0,Oc.x .fz a1] [] (dI r) []:=by
 refine OE Tryz.func185 fun S hS=>?_
 unfold q8M at hr
 refine J g<|J (BX' 0)<|J (gn 8)<|J (lenT 0)<|fun hl1=>bdE hr fun q1 hqq1 hr=>q0b hqq1 hl1 1 (fun k1 _=>[(0,rw4 m a0),(3,.pb 0 0),(5,dI (k1:Int))]) (fun k1 _=>[]) I (fun k1 xk1 sk1 ok1 hxk1 hr hltk1 hik1=>?_) fun k1 sk1 ek1 hltk1=>?_
 refine J g ?_
 refine J (SQ' rfl rfl rfl rfl (q6E xk1 a1))<|fE 1 hr ?_ ?_<;>intro h1 hr
 exact e
 exact e
 subst ek1
 exact e
theorem z9i {m:Md}{a0 r:Rl_}(hr:q9U a0=some r):Okp 144 [Rl_.x m a0] [] (.ag [dI r.N,.ref 0 none]) [.row .fz 1 (r.Rows.map (A.D.i .i64))]:=by
 refine OE Tryz.func144 fun S hS=>?_
 unfold q9U at hr
 refine J g<|J (BX' 0)<|J (NV' 1)<|J g<|J (L0' 2 (A.D.i .i64))<|ggE hr fun g1 hr=>J g<|J (j7T (f:=(A.D.i .i64)) 3 8 (fun _=>rfl) g1)<|e
theorem q6c {m:Md}{a0:Rl_}{r:Bool}(hr:q4S a0=some r):Okp 91 [Rl_.x m a0] [] (dB r) []:=by
 refine OE Tryz.func91 fun S hS=>?_
 unfold q4S at hr
 refine J g<|J (BX' 0)<|bdE hr fun y1 hy1 hr=>J g<|J (CB' [] [] (q6m hy1))<|fE 1 hr ?_ ?_<;>intro h1 hr
 refine fE 9 hr ?_ ?_<;>intro h2 hr
 refine J (gn 8) ?_
 refine AW.rng (.ag 0 (.tmp 0 rfl) rfl) fun hl1=>?_
 refine bdE hr fun q1 hqq1 hr=>q0z hqq1 1 (fun k1 _=>[(1,.pb 0 0),(3,dI (k1:Int))]) (fun k1 _=>[]) I (fun k1 sk1 ok1 hr hltk1 hik1=>?_) fun sk1 ek1=>?_
 refine bdE hr fun x1 hx1 hr=>ggE hr fun g1 hr=>J g ?_
 refine J (CIU' g1 rfl)<|ggE hr fun g2 hr=>J (OB' _ (j7M g2))<|J (OB' _ (k1Q (p:=(2 ^ a0.N.toNat)) (k:=1) (by decide)))<|bdE hr fun y2 hy2 hr=>J (CB' [] [] (q6m hy2))<|fE 2 hr ?_ ?_<;>intro h3 hr
 exact e
 exact e
 subst ek1
 exact e
 exact e
 exact e
theorem j3o {m:Md}{a0:Rl_}{a1 a2:Int}{r:Rl_}(hr:q8c a0 a1 a2=some r):Okp 142 [Rl_.x m a0,dI a1,dI a2] [] (.ag [dI r.N,.ref 0 none]) [.row .fz 1 (r.Rows.map (A.D.i .i64))]:=by
 refine OE Tryz.func142 fun S hS=>?_
 unfold q8c at hr
 refine J g<|J (BX' 0)<|J (NV' 1)<|bdE hr fun y1 hy1 hr=>J g<|J (CB' [(0,2)] [] (z9i (m:=m) hy1))<|J (NV' 3)<|bdE hr fun y2 hy2 hr=>J g<|J (CB' [] [] (q6c (m:=m) hy2))<|bdE hr fun s1 hqq1 hr=>q0a 7 [(1,dI a1),(2,dI a2),(3,.pb 0 0),(6,.pb 1 0),(7,.pb 3 0),(18,dB s1)] ?_ ?_
 replace hr:=hqq1
 refine ifE hr ?_ ?_<;>intro h1 hr
 refine ggE hr fun g1 hr=>bdE hr fun y3 hy3 hr=>J g<|J (CB' [] [] (q6m hy3))<|e
 exact e
 refine bdE hr fun s2 hqq2 hr=>q0a 7 [(1,dI a1),(2,dI a2),(6,.pb 1 0),(7,.pb 3 0),(25,dB s2)] ?_ ?_
 replace hr:=hqq2
 refine ifE hr ?_ ?_<;>intro h2 hr
 refine ggE hr fun g2 hr=>bdE hr fun y4 hy4 hr=>J g<|J (CB' [] [] (q6m hy4))<|e
 exact e
 refine fE 1 hr ?_ ?_<;>intro h3 hr
 refine ggE hr fun g3 hr=>bdE hr fun x1 hx1 hr=>ggE hr fun g4 hr=>J g ?_
 refine J (CIU' g4 rfl)<|ggE hr fun g5 hr=>J (OB' _ (j7M g5))<|ggE hr fun g6 hr=>J (OB' _ (bOrI g6))<|J g<|J (SE' ((x1.toNat ||| ((2 ^ a2.toNat:Nat):Int).toNat:Nat):Int) hx1)<|J g<|E
 exact e
theorem j0N {m:Md}{a0:Gm_}{a1:Rule}{r:Rl_}(hr:q7D a0 a1=some r):Okp 139 [Gm_.y m a0,Rule.x m a1] [] (.ag [dI r.N,.ref 0 none]) [.row .fz 1 (r.Rows.map (A.D.i .i64))]:=by
 refine OE Tryz.func139 fun S hS=>?_
 unfold q7D at hr
 refine J g<|J (BX' 0)<|J (BX' 1)<|J (NV' 2)<|bdE hr fun y1 hy1 hr=>J g<|J (CB' [(0,3)] [] (z6q (m:=m) hy1))<|bdE hr fun y2 hy2 hr=>J g<|J (CB' [(0,4)] [] (z2V hy2))<|J (NV' 5)<|bdP hr fun s1 s2 hqq1 hr=>J (gn 7)<|q0e 6 [(4,.pb 2 0),(6,.pb 5 0)] [(4,.row .fz 1 (s1.map (A.D.i .i64))),(5,.box [dI s2,.ref 4 none])] ?_ ?_
 refine J g<|q0i hqq1 6 (fun (s3,s4,s5)=>[(3,.pb 1 0),(4,.pb 2 0),(5,.ref 3 none),(6,.pb 5 0),(7,dI s3)]) (fun (s3,s4,s5)=>[(4,.row .fz 1 (s4.map (A.D.i .i64))),(5,.box [dI s5,.ref 4 none])]) I fun sk1 ok1 hr hik1=>?_
 obtain⟨s3,s4,s5⟩:=sk1
 have hr:=hr
 refine fE 7 hr ?_ ?_<;>intro h1 hr
 refine fE 6 hr ?_ ?_<;>intro h2 hr
 refine bdP hr fun s6 s7 hqq2 hr=>J (gn 3)<|q0e 6 [(3,.pb 1 0),(4,.pb 2 0),(5,.ref 3 none),(6,.pb 5 0),(7,dI s3),(23,.pb 5 0),(24,dI s5),(25,dB (decide (0<s5)))] [(4,.row .fz 1 (s6.map (A.D.i .i64))),(5,.box [dI s7,.ref 4 none])] ?_ ?_
 replace hr:=hqq2
 refine ggE hr fun g1 hr=>bdE hr fun x1 hx1 hr=>bdP hr fun y3 y4 hq3 hr=>J g<|J (CB' [(0,6)] [] (z3T (m:=m) hq3))<|J g<|J (NV' 7)<|fE 9 hr ?_ ?_<;>intro h3 hr
 refine J (gn 5) ?_
 refine J (q0p 6 rfl)<|bdE hr fun y5 hy5 hr=>J (CB' [] [] (z2U (m:=.fz) hy5))<|J (gn 7)<|J (lenT 10)<|fun hl2=>bdP hr fun s8 s9 hqq4 hr=>q0d hqq4 hl2 8 (fun k2 (s8,s9)=>[(3,.pb 1 0),(4,.pb 2 0),(5,.ref 3 none),(6,.pb 5 0),(7,dI s3),(10,rw4 .fz y5),(11,dI (k2:Int)),(23,.pb 5 0),(24,dI s5),(25,dB (decide (0<s5)))]) (fun k2 (s8,s9)=>[(4,.row .fz 1 (s8.map (A.D.i .i64))),(5,.box [dI s9,.ref 4 none]),(6,.none)]) I (fun k2 xk2 sk2 ok2 hxk2 hr hltk2=>?_) fun k2 hltk2=>?_
 obtain⟨s8,s9⟩:=sk2
 refine bdE hr fun y6 hy6 hr=>J g<|J (CB' [] [3] (z9h (m:=.bo) hy6))<|bdE hr fun y7 hy7 hr=>J g<|J (CB' [(0,8)] [4] (j3o (m:=.bo) hy7))<|e
 exact e
 exact e
 refine ggE hr fun g2 hr=>e
 refine J (gn 2) ?_
 cases hr
 cases hik1 _ rfl
 exact GH.trans (q0E (q:=0) [rw3 m a0.ss_,.u] (.cons .rfl (.cons .u .nil)) rfl) (q0g hS 6)
 refine J (gn 8) ?_
 cases hr
 cases hik1 _ rfl
 exact GH.trans (q0E (q:=0) [rw3 m a0.ss_,.u] (.cons .rfl (.cons .u .nil)) rfl) (q0g hS 6)
 exact e
theorem z4W {m:Md}{a0:Gm_}{a1:Rule}{a2:Int}{r:List Int}(hr:q7s a0 a1 a2=some r):Okp 89 [Gm_.y m a0,Rule.x m a1,dI a2] [] (.ref 0 none) [.row .fz 1 (r.map (A.D.i .i64))]:=by
 refine OE Tryz.func89 fun S hS=>?_
 unfold q7s at hr
 refine J g<|J (BX' 0)<|J (BX' 1)<|J g<|J (L0' 2 (A.D.i .i64))<|bdE hr fun y1 hy1 hr=>J g<|J (CB' [(0,3)] [] (z6q (m:=m) hy1))<|J (gn 8)<|J (lenR 3)<|fun hl1=>bdE hr fun s1 hqq1 hr=>q0d hqq1 hl1 4 (fun k1 s1=>[(2,dI a2),(7,.ref 2 none),(8,.ref 3 none),(9,dI (k1:Int))]) (fun k1 s1=>[(2,.row .fz 1 (s1.map (A.D.i .i64)))]) I (fun k1 xk1 sk1 ok1 hxk1 hr hltk1=>?_) fun k1 hltk1=>?_
 obtain⟨s1,rfl⟩:∃ y,y=sk1:=⟨_,rfl⟩
 refine bdE hr fun s2 hqq2 hr=>J (gn 11)<|q0e 4 [(2,dI a2),(7,.ref 2 none),(8,.ref 3 none),(9,dI (k1:Int))] [(2,.row .fz 1 (s2.map (A.D.i .i64)))] ?_ ?_
 replace hr:=hqq2
 refine fE 11 hr ?_ ?_<;>intro h1 hr
 refine J g<|J (LIR' 4 (m:=.fz) (f:=(A.D.i .i64)) (xs:=([(k1:Int)]:List Int)))<|ggE hr fun g1 hr=>J (z1p (f:=(A.D.i .i64)) 5 (fun _=>rfl) 8 g1)<|e
 exact e
 exact e
 exact e
theorem z6V {m:Md}{a0:Rl_}{a1 a2:Int}{r:Bool}(hr:q8G a0 a1 a2=some r):Okp 141 [Rl_.x m a0,dI a1,dI a2] [] (dB r) []:=by
 refine OE Tryz.func141 fun S hS=>?_
 unfold q8G at hr
 refine J g<|J (BX' 0)<|bdE hr fun y1 hy1 hr=>J g<|J (CB' [] [] (q6c (m:=m) hy1))<|bdE hr fun s1 hqq1 hr=>q0a 7 [(1,dI a1),(2,dI a2),(3,.pb 0 0),(6,dB false),(15,dB s1)] ?_ ?_
 replace hr:=hqq1
 refine ifE hr ?_ ?_<;>intro h1 hr
 refine ggE hr fun g1 hr=>bdE hr fun y2 hy2 hr=>J g<|J (CB' [] [] (q6m hy2))<|e
 exact e
 refine bdE hr fun s2 hqq2 hr=>q0a 7 [(1,dI a1),(2,dI a2),(3,.pb 0 0),(6,dB false),(22,dB s2)] ?_ ?_
 replace hr:=hqq2
 refine ifE hr ?_ ?_<;>intro h2 hr
 refine ggE hr fun g2 hr=>bdE hr fun y3 hy3 hr=>J g<|J (CB' [] [] (q6m hy3))<|e
 exact e
 refine bdE hr fun s3 hqq3 hr=>q0a 12 [(6,dB false),(34,dB s3)] ?_ ?_
 replace hr:=hqq3
 refine ifE hr ?_ ?_<;>intro h3 hr
 refine ggE hr fun g3 hr=>bdE hr fun x1 hx1 hr=>ggE hr fun g4 hr=>J g ?_
 refine J (CIU' g4 rfl)<|ggE hr fun g5 hr=>J (OB' _ (k5I g5))<|ggE hr fun g6 hr=>J (OB' _ (k5J g6))<|J g<|E
 exact e
 exact e
theorem z6r {m:Md}{a0 r:Rl_}(hr:q8H a0=some r):Okp 143 [Rl_.x m a0] [] (.ag [dI r.N,.ref 0 none]) [.row .fz 1 (r.Rows.map (A.D.i .i64))]:=by
 refine OE Tryz.func143 fun S hS=>?_
 unfold q8H at hr
 refine J g<|J (BX' 0)<|J (NV' 1)<|bdE hr fun y1 hy1 hr=>J g<|J (CB' [(0,2)] [] (z9i (m:=m) hy1))<|J (NV' 3)<|bdE hr fun y2 hy2 hr=>J g<|J (CB' [] [] (q6c (m:=m) hy2))<|fE 2 hr ?_ ?_<;>intro h1 hr
 refine J (gn 8) ?_
 refine AW.rng (.ag 0 (.tmp 0 rfl) rfl) fun hl1=>?_
 refine bdE hr fun s1 hqq1 hr=>q0n hqq1 4 (fun k1 s1=>[(1,.pb 0 0),(2,.pb 1 0),(3,.pb 3 0),(4,dI (k1:Int))]) (fun k1 s1=>[(2,.row .fz 1 (s1.map (A.D.i .i64)))]) I (fun k1 sk1 ok1 hr hltk1=>?_) ?_
 obtain⟨s1,rfl⟩:∃ y,y=sk1:=⟨_,rfl⟩
 refine J (gn 17)<|J (rngT 14)<|fun hl2=>bdE hr fun s2 hqq2 hr=>q0n hqq2 4 (fun k2 s2=>[(1,.pb 0 0),(2,.pb 1 0),(3,.pb 3 0),(4,dI (k1:Int)),(5,dI (k2:Int))]) (fun k2 s2=>[(2,.row .fz 1 (s2.map (A.D.i .i64)))]) I (fun k2 sk2 ok2 hr hltk2=>?_) ?_
 obtain⟨s2,rfl⟩:∃ y,y=sk2:=⟨_,rfl⟩
 refine bdE hr fun s3 hqq3 hr=>J (gn 11)<|q0e 4 [(1,.pb 0 0),(2,.pb 1 0),(3,.pb 3 0),(4,dI (k1:Int)),(5,dI (k2:Int))] [(2,.row .fz 1 (s3.map (A.D.i .i64)))] ?_ ?_
 replace hr:=hqq3
 refine bdE hr fun x1 hx1 hr=>J g ?_
 refine J (CIU' (Eaz _) rfl)<|ggE hr fun g1 hr=>J (OB' _ (k5I g1))<|ggE hr fun g2 hr=>J (OB' _ (k5J g2))<|fE 2 hr ?_ ?_<;>intro h2 hr
 refine bdE hr fun x2 hx2 hr=>ggE hr fun g3 hr=>J g<|J (OB' _ (bOrI g3))<|J g<|J (SE' ((x1.toNat ||| x2.toNat:Nat):Int) hx1)<|e
 exact e
 exact e
 exact e
 exact e
 exact e
theorem j9F {m:Md}{a0:Gm_}{a1:Rule}{a2:List Rl_}{r:Rl_}(hr:z6l a0 a1 a2=some r):Okp 85 [Gm_.y m a0,Rule.x m a1,rw11 m a2] [] (.ag [dI r.N,.ref 0 none]) [.row .fz 1 (r.Rows.map (A.D.i .i64))]:=by
 refine OE Tryz.func85 fun S hS=>?_
 unfold z6l at hr
 refine J g<|J (BX' 0)<|J (BX' 1)<|J (NV' 2)<|bdE hr fun y1 hy1 hr=>J g<|J (CB' [(0,3)] [] (j0N (m:=m) hy1))<|J (NV' 4)<|bdP hr fun s1 s2 hqq1 hr=>J (gn 7)<|q0e 5 [(6,.pb 2 0),(7,.pb 4 0)] [(3,.row .fz 1 (s1.map (A.D.i .i64))),(4,.box [dI s2,.ref 3 none])] ?_ ?_
 refine J g<|q0i hqq1 5 (fun (s3,s4,s5)=>[(2,rw11 m a2),(3,.pb 0 0),(4,.pb 1 0),(6,.pb 2 0),(7,.pb 4 0),(8,dI s3)]) (fun (s3,s4,s5)=>[(3,.row .fz 1 (s4.map (A.D.i .i64))),(4,.box [dI s5,.ref 3 none])]) I fun sk1 ok1 hr hik1=>?_
 obtain⟨s3,s4,s5⟩:=sk1
 have hr:=hr
 refine fE 9 hr ?_ ?_<;>intro h1 hr
 refine bdE hr fun y2 hy2 hr=>J g<|J (CB' [(0,5)] [] (z4W (m:=m) hy2))<|bdE hr fun y3 hy3 hr=>J g<|J (CB' [] [] (q7X (m:=m) hy3))<|bdE hr fun y4 hy4 hr=>J (CB' [] [] (z8c (m:=m) hy4))<|bdE hr fun y5 hy5 hr=>J (CB' [] [] (j0c hy5))<|ggE hr fun g1 hr=>bdE hr fun x1 hx1 hr=>J g<|J (NV' 6)<|J (gn 7)<|J (lenR 5)<|fun hl2=>bdP hr fun s6 s7 hqq2 hr=>q0d hqq2 hl2 7 (fun k2 (s6,s7)=>[(2,rw11 m a2),(3,.pb 0 0),(4,.pb 1 0),(6,.pb 2 0),(7,.pb 4 0),(8,dI s3),(9,.ref 5 none),(10,.pb 6 0),(11,dI (k2:Int))]) (fun k2 (s6,s7)=>[(3,.row .fz 1 (s6.map (A.D.i .i64))),(4,.box [dI s7,.ref 3 none])]) I (fun k2 xk2 sk2 ok2 hxk2 hr hltk2=>?_) fun k2 hltk2=>?_
 obtain⟨s6,s7⟩:=sk2
 refine J (gn 17)<|J (lenR 5)<|fun hl3=>bdP hr fun s8 s9 hqq3 hr=>q0d hqq3 hl3 7 (fun k3 (s8,s9)=>[(2,rw11 m a2),(3,.pb 0 0),(4,.pb 1 0),(6,.pb 2 0),(7,.pb 4 0),(8,dI s3),(9,.ref 5 none),(10,.pb 6 0),(11,dI (k2:Int)),(12,dI (k3:Int))]) (fun k3 (s8,s9)=>[(3,.row .fz 1 (s8.map (A.D.i .i64))),(4,.box [dI s9,.ref 3 none])]) I (fun k3 xk3 sk3 ok3 hxk3 hr hltk3=>?_) fun k3 hltk3=>?_
 obtain⟨s8,s9⟩:=sk3
 refine bdP hr fun s10 s11 hqq4 hr=>J (gn 11)<|q0e 7 [(2,rw11 m a2),(3,.pb 0 0),(4,.pb 1 0),(6,.pb 2 0),(7,.pb 4 0),(8,dI s3),(9,.ref 5 none),(10,.pb 6 0),(11,dI (k2:Int)),(12,dI (k3:Int))] [(3,.row .fz 1 (s10.map (A.D.i .i64))),(4,.box [dI s11,.ref 3 none])] ?_ ?_
 replace hr:=hqq4
 refine bdE hr fun y6 hy6 hr=>J g<|J (CB' [] [] (z6V (m:=m) hy6))<|fE 1 hr ?_ ?_<;>intro h2 hr
 refine bdE hr fun y7 hy7 hr=>J g<|J (CB' [(0,7)] [3] (j3o (m:=.bo) hy7))<|e
 exact e
 exact e
 exact e
 refine ggE hr fun g2 hr=>e
 refine J (gn 2) ?_
 cases hr
 cases hik1 _ rfl
 exact GH.trans (q0E (q:=0) [rw3 m a0.ss_,.u] (.cons .rfl (.cons .u .nil)) rfl) (q0g hS 5)
 refine bdE hr fun y8 hy8 hr=>J g<|J (CB' [(0,5)] [3] (z6r (m:=.bo) hy8))<|e
theorem j3p {m:Md}{a0:Rl_}{r:Bool}(hr:z1I a0=some r):Okp 86 [Rl_.x m a0] [] (dB r) []:=by
 refine OE Tryz.func86 fun S hS=>?_
 unfold z1I at hr
 refine J g<|J (BX' 0)<|bdE hr fun y1 hy1 hr=>J g<|J (CB' [] [] (q6c (m:=m) hy1))<|fE 2 hr ?_ ?_<;>intro h1 hr
 refine bdE hr fun y2 hy2 hr=>J g<|J (CB' [(0,1)] [] (z6r (m:=m) hy2))<|J (NV' 2)<|J (gn 8) ?_
 refine AW.rng (.ag 0 (.tmp 0 rfl) rfl) fun hl1=>?_
 refine bdE hr fun q1 hqq1 hr=>q0z hqq1 3 (fun k1 _=>[(1,.pb 0 0),(3,.pb 2 0),(4,dI (k1:Int))]) (fun k1 _=>[]) I (fun k1 sk1 ok1 hr hltk1 hik1=>?_) fun sk1 ek1=>?_
 refine bdE hr fun y3 hy3 hr=>J g<|J (CB' [] [1] (z6V (m:=.bo) hy3))<|fE 1 hr ?_ ?_<;>intro h2 hr
 exact e
 exact e
 subst ek1
 exact e
 exact e
theorem z9j {m:Md}{a0:Rl_}{a1:List Int}{r:Rl_}(hr:q5V a0 a1=some r):Okp 88 [Rl_.x m a0,rw1 m a1] [] (.ag [dI r.N,.ref 0 none]) [.row .fz 1 (r.Rows.map (A.D.i .i64))]:=by
 refine OE Tryz.func88 fun S hS=>?_
 unfold q5V at hr
 refine J g<|J (BX' 0)<|J (NV' 1)<|bdE hr fun y1 hy1 hr=>J g<|J (CB' [] [] (q6c (m:=m) hy1))<|fE 1 hr ?_ ?_<;>intro h1 hr
 refine fE 6 hr ?_ ?_<;>intro h2 hr
 refine J (gn 7) ?_
 refine J (q0c (q0o (q:=1) (c:=1) (r:=2) .fz 1 rfl rfl rfl))<|J g<|E
 refine bdE hr fun y2 hy2 hr=>J g<|J (CB' [(0,2)] [] (z2V hy2))<|J (NV' 3)<|J (gn 8)<|J (lenT 1)<|fun hl1=>bdE hr fun s1 hqq1 hr=>q0d hqq1 hl1 4 (fun k1 s1=>[(1,rw1 m a1),(2,.pb 0 0),(4,.pb 1 0),(5,.pb 3 0),(6,dI (k1:Int))]) (fun k1 s1=>[(2,.row .fz 1 (s1.map (A.D.i .i64)))]) I (fun k1 xk1 sk1 ok1 hxk1 hr hltk1=>?_) fun k1 hltk1=>?_
 obtain⟨s1,rfl⟩:∃ y,y=sk1:=⟨_,rfl⟩
 refine J (gn 17)<|J (lenT 1)<|fun hl2=>bdE hr fun s2 hqq2 hr=>q0d hqq2 hl2 4 (fun k2 s2=>[(1,rw1 m a1),(2,.pb 0 0),(4,.pb 1 0),(5,.pb 3 0),(6,dI (k1:Int)),(7,dI (k2:Int))]) (fun k2 s2=>[(2,.row .fz 1 (s2.map (A.D.i .i64)))]) I (fun k2 xk2 sk2 ok2 hxk2 hr hltk2=>?_) fun k2 hltk2=>?_
 obtain⟨s2,rfl⟩:∃ y,y=sk2:=⟨_,rfl⟩
 refine bdE hr fun s3 hqq3 hr=>J (gn 11)<|q0e 4 [(1,rw1 m a1),(2,.pb 0 0),(4,.pb 1 0),(5,.pb 3 0),(6,dI (k1:Int)),(7,dI (k2:Int))] [(2,.row .fz 1 (s3.map (A.D.i .i64)))] ?_ ?_
 replace hr:=hqq3
 refine bdE hr fun y3 hy3 hr=>J g<|J (CB' [] [] (z6V (m:=m) hy3))<|fE 1 hr ?_ ?_<;>intro h3 hr
 refine bdE hr fun x1 hx1 hr=>J g ?_
 refine J (CIU' (Eaz _) rfl)<|ggE hr fun g1 hr=>J (OB' _ (j7M g1))<|ggE hr fun g2 hr=>J (OB' _ (bOrI g2))<|J g<|J (SE' ((x1.toNat ||| ((2 ^ (k2:Int).toNat:Nat):Int).toNat:Nat):Int) hx1)<|J g<|E
 exact e
 exact e
 exact e
 exact e
 refine J (gn 13) ?_
 refine J (q0c (q0o (q:=1) (c:=1) (r:=2) .fz 1 rfl rfl rfl))<|J g<|E
theorem j0O {m:Md}{a0 a1 r:Rl_}(hr:q9N a0 a1=some r):Okp 87 [Rl_.x m a0,Rl_.x m a1] [] (.ag [dI r.N,.ref 0 none]) [.row .fz 1 (r.Rows.map (A.D.i .i64))]:=by
 refine OE Tryz.func87 fun S hS=>?_
 unfold q9N at hr
 refine J g<|J (BX' 0)<|J (BX' 1)<|J (NV' 2)<|bdE hr fun y1 hy1 hr=>J g<|J (CB' [(0,3)] [] (z9i (m:=m) hy1))<|J (NV' 4)<|bdE hr fun y2 hy2 hr=>J g<|J (CB' [] [] (q6c (m:=m) hy2))<|bdE hr fun s1 hqq1 hr=>J (gn 1)<|q0a 5 [(2,.pb 0 0),(3,.pb 1 0),(4,.pb 2 0),(5,.pb 4 0),(16,dB s1)] ?_ ?_
 replace hr:=hqq1
 refine ifE hr ?_ ?_<;>intro h1 hr
 refine bdE hr fun y3 hy3 hr=>J g<|J (CB' [] [] (q6c (m:=m) hy3))<|e
 exact e
 refine bdE hr fun s2 hqq2 hr=>q0a 7 [(2,.pb 0 0),(3,.pb 1 0),(4,.pb 2 0),(5,.pb 4 0),(23,dB s2)] ?_ ?_
 replace hr:=hqq2
 refine ifE hr ?_ ?_<;>intro h2 hr
 exact e
 exact e
 refine fE 1 hr ?_ ?_<;>intro h3 hr
 exact e
 refine J (gn 8) ?_
 refine AW.rng (.box 0 0 rfl rfl) fun hl1=>?_
 refine bdE hr fun s3 hqq3 hr=>q0n hqq3 5 (fun k1 s3=>[(2,.pb 0 0),(3,.pb 1 0),(4,.pb 2 0),(5,.pb 4 0),(6,dI (k1:Int))]) (fun k1 s3=>[(3,.row .fz 1 (s3.map (A.D.i .i64)))]) I (fun k1 sk1 ok1 hr hltk1=>?_) ?_
 obtain⟨s3,rfl⟩:∃ y,y=sk1:=⟨_,rfl⟩
 refine bdE hr fun x1 hx1 hr=>bdE hr fun x2 hx2 hr=>ggE hr fun g1 hr=>J g<|J (OB' _ (bOrI g1))<|J g<|J (SE' ((x1.toNat ||| x2.toNat:Nat):Int) hx1)<|e
 exact e
theorem k2l {m:Md}{a0 a1:List Int}{r:Bool}(hr:z9X a0 a1=some r):Okp 146 [rw1 m a0,rw1 m a1] [] (dB r) []:=by
 refine OE Tryz.func146 fun S hS=>?_
 unfold z9X at hr
 refine fE 13 hr ?_ ?_<;>intro h1 hr
 refine J (gn 8)<|J (lenT 0)<|fun hl1=>bdE hr fun q1 hqq1 hr=>q0b hqq1 hl1 0 (fun k1 _=>[(0,rw1 m a0),(1,rw1 m a1),(5,dI (k1:Int))]) (fun k1 _=>[]) I (fun k1 xk1 sk1 ok1 hxk1 hr hltk1 hik1=>?_) fun k1 sk1 ek1 hltk1=>?_
 refine bdE hr fun x1 hx1 hr=>fE 24 hr ?_ ?_<;>intro h2 hr
 exact e
 exact e
 subst ek1
 exact e
 exact e
theorem j0P {m:Md}{a0 a1:Rl_}{r:Bool}(hr:q9O a0 a1=some r):Okp 90 [Rl_.x m a0,Rl_.x m a1] [] (dB r) []:=by
 refine OE Tryz.func90 fun S hS=>?_
 unfold q9O at hr
 refine J g<|J (BX' 0)<|J (BX' 1)<|fE 9 hr ?_ ?_<;>intro h1 hr
 refine bdE hr fun y1 hy1 hr=>J g<|J (CB' [] [] (k2l (m:=m) hy1))<|e
 exact e
theorem z8L {m:Md}{a0:Gm_}{r:((List Rl_)×Bool)}(hr:q8w a0=some r):Okp 44 [Gm_.x m a0] [] (.tu [.ref 0 none,dB r.2]) [.row .fz 2 (r.1.map Rl_.D)]:=by
 refine OE Tryz.func44 fun S hS=>?_
 unfold q8w at hr
 refine J g<|J (BX' 0)<|bdE hr fun y1 hy1 hr=>J g<|J (CB' [] [] (j8g (m:=m) hy1))<|fE 2 hr ?_ ?_<;>intro h1 hr
 refine J g<|J (L0' 1 Rl_.D)<|J (gn 8)<|J (lenA 0 0)<|fun hl1=>bdE hr fun s1 hqq1 hr=>q0d hqq1 hl1 2 (fun k1 s1=>[(1,.pb 0 0),(4,.ref 1 none),(5,dI (k1:Int))]) (fun k1 s1=>[(1,.row .fz 2 (s1.map Rl_.D))]) I (fun k1 xk1 sk1 ok1 hxk1 hr hltk1=>?_) fun k1 hltk1=>?_
 obtain⟨s1,rfl⟩:∃ y,y=sk1:=⟨_,rfl⟩
 refine bdE hr fun y2 hy2 hr=>J g<|J (CB' [(0,2)] [] (z1y (m:=m) hy2))<|bdE hr fun y3 hy3 hr=>J g<|J (CBz' 3 [(0,3)] [] (z2V hy3))<|J (LIR' 4 (m:=.fz) (f:=Rl_.D) (xs:=[y3]))<|ggE hr fun g1 hr=>J (AP1' 5 .fz 32 g1)<|J (q0G .refl)<|e
 refine bdE hr fun q2 hqq2 hr=>J g<|q0i hqq2 2 (fun s2=>[(1,.pb 0 0),(4,.ref 1 none)]) (fun s2=>[(1,.row .fz 2 (s2.map Rl_.D))]) I fun sk2 ok2 hr hik2=>?_
 obtain⟨s2,rfl⟩:∃ y,y=sk2:=⟨_,rfl⟩
 refine J (gn 11) ?_
 refine AW.len (.box 0 1 rfl rfl) fun hl3=>?_
 refine bdE hr fun q3 hqq3 hr=>q0b hqq3 hl3 2 (fun k3 (s3,s4)=>[(1,.pb 0 0),(4,.ref 1 none),(6,dB s4),(7,dI (k3:Int))]) (fun k3 (s3,s4)=>[(1,.row .fz 2 (s3.map Rl_.D))]) I (fun k3 xk3 sk3 ok3 hxk3 hr hltk3 hik3=>?_) fun k3 sk3 ek3 hltk3=>?_
 obtain⟨s3,s4⟩:=sk3
 refine J g<|J (NV' 2)<|bdE hr fun y4 hy4 hr=>J g<|J (CB' [(0,3)] [1] (j9F (m:=.bo) hy4))<|J (NV' 4)<|bdE hr fun y5 hy5 hr=>J g<|J (CB' [] [3] (j3p (m:=.bo) hy5))<|fE 1 hr ?_ ?_<;>intro h2 hr
 refine J g<|J (L0' 5 Rl_.D)<|e
 refine bdP hr fun s5 s6 hqq4 hr=>J (gn 6)<|q0e 5 [(1,.pb 0 0),(4,.ref 1 none),(6,dB s6),(7,dI (k3:Int))] [(1,.row .fz 2 (s5.map Rl_.D))] ?_ ?_
 refine J g<|q0i hqq4 5 (fun (s7,s8,s9)=>[(1,.pb 0 0),(4,.ref 1 none),(6,dB s8),(7,dI (k3:Int)),(8,.pb 2 0),(9,.pb 4 0),(10,dI s9)]) (fun (s7,s8,s9)=>[(1,.row .fz 2 (s7.map Rl_.D))]) I fun sk4 ok4 hr hik4=>?_
 obtain⟨s7,s8,s9⟩:=sk4
 have hr:=hr
 refine fE 9 hr ?_ ?_<;>intro h3 hr
 refine bdP hr fun s10 s11 hqq5 hr=>J (gn 3)<|q0e 5 [(1,.pb 0 0),(4,.ref 1 none),(6,dB s10),(7,dI (k3:Int)),(8,.pb 2 0),(9,.pb 4 0),(10,dI s9)] [(1,.row .fz 2 (s11.map Rl_.D))] ?_ ?_
 replace hr:=hqq5
 refine bdE hr fun y6 hy6 hr=>J g<|J (CB' [] [] (q7X (m:=m) hy6))<|bdE hr fun y7 hy7 hr=>J (CB' [] [] (z8c (m:=m) hy7))<|ggE hr fun g2 hr=>bdE hr fun x1 hx1 hr=>bdE hr fun y8 hy8 hr=>J g<|J (CB' [(0,5)] [] (z4W (m:=m) hy8))<|bdE hr fun y9 hy9 hr=>J (CB' [(0,6)] [3,5] (z9j (m:=.bo) hy9))<|bdE hr fun y10 hy10 hr=>J (CB' [(0,7)] [6] (j0O (m:=.bo) hy10))<|J (NV' 8)<|fE 5 hr ?_ ?_<;>intro h4 hr
 refine J (gn 9)<|J (q0G .refl)<|J (gn 7) ?_
 refine J (q0p 7 rfl)<|J (SE' y10 hx1)<|J g<|E
 refine bdE hr fun y11 hy11 hr=>J g<|J (CB' [] [7] (j0P (m:=.bo) hy11))<|J (gn 2)<|J (q0G .refl)<|J (gn 7) ?_
 refine J (q0p 7 rfl)<|J (SE' y10 hx1)<|J g<|E
 refine ggE hr fun g3 hr=>e
 refine J (gn 2) ?_
 cases hr
 cases hik4 _ rfl
 exact q0g hS 5
 exact e
 subst ek3
 obtain⟨s3,s4⟩:=sk3
 refine fE 16 hr ?_ ?_<;>intro h5 hr
 exact e
 exact e
 refine J g<|J (L0' 1 Rl_.D)<|e
theorem j8h {m:Md}{a0:Rl_}{a1:List Bool}{a2:Int}{r:Bool}(hr:z2O a0 a1 a2=some r):Okp 147 [Rl_.x m a0,.d m (.sl 1 (a1.map A.D.b)),dI a2] [] (dB r) []:=by
 refine OE Tryz.func147 fun S hS=>?_
 unfold z2O at hr
 refine J g<|J (BX' 0)<|J (gn 8) ?_
 refine AW.rng (.ag 0 (.tmp 0 rfl) rfl) fun hl1=>?_
 refine bdE hr fun q1 hqq1 hr=>q0z hqq1 1 (fun k1 _=>[(1,.d m (.sl 1 (a1.map A.D.b))),(2,dI a2),(3,.pb 0 0),(7,dI (k1:Int))]) (fun k1 _=>[]) I (fun k1 sk1 ok1 hr hltk1 hik1=>?_) fun sk1 ek1=>?_
 refine bdE hr fun y1 hy1 hr=>J g<|J (CB' [] [] (z6V (m:=m) hy1))<|ifE hr ?_ ?_<;>intro h1 hr
 refine bdE hr fun x1 hx1 hr=>fE 8 hr ?_ ?_<;>intro h2 hr
 exact e
 exact e
 exact e
 subst ek1
 exact e
theorem j3q {m:Md}{a0:List At_}{a1:Rl_}{a2:List Bool}{a3:Int}{r:((List BA_)×(List Bool))}(hr:z1J a0 a1 a2 a3=some r):Okp 92 [rw6 m a0,Rl_.x m a1,.ref 0 none,dI a3] [.row .fz 1 (a2.map A.D.b)] (.ref 1 none) [.row .fz 1 (r.2.map A.D.b),.row .fz 1 (r.1.map A.D.s)]:=by
 refine OE Tryz.func92 fun S hS=>?_
 unfold z1J at hr
 refine J g<|J (BX' 1)<|J g<|J (L0' 2 A.D.s)<|bdE hr fun q1 hqq1 hr=>J g<|q0i hqq1 3 (fun (s1,s2)=>[(0,rw6 m a0),(2,.ref 0 none),(3,dI a3),(5,.pb 1 0),(9,.ref 2 none)]) (fun (s1,s2)=>[(0,.row .fz 1 (s2.map A.D.b)),(2,.row .fz 1 (s1.map A.D.s))]) I fun sk1 ok1 hr hik1=>?_
 obtain⟨s1,s2⟩:=sk1
 refine J g<|J (OB' _ (k1Q (p:=a0.length) (k:=1) (by decide)))<|bdE hr fun s3 hqq2 hr=>J (gn 2)<|q0e 3 [(0,rw6 m a0),(2,.ref 0 none),(3,dI a3),(5,.pb 1 0),(9,.ref 2 none),(10,dI s3)] [] ?_ ?_
 refine J g<|q0i hqq2 3 (fun (s4,s5)=>[(0,rw6 m a0),(2,.ref 0 none),(3,dI a3),(5,.pb 1 0),(9,.ref 2 none),(10,dI s4),(11,dI s5)]) (fun (s4,s5)=>[]) I fun sk2 ok2 hr hik2=>?_
 obtain⟨s4,s5⟩:=sk2
 have hr:=hr
 refine fE 6 hr ?_ ?_<;>intro h1 hr
 refine bdE hr fun s6 hqq3 hr=>J (gn 3)<|q0e 3 [(0,rw6 m a0),(2,.ref 0 none),(3,dI a3),(5,.pb 1 0),(9,.ref 2 none),(10,dI s6),(11,dI s5)] [] ?_ ?_
 replace hr:=hqq3
 refine ggE hr fun g1 hr=>bdE hr fun x1 hx1 hr=>bdE hr fun s7 hqq4 hr=>J (gn 10)<|q0a 7 [(0,rw6 m a0),(2,.ref 0 none),(3,dI a3),(5,.pb 1 0),(9,.ref 2 none),(10,dI s4),(11,dI s5),(33,dB s7)] ?_ ?_
 replace hr:=hqq4
 refine ifE hr ?_ ?_<;>intro h2 hr
 refine ggE hr fun g2 hr=>bdE hr fun x2 hx2 hr=>e
 exact e
 refine bdE hr fun s8 hqq5 hr=>q0a 6 [(0,rw6 m a0),(2,.ref 0 none),(3,dI a3),(5,.pb 1 0),(9,.ref 2 none),(10,dI s4),(11,dI s5),(39,dB s8)] ?_ ?_
 replace hr:=hqq5
 refine ifE hr ?_ ?_<;>intro h3 hr
 refine bdE hr fun y1 hy1 hr=>J g<|J (CB' [] [0] (j8h (m:=.bo) hy1))<|e
 exact e
 refine fE 1 hr ?_ ?_<;>intro h4 hr
 exact e
 exact e
 refine ggE hr fun g3 hr=>e
 refine J (gn 2) ?_
 cases hr
 cases hik2 _ rfl
 exact q0g hS 3
 refine fE 6 hr ?_ ?_<;>intro h5 hr
 exact e
 refine ggE hr fun g4 hr=>bdE hr fun x3 hx3 hr=>J g<|J (SE' true hx3)<|ggE hr fun g5 hr=>bdE hr fun x4 hx4 hr=>J g<|J (LIR' 3 (m:=.fz) (f:=A.D.s) (xs:=[x4.Name]))<|ggE hr fun g6 hr=>J (z1p (f:=A.D.s) 4 (fun _=>rfl) 16 g6)<|e
theorem j8i {m:Md}{a0:List At_}{a1:Rl_}{r:((List Ph_)×Bool)}(hr:z4T a0 a1=some r):Okp 45 [rw6 m a0,Rl_.x m a1] [] (.tu [.ref 0 none,dB r.2]) [.row .fz 2 (r.1.map Ph_.D)]:=by
 refine OE Tryz.func45 fun S hS=>?_
 unfold z4T at hr
 refine J g<|J (BX' 0)<|bdE hr fun y1 hy1 hr=>J g<|J (CB' [] [] (q6c (m:=m) hy1))<|bdE hr fun s1 hqq1 hr=>J (gn 1)<|q0a 7 [(0,rw6 m a0),(3,.pb 0 0),(20,dB s1)] ?_ ?_
 replace hr:=hqq1
 refine ifE hr ?_ ?_<;>intro h1 hr
 exact e
 exact e
 refine bdE hr fun s2 hqq2 hr=>q0a 4 [(0,rw6 m a0),(3,.pb 0 0),(24,dB s2)] ?_ ?_
 replace hr:=hqq2
 refine ifE hr ?_ ?_<;>intro h2 hr
 exact e
 refine bdE hr fun y2 hy2 hr=>J g<|J (CB' [] [] (j3p (m:=m) hy2))<|e
 refine fE 1 hr ?_ ?_<;>intro h3 hr
 refine J g<|J (L0' 1 Ph_.D)<|e
 refine J g<|J (L0' 1 Ph_.D)<|ggE hr fun g1 hr=>J g<|J (MKR' 2 (f:=A.D.b) false g1.1 g1.2.1 g1.2.2)<|bdE hr fun q3 hqq3 hr=>J (gn 9)<|AW.cut 3 (fun (s3,s4)=>[(6,.ref 1 none)]) (fun (s3,s4)=>[(1,.row .fz 2 (s3.map Ph_.D)),(2,.row .fz 1 (s4.map A.D.b))]) (M:=fun x=>q3=.inl x) ?_ fun x hx=>?_
 refine J g<|q0i hqq3 3 (fun (s5,s6,s7)=>[(0,rw6 m a0),(3,.pb 0 0),(6,.ref 1 none),(7,.ref 2 none),(8,dI s7)]) (fun (s5,s6,s7)=>[(1,.row .fz 2 (s5.map Ph_.D)),(2,.row .fz 1 (s6.map A.D.b))]) I fun sk1 ok1 hr hik1=>?_
 obtain⟨s5,s6,s7⟩:=sk1
 have hr:=hr
 refine bdE hr fun s8 hqq4 hr=>J (gn 5)<|q0a 5 [(0,rw6 m a0),(3,.pb 0 0),(6,.ref 1 none),(7,.ref 2 none),(8,dI s7),(38,dB s8)] ?_ ?_
 replace hr:=hqq4
 refine ifE hr ?_ ?_<;>intro h4 hr
 exact e
 exact e
 refine fE 1 hr ?_ ?_<;>intro h5 hr
 refine bdP hr fun y3 z1 hq5 hr=>J g<|J (CB' [(0,2),(1,3)] [] (j3q (m:=m) hq5))<|J g<|J (NV' 4)<|bdP hr fun y4 z2 hq6 hr=>J g<|J (CB' [(0,2),(1,5)] [] (j3q (m:=m) hq6))<|ggE hr fun g2 hr=>J g<|J (OB' _ (z2y (p:=y3.length) (q:=y4.length) g2))<|bdE hr fun s9 hqq7 hr=>J (gn 7)<|q0a 4 [(0,rw6 m a0),(3,.pb 0 0),(6,.ref 1 none),(7,.ref 2 none),(8,dI s7),(9,.pb 4 0),(10,dI ((y3.length+y4.length:Nat):Int)),(61,dB s9)] ?_ ?_
 replace hr:=hqq7
 refine ifE hr ?_ ?_<;>intro h6 hr
 exact e
 exact e
 refine fE 1 hr ?_ ?_<;>intro h7 hr
 refine J g<|J (L0' 6 Ph_.D)<|e
 refine ggE hr fun g3 hr=>J (gn 12) ?_
 refine J (q0p 3 rfl) ?_
 refine J (q0p 5 rfl)<|J (LIR' 6 (m:=.fz) (f:=Ph_.D) (xs:=[(⟨y3,y4⟩:Ph_)]))<|ggE hr fun g4 hr=>J (AP1' 7 .fz 48 g4)<|J g<|E
 refine J (gn 2) ?_
 cases hr
 cases hik1 _ rfl
 exact⟨_,rfl,q0g hS 3⟩
 subst hx
 obtain⟨s3,s4⟩:=x
 exact e
theorem z7m {m:Md}{a0:Gm_}{r:((List (List Ph_))×Bool)}(hr:q9g a0=some r):Okp 16 [Gm_.x m a0] [] (.tu [.ref 0 none,dB r.2]) [.row .fz 1 (r.1.map (fun (l:List Ph_)=>A.D.sl 2 (l.map Ph_.D)))]:=by
 refine OE Tryz.func16 fun S hS=>?_
 unfold q9g at hr
 refine J g<|J (BX' 0)<|bdP hr fun y1 y2 hq1 hr=>J g<|J (CB' [(0,1)] [] (z8L (m:=m) hq1))<|J g<|J (L0' 2 (fun (l:List Ph_)=>A.D.sl 2 (l.map Ph_.D)))<|bdE hr fun q2 hqq2 hr=>J (gn 7)<|AW.cut 3 (fun s1=>[(5,dB y2),(6,.ref 2 none)]) (fun s1=>[(2,.row .fz 1 (s1.map (fun (l:List Ph_)=>A.D.sl 2 (l.map Ph_.D))))]) (M:=fun x=>q2=.inl x) ?_ fun x hx=>?_
 refine J g<|q0i hqq2 3 (fun (s2,s3)=>[(1,.pb 0 0),(4,.ref 1 none),(5,dB y2),(6,.ref 2 none),(7,dI s3)]) (fun (s2,s3)=>[(2,.row .fz 1 (s2.map (fun (l:List Ph_)=>A.D.sl 2 (l.map Ph_.D))))]) I fun sk1 ok1 hr hik1=>?_
 obtain⟨s2,s3⟩:=sk1
 have hr:=hr
 refine fE 8 hr ?_ ?_<;>intro h1 hr
 refine fE 4 hr ?_ ?_<;>intro h2 hr
 refine ggE hr fun g1 hr=>bdE hr fun x1 hx1 hr=>bdE hr fun y3 hy3 hr=>J g<|J (CB' [(0,3)] [] (z1y (m:=m) hy3))<|ggE hr fun g2 hr=>bdE hr fun x2 hx2 hr=>bdP hr fun y4 y5 hq3 hr=>J g<|J (CB' [(0,4)] [3] (j8i (m:=.bo) hq3))<|fE 12 hr ?_ ?_<;>intro h3 hr
 refine J (gn 5) ?_
 refine J (q0p 4 rfl)<|J (LIR' 5 (m:=.fz) (f:=(fun (l:List Ph_)=>A.D.sl 2 (l.map Ph_.D))) (xs:=[y4]))<|ggE hr fun g3 hr=>J (AP1' 6 .fz 24 g3)<|ggE hr fun g4 hr=>J g<|E
 refine J g<|J (L0' 5 (fun (l:List Ph_)=>A.D.sl 2 (l.map Ph_.D)))<|e
 refine J (gn 2) ?_
 cases hr
 cases hik1 _ rfl
 exact⟨_,rfl,q0g hS 3⟩
 refine J (gn 6) ?_
 cases hr
 cases hik1 _ rfl
 exact⟨_,rfl,q0g hS 3⟩
 subst hx
 obtain⟨s1,rfl⟩:∃ y,y=x:=⟨_,rfl⟩
 exact e
theorem z6W {m:Md}{a0:Gm_}{a1:List (List Ph_)}{a2:BA_}{r:List Ph_}(hr:q7l a0 a1 a2=some r):Okp 34 [Gm_.y m a0,.d m (.sl 1 (a1.map (fun (l:List Ph_)=>A.D.sl 2 (l.map Ph_.D)))),dS a2] [] (rw10 m r) []:=by
 refine OE Tryz.func34 fun S hS=>?_
 unfold q7l at hr
 refine J g<|J (BX' 0)<|bdE hr fun y1 hy1 hr=>J g<|J (CB' [] [] (z8c (m:=m) hy1))<|J g<|J (OB' _ (k1Q (p:=a1.length) (k:=1) (by decide)))<|bdE hr fun y2 hy2 hr=>J (CB' [] [] (q6m hy2))<|fE 2 hr ?_ ?_<;>intro h1 hr
 refine ggE hr fun g1 hr=>bdE hr fun x1 hx1 hr=>e
 refine J g<|J (L0' 1 Ph_.D)<|J (gn 3) ?_
 refine J (q0c (q0u (r:=1) rfl)) ?_
 cases hr
 exact endA.ren [] 0 (.inr rfl) hS rfl rfl rfl (.md rfl) rfl rfl
theorem j1C {m m2:Md}{a1:Int}{a2:List BA_}{o0 r:l28Work}(hr:z2Q a1 a2 o0=some r):Okp 35 [.pb 0 0,dI a1,rw2 m a2] [bx3 m2 m2 m2 m2 m2 m2 o0,.row .fz 2 (o0.known.map Oc.D),.row .fz 1 (o0.visits.map (A.D.i .i64)),.row .fz 4 (o0.steps.map Step.D)] (.tu []) [.box [rw3 m2 o0.g.ss_,rw5 m2 o0.g.rs_,dS r.r.Name,dS r.r.Left,rw2 m2 o0.r.rt_,dB r.r.ll_,rw8 m2 o0.r.es_,rw9 m2 o0.r.cs_,.d m2 (.sl 1 (o0.phases.map (fun (l:List Ph_)=>A.D.sl 2 (l.map Ph_.D)))),.ref 4 none,.ref 2 none,.ref 3 none],.dead,.row .fz 1 (r.visits.map (A.D.i .i64)),.row .fz 4 (r.steps.map Step.D),.row .fz 2 (r.known.map Oc.D)]:=by
 refine OE Tryz.func35 fun S hS=>?_
 unfold z2Q at hr
 refine J (gn 5) ?_
 refine J (q0P 1 4 rfl)<|J (lenT 2)<|fun hl1=>bdE hr fun s1 hqq1 hr=>q0d hqq1 hl1 5 (fun k1 s1=>[(0,.pb 0 0),(1,dI a1),(2,rw2 m a2),(6,dI (k1:Int))]) (fun k1 s1=>[(4,.row .fz 2 (s1.map Oc.D))]) I (fun k1 xk1 sk1 ok1 hxk1 hr hltk1=>?_) fun k1 hltk1=>?_
 obtain⟨s1,rfl⟩:∃ y,y=sk1:=⟨_,rfl⟩
 refine J g<|J (LIR' 5 (m:=.fz) (f:=Oc.D) (xs:=[(⟨a1,xk1⟩:Oc)]))<|ggE hr fun g1 hr=>J (z1p (f:=Oc.D) 6 (fun _=>rfl) 24 g1)<|e
 exact e
theorem j6n {m2:Md}{a0:l28Work}{a1:Oc}{r:Bool}(hr:z3J a0 a1=some r):Okp 75 [.pb 0 0,Oc.x .fz a1] [bx3 m2 m2 m2 m2 m2 m2 a0,.row .fz 2 (a0.known.map Oc.D),.row .fz 1 (a0.visits.map (A.D.i .i64)),.row .fz 4 (a0.steps.map Step.D)] (dB r) [bx3 m2 m2 m2 m2 m2 m2 a0,.row .fz 2 (a0.known.map Oc.D),.row .fz 1 (a0.visits.map (A.D.i .i64)),.row .fz 4 (a0.steps.map Step.D)]:=by
 refine OE Tryz.func75 fun S hS=>?_
 unfold z3J at hr
 refine J g<|J (BX' 4)<|bdP hr fun y1 y2 hq1 hr=>J g<|J (CB' [(0,5)] [] (z3T (m:=m2) hq1))<|J g<|J (NV' 6)<|J (gn 6) ?_
 refine J (q0p 5 rfl)<|bdE hr fun y3 hy3 hr=>J (CB' [] [] (z2U (m:=.fz) hy3))<|J (gn 8)<|J (lenT 7)<|fun hl1=>bdE hr fun q2 hqq2 hr=>q0b hqq2 hl1 7 (fun k1 _=>[(0,.pb 0 0),(6,dB y2),(7,rw4 .fz y3),(8,dI (k1:Int))]) (fun k1 _=>[(5,.none)]) I (fun k1 xk1 sk1 ok1 hxk1 hr hltk1 hik1=>?_) fun k1 sk1 ek1 hltk1=>?_
 refine bdE hr fun y4 hy4 hr=>J g<|J (CB' [] [1] (z1M (m:=.bo) hy4))<|fE 2 hr ?_ ?_<;>intro h1 hr
 exact e
 exact e
 subst ek1
 exact e
theorem j9G {m2:Md}{o0:l28Work}{r:(Bool×l28Work)}(hr:z6m o0=some r):Okp 82 [.pb 0 0] [bx3 m2 m2 m2 m2 m2 m2 o0,.row .fz 2 (o0.known.map Oc.D),.row .fz 1 (o0.visits.map (A.D.i .i64)),.row .fz 4 (o0.steps.map Step.D)] (dB r.1) [.box [rw3 m2 o0.g.ss_,rw5 m2 o0.g.rs_,dS r.2.r.Name,dS r.2.r.Left,rw2 m2 o0.r.rt_,dB r.2.r.ll_,rw8 m2 o0.r.es_,rw9 m2 o0.r.cs_,.d m2 (.sl 1 (o0.phases.map (fun (l:List Ph_)=>A.D.sl 2 (l.map Ph_.D)))),.ref 4 none,.ref 2 none,.ref 5 none],.dead,.row .fz 1 (r.2.visits.map (A.D.i .i64)),.dead,.row .fz 2 (r.2.known.map Oc.D),.row .fz 4 (r.2.steps.map Step.D)]:=by
 refine OE Tryz.func82 fun S hS=>?_
 unfold z6m at hr
 refine bdE hr fun y1 hy1 hr=>J g<|J (CB' [(0,4)] [] (q6h (m:=m2) hy1))<|J (gn 8)<|J (lenR 4)<|fun hl1=>bdE hr fun q1 hqq1 hr=>q0b hqq1 hl1 5 (fun k1 _=>[(0,.pb 0 0),(3,.ref 4 none),(4,dI (k1:Int))]) (fun k1 _=>[]) I (fun k1 xk1 sk1 ok1 hxk1 hr hltk1 hik1=>?_) fun k1 sk1 ek1 hltk1=>?_
 refine bdE hr fun y2 hy2 hr=>J g<|J (CB' [] [1] (z1M (m:=.bo) hy2))<|fE 1 hr ?_ ?_<;>intro h1 hr
 exact e
 refine bdE hr fun y3 hy3 hr=>J g<|CBK2 [(0,0),(1,1),(2,2),(3,3)] [] [] (j6n (m2:=m2) hy3) ?_
 refine fE 2 hr ?_ ?_<;>intro h2 hr
 refine J g<|J (LIR' 5 (m:=.fz) (f:=Oc.D) (xs:=[xk1]))<|ggE hr fun g1 hr=>J (z1p (f:=Oc.D) 6 (fun _=>rfl) 24 g1)<|J g<|J (LIR' 7 (m:=.fz) (f:=Step.D) (xs:=[(⟨1,xk1.Pos,0,xk1.Name⟩:Step)]))<|ggE hr fun g2 hr=>J (z1p (f:=Step.D) 8 (fun _=>rfl) 40 g2)<|e
 exact e
 subst ek1
 refine J (gn 15) ?_
 refine J (q0c (q0v (i:=1) (j:=5) rfl rfl)) ?_
 refine J (q0c (q0v (i:=3) (j:=6) rfl rfl))<|J g<|E
theorem j1D {m m2:Md}{a0:l28Work}{a1:Int}{a2:List BA_}{r:Bool}(hr:z2R a0 a1 a2=some r):Okp 38 [.pb 0 0,dI a1,rw2 m a2] [bx3 m2 m2 m2 m2 m2 m2 a0,.row .fz 2 (a0.known.map Oc.D),.row .fz 1 (a0.visits.map (A.D.i .i64)),.row .fz 4 (a0.steps.map Step.D)] (dB r) [bx3 m2 m2 m2 m2 m2 m2 a0,.row .fz 2 (a0.known.map Oc.D),.row .fz 1 (a0.visits.map (A.D.i .i64)),.row .fz 4 (a0.steps.map Step.D)]:=by
 refine OE Tryz.func38 fun S hS=>?_
 unfold z2R at hr
 refine J (gn 10)<|J (lenT 2)<|fun hl1=>bdE hr fun q1 hqq1 hr=>q0b hqq1 hl1 4 (fun k1 _=>[(0,.pb 0 0),(1,dI a1),(2,rw2 m a2),(7,dI (k1:Int))]) (fun k1 _=>[]) I (fun k1 xk1 sk1 ok1 hxk1 hr hltk1 hik1=>?_) fun k1 sk1 ek1 hltk1=>?_
 refine bdE hr fun y1 hy1 hr=>J g<|J (CB' [] [1] (z1M (m:=.bo) hy1))<|fE 2 hr ?_ ?_<;>intro h1 hr
 exact e
 exact e
 subst ek1
 exact e
theorem j8j {m2:Md}{o0:l28Work}{r:(Bool×l28Work)}(hr:z4U o0=some r):Okp 83 [.pb 0 0] [bx3 m2 m2 m2 m2 m2 m2 o0,.row .fz 2 (o0.known.map Oc.D),.row .fz 1 (o0.visits.map (A.D.i .i64)),.row .fz 4 (o0.steps.map Step.D)] (dB r.1) [.box [rw3 m2 o0.g.ss_,rw5 m2 o0.g.rs_,dS r.2.r.Name,dS r.2.r.Left,rw2 m2 o0.r.rt_,dB r.2.r.ll_,rw8 m2 o0.r.es_,rw9 m2 o0.r.cs_,.d m2 (.sl 1 (o0.phases.map (fun (l:List Ph_)=>A.D.sl 2 (l.map Ph_.D)))),.ref 4 none,.ref 2 none,.ref 5 none],.dead,.row .fz 1 (r.2.visits.map (A.D.i .i64)),.dead,.row .fz 2 (r.2.known.map Oc.D),.row .fz 4 (r.2.steps.map Step.D)]:=by
 refine Ok.enter rfl Tryz.func83 rfl rfl rfl fun S hS=>?_
 unfold z4U at hr
 refine sr ?_
 refine N1 ?_
 refine ssr ?_
 refine N1 ?_
 refine AW.block ?_
 refine AW.len (.box 0 4 rfl rfl) fun hl1=>?_
 refine bdE hr fun q1 hqq1 hr=>?_
 refine q0b hqq1 hl1 4 (fun k1 _=>[(0,.pb 0 0),(3,dI (k1:Int))]) (fun k1 _=>[]) (q0g hS 4) (fun k1 xk1 sk1 ok1 hxk1 hr hltk1 hik1=>?_) fun k1 sk1 ek1 hltk1=>?_
 refine ssr ?_
 refine W5 ?_
 refine W1 ?_
 refine LF ?_
 refine N1 ?_
 refine q0r rfl (dT hltk1) ?_
 refine q0k ?_
 refine q0l (AW.block (q0l (q0q (h:=?_))))
 refine W5 ?_
 refine W5 ?_
 refine W4 ?_
 refine IF (Eaz _) hxk1 ?_
 refine W1 ?_
 refine bdE hr fun y1 hy1 hr=>?_
 refine CB [] [] (z6W (m:=m2) hy1) ?_
 refine N1 ?_
 refine sr ?_
 refine W5 ?_
 refine bdE hr fun x1 hx1 hr=>?_
 refine IE hx1 (Eaz _) ?_
 refine LP hx1 ?_
 refine N1 ?_
 refine sr ?_
 refine W2 ?_
 refine LF ?_
 refine W1 ?_
 refine ifE hr (fun h1 hr=>?_) fun h1 hr=>?_
 refine VT rfl (dT h1) ?_
 refine W2 ?_
 refine OB _ (z2y (p:=k1) (q:=1) (q5g hltk1 hl1)) ?_
 refine W2 ?_
 refine ggE hr fun g1 hr=>?_
 refine bdE hr fun x2 hx2 hr=>?_
 refine IF g1 hx2 ?_
 refine W2 ?_
 refine bdE hr fun y2 hy2 hr=>?_
 refine CB [(0,0),(1,1),(2,2),(3,3)] [] (j1D (m:=m2) (m2:=m2) hy2) ?_
 refine N1 ?_
 refine ifE hr (fun h2 hr=>?_) fun h2 hr=>?_
 refine q0r rfl h2 ?_
 refine sr ?_
 refine W5 ?_
 refine W1 ?_
 refine ggE hr fun g2 hr=>?_
 refine OB _ (bAdd g2) ?_
 refine IE hx1 (Eaz _) ?_
 refine SE (x1+1) hx1 ?_
 refine N0 ?_
 refine sr ?_
 refine W5 ?_
 refine W1 ?_
 refine OB _ (z2y (p:=k1) (q:=1) (q5g hltk1 hl1)) ?_
 refine W1 ?_
 refine ggE hr fun g3 hr=>?_
 refine OB _ (bAdd g3) ?_
 refine W1 ?_
 refine LIR 4 (m:=.fz) (f:=Step.D) (xs:=[(⟨2,((k1+1:Nat):Int),(x1+1),(⟨#[]⟩:BA_)⟩:Step)]) ?_
 refine ggE hr fun g4 hr=>?_
 refine APf1 (f:=Step.D) 5 (fun _=>rfl) 40 g4 ?_
 refine W2 ?_
 refine SB ?_
 refine N0 ?_
 refine sr ?_
 refine W2 ?_
 refine OB _ (z2y (p:=k1) (q:=1) (q5g hltk1 hl1)) ?_
 refine W2 ?_
 refine IF g1 hx2 ?_
 refine W2 ?_
 refine bdE hr fun z1 hz1 hr=>?_
 refine CB [(0,0),(1,1),(2,2),(3,5),(4,6)] [] (j1C (m:=m2) (m2:=m2) hz1) ?_
 refine N0 ?_
 refine sr ?_
 refine N1 ?_
 refine AW.ret ?_
 cases hr
 have hz9:=hik1 _ rfl
 subst hz9
 rename_i hr
 cases hr
 exact q0m [(0,0),(1,1),(2,2),(3,3),(6,4),(5,5)] 6 hS
 refine q0s rfl (bF h2) ?_
 refine q0k ?_
 refine q0h ?_
 refine W1 ?_
 refine OB _ (z2y (p:=k1) (q:=1) (q5g hltk1 hl1)) ?_
 refine N1 ?_
 cases hr
 exact⟨_,rfl,q0g hS 4⟩
 refine VF rfl (dF h1) ?_
 iterate 9 refine AL.off ?_
 refine N1 ?_
 refine q0s rfl rfl ?_
 refine q0k ?_
 refine q0h ?_
 refine W1 ?_
 refine OB _ (z2y (p:=k1) (q:=1) (q5g hltk1 hl1)) ?_
 refine N1 ?_
 cases hr
 exact⟨_,rfl,q0g hS 4⟩
 subst ek1
 refine ssr ?_
 refine W5 ?_
 refine W1 ?_
 refine LF ?_
 refine N1 ?_
 refine q0s rfl (dF hltk1) ?_
 refine q0t ?_
 refine sr ?_
 refine N1 ?_
 refine AW.ret ?_
 refine endA.gh (q0v (i:=1) (j:=4) rfl rfl) ?_
 refine endA.gh (q0v (i:=3) (j:=5) rfl rfl) ?_
 cases hr
 exact q0m [(0,0),(1,1),(2,2),(3,3),(4,4),(5,5)] 6 hS
theorem j8k {m2:Md}{a0:l28Work}{r:Bool}(hr:z1w a0=some r):Okp 39 [.pb 0 0] [bx3 m2 m2 m2 m2 m2 m2 a0,.row .fz 2 (a0.known.map Oc.D),.row .fz 1 (a0.visits.map (A.D.i .i64)),.row .fz 4 (a0.steps.map Step.D)] (dB r) [bx3 m2 m2 m2 m2 m2 m2 a0,.row .fz 2 (a0.known.map Oc.D),.row .fz 1 (a0.visits.map (A.D.i .i64)),.row .fz 4 (a0.steps.map Step.D)]:=by
 refine OE Tryz.func39 fun S hS=>?_
 unfold z1w at hr
 refine bdE hr fun y1 hy1 hr=>J g<|J (CB' [(0,4)] [] (q6h (m:=m2) hy1))<|J (gn 8)<|J (lenR 4)<|fun hl1=>bdE hr fun q1 hqq1 hr=>q0b hqq1 hl1 5 (fun k1 _=>[(0,.pb 0 0),(3,.ref 4 none),(4,dI (k1:Int))]) (fun k1 _=>[]) I (fun k1 xk1 sk1 ok1 hxk1 hr hltk1 hik1=>?_) fun k1 sk1 ek1 hltk1=>?_
 refine bdE hr fun y2 hy2 hr=>J g<|J (CB' [] [1] (z1M (m:=.bo) hy2))<|fE 2 hr ?_ ?_<;>intro h1 hr
 exact e
 exact e
 subst ek1
 refine J (gn 16) ?_
 refine AW.len (.box 0 4 rfl rfl) fun hl2=>?_
 refine bdE hr fun q2 hqq2 hr=>q0b hqq2 hl2 5 (fun k2 _=>[(0,.pb 0 0),(5,dI (k2:Int))]) (fun k2 _=>[]) I (fun k2 xk2 sk2 ok2 hxk2 hr hltk2 hik2=>?_) fun k2 sk2 ek2 hltk2=>?_
 refine bdE hr fun x1 hx1 hr=>bdE hr fun y3 hy3 hr=>J g<|J (CB' [] [] (z6W (m:=m2) hy3))<|fE 3 hr ?_ ?_<;>intro h2 hr
 exact e
 exact e
 subst ek2
 exact e
theorem j9H {m:Md}{a0:Gm_}{a1:List (List Ph_)}{a2:Rule}{r:((List Step)×Bool)}(hr:z4x a0 a1 a2=some r):Okp 43 [Gm_.x m a0,.d m (.sl 1 (a1.map (fun (l:List Ph_)=>A.D.sl 2 (l.map Ph_.D)))),Rule.x m a2] [] (.tu [.ref 0 none,dB r.2]) [.row .fz 4 (r.1.map Step.D)]:=by
 refine Ok.enter rfl Tryz.func43 rfl rfl rfl fun S hS=>?_
 unfold z4x at hr
 refine sr ?_
 refine BX 0 ?_
 refine BX 1 ?_
 refine N2 ?_
 refine q0l (q0q (h:=?_))
 refine W5 ?_
 refine LF ?_
 refine ggE hr fun g1 hr=>?_
 refine MKR 2 (f:=(A.D.i .i64)) (0:Int) g1.1 g1.2.1 g1.2.2 ?_
 refine W1 ?_
 refine BX 3 ?_
 refine N1 ?_
 refine sr ?_
 refine W4 ?_
 refine bdE hr fun y1 hy1 hr=>?_
 refine CB [] [] (z6W (m:=m) hy1) ?_
 refine N1 ?_
 refine ssr ?_
 refine N1 ?_
 refine AW.block ?_
 refine q1g 3 9 4 .fz 2 rfl rfl ?_
 refine q1g 3 11 5 .fz 4 rfl rfl ?_
 refine AW.len (.tmp 9 rfl) fun hl1=>?_
 refine bdE hr fun q1 hqq1 hr=>?_
 refine q0b hqq1 hl1 6 (fun k1 (s3,s4,s5,s6,s1,s2)=>[(8,.pb 3 0),(9,rw10 m y1),(10,dI (k1:Int))]) (fun k1 (s3,s4,s5,s6,s1,s2)=>[(2,.row .fz 1 (s3.map (A.D.i .i64))),(3,.box [rw3 m a0.ss_,rw5 m a0.rs_,dS s4,dS s5,rw2 m a2.rt_,dB s6,rw8 m a2.es_,rw9 m a2.cs_,.d m (.sl 1 (a1.map (fun (l:List Ph_)=>A.D.sl 2 (l.map Ph_.D)))),.ref 4 none,.ref 2 none,.ref 5 none]),(4,.row .fz 2 (s1.map Oc.D)),(5,.row .fz 4 (s2.map Step.D))]) (q0g hS 6) (fun k1 xk1 sk1 ok1 hxk1 hr hltk1 hik1=>?_) fun k1 sk1 ek1 hltk1=>?_
 obtain⟨s3,s4,s5,s6,s1,s2⟩:=sk1
 refine ssr ?_
 refine W2 ?_
 refine LF ?_
 refine N1 ?_
 refine q0r rfl (dT hltk1) ?_
 refine q0k ?_
 refine q0l (AW.block (q0l (q0h ?_)))
 refine W3 ?_
 refine IF (Eaz _) hxk1 ?_
 refine W2 ?_
 refine bdE hr fun z1 hz1 hr=>?_
 refine CB [(0,3),(1,4),(2,2),(3,5),(4,6)] [] (j1C (m:=m) (m2:=m) hz1) ?_
 refine N0 ?_
 refine bdE hr fun q2 hqq2 hr=>?_
 obtain⟨s9,s10,s11,s12,s7,s8,s13⟩:=q2
 refine q0l (q0e 7 [(8,.pb 3 0),(9,rw10 m y1),(10,dI (k1:Int)),(41,.pb 3 0),(42,dB s13)] [(2,.row .fz 1 (s9.map (A.D.i .i64))),(3,.box [rw3 m a0.ss_,rw5 m a0.rs_,dS s10,dS s11,rw2 m a2.rt_,dB s12,rw8 m a2.es_,rw9 m a2.cs_,.d m (.sl 1 (a1.map (fun (l:List Ph_)=>A.D.sl 2 (l.map Ph_.D)))),.ref 6 none,.ref 2 none,.ref 5 none]),(4,.none),(5,.row .fz 4 (s8.map Step.D)),(6,.row .fz 2 (s7.map Oc.D))] ?_ ?_)
 refine AW.block (q0i hqq2 7 (fun (s16,s17,s18,s19,s14,s15)=>[(8,.pb 3 0),(9,rw10 m y1),(10,dI (k1:Int))]) (fun (s16,s17,s18,s19,s14,s15)=>[(2,.row .fz 1 (s16.map (A.D.i .i64))),(3,.box [rw3 m a0.ss_,rw5 m a0.rs_,dS s17,dS s18,rw2 m a2.rt_,dB s19,rw8 m a2.es_,rw9 m a2.cs_,.d m (.sl 1 (a1.map (fun (l:List Ph_)=>A.D.sl 2 (l.map Ph_.D)))),.ref 6 none,.ref 2 none,.ref 5 none]),(4,.none),(5,.row .fz 4 (s15.map Step.D)),(6,.row .fz 2 (s14.map Oc.D))]) (q0j hS [(0,0),(1,1),(2,2),(3,3),(5,5),(6,6)] 7) fun sk2 ok2 hr hik2=>?_)
 obtain⟨s16,s17,s18,s19,s14,s15⟩:=sk2
 have hr:=hr
 refine ssr ?_
 refine W1 ?_
 refine bdE hr fun q3 hq3 hr=>?_
 obtain⟨y2,z2⟩:=q3
 refine CB [(0,3),(1,6),(2,2),(3,5),(4,7),(5,8)] [] (j9G (m2:=m) hq3) ?_
 refine ifE hr (fun h1 hr=>?_) fun h1 hr=>?_
 refine VT rfl h1 ?_
 iterate 2 refine AL.off ?_
 refine N1 ?_
 refine q0r rfl rfl ?_
 refine q0k ?_
 refine AW.block (q0t ?_)
 cases hr
 exact⟨_,rfl,q0j hS [(0,0),(1,1),(2,2),(3,3),(8,5),(7,6)] 7⟩
 refine VF rfl (bF h1) ?_
 refine W1 ?_
 refine bdE hr fun q4 hq4 hr=>?_
 obtain⟨y3,z3⟩:=q4
 refine CB [(0,3),(1,7),(2,2),(3,8),(4,9),(5,10)] [] (j8j (m2:=m) hq4) ?_
 refine N1 ?_
 refine ifE hr (fun h2 hr=>?_) fun h2 hr=>?_
 refine q0r rfl h2 ?_
 refine q0k ?_
 refine AW.block (q0t ?_)
 cases hr
 exact⟨_,rfl,q0j hS [(0,0),(1,1),(2,2),(3,3),(10,5),(9,6)] 7⟩
 refine q0s rfl (bF h2) ?_
 refine q0t ?_
 cases hr
 cases hik2 _ rfl
 exact q0j hS [(0,0),(1,1),(2,2),(3,3),(10,5),(9,6)] 7
 refine ssr ?_
 refine W3 ?_
 refine IF (Eaz _) hxk1 ?_
 refine W2 ?_
 refine bdE hr fun y4 hy4 hr=>?_
 refine CB [(0,3),(1,6),(2,2),(3,5)] [] (j1D (m:=m) (m2:=m) hy4) ?_
 refine N1 ?_
 refine ifE hr (fun h3 hr=>?_) fun h3 hr=>?_
 refine q0s rfl (bnF h3) ?_
 refine q0k ?_
 refine q0h ?_
 refine W5 ?_
 refine W1 ?_
 refine OB _ (z2y (p:=k1) (q:=1) (q5g hltk1 hl1)) ?_
 refine W1 ?_
 refine LIR 7 (m:=.fz) (f:=Step.D) (xs:=[(⟨3,0,((k1+1:Nat):Int),(⟨#[]⟩:BA_)⟩:Step)]) ?_
 refine ggE hr fun g2 hr=>?_
 refine APf1 (f:=Step.D) 8 (fun _=>rfl) 40 g2 ?_
 refine W2 ?_
 refine SB ?_
 refine N0 ?_
 refine q0h ?_
 refine W1 ?_
 refine OB _ (z2y (p:=k1) (q:=1) (q5g hltk1 hl1)) ?_
 refine N1 ?_
 cases hr
 exact⟨_,rfl,q0j hS [(0,0),(1,1),(2,2),(3,3),(6,4),(8,5)] 6⟩
 refine q0r rfl (bnT h3) ?_
 refine sr ?_
 refine L0 7 Step.D ?_
 refine N2 ?_
 refine AW.ret ?_
 cases hr
 cases hik1 _ rfl
 rename_i hr
 cases hr
 exact q0m [(7,0)] 1 hS
 subst ek1
 obtain⟨s3,s4,s5,s6,s1,s2⟩:=sk1
 refine ssr ?_
 refine W2 ?_
 refine LF ?_
 refine N1 ?_
 refine q0s rfl (dF hltk1) ?_
 refine q0t ?_
 refine q0l (q0q (h:=?_))
 refine W5 ?_
 refine bdE hr fun y5 hy5 hr=>?_
 refine CBK2 [(0,3),(1,4),(2,2),(3,5)] [] [] (j8k (m2:=m) hy5) ?_
 refine N2 ?_
 refine AW.ret ?_
 cases hr
 exact q0m [(5,0)] 1 hS
theorem j6o {m:Md}{a0:Gm_}{r:((List RPl_)×Bool)}(hr:z3K a0=some r):Okp 14 [Gm_.x m a0] [] (.tu [.ref 0 none,dB r.2]) [.row .fz 2 (r.1.map RPl_.D)]:=by
 refine OE Tryz.func14 fun S hS=>?_
 unfold z3K at hr
 refine J g<|J (BX' 0)<|bdP hr fun y1 y2 hq1 hr=>J g<|J (CB' [(0,1)] [] (z7m (m:=m) hq1))<|J g<|J (L0' 2 RPl_.D)<|bdE hr fun q2 hqq2 hr=>J (gn 7)<|AW.cut 3 (fun s1=>[(5,dB y2),(6,.ref 2 none)]) (fun s1=>[(2,.row .fz 2 (s1.map RPl_.D))]) (M:=fun x=>q2=.inl x) ?_ fun x hx=>?_
 refine J g<|q0i hqq2 3 (fun (s2,s3)=>[(1,.pb 0 0),(4,.ref 1 none),(5,dB y2),(6,.ref 2 none),(7,dI s3)]) (fun (s2,s3)=>[(2,.row .fz 2 (s2.map RPl_.D))]) I fun sk1 ok1 hr hik1=>?_
 obtain⟨s2,s3⟩:=sk1
 have hr:=hr
 refine fE 8 hr ?_ ?_<;>intro h1 hr
 refine fE 4 hr ?_ ?_<;>intro h2 hr
 refine ggE hr fun g1 hr=>bdE hr fun x1 hx1 hr=>bdP hr fun y3 y4 hq3 hr=>J g<|J (CB' [(0,3)] [1] (j9H (m:=.bo) hq3))<|fE 12 hr ?_ ?_<;>intro h3 hr
 refine J (gn 12) ?_
 refine J (q0p 3 rfl)<|J (LIR' 4 (m:=.fz) (f:=RPl_.D) (xs:=[(⟨x1.Name,y3⟩:RPl_)]))<|ggE hr fun g2 hr=>J (AP1' 5 .fz 40 g2)<|ggE hr fun g3 hr=>J g<|E
 refine J g<|J (L0' 4 RPl_.D)<|e
 refine J (gn 2) ?_
 cases hr
 cases hik1 _ rfl
 exact⟨_,rfl,q0g hS 3⟩
 refine J (gn 6) ?_
 cases hr
 cases hik1 _ rfl
 exact⟨_,rfl,q0g hS 3⟩
 subst hx
 obtain⟨s1,rfl⟩:∃ y,y=x:=⟨_,rfl⟩
 exact e
end Go.Proofs.YtppbkkcekpbaiaaGreat
