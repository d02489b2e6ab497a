/- What some functions of the program compute, as partial functions on plain data, and that they do; each lemma bears its conditions in its statement. -/
import Derived.Test.YtomdlgffolbdkaaGreatDef
set_option linter.unusedVariables false
set_option linter.unusedSimpArgs false
set_option linter.ambiguousOpen false
set_option linter.unusedSectionVars false
set_option linter.unnecessarySimpa false
set_option maxRecDepth 100000
set_option maxHeartbeats 40000000
noncomputable section
namespace Go.Proofs.YtomdlgffolbdkaaGreat
open Go Go.E Go.A
theorem j8W {a0:(List UInt8)}{r:l1Cur}(hr:z5u a0=some r):Ok Tryz.prog 29 [.d .fz (.sl 1 (a0.map byD))] [] (.pb 0 0) [.box [.d .fz (.sl 1 (r.b.map byD)),dI r.i,dI r.h]]:=by
 refine OE Tryz.func29 fun S hS=>?_
 unfold z5u at hr
 refine J g<|J (OB' _ j4N)<|bdE hr fun s1 hqq1 hr=>J (gn 7)<|q0e 0 [(0,.d .fz (.sl 1 (a0.map byD))),(3,dI s1)] [] ?_ ?_
 refine J g<|q0i hqq1 0 (fun (s2,s3)=>[(0,.d .fz (.sl 1 (a0.map byD))),(3,dI s2),(4,dI s3)]) (fun (s2,s3)=>[]) I fun sk1 ok1 hr hik1=>?_
 obtain⟨s2,s3⟩:=sk1
 have hr:=hr
 refine J (gn 7)<|ifE hr ?_ ?_<;>intro h1 hr
 refine J (gn 5)<|ifE hr ?_ ?_<;>intro h2 hr
 refine J g<|J (OB' _ k4p)<|ggE hr fun g1 hr=>bdE hr fun x1 hx1 hr=>J g ?_
 refine J (CUB' rfl)<|J (OB' _ j4N)<|J (OB' _ j4N)<|J (OB' _ j8K)<|J g<|J (OB' _ j4N)<|J g<|E
 refine J (gn 2) ?_
 cases hr
 cases hik1 _ rfl
 exact q0g hS 0
 refine J (gn 7) ?_
 cases hr
 cases hik1 _ rfl
 exact q0g hS 0
 refine J g<|J (BX' 0)<|e
theorem z3w {o0:l1Cur}{r:(Int×l1Cur)}(hr:q9K o0=some r):Ok Tryz.prog 128 [.pb 0 0] [.box [.d .fz (.sl 1 (o0.b.map byD)),dI o0.i,dI o0.h]] (dI r.1) [.box [.d .fz (.sl 1 (o0.b.map byD)),dI r.2.i,dI r.2.h]]:=by
 refine OE Tryz.func128 fun S hS=>?_
 unfold q9K at hr
 refine J g<|J (OB' _ k4p)<|J (OB' _ j4N)<|J g<|J (OB' _ (k4q (b:=33) (by decide)))<|J g<|J (OB' _ (k4q (b:=45) (by decide)))<|J (OB' _ k4U)<|J (OB' _ j8K)<|J (gn 16)<|ifE hr ?_ ?_<;>intro h1 hr
 refine ggE hr fun g1 hr=>bdE hr fun x1 hx1 hr=>J g ?_
 refine J (CUB' rfl)<|J (OB' _ j4N)<|J (OB' _ j8K)<|J (q1f .refl)<|J g<|J (OB' _ j4N)<|J g<|E
 exact e
theorem q3W {a1:Int}{o0:l1Cur}{r:(Int×l1Cur)}(hr:q3V a1 o0=some r):Ok Tryz.prog 70 [.pb 0 0,dI a1] [.box [.d .fz (.sl 1 (o0.b.map byD)),dI o0.i,dI o0.h]] (dI r.1) [.box [.d .fz (.sl 1 (o0.b.map byD)),dI r.2.i,dI r.2.h]]:=by
 refine OE Tryz.func70 fun S hS=>?_
 unfold q3V at hr
 refine J (gn 10)<|ifE hr ?_ ?_<;>intro h1 hr
 exact e
 refine J (gn 8)<|ifE hr ?_ ?_<;>intro h2 hr
 refine bdP hr fun y1 z1 hq1 hr=>J g<|J (CB' [(0,0)] [] (z3w hq1))<|ggE hr fun g1 hr=>J g<|J (OB' _ (bRem (b:=a1) g1))<|e
 refine bdP hr fun y2 z2 hq2 hr=>J g<|J (CB' [(0,0)] [] (z3w hq2))<|bdP hr fun y3 z3 hq3 hr=>J g<|J (CB' [(0,0)] [] (z3w hq3))<|bdP hr fun y4 z4 hq4 hr=>J g<|J (CB' [(0,0)] [] (z3w hq4))<|bdP hr fun y5 z5 hq5 hr=>J g<|J (CB' [(0,0)] [] (z3w hq5))<|ggE hr fun g2 hr=>J g<|J (OB' _ (bMul g2))<|ggE hr fun g3 hr=>J g<|J (OB' _ (bMul g3))<|ggE hr fun g4 hr=>ggE hr fun g5 hr=>J g<|J (OB' _ (bMul g5))<|ggE hr fun g6 hr=>ggE hr fun g7 hr=>ggE hr fun g8 hr=>J g<|J (OB' _ (bRem (b:=a1) g8)) ?_
 exact e
theorem q5r {a1:Int}{o0:l1Cur}{r:(Bool×l1Cur)}(hr:q4Y a1 o0=some r):Ok Tryz.prog 30 [.pb 0 0,dI a1] [.box [.d .fz (.sl 1 (o0.b.map byD)),dI o0.i,dI o0.h]] (dB r.1) [.box [.d .fz (.sl 1 (o0.b.map byD)),dI r.2.i,dI r.2.h]]:=by
 refine OE Tryz.func30 fun S hS=>?_
 unfold q4Y at hr
 refine bdP hr fun y1 z1 hq1 hr=>J g<|J (CB' [(0,0)] [] (q3W hq1))<|e
theorem q6d {m:Md}{a1:(List Int)}{o0:l1Cur}{r:(Int×l1Cur)}(hr:q5l a1 o0=some r):Ok Tryz.prog 133 [.pb 0 0,.d m (.sl 1 (a1.map (A.D.i .i64)))] [.box [.d .fz (.sl 1 (o0.b.map byD)),dI o0.i,dI o0.h]] (dI r.1) [.box [.d .fz (.sl 1 (o0.b.map byD)),dI r.2.i,dI r.2.h]]:=by
 refine OE Tryz.func133 fun S hS=>?_
 unfold q5l at hr
 refine bdP hr fun y1 z1 hq1 hr=>J g<|J (CB' [(0,0)] [] (q3W hq1))<|ggE hr fun g1 hr=>bdE hr fun x1 hx1 hr=>e
theorem j1a {a1:ByteArray}{a2:Bool}{a3:Bool}{o0:l1Cur}{r:(Symbol×l1Cur)}(hr:z3f a1 a2 a3 o0=some r):Ok Tryz.prog 75 [.pb 0 0,dS a1,dB a2,dB a3] [.box [.d .fz (.sl 1 (o0.b.map byD)),dI o0.i,dI o0.h]] (.ag [dS r.1.Name,.ref 1 none]) [.box [.d .fz (.sl 1 (o0.b.map byD)),dI r.2.i,dI r.2.h],.row .fz 4 (r.1.Attributes.map At_.D)]:=by
 refine Ok.enter rfl Tryz.func75 rfl rfl rfl fun S hS=>?_
 unfold z3f at hr
 refine sr ?_
 refine NV 1 ?_
 refine N0 ?_
 refine sr ?_
 refine W2 ?_
 refine NV 2 ?_
 refine SB ?_
 refine N0 ?_
 refine sr ?_
 refine W1 ?_
 refine bdE hr fun q1 hq1 hr=>?_
 obtain⟨y1,z1⟩:=q1
 refine CB [(0,0)] [] (q3W hq1) ?_
 refine ggE hr fun g1 hr=>?_
 refine OB _ (bAdd g1) ?_
 refine N1 ?_
 refine ssr ?_
 refine N1 ?_
 refine AW.block ?_
 refine q3L 2 1 3 .fz 4 rfl rfl ?_
 refine q1b (.tmp 10 rfl) fun hl1=>?_
 refine bdE hr fun q2 hqq2 hr=>?_
 obtain⟨s2,s3,s1⟩:=q2
 refine q0k hqq2 4 (fun k1 (s2,s3,s1)=>[(0,.pb 0 0),(2,dB a2),(3,dB a3),(8,.pb 1 0),(9,.pb 2 0),(10,dI (1+y1)),(11,dI (k1:Int))]) (fun k1 (s2,s3,s1)=>[(0,.box [.d .fz (.sl 1 (o0.b.map byD)),dI s2,dI s3]),(3,.row .fz 4 (s1.map At_.D))]) (q0g hS 4) (fun k1 sk1 ok1 hr hltk1=>?_) ?_
 obtain⟨s2,s3,s1⟩:=sk1
 refine ssr ?_
 refine N3 ?_
 refine q0x rfl (dT (ltI hltk1)) ?_
 refine q0m ?_
 refine bdE hr fun q3 hqq3 hr=>?_
 obtain⟨s4,s5,s6⟩:=q3
 refine q0o (q0e 5 [(0,.pb 0 0),(2,dB a2),(3,dB a3),(8,.pb 1 0),(9,.pb 2 0),(10,dI (1+y1)),(11,dI (k1:Int))] [(0,.box [.d .fz (.sl 1 (o0.b.map byD)),dI s5,dI s6]),(2,.box [dS a1,.ref 4 none]),(3,.none),(4,.row .fz 4 (s4.map At_.D))] ?_ ?_)
 replace hr:=hqq3
 refine AW.block (q0o (q0q (h:=?_)))
 refine LIR 4 (m:=.fz) (f:=A.D.s) (xs:=[(⟨#[97]⟩:ByteArray),(⟨#[98]⟩:ByteArray),(⟨#[99]⟩:ByteArray),(⟨#[100]⟩:ByteArray)]) ?_
 refine W1 ?_
 refine bdE hr fun x1 hx1 hr=>?_
 refine IE hx1 (Int.natCast_nonneg _) ?_
 refine LP hx1 ?_
 refine W1 ?_
 refine LIR 5 (m:=.fz) (f:=(A.D.i .i64)) (xs:=([1,1,2,2,3,4]:List Int)) ?_
 refine bdE hr fun q4 hq4 hr=>?_
 obtain⟨y2,z2⟩:=q4
 refine CB [(0,0)] [5] (q6d (m:=.bo) hq4) ?_
 refine W1 ?_
 refine LIR 6 (m:=.fz) (f:=(A.D.i .i64)) (xs:=([1,2,2,1,2,3]:List Int)) ?_
 refine bdE hr fun q5 hq5 hr=>?_
 obtain⟨y3,z3⟩:=q5
 refine CB [(0,0)] [6] (q6d (m:=.bo) hq5) ?_
 refine W1 ?_
 refine NV 7 ?_
 refine SB ?_
 refine N0 ?_
 refine ssr ?_
 refine N1 ?_
 refine ifE hr (fun h1 hr=>?_) fun h1 hr=>?_
 refine q0x rfl h1 ?_
 refine q0h ?_
 refine W1 ?_
 refine LIR 8 (m:=.fz) (f:=(A.D.i .i64)) (xs:=([1,1,2,3]:List Int)) ?_
 refine bdE hr fun q6 hq6 hr=>?_
 obtain⟨y4,z4⟩:=q6
 refine CB [(0,0)] [8] (q6d (m:=.bo) hq6) ?_
 refine W1 ?_
 refine SB ?_
 refine N0 ?_
 refine ssr ?_
 refine W1 ?_
 refine bdE hr fun s7 hqq7 hr=>?_
 refine q0a 5 [(0,.pb 0 0),(2,dB a2),(3,dB a3),(8,.pb 1 0),(9,.pb 2 0),(10,dI (1+y1)),(11,dI (k1:Int)),(12,.pb 7 0),(44,dB s7)] ?_ ?_
 replace hr:=hqq7
 refine ifE hr (fun h2 hr=>?_) fun h2 hr=>?_
 refine VT rfl h2 ?_
 refine N4 ?_
 cases hr
 exact z7q
 refine VF rfl (bF h2) ?_
 iterate 3 refine AL.off ?_
 refine N1 ?_
 cases hr
 exact z7q
 refine bdE hr fun s8 hqq8 hr=>?_
 refine q0a 8 [(0,.pb 0 0),(2,dB a2),(3,dB a3),(8,.pb 1 0),(9,.pb 2 0),(10,dI (1+y1)),(11,dI (k1:Int)),(12,.pb 7 0),(52,dB s8)] ?_ ?_
 replace hr:=hqq8
 refine ifE hr (fun h3 hr=>?_) fun h3 hr=>?_
 refine VT rfl h3 ?_
 iterate 6 refine AL.off ?_
 refine N1 ?_
 cases hr
 exact z7q
 refine VF rfl (bF h3) ?_
 refine W1 ?_
 refine bdE hr fun q9 hqq9 hr=>?_
 obtain⟨s9,s10⟩:=q9
 refine q0a 5 [(0,.pb 0 0),(2,dB a2),(3,dB a3),(8,.pb 1 0),(9,.pb 2 0),(10,dI (1+y1)),(11,dI (k1:Int)),(12,.pb 7 0),(45,dB false),(46,dB a3),(47,dB s9),(51,dB s10)] ?_ ?_
 replace hr:=hqq9
 refine ifE hr (fun h4 hr=>?_) fun h4 hr=>?_
 refine VT rfl h4 ?_
 refine N4 ?_
 cases hr
 exact z7q
 refine VF rfl (bF h4) ?_
 iterate 3 refine AL.off ?_
 refine N1 ?_
 cases hr
 exact z7q
 refine N1 ?_
 cases hr
 exact z7q
 refine N0 ?_
 refine ifE hr (fun h5 hr=>?_) fun h5 hr=>?_
 refine q0x rfl h5 ?_
 refine q0h ?_
 refine W1 ?_
 refine SB ?_
 refine N0 ?_
 refine ssr ?_
 refine N3 ?_
 refine ifE hr (fun h6 hr=>?_) fun h6 hr=>?_
 refine q0x rfl (dT h6) ?_
 refine q0h ?_
 refine W1 ?_
 refine SB ?_
 refine N0 ?_
 refine q0h ?_
 refine W3 ?_
 refine LIR 9 (m:=.fz) (f:=At_.D) (xs:=[(⟨x1,2,2,false⟩:At_)]) ?_
 refine ggE hr fun g2 hr=>?_
 refine APf1 (f:=At_.D) 10 (fun _=>rfl) 40 g2 ?_
 refine W1 ?_
 refine SB ?_
 refine N0 ?_
 cases hr
 exact q0l hS [(0,0),(1,1),(2,2),(10,4)] 5
 refine q0y rfl (dF h6) ?_
 refine q0m ?_
 refine q0h ?_
 refine W3 ?_
 refine LIR 9 (m:=.fz) (f:=At_.D) (xs:=[(⟨x1,y4,2,false⟩:At_)]) ?_
 refine ggE hr fun g3 hr=>?_
 refine APf1 (f:=At_.D) 10 (fun _=>rfl) 40 g3 ?_
 refine W1 ?_
 refine SB ?_
 refine N0 ?_
 cases hr
 exact q0l hS [(0,0),(1,1),(2,2),(10,4)] 5
 refine q0y rfl (bF h5) ?_
 refine q0m ?_
 refine ssr ?_
 refine N3 ?_
 refine ifE hr (fun h7 hr=>?_) fun h7 hr=>?_
 refine q0x rfl (dT h7) ?_
 refine q0h ?_
 refine W1 ?_
 refine SB ?_
 refine N0 ?_
 refine q0h ?_
 refine W3 ?_
 refine LIR 9 (m:=.fz) (f:=At_.D) (xs:=[(⟨x1,2,y3,false⟩:At_)]) ?_
 refine ggE hr fun g4 hr=>?_
 refine APf1 (f:=At_.D) 10 (fun _=>rfl) 40 g4 ?_
 refine W1 ?_
 refine SB ?_
 refine N0 ?_
 cases hr
 exact q0l hS [(0,0),(1,1),(2,2),(10,4)] 5
 refine q0y rfl (dF h7) ?_
 refine q0m ?_
 refine q0h ?_
 refine W3 ?_
 refine LIR 9 (m:=.fz) (f:=At_.D) (xs:=[(⟨x1,y4,y3,false⟩:At_)]) ?_
 refine ggE hr fun g5 hr=>?_
 refine APf1 (f:=At_.D) 10 (fun _=>rfl) 40 g5 ?_
 refine W1 ?_
 refine SB ?_
 refine N0 ?_
 cases hr
 exact q0l hS [(0,0),(1,1),(2,2),(10,4)] 5
 refine q0y rfl (bF h1) ?_
 refine q0m ?_
 refine ssr ?_
 refine W1 ?_
 refine bdE hr fun s11 hqq10 hr=>?_
 refine q0a 5 [(0,.pb 0 0),(2,dB a2),(3,dB a3),(8,.pb 1 0),(9,.pb 2 0),(10,dI (1+y1)),(11,dI (k1:Int)),(12,.pb 7 0),(44,dB s11)] ?_ ?_
 replace hr:=hqq10
 refine ifE hr (fun h8 hr=>?_) fun h8 hr=>?_
 refine VT rfl h8 ?_
 refine N4 ?_
 cases hr
 exact z7q
 refine VF rfl (bF h8) ?_
 iterate 3 refine AL.off ?_
 refine N1 ?_
 cases hr
 exact z7q
 refine bdE hr fun s12 hqq11 hr=>?_
 refine q0a 8 [(0,.pb 0 0),(2,dB a2),(3,dB a3),(8,.pb 1 0),(9,.pb 2 0),(10,dI (1+y1)),(11,dI (k1:Int)),(12,.pb 7 0),(52,dB s12)] ?_ ?_
 replace hr:=hqq11
 refine ifE hr (fun h9 hr=>?_) fun h9 hr=>?_
 refine VT rfl h9 ?_
 iterate 6 refine AL.off ?_
 refine N1 ?_
 cases hr
 exact z7q
 refine VF rfl (bF h9) ?_
 refine W1 ?_
 refine bdE hr fun q12 hqq12 hr=>?_
 obtain⟨s13,s14⟩:=q12
 refine q0a 5 [(0,.pb 0 0),(2,dB a2),(3,dB a3),(8,.pb 1 0),(9,.pb 2 0),(10,dI (1+y1)),(11,dI (k1:Int)),(12,.pb 7 0),(45,dB false),(46,dB a3),(47,dB s13),(51,dB s14)] ?_ ?_
 replace hr:=hqq12
 refine ifE hr (fun h10 hr=>?_) fun h10 hr=>?_
 refine VT rfl h10 ?_
 refine N4 ?_
 cases hr
 exact z7q
 refine VF rfl (bF h10) ?_
 iterate 3 refine AL.off ?_
 refine N1 ?_
 cases hr
 exact z7q
 refine N1 ?_
 cases hr
 exact z7q
 refine N0 ?_
 refine ifE hr (fun h11 hr=>?_) fun h11 hr=>?_
 refine q0x rfl h11 ?_
 refine q0h ?_
 refine W1 ?_
 refine SB ?_
 refine N0 ?_
 refine ssr ?_
 refine N3 ?_
 refine ifE hr (fun h12 hr=>?_) fun h12 hr=>?_
 refine q0x rfl (dT h12) ?_
 refine q0h ?_
 refine W1 ?_
 refine SB ?_
 refine N0 ?_
 refine q0h ?_
 refine W3 ?_
 refine LIR 8 (m:=.fz) (f:=At_.D) (xs:=[(⟨x1,2,2,false⟩:At_)]) ?_
 refine ggE hr fun g6 hr=>?_
 refine APf1 (f:=At_.D) 9 (fun _=>rfl) 40 g6 ?_
 refine W1 ?_
 refine SB ?_
 refine N0 ?_
 cases hr
 exact q0l hS [(0,0),(1,1),(2,2),(9,4)] 5
 refine q0y rfl (dF h12) ?_
 refine q0m ?_
 refine q0h ?_
 refine W3 ?_
 refine LIR 8 (m:=.fz) (f:=At_.D) (xs:=[(⟨x1,y2,2,false⟩:At_)]) ?_
 refine ggE hr fun g7 hr=>?_
 refine APf1 (f:=At_.D) 9 (fun _=>rfl) 40 g7 ?_
 refine W1 ?_
 refine SB ?_
 refine N0 ?_
 cases hr
 exact q0l hS [(0,0),(1,1),(2,2),(9,4)] 5
 refine q0y rfl (bF h11) ?_
 refine q0m ?_
 refine ssr ?_
 refine N3 ?_
 refine ifE hr (fun h13 hr=>?_) fun h13 hr=>?_
 refine q0x rfl (dT h13) ?_
 refine q0h ?_
 refine W1 ?_
 refine SB ?_
 refine N0 ?_
 refine q0h ?_
 refine W3 ?_
 refine LIR 8 (m:=.fz) (f:=At_.D) (xs:=[(⟨x1,2,y3,false⟩:At_)]) ?_
 refine ggE hr fun g8 hr=>?_
 refine APf1 (f:=At_.D) 9 (fun _=>rfl) 40 g8 ?_
 refine W1 ?_
 refine SB ?_
 refine N0 ?_
 cases hr
 exact q0l hS [(0,0),(1,1),(2,2),(9,4)] 5
 refine q0y rfl (dF h13) ?_
 refine q0m ?_
 refine q0h ?_
 refine W3 ?_
 refine LIR 8 (m:=.fz) (f:=At_.D) (xs:=[(⟨x1,y2,y3,false⟩:At_)]) ?_
 refine ggE hr fun g9 hr=>?_
 refine APf1 (f:=At_.D) 9 (fun _=>rfl) 40 g9 ?_
 refine W1 ?_
 refine SB ?_
 refine N0 ?_
 cases hr
 exact q0l hS [(0,0),(1,1),(2,2),(9,4)] 5
 refine q0h ?_
 refine W1 ?_
 refine OB _ (z5C (p:=k1) (q:=1) (q6k (ltI hltk1) hl1.2)) ?_
 refine N1 ?_
 cases hr
 exact q0l hS [(0,0),(1,1),(2,2),(4,3)] 4
 refine ssr ?_
 refine N3 ?_
 refine q0y rfl (dF geI) ?_
 refine q0Q ?_
 refine sr ?_
 refine W1 ?_
 refine SB ?_
 refine N0 ?_
 refine AW.ret ?_
 cases hr
 exact q0s [(0,0),(3,1)] 2 hS
theorem j1O {a0:Int}{r:ByteArray}(hr:q9y a0=some r):Ok Tryz.prog 76 [dI a0] [] (dS r) []:=by
 refine OE Tryz.func76 fun S hS=>?_
 unfold q9y at hr
 refine J (gn 10)<|ifE hr ?_ ?_<;>intro h1 hr
 exact e
 refine bdE hr fun s1 hqq1 hr=>J (gn 13)<|q0e 0 [(3,dB (decide (a0<0))),(4,dS s1)] [] ?_ ?_
 refine J g<|q0i hqq1 0 (fun (s2,s3)=>[(0,dI s2),(3,dB (decide (a0<0))),(4,dS s3)]) (fun (s2,s3)=>[]) I fun sk1 ok1 hr hik1=>?_
 obtain⟨s2,s3⟩:=sk1
 have hr:=hr
 refine J (gn 6)<|ifE hr ?_ ?_<;>intro h2 hr
 refine J (gn 2) ?_
 cases hr
 cases hik1 _ rfl
 exact q0g hS 0
 refine J g<|J (OB' _ (bRem (b:=10) (by decide)))<|J (gn 8)<|ifE hr ?_ ?_<;>intro h3 hr
 refine ggE hr fun g1 hr=>ggE hr fun g2 hr=>J g ?_
 refine J (CIB' rfl)<|J (LIR' 0 (m:=.fz) (f:=byD) (xs:=([(UInt8.ofNat ((48+(0-(s2.tmod 10))) % 256).toNat)]:List UInt8))) ?_
 refine J (TS' rfl rfl)<|ggE hr fun g3 hr=>J g<|J (OB' _ (j7n g3))<|ggE hr fun g4 hr=>J g<|J (OB' _ (bQuo (b:=10) (by decide) g4))<|J g<|E
 refine ggE hr fun g5 hr=>J g ?_
 refine J (CIB' rfl)<|J (LIR' 0 (m:=.fz) (f:=byD) (xs:=([(UInt8.ofNat ((48+(s2.tmod 10)) % 256).toNat)]:List UInt8))) ?_
 refine J (TS' rfl rfl)<|ggE hr fun g6 hr=>J g<|J (OB' _ (j7n g6))<|ggE hr fun g7 hr=>J g<|J (OB' _ (bQuo (b:=10) (by decide) g7))<|J g<|E
 refine J (gn 5)<|ifE hr ?_ ?_<;>intro h4 hr
 refine ggE hr fun g8 hr=>J g<|J (OB' _ (j7n g8))<|e
 exact e
theorem q7J {m:Md}{a1:(List ByteArray)}{o0:l1Cur}{r:(ByteArray×l1Cur)}(hr:q6V a1 o0=some r):Ok Tryz.prog 73 [.pb 0 0,.d m (.sl 1 (a1.map A.D.s))] [.box [.d .fz (.sl 1 (o0.b.map byD)),dI o0.i,dI o0.h]] (dS r.1) [.box [.d .fz (.sl 1 (o0.b.map byD)),dI r.2.i,dI r.2.h]]:=by
 refine OE Tryz.func73 fun S hS=>?_
 unfold q6V at hr
 refine bdP hr fun y1 z1 hq1 hr=>J g<|J (CB' [(0,0)] [] (q3W hq1))<|ggE hr fun g1 hr=>bdE hr fun x1 hx1 hr=>e
theorem q5K {a0:Int}{a1:Int}{a2:Int}{r:Bool}(hr:q5z a0 a1 a2=some r):Ok Tryz.prog 101 [dI a0,dI a1,dI a2] [] (dB r) []:=by
 refine OE Tryz.func101 fun S hS=>?_
 unfold q5z at hr
 refine J (gn 9)<|ifE hr ?_ ?_<;>intro h1 hr
 exact e
 exact e
theorem q7O {m:Md}{a0:Rule}{a1:Int}{r:ByteArray}(hr:q5A a0 a1=some r):Ok Tryz.prog 135 [Rule.x m a0,dI a1] [] (dS r) []:=by
 refine OE Tryz.func135 fun S hS=>?_
 unfold q5A at hr
 refine J g<|J (BX' 0)<|J (gn 8)<|ifE hr ?_ ?_<;>intro h1 hr
 exact e
 refine bdE hr fun y1 hy1 hr=>J g<|J (CB' [] [] (q5K hy1))<|J (gn 2)<|ifE hr ?_ ?_<;>intro h2 hr
 refine ggE hr fun g1 hr=>ggE hr fun g2 hr=>bdE hr fun x1 hx1 hr=>e
 exact e
theorem j1P {m:Md}{a0:Symbol}{r:Symbol}(hr:q8z a0=some r):Ok Tryz.prog 158 [Symbol.x m a0] [] (.ag [dS r.Name,.ref 0 none]) [.row .fz 4 (r.Attributes.map At_.D)]:=by
 refine OE Tryz.func158 fun S hS=>?_
 unfold q8z at hr
 refine J g<|J (BX' 0)<|J (NV' 1)<|J g<|J (L0' 2 At_.D)<|ggE hr fun g1 hr=>J g<|J (j1K (f:=At_.D) 3 40 (fun _=>rfl) g1)<|e
theorem q6P {m:Md}{a0:Gm_}{a1:ByteArray}{r:(Symbol×Bool)}(hr:q5n a0 a1=some r):Ok Tryz.prog 102 [Gm_.y m a0,dS a1] [] (.tu [.ag [dS r.1.Name,.ref 0 none],dB r.2]) [.row .fz 4 (r.1.Attributes.map At_.D)]:=by
 refine OE Tryz.func102 fun S hS=>?_
 unfold q5n at hr
 refine J g<|J (BX' 0)<|J (NV' 1)<|J (gn 8)<|J (lenA 0 0)<|fun hl1=>bdE hr fun q1 hqq1 hr=>q0b hqq1 hl1 2 (fun k1 _=>[(1,dS a1),(2,.pb 0 0),(4,.pb 1 0),(6,dI (k1:Int))]) (fun k1 _=>[]) I (fun k1 xk1 sk1 ok1 hxk1 hr hltk1 hik1=>?_) fun k1 sk1 ek1 hltk1=>?_
 refine J (gn 24)<|ifE hr ?_ ?_<;>intro h1 hr
 refine bdE hr fun y1 hy1 hr=>J g<|J (CB' [(0,2)] [] (j1P (m:=m) hy1))<|e
 exact e
 subst ek1
 refine J (gn 18) ?_
 refine J (q0c (q0j (q:=1) (c:=1) (r:=2) .fz 4 rfl rfl rfl))<|J g<|E
theorem q7X {m:Md}{a0:Gm_}{a1:Rule}{r:(List Oc)}(hr:q5m a0 a1=some r):Ok Tryz.prog 134 [Gm_.y m a0,Rule.x m a1] [] (.ref 0 none) [.row .fz 2 (r.map Oc.D)]:=by
 refine OE Tryz.func134 fun S hS=>?_
 unfold q5m at hr
 refine J g<|J (BX' 0)<|J (BX' 1)<|J g<|J (L0' 2 Oc.D)<|bdE hr fun s1 hqq1 hr=>J (gn 7)<|q0e 3 [(5,.ref 2 none)] [(2,.row .fz 2 (s1.map Oc.D))] ?_ ?_
 refine J g<|q0i hqq1 3 (fun (s2,s3)=>[(2,.pb 0 0),(3,.pb 1 0),(5,.ref 2 none),(6,dI s3)]) (fun (s2,s3)=>[(2,.row .fz 2 (s2.map Oc.D))]) I fun sk1 ok1 hr hik1=>?_
 obtain⟨s2,s3⟩:=sk1
 have hr:=hr
 refine J (gn 9)<|ifE hr ?_ ?_<;>intro h1 hr
 refine bdE hr fun s4 hqq2 hr=>J (gn 3)<|q0e 3 [(2,.pb 0 0),(3,.pb 1 0),(5,.ref 2 none),(6,dI s3)] [(2,.row .fz 2 (s4.map Oc.D))] ?_ ?_
 replace hr:=hqq2
 refine bdE hr fun y1 hy1 hr=>J g<|J (CB' [] [] (q7O (m:=m) hy1))<|bdP hr fun y2 y3 hq3 hr=>J (CB' [(0,3)] [] (q6P (m:=m) hq3))<|J g<|J (NV' 4)<|J (gn 13)<|ifE hr ?_ ?_<;>intro h2 hr
 refine J (gn 9)<|J (lenR 3)<|fun hl2=>bdE hr fun s5 hqq4 hr=>q0d hqq4 hl2 5 (fun k2 s5=>[(2,.pb 0 0),(3,.pb 1 0),(5,.ref 2 none),(6,dI s3),(7,.pb 4 0),(9,dI 2),(10,dI (k2:Int))]) (fun k2 s5=>[(2,.row .fz 2 (s5.map Oc.D))]) I (fun k2 xk2 sk2 ok2 hxk2 hr hltk2=>?_) fun k2 hltk2=>?_
 obtain⟨s5,rfl⟩:∃ y,y=sk2:=⟨_,rfl⟩
 refine bdE hr fun s6 hqq5 hr=>J (gn 12)<|q0e 5 [(2,.pb 0 0),(3,.pb 1 0),(5,.ref 2 none),(6,dI s3),(7,.pb 4 0),(9,dI 2),(10,dI (k2:Int))] [(2,.row .fz 2 (s6.map Oc.D))] ?_ ?_
 replace hr:=hqq5
 refine J (gn 12)<|ifE hr ?_ ?_<;>intro h3 hr
 refine J g<|J (LIR' 5 (m:=.fz) (f:=Oc.D) (xs:=[(⟨s3,xk2.Name⟩:Oc)]))<|ggE hr fun g1 hr=>J (z0u (f:=Oc.D) 6 (fun _=>rfl) 24 g1)<|e
 exact e
 exact e
 exact e
 refine J (gn 7)<|J (lenR 3)<|fun hl3=>bdE hr fun s7 hqq6 hr=>q0d hqq6 hl3 5 (fun k3 s7=>[(2,.pb 0 0),(3,.pb 1 0),(5,.ref 2 none),(6,dI s3),(7,.pb 4 0),(9,dI 1),(10,dI (k3:Int))]) (fun k3 s7=>[(2,.row .fz 2 (s7.map Oc.D))]) I (fun k3 xk3 sk3 ok3 hxk3 hr hltk3=>?_) fun k3 hltk3=>?_
 obtain⟨s7,rfl⟩:∃ y,y=sk3:=⟨_,rfl⟩
 refine bdE hr fun s8 hqq7 hr=>J (gn 12)<|q0e 5 [(2,.pb 0 0),(3,.pb 1 0),(5,.ref 2 none),(6,dI s3),(7,.pb 4 0),(9,dI 1),(10,dI (k3:Int))] [(2,.row .fz 2 (s8.map Oc.D))] ?_ ?_
 replace hr:=hqq7
 refine J (gn 12)<|ifE hr ?_ ?_<;>intro h4 hr
 refine J g<|J (LIR' 5 (m:=.fz) (f:=Oc.D) (xs:=[(⟨s3,xk3.Name⟩:Oc)]))<|ggE hr fun g2 hr=>J (z0u (f:=Oc.D) 6 (fun _=>rfl) 24 g2)<|e
 exact e
 exact e
 exact e
 refine ggE hr fun g3 hr=>e
 refine J (gn 2) ?_
 cases hr
 cases hik1 _ rfl
 exact GH.trans (q0D (q:=0) [.d m (.sl 2 (a0.Symbols.map Symbol.D)),.u] (.cons .rfl (.cons .u .nil)) rfl) (q0g hS 3)
 exact e
theorem q8M {m:Md}{a0:Symbol}{a1:ByteArray}{r:(At_×Bool)}(hr:q5G a0 a1=some r):Ok Tryz.prog 136 [Symbol.x m a0,dS a1] [] (.tu [At_.x .fz r.1,dB r.2]) []:=by
 refine OE Tryz.func136 fun S hS=>?_
 unfold q5G at hr
 refine J g<|J (BX' 0)<|J (NV' 1)<|J (gn 8)<|J (lenA 1 0)<|fun hl1=>bdE hr fun q1 hqq1 hr=>q0b hqq1 hl1 2 (fun k1 _=>[(1,dS a1),(2,.pb 0 0),(4,.pb 1 0),(6,dI (k1:Int))]) (fun k1 _=>[]) I (fun k1 xk1 sk1 ok1 hxk1 hr hltk1 hik1=>?_) fun k1 sk1 ek1 hltk1=>?_
 refine J (gn 24)<|ifE hr ?_ ?_<;>intro h1 hr
 exact e
 exact e
 subst ek1
 exact e
theorem z3x {m:Md}{a0:Gm_}{a1:Rule}{a2:Int}{r:(List Oc)}(hr:z0U a0 a1 a2=some r):Ok Tryz.prog 139 [Gm_.y m a0,Rule.x m a1,dI a2] [] (.ref 0 none) [.row .fz 2 (r.map Oc.D)]:=by
 refine OE Tryz.func139 fun S hS=>?_
 unfold z0U at hr
 refine J g<|J (BX' 0)<|J (BX' 1)<|J g<|J (L0' 2 Oc.D)<|bdE hr fun s1 hqq1 hr=>J (gn 7)<|q0e 3 [(7,.ref 2 none)] [(2,.row .fz 2 (s1.map Oc.D))] ?_ ?_
 refine J g<|q0i hqq1 3 (fun (s2,s3)=>[(2,dI a2),(3,.pb 0 0),(4,.pb 1 0),(7,.ref 2 none),(8,dI s3)]) (fun (s2,s3)=>[(2,.row .fz 2 (s2.map Oc.D))]) I fun sk1 ok1 hr hik1=>?_
 obtain⟨s2,s3⟩:=sk1
 have hr:=hr
 refine J (gn 9)<|ifE hr ?_ ?_<;>intro h1 hr
 refine bdE hr fun y1 hy1 hr=>J g<|J (CB' [] [] (q7O (m:=m) hy1))<|bdP hr fun y2 y3 hq2 hr=>J (CB' [(0,3)] [] (q6P (m:=m) hq2))<|J g<|J (NV' 4)<|J (gn 8)<|J (lenR 3)<|fun hl2=>bdE hr fun s4 hqq3 hr=>q0d hqq3 hl2 5 (fun k2 s4=>[(2,dI a2),(3,.pb 0 0),(4,.pb 1 0),(7,.ref 2 none),(8,dI s3),(9,.pb 4 0),(11,dI (k2:Int))]) (fun k2 s4=>[(2,.row .fz 2 (s4.map Oc.D))]) I (fun k2 xk2 sk2 ok2 hxk2 hr hltk2=>?_) fun k2 hltk2=>?_
 obtain⟨s4,rfl⟩:∃ y,y=sk2:=⟨_,rfl⟩
 refine bdE hr fun s5 hqq4 hr=>J (gn 12)<|q0e 5 [(2,dI a2),(3,.pb 0 0),(4,.pb 1 0),(7,.ref 2 none),(8,dI s3),(9,.pb 4 0),(11,dI (k2:Int))] [(2,.row .fz 2 (s5.map Oc.D))] ?_ ?_
 replace hr:=hqq4
 refine J g<|J (NV' 5)<|bdE hr fun s6 hqq5 hr=>J (gn 6)<|q0a 5 [(2,dI a2),(3,.pb 0 0),(4,.pb 1 0),(7,.ref 2 none),(8,dI s3),(9,.pb 4 0),(11,dI (k2:Int)),(12,.pb 5 0),(48,dB s6)] ?_ ?_
 replace hr:=hqq5
 refine ifE hr ?_ ?_<;>intro h2 hr
 exact e
 exact e
 refine bdE hr fun s7 hqq6 hr=>q0a 9 [(2,dI a2),(3,.pb 0 0),(4,.pb 1 0),(7,.ref 2 none),(8,dI s3),(9,.pb 4 0),(11,dI (k2:Int)),(12,.pb 5 0),(57,dB s7)] ?_ ?_
 replace hr:=hqq6
 refine ifE hr ?_ ?_<;>intro h3 hr
 exact e
 refine bdP hr fun s8 s9 hqq7 hr=>J (gn 3)<|q0a 5 [(2,dI a2),(3,.pb 0 0),(4,.pb 1 0),(7,.ref 2 none),(8,dI s3),(9,.pb 4 0),(11,dI (k2:Int)),(12,.pb 5 0),(49,dB false),(50,dI s3),(51,dB (decide (0<s3))),(52,dB s8),(56,dB s9)] ?_ ?_
 replace hr:=hqq7
 refine ifE hr ?_ ?_<;>intro h4 hr
 exact e
 exact e
 exact e
 refine bdE hr fun s10 hqq8 hr=>J (gn 8)<|q0a 3 [(2,dI a2),(3,.pb 0 0),(4,.pb 1 0),(7,.ref 2 none),(8,dI s3),(9,.pb 4 0),(11,dI (k2:Int)),(12,.pb 5 0),(64,dB s10)] ?_ ?_
 replace hr:=hqq8
 refine ifE hr ?_ ?_<;>intro h5 hr
 exact e
 exact e
 refine J (gn 1)<|ifE hr ?_ ?_<;>intro h6 hr
 refine J g<|J (LIR' 6 (m:=.fz) (f:=Oc.D) (xs:=[(⟨s3,xk2.Name⟩:Oc)]))<|ggE hr fun g1 hr=>J (z0u (f:=Oc.D) 7 (fun _=>rfl) 24 g1)<|e
 exact e
 exact e
 refine ggE hr fun g2 hr=>e
 refine J (gn 2) ?_
 cases hr
 cases hik1 _ rfl
 exact GH.trans (q0D (q:=0) [.d m (.sl 2 (a0.Symbols.map Symbol.D)),.u] (.cons .rfl (.cons .u .nil)) rfl) (q0g hS 3)
 exact e
theorem q9t {a0:Int}{a1:Int}{r:Expr}(hr:q7i a0 a1=some r):Ok Tryz.prog 178 [dI a0,dI a1] [] (.ag [dI r.Kind,dI r.N,dI r.Pos,dI r.Type_,dS r.Symbol,dS r.Name,.ref 0 none]) [.row .fz 7 (r.Args.map Expr.D)]:=by
 refine OE Tryz.func178 fun S hS=>?_
 unfold q7i at hr
 refine J g<|J (NV' 0)<|J (gn 9) ?_
 refine J (q0c (q0j (q:=0) (c:=6) (r:=1) .fz 7 rfl rfl rfl))<|J g<|E
theorem q8N {m:Md}{a1:Int}{a2:(List Oc)}{o0:l1Cur}{r:(Expr×l1Cur)}(hr:q7n a1 a2 o0=some r):Ok Tryz.prog 138 [.pb 0 0,dI a1,.d m (.sl 2 (a2.map Oc.D))] [.box [.d .fz (.sl 1 (o0.b.map byD)),dI o0.i,dI o0.h]] (.ag [dI r.1.Kind,dI r.1.N,dI r.1.Pos,dI r.1.Type_,dS r.1.Symbol,dS r.1.Name,.ref 1 none]) [.box [.d .fz (.sl 1 (o0.b.map byD)),dI r.2.i,dI r.2.h],.row .fz 7 (r.1.Args.map Expr.D)]:=by
 refine OE Tryz.func138 fun S hS=>?_
 unfold q7n at hr
 refine J g<|J (NV' 1)<|J (gn 7)<|ifE hr ?_ ?_<;>intro h1 hr
 refine bdP hr fun y1 z1 hq1 hr=>J g<|J (CB' [(0,0)] [] (q5r hq1))<|J (gn 3)<|ifE hr ?_ ?_<;>intro h2 hr
 refine J (gn 13)<|ifE hr ?_ ?_<;>intro h3 hr
 refine bdP hr fun y2 z2 hq2 hr=>J g<|J (CB' [(0,0)] [] (q5r hq2))<|J (gn 1)<|ifE hr ?_ ?_<;>intro h4 hr
 refine J (gn 7) ?_
 refine J (q0c (q0j (q:=1) (c:=6) (r:=2) .fz 7 rfl rfl rfl))<|J g<|E
 refine J (gn 8) ?_
 refine J (q0c (q0j (q:=1) (c:=6) (r:=2) .fz 7 rfl rfl rfl))<|J g<|E
 refine J (gn 6)<|ifE hr ?_ ?_<;>intro h5 hr
 refine bdP hr fun y3 z3 hq3 hr=>J g<|J (CB' [(0,0)] [] (q3W hq3))<|bdE hr fun y4 hy4 hr=>J g<|J (CB' [(0,2)] [] (q9t hy4))<|e
 refine J (gn 6)<|ifE hr ?_ ?_<;>intro h6 hr
 refine bdP hr fun y5 z4 hq4 hr=>J g<|J (CB' [(0,0)] [] (q3W hq4))<|ggE hr fun g1 hr=>?_
 refine J (CIU' g1 rfl)<|ggE hr fun g2 hr=>J (OB' _ (j7m g2))<|bdE hr fun y6 hy6 hr=>J g<|J (CB' [(0,2)] [] (q9t hy6))<|J g<|E
 refine bdP hr fun y7 z5 hq5 hr=>J g<|J (CB' [(0,0)] [] (q3W hq5))<|bdE hr fun y8 hy8 hr=>J (CB' [(0,2)] [] (q9t hy8))<|e
 refine bdP hr fun y9 z6 hq6 hr=>J g<|J (CB' [(0,0)] [] (q3W hq6))<|ggE hr fun g3 hr=>bdE hr fun x1 hx1 hr=>J g<|J (NV' 2)<|J (gn 12) ?_
 refine J (q0c (q0j (q:=1) (c:=6) (r:=3) .fz 7 rfl rfl rfl))<|J g<|E
 refine J (gn 19)<|ifE hr ?_ ?_<;>intro h7 hr
 refine bdP hr fun y10 z7 hq7 hr=>J g<|J (CB' [(0,0)] [] (q5r hq7))<|J (gn 1)<|ifE hr ?_ ?_<;>intro h8 hr
 refine J (gn 7) ?_
 refine J (q0c (q0j (q:=1) (c:=6) (r:=2) .fz 7 rfl rfl rfl))<|J g<|E
 refine J (gn 8) ?_
 refine J (q0c (q0j (q:=1) (c:=6) (r:=2) .fz 7 rfl rfl rfl))<|J g<|E
 refine J (gn 6)<|ifE hr ?_ ?_<;>intro h9 hr
 refine bdP hr fun y11 z8 hq8 hr=>J g<|J (CB' [(0,0)] [] (q3W hq8))<|bdE hr fun y12 hy12 hr=>J g<|J (CB' [(0,2)] [] (q9t hy12))<|e
 refine J (gn 6)<|ifE hr ?_ ?_<;>intro h10 hr
 refine bdP hr fun y13 z9 hq9 hr=>J g<|J (CB' [(0,0)] [] (q3W hq9))<|ggE hr fun g4 hr=>?_
 refine J (CIU' g4 rfl)<|ggE hr fun g5 hr=>J (OB' _ (j7m g5))<|bdE hr fun y14 hy14 hr=>J g<|J (CB' [(0,2)] [] (q9t hy14))<|J g<|E
 refine bdP hr fun y15 z10 hq10 hr=>J g<|J (CB' [(0,0)] [] (q3W hq10))<|bdE hr fun y16 hy16 hr=>J (CB' [(0,2)] [] (q9t hy16))<|e
theorem q6C {a0:Int}{r:(Int×Int×Int)}(hr:q4Z a0=some r):Ok Tryz.prog 183 [dI a0] [] (.tu [dI r.1,dI r.2.1,dI r.2.2]) []:=by
 refine OE Tryz.func183 fun S hS=>?_
 unfold q4Z at hr
 refine bdE hr fun y1 hy1 hr=>J g<|J (CB' [] [] (q5K hy1))<|J (gn 2)<|ifE hr ?_ ?_<;>intro h1 hr
 exact e
 refine bdE hr fun y2 hy2 hr=>J g<|J (CB' [] [] (q5K hy2))<|J (gn 2)<|ifE hr ?_ ?_<;>intro h2 hr
 exact e
 refine J (gn 5)<|ifE hr ?_ ?_<;>intro h3 hr
 exact e
 refine J (gn 6)<|ifE hr ?_ ?_<;>intro h4 hr
 exact e
 refine J (gn 7)<|ifE hr ?_ ?_<;>intro h5 hr
 exact e
 refine J (gn 7)<|ifE hr ?_ ?_<;>intro h6 hr
 exact e
 exact e
theorem z2F {m:Md}{a0:Int}{a1:Expr}{a2:Expr}{r:Expr}(hr:z1T a0 a1 a2=some r):Ok Tryz.prog 179 [dI a0,Expr.x m a1,Expr.x m a2] [] (.ag [dI r.Kind,dI r.N,dI r.Pos,dI r.Type_,dS r.Symbol,dS r.Name,.ref 0 none]) [.row m 7 (r.Args.map Expr.D)]:=by
 refine OE Tryz.func179 fun S hS=>?_
 unfold z1T at hr
 refine J g<|J (BX' 0)<|J (BX' 1)<|J (NV' 2)<|J g ?_
 refine J (j4Q 3 (m:=m) (f:=Expr.D) [a1,a2] (by simp only[List.map_cons,List.map_nil,Expr.D_eq];rfl))<|J g<|E
theorem j3A {Rc0:Gm_→Rule→Int→Int→Bool→l1Cur→Option (Expr×l1Cur)}(Ic0:∀ {m:Md} {a1:Gm_} {a2:Rule} {a3:Int} {a4:Int} {a5:Bool} {o0:l1Cur} {r:(Expr×l1Cur)},Rc0 a1 a2 a3 a4 a5 o0=some r→Ok Tryz.prog 137 [.pb 0 0,Gm_.y m a1,Rule.x m a2,dI a3,dI a4,dB a5] [.box [.d .fz (.sl 1 (o0.b.map byD)),dI o0.i,dI o0.h]] (.ag [dI r.1.Kind,dI r.1.N,dI r.1.Pos,dI r.1.Type_,dS r.1.Symbol,dS r.1.Name,.ref 1 none]) [.box [.d .fz (.sl 1 (o0.b.map byD)),dI r.2.i,dI r.2.h],.row .fz 7 (r.1.Args.map Expr.D)]){m:Md}{a1:Gm_}{a2:Rule}{a3:Int}{a4:Int}{a5:Bool}{o0:l1Cur}{r:(Expr×l1Cur)}(hr:q6Q Rc0 a1 a2 a3 a4 a5 o0=some r):Ok Tryz.prog 137 [.pb 0 0,Gm_.y m a1,Rule.x m a2,dI a3,dI a4,dB a5] [.box [.d .fz (.sl 1 (o0.b.map byD)),dI o0.i,dI o0.h]] (.ag [dI r.1.Kind,dI r.1.N,dI r.1.Pos,dI r.1.Type_,dS r.1.Symbol,dS r.1.Name,.ref 1 none]) [.box [.d .fz (.sl 1 (o0.b.map byD)),dI r.2.i,dI r.2.h],.row .fz 7 (r.1.Args.map Expr.D)]:=by
 refine OE Tryz.func137 fun S hS=>?_
 unfold q6Q at hr
 refine J g<|J (BX' 1)<|J (BX' 2)<|J (NV' 3)<|bdT hr fun s4 s5 s6 hqq1 hr=>J (gn 6)<|q0A 4 4 [(0,.pb 0 0),(3,dI a3),(4,dI a4),(5,dB a5),(7,.pb 1 0),(8,.pb 2 0),(12,.pb 3 0),(24,dB s4)] [(0,.box [.d .fz (.sl 1 (o0.b.map byD)),dI s5,dI s6])] ?_ ?_
 replace hr:=hqq1
 refine ifE hr ?_ ?_<;>intro h1 hr
 exact e
 refine bdP hr fun y1 z1 hq2 hr=>J g<|J (CB' [(0,0)] [] (q5r hq2))<|e
 refine J (gn 1)<|ifE hr ?_ ?_<;>intro h2 hr
 refine bdE hr fun s7 hqq3 hr=>J (gn 6)<|q0a 4 [(0,.pb 0 0),(3,dI a3),(7,.pb 1 0),(8,.pb 2 0),(12,.pb 3 0),(30,dB s7)] ?_ ?_
 replace hr:=hqq3
 refine ifE hr ?_ ?_<;>intro h3 hr
 exact e
 exact e
 refine bdT hr fun s11 s12 s13 hqq4 hr=>q0A 4 4 [(0,.pb 0 0),(3,dI a3),(7,.pb 1 0),(8,.pb 2 0),(12,.pb 3 0),(34,dB s11)] [(0,.box [.d .fz (.sl 1 (o0.b.map byD)),dI s12,dI s13])] ?_ ?_
 replace hr:=hqq4
 refine ifE hr ?_ ?_<;>intro h4 hr
 refine bdP hr fun y2 z2 hq5 hr=>J g<|J (CB' [(0,0)] [] (q5r hq5))<|e
 exact e
 refine J (gn 1)<|ifE hr ?_ ?_<;>intro h5 hr
 refine J (gn 7) ?_
 refine J (q0c (q0j (q:=3) (c:=6) (r:=4) .fz 7 rfl rfl rfl))<|J g<|E
 refine bdE hr fun y3 hy3 hr=>J g<|J (CB' [(0,4)] [] (z3x (m:=m) hy3))<|bdP hr fun y4 z3 hq6 hr=>J (CB' [(0,0),(1,5)] [4] (q8N (m:=.bo) hq6))<|e
 refine bdT hr fun s17 s18 s19 hqq7 hr=>J (gn 6)<|q0A 4 4 [(0,.pb 0 0),(3,dI a3),(4,dI a4),(5,dB a5),(7,.pb 1 0),(8,.pb 2 0),(12,.pb 3 0),(47,dB s17)] [(0,.box [.d .fz (.sl 1 (o0.b.map byD)),dI s18,dI s19])] ?_ ?_
 replace hr:=hqq7
 refine ifE hr ?_ ?_<;>intro h6 hr
 refine bdP hr fun y5 z4 hq8 hr=>J g<|J (CB' [(0,0)] [] (q5r hq8))<|e
 exact e
 refine J (gn 1)<|ifE hr ?_ ?_<;>intro h7 hr
 refine bdP hr fun y6 z5 hq9 hr=>J g<|J (CB' [(0,0)] [] (q3W hq9))<|ggE hr fun g1 hr=>bdE hr fun x1 hx1 hr=>J g<|J (NV' 4)<|bdP hr fun y7 z6 hq10 hr=>J g<|J (CB' [(0,0)] [] (q3W hq10))<|ggE hr fun g2 hr=>bdE hr fun x2 hx2 hr=>J g<|J (NV' 5)<|J (gn 9)<|ifE hr ?_ ?_<;>intro h8 hr
 refine bdE hr fun y8 hy8 hr=>J g<|J (CB' [(0,6)] [] (z3x (m:=m) hy8))<|bdP hr fun y9 z7 hq11 hr=>J (CBz' 7 [(0,0),(1,7)] [6] (q8N (m:=.bo) hq11)) ?_
 refine J (j3r 8 (m:=.fz) (f:=Expr.D) [y9] (by simp only[List.map_cons,List.map_nil,Expr.D_eq];rfl))<|J g<|E
 refine bdP hr fun y10 z8 hq12 hr=>J g<|J (CB' [(0,0)] [] (q5r hq12))<|J (gn 1)<|ifE hr ?_ ?_<;>intro h9 hr
 refine ggE hr fun g3 hr=>bdP hr fun y11 z9 hq13 hr=>J g<|J (CBz' 6 [(0,0),(1,6)] [] (Ic0 (m:=m) hq13))<|ggE hr fun g4 hr=>bdP hr fun y12 z10 hq14 hr=>J g<|J (CBz' 7 [(0,0),(1,7)] [] (Ic0 (m:=m) hq14))<|ggE hr fun g5 hr=>bdP hr fun y13 z11 hq15 hr=>J g<|J (CBz' 8 [(0,0),(1,8)] [] (Ic0 (m:=m) hq15)) ?_
 refine J (j3r 9 (m:=.fz) (f:=Expr.D) [y11,y12,y13] (by simp only[List.map_cons,List.map_nil,Expr.D_eq];rfl))<|J g<|E
 refine J (gn 17)<|ifE hr ?_ ?_<;>intro h10 hr
 refine bdE hr fun y14 hy14 hr=>J g<|J (CB' [(0,6)] [] (z3x (m:=m) hy14))<|bdP hr fun y15 z12 hq16 hr=>J (CB' [(0,0),(1,7)] [6] (q8N (m:=.bo) hq16))<|e
 refine J (gn 6)<|ifE hr ?_ ?_<;>intro h11 hr
 refine J g<|J (LIR' 6 (m:=.fz) (f:=(A.D.i .i64)) (xs:=([1,1,2,3,4,5]:List Int)))<|bdP hr fun y16 z13 hq17 hr=>J (CB' [(0,0)] [6] (q6d (m:=.bo) hq17))<|bdT hr fun y17 y18 y19 hq18 hr=>J g<|J (CB' [] [] (q6C hq18))<|ggE hr fun g6 hr=>bdP hr fun y20 z14 hq19 hr=>J g<|J (CBz' 7 [(0,0),(1,7)] [] (Ic0 (m:=m) hq19))<|ggE hr fun g7 hr=>bdP hr fun y21 z15 hq20 hr=>J g<|J (CBz' 8 [(0,0),(1,8)] [] (Ic0 (m:=m) hq20))<|bdE hr fun y22 hy22 hr=>J (CB' [(0,9)] [] (z2F (m:=.fz) hy22))<|e
 refine J (gn 6)<|ifE hr ?_ ?_<;>intro h12 hr
 refine J g<|J (LIR' 6 (m:=.fz) (f:=(A.D.i .i64)) (xs:=([6,6,7,8,12]:List Int)))<|bdP hr fun y23 z16 hq21 hr=>J (CB' [(0,0)] [6] (q6d (m:=.bo) hq21))<|bdT hr fun y24 y25 y26 hq22 hr=>J g<|J (CB' [] [] (q6C hq22))<|ggE hr fun g8 hr=>bdP hr fun y27 z17 hq23 hr=>J g<|J (CBz' 7 [(0,0),(1,7)] [] (Ic0 (m:=m) hq23))<|ggE hr fun g9 hr=>bdP hr fun y28 z18 hq24 hr=>J g<|J (CBz' 8 [(0,0),(1,8)] [] (Ic0 (m:=m) hq24))<|bdE hr fun y29 hy29 hr=>J (CB' [(0,9)] [] (z2F (m:=.fz) hy29))<|e
 refine J g<|J (LIR' 6 (m:=.fz) (f:=(A.D.i .i64)) (xs:=([9,10,11]:List Int)))<|bdP hr fun y30 z19 hq25 hr=>J (CB' [(0,0)] [6] (q6d (m:=.bo) hq25))<|bdT hr fun y31 y32 y33 hq26 hr=>J g<|J (CB' [] [] (q6C hq26))<|ggE hr fun g10 hr=>bdP hr fun y34 z20 hq27 hr=>J g<|J (CBz' 7 [(0,0),(1,7)] [] (Ic0 (m:=m) hq27))<|ggE hr fun g11 hr=>bdP hr fun y35 z21 hq28 hr=>J g<|J (CBz' 8 [(0,0),(1,8)] [] (Ic0 (m:=m) hq28))<|bdE hr fun y36 hy36 hr=>J (CB' [(0,9)] [] (z2F (m:=.fz) hy36))<|e
 refine bdP hr fun y37 z22 hq29 hr=>J g<|J (CB' [(0,0)] [] (q5r hq29))<|J (gn 1)<|ifE hr ?_ ?_<;>intro h13 hr
 refine ggE hr fun g12 hr=>bdP hr fun y38 z23 hq30 hr=>J g<|J (CBz' 4 [(0,0),(1,4)] [] (Ic0 (m:=m) hq30))<|ggE hr fun g13 hr=>bdP hr fun y39 z24 hq31 hr=>J g<|J (CBz' 5 [(0,0),(1,5)] [] (Ic0 (m:=m) hq31))<|ggE hr fun g14 hr=>bdP hr fun y40 z25 hq32 hr=>J g<|J (CBz' 6 [(0,0),(1,6)] [] (Ic0 (m:=m) hq32)) ?_
 refine J (j3r 7 (m:=.fz) (f:=Expr.D) [y38,y39,y40] (by simp only[List.map_cons,List.map_nil,Expr.D_eq];rfl))<|J g<|E
 refine J (gn 17)<|ifE hr ?_ ?_<;>intro h14 hr
 refine bdE hr fun y41 hy41 hr=>J g<|J (CB' [(0,4)] [] (z3x (m:=m) hy41))<|bdP hr fun y42 z26 hq33 hr=>J (CB' [(0,0),(1,5)] [4] (q8N (m:=.bo) hq33))<|e
 refine J (gn 6)<|ifE hr ?_ ?_<;>intro h15 hr
 refine J g<|J (LIR' 4 (m:=.fz) (f:=(A.D.i .i64)) (xs:=([1,1,2,3,4,5]:List Int)))<|bdP hr fun y43 z27 hq34 hr=>J (CB' [(0,0)] [4] (q6d (m:=.bo) hq34))<|bdT hr fun y44 y45 y46 hq35 hr=>J g<|J (CB' [] [] (q6C hq35))<|ggE hr fun g15 hr=>bdP hr fun y47 z28 hq36 hr=>J g<|J (CBz' 5 [(0,0),(1,5)] [] (Ic0 (m:=m) hq36))<|ggE hr fun g16 hr=>bdP hr fun y48 z29 hq37 hr=>J g<|J (CBz' 6 [(0,0),(1,6)] [] (Ic0 (m:=m) hq37))<|bdE hr fun y49 hy49 hr=>J (CB' [(0,7)] [] (z2F (m:=.fz) hy49))<|e
 refine J (gn 6)<|ifE hr ?_ ?_<;>intro h16 hr
 refine J g<|J (LIR' 4 (m:=.fz) (f:=(A.D.i .i64)) (xs:=([6,6,7,8,12]:List Int)))<|bdP hr fun y50 z30 hq38 hr=>J (CB' [(0,0)] [4] (q6d (m:=.bo) hq38))<|bdT hr fun y51 y52 y53 hq39 hr=>J g<|J (CB' [] [] (q6C hq39))<|ggE hr fun g17 hr=>bdP hr fun y54 z31 hq40 hr=>J g<|J (CBz' 5 [(0,0),(1,5)] [] (Ic0 (m:=m) hq40))<|ggE hr fun g18 hr=>bdP hr fun y55 z32 hq41 hr=>J g<|J (CBz' 6 [(0,0),(1,6)] [] (Ic0 (m:=m) hq41))<|bdE hr fun y56 hy56 hr=>J (CB' [(0,7)] [] (z2F (m:=.fz) hy56))<|e
 refine J g<|J (LIR' 4 (m:=.fz) (f:=(A.D.i .i64)) (xs:=([9,10,11]:List Int)))<|bdP hr fun y57 z33 hq42 hr=>J (CB' [(0,0)] [4] (q6d (m:=.bo) hq42))<|bdT hr fun y58 y59 y60 hq43 hr=>J g<|J (CB' [] [] (q6C hq43))<|ggE hr fun g19 hr=>bdP hr fun y61 z34 hq44 hr=>J g<|J (CBz' 5 [(0,0),(1,5)] [] (Ic0 (m:=m) hq44))<|ggE hr fun g20 hr=>bdP hr fun y62 z35 hq45 hr=>J g<|J (CBz' 6 [(0,0),(1,6)] [] (Ic0 (m:=m) hq45))<|bdE hr fun y63 hy63 hr=>J (CB' [(0,7)] [] (z2F (m:=.fz) hy63))<|e
theorem j3B (n:Nat):∀ {m:Md} {a1:Gm_} {a2:Rule} {a3:Int} {a4:Int} {a5:Bool} {o0:l1Cur} {r:(Expr×l1Cur)},q6l n a1 a2 a3 a4 a5 o0=some r→Ok Tryz.prog 137 [.pb 0 0,Gm_.y m a1,Rule.x m a2,dI a3,dI a4,dB a5] [.box [.d .fz (.sl 1 (o0.b.map byD)),dI o0.i,dI o0.h]] (.ag [dI r.1.Kind,dI r.1.N,dI r.1.Pos,dI r.1.Type_,dS r.1.Symbol,dS r.1.Name,.ref 1 none]) [.box [.d .fz (.sl 1 (o0.b.map byD)),dI r.2.i,dI r.2.h],.row .fz 7 (r.1.Args.map Expr.D)]:=by
  induction n with
  | zero=>intro _ _ _ _ _ _ _ r hr;exact nomatch (show (none:Option (Expr×l1Cur))=some r from hr)
  | succ n ih=>intro _ _ _ _ _ _ _ r hr;exact j3A ih hr
theorem j4S {m:Md}{a1:Gm_}{a2:Rule}{a3:Int}{a4:Int}{a5:Bool}{o0:l1Cur}{r:(Expr×l1Cur)}(hr:z7r a1 a2 a3 a4 a5 o0=some r):Ok Tryz.prog 137 [.pb 0 0,Gm_.y m a1,Rule.x m a2,dI a3,dI a4,dB a5] [.box [.d .fz (.sl 1 (o0.b.map byD)),dI o0.i,dI o0.h]] (.ag [dI r.1.Kind,dI r.1.N,dI r.1.Pos,dI r.1.Type_,dS r.1.Symbol,dS r.1.Name,.ref 1 none]) [.box [.d .fz (.sl 1 (o0.b.map byD)),dI r.2.i,dI r.2.h],.row .fz 7 (r.1.Args.map Expr.D)]:=by
 obtain⟨n,hn⟩:=q6D hr
 exact j3B n hn
theorem j4T {Rc1:Expr→Int→Option Int}(Ic1:∀ {m:Md} {a0:Expr} {a1:Int} {r:Int},Rc1 a0 a1=some r→Ok Tryz.prog 180 [Expr.x m a0,dI a1] [] (dI r) []){m:Md}{a0:Expr}{a1:Int}{r:Int}(hr:z4y Rc1 a0 a1=some r):Ok Tryz.prog 180 [Expr.x m a0,dI a1] [] (dI r) []:=by
 refine OE Tryz.func180 fun S hS=>?_
 unfold z4y at hr
 refine J g<|J (BX' 0)<|ggE hr fun g1 hr=>bdE hr fun s1 hqq1 hr=>J (gn 13)<|q0e 1 [(1,dI s1)] [] ?_ ?_
 refine J g<|q0i hqq1 1 (fun (s2,s3)=>[(1,dI s2),(2,.pb 0 0),(5,dI s3)]) (fun (s2,s3)=>[]) I fun sk1 ok1 hr hik1=>?_
 obtain⟨s2,s3⟩:=sk1
 have hr:=hr
 refine J (gn 8)<|ifE hr ?_ ?_<;>intro h1 hr
 refine J (gn 5)<|ifE hr ?_ ?_<;>intro h2 hr
 refine ggE hr fun g2 hr=>bdE hr fun x1 hx1 hr=>bdE hr fun y1 hy1 hr=>J g<|J (CB' [] [] (Ic1 (m:=m) hy1))<|ggE hr fun g3 hr=>e
 refine J (gn 2) ?_
 cases hr
 cases hik1 _ rfl
 exact q0g hS 1
 refine J (gn 7) ?_
 cases hr
 cases hik1 _ rfl
 exact q0g hS 1
 exact e
theorem j4U (n:Nat):∀ {m:Md} {a0:Expr} {a1:Int} {r:Int},z1U n a0 a1=some r→Ok Tryz.prog 180 [Expr.x m a0,dI a1] [] (dI r) []:=by
  induction n with
  | zero=>intro _ _ _ r hr;exact nomatch (show (none:Option Int)=some r from hr)
  | succ n ih=>intro _ _ _ r hr;exact j4T ih hr
theorem j7s {m:Md}{a0:Expr}{a1:Int}{r:Int}(hr:z9h a0 a1=some r):Ok Tryz.prog 180 [Expr.x m a0,dI a1] [] (dI r) []:=by
 obtain⟨n,hn⟩:=q6D hr
 exact j4U n hn
theorem z4X {a0:Int}{a1:Int}{r:Int}(hr:q9L a0 a1=some r):Ok Tryz.prog 111 [dI a0,dI a1] [] (dI r) []:=by
 refine OE Tryz.func111 fun S hS=>?_
 unfold q9L at hr
 refine J (gn 11)<|ifE hr ?_ ?_<;>intro h1 hr
 exact e
 exact e
theorem z8l {Rc2:Expr→Option Int}(Ic2:∀ {m:Md} {a0:Expr} {r:Int},Rc2 a0=some r→Ok Tryz.prog 181 [Expr.x m a0] [] (dI r) []){m:Md}{a0:Expr}{r:Int}(hr:q8Y Rc2 a0=some r):Ok Tryz.prog 181 [Expr.x m a0] [] (dI r) []:=by
 refine OE Tryz.func181 fun S hS=>?_
 unfold q8Y at hr
 refine J g<|J (BX' 0)<|J (gn 12)<|J (lenA 6 0)<|fun hl1=>bdE hr fun s1 hqq1 hr=>q0d hqq1 hl1 1 (fun k1 s1=>[(1,.pb 0 0),(3,dI s1),(4,dI (k1:Int))]) (fun k1 s1=>[]) I (fun k1 xk1 sk1 ok1 hxk1 hr hltk1=>?_) fun k1 hltk1=>?_
 obtain⟨s1,rfl⟩:∃ y,y=sk1:=⟨_,rfl⟩
 refine bdE hr fun y1 hy1 hr=>J g<|J (CB' [] [] (Ic2 (m:=m) hy1))<|bdE hr fun y2 hy2 hr=>J (CB' [] [] (z4X hy2))<|e
 refine ggE hr fun g1 hr=>e
theorem z8m (n:Nat):∀ {m:Md} {a0:Expr} {r:Int},q6N n a0=some r→Ok Tryz.prog 181 [Expr.x m a0] [] (dI r) []:=by
  induction n with
  | zero=>intro _ _ r hr;exact nomatch (show (none:Option Int)=some r from hr)
  | succ n ih=>intro _ _ r hr;exact z8l ih hr
theorem z9v {m:Md}{a0:Expr}{r:Int}(hr:z2M a0=some r):Ok Tryz.prog 181 [Expr.x m a0] [] (dI r) []:=by
 obtain⟨n,hn⟩:=q6D hr
 exact z8m n hn
theorem j7t {m:Md}{a0:Expr}{r:Bool}(hr:z4z a0=some r):Ok Tryz.prog 265 [Expr.x m a0] [] (dB r) []:=by
 refine OE Tryz.func265 fun S hS=>?_
 unfold z4z at hr
 refine J g<|J (BX' 0)<|bdE hr fun s1 hqq1 hr=>J (gn 12)<|q0e 1 [(1,.pb 0 0),(3,dI s1)] [] ?_ ?_
 replace hr:=hqq1
 refine J (gn 6)<|ifE hr ?_ ?_<;>intro h1 hr
 exact e
 refine J (gn 6)<|ifE hr ?_ ?_<;>intro h2 hr
 exact e
 refine J (gn 6)<|ifE hr ?_ ?_<;>intro h3 hr
 exact e
 exact e
 refine J (gn 9)<|ifE hr ?_ ?_<;>intro h4 hr
 refine bdE hr fun s2 hqq2 hr=>J (gn 7)<|q0a 5 [(1,.pb 0 0),(27,dB s2)] ?_ ?_
 replace hr:=hqq2
 refine ifE hr ?_ ?_<;>intro h5 hr
 exact e
 exact e
 refine bdE hr fun s3 hqq3 hr=>J (gn 7)<|q0a 5 [(1,.pb 0 0),(4,dB s2),(35,dB s3)] ?_ ?_
 replace hr:=hqq3
 refine ifE hr ?_ ?_<;>intro h6 hr
 exact e
 exact e
 refine bdE hr fun s4 hqq4 hr=>J (gn 7)<|q0a 5 [(1,.pb 0 0),(4,dB s2),(5,dB s3),(43,dB s4)] ?_ ?_
 replace hr:=hqq4
 refine ifE hr ?_ ?_<;>intro h7 hr
 exact e
 exact e
 refine bdE hr fun s5 hqq5 hr=>J (gn 5)<|q0a 5 [(1,.pb 0 0),(5,dB s3),(6,dB s4),(49,dB s5)] ?_ ?_
 replace hr:=hqq5
 refine ifE hr ?_ ?_<;>intro h8 hr
 exact e
 exact e
 refine bdE hr fun s6 hqq6 hr=>q0a 8 [(1,.pb 0 0),(6,dB s4),(57,dB s6)] ?_ ?_
 replace hr:=hqq6
 refine ifE hr ?_ ?_<;>intro h9 hr
 refine bdE hr fun s7 hqq7 hr=>J (gn 2)<|q0a 5 [(1,.pb 0 0),(6,dB s4),(50,dB true),(56,dB s7)] ?_ ?_
 replace hr:=hqq7
 refine ifE hr ?_ ?_<;>intro h10 hr
 exact e
 exact e
 exact e
 exact e
 refine bdE hr fun s8 hqq8 hr=>q0a 8 [(1,.pb 0 0),(65,dB s8)] ?_ ?_
 replace hr:=hqq8
 refine ifE hr ?_ ?_<;>intro h11 hr
 refine bdE hr fun s9 hqq9 hr=>J (gn 2)<|q0a 5 [(1,.pb 0 0),(58,dB true),(64,dB s9)] ?_ ?_
 replace hr:=hqq9
 refine ifE hr ?_ ?_<;>intro h12 hr
 exact e
 exact e
 exact e
 exact e
 refine bdE hr fun s10 hqq10 hr=>q0a 10 [(1,.pb 0 0),(75,dB s10)] ?_ ?_
 replace hr:=hqq10
 refine ifE hr ?_ ?_<;>intro h13 hr
 refine bdE hr fun s11 hqq11 hr=>J (gn 4)<|q0a 5 [(1,.pb 0 0),(66,dB true),(74,dB s11)] ?_ ?_
 replace hr:=hqq11
 refine ifE hr ?_ ?_<;>intro h14 hr
 exact e
 exact e
 exact e
 exact e
 refine bdE hr fun s12 hqq12 hr=>q0a 10 [(85,dB s12)] ?_ ?_
 replace hr:=hqq12
 refine ifE hr ?_ ?_<;>intro h15 hr
 refine bdE hr fun s13 hqq13 hr=>J (gn 4)<|q0a 5 [(76,dB true),(84,dB s13)] ?_ ?_
 replace hr:=hqq13
 refine ifE hr ?_ ?_<;>intro h16 hr
 exact e
 exact e
 exact e
 exact e
 exact e
 exact e
theorem j8X {a0:Int}{a1:Int}{r:Int}(hr:z6w a0 a1=some r):Ok Tryz.prog 318 [dI a0,dI a1] [] (dI r) []:=by
 refine OE Tryz.func318 fun S hS=>?_
 unfold z6w at hr
 refine J (gn 11)<|ifE hr ?_ ?_<;>intro h1 hr
 exact e
 exact e
theorem j3C {a0:Int}{r:Int}(hr:z1W a0=some r):Ok Tryz.prog 308 [dI a0] [] (dI r) []:=by
 refine OE Tryz.func308 fun S hS=>?_
 unfold z1W at hr
 refine bdE hr fun y1 hy1 hr=>J g<|J (CB' [] [] (j8X hy1))<|bdE hr fun y2 hy2 hr=>J (CB' [] [] (z4X hy2))<|e
theorem j4V {a0:Bool}{r:Int}(hr:z3g a0=some r):Ok Tryz.prog 309 [dB a0] [] (dI r) []:=by
 refine OE Tryz.func309 fun S hS=>?_
 unfold z3g at hr
 refine J (gn 9)<|ifE hr ?_ ?_<;>intro h1 hr
 exact e
 exact e
theorem j7u {a0:Int}{a1:Int}{r:Int}(hr:z4A a0 a1=some r):Ok Tryz.prog 288 [dI a0,dI a1] [] (dI r) []:=by
 refine OE Tryz.func288 fun S hS=>?_
 unfold z4A at hr
 refine J (gn 15)<|ifE hr ?_ ?_<;>intro h1 hr
 refine bdE hr fun y1 hy1 hr=>J g<|J (CB' [] [] (j3C hy1))<|e
 refine J (gn 6)<|ifE hr ?_ ?_<;>intro h2 hr
 refine J g<|J (OB' _ j8K)<|e
 refine J (gn 6)<|ifE hr ?_ ?_<;>intro h3 hr
 refine bdE hr fun y2 hy2 hr=>J g<|J (CB' [] [] (j4V hy2))<|e
 refine J (gn 6)<|ifE hr ?_ ?_<;>intro h4 hr
 refine bdE hr fun y3 hy3 hr=>J g<|J (CB' [] [] (q5K hy3))<|J (gn 1)<|ifE hr ?_ ?_<;>intro h5 hr
 exact e
 exact e
 exact e
theorem j3D {a0:Int}{a1:Int}{r:Bool}(hr:z1X a0 a1=some r):Ok Tryz.prog 266 [dI a0,dI a1] [] (dB r) []:=by
 refine OE Tryz.func266 fun S hS=>?_
 unfold z1X at hr
 refine bdE hr fun y1 hy1 hr=>J g<|J (CB' [] [] (q5K hy1))<|ifE hr ?_ ?_<;>intro h1 hr
 refine bdE hr fun y2 hy2 hr=>J g<|J (CB' [] [] (j7u hy2))<|e
 exact e
theorem j4W {a0:ByteArray}{r:Bool}(hr:z5v a0=some r):Ok Tryz.prog 275 [dS a0] [] (dB r) []:=by
 refine OE Tryz.func275 fun S hS=>?_
 unfold z5v at hr
 refine J (gn 10) ?_
 refine q3e (.tmp 0 rfl) fun ht1=>?_
 have hl1:rngI .i64 (a0.size:Int):=k0J ht1
 refine bdE hr fun q1 hqq1 hr=>q0w hqq1 0 (fun k1 _=>[(0,dS a0),(3,dI (k1:Int))]) (fun k1 _=>[]) I (fun k1 sk1 ok1 hr hltk1 hik1=>?_) fun sk1 ek1=>?_
 refine J g<|J LS'<|bdE hr fun x1 hx1 hr=>J g ?_
 refine J (SI' rfl rfl (Int.natCast_nonneg _) hx1)<|bdE hr fun s1 hqq2 hr=>J (gn 1)<|q0a 6 [(0,dS a0),(3,dI (k1:Int)),(21,dB s1)] ?_ ?_
 replace hr:=hqq2
 refine ifE hr ?_ ?_<;>intro h1 hr
 refine J g ?_
 refine J (SI' rfl rfl (Int.natCast_nonneg _) hx1)<|J g<|E
 exact e
 refine J g ?_
 refine J (SI' rfl rfl (Int.natCast_nonneg _) hx1)<|bdE hr fun s2 hqq3 hr=>J (gn 1)<|q0a 6 [(0,dS a0),(3,dI (k1:Int)),(4,dB s1),(31,dB s2)] ?_ ?_
 replace hr:=hqq3
 refine ifE hr ?_ ?_<;>intro h2 hr
 refine J g ?_
 refine J (SI' rfl rfl (Int.natCast_nonneg _) hx1)<|J g<|E
 exact e
 refine bdE hr fun s3 hqq4 hr=>J (gn 6)<|q0a 8 [(0,dS a0),(3,dI (k1:Int)),(41,dB s3)] ?_ ?_
 replace hr:=hqq4
 refine ifE hr ?_ ?_<;>intro h3 hr
 exact e
 refine bdP hr fun s4 s5 hqq5 hr=>J (gn 3)<|q0a 4 [(0,dS a0),(3,dI (k1:Int)),(34,dB true),(35,dI (k1:Int)),(36,dB (decide ((k1:Int)=0))),(37,dB s4),(40,dB s5)] ?_ ?_
 replace hr:=hqq5
 refine ifE hr ?_ ?_<;>intro h4 hr
 exact e
 exact e
 exact e
 refine J (gn 1)<|ifE hr ?_ ?_<;>intro h5 hr
 exact e
 exact e
 subst ek1
 refine J g<|J LS'<|J g<|J LS'<|e
theorem j0o {r:(List ByteArray)}(hr:z1A=some r):Ok Tryz.prog 295 [] [] (.ref 0 none) [.row .fz 1 (r.map A.D.s)]:=by
 refine OE Tryz.func295 fun S hS=>?_
 unfold z1A at hr
 refine J g<|J (LIR' 0 (m:=.fz) (f:=A.D.s) (xs:=[(⟨#[105,102]⟩:ByteArray),(⟨#[116,104,101,110]⟩:ByteArray),(⟨#[101,108,115,101]⟩:ByteArray),(⟨#[116,114,117,101]⟩:ByteArray),(⟨#[102,97,108,115,101]⟩:ByteArray),(⟨#[108,105,116]⟩:ByteArray),(⟨#[110,111,110,101]⟩:ByteArray),(⟨#[115,101,108,102]⟩:ByteArray),(⟨#[111,102]⟩:ByteArray),(⟨#[109,97,120]⟩:ByteArray),(⟨#[109,105,110]⟩:ByteArray),(⟨#[119,105,116,104]⟩:ByteArray),(⟨#[104,97,115]⟩:ByteArray)]))<|e
theorem z6P {m:Md}{a0:(List ByteArray)}{a1:ByteArray}{r:Bool}(hr:z0V a0 a1=some r):Ok Tryz.prog 197 [.d m (.sl 1 (a0.map A.D.s)),dS a1] [] (dB r) []:=by
 refine OE Tryz.func197 fun S hS=>?_
 unfold z0V at hr
 refine J (gn 10)<|J (lenT 0)<|fun hl1=>bdE hr fun q1 hqq1 hr=>q0b hqq1 hl1 0 (fun k1 _=>[(0,.d m (.sl 1 (a0.map A.D.s))),(1,dS a1),(5,dI (k1:Int))]) (fun k1 _=>[]) I (fun k1 xk1 sk1 ok1 hxk1 hr hltk1 hik1=>?_) fun k1 sk1 ek1 hltk1=>?_
 refine J (gn 21)<|ifE hr ?_ ?_<;>intro h1 hr
 exact e
 exact e
 subst ek1
 exact e
theorem j0p {a0:ByteArray}{r:Bool}(hr:q9M a0=some r):Ok Tryz.prog 276 [dS a0] [] (dB r) []:=by
 refine OE Tryz.func276 fun S hS=>?_
 unfold q9M at hr
 refine bdE hr fun y1 hy1 hr=>J g<|J (CB' [(0,0)] [] (j0o hy1))<|bdE hr fun y2 hy2 hr=>J g<|J (CB' [] [0] (z6P (m:=.bo) hy2))<|e
theorem q5t {a0:ByteArray}{r:Bool}(hr:q4S a0=some r):Ok Tryz.prog 246 [dS a0] [] (dB r) []:=by
 refine OE Tryz.func246 fun S hS=>?_
 unfold q4S at hr
 refine bdE hr fun y1 hy1 hr=>J g<|J (CB' [] [] (j4W hy1))<|bdE hr fun s1 hqq1 hr=>q0a 5 [(0,dS a0),(2,dB false),(9,dB s1)] ?_ ?_
 replace hr:=hqq1
 refine ifE hr ?_ ?_<;>intro h1 hr
 refine J g<|J LS'<|e
 exact e
 refine bdE hr fun s2 hqq2 hr=>q0a 5 [(2,dB false),(14,dB s2)] ?_ ?_
 replace hr:=hqq2
 refine ifE hr ?_ ?_<;>intro h2 hr
 refine bdE hr fun y2 hy2 hr=>J g<|J (CB' [] [] (j0p hy2))<|e
 exact e
 exact e
theorem j7v {m:Md}{a0:Expr}{r:Bool}(hr:z4B a0=some r):Ok Tryz.prog 223 [Expr.x m a0] [] (dB r) []:=by
 refine OE Tryz.func223 fun S hS=>?_
 unfold z4B at hr
 refine J g<|J (BX' 0)<|bdE hr fun y1 hy1 hr=>J g<|J (CB' [] [] (q5K hy1))<|bdE hr fun s1 hqq1 hr=>J (gn 1)<|q0a 5 [(1,.pb 0 0),(11,dB s1)] ?_ ?_
 replace hr:=hqq1
 refine ifE hr ?_ ?_<;>intro h1 hr
 refine bdE hr fun y2 hy2 hr=>J g<|J (CB' [] [] (j7t (m:=m) hy2))<|e
 exact e
 refine J (gn 1)<|ifE hr ?_ ?_<;>intro h2 hr
 exact e
 refine J (gn 14)<|ifE hr ?_ ?_<;>intro h3 hr
 refine bdE hr fun y3 hy3 hr=>J g<|J (CB' [] [] (q5K hy3))<|bdE hr fun s2 hqq2 hr=>q0a 7 [(1,.pb 0 0),(25,dB s2)] ?_ ?_
 replace hr:=hqq2
 refine ifE hr ?_ ?_<;>intro h4 hr
 refine bdE hr fun y4 hy4 hr=>J g<|J (CB' [] [] (j3D hy4))<|e
 exact e
 refine bdE hr fun s3 hqq3 hr=>q0a 5 [(30,dB s3)] ?_ ?_
 replace hr:=hqq3
 refine ifE hr ?_ ?_<;>intro h5 hr
 exact e
 exact e
 exact e
 refine J (gn 6)<|ifE hr ?_ ?_<;>intro h6 hr
 refine bdE hr fun y5 hy5 hr=>J g<|J (CB' [] [] (q5K hy5))<|bdE hr fun s4 hqq4 hr=>q0a 5 [(40,dB s4)] ?_ ?_
 replace hr:=hqq4
 refine ifE hr ?_ ?_<;>intro h7 hr
 refine bdE hr fun y6 hy6 hr=>J g<|J (CB' [] [] (q5t hy6))<|e
 exact e
 exact e
 refine J (gn 6)<|ifE hr ?_ ?_<;>intro h8 hr
 refine bdE hr fun y7 hy7 hr=>J g<|J (CB' [] [] (q5K hy7))<|e
 refine J (gn 6)<|ifE hr ?_ ?_<;>intro h9 hr
 refine bdE hr fun y8 hy8 hr=>J g<|J (CB' [] [] (q5K hy8))<|e
 refine J (gn 6)<|ifE hr ?_ ?_<;>intro h10 hr
 refine bdE hr fun y9 hy9 hr=>J g<|J (CB' [] [] (q5t hy9))<|bdE hr fun s5 hqq5 hr=>q0a 5 [(60,dB s5)] ?_ ?_
 replace hr:=hqq5
 refine ifE hr ?_ ?_<;>intro h11 hr
 refine bdE hr fun y10 hy10 hr=>J g<|J (CB' [] [] (q5t hy10))<|e
 exact e
 exact e
 exact e
theorem j7w {Rc3:Expr→Option Bool}(Ic3:∀ {m:Md} {a0:Expr} {r:Bool},Rc3 a0=some r→Ok Tryz.prog 182 [Expr.x m a0] [] (dB r) []){m:Md}{a0:Expr}{r:Bool}(hr:z6y Rc3 a0=some r):Ok Tryz.prog 182 [Expr.x m a0] [] (dB r) []:=by
 refine OE Tryz.func182 fun S hS=>?_
 unfold z6y at hr
 refine J g<|J (BX' 0)<|J (gn 8)<|J (lenA 6 0)<|fun hl1=>bdE hr fun q1 hqq1 hr=>q0b hqq1 hl1 1 (fun k1 _=>[(1,.pb 0 0),(3,dI (k1:Int))]) (fun k1 _=>[]) I (fun k1 xk1 sk1 ok1 hxk1 hr hltk1 hik1=>?_) fun k1 sk1 ek1 hltk1=>?_
 refine bdE hr fun y1 hy1 hr=>J g<|J (CB' [] [] (Ic3 (m:=m) hy1))<|J (gn 2)<|ifE hr ?_ ?_<;>intro h1 hr
 exact e
 exact e
 subst ek1
 refine bdE hr fun y2 hy2 hr=>J g<|J (CB' [] [] (j7v (m:=m) hy2))<|e
theorem j7x (n:Nat):∀ {m:Md} {a0:Expr} {r:Bool},z6z n a0=some r→Ok Tryz.prog 182 [Expr.x m a0] [] (dB r) []:=by
  induction n with
  | zero=>intro _ _ r hr;exact nomatch (show (none:Option Bool)=some r from hr)
  | succ n ih=>intro _ _ r hr;exact j7w ih hr
theorem j8Y {m:Md}{a0:Expr}{r:Bool}(hr:j1N a0=some r):Ok Tryz.prog 182 [Expr.x m a0] [] (dB r) []:=by
 obtain⟨n,hn⟩:=q6D hr
 exact j7x n hn
theorem z2g {m:Md}{a0:Expr}{r:Bool}(hr:q7t a0=some r):Ok Tryz.prog 132 [Expr.x m a0] [] (dB r) []:=by
 refine OE Tryz.func132 fun S hS=>?_
 unfold q7t at hr
 refine J g<|J (BX' 0)<|bdE hr fun y1 hy1 hr=>J g<|J (CB' [] [] (j7s (m:=m) hy1))<|bdE hr fun s1 hqq1 hr=>J (gn 1)<|q0a 5 [(1,.pb 0 0),(2,dB false),(10,dB s1)] ?_ ?_
 replace hr:=hqq1
 refine ifE hr ?_ ?_<;>intro h1 hr
 refine bdE hr fun y2 hy2 hr=>J g<|J (CB' [] [] (z9v (m:=m) hy2))<|e
 exact e
 refine bdE hr fun s2 hqq2 hr=>q0a 4 [(2,dB false),(14,dB s2)] ?_ ?_
 replace hr:=hqq2
 refine ifE hr ?_ ?_<;>intro h2 hr
 refine bdE hr fun y3 hy3 hr=>J g<|J (CB' [] [] (j8Y (m:=m) hy3))<|e
 exact e
 exact e
theorem j4X {m:Md}{m2:Md}{a1:Gm_}{a2:Rule}{a3:Bool}{o0:l1Cur}{r:(Rule×l1Cur)}(hr:z3h a1 a2 a3 o0=some r):Ok Tryz.prog 77 [.pb 0 0,Gm_.y m a1,.ag [dS a2.Name,dS a2.Left,.ref 1 none,dB a2.Literal,.ref 2 none,.ref 3 none],dB a3] [.box [.d .fz (.sl 1 (o0.b.map byD)),dI o0.i,dI o0.h],.row .fz 1 (a2.Right.map A.D.s),.row m2 9 (a2.Equations.map Eqn.D),.row m2 16 (a2.Contributions.map Cn.D)] (.ag [dS r.1.Name,dS r.1.Left,.ref 1 none,dB r.1.Literal,.ref 4 none,.ref 3 none]) [.box [.d .fz (.sl 1 (o0.b.map byD)),dI r.2.i,dI r.2.h],.row .fz 1 (r.1.Right.map A.D.s),.dead,.row m2 16 (r.1.Contributions.map Cn.D),.row m2 9 (r.1.Equations.map Eqn.D)]:=by
 refine Ok.enter rfl Tryz.func77 rfl rfl rfl fun S hS=>?_
 unfold z3h at hr
 refine sr ?_
 refine BX 4 ?_
 refine BX 5 ?_
 refine NV 6 ?_
 refine N0 ?_
 refine sr ?_
 refine W2 ?_
 refine bdE hr fun y1 hy1 hr=>?_
 refine CB [(0,7)] [1,2,3] (q7X (m:=.bo) hy1) ?_
 refine N1 ?_
 refine ssr ?_
 refine N1 ?_
 refine AW.block ?_
 refine AW.mv 2 8 rfl ?_
 refine q1D 7 rfl fun hl1=>?_
 refine bdE hr fun q1 hqq1 hr=>?_
 obtain⟨s2,s3,s1⟩:=q1
 refine q0d hqq1 hl1 9 (fun k1 (s2,s3,s1)=>[(0,.pb 0 0),(3,dB a3),(5,.pb 4 0),(6,.pb 5 0),(8,.pb 6 0),(9,.ref 7 none),(10,dI (k1:Int))]) (fun k1 (s2,s3,s1)=>[(0,.box [.d .fz (.sl 1 (o0.b.map byD)),dI s2,dI s3]),(8,.row m2 9 (s1.map Eqn.D))]) (GH.trans (q0D (q:=4) [.d m (.sl 2 (a1.Symbols.map Symbol.D)),.u] (.cons .rfl (.cons .u .nil)) rfl) (q0g hS 9)) (fun k1 xk1 sk1 ok1 hxk1 hr hltk1=>?_) fun k1 hltk1=>?_
 obtain⟨s2,s3,s1⟩:=sk1
 refine ssr ?_
 refine W2 ?_
 refine LE ?_
 refine N1 ?_
 refine q0x rfl (dT hltk1) ?_
 refine q0m ?_
 refine bdE hr fun q2 hqq2 hr=>?_
 obtain⟨s5,s6,s4⟩:=q2
 refine q0o (q0e 10 [(0,.pb 0 0),(3,dB a3),(5,.pb 4 0),(6,.pb 5 0),(8,.pb 6 0),(9,.ref 7 none),(10,dI (k1:Int))] [(0,.box [.d .fz (.sl 1 (o0.b.map byD)),dI s5,dI s6]),(5,.box [dS a2.Name,dS a2.Left,.ref 1 none,dB a2.Literal,.ref 9 none,.ref 3 none]),(8,.none),(9,.row m2 9 (s4.map Eqn.D))] ?_ ?_)
 replace hr:=hqq2
 refine AW.block (q0o (q0q (h:=?_)))
 refine W4 ?_
 refine IE hxk1 (Int.natCast_nonneg _) ?_
 refine W1 ?_
 refine LP hxk1 ?_
 refine bdE hr fun y2 hy2 hr=>?_
 refine CB [] [1,8,3] (q7O (m:=.bo) hy2) ?_
 refine bdE hr fun q3 hq3 hr=>?_
 obtain⟨y3,y4⟩:=q3
 refine CB [(0,9)] [] (q6P (m:=m) hq3) ?_
 refine W3 ?_
 refine NV 10 ?_
 refine SB ?_
 refine N1 ?_
 refine q0o (q0q (h:=?_))
 refine W3 ?_
 refine IE hxk1 (Int.natCast_nonneg _) ?_
 refine W1 ?_
 refine LP hxk1 ?_
 refine bdE hr fun q4 hq4 hr=>?_
 obtain⟨y5,y6⟩:=q4
 refine CB [] [9] (q8M (m:=.bo) hq4) ?_
 refine W3 ?_
 refine NV 11 ?_
 refine SB ?_
 refine N1 ?_
 refine q0o (q0q (h:=?_))
 refine W5 ?_
 refine W1 ?_
 refine bdE hr fun q5 hq5 hr=>?_
 obtain⟨y7,z1⟩:=q5
 refine CB [(0,0)] [] (q3W hq5) ?_
 refine ggE hr fun g1 hr=>?_
 refine OB _ (bAdd g1) ?_
 refine W1 ?_
 refine bdE hr fun q6 hq6 hr=>?_
 obtain⟨y8,z2⟩:=q6
 refine CB [(0,0),(1,12)] [1,8,3] (j4S (m:=.bo) hq6) ?_
 refine NV 13 ?_
 refine SB ?_
 refine N0 ?_
 refine ssr ?_
 refine W1 ?_
 refine bdE hr fun y9 hy9 hr=>?_
 refine CB [] [12] (z2g (m:=.bo) hy9) ?_
 refine N1 ?_
 refine ifE hr (fun h1 hr=>?_) fun h1 hr=>?_
 refine q0y rfl (bnF h1) ?_
 refine q0m ?_
 refine AW.fz 12 rfl ?_
 refine q0q (h:=?_)
 refine W4 ?_
 refine IE hxk1 (Int.natCast_nonneg _) ?_
 refine LPa hxk1 ?_
 refine W2 ?_
 refine LIR 14 (m:=.fz) (f:=Eqn.D) (xs:=[(⟨xk1,y8⟩:Eqn)]) ?_
 refine ggE hr fun g2 hr=>?_
 refine AP1 15 m2 112 g2 ?_
 refine W1 ?_
 refine SB ?_
 refine N0 ?_
 cases hr
 exact GH.trans (q0D (q:=4) [.d m (.sl 2 (a1.Symbols.map Symbol.D)),.u] (.cons .rfl (.cons .u .nil)) rfl) (q0l hS [(0,0),(1,1),(2,2),(3,3),(4,4),(5,5),(6,6),(7,7),(15,9)] 10)
 refine q0x rfl (bnT h1) ?_
 refine q0h ?_
 refine W3 ?_
 refine L0 14 Oc.D ?_
 refine bdE hr fun q7 hq7 hr=>?_
 obtain⟨y10,z3⟩:=q7
 refine CB [(0,0),(1,15)] [14] (q8N (m:=.bo) hq7) ?_
 refine SB ?_
 refine N0 ?_
 refine AW.fz 15 rfl ?_
 refine q0q (h:=?_)
 refine W4 ?_
 refine IE hxk1 (Int.natCast_nonneg _) ?_
 refine LPa hxk1 ?_
 refine W2 ?_
 refine LIR 16 (m:=.fz) (f:=Eqn.D) (xs:=[(⟨xk1,y10⟩:Eqn)]) ?_
 refine ggE hr fun g3 hr=>?_
 refine AP1 17 m2 112 g3 ?_
 refine W1 ?_
 refine SB ?_
 refine N0 ?_
 cases hr
 exact GH.trans (q0D (q:=4) [.d m (.sl 2 (a1.Symbols.map Symbol.D)),.u] (.cons .rfl (.cons .u .nil)) rfl) (q0l hS [(0,0),(1,1),(2,2),(3,3),(4,4),(5,5),(6,6),(7,7),(17,9)] 10)
 refine q0h ?_
 refine W1 ?_
 refine OB _ (z5C (p:=k1) (q:=1) (q6k hltk1 hl1)) ?_
 refine N1 ?_
 cases hr
 exact GH.trans (q0D (q:=4) [.d m (.sl 2 (a1.Symbols.map Symbol.D)),.u] (.cons .rfl (.cons .u .nil)) rfl) (q0l hS [(0,0),(1,1),(2,2),(3,3),(4,4),(5,5),(6,6),(7,7),(9,8)] 9)
 refine ssr ?_
 refine W2 ?_
 refine LE ?_
 refine N1 ?_
 refine q0y rfl (dF hltk1) ?_
 refine q0Q ?_
 refine sr ?_
 refine W1 ?_
 refine SB ?_
 refine N0 ?_
 refine AW.ret ?_
 cases hr
 exact q0s [(0,0),(1,1),(2,2),(3,3),(8,4)] 5 hS
theorem j7y {m:Md}{m2:Md}{a1:Gm_}{a2:Rule}{o0:l1Cur}{r:(Rule×l1Cur)}(hr:z4C a1 a2 o0=some r):Ok Tryz.prog 78 [.pb 0 0,Gm_.y m a1,.ag [dS a2.Name,dS a2.Left,.ref 1 none,dB a2.Literal,.ref 2 none,.ref 3 none]] [.box [.d .fz (.sl 1 (o0.b.map byD)),dI o0.i,dI o0.h],.row .fz 1 (a2.Right.map A.D.s),.row m2 9 (a2.Equations.map Eqn.D),.row m2 16 (a2.Contributions.map Cn.D)] (.ag [dS r.1.Name,dS r.1.Left,.ref 1 none,dB r.1.Literal,.ref 2 none,.ref 4 none]) [.box [.d .fz (.sl 1 (o0.b.map byD)),dI r.2.i,dI r.2.h],.row .fz 1 (r.1.Right.map A.D.s),.row m2 9 (r.1.Equations.map Eqn.D),.dead,.row m2 16 (r.1.Contributions.map Cn.D)]:=by
 refine OE Tryz.func78 fun S hS=>?_
 unfold z4C at hr
 refine J g<|J (BX' 4)<|J (BX' 5)<|J (NV' 6)<|J (gn 7) ?_
 refine J (q1H 3 7 rfl)<|J (lenA 0 1)<|fun hl1=>bdT hr fun s1 s2 s3 hqq1 hr=>q0d hqq1 hl1 8 (fun k1 (s1,s2,s3)=>[(0,.pb 0 0),(4,.pb 4 0),(5,.pb 5 0),(6,.pb 6 0),(7,dI (k1:Int))]) (fun k1 (s1,s2,s3)=>[(0,.box [.d .fz (.sl 1 (o0.b.map byD)),dI s1,dI s2]),(7,.row m2 16 (s3.map Cn.D))]) I (fun k1 xk1 sk1 ok1 hxk1 hr hltk1=>?_) fun k1 hltk1=>?_
 obtain⟨s1,s2,s3⟩:=sk1
 refine J (gn 18) ?_
 refine AW.len (.el 1 (.tmp 12 rfl) hxk1 rfl) fun hl2=>?_
 refine bdT hr fun s4 s5 s6 hqq2 hr=>q0d hqq2 hl2 8 (fun k2 (s4,s5,s6)=>[(0,.pb 0 0),(4,.pb 4 0),(5,.pb 5 0),(6,.pb 6 0),(7,dI (k1:Int)),(8,dI (k2:Int))]) (fun k2 (s4,s5,s6)=>[(0,.box [.d .fz (.sl 1 (o0.b.map byD)),dI s4,dI s5]),(7,.row m2 16 (s6.map Cn.D))]) I (fun k2 xk2 sk2 ok2 hxk2 hr hltk2=>?_) fun k2 hltk2=>?_
 obtain⟨s4,s5,s6⟩:=sk2
 refine bdT hr fun s8 s9 s7 hqq3 hr=>J (gn 16)<|q0e 8 [(0,.pb 0 0),(4,.pb 4 0),(5,.pb 5 0),(6,.pb 6 0),(7,dI (k1:Int)),(8,dI (k2:Int))] [(0,.box [.d .fz (.sl 1 (o0.b.map byD)),dI s8,dI s9]),(7,.row m2 16 (s7.map Cn.D))] ?_ ?_
 replace hr:=hqq3
 refine J g<|J (NV' 8)<|bdE hr fun s10 hqq4 hr=>J (gn 7)<|q0a 6 [(0,.pb 0 0),(4,.pb 4 0),(5,.pb 5 0),(6,.pb 6 0),(7,dI (k1:Int)),(8,dI (k2:Int)),(9,.pb 8 0),(45,dB s10)] ?_ ?_
 replace hr:=hqq4
 refine ifE hr ?_ ?_<;>intro h1 hr
 exact e
 exact e
 refine bdT hr fun s14 s15 s16 hqq5 hr=>q0A 5 9 [(0,.pb 0 0),(4,.pb 4 0),(5,.pb 5 0),(6,.pb 6 0),(7,dI (k1:Int)),(8,dI (k2:Int)),(9,.pb 8 0),(50,dB s14)] [(0,.box [.d .fz (.sl 1 (o0.b.map byD)),dI s15,dI s16])] ?_ ?_
 replace hr:=hqq5
 refine ifE hr ?_ ?_<;>intro h2 hr
 refine bdP hr fun y1 z1 hq6 hr=>J g<|J (CB' [(0,0)] [] (q5r hq6))<|e
 exact e
 refine J (gn 1)<|ifE hr ?_ ?_<;>intro h3 hr
 refine bdE hr fun y2 hy2 hr=>J g<|J (CB' [(0,9)] [1,2,7] (z3x (m:=.bo) hy2))<|bdP hr fun y3 z2 hq7 hr=>J (CBz' 10 [(0,0),(1,10)] [9] (q8N (m:=.bo) hq7))<|bdE hr fun y4 hy4 hr=>J g<|J (CB' [(0,11)] [1,2,7] (z3x (m:=.bo) hy4))<|bdP hr fun y5 z3 hq8 hr=>J (CBz' 12 [(0,0),(1,12)] [11] (q8N (m:=.bo) hq8))<|J g<|J (LIR' 13 (m:=.fz) (f:=Cn.D) (xs:=[(⟨xk1.Name,xk2.Name,y3,y5⟩:Cn)]))<|ggE hr fun g1 hr=>J (AP1' 14 m2 208 g1)<|e
 exact e
 exact e
 exact e
 exact e
theorem z9w {a1:Bool}{o0:l1Cur}{r:(Gm_×l1Cur)}(hr:z1J a1 o0=some r):Ok Tryz.prog 32 [.pb 0 0,dB a1] [.box [.d .fz (.sl 1 (o0.b.map byD)),dI o0.i,dI o0.h]] (.ag [.ref 1 none,.ref 2 none]) [.box [.d .fz (.sl 1 (o0.b.map byD)),dI r.2.i,dI r.2.h],.deep .fz 2 (r.1.Symbols.map Symbol.O) [],.deep .fz 6 (r.1.Rules.map Rule.O) []]:=by
 refine OE Tryz.func32 fun S hS=>?_
 unfold z1J at hr
 refine J g<|J (NV' 1)<|J g<|J (NV' 2)<|bdP hr fun y1 z1 hq1 hr=>J g<|J (CB' [(0,0)] [] (q3W hq1))<|ggE hr fun g1 hr=>J g<|J (LIR' 3 (m:=.fz) (f:=A.D.s) (xs:=[(⟨#[115]⟩:ByteArray),(⟨#[116]⟩:ByteArray),(⟨#[117]⟩:ByteArray)]))<|ggE hr fun g2 hr=>ggE hr fun g3 hr=>J g<|J (CU' 4 g2 g3)<|J (gn 8) ?_
 refine J (q0C 2 0 5 .fz 2 rfl rfl)<|J (q2t 5 Symbol.O)<|J (rngT 6)<|fun hl1=>bdT hr fun s2 s3 s1 hqq2 hr=>q0k hqq2 6 (fun k1 (s2,s3,s1)=>[(0,.pb 0 0),(1,dB a1),(4,.pb 1 0),(5,.pb 2 0),(6,dI (1+y1)),(7,.ref 4 none),(8,dI (k1:Int))]) (fun k1 (s2,s3,s1)=>[(0,.box [.d .fz (.sl 1 (o0.b.map byD)),dI s2,dI s3]),(3,.none),(5,.deep .fz 2 (s1.map Symbol.O) [])]) I (fun k1 sk1 ok1 hr hltk1=>?_) ?_
 obtain⟨s2,s3,s1⟩:=sk1
 refine bdE hr fun x1 hx1 hr=>bdP hr fun y2 z2 hq3 hr=>J g<|J (CB' [(0,0),(1,6)] [] (j1a hq3))<|J (LID' (f:=Symbol.O) 7 y2 [6])<|ggE hr fun g4 hr=>J (k0Z 8 40 g4)<|e
 refine J (gn 15) ?_
 refine J (q0C 2 1 6 .fz 6 rfl rfl)<|J (q2t 6 Rule.O)<|J (rngT 6)<|fun hl2=>bdT hr fun s5 s6 s4 hqq4 hr=>q0k hqq4 7 (fun k2 (s5,s6,s4)=>[(0,.pb 0 0),(1,dB a1),(4,.pb 1 0),(5,.pb 2 0),(6,dI (1+y1)),(7,.ref 4 none),(9,dI (k2:Int))]) (fun k2 (s5,s6,s4)=>[(0,.box [.d .fz (.sl 1 (o0.b.map byD)),dI s5,dI s6]),(6,.deep .fz 6 (s4.map Rule.O) [])]) I (fun k2 sk2 ok2 hr hltk2=>?_) ?_
 obtain⟨s5,s6,s4⟩:=sk2
 refine bdE hr fun x2 hx2 hr=>ggE hr fun g5 hr=>J g<|J (OB' _ (j7n g5))<|bdP hr fun y3 z3 hq5 hr=>J g<|J (CB' [(0,0)] [] (q5r hq5))<|J g<|J (LID' (f:=Rule.O) 7 (⟨((⟨#[108,101,97,102]⟩:ByteArray)++x2),x2,[],!y3,[],[]⟩:Rule) [])<|ggE hr fun g6 hr=>J (k0Z 8 112 g6)<|bdP hr fun y4 z4 hq6 hr=>J g<|J (CB' [(0,0)] [] (q3W hq6))<|ggE hr fun g7 hr=>J (gn 8)<|J (rngT 10)<|fun hl3=>bdT hr fun s8 s9 s7 hqq7 hr=>q0k hqq7 9 (fun k3 (s8,s9,s7)=>[(0,.pb 0 0),(1,dB a1),(4,.pb 1 0),(5,.pb 2 0),(6,dI (1+y1)),(7,.ref 4 none),(9,dI (k2:Int)),(10,dI (1+y4)),(11,dI (k3:Int))]) (fun k3 (s8,s9,s7)=>[(0,.box [.d .fz (.sl 1 (o0.b.map byD)),dI s8,dI s9]),(6,.none),(7,.none),(8,.deep .fz 6 (s7.map Rule.O) [])]) I (fun k3 sk3 ok3 hr hltk3=>?_) ?_
 obtain⟨s8,s9,s7⟩:=sk3
 refine ggE hr fun g8 hr=>J g<|J (OB' _ (j7n g8))<|bdE hr fun y5 hy5 hr=>J g<|J (CB' [] [] (j1O hy5))<|ggE hr fun g9 hr=>J (OB' _ (j7n g9))<|bdP hr fun y6 z5 hq8 hr=>J g<|J (CB' [(0,0)] [] (q5r hq8))<|J g<|J (NV' 9)<|bdP hr fun y7 z6 hq9 hr=>J g<|J (CB' [(0,0)] [] (q3W hq9))<|ggE hr fun g10 hr=>J (gn 9) ?_
 refine J (q0C 9 2 10 .fz 1 rfl rfl)<|J (rngT 13)<|fun hl4=>bdT hr fun s11 s12 s10 hqq10 hr=>q0k hqq10 11 (fun k4 (s11,s12,s10)=>[(0,.pb 0 0),(1,dB a1),(4,.pb 1 0),(5,.pb 2 0),(6,dI (1+y1)),(7,.ref 4 none),(9,dI (k2:Int)),(10,dI (1+y4)),(11,dI (k3:Int)),(12,.pb 9 0),(13,dI (1+y7)),(14,dI (k4:Int))]) (fun k4 (s11,s12,s10)=>[(0,.box [.d .fz (.sl 1 (o0.b.map byD)),dI s11,dI s12]),(10,.row .fz 1 (s10.map A.D.s))]) I (fun k4 sk4 ok4 hr hltk4=>?_) ?_
 obtain⟨s11,s12,s10⟩:=sk4
 refine bdP hr fun y8 z7 hq11 hr=>J g<|J (CB' [(0,0)] [4] (q7J (m:=.bo) hq11))<|J (LIR' 11 (m:=.fz) (f:=A.D.s) (xs:=[y8]))<|ggE hr fun g11 hr=>J (z0u (f:=A.D.s) 12 (fun _=>rfl) 16 g11)<|e
 refine J g<|J (LID' (f:=Rule.O) 11 (⟨(((⟨#[112]⟩:ByteArray)++x2)++y5),x2,s10,y6,[],[]⟩:Rule) [10])<|ggE hr fun g12 hr=>J (k0Z 12 112 g12)<|e
 exact e
 refine J g<|J (LEd' s4.length)<|bdE hr fun s13 hqq12 hr=>J (gn 2)<|q0e 7 [(0,.pb 0 0),(1,dB a1),(4,.pb 1 0),(5,.pb 2 0)] [(6,.deep .fz 6 (s13.map Rule.O) [])] ?_ ?_
 replace hr:=hqq12
 refine ifE hr ?_ ?_<;>intro h1 hr
 refine ggE hr fun g13 hr=>J g<|J (CUd' (xs:=s4) (b:=8) 7 (by decide) g13)<|e
 exact e
 refine bdT hr fun s14 s15 s16 hqq13 hr=>J (gn 5)<|q0e 7 [(4,.pb 1 0),(5,.pb 2 0)] [(0,.box [.d .fz (.sl 1 (o0.b.map byD)),dI s14,dI s15]),(6,.deep .fz 6 (s16.map Rule.O) [])] ?_ ?_
 refine J g<|q0i hqq13 7 (fun (s17,s18,s19,s20)=>[(0,.pb 0 0),(1,dB a1),(4,.pb 1 0),(5,.pb 2 0),(15,dI s17)]) (fun (s17,s18,s19,s20)=>[(0,.box [.d .fz (.sl 1 (o0.b.map byD)),dI s18,dI s19]),(6,.deep .fz 6 (s20.map Rule.O) [])]) I fun sk5 ok5 hr hik5=>?_
 obtain⟨s17,s18,s19,s20⟩:=sk5
 have hr:=hr
 refine J g<|J (LEd' s20.length)<|J (gn 2)<|ifE hr ?_ ?_<;>intro h2 hr
 refine bdT hr fun s21 s22 s23 hqq14 hr=>J (gn 3)<|q0e 7 [(0,.pb 0 0),(1,dB a1),(4,.pb 1 0),(5,.pb 2 0),(15,dI s17)] [(0,.box [.d .fz (.sl 1 (o0.b.map byD)),dI s21,dI s22]),(6,.deep .fz 6 (s23.map Rule.O) [])] ?_ ?_
 replace hr:=hqq14
 refine ggE hr fun g14 hr=>bdE hr fun x3 hx3 hr=>J (q0v 6 s17.toNat 2 7 (q3Z hx3))<|J (q0v 6 s17.toNat 4 8 (q3X (q3Z hx3)))<|J (q0v 6 s17.toNat 5 9 (q3X (q3X (q3Z hx3))))<|J g<|J (IEd' g14 (q3X (q3X (q3X (q3Z hx3)))))<|J (k4v [(5,9),(4,8),(2,7)] (q3X (q3X (q3X (q3Z hx3)))))<|bdP hr fun y9 z8 hq15 hr=>J g<|J (CB' [(0,0),(1,7),(2,8),(3,9),(4,10)] [5] (j4X (m:=.bo) (m2:=.fz) hq15))<|J (IEd' g14 (q3X (q3X (q3X (q3Z hx3)))))<|J (SD' [.d .fz (.s y9.Name),.d .fz (.s y9.Left),.o .fz 1 (y9.Right.map A.D.s),.d .fz (.b y9.Literal),.o .fz 9 (y9.Equations.map Eqn.D),.o .fz 16 (y9.Contributions.map Cn.D)] [7,10,9] (q3X (q3X (q3X (q3Z hx3)))))<|J (gn 6)<|ifE hr ?_ ?_<;>intro h3 hr
 refine J (gn 2) ?_
 cases hr
 exact GH.trans (q0n 6 (he:=eset (f:=Rule.O) (x':=y9) (by first|rfl|(simp only[List.set_set];rfl)))) (q0l hS [(0,0),(1,1),(2,2),(4,4),(5,5),(6,6)] 7)
 refine J (gn 1)<|J (q0v 6 s17.toNat 2 11 (q3X (q3X (q3X (q3X (q3Z hx3))))))<|J (q0v 6 s17.toNat 4 12 (q3X (q3X (q3X (q3X (q3X (q3Z hx3)))))))<|J (q0v 6 s17.toNat 5 13 (q3X (q3X (q3X (q3X (q3X (q3X (q3Z hx3))))))))<|J g<|J (IEd' g14 (q3X (q3X (q3X (q3X (q3X (q3X (q3X (q3Z hx3)))))))))<|J (k4v [(5,13),(4,12),(2,11)] (q3X (q3X (q3X (q3X (q3X (q3X (q3X (q3Z hx3)))))))))<|bdP hr fun y10 z9 hq16 hr=>J (CB' [(0,0),(1,11),(2,12),(3,13),(4,14)] [5] (j7y (m:=.bo) (m2:=.fz) hq16))<|J (IEd' g14 (q3X (q3X (q3X (q3X (q3X (q3X (q3X (q3Z hx3)))))))))<|J (SD' [.d .fz (.s y10.Name),.d .fz (.s y10.Left),.o .fz 1 (y10.Right.map A.D.s),.d .fz (.b y10.Literal),.o .fz 9 (y10.Equations.map Eqn.D),.o .fz 16 (y10.Contributions.map Cn.D)] [11,12,14] (q3X (q3X (q3X (q3X (q3X (q3X (q3X (q3Z hx3)))))))))<|J (gn 1) ?_
 cases hr
 exact GH.trans (q0n 6 (he:=eset (f:=Rule.O) (x':=y10) (by first|rfl|(simp only[List.set_set];rfl)))) (q0l hS [(0,0),(1,1),(2,2),(4,4),(5,5),(6,6)] 7)
 refine ggE hr fun g15 hr=>e
 refine J (gn 2) ?_
 cases hr
 cases hik5 _ rfl
 exact q0l hS [(0,0),(1,1),(2,2),(4,4),(5,5),(6,6)] 7
 exact e
theorem z5z {o0:l1Cur}{r:(ByteArray×l1Cur)}(hr:q9N o0=some r):Ok Tryz.prog 177 [.pb 0 0] [.box [.d .fz (.sl 1 (o0.b.map byD)),dI o0.i,dI o0.h]] (dS r.1) [.box [.d .fz (.sl 1 (o0.b.map byD)),dI r.2.i,dI r.2.h]]:=by
 refine OE Tryz.func177 fun S hS=>?_
 unfold q9N at hr
 refine J g<|J (LIR' 1 (m:=.fz) (f:=A.D.s) (xs:=[(⟨#[97]⟩:ByteArray),(⟨#[98]⟩:ByteArray),(⟨#[99]⟩:ByteArray),(⟨#[100]⟩:ByteArray),(⟨#[120]⟩:ByteArray),(⟨#[121]⟩:ByteArray),(⟨#[116]⟩:ByteArray),(⟨#[117]⟩:ByteArray)]))<|bdP hr fun y1 z1 hq1 hr=>J (CB' [(0,0)] [1] (q7J (m:=.bo) hq1))<|e
theorem j4Y {Rc4:Int→l1Cur→Option (Expr×l1Cur)}(Ic4:∀ {a1:Int} {o0:l1Cur} {r:(Expr×l1Cur)},Rc4 a1 o0=some r→Ok Tryz.prog 131 [.pb 0 0,dI a1] [.box [.d .fz (.sl 1 (o0.b.map byD)),dI o0.i,dI o0.h]] (.ag [dI r.1.Kind,dI r.1.N,dI r.1.Pos,dI r.1.Type_,dS r.1.Symbol,dS r.1.Name,.ref 1 none]) [.box [.d .fz (.sl 1 (o0.b.map byD)),dI r.2.i,dI r.2.h],.row .fz 7 (r.1.Args.map Expr.D)]){a1:Int}{o0:l1Cur}{r:(Expr×l1Cur)}(hr:q7C Rc4 a1 o0=some r):Ok Tryz.prog 131 [.pb 0 0,dI a1] [.box [.d .fz (.sl 1 (o0.b.map byD)),dI o0.i,dI o0.h]] (.ag [dI r.1.Kind,dI r.1.N,dI r.1.Pos,dI r.1.Type_,dS r.1.Symbol,dS r.1.Name,.ref 1 none]) [.box [.d .fz (.sl 1 (o0.b.map byD)),dI r.2.i,dI r.2.h],.row .fz 7 (r.1.Args.map Expr.D)]:=by
 refine OE Tryz.func131 fun S hS=>?_
 unfold q7C at hr
 refine J g<|J (NV' 1)<|J (gn 6)<|ifE hr ?_ ?_<;>intro h1 hr
 refine bdP hr fun y1 z1 hq1 hr=>J g<|J (CB' [(0,0)] [] (q5r hq1))<|J (gn 1)<|ifE hr ?_ ?_<;>intro h2 hr
 refine J (gn 7) ?_
 refine J (q0c (q0j (q:=1) (c:=6) (r:=2) .fz 7 rfl rfl rfl))<|J g<|E
 refine bdP hr fun y2 z2 hq2 hr=>J g<|J (CB' [(0,0)] [] (q5r hq2))<|J (gn 1)<|ifE hr ?_ ?_<;>intro h3 hr
 refine bdP hr fun y3 z3 hq3 hr=>J g<|J (CB' [(0,0)] [] (q3W hq3))<|J (gn 4) ?_
 refine J (q0c (q0j (q:=1) (c:=6) (r:=2) .fz 7 rfl rfl rfl))<|J g<|E
 refine bdP hr fun y4 z4 hq4 hr=>J g<|J (CB' [(0,0)] [] (q3W hq4))<|ggE hr fun g1 hr=>bdP hr fun y5 z5 hq5 hr=>J g<|J (CB' [(0,0)] [] (q3W hq5))<|bdP hr fun y6 z6 hq6 hr=>J g<|J (CB' [(0,0)] [] (z5z hq6))<|J g<|J (LIR' 2 (m:=.fz) (f:=Oc.D) (xs:=[(⟨y5,y6⟩:Oc)]))<|bdP hr fun y7 z7 hq7 hr=>J (CB' [(0,0),(1,3)] [2] (q8N (m:=.bo) hq7))<|e
 refine bdP hr fun y8 z8 hq8 hr=>J g<|J (CB' [(0,0)] [] (q5r hq8))<|J (gn 2)<|ifE hr ?_ ?_<;>intro h4 hr
 refine bdP hr fun y9 z9 hq9 hr=>J g<|J (CB' [(0,0)] [] (q5r hq9))<|J (gn 1)<|ifE hr ?_ ?_<;>intro h5 hr
 refine J (gn 7) ?_
 refine J (q0c (q0j (q:=1) (c:=6) (r:=2) .fz 7 rfl rfl rfl))<|J g<|E
 refine bdP hr fun y10 z10 hq10 hr=>J g<|J (CB' [(0,0)] [] (q5r hq10))<|J (gn 1)<|ifE hr ?_ ?_<;>intro h6 hr
 refine bdP hr fun y11 z11 hq11 hr=>J g<|J (CB' [(0,0)] [] (q3W hq11))<|J (gn 4) ?_
 refine J (q0c (q0j (q:=1) (c:=6) (r:=2) .fz 7 rfl rfl rfl))<|J g<|E
 refine bdP hr fun y12 z12 hq12 hr=>J g<|J (CB' [(0,0)] [] (q3W hq12))<|ggE hr fun g2 hr=>bdP hr fun y13 z13 hq13 hr=>J g<|J (CB' [(0,0)] [] (q3W hq13))<|bdP hr fun y14 z14 hq14 hr=>J g<|J (CB' [(0,0)] [] (z5z hq14))<|J g<|J (LIR' 2 (m:=.fz) (f:=Oc.D) (xs:=[(⟨y13,y14⟩:Oc)]))<|bdP hr fun y15 z15 hq15 hr=>J (CB' [(0,0),(1,3)] [2] (q8N (m:=.bo) hq15))<|e
 refine bdP hr fun y16 z16 hq16 hr=>J g<|J (CB' [(0,0)] [] (q3W hq16))<|J (gn 7)<|ifE hr ?_ ?_<;>intro h7 hr
 refine ggE hr fun g3 hr=>bdP hr fun y17 z17 hq17 hr=>J g<|J (CB' [(0,0),(1,2)] [] (Ic4 hq17))<|ggE hr fun g4 hr=>bdP hr fun y18 z18 hq18 hr=>J g<|J (CB' [(0,0),(1,3)] [] (Ic4 hq18))<|ggE hr fun g5 hr=>bdP hr fun y19 z19 hq19 hr=>J g<|J (CB' [(0,0),(1,4)] [] (Ic4 hq19)) ?_
 refine J (q0p 2 rfl) ?_
 refine J (q0p 3 rfl) ?_
 refine J (q0p 4 rfl) ?_
 refine J (j3r 5 (m:=.fz) (f:=Expr.D) [y17,y18,y19] (by simp only[List.map_cons,List.map_nil,Expr.D_eq];rfl))<|J g<|E
 refine J (gn 6)<|ifE hr ?_ ?_<;>intro h8 hr
 refine J g<|J (LIR' 2 (m:=.fz) (f:=A.D.s) (xs:=[(⟨#[115]⟩:ByteArray),(⟨#[116]⟩:ByteArray)]))<|bdP hr fun y20 z20 hq20 hr=>J (CB' [(0,0)] [2] (q7J (m:=.bo) hq20))<|bdP hr fun y21 z21 hq21 hr=>J g<|J (CB' [(0,0)] [] (z5z hq21))<|ggE hr fun g6 hr=>bdP hr fun y22 z22 hq22 hr=>J g<|J (CB' [(0,0),(1,3)] [] (Ic4 hq22)) ?_
 refine J (q0p 3 rfl) ?_
 refine J (j3r 4 (m:=.fz) (f:=Expr.D) [y22] (by simp only[List.map_cons,List.map_nil,Expr.D_eq];rfl))<|J g<|E
 refine bdP hr fun y23 z23 hq23 hr=>J g<|J (CB' [(0,0)] [] (q3W hq23))<|ggE hr fun g7 hr=>ggE hr fun g8 hr=>bdP hr fun y24 z24 hq24 hr=>J g<|J (CB' [(0,0),(1,2)] [] (Ic4 hq24))<|ggE hr fun g9 hr=>bdP hr fun y25 z25 hq25 hr=>J g<|J (CB' [(0,0),(1,3)] [] (Ic4 hq25)) ?_
 refine J (q0p 2 rfl) ?_
 refine J (q0p 3 rfl)<|bdE hr fun y26 hy26 hr=>J (CB' [(0,4)] [] (z2F (m:=.fz) hy26))<|J g<|E
theorem j4Z (n:Nat):∀ {a1:Int} {o0:l1Cur} {r:(Expr×l1Cur)},q6E n a1 o0=some r→Ok Tryz.prog 131 [.pb 0 0,dI a1] [.box [.d .fz (.sl 1 (o0.b.map byD)),dI o0.i,dI o0.h]] (.ag [dI r.1.Kind,dI r.1.N,dI r.1.Pos,dI r.1.Type_,dS r.1.Symbol,dS r.1.Name,.ref 1 none]) [.box [.d .fz (.sl 1 (o0.b.map byD)),dI r.2.i,dI r.2.h],.row .fz 7 (r.1.Args.map Expr.D)]:=by
  induction n with
  | zero=>intro _ _ r hr;exact nomatch (show (none:Option (Expr×l1Cur))=some r from hr)
  | succ n ih=>intro _ _ r hr;exact j4Y ih hr
theorem j1b {a1:Int}{o0:l1Cur}{r:(Expr×l1Cur)}(hr:z6A a1 o0=some r):Ok Tryz.prog 131 [.pb 0 0,dI a1] [.box [.d .fz (.sl 1 (o0.b.map byD)),dI o0.i,dI o0.h]] (.ag [dI r.1.Kind,dI r.1.N,dI r.1.Pos,dI r.1.Type_,dS r.1.Symbol,dS r.1.Name,.ref 1 none]) [.box [.d .fz (.sl 1 (o0.b.map byD)),dI r.2.i,dI r.2.h],.row .fz 7 (r.1.Args.map Expr.D)]:=by
 obtain⟨n,hn⟩:=q6D hr
 exact j4Z n hn
theorem j1Q {Rc5:Expr→Int→Option Bool}(Ic5:∀ {m:Md} {a0:Expr} {a1:Int} {r:Bool},Rc5 a0 a1=some r→Ok Tryz.prog 222 [Expr.x m a0,dI a1] [] (dB r) []){m:Md}{a0:Expr}{a1:Int}{r:Bool}(hr:q8B Rc5 a0 a1=some r):Ok Tryz.prog 222 [Expr.x m a0,dI a1] [] (dB r) []:=by
 refine OE Tryz.func222 fun S hS=>?_
 unfold q8B at hr
 refine J g<|J (BX' 0)<|J (gn 8)<|J (lenA 6 0)<|fun hl1=>bdE hr fun q1 hqq1 hr=>q0b hqq1 hl1 1 (fun k1 _=>[(1,dI a1),(2,.pb 0 0),(5,dI (k1:Int))]) (fun k1 _=>[]) I (fun k1 xk1 sk1 ok1 hxk1 hr hltk1 hik1=>?_) fun k1 sk1 ek1 hltk1=>?_
 refine bdE hr fun y1 hy1 hr=>J g<|J (CB' [] [] (Ic5 (m:=m) hy1))<|J (gn 2)<|ifE hr ?_ ?_<;>intro h1 hr
 exact e
 exact e
 subst ek1
 exact e
theorem j1R (n:Nat):∀ {m:Md} {a0:Expr} {a1:Int} {r:Bool},q6W n a0 a1=some r→Ok Tryz.prog 222 [Expr.x m a0,dI a1] [] (dB r) []:=by
  induction n with
  | zero=>intro _ _ _ r hr;exact nomatch (show (none:Option Bool)=some r from hr)
  | succ n ih=>intro _ _ _ r hr;exact j1Q ih hr
theorem j3E {m:Md}{a0:Expr}{a1:Int}{r:Bool}(hr:z3P a0 a1=some r):Ok Tryz.prog 222 [Expr.x m a0,dI a1] [] (dB r) []:=by
 obtain⟨n,hn⟩:=q6D hr
 exact j1R n hn
theorem z5A {m:Md}{a0:Expr}{a1:Int}{r:Bool}(hr:q8Z a0 a1=some r):Ok Tryz.prog 176 [Expr.x m a0,dI a1] [] (dB r) []:=by
 refine OE Tryz.func176 fun S hS=>?_
 unfold q8Z at hr
 refine J g<|J (BX' 0)<|bdE hr fun y1 hy1 hr=>J g<|J (CB' [] [] (z2g (m:=m) hy1))<|ifE hr ?_ ?_<;>intro h1 hr
 refine bdE hr fun y2 hy2 hr=>J g<|J (CB' [] [] (j3E (m:=m) hy2))<|e
 exact e
theorem j7z {o0:l1Cur}{r:(Rule×l1Cur)}(hr:z4D o0=some r):Ok Tryz.prog 129 [.pb 0 0] [.box [.d .fz (.sl 1 (o0.b.map byD)),dI o0.i,dI o0.h]] (.ag [dS r.1.Name,dS r.1.Left,.ref 1 none,dB r.1.Literal,.ref 2 none,.ref 3 none]) [.box [.d .fz (.sl 1 (o0.b.map byD)),dI r.2.i,dI r.2.h],.row .fz 1 (r.1.Right.map A.D.s),.row .fz 9 (r.1.Equations.map Eqn.D),.row .fz 16 (r.1.Contributions.map Cn.D)]:=by
 refine OE Tryz.func129 fun S hS=>?_
 unfold z4D at hr
 refine J g<|J (NV' 1)<|J g<|J (LIR' 2 (m:=.fz) (f:=A.D.s) (xs:=[(⟨#[112]⟩:ByteArray),(⟨#[113]⟩:ByteArray),(⟨#[108,101,97,102]⟩:ByteArray)]))<|bdP hr fun y1 z1 hq1 hr=>J (CB' [(0,0)] [2] (q7J (m:=.bo) hq1))<|J g<|J (LIR' 3 (m:=.fz) (f:=A.D.s) (xs:=[(⟨#[115]⟩:ByteArray),(⟨#[116]⟩:ByteArray)]))<|bdP hr fun y2 z2 hq2 hr=>J (CB' [(0,0)] [3] (q7J (m:=.bo) hq2))<|bdP hr fun y3 z3 hq3 hr=>J g<|J (CB' [(0,0)] [] (q5r hq3))<|J g<|J (NV' 4)<|bdP hr fun y4 z4 hq4 hr=>J g<|J (CB' [(0,0)] [] (q3W hq4))<|J (gn 8) ?_
 refine J (q0C 4 2 5 .fz 1 rfl rfl)<|J (rngT 4)<|fun hl1=>bdT hr fun s2 s3 s1 hqq5 hr=>q0k hqq5 6 (fun k1 (s2,s3,s1)=>[(0,.pb 0 0),(2,.pb 1 0),(3,.pb 4 0),(4,dI y4),(5,dI (k1:Int))]) (fun k1 (s2,s3,s1)=>[(0,.box [.d .fz (.sl 1 (o0.b.map byD)),dI s2,dI s3]),(5,.row .fz 1 (s1.map A.D.s))]) I (fun k1 sk1 ok1 hr hltk1=>?_) ?_
 obtain⟨s2,s3,s1⟩:=sk1
 refine J g<|J (LIR' 6 (m:=.fz) (f:=A.D.s) (xs:=[(⟨#[115]⟩:ByteArray),(⟨#[116]⟩:ByteArray),(⟨#[117]⟩:ByteArray)]))<|bdP hr fun y5 z5 hq6 hr=>J (CB' [(0,0)] [6] (q7J (m:=.bo) hq6))<|J (LIR' 7 (m:=.fz) (f:=A.D.s) (xs:=[y5]))<|ggE hr fun g1 hr=>J (z0u (f:=A.D.s) 8 (fun _=>rfl) 16 g1)<|e
 refine bdP hr fun y6 z6 hq7 hr=>J g<|J (CB' [(0,0)] [] (q3W hq7))<|J (gn 8) ?_
 refine J (q0C 4 4 6 .fz 9 rfl rfl)<|J (rngT 6)<|fun hl2=>bdT hr fun s4 s5 s6 hqq8 hr=>q0k hqq8 7 (fun k2 (s4,s5,s6)=>[(0,.pb 0 0),(2,.pb 1 0),(3,.pb 4 0),(4,dI y4),(6,dI y6),(7,dI (k2:Int))]) (fun k2 (s4,s5,s6)=>[(0,.box [.d .fz (.sl 1 (o0.b.map byD)),dI s4,dI s5]),(6,.row .fz 9 (s6.map Eqn.D))]) I (fun k2 sk2 ok2 hr hltk2=>?_) ?_
 obtain⟨s4,s5,s6⟩:=sk2
 refine bdT hr fun s8 s9 s7 hqq9 hr=>J (gn 10)<|q0e 7 [(0,.pb 0 0),(2,.pb 1 0),(3,.pb 4 0),(4,dI y4),(6,dI y6),(7,dI (k2:Int))] [(0,.box [.d .fz (.sl 1 (o0.b.map byD)),dI s8,dI s9]),(6,.row .fz 9 (s7.map Eqn.D))] ?_ ?_
 replace hr:=hqq9
 refine bdP hr fun y7 z7 hq10 hr=>J g<|J (CB' [(0,0)] [] (q3W hq10))<|ggE hr fun g2 hr=>bdP hr fun y8 z8 hq11 hr=>J g<|J (CB' [(0,0),(1,7)] [] (j1b hq11))<|J (NV' 8)<|bdE hr fun y9 hy9 hr=>J g<|J (CB' [] [7] (z5A (m:=.bo) hy9))<|J (gn 1)<|ifE hr ?_ ?_<;>intro h1 hr
 refine J (gn 1) ?_
 refine J (q2s 7 rfl)<|ggE hr fun g3 hr=>bdP hr fun y10 z9 hq12 hr=>J g<|J (CB' [(0,0)] [] (q3W hq12))<|bdP hr fun y11 z10 hq13 hr=>J g<|J (CB' [(0,0)] [] (z5z hq13))<|J g<|J (LIR' 9 (m:=.fz) (f:=Eqn.D) (xs:=[(⟨(⟨y10,y11⟩:Oc),y8⟩:Eqn)]))<|ggE hr fun g4 hr=>J (AP1' 10 .fz 112 g4)<|J g<|E
 exact e
 exact e
 refine bdP hr fun y12 z11 hq14 hr=>J g<|J (CB' [(0,0)] [] (q5r hq14))<|J (gn 1)<|ifE hr ?_ ?_<;>intro h2 hr
 refine bdP hr fun y13 z12 hq15 hr=>J g<|J (CB' [(0,0)] [] (q3W hq15))<|bdE hr fun y14 hy14 hr=>J (CBz' 7 [(0,7)] [] (q9t hy14))<|J g<|J (LIR' 8 (m:=.fz) (f:=Cn.D) (xs:=[(⟨(⟨#[115]⟩:ByteArray),(⟨#[99]⟩:ByteArray),(⟨6,0,0,0,(⟨#[]⟩:ByteArray),(⟨#[]⟩:ByteArray),[]⟩:Expr),y14⟩:Cn)])) ?_
 refine J (q3l 65 9 .fz 16 rfl)<|ggE hr fun g5 hr=>J (AP1' 10 .fz 208 g5)<|J g<|E
 refine J (gn 8) ?_
 refine J (q0c (q0j (q:=1) (c:=5) (r:=7) .fz 16 rfl rfl rfl))<|J g<|E
theorem j1c {o0:l1Cur}{r:(Expr×l1Cur)}(hr:z3i o0=some r):Ok Tryz.prog 74 [.pb 0 0] [.box [.d .fz (.sl 1 (o0.b.map byD)),dI o0.i,dI o0.h]] (.ag [dI r.1.Kind,dI r.1.N,dI r.1.Pos,dI r.1.Type_,dS r.1.Symbol,dS r.1.Name,.ref 1 none]) [.box [.d .fz (.sl 1 (o0.b.map byD)),dI r.2.i,dI r.2.h],.row .fz 7 (r.1.Args.map Expr.D)]:=by
 refine OE Tryz.func74 fun S hS=>?_
 unfold z3i at hr
 refine J g<|J (NV' 1)<|bdP hr fun y1 z1 hq1 hr=>J g<|J (CB' [(0,0)] [] (q3W hq1))<|ggE hr fun g1 hr=>bdP hr fun y2 z2 hq2 hr=>J g<|J (CB' [(0,0),(1,2)] [] (j1b hq2))<|J (NV' 3)<|bdE hr fun y3 hy3 hr=>J g<|J (CB' [] [2] (z2g (m:=.bo) hy3))<|J (gn 2)<|ifE hr ?_ ?_<;>intro h1 hr
 exact e
 refine J (gn 7) ?_
 refine J (q0c (q0j (q:=1) (c:=6) (r:=4) .fz 7 rfl rfl rfl))<|J g<|E
theorem j7A {o0:l1Cur}{r:(Expr×l1Cur)}(hr:z4E o0=some r):Ok Tryz.prog 130 [.pb 0 0] [.box [.d .fz (.sl 1 (o0.b.map byD)),dI o0.i,dI o0.h]] (.ag [dI r.1.Kind,dI r.1.N,dI r.1.Pos,dI r.1.Type_,dS r.1.Symbol,dS r.1.Name,.ref 1 none]) [.box [.d .fz (.sl 1 (o0.b.map byD)),dI r.2.i,dI r.2.h],.row .fz 7 (r.1.Args.map Expr.D)]:=by
 refine OE Tryz.func130 fun S hS=>?_
 unfold z4E at hr
 refine J g<|J (NV' 1)<|bdP hr fun y1 z1 hq1 hr=>J g<|J (CB' [(0,0),(1,2)] [] (j1c hq1))<|J (NV' 3)<|bdP hr fun y2 z2 hq2 hr=>J g<|J (CB' [(0,0)] [] (q3W hq2))<|J (gn 7)<|ifE hr ?_ ?_<;>intro h1 hr
 refine bdP hr fun y3 z3 hq3 hr=>J g<|J (CB' [(0,0)] [] (q3W hq3))<|e
 refine J (gn 6)<|ifE hr ?_ ?_<;>intro h2 hr
 refine J g ?_
 refine J (j3r 4 (m:=.fz) (f:=Expr.D) [(⟨7,0,0,0,(⟨#[]⟩:ByteArray),(⟨#[]⟩:ByteArray),[]⟩:Expr)] (by simp only[List.map_cons,List.map_nil,Expr.D_eq];rfl))<|ggE hr fun g1 hr=>J (AP1' 5 .fz 88 g1)<|J g<|E
 refine J (gn 6)<|ifE hr ?_ ?_<;>intro h3 hr
 refine J g<|J (LIR' 4 (m:=.fz) (f:=(A.D.i .i64)) (xs:=([(-1),13,4096,1000001]:List Int)))<|bdP hr fun y4 z4 hq4 hr=>J (CB' [(0,0)] [4] (q6d (m:=.bo) hq4))<|e
 refine J (gn 6)<|ifE hr ?_ ?_<;>intro h4 hr
 refine J g<|J (LIR' 4 (m:=.fz) (f:=(A.D.i .i64)) (xs:=([(-1),4,1]:List Int)))<|bdP hr fun y5 z5 hq5 hr=>J (CB' [(0,0)] [4] (q6d (m:=.bo) hq5))<|e
 refine J (gn 6)<|ifE hr ?_ ?_<;>intro h5 hr
 refine J g<|J (LIR' 4 (m:=.fz) (f:=A.D.s) (xs:=[(⟨#[105,102]⟩:ByteArray),(⟨#[]⟩:ByteArray),(⟨#[120]⟩:ByteArray)]))<|bdP hr fun y6 z6 hq6 hr=>J (CB' [(0,0)] [4] (q7J (m:=.bo) hq6))<|e
 refine J (gn 6)<|ifE hr ?_ ?_<;>intro h6 hr
 refine J g ?_
 have hl1:rngI .i64 5:=⟨by decide,by decide⟩
 refine bdE hr fun q7 hqq7 hr=>?_
 obtain⟨s1,s2,s3,s4,s5,s6,s7⟩:=q7
 refine q0k hqq7 4 (fun k1 (s1,s2,s3,s4,s5,s6,s7)=>[(2,.pb 1 0),(3,.pb 3 0),(4,dI (k1:Int))]) (fun k1 (s1,s2,s3,s4,s5,s6,s7)=>[(2,.row .fz 7 (s1.map Expr.D)),(3,.box [dI s2,dI s3,dI s4,dI s5,dS s6,dS s7,.ref 2 none])]) I (fun k1 sk1 ok1 hr hltk1=>?_) ?_
 obtain⟨s1,s2,s3,s4,s5,s6,s7⟩:=sk1
 unfold z7s at hr
 dsimp only at hr
 refine J (gn 13) ?_
 refine J (q0p 2 rfl)<|bdE hr fun y7 hy7 hr=>J (CB' [(0,4)] [] (z2F (m:=.fz) hy7))<|J g<|E
 exact e
 exact e
theorem j7B {o0:l1Cur}{r:(Rule×l1Cur)}(hr:z4F o0=some r):Ok Tryz.prog 71 [.pb 0 0] [.box [.d .fz (.sl 1 (o0.b.map byD)),dI o0.i,dI o0.h]] (.ag [dS r.1.Name,dS r.1.Left,.ref 1 none,dB r.1.Literal,.ref 2 none,.ref 3 none]) [.box [.d .fz (.sl 1 (o0.b.map byD)),dI r.2.i,dI r.2.h],.row .fz 1 (r.1.Right.map A.D.s),.row .fz 9 (r.1.Equations.map Eqn.D),.row .fz 16 (r.1.Contributions.map Cn.D)]:=by
 refine OE Tryz.func71 fun S hS=>?_
 unfold z4F at hr
 refine J g<|J (NV' 1)<|bdP hr fun y1 z1 hq1 hr=>J g<|J (CB' [(0,0),(1,2),(2,3),(3,4)] [] (j7z hq1))<|J (NV' 5)<|bdP hr fun y2 z2 hq2 hr=>J g<|J (CB' [(0,0)] [] (q3W hq2))<|J (gn 7)<|ifE hr ?_ ?_<;>intro h1 hr
 refine J g<|J (LIR' 6 (m:=.fz) (f:=A.D.s) (xs:=[(⟨#[105,102]⟩:ByteArray),(⟨#[]⟩:ByteArray),(⟨#[111,102]⟩:ByteArray)]))<|bdP hr fun y3 z3 hq3 hr=>J (CB' [(0,0)] [6] (q7J (m:=.bo) hq3))<|e
 refine J (gn 6)<|ifE hr ?_ ?_<;>intro h2 hr
 refine J g<|J (LIR' 6 (m:=.fz) (f:=A.D.s) (xs:=[(⟨#[115]⟩:ByteArray),(⟨#[115]⟩:ByteArray)]))<|ggE hr fun g1 hr=>J (j1K (f:=A.D.s) 7 16 (fun _=>rfl) g1)<|e
 refine J (gn 6)<|ifE hr ?_ ?_<;>intro h3 hr
 refine bdP hr fun y4 z4 hq4 hr=>J g<|J (CB' [(0,0)] [] (q3W hq4))<|ggE hr fun g2 hr=>bdP hr fun y5 z5 hq5 hr=>J g<|J (CBz' 6 [(0,0),(1,6)] [] (j7A hq5))<|J g<|J (LIR' 7 (m:=.fz) (f:=Eqn.D) (xs:=[(⟨(⟨(y4-1),(⟨#[97]⟩:ByteArray)⟩:Oc),y5⟩:Eqn)]))<|ggE hr fun g3 hr=>J (AP1' 8 .fz 112 g3)<|e
 refine J (gn 6)<|ifE hr ?_ ?_<;>intro h4 hr
 exact e
 refine J (gn 6)<|ifE hr ?_ ?_<;>intro h5 hr
 refine ggE hr fun g4 hr=>bdP hr fun y6 z6 hq6 hr=>J g<|J (CB' [(0,0)] [] (q3W hq6))<|ggE hr fun g5 hr=>ggE hr fun g6 hr=>J (CU' 6 g5 g6)<|e
 exact e
theorem j7C {o0:l1Cur}{r:(Symbol×l1Cur)}(hr:z4G o0=some r):Ok Tryz.prog 72 [.pb 0 0] [.box [.d .fz (.sl 1 (o0.b.map byD)),dI o0.i,dI o0.h]] (.ag [dS r.1.Name,.ref 1 none]) [.box [.d .fz (.sl 1 (o0.b.map byD)),dI r.2.i,dI r.2.h],.row .fz 4 (r.1.Attributes.map At_.D)]:=by
 refine OE Tryz.func72 fun S hS=>?_
 unfold z4G at hr
 refine J g<|J (NV' 1)<|J g<|J (LIR' 2 (m:=.fz) (f:=A.D.s) (xs:=[(⟨#[115]⟩:ByteArray),(⟨#[116]⟩:ByteArray),(⟨#[105,102]⟩:ByteArray),(⟨#[108,105,115,116,49]⟩:ByteArray)]))<|bdP hr fun y1 z1 hq1 hr=>J (CB' [(0,0)] [2] (q7J (m:=.bo) hq1))<|bdP hr fun y2 z2 hq2 hr=>J (CB' [(0,0),(1,3)] [] (j1a hq2))<|J (NV' 4)<|bdP hr fun y3 z3 hq3 hr=>J g<|J (CB' [(0,0)] [] (q3W hq3))<|J (gn 7)<|ifE hr ?_ ?_<;>intro h1 hr
 refine bdE hr fun x1 hx1 hr=>J g<|J (SE' (⟨x1.Name,x1.Type_,x1.Mode,true⟩:At_) hx1)<|e
 refine J (gn 6)<|ifE hr ?_ ?_<;>intro h2 hr
 refine bdP hr fun y4 z4 hq4 hr=>J g<|J (CB' [(0,0)] [] (q3W hq4))<|bdE hr fun x2 hx2 hr=>J g<|J (SE' (⟨x2.Name,x2.Type_,y4,x2.Circular⟩:At_) hx2)<|e
 refine J (gn 6)<|ifE hr ?_ ?_<;>intro h3 hr
 refine bdP hr fun y5 z5 hq5 hr=>J g<|J (CB' [(0,0)] [] (q3W hq5))<|bdE hr fun x3 hx3 hr=>J g<|J (SE' (⟨x3.Name,y5,x3.Mode,x3.Circular⟩:At_) hx3)<|e
 refine J (gn 6)<|ifE hr ?_ ?_<;>intro h4 hr
 refine J g<|J (LIR' 5 (m:=.fz) (f:=A.D.s) (xs:=[(⟨#[98]⟩:ByteArray),(⟨#[111,102]⟩:ByteArray),(⟨#[]⟩:ByteArray)]))<|bdP hr fun y6 z6 hq6 hr=>J (CB' [(0,0)] [5] (q7J (m:=.bo) hq6))<|bdE hr fun x4 hx4 hr=>J g<|J (SE' (⟨y6,x4.Type_,x4.Mode,x4.Circular⟩:At_) hx4)<|e
 refine J (gn 6)<|ifE hr ?_ ?_<;>intro h5 hr
 refine bdE hr fun s1 hqq7 hr=>J (gn 1)<|q0e 5 [(2,.pb 1 0),(3,.pb 4 0)] [(3,.row .fz 4 (s1.map At_.D))] ?_ ?_
 refine J g<|q0i hqq7 5 (fun s2=>[(2,.pb 1 0),(3,.pb 4 0)]) (fun s2=>[(3,.row .fz 4 (s2.map At_.D))]) I fun sk1 ok1 hr hik1=>?_
 obtain⟨s2,rfl⟩:∃ y,y=sk1:=⟨_,rfl⟩
 have hr:=hr
 refine J (gn 8)<|ifE hr ?_ ?_<;>intro h6 hr
 refine J g<|J (LIR' 5 (m:=.fz) (f:=A.D.s) (xs:=[(⟨#[101]⟩:ByteArray),(⟨#[102]⟩:ByteArray),(⟨#[103]⟩:ByteArray),(⟨#[104]⟩:ByteArray),(⟨#[105]⟩:ByteArray)]))<|bdE hr fun x5 hx5 hr=>J g<|J (LIR' 6 (m:=.fz) (f:=At_.D) (xs:=[(⟨x5,1,2,false⟩:At_)]))<|ggE hr fun g1 hr=>J (z0u (f:=At_.D) 7 (fun _=>rfl) 40 g1)<|e
 refine J (gn 2) ?_
 cases hr
 cases hik1 _ rfl
 exact q0g hS 5
 exact e
 exact e
theorem j5a {o0:l1Cur}{r:(Gm_×l1Cur)}(hr:z3j o0=some r):Ok Tryz.prog 31 [.pb 0 0] [.box [.d .fz (.sl 1 (o0.b.map byD)),dI o0.i,dI o0.h]] (.ag [.ref 1 none,.d .fz (.sl 6 (r.1.Rules.map Rule.D))]) [.box [.d .fz (.sl 1 (o0.b.map byD)),dI r.2.i,dI r.2.h],.deep .fz 2 (r.1.Symbols.map Symbol.O) []]:=by
 refine OE Tryz.func31 fun S hS=>?_
 unfold z3j at hr
 refine J g<|J (NV' 1)<|bdP hr fun y1 z1 hq1 hr=>J g<|J (CB' [(0,0)] [] (q5r hq1))<|bdP hr fun y2 z2 hq2 hr=>J (CB' [(0,0),(1,2),(2,3)] [] (z9w hq2))<|J (NV' 4)<|J g<|J (LEd' y2.Rules.length)<|bdP hr fun y3 z3 hq3 hr=>J (CB' [(0,0)] [] (q3W hq3))<|bdP hr fun y4 z4 hq4 hr=>J g<|J (CB' [(0,0)] [] (q3W hq4))<|J (gn 7)<|ifE hr ?_ ?_<;>intro h1 hr
 refine bdP hr fun y5 z5 hq5 hr=>J g<|J (CB' [(0,0),(1,5),(2,6),(3,7)] [] (j7B hq5))<|ggE hr fun g1 hr=>bdE hr fun x1 hx1 hr=>J (IEd' g1 (q3Z hx1))<|J (SD' [.d .fz (.s y5.Name),.d .fz (.s y5.Left),.o .fz 1 (y5.Right.map A.D.s),.d .fz (.b y5.Literal),.o .fz 9 (y5.Equations.map Eqn.D),.o .fz 16 (y5.Contributions.map Cn.D)] [5,6,7] (q3Z hx1))<|J (gn 7) ?_
 refine J (q0c (q0n 3 (he:=eset (f:=Rule.O) (x':=y5) (by first|rfl|(simp only[List.set_set];rfl))))) ?_
 refine J (q0c (q0r 3 Rule.D (by exact fun _=>rfl) rfl))<|J g<|E
 refine J (gn 6)<|ifE hr ?_ ?_<;>intro h2 hr
 refine bdP hr fun y6 z6 hq6 hr=>J g<|J (CB' [(0,0),(1,5)] [] (j7C hq6))<|bdE hr fun x2 hx2 hr=>J (IEd' (Int.natCast_nonneg _) (q3Z hx2))<|J (SD' [.d .fz (.s y6.Name),.o .fz 4 (y6.Attributes.map At_.D)] [5] (q3Z hx2))<|J (gn 7) ?_
 refine J (q0c (q0n 2 (he:=eset (f:=Symbol.O) (x':=y6) (by first|rfl|(simp only[List.set_set];rfl))))) ?_
 refine J (q0c (q0r 3 Rule.D (by exact fun _=>rfl) rfl))<|J g<|E
 refine J (gn 6)<|ifE hr ?_ ?_<;>intro h3 hr
 refine bdE hr fun x3 hx3 hr=>J g<|J (IEd' (Int.natCast_nonneg _) (q3Z hx3))<|J g<|J (LPd' [] (q3Z hx3))<|ggE hr fun g2 hr=>bdE hr fun x4 hx4 hr=>J (IEd' g2 (q3Z hx4))<|J g<|J (SD' [.d .fz (.s x3.Name)] [] (q3Z hx4))<|J (gn 7) ?_
 refine J (q0c (q0n 3 (he:=eset (f:=Rule.O) (x':=(⟨x3.Name,x4.Left,x4.Right,x4.Literal,x4.Equations,x4.Contributions⟩:Rule)) (by first|rfl|(simp only[List.set_set];rfl))))) ?_
 refine J (q0c (q0r 3 Rule.D (by exact fun _=>rfl) rfl))<|J g<|E
 refine J (gn 6)<|ifE hr ?_ ?_<;>intro h4 hr
 refine ggE hr fun g3 hr=>bdE hr fun x5 hx5 hr=>J g<|J (IEd' g3 (q3Z hx5))<|J (gn 1)<|J (q0G 3 y3.toNat 4 5 (q3Z hx5))<|J (LPd' [(4,5)] (q3X (q3Z hx5)))<|J (gn 3)<|ifE hr ?_ ?_<;>intro h5 hr
 refine J g<|J (IEd' g3 (q3X (q3Z hx5)))<|J g<|J (LPd' [(4,5)] (q3X (q3Z hx5)))<|ggE hr fun g4 hr=>J (SVL' (xs:=x5.Equations) (a:=1) (by decide) g4)<|J (IEd' g3 (q3X (q3Z hx5)))<|J (gn 1) ?_
 refine J (q0p 5 rfl)<|J (q3n 62 (.d .fz (.sl 9 ((x5.Equations.drop 1).map Eqn.D))) (congrArg (fun l=>X.d .fz (.sl 9 l)) k2X))<|J (SD' [.d .fz (.sl 9 ((x5.Equations.drop 1).map Eqn.D))] [] (q3X (q3Z hx5)))<|J (q2l (f:=Rule.O) 3 Rule.D (⟨x5.Name,x5.Left,x5.Right,x5.Literal,(x5.Equations.drop 1),x5.Contributions⟩:Rule) (by exact fun _=>rfl) hx5)<|J g<|E
 refine J (gn 8)<|J (q0c (q0u 3 y3.toNat 4 5 (q3X (q3Z hx5)))) ?_
 refine J (q0c (q0n 3 (he:=j4P (f:=Rule.O) hx5 (by first|rfl|(simp only[List.set_set];rfl))))) ?_
 refine J (q0c (q0r 3 Rule.D (by exact fun _=>rfl) rfl))<|J g<|E
 refine J (gn 6)<|ifE hr ?_ ?_<;>intro h6 hr
 refine ggE hr fun g5 hr=>bdE hr fun x6 hx6 hr=>J g<|J (IEd' g5 (q3Z hx6))<|J (gn 1)<|J (q0G 3 y3.toNat 4 5 (q3Z hx6))<|J (LPd' [(4,5)] (q3X (q3Z hx6)))<|J (gn 3)<|ifE hr ?_ ?_<;>intro h7 hr
 refine J g<|J (IEd' g5 (q3X (q3Z hx6)))<|J g<|J (LPd' [(4,5)] (q3X (q3Z hx6)))<|J g<|J (IEd' g5 (q3X (q3Z hx6)))<|J g<|J (LPd' [(4,5)] (q3X (q3Z hx6)))<|bdE hr fun x7 hx7 hr=>J g<|J (LIR' 6 (m:=.fz) (f:=Eqn.D) (xs:=[x7]))<|ggE hr fun g6 hr=>J (AP1' 7 .fz 112 g6)<|J (IEd' g5 (q3X (q3Z hx6)))<|J g<|J (SD' [.o .fz 9 ((x6.Equations++[x7]).map Eqn.D)] [7] (q3X (q3Z hx6)))<|J (gn 7) ?_
 refine J (q0c (q0n 3 (he:=eset (f:=Rule.O) (x':=(⟨x6.Name,x6.Left,x6.Right,x6.Literal,(x6.Equations++[x7]),x6.Contributions⟩:Rule)) (by first|rfl|(simp only[List.set_set];rfl))))) ?_
 refine J (q0c (q0r 3 Rule.D (by exact fun _=>rfl) rfl))<|J g<|E
 refine J (gn 8)<|J (q0c (q0u 3 y3.toNat 4 5 (q3X (q3Z hx6)))) ?_
 refine J (q0c (q0n 3 (he:=j4P (f:=Rule.O) hx6 (by first|rfl|(simp only[List.set_set];rfl))))) ?_
 refine J (q0c (q0r 3 Rule.D (by exact fun _=>rfl) rfl))<|J g<|E
 refine J (gn 6)<|ifE hr ?_ ?_<;>intro h8 hr
 refine J g<|J (LIR' 5 (m:=.fz) (f:=A.D.s) (xs:=[(⟨#[115]⟩:ByteArray),(⟨#[122]⟩:ByteArray)]))<|bdP hr fun y7 z7 hq7 hr=>J (CB' [(0,0)] [5] (q7J (m:=.bo) hq7))<|ggE hr fun g7 hr=>bdE hr fun x8 hx8 hr=>J (IEd' g7 (q3Z hx8))<|J g<|J (SD' [.d .fz (.s y7)] [] (q3Z hx8))<|J (gn 7) ?_
 refine J (q0c (q0n 3 (he:=eset (f:=Rule.O) (x':=(⟨x8.Name,y7,x8.Right,x8.Literal,x8.Equations,x8.Contributions⟩:Rule)) (by first|rfl|(simp only[List.set_set];rfl))))) ?_
 refine J (q0c (q0r 3 Rule.D (by exact fun _=>rfl) rfl))<|J g<|E
 refine J (gn 6)<|ifE hr ?_ ?_<;>intro h9 hr
 refine ggE hr fun g8 hr=>bdE hr fun x9 hx9 hr=>J g<|J (IEd' g8 (q3Z hx9))<|J (gn 1)<|J (q0G 3 y3.toNat 4 5 (q3Z hx9))<|J (LPd' [(4,5)] (q3X (q3Z hx9)))<|J (gn 3)<|ifE hr ?_ ?_<;>intro h10 hr
 refine J g<|J (IEd' g8 (q3X (q3Z hx9)))<|J g<|J (LPd' [(4,5)] (q3X (q3Z hx9)))<|bdP hr fun y8 z8 hq8 hr=>J g<|J (CBz' 6 [(0,0),(1,6)] [] (j1c hq8))<|bdE hr fun x10 hx10 hr=>J g<|J (SE' (⟨x10.At,y8⟩:Eqn) hx10)<|J (gn 7)<|J (q0c (q0u 3 y3.toNat 4 5 (q3X (q3Z hx9)))) ?_
 refine J (q0c (q0n 3 (he:=eset (f:=Rule.O) (x':=(⟨x9.Name,x9.Left,x9.Right,x9.Literal,(List.set x9.Equations 0 (⟨x10.At,y8⟩:Eqn)),x9.Contributions⟩:Rule)) (by first|rfl|(simp only[List.set_set];rfl))))) ?_
 refine J (q0c (q0r 3 Rule.D (by exact fun _=>rfl) rfl))<|J g<|E
 refine J (gn 8)<|J (q0c (q0u 3 y3.toNat 4 5 (q3X (q3Z hx9)))) ?_
 refine J (q0c (q0n 3 (he:=j4P (f:=Rule.O) hx9 (by first|rfl|(simp only[List.set_set];rfl))))) ?_
 refine J (q0c (q0r 3 Rule.D (by exact fun _=>rfl) rfl))<|J g<|E
 refine J (gn 8) ?_
 refine J (q0c (q0r 3 Rule.D (by exact fun _=>rfl) rfl))<|J g<|E
theorem z7u {a0:(List UInt8)}{r:Gm_}(hr:q8f a0=some r):Ok Tryz.prog 8 [.d .fz (.sl 1 (a0.map byD))] [] (.ag [.ref 0 none,.d .fz (.sl 6 (r.Rules.map Rule.D))]) [.deep .fz 2 (r.Symbols.map Symbol.O) []]:=by
 refine OE Tryz.func8 fun S hS=>?_
 unfold q8f at hr
 refine J g<|J (NV' 0)<|bdE hr fun y1 hy1 hr=>J g<|J (CB' [(0,1)] [] (j8W hy1))<|bdP hr fun y2 z1 hq1 hr=>J g<|J (CB' [(0,1)] [] (q5r hq1))<|J (gn 1)<|ifE hr ?_ ?_<;>intro h1 hr
 refine bdP hr fun y3 z2 hq2 hr=>J g<|J (CB' [(0,1),(1,2)] [] (j5a hq2))<|e
 refine bdP hr fun y4 z3 hq3 hr=>J g<|J (CB' [(0,1),(1,2),(2,3)] [] (z9w hq3))<|J (gn 3) ?_
 refine J (q0c (q0r 3 Rule.D (by exact fun _=>rfl) rfl))<|J g<|E
theorem z5D {a0:At_}{r:Bool}(hr:q7a a0=some r):Ok Tryz.prog 245 [At_.x .fz a0] [] (dB r) []:=by
 refine OE Tryz.func245 fun S hS=>?_
 unfold q7a at hr
 refine J g<|J (BX' 0)<|bdE hr fun y1 hy1 hr=>J g<|J (CB' [] [] (q5t hy1))<|bdE hr fun s1 hqq1 hr=>J (gn 1)<|q0a 6 [(1,.pb 0 0),(12,dB s1)] ?_ ?_
 replace hr:=hqq1
 refine ifE hr ?_ ?_<;>intro h1 hr
 refine bdE hr fun y2 hy2 hr=>J g<|J (CB' [] [] (q5K hy2))<|e
 exact e
 refine bdE hr fun s2 hqq2 hr=>q0a 6 [(1,.pb 0 0),(18,dB s2)] ?_ ?_
 replace hr:=hqq2
 refine ifE hr ?_ ?_<;>intro h2 hr
 exact e
 refine bdE hr fun y3 hy3 hr=>J g<|J (CB' [] [] (q5K hy3))<|e
 refine J (gn 1)<|ifE hr ?_ ?_<;>intro h3 hr
 exact e
 refine bdE hr fun s3 hqq3 hr=>J (gn 8)<|q0a 9 [(1,.pb 0 0),(30,dB s3)] ?_ ?_
 replace hr:=hqq3
 refine ifE hr ?_ ?_<;>intro h4 hr
 refine bdE hr fun s4 hqq4 hr=>J (gn 4)<|q0a 4 [(1,.pb 0 0),(22,dB true),(29,dB s4)] ?_ ?_
 replace hr:=hqq4
 refine ifE hr ?_ ?_<;>intro h5 hr
 exact e
 exact e
 exact e
 exact e
 refine J (gn 1)<|ifE hr ?_ ?_<;>intro h6 hr
 exact e
 refine bdE hr fun s5 hqq5 hr=>J (gn 7)<|q0a 5 [(38,dB s5)] ?_ ?_
 replace hr:=hqq5
 refine ifE hr ?_ ?_<;>intro h7 hr
 exact e
 exact e
 exact e
theorem z9x {m:Md}{a0:(List ByteArray)}{r:Bool}(hr:q9g a0=some r):Ok Tryz.prog 247 [.d m (.sl 1 (a0.map A.D.s))] [] (dB r) []:=by
 refine OE Tryz.func247 fun S hS=>?_
 unfold q9g at hr
 refine J (gn 10)<|J (lenT 0)<|fun hl1=>bdE hr fun q1 hqq1 hr=>q0b hqq1 hl1 0 (fun k1 _=>[(0,.d m (.sl 1 (a0.map A.D.s))),(3,dI (k1:Int))]) (fun k1 _=>[]) I (fun k1 xk1 sk1 ok1 hxk1 hr hltk1 hik1=>?_) fun k1 sk1 ek1 hltk1=>?_
 refine ggE hr fun g1 hr=>J g<|J (SLH' (Int.natCast_nonneg _) g1)<|bdE hr fun y1 hy1 hr=>J g<|J (CB' [] [] (z6P (m:=m) hy1))<|J (gn 1)<|ifE hr ?_ ?_<;>intro h1 hr
 exact e
 exact e
 subst ek1
 exact e
theorem z7v {m:Md}{a0:Symbol}{r:Bool}(hr:q8i a0=some r):Ok Tryz.prog 196 [Symbol.x m a0] [] (dB r) []:=by
 refine OE Tryz.func196 fun S hS=>?_
 unfold q8i at hr
 refine J g<|J (BX' 0)<|J g<|J (L0' 1 A.D.s)<|J (gn 8)<|J (lenA 1 0)<|fun hl1=>bdE hr fun q1 hqq1 hr=>q0b hqq1 hl1 2 (fun k1 s1=>[(1,.pb 0 0),(3,.ref 1 none),(4,dI (k1:Int))]) (fun k1 s1=>[(1,.row .fz 1 (s1.map A.D.s))]) I (fun k1 xk1 sk1 ok1 hxk1 hr hltk1 hik1=>?_) fun k1 sk1 ek1 hltk1=>?_
 obtain⟨s1,rfl⟩:∃ y,y=sk1:=⟨_,rfl⟩
 refine bdE hr fun y1 hy1 hr=>J g<|J (CB' [] [] (z5D hy1))<|J (gn 2)<|ifE hr ?_ ?_<;>intro h1 hr
 refine J g<|J (LIR' 2 (m:=.fz) (f:=A.D.s) (xs:=[xk1.Name]))<|ggE hr fun g1 hr=>J (z0u (f:=A.D.s) 3 (fun _=>rfl) 16 g1)<|e
 exact e
 subst ek1
 obtain⟨s1,rfl⟩:∃ y,y=sk1:=⟨_,rfl⟩
 refine bdE hr fun y2 hy2 hr=>J g<|J (CB' [] [] (q5t hy2))<|bdE hr fun s2 hqq2 hr=>q0a 5 [(3,.ref 1 none),(36,dB s2)] ?_ ?_
 replace hr:=hqq2
 refine ifE hr ?_ ?_<;>intro h2 hr
 exact e
 exact e
 refine bdE hr fun s3 hqq3 hr=>q0a 4 [(40,dB s3)] ?_ ?_
 replace hr:=hqq3
 refine ifE hr ?_ ?_<;>intro h3 hr
 refine bdE hr fun y3 hy3 hr=>J g<|J (CB' [] [1] (z9x (m:=.bo) hy3))<|e
 exact e
 exact e
theorem z9y {m:Md}{a0:Rule}{r:Bool}(hr:q9h a0=some r):Ok Tryz.prog 198 [Rule.x m a0] [] (dB r) []:=by
 refine OE Tryz.func198 fun S hS=>?_
 unfold q9h at hr
 refine J g<|J (BX' 0)<|bdE hr fun y1 hy1 hr=>J g<|J (CB' [] [] (q5t hy1))<|bdE hr fun s1 hqq1 hr=>J (gn 1)<|q0a 6 [(1,.pb 0 0),(3,dI (a0.Right.length:Int)),(21,dB s1)] ?_ ?_
 replace hr:=hqq1
 refine ifE hr ?_ ?_<;>intro h1 hr
 refine bdE hr fun y2 hy2 hr=>J g<|J (CB' [] [] (q5t hy2))<|e
 exact e
 refine bdE hr fun s2 hqq2 hr=>q0a 4 [(1,.pb 0 0),(3,dI (a0.Right.length:Int)),(25,dB s2)] ?_ ?_
 replace hr:=hqq2
 refine ifE hr ?_ ?_<;>intro h2 hr
 exact e
 exact e
 refine bdE hr fun s3 hqq3 hr=>q0a 6 [(1,.pb 0 0),(3,dI (a0.Right.length:Int)),(31,dB s3)] ?_ ?_
 replace hr:=hqq3
 refine ifE hr ?_ ?_<;>intro h3 hr
 exact e
 exact e
 refine J (gn 1)<|ifE hr ?_ ?_<;>intro h4 hr
 exact e
 refine J (gn 8) ?_
 refine AW.len (.box 0 2 rfl rfl) fun hl1=>?_
 refine bdE hr fun q4 hqq4 hr=>q0b hqq4 hl1 1 (fun k1 _=>[(1,.pb 0 0),(3,dI (a0.Right.length:Int)),(4,dI (k1:Int))]) (fun k1 _=>[]) I (fun k1 xk1 sk1 ok1 hxk1 hr hltk1 hik1=>?_) fun k1 sk1 ek1 hltk1=>?_
 refine bdE hr fun y3 hy3 hr=>J g<|J (CB' [] [] (q5t hy3))<|J (gn 2)<|ifE hr ?_ ?_<;>intro h5 hr
 exact e
 exact e
 subst ek1
 refine J (gn 15) ?_
 refine AW.len (.box 0 4 rfl rfl) fun hl2=>?_
 refine bdE hr fun q5 hqq5 hr=>q0b hqq5 hl2 1 (fun k2 _=>[(1,.pb 0 0),(3,dI (a0.Right.length:Int)),(5,dI (k2:Int))]) (fun k2 _=>[]) I (fun k2 xk2 sk2 ok2 hxk2 hr hltk2 hik2=>?_) fun k2 sk2 ek2 hltk2=>?_
 refine J g<|J (NV' 1)<|bdE hr fun y4 hy4 hr=>J g<|J (CB' [] [] (q5t hy4))<|bdE hr fun s4 hqq6 hr=>J (gn 1)<|q0a 8 [(1,.pb 0 0),(3,dI (a0.Right.length:Int)),(5,dI (k2:Int)),(6,.pb 1 0),(68,dB s4)] ?_ ?_
 replace hr:=hqq6
 refine ifE hr ?_ ?_<;>intro h6 hr
 refine bdE hr fun y5 hy5 hr=>J g<|J (CB' [] [] (q5K hy5))<|e
 exact e
 refine bdE hr fun s5 hqq7 hr=>q0a 7 [(1,.pb 0 0),(3,dI (a0.Right.length:Int)),(5,dI (k2:Int)),(75,dB s5)] ?_ ?_
 replace hr:=hqq7
 refine ifE hr ?_ ?_<;>intro h7 hr
 exact e
 refine bdE hr fun y6 hy6 hr=>J g<|J (CB' [] [] (z5A (m:=m) hy6))<|e
 refine J (gn 1)<|ifE hr ?_ ?_<;>intro h8 hr
 exact e
 exact e
 subst ek2
 refine J (gn 17) ?_
 refine AW.len (.box 0 5 rfl rfl) fun hl3=>?_
 refine bdE hr fun q8 hqq8 hr=>q0b hqq8 hl3 1 (fun k3 _=>[(1,.pb 0 0),(3,dI (a0.Right.length:Int)),(7,dI (k3:Int))]) (fun k3 _=>[]) I (fun k3 xk3 sk3 ok3 hxk3 hr hltk3 hik3=>?_) fun k3 sk3 ek3 hltk3=>?_
 refine J g<|J (NV' 1)<|bdE hr fun y7 hy7 hr=>J g<|J (CB' [] [] (q5t hy7))<|bdE hr fun s6 hqq9 hr=>J (gn 1)<|q0a 6 [(1,.pb 0 0),(3,dI (a0.Right.length:Int)),(7,dI (k3:Int)),(8,.pb 1 0),(97,dB s6)] ?_ ?_
 replace hr:=hqq9
 refine ifE hr ?_ ?_<;>intro h9 hr
 refine bdE hr fun y8 hy8 hr=>J g<|J (CB' [] [] (q5t hy8))<|e
 exact e
 refine bdE hr fun s7 hqq10 hr=>q0a 7 [(1,.pb 0 0),(3,dI (a0.Right.length:Int)),(7,dI (k3:Int)),(8,.pb 1 0),(104,dB s7)] ?_ ?_
 replace hr:=hqq10
 refine ifE hr ?_ ?_<;>intro h10 hr
 exact e
 refine bdE hr fun y9 hy9 hr=>J g<|J (CB' [] [] (z5A (m:=m) hy9))<|e
 refine bdE hr fun s8 hqq11 hr=>q0a 7 [(1,.pb 0 0),(3,dI (a0.Right.length:Int)),(7,dI (k3:Int)),(111,dB s8)] ?_ ?_
 replace hr:=hqq11
 refine ifE hr ?_ ?_<;>intro h11 hr
 exact e
 refine bdE hr fun y10 hy10 hr=>J g<|J (CB' [] [] (z5A (m:=m) hy10))<|e
 refine J (gn 1)<|ifE hr ?_ ?_<;>intro h12 hr
 exact e
 exact e
 subst ek3
 exact e
theorem j7D {m:Md}{a0:Gm_}{r:Int}(hr:z4U a0=some r):Ok Tryz.prog 146 [Gm_.x m a0] [] (dI r) []:=by
 refine OE Tryz.func146 fun S hS=>?_
 unfold z4U at hr
 refine J g<|J (BX' 0)<|J g<|J (L0' 1 A.D.s)<|J (gn 8)<|J (lenA 0 0)<|fun hl1=>bdE hr fun q1 hqq1 hr=>q0b hqq1 hl1 2 (fun k1 s1=>[(1,.pb 0 0),(3,.ref 1 none),(4,dI (k1:Int))]) (fun k1 s1=>[(1,.row .fz 1 (s1.map A.D.s))]) I (fun k1 xk1 sk1 ok1 hxk1 hr hltk1 hik1=>?_) fun k1 sk1 ek1 hltk1=>?_
 obtain⟨s1,rfl⟩:∃ y,y=sk1:=⟨_,rfl⟩
 refine bdE hr fun y1 hy1 hr=>J g<|J (CB' [] [] (z7v (m:=m) hy1))<|J (gn 1)<|ifE hr ?_ ?_<;>intro h1 hr
 refine bdE hr fun y2 hy2 hr=>J g<|J (CB' [] [1] (z6P (m:=.bo) hy2))<|J (gn 2)<|ifE hr ?_ ?_<;>intro h2 hr
 exact e
 refine J g<|J (LIR' 2 (m:=.fz) (f:=A.D.s) (xs:=[xk1.Name]))<|ggE hr fun g1 hr=>J (z0u (f:=A.D.s) 3 (fun _=>rfl) 16 g1)<|e
 exact e
 subst ek1
 obtain⟨s1,rfl⟩:∃ y,y=sk1:=⟨_,rfl⟩
 refine J g<|J (L0' 2 A.D.s)<|J (gn 8) ?_
 refine AW.len (.box 0 1 rfl rfl) fun hl2=>?_
 refine bdE hr fun q2 hqq2 hr=>q0b hqq2 hl2 3 (fun k2 s2=>[(1,.pb 0 0),(3,.ref 2 none),(5,dI (k2:Int))]) (fun k2 s2=>[(2,.row .fz 1 (s2.map A.D.s))]) I (fun k2 xk2 sk2 ok2 hxk2 hr hltk2 hik2=>?_) fun k2 sk2 ek2 hltk2=>?_
 obtain⟨s2,rfl⟩:∃ y,y=sk2:=⟨_,rfl⟩
 refine bdE hr fun y3 hy3 hr=>J g<|J (CB' [] [] (z9y (m:=m) hy3))<|J (gn 1)<|ifE hr ?_ ?_<;>intro h3 hr
 refine bdE hr fun y4 hy4 hr=>J g<|J (CB' [] [2] (z6P (m:=.bo) hy4))<|J (gn 2)<|ifE hr ?_ ?_<;>intro h4 hr
 exact e
 refine J g<|J (LIR' 3 (m:=.fz) (f:=A.D.s) (xs:=[xk2.Name]))<|ggE hr fun g2 hr=>J (z0u (f:=A.D.s) 4 (fun _=>rfl) 16 g2)<|e
 exact e
 subst ek2
 obtain⟨s2,rfl⟩:∃ y,y=sk2:=⟨_,rfl⟩
 exact e
theorem j0q {m:Md}{a0:Gm_}{a1:Rule}{r:Bool}(hr:z0c a0 a1=some r):Ok Tryz.prog 199 [Gm_.y m a0,Rule.x m a1] [] (dB r) []:=by
 refine OE Tryz.func199 fun S hS=>?_
 unfold z0c at hr
 refine J g<|J (BX' 0)<|J (BX' 1)<|bdE hr fun q1 hqq1 hr=>J (gn 7)<|AW.cut 2 (fun _=>[]) (fun _=>[]) (M:=fun x=>q1=.inl x) ?_ fun x hx=>?_
 refine J g<|q0i hqq1 2 (fun s1=>[(2,.pb 0 0),(3,.pb 1 0),(5,dI s1)]) (fun s1=>[]) I fun sk1 ok1 hr hik1=>?_
 obtain⟨s1,rfl⟩:∃ y,y=sk1:=⟨_,rfl⟩
 have hr:=hr
 refine J (gn 9)<|ifE hr ?_ ?_<;>intro h1 hr
 refine bdE hr fun y1 hy1 hr=>J g<|J (CB' [] [] (q7O (m:=m) hy1))<|bdP hr fun y2 y3 hq2 hr=>J (CB' [(0,2)] [] (q6P (m:=m) hq2))<|J g<|J (NV' 3)<|J (gn 8)<|ifE hr ?_ ?_<;>intro h2 hr
 refine ggE hr fun g1 hr=>e
 exact e
 refine J (gn 2) ?_
 cases hr
 cases hik1 _ rfl
 exact⟨_,rfl,GH.trans (q0D (q:=0) [.d m (.sl 2 (a0.Symbols.map Symbol.D)),.u] (.cons .rfl (.cons .u .nil)) rfl) (q0g hS 2)⟩
 subst hx
 exact e
theorem j5b {Rc13:Expr→Option Expr}(Ic13:∀ {m:Md} {a0:Expr} {r:Expr},Rc13 a0=some r→Ok Tryz.prog 211 [Expr.x m a0] [] (.ag [dI r.Kind,dI r.N,dI r.Pos,dI r.Type_,dS r.Symbol,dS r.Name,.ref 0 none]) [.row .fz 7 (r.Args.map Expr.D)]){m:Md}{a0:Expr}{r:Expr}(hr:z0d Rc13 a0=some r):Ok Tryz.prog 211 [Expr.x m a0] [] (.ag [dI r.Kind,dI r.N,dI r.Pos,dI r.Type_,dS r.Symbol,dS r.Name,.ref 0 none]) [.row .fz 7 (r.Args.map Expr.D)]:=by
 refine OE Tryz.func211 fun S hS=>?_
 unfold z0d at hr
 refine J g<|J (BX' 0)<|J (NV' 1)<|J g<|J (L0' 2 Expr.D)<|J (gn 8)<|J (lenA 6 0)<|fun hl1=>bdE hr fun s1 hqq1 hr=>q0d hqq1 hl1 3 (fun k1 s1=>[(1,.pb 0 0),(2,.pb 1 0),(3,.ref 2 none),(4,dI (k1:Int))]) (fun k1 s1=>[(2,.row .fz 7 (s1.map Expr.D))]) I (fun k1 xk1 sk1 ok1 hxk1 hr hltk1=>?_) fun k1 hltk1=>?_
 obtain⟨s1,rfl⟩:∃ y,y=sk1:=⟨_,rfl⟩
 refine bdE hr fun y1 hy1 hr=>J g<|J (CB' [(0,3)] [] (Ic13 (m:=m) hy1)) ?_
 refine J (q0p 3 rfl) ?_
 refine J (j3r 4 (m:=.fz) (f:=Expr.D) [y1] (by simp only[List.map_cons,List.map_nil,Expr.D_eq];rfl))<|ggE hr fun g1 hr=>J (AP1' 5 .fz 88 g1)<|J g<|E
 exact e
theorem j5c (n:Nat):∀ {m:Md} {a0:Expr} {r:Expr},q7b n a0=some r→Ok Tryz.prog 211 [Expr.x m a0] [] (.ag [dI r.Kind,dI r.N,dI r.Pos,dI r.Type_,dS r.Symbol,dS r.Name,.ref 0 none]) [.row .fz 7 (r.Args.map Expr.D)]:=by
  induction n with
  | zero=>intro _ _ r hr;exact nomatch (show (none:Option Expr)=some r from hr)
  | succ n ih=>intro _ _ r hr;exact j5b ih hr
theorem j7E {m:Md}{a0:Expr}{r:Expr}(hr:z6J a0=some r):Ok Tryz.prog 211 [Expr.x m a0] [] (.ag [dI r.Kind,dI r.N,dI r.Pos,dI r.Type_,dS r.Symbol,dS r.Name,.ref 0 none]) [.row .fz 7 (r.Args.map Expr.D)]:=by
 obtain⟨n,hn⟩:=q6D hr
 exact j5c n hn
theorem z4l {m:Md}{a0:Rule}{a1:Oc}{r:(Expr×Bool)}(hr:q5D a0 a1=some r):Ok Tryz.prog 159 [Rule.x m a0,Oc.x .fz a1] [] (.tu [.ag [dI r.1.Kind,dI r.1.N,dI r.1.Pos,dI r.1.Type_,dS r.1.Symbol,dS r.1.Name,.ref 0 none],dB r.2]) [.row .fz 7 (r.1.Args.map Expr.D)]:=by
 refine OE Tryz.func159 fun S hS=>?_
 unfold q5D at hr
 refine J g<|J (BX' 0)<|J (BX' 1)<|J (NV' 2)<|J (gn 8)<|J (lenA 4 0)<|fun hl1=>bdE hr fun q1 hqq1 hr=>q0b hqq1 hl1 3 (fun k1 _=>[(2,.pb 0 0),(3,.pb 1 0),(4,.pb 2 0),(6,dI (k1:Int))]) (fun k1 _=>[]) I (fun k1 xk1 sk1 ok1 hxk1 hr hltk1 hik1=>?_) fun k1 sk1 ek1 hltk1=>?_
 refine J g ?_
 refine J (SQ' rfl rfl rfl rfl (q5U xk1.At a1))<|J (gn 1)<|ifE hr ?_ ?_<;>intro h1 hr
 refine bdE hr fun y1 hy1 hr=>J g<|J (CB' [(0,3)] [] (j7E (m:=m) hy1))<|e
 exact e
 subst ek1
 refine J (gn 18) ?_
 refine J (q0c (q0j (q:=2) (c:=6) (r:=3) .fz 7 rfl rfl rfl))<|J g<|E
theorem j0r {m:Md}{a0:Gm_}{a1:Rule}{r:Bool}(hr:z0e a0 a1=some r):Ok Tryz.prog 200 [Gm_.y m a0,Rule.x m a1] [] (dB r) []:=by
 refine OE Tryz.func200 fun S hS=>?_
 unfold z0e at hr
 refine J g<|J (BX' 0)<|J (BX' 1)<|bdE hr fun y1 hy1 hr=>J g<|J (CB' [(0,2)] [] (q7X (m:=m) hy1))<|J (gn 8)<|J (lenR 2)<|fun hl1=>bdE hr fun q1 hqq1 hr=>q0b hqq1 hl1 3 (fun k1 _=>[(3,.pb 1 0),(5,.ref 2 none),(6,dI (k1:Int))]) (fun k1 _=>[]) I (fun k1 xk1 sk1 ok1 hxk1 hr hltk1 hik1=>?_) fun k1 sk1 ek1 hltk1=>?_
 refine bdP hr fun y2 y3 hq2 hr=>J g<|J (CB' [(0,3)] [] (z4l (m:=m) hq2))<|J g<|J (NV' 4)<|J (gn 8)<|ifE hr ?_ ?_<;>intro h1 hr
 exact e
 exact e
 subst ek1
 exact e
theorem z8b {m:Md}{a0:(List Oc)}{a1:Oc}{r:Bool}(hr:z0H a0 a1=some r):Ok Tryz.prog 248 [.d m (.sl 2 (a0.map Oc.D)),Oc.x .fz a1] [] (dB r) []:=by
 refine OE Tryz.func248 fun S hS=>?_
 unfold z0H at hr
 refine J g<|J (BX' 0)<|J (gn 8)<|J (lenT 0)<|fun hl1=>bdE hr fun q1 hqq1 hr=>q0b hqq1 hl1 1 (fun k1 _=>[(0,.d m (.sl 2 (a0.map Oc.D))),(3,.pb 0 0),(5,dI (k1:Int))]) (fun k1 _=>[]) I (fun k1 xk1 sk1 ok1 hxk1 hr hltk1 hik1=>?_) fun k1 sk1 ek1 hltk1=>?_
 refine J g ?_
 refine J (SQ' rfl rfl rfl rfl (q5U xk1 a1))<|J (gn 1)<|ifE hr ?_ ?_<;>intro h1 hr
 exact e
 exact e
 subst ek1
 exact e
theorem j3F {m:Md}{a0:Gm_}{a1:Rule}{r:Bool}(hr:z2d a0 a1=some r):Ok Tryz.prog 201 [Gm_.y m a0,Rule.x m a1] [] (dB r) []:=by
 refine OE Tryz.func201 fun S hS=>?_
 unfold z2d at hr
 refine J g<|J (BX' 0)<|J (BX' 1)<|bdE hr fun y1 hy1 hr=>J g<|J (CB' [(0,2)] [] (q7X (m:=m) hy1))<|J g<|J (L0' 3 Oc.D)<|J (gn 8)<|J (lenA 4 1)<|fun hl1=>bdE hr fun q1 hqq1 hr=>q0b hqq1 hl1 4 (fun k1 s1=>[(3,.pb 1 0),(5,.ref 2 none),(6,.ref 3 none),(7,dI (k1:Int))]) (fun k1 s1=>[(3,.row .fz 2 (s1.map Oc.D))]) I (fun k1 xk1 sk1 ok1 hxk1 hr hltk1 hik1=>?_) fun k1 sk1 ek1 hltk1=>?_
 obtain⟨s1,rfl⟩:∃ y,y=sk1:=⟨_,rfl⟩
 refine J g<|J (NV' 4)<|bdE hr fun y2 hy2 hr=>J g<|J (CB' [] [2] (z8b (m:=.bo) hy2))<|J (gn 1)<|ifE hr ?_ ?_<;>intro h1 hr
 refine bdE hr fun y3 hy3 hr=>J g<|J (CB' [] [3] (z8b (m:=.bo) hy3))<|J (gn 2)<|ifE hr ?_ ?_<;>intro h2 hr
 exact e
 refine J g<|J (LIR' 5 (m:=.fz) (f:=Oc.D) (xs:=[xk1.At]))<|ggE hr fun g1 hr=>J (z0u (f:=Oc.D) 6 (fun _=>rfl) 24 g1)<|e
 exact e
 subst ek1
 obtain⟨s1,rfl⟩:∃ y,y=sk1:=⟨_,rfl⟩
 exact e
theorem j3G {a0:Oc}{a1:Oc}{r:Bool}(hr:z2e a0 a1=some r):Ok Tryz.prog 284 [Oc.x .fz a0,Oc.x .fz a1] [] (dB r) []:=by
 refine OE Tryz.func284 fun S hS=>?_
 unfold z2e at hr
 refine J g<|J (BX' 0)<|J (BX' 1)<|bdE hr fun s1 hqq1 hr=>J (gn 9)<|q0a 14 [(4,dB false),(23,dB s1)] ?_ ?_
 replace hr:=hqq1
 refine ifE hr ?_ ?_<;>intro h1 hr
 exact e
 refine bdE hr fun s2 hqq2 hr=>J (gn 6)<|q0a 7 [(4,dB false),(10,dB false),(22,dB s2)] ?_ ?_
 replace hr:=hqq2
 refine ifE hr ?_ ?_<;>intro h2 hr
 exact e
 exact e
 exact e
 exact e
theorem j8Z {m:Md}{a0:(List Oc)}{a1:Oc}{r:(List Oc)}(hr:z6K a0 a1=some r):Ok Tryz.prog 258 [.d m (.sl 2 (a0.map Oc.D)),Oc.x .fz a1] [] (.d m (.sl 2 (r.map Oc.D))) []:=by
 refine OE Tryz.func258 fun S hS=>?_
 unfold z6K at hr
 refine J g<|J (BX' 0)<|bdE hr fun s1 hqq1 hr=>J (gn 7)<|q0e 1 [(0,.d m (.sl 2 (a0.map Oc.D))),(3,.pb 0 0),(5,dI s1)] [] ?_ ?_
 refine J g<|q0i hqq1 1 (fun s2=>[(0,.d m (.sl 2 (a0.map Oc.D))),(3,.pb 0 0),(5,dI s2)]) (fun s2=>[]) I fun sk1 ok1 hr hik1=>?_
 obtain⟨s2,rfl⟩:∃ y,y=sk1:=⟨_,rfl⟩
 have hr:=hr
 refine J (gn 7)<|ifE hr ?_ ?_<;>intro h1 hr
 refine ggE hr fun g1 hr=>bdE hr fun x1 hx1 hr=>bdE hr fun y1 hy1 hr=>J g<|J (CB' [] [] (j3G hy1))<|J (gn 2)<|ifE hr ?_ ?_<;>intro h2 hr
 refine ggE hr fun g2 hr=>e
 refine J (gn 2) ?_
 cases hr
 cases hik1 _ rfl
 exact q0g hS 1
 refine J (gn 11) ?_
 cases hr
 cases hik1 _ rfl
 exact q0g hS 1
 refine J (gn 7)<|ifE hr ?_ ?_<;>intro h3 hr
 refine ggE hr fun g3 hr=>bdE hr fun x2 hx2 hr=>J g ?_
 refine J (SQ' rfl rfl rfl rfl (q5U x2 a1))<|J (gn 2)<|ifE hr ?_ ?_<;>intro h4 hr
 exact e
 refine J g<|J (L0' 1 Oc.D)<|ggE hr fun g4 hr=>ggE hr fun g5 hr=>J g<|J (SLH' g4 g5)<|ggE hr fun g6 hr=>J (j1K (f:=Oc.D) 2 24 (fun _=>rfl) g6)<|J g<|J (LIR' 3 (m:=.fz) (f:=Oc.D) (xs:=[a1]))<|ggE hr fun g7 hr=>J (z0u (f:=Oc.D) 4 (fun _=>rfl) 24 g7)<|ggE hr fun g8 hr=>ggE hr fun g9 hr=>J g<|J (SLL' g8 g9)<|ggE hr fun g10 hr=>J (j1K (f:=Oc.D) 5 24 (fun _=>rfl) g10)<|J (gn 3) ?_
 refine J (q0c (q0t (r:=5) rfl)) ?_
 cases hr
 exact endA.ren [] 0 (.inr rfl) hS rfl rfl rfl (.md rfl) rfl rfl
 refine J g<|J (L0' 1 Oc.D)<|ggE hr fun g11 hr=>ggE hr fun g12 hr=>J g<|J (SLH' g11 g12)<|ggE hr fun g13 hr=>J (j1K (f:=Oc.D) 2 24 (fun _=>rfl) g13)<|J g<|J (LIR' 3 (m:=.fz) (f:=Oc.D) (xs:=[a1]))<|ggE hr fun g14 hr=>J (z0u (f:=Oc.D) 4 (fun _=>rfl) 24 g14)<|ggE hr fun g15 hr=>ggE hr fun g16 hr=>J g<|J (SLL' g15 g16)<|ggE hr fun g17 hr=>J (j1K (f:=Oc.D) 5 24 (fun _=>rfl) g17)<|J (gn 3) ?_
 refine J (q0c (q0t (r:=5) rfl)) ?_
 cases hr
 exact endA.ren [] 0 (.inr rfl) hS rfl rfl rfl (.md rfl) rfl rfl
theorem j5d {Rc14:Expr→(List Oc)→Option (List Oc)}(Ic14:∀ {m:Md} {a0:Expr} {a1:(List Oc)} {r:(List Oc)},Rc14 a0 a1=some r→Ok Tryz.prog 212 [Expr.x m a0,.d m (.sl 2 (a1.map Oc.D))] [] (.d m (.sl 2 (r.map Oc.D))) []){m:Md}{a0:Expr}{a1:(List Oc)}{r:(List Oc)}(hr:z1l Rc14 a0 a1=some r):Ok Tryz.prog 212 [Expr.x m a0,.d m (.sl 2 (a1.map Oc.D))] [] (.d m (.sl 2 (r.map Oc.D))) []:=by
 refine OE Tryz.func212 fun S hS=>?_
 unfold z1l at hr
 refine J g<|J (BX' 0)<|J (gn 9)<|ifE hr ?_ ?_<;>intro h1 hr
 refine bdE hr fun y1 hy1 hr=>J g<|J (CB' [] [] (j8Z (m:=m) hy1))<|J (gn 8)<|J (lenA 6 0)<|fun hl1=>bdE hr fun s1 hqq1 hr=>q0d hqq1 hl1 1 (fun k1 s1=>[(1,.d m (.sl 2 (s1.map Oc.D))),(2,.pb 0 0),(5,dI (k1:Int))]) (fun k1 s1=>[]) I (fun k1 xk1 sk1 ok1 hxk1 hr hltk1=>?_) fun k1 hltk1=>?_
 obtain⟨s1,rfl⟩:∃ y,y=sk1:=⟨_,rfl⟩
 refine bdE hr fun y2 hy2 hr=>J g<|J (CB' [] [] (Ic14 (m:=m) hy2))<|e
 exact e
 refine J (gn 8)<|J (lenA 6 0)<|fun hl2=>bdE hr fun s2 hqq2 hr=>q0d hqq2 hl2 1 (fun k2 s2=>[(1,.d m (.sl 2 (s2.map Oc.D))),(2,.pb 0 0),(5,dI (k2:Int))]) (fun k2 s2=>[]) I (fun k2 xk2 sk2 ok2 hxk2 hr hltk2=>?_) fun k2 hltk2=>?_
 obtain⟨s2,rfl⟩:∃ y,y=sk2:=⟨_,rfl⟩
 refine bdE hr fun y3 hy3 hr=>J g<|J (CB' [] [] (Ic14 (m:=m) hy3))<|e
 exact e
theorem j5e (n:Nat):∀ {m:Md} {a0:Expr} {a1:(List Oc)} {r:(List Oc)},q7p n a0 a1=some r→Ok Tryz.prog 212 [Expr.x m a0,.d m (.sl 2 (a1.map Oc.D))] [] (.d m (.sl 2 (r.map Oc.D))) []:=by
  induction n with
  | zero=>intro _ _ _ r hr;exact nomatch (show (none:Option (List Oc))=some r from hr)
  | succ n ih=>intro _ _ _ r hr;exact j5d ih hr
theorem j7F {m:Md}{a0:Expr}{a1:(List Oc)}{r:(List Oc)}(hr:z9q a0 a1=some r):Ok Tryz.prog 212 [Expr.x m a0,.d m (.sl 2 (a1.map Oc.D))] [] (.d m (.sl 2 (r.map Oc.D))) []:=by
 obtain⟨n,hn⟩:=q6D hr
 exact j5e n hn
theorem z3y {m:Md}{a0:Expr}{r:(List Oc)}(hr:q6z a0=some r):Ok Tryz.prog 160 [Expr.x m a0] [] (.d m (.sl 2 (r.map Oc.D))) []:=by
 refine OE Tryz.func160 fun S hS=>?_
 unfold q6z at hr
 refine J g<|J (BX' 0)<|J g<|J (L0' 1 Oc.D) ?_
 refine J (q0p 1 rfl)<|bdE hr fun y1 hy1 hr=>J (CB' [] [] (j7F (m:=m) hy1))<|J g<|E
theorem j7G {m:Md}{a0:Gm_}{a1:Rule}{a2:Oc}{r:Bool}(hr:z4V a0 a1 a2=some r):Ok Tryz.prog 277 [Gm_.y m a0,Rule.x m a1,Oc.x .fz a2] [] (dB r) []:=by
 refine OE Tryz.func277 fun S hS=>?_
 unfold z4V at hr
 refine J g<|J (BX' 0)<|J (BX' 1)<|J (BX' 2)<|bdE hr fun y1 hy1 hr=>J g<|J (CB' [] [] (q5K hy1))<|J (gn 2)<|ifE hr ?_ ?_<;>intro h1 hr
 refine bdE hr fun y2 hy2 hr=>J g<|J (CB' [] [] (q7O (m:=m) hy2))<|bdP hr fun y3 y4 hq1 hr=>J (CB' [(0,3)] [] (q6P (m:=m) hq1))<|J g<|J (NV' 4)<|bdP hr fun y5 y6 hq2 hr=>J g<|J (CB' [] [3] (q8M (m:=.bo) hq2))<|J g<|J (NV' 5)<|J (gn 10)<|ifE hr ?_ ?_<;>intro h2 hr
 refine bdE hr fun s1 hqq3 hr=>J (gn 4)<|q0a 5 [(6,dB false),(42,dB s1)] ?_ ?_
 replace hr:=hqq3
 refine ifE hr ?_ ?_<;>intro h3 hr
 exact e
 exact e
 exact e
 refine bdE hr fun s2 hqq4 hr=>J (gn 5)<|q0a 5 [(6,dB false),(48,dB s2)] ?_ ?_
 replace hr:=hqq4
 refine ifE hr ?_ ?_<;>intro h4 hr
 exact e
 exact e
 exact e
 exact e
theorem z5X {m:Md}{a0:Gm_}{a1:Rule}{a2:Expr}{r:Bool}(hr:z0I a0 a1 a2=some r):Ok Tryz.prog 249 [Gm_.y m a0,Rule.x m a1,Expr.x m a2] [] (dB r) []:=by
 refine OE Tryz.func249 fun S hS=>?_
 unfold z0I at hr
 refine J g<|J (BX' 0)<|J (BX' 1)<|J (BX' 2)<|bdE hr fun y1 hy1 hr=>J g<|J (CB' [] [] (z3y (m:=m) hy1))<|J (gn 8)<|J (lenT 7)<|fun hl1=>bdE hr fun q1 hqq1 hr=>q0b hqq1 hl1 3 (fun k1 _=>[(3,.pb 0 0),(4,.pb 1 0),(7,.d m (.sl 2 (y1.map Oc.D))),(8,dI (k1:Int))]) (fun k1 _=>[]) I (fun k1 xk1 sk1 ok1 hxk1 hr hltk1 hik1=>?_) fun k1 sk1 ek1 hltk1=>?_
 refine bdE hr fun y2 hy2 hr=>J g<|J (CB' [] [] (j7G (m:=m) hy2))<|J (gn 2)<|ifE hr ?_ ?_<;>intro h1 hr
 exact e
 exact e
 subst ek1
 exact e
theorem j1S {m:Md}{a0:Gm_}{a1:Rule}{r:Bool}(hr:z1m a0 a1=some r):Ok Tryz.prog 202 [Gm_.y m a0,Rule.x m a1] [] (dB r) []:=by
 refine OE Tryz.func202 fun S hS=>?_
 unfold z1m at hr
 refine J g<|J (BX' 0)<|J (BX' 1)<|J (gn 8)<|J (lenA 4 1)<|fun hl1=>bdE hr fun q1 hqq1 hr=>q0b hqq1 hl1 2 (fun k1 _=>[(2,.pb 0 0),(3,.pb 1 0),(5,dI (k1:Int))]) (fun k1 _=>[]) I (fun k1 xk1 sk1 ok1 hxk1 hr hltk1 hik1=>?_) fun k1 sk1 ek1 hltk1=>?_
 refine bdE hr fun y1 hy1 hr=>J g<|J (CB' [] [] (z5X (m:=m) hy1))<|J (gn 2)<|ifE hr ?_ ?_<;>intro h1 hr
 exact e
 exact e
 subst ek1
 refine J (gn 17) ?_
 refine AW.len (.box 1 5 rfl rfl) fun hl2=>?_
 refine bdE hr fun q2 hqq2 hr=>q0b hqq2 hl2 2 (fun k2 _=>[(2,.pb 0 0),(3,.pb 1 0),(6,dI (k2:Int))]) (fun k2 _=>[]) I (fun k2 xk2 sk2 ok2 hxk2 hr hltk2 hik2=>?_) fun k2 sk2 ek2 hltk2=>?_
 refine bdE hr fun y2 hy2 hr=>J g<|J (CB' [] [] (z5X (m:=m) hy2))<|J (gn 1)<|ifE hr ?_ ?_<;>intro h2 hr
 refine bdE hr fun y3 hy3 hr=>J g<|J (CB' [] [] (z5X (m:=m) hy3))<|J (gn 3)<|ifE hr ?_ ?_<;>intro h3 hr
 exact e
 exact e
 exact e
 subst ek2
 exact e
theorem j1T {m:Md}{a0:Gm_}{a1:Rule}{a2:Int}{r:Bool}(hr:z1n a0 a1 a2=some r):Ok Tryz.prog 147 [Gm_.y m a0,Rule.x m a1,dI a2] [] (dB r) []:=by
 refine OE Tryz.func147 fun S hS=>?_
 unfold z1n at hr
 refine J g<|J (BX' 0)<|J (BX' 1)<|J (gn 13)<|ifE hr ?_ ?_<;>intro h1 hr
 refine bdE hr fun y1 hy1 hr=>J g<|J (CB' [] [] (j0q (m:=m) hy1))<|e
 refine J (gn 6)<|ifE hr ?_ ?_<;>intro h2 hr
 refine bdE hr fun y2 hy2 hr=>J g<|J (CB' [] [] (j0r (m:=m) hy2))<|e
 refine J (gn 6)<|ifE hr ?_ ?_<;>intro h3 hr
 refine bdE hr fun y3 hy3 hr=>J g<|J (CB' [] [] (j3F (m:=m) hy3))<|e
 refine bdE hr fun y4 hy4 hr=>J g<|J (CB' [] [] (j1S (m:=m) hy4))<|e
theorem j0s {m:Md}{a0:Gm_}{r:(Int×Int)}(hr:z0f a0=some r):Ok Tryz.prog 87 [Gm_.x m a0] [] (.tu [dI r.1,dI r.2]) []:=by
 refine OE Tryz.func87 fun S hS=>?_
 unfold z0f at hr
 refine J g<|J (BX' 0)<|bdE hr fun y1 hy1 hr=>J g<|J (CB' [] [] (q5K hy1))<|J (gn 1)<|ifE hr ?_ ?_<;>intro h1 hr
 refine bdE hr fun y2 hy2 hr=>J g<|J (CB' [] [] (q5K hy2))<|J (gn 3)<|ifE hr ?_ ?_<;>intro h2 hr
 refine bdE hr fun y3 hy3 hr=>J g<|J (CB' [] [] (j7D (m:=m) hy3))<|J (gn 8)<|ifE hr ?_ ?_<;>intro h3 hr
 exact e
 refine bdE hr fun x1 hx1 hr=>J (gn 8) ?_
 refine AW.len (.el 1 (.ag 0 (.tmp 0 rfl) rfl) hx1 rfl) fun hl1=>?_
 refine bdE hr fun q1 hqq1 hr=>q0b hqq1 hl1 1 (fun k1 _=>[(1,.pb 0 0),(5,dI (k1:Int))]) (fun k1 _=>[]) I (fun k1 xk1 sk1 ok1 hxk1 hr hltk1 hik1=>?_) fun k1 sk1 ek1 hltk1=>?_
 refine J (gn 29)<|ifE hr ?_ ?_<;>intro h4 hr
 exact e
 exact e
 subst ek1
 refine bdE hr fun q2 hqq2 hr=>J (gn 19)<|AW.cut 1 (fun _=>[]) (fun _=>[]) (M:=fun x=>q2=.inl x) ?_ fun x hx=>?_
 refine J g<|q0i hqq2 1 (fun s1=>[(1,.pb 0 0),(6,dI s1)]) (fun s1=>[]) I fun sk2 ok2 hr hik2=>?_
 obtain⟨s1,rfl⟩:∃ y,y=sk2:=⟨_,rfl⟩
 have hr:=hr
 refine J (gn 6)<|ifE hr ?_ ?_<;>intro h5 hr
 refine J (gn 9) ?_
 refine AW.len (.box 0 1 rfl rfl) fun hl3=>?_
 refine bdE hr fun q3 hqq3 hr=>q0b hqq3 hl3 1 (fun k3 _=>[(1,.pb 0 0),(6,dI s1),(7,dI (k3:Int))]) (fun k3 _=>[]) I (fun k3 xk3 sk3 ok3 hxk3 hr hltk3 hik3=>?_) fun k3 sk3 ek3 hltk3=>?_
 refine bdE hr fun y4 hy4 hr=>J g<|J (CB' [] [] (j1T (m:=m) hy4))<|J (gn 1)<|ifE hr ?_ ?_<;>intro h6 hr
 exact e
 exact e
 subst ek3
 refine ggE hr fun g1 hr=>e
 refine J (gn 2) ?_
 cases hr
 cases hik2 _ rfl
 exact⟨_,rfl,q0g hS 1⟩
 subst hx
 exact e
 exact e
 exact e
theorem z1s {m:Md}{a0:Gm_}{a1:ByteArray}{a2:ByteArray}{r:Int}(hr:q7c a0 a1 a2=some r):Ok Tryz.prog 149 [Gm_.y m a0,dS a1,dS a2] [] (dI r) []:=by
 refine OE Tryz.func149 fun S hS=>?_
 unfold q7c at hr
 refine J g<|J (BX' 0)<|bdP hr fun y1 y2 hq1 hr=>J g<|J (CB' [(0,1)] [] (q6P (m:=m) hq1))<|J g<|J (NV' 2)<|bdP hr fun y3 y4 hq2 hr=>J g<|J (CB' [] [1] (q8M (m:=.bo) hq2))<|J g<|J (NV' 3)<|J (gn 9)<|ifE hr ?_ ?_<;>intro h1 hr
 exact e
 exact e
theorem j9a {Rc15:Gm_→Rule→Expr→Option Int}(Ic15:∀ {m:Md} {a0:Gm_} {a1:Rule} {a2:Expr} {r:Int},Rc15 a0 a1 a2=some r→Ok Tryz.prog 148 [Gm_.y m a0,Rule.x m a1,Expr.x m a2] [] (dI r) []){m:Md}{a0:Gm_}{a1:Rule}{a2:Expr}{r:Int}(hr:z8E Rc15 a0 a1 a2=some r):Ok Tryz.prog 203 [Gm_.y m a0,Rule.x m a1,Expr.x m a2] [] (dI r) []:=by
 refine OE Tryz.func203 fun S hS=>?_
 unfold z8E at hr
 refine J g<|J (BX' 0)<|J (BX' 1)<|J (BX' 2)<|bdT hr fun y1 y2 y3 hq1 hr=>J g<|J (CB' [] [] (q6C hq1))<|J (gn 15)<|ifE hr ?_ ?_<;>intro h1 hr
 refine bdE hr fun x1 hx1 hr=>bdE hr fun y4 hy4 hr=>J g<|J (CB' [] [] (Ic15 (m:=m) hy4))<|J (gn 3)<|ifE hr ?_ ?_<;>intro h2 hr
 refine bdE hr fun x2 hx2 hr=>bdE hr fun y5 hy5 hr=>J g<|J (CB' [] [] (Ic15 (m:=m) hy5))<|J (gn 4)<|ifE hr ?_ ?_<;>intro h3 hr
 exact e
 exact e
 exact e
 exact e
theorem j9b {Rc15:Gm_→Rule→Expr→Option Int}(Ic15:∀ {m:Md} {a0:Gm_} {a1:Rule} {a2:Expr} {r:Int},Rc15 a0 a1 a2=some r→Ok Tryz.prog 148 [Gm_.y m a0,Rule.x m a1,Expr.x m a2] [] (dI r) []){m:Md}{a0:Gm_}{a1:Rule}{a2:Expr}{r:Int}(hr:z8F Rc15 a0 a1 a2=some r):Ok Tryz.prog 204 [Gm_.y m a0,Rule.x m a1,Expr.x m a2] [] (dI r) []:=by
 refine OE Tryz.func204 fun S hS=>?_
 unfold z8F at hr
 refine J g<|J (BX' 0)<|J (BX' 1)<|J (BX' 2)<|J (gn 9)<|ifE hr ?_ ?_<;>intro h1 hr
 refine bdE hr fun x1 hx1 hr=>bdE hr fun y1 hy1 hr=>J g<|J (CB' [] [] (Ic15 (m:=m) hy1))<|J (gn 3)<|ifE hr ?_ ?_<;>intro h2 hr
 refine bdE hr fun x2 hx2 hr=>bdE hr fun y2 hy2 hr=>J g<|J (CB' [] [] (Ic15 (m:=m) hy2))<|bdE hr fun x3 hx3 hr=>bdE hr fun y3 hy3 hr=>J g<|J (CB' [] [] (Ic15 (m:=m) hy3))<|J (gn 2)<|ifE hr ?_ ?_<;>intro h3 hr
 exact e
 exact e
 exact e
 exact e
theorem z9z {Rc15:Gm_→Rule→Expr→Option Int}(Ic15:∀ {m:Md} {a0:Gm_} {a1:Rule} {a2:Expr} {r:Int},Rc15 a0 a1 a2=some r→Ok Tryz.prog 148 [Gm_.y m a0,Rule.x m a1,Expr.x m a2] [] (dI r) []){m:Md}{a0:Gm_}{a1:Rule}{a2:Expr}{r:Int}(hr:z0g Rc15 a0 a1 a2=some r):Ok Tryz.prog 148 [Gm_.y m a0,Rule.x m a1,Expr.x m a2] [] (dI r) []:=by
 refine OE Tryz.func148 fun S hS=>?_
 unfold z0g at hr
 refine J g<|J (BX' 0)<|J (BX' 1)<|J (BX' 2)<|J (gn 14)<|ifE hr ?_ ?_<;>intro h1 hr
 exact e
 refine J (gn 6)<|ifE hr ?_ ?_<;>intro h2 hr
 refine J (gn 6)<|ifE hr ?_ ?_<;>intro h3 hr
 exact e
 exact e
 refine J (gn 6)<|ifE hr ?_ ?_<;>intro h4 hr
 refine bdE hr fun y1 hy1 hr=>J g<|J (CB' [] [] (q5K hy1))<|J (gn 1)<|ifE hr ?_ ?_<;>intro h5 hr
 refine bdE hr fun y2 hy2 hr=>J g<|J (CB' [] [] (q7O (m:=m) hy2))<|bdE hr fun y3 hy3 hr=>J g<|J (CB' [] [] (z1s (m:=m) hy3))<|e
 exact e
 refine J (gn 6)<|ifE hr ?_ ?_<;>intro h6 hr
 refine bdE hr fun y4 hy4 hr=>J g<|J (CB' [] [] (j9a Ic15 (m:=m) hy4))<|e
 refine J (gn 6)<|ifE hr ?_ ?_<;>intro h7 hr
 refine bdE hr fun y5 hy5 hr=>J g<|J (CB' [] [] (j9b Ic15 (m:=m) hy5))<|e
 refine J (gn 6)<|ifE hr ?_ ?_<;>intro h8 hr
 refine bdE hr fun y6 hy6 hr=>J g<|J (CB' [] [] (q5K hy6))<|J (gn 1)<|ifE hr ?_ ?_<;>intro h9 hr
 exact e
 exact e
 refine J (gn 6)<|ifE hr ?_ ?_<;>intro h10 hr
 exact e
 refine J (gn 6)<|ifE hr ?_ ?_<;>intro h11 hr
 refine J (gn 7)<|ifE hr ?_ ?_<;>intro h12 hr
 refine bdE hr fun x1 hx1 hr=>bdE hr fun y7 hy7 hr=>J g<|J (CB' [] [] (Ic15 (m:=m) hy7))<|J (gn 3)<|ifE hr ?_ ?_<;>intro h13 hr
 refine bdE hr fun y8 hy8 hr=>J g<|J (CB' [] [] (z1s (m:=m) hy8))<|e
 exact e
 exact e
 exact e
theorem z9A (n:Nat):∀ {m:Md} {a0:Gm_} {a1:Rule} {a2:Expr} {r:Int},q8J n a0 a1 a2=some r→Ok Tryz.prog 148 [Gm_.y m a0,Rule.x m a1,Expr.x m a2] [] (dI r) []:=by
  induction n with
  | zero=>intro _ _ _ _ r hr;exact nomatch (show (none:Option Int)=some r from hr)
  | succ n ih=>intro _ _ _ _ r hr;exact z9z ih hr
theorem z2S {m:Md}{a0:Gm_}{a1:Rule}{a2:Expr}{r:Int}(hr:z0h a0 a1 a2=some r):Ok Tryz.prog 148 [Gm_.y m a0,Rule.x m a1,Expr.x m a2] [] (dI r) []:=by
 obtain⟨n,hn⟩:=q6D hr
 exact z9A n hn
theorem j5f {m:Md}{a0:Gm_}{a1:Rule}{r:Bool}(hr:z3s a0 a1=some r):Ok Tryz.prog 88 [Gm_.y m a0,Rule.x m a1] [] (dB r) []:=by
 refine OE Tryz.func88 fun S hS=>?_
 unfold z3s at hr
 refine J g<|J (BX' 0)<|J (BX' 1)<|J (gn 8)<|J (lenA 4 1)<|fun hl1=>bdE hr fun q1 hqq1 hr=>q0b hqq1 hl1 2 (fun k1 _=>[(2,.pb 0 0),(3,.pb 1 0),(5,dI (k1:Int))]) (fun k1 _=>[]) I (fun k1 xk1 sk1 ok1 hxk1 hr hltk1 hik1=>?_) fun k1 sk1 ek1 hltk1=>?_
 refine J g<|J (NV' 2)<|bdE hr fun y1 hy1 hr=>J g<|J (CB' [] [] (z2S (m:=m) hy1))<|bdE hr fun y2 hy2 hr=>J g<|J (CB' [] [] (q7O (m:=m) hy2))<|bdE hr fun y3 hy3 hr=>J g<|J (CB' [] [] (z1s (m:=m) hy3))<|J (gn 2)<|ifE hr ?_ ?_<;>intro h1 hr
 exact e
 exact e
 subst ek1
 refine J (gn 17) ?_
 refine AW.len (.box 1 5 rfl rfl) fun hl2=>?_
 refine bdE hr fun q2 hqq2 hr=>q0b hqq2 hl2 2 (fun k2 _=>[(2,.pb 0 0),(3,.pb 1 0),(7,dI (k2:Int))]) (fun k2 _=>[]) I (fun k2 xk2 sk2 ok2 hxk2 hr hltk2 hik2=>?_) fun k2 sk2 ek2 hltk2=>?_
 refine J g<|J (NV' 2)<|bdP hr fun y4 y5 hq3 hr=>J g<|J (CB' [(0,3)] [] (q6P (m:=m) hq3))<|J g<|J (NV' 4)<|bdP hr fun y6 y7 hq4 hr=>J g<|J (CB' [] [3] (q8M (m:=.bo) hq4))<|J g<|J (NV' 5)<|bdE hr fun s1 hqq5 hr=>J (gn 7)<|q0a 5 [(2,.pb 0 0),(3,.pb 1 0),(7,dI (k2:Int)),(8,.pb 2 0),(73,dB s1)] ?_ ?_
 replace hr:=hqq5
 refine ifE hr ?_ ?_<;>intro h2 hr
 exact e
 exact e
 refine bdE hr fun s2 hqq6 hr=>q0a 8 [(2,.pb 0 0),(3,.pb 1 0),(7,dI (k2:Int)),(8,.pb 2 0),(81,dB s2)] ?_ ?_
 replace hr:=hqq6
 refine ifE hr ?_ ?_<;>intro h3 hr
 exact e
 refine bdE hr fun y8 hy8 hr=>J g<|J (CB' [] [] (z2S (m:=m) hy8))<|e
 refine bdE hr fun s3 hqq7 hr=>q0a 8 [(2,.pb 0 0),(3,.pb 1 0),(7,dI (k2:Int)),(89,dB s3)] ?_ ?_
 replace hr:=hqq7
 refine ifE hr ?_ ?_<;>intro h4 hr
 exact e
 refine bdE hr fun y9 hy9 hr=>J g<|J (CB' [] [] (z2S (m:=m) hy9))<|e
 refine J (gn 1)<|ifE hr ?_ ?_<;>intro h5 hr
 exact e
 exact e
 subst ek2
 exact e
theorem z4Y {m:Md}{a0:Gm_}{a1:ByteArray}{r:Int}(hr:z1D a0 a1=some r):Ok Tryz.prog 47 [Gm_.y m a0,dS a1] [] (dI r) []:=by
 refine OE Tryz.func47 fun S hS=>?_
 unfold z1D at hr
 refine J g<|J (BX' 0)<|J (gn 8)<|J (lenA 0 0)<|fun hl1=>bdE hr fun q1 hqq1 hr=>q0b hqq1 hl1 1 (fun k1 _=>[(1,dS a1),(2,.pb 0 0),(5,dI (k1:Int))]) (fun k1 _=>[]) I (fun k1 xk1 sk1 ok1 hxk1 hr hltk1 hik1=>?_) fun k1 sk1 ek1 hltk1=>?_
 refine J (gn 24)<|ifE hr ?_ ?_<;>intro h1 hr
 exact e
 exact e
 subst ek1
 exact e
theorem j0t {m:Md}{a0:Gm_}{a1:ByteArray}{a2:(List Int)}{r:Bool}(hr:z0i a0 a1 a2=some r):Ok Tryz.prog 250 [Gm_.x m a0,dS a1,.d m (.sl 1 (a2.map (A.D.i .i64)))] [] (dB r) []:=by
 refine OE Tryz.func250 fun S hS=>?_
 unfold z0i at hr
 refine J g<|J (BX' 0)<|J (gn 8)<|J (lenA 1 0)<|fun hl1=>bdE hr fun q1 hqq1 hr=>q0b hqq1 hl1 1 (fun k1 _=>[(1,dS a1),(2,.d m (.sl 1 (a2.map (A.D.i .i64)))),(3,.pb 0 0),(7,dI (k1:Int))]) (fun k1 _=>[]) I (fun k1 xk1 sk1 ok1 hxk1 hr hltk1 hik1=>?_) fun k1 sk1 ek1 hltk1=>?_
 refine J g<|J (NV' 1)<|J (gn 16)<|J (lenA 2 23)<|fun hl2=>bdE hr fun s1 hqq2 hr=>q0d hqq2 hl2 2 (fun k2 s1=>[(1,dS a1),(2,.d m (.sl 1 (a2.map (A.D.i .i64)))),(3,.pb 0 0),(7,dI (k1:Int)),(8,.pb 1 0),(9,dB s1),(10,dI (k2:Int))]) (fun k2 s1=>[]) I (fun k2 xk2 sk2 ok2 hxk2 hr hltk2=>?_) fun k2 hltk2=>?_
 obtain⟨s1,rfl⟩:∃ y,y=sk2:=⟨_,rfl⟩
 refine bdE hr fun y1 hy1 hr=>J g<|J (CB' [] [] (z4Y (m:=m) hy1))<|bdE hr fun s2 hqq3 hr=>J (gn 4)<|q0a 4 [(1,dS a1),(2,.d m (.sl 1 (a2.map (A.D.i .i64)))),(3,.pb 0 0),(7,dI (k1:Int)),(8,.pb 1 0),(9,dB s1),(10,dI (k2:Int)),(11,dI y1),(46,dB s2)] ?_ ?_
 replace hr:=hqq3
 refine ifE hr ?_ ?_<;>intro h1 hr
 exact e
 exact e
 refine bdE hr fun s3 hqq4 hr=>q0a 8 [(1,dS a1),(2,.d m (.sl 1 (a2.map (A.D.i .i64)))),(3,.pb 0 0),(7,dI (k1:Int)),(8,.pb 1 0),(9,dB s1),(10,dI (k2:Int)),(54,dB s3)] ?_ ?_
 replace hr:=hqq4
 refine ifE hr ?_ ?_<;>intro h2 hr
 refine bdE hr fun y2 hy2 hr=>J g<|J (CB' [] [] (z4X hy2))<|ggE hr fun g1 hr=>bdE hr fun x1 hx1 hr=>e
 exact e
 exact e
 refine J (gn 15)<|ifE hr ?_ ?_<;>intro h3 hr
 exact e
 exact e
 subst ek1
 exact e
theorem j0u {m:Md}{a0:Gm_}{r:(List Int)}(hr:q7W a0=some r):Ok Tryz.prog 205 [Gm_.x m a0] [] (.ref 0 none) [.row .fz 1 (r.map (A.D.i .i64))]:=by
 refine OE Tryz.func205 fun S hS=>?_
 unfold q7W at hr
 refine J g<|J (BX' 0)<|ggE hr fun g1 hr=>J g<|J (MKR' 1 (f:=(A.D.i .i64)) (0:Int) g1.1 g1.2.1 g1.2.2)<|bdE hr fun s1 hqq1 hr=>J (gn 7)<|q0e 2 [(3,.ref 1 none)] [(1,.row .fz 1 (s1.map (A.D.i .i64)))] ?_ ?_
 refine J g<|q0i hqq1 2 (fun (s2,s3)=>[(1,.pb 0 0),(3,.ref 1 none),(4,dI s3)]) (fun (s2,s3)=>[(1,.row .fz 1 (s2.map (A.D.i .i64)))]) I fun sk1 ok1 hr hik1=>?_
 obtain⟨s2,s3⟩:=sk1
 have hr:=hr
 refine J (gn 9)<|ifE hr ?_ ?_<;>intro h1 hr
 refine J g<|J (L0' 2 (A.D.i .i64))<|ggE hr fun g2 hr=>J g<|J (j1K (f:=(A.D.i .i64)) 3 8 (fun _=>rfl) g2)<|J (gn 8)<|J (lenT 13)<|fun hl2=>bdE hr fun s4 hqq2 hr=>q0d hqq2 hl2 4 (fun k2 s4=>[(1,.pb 0 0),(3,.ref 1 none),(4,dI s3),(5,.ref 3 none),(6,dI (k2:Int))]) (fun k2 s4=>[(2,.none),(3,.row .fz 1 (s4.map (A.D.i .i64)))]) I (fun k2 xk2 sk2 ok2 hxk2 hr hltk2=>?_) fun k2 hltk2=>?_
 obtain⟨s4,rfl⟩:∃ y,y=sk2:=⟨_,rfl⟩
 refine bdE hr fun s5 hqq3 hr=>J (gn 12)<|q0e 4 [(1,.pb 0 0),(3,.ref 1 none),(4,dI s3),(5,.ref 3 none),(6,dI (k2:Int))] [(3,.row .fz 1 (s5.map (A.D.i .i64)))] ?_ ?_
 replace hr:=hqq3
 refine bdE hr fun x1 hx1 hr=>J (gn 8)<|ifE hr ?_ ?_<;>intro h2 hr
 refine bdE hr fun y1 hy1 hr=>J g<|J (CB' [] [1] (j0t (m:=.bo) hy1))<|J (gn 2)<|ifE hr ?_ ?_<;>intro h3 hr
 refine bdE hr fun x2 hx2 hr=>J g<|J (SE' s3 hx2)<|e
 exact e
 exact e
 exact e
 refine ggE hr fun g3 hr=>e
 refine J (gn 2) ?_
 cases hr
 cases hik1 _ rfl
 exact q0g hS 2
 exact e
theorem j1U {m:Md}{a0:Gm_}{a1:ByteArray}{r:Int}(hr:z2B a0 a1=some r):Ok Tryz.prog 150 [Gm_.x m a0,dS a1] [] (dI r) []:=by
 refine OE Tryz.func150 fun S hS=>?_
 unfold z2B at hr
 refine J g<|J (BX' 0)<|bdE hr fun y1 hy1 hr=>J g<|J (CB' [] [] (z4Y (m:=m) hy1))<|J (gn 8)<|ifE hr ?_ ?_<;>intro h1 hr
 exact e
 refine bdE hr fun y2 hy2 hr=>J g<|J (CB' [(0,1)] [] (j0u (m:=m) hy2))<|ggE hr fun g1 hr=>bdE hr fun x1 hx1 hr=>e
theorem z8n {m:Md}{a0:Gm_}{a1:ByteArray}{r:Bool}(hr:q8E a0 a1=some r):Ok Tryz.prog 89 [Gm_.x m a0,dS a1] [] (dB r) []:=by
 refine OE Tryz.func89 fun S hS=>?_
 unfold q8E at hr
 refine J g<|J (BX' 0)<|bdE hr fun y1 hy1 hr=>J g<|J (CB' [] [] (j1U (m:=m) hy1))<|e
theorem z4m {m:Md}{a0:Gm_}{r:(Int×Int)}(hr:q7G a0=some r):Ok Tryz.prog 37 [Gm_.x m a0] [] (.tu [dI r.1,dI r.2]) []:=by
 refine OE Tryz.func37 fun S hS=>?_
 unfold q7G at hr
 refine J g<|J (BX' 0)<|bdP hr fun y1 y2 hq1 hr=>J g<|J (CB' [] [] (j0s (m:=m) hq1))<|J (gn 12)<|ifE hr ?_ ?_<;>intro h1 hr
 refine J (gn 8)<|J (lenA 1 0)<|fun hl1=>bdE hr fun q2 hqq2 hr=>q0b hqq2 hl1 1 (fun k1 _=>[(1,.pb 0 0),(6,dI (k1:Int))]) (fun k1 _=>[]) I (fun k1 xk1 sk1 ok1 hxk1 hr hltk1 hik1=>?_) fun k1 sk1 ek1 hltk1=>?_
 refine bdE hr fun y3 hy3 hr=>J g<|J (CB' [] [] (j5f (m:=m) hy3))<|J (gn 2)<|ifE hr ?_ ?_<;>intro h2 hr
 exact e
 exact e
 subst ek1
 refine J (gn 17) ?_
 refine AW.len (.box 0 0 rfl rfl) fun hl2=>?_
 refine bdE hr fun q3 hqq3 hr=>q0b hqq3 hl2 1 (fun k2 _=>[(1,.pb 0 0),(7,dI (k2:Int))]) (fun k2 _=>[]) I (fun k2 xk2 sk2 ok2 hxk2 hr hltk2 hik2=>?_) fun k2 sk2 ek2 hltk2=>?_
 refine bdE hr fun y4 hy4 hr=>J g<|J (CB' [] [] (z8n (m:=m) hy4))<|J (gn 2)<|ifE hr ?_ ?_<;>intro h3 hr
 exact e
 exact e
 subst ek2
 exact e
 exact e
theorem j5g {m:Md}{a0:Gm_}{r:Bool}(hr:z3t a0=some r):Ok Tryz.prog 35 [Gm_.x m a0] [] (dB r) []:=by
 refine OE Tryz.func35 fun S hS=>?_
 unfold z3t at hr
 refine J g<|J (BX' 0)<|bdP hr fun y1 y2 hq1 hr=>J g<|J (CB' [] [] (z4m (m:=m) hq1))<|e
theorem j1V {m:Md}{a0:(List (List Rl_))}{r:(List Int)}(hr:z1o a0=some r):Ok Tryz.prog 55 [.d m (.sl 1 (a0.map (fun (l:List Rl_)=>A.D.sl 2 (l.map Rl_.D))))] [] (.ref 0 none) [.row .fz 1 (r.map (A.D.i .i64))]:=by
 refine OE Tryz.func55 fun S hS=>?_
 unfold z1o at hr
 refine J g<|J (L0' 0 (A.D.i .i64))<|J (gn 8)<|J (lenT 0)<|fun hl1=>bdE hr fun s1 hqq1 hr=>q0d hqq1 hl1 1 (fun k1 s1=>[(0,.d m (.sl 1 (a0.map (fun (l:List Rl_)=>A.D.sl 2 (l.map Rl_.D))))),(3,.ref 0 none),(4,dI (k1:Int))]) (fun k1 s1=>[(0,.row .fz 1 (s1.map (A.D.i .i64)))]) I (fun k1 xk1 sk1 ok1 hxk1 hr hltk1=>?_) fun k1 hltk1=>?_
 obtain⟨s1,rfl⟩:∃ y,y=sk1:=⟨_,rfl⟩
 refine J g<|J (LIR' 1 (m:=.fz) (f:=(A.D.i .i64)) (xs:=([(xk1.length:Int)]:List Int)))<|ggE hr fun g1 hr=>J (z0u (f:=(A.D.i .i64)) 2 (fun _=>rfl) 8 g1)<|e
 exact e
theorem j0v {m:Md}{a0:Gm_}{a1:Rule}{a2:(List Int)}{r:(List (List Int))}(hr:z0j a0 a1 a2=some r):Ok Tryz.prog 54 [Gm_.y m a0,Rule.x m a1,.d m (.sl 1 (a2.map (A.D.i .i64)))] [] (.ref 0 none) [.row .fz 1 (r.map (fun (l:List Int)=>A.D.sl 1 (l.map (A.D.i .i64))))]:=by
 refine OE Tryz.func54 fun S hS=>?_
 unfold z0j at hr
 refine J g<|J (BX' 0)<|J (BX' 1)<|J g<|J (L0' 2 (A.D.i .i64)) ?_
 refine J (q0p 2 rfl)<|J (LIR' 3 (m:=.fz) (f:=(fun (l:List Int)=>A.D.sl 1 (l.map (A.D.i .i64)))) (xs:=[[]]))<|J (gn 8)<|J (lenA 2 1)<|fun hl1=>bdE hr fun s1 hqq1 hr=>q0d hqq1 hl1 4 (fun k1 s1=>[(2,.d m (.sl 1 (a2.map (A.D.i .i64)))),(3,.pb 0 0),(4,.pb 1 0),(7,.ref 3 none),(8,dI (k1:Int))]) (fun k1 s1=>[(2,.none),(3,.row .fz 1 (s1.map (fun (l:List Int)=>A.D.sl 1 (l.map (A.D.i .i64)))))]) I (fun k1 xk1 sk1 ok1 hxk1 hr hltk1=>?_) fun k1 hltk1=>?_
 obtain⟨s1,rfl⟩:∃ y,y=sk1:=⟨_,rfl⟩
 refine J g<|J (L0' 4 (fun (l:List Int)=>A.D.sl 1 (l.map (A.D.i .i64))))<|bdE hr fun y1 hy1 hr=>J g<|J (CB' [] [] (z4Y (m:=m) hy1))<|bdE hr fun y2 hy2 hr=>J (CB' [] [] (z4X hy2))<|ggE hr fun g1 hr=>bdE hr fun x1 hx1 hr=>J (gn 10)<|J (lenR 3)<|fun hl2=>bdE hr fun s2 hqq2 hr=>q0d hqq2 hl2 5 (fun k2 s2=>[(2,.d m (.sl 1 (a2.map (A.D.i .i64)))),(3,.pb 0 0),(4,.pb 1 0),(7,.ref 3 none),(8,dI (k1:Int)),(9,.ref 4 none),(10,dI x1),(11,dI (k2:Int))]) (fun k2 s2=>[(4,.row .fz 1 (s2.map (fun (l:List Int)=>A.D.sl 1 (l.map (A.D.i .i64)))))]) I (fun k2 xk2 sk2 ok2 hxk2 hr hltk2=>?_) fun k2 hltk2=>?_
 obtain⟨s2,rfl⟩:∃ y,y=sk2:=⟨_,rfl⟩
 refine J (gn 17)<|J (rngT 10)<|fun hl3=>bdE hr fun s3 hqq3 hr=>q0k hqq3 5 (fun k3 s3=>[(2,.d m (.sl 1 (a2.map (A.D.i .i64)))),(3,.pb 0 0),(4,.pb 1 0),(7,.ref 3 none),(8,dI (k1:Int)),(9,.ref 4 none),(10,dI x1),(11,dI (k2:Int)),(12,dI (k3:Int))]) (fun k3 s3=>[(4,.row .fz 1 (s3.map (fun (l:List Int)=>A.D.sl 1 (l.map (A.D.i .i64)))))]) I (fun k3 sk3 ok3 hr hltk3=>?_) ?_
 obtain⟨s3,rfl⟩:∃ y,y=sk3:=⟨_,rfl⟩
 refine J g<|J (L0' 5 (A.D.i .i64))<|ggE hr fun g2 hr=>J g<|J (j1K (f:=(A.D.i .i64)) 6 8 (fun _=>rfl) g2)<|J g<|J (LIR' 7 (m:=.fz) (f:=(A.D.i .i64)) (xs:=([(k3:Int)]:List Int)))<|ggE hr fun g3 hr=>J (z0u (f:=(A.D.i .i64)) 8 (fun _=>rfl) 8 g3) ?_
 refine J (q0p 8 rfl)<|J (LIR' 9 (m:=.fz) (f:=(fun (l:List Int)=>A.D.sl 1 (l.map (A.D.i .i64)))) (xs:=[(xk2++[(k3:Int)])]))<|ggE hr fun g4 hr=>J (AP1' 10 .fz 24 g4)<|J g<|E
 exact e
 exact e
 exact e
theorem j5h {m:Md}{a0:Gm_}{a1:Rule}{a2:(List (List Rl_))}{a3:(List Int)}{r:(List Rl_)}(hr:z3u a0 a1 a2 a3=some r):Ok Tryz.prog 57 [Gm_.y m a0,Rule.x m a1,.d m (.sl 1 (a2.map (fun (l:List Rl_)=>A.D.sl 2 (l.map Rl_.D)))),.d m (.sl 1 (a3.map (A.D.i .i64)))] [] (.ref 0 none) [.row m 2 (r.map Rl_.D)]:=by
 refine OE Tryz.func57 fun S hS=>?_
 unfold z3u at hr
 refine J g<|J (BX' 0)<|J (BX' 1)<|J g<|J (L0' 2 Rl_.D)<|J (gn 8)<|J (lenT 3)<|fun hl1=>bdE hr fun s1 hqq1 hr=>?_
 refine q0d hqq1 hl1 3 (fun k1 s1=>[(2,.d m (.sl 1 (a2.map (fun (l:List Rl_)=>A.D.sl 2 (l.map Rl_.D))))),(3,.d m (.sl 1 (a3.map (A.D.i .i64)))),(4,.pb 0 0),(5,.pb 1 0),(9,.ref 2 none),(10,dI (k1:Int))]) (fun k1 s1=>[(2,.row m 2 (s1.map Rl_.D))]) (GH.trans (q0J (r:=2) m rfl) I) (fun k1 xk1 sk1 ok1 hxk1 hr hltk1=>?_) fun k1 hltk1=>?_
 obtain⟨s1,rfl⟩:∃ y,y=sk1:=⟨_,rfl⟩
 refine bdE hr fun x1 hx1 hr=>bdE hr fun y1 hy1 hr=>J g<|J (CB' [] [] (z4Y (m:=m) hy1))<|bdE hr fun y2 hy2 hr=>J (CB' [] [] (z4X hy2))<|ggE hr fun g1 hr=>bdE hr fun x2 hx2 hr=>ggE hr fun g2 hr=>bdE hr fun x3 hx3 hr=>J g ?_
 refine J (j4Q 3 (m:=m) (f:=Rl_.D) [x3] rfl)<|ggE hr fun g3 hr=>J (AP1' 4 m 32 g3)<|J (q1f .refl)<|J g<|E
 exact e
theorem z2h {m:Md}{a0:Gm_}{a1:ByteArray}{r:(List At_)}(hr:q5B a0 a1=some r):Ok Tryz.prog 46 [Gm_.y m a0,dS a1] [] (.ref 0 none) [.row .fz 4 (r.map At_.D)]:=by
 refine OE Tryz.func46 fun S hS=>?_
 unfold q5B at hr
 refine J g<|J (BX' 0)<|J g<|J (L0' 1 At_.D)<|bdP hr fun y1 y2 hq1 hr=>J g<|J (CB' [(0,2)] [] (q6P (m:=m) hq1))<|J g<|J (NV' 3)<|J (gn 9)<|J (lenR 2)<|fun hl1=>bdE hr fun s1 hqq2 hr=>q0d hqq2 hl1 4 (fun k1 s1=>[(5,.ref 1 none),(6,.pb 3 0),(8,dI (k1:Int))]) (fun k1 s1=>[(1,.row .fz 4 (s1.map At_.D))]) I (fun k1 xk1 sk1 ok1 hxk1 hr hltk1=>?_) fun k1 hltk1=>?_
 obtain⟨s1,rfl⟩:∃ y,y=sk1:=⟨_,rfl⟩
 refine bdE hr fun s2 hqq3 hr=>J (gn 12)<|q0e 4 [(5,.ref 1 none),(6,.pb 3 0),(8,dI (k1:Int))] [(1,.row .fz 4 (s2.map At_.D))] ?_ ?_
 replace hr:=hqq3
 refine J (gn 10)<|ifE hr ?_ ?_<;>intro h1 hr
 refine J g<|J (LIR' 4 (m:=.fz) (f:=At_.D) (xs:=[xk1]))<|ggE hr fun g1 hr=>J (z0u (f:=At_.D) 5 (fun _=>rfl) 40 g1)<|e
 refine J (gn 10)<|ifE hr ?_ ?_<;>intro h2 hr
 refine J g<|J (LIR' 4 (m:=.fz) (f:=At_.D) (xs:=[xk1]))<|ggE hr fun g2 hr=>J (z0u (f:=At_.D) 5 (fun _=>rfl) 40 g2)<|e
 exact e
 exact e
 exact e
theorem z0L {m:Md}{a0:Gm_}{a1:Rule}{r:(List Oc)}(hr:q5J a0 a1=some r):Ok Tryz.prog 107 [Gm_.y m a0,Rule.x m a1] [] (.ref 0 none) [.row .fz 2 (r.map Oc.D)]:=by
 refine OE Tryz.func107 fun S hS=>?_
 unfold q5J at hr
 refine J g<|J (BX' 0)<|J (BX' 1)<|J g<|J (L0' 2 Oc.D)<|bdE hr fun s1 hqq1 hr=>J (gn 7)<|q0e 3 [(5,.ref 2 none)] [(2,.row .fz 2 (s1.map Oc.D))] ?_ ?_
 refine J g<|q0i hqq1 3 (fun (s2,s3)=>[(2,.pb 0 0),(3,.pb 1 0),(5,.ref 2 none),(6,dI s3)]) (fun (s2,s3)=>[(2,.row .fz 2 (s2.map Oc.D))]) I fun sk1 ok1 hr hik1=>?_
 obtain⟨s2,s3⟩:=sk1
 have hr:=hr
 refine J (gn 9)<|ifE hr ?_ ?_<;>intro h1 hr
 refine bdE hr fun y1 hy1 hr=>J g<|J (CB' [] [] (q7O (m:=m) hy1))<|bdE hr fun y2 hy2 hr=>J (CB' [(0,3)] [] (z2h (m:=m) hy2))<|J (gn 7)<|J (lenR 3)<|fun hl2=>bdE hr fun s4 hqq2 hr=>q0d hqq2 hl2 4 (fun k2 s4=>[(2,.pb 0 0),(3,.pb 1 0),(5,.ref 2 none),(6,dI s3),(7,.ref 3 none),(8,dI (k2:Int))]) (fun k2 s4=>[(2,.row .fz 2 (s4.map Oc.D))]) I (fun k2 xk2 sk2 ok2 hxk2 hr hltk2=>?_) fun k2 hltk2=>?_
 obtain⟨s4,rfl⟩:∃ y,y=sk2:=⟨_,rfl⟩
 refine J g<|J (LIR' 4 (m:=.fz) (f:=Oc.D) (xs:=[(⟨s3,xk2.Name⟩:Oc)]))<|ggE hr fun g1 hr=>J (z0u (f:=Oc.D) 5 (fun _=>rfl) 24 g1)<|e
 refine ggE hr fun g2 hr=>e
 refine J (gn 2) ?_
 cases hr
 cases hik1 _ rfl
 exact GH.trans (q0D (q:=0) [.d m (.sl 2 (a0.Symbols.map Symbol.D)),.u] (.cons .rfl (.cons .u .nil)) rfl) (q0g hS 3)
 exact e
theorem z3z {a0:Int}{r:Rl_}(hr:q4W a0=some r):Ok Tryz.prog 45 [dI a0] [] (.ag [dI r.N,.ref 0 none]) [.row .fz 1 (r.Rows.map (A.D.i .i64))]:=by
 refine OE Tryz.func45 fun S hS=>?_
 unfold q4W at hr
 refine J g<|J (NV' 0)<|bdE hr fun y1 hy1 hr=>J g<|J (CB' [] [] (q5K hy1))<|J (gn 2)<|ifE hr ?_ ?_<;>intro h1 hr
 refine ggE hr fun g1 hr=>J g<|J (MKR' 1 (f:=(A.D.i .i64)) (0:Int) g1.1 g1.2.1 g1.2.2)<|e
 refine J (gn 7) ?_
 refine J (q0c (q0j (q:=0) (c:=1) (r:=1) .fz 1 rfl rfl rfl))<|J g<|E
theorem z5Y {m:Md}{a0:(List Oc)}{a1:Oc}{r:Int}(hr:q7q a0 a1=some r):Ok Tryz.prog 161 [.d m (.sl 2 (a0.map Oc.D)),Oc.x .fz a1] [] (dI r) []:=by
 refine OE Tryz.func161 fun S hS=>?_
 unfold q7q at hr
 refine J g<|J (BX' 0)<|J (gn 8)<|J (lenT 0)<|fun hl1=>bdE hr fun q1 hqq1 hr=>q0b hqq1 hl1 1 (fun k1 _=>[(0,.d m (.sl 2 (a0.map Oc.D))),(3,.pb 0 0),(5,dI (k1:Int))]) (fun k1 _=>[]) I (fun k1 xk1 sk1 ok1 hxk1 hr hltk1 hik1=>?_) fun k1 sk1 ek1 hltk1=>?_
 refine J g ?_
 refine J (SQ' rfl rfl rfl rfl (q5U xk1 a1))<|J (gn 1)<|ifE hr ?_ ?_<;>intro h1 hr
 exact e
 exact e
 subst ek1
 exact e
theorem z9B {m:Md}{a0:Rl_}{r:Rl_}(hr:q8K a0=some r):Ok Tryz.prog 103 [Rl_.x m a0] [] (.ag [dI r.N,.ref 0 none]) [.row .fz 1 (r.Rows.map (A.D.i .i64))]:=by
 refine OE Tryz.func103 fun S hS=>?_
 unfold q8K at hr
 refine J g<|J (BX' 0)<|J (NV' 1)<|J g<|J (L0' 2 (A.D.i .i64))<|ggE hr fun g1 hr=>J g<|J (j1K (f:=(A.D.i .i64)) 3 8 (fun _=>rfl) g1)<|e
theorem q7Y {m:Md}{a0:Rl_}{r:Bool}(hr:q5C a0=some r):Ok Tryz.prog 104 [Rl_.x m a0] [] (dB r) []:=by
 refine OE Tryz.func104 fun S hS=>?_
 unfold q5C at hr
 refine J g<|J (BX' 0)<|bdE hr fun y1 hy1 hr=>J g<|J (CB' [] [] (q5K hy1))<|J (gn 1)<|ifE hr ?_ ?_<;>intro h1 hr
 refine J (gn 9)<|ifE hr ?_ ?_<;>intro h2 hr
 refine J (gn 8) ?_
 refine q1b (.ag 0 (.tmp 0 rfl) rfl) fun hl1=>?_
 refine bdE hr fun q1 hqq1 hr=>q0w hqq1 1 (fun k1 _=>[(1,.pb 0 0),(3,dI (k1:Int))]) (fun k1 _=>[]) I (fun k1 sk1 ok1 hr hltk1 hik1=>?_) fun sk1 ek1=>?_
 refine bdE hr fun x1 hx1 hr=>ggE hr fun g1 hr=>J g ?_
 refine J (CIU' g1 rfl)<|ggE hr fun g2 hr=>J (OB' _ (j7m g2))<|J (OB' _ (k2W (p:=(2 ^ a0.N.toNat)) (k:=1) (by decide)))<|bdE hr fun y2 hy2 hr=>J (CB' [] [] (q5K hy2))<|J (gn 2)<|ifE hr ?_ ?_<;>intro h3 hr
 exact e
 exact e
 subst ek1
 exact e
 exact e
 exact e
theorem z5Z {m:Md}{a0:Rl_}{a1:Int}{a2:Int}{r:Rl_}(hr:q6R a0 a1 a2=some r):Ok Tryz.prog 106 [Rl_.x m a0,dI a1,dI a2] [] (.ag [dI r.N,.ref 0 none]) [.row .fz 1 (r.Rows.map (A.D.i .i64))]:=by
 refine OE Tryz.func106 fun S hS=>?_
 unfold q6R at hr
 refine J g<|J (BX' 0)<|J (NV' 1)<|bdE hr fun y1 hy1 hr=>J g<|J (CB' [(0,2)] [] (z9B (m:=m) hy1))<|J (NV' 3)<|bdE hr fun y2 hy2 hr=>J g<|J (CB' [] [] (q7Y (m:=m) hy2))<|bdE hr fun s1 hqq1 hr=>q0a 7 [(1,dI a1),(2,dI a2),(3,.pb 0 0),(6,.pb 1 0),(7,.pb 3 0),(18,dB s1)] ?_ ?_
 replace hr:=hqq1
 refine ifE hr ?_ ?_<;>intro h1 hr
 refine ggE hr fun g1 hr=>bdE hr fun y3 hy3 hr=>J g<|J (CB' [] [] (q5K hy3))<|e
 exact e
 refine bdE hr fun s2 hqq2 hr=>q0a 7 [(1,dI a1),(2,dI a2),(6,.pb 1 0),(7,.pb 3 0),(25,dB s2)] ?_ ?_
 replace hr:=hqq2
 refine ifE hr ?_ ?_<;>intro h2 hr
 refine ggE hr fun g2 hr=>bdE hr fun y4 hy4 hr=>J g<|J (CB' [] [] (q5K hy4))<|e
 exact e
 refine J (gn 1)<|ifE hr ?_ ?_<;>intro h3 hr
 refine ggE hr fun g3 hr=>bdE hr fun x1 hx1 hr=>ggE hr fun g4 hr=>J g ?_
 refine J (CIU' g4 rfl)<|ggE hr fun g5 hr=>J (OB' _ (j7m g5))<|ggE hr fun g6 hr=>J (OB' _ (bOrI g6))<|J g<|J (SE' ((x1.toNat ||| ((2 ^ a2.toNat:Nat):Int).toNat:Nat):Int) hx1)<|J g<|E
 exact e
theorem z7w {m:Md}{a0:Gm_}{a1:Rule}{r:Rl_}(hr:q6A a0 a1=some r):Ok Tryz.prog 108 [Gm_.y m a0,Rule.x m a1] [] (.ag [dI r.N,.ref 0 none]) [.row .fz 1 (r.Rows.map (A.D.i .i64))]:=by
 refine OE Tryz.func108 fun S hS=>?_
 unfold q6A at hr
 refine J g<|J (BX' 0)<|J (BX' 1)<|J (NV' 2)<|bdE hr fun y1 hy1 hr=>J g<|J (CB' [(0,3)] [] (z0L (m:=m) hy1))<|bdE hr fun y2 hy2 hr=>J g<|J (CB' [(0,4)] [] (z3z hy2))<|J (NV' 5)<|bdP hr fun s1 s2 hqq1 hr=>J (gn 7)<|q0e 6 [(4,.pb 2 0),(6,.pb 5 0)] [(4,.row .fz 1 (s1.map (A.D.i .i64))),(5,.box [dI s2,.ref 4 none])] ?_ ?_
 refine J g<|q0i hqq1 6 (fun (s3,s4,s5)=>[(3,.pb 1 0),(4,.pb 2 0),(5,.ref 3 none),(6,.pb 5 0),(7,dI s3)]) (fun (s3,s4,s5)=>[(4,.row .fz 1 (s4.map (A.D.i .i64))),(5,.box [dI s5,.ref 4 none])]) I fun sk1 ok1 hr hik1=>?_
 obtain⟨s3,s4,s5⟩:=sk1
 have hr:=hr
 refine J (gn 7)<|ifE hr ?_ ?_<;>intro h1 hr
 refine J (gn 6)<|ifE hr ?_ ?_<;>intro h2 hr
 refine bdP hr fun s6 s7 hqq2 hr=>J (gn 3)<|q0e 6 [(3,.pb 1 0),(4,.pb 2 0),(5,.ref 3 none),(6,.pb 5 0),(7,dI s3),(23,.pb 5 0),(24,dI s5),(25,dB (decide (0<s5)))] [(4,.row .fz 1 (s6.map (A.D.i .i64))),(5,.box [dI s7,.ref 4 none])] ?_ ?_
 replace hr:=hqq2
 refine ggE hr fun g1 hr=>bdE hr fun x1 hx1 hr=>bdP hr fun y3 y4 hq3 hr=>J g<|J (CB' [(0,6)] [] (z4l (m:=m) hq3))<|J g<|J (NV' 7)<|J (gn 9)<|ifE hr ?_ ?_<;>intro h3 hr
 refine J (gn 5) ?_
 refine J (q0p 6 rfl)<|bdE hr fun y5 hy5 hr=>J (CB' [] [] (z3y (m:=.fz) hy5))<|J (gn 7)<|J (lenT 10)<|fun hl2=>bdP hr fun s8 s9 hqq4 hr=>q0d hqq4 hl2 8 (fun k2 (s8,s9)=>[(3,.pb 1 0),(4,.pb 2 0),(5,.ref 3 none),(6,.pb 5 0),(7,dI s3),(10,.d .fz (.sl 2 (y5.map Oc.D))),(11,dI (k2:Int)),(23,.pb 5 0),(24,dI s5),(25,dB (decide (0<s5)))]) (fun k2 (s8,s9)=>[(4,.row .fz 1 (s8.map (A.D.i .i64))),(5,.box [dI s9,.ref 4 none]),(6,.none)]) I (fun k2 xk2 sk2 ok2 hxk2 hr hltk2=>?_) fun k2 hltk2=>?_
 obtain⟨s8,s9⟩:=sk2
 refine bdE hr fun y6 hy6 hr=>J g<|J (CB' [] [3] (z5Y (m:=.bo) hy6))<|bdE hr fun y7 hy7 hr=>J g<|J (CB' [(0,8)] [4] (z5Z (m:=.bo) hy7))<|e
 exact e
 exact e
 refine ggE hr fun g2 hr=>e
 refine J (gn 2) ?_
 cases hr
 cases hik1 _ rfl
 exact GH.trans (q0D (q:=0) [.d m (.sl 2 (a0.Symbols.map Symbol.D)),.u] (.cons .rfl (.cons .u .nil)) rfl) (q0g hS 6)
 refine J (gn 8) ?_
 cases hr
 cases hik1 _ rfl
 exact GH.trans (q0D (q:=0) [.d m (.sl 2 (a0.Symbols.map Symbol.D)),.u] (.cons .rfl (.cons .u .nil)) rfl) (q0g hS 6)
 exact e
theorem z6a {m:Md}{a0:Gm_}{a1:Rule}{a2:Int}{r:(List Int)}(hr:q6c a0 a1 a2=some r):Ok Tryz.prog 109 [Gm_.y m a0,Rule.x m a1,dI a2] [] (.ref 0 none) [.row .fz 1 (r.map (A.D.i .i64))]:=by
 refine OE Tryz.func109 fun S hS=>?_
 unfold q6c at hr
 refine J g<|J (BX' 0)<|J (BX' 1)<|J g<|J (L0' 2 (A.D.i .i64))<|bdE hr fun y1 hy1 hr=>J g<|J (CB' [(0,3)] [] (z0L (m:=m) hy1))<|J (gn 8)<|J (lenR 3)<|fun hl1=>bdE hr fun s1 hqq1 hr=>q0d hqq1 hl1 4 (fun k1 s1=>[(2,dI a2),(7,.ref 2 none),(8,.ref 3 none),(9,dI (k1:Int))]) (fun k1 s1=>[(2,.row .fz 1 (s1.map (A.D.i .i64)))]) I (fun k1 xk1 sk1 ok1 hxk1 hr hltk1=>?_) fun k1 hltk1=>?_
 obtain⟨s1,rfl⟩:∃ y,y=sk1:=⟨_,rfl⟩
 refine bdE hr fun s2 hqq2 hr=>J (gn 11)<|q0e 4 [(2,dI a2),(7,.ref 2 none),(8,.ref 3 none),(9,dI (k1:Int))] [(2,.row .fz 1 (s2.map (A.D.i .i64)))] ?_ ?_
 replace hr:=hqq2
 refine J (gn 11)<|ifE hr ?_ ?_<;>intro h1 hr
 refine J g<|J (LIR' 4 (m:=.fz) (f:=(A.D.i .i64)) (xs:=([(k1:Int)]:List Int)))<|ggE hr fun g1 hr=>J (z0u (f:=(A.D.i .i64)) 5 (fun _=>rfl) 8 g1)<|e
 exact e
 exact e
 exact e
theorem z9C {m:Md}{a0:Rl_}{a1:Int}{a2:Int}{r:Bool}(hr:q9B a0 a1 a2=some r):Ok Tryz.prog 105 [Rl_.x m a0,dI a1,dI a2] [] (dB r) []:=by
 refine OE Tryz.func105 fun S hS=>?_
 unfold q9B at hr
 refine J g<|J (BX' 0)<|bdE hr fun y1 hy1 hr=>J g<|J (CB' [] [] (q7Y (m:=m) hy1))<|bdE hr fun s1 hqq1 hr=>q0a 7 [(1,dI a1),(2,dI a2),(3,.pb 0 0),(6,dB false),(15,dB s1)] ?_ ?_
 replace hr:=hqq1
 refine ifE hr ?_ ?_<;>intro h1 hr
 refine ggE hr fun g1 hr=>bdE hr fun y2 hy2 hr=>J g<|J (CB' [] [] (q5K hy2))<|e
 exact e
 refine bdE hr fun s2 hqq2 hr=>q0a 7 [(1,dI a1),(2,dI a2),(3,.pb 0 0),(6,dB false),(22,dB s2)] ?_ ?_
 replace hr:=hqq2
 refine ifE hr ?_ ?_<;>intro h2 hr
 refine ggE hr fun g2 hr=>bdE hr fun y3 hy3 hr=>J g<|J (CB' [] [] (q5K hy3))<|e
 exact e
 refine bdE hr fun s3 hqq3 hr=>q0a 12 [(6,dB false),(34,dB s3)] ?_ ?_
 replace hr:=hqq3
 refine ifE hr ?_ ?_<;>intro h3 hr
 refine ggE hr fun g3 hr=>bdE hr fun x1 hx1 hr=>ggE hr fun g4 hr=>J g ?_
 refine J (CIU' g4 rfl)<|ggE hr fun g5 hr=>J (OB' _ (k0U g5))<|ggE hr fun g6 hr=>J (OB' _ (k0V g6))<|J g<|E
 exact e
 exact e
theorem z7x {m:Md}{a0:Rl_}{r:Rl_}(hr:q8j a0=some r):Ok Tryz.prog 110 [Rl_.x m a0] [] (.ag [dI r.N,.ref 0 none]) [.row .fz 1 (r.Rows.map (A.D.i .i64))]:=by
 refine OE Tryz.func110 fun S hS=>?_
 unfold q8j at hr
 refine J g<|J (BX' 0)<|J (NV' 1)<|bdE hr fun y1 hy1 hr=>J g<|J (CB' [(0,2)] [] (z9B (m:=m) hy1))<|J (NV' 3)<|bdE hr fun y2 hy2 hr=>J g<|J (CB' [] [] (q7Y (m:=m) hy2))<|J (gn 2)<|ifE hr ?_ ?_<;>intro h1 hr
 refine J (gn 8) ?_
 refine q1b (.ag 0 (.tmp 0 rfl) rfl) fun hl1=>?_
 refine bdE hr fun s1 hqq1 hr=>q0k hqq1 4 (fun k1 s1=>[(1,.pb 0 0),(2,.pb 1 0),(3,.pb 3 0),(4,dI (k1:Int))]) (fun k1 s1=>[(2,.row .fz 1 (s1.map (A.D.i .i64)))]) I (fun k1 sk1 ok1 hr hltk1=>?_) ?_
 obtain⟨s1,rfl⟩:∃ y,y=sk1:=⟨_,rfl⟩
 refine J (gn 17)<|J (rngT 14)<|fun hl2=>bdE hr fun s2 hqq2 hr=>q0k hqq2 4 (fun k2 s2=>[(1,.pb 0 0),(2,.pb 1 0),(3,.pb 3 0),(4,dI (k1:Int)),(5,dI (k2:Int))]) (fun k2 s2=>[(2,.row .fz 1 (s2.map (A.D.i .i64)))]) I (fun k2 sk2 ok2 hr hltk2=>?_) ?_
 obtain⟨s2,rfl⟩:∃ y,y=sk2:=⟨_,rfl⟩
 refine bdE hr fun s3 hqq3 hr=>J (gn 11)<|q0e 4 [(1,.pb 0 0),(2,.pb 1 0),(3,.pb 3 0),(4,dI (k1:Int)),(5,dI (k2:Int))] [(2,.row .fz 1 (s3.map (A.D.i .i64)))] ?_ ?_
 replace hr:=hqq3
 refine bdE hr fun x1 hx1 hr=>J g ?_
 refine J (CIU' (Int.natCast_nonneg _) rfl)<|ggE hr fun g1 hr=>J (OB' _ (k0U g1))<|ggE hr fun g2 hr=>J (OB' _ (k0V g2))<|J (gn 2)<|ifE hr ?_ ?_<;>intro h2 hr
 refine bdE hr fun x2 hx2 hr=>ggE hr fun g3 hr=>J g<|J (OB' _ (bOrI g3))<|J g<|J (SE' ((x1.toNat ||| x2.toNat:Nat):Int) hx1)<|e
 exact e
 exact e
 exact e
 exact e
 exact e
theorem z9D {m:Md}{a0:Gm_}{a1:Rule}{a2:(List Rl_)}{r:Rl_}(hr:q9k a0 a1 a2=some r):Ok Tryz.prog 50 [Gm_.y m a0,Rule.x m a1,.d m (.sl 2 (a2.map Rl_.D))] [] (.ag [dI r.N,.ref 0 none]) [.row .fz 1 (r.Rows.map (A.D.i .i64))]:=by
 refine OE Tryz.func50 fun S hS=>?_
 unfold q9k at hr
 refine J g<|J (BX' 0)<|J (BX' 1)<|J (NV' 2)<|bdE hr fun y1 hy1 hr=>J g<|J (CB' [(0,3)] [] (z0L (m:=m) hy1))<|bdE hr fun s1 hqq1 hr=>J (gn 11)<|q0a 5 [(2,.d m (.sl 2 (a2.map Rl_.D))),(3,.pb 0 0),(4,.pb 1 0),(6,.pb 2 0),(26,dB s1)] ?_ ?_
 replace hr:=hqq1
 refine ifE hr ?_ ?_<;>intro h1 hr
 exact e
 exact e
 refine J (gn 1)<|ifE hr ?_ ?_<;>intro h2 hr
 refine J (gn 7) ?_
 refine J (q0c (q0j (q:=2) (c:=1) (r:=4) .fz 1 rfl rfl rfl))<|J g<|E
 refine bdE hr fun y2 hy2 hr=>J g<|J (CB' [(0,4)] [] (z7w (m:=m) hy2))<|J (NV' 5)<|J (gn 8)<|J (lenT 2)<|fun hl1=>bdE hr fun q2 hqq2 hr=>q0b hqq2 hl1 6 (fun k1 (s2,s3)=>[(2,.d m (.sl 2 (a2.map Rl_.D))),(3,.pb 0 0),(4,.pb 1 0),(6,.pb 2 0),(8,.pb 5 0),(9,dI (k1:Int))]) (fun k1 (s2,s3)=>[(4,.row .fz 1 (s2.map (A.D.i .i64))),(5,.box [dI s3,.ref 4 none])]) I (fun k1 xk1 sk1 ok1 hxk1 hr hltk1 hik1=>?_) fun k1 sk1 ek1 hltk1=>?_
 obtain⟨s2,s3⟩:=sk1
 refine bdE hr fun y3 hy3 hr=>J g<|J (CB' [(0,6)] [] (z6a (m:=m) hy3))<|bdE hr fun y4 hy4 hr=>J g<|J (CB' [] [] (q7Y (m:=m) hy4))<|J (gn 1)<|ifE hr ?_ ?_<;>intro h3 hr
 refine J (gn 11)<|ifE hr ?_ ?_<;>intro h4 hr
 refine J (gn 7)<|J (lenR 6)<|fun hl2=>bdP hr fun s4 s5 hqq3 hr=>q0d hqq3 hl2 7 (fun k2 (s4,s5)=>[(2,.d m (.sl 2 (a2.map Rl_.D))),(3,.pb 0 0),(4,.pb 1 0),(6,.pb 2 0),(8,.pb 5 0),(9,dI (k1:Int)),(10,.ref 6 none),(11,dI (k2:Int)),(49,.d m (.sl 2 (a2.map Rl_.D))),(50,dI (k1:Int)),(51,.pf m (Rl_.l xk1)),(52,.pf m (Rl_.l xk1)),(53,dI xk1.N),(54,.ref 6 none),(55,dI (y3.length:Int)),(56,dB (!(decide (xk1.N=(y3.length:Int)))))]) (fun k2 (s4,s5)=>[(4,.row .fz 1 (s4.map (A.D.i .i64))),(5,.box [dI s5,.ref 4 none])]) I (fun k2 xk2 sk2 ok2 hxk2 hr hltk2=>?_) fun k2 hltk2=>?_
 obtain⟨s4,s5⟩:=sk2
 refine J (gn 17)<|J (lenR 6)<|fun hl3=>bdP hr fun s6 s7 hqq4 hr=>q0d hqq4 hl3 7 (fun k3 (s6,s7)=>[(2,.d m (.sl 2 (a2.map Rl_.D))),(3,.pb 0 0),(4,.pb 1 0),(6,.pb 2 0),(8,.pb 5 0),(9,dI (k1:Int)),(10,.ref 6 none),(11,dI (k2:Int)),(12,dI (k3:Int)),(49,.d m (.sl 2 (a2.map Rl_.D))),(50,dI (k1:Int)),(51,.pf m (Rl_.l xk1)),(52,.pf m (Rl_.l xk1)),(53,dI xk1.N),(54,.ref 6 none),(55,dI (y3.length:Int)),(56,dB (!(decide (xk1.N=(y3.length:Int)))))]) (fun k3 (s6,s7)=>[(4,.row .fz 1 (s6.map (A.D.i .i64))),(5,.box [dI s7,.ref 4 none])]) I (fun k3 xk3 sk3 ok3 hxk3 hr hltk3=>?_) fun k3 hltk3=>?_
 obtain⟨s6,s7⟩:=sk3
 refine bdP hr fun s8 s9 hqq5 hr=>J (gn 11)<|q0e 7 [(2,.d m (.sl 2 (a2.map Rl_.D))),(3,.pb 0 0),(4,.pb 1 0),(6,.pb 2 0),(8,.pb 5 0),(9,dI (k1:Int)),(10,.ref 6 none),(11,dI (k2:Int)),(12,dI (k3:Int)),(49,.d m (.sl 2 (a2.map Rl_.D))),(50,dI (k1:Int)),(51,.pf m (Rl_.l xk1)),(52,.pf m (Rl_.l xk1)),(53,dI xk1.N),(54,.ref 6 none),(55,dI (y3.length:Int)),(56,dB (!(decide (xk1.N=(y3.length:Int)))))] [(4,.row .fz 1 (s8.map (A.D.i .i64))),(5,.box [dI s9,.ref 4 none])] ?_ ?_
 replace hr:=hqq5
 refine bdE hr fun y5 hy5 hr=>J g<|J (CB' [] [] (z9C (m:=m) hy5))<|J (gn 1)<|ifE hr ?_ ?_<;>intro h5 hr
 refine bdE hr fun y6 hy6 hr=>J g<|J (CB' [(0,7)] [4] (z5Z (m:=.bo) hy6))<|e
 exact e
 exact e
 exact e
 exact e
 refine J (gn 7) ?_
 refine J (q0c (q0j (q:=2) (c:=1) (r:=7) .fz 1 rfl rfl rfl))<|J g<|E
 refine J (gn 18) ?_
 refine J (q0c (q0j (q:=2) (c:=1) (r:=7) .fz 1 rfl rfl rfl))<|J g<|E
 subst ek1
 obtain⟨s2,s3⟩:=sk1
 refine bdE hr fun y7 hy7 hr=>J g<|J (CB' [(0,6)] [4] (z7x (m:=.bo) hy7))<|e
theorem j1W {m:Md}{a0:Gm_}{a1:Rule}{a2:Rl_}{r:Rl_}(hr:q7r a0 a1 a2=some r):Ok Tryz.prog 49 [Gm_.y m a0,Rule.x m a1,Rl_.x m a2] [] (.ag [dI r.N,.ref 0 none]) [.row .fz 1 (r.Rows.map (A.D.i .i64))]:=by
 refine OE Tryz.func49 fun S hS=>?_
 unfold q7r at hr
 refine J g<|J (BX' 0)<|J (BX' 1)<|J (BX' 2)<|J (NV' 3)<|bdE hr fun y1 hy1 hr=>J g<|J (CB' [(0,4)] [] (z2h (m:=m) hy1))<|bdE hr fun y2 hy2 hr=>J g<|J (CB' [(0,5)] [] (z3z hy2))<|J (NV' 6)<|J (gn 8)<|J (lenR 4)<|fun hl1=>bdP hr fun s1 s2 hqq1 hr=>q0d hqq1 hl1 7 (fun k1 (s1,s2)=>[(5,.pb 2 0),(6,.pb 3 0),(7,.ref 4 none),(8,.pb 6 0),(9,dI (k1:Int))]) (fun k1 (s1,s2)=>[(5,.row .fz 1 (s1.map (A.D.i .i64))),(6,.box [dI s2,.ref 5 none])]) I (fun k1 xk1 sk1 ok1 hxk1 hr hltk1=>?_) fun k1 hltk1=>?_
 obtain⟨s1,s2⟩:=sk1
 refine J (gn 17)<|J (lenR 4)<|fun hl2=>bdP hr fun s3 s4 hqq2 hr=>q0d hqq2 hl2 7 (fun k2 (s3,s4)=>[(5,.pb 2 0),(6,.pb 3 0),(7,.ref 4 none),(8,.pb 6 0),(9,dI (k1:Int)),(10,dI (k2:Int))]) (fun k2 (s3,s4)=>[(5,.row .fz 1 (s3.map (A.D.i .i64))),(6,.box [dI s4,.ref 5 none])]) I (fun k2 xk2 sk2 ok2 hxk2 hr hltk2=>?_) fun k2 hltk2=>?_
 obtain⟨s3,s4⟩:=sk2
 refine bdP hr fun s5 s6 hqq3 hr=>J (gn 11)<|q0e 7 [(5,.pb 2 0),(6,.pb 3 0),(7,.ref 4 none),(8,.pb 6 0),(9,dI (k1:Int)),(10,dI (k2:Int))] [(5,.row .fz 1 (s5.map (A.D.i .i64))),(6,.box [dI s6,.ref 5 none])] ?_ ?_
 replace hr:=hqq3
 refine bdE hr fun s7 hqq4 hr=>J (gn 9)<|q0a 8 [(5,.pb 2 0),(6,.pb 3 0),(7,.ref 4 none),(8,.pb 6 0),(9,dI (k1:Int)),(10,dI (k2:Int)),(43,dB s7)] ?_ ?_
 replace hr:=hqq4
 refine ifE hr ?_ ?_<;>intro h1 hr
 exact e
 exact e
 refine bdE hr fun s8 hqq5 hr=>q0a 6 [(5,.pb 2 0),(6,.pb 3 0),(7,.ref 4 none),(8,.pb 6 0),(9,dI (k1:Int)),(10,dI (k2:Int)),(49,dB s8)] ?_ ?_
 replace hr:=hqq5
 refine ifE hr ?_ ?_<;>intro h2 hr
 refine bdE hr fun y3 hy3 hr=>J g<|J (CB' [] [] (z9C (m:=m) hy3))<|e
 exact e
 refine J (gn 1)<|ifE hr ?_ ?_<;>intro h3 hr
 refine bdE hr fun y4 hy4 hr=>J g<|J (CB' [(0,7)] [5] (z5Z (m:=.bo) hy4))<|e
 exact e
 exact e
 exact e
 exact e
theorem j7H {m:Md}{a0:(List Int)}{a1:(List Int)}{r:Bool}(hr:z6O a0 a1=some r):Ok Tryz.prog 38 [.d m (.sl 1 (a0.map (A.D.i .i64))),.d m (.sl 1 (a1.map (A.D.i .i64)))] [] (dB r) []:=by
 refine OE Tryz.func38 fun S hS=>?_
 unfold z6O at hr
 refine J (gn 13)<|ifE hr ?_ ?_<;>intro h1 hr
 refine J (gn 8)<|J (lenT 0)<|fun hl1=>bdE hr fun q1 hqq1 hr=>q0b hqq1 hl1 0 (fun k1 _=>[(0,.d m (.sl 1 (a0.map (A.D.i .i64)))),(1,.d m (.sl 1 (a1.map (A.D.i .i64)))),(5,dI (k1:Int))]) (fun k1 _=>[]) I (fun k1 xk1 sk1 ok1 hxk1 hr hltk1 hik1=>?_) fun k1 sk1 ek1 hltk1=>?_
 refine bdE hr fun x1 hx1 hr=>J (gn 24)<|ifE hr ?_ ?_<;>intro h2 hr
 exact e
 exact e
 subst ek1
 exact e
 exact e
theorem z0M {m:Md}{a0:Rl_}{a1:Rl_}{r:Bool}(hr:q6B a0 a1=some r):Ok Tryz.prog 12 [Rl_.x m a0,Rl_.x m a1] [] (dB r) []:=by
 refine OE Tryz.func12 fun S hS=>?_
 unfold q6B at hr
 refine J g<|J (BX' 0)<|J (BX' 1)<|J (gn 9)<|ifE hr ?_ ?_<;>intro h1 hr
 refine bdE hr fun y1 hy1 hr=>J g<|J (CB' [] [] (j7H (m:=m) hy1))<|e
 exact e
theorem j7I {m:Md}{a0:(List Rl_)}{a1:Rl_}{r:Bool}(hr:z4W a0 a1=some r):Ok Tryz.prog 86 [.d m (.sl 2 (a0.map Rl_.D)),Rl_.x m a1] [] (dB r) []:=by
 refine OE Tryz.func86 fun S hS=>?_
 unfold z4W at hr
 refine J g<|J (BX' 0)<|J (gn 8)<|J (lenT 0)<|fun hl1=>bdE hr fun q1 hqq1 hr=>q0b hqq1 hl1 1 (fun k1 _=>[(0,.d m (.sl 2 (a0.map Rl_.D))),(3,.pb 0 0),(5,dI (k1:Int))]) (fun k1 _=>[]) I (fun k1 xk1 sk1 ok1 hxk1 hr hltk1 hik1=>?_) fun k1 sk1 ek1 hltk1=>?_
 refine bdE hr fun y1 hy1 hr=>J g<|J (CB' [] [] (z0M (m:=m) hy1))<|J (gn 1)<|ifE hr ?_ ?_<;>intro h1 hr
 exact e
 exact e
 subst ek1
 exact e
theorem j3H {m:Md}{a0:Gm_}{a1:(List (List Rl_))}{r:((List (List Rl_))×Bool)}(hr:z0K a0 a1=some r):Ok Tryz.prog 36 [Gm_.x m a0,.d .fz (.sl 1 (a1.map (fun (l:List Rl_)=>A.D.sl 2 (l.map Rl_.D))))] [] (.tu [.ref 0 none,dB r.2]) [.deep .fz 1 (r.1.map (fun (l:List Rl_)=>[Cell.o .fz 2 (l.map Rl_.D)])) []]:=by
 refine OE Tryz.func36 fun S hS=>?_
 unfold z0K at hr
 refine J g<|J (BX' 0)<|J g<|J (L0' 1 (fun (l:List Rl_)=>A.D.sl 2 (l.map Rl_.D)))<|q3Q 1 (fun (l:List Rl_)=>[Cell.o .fz 2 (l.map Rl_.D)]) ?_
 refine J (gn 8)<|J (lenT 1)<|fun hl1=>bdE hr fun s1 hqq1 hr=>q0d hqq1 hl1 2 (fun k1 s1=>[(1,.d .fz (.sl 1 (a1.map (fun (l:List Rl_)=>A.D.sl 2 (l.map Rl_.D))))),(2,.pb 0 0),(6,.ref 1 none),(7,dI (k1:Int))]) (fun k1 s1=>[(1,.deep .fz 1 (s1.map (fun (l:List Rl_)=>[Cell.o .fz 2 (l.map Rl_.D)])) [])]) I (fun k1 xk1 sk1 ok1 hxk1 hr hltk1=>?_) fun k1 hltk1=>?_
 obtain⟨s1,rfl⟩:∃ y,y=sk1:=⟨_,rfl⟩
 refine J g<|J (L0' 2 Rl_.D)<|ggE hr fun g1 hr=>J g<|J (APB' 3 .fz 32 g1)<|J (LID' (f:=(fun (l:List Rl_)=>[Cell.o .fz 2 (l.map Rl_.D)])) 4 xk1 [3])<|ggE hr fun g2 hr=>J (k0Z 5 24 g2)<|e
 refine J (gn 20) ?_
 refine AW.len (.box 0 1 rfl rfl) fun hl2=>?_
 refine bdP hr fun s2 s3 hqq2 hr=>q0d hqq2 hl2 2 (fun k2 (s2,s3)=>[(1,.d .fz (.sl 1 (a1.map (fun (l:List Rl_)=>A.D.sl 2 (l.map Rl_.D))))),(2,.pb 0 0),(6,.ref 1 none),(8,dB s3),(9,dI (k2:Int))]) (fun k2 (s2,s3)=>[(1,.deep .fz 1 (s2.map (fun (l:List Rl_)=>[Cell.o .fz 2 (l.map Rl_.D)])) [])]) I (fun k2 xk2 sk2 ok2 hxk2 hr hltk2=>?_) fun k2 hltk2=>?_
 obtain⟨s2,s3⟩:=sk2
 refine J g<|J (NV' 2)<|bdE hr fun y1 hy1 hr=>J g<|J (CB' [(0,3)] [] (j1V (m:=.fz) hy1))<|bdE hr fun y2 hy2 hr=>J (CB' [(0,4)] [3] (j0v (m:=.bo) hy2))<|bdE hr fun y3 hy3 hr=>J g<|J (CB' [] [] (z4Y (m:=m) hy3))<|J (gn 7)<|J (lenR 4)<|fun hl3=>bdP hr fun s4 s5 hqq3 hr=>q0d hqq3 hl3 5 (fun k3 (s4,s5)=>[(1,.d .fz (.sl 1 (a1.map (fun (l:List Rl_)=>A.D.sl 2 (l.map Rl_.D))))),(2,.pb 0 0),(6,.ref 1 none),(8,dB s5),(9,dI (k2:Int)),(10,.pb 2 0),(11,.ref 4 none),(12,dI y3),(13,dI (k3:Int))]) (fun k3 (s4,s5)=>[(1,.deep .fz 1 (s4.map (fun (l:List Rl_)=>[Cell.o .fz 2 (l.map Rl_.D)])) [])]) I (fun k3 xk3 sk3 ok3 hxk3 hr hltk3=>?_) fun k3 hltk3=>?_
 obtain⟨s4,s5⟩:=sk3
 refine bdP hr fun s6 s7 hqq4 hr=>J (gn 11)<|q0e 5 [(1,.d .fz (.sl 1 (a1.map (fun (l:List Rl_)=>A.D.sl 2 (l.map Rl_.D))))),(2,.pb 0 0),(6,.ref 1 none),(8,dB s6),(9,dI (k2:Int)),(10,.pb 2 0),(11,.ref 4 none),(12,dI y3),(13,dI (k3:Int))] [(1,.deep .fz 1 (s7.map (fun (l:List Rl_)=>[Cell.o .fz 2 (l.map Rl_.D)])) [])] ?_ ?_
 replace hr:=hqq4
 refine bdE hr fun y4 hy4 hr=>J g<|J (CB' [(0,5)] [] (j5h (m:=m) hy4))<|bdE hr fun y5 hy5 hr=>J (CB' [(0,6)] [5] (z9D (m:=.bo) hy5))<|bdE hr fun y6 hy6 hr=>J (CB' [(0,7)] [6] (j1W (m:=.bo) hy6))<|J (NV' 8)<|ggE hr fun g3 hr=>bdE hr fun x1 hx1 hr=>J (gn 2)<|J (q0v 1 y3.toNat 0 9 (q3Z hx1))<|J g<|J (IEd' g3 (q3X (q3Z hx1)))<|J (LPd' [(0,9)] (q3X (q3Z hx1)))<|bdE hr fun y7 hy7 hr=>J g<|J (CB' [] [9,7] (j7I (m:=.bo) hy7))<|J (gn 2)<|ifE hr ?_ ?_<;>intro h1 hr
 refine J (gn 2) ?_
 cases hr
 exact GH.trans (q0u 1 y3.toNat 0 9 (q3X (q3Z hx1))) (GH.trans (q0n 1 (he:=j4P (f:=(fun (l:List Rl_)=>[Cell.o .fz 2 (l.map Rl_.D)])) hx1 (by first|rfl|(simp only[List.set_set];rfl)))) (q0g hS 5))
 refine J (gn 1) ?_
 refine J (q2s 7 rfl)<|J g<|J (IEd' g3 (q3X (q3Z hx1)))<|J (LPd' [(0,9)] (q3X (q3Z hx1)))<|J g<|J (LIR' 10 (m:=.fz) (f:=Rl_.D) (xs:=[y6]))<|ggE hr fun g4 hr=>J (AP1' 11 .fz 32 g4)<|J (IEd' g3 (q3X (q3Z hx1)))<|J (SD' [.o .fz 2 ((x1++[y6]).map Rl_.D)] [11] (q3X (q3Z hx1)))<|J (gn 4) ?_
 cases hr
 exact GH.trans (q0n 1 (he:=eset (f:=(fun (l:List Rl_)=>[Cell.o .fz 2 (l.map Rl_.D)])) (x':=(x1++[y6])) (by first|rfl|(simp only[List.set_set];rfl)))) (q0g hS 5)
 exact e
 exact e
 exact e
theorem j1X {m:Md}{a0:Gm_}{r:((List (List Rl_))×Bool)}(hr:z2E a0=some r):Ok Tryz.prog 10 [Gm_.x m a0] [] (.tu [.d .fz (.sl 1 (r.1.map (fun (l:List Rl_)=>A.D.sl 2 (l.map Rl_.D)))),dB r.2]) []:=by
 refine OE Tryz.func10 fun S hS=>?_
 unfold z2E at hr
 refine J g<|J (BX' 0)<|bdE hr fun y1 hy1 hr=>J g<|J (CB' [] [] (j5g (m:=m) hy1))<|J (gn 2)<|ifE hr ?_ ?_<;>intro h1 hr
 refine ggE hr fun g1 hr=>J g<|MKW 1 (f:=(fun (l:List Rl_)=>[Cell.o .fz 2 (l.map Rl_.D)])) [] g1.1 g1.2.1 g1.2.2 ?_
 refine bdE hr fun q1 hqq1 hr=>J g<|q0i hqq1 2 (fun s1=>[(1,.pb 0 0),(4,.ref 1 none)]) (fun s1=>[(1,.deep .fz 1 (s1.map (fun (l:List Rl_)=>[Cell.o .fz 2 (l.map Rl_.D)])) [])]) I fun sk1 ok1 hr hik1=>?_
 obtain⟨s1,rfl⟩:∃ y,y=sk1:=⟨_,rfl⟩
 refine J (gn 5) ?_
 refine q2r 1 (fun (l:List Rl_)=>A.D.sl 2 (l.map Rl_.D)) (by exact fun _=>rfl) rfl ?_
 refine bdP hr fun y2 y3 hq2 hr=>J (CB' [(0,2)] [] (j3H (m:=m) hq2))<|J (gn 12)<|ifE hr ?_ ?_<;>intro h2 hr
 exact e
 exact e
 refine J g<|J (L0' 1 (fun (l:List Rl_)=>A.D.sl 2 (l.map Rl_.D)))<|q3Q 1 (fun (l:List Rl_)=>[Cell.o .fz 2 (l.map Rl_.D)]) ?_
 refine J (gn 4) ?_
 refine J (q0c (q0r 1 (fun (l:List Rl_)=>A.D.sl 2 (l.map Rl_.D)) (by exact fun _=>rfl) rfl))<|J g<|E
end Go.Proofs.YtomdlgffolbdkaaGreat
