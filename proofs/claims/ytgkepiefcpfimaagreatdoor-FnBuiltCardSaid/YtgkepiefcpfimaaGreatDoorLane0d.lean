/- What some functions of the program compute, as partial functions on plain data, and that they do; each lemma bears its conditions in its statement. -/
import Derived.Test.YtgkepiefcpfimaaGreatDoorLane0c
set_option linter.unusedVariables false
set_option linter.unusedSimpArgs false
set_option linter.ambiguousOpen false
set_option linter.unusedSectionVars false
set_option linter.unnecessarySimpa false
set_option maxRecDepth 100000
set_option maxHeartbeats 40000000
noncomputable section
open Int renaming natCast_nonneg→Dpz
namespace Go.Proofs.YtgkepiefcpfimaaGreatDoor
open Go Go.E Go.A
theorem j9n {m:Md}{a0:Gm_}{a1:List (List Ph_)}{a2:Rule}{r:((List Step)×Bool)}(hr:z4l a0 a1 a2=some r):Okp 16 [Gm_.x m a0,.d m (.sl 1 (a1.map (fun (l:List Ph_)=>A.D.sl 2 (l.map Ph_.D)))),Rule.x m a2] [] (.tu [.ref 0 none,dB r.2]) [.row .fz 4 (r.1.map Step.D)]:=by
 refine Ok.enter rfl Tryz.func16 rfl rfl rfl fun S hS=>?_
 unfold z4l at hr
 refine sr ?_
 refine BX 0 ?_
 refine BX 1 ?_
 refine N2 ?_
 refine q0m (q0q (h:=?_))
 refine W5 ?_
 refine LF ?_
 refine ggE hr fun g1 hr=>?_
 refine MKR 2 (f:=(A.D.i .i64)) (0:Int) g1.1 g1.2.1 g1.2.2 ?_
 refine W1 ?_
 refine BX 3 ?_
 refine N1 ?_
 refine sr ?_
 refine W4 ?_
 refine bdE hr fun y1 hy1 hr=>?_
 refine CB [] [] (z6I (m:=m) hy1) ?_
 refine N1 ?_
 refine ssr ?_
 refine N1 ?_
 refine AW.block ?_
 refine q1g 3 9 4 .fz 2 rfl rfl ?_
 refine q1g 3 11 5 .fz 4 rfl rfl ?_
 refine AW.len (.tmp 9 rfl) fun hl1=>?_
 refine bdE hr fun q1 hqq1 hr=>?_
 refine q0b hqq1 hl1 6 (fun k1 (s3,s4,s5,s6,s1,s2)=>[(8,.pb 3 0),(9,rw10 m y1),(10,dI (k1:Int))]) (fun k1 (s3,s4,s5,s6,s1,s2)=>[(2,.row .fz 1 (s3.map (A.D.i .i64))),(3,.box [rw3 m a0.ss_,rw5 m a0.rs_,dS s4,dS s5,rw2 m a2.rt_,dB s6,rw8 m a2.es_,rw9 m a2.cs_,.d m (.sl 1 (a1.map (fun (l:List Ph_)=>A.D.sl 2 (l.map Ph_.D)))),.ref 4 none,.ref 2 none,.ref 5 none]),(4,.row .fz 2 (s1.map Oc.D)),(5,.row .fz 4 (s2.map Step.D))]) (q0g hS 6) (fun k1 xk1 sk1 ok1 hxk1 hr hltk1 hik1=>?_) fun k1 sk1 ek1 hltk1=>?_
 obtain⟨s3,s4,s5,s6,s1,s2⟩:=sk1
 refine ssr ?_
 refine W2 ?_
 refine LF ?_
 refine N1 ?_
 refine q0s rfl (dT hltk1) ?_
 refine q0k ?_
 refine q0m (AW.block (q0m (q0h ?_)))
 refine W3 ?_
 refine IF (Dpz _) hxk1 ?_
 refine W2 ?_
 refine bdE hr fun z1 hz1 hr=>?_
 refine CB [(0,3),(1,4),(2,2),(3,5),(4,6)] [] (j1y (m:=m) (m2:=m) hz1) ?_
 refine N0 ?_
 refine bdE hr fun q2 hqq2 hr=>?_
 obtain⟨s9,s10,s11,s12,s7,s8,s13⟩:=q2
 refine q0m (q0d 7 [(8,.pb 3 0),(9,rw10 m y1),(10,dI (k1:Int)),(41,.pb 3 0),(42,dB s13)] [(2,.row .fz 1 (s9.map (A.D.i .i64))),(3,.box [rw3 m a0.ss_,rw5 m a0.rs_,dS s10,dS s11,rw2 m a2.rt_,dB s12,rw8 m a2.es_,rw9 m a2.cs_,.d m (.sl 1 (a1.map (fun (l:List Ph_)=>A.D.sl 2 (l.map Ph_.D)))),.ref 6 none,.ref 2 none,.ref 5 none]),(4,.none),(5,.row .fz 4 (s8.map Step.D)),(6,.row .fz 2 (s7.map Oc.D))] ?_ ?_)
 refine AW.block (q0i hqq2 7 (fun (s16,s17,s18,s19,s14,s15)=>[(8,.pb 3 0),(9,rw10 m y1),(10,dI (k1:Int))]) (fun (s16,s17,s18,s19,s14,s15)=>[(2,.row .fz 1 (s16.map (A.D.i .i64))),(3,.box [rw3 m a0.ss_,rw5 m a0.rs_,dS s17,dS s18,rw2 m a2.rt_,dB s19,rw8 m a2.es_,rw9 m a2.cs_,.d m (.sl 1 (a1.map (fun (l:List Ph_)=>A.D.sl 2 (l.map Ph_.D)))),.ref 6 none,.ref 2 none,.ref 5 none]),(4,.none),(5,.row .fz 4 (s15.map Step.D)),(6,.row .fz 2 (s14.map Oc.D))]) (q0j hS [(0,0),(1,1),(2,2),(3,3),(5,5),(6,6)] 7) fun sk2 ok2 hr hik2=>?_)
 obtain⟨s16,s17,s18,s19,s14,s15⟩:=sk2
 have hr:=hr
 refine ssr ?_
 refine W1 ?_
 refine bdE hr fun q3 hq3 hr=>?_
 obtain⟨y2,z2⟩:=q3
 refine CB [(0,3),(1,6),(2,2),(3,5),(4,7),(5,8)] [] (j9m (m2:=m) hq3) ?_
 refine ifE hr (fun h1 hr=>?_) fun h1 hr=>?_
 refine VT rfl h1 ?_
 iterate 2 refine AL.off ?_
 refine N1 ?_
 refine q0s rfl rfl ?_
 refine q0k ?_
 refine AW.block (q0u ?_)
 cases hr
 exact⟨_,rfl,q0j hS [(0,0),(1,1),(2,2),(3,3),(8,5),(7,6)] 7⟩
 refine VF rfl (bF h1) ?_
 refine W1 ?_
 refine bdE hr fun q4 hq4 hr=>?_
 obtain⟨y3,z3⟩:=q4
 refine CB [(0,3),(1,7),(2,2),(3,8),(4,9),(5,10)] [] (j7O (m2:=m) hq4) ?_
 refine N1 ?_
 refine ifE hr (fun h2 hr=>?_) fun h2 hr=>?_
 refine q0s rfl h2 ?_
 refine q0k ?_
 refine AW.block (q0u ?_)
 cases hr
 exact⟨_,rfl,q0j hS [(0,0),(1,1),(2,2),(3,3),(10,5),(9,6)] 7⟩
 refine q0t rfl (bF h2) ?_
 refine q0u ?_
 cases hr
 cases hik2 _ rfl
 exact q0j hS [(0,0),(1,1),(2,2),(3,3),(10,5),(9,6)] 7
 refine ssr ?_
 refine W3 ?_
 refine IF (Dpz _) hxk1 ?_
 refine W2 ?_
 refine bdE hr fun y4 hy4 hr=>?_
 refine CB [(0,3),(1,6),(2,2),(3,5)] [] (j1z (m:=m) (m2:=m) hy4) ?_
 refine N1 ?_
 refine ifE hr (fun h3 hr=>?_) fun h3 hr=>?_
 refine q0t rfl (bnF h3) ?_
 refine q0k ?_
 refine q0h ?_
 refine W5 ?_
 refine W1 ?_
 refine OB _ (z2q (p:=k1) (q:=1) (q5o hltk1 hl1)) ?_
 refine W1 ?_
 refine LIR 7 (m:=.fz) (f:=Step.D) (xs:=[(⟨3,0,((k1+1:Nat):Int),(⟨#[]⟩:BA_)⟩:Step)]) ?_
 refine ggE hr fun g2 hr=>?_
 refine APf1 (f:=Step.D) 8 (fun _=>rfl) 40 g2 ?_
 refine W2 ?_
 refine SB ?_
 refine N0 ?_
 refine q0h ?_
 refine W1 ?_
 refine OB _ (z2q (p:=k1) (q:=1) (q5o hltk1 hl1)) ?_
 refine N1 ?_
 cases hr
 exact⟨_,rfl,q0j hS [(0,0),(1,1),(2,2),(3,3),(6,4),(8,5)] 6⟩
 refine q0s rfl (bnT h3) ?_
 refine sr ?_
 refine L0 7 Step.D ?_
 refine N2 ?_
 refine AW.ret ?_
 cases hr
 cases hik1 _ rfl
 rename_i hr
 cases hr
 exact q0o [(7,0)] 1 hS
 subst ek1
 obtain⟨s3,s4,s5,s6,s1,s2⟩:=sk1
 refine ssr ?_
 refine W2 ?_
 refine LF ?_
 refine N1 ?_
 refine q0t rfl (dF hltk1) ?_
 refine q0u ?_
 refine q0m (q0q (h:=?_))
 refine W5 ?_
 refine bdE hr fun y5 hy5 hr=>?_
 refine CBK2 [(0,3),(1,4),(2,2),(3,5)] [] [] (j7P (m2:=m) hy5) ?_
 refine N2 ?_
 refine AW.ret ?_
 cases hr
 exact q0o [(5,0)] 1 hS
theorem j6e {m:Md}{a0:Gm_}{r:((List RPl_)×Bool)}(hr:z3A a0=some r):Okp 7 [Gm_.x m a0] [] (.tu [.ref 0 none,dB r.2]) [.row .fz 2 (r.1.map RPl_.D)]:=by
 refine OE Tryz.func7 fun S hS=>?_
 unfold z3A at hr
 refine J g<|J (BX' 0)<|bdP hr fun y1 y2 hq1 hr=>J g<|J (CB' [(0,1)] [] (z6X (m:=m) hq1))<|J g<|J (L0' 2 RPl_.D)<|bdE hr fun q2 hqq2 hr=>J (gn 7)<|AW.cut 3 (fun s1=>[(5,dB y2),(6,.ref 2 none)]) (fun s1=>[(2,.row .fz 2 (s1.map RPl_.D))]) (M:=fun x=>q2=.inl x) ?_ fun x hx=>?_
 refine J g<|q0i hqq2 3 (fun (s2,s3)=>[(1,.pb 0 0),(4,.ref 1 none),(5,dB y2),(6,.ref 2 none),(7,dI s3)]) (fun (s2,s3)=>[(2,.row .fz 2 (s2.map RPl_.D))]) I fun sk1 ok1 hr hik1=>?_
 obtain⟨s2,s3⟩:=sk1
 have hr:=hr
 refine fE 8 hr ?_ ?_<;>intro h1 hr
 refine fE 4 hr ?_ ?_<;>intro h2 hr
 refine ggE hr fun g1 hr=>bdE hr fun x1 hx1 hr=>bdP hr fun y3 y4 hq3 hr=>J g<|J (CB' [(0,3)] [1] (j9n (m:=.bo) hq3))<|fE 12 hr ?_ ?_<;>intro h3 hr
 refine J (gn 12) ?_
 refine J (q0p 3 rfl)<|J (LIR' 4 (m:=.fz) (f:=RPl_.D) (xs:=[(⟨x1.Name,y3⟩:RPl_)]))<|ggE hr fun g2 hr=>J (AP1' 5 .fz 40 g2)<|ggE hr fun g3 hr=>J g<|E
 refine J g<|J (L0' 4 RPl_.D)<|e
 refine J (gn 2) ?_
 cases hr
 cases hik1 _ rfl
 exact⟨_,rfl,q0g hS 3⟩
 refine J (gn 6) ?_
 cases hr
 cases hik1 _ rfl
 exact⟨_,rfl,q0g hS 3⟩
 subst hx
 obtain⟨s1,rfl⟩:∃ y,y=x:=⟨_,rfl⟩
 exact e
theorem z8P {a0:Step}{r:BA_}(hr:q8K a0=some r):Okp 12 [Step.x .fz a0] [] (dS r) []:=by
 refine OE Tryz.func12 fun S hS=>?_
 unfold q8K at hr
 refine J g<|J (BX' 0)<|fE 14 hr ?_ ?_<;>intro h1 hr
 refine bdE hr fun y1 hy1 hr=>J g<|J (CB' [] [] (z2i hy1))<|ggE hr fun g1 hr=>J (OB' _ (z5I g1))<|ggE hr fun g2 hr=>J (OB' _ (z5I g2))<|ggE hr fun g3 hr=>J g<|J (OB' _ (z5I g3))<|e
 refine fE 6 hr ?_ ?_<;>intro h2 hr
 refine bdE hr fun y2 hy2 hr=>J g<|J (CB' [] [] (z2i hy2))<|ggE hr fun g4 hr=>J (OB' _ (z5I g4))<|ggE hr fun g5 hr=>J (OB' _ (z5I g5))<|bdE hr fun y3 hy3 hr=>J g<|J (CB' [] [] (z2i hy3))<|ggE hr fun g6 hr=>J (OB' _ (z5I g6))<|e
 refine fE 6 hr ?_ ?_<;>intro h3 hr
 refine bdE hr fun y4 hy4 hr=>J g<|J (CB' [] [] (z2i hy4))<|ggE hr fun g7 hr=>J (OB' _ (z5I g7))<|e
 exact e
end Go.Proofs.YtgkepiefcpfimaaGreatDoor
