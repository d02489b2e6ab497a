/- What some functions of the program compute, as partial functions on plain data, and that they do; each lemma bears its conditions in its statement. -/
import Derived.Test.YtipikecbeganoaaGreatLane0b
set_option linter.unusedVariables false
set_option linter.unusedSimpArgs false
set_option linter.ambiguousOpen false
set_option linter.unusedSectionVars false
set_option linter.unnecessarySimpa false
set_option maxRecDepth 100000
set_option maxHeartbeats 40000000
noncomputable section
namespace Go.Proofs.YtipikecbeganoaaGreat
open Go Go.E Go.A
theorem z6U {m:Md}{a0:Gm_}{a1:Rule}{a2:(List Rl_)}{r:Rl_}(hr:q8n a0 a1 a2=some r):Ok Tryz.prog 114 [Gm_.y m a0,Rule.x m a1,.d m (.sl 2 (a2.map Rl_.D))] [] (.ag [dI r.N,.ref 0 none]) [.row .fz 1 (r.Rows.map (A.D.i .i64))]:=by
 refine OE Tryz.func114 fun S hS=>?_
 unfold q8n at hr
 refine J g<|J (BX' 0)<|J (BX' 1)<|J (NV' 2)<|J (gn 10)<|ifE hr ?_ ?_<;>intro h1 hr
 refine bdE hr fun y1 hy1 hr=>J g<|J (CB' [(0,3)] [] (z1A (m:=m) hy1))<|J (gn 4)<|ifE hr ?_ ?_<;>intro h2 hr
 refine J (gn 7) ?_
 refine J (q0d (q0i (q:=2) (c:=1) (r:=4) .fz 1 rfl rfl rfl))<|J g<|E
 refine bdE hr fun y2 hy2 hr=>J g<|J (CB' [(0,4)] [] (j0g (m:=m) hy2))<|J (NV' 5)<|J (gn 10)<|J (lenT 2)<|fun hl1=>bdE hr fun q1 hqq1 hr=>q0b hqq1 hl1 6 (fun k1 (s1,s2)=>[(3,.pb 0 0),(4,.pb 1 0),(6,.pb 2 0),(7,.pb 5 0),(27,.d m (.sl 2 (a2.map Rl_.D))),(28,dI (a2.length:Int)),(29,dI (k1:Int))]) (fun k1 (s1,s2)=>[(4,.row .fz 1 (s1.map (A.D.i .i64))),(5,.box [dI s2,.ref 4 none])]) I (fun k1 xk1 sk1 ok1 hxk1 hr hltk1 hik1=>?_) fun k1 sk1 ek1 hltk1=>?_
 obtain⟨s1,s2⟩:=sk1
 refine J g<|J (NV' 6)<|bdE hr fun x1 hx1 hr=>bdE hr fun y3 hy3 hr=>J g<|J (CB' [(0,7)] [] (q9V (m:=m) hy3))<|J (gn 3)<|ifE hr ?_ ?_<;>intro h3 hr
 refine bdE hr fun y4 hy4 hr=>J g<|J (CB' [(0,4),(1,8)] [] (k3t (m:=m) hy4))<|e
 refine J (gn 7) ?_
 refine J (q0d (q0i (q:=2) (c:=1) (r:=8) .fz 1 rfl rfl rfl))<|J g<|E
 subst ek1
 obtain⟨s1,s2⟩:=sk1
 refine bdE hr fun y5 hy5 hr=>J g<|J (CB' [(0,6)] [4] (z5c (m:=.bo) hy5))<|e
 refine J (gn 15) ?_
 refine J (q0d (q0i (q:=2) (c:=1) (r:=3) .fz 1 rfl rfl rfl))<|J g<|E
theorem j5I {m:Md}{a0:Gm_}{a1:Rule}{a2:Rl_}{r:Rl_}(hr:z0d a0 a1 a2=some r):Ok Tryz.prog 70 [Gm_.y m a0,Rule.x m a1,Rl_.x m a2] [] (.ag [dI r.N,.ref 0 none]) [.row .fz 1 (r.Rows.map (A.D.i .i64))]:=by
 refine OE Tryz.func70 fun S hS=>?_
 unfold z0d at hr
 refine J g<|J (BX' 0)<|J (BX' 1)<|J (BX' 2)<|J (NV' 3)<|bdE hr fun y1 hy1 hr=>J g<|J (CB' [(0,4)] [] (q9V (m:=m) hy1))<|bdE hr fun y2 hy2 hr=>J g<|J (CB' [(0,5)] [] (z3H (m:=m) hy2))<|bdE hr fun y3 hy3 hr=>J g<|J (CB' [(0,6)] [] (z5b hy3))<|J (NV' 7)<|J (gn 10)<|J (lenR 4)<|fun hl1=>bdP hr fun s1 s2 hqq1 hr=>q0c hqq1 hl1 8 (fun k1 (s1,s2)=>[(5,.pb 2 0),(6,.pb 3 0),(7,.ref 4 none),(8,.ref 5 none),(9,.pb 7 0),(24,.ref 4 none),(25,dI (y1.length:Int)),(26,dI (k1:Int))]) (fun k1 (s1,s2)=>[(6,.row .fz 1 (s1.map (A.D.i .i64))),(7,.box [dI s2,.ref 6 none])]) I (fun k1 xk1 sk1 ok1 hxk1 hr hltk1=>?_) fun k1 hltk1=>?_
 obtain⟨s1,s2⟩:=sk1
 refine J g<|J (NV' 8)<|J (gn 10)<|J (lenR 4)<|fun hl2=>bdP hr fun s3 s4 hqq2 hr=>q0c hqq2 hl2 9 (fun k2 (s3,s4)=>[(5,.pb 2 0),(6,.pb 3 0),(7,.ref 4 none),(8,.ref 5 none),(9,.pb 7 0),(10,dI (k1:Int)),(11,.pb 8 0),(24,.ref 4 none),(25,dI (y1.length:Int)),(26,dI (k1:Int)),(31,.ref 4 none),(32,dI (y1.length:Int)),(33,dI (k2:Int))]) (fun k2 (s3,s4)=>[(6,.row .fz 1 (s3.map (A.D.i .i64))),(7,.box [dI s4,.ref 6 none])]) I (fun k2 xk2 sk2 ok2 hxk2 hr hltk2=>?_) fun k2 hltk2=>?_
 obtain⟨s3,s4⟩:=sk2
 refine bdP hr fun s5 s6 hqq3 hr=>J (gn 8)<|q0e 9 [(5,.pb 2 0),(6,.pb 3 0),(7,.ref 4 none),(8,.ref 5 none),(9,.pb 7 0),(10,dI (k1:Int)),(11,.pb 8 0),(24,.ref 4 none),(25,dI (y1.length:Int)),(26,dI (k1:Int)),(31,.ref 4 none),(32,dI (y1.length:Int)),(33,dI (k2:Int))] [(6,.row .fz 1 (s5.map (A.D.i .i64))),(7,.box [dI s6,.ref 6 none])] ?_ ?_
 replace hr:=hqq3
 refine J g<|J (NV' 9)<|J (gn 8)<|ifE hr ?_ ?_<;>intro h1 hr
 refine J (gn 5)<|ifE hr ?_ ?_<;>intro h2 hr
 refine bdE hr fun x1 hx1 hr=>bdE hr fun x2 hx2 hr=>bdE hr fun y4 hy4 hr=>J g<|J (CB' [] [] (z8w (m:=m) hy4))<|J (gn 2)<|ifE hr ?_ ?_<;>intro h3 hr
 refine bdE hr fun y5 hy5 hr=>J g<|J (CB' [(0,10)] [6] (z8v (m:=.bo) hy5))<|e
 exact e
 exact e
 exact e
 exact e
 exact e
 exact e
theorem z8x {m:Md}{a0:(List Int)}{a1:(List Int)}{r:Bool}(hr:z0U a0 a1=some r):Ok Tryz.prog 74 [.d m (.sl 1 (a0.map (A.D.i .i64))),.d m (.sl 1 (a1.map (A.D.i .i64)))] [] (dB r) []:=by
 refine OE Tryz.func74 fun S hS=>?_
 unfold z0U at hr
 refine J (gn 13)<|ifE hr ?_ ?_<;>intro h1 hr
 refine J (gn 10)<|J (lenT 0)<|fun hl1=>bdE hr fun q1 hqq1 hr=>q0b hqq1 hl1 0 (fun k1 _=>[(0,.d m (.sl 1 (a0.map (A.D.i .i64)))),(1,.d m (.sl 1 (a1.map (A.D.i .i64)))),(12,dI (a0.length:Int)),(13,dI (k1:Int))]) (fun k1 _=>[]) I (fun k1 xk1 sk1 ok1 hxk1 hr hltk1 hik1=>?_) fun k1 sk1 ek1 hltk1=>?_
 refine bdE hr fun x1 hx1 hr=>J (gn 26)<|ifE hr ?_ ?_<;>intro h2 hr
 exact e
 exact e
 subst ek1
 exact e
 exact e
theorem z5d {m:Md}{a0:Rl_}{a1:Rl_}{r:Bool}(hr:q8e a0 a1=some r):Ok Tryz.prog 37 [Rl_.x m a0,Rl_.x m a1] [] (dB r) []:=by
 refine OE Tryz.func37 fun S hS=>?_
 unfold q8e at hr
 refine J g<|J (BX' 0)<|J (BX' 1)<|J (gn 9)<|ifE hr ?_ ?_<;>intro h1 hr
 refine bdE hr fun y1 hy1 hr=>J g<|J (CB' [] [] (z8x (m:=m) hy1))<|e
 exact e
theorem j2R {m:Md}{a0:found}{a1:Rl_}{r:Bool}(hr:z1W a0 a1=some r):Ok Tryz.prog 72 [found.x m a0,.pb 0 0] [.box [dI a1.N,.ref 1 none],.row .fz 1 (a1.Rows.map (A.D.i .i64))] (dB r) [.box [dI a1.N,.ref 1 none],.row .fz 1 (a1.Rows.map (A.D.i .i64))]:=by
 refine OE Tryz.func72 fun S hS=>?_
 unfold z1W at hr
 refine J g<|J (BX' 2)<|bdE hr fun y1 hy1 hr=>J g<|J (CB' [] [1] (z5d (m:=.bo) hy1))<|e
theorem q9n {m:Md}{a0:(List found)}{a1_0:Rl_}{r:Int}(hr:q4V a0 a1_0=some r):Ok Tryz.prog 35 [.d m (.sl 9 (a0.map found.D)),.fn 72 [.pb 0 0]] [.box [dI a1_0.N,.ref 1 none],.row .fz 1 (a1_0.Rows.map (A.D.i .i64))] (dI r) [.box [dI a1_0.N,.ref 1 none],.row .fz 1 (a1_0.Rows.map (A.D.i .i64))]:=by
 refine OE Tryz.func35 fun S hS=>?_
 unfold q4V at hr
 refine J (gn 12)<|J (lenT 0)<|fun hl1=>bdE hr fun q1 hqq1 hr=>q0b hqq1 hl1 2 (fun k1 _=>[(0,.d m (.sl 9 (a0.map found.D))),(1,.fn 72 [.pb 0 0]),(7,dI (a0.length:Int)),(8,dI (k1:Int))]) (fun k1 _=>[]) I (fun k1 xk1 sk1 ok1 hxk1 hr hltk1 hik1=>?_) fun k1 sk1 ek1 hltk1=>?_
 refine bdE hr fun y1 hy1 hr=>J g<|J (CB' [(0,0),(1,1)] [] (j2R (m:=m) hy1))<|J (gn 1)<|ifE hr ?_ ?_<;>intro h1 hr
 exact e
 exact e
 subst ek1
 exact e
theorem q8y {m:Md}{a0:(List found)}{a1_0:Rl_}{r:Bool}(hr:q4h a0 a1_0=some r):Ok Tryz.prog 71 [.d m (.sl 9 (a0.map found.D)),.fn 72 [.pb 0 0]] [.box [dI a1_0.N,.ref 1 none],.row .fz 1 (a1_0.Rows.map (A.D.i .i64))] (dB r) [.box [dI a1_0.N,.ref 1 none],.row .fz 1 (a1_0.Rows.map (A.D.i .i64))]:=by
 refine OE Tryz.func71 fun S hS=>?_
 unfold q4h at hr
 refine bdE hr fun y1 hy1 hr=>J g<|J (CB' [(0,0),(1,1)] [] (q9n (m:=m) hy1))<|e
theorem j5J {m:Md}{m2:Md}{a0:(List Int)}{a1:Rl_}{o0:Gm_}{o1:(List (List found))}{o2:Bool}{o3:Rule}{o4:Int}{r:(Bool×(List (List found))×Bool)}(hr:z2i a0 a1 o0 o1 o2 o3 o4=some r):Ok Tryz.prog 69 [.ref 5 none,Rl_.x m a1,.pb 0 0,.pb 3 0,.pb 1 0,.pb 4 0,.pb 2 0] [.box [.d m2 (.sl 2 (o0.Symbols.map Symbol.D)),.d m2 (.sl 6 (o0.Rules.map Rule.D))],.box [.ref 6 none],.box [dB o2],.box [dS o3.Name,dS o3.Left,.d m2 (.sl 1 (o3.Right.map A.D.s)),dB o3.Literal,.d m2 (.sl 9 (o3.Equations.map Eqn.D)),.d m2 (.sl 16 (o3.Contributions.map Cn.D))],.box [dI o4],.row .fz 1 (a0.map (A.D.i .i64)),.deep m2 1 (o1.map (fun (l:List found)=>[Cell.o m2 9 (l.map found.D)])) []] (dB r.1) [.box [.d m2 (.sl 2 (o0.Symbols.map Symbol.D)),.d m2 (.sl 6 (o0.Rules.map Rule.D))],.box [.ref 6 none],.box [dB r.2.2],.box [dS o3.Name,dS o3.Left,.d m2 (.sl 1 (o3.Right.map A.D.s)),dB o3.Literal,.d m2 (.sl 9 (o3.Equations.map Eqn.D)),.d m2 (.sl 16 (o3.Contributions.map Cn.D))],.box [dI o4],.row .fz 1 (a0.map (A.D.i .i64)),.deep m2 1 (r.2.1.map (fun (l:List found)=>[Cell.o m2 9 (l.map found.D)])) []]:=by
 refine Ok.enter rfl Tryz.func69 rfl rfl rfl fun S hS=>?_
 unfold z2i at hr
 refine sr ?_
 refine BX 7 ?_
 refine N1 ?_
 refine sr ?_
 refine W3 ?_
 refine bdE hr fun y1 hy1 hr=>?_
 refine CB [(0,8)] [] (j5I (m:=.bo) hy1) ?_
 refine NV 9 ?_
 refine SB ?_
 refine N0 ?_
 refine ssr ?_
 refine W2 ?_
 refine ggE hr fun g1 hr=>?_
 refine bdE hr fun x1 hx1 hr=>?_
 refine IEd g1 (q3P hx1) ?_
 refine AL.out 6 o4.toNat 0 10 (q3P hx1) ?_
 refine LPd [(0,10)] (q3O (q3P hx1)) ?_
 refine W1 ?_
 refine bdE hr fun y2 hy2 hr=>?_
 refine CB [(0,9),(1,8)] [10] (q8y (m:=.bo) hy2) ?_
 refine N1 ?_
 refine ifE hr (fun h1 hr=>?_) fun h1 hr=>?_
 refine q0S rfl (bnF h1) ?_
 refine q0z ?_
 refine sr ?_
 refine N1 ?_
 refine q0w ?_
 refine endA.gh (q0m 6 o4.toNat 0 10 (q3O (q3P hx1))) ?_
 refine endA.gh (q0k 6 (he:=k5I (f:=(fun (l:List found)=>[Cell.o m2 9 (l.map found.D)])) hx1 (by first|rfl|(simp only[List.set_set];rfl)))) ?_
 cases hr
 exact q0l [(0,0),(1,1),(2,2),(3,3),(4,4),(5,5),(6,6)] 7 hS
 refine q0G rfl (bnT h1) ?_
 refine AW.fz 8 rfl ?_
 refine q0p (q0y (h:=?_))
 refine W4 ?_
 refine IEd g1 (q3O (q3P hx1)) ?_
 refine LPd [(0,10)] (q3O (q3P hx1)) ?_
 refine W3 ?_
 refine bdE hr fun y3 hy3 hr=>?_
 refine CBz 11 [(0,11)] [5] (q9W (m:=.bo) hy3) ?_
 refine W1 ?_
 refine LIRm 12 (m:=m2) (f:=found.D) [(⟨y1,o3,y3⟩:found)] rfl ?_
 refine ggE hr fun g2 hr=>?_
 refine AP1 13 m2 168 g2 ?_
 refine IEd g1 (q3O (q3P hx1)) ?_
 refine SD [.o m2 9 ((x1++[(⟨y1,o3,y3⟩:found)]).map found.D)] [13] (q3O (q3P hx1)) ?_
 refine N0 ?_
 refine q0n ?_
 refine SB ?_
 refine N0 ?_
 refine sr ?_
 refine N1 ?_
 refine q0w ?_
 refine endA.gh (q0k 6 (he:=eset (f:=(fun (l:List found)=>[Cell.o m2 9 (l.map found.D)])) (x':=(x1++[(⟨y1,o3,y3⟩:found)])) (by first|rfl|(simp only[List.set_set];rfl)))) ?_
 cases hr
 exact q0l [(0,0),(1,1),(2,2),(3,3),(4,4),(5,5),(6,6)] 7 hS
theorem z2u {m2:Md}{a0:(List Int)}{o0:Gm_}{o1:(List (List found))}{o2:Bool}{o3:Rule}{o4:Int}{o5:Gm_}{o6:Rule}{o7:(List (List found))}{o9:(List Int)}{r:(Bool×(List (List found))×Bool×(List (List found)))}(hr:q5m a0 o0 o1 o2 o3 o4 o5 o6 o7 o9=some r):Ok Tryz.prog 113 [.ref 10 none,.pb 7 0,.pb 9 0,.pb 8 0,.pb 5 0,.pb 6 0] [.box [.d m2 (.sl 2 (o0.Symbols.map Symbol.D)),.d m2 (.sl 6 (o0.Rules.map Rule.D))],.box [.ref 11 none],.box [dB o2],.box [dS o3.Name,dS o3.Left,.d m2 (.sl 1 (o3.Right.map A.D.s)),dB o3.Literal,.d m2 (.sl 9 (o3.Equations.map Eqn.D)),.d m2 (.sl 16 (o3.Contributions.map Cn.D))],.box [dI o4],.box [.d m2 (.sl 2 (o5.Symbols.map Symbol.D)),.d m2 (.sl 6 (o5.Rules.map Rule.D))],.box [dS o6.Name,dS o6.Left,.d m2 (.sl 1 (o6.Right.map A.D.s)),dB o6.Literal,.d m2 (.sl 9 (o6.Equations.map Eqn.D)),.d m2 (.sl 16 (o6.Contributions.map Cn.D))],.box [.ref 11 none],.box [.fn 69 [.pb 0 0,.pb 3 0,.pb 1 0,.pb 4 0,.pb 2 0]],.box [.ref 12 none],.row .fz 1 (a0.map (A.D.i .i64)),.deep m2 1 (o7.map (fun (l:List found)=>[Cell.o m2 9 (l.map found.D)])) [],.row .fz 1 (o9.map (A.D.i .i64))] (dB r.1) [.box [.d m2 (.sl 2 (o0.Symbols.map Symbol.D)),.d m2 (.sl 6 (o0.Rules.map Rule.D))],.box [.ref 11 none],.box [dB r.2.2.1],.box [dS o3.Name,dS o3.Left,.d m2 (.sl 1 (o3.Right.map A.D.s)),dB o3.Literal,.d m2 (.sl 9 (o3.Equations.map Eqn.D)),.d m2 (.sl 16 (o3.Contributions.map Cn.D))],.box [dI o4],.box [.d m2 (.sl 2 (o5.Symbols.map Symbol.D)),.d m2 (.sl 6 (o5.Rules.map Rule.D))],.box [dS o6.Name,dS o6.Left,.d m2 (.sl 1 (o6.Right.map A.D.s)),dB o6.Literal,.d m2 (.sl 9 (o6.Equations.map Eqn.D)),.d m2 (.sl 16 (o6.Contributions.map Cn.D))],.box [.ref 11 none],.box [.fn 69 [.pb 0 0,.pb 3 0,.pb 1 0,.pb 4 0,.pb 2 0]],.box [.ref 12 none],.row .fz 1 (a0.map (A.D.i .i64)),.deep m2 1 (r.2.2.2.map (fun (l:List found)=>[Cell.o m2 9 (l.map found.D)])) [],.row .fz 1 (o9.map (A.D.i .i64))]:=by
 refine OE Tryz.func113 fun S hS=>?_
 unfold q5m at hr
 refine J g<|J (L0' 13 Rl_.D)<|J (gn 10)<|J (lenR 10)<|fun hl1=>bdE hr fun s1 hqq1 hr=>?_
 refine q0c hqq1 hl1 14 (fun k1 s1=>[(0,.ref 10 none),(1,.pb 7 0),(2,.pb 9 0),(3,.pb 8 0),(4,.pb 5 0),(5,.pb 6 0),(8,.ref 13 none),(12,.ref 10 none),(13,dI (a0.length:Int)),(14,dI (k1:Int))]) (fun k1 s1=>[(13,.row m2 2 (s1.map Rl_.D))]) (GH.trans (q1a (r:=13) m2 rfl) I) (fun k1 xk1 sk1 ok1 hxk1 hr hltk1=>?_) fun k1 hltk1=>?_
 obtain⟨s1,rfl⟩:∃ y,y=sk1:=⟨_,rfl⟩
 refine bdE hr fun x1 hx1 hr=>ggE hr fun g1 hr=>bdE hr fun x2 hx2 hr=>J (gn 17)<|J (q0v 11 x1.toNat 0 14 (q3P hx2))<|J g<|J (IEd' g1 (q3O (q3P hx2)))<|J (LPd' [(0,14)] (q3O (q3P hx2)))<|ggE hr fun g2 hr=>bdE hr fun x3 hx3 hr=>J g ?_
 refine J (k3l 15 (m:=m2) (f:=Rl_.D) [x3.summary] rfl)<|ggE hr fun g3 hr=>J (AP1' 16 m2 32 g3)<|J (q0K .refl)<|J (gn 6) ?_
 cases hr
 exact GH.trans (q0m 11 x1.toNat 0 14 (q3O (q3P hx2))) (GH.trans (q0k 11 (he:=k5I (f:=(fun (l:List found)=>[Cell.o m2 9 (l.map found.D)])) hx2 (by first|rfl|(simp only[List.set_set];rfl)))) (q0j hS [(0,0),(1,1),(2,2),(3,3),(4,4),(5,5),(6,6),(7,7),(8,8),(9,9),(10,10),(11,11),(12,12),(16,13)] 14))
 refine bdE hr fun y1 hy1 hr=>J g<|J (CBz' 14 [(0,14)] [13] (z6U (m:=.bo) hy1))<|bdT hr fun y2 z1 z2 hq2 hr=>CBK2 [(0,0),(3,3),(4,4),(5,10)] [(1,1),(2,2),(6,11)] [] (j5J (m:=.fz) (m2:=m2) hq2) ?_
 exact e
theorem q8a {m2:Md}{a0:(List Int)}{o0:Gm_}{o1:(List (List found))}{o2:Bool}{o3:Rule}{o4:Int}{o5:Gm_}{o6:Rule}{o7:(List (List found))}{o9:(List Int)}{r:((List (List found))×Bool×(List (List found)))}(hr:q4b a0 o0 o1 o2 o3 o4 o5 o6 o7 o9=some r):Ok Tryz.prog 112 [.ref 10 none,.fn 113 [.pb 7 0,.pb 9 0,.pb 8 0,.pb 5 0,.pb 6 0]] [.box [.d m2 (.sl 2 (o0.Symbols.map Symbol.D)),.d m2 (.sl 6 (o0.Rules.map Rule.D))],.box [.ref 11 none],.box [dB o2],.box [dS o3.Name,dS o3.Left,.d m2 (.sl 1 (o3.Right.map A.D.s)),dB o3.Literal,.d m2 (.sl 9 (o3.Equations.map Eqn.D)),.d m2 (.sl 16 (o3.Contributions.map Cn.D))],.box [dI o4],.box [.d m2 (.sl 2 (o5.Symbols.map Symbol.D)),.d m2 (.sl 6 (o5.Rules.map Rule.D))],.box [dS o6.Name,dS o6.Left,.d m2 (.sl 1 (o6.Right.map A.D.s)),dB o6.Literal,.d m2 (.sl 9 (o6.Equations.map Eqn.D)),.d m2 (.sl 16 (o6.Contributions.map Cn.D))],.box [.ref 11 none],.box [.fn 69 [.pb 0 0,.pb 3 0,.pb 1 0,.pb 4 0,.pb 2 0]],.box [.ref 12 none],.row .fz 1 (a0.map (A.D.i .i64)),.deep m2 1 (o7.map (fun (l:List found)=>[Cell.o m2 9 (l.map found.D)])) [],.row .fz 1 (o9.map (A.D.i .i64))] (.tu []) [.box [.d m2 (.sl 2 (o0.Symbols.map Symbol.D)),.d m2 (.sl 6 (o0.Rules.map Rule.D))],.box [.ref 11 none],.box [dB r.2.1],.box [dS o3.Name,dS o3.Left,.d m2 (.sl 1 (o3.Right.map A.D.s)),dB o3.Literal,.d m2 (.sl 9 (o3.Equations.map Eqn.D)),.d m2 (.sl 16 (o3.Contributions.map Cn.D))],.box [dI o4],.box [.d m2 (.sl 2 (o5.Symbols.map Symbol.D)),.d m2 (.sl 6 (o5.Rules.map Rule.D))],.box [dS o6.Name,dS o6.Left,.d m2 (.sl 1 (o6.Right.map A.D.s)),dB o6.Literal,.d m2 (.sl 9 (o6.Equations.map Eqn.D)),.d m2 (.sl 16 (o6.Contributions.map Cn.D))],.box [.ref 11 none],.box [.fn 69 [.pb 0 0,.pb 3 0,.pb 1 0,.pb 4 0,.pb 2 0]],.box [.ref 12 none],.row .fz 1 (a0.map (A.D.i .i64)),.deep m2 1 (r.2.2.map (fun (l:List found)=>[Cell.o m2 9 (l.map found.D)])) [],.row .fz 1 (o9.map (A.D.i .i64))]:=by
 refine OE Tryz.func112 fun S hS=>?_
 unfold q4b at hr
 refine bdE hr fun y1 hy1 hr=>J g<|J (CB' [] [10] (z1i (m:=.bo) hy1))<|J (gn 1)<|ifE hr ?_ ?_<;>intro h1 hr
 exact e
 refine ggE hr fun g1 hr=>J g<|J (MKR' 13 (f:=(A.D.i .i64)) (0:Int) g1.1 g1.2.1 g1.2.2)<|bdE hr fun q1 hqq1 hr=>J (gn 2)<|AW.cut 14 (fun (s1,s2,s3)=>[]) (fun (s1,s2,s3)=>[(2,.box [dB s3]),(11,.deep m2 1 (s2.map (fun (l:List found)=>[Cell.o m2 9 (l.map found.D)])) []),(13,.row .fz 1 (s1.map (A.D.i .i64)))]) (M:=fun x=>q1=.inl x) ?_ fun x hx=>?_
 refine J g<|q0h hqq1 14 (fun (s4,s5,s6)=>[(0,.ref 10 none),(1,.fn 113 [.pb 7 0,.pb 9 0,.pb 8 0,.pb 5 0,.pb 6 0]),(4,.ref 13 none)]) (fun (s4,s5,s6)=>[(2,.box [dB s6]),(11,.deep m2 1 (s5.map (fun (l:List found)=>[Cell.o m2 9 (l.map found.D)])) []),(13,.row .fz 1 (s4.map (A.D.i .i64)))]) I fun sk1 ok1 hr hik1=>?_
 obtain⟨s4,s5,s6⟩:=sk1
 have hr:=hr
 refine bdE hr fun q2 hq2 hr=>J g ?_
 obtain⟨y2,z1,z2,z3⟩:=q2
 refine J (CB' [(0,0),(1,1),(2,2),(3,3),(4,4),(5,5),(6,6),(7,7),(8,8),(9,9),(10,13),(11,11),(12,12)] [] (z2u (m2:=m2) hq2))<|J (gn 1)<|ifE hr ?_ ?_<;>intro h2 hr
 refine J g<|J (OB' _ (k5C (p:=a0.length) (k:=1) (by decide)))<|bdP hr fun s7 s8 hqq3 hr=>J (gn 3)<|q0e 14 [(0,.ref 10 none),(1,.fn 113 [.pb 7 0,.pb 9 0,.pb 8 0,.pb 5 0,.pb 6 0]),(4,.ref 13 none),(5,dI s7)] [(13,.row .fz 1 (s8.map (A.D.i .i64)))] ?_ ?_
 refine J g<|q0h hqq3 14 (fun (s9,s10)=>[(0,.ref 10 none),(1,.fn 113 [.pb 7 0,.pb 9 0,.pb 8 0,.pb 5 0,.pb 6 0]),(4,.ref 13 none),(5,dI s9)]) (fun (s9,s10)=>[(13,.row .fz 1 (s10.map (A.D.i .i64)))]) I fun sk2 ok2 hr hik2=>?_
 obtain⟨s9,s10⟩:=sk2
 have hr:=hr
 refine J (gn 5)<|ifE hr ?_ ?_<;>intro h3 hr
 refine ggE hr fun g2 hr=>bdE hr fun x1 hx1 hr=>ggE hr fun g3 hr=>bdE hr fun x2 hx2 hr=>ggE hr fun g4 hr=>J (gn 13)<|ifE hr ?_ ?_<;>intro h4 hr
 refine J g<|J (SE' 0 hx1)<|ggE hr fun g5 hr=>e
 refine J (gn 2) ?_
 cases hr
 cases hik2 _ rfl
 exact q0f hS 14
 refine J (gn 15) ?_
 cases hr
 cases hik2 _ rfl
 exact q0f hS 14
 refine J (gn 6)<|ifE hr ?_ ?_<;>intro h5 hr
 exact e
 refine ggE hr fun g6 hr=>bdE hr fun x3 hx3 hr=>ggE hr fun g7 hr=>J g<|J (SE' (x3+1) hx3)<|e
 refine J (gn 2) ?_
 cases hr
 cases hik1 _ rfl
 exact⟨_,rfl,q0f hS 14⟩
 subst hx
 obtain⟨s1,s2,s3⟩:=x
 exact e
theorem z3I {m:Md}{a0:Gm_}{a1:Rule}{a2:(List (List found))}{a3:(List Int)}{o0:Gm_}{o1:(List (List found))}{o2:Bool}{o3:Rule}{o4:Int}{r:((List (List found))×Bool)}(hr:q5u a0 a1 a2 a3 o0 o1 o2 o3 o4=some r):Ok Tryz.prog 68 [Gm_.x m a0,Rule.x m a1,.ref 5 none,.ref 6 none,.fn 69 [.pb 0 0,.pb 3 0,.pb 1 0,.pb 4 0,.pb 2 0]] [.box [.d m (.sl 2 (o0.Symbols.map Symbol.D)),.d m (.sl 6 (o0.Rules.map Rule.D))],.box [.ref 5 none],.box [dB o2],.box [dS o3.Name,dS o3.Left,.d m (.sl 1 (o3.Right.map A.D.s)),dB o3.Literal,.d m (.sl 9 (o3.Equations.map Eqn.D)),.d m (.sl 16 (o3.Contributions.map Cn.D))],.box [dI o4],.deep m 1 (o1.map (fun (l:List found)=>[Cell.o m 9 (l.map found.D)])) [],.row .fz 1 (a3.map (A.D.i .i64))] (.tu []) [.box [.d m (.sl 2 (o0.Symbols.map Symbol.D)),.d m (.sl 6 (o0.Rules.map Rule.D))],.box [.ref 5 none],.box [dB r.2],.box [dS o3.Name,dS o3.Left,.d m (.sl 1 (o3.Right.map A.D.s)),dB o3.Literal,.d m (.sl 9 (o3.Equations.map Eqn.D)),.d m (.sl 16 (o3.Contributions.map Cn.D))],.box [dI o4],.deep m 1 (r.1.map (fun (l:List found)=>[Cell.o m 9 (l.map found.D)])) [],.row .fz 1 (a3.map (A.D.i .i64))]:=by
 refine OE Tryz.func68 fun S hS=>?_
 unfold q5u at hr
 refine J g<|J (BX' 7)<|J (BX' 8)<|J (BX' 9)<|J (BX' 10)<|J g<|J (L0' 11 (A.D.i .i64))<|J (L0' 12 (A.D.i .i64))<|J (NV' 13)<|J (gn 12)<|J (lenA 2 1)<|fun hl1=>bdP hr fun s1 s2 hqq1 hr=>q0c hqq1 hl1 14 (fun k1 (s1,s2)=>[(3,.ref 6 none),(5,.pb 7 0),(6,.pb 8 0),(7,.pb 9 0),(9,.pb 10 0),(10,.ref 11 none),(11,.pb 13 0),(18,.d m (.sl 1 (a1.Right.map A.D.s))),(19,dI (a1.Right.length:Int)),(20,dI (k1:Int))]) (fun k1 (s1,s2)=>[(11,.row .fz 1 (s1.map (A.D.i .i64))),(12,.row .fz 1 (s2.map (A.D.i .i64)))]) I (fun k1 xk1 sk1 ok1 hxk1 hr hltk1=>?_) fun k1 hltk1=>?_
 obtain⟨s1,s2⟩:=sk1
 refine bdE hr fun y1 hy1 hr=>J g<|J (CB' [] [] (q8V (m:=m) hy1))<|ggE hr fun g1 hr=>bdE hr fun x1 hx1 hr=>J g<|J (LIR' 14 (m:=.fz) (f:=(A.D.i .i64)) (xs:=([x1]:List Int)))<|ggE hr fun g2 hr=>J (q9P (f:=(A.D.i .i64)) 15 (fun _=>rfl) 8 g2)<|J g<|J (LIR' 16 (m:=.fz) (f:=(A.D.i .i64)) (xs:=([y1]:List Int)))<|ggE hr fun g3 hr=>J (q9P (f:=(A.D.i .i64)) 17 (fun _=>rfl) 8 g3)<|J (q0K .refl)<|e
 refine bdT hr fun z1 z2 z3 hq2 hr=>J g<|J (CB' [(0,0),(1,1),(2,2),(3,3),(4,4),(5,7),(6,8),(7,9),(8,10),(9,13),(10,11),(11,5),(12,12)] [] (q8a (m2:=m) hq2))<|e
theorem j2S {m:Md}{a0:Gm_}{r:(List (List found))}(hr:z2Y a0=some r):Ok Tryz.prog 34 [Gm_.x m a0] [] (.ref 0 none) [.deep m 1 (r.map (fun (l:List found)=>[Cell.o m 9 (l.map found.D)])) []]:=by
 refine Ok.enter rfl Tryz.func34 rfl rfl rfl fun S hS=>?_
 unfold z2Y at hr
 refine sr ?_
 refine BX 0 ?_
 refine N1 ?_
 refine sr ?_
 refine W2 ?_
 refine LF ?_
 refine ggE hr fun g1 hr=>?_
 refine MKW 1 (f:=(fun (l:List found)=>[Cell.o .fz 9 (l.map found.D)])) [] g1.1 g1.2.1 g1.2.2 ?_
 refine q3G 1 m (fun (l:List found)=>[Cell.o .fz 9 (l.map found.D)]) (fun (l:List found)=>[Cell.o m 9 (l.map found.D)]) (fun _=>rfl) ?_
 refine NV 2 ?_
 refine SB ?_
 refine N0 ?_
 refine bdE hr fun q1 hqq1 hr=>?_
 refine AW.block (q0h hqq1 3 (fun s1=>[(1,.pb 0 0),(3,.pb 2 0)]) (fun s1=>[(1,.deep m 1 (s1.map (fun (l:List found)=>[Cell.o m 9 (l.map found.D)])) [])]) (q0f hS 3) fun sk1 ok1 hr hik1=>?_)
 obtain⟨s1,rfl⟩:∃ y,y=sk1:=⟨_,rfl⟩
 refine AW.block (q0p (q0n ?_))
 refine W1 ?_
 refine bdE hr fun y1 hy1 hr=>?_
 refine CB [(0,3)] [1] (j2Q (m:=.bo) hy1) ?_
 refine NV 4 ?_
 refine W1 ?_
 refine SB ?_
 refine N0 ?_
 refine ssr ?_
 refine W2 ?_
 refine LF ?_
 refine N1 ?_
 refine AW.block ?_
 refine AW.len (.tmp 16 rfl) fun hl2=>?_
 refine bdE hr fun q2 hqq2 hr=>?_
 obtain⟨s2,s3⟩:=q2
 refine q0c hqq2 hl2 5 (fun k2 (s2,s3)=>[(1,.pb 0 0),(3,.pb 2 0),(4,.ref 3 none),(5,.pb 4 0),(16,.d m (.sl 6 (a0.Rules.map Rule.D))),(17,dI (a0.Rules.length:Int)),(18,dI (k2:Int))]) (fun k2 (s2,s3)=>[(1,.deep m 1 (s2.map (fun (l:List found)=>[Cell.o m 9 (l.map found.D)])) []),(4,.box [dB s3])]) (q0f hS 5) (fun k2 xk2 sk2 ok2 hxk2 hr hltk2=>?_) fun k2 hltk2=>?_
 obtain⟨s2,s3⟩:=sk2
 refine sr ?_
 refine N1 ?_
 refine q0p (q0G rfl (dT hltk2) ?_)
 refine q0z ?_
 refine q0p (AW.block (q0p (q0n ?_)))
 refine IF (Int.natCast_nonneg _) hxk2 ?_
 refine W1 ?_
 refine NV 5 ?_
 refine SB ?_
 refine N0 ?_
 refine sr ?_
 refine W3 ?_
 refine bdE hr fun y2 hy2 hr=>?_
 refine CB [] [] (q8V (m:=m) hy2) ?_
 refine NV 6 ?_
 refine SB ?_
 refine N0 ?_
 refine q0n ?_
 refine W5 ?_
 refine bdE hr fun q3 hq3 hr=>?_
 obtain⟨z1,z2⟩:=q3
 refine CB [(0,0),(1,2),(2,4),(3,5),(4,6),(5,1),(6,3)] [] (z3I (m:=m) hq3) ?_
 refine N0 ?_
 refine q0n ?_
 refine OB _ (z8X (p:=k2) (q:=1) (q6E hltk2 hl2)) ?_
 refine N1 ?_
 cases hr
 exact q0f hS 5
 refine sr ?_
 refine N1 ?_
 refine q0p (q0S rfl (dF hltk2) ?_)
 refine q0P ?_
 refine sr ?_
 refine N2 ?_
 refine ifE hr (fun h1 hr=>?_) fun h1 hr=>?_
 refine q0S rfl (bnF h1) ?_
 refine q0z ?_
 cases hr
 exact⟨_,rfl,q0f hS 3⟩
 refine q0G rfl (bnT h1) ?_
 refine sr ?_
 refine N2 ?_
 refine q0w ?_
 cases hr
 cases hik1 _ rfl
 have hz:some q1=some r:=by assumption
 cases hz
 exact q0l [(1,0)] 1 hS
theorem j0h {m:Md}{m2:Md}{a0:found}{a1:Rl_}{r:Bool}(hr:q8f a0 a1=some r):Ok Tryz.prog 36 [found.x m a0,.pb 0 0] [.box [dI a1.N,.d m2 (.sl 1 (a1.Rows.map (A.D.i .i64)))]] (dB r) [.box [dI a1.N,.d m2 (.sl 1 (a1.Rows.map (A.D.i .i64)))]]:=by
 refine OE Tryz.func36 fun S hS=>?_
 unfold q8f at hr
 refine J g<|J (BX' 1)<|bdE hr fun y1 hy1 hr=>J g<|J (CB' [] [] (z5d (m:=.bo) hy1))<|e
theorem q8I {m:Md}{m2:Md}{a0:(List found)}{a1_0:Rl_}{r:Int}(hr:q4L a0 a1_0=some r):Ok Tryz.prog 35 [.d m (.sl 9 (a0.map found.D)),.fn 36 [.pb 0 0]] [.box [dI a1_0.N,.d m2 (.sl 1 (a1_0.Rows.map (A.D.i .i64)))]] (dI r) [.box [dI a1_0.N,.d m2 (.sl 1 (a1_0.Rows.map (A.D.i .i64)))]]:=by
 refine OE Tryz.func35 fun S hS=>?_
 unfold q4L at hr
 refine J (gn 12)<|J (lenT 0)<|fun hl1=>bdE hr fun q1 hqq1 hr=>q0b hqq1 hl1 1 (fun k1 _=>[(0,.d m (.sl 9 (a0.map found.D))),(1,.fn 36 [.pb 0 0]),(7,dI (a0.length:Int)),(8,dI (k1:Int))]) (fun k1 _=>[]) I (fun k1 xk1 sk1 ok1 hxk1 hr hltk1 hik1=>?_) fun k1 sk1 ek1 hltk1=>?_
 refine bdE hr fun y1 hy1 hr=>J g<|J (CB' [(0,0)] [] (j0h (m:=m) (m2:=m2) hy1))<|J (gn 1)<|ifE hr ?_ ?_<;>intro h1 hr
 exact e
 exact e
 subst ek1
 exact e
theorem k3u {Rc17:Gm_→(List (List found))→found→Int→Int→Tree→Option (Bool×Tree)}(Ic17:∀ {m:Md} {a0:Gm_} {a1:(List (List found))} {a2:found} {a4:Int} {a5:Int} {o0:Tree} {r:(Bool×Tree)},Rc17 a0 a1 a2 a4 a5 o0=some r→Ok Tryz.prog 75 [Gm_.y m a0,.d m (.sl 1 (a1.map (fun (l:List found)=>A.D.sl 9 (l.map found.D)))),found.x m a2,.pb 0 0,dI a4,dI a5] [.box [.ref 1 none],.deep .fz 6 (o0.Nodes.map Node.W) []] (dB r.1) [.box [.ref 2 none],.dead,.deep .fz 6 (r.2.Nodes.map Node.W) []]){m:Md}{a0:Gm_}{a1:(List (List found))}{a2:found}{a4:Int}{a5:Int}{o0:Tree}{r:(Bool×Tree)}(hr:z8q Rc17 a0 a1 a2 a4 a5 o0=some r):Ok Tryz.prog 75 [Gm_.y m a0,.d m (.sl 1 (a1.map (fun (l:List found)=>A.D.sl 9 (l.map found.D)))),found.x m a2,.pb 0 0,dI a4,dI a5] [.box [.ref 1 none],.deep .fz 6 (o0.Nodes.map Node.W) []] (dB r.1) [.box [.ref 2 none],.dead,.deep .fz 6 (r.2.Nodes.map Node.W) []]:=by
 refine OE Tryz.func75 fun S hS=>?_
 unfold z8q at hr
 refine J g<|J (BX' 2)<|J (BX' 3)<|J g<|J (LEd' o0.Nodes.length)<|J (gn 8)<|ifE hr ?_ ?_<;>intro h1 hr
 refine J (gn 6) ?_
 refine J (q0d (q1M (i:=1) (j:=4) rfl rfl))<|J g<|E
 refine ggE hr fun g1 hr=>J g<|J (LID' (f:=Node.W) 4 (⟨((o0.Nodes.length+1:Nat):Int),a4,a5,0,a2.rule.Name,[]⟩:Node) [])<|ggE hr fun g2 hr=>J (k5J 5 72 g2)<|J (gn 13)<|J (lenA 8 2)<|fun hl1=>bdE hr fun q1 hqq1 hr=>q0b hqq1 hl1 6 (fun k1 s1=>[(1,.d m (.sl 1 (a1.map (fun (l:List found)=>A.D.sl 9 (l.map found.D))))),(3,.pb 0 0),(6,.pb 2 0),(8,.pb 3 0),(13,.d .fz (.i .i64 (o0.Nodes.length:Int))),(41,.d m (.sl 1 (a2.children.map (A.D.i .i64)))),(42,.d .fz (.i .i64 (a2.children.length:Int))),(43,.d .fz (.i .i64 (k1:Int)))]) (fun k1 s1=>[(4,.none),(5,.deep .fz 6 (s1.map Node.W) [])]) I (fun k1 xk1 sk1 ok1 hxk1 hr hltk1 hik1=>?_) fun k1 sk1 ek1 hltk1=>?_
 obtain⟨s1,rfl⟩:∃ y,y=sk1:=⟨_,rfl⟩
 refine bdE hr fun x1 hx1 hr=>J (gn 17)<|J (q0v 5 o0.Nodes.length 5 6 (q3P hx1))<|J g<|J (IEd' (Int.natCast_nonneg _) (q3O (q3P hx1)))<|J g<|J (LPd' [(5,6)] (q3O (q3P hx1)))<|J g<|J (LEd' s1.length)<|J (LIR' 7 (m:=.fz) (f:=(A.D.i .i64)) (xs:=([(s1.length:Int)]:List Int)))<|ggE hr fun g3 hr=>J (q9P (f:=(A.D.i .i64)) 8 (fun _=>rfl) 8 g3)<|J (IEd' (Int.natCast_nonneg _) (q3O (q3P hx1)))<|J g<|J (SD' [.w 1 ((x1.Children++[(s1.length:Int)]).map (A.D.i .i64))] [8] (q3O (q3P hx1)))<|bdE hr fun x2 hx2 hr=>bdE hr fun y1 hy1 hr=>J g<|J (CB' [] [] (q8V (m:=m) hy1))<|ggE hr fun g4 hr=>bdE hr fun x3 hx3 hr=>ggE hr fun g5 hr=>bdE hr fun x4 hx4 hr=>J g ?_
 refine q0r 5 rfl (he:=eset (f:=Node.W) (x':=(⟨x1.Id,x1.Parent,x1.Place,x1.Literal,x1.Rule,(x1.Children++[(s1.length:Int)])⟩:Node)) (by first|rfl|(simp only[List.set_set];rfl))) ?_
 refine bdP hr fun y2 z1 hq2 hr=>J (CB' [(0,0),(1,5),(2,9)] [] (Ic17 (m:=m) hq2))<|J (gn 2)<|ifE hr ?_ ?_<;>intro h2 hr
 exact e
 exact e
 subst ek1
 obtain⟨s1,rfl⟩:∃ y,y=sk1:=⟨_,rfl⟩
 exact e
theorem k3v (n:Nat):∀ {m:Md} {a0:Gm_} {a1:(List (List found))} {a2:found} {a4:Int} {a5:Int} {o0:Tree} {r:(Bool×Tree)},z4y n a0 a1 a2 a4 a5 o0=some r→Ok Tryz.prog 75 [Gm_.y m a0,.d m (.sl 1 (a1.map (fun (l:List found)=>A.D.sl 9 (l.map found.D)))),found.x m a2,.pb 0 0,dI a4,dI a5] [.box [.ref 1 none],.deep .fz 6 (o0.Nodes.map Node.W) []] (dB r.1) [.box [.ref 2 none],.dead,.deep .fz 6 (r.2.Nodes.map Node.W) []]:=by
  induction n with
  | zero=>intro _ _ _ _ _ _ _ r hr;exact nomatch (show (none:Option (Bool×Tree))=some r from hr)
  | succ n ih=>intro _ _ _ _ _ _ _ r hr;exact k3u ih hr
theorem k5R {m:Md}{a0:Gm_}{a1:(List (List found))}{a2:found}{a4:Int}{a5:Int}{o0:Tree}{r:(Bool×Tree)}(hr:j8R a0 a1 a2 a4 a5 o0=some r):Ok Tryz.prog 75 [Gm_.y m a0,.d m (.sl 1 (a1.map (fun (l:List found)=>A.D.sl 9 (l.map found.D)))),found.x m a2,.pb 0 0,dI a4,dI a5] [.box [.ref 1 none],.deep .fz 6 (o0.Nodes.map Node.W) []] (dB r.1) [.box [.ref 2 none],.dead,.deep .fz 6 (r.2.Nodes.map Node.W) []]:=by
 obtain⟨n,hn⟩:=q5J hr
 exact k3v n hn
theorem j7w {m:Md}{a0:Gm_}{a1:(List (List found))}{a2:found}{r:(Tree×Bool)}(hr:q7q a0 a1 a2=some r):Ok Tryz.prog 38 [Gm_.y m a0,.d m (.sl 1 (a1.map (fun (l:List found)=>A.D.sl 9 (l.map found.D)))),found.x m a2] [] (.tu [.ag [.ref 0 none],dB r.2]) [.deep .fz 6 (r.1.Nodes.map Node.W) []]:=by
 refine OE Tryz.func38 fun S hS=>?_
 unfold q7q at hr
 refine J g<|J (BX' 0)<|J (BX' 1)<|J (NV' 2)<|J g<|J (NV' 3)<|J g ?_
 refine q1F 3 0 4 .fz 6 rfl rfl ?_
 refine q3H 4 Node.W ?_
 refine bdP hr fun y1 z1 hq1 hr=>J (CB' [(0,3),(1,4),(2,5)] [] (k5R (m:=m) hq1))<|J (gn 2)<|ifE hr ?_ ?_<;>intro h1 hr
 exact e
 refine J (gn 8) ?_
 refine J (q0d (q0i (q:=2) (c:=0) (r:=6) .fz 6 rfl rfl rfl))<|J (q0d (q0x 6 Node.W))<|J g<|E
theorem z6V {m:Md}{a0:Gm_}{a1:ByteArray}{a2:Rl_}{r:(Tree×Bool)}(hr:q8o a0 a1 a2=some r):Ok Tryz.prog 10 [Gm_.x m a0,dS a1,Rl_.x m a2] [] (.tu [.ag [.ref 0 none],dB r.2]) [.deep .fz 6 (r.1.Nodes.map Node.W) []]:=by
 refine OE Tryz.func10 fun S hS=>?_
 unfold q8o at hr
 refine J g<|J (BX' 0)<|J (BX' 1)<|J (NV' 2)<|bdE hr fun y1 hy1 hr=>J g<|J (CB' [] [] (q8V (m:=m) hy1))<|bdE hr fun y2 hy2 hr=>J g<|J (CB' [] [] (j0R (m:=m) hy2))<|J (gn 1)<|ifE hr ?_ ?_<;>intro h1 hr
 refine J (gn 5)<|ifE hr ?_ ?_<;>intro h2 hr
 refine J (gn 8) ?_
 refine J (q0d (q0i (q:=2) (c:=0) (r:=3) .fz 6 rfl rfl rfl))<|J (q0d (q0x 3 Node.W))<|J g<|E
 refine bdE hr fun y3 hy3 hr=>J g<|J (CB' [(0,3)] [] (j2S (m:=m) hy3))<|J (gn 3) ?_
 refine q0I 3 (fun (l:List found)=>A.D.sl 9 (l.map found.D)) (by exact fun _=>rfl) rfl ?_
 refine ggE hr fun g1 hr=>bdE hr fun x1 hx1 hr=>bdE hr fun y4 hy4 hr=>J g<|J (CB' [(0,1)] [] (q8I (m:=m) (m2:=m) hy4))<|J (gn 8)<|ifE hr ?_ ?_<;>intro h3 hr
 refine J (gn 8) ?_
 refine J (q0d (q0i (q:=2) (c:=0) (r:=4) .fz 6 rfl rfl rfl))<|J (q0d (q0x 4 Node.W))<|J g<|E
 refine ggE hr fun g2 hr=>bdE hr fun x2 hx2 hr=>bdP hr fun y5 y6 hq1 hr=>J g<|J (CB' [(0,4)] [] (j7w (m:=m) hq1))<|e
 refine J (gn 13) ?_
 refine J (q0d (q0i (q:=2) (c:=0) (r:=3) .fz 6 rfl rfl rfl))<|J (q0d (q0x 3 Node.W))<|J g<|E
theorem j8Y {m:Md}{a0:Rl_}{r:Bool}(hr:z3a a0=some r):Ok Tryz.prog 94 [Rl_.x m a0] [] (dB r) []:=by
 refine OE Tryz.func94 fun S hS=>?_
 unfold z3a at hr
 refine J g<|J (BX' 0)<|bdE hr fun y1 hy1 hr=>J g<|J (CB' [(0,1)] [] (z5c (m:=m) hy1))<|J (NV' 2)<|J (gn 11)<|J (lenR 1)<|fun hl1=>bdE hr fun q1 hqq1 hr=>q0b hqq1 hl1 3 (fun k1 _=>[(3,.pb 2 0),(9,dI (y1.Rows.length:Int)),(10,dI (k1:Int))]) (fun k1 _=>[]) I (fun k1 xk1 sk1 ok1 hxk1 hr hltk1 hik1=>?_) fun k1 sk1 ek1 hltk1=>?_
 refine bdE hr fun y2 hy2 hr=>J g<|J (CB' [] [1] (z8w (m:=.bo) hy2))<|J (gn 1)<|ifE hr ?_ ?_<;>intro h1 hr
 exact e
 exact e
 subst ek1
 exact e
theorem j2T {m:Md}{m2:Md}{a0:(List Int)}{a1:Rl_}{o0:found}{o1:Bool}{r:(Bool×found×Bool)}(hr:q9H a0 a1 o0 o1=some r):Ok Tryz.prog 93 [.ref 2 none,Rl_.x m a1,.pb 1 0,.pb 0 0] [.box [dI o0.summary.N,.ref 3 none,dS o0.rule.Name,dS o0.rule.Left,.d m2 (.sl 1 (o0.rule.Right.map A.D.s)),dB o0.rule.Literal,.d m2 (.sl 9 (o0.rule.Equations.map Eqn.D)),.d m2 (.sl 16 (o0.rule.Contributions.map Cn.D)),.ref 4 none],.box [dB o1],.row .fz 1 (a0.map (A.D.i .i64)),.row .fz 1 (o0.summary.Rows.map (A.D.i .i64)),.row .fz 1 (o0.children.map (A.D.i .i64))] (dB r.1) [.box [dI r.2.1.summary.N,.ref 3 none,dS r.2.1.rule.Name,dS r.2.1.rule.Left,.d m2 (.sl 1 (o0.rule.Right.map A.D.s)),dB r.2.1.rule.Literal,.d m2 (.sl 9 (o0.rule.Equations.map Eqn.D)),.d m2 (.sl 16 (o0.rule.Contributions.map Cn.D)),.ref 5 none],.box [dB r.2.2],.row .fz 1 (a0.map (A.D.i .i64)),.row .fz 1 (r.2.1.summary.Rows.map (A.D.i .i64)),.dead,.row .fz 1 (r.2.1.children.map (A.D.i .i64))]:=by
 refine Ok.enter rfl Tryz.func93 rfl rfl rfl fun S hS=>?_
 unfold q9H at hr
 refine sr ?_
 refine BX 5 ?_
 refine N1 ?_
 refine ssr ?_
 refine W1 ?_
 refine bdE hr fun y1 hy1 hr=>?_
 refine CB [] [] (j8Y (m:=m) hy1) ?_
 refine SB ?_
 refine N0 ?_
 refine sr ?_
 refine N1 ?_
 refine ifE hr (fun h1 hr=>?_) fun h1 hr=>?_
 refine q0G rfl h1 ?_
 refine q0n ?_
 refine W1 ?_
 refine bdE hr fun y2 hy2 hr=>?_
 refine CB [(0,6)] [2] (q9W (m:=.bo) hy2) ?_
 refine W1 ?_
 refine SB ?_
 refine N0 ?_
 refine sr ?_
 refine N3 ?_
 refine q0w ?_
 refine endA.gh (q0T (i:=4) (j:=7) rfl rfl) ?_
 cases hr
 exact q0l [(0,0),(1,1),(2,2),(3,3),(4,4),(6,5)] 6 hS
 refine q0S rfl (bF h1) ?_
 refine q0z ?_
 refine sr ?_
 refine N3 ?_
 refine q0w ?_
 refine endA.gh (q0T (i:=4) (j:=6) rfl rfl) ?_
 cases hr
 exact q0l [(0,0),(1,1),(2,2),(3,3),(4,4),(6,5)] 6 hS
theorem z1B {m2:Md}{a0:(List Int)}{o0:found}{o1:Bool}{o2:Gm_}{o3:Rule}{o4:(List (List found))}{o6:(List Int)}{r:(Bool×found×Bool)}(hr:q4Z a0 o0 o1 o2 o3 o4 o6=some r):Ok Tryz.prog 113 [.ref 7 none,.pb 4 0,.pb 6 0,.pb 5 0,.pb 2 0,.pb 3 0] [.box [dI o0.summary.N,.ref 9 none,dS o0.rule.Name,dS o0.rule.Left,.d m2 (.sl 1 (o0.rule.Right.map A.D.s)),dB o0.rule.Literal,.d m2 (.sl 9 (o0.rule.Equations.map Eqn.D)),.d m2 (.sl 16 (o0.rule.Contributions.map Cn.D)),.ref 10 none],.box [dB o1],.box [.d m2 (.sl 2 (o2.Symbols.map Symbol.D)),.d m2 (.sl 6 (o2.Rules.map Rule.D))],.box [dS o3.Name,dS o3.Left,.d m2 (.sl 1 (o3.Right.map A.D.s)),dB o3.Literal,.d m2 (.sl 9 (o3.Equations.map Eqn.D)),.d m2 (.sl 16 (o3.Contributions.map Cn.D))],.box [.d m2 (.sl 1 (o4.map (fun (l:List found)=>A.D.sl 9 (l.map found.D))))],.box [.fn 93 [.pb 1 0,.pb 0 0]],.box [.ref 8 none],.row .fz 1 (a0.map (A.D.i .i64)),.row .fz 1 (o6.map (A.D.i .i64)),.row .fz 1 (o0.summary.Rows.map (A.D.i .i64)),.row .fz 1 (o0.children.map (A.D.i .i64))] (dB r.1) [.box [dI r.2.1.summary.N,.ref 9 none,dS r.2.1.rule.Name,dS r.2.1.rule.Left,.d m2 (.sl 1 (o0.rule.Right.map A.D.s)),dB r.2.1.rule.Literal,.d m2 (.sl 9 (o0.rule.Equations.map Eqn.D)),.d m2 (.sl 16 (o0.rule.Contributions.map Cn.D)),.ref 11 none],.box [dB r.2.2],.box [.d m2 (.sl 2 (o2.Symbols.map Symbol.D)),.d m2 (.sl 6 (o2.Rules.map Rule.D))],.box [dS o3.Name,dS o3.Left,.d m2 (.sl 1 (o3.Right.map A.D.s)),dB o3.Literal,.d m2 (.sl 9 (o3.Equations.map Eqn.D)),.d m2 (.sl 16 (o3.Contributions.map Cn.D))],.box [.d m2 (.sl 1 (o4.map (fun (l:List found)=>A.D.sl 9 (l.map found.D))))],.box [.fn 93 [.pb 1 0,.pb 0 0]],.box [.ref 8 none],.row .fz 1 (a0.map (A.D.i .i64)),.row .fz 1 (o6.map (A.D.i .i64)),.row .fz 1 (r.2.1.summary.Rows.map (A.D.i .i64)),.dead,.row .fz 1 (r.2.1.children.map (A.D.i .i64))]:=by
 refine OE Tryz.func113 fun S hS=>?_
 unfold q4Z at hr
 refine J g<|J (L0' 11 Rl_.D)<|J (gn 10)<|J (lenR 7)<|fun hl1=>bdE hr fun s1 hqq1 hr=>?_
 refine q0c hqq1 hl1 12 (fun k1 s1=>[(0,.ref 7 none),(1,.pb 4 0),(2,.pb 6 0),(3,.pb 5 0),(4,.pb 2 0),(5,.pb 3 0),(8,.ref 11 none),(12,.ref 7 none),(13,dI (a0.length:Int)),(14,dI (k1:Int))]) (fun k1 s1=>[(11,.row m2 2 (s1.map Rl_.D))]) (GH.trans (q1a (r:=11) m2 rfl) I) (fun k1 xk1 sk1 ok1 hxk1 hr hltk1=>?_) fun k1 hltk1=>?_
 obtain⟨s1,rfl⟩:∃ y,y=sk1:=⟨_,rfl⟩
 refine bdE hr fun x1 hx1 hr=>ggE hr fun g1 hr=>bdE hr fun x2 hx2 hr=>ggE hr fun g2 hr=>bdE hr fun x3 hx3 hr=>J g ?_
 refine J (k3l 12 (m:=m2) (f:=Rl_.D) [x3.summary] rfl)<|ggE hr fun g3 hr=>J (AP1' 13 m2 32 g3)<|J (q0K .refl)<|J g<|E
 refine bdE hr fun y1 hy1 hr=>J g<|J (CBz' 12 [(0,12)] [11] (z6U (m:=.bo) hy1))<|bdT hr fun y2 z1 z2 hq2 hr=>CBK2 [(2,7)] [(0,0),(1,1),(3,9),(4,10),(5,13)] [] (j2T (m:=.fz) (m2:=m2) hq2) ?_
 exact e
theorem q7N {m2:Md}{a0:(List Int)}{o0:found}{o1:Bool}{o2:Gm_}{o3:Rule}{o4:(List (List found))}{o6:(List Int)}{r:(found×Bool)}(hr:q3W a0 o0 o1 o2 o3 o4 o6=some r):Ok Tryz.prog 112 [.ref 7 none,.fn 113 [.pb 4 0,.pb 6 0,.pb 5 0,.pb 2 0,.pb 3 0]] [.box [dI o0.summary.N,.ref 9 none,dS o0.rule.Name,dS o0.rule.Left,.d m2 (.sl 1 (o0.rule.Right.map A.D.s)),dB o0.rule.Literal,.d m2 (.sl 9 (o0.rule.Equations.map Eqn.D)),.d m2 (.sl 16 (o0.rule.Contributions.map Cn.D)),.ref 10 none],.box [dB o1],.box [.d m2 (.sl 2 (o2.Symbols.map Symbol.D)),.d m2 (.sl 6 (o2.Rules.map Rule.D))],.box [dS o3.Name,dS o3.Left,.d m2 (.sl 1 (o3.Right.map A.D.s)),dB o3.Literal,.d m2 (.sl 9 (o3.Equations.map Eqn.D)),.d m2 (.sl 16 (o3.Contributions.map Cn.D))],.box [.d m2 (.sl 1 (o4.map (fun (l:List found)=>A.D.sl 9 (l.map found.D))))],.box [.fn 93 [.pb 1 0,.pb 0 0]],.box [.ref 8 none],.row .fz 1 (a0.map (A.D.i .i64)),.row .fz 1 (o6.map (A.D.i .i64)),.row .fz 1 (o0.summary.Rows.map (A.D.i .i64)),.row .fz 1 (o0.children.map (A.D.i .i64))] (.tu []) [.box [dI r.1.summary.N,.ref 9 none,dS r.1.rule.Name,dS r.1.rule.Left,.d m2 (.sl 1 (o0.rule.Right.map A.D.s)),dB r.1.rule.Literal,.d m2 (.sl 9 (o0.rule.Equations.map Eqn.D)),.d m2 (.sl 16 (o0.rule.Contributions.map Cn.D)),.ref 11 none],.box [dB r.2],.box [.d m2 (.sl 2 (o2.Symbols.map Symbol.D)),.d m2 (.sl 6 (o2.Rules.map Rule.D))],.box [dS o3.Name,dS o3.Left,.d m2 (.sl 1 (o3.Right.map A.D.s)),dB o3.Literal,.d m2 (.sl 9 (o3.Equations.map Eqn.D)),.d m2 (.sl 16 (o3.Contributions.map Cn.D))],.box [.d m2 (.sl 1 (o4.map (fun (l:List found)=>A.D.sl 9 (l.map found.D))))],.box [.fn 93 [.pb 1 0,.pb 0 0]],.box [.ref 8 none],.row .fz 1 (a0.map (A.D.i .i64)),.row .fz 1 (o6.map (A.D.i .i64)),.row .fz 1 (r.1.summary.Rows.map (A.D.i .i64)),.dead,.row .fz 1 (r.1.children.map (A.D.i .i64))]:=by
 refine OE Tryz.func112 fun S hS=>?_
 unfold q3W at hr
 refine bdE hr fun y1 hy1 hr=>J g<|J (CB' [] [7] (z1i (m:=.bo) hy1))<|J (gn 1)<|ifE hr ?_ ?_<;>intro h1 hr
 refine J (gn 2) ?_
 refine J (q0d (q0T (i:=10) (j:=11) rfl rfl))<|J g<|E
 refine ggE hr fun g1 hr=>J g<|J (MKR' 11 (f:=(A.D.i .i64)) (0:Int) g1.1 g1.2.1 g1.2.2)<|J (gn 2) ?_
 refine J (q1J 10 12 rfl)<|bdE hr fun q1 hqq1 hr=>AW.cut 13 (fun (s2,s3,s4,s5,s6,s7,s1,s8)=>[]) (fun (s2,s3,s4,s5,s6,s7,s1,s8)=>[(0,.box [dI s3,.ref 9 none,dS s5,dS s6,.d m2 (.sl 1 (o0.rule.Right.map A.D.s)),dB s7,.d m2 (.sl 9 (o0.rule.Equations.map Eqn.D)),.d m2 (.sl 16 (o0.rule.Contributions.map Cn.D)),.ref 12 none]),(1,.box [dB s8]),(9,.row .fz 1 (s4.map (A.D.i .i64))),(11,.row .fz 1 (s2.map (A.D.i .i64))),(12,.row .fz 1 (s1.map (A.D.i .i64)))]) (M:=fun x=>q1=.inl x) ?_ fun x hx=>?_
 refine J g<|q0h hqq1 13 (fun (s10,s11,s12,s13,s14,s15,s9,s16)=>[(0,.ref 7 none),(1,.fn 113 [.pb 4 0,.pb 6 0,.pb 5 0,.pb 2 0,.pb 3 0]),(4,.ref 11 none)]) (fun (s10,s11,s12,s13,s14,s15,s9,s16)=>[(0,.box [dI s11,.ref 9 none,dS s13,dS s14,.d m2 (.sl 1 (o0.rule.Right.map A.D.s)),dB s15,.d m2 (.sl 9 (o0.rule.Equations.map Eqn.D)),.d m2 (.sl 16 (o0.rule.Contributions.map Cn.D)),.ref 12 none]),(1,.box [dB s16]),(9,.row .fz 1 (s12.map (A.D.i .i64))),(11,.row .fz 1 (s10.map (A.D.i .i64))),(12,.row .fz 1 (s9.map (A.D.i .i64)))]) I fun sk1 ok1 hr hik1=>?_
 obtain⟨s10,s11,s12,s13,s14,s15,s9,s16⟩:=sk1
 have hr:=hr
 refine bdT hr fun y2 z1 z2 hq2 hr=>J g<|J (CB' [(0,0),(1,1),(2,2),(3,3),(4,4),(5,5),(6,6),(7,11),(8,8),(9,9),(10,12),(11,13)] [] (z1B (m2:=m2) hq2))<|J (gn 1)<|ifE hr ?_ ?_<;>intro h2 hr
 refine J g<|J (OB' _ (k5C (p:=a0.length) (k:=1) (by decide)))<|bdP hr fun s17 s18 hqq3 hr=>J (gn 3)<|q0e 14 [(0,.ref 7 none),(1,.fn 113 [.pb 4 0,.pb 6 0,.pb 5 0,.pb 2 0,.pb 3 0]),(4,.ref 11 none),(5,dI s17)] [(11,.row .fz 1 (s18.map (A.D.i .i64))),(12,.none)] ?_ ?_
 refine J g<|q0h hqq3 14 (fun (s19,s20)=>[(0,.ref 7 none),(1,.fn 113 [.pb 4 0,.pb 6 0,.pb 5 0,.pb 2 0,.pb 3 0]),(4,.ref 11 none),(5,dI s19)]) (fun (s19,s20)=>[(11,.row .fz 1 (s20.map (A.D.i .i64))),(12,.none)]) I fun sk2 ok2 hr hik2=>?_
 obtain⟨s19,s20⟩:=sk2
 have hr:=hr
 refine J (gn 5)<|ifE hr ?_ ?_<;>intro h3 hr
 refine ggE hr fun g2 hr=>bdE hr fun x1 hx1 hr=>ggE hr fun g3 hr=>bdE hr fun x2 hx2 hr=>ggE hr fun g4 hr=>J (gn 13)<|ifE hr ?_ ?_<;>intro h4 hr
 refine J g<|J (SE' 0 hx1)<|ggE hr fun g5 hr=>e
 refine J (gn 2) ?_
 cases hr
 cases hik2 _ rfl
 exact q0j hS [(0,0),(1,1),(2,2),(3,3),(4,4),(5,5),(6,6),(7,7),(8,8),(9,9),(10,10),(11,11),(13,13)] 14
 refine J (gn 15) ?_
 cases hr
 cases hik2 _ rfl
 exact q0j hS [(0,0),(1,1),(2,2),(3,3),(4,4),(5,5),(6,6),(7,7),(8,8),(9,9),(10,10),(11,11),(13,13)] 14
 refine J (gn 6)<|ifE hr ?_ ?_<;>intro h5 hr
 exact e
 refine ggE hr fun g6 hr=>bdE hr fun x3 hx3 hr=>ggE hr fun g7 hr=>J g<|J (SE' (x3+1) hx3)<|e
 refine J (gn 2) ?_
 cases hr
 cases hik1 _ rfl
 exact⟨_,rfl,q0j hS [(0,0),(1,1),(2,2),(3,3),(4,4),(5,5),(6,6),(7,7),(8,8),(9,9),(10,10),(11,11),(13,12)] 13⟩
 subst hx
 obtain⟨s2,s3,s4,s5,s6,s7,s1,s8⟩:=x
 exact e
theorem z2v {m:Md}{a0:Gm_}{a1:Rule}{a2:(List (List found))}{a3:(List Int)}{o0:found}{o1:Bool}{r:(found×Bool)}(hr:q5n a0 a1 a2 a3 o0 o1=some r):Ok Tryz.prog 68 [Gm_.x m a0,Rule.x m a1,.d m (.sl 1 (a2.map (fun (l:List found)=>A.D.sl 9 (l.map found.D)))),.ref 2 none,.fn 93 [.pb 1 0,.pb 0 0]] [.box [dI o0.summary.N,.ref 3 none,dS o0.rule.Name,dS o0.rule.Left,.d m (.sl 1 (o0.rule.Right.map A.D.s)),dB o0.rule.Literal,.d m (.sl 9 (o0.rule.Equations.map Eqn.D)),.d m (.sl 16 (o0.rule.Contributions.map Cn.D)),.ref 4 none],.box [dB o1],.row .fz 1 (a3.map (A.D.i .i64)),.row .fz 1 (o0.summary.Rows.map (A.D.i .i64)),.row .fz 1 (o0.children.map (A.D.i .i64))] (.tu []) [.box [dI r.1.summary.N,.ref 3 none,dS r.1.rule.Name,dS r.1.rule.Left,.d m (.sl 1 (o0.rule.Right.map A.D.s)),dB r.1.rule.Literal,.d m (.sl 9 (o0.rule.Equations.map Eqn.D)),.d m (.sl 16 (o0.rule.Contributions.map Cn.D)),.ref 5 none],.box [dB r.2],.row .fz 1 (a3.map (A.D.i .i64)),.row .fz 1 (r.1.summary.Rows.map (A.D.i .i64)),.dead,.row .fz 1 (r.1.children.map (A.D.i .i64))]:=by
 refine OE Tryz.func68 fun S hS=>?_
 unfold q5n at hr
 refine J g<|J (BX' 5)<|J (BX' 6)<|J (BX' 7)<|J (BX' 8)<|J g<|J (L0' 9 (A.D.i .i64))<|J (L0' 10 (A.D.i .i64))<|J (NV' 11)<|J (gn 12)<|J (lenA 2 1)<|fun hl1=>bdP hr fun s1 s2 hqq1 hr=>q0c hqq1 hl1 12 (fun k1 (s1,s2)=>[(3,.ref 2 none),(5,.pb 5 0),(6,.pb 6 0),(7,.pb 7 0),(9,.pb 8 0),(10,.ref 9 none),(11,.pb 11 0),(18,.d m (.sl 1 (a1.Right.map A.D.s))),(19,dI (a1.Right.length:Int)),(20,dI (k1:Int))]) (fun k1 (s1,s2)=>[(9,.row .fz 1 (s1.map (A.D.i .i64))),(10,.row .fz 1 (s2.map (A.D.i .i64)))]) I (fun k1 xk1 sk1 ok1 hxk1 hr hltk1=>?_) fun k1 hltk1=>?_
 obtain⟨s1,s2⟩:=sk1
 refine bdE hr fun y1 hy1 hr=>J g<|J (CB' [] [] (q8V (m:=m) hy1))<|ggE hr fun g1 hr=>bdE hr fun x1 hx1 hr=>J g<|J (LIR' 12 (m:=.fz) (f:=(A.D.i .i64)) (xs:=([x1]:List Int)))<|ggE hr fun g2 hr=>J (q9P (f:=(A.D.i .i64)) 13 (fun _=>rfl) 8 g2)<|J g<|J (LIR' 14 (m:=.fz) (f:=(A.D.i .i64)) (xs:=([y1]:List Int)))<|ggE hr fun g3 hr=>J (q9P (f:=(A.D.i .i64)) 15 (fun _=>rfl) 8 g3)<|J (q0K .refl)<|e
 refine bdP hr fun z1 z2 hq2 hr=>J g<|J (CB' [(0,0),(1,1),(2,5),(3,6),(4,7),(5,8),(6,11),(7,9),(8,10),(9,3),(10,4),(11,12)] [] (q7N (m2:=m) hq2))<|e
theorem j5K {m:Md}{a0:Gm_}{a1:(List (List found))}{r:(found×Bool)}(hr:z4i a0 a1=some r):Ok Tryz.prog 53 [Gm_.x m a0,.d m (.sl 1 (a1.map (fun (l:List found)=>A.D.sl 9 (l.map found.D))))] [] (.tu [.ag [dI r.1.summary.N,.ref 0 none,dS r.1.rule.Name,dS r.1.rule.Left,.d m (.sl 1 (r.1.rule.Right.map A.D.s)),dB r.1.rule.Literal,.d m (.sl 9 (r.1.rule.Equations.map Eqn.D)),.d m (.sl 16 (r.1.rule.Contributions.map Cn.D)),.ref 1 none],dB r.2]) [.row .fz 1 (r.1.summary.Rows.map (A.D.i .i64)),.row .fz 1 (r.1.children.map (A.D.i .i64))]:=by
 refine OE Tryz.func53 fun S hS=>?_
 unfold z4i at hr
 refine J g<|J (BX' 0)<|J (NV' 1)<|J (gn 11)<|J (lenA 1 0)<|fun hl1=>bdE hr fun q1 hqq1 hr=>q0b hqq1 hl1 2 (fun k1 _=>[(1,.d m (.sl 1 (a1.map (fun (l:List found)=>A.D.sl 9 (l.map found.D))))),(2,.pb 0 0),(4,.pb 1 0),(11,.d m (.sl 6 (a0.Rules.map Rule.D))),(12,dI (a0.Rules.length:Int)),(13,dI (k1:Int))]) (fun k1 _=>[]) I (fun k1 xk1 sk1 ok1 hxk1 hr hltk1 hik1=>?_) fun k1 sk1 ek1 hltk1=>?_
 refine J g<|J (NV' 2)<|J g<|J (NV' 3)<|J (NV' 4)<|bdE hr fun y1 hy1 hr=>J g<|J (CB' [(0,5)] [] (j2Q (m:=m) hy1))<|J g ?_
 refine q1F 3 1 6 .fz 1 rfl rfl ?_
 refine q1F 3 8 7 .fz 1 rfl rfl ?_
 refine bdP hr fun z1 z2 hq2 hr=>CBK2 [(2,5)] [(0,3),(1,4),(3,6),(4,7),(5,8)] [] (z2v (m:=m) hq2) ?_
 refine J (gn 5)<|ifE hr ?_ ?_<;>intro h1 hr
 exact e
 exact e
 subst ek1
 refine J (gn 14) ?_
 refine J (q0d (q0i (q:=1) (c:=1) (r:=2) .fz 1 rfl rfl rfl)) ?_
 refine J (q0d (q0i (q:=1) (c:=8) (r:=3) .fz 1 rfl rfl rfl)) ?_
 cases hr
 exact endA.ren [(2,0),(3,1)] 2 (.inr rfl) hS rfl rfl rfl (.tu (.cons (.ag (.cons .rfl (.cons .rfl (.cons .rfl (.cons .rfl (.cons .nld (.cons .rfl (.cons .nld (.cons .nld (.cons .rfl .nil)))))))))) (.cons .rfl .nil))) rfl rfl
theorem z6a {m:Md}{a0:Gm_}{r:(Tree×Bool)}(hr:q7K a0=some r):Ok Tryz.prog 19 [Gm_.x m a0] [] (.tu [.ag [.ref 0 none],dB r.2]) [.deep .fz 6 (r.1.Nodes.map Node.W) []]:=by
 refine OE Tryz.func19 fun S hS=>?_
 unfold q7K at hr
 refine J g<|J (BX' 0)<|J (NV' 1)<|bdE hr fun y1 hy1 hr=>J g<|J (CB' [] [] (j0R (m:=m) hy1))<|J (gn 2)<|ifE hr ?_ ?_<;>intro h1 hr
 refine bdE hr fun y2 hy2 hr=>J g<|J (CB' [(0,2)] [] (j2S (m:=m) hy2))<|J (gn 6) ?_
 refine q3J 2 (fun (l:List found)=>A.D.sl 9 (l.map found.D)) (by exact fun _=>rfl) rfl ?_
 refine bdP hr fun y3 y4 hq1 hr=>J (CB' [(0,3),(1,4)] [] (j5K (m:=m) hq1))<|J g<|J (NV' 5)<|J (gn 9)<|ifE hr ?_ ?_<;>intro h2 hr
 refine bdP hr fun y5 y6 hq2 hr=>J g<|J (CB' [(0,6)] [3,4] (j7w (m:=.bo) hq2))<|e
 refine J (gn 8) ?_
 refine J (q0d (q0i (q:=1) (c:=0) (r:=6) .fz 6 rfl rfl rfl))<|J (q0d (q0x 6 Node.W))<|J g<|E
 refine J (gn 8) ?_
 refine J (q0d (q0i (q:=1) (c:=0) (r:=2) .fz 6 rfl rfl rfl))<|J (q0d (q0x 2 Node.W))<|J g<|E
end Go.Proofs.YtipikecbeganoaaGreat
