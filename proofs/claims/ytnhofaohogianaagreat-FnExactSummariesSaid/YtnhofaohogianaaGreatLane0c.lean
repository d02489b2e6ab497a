/- What some functions of the program compute, as partial functions on plain data, and that they do; each lemma bears its conditions in its statement. -/
import Derived.Test.YtnhofaohogianaaGreatLane0b
set_option linter.unusedVariables false
set_option linter.unusedSimpArgs false
set_option linter.ambiguousOpen false
set_option linter.unusedSectionVars false
set_option linter.unnecessarySimpa false
set_option maxRecDepth 100000
set_option maxHeartbeats 40000000
noncomputable section
open List renaming set_set→Dnz
open Int renaming natCast_nonneg→Dmz
namespace Go.Proofs.YtnhofaohogianaaGreat
open Go Go.E Go.A
theorem j3x {m:Md}{a0:Gm_}{a1:Rule}{a2:Rl_}{r:Rl_}(hr:q9t a0 a1 a2=some r):Ok Tryz.prog 45 [Gm_.y m a0,Rule.x m a1,Rl_.x m a2] [] (.ag [dI r.N,.ref 0 none]) [.row .fz 1 (r.Rows.map (A.D.i .i64))]:=by
 refine OE Tryz.func45 fun S hS=>?_
 unfold q9t at hr
 refine J g<|J (BX' 0)<|J (BX' 1)<|J (BX' 2)<|J (NV' 3)<|bdE hr fun y1 hy1 hr=>J g<|J (CB' [(0,4)] [] (q9o (m:=m) hy1))<|bdE hr fun y2 hy2 hr=>J g<|J (CB' [(0,5)] [] (z2E (m:=m) hy2))<|bdE hr fun y3 hy3 hr=>J g<|J (CB' [(0,6)] [] (z4e hy3))<|J (NV' 7)<|J (gn 10)<|J (lenR 4)<|fun hl1=>bdP hr fun s1 s2 hqq1 hr=>q0c hqq1 hl1 8 (fun k1 (s1,s2)=>[(5,.pb 2 0),(6,.pb 3 0),(7,.ref 4 none),(8,.ref 5 none),(9,.pb 7 0),(24,.ref 4 none),(25,dI (y1.length:Int)),(26,dI (k1:Int))]) (fun k1 (s1,s2)=>[(6,.row .fz 1 (s1.map (A.D.i .i64))),(7,.box [dI s2,.ref 6 none])]) I (fun k1 xk1 sk1 ok1 hxk1 hr hltk1=>?_) fun k1 hltk1=>?_
 obtain⟨s1,s2⟩:=sk1
 refine J g<|J (NV' 8)<|J (gn 10)<|J (lenR 4)<|fun hl2=>bdP hr fun s3 s4 hqq2 hr=>q0c hqq2 hl2 9 (fun k2 (s3,s4)=>[(5,.pb 2 0),(6,.pb 3 0),(7,.ref 4 none),(8,.ref 5 none),(9,.pb 7 0),(10,dI (k1:Int)),(11,.pb 8 0),(24,.ref 4 none),(25,dI (y1.length:Int)),(26,dI (k1:Int)),(31,.ref 4 none),(32,dI (y1.length:Int)),(33,dI (k2:Int))]) (fun k2 (s3,s4)=>[(6,.row .fz 1 (s3.map (A.D.i .i64))),(7,.box [dI s4,.ref 6 none])]) I (fun k2 xk2 sk2 ok2 hxk2 hr hltk2=>?_) fun k2 hltk2=>?_
 obtain⟨s3,s4⟩:=sk2
 refine bdP hr fun s5 s6 hqq3 hr=>J (gn 8)<|q0e 9 [(5,.pb 2 0),(6,.pb 3 0),(7,.ref 4 none),(8,.ref 5 none),(9,.pb 7 0),(10,dI (k1:Int)),(11,.pb 8 0),(24,.ref 4 none),(25,dI (y1.length:Int)),(26,dI (k1:Int)),(31,.ref 4 none),(32,dI (y1.length:Int)),(33,dI (k2:Int))] [(6,.row .fz 1 (s5.map (A.D.i .i64))),(7,.box [dI s6,.ref 6 none])] ?_ ?_
 replace hr:=hqq3
 refine J g<|J (NV' 9)<|J (gn 8)<|ifE hr ?_ ?_<;>intro h1 hr
 refine J (gn 5)<|ifE hr ?_ ?_<;>intro h2 hr
 refine bdE hr fun x1 hx1 hr=>bdE hr fun x2 hx2 hr=>bdE hr fun y4 hy4 hr=>J g<|J (CB' [] [] (j0Y (m:=m) hy4))<|J (gn 2)<|ifE hr ?_ ?_<;>intro h3 hr
 refine bdE hr fun y5 hy5 hr=>J g<|J (CB' [(0,10)] [6] (z6X (m:=.bo) hy5))<|e
 exact e
 exact e
 exact e
 exact e
 exact e
 exact e
theorem z6Y {m:Md}{a0:(List Int)}{a1:(List Int)}{r:Bool}(hr:z0h a0 a1=some r):Ok Tryz.prog 96 [.d m (.sl 1 (a0.map (A.D.i .i64))),.d m (.sl 1 (a1.map (A.D.i .i64)))] [] (dB r) []:=by
 refine OE Tryz.func96 fun S hS=>?_
 unfold z0h at hr
 refine J (gn 13)<|ifE hr ?_ ?_<;>intro h1 hr
 refine J (gn 10)<|J (lenT 0)<|fun hl1=>bdE hr fun q1 hqq1 hr=>q0b hqq1 hl1 0 (fun k1 _=>[(0,.d m (.sl 1 (a0.map (A.D.i .i64)))),(1,.d m (.sl 1 (a1.map (A.D.i .i64)))),(12,dI (a0.length:Int)),(13,dI (k1:Int))]) (fun k1 _=>[]) I (fun k1 xk1 sk1 ok1 hxk1 hr hltk1 hik1=>?_) fun k1 sk1 ek1 hltk1=>?_
 refine bdE hr fun x1 hx1 hr=>J (gn 26)<|ifE hr ?_ ?_<;>intro h2 hr
 exact e
 exact e
 subst ek1
 exact e
 exact e
theorem z8H {m:Md}{a0:Rl_}{a1:Rl_}{r:Bool}(hr:q9g a0 a1=some r):Ok Tryz.prog 48 [Rl_.x m a0,Rl_.x m a1] [] (dB r) []:=by
 refine OE Tryz.func48 fun S hS=>?_
 unfold q9g at hr
 refine J g<|J (BX' 0)<|J (BX' 1)<|J (gn 9)<|ifE hr ?_ ?_<;>intro h1 hr
 refine bdE hr fun y1 hy1 hr=>J g<|J (CB' [] [] (z6Y (m:=m) hy1))<|e
 exact e
theorem j1a {m:Md}{a0:Fo_}{a1:Rl_}{r:Bool}(hr:z1e a0 a1=some r):Ok Tryz.prog 47 [Fo_.x m a0,.pb 0 0] [.box [dI a1.N,.ref 1 none],.row .fz 1 (a1.Rows.map (A.D.i .i64))] (dB r) [.box [dI a1.N,.ref 1 none],.row .fz 1 (a1.Rows.map (A.D.i .i64))]:=by
 refine OE Tryz.func47 fun S hS=>?_
 unfold z1e at hr
 refine J g<|J (BX' 2)<|bdE hr fun y1 hy1 hr=>J g<|J (CB' [] [1] (z8H (m:=.bo) hy1))<|e
theorem q8F {m:Md}{a0:(List Fo_)}{a1_0:Rl_}{r:Int}(hr:q4F a0 a1_0=some r):Ok Tryz.prog 95 [.d m (.sl 9 (a0.map Fo_.D)),.fn 47 [.pb 0 0]] [.box [dI a1_0.N,.ref 1 none],.row .fz 1 (a1_0.Rows.map (A.D.i .i64))] (dI r) [.box [dI a1_0.N,.ref 1 none],.row .fz 1 (a1_0.Rows.map (A.D.i .i64))]:=by
 refine OE Tryz.func95 fun S hS=>?_
 unfold q4F at hr
 refine J (gn 12)<|J (lenT 0)<|fun hl1=>bdE hr fun q1 hqq1 hr=>q0b hqq1 hl1 2 (fun k1 _=>[(0,.d m (.sl 9 (a0.map Fo_.D))),(1,.fn 47 [.pb 0 0]),(7,dI (a0.length:Int)),(8,dI (k1:Int))]) (fun k1 _=>[]) I (fun k1 xk1 sk1 ok1 hxk1 hr hltk1 hik1=>?_) fun k1 sk1 ek1 hltk1=>?_
 refine bdE hr fun y1 hy1 hr=>J g<|J (CB' [(0,0),(1,1)] [] (j1a (m:=m) hy1))<|J (gn 1)<|ifE hr ?_ ?_<;>intro h1 hr
 exact e
 exact e
 subst ek1
 exact e
theorem q7T {m:Md}{a0:(List Fo_)}{a1_0:Rl_}{r:Bool}(hr:q3X a0 a1_0=some r):Ok Tryz.prog 46 [.d m (.sl 9 (a0.map Fo_.D)),.fn 47 [.pb 0 0]] [.box [dI a1_0.N,.ref 1 none],.row .fz 1 (a1_0.Rows.map (A.D.i .i64))] (dB r) [.box [dI a1_0.N,.ref 1 none],.row .fz 1 (a1_0.Rows.map (A.D.i .i64))]:=by
 refine OE Tryz.func46 fun S hS=>?_
 unfold q3X at hr
 refine bdE hr fun y1 hy1 hr=>J g<|J (CB' [(0,0),(1,1)] [] (q8F (m:=m) hy1))<|e
theorem j3y {m:Md}{m2:Md}{a0:(List Int)}{a1:Rl_}{o0:Gm_}{o1:(List (List Fo_))}{o2:Bool}{o3:Rule}{o4:Int}{r:(Bool×(List (List Fo_))×Bool)}(hr:z1q a0 a1 o0 o1 o2 o3 o4=some r):Ok Tryz.prog 44 [.ref 5 none,Rl_.x m a1,.pb 0 0,.pb 3 0,.pb 1 0,.pb 4 0,.pb 2 0] [.box [.d m2 (.sl 2 (o0.ss_.map Symbol.D)),.d m2 (.sl 6 (o0.rs_.map Rule.D))],.box [.ref 6 none],.box [dB o2],.box [dS o3.Name,dS o3.Left,.d m2 (.sl 1 (o3.rt_.map A.D.s)),dB o3.ll_,.d m2 (.sl 9 (o3.es_.map Eqn.D)),.d m2 (.sl 16 (o3.cs_.map Cn.D))],.box [dI o4],.row .fz 1 (a0.map (A.D.i .i64)),.deep .fz 1 (o1.map (fun (l:List Fo_)=>[Cell.w 9 (l.map Fo_.D)])) []] (dB r.1) [.box [.d m2 (.sl 2 (o0.ss_.map Symbol.D)),.d m2 (.sl 6 (o0.rs_.map Rule.D))],.box [.ref 6 none],.box [dB r.2.2],.box [dS o3.Name,dS o3.Left,.d m2 (.sl 1 (o3.rt_.map A.D.s)),dB o3.ll_,.d m2 (.sl 9 (o3.es_.map Eqn.D)),.d m2 (.sl 16 (o3.cs_.map Cn.D))],.box [dI o4],.row .fz 1 (a0.map (A.D.i .i64)),.deep .fz 1 (r.2.1.map (fun (l:List Fo_)=>[Cell.w 9 (l.map Fo_.D)])) []]:=by
 refine Ok.enter rfl Tryz.func44 rfl rfl rfl fun S hS=>?_
 unfold z1q at hr
 refine sr ?_
 refine BX 7 ?_
 refine N1 ?_
 refine sr ?_
 refine W3 ?_
 refine bdE hr fun y1 hy1 hr=>?_
 refine CB [(0,8)] [] (j3x (m:=.bo) hy1) ?_
 refine NV 9 ?_
 refine SB ?_
 refine N0 ?_
 refine ssr ?_
 refine W2 ?_
 refine ggE hr fun g1 hr=>?_
 refine bdE hr fun x1 hx1 hr=>?_
 refine IEd g1 (q3I hx1) ?_
 refine AL.out 6 o4.toNat 0 10 (q3I hx1) ?_
 refine LPd [(0,10)] (q3H (q3I hx1)) ?_
 refine W1 ?_
 refine bdE hr fun y2 hy2 hr=>?_
 refine CB [(0,9),(1,8)] [10] (q7T (m:=.bo) hy2) ?_
 refine N1 ?_
 refine ifE hr (fun h1 hr=>?_) fun h1 hr=>?_
 refine q0E rfl (bnF h1) ?_
 refine q0r ?_
 refine sr ?_
 refine N1 ?_
 refine q0u ?_
 refine endA.gh (q0k 6 o4.toNat 0 10 (q3H (q3I hx1)) (hx:=.ownM (f:=Fo_.D))) ?_
 refine endA.gh (q0j 6 (he:=k6w (f:=(fun (l:List Fo_)=>[Cell.w 9 (l.map Fo_.D)])) hx1 (by first|rfl|(simp only[Dnz];rfl)))) ?_
 cases hr
 exact q0l [(0,0),(1,1),(2,2),(3,3),(4,4),(5,5),(6,6)] 7 hS
 refine q0D rfl (bnT h1) ?_
 refine AW.seq (q0z (h:=?_))
 refine W4 ?_
 refine IEd g1 (q3H (q3I hx1)) ?_
 refine LPd [(0,10)] (q3H (q3I hx1)) ?_
 refine W3 ?_
 refine bdE hr fun y3 hy3 hr=>?_
 refine CB [(0,11)] [5] (z2D (m:=.bo) hy3) ?_
 refine W1 ?_
 refine LID (f:=Fo_.W) 12 (⟨y1,o3,y3⟩:Fo_) [8,11] ?_
 refine ggE hr fun g2 hr=>?_
 refine APD1 13 168 g2 ?_
 refine IEd g1 (q3H (q3I hx1)) ?_
 refine SD [.w 9 ((x1++[(⟨y1,o3,y3⟩:Fo_)]).map Fo_.D)] [13] (q3H (q3I hx1)) ?_
 refine N0 ?_
 refine q0i ?_
 refine SB ?_
 refine N0 ?_
 refine sr ?_
 refine N1 ?_
 refine q0u ?_
 refine endA.gh (q0j 6 (he:=eset (f:=(fun (l:List Fo_)=>[Cell.w 9 (l.map Fo_.D)])) (x':=(x1++[(⟨y1,o3,y3⟩:Fo_)])) (by first|rfl|(simp only[Dnz];rfl)))) ?_
 cases hr
 exact q0l [(0,0),(1,1),(2,2),(3,3),(4,4),(5,5),(6,6)] 7 hS
theorem z1A {m2:Md}{a0:(List Int)}{o0:Gm_}{o1:(List (List Fo_))}{o2:Bool}{o3:Rule}{o4:Int}{o5:Gm_}{o6:Rule}{o7:(List (List Fo_))}{o9:(List Int)}{r:(Bool×(List (List Fo_))×Bool×(List (List Fo_)))}(hr:q4W a0 o0 o1 o2 o3 o4 o5 o6 o7 o9=some r):Ok Tryz.prog 88 [.ref 10 none,.pb 7 0,.pb 9 0,.pb 8 0,.pb 5 0,.pb 6 0] [.box [.d m2 (.sl 2 (o0.ss_.map Symbol.D)),.d m2 (.sl 6 (o0.rs_.map Rule.D))],.box [.ref 11 none],.box [dB o2],.box [dS o3.Name,dS o3.Left,.d m2 (.sl 1 (o3.rt_.map A.D.s)),dB o3.ll_,.d m2 (.sl 9 (o3.es_.map Eqn.D)),.d m2 (.sl 16 (o3.cs_.map Cn.D))],.box [dI o4],.box [.d m2 (.sl 2 (o5.ss_.map Symbol.D)),.d m2 (.sl 6 (o5.rs_.map Rule.D))],.box [dS o6.Name,dS o6.Left,.d m2 (.sl 1 (o6.rt_.map A.D.s)),dB o6.ll_,.d m2 (.sl 9 (o6.es_.map Eqn.D)),.d m2 (.sl 16 (o6.cs_.map Cn.D))],.box [.ref 11 none],.box [.fn 44 [.pb 0 0,.pb 3 0,.pb 1 0,.pb 4 0,.pb 2 0]],.box [.ref 12 none],.row .fz 1 (a0.map (A.D.i .i64)),.deep .fz 1 (o7.map (fun (l:List Fo_)=>[Cell.w 9 (l.map Fo_.D)])) [],.row .fz 1 (o9.map (A.D.i .i64))] (dB r.1) [.box [.d m2 (.sl 2 (o0.ss_.map Symbol.D)),.d m2 (.sl 6 (o0.rs_.map Rule.D))],.box [.ref 11 none],.box [dB r.2.2.1],.box [dS o3.Name,dS o3.Left,.d m2 (.sl 1 (o3.rt_.map A.D.s)),dB o3.ll_,.d m2 (.sl 9 (o3.es_.map Eqn.D)),.d m2 (.sl 16 (o3.cs_.map Cn.D))],.box [dI o4],.box [.d m2 (.sl 2 (o5.ss_.map Symbol.D)),.d m2 (.sl 6 (o5.rs_.map Rule.D))],.box [dS o6.Name,dS o6.Left,.d m2 (.sl 1 (o6.rt_.map A.D.s)),dB o6.ll_,.d m2 (.sl 9 (o6.es_.map Eqn.D)),.d m2 (.sl 16 (o6.cs_.map Cn.D))],.box [.ref 11 none],.box [.fn 44 [.pb 0 0,.pb 3 0,.pb 1 0,.pb 4 0,.pb 2 0]],.box [.ref 12 none],.row .fz 1 (a0.map (A.D.i .i64)),.deep .fz 1 (r.2.2.2.map (fun (l:List Fo_)=>[Cell.w 9 (l.map Fo_.D)])) [],.row .fz 1 (o9.map (A.D.i .i64))]:=by
 refine Ok.enter rfl Tryz.func88 rfl rfl rfl fun S hS=>?_
 unfold q4W at hr
 intro F g w ρc hs hv
 obtain⟨vE,hE1,hE2⟩:=k4P (r:=8) hs rfl (hv 3)
 have i1:=j3l (vw:=[11]) hs [.sl 1 (o7.map (fun (l:List Fo_)=>A.D.sl 9 (l.map Fo_.D)))] (r:=7) rfl (.cons (.dd (DA (by exact fun _=>rfl) rfl) rfl) .nil) (hv 1)
 have i2:=j3l (vw:=[12]) hs [.sl 1 (o9.map (A.D.i .i64))] (r:=9) rfl (.cons (.rd rfl rfl) .nil) (hv 2)
 have i4:=j3l (vw:=[]) hs [.sl 2 (o5.ss_.map Symbol.D),.sl 6 (o5.rs_.map Rule.D)] (r:=5) rfl (.cons (.d z3L) (.cons (.d z3L) .nil)) (hv 4)
 have i5:=j3l (vw:=[]) hs [.s o6.Name,.s o6.Left,.sl 1 (o6.rt_.map A.D.s),.b o6.ll_,.sl 9 (o6.es_.map Eqn.D),.sl 16 (o6.cs_.map Cn.D)] (r:=6) rfl (.cons (.d z3L) (.cons (.d z3L) (.cons (.d z3L) (.cons (.d z3L) (.cons (.d z3L) (.cons (.d z3L) .nil)))))) (hv 5)
 have i0:=k0h (vw:=[10]) (y:=.d .bo (.sl 1 (a0.map (A.D.i .i64)))) hs (.rd rfl rfl) (hv 0)
 have hS' : (j1S S F g w).n0=0:=rfl
 have h00:=hv 0
 refine (?key:CWs Tryz.prog (j1S S F g w) _ _ _ (Go.A.ofX [(0,.kv (ρc 0)),(1,.pf .bo [.sl 1 (o7.map (fun (l:List Fo_)=>A.D.sl 9 (l.map Fo_.D)))]),(2,.pf .bo [.sl 1 (o9.map (A.D.i .i64))]),(3,.pv .bo vE),(4,.pf .bo [.sl 2 (o5.ss_.map Symbol.D),.sl 6 (o5.rs_.map Rule.D)]),(5,.pf .bo [.s o6.Name,.s o6.Left,.sl 1 (o6.rt_.map A.D.s),.b o6.ll_,.sl 9 (o6.es_.map Eqn.D),.sl 16 (o6.cs_.map Cn.D)])]) []) F _ w ρc (k2B hs) (VR.cons (k6z _) (VR.cons i1 (VR.cons i2 (VR.cons hE2 (VR.cons i4 (VR.cons i5 VR.nil))))))
 refine CWs.seq (q0i ?_)
 refine N1 ?_
 refine⟨rfl,?_⟩
 refine CWs.seq (q0i ?_)
 refine L0 13 Rl_.D ?_
 refine N1 ?_
 refine⟨rfl,?_⟩
 refine CWs.seq (AW.seq (q0i ?_))
 refine W1 ?_
 refine AL.gh (q3b (t:=12) i0 (fun _=>id) rfl) ?_
 refine LF ?_
 refine N1 ?_
 refine AW.block ?_
 refine AW.len (.tmp 12 rfl) fun hl1=>?_
 refine bdE hr fun s1 hqq1 hr=>?_
 refine q0c hqq1 hl1 14 (fun k1 s1=>[(0,.kv (ρc 0)),(1,.pf .bo [.sl 1 (o7.map (fun (l:List Fo_)=>A.D.sl 9 (l.map Fo_.D)))]),(2,.pf .bo [.sl 1 (o9.map (A.D.i .i64))]),(3,.pv .bo vE),(4,.pf .bo [.sl 2 (o5.ss_.map Symbol.D),.sl 6 (o5.rs_.map Rule.D)]),(5,.pf .bo [.s o6.Name,.s o6.Left,.sl 1 (o6.rt_.map A.D.s),.b o6.ll_,.sl 9 (o6.es_.map Eqn.D),.sl 16 (o6.cs_.map Cn.D)]),(8,.ref 13 none),(12,.d .bo (.sl 1 (a0.map (A.D.i .i64)))),(13,.d .fz (.i .i64 (a0.length:Int))),(14,.d .fz (.i .i64 (k1:Int)))]) (fun k1 s1=>[(13,.row .bo 2 (s1.map Rl_.D))]) (GH.trans (q1y (r:=13) .bo rfl) (q0d hS' 14)) (fun k1 xk1 sk1 ok1 hxk1 hr hltk1=>?_) fun k1 hltk1=>?_
 obtain⟨s1,rfl⟩:∃ y,y=sk1:=⟨_,rfl⟩
 refine sr ?_
 refine N1 ?_
 refine AW.seq (q0D rfl (dT hltk1) ?_)
 refine q0r ?_
 refine AW.seq (AW.block (AW.seq (q0i ?_)))
 refine W1 ?_
 refine IF (Dmz _) hxk1 ?_
 refine N3 ?_
 refine q0z (h:=?_)
 refine W4 ?_
 refine bdE hr fun x1 hx1 hr=>?_
 refine IF (Dmz _) hx1 ?_
 refine W1 ?_
 refine ggE hr fun g1 hr=>?_
 refine bdE hr fun x2 hx2 hr=>?_
 refine IF g1 hx2 ?_
 refine W2 ?_
 refine ggE hr fun g2 hr=>?_
 refine bdE hr fun x3 hx3 hr=>?_
 refine IF g2 hx3 ?_
 refine W2 ?_
 refine LIRm 14 (m:=.bo) (f:=Rl_.D) [x3.summary] rfl ?_
 refine ggE hr fun g3 hr=>?_
 refine AP1 15 .bo 32 g3 ?_
 refine AL.gh .refl ?_
 refine N1 ?_
 refine q0i ?_
 refine OB _ (z5d (p:=k1) (q:=1) (q5J hltk1 hl1)) ?_
 refine N1 ?_
 cases hr
 exact q0A hS' [(15,13)] 14
 refine sr ?_
 refine N1 ?_
 refine AW.seq (q0E rfl (dF hltk1) ?_)
 refine q0y ?_
 refine⟨rfl,?_⟩
 refine bdE hr fun y1 hy1 hr=>?_
 refine bdE hr fun q2 hq2 hr=>?_
 obtain⟨y2,z1,z2⟩:=q2
 intro F1 g1 w1 ρc1 hs1 hv1
 refine CW.seq (k2A 6 (by kernel_rfl) ?_ F1 g1 w1 ρc1 hs1 hv1)
 refine .op rfl (q3F rfl rfl rfl) ?_
 refine .op rfl (q2I rfl) ?_
 refine .op rfl (q0K rfl rfl rfl rfl rfl) ?_
 refine .op rfl (q0K rfl rfl rfl rfl rfl) ?_
 refine .op rfl (q2I rfl) ?_
 refine .op rfl (q1r [(0,14)] [13] rfl rfl rfl (by kernel_rfl) rfl (j0Z (m:=.bo) hy1) (by repeat (first|exact .nil|refine .cons ?_ ?_|exact .same|refine .ag ?_|exact .d rfl|exact .d z3L|exact .rd rfl rfl|exact .u)) ⟨rfl,trivial⟩ rfl) ?_
 refine .nil ⟨rfl,by kernel_rfl,?_⟩
 intro F2 g2 w2 ρc2 hs2 hv2
 obtain⟨g3,k1,k2,k3⟩:=Sim.unlend hs hs2 (r0:=14) (k:=1) (xs:=y1.Rows.map (A.D.i .i64)) rfl rfl
 have e34:ρc2 34=vE:=by have:=hv2 34;exact this
 have e35:ρc2 35=ρc 0:=by have:=hv2 35;exact this
 have hv3:VR S F2 g3 w2 (Go.A.ofX [(34,.fn 44 [.pb 0 0,.pb 3 0,.pb 1 0,.pb 4 0,.pb 2 0]),(35,.ref 10 none),(39,.ag [.d .fz (.i .i64 y1.N),.ref 14 none])]) ρc2:=
  VR.cons (by rw[e34];exact k2 _ _ hE1) (VR.cons (by rw[e35];exact k2 _ _ h00) (VR.cons (k3 _ _ rfl (hv2 39)) VR.nil))
 refine ((?tail:AL Tryz.prog S _ (fun ρ σ=>AW Tryz.prog S _ .ret _ ρ σ) none _ _ _) 0 [] none).wl (by kernel_rfl) (fun ρ σ _ _ h=>h) F2 g3 w2 ρc2 k1 hv3
 refine AL.fz 14 rfl ?_
 refine CB [(0,0),(3,3),(4,4),(5,10),(1,1),(2,2),(6,11)] [] (j3y (m:=.fz) (m2:=m2) hq2) ?_
 refine N1 ?_
 refine q0u ?_
 cases hr
 exact q0l [(0,0),(1,1),(2,2),(3,3),(4,4),(5,5),(6,6),(7,7),(8,8),(9,9),(10,10),(11,11),(12,12)] 13 hS
theorem q7y {m2:Md}{a0:(List Int)}{o0:Gm_}{o1:(List (List Fo_))}{o2:Bool}{o3:Rule}{o4:Int}{o5:Gm_}{o6:Rule}{o7:(List (List Fo_))}{o9:(List Int)}{r:((List (List Fo_))×Bool×(List (List Fo_)))}(hr:q3Q a0 o0 o1 o2 o3 o4 o5 o6 o7 o9=some r):Ok Tryz.prog 87 [.ref 10 none,.fn 88 [.pb 7 0,.pb 9 0,.pb 8 0,.pb 5 0,.pb 6 0]] [.box [.d m2 (.sl 2 (o0.ss_.map Symbol.D)),.d m2 (.sl 6 (o0.rs_.map Rule.D))],.box [.ref 11 none],.box [dB o2],.box [dS o3.Name,dS o3.Left,.d m2 (.sl 1 (o3.rt_.map A.D.s)),dB o3.ll_,.d m2 (.sl 9 (o3.es_.map Eqn.D)),.d m2 (.sl 16 (o3.cs_.map Cn.D))],.box [dI o4],.box [.d m2 (.sl 2 (o5.ss_.map Symbol.D)),.d m2 (.sl 6 (o5.rs_.map Rule.D))],.box [dS o6.Name,dS o6.Left,.d m2 (.sl 1 (o6.rt_.map A.D.s)),dB o6.ll_,.d m2 (.sl 9 (o6.es_.map Eqn.D)),.d m2 (.sl 16 (o6.cs_.map Cn.D))],.box [.ref 11 none],.box [.fn 44 [.pb 0 0,.pb 3 0,.pb 1 0,.pb 4 0,.pb 2 0]],.box [.ref 12 none],.row .fz 1 (a0.map (A.D.i .i64)),.deep .fz 1 (o7.map (fun (l:List Fo_)=>[Cell.w 9 (l.map Fo_.D)])) [],.row .fz 1 (o9.map (A.D.i .i64))] (.tu []) [.box [.d m2 (.sl 2 (o0.ss_.map Symbol.D)),.d m2 (.sl 6 (o0.rs_.map Rule.D))],.box [.ref 11 none],.box [dB r.2.1],.box [dS o3.Name,dS o3.Left,.d m2 (.sl 1 (o3.rt_.map A.D.s)),dB o3.ll_,.d m2 (.sl 9 (o3.es_.map Eqn.D)),.d m2 (.sl 16 (o3.cs_.map Cn.D))],.box [dI o4],.box [.d m2 (.sl 2 (o5.ss_.map Symbol.D)),.d m2 (.sl 6 (o5.rs_.map Rule.D))],.box [dS o6.Name,dS o6.Left,.d m2 (.sl 1 (o6.rt_.map A.D.s)),dB o6.ll_,.d m2 (.sl 9 (o6.es_.map Eqn.D)),.d m2 (.sl 16 (o6.cs_.map Cn.D))],.box [.ref 11 none],.box [.fn 44 [.pb 0 0,.pb 3 0,.pb 1 0,.pb 4 0,.pb 2 0]],.box [.ref 12 none],.row .fz 1 (a0.map (A.D.i .i64)),.deep .fz 1 (r.2.2.map (fun (l:List Fo_)=>[Cell.w 9 (l.map Fo_.D)])) [],.row .fz 1 (o9.map (A.D.i .i64))]:=by
 refine OE Tryz.func87 fun S hS=>?_
 unfold q3Q at hr
 refine bdE hr fun y1 hy1 hr=>J g<|J (CB' [] [10] (z4Z (m:=.bo) hy1))<|J (gn 1)<|ifE hr ?_ ?_<;>intro h1 hr
 exact e
 refine ggE hr fun g1 hr=>J g<|J (MKR' 13 (f:=(A.D.i .i64)) (0:Int) g1.1 g1.2.1 g1.2.2)<|bdE hr fun q1 hqq1 hr=>J (gn 2)<|AW.cut 14 (fun (s1,s2,s3)=>[]) (fun (s1,s2,s3)=>[(2,.box [dB s3]),(11,.deep .fz 1 (s2.map (fun (l:List Fo_)=>[Cell.w 9 (l.map Fo_.D)])) []),(13,.row .fz 1 (s1.map (A.D.i .i64)))]) (M:=fun x=>q1=.inl x) ?_ fun x hx=>?_
 refine J g<|q0g hqq1 14 (fun (s4,s5,s6)=>[(0,.ref 10 none),(1,.fn 88 [.pb 7 0,.pb 9 0,.pb 8 0,.pb 5 0,.pb 6 0]),(4,.ref 13 none)]) (fun (s4,s5,s6)=>[(2,.box [dB s6]),(11,.deep .fz 1 (s5.map (fun (l:List Fo_)=>[Cell.w 9 (l.map Fo_.D)])) []),(13,.row .fz 1 (s4.map (A.D.i .i64)))]) I fun sk1 ok1 hr hik1=>?_
 obtain⟨s4,s5,s6⟩:=sk1
 have hr:=hr
 refine bdE hr fun q2 hq2 hr=>J g ?_
 obtain⟨y2,z1,z2,z3⟩:=q2
 refine J (CB' [(0,0),(1,1),(2,2),(3,3),(4,4),(5,5),(6,6),(7,7),(8,8),(9,9),(10,13),(11,11),(12,12)] [] (z1A (m2:=m2) hq2))<|J (gn 1)<|ifE hr ?_ ?_<;>intro h2 hr
 refine J g<|J (OB' _ (k4L (p:=a0.length) (k:=1) (by decide)))<|bdP hr fun s7 s8 hqq3 hr=>J (gn 3)<|q0e 14 [(0,.ref 10 none),(1,.fn 88 [.pb 7 0,.pb 9 0,.pb 8 0,.pb 5 0,.pb 6 0]),(4,.ref 13 none),(5,dI s7)] [(13,.row .fz 1 (s8.map (A.D.i .i64)))] ?_ ?_
 refine J g<|q0g hqq3 14 (fun (s9,s10)=>[(0,.ref 10 none),(1,.fn 88 [.pb 7 0,.pb 9 0,.pb 8 0,.pb 5 0,.pb 6 0]),(4,.ref 13 none),(5,dI s9)]) (fun (s9,s10)=>[(13,.row .fz 1 (s10.map (A.D.i .i64)))]) I fun sk2 ok2 hr hik2=>?_
 obtain⟨s9,s10⟩:=sk2
 have hr:=hr
 refine J (gn 5)<|ifE hr ?_ ?_<;>intro h3 hr
 refine ggE hr fun g2 hr=>bdE hr fun x1 hx1 hr=>ggE hr fun g3 hr=>bdE hr fun x2 hx2 hr=>ggE hr fun g4 hr=>J (gn 13)<|ifE hr ?_ ?_<;>intro h4 hr
 refine J g<|J (SE' 0 hx1)<|ggE hr fun g5 hr=>e
 refine J (gn 2) ?_
 cases hr
 cases hik2 _ rfl
 exact q0d hS 14
 refine J (gn 15) ?_
 cases hr
 cases hik2 _ rfl
 exact q0d hS 14
 refine J (gn 6)<|ifE hr ?_ ?_<;>intro h5 hr
 exact e
 refine ggE hr fun g6 hr=>bdE hr fun x3 hx3 hr=>ggE hr fun g7 hr=>J g<|J (SE' (x3+1) hx3)<|e
 refine J (gn 2) ?_
 cases hr
 cases hik1 _ rfl
 exact⟨_,rfl,q0d hS 14⟩
 subst hx
 obtain⟨s1,s2,s3⟩:=x
 exact e
theorem z2F {m:Md}{a0:Gm_}{a1:Rule}{a2:(List (List Fo_))}{a3:(List Int)}{o0:Gm_}{o1:(List (List Fo_))}{o2:Bool}{o3:Rule}{o4:Int}{r:((List (List Fo_))×Bool)}(hr:q5e a0 a1 a2 a3 o0 o1 o2 o3 o4=some r):Ok Tryz.prog 43 [Gm_.x m a0,Rule.x m a1,.ref 5 none,.ref 6 none,.fn 44 [.pb 0 0,.pb 3 0,.pb 1 0,.pb 4 0,.pb 2 0]] [.box [.d m (.sl 2 (o0.ss_.map Symbol.D)),.d m (.sl 6 (o0.rs_.map Rule.D))],.box [.ref 5 none],.box [dB o2],.box [dS o3.Name,dS o3.Left,.d m (.sl 1 (o3.rt_.map A.D.s)),dB o3.ll_,.d m (.sl 9 (o3.es_.map Eqn.D)),.d m (.sl 16 (o3.cs_.map Cn.D))],.box [dI o4],.deep .fz 1 (o1.map (fun (l:List Fo_)=>[Cell.w 9 (l.map Fo_.D)])) [],.row .fz 1 (a3.map (A.D.i .i64))] (.tu []) [.box [.d m (.sl 2 (o0.ss_.map Symbol.D)),.d m (.sl 6 (o0.rs_.map Rule.D))],.box [.ref 5 none],.box [dB r.2],.box [dS o3.Name,dS o3.Left,.d m (.sl 1 (o3.rt_.map A.D.s)),dB o3.ll_,.d m (.sl 9 (o3.es_.map Eqn.D)),.d m (.sl 16 (o3.cs_.map Cn.D))],.box [dI o4],.deep .fz 1 (r.1.map (fun (l:List Fo_)=>[Cell.w 9 (l.map Fo_.D)])) [],.row .fz 1 (a3.map (A.D.i .i64))]:=by
 refine OE Tryz.func43 fun S hS=>?_
 unfold q5e at hr
 refine J g<|J (BX' 7)<|J (BX' 8)<|J (BX' 9)<|J (BX' 10)<|J g<|J (L0' 11 (A.D.i .i64))<|J (L0' 12 (A.D.i .i64))<|J (NV' 13)<|J (gn 12)<|J (lenA 2 1)<|fun hl1=>bdP hr fun s1 s2 hqq1 hr=>q0c hqq1 hl1 14 (fun k1 (s1,s2)=>[(3,.ref 6 none),(5,.pb 7 0),(6,.pb 8 0),(7,.pb 9 0),(9,.pb 10 0),(10,.ref 11 none),(11,.pb 13 0),(18,.d m (.sl 1 (a1.rt_.map A.D.s))),(19,dI (a1.rt_.length:Int)),(20,dI (k1:Int))]) (fun k1 (s1,s2)=>[(11,.row .fz 1 (s1.map (A.D.i .i64))),(12,.row .fz 1 (s2.map (A.D.i .i64)))]) I (fun k1 xk1 sk1 ok1 hxk1 hr hltk1=>?_) fun k1 hltk1=>?_
 obtain⟨s1,s2⟩:=sk1
 refine bdE hr fun y1 hy1 hr=>J g<|J (CB' [] [] (z5J (m:=m) hy1))<|ggE hr fun g1 hr=>bdE hr fun x1 hx1 hr=>J g<|J (LIR' 14 (m:=.fz) (f:=(A.D.i .i64)) (xs:=([x1]:List Int)))<|ggE hr fun g2 hr=>J (z1H (f:=(A.D.i .i64)) 15 (fun _=>rfl) 8 g2)<|J g<|J (LIR' 16 (m:=.fz) (f:=(A.D.i .i64)) (xs:=([y1]:List Int)))<|ggE hr fun g3 hr=>J (z1H (f:=(A.D.i .i64)) 17 (fun _=>rfl) 8 g3)<|J (q2l .refl)<|e
 refine bdT hr fun z1 z2 z3 hq2 hr=>J g<|J (CB' [(0,0),(1,1),(2,2),(3,3),(4,4),(5,7),(6,8),(7,9),(8,10),(9,13),(10,11),(11,5),(12,12)] [] (q7y (m2:=m) hq2))<|e
theorem j6q {m:Md}{a0:Gm_}{r:(List (List Fo_))}(hr:z4a a0=some r):Ok Tryz.prog 20 [Gm_.x m a0] [] (.ref 0 none) [.deep .fz 1 (r.map (fun (l:List Fo_)=>[Cell.w 9 (l.map Fo_.D)])) []]:=by
 refine Ok.enter rfl Tryz.func20 rfl rfl rfl fun S hS=>?_
 unfold z4a at hr
 refine sr ?_
 refine BX 0 ?_
 refine N1 ?_
 refine sr ?_
 refine W2 ?_
 refine LF ?_
 refine ggE hr fun g1 hr=>?_
 refine MKW 1 (f:=(fun (l:List Fo_)=>[Cell.w 9 (l.map Fo_.D)])) [] g1.1 g1.2.1 g1.2.2 ?_
 refine NV 2 ?_
 refine SB ?_
 refine N0 ?_
 refine bdE hr fun q1 hqq1 hr=>?_
 refine AW.block (q0g hqq1 3 (fun s1=>[(1,.pb 0 0),(3,.pb 2 0)]) (fun s1=>[(1,.deep .fz 1 (s1.map (fun (l:List Fo_)=>[Cell.w 9 (l.map Fo_.D)])) [])]) (q0d hS 3) fun sk1 ok1 hr hik1=>?_)
 obtain⟨s1,rfl⟩:∃ y,y=sk1:=⟨_,rfl⟩
 refine AW.block (AW.seq (q0i ?_))
 refine W1 ?_
 refine bdE hr fun y1 hy1 hr=>?_
 refine CB [(0,3)] [1] (j6p (m:=.bo) hy1) ?_
 refine NV 4 ?_
 refine W1 ?_
 refine SB ?_
 refine N0 ?_
 refine ssr ?_
 refine W2 ?_
 refine LF ?_
 refine N1 ?_
 refine AW.block ?_
 refine AW.len (.tmp 16 rfl) fun hl2=>?_
 refine bdE hr fun q2 hqq2 hr=>?_
 obtain⟨s2,s3⟩:=q2
 refine q0c hqq2 hl2 5 (fun k2 (s2,s3)=>[(1,.pb 0 0),(3,.pb 2 0),(4,.ref 3 none),(5,.pb 4 0),(16,.d m (.sl 6 (a0.rs_.map Rule.D))),(17,dI (a0.rs_.length:Int)),(18,dI (k2:Int))]) (fun k2 (s2,s3)=>[(1,.deep .fz 1 (s2.map (fun (l:List Fo_)=>[Cell.w 9 (l.map Fo_.D)])) []),(4,.box [dB s3])]) (q0d hS 5) (fun k2 xk2 sk2 ok2 hxk2 hr hltk2=>?_) fun k2 hltk2=>?_
 obtain⟨s2,s3⟩:=sk2
 refine sr ?_
 refine N1 ?_
 refine AW.seq (q0D rfl (dT hltk2) ?_)
 refine q0r ?_
 refine AW.seq (AW.block (AW.seq (q0i ?_)))
 refine IF (Dmz _) hxk2 ?_
 refine W1 ?_
 refine NV 5 ?_
 refine SB ?_
 refine N0 ?_
 refine sr ?_
 refine W3 ?_
 refine bdE hr fun y2 hy2 hr=>?_
 refine CB [] [] (z5J (m:=m) hy2) ?_
 refine NV 6 ?_
 refine SB ?_
 refine N0 ?_
 refine q0i ?_
 refine W5 ?_
 refine bdE hr fun q3 hq3 hr=>?_
 obtain⟨z1,z2⟩:=q3
 refine CB [(0,0),(1,2),(2,4),(3,5),(4,6),(5,1),(6,3)] [] (z2F (m:=m) hq3) ?_
 refine N0 ?_
 refine q0i ?_
 refine OB _ (z5d (p:=k2) (q:=1) (q5J hltk2 hl2)) ?_
 refine N1 ?_
 cases hr
 exact q0d hS 5
 refine sr ?_
 refine N1 ?_
 refine AW.seq (q0E rfl (dF hltk2) ?_)
 refine q0y ?_
 refine sr ?_
 refine N2 ?_
 refine ifE hr (fun h1 hr=>?_) fun h1 hr=>?_
 refine q0E rfl (bnF h1) ?_
 refine q0r ?_
 cases hr
 exact⟨_,rfl,q0d hS 3⟩
 refine q0D rfl (bnT h1) ?_
 refine sr ?_
 refine N2 ?_
 refine q0u ?_
 cases hr
 cases hik1 _ rfl
 have hz:some q1=some r:=by assumption
 cases hz
 exact q0l [(1,0)] 1 hS
theorem z7Z {m:Md}{a0:Gm_}{r:((List (List Rl_))×Bool)}(hr:q9u a0=some r):Ok Tryz.prog 7 [Gm_.x m a0] [] (.tu [.ref 0 none,.d .fz (.b r.2)]) [.deep .fz 1 (r.1.map (fun (l:List Rl_)=>[Cell.w 2 (l.map Rl_.D)])) []]:=by
 refine Ok.enter rfl Tryz.func7 rfl rfl rfl fun S hS=>?_
 unfold q9u at hr
 refine sr ?_
 refine BX 0 ?_
 refine N2 ?_
 refine ssr ?_
 refine W1 ?_
 refine bdE hr fun y1 hy1 hr=>?_
 refine CB [] [] (j4Z (m:=m) hy1) ?_
 refine N1 ?_
 refine ifE hr (fun h1 hr=>?_) fun h1 hr=>?_
 refine q0E rfl (bnF h1) ?_
 refine q0r ?_
 refine sr ?_
 refine L0 1 (fun (l:List Rl_)=>A.D.sl 2 (l.map Rl_.D)) ?_
 refine q2c 1 (fun (l:List Rl_)=>[Cell.w 2 (l.map Rl_.D)]) ?_
 refine N1 ?_
 refine ssr ?_
 refine W1 ?_
 refine bdE hr fun y2 hy2 hr=>?_
 refine CB [(0,2)] [] (j6q (m:=m) hy2) ?_
 refine LEd y2.length ?_
 refine N1 ?_
 refine AW.block ?_
 refine q1A 2 rfl fun hl1=>?_
 refine q2j 2 rfl (show y2.map (fun (l:List Fo_)=>[Cell.w 9 (l.map Fo_.D)])=mix (fun (l:List Fo_)=>[Cell.w 9 (l.map Fo_.D)]) fA y2 0 from rfl) ?_
 refine bdE hr fun s1 hqq1 hr=>?_
 refine q0c hqq1 hl1 3 (fun k1 s1=>[(4,.ref 1 none),(15,.ref 2 none),(16,.d .fz (.i .i64 (y2.length:Int))),(17,.d .fz (.i .i64 (k1:Int)))]) (fun k1 s1=>[(1,.deep .fz 1 (s1.map (fun (l:List Rl_)=>[Cell.w 2 (l.map Rl_.D)])) []),(2,.deep .fz 1 (mix (fun (l:List Fo_)=>[Cell.w 9 (l.map Fo_.D)]) fA y2 k1) [])]) (q0d hS 3) (fun k1 xk1 sk1 ok1 hxk1 hr hltk1=>?_) fun k1 hltk1=>?_
 obtain⟨s1,rfl⟩:∃ y,y=sk1:=⟨_,rfl⟩
 refine sr ?_
 refine N1 ?_
 refine AW.seq (q0D rfl (dT hltk1) ?_)
 refine q0r ?_
 refine AW.seq (AW.block (AW.seq (q0i ?_)))
 refine IEd (Dmz _) (j0z hxk1) ?_
 refine AL.out 2 k1 0 3 (j0z hxk1) ?_
 refine LPd [(0,3)] (q3H (j0z hxk1)) ?_
 refine N1 ?_
 refine sr ?_
 refine L0 4 Rl_.D ?_
 refine q2c 4 Rl_.W ?_
 refine N1 ?_
 refine ssr ?_
 refine W1 ?_
 refine LEd xk1.length ?_
 refine N1 ?_
 refine AW.block ?_
 refine q1A 3 rfl fun hl2=>?_
 refine q2j 3 rfl (show xk1.map Fo_.W=mix Fo_.W fF xk1 0 from rfl) ?_
 refine bdE hr fun s2 hqq2 hr=>?_
 refine q0c hqq2 hl2 5 (fun k2 s2=>[(4,.ref 1 none),(7,.ref 4 none),(15,.ref 2 none),(16,.d .fz (.i .i64 (y2.length:Int))),(17,.d .fz (.i .i64 (k1:Int))),(22,.ref 3 none),(23,.d .fz (.i .i64 (xk1.length:Int))),(24,.d .fz (.i .i64 (k2:Int)))]) (fun k2 s2=>[(4,.deep .fz 2 (s2.map Rl_.W) []),(3,.deep .fz 9 (mix Fo_.W fF xk1 k2) [])]) (q0d hS 5) (fun k2 xk2 sk2 ok2 hxk2 hr hltk2=>?_) fun k2 hltk2=>?_
 obtain⟨s2,rfl⟩:∃ y,y=sk2:=⟨_,rfl⟩
 refine sr ?_
 refine N1 ?_
 refine AW.seq (q0D rfl (dT hltk2) ?_)
 refine q0r ?_
 refine AW.seq (AW.block (AW.seq (q0i ?_)))
 refine IEd (Dmz _) (j0z hxk2) ?_
 refine AL.out 3 k2 1 5 (j0z hxk2) ?_
 refine AL.out 3 k2 8 6 (q3H (j0z hxk2)) ?_
 refine LPad [(8,6),(1,5)] (q3H (q3H (j0z hxk2))) ?_
 refine NV 10 ?_
 refine SB ?_
 refine N0 ?_
 refine q0i ?_
 refine W3 ?_
 refine LID (f:=Rl_.W) 11 xk2.summary [5] ?_
 refine ggE hr fun g1 hr=>?_
 refine APD1 12 32 g1 ?_
 refine N1 ?_
 refine q0i ?_
 refine OB _ (z5d (p:=k2) (q:=1) (q5J hltk2 hl2)) ?_
 refine N1 ?_
 cases hr
 exact GH.trans (q2n 3) (GH.trans (q0j 3 (es':=mix Fo_.W fF xk1 (k2+1)) (he:=by rw[Dnz];exact mixS hxk2)) (q0A hS [(0,0),(1,1),(2,2),(3,3),(12,4)] 5))
 refine sr ?_
 refine N1 ?_
 refine AW.seq (q0E rfl (dF hltk2) ?_)
 refine q0y ?_
 refine q0i ?_
 refine W2 ?_
 refine LID (f:=(fun (l:List Rl_)=>[Cell.w 2 (l.map Rl_.D)])) 5 s2 [4] ?_
 refine ggE hr fun g2 hr=>?_
 refine APD1 6 24 g2 ?_
 refine N1 ?_
 refine q0i ?_
 refine OB _ (z5d (p:=k1) (q:=1) (q5J hltk1 hl1)) ?_
 refine N1 ?_
 cases hr
 exact GH.trans (q2n 2) (GH.trans (q0j 2 (es':=mix (fun (l:List Fo_)=>[Cell.w 9 (l.map Fo_.D)]) fA y2 (k1+1)) (he:=mixS hxk1)) (q0A hS [(0,0),(6,1),(2,2)] 3))
 refine sr ?_
 refine N1 ?_
 refine AW.seq (q0E rfl (dF hltk1) ?_)
 refine q0y ?_
 refine sr ?_
 refine N3 ?_
 refine q0u ?_
 cases hr
 exact q0l [(1,0)] 1 hS
 refine q0D rfl (bnT h1) ?_
 refine sr ?_
 refine N2 ?_
 refine q0u ?_
 refine endA.gh (q1s (t:=2) (r:=1) .fz 1 rfl rfl) ?_
 refine endA.gh (GH.dp 1 (fun (l:List Rl_)=>[Cell.w 2 (l.map Rl_.D)])) ?_
 cases hr
 exact q0l [(1,0)] 1 hS
end Go.Proofs.YtnhofaohogianaaGreat
