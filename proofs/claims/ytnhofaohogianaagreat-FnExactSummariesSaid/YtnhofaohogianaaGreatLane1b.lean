/- What some functions of the program compute, as partial functions on plain data, and that they do; each lemma bears its conditions in its statement. -/
import Derived.Test.YtnhofaohogianaaGreatLane1a
set_option linter.unusedVariables false
set_option linter.unusedSimpArgs false
set_option linter.ambiguousOpen false
set_option linter.unusedSectionVars false
set_option linter.unnecessarySimpa false
set_option maxRecDepth 100000
set_option maxHeartbeats 40000000
noncomputable section
namespace Go.Proofs.YtnhofaohogianaaGreat
open Go Go.E Go.A
theorem j2f {m:Md}{a0:Gm_}{r:(List Int)}(hr:q9P a0=some r):Ok Tryz.prog 158 [Gm_.x m a0] [] (.ref 0 none) [.row .fz 1 (r.map (A.D.i .i64))]:=by
 refine OE Tryz.func158 fun S hS=>?_
 unfold q9P at hr
 refine J g<|J (BX' 0)<|ggE hr fun g1 hr=>J g<|J (MKR' 1 (f:=(A.D.i .i64)) (0:Int) g1.1 g1.2.1 g1.2.2)<|bdE hr fun s1 hqq1 hr=>J (gn 7)<|q0e 2 [(3,.ref 1 none)] [(1,.row .fz 1 (s1.map (A.D.i .i64)))] ?_ ?_
 refine J g<|q0g hqq1 2 (fun (s2,s3)=>[(1,.pb 0 0),(3,.ref 1 none),(4,dI s3)]) (fun (s2,s3)=>[(1,.row .fz 1 (s2.map (A.D.i .i64)))]) I fun sk1 ok1 hr hik1=>?_
 obtain⟨s2,s3⟩:=sk1
 have hr:=hr
 refine J (gn 9)<|ifE hr ?_ ?_<;>intro h1 hr
 refine J g<|J (L0' 2 (A.D.i .i64))<|ggE hr fun g2 hr=>J g<|J (j4P (f:=(A.D.i .i64)) 3 8 (fun _=>rfl) g2)<|J (gn 8)<|J (lenT 13)<|fun hl2=>bdE hr fun s4 hqq2 hr=>q0c hqq2 hl2 4 (fun k2 s4=>[(1,.pb 0 0),(3,.ref 1 none),(4,dI s3),(5,.ref 3 none),(6,dI (k2:Int))]) (fun k2 s4=>[(2,.none),(3,.row .fz 1 (s4.map (A.D.i .i64)))]) I (fun k2 xk2 sk2 ok2 hxk2 hr hltk2=>?_) fun k2 hltk2=>?_
 obtain⟨s4,rfl⟩:∃ y,y=sk2:=⟨_,rfl⟩
 refine bdE hr fun s5 hqq3 hr=>J (gn 12)<|q0e 4 [(1,.pb 0 0),(3,.ref 1 none),(4,dI s3),(5,.ref 3 none),(6,dI (k2:Int))] [(3,.row .fz 1 (s5.map (A.D.i .i64)))] ?_ ?_
 replace hr:=hqq3
 refine bdE hr fun x1 hx1 hr=>J (gn 8)<|ifE hr ?_ ?_<;>intro h2 hr
 refine bdE hr fun y1 hy1 hr=>J g<|J (CB' [] [1] (j2e (m:=.bo) hy1))<|J (gn 2)<|ifE hr ?_ ?_<;>intro h3 hr
 refine bdE hr fun x2 hx2 hr=>J g<|J (SE' s3 hx2)<|e
 exact e
 exact e
 exact e
 refine ggE hr fun g3 hr=>e
 refine J (gn 2) ?_
 cases hr
 cases hik1 _ rfl
 exact q0d hS 2
 exact e
theorem j3E {m:Md}{a0:Gm_}{a1:BA_}{r:Int}(hr:z2Y a0 a1=some r):Ok Tryz.prog 114 [Gm_.x m a0,dS a1] [] (dI r) []:=by
 refine OE Tryz.func114 fun S hS=>?_
 unfold z2Y at hr
 refine J g<|J (BX' 0)<|bdE hr fun y1 hy1 hr=>J g<|J (CB' [] [] (z5M (m:=m) hy1))<|J (gn 8)<|ifE hr ?_ ?_<;>intro h1 hr
 exact e
 refine bdE hr fun y2 hy2 hr=>J g<|J (CB' [(0,1)] [] (j2f (m:=m) hy2))<|ggE hr fun g1 hr=>bdE hr fun x1 hx1 hr=>e
theorem z9O {m:Md}{a0:Gm_}{a1:BA_}{r:Bool}(hr:q8j a0 a1=some r):Ok Tryz.prog 66 [Gm_.x m a0,dS a1] [] (dB r) []:=by
 refine OE Tryz.func66 fun S hS=>?_
 unfold q8j at hr
 refine J g<|J (BX' 0)<|bdE hr fun y1 hy1 hr=>J g<|J (CB' [] [] (j3E (m:=m) hy1))<|e
theorem z9P {m:Md}{a0:Gm_}{r:(Int×Int)}(hr:q8k a0=some r):Ok Tryz.prog 30 [Gm_.x m a0] [] (.tu [dI r.1,dI r.2]) []:=by
 refine OE Tryz.func30 fun S hS=>?_
 unfold q8k at hr
 refine J g<|J (BX' 0)<|bdP hr fun y1 y2 hq1 hr=>J g<|J (CB' [] [] (j2d (m:=m) hq1))<|J (gn 12)<|ifE hr ?_ ?_<;>intro h1 hr
 refine J (gn 8)<|J (lenA 1 0)<|fun hl1=>bdE hr fun q2 hqq2 hr=>q0b hqq2 hl1 1 (fun k1 _=>[(1,.pb 0 0),(6,dI (k1:Int))]) (fun k1 _=>[]) I (fun k1 xk1 sk1 ok1 hxk1 hr hltk1 hik1=>?_) fun k1 sk1 ek1 hltk1=>?_
 refine bdE hr fun y3 hy3 hr=>J g<|J (CB' [] [] (j6z (m:=m) hy3))<|J (gn 2)<|ifE hr ?_ ?_<;>intro h2 hr
 exact e
 exact e
 subst ek1
 refine J (gn 17) ?_
 refine AW.len (.box 0 0 rfl rfl) fun hl2=>?_
 refine bdE hr fun q3 hqq3 hr=>q0b hqq3 hl2 1 (fun k2 _=>[(1,.pb 0 0),(7,dI (k2:Int))]) (fun k2 _=>[]) I (fun k2 xk2 sk2 ok2 hxk2 hr hltk2 hik2=>?_) fun k2 sk2 ek2 hltk2=>?_
 refine bdE hr fun y4 hy4 hr=>J g<|J (CB' [] [] (z9O (m:=m) hy4))<|J (gn 2)<|ifE hr ?_ ?_<;>intro h3 hr
 exact e
 exact e
 subst ek2
 exact e
 exact e
theorem j6A {m:Md}{a0:Gm_}{r:Bool}(hr:z3Q a0=some r):Ok Tryz.prog 15 [Gm_.x m a0] [] (dB r) []:=by
 refine OE Tryz.func15 fun S hS=>?_
 unfold z3Q at hr
 refine J g<|J (BX' 0)<|bdP hr fun y1 y2 hq1 hr=>J g<|J (CB' [] [] (z9P (m:=m) hq1))<|e
theorem j3F {m:Md}{a0:(List (List Rl_))}{r:(List Int)}(hr:z1l a0=some r):Ok Tryz.prog 32 [.d m (.sl 1 (a0.map (fun (l:List Rl_)=>A.D.sl 2 (l.map Rl_.D))))] [] (.ref 0 none) [.row .fz 1 (r.map (A.D.i .i64))]:=by
 refine OE Tryz.func32 fun S hS=>?_
 unfold z1l at hr
 refine J g<|J (L0' 0 (A.D.i .i64))<|J (gn 8)<|J (lenT 0)<|fun hl1=>bdE hr fun s1 hqq1 hr=>q0c hqq1 hl1 1 (fun k1 s1=>[(0,.d m (.sl 1 (a0.map (fun (l:List Rl_)=>A.D.sl 2 (l.map Rl_.D))))),(3,.ref 0 none),(4,dI (k1:Int))]) (fun k1 s1=>[(0,.row .fz 1 (s1.map (A.D.i .i64)))]) I (fun k1 xk1 sk1 ok1 hxk1 hr hltk1=>?_) fun k1 hltk1=>?_
 obtain⟨s1,rfl⟩:∃ y,y=sk1:=⟨_,rfl⟩
 refine J g<|J (LIR' 1 (m:=.fz) (f:=(A.D.i .i64)) (xs:=([(xk1.length:Int)]:List Int)))<|ggE hr fun g1 hr=>J (z1H (f:=(A.D.i .i64)) 2 (fun _=>rfl) 8 g1)<|e
 exact e
theorem j2g {m:Md}{a0:Gm_}{a1:Rule}{a2:(List Int)}{r:(List (List Int))}(hr:q9Q a0 a1 a2=some r):Ok Tryz.prog 31 [Gm_.y m a0,Rule.x m a1,.d m (.sl 1 (a2.map (A.D.i .i64)))] [] (.ref 0 none) [.row .fz 1 (r.map (fun (l:List Int)=>A.D.sl 1 (l.map (A.D.i .i64))))]:=by
 refine OE Tryz.func31 fun S hS=>?_
 unfold q9Q at hr
 refine J g<|J (BX' 0)<|J (BX' 1)<|J g<|J (L0' 2 (A.D.i .i64)) ?_
 refine J (q0x 2 rfl)<|J (LIR' 3 (m:=.fz) (f:=(fun (l:List Int)=>A.D.sl 1 (l.map (A.D.i .i64)))) (xs:=[[]]))<|J (gn 8)<|J (lenA 2 1)<|fun hl1=>bdE hr fun s1 hqq1 hr=>q0c hqq1 hl1 4 (fun k1 s1=>[(2,.d m (.sl 1 (a2.map (A.D.i .i64)))),(3,.pb 0 0),(4,.pb 1 0),(7,.ref 3 none),(8,dI (k1:Int))]) (fun k1 s1=>[(2,.none),(3,.row .fz 1 (s1.map (fun (l:List Int)=>A.D.sl 1 (l.map (A.D.i .i64)))))]) I (fun k1 xk1 sk1 ok1 hxk1 hr hltk1=>?_) fun k1 hltk1=>?_
 obtain⟨s1,rfl⟩:∃ y,y=sk1:=⟨_,rfl⟩
 refine J g<|J (L0' 4 (fun (l:List Int)=>A.D.sl 1 (l.map (A.D.i .i64))))<|bdE hr fun y1 hy1 hr=>J g<|J (CB' [] [] (z5M (m:=m) hy1))<|bdE hr fun y2 hy2 hr=>J (CB' [] [] (z5L hy2))<|ggE hr fun g1 hr=>bdE hr fun x1 hx1 hr=>J (gn 10)<|J (lenR 3)<|fun hl2=>bdE hr fun s2 hqq2 hr=>q0c hqq2 hl2 5 (fun k2 s2=>[(2,.d m (.sl 1 (a2.map (A.D.i .i64)))),(3,.pb 0 0),(4,.pb 1 0),(7,.ref 3 none),(8,dI (k1:Int)),(9,.ref 4 none),(10,dI x1),(11,dI (k2:Int))]) (fun k2 s2=>[(4,.row .fz 1 (s2.map (fun (l:List Int)=>A.D.sl 1 (l.map (A.D.i .i64)))))]) I (fun k2 xk2 sk2 ok2 hxk2 hr hltk2=>?_) fun k2 hltk2=>?_
 obtain⟨s2,rfl⟩:∃ y,y=sk2:=⟨_,rfl⟩
 refine J (gn 17)<|J (rngT 10)<|fun hl3=>bdE hr fun s3 hqq3 hr=>q0n hqq3 5 (fun k3 s3=>[(2,.d m (.sl 1 (a2.map (A.D.i .i64)))),(3,.pb 0 0),(4,.pb 1 0),(7,.ref 3 none),(8,dI (k1:Int)),(9,.ref 4 none),(10,dI x1),(11,dI (k2:Int)),(12,dI (k3:Int))]) (fun k3 s3=>[(4,.row .fz 1 (s3.map (fun (l:List Int)=>A.D.sl 1 (l.map (A.D.i .i64)))))]) I (fun k3 sk3 ok3 hr hltk3=>?_) ?_
 obtain⟨s3,rfl⟩:∃ y,y=sk3:=⟨_,rfl⟩
 refine J g<|J (L0' 5 (A.D.i .i64))<|ggE hr fun g2 hr=>J g<|J (j4P (f:=(A.D.i .i64)) 6 8 (fun _=>rfl) g2)<|J g<|J (LIR' 7 (m:=.fz) (f:=(A.D.i .i64)) (xs:=([(k3:Int)]:List Int)))<|ggE hr fun g3 hr=>J (z1H (f:=(A.D.i .i64)) 8 (fun _=>rfl) 8 g3) ?_
 refine J (q0x 8 rfl)<|J (LIR' 9 (m:=.fz) (f:=(fun (l:List Int)=>A.D.sl 1 (l.map (A.D.i .i64)))) (xs:=[(xk2++[(k3:Int)])]))<|ggE hr fun g4 hr=>J (AP1' 10 .fz 24 g4)<|J g<|E
 exact e
 exact e
 exact e
theorem j6B {m:Md}{a0:Gm_}{a1:Rule}{a2:(List (List Rl_))}{a3:(List Int)}{r:(List Rl_)}(hr:z3R a0 a1 a2 a3=some r):Ok Tryz.prog 36 [Gm_.y m a0,Rule.x m a1,.d m (.sl 1 (a2.map (fun (l:List Rl_)=>A.D.sl 2 (l.map Rl_.D)))),.d m (.sl 1 (a3.map (A.D.i .i64)))] [] (.ref 0 none) [.row m 2 (r.map Rl_.D)]:=by
 refine OE Tryz.func36 fun S hS=>?_
 unfold z3R at hr
 refine J g<|J (BX' 0)<|J (BX' 1)<|J g<|J (L0' 2 Rl_.D)<|J (gn 8)<|J (lenT 3)<|fun hl1=>bdE hr fun s1 hqq1 hr=>?_
 refine q0c hqq1 hl1 3 (fun k1 s1=>[(2,.d m (.sl 1 (a2.map (fun (l:List Rl_)=>A.D.sl 2 (l.map Rl_.D))))),(3,.d m (.sl 1 (a3.map (A.D.i .i64)))),(4,.pb 0 0),(5,.pb 1 0),(9,.ref 2 none),(10,dI (k1:Int))]) (fun k1 s1=>[(2,.row m 2 (s1.map Rl_.D))]) (GH.trans (q1y (r:=2) m rfl) I) (fun k1 xk1 sk1 ok1 hxk1 hr hltk1=>?_) fun k1 hltk1=>?_
 obtain⟨s1,rfl⟩:∃ y,y=sk1:=⟨_,rfl⟩
 refine bdE hr fun x1 hx1 hr=>bdE hr fun y1 hy1 hr=>J g<|J (CB' [] [] (z5M (m:=m) hy1))<|bdE hr fun y2 hy2 hr=>J (CB' [] [] (z5L hy2))<|ggE hr fun g1 hr=>bdE hr fun x2 hx2 hr=>ggE hr fun g2 hr=>bdE hr fun x3 hx3 hr=>J g ?_
 refine J (k4M 3 (m:=m) (f:=Rl_.D) [x3] rfl)<|ggE hr fun g3 hr=>J (AP1' 4 m 32 g3)<|J (q2l .refl)<|J g<|E
 exact e
theorem z2G {m:Md}{a0:Gm_}{a1:BA_}{r:(List At_)}(hr:q5g a0 a1=some r):Ok Tryz.prog 68 [Gm_.y m a0,dS a1] [] (.ref 0 none) [.row .fz 4 (r.map At_.D)]:=by
 refine OE Tryz.func68 fun S hS=>?_
 unfold q5g at hr
 refine J g<|J (BX' 0)<|J g<|J (L0' 1 At_.D)<|bdP hr fun y1 y2 hq1 hr=>J g<|J (CB' [(0,2)] [] (q7O (m:=m) hq1))<|J g<|J (NV' 3)<|J (gn 9)<|J (lenR 2)<|fun hl1=>bdE hr fun s1 hqq2 hr=>q0c hqq2 hl1 4 (fun k1 s1=>[(5,.ref 1 none),(6,.pb 3 0),(8,dI (k1:Int))]) (fun k1 s1=>[(1,.row .fz 4 (s1.map At_.D))]) I (fun k1 xk1 sk1 ok1 hxk1 hr hltk1=>?_) fun k1 hltk1=>?_
 obtain⟨s1,rfl⟩:∃ y,y=sk1:=⟨_,rfl⟩
 refine bdE hr fun s2 hqq3 hr=>J (gn 12)<|q0e 4 [(5,.ref 1 none),(6,.pb 3 0),(8,dI (k1:Int))] [(1,.row .fz 4 (s2.map At_.D))] ?_ ?_
 replace hr:=hqq3
 refine J (gn 10)<|ifE hr ?_ ?_<;>intro h1 hr
 refine J g<|J (LIR' 4 (m:=.fz) (f:=At_.D) (xs:=[xk1]))<|ggE hr fun g1 hr=>J (z1H (f:=At_.D) 5 (fun _=>rfl) 40 g1)<|e
 refine J (gn 10)<|ifE hr ?_ ?_<;>intro h2 hr
 refine J g<|J (LIR' 4 (m:=.fz) (f:=At_.D) (xs:=[xk1]))<|ggE hr fun g2 hr=>J (z1H (f:=At_.D) 5 (fun _=>rfl) 40 g2)<|e
 exact e
 exact e
 exact e
theorem z0L {m:Md}{a0:Gm_}{a1:Rule}{r:(List Oc)}(hr:q5m a0 a1=some r):Ok Tryz.prog 72 [Gm_.y m a0,Rule.x m a1] [] (.ref 0 none) [.row .fz 2 (r.map Oc.D)]:=by
 refine OE Tryz.func72 fun S hS=>?_
 unfold q5m at hr
 refine J g<|J (BX' 0)<|J (BX' 1)<|J g<|J (L0' 2 Oc.D)<|bdE hr fun s1 hqq1 hr=>J (gn 7)<|q0e 3 [(5,.ref 2 none)] [(2,.row .fz 2 (s1.map Oc.D))] ?_ ?_
 refine J g<|q0g hqq1 3 (fun (s2,s3)=>[(2,.pb 0 0),(3,.pb 1 0),(5,.ref 2 none),(6,dI s3)]) (fun (s2,s3)=>[(2,.row .fz 2 (s2.map Oc.D))]) I fun sk1 ok1 hr hik1=>?_
 obtain⟨s2,s3⟩:=sk1
 have hr:=hr
 refine J (gn 9)<|ifE hr ?_ ?_<;>intro h1 hr
 refine bdE hr fun y1 hy1 hr=>J g<|J (CB' [] [] (q9v (m:=m) hy1))<|bdE hr fun y2 hy2 hr=>J (CB' [(0,3)] [] (z2G (m:=m) hy2))<|J (gn 7)<|J (lenR 3)<|fun hl2=>bdE hr fun s4 hqq2 hr=>q0c hqq2 hl2 4 (fun k2 s4=>[(2,.pb 0 0),(3,.pb 1 0),(5,.ref 2 none),(6,dI s3),(7,.ref 3 none),(8,dI (k2:Int))]) (fun k2 s4=>[(2,.row .fz 2 (s4.map Oc.D))]) I (fun k2 xk2 sk2 ok2 hxk2 hr hltk2=>?_) fun k2 hltk2=>?_
 obtain⟨s4,rfl⟩:∃ y,y=sk2:=⟨_,rfl⟩
 refine J g<|J (LIR' 4 (m:=.fz) (f:=Oc.D) (xs:=[(⟨s3,xk2.Name⟩:Oc)]))<|ggE hr fun g1 hr=>J (z1H (f:=Oc.D) 5 (fun _=>rfl) 24 g1)<|e
 refine ggE hr fun g2 hr=>e
 refine J (gn 2) ?_
 cases hr
 cases hik1 _ rfl
 exact GH.trans (q1z (q:=0) [.d m (.sl 2 (a0.ss_.map Symbol.D)),.u] (.cons .rfl (.cons .u .nil)) rfl) (q0d hS 3)
 exact e
theorem z4g {a0:Int}{r:Rl_}(hr:q4G a0=some r):Ok Tryz.prog 69 [dI a0] [] (.ag [dI r.N,.ref 0 none]) [.row .fz 1 (r.Rows.map (A.D.i .i64))]:=by
 refine OE Tryz.func69 fun S hS=>?_
 unfold q4G at hr
 refine J g<|J (NV' 0)<|bdE hr fun y1 hy1 hr=>J g<|J (CB' [] [] (q5p hy1))<|J (gn 2)<|ifE hr ?_ ?_<;>intro h1 hr
 refine ggE hr fun g1 hr=>J g<|J (MKR' 1 (f:=(A.D.i .i64)) (0:Int) g1.1 g1.2.1 g1.2.2)<|e
 refine J (gn 7) ?_
 refine J (q0h (q0o (q:=0) (c:=1) (r:=1) .fz 1 rfl rfl rfl))<|J g<|E
theorem z7a {m:Md}{a0:(List Oc)}{a1:Oc}{r:Int}(hr:q6K a0 a1=some r):Ok Tryz.prog 118 [.d m (.sl 2 (a0.map Oc.D)),Oc.x .fz a1] [] (dI r) []:=by
 refine OE Tryz.func118 fun S hS=>?_
 unfold q6K at hr
 refine J g<|J (BX' 0)<|J (gn 8)<|J (lenT 0)<|fun hl1=>bdE hr fun q1 hqq1 hr=>q0b hqq1 hl1 1 (fun k1 _=>[(0,.d m (.sl 2 (a0.map Oc.D))),(3,.pb 0 0),(5,dI (k1:Int))]) (fun k1 _=>[]) I (fun k1 xk1 sk1 ok1 hxk1 hr hltk1 hik1=>?_) fun k1 sk1 ek1 hltk1=>?_
 refine J g ?_
 refine J (SQ' rfl rfl rfl rfl (q5z xk1 a1))<|J (gn 1)<|ifE hr ?_ ?_<;>intro h1 hr
 exact e
 exact e
 subst ek1
 exact e
theorem j1h {m:Md}{a0:Rl_}{r:Rl_}(hr:q8s a0=some r):Ok Tryz.prog 115 [Rl_.x m a0] [] (.ag [dI r.N,.ref 0 none]) [.row .fz 1 (r.Rows.map (A.D.i .i64))]:=by
 refine OE Tryz.func115 fun S hS=>?_
 unfold q8s at hr
 refine J g<|J (BX' 0)<|J (NV' 1)<|J g<|J (L0' 2 (A.D.i .i64))<|ggE hr fun g1 hr=>J g<|J (j4P (f:=(A.D.i .i64)) 3 8 (fun _=>rfl) g1)<|e
theorem q7z {m:Md}{a0:Rl_}{r:Bool}(hr:q5h a0=some r):Ok Tryz.prog 75 [Rl_.x m a0] [] (dB r) []:=by
 refine OE Tryz.func75 fun S hS=>?_
 unfold q5h at hr
 refine J g<|J (BX' 0)<|bdE hr fun y1 hy1 hr=>J g<|J (CB' [] [] (q5p hy1))<|J (gn 1)<|ifE hr ?_ ?_<;>intro h1 hr
 refine J (gn 9)<|ifE hr ?_ ?_<;>intro h2 hr
 refine J (gn 8) ?_
 refine q1x (.ag 0 (.tmp 0 rfl) rfl) fun hl1=>?_
 refine bdE hr fun q1 hqq1 hr=>q0s hqq1 1 (fun k1 _=>[(1,.pb 0 0),(3,dI (k1:Int))]) (fun k1 _=>[]) I (fun k1 sk1 ok1 hr hltk1 hik1=>?_) fun sk1 ek1=>?_
 refine bdE hr fun x1 hx1 hr=>ggE hr fun g1 hr=>J g ?_
 refine J (CIU' g1 rfl)<|ggE hr fun g2 hr=>J (OB' _ (k2u g2))<|J (OB' _ (k4L (p:=(2 ^ a0.N.toNat)) (k:=1) (by decide)))<|bdE hr fun y2 hy2 hr=>J (CB' [] [] (q5p hy2))<|J (gn 2)<|ifE hr ?_ ?_<;>intro h3 hr
 exact e
 exact e
 subst ek1
 exact e
 exact e
 exact e
theorem z7b {m:Md}{a0:Rl_}{a1:Int}{a2:Int}{r:Rl_}(hr:q6o a0 a1 a2=some r):Ok Tryz.prog 71 [Rl_.x m a0,dI a1,dI a2] [] (.ag [dI r.N,.ref 0 none]) [.row .fz 1 (r.Rows.map (A.D.i .i64))]:=by
 refine OE Tryz.func71 fun S hS=>?_
 unfold q6o at hr
 refine J g<|J (BX' 0)<|J (NV' 1)<|bdE hr fun y1 hy1 hr=>J g<|J (CB' [(0,2)] [] (j1h (m:=m) hy1))<|J (NV' 3)<|bdE hr fun y2 hy2 hr=>J g<|J (CB' [] [] (q7z (m:=m) hy2))<|bdE hr fun s1 hqq1 hr=>q0a 7 [(1,dI a1),(2,dI a2),(3,.pb 0 0),(6,.pb 1 0),(7,.pb 3 0),(18,dB s1)] ?_ ?_
 replace hr:=hqq1
 refine ifE hr ?_ ?_<;>intro h1 hr
 refine ggE hr fun g1 hr=>bdE hr fun y3 hy3 hr=>J g<|J (CB' [] [] (q5p hy3))<|e
 exact e
 refine bdE hr fun s2 hqq2 hr=>q0a 7 [(1,dI a1),(2,dI a2),(6,.pb 1 0),(7,.pb 3 0),(25,dB s2)] ?_ ?_
 replace hr:=hqq2
 refine ifE hr ?_ ?_<;>intro h2 hr
 refine ggE hr fun g2 hr=>bdE hr fun y4 hy4 hr=>J g<|J (CB' [] [] (q5p hy4))<|e
 exact e
 refine J (gn 1)<|ifE hr ?_ ?_<;>intro h3 hr
 refine ggE hr fun g3 hr=>bdE hr fun x1 hx1 hr=>ggE hr fun g4 hr=>J g ?_
 refine J (CIU' g4 rfl)<|ggE hr fun g5 hr=>J (OB' _ (k2u g5))<|ggE hr fun g6 hr=>J (OB' _ (bOrI g6))<|J g<|J (SE' ((x1.toNat ||| ((2 ^ a2.toNat:Nat):Int).toNat:Nat):Int) hx1)<|J g<|E
 exact e
theorem z8K {m:Md}{a0:Gm_}{a1:Rule}{r:Rl_}(hr:q6b a0 a1=some r):Ok Tryz.prog 73 [Gm_.y m a0,Rule.x m a1] [] (.ag [dI r.N,.ref 0 none]) [.row .fz 1 (r.Rows.map (A.D.i .i64))]:=by
 refine OE Tryz.func73 fun S hS=>?_
 unfold q6b at hr
 refine J g<|J (BX' 0)<|J (BX' 1)<|J (NV' 2)<|bdE hr fun y1 hy1 hr=>J g<|J (CB' [(0,3)] [] (z0L (m:=m) hy1))<|bdE hr fun y2 hy2 hr=>J g<|J (CB' [(0,4)] [] (z4g hy2))<|J (NV' 5)<|bdP hr fun s1 s2 hqq1 hr=>J (gn 7)<|q0e 6 [(4,.pb 2 0),(6,.pb 5 0)] [(4,.row .fz 1 (s1.map (A.D.i .i64))),(5,.box [dI s2,.ref 4 none])] ?_ ?_
 refine J g<|q0g hqq1 6 (fun (s3,s4,s5)=>[(3,.pb 1 0),(4,.pb 2 0),(5,.ref 3 none),(6,.pb 5 0),(7,dI s3)]) (fun (s3,s4,s5)=>[(4,.row .fz 1 (s4.map (A.D.i .i64))),(5,.box [dI s5,.ref 4 none])]) I fun sk1 ok1 hr hik1=>?_
 obtain⟨s3,s4,s5⟩:=sk1
 have hr:=hr
 refine J (gn 7)<|ifE hr ?_ ?_<;>intro h1 hr
 refine J (gn 6)<|ifE hr ?_ ?_<;>intro h2 hr
 refine bdP hr fun s6 s7 hqq2 hr=>J (gn 3)<|q0e 6 [(3,.pb 1 0),(4,.pb 2 0),(5,.ref 3 none),(6,.pb 5 0),(7,dI s3),(23,.pb 5 0),(24,dI s5),(25,dB (decide (0<s5)))] [(4,.row .fz 1 (s6.map (A.D.i .i64))),(5,.box [dI s7,.ref 4 none])] ?_ ?_
 replace hr:=hqq2
 refine ggE hr fun g1 hr=>bdE hr fun x1 hx1 hr=>bdP hr fun y3 y4 hq3 hr=>J g<|J (CB' [(0,6)] [] (z4W (m:=m) hq3))<|J g<|J (NV' 7)<|J (gn 9)<|ifE hr ?_ ?_<;>intro h3 hr
 refine J (gn 5) ?_
 refine J (q0x 6 rfl)<|bdE hr fun y5 hy5 hr=>J (CB' [] [] (z4f (m:=.fz) hy5))<|J (gn 7)<|J (lenT 10)<|fun hl2=>bdP hr fun s8 s9 hqq4 hr=>q0c hqq4 hl2 8 (fun k2 (s8,s9)=>[(3,.pb 1 0),(4,.pb 2 0),(5,.ref 3 none),(6,.pb 5 0),(7,dI s3),(10,.d .fz (.sl 2 (y5.map Oc.D))),(11,dI (k2:Int)),(23,.pb 5 0),(24,dI s5),(25,dB (decide (0<s5)))]) (fun k2 (s8,s9)=>[(4,.row .fz 1 (s8.map (A.D.i .i64))),(5,.box [dI s9,.ref 4 none]),(6,.none)]) I (fun k2 xk2 sk2 ok2 hxk2 hr hltk2=>?_) fun k2 hltk2=>?_
 obtain⟨s8,s9⟩:=sk2
 refine bdE hr fun y6 hy6 hr=>J g<|J (CB' [] [3] (z7a (m:=.bo) hy6))<|bdE hr fun y7 hy7 hr=>J g<|J (CB' [(0,8)] [4] (z7b (m:=.bo) hy7))<|e
 exact e
 exact e
 refine ggE hr fun g2 hr=>e
 refine J (gn 2) ?_
 cases hr
 cases hik1 _ rfl
 exact GH.trans (q1z (q:=0) [.d m (.sl 2 (a0.ss_.map Symbol.D)),.u] (.cons .rfl (.cons .u .nil)) rfl) (q0d hS 6)
 refine J (gn 8) ?_
 cases hr
 cases hik1 _ rfl
 exact GH.trans (q1z (q:=0) [.d m (.sl 2 (a0.ss_.map Symbol.D)),.u] (.cons .rfl (.cons .u .nil)) rfl) (q0d hS 6)
 exact e
theorem z7c {m:Md}{a0:Gm_}{a1:Rule}{a2:Int}{r:(List Int)}(hr:q5C a0 a1 a2=some r):Ok Tryz.prog 74 [Gm_.y m a0,Rule.x m a1,dI a2] [] (.ref 0 none) [.row .fz 1 (r.map (A.D.i .i64))]:=by
 refine OE Tryz.func74 fun S hS=>?_
 unfold q5C at hr
 refine J g<|J (BX' 0)<|J (BX' 1)<|J g<|J (L0' 2 (A.D.i .i64))<|bdE hr fun y1 hy1 hr=>J g<|J (CB' [(0,3)] [] (z0L (m:=m) hy1))<|J (gn 8)<|J (lenR 3)<|fun hl1=>bdE hr fun s1 hqq1 hr=>q0c hqq1 hl1 4 (fun k1 s1=>[(2,dI a2),(7,.ref 2 none),(8,.ref 3 none),(9,dI (k1:Int))]) (fun k1 s1=>[(2,.row .fz 1 (s1.map (A.D.i .i64)))]) I (fun k1 xk1 sk1 ok1 hxk1 hr hltk1=>?_) fun k1 hltk1=>?_
 obtain⟨s1,rfl⟩:∃ y,y=sk1:=⟨_,rfl⟩
 refine bdE hr fun s2 hqq2 hr=>J (gn 11)<|q0e 4 [(2,dI a2),(7,.ref 2 none),(8,.ref 3 none),(9,dI (k1:Int))] [(2,.row .fz 1 (s2.map (A.D.i .i64)))] ?_ ?_
 replace hr:=hqq2
 refine J (gn 11)<|ifE hr ?_ ?_<;>intro h1 hr
 refine J g<|J (LIR' 4 (m:=.fz) (f:=(A.D.i .i64)) (xs:=([(k1:Int)]:List Int)))<|ggE hr fun g1 hr=>J (z1H (f:=(A.D.i .i64)) 5 (fun _=>rfl) 8 g1)<|e
 exact e
 exact e
 exact e
theorem j1i {m:Md}{a0:Rl_}{a1:Int}{a2:Int}{r:Bool}(hr:q9r a0 a1 a2=some r):Ok Tryz.prog 70 [Rl_.x m a0,dI a1,dI a2] [] (dB r) []:=by
 refine OE Tryz.func70 fun S hS=>?_
 unfold q9r at hr
 refine J g<|J (BX' 0)<|bdE hr fun y1 hy1 hr=>J g<|J (CB' [] [] (q7z (m:=m) hy1))<|bdE hr fun s1 hqq1 hr=>q0a 7 [(1,dI a1),(2,dI a2),(3,.pb 0 0),(6,dB false),(15,dB s1)] ?_ ?_
 replace hr:=hqq1
 refine ifE hr ?_ ?_<;>intro h1 hr
 refine ggE hr fun g1 hr=>bdE hr fun y2 hy2 hr=>J g<|J (CB' [] [] (q5p hy2))<|e
 exact e
 refine bdE hr fun s2 hqq2 hr=>q0a 7 [(1,dI a1),(2,dI a2),(3,.pb 0 0),(6,dB false),(22,dB s2)] ?_ ?_
 replace hr:=hqq2
 refine ifE hr ?_ ?_<;>intro h2 hr
 refine ggE hr fun g2 hr=>bdE hr fun y3 hy3 hr=>J g<|J (CB' [] [] (q5p hy3))<|e
 exact e
 refine bdE hr fun s3 hqq3 hr=>q0a 12 [(6,dB false),(34,dB s3)] ?_ ?_
 replace hr:=hqq3
 refine ifE hr ?_ ?_<;>intro h3 hr
 refine ggE hr fun g3 hr=>bdE hr fun x1 hx1 hr=>ggE hr fun g4 hr=>J g ?_
 refine J (CIU' g4 rfl)<|ggE hr fun g5 hr=>J (OB' _ (k2v g5))<|ggE hr fun g6 hr=>J (OB' _ (k2w g6))<|J g<|E
 exact e
 exact e
theorem z8L {m:Md}{a0:Rl_}{r:Rl_}(hr:q7E a0=some r):Ok Tryz.prog 76 [Rl_.x m a0] [] (.ag [dI r.N,.ref 0 none]) [.row .fz 1 (r.Rows.map (A.D.i .i64))]:=by
 refine OE Tryz.func76 fun S hS=>?_
 unfold q7E at hr
 refine J g<|J (BX' 0)<|J (NV' 1)<|bdE hr fun y1 hy1 hr=>J g<|J (CB' [(0,2)] [] (j1h (m:=m) hy1))<|J (NV' 3)<|bdE hr fun y2 hy2 hr=>J g<|J (CB' [] [] (q7z (m:=m) hy2))<|J (gn 2)<|ifE hr ?_ ?_<;>intro h1 hr
 refine J (gn 8) ?_
 refine q1x (.ag 0 (.tmp 0 rfl) rfl) fun hl1=>?_
 refine bdE hr fun s1 hqq1 hr=>q0n hqq1 4 (fun k1 s1=>[(1,.pb 0 0),(2,.pb 1 0),(3,.pb 3 0),(4,dI (k1:Int))]) (fun k1 s1=>[(2,.row .fz 1 (s1.map (A.D.i .i64)))]) I (fun k1 sk1 ok1 hr hltk1=>?_) ?_
 obtain⟨s1,rfl⟩:∃ y,y=sk1:=⟨_,rfl⟩
 refine J (gn 17)<|J (rngT 14)<|fun hl2=>bdE hr fun s2 hqq2 hr=>q0n hqq2 4 (fun k2 s2=>[(1,.pb 0 0),(2,.pb 1 0),(3,.pb 3 0),(4,dI (k1:Int)),(5,dI (k2:Int))]) (fun k2 s2=>[(2,.row .fz 1 (s2.map (A.D.i .i64)))]) I (fun k2 sk2 ok2 hr hltk2=>?_) ?_
 obtain⟨s2,rfl⟩:∃ y,y=sk2:=⟨_,rfl⟩
 refine bdE hr fun s3 hqq3 hr=>J (gn 11)<|q0e 4 [(1,.pb 0 0),(2,.pb 1 0),(3,.pb 3 0),(4,dI (k1:Int)),(5,dI (k2:Int))] [(2,.row .fz 1 (s3.map (A.D.i .i64)))] ?_ ?_
 replace hr:=hqq3
 refine bdE hr fun x1 hx1 hr=>J g ?_
 refine J (CIU' (Int.natCast_nonneg _) rfl)<|ggE hr fun g1 hr=>J (OB' _ (k2v g1))<|ggE hr fun g2 hr=>J (OB' _ (k2w g2))<|J (gn 2)<|ifE hr ?_ ?_<;>intro h2 hr
 refine bdE hr fun x2 hx2 hr=>ggE hr fun g3 hr=>J g<|J (OB' _ (bOrI g3))<|J g<|J (SE' ((x1.toNat ||| x2.toNat:Nat):Int) hx1)<|e
 exact e
 exact e
 exact e
 exact e
 exact e
theorem j1j {m:Md}{a0:Gm_}{a1:Rule}{a2:(List Rl_)}{r:Rl_}(hr:q8T a0 a1 a2=some r):Ok Tryz.prog 35 [Gm_.y m a0,Rule.x m a1,.d m (.sl 2 (a2.map Rl_.D))] [] (.ag [dI r.N,.ref 0 none]) [.row .fz 1 (r.Rows.map (A.D.i .i64))]:=by
 refine OE Tryz.func35 fun S hS=>?_
 unfold q8T at hr
 refine J g<|J (BX' 0)<|J (BX' 1)<|J (NV' 2)<|bdE hr fun y1 hy1 hr=>J g<|J (CB' [(0,3)] [] (z0L (m:=m) hy1))<|bdE hr fun s1 hqq1 hr=>J (gn 11)<|q0a 5 [(2,.d m (.sl 2 (a2.map Rl_.D))),(3,.pb 0 0),(4,.pb 1 0),(6,.pb 2 0),(26,dB s1)] ?_ ?_
 replace hr:=hqq1
 refine ifE hr ?_ ?_<;>intro h1 hr
 exact e
 exact e
 refine J (gn 1)<|ifE hr ?_ ?_<;>intro h2 hr
 refine J (gn 7) ?_
 refine J (q0h (q0o (q:=2) (c:=1) (r:=4) .fz 1 rfl rfl rfl))<|J g<|E
 refine bdE hr fun y2 hy2 hr=>J g<|J (CB' [(0,4)] [] (z8K (m:=m) hy2))<|J (NV' 5)<|J (gn 8)<|J (lenT 2)<|fun hl1=>bdE hr fun q2 hqq2 hr=>q0b hqq2 hl1 6 (fun k1 (s2,s3)=>[(2,.d m (.sl 2 (a2.map Rl_.D))),(3,.pb 0 0),(4,.pb 1 0),(6,.pb 2 0),(8,.pb 5 0),(9,dI (k1:Int))]) (fun k1 (s2,s3)=>[(4,.row .fz 1 (s2.map (A.D.i .i64))),(5,.box [dI s3,.ref 4 none])]) I (fun k1 xk1 sk1 ok1 hxk1 hr hltk1 hik1=>?_) fun k1 sk1 ek1 hltk1=>?_
 obtain⟨s2,s3⟩:=sk1
 refine bdE hr fun y3 hy3 hr=>J g<|J (CB' [(0,6)] [] (z7c (m:=m) hy3))<|bdE hr fun y4 hy4 hr=>J g<|J (CB' [] [] (q7z (m:=m) hy4))<|J (gn 1)<|ifE hr ?_ ?_<;>intro h3 hr
 refine J (gn 11)<|ifE hr ?_ ?_<;>intro h4 hr
 refine J (gn 7)<|J (lenR 6)<|fun hl2=>bdP hr fun s4 s5 hqq3 hr=>q0c hqq3 hl2 7 (fun k2 (s4,s5)=>[(2,.d m (.sl 2 (a2.map Rl_.D))),(3,.pb 0 0),(4,.pb 1 0),(6,.pb 2 0),(8,.pb 5 0),(9,dI (k1:Int)),(10,.ref 6 none),(11,dI (k2:Int)),(49,.d m (.sl 2 (a2.map Rl_.D))),(50,dI (k1:Int)),(51,.pf m (Rl_.l xk1)),(52,.pf m (Rl_.l xk1)),(53,dI xk1.N),(54,.ref 6 none),(55,dI (y3.length:Int)),(56,dB (!(decide (xk1.N=(y3.length:Int)))))]) (fun k2 (s4,s5)=>[(4,.row .fz 1 (s4.map (A.D.i .i64))),(5,.box [dI s5,.ref 4 none])]) I (fun k2 xk2 sk2 ok2 hxk2 hr hltk2=>?_) fun k2 hltk2=>?_
 obtain⟨s4,s5⟩:=sk2
 refine J (gn 17)<|J (lenR 6)<|fun hl3=>bdP hr fun s6 s7 hqq4 hr=>q0c hqq4 hl3 7 (fun k3 (s6,s7)=>[(2,.d m (.sl 2 (a2.map Rl_.D))),(3,.pb 0 0),(4,.pb 1 0),(6,.pb 2 0),(8,.pb 5 0),(9,dI (k1:Int)),(10,.ref 6 none),(11,dI (k2:Int)),(12,dI (k3:Int)),(49,.d m (.sl 2 (a2.map Rl_.D))),(50,dI (k1:Int)),(51,.pf m (Rl_.l xk1)),(52,.pf m (Rl_.l xk1)),(53,dI xk1.N),(54,.ref 6 none),(55,dI (y3.length:Int)),(56,dB (!(decide (xk1.N=(y3.length:Int)))))]) (fun k3 (s6,s7)=>[(4,.row .fz 1 (s6.map (A.D.i .i64))),(5,.box [dI s7,.ref 4 none])]) I (fun k3 xk3 sk3 ok3 hxk3 hr hltk3=>?_) fun k3 hltk3=>?_
 obtain⟨s6,s7⟩:=sk3
 refine bdP hr fun s8 s9 hqq5 hr=>J (gn 11)<|q0e 7 [(2,.d m (.sl 2 (a2.map Rl_.D))),(3,.pb 0 0),(4,.pb 1 0),(6,.pb 2 0),(8,.pb 5 0),(9,dI (k1:Int)),(10,.ref 6 none),(11,dI (k2:Int)),(12,dI (k3:Int)),(49,.d m (.sl 2 (a2.map Rl_.D))),(50,dI (k1:Int)),(51,.pf m (Rl_.l xk1)),(52,.pf m (Rl_.l xk1)),(53,dI xk1.N),(54,.ref 6 none),(55,dI (y3.length:Int)),(56,dB (!(decide (xk1.N=(y3.length:Int)))))] [(4,.row .fz 1 (s8.map (A.D.i .i64))),(5,.box [dI s9,.ref 4 none])] ?_ ?_
 replace hr:=hqq5
 refine bdE hr fun y5 hy5 hr=>J g<|J (CB' [] [] (j1i (m:=m) hy5))<|J (gn 1)<|ifE hr ?_ ?_<;>intro h5 hr
 refine bdE hr fun y6 hy6 hr=>J g<|J (CB' [(0,7)] [4] (z7b (m:=.bo) hy6))<|e
 exact e
 exact e
 exact e
 exact e
 refine J (gn 7) ?_
 refine J (q0h (q0o (q:=2) (c:=1) (r:=7) .fz 1 rfl rfl rfl))<|J g<|E
 refine J (gn 18) ?_
 refine J (q0h (q0o (q:=2) (c:=1) (r:=7) .fz 1 rfl rfl rfl))<|J g<|E
 subst ek1
 obtain⟨s2,s3⟩:=sk1
 refine bdE hr fun y7 hy7 hr=>J g<|J (CB' [(0,6)] [4] (z8L (m:=.bo) hy7))<|e
theorem j3G {m:Md}{a0:Gm_}{a1:Rule}{a2:Rl_}{r:Rl_}(hr:q6L a0 a1 a2=some r):Ok Tryz.prog 34 [Gm_.y m a0,Rule.x m a1,Rl_.x m a2] [] (.ag [dI r.N,.ref 0 none]) [.row .fz 1 (r.Rows.map (A.D.i .i64))]:=by
 refine OE Tryz.func34 fun S hS=>?_
 unfold q6L at hr
 refine J g<|J (BX' 0)<|J (BX' 1)<|J (BX' 2)<|J (NV' 3)<|bdE hr fun y1 hy1 hr=>J g<|J (CB' [(0,4)] [] (z2G (m:=m) hy1))<|bdE hr fun y2 hy2 hr=>J g<|J (CB' [(0,5)] [] (z4g hy2))<|J (NV' 6)<|J (gn 8)<|J (lenR 4)<|fun hl1=>bdP hr fun s1 s2 hqq1 hr=>q0c hqq1 hl1 7 (fun k1 (s1,s2)=>[(5,.pb 2 0),(6,.pb 3 0),(7,.ref 4 none),(8,.pb 6 0),(9,dI (k1:Int))]) (fun k1 (s1,s2)=>[(5,.row .fz 1 (s1.map (A.D.i .i64))),(6,.box [dI s2,.ref 5 none])]) I (fun k1 xk1 sk1 ok1 hxk1 hr hltk1=>?_) fun k1 hltk1=>?_
 obtain⟨s1,s2⟩:=sk1
 refine J (gn 17)<|J (lenR 4)<|fun hl2=>bdP hr fun s3 s4 hqq2 hr=>q0c hqq2 hl2 7 (fun k2 (s3,s4)=>[(5,.pb 2 0),(6,.pb 3 0),(7,.ref 4 none),(8,.pb 6 0),(9,dI (k1:Int)),(10,dI (k2:Int))]) (fun k2 (s3,s4)=>[(5,.row .fz 1 (s3.map (A.D.i .i64))),(6,.box [dI s4,.ref 5 none])]) I (fun k2 xk2 sk2 ok2 hxk2 hr hltk2=>?_) fun k2 hltk2=>?_
 obtain⟨s3,s4⟩:=sk2
 refine bdP hr fun s5 s6 hqq3 hr=>J (gn 11)<|q0e 7 [(5,.pb 2 0),(6,.pb 3 0),(7,.ref 4 none),(8,.pb 6 0),(9,dI (k1:Int)),(10,dI (k2:Int))] [(5,.row .fz 1 (s5.map (A.D.i .i64))),(6,.box [dI s6,.ref 5 none])] ?_ ?_
 replace hr:=hqq3
 refine bdE hr fun s7 hqq4 hr=>J (gn 9)<|q0a 8 [(5,.pb 2 0),(6,.pb 3 0),(7,.ref 4 none),(8,.pb 6 0),(9,dI (k1:Int)),(10,dI (k2:Int)),(43,dB s7)] ?_ ?_
 replace hr:=hqq4
 refine ifE hr ?_ ?_<;>intro h1 hr
 exact e
 exact e
 refine bdE hr fun s8 hqq5 hr=>q0a 6 [(5,.pb 2 0),(6,.pb 3 0),(7,.ref 4 none),(8,.pb 6 0),(9,dI (k1:Int)),(10,dI (k2:Int)),(49,dB s8)] ?_ ?_
 replace hr:=hqq5
 refine ifE hr ?_ ?_<;>intro h2 hr
 refine bdE hr fun y3 hy3 hr=>J g<|J (CB' [] [] (j1i (m:=m) hy3))<|e
 exact e
 refine J (gn 1)<|ifE hr ?_ ?_<;>intro h3 hr
 refine bdE hr fun y4 hy4 hr=>J g<|J (CB' [(0,7)] [5] (z7b (m:=.bo) hy4))<|e
 exact e
 exact e
 exact e
 exact e
theorem j8U {m:Md}{a0:(List Int)}{a1:(List Int)}{r:Bool}(hr:z7O a0 a1=some r):Ok Tryz.prog 119 [.d m (.sl 1 (a0.map (A.D.i .i64))),.d m (.sl 1 (a1.map (A.D.i .i64)))] [] (dB r) []:=by
 refine OE Tryz.func119 fun S hS=>?_
 unfold z7O at hr
 refine J (gn 13)<|ifE hr ?_ ?_<;>intro h1 hr
 refine J (gn 8)<|J (lenT 0)<|fun hl1=>bdE hr fun q1 hqq1 hr=>q0b hqq1 hl1 0 (fun k1 _=>[(0,.d m (.sl 1 (a0.map (A.D.i .i64)))),(1,.d m (.sl 1 (a1.map (A.D.i .i64)))),(5,dI (k1:Int))]) (fun k1 _=>[]) I (fun k1 xk1 sk1 ok1 hxk1 hr hltk1 hik1=>?_) fun k1 sk1 ek1 hltk1=>?_
 refine bdE hr fun x1 hx1 hr=>J (gn 24)<|ifE hr ?_ ?_<;>intro h2 hr
 exact e
 exact e
 subst ek1
 exact e
 exact e
theorem z8M {m:Md}{a0:Rl_}{a1:Rl_}{r:Bool}(hr:q7F a0 a1=some r):Ok Tryz.prog 77 [Rl_.x m a0,Rl_.x m a1] [] (dB r) []:=by
 refine OE Tryz.func77 fun S hS=>?_
 unfold q7F at hr
 refine J g<|J (BX' 0)<|J (BX' 1)<|J (gn 9)<|ifE hr ?_ ?_<;>intro h1 hr
 refine bdE hr fun y1 hy1 hr=>J g<|J (CB' [] [] (j8U (m:=m) hy1))<|e
 exact e
theorem j8V {m:Md}{a0:(List Rl_)}{a1:Rl_}{r:Bool}(hr:z5t a0 a1=some r):Ok Tryz.prog 37 [.d m (.sl 2 (a0.map Rl_.D)),Rl_.x m a1] [] (dB r) []:=by
 refine OE Tryz.func37 fun S hS=>?_
 unfold z5t at hr
 refine J g<|J (BX' 0)<|J (gn 8)<|J (lenT 0)<|fun hl1=>bdE hr fun q1 hqq1 hr=>q0b hqq1 hl1 1 (fun k1 _=>[(0,.d m (.sl 2 (a0.map Rl_.D))),(3,.pb 0 0),(5,dI (k1:Int))]) (fun k1 _=>[]) I (fun k1 xk1 sk1 ok1 hxk1 hr hltk1 hik1=>?_) fun k1 sk1 ek1 hltk1=>?_
 refine bdE hr fun y1 hy1 hr=>J g<|J (CB' [] [] (z8M (m:=m) hy1))<|J (gn 1)<|ifE hr ?_ ?_<;>intro h1 hr
 exact e
 exact e
 subst ek1
 exact e
theorem j5g {m:Md}{a0:Gm_}{a1:(List (List Rl_))}{r:((List (List Rl_))×Bool)}(hr:z2t a0 a1=some r):Ok Tryz.prog 16 [Gm_.x m a0,.d .fz (.sl 1 (a1.map (fun (l:List Rl_)=>A.D.sl 2 (l.map Rl_.D))))] [] (.tu [.ref 0 none,dB r.2]) [.deep .fz 1 (r.1.map (fun (l:List Rl_)=>[Cell.o .fz 2 (l.map Rl_.D)])) []]:=by
 refine OE Tryz.func16 fun S hS=>?_
 unfold z2t at hr
 refine J g<|J (BX' 0)<|J g<|J (L0' 1 (fun (l:List Rl_)=>A.D.sl 2 (l.map Rl_.D)))<|q2c 1 (fun (l:List Rl_)=>[Cell.o .fz 2 (l.map Rl_.D)]) ?_
 refine J (gn 8)<|J (lenT 1)<|fun hl1=>bdE hr fun s1 hqq1 hr=>q0c hqq1 hl1 2 (fun k1 s1=>[(1,.d .fz (.sl 1 (a1.map (fun (l:List Rl_)=>A.D.sl 2 (l.map Rl_.D))))),(2,.pb 0 0),(6,.ref 1 none),(7,dI (k1:Int))]) (fun k1 s1=>[(1,.deep .fz 1 (s1.map (fun (l:List Rl_)=>[Cell.o .fz 2 (l.map Rl_.D)])) [])]) I (fun k1 xk1 sk1 ok1 hxk1 hr hltk1=>?_) fun k1 hltk1=>?_
 obtain⟨s1,rfl⟩:∃ y,y=sk1:=⟨_,rfl⟩
 refine J g<|J (L0' 2 Rl_.D)<|ggE hr fun g1 hr=>J g<|J (APB' 3 .fz 32 g1)<|J (LID' (f:=(fun (l:List Rl_)=>[Cell.o .fz 2 (l.map Rl_.D)])) 4 xk1 [3])<|ggE hr fun g2 hr=>J (k7b 5 24 g2)<|e
 refine J (gn 20) ?_
 refine AW.len (.box 0 1 rfl rfl) fun hl2=>?_
 refine bdP hr fun s2 s3 hqq2 hr=>q0c hqq2 hl2 2 (fun k2 (s2,s3)=>[(1,.d .fz (.sl 1 (a1.map (fun (l:List Rl_)=>A.D.sl 2 (l.map Rl_.D))))),(2,.pb 0 0),(6,.ref 1 none),(8,dB s3),(9,dI (k2:Int))]) (fun k2 (s2,s3)=>[(1,.deep .fz 1 (s2.map (fun (l:List Rl_)=>[Cell.o .fz 2 (l.map Rl_.D)])) [])]) I (fun k2 xk2 sk2 ok2 hxk2 hr hltk2=>?_) fun k2 hltk2=>?_
 obtain⟨s2,s3⟩:=sk2
 refine J g<|J (NV' 2)<|bdE hr fun y1 hy1 hr=>J g<|J (CB' [(0,3)] [] (j3F (m:=.fz) hy1))<|bdE hr fun y2 hy2 hr=>J (CB' [(0,4)] [3] (j2g (m:=.bo) hy2))<|bdE hr fun y3 hy3 hr=>J g<|J (CB' [] [] (z5M (m:=m) hy3))<|J (gn 7)<|J (lenR 4)<|fun hl3=>bdP hr fun s4 s5 hqq3 hr=>q0c hqq3 hl3 5 (fun k3 (s4,s5)=>[(1,.d .fz (.sl 1 (a1.map (fun (l:List Rl_)=>A.D.sl 2 (l.map Rl_.D))))),(2,.pb 0 0),(6,.ref 1 none),(8,dB s5),(9,dI (k2:Int)),(10,.pb 2 0),(11,.ref 4 none),(12,dI y3),(13,dI (k3:Int))]) (fun k3 (s4,s5)=>[(1,.deep .fz 1 (s4.map (fun (l:List Rl_)=>[Cell.o .fz 2 (l.map Rl_.D)])) [])]) I (fun k3 xk3 sk3 ok3 hxk3 hr hltk3=>?_) fun k3 hltk3=>?_
 obtain⟨s4,s5⟩:=sk3
 refine bdP hr fun s6 s7 hqq4 hr=>J (gn 11)<|q0e 5 [(1,.d .fz (.sl 1 (a1.map (fun (l:List Rl_)=>A.D.sl 2 (l.map Rl_.D))))),(2,.pb 0 0),(6,.ref 1 none),(8,dB s6),(9,dI (k2:Int)),(10,.pb 2 0),(11,.ref 4 none),(12,dI y3),(13,dI (k3:Int))] [(1,.deep .fz 1 (s7.map (fun (l:List Rl_)=>[Cell.o .fz 2 (l.map Rl_.D)])) [])] ?_ ?_
 replace hr:=hqq4
 refine bdE hr fun y4 hy4 hr=>J g<|J (CB' [(0,5)] [] (j6B (m:=m) hy4))<|bdE hr fun y5 hy5 hr=>J (CB' [(0,6)] [5] (j1j (m:=.bo) hy5))<|bdE hr fun y6 hy6 hr=>J (CB' [(0,7)] [6] (j3G (m:=.bo) hy6))<|J (NV' 8)<|ggE hr fun g3 hr=>bdE hr fun x1 hx1 hr=>J (gn 2)<|J (q3a 1 y3.toNat 0 9 (q3I hx1))<|J g<|J (IEd' g3 (q3H (q3I hx1)))<|J (LPd' [(0,9)] (q3H (q3I hx1)))<|bdE hr fun y7 hy7 hr=>J g<|J (CB' [] [9,7] (j8V (m:=.bo) hy7))<|J (gn 2)<|ifE hr ?_ ?_<;>intro h1 hr
 refine J (gn 2) ?_
 cases hr
 exact GH.trans (q0k 1 y3.toNat 0 9 (q3H (q3I hx1))) (GH.trans (q0j 1 (he:=k6w (f:=(fun (l:List Rl_)=>[Cell.o .fz 2 (l.map Rl_.D)])) hx1 (by first|rfl|(simp only[List.set_set];rfl)))) (q0d hS 5))
 refine J (gn 1) ?_
 refine J (q3D 7 rfl)<|J g<|J (IEd' g3 (q3H (q3I hx1)))<|J (LPd' [(0,9)] (q3H (q3I hx1)))<|J g<|J (LIR' 10 (m:=.fz) (f:=Rl_.D) (xs:=[y6]))<|ggE hr fun g4 hr=>J (AP1' 11 .fz 32 g4)<|J (IEd' g3 (q3H (q3I hx1)))<|J (SD' [.o .fz 2 ((x1++[y6]).map Rl_.D)] [11] (q3H (q3I hx1)))<|J (gn 4) ?_
 cases hr
 exact GH.trans (q0j 1 (he:=eset (f:=(fun (l:List Rl_)=>[Cell.o .fz 2 (l.map Rl_.D)])) (x':=(x1++[y6])) (by first|rfl|(simp only[List.set_set];rfl)))) (q0d hS 5)
 exact e
 exact e
 exact e
theorem j3H {m:Md}{a0:Gm_}{r:((List (List Rl_))×Bool)}(hr:z1m a0=some r):Ok Tryz.prog 5 [Gm_.x m a0] [] (.tu [.d .fz (.sl 1 (r.1.map (fun (l:List Rl_)=>A.D.sl 2 (l.map Rl_.D)))),dB r.2]) []:=by
 refine OE Tryz.func5 fun S hS=>?_
 unfold z1m at hr
 refine J g<|J (BX' 0)<|bdE hr fun y1 hy1 hr=>J g<|J (CB' [] [] (j6A (m:=m) hy1))<|J (gn 2)<|ifE hr ?_ ?_<;>intro h1 hr
 refine ggE hr fun g1 hr=>J g<|MKW 1 (f:=(fun (l:List Rl_)=>[Cell.o .fz 2 (l.map Rl_.D)])) [] g1.1 g1.2.1 g1.2.2 ?_
 refine bdE hr fun q1 hqq1 hr=>J g<|q0g hqq1 2 (fun s1=>[(1,.pb 0 0),(4,.ref 1 none)]) (fun s1=>[(1,.deep .fz 1 (s1.map (fun (l:List Rl_)=>[Cell.o .fz 2 (l.map Rl_.D)])) [])]) I fun sk1 ok1 hr hik1=>?_
 obtain⟨s1,rfl⟩:∃ y,y=sk1:=⟨_,rfl⟩
 refine J (gn 5) ?_
 refine q3B 1 (fun (l:List Rl_)=>A.D.sl 2 (l.map Rl_.D)) (by exact fun _=>rfl) rfl ?_
 refine bdP hr fun y2 y3 hq2 hr=>J (CB' [(0,2)] [] (j5g (m:=m) hq2))<|J (gn 12)<|ifE hr ?_ ?_<;>intro h2 hr
 exact e
 exact e
 refine J g<|J (L0' 1 (fun (l:List Rl_)=>A.D.sl 2 (l.map Rl_.D)))<|q2c 1 (fun (l:List Rl_)=>[Cell.o .fz 2 (l.map Rl_.D)]) ?_
 refine J (gn 4) ?_
 refine J (q0h (q2k 1 (fun (l:List Rl_)=>A.D.sl 2 (l.map Rl_.D)) (by exact fun _=>rfl) rfl))<|J g<|E
end Go.Proofs.YtnhofaohogianaaGreat
