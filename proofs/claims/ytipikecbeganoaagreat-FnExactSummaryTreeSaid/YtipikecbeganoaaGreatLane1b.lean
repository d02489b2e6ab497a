/- What some functions of the program compute, as partial functions on plain data, and that they do; each lemma bears its conditions in its statement. -/
import Derived.Test.YtipikecbeganoaaGreatLane1a
set_option linter.unusedVariables false
set_option linter.unusedSimpArgs false
set_option linter.ambiguousOpen false
set_option linter.unusedSectionVars false
set_option linter.unnecessarySimpa false
set_option maxRecDepth 100000
set_option maxHeartbeats 40000000
noncomputable section
namespace Go.Proofs.YtipikecbeganoaaGreat
open Go Go.E Go.A
theorem j4a {m:Md}{a0:Gm_}{r:(List Int)}(hr:z0D a0=some r):Ok Tryz.prog 181 [Gm_.x m a0] [] (.ref 0 none) [.row .fz 1 (r.map (A.D.i .i64))]:=by
 refine OE Tryz.func181 fun S hS=>?_
 unfold z0D at hr
 refine J g<|J (BX' 0)<|ggE hr fun g1 hr=>J g<|J (MKR' 1 (f:=(A.D.i .i64)) (0:Int) g1.1 g1.2.1 g1.2.2)<|bdE hr fun s1 hqq1 hr=>J (gn 7)<|q0e 2 [(3,.ref 1 none)] [(1,.row .fz 1 (s1.map (A.D.i .i64)))] ?_ ?_
 refine J g<|q0h hqq1 2 (fun (s2,s3)=>[(1,.pb 0 0),(3,.ref 1 none),(4,dI s3)]) (fun (s2,s3)=>[(1,.row .fz 1 (s2.map (A.D.i .i64)))]) I fun sk1 ok1 hr hik1=>?_
 obtain⟨s2,s3⟩:=sk1
 have hr:=hr
 refine J (gn 9)<|ifE hr ?_ ?_<;>intro h1 hr
 refine J g<|J (L0' 2 (A.D.i .i64))<|ggE hr fun g2 hr=>J g<|J (j5w (f:=(A.D.i .i64)) 3 8 (fun _=>rfl) g2)<|J (gn 8)<|J (lenT 13)<|fun hl2=>bdE hr fun s4 hqq2 hr=>q0c hqq2 hl2 4 (fun k2 s4=>[(1,.pb 0 0),(3,.ref 1 none),(4,dI s3),(5,.ref 3 none),(6,dI (k2:Int))]) (fun k2 s4=>[(2,.none),(3,.row .fz 1 (s4.map (A.D.i .i64)))]) I (fun k2 xk2 sk2 ok2 hxk2 hr hltk2=>?_) fun k2 hltk2=>?_
 obtain⟨s4,rfl⟩:∃ y,y=sk2:=⟨_,rfl⟩
 refine bdE hr fun s5 hqq3 hr=>J (gn 12)<|q0e 4 [(1,.pb 0 0),(3,.ref 1 none),(4,dI s3),(5,.ref 3 none),(6,dI (k2:Int))] [(3,.row .fz 1 (s5.map (A.D.i .i64)))] ?_ ?_
 replace hr:=hqq3
 refine bdE hr fun x1 hx1 hr=>J (gn 8)<|ifE hr ?_ ?_<;>intro h2 hr
 refine bdE hr fun y1 hy1 hr=>J g<|J (CB' [] [1] (j3Z (m:=.bo) hy1))<|J (gn 2)<|ifE hr ?_ ?_<;>intro h3 hr
 refine bdE hr fun x2 hx2 hr=>J g<|J (SE' s3 hx2)<|e
 exact e
 exact e
 exact e
 refine ggE hr fun g3 hr=>e
 refine J (gn 2) ?_
 cases hr
 cases hik1 _ rfl
 exact q0f hS 2
 exact e
theorem j5Q {m:Md}{a0:Gm_}{a1:ByteArray}{r:Int}(hr:z3Z a0 a1=some r):Ok Tryz.prog 141 [Gm_.x m a0,dS a1] [] (dI r) []:=by
 refine OE Tryz.func141 fun S hS=>?_
 unfold z3Z at hr
 refine J g<|J (BX' 0)<|bdE hr fun y1 hy1 hr=>J g<|J (CB' [] [] (z3J (m:=m) hy1))<|J (gn 8)<|ifE hr ?_ ?_<;>intro h1 hr
 exact e
 refine bdE hr fun y2 hy2 hr=>J g<|J (CB' [(0,1)] [] (j4a (m:=m) hy2))<|ggE hr fun g1 hr=>bdE hr fun x1 hx1 hr=>e
theorem j1t {m:Md}{a0:Gm_}{a1:ByteArray}{r:Bool}(hr:q8M a0 a1=some r):Ok Tryz.prog 101 [Gm_.x m a0,dS a1] [] (dB r) []:=by
 refine OE Tryz.func101 fun S hS=>?_
 unfold q8M at hr
 refine J g<|J (BX' 0)<|bdE hr fun y1 hy1 hr=>J g<|J (CB' [] [] (j5Q (m:=m) hy1))<|e
theorem j1u {m:Md}{a0:Gm_}{r:(Int×Int)}(hr:q8N a0=some r):Ok Tryz.prog 56 [Gm_.x m a0] [] (.tu [dI r.1,dI r.2]) []:=by
 refine OE Tryz.func56 fun S hS=>?_
 unfold q8N at hr
 refine J g<|J (BX' 0)<|bdP hr fun y1 y2 hq1 hr=>J g<|J (CB' [] [] (j3Y (m:=m) hq1))<|J (gn 12)<|ifE hr ?_ ?_<;>intro h1 hr
 refine J (gn 8)<|J (lenA 1 0)<|fun hl1=>bdE hr fun q2 hqq2 hr=>q0b hqq2 hl1 1 (fun k1 _=>[(1,.pb 0 0),(6,dI (k1:Int))]) (fun k1 _=>[]) I (fun k1 xk1 sk1 ok1 hxk1 hr hltk1 hik1=>?_) fun k1 sk1 ek1 hltk1=>?_
 refine bdE hr fun y3 hy3 hr=>J g<|J (CB' [] [] (j9h (m:=m) hy3))<|J (gn 2)<|ifE hr ?_ ?_<;>intro h2 hr
 exact e
 exact e
 subst ek1
 refine J (gn 17) ?_
 refine AW.len (.box 0 0 rfl rfl) fun hl2=>?_
 refine bdE hr fun q3 hqq3 hr=>q0b hqq3 hl2 1 (fun k2 _=>[(1,.pb 0 0),(7,dI (k2:Int))]) (fun k2 _=>[]) I (fun k2 xk2 sk2 ok2 hxk2 hr hltk2 hik2=>?_) fun k2 sk2 ek2 hltk2=>?_
 refine bdE hr fun y4 hy4 hr=>J g<|J (CB' [] [] (j1t (m:=m) hy4))<|J (gn 2)<|ifE hr ?_ ?_<;>intro h3 hr
 exact e
 exact e
 subst ek2
 exact e
 exact e
theorem j3a {m:Md}{a0:Gm_}{r:Bool}(hr:z2T a0=some r):Ok Tryz.prog 24 [Gm_.x m a0] [] (dB r) []:=by
 refine OE Tryz.func24 fun S hS=>?_
 unfold z2T at hr
 refine J g<|J (BX' 0)<|bdP hr fun y1 y2 hq1 hr=>J g<|J (CB' [] [] (j1u (m:=m) hq1))<|e
theorem z9z {m:Md}{a0:(List (List Rl_))}{r:(List Int)}(hr:q9Z a0=some r):Ok Tryz.prog 49 [.d m (.sl 1 (a0.map (fun (l:List Rl_)=>A.D.sl 2 (l.map Rl_.D))))] [] (.ref 0 none) [.row .fz 1 (r.map (A.D.i .i64))]:=by
 refine OE Tryz.func49 fun S hS=>?_
 unfold q9Z at hr
 refine J g<|J (L0' 0 (A.D.i .i64))<|J (gn 8)<|J (lenT 0)<|fun hl1=>bdE hr fun s1 hqq1 hr=>q0c hqq1 hl1 1 (fun k1 s1=>[(0,.d m (.sl 1 (a0.map (fun (l:List Rl_)=>A.D.sl 2 (l.map Rl_.D))))),(3,.ref 0 none),(4,dI (k1:Int))]) (fun k1 s1=>[(0,.row .fz 1 (s1.map (A.D.i .i64)))]) I (fun k1 xk1 sk1 ok1 hxk1 hr hltk1=>?_) fun k1 hltk1=>?_
 obtain⟨s1,rfl⟩:∃ y,y=sk1:=⟨_,rfl⟩
 refine J g<|J (LIR' 1 (m:=.fz) (f:=(A.D.i .i64)) (xs:=([(xk1.length:Int)]:List Int)))<|ggE hr fun g1 hr=>J (q9P (f:=(A.D.i .i64)) 2 (fun _=>rfl) 8 g1)<|e
 exact e
theorem z7U {m:Md}{a0:Gm_}{a1:Rule}{a2:(List Int)}{r:(List (List Int))}(hr:q9b a0 a1 a2=some r):Ok Tryz.prog 48 [Gm_.y m a0,Rule.x m a1,.d m (.sl 1 (a2.map (A.D.i .i64)))] [] (.ref 0 none) [.row .fz 1 (r.map (fun (l:List Int)=>A.D.sl 1 (l.map (A.D.i .i64))))]:=by
 refine OE Tryz.func48 fun S hS=>?_
 unfold q9b at hr
 refine J g<|J (BX' 0)<|J (BX' 1)<|J g<|J (L0' 2 (A.D.i .i64)) ?_
 refine J (q0E 2 rfl)<|J (LIR' 3 (m:=.fz) (f:=(fun (l:List Int)=>A.D.sl 1 (l.map (A.D.i .i64)))) (xs:=[[]]))<|J (gn 8)<|J (lenA 2 1)<|fun hl1=>bdE hr fun s1 hqq1 hr=>q0c hqq1 hl1 4 (fun k1 s1=>[(2,.d m (.sl 1 (a2.map (A.D.i .i64)))),(3,.pb 0 0),(4,.pb 1 0),(7,.ref 3 none),(8,dI (k1:Int))]) (fun k1 s1=>[(2,.none),(3,.row .fz 1 (s1.map (fun (l:List Int)=>A.D.sl 1 (l.map (A.D.i .i64)))))]) I (fun k1 xk1 sk1 ok1 hxk1 hr hltk1=>?_) fun k1 hltk1=>?_
 obtain⟨s1,rfl⟩:∃ y,y=sk1:=⟨_,rfl⟩
 refine J g<|J (L0' 4 (fun (l:List Int)=>A.D.sl 1 (l.map (A.D.i .i64))))<|bdE hr fun y1 hy1 hr=>J g<|J (CB' [] [] (z3J (m:=m) hy1))<|bdE hr fun y2 hy2 hr=>J (CB' [] [] (z6W hy2))<|ggE hr fun g1 hr=>bdE hr fun x1 hx1 hr=>J (gn 10)<|J (lenR 3)<|fun hl2=>bdE hr fun s2 hqq2 hr=>q0c hqq2 hl2 5 (fun k2 s2=>[(2,.d m (.sl 1 (a2.map (A.D.i .i64)))),(3,.pb 0 0),(4,.pb 1 0),(7,.ref 3 none),(8,dI (k1:Int)),(9,.ref 4 none),(10,dI x1),(11,dI (k2:Int))]) (fun k2 s2=>[(4,.row .fz 1 (s2.map (fun (l:List Int)=>A.D.sl 1 (l.map (A.D.i .i64)))))]) I (fun k2 xk2 sk2 ok2 hxk2 hr hltk2=>?_) fun k2 hltk2=>?_
 obtain⟨s2,rfl⟩:∃ y,y=sk2:=⟨_,rfl⟩
 refine J (gn 17)<|J (rngT 10)<|fun hl3=>bdE hr fun s3 hqq3 hr=>q0q hqq3 5 (fun k3 s3=>[(2,.d m (.sl 1 (a2.map (A.D.i .i64)))),(3,.pb 0 0),(4,.pb 1 0),(7,.ref 3 none),(8,dI (k1:Int)),(9,.ref 4 none),(10,dI x1),(11,dI (k2:Int)),(12,dI (k3:Int))]) (fun k3 s3=>[(4,.row .fz 1 (s3.map (fun (l:List Int)=>A.D.sl 1 (l.map (A.D.i .i64)))))]) I (fun k3 sk3 ok3 hr hltk3=>?_) ?_
 obtain⟨s3,rfl⟩:∃ y,y=sk3:=⟨_,rfl⟩
 refine J g<|J (L0' 5 (A.D.i .i64))<|ggE hr fun g2 hr=>J g<|J (j5w (f:=(A.D.i .i64)) 6 8 (fun _=>rfl) g2)<|J g<|J (LIR' 7 (m:=.fz) (f:=(A.D.i .i64)) (xs:=([(k3:Int)]:List Int)))<|ggE hr fun g3 hr=>J (q9P (f:=(A.D.i .i64)) 8 (fun _=>rfl) 8 g3) ?_
 refine J (q0E 8 rfl)<|J (LIR' 9 (m:=.fz) (f:=(fun (l:List Int)=>A.D.sl 1 (l.map (A.D.i .i64)))) (xs:=[(xk2++[(k3:Int)])]))<|ggE hr fun g4 hr=>J (AP1' 10 .fz 24 g4)<|J g<|E
 exact e
 exact e
 exact e
theorem j3b {m:Md}{a0:Gm_}{a1:Rule}{a2:(List (List Rl_))}{a3:(List Int)}{r:(List Rl_)}(hr:z2U a0 a1 a2 a3=some r):Ok Tryz.prog 52 [Gm_.y m a0,Rule.x m a1,.d m (.sl 1 (a2.map (fun (l:List Rl_)=>A.D.sl 2 (l.map Rl_.D)))),.d m (.sl 1 (a3.map (A.D.i .i64)))] [] (.ref 0 none) [.row m 2 (r.map Rl_.D)]:=by
 refine OE Tryz.func52 fun S hS=>?_
 unfold z2U at hr
 refine J g<|J (BX' 0)<|J (BX' 1)<|J g<|J (L0' 2 Rl_.D)<|J (gn 8)<|J (lenT 3)<|fun hl1=>bdE hr fun s1 hqq1 hr=>?_
 refine q0c hqq1 hl1 3 (fun k1 s1=>[(2,.d m (.sl 1 (a2.map (fun (l:List Rl_)=>A.D.sl 2 (l.map Rl_.D))))),(3,.d m (.sl 1 (a3.map (A.D.i .i64)))),(4,.pb 0 0),(5,.pb 1 0),(9,.ref 2 none),(10,dI (k1:Int))]) (fun k1 s1=>[(2,.row m 2 (s1.map Rl_.D))]) (GH.trans (q1a (r:=2) m rfl) I) (fun k1 xk1 sk1 ok1 hxk1 hr hltk1=>?_) fun k1 hltk1=>?_
 obtain⟨s1,rfl⟩:∃ y,y=sk1:=⟨_,rfl⟩
 refine bdE hr fun x1 hx1 hr=>bdE hr fun y1 hy1 hr=>J g<|J (CB' [] [] (z3J (m:=m) hy1))<|bdE hr fun y2 hy2 hr=>J (CB' [] [] (z6W hy2))<|ggE hr fun g1 hr=>bdE hr fun x2 hx2 hr=>ggE hr fun g2 hr=>bdE hr fun x3 hx3 hr=>J g ?_
 refine J (k3l 3 (m:=m) (f:=Rl_.D) [x3] rfl)<|ggE hr fun g3 hr=>J (AP1' 4 m 32 g3)<|J (q0K .refl)<|J g<|E
 exact e
theorem z3K {m:Md}{a0:Gm_}{a1:ByteArray}{r:(List At_)}(hr:q5w a0 a1=some r):Ok Tryz.prog 102 [Gm_.y m a0,dS a1] [] (.ref 0 none) [.row .fz 4 (r.map At_.D)]:=by
 refine OE Tryz.func102 fun S hS=>?_
 unfold q5w at hr
 refine J g<|J (BX' 0)<|J g<|J (L0' 1 At_.D)<|bdP hr fun y1 y2 hq1 hr=>J g<|J (CB' [(0,2)] [] (q8r (m:=m) hq1))<|J g<|J (NV' 3)<|J (gn 9)<|J (lenR 2)<|fun hl1=>bdE hr fun s1 hqq2 hr=>q0c hqq2 hl1 4 (fun k1 s1=>[(5,.ref 1 none),(6,.pb 3 0),(8,dI (k1:Int))]) (fun k1 s1=>[(1,.row .fz 4 (s1.map At_.D))]) I (fun k1 xk1 sk1 ok1 hxk1 hr hltk1=>?_) fun k1 hltk1=>?_
 obtain⟨s1,rfl⟩:∃ y,y=sk1:=⟨_,rfl⟩
 refine bdE hr fun s2 hqq3 hr=>J (gn 12)<|q0e 4 [(5,.ref 1 none),(6,.pb 3 0),(8,dI (k1:Int))] [(1,.row .fz 4 (s2.map At_.D))] ?_ ?_
 replace hr:=hqq3
 refine J (gn 10)<|ifE hr ?_ ?_<;>intro h1 hr
 refine J g<|J (LIR' 4 (m:=.fz) (f:=At_.D) (xs:=[xk1]))<|ggE hr fun g1 hr=>J (q9P (f:=At_.D) 5 (fun _=>rfl) 40 g1)<|e
 refine J (gn 10)<|ifE hr ?_ ?_<;>intro h2 hr
 refine J g<|J (LIR' 4 (m:=.fz) (f:=At_.D) (xs:=[xk1]))<|ggE hr fun g2 hr=>J (q9P (f:=At_.D) 5 (fun _=>rfl) 40 g2)<|e
 exact e
 exact e
 exact e
theorem z1D {m:Md}{a0:Gm_}{a1:Rule}{r:(List Oc)}(hr:q5C a0 a1=some r):Ok Tryz.prog 89 [Gm_.y m a0,Rule.x m a1] [] (.ref 0 none) [.row .fz 2 (r.map Oc.D)]:=by
 refine OE Tryz.func89 fun S hS=>?_
 unfold q5C at hr
 refine J g<|J (BX' 0)<|J (BX' 1)<|J g<|J (L0' 2 Oc.D)<|bdE hr fun s1 hqq1 hr=>J (gn 7)<|q0e 3 [(5,.ref 2 none)] [(2,.row .fz 2 (s1.map Oc.D))] ?_ ?_
 refine J g<|q0h hqq1 3 (fun (s2,s3)=>[(2,.pb 0 0),(3,.pb 1 0),(5,.ref 2 none),(6,dI s3)]) (fun (s2,s3)=>[(2,.row .fz 2 (s2.map Oc.D))]) I fun sk1 ok1 hr hik1=>?_
 obtain⟨s2,s3⟩:=sk1
 have hr:=hr
 refine J (gn 9)<|ifE hr ?_ ?_<;>intro h1 hr
 refine bdE hr fun y1 hy1 hr=>J g<|J (CB' [] [] (z0f (m:=m) hy1))<|bdE hr fun y2 hy2 hr=>J (CB' [(0,3)] [] (z3K (m:=m) hy2))<|J (gn 7)<|J (lenR 3)<|fun hl2=>bdE hr fun s4 hqq2 hr=>q0c hqq2 hl2 4 (fun k2 s4=>[(2,.pb 0 0),(3,.pb 1 0),(5,.ref 2 none),(6,dI s3),(7,.ref 3 none),(8,dI (k2:Int))]) (fun k2 s4=>[(2,.row .fz 2 (s4.map Oc.D))]) I (fun k2 xk2 sk2 ok2 hxk2 hr hltk2=>?_) fun k2 hltk2=>?_
 obtain⟨s4,rfl⟩:∃ y,y=sk2:=⟨_,rfl⟩
 refine J g<|J (LIR' 4 (m:=.fz) (f:=Oc.D) (xs:=[(⟨s3,xk2.Name⟩:Oc)]))<|ggE hr fun g1 hr=>J (q9P (f:=Oc.D) 5 (fun _=>rfl) 24 g1)<|e
 refine ggE hr fun g2 hr=>e
 refine J (gn 2) ?_
 cases hr
 cases hik1 _ rfl
 exact GH.trans (q0t (q:=0) [.d m (.sl 2 (a0.Symbols.map Symbol.D)),.u] (.cons .rfl (.cons .u .nil)) rfl) (q0f hS 3)
 exact e
theorem z5f {a0:Int}{r:Rl_}(hr:q4W a0=some r):Ok Tryz.prog 103 [dI a0] [] (.ag [dI r.N,.ref 0 none]) [.row .fz 1 (r.Rows.map (A.D.i .i64))]:=by
 refine OE Tryz.func103 fun S hS=>?_
 unfold q4W at hr
 refine J g<|J (NV' 0)<|bdE hr fun y1 hy1 hr=>J g<|J (CB' [] [] (q5F hy1))<|J (gn 2)<|ifE hr ?_ ?_<;>intro h1 hr
 refine ggE hr fun g1 hr=>J g<|J (MKR' 1 (f:=(A.D.i .i64)) (0:Int) g1.1 g1.2.1 g1.2.2)<|e
 refine J (gn 7) ?_
 refine J (q0d (q0i (q:=0) (c:=1) (r:=1) .fz 1 rfl rfl rfl))<|J g<|E
theorem z8z {m:Md}{a0:(List Oc)}{a1:Oc}{r:Int}(hr:q7n a0 a1=some r):Ok Tryz.prog 130 [.d m (.sl 2 (a0.map Oc.D)),Oc.x .fz a1] [] (dI r) []:=by
 refine OE Tryz.func130 fun S hS=>?_
 unfold q7n at hr
 refine J g<|J (BX' 0)<|J (gn 8)<|J (lenT 0)<|fun hl1=>bdE hr fun q1 hqq1 hr=>q0b hqq1 hl1 1 (fun k1 _=>[(0,.d m (.sl 2 (a0.map Oc.D))),(3,.pb 0 0),(5,dI (k1:Int))]) (fun k1 _=>[]) I (fun k1 xk1 sk1 ok1 hxk1 hr hltk1 hik1=>?_) fun k1 sk1 ek1 hltk1=>?_
 refine J g ?_
 refine J (SQ' rfl rfl rfl rfl (q5R xk1 a1))<|J (gn 1)<|ifE hr ?_ ?_<;>intro h1 hr
 exact e
 exact e
 subst ek1
 exact e
theorem j3c {m:Md}{a0:Rl_}{r:Rl_}(hr:q9c a0=some r):Ok Tryz.prog 126 [Rl_.x m a0] [] (.ag [dI r.N,.ref 0 none]) [.row .fz 1 (r.Rows.map (A.D.i .i64))]:=by
 refine OE Tryz.func126 fun S hS=>?_
 unfold q9c at hr
 refine J g<|J (BX' 0)<|J (NV' 1)<|J g<|J (L0' 2 (A.D.i .i64))<|ggE hr fun g1 hr=>J g<|J (j5w (f:=(A.D.i .i64)) 3 8 (fun _=>rfl) g1)<|e
theorem q6T {m:Md}{a0:Rl_}{r:Bool}(hr:q5k a0=some r):Ok Tryz.prog 86 [Rl_.x m a0] [] (dB r) []:=by
 refine OE Tryz.func86 fun S hS=>?_
 unfold q5k at hr
 refine J g<|J (BX' 0)<|bdE hr fun y1 hy1 hr=>J g<|J (CB' [] [] (q5F hy1))<|J (gn 1)<|ifE hr ?_ ?_<;>intro h1 hr
 refine J (gn 9)<|ifE hr ?_ ?_<;>intro h2 hr
 refine J (gn 8) ?_
 refine q0Z (.ag 0 (.tmp 0 rfl) rfl) fun hl1=>?_
 refine bdE hr fun q1 hqq1 hr=>q0u hqq1 1 (fun k1 _=>[(1,.pb 0 0),(3,dI (k1:Int))]) (fun k1 _=>[]) I (fun k1 sk1 ok1 hr hltk1 hik1=>?_) fun sk1 ek1=>?_
 refine bdE hr fun x1 hx1 hr=>ggE hr fun g1 hr=>J g ?_
 refine J (CIU' g1 rfl)<|ggE hr fun g2 hr=>J (OB' _ (k5D g2))<|J (OB' _ (k5C (p:=(2 ^ a0.N.toNat)) (k:=1) (by decide)))<|bdE hr fun y2 hy2 hr=>J (CB' [] [] (q5F hy2))<|J (gn 2)<|ifE hr ?_ ?_<;>intro h3 hr
 exact e
 exact e
 subst ek1
 exact e
 exact e
 exact e
theorem z8A {m:Md}{a0:Rl_}{a1:Int}{a2:Int}{r:Rl_}(hr:q6G a0 a1 a2=some r):Ok Tryz.prog 92 [Rl_.x m a0,dI a1,dI a2] [] (.ag [dI r.N,.ref 0 none]) [.row .fz 1 (r.Rows.map (A.D.i .i64))]:=by
 refine OE Tryz.func92 fun S hS=>?_
 unfold q6G at hr
 refine J g<|J (BX' 0)<|J (NV' 1)<|bdE hr fun y1 hy1 hr=>J g<|J (CB' [(0,2)] [] (j3c (m:=m) hy1))<|J (NV' 3)<|bdE hr fun y2 hy2 hr=>J g<|J (CB' [] [] (q6T (m:=m) hy2))<|bdE hr fun s1 hqq1 hr=>q0a 7 [(1,dI a1),(2,dI a2),(3,.pb 0 0),(6,.pb 1 0),(7,.pb 3 0),(18,dB s1)] ?_ ?_
 replace hr:=hqq1
 refine ifE hr ?_ ?_<;>intro h1 hr
 refine ggE hr fun g1 hr=>bdE hr fun y3 hy3 hr=>J g<|J (CB' [] [] (q5F hy3))<|e
 exact e
 refine bdE hr fun s2 hqq2 hr=>q0a 7 [(1,dI a1),(2,dI a2),(6,.pb 1 0),(7,.pb 3 0),(25,dB s2)] ?_ ?_
 replace hr:=hqq2
 refine ifE hr ?_ ?_<;>intro h2 hr
 refine ggE hr fun g2 hr=>bdE hr fun y4 hy4 hr=>J g<|J (CB' [] [] (q5F hy4))<|e
 exact e
 refine J (gn 1)<|ifE hr ?_ ?_<;>intro h3 hr
 refine ggE hr fun g3 hr=>bdE hr fun x1 hx1 hr=>ggE hr fun g4 hr=>J g ?_
 refine J (CIU' g4 rfl)<|ggE hr fun g5 hr=>J (OB' _ (k5D g5))<|ggE hr fun g6 hr=>J (OB' _ (bOrI g6))<|J g<|J (SE' ((x1.toNat ||| ((2 ^ a2.toNat:Nat):Int).toNat:Nat):Int) hx1)<|J g<|E
 exact e
theorem j0k {m:Md}{a0:Gm_}{a1:Rule}{r:Rl_}(hr:q6r a0 a1=some r):Ok Tryz.prog 90 [Gm_.y m a0,Rule.x m a1] [] (.ag [dI r.N,.ref 0 none]) [.row .fz 1 (r.Rows.map (A.D.i .i64))]:=by
 refine OE Tryz.func90 fun S hS=>?_
 unfold q6r at hr
 refine J g<|J (BX' 0)<|J (BX' 1)<|J (NV' 2)<|bdE hr fun y1 hy1 hr=>J g<|J (CB' [(0,3)] [] (z1D (m:=m) hy1))<|bdE hr fun y2 hy2 hr=>J g<|J (CB' [(0,4)] [] (z5f hy2))<|J (NV' 5)<|bdP hr fun s1 s2 hqq1 hr=>J (gn 7)<|q0e 6 [(4,.pb 2 0),(6,.pb 5 0)] [(4,.row .fz 1 (s1.map (A.D.i .i64))),(5,.box [dI s2,.ref 4 none])] ?_ ?_
 refine J g<|q0h hqq1 6 (fun (s3,s4,s5)=>[(3,.pb 1 0),(4,.pb 2 0),(5,.ref 3 none),(6,.pb 5 0),(7,dI s3)]) (fun (s3,s4,s5)=>[(4,.row .fz 1 (s4.map (A.D.i .i64))),(5,.box [dI s5,.ref 4 none])]) I fun sk1 ok1 hr hik1=>?_
 obtain⟨s3,s4,s5⟩:=sk1
 have hr:=hr
 refine J (gn 7)<|ifE hr ?_ ?_<;>intro h1 hr
 refine J (gn 6)<|ifE hr ?_ ?_<;>intro h2 hr
 refine bdP hr fun s6 s7 hqq2 hr=>J (gn 3)<|q0e 6 [(3,.pb 1 0),(4,.pb 2 0),(5,.ref 3 none),(6,.pb 5 0),(7,dI s3),(23,.pb 5 0),(24,dI s5),(25,dB (decide (0<s5)))] [(4,.row .fz 1 (s6.map (A.D.i .i64))),(5,.box [dI s7,.ref 4 none])] ?_ ?_
 replace hr:=hqq2
 refine ggE hr fun g1 hr=>bdE hr fun x1 hx1 hr=>bdP hr fun y3 y4 hq3 hr=>J g<|J (CB' [(0,6)] [] (z6b (m:=m) hq3))<|J g<|J (NV' 7)<|J (gn 9)<|ifE hr ?_ ?_<;>intro h3 hr
 refine J (gn 5) ?_
 refine J (q0E 6 rfl)<|bdE hr fun y5 hy5 hr=>J (CB' [] [] (z5e (m:=.fz) hy5))<|J (gn 7)<|J (lenT 10)<|fun hl2=>bdP hr fun s8 s9 hqq4 hr=>q0c hqq4 hl2 8 (fun k2 (s8,s9)=>[(3,.pb 1 0),(4,.pb 2 0),(5,.ref 3 none),(6,.pb 5 0),(7,dI s3),(10,.d .fz (.sl 2 (y5.map Oc.D))),(11,dI (k2:Int)),(23,.pb 5 0),(24,dI s5),(25,dB (decide (0<s5)))]) (fun k2 (s8,s9)=>[(4,.row .fz 1 (s8.map (A.D.i .i64))),(5,.box [dI s9,.ref 4 none]),(6,.none)]) I (fun k2 xk2 sk2 ok2 hxk2 hr hltk2=>?_) fun k2 hltk2=>?_
 obtain⟨s8,s9⟩:=sk2
 refine bdE hr fun y6 hy6 hr=>J g<|J (CB' [] [3] (z8z (m:=.bo) hy6))<|bdE hr fun y7 hy7 hr=>J g<|J (CB' [(0,8)] [4] (z8A (m:=.bo) hy7))<|e
 exact e
 exact e
 refine ggE hr fun g2 hr=>e
 refine J (gn 2) ?_
 cases hr
 cases hik1 _ rfl
 exact GH.trans (q0t (q:=0) [.d m (.sl 2 (a0.Symbols.map Symbol.D)),.u] (.cons .rfl (.cons .u .nil)) rfl) (q0f hS 6)
 refine J (gn 8) ?_
 cases hr
 cases hik1 _ rfl
 exact GH.trans (q0t (q:=0) [.d m (.sl 2 (a0.Symbols.map Symbol.D)),.u] (.cons .rfl (.cons .u .nil)) rfl) (q0f hS 6)
 exact e
theorem z8B {m:Md}{a0:Gm_}{a1:Rule}{a2:Int}{r:(List Int)}(hr:q5U a0 a1 a2=some r):Ok Tryz.prog 91 [Gm_.y m a0,Rule.x m a1,dI a2] [] (.ref 0 none) [.row .fz 1 (r.map (A.D.i .i64))]:=by
 refine OE Tryz.func91 fun S hS=>?_
 unfold q5U at hr
 refine J g<|J (BX' 0)<|J (BX' 1)<|J g<|J (L0' 2 (A.D.i .i64))<|bdE hr fun y1 hy1 hr=>J g<|J (CB' [(0,3)] [] (z1D (m:=m) hy1))<|J (gn 8)<|J (lenR 3)<|fun hl1=>bdE hr fun s1 hqq1 hr=>q0c hqq1 hl1 4 (fun k1 s1=>[(2,dI a2),(7,.ref 2 none),(8,.ref 3 none),(9,dI (k1:Int))]) (fun k1 s1=>[(2,.row .fz 1 (s1.map (A.D.i .i64)))]) I (fun k1 xk1 sk1 ok1 hxk1 hr hltk1=>?_) fun k1 hltk1=>?_
 obtain⟨s1,rfl⟩:∃ y,y=sk1:=⟨_,rfl⟩
 refine bdE hr fun s2 hqq2 hr=>J (gn 11)<|q0e 4 [(2,dI a2),(7,.ref 2 none),(8,.ref 3 none),(9,dI (k1:Int))] [(2,.row .fz 1 (s2.map (A.D.i .i64)))] ?_ ?_
 replace hr:=hqq2
 refine J (gn 11)<|ifE hr ?_ ?_<;>intro h1 hr
 refine J g<|J (LIR' 4 (m:=.fz) (f:=(A.D.i .i64)) (xs:=([(k1:Int)]:List Int)))<|ggE hr fun g1 hr=>J (q9P (f:=(A.D.i .i64)) 5 (fun _=>rfl) 8 g1)<|e
 exact e
 exact e
 exact e
theorem z8C {m:Md}{a0:Rl_}{a1:Int}{a2:Int}{r:Bool}(hr:q9d a0 a1 a2=some r):Ok Tryz.prog 88 [Rl_.x m a0,dI a1,dI a2] [] (dB r) []:=by
 refine OE Tryz.func88 fun S hS=>?_
 unfold q9d at hr
 refine J g<|J (BX' 0)<|bdE hr fun y1 hy1 hr=>J g<|J (CB' [] [] (q6T (m:=m) hy1))<|bdE hr fun s1 hqq1 hr=>q0a 7 [(1,dI a1),(2,dI a2),(3,.pb 0 0),(6,dB false),(15,dB s1)] ?_ ?_
 replace hr:=hqq1
 refine ifE hr ?_ ?_<;>intro h1 hr
 refine ggE hr fun g1 hr=>bdE hr fun y2 hy2 hr=>J g<|J (CB' [] [] (q5F hy2))<|e
 exact e
 refine bdE hr fun s2 hqq2 hr=>q0a 7 [(1,dI a1),(2,dI a2),(3,.pb 0 0),(6,dB false),(22,dB s2)] ?_ ?_
 replace hr:=hqq2
 refine ifE hr ?_ ?_<;>intro h2 hr
 refine ggE hr fun g2 hr=>bdE hr fun y3 hy3 hr=>J g<|J (CB' [] [] (q5F hy3))<|e
 exact e
 refine bdE hr fun s3 hqq3 hr=>q0a 12 [(6,dB false),(34,dB s3)] ?_ ?_
 replace hr:=hqq3
 refine ifE hr ?_ ?_<;>intro h3 hr
 refine ggE hr fun g3 hr=>bdE hr fun x1 hx1 hr=>ggE hr fun g4 hr=>J g ?_
 refine J (CIU' g4 rfl)<|ggE hr fun g5 hr=>J (OB' _ (k5E g5))<|ggE hr fun g6 hr=>J (OB' _ (k5F g6))<|J g<|E
 exact e
 exact e
theorem z5g {m:Md}{a0:Rl_}{r:Rl_}(hr:q7d a0=some r):Ok Tryz.prog 87 [Rl_.x m a0] [] (.ag [dI r.N,.ref 0 none]) [.row .fz 1 (r.Rows.map (A.D.i .i64))]:=by
 refine OE Tryz.func87 fun S hS=>?_
 unfold q7d at hr
 refine J g<|J (BX' 0)<|J (NV' 1)<|bdE hr fun y1 hy1 hr=>J g<|J (CB' [(0,2)] [] (j3c (m:=m) hy1))<|J (NV' 3)<|bdE hr fun y2 hy2 hr=>J g<|J (CB' [] [] (q6T (m:=m) hy2))<|J (gn 2)<|ifE hr ?_ ?_<;>intro h1 hr
 refine J (gn 8) ?_
 refine q0Z (.ag 0 (.tmp 0 rfl) rfl) fun hl1=>?_
 refine bdE hr fun s1 hqq1 hr=>q0q hqq1 4 (fun k1 s1=>[(1,.pb 0 0),(2,.pb 1 0),(3,.pb 3 0),(4,dI (k1:Int))]) (fun k1 s1=>[(2,.row .fz 1 (s1.map (A.D.i .i64)))]) I (fun k1 sk1 ok1 hr hltk1=>?_) ?_
 obtain⟨s1,rfl⟩:∃ y,y=sk1:=⟨_,rfl⟩
 refine J (gn 17)<|J (rngT 14)<|fun hl2=>bdE hr fun s2 hqq2 hr=>q0q hqq2 4 (fun k2 s2=>[(1,.pb 0 0),(2,.pb 1 0),(3,.pb 3 0),(4,dI (k1:Int)),(5,dI (k2:Int))]) (fun k2 s2=>[(2,.row .fz 1 (s2.map (A.D.i .i64)))]) I (fun k2 sk2 ok2 hr hltk2=>?_) ?_
 obtain⟨s2,rfl⟩:∃ y,y=sk2:=⟨_,rfl⟩
 refine bdE hr fun s3 hqq3 hr=>J (gn 11)<|q0e 4 [(1,.pb 0 0),(2,.pb 1 0),(3,.pb 3 0),(4,dI (k1:Int)),(5,dI (k2:Int))] [(2,.row .fz 1 (s3.map (A.D.i .i64)))] ?_ ?_
 replace hr:=hqq3
 refine bdE hr fun x1 hx1 hr=>J g ?_
 refine J (CIU' (Int.natCast_nonneg _) rfl)<|ggE hr fun g1 hr=>J (OB' _ (k5E g1))<|ggE hr fun g2 hr=>J (OB' _ (k5F g2))<|J (gn 2)<|ifE hr ?_ ?_<;>intro h2 hr
 refine bdE hr fun x2 hx2 hr=>ggE hr fun g3 hr=>J g<|J (OB' _ (bOrI g3))<|J g<|J (SE' ((x1.toNat ||| x2.toNat:Nat):Int) hx1)<|e
 exact e
 exact e
 exact e
 exact e
 exact e
theorem z6X {m:Md}{a0:Gm_}{a1:Rule}{a2:(List Rl_)}{r:Rl_}(hr:q8m a0 a1 a2=some r):Ok Tryz.prog 51 [Gm_.y m a0,Rule.x m a1,.d m (.sl 2 (a2.map Rl_.D))] [] (.ag [dI r.N,.ref 0 none]) [.row .fz 1 (r.Rows.map (A.D.i .i64))]:=by
 refine OE Tryz.func51 fun S hS=>?_
 unfold q8m at hr
 refine J g<|J (BX' 0)<|J (BX' 1)<|J (NV' 2)<|bdE hr fun y1 hy1 hr=>J g<|J (CB' [(0,3)] [] (z1D (m:=m) hy1))<|bdE hr fun s1 hqq1 hr=>J (gn 11)<|q0a 5 [(2,.d m (.sl 2 (a2.map Rl_.D))),(3,.pb 0 0),(4,.pb 1 0),(6,.pb 2 0),(26,dB s1)] ?_ ?_
 replace hr:=hqq1
 refine ifE hr ?_ ?_<;>intro h1 hr
 exact e
 exact e
 refine J (gn 1)<|ifE hr ?_ ?_<;>intro h2 hr
 refine J (gn 7) ?_
 refine J (q0d (q0i (q:=2) (c:=1) (r:=4) .fz 1 rfl rfl rfl))<|J g<|E
 refine bdE hr fun y2 hy2 hr=>J g<|J (CB' [(0,4)] [] (j0k (m:=m) hy2))<|J (NV' 5)<|J (gn 8)<|J (lenT 2)<|fun hl1=>bdE hr fun q2 hqq2 hr=>q0b hqq2 hl1 6 (fun k1 (s2,s3)=>[(2,.d m (.sl 2 (a2.map Rl_.D))),(3,.pb 0 0),(4,.pb 1 0),(6,.pb 2 0),(8,.pb 5 0),(9,dI (k1:Int))]) (fun k1 (s2,s3)=>[(4,.row .fz 1 (s2.map (A.D.i .i64))),(5,.box [dI s3,.ref 4 none])]) I (fun k1 xk1 sk1 ok1 hxk1 hr hltk1 hik1=>?_) fun k1 sk1 ek1 hltk1=>?_
 obtain⟨s2,s3⟩:=sk1
 refine bdE hr fun y3 hy3 hr=>J g<|J (CB' [(0,6)] [] (z8B (m:=m) hy3))<|bdE hr fun y4 hy4 hr=>J g<|J (CB' [] [] (q6T (m:=m) hy4))<|J (gn 1)<|ifE hr ?_ ?_<;>intro h3 hr
 refine J (gn 11)<|ifE hr ?_ ?_<;>intro h4 hr
 refine J (gn 7)<|J (lenR 6)<|fun hl2=>bdP hr fun s4 s5 hqq3 hr=>q0c hqq3 hl2 7 (fun k2 (s4,s5)=>[(2,.d m (.sl 2 (a2.map Rl_.D))),(3,.pb 0 0),(4,.pb 1 0),(6,.pb 2 0),(8,.pb 5 0),(9,dI (k1:Int)),(10,.ref 6 none),(11,dI (k2:Int)),(49,.d m (.sl 2 (a2.map Rl_.D))),(50,dI (k1:Int)),(51,.pf m (Rl_.l xk1)),(52,.pf m (Rl_.l xk1)),(53,dI xk1.N),(54,.ref 6 none),(55,dI (y3.length:Int)),(56,dB (!(decide (xk1.N=(y3.length:Int)))))]) (fun k2 (s4,s5)=>[(4,.row .fz 1 (s4.map (A.D.i .i64))),(5,.box [dI s5,.ref 4 none])]) I (fun k2 xk2 sk2 ok2 hxk2 hr hltk2=>?_) fun k2 hltk2=>?_
 obtain⟨s4,s5⟩:=sk2
 refine J (gn 17)<|J (lenR 6)<|fun hl3=>bdP hr fun s6 s7 hqq4 hr=>q0c hqq4 hl3 7 (fun k3 (s6,s7)=>[(2,.d m (.sl 2 (a2.map Rl_.D))),(3,.pb 0 0),(4,.pb 1 0),(6,.pb 2 0),(8,.pb 5 0),(9,dI (k1:Int)),(10,.ref 6 none),(11,dI (k2:Int)),(12,dI (k3:Int)),(49,.d m (.sl 2 (a2.map Rl_.D))),(50,dI (k1:Int)),(51,.pf m (Rl_.l xk1)),(52,.pf m (Rl_.l xk1)),(53,dI xk1.N),(54,.ref 6 none),(55,dI (y3.length:Int)),(56,dB (!(decide (xk1.N=(y3.length:Int)))))]) (fun k3 (s6,s7)=>[(4,.row .fz 1 (s6.map (A.D.i .i64))),(5,.box [dI s7,.ref 4 none])]) I (fun k3 xk3 sk3 ok3 hxk3 hr hltk3=>?_) fun k3 hltk3=>?_
 obtain⟨s6,s7⟩:=sk3
 refine bdP hr fun s8 s9 hqq5 hr=>J (gn 11)<|q0e 7 [(2,.d m (.sl 2 (a2.map Rl_.D))),(3,.pb 0 0),(4,.pb 1 0),(6,.pb 2 0),(8,.pb 5 0),(9,dI (k1:Int)),(10,.ref 6 none),(11,dI (k2:Int)),(12,dI (k3:Int)),(49,.d m (.sl 2 (a2.map Rl_.D))),(50,dI (k1:Int)),(51,.pf m (Rl_.l xk1)),(52,.pf m (Rl_.l xk1)),(53,dI xk1.N),(54,.ref 6 none),(55,dI (y3.length:Int)),(56,dB (!(decide (xk1.N=(y3.length:Int)))))] [(4,.row .fz 1 (s8.map (A.D.i .i64))),(5,.box [dI s9,.ref 4 none])] ?_ ?_
 replace hr:=hqq5
 refine bdE hr fun y5 hy5 hr=>J g<|J (CB' [] [] (z8C (m:=m) hy5))<|J (gn 1)<|ifE hr ?_ ?_<;>intro h5 hr
 refine bdE hr fun y6 hy6 hr=>J g<|J (CB' [(0,7)] [4] (z8A (m:=.bo) hy6))<|e
 exact e
 exact e
 exact e
 exact e
 refine J (gn 7) ?_
 refine J (q0d (q0i (q:=2) (c:=1) (r:=7) .fz 1 rfl rfl rfl))<|J g<|E
 refine J (gn 18) ?_
 refine J (q0d (q0i (q:=2) (c:=1) (r:=7) .fz 1 rfl rfl rfl))<|J g<|E
 subst ek1
 obtain⟨s2,s3⟩:=sk1
 refine bdE hr fun y7 hy7 hr=>J g<|J (CB' [(0,6)] [4] (z5g (m:=.bo) hy7))<|e
theorem j5R {m:Md}{a0:Gm_}{a1:Rule}{a2:Rl_}{r:Rl_}(hr:q7o a0 a1 a2=some r):Ok Tryz.prog 57 [Gm_.y m a0,Rule.x m a1,Rl_.x m a2] [] (.ag [dI r.N,.ref 0 none]) [.row .fz 1 (r.Rows.map (A.D.i .i64))]:=by
 refine OE Tryz.func57 fun S hS=>?_
 unfold q7o at hr
 refine J g<|J (BX' 0)<|J (BX' 1)<|J (BX' 2)<|J (NV' 3)<|bdE hr fun y1 hy1 hr=>J g<|J (CB' [(0,4)] [] (z3K (m:=m) hy1))<|bdE hr fun y2 hy2 hr=>J g<|J (CB' [(0,5)] [] (z5f hy2))<|J (NV' 6)<|J (gn 8)<|J (lenR 4)<|fun hl1=>bdP hr fun s1 s2 hqq1 hr=>q0c hqq1 hl1 7 (fun k1 (s1,s2)=>[(5,.pb 2 0),(6,.pb 3 0),(7,.ref 4 none),(8,.pb 6 0),(9,dI (k1:Int))]) (fun k1 (s1,s2)=>[(5,.row .fz 1 (s1.map (A.D.i .i64))),(6,.box [dI s2,.ref 5 none])]) I (fun k1 xk1 sk1 ok1 hxk1 hr hltk1=>?_) fun k1 hltk1=>?_
 obtain⟨s1,s2⟩:=sk1
 refine J (gn 17)<|J (lenR 4)<|fun hl2=>bdP hr fun s3 s4 hqq2 hr=>q0c hqq2 hl2 7 (fun k2 (s3,s4)=>[(5,.pb 2 0),(6,.pb 3 0),(7,.ref 4 none),(8,.pb 6 0),(9,dI (k1:Int)),(10,dI (k2:Int))]) (fun k2 (s3,s4)=>[(5,.row .fz 1 (s3.map (A.D.i .i64))),(6,.box [dI s4,.ref 5 none])]) I (fun k2 xk2 sk2 ok2 hxk2 hr hltk2=>?_) fun k2 hltk2=>?_
 obtain⟨s3,s4⟩:=sk2
 refine bdP hr fun s5 s6 hqq3 hr=>J (gn 11)<|q0e 7 [(5,.pb 2 0),(6,.pb 3 0),(7,.ref 4 none),(8,.pb 6 0),(9,dI (k1:Int)),(10,dI (k2:Int))] [(5,.row .fz 1 (s5.map (A.D.i .i64))),(6,.box [dI s6,.ref 5 none])] ?_ ?_
 replace hr:=hqq3
 refine bdE hr fun s7 hqq4 hr=>J (gn 9)<|q0a 8 [(5,.pb 2 0),(6,.pb 3 0),(7,.ref 4 none),(8,.pb 6 0),(9,dI (k1:Int)),(10,dI (k2:Int)),(43,dB s7)] ?_ ?_
 replace hr:=hqq4
 refine ifE hr ?_ ?_<;>intro h1 hr
 exact e
 exact e
 refine bdE hr fun s8 hqq5 hr=>q0a 6 [(5,.pb 2 0),(6,.pb 3 0),(7,.ref 4 none),(8,.pb 6 0),(9,dI (k1:Int)),(10,dI (k2:Int)),(49,dB s8)] ?_ ?_
 replace hr:=hqq5
 refine ifE hr ?_ ?_<;>intro h2 hr
 refine bdE hr fun y3 hy3 hr=>J g<|J (CB' [] [] (z8C (m:=m) hy3))<|e
 exact e
 refine J (gn 1)<|ifE hr ?_ ?_<;>intro h3 hr
 refine bdE hr fun y4 hy4 hr=>J g<|J (CB' [(0,7)] [5] (z8A (m:=.bo) hy4))<|e
 exact e
 exact e
 exact e
 exact e
theorem k1Z {m:Md}{a0:(List Int)}{a1:(List Int)}{r:Bool}(hr:z9n a0 a1=some r):Ok Tryz.prog 59 [.d m (.sl 1 (a0.map (A.D.i .i64))),.d m (.sl 1 (a1.map (A.D.i .i64)))] [] (dB r) []:=by
 refine OE Tryz.func59 fun S hS=>?_
 unfold z9n at hr
 refine J (gn 13)<|ifE hr ?_ ?_<;>intro h1 hr
 refine J (gn 8)<|J (lenT 0)<|fun hl1=>bdE hr fun q1 hqq1 hr=>q0b hqq1 hl1 0 (fun k1 _=>[(0,.d m (.sl 1 (a0.map (A.D.i .i64)))),(1,.d m (.sl 1 (a1.map (A.D.i .i64)))),(5,dI (k1:Int))]) (fun k1 _=>[]) I (fun k1 xk1 sk1 ok1 hxk1 hr hltk1 hik1=>?_) fun k1 sk1 ek1 hltk1=>?_
 refine bdE hr fun x1 hx1 hr=>J (gn 24)<|ifE hr ?_ ?_<;>intro h2 hr
 exact e
 exact e
 subst ek1
 exact e
 exact e
theorem z5h {m:Md}{a0:Rl_}{a1:Rl_}{r:Bool}(hr:q7e a0 a1=some r):Ok Tryz.prog 26 [Rl_.x m a0,Rl_.x m a1] [] (dB r) []:=by
 refine OE Tryz.func26 fun S hS=>?_
 unfold q7e at hr
 refine J g<|J (BX' 0)<|J (BX' 1)<|J (gn 9)<|ifE hr ?_ ?_<;>intro h1 hr
 refine bdE hr fun y1 hy1 hr=>J g<|J (CB' [] [] (k1Z (m:=m) hy1))<|e
 exact e
theorem k2a {m:Md}{a0:(List Rl_)}{a1:Rl_}{r:Bool}(hr:z6C a0 a1=some r):Ok Tryz.prog 58 [.d m (.sl 2 (a0.map Rl_.D)),Rl_.x m a1] [] (dB r) []:=by
 refine OE Tryz.func58 fun S hS=>?_
 unfold z6C at hr
 refine J g<|J (BX' 0)<|J (gn 8)<|J (lenT 0)<|fun hl1=>bdE hr fun q1 hqq1 hr=>q0b hqq1 hl1 1 (fun k1 _=>[(0,.d m (.sl 2 (a0.map Rl_.D))),(3,.pb 0 0),(5,dI (k1:Int))]) (fun k1 _=>[]) I (fun k1 xk1 sk1 ok1 hxk1 hr hltk1 hik1=>?_) fun k1 sk1 ek1 hltk1=>?_
 refine bdE hr fun y1 hy1 hr=>J g<|J (CB' [] [] (z5h (m:=m) hy1))<|J (gn 1)<|ifE hr ?_ ?_<;>intro h1 hr
 exact e
 exact e
 subst ek1
 exact e
theorem j4D {m:Md}{a0:Gm_}{r:((List (List Rl_))×(List l25Found))}(hr:z4Q a0=some r):Ok Tryz.prog 25 [Gm_.x m a0] [] (.tu [.ref 0 none,.ref 1 none]) [.deep .fz 1 (r.1.map (fun (l:List Rl_)=>[Cell.o .fz 2 (l.map Rl_.D)])) [],.deep .fz 2 (r.2.map l25Found.O) []]:=by
 refine OE Tryz.func25 fun S hS=>?_
 unfold z4Q at hr
 refine J g<|J (BX' 0)<|ggE hr fun g1 hr=>J g<|MKW 1 (f:=(fun (l:List Rl_)=>[Cell.o .fz 2 (l.map Rl_.D)])) [] g1.1 g1.2.1 g1.2.2 ?_
 refine ggE hr fun g2 hr=>J g<|MKW 2 (f:=l25Found.O) (⟨[],[]⟩:l25Found) g2.1 g2.2.1 g2.2.2 ?_
 refine bdE hr fun q1 hqq1 hr=>J g<|q0h hqq1 3 (fun (s1,s2)=>[(1,.pb 0 0),(4,.ref 1 none),(5,.ref 2 none)]) (fun (s1,s2)=>[(1,.deep .fz 1 (s1.map (fun (l:List Rl_)=>[Cell.o .fz 2 (l.map Rl_.D)])) []),(2,.deep .fz 2 (s2.map l25Found.O) [])]) I fun sk1 ok1 hr hik1=>?_
 obtain⟨s1,s2⟩:=sk1
 refine J g<|J (L0' 3 (fun (l:List Rl_)=>A.D.sl 2 (l.map Rl_.D)))<|q3H 3 (fun (l:List Rl_)=>[Cell.o .fz 2 (l.map Rl_.D)]) ?_
 refine J (gn 8) ?_
 refine q3d 1 rfl fun hl2=>?_
 refine bdE hr fun s3 hqq2 hr=>q0c hqq2 hl2 4 (fun k2 s3=>[(1,.pb 0 0),(4,.ref 1 none),(5,.ref 2 none),(6,.ref 3 none),(7,dI (k2:Int))]) (fun k2 s3=>[(3,.deep .fz 1 (s3.map (fun (l:List Rl_)=>[Cell.o .fz 2 (l.map Rl_.D)])) [])]) I (fun k2 xk2 sk2 ok2 hxk2 hr hltk2=>?_) fun k2 hltk2=>?_
 obtain⟨s3,rfl⟩:∃ y,y=sk2:=⟨_,rfl⟩
 refine J g<|J (LEd' s1.length)<|J g<|J (L0' 4 Rl_.D)<|J g<|J (IEd' (Int.natCast_nonneg _) (q3P hxk2))<|J (q0o 1 k2 0 5 (q3P hxk2))<|J (LPd' [(0,5)] (q3O (q3P hxk2)))<|ggE hr fun g3 hr=>J (APB' 6 .fz 32 g3)<|J (LID' (f:=(fun (l:List Rl_)=>[Cell.o .fz 2 (l.map Rl_.D)])) 7 xk2 [6])<|ggE hr fun g4 hr=>J (k5J 8 24 g4)<|J (gn 7) ?_
 cases hr
 exact GH.trans (q0m 1 k2 0 5 (q3O (q3P hxk2))) (GH.trans (q0k 1 (he:=k5I (f:=(fun (l:List Rl_)=>[Cell.o .fz 2 (l.map Rl_.D)])) hxk2 (by first|rfl|(simp only[List.set_set];rfl)))) (q0j hS [(0,0),(1,1),(2,2),(8,3)] 4))
 refine J g<|J (LEd' s1.length)<|J (gn 14) ?_
 refine q0I 3 (fun (l:List Rl_)=>A.D.sl 2 (l.map Rl_.D)) (by exact fun _=>rfl) rfl ?_
 refine AW.len (.box 0 1 rfl rfl) fun hl3=>?_
 refine bdT hr fun s4 s5 s6 hqq3 hr=>q0c hqq3 hl3 4 (fun k3 (s4,s5,s6)=>[(1,.pb 0 0),(4,.ref 1 none),(5,.ref 2 none),(6,.d .fz (.sl 1 (s3.map (fun (l:List Rl_)=>A.D.sl 2 (l.map Rl_.D))))),(8,dB s6),(9,dI (k3:Int))]) (fun k3 (s4,s5,s6)=>[(1,.deep .fz 1 (s4.map (fun (l:List Rl_)=>[Cell.o .fz 2 (l.map Rl_.D)])) []),(2,.deep .fz 2 (s5.map l25Found.O) []),(3,.none)]) I (fun k3 xk3 sk3 ok3 hxk3 hr hltk3=>?_) fun k3 hltk3=>?_
 obtain⟨s4,s5,s6⟩:=sk3
 refine J g<|J (NV' 4)<|bdE hr fun y1 hy1 hr=>J g<|J (CB' [(0,5)] [] (z9z (m:=.fz) hy1))<|bdE hr fun y2 hy2 hr=>J (CB' [(0,6)] [5] (z7U (m:=.bo) hy2))<|bdE hr fun y3 hy3 hr=>J g<|J (CB' [] [] (z3J (m:=m) hy3))<|J (gn 7)<|J (lenR 6)<|fun hl4=>bdT hr fun s7 s8 s9 hqq4 hr=>q0c hqq4 hl4 7 (fun k4 (s7,s8,s9)=>[(1,.pb 0 0),(4,.ref 1 none),(5,.ref 2 none),(6,.d .fz (.sl 1 (s3.map (fun (l:List Rl_)=>A.D.sl 2 (l.map Rl_.D))))),(8,dB s9),(9,dI (k3:Int)),(10,.pb 4 0),(11,.ref 6 none),(12,dI y3),(13,dI (k4:Int))]) (fun k4 (s7,s8,s9)=>[(1,.deep .fz 1 (s7.map (fun (l:List Rl_)=>[Cell.o .fz 2 (l.map Rl_.D)])) []),(2,.deep .fz 2 (s8.map l25Found.O) [])]) I (fun k4 xk4 sk4 ok4 hxk4 hr hltk4=>?_) fun k4 hltk4=>?_
 obtain⟨s7,s8,s9⟩:=sk4
 refine bdT hr fun s10 s11 s12 hqq5 hr=>J (gn 11)<|q0e 7 [(1,.pb 0 0),(4,.ref 1 none),(5,.ref 2 none),(6,.d .fz (.sl 1 (s3.map (fun (l:List Rl_)=>A.D.sl 2 (l.map Rl_.D))))),(8,dB s10),(9,dI (k3:Int)),(10,.pb 4 0),(11,.ref 6 none),(12,dI y3),(13,dI (k4:Int))] [(1,.deep .fz 1 (s11.map (fun (l:List Rl_)=>[Cell.o .fz 2 (l.map Rl_.D)])) []),(2,.deep .fz 2 (s12.map l25Found.O) [])] ?_ ?_
 replace hr:=hqq5
 refine bdE hr fun y4 hy4 hr=>J g<|J (CB' [(0,7)] [] (j3b (m:=m) hy4))<|bdE hr fun y5 hy5 hr=>J (CB' [(0,8)] [7] (z6X (m:=.bo) hy5))<|bdE hr fun y6 hy6 hr=>J (CB' [(0,9)] [8] (j5R (m:=.bo) hy6))<|J (NV' 10)<|ggE hr fun g5 hr=>bdE hr fun x1 hx1 hr=>J (gn 2)<|J (q0v 1 y3.toNat 0 11 (q3P hx1))<|J g<|J (IEd' g5 (q3O (q3P hx1)))<|J (LPd' [(0,11)] (q3O (q3P hx1)))<|bdE hr fun y7 hy7 hr=>J g<|J (CB' [] [11,9] (k2a (m:=.bo) hy7))<|J (gn 2)<|ifE hr ?_ ?_<;>intro h1 hr
 refine J (gn 2) ?_
 cases hr
 exact GH.trans (q0m 1 y3.toNat 0 11 (q3O (q3P hx1))) (GH.trans (q0k 1 (he:=k5I (f:=(fun (l:List Rl_)=>[Cell.o .fz 2 (l.map Rl_.D)])) hx1 (by first|rfl|(simp only[List.set_set];rfl)))) (q0j hS [(0,0),(1,1),(2,2),(4,4),(5,5),(6,6)] 7))
 refine J (gn 1) ?_
 refine J (q3L 9 rfl)<|J g<|J (IEd' g5 (q3O (q3P hx1)))<|J (LPd' [(0,11)] (q3O (q3P hx1)))<|J g<|J (LIR' 12 (m:=.fz) (f:=Rl_.D) (xs:=[y6]))<|ggE hr fun g6 hr=>J (AP1' 13 .fz 32 g6)<|J (IEd' g5 (q3O (q3P hx1)))<|J (SD' [.o .fz 2 ((x1++[y6]).map Rl_.D)] [13] (q3O (q3P hx1)))<|ggE hr fun g7 hr=>bdE hr fun x2 hx2 hr=>J (gn 1)<|J (q0v 2 y3.toNat 0 14 (q3P hx2))<|J g<|J (IEd' g7 (q3O (q3P hx2)))<|J g<|J (LPd' [(0,14)] (q3O (q3P hx2)))<|J g<|J (LIR' 15 (m:=.fz) (f:=A.D.s) (xs:=[xk3.Name]))<|ggE hr fun g8 hr=>J (q9P (f:=A.D.s) 16 (fun _=>rfl) 16 g8)<|J (IEd' g7 (q3O (q3P hx2)))<|J g<|J (SD' [.o .fz 1 ((x2.rule++[xk3.Name]).map A.D.s)] [16] (q3O (q3P hx2)))<|J (gn 1)<|J (q0v 2 y3.toNat 1 17 (q3O (q3O (q3P hx2)))) ?_
 refine J g<|J (IEd' g7 (q3O (q3O (q3O (q3P hx2)))))<|J g<|J (LPd' [(1,17)] (q3O (q3O (q3O (q3P hx2)))))<|J g<|J (LIR' 18 (m:=.fz) (f:=(fun (l:List Int)=>A.D.sl 1 (l.map (A.D.i .i64)))) (xs:=[xk4]))<|ggE hr fun g9 hr=>J (AP1' 19 .fz 24 g9)<|J (IEd' g7 (q3O (q3O (q3O (q3P hx2)))))<|J g<|J (SD' [.o .fz 1 ((x2.choice++[xk4]).map (fun (l:List Int)=>A.D.sl 1 (l.map (A.D.i .i64))))] [19] (q3O (q3O (q3O (q3P hx2)))))<|J (gn 4) ?_
 cases hr
 exact GH.trans (q0k 1 (he:=eset (f:=(fun (l:List Rl_)=>[Cell.o .fz 2 (l.map Rl_.D)])) (x':=(x1++[y6])) (by first|rfl|(simp only[List.set_set];rfl)))) (GH.trans (q0k 2 (he:=eset (f:=l25Found.O) (x':=(⟨(x2.rule++[xk3.Name]),(x2.choice++[xk4])⟩:l25Found)) (by first|rfl|(simp only[List.set_set];rfl)))) (q0j hS [(0,0),(1,1),(2,2),(4,4),(5,5),(6,6)] 7))
 exact e
 exact e
 refine J (gn 16)<|ifE hr ?_ ?_<;>intro h2 hr
 exact e
 exact e
theorem k2b {m:Md}{a0:Rule}{r:Rule}(hr:z6D a0=some r):Ok Tryz.prog 104 [Rule.x m a0] [] (.ag [dS r.Name,dS r.Left,.ref 0 none,dB r.Literal,.ref 1 none,.ref 2 none]) [.row .fz 1 (r.Right.map A.D.s),.row .fz 9 (r.Equations.map Eqn.D),.row .fz 16 (r.Contributions.map Cn.D)]:=by
 refine OE Tryz.func104 fun S hS=>?_
 unfold z6D at hr
 refine J g<|J (BX' 0)<|J (NV' 1)<|J g<|J (L0' 2 A.D.s)<|ggE hr fun g1 hr=>J g<|J (j5w (f:=A.D.s) 3 16 (fun _=>rfl) g1)<|J g<|J (NV' 4)<|J (gn 8) ?_
 refine J (q1I 4 4 5 .fz 9 rfl rfl)<|J (lenA 4 0)<|fun hl1=>bdE hr fun s1 hqq1 hr=>q0c hqq1 hl1 6 (fun k1 s1=>[(1,.pb 0 0),(2,.pb 1 0),(3,.pb 4 0),(4,dI (k1:Int))]) (fun k1 s1=>[(2,.none),(5,.row .fz 9 (s1.map Eqn.D))]) I (fun k1 xk1 sk1 ok1 hxk1 hr hltk1=>?_) fun k1 hltk1=>?_
 obtain⟨s1,rfl⟩:∃ y,y=sk1:=⟨_,rfl⟩
 refine bdE hr fun y1 hy1 hr=>J g<|J (CBz' 6 [(0,6)] [] (z7L (m:=m) hy1))<|J g<|J (LIR' 7 (m:=.fz) (f:=Eqn.D) (xs:=[(⟨xk1.At,y1⟩:Eqn)]))<|ggE hr fun g2 hr=>J (AP1' 8 .fz 112 g2)<|e
 refine J (gn 17) ?_
 refine J (q1I 4 5 6 .fz 16 rfl rfl) ?_
 refine AW.len (.box 0 5 rfl rfl) fun hl2=>?_
 refine bdE hr fun s2 hqq2 hr=>q0c hqq2 hl2 7 (fun k2 s2=>[(1,.pb 0 0),(2,.pb 1 0),(3,.pb 4 0),(5,dI (k2:Int))]) (fun k2 s2=>[(6,.row .fz 16 (s2.map Cn.D))]) I (fun k2 xk2 sk2 ok2 hxk2 hr hltk2=>?_) fun k2 hltk2=>?_
 obtain⟨s2,rfl⟩:∃ y,y=sk2:=⟨_,rfl⟩
 refine J g<|J (NV' 7)<|bdE hr fun y2 hy2 hr=>J g<|J (CBz' 8 [(0,8)] [] (z7L (m:=m) hy2))<|bdE hr fun y3 hy3 hr=>J g<|J (CBz' 9 [(0,9)] [] (z7L (m:=m) hy3))<|J g<|J (LIR' 10 (m:=.fz) (f:=Cn.D) (xs:=[(⟨xk2.Symbol,xk2.Name,y2,y3⟩:Cn)]))<|ggE hr fun g3 hr=>J (AP1' 11 .fz 208 g3)<|e
 exact e
theorem j7C {m:Md}{a0:Gm_}{a1:ByteArray}{r:(Rule×Bool)}(hr:z3v a0 a1=some r):Ok Tryz.prog 60 [.ag [.u,.d m (.sl 6 (a0.Rules.map Rule.D))],dS a1] [] (.tu [.ag [dS r.1.Name,dS r.1.Left,.ref 0 none,dB r.1.Literal,.ref 1 none,.ref 2 none],dB r.2]) [.row .fz 1 (r.1.Right.map A.D.s),.row .fz 9 (r.1.Equations.map Eqn.D),.row .fz 16 (r.1.Contributions.map Cn.D)]:=by
 refine OE Tryz.func60 fun S hS=>?_
 unfold z3v at hr
 refine J g<|J (BX' 0)<|J (NV' 1)<|J (gn 8)<|J (lenA 1 0)<|fun hl1=>bdE hr fun q1 hqq1 hr=>?_
 refine q0b hqq1 hl1 2 (fun k1 _=>[(1,dS a1),(2,.pb 0 0),(4,.pb 1 0),(6,dI (k1:Int))]) (fun k1 _=>[]) (GH.trans (q0t (q:=0) [.u,.d m (.sl 6 (a0.Rules.map Rule.D))] (.cons .u (.cons .rfl .nil)) rfl) I) (fun k1 xk1 sk1 ok1 hxk1 hr hltk1 hik1=>?_) fun k1 sk1 ek1 hltk1=>?_
 refine J (gn 24)<|ifE hr ?_ ?_<;>intro h1 hr
 refine bdE hr fun y1 hy1 hr=>J g<|J (CB' [(0,2),(1,3),(2,4)] [] (k2b (m:=m) hy1))<|e
 refine J (gn 7) ?_
 cases hr
 exact⟨_,rfl,GH.trans (q0t (q:=0) [.u,.d m (.sl 6 (a0.Rules.map Rule.D))] (.cons .u (.cons .rfl .nil)) rfl) (q0f hS 2)⟩
 subst ek1
 refine J (gn 18) ?_
 refine J (q0d (q0i (q:=1) (c:=2) (r:=2) .fz 1 rfl rfl rfl)) ?_
 refine J (q0d (q0i (q:=1) (c:=4) (r:=3) .fz 9 rfl rfl rfl)) ?_
 refine J (q0d (q0i (q:=1) (c:=5) (r:=4) .fz 16 rfl rfl rfl))<|J g<|E
theorem j9i {m:Md}{a0:Node}{a1:(List Tree)}{r:Tree}(hr:z4R a0 a1=some r):Ok Tryz.prog 61 [Node.x m a0,.d m (.sl 1 (a1.map Tree.D))] [] (.ag [.ref 0 none]) [.deep .fz 6 (r.Nodes.map Node.O) []]:=by
 refine OE Tryz.func61 fun S hS=>?_
 unfold z4R at hr
 refine J g<|J (BX' 0)<|J (NV' 1)<|J g<|J (L0' 2 (A.D.i .i64))<|J g<|J (LID' (f:=Node.O) 3 (⟨a0.Id,(-1),0,a0.Literal,a0.Rule,[]⟩:Node) [2])<|J g<|J (NV' 4)<|J (gn 8)<|J (lenT 1)<|fun hl1=>bdE hr fun s1 hqq1 hr=>?_
 refine q0c hqq1 hl1 5 (fun k1 s1=>[(1,.d m (.sl 1 (a1.map Tree.D))),(4,.pb 1 0),(5,.pb 4 0),(6,dI (k1:Int))]) (fun k1 s1=>[(0,.box [dI a0.Id,dI (-1),dI 0,dI a0.Literal,dS a0.Rule,.u]),(2,.none),(3,.deep .fz 6 (s1.map Node.O) [])]) (GH.trans (q0t (q:=0) [dI a0.Id,dI (-1),dI 0,dI a0.Literal,dS a0.Rule,.u] (.cons .rfl (.cons .rfl (.cons .rfl (.cons .rfl (.cons .rfl (.cons .u .nil)))))) rfl) I) (fun k1 xk1 sk1 ok1 hxk1 hr hltk1=>?_) fun k1 hltk1=>?_
 obtain⟨s1,rfl⟩:∃ y,y=sk1:=⟨_,rfl⟩
 refine J g<|J (LEd' s1.length)<|bdE hr fun x1 hx1 hr=>J (gn 2)<|J (q0v 3 0 5 5 (q3P hx1))<|J g<|J (IEd' (Int.natCast_nonneg _) (q3O (q3P hx1)))<|J g<|J (LPd' [(5,5)] (q3O (q3P hx1)))<|J g<|J (LIR' 6 (m:=.fz) (f:=(A.D.i .i64)) (xs:=([(s1.length:Int)]:List Int)))<|ggE hr fun g1 hr=>J (q9P (f:=(A.D.i .i64)) 7 (fun _=>rfl) 8 g1)<|J (IEd' (Int.natCast_nonneg _) (q3O (q3P hx1)))<|J g<|J (SD' [.o .fz 1 ((x1.Children++[(s1.length:Int)]).map (A.D.i .i64))] [7] (q3O (q3P hx1)))<|J g ?_
 refine q3I 3 rfl (he:=eset (f:=Node.O) (x':=(⟨x1.Id,x1.Parent,x1.Place,x1.Literal,x1.Rule,(x1.Children++[(s1.length:Int)])⟩:Node)) (by first|rfl|(simp only[List.set_set];rfl))) ?_
 refine AW.len (.el 0 (.tmp 1 rfl) hxk1 rfl) fun hl2=>?_
 refine bdE hr fun s2 hqq2 hr=>q0c hqq2 hl2 8 (fun k2 s2=>[(1,.d m (.sl 1 (a1.map Tree.D))),(4,.pb 1 0),(5,.pb 4 0),(6,dI (k1:Int)),(7,dI (s1.length:Int)),(8,dI (k2:Int))]) (fun k2 s2=>[(0,.box [dI a0.Id,dI (-1),dI 0,dI a0.Literal,dS a0.Rule,.u]),(3,.deep .fz 6 (s2.map Node.O) []),(5,.none),(7,.none)]) (GH.trans (q0t (q:=0) [dI a0.Id,dI (-1),dI 0,dI a0.Literal,dS a0.Rule,.u] (.cons .rfl (.cons .rfl (.cons .rfl (.cons .rfl (.cons .rfl (.cons .u .nil)))))) rfl) I) (fun k2 xk2 sk2 ok2 hxk2 hr hltk2=>?_) fun k2 hltk2=>?_
 obtain⟨s2,rfl⟩:∃ y,y=sk2:=⟨_,rfl⟩
 refine bdE hr fun s3 hqq3 hr=>J (gn 15)<|q0e 9 [(1,.d m (.sl 1 (a1.map Tree.D))),(4,.pb 1 0),(5,.pb 4 0),(6,dI (k1:Int)),(7,dI (s1.length:Int)),(8,dI (k2:Int))] [(0,.box [dI a0.Id,dI (-1),dI 0,dI a0.Literal,dS a0.Rule,.u]),(3,.none),(4,.box [.ref 8 none]),(8,.deep .fz 6 (s3.map Node.O) [])] ?_ ?_
 replace hr:=hqq3
 refine J g<|J (NV' 8)<|ggE hr fun g2 hr=>J (gn 17)<|ifE hr ?_ ?_<;>intro h1 hr
 refine J g<|J (L0' 9 (A.D.i .i64))<|J (gn 8)<|J (lenA 5 57)<|fun hl3=>bdE hr fun s4 hqq4 hr=>?_
 refine q0c hqq4 hl3 10 (fun k3 s4=>[(1,.d m (.sl 1 (a1.map Tree.D))),(4,.pb 1 0),(5,.pb 4 0),(6,dI (k1:Int)),(7,dI (s1.length:Int)),(8,dI (k2:Int)),(9,.pb 8 0),(10,.ref 9 none),(11,dI (k3:Int))]) (fun k3 s4=>[(0,.box [dI a0.Id,dI (-1),dI 0,dI a0.Literal,dS a0.Rule,.u]),(9,.row .fz 1 (s4.map (A.D.i .i64)))]) (GH.trans (q0t (q:=0) [dI a0.Id,dI (-1),dI 0,dI a0.Literal,dS a0.Rule,.u] (.cons .rfl (.cons .rfl (.cons .rfl (.cons .rfl (.cons .rfl (.cons .u .nil)))))) rfl) I) (fun k3 xk3 sk3 ok3 hxk3 hr hltk3=>?_) fun k3 hltk3=>?_
 obtain⟨s4,rfl⟩:∃ y,y=sk3:=⟨_,rfl⟩
 refine ggE hr fun g3 hr=>J g<|J (LIR' 10 (m:=.fz) (f:=(A.D.i .i64)) (xs:=([(xk3+(s1.length:Int))]:List Int)))<|ggE hr fun g4 hr=>J (q9P (f:=(A.D.i .i64)) 11 (fun _=>rfl) 8 g4)<|J (gn 7) ?_
 cases hr
 exact GH.trans (q0t (q:=0) [dI a0.Id,dI (-1),dI 0,dI a0.Literal,dS a0.Rule,.u] (.cons .rfl (.cons .rfl (.cons .rfl (.cons .rfl (.cons .rfl (.cons .u .nil)))))) rfl) (q0j hS [(0,0),(1,1),(3,3),(4,4),(6,6),(8,8),(11,9)] 10)
 refine J g<|J (LID' (f:=Node.O) 10 (⟨xk2.Id,0,((k1+1:Nat):Int),xk2.Literal,xk2.Rule,s4⟩:Node) [9])<|ggE hr fun g5 hr=>J (k5J 11 72 g5)<|J (gn 3) ?_
 cases hr
 exact GH.trans (q0t (q:=0) [dI a0.Id,dI (-1),dI 0,dI a0.Literal,dS a0.Rule,.u] (.cons .rfl (.cons .rfl (.cons .rfl (.cons .rfl (.cons .rfl (.cons .u .nil)))))) rfl) (q0j hS [(0,0),(1,1),(4,4),(6,6),(11,8)] 9)
 refine J g<|J (L0' 9 (A.D.i .i64))<|J (gn 8)<|J (lenA 5 57)<|fun hl4=>bdE hr fun s5 hqq5 hr=>?_
 refine q0c hqq5 hl4 10 (fun k4 s5=>[(1,.d m (.sl 1 (a1.map Tree.D))),(4,.pb 1 0),(5,.pb 4 0),(6,dI (k1:Int)),(7,dI (s1.length:Int)),(8,dI (k2:Int)),(9,.pb 8 0),(10,.ref 9 none),(11,dI (k4:Int))]) (fun k4 s5=>[(0,.box [dI a0.Id,dI (-1),dI 0,dI a0.Literal,dS a0.Rule,.u]),(9,.row .fz 1 (s5.map (A.D.i .i64)))]) (GH.trans (q0t (q:=0) [dI a0.Id,dI (-1),dI 0,dI a0.Literal,dS a0.Rule,.u] (.cons .rfl (.cons .rfl (.cons .rfl (.cons .rfl (.cons .rfl (.cons .u .nil)))))) rfl) I) (fun k4 xk4 sk4 ok4 hxk4 hr hltk4=>?_) fun k4 hltk4=>?_
 obtain⟨s5,rfl⟩:∃ y,y=sk4:=⟨_,rfl⟩
 refine ggE hr fun g6 hr=>J g<|J (LIR' 10 (m:=.fz) (f:=(A.D.i .i64)) (xs:=([(xk4+(s1.length:Int))]:List Int)))<|ggE hr fun g7 hr=>J (q9P (f:=(A.D.i .i64)) 11 (fun _=>rfl) 8 g7)<|J (gn 7) ?_
 cases hr
 exact GH.trans (q0t (q:=0) [dI a0.Id,dI (-1),dI 0,dI a0.Literal,dS a0.Rule,.u] (.cons .rfl (.cons .rfl (.cons .rfl (.cons .rfl (.cons .rfl (.cons .u .nil)))))) rfl) (q0j hS [(0,0),(1,1),(3,3),(4,4),(6,6),(8,8),(11,9)] 10)
 refine J g<|J (LID' (f:=Node.O) 10 (⟨xk2.Id,(xk2.Parent+(s1.length:Int)),xk2.Place,xk2.Literal,xk2.Rule,s5⟩:Node) [9])<|ggE hr fun g8 hr=>J (k5J 11 72 g8)<|J (gn 3) ?_
 cases hr
 exact GH.trans (q0t (q:=0) [dI a0.Id,dI (-1),dI 0,dI a0.Literal,dS a0.Rule,.u] (.cons .rfl (.cons .rfl (.cons .rfl (.cons .rfl (.cons .rfl (.cons .u .nil)))))) rfl) (q0j hS [(0,0),(1,1),(4,4),(6,6),(11,8)] 9)
 refine J (gn 5) ?_
 cases hr
 exact GH.trans (q0t (q:=0) [dI a0.Id,dI (-1),dI 0,dI a0.Literal,dS a0.Rule,.u] (.cons .rfl (.cons .rfl (.cons .rfl (.cons .rfl (.cons .rfl (.cons .u .nil)))))) rfl) (q0j hS [(0,0),(1,1),(8,3),(4,4),(6,6)] 8)
 refine J (gn 19) ?_
 cases hr
 exact GH.trans (q0t (q:=0) [dI a0.Id,dI (-1),dI 0,dI a0.Literal,dS a0.Rule,.u] (.cons .rfl (.cons .rfl (.cons .rfl (.cons .rfl (.cons .rfl (.cons .u .nil)))))) rfl) (q0j hS [(0,0),(1,1),(3,3),(4,4)] 5)
 exact e
theorem j5S {Rc9:Gm_→(List l25Found)→ByteArray→(List Int)→Option Tree}(Ic9:∀ {m:Md} {a0:Gm_} {a1:(List l25Found)} {a2:ByteArray} {a3:(List Int)} {r:Tree},Rc9 a0 a1 a2 a3=some r→Ok Tryz.prog 28 [Gm_.x m a0,.d m (.sl 2 (a1.map l25Found.D)),dS a2,.d m (.sl 1 (a3.map (A.D.i .i64)))] [] (.ag [.ref 0 none]) [.deep .fz 6 (r.Nodes.map Node.O) []]){m:Md}{a0:Gm_}{a1:(List l25Found)}{a2:ByteArray}{a3:(List Int)}{r:Tree}(hr:z3w Rc9 a0 a1 a2 a3=some r):Ok Tryz.prog 28 [Gm_.x m a0,.d m (.sl 2 (a1.map l25Found.D)),dS a2,.d m (.sl 1 (a3.map (A.D.i .i64)))] [] (.ag [.ref 0 none]) [.deep .fz 6 (r.Nodes.map Node.O) []]:=by
 refine Ok.enter rfl Tryz.func28 rfl rfl rfl fun S hS=>?_
 unfold z3w at hr
 refine sr ?_
 refine BX 0 ?_
 refine NV 1 ?_
 refine N0 ?_
 refine sr ?_
 refine W2 ?_
 refine bdE hr fun q1 hq1 hr=>?_
 obtain⟨y1,y2⟩:=q1
 refine CB [(0,2),(1,3),(2,4)] [] (j7C (m:=m) hq1) ?_
 refine W3 ?_
 refine NV 5 ?_
 refine SB ?_
 refine N1 ?_
 refine sr ?_
 refine L0 6 Tree.D ?_
 refine N1 ?_
 refine sr ?_
 refine N1 ?_
 refine ssr ?_
 refine N1 ?_
 refine bdE hr fun s1 hqq2 hr=>?_
 refine q0e 7 [(2,dS a2),(8,.pb 1 0),(11,.ref 6 none)] [(6,.row .fz 1 (s1.map Tree.D))] ?_ ?_
 refine AW.block (q0h hqq2 7 (fun (s2,s3,s4)=>[(1,.d m (.sl 2 (a1.map l25Found.D))),(2,dS a2),(3,.d m (.sl 1 (a3.map (A.D.i .i64)))),(4,.pb 0 0),(8,.pb 1 0),(9,.pb 5 0),(11,.ref 6 none),(12,dI s3),(13,dI s4)]) (fun (s2,s3,s4)=>[(6,.row .fz 1 (s2.map Tree.D))]) (q0f hS 7) fun sk1 ok1 hr hik1=>?_)
 obtain⟨s2,s3,s4⟩:=sk1
 have hr:=hr
 refine ssr ?_
 refine W2 ?_
 refine LF ?_
 refine W1 ?_
 refine ifE hr (fun h1 hr=>?_) fun h1 hr=>?_
 refine VT rfl (dT h1) ?_
 refine N3 ?_
 refine ifE hr (fun h2 hr=>?_) fun h2 hr=>?_
 refine q0G rfl (dT h2) ?_
 refine q0z ?_
 refine q0p (AW.block (q0p (q0y (h:=?_))))
 refine W4 ?_
 refine ggE hr fun g1 hr=>?_
 refine bdE hr fun x1 hx1 hr=>?_
 refine IE hx1 g1 ?_
 refine LP hx1 ?_
 refine bdE hr fun y3 hy3 hr=>?_
 refine CB [] [] (z3J (m:=m) hy3) ?_
 refine N1 ?_
 refine q0p (q0y (h:=?_))
 refine W4 ?_
 refine ggE hr fun g2 hr=>?_
 refine bdE hr fun x2 hx2 hr=>?_
 refine IF g2 hx2 ?_
 refine W4 ?_
 refine ggE hr fun g3 hr=>?_
 refine bdE hr fun x3 hx3 hr=>?_
 refine IF g3 hx3 ?_
 refine W1 ?_
 refine ggE hr fun g4 hr=>?_
 refine bdE hr fun x4 hx4 hr=>?_
 refine IF g4 hx4 ?_
 refine W3 ?_
 refine IF g2 hx2 ?_
 refine W4 ?_
 refine IF g3 hx3 ?_
 refine W1 ?_
 refine ggE hr fun g5 hr=>?_
 refine bdE hr fun x5 hx5 hr=>?_
 refine IF g5 hx5 ?_
 refine W1 ?_
 refine bdE hr fun y4 hy4 hr=>?_
 refine CBzD (g0:=Node.O) 7 Node.D (by exact fun _=>rfl) [(0,7)] [] (Ic9 (m:=m) hy4) ?_
 refine NV 8 ?_
 refine SB ?_
 refine N0 ?_
 refine sr ?_
 refine W3 ?_
 refine LF ?_
 refine ggE hr fun g6 hr=>?_
 refine OB _ (bAdd g6) ?_
 refine N1 ?_
 refine q0n ?_
 refine W2 ?_
 refine LIR 9 (m:=.fz) (f:=Tree.D) (xs:=[y4]) ?_
 refine ggE hr fun g7 hr=>?_
 refine AP1 10 .fz 24 g7 ?_
 refine N1 ?_
 refine q0n ?_
 refine W1 ?_
 refine ggE hr fun g8 hr=>?_
 refine OB _ (bAdd g8) ?_
 refine N1 ?_
 cases hr
 exact⟨_,rfl,q0j hS [(0,0),(1,1),(2,2),(3,3),(4,4),(5,5),(10,6)] 7⟩
 refine q0S rfl (dF h2) ?_
 refine q0P ?_
 cases hr
 cases hik1 _ rfl
 exact q0f hS 7
 refine VF rfl (dF h1) ?_
 iterate 2 refine AL.off ?_
 refine N1 ?_
 refine q0S rfl rfl ?_
 refine q0P ?_
 cases hr
 cases hik1 _ rfl
 exact q0f hS 7
 refine sr ?_
 refine W3 ?_
 refine bdE hr fun y5 hy5 hr=>?_
 refine CB [(0,7)] [6] (j9i (m:=.bo) hy5) ?_
 refine SB ?_
 refine N0 ?_
 refine q0w ?_
 cases hr
 exact q0l [(7,0)] 1 hS
theorem j5T (n:Nat):∀ {m:Md} {a0:Gm_} {a1:(List l25Found)} {a2:ByteArray} {a3:(List Int)} {r:Tree},q9T n a0 a1 a2 a3=some r→Ok Tryz.prog 28 [Gm_.x m a0,.d m (.sl 2 (a1.map l25Found.D)),dS a2,.d m (.sl 1 (a3.map (A.D.i .i64)))] [] (.ag [.ref 0 none]) [.deep .fz 6 (r.Nodes.map Node.O) []]:=by
  induction n with
  | zero=>intro _ _ _ _ _ r hr;exact nomatch (show (none:Option Tree)=some r from hr)
  | succ n ih=>intro _ _ _ _ _ r hr;exact j5S ih hr
theorem j0T {m:Md}{a0:Gm_}{a1:(List l25Found)}{a2:ByteArray}{a3:(List Int)}{r:Tree}(hr:q5V a0 a1 a2 a3=some r):Ok Tryz.prog 28 [Gm_.x m a0,.d m (.sl 2 (a1.map l25Found.D)),dS a2,.d m (.sl 1 (a3.map (A.D.i .i64)))] [] (.ag [.ref 0 none]) [.deep .fz 6 (r.Nodes.map Node.O) []]:=by
 obtain⟨n,hn⟩:=q5J hr
 exact j5T n hn
theorem z6Y {a0:Tree}{r:(Tree×Bool×(List Node))}(hr:q4O a0=some r):Ok Tryz.prog 27 [.ag [.ref 0 none]] [.deep .fz 6 (a0.Nodes.map Node.O) []] (.tu [.ag [.ref 1 none],dB r.2.1]) [.dead,.deep .fz 6 (r.1.Nodes.map Node.O) []]:=by
 refine OE Tryz.func27 fun S hS=>?_
 unfold q4O at hr
 refine J g<|J (BX' 1)<|J (NV' 2)<|J g<|J (LEd' a0.Nodes.length)<|J (gn 2)<|ifE hr ?_ ?_<;>intro h1 hr
 refine J (gn 8) ?_
 refine J (q0d (q0i (q:=2) (c:=0) (r:=3) .fz 6 rfl rfl rfl))<|J (q0d (q0x 3 Node.O)) ?_
 refine J (q0d (q1M (i:=0) (j:=4) rfl rfl))<|J g<|E
 refine bdE hr fun s1 hqq1 hr=>J (gn 7)<|q0e 3 [(1,.pb 1 0),(2,.pb 2 0)] [(0,.deep .fz 6 (s1.map Node.O) [])] ?_ ?_
 refine J g<|q0h hqq1 3 (fun (s2,s3)=>[(1,.pb 1 0),(2,.pb 2 0),(4,dI s2)]) (fun (s2,s3)=>[(0,.deep .fz 6 (s3.map Node.O) [])]) I fun sk1 ok1 hr hik1=>?_
 obtain⟨s2,s3⟩:=sk1
 have hr:=hr
 refine J g<|J (LEd' s3.length)<|J (gn 2)<|ifE hr ?_ ?_<;>intro h2 hr
 refine ggE hr fun g1 hr=>ggE hr fun g2 hr=>bdE hr fun x1 hx1 hr=>J g<|J (IEd' g2 (q3P hx1))<|J g<|J (SD' [.d .fz (.i .i64 (s2+1))] [] (q3P hx1))<|ggE hr fun g3 hr=>J (gn 6) ?_
 cases hr
 exact⟨_,rfl,GH.trans (q0k 0 (he:=eset (f:=Node.O) (x':=(⟨(s2+1),x1.Parent,x1.Place,x1.Literal,x1.Rule,x1.Children⟩:Node)) (by first|rfl|(simp only[List.set_set];rfl)))) (q0f hS 3)⟩
 refine J (gn 2) ?_
 cases hr
 cases hik1 _ rfl
 exact q0f hS 3
 refine J (gn 7) ?_
 refine J (q0d (q1M (i:=0) (j:=3) rfl rfl))<|J g<|E
theorem j3d {m:Md}{a0:Gm_}{a1:ByteArray}{a2:Rl_}{r:(Tree×Bool)}(hr:q9z a0 a1 a2=some r):Ok Tryz.prog 7 [Gm_.x m a0,dS a1,Rl_.x m a2] [] (.tu [.ag [.ref 0 none],dB r.2]) [.deep .fz 6 (r.1.Nodes.map Node.O) []]:=by
 refine OE Tryz.func7 fun S hS=>?_
 unfold q9z at hr
 refine J g<|J (BX' 0)<|J (BX' 1)<|J (NV' 2)<|bdE hr fun y1 hy1 hr=>J g<|J (CB' [] [] (z3J (m:=m) hy1))<|bdE hr fun y2 hy2 hr=>J g<|J (CB' [] [] (j3a (m:=m) hy2))<|J (gn 1)<|ifE hr ?_ ?_<;>intro h1 hr
 refine J (gn 5)<|ifE hr ?_ ?_<;>intro h2 hr
 refine J (gn 8) ?_
 refine J (q0d (q0i (q:=2) (c:=0) (r:=3) .fz 6 rfl rfl rfl))<|J (q0d (q0x 3 Node.O))<|J g<|E
 refine bdP hr fun y3 y4 hq1 hr=>J g<|J (CB' [(0,3),(1,4)] [] (j4D (m:=m) hq1))<|J (gn 8) ?_
 refine q0I 3 (fun (l:List Rl_)=>A.D.sl 2 (l.map Rl_.D)) (by exact fun _=>rfl) rfl ?_
 refine q0I 4 l25Found.D (by exact fun _=>rfl) rfl ?_
 refine ggE hr fun g1 hr=>bdE hr fun x1 hx1 hr=>J (gn 4) ?_
 refine AW.len (.el 0 (.tmp 9 rfl) hx1 rfl) fun hl1=>?_
 refine bdE hr fun q2 hqq2 hr=>q0b hqq2 hl1 5 (fun k1 _=>[(3,.pb 0 0),(5,.pb 1 0),(6,.pb 2 0),(8,dI y1),(9,.d .fz (.sl 1 (y3.map (fun (l:List Rl_)=>A.D.sl 2 (l.map Rl_.D))))),(10,.d .fz (.sl 2 (y4.map l25Found.D))),(11,dI (k1:Int))]) (fun k1 _=>[(3,.none),(4,.none)]) I (fun k1 xk1 sk1 ok1 hxk1 hr hltk1 hik1=>?_) fun k1 sk1 ek1 hltk1=>?_
 refine bdE hr fun y5 hy5 hr=>J g<|J (CB' [] [] (z5h (m:=m) hy5))<|J (gn 1)<|ifE hr ?_ ?_<;>intro h3 hr
 refine ggE hr fun g2 hr=>bdE hr fun x2 hx2 hr=>bdE hr fun x3 hx3 hr=>bdE hr fun x4 hx4 hr=>bdE hr fun y6 hy6 hr=>J g<|J (CB' [(0,5)] [] (j0T (m:=m) hy6))<|bdT hr fun y7 y8 z1 hq3 hr=>J (CB' [(0,5),(1,6)] [] (z6Y hq3))<|e
 exact e
 subst ek1
 refine J (gn 20) ?_
 refine J (q0d (q0i (q:=2) (c:=0) (r:=5) .fz 6 rfl rfl rfl))<|J (q0d (q0x 5 Node.O))<|J g<|E
 refine J (gn 13) ?_
 refine J (q0d (q0i (q:=2) (c:=0) (r:=3) .fz 6 rfl rfl rfl))<|J (q0d (q0x 3 Node.O))<|J g<|E
theorem j9j {m:Md}{a0:Rl_}{r:Bool}(hr:z2Z a0=some r):Ok Tryz.prog 50 [Rl_.x m a0] [] (dB r) []:=by
 refine OE Tryz.func50 fun S hS=>?_
 unfold z2Z at hr
 refine J g<|J (BX' 0)<|bdE hr fun y1 hy1 hr=>J g<|J (CB' [] [] (q6T (m:=m) hy1))<|J (gn 2)<|ifE hr ?_ ?_<;>intro h1 hr
 refine bdE hr fun y2 hy2 hr=>J g<|J (CB' [(0,1)] [] (z5g (m:=m) hy2))<|J (NV' 2)<|J (gn 8) ?_
 refine q0Z (.ag 0 (.tmp 0 rfl) rfl) fun hl1=>?_
 refine bdE hr fun q1 hqq1 hr=>q0u hqq1 3 (fun k1 _=>[(1,.pb 0 0),(3,.pb 2 0),(4,dI (k1:Int))]) (fun k1 _=>[]) I (fun k1 sk1 ok1 hr hltk1 hik1=>?_) fun sk1 ek1=>?_
 refine bdE hr fun y3 hy3 hr=>J g<|J (CB' [] [1] (z8C (m:=.bo) hy3))<|J (gn 1)<|ifE hr ?_ ?_<;>intro h2 hr
 exact e
 exact e
 subst ek1
 exact e
 exact e
theorem j1v {m:Md}{a0:Gm_}{r:(Tree×Bool)}(hr:q8U a0=some r):Ok Tryz.prog 18 [Gm_.x m a0] [] (.tu [.ag [.ref 0 none],dB r.2]) [.deep .fz 6 (r.1.Nodes.map Node.O) []]:=by
 refine OE Tryz.func18 fun S hS=>?_
 unfold q8U at hr
 refine J g<|J (BX' 0)<|J (NV' 1)<|bdE hr fun y1 hy1 hr=>J g<|J (CB' [] [] (j3a (m:=m) hy1))<|J (gn 2)<|ifE hr ?_ ?_<;>intro h1 hr
 refine bdP hr fun y2 y3 hq1 hr=>J g<|J (CB' [(0,2),(1,3)] [] (j4D (m:=m) hq1))<|J (gn 12) ?_
 refine q0I 2 (fun (l:List Rl_)=>A.D.sl 2 (l.map Rl_.D)) (by exact fun _=>rfl) rfl ?_
 refine J (lenA 1 0)<|fun hl1=>bdE hr fun q2 hqq2 hr=>q0b hqq2 hl1 4 (fun k1 _=>[(1,.pb 0 0),(2,.pb 1 0),(4,.d .fz (.sl 1 (y2.map (fun (l:List Rl_)=>A.D.sl 2 (l.map Rl_.D))))),(5,.ref 3 none),(6,dI (k1:Int))]) (fun k1 _=>[(2,.none)]) I (fun k1 xk1 sk1 ok1 hxk1 hr hltk1 hik1=>?_) fun k1 sk1 ek1 hltk1=>?_
 refine J g<|J (NV' 4)<|bdE hr fun y4 hy4 hr=>J g<|J (CB' [(0,5)] [] (z9z (m:=.fz) hy4))<|bdE hr fun y5 hy5 hr=>J (CB' [(0,6)] [5] (z7U (m:=.bo) hy5))<|J (gn 7)<|J (lenR 6)<|fun hl2=>bdE hr fun q3 hqq3 hr=>q0b hqq3 hl2 7 (fun k2 _=>[(1,.pb 0 0),(2,.pb 1 0),(4,.d .fz (.sl 1 (y2.map (fun (l:List Rl_)=>A.D.sl 2 (l.map Rl_.D))))),(5,.ref 3 none),(6,dI (k1:Int)),(7,.pb 4 0),(8,.ref 6 none),(9,dI (k2:Int))]) (fun k2 _=>[]) I (fun k2 xk2 sk2 ok2 hxk2 hr hltk2 hik2=>?_) fun k2 sk2 ek2 hltk2=>?_
 refine bdE hr fun y6 hy6 hr=>J g<|J (CB' [(0,7)] [] (j3b (m:=m) hy6))<|bdE hr fun y7 hy7 hr=>J (CB' [(0,8)] [7] (z6X (m:=.bo) hy7))<|bdE hr fun y8 hy8 hr=>J (CB' [] [8] (j9j (m:=.bo) hy8))<|J (gn 1)<|ifE hr ?_ ?_<;>intro h2 hr
 refine bdE hr fun y9 hy9 hr=>J g<|J (CB' [(0,9)] [3] (j0T (m:=.bo) hy9))<|bdT hr fun y10 y11 z1 hq4 hr=>J (CB' [(0,9),(1,10)] [] (z6Y hq4))<|e
 exact e
 subst ek2
 exact e
 subst ek1
 refine J (gn 18) ?_
 refine J (q0d (q0i (q:=1) (c:=0) (r:=4) .fz 6 rfl rfl rfl))<|J (q0d (q0x 4 Node.O))<|J g<|E
 refine J (gn 8) ?_
 refine J (q0d (q0i (q:=1) (c:=0) (r:=2) .fz 6 rfl rfl rfl))<|J (q0d (q0x 2 Node.O))<|J g<|E
end Go.Proofs.YtipikecbeganoaaGreat
