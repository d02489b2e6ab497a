/- What some functions of the program compute, as partial functions on plain data, and that they do; each lemma bears its conditions in its statement. -/
import Derived.Test.YtgkepiefcpfimaaGreatDoorLane1a
set_option linter.unusedVariables false
set_option linter.unusedSimpArgs false
set_option linter.ambiguousOpen false
set_option linter.unusedSectionVars false
set_option linter.unnecessarySimpa false
set_option maxRecDepth 100000
set_option maxHeartbeats 40000000
noncomputable section
open List renaming length_set→Clz
namespace Go.Proofs.YtgkepiefcpfimaaGreatDoor
open Go Go.E Go.A
theorem z3W {a0 r:List Oc}(hr:q5T a0=some r):Okp 171 [.ref 0 none] [.row .fz 2 (a0.map Oc.D)] (.ref 1 none) [.dead,.row .fz 2 (r.map Oc.D)]:=by
 refine OE Tryz.func171 fun S hS=>?_
 unfold q5T at hr
 refine fE 11 hr ?_ ?_<;>intro h1 hr
 refine J (gn 7) ?_
 refine J (q0c (q0G (i:=0) (j:=1) rfl rfl))<|J g<|E
 refine bdE hr fun q1 hqq1 hr=>J (gn 7)<|AW.cut 1 (fun _=>[(0,.ref 0 none)]) (fun _=>[]) (M:=fun x=>q1=.inl x) ?_ fun x hx=>?_
 refine J g<|q0i hqq1 1 (fun s1=>[(0,.ref 0 none),(3,dI s1)]) (fun s1=>[]) I fun sk1 ok1 hr hik1=>?_
 obtain⟨s1,rfl⟩:∃ y,y=sk1:=⟨_,rfl⟩
 have hr:=hr
 refine fE 8 hr ?_ ?_<;>intro h2 hr
 refine ggE hr fun g1 hr=>bdE hr fun x1 hx1 hr=>ggE hr fun g2 hr=>ggE hr fun g3 hr=>bdE hr fun x2 hx2 hr=>J g ?_
 refine J (SQ' rfl rfl rfl rfl (q6B x1 x2))<|fE 1 hr ?_ ?_<;>intro h3 hr
 refine ggE hr fun g4 hr=>ggE hr fun g5 hr=>J g<|J (SVL' g4 g5)<|bdP hr fun s2 s3 hqq2 hr=>J (gn 7)<|q0d 1 [(0,.ref 0 none),(3,dI s3)] [(0,.row .fz 2 (s2.map Oc.D))] ?_ ?_
 refine J g ?_
 refine q0i hqq2 1 (fun (s4,s5,s6)=>[(0,.ref 0 none),(3,dI s5),(4,.vs 0 none s1.toNat (s4.length-s1.toNat)),(5,dI s6)]) (fun (s4,s5,s6)=>[(0,.row .fz 2 (s4.map Oc.D))]) (GH.ren hS [(0,0)] 1 ⟨.rfl,.rfl,(.vn (by first|rfl|simp only[Clz])),.rfl,trivial⟩) fun sk2 ok2 hr hik2=>?_
 obtain⟨s4,s5,s6⟩:=sk2
 have hr:=hr
 refine J g<|J (LV' (s4.drop s1.toNat).length)<|fE 2 hr ?_ ?_<;>intro h4 hr
 refine bdP hr fun s7 s8 hqq3 hr=>J (gn 3)<|q0d 1 [(0,.ref 0 none),(3,dI s7),(4,.vs 0 none s1.toNat (s8.length-s1.toNat)),(5,dI s6)] [(0,.row .fz 2 (s8.map Oc.D))] ?_ ?_
 replace hr:=hqq3
 refine ggE hr fun g6 hr=>bdE hr fun x3 hx3 hr=>J g<|J (IV' hx3 g6 (j0E hx3))<|ggE hr fun g7 hr=>ggE hr fun g8 hr=>bdE hr fun x4 hx4 hr=>J g<|J (IV' hx4 g8 (j0E hx4))<|J g ?_
 refine J (SQn' rfl rfl rfl rfl (q6B x3 x4))<|fE 1 hr ?_ ?_<;>intro h5 hr
 refine J (gn 2) ?_
 cases hr
 exact GH.ren hS [(0,0)] 1 ⟨.rfl,.rfl,(.vn (by first|rfl|simp only[Clz])),.rfl,trivial⟩
 refine ggE hr fun g9 hr=>J g<|J (IV' hx3 g9 (j0E hx3))<|ggE hr fun g10 hr=>bdE hr fun x5 hx5 hr=>J g<|J (SE' x3 hx5)<|ggE hr fun g11 hr=>J (gn 6) ?_
 cases hr
 exact GH.ren hS [(0,0)] 1 ⟨.rfl,.rfl,(.vn (by first|rfl|simp only[Clz])),.rfl,trivial⟩
 refine ggE hr fun g12 hr=>J (gn 5) ?_
 cases hr
 exact⟨_,rfl,GH.ren hS [(0,0)] 1 ⟨.rfl,.rfl,(.vn (by first|rfl|simp only[Clz])),.rfl,trivial⟩⟩
 refine J (gn 2) ?_
 cases hr
 cases hik2 _ rfl
 exact q0g hS 1
 refine ggE hr fun g13 hr=>ggE hr fun g14 hr=>J g<|J (SVL' g13 g14)<|J (CLR' (⟨(0:Int),(⟨#[]⟩:BA_)⟩:Oc) g14)<|ggE hr fun g15 hr=>ggE hr fun g16 hr=>J g<|J (CU' 1 g15 g16)<|e
 refine ggE hr fun g17 hr=>e
 refine J (gn 2) ?_
 cases hr
 cases hik1 _ rfl
 exact⟨_,rfl,q0g hS 1⟩
 subst hx
 refine J (gn 6) ?_
 refine J (q0c (q0G (i:=0) (j:=1) rfl rfl))<|J g<|E
theorem z2M {m:Md}{a0:Expr}{r:List Oc}(hr:q7t a0=some r):Okp 129 [Expr.x m a0] [] (.ref 0 none) [.row .fz 2 (r.map Oc.D)]:=by
 refine OE Tryz.func129 fun S hS=>?_
 unfold q7t at hr
 refine J g<|J (BX' 0)<|J g<|J (L0' 1 Oc.D)<|J (NV' 2)<|bdP hr fun y1 z1 hq1 hr=>J g<|J (CB' [(0,2),(1,1),(2,3)] [] (z3D (m:=m) hq1))<|bdE hr fun z2 hz2 hr=>J g<|J (CB' [(0,3)] [] (z3L hz2))<|bdE hr fun y2 hy2 hr=>J g<|J (CB' [(0,3),(1,4)] [] (z3W hy2))<|e
theorem z2N {m:Md}{a0:Symbol}{a1:BA_}{r:(At_×Bool)}(hr:q7u a0 a1=some r):Okp 220 [Symbol.x m a0,dS a1] [] (.tu [At_.x .fz r.1,dB r.2]) []:=by
 refine OE Tryz.func220 fun S hS=>?_
 unfold q7u at hr
 refine J g<|J (BX' 0)<|J (NV' 1)<|J (gn 11)<|J (lenA 1 0)<|fun hl1=>bdE hr fun q1 hqq1 hr=>q0b hqq1 hl1 2 (fun k1 _=>[(1,dS a1),(4,.pb 1 0),(9,rw6 m a0.as_),(10,dI (a0.as_.length:Int)),(11,dI (k1:Int))]) (fun k1 _=>[]) I (fun k1 xk1 sk1 ok1 hxk1 hr hltk1 hik1=>?_) fun k1 sk1 ek1 hltk1=>?_
 refine J g<|J (NV' 2)<|fE 9 hr ?_ ?_<;>intro h1 hr
 exact e
 exact e
 subst ek1
 exact e
theorem z4P {m:Md}{a0:Gm_}{a1:Rule}{a2:Oc}{r:(At_×Bool)}(hr:q8O a0 a1 a2=some r):Okp 218 [Gm_.y m a0,Rule.x m a1,Oc.x .fz a2] [] (.tu [At_.x .fz r.1,dB r.2]) []:=by
 refine OE Tryz.func218 fun S hS=>?_
 unfold q8O at hr
 refine J g<|J (BX' 0)<|J (BX' 1)<|J (BX' 2)<|J (NV' 3)<|bdE hr fun y1 hy1 hr=>J g<|J (CB' [] [] (q4J hy1))<|fE 2 hr ?_ ?_<;>intro h1 hr
 refine bdE hr fun y2 hy2 hr=>J g<|J (CB' [] [] (z0u (m:=m) hy2))<|bdP hr fun y3 y4 hq1 hr=>J (CB' [] [] (q9Y (m:=m) hq1))<|J g<|J (NV' 4)<|bdP hr fun y5 y6 hq2 hr=>J g<|J (CB' [] [] (z2N (m:=m) hq2))<|e
 exact e
theorem k1N {m:Md}{a0:Gm_}{a1:Rule}{a2:Oc}{r:Bool}(hr:z7F a0 a1 a2=some r):Okp 259 [Gm_.y m a0,Rule.x m a1,Oc.x .fz a2] [] (dB r) []:=by
 refine OE Tryz.func259 fun S hS=>?_
 unfold z7F at hr
 refine J g<|J (BX' 0)<|J (BX' 1)<|J (BX' 2)<|bdP hr fun y1 y2 hq1 hr=>J g<|J (CB' [] [] (z4P (m:=m) hq1))<|J g<|J (NV' 3)<|fE 10 hr ?_ ?_<;>intro h1 hr
 refine bdE hr fun s1 hqq2 hr=>J (gn 4)<|q0a 5 [(6,dB false),(24,dB s1)] ?_ ?_
 replace hr:=hqq2
 refine ifE hr ?_ ?_<;>intro h2 hr
 exact e
 exact e
 exact e
 refine bdE hr fun s2 hqq3 hr=>J (gn 5)<|q0a 5 [(6,dB false),(30,dB s2)] ?_ ?_
 replace hr:=hqq3
 refine ifE hr ?_ ?_<;>intro h3 hr
 exact e
 exact e
 exact e
theorem j3t {m2:Md}{a0:Oc}{a1:Gm_}{a2:Rule}{r:Bool}(hr:z3d a0 a1 a2=some r):Okp 258 [Oc.x .fz a0,.pb 0 0,.pb 1 0] [bx5 m2 m2 a1,bx1 m2 m2 m2 a2] (dB r) [bx5 m2 m2 a1,bx1 m2 m2 m2 a2]:=by
 refine OE Tryz.func258 fun S hS=>?_
 unfold z3d at hr
 refine J g<|J (BX' 2)<|bdE hr fun y1 hy1 hr=>J g<|J (CB' [] [] (k1N (m:=m2) hy1))<|e
theorem q9E {m2:Md}{a0:List Oc}{a1_0:Gm_}{a1_1:Rule}{r:Int}(hr:q4R a0 a1_0 a1_1=some r):Okp 142 [.ref 2 none,.fn 258 [.pb 0 0,.pb 1 0]] [bx5 m2 m2 a1_0,bx1 m2 m2 m2 a1_1,.row .fz 2 (a0.map Oc.D)] (dI r) [bx5 m2 m2 a1_0,bx1 m2 m2 m2 a1_1,.row .fz 2 (a0.map Oc.D)]:=by
 refine OE Tryz.func142 fun S hS=>?_
 unfold q4R at hr
 refine J (gn 12)<|J (lenR 2)<|fun hl1=>bdE hr fun q1 hqq1 hr=>q0b hqq1 hl1 3 (fun k1 _=>[(0,.ref 2 none),(1,.fn 258 [.pb 0 0,.pb 1 0]),(7,dI (a0.length:Int)),(8,dI (k1:Int))]) (fun k1 _=>[]) I (fun k1 xk1 sk1 ok1 hxk1 hr hltk1 hik1=>?_) fun k1 sk1 ek1 hltk1=>?_
 refine bdE hr fun y1 hy1 hr=>J g<|J (CB' [(0,0),(1,1)] [] (j3t (m2:=m2) hy1))<|fE 1 hr ?_ ?_<;>intro h1 hr
 exact e
 exact e
 subst ek1
 exact e
theorem q8T {m2:Md}{a0:List Oc}{a1_0:Gm_}{a1_1:Rule}{r:Bool}(hr:q4C a0 a1_0 a1_1=some r):Okp 92 [.ref 2 none,.fn 258 [.pb 0 0,.pb 1 0]] [bx5 m2 m2 a1_0,bx1 m2 m2 m2 a1_1,.row .fz 2 (a0.map Oc.D)] (dB r) [bx5 m2 m2 a1_0,bx1 m2 m2 m2 a1_1,.row .fz 2 (a0.map Oc.D)]:=by
 refine OE Tryz.func92 fun S hS=>?_
 unfold q4C at hr
 refine bdE hr fun y1 hy1 hr=>J g<|J (CB' [(0,0),(1,1),(2,2)] [] (q9E (m2:=m2) hy1))<|e
theorem j6i {m m2:Md}{a0:Expr}{a1:Gm_}{a2:Rule}{r:Bool}(hr:z3o a0 a1 a2=some r):Okp 257 [Expr.x m a0,.pb 0 0,.pb 1 0] [bx5 m2 m2 a1,bx1 m2 m2 m2 a2] (dB r) [bx5 m2 m2 a1,bx1 m2 m2 m2 a2]:=by
 refine OE Tryz.func257 fun S hS=>?_
 unfold z3o at hr
 refine J g<|J (BX' 2)<|bdE hr fun y1 hy1 hr=>J g<|J (CB' [(0,3)] [] (z2M (m:=m) hy1))<|bdE hr fun y2 hy2 hr=>J g<|J (CB' [(0,0),(1,1),(2,3)] [] (q8T (m2:=m2) hy2))<|e
theorem z1r {m2:Md}{a0:List Expr}{a1_0:Gm_}{a1_1:Rule}{r:Int}(hr:q5E a0 a1_0 a1_1=some r):Okp 189 [.ref 2 none,.fn 257 [.pb 0 0,.pb 1 0]] [bx5 m2 m2 a1_0,bx1 m2 m2 m2 a1_1,.row m2 7 (a0.map Expr.D)] (dI r) [bx5 m2 m2 a1_0,bx1 m2 m2 m2 a1_1,.row m2 7 (a0.map Expr.D)]:=by
 refine OE Tryz.func189 fun S hS=>?_
 unfold q5E at hr
 refine J (gn 12)<|J (lenR 2)<|fun hl1=>bdE hr fun q1 hqq1 hr=>q0b hqq1 hl1 3 (fun k1 _=>[(0,.ref 2 none),(1,.fn 257 [.pb 0 0,.pb 1 0]),(7,dI (a0.length:Int)),(8,dI (k1:Int))]) (fun k1 _=>[]) I (fun k1 xk1 sk1 ok1 hxk1 hr hltk1 hik1=>?_) fun k1 sk1 ek1 hltk1=>?_
 refine J g<|J (k9G hxk1 (Expr.D_cells xk1))<|bdE hr fun y1 hy1 hr=>J (CB' [(0,0),(1,1)] [] (j6i (m:=m2) (m2:=m2) hy1))<|fE 1 hr ?_ ?_<;>intro h1 hr
 exact e
 exact e
 subst ek1
 exact e
theorem z0F {m2:Md}{a0:List Expr}{a1_0:Gm_}{a1_1:Rule}{r:Bool}(hr:q5r a0 a1_0 a1_1=some r):Okp 160 [.ref 2 none,.fn 257 [.pb 0 0,.pb 1 0]] [bx5 m2 m2 a1_0,bx1 m2 m2 m2 a1_1,.row m2 7 (a0.map Expr.D)] (dB r) [bx5 m2 m2 a1_0,bx1 m2 m2 m2 a1_1,.row m2 7 (a0.map Expr.D)]:=by
 refine OE Tryz.func160 fun S hS=>?_
 unfold q5r at hr
 refine bdE hr fun y1 hy1 hr=>J g<|J (CB' [(0,0),(1,1),(2,2)] [] (z1r (m2:=m2) hy1))<|e
theorem j9s {m:Md}{a0:Gm_}{a1:Rule}{r:Bool}(hr:z5T a0 a1=some r):Okp 217 [Gm_.x m a0,Rule.x m a1] [] (dB r) []:=by
 refine OE Tryz.func217 fun S hS=>?_
 unfold z5T at hr
 refine J g<|J (BX' 0)<|J (BX' 1)<|bdE hr fun y1 hy1 hr=>J g<|J (CB' [(0,2)] [] (z7R (m:=m) hy1))<|bdE hr fun y2 hy2 hr=>J g<|J (CB' [(0,0),(1,1),(2,2)] [] (z0F (m2:=m) hy2))<|e
theorem j4B {m:Md}{a0:Gm_}{r:(Int×Int)}(hr:z1U a0=some r):Okp 185 [Gm_.x m a0] [] (.tu [dI r.1,dI r.2]) []:=by
 refine OE Tryz.func185 fun S hS=>?_
 unfold z1U at hr
 refine J g<|J (BX' 0)<|bdE hr fun y1 hy1 hr=>J g<|J (CB' [] [] (q4J hy1))<|fE 1 hr ?_ ?_<;>intro h1 hr
 refine bdE hr fun y2 hy2 hr=>J g<|J (CB' [] [] (q4J hy2))<|fE 3 hr ?_ ?_<;>intro h2 hr
 refine bdE hr fun y3 hy3 hr=>J g<|J (CB' [] [] (j4A (m:=m) hy3))<|fE 7 hr ?_ ?_<;>intro h3 hr
 exact e
 refine bdE hr fun x1 hx1 hr=>bdE hr fun y4 hy4 hr=>J g<|J (CB' [] [] (q8S (m:=m) hy4))<|fE 1 hr ?_ ?_<;>intro h4 hr
 exact e
 refine bdE hr fun q1 hqq1 hr=>J (gn 7)<|AW.cut 1 (fun _=>[]) (fun _=>[]) (M:=fun x=>q1=.inl x) ?_ fun x hx=>?_
 refine J g<|q0i hqq1 1 (fun s1=>[(1,.pb 0 0),(5,dI s1)]) (fun s1=>[]) I fun sk1 ok1 hr hik1=>?_
 obtain⟨s1,rfl⟩:∃ y,y=sk1:=⟨_,rfl⟩
 have hr:=hr
 refine fE 6 hr ?_ ?_<;>intro h5 hr
 refine J (gn 12)<|J (lenT 37)<|fun hl2=>bdE hr fun q2 hqq2 hr=>q0b hqq2 hl2 1 (fun k2 _=>[(1,.pb 0 0),(5,dI s1),(37,rw5 m a0.rs_),(38,dI (a0.rs_.length:Int)),(39,dI (k2:Int))]) (fun k2 _=>[]) I (fun k2 xk2 sk2 ok2 hxk2 hr hltk2 hik2=>?_) fun k2 sk2 ek2 hltk2=>?_
 refine J g<|J (NV' 1)<|fE 18 hr ?_ ?_<;>intro h6 hr
 refine bdE hr fun y5 hy5 hr=>J g<|J (CB' [] [] (j9p (m:=m) hy5))<|fE 6 hr ?_ ?_<;>intro h7 hr
 exact e
 exact e
 refine fE 6 hr ?_ ?_<;>intro h8 hr
 refine bdE hr fun y6 hy6 hr=>J g<|J (CB' [] [] (j9q (m:=m) hy6))<|fE 6 hr ?_ ?_<;>intro h9 hr
 exact e
 exact e
 refine fE 6 hr ?_ ?_<;>intro h10 hr
 refine bdE hr fun y7 hy7 hr=>J g<|J (CB' [] [] (k3j (m:=m) hy7))<|fE 6 hr ?_ ?_<;>intro h11 hr
 exact e
 exact e
 refine bdE hr fun y8 hy8 hr=>J g<|J (CB' [] [] (j9s (m:=m) hy8))<|fE 6 hr ?_ ?_<;>intro h12 hr
 exact e
 exact e
 subst ek2
 refine ggE hr fun g1 hr=>e
 refine J (gn 2) ?_
 cases hr
 cases hik1 _ rfl
 exact⟨_,rfl,q0g hS 1⟩
 subst hx
 exact e
 exact e
 exact e
theorem j1S {a0:Int}{r:(Int×Int×Int)}(hr:z0o a0=some r):Okp 260 [dI a0] [] (.tu [dI r.1,dI r.2.1,dI r.2.2]) []:=by
 refine OE Tryz.func260 fun S hS=>?_
 unfold z0o at hr
 refine bdE hr fun s1 hqq1 hr=>J (gn 18)<|q0d 0 [(5,dI a0),(6,dB s1)] [] ?_ ?_
 replace hr:=hqq1
 refine ifE hr ?_ ?_<;>intro h1 hr
 exact e
 refine fE 6 hr ?_ ?_<;>intro h2 hr
 exact e
 refine fE 6 hr ?_ ?_<;>intro h3 hr
 exact e
 refine fE 6 hr ?_ ?_<;>intro h4 hr
 exact e
 exact e
 refine ifE hr ?_ ?_<;>intro h5 hr
 exact e
 refine bdE hr fun s2 hqq2 hr=>J (gn 7)<|q0d 0 [(5,dI a0),(12,dB s2)] [] ?_ ?_
 replace hr:=hqq2
 refine ifE hr ?_ ?_<;>intro h6 hr
 exact e
 refine fE 6 hr ?_ ?_<;>intro h7 hr
 exact e
 exact e
 refine ifE hr ?_ ?_<;>intro h8 hr
 exact e
 refine fE 7 hr ?_ ?_<;>intro h9 hr
 refine fE 2 hr ?_ ?_<;>intro h10 hr
 exact e
 refine fE 6 hr ?_ ?_<;>intro h11 hr
 exact e
 refine fE 6 hr ?_ ?_<;>intro h12 hr
 exact e
 exact e
 refine fE 5 hr ?_ ?_<;>intro h13 hr
 exact e
 refine fE 6 hr ?_ ?_<;>intro h14 hr
 exact e
 refine fE 6 hr ?_ ?_<;>intro h15 hr
 exact e
 exact e
theorem j3u {Rc11:Gm_→Rule→Expr→Option Int}(Ic11:∀ {m:Md} {a0:Gm_} {a1:Rule} {a2:Expr} {r:Int},Rc11 a0 a1 a2=some r→Okp 219 [Gm_.y m a0,Rule.x m a1,Expr.x m a2] [] (dI r) []){m:Md}{a0:Gm_}{a1:Rule}{a2:Expr}{r:Int}(hr:z1V Rc11 a0 a1 a2=some r):Okp 219 [Gm_.y m a0,Rule.x m a1,Expr.x m a2] [] (dI r) []:=by
 refine OE Tryz.func219 fun S hS=>?_
 unfold z1V at hr
 refine J g<|J (BX' 0)<|J (BX' 1)<|J (BX' 2)<|J g<|J (L0' 3 (A.D.i .i64))<|J (gn 11)<|J (lenA 6 2)<|fun hl1=>bdE hr fun s1 hqq1 hr=>q0e hqq1 hl1 4 (fun k1 s1=>[(3,.pb 0 0),(4,.pb 1 0),(5,.pb 2 0),(7,.ref 3 none),(21,rw7 m a2.Args),(22,dI (a2.Args.length:Int)),(23,dI (k1:Int))]) (fun k1 s1=>[(3,.row .fz 1 (s1.map (A.D.i .i64)))]) I (fun k1 xk1 sk1 ok1 hxk1 hr hltk1=>?_) fun k1 hltk1=>?_
 obtain⟨s1,rfl⟩:∃ y,y=sk1:=⟨_,rfl⟩
 refine J g<|J (NV' 4)<|bdE hr fun y1 hy1 hr=>J g<|J (CB' [] [] (Ic11 (m:=m) hy1))<|J (LIR' 5 (m:=.fz) (f:=(A.D.i .i64)) (xs:=([y1]:List Int)))<|ggE hr fun g1 hr=>J (z1D (f:=(A.D.i .i64)) 6 (fun _=>rfl) 8 g1)<|e
 refine fE 16 hr ?_ ?_<;>intro h1 hr
 exact e
 refine bdE hr fun s2 hqq2 hr=>J (gn 6)<|q0a 4 [(3,.pb 0 0),(4,.pb 1 0),(5,.pb 2 0),(7,.ref 3 none),(48,dB s2)] ?_ ?_
 replace hr:=hqq2
 refine ifE hr ?_ ?_<;>intro h2 hr
 exact e
 exact e
 refine fE 2 hr ?_ ?_<;>intro h3 hr
 exact e
 refine fE 8 hr ?_ ?_<;>intro h4 hr
 refine bdP hr fun y2 y3 hq3 hr=>J g<|J (CB' [] [] (z4P (m:=m) hq3))<|J g<|J (NV' 4)<|e
 refine bdE hr fun s3 hqq4 hr=>J (gn 6)<|q0a 5 [(3,.pb 0 0),(4,.pb 1 0),(5,.pb 2 0),(7,.ref 3 none),(74,dB s3)] ?_ ?_
 replace hr:=hqq4
 refine ifE hr ?_ ?_<;>intro h5 hr
 exact e
 exact e
 refine fE 2 hr ?_ ?_<;>intro h6 hr
 refine bdT hr fun y4 y5 y6 hq5 hr=>J g<|J (CB' [] [] (j1S hq5))<|bdE hr fun x1 hx1 hr=>bdE hr fun s4 hqq6 hr=>J (gn 15)<|q0a 7 [(14,dI y6),(93,dB s4)] ?_ ?_
 replace hr:=hqq6
 refine ifE hr ?_ ?_<;>intro h7 hr
 refine bdE hr fun x2 hx2 hr=>e
 exact e
 refine fE 1 hr ?_ ?_<;>intro h8 hr
 exact e
 exact e
 refine bdE hr fun s5 hqq7 hr=>J (gn 6)<|q0a 5 [(3,.pb 0 0),(4,.pb 1 0),(5,.pb 2 0),(7,.ref 3 none),(103,dB s5)] ?_ ?_
 replace hr:=hqq7
 refine ifE hr ?_ ?_<;>intro h9 hr
 exact e
 exact e
 refine fE 2 hr ?_ ?_<;>intro h10 hr
 refine bdE hr fun x3 hx3 hr=>fE 7 hr ?_ ?_<;>intro h11 hr
 refine bdE hr fun x4 hx4 hr=>bdE hr fun x5 hx5 hr=>fE 10 hr ?_ ?_<;>intro h12 hr
 exact e
 exact e
 exact e
 refine bdE hr fun s6 hqq8 hr=>J (gn 7)<|q0a 8 [(3,.pb 0 0),(5,.pb 2 0),(7,.ref 3 none),(131,dB s6)] ?_ ?_
 replace hr:=hqq8
 refine ifE hr ?_ ?_<;>intro h13 hr
 refine bdE hr fun y7 hy7 hr=>J g<|J (CB' [] [] (q4J hy7))<|e
 exact e
 refine bdE hr fun s7 hqq9 hr=>J (gn 2)<|q0d 4 [(3,.pb 0 0),(5,.pb 2 0),(7,.ref 3 none),(120,dB s7)] [] ?_ ?_
 replace hr:=hqq9
 refine ifE hr ?_ ?_<;>intro h14 hr
 exact e
 exact e
 refine ifE hr ?_ ?_<;>intro h15 hr
 exact e
 refine bdE hr fun s8 hqq10 hr=>J (gn 6)<|q0a 5 [(3,.pb 0 0),(5,.pb 2 0),(7,.ref 3 none),(143,dB s8)] ?_ ?_
 replace hr:=hqq10
 refine ifE hr ?_ ?_<;>intro h16 hr
 exact e
 exact e
 refine bdE hr fun s9 hqq11 hr=>q0a 6 [(3,.pb 0 0),(5,.pb 2 0),(149,dB s9)] ?_ ?_
 replace hr:=hqq11
 refine ifE hr ?_ ?_<;>intro h17 hr
 refine bdE hr fun x6 hx6 hr=>e
 exact e
 refine fE 2 hr ?_ ?_<;>intro h18 hr
 refine bdP hr fun y8 y9 hq12 hr=>J g<|J (CB' [] [] (q9Y (m:=m) hq12))<|J g<|J (NV' 4)<|bdP hr fun y10 y11 hq13 hr=>J g<|J (CB' [] [] (z2N (m:=m) hq13))<|J g<|J (NV' 5)<|e
 exact e
theorem j3v (n:Nat):∀ {m:Md} {a0:Gm_} {a1:Rule} {a2:Expr} {r:Int},q9w n a0 a1 a2=some r→Okp 219 [Gm_.y m a0,Rule.x m a1,Expr.x m a2] [] (dI r) []:=by
  induction n with
  | zero=>intro _ _ _ _ r hr;exact nomatch (show (none:Option Int)=some r from hr)
  | succ n ih=>intro _ _ _ _ r hr;exact j3u ih hr
theorem z5B {m:Md}{a0:Gm_}{a1:Rule}{a2:Expr}{r:Int}(hr:z1W a0 a1 a2=some r):Okp 219 [Gm_.y m a0,Rule.x m a1,Expr.x m a2] [] (dI r) []:=by
 obtain⟨n,hn⟩:=q6R hr
 exact j3v n hn
theorem j7S {m:Md}{a0:Gm_}{a1:Rule}{r:Bool}(hr:z4z a0 a1=some r):Okp 186 [Gm_.y m a0,Rule.x m a1] [] (dB r) []:=by
 refine OE Tryz.func186 fun S hS=>?_
 unfold z4z at hr
 refine J g<|J (BX' 0)<|J (BX' 1)<|J (gn 11)<|J (lenA 4 1)<|fun hl1=>bdE hr fun q1 hqq1 hr=>q0b hqq1 hl1 2 (fun k1 _=>[(2,.pb 0 0),(3,.pb 1 0),(16,rw8 m a1.es_),(17,dI (a1.es_.length:Int)),(18,dI (k1:Int))]) (fun k1 _=>[]) I (fun k1 xk1 sk1 ok1 hxk1 hr hltk1 hik1=>?_) fun k1 sk1 ek1 hltk1=>?_
 refine J g<|J (NV' 2)<|bdP hr fun y1 y2 hq2 hr=>J g<|J (CB' [] [] (z4P (m:=m) hq2))<|J g<|J (NV' 3)<|bdE hr fun y3 hy3 hr=>J g<|J (CB' [] [] (z5B (m:=m) hy3))<|fE 4 hr ?_ ?_<;>intro h1 hr
 exact e
 exact e
 subst ek1
 refine J (gn 16)<|J (lenT 40)<|fun hl2=>bdE hr fun q3 hqq3 hr=>q0b hqq3 hl2 2 (fun k2 _=>[(2,.pb 0 0),(3,.pb 1 0),(40,rw9 m a1.cs_),(41,dI (a1.cs_.length:Int)),(42,dI (k2:Int))]) (fun k2 _=>[]) I (fun k2 xk2 sk2 ok2 hxk2 hr hltk2 hik2=>?_) fun k2 sk2 ek2 hltk2=>?_
 refine J g<|J (NV' 2)<|bdP hr fun y4 y5 hq4 hr=>J g<|J (CB' [] [] (q9Y (m:=m) hq4))<|J g<|J (NV' 3)<|bdP hr fun y6 y7 hq5 hr=>J g<|J (CB' [] [] (z2N (m:=m) hq5))<|J g<|J (NV' 4)<|bdE hr fun y8 hy8 hr=>J g<|J (CB' [] [] (z5B (m:=m) hy8))<|bdE hr fun s1 hqq6 hr=>J (gn 1)<|q0a 8 [(2,.pb 0 0),(3,.pb 1 0),(13,.pb 4 0),(40,rw9 m a1.cs_),(41,dI (a1.cs_.length:Int)),(42,dI (k2:Int)),(73,dB s1)] ?_ ?_
 replace hr:=hqq6
 refine ifE hr ?_ ?_<;>intro h2 hr
 refine bdE hr fun y9 hy9 hr=>J g<|J (CB' [] [] (z5B (m:=m) hy9))<|e
 exact e
 refine bdE hr fun s2 hqq7 hr=>q0a 5 [(2,.pb 0 0),(3,.pb 1 0),(40,rw9 m a1.cs_),(41,dI (a1.cs_.length:Int)),(42,dI (k2:Int)),(78,dB s2)] ?_ ?_
 replace hr:=hqq7
 refine ifE hr ?_ ?_<;>intro h3 hr
 exact e
 exact e
 refine fE 1 hr ?_ ?_<;>intro h4 hr
 exact e
 exact e
 subst ek2
 exact e
theorem j6j {m2:Md}{a0:BA_}{a1:Gm_}{a2:List Int}{r:Int}(hr:z3p a0 a1 a2=some r):Okp 221 [dS a0,.pb 0 0,.pb 1 0] [bx5 m2 m2 a1,.box [.ref 2 none],.row .fz 1 (a2.map (A.D.i .i64))] (dI r) [bx5 m2 m2 a1,.box [.ref 2 none],.row .fz 1 (a2.map (A.D.i .i64))]:=by
 refine OE Tryz.func221 fun S hS=>?_
 unfold z3p at hr
 refine J (gn 13)<|J (lenT 8)<|fun hl1=>bdE hr fun q1 hqq1 hr=>q0b hqq1 hl1 3 (fun k1 _=>[(0,dS a0),(2,.pb 1 0),(8,rw3 m2 a1.ss_),(9,dI (a1.ss_.length:Int)),(10,dI (k1:Int))]) (fun k1 _=>[]) I (fun k1 xk1 sk1 ok1 hxk1 hr hltk1 hik1=>?_) fun k1 sk1 ek1 hltk1=>?_
 refine J g<|J (NV' 3)<|fE 10 hr ?_ ?_<;>intro h1 hr
 refine bdE hr fun x1 hx1 hr=>e
 exact e
 subst ek1
 exact e
theorem j9t {m:Md}{a0:Gm_}{r:List Int}(hr:z4g a0=some r):Okp 187 [Gm_.x m a0] [] (.ref 0 none) [.row .fz 1 (r.map (A.D.i .i64))]:=by
 refine OE Tryz.func187 fun S hS=>?_
 unfold z4g at hr
 refine J g<|J (BX' 0)<|ggE hr fun g1 hr=>J g<|J (MKR' 1 (f:=(A.D.i .i64)) (0:Int) g1.1 g1.2.1 g1.2.2)<|J (NV' 2)<|bdE hr fun s1 hqq1 hr=>J (gn 12)<|q0d 3 [(3,.pb 2 0)] [(1,.row .fz 1 (s1.map (A.D.i .i64)))] ?_ ?_
 refine J g<|q0i hqq1 3 (fun (s3,s2)=>[(1,.pb 0 0),(3,.pb 2 0),(4,.fn 221 [.pb 0 0,.pb 2 0]),(5,dI s3)]) (fun (s3,s2)=>[(1,.row .fz 1 (s2.map (A.D.i .i64)))]) I fun sk1 ok1 hr hik1=>?_
 obtain⟨s3,s2⟩:=sk1
 have hr:=hr
 refine fE 9 hr ?_ ?_<;>intro h1 hr
 refine ggE hr fun g2 hr=>J g<|J (MKR' 3 (f:=(A.D.i .i64)) (0:Int) g2.1 g2.2.1 g2.2.2)<|ggE hr fun g3 hr=>J g<|J (k9H g3)<|J (gn 10)<|J (lenT 21)<|fun hl2=>bdE hr fun s4 hqq2 hr=>q0e hqq2 hl2 4 (fun k2 s4=>[(1,.pb 0 0),(3,.pb 2 0),(4,.fn 221 [.pb 0 0,.pb 2 0]),(5,dI s3),(6,.ref 3 none),(33,rw3 m a0.ss_),(34,dI (a0.ss_.length:Int)),(35,dI (k2:Int))]) (fun k2 s4=>[(3,.row .fz 1 (s4.map (A.D.i .i64)))]) I (fun k2 xk2 sk2 ok2 hxk2 hr hltk2=>?_) fun k2 hltk2=>?_
 obtain⟨s4,rfl⟩:∃ y,y=sk2:=⟨_,rfl⟩
 refine bdE hr fun s5 hqq3 hr=>J (gn 8)<|q0d 4 [(1,.pb 0 0),(3,.pb 2 0),(4,.fn 221 [.pb 0 0,.pb 2 0]),(5,dI s3),(6,.ref 3 none),(33,rw3 m a0.ss_),(34,dI (a0.ss_.length:Int)),(35,dI (k2:Int))] [(3,.row .fz 1 (s5.map (A.D.i .i64)))] ?_ ?_
 replace hr:=hqq3
 refine J g<|J (NV' 4)<|bdE hr fun x1 hx1 hr=>fE 12 hr ?_ ?_<;>intro h2 hr
 exact e
 refine J (gn 10)<|J (lenT 46)<|fun hl3=>bdE hr fun s6 hqq4 hr=>q0e hqq4 hl3 5 (fun k3 s6=>[(1,.pb 0 0),(3,.pb 2 0),(4,.fn 221 [.pb 0 0,.pb 2 0]),(5,dI s3),(6,.ref 3 none),(7,dI (k2:Int)),(8,.pb 4 0),(33,rw3 m a0.ss_),(34,dI (a0.ss_.length:Int)),(35,dI (k2:Int)),(46,rw5 m a0.rs_),(47,dI (a0.rs_.length:Int)),(48,dI (k3:Int))]) (fun k3 s6=>[(3,.row .fz 1 (s6.map (A.D.i .i64)))]) I (fun k3 xk3 sk3 ok3 hxk3 hr hltk3=>?_) fun k3 hltk3=>?_
 obtain⟨s6,rfl⟩:∃ y,y=sk3:=⟨_,rfl⟩
 refine bdE hr fun s7 hqq5 hr=>J (gn 8)<|q0d 5 [(1,.pb 0 0),(3,.pb 2 0),(4,.fn 221 [.pb 0 0,.pb 2 0]),(5,dI s3),(6,.ref 3 none),(7,dI (k2:Int)),(8,.pb 4 0),(33,rw3 m a0.ss_),(34,dI (a0.ss_.length:Int)),(35,dI (k2:Int)),(46,rw5 m a0.rs_),(47,dI (a0.rs_.length:Int)),(48,dI (k3:Int))] [(3,.row .fz 1 (s7.map (A.D.i .i64)))] ?_ ?_
 replace hr:=hqq5
 refine J g<|J (NV' 5)<|J (gn 20)<|J (lenA 2 51)<|fun hl4=>bdE hr fun s8 hqq6 hr=>q0e hqq6 hl4 6 (fun k4 s8=>[(1,.pb 0 0),(3,.pb 2 0),(4,.fn 221 [.pb 0 0,.pb 2 0]),(5,dI s3),(6,.ref 3 none),(7,dI (k2:Int)),(8,.pb 4 0),(11,dB s8),(33,rw3 m a0.ss_),(34,dI (a0.ss_.length:Int)),(35,dI (k2:Int)),(46,rw5 m a0.rs_),(47,dI (a0.rs_.length:Int)),(48,dI (k3:Int)),(58,rw2 m xk3.rt_),(59,dI (xk3.rt_.length:Int)),(60,dI (k4:Int))]) (fun k4 s8=>[]) I (fun k4 xk4 sk4 ok4 hxk4 hr hltk4=>?_) fun k4 hltk4=>?_
 obtain⟨s8,rfl⟩:∃ y,y=sk4:=⟨_,rfl⟩
 refine bdE hr fun s9 hqq7 hr=>J (gn 8)<|q0d 6 [(1,.pb 0 0),(3,.pb 2 0),(4,.fn 221 [.pb 0 0,.pb 2 0]),(5,dI s3),(6,.ref 3 none),(7,dI (k2:Int)),(8,.pb 4 0),(11,dB s9),(33,rw3 m a0.ss_),(34,dI (a0.ss_.length:Int)),(35,dI (k2:Int)),(46,rw5 m a0.rs_),(47,dI (a0.rs_.length:Int)),(48,dI (k3:Int)),(58,rw2 m xk3.rt_),(59,dI (xk3.rt_.length:Int)),(60,dI (k4:Int))] [] ?_ ?_
 replace hr:=hqq7
 refine fE 9 hr ?_ ?_<;>intro h3 hr
 refine bdE hr fun y1 hy1 hr=>J g<|J (CB' [(0,0),(1,2),(2,1)] [] (j6j (m2:=m) hy1))<|e
 exact e
 exact e
 refine fE 11 hr ?_ ?_<;>intro h4 hr
 refine bdE hr fun x2 hx2 hr=>J g<|J (SE' s3 hx2)<|e
 exact e
 exact e
 exact e
 exact e
 refine ggE hr fun g4 hr=>e
 refine J (gn 2) ?_
 cases hr
 cases hik1 _ rfl
 exact q0g hS 3
 exact e
theorem j1T {m:Md}{a0:Gm_}{r:(Int×Int)}(hr:z0p a0=some r):Okp 157 [Gm_.x m a0] [] (.tu [dI r.1,dI r.2]) []:=by
 refine OE Tryz.func157 fun S hS=>?_
 unfold z0p at hr
 refine J g<|J (BX' 0)<|bdP hr fun y1 y2 hq1 hr=>J g<|J (CB' [] [] (j4B (m:=m) hq1))<|fE 11 hr ?_ ?_<;>intro h1 hr
 refine J (gn 11)<|J (lenA 1 0)<|fun hl1=>bdE hr fun q2 hqq2 hr=>q0b hqq2 hl1 1 (fun k1 _=>[(1,.pb 0 0),(20,rw5 m a0.rs_),(21,dI (a0.rs_.length:Int)),(22,dI (k1:Int))]) (fun k1 _=>[]) I (fun k1 xk1 sk1 ok1 hxk1 hr hltk1 hik1=>?_) fun k1 sk1 ek1 hltk1=>?_
 refine J g<|J (NV' 1)<|bdE hr fun y3 hy3 hr=>J g<|J (CB' [] [] (j7S (m:=m) hy3))<|fE 1 hr ?_ ?_<;>intro h2 hr
 exact e
 exact e
 subst ek1
 refine bdE hr fun y4 hy4 hr=>J g<|J (CB' [(0,1)] [] (j9t (m:=m) hy4))<|J (gn 4)<|J (lenR 1)<|fun hl2=>bdE hr fun q3 hqq3 hr=>q0b hqq3 hl2 2 (fun k2 _=>[(33,.ref 1 none),(34,dI (y4.length:Int)),(35,dI (k2:Int))]) (fun k2 _=>[]) I (fun k2 xk2 sk2 ok2 hxk2 hr hltk2 hik2=>?_) fun k2 sk2 ek2 hltk2=>?_
 refine fE 22 hr ?_ ?_<;>intro h3 hr
 exact e
 exact e
 subst ek2
 exact e
 exact e
theorem j7T {m:Md}{a0:Gm_}{r:Bool}(hr:z4A a0=some r):Okp 121 [Gm_.x m a0] [] (dB r) []:=by
 refine OE Tryz.func121 fun S hS=>?_
 unfold z4A at hr
 refine J g<|J (BX' 0)<|bdP hr fun y1 y2 hq1 hr=>J g<|J (CB' [] [] (j1T (m:=m) hq1))<|e
theorem j3w {m:Md}{a0:Expr}{r:Bool}(hr:z3g a0=some r):Okp 190 [Expr.x m a0] [] (dB r) []:=by
 refine OE Tryz.func190 fun S hS=>?_
 unfold z3g at hr
 refine J g<|J (BX' 0)<|e
theorem z3X {Rc12:Expr→Option Bool}(Ic12:∀ {m:Md} {a0:Expr} {r:Bool},Rc12 a0=some r→Okp 167 [Expr.x m a0,.fn 190 []] [] (dB r) []){m:Md}{a0:Expr}{r:Bool}(hr:q6F Rc12 a0=some r):Okp 192 [Expr.x m a0,.pb 0 0] [.box [.fn 190 []]] (dB r) [.box [.fn 190 []]]:=by
 refine OE Tryz.func192 fun S hS=>?_
 unfold q6F at hr
 refine J g<|J (BX' 1)<|bdE hr fun y1 hy1 hr=>J g<|J (CB' [] [] (Ic12 (m:=m) hy1))<|e
theorem q8s {Rc12:Expr→Option Bool}(Ic12:∀ {m:Md} {a0:Expr} {r:Bool},Rc12 a0=some r→Okp 167 [Expr.x m a0,.fn 190 []] [] (dB r) []){m:Md}{a0:List Expr}{r:Int}(hr:q4o Rc12 a0=some r):Okp 189 [rw7 m a0,.fn 192 [.pb 0 0]] [.box [.fn 190 []]] (dI r) [.box [.fn 190 []]]:=by
 refine OE Tryz.func189 fun S hS=>?_
 unfold q4o at hr
 refine J (gn 12)<|J (lenT 0)<|fun hl1=>bdE hr fun q1 hqq1 hr=>q0b hqq1 hl1 1 (fun k1 _=>[(0,rw7 m a0),(1,.fn 192 [.pb 0 0]),(7,dI (a0.length:Int)),(8,dI (k1:Int))]) (fun k1 _=>[]) I (fun k1 xk1 sk1 ok1 hxk1 hr hltk1 hik1=>?_) fun k1 sk1 ek1 hltk1=>?_
 refine bdE hr fun y1 hy1 hr=>J g<|J (CB' [(0,0)] [] (z3X Ic12 (m:=m) hy1))<|fE 1 hr ?_ ?_<;>intro h1 hr
 exact e
 exact e
 subst ek1
 exact e
theorem q7N {Rc12:Expr→Option Bool}(Ic12:∀ {m:Md} {a0:Expr} {r:Bool},Rc12 a0=some r→Okp 167 [Expr.x m a0,.fn 190 []] [] (dB r) []){m:Md}{a0:List Expr}{r:Bool}(hr:q4i Rc12 a0=some r):Okp 160 [rw7 m a0,.fn 192 [.pb 0 0]] [.box [.fn 190 []]] (dB r) [.box [.fn 190 []]]:=by
 refine OE Tryz.func160 fun S hS=>?_
 unfold q4i at hr
 refine bdE hr fun y1 hy1 hr=>J g<|J (CB' [(0,0)] [] (q8s Ic12 (m:=m) hy1))<|e
theorem z4Q {Rc12:Expr→Option Bool}(Ic12:∀ {m:Md} {a0:Expr} {r:Bool},Rc12 a0=some r→Okp 167 [Expr.x m a0,.fn 190 []] [] (dB r) []){m:Md}{a0:Expr}{r:Bool}(hr:q6j Rc12 a0=some r):Okp 167 [Expr.x m a0,.fn 190 []] [] (dB r) []:=by
 refine OE Tryz.func167 fun S hS=>?_
 unfold q6j at hr
 refine J g<|J (BX' 0)<|J (BX' 1)<|bdE hr fun y1 hy1 hr=>J g<|J (CB' [] [] (j3w (m:=m) hy1))<|ifE hr ?_ ?_<;>intro h1 hr
 refine bdE hr fun y2 hy2 hr=>J g<|J (CB' [(0,1)] [] (q7N Ic12 (m:=m) hy2))<|e
 exact e
theorem z4R (n:Nat):∀ {m:Md} {a0:Expr} {r:Bool},q6k n a0=some r→Okp 167 [Expr.x m a0,.fn 190 []] [] (dB r) []:=by
  induction n with
  | zero=>intro _ _ r hr;exact nomatch (show (none:Option Bool)=some r from hr)
  | succ n ih=>intro _ _ r hr;exact z4Q ih hr
theorem z5f {m:Md}{a0:Expr}{r:Bool}(hr:q8P a0=some r):Okp 167 [Expr.x m a0,.fn 190 []] [] (dB r) []:=by
 obtain⟨n,hn⟩:=q6R hr
 exact z4R n hn
theorem j6k {m:Md}{a0:Expr}{r:Bool}(hr:z3q a0=some r):Okp 162 [Expr.x m a0] [] (dB r) []:=by
 refine OE Tryz.func162 fun S hS=>?_
 unfold z3q at hr
 refine J g<|J (BX' 0)<|bdE hr fun y1 hy1 hr=>J g<|J (CB' [] [] (z5f (m:=m) hy1))<|e
theorem z1s {m:Md}{a0:List Expr}{r:Int}(hr:q5F a0=some r):Okp 189 [rw7 m a0,.fn 162 []] [] (dI r) []:=by
 refine OE Tryz.func189 fun S hS=>?_
 unfold q5F at hr
 refine J (gn 12)<|J (lenT 0)<|fun hl1=>bdE hr fun q1 hqq1 hr=>q0b hqq1 hl1 0 (fun k1 _=>[(0,rw7 m a0),(1,.fn 162 []),(7,dI (a0.length:Int)),(8,dI (k1:Int))]) (fun k1 _=>[]) I (fun k1 xk1 sk1 ok1 hxk1 hr hltk1 hik1=>?_) fun k1 sk1 ek1 hltk1=>?_
 refine bdE hr fun y1 hy1 hr=>J g<|J (CB' [] [] (j6k (m:=m) hy1))<|fE 1 hr ?_ ?_<;>intro h1 hr
 exact e
 exact e
 subst ek1
 exact e
theorem z0G {m:Md}{a0:List Expr}{r:Bool}(hr:q5s a0=some r):Okp 160 [rw7 m a0,.fn 162 []] [] (dB r) []:=by
 refine OE Tryz.func160 fun S hS=>?_
 unfold q5s at hr
 refine bdE hr fun y1 hy1 hr=>J g<|J (CB' [] [] (z1s (m:=m) hy1))<|e
theorem j3x {m:Md}{a0:Rule}{r:Bool}(hr:z3h a0=some r):Okp 159 [Rule.x m a0] [] (dB r) []:=by
 refine OE Tryz.func159 fun S hS=>?_
 unfold z3h at hr
 refine J g<|J (BX' 0)<|bdE hr fun y1 hy1 hr=>J g<|J (CB' [(0,1)] [] (z7R (m:=m) hy1))<|bdE hr fun y2 hy2 hr=>J (CB' [] [1] (z0G (m:=.bo) hy2))<|e
theorem z0P {m:Md}{a0:List Rule}{r:Int}(hr:q5x a0=some r):Okp 188 [rw5 m a0,.fn 159 []] [] (dI r) []:=by
 refine OE Tryz.func188 fun S hS=>?_
 unfold q5x at hr
 refine J (gn 12)<|J (lenT 0)<|fun hl1=>bdE hr fun q1 hqq1 hr=>q0b hqq1 hl1 0 (fun k1 _=>[(0,rw5 m a0),(1,.fn 159 []),(7,dI (a0.length:Int)),(8,dI (k1:Int))]) (fun k1 _=>[]) I (fun k1 xk1 sk1 ok1 hxk1 hr hltk1 hik1=>?_) fun k1 sk1 ek1 hltk1=>?_
 refine bdE hr fun y1 hy1 hr=>J g<|J (CB' [] [] (j3x (m:=m) hy1))<|fE 1 hr ?_ ?_<;>intro h1 hr
 exact e
 exact e
 subst ek1
 exact e
theorem z0j {m:Md}{a0:List Rule}{r:Bool}(hr:q5j a0=some r):Okp 158 [rw5 m a0,.fn 159 []] [] (dB r) []:=by
 refine OE Tryz.func158 fun S hS=>?_
 unfold q5j at hr
 refine bdE hr fun y1 hy1 hr=>J g<|J (CB' [] [] (z0P (m:=m) hy1))<|e
theorem j6l {m:Md}{a0:Gm_}{r:Bool}(hr:z3r a0=some r):Okp 122 [.ag [.u,rw5 m a0.rs_]] [] (dB r) []:=by
 refine OE Tryz.func122 fun S hS=>?_
 unfold z3r at hr
 refine J g<|J (BX' 0)<|bdE hr fun y1 hy1 hr=>J g<|J (CB' [] [] (z0j (m:=m) hy1))<|e
theorem j3y {a0:At_}{r:Bool}(hr:z3i a0=some r):Okp 124 [At_.x .fz a0] [] (dB r) []:=by
 refine OE Tryz.func124 fun S hS=>?_
 unfold z3i at hr
 refine J g<|J (BX' 0)<|e
theorem q9S {m:Md}{a0:List At_}{r:Int}(hr:q4T a0=some r):Okp 191 [rw6 m a0,.fn 124 []] [] (dI r) []:=by
 refine OE Tryz.func191 fun S hS=>?_
 unfold q4T at hr
 refine J (gn 12)<|J (lenT 0)<|fun hl1=>bdE hr fun q1 hqq1 hr=>q0b hqq1 hl1 0 (fun k1 _=>[(0,rw6 m a0),(1,.fn 124 []),(7,dI (a0.length:Int)),(8,dI (k1:Int))]) (fun k1 _=>[]) I (fun k1 xk1 sk1 ok1 hxk1 hr hltk1 hik1=>?_) fun k1 sk1 ek1 hltk1=>?_
 refine bdE hr fun y1 hy1 hr=>J g<|J (CB' [] [] (j3y hy1))<|fE 1 hr ?_ ?_<;>intro h1 hr
 exact e
 exact e
 subst ek1
 exact e
theorem q9k {m:Md}{a0:List At_}{r:Bool}(hr:q4F a0=some r):Okp 165 [rw6 m a0,.fn 124 []] [] (dB r) []:=by
 refine OE Tryz.func165 fun S hS=>?_
 unfold q4F at hr
 refine bdE hr fun y1 hy1 hr=>J g<|J (CB' [] [] (q9S (m:=m) hy1))<|e
theorem z2O {m:Md}{a0:Symbol}{r:Bool}(hr:q6f a0=some r):Okp 164 [Symbol.x m a0,.pb 0 0] [.box [.fn 124 []]] (dB r) [.box [.fn 124 []]]:=by
 refine OE Tryz.func164 fun S hS=>?_
 unfold q6f at hr
 refine J g<|J (BX' 1)<|bdE hr fun y1 hy1 hr=>J g<|J (CB' [] [] (q9k (m:=m) hy1))<|e
theorem q7B {m:Md}{a0:List Symbol}{r:Int}(hr:q4f a0=some r):Okp 132 [rw3 m a0,.fn 164 [.pb 0 0]] [.box [.fn 124 []]] (dI r) [.box [.fn 124 []]]:=by
 refine OE Tryz.func132 fun S hS=>?_
 unfold q4f at hr
 refine J (gn 12)<|J (lenT 0)<|fun hl1=>bdE hr fun q1 hqq1 hr=>q0b hqq1 hl1 1 (fun k1 _=>[(0,rw3 m a0),(1,.fn 164 [.pb 0 0]),(7,dI (a0.length:Int)),(8,dI (k1:Int))]) (fun k1 _=>[]) I (fun k1 xk1 sk1 ok1 hxk1 hr hltk1 hik1=>?_) fun k1 sk1 ek1 hltk1=>?_
 refine bdE hr fun y1 hy1 hr=>J g<|J (CB' [(0,0)] [] (z2O (m:=m) hy1))<|fE 1 hr ?_ ?_<;>intro h1 hr
 exact e
 exact e
 subst ek1
 exact e
theorem q7g {m:Md}{a0:List Symbol}{r:Bool}(hr:q3Z a0=some r):Okp 163 [rw3 m a0,.fn 164 [.pb 0 0]] [.box [.fn 124 []]] (dB r) [.box [.fn 124 []]]:=by
 refine OE Tryz.func163 fun S hS=>?_
 unfold q3Z at hr
 refine bdE hr fun y1 hy1 hr=>J g<|J (CB' [(0,0)] [] (q7B (m:=m) hy1))<|e
theorem z3M {m:Md}{a0:Gm_}{r:Bool}(hr:q5M a0=some r):Okp 123 [Gm_.y m a0,.fn 124 []] [] (dB r) []:=by
 refine OE Tryz.func123 fun S hS=>?_
 unfold q5M at hr
 refine J g<|J (BX' 0)<|J (BX' 1)<|bdE hr fun y1 hy1 hr=>J g<|J (CB' [(0,1)] [] (q7g (m:=m) hy1))<|e
theorem j4C {a0:At_}{r:Bool}(hr:z3V a0=some r):Okp 125 [At_.x .fz a0] [] (dB r) []:=by
 refine OE Tryz.func125 fun S hS=>?_
 unfold z3V at hr
 refine J g<|J (BX' 0)<|e
theorem z0c {m:Md}{a0:List At_}{r:Int}(hr:q5c a0=some r):Okp 191 [rw6 m a0,.fn 125 []] [] (dI r) []:=by
 refine OE Tryz.func191 fun S hS=>?_
 unfold q5c at hr
 refine J (gn 12)<|J (lenT 0)<|fun hl1=>bdE hr fun q1 hqq1 hr=>q0b hqq1 hl1 0 (fun k1 _=>[(0,rw6 m a0),(1,.fn 125 []),(7,dI (a0.length:Int)),(8,dI (k1:Int))]) (fun k1 _=>[]) I (fun k1 xk1 sk1 ok1 hxk1 hr hltk1 hik1=>?_) fun k1 sk1 ek1 hltk1=>?_
 refine bdE hr fun y1 hy1 hr=>J g<|J (CB' [] [] (j4C hy1))<|fE 1 hr ?_ ?_<;>intro h1 hr
 exact e
 exact e
 subst ek1
 exact e
theorem q9q {m:Md}{a0:List At_}{r:Bool}(hr:q4N a0=some r):Okp 165 [rw6 m a0,.fn 125 []] [] (dB r) []:=by
 refine OE Tryz.func165 fun S hS=>?_
 unfold q4N at hr
 refine bdE hr fun y1 hy1 hr=>J g<|J (CB' [] [] (z0c (m:=m) hy1))<|e
theorem z3E {m:Md}{a0:Symbol}{r:Bool}(hr:q6o a0=some r):Okp 164 [Symbol.x m a0,.pb 0 0] [.box [.fn 125 []]] (dB r) [.box [.fn 125 []]]:=by
 refine OE Tryz.func164 fun S hS=>?_
 unfold q6o at hr
 refine J g<|J (BX' 1)<|bdE hr fun y1 hy1 hr=>J g<|J (CB' [] [] (q9q (m:=m) hy1))<|e
theorem q7K {m:Md}{a0:List Symbol}{r:Int}(hr:q4h a0=some r):Okp 132 [rw3 m a0,.fn 164 [.pb 0 0]] [.box [.fn 125 []]] (dI r) [.box [.fn 125 []]]:=by
 refine OE Tryz.func132 fun S hS=>?_
 unfold q4h at hr
 refine J (gn 12)<|J (lenT 0)<|fun hl1=>bdE hr fun q1 hqq1 hr=>q0b hqq1 hl1 1 (fun k1 _=>[(0,rw3 m a0),(1,.fn 164 [.pb 0 0]),(7,dI (a0.length:Int)),(8,dI (k1:Int))]) (fun k1 _=>[]) I (fun k1 xk1 sk1 ok1 hxk1 hr hltk1 hik1=>?_) fun k1 sk1 ek1 hltk1=>?_
 refine bdE hr fun y1 hy1 hr=>J g<|J (CB' [(0,0)] [] (z3E (m:=m) hy1))<|fE 1 hr ?_ ?_<;>intro h1 hr
 exact e
 exact e
 subst ek1
 exact e
theorem q7j {m:Md}{a0:List Symbol}{r:Bool}(hr:q4c a0=some r):Okp 163 [rw3 m a0,.fn 164 [.pb 0 0]] [.box [.fn 125 []]] (dB r) [.box [.fn 125 []]]:=by
 refine OE Tryz.func163 fun S hS=>?_
 unfold q4c at hr
 refine bdE hr fun y1 hy1 hr=>J g<|J (CB' [(0,0)] [] (q7K (m:=m) hy1))<|e
theorem z3Y {m:Md}{a0:Gm_}{r:Bool}(hr:q5U a0=some r):Okp 123 [Gm_.y m a0,.fn 125 []] [] (dB r) []:=by
 refine OE Tryz.func123 fun S hS=>?_
 unfold q5U at hr
 refine J g<|J (BX' 0)<|J (BX' 1)<|bdE hr fun y1 hy1 hr=>J g<|J (CB' [(0,1)] [] (q7j (m:=m) hy1))<|e
theorem j7U {m:Md}{a0:Gm_}{r:Bool}(hr:z4B a0=some r):Okp 66 [Gm_.x m a0] [] (dB r) []:=by
 refine OE Tryz.func66 fun S hS=>?_
 unfold z4B at hr
 refine J g<|J (BX' 0)<|bdE hr fun y1 hy1 hr=>J g<|J (CB' [] [] (j7T (m:=m) hy1))<|bdE hr fun s1 hqq1 hr=>q0a 5 [(1,.pb 0 0),(2,dB false),(9,dB s1)] ?_ ?_
 replace hr:=hqq1
 refine ifE hr ?_ ?_<;>intro h1 hr
 refine bdE hr fun y2 hy2 hr=>J g<|J (CB' [] [] (j6l (m:=m) hy2))<|e
 exact e
 refine bdE hr fun s2 hqq2 hr=>q0a 5 [(1,.pb 0 0),(2,dB false),(14,dB s2)] ?_ ?_
 replace hr:=hqq2
 refine ifE hr ?_ ?_<;>intro h2 hr
 refine bdE hr fun y3 hy3 hr=>J g<|J (CB' [] [] (z3M (m:=m) hy3))<|e
 exact e
 refine bdE hr fun s3 hqq3 hr=>q0a 5 [(2,dB false),(19,dB s3)] ?_ ?_
 replace hr:=hqq3
 refine ifE hr ?_ ?_<;>intro h3 hr
 refine bdE hr fun y4 hy4 hr=>J g<|J (CB' [] [] (z3Y (m:=m) hy4))<|e
 exact e
 exact e
theorem z1t {m:Md}{a0:Gm_}{a1:BA_}{r:List At_}(hr:q5N a0 a1=some r):Okp 31 [Gm_.y m a0,dS a1] [] (.ref 0 none) [.row .fz 4 (r.map At_.D)]:=by
 refine OE Tryz.func31 fun S hS=>?_
 unfold q5N at hr
 refine J g<|J (BX' 0)<|J g<|J (L0' 1 At_.D)<|bdP hr fun y1 y2 hq1 hr=>J g<|J (CB' [] [] (q9Y (m:=m) hq1))<|J g<|J (NV' 2)<|J (gn 12) ?_
 refine AW.len (.ag 1 (.tu 0 (.tmp 11 rfl) rfl) rfl) fun hl1=>?_
 refine bdE hr fun s1 hqq2 hr=>q0e hqq2 hl1 3 (fun k1 s1=>[(5,.ref 1 none),(18,rw6 m y1.as_),(19,dI (y1.as_.length:Int)),(20,dI (k1:Int))]) (fun k1 s1=>[(1,.row .fz 4 (s1.map At_.D))]) I (fun k1 xk1 sk1 ok1 hxk1 hr hltk1=>?_) fun k1 hltk1=>?_
 obtain⟨s1,rfl⟩:∃ y,y=sk1:=⟨_,rfl⟩
 refine bdE hr fun s2 hqq3 hr=>J (gn 8)<|q0d 3 [(5,.ref 1 none),(18,rw6 m y1.as_),(19,dI (y1.as_.length:Int)),(20,dI (k1:Int))] [(1,.row .fz 4 (s2.map At_.D))] ?_ ?_
 replace hr:=hqq3
 refine J g<|J (NV' 3)<|fE 7 hr ?_ ?_<;>intro h1 hr
 refine J g<|J (LIR' 4 (m:=.fz) (f:=At_.D) (xs:=[xk1]))<|ggE hr fun g1 hr=>J (z1D (f:=At_.D) 5 (fun _=>rfl) 40 g1)<|e
 refine fE 6 hr ?_ ?_<;>intro h2 hr
 refine J g<|J (LIR' 4 (m:=.fz) (f:=At_.D) (xs:=[xk1]))<|ggE hr fun g2 hr=>J (z1D (f:=At_.D) 5 (fun _=>rfl) 40 g2)<|e
 exact e
 exact e
 exact e
theorem z2P {a0:Int}{r:Rl_}(hr:q7v a0=some r):Okp 126 [dI a0] [] (.ag [dI r.N,.ref 0 none]) [.row .fz 1 (r.Rows.map (A.D.i .i64))]:=by
 refine OE Tryz.func126 fun S hS=>?_
 unfold q7v at hr
 refine J g<|J (NV' 0)<|bdE hr fun y1 hy1 hr=>J g<|J (CB' [] [] (q4J hy1))<|fE 2 hr ?_ ?_<;>intro h1 hr
 refine ggE hr fun g1 hr=>J g<|J (MKR' 1 (f:=(A.D.i .i64)) (0:Int) g1.1 g1.2.1 g1.2.2)<|e
 refine J (gn 7) ?_
 refine J (q0c (q0n (q:=0) (c:=1) (r:=1) .fz 1 rfl rfl rfl))<|J g<|E
theorem j0e {m:Md}{a0:Gm_}{r:List Rl_}(hr:q9a a0=some r):Okp 67 [Gm_.y m a0] [] (.ref 0 none) [.row .fz 2 (r.map Rl_.D)]:=by
 refine OE Tryz.func67 fun S hS=>?_
 unfold q9a at hr
 refine J g<|J (BX' 0)<|J g<|J (L0' 1 Rl_.D)<|J (gn 11)<|J (lenA 0 0)<|fun hl1=>bdE hr fun s1 hqq1 hr=>q0e hqq1 hl1 2 (fun k1 s1=>[(1,.pb 0 0),(3,.ref 1 none),(8,rw3 m a0.ss_),(9,dI (a0.ss_.length:Int)),(10,dI (k1:Int))]) (fun k1 s1=>[(1,.row .fz 2 (s1.map Rl_.D))]) I (fun k1 xk1 sk1 ok1 hxk1 hr hltk1=>?_) fun k1 hltk1=>?_
 obtain⟨s1,rfl⟩:∃ y,y=sk1:=⟨_,rfl⟩
 refine J g<|J (NV' 2)<|bdE hr fun y1 hy1 hr=>J g<|J (CB' [(0,3)] [] (z1t (m:=m) hy1))<|bdE hr fun y2 hy2 hr=>J g<|J (CB' [(0,4)] [] (z2P hy2)) ?_
 refine J (q0p 4 rfl)<|J (LIR' 5 (m:=.fz) (f:=Rl_.D) (xs:=[y2]))<|ggE hr fun g1 hr=>J (AP1' 6 .fz 32 g1)<|J g<|E
 exact e
theorem z6j {m:Md}{a0:Gm_}{a1:Rule}{r:List Oc}(hr:q6N a0 a1=some r):Okp 127 [Gm_.y m a0,Rule.x m a1] [] (.ref 0 none) [.row .fz 2 (r.map Oc.D)]:=by
 refine OE Tryz.func127 fun S hS=>?_
 unfold q6N at hr
 refine J g<|J (BX' 0)<|J (BX' 1)<|J g<|J (L0' 2 Oc.D)<|ggE hr fun g1 hr=>J (gn 12)<|J (rngT 13)<|fun hl1=>bdE hr fun s1 hqq1 hr=>q0l hqq1 3 (fun k1 s1=>[(2,.pb 0 0),(3,.pb 1 0),(5,.ref 2 none),(13,dI ((a1.rt_.length+1:Nat):Int)),(14,dI (k1:Int))]) (fun k1 s1=>[(2,.row .fz 2 (s1.map Oc.D))]) I (fun k1 sk1 ok1 hr hltk1=>?_) ?_
 obtain⟨s1,rfl⟩:∃ y,y=sk1:=⟨_,rfl⟩
 refine bdE hr fun y1 hy1 hr=>J g<|J (CB' [] [] (z0u (m:=m) hy1))<|bdE hr fun y2 hy2 hr=>J (CB' [(0,3)] [] (z1t (m:=m) hy2))<|J (gn 4)<|J (lenR 3)<|fun hl2=>bdE hr fun s2 hqq2 hr=>q0e hqq2 hl2 4 (fun k2 s2=>[(2,.pb 0 0),(3,.pb 1 0),(5,.ref 2 none),(6,dI (k1:Int)),(13,dI ((a1.rt_.length+1:Nat):Int)),(14,dI (k1:Int)),(21,.ref 3 none),(22,dI (y2.length:Int)),(23,dI (k2:Int))]) (fun k2 s2=>[(2,.row .fz 2 (s2.map Oc.D))]) I (fun k2 xk2 sk2 ok2 hxk2 hr hltk2=>?_) fun k2 hltk2=>?_
 obtain⟨s2,rfl⟩:∃ y,y=sk2:=⟨_,rfl⟩
 refine J g<|J (NV' 4)<|J g<|J (LIR' 5 (m:=.fz) (f:=Oc.D) (xs:=[(⟨(k1:Int),xk2.Name⟩:Oc)]))<|ggE hr fun g2 hr=>J (z1D (f:=Oc.D) 6 (fun _=>rfl) 24 g2)<|e
 exact e
 exact e
theorem j6m {Rc13:Expr→Option Expr}(Ic13:∀ {m:Md} {a0 r:Expr},Rc13 a0=some r→Okp 166 [Expr.x m a0] [] (.ag [dI r.Kind,dI r.N,dI r.Pos,dI r.t__,dS r.Symbol,dS r.Name,.ref 0 none]) [.row .fz 7 (r.Args.map Expr.D)]){m:Md}{a0 r:Expr}(hr:z6C Rc13 a0=some r):Okp 166 [Expr.x m a0] [] (.ag [dI r.Kind,dI r.N,dI r.Pos,dI r.t__,dS r.Symbol,dS r.Name,.ref 0 none]) [.row .fz 7 (r.Args.map Expr.D)]:=by
 refine OE Tryz.func166 fun S hS=>?_
 unfold z6C at hr
 refine J g<|J (BX' 0)<|J (NV' 1)<|J (gn 14) ?_
 refine J (q3k 3 2 .fz 7 rfl)<|J (lenA 6 0)<|fun hl1=>bdE hr fun s1 hqq1 hr=>q0e hqq1 hl1 3 (fun k1 s1=>[(1,.pb 0 0),(2,.pb 1 0),(3,.ref 2 none),(7,rw7 m a0.Args),(8,dI (a0.Args.length:Int)),(9,dI (k1:Int))]) (fun k1 s1=>[(2,.row .fz 7 (s1.map Expr.D))]) I (fun k1 xk1 sk1 ok1 hxk1 hr hltk1=>?_) fun k1 hltk1=>?_
 obtain⟨s1,rfl⟩:∃ y,y=sk1:=⟨_,rfl⟩
 refine J g<|J (NV' 3)<|bdE hr fun y1 hy1 hr=>J g<|J (CB' [(0,4)] [] (Ic13 (m:=m) hy1)) ?_
 refine J (q0p 4 rfl) ?_
 refine J (j7u 5 (m:=.fz) (f:=Expr.D) [y1] (by simp only[List.map_cons,List.map_nil,Expr.D_eq];rfl))<|ggE hr fun g1 hr=>J (AP1' 6 .fz 88 g1)<|J g<|E
 exact e
theorem j6n (n:Nat):∀ {m:Md} {a0 r:Expr},z2u n a0=some r→Okp 166 [Expr.x m a0] [] (.ag [dI r.Kind,dI r.N,dI r.Pos,dI r.t__,dS r.Symbol,dS r.Name,.ref 0 none]) [.row .fz 7 (r.Args.map Expr.D)]:=by
  induction n with
  | zero=>intro _ _ r hr;exact nomatch (show (none:Option Expr)=some r from hr)
  | succ n ih=>intro _ _ r hr;exact j6m ih hr
theorem j7V {m:Md}{a0 r:Expr}(hr:z8Z a0=some r):Okp 166 [Expr.x m a0] [] (.ag [dI r.Kind,dI r.N,dI r.Pos,dI r.t__,dS r.Symbol,dS r.Name,.ref 0 none]) [.row .fz 7 (r.Args.map Expr.D)]:=by
 obtain⟨n,hn⟩:=q6R hr
 exact j6n n hn
theorem z6Y {m:Md}{a0:Rule}{a1:Oc}{r:(Expr×Bool)}(hr:q8h a0 a1=some r):Okp 128 [Rule.x m a0,Oc.x .fz a1] [] (.tu [.ag [dI r.1.Kind,dI r.1.N,dI r.1.Pos,dI r.1.t__,dS r.1.Symbol,dS r.1.Name,.ref 0 none],dB r.2]) [.row .fz 7 (r.1.Args.map Expr.D)]:=by
 refine OE Tryz.func128 fun S hS=>?_
 unfold q8h at hr
 refine J g<|J (BX' 0)<|J (BX' 1)<|J (NV' 2)<|J (gn 11)<|J (lenA 4 0)<|fun hl1=>bdE hr fun q1 hqq1 hr=>q0b hqq1 hl1 3 (fun k1 _=>[(3,.pb 1 0),(4,.pb 2 0),(9,rw8 m a0.es_),(10,dI (a0.es_.length:Int)),(11,dI (k1:Int))]) (fun k1 _=>[]) I (fun k1 xk1 sk1 ok1 hxk1 hr hltk1 hik1=>?_) fun k1 sk1 ek1 hltk1=>?_
 refine J g<|J (NV' 3)<|J g ?_
 refine J (SQ' rfl rfl rfl rfl (q6B xk1.At a1))<|fE 1 hr ?_ ?_<;>intro h1 hr
 refine bdE hr fun y1 hy1 hr=>J g<|J (CB' [(0,4)] [] (j7V (m:=m) hy1))<|e
 exact e
 subst ek1
 refine J (gn 14) ?_
 refine J (q0c (q0n (q:=2) (c:=6) (r:=3) .fz 7 rfl rfl rfl))<|J g<|E
theorem z9i {m:Md}{a0:List Oc}{a1:Oc}{r:Int}(hr:q5O a0 a1=some r):Okp 131 [rw4 m a0,Oc.x .fz a1] [] (dI r) []:=by
 refine OE Tryz.func131 fun S hS=>?_
 unfold q5O at hr
 refine J g<|J (BX' 0)<|bdE hr fun y1 hy1 hr=>J g<|J (CB' [] [] (z0I (m:=m) hy1))<|e
theorem z9j {m:Md}{a0 r:List Int}(hr:z0f a0=some r):Okp 172 [rw1 m a0] [] (.ref 0 none) [.row .fz 1 (r.map (A.D.i .i64))]:=by
 refine OE Tryz.func172 fun S hS=>?_
 unfold z0f at hr
 refine ggE hr fun g1 hr=>J (gn 6) ?_
 refine q1J rfl fun q hq=>?_
 cases q with
 | true=>
 refine J g ?_
 have e0:a0=[]:=List.map_eq_nil_iff.1 (hq rfl)
 subst e0
 refine J (q0c (q0v (t:=2) (r:=0) .fz 1 rfl rfl))<|J g<|E
 | false=>
 refine J g<|J (L0' 0 (A.D.i .i64))<|J g<|J (APf' 1 (fun _=>rfl) g1)<|e
theorem z3N {m:Md}{a0 r:Rl_}(hr:q8i a0=some r):Okp 134 [Rl_.x m a0] [] (.ag [dI r.N,.ref 0 none]) [.row .fz 1 (r.Rows.map (A.D.i .i64))]:=by
 refine OE Tryz.func134 fun S hS=>?_
 unfold q8i at hr
 refine J g<|J (BX' 0)<|J (NV' 1)<|bdE hr fun y1 hy1 hr=>J g<|J (CB' [(0,2)] [] (z9j (m:=m) hy1))<|e
theorem z7S {m2:Md}{a0:Int}{a1:Rl_}{r:Bool}(hr:q7I a0 a1=some r):Okp 137 [dI a0,.pb 0 0] [bx7 m2 a1] (dB r) [bx7 m2 a1]:=by
 refine OE Tryz.func137 fun S hS=>?_
 unfold q7I at hr
 refine ggE hr fun g1 hr=>J g ?_
 refine J (CIU' g1 rfl)<|ggE hr fun g2 hr=>J (OB' _ (j7q g2))<|J (OB' _ (k2Q (p:=(2 ^ a1.N.toNat)) (k:=1) (by decide)))<|bdE hr fun y1 hy1 hr=>J (CB' [] [] (q4J hy1))<|J g<|E
theorem q9T {m m2:Md}{a0:List Int}{a1_0:Rl_}{r:Int}(hr:q4U a0 a1_0=some r):Okp 173 [rw1 m a0,.fn 137 [.pb 0 0]] [bx7 m2 a1_0] (dI r) [bx7 m2 a1_0]:=by
 refine OE Tryz.func173 fun S hS=>?_
 unfold q4U at hr
 refine J (gn 12)<|J (lenT 0)<|fun hl1=>bdE hr fun q1 hqq1 hr=>q0b hqq1 hl1 1 (fun k1 _=>[(0,rw1 m a0),(1,.fn 137 [.pb 0 0]),(7,dI (a0.length:Int)),(8,dI (k1:Int))]) (fun k1 _=>[]) I (fun k1 xk1 sk1 ok1 hxk1 hr hltk1 hik1=>?_) fun k1 sk1 ek1 hltk1=>?_
 refine bdE hr fun y1 hy1 hr=>J g<|J (CB' [(0,0)] [] (z7S (m2:=m2) hy1))<|fE 1 hr ?_ ?_<;>intro h1 hr
 exact e
 exact e
 subst ek1
 exact e
theorem q9l {m m2:Md}{a0:List Int}{a1_0:Rl_}{r:Bool}(hr:q4G a0 a1_0=some r):Okp 136 [rw1 m a0,.fn 137 [.pb 0 0]] [bx7 m2 a1_0] (dB r) [bx7 m2 a1_0]:=by
 refine OE Tryz.func136 fun S hS=>?_
 unfold q4G at hr
 refine bdE hr fun y1 hy1 hr=>J g<|J (CB' [(0,0)] [] (q9T (m:=m) (m2:=m2) hy1))<|e
theorem q6t {m:Md}{a0:Rl_}{r:Bool}(hr:q5k a0=some r):Okp 78 [Rl_.x m a0] [] (dB r) []:=by
 refine OE Tryz.func78 fun S hS=>?_
 unfold q5k at hr
 refine J g<|J (BX' 0)<|bdE hr fun y1 hy1 hr=>J g<|J (CB' [] [] (q4J hy1))<|bdE hr fun s1 hqq1 hr=>q0a 8 [(1,.pb 0 0),(2,dB false),(13,dB s1)] ?_ ?_
 replace hr:=hqq1
 refine ifE hr ?_ ?_<;>intro h1 hr
 exact e
 exact e
 refine bdE hr fun s2 hqq2 hr=>q0a 7 [(2,dB false),(20,dB s2)] ?_ ?_
 replace hr:=hqq2
 refine ifE hr ?_ ?_<;>intro h2 hr
 refine bdE hr fun y2 hy2 hr=>J g<|J (CB' [(0,0)] [] (q9l (m:=m) (m2:=m) hy2))<|e
 exact e
 exact e
theorem j3z {m:Md}{a0:Rl_}{a1 a2:Int}{r:Rl_}(hr:z4h a0 a1 a2=some r):Okp 130 [Rl_.x m a0,dI a1,dI a2] [] (.ag [dI r.N,.ref 0 none]) [.row .fz 1 (r.Rows.map (A.D.i .i64))]:=by
 refine OE Tryz.func130 fun S hS=>?_
 unfold z4h at hr
 refine J g<|J (BX' 0)<|J (NV' 1)<|bdE hr fun y1 hy1 hr=>J g<|J (CB' [(0,2)] [] (z3N (m:=m) hy1))<|J (NV' 3)<|bdE hr fun y2 hy2 hr=>J g<|J (CB' [] [] (q6t (m:=m) hy2))<|bdE hr fun s1 hqq1 hr=>q0a 7 [(1,dI a1),(2,dI a2),(3,.pb 0 0),(6,.pb 1 0),(7,.pb 3 0),(18,dB s1)] ?_ ?_
 replace hr:=hqq1
 refine ifE hr ?_ ?_<;>intro h1 hr
 refine ggE hr fun g1 hr=>bdE hr fun y3 hy3 hr=>J g<|J (CB' [] [] (q4J hy3))<|e
 exact e
 refine bdE hr fun s2 hqq2 hr=>q0a 7 [(1,dI a1),(2,dI a2),(6,.pb 1 0),(7,.pb 3 0),(25,dB s2)] ?_ ?_
 replace hr:=hqq2
 refine ifE hr ?_ ?_<;>intro h2 hr
 refine ggE hr fun g2 hr=>bdE hr fun y4 hy4 hr=>J g<|J (CB' [] [] (q4J hy4))<|e
 exact e
 refine fE 1 hr ?_ ?_<;>intro h3 hr
 refine ggE hr fun g3 hr=>bdE hr fun x1 hx1 hr=>ggE hr fun g4 hr=>J g ?_
 refine J (CIU' g4 rfl)<|ggE hr fun g5 hr=>J (OB' _ (j7q g5))<|ggE hr fun g6 hr=>J (OB' _ (bOrI g6))<|J g<|J (SE' ((x1.toNat ||| ((2 ^ a2.toNat:Nat):Int).toNat:Nat):Int) hx1)<|J g<|E
 exact e
theorem j0Q {m:Md}{a0:Gm_}{a1:Rule}{r:Rl_}(hr:q7w a0 a1=some r):Okp 68 [Gm_.y m a0,Rule.x m a1] [] (.ag [dI r.N,.ref 0 none]) [.row .fz 1 (r.Rows.map (A.D.i .i64))]:=by
 refine OE Tryz.func68 fun S hS=>?_
 unfold q7w at hr
 refine J g<|J (BX' 0)<|J (BX' 1)<|J (NV' 2)<|bdE hr fun y1 hy1 hr=>J g<|J (CB' [(0,3)] [] (z6j (m:=m) hy1))<|bdE hr fun y2 hy2 hr=>J g<|J (CB' [(0,4)] [] (z2P hy2))<|J (NV' 5)<|fE 9 hr ?_ ?_<;>intro h1 hr
 refine J (gn 7) ?_
 refine J (q0c (q0n (q:=2) (c:=1) (r:=6) .fz 1 rfl rfl rfl))<|J g<|E
 refine J (gn 10)<|J (lenR 3)<|fun hl1=>bdP hr fun s1 s2 hqq1 hr=>q0e hqq1 hl1 6 (fun k1 (s1,s2)=>[(3,.pb 1 0),(4,.pb 2 0),(5,.ref 3 none),(6,.pb 5 0),(23,.ref 3 none),(24,dI (y1.length:Int)),(25,dI (k1:Int))]) (fun k1 (s1,s2)=>[(4,.row .fz 1 (s1.map (A.D.i .i64))),(5,.box [dI s2,.ref 4 none])]) I (fun k1 xk1 sk1 ok1 hxk1 hr hltk1=>?_) fun k1 hltk1=>?_
 obtain⟨s1,s2⟩:=sk1
 refine J g<|J (NV' 6)<|bdP hr fun y3 y4 hq2 hr=>J g<|J (CB' [(0,7)] [] (z6Y (m:=m) hq2))<|J g<|J (NV' 8)<|bdE hr fun y5 hy5 hr=>J g<|J (CB' [(0,9)] [7] (z2M (m:=.bo) hy5))<|J (gn 4)<|J (lenR 9)<|fun hl2=>bdP hr fun s3 s4 hqq3 hr=>q0e hqq3 hl2 10 (fun k2 (s3,s4)=>[(3,.pb 1 0),(4,.pb 2 0),(5,.ref 3 none),(6,.pb 5 0),(7,dI (k1:Int)),(23,.ref 3 none),(24,dI (y1.length:Int)),(25,dI (k1:Int)),(37,.ref 9 none),(38,dI (y5.length:Int)),(39,dI (k2:Int))]) (fun k2 (s3,s4)=>[(4,.row .fz 1 (s3.map (A.D.i .i64))),(5,.box [dI s4,.ref 4 none])]) I (fun k2 xk2 sk2 ok2 hxk2 hr hltk2=>?_) fun k2 hltk2=>?_
 obtain⟨s3,s4⟩:=sk2
 refine J g<|J (NV' 10)<|bdE hr fun y6 hy6 hr=>J g<|J (CB' [] [3] (z9i (m:=.bo) hy6))<|bdE hr fun y7 hy7 hr=>J g<|J (CB' [(0,11)] [4] (j3z (m:=.bo) hy7))<|e
 exact e
 exact e
theorem j0R {m:Md}{a0:Symbol}{a1:BA_}{r:Bool}(hr:q9N a0 a1=some r):Okp 133 [Symbol.x m a0,.pb 0 0] [.box [dS a1]] (dB r) [.box [dS a1]]:=by
 refine OE Tryz.func133 fun S hS=>?_
 unfold q9N at hr
 refine J g<|J (BX' 1)<|e
theorem z0d {m:Md}{a0:List Symbol}{a1_0:BA_}{r:Int}(hr:q4v a0 a1_0=some r):Okp 132 [rw3 m a0,.fn 133 [.pb 0 0]] [.box [dS a1_0]] (dI r) [.box [dS a1_0]]:=by
 refine OE Tryz.func132 fun S hS=>?_
 unfold q4v at hr
 refine J (gn 12)<|J (lenT 0)<|fun hl1=>bdE hr fun q1 hqq1 hr=>q0b hqq1 hl1 1 (fun k1 _=>[(0,rw3 m a0),(1,.fn 133 [.pb 0 0]),(7,dI (a0.length:Int)),(8,dI (k1:Int))]) (fun k1 _=>[]) I (fun k1 xk1 sk1 ok1 hxk1 hr hltk1 hik1=>?_) fun k1 sk1 ek1 hltk1=>?_
 refine bdE hr fun y1 hy1 hr=>J g<|J (CB' [(0,0)] [] (j0R (m:=m) hy1))<|fE 1 hr ?_ ?_<;>intro h1 hr
 exact e
 exact e
 subst ek1
 exact e
theorem z4S {m:Md}{a0:Gm_}{a1:BA_}{r:Int}(hr:q7f a0 a1=some r):Okp 70 [Gm_.y m a0,dS a1] [] (dI r) []:=by
 refine OE Tryz.func70 fun S hS=>?_
 unfold q7f at hr
 refine J g<|J (BX' 0)<|J (BX' 1)<|bdE hr fun y1 hy1 hr=>J g<|J (CB' [(0,1)] [] (z0d (m:=m) hy1))<|e
theorem z4T {m:Md}{a0:Gm_}{a1:Rule}{a2:Int}{r:List Int}(hr:q7m a0 a1 a2=some r):Okp 76 [Gm_.y m a0,Rule.x m a1,dI a2] [] (.ref 0 none) [.row .fz 1 (r.map (A.D.i .i64))]:=by
 refine OE Tryz.func76 fun S hS=>?_
 unfold q7m at hr
 refine J g<|J (BX' 0)<|J (BX' 1)<|J g<|J (L0' 2 (A.D.i .i64))<|bdE hr fun y1 hy1 hr=>J g<|J (CB' [(0,3)] [] (z6j (m:=m) hy1))<|J (gn 4)<|J (lenR 3)<|fun hl1=>bdE hr fun s1 hqq1 hr=>q0e hqq1 hl1 4 (fun k1 s1=>[(2,dI a2),(7,.ref 2 none),(13,.ref 3 none),(14,dI (y1.length:Int)),(15,dI (k1:Int))]) (fun k1 s1=>[(2,.row .fz 1 (s1.map (A.D.i .i64)))]) I (fun k1 xk1 sk1 ok1 hxk1 hr hltk1=>?_) fun k1 hltk1=>?_
 obtain⟨s1,rfl⟩:∃ y,y=sk1:=⟨_,rfl⟩
 refine bdE hr fun s2 hqq2 hr=>J (gn 8)<|q0d 4 [(2,dI a2),(7,.ref 2 none),(13,.ref 3 none),(14,dI (y1.length:Int)),(15,dI (k1:Int))] [(2,.row .fz 1 (s2.map (A.D.i .i64)))] ?_ ?_
 replace hr:=hqq2
 refine J g<|J (NV' 4)<|fE 10 hr ?_ ?_<;>intro h1 hr
 refine J g<|J (LIR' 5 (m:=.fz) (f:=(A.D.i .i64)) (xs:=([(k1:Int)]:List Int)))<|ggE hr fun g1 hr=>J (z1D (f:=(A.D.i .i64)) 6 (fun _=>rfl) 8 g1)<|e
 exact e
 exact e
 exact e
theorem z6K {m:Md}{a0:Rl_}{a1 a2:Int}{r:Bool}(hr:z0w a0 a1 a2=some r):Okp 80 [Rl_.x m a0,dI a1,dI a2] [] (dB r) []:=by
 refine OE Tryz.func80 fun S hS=>?_
 unfold z0w at hr
 refine J g<|J (BX' 0)<|bdE hr fun y1 hy1 hr=>J g<|J (CB' [] [] (q6t (m:=m) hy1))<|bdE hr fun s1 hqq1 hr=>q0a 7 [(1,dI a1),(2,dI a2),(3,.pb 0 0),(6,dB false),(15,dB s1)] ?_ ?_
 replace hr:=hqq1
 refine ifE hr ?_ ?_<;>intro h1 hr
 refine ggE hr fun g1 hr=>bdE hr fun y2 hy2 hr=>J g<|J (CB' [] [] (q4J hy2))<|e
 exact e
 refine bdE hr fun s2 hqq2 hr=>q0a 7 [(1,dI a1),(2,dI a2),(3,.pb 0 0),(6,dB false),(22,dB s2)] ?_ ?_
 replace hr:=hqq2
 refine ifE hr ?_ ?_<;>intro h2 hr
 refine ggE hr fun g2 hr=>bdE hr fun y3 hy3 hr=>J g<|J (CB' [] [] (q4J hy3))<|e
 exact e
 refine bdE hr fun s3 hqq3 hr=>q0a 12 [(6,dB false),(34,dB s3)] ?_ ?_
 replace hr:=hqq3
 refine ifE hr ?_ ?_<;>intro h3 hr
 refine ggE hr fun g3 hr=>bdE hr fun x1 hx1 hr=>ggE hr fun g4 hr=>J g ?_
 refine J (CIU' g4 rfl)<|ggE hr fun g5 hr=>J (OB' _ (k5n g5))<|ggE hr fun g6 hr=>J (OB' _ (k5o g6))<|J g<|E
 exact e
 exact e
end Go.Proofs.YtgkepiefcpfimaaGreatDoor
