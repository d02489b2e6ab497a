/- What some functions of the program compute, as partial functions on plain data, and that they do; each lemma bears its conditions in its statement. -/
import Derived.Test.YtgkepiefcpfimaaGreatDoorLane1b
set_option linter.unusedVariables false
set_option linter.unusedSimpArgs false
set_option linter.ambiguousOpen false
set_option linter.unusedSectionVars false
set_option linter.unnecessarySimpa false
set_option maxRecDepth 100000
set_option maxHeartbeats 40000000
noncomputable section
open Int renaming natCast_nonneg→Dpz
namespace Go.Proofs.YtgkepiefcpfimaaGreatDoor
open Go Go.E Go.A
theorem k3k {m:Md}{a0:Gm_}{a1:Rule}{a2:Rl_}{a3:Int}{a4 r:Rl_}(hr:z9R a0 a1 a2 a3 a4=some r):Okp 69 [Gm_.y m a0,Rule.x m a1,.ag [dI a2.N,.ref 0 none],dI a3,Rl_.x m a4] [.row .fz 1 (a2.Rows.map (A.D.i .i64))] (.ag [dI r.N,.ref 1 none]) [.dead,.row .fz 1 (r.Rows.map (A.D.i .i64))]:=by
 refine OE Tryz.func69 fun S hS=>?_
 unfold z9R at hr
 refine J g<|J (BX' 1)<|J (BX' 2)<|J (BX' 3)<|J (BX' 4)<|J (NV' 5)<|bdE hr fun y1 hy1 hr=>J g<|J (CB' [(0,6)] [] (z4T (m:=m) hy1))<|J (gn 10) ?_
 refine J (q0P 0 7 rfl)<|J (lenR 6)<|fun hl1=>bdP hr fun s1 s2 hqq1 hr=>q0e hqq1 hl1 8 (fun k1 (s1,s2)=>[(7,.pb 3 0),(9,.pb 4 0),(10,.pb 5 0),(11,.ref 6 none),(20,.ref 6 none),(21,dI (y1.length:Int)),(22,dI (k1:Int))]) (fun k1 (s1,s2)=>[(3,.box [dI s1,.ref 7 none]),(7,.row .fz 1 (s2.map (A.D.i .i64)))]) I (fun k1 xk1 sk1 ok1 hxk1 hr hltk1=>?_) fun k1 hltk1=>?_
 obtain⟨s1,s2⟩:=sk1
 refine J (gn 24)<|J (lenR 6)<|fun hl2=>bdP hr fun s3 s4 hqq2 hr=>q0e hqq2 hl2 8 (fun k2 (s3,s4)=>[(7,.pb 3 0),(9,.pb 4 0),(10,.pb 5 0),(11,.ref 6 none),(12,dI (k1:Int)),(13,dI xk1),(20,.ref 6 none),(21,dI (y1.length:Int)),(22,dI (k1:Int)),(27,.ref 6 none),(28,dI (y1.length:Int)),(29,dI (k2:Int))]) (fun k2 (s3,s4)=>[(3,.box [dI s3,.ref 7 none]),(7,.row .fz 1 (s4.map (A.D.i .i64)))]) I (fun k2 xk2 sk2 ok2 hxk2 hr hltk2=>?_) fun k2 hltk2=>?_
 obtain⟨s3,s4⟩:=sk2
 refine bdP hr fun s6 s5 hqq3 hr=>J (gn 8)<|q0d 8 [(7,.pb 3 0),(9,.pb 4 0),(10,.pb 5 0),(11,.ref 6 none),(12,dI (k1:Int)),(13,dI xk1),(20,.ref 6 none),(21,dI (y1.length:Int)),(22,dI (k1:Int)),(27,.ref 6 none),(28,dI (y1.length:Int)),(29,dI (k2:Int))] [(3,.box [dI s6,.ref 7 none]),(7,.row .fz 1 (s5.map (A.D.i .i64)))] ?_ ?_
 replace hr:=hqq3
 refine bdE hr fun y2 hy2 hr=>J g<|J (CB' [] [] (z6K (m:=m) hy2))<|fE 1 hr ?_ ?_<;>intro h1 hr
 refine bdE hr fun y3 hy3 hr=>J g<|J (CB' [(0,8)] [7] (j3z (m:=.bo) hy3))<|e
 exact e
 exact e
 exact e
 exact e
theorem z6k {m:Md}{a0 r:Rl_}(hr:q8y a0=some r):Okp 72 [Rl_.x m a0] [] (.ag [dI r.N,.ref 0 none]) [.row .fz 1 (r.Rows.map (A.D.i .i64))]:=by
 refine OE Tryz.func72 fun S hS=>?_
 unfold q8y at hr
 refine J g<|J (BX' 0)<|J (NV' 1)<|bdE hr fun y1 hy1 hr=>J g<|J (CB' [(0,2)] [] (z3N (m:=m) hy1))<|J (NV' 3)<|bdE hr fun y2 hy2 hr=>J g<|J (CB' [] [] (q6t (m:=m) hy2))<|fE 2 hr ?_ ?_<;>intro h1 hr
 refine J (gn 11)<|J (rngT 14)<|fun hl1=>bdE hr fun s1 hqq1 hr=>q0l hqq1 4 (fun k1 s1=>[(2,.pb 1 0),(3,.pb 3 0),(14,dI (y1.Rows.length:Int)),(15,dI (k1:Int))]) (fun k1 s1=>[(2,.row .fz 1 (s1.map (A.D.i .i64)))]) I (fun k1 sk1 ok1 hr hltk1=>?_) ?_
 obtain⟨s1,rfl⟩:∃ y,y=sk1:=⟨_,rfl⟩
 refine J (gn 22)<|J (rngT 20)<|fun hl2=>bdE hr fun s2 hqq2 hr=>q0l hqq2 4 (fun k2 s2=>[(2,.pb 1 0),(3,.pb 3 0),(4,dI (k1:Int)),(14,dI (y1.Rows.length:Int)),(15,dI (k1:Int)),(20,dI (s1.length:Int)),(21,dI (k2:Int))]) (fun k2 s2=>[(2,.row .fz 1 (s2.map (A.D.i .i64)))]) I (fun k2 sk2 ok2 hr hltk2=>?_) ?_
 obtain⟨s2,rfl⟩:∃ y,y=sk2:=⟨_,rfl⟩
 refine bdE hr fun s3 hqq3 hr=>J (gn 8)<|q0d 4 [(2,.pb 1 0),(3,.pb 3 0),(4,dI (k1:Int)),(14,dI (y1.Rows.length:Int)),(15,dI (k1:Int)),(20,dI (s1.length:Int)),(21,dI (k2:Int))] [(2,.row .fz 1 (s3.map (A.D.i .i64)))] ?_ ?_
 replace hr:=hqq3
 refine bdE hr fun x1 hx1 hr=>J g ?_
 refine J (CIU' (Dpz _) rfl)<|ggE hr fun g1 hr=>J (OB' _ (k5n g1))<|ggE hr fun g2 hr=>J (OB' _ (k5o g2))<|fE 2 hr ?_ ?_<;>intro h2 hr
 refine bdE hr fun x2 hx2 hr=>ggE hr fun g3 hr=>J g<|J (OB' _ (bOrI g3))<|J g<|J (SE' ((x1.toNat ||| x2.toNat:Nat):Int) hx1)<|e
 exact e
 exact e
 exact e
 exact e
 exact e
theorem j3A {m:Md}{a0:Rl_}{r:Bool}(hr:z2w a0=some r):Okp 73 [Rl_.x m a0] [] (dB r) []:=by
 refine OE Tryz.func73 fun S hS=>?_
 unfold z2w at hr
 refine J g<|J (BX' 0)<|bdE hr fun y1 hy1 hr=>J g<|J (CB' [(0,1)] [] (z6k (m:=m) hy1))<|J (NV' 2)<|J (gn 11)<|J (lenR 1)<|fun hl1=>bdE hr fun q1 hqq1 hr=>q0b hqq1 hl1 3 (fun k1 _=>[(3,.pb 2 0),(9,dI (y1.Rows.length:Int)),(10,dI (k1:Int))]) (fun k1 _=>[]) I (fun k1 xk1 sk1 ok1 hxk1 hr hltk1 hik1=>?_) fun k1 sk1 ek1 hltk1=>?_
 refine bdE hr fun y2 hy2 hr=>J g<|J (CB' [] [1] (z6K (m:=.bo) hy2))<|fE 1 hr ?_ ?_<;>intro h1 hr
 exact e
 exact e
 subst ek1
 exact e
theorem z9k {m:Md}{a0:Rl_}{a1:List Int}{r:Rl_}(hr:q8G a0 a1=some r):Okp 75 [Rl_.x m a0,rw1 m a1] [] (.ag [dI r.N,.ref 0 none]) [.row .fz 1 (r.Rows.map (A.D.i .i64))]:=by
 refine OE Tryz.func75 fun S hS=>?_
 unfold q8G at hr
 refine J g<|J (BX' 0)<|J (NV' 1)<|bdE hr fun y1 hy1 hr=>J g<|J (CB' [] [] (q6t (m:=m) hy1))<|fE 1 hr ?_ ?_<;>intro h1 hr
 refine fE 6 hr ?_ ?_<;>intro h2 hr
 refine J (gn 7) ?_
 refine J (q0c (q0n (q:=1) (c:=1) (r:=2) .fz 1 rfl rfl rfl))<|J g<|E
 refine bdE hr fun y2 hy2 hr=>J g<|J (CB' [(0,2)] [] (z2P hy2))<|J (NV' 3)<|J (gn 10)<|J (lenT 1)<|fun hl1=>bdE hr fun s1 hqq1 hr=>q0e hqq1 hl1 4 (fun k1 s1=>[(1,rw1 m a1),(2,.pb 0 0),(4,.pb 1 0),(5,.pb 3 0),(22,rw1 m a1),(23,dI (a1.length:Int)),(24,dI (k1:Int))]) (fun k1 s1=>[(2,.row .fz 1 (s1.map (A.D.i .i64)))]) I (fun k1 xk1 sk1 ok1 hxk1 hr hltk1=>?_) fun k1 hltk1=>?_
 obtain⟨s1,rfl⟩:∃ y,y=sk1:=⟨_,rfl⟩
 refine J (gn 24)<|J (lenT 1)<|fun hl2=>bdE hr fun s2 hqq2 hr=>q0e hqq2 hl2 4 (fun k2 s2=>[(1,rw1 m a1),(2,.pb 0 0),(4,.pb 1 0),(5,.pb 3 0),(6,dI (k1:Int)),(7,dI xk1),(22,rw1 m a1),(23,dI (a1.length:Int)),(24,dI (k1:Int)),(29,rw1 m a1),(30,dI (a1.length:Int)),(31,dI (k2:Int))]) (fun k2 s2=>[(2,.row .fz 1 (s2.map (A.D.i .i64)))]) I (fun k2 xk2 sk2 ok2 hxk2 hr hltk2=>?_) fun k2 hltk2=>?_
 obtain⟨s2,rfl⟩:∃ y,y=sk2:=⟨_,rfl⟩
 refine bdE hr fun s3 hqq3 hr=>J (gn 8)<|q0d 4 [(1,rw1 m a1),(2,.pb 0 0),(4,.pb 1 0),(5,.pb 3 0),(6,dI (k1:Int)),(7,dI xk1),(22,rw1 m a1),(23,dI (a1.length:Int)),(24,dI (k1:Int)),(29,rw1 m a1),(30,dI (a1.length:Int)),(31,dI (k2:Int))] [(2,.row .fz 1 (s3.map (A.D.i .i64)))] ?_ ?_
 replace hr:=hqq3
 refine bdE hr fun y3 hy3 hr=>J g<|J (CB' [] [] (z6K (m:=m) hy3))<|fE 1 hr ?_ ?_<;>intro h3 hr
 refine bdE hr fun x1 hx1 hr=>J g ?_
 refine J (CIU' (Dpz _) rfl)<|ggE hr fun g1 hr=>J (OB' _ (j7q g1))<|ggE hr fun g2 hr=>J (OB' _ (bOrI g2))<|J g<|J (SE' ((x1.toNat ||| ((2 ^ (k2:Int).toNat:Nat):Int).toNat:Nat):Int) hx1)<|J g<|E
 exact e
 exact e
 exact e
 exact e
 refine J (gn 13) ?_
 refine J (q0c (q0n (q:=1) (c:=1) (r:=2) .fz 1 rfl rfl rfl))<|J g<|E
theorem j0S {m:Md}{a0 a1 r:Rl_}(hr:q9O a0 a1=some r):Okp 74 [Rl_.x m a0,Rl_.x m a1] [] (.ag [dI r.N,.ref 0 none]) [.row .fz 1 (r.Rows.map (A.D.i .i64))]:=by
 refine OE Tryz.func74 fun S hS=>?_
 unfold q9O at hr
 refine J g<|J (BX' 0)<|J (BX' 1)<|J (NV' 2)<|bdE hr fun y1 hy1 hr=>J g<|J (CB' [(0,3)] [] (z3N (m:=m) hy1))<|J (NV' 4)<|bdE hr fun y2 hy2 hr=>J g<|J (CB' [] [] (q6t (m:=m) hy2))<|bdE hr fun s1 hqq1 hr=>q0a 4 [(2,.pb 0 0),(3,.pb 1 0),(4,.pb 2 0),(5,.pb 4 0),(14,dB s1)] ?_ ?_
 replace hr:=hqq1
 refine ifE hr ?_ ?_<;>intro h1 hr
 refine bdE hr fun y3 hy3 hr=>J g<|J (CB' [] [] (q6t (m:=m) hy3))<|e
 exact e
 refine bdE hr fun s2 hqq2 hr=>q0a 7 [(3,.pb 1 0),(4,.pb 2 0),(5,.pb 4 0),(21,dB s2)] ?_ ?_
 replace hr:=hqq2
 refine ifE hr ?_ ?_<;>intro h2 hr
 exact e
 exact e
 refine fE 1 hr ?_ ?_<;>intro h3 hr
 refine J (gn 9)<|J (rngT 24)<|fun hl1=>bdE hr fun s3 hqq3 hr=>q0l hqq3 5 (fun k1 s3=>[(3,.pb 1 0),(4,.pb 2 0),(5,.pb 4 0),(24,dI (y1.Rows.length:Int)),(25,dI (k1:Int))]) (fun k1 s3=>[(3,.row .fz 1 (s3.map (A.D.i .i64)))]) I (fun k1 sk1 ok1 hr hltk1=>?_) ?_
 obtain⟨s3,rfl⟩:∃ y,y=sk1:=⟨_,rfl⟩
 refine bdE hr fun x1 hx1 hr=>bdE hr fun x2 hx2 hr=>ggE hr fun g1 hr=>J g<|J (OB' _ (bOrI g1))<|J g<|J (SE' ((x1.toNat ||| x2.toNat:Nat):Int) hx1)<|e
 exact e
 exact e
theorem z9l {m:Md}{a0 a1:List Int}{r:Bool}(hr:z1X a0 a1=some r):Okp 135 [rw1 m a0,rw1 m a1] [] (dB r) []:=by
 refine OE Tryz.func135 fun S hS=>?_
 unfold z1X at hr
 refine fE 13 hr ?_ ?_<;>intro h1 hr
 refine J (gn 10)<|J (lenT 0)<|fun hl1=>bdE hr fun q1 hqq1 hr=>q0b hqq1 hl1 0 (fun k1 _=>[(0,rw1 m a0),(1,rw1 m a1),(12,dI (a0.length:Int)),(13,dI (k1:Int))]) (fun k1 _=>[]) I (fun k1 xk1 sk1 ok1 hxk1 hr hltk1 hik1=>?_) fun k1 sk1 ek1 hltk1=>?_
 refine bdE hr fun x1 hx1 hr=>fE 26 hr ?_ ?_<;>intro h2 hr
 exact e
 exact e
 subst ek1
 exact e
 exact e
theorem j0T {m:Md}{a0 a1:Rl_}{r:Bool}(hr:z1d a0 a1=some r):Okp 77 [Rl_.x m a0,Rl_.x m a1] [] (dB r) []:=by
 refine OE Tryz.func77 fun S hS=>?_
 unfold z1d at hr
 refine J g<|J (BX' 0)<|J (BX' 1)<|fE 9 hr ?_ ?_<;>intro h1 hr
 refine bdE hr fun y1 hy1 hr=>J g<|J (CB' [] [] (z9l (m:=m) hy1))<|e
 exact e
theorem z8F {m:Md}{a0:Gm_}{r:((List Rl_)×Bool)}(hr:q6Z a0=some r):Okp 29 [Gm_.x m a0] [] (.tu [.ref 0 none,dB r.2]) [.row .fz 2 (r.1.map Rl_.D)]:=by
 refine OE Tryz.func29 fun S hS=>?_
 unfold q6Z at hr
 refine J g<|J (BX' 0)<|bdE hr fun y1 hy1 hr=>J g<|J (CB' [] [] (j7U (m:=m) hy1))<|fE 2 hr ?_ ?_<;>intro h1 hr
 refine bdE hr fun y2 hy2 hr=>J g<|J (CB' [(0,1)] [] (j0e (m:=m) hy2))<|bdE hr fun q1 hqq1 hr=>J (gn 7)<|AW.cut 2 (fun s1=>[(4,.ref 1 none)]) (fun s1=>[(1,.row .fz 2 (s1.map Rl_.D))]) (M:=fun x=>q1=.inl x) ?_ fun x hx=>?_
 refine J g<|q0i hqq1 2 (fun (s2,s3)=>[(1,.pb 0 0),(4,.ref 1 none),(5,dB s3)]) (fun (s2,s3)=>[(1,.row .fz 2 (s2.map Rl_.D))]) I fun sk1 ok1 hr hik1=>?_
 obtain⟨s2,s3⟩:=sk1
 have hr:=hr
 refine fE 5 hr ?_ ?_<;>intro h2 hr
 refine J (gn 15)<|J (lenT 20)<|fun hl2=>bdE hr fun q2 hqq2 hr=>q0b hqq2 hl2 2 (fun k2 (s4,s5)=>[(1,.pb 0 0),(4,.ref 1 none),(5,dB s5),(20,rw5 m a0.rs_),(21,dI (a0.rs_.length:Int)),(22,dI (k2:Int))]) (fun k2 (s4,s5)=>[(1,.row .fz 2 (s4.map Rl_.D))]) I (fun k2 xk2 sk2 ok2 hxk2 hr hltk2 hik2=>?_) fun k2 sk2 ek2 hltk2=>?_
 obtain⟨s4,s5⟩:=sk2
 unfold q6d at hr
 dsimp only at hr
 refine J g<|J (NV' 2)<|bdE hr fun y3 hy3 hr=>J g<|J (CB' [(0,3)] [] (j0Q (m:=m) hy3))<|J (NV' 4)<|ggE hr fun g1 hr=>J (gn 12)<|J (rngT 32)<|fun hl3=>bdP hr fun s6 s7 hqq3 hr=>q0l hqq3 5 (fun k3 (s6,s7)=>[(1,.pb 0 0),(4,.ref 1 none),(5,dB s5),(7,.pb 2 0),(8,.pb 4 0),(20,rw5 m a0.rs_),(21,dI (a0.rs_.length:Int)),(22,dI (k2:Int)),(32,dI ((xk2.rt_.length+1:Nat):Int)),(33,dI (k3:Int))]) (fun k3 (s6,s7)=>[(3,.row .fz 1 (s6.map (A.D.i .i64))),(4,.box [dI s7,.ref 3 none])]) I (fun k3 sk3 ok3 hr hltk3=>?_) ?_
 obtain⟨s6,s7⟩:=sk3
 refine bdE hr fun y4 hy4 hr=>J g<|J (CB' [] [] (z0u (m:=m) hy4))<|bdE hr fun y5 hy5 hr=>J (CB' [] [] (z4S (m:=m) hy5))<|ggE hr fun g2 hr=>bdE hr fun x1 hx1 hr=>bdE hr fun y6 hy6 hr=>J g<|J (CB' [(0,3),(1,5)] [] (k3k (m:=m) hy6))<|e
 refine bdE hr fun y7 hy7 hr=>J g<|J (CB' [(0,5)] [3] (z6k (m:=.bo) hy7))<|bdE hr fun y8 hy8 hr=>J g<|J (CB' [] [5] (j3A (m:=.bo) hy8))<|fE 1 hr ?_ ?_<;>intro h3 hr
 refine J (gn 7) ?_
 refine J (q0c (q0v (t:=2) (r:=6) .fz 2 rfl rfl))<|J g<|E
 refine ggE hr fun g3 hr=>J (gn 11)<|J (rngT 32)<|fun hl4=>bdP hr fun s8 s9 hqq4 hr=>q0l hqq4 6 (fun k4 (s8,s9)=>[(1,.pb 0 0),(4,.ref 1 none),(5,dB s9),(7,.pb 2 0),(8,.pb 4 0),(20,rw5 m a0.rs_),(21,dI (a0.rs_.length:Int)),(22,dI (k2:Int)),(57,dI ((xk2.rt_.length+1:Nat):Int)),(58,dI (k4:Int))]) (fun k4 (s8,s9)=>[(1,.row .fz 2 (s8.map Rl_.D))]) I (fun k4 sk4 ok4 hr hltk4=>?_) ?_
 obtain⟨s8,s9⟩:=sk4
 refine bdP hr fun s10 s11 hqq5 hr=>J (gn 8)<|q0d 6 [(1,.pb 0 0),(4,.ref 1 none),(5,dB s10),(7,.pb 2 0),(8,.pb 4 0),(20,rw5 m a0.rs_),(21,dI (a0.rs_.length:Int)),(22,dI (k2:Int)),(57,dI ((xk2.rt_.length+1:Nat):Int)),(58,dI (k4:Int))] [(1,.row .fz 2 (s11.map Rl_.D))] ?_ ?_
 replace hr:=hqq5
 refine bdE hr fun y9 hy9 hr=>J g<|J (CB' [] [] (z0u (m:=m) hy9))<|bdE hr fun y10 hy10 hr=>J (CB' [] [] (z4S (m:=m) hy10))<|ggE hr fun g4 hr=>bdE hr fun x2 hx2 hr=>bdE hr fun y11 hy11 hr=>J g<|J (CB' [(0,6)] [] (z4T (m:=m) hy11))<|bdE hr fun y12 hy12 hr=>J (CB' [(0,7)] [5,6] (z9k (m:=.bo) hy12))<|bdE hr fun y13 hy13 hr=>J (CB' [(0,8)] [7] (j0S (m:=.bo) hy13))<|J (NV' 9)<|fE 5 hr ?_ ?_<;>intro h4 hr
 refine J (gn 9)<|J (q0I .refl)<|J (gn 7) ?_
 refine J (q0p 8 rfl)<|J (SE' y13 hx2)<|J g<|E
 refine bdE hr fun y14 hy14 hr=>J g<|J (CB' [] [8] (j0T (m:=.bo) hy14))<|J (gn 2)<|J (q0I .refl)<|J (gn 7) ?_
 refine J (q0p 8 rfl)<|J (SE' y13 hx2)<|J g<|E
 exact e
 exact e
 subst ek2
 obtain⟨s4,s5⟩:=sk2
 exact e
 refine J (gn 2) ?_
 cases hr
 cases hik1 _ rfl
 exact⟨_,rfl,q0g hS 2⟩
 subst hx
 obtain⟨s1,rfl⟩:∃ y,y=x:=⟨_,rfl⟩
 exact e
 refine J (gn 7) ?_
 refine J (q0c (q0v (t:=2) (r:=1) .fz 2 rfl rfl))<|J g<|E
theorem z8G {m:Md}{a0:List Bool}{a1:Bool}{r:Int}(hr:q8j a0 a1=some r):Okp 138 [.d m (.sl 1 (a0.map A.D.b)),dB a1] [] (dI r) []:=by
 refine OE Tryz.func138 fun S hS=>?_
 unfold q8j at hr
 refine J (gn 12)<|J (lenT 0)<|fun hl1=>bdE hr fun q1 hqq1 hr=>q0b hqq1 hl1 0 (fun k1 _=>[(0,.d m (.sl 1 (a0.map A.D.b))),(1,dB a1),(7,dI (a0.length:Int)),(8,dI (k1:Int))]) (fun k1 _=>[]) I (fun k1 xk1 sk1 ok1 hxk1 hr hltk1 hik1=>?_) fun k1 sk1 ek1 hltk1=>?_
 refine J g ?_
 refine J (BQ' rfl rfl)<|fE 1 hr ?_ ?_<;>intro h1 hr
 exact e
 exact e
 subst ek1
 exact e
theorem z6L {m:Md}{a0:List Bool}{a1 r:Bool}(hr:q6i a0 a1=some r):Okp 82 [.d m (.sl 1 (a0.map A.D.b)),dB a1] [] (dB r) []:=by
 refine OE Tryz.func82 fun S hS=>?_
 unfold q6i at hr
 refine bdE hr fun y1 hy1 hr=>J g<|J (CB' [] [] (z8G (m:=m) hy1))<|e
theorem j4D {m2:Md}{a0:Int}{a1:List At_}{a2:Rl_}{a3:List Bool}{r:Bool}(hr:z0x a0 a1 a2 a3=some r):Okp 79 [dI a0,.pb 0 0,.pb 1 0,.pb 2 0] [.box [rw6 m2 a1],bx7 m2 a2,.box [.ref 3 none],.row .fz 1 (a3.map A.D.b)] (dB r) [.box [rw6 m2 a1],bx7 m2 a2,.box [.ref 3 none],.row .fz 1 (a3.map A.D.b)]:=by
 refine OE Tryz.func79 fun S hS=>?_
 unfold z0x at hr
 refine J (gn 12)<|J (lenT 7)<|fun hl1=>bdE hr fun q1 hqq1 hr=>q0b hqq1 hl1 4 (fun k1 _=>[(0,dI a0),(2,.pb 1 0),(3,.pb 2 0),(8,dI (a1.length:Int)),(9,dI (k1:Int))]) (fun k1 _=>[]) I (fun k1 xk1 sk1 ok1 hxk1 hr hltk1 hik1=>?_) fun k1 sk1 ek1 hltk1=>?_
 refine bdE hr fun y1 hy1 hr=>J g<|J (CB' [] [] (z6K (m:=m2) hy1))<|ifE hr ?_ ?_<;>intro h1 hr
 refine bdE hr fun x1 hx1 hr=>fE 8 hr ?_ ?_<;>intro h2 hr
 exact e
 exact e
 exact e
 subst ek1
 exact e
theorem z0J {m2:Md}{a0:Int}{o0:List At_}{o1:Rl_}{o2:List Bool}{r:((List BA_)×(List Bool))}(hr:q4O a0 o0 o1 o2=some r):Okp 81 [dI a0,.pb 0 0,.pb 2 0,.pb 3 0] [.box [rw6 m2 o0],bx7 m2 o1,.box [.ref 4 none],.box [.fn 79 [.pb 0 0,.pb 1 0,.pb 2 0]],.row .fz 1 (o2.map A.D.b)] (.ref 5 none) [.box [rw6 m2 o0],bx7 m2 o1,.box [.ref 4 none],.box [.fn 79 [.pb 0 0,.pb 1 0,.pb 2 0]],.row .fz 1 (r.2.map A.D.b),.row .fz 1 (r.1.map A.D.s)]:=by
 refine OE Tryz.func81 fun S hS=>?_
 unfold q4O at hr
 refine J g<|J (L0' 5 A.D.s)<|bdP hr fun s1 s2 hqq1 hr=>J (gn 7)<|q0d 6 [(6,.ref 5 none)] [(4,.row .fz 1 (s2.map A.D.b)),(5,.row .fz 1 (s1.map A.D.s))] ?_ ?_
 refine J g<|q0i hqq1 6 (fun (s3,s4,s5)=>[(0,dI a0),(1,.pb 0 0),(2,.pb 2 0),(3,.pb 3 0),(6,.ref 5 none),(7,dI s4)]) (fun (s3,s4,s5)=>[(4,.row .fz 1 (s5.map A.D.b)),(5,.row .fz 1 (s3.map A.D.s))]) I fun sk1 ok1 hr hik1=>?_
 obtain⟨s3,s4,s5⟩:=sk1
 have hr:=hr
 refine fE 8 hr ?_ ?_<;>intro h1 hr
 refine bdT hr fun s6 s7 s8 hqq2 hr=>J (gn 3)<|q0d 6 [(0,dI a0),(1,.pb 0 0),(2,.pb 2 0),(3,.pb 3 0),(6,.ref 5 none),(7,dI s7)] [(4,.row .fz 1 (s8.map A.D.b)),(5,.row .fz 1 (s6.map A.D.s))] ?_ ?_
 replace hr:=hqq2
 refine ggE hr fun g1 hr=>bdE hr fun x1 hx1 hr=>bdE hr fun s9 hqq3 hr=>J (gn 10)<|q0a 7 [(0,dI a0),(1,.pb 0 0),(2,.pb 2 0),(3,.pb 3 0),(6,.ref 5 none),(7,dI s4),(28,dB s9)] ?_ ?_
 replace hr:=hqq3
 refine ifE hr ?_ ?_<;>intro h2 hr
 refine ggE hr fun g2 hr=>bdE hr fun x2 hx2 hr=>e
 exact e
 refine bdE hr fun s10 hqq4 hr=>q0a 5 [(0,dI a0),(1,.pb 0 0),(2,.pb 2 0),(3,.pb 3 0),(6,.ref 5 none),(7,dI s4),(33,dB s10)] ?_ ?_
 replace hr:=hqq4
 refine ifE hr ?_ ?_<;>intro h3 hr
 refine bdE hr fun y1 hy1 hr=>J g<|J (CB' [(0,0),(1,1),(2,2),(3,4)] [] (j4D (m2:=m2) hy1))<|e
 exact e
 refine fE 1 hr ?_ ?_<;>intro h4 hr
 refine J g<|J (LIR' 6 (m:=.fz) (f:=A.D.s) (xs:=[x1.Name]))<|ggE hr fun g3 hr=>J (z1D (f:=A.D.s) 7 (fun _=>rfl) 16 g3)<|ggE hr fun g4 hr=>bdE hr fun x3 hx3 hr=>J g<|J (SE' true hx3)<|e
 exact e
 refine ggE hr fun g5 hr=>e
 refine J (gn 2) ?_
 cases hr
 cases hik1 _ rfl
 exact q0g hS 6
 exact e
theorem j7W {m:Md}{a0:List At_}{a1:Rl_}{r:((List Ph_)×Bool)}(hr:z4F a0 a1=some r):Okp 30 [rw6 m a0,Rl_.x m a1] [] (.tu [.ref 0 none,dB r.2]) [.row .fz 2 (r.1.map Ph_.D)]:=by
 refine OE Tryz.func30 fun S hS=>?_
 unfold z4F at hr
 refine J g<|J (BX' 0)<|J (BX' 1)<|bdE hr fun y1 hy1 hr=>J g<|J (CB' [] [] (q6t (m:=m) hy1))<|bdE hr fun s1 hqq1 hr=>J (gn 1)<|q0a 7 [(2,.pb 0 0),(3,.pb 1 0),(20,dB s1)] ?_ ?_
 replace hr:=hqq1
 refine ifE hr ?_ ?_<;>intro h1 hr
 exact e
 exact e
 refine bdE hr fun s2 hqq2 hr=>q0a 4 [(2,.pb 0 0),(3,.pb 1 0),(24,dB s2)] ?_ ?_
 replace hr:=hqq2
 refine ifE hr ?_ ?_<;>intro h2 hr
 exact e
 refine bdE hr fun y2 hy2 hr=>J g<|J (CB' [] [] (j3A (m:=m) hy2))<|e
 refine fE 1 hr ?_ ?_<;>intro h3 hr
 refine J (gn 7) ?_
 refine J (q0c (q0v (t:=4) (r:=2) .fz 2 rfl rfl))<|J g<|E
 refine J g<|J (L0' 2 Ph_.D)<|ggE hr fun g1 hr=>J g<|J (MKR' 3 (f:=A.D.b) false g1.1 g1.2.1 g1.2.2)<|J (NV' 4)<|J g<|J (NV' 5)<|bdE hr fun q3 hqq3 hr=>J (gn 8)<|AW.cut 6 (fun (s3,s4)=>[(6,.ref 2 none)]) (fun (s3,s4)=>[(2,.row .fz 2 (s3.map Ph_.D)),(3,.row .fz 1 (s4.map A.D.b))]) (M:=fun x=>q3=.inl x) ?_ fun x hx=>?_
 refine J g<|q0i hqq3 6 (fun (s5,s6)=>[(2,.pb 0 0),(6,.ref 2 none),(7,.pb 4 0),(9,.fn 81 [.pb 0 0,.pb 4 0,.pb 5 0])]) (fun (s5,s6)=>[(2,.row .fz 2 (s5.map Ph_.D)),(3,.row .fz 1 (s6.map A.D.b))]) I fun sk1 ok1 hr hik1=>?_
 obtain⟨s5,s6⟩:=sk1
 have hr:=hr
 refine bdE hr fun s7 hqq4 hr=>J (gn 6)<|q0a 4 [(2,.pb 0 0),(6,.ref 2 none),(7,.pb 4 0),(9,.fn 81 [.pb 0 0,.pb 4 0,.pb 5 0]),(37,dB s7)] ?_ ?_
 replace hr:=hqq4
 refine ifE hr ?_ ?_<;>intro h4 hr
 exact e
 refine bdE hr fun y3 hy3 hr=>J g<|J (CB' [] [3] (z6L (m:=.bo) hy3))<|e
 refine fE 1 hr ?_ ?_<;>intro h5 hr
 refine bdP hr fun y4 z1 hq5 hr=>J g<|J (CB' [(0,0),(1,1),(2,4),(3,5),(4,3),(5,6)] [] (z0J (m2:=m) hq5))<|J g<|J (NV' 7)<|bdP hr fun y5 z2 hq6 hr=>J g<|J (CB' [(0,0),(1,1),(2,4),(3,5),(4,3),(5,8)] [] (z0J (m2:=m) hq6))<|bdE hr fun s8 hqq7 hr=>J (gn 9)<|q0a 10 [(2,.pb 0 0),(6,.ref 2 none),(7,.pb 4 0),(9,.fn 81 [.pb 0 0,.pb 4 0,.pb 5 0]),(10,.pb 7 0),(56,dB s8)] ?_ ?_
 replace hr:=hqq7
 refine ifE hr ?_ ?_<;>intro h6 hr
 refine ggE hr fun g2 hr=>J g<|J (OB' _ (z2q (p:=y4.length) (q:=y5.length) g2))<|e
 exact e
 refine fE 1 hr ?_ ?_<;>intro h7 hr
 refine J (gn 7) ?_
 refine J (q0c (q0v (t:=4) (r:=9) .fz 2 rfl rfl))<|J g<|E
 refine J (gn 5) ?_
 refine J (q0p 6 rfl) ?_
 refine J (q0p 8 rfl)<|J (LIR' 9 (m:=.fz) (f:=Ph_.D) (xs:=[(⟨y4,y5⟩:Ph_)]))<|ggE hr fun g3 hr=>J (AP1' 10 .fz 48 g3)<|J g<|E
 refine J (gn 2) ?_
 cases hr
 cases hik1 _ rfl
 exact⟨_,rfl,q0g hS 6⟩
 subst hx
 obtain⟨s3,s4⟩:=x
 exact e
theorem j1U {m:Md}{a0:Gm_}{r:((List (List Ph_))×Bool)}(hr:q6l a0=some r):Okp 14 [Gm_.x m a0] [] (.tu [.ref 0 none,dB r.2]) [.row .fz 1 (r.1.map (fun (l:List Ph_)=>A.D.sl 2 (l.map Ph_.D)))]:=by
 refine Ok.enter rfl Tryz.func14 rfl rfl rfl fun S hS=>?_
 unfold q6l at hr
 refine sr ?_
 refine BX 0 ?_
 refine N2 ?_
 refine sr ?_
 refine W1 ?_
 refine bdE hr fun q1 hq1 hr=>?_
 obtain⟨y1,y2⟩:=q1
 refine CB [(0,1)] [] (z8F (m:=m) hq1) ?_
 refine N5 ?_
 refine ssr ?_
 refine N2 ?_
 refine ifE hr (fun h1 hr=>?_) fun h1 hr=>?_
 refine q0t rfl (bnF h1) ?_
 refine q0k ?_
 refine sr ?_
 refine L0 2 (fun (l:List Ph_)=>A.D.sl 2 (l.map Ph_.D)) ?_
 refine N1 ?_
 refine ssr ?_
 refine W2 ?_
 refine LF ?_
 refine N1 ?_
 refine AW.block ?_
 refine AW.len (.ag 0 (.tmp 0 rfl) rfl) fun hl1=>?_
 refine bdE hr fun q2 hqq2 hr=>?_
 refine q0b hqq2 hl1 3 (fun k1 s1=>[(1,.pb 0 0),(4,.ref 1 none),(6,.ref 2 none),(20,rw3 m a0.ss_),(21,dI (a0.ss_.length:Int)),(22,dI (k1:Int))]) (fun k1 s1=>[(2,.row .fz 1 (s1.map (fun (l:List Ph_)=>A.D.sl 2 (l.map Ph_.D))))]) (q0g hS 3) (fun k1 xk1 sk1 ok1 hxk1 hr hltk1 hik1=>?_) fun k1 sk1 ek1 hltk1=>?_
 obtain⟨s1,rfl⟩:∃ y,y=sk1:=⟨_,rfl⟩
 refine sr ?_
 refine N1 ?_
 refine q0m (q0s rfl (dT hltk1) ?_)
 refine q0k ?_
 refine q0m (AW.block (q0m (q0h ?_)))
 refine W1 ?_
 refine IF (Dpz _) hxk1 ?_
 refine W1 ?_
 refine NV 3 ?_
 refine W1 ?_
 refine SB ?_
 refine N0 ?_
 refine q0m (q0q (h:=?_))
 refine W3 ?_
 refine bdE hr fun y3 hy3 hr=>?_
 refine CB [(0,4)] [] (z1t (m:=m) hy3) ?_
 refine W2 ?_
 refine bdE hr fun x1 hx1 hr=>?_
 refine IE hx1 (Dpz _) ?_
 refine LPa hx1 ?_
 refine bdE hr fun q3 hq3 hr=>?_
 obtain⟨y4,y5⟩:=q3
 refine CB [(0,5)] [4] (j7W (m:=.bo) hq3) ?_
 refine N5 ?_
 refine ssr ?_
 refine N2 ?_
 refine ifE hr (fun h2 hr=>?_) fun h2 hr=>?_
 refine q0t rfl (bnF h2) ?_
 refine q0k ?_
 refine q0h ?_
 refine W2 ?_
 refine AL.fz 5 rfl ?_
 refine LIR 6 (m:=.fz) (f:=(fun (l:List Ph_)=>A.D.sl 2 (l.map Ph_.D))) (xs:=[y4]) ?_
 refine ggE hr fun g1 hr=>?_
 refine AP1 7 .fz 24 g1 ?_
 refine N1 ?_
 refine q0h ?_
 refine OB _ (z2q (p:=k1) (q:=1) (q5o hltk1 hl1)) ?_
 refine N1 ?_
 cases hr
 exact⟨_,rfl,q0j hS [(0,0),(1,1),(7,2)] 3⟩
 refine q0s rfl (bnT h2) ?_
 refine sr ?_
 refine N2 ?_
 refine AW.ret ?_
 refine endA.gh (q0v (t:=2) (r:=6) .fz 1 rfl rfl) ?_
 cases hr
 cases hik1 _ rfl
 rename_i hr
 cases hr
 exact q0o [(6,0)] 1 hS
 subst ek1
 obtain⟨s1,rfl⟩:∃ y,y=sk1:=⟨_,rfl⟩
 refine sr ?_
 refine N1 ?_
 refine q0m (q0t rfl (dF hltk1) ?_)
 refine q0u ?_
 refine sr ?_
 refine N3 ?_
 refine AW.ret ?_
 cases hr
 exact q0o [(2,0)] 1 hS
 refine q0s rfl (bnT h1) ?_
 refine sr ?_
 refine N2 ?_
 refine AW.ret ?_
 refine endA.gh (q0v (t:=2) (r:=2) .fz 1 rfl rfl) ?_
 cases hr
 exact q0o [(2,0)] 1 hS
theorem j7X {m:Md}{a0:Gm_}{a1:List (List Ph_)}{a2:Rule}{r:visits}(hr:z6D a0 a1 a2=some r):Okp 32 [Gm_.x m a0,.d m (.sl 1 (a1.map (fun (l:List Ph_)=>A.D.sl 2 (l.map Ph_.D)))),Rule.x m a2] [] (.pb 0 0) [bx0 m m m m m m r,.row .fz 2 (r.due.map Oc.D),.row .fz 2 (r.known.map Oc.D),.row .fz 1 (r.next.map (A.D.i .i64))]:=by
 refine OE Tryz.func32 fun S hS=>?_
 unfold z6D at hr
 refine J g<|J (BX' 0)<|J (BX' 1)<|bdE hr fun y1 hy1 hr=>J g<|J (CB' [(0,2)] [] (z7Q (m:=m) hy1))<|ggE hr fun g1 hr=>ggE hr fun g2 hr=>J g<|MKRb 3 8 (f:=(A.D.i .i64)) (0:Int) g2.1 g2.2.1 g2.2.2 ?_
 refine J g<|J (BX' 4)<|J (gn 3) ?_
 refine J (q0c (q0n (q:=4) (c:=10) (r:=5) .fz 2 rfl rfl rfl))<|J g<|E
theorem q9F {m2:Md}{a1:Int}{o0:visits}{r:List Ph_}(hr:q6g a1 o0=some r):Okp 33 [.pb 0 0,dI a1] [bx0 m2 m2 m2 m2 m2 m2 o0,.row .fz 2 (o0.due.map Oc.D),.row .fz 2 (o0.known.map Oc.D),.row .fz 1 (o0.next.map (A.D.i .i64))] (rw10 m2 r) [bx0 m2 m2 m2 m2 m2 m2 o0,.row .fz 2 (o0.due.map Oc.D),.row .fz 2 (o0.known.map Oc.D),.row .fz 1 (o0.next.map (A.D.i .i64))]:=by
 refine OE Tryz.func33 fun S hS=>?_
 unfold q6g at hr
 refine bdE hr fun y1 hy1 hr=>J g<|J (CB' [] [] (z0u (m:=m2) hy1))<|bdE hr fun y2 hy2 hr=>J (CB' [] [] (z4S (m:=m2) hy2))<|J g<|J (OB' _ (k2Q (p:=o0.phases.length) (k:=1) (by decide)))<|bdE hr fun y3 hy3 hr=>J (CB' [] [] (q4J hy3))<|fE 2 hr ?_ ?_<;>intro h1 hr
 refine ggE hr fun g1 hr=>bdE hr fun x1 hx1 hr=>e
 refine J (gn 6) ?_
 cases hr
 exact endA.ren [(0,0),(1,1),(2,2),(3,3)] 4 (.inr rfl) hS rfl rfl rfl .nld rfl rfl
theorem z6Z {m m2:Md}{a1:Int}{a2:List BA_}{o0 r:visits}(hr:q9b a1 a2 o0=some r):Okp 34 [.pb 0 0,dI a1,rw2 m a2] [bx0 m2 m2 m2 m2 m2 m2 o0,.row .fz 2 (o0.due.map Oc.D),.row .fz 2 (o0.known.map Oc.D),.row .fz 1 (o0.next.map (A.D.i .i64))] (.tu []) [.box [rw3 m2 o0.g.ss_,rw5 m2 o0.g.rs_,.d m2 (.sl 1 (o0.phases.map (fun (l:List Ph_)=>A.D.sl 2 (l.map Ph_.D)))),dS r.r.Name,dS r.r.Left,rw2 m2 o0.r.rt_,dB r.r.ll_,rw8 m2 o0.r.es_,rw9 m2 o0.r.cs_,.ref 1 none,.ref 4 none,.ref 3 none],.row .fz 2 (r.due.map Oc.D),.dead,.row .fz 1 (r.next.map (A.D.i .i64)),.row .fz 2 (r.known.map Oc.D)]:=by
 refine OE Tryz.func34 fun S hS=>?_
 unfold q9b at hr
 refine J (gn 7) ?_
 refine J (q0P 2 4 rfl)<|J (lenT 2)<|fun hl1=>bdE hr fun s1 hqq1 hr=>q0e hqq1 hl1 5 (fun k1 s1=>[(0,.pb 0 0),(1,dI a1),(8,rw2 m a2),(9,dI (a2.length:Int)),(10,dI (k1:Int))]) (fun k1 s1=>[(4,.row .fz 2 (s1.map Oc.D))]) I (fun k1 xk1 sk1 ok1 hxk1 hr hltk1=>?_) fun k1 hltk1=>?_
 obtain⟨s1,rfl⟩:∃ y,y=sk1:=⟨_,rfl⟩
 refine J g<|J (LIR' 5 (m:=.fz) (f:=Oc.D) (xs:=[(⟨a1,xk1⟩:Oc)]))<|ggE hr fun g1 hr=>J (z1D (f:=Oc.D) 6 (fun _=>rfl) 24 g1)<|e
 exact e
theorem z8H {m2:Md}{a0:Oc}{a1_0:visits}{r:Bool}(hr:q9x a0 a1_0=some r):Okp 139 [Oc.x .fz a0,.pb 1 0] [bx4 m2 m2 m2 m2 m2 m2 a1_0,.box [.pb 0 0],.row .fz 2 (a1_0.due.map Oc.D),.row .fz 2 (a1_0.known.map Oc.D),.row .fz 1 (a1_0.next.map (A.D.i .i64))] (dB r) [bx4 m2 m2 m2 m2 m2 m2 a1_0,.box [.pb 0 0],.row .fz 2 (a1_0.due.map Oc.D),.row .fz 2 (a1_0.known.map Oc.D),.row .fz 1 (a1_0.next.map (A.D.i .i64))]:=by
 refine OE Tryz.func139 fun S hS=>?_
 unfold q9x at hr
 refine J g<|J (BX' 5)<|bdE hr fun y1 hy1 hr=>J g<|J (CB' [] [3] (q5g (m:=.bo) hy1))<|e
theorem q8M {m2:Md}{a0:List Oc}{a1_0_0:visits}{r:Int}(hr:q4x a0 a1_0_0=some r):Okp 142 [.ref 2 none,.fn 139 [.pb 1 0]] [bx2 m2 m2 m2 m2 m2 m2 a1_0_0,.box [.pb 0 0],.row .fz 2 (a0.map Oc.D),.row .fz 2 (a1_0_0.due.map Oc.D),.row .fz 2 (a1_0_0.known.map Oc.D),.row .fz 1 (a1_0_0.next.map (A.D.i .i64))] (dI r) [bx2 m2 m2 m2 m2 m2 m2 a1_0_0,.box [.pb 0 0],.row .fz 2 (a0.map Oc.D),.row .fz 2 (a1_0_0.due.map Oc.D),.row .fz 2 (a1_0_0.known.map Oc.D),.row .fz 1 (a1_0_0.next.map (A.D.i .i64))]:=by
 refine OE Tryz.func142 fun S hS=>?_
 unfold q4x at hr
 refine J (gn 12)<|J (lenR 2)<|fun hl1=>bdE hr fun q1 hqq1 hr=>q0b hqq1 hl1 6 (fun k1 _=>[(0,.ref 2 none),(1,.fn 139 [.pb 1 0]),(7,dI (a0.length:Int)),(8,dI (k1:Int))]) (fun k1 _=>[]) I (fun k1 xk1 sk1 ok1 hxk1 hr hltk1 hik1=>?_) fun k1 sk1 ek1 hltk1=>?_
 refine bdE hr fun y1 hy1 hr=>J g<|J (CB' [(0,0),(1,1),(2,3),(3,4),(4,5)] [] (z8H (m2:=m2) hy1))<|fE 1 hr ?_ ?_<;>intro h1 hr
 exact e
 exact e
 subst ek1
 exact e
theorem q8q {m2:Md}{a0:List Oc}{a1_0_0:visits}{r:Bool}(hr:q4l a0 a1_0_0=some r):Okp 92 [.ref 2 none,.fn 139 [.pb 1 0]] [bx2 m2 m2 m2 m2 m2 m2 a1_0_0,.box [.pb 0 0],.row .fz 2 (a0.map Oc.D),.row .fz 2 (a1_0_0.due.map Oc.D),.row .fz 2 (a1_0_0.known.map Oc.D),.row .fz 1 (a1_0_0.next.map (A.D.i .i64))] (dB r) [bx2 m2 m2 m2 m2 m2 m2 a1_0_0,.box [.pb 0 0],.row .fz 2 (a0.map Oc.D),.row .fz 2 (a1_0_0.due.map Oc.D),.row .fz 2 (a1_0_0.known.map Oc.D),.row .fz 1 (a1_0_0.next.map (A.D.i .i64))]:=by
 refine OE Tryz.func92 fun S hS=>?_
 unfold q4l at hr
 refine bdE hr fun y1 hy1 hr=>J g<|J (CB' [(0,0),(1,1),(2,2),(3,3),(4,4),(5,5)] [] (q8M (m2:=m2) hy1))<|e
theorem j0f {m2:Md}{a0:visits}{a1:Oc}{r:Bool}(hr:q9c a0 a1=some r):Okp 86 [.pb 0 0,Oc.x .fz a1] [bx0 m2 m2 m2 m2 m2 m2 a0,.row .fz 2 (a0.due.map Oc.D),.row .fz 2 (a0.known.map Oc.D),.row .fz 1 (a0.next.map (A.D.i .i64))] (dB r) [bx0 m2 m2 m2 m2 m2 m2 a0,.row .fz 2 (a0.due.map Oc.D),.row .fz 2 (a0.known.map Oc.D),.row .fz 1 (a0.next.map (A.D.i .i64))]:=by
 refine OE Tryz.func86 fun S hS=>?_
 unfold q9c at hr
 refine J g<|J (BX' 4)<|J (BX' 5)<|bdE hr fun y1 hy1 hr=>J g<|J (CB' [] [1] (q5g (m:=.bo) hy1))<|fE 1 hr ?_ ?_<;>intro h1 hr
 refine bdE hr fun y2 hy2 hr=>J g<|J (CB' [] [2] (q5g (m:=.bo) hy2))<|fE 2 hr ?_ ?_<;>intro h2 hr
 exact e
 refine bdP hr fun y3 y4 hq1 hr=>J g<|J (CB' [(0,6)] [] (z6Y (m:=m2) hq1))<|J g<|J (NV' 7)<|fE 6 hr ?_ ?_<;>intro h3 hr
 refine bdE hr fun y5 hy5 hr=>J g<|J (CB' [(0,8)] [6] (z2M (m:=.bo) hy5))<|bdE hr fun y6 hy6 hr=>J g<|J (CB' [(0,0),(1,4),(2,8),(3,1),(4,2),(5,3)] [] (q8q (m2:=m2) hy6))<|e
 exact e
 exact e
theorem j0g {m2:Md}{a0:BA_}{a1_0:visits}{a2:Int}{r:Bool}(hr:z0y a0 a1_0 a2=some r):Okp 90 [dS a0,.pb 1 0,.pb 2 0] [bx2 m2 m2 m2 m2 m2 m2 a1_0,.box [.pb 0 0],bx9 a2,.row .fz 2 (a1_0.due.map Oc.D),.row .fz 2 (a1_0.known.map Oc.D),.row .fz 1 (a1_0.next.map (A.D.i .i64))] (dB r) [bx2 m2 m2 m2 m2 m2 m2 a1_0,.box [.pb 0 0],bx9 a2,.row .fz 2 (a1_0.due.map Oc.D),.row .fz 2 (a1_0.known.map Oc.D),.row .fz 1 (a1_0.next.map (A.D.i .i64))]:=by
 refine OE Tryz.func90 fun S hS=>?_
 unfold z0y at hr
 refine bdE hr fun y1 hy1 hr=>J g<|J (CB' [] [4] (q5g (m:=.bo) hy1))<|e
theorem q9U {m m2:Md}{a0:List BA_}{a1_0_0:visits}{a1_1 r:Int}(hr:q4W a0 a1_0_0 a1_1=some r):Okp 140 [rw2 m a0,.fn 90 [.pb 1 0,.pb 2 0]] [bx2 m2 m2 m2 m2 m2 m2 a1_0_0,.box [.pb 0 0],bx9 a1_1,.row .fz 2 (a1_0_0.due.map Oc.D),.row .fz 2 (a1_0_0.known.map Oc.D),.row .fz 1 (a1_0_0.next.map (A.D.i .i64))] (dI r) [bx2 m2 m2 m2 m2 m2 m2 a1_0_0,.box [.pb 0 0],bx9 a1_1,.row .fz 2 (a1_0_0.due.map Oc.D),.row .fz 2 (a1_0_0.known.map Oc.D),.row .fz 1 (a1_0_0.next.map (A.D.i .i64))]:=by
 refine OE Tryz.func140 fun S hS=>?_
 unfold q4W at hr
 refine J (gn 12)<|J (lenT 0)<|fun hl1=>bdE hr fun q1 hqq1 hr=>q0b hqq1 hl1 6 (fun k1 _=>[(0,rw2 m a0),(1,.fn 90 [.pb 1 0,.pb 2 0]),(7,dI (a0.length:Int)),(8,dI (k1:Int))]) (fun k1 _=>[]) I (fun k1 xk1 sk1 ok1 hxk1 hr hltk1 hik1=>?_) fun k1 sk1 ek1 hltk1=>?_
 refine bdE hr fun y1 hy1 hr=>J g<|J (CB' [(0,0),(1,1),(2,2),(3,3),(4,4),(5,5)] [] (j0g (m2:=m2) hy1))<|fE 1 hr ?_ ?_<;>intro h1 hr
 exact e
 exact e
 subst ek1
 exact e
theorem q9m {m m2:Md}{a0:List BA_}{a1_0_0:visits}{a1_1:Int}{r:Bool}(hr:q4H a0 a1_0_0 a1_1=some r):Okp 89 [rw2 m a0,.fn 90 [.pb 1 0,.pb 2 0]] [bx2 m2 m2 m2 m2 m2 m2 a1_0_0,.box [.pb 0 0],bx9 a1_1,.row .fz 2 (a1_0_0.due.map Oc.D),.row .fz 2 (a1_0_0.known.map Oc.D),.row .fz 1 (a1_0_0.next.map (A.D.i .i64))] (dB r) [bx2 m2 m2 m2 m2 m2 m2 a1_0_0,.box [.pb 0 0],bx9 a1_1,.row .fz 2 (a1_0_0.due.map Oc.D),.row .fz 2 (a1_0_0.known.map Oc.D),.row .fz 1 (a1_0_0.next.map (A.D.i .i64))]:=by
 refine OE Tryz.func89 fun S hS=>?_
 unfold q4H at hr
 refine bdE hr fun y1 hy1 hr=>J g<|J (CB' [(0,0),(1,1),(2,2),(3,3),(4,4),(5,5)] [] (q9U (m:=m) (m2:=m2) hy1))<|e
theorem z7a {m m2:Md}{a0:visits}{a1:Int}{a2:List BA_}{r:Bool}(hr:q9d a0 a1 a2=some r):Okp 36 [.pb 0 0,dI a1,rw2 m a2] [bx0 m2 m2 m2 m2 m2 m2 a0,.row .fz 2 (a0.due.map Oc.D),.row .fz 2 (a0.known.map Oc.D),.row .fz 1 (a0.next.map (A.D.i .i64))] (dB r) [bx0 m2 m2 m2 m2 m2 m2 a0,.row .fz 2 (a0.due.map Oc.D),.row .fz 2 (a0.known.map Oc.D),.row .fz 1 (a0.next.map (A.D.i .i64))]:=by
 refine OE Tryz.func36 fun S hS=>?_
 unfold q9d at hr
 refine J g<|J (BX' 4)<|J (BX' 5)<|bdE hr fun y1 hy1 hr=>J g<|J (CB' [(0,0),(1,4),(2,5),(3,1),(4,2),(5,3)] [] (q9m (m:=m) (m2:=m2) hy1))<|e
theorem z9m {m2:Md}{a0:visits}{a1:Int}{r:Bool}(hr:q8H a0 a1=some r):Okp 87 [.pb 0 0,dI a1] [bx0 m2 m2 m2 m2 m2 m2 a0,.row .fz 2 (a0.due.map Oc.D),.row .fz 2 (a0.known.map Oc.D),.row .fz 1 (a0.next.map (A.D.i .i64))] (dB r) [bx0 m2 m2 m2 m2 m2 m2 a0,.row .fz 2 (a0.due.map Oc.D),.row .fz 2 (a0.known.map Oc.D),.row .fz 1 (a0.next.map (A.D.i .i64))]:=by
 refine OE Tryz.func87 fun S hS=>?_
 unfold q8H at hr
 refine bdE hr fun y1 hy1 hr=>J g<|J (CB' [(0,0),(1,1),(2,2),(3,3)] [] (q9F (m2:=m2) hy1))<|bdE hr fun y2 hy2 hr=>J g<|J (CB' [] [] (q4J hy2))<|bdE hr fun s1 hqq1 hr=>q0a 12 [(0,.pb 0 0),(1,dI a1),(4,dB false),(5,rw10 m2 y1),(28,dB s1)] ?_ ?_
 replace hr:=hqq1
 refine ifE hr ?_ ?_<;>intro h1 hr
 refine ggE hr fun g1 hr=>bdE hr fun x1 hx1 hr=>e
 exact e
 refine bdE hr fun s2 hqq2 hr=>q0a 16 [(4,dB false),(44,dB s2)] ?_ ?_
 replace hr:=hqq2
 refine ifE hr ?_ ?_<;>intro h2 hr
 refine ggE hr fun g2 hr=>bdE hr fun x2 hx2 hr=>ggE hr fun g3 hr=>bdE hr fun x3 hx3 hr=>bdE hr fun y3 hy3 hr=>J g<|J (CB' [(0,0),(1,1),(2,2),(3,3)] [] (z7a (m:=m2) (m2:=m2) hy3))<|e
 exact e
 exact e
theorem j1V {m2:Md}{a1:Int}{o0 r:visits}(hr:z0q a1 o0=some r):Okp 88 [.pb 0 0,dI a1] [bx0 m2 m2 m2 m2 m2 m2 o0,.row .fz 2 (o0.due.map Oc.D),.row .fz 2 (o0.known.map Oc.D),.row .fz 1 (o0.next.map (A.D.i .i64))] (.tu []) [.box [rw3 m2 o0.g.ss_,rw5 m2 o0.g.rs_,.d m2 (.sl 1 (o0.phases.map (fun (l:List Ph_)=>A.D.sl 2 (l.map Ph_.D)))),dS r.r.Name,dS r.r.Left,rw2 m2 o0.r.rt_,dB r.r.ll_,rw8 m2 o0.r.es_,rw9 m2 o0.r.cs_,.ref 1 none,.ref 4 none,.ref 3 none],.row .fz 2 (r.due.map Oc.D),.dead,.row .fz 1 (r.next.map (A.D.i .i64)),.row .fz 2 (r.known.map Oc.D)]:=by
 refine OE Tryz.func88 fun S hS=>?_
 unfold z0q at hr
 refine bdE hr fun y1 hy1 hr=>J g<|CBK2 [(0,0),(1,1),(2,2),(3,3)] [] [] (q9F (m2:=m2) hy1) ?_
 refine ggE hr fun g1 hr=>bdE hr fun x1 hx1 hr=>ggE hr fun g2 hr=>bdE hr fun x2 hx2 hr=>bdE hr fun z1 hz1 hr=>J g<|J (CB' [(0,0),(1,1),(2,2),(3,3),(4,4)] [] (z6Z (m:=m2) (m2:=m2) hz1))<|ggE hr fun g3 hr=>bdE hr fun x3 hx3 hr=>ggE hr fun g4 hr=>J g<|J (SE' (x3+1) hx3)<|e
theorem z7T {m2:Md}{o0:visits}{r:(Step×Bool×visits)}(hr:q8Q o0=some r):Okp 35 [.pb 0 0] [bx0 m2 m2 m2 m2 m2 m2 o0,.row .fz 2 (o0.due.map Oc.D),.row .fz 2 (o0.known.map Oc.D),.row .fz 1 (o0.next.map (A.D.i .i64))] (.tu [Step.x .fz r.1,dB r.2.1]) [.box [rw3 m2 o0.g.ss_,rw5 m2 o0.g.rs_,.d m2 (.sl 1 (o0.phases.map (fun (l:List Ph_)=>A.D.sl 2 (l.map Ph_.D)))),dS r.2.2.r.Name,dS r.2.2.r.Left,rw2 m2 o0.r.rt_,dB r.2.2.r.ll_,rw8 m2 o0.r.es_,rw9 m2 o0.r.cs_,.ref 1 none,.ref 4 none,.ref 3 none],.row .fz 2 (r.2.2.due.map Oc.D),.dead,.row .fz 1 (r.2.2.next.map (A.D.i .i64)),.row .fz 2 (r.2.2.known.map Oc.D)]:=by
 refine OE Tryz.func35 fun S hS=>?_
 unfold q8Q at hr
 refine J g<|J (NV' 4)<|J (gn 13)<|J (lenR 1)<|fun hl1=>bdE hr fun q1 hqq1 hr=>q0b hqq1 hl1 5 (fun k1 _=>[(0,.pb 0 0),(2,.pb 4 0),(10,.ref 1 none),(11,dI (o0.due.length:Int)),(12,dI (k1:Int))]) (fun k1 _=>[]) I (fun k1 xk1 sk1 ok1 hxk1 hr hltk1 hik1=>?_) fun k1 sk1 ek1 hltk1=>?_
 refine J g<|J (NV' 5)<|bdE hr fun y1 hy1 hr=>J g<|J (CB' [(0,0),(1,1),(2,2),(3,3)] [] (j0f (m2:=m2) hy1))<|fE 1 hr ?_ ?_<;>intro h1 hr
 refine J g<|J (LIR' 6 (m:=.fz) (f:=Oc.D) (xs:=[xk1]))<|ggE hr fun g1 hr=>J (z1D (f:=Oc.D) 7 (fun _=>rfl) 24 g1)<|e
 exact e
 subst ek1
 refine bdE hr fun q2 hqq2 hr=>J (gn 12)<|AW.cut 5 (fun _=>[(2,.pb 4 0)]) (fun _=>[]) (M:=fun x=>q2=.inl x) ?_ fun x hx=>?_
 refine J g<|q0i hqq2 5 (fun s1=>[(0,.pb 0 0),(2,.pb 4 0),(6,dI s1)]) (fun s1=>[]) I fun sk2 ok2 hr hik2=>?_
 obtain⟨s1,rfl⟩:∃ y,y=sk2:=⟨_,rfl⟩
 have hr:=hr
 refine fE 12 hr ?_ ?_<;>intro h2 hr
 refine bdE hr fun y2 hy2 hr=>J g<|J (CB' [(0,0),(1,1),(2,2),(3,3)] [] (z9m (m2:=m2) hy2))<|fE 1 hr ?_ ?_<;>intro h3 hr
 refine bdE hr fun z1 hz1 hr=>J g<|J (CB' [(0,0),(1,1),(2,2),(3,3),(4,5)] [] (j1V (m2:=m2) hz1))<|ggE hr fun g2 hr=>bdE hr fun x1 hx1 hr=>e
 refine ggE hr fun g3 hr=>e
 refine J (gn 2) ?_
 cases hr
 cases hik2 _ rfl
 exact⟨_,rfl,q0g hS 5⟩
 subst hx
 refine J (gn 7) ?_
 refine J (q0c (q0G (i:=2) (j:=5) rfl rfl))<|J g<|E
theorem z7U {m2:Md}{a0:Oc}{a1_0:visits}{r:Bool}(hr:q8W a0 a1_0=some r):Okp 93 [Oc.x .fz a0,.pb 1 0] [bx4 m2 m2 m2 m2 m2 m2 a1_0,.box [.pb 0 0],.row .fz 2 (a1_0.due.map Oc.D),.row .fz 2 (a1_0.known.map Oc.D),.row .fz 1 (a1_0.next.map (A.D.i .i64))] (dB r) [bx4 m2 m2 m2 m2 m2 m2 a1_0,.box [.pb 0 0],.row .fz 2 (a1_0.due.map Oc.D),.row .fz 2 (a1_0.known.map Oc.D),.row .fz 1 (a1_0.next.map (A.D.i .i64))]:=by
 refine OE Tryz.func93 fun S hS=>?_
 unfold q8W at hr
 refine J g<|J (BX' 5)<|bdE hr fun y1 hy1 hr=>J g<|J (CB' [] [3] (q5g (m:=.bo) hy1))<|e
theorem q8v {m2:Md}{a0:List Oc}{a1_0_0:visits}{r:Int}(hr:q4u a0 a1_0_0=some r):Okp 142 [.ref 2 none,.fn 93 [.pb 1 0]] [bx4 m2 m2 m2 m2 m2 m2 a1_0_0,.box [.pb 0 0],.row .fz 2 (a1_0_0.due.map Oc.D),.row .fz 2 (a1_0_0.known.map Oc.D),.row .fz 1 (a1_0_0.next.map (A.D.i .i64))] (dI r) [bx4 m2 m2 m2 m2 m2 m2 a1_0_0,.box [.pb 0 0],.row .fz 2 (a1_0_0.due.map Oc.D),.row .fz 2 (a1_0_0.known.map Oc.D),.row .fz 1 (a1_0_0.next.map (A.D.i .i64))]:=by
 refine OE Tryz.func142 fun S hS=>?_
 unfold q4u at hr
 refine J (gn 12)<|J (lenR 2)<|fun hl1=>bdE hr fun q1 hqq1 hr=>q0b hqq1 hl1 5 (fun k1 _=>[(0,.ref 2 none),(1,.fn 93 [.pb 1 0]),(7,dI (a1_0_0.due.length:Int)),(8,dI (k1:Int))]) (fun k1 _=>[]) I (fun k1 xk1 sk1 ok1 hxk1 hr hltk1 hik1=>?_) fun k1 sk1 ek1 hltk1=>?_
 refine bdE hr fun y1 hy1 hr=>J g<|J (CB' [(0,0),(1,1),(2,2),(3,3),(4,4)] [] (z7U (m2:=m2) hy1))<|fE 1 hr ?_ ?_<;>intro h1 hr
 exact e
 exact e
 subst ek1
 exact e
theorem q7Z {m2:Md}{a0:List Oc}{a1_0_0:visits}{r:Bool}(hr:q3S a0 a1_0_0=some r):Okp 92 [.ref 2 none,.fn 93 [.pb 1 0]] [bx4 m2 m2 m2 m2 m2 m2 a1_0_0,.box [.pb 0 0],.row .fz 2 (a1_0_0.due.map Oc.D),.row .fz 2 (a1_0_0.known.map Oc.D),.row .fz 1 (a1_0_0.next.map (A.D.i .i64))] (dB r) [bx4 m2 m2 m2 m2 m2 m2 a1_0_0,.box [.pb 0 0],.row .fz 2 (a1_0_0.due.map Oc.D),.row .fz 2 (a1_0_0.known.map Oc.D),.row .fz 1 (a1_0_0.next.map (A.D.i .i64))]:=by
 refine OE Tryz.func92 fun S hS=>?_
 unfold q3S at hr
 refine bdE hr fun y1 hy1 hr=>J g<|J (CB' [(0,0),(1,1),(2,2),(3,3),(4,4)] [] (q8v (m2:=m2) hy1))<|e
theorem z9n {m2:Md}{a0:visits}{r:Bool}(hr:q6G a0=some r):Okp 37 [.pb 0 0] [bx0 m2 m2 m2 m2 m2 m2 a0,.row .fz 2 (a0.due.map Oc.D),.row .fz 2 (a0.known.map Oc.D),.row .fz 1 (a0.next.map (A.D.i .i64))] (dB r) [bx0 m2 m2 m2 m2 m2 m2 a0,.row .fz 2 (a0.due.map Oc.D),.row .fz 2 (a0.known.map Oc.D),.row .fz 1 (a0.next.map (A.D.i .i64))]:=by
 refine OE Tryz.func37 fun S hS=>?_
 unfold q6G at hr
 refine J g<|J (BX' 4)<|bdE hr fun q1 hqq1 hr=>J (gn 7)<|AW.cut 5 (fun _=>[(1,.pb 4 0)]) (fun _=>[]) (M:=fun x=>q1=.inl x) ?_ fun x hx=>?_
 refine J g<|q0i hqq1 5 (fun s1=>[(1,.pb 4 0),(3,dI s1)]) (fun s1=>[]) I fun sk1 ok1 hr hik1=>?_
 obtain⟨s1,rfl⟩:∃ y,y=sk1:=⟨_,rfl⟩
 have hr:=hr
 refine fE 12 hr ?_ ?_<;>intro h1 hr
 refine ggE hr fun g1 hr=>bdE hr fun x1 hx1 hr=>bdE hr fun y1 hy1 hr=>J g<|CBK2 [(0,0),(1,1),(2,2),(3,3)] [] [] (q9F (m2:=m2) hy1) ?_
 refine fE 3 hr ?_ ?_<;>intro h2 hr
 exact e
 refine ggE hr fun g2 hr=>e
 refine J (gn 2) ?_
 cases hr
 cases hik1 _ rfl
 exact⟨_,rfl,q0g hS 5⟩
 subst hx
 refine bdE hr fun y2 hy2 hr=>J g<|J (CB' [(0,0),(1,4),(2,1),(3,2),(4,3)] [] (q7Z (m2:=m2) hy2))<|e
theorem k1O {m:Md}{a0:Gm_}{a1:List (List Ph_)}{a2:Rule}{r:(RPl_×Bool)}(hr:z5X a0 a1 a2=some r):Okp 15 [Gm_.x m a0,.d m (.sl 1 (a1.map (fun (l:List Ph_)=>A.D.sl 2 (l.map Ph_.D)))),Rule.x m a2] [] (.tu [.ag [dS r.1.Rule,.ref 0 none],dB r.2]) [.row .fz 4 (r.1.Steps.map Step.D)]:=by
 refine Ok.enter rfl Tryz.func15 rfl rfl rfl fun S hS=>?_
 unfold z5X at hr
 refine sr ?_
 refine BX 0 ?_
 refine BX 1 ?_
 refine NV 2 ?_
 refine N1 ?_
 refine q0m (q0q (h:=?_))
 refine W3 ?_
 refine bdE hr fun y1 hy1 hr=>?_
 refine CB [(0,3),(1,4),(2,5),(3,6)] [] (j7X (m:=m) hy1) ?_
 refine W3 ?_
 refine NV 7 ?_
 refine W1 ?_
 refine SB ?_
 refine N0 ?_
 refine ssr ?_
 refine W1 ?_
 refine bdE hr fun y2 hy2 hr=>?_
 refine CB [(0,3),(1,4),(2,5),(3,6)] [] (q9F (m2:=m) hy2) ?_
 refine LF ?_
 refine N1 ?_
 refine AW.block ?_
 refine q1g 7 1 8 .fz 4 rfl rfl ?_
 refine AW.len (.tmp 22 rfl) fun hl1=>?_
 refine bdE hr fun q1 hqq1 hr=>?_
 refine q0b hqq1 hl1 9 (fun k1 (s3,s4,s5,s6,s1,s7,s2)=>[(6,.pb 2 0),(8,.pb 3 0),(9,.pb 7 0),(22,rw10 m y2),(23,dI (y2.length:Int)),(24,dI (k1:Int))]) (fun k1 (s3,s4,s5,s6,s1,s7,s2)=>[(3,.box [rw3 m y1.g.ss_,rw5 m y1.g.rs_,.d m (.sl 1 (y1.phases.map (fun (l:List Ph_)=>A.D.sl 2 (l.map Ph_.D)))),dS s3,dS s4,rw2 m y1.r.rt_,dB s5,rw8 m y1.r.es_,rw9 m y1.r.cs_,.ref 4 none,.ref 5 none,.ref 6 none]),(4,.row .fz 2 (s6.map Oc.D)),(5,.row .fz 2 (s1.map Oc.D)),(6,.row .fz 1 (s7.map (A.D.i .i64))),(8,.row .fz 4 (s2.map Step.D))]) (q0g hS 9) (fun k1 xk1 sk1 ok1 hxk1 hr hltk1 hik1=>?_) fun k1 sk1 ek1 hltk1=>?_
 obtain⟨s3,s4,s5,s6,s1,s7,s2⟩:=sk1
 refine sr ?_
 refine N1 ?_
 refine q0m (q0s rfl (dT hltk1) ?_)
 refine q0k ?_
 refine q0m (AW.block (q0m (q0h ?_)))
 refine W1 ?_
 refine IF (Dpz _) hxk1 ?_
 refine W1 ?_
 refine NV 9 ?_
 refine W1 ?_
 refine SB ?_
 refine N0 ?_
 refine sr ?_
 refine W3 ?_
 refine bdE hr fun z1 hz1 hr=>?_
 refine CB [(0,3),(1,4),(2,5),(3,6),(4,10)] [] (z6Z (m:=m) (m2:=m) hz1) ?_
 refine N0 ?_
 refine ssr ?_
 refine W1 ?_
 refine bdE hr fun q2 hq2 hr=>?_
 obtain⟨y3,y4,z2⟩:=q2
 refine CB [(0,3),(1,4),(2,10),(3,6),(4,11)] [] (z7T (m2:=m) hq2) ?_
 refine W3 ?_
 refine NV 12 ?_
 refine SB ?_
 refine N1 ?_
 refine bdE hr fun q3 hqq3 hr=>?_
 obtain⟨s10,s11,s12,s13,s8,s14,s9,s15,s16,s17,s18⟩:=q3
 refine q0d 13 [(6,.pb 2 0),(8,.pb 3 0),(9,.pb 7 0),(10,dI (k1:Int)),(11,.pb 9 0),(22,rw10 m y2),(23,dI (y2.length:Int)),(24,dI (k1:Int))] [(3,.box [rw3 m y1.g.ss_,rw5 m y1.g.rs_,.d m (.sl 1 (y1.phases.map (fun (l:List Ph_)=>A.D.sl 2 (l.map Ph_.D)))),dS s10,dS s11,rw2 m y1.r.rt_,dB s12,rw8 m y1.r.es_,rw9 m y1.r.cs_,.ref 4 none,.ref 11 none,.ref 6 none]),(4,.row .fz 2 (s13.map Oc.D)),(5,.none),(6,.row .fz 1 (s14.map (A.D.i .i64))),(8,.row .fz 4 (s9.map Step.D)),(10,.none),(11,.row .fz 2 (s8.map Oc.D)),(12,.none)] ?_ ?_
 refine AW.block (q0i hqq3 13 (fun (s21,s22,s23,s24,s25,s26,s19,s27,s20)=>[(6,.pb 2 0),(8,.pb 3 0),(9,.pb 7 0),(10,dI (k1:Int)),(11,.pb 9 0),(12,.pb 12 0),(13,dB s22),(22,rw10 m y2),(23,dI (y2.length:Int)),(24,dI (k1:Int))]) (fun (s21,s22,s23,s24,s25,s26,s19,s27,s20)=>[(3,.box [rw3 m y1.g.ss_,rw5 m y1.g.rs_,.d m (.sl 1 (y1.phases.map (fun (l:List Ph_)=>A.D.sl 2 (l.map Ph_.D)))),dS s23,dS s24,rw2 m y1.r.rt_,dB s25,rw8 m y1.r.es_,rw9 m y1.r.cs_,.ref 4 none,.ref 11 none,.ref 6 none]),(4,.row .fz 2 (s26.map Oc.D)),(5,.none),(6,.row .fz 1 (s27.map (A.D.i .i64))),(8,.row .fz 4 (s20.map Step.D)),(10,.none),(11,.row .fz 2 (s19.map Oc.D)),(12,.box [dI s21.Kind,dI s21.Pos,dI s21.Visit,dS s21.Name])]) (q0j hS [(0,0),(1,1),(2,2),(3,3),(4,4),(6,6),(7,7),(8,8),(9,9),(11,11),(12,12)] 13) fun sk2 ok2 hr hik2=>?_)
 obtain⟨s21,s22,s23,s24,s25,s26,s19,s27,s20⟩:=sk2
 have hr:=hr
 refine ssr ?_
 refine N1 ?_
 refine ifE hr (fun h1 hr=>?_) fun h1 hr=>?_
 refine q0s rfl h1 ?_
 refine q0k ?_
 refine q0m (AW.block (q0h ?_))
 refine W3 ?_
 refine LIR 13 (m:=.fz) (f:=Step.D) (xs:=[s21]) ?_
 refine ggE hr fun g1 hr=>?_
 refine APf1 (f:=Step.D) 14 (fun _=>rfl) 40 g1 ?_
 refine W1 ?_
 refine SB ?_
 refine N0 ?_
 refine ssr ?_
 refine N1 ?_
 refine q0h ?_
 refine NV 15 ?_
 refine SB ?_
 refine N0 ?_
 refine q0h ?_
 refine W1 ?_
 refine bdE hr fun q4 hq4 hr=>?_
 obtain⟨y5,y6,z3⟩:=q4
 refine CB [(0,3),(1,4),(2,11),(3,6),(4,16)] [] (z7T (m2:=m) hq4) ?_
 refine W3 ?_
 refine SB ?_
 refine N1 ?_
 cases hr
 exact⟨_,rfl,q0j hS [(0,0),(1,1),(2,2),(3,3),(4,4),(6,6),(7,7),(14,8),(9,9),(16,11),(15,12)] 13⟩
 refine q0t rfl (bF h1) ?_
 refine q0u ?_
 cases hr
 cases hik2 _ rfl
 exact q0j hS [(0,0),(1,1),(2,2),(3,3),(4,4),(6,6),(7,7),(8,8),(9,9),(11,11)] 13
 refine ssr ?_
 refine W3 ?_
 refine bdE hr fun y7 hy7 hr=>?_
 refine CB [(0,3),(1,4),(2,11),(3,6)] [] (z7a (m:=m) (m2:=m) hy7) ?_
 refine N1 ?_
 refine ifE hr (fun h2 hr=>?_) fun h2 hr=>?_
 refine q0t rfl (bnF h2) ?_
 refine q0k ?_
 refine q0h ?_
 refine W3 ?_
 refine OB _ (z2q (p:=k1) (q:=1) (q5o hltk1 hl1)) ?_
 refine W1 ?_
 refine LIR 13 (m:=.fz) (f:=Step.D) (xs:=[(⟨3,0,((k1+1:Nat):Int),(⟨#[]⟩:BA_)⟩:Step)]) ?_
 refine ggE hr fun g2 hr=>?_
 refine APf1 (f:=Step.D) 14 (fun _=>rfl) 40 g2 ?_
 refine W1 ?_
 refine SB ?_
 refine N0 ?_
 refine q0h ?_
 refine OB _ (z2q (p:=k1) (q:=1) (q5o hltk1 hl1)) ?_
 refine N1 ?_
 cases hr
 exact⟨_,rfl,q0j hS [(0,0),(1,1),(2,2),(3,3),(4,4),(11,5),(6,6),(7,7),(14,8)] 9⟩
 refine q0s rfl (bnT h2) ?_
 refine sr ?_
 refine W1 ?_
 refine SB ?_
 refine N1 ?_
 refine AW.ret ?_
 refine endA.gh (q0n (q:=2) (c:=1) (r:=13) .fz 4 rfl rfl rfl) ?_
 cases hr
 cases hik1 _ rfl
 rename_i hr
 cases hr
 exact q0o [(13,0)] 1 hS
 subst ek1
 obtain⟨s3,s4,s5,s6,s1,s7,s2⟩:=sk1
 refine sr ?_
 refine N1 ?_
 refine q0m (q0t rfl (dF hltk1) ?_)
 refine q0u ?_
 refine q0m (q0q (h:=?_))
 refine W2 ?_
 refine bdE hr fun y8 hy8 hr=>?_
 refine CBK2 [(0,3),(1,4),(2,5),(3,6)] [] [] (z9n (m2:=m) hy8) ?_
 refine SB ?_
 refine N1 ?_
 refine AW.ret ?_
 cases hr
 exact q0o [(8,0)] 1 hS
theorem j6o {m:Md}{a0:Gm_}{r:((List RPl_)×Bool)}(hr:z3s a0=some r):Okp 6 [Gm_.x m a0] [] (.tu [.ref 0 none,dB r.2]) [.row .fz 2 (r.1.map RPl_.D)]:=by
 refine OE Tryz.func6 fun S hS=>?_
 unfold z3s at hr
 refine J g<|J (BX' 0)<|bdP hr fun y1 y2 hq1 hr=>J g<|J (CB' [(0,1)] [] (j1U (m:=m) hq1))<|fE 12 hr ?_ ?_<;>intro h1 hr
 refine J g<|J (L0' 2 RPl_.D)<|J (gn 11)<|J (lenA 1 0)<|fun hl1=>bdE hr fun q2 hqq2 hr=>q0b hqq2 hl1 3 (fun k1 s1=>[(1,.pb 0 0),(4,.ref 1 none),(6,.ref 2 none),(20,rw5 m a0.rs_),(21,dI (a0.rs_.length:Int)),(22,dI (k1:Int))]) (fun k1 s1=>[(2,.row .fz 2 (s1.map RPl_.D))]) I (fun k1 xk1 sk1 ok1 hxk1 hr hltk1 hik1=>?_) fun k1 sk1 ek1 hltk1=>?_
 obtain⟨s1,rfl⟩:∃ y,y=sk1:=⟨_,rfl⟩
 refine J g<|J (NV' 3)<|bdP hr fun y3 y4 hq3 hr=>J g<|J (CB' [(0,4)] [1] (k1O (m:=.bo) hq3))<|J g<|J (NV' 5)<|fE 9 hr ?_ ?_<;>intro h2 hr
 refine J (gn 5) ?_
 refine J (q0p 4 rfl)<|J (LIR' 6 (m:=.fz) (f:=RPl_.D) (xs:=[y3]))<|ggE hr fun g1 hr=>J (AP1' 7 .fz 40 g1)<|J g<|E
 refine J (gn 7) ?_
 refine J (q0c (q0v (t:=2) (r:=6) .fz 2 rfl rfl))<|J g<|E
 subst ek1
 obtain⟨s1,rfl⟩:∃ y,y=sk1:=⟨_,rfl⟩
 exact e
 refine J (gn 7) ?_
 refine J (q0c (q0v (t:=2) (r:=2) .fz 2 rfl rfl))<|J g<|E
theorem j9u {m:Md}{a0:List RPl_}{a1:BA_}{r:List Step}(hr:z8t a0 a1=some r):Okp 22 [rw13 m a0,dS a1] [] (rw12 m r) []:=by
 refine OE Tryz.func22 fun S hS=>?_
 unfold z8t at hr
 refine J (gn 12)<|J (lenT 0)<|fun hl1=>bdE hr fun q1 hqq1 hr=>q0b hqq1 hl1 0 (fun k1 _=>[(1,dS a1),(7,rw13 m a0),(8,dI (a0.length:Int)),(9,dI (k1:Int))]) (fun k1 _=>[]) I (fun k1 xk1 sk1 ok1 hxk1 hr hltk1 hik1=>?_) fun k1 sk1 ek1 hltk1=>?_
 refine J g<|J (NV' 0)<|fE 9 hr ?_ ?_<;>intro h1 hr
 exact e
 exact e
 subst ek1
 refine J (gn 12) ?_
 cases hr
 exact endA.ren [] 0 (.inr rfl) hS rfl rfl rfl .nld rfl rfl
theorem z8I {m:Md}{a0 r:List Step}(hr:q9A a0=some r):Okp 21 [rw12 m a0] [] (.ref 0 none) [.row .fz 4 (r.map Step.D)]:=by
 refine OE Tryz.func21 fun S hS=>?_
 unfold q9A at hr
 refine ggE hr fun g1 hr=>J (gn 6) ?_
 refine q1J rfl fun q hq=>?_
 cases q with
 | true=>
 refine J g ?_
 have e0:a0=[]:=List.map_eq_nil_iff.1 (hq rfl)
 subst e0
 refine J (q0c (q0v (t:=2) (r:=0) .fz 4 rfl rfl))<|J g<|E
 | false=>
 refine J g<|J (L0' 0 Step.D)<|J g<|J (APf' 1 (fun _=>rfl) g1)<|e
theorem j9v {m:Md}{a0:List RPl_}{a1:BA_}{r:List Step}(hr:z6e a0 a1=some r):Okp 10 [rw13 m a0,dS a1] [] (.ref 0 none) [.row .fz 4 (r.map Step.D)]:=by
 refine OE Tryz.func10 fun S hS=>?_
 unfold z6e at hr
 refine bdE hr fun y1 hy1 hr=>J g<|J (CB' [] [] (j9u (m:=m) hy1))<|bdE hr fun y2 hy2 hr=>J (CB' [(0,0)] [] (z8I (m:=m) hy2))<|e
theorem z3Z {a0:Int}{r:BA_}(hr:z0t a0=some r):OkK KT Tryz.prog 23 [dI a0] (dS r):=by
 refine OkK.enter Tryz.func23 fun S hS hK=>?_
 unfold z0t at hr
 refine bdE hr fun y1 hy1 hr=>J g<|J (CBK' hK j2O (j2P hy1))<|e
theorem z8Q {a0:Step}{r:BA_}(hr:q9B a0=some r):OkK KT Tryz.prog 11 [Step.x .fz a0] (dS r):=by
 refine OkK.enter Tryz.func11 fun S hS hK=>?_
 unfold q9B at hr
 refine J g<|J (BX' 0)<|fE 14 hr ?_ ?_<;>intro h1 hr
 refine bdE hr fun y1 hy1 hr=>J g<|J (CBK' hK j2O (z3Z hy1))<|ggE hr fun g1 hr=>J (OB' _ (z5I g1))<|ggE hr fun g2 hr=>J (OB' _ (z5I g2))<|ggE hr fun g3 hr=>J g<|J (OB' _ (z5I g3))<|e
 refine fE 6 hr ?_ ?_<;>intro h2 hr
 refine bdE hr fun y2 hy2 hr=>J g<|J (CBK' hK j2O (z3Z hy2))<|ggE hr fun g4 hr=>J (OB' _ (z5I g4))<|ggE hr fun g5 hr=>J (OB' _ (z5I g5))<|bdE hr fun y3 hy3 hr=>J g<|J (CBK' hK j2O (z3Z hy3))<|ggE hr fun g6 hr=>J (OB' _ (z5I g6))<|e
 refine fE 6 hr ?_ ?_<;>intro h3 hr
 refine bdE hr fun y4 hy4 hr=>J g<|J (CBK' hK j2O (z3Z hy4))<|ggE hr fun g7 hr=>J (OB' _ (z5I g7))<|e
 exact e
end Go.Proofs.YtgkepiefcpfimaaGreatDoor
