/- What some functions of the program compute, as partial functions on plain data, and that they do; each lemma bears its conditions in its statement. -/
import Derived.Test.YtgkepiefcpfimaaGreatDoorLane0b
set_option linter.unusedVariables false
set_option linter.unusedSimpArgs false
set_option linter.ambiguousOpen false
set_option linter.unusedSectionVars false
set_option linter.unnecessarySimpa false
set_option maxRecDepth 100000
set_option maxHeartbeats 40000000
noncomputable section
open Int renaming natCast_nonneg→Dpz
namespace Go.Proofs.YtgkepiefcpfimaaGreatDoor
open Go Go.E Go.A
theorem z3K {m:Md}{a0:Gm_}{a1 a2:BA_}{r:Int}(hr:q8n a0 a1 a2=some r):Okp 202 [Gm_.y m a0,dS a1,dS a2] [] (dI r) []:=by
 refine OE Tryz.func202 fun S hS=>?_
 unfold q8n at hr
 refine J g<|J (BX' 0)<|bdP hr fun y1 y2 hq1 hr=>J g<|J (CB' [(0,1)] [] (q7T (m:=m) hq1))<|J g<|J (NV' 2)<|bdP hr fun y3 y4 hq2 hr=>J g<|J (CB' [] [1] (z0C (m:=.bo) hq2))<|J g<|J (NV' 3)<|fE 9 hr ?_ ?_<;>intro h1 hr
 exact e
 exact e
theorem k3h {Rc17:Gm_→Rule→Expr→Option Int}(Ic17:∀ {m:Md} {a0:Gm_} {a1:Rule} {a2:Expr} {r:Int},Rc17 a0 a1 a2=some r→Okp 201 [Gm_.y m a0,Rule.x m a1,Expr.x m a2] [] (dI r) []){m:Md}{a0:Gm_}{a1:Rule}{a2:Expr}{r:Int}(hr:j2e Rc17 a0 a1 a2=some r):Okp 241 [Gm_.y m a0,Rule.x m a1,Expr.x m a2] [] (dI r) []:=by
 refine OE Tryz.func241 fun S hS=>?_
 unfold j2e at hr
 refine J g<|J (BX' 0)<|J (BX' 1)<|J (BX' 2)<|bdT hr fun y1 y2 y3 hq1 hr=>J g<|J (CB' [] [] (q7A hq1))<|fE 15 hr ?_ ?_<;>intro h1 hr
 refine bdE hr fun x1 hx1 hr=>bdE hr fun y4 hy4 hr=>J g<|J (CB' [] [] (Ic17 (m:=m) hy4))<|fE 3 hr ?_ ?_<;>intro h2 hr
 refine bdE hr fun x2 hx2 hr=>bdE hr fun y5 hy5 hr=>J g<|J (CB' [] [] (Ic17 (m:=m) hy5))<|fE 4 hr ?_ ?_<;>intro h3 hr
 exact e
 exact e
 exact e
 exact e
theorem k3i {Rc17:Gm_→Rule→Expr→Option Int}(Ic17:∀ {m:Md} {a0:Gm_} {a1:Rule} {a2:Expr} {r:Int},Rc17 a0 a1 a2=some r→Okp 201 [Gm_.y m a0,Rule.x m a1,Expr.x m a2] [] (dI r) []){m:Md}{a0:Gm_}{a1:Rule}{a2:Expr}{r:Int}(hr:j2f Rc17 a0 a1 a2=some r):Okp 242 [Gm_.y m a0,Rule.x m a1,Expr.x m a2] [] (dI r) []:=by
 refine OE Tryz.func242 fun S hS=>?_
 unfold j2f at hr
 refine J g<|J (BX' 0)<|J (BX' 1)<|J (BX' 2)<|fE 9 hr ?_ ?_<;>intro h1 hr
 refine bdE hr fun x1 hx1 hr=>bdE hr fun y1 hy1 hr=>J g<|J (CB' [] [] (Ic17 (m:=m) hy1))<|fE 3 hr ?_ ?_<;>intro h2 hr
 refine bdE hr fun x2 hx2 hr=>bdE hr fun y2 hy2 hr=>J g<|J (CB' [] [] (Ic17 (m:=m) hy2))<|bdE hr fun x3 hx3 hr=>bdE hr fun y3 hy3 hr=>J g<|J (CB' [] [] (Ic17 (m:=m) hy3))<|fE 2 hr ?_ ?_<;>intro h3 hr
 exact e
 exact e
 exact e
 exact e
theorem j3j {Rc17:Gm_→Rule→Expr→Option Int}(Ic17:∀ {m:Md} {a0:Gm_} {a1:Rule} {a2:Expr} {r:Int},Rc17 a0 a1 a2=some r→Okp 201 [Gm_.y m a0,Rule.x m a1,Expr.x m a2] [] (dI r) []){m:Md}{a0:Gm_}{a1:Rule}{a2:Expr}{r:Int}(hr:z2e Rc17 a0 a1 a2=some r):Okp 201 [Gm_.y m a0,Rule.x m a1,Expr.x m a2] [] (dI r) []:=by
 refine OE Tryz.func201 fun S hS=>?_
 unfold z2e at hr
 refine J g<|J (BX' 0)<|J (BX' 1)<|J (BX' 2)<|fE 14 hr ?_ ?_<;>intro h1 hr
 exact e
 refine fE 6 hr ?_ ?_<;>intro h2 hr
 refine fE 6 hr ?_ ?_<;>intro h3 hr
 exact e
 exact e
 refine fE 6 hr ?_ ?_<;>intro h4 hr
 refine bdE hr fun y1 hy1 hr=>J g<|J (CB' [] [] (q6h hy1))<|fE 1 hr ?_ ?_<;>intro h5 hr
 refine bdE hr fun y2 hy2 hr=>J g<|J (CB' [] [] (q7S (m:=m) hy2))<|bdE hr fun y3 hy3 hr=>J g<|J (CB' [] [] (z3K (m:=m) hy3))<|e
 exact e
 refine fE 6 hr ?_ ?_<;>intro h6 hr
 refine bdE hr fun y4 hy4 hr=>J g<|J (CB' [] [] (k3h Ic17 (m:=m) hy4))<|e
 refine fE 6 hr ?_ ?_<;>intro h7 hr
 refine bdE hr fun y5 hy5 hr=>J g<|J (CB' [] [] (k3i Ic17 (m:=m) hy5))<|e
 refine fE 6 hr ?_ ?_<;>intro h8 hr
 refine bdE hr fun y6 hy6 hr=>J g<|J (CB' [] [] (q6h hy6))<|fE 1 hr ?_ ?_<;>intro h9 hr
 exact e
 exact e
 refine fE 6 hr ?_ ?_<;>intro h10 hr
 exact e
 refine fE 6 hr ?_ ?_<;>intro h11 hr
 refine fE 7 hr ?_ ?_<;>intro h12 hr
 refine bdE hr fun x1 hx1 hr=>bdE hr fun y7 hy7 hr=>J g<|J (CB' [] [] (Ic17 (m:=m) hy7))<|fE 3 hr ?_ ?_<;>intro h13 hr
 refine bdE hr fun y8 hy8 hr=>J g<|J (CB' [] [] (z3K (m:=m) hy8))<|e
 exact e
 exact e
 exact e
theorem j3k (n:Nat):∀ {m:Md} {a0:Gm_} {a1:Rule} {a2:Expr} {r:Int},z0A n a0 a1 a2=some r→Okp 201 [Gm_.y m a0,Rule.x m a1,Expr.x m a2] [] (dI r) []:=by
  induction n with
  | zero=>intro _ _ _ _ r hr;exact nomatch (show (none:Option Int)=some r from hr)
  | succ n ih=>intro _ _ _ _ r hr;exact j3j ih hr
theorem z5z {m:Md}{a0:Gm_}{a1:Rule}{a2:Expr}{r:Int}(hr:z2f a0 a1 a2=some r):Okp 201 [Gm_.y m a0,Rule.x m a1,Expr.x m a2] [] (dI r) []:=by
 obtain⟨n,hn⟩:=q6R hr
 exact j3k n hn
theorem j9j {m:Md}{a0:Gm_}{a1:Rule}{r:Bool}(hr:z5Y a0 a1=some r):Okp 177 [Gm_.y m a0,Rule.x m a1] [] (dB r) []:=by
 refine OE Tryz.func177 fun S hS=>?_
 unfold z5Y at hr
 refine J g<|J (BX' 0)<|J (BX' 1)<|J (gn 8)<|J (lenA 4 1)<|fun hl1=>bdE hr fun q1 hqq1 hr=>q0b hqq1 hl1 2 (fun k1 _=>[(2,.pb 0 0),(3,.pb 1 0),(5,dI (k1:Int))]) (fun k1 _=>[]) I (fun k1 xk1 sk1 ok1 hxk1 hr hltk1 hik1=>?_) fun k1 sk1 ek1 hltk1=>?_
 refine J g<|J (NV' 2)<|bdE hr fun y1 hy1 hr=>J g<|J (CB' [] [] (z5z (m:=m) hy1))<|bdE hr fun y2 hy2 hr=>J g<|J (CB' [] [] (q7S (m:=m) hy2))<|bdE hr fun y3 hy3 hr=>J g<|J (CB' [] [] (z3K (m:=m) hy3))<|fE 2 hr ?_ ?_<;>intro h1 hr
 exact e
 exact e
 subst ek1
 refine J (gn 17) ?_
 refine AW.len (.box 1 5 rfl rfl) fun hl2=>?_
 refine bdE hr fun q2 hqq2 hr=>q0b hqq2 hl2 2 (fun k2 _=>[(2,.pb 0 0),(3,.pb 1 0),(7,dI (k2:Int))]) (fun k2 _=>[]) I (fun k2 xk2 sk2 ok2 hxk2 hr hltk2 hik2=>?_) fun k2 sk2 ek2 hltk2=>?_
 refine J g<|J (NV' 2)<|bdP hr fun y4 y5 hq3 hr=>J g<|J (CB' [(0,3)] [] (q7T (m:=m) hq3))<|J g<|J (NV' 4)<|bdP hr fun y6 y7 hq4 hr=>J g<|J (CB' [] [3] (z0C (m:=.bo) hq4))<|J g<|J (NV' 5)<|bdE hr fun s1 hqq5 hr=>J (gn 7)<|q0a 5 [(2,.pb 0 0),(3,.pb 1 0),(7,dI (k2:Int)),(8,.pb 2 0),(73,dB s1)] ?_ ?_
 replace hr:=hqq5
 refine ifE hr ?_ ?_<;>intro h2 hr
 exact e
 exact e
 refine bdE hr fun s2 hqq6 hr=>q0a 8 [(2,.pb 0 0),(3,.pb 1 0),(7,dI (k2:Int)),(8,.pb 2 0),(81,dB s2)] ?_ ?_
 replace hr:=hqq6
 refine ifE hr ?_ ?_<;>intro h3 hr
 exact e
 refine bdE hr fun y8 hy8 hr=>J g<|J (CB' [] [] (z5z (m:=m) hy8))<|e
 refine bdE hr fun s3 hqq7 hr=>q0a 8 [(2,.pb 0 0),(3,.pb 1 0),(7,dI (k2:Int)),(89,dB s3)] ?_ ?_
 replace hr:=hqq7
 refine ifE hr ?_ ?_<;>intro h4 hr
 exact e
 refine bdE hr fun y9 hy9 hr=>J g<|J (CB' [] [] (z5z (m:=m) hy9))<|e
 refine fE 1 hr ?_ ?_<;>intro h5 hr
 exact e
 exact e
 subst ek2
 exact e
theorem z7O {m:Md}{a0:Gm_}{a1:BA_}{r:Int}(hr:z0B a0 a1=some r):Okp 48 [Gm_.y m a0,dS a1] [] (dI r) []:=by
 refine OE Tryz.func48 fun S hS=>?_
 unfold z0B at hr
 refine J g<|J (BX' 0)<|J (gn 8)<|J (lenA 0 0)<|fun hl1=>bdE hr fun q1 hqq1 hr=>q0b hqq1 hl1 1 (fun k1 _=>[(1,dS a1),(2,.pb 0 0),(5,dI (k1:Int))]) (fun k1 _=>[]) I (fun k1 xk1 sk1 ok1 hxk1 hr hltk1 hik1=>?_) fun k1 sk1 ek1 hltk1=>?_
 refine fE 24 hr ?_ ?_<;>intro h1 hr
 exact e
 exact e
 subst ek1
 exact e
theorem j4u {m:Md}{a0:Gm_}{a1:BA_}{a2:List Int}{r:Bool}(hr:z2g a0 a1 a2=some r):Okp 269 [Gm_.x m a0,dS a1,rw1 m a2] [] (dB r) []:=by
 refine OE Tryz.func269 fun S hS=>?_
 unfold z2g at hr
 refine J g<|J (BX' 0)<|J (gn 8)<|J (lenA 1 0)<|fun hl1=>bdE hr fun q1 hqq1 hr=>q0b hqq1 hl1 1 (fun k1 _=>[(1,dS a1),(2,rw1 m a2),(3,.pb 0 0),(7,dI (k1:Int))]) (fun k1 _=>[]) I (fun k1 xk1 sk1 ok1 hxk1 hr hltk1 hik1=>?_) fun k1 sk1 ek1 hltk1=>?_
 refine J g<|J (NV' 1)<|J (gn 16)<|J (lenA 2 23)<|fun hl2=>bdE hr fun s1 hqq2 hr=>q0e hqq2 hl2 2 (fun k2 s1=>[(1,dS a1),(2,rw1 m a2),(3,.pb 0 0),(7,dI (k1:Int)),(8,.pb 1 0),(9,dB s1),(10,dI (k2:Int))]) (fun k2 s1=>[]) I (fun k2 xk2 sk2 ok2 hxk2 hr hltk2=>?_) fun k2 hltk2=>?_
 obtain⟨s1,rfl⟩:∃ y,y=sk2:=⟨_,rfl⟩
 refine bdE hr fun y1 hy1 hr=>J g<|J (CB' [] [] (z7O (m:=m) hy1))<|bdE hr fun s2 hqq3 hr=>J (gn 4)<|q0a 4 [(1,dS a1),(2,rw1 m a2),(3,.pb 0 0),(7,dI (k1:Int)),(8,.pb 1 0),(9,dB s1),(10,dI (k2:Int)),(11,dI y1),(46,dB s2)] ?_ ?_
 replace hr:=hqq3
 refine ifE hr ?_ ?_<;>intro h1 hr
 exact e
 exact e
 refine bdE hr fun s3 hqq4 hr=>q0a 8 [(1,dS a1),(2,rw1 m a2),(3,.pb 0 0),(7,dI (k1:Int)),(8,.pb 1 0),(9,dB s1),(10,dI (k2:Int)),(54,dB s3)] ?_ ?_
 replace hr:=hqq4
 refine ifE hr ?_ ?_<;>intro h2 hr
 refine bdE hr fun y2 hy2 hr=>J g<|J (CB' [] [] (j0c hy2))<|ggE hr fun g1 hr=>bdE hr fun x1 hx1 hr=>e
 exact e
 exact e
 refine fE 15 hr ?_ ?_<;>intro h3 hr
 exact e
 exact e
 subst ek1
 exact e
theorem j4v {m:Md}{a0:Gm_}{r:List Int}(hr:z2h a0=some r):Okp 243 [Gm_.x m a0] [] (.ref 0 none) [.row .fz 1 (r.map (A.D.i .i64))]:=by
 refine OE Tryz.func243 fun S hS=>?_
 unfold z2h at hr
 refine J g<|J (BX' 0)<|ggE hr fun g1 hr=>J g<|J (MKR' 1 (f:=(A.D.i .i64)) (0:Int) g1.1 g1.2.1 g1.2.2)<|bdE hr fun s1 hqq1 hr=>J (gn 7)<|q0d 2 [(3,.ref 1 none)] [(1,.row .fz 1 (s1.map (A.D.i .i64)))] ?_ ?_
 refine J g<|q0i hqq1 2 (fun (s2,s3)=>[(1,.pb 0 0),(3,.ref 1 none),(4,dI s3)]) (fun (s2,s3)=>[(1,.row .fz 1 (s2.map (A.D.i .i64)))]) I fun sk1 ok1 hr hik1=>?_
 obtain⟨s2,s3⟩:=sk1
 have hr:=hr
 refine fE 9 hr ?_ ?_<;>intro h1 hr
 refine J g<|J (L0' 2 (A.D.i .i64))<|ggE hr fun g2 hr=>J g<|J (j7v (f:=(A.D.i .i64)) 3 8 (fun _=>rfl) g2)<|J (gn 8)<|J (lenT 13)<|fun hl2=>bdE hr fun s4 hqq2 hr=>q0e hqq2 hl2 4 (fun k2 s4=>[(1,.pb 0 0),(3,.ref 1 none),(4,dI s3),(5,.ref 3 none),(6,dI (k2:Int))]) (fun k2 s4=>[(2,.none),(3,.row .fz 1 (s4.map (A.D.i .i64)))]) I (fun k2 xk2 sk2 ok2 hxk2 hr hltk2=>?_) fun k2 hltk2=>?_
 obtain⟨s4,rfl⟩:∃ y,y=sk2:=⟨_,rfl⟩
 refine bdE hr fun s5 hqq3 hr=>J (gn 12)<|q0d 4 [(1,.pb 0 0),(3,.ref 1 none),(4,dI s3),(5,.ref 3 none),(6,dI (k2:Int))] [(3,.row .fz 1 (s5.map (A.D.i .i64)))] ?_ ?_
 replace hr:=hqq3
 refine bdE hr fun x1 hx1 hr=>fE 8 hr ?_ ?_<;>intro h2 hr
 refine bdE hr fun y1 hy1 hr=>J g<|J (CB' [] [1] (j4u (m:=.bo) hy1))<|fE 2 hr ?_ ?_<;>intro h3 hr
 refine bdE hr fun x2 hx2 hr=>J g<|J (SE' s3 hx2)<|e
 exact e
 exact e
 exact e
 refine ggE hr fun g3 hr=>e
 refine J (gn 2) ?_
 cases hr
 cases hik1 _ rfl
 exact q0g hS 2
 exact e
theorem j6c {m:Md}{a0:Gm_}{a1:BA_}{r:Int}(hr:z5l a0 a1=some r):Okp 203 [Gm_.x m a0,dS a1] [] (dI r) []:=by
 refine OE Tryz.func203 fun S hS=>?_
 unfold z5l at hr
 refine J g<|J (BX' 0)<|bdE hr fun y1 hy1 hr=>J g<|J (CB' [] [] (z7O (m:=m) hy1))<|fE 8 hr ?_ ?_<;>intro h1 hr
 exact e
 refine bdE hr fun y2 hy2 hr=>J g<|J (CB' [(0,1)] [] (j4v (m:=m) hy2))<|ggE hr fun g1 hr=>bdE hr fun x1 hx1 hr=>e
theorem j1L {m:Md}{a0:Gm_}{a1:BA_}{r:Bool}(hr:z0r a0 a1=some r):Okp 178 [Gm_.x m a0,dS a1] [] (dB r) []:=by
 refine OE Tryz.func178 fun S hS=>?_
 unfold z0r at hr
 refine J g<|J (BX' 0)<|bdE hr fun y1 hy1 hr=>J g<|J (CB' [] [] (j6c (m:=m) hy1))<|e
theorem j1M {m:Md}{a0:Gm_}{r:(Int×Int)}(hr:z0s a0=some r):Okp 146 [Gm_.x m a0] [] (.tu [dI r.1,dI r.2]) []:=by
 refine OE Tryz.func146 fun S hS=>?_
 unfold z0s at hr
 refine J g<|J (BX' 0)<|bdP hr fun y1 y2 hq1 hr=>J g<|J (CB' [] [] (j4t (m:=m) hq1))<|fE 12 hr ?_ ?_<;>intro h1 hr
 refine J (gn 8)<|J (lenA 1 0)<|fun hl1=>bdE hr fun q2 hqq2 hr=>q0b hqq2 hl1 1 (fun k1 _=>[(1,.pb 0 0),(6,dI (k1:Int))]) (fun k1 _=>[]) I (fun k1 xk1 sk1 ok1 hxk1 hr hltk1 hik1=>?_) fun k1 sk1 ek1 hltk1=>?_
 refine bdE hr fun y3 hy3 hr=>J g<|J (CB' [] [] (j9j (m:=m) hy3))<|fE 2 hr ?_ ?_<;>intro h2 hr
 exact e
 exact e
 subst ek1
 refine J (gn 17) ?_
 refine AW.len (.box 0 0 rfl rfl) fun hl2=>?_
 refine bdE hr fun q3 hqq3 hr=>q0b hqq3 hl2 1 (fun k2 _=>[(1,.pb 0 0),(7,dI (k2:Int))]) (fun k2 _=>[]) I (fun k2 xk2 sk2 ok2 hxk2 hr hltk2 hik2=>?_) fun k2 sk2 ek2 hltk2=>?_
 refine bdE hr fun y4 hy4 hr=>J g<|J (CB' [] [] (j1L (m:=m) hy4))<|fE 2 hr ?_ ?_<;>intro h3 hr
 exact e
 exact e
 subst ek2
 exact e
 exact e
theorem j9k {m:Md}{a0:Gm_}{r:Bool}(hr:z6a a0=some r):Okp 99 [Gm_.x m a0] [] (dB r) []:=by
 refine OE Tryz.func99 fun S hS=>?_
 unfold z6a at hr
 refine J g<|J (BX' 0)<|bdP hr fun y1 y2 hq1 hr=>J g<|J (CB' [] [] (j1M (m:=m) hq1))<|e
theorem j7L {m:Md}{a0:Gm_}{r:Bool}(hr:z4J a0=some r):Okp 44 [Gm_.x m a0] [] (dB r) []:=by
 refine OE Tryz.func44 fun S hS=>?_
 unfold z4J at hr
 refine J g<|J (BX' 0)<|J (gn 8)<|J (lenA 0 0)<|fun hl1=>bdE hr fun q1 hqq1 hr=>q0b hqq1 hl1 1 (fun k1 _=>[(1,.pb 0 0),(3,dI (k1:Int))]) (fun k1 _=>[]) I (fun k1 xk1 sk1 ok1 hxk1 hr hltk1 hik1=>?_) fun k1 sk1 ek1 hltk1=>?_
 refine J (gn 18) ?_
 refine AW.len (.el 1 (.tmp 9 rfl) hxk1 rfl) fun hl2=>?_
 refine bdE hr fun q2 hqq2 hr=>q0b hqq2 hl2 1 (fun k2 _=>[(1,.pb 0 0),(3,dI (k1:Int)),(4,dI (k2:Int))]) (fun k2 _=>[]) I (fun k2 xk2 sk2 ok2 hxk2 hr hltk2 hik2=>?_) fun k2 sk2 ek2 hltk2=>?_
 refine J g<|J (NV' 1)<|fE 6 hr ?_ ?_<;>intro h1 hr
 exact e
 refine fE 6 hr ?_ ?_<;>intro h2 hr
 exact e
 exact e
 subst ek2
 exact e
 subst ek1
 refine J (gn 17) ?_
 refine AW.len (.box 0 1 rfl rfl) fun hl3=>?_
 refine bdE hr fun q3 hqq3 hr=>q0b hqq3 hl3 1 (fun k3 _=>[(1,.pb 0 0),(6,dI (k3:Int))]) (fun k3 _=>[]) I (fun k3 xk3 sk3 ok3 hxk3 hr hltk3 hik3=>?_) fun k3 sk3 ek3 hltk3=>?_
 refine bdE hr fun y1 hy1 hr=>J g<|J (CB' [] [] (j5Z (m:=m) hy1))<|fE 1 hr ?_ ?_<;>intro h3 hr
 exact e
 exact e
 subst ek3
 refine bdE hr fun y2 hy2 hr=>J g<|J (CB' [] [] (j9k (m:=m) hy2))<|e
theorem z1q {m:Md}{a0:Gm_}{a1:BA_}{r:List At_}(hr:q5P a0 a1=some r):Okp 20 [Gm_.y m a0,dS a1] [] (.ref 0 none) [.row .fz 4 (r.map At_.D)]:=by
 refine OE Tryz.func20 fun S hS=>?_
 unfold q5P at hr
 refine J g<|J (BX' 0)<|J g<|J (L0' 1 At_.D)<|bdP hr fun y1 y2 hq1 hr=>J g<|J (CB' [(0,2)] [] (q7T (m:=m) hq1))<|J g<|J (NV' 3)<|J (gn 9)<|J (lenR 2)<|fun hl1=>bdE hr fun s1 hqq2 hr=>q0e hqq2 hl1 4 (fun k1 s1=>[(5,.ref 1 none),(6,.pb 3 0),(8,dI (k1:Int))]) (fun k1 s1=>[(1,.row .fz 4 (s1.map At_.D))]) I (fun k1 xk1 sk1 ok1 hxk1 hr hltk1=>?_) fun k1 hltk1=>?_
 obtain⟨s1,rfl⟩:∃ y,y=sk1:=⟨_,rfl⟩
 refine bdE hr fun s2 hqq3 hr=>J (gn 12)<|q0d 4 [(5,.ref 1 none),(6,.pb 3 0),(8,dI (k1:Int))] [(1,.row .fz 4 (s2.map At_.D))] ?_ ?_
 replace hr:=hqq3
 refine fE 10 hr ?_ ?_<;>intro h1 hr
 refine J g<|J (LIR' 4 (m:=.fz) (f:=At_.D) (xs:=[xk1]))<|ggE hr fun g1 hr=>J (z1D (f:=At_.D) 5 (fun _=>rfl) 40 g1)<|e
 refine fE 10 hr ?_ ?_<;>intro h2 hr
 refine J g<|J (LIR' 4 (m:=.fz) (f:=At_.D) (xs:=[xk1]))<|ggE hr fun g2 hr=>J (z1D (f:=At_.D) 5 (fun _=>rfl) 40 g2)<|e
 exact e
 exact e
 exact e
theorem z2J {a0:Int}{r:Rl_}(hr:q5D a0=some r):Okp 45 [dI a0] [] (.ag [dI r.N,.ref 0 none]) [.row .fz 1 (r.Rows.map (A.D.i .i64))]:=by
 refine OE Tryz.func45 fun S hS=>?_
 unfold q5D at hr
 refine J g<|J (NV' 0)<|bdE hr fun y1 hy1 hr=>J g<|J (CB' [] [] (q6h hy1))<|fE 2 hr ?_ ?_<;>intro h1 hr
 refine ggE hr fun g1 hr=>J g<|J (MKR' 1 (f:=(A.D.i .i64)) (0:Int) g1.1 g1.2.1 g1.2.2)<|e
 refine J (gn 7) ?_
 refine J (q0c (q0n (q:=0) (c:=1) (r:=1) .fz 1 rfl rfl rfl))<|J g<|E
theorem z6h {m:Md}{a0:Gm_}{a1:Rule}{r:List Oc}(hr:q6P a0 a1=some r):Okp 106 [Gm_.y m a0,Rule.x m a1] [] (.ref 0 none) [.row .fz 2 (r.map Oc.D)]:=by
 refine OE Tryz.func106 fun S hS=>?_
 unfold q6P at hr
 refine J g<|J (BX' 0)<|J (BX' 1)<|J g<|J (L0' 2 Oc.D)<|bdE hr fun s1 hqq1 hr=>J (gn 7)<|q0d 3 [(5,.ref 2 none)] [(2,.row .fz 2 (s1.map Oc.D))] ?_ ?_
 refine J g<|q0i hqq1 3 (fun (s2,s3)=>[(2,.pb 0 0),(3,.pb 1 0),(5,.ref 2 none),(6,dI s3)]) (fun (s2,s3)=>[(2,.row .fz 2 (s2.map Oc.D))]) I fun sk1 ok1 hr hik1=>?_
 obtain⟨s2,s3⟩:=sk1
 have hr:=hr
 refine fE 9 hr ?_ ?_<;>intro h1 hr
 refine bdE hr fun y1 hy1 hr=>J g<|J (CB' [] [] (q7S (m:=m) hy1))<|bdE hr fun y2 hy2 hr=>J (CB' [(0,3)] [] (z1q (m:=m) hy2))<|J (gn 7)<|J (lenR 3)<|fun hl2=>bdE hr fun s4 hqq2 hr=>q0e hqq2 hl2 4 (fun k2 s4=>[(2,.pb 0 0),(3,.pb 1 0),(5,.ref 2 none),(6,dI s3),(7,.ref 3 none),(8,dI (k2:Int))]) (fun k2 s4=>[(2,.row .fz 2 (s4.map Oc.D))]) I (fun k2 xk2 sk2 ok2 hxk2 hr hltk2=>?_) fun k2 hltk2=>?_
 obtain⟨s4,rfl⟩:∃ y,y=sk2:=⟨_,rfl⟩
 refine J g<|J (LIR' 4 (m:=.fz) (f:=Oc.D) (xs:=[(⟨s3,xk2.Name⟩:Oc)]))<|ggE hr fun g1 hr=>J (z1D (f:=Oc.D) 5 (fun _=>rfl) 24 g1)<|e
 refine ggE hr fun g2 hr=>e
 refine J (gn 2) ?_
 cases hr
 cases hik1 _ rfl
 exact GH.trans (q0D (q:=0) [rw3 m a0.ss_,.u] (.cons .rfl (.cons .u .nil)) rfl) (q0g hS 3)
 exact e
theorem z9d {m:Md}{a0:List Oc}{a1:Oc}{r:Int}(hr:q8J a0 a1=some r):Okp 147 [rw4 m a0,Oc.x .fz a1] [] (dI r) []:=by
 refine OE Tryz.func147 fun S hS=>?_
 unfold q8J at hr
 refine J g<|J (BX' 0)<|J (gn 8)<|J (lenT 0)<|fun hl1=>bdE hr fun q1 hqq1 hr=>q0b hqq1 hl1 1 (fun k1 _=>[(0,rw4 m a0),(3,.pb 0 0),(5,dI (k1:Int))]) (fun k1 _=>[]) I (fun k1 xk1 sk1 ok1 hxk1 hr hltk1 hik1=>?_) fun k1 sk1 ek1 hltk1=>?_
 refine J g ?_
 refine J (SQ' rfl rfl rfl rfl (q6B xk1 a1))<|fE 1 hr ?_ ?_<;>intro h1 hr
 exact e
 exact e
 subst ek1
 exact e
theorem z9e {m:Md}{a0 r:Rl_}(hr:q9X a0=some r):Okp 105 [Rl_.x m a0] [] (.ag [dI r.N,.ref 0 none]) [.row .fz 1 (r.Rows.map (A.D.i .i64))]:=by
 refine OE Tryz.func105 fun S hS=>?_
 unfold q9X at hr
 refine J g<|J (BX' 0)<|J (NV' 1)<|J g<|J (L0' 2 (A.D.i .i64))<|ggE hr fun g1 hr=>J g<|J (j7v (f:=(A.D.i .i64)) 3 8 (fun _=>rfl) g1)<|e
theorem q5X {m:Md}{a0:Rl_}{r:Bool}(hr:q4S a0=some r):Okp 54 [Rl_.x m a0] [] (dB r) []:=by
 refine OE Tryz.func54 fun S hS=>?_
 unfold q4S at hr
 refine J g<|J (BX' 0)<|bdE hr fun y1 hy1 hr=>J g<|J (CB' [] [] (q6h hy1))<|fE 1 hr ?_ ?_<;>intro h1 hr
 refine fE 9 hr ?_ ?_<;>intro h2 hr
 refine J (gn 8) ?_
 refine AW.rng (.ag 0 (.tmp 0 rfl) rfl) fun hl1=>?_
 refine bdE hr fun q1 hqq1 hr=>q0y hqq1 1 (fun k1 _=>[(1,.pb 0 0),(3,dI (k1:Int))]) (fun k1 _=>[]) I (fun k1 sk1 ok1 hr hltk1 hik1=>?_) fun sk1 ek1=>?_
 refine bdE hr fun x1 hx1 hr=>ggE hr fun g1 hr=>J g ?_
 refine J (CIU' g1 rfl)<|ggE hr fun g2 hr=>J (OB' _ (j7q g2))<|J (OB' _ (k2Q (p:=(2 ^ a0.N.toNat)) (k:=1) (by decide)))<|bdE hr fun y2 hy2 hr=>J (CB' [] [] (q6h hy2))<|fE 2 hr ?_ ?_<;>intro h3 hr
 exact e
 exact e
 subst ek1
 exact e
 exact e
 exact e
theorem j3l {m:Md}{a0:Rl_}{a1 a2:Int}{r:Rl_}(hr:q7W a0 a1 a2=some r):Okp 103 [Rl_.x m a0,dI a1,dI a2] [] (.ag [dI r.N,.ref 0 none]) [.row .fz 1 (r.Rows.map (A.D.i .i64))]:=by
 refine OE Tryz.func103 fun S hS=>?_
 unfold q7W at hr
 refine J g<|J (BX' 0)<|J (NV' 1)<|bdE hr fun y1 hy1 hr=>J g<|J (CB' [(0,2)] [] (z9e (m:=m) hy1))<|J (NV' 3)<|bdE hr fun y2 hy2 hr=>J g<|J (CB' [] [] (q5X (m:=m) hy2))<|bdE hr fun s1 hqq1 hr=>q0a 7 [(1,dI a1),(2,dI a2),(3,.pb 0 0),(6,.pb 1 0),(7,.pb 3 0),(18,dB s1)] ?_ ?_
 replace hr:=hqq1
 refine ifE hr ?_ ?_<;>intro h1 hr
 refine ggE hr fun g1 hr=>bdE hr fun y3 hy3 hr=>J g<|J (CB' [] [] (q6h hy3))<|e
 exact e
 refine bdE hr fun s2 hqq2 hr=>q0a 7 [(1,dI a1),(2,dI a2),(6,.pb 1 0),(7,.pb 3 0),(25,dB s2)] ?_ ?_
 replace hr:=hqq2
 refine ifE hr ?_ ?_<;>intro h2 hr
 refine ggE hr fun g2 hr=>bdE hr fun y4 hy4 hr=>J g<|J (CB' [] [] (q6h hy4))<|e
 exact e
 refine fE 1 hr ?_ ?_<;>intro h3 hr
 refine ggE hr fun g3 hr=>bdE hr fun x1 hx1 hr=>ggE hr fun g4 hr=>J g ?_
 refine J (CIU' g4 rfl)<|ggE hr fun g5 hr=>J (OB' _ (j7q g5))<|ggE hr fun g6 hr=>J (OB' _ (bOrI g6))<|J g<|J (SE' ((x1.toNat ||| ((2 ^ a2.toNat:Nat):Int).toNat:Nat):Int) hx1)<|J g<|E
 exact e
theorem j0M {m:Md}{a0:Gm_}{a1:Rule}{r:Rl_}(hr:q7y a0 a1=some r):Okp 100 [Gm_.y m a0,Rule.x m a1] [] (.ag [dI r.N,.ref 0 none]) [.row .fz 1 (r.Rows.map (A.D.i .i64))]:=by
 refine OE Tryz.func100 fun S hS=>?_
 unfold q7y at hr
 refine J g<|J (BX' 0)<|J (BX' 1)<|J (NV' 2)<|bdE hr fun y1 hy1 hr=>J g<|J (CB' [(0,3)] [] (z6h (m:=m) hy1))<|bdE hr fun y2 hy2 hr=>J g<|J (CB' [(0,4)] [] (z2J hy2))<|J (NV' 5)<|bdP hr fun s1 s2 hqq1 hr=>J (gn 7)<|q0d 6 [(4,.pb 2 0),(6,.pb 5 0)] [(4,.row .fz 1 (s1.map (A.D.i .i64))),(5,.box [dI s2,.ref 4 none])] ?_ ?_
 refine J g<|q0i hqq1 6 (fun (s3,s4,s5)=>[(3,.pb 1 0),(4,.pb 2 0),(5,.ref 3 none),(6,.pb 5 0),(7,dI s3)]) (fun (s3,s4,s5)=>[(4,.row .fz 1 (s4.map (A.D.i .i64))),(5,.box [dI s5,.ref 4 none])]) I fun sk1 ok1 hr hik1=>?_
 obtain⟨s3,s4,s5⟩:=sk1
 have hr:=hr
 refine fE 7 hr ?_ ?_<;>intro h1 hr
 refine fE 6 hr ?_ ?_<;>intro h2 hr
 refine bdP hr fun s6 s7 hqq2 hr=>J (gn 3)<|q0d 6 [(3,.pb 1 0),(4,.pb 2 0),(5,.ref 3 none),(6,.pb 5 0),(7,dI s3),(23,.pb 5 0),(24,dI s5),(25,dB (decide (0<s5)))] [(4,.row .fz 1 (s6.map (A.D.i .i64))),(5,.box [dI s7,.ref 4 none])] ?_ ?_
 replace hr:=hqq2
 refine ggE hr fun g1 hr=>bdE hr fun x1 hx1 hr=>bdP hr fun y3 y4 hq3 hr=>J g<|J (CB' [(0,6)] [] (z3J (m:=m) hq3))<|J g<|J (NV' 7)<|fE 9 hr ?_ ?_<;>intro h3 hr
 refine J (gn 5) ?_
 refine J (q0p 6 rfl)<|bdE hr fun y5 hy5 hr=>J (CB' [] [] (z2I (m:=.fz) hy5))<|J (gn 7)<|J (lenT 10)<|fun hl2=>bdP hr fun s8 s9 hqq4 hr=>q0e hqq4 hl2 8 (fun k2 (s8,s9)=>[(3,.pb 1 0),(4,.pb 2 0),(5,.ref 3 none),(6,.pb 5 0),(7,dI s3),(10,rw4 .fz y5),(11,dI (k2:Int)),(23,.pb 5 0),(24,dI s5),(25,dB (decide (0<s5)))]) (fun k2 (s8,s9)=>[(4,.row .fz 1 (s8.map (A.D.i .i64))),(5,.box [dI s9,.ref 4 none]),(6,.none)]) I (fun k2 xk2 sk2 ok2 hxk2 hr hltk2=>?_) fun k2 hltk2=>?_
 obtain⟨s8,s9⟩:=sk2
 refine bdE hr fun y6 hy6 hr=>J g<|J (CB' [] [3] (z9d (m:=.bo) hy6))<|bdE hr fun y7 hy7 hr=>J g<|J (CB' [(0,8)] [4] (j3l (m:=.bo) hy7))<|e
 exact e
 exact e
 refine ggE hr fun g2 hr=>e
 refine J (gn 2) ?_
 cases hr
 cases hik1 _ rfl
 exact GH.trans (q0D (q:=0) [rw3 m a0.ss_,.u] (.cons .rfl (.cons .u .nil)) rfl) (q0g hS 6)
 refine J (gn 8) ?_
 cases hr
 cases hik1 _ rfl
 exact GH.trans (q0D (q:=0) [rw3 m a0.ss_,.u] (.cons .rfl (.cons .u .nil)) rfl) (q0g hS 6)
 exact e
theorem z4N {m:Md}{a0:Gm_}{a1:Rule}{a2:Int}{r:List Int}(hr:q7n a0 a1 a2=some r):Okp 52 [Gm_.y m a0,Rule.x m a1,dI a2] [] (.ref 0 none) [.row .fz 1 (r.map (A.D.i .i64))]:=by
 refine OE Tryz.func52 fun S hS=>?_
 unfold q7n at hr
 refine J g<|J (BX' 0)<|J (BX' 1)<|J g<|J (L0' 2 (A.D.i .i64))<|bdE hr fun y1 hy1 hr=>J g<|J (CB' [(0,3)] [] (z6h (m:=m) hy1))<|J (gn 8)<|J (lenR 3)<|fun hl1=>bdE hr fun s1 hqq1 hr=>q0e hqq1 hl1 4 (fun k1 s1=>[(2,dI a2),(7,.ref 2 none),(8,.ref 3 none),(9,dI (k1:Int))]) (fun k1 s1=>[(2,.row .fz 1 (s1.map (A.D.i .i64)))]) I (fun k1 xk1 sk1 ok1 hxk1 hr hltk1=>?_) fun k1 hltk1=>?_
 obtain⟨s1,rfl⟩:∃ y,y=sk1:=⟨_,rfl⟩
 refine bdE hr fun s2 hqq2 hr=>J (gn 11)<|q0d 4 [(2,dI a2),(7,.ref 2 none),(8,.ref 3 none),(9,dI (k1:Int))] [(2,.row .fz 1 (s2.map (A.D.i .i64)))] ?_ ?_
 replace hr:=hqq2
 refine fE 11 hr ?_ ?_<;>intro h1 hr
 refine J g<|J (LIR' 4 (m:=.fz) (f:=(A.D.i .i64)) (xs:=([(k1:Int)]:List Int)))<|ggE hr fun g1 hr=>J (z1D (f:=(A.D.i .i64)) 5 (fun _=>rfl) 8 g1)<|e
 exact e
 exact e
 exact e
theorem z6H {m:Md}{a0:Rl_}{a1 a2:Int}{r:Bool}(hr:q8A a0 a1 a2=some r):Okp 102 [Rl_.x m a0,dI a1,dI a2] [] (dB r) []:=by
 refine OE Tryz.func102 fun S hS=>?_
 unfold q8A at hr
 refine J g<|J (BX' 0)<|bdE hr fun y1 hy1 hr=>J g<|J (CB' [] [] (q5X (m:=m) hy1))<|bdE hr fun s1 hqq1 hr=>q0a 7 [(1,dI a1),(2,dI a2),(3,.pb 0 0),(6,dB false),(15,dB s1)] ?_ ?_
 replace hr:=hqq1
 refine ifE hr ?_ ?_<;>intro h1 hr
 refine ggE hr fun g1 hr=>bdE hr fun y2 hy2 hr=>J g<|J (CB' [] [] (q6h hy2))<|e
 exact e
 refine bdE hr fun s2 hqq2 hr=>q0a 7 [(1,dI a1),(2,dI a2),(3,.pb 0 0),(6,dB false),(22,dB s2)] ?_ ?_
 replace hr:=hqq2
 refine ifE hr ?_ ?_<;>intro h2 hr
 refine ggE hr fun g2 hr=>bdE hr fun y3 hy3 hr=>J g<|J (CB' [] [] (q6h hy3))<|e
 exact e
 refine bdE hr fun s3 hqq3 hr=>q0a 12 [(6,dB false),(34,dB s3)] ?_ ?_
 replace hr:=hqq3
 refine ifE hr ?_ ?_<;>intro h3 hr
 refine ggE hr fun g3 hr=>bdE hr fun x1 hx1 hr=>ggE hr fun g4 hr=>J g ?_
 refine J (CIU' g4 rfl)<|ggE hr fun g5 hr=>J (OB' _ (k5n g5))<|ggE hr fun g6 hr=>J (OB' _ (k5o g6))<|J g<|E
 exact e
 exact e
theorem z6i {m:Md}{a0 r:Rl_}(hr:q8B a0=some r):Okp 104 [Rl_.x m a0] [] (.ag [dI r.N,.ref 0 none]) [.row .fz 1 (r.Rows.map (A.D.i .i64))]:=by
 refine OE Tryz.func104 fun S hS=>?_
 unfold q8B at hr
 refine J g<|J (BX' 0)<|J (NV' 1)<|bdE hr fun y1 hy1 hr=>J g<|J (CB' [(0,2)] [] (z9e (m:=m) hy1))<|J (NV' 3)<|bdE hr fun y2 hy2 hr=>J g<|J (CB' [] [] (q5X (m:=m) hy2))<|fE 2 hr ?_ ?_<;>intro h1 hr
 refine J (gn 8) ?_
 refine AW.rng (.ag 0 (.tmp 0 rfl) rfl) fun hl1=>?_
 refine bdE hr fun s1 hqq1 hr=>q0l hqq1 4 (fun k1 s1=>[(1,.pb 0 0),(2,.pb 1 0),(3,.pb 3 0),(4,dI (k1:Int))]) (fun k1 s1=>[(2,.row .fz 1 (s1.map (A.D.i .i64)))]) I (fun k1 sk1 ok1 hr hltk1=>?_) ?_
 obtain⟨s1,rfl⟩:∃ y,y=sk1:=⟨_,rfl⟩
 refine J (gn 17)<|J (rngT 14)<|fun hl2=>bdE hr fun s2 hqq2 hr=>q0l hqq2 4 (fun k2 s2=>[(1,.pb 0 0),(2,.pb 1 0),(3,.pb 3 0),(4,dI (k1:Int)),(5,dI (k2:Int))]) (fun k2 s2=>[(2,.row .fz 1 (s2.map (A.D.i .i64)))]) I (fun k2 sk2 ok2 hr hltk2=>?_) ?_
 obtain⟨s2,rfl⟩:∃ y,y=sk2:=⟨_,rfl⟩
 refine bdE hr fun s3 hqq3 hr=>J (gn 11)<|q0d 4 [(1,.pb 0 0),(2,.pb 1 0),(3,.pb 3 0),(4,dI (k1:Int)),(5,dI (k2:Int))] [(2,.row .fz 1 (s3.map (A.D.i .i64)))] ?_ ?_
 replace hr:=hqq3
 refine bdE hr fun x1 hx1 hr=>J g ?_
 refine J (CIU' (Dpz _) rfl)<|ggE hr fun g1 hr=>J (OB' _ (k5n g1))<|ggE hr fun g2 hr=>J (OB' _ (k5o g2))<|fE 2 hr ?_ ?_<;>intro h2 hr
 refine bdE hr fun x2 hx2 hr=>ggE hr fun g3 hr=>J g<|J (OB' _ (bOrI g3))<|J g<|J (SE' ((x1.toNat ||| x2.toNat:Nat):Int) hx1)<|e
 exact e
 exact e
 exact e
 exact e
 exact e
theorem j9l {m:Md}{a0:Gm_}{a1:Rule}{a2:List Rl_}{r:Rl_}(hr:z6c a0 a1 a2=some r):Okp 46 [Gm_.y m a0,Rule.x m a1,rw11 m a2] [] (.ag [dI r.N,.ref 0 none]) [.row .fz 1 (r.Rows.map (A.D.i .i64))]:=by
 refine OE Tryz.func46 fun S hS=>?_
 unfold z6c at hr
 refine J g<|J (BX' 0)<|J (BX' 1)<|J (NV' 2)<|bdE hr fun y1 hy1 hr=>J g<|J (CB' [(0,3)] [] (j0M (m:=m) hy1))<|J (NV' 4)<|bdP hr fun s1 s2 hqq1 hr=>J (gn 7)<|q0d 5 [(6,.pb 2 0),(7,.pb 4 0)] [(3,.row .fz 1 (s1.map (A.D.i .i64))),(4,.box [dI s2,.ref 3 none])] ?_ ?_
 refine J g<|q0i hqq1 5 (fun (s3,s4,s5)=>[(2,rw11 m a2),(3,.pb 0 0),(4,.pb 1 0),(6,.pb 2 0),(7,.pb 4 0),(8,dI s3)]) (fun (s3,s4,s5)=>[(3,.row .fz 1 (s4.map (A.D.i .i64))),(4,.box [dI s5,.ref 3 none])]) I fun sk1 ok1 hr hik1=>?_
 obtain⟨s3,s4,s5⟩:=sk1
 have hr:=hr
 refine fE 9 hr ?_ ?_<;>intro h1 hr
 refine bdE hr fun y2 hy2 hr=>J g<|J (CB' [(0,5)] [] (z4N (m:=m) hy2))<|bdE hr fun y3 hy3 hr=>J g<|J (CB' [] [] (q7S (m:=m) hy3))<|bdE hr fun y4 hy4 hr=>J (CB' [] [] (z7O (m:=m) hy4))<|bdE hr fun y5 hy5 hr=>J (CB' [] [] (j0c hy5))<|ggE hr fun g1 hr=>bdE hr fun x1 hx1 hr=>J g<|J (NV' 6)<|J (gn 7)<|J (lenR 5)<|fun hl2=>bdP hr fun s6 s7 hqq2 hr=>q0e hqq2 hl2 7 (fun k2 (s6,s7)=>[(2,rw11 m a2),(3,.pb 0 0),(4,.pb 1 0),(6,.pb 2 0),(7,.pb 4 0),(8,dI s3),(9,.ref 5 none),(10,.pb 6 0),(11,dI (k2:Int))]) (fun k2 (s6,s7)=>[(3,.row .fz 1 (s6.map (A.D.i .i64))),(4,.box [dI s7,.ref 3 none])]) I (fun k2 xk2 sk2 ok2 hxk2 hr hltk2=>?_) fun k2 hltk2=>?_
 obtain⟨s6,s7⟩:=sk2
 refine J (gn 17)<|J (lenR 5)<|fun hl3=>bdP hr fun s8 s9 hqq3 hr=>q0e hqq3 hl3 7 (fun k3 (s8,s9)=>[(2,rw11 m a2),(3,.pb 0 0),(4,.pb 1 0),(6,.pb 2 0),(7,.pb 4 0),(8,dI s3),(9,.ref 5 none),(10,.pb 6 0),(11,dI (k2:Int)),(12,dI (k3:Int))]) (fun k3 (s8,s9)=>[(3,.row .fz 1 (s8.map (A.D.i .i64))),(4,.box [dI s9,.ref 3 none])]) I (fun k3 xk3 sk3 ok3 hxk3 hr hltk3=>?_) fun k3 hltk3=>?_
 obtain⟨s8,s9⟩:=sk3
 refine bdP hr fun s10 s11 hqq4 hr=>J (gn 11)<|q0d 7 [(2,rw11 m a2),(3,.pb 0 0),(4,.pb 1 0),(6,.pb 2 0),(7,.pb 4 0),(8,dI s3),(9,.ref 5 none),(10,.pb 6 0),(11,dI (k2:Int)),(12,dI (k3:Int))] [(3,.row .fz 1 (s10.map (A.D.i .i64))),(4,.box [dI s11,.ref 3 none])] ?_ ?_
 replace hr:=hqq4
 refine bdE hr fun y6 hy6 hr=>J g<|J (CB' [] [] (z6H (m:=m) hy6))<|fE 1 hr ?_ ?_<;>intro h2 hr
 refine bdE hr fun y7 hy7 hr=>J g<|J (CB' [(0,7)] [3] (j3l (m:=.bo) hy7))<|e
 exact e
 exact e
 exact e
 refine ggE hr fun g2 hr=>e
 refine J (gn 2) ?_
 cases hr
 cases hik1 _ rfl
 exact GH.trans (q0D (q:=0) [rw3 m a0.ss_,.u] (.cons .rfl (.cons .u .nil)) rfl) (q0g hS 5)
 refine bdE hr fun y8 hy8 hr=>J g<|J (CB' [(0,5)] [3] (z6i (m:=.bo) hy8))<|e
theorem j3m {m:Md}{a0:Rl_}{r:Bool}(hr:z1y a0=some r):Okp 47 [Rl_.x m a0] [] (dB r) []:=by
 refine OE Tryz.func47 fun S hS=>?_
 unfold z1y at hr
 refine J g<|J (BX' 0)<|bdE hr fun y1 hy1 hr=>J g<|J (CB' [] [] (q5X (m:=m) hy1))<|fE 2 hr ?_ ?_<;>intro h1 hr
 refine bdE hr fun y2 hy2 hr=>J g<|J (CB' [(0,1)] [] (z6i (m:=m) hy2))<|J (NV' 2)<|J (gn 8) ?_
 refine AW.rng (.ag 0 (.tmp 0 rfl) rfl) fun hl1=>?_
 refine bdE hr fun q1 hqq1 hr=>q0y hqq1 3 (fun k1 _=>[(1,.pb 0 0),(3,.pb 2 0),(4,dI (k1:Int))]) (fun k1 _=>[]) I (fun k1 sk1 ok1 hr hltk1 hik1=>?_) fun sk1 ek1=>?_
 refine bdE hr fun y3 hy3 hr=>J g<|J (CB' [] [1] (z6H (m:=.bo) hy3))<|fE 1 hr ?_ ?_<;>intro h2 hr
 exact e
 exact e
 subst ek1
 exact e
 exact e
theorem z9f {m:Md}{a0:Rl_}{a1:List Int}{r:Rl_}(hr:q5Q a0 a1=some r):Okp 51 [Rl_.x m a0,rw1 m a1] [] (.ag [dI r.N,.ref 0 none]) [.row .fz 1 (r.Rows.map (A.D.i .i64))]:=by
 refine OE Tryz.func51 fun S hS=>?_
 unfold q5Q at hr
 refine J g<|J (BX' 0)<|J (NV' 1)<|bdE hr fun y1 hy1 hr=>J g<|J (CB' [] [] (q5X (m:=m) hy1))<|fE 1 hr ?_ ?_<;>intro h1 hr
 refine fE 6 hr ?_ ?_<;>intro h2 hr
 refine J (gn 7) ?_
 refine J (q0c (q0n (q:=1) (c:=1) (r:=2) .fz 1 rfl rfl rfl))<|J g<|E
 refine bdE hr fun y2 hy2 hr=>J g<|J (CB' [(0,2)] [] (z2J hy2))<|J (NV' 3)<|J (gn 8)<|J (lenT 1)<|fun hl1=>bdE hr fun s1 hqq1 hr=>q0e hqq1 hl1 4 (fun k1 s1=>[(1,rw1 m a1),(2,.pb 0 0),(4,.pb 1 0),(5,.pb 3 0),(6,dI (k1:Int))]) (fun k1 s1=>[(2,.row .fz 1 (s1.map (A.D.i .i64)))]) I (fun k1 xk1 sk1 ok1 hxk1 hr hltk1=>?_) fun k1 hltk1=>?_
 obtain⟨s1,rfl⟩:∃ y,y=sk1:=⟨_,rfl⟩
 refine J (gn 17)<|J (lenT 1)<|fun hl2=>bdE hr fun s2 hqq2 hr=>q0e hqq2 hl2 4 (fun k2 s2=>[(1,rw1 m a1),(2,.pb 0 0),(4,.pb 1 0),(5,.pb 3 0),(6,dI (k1:Int)),(7,dI (k2:Int))]) (fun k2 s2=>[(2,.row .fz 1 (s2.map (A.D.i .i64)))]) I (fun k2 xk2 sk2 ok2 hxk2 hr hltk2=>?_) fun k2 hltk2=>?_
 obtain⟨s2,rfl⟩:∃ y,y=sk2:=⟨_,rfl⟩
 refine bdE hr fun s3 hqq3 hr=>J (gn 11)<|q0d 4 [(1,rw1 m a1),(2,.pb 0 0),(4,.pb 1 0),(5,.pb 3 0),(6,dI (k1:Int)),(7,dI (k2:Int))] [(2,.row .fz 1 (s3.map (A.D.i .i64)))] ?_ ?_
 replace hr:=hqq3
 refine bdE hr fun y3 hy3 hr=>J g<|J (CB' [] [] (z6H (m:=m) hy3))<|fE 1 hr ?_ ?_<;>intro h3 hr
 refine bdE hr fun x1 hx1 hr=>J g ?_
 refine J (CIU' (Dpz _) rfl)<|ggE hr fun g1 hr=>J (OB' _ (j7q g1))<|ggE hr fun g2 hr=>J (OB' _ (bOrI g2))<|J g<|J (SE' ((x1.toNat ||| ((2 ^ (k2:Int).toNat:Nat):Int).toNat:Nat):Int) hx1)<|J g<|E
 exact e
 exact e
 exact e
 exact e
 refine J (gn 13) ?_
 refine J (q0c (q0n (q:=1) (c:=1) (r:=2) .fz 1 rfl rfl rfl))<|J g<|E
theorem j0N {m:Md}{a0 a1 r:Rl_}(hr:q9Q a0 a1=some r):Okp 50 [Rl_.x m a0,Rl_.x m a1] [] (.ag [dI r.N,.ref 0 none]) [.row .fz 1 (r.Rows.map (A.D.i .i64))]:=by
 refine OE Tryz.func50 fun S hS=>?_
 unfold q9Q at hr
 refine J g<|J (BX' 0)<|J (BX' 1)<|J (NV' 2)<|bdE hr fun y1 hy1 hr=>J g<|J (CB' [(0,3)] [] (z9e (m:=m) hy1))<|J (NV' 4)<|bdE hr fun y2 hy2 hr=>J g<|J (CB' [] [] (q5X (m:=m) hy2))<|bdE hr fun s1 hqq1 hr=>J (gn 1)<|q0a 5 [(2,.pb 0 0),(3,.pb 1 0),(4,.pb 2 0),(5,.pb 4 0),(16,dB s1)] ?_ ?_
 replace hr:=hqq1
 refine ifE hr ?_ ?_<;>intro h1 hr
 refine bdE hr fun y3 hy3 hr=>J g<|J (CB' [] [] (q5X (m:=m) hy3))<|e
 exact e
 refine bdE hr fun s2 hqq2 hr=>q0a 7 [(2,.pb 0 0),(3,.pb 1 0),(4,.pb 2 0),(5,.pb 4 0),(23,dB s2)] ?_ ?_
 replace hr:=hqq2
 refine ifE hr ?_ ?_<;>intro h2 hr
 exact e
 exact e
 refine fE 1 hr ?_ ?_<;>intro h3 hr
 exact e
 refine J (gn 8) ?_
 refine AW.rng (.box 0 0 rfl rfl) fun hl1=>?_
 refine bdE hr fun s3 hqq3 hr=>q0l hqq3 5 (fun k1 s3=>[(2,.pb 0 0),(3,.pb 1 0),(4,.pb 2 0),(5,.pb 4 0),(6,dI (k1:Int))]) (fun k1 s3=>[(3,.row .fz 1 (s3.map (A.D.i .i64)))]) I (fun k1 sk1 ok1 hr hltk1=>?_) ?_
 obtain⟨s3,rfl⟩:∃ y,y=sk1:=⟨_,rfl⟩
 refine bdE hr fun x1 hx1 hr=>bdE hr fun x2 hx2 hr=>ggE hr fun g1 hr=>J g<|J (OB' _ (bOrI g1))<|J g<|J (SE' ((x1.toNat ||| x2.toNat:Nat):Int) hx1)<|e
 exact e
theorem k1K {m:Md}{a0 a1:List Int}{r:Bool}(hr:z9Y a0 a1=some r):Okp 107 [rw1 m a0,rw1 m a1] [] (dB r) []:=by
 refine OE Tryz.func107 fun S hS=>?_
 unfold z9Y at hr
 refine fE 13 hr ?_ ?_<;>intro h1 hr
 refine J (gn 8)<|J (lenT 0)<|fun hl1=>bdE hr fun q1 hqq1 hr=>q0b hqq1 hl1 0 (fun k1 _=>[(0,rw1 m a0),(1,rw1 m a1),(5,dI (k1:Int))]) (fun k1 _=>[]) I (fun k1 xk1 sk1 ok1 hxk1 hr hltk1 hik1=>?_) fun k1 sk1 ek1 hltk1=>?_
 refine bdE hr fun x1 hx1 hr=>fE 24 hr ?_ ?_<;>intro h2 hr
 exact e
 exact e
 subst ek1
 exact e
 exact e
theorem j0O {m:Md}{a0 a1:Rl_}{r:Bool}(hr:q9R a0 a1=some r):Okp 53 [Rl_.x m a0,Rl_.x m a1] [] (dB r) []:=by
 refine OE Tryz.func53 fun S hS=>?_
 unfold q9R at hr
 refine J g<|J (BX' 0)<|J (BX' 1)<|fE 9 hr ?_ ?_<;>intro h1 hr
 refine bdE hr fun y1 hy1 hr=>J g<|J (CB' [] [] (k1K (m:=m) hy1))<|e
 exact e
theorem z8D {m:Md}{a0:Gm_}{r:((List Rl_)×Bool)}(hr:q8p a0=some r):Okp 18 [Gm_.x m a0] [] (.tu [.ref 0 none,dB r.2]) [.row .fz 2 (r.1.map Rl_.D)]:=by
 refine OE Tryz.func18 fun S hS=>?_
 unfold q8p at hr
 refine J g<|J (BX' 0)<|bdE hr fun y1 hy1 hr=>J g<|J (CB' [] [] (j7L (m:=m) hy1))<|fE 2 hr ?_ ?_<;>intro h1 hr
 refine J g<|J (L0' 1 Rl_.D)<|J (gn 8)<|J (lenA 0 0)<|fun hl1=>bdE hr fun s1 hqq1 hr=>q0e hqq1 hl1 2 (fun k1 s1=>[(1,.pb 0 0),(4,.ref 1 none),(5,dI (k1:Int))]) (fun k1 s1=>[(1,.row .fz 2 (s1.map Rl_.D))]) I (fun k1 xk1 sk1 ok1 hxk1 hr hltk1=>?_) fun k1 hltk1=>?_
 obtain⟨s1,rfl⟩:∃ y,y=sk1:=⟨_,rfl⟩
 refine bdE hr fun y2 hy2 hr=>J g<|J (CB' [(0,2)] [] (z1q (m:=m) hy2))<|bdE hr fun y3 hy3 hr=>J g<|J (CBz' 3 [(0,3)] [] (z2J hy3))<|J (LIR' 4 (m:=.fz) (f:=Rl_.D) (xs:=[y3]))<|ggE hr fun g1 hr=>J (AP1' 5 .fz 32 g1)<|J (q0I .refl)<|e
 refine bdE hr fun q2 hqq2 hr=>J g<|q0i hqq2 2 (fun s2=>[(1,.pb 0 0),(4,.ref 1 none)]) (fun s2=>[(1,.row .fz 2 (s2.map Rl_.D))]) I fun sk2 ok2 hr hik2=>?_
 obtain⟨s2,rfl⟩:∃ y,y=sk2:=⟨_,rfl⟩
 refine J (gn 11) ?_
 refine AW.len (.box 0 1 rfl rfl) fun hl3=>?_
 refine bdE hr fun q3 hqq3 hr=>q0b hqq3 hl3 2 (fun k3 (s3,s4)=>[(1,.pb 0 0),(4,.ref 1 none),(6,dB s4),(7,dI (k3:Int))]) (fun k3 (s3,s4)=>[(1,.row .fz 2 (s3.map Rl_.D))]) I (fun k3 xk3 sk3 ok3 hxk3 hr hltk3 hik3=>?_) fun k3 sk3 ek3 hltk3=>?_
 obtain⟨s3,s4⟩:=sk3
 refine J g<|J (NV' 2)<|bdE hr fun y4 hy4 hr=>J g<|J (CB' [(0,3)] [1] (j9l (m:=.bo) hy4))<|J (NV' 4)<|bdE hr fun y5 hy5 hr=>J g<|J (CB' [] [3] (j3m (m:=.bo) hy5))<|fE 1 hr ?_ ?_<;>intro h2 hr
 refine J g<|J (L0' 5 Rl_.D)<|e
 refine bdP hr fun s5 s6 hqq4 hr=>J (gn 6)<|q0d 5 [(1,.pb 0 0),(4,.ref 1 none),(6,dB s6),(7,dI (k3:Int))] [(1,.row .fz 2 (s5.map Rl_.D))] ?_ ?_
 refine J g<|q0i hqq4 5 (fun (s7,s8,s9)=>[(1,.pb 0 0),(4,.ref 1 none),(6,dB s8),(7,dI (k3:Int)),(8,.pb 2 0),(9,.pb 4 0),(10,dI s9)]) (fun (s7,s8,s9)=>[(1,.row .fz 2 (s7.map Rl_.D))]) I fun sk4 ok4 hr hik4=>?_
 obtain⟨s7,s8,s9⟩:=sk4
 have hr:=hr
 refine fE 9 hr ?_ ?_<;>intro h3 hr
 refine bdP hr fun s10 s11 hqq5 hr=>J (gn 3)<|q0d 5 [(1,.pb 0 0),(4,.ref 1 none),(6,dB s10),(7,dI (k3:Int)),(8,.pb 2 0),(9,.pb 4 0),(10,dI s9)] [(1,.row .fz 2 (s11.map Rl_.D))] ?_ ?_
 replace hr:=hqq5
 refine bdE hr fun y6 hy6 hr=>J g<|J (CB' [] [] (q7S (m:=m) hy6))<|bdE hr fun y7 hy7 hr=>J (CB' [] [] (z7O (m:=m) hy7))<|ggE hr fun g2 hr=>bdE hr fun x1 hx1 hr=>bdE hr fun y8 hy8 hr=>J g<|J (CB' [(0,5)] [] (z4N (m:=m) hy8))<|bdE hr fun y9 hy9 hr=>J (CB' [(0,6)] [3,5] (z9f (m:=.bo) hy9))<|bdE hr fun y10 hy10 hr=>J (CB' [(0,7)] [6] (j0N (m:=.bo) hy10))<|J (NV' 8)<|fE 5 hr ?_ ?_<;>intro h4 hr
 refine J (gn 9)<|J (q0I .refl)<|J (gn 7) ?_
 refine J (q0p 7 rfl)<|J (SE' y10 hx1)<|J g<|E
 refine bdE hr fun y11 hy11 hr=>J g<|J (CB' [] [7] (j0O (m:=.bo) hy11))<|J (gn 2)<|J (q0I .refl)<|J (gn 7) ?_
 refine J (q0p 7 rfl)<|J (SE' y10 hx1)<|J g<|E
 refine ggE hr fun g3 hr=>e
 refine J (gn 2) ?_
 cases hr
 cases hik4 _ rfl
 exact q0g hS 5
 exact e
 subst ek3
 obtain⟨s3,s4⟩:=sk3
 refine fE 16 hr ?_ ?_<;>intro h5 hr
 exact e
 exact e
 refine J g<|J (L0' 1 Rl_.D)<|e
theorem j7M {m:Md}{a0:Rl_}{a1:List Bool}{a2:Int}{r:Bool}(hr:z2B a0 a1 a2=some r):Okp 108 [Rl_.x m a0,.d m (.sl 1 (a1.map A.D.b)),dI a2] [] (dB r) []:=by
 refine OE Tryz.func108 fun S hS=>?_
 unfold z2B at hr
 refine J g<|J (BX' 0)<|J (gn 8) ?_
 refine AW.rng (.ag 0 (.tmp 0 rfl) rfl) fun hl1=>?_
 refine bdE hr fun q1 hqq1 hr=>q0y hqq1 1 (fun k1 _=>[(1,.d m (.sl 1 (a1.map A.D.b))),(2,dI a2),(3,.pb 0 0),(7,dI (k1:Int))]) (fun k1 _=>[]) I (fun k1 sk1 ok1 hr hltk1 hik1=>?_) fun sk1 ek1=>?_
 refine bdE hr fun y1 hy1 hr=>J g<|J (CB' [] [] (z6H (m:=m) hy1))<|ifE hr ?_ ?_<;>intro h1 hr
 refine bdE hr fun x1 hx1 hr=>fE 8 hr ?_ ?_<;>intro h2 hr
 exact e
 exact e
 exact e
 subst ek1
 exact e
theorem j3n {m:Md}{a0:List At_}{a1:Rl_}{a2:List Bool}{a3:Int}{r:((List BA_)×(List Bool))}(hr:z1z a0 a1 a2 a3=some r):Okp 55 [rw6 m a0,Rl_.x m a1,.ref 0 none,dI a3] [.row .fz 1 (a2.map A.D.b)] (.ref 1 none) [.row .fz 1 (r.2.map A.D.b),.row .fz 1 (r.1.map A.D.s)]:=by
 refine OE Tryz.func55 fun S hS=>?_
 unfold z1z at hr
 refine J g<|J (BX' 1)<|J g<|J (L0' 2 A.D.s)<|bdE hr fun q1 hqq1 hr=>J g<|q0i hqq1 3 (fun (s1,s2)=>[(0,rw6 m a0),(2,.ref 0 none),(3,dI a3),(5,.pb 1 0),(9,.ref 2 none)]) (fun (s1,s2)=>[(0,.row .fz 1 (s2.map A.D.b)),(2,.row .fz 1 (s1.map A.D.s))]) I fun sk1 ok1 hr hik1=>?_
 obtain⟨s1,s2⟩:=sk1
 refine J g<|J (OB' _ (k2Q (p:=a0.length) (k:=1) (by decide)))<|bdE hr fun s3 hqq2 hr=>J (gn 2)<|q0d 3 [(0,rw6 m a0),(2,.ref 0 none),(3,dI a3),(5,.pb 1 0),(9,.ref 2 none),(10,dI s3)] [] ?_ ?_
 refine J g<|q0i hqq2 3 (fun (s4,s5)=>[(0,rw6 m a0),(2,.ref 0 none),(3,dI a3),(5,.pb 1 0),(9,.ref 2 none),(10,dI s4),(11,dI s5)]) (fun (s4,s5)=>[]) I fun sk2 ok2 hr hik2=>?_
 obtain⟨s4,s5⟩:=sk2
 have hr:=hr
 refine fE 6 hr ?_ ?_<;>intro h1 hr
 refine bdE hr fun s6 hqq3 hr=>J (gn 3)<|q0d 3 [(0,rw6 m a0),(2,.ref 0 none),(3,dI a3),(5,.pb 1 0),(9,.ref 2 none),(10,dI s6),(11,dI s5)] [] ?_ ?_
 replace hr:=hqq3
 refine ggE hr fun g1 hr=>bdE hr fun x1 hx1 hr=>bdE hr fun s7 hqq4 hr=>J (gn 10)<|q0a 7 [(0,rw6 m a0),(2,.ref 0 none),(3,dI a3),(5,.pb 1 0),(9,.ref 2 none),(10,dI s4),(11,dI s5),(33,dB s7)] ?_ ?_
 replace hr:=hqq4
 refine ifE hr ?_ ?_<;>intro h2 hr
 refine ggE hr fun g2 hr=>bdE hr fun x2 hx2 hr=>e
 exact e
 refine bdE hr fun s8 hqq5 hr=>q0a 6 [(0,rw6 m a0),(2,.ref 0 none),(3,dI a3),(5,.pb 1 0),(9,.ref 2 none),(10,dI s4),(11,dI s5),(39,dB s8)] ?_ ?_
 replace hr:=hqq5
 refine ifE hr ?_ ?_<;>intro h3 hr
 refine bdE hr fun y1 hy1 hr=>J g<|J (CB' [] [0] (j7M (m:=.bo) hy1))<|e
 exact e
 refine fE 1 hr ?_ ?_<;>intro h4 hr
 exact e
 exact e
 refine ggE hr fun g3 hr=>e
 refine J (gn 2) ?_
 cases hr
 cases hik2 _ rfl
 exact q0g hS 3
 refine fE 6 hr ?_ ?_<;>intro h5 hr
 exact e
 refine ggE hr fun g4 hr=>bdE hr fun x3 hx3 hr=>J g<|J (SE' true hx3)<|ggE hr fun g5 hr=>bdE hr fun x4 hx4 hr=>J g<|J (LIR' 3 (m:=.fz) (f:=A.D.s) (xs:=[x4.Name]))<|ggE hr fun g6 hr=>J (z1D (f:=A.D.s) 4 (fun _=>rfl) 16 g6)<|e
theorem j7N {m:Md}{a0:List At_}{a1:Rl_}{r:((List Ph_)×Bool)}(hr:z4K a0 a1=some r):Okp 19 [rw6 m a0,Rl_.x m a1] [] (.tu [.ref 0 none,dB r.2]) [.row .fz 2 (r.1.map Ph_.D)]:=by
 refine OE Tryz.func19 fun S hS=>?_
 unfold z4K at hr
 refine J g<|J (BX' 0)<|bdE hr fun y1 hy1 hr=>J g<|J (CB' [] [] (q5X (m:=m) hy1))<|bdE hr fun s1 hqq1 hr=>J (gn 1)<|q0a 7 [(0,rw6 m a0),(3,.pb 0 0),(20,dB s1)] ?_ ?_
 replace hr:=hqq1
 refine ifE hr ?_ ?_<;>intro h1 hr
 exact e
 exact e
 refine bdE hr fun s2 hqq2 hr=>q0a 4 [(0,rw6 m a0),(3,.pb 0 0),(24,dB s2)] ?_ ?_
 replace hr:=hqq2
 refine ifE hr ?_ ?_<;>intro h2 hr
 exact e
 refine bdE hr fun y2 hy2 hr=>J g<|J (CB' [] [] (j3m (m:=m) hy2))<|e
 refine fE 1 hr ?_ ?_<;>intro h3 hr
 refine J g<|J (L0' 1 Ph_.D)<|e
 refine J g<|J (L0' 1 Ph_.D)<|ggE hr fun g1 hr=>J g<|J (MKR' 2 (f:=A.D.b) false g1.1 g1.2.1 g1.2.2)<|bdE hr fun q3 hqq3 hr=>J (gn 9)<|AW.cut 3 (fun (s3,s4)=>[(6,.ref 1 none)]) (fun (s3,s4)=>[(1,.row .fz 2 (s3.map Ph_.D)),(2,.row .fz 1 (s4.map A.D.b))]) (M:=fun x=>q3=.inl x) ?_ fun x hx=>?_
 refine J g<|q0i hqq3 3 (fun (s5,s6,s7)=>[(0,rw6 m a0),(3,.pb 0 0),(6,.ref 1 none),(7,.ref 2 none),(8,dI s7)]) (fun (s5,s6,s7)=>[(1,.row .fz 2 (s5.map Ph_.D)),(2,.row .fz 1 (s6.map A.D.b))]) I fun sk1 ok1 hr hik1=>?_
 obtain⟨s5,s6,s7⟩:=sk1
 have hr:=hr
 refine bdE hr fun s8 hqq4 hr=>J (gn 5)<|q0a 5 [(0,rw6 m a0),(3,.pb 0 0),(6,.ref 1 none),(7,.ref 2 none),(8,dI s7),(38,dB s8)] ?_ ?_
 replace hr:=hqq4
 refine ifE hr ?_ ?_<;>intro h4 hr
 exact e
 exact e
 refine fE 1 hr ?_ ?_<;>intro h5 hr
 refine bdP hr fun y3 z1 hq5 hr=>J g<|J (CB' [(0,2),(1,3)] [] (j3n (m:=m) hq5))<|J g<|J (NV' 4)<|bdP hr fun y4 z2 hq6 hr=>J g<|J (CB' [(0,2),(1,5)] [] (j3n (m:=m) hq6))<|ggE hr fun g2 hr=>J g<|J (OB' _ (z2q (p:=y3.length) (q:=y4.length) g2))<|bdE hr fun s9 hqq7 hr=>J (gn 7)<|q0a 4 [(0,rw6 m a0),(3,.pb 0 0),(6,.ref 1 none),(7,.ref 2 none),(8,dI s7),(9,.pb 4 0),(10,dI ((y3.length+y4.length:Nat):Int)),(61,dB s9)] ?_ ?_
 replace hr:=hqq7
 refine ifE hr ?_ ?_<;>intro h6 hr
 exact e
 exact e
 refine fE 1 hr ?_ ?_<;>intro h7 hr
 refine J g<|J (L0' 6 Ph_.D)<|e
 refine ggE hr fun g3 hr=>J (gn 12) ?_
 refine J (q0p 3 rfl) ?_
 refine J (q0p 5 rfl)<|J (LIR' 6 (m:=.fz) (f:=Ph_.D) (xs:=[(⟨y3,y4⟩:Ph_)]))<|ggE hr fun g4 hr=>J (AP1' 7 .fz 48 g4)<|J g<|E
 refine J (gn 2) ?_
 cases hr
 cases hik1 _ rfl
 exact⟨_,rfl,q0g hS 3⟩
 subst hx
 obtain⟨s3,s4⟩:=x
 exact e
theorem z6X {m:Md}{a0:Gm_}{r:((List (List Ph_))×Bool)}(hr:q9h a0=some r):Okp 9 [Gm_.x m a0] [] (.tu [.ref 0 none,dB r.2]) [.row .fz 1 (r.1.map (fun (l:List Ph_)=>A.D.sl 2 (l.map Ph_.D)))]:=by
 refine OE Tryz.func9 fun S hS=>?_
 unfold q9h at hr
 refine J g<|J (BX' 0)<|bdP hr fun y1 y2 hq1 hr=>J g<|J (CB' [(0,1)] [] (z8D (m:=m) hq1))<|J g<|J (L0' 2 (fun (l:List Ph_)=>A.D.sl 2 (l.map Ph_.D)))<|bdE hr fun q2 hqq2 hr=>J (gn 7)<|AW.cut 3 (fun s1=>[(5,dB y2),(6,.ref 2 none)]) (fun s1=>[(2,.row .fz 1 (s1.map (fun (l:List Ph_)=>A.D.sl 2 (l.map Ph_.D))))]) (M:=fun x=>q2=.inl x) ?_ fun x hx=>?_
 refine J g<|q0i hqq2 3 (fun (s2,s3)=>[(1,.pb 0 0),(4,.ref 1 none),(5,dB y2),(6,.ref 2 none),(7,dI s3)]) (fun (s2,s3)=>[(2,.row .fz 1 (s2.map (fun (l:List Ph_)=>A.D.sl 2 (l.map Ph_.D))))]) I fun sk1 ok1 hr hik1=>?_
 obtain⟨s2,s3⟩:=sk1
 have hr:=hr
 refine fE 8 hr ?_ ?_<;>intro h1 hr
 refine fE 4 hr ?_ ?_<;>intro h2 hr
 refine ggE hr fun g1 hr=>bdE hr fun x1 hx1 hr=>bdE hr fun y3 hy3 hr=>J g<|J (CB' [(0,3)] [] (z1q (m:=m) hy3))<|ggE hr fun g2 hr=>bdE hr fun x2 hx2 hr=>bdP hr fun y4 y5 hq3 hr=>J g<|J (CB' [(0,4)] [3] (j7N (m:=.bo) hq3))<|fE 12 hr ?_ ?_<;>intro h3 hr
 refine J (gn 5) ?_
 refine J (q0p 4 rfl)<|J (LIR' 5 (m:=.fz) (f:=(fun (l:List Ph_)=>A.D.sl 2 (l.map Ph_.D))) (xs:=[y4]))<|ggE hr fun g3 hr=>J (AP1' 6 .fz 24 g3)<|ggE hr fun g4 hr=>J g<|E
 refine J g<|J (L0' 5 (fun (l:List Ph_)=>A.D.sl 2 (l.map Ph_.D)))<|e
 refine J (gn 2) ?_
 cases hr
 cases hik1 _ rfl
 exact⟨_,rfl,q0g hS 3⟩
 refine J (gn 6) ?_
 cases hr
 cases hik1 _ rfl
 exact⟨_,rfl,q0g hS 3⟩
 subst hx
 obtain⟨s1,rfl⟩:∃ y,y=x:=⟨_,rfl⟩
 exact e
theorem z6I {m:Md}{a0:Gm_}{a1:List (List Ph_)}{a2:BA_}{r:List Ph_}(hr:q7h a0 a1 a2=some r):Okp 38 [Gm_.y m a0,.d m (.sl 1 (a1.map (fun (l:List Ph_)=>A.D.sl 2 (l.map Ph_.D)))),dS a2] [] (rw10 m r) []:=by
 refine OE Tryz.func38 fun S hS=>?_
 unfold q7h at hr
 refine J g<|J (BX' 0)<|bdE hr fun y1 hy1 hr=>J g<|J (CB' [] [] (z7O (m:=m) hy1))<|J g<|J (OB' _ (k2Q (p:=a1.length) (k:=1) (by decide)))<|bdE hr fun y2 hy2 hr=>J (CB' [] [] (q6h hy2))<|fE 2 hr ?_ ?_<;>intro h1 hr
 refine ggE hr fun g1 hr=>bdE hr fun x1 hx1 hr=>e
 refine J g<|J (L0' 1 Ph_.D)<|J (gn 3) ?_
 refine J (q0c (q0r (r:=1) rfl)) ?_
 cases hr
 exact endA.ren [] 0 (.inr rfl) hS rfl rfl rfl (.md rfl) rfl rfl
theorem j1y {m m2:Md}{a1:Int}{a2:List BA_}{o0 r:l28Work}(hr:z2D a1 a2 o0=some r):Okp 39 [.pb 0 0,dI a1,rw2 m a2] [bx3 m2 m2 m2 m2 m2 m2 o0,.row .fz 2 (o0.known.map Oc.D),.row .fz 1 (o0.visits.map (A.D.i .i64)),.row .fz 4 (o0.steps.map Step.D)] (.tu []) [.box [rw3 m2 o0.g.ss_,rw5 m2 o0.g.rs_,dS r.r.Name,dS r.r.Left,rw2 m2 o0.r.rt_,dB r.r.ll_,rw8 m2 o0.r.es_,rw9 m2 o0.r.cs_,.d m2 (.sl 1 (o0.phases.map (fun (l:List Ph_)=>A.D.sl 2 (l.map Ph_.D)))),.ref 4 none,.ref 2 none,.ref 3 none],.dead,.row .fz 1 (r.visits.map (A.D.i .i64)),.row .fz 4 (r.steps.map Step.D),.row .fz 2 (r.known.map Oc.D)]:=by
 refine OE Tryz.func39 fun S hS=>?_
 unfold z2D at hr
 refine J (gn 5) ?_
 refine J (q0P 1 4 rfl)<|J (lenT 2)<|fun hl1=>bdE hr fun s1 hqq1 hr=>q0e hqq1 hl1 5 (fun k1 s1=>[(0,.pb 0 0),(1,dI a1),(2,rw2 m a2),(6,dI (k1:Int))]) (fun k1 s1=>[(4,.row .fz 2 (s1.map Oc.D))]) I (fun k1 xk1 sk1 ok1 hxk1 hr hltk1=>?_) fun k1 hltk1=>?_
 obtain⟨s1,rfl⟩:∃ y,y=sk1:=⟨_,rfl⟩
 refine J g<|J (LIR' 5 (m:=.fz) (f:=Oc.D) (xs:=[(⟨a1,xk1⟩:Oc)]))<|ggE hr fun g1 hr=>J (z1D (f:=Oc.D) 6 (fun _=>rfl) 24 g1)<|e
 exact e
theorem j6d {m2:Md}{a0:l28Work}{a1:Oc}{r:Bool}(hr:z3z a0 a1=some r):Okp 97 [.pb 0 0,Oc.x .fz a1] [bx3 m2 m2 m2 m2 m2 m2 a0,.row .fz 2 (a0.known.map Oc.D),.row .fz 1 (a0.visits.map (A.D.i .i64)),.row .fz 4 (a0.steps.map Step.D)] (dB r) [bx3 m2 m2 m2 m2 m2 m2 a0,.row .fz 2 (a0.known.map Oc.D),.row .fz 1 (a0.visits.map (A.D.i .i64)),.row .fz 4 (a0.steps.map Step.D)]:=by
 refine OE Tryz.func97 fun S hS=>?_
 unfold z3z at hr
 refine J g<|J (BX' 4)<|bdP hr fun y1 y2 hq1 hr=>J g<|J (CB' [(0,5)] [] (z3J (m:=m2) hq1))<|J g<|J (NV' 6)<|J (gn 6) ?_
 refine J (q0p 5 rfl)<|bdE hr fun y3 hy3 hr=>J (CB' [] [] (z2I (m:=.fz) hy3))<|J (gn 8)<|J (lenT 7)<|fun hl1=>bdE hr fun q2 hqq2 hr=>q0b hqq2 hl1 7 (fun k1 _=>[(0,.pb 0 0),(6,dB y2),(7,rw4 .fz y3),(8,dI (k1:Int))]) (fun k1 _=>[(5,.none)]) I (fun k1 xk1 sk1 ok1 hxk1 hr hltk1 hik1=>?_) fun k1 sk1 ek1 hltk1=>?_
 refine bdE hr fun y4 hy4 hr=>J g<|J (CB' [] [1] (z1B (m:=.bo) hy4))<|fE 2 hr ?_ ?_<;>intro h1 hr
 exact e
 exact e
 subst ek1
 exact e
theorem j9m {m2:Md}{o0:l28Work}{r:(Bool×l28Work)}(hr:z6d o0=some r):Okp 40 [.pb 0 0] [bx3 m2 m2 m2 m2 m2 m2 o0,.row .fz 2 (o0.known.map Oc.D),.row .fz 1 (o0.visits.map (A.D.i .i64)),.row .fz 4 (o0.steps.map Step.D)] (dB r.1) [.box [rw3 m2 o0.g.ss_,rw5 m2 o0.g.rs_,dS r.2.r.Name,dS r.2.r.Left,rw2 m2 o0.r.rt_,dB r.2.r.ll_,rw8 m2 o0.r.es_,rw9 m2 o0.r.cs_,.d m2 (.sl 1 (o0.phases.map (fun (l:List Ph_)=>A.D.sl 2 (l.map Ph_.D)))),.ref 4 none,.ref 2 none,.ref 5 none],.dead,.row .fz 1 (r.2.visits.map (A.D.i .i64)),.dead,.row .fz 2 (r.2.known.map Oc.D),.row .fz 4 (r.2.steps.map Step.D)]:=by
 refine OE Tryz.func40 fun S hS=>?_
 unfold z6d at hr
 refine bdE hr fun y1 hy1 hr=>J g<|J (CB' [(0,4)] [] (q6I (m:=m2) hy1))<|J (gn 8)<|J (lenR 4)<|fun hl1=>bdE hr fun q1 hqq1 hr=>q0b hqq1 hl1 5 (fun k1 _=>[(0,.pb 0 0),(3,.ref 4 none),(4,dI (k1:Int))]) (fun k1 _=>[]) I (fun k1 xk1 sk1 ok1 hxk1 hr hltk1 hik1=>?_) fun k1 sk1 ek1 hltk1=>?_
 refine bdE hr fun y2 hy2 hr=>J g<|J (CB' [] [1] (z1B (m:=.bo) hy2))<|fE 1 hr ?_ ?_<;>intro h1 hr
 exact e
 refine bdE hr fun y3 hy3 hr=>J g<|CBK2 [(0,0),(1,1),(2,2),(3,3)] [] [] (j6d (m2:=m2) hy3) ?_
 refine fE 2 hr ?_ ?_<;>intro h2 hr
 refine J g<|J (LIR' 5 (m:=.fz) (f:=Oc.D) (xs:=[xk1]))<|ggE hr fun g1 hr=>J (z1D (f:=Oc.D) 6 (fun _=>rfl) 24 g1)<|J g<|J (LIR' 7 (m:=.fz) (f:=Step.D) (xs:=[(⟨1,xk1.Pos,0,xk1.Name⟩:Step)]))<|ggE hr fun g2 hr=>J (z1D (f:=Step.D) 8 (fun _=>rfl) 40 g2)<|e
 exact e
 subst ek1
 refine J (gn 15) ?_
 refine J (q0c (q0G (i:=1) (j:=5) rfl rfl)) ?_
 refine J (q0c (q0G (i:=3) (j:=6) rfl rfl))<|J g<|E
theorem j1z {m m2:Md}{a0:l28Work}{a1:Int}{a2:List BA_}{r:Bool}(hr:z2E a0 a1 a2=some r):Okp 42 [.pb 0 0,dI a1,rw2 m a2] [bx3 m2 m2 m2 m2 m2 m2 a0,.row .fz 2 (a0.known.map Oc.D),.row .fz 1 (a0.visits.map (A.D.i .i64)),.row .fz 4 (a0.steps.map Step.D)] (dB r) [bx3 m2 m2 m2 m2 m2 m2 a0,.row .fz 2 (a0.known.map Oc.D),.row .fz 1 (a0.visits.map (A.D.i .i64)),.row .fz 4 (a0.steps.map Step.D)]:=by
 refine OE Tryz.func42 fun S hS=>?_
 unfold z2E at hr
 refine J (gn 10)<|J (lenT 2)<|fun hl1=>bdE hr fun q1 hqq1 hr=>q0b hqq1 hl1 4 (fun k1 _=>[(0,.pb 0 0),(1,dI a1),(2,rw2 m a2),(7,dI (k1:Int))]) (fun k1 _=>[]) I (fun k1 xk1 sk1 ok1 hxk1 hr hltk1 hik1=>?_) fun k1 sk1 ek1 hltk1=>?_
 refine bdE hr fun y1 hy1 hr=>J g<|J (CB' [] [1] (z1B (m:=.bo) hy1))<|fE 2 hr ?_ ?_<;>intro h1 hr
 exact e
 exact e
 subst ek1
 exact e
theorem j7O {m2:Md}{o0:l28Work}{r:(Bool×l28Work)}(hr:z4L o0=some r):Okp 41 [.pb 0 0] [bx3 m2 m2 m2 m2 m2 m2 o0,.row .fz 2 (o0.known.map Oc.D),.row .fz 1 (o0.visits.map (A.D.i .i64)),.row .fz 4 (o0.steps.map Step.D)] (dB r.1) [.box [rw3 m2 o0.g.ss_,rw5 m2 o0.g.rs_,dS r.2.r.Name,dS r.2.r.Left,rw2 m2 o0.r.rt_,dB r.2.r.ll_,rw8 m2 o0.r.es_,rw9 m2 o0.r.cs_,.d m2 (.sl 1 (o0.phases.map (fun (l:List Ph_)=>A.D.sl 2 (l.map Ph_.D)))),.ref 4 none,.ref 2 none,.ref 5 none],.dead,.row .fz 1 (r.2.visits.map (A.D.i .i64)),.dead,.row .fz 2 (r.2.known.map Oc.D),.row .fz 4 (r.2.steps.map Step.D)]:=by
 refine Ok.enter rfl Tryz.func41 rfl rfl rfl fun S hS=>?_
 unfold z4L at hr
 refine sr ?_
 refine N1 ?_
 refine ssr ?_
 refine N1 ?_
 refine AW.block ?_
 refine AW.len (.box 0 4 rfl rfl) fun hl1=>?_
 refine bdE hr fun q1 hqq1 hr=>?_
 refine q0b hqq1 hl1 4 (fun k1 _=>[(0,.pb 0 0),(3,dI (k1:Int))]) (fun k1 _=>[]) (q0g hS 4) (fun k1 xk1 sk1 ok1 hxk1 hr hltk1 hik1=>?_) fun k1 sk1 ek1 hltk1=>?_
 refine ssr ?_
 refine W5 ?_
 refine W1 ?_
 refine LF ?_
 refine N1 ?_
 refine q0s rfl (dT hltk1) ?_
 refine q0k ?_
 refine q0m (AW.block (q0m (q0q (h:=?_))))
 refine W5 ?_
 refine W5 ?_
 refine W4 ?_
 refine IF (Dpz _) hxk1 ?_
 refine W1 ?_
 refine bdE hr fun y1 hy1 hr=>?_
 refine CB [] [] (z6I (m:=m2) hy1) ?_
 refine N1 ?_
 refine sr ?_
 refine W5 ?_
 refine bdE hr fun x1 hx1 hr=>?_
 refine IE hx1 (Dpz _) ?_
 refine LP hx1 ?_
 refine N1 ?_
 refine sr ?_
 refine W2 ?_
 refine LF ?_
 refine W1 ?_
 refine ifE hr (fun h1 hr=>?_) fun h1 hr=>?_
 refine VT rfl (dT h1) ?_
 refine W2 ?_
 refine OB _ (z2q (p:=k1) (q:=1) (q5o hltk1 hl1)) ?_
 refine W2 ?_
 refine ggE hr fun g1 hr=>?_
 refine bdE hr fun x2 hx2 hr=>?_
 refine IF g1 hx2 ?_
 refine W2 ?_
 refine bdE hr fun y2 hy2 hr=>?_
 refine CB [(0,0),(1,1),(2,2),(3,3)] [] (j1z (m:=m2) (m2:=m2) hy2) ?_
 refine N1 ?_
 refine ifE hr (fun h2 hr=>?_) fun h2 hr=>?_
 refine q0s rfl h2 ?_
 refine sr ?_
 refine W5 ?_
 refine W1 ?_
 refine ggE hr fun g2 hr=>?_
 refine OB _ (bAdd g2) ?_
 refine IE hx1 (Dpz _) ?_
 refine SE (x1+1) hx1 ?_
 refine N0 ?_
 refine sr ?_
 refine W5 ?_
 refine W1 ?_
 refine OB _ (z2q (p:=k1) (q:=1) (q5o hltk1 hl1)) ?_
 refine W1 ?_
 refine ggE hr fun g3 hr=>?_
 refine OB _ (bAdd g3) ?_
 refine W1 ?_
 refine LIR 4 (m:=.fz) (f:=Step.D) (xs:=[(⟨2,((k1+1:Nat):Int),(x1+1),(⟨#[]⟩:BA_)⟩:Step)]) ?_
 refine ggE hr fun g4 hr=>?_
 refine APf1 (f:=Step.D) 5 (fun _=>rfl) 40 g4 ?_
 refine W2 ?_
 refine SB ?_
 refine N0 ?_
 refine sr ?_
 refine W2 ?_
 refine OB _ (z2q (p:=k1) (q:=1) (q5o hltk1 hl1)) ?_
 refine W2 ?_
 refine IF g1 hx2 ?_
 refine W2 ?_
 refine bdE hr fun z1 hz1 hr=>?_
 refine CB [(0,0),(1,1),(2,2),(3,5),(4,6)] [] (j1y (m:=m2) (m2:=m2) hz1) ?_
 refine N0 ?_
 refine sr ?_
 refine N1 ?_
 refine AW.ret ?_
 cases hr
 have hz9:=hik1 _ rfl
 subst hz9
 rename_i hr
 cases hr
 exact q0o [(0,0),(1,1),(2,2),(3,3),(6,4),(5,5)] 6 hS
 refine q0t rfl (bF h2) ?_
 refine q0k ?_
 refine q0h ?_
 refine W1 ?_
 refine OB _ (z2q (p:=k1) (q:=1) (q5o hltk1 hl1)) ?_
 refine N1 ?_
 cases hr
 exact⟨_,rfl,q0g hS 4⟩
 refine VF rfl (dF h1) ?_
 iterate 9 refine AL.off ?_
 refine N1 ?_
 refine q0t rfl rfl ?_
 refine q0k ?_
 refine q0h ?_
 refine W1 ?_
 refine OB _ (z2q (p:=k1) (q:=1) (q5o hltk1 hl1)) ?_
 refine N1 ?_
 cases hr
 exact⟨_,rfl,q0g hS 4⟩
 subst ek1
 refine ssr ?_
 refine W5 ?_
 refine W1 ?_
 refine LF ?_
 refine N1 ?_
 refine q0t rfl (dF hltk1) ?_
 refine q0u ?_
 refine sr ?_
 refine N1 ?_
 refine AW.ret ?_
 refine endA.gh (q0G (i:=1) (j:=4) rfl rfl) ?_
 refine endA.gh (q0G (i:=3) (j:=5) rfl rfl) ?_
 cases hr
 exact q0o [(0,0),(1,1),(2,2),(3,3),(4,4),(5,5)] 6 hS
theorem j7P {m2:Md}{a0:l28Work}{r:Bool}(hr:z1o a0=some r):Okp 43 [.pb 0 0] [bx3 m2 m2 m2 m2 m2 m2 a0,.row .fz 2 (a0.known.map Oc.D),.row .fz 1 (a0.visits.map (A.D.i .i64)),.row .fz 4 (a0.steps.map Step.D)] (dB r) [bx3 m2 m2 m2 m2 m2 m2 a0,.row .fz 2 (a0.known.map Oc.D),.row .fz 1 (a0.visits.map (A.D.i .i64)),.row .fz 4 (a0.steps.map Step.D)]:=by
 refine OE Tryz.func43 fun S hS=>?_
 unfold z1o at hr
 refine bdE hr fun y1 hy1 hr=>J g<|J (CB' [(0,4)] [] (q6I (m:=m2) hy1))<|J (gn 8)<|J (lenR 4)<|fun hl1=>bdE hr fun q1 hqq1 hr=>q0b hqq1 hl1 5 (fun k1 _=>[(0,.pb 0 0),(3,.ref 4 none),(4,dI (k1:Int))]) (fun k1 _=>[]) I (fun k1 xk1 sk1 ok1 hxk1 hr hltk1 hik1=>?_) fun k1 sk1 ek1 hltk1=>?_
 refine bdE hr fun y2 hy2 hr=>J g<|J (CB' [] [1] (z1B (m:=.bo) hy2))<|fE 2 hr ?_ ?_<;>intro h1 hr
 exact e
 exact e
 subst ek1
 refine J (gn 16) ?_
 refine AW.len (.box 0 4 rfl rfl) fun hl2=>?_
 refine bdE hr fun q2 hqq2 hr=>q0b hqq2 hl2 5 (fun k2 _=>[(0,.pb 0 0),(5,dI (k2:Int))]) (fun k2 _=>[]) I (fun k2 xk2 sk2 ok2 hxk2 hr hltk2 hik2=>?_) fun k2 sk2 ek2 hltk2=>?_
 refine bdE hr fun x1 hx1 hr=>bdE hr fun y3 hy3 hr=>J g<|J (CB' [] [] (z6I (m:=m2) hy3))<|fE 3 hr ?_ ?_<;>intro h2 hr
 exact e
 exact e
 subst ek2
 exact e
end Go.Proofs.YtgkepiefcpfimaaGreatDoor
