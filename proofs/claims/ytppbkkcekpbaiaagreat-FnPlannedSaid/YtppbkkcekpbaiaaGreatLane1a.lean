/- What some functions of the program compute, as partial functions on plain data, and that they do; each lemma bears its conditions in its statement. -/
import Derived.Test.YtppbkkcekpbaiaaGreatDef
set_option linter.unusedVariables false
set_option linter.unusedSimpArgs false
set_option linter.ambiguousOpen false
set_option linter.unusedSectionVars false
set_option linter.unnecessarySimpa false
set_option maxRecDepth 100000
set_option maxHeartbeats 40000000
noncomputable section
open Int renaming natCast_nonneg→Eaz
open List renaming map_cons→Bcz,map_nil→Dpz,length_set→Cxz
namespace Go.Proofs.YtppbkkcekpbaiaaGreat
open Go Go.E Go.A
theorem q4J {a0 a1 a2:Int}{r:Bool}(hr:q4l a0 a1 a2=some r):Okp 64 [dI a0,dI a1,dI a2] [] (dB r) []:=by
 refine OE Tryz.func64 fun S hS=>?_
 unfold q4l at hr
 refine fE 9 hr ?_ ?_<;>intro h1 hr
 exact e
 exact e
theorem j3r {a0:UInt8}{r:Bool}(hr:z4r a0=some r):Okp 276 [.d .fz (.i .u8 (a0.toNat:Int))] [] (dB r) []:=by
 refine OE Tryz.func276 fun S hS=>?_
 unfold z4r at hr
 refine fE 8 hr ?_ ?_<;>intro h1 hr
 exact e
 exact e
theorem j9I {a0:UInt8}{r:Bool}(hr:z5Y a0=some r):Okp 277 [.d .fz (.i .u8 (a0.toNat:Int))] [] (dB r) []:=by
 refine OE Tryz.func277 fun S hS=>?_
 unfold z5Y at hr
 refine fE 8 hr ?_ ?_<;>intro h1 hr
 exact e
 exact e
theorem j4A {a0:BA_}{r:Bool}(hr:z1W a0=some r):Okp 278 [dS a0] [] (dB r) []:=by
 refine OE Tryz.func278 fun S hS=>?_
 unfold z1W at hr
 refine fE 16 hr ?_ ?_<;>intro h1 hr
 refine fE 2 hr ?_ ?_<;>intro h2 hr
 exact e
 exact e
 refine fE 6 hr ?_ ?_<;>intro h3 hr
 refine fE 2 hr ?_ ?_<;>intro h4 hr
 exact e
 exact e
 refine fE 6 hr ?_ ?_<;>intro h5 hr
 refine fE 2 hr ?_ ?_<;>intro h6 hr
 exact e
 exact e
 refine fE 6 hr ?_ ?_<;>intro h7 hr
 refine fE 2 hr ?_ ?_<;>intro h8 hr
 exact e
 exact e
 refine fE 6 hr ?_ ?_<;>intro h9 hr
 refine fE 2 hr ?_ ?_<;>intro h10 hr
 exact e
 exact e
 refine fE 6 hr ?_ ?_<;>intro h11 hr
 refine fE 2 hr ?_ ?_<;>intro h12 hr
 exact e
 exact e
 refine fE 6 hr ?_ ?_<;>intro h13 hr
 refine fE 2 hr ?_ ?_<;>intro h14 hr
 exact e
 exact e
 refine fE 6 hr ?_ ?_<;>intro h15 hr
 refine fE 2 hr ?_ ?_<;>intro h16 hr
 exact e
 exact e
 refine fE 6 hr ?_ ?_<;>intro h17 hr
 refine fE 2 hr ?_ ?_<;>intro h18 hr
 exact e
 exact e
 refine fE 6 hr ?_ ?_<;>intro h19 hr
 refine fE 2 hr ?_ ?_<;>intro h20 hr
 exact e
 exact e
 refine fE 6 hr ?_ ?_<;>intro h21 hr
 refine fE 2 hr ?_ ?_<;>intro h22 hr
 exact e
 exact e
 refine fE 6 hr ?_ ?_<;>intro h23 hr
 refine fE 2 hr ?_ ?_<;>intro h24 hr
 exact e
 exact e
 refine fE 5 hr ?_ ?_<;>intro h25 hr
 exact e
 exact e
theorem q6d {a0:BA_}{r:Bool}(hr:q4Y a0=some r):Okp 260 [dS a0] [] (dB r) []:=by
 refine OE Tryz.func260 fun S hS=>?_
 unfold q4Y at hr
 refine J g<|J LS'<|J (gn 3)<|J (rngT 5)<|fun hl1=>bdE hr fun q1 hqq1 hr=>q0z hqq1 0 (fun k1 _=>[(0,dS a0),(5,dI (a0.size:Int)),(6,dI (k1:Int))]) (fun k1 _=>[]) I (fun k1 sk1 ok1 hr hltk1 hik1=>?_) fun sk1 ek1=>?_
 refine bdE hr fun x1 hx1 hr=>J g ?_
 refine J (SI' rfl rfl (Eaz _) hx1)<|bdE hr fun y1 hy1 hr=>J (CB' [] [] (j3r hy1))<|fE 1 hr ?_ ?_<;>intro h1 hr
 exact e
 refine J g ?_
 refine J (SI' rfl rfl (Eaz _) hx1)<|bdE hr fun y2 hy2 hr=>J (CB' [] [] (j9I hy2))<|fE 3 hr ?_ ?_<;>intro h2 hr
 exact e
 exact e
 subst ek1
 refine J g<|J LS'<|bdE hr fun y3 hy3 hr=>J (CB' [] [] (q4J hy3))<|bdE hr fun s1 hqq2 hr=>q0a 5 [(0,dS a0),(29,dB s1)] ?_ ?_
 replace hr:=hqq2
 refine ifE hr ?_ ?_<;>intro h3 hr
 refine bdE hr fun x2 hx2 hr=>J g ?_
 refine J (SI' rfl rfl (Eaz _) hx2)<|bdE hr fun y4 hy4 hr=>J (CB' [] [] (j3r hy4))<|J g<|E
 exact e
 refine bdE hr fun s2 hqq3 hr=>q0a 5 [(34,dB s2)] ?_ ?_
 replace hr:=hqq3
 refine ifE hr ?_ ?_<;>intro h4 hr
 refine bdE hr fun y5 hy5 hr=>J g<|J (CB' [] [] (j4A hy5))<|e
 exact e
 exact e
theorem j5i {a0:Int}{r:Bool}(hr:z5Z a0=some r):Okp 275 [dI a0] [] (dB r) []:=by
 refine OE Tryz.func275 fun S hS=>?_
 unfold z5Z at hr
 refine bdE hr fun y1 hy1 hr=>J g<|J (CB' [] [] (q4J hy1))<|e
theorem z8M {a0:At_}{r:Bool}(hr:q8k a0=some r):Okp 258 [At_.x .fz a0] [] (dB r) []:=by
 refine OE Tryz.func258 fun S hS=>?_
 unfold q8k at hr
 refine J g<|J (BX' 0)<|bdE hr fun y1 hy1 hr=>J g<|J (CB' [] [] (q6d hy1))<|bdE hr fun s1 hqq1 hr=>J (gn 1)<|q0a 6 [(1,.pb 0 0),(13,dB s1)] ?_ ?_
 replace hr:=hqq1
 refine ifE hr ?_ ?_<;>intro h1 hr
 refine bdE hr fun y2 hy2 hr=>J g<|J (CB' [] [] (j5i hy2))<|e
 exact e
 refine bdE hr fun s2 hqq2 hr=>q0a 6 [(1,.pb 0 0),(19,dB s2)] ?_ ?_
 replace hr:=hqq2
 refine ifE hr ?_ ?_<;>intro h2 hr
 exact e
 refine bdE hr fun y3 hy3 hr=>J g<|J (CB' [] [] (q4J hy3))<|e
 refine fE 2 hr ?_ ?_<;>intro h3 hr
 exact e
 refine fE 8 hr ?_ ?_<;>intro h4 hr
 refine bdE hr fun s3 hqq3 hr=>J (gn 6)<|q0a 5 [(31,dB s3)] ?_ ?_
 replace hr:=hqq3
 refine ifE hr ?_ ?_<;>intro h5 hr
 exact e
 exact e
 exact e
 refine bdE hr fun s4 hqq4 hr=>J (gn 7)<|q0a 5 [(39,dB s4)] ?_ ?_
 replace hr:=hqq4
 refine ifE hr ?_ ?_<;>intro h6 hr
 exact e
 exact e
 exact e
theorem z9k {a0 a1:At_}{r:Bool}(hr:z0d a0 a1=some r):Okp 259 [At_.x .fz a0,.pb 0 0] [bx10 a1] (dB r) [bx10 a1]:=by
 refine OE Tryz.func259 fun S hS=>?_
 unfold z0d at hr
 refine J g<|J (BX' 1)<|e
theorem q8T {m:Md}{a0:List At_}{a1_0:At_}{r:Int}(hr:q4z a0 a1_0=some r):Okp 161 [rw6 m a0,.fn 259 [.pb 0 0]] [bx10 a1_0] (dI r) [bx10 a1_0]:=by
 refine OE Tryz.func161 fun S hS=>?_
 unfold q4z at hr
 refine J (gn 12)<|J (lenT 0)<|fun hl1=>bdE hr fun q1 hqq1 hr=>q0b hqq1 hl1 1 (fun k1 _=>[(0,rw6 m a0),(1,.fn 259 [.pb 0 0]),(7,dI (a0.length:Int)),(8,dI (k1:Int))]) (fun k1 _=>[]) I (fun k1 xk1 sk1 ok1 hxk1 hr hltk1 hik1=>?_) fun k1 sk1 ek1 hltk1=>?_
 refine bdE hr fun y1 hy1 hr=>J g<|J (CB' [(0,0)] [] (z9k hy1))<|fE 1 hr ?_ ?_<;>intro h1 hr
 exact e
 exact e
 subst ek1
 exact e
theorem q8A {m:Md}{a0:List At_}{a1_0:At_}{r:Bool}(hr:q4o a0 a1_0=some r):Okp 107 [rw6 m a0,.fn 259 [.pb 0 0]] [bx10 a1_0] (dB r) [bx10 a1_0]:=by
 refine OE Tryz.func107 fun S hS=>?_
 unfold q4o at hr
 refine bdE hr fun y1 hy1 hr=>J g<|J (CB' [(0,0)] [] (q8T (m:=m) hy1))<|e
theorem j0Q {m:Md}{a0:Symbol}{r:Bool}(hr:q9J a0=some r):Okp 219 [Symbol.x m a0] [] (dB r) []:=by
 refine OE Tryz.func219 fun S hS=>?_
 unfold q9J at hr
 refine J g<|J (BX' 0)<|J (gn 11)<|J (lenA 1 0)<|fun hl1=>bdE hr fun q1 hqq1 hr=>q0b hqq1 hl1 1 (fun k1 _=>[(1,.pb 0 0),(6,rw6 m a0.as_),(7,dI (a0.as_.length:Int)),(8,dI (k1:Int))]) (fun k1 _=>[]) I (fun k1 xk1 sk1 ok1 hxk1 hr hltk1 hik1=>?_) fun k1 sk1 ek1 hltk1=>?_
 refine J g<|J (NV' 1)<|bdE hr fun y1 hy1 hr=>J g<|J (CB' [] [] (z8M hy1))<|fE 1 hr ?_ ?_<;>intro h1 hr
 refine ggE hr fun g1 hr=>J g<|J (SLH' (Eaz _) g1)<|bdE hr fun y2 hy2 hr=>J g<|J (CB' [(0,1)] [] (q8A (m:=m) hy2))<|fE 2 hr ?_ ?_<;>intro h2 hr
 exact e
 exact e
 exact e
 subst ek1
 refine bdE hr fun y3 hy3 hr=>J g<|J (CB' [] [] (q6d hy3))<|bdE hr fun s1 hqq2 hr=>q0a 6 [(33,dB s1)] ?_ ?_
 replace hr:=hqq2
 refine ifE hr ?_ ?_<;>intro h3 hr
 exact e
 exact e
 exact e
theorem j1U {m m2:Md}{a0 a1:Symbol}{r:Bool}(hr:z1X a0 a1=some r):Okp 220 [Symbol.x m a0,.pb 0 0] [bx8 m2 a1] (dB r) [bx8 m2 a1]:=by
 refine OE Tryz.func220 fun S hS=>?_
 unfold z1X at hr
 refine J g<|J (BX' 1)<|e
theorem z0g {m m2:Md}{a0:List Symbol}{a1_0:Symbol}{r:Int}(hr:q5j a0 a1_0=some r):Okp 111 [rw3 m a0,.fn 220 [.pb 0 0]] [bx8 m2 a1_0] (dI r) [bx8 m2 a1_0]:=by
 refine OE Tryz.func111 fun S hS=>?_
 unfold q5j at hr
 refine J (gn 12)<|J (lenT 0)<|fun hl1=>bdE hr fun q1 hqq1 hr=>q0b hqq1 hl1 1 (fun k1 _=>[(0,rw3 m a0),(1,.fn 220 [.pb 0 0]),(7,dI (a0.length:Int)),(8,dI (k1:Int))]) (fun k1 _=>[]) I (fun k1 xk1 sk1 ok1 hxk1 hr hltk1 hik1=>?_) fun k1 sk1 ek1 hltk1=>?_
 refine bdE hr fun y1 hy1 hr=>J g<|J (CB' [(0,0)] [] (j1U (m:=m) (m2:=m2) hy1))<|fE 1 hr ?_ ?_<;>intro h1 hr
 exact e
 exact e
 subst ek1
 exact e
theorem q9B {m m2:Md}{a0:List Symbol}{a1_0:Symbol}{r:Bool}(hr:q4P a0 a1_0=some r):Okp 105 [rw3 m a0,.fn 220 [.pb 0 0]] [bx8 m2 a1_0] (dB r) [bx8 m2 a1_0]:=by
 refine OE Tryz.func105 fun S hS=>?_
 unfold q4P at hr
 refine bdE hr fun y1 hy1 hr=>J g<|J (CB' [(0,0)] [] (z0g (m:=m) (m2:=m2) hy1))<|e
theorem j4B {Rc6:Expr→Option Int}(Ic6:∀ {m:Md} {a0:Expr} {r:Int},Rc6 a0=some r→Okp 286 [Expr.x m a0] [] (dI r) []){m:Md}{a0:Expr}{r:Int}(hr:z3x Rc6 a0=some r):Okp 286 [Expr.x m a0] [] (dI r) []:=by
 refine OE Tryz.func286 fun S hS=>?_
 unfold z3x at hr
 refine J g<|J (BX' 0)<|J (gn 15)<|J (lenA 6 0)<|fun hl1=>bdE hr fun s1 hqq1 hr=>q0d hqq1 hl1 1 (fun k1 s1=>[(3,dI s1),(7,rw7 m a0.Args),(8,dI (a0.Args.length:Int)),(9,dI (k1:Int))]) (fun k1 s1=>[]) I (fun k1 xk1 sk1 ok1 hxk1 hr hltk1=>?_) fun k1 hltk1=>?_
 obtain⟨s1,rfl⟩:∃ y,y=sk1:=⟨_,rfl⟩
 refine J g<|J (NV' 1)<|bdE hr fun y1 hy1 hr=>J g<|J (CB' [] [] (Ic6 (m:=m) hy1))<|ggE hr fun g1 hr=>e
 exact e
theorem j4C (n:Nat):∀ {m:Md} {a0:Expr} {r:Int},z1G n a0=some r→Okp 286 [Expr.x m a0] [] (dI r) []:=by
  induction n with
  | zero=>intro _ _ r hr;exact nomatch (show (none:Option Int)=some r from hr)
  | succ n ih=>intro _ _ r hr;exact j4B ih hr
theorem j6p {m:Md}{a0:Expr}{r:Int}(hr:z7L a0=some r):Okp 286 [Expr.x m a0] [] (dI r) []:=by
 obtain⟨n,hn⟩:=q6S hr
 exact j4C n hn
theorem j1V {Rc7:Expr→Option Int}(Ic7:∀ {m:Md} {a0:Expr} {r:Int},Rc7 a0=some r→Okp 287 [Expr.x m a0] [] (dI r) []){m:Md}{a0:Expr}{r:Int}(hr:z0Y Rc7 a0=some r):Okp 287 [Expr.x m a0] [] (dI r) []:=by
 refine OE Tryz.func287 fun S hS=>?_
 unfold z0Y at hr
 refine J g<|J (BX' 0)<|J (gn 15)<|J (lenA 6 0)<|fun hl1=>bdE hr fun s1 hqq1 hr=>q0d hqq1 hl1 1 (fun k1 s1=>[(3,dI s1),(7,rw7 m a0.Args),(8,dI (a0.Args.length:Int)),(9,dI (k1:Int))]) (fun k1 s1=>[]) I (fun k1 xk1 sk1 ok1 hxk1 hr hltk1=>?_) fun k1 hltk1=>?_
 obtain⟨s1,rfl⟩:∃ y,y=sk1:=⟨_,rfl⟩
 refine J g<|J (NV' 1)<|bdE hr fun y1 hy1 hr=>J g<|J (CB' [] [] (Ic7 (m:=m) hy1)) ?_
 refine J (MXI' rfl rfl)<|J g<|E
 refine ggE hr fun g1 hr=>e
theorem j1W (n:Nat):∀ {m:Md} {a0:Expr} {r:Int},q7W n a0=some r→Okp 287 [Expr.x m a0] [] (dI r) []:=by
  induction n with
  | zero=>intro _ _ r hr;exact nomatch (show (none:Option Int)=some r from hr)
  | succ n ih=>intro _ _ r hr;exact j1V ih hr
theorem j3s {m:Md}{a0:Expr}{r:Int}(hr:z5G a0=some r):Okp 287 [Expr.x m a0] [] (dI r) []:=by
 obtain⟨n,hn⟩:=q6S hr
 exact j1W n hn
theorem j8l {a0 r:Int}(hr:z6O a0=some r):Okp 293 [dI a0] [] (dI r) []:=by
 refine OE Tryz.func293 fun S hS=>?_
 unfold z6O at hr
 refine J g ?_
 refine J (MNI' rfl rfl) ?_
 refine J (MXI' rfl rfl)<|J g<|E
theorem k5U {a0:Bool}{r:Int}(hr:j3b a0=some r):Okp 294 [dB a0] [] (dI r) []:=by
 refine OE Tryz.func294 fun S hS=>?_
 unfold j3b at hr
 refine fE 9 hr ?_ ?_<;>intro h1 hr
 exact e
 exact e
theorem k2m {a0 a1 r:Int}(hr:z7N a0 a1=some r):Okp 292 [dI a0,dI a1] [] (dI r) []:=by
 refine OE Tryz.func292 fun S hS=>?_
 unfold z7N at hr
 refine fE 12 hr ?_ ?_<;>intro h1 hr
 refine bdE hr fun y1 hy1 hr=>J g<|J (CB' [] [] (j8l hy1))<|e
 refine fE 7 hr ?_ ?_<;>intro h2 hr
 refine J g<|J (OB' _ k3o)<|e
 refine fE 7 hr ?_ ?_<;>intro h3 hr
 refine bdE hr fun y2 hy2 hr=>J g<|J (CB' [] [] (k5U hy2))<|e
 refine fE 5 hr ?_ ?_<;>intro h4 hr
 refine bdE hr fun y3 hy3 hr=>J g<|J (CB' [] [] (q4J hy3))<|fE 3 hr ?_ ?_<;>intro h5 hr
 exact e
 exact e
 exact e
theorem j8m {a0 a1:Int}{r:Bool}(hr:z4J a0 a1=some r):Okp 290 [dI a0,dI a1] [] (dB r) []:=by
 refine OE Tryz.func290 fun S hS=>?_
 unfold z4J at hr
 refine bdE hr fun y1 hy1 hr=>J g<|J (CB' [] [] (j5i hy1))<|ifE hr ?_ ?_<;>intro h1 hr
 refine bdE hr fun y2 hy2 hr=>J g<|J (CB' [] [] (k2m hy2))<|e
 exact e
theorem q9r {m:Md}{a0 a1:Expr}{r:Bool}(hr:q7v a0 a1=some r):Okp 291 [Expr.x m a0,Expr.x m a1] [] (dB r) []:=by
 refine OE Tryz.func291 fun S hS=>?_
 unfold q7v at hr
 refine J g<|J (BX' 0)<|J (BX' 1)<|bdE hr fun s1 hqq1 hr=>J (gn 9)<|q0a 7 [(2,.pb 0 0),(3,.pb 1 0),(4,dB false),(16,dB s1)] ?_ ?_
 replace hr:=hqq1
 refine ifE hr ?_ ?_<;>intro h1 hr
 exact e
 exact e
 refine bdE hr fun s2 hqq2 hr=>q0a 7 [(2,.pb 0 0),(3,.pb 1 0),(4,dB false),(23,dB s2)] ?_ ?_
 replace hr:=hqq2
 refine ifE hr ?_ ?_<;>intro h2 hr
 exact e
 exact e
 refine bdE hr fun s3 hqq3 hr=>q0a 7 [(2,.pb 0 0),(3,.pb 1 0),(4,dB false),(30,dB s3)] ?_ ?_
 replace hr:=hqq3
 refine ifE hr ?_ ?_<;>intro h3 hr
 exact e
 exact e
 refine bdE hr fun s4 hqq4 hr=>q0a 7 [(2,.pb 0 0),(3,.pb 1 0),(4,dB false),(37,dB s4)] ?_ ?_
 replace hr:=hqq4
 refine ifE hr ?_ ?_<;>intro h4 hr
 exact e
 exact e
 refine bdE hr fun s5 hqq5 hr=>q0a 7 [(4,dB false),(44,dB s5)] ?_ ?_
 replace hr:=hqq5
 refine ifE hr ?_ ?_<;>intro h5 hr
 exact e
 exact e
 exact e
theorem j4D {m:Md}{a0:Expr}{r:Bool}(hr:z1Y a0=some r):Okp 288 [Expr.x m a0] [] (dB r) []:=by
 refine OE Tryz.func288 fun S hS=>?_
 unfold z1Y at hr
 refine J g<|J (BX' 0)<|J g<|J (NV' 1)<|fE 18 hr ?_ ?_<;>intro h1 hr
 refine bdE hr fun s1 hqq1 hr=>J (gn 17)<|q0a 8 [(1,.pb 0 0),(3,.pb 1 0),(4,dI 0),(30,dB s1)] ?_ ?_
 replace hr:=hqq1
 refine ifE hr ?_ ?_<;>intro h2 hr
 exact e
 refine bdE hr fun y1 hy1 hr=>J g<|J (CB' [] [] (j8m hy1))<|e
 refine bdE hr fun s2 hqq2 hr=>q0a 5 [(1,.pb 0 0),(3,.pb 1 0),(4,dI 0),(35,dB s2)] ?_ ?_
 replace hr:=hqq2
 refine ifE hr ?_ ?_<;>intro h3 hr
 exact e
 exact e
 refine fE 1 hr ?_ ?_<;>intro h4 hr
 exact e
 refine bdE hr fun s3 hqq3 hr=>J (gn 9)<|q0a 5 [(1,.pb 0 0),(3,.pb 1 0),(94,dB s3)] ?_ ?_
 replace hr:=hqq3
 refine ifE hr ?_ ?_<;>intro h5 hr
 refine bdE hr fun y2 hy2 hr=>J g<|J (CB' [] [] (q4J hy2))<|e
 exact e
 refine bdE hr fun s4 hqq4 hr=>q0a 5 [(99,dB s4)] ?_ ?_
 replace hr:=hqq4
 refine ifE hr ?_ ?_<;>intro h6 hr
 refine bdE hr fun y3 hy3 hr=>J g<|J (CB' [] [] (q9r (m:=m) hy3))<|e
 exact e
 exact e
 refine fE 6 hr ?_ ?_<;>intro h7 hr
 refine bdE hr fun y4 hy4 hr=>J g<|J (CB' [] [] (q6d hy4))<|fE 2 hr ?_ ?_<;>intro h8 hr
 refine bdE hr fun s5 hqq5 hr=>J (gn 9)<|q0a 5 [(1,.pb 0 0),(2,dB false),(3,.pb 1 0),(94,dB s5)] ?_ ?_
 replace hr:=hqq5
 refine ifE hr ?_ ?_<;>intro h9 hr
 refine bdE hr fun y5 hy5 hr=>J g<|J (CB' [] [] (q4J hy5))<|e
 exact e
 refine bdE hr fun s6 hqq6 hr=>q0a 5 [(2,dB false),(99,dB s6)] ?_ ?_
 replace hr:=hqq6
 refine ifE hr ?_ ?_<;>intro h10 hr
 refine bdE hr fun y6 hy6 hr=>J g<|J (CB' [] [] (q9r (m:=m) hy6))<|e
 exact e
 exact e
 exact e
 refine fE 6 hr ?_ ?_<;>intro h11 hr
 refine bdE hr fun y7 hy7 hr=>J g<|J (CB' [] [] (q4J hy7))<|fE 2 hr ?_ ?_<;>intro h12 hr
 refine bdE hr fun s7 hqq7 hr=>J (gn 9)<|q0a 5 [(1,.pb 0 0),(2,dB false),(3,.pb 1 0),(94,dB s7)] ?_ ?_
 replace hr:=hqq7
 refine ifE hr ?_ ?_<;>intro h13 hr
 refine bdE hr fun y8 hy8 hr=>J g<|J (CB' [] [] (q4J hy8))<|e
 exact e
 refine bdE hr fun s8 hqq8 hr=>q0a 5 [(2,dB false),(99,dB s8)] ?_ ?_
 replace hr:=hqq8
 refine ifE hr ?_ ?_<;>intro h14 hr
 refine bdE hr fun y9 hy9 hr=>J g<|J (CB' [] [] (q9r (m:=m) hy9))<|e
 exact e
 exact e
 exact e
 refine fE 6 hr ?_ ?_<;>intro h15 hr
 refine bdE hr fun s9 hqq9 hr=>J (gn 11)<|q0a 5 [(1,.pb 0 0),(2,dB false),(3,.pb 1 0),(94,dB s9)] ?_ ?_
 replace hr:=hqq9
 refine ifE hr ?_ ?_<;>intro h16 hr
 refine bdE hr fun y10 hy10 hr=>J g<|J (CB' [] [] (q4J hy10))<|e
 exact e
 refine bdE hr fun s10 hqq10 hr=>q0a 5 [(2,dB false),(99,dB s10)] ?_ ?_
 replace hr:=hqq10
 refine ifE hr ?_ ?_<;>intro h17 hr
 refine bdE hr fun y11 hy11 hr=>J g<|J (CB' [] [] (q9r (m:=m) hy11))<|e
 exact e
 exact e
 refine fE 6 hr ?_ ?_<;>intro h18 hr
 refine bdE hr fun s11 hqq11 hr=>J (gn 14)<|q0a 5 [(1,.pb 0 0),(2,dB false),(3,.pb 1 0),(94,dB s11)] ?_ ?_
 replace hr:=hqq11
 refine ifE hr ?_ ?_<;>intro h19 hr
 refine bdE hr fun y12 hy12 hr=>J g<|J (CB' [] [] (q4J hy12))<|e
 exact e
 refine bdE hr fun s12 hqq12 hr=>q0a 5 [(2,dB false),(99,dB s12)] ?_ ?_
 replace hr:=hqq12
 refine ifE hr ?_ ?_<;>intro h20 hr
 refine bdE hr fun y13 hy13 hr=>J g<|J (CB' [] [] (q9r (m:=m) hy13))<|e
 exact e
 exact e
 refine fE 6 hr ?_ ?_<;>intro h21 hr
 refine bdE hr fun y14 hy14 hr=>J g<|J (CB' [] [] (q6d hy14))<|bdE hr fun s13 hqq13 hr=>J (gn 1)<|q0a 6 [(1,.pb 0 0),(3,.pb 1 0),(4,dI 1),(81,dB s13)] ?_ ?_
 replace hr:=hqq13
 refine ifE hr ?_ ?_<;>intro h22 hr
 refine bdE hr fun y15 hy15 hr=>J g<|J (CB' [] [] (q6d hy15))<|e
 exact e
 refine fE 1 hr ?_ ?_<;>intro h23 hr
 exact e
 refine bdE hr fun s14 hqq14 hr=>J (gn 9)<|q0a 5 [(1,.pb 0 0),(3,.pb 1 0),(94,dB s14)] ?_ ?_
 replace hr:=hqq14
 refine ifE hr ?_ ?_<;>intro h24 hr
 refine bdE hr fun y16 hy16 hr=>J g<|J (CB' [] [] (q4J hy16))<|e
 exact e
 refine bdE hr fun s15 hqq15 hr=>q0a 5 [(99,dB s15)] ?_ ?_
 replace hr:=hqq15
 refine ifE hr ?_ ?_<;>intro h25 hr
 refine bdE hr fun y17 hy17 hr=>J g<|J (CB' [] [] (q9r (m:=m) hy17))<|e
 exact e
 exact e
 refine fE 7 hr ?_ ?_<;>intro h26 hr
 refine fE 2 hr ?_ ?_<;>intro h27 hr
 refine bdE hr fun s16 hqq16 hr=>J (gn 9)<|q0a 5 [(1,.pb 0 0),(2,dB false),(3,.pb 1 0),(94,dB s16)] ?_ ?_
 replace hr:=hqq16
 refine ifE hr ?_ ?_<;>intro h28 hr
 refine bdE hr fun y18 hy18 hr=>J g<|J (CB' [] [] (q4J hy18))<|e
 exact e
 refine bdE hr fun s17 hqq17 hr=>q0a 5 [(2,dB false),(99,dB s17)] ?_ ?_
 replace hr:=hqq17
 refine ifE hr ?_ ?_<;>intro h29 hr
 refine bdE hr fun y19 hy19 hr=>J g<|J (CB' [] [] (q9r (m:=m) hy19))<|e
 exact e
 exact e
 exact e
 refine fE 5 hr ?_ ?_<;>intro h30 hr
 refine bdE hr fun s18 hqq18 hr=>J (gn 9)<|q0a 5 [(1,.pb 0 0),(2,dB false),(3,.pb 1 0),(94,dB s18)] ?_ ?_
 replace hr:=hqq18
 refine ifE hr ?_ ?_<;>intro h31 hr
 refine bdE hr fun y20 hy20 hr=>J g<|J (CB' [] [] (q4J hy20))<|e
 exact e
 refine bdE hr fun s19 hqq19 hr=>q0a 5 [(2,dB false),(99,dB s19)] ?_ ?_
 replace hr:=hqq19
 refine ifE hr ?_ ?_<;>intro h32 hr
 refine bdE hr fun y21 hy21 hr=>J g<|J (CB' [] [] (q9r (m:=m) hy21))<|e
 exact e
 exact e
 exact e
theorem z4X {Rc8:Expr→Option Bool}(Ic8:∀ {m:Md} {a0:Expr} {r:Bool},Rc8 a0=some r→Okp 159 [Expr.x m a0,.fn 288 []] [] (dB r) []){m:Md}{a0:Expr}{r:Bool}(hr:q6R Rc8 a0=some r):Okp 202 [Expr.x m a0,.pb 0 0] [.box [.fn 288 []]] (dB r) [.box [.fn 288 []]]:=by
 refine OE Tryz.func202 fun S hS=>?_
 unfold q6R at hr
 refine J g<|J (BX' 1)<|bdE hr fun y1 hy1 hr=>J g<|J (CB' [] [] (Ic8 (m:=m) hy1))<|e
theorem q8B {Rc8:Expr→Option Bool}(Ic8:∀ {m:Md} {a0:Expr} {r:Bool},Rc8 a0=some r→Okp 159 [Expr.x m a0,.fn 288 []] [] (dB r) []){m:Md}{a0:List Expr}{r:Int}(hr:q4p Rc8 a0=some r):Okp 158 [rw7 m a0,.fn 202 [.pb 0 0]] [.box [.fn 288 []]] (dI r) [.box [.fn 288 []]]:=by
 refine OE Tryz.func158 fun S hS=>?_
 unfold q4p at hr
 refine J (gn 12)<|J (lenT 0)<|fun hl1=>bdE hr fun q1 hqq1 hr=>q0b hqq1 hl1 1 (fun k1 _=>[(0,rw7 m a0),(1,.fn 202 [.pb 0 0]),(7,dI (a0.length:Int)),(8,dI (k1:Int))]) (fun k1 _=>[]) I (fun k1 xk1 sk1 ok1 hxk1 hr hltk1 hik1=>?_) fun k1 sk1 ek1 hltk1=>?_
 refine bdE hr fun y1 hy1 hr=>J g<|J (CB' [(0,0)] [] (z4X Ic8 (m:=m) hy1))<|fE 1 hr ?_ ?_<;>intro h1 hr
 exact e
 exact e
 subst ek1
 exact e
theorem q8e {Rc8:Expr→Option Bool}(Ic8:∀ {m:Md} {a0:Expr} {r:Bool},Rc8 a0=some r→Okp 159 [Expr.x m a0,.fn 288 []] [] (dB r) []){m:Md}{a0:List Expr}{r:Bool}(hr:q4i Rc8 a0=some r):Okp 102 [rw7 m a0,.fn 202 [.pb 0 0]] [.box [.fn 288 []]] (dB r) [.box [.fn 288 []]]:=by
 refine OE Tryz.func102 fun S hS=>?_
 unfold q4i at hr
 refine bdE hr fun y1 hy1 hr=>J g<|J (CB' [(0,0)] [] (q8B Ic8 (m:=m) hy1))<|e
theorem z5l {Rc8:Expr→Option Bool}(Ic8:∀ {m:Md} {a0:Expr} {r:Bool},Rc8 a0=some r→Okp 159 [Expr.x m a0,.fn 288 []] [] (dB r) []){m:Md}{a0:Expr}{r:Bool}(hr:q6z Rc8 a0=some r):Okp 159 [Expr.x m a0,.fn 288 []] [] (dB r) []:=by
 refine OE Tryz.func159 fun S hS=>?_
 unfold q6z at hr
 refine J g<|J (BX' 0)<|J (BX' 1)<|bdE hr fun y1 hy1 hr=>J g<|J (CB' [] [] (j4D (m:=m) hy1))<|ifE hr ?_ ?_<;>intro h1 hr
 refine bdE hr fun y2 hy2 hr=>J g<|J (CB' [(0,1)] [] (q8e Ic8 (m:=m) hy2))<|e
 exact e
theorem z5m (n:Nat):∀ {m:Md} {a0:Expr} {r:Bool},q6A n a0=some r→Okp 159 [Expr.x m a0,.fn 288 []] [] (dB r) []:=by
  induction n with
  | zero=>intro _ _ r hr;exact nomatch (show (none:Option Bool)=some r from hr)
  | succ n ih=>intro _ _ r hr;exact z5l ih hr
theorem z5K {m:Md}{a0:Expr}{r:Bool}(hr:q9b a0=some r):Okp 159 [Expr.x m a0,.fn 288 []] [] (dB r) []:=by
 obtain⟨n,hn⟩:=q6S hr
 exact z5m n hn
theorem j3t {m:Md}{a0:Expr}{r:Bool}(hr:z0Z a0=some r):Okp 279 [Expr.x m a0] [] (dB r) []:=by
 refine OE Tryz.func279 fun S hS=>?_
 unfold z0Z at hr
 refine J g<|J (BX' 0)<|bdE hr fun y1 hy1 hr=>J g<|J (CB' [] [] (j6p (m:=m) hy1))<|bdE hr fun s1 hqq1 hr=>J (gn 1)<|q0a 5 [(1,.pb 0 0),(2,dB false),(10,dB s1)] ?_ ?_
 replace hr:=hqq1
 refine ifE hr ?_ ?_<;>intro h1 hr
 refine bdE hr fun y2 hy2 hr=>J g<|J (CB' [] [] (j3s (m:=m) hy2))<|e
 exact e
 refine bdE hr fun s2 hqq2 hr=>q0a 4 [(2,dB false),(14,dB s2)] ?_ ?_
 replace hr:=hqq2
 refine ifE hr ?_ ?_<;>intro h2 hr
 refine bdE hr fun y3 hy3 hr=>J g<|J (CB' [] [] (z5K (m:=m) hy3))<|e
 exact e
 exact e
theorem k2n {m:Md}{a0:Expr}{a1:Int}{r:Bool}(hr:z9K a0 a1=some r):Okp 280 [Expr.x m a0,.pb 0 0] [bx9 a1] (dB r) [bx9 a1]:=by
 refine OE Tryz.func280 fun S hS=>?_
 unfold z9K at hr
 refine J g<|J (BX' 1)<|e
theorem z6X {Rc9:Expr→Int→Option Bool}(Ic9:∀ {m:Md} {a0:Expr} {a1_0:Int} {r:Bool},Rc9 a0 a1_0=some r→Okp 159 [Expr.x m a0,.fn 280 [.pb 0 0]] [bx9 a1_0] (dB r) [bx9 a1_0]){m:Md}{a0:Expr}{a1_0:Int}{r:Bool}(hr:q8y Rc9 a0 a1_0=some r):Okp 202 [Expr.x m a0,.pb 1 0] [bx9 a1_0,.box [.fn 280 [.pb 0 0]]] (dB r) [bx9 a1_0,.box [.fn 280 [.pb 0 0]]]:=by
 refine OE Tryz.func202 fun S hS=>?_
 unfold q8y at hr
 refine J g<|J (BX' 2)<|bdE hr fun y1 hy1 hr=>J g<|J (CB' [(0,0)] [] (Ic9 (m:=m) hy1))<|e
theorem q9j {Rc9:Expr→Int→Option Bool}(Ic9:∀ {m:Md} {a0:Expr} {a1_0:Int} {r:Bool},Rc9 a0 a1_0=some r→Okp 159 [Expr.x m a0,.fn 280 [.pb 0 0]] [bx9 a1_0] (dB r) [bx9 a1_0]){m:Md}{a0:List Expr}{a1_0_0 r:Int}(hr:q4C Rc9 a0 a1_0_0=some r):Okp 158 [rw7 m a0,.fn 202 [.pb 1 0]] [bx9 a1_0_0,.box [.fn 280 [.pb 0 0]]] (dI r) [bx9 a1_0_0,.box [.fn 280 [.pb 0 0]]]:=by
 refine OE Tryz.func158 fun S hS=>?_
 unfold q4C at hr
 refine J (gn 12)<|J (lenT 0)<|fun hl1=>bdE hr fun q1 hqq1 hr=>q0b hqq1 hl1 2 (fun k1 _=>[(0,rw7 m a0),(1,.fn 202 [.pb 1 0]),(7,dI (a0.length:Int)),(8,dI (k1:Int))]) (fun k1 _=>[]) I (fun k1 xk1 sk1 ok1 hxk1 hr hltk1 hik1=>?_) fun k1 sk1 ek1 hltk1=>?_
 refine bdE hr fun y1 hy1 hr=>J g<|J (CB' [(0,0),(1,1)] [] (z6X Ic9 (m:=m) hy1))<|fE 1 hr ?_ ?_<;>intro h1 hr
 exact e
 exact e
 subst ek1
 exact e
theorem q8N {Rc9:Expr→Int→Option Bool}(Ic9:∀ {m:Md} {a0:Expr} {a1_0:Int} {r:Bool},Rc9 a0 a1_0=some r→Okp 159 [Expr.x m a0,.fn 280 [.pb 0 0]] [bx9 a1_0] (dB r) [bx9 a1_0]){m:Md}{a0:List Expr}{a1_0_0:Int}{r:Bool}(hr:q4w Rc9 a0 a1_0_0=some r):Okp 102 [rw7 m a0,.fn 202 [.pb 1 0]] [bx9 a1_0_0,.box [.fn 280 [.pb 0 0]]] (dB r) [bx9 a1_0_0,.box [.fn 280 [.pb 0 0]]]:=by
 refine OE Tryz.func102 fun S hS=>?_
 unfold q4w at hr
 refine bdE hr fun y1 hy1 hr=>J g<|J (CB' [(0,0),(1,1)] [] (q9j Ic9 (m:=m) hy1))<|e
theorem z7t {Rc9:Expr→Int→Option Bool}(Ic9:∀ {m:Md} {a0:Expr} {a1_0:Int} {r:Bool},Rc9 a0 a1_0=some r→Okp 159 [Expr.x m a0,.fn 280 [.pb 0 0]] [bx9 a1_0] (dB r) [bx9 a1_0]){m:Md}{a0:Expr}{a1_0:Int}{r:Bool}(hr:q7K Rc9 a0 a1_0=some r):Okp 159 [Expr.x m a0,.fn 280 [.pb 0 0]] [bx9 a1_0] (dB r) [bx9 a1_0]:=by
 refine OE Tryz.func159 fun S hS=>?_
 unfold q7K at hr
 refine J g<|J (BX' 1)<|J (BX' 2)<|bdE hr fun y1 hy1 hr=>J g<|J (CB' [(0,0)] [] (k2n (m:=m) hy1))<|ifE hr ?_ ?_<;>intro h1 hr
 refine bdE hr fun y2 hy2 hr=>J g<|J (CB' [(0,0),(1,2)] [] (q8N Ic9 (m:=m) hy2))<|e
 exact e
theorem z7u (n:Nat):∀ {m:Md} {a0:Expr} {a1_0:Int} {r:Bool},q7L n a0 a1_0=some r→Okp 159 [Expr.x m a0,.fn 280 [.pb 0 0]] [bx9 a1_0] (dB r) [bx9 a1_0]:=by
  induction n with
  | zero=>intro _ _ _ r hr;exact nomatch (show (none:Option Bool)=some r from hr)
  | succ n ih=>intro _ _ _ r hr;exact z7t ih hr
theorem z8d {m:Md}{a0:Expr}{a1_0:Int}{r:Bool}(hr:z0O a0 a1_0=some r):Okp 159 [Expr.x m a0,.fn 280 [.pb 0 0]] [bx9 a1_0] (dB r) [bx9 a1_0]:=by
 obtain⟨n,hn⟩:=q6S hr
 exact z7u n hn
theorem j6q {m:Md}{a0:Expr}{a1:Int}{r:Bool}(hr:z9c a0 a1=some r):Okp 261 [Expr.x m a0,dI a1] [] (dB r) []:=by
 refine OE Tryz.func261 fun S hS=>?_
 unfold z9c at hr
 refine J g<|J (BX' 0)<|J (BX' 1)<|bdE hr fun y1 hy1 hr=>J g<|J (CB' [] [] (j3t (m:=m) hy1))<|ifE hr ?_ ?_<;>intro h1 hr
 refine bdE hr fun y2 hy2 hr=>J g<|J (CB' [(0,1)] [] (z8d (m:=m) hy2))<|e
 exact e
theorem j3u {m:Md}{a0:Rule}{r:Bool}(hr:z1a a0=some r):Okp 221 [Rule.x m a0] [] (dB r) []:=by
 refine OE Tryz.func221 fun S hS=>?_
 unfold z1a at hr
 refine J g<|J (BX' 0)<|bdE hr fun y1 hy1 hr=>J g<|J (CB' [] [] (q6d hy1))<|bdE hr fun s1 hqq1 hr=>J (gn 1)<|q0a 6 [(1,.pb 0 0),(3,dI (a0.rt_.length:Int)),(22,dB s1)] ?_ ?_
 replace hr:=hqq1
 refine ifE hr ?_ ?_<;>intro h1 hr
 refine bdE hr fun y2 hy2 hr=>J g<|J (CB' [] [] (q6d hy2))<|e
 exact e
 refine bdE hr fun s2 hqq2 hr=>q0a 4 [(1,.pb 0 0),(3,dI (a0.rt_.length:Int)),(26,dB s2)] ?_ ?_
 replace hr:=hqq2
 refine ifE hr ?_ ?_<;>intro h2 hr
 exact e
 exact e
 refine bdE hr fun s3 hqq3 hr=>q0a 6 [(1,.pb 0 0),(3,dI (a0.rt_.length:Int)),(32,dB s3)] ?_ ?_
 replace hr:=hqq3
 refine ifE hr ?_ ?_<;>intro h3 hr
 exact e
 exact e
 refine fE 1 hr ?_ ?_<;>intro h4 hr
 exact e
 refine J (gn 11)<|J (lenT 34)<|fun hl1=>bdE hr fun q4 hqq4 hr=>q0b hqq4 hl1 1 (fun k1 _=>[(1,.pb 0 0),(3,dI (a0.rt_.length:Int)),(34,rw2 m a0.rt_),(35,dI (a0.rt_.length:Int)),(36,dI (k1:Int))]) (fun k1 _=>[]) I (fun k1 xk1 sk1 ok1 hxk1 hr hltk1 hik1=>?_) fun k1 sk1 ek1 hltk1=>?_
 refine bdE hr fun y3 hy3 hr=>J g<|J (CB' [] [] (q6d hy3))<|fE 2 hr ?_ ?_<;>intro h5 hr
 exact e
 exact e
 subst ek1
 refine J (gn 16)<|J (lenT 45)<|fun hl2=>bdE hr fun q5 hqq5 hr=>q0b hqq5 hl2 1 (fun k2 _=>[(1,.pb 0 0),(3,dI (a0.rt_.length:Int)),(45,rw8 m a0.es_),(46,dI (a0.es_.length:Int)),(47,dI (k2:Int))]) (fun k2 _=>[]) I (fun k2 xk2 sk2 ok2 hxk2 hr hltk2 hik2=>?_) fun k2 sk2 ek2 hltk2=>?_
 refine J g<|J (NV' 1)<|bdE hr fun y4 hy4 hr=>J g<|J (CB' [] [] (j6q (m:=m) hy4))<|bdE hr fun s4 hqq6 hr=>J (gn 1)<|q0a 7 [(1,.pb 0 0),(3,dI (a0.rt_.length:Int)),(7,.pb 1 0),(45,rw8 m a0.es_),(46,dI (a0.es_.length:Int)),(47,dI (k2:Int)),(62,dB s4)] ?_ ?_
 replace hr:=hqq6
 refine ifE hr ?_ ?_<;>intro h6 hr
 refine bdE hr fun y5 hy5 hr=>J g<|J (CB' [] [] (q6d hy5))<|e
 exact e
 refine bdE hr fun s5 hqq7 hr=>q0a 8 [(1,.pb 0 0),(3,dI (a0.rt_.length:Int)),(45,rw8 m a0.es_),(46,dI (a0.es_.length:Int)),(47,dI (k2:Int)),(70,dB s5)] ?_ ?_
 replace hr:=hqq7
 refine ifE hr ?_ ?_<;>intro h7 hr
 exact e
 refine bdE hr fun y6 hy6 hr=>J g<|J (CB' [] [] (q4J hy6))<|e
 refine fE 1 hr ?_ ?_<;>intro h8 hr
 exact e
 exact e
 subst ek2
 refine J (gn 16)<|J (lenT 73)<|fun hl3=>bdE hr fun q8 hqq8 hr=>q0b hqq8 hl3 1 (fun k3 _=>[(3,dI (a0.rt_.length:Int)),(73,rw9 m a0.cs_),(74,dI (a0.cs_.length:Int)),(75,dI (k3:Int))]) (fun k3 _=>[]) I (fun k3 xk3 sk3 ok3 hxk3 hr hltk3 hik3=>?_) fun k3 sk3 ek3 hltk3=>?_
 refine J g<|J (NV' 1)<|bdE hr fun y7 hy7 hr=>J g<|J (CB' [] [] (j6q (m:=m) hy7))<|bdE hr fun s6 hqq9 hr=>J (gn 1)<|q0a 7 [(3,dI (a0.rt_.length:Int)),(9,.pb 1 0),(73,rw9 m a0.cs_),(74,dI (a0.cs_.length:Int)),(75,dI (k3:Int)),(90,dB s6)] ?_ ?_
 replace hr:=hqq9
 refine ifE hr ?_ ?_<;>intro h9 hr
 refine bdE hr fun y8 hy8 hr=>J g<|J (CB' [] [] (j6q (m:=m) hy8))<|e
 exact e
 refine bdE hr fun s7 hqq10 hr=>q0a 6 [(3,dI (a0.rt_.length:Int)),(9,.pb 1 0),(73,rw9 m a0.cs_),(74,dI (a0.cs_.length:Int)),(75,dI (k3:Int)),(96,dB s7)] ?_ ?_
 replace hr:=hqq10
 refine ifE hr ?_ ?_<;>intro h10 hr
 exact e
 refine bdE hr fun y9 hy9 hr=>J g<|J (CB' [] [] (q6d hy9))<|e
 refine bdE hr fun s8 hqq11 hr=>q0a 6 [(3,dI (a0.rt_.length:Int)),(73,rw9 m a0.cs_),(74,dI (a0.cs_.length:Int)),(75,dI (k3:Int)),(102,dB s8)] ?_ ?_
 replace hr:=hqq11
 refine ifE hr ?_ ?_<;>intro h11 hr
 exact e
 refine bdE hr fun y10 hy10 hr=>J g<|J (CB' [] [] (q6d hy10))<|e
 refine fE 1 hr ?_ ?_<;>intro h12 hr
 exact e
 exact e
 subst ek3
 exact e
theorem j1X {m m2:Md}{a0 a1:Rule}{r:Bool}(hr:z1Z a0 a1=some r):Okp 222 [Rule.x m a0,.pb 0 0] [bx1 m2 m2 m2 a1] (dB r) [bx1 m2 m2 m2 a1]:=by
 refine OE Tryz.func222 fun S hS=>?_
 unfold z1Z at hr
 refine J g<|J (BX' 1)<|e
theorem z0G {m m2:Md}{a0:List Rule}{a1_0:Rule}{r:Int}(hr:q5s a0 a1_0=some r):Okp 157 [rw5 m a0,.fn 222 [.pb 0 0]] [bx1 m2 m2 m2 a1_0] (dI r) [bx1 m2 m2 m2 a1_0]:=by
 refine OE Tryz.func157 fun S hS=>?_
 unfold q5s at hr
 refine J (gn 12)<|J (lenT 0)<|fun hl1=>bdE hr fun q1 hqq1 hr=>q0b hqq1 hl1 1 (fun k1 _=>[(0,rw5 m a0),(1,.fn 222 [.pb 0 0]),(7,dI (a0.length:Int)),(8,dI (k1:Int))]) (fun k1 _=>[]) I (fun k1 xk1 sk1 ok1 hxk1 hr hltk1 hik1=>?_) fun k1 sk1 ek1 hltk1=>?_
 refine bdE hr fun y1 hy1 hr=>J g<|J (CB' [(0,0)] [] (j1X (m:=m) (m2:=m2) hy1))<|fE 1 hr ?_ ?_<;>intro h1 hr
 exact e
 exact e
 subst ek1
 exact e
theorem q9W {m m2:Md}{a0:List Rule}{a1_0:Rule}{r:Bool}(hr:q4Z a0 a1_0=some r):Okp 100 [rw5 m a0,.fn 222 [.pb 0 0]] [bx1 m2 m2 m2 a1_0] (dB r) [bx1 m2 m2 m2 a1_0]:=by
 refine OE Tryz.func100 fun S hS=>?_
 unfold q4Z at hr
 refine bdE hr fun y1 hy1 hr=>J g<|J (CB' [(0,0)] [] (z0G (m:=m) (m2:=m2) hy1))<|e
theorem j4E {m:Md}{a0:Gm_}{r:Int}(hr:z2a a0=some r):Okp 192 [Gm_.x m a0] [] (dI r) []:=by
 refine OE Tryz.func192 fun S hS=>?_
 unfold z2a at hr
 refine J g<|J (BX' 0)<|J (gn 11)<|J (lenA 0 0)<|fun hl1=>bdE hr fun q1 hqq1 hr=>q0b hqq1 hl1 1 (fun k1 _=>[(1,.pb 0 0),(8,rw3 m a0.ss_),(9,dI (a0.ss_.length:Int)),(10,dI (k1:Int))]) (fun k1 _=>[]) I (fun k1 xk1 sk1 ok1 hxk1 hr hltk1 hik1=>?_) fun k1 sk1 ek1 hltk1=>?_
 refine J g<|J (NV' 1)<|bdE hr fun y1 hy1 hr=>J g<|J (CB' [] [] (j0Q (m:=m) hy1))<|fE 1 hr ?_ ?_<;>intro h1 hr
 refine ggE hr fun g1 hr=>J g<|J (SLH' (Eaz _) g1)<|bdE hr fun y2 hy2 hr=>J g<|J (CB' [(0,1)] [] (q9B (m:=m) (m2:=m) hy2))<|fE 2 hr ?_ ?_<;>intro h2 hr
 exact e
 exact e
 exact e
 subst ek1
 refine J (gn 16)<|J (lenT 29)<|fun hl2=>bdE hr fun q2 hqq2 hr=>q0b hqq2 hl2 1 (fun k2 _=>[(1,.pb 0 0),(29,rw5 m a0.rs_),(30,dI (a0.rs_.length:Int)),(31,dI (k2:Int))]) (fun k2 _=>[]) I (fun k2 xk2 sk2 ok2 hxk2 hr hltk2 hik2=>?_) fun k2 sk2 ek2 hltk2=>?_
 refine J g<|J (NV' 1)<|bdE hr fun y3 hy3 hr=>J g<|J (CB' [] [] (j3u (m:=m) hy3))<|fE 1 hr ?_ ?_<;>intro h3 hr
 refine ggE hr fun g2 hr=>J g<|J (SLH' (Eaz _) g2)<|bdE hr fun y4 hy4 hr=>J g<|J (CB' [(0,1)] [] (q9W (m:=m) (m2:=m) hy4))<|fE 2 hr ?_ ?_<;>intro h4 hr
 exact e
 exact e
 exact e
 subst ek2
 exact e
theorem j1Y {a0:At_}{r:Bool}(hr:z2b a0=some r):Okp 193 [At_.x .fz a0] [] (dB r) []:=by
 refine OE Tryz.func193 fun S hS=>?_
 unfold z2b at hr
 refine J g<|J (BX' 0)<|e
theorem q9C {m:Md}{a0:List At_}{r:Int}(hr:q4Q a0=some r):Okp 161 [rw6 m a0,.fn 193 []] [] (dI r) []:=by
 refine OE Tryz.func161 fun S hS=>?_
 unfold q4Q at hr
 refine J (gn 12)<|J (lenT 0)<|fun hl1=>bdE hr fun q1 hqq1 hr=>q0b hqq1 hl1 0 (fun k1 _=>[(0,rw6 m a0),(1,.fn 193 []),(7,dI (a0.length:Int)),(8,dI (k1:Int))]) (fun k1 _=>[]) I (fun k1 xk1 sk1 ok1 hxk1 hr hltk1 hik1=>?_) fun k1 sk1 ek1 hltk1=>?_
 refine bdE hr fun y1 hy1 hr=>J g<|J (CB' [] [] (j1Y hy1))<|fE 1 hr ?_ ?_<;>intro h1 hr
 exact e
 exact e
 subst ek1
 exact e
theorem q8U {m:Md}{a0:List At_}{r:Bool}(hr:q4A a0=some r):Okp 107 [rw6 m a0,.fn 193 []] [] (dB r) []:=by
 refine OE Tryz.func107 fun S hS=>?_
 unfold q4A at hr
 refine bdE hr fun y1 hy1 hr=>J g<|J (CB' [] [] (q9C (m:=m) hy1))<|e
theorem z0s {m:Md}{a0:Rule}{a1:Int}{r:BA_}(hr:q7w a0 a1=some r):Okp 63 [Rule.x m a0,dI a1] [] (dS r) []:=by
 refine OE Tryz.func63 fun S hS=>?_
 unfold q7w at hr
 refine J g<|J (BX' 0)<|fE 10 hr ?_ ?_<;>intro h1 hr
 exact e
 refine bdE hr fun y1 hy1 hr=>J g<|J (CB' [] [] (q4J hy1))<|fE 2 hr ?_ ?_<;>intro h2 hr
 refine ggE hr fun g1 hr=>ggE hr fun g2 hr=>bdE hr fun x1 hx1 hr=>e
 exact e
theorem q9V {m:Md}{a0:Gm_}{a1:BA_}{r:(Symbol×Bool)}(hr:q6r a0 a1=some r):Okp 110 [Gm_.y m a0,dS a1] [] (.tu [Symbol.x m r.1,dB r.2]) []:=by
 refine OE Tryz.func110 fun S hS=>?_
 unfold q6r at hr
 refine J g<|J (BX' 0)<|J (NV' 1)<|J (gn 11)<|J (lenA 0 0)<|fun hl1=>bdE hr fun q1 hqq1 hr=>q0b hqq1 hl1 2 (fun k1 _=>[(1,dS a1),(4,.pb 1 0),(9,rw3 m a0.ss_),(10,dI (a0.ss_.length:Int)),(11,dI (k1:Int))]) (fun k1 _=>[]) I (fun k1 xk1 sk1 ok1 hxk1 hr hltk1 hik1=>?_) fun k1 sk1 ek1 hltk1=>?_
 refine J g<|J (NV' 2)<|fE 9 hr ?_ ?_<;>intro h1 hr
 exact e
 exact e
 subst ek1
 refine J (gn 14) ?_
 cases hr
 exact endA.ren [] 0 (.inr rfl) hS rfl rfl rfl (.tu (.cons (.ag (.cons .rfl (.cons .nld .nil))) (.cons .rfl .nil))) rfl rfl
theorem j9J {m:Md}{a0:Gm_}{a1:Rule}{r:Bool}(hr:z6a a0 a1=some r):Okp 194 [Gm_.y m a0,Rule.x m a1] [] (dB r) []:=by
 refine OE Tryz.func194 fun S hS=>?_
 unfold z6a at hr
 refine J g<|J (BX' 0)<|J (BX' 1)<|ggE hr fun g1 hr=>J (gn 12)<|J (rngT 11)<|fun hl1=>bdE hr fun q1 hqq1 hr=>q0z hqq1 2 (fun k1 _=>[(2,.pb 0 0),(3,.pb 1 0),(11,dI ((a1.rt_.length+1:Nat):Int)),(12,dI (k1:Int))]) (fun k1 _=>[]) I (fun k1 sk1 ok1 hr hltk1 hik1=>?_) fun sk1 ek1=>?_
 refine bdE hr fun y1 hy1 hr=>J g<|J (CB' [] [] (z0s (m:=m) hy1))<|bdP hr fun y2 y3 hq2 hr=>J (CB' [] [] (q9V (m:=m) hq2))<|J g<|J (NV' 2)<|fE 8 hr ?_ ?_<;>intro h1 hr
 exact e
 exact e
 subst ek1
 exact e
theorem z8e {m:Md}{a0:Gm_}{a1:Rule}{r:List Oc}(hr:z0n a0 a1=some r):Okp 61 [Gm_.y m a0,Rule.x m a1] [] (.ref 0 none) [.row .fz 2 (r.map Oc.D)]:=by
 refine OE Tryz.func61 fun S hS=>?_
 unfold z0n at hr
 refine J g<|J (BX' 0)<|J (BX' 1)<|J g<|J (L0' 2 Oc.D)<|ggE hr fun g1 hr=>J (gn 12)<|J (rngT 16)<|fun hl1=>bdE hr fun s1 hqq1 hr=>q0n hqq1 3 (fun k1 s1=>[(2,.pb 0 0),(3,.pb 1 0),(5,.ref 2 none),(16,dI ((a1.rt_.length+1:Nat):Int)),(17,dI (k1:Int))]) (fun k1 s1=>[(2,.row .fz 2 (s1.map Oc.D))]) I (fun k1 sk1 ok1 hr hltk1=>?_) ?_
 obtain⟨s1,rfl⟩:∃ y,y=sk1:=⟨_,rfl⟩
 refine bdE hr fun s2 hqq2 hr=>J (gn 24)<|q0e 3 [(2,.pb 0 0),(3,.pb 1 0),(5,.ref 2 none),(6,dI (k1:Int)),(7,dI s2),(16,dI ((a1.rt_.length+1:Nat):Int)),(17,dI (k1:Int))] [] ?_ ?_
 replace hr:=hqq2
 refine ifE hr ?_ ?_<;>intro h1 hr
 exact e
 exact e
 refine bdE hr fun y1 hy1 hr=>J g<|J (CB' [] [] (z0s (m:=m) hy1))<|bdP hr fun y2 y3 hq3 hr=>J (CB' [] [] (q9V (m:=m) hq3))<|J g<|J (NV' 3)<|J (gn 11) ?_
 refine AW.len (.ag 1 (.tu 0 (.tmp 22 rfl) rfl) rfl) fun hl2=>?_
 refine bdE hr fun s3 hqq4 hr=>q0d hqq4 hl2 4 (fun k2 s3=>[(2,.pb 0 0),(3,.pb 1 0),(5,.ref 2 none),(6,dI (k1:Int)),(7,dI s2),(16,dI ((a1.rt_.length+1:Nat):Int)),(17,dI (k1:Int)),(31,rw6 m y2.as_),(32,dI (y2.as_.length:Int)),(33,dI (k2:Int))]) (fun k2 s3=>[(2,.row .fz 2 (s3.map Oc.D))]) I (fun k2 xk2 sk2 ok2 hxk2 hr hltk2=>?_) fun k2 hltk2=>?_
 obtain⟨s3,rfl⟩:∃ y,y=sk2:=⟨_,rfl⟩
 refine bdE hr fun s4 hqq5 hr=>J (gn 8)<|q0e 4 [(2,.pb 0 0),(3,.pb 1 0),(5,.ref 2 none),(6,dI (k1:Int)),(7,dI s2),(16,dI ((a1.rt_.length+1:Nat):Int)),(17,dI (k1:Int)),(31,rw6 m y2.as_),(32,dI (y2.as_.length:Int)),(33,dI (k2:Int))] [(2,.row .fz 2 (s4.map Oc.D))] ?_ ?_
 replace hr:=hqq5
 refine J g<|J (NV' 4)<|fE 9 hr ?_ ?_<;>intro h2 hr
 refine J g<|J (LIR' 5 (m:=.fz) (f:=Oc.D) (xs:=[(⟨(k1:Int),xk2.Name⟩:Oc)]))<|ggE hr fun g2 hr=>J (z1p (f:=Oc.D) 6 (fun _=>rfl) 24 g2)<|e
 exact e
 exact e
 exact e
 exact e
theorem j3v {m:Md}{a0:Eqn}{a1:Oc}{r:Bool}(hr:z3l a0 a1=some r):Okp 225 [Eqn.x m a0,.pb 0 0] [.box [dI a1.Pos,dS a1.Name]] (dB r) [.box [dI a1.Pos,dS a1.Name]]:=by
 refine OE Tryz.func225 fun S hS=>?_
 unfold z3l at hr
 refine J g<|J (BX' 1)<|J g ?_
 refine J (SQ' rfl rfl rfl rfl (q6E a0.At a1))<|J g<|E
theorem q9X {m:Md}{a0:List Eqn}{a1_0:Oc}{r:Int}(hr:q5a a0 a1_0=some r):Okp 262 [rw8 m a0,.fn 225 [.pb 0 0]] [.box [dI a1_0.Pos,dS a1_0.Name]] (dI r) [.box [dI a1_0.Pos,dS a1_0.Name]]:=by
 refine OE Tryz.func262 fun S hS=>?_
 unfold q5a at hr
 refine J (gn 12)<|J (lenT 0)<|fun hl1=>bdE hr fun q1 hqq1 hr=>q0b hqq1 hl1 1 (fun k1 _=>[(0,rw8 m a0),(1,.fn 225 [.pb 0 0]),(7,dI (a0.length:Int)),(8,dI (k1:Int))]) (fun k1 _=>[]) I (fun k1 xk1 sk1 ok1 hxk1 hr hltk1 hik1=>?_) fun k1 sk1 ek1 hltk1=>?_
 refine bdE hr fun y1 hy1 hr=>J g<|J (CB' [(0,0)] [] (j3v (m:=m) hy1))<|fE 1 hr ?_ ?_<;>intro h1 hr
 exact e
 exact e
 subst ek1
 exact e
theorem q9o {m:Md}{a0:List Eqn}{a1_0:Oc}{r:Bool}(hr:q4L a0 a1_0=some r):Okp 224 [rw8 m a0,.fn 225 [.pb 0 0]] [.box [dI a1_0.Pos,dS a1_0.Name]] (dB r) [.box [dI a1_0.Pos,dS a1_0.Name]]:=by
 refine OE Tryz.func224 fun S hS=>?_
 unfold q4L at hr
 refine bdE hr fun y1 hy1 hr=>J g<|J (CB' [(0,0)] [] (q9X (m:=m) hy1))<|e
theorem j6r {m2:Md}{a0:Oc}{a1:Rule}{r:Bool}(hr:z5p a0 a1=some r):Okp 223 [Oc.x .fz a0,.pb 0 0] [bx1 m2 m2 m2 a1] (dB r) [bx1 m2 m2 m2 a1]:=by
 refine OE Tryz.func223 fun S hS=>?_
 unfold z5p at hr
 refine J g<|J (BX' 1)<|bdE hr fun y1 hy1 hr=>J g<|J (CB' [(0,1)] [] (q9o (m:=m2) hy1))<|e
theorem q9Y {m2:Md}{a0:List Oc}{a1_0:Rule}{r:Int}(hr:q5b a0 a1_0=some r):Okp 118 [.ref 1 none,.fn 223 [.pb 0 0]] [bx1 m2 m2 m2 a1_0,.row .fz 2 (a0.map Oc.D)] (dI r) [bx1 m2 m2 m2 a1_0,.row .fz 2 (a0.map Oc.D)]:=by
 refine OE Tryz.func118 fun S hS=>?_
 unfold q5b at hr
 refine J (gn 12)<|J (lenR 1)<|fun hl1=>bdE hr fun q1 hqq1 hr=>q0b hqq1 hl1 2 (fun k1 _=>[(0,.ref 1 none),(1,.fn 223 [.pb 0 0]),(7,dI (a0.length:Int)),(8,dI (k1:Int))]) (fun k1 _=>[]) I (fun k1 xk1 sk1 ok1 hxk1 hr hltk1 hik1=>?_) fun k1 sk1 ek1 hltk1=>?_
 refine bdE hr fun y1 hy1 hr=>J g<|J (CB' [(0,0)] [] (j6r (m2:=m2) hy1))<|fE 1 hr ?_ ?_<;>intro h1 hr
 exact e
 exact e
 subst ek1
 exact e
theorem q9p {m2:Md}{a0:List Oc}{a1_0:Rule}{r:Bool}(hr:q4M a0 a1_0=some r):Okp 69 [.ref 1 none,.fn 223 [.pb 0 0]] [bx1 m2 m2 m2 a1_0,.row .fz 2 (a0.map Oc.D)] (dB r) [bx1 m2 m2 m2 a1_0,.row .fz 2 (a0.map Oc.D)]:=by
 refine OE Tryz.func69 fun S hS=>?_
 unfold q4M at hr
 refine bdE hr fun y1 hy1 hr=>J g<|J (CB' [(0,0),(1,1)] [] (q9Y (m2:=m2) hy1))<|e
theorem j9K {m:Md}{a0:Gm_}{a1:Rule}{r:Bool}(hr:z6b a0 a1=some r):Okp 195 [Gm_.y m a0,Rule.x m a1] [] (dB r) []:=by
 refine OE Tryz.func195 fun S hS=>?_
 unfold z6b at hr
 refine J g<|J (BX' 0)<|J (BX' 1)<|bdE hr fun y1 hy1 hr=>J g<|J (CB' [(0,2)] [] (z8e (m:=m) hy1))<|bdE hr fun y2 hy2 hr=>J g<|J (CB' [(0,1),(1,2)] [] (q9p (m2:=m) hy2))<|e
theorem z0L {m:Md}{a0:List Oc}{a1:Oc}{r:Int}(hr:q4a a0 a1=some r):Okp 119 [rw4 m a0,Oc.x .fz a1] [] (dI r) []:=by
 refine OE Tryz.func119 fun S hS=>?_
 unfold q4a at hr
 refine J g<|J (BX' 0)<|J (gn 10)<|J (lenT 0)<|fun hl1=>bdE hr fun q1 hqq1 hr=>q0b hqq1 hl1 1 (fun k1 _=>[(0,rw4 m a0),(3,.pb 0 0),(7,dI (a0.length:Int)),(8,dI (k1:Int))]) (fun k1 _=>[]) I (fun k1 xk1 sk1 ok1 hxk1 hr hltk1 hik1=>?_) fun k1 sk1 ek1 hltk1=>?_
 refine J g ?_
 refine J (SQ' rfl rfl rfl rfl (q6E a1 xk1))<|fE 1 hr ?_ ?_<;>intro h1 hr
 exact e
 exact e
 subst ek1
 exact e
theorem q5i {m:Md}{a0:List Oc}{a1:Oc}{r:Bool}(hr:q3R a0 a1=some r):Okp 71 [rw4 m a0,Oc.x .fz a1] [] (dB r) []:=by
 refine OE Tryz.func71 fun S hS=>?_
 unfold q3R at hr
 refine J g<|J (BX' 0)<|bdE hr fun y1 hy1 hr=>J g<|J (CB' [] [] (z0L (m:=m) hy1))<|e
theorem j9L {m m2:Md}{a0 a1:Eqn}{r:Bool}(hr:z8A a0 a1=some r):Okp 226 [Eqn.x m a0,.pb 0 0] [bx6 m2 a1] (dB r) [bx6 m2 a1]:=by
 refine OE Tryz.func226 fun S hS=>?_
 unfold z8A at hr
 refine J g<|J (BX' 1)<|J g ?_
 refine J (SQ' rfl rfl rfl rfl (q6E a0.At a1.At))<|J g<|E
theorem z0R {m m2:Md}{a0:List Eqn}{a1_0:Eqn}{r:Int}(hr:q5z a0 a1_0=some r):Okp 262 [rw8 m a0,.fn 226 [.pb 0 0]] [bx6 m2 a1_0] (dI r) [bx6 m2 a1_0]:=by
 refine OE Tryz.func262 fun S hS=>?_
 unfold q5z at hr
 refine J (gn 12)<|J (lenT 0)<|fun hl1=>bdE hr fun q1 hqq1 hr=>q0b hqq1 hl1 1 (fun k1 _=>[(0,rw8 m a0),(1,.fn 226 [.pb 0 0]),(7,dI (a0.length:Int)),(8,dI (k1:Int))]) (fun k1 _=>[]) I (fun k1 xk1 sk1 ok1 hxk1 hr hltk1 hik1=>?_) fun k1 sk1 ek1 hltk1=>?_
 refine bdE hr fun y1 hy1 hr=>J g<|J (CB' [(0,0)] [] (j9L (m:=m) (m2:=m2) hy1))<|fE 1 hr ?_ ?_<;>intro h1 hr
 exact e
 exact e
 subst ek1
 exact e
theorem z0h {m m2:Md}{a0:List Eqn}{a1_0:Eqn}{r:Bool}(hr:q5k a0 a1_0=some r):Okp 224 [rw8 m a0,.fn 226 [.pb 0 0]] [bx6 m2 a1_0] (dB r) [bx6 m2 a1_0]:=by
 refine OE Tryz.func224 fun S hS=>?_
 unfold q5k at hr
 refine bdE hr fun y1 hy1 hr=>J g<|J (CB' [(0,0)] [] (z0R (m:=m) (m2:=m2) hy1))<|e
theorem k3F {m:Md}{a0:Gm_}{a1:Rule}{r:Bool}(hr:z9M a0 a1=some r):Okp 196 [Gm_.y m a0,Rule.x m a1] [] (dB r) []:=by
 refine OE Tryz.func196 fun S hS=>?_
 unfold z9M at hr
 refine J g<|J (BX' 0)<|J (BX' 1)<|bdE hr fun y1 hy1 hr=>J g<|J (CB' [(0,2)] [] (z8e (m:=m) hy1))<|J (gn 11)<|J (lenA 4 1)<|fun hl1=>bdE hr fun q1 hqq1 hr=>q0b hqq1 hl1 3 (fun k1 _=>[(3,.pb 1 0),(5,.ref 2 none),(12,rw8 m a1.es_),(13,dI (a1.es_.length:Int)),(14,dI (k1:Int))]) (fun k1 _=>[]) I (fun k1 xk1 sk1 ok1 hxk1 hr hltk1 hik1=>?_) fun k1 sk1 ek1 hltk1=>?_
 refine J g<|J (NV' 3)<|bdE hr fun y2 hy2 hr=>J g<|J (CB' [] [2] (q5i (m:=.bo) hy2))<|fE 1 hr ?_ ?_<;>intro h1 hr
 refine ggE hr fun g1 hr=>J g<|J (SLH' (Eaz _) g1)<|bdE hr fun y3 hy3 hr=>J g<|J (CB' [(0,3)] [] (z0h (m:=m) (m2:=m) hy3))<|fE 2 hr ?_ ?_<;>intro h2 hr
 exact e
 exact e
 exact e
 subst ek1
 exact e
theorem z8f {m:Md}{a0:Rule}{r:List Expr}(hr:q9S a0=some r):Okp 103 [Rule.x m a0] [] (.ref 0 none) [.row m 7 (r.map Expr.D)]:=by
 refine OE Tryz.func103 fun S hS=>?_
 unfold q9S at hr
 refine J g<|J (BX' 0)<|J g<|J (L0' 1 Expr.D)<|J (gn 11)<|J (lenA 4 0)<|fun hl1=>bdE hr fun s1 hqq1 hr=>?_
 refine q0d hqq1 hl1 2 (fun k1 s1=>[(1,.pb 0 0),(3,.ref 1 none),(10,rw8 m a0.es_),(11,dI (a0.es_.length:Int)),(12,dI (k1:Int))]) (fun k1 s1=>[(1,.row m 7 (s1.map Expr.D))]) (GH.trans (q3G (r:=1) m rfl) I) (fun k1 xk1 sk1 ok1 hxk1 hr hltk1=>?_) fun k1 hltk1=>?_
 obtain⟨s1,rfl⟩:∃ y,y=sk1:=⟨_,rfl⟩
 refine J g<|J (NV' 2)<|J g ?_
 refine J (k8j 3 (m:=m) (f:=Expr.D) [xk1.Expr] (by simp only[Bcz,Dpz,Expr.D_eq];rfl))<|ggE hr fun g1 hr=>J (AP1' 4 m 88 g1)<|J g<|E
 refine J (gn 16)<|J (lenT 23)<|fun hl2=>bdE hr fun s2 hqq2 hr=>q0d hqq2 hl2 2 (fun k2 s2=>[(3,.ref 1 none),(23,rw9 m a0.cs_),(24,dI (a0.cs_.length:Int)),(25,dI (k2:Int))]) (fun k2 s2=>[(1,.row m 7 (s2.map Expr.D))]) I (fun k2 xk2 sk2 ok2 hxk2 hr hltk2=>?_) fun k2 hltk2=>?_
 obtain⟨s2,rfl⟩:∃ y,y=sk2:=⟨_,rfl⟩
 refine J g<|J (NV' 2)<|J g ?_
 refine J (k8j 3 (m:=m) (f:=Expr.D) [xk2.Target,xk2.Value] (by simp only[Bcz,Dpz,Expr.D_eq];rfl))<|ggE hr fun g2 hr=>J (APB' 4 m 88 g2)<|J g<|E
 exact e
theorem z9l {m:Md}{a0:Expr}{o0:List Oc}{r:(Bool×(List Oc))}(hr:q8J a0 o0=some r):Okp 166 [Expr.x m a0,.pb 0 0] [.box [.ref 1 none],.row .fz 2 (o0.map Oc.D)] (dB r.1) [.box [.ref 2 none],.dead,.row .fz 2 (r.2.map Oc.D)]:=by
 refine OE Tryz.func166 fun S hS=>?_
 unfold q8J at hr
 refine J g<|J (BX' 2)<|fE 9 hr ?_ ?_<;>intro h1 hr
 refine J g<|J (LIR' 3 (m:=.fz) (f:=Oc.D) (xs:=[(⟨a0.Pos,a0.Name⟩:Oc)]))<|ggE hr fun g1 hr=>J (z1p (f:=Oc.D) 4 (fun _=>rfl) 24 g1)<|e
 refine J (gn 7) ?_
 refine J (q0c (q0v (i:=1) (j:=3) rfl rfl))<|J g<|E
theorem z2z {Rc10:Expr→(List Oc)→Option (Bool×(List Oc))}(Ic10:∀ {m:Md} {a0:Expr} {o0:List Oc} {r:(Bool×(List Oc))},Rc10 a0 o0=some r→Okp 159 [Expr.x m a0,.fn 166 [.pb 0 0]] [.box [.ref 1 none],.row .fz 2 (o0.map Oc.D)] (dB r.1) [.box [.ref 2 none],.dead,.row .fz 2 (r.2.map Oc.D)]){m:Md}{a0:Expr}{o0:List Oc}{r:(Bool×(List Oc))}(hr:q6g Rc10 a0 o0=some r):Okp 202 [Expr.x m a0,.pb 1 0] [.box [.ref 2 none],.box [.fn 166 [.pb 0 0]],.row .fz 2 (o0.map Oc.D)] (dB r.1) [.box [.ref 3 none],.box [.fn 166 [.pb 0 0]],.dead,.row .fz 2 (r.2.map Oc.D)]:=by
 refine OE Tryz.func202 fun S hS=>?_
 unfold q6g at hr
 refine J g<|J (BX' 3)<|bdP hr fun y1 z1 hq1 hr=>J g<|J (CB' [(0,0),(1,2),(2,4)] [] (Ic10 (m:=m) hq1))<|e
theorem q7P {Rc10:Expr→(List Oc)→Option (Bool×(List Oc))}(Ic10:∀ {m:Md} {a0:Expr} {o0:List Oc} {r:(Bool×(List Oc))},Rc10 a0 o0=some r→Okp 159 [Expr.x m a0,.fn 166 [.pb 0 0]] [.box [.ref 1 none],.row .fz 2 (o0.map Oc.D)] (dB r.1) [.box [.ref 2 none],.dead,.row .fz 2 (r.2.map Oc.D)]){m:Md}{a0:List Expr}{o0:List Oc}{r:(Int×(List Oc))}(hr:q4e Rc10 a0 o0=some r):Okp 158 [rw7 m a0,.fn 202 [.pb 1 0]] [.box [.ref 2 none],.box [.fn 166 [.pb 0 0]],.row .fz 2 (o0.map Oc.D)] (dI r.1) [.box [.ref 3 none],.box [.fn 166 [.pb 0 0]],.dead,.row .fz 2 (r.2.map Oc.D)]:=by
 refine OE Tryz.func158 fun S hS=>?_
 unfold q4e at hr
 refine J (gn 12) ?_
 refine J (q0P 2 3 rfl)<|J (lenT 0)<|fun hl1=>bdE hr fun q1 hqq1 hr=>q0b hqq1 hl1 4 (fun k1 s1=>[(0,rw7 m a0),(1,.fn 202 [.pb 1 0]),(7,dI (a0.length:Int)),(8,dI (k1:Int))]) (fun k1 s1=>[(3,.row .fz 2 (s1.map Oc.D))]) I (fun k1 xk1 sk1 ok1 hxk1 hr hltk1 hik1=>?_) fun k1 sk1 ek1 hltk1=>?_
 obtain⟨s1,rfl⟩:∃ y,y=sk1:=⟨_,rfl⟩
 refine bdP hr fun y1 z1 hq2 hr=>J g<|J (CB' [(0,0),(1,1),(2,3),(3,4)] [] (z2z Ic10 (m:=m) hq2))<|fE 1 hr ?_ ?_<;>intro h1 hr
 exact e
 exact e
 subst ek1
 obtain⟨s1,rfl⟩:∃ y,y=sk1:=⟨_,rfl⟩
 exact e
theorem q7m {Rc10:Expr→(List Oc)→Option (Bool×(List Oc))}(Ic10:∀ {m:Md} {a0:Expr} {o0:List Oc} {r:(Bool×(List Oc))},Rc10 a0 o0=some r→Okp 159 [Expr.x m a0,.fn 166 [.pb 0 0]] [.box [.ref 1 none],.row .fz 2 (o0.map Oc.D)] (dB r.1) [.box [.ref 2 none],.dead,.row .fz 2 (r.2.map Oc.D)]){m:Md}{a0:List Expr}{o0:List Oc}{r:(Bool×(List Oc))}(hr:q3Y Rc10 a0 o0=some r):Okp 102 [rw7 m a0,.fn 202 [.pb 1 0]] [.box [.ref 2 none],.box [.fn 166 [.pb 0 0]],.row .fz 2 (o0.map Oc.D)] (dB r.1) [.box [.ref 3 none],.box [.fn 166 [.pb 0 0]],.dead,.row .fz 2 (r.2.map Oc.D)]:=by
 refine OE Tryz.func102 fun S hS=>?_
 unfold q3Y at hr
 refine bdP hr fun y1 z1 hq1 hr=>J g<|J (CB' [(0,0),(1,1),(2,2),(3,3)] [] (q7P Ic10 (m:=m) hq1))<|e
theorem z2W {Rc10:Expr→(List Oc)→Option (Bool×(List Oc))}(Ic10:∀ {m:Md} {a0:Expr} {o0:List Oc} {r:(Bool×(List Oc))},Rc10 a0 o0=some r→Okp 159 [Expr.x m a0,.fn 166 [.pb 0 0]] [.box [.ref 1 none],.row .fz 2 (o0.map Oc.D)] (dB r.1) [.box [.ref 2 none],.dead,.row .fz 2 (r.2.map Oc.D)]){m:Md}{a0:Expr}{o0:List Oc}{r:(Bool×(List Oc))}(hr:q5D Rc10 a0 o0=some r):Okp 159 [Expr.x m a0,.fn 166 [.pb 0 0]] [.box [.ref 1 none],.row .fz 2 (o0.map Oc.D)] (dB r.1) [.box [.ref 2 none],.dead,.row .fz 2 (r.2.map Oc.D)]:=by
 refine OE Tryz.func159 fun S hS=>?_
 unfold q5D at hr
 refine J g<|J (BX' 2)<|J (BX' 3)<|bdP hr fun y1 z1 hq1 hr=>J g<|J (CB' [(0,0),(1,1),(2,4)] [] (z9l (m:=m) hq1))<|ifE hr ?_ ?_<;>intro h1 hr
 refine bdP hr fun y2 z2 hq2 hr=>J g<|J (CB' [(0,0),(1,3),(2,4),(3,5)] [] (q7m Ic10 (m:=m) hq2))<|e
 exact e
theorem z2X (n:Nat):∀ {m:Md} {a0:Expr} {o0:List Oc} {r:(Bool×(List Oc))},q5h n a0 o0=some r→Okp 159 [Expr.x m a0,.fn 166 [.pb 0 0]] [.box [.ref 1 none],.row .fz 2 (o0.map Oc.D)] (dB r.1) [.box [.ref 2 none],.dead,.row .fz 2 (r.2.map Oc.D)]:=by
  induction n with
  | zero=>intro _ _ _ r hr;exact nomatch (show (none:Option (Bool×(List Oc)))=some r from hr)
  | succ n ih=>intro _ _ _ r hr;exact z2W ih hr
theorem z3N {m:Md}{a0:Expr}{o0:List Oc}{r:(Bool×(List Oc))}(hr:q7x a0 o0=some r):Okp 159 [Expr.x m a0,.fn 166 [.pb 0 0]] [.box [.ref 1 none],.row .fz 2 (o0.map Oc.D)] (dB r.1) [.box [.ref 2 none],.dead,.row .fz 2 (r.2.map Oc.D)]:=by
 obtain⟨n,hn⟩:=q6S hr
 exact z2X n hn
theorem z3V {a0 r:List Oc}(hr:q6D a0=some r):Okp 167 [.ref 0 none,.fn 168 []] [.row .fz 2 (a0.map Oc.D)] (.tu []) [.row .fz 2 (r.map Oc.D)]:=by
 unfold q6D at hr
 refine ggE hr fun g1 hr=>?_
 cases hr
 exact k5T g1
theorem z4j {a0 r:List Oc}(hr:q5Y a0=some r):Okp 169 [.ref 0 none] [.row .fz 2 (a0.map Oc.D)] (.ref 1 none) [.dead,.row .fz 2 (r.map Oc.D)]:=by
 refine OE Tryz.func169 fun S hS=>?_
 unfold q5Y at hr
 refine fE 11 hr ?_ ?_<;>intro h1 hr
 refine J (gn 7) ?_
 refine J (q0c (q0v (i:=0) (j:=1) rfl rfl))<|J g<|E
 refine bdE hr fun q1 hqq1 hr=>J (gn 7)<|AW.cut 1 (fun _=>[(0,.ref 0 none)]) (fun _=>[]) (M:=fun x=>q1=.inl x) ?_ fun x hx=>?_
 refine J g<|q0i hqq1 1 (fun s1=>[(0,.ref 0 none),(3,dI s1)]) (fun s1=>[]) I fun sk1 ok1 hr hik1=>?_
 obtain⟨s1,rfl⟩:∃ y,y=sk1:=⟨_,rfl⟩
 have hr:=hr
 refine fE 8 hr ?_ ?_<;>intro h2 hr
 refine ggE hr fun g1 hr=>bdE hr fun x1 hx1 hr=>ggE hr fun g2 hr=>ggE hr fun g3 hr=>bdE hr fun x2 hx2 hr=>J g ?_
 refine J (SQ' rfl rfl rfl rfl (q6E x1 x2))<|fE 1 hr ?_ ?_<;>intro h3 hr
 refine ggE hr fun g4 hr=>ggE hr fun g5 hr=>J g<|J (SVL' g4 g5)<|bdP hr fun s2 s3 hqq2 hr=>J (gn 7)<|q0e 1 [(0,.ref 0 none),(3,dI s3)] [(0,.row .fz 2 (s2.map Oc.D))] ?_ ?_
 refine J g ?_
 refine q0i hqq2 1 (fun (s4,s5,s6)=>[(0,.ref 0 none),(3,dI s5),(4,.vs 0 none s1.toNat (s4.length-s1.toNat)),(5,dI s6)]) (fun (s4,s5,s6)=>[(0,.row .fz 2 (s4.map Oc.D))]) (GH.ren hS [(0,0)] 1 ⟨.rfl,.rfl,(.vn (by first|rfl|simp only[Cxz])),.rfl,trivial⟩) fun sk2 ok2 hr hik2=>?_
 obtain⟨s4,s5,s6⟩:=sk2
 have hr:=hr
 refine J g<|J (LV' (s4.drop s1.toNat).length)<|fE 2 hr ?_ ?_<;>intro h4 hr
 refine bdP hr fun s7 s8 hqq3 hr=>J (gn 3)<|q0e 1 [(0,.ref 0 none),(3,dI s7),(4,.vs 0 none s1.toNat (s8.length-s1.toNat)),(5,dI s6)] [(0,.row .fz 2 (s8.map Oc.D))] ?_ ?_
 replace hr:=hqq3
 refine ggE hr fun g6 hr=>bdE hr fun x3 hx3 hr=>J g<|J (IV' hx3 g6 (j0G hx3))<|ggE hr fun g7 hr=>ggE hr fun g8 hr=>bdE hr fun x4 hx4 hr=>J g<|J (IV' hx4 g8 (j0G hx4))<|J g ?_
 refine J (SQn' rfl rfl rfl rfl (q6E x3 x4))<|fE 1 hr ?_ ?_<;>intro h5 hr
 refine J (gn 2) ?_
 cases hr
 exact GH.ren hS [(0,0)] 1 ⟨.rfl,.rfl,(.vn (by first|rfl|simp only[Cxz])),.rfl,trivial⟩
 refine ggE hr fun g9 hr=>J g<|J (IV' hx3 g9 (j0G hx3))<|ggE hr fun g10 hr=>bdE hr fun x5 hx5 hr=>J g<|J (SE' x3 hx5)<|ggE hr fun g11 hr=>J (gn 6) ?_
 cases hr
 exact GH.ren hS [(0,0)] 1 ⟨.rfl,.rfl,(.vn (by first|rfl|simp only[Cxz])),.rfl,trivial⟩
 refine ggE hr fun g12 hr=>J (gn 5) ?_
 cases hr
 exact⟨_,rfl,GH.ren hS [(0,0)] 1 ⟨.rfl,.rfl,(.vn (by first|rfl|simp only[Cxz])),.rfl,trivial⟩⟩
 refine J (gn 2) ?_
 cases hr
 cases hik2 _ rfl
 exact q0g hS 1
 refine ggE hr fun g13 hr=>ggE hr fun g14 hr=>J g<|J (SVL' g13 g14)<|J (CLR' (⟨(0:Int),(⟨#[]⟩:BA_)⟩:Oc) g14)<|ggE hr fun g15 hr=>ggE hr fun g16 hr=>J g<|J (CU' 1 g15 g16)<|e
 refine ggE hr fun g17 hr=>e
 refine J (gn 2) ?_
 cases hr
 cases hik1 _ rfl
 exact⟨_,rfl,q0g hS 1⟩
 subst hx
 refine J (gn 6) ?_
 refine J (q0c (q0v (i:=0) (j:=1) rfl rfl))<|J g<|E
theorem z2Y {m:Md}{a0:Expr}{r:List Oc}(hr:q7y a0=some r):Okp 114 [Expr.x m a0] [] (.ref 0 none) [.row .fz 2 (r.map Oc.D)]:=by
 refine OE Tryz.func114 fun S hS=>?_
 unfold q7y at hr
 refine J g<|J (BX' 0)<|J g<|J (L0' 1 Oc.D)<|J (NV' 2)<|bdP hr fun y1 z1 hq1 hr=>J g<|J (CB' [(0,2),(1,1),(2,3)] [] (z3N (m:=m) hq1))<|bdE hr fun z2 hz2 hr=>J g<|J (CB' [(0,3)] [] (z3V hz2))<|bdE hr fun y2 hy2 hr=>J g<|J (CB' [(0,3),(1,4)] [] (z4j hy2))<|e
theorem z2Z {m:Md}{a0:Symbol}{a1:BA_}{r:(At_×Bool)}(hr:q7z a0 a1=some r):Okp 200 [Symbol.x m a0,dS a1] [] (.tu [At_.x .fz r.1,dB r.2]) []:=by
 refine OE Tryz.func200 fun S hS=>?_
 unfold q7z at hr
 refine J g<|J (BX' 0)<|J (NV' 1)<|J (gn 11)<|J (lenA 1 0)<|fun hl1=>bdE hr fun q1 hqq1 hr=>q0b hqq1 hl1 2 (fun k1 _=>[(1,dS a1),(4,.pb 1 0),(9,rw6 m a0.as_),(10,dI (a0.as_.length:Int)),(11,dI (k1:Int))]) (fun k1 _=>[]) I (fun k1 xk1 sk1 ok1 hxk1 hr hltk1 hik1=>?_) fun k1 sk1 ek1 hltk1=>?_
 refine J g<|J (NV' 2)<|fE 9 hr ?_ ?_<;>intro h1 hr
 exact e
 exact e
 subst ek1
 exact e
theorem z4Y {m:Md}{a0:Gm_}{a1:Rule}{a2:Oc}{r:(At_×Bool)}(hr:q8Q a0 a1 a2=some r):Okp 198 [Gm_.y m a0,Rule.x m a1,Oc.x .fz a2] [] (.tu [At_.x .fz r.1,dB r.2]) []:=by
 refine OE Tryz.func198 fun S hS=>?_
 unfold q8Q at hr
 refine J g<|J (BX' 0)<|J (BX' 1)<|J (BX' 2)<|J (NV' 3)<|bdE hr fun y1 hy1 hr=>J g<|J (CB' [] [] (q4J hy1))<|fE 2 hr ?_ ?_<;>intro h1 hr
 refine bdE hr fun y2 hy2 hr=>J g<|J (CB' [] [] (z0s (m:=m) hy2))<|bdP hr fun y3 y4 hq1 hr=>J (CB' [] [] (q9V (m:=m) hq1))<|J g<|J (NV' 4)<|bdP hr fun y5 y6 hq2 hr=>J g<|J (CB' [] [] (z2Z (m:=m) hq2))<|e
 exact e
theorem k2o {m:Md}{a0:Gm_}{a1:Rule}{a2:Oc}{r:Bool}(hr:z7T a0 a1 a2=some r):Okp 229 [Gm_.y m a0,Rule.x m a1,Oc.x .fz a2] [] (dB r) []:=by
 refine OE Tryz.func229 fun S hS=>?_
 unfold z7T at hr
 refine J g<|J (BX' 0)<|J (BX' 1)<|J (BX' 2)<|bdP hr fun y1 y2 hq1 hr=>J g<|J (CB' [] [] (z4Y (m:=m) hq1))<|J g<|J (NV' 3)<|fE 10 hr ?_ ?_<;>intro h1 hr
 refine bdE hr fun s1 hqq2 hr=>J (gn 4)<|q0a 5 [(6,dB false),(24,dB s1)] ?_ ?_
 replace hr:=hqq2
 refine ifE hr ?_ ?_<;>intro h2 hr
 exact e
 exact e
 exact e
 refine bdE hr fun s2 hqq3 hr=>J (gn 5)<|q0a 5 [(6,dB false),(30,dB s2)] ?_ ?_
 replace hr:=hqq3
 refine ifE hr ?_ ?_<;>intro h3 hr
 exact e
 exact e
 exact e
theorem j3w {m2:Md}{a0:Oc}{a1:Gm_}{a2:Rule}{r:Bool}(hr:z3m a0 a1 a2=some r):Okp 228 [Oc.x .fz a0,.pb 0 0,.pb 1 0] [bx5 m2 m2 a1,bx1 m2 m2 m2 a2] (dB r) [bx5 m2 m2 a1,bx1 m2 m2 m2 a2]:=by
 refine OE Tryz.func228 fun S hS=>?_
 unfold z3m at hr
 refine J g<|J (BX' 2)<|bdE hr fun y1 hy1 hr=>J g<|J (CB' [] [] (k2o (m:=m2) hy1))<|e
theorem q9D {m2:Md}{a0:List Oc}{a1_0:Gm_}{a1_1:Rule}{r:Int}(hr:q4R a0 a1_0 a1_1=some r):Okp 118 [.ref 2 none,.fn 228 [.pb 0 0,.pb 1 0]] [bx5 m2 m2 a1_0,bx1 m2 m2 m2 a1_1,.row .fz 2 (a0.map Oc.D)] (dI r) [bx5 m2 m2 a1_0,bx1 m2 m2 m2 a1_1,.row .fz 2 (a0.map Oc.D)]:=by
 refine OE Tryz.func118 fun S hS=>?_
 unfold q4R at hr
 refine J (gn 12)<|J (lenR 2)<|fun hl1=>bdE hr fun q1 hqq1 hr=>q0b hqq1 hl1 3 (fun k1 _=>[(0,.ref 2 none),(1,.fn 228 [.pb 0 0,.pb 1 0]),(7,dI (a0.length:Int)),(8,dI (k1:Int))]) (fun k1 _=>[]) I (fun k1 xk1 sk1 ok1 hxk1 hr hltk1 hik1=>?_) fun k1 sk1 ek1 hltk1=>?_
 refine bdE hr fun y1 hy1 hr=>J g<|J (CB' [(0,0),(1,1)] [] (j3w (m2:=m2) hy1))<|fE 1 hr ?_ ?_<;>intro h1 hr
 exact e
 exact e
 subst ek1
 exact e
theorem q8V {m2:Md}{a0:List Oc}{a1_0:Gm_}{a1_1:Rule}{r:Bool}(hr:q4B a0 a1_0 a1_1=some r):Okp 69 [.ref 2 none,.fn 228 [.pb 0 0,.pb 1 0]] [bx5 m2 m2 a1_0,bx1 m2 m2 m2 a1_1,.row .fz 2 (a0.map Oc.D)] (dB r) [bx5 m2 m2 a1_0,bx1 m2 m2 m2 a1_1,.row .fz 2 (a0.map Oc.D)]:=by
 refine OE Tryz.func69 fun S hS=>?_
 unfold q4B at hr
 refine bdE hr fun y1 hy1 hr=>J g<|J (CB' [(0,0),(1,1),(2,2)] [] (q9D (m2:=m2) hy1))<|e
theorem j6s {m m2:Md}{a0:Expr}{a1:Gm_}{a2:Rule}{r:Bool}(hr:z3y a0 a1 a2=some r):Okp 227 [Expr.x m a0,.pb 0 0,.pb 1 0] [bx5 m2 m2 a1,bx1 m2 m2 m2 a2] (dB r) [bx5 m2 m2 a1,bx1 m2 m2 m2 a2]:=by
 refine OE Tryz.func227 fun S hS=>?_
 unfold z3y at hr
 refine J g<|J (BX' 2)<|bdE hr fun y1 hy1 hr=>J g<|J (CB' [(0,3)] [] (z2Y (m:=m) hy1))<|bdE hr fun y2 hy2 hr=>J g<|J (CB' [(0,0),(1,1),(2,3)] [] (q8V (m2:=m2) hy2))<|e
theorem z1z {m2:Md}{a0:List Expr}{a1_0:Gm_}{a1_1:Rule}{r:Int}(hr:q5I a0 a1_0 a1_1=some r):Okp 158 [.ref 2 none,.fn 227 [.pb 0 0,.pb 1 0]] [bx5 m2 m2 a1_0,bx1 m2 m2 m2 a1_1,.row m2 7 (a0.map Expr.D)] (dI r) [bx5 m2 m2 a1_0,bx1 m2 m2 m2 a1_1,.row m2 7 (a0.map Expr.D)]:=by
 refine OE Tryz.func158 fun S hS=>?_
 unfold q5I at hr
 refine J (gn 12)<|J (lenR 2)<|fun hl1=>bdE hr fun q1 hqq1 hr=>q0b hqq1 hl1 3 (fun k1 _=>[(0,.ref 2 none),(1,.fn 227 [.pb 0 0,.pb 1 0]),(7,dI (a0.length:Int)),(8,dI (k1:Int))]) (fun k1 _=>[]) I (fun k1 xk1 sk1 ok1 hxk1 hr hltk1 hik1=>?_) fun k1 sk1 ek1 hltk1=>?_
 refine J g<|J (x0i hxk1 (Expr.D_cells xk1))<|bdE hr fun y1 hy1 hr=>J (CB' [(0,0),(1,1)] [] (j6s (m:=m2) (m2:=m2) hy1))<|fE 1 hr ?_ ?_<;>intro h1 hr
 exact e
 exact e
 subst ek1
 exact e
theorem z0H {m2:Md}{a0:List Expr}{a1_0:Gm_}{a1_1:Rule}{r:Bool}(hr:q5t a0 a1_0 a1_1=some r):Okp 102 [.ref 2 none,.fn 227 [.pb 0 0,.pb 1 0]] [bx5 m2 m2 a1_0,bx1 m2 m2 m2 a1_1,.row m2 7 (a0.map Expr.D)] (dB r) [bx5 m2 m2 a1_0,bx1 m2 m2 m2 a1_1,.row m2 7 (a0.map Expr.D)]:=by
 refine OE Tryz.func102 fun S hS=>?_
 unfold q5t at hr
 refine bdE hr fun y1 hy1 hr=>J g<|J (CB' [(0,0),(1,1),(2,2)] [] (z1z (m2:=m2) hy1))<|e
theorem j9M {m:Md}{a0:Gm_}{a1:Rule}{r:Bool}(hr:z6c a0 a1=some r):Okp 197 [Gm_.x m a0,Rule.x m a1] [] (dB r) []:=by
 refine OE Tryz.func197 fun S hS=>?_
 unfold z6c at hr
 refine J g<|J (BX' 0)<|J (BX' 1)<|bdE hr fun y1 hy1 hr=>J g<|J (CB' [(0,2)] [] (z8f (m:=m) hy1))<|bdE hr fun y2 hy2 hr=>J g<|J (CB' [(0,0),(1,1),(2,2)] [] (z0H (m2:=m) hy2))<|e
theorem j4F {m:Md}{a0:Gm_}{r:(Int×Int)}(hr:z2e a0=some r):Okp 154 [Gm_.x m a0] [] (.tu [dI r.1,dI r.2]) []:=by
 refine OE Tryz.func154 fun S hS=>?_
 unfold z2e at hr
 refine J g<|J (BX' 0)<|bdE hr fun y1 hy1 hr=>J g<|J (CB' [] [] (q4J hy1))<|fE 1 hr ?_ ?_<;>intro h1 hr
 refine bdE hr fun y2 hy2 hr=>J g<|J (CB' [] [] (q4J hy2))<|fE 3 hr ?_ ?_<;>intro h2 hr
 refine bdE hr fun y3 hy3 hr=>J g<|J (CB' [] [] (j4E (m:=m) hy3))<|fE 7 hr ?_ ?_<;>intro h3 hr
 exact e
 refine bdE hr fun x1 hx1 hr=>bdE hr fun y4 hy4 hr=>J g<|J (CB' [] [] (q8U (m:=m) hy4))<|fE 1 hr ?_ ?_<;>intro h4 hr
 exact e
 refine bdE hr fun q1 hqq1 hr=>J (gn 7)<|AW.cut 1 (fun _=>[]) (fun _=>[]) (M:=fun x=>q1=.inl x) ?_ fun x hx=>?_
 refine J g<|q0i hqq1 1 (fun s1=>[(1,.pb 0 0),(5,dI s1)]) (fun s1=>[]) I fun sk1 ok1 hr hik1=>?_
 obtain⟨s1,rfl⟩:∃ y,y=sk1:=⟨_,rfl⟩
 have hr:=hr
 refine fE 6 hr ?_ ?_<;>intro h5 hr
 refine J (gn 12)<|J (lenT 37)<|fun hl2=>bdE hr fun q2 hqq2 hr=>q0b hqq2 hl2 1 (fun k2 _=>[(1,.pb 0 0),(5,dI s1),(37,rw5 m a0.rs_),(38,dI (a0.rs_.length:Int)),(39,dI (k2:Int))]) (fun k2 _=>[]) I (fun k2 xk2 sk2 ok2 hxk2 hr hltk2 hik2=>?_) fun k2 sk2 ek2 hltk2=>?_
 refine J g<|J (NV' 1)<|fE 18 hr ?_ ?_<;>intro h6 hr
 refine bdE hr fun y5 hy5 hr=>J g<|J (CB' [] [] (j9J (m:=m) hy5))<|fE 6 hr ?_ ?_<;>intro h7 hr
 exact e
 exact e
 refine fE 6 hr ?_ ?_<;>intro h8 hr
 refine bdE hr fun y6 hy6 hr=>J g<|J (CB' [] [] (j9K (m:=m) hy6))<|fE 6 hr ?_ ?_<;>intro h9 hr
 exact e
 exact e
 refine fE 6 hr ?_ ?_<;>intro h10 hr
 refine bdE hr fun y7 hy7 hr=>J g<|J (CB' [] [] (k3F (m:=m) hy7))<|fE 6 hr ?_ ?_<;>intro h11 hr
 exact e
 exact e
 refine bdE hr fun y8 hy8 hr=>J g<|J (CB' [] [] (j9M (m:=m) hy8))<|fE 6 hr ?_ ?_<;>intro h12 hr
 exact e
 exact e
 subst ek2
 refine ggE hr fun g1 hr=>e
 refine J (gn 2) ?_
 cases hr
 cases hik1 _ rfl
 exact⟨_,rfl,q0g hS 1⟩
 subst hx
 exact e
 exact e
 exact e
theorem j1Z {a0:Int}{r:(Int×Int×Int)}(hr:z0o a0=some r):Okp 230 [dI a0] [] (.tu [dI r.1,dI r.2.1,dI r.2.2]) []:=by
 refine OE Tryz.func230 fun S hS=>?_
 unfold z0o at hr
 refine bdE hr fun s1 hqq1 hr=>J (gn 18)<|q0e 0 [(5,dI a0),(6,dB s1)] [] ?_ ?_
 replace hr:=hqq1
 refine ifE hr ?_ ?_<;>intro h1 hr
 exact e
 refine fE 6 hr ?_ ?_<;>intro h2 hr
 exact e
 refine fE 6 hr ?_ ?_<;>intro h3 hr
 exact e
 refine fE 6 hr ?_ ?_<;>intro h4 hr
 exact e
 exact e
 refine ifE hr ?_ ?_<;>intro h5 hr
 exact e
 refine bdE hr fun s2 hqq2 hr=>J (gn 7)<|q0e 0 [(5,dI a0),(12,dB s2)] [] ?_ ?_
 replace hr:=hqq2
 refine ifE hr ?_ ?_<;>intro h6 hr
 exact e
 refine fE 6 hr ?_ ?_<;>intro h7 hr
 exact e
 exact e
 refine ifE hr ?_ ?_<;>intro h8 hr
 exact e
 refine fE 7 hr ?_ ?_<;>intro h9 hr
 refine fE 2 hr ?_ ?_<;>intro h10 hr
 exact e
 refine fE 6 hr ?_ ?_<;>intro h11 hr
 exact e
 refine fE 6 hr ?_ ?_<;>intro h12 hr
 exact e
 exact e
 refine fE 5 hr ?_ ?_<;>intro h13 hr
 exact e
 refine fE 6 hr ?_ ?_<;>intro h14 hr
 exact e
 refine fE 6 hr ?_ ?_<;>intro h15 hr
 exact e
 exact e
theorem j3x {Rc11:Gm_→Rule→Expr→Option Int}(Ic11:∀ {m:Md} {a0:Gm_} {a1:Rule} {a2:Expr} {r:Int},Rc11 a0 a1 a2=some r→Okp 199 [Gm_.y m a0,Rule.x m a1,Expr.x m a2] [] (dI r) []){m:Md}{a0:Gm_}{a1:Rule}{a2:Expr}{r:Int}(hr:z2f Rc11 a0 a1 a2=some r):Okp 199 [Gm_.y m a0,Rule.x m a1,Expr.x m a2] [] (dI r) []:=by
 refine OE Tryz.func199 fun S hS=>?_
 unfold z2f at hr
 refine J g<|J (BX' 0)<|J (BX' 1)<|J (BX' 2)<|J g<|J (L0' 3 (A.D.i .i64))<|J (gn 11)<|J (lenA 6 2)<|fun hl1=>bdE hr fun s1 hqq1 hr=>q0d hqq1 hl1 4 (fun k1 s1=>[(3,.pb 0 0),(4,.pb 1 0),(5,.pb 2 0),(7,.ref 3 none),(21,rw7 m a2.Args),(22,dI (a2.Args.length:Int)),(23,dI (k1:Int))]) (fun k1 s1=>[(3,.row .fz 1 (s1.map (A.D.i .i64)))]) I (fun k1 xk1 sk1 ok1 hxk1 hr hltk1=>?_) fun k1 hltk1=>?_
 obtain⟨s1,rfl⟩:∃ y,y=sk1:=⟨_,rfl⟩
 refine J g<|J (NV' 4)<|bdE hr fun y1 hy1 hr=>J g<|J (CB' [] [] (Ic11 (m:=m) hy1))<|J (LIR' 5 (m:=.fz) (f:=(A.D.i .i64)) (xs:=([y1]:List Int)))<|ggE hr fun g1 hr=>J (z1p (f:=(A.D.i .i64)) 6 (fun _=>rfl) 8 g1)<|e
 refine fE 16 hr ?_ ?_<;>intro h1 hr
 exact e
 refine bdE hr fun s2 hqq2 hr=>J (gn 6)<|q0a 4 [(3,.pb 0 0),(4,.pb 1 0),(5,.pb 2 0),(7,.ref 3 none),(48,dB s2)] ?_ ?_
 replace hr:=hqq2
 refine ifE hr ?_ ?_<;>intro h2 hr
 exact e
 exact e
 refine fE 2 hr ?_ ?_<;>intro h3 hr
 exact e
 refine fE 8 hr ?_ ?_<;>intro h4 hr
 refine bdP hr fun y2 y3 hq3 hr=>J g<|J (CB' [] [] (z4Y (m:=m) hq3))<|J g<|J (NV' 4)<|e
 refine bdE hr fun s3 hqq4 hr=>J (gn 6)<|q0a 5 [(3,.pb 0 0),(4,.pb 1 0),(5,.pb 2 0),(7,.ref 3 none),(74,dB s3)] ?_ ?_
 replace hr:=hqq4
 refine ifE hr ?_ ?_<;>intro h5 hr
 exact e
 exact e
 refine fE 2 hr ?_ ?_<;>intro h6 hr
 refine bdT hr fun y4 y5 y6 hq5 hr=>J g<|J (CB' [] [] (j1Z hq5))<|bdE hr fun x1 hx1 hr=>bdE hr fun s4 hqq6 hr=>J (gn 15)<|q0a 7 [(14,dI y6),(93,dB s4)] ?_ ?_
 replace hr:=hqq6
 refine ifE hr ?_ ?_<;>intro h7 hr
 refine bdE hr fun x2 hx2 hr=>e
 exact e
 refine fE 1 hr ?_ ?_<;>intro h8 hr
 exact e
 exact e
 refine bdE hr fun s5 hqq7 hr=>J (gn 6)<|q0a 5 [(3,.pb 0 0),(4,.pb 1 0),(5,.pb 2 0),(7,.ref 3 none),(103,dB s5)] ?_ ?_
 replace hr:=hqq7
 refine ifE hr ?_ ?_<;>intro h9 hr
 exact e
 exact e
 refine fE 2 hr ?_ ?_<;>intro h10 hr
 refine bdE hr fun x3 hx3 hr=>fE 7 hr ?_ ?_<;>intro h11 hr
 refine bdE hr fun x4 hx4 hr=>bdE hr fun x5 hx5 hr=>fE 10 hr ?_ ?_<;>intro h12 hr
 exact e
 exact e
 exact e
 refine bdE hr fun s6 hqq8 hr=>J (gn 7)<|q0a 8 [(3,.pb 0 0),(5,.pb 2 0),(7,.ref 3 none),(131,dB s6)] ?_ ?_
 replace hr:=hqq8
 refine ifE hr ?_ ?_<;>intro h13 hr
 refine bdE hr fun y7 hy7 hr=>J g<|J (CB' [] [] (q4J hy7))<|e
 exact e
 refine bdE hr fun s7 hqq9 hr=>J (gn 2)<|q0e 4 [(3,.pb 0 0),(5,.pb 2 0),(7,.ref 3 none),(120,dB s7)] [] ?_ ?_
 replace hr:=hqq9
 refine ifE hr ?_ ?_<;>intro h14 hr
 exact e
 exact e
 refine ifE hr ?_ ?_<;>intro h15 hr
 exact e
 refine bdE hr fun s8 hqq10 hr=>J (gn 6)<|q0a 5 [(3,.pb 0 0),(5,.pb 2 0),(7,.ref 3 none),(143,dB s8)] ?_ ?_
 replace hr:=hqq10
 refine ifE hr ?_ ?_<;>intro h16 hr
 exact e
 exact e
 refine bdE hr fun s9 hqq11 hr=>q0a 6 [(3,.pb 0 0),(5,.pb 2 0),(149,dB s9)] ?_ ?_
 replace hr:=hqq11
 refine ifE hr ?_ ?_<;>intro h17 hr
 refine bdE hr fun x6 hx6 hr=>e
 exact e
 refine fE 2 hr ?_ ?_<;>intro h18 hr
 refine bdP hr fun y8 y9 hq12 hr=>J g<|J (CB' [] [] (q9V (m:=m) hq12))<|J g<|J (NV' 4)<|bdP hr fun y10 y11 hq13 hr=>J g<|J (CB' [] [] (z2Z (m:=m) hq13))<|J g<|J (NV' 5)<|e
 exact e
theorem j3y (n:Nat):∀ {m:Md} {a0:Gm_} {a1:Rule} {a2:Expr} {r:Int},q9w n a0 a1 a2=some r→Okp 199 [Gm_.y m a0,Rule.x m a1,Expr.x m a2] [] (dI r) []:=by
  induction n with
  | zero=>intro _ _ _ _ r hr;exact nomatch (show (none:Option Int)=some r from hr)
  | succ n ih=>intro _ _ _ _ r hr;exact j3x ih hr
theorem z5L {m:Md}{a0:Gm_}{a1:Rule}{a2:Expr}{r:Int}(hr:z2g a0 a1 a2=some r):Okp 199 [Gm_.y m a0,Rule.x m a1,Expr.x m a2] [] (dI r) []:=by
 obtain⟨n,hn⟩:=q6S hr
 exact j3y n hn
theorem j8n {m:Md}{a0:Gm_}{a1:Rule}{r:Bool}(hr:z4K a0 a1=some r):Okp 155 [Gm_.y m a0,Rule.x m a1] [] (dB r) []:=by
 refine OE Tryz.func155 fun S hS=>?_
 unfold z4K at hr
 refine J g<|J (BX' 0)<|J (BX' 1)<|J (gn 11)<|J (lenA 4 1)<|fun hl1=>bdE hr fun q1 hqq1 hr=>q0b hqq1 hl1 2 (fun k1 _=>[(2,.pb 0 0),(3,.pb 1 0),(16,rw8 m a1.es_),(17,dI (a1.es_.length:Int)),(18,dI (k1:Int))]) (fun k1 _=>[]) I (fun k1 xk1 sk1 ok1 hxk1 hr hltk1 hik1=>?_) fun k1 sk1 ek1 hltk1=>?_
 refine J g<|J (NV' 2)<|bdP hr fun y1 y2 hq2 hr=>J g<|J (CB' [] [] (z4Y (m:=m) hq2))<|J g<|J (NV' 3)<|bdE hr fun y3 hy3 hr=>J g<|J (CB' [] [] (z5L (m:=m) hy3))<|fE 4 hr ?_ ?_<;>intro h1 hr
 exact e
 exact e
 subst ek1
 refine J (gn 16)<|J (lenT 40)<|fun hl2=>bdE hr fun q3 hqq3 hr=>q0b hqq3 hl2 2 (fun k2 _=>[(2,.pb 0 0),(3,.pb 1 0),(40,rw9 m a1.cs_),(41,dI (a1.cs_.length:Int)),(42,dI (k2:Int))]) (fun k2 _=>[]) I (fun k2 xk2 sk2 ok2 hxk2 hr hltk2 hik2=>?_) fun k2 sk2 ek2 hltk2=>?_
 refine J g<|J (NV' 2)<|bdP hr fun y4 y5 hq4 hr=>J g<|J (CB' [] [] (q9V (m:=m) hq4))<|J g<|J (NV' 3)<|bdP hr fun y6 y7 hq5 hr=>J g<|J (CB' [] [] (z2Z (m:=m) hq5))<|J g<|J (NV' 4)<|bdE hr fun y8 hy8 hr=>J g<|J (CB' [] [] (z5L (m:=m) hy8))<|bdE hr fun s1 hqq6 hr=>J (gn 1)<|q0a 8 [(2,.pb 0 0),(3,.pb 1 0),(13,.pb 4 0),(40,rw9 m a1.cs_),(41,dI (a1.cs_.length:Int)),(42,dI (k2:Int)),(73,dB s1)] ?_ ?_
 replace hr:=hqq6
 refine ifE hr ?_ ?_<;>intro h2 hr
 refine bdE hr fun y9 hy9 hr=>J g<|J (CB' [] [] (z5L (m:=m) hy9))<|e
 exact e
 refine bdE hr fun s2 hqq7 hr=>q0a 5 [(2,.pb 0 0),(3,.pb 1 0),(40,rw9 m a1.cs_),(41,dI (a1.cs_.length:Int)),(42,dI (k2:Int)),(78,dB s2)] ?_ ?_
 replace hr:=hqq7
 refine ifE hr ?_ ?_<;>intro h3 hr
 exact e
 exact e
 refine fE 1 hr ?_ ?_<;>intro h4 hr
 exact e
 exact e
 subst ek2
 exact e
theorem j6t {m2:Md}{a0:BA_}{a1:Gm_}{a2:List Int}{r:Int}(hr:z3z a0 a1 a2=some r):Okp 201 [dS a0,.pb 0 0,.pb 1 0] [bx5 m2 m2 a1,.box [.ref 2 none],.row .fz 1 (a2.map (A.D.i .i64))] (dI r) [bx5 m2 m2 a1,.box [.ref 2 none],.row .fz 1 (a2.map (A.D.i .i64))]:=by
 refine OE Tryz.func201 fun S hS=>?_
 unfold z3z at hr
 refine J (gn 13)<|J (lenT 8)<|fun hl1=>bdE hr fun q1 hqq1 hr=>q0b hqq1 hl1 3 (fun k1 _=>[(0,dS a0),(2,.pb 1 0),(8,rw3 m2 a1.ss_),(9,dI (a1.ss_.length:Int)),(10,dI (k1:Int))]) (fun k1 _=>[]) I (fun k1 xk1 sk1 ok1 hxk1 hr hltk1 hik1=>?_) fun k1 sk1 ek1 hltk1=>?_
 refine J g<|J (NV' 3)<|fE 10 hr ?_ ?_<;>intro h1 hr
 refine bdE hr fun x1 hx1 hr=>e
 exact e
 subst ek1
 exact e
theorem j9N {m:Md}{a0:Gm_}{r:List Int}(hr:z4s a0=some r):Okp 156 [Gm_.x m a0] [] (.ref 0 none) [.row .fz 1 (r.map (A.D.i .i64))]:=by
 refine OE Tryz.func156 fun S hS=>?_
 unfold z4s at hr
 refine J g<|J (BX' 0)<|ggE hr fun g1 hr=>J g<|J (MKR' 1 (f:=(A.D.i .i64)) (0:Int) g1.1 g1.2.1 g1.2.2)<|J (NV' 2)<|bdE hr fun s1 hqq1 hr=>J (gn 12)<|q0e 3 [(3,.pb 2 0)] [(1,.row .fz 1 (s1.map (A.D.i .i64)))] ?_ ?_
 refine J g<|q0i hqq1 3 (fun (s3,s2)=>[(1,.pb 0 0),(3,.pb 2 0),(4,.fn 201 [.pb 0 0,.pb 2 0]),(5,dI s3)]) (fun (s3,s2)=>[(1,.row .fz 1 (s2.map (A.D.i .i64)))]) I fun sk1 ok1 hr hik1=>?_
 obtain⟨s3,s2⟩:=sk1
 have hr:=hr
 refine fE 9 hr ?_ ?_<;>intro h1 hr
 refine ggE hr fun g2 hr=>J g<|J (MKR' 3 (f:=(A.D.i .i64)) (0:Int) g2.1 g2.2.1 g2.2.2)<|ggE hr fun g3 hr=>J g<|J (x0j g3)<|J (gn 10)<|J (lenT 21)<|fun hl2=>bdE hr fun s4 hqq2 hr=>q0d hqq2 hl2 4 (fun k2 s4=>[(1,.pb 0 0),(3,.pb 2 0),(4,.fn 201 [.pb 0 0,.pb 2 0]),(5,dI s3),(6,.ref 3 none),(33,rw3 m a0.ss_),(34,dI (a0.ss_.length:Int)),(35,dI (k2:Int))]) (fun k2 s4=>[(3,.row .fz 1 (s4.map (A.D.i .i64)))]) I (fun k2 xk2 sk2 ok2 hxk2 hr hltk2=>?_) fun k2 hltk2=>?_
 obtain⟨s4,rfl⟩:∃ y,y=sk2:=⟨_,rfl⟩
 refine bdE hr fun s5 hqq3 hr=>J (gn 8)<|q0e 4 [(1,.pb 0 0),(3,.pb 2 0),(4,.fn 201 [.pb 0 0,.pb 2 0]),(5,dI s3),(6,.ref 3 none),(33,rw3 m a0.ss_),(34,dI (a0.ss_.length:Int)),(35,dI (k2:Int))] [(3,.row .fz 1 (s5.map (A.D.i .i64)))] ?_ ?_
 replace hr:=hqq3
 refine J g<|J (NV' 4)<|bdE hr fun x1 hx1 hr=>fE 12 hr ?_ ?_<;>intro h2 hr
 exact e
 refine J (gn 10)<|J (lenT 46)<|fun hl3=>bdE hr fun s6 hqq4 hr=>q0d hqq4 hl3 5 (fun k3 s6=>[(1,.pb 0 0),(3,.pb 2 0),(4,.fn 201 [.pb 0 0,.pb 2 0]),(5,dI s3),(6,.ref 3 none),(7,dI (k2:Int)),(8,.pb 4 0),(33,rw3 m a0.ss_),(34,dI (a0.ss_.length:Int)),(35,dI (k2:Int)),(46,rw5 m a0.rs_),(47,dI (a0.rs_.length:Int)),(48,dI (k3:Int))]) (fun k3 s6=>[(3,.row .fz 1 (s6.map (A.D.i .i64)))]) I (fun k3 xk3 sk3 ok3 hxk3 hr hltk3=>?_) fun k3 hltk3=>?_
 obtain⟨s6,rfl⟩:∃ y,y=sk3:=⟨_,rfl⟩
 refine bdE hr fun s7 hqq5 hr=>J (gn 8)<|q0e 5 [(1,.pb 0 0),(3,.pb 2 0),(4,.fn 201 [.pb 0 0,.pb 2 0]),(5,dI s3),(6,.ref 3 none),(7,dI (k2:Int)),(8,.pb 4 0),(33,rw3 m a0.ss_),(34,dI (a0.ss_.length:Int)),(35,dI (k2:Int)),(46,rw5 m a0.rs_),(47,dI (a0.rs_.length:Int)),(48,dI (k3:Int))] [(3,.row .fz 1 (s7.map (A.D.i .i64)))] ?_ ?_
 replace hr:=hqq5
 refine J g<|J (NV' 5)<|J (gn 20)<|J (lenA 2 51)<|fun hl4=>bdE hr fun s8 hqq6 hr=>q0d hqq6 hl4 6 (fun k4 s8=>[(1,.pb 0 0),(3,.pb 2 0),(4,.fn 201 [.pb 0 0,.pb 2 0]),(5,dI s3),(6,.ref 3 none),(7,dI (k2:Int)),(8,.pb 4 0),(11,dB s8),(33,rw3 m a0.ss_),(34,dI (a0.ss_.length:Int)),(35,dI (k2:Int)),(46,rw5 m a0.rs_),(47,dI (a0.rs_.length:Int)),(48,dI (k3:Int)),(58,rw2 m xk3.rt_),(59,dI (xk3.rt_.length:Int)),(60,dI (k4:Int))]) (fun k4 s8=>[]) I (fun k4 xk4 sk4 ok4 hxk4 hr hltk4=>?_) fun k4 hltk4=>?_
 obtain⟨s8,rfl⟩:∃ y,y=sk4:=⟨_,rfl⟩
 refine bdE hr fun s9 hqq7 hr=>J (gn 8)<|q0e 6 [(1,.pb 0 0),(3,.pb 2 0),(4,.fn 201 [.pb 0 0,.pb 2 0]),(5,dI s3),(6,.ref 3 none),(7,dI (k2:Int)),(8,.pb 4 0),(11,dB s9),(33,rw3 m a0.ss_),(34,dI (a0.ss_.length:Int)),(35,dI (k2:Int)),(46,rw5 m a0.rs_),(47,dI (a0.rs_.length:Int)),(48,dI (k3:Int)),(58,rw2 m xk3.rt_),(59,dI (xk3.rt_.length:Int)),(60,dI (k4:Int))] [] ?_ ?_
 replace hr:=hqq7
 refine fE 9 hr ?_ ?_<;>intro h3 hr
 refine bdE hr fun y1 hy1 hr=>J g<|J (CB' [(0,0),(1,2),(2,1)] [] (j6t (m2:=m) hy1))<|e
 exact e
 exact e
 refine fE 11 hr ?_ ?_<;>intro h4 hr
 refine bdE hr fun x2 hx2 hr=>J g<|J (SE' s3 hx2)<|e
 exact e
 exact e
 exact e
 exact e
 refine ggE hr fun g4 hr=>e
 refine J (gn 2) ?_
 cases hr
 cases hik1 _ rfl
 exact q0g hS 3
 exact e
theorem j2a {m:Md}{a0:Gm_}{r:(Int×Int)}(hr:z0p a0=some r):Okp 99 [Gm_.x m a0] [] (.tu [dI r.1,dI r.2]) []:=by
 refine OE Tryz.func99 fun S hS=>?_
 unfold z0p at hr
 refine J g<|J (BX' 0)<|bdP hr fun y1 y2 hq1 hr=>J g<|J (CB' [] [] (j4F (m:=m) hq1))<|fE 11 hr ?_ ?_<;>intro h1 hr
 refine J (gn 11)<|J (lenA 1 0)<|fun hl1=>bdE hr fun q2 hqq2 hr=>q0b hqq2 hl1 1 (fun k1 _=>[(1,.pb 0 0),(20,rw5 m a0.rs_),(21,dI (a0.rs_.length:Int)),(22,dI (k1:Int))]) (fun k1 _=>[]) I (fun k1 xk1 sk1 ok1 hxk1 hr hltk1 hik1=>?_) fun k1 sk1 ek1 hltk1=>?_
 refine J g<|J (NV' 1)<|bdE hr fun y3 hy3 hr=>J g<|J (CB' [] [] (j8n (m:=m) hy3))<|fE 1 hr ?_ ?_<;>intro h2 hr
 exact e
 exact e
 subst ek1
 refine bdE hr fun y4 hy4 hr=>J g<|J (CB' [(0,1)] [] (j9N (m:=m) hy4))<|J (gn 4)<|J (lenR 1)<|fun hl2=>bdE hr fun q3 hqq3 hr=>q0b hqq3 hl2 2 (fun k2 _=>[(33,.ref 1 none),(34,dI (y4.length:Int)),(35,dI (k2:Int))]) (fun k2 _=>[]) I (fun k2 xk2 sk2 ok2 hxk2 hr hltk2 hik2=>?_) fun k2 sk2 ek2 hltk2=>?_
 refine fE 22 hr ?_ ?_<;>intro h3 hr
 exact e
 exact e
 subst ek2
 exact e
 exact e
theorem j8o {m:Md}{a0:Gm_}{r:Bool}(hr:z4L a0=some r):Okp 52 [Gm_.x m a0] [] (dB r) []:=by
 refine OE Tryz.func52 fun S hS=>?_
 unfold z4L at hr
 refine J g<|J (BX' 0)<|bdP hr fun y1 y2 hq1 hr=>J g<|J (CB' [] [] (j2a (m:=m) hq1))<|e
theorem j3z {m:Md}{a0:Expr}{r:Bool}(hr:z3p a0=some r):Okp 160 [Expr.x m a0] [] (dB r) []:=by
 refine OE Tryz.func160 fun S hS=>?_
 unfold z3p at hr
 refine J g<|J (BX' 0)<|e
theorem z4k {Rc12:Expr→Option Bool}(Ic12:∀ {m:Md} {a0:Expr} {r:Bool},Rc12 a0=some r→Okp 159 [Expr.x m a0,.fn 160 []] [] (dB r) []){m:Md}{a0:Expr}{r:Bool}(hr:q6I Rc12 a0=some r):Okp 202 [Expr.x m a0,.pb 0 0] [.box [.fn 160 []]] (dB r) [.box [.fn 160 []]]:=by
 refine OE Tryz.func202 fun S hS=>?_
 unfold q6I at hr
 refine J g<|J (BX' 1)<|bdE hr fun y1 hy1 hr=>J g<|J (CB' [] [] (Ic12 (m:=m) hy1))<|e
theorem q8z {Rc12:Expr→Option Bool}(Ic12:∀ {m:Md} {a0:Expr} {r:Bool},Rc12 a0=some r→Okp 159 [Expr.x m a0,.fn 160 []] [] (dB r) []){m:Md}{a0:List Expr}{r:Int}(hr:q4m Rc12 a0=some r):Okp 158 [rw7 m a0,.fn 202 [.pb 0 0]] [.box [.fn 160 []]] (dI r) [.box [.fn 160 []]]:=by
 refine OE Tryz.func158 fun S hS=>?_
 unfold q4m at hr
 refine J (gn 12)<|J (lenT 0)<|fun hl1=>bdE hr fun q1 hqq1 hr=>q0b hqq1 hl1 1 (fun k1 _=>[(0,rw7 m a0),(1,.fn 202 [.pb 0 0]),(7,dI (a0.length:Int)),(8,dI (k1:Int))]) (fun k1 _=>[]) I (fun k1 xk1 sk1 ok1 hxk1 hr hltk1 hik1=>?_) fun k1 sk1 ek1 hltk1=>?_
 refine bdE hr fun y1 hy1 hr=>J g<|J (CB' [(0,0)] [] (z4k Ic12 (m:=m) hy1))<|fE 1 hr ?_ ?_<;>intro h1 hr
 exact e
 exact e
 subst ek1
 exact e
theorem q7S {Rc12:Expr→Option Bool}(Ic12:∀ {m:Md} {a0:Expr} {r:Bool},Rc12 a0=some r→Okp 159 [Expr.x m a0,.fn 160 []] [] (dB r) []){m:Md}{a0:List Expr}{r:Bool}(hr:q4g Rc12 a0=some r):Okp 102 [rw7 m a0,.fn 202 [.pb 0 0]] [.box [.fn 160 []]] (dB r) [.box [.fn 160 []]]:=by
 refine OE Tryz.func102 fun S hS=>?_
 unfold q4g at hr
 refine bdE hr fun y1 hy1 hr=>J g<|J (CB' [(0,0)] [] (q8z Ic12 (m:=m) hy1))<|e
theorem z4Z {Rc12:Expr→Option Bool}(Ic12:∀ {m:Md} {a0:Expr} {r:Bool},Rc12 a0=some r→Okp 159 [Expr.x m a0,.fn 160 []] [] (dB r) []){m:Md}{a0:Expr}{r:Bool}(hr:q6o Rc12 a0=some r):Okp 159 [Expr.x m a0,.fn 160 []] [] (dB r) []:=by
 refine OE Tryz.func159 fun S hS=>?_
 unfold q6o at hr
 refine J g<|J (BX' 0)<|J (BX' 1)<|bdE hr fun y1 hy1 hr=>J g<|J (CB' [] [] (j3z (m:=m) hy1))<|ifE hr ?_ ?_<;>intro h1 hr
 refine bdE hr fun y2 hy2 hr=>J g<|J (CB' [(0,1)] [] (q7S Ic12 (m:=m) hy2))<|e
 exact e
theorem z5a (n:Nat):∀ {m:Md} {a0:Expr} {r:Bool},q6p n a0=some r→Okp 159 [Expr.x m a0,.fn 160 []] [] (dB r) []:=by
  induction n with
  | zero=>intro _ _ r hr;exact nomatch (show (none:Option Bool)=some r from hr)
  | succ n ih=>intro _ _ r hr;exact z4Z ih hr
theorem z5n {m:Md}{a0:Expr}{r:Bool}(hr:q8R a0=some r):Okp 159 [Expr.x m a0,.fn 160 []] [] (dB r) []:=by
 obtain⟨n,hn⟩:=q6S hr
 exact z5a n hn
theorem j6u {m:Md}{a0:Expr}{r:Bool}(hr:z3A a0=some r):Okp 104 [Expr.x m a0] [] (dB r) []:=by
 refine OE Tryz.func104 fun S hS=>?_
 unfold z3A at hr
 refine J g<|J (BX' 0)<|bdE hr fun y1 hy1 hr=>J g<|J (CB' [] [] (z5n (m:=m) hy1))<|e
theorem z1A {m:Md}{a0:List Expr}{r:Int}(hr:q5J a0=some r):Okp 158 [rw7 m a0,.fn 104 []] [] (dI r) []:=by
 refine OE Tryz.func158 fun S hS=>?_
 unfold q5J at hr
 refine J (gn 12)<|J (lenT 0)<|fun hl1=>bdE hr fun q1 hqq1 hr=>q0b hqq1 hl1 0 (fun k1 _=>[(0,rw7 m a0),(1,.fn 104 []),(7,dI (a0.length:Int)),(8,dI (k1:Int))]) (fun k1 _=>[]) I (fun k1 xk1 sk1 ok1 hxk1 hr hltk1 hik1=>?_) fun k1 sk1 ek1 hltk1=>?_
 refine bdE hr fun y1 hy1 hr=>J g<|J (CB' [] [] (j6u (m:=m) hy1))<|fE 1 hr ?_ ?_<;>intro h1 hr
 exact e
 exact e
 subst ek1
 exact e
theorem z0I {m:Md}{a0:List Expr}{r:Bool}(hr:q5u a0=some r):Okp 102 [rw7 m a0,.fn 104 []] [] (dB r) []:=by
 refine OE Tryz.func102 fun S hS=>?_
 unfold q5u at hr
 refine bdE hr fun y1 hy1 hr=>J g<|J (CB' [] [] (z1A (m:=m) hy1))<|e
theorem j3A {m:Md}{a0:Rule}{r:Bool}(hr:z3q a0=some r):Okp 101 [Rule.x m a0] [] (dB r) []:=by
 refine OE Tryz.func101 fun S hS=>?_
 unfold z3q at hr
 refine J g<|J (BX' 0)<|bdE hr fun y1 hy1 hr=>J g<|J (CB' [(0,1)] [] (z8f (m:=m) hy1))<|bdE hr fun y2 hy2 hr=>J (CB' [] [1] (z0I (m:=.bo) hy2))<|e
theorem z0S {m:Md}{a0:List Rule}{r:Int}(hr:q5A a0=some r):Okp 157 [rw5 m a0,.fn 101 []] [] (dI r) []:=by
 refine OE Tryz.func157 fun S hS=>?_
 unfold q5A at hr
 refine J (gn 12)<|J (lenT 0)<|fun hl1=>bdE hr fun q1 hqq1 hr=>q0b hqq1 hl1 0 (fun k1 _=>[(0,rw5 m a0),(1,.fn 101 []),(7,dI (a0.length:Int)),(8,dI (k1:Int))]) (fun k1 _=>[]) I (fun k1 xk1 sk1 ok1 hxk1 hr hltk1 hik1=>?_) fun k1 sk1 ek1 hltk1=>?_
 refine bdE hr fun y1 hy1 hr=>J g<|J (CB' [] [] (j3A (m:=m) hy1))<|fE 1 hr ?_ ?_<;>intro h1 hr
 exact e
 exact e
 subst ek1
 exact e
theorem z0i {m:Md}{a0:List Rule}{r:Bool}(hr:q5l a0=some r):Okp 100 [rw5 m a0,.fn 101 []] [] (dB r) []:=by
 refine OE Tryz.func100 fun S hS=>?_
 unfold q5l at hr
 refine bdE hr fun y1 hy1 hr=>J g<|J (CB' [] [] (z0S (m:=m) hy1))<|e
theorem j6v {m:Md}{a0:Gm_}{r:Bool}(hr:z3B a0=some r):Okp 53 [.ag [.u,rw5 m a0.rs_]] [] (dB r) []:=by
 refine OE Tryz.func53 fun S hS=>?_
 unfold z3B at hr
 refine J g<|J (BX' 0)<|bdE hr fun y1 hy1 hr=>J g<|J (CB' [] [] (z0i (m:=m) hy1))<|e
theorem j3B {a0:At_}{r:Bool}(hr:z3r a0=some r):Okp 55 [At_.x .fz a0] [] (dB r) []:=by
 refine OE Tryz.func55 fun S hS=>?_
 unfold z3r at hr
 refine J g<|J (BX' 0)<|e
theorem q9P {m:Md}{a0:List At_}{r:Int}(hr:q4T a0=some r):Okp 161 [rw6 m a0,.fn 55 []] [] (dI r) []:=by
 refine OE Tryz.func161 fun S hS=>?_
 unfold q4T at hr
 refine J (gn 12)<|J (lenT 0)<|fun hl1=>bdE hr fun q1 hqq1 hr=>q0b hqq1 hl1 0 (fun k1 _=>[(0,rw6 m a0),(1,.fn 55 []),(7,dI (a0.length:Int)),(8,dI (k1:Int))]) (fun k1 _=>[]) I (fun k1 xk1 sk1 ok1 hxk1 hr hltk1 hik1=>?_) fun k1 sk1 ek1 hltk1=>?_
 refine bdE hr fun y1 hy1 hr=>J g<|J (CB' [] [] (j3B hy1))<|fE 1 hr ?_ ?_<;>intro h1 hr
 exact e
 exact e
 subst ek1
 exact e
theorem q9k {m:Md}{a0:List At_}{r:Bool}(hr:q4D a0=some r):Okp 107 [rw6 m a0,.fn 55 []] [] (dB r) []:=by
 refine OE Tryz.func107 fun S hS=>?_
 unfold q4D at hr
 refine bdE hr fun y1 hy1 hr=>J g<|J (CB' [] [] (q9P (m:=m) hy1))<|e
theorem z3a {m:Md}{a0:Symbol}{r:Bool}(hr:q6l a0=some r):Okp 106 [Symbol.x m a0,.pb 0 0] [.box [.fn 55 []]] (dB r) [.box [.fn 55 []]]:=by
 refine OE Tryz.func106 fun S hS=>?_
 unfold q6l at hr
 refine J g<|J (BX' 1)<|bdE hr fun y1 hy1 hr=>J g<|J (CB' [] [] (q9k (m:=m) hy1))<|e
theorem q7H {m:Md}{a0:List Symbol}{r:Int}(hr:q4d a0=some r):Okp 111 [rw3 m a0,.fn 106 [.pb 0 0]] [.box [.fn 55 []]] (dI r) [.box [.fn 55 []]]:=by
 refine OE Tryz.func111 fun S hS=>?_
 unfold q4d at hr
 refine J (gn 12)<|J (lenT 0)<|fun hl1=>bdE hr fun q1 hqq1 hr=>q0b hqq1 hl1 1 (fun k1 _=>[(0,rw3 m a0),(1,.fn 106 [.pb 0 0]),(7,dI (a0.length:Int)),(8,dI (k1:Int))]) (fun k1 _=>[]) I (fun k1 xk1 sk1 ok1 hxk1 hr hltk1 hik1=>?_) fun k1 sk1 ek1 hltk1=>?_
 refine bdE hr fun y1 hy1 hr=>J g<|J (CB' [(0,0)] [] (z3a (m:=m) hy1))<|fE 1 hr ?_ ?_<;>intro h1 hr
 exact e
 exact e
 subst ek1
 exact e
theorem q7h {m:Md}{a0:List Symbol}{r:Bool}(hr:q3X a0=some r):Okp 105 [rw3 m a0,.fn 106 [.pb 0 0]] [.box [.fn 55 []]] (dB r) [.box [.fn 55 []]]:=by
 refine OE Tryz.func105 fun S hS=>?_
 unfold q3X at hr
 refine bdE hr fun y1 hy1 hr=>J g<|J (CB' [(0,0)] [] (q7H (m:=m) hy1))<|e
theorem z3W {m:Md}{a0:Gm_}{r:Bool}(hr:q5Q a0=some r):Okp 54 [Gm_.y m a0,.fn 55 []] [] (dB r) []:=by
 refine OE Tryz.func54 fun S hS=>?_
 unfold q5Q at hr
 refine J g<|J (BX' 0)<|J (BX' 1)<|bdE hr fun y1 hy1 hr=>J g<|J (CB' [(0,1)] [] (q7h (m:=m) hy1))<|e
theorem j4G {a0:At_}{r:Bool}(hr:z4h a0=some r):Okp 56 [At_.x .fz a0] [] (dB r) []:=by
 refine OE Tryz.func56 fun S hS=>?_
 unfold z4h at hr
 refine J g<|J (BX' 0)<|e
theorem q9Z {m:Md}{a0:List At_}{r:Int}(hr:q5c a0=some r):Okp 161 [rw6 m a0,.fn 56 []] [] (dI r) []:=by
 refine OE Tryz.func161 fun S hS=>?_
 unfold q5c at hr
 refine J (gn 12)<|J (lenT 0)<|fun hl1=>bdE hr fun q1 hqq1 hr=>q0b hqq1 hl1 0 (fun k1 _=>[(0,rw6 m a0),(1,.fn 56 []),(7,dI (a0.length:Int)),(8,dI (k1:Int))]) (fun k1 _=>[]) I (fun k1 xk1 sk1 ok1 hxk1 hr hltk1 hik1=>?_) fun k1 sk1 ek1 hltk1=>?_
 refine bdE hr fun y1 hy1 hr=>J g<|J (CB' [] [] (j4G hy1))<|fE 1 hr ?_ ?_<;>intro h1 hr
 exact e
 exact e
 subst ek1
 exact e
theorem q9q {m:Md}{a0:List At_}{r:Bool}(hr:q4N a0=some r):Okp 107 [rw6 m a0,.fn 56 []] [] (dB r) []:=by
 refine OE Tryz.func107 fun S hS=>?_
 unfold q4N at hr
 refine bdE hr fun y1 hy1 hr=>J g<|J (CB' [] [] (q9Z (m:=m) hy1))<|e
theorem z3O {m:Md}{a0:Symbol}{r:Bool}(hr:q6s a0=some r):Okp 106 [Symbol.x m a0,.pb 0 0] [.box [.fn 56 []]] (dB r) [.box [.fn 56 []]]:=by
 refine OE Tryz.func106 fun S hS=>?_
 unfold q6s at hr
 refine J g<|J (BX' 1)<|bdE hr fun y1 hy1 hr=>J g<|J (CB' [] [] (q9q (m:=m) hy1))<|e
theorem q7Q {m:Md}{a0:List Symbol}{r:Int}(hr:q4f a0=some r):Okp 111 [rw3 m a0,.fn 106 [.pb 0 0]] [.box [.fn 56 []]] (dI r) [.box [.fn 56 []]]:=by
 refine OE Tryz.func111 fun S hS=>?_
 unfold q4f at hr
 refine J (gn 12)<|J (lenT 0)<|fun hl1=>bdE hr fun q1 hqq1 hr=>q0b hqq1 hl1 1 (fun k1 _=>[(0,rw3 m a0),(1,.fn 106 [.pb 0 0]),(7,dI (a0.length:Int)),(8,dI (k1:Int))]) (fun k1 _=>[]) I (fun k1 xk1 sk1 ok1 hxk1 hr hltk1 hik1=>?_) fun k1 sk1 ek1 hltk1=>?_
 refine bdE hr fun y1 hy1 hr=>J g<|J (CB' [(0,0)] [] (z3O (m:=m) hy1))<|fE 1 hr ?_ ?_<;>intro h1 hr
 exact e
 exact e
 subst ek1
 exact e
theorem q7n {m:Md}{a0:List Symbol}{r:Bool}(hr:q3Z a0=some r):Okp 105 [rw3 m a0,.fn 106 [.pb 0 0]] [.box [.fn 56 []]] (dB r) [.box [.fn 56 []]]:=by
 refine OE Tryz.func105 fun S hS=>?_
 unfold q3Z at hr
 refine bdE hr fun y1 hy1 hr=>J g<|J (CB' [(0,0)] [] (q7Q (m:=m) hy1))<|e
theorem z4l {m:Md}{a0:Gm_}{r:Bool}(hr:q5Z a0=some r):Okp 54 [Gm_.y m a0,.fn 56 []] [] (dB r) []:=by
 refine OE Tryz.func54 fun S hS=>?_
 unfold q5Z at hr
 refine J g<|J (BX' 0)<|J (BX' 1)<|bdE hr fun y1 hy1 hr=>J g<|J (CB' [(0,1)] [] (q7n (m:=m) hy1))<|e
theorem j1E {m:Md}{a0:Gm_}{r:Bool}(hr:z1q a0=some r):Okp 22 [Gm_.x m a0] [] (dB r) []:=by
 refine OE Tryz.func22 fun S hS=>?_
 unfold z1q at hr
 refine J g<|J (BX' 0)<|bdE hr fun y1 hy1 hr=>J g<|J (CB' [] [] (j8o (m:=m) hy1))<|bdE hr fun s1 hqq1 hr=>q0a 5 [(1,.pb 0 0),(2,dB false),(9,dB s1)] ?_ ?_
 replace hr:=hqq1
 refine ifE hr ?_ ?_<;>intro h1 hr
 refine bdE hr fun y2 hy2 hr=>J g<|J (CB' [] [] (j6v (m:=m) hy2))<|e
 exact e
 refine bdE hr fun s2 hqq2 hr=>q0a 5 [(1,.pb 0 0),(2,dB false),(14,dB s2)] ?_ ?_
 replace hr:=hqq2
 refine ifE hr ?_ ?_<;>intro h2 hr
 refine bdE hr fun y3 hy3 hr=>J g<|J (CB' [] [] (z3W (m:=m) hy3))<|e
 exact e
 refine bdE hr fun s3 hqq3 hr=>q0a 5 [(2,dB false),(19,dB s3)] ?_ ?_
 replace hr:=hqq3
 refine ifE hr ?_ ?_<;>intro h3 hr
 refine bdE hr fun y4 hy4 hr=>J g<|J (CB' [] [] (z4l (m:=m) hy4))<|e
 exact e
 exact e
theorem z1B {m:Md}{a0:Gm_}{a1:BA_}{r:List At_}(hr:q5R a0 a1=some r):Okp 80 [Gm_.y m a0,dS a1] [] (.ref 0 none) [.row .fz 4 (r.map At_.D)]:=by
 refine OE Tryz.func80 fun S hS=>?_
 unfold q5R at hr
 refine J g<|J (BX' 0)<|J g<|J (L0' 1 At_.D)<|bdP hr fun y1 y2 hq1 hr=>J g<|J (CB' [] [] (q9V (m:=m) hq1))<|J g<|J (NV' 2)<|J (gn 12) ?_
 refine AW.len (.ag 1 (.tu 0 (.tmp 11 rfl) rfl) rfl) fun hl1=>?_
 refine bdE hr fun s1 hqq2 hr=>q0d hqq2 hl1 3 (fun k1 s1=>[(5,.ref 1 none),(18,rw6 m y1.as_),(19,dI (y1.as_.length:Int)),(20,dI (k1:Int))]) (fun k1 s1=>[(1,.row .fz 4 (s1.map At_.D))]) I (fun k1 xk1 sk1 ok1 hxk1 hr hltk1=>?_) fun k1 hltk1=>?_
 obtain⟨s1,rfl⟩:∃ y,y=sk1:=⟨_,rfl⟩
 refine bdE hr fun s2 hqq3 hr=>J (gn 8)<|q0e 3 [(5,.ref 1 none),(18,rw6 m y1.as_),(19,dI (y1.as_.length:Int)),(20,dI (k1:Int))] [(1,.row .fz 4 (s2.map At_.D))] ?_ ?_
 replace hr:=hqq3
 refine J g<|J (NV' 3)<|fE 7 hr ?_ ?_<;>intro h1 hr
 refine J g<|J (LIR' 4 (m:=.fz) (f:=At_.D) (xs:=[xk1]))<|ggE hr fun g1 hr=>J (z1p (f:=At_.D) 5 (fun _=>rfl) 40 g1)<|e
 refine fE 6 hr ?_ ?_<;>intro h2 hr
 refine J g<|J (LIR' 4 (m:=.fz) (f:=At_.D) (xs:=[xk1]))<|ggE hr fun g2 hr=>J (z1p (f:=At_.D) 5 (fun _=>rfl) 40 g2)<|e
 exact e
 exact e
 exact e
theorem z3b {a0:Int}{r:Rl_}(hr:q7A a0=some r):Okp 176 [dI a0] [] (.ag [dI r.N,.ref 0 none]) [.row .fz 1 (r.Rows.map (A.D.i .i64))]:=by
 refine OE Tryz.func176 fun S hS=>?_
 unfold q7A at hr
 refine J g<|J (NV' 0)<|bdE hr fun y1 hy1 hr=>J g<|J (CB' [] [] (q4J hy1))<|fE 2 hr ?_ ?_<;>intro h1 hr
 refine ggE hr fun g1 hr=>J g<|J (MKR' 1 (f:=(A.D.i .i64)) (0:Int) g1.1 g1.2.1 g1.2.2)<|e
 refine J (gn 7) ?_
 refine J (q0c (q0o (q:=0) (c:=1) (r:=1) .fz 1 rfl rfl rfl))<|J g<|E
theorem j0e {m:Md}{a0:Gm_}{r:List Rl_}(hr:q9c a0=some r):Okp 125 [Gm_.y m a0] [] (.ref 0 none) [.row .fz 2 (r.map Rl_.D)]:=by
 refine OE Tryz.func125 fun S hS=>?_
 unfold q9c at hr
 refine J g<|J (BX' 0)<|J g<|J (L0' 1 Rl_.D)<|J (gn 11)<|J (lenA 0 0)<|fun hl1=>bdE hr fun s1 hqq1 hr=>q0d hqq1 hl1 2 (fun k1 s1=>[(1,.pb 0 0),(3,.ref 1 none),(8,rw3 m a0.ss_),(9,dI (a0.ss_.length:Int)),(10,dI (k1:Int))]) (fun k1 s1=>[(1,.row .fz 2 (s1.map Rl_.D))]) I (fun k1 xk1 sk1 ok1 hxk1 hr hltk1=>?_) fun k1 hltk1=>?_
 obtain⟨s1,rfl⟩:∃ y,y=sk1:=⟨_,rfl⟩
 refine J g<|J (NV' 2)<|bdE hr fun y1 hy1 hr=>J g<|J (CB' [(0,3)] [] (z1B (m:=m) hy1))<|bdE hr fun y2 hy2 hr=>J g<|J (CB' [(0,4)] [] (z3b hy2)) ?_
 refine J (q0p 4 rfl)<|J (LIR' 5 (m:=.fz) (f:=Rl_.D) (xs:=[y2]))<|ggE hr fun g1 hr=>J (AP1' 6 .fz 32 g1)<|J g<|E
 exact e
theorem z6s {m:Md}{a0:Gm_}{a1:Rule}{r:List Oc}(hr:q6O a0 a1=some r):Okp 177 [Gm_.y m a0,Rule.x m a1] [] (.ref 0 none) [.row .fz 2 (r.map Oc.D)]:=by
 refine OE Tryz.func177 fun S hS=>?_
 unfold q6O at hr
 refine J g<|J (BX' 0)<|J (BX' 1)<|J g<|J (L0' 2 Oc.D)<|ggE hr fun g1 hr=>J (gn 12)<|J (rngT 13)<|fun hl1=>bdE hr fun s1 hqq1 hr=>q0n hqq1 3 (fun k1 s1=>[(2,.pb 0 0),(3,.pb 1 0),(5,.ref 2 none),(13,dI ((a1.rt_.length+1:Nat):Int)),(14,dI (k1:Int))]) (fun k1 s1=>[(2,.row .fz 2 (s1.map Oc.D))]) I (fun k1 sk1 ok1 hr hltk1=>?_) ?_
 obtain⟨s1,rfl⟩:∃ y,y=sk1:=⟨_,rfl⟩
 refine bdE hr fun y1 hy1 hr=>J g<|J (CB' [] [] (z0s (m:=m) hy1))<|bdE hr fun y2 hy2 hr=>J (CB' [(0,3)] [] (z1B (m:=m) hy2))<|J (gn 4)<|J (lenR 3)<|fun hl2=>bdE hr fun s2 hqq2 hr=>q0d hqq2 hl2 4 (fun k2 s2=>[(2,.pb 0 0),(3,.pb 1 0),(5,.ref 2 none),(6,dI (k1:Int)),(13,dI ((a1.rt_.length+1:Nat):Int)),(14,dI (k1:Int)),(21,.ref 3 none),(22,dI (y2.length:Int)),(23,dI (k2:Int))]) (fun k2 s2=>[(2,.row .fz 2 (s2.map Oc.D))]) I (fun k2 xk2 sk2 ok2 hxk2 hr hltk2=>?_) fun k2 hltk2=>?_
 obtain⟨s2,rfl⟩:∃ y,y=sk2:=⟨_,rfl⟩
 refine J g<|J (NV' 4)<|J g<|J (LIR' 5 (m:=.fz) (f:=Oc.D) (xs:=[(⟨(k1:Int),xk2.Name⟩:Oc)]))<|ggE hr fun g2 hr=>J (z1p (f:=Oc.D) 6 (fun _=>rfl) 24 g2)<|e
 exact e
 exact e
theorem j6w {Rc13:Expr→Option Expr}(Ic13:∀ {m:Md} {a0 r:Expr},Rc13 a0=some r→Okp 165 [Expr.x m a0] [] (.ag [dI r.Kind,dI r.N,dI r.Pos,dI r.t__,dS r.Symbol,dS r.Name,.ref 0 none]) [.row .fz 7 (r.Args.map Expr.D)]){m:Md}{a0 r:Expr}(hr:z6R Rc13 a0=some r):Okp 165 [Expr.x m a0] [] (.ag [dI r.Kind,dI r.N,dI r.Pos,dI r.t__,dS r.Symbol,dS r.Name,.ref 0 none]) [.row .fz 7 (r.Args.map Expr.D)]:=by
 refine OE Tryz.func165 fun S hS=>?_
 unfold z6R at hr
 refine J g<|J (BX' 0)<|J (NV' 1)<|J (gn 14) ?_
 refine J (q3h 3 2 .fz 7 rfl)<|J (lenA 6 0)<|fun hl1=>bdE hr fun s1 hqq1 hr=>q0d hqq1 hl1 3 (fun k1 s1=>[(1,.pb 0 0),(2,.pb 1 0),(3,.ref 2 none),(7,rw7 m a0.Args),(8,dI (a0.Args.length:Int)),(9,dI (k1:Int))]) (fun k1 s1=>[(2,.row .fz 7 (s1.map Expr.D))]) I (fun k1 xk1 sk1 ok1 hxk1 hr hltk1=>?_) fun k1 hltk1=>?_
 obtain⟨s1,rfl⟩:∃ y,y=sk1:=⟨_,rfl⟩
 refine J g<|J (NV' 3)<|bdE hr fun y1 hy1 hr=>J g<|J (CB' [(0,4)] [] (Ic13 (m:=m) hy1)) ?_
 refine J (q0p 4 rfl) ?_
 refine J (j7S 5 (m:=.fz) (f:=Expr.D) [y1] (by simp only[Bcz,Dpz,Expr.D_eq];rfl))<|ggE hr fun g1 hr=>J (AP1' 6 .fz 88 g1)<|J g<|E
 exact e
theorem j6x (n:Nat):∀ {m:Md} {a0 r:Expr},z2F n a0=some r→Okp 165 [Expr.x m a0] [] (.ag [dI r.Kind,dI r.N,dI r.Pos,dI r.t__,dS r.Symbol,dS r.Name,.ref 0 none]) [.row .fz 7 (r.Args.map Expr.D)]:=by
  induction n with
  | zero=>intro _ _ r hr;exact nomatch (show (none:Option Expr)=some r from hr)
  | succ n ih=>intro _ _ r hr;exact j6w ih hr
theorem j8p {m:Md}{a0 r:Expr}(hr:z9e a0=some r):Okp 165 [Expr.x m a0] [] (.ag [dI r.Kind,dI r.N,dI r.Pos,dI r.t__,dS r.Symbol,dS r.Name,.ref 0 none]) [.row .fz 7 (r.Args.map Expr.D)]:=by
 obtain⟨n,hn⟩:=q6S hr
 exact j6x n hn
theorem z7n {m:Md}{a0:Rule}{a1:Oc}{r:(Expr×Bool)}(hr:q8n a0 a1=some r):Okp 113 [Rule.x m a0,Oc.x .fz a1] [] (.tu [.ag [dI r.1.Kind,dI r.1.N,dI r.1.Pos,dI r.1.t__,dS r.1.Symbol,dS r.1.Name,.ref 0 none],dB r.2]) [.row .fz 7 (r.1.Args.map Expr.D)]:=by
 refine OE Tryz.func113 fun S hS=>?_
 unfold q8n at hr
 refine J g<|J (BX' 0)<|J (BX' 1)<|J (NV' 2)<|J (gn 11)<|J (lenA 4 0)<|fun hl1=>bdE hr fun q1 hqq1 hr=>q0b hqq1 hl1 3 (fun k1 _=>[(3,.pb 1 0),(4,.pb 2 0),(9,rw8 m a0.es_),(10,dI (a0.es_.length:Int)),(11,dI (k1:Int))]) (fun k1 _=>[]) I (fun k1 xk1 sk1 ok1 hxk1 hr hltk1 hik1=>?_) fun k1 sk1 ek1 hltk1=>?_
 refine J g<|J (NV' 3)<|J g ?_
 refine J (SQ' rfl rfl rfl rfl (q6E xk1.At a1))<|fE 1 hr ?_ ?_<;>intro h1 hr
 refine bdE hr fun y1 hy1 hr=>J g<|J (CB' [(0,4)] [] (j8p (m:=m) hy1))<|e
 exact e
 subst ek1
 refine J (gn 14) ?_
 refine J (q0c (q0o (q:=2) (c:=6) (r:=3) .fz 7 rfl rfl rfl))<|J g<|E
theorem z9m {m:Md}{a0:List Oc}{a1:Oc}{r:Int}(hr:q5S a0 a1=some r):Okp 179 [rw4 m a0,Oc.x .fz a1] [] (dI r) []:=by
 refine OE Tryz.func179 fun S hS=>?_
 unfold q5S at hr
 refine J g<|J (BX' 0)<|bdE hr fun y1 hy1 hr=>J g<|J (CB' [] [] (z0L (m:=m) hy1))<|e
theorem z9n {m:Md}{a0 r:List Int}(hr:z0e a0=some r):Okp 216 [rw1 m a0] [] (.ref 0 none) [.row .fz 1 (r.map (A.D.i .i64))]:=by
 refine OE Tryz.func216 fun S hS=>?_
 unfold z0e at hr
 refine ggE hr fun g1 hr=>J (gn 6) ?_
 refine q1J rfl fun q hq=>?_
 cases q with
 | true=>
 refine J g ?_
 have e0:a0=[]:=List.map_eq_nil_iff.1 (hq rfl)
 subst e0
 refine J (q0c (q0w (t:=2) (r:=0) .fz 1 rfl rfl))<|J g<|E
 | false=>
 refine J g<|J (L0' 0 (A.D.i .i64))<|J g<|J (APf' 1 (fun _=>rfl) g1)<|e
theorem z3X {m:Md}{a0 r:Rl_}(hr:q8o a0=some r):Okp 180 [Rl_.x m a0] [] (.ag [dI r.N,.ref 0 none]) [.row .fz 1 (r.Rows.map (A.D.i .i64))]:=by
 refine OE Tryz.func180 fun S hS=>?_
 unfold q8o at hr
 refine J g<|J (BX' 0)<|J (NV' 1)<|bdE hr fun y1 hy1 hr=>J g<|J (CB' [(0,2)] [] (z9n (m:=m) hy1))<|e
theorem z8g {m2:Md}{a0:Int}{a1:Rl_}{r:Bool}(hr:q7O a0 a1=some r):Okp 183 [dI a0,.pb 0 0] [bx7 m2 a1] (dB r) [bx7 m2 a1]:=by
 refine OE Tryz.func183 fun S hS=>?_
 unfold q7O at hr
 refine ggE hr fun g1 hr=>J g ?_
 refine J (CIU' g1 rfl)<|ggE hr fun g2 hr=>J (OB' _ (j7M g2))<|J (OB' _ (k1Q (p:=(2 ^ a1.N.toNat)) (k:=1) (by decide)))<|bdE hr fun y1 hy1 hr=>J (CB' [] [] (q4J hy1))<|J g<|E
theorem q9Q {m m2:Md}{a0:List Int}{a1_0:Rl_}{r:Int}(hr:q4U a0 a1_0=some r):Okp 217 [rw1 m a0,.fn 183 [.pb 0 0]] [bx7 m2 a1_0] (dI r) [bx7 m2 a1_0]:=by
 refine OE Tryz.func217 fun S hS=>?_
 unfold q4U at hr
 refine J (gn 12)<|J (lenT 0)<|fun hl1=>bdE hr fun q1 hqq1 hr=>q0b hqq1 hl1 1 (fun k1 _=>[(0,rw1 m a0),(1,.fn 183 [.pb 0 0]),(7,dI (a0.length:Int)),(8,dI (k1:Int))]) (fun k1 _=>[]) I (fun k1 xk1 sk1 ok1 hxk1 hr hltk1 hik1=>?_) fun k1 sk1 ek1 hltk1=>?_
 refine bdE hr fun y1 hy1 hr=>J g<|J (CB' [(0,0)] [] (z8g (m2:=m2) hy1))<|fE 1 hr ?_ ?_<;>intro h1 hr
 exact e
 exact e
 subst ek1
 exact e
theorem q9l {m m2:Md}{a0:List Int}{a1_0:Rl_}{r:Bool}(hr:q4E a0 a1_0=some r):Okp 182 [rw1 m a0,.fn 183 [.pb 0 0]] [bx7 m2 a1_0] (dB r) [bx7 m2 a1_0]:=by
 refine OE Tryz.func182 fun S hS=>?_
 unfold q4E at hr
 refine bdE hr fun y1 hy1 hr=>J g<|J (CB' [(0,0)] [] (q9Q (m:=m) (m2:=m2) hy1))<|e
theorem q6w {m:Md}{a0:Rl_}{r:Bool}(hr:q5m a0=some r):Okp 134 [Rl_.x m a0] [] (dB r) []:=by
 refine OE Tryz.func134 fun S hS=>?_
 unfold q5m at hr
 refine J g<|J (BX' 0)<|bdE hr fun y1 hy1 hr=>J g<|J (CB' [] [] (q4J hy1))<|bdE hr fun s1 hqq1 hr=>q0a 8 [(1,.pb 0 0),(2,dB false),(13,dB s1)] ?_ ?_
 replace hr:=hqq1
 refine ifE hr ?_ ?_<;>intro h1 hr
 exact e
 exact e
 refine bdE hr fun s2 hqq2 hr=>q0a 7 [(2,dB false),(20,dB s2)] ?_ ?_
 replace hr:=hqq2
 refine ifE hr ?_ ?_<;>intro h2 hr
 refine bdE hr fun y2 hy2 hr=>J g<|J (CB' [(0,0)] [] (q9l (m:=m) (m2:=m) hy2))<|e
 exact e
 exact e
theorem j3C {m:Md}{a0:Rl_}{a1 a2:Int}{r:Rl_}(hr:z4t a0 a1 a2=some r):Okp 178 [Rl_.x m a0,dI a1,dI a2] [] (.ag [dI r.N,.ref 0 none]) [.row .fz 1 (r.Rows.map (A.D.i .i64))]:=by
 refine OE Tryz.func178 fun S hS=>?_
 unfold z4t at hr
 refine J g<|J (BX' 0)<|J (NV' 1)<|bdE hr fun y1 hy1 hr=>J g<|J (CB' [(0,2)] [] (z3X (m:=m) hy1))<|J (NV' 3)<|bdE hr fun y2 hy2 hr=>J g<|J (CB' [] [] (q6w (m:=m) hy2))<|bdE hr fun s1 hqq1 hr=>q0a 7 [(1,dI a1),(2,dI a2),(3,.pb 0 0),(6,.pb 1 0),(7,.pb 3 0),(18,dB s1)] ?_ ?_
 replace hr:=hqq1
 refine ifE hr ?_ ?_<;>intro h1 hr
 refine ggE hr fun g1 hr=>bdE hr fun y3 hy3 hr=>J g<|J (CB' [] [] (q4J hy3))<|e
 exact e
 refine bdE hr fun s2 hqq2 hr=>q0a 7 [(1,dI a1),(2,dI a2),(6,.pb 1 0),(7,.pb 3 0),(25,dB s2)] ?_ ?_
 replace hr:=hqq2
 refine ifE hr ?_ ?_<;>intro h2 hr
 refine ggE hr fun g2 hr=>bdE hr fun y4 hy4 hr=>J g<|J (CB' [] [] (q4J hy4))<|e
 exact e
 refine fE 1 hr ?_ ?_<;>intro h3 hr
 refine ggE hr fun g3 hr=>bdE hr fun x1 hx1 hr=>ggE hr fun g4 hr=>J g ?_
 refine J (CIU' g4 rfl)<|ggE hr fun g5 hr=>J (OB' _ (j7M g5))<|ggE hr fun g6 hr=>J (OB' _ (bOrI g6))<|J g<|J (SE' ((x1.toNat ||| ((2 ^ a2.toNat:Nat):Int).toNat:Nat):Int) hx1)<|J g<|E
 exact e
theorem j0R {m:Md}{a0:Gm_}{a1:Rule}{r:Rl_}(hr:q7B a0 a1=some r):Okp 126 [Gm_.y m a0,Rule.x m a1] [] (.ag [dI r.N,.ref 0 none]) [.row .fz 1 (r.Rows.map (A.D.i .i64))]:=by
 refine OE Tryz.func126 fun S hS=>?_
 unfold q7B at hr
 refine J g<|J (BX' 0)<|J (BX' 1)<|J (NV' 2)<|bdE hr fun y1 hy1 hr=>J g<|J (CB' [(0,3)] [] (z6s (m:=m) hy1))<|bdE hr fun y2 hy2 hr=>J g<|J (CB' [(0,4)] [] (z3b hy2))<|J (NV' 5)<|fE 9 hr ?_ ?_<;>intro h1 hr
 refine J (gn 7) ?_
 refine J (q0c (q0o (q:=2) (c:=1) (r:=6) .fz 1 rfl rfl rfl))<|J g<|E
 refine J (gn 10)<|J (lenR 3)<|fun hl1=>bdP hr fun s1 s2 hqq1 hr=>q0d hqq1 hl1 6 (fun k1 (s1,s2)=>[(3,.pb 1 0),(4,.pb 2 0),(5,.ref 3 none),(6,.pb 5 0),(23,.ref 3 none),(24,dI (y1.length:Int)),(25,dI (k1:Int))]) (fun k1 (s1,s2)=>[(4,.row .fz 1 (s1.map (A.D.i .i64))),(5,.box [dI s2,.ref 4 none])]) I (fun k1 xk1 sk1 ok1 hxk1 hr hltk1=>?_) fun k1 hltk1=>?_
 obtain⟨s1,s2⟩:=sk1
 refine J g<|J (NV' 6)<|bdP hr fun y3 y4 hq2 hr=>J g<|J (CB' [(0,7)] [] (z7n (m:=m) hq2))<|J g<|J (NV' 8)<|bdE hr fun y5 hy5 hr=>J g<|J (CB' [(0,9)] [7] (z2Y (m:=.bo) hy5))<|J (gn 4)<|J (lenR 9)<|fun hl2=>bdP hr fun s3 s4 hqq3 hr=>q0d hqq3 hl2 10 (fun k2 (s3,s4)=>[(3,.pb 1 0),(4,.pb 2 0),(5,.ref 3 none),(6,.pb 5 0),(7,dI (k1:Int)),(23,.ref 3 none),(24,dI (y1.length:Int)),(25,dI (k1:Int)),(37,.ref 9 none),(38,dI (y5.length:Int)),(39,dI (k2:Int))]) (fun k2 (s3,s4)=>[(4,.row .fz 1 (s3.map (A.D.i .i64))),(5,.box [dI s4,.ref 4 none])]) I (fun k2 xk2 sk2 ok2 hxk2 hr hltk2=>?_) fun k2 hltk2=>?_
 obtain⟨s3,s4⟩:=sk2
 refine J g<|J (NV' 10)<|bdE hr fun y6 hy6 hr=>J g<|J (CB' [] [3] (z9m (m:=.bo) hy6))<|bdE hr fun y7 hy7 hr=>J g<|J (CB' [(0,11)] [4] (j3C (m:=.bo) hy7))<|e
 exact e
 exact e
theorem j0S {m:Md}{a0:Symbol}{a1:BA_}{r:Bool}(hr:q9K a0 a1=some r):Okp 112 [Symbol.x m a0,.pb 0 0] [.box [dS a1]] (dB r) [.box [dS a1]]:=by
 refine OE Tryz.func112 fun S hS=>?_
 unfold q9K at hr
 refine J g<|J (BX' 1)<|e
theorem z0a {m:Md}{a0:List Symbol}{a1_0:BA_}{r:Int}(hr:q4t a0 a1_0=some r):Okp 111 [rw3 m a0,.fn 112 [.pb 0 0]] [.box [dS a1_0]] (dI r) [.box [dS a1_0]]:=by
 refine OE Tryz.func111 fun S hS=>?_
 unfold q4t at hr
 refine J (gn 12)<|J (lenT 0)<|fun hl1=>bdE hr fun q1 hqq1 hr=>q0b hqq1 hl1 1 (fun k1 _=>[(0,rw3 m a0),(1,.fn 112 [.pb 0 0]),(7,dI (a0.length:Int)),(8,dI (k1:Int))]) (fun k1 _=>[]) I (fun k1 xk1 sk1 ok1 hxk1 hr hltk1 hik1=>?_) fun k1 sk1 ek1 hltk1=>?_
 refine bdE hr fun y1 hy1 hr=>J g<|J (CB' [(0,0)] [] (j0S (m:=m) hy1))<|fE 1 hr ?_ ?_<;>intro h1 hr
 exact e
 exact e
 subst ek1
 exact e
theorem z5b {m:Md}{a0:Gm_}{a1:BA_}{r:Int}(hr:q7g a0 a1=some r):Okp 62 [Gm_.y m a0,dS a1] [] (dI r) []:=by
 refine OE Tryz.func62 fun S hS=>?_
 unfold q7g at hr
 refine J g<|J (BX' 0)<|J (BX' 1)<|bdE hr fun y1 hy1 hr=>J g<|J (CB' [(0,1)] [] (z0a (m:=m) hy1))<|e
theorem z5c {m:Md}{a0:Gm_}{a1:Rule}{a2:Int}{r:List Int}(hr:q7q a0 a1 a2=some r):Okp 132 [Gm_.y m a0,Rule.x m a1,dI a2] [] (.ref 0 none) [.row .fz 1 (r.map (A.D.i .i64))]:=by
 refine OE Tryz.func132 fun S hS=>?_
 unfold q7q at hr
 refine J g<|J (BX' 0)<|J (BX' 1)<|J g<|J (L0' 2 (A.D.i .i64))<|bdE hr fun y1 hy1 hr=>J g<|J (CB' [(0,3)] [] (z6s (m:=m) hy1))<|J (gn 4)<|J (lenR 3)<|fun hl1=>bdE hr fun s1 hqq1 hr=>q0d hqq1 hl1 4 (fun k1 s1=>[(2,dI a2),(7,.ref 2 none),(13,.ref 3 none),(14,dI (y1.length:Int)),(15,dI (k1:Int))]) (fun k1 s1=>[(2,.row .fz 1 (s1.map (A.D.i .i64)))]) I (fun k1 xk1 sk1 ok1 hxk1 hr hltk1=>?_) fun k1 hltk1=>?_
 obtain⟨s1,rfl⟩:∃ y,y=sk1:=⟨_,rfl⟩
 refine bdE hr fun s2 hqq2 hr=>J (gn 8)<|q0e 4 [(2,dI a2),(7,.ref 2 none),(13,.ref 3 none),(14,dI (y1.length:Int)),(15,dI (k1:Int))] [(2,.row .fz 1 (s2.map (A.D.i .i64)))] ?_ ?_
 replace hr:=hqq2
 refine J g<|J (NV' 4)<|fE 10 hr ?_ ?_<;>intro h1 hr
 refine J g<|J (LIR' 5 (m:=.fz) (f:=(A.D.i .i64)) (xs:=([(k1:Int)]:List Int)))<|ggE hr fun g1 hr=>J (z1p (f:=(A.D.i .i64)) 6 (fun _=>rfl) 8 g1)<|e
 exact e
 exact e
 exact e
theorem z6Y {m:Md}{a0:Rl_}{a1 a2:Int}{r:Bool}(hr:z0x a0 a1 a2=some r):Okp 136 [Rl_.x m a0,dI a1,dI a2] [] (dB r) []:=by
 refine OE Tryz.func136 fun S hS=>?_
 unfold z0x at hr
 refine J g<|J (BX' 0)<|bdE hr fun y1 hy1 hr=>J g<|J (CB' [] [] (q6w (m:=m) hy1))<|bdE hr fun s1 hqq1 hr=>q0a 7 [(1,dI a1),(2,dI a2),(3,.pb 0 0),(6,dB false),(15,dB s1)] ?_ ?_
 replace hr:=hqq1
 refine ifE hr ?_ ?_<;>intro h1 hr
 refine ggE hr fun g1 hr=>bdE hr fun y2 hy2 hr=>J g<|J (CB' [] [] (q4J hy2))<|e
 exact e
 refine bdE hr fun s2 hqq2 hr=>q0a 7 [(1,dI a1),(2,dI a2),(3,.pb 0 0),(6,dB false),(22,dB s2)] ?_ ?_
 replace hr:=hqq2
 refine ifE hr ?_ ?_<;>intro h2 hr
 refine ggE hr fun g2 hr=>bdE hr fun y3 hy3 hr=>J g<|J (CB' [] [] (q4J hy3))<|e
 exact e
 refine bdE hr fun s3 hqq3 hr=>q0a 12 [(6,dB false),(34,dB s3)] ?_ ?_
 replace hr:=hqq3
 refine ifE hr ?_ ?_<;>intro h3 hr
 refine ggE hr fun g3 hr=>bdE hr fun x1 hx1 hr=>ggE hr fun g4 hr=>J g ?_
 refine J (CIU' g4 rfl)<|ggE hr fun g5 hr=>J (OB' _ (k5I g5))<|ggE hr fun g6 hr=>J (OB' _ (k5J g6))<|J g<|E
 exact e
 exact e
theorem k3G {m:Md}{a0:Gm_}{a1:Rule}{a2:Rl_}{a3:Int}{a4 r:Rl_}(hr:z9Q a0 a1 a2 a3 a4=some r):Okp 127 [Gm_.y m a0,Rule.x m a1,.ag [dI a2.N,.ref 0 none],dI a3,Rl_.x m a4] [.row .fz 1 (a2.Rows.map (A.D.i .i64))] (.ag [dI r.N,.ref 1 none]) [.dead,.row .fz 1 (r.Rows.map (A.D.i .i64))]:=by
 refine OE Tryz.func127 fun S hS=>?_
 unfold z9Q at hr
 refine J g<|J (BX' 1)<|J (BX' 2)<|J (BX' 3)<|J (BX' 4)<|J (NV' 5)<|bdE hr fun y1 hy1 hr=>J g<|J (CB' [(0,6)] [] (z5c (m:=m) hy1))<|J (gn 10) ?_
 refine J (q0P 0 7 rfl)<|J (lenR 6)<|fun hl1=>bdP hr fun s1 s2 hqq1 hr=>q0d hqq1 hl1 8 (fun k1 (s1,s2)=>[(7,.pb 3 0),(9,.pb 4 0),(10,.pb 5 0),(11,.ref 6 none),(20,.ref 6 none),(21,dI (y1.length:Int)),(22,dI (k1:Int))]) (fun k1 (s1,s2)=>[(3,.box [dI s1,.ref 7 none]),(7,.row .fz 1 (s2.map (A.D.i .i64)))]) I (fun k1 xk1 sk1 ok1 hxk1 hr hltk1=>?_) fun k1 hltk1=>?_
 obtain⟨s1,s2⟩:=sk1
 refine J (gn 24)<|J (lenR 6)<|fun hl2=>bdP hr fun s3 s4 hqq2 hr=>q0d hqq2 hl2 8 (fun k2 (s3,s4)=>[(7,.pb 3 0),(9,.pb 4 0),(10,.pb 5 0),(11,.ref 6 none),(12,dI (k1:Int)),(13,dI xk1),(20,.ref 6 none),(21,dI (y1.length:Int)),(22,dI (k1:Int)),(27,.ref 6 none),(28,dI (y1.length:Int)),(29,dI (k2:Int))]) (fun k2 (s3,s4)=>[(3,.box [dI s3,.ref 7 none]),(7,.row .fz 1 (s4.map (A.D.i .i64)))]) I (fun k2 xk2 sk2 ok2 hxk2 hr hltk2=>?_) fun k2 hltk2=>?_
 obtain⟨s3,s4⟩:=sk2
 refine bdP hr fun s6 s5 hqq3 hr=>J (gn 8)<|q0e 8 [(7,.pb 3 0),(9,.pb 4 0),(10,.pb 5 0),(11,.ref 6 none),(12,dI (k1:Int)),(13,dI xk1),(20,.ref 6 none),(21,dI (y1.length:Int)),(22,dI (k1:Int)),(27,.ref 6 none),(28,dI (y1.length:Int)),(29,dI (k2:Int))] [(3,.box [dI s6,.ref 7 none]),(7,.row .fz 1 (s5.map (A.D.i .i64)))] ?_ ?_
 replace hr:=hqq3
 refine bdE hr fun y2 hy2 hr=>J g<|J (CB' [] [] (z6Y (m:=m) hy2))<|fE 1 hr ?_ ?_<;>intro h1 hr
 refine bdE hr fun y3 hy3 hr=>J g<|J (CB' [(0,8)] [7] (j3C (m:=.bo) hy3))<|e
 exact e
 exact e
 exact e
 exact e
theorem z6t {m:Md}{a0 r:Rl_}(hr:q8E a0=some r):Okp 128 [Rl_.x m a0] [] (.ag [dI r.N,.ref 0 none]) [.row .fz 1 (r.Rows.map (A.D.i .i64))]:=by
 refine OE Tryz.func128 fun S hS=>?_
 unfold q8E at hr
 refine J g<|J (BX' 0)<|J (NV' 1)<|bdE hr fun y1 hy1 hr=>J g<|J (CB' [(0,2)] [] (z3X (m:=m) hy1))<|J (NV' 3)<|bdE hr fun y2 hy2 hr=>J g<|J (CB' [] [] (q6w (m:=m) hy2))<|fE 2 hr ?_ ?_<;>intro h1 hr
 refine J (gn 11)<|J (rngT 14)<|fun hl1=>bdE hr fun s1 hqq1 hr=>q0n hqq1 4 (fun k1 s1=>[(2,.pb 1 0),(3,.pb 3 0),(14,dI (y1.Rows.length:Int)),(15,dI (k1:Int))]) (fun k1 s1=>[(2,.row .fz 1 (s1.map (A.D.i .i64)))]) I (fun k1 sk1 ok1 hr hltk1=>?_) ?_
 obtain⟨s1,rfl⟩:∃ y,y=sk1:=⟨_,rfl⟩
 refine J (gn 22)<|J (rngT 20)<|fun hl2=>bdE hr fun s2 hqq2 hr=>q0n hqq2 4 (fun k2 s2=>[(2,.pb 1 0),(3,.pb 3 0),(4,dI (k1:Int)),(14,dI (y1.Rows.length:Int)),(15,dI (k1:Int)),(20,dI (s1.length:Int)),(21,dI (k2:Int))]) (fun k2 s2=>[(2,.row .fz 1 (s2.map (A.D.i .i64)))]) I (fun k2 sk2 ok2 hr hltk2=>?_) ?_
 obtain⟨s2,rfl⟩:∃ y,y=sk2:=⟨_,rfl⟩
 refine bdE hr fun s3 hqq3 hr=>J (gn 8)<|q0e 4 [(2,.pb 1 0),(3,.pb 3 0),(4,dI (k1:Int)),(14,dI (y1.Rows.length:Int)),(15,dI (k1:Int)),(20,dI (s1.length:Int)),(21,dI (k2:Int))] [(2,.row .fz 1 (s3.map (A.D.i .i64)))] ?_ ?_
 replace hr:=hqq3
 refine bdE hr fun x1 hx1 hr=>J g ?_
 refine J (CIU' (Eaz _) rfl)<|ggE hr fun g1 hr=>J (OB' _ (k5I g1))<|ggE hr fun g2 hr=>J (OB' _ (k5J g2))<|fE 2 hr ?_ ?_<;>intro h2 hr
 refine bdE hr fun x2 hx2 hr=>ggE hr fun g3 hr=>J g<|J (OB' _ (bOrI g3))<|J g<|J (SE' ((x1.toNat ||| x2.toNat:Nat):Int) hx1)<|e
 exact e
 exact e
 exact e
 exact e
 exact e
theorem j3D {m:Md}{a0:Rl_}{r:Bool}(hr:z2H a0=some r):Okp 129 [Rl_.x m a0] [] (dB r) []:=by
 refine OE Tryz.func129 fun S hS=>?_
 unfold z2H at hr
 refine J g<|J (BX' 0)<|bdE hr fun y1 hy1 hr=>J g<|J (CB' [(0,1)] [] (z6t (m:=m) hy1))<|J (NV' 2)<|J (gn 11)<|J (lenR 1)<|fun hl1=>bdE hr fun q1 hqq1 hr=>q0b hqq1 hl1 3 (fun k1 _=>[(3,.pb 2 0),(9,dI (y1.Rows.length:Int)),(10,dI (k1:Int))]) (fun k1 _=>[]) I (fun k1 xk1 sk1 ok1 hxk1 hr hltk1 hik1=>?_) fun k1 sk1 ek1 hltk1=>?_
 refine bdE hr fun y2 hy2 hr=>J g<|J (CB' [] [1] (z6Y (m:=.bo) hy2))<|fE 1 hr ?_ ?_<;>intro h1 hr
 exact e
 exact e
 subst ek1
 exact e
theorem z9o {m:Md}{a0:Rl_}{a1:List Int}{r:Rl_}(hr:q8K a0 a1=some r):Okp 131 [Rl_.x m a0,rw1 m a1] [] (.ag [dI r.N,.ref 0 none]) [.row .fz 1 (r.Rows.map (A.D.i .i64))]:=by
 refine OE Tryz.func131 fun S hS=>?_
 unfold q8K at hr
 refine J g<|J (BX' 0)<|J (NV' 1)<|bdE hr fun y1 hy1 hr=>J g<|J (CB' [] [] (q6w (m:=m) hy1))<|fE 1 hr ?_ ?_<;>intro h1 hr
 refine fE 6 hr ?_ ?_<;>intro h2 hr
 refine J (gn 7) ?_
 refine J (q0c (q0o (q:=1) (c:=1) (r:=2) .fz 1 rfl rfl rfl))<|J g<|E
 refine bdE hr fun y2 hy2 hr=>J g<|J (CB' [(0,2)] [] (z3b hy2))<|J (NV' 3)<|J (gn 10)<|J (lenT 1)<|fun hl1=>bdE hr fun s1 hqq1 hr=>q0d hqq1 hl1 4 (fun k1 s1=>[(1,rw1 m a1),(2,.pb 0 0),(4,.pb 1 0),(5,.pb 3 0),(22,rw1 m a1),(23,dI (a1.length:Int)),(24,dI (k1:Int))]) (fun k1 s1=>[(2,.row .fz 1 (s1.map (A.D.i .i64)))]) I (fun k1 xk1 sk1 ok1 hxk1 hr hltk1=>?_) fun k1 hltk1=>?_
 obtain⟨s1,rfl⟩:∃ y,y=sk1:=⟨_,rfl⟩
 refine J (gn 24)<|J (lenT 1)<|fun hl2=>bdE hr fun s2 hqq2 hr=>q0d hqq2 hl2 4 (fun k2 s2=>[(1,rw1 m a1),(2,.pb 0 0),(4,.pb 1 0),(5,.pb 3 0),(6,dI (k1:Int)),(7,dI xk1),(22,rw1 m a1),(23,dI (a1.length:Int)),(24,dI (k1:Int)),(29,rw1 m a1),(30,dI (a1.length:Int)),(31,dI (k2:Int))]) (fun k2 s2=>[(2,.row .fz 1 (s2.map (A.D.i .i64)))]) I (fun k2 xk2 sk2 ok2 hxk2 hr hltk2=>?_) fun k2 hltk2=>?_
 obtain⟨s2,rfl⟩:∃ y,y=sk2:=⟨_,rfl⟩
 refine bdE hr fun s3 hqq3 hr=>J (gn 8)<|q0e 4 [(1,rw1 m a1),(2,.pb 0 0),(4,.pb 1 0),(5,.pb 3 0),(6,dI (k1:Int)),(7,dI xk1),(22,rw1 m a1),(23,dI (a1.length:Int)),(24,dI (k1:Int)),(29,rw1 m a1),(30,dI (a1.length:Int)),(31,dI (k2:Int))] [(2,.row .fz 1 (s3.map (A.D.i .i64)))] ?_ ?_
 replace hr:=hqq3
 refine bdE hr fun y3 hy3 hr=>J g<|J (CB' [] [] (z6Y (m:=m) hy3))<|fE 1 hr ?_ ?_<;>intro h3 hr
 refine bdE hr fun x1 hx1 hr=>J g ?_
 refine J (CIU' (Eaz _) rfl)<|ggE hr fun g1 hr=>J (OB' _ (j7M g1))<|ggE hr fun g2 hr=>J (OB' _ (bOrI g2))<|J g<|J (SE' ((x1.toNat ||| ((2 ^ (k2:Int).toNat:Nat):Int).toNat:Nat):Int) hx1)<|J g<|E
 exact e
 exact e
 exact e
 exact e
 refine J (gn 13) ?_
 refine J (q0c (q0o (q:=1) (c:=1) (r:=2) .fz 1 rfl rfl rfl))<|J g<|E
theorem j0T {m:Md}{a0 a1 r:Rl_}(hr:q9L a0 a1=some r):Okp 130 [Rl_.x m a0,Rl_.x m a1] [] (.ag [dI r.N,.ref 0 none]) [.row .fz 1 (r.Rows.map (A.D.i .i64))]:=by
 refine OE Tryz.func130 fun S hS=>?_
 unfold q9L at hr
 refine J g<|J (BX' 0)<|J (BX' 1)<|J (NV' 2)<|bdE hr fun y1 hy1 hr=>J g<|J (CB' [(0,3)] [] (z3X (m:=m) hy1))<|J (NV' 4)<|bdE hr fun y2 hy2 hr=>J g<|J (CB' [] [] (q6w (m:=m) hy2))<|bdE hr fun s1 hqq1 hr=>q0a 4 [(2,.pb 0 0),(3,.pb 1 0),(4,.pb 2 0),(5,.pb 4 0),(14,dB s1)] ?_ ?_
 replace hr:=hqq1
 refine ifE hr ?_ ?_<;>intro h1 hr
 refine bdE hr fun y3 hy3 hr=>J g<|J (CB' [] [] (q6w (m:=m) hy3))<|e
 exact e
 refine bdE hr fun s2 hqq2 hr=>q0a 7 [(3,.pb 1 0),(4,.pb 2 0),(5,.pb 4 0),(21,dB s2)] ?_ ?_
 replace hr:=hqq2
 refine ifE hr ?_ ?_<;>intro h2 hr
 exact e
 exact e
 refine fE 1 hr ?_ ?_<;>intro h3 hr
 refine J (gn 9)<|J (rngT 24)<|fun hl1=>bdE hr fun s3 hqq3 hr=>q0n hqq3 5 (fun k1 s3=>[(3,.pb 1 0),(4,.pb 2 0),(5,.pb 4 0),(24,dI (y1.Rows.length:Int)),(25,dI (k1:Int))]) (fun k1 s3=>[(3,.row .fz 1 (s3.map (A.D.i .i64)))]) I (fun k1 sk1 ok1 hr hltk1=>?_) ?_
 obtain⟨s3,rfl⟩:∃ y,y=sk1:=⟨_,rfl⟩
 refine bdE hr fun x1 hx1 hr=>bdE hr fun x2 hx2 hr=>ggE hr fun g1 hr=>J g<|J (OB' _ (bOrI g1))<|J g<|J (SE' ((x1.toNat ||| x2.toNat:Nat):Int) hx1)<|e
 exact e
 exact e
theorem z9p {m:Md}{a0 a1:List Int}{r:Bool}(hr:z2h a0 a1=some r):Okp 181 [rw1 m a0,rw1 m a1] [] (dB r) []:=by
 refine OE Tryz.func181 fun S hS=>?_
 unfold z2h at hr
 refine fE 13 hr ?_ ?_<;>intro h1 hr
 refine J (gn 10)<|J (lenT 0)<|fun hl1=>bdE hr fun q1 hqq1 hr=>q0b hqq1 hl1 0 (fun k1 _=>[(0,rw1 m a0),(1,rw1 m a1),(12,dI (a0.length:Int)),(13,dI (k1:Int))]) (fun k1 _=>[]) I (fun k1 xk1 sk1 ok1 hxk1 hr hltk1 hik1=>?_) fun k1 sk1 ek1 hltk1=>?_
 refine bdE hr fun x1 hx1 hr=>fE 26 hr ?_ ?_<;>intro h2 hr
 exact e
 exact e
 subst ek1
 exact e
 exact e
theorem j0U {m:Md}{a0 a1:Rl_}{r:Bool}(hr:z1i a0 a1=some r):Okp 133 [Rl_.x m a0,Rl_.x m a1] [] (dB r) []:=by
 refine OE Tryz.func133 fun S hS=>?_
 unfold z1i at hr
 refine J g<|J (BX' 0)<|J (BX' 1)<|fE 9 hr ?_ ?_<;>intro h1 hr
 refine bdE hr fun y1 hy1 hr=>J g<|J (CB' [] [] (z9p (m:=m) hy1))<|e
 exact e
theorem z8N {m:Md}{a0:Gm_}{r:((List Rl_)×Bool)}(hr:q6u a0=some r):Okp 78 [Gm_.x m a0] [] (.tu [.ref 0 none,dB r.2]) [.row .fz 2 (r.1.map Rl_.D)]:=by
 refine OE Tryz.func78 fun S hS=>?_
 unfold q6u at hr
 refine J g<|J (BX' 0)<|bdE hr fun y1 hy1 hr=>J g<|J (CB' [] [] (j1E (m:=m) hy1))<|fE 2 hr ?_ ?_<;>intro h1 hr
 refine bdE hr fun y2 hy2 hr=>J g<|J (CB' [(0,1)] [] (j0e (m:=m) hy2))<|bdE hr fun q1 hqq1 hr=>J (gn 7)<|AW.cut 2 (fun s1=>[(4,.ref 1 none)]) (fun s1=>[(1,.row .fz 2 (s1.map Rl_.D))]) (M:=fun x=>q1=.inl x) ?_ fun x hx=>?_
 refine J g<|q0i hqq1 2 (fun (s2,s3)=>[(1,.pb 0 0),(4,.ref 1 none),(5,dB s3)]) (fun (s2,s3)=>[(1,.row .fz 2 (s2.map Rl_.D))]) I fun sk1 ok1 hr hik1=>?_
 obtain⟨s2,s3⟩:=sk1
 have hr:=hr
 refine fE 5 hr ?_ ?_<;>intro h2 hr
 refine J (gn 15)<|J (lenT 20)<|fun hl2=>bdE hr fun q2 hqq2 hr=>q0b hqq2 hl2 2 (fun k2 (s4,s5)=>[(1,.pb 0 0),(4,.ref 1 none),(5,dB s5),(20,rw5 m a0.rs_),(21,dI (a0.rs_.length:Int)),(22,dI (k2:Int))]) (fun k2 (s4,s5)=>[(1,.row .fz 2 (s4.map Rl_.D))]) I (fun k2 xk2 sk2 ok2 hxk2 hr hltk2 hik2=>?_) fun k2 sk2 ek2 hltk2=>?_
 obtain⟨s4,s5⟩:=sk2
 unfold q6j at hr
 dsimp only at hr
 refine J g<|J (NV' 2)<|bdE hr fun y3 hy3 hr=>J g<|J (CB' [(0,3)] [] (j0R (m:=m) hy3))<|J (NV' 4)<|ggE hr fun g1 hr=>J (gn 12)<|J (rngT 32)<|fun hl3=>bdP hr fun s6 s7 hqq3 hr=>q0n hqq3 5 (fun k3 (s6,s7)=>[(1,.pb 0 0),(4,.ref 1 none),(5,dB s5),(7,.pb 2 0),(8,.pb 4 0),(20,rw5 m a0.rs_),(21,dI (a0.rs_.length:Int)),(22,dI (k2:Int)),(32,dI ((xk2.rt_.length+1:Nat):Int)),(33,dI (k3:Int))]) (fun k3 (s6,s7)=>[(3,.row .fz 1 (s6.map (A.D.i .i64))),(4,.box [dI s7,.ref 3 none])]) I (fun k3 sk3 ok3 hr hltk3=>?_) ?_
 obtain⟨s6,s7⟩:=sk3
 refine bdE hr fun y4 hy4 hr=>J g<|J (CB' [] [] (z0s (m:=m) hy4))<|bdE hr fun y5 hy5 hr=>J (CB' [] [] (z5b (m:=m) hy5))<|ggE hr fun g2 hr=>bdE hr fun x1 hx1 hr=>bdE hr fun y6 hy6 hr=>J g<|J (CB' [(0,3),(1,5)] [] (k3G (m:=m) hy6))<|e
 refine bdE hr fun y7 hy7 hr=>J g<|J (CB' [(0,5)] [3] (z6t (m:=.bo) hy7))<|bdE hr fun y8 hy8 hr=>J g<|J (CB' [] [5] (j3D (m:=.bo) hy8))<|fE 1 hr ?_ ?_<;>intro h3 hr
 refine J (gn 7) ?_
 refine J (q0c (q0w (t:=2) (r:=6) .fz 2 rfl rfl))<|J g<|E
 refine ggE hr fun g3 hr=>J (gn 11)<|J (rngT 32)<|fun hl4=>bdP hr fun s8 s9 hqq4 hr=>q0n hqq4 6 (fun k4 (s8,s9)=>[(1,.pb 0 0),(4,.ref 1 none),(5,dB s9),(7,.pb 2 0),(8,.pb 4 0),(20,rw5 m a0.rs_),(21,dI (a0.rs_.length:Int)),(22,dI (k2:Int)),(57,dI ((xk2.rt_.length+1:Nat):Int)),(58,dI (k4:Int))]) (fun k4 (s8,s9)=>[(1,.row .fz 2 (s8.map Rl_.D))]) I (fun k4 sk4 ok4 hr hltk4=>?_) ?_
 obtain⟨s8,s9⟩:=sk4
 refine bdP hr fun s10 s11 hqq5 hr=>J (gn 8)<|q0e 6 [(1,.pb 0 0),(4,.ref 1 none),(5,dB s10),(7,.pb 2 0),(8,.pb 4 0),(20,rw5 m a0.rs_),(21,dI (a0.rs_.length:Int)),(22,dI (k2:Int)),(57,dI ((xk2.rt_.length+1:Nat):Int)),(58,dI (k4:Int))] [(1,.row .fz 2 (s11.map Rl_.D))] ?_ ?_
 replace hr:=hqq5
 refine bdE hr fun y9 hy9 hr=>J g<|J (CB' [] [] (z0s (m:=m) hy9))<|bdE hr fun y10 hy10 hr=>J (CB' [] [] (z5b (m:=m) hy10))<|ggE hr fun g4 hr=>bdE hr fun x2 hx2 hr=>bdE hr fun y11 hy11 hr=>J g<|J (CB' [(0,6)] [] (z5c (m:=m) hy11))<|bdE hr fun y12 hy12 hr=>J (CB' [(0,7)] [5,6] (z9o (m:=.bo) hy12))<|bdE hr fun y13 hy13 hr=>J (CB' [(0,8)] [7] (j0T (m:=.bo) hy13))<|J (NV' 9)<|fE 5 hr ?_ ?_<;>intro h4 hr
 refine J (gn 9)<|J (q0G .refl)<|J (gn 7) ?_
 refine J (q0p 8 rfl)<|J (SE' y13 hx2)<|J g<|E
 refine bdE hr fun y14 hy14 hr=>J g<|J (CB' [] [8] (j0U (m:=.bo) hy14))<|J (gn 2)<|J (q0G .refl)<|J (gn 7) ?_
 refine J (q0p 8 rfl)<|J (SE' y13 hx2)<|J g<|E
 exact e
 exact e
 subst ek2
 obtain⟨s4,s5⟩:=sk2
 exact e
 refine J (gn 2) ?_
 cases hr
 cases hik1 _ rfl
 exact⟨_,rfl,q0g hS 2⟩
 subst hx
 obtain⟨s1,rfl⟩:∃ y,y=x:=⟨_,rfl⟩
 exact e
 refine J (gn 7) ?_
 refine J (q0c (q0w (t:=2) (r:=1) .fz 2 rfl rfl))<|J g<|E
theorem z8O {m:Md}{a0:List Bool}{a1:Bool}{r:Int}(hr:q8p a0 a1=some r):Okp 184 [.d m (.sl 1 (a0.map A.D.b)),dB a1] [] (dI r) []:=by
 refine OE Tryz.func184 fun S hS=>?_
 unfold q8p at hr
 refine J (gn 12)<|J (lenT 0)<|fun hl1=>bdE hr fun q1 hqq1 hr=>q0b hqq1 hl1 0 (fun k1 _=>[(0,.d m (.sl 1 (a0.map A.D.b))),(1,dB a1),(7,dI (a0.length:Int)),(8,dI (k1:Int))]) (fun k1 _=>[]) I (fun k1 xk1 sk1 ok1 hxk1 hr hltk1 hik1=>?_) fun k1 sk1 ek1 hltk1=>?_
 refine J g ?_
 refine J (BQ' rfl rfl)<|fE 1 hr ?_ ?_<;>intro h1 hr
 exact e
 exact e
 subst ek1
 exact e
theorem z6Z {m:Md}{a0:List Bool}{a1 r:Bool}(hr:q6n a0 a1=some r):Okp 138 [.d m (.sl 1 (a0.map A.D.b)),dB a1] [] (dB r) []:=by
 refine OE Tryz.func138 fun S hS=>?_
 unfold q6n at hr
 refine bdE hr fun y1 hy1 hr=>J g<|J (CB' [] [] (z8O (m:=m) hy1))<|e
theorem j4H {m2:Md}{a0:Int}{a1:List At_}{a2:Rl_}{a3:List Bool}{r:Bool}(hr:z0y a0 a1 a2 a3=some r):Okp 135 [dI a0,.pb 0 0,.pb 1 0,.pb 2 0] [.box [rw6 m2 a1],bx7 m2 a2,.box [.ref 3 none],.row .fz 1 (a3.map A.D.b)] (dB r) [.box [rw6 m2 a1],bx7 m2 a2,.box [.ref 3 none],.row .fz 1 (a3.map A.D.b)]:=by
 refine OE Tryz.func135 fun S hS=>?_
 unfold z0y at hr
 refine J (gn 12)<|J (lenT 7)<|fun hl1=>bdE hr fun q1 hqq1 hr=>q0b hqq1 hl1 4 (fun k1 _=>[(0,dI a0),(2,.pb 1 0),(3,.pb 2 0),(8,dI (a1.length:Int)),(9,dI (k1:Int))]) (fun k1 _=>[]) I (fun k1 xk1 sk1 ok1 hxk1 hr hltk1 hik1=>?_) fun k1 sk1 ek1 hltk1=>?_
 refine bdE hr fun y1 hy1 hr=>J g<|J (CB' [] [] (z6Y (m:=m2) hy1))<|ifE hr ?_ ?_<;>intro h1 hr
 refine bdE hr fun x1 hx1 hr=>fE 8 hr ?_ ?_<;>intro h2 hr
 exact e
 exact e
 exact e
 subst ek1
 exact e
theorem z0M {m2:Md}{a0:Int}{o0:List At_}{o1:Rl_}{o2:List Bool}{r:((List BA_)×(List Bool))}(hr:q4O a0 o0 o1 o2=some r):Okp 137 [dI a0,.pb 0 0,.pb 2 0,.pb 3 0] [.box [rw6 m2 o0],bx7 m2 o1,.box [.ref 4 none],.box [.fn 135 [.pb 0 0,.pb 1 0,.pb 2 0]],.row .fz 1 (o2.map A.D.b)] (.ref 5 none) [.box [rw6 m2 o0],bx7 m2 o1,.box [.ref 4 none],.box [.fn 135 [.pb 0 0,.pb 1 0,.pb 2 0]],.row .fz 1 (r.2.map A.D.b),.row .fz 1 (r.1.map A.D.s)]:=by
 refine OE Tryz.func137 fun S hS=>?_
 unfold q4O at hr
 refine J g<|J (L0' 5 A.D.s)<|bdP hr fun s1 s2 hqq1 hr=>J (gn 7)<|q0e 6 [(6,.ref 5 none)] [(4,.row .fz 1 (s2.map A.D.b)),(5,.row .fz 1 (s1.map A.D.s))] ?_ ?_
 refine J g<|q0i hqq1 6 (fun (s3,s4,s5)=>[(0,dI a0),(1,.pb 0 0),(2,.pb 2 0),(3,.pb 3 0),(6,.ref 5 none),(7,dI s4)]) (fun (s3,s4,s5)=>[(4,.row .fz 1 (s5.map A.D.b)),(5,.row .fz 1 (s3.map A.D.s))]) I fun sk1 ok1 hr hik1=>?_
 obtain⟨s3,s4,s5⟩:=sk1
 have hr:=hr
 refine fE 8 hr ?_ ?_<;>intro h1 hr
 refine bdT hr fun s6 s7 s8 hqq2 hr=>J (gn 3)<|q0e 6 [(0,dI a0),(1,.pb 0 0),(2,.pb 2 0),(3,.pb 3 0),(6,.ref 5 none),(7,dI s7)] [(4,.row .fz 1 (s8.map A.D.b)),(5,.row .fz 1 (s6.map A.D.s))] ?_ ?_
 replace hr:=hqq2
 refine ggE hr fun g1 hr=>bdE hr fun x1 hx1 hr=>bdE hr fun s9 hqq3 hr=>J (gn 10)<|q0a 7 [(0,dI a0),(1,.pb 0 0),(2,.pb 2 0),(3,.pb 3 0),(6,.ref 5 none),(7,dI s4),(28,dB s9)] ?_ ?_
 replace hr:=hqq3
 refine ifE hr ?_ ?_<;>intro h2 hr
 refine ggE hr fun g2 hr=>bdE hr fun x2 hx2 hr=>e
 exact e
 refine bdE hr fun s10 hqq4 hr=>q0a 5 [(0,dI a0),(1,.pb 0 0),(2,.pb 2 0),(3,.pb 3 0),(6,.ref 5 none),(7,dI s4),(33,dB s10)] ?_ ?_
 replace hr:=hqq4
 refine ifE hr ?_ ?_<;>intro h3 hr
 refine bdE hr fun y1 hy1 hr=>J g<|J (CB' [(0,0),(1,1),(2,2),(3,4)] [] (j4H (m2:=m2) hy1))<|e
 exact e
 refine fE 1 hr ?_ ?_<;>intro h4 hr
 refine J g<|J (LIR' 6 (m:=.fz) (f:=A.D.s) (xs:=[x1.Name]))<|ggE hr fun g3 hr=>J (z1p (f:=A.D.s) 7 (fun _=>rfl) 16 g3)<|ggE hr fun g4 hr=>bdE hr fun x3 hx3 hr=>J g<|J (SE' true hx3)<|e
 exact e
 refine ggE hr fun g5 hr=>e
 refine J (gn 2) ?_
 cases hr
 cases hik1 _ rfl
 exact q0g hS 6
 exact e
theorem j8q {m:Md}{a0:List At_}{a1:Rl_}{r:((List Ph_)×Bool)}(hr:z2I a0 a1=some r):Okp 79 [rw6 m a0,Rl_.x m a1] [] (.tu [.ref 0 none,dB r.2]) [.row .fz 2 (r.1.map Ph_.D)]:=by
 refine OE Tryz.func79 fun S hS=>?_
 unfold z2I at hr
 refine J g<|J (BX' 0)<|J (BX' 1)<|bdE hr fun y1 hy1 hr=>J g<|J (CB' [] [] (q6w (m:=m) hy1))<|bdE hr fun s1 hqq1 hr=>J (gn 1)<|q0a 7 [(2,.pb 0 0),(3,.pb 1 0),(20,dB s1)] ?_ ?_
 replace hr:=hqq1
 refine ifE hr ?_ ?_<;>intro h1 hr
 exact e
 exact e
 refine bdE hr fun s2 hqq2 hr=>q0a 4 [(2,.pb 0 0),(3,.pb 1 0),(24,dB s2)] ?_ ?_
 replace hr:=hqq2
 refine ifE hr ?_ ?_<;>intro h2 hr
 exact e
 refine bdE hr fun y2 hy2 hr=>J g<|J (CB' [] [] (j3D (m:=m) hy2))<|e
 refine fE 1 hr ?_ ?_<;>intro h3 hr
 refine J (gn 7) ?_
 refine J (q0c (q0w (t:=4) (r:=2) .fz 2 rfl rfl))<|J g<|E
 refine J g<|J (L0' 2 Ph_.D)<|ggE hr fun g1 hr=>J g<|J (MKR' 3 (f:=A.D.b) false g1.1 g1.2.1 g1.2.2)<|J (NV' 4)<|J g<|J (NV' 5)<|bdE hr fun q3 hqq3 hr=>J (gn 8)<|AW.cut 6 (fun (s3,s4)=>[(6,.ref 2 none)]) (fun (s3,s4)=>[(2,.row .fz 2 (s3.map Ph_.D)),(3,.row .fz 1 (s4.map A.D.b))]) (M:=fun x=>q3=.inl x) ?_ fun x hx=>?_
 refine J g<|q0i hqq3 6 (fun (s5,s6)=>[(2,.pb 0 0),(6,.ref 2 none),(7,.pb 4 0),(9,.fn 137 [.pb 0 0,.pb 4 0,.pb 5 0])]) (fun (s5,s6)=>[(2,.row .fz 2 (s5.map Ph_.D)),(3,.row .fz 1 (s6.map A.D.b))]) I fun sk1 ok1 hr hik1=>?_
 obtain⟨s5,s6⟩:=sk1
 have hr:=hr
 refine bdE hr fun s7 hqq4 hr=>J (gn 6)<|q0a 4 [(2,.pb 0 0),(6,.ref 2 none),(7,.pb 4 0),(9,.fn 137 [.pb 0 0,.pb 4 0,.pb 5 0]),(37,dB s7)] ?_ ?_
 replace hr:=hqq4
 refine ifE hr ?_ ?_<;>intro h4 hr
 exact e
 refine bdE hr fun y3 hy3 hr=>J g<|J (CB' [] [3] (z6Z (m:=.bo) hy3))<|e
 refine fE 1 hr ?_ ?_<;>intro h5 hr
 refine bdP hr fun y4 z1 hq5 hr=>J g<|J (CB' [(0,0),(1,1),(2,4),(3,5),(4,3),(5,6)] [] (z0M (m2:=m) hq5))<|J g<|J (NV' 7)<|bdP hr fun y5 z2 hq6 hr=>J g<|J (CB' [(0,0),(1,1),(2,4),(3,5),(4,3),(5,8)] [] (z0M (m2:=m) hq6))<|bdE hr fun s8 hqq7 hr=>J (gn 9)<|q0a 10 [(2,.pb 0 0),(6,.ref 2 none),(7,.pb 4 0),(9,.fn 137 [.pb 0 0,.pb 4 0,.pb 5 0]),(10,.pb 7 0),(56,dB s8)] ?_ ?_
 replace hr:=hqq7
 refine ifE hr ?_ ?_<;>intro h6 hr
 refine ggE hr fun g2 hr=>J g<|J (OB' _ (z2y (p:=y4.length) (q:=y5.length) g2))<|e
 exact e
 refine fE 1 hr ?_ ?_<;>intro h7 hr
 refine J (gn 7) ?_
 refine J (q0c (q0w (t:=4) (r:=9) .fz 2 rfl rfl))<|J g<|E
 refine J (gn 5) ?_
 refine J (q0p 6 rfl) ?_
 refine J (q0p 8 rfl)<|J (LIR' 9 (m:=.fz) (f:=Ph_.D) (xs:=[(⟨y4,y5⟩:Ph_)]))<|ggE hr fun g3 hr=>J (AP1' 10 .fz 48 g3)<|J g<|E
 refine J (gn 2) ?_
 cases hr
 cases hik1 _ rfl
 exact⟨_,rfl,q0g hS 6⟩
 subst hx
 obtain⟨s3,s4⟩:=x
 exact e
theorem j2b {m:Md}{a0:Gm_}{r:((List (List Ph_))×Bool)}(hr:q3V a0=some r):Okp 41 [Gm_.x m a0] [] (.tu [.ref 0 none,dB r.2]) [.row .fz 1 (r.1.map (fun (l:List Ph_)=>A.D.sl 2 (l.map Ph_.D)))]:=by
 refine Ok.enter rfl Tryz.func41 rfl rfl rfl fun S hS=>?_
 unfold q3V at hr
 refine sr ?_
 refine BX 0 ?_
 refine N2 ?_
 refine sr ?_
 refine W1 ?_
 refine bdE hr fun q1 hq1 hr=>?_
 obtain⟨y1,y2⟩:=q1
 refine CB [(0,1)] [] (z8N (m:=m) hq1) ?_
 refine N5 ?_
 refine ssr ?_
 refine N2 ?_
 refine ifE hr (fun h1 hr=>?_) fun h1 hr=>?_
 refine q0s rfl (bnF h1) ?_
 refine q0k ?_
 refine sr ?_
 refine L0 2 (fun (l:List Ph_)=>A.D.sl 2 (l.map Ph_.D)) ?_
 refine N1 ?_
 refine ssr ?_
 refine W2 ?_
 refine LF ?_
 refine N1 ?_
 refine AW.block ?_
 refine AW.len (.ag 0 (.tmp 0 rfl) rfl) fun hl1=>?_
 refine bdE hr fun q2 hqq2 hr=>?_
 refine q0b hqq2 hl1 3 (fun k1 s1=>[(1,.pb 0 0),(4,.ref 1 none),(6,.ref 2 none),(20,rw3 m a0.ss_),(21,dI (a0.ss_.length:Int)),(22,dI (k1:Int))]) (fun k1 s1=>[(2,.row .fz 1 (s1.map (fun (l:List Ph_)=>A.D.sl 2 (l.map Ph_.D))))]) (q0g hS 3) (fun k1 xk1 sk1 ok1 hxk1 hr hltk1 hik1=>?_) fun k1 sk1 ek1 hltk1=>?_
 obtain⟨s1,rfl⟩:∃ y,y=sk1:=⟨_,rfl⟩
 refine sr ?_
 refine N1 ?_
 refine q0l (q0r rfl (dT hltk1) ?_)
 refine q0k ?_
 refine q0l (AW.block (q0l (q0h ?_)))
 refine W1 ?_
 refine IF (Eaz _) hxk1 ?_
 refine W1 ?_
 refine NV 3 ?_
 refine W1 ?_
 refine SB ?_
 refine N0 ?_
 refine q0l (q0q (h:=?_))
 refine W3 ?_
 refine bdE hr fun y3 hy3 hr=>?_
 refine CB [(0,4)] [] (z1B (m:=m) hy3) ?_
 refine W2 ?_
 refine bdE hr fun x1 hx1 hr=>?_
 refine IE hx1 (Eaz _) ?_
 refine LPa hx1 ?_
 refine bdE hr fun q3 hq3 hr=>?_
 obtain⟨y4,y5⟩:=q3
 refine CB [(0,5)] [4] (j8q (m:=.bo) hq3) ?_
 refine N5 ?_
 refine ssr ?_
 refine N2 ?_
 refine ifE hr (fun h2 hr=>?_) fun h2 hr=>?_
 refine q0s rfl (bnF h2) ?_
 refine q0k ?_
 refine q0h ?_
 refine W2 ?_
 refine AL.fz 5 rfl ?_
 refine LIR 6 (m:=.fz) (f:=(fun (l:List Ph_)=>A.D.sl 2 (l.map Ph_.D))) (xs:=[y4]) ?_
 refine ggE hr fun g1 hr=>?_
 refine AP1 7 .fz 24 g1 ?_
 refine N1 ?_
 refine q0h ?_
 refine OB _ (z2y (p:=k1) (q:=1) (q5g hltk1 hl1)) ?_
 refine N1 ?_
 cases hr
 exact⟨_,rfl,q0j hS [(0,0),(1,1),(7,2)] 3⟩
 refine q0r rfl (bnT h2) ?_
 refine sr ?_
 refine N2 ?_
 refine AW.ret ?_
 refine endA.gh (q0w (t:=2) (r:=6) .fz 1 rfl rfl) ?_
 cases hr
 cases hik1 _ rfl
 rename_i hr
 cases hr
 exact q0m [(6,0)] 1 hS
 subst ek1
 obtain⟨s1,rfl⟩:∃ y,y=sk1:=⟨_,rfl⟩
 refine sr ?_
 refine N1 ?_
 refine q0l (q0s rfl (dF hltk1) ?_)
 refine q0t ?_
 refine sr ?_
 refine N3 ?_
 refine AW.ret ?_
 cases hr
 exact q0m [(2,0)] 1 hS
 refine q0r rfl (bnT h1) ?_
 refine sr ?_
 refine N2 ?_
 refine AW.ret ?_
 refine endA.gh (q0w (t:=2) (r:=2) .fz 1 rfl rfl) ?_
 cases hr
 exact q0m [(2,0)] 1 hS
theorem j1F {m:Md}{a0:Gm_}{a1:List (List Ph_)}{a2:Rule}{r:visits}(hr:z2J a0 a1 a2=some r):Okp 29 [Gm_.x m a0,.d m (.sl 1 (a1.map (fun (l:List Ph_)=>A.D.sl 2 (l.map Ph_.D)))),Rule.x m a2] [] (.pb 0 0) [bx0 m m m m m m r,.row .fz 2 (r.due.map Oc.D),.row .fz 2 (r.known.map Oc.D),.row .fz 1 (r.next.map (A.D.i .i64))]:=by
 refine OE Tryz.func29 fun S hS=>?_
 unfold z2J at hr
 refine J g<|J (BX' 0)<|J (BX' 1)<|bdE hr fun y1 hy1 hr=>J g<|J (CB' [(0,2)] [] (z8e (m:=m) hy1))<|ggE hr fun g1 hr=>ggE hr fun g2 hr=>J g<|MKRb 3 8 (f:=(A.D.i .i64)) (0:Int) g2.1 g2.2.1 g2.2.2 ?_
 refine J g<|J (BX' 4)<|J (gn 3) ?_
 refine J (q0c (q0o (q:=4) (c:=10) (r:=5) .fz 2 rfl rfl rfl))<|J g<|E
theorem q7c {m2:Md}{a1:Int}{o0:visits}{r:List Ph_}(hr:q5B a1 o0=some r):Okp 30 [.pb 0 0,dI a1] [bx0 m2 m2 m2 m2 m2 m2 o0,.row .fz 2 (o0.due.map Oc.D),.row .fz 2 (o0.known.map Oc.D),.row .fz 1 (o0.next.map (A.D.i .i64))] (rw10 m2 r) [bx0 m2 m2 m2 m2 m2 m2 o0,.row .fz 2 (o0.due.map Oc.D),.row .fz 2 (o0.known.map Oc.D),.row .fz 1 (o0.next.map (A.D.i .i64))]:=by
 refine OE Tryz.func30 fun S hS=>?_
 unfold q5B at hr
 refine bdE hr fun y1 hy1 hr=>J g<|J (CB' [] [] (z0s (m:=m2) hy1))<|bdE hr fun y2 hy2 hr=>J (CB' [] [] (z5b (m:=m2) hy2))<|J g<|J (OB' _ (k1Q (p:=o0.phases.length) (k:=1) (by decide)))<|bdE hr fun y3 hy3 hr=>J (CB' [] [] (q4J hy3))<|fE 2 hr ?_ ?_<;>intro h1 hr
 refine ggE hr fun g1 hr=>bdE hr fun x1 hx1 hr=>e
 refine J (gn 6) ?_
 cases hr
 exact endA.ren [(0,0),(1,1),(2,2),(3,3)] 4 (.inr rfl) hS rfl rfl rfl .nld rfl rfl
theorem z1k {m m2:Md}{a1:Int}{a2:List BA_}{o0 r:visits}(hr:q7j a1 a2 o0=some r):Okp 31 [.pb 0 0,dI a1,rw2 m a2] [bx0 m2 m2 m2 m2 m2 m2 o0,.row .fz 2 (o0.due.map Oc.D),.row .fz 2 (o0.known.map Oc.D),.row .fz 1 (o0.next.map (A.D.i .i64))] (.tu []) [.box [rw3 m2 o0.g.ss_,rw5 m2 o0.g.rs_,.d m2 (.sl 1 (o0.phases.map (fun (l:List Ph_)=>A.D.sl 2 (l.map Ph_.D)))),dS r.r.Name,dS r.r.Left,rw2 m2 o0.r.rt_,dB r.r.ll_,rw8 m2 o0.r.es_,rw9 m2 o0.r.cs_,.ref 1 none,.ref 4 none,.ref 3 none],.row .fz 2 (r.due.map Oc.D),.dead,.row .fz 1 (r.next.map (A.D.i .i64)),.row .fz 2 (r.known.map Oc.D)]:=by
 refine OE Tryz.func31 fun S hS=>?_
 unfold q7j at hr
 refine J (gn 7) ?_
 refine J (q0P 2 4 rfl)<|J (lenT 2)<|fun hl1=>bdE hr fun s1 hqq1 hr=>q0d hqq1 hl1 5 (fun k1 s1=>[(0,.pb 0 0),(1,dI a1),(8,rw2 m a2),(9,dI (a2.length:Int)),(10,dI (k1:Int))]) (fun k1 s1=>[(4,.row .fz 2 (s1.map Oc.D))]) I (fun k1 xk1 sk1 ok1 hxk1 hr hltk1=>?_) fun k1 hltk1=>?_
 obtain⟨s1,rfl⟩:∃ y,y=sk1:=⟨_,rfl⟩
 refine J g<|J (LIR' 5 (m:=.fz) (f:=Oc.D) (xs:=[(⟨a1,xk1⟩:Oc)]))<|ggE hr fun g1 hr=>J (z1p (f:=Oc.D) 6 (fun _=>rfl) 24 g1)<|e
 exact e
theorem z8P {m2:Md}{a0:Oc}{a1_0:visits}{r:Bool}(hr:q9x a0 a1_0=some r):Okp 115 [Oc.x .fz a0,.pb 1 0] [bx4 m2 m2 m2 m2 m2 m2 a1_0,.box [.pb 0 0],.row .fz 2 (a1_0.due.map Oc.D),.row .fz 2 (a1_0.known.map Oc.D),.row .fz 1 (a1_0.next.map (A.D.i .i64))] (dB r) [bx4 m2 m2 m2 m2 m2 m2 a1_0,.box [.pb 0 0],.row .fz 2 (a1_0.due.map Oc.D),.row .fz 2 (a1_0.known.map Oc.D),.row .fz 1 (a1_0.next.map (A.D.i .i64))]:=by
 refine OE Tryz.func115 fun S hS=>?_
 unfold q9x at hr
 refine J g<|J (BX' 5)<|bdE hr fun y1 hy1 hr=>J g<|J (CB' [] [3] (q5i (m:=.bo) hy1))<|e
theorem q8O {m2:Md}{a0:List Oc}{a1_0_0:visits}{r:Int}(hr:q4x a0 a1_0_0=some r):Okp 118 [.ref 2 none,.fn 115 [.pb 1 0]] [bx2 m2 m2 m2 m2 m2 m2 a1_0_0,.box [.pb 0 0],.row .fz 2 (a0.map Oc.D),.row .fz 2 (a1_0_0.due.map Oc.D),.row .fz 2 (a1_0_0.known.map Oc.D),.row .fz 1 (a1_0_0.next.map (A.D.i .i64))] (dI r) [bx2 m2 m2 m2 m2 m2 m2 a1_0_0,.box [.pb 0 0],.row .fz 2 (a0.map Oc.D),.row .fz 2 (a1_0_0.due.map Oc.D),.row .fz 2 (a1_0_0.known.map Oc.D),.row .fz 1 (a1_0_0.next.map (A.D.i .i64))]:=by
 refine OE Tryz.func118 fun S hS=>?_
 unfold q4x at hr
 refine J (gn 12)<|J (lenR 2)<|fun hl1=>bdE hr fun q1 hqq1 hr=>q0b hqq1 hl1 6 (fun k1 _=>[(0,.ref 2 none),(1,.fn 115 [.pb 1 0]),(7,dI (a0.length:Int)),(8,dI (k1:Int))]) (fun k1 _=>[]) I (fun k1 xk1 sk1 ok1 hxk1 hr hltk1 hik1=>?_) fun k1 sk1 ek1 hltk1=>?_
 refine bdE hr fun y1 hy1 hr=>J g<|J (CB' [(0,0),(1,1),(2,3),(3,4),(4,5)] [] (z8P (m2:=m2) hy1))<|fE 1 hr ?_ ?_<;>intro h1 hr
 exact e
 exact e
 subst ek1
 exact e
theorem q8x {m2:Md}{a0:List Oc}{a1_0_0:visits}{r:Bool}(hr:q4j a0 a1_0_0=some r):Okp 69 [.ref 2 none,.fn 115 [.pb 1 0]] [bx2 m2 m2 m2 m2 m2 m2 a1_0_0,.box [.pb 0 0],.row .fz 2 (a0.map Oc.D),.row .fz 2 (a1_0_0.due.map Oc.D),.row .fz 2 (a1_0_0.known.map Oc.D),.row .fz 1 (a1_0_0.next.map (A.D.i .i64))] (dB r) [bx2 m2 m2 m2 m2 m2 m2 a1_0_0,.box [.pb 0 0],.row .fz 2 (a0.map Oc.D),.row .fz 2 (a1_0_0.due.map Oc.D),.row .fz 2 (a1_0_0.known.map Oc.D),.row .fz 1 (a1_0_0.next.map (A.D.i .i64))]:=by
 refine OE Tryz.func69 fun S hS=>?_
 unfold q4j at hr
 refine bdE hr fun y1 hy1 hr=>J g<|J (CB' [(0,0),(1,1),(2,2),(3,3),(4,4),(5,5)] [] (q8O (m2:=m2) hy1))<|e
theorem z5x {m2:Md}{a0:visits}{a1:Oc}{r:Bool}(hr:q8b a0 a1=some r):Okp 65 [.pb 0 0,Oc.x .fz a1] [bx0 m2 m2 m2 m2 m2 m2 a0,.row .fz 2 (a0.due.map Oc.D),.row .fz 2 (a0.known.map Oc.D),.row .fz 1 (a0.next.map (A.D.i .i64))] (dB r) [bx0 m2 m2 m2 m2 m2 m2 a0,.row .fz 2 (a0.due.map Oc.D),.row .fz 2 (a0.known.map Oc.D),.row .fz 1 (a0.next.map (A.D.i .i64))]:=by
 refine OE Tryz.func65 fun S hS=>?_
 unfold q8b at hr
 refine J g<|J (BX' 4)<|J (BX' 5)<|bdE hr fun y1 hy1 hr=>J g<|J (CB' [] [1] (q5i (m:=.bo) hy1))<|fE 1 hr ?_ ?_<;>intro h1 hr
 refine bdE hr fun y2 hy2 hr=>J g<|J (CB' [] [2] (q5i (m:=.bo) hy2))<|fE 2 hr ?_ ?_<;>intro h2 hr
 exact e
 refine bdP hr fun y3 y4 hq1 hr=>J g<|J (CB' [(0,6)] [] (z7n (m:=m2) hq1))<|J g<|J (NV' 7)<|fE 6 hr ?_ ?_<;>intro h3 hr
 refine bdE hr fun y5 hy5 hr=>J g<|J (CB' [(0,8)] [6] (z2Y (m:=.bo) hy5))<|bdE hr fun y6 hy6 hr=>J g<|J (CB' [(0,0),(1,4),(2,8),(3,1),(4,2),(5,3)] [] (q8x (m2:=m2) hy6))<|e
 exact e
 exact e
theorem j0f {m2:Md}{a0:BA_}{a1_0:visits}{a2:Int}{r:Bool}(hr:z0z a0 a1_0 a2=some r):Okp 117 [dS a0,.pb 1 0,.pb 2 0] [bx2 m2 m2 m2 m2 m2 m2 a1_0,.box [.pb 0 0],bx9 a2,.row .fz 2 (a1_0.due.map Oc.D),.row .fz 2 (a1_0.known.map Oc.D),.row .fz 1 (a1_0.next.map (A.D.i .i64))] (dB r) [bx2 m2 m2 m2 m2 m2 m2 a1_0,.box [.pb 0 0],bx9 a2,.row .fz 2 (a1_0.due.map Oc.D),.row .fz 2 (a1_0.known.map Oc.D),.row .fz 1 (a1_0.next.map (A.D.i .i64))]:=by
 refine OE Tryz.func117 fun S hS=>?_
 unfold z0z at hr
 refine bdE hr fun y1 hy1 hr=>J g<|J (CB' [] [4] (q5i (m:=.bo) hy1))<|e
theorem q9R {m m2:Md}{a0:List BA_}{a1_0_0:visits}{a1_1 r:Int}(hr:q4W a0 a1_0_0 a1_1=some r):Okp 170 [rw2 m a0,.fn 117 [.pb 1 0,.pb 2 0]] [bx2 m2 m2 m2 m2 m2 m2 a1_0_0,.box [.pb 0 0],bx9 a1_1,.row .fz 2 (a1_0_0.due.map Oc.D),.row .fz 2 (a1_0_0.known.map Oc.D),.row .fz 1 (a1_0_0.next.map (A.D.i .i64))] (dI r) [bx2 m2 m2 m2 m2 m2 m2 a1_0_0,.box [.pb 0 0],bx9 a1_1,.row .fz 2 (a1_0_0.due.map Oc.D),.row .fz 2 (a1_0_0.known.map Oc.D),.row .fz 1 (a1_0_0.next.map (A.D.i .i64))]:=by
 refine OE Tryz.func170 fun S hS=>?_
 unfold q4W at hr
 refine J (gn 12)<|J (lenT 0)<|fun hl1=>bdE hr fun q1 hqq1 hr=>q0b hqq1 hl1 6 (fun k1 _=>[(0,rw2 m a0),(1,.fn 117 [.pb 1 0,.pb 2 0]),(7,dI (a0.length:Int)),(8,dI (k1:Int))]) (fun k1 _=>[]) I (fun k1 xk1 sk1 ok1 hxk1 hr hltk1 hik1=>?_) fun k1 sk1 ek1 hltk1=>?_
 refine bdE hr fun y1 hy1 hr=>J g<|J (CB' [(0,0),(1,1),(2,2),(3,3),(4,4),(5,5)] [] (j0f (m2:=m2) hy1))<|fE 1 hr ?_ ?_<;>intro h1 hr
 exact e
 exact e
 subst ek1
 exact e
theorem q9m {m m2:Md}{a0:List BA_}{a1_0_0:visits}{a1_1:Int}{r:Bool}(hr:q4F a0 a1_0_0 a1_1=some r):Okp 116 [rw2 m a0,.fn 117 [.pb 1 0,.pb 2 0]] [bx2 m2 m2 m2 m2 m2 m2 a1_0_0,.box [.pb 0 0],bx9 a1_1,.row .fz 2 (a1_0_0.due.map Oc.D),.row .fz 2 (a1_0_0.known.map Oc.D),.row .fz 1 (a1_0_0.next.map (A.D.i .i64))] (dB r) [bx2 m2 m2 m2 m2 m2 m2 a1_0_0,.box [.pb 0 0],bx9 a1_1,.row .fz 2 (a1_0_0.due.map Oc.D),.row .fz 2 (a1_0_0.known.map Oc.D),.row .fz 1 (a1_0_0.next.map (A.D.i .i64))]:=by
 refine OE Tryz.func116 fun S hS=>?_
 unfold q4F at hr
 refine bdE hr fun y1 hy1 hr=>J g<|J (CB' [(0,0),(1,1),(2,2),(3,3),(4,4),(5,5)] [] (q9R (m:=m) (m2:=m2) hy1))<|e
theorem z3Y {m m2:Md}{a0:visits}{a1:Int}{a2:List BA_}{r:Bool}(hr:q8q a0 a1 a2=some r):Okp 68 [.pb 0 0,dI a1,rw2 m a2] [bx0 m2 m2 m2 m2 m2 m2 a0,.row .fz 2 (a0.due.map Oc.D),.row .fz 2 (a0.known.map Oc.D),.row .fz 1 (a0.next.map (A.D.i .i64))] (dB r) [bx0 m2 m2 m2 m2 m2 m2 a0,.row .fz 2 (a0.due.map Oc.D),.row .fz 2 (a0.known.map Oc.D),.row .fz 1 (a0.next.map (A.D.i .i64))]:=by
 refine OE Tryz.func68 fun S hS=>?_
 unfold q8q at hr
 refine J g<|J (BX' 4)<|J (BX' 5)<|bdE hr fun y1 hy1 hr=>J g<|J (CB' [(0,0),(1,4),(2,5),(3,1),(4,2),(5,3)] [] (q9m (m:=m) (m2:=m2) hy1))<|e
theorem z5d {m2:Md}{a0:visits}{a1:Int}{r:Bool}(hr:q7r a0 a1=some r):Okp 66 [.pb 0 0,dI a1] [bx0 m2 m2 m2 m2 m2 m2 a0,.row .fz 2 (a0.due.map Oc.D),.row .fz 2 (a0.known.map Oc.D),.row .fz 1 (a0.next.map (A.D.i .i64))] (dB r) [bx0 m2 m2 m2 m2 m2 m2 a0,.row .fz 2 (a0.due.map Oc.D),.row .fz 2 (a0.known.map Oc.D),.row .fz 1 (a0.next.map (A.D.i .i64))]:=by
 refine OE Tryz.func66 fun S hS=>?_
 unfold q7r at hr
 refine bdE hr fun y1 hy1 hr=>J g<|J (CB' [(0,0),(1,1),(2,2),(3,3)] [] (q7c (m2:=m2) hy1))<|bdE hr fun y2 hy2 hr=>J g<|J (CB' [] [] (q4J hy2))<|bdE hr fun s1 hqq1 hr=>q0a 12 [(0,.pb 0 0),(1,dI a1),(4,dB false),(5,rw10 m2 y1),(28,dB s1)] ?_ ?_
 replace hr:=hqq1
 refine ifE hr ?_ ?_<;>intro h1 hr
 refine ggE hr fun g1 hr=>bdE hr fun x1 hx1 hr=>e
 exact e
 refine bdE hr fun s2 hqq2 hr=>q0a 16 [(4,dB false),(44,dB s2)] ?_ ?_
 replace hr:=hqq2
 refine ifE hr ?_ ?_<;>intro h2 hr
 refine ggE hr fun g2 hr=>bdE hr fun x2 hx2 hr=>ggE hr fun g3 hr=>bdE hr fun x3 hx3 hr=>bdE hr fun y3 hy3 hr=>J g<|J (CB' [(0,0),(1,1),(2,2),(3,3)] [] (z3Y (m:=m2) (m2:=m2) hy3))<|e
 exact e
 exact e
theorem z7o {m2:Md}{a1:Int}{o0 r:visits}(hr:q7k a1 o0=some r):Okp 67 [.pb 0 0,dI a1] [bx0 m2 m2 m2 m2 m2 m2 o0,.row .fz 2 (o0.due.map Oc.D),.row .fz 2 (o0.known.map Oc.D),.row .fz 1 (o0.next.map (A.D.i .i64))] (.tu []) [.box [rw3 m2 o0.g.ss_,rw5 m2 o0.g.rs_,.d m2 (.sl 1 (o0.phases.map (fun (l:List Ph_)=>A.D.sl 2 (l.map Ph_.D)))),dS r.r.Name,dS r.r.Left,rw2 m2 o0.r.rt_,dB r.r.ll_,rw8 m2 o0.r.es_,rw9 m2 o0.r.cs_,.ref 1 none,.ref 4 none,.ref 3 none],.row .fz 2 (r.due.map Oc.D),.dead,.row .fz 1 (r.next.map (A.D.i .i64)),.row .fz 2 (r.known.map Oc.D)]:=by
 refine OE Tryz.func67 fun S hS=>?_
 unfold q7k at hr
 refine bdE hr fun y1 hy1 hr=>J g<|CBK2 [(0,0),(1,1),(2,2),(3,3)] [] [] (q7c (m2:=m2) hy1) ?_
 refine ggE hr fun g1 hr=>bdE hr fun x1 hx1 hr=>ggE hr fun g2 hr=>bdE hr fun x2 hx2 hr=>bdE hr fun z1 hz1 hr=>J g<|J (CB' [(0,0),(1,1),(2,2),(3,3),(4,4)] [] (z1k (m:=m2) (m2:=m2) hz1))<|ggE hr fun g3 hr=>bdE hr fun x3 hx3 hr=>ggE hr fun g4 hr=>J g<|J (SE' (x3+1) hx3)<|e
theorem z8h {m2:Md}{o0:visits}{r:(Step×Bool×visits)}(hr:q8S o0=some r):Okp 81 [.pb 0 0] [bx0 m2 m2 m2 m2 m2 m2 o0,.row .fz 2 (o0.due.map Oc.D),.row .fz 2 (o0.known.map Oc.D),.row .fz 1 (o0.next.map (A.D.i .i64))] (.tu [Step.x .fz r.1,dB r.2.1]) [.box [rw3 m2 o0.g.ss_,rw5 m2 o0.g.rs_,.d m2 (.sl 1 (o0.phases.map (fun (l:List Ph_)=>A.D.sl 2 (l.map Ph_.D)))),dS r.2.2.r.Name,dS r.2.2.r.Left,rw2 m2 o0.r.rt_,dB r.2.2.r.ll_,rw8 m2 o0.r.es_,rw9 m2 o0.r.cs_,.ref 1 none,.ref 4 none,.ref 3 none],.row .fz 2 (r.2.2.due.map Oc.D),.dead,.row .fz 1 (r.2.2.next.map (A.D.i .i64)),.row .fz 2 (r.2.2.known.map Oc.D)]:=by
 refine OE Tryz.func81 fun S hS=>?_
 unfold q8S at hr
 refine J g<|J (NV' 4)<|J (gn 13)<|J (lenR 1)<|fun hl1=>bdE hr fun q1 hqq1 hr=>q0b hqq1 hl1 5 (fun k1 _=>[(0,.pb 0 0),(2,.pb 4 0),(10,.ref 1 none),(11,dI (o0.due.length:Int)),(12,dI (k1:Int))]) (fun k1 _=>[]) I (fun k1 xk1 sk1 ok1 hxk1 hr hltk1 hik1=>?_) fun k1 sk1 ek1 hltk1=>?_
 refine J g<|J (NV' 5)<|bdE hr fun y1 hy1 hr=>J g<|J (CB' [(0,0),(1,1),(2,2),(3,3)] [] (z5x (m2:=m2) hy1))<|fE 1 hr ?_ ?_<;>intro h1 hr
 refine J g<|J (LIR' 6 (m:=.fz) (f:=Oc.D) (xs:=[xk1]))<|ggE hr fun g1 hr=>J (z1p (f:=Oc.D) 7 (fun _=>rfl) 24 g1)<|e
 exact e
 subst ek1
 refine bdE hr fun q2 hqq2 hr=>J (gn 12)<|AW.cut 5 (fun _=>[(2,.pb 4 0)]) (fun _=>[]) (M:=fun x=>q2=.inl x) ?_ fun x hx=>?_
 refine J g<|q0i hqq2 5 (fun s1=>[(0,.pb 0 0),(2,.pb 4 0),(6,dI s1)]) (fun s1=>[]) I fun sk2 ok2 hr hik2=>?_
 obtain⟨s1,rfl⟩:∃ y,y=sk2:=⟨_,rfl⟩
 have hr:=hr
 refine fE 12 hr ?_ ?_<;>intro h2 hr
 refine bdE hr fun y2 hy2 hr=>J g<|J (CB' [(0,0),(1,1),(2,2),(3,3)] [] (z5d (m2:=m2) hy2))<|fE 1 hr ?_ ?_<;>intro h3 hr
 refine bdE hr fun z1 hz1 hr=>J g<|J (CB' [(0,0),(1,1),(2,2),(3,3),(4,5)] [] (z7o (m2:=m2) hz1))<|ggE hr fun g2 hr=>bdE hr fun x1 hx1 hr=>e
 refine ggE hr fun g3 hr=>e
 refine J (gn 2) ?_
 cases hr
 cases hik2 _ rfl
 exact⟨_,rfl,q0g hS 5⟩
 subst hx
 refine J (gn 7) ?_
 refine J (q0c (q0v (i:=2) (j:=5) rfl rfl))<|J g<|E
theorem z8i {m2:Md}{a0:Oc}{a1_0:visits}{r:Bool}(hr:q8Y a0 a1_0=some r):Okp 70 [Oc.x .fz a0,.pb 1 0] [bx4 m2 m2 m2 m2 m2 m2 a1_0,.box [.pb 0 0],.row .fz 2 (a1_0.due.map Oc.D),.row .fz 2 (a1_0.known.map Oc.D),.row .fz 1 (a1_0.next.map (A.D.i .i64))] (dB r) [bx4 m2 m2 m2 m2 m2 m2 a1_0,.box [.pb 0 0],.row .fz 2 (a1_0.due.map Oc.D),.row .fz 2 (a1_0.known.map Oc.D),.row .fz 1 (a1_0.next.map (A.D.i .i64))]:=by
 refine OE Tryz.func70 fun S hS=>?_
 unfold q8Y at hr
 refine J g<|J (BX' 5)<|bdE hr fun y1 hy1 hr=>J g<|J (CB' [] [3] (q5i (m:=.bo) hy1))<|e
theorem q8C {m2:Md}{a0:List Oc}{a1_0_0:visits}{r:Int}(hr:q4s a0 a1_0_0=some r):Okp 118 [.ref 2 none,.fn 70 [.pb 1 0]] [bx4 m2 m2 m2 m2 m2 m2 a1_0_0,.box [.pb 0 0],.row .fz 2 (a1_0_0.due.map Oc.D),.row .fz 2 (a1_0_0.known.map Oc.D),.row .fz 1 (a1_0_0.next.map (A.D.i .i64))] (dI r) [bx4 m2 m2 m2 m2 m2 m2 a1_0_0,.box [.pb 0 0],.row .fz 2 (a1_0_0.due.map Oc.D),.row .fz 2 (a1_0_0.known.map Oc.D),.row .fz 1 (a1_0_0.next.map (A.D.i .i64))]:=by
 refine OE Tryz.func118 fun S hS=>?_
 unfold q4s at hr
 refine J (gn 12)<|J (lenR 2)<|fun hl1=>bdE hr fun q1 hqq1 hr=>q0b hqq1 hl1 5 (fun k1 _=>[(0,.ref 2 none),(1,.fn 70 [.pb 1 0]),(7,dI (a1_0_0.due.length:Int)),(8,dI (k1:Int))]) (fun k1 _=>[]) I (fun k1 xk1 sk1 ok1 hxk1 hr hltk1 hik1=>?_) fun k1 sk1 ek1 hltk1=>?_
 refine bdE hr fun y1 hy1 hr=>J g<|J (CB' [(0,0),(1,1),(2,2),(3,3),(4,4)] [] (z8i (m2:=m2) hy1))<|fE 1 hr ?_ ?_<;>intro h1 hr
 exact e
 exact e
 subst ek1
 exact e
theorem q8f {m2:Md}{a0:List Oc}{a1_0_0:visits}{r:Bool}(hr:q3P a0 a1_0_0=some r):Okp 69 [.ref 2 none,.fn 70 [.pb 1 0]] [bx4 m2 m2 m2 m2 m2 m2 a1_0_0,.box [.pb 0 0],.row .fz 2 (a1_0_0.due.map Oc.D),.row .fz 2 (a1_0_0.known.map Oc.D),.row .fz 1 (a1_0_0.next.map (A.D.i .i64))] (dB r) [bx4 m2 m2 m2 m2 m2 m2 a1_0_0,.box [.pb 0 0],.row .fz 2 (a1_0_0.due.map Oc.D),.row .fz 2 (a1_0_0.known.map Oc.D),.row .fz 1 (a1_0_0.next.map (A.D.i .i64))]:=by
 refine OE Tryz.func69 fun S hS=>?_
 unfold q3P at hr
 refine bdE hr fun y1 hy1 hr=>J g<|J (CB' [(0,0),(1,1),(2,2),(3,3),(4,4)] [] (q8C (m2:=m2) hy1))<|e
theorem z5e {m2:Md}{a0:visits}{r:Bool}(hr:q5T a0=some r):Okp 33 [.pb 0 0] [bx0 m2 m2 m2 m2 m2 m2 a0,.row .fz 2 (a0.due.map Oc.D),.row .fz 2 (a0.known.map Oc.D),.row .fz 1 (a0.next.map (A.D.i .i64))] (dB r) [bx0 m2 m2 m2 m2 m2 m2 a0,.row .fz 2 (a0.due.map Oc.D),.row .fz 2 (a0.known.map Oc.D),.row .fz 1 (a0.next.map (A.D.i .i64))]:=by
 refine OE Tryz.func33 fun S hS=>?_
 unfold q5T at hr
 refine J g<|J (BX' 4)<|bdE hr fun q1 hqq1 hr=>J (gn 7)<|AW.cut 5 (fun _=>[(1,.pb 4 0)]) (fun _=>[]) (M:=fun x=>q1=.inl x) ?_ fun x hx=>?_
 refine J g<|q0i hqq1 5 (fun s1=>[(1,.pb 4 0),(3,dI s1)]) (fun s1=>[]) I fun sk1 ok1 hr hik1=>?_
 obtain⟨s1,rfl⟩:∃ y,y=sk1:=⟨_,rfl⟩
 have hr:=hr
 refine fE 12 hr ?_ ?_<;>intro h1 hr
 refine ggE hr fun g1 hr=>bdE hr fun x1 hx1 hr=>bdE hr fun y1 hy1 hr=>J g<|CBK2 [(0,0),(1,1),(2,2),(3,3)] [] [] (q7c (m2:=m2) hy1) ?_
 refine fE 3 hr ?_ ?_<;>intro h2 hr
 exact e
 refine ggE hr fun g2 hr=>e
 refine J (gn 2) ?_
 cases hr
 cases hik1 _ rfl
 exact⟨_,rfl,q0g hS 5⟩
 subst hx
 refine bdE hr fun y2 hy2 hr=>J g<|J (CB' [(0,0),(1,4),(2,1),(3,2),(4,3)] [] (q8f (m2:=m2) hy2))<|e
theorem k2p {m:Md}{a0:Gm_}{a1:List (List Ph_)}{a2:Rule}{r:(RPl_×Bool)}(hr:z6g a0 a1 a2=some r):Okp 42 [Gm_.x m a0,.d m (.sl 1 (a1.map (fun (l:List Ph_)=>A.D.sl 2 (l.map Ph_.D)))),Rule.x m a2] [] (.tu [.ag [dS r.1.Rule,.ref 0 none],dB r.2]) [.row .fz 4 (r.1.Steps.map Step.D)]:=by
 refine Ok.enter rfl Tryz.func42 rfl rfl rfl fun S hS=>?_
 unfold z6g at hr
 refine sr ?_
 refine BX 0 ?_
 refine BX 1 ?_
 refine NV 2 ?_
 refine N1 ?_
 refine q0l (q0q (h:=?_))
 refine W3 ?_
 refine bdE hr fun y1 hy1 hr=>?_
 refine CB [(0,3),(1,4),(2,5),(3,6)] [] (j1F (m:=m) hy1) ?_
 refine W3 ?_
 refine NV 7 ?_
 refine W1 ?_
 refine SB ?_
 refine N0 ?_
 refine ssr ?_
 refine W1 ?_
 refine bdE hr fun y2 hy2 hr=>?_
 refine CB [(0,3),(1,4),(2,5),(3,6)] [] (q7c (m2:=m) hy2) ?_
 refine LF ?_
 refine N1 ?_
 refine AW.block ?_
 refine q1g 7 1 8 .fz 4 rfl rfl ?_
 refine AW.len (.tmp 22 rfl) fun hl1=>?_
 refine bdE hr fun q1 hqq1 hr=>?_
 refine q0b hqq1 hl1 9 (fun k1 (s3,s4,s5,s6,s1,s7,s2)=>[(6,.pb 2 0),(8,.pb 3 0),(9,.pb 7 0),(22,rw10 m y2),(23,dI (y2.length:Int)),(24,dI (k1:Int))]) (fun k1 (s3,s4,s5,s6,s1,s7,s2)=>[(3,.box [rw3 m y1.g.ss_,rw5 m y1.g.rs_,.d m (.sl 1 (y1.phases.map (fun (l:List Ph_)=>A.D.sl 2 (l.map Ph_.D)))),dS s3,dS s4,rw2 m y1.r.rt_,dB s5,rw8 m y1.r.es_,rw9 m y1.r.cs_,.ref 4 none,.ref 5 none,.ref 6 none]),(4,.row .fz 2 (s6.map Oc.D)),(5,.row .fz 2 (s1.map Oc.D)),(6,.row .fz 1 (s7.map (A.D.i .i64))),(8,.row .fz 4 (s2.map Step.D))]) (q0g hS 9) (fun k1 xk1 sk1 ok1 hxk1 hr hltk1 hik1=>?_) fun k1 sk1 ek1 hltk1=>?_
 obtain⟨s3,s4,s5,s6,s1,s7,s2⟩:=sk1
 refine sr ?_
 refine N1 ?_
 refine q0l (q0r rfl (dT hltk1) ?_)
 refine q0k ?_
 refine q0l (AW.block (q0l (q0h ?_)))
 refine W1 ?_
 refine IF (Eaz _) hxk1 ?_
 refine W1 ?_
 refine NV 9 ?_
 refine W1 ?_
 refine SB ?_
 refine N0 ?_
 refine sr ?_
 refine W3 ?_
 refine bdE hr fun z1 hz1 hr=>?_
 refine CB [(0,3),(1,4),(2,5),(3,6),(4,10)] [] (z1k (m:=m) (m2:=m) hz1) ?_
 refine N0 ?_
 refine ssr ?_
 refine W1 ?_
 refine bdE hr fun q2 hq2 hr=>?_
 obtain⟨y3,y4,z2⟩:=q2
 refine CB [(0,3),(1,4),(2,10),(3,6),(4,11)] [] (z8h (m2:=m) hq2) ?_
 refine W3 ?_
 refine NV 12 ?_
 refine SB ?_
 refine N1 ?_
 refine bdE hr fun q3 hqq3 hr=>?_
 obtain⟨s10,s11,s12,s13,s8,s14,s9,s15,s16,s17,s18⟩:=q3
 refine q0e 13 [(6,.pb 2 0),(8,.pb 3 0),(9,.pb 7 0),(10,dI (k1:Int)),(11,.pb 9 0),(22,rw10 m y2),(23,dI (y2.length:Int)),(24,dI (k1:Int))] [(3,.box [rw3 m y1.g.ss_,rw5 m y1.g.rs_,.d m (.sl 1 (y1.phases.map (fun (l:List Ph_)=>A.D.sl 2 (l.map Ph_.D)))),dS s10,dS s11,rw2 m y1.r.rt_,dB s12,rw8 m y1.r.es_,rw9 m y1.r.cs_,.ref 4 none,.ref 11 none,.ref 6 none]),(4,.row .fz 2 (s13.map Oc.D)),(5,.none),(6,.row .fz 1 (s14.map (A.D.i .i64))),(8,.row .fz 4 (s9.map Step.D)),(10,.none),(11,.row .fz 2 (s8.map Oc.D)),(12,.none)] ?_ ?_
 refine AW.block (q0i hqq3 13 (fun (s21,s22,s23,s24,s25,s26,s19,s27,s20)=>[(6,.pb 2 0),(8,.pb 3 0),(9,.pb 7 0),(10,dI (k1:Int)),(11,.pb 9 0),(12,.pb 12 0),(13,dB s22),(22,rw10 m y2),(23,dI (y2.length:Int)),(24,dI (k1:Int))]) (fun (s21,s22,s23,s24,s25,s26,s19,s27,s20)=>[(3,.box [rw3 m y1.g.ss_,rw5 m y1.g.rs_,.d m (.sl 1 (y1.phases.map (fun (l:List Ph_)=>A.D.sl 2 (l.map Ph_.D)))),dS s23,dS s24,rw2 m y1.r.rt_,dB s25,rw8 m y1.r.es_,rw9 m y1.r.cs_,.ref 4 none,.ref 11 none,.ref 6 none]),(4,.row .fz 2 (s26.map Oc.D)),(5,.none),(6,.row .fz 1 (s27.map (A.D.i .i64))),(8,.row .fz 4 (s20.map Step.D)),(10,.none),(11,.row .fz 2 (s19.map Oc.D)),(12,.box [dI s21.Kind,dI s21.Pos,dI s21.Visit,dS s21.Name])]) (q0j hS [(0,0),(1,1),(2,2),(3,3),(4,4),(6,6),(7,7),(8,8),(9,9),(11,11),(12,12)] 13) fun sk2 ok2 hr hik2=>?_)
 obtain⟨s21,s22,s23,s24,s25,s26,s19,s27,s20⟩:=sk2
 have hr:=hr
 refine ssr ?_
 refine N1 ?_
 refine ifE hr (fun h1 hr=>?_) fun h1 hr=>?_
 refine q0r rfl h1 ?_
 refine q0k ?_
 refine q0l (AW.block (q0h ?_))
 refine W3 ?_
 refine LIR 13 (m:=.fz) (f:=Step.D) (xs:=[s21]) ?_
 refine ggE hr fun g1 hr=>?_
 refine APf1 (f:=Step.D) 14 (fun _=>rfl) 40 g1 ?_
 refine W1 ?_
 refine SB ?_
 refine N0 ?_
 refine ssr ?_
 refine N1 ?_
 refine q0h ?_
 refine NV 15 ?_
 refine SB ?_
 refine N0 ?_
 refine q0h ?_
 refine W1 ?_
 refine bdE hr fun q4 hq4 hr=>?_
 obtain⟨y5,y6,z3⟩:=q4
 refine CB [(0,3),(1,4),(2,11),(3,6),(4,16)] [] (z8h (m2:=m) hq4) ?_
 refine W3 ?_
 refine SB ?_
 refine N1 ?_
 cases hr
 exact⟨_,rfl,q0j hS [(0,0),(1,1),(2,2),(3,3),(4,4),(6,6),(7,7),(14,8),(9,9),(16,11),(15,12)] 13⟩
 refine q0s rfl (bF h1) ?_
 refine q0t ?_
 cases hr
 cases hik2 _ rfl
 exact q0j hS [(0,0),(1,1),(2,2),(3,3),(4,4),(6,6),(7,7),(8,8),(9,9),(11,11)] 13
 refine ssr ?_
 refine W3 ?_
 refine bdE hr fun y7 hy7 hr=>?_
 refine CB [(0,3),(1,4),(2,11),(3,6)] [] (z3Y (m:=m) (m2:=m) hy7) ?_
 refine N1 ?_
 refine ifE hr (fun h2 hr=>?_) fun h2 hr=>?_
 refine q0s rfl (bnF h2) ?_
 refine q0k ?_
 refine q0h ?_
 refine W3 ?_
 refine OB _ (z2y (p:=k1) (q:=1) (q5g hltk1 hl1)) ?_
 refine W1 ?_
 refine LIR 13 (m:=.fz) (f:=Step.D) (xs:=[(⟨3,0,((k1+1:Nat):Int),(⟨#[]⟩:BA_)⟩:Step)]) ?_
 refine ggE hr fun g2 hr=>?_
 refine APf1 (f:=Step.D) 14 (fun _=>rfl) 40 g2 ?_
 refine W1 ?_
 refine SB ?_
 refine N0 ?_
 refine q0h ?_
 refine OB _ (z2y (p:=k1) (q:=1) (q5g hltk1 hl1)) ?_
 refine N1 ?_
 cases hr
 exact⟨_,rfl,q0j hS [(0,0),(1,1),(2,2),(3,3),(4,4),(11,5),(6,6),(7,7),(14,8)] 9⟩
 refine q0r rfl (bnT h2) ?_
 refine sr ?_
 refine W1 ?_
 refine SB ?_
 refine N1 ?_
 refine AW.ret ?_
 refine endA.gh (q0o (q:=2) (c:=1) (r:=13) .fz 4 rfl rfl rfl) ?_
 cases hr
 cases hik1 _ rfl
 rename_i hr
 cases hr
 exact q0m [(13,0)] 1 hS
 subst ek1
 obtain⟨s3,s4,s5,s6,s1,s7,s2⟩:=sk1
 refine sr ?_
 refine N1 ?_
 refine q0l (q0s rfl (dF hltk1) ?_)
 refine q0t ?_
 refine q0l (q0q (h:=?_))
 refine W2 ?_
 refine bdE hr fun y8 hy8 hr=>?_
 refine CBK2 [(0,3),(1,4),(2,5),(3,6)] [] [] (z5e (m2:=m) hy8) ?_
 refine SB ?_
 refine N1 ?_
 refine AW.ret ?_
 cases hr
 exact q0m [(8,0)] 1 hS
theorem j6y {m:Md}{a0:Gm_}{r:((List RPl_)×Bool)}(hr:z3C a0=some r):Okp 13 [Gm_.x m a0] [] (.tu [.ref 0 none,dB r.2]) [.row .fz 2 (r.1.map RPl_.D)]:=by
 refine OE Tryz.func13 fun S hS=>?_
 unfold z3C at hr
 refine J g<|J (BX' 0)<|bdP hr fun y1 y2 hq1 hr=>J g<|J (CB' [(0,1)] [] (j2b (m:=m) hq1))<|fE 12 hr ?_ ?_<;>intro h1 hr
 refine J g<|J (L0' 2 RPl_.D)<|J (gn 11)<|J (lenA 1 0)<|fun hl1=>bdE hr fun q2 hqq2 hr=>q0b hqq2 hl1 3 (fun k1 s1=>[(1,.pb 0 0),(4,.ref 1 none),(6,.ref 2 none),(20,rw5 m a0.rs_),(21,dI (a0.rs_.length:Int)),(22,dI (k1:Int))]) (fun k1 s1=>[(2,.row .fz 2 (s1.map RPl_.D))]) I (fun k1 xk1 sk1 ok1 hxk1 hr hltk1 hik1=>?_) fun k1 sk1 ek1 hltk1=>?_
 obtain⟨s1,rfl⟩:∃ y,y=sk1:=⟨_,rfl⟩
 refine J g<|J (NV' 3)<|bdP hr fun y3 y4 hq3 hr=>J g<|J (CB' [(0,4)] [1] (k2p (m:=.bo) hq3))<|J g<|J (NV' 5)<|fE 9 hr ?_ ?_<;>intro h2 hr
 refine J (gn 5) ?_
 refine J (q0p 4 rfl)<|J (LIR' 6 (m:=.fz) (f:=RPl_.D) (xs:=[y3]))<|ggE hr fun g1 hr=>J (AP1' 7 .fz 40 g1)<|J g<|E
 refine J (gn 7) ?_
 refine J (q0c (q0w (t:=2) (r:=6) .fz 2 rfl rfl))<|J g<|E
 subst ek1
 obtain⟨s1,rfl⟩:∃ y,y=sk1:=⟨_,rfl⟩
 exact e
 refine J (gn 7) ?_
 refine J (q0c (q0w (t:=2) (r:=2) .fz 2 rfl rfl))<|J g<|E
theorem j0g {m2:Md}{a1:Step}{o0:visits}{r:(Bool×visits)}(hr:q9h a1 o0=some r):Okp 32 [.pb 0 0,Step.x .fz a1] [bx0 m2 m2 m2 m2 m2 m2 o0,.row .fz 2 (o0.due.map Oc.D),.row .fz 2 (o0.known.map Oc.D),.row .fz 1 (o0.next.map (A.D.i .i64))] (dB r.1) [.box [rw3 m2 o0.g.ss_,rw5 m2 o0.g.rs_,.d m2 (.sl 1 (o0.phases.map (fun (l:List Ph_)=>A.D.sl 2 (l.map Ph_.D)))),dS r.2.r.Name,dS r.2.r.Left,rw2 m2 o0.r.rt_,dB r.2.r.ll_,rw8 m2 o0.r.es_,rw9 m2 o0.r.cs_,.ref 1 none,.ref 4 none,.ref 3 none],.row .fz 2 (r.2.due.map Oc.D),.dead,.row .fz 1 (r.2.next.map (A.D.i .i64)),.row .fz 2 (r.2.known.map Oc.D)]:=by
 refine OE Tryz.func32 fun S hS=>?_
 unfold q9h at hr
 refine J g<|J (BX' 4)<|fE 14 hr ?_ ?_<;>intro h1 hr
 refine J g<|J (NV' 5)<|fE 8 hr ?_ ?_<;>intro h2 hr
 refine bdE hr fun y1 hy1 hr=>J g<|J (CB' [(0,0),(1,1),(2,2),(3,3)] [] (z5x (m2:=m2) hy1))<|fE 3 hr ?_ ?_<;>intro h3 hr
 refine J g<|J (LIR' 6 (m:=.fz) (f:=Oc.D) (xs:=[(⟨a1.Pos,a1.Name⟩:Oc)]))<|ggE hr fun g1 hr=>J (z1p (f:=Oc.D) 7 (fun _=>rfl) 24 g1)<|e
 refine J (gn 6) ?_
 refine J (q0c (q0v (i:=2) (j:=6) rfl rfl))<|J g<|E
 refine J (gn 13) ?_
 refine J (q0c (q0v (i:=2) (j:=6) rfl rfl))<|J g<|E
 refine fE 6 hr ?_ ?_<;>intro h4 hr
 refine fE 7 hr ?_ ?_<;>intro h5 hr
 refine bdE hr fun y2 hy2 hr=>J g<|CBK2 [(0,0),(1,1),(2,2),(3,3)] [] [] (z5d (m2:=m2) hy2) ?_
 refine fE 2 hr ?_ ?_<;>intro h6 hr
 refine ggE hr fun g2 hr=>bdE hr fun x1 hx1 hr=>ggE hr fun g3 hr=>fE 15 hr ?_ ?_<;>intro h7 hr
 refine bdE hr fun z1 hz1 hr=>J g<|J (CB' [(0,0),(1,1),(2,2),(3,3),(4,5)] [] (z7o (m2:=m2) hz1))<|e
 refine J (gn 6) ?_
 refine J (q0c (q0v (i:=2) (j:=5) rfl rfl))<|J g<|E
 refine J (gn 21) ?_
 refine J (q0c (q0v (i:=2) (j:=5) rfl rfl))<|J g<|E
 refine J (gn 28) ?_
 refine J (q0c (q0v (i:=2) (j:=5) rfl rfl))<|J g<|E
 refine fE 6 hr ?_ ?_<;>intro h8 hr
 refine bdE hr fun y3 hy3 hr=>J g<|J (CB' [(0,0),(1,1),(2,2),(3,3)] [] (q7c (m2:=m2) hy3))<|fE 8 hr ?_ ?_<;>intro h9 hr
 refine fE 5 hr ?_ ?_<;>intro h10 hr
 refine bdE hr fun x2 hx2 hr=>fE 11 hr ?_ ?_<;>intro h11 hr
 refine J (gn 34) ?_
 refine J (q0c (q0v (i:=2) (j:=5) rfl rfl))<|J g<|E
 refine ggE hr fun g4 hr=>fE 12 hr ?_ ?_<;>intro h12 hr
 refine ggE hr fun g5 hr=>bdE hr fun x3 hx3 hr=>bdE hr fun y4 hy4 hr=>J g<|CBK2 [(0,0),(1,1),(2,2),(3,3)] [] [] (z3Y (m:=m2) (m2:=m2) hy4) ?_
 refine fE 3 hr ?_ ?_<;>intro h13 hr
 refine ggE hr fun g6 hr=>J g<|J (SE' (x2+1) hx2)<|bdE hr fun x4 hx4 hr=>fE 14 hr ?_ ?_<;>intro h14 hr
 refine ggE hr fun g7 hr=>bdE hr fun x5 hx5 hr=>bdE hr fun z2 hz2 hr=>J g<|J (CB' [(0,0),(1,1),(2,2),(3,3),(4,5)] [] (z1k (m:=m2) (m2:=m2) hz2))<|e
 refine J (gn 7) ?_
 refine J (q0c (q0v (i:=2) (j:=5) rfl rfl))<|J g<|E
 refine J (gn 6) ?_
 refine J (q0c (q0v (i:=2) (j:=5) rfl rfl))<|J g<|E
 refine J (gn 22) ?_
 refine J (q0c (q0v (i:=2) (j:=5) rfl rfl))<|J g<|E
 refine J (gn 45) ?_
 refine J (q0c (q0v (i:=2) (j:=5) rfl rfl))<|J g<|E
 refine J (gn 50) ?_
 refine J (q0c (q0v (i:=2) (j:=5) rfl rfl))<|J g<|E
 refine J (gn 7) ?_
 refine J (q0c (q0v (i:=2) (j:=5) rfl rfl))<|J g<|E
theorem z6u {m:Md}{a0:Gm_}{a1:List (List Ph_)}{a2:Rule}{a3:List Step}{r:Bool}(hr:q7F a0 a1 a2 a3=some r):Okp 10 [Gm_.x m a0,.d m (.sl 1 (a1.map (fun (l:List Ph_)=>A.D.sl 2 (l.map Ph_.D)))),Rule.x m a2,rw12 m a3] [] (dB r) []:=by
 refine Ok.enter rfl Tryz.func10 rfl rfl rfl fun S hS=>?_
 unfold q7F at hr
 refine sr ?_
 refine BX 0 ?_
 refine BX 1 ?_
 refine N1 ?_
 refine sr ?_
 refine W3 ?_
 refine bdE hr fun y1 hy1 hr=>?_
 refine CB [(0,2),(1,3),(2,4),(3,5)] [] (j1F (m:=m) hy1) ?_
 refine N1 ?_
 refine sr ?_
 refine W1 ?_
 refine bdE hr fun y2 hy2 hr=>?_
 refine CB [(0,2),(1,3),(2,4),(3,5)] [] (q7c (m2:=m) hy2) ?_
 refine N1 ?_
 refine ssr ?_
 refine W1 ?_
 refine LF ?_
 refine W1 ?_
 refine bdE hr fun s1 hqq1 hr=>?_
 refine q0a 5 [(3,rw12 m a3),(9,.pb 2 0),(10,rw10 m y2),(26,dB s1)] ?_ ?_
 replace hr:=hqq1
 refine ifE hr (fun h1 hr=>?_) fun h1 hr=>?_
 refine VT rfl (dT h1) ?_
 iterate 3 refine AL.off ?_
 refine N1 ?_
 cases hr
 exact z6M
 refine VF rfl (dF h1) ?_
 refine W1 ?_
 refine LF ?_
 refine N2 ?_
 cases hr
 exact z6M
 refine N0 ?_
 refine ifE hr (fun h2 hr=>?_) fun h2 hr=>?_
 refine q0r rfl h2 ?_
 refine sr ?_
 refine N1 ?_
 refine AW.ret ?_
 cases hr
 exact q0m [] 0 hS
 refine q0s rfl (bF h2) ?_
 refine q0k ?_
 refine sr ?_
 refine W2 ?_
 refine bdE hr fun x1 hx1 hr=>?_
 refine IF (Eaz _) hx1 ?_
 refine W2 ?_
 refine bdE hr fun z1 hz1 hr=>?_
 refine CB [(0,2),(1,3),(2,4),(3,5),(4,6)] [] (z1k (m:=m) (m2:=m) hz1) ?_
 refine N0 ?_
 refine ssr ?_
 refine W1 ?_
 refine LF ?_
 refine N1 ?_
 refine AW.block ?_
 refine AW.len (.tmp 3 rfl) fun hl1=>?_
 refine bdE hr fun q2 hqq2 hr=>?_
 refine q0b hqq2 hl1 7 (fun k1 (s3,s4,s5,s6,s2,s7)=>[(3,rw12 m a3),(9,.pb 2 0),(10,rw10 m y2),(33,rw12 m a3),(34,dI (a3.length:Int)),(35,dI (k1:Int))]) (fun k1 (s3,s4,s5,s6,s2,s7)=>[(2,.box [rw3 m y1.g.ss_,rw5 m y1.g.rs_,.d m (.sl 1 (y1.phases.map (fun (l:List Ph_)=>A.D.sl 2 (l.map Ph_.D)))),dS s3,dS s4,rw2 m y1.r.rt_,dB s5,rw8 m y1.r.es_,rw9 m y1.r.cs_,.ref 3 none,.ref 6 none,.ref 5 none]),(3,.row .fz 2 (s6.map Oc.D)),(4,.none),(5,.row .fz 1 (s7.map (A.D.i .i64))),(6,.row .fz 2 (s2.map Oc.D))]) (q0j hS [(0,0),(1,1),(2,2),(3,3),(5,5),(6,6)] 7) (fun k1 xk1 sk1 ok1 hxk1 hr hltk1 hik1=>?_) fun k1 sk1 ek1 hltk1=>?_
 obtain⟨s3,s4,s5,s6,s2,s7⟩:=sk1
 refine sr ?_
 refine N1 ?_
 refine q0l (q0r rfl (dT hltk1) ?_)
 refine q0k ?_
 refine q0l (AW.block (q0l (q0h ?_)))
 refine W1 ?_
 refine IF (Eaz _) hxk1 ?_
 refine W1 ?_
 refine NV 7 ?_
 refine W1 ?_
 refine SB ?_
 refine N0 ?_
 refine sr ?_
 refine W2 ?_
 refine bdE hr fun q3 hq3 hr=>?_
 obtain⟨y3,z2⟩:=q3
 refine CB [(0,2),(1,3),(2,6),(3,5),(4,8)] [] (j0g (m2:=m) hq3) ?_
 refine W1 ?_
 refine bdE hr fun q4 hqq4 hr=>?_
 obtain⟨s12,s13,s14,s15⟩:=q4
 refine q0A 18 9 [(3,rw12 m a3),(9,.pb 2 0),(10,rw10 m y2),(33,rw12 m a3),(34,dI (a3.length:Int)),(35,dI (k1:Int)),(61,dB s12)] [(3,.row .fz 2 (s13.map Oc.D)),(5,.row .fz 1 (s15.map (A.D.i .i64))),(6,.none),(8,.row .fz 2 (s14.map Oc.D))] ?_ ?_
 replace hr:=hqq4
 refine ifE hr (fun h3 hr=>?_) fun h3 hr=>?_
 refine VF rfl (bnF h3) ?_
 refine W4 ?_
 refine bdE hr fun x2 hx2 hr=>?_
 refine IE hx2 (Eaz _) ?_
 refine LP hx2 ?_
 refine W1 ?_
 refine LF ?_
 refine W1 ?_
 refine bdE hr fun q5 hqq5 hr=>?_
 obtain⟨s16,s17⟩:=q5
 refine q0a 7 [(3,rw12 m a3),(9,.pb 2 0),(10,rw10 m y2),(33,rw12 m a3),(34,dI (a3.length:Int)),(35,dI (k1:Int)),(44,dB false),(45,.pb 2 0),(46,.pb 2 0),(47,.pb 2 11),(48,.ref 5 none),(49,.pe 5 none 0 0),(50,dI x2),(51,rw10 m y2),(52,dI (y2.length:Int)),(53,dB (decide (x2=(y2.length:Int)))),(54,dB s16),(60,dB s17)] ?_ ?_
 replace hr:=hqq5
 refine ifE hr (fun h4 hr=>?_) fun h4 hr=>?_
 refine VT rfl (dT h4) ?_
 refine W2 ?_
 refine LF ?_
 refine OB _ (k1Q (p:=a3.length) (k:=1) (by decide)) ?_
 refine N2 ?_
 cases hr
 exact z6M
 refine VF rfl (dF h4) ?_
 iterate 5 refine AL.off ?_
 refine N1 ?_
 cases hr
 exact z6M
 refine N1 ?_
 cases hr
 exact q0j hS [(0,0),(1,1),(2,2),(3,3),(5,5),(7,7),(8,8)] 9
 refine VT rfl (bnT h3) ?_
 iterate 16 refine AL.off ?_
 refine N1 ?_
 cases hr
 exact q0j hS [(0,0),(1,1),(2,2),(3,3),(5,5),(7,7),(8,8)] 9
 refine N0 ?_
 refine ifE hr (fun h5 hr=>?_) fun h5 hr=>?_
 refine q0r rfl h5 ?_
 refine sr ?_
 refine N1 ?_
 refine AW.ret ?_
 cases hr
 cases hik1 _ rfl
 rename_i hr
 cases hr
 exact q0m [] 0 hS
 refine q0s rfl (bF h5) ?_
 refine q0k ?_
 refine q0h ?_
 refine OB _ (z2y (p:=k1) (q:=1) (q5g hltk1 hl1)) ?_
 refine N1 ?_
 cases hr
 exact⟨_,rfl,q0j hS [(0,0),(1,1),(2,2),(3,3),(5,5),(8,6)] 7⟩
 subst ek1
 obtain⟨s3,s4,s5,s6,s2,s7⟩:=sk1
 refine sr ?_
 refine N1 ?_
 refine q0l (q0s rfl (dF hltk1) ?_)
 refine q0t ?_
 refine sr ?_
 refine W4 ?_
 refine bdE hr fun x3 hx3 hr=>?_
 refine IE hx3 (Eaz _) ?_
 refine LP hx3 ?_
 refine W1 ?_
 refine LF ?_
 refine W1 ?_
 refine bdE hr fun s18 hqq6 hr=>?_
 refine q0a 4 [(75,dB s18)] ?_ ?_
 replace hr:=hqq6
 refine ifE hr (fun h6 hr=>?_) fun h6 hr=>?_
 refine VT rfl (dT h6) ?_
 refine W1 ?_
 refine bdE hr fun y4 hy4 hr=>?_
 refine CB [(0,2),(1,3),(2,6),(3,5)] [] (z5e (m2:=m) hy4) ?_
 refine N1 ?_
 cases hr
 exact z6M
 refine VF rfl (dF h6) ?_
 iterate 2 refine AL.off ?_
 refine N1 ?_
 cases hr
 exact z6M
 refine N1 ?_
 refine AW.ret ?_
 cases hr
 exact q0m [] 0 hS
theorem j3E {m:Md}{a0:List Ph_}{r:Bool}(hr:z1f a0=some r):Okp 24 [rw10 m a0] [] (dB r) []:=by
 refine OE Tryz.func24 fun S hS=>?_
 unfold z1f at hr
 exact e
theorem z0J {m:Md}{a0:List (List Ph_)}{r:Int}(hr:q5w a0=some r):Okp 57 [.d m (.sl 1 (a0.map (fun (l:List Ph_)=>A.D.sl 2 (l.map Ph_.D)))),.fn 24 []] [] (dI r) []:=by
 refine OE Tryz.func57 fun S hS=>?_
 unfold q5w at hr
 refine J (gn 12)<|J (lenT 0)<|fun hl1=>bdE hr fun q1 hqq1 hr=>q0b hqq1 hl1 0 (fun k1 _=>[(0,.d m (.sl 1 (a0.map (fun (l:List Ph_)=>A.D.sl 2 (l.map Ph_.D))))),(1,.fn 24 []),(7,dI (a0.length:Int)),(8,dI (k1:Int))]) (fun k1 _=>[]) I (fun k1 xk1 sk1 ok1 hxk1 hr hltk1 hik1=>?_) fun k1 sk1 ek1 hltk1=>?_
 refine bdE hr fun y1 hy1 hr=>J g<|J (CB' [] [] (j3E (m:=m) hy1))<|fE 1 hr ?_ ?_<;>intro h1 hr
 exact e
 exact e
 subst ek1
 exact e
theorem z0b {m:Md}{a0:List (List Ph_)}{r:Bool}(hr:q4u a0=some r):Okp 23 [.d m (.sl 1 (a0.map (fun (l:List Ph_)=>A.D.sl 2 (l.map Ph_.D)))),.fn 24 []] [] (dB r) []:=by
 refine OE Tryz.func23 fun S hS=>?_
 unfold q4u at hr
 refine bdE hr fun y1 hy1 hr=>J g<|J (CB' [] [] (z0J (m:=m) hy1))<|e
theorem j6z {m:Md}{a0:Gm_}{a1:List (List Ph_)}{a2:List RPl_}{r:Bool}(hr:z3M a0 a1 a2=some r):Okp 7 [Gm_.x m a0,.d m (.sl 1 (a1.map (fun (l:List Ph_)=>A.D.sl 2 (l.map Ph_.D)))),rw13 m a2] [] (dB r) []:=by
 refine OE Tryz.func7 fun S hS=>?_
 unfold z3M at hr
 refine J g<|J (BX' 0)<|bdE hr fun y1 hy1 hr=>J g<|J (CB' [] [] (j1E (m:=m) hy1))<|bdE hr fun s1 hqq1 hr=>J (gn 1)<|q0a 8 [(1,.d m (.sl 1 (a1.map (fun (l:List Ph_)=>A.D.sl 2 (l.map Ph_.D))))),(2,rw13 m a2),(3,.pb 0 0),(19,dB s1)] ?_ ?_
 replace hr:=hqq1
 refine ifE hr ?_ ?_<;>intro h1 hr
 exact e
 exact e
 refine bdE hr fun s2 hqq2 hr=>q0a 8 [(1,.d m (.sl 1 (a1.map (fun (l:List Ph_)=>A.D.sl 2 (l.map Ph_.D))))),(2,rw13 m a2),(3,.pb 0 0),(27,dB s2)] ?_ ?_
 replace hr:=hqq2
 refine ifE hr ?_ ?_<;>intro h2 hr
 exact e
 exact e
 refine bdE hr fun s3 hqq3 hr=>q0a 4 [(1,.d m (.sl 1 (a1.map (fun (l:List Ph_)=>A.D.sl 2 (l.map Ph_.D))))),(2,rw13 m a2),(3,.pb 0 0),(31,dB s3)] ?_ ?_
 replace hr:=hqq3
 refine ifE hr ?_ ?_<;>intro h3 hr
 exact e
 refine bdE hr fun y2 hy2 hr=>J g<|J (CB' [] [] (z0b (m:=m) hy2))<|e
 refine fE 1 hr ?_ ?_<;>intro h4 hr
 exact e
 refine J (gn 11)<|J (lenT 33)<|fun hl1=>bdE hr fun q4 hqq4 hr=>q0b hqq4 hl1 1 (fun k1 _=>[(1,.d m (.sl 1 (a1.map (fun (l:List Ph_)=>A.D.sl 2 (l.map Ph_.D))))),(2,rw13 m a2),(3,.pb 0 0),(33,rw5 m a0.rs_),(34,dI (a0.rs_.length:Int)),(35,dI (k1:Int))]) (fun k1 _=>[]) I (fun k1 xk1 sk1 ok1 hxk1 hr hltk1 hik1=>?_) fun k1 sk1 ek1 hltk1=>?_
 refine J g<|J (NV' 1)<|bdE hr fun x1 hx1 hr=>fE 13 hr ?_ ?_<;>intro h5 hr
 refine bdE hr fun y3 hy3 hr=>J g<|J (CB' [] [] (z6u (m:=m) hy3))<|fE 3 hr ?_ ?_<;>intro h6 hr
 exact e
 exact e
 exact e
 subst ek1
 exact e
end Go.Proofs.YtppbkkcekpbaiaaGreat
