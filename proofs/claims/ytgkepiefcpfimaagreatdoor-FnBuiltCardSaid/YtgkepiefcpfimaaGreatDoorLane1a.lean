/- What some functions of the program compute, as partial functions on plain data, and that they do; each lemma bears its conditions in its statement. -/
import Derived.Test.YtgkepiefcpfimaaGreatDoorDef
set_option linter.unusedVariables false
set_option linter.unusedSimpArgs false
set_option linter.ambiguousOpen false
set_option linter.unusedSectionVars false
set_option linter.unnecessarySimpa false
set_option maxRecDepth 100000
set_option maxHeartbeats 40000000
noncomputable section
open Int renaming natCast_nonneg→Dpz
namespace Go.Proofs.YtgkepiefcpfimaaGreatDoor
open Go Go.E Go.A
theorem q4J {a0 a1 a2:Int}{r:Bool}(hr:q4n a0 a1 a2=some r):Okp 85 [dI a0,dI a1,dI a2] [] (dB r) []:=by
 refine OE Tryz.func85 fun S hS=>?_
 unfold q4n at hr
 refine fE 9 hr ?_ ?_<;>intro h1 hr
 exact e
 exact e
theorem j3o {a0:UInt8}{r:Bool}(hr:z4f a0=some r):Okp 282 [.d .fz (.i .u8 (a0.toNat:Int))] [] (dB r) []:=by
 refine OE Tryz.func282 fun S hS=>?_
 unfold z4f at hr
 refine fE 8 hr ?_ ?_<;>intro h1 hr
 exact e
 exact e
theorem j9o {a0:UInt8}{r:Bool}(hr:z5P a0=some r):Okp 283 [.d .fz (.i .u8 (a0.toNat:Int))] [] (dB r) []:=by
 refine OE Tryz.func283 fun S hS=>?_
 unfold z5P at hr
 refine fE 8 hr ?_ ?_<;>intro h1 hr
 exact e
 exact e
theorem j4w {a0:BA_}{r:Bool}(hr:z1M a0=some r):Okp 284 [dS a0] [] (dB r) []:=by
 refine OE Tryz.func284 fun S hS=>?_
 unfold z1M at hr
 refine fE 16 hr ?_ ?_<;>intro h1 hr
 refine fE 2 hr ?_ ?_<;>intro h2 hr
 exact e
 exact e
 refine fE 6 hr ?_ ?_<;>intro h3 hr
 refine fE 2 hr ?_ ?_<;>intro h4 hr
 exact e
 exact e
 refine fE 6 hr ?_ ?_<;>intro h5 hr
 refine fE 2 hr ?_ ?_<;>intro h6 hr
 exact e
 exact e
 refine fE 6 hr ?_ ?_<;>intro h7 hr
 refine fE 2 hr ?_ ?_<;>intro h8 hr
 exact e
 exact e
 refine fE 6 hr ?_ ?_<;>intro h9 hr
 refine fE 2 hr ?_ ?_<;>intro h10 hr
 exact e
 exact e
 refine fE 6 hr ?_ ?_<;>intro h11 hr
 refine fE 2 hr ?_ ?_<;>intro h12 hr
 exact e
 exact e
 refine fE 6 hr ?_ ?_<;>intro h13 hr
 refine fE 2 hr ?_ ?_<;>intro h14 hr
 exact e
 exact e
 refine fE 6 hr ?_ ?_<;>intro h15 hr
 refine fE 2 hr ?_ ?_<;>intro h16 hr
 exact e
 exact e
 refine fE 6 hr ?_ ?_<;>intro h17 hr
 refine fE 2 hr ?_ ?_<;>intro h18 hr
 exact e
 exact e
 refine fE 6 hr ?_ ?_<;>intro h19 hr
 refine fE 2 hr ?_ ?_<;>intro h20 hr
 exact e
 exact e
 refine fE 6 hr ?_ ?_<;>intro h21 hr
 refine fE 2 hr ?_ ?_<;>intro h22 hr
 exact e
 exact e
 refine fE 6 hr ?_ ?_<;>intro h23 hr
 refine fE 2 hr ?_ ?_<;>intro h24 hr
 exact e
 exact e
 refine fE 5 hr ?_ ?_<;>intro h25 hr
 exact e
 exact e
theorem q5Y {a0:BA_}{r:Bool}(hr:q4Y a0=some r):Okp 275 [dS a0] [] (dB r) []:=by
 refine OE Tryz.func275 fun S hS=>?_
 unfold q4Y at hr
 refine J g<|J LS'<|J (gn 3)<|J (rngT 5)<|fun hl1=>bdE hr fun q1 hqq1 hr=>q0y hqq1 0 (fun k1 _=>[(0,dS a0),(5,dI (a0.size:Int)),(6,dI (k1:Int))]) (fun k1 _=>[]) I (fun k1 sk1 ok1 hr hltk1 hik1=>?_) fun sk1 ek1=>?_
 refine bdE hr fun x1 hx1 hr=>J g ?_
 refine J (SI' rfl rfl (Dpz _) hx1)<|bdE hr fun y1 hy1 hr=>J (CB' [] [] (j3o hy1))<|fE 1 hr ?_ ?_<;>intro h1 hr
 exact e
 refine J g ?_
 refine J (SI' rfl rfl (Dpz _) hx1)<|bdE hr fun y2 hy2 hr=>J (CB' [] [] (j9o hy2))<|fE 3 hr ?_ ?_<;>intro h2 hr
 exact e
 exact e
 subst ek1
 refine J g<|J LS'<|bdE hr fun y3 hy3 hr=>J (CB' [] [] (q4J hy3))<|bdE hr fun s1 hqq2 hr=>q0a 5 [(0,dS a0),(29,dB s1)] ?_ ?_
 replace hr:=hqq2
 refine ifE hr ?_ ?_<;>intro h3 hr
 refine bdE hr fun x2 hx2 hr=>J g ?_
 refine J (SI' rfl rfl (Dpz _) hx2)<|bdE hr fun y4 hy4 hr=>J (CB' [] [] (j3o hy4))<|J g<|E
 exact e
 refine bdE hr fun s2 hqq3 hr=>q0a 5 [(34,dB s2)] ?_ ?_
 replace hr:=hqq3
 refine ifE hr ?_ ?_<;>intro h4 hr
 refine bdE hr fun y5 hy5 hr=>J g<|J (CB' [] [] (j4w hy5))<|e
 exact e
 exact e
theorem j5e {a0:Int}{r:Bool}(hr:z5Q a0=some r):Okp 281 [dI a0] [] (dB r) []:=by
 refine OE Tryz.func281 fun S hS=>?_
 unfold z5Q at hr
 refine bdE hr fun y1 hy1 hr=>J g<|J (CB' [] [] (q4J hy1))<|e
theorem z8E {a0:At_}{r:Bool}(hr:q8e a0=some r):Okp 273 [At_.x .fz a0] [] (dB r) []:=by
 refine OE Tryz.func273 fun S hS=>?_
 unfold q8e at hr
 refine J g<|J (BX' 0)<|bdE hr fun y1 hy1 hr=>J g<|J (CB' [] [] (q5Y hy1))<|bdE hr fun s1 hqq1 hr=>J (gn 1)<|q0a 6 [(1,.pb 0 0),(13,dB s1)] ?_ ?_
 replace hr:=hqq1
 refine ifE hr ?_ ?_<;>intro h1 hr
 refine bdE hr fun y2 hy2 hr=>J g<|J (CB' [] [] (j5e hy2))<|e
 exact e
 refine bdE hr fun s2 hqq2 hr=>q0a 6 [(1,.pb 0 0),(19,dB s2)] ?_ ?_
 replace hr:=hqq2
 refine ifE hr ?_ ?_<;>intro h2 hr
 exact e
 refine bdE hr fun y3 hy3 hr=>J g<|J (CB' [] [] (q4J hy3))<|e
 refine fE 2 hr ?_ ?_<;>intro h3 hr
 exact e
 refine fE 8 hr ?_ ?_<;>intro h4 hr
 refine bdE hr fun s3 hqq3 hr=>J (gn 6)<|q0a 5 [(31,dB s3)] ?_ ?_
 replace hr:=hqq3
 refine ifE hr ?_ ?_<;>intro h5 hr
 exact e
 exact e
 exact e
 refine bdE hr fun s4 hqq4 hr=>J (gn 7)<|q0a 5 [(39,dB s4)] ?_ ?_
 replace hr:=hqq4
 refine ifE hr ?_ ?_<;>intro h6 hr
 exact e
 exact e
 exact e
theorem z9g {a0 a1:At_}{r:Bool}(hr:z0e a0 a1=some r):Okp 274 [At_.x .fz a0,.pb 0 0] [bx10 a1] (dB r) [bx10 a1]:=by
 refine OE Tryz.func274 fun S hS=>?_
 unfold z0e at hr
 refine J g<|J (BX' 1)<|e
theorem q8R {m:Md}{a0:List At_}{a1_0:At_}{r:Int}(hr:q4A a0 a1_0=some r):Okp 191 [rw6 m a0,.fn 274 [.pb 0 0]] [bx10 a1_0] (dI r) [bx10 a1_0]:=by
 refine OE Tryz.func191 fun S hS=>?_
 unfold q4A at hr
 refine J (gn 12)<|J (lenT 0)<|fun hl1=>bdE hr fun q1 hqq1 hr=>q0b hqq1 hl1 1 (fun k1 _=>[(0,rw6 m a0),(1,.fn 274 [.pb 0 0]),(7,dI (a0.length:Int)),(8,dI (k1:Int))]) (fun k1 _=>[]) I (fun k1 xk1 sk1 ok1 hxk1 hr hltk1 hik1=>?_) fun k1 sk1 ek1 hltk1=>?_
 refine bdE hr fun y1 hy1 hr=>J g<|J (CB' [(0,0)] [] (z9g hy1))<|fE 1 hr ?_ ?_<;>intro h1 hr
 exact e
 exact e
 subst ek1
 exact e
theorem q8t {m:Md}{a0:List At_}{a1_0:At_}{r:Bool}(hr:q4q a0 a1_0=some r):Okp 165 [rw6 m a0,.fn 274 [.pb 0 0]] [bx10 a1_0] (dB r) [bx10 a1_0]:=by
 refine OE Tryz.func165 fun S hS=>?_
 unfold q4q at hr
 refine bdE hr fun y1 hy1 hr=>J g<|J (CB' [(0,0)] [] (q8R (m:=m) hy1))<|e
theorem j0P {m:Md}{a0:Symbol}{r:Bool}(hr:q9M a0=some r):Okp 249 [Symbol.x m a0] [] (dB r) []:=by
 refine OE Tryz.func249 fun S hS=>?_
 unfold q9M at hr
 refine J g<|J (BX' 0)<|J (gn 11)<|J (lenA 1 0)<|fun hl1=>bdE hr fun q1 hqq1 hr=>q0b hqq1 hl1 1 (fun k1 _=>[(1,.pb 0 0),(6,rw6 m a0.as_),(7,dI (a0.as_.length:Int)),(8,dI (k1:Int))]) (fun k1 _=>[]) I (fun k1 xk1 sk1 ok1 hxk1 hr hltk1 hik1=>?_) fun k1 sk1 ek1 hltk1=>?_
 refine J g<|J (NV' 1)<|bdE hr fun y1 hy1 hr=>J g<|J (CB' [] [] (z8E hy1))<|fE 1 hr ?_ ?_<;>intro h1 hr
 refine ggE hr fun g1 hr=>J g<|J (SLH' (Dpz _) g1)<|bdE hr fun y2 hy2 hr=>J g<|J (CB' [(0,1)] [] (q8t (m:=m) hy2))<|fE 2 hr ?_ ?_<;>intro h2 hr
 exact e
 exact e
 exact e
 subst ek1
 refine bdE hr fun y3 hy3 hr=>J g<|J (CB' [] [] (q5Y hy3))<|bdE hr fun s1 hqq2 hr=>q0a 6 [(33,dB s1)] ?_ ?_
 replace hr:=hqq2
 refine ifE hr ?_ ?_<;>intro h3 hr
 exact e
 exact e
 exact e
theorem j1N {m m2:Md}{a0 a1:Symbol}{r:Bool}(hr:z1N a0 a1=some r):Okp 250 [Symbol.x m a0,.pb 0 0] [bx8 m2 a1] (dB r) [bx8 m2 a1]:=by
 refine OE Tryz.func250 fun S hS=>?_
 unfold z1N at hr
 refine J g<|J (BX' 1)<|e
theorem z0h {m m2:Md}{a0:List Symbol}{a1_0:Symbol}{r:Int}(hr:q5h a0 a1_0=some r):Okp 132 [rw3 m a0,.fn 250 [.pb 0 0]] [bx8 m2 a1_0] (dI r) [bx8 m2 a1_0]:=by
 refine OE Tryz.func132 fun S hS=>?_
 unfold q5h at hr
 refine J (gn 12)<|J (lenT 0)<|fun hl1=>bdE hr fun q1 hqq1 hr=>q0b hqq1 hl1 1 (fun k1 _=>[(0,rw3 m a0),(1,.fn 250 [.pb 0 0]),(7,dI (a0.length:Int)),(8,dI (k1:Int))]) (fun k1 _=>[]) I (fun k1 xk1 sk1 ok1 hxk1 hr hltk1 hik1=>?_) fun k1 sk1 ek1 hltk1=>?_
 refine bdE hr fun y1 hy1 hr=>J g<|J (CB' [(0,0)] [] (j1N (m:=m) (m2:=m2) hy1))<|fE 1 hr ?_ ?_<;>intro h1 hr
 exact e
 exact e
 subst ek1
 exact e
theorem q9C {m m2:Md}{a0:List Symbol}{a1_0:Symbol}{r:Bool}(hr:q4P a0 a1_0=some r):Okp 163 [rw3 m a0,.fn 250 [.pb 0 0]] [bx8 m2 a1_0] (dB r) [bx8 m2 a1_0]:=by
 refine OE Tryz.func163 fun S hS=>?_
 unfold q4P at hr
 refine bdE hr fun y1 hy1 hr=>J g<|J (CB' [(0,0)] [] (z0h (m:=m) (m2:=m2) hy1))<|e
theorem j4x {Rc6:Expr→Option Int}(Ic6:∀ {m:Md} {a0:Expr} {r:Int},Rc6 a0=some r→Okp 287 [Expr.x m a0] [] (dI r) []){m:Md}{a0:Expr}{r:Int}(hr:z3n Rc6 a0=some r):Okp 287 [Expr.x m a0] [] (dI r) []:=by
 refine OE Tryz.func287 fun S hS=>?_
 unfold z3n at hr
 refine J g<|J (BX' 0)<|J (gn 15)<|J (lenA 6 0)<|fun hl1=>bdE hr fun s1 hqq1 hr=>q0e hqq1 hl1 1 (fun k1 s1=>[(3,dI s1),(7,rw7 m a0.Args),(8,dI (a0.Args.length:Int)),(9,dI (k1:Int))]) (fun k1 s1=>[]) I (fun k1 xk1 sk1 ok1 hxk1 hr hltk1=>?_) fun k1 hltk1=>?_
 obtain⟨s1,rfl⟩:∃ y,y=sk1:=⟨_,rfl⟩
 refine J g<|J (NV' 1)<|bdE hr fun y1 hy1 hr=>J g<|J (CB' [] [] (Ic6 (m:=m) hy1))<|ggE hr fun g1 hr=>e
 exact e
theorem j4y (n:Nat):∀ {m:Md} {a0:Expr} {r:Int},z1w n a0=some r→Okp 287 [Expr.x m a0] [] (dI r) []:=by
  induction n with
  | zero=>intro _ _ r hr;exact nomatch (show (none:Option Int)=some r from hr)
  | succ n ih=>intro _ _ r hr;exact j4x ih hr
theorem j6f {m:Md}{a0:Expr}{r:Int}(hr:z7x a0=some r):Okp 287 [Expr.x m a0] [] (dI r) []:=by
 obtain⟨n,hn⟩:=q6R hr
 exact j4y n hn
theorem j1O {Rc7:Expr→Option Int}(Ic7:∀ {m:Md} {a0:Expr} {r:Int},Rc7 a0=some r→Okp 288 [Expr.x m a0] [] (dI r) []){m:Md}{a0:Expr}{r:Int}(hr:z0V Rc7 a0=some r):Okp 288 [Expr.x m a0] [] (dI r) []:=by
 refine OE Tryz.func288 fun S hS=>?_
 unfold z0V at hr
 refine J g<|J (BX' 0)<|J (gn 15)<|J (lenA 6 0)<|fun hl1=>bdE hr fun s1 hqq1 hr=>q0e hqq1 hl1 1 (fun k1 s1=>[(3,dI s1),(7,rw7 m a0.Args),(8,dI (a0.Args.length:Int)),(9,dI (k1:Int))]) (fun k1 s1=>[]) I (fun k1 xk1 sk1 ok1 hxk1 hr hltk1=>?_) fun k1 hltk1=>?_
 obtain⟨s1,rfl⟩:∃ y,y=sk1:=⟨_,rfl⟩
 refine J g<|J (NV' 1)<|bdE hr fun y1 hy1 hr=>J g<|J (CB' [] [] (Ic7 (m:=m) hy1)) ?_
 refine J (MXI' rfl rfl)<|J g<|E
 refine ggE hr fun g1 hr=>e
theorem j1P (n:Nat):∀ {m:Md} {a0:Expr} {r:Int},q7R n a0=some r→Okp 288 [Expr.x m a0] [] (dI r) []:=by
  induction n with
  | zero=>intro _ _ r hr;exact nomatch (show (none:Option Int)=some r from hr)
  | succ n ih=>intro _ _ r hr;exact j1O ih hr
theorem j3p {m:Md}{a0:Expr}{r:Int}(hr:z5w a0=some r):Okp 288 [Expr.x m a0] [] (dI r) []:=by
 obtain⟨n,hn⟩:=q6R hr
 exact j1P n hn
theorem j7Q {a0 r:Int}(hr:z6z a0=some r):Okp 293 [dI a0] [] (dI r) []:=by
 refine OE Tryz.func293 fun S hS=>?_
 unfold z6z at hr
 refine J g ?_
 refine J (MNI' rfl rfl) ?_
 refine J (MXI' rfl rfl)<|J g<|E
theorem k5A {a0:Bool}{r:Int}(hr:j2X a0=some r):Okp 294 [dB a0] [] (dI r) []:=by
 refine OE Tryz.func294 fun S hS=>?_
 unfold j2X at hr
 refine fE 9 hr ?_ ?_<;>intro h1 hr
 exact e
 exact e
theorem k1L {a0 a1 r:Int}(hr:z7z a0 a1=some r):Okp 292 [dI a0,dI a1] [] (dI r) []:=by
 refine OE Tryz.func292 fun S hS=>?_
 unfold z7z at hr
 refine fE 12 hr ?_ ?_<;>intro h1 hr
 refine bdE hr fun y1 hy1 hr=>J g<|J (CB' [] [] (j7Q hy1))<|e
 refine fE 7 hr ?_ ?_<;>intro h2 hr
 refine J g<|J (OB' _ k2R)<|e
 refine fE 7 hr ?_ ?_<;>intro h3 hr
 refine bdE hr fun y2 hy2 hr=>J g<|J (CB' [] [] (k5A hy2))<|e
 refine fE 5 hr ?_ ?_<;>intro h4 hr
 refine bdE hr fun y3 hy3 hr=>J g<|J (CB' [] [] (q4J hy3))<|fE 3 hr ?_ ?_<;>intro h5 hr
 exact e
 exact e
 exact e
theorem j7R {a0 a1:Int}{r:Bool}(hr:z4y a0 a1=some r):Okp 290 [dI a0,dI a1] [] (dB r) []:=by
 refine OE Tryz.func290 fun S hS=>?_
 unfold z4y at hr
 refine bdE hr fun y1 hy1 hr=>J g<|J (CB' [] [] (j5e hy1))<|ifE hr ?_ ?_<;>intro h1 hr
 refine bdE hr fun y2 hy2 hr=>J g<|J (CB' [] [] (k1L hy2))<|e
 exact e
theorem q9r {m:Md}{a0 a1:Expr}{r:Bool}(hr:q7q a0 a1=some r):Okp 291 [Expr.x m a0,Expr.x m a1] [] (dB r) []:=by
 refine OE Tryz.func291 fun S hS=>?_
 unfold q7q at hr
 refine J g<|J (BX' 0)<|J (BX' 1)<|bdE hr fun s1 hqq1 hr=>J (gn 9)<|q0a 7 [(2,.pb 0 0),(3,.pb 1 0),(4,dB false),(16,dB s1)] ?_ ?_
 replace hr:=hqq1
 refine ifE hr ?_ ?_<;>intro h1 hr
 exact e
 exact e
 refine bdE hr fun s2 hqq2 hr=>q0a 7 [(2,.pb 0 0),(3,.pb 1 0),(4,dB false),(23,dB s2)] ?_ ?_
 replace hr:=hqq2
 refine ifE hr ?_ ?_<;>intro h2 hr
 exact e
 exact e
 refine bdE hr fun s3 hqq3 hr=>q0a 7 [(2,.pb 0 0),(3,.pb 1 0),(4,dB false),(30,dB s3)] ?_ ?_
 replace hr:=hqq3
 refine ifE hr ?_ ?_<;>intro h3 hr
 exact e
 exact e
 refine bdE hr fun s4 hqq4 hr=>q0a 7 [(2,.pb 0 0),(3,.pb 1 0),(4,dB false),(37,dB s4)] ?_ ?_
 replace hr:=hqq4
 refine ifE hr ?_ ?_<;>intro h4 hr
 exact e
 exact e
 refine bdE hr fun s5 hqq5 hr=>q0a 7 [(4,dB false),(44,dB s5)] ?_ ?_
 replace hr:=hqq5
 refine ifE hr ?_ ?_<;>intro h5 hr
 exact e
 exact e
 exact e
theorem j4z {m:Md}{a0:Expr}{r:Bool}(hr:z1O a0=some r):Okp 289 [Expr.x m a0] [] (dB r) []:=by
 refine OE Tryz.func289 fun S hS=>?_
 unfold z1O at hr
 refine J g<|J (BX' 0)<|J g<|J (NV' 1)<|fE 18 hr ?_ ?_<;>intro h1 hr
 refine bdE hr fun s1 hqq1 hr=>J (gn 17)<|q0a 8 [(1,.pb 0 0),(3,.pb 1 0),(4,dI 0),(30,dB s1)] ?_ ?_
 replace hr:=hqq1
 refine ifE hr ?_ ?_<;>intro h2 hr
 exact e
 refine bdE hr fun y1 hy1 hr=>J g<|J (CB' [] [] (j7R hy1))<|e
 refine bdE hr fun s2 hqq2 hr=>q0a 5 [(1,.pb 0 0),(3,.pb 1 0),(4,dI 0),(35,dB s2)] ?_ ?_
 replace hr:=hqq2
 refine ifE hr ?_ ?_<;>intro h3 hr
 exact e
 exact e
 refine fE 1 hr ?_ ?_<;>intro h4 hr
 exact e
 refine bdE hr fun s3 hqq3 hr=>J (gn 9)<|q0a 5 [(1,.pb 0 0),(3,.pb 1 0),(94,dB s3)] ?_ ?_
 replace hr:=hqq3
 refine ifE hr ?_ ?_<;>intro h5 hr
 refine bdE hr fun y2 hy2 hr=>J g<|J (CB' [] [] (q4J hy2))<|e
 exact e
 refine bdE hr fun s4 hqq4 hr=>q0a 5 [(99,dB s4)] ?_ ?_
 replace hr:=hqq4
 refine ifE hr ?_ ?_<;>intro h6 hr
 refine bdE hr fun y3 hy3 hr=>J g<|J (CB' [] [] (q9r (m:=m) hy3))<|e
 exact e
 exact e
 refine fE 6 hr ?_ ?_<;>intro h7 hr
 refine bdE hr fun y4 hy4 hr=>J g<|J (CB' [] [] (q5Y hy4))<|fE 2 hr ?_ ?_<;>intro h8 hr
 refine bdE hr fun s5 hqq5 hr=>J (gn 9)<|q0a 5 [(1,.pb 0 0),(2,dB false),(3,.pb 1 0),(94,dB s5)] ?_ ?_
 replace hr:=hqq5
 refine ifE hr ?_ ?_<;>intro h9 hr
 refine bdE hr fun y5 hy5 hr=>J g<|J (CB' [] [] (q4J hy5))<|e
 exact e
 refine bdE hr fun s6 hqq6 hr=>q0a 5 [(2,dB false),(99,dB s6)] ?_ ?_
 replace hr:=hqq6
 refine ifE hr ?_ ?_<;>intro h10 hr
 refine bdE hr fun y6 hy6 hr=>J g<|J (CB' [] [] (q9r (m:=m) hy6))<|e
 exact e
 exact e
 exact e
 refine fE 6 hr ?_ ?_<;>intro h11 hr
 refine bdE hr fun y7 hy7 hr=>J g<|J (CB' [] [] (q4J hy7))<|fE 2 hr ?_ ?_<;>intro h12 hr
 refine bdE hr fun s7 hqq7 hr=>J (gn 9)<|q0a 5 [(1,.pb 0 0),(2,dB false),(3,.pb 1 0),(94,dB s7)] ?_ ?_
 replace hr:=hqq7
 refine ifE hr ?_ ?_<;>intro h13 hr
 refine bdE hr fun y8 hy8 hr=>J g<|J (CB' [] [] (q4J hy8))<|e
 exact e
 refine bdE hr fun s8 hqq8 hr=>q0a 5 [(2,dB false),(99,dB s8)] ?_ ?_
 replace hr:=hqq8
 refine ifE hr ?_ ?_<;>intro h14 hr
 refine bdE hr fun y9 hy9 hr=>J g<|J (CB' [] [] (q9r (m:=m) hy9))<|e
 exact e
 exact e
 exact e
 refine fE 6 hr ?_ ?_<;>intro h15 hr
 refine bdE hr fun s9 hqq9 hr=>J (gn 11)<|q0a 5 [(1,.pb 0 0),(2,dB false),(3,.pb 1 0),(94,dB s9)] ?_ ?_
 replace hr:=hqq9
 refine ifE hr ?_ ?_<;>intro h16 hr
 refine bdE hr fun y10 hy10 hr=>J g<|J (CB' [] [] (q4J hy10))<|e
 exact e
 refine bdE hr fun s10 hqq10 hr=>q0a 5 [(2,dB false),(99,dB s10)] ?_ ?_
 replace hr:=hqq10
 refine ifE hr ?_ ?_<;>intro h17 hr
 refine bdE hr fun y11 hy11 hr=>J g<|J (CB' [] [] (q9r (m:=m) hy11))<|e
 exact e
 exact e
 refine fE 6 hr ?_ ?_<;>intro h18 hr
 refine bdE hr fun s11 hqq11 hr=>J (gn 14)<|q0a 5 [(1,.pb 0 0),(2,dB false),(3,.pb 1 0),(94,dB s11)] ?_ ?_
 replace hr:=hqq11
 refine ifE hr ?_ ?_<;>intro h19 hr
 refine bdE hr fun y12 hy12 hr=>J g<|J (CB' [] [] (q4J hy12))<|e
 exact e
 refine bdE hr fun s12 hqq12 hr=>q0a 5 [(2,dB false),(99,dB s12)] ?_ ?_
 replace hr:=hqq12
 refine ifE hr ?_ ?_<;>intro h20 hr
 refine bdE hr fun y13 hy13 hr=>J g<|J (CB' [] [] (q9r (m:=m) hy13))<|e
 exact e
 exact e
 refine fE 6 hr ?_ ?_<;>intro h21 hr
 refine bdE hr fun y14 hy14 hr=>J g<|J (CB' [] [] (q5Y hy14))<|bdE hr fun s13 hqq13 hr=>J (gn 1)<|q0a 6 [(1,.pb 0 0),(3,.pb 1 0),(4,dI 1),(81,dB s13)] ?_ ?_
 replace hr:=hqq13
 refine ifE hr ?_ ?_<;>intro h22 hr
 refine bdE hr fun y15 hy15 hr=>J g<|J (CB' [] [] (q5Y hy15))<|e
 exact e
 refine fE 1 hr ?_ ?_<;>intro h23 hr
 exact e
 refine bdE hr fun s14 hqq14 hr=>J (gn 9)<|q0a 5 [(1,.pb 0 0),(3,.pb 1 0),(94,dB s14)] ?_ ?_
 replace hr:=hqq14
 refine ifE hr ?_ ?_<;>intro h24 hr
 refine bdE hr fun y16 hy16 hr=>J g<|J (CB' [] [] (q4J hy16))<|e
 exact e
 refine bdE hr fun s15 hqq15 hr=>q0a 5 [(99,dB s15)] ?_ ?_
 replace hr:=hqq15
 refine ifE hr ?_ ?_<;>intro h25 hr
 refine bdE hr fun y17 hy17 hr=>J g<|J (CB' [] [] (q9r (m:=m) hy17))<|e
 exact e
 exact e
 refine fE 7 hr ?_ ?_<;>intro h26 hr
 refine fE 2 hr ?_ ?_<;>intro h27 hr
 refine bdE hr fun s16 hqq16 hr=>J (gn 9)<|q0a 5 [(1,.pb 0 0),(2,dB false),(3,.pb 1 0),(94,dB s16)] ?_ ?_
 replace hr:=hqq16
 refine ifE hr ?_ ?_<;>intro h28 hr
 refine bdE hr fun y18 hy18 hr=>J g<|J (CB' [] [] (q4J hy18))<|e
 exact e
 refine bdE hr fun s17 hqq17 hr=>q0a 5 [(2,dB false),(99,dB s17)] ?_ ?_
 replace hr:=hqq17
 refine ifE hr ?_ ?_<;>intro h29 hr
 refine bdE hr fun y19 hy19 hr=>J g<|J (CB' [] [] (q9r (m:=m) hy19))<|e
 exact e
 exact e
 exact e
 refine fE 5 hr ?_ ?_<;>intro h30 hr
 refine bdE hr fun s18 hqq18 hr=>J (gn 9)<|q0a 5 [(1,.pb 0 0),(2,dB false),(3,.pb 1 0),(94,dB s18)] ?_ ?_
 replace hr:=hqq18
 refine ifE hr ?_ ?_<;>intro h31 hr
 refine bdE hr fun y20 hy20 hr=>J g<|J (CB' [] [] (q4J hy20))<|e
 exact e
 refine bdE hr fun s19 hqq19 hr=>q0a 5 [(2,dB false),(99,dB s19)] ?_ ?_
 replace hr:=hqq19
 refine ifE hr ?_ ?_<;>intro h32 hr
 refine bdE hr fun y21 hy21 hr=>J g<|J (CB' [] [] (q9r (m:=m) hy21))<|e
 exact e
 exact e
 exact e
theorem z4O {Rc8:Expr→Option Bool}(Ic8:∀ {m:Md} {a0:Expr} {r:Bool},Rc8 a0=some r→Okp 167 [Expr.x m a0,.fn 289 []] [] (dB r) []){m:Md}{a0:Expr}{r:Bool}(hr:q6Q Rc8 a0=some r):Okp 192 [Expr.x m a0,.pb 0 0] [.box [.fn 289 []]] (dB r) [.box [.fn 289 []]]:=by
 refine OE Tryz.func192 fun S hS=>?_
 unfold q6Q at hr
 refine J g<|J (BX' 1)<|bdE hr fun y1 hy1 hr=>J g<|J (CB' [] [] (Ic8 (m:=m) hy1))<|e
theorem q8u {Rc8:Expr→Option Bool}(Ic8:∀ {m:Md} {a0:Expr} {r:Bool},Rc8 a0=some r→Okp 167 [Expr.x m a0,.fn 289 []] [] (dB r) []){m:Md}{a0:List Expr}{r:Int}(hr:q4r Rc8 a0=some r):Okp 189 [rw7 m a0,.fn 192 [.pb 0 0]] [.box [.fn 289 []]] (dI r) [.box [.fn 289 []]]:=by
 refine OE Tryz.func189 fun S hS=>?_
 unfold q4r at hr
 refine J (gn 12)<|J (lenT 0)<|fun hl1=>bdE hr fun q1 hqq1 hr=>q0b hqq1 hl1 1 (fun k1 _=>[(0,rw7 m a0),(1,.fn 192 [.pb 0 0]),(7,dI (a0.length:Int)),(8,dI (k1:Int))]) (fun k1 _=>[]) I (fun k1 xk1 sk1 ok1 hxk1 hr hltk1 hik1=>?_) fun k1 sk1 ek1 hltk1=>?_
 refine bdE hr fun y1 hy1 hr=>J g<|J (CB' [(0,0)] [] (z4O Ic8 (m:=m) hy1))<|fE 1 hr ?_ ?_<;>intro h1 hr
 exact e
 exact e
 subst ek1
 exact e
theorem q7Y {Rc8:Expr→Option Bool}(Ic8:∀ {m:Md} {a0:Expr} {r:Bool},Rc8 a0=some r→Okp 167 [Expr.x m a0,.fn 289 []] [] (dB r) []){m:Md}{a0:List Expr}{r:Bool}(hr:q4k Rc8 a0=some r):Okp 160 [rw7 m a0,.fn 192 [.pb 0 0]] [.box [.fn 289 []]] (dB r) [.box [.fn 289 []]]:=by
 refine OE Tryz.func160 fun S hS=>?_
 unfold q4k at hr
 refine bdE hr fun y1 hy1 hr=>J g<|J (CB' [(0,0)] [] (q8u Ic8 (m:=m) hy1))<|e
theorem z5d {Rc8:Expr→Option Bool}(Ic8:∀ {m:Md} {a0:Expr} {r:Bool},Rc8 a0=some r→Okp 167 [Expr.x m a0,.fn 289 []] [] (dB r) []){m:Md}{a0:Expr}{r:Bool}(hr:q6w Rc8 a0=some r):Okp 167 [Expr.x m a0,.fn 289 []] [] (dB r) []:=by
 refine OE Tryz.func167 fun S hS=>?_
 unfold q6w at hr
 refine J g<|J (BX' 0)<|J (BX' 1)<|bdE hr fun y1 hy1 hr=>J g<|J (CB' [] [] (j4z (m:=m) hy1))<|ifE hr ?_ ?_<;>intro h1 hr
 refine bdE hr fun y2 hy2 hr=>J g<|J (CB' [(0,1)] [] (q7Y Ic8 (m:=m) hy2))<|e
 exact e
theorem z5e (n:Nat):∀ {m:Md} {a0:Expr} {r:Bool},q6x n a0=some r→Okp 167 [Expr.x m a0,.fn 289 []] [] (dB r) []:=by
  induction n with
  | zero=>intro _ _ r hr;exact nomatch (show (none:Option Bool)=some r from hr)
  | succ n ih=>intro _ _ r hr;exact z5d ih hr
theorem z5A {m:Md}{a0:Expr}{r:Bool}(hr:q8Z a0=some r):Okp 167 [Expr.x m a0,.fn 289 []] [] (dB r) []:=by
 obtain⟨n,hn⟩:=q6R hr
 exact z5e n hn
theorem j3q {m:Md}{a0:Expr}{r:Bool}(hr:z0W a0=some r):Okp 285 [Expr.x m a0] [] (dB r) []:=by
 refine OE Tryz.func285 fun S hS=>?_
 unfold z0W at hr
 refine J g<|J (BX' 0)<|bdE hr fun y1 hy1 hr=>J g<|J (CB' [] [] (j6f (m:=m) hy1))<|bdE hr fun s1 hqq1 hr=>J (gn 1)<|q0a 5 [(1,.pb 0 0),(2,dB false),(10,dB s1)] ?_ ?_
 replace hr:=hqq1
 refine ifE hr ?_ ?_<;>intro h1 hr
 refine bdE hr fun y2 hy2 hr=>J g<|J (CB' [] [] (j3p (m:=m) hy2))<|e
 exact e
 refine bdE hr fun s2 hqq2 hr=>q0a 4 [(2,dB false),(14,dB s2)] ?_ ?_
 replace hr:=hqq2
 refine ifE hr ?_ ?_<;>intro h2 hr
 refine bdE hr fun y3 hy3 hr=>J g<|J (CB' [] [] (z5A (m:=m) hy3))<|e
 exact e
 exact e
theorem k1M {m:Md}{a0:Expr}{a1:Int}{r:Bool}(hr:z9L a0 a1=some r):Okp 286 [Expr.x m a0,.pb 0 0] [bx9 a1] (dB r) [bx9 a1]:=by
 refine OE Tryz.func286 fun S hS=>?_
 unfold z9L at hr
 refine J g<|J (BX' 1)<|e
theorem z6J {Rc9:Expr→Int→Option Bool}(Ic9:∀ {m:Md} {a0:Expr} {a1_0:Int} {r:Bool},Rc9 a0 a1_0=some r→Okp 167 [Expr.x m a0,.fn 286 [.pb 0 0]] [bx9 a1_0] (dB r) [bx9 a1_0]){m:Md}{a0:Expr}{a1_0:Int}{r:Bool}(hr:q8r Rc9 a0 a1_0=some r):Okp 192 [Expr.x m a0,.pb 1 0] [bx9 a1_0,.box [.fn 286 [.pb 0 0]]] (dB r) [bx9 a1_0,.box [.fn 286 [.pb 0 0]]]:=by
 refine OE Tryz.func192 fun S hS=>?_
 unfold q8r at hr
 refine J g<|J (BX' 2)<|bdE hr fun y1 hy1 hr=>J g<|J (CB' [(0,0)] [] (Ic9 (m:=m) hy1))<|e
theorem q9j {Rc9:Expr→Int→Option Bool}(Ic9:∀ {m:Md} {a0:Expr} {a1_0:Int} {r:Bool},Rc9 a0 a1_0=some r→Okp 167 [Expr.x m a0,.fn 286 [.pb 0 0]] [bx9 a1_0] (dB r) [bx9 a1_0]){m:Md}{a0:List Expr}{a1_0_0 r:Int}(hr:q4E Rc9 a0 a1_0_0=some r):Okp 189 [rw7 m a0,.fn 192 [.pb 1 0]] [bx9 a1_0_0,.box [.fn 286 [.pb 0 0]]] (dI r) [bx9 a1_0_0,.box [.fn 286 [.pb 0 0]]]:=by
 refine OE Tryz.func189 fun S hS=>?_
 unfold q4E at hr
 refine J (gn 12)<|J (lenT 0)<|fun hl1=>bdE hr fun q1 hqq1 hr=>q0b hqq1 hl1 2 (fun k1 _=>[(0,rw7 m a0),(1,.fn 192 [.pb 1 0]),(7,dI (a0.length:Int)),(8,dI (k1:Int))]) (fun k1 _=>[]) I (fun k1 xk1 sk1 ok1 hxk1 hr hltk1 hik1=>?_) fun k1 sk1 ek1 hltk1=>?_
 refine bdE hr fun y1 hy1 hr=>J g<|J (CB' [(0,0),(1,1)] [] (z6J Ic9 (m:=m) hy1))<|fE 1 hr ?_ ?_<;>intro h1 hr
 exact e
 exact e
 subst ek1
 exact e
theorem q8L {Rc9:Expr→Int→Option Bool}(Ic9:∀ {m:Md} {a0:Expr} {a1_0:Int} {r:Bool},Rc9 a0 a1_0=some r→Okp 167 [Expr.x m a0,.fn 286 [.pb 0 0]] [bx9 a1_0] (dB r) [bx9 a1_0]){m:Md}{a0:List Expr}{a1_0_0:Int}{r:Bool}(hr:q4w Rc9 a0 a1_0_0=some r):Okp 160 [rw7 m a0,.fn 192 [.pb 1 0]] [bx9 a1_0_0,.box [.fn 286 [.pb 0 0]]] (dB r) [bx9 a1_0_0,.box [.fn 286 [.pb 0 0]]]:=by
 refine OE Tryz.func160 fun S hS=>?_
 unfold q4w at hr
 refine bdE hr fun y1 hy1 hr=>J g<|J (CB' [(0,0),(1,1)] [] (q9j Ic9 (m:=m) hy1))<|e
theorem z7e {Rc9:Expr→Int→Option Bool}(Ic9:∀ {m:Md} {a0:Expr} {a1_0:Int} {r:Bool},Rc9 a0 a1_0=some r→Okp 167 [Expr.x m a0,.fn 286 [.pb 0 0]] [bx9 a1_0] (dB r) [bx9 a1_0]){m:Md}{a0:Expr}{a1_0:Int}{r:Bool}(hr:q7E Rc9 a0 a1_0=some r):Okp 167 [Expr.x m a0,.fn 286 [.pb 0 0]] [bx9 a1_0] (dB r) [bx9 a1_0]:=by
 refine OE Tryz.func167 fun S hS=>?_
 unfold q7E at hr
 refine J g<|J (BX' 1)<|J (BX' 2)<|bdE hr fun y1 hy1 hr=>J g<|J (CB' [(0,0)] [] (k1M (m:=m) hy1))<|ifE hr ?_ ?_<;>intro h1 hr
 refine bdE hr fun y2 hy2 hr=>J g<|J (CB' [(0,0),(1,2)] [] (q8L Ic9 (m:=m) hy2))<|e
 exact e
theorem z7f (n:Nat):∀ {m:Md} {a0:Expr} {a1_0:Int} {r:Bool},q7F n a0 a1_0=some r→Okp 167 [Expr.x m a0,.fn 286 [.pb 0 0]] [bx9 a1_0] (dB r) [bx9 a1_0]:=by
  induction n with
  | zero=>intro _ _ _ r hr;exact nomatch (show (none:Option Bool)=some r from hr)
  | succ n ih=>intro _ _ _ r hr;exact z7e ih hr
theorem z7P {m:Md}{a0:Expr}{a1_0:Int}{r:Bool}(hr:z0L a0 a1_0=some r):Okp 167 [Expr.x m a0,.fn 286 [.pb 0 0]] [bx9 a1_0] (dB r) [bx9 a1_0]:=by
 obtain⟨n,hn⟩:=q6R hr
 exact z7f n hn
theorem j6g {m:Md}{a0:Expr}{a1:Int}{r:Bool}(hr:z8X a0 a1=some r):Okp 276 [Expr.x m a0,dI a1] [] (dB r) []:=by
 refine OE Tryz.func276 fun S hS=>?_
 unfold z8X at hr
 refine J g<|J (BX' 0)<|J (BX' 1)<|bdE hr fun y1 hy1 hr=>J g<|J (CB' [] [] (j3q (m:=m) hy1))<|ifE hr ?_ ?_<;>intro h1 hr
 refine bdE hr fun y2 hy2 hr=>J g<|J (CB' [(0,1)] [] (z7P (m:=m) hy2))<|e
 exact e
theorem j3r {m:Md}{a0:Rule}{r:Bool}(hr:z0X a0=some r):Okp 251 [Rule.x m a0] [] (dB r) []:=by
 refine OE Tryz.func251 fun S hS=>?_
 unfold z0X at hr
 refine J g<|J (BX' 0)<|bdE hr fun y1 hy1 hr=>J g<|J (CB' [] [] (q5Y hy1))<|bdE hr fun s1 hqq1 hr=>J (gn 1)<|q0a 6 [(1,.pb 0 0),(3,dI (a0.rt_.length:Int)),(22,dB s1)] ?_ ?_
 replace hr:=hqq1
 refine ifE hr ?_ ?_<;>intro h1 hr
 refine bdE hr fun y2 hy2 hr=>J g<|J (CB' [] [] (q5Y hy2))<|e
 exact e
 refine bdE hr fun s2 hqq2 hr=>q0a 4 [(1,.pb 0 0),(3,dI (a0.rt_.length:Int)),(26,dB s2)] ?_ ?_
 replace hr:=hqq2
 refine ifE hr ?_ ?_<;>intro h2 hr
 exact e
 exact e
 refine bdE hr fun s3 hqq3 hr=>q0a 6 [(1,.pb 0 0),(3,dI (a0.rt_.length:Int)),(32,dB s3)] ?_ ?_
 replace hr:=hqq3
 refine ifE hr ?_ ?_<;>intro h3 hr
 exact e
 exact e
 refine fE 1 hr ?_ ?_<;>intro h4 hr
 exact e
 refine J (gn 11)<|J (lenT 34)<|fun hl1=>bdE hr fun q4 hqq4 hr=>q0b hqq4 hl1 1 (fun k1 _=>[(1,.pb 0 0),(3,dI (a0.rt_.length:Int)),(34,rw2 m a0.rt_),(35,dI (a0.rt_.length:Int)),(36,dI (k1:Int))]) (fun k1 _=>[]) I (fun k1 xk1 sk1 ok1 hxk1 hr hltk1 hik1=>?_) fun k1 sk1 ek1 hltk1=>?_
 refine bdE hr fun y3 hy3 hr=>J g<|J (CB' [] [] (q5Y hy3))<|fE 2 hr ?_ ?_<;>intro h5 hr
 exact e
 exact e
 subst ek1
 refine J (gn 16)<|J (lenT 45)<|fun hl2=>bdE hr fun q5 hqq5 hr=>q0b hqq5 hl2 1 (fun k2 _=>[(1,.pb 0 0),(3,dI (a0.rt_.length:Int)),(45,rw8 m a0.es_),(46,dI (a0.es_.length:Int)),(47,dI (k2:Int))]) (fun k2 _=>[]) I (fun k2 xk2 sk2 ok2 hxk2 hr hltk2 hik2=>?_) fun k2 sk2 ek2 hltk2=>?_
 refine J g<|J (NV' 1)<|bdE hr fun y4 hy4 hr=>J g<|J (CB' [] [] (j6g (m:=m) hy4))<|bdE hr fun s4 hqq6 hr=>J (gn 1)<|q0a 7 [(1,.pb 0 0),(3,dI (a0.rt_.length:Int)),(7,.pb 1 0),(45,rw8 m a0.es_),(46,dI (a0.es_.length:Int)),(47,dI (k2:Int)),(62,dB s4)] ?_ ?_
 replace hr:=hqq6
 refine ifE hr ?_ ?_<;>intro h6 hr
 refine bdE hr fun y5 hy5 hr=>J g<|J (CB' [] [] (q5Y hy5))<|e
 exact e
 refine bdE hr fun s5 hqq7 hr=>q0a 8 [(1,.pb 0 0),(3,dI (a0.rt_.length:Int)),(45,rw8 m a0.es_),(46,dI (a0.es_.length:Int)),(47,dI (k2:Int)),(70,dB s5)] ?_ ?_
 replace hr:=hqq7
 refine ifE hr ?_ ?_<;>intro h7 hr
 exact e
 refine bdE hr fun y6 hy6 hr=>J g<|J (CB' [] [] (q4J hy6))<|e
 refine fE 1 hr ?_ ?_<;>intro h8 hr
 exact e
 exact e
 subst ek2
 refine J (gn 16)<|J (lenT 73)<|fun hl3=>bdE hr fun q8 hqq8 hr=>q0b hqq8 hl3 1 (fun k3 _=>[(3,dI (a0.rt_.length:Int)),(73,rw9 m a0.cs_),(74,dI (a0.cs_.length:Int)),(75,dI (k3:Int))]) (fun k3 _=>[]) I (fun k3 xk3 sk3 ok3 hxk3 hr hltk3 hik3=>?_) fun k3 sk3 ek3 hltk3=>?_
 refine J g<|J (NV' 1)<|bdE hr fun y7 hy7 hr=>J g<|J (CB' [] [] (j6g (m:=m) hy7))<|bdE hr fun s6 hqq9 hr=>J (gn 1)<|q0a 7 [(3,dI (a0.rt_.length:Int)),(9,.pb 1 0),(73,rw9 m a0.cs_),(74,dI (a0.cs_.length:Int)),(75,dI (k3:Int)),(90,dB s6)] ?_ ?_
 replace hr:=hqq9
 refine ifE hr ?_ ?_<;>intro h9 hr
 refine bdE hr fun y8 hy8 hr=>J g<|J (CB' [] [] (j6g (m:=m) hy8))<|e
 exact e
 refine bdE hr fun s7 hqq10 hr=>q0a 6 [(3,dI (a0.rt_.length:Int)),(9,.pb 1 0),(73,rw9 m a0.cs_),(74,dI (a0.cs_.length:Int)),(75,dI (k3:Int)),(96,dB s7)] ?_ ?_
 replace hr:=hqq10
 refine ifE hr ?_ ?_<;>intro h10 hr
 exact e
 refine bdE hr fun y9 hy9 hr=>J g<|J (CB' [] [] (q5Y hy9))<|e
 refine bdE hr fun s8 hqq11 hr=>q0a 6 [(3,dI (a0.rt_.length:Int)),(73,rw9 m a0.cs_),(74,dI (a0.cs_.length:Int)),(75,dI (k3:Int)),(102,dB s8)] ?_ ?_
 replace hr:=hqq11
 refine ifE hr ?_ ?_<;>intro h11 hr
 exact e
 refine bdE hr fun y10 hy10 hr=>J g<|J (CB' [] [] (q5Y hy10))<|e
 refine fE 1 hr ?_ ?_<;>intro h12 hr
 exact e
 exact e
 subst ek3
 exact e
theorem j1Q {m m2:Md}{a0 a1:Rule}{r:Bool}(hr:z1P a0 a1=some r):Okp 252 [Rule.x m a0,.pb 0 0] [bx1 m2 m2 m2 a1] (dB r) [bx1 m2 m2 m2 a1]:=by
 refine OE Tryz.func252 fun S hS=>?_
 unfold z1P at hr
 refine J g<|J (BX' 1)<|e
theorem z0E {m m2:Md}{a0:List Rule}{a1_0:Rule}{r:Int}(hr:q5q a0 a1_0=some r):Okp 188 [rw5 m a0,.fn 252 [.pb 0 0]] [bx1 m2 m2 m2 a1_0] (dI r) [bx1 m2 m2 m2 a1_0]:=by
 refine OE Tryz.func188 fun S hS=>?_
 unfold q5q at hr
 refine J (gn 12)<|J (lenT 0)<|fun hl1=>bdE hr fun q1 hqq1 hr=>q0b hqq1 hl1 1 (fun k1 _=>[(0,rw5 m a0),(1,.fn 252 [.pb 0 0]),(7,dI (a0.length:Int)),(8,dI (k1:Int))]) (fun k1 _=>[]) I (fun k1 xk1 sk1 ok1 hxk1 hr hltk1 hik1=>?_) fun k1 sk1 ek1 hltk1=>?_
 refine bdE hr fun y1 hy1 hr=>J g<|J (CB' [(0,0)] [] (j1Q (m:=m) (m2:=m2) hy1))<|fE 1 hr ?_ ?_<;>intro h1 hr
 exact e
 exact e
 subst ek1
 exact e
theorem q9Z {m m2:Md}{a0:List Rule}{a1_0:Rule}{r:Bool}(hr:q4Z a0 a1_0=some r):Okp 158 [rw5 m a0,.fn 252 [.pb 0 0]] [bx1 m2 m2 m2 a1_0] (dB r) [bx1 m2 m2 m2 a1_0]:=by
 refine OE Tryz.func158 fun S hS=>?_
 unfold q4Z at hr
 refine bdE hr fun y1 hy1 hr=>J g<|J (CB' [(0,0)] [] (z0E (m:=m) (m2:=m2) hy1))<|e
theorem j4A {m:Md}{a0:Gm_}{r:Int}(hr:z1Q a0=some r):Okp 212 [Gm_.x m a0] [] (dI r) []:=by
 refine OE Tryz.func212 fun S hS=>?_
 unfold z1Q at hr
 refine J g<|J (BX' 0)<|J (gn 11)<|J (lenA 0 0)<|fun hl1=>bdE hr fun q1 hqq1 hr=>q0b hqq1 hl1 1 (fun k1 _=>[(1,.pb 0 0),(8,rw3 m a0.ss_),(9,dI (a0.ss_.length:Int)),(10,dI (k1:Int))]) (fun k1 _=>[]) I (fun k1 xk1 sk1 ok1 hxk1 hr hltk1 hik1=>?_) fun k1 sk1 ek1 hltk1=>?_
 refine J g<|J (NV' 1)<|bdE hr fun y1 hy1 hr=>J g<|J (CB' [] [] (j0P (m:=m) hy1))<|fE 1 hr ?_ ?_<;>intro h1 hr
 refine ggE hr fun g1 hr=>J g<|J (SLH' (Dpz _) g1)<|bdE hr fun y2 hy2 hr=>J g<|J (CB' [(0,1)] [] (q9C (m:=m) (m2:=m) hy2))<|fE 2 hr ?_ ?_<;>intro h2 hr
 exact e
 exact e
 exact e
 subst ek1
 refine J (gn 16)<|J (lenT 29)<|fun hl2=>bdE hr fun q2 hqq2 hr=>q0b hqq2 hl2 1 (fun k2 _=>[(1,.pb 0 0),(29,rw5 m a0.rs_),(30,dI (a0.rs_.length:Int)),(31,dI (k2:Int))]) (fun k2 _=>[]) I (fun k2 xk2 sk2 ok2 hxk2 hr hltk2 hik2=>?_) fun k2 sk2 ek2 hltk2=>?_
 refine J g<|J (NV' 1)<|bdE hr fun y3 hy3 hr=>J g<|J (CB' [] [] (j3r (m:=m) hy3))<|fE 1 hr ?_ ?_<;>intro h3 hr
 refine ggE hr fun g2 hr=>J g<|J (SLH' (Dpz _) g2)<|bdE hr fun y4 hy4 hr=>J g<|J (CB' [(0,1)] [] (q9Z (m:=m) (m2:=m) hy4))<|fE 2 hr ?_ ?_<;>intro h4 hr
 exact e
 exact e
 exact e
 subst ek2
 exact e
theorem j1R {a0:At_}{r:Bool}(hr:z1R a0=some r):Okp 213 [At_.x .fz a0] [] (dB r) []:=by
 refine OE Tryz.func213 fun S hS=>?_
 unfold z1R at hr
 refine J g<|J (BX' 0)<|e
theorem q9D {m:Md}{a0:List At_}{r:Int}(hr:q4Q a0=some r):Okp 191 [rw6 m a0,.fn 213 []] [] (dI r) []:=by
 refine OE Tryz.func191 fun S hS=>?_
 unfold q4Q at hr
 refine J (gn 12)<|J (lenT 0)<|fun hl1=>bdE hr fun q1 hqq1 hr=>q0b hqq1 hl1 0 (fun k1 _=>[(0,rw6 m a0),(1,.fn 213 []),(7,dI (a0.length:Int)),(8,dI (k1:Int))]) (fun k1 _=>[]) I (fun k1 xk1 sk1 ok1 hxk1 hr hltk1 hik1=>?_) fun k1 sk1 ek1 hltk1=>?_
 refine bdE hr fun y1 hy1 hr=>J g<|J (CB' [] [] (j1R hy1))<|fE 1 hr ?_ ?_<;>intro h1 hr
 exact e
 exact e
 subst ek1
 exact e
theorem q8S {m:Md}{a0:List At_}{r:Bool}(hr:q4B a0=some r):Okp 165 [rw6 m a0,.fn 213 []] [] (dB r) []:=by
 refine OE Tryz.func165 fun S hS=>?_
 unfold q4B at hr
 refine bdE hr fun y1 hy1 hr=>J g<|J (CB' [] [] (q9D (m:=m) hy1))<|e
theorem z0u {m:Md}{a0:Rule}{a1:Int}{r:BA_}(hr:q7r a0 a1=some r):Okp 71 [Rule.x m a0,dI a1] [] (dS r) []:=by
 refine OE Tryz.func71 fun S hS=>?_
 unfold q7r at hr
 refine J g<|J (BX' 0)<|fE 10 hr ?_ ?_<;>intro h1 hr
 exact e
 refine bdE hr fun y1 hy1 hr=>J g<|J (CB' [] [] (q4J hy1))<|fE 2 hr ?_ ?_<;>intro h2 hr
 refine ggE hr fun g1 hr=>ggE hr fun g2 hr=>bdE hr fun x1 hx1 hr=>e
 exact e
theorem q9Y {m:Md}{a0:Gm_}{a1:BA_}{r:(Symbol×Bool)}(hr:q6n a0 a1=some r):Okp 83 [Gm_.y m a0,dS a1] [] (.tu [Symbol.x m r.1,dB r.2]) []:=by
 refine OE Tryz.func83 fun S hS=>?_
 unfold q6n at hr
 refine J g<|J (BX' 0)<|J (NV' 1)<|J (gn 11)<|J (lenA 0 0)<|fun hl1=>bdE hr fun q1 hqq1 hr=>q0b hqq1 hl1 2 (fun k1 _=>[(1,dS a1),(4,.pb 1 0),(9,rw3 m a0.ss_),(10,dI (a0.ss_.length:Int)),(11,dI (k1:Int))]) (fun k1 _=>[]) I (fun k1 xk1 sk1 ok1 hxk1 hr hltk1 hik1=>?_) fun k1 sk1 ek1 hltk1=>?_
 refine J g<|J (NV' 2)<|fE 9 hr ?_ ?_<;>intro h1 hr
 exact e
 exact e
 subst ek1
 refine J (gn 14) ?_
 cases hr
 exact endA.ren [] 0 (.inr rfl) hS rfl rfl rfl (.tu (.cons (.ag (.cons .rfl (.cons .nld .nil))) (.cons .rfl .nil))) rfl rfl
theorem j9p {m:Md}{a0:Gm_}{a1:Rule}{r:Bool}(hr:z5R a0 a1=some r):Okp 214 [Gm_.y m a0,Rule.x m a1] [] (dB r) []:=by
 refine OE Tryz.func214 fun S hS=>?_
 unfold z5R at hr
 refine J g<|J (BX' 0)<|J (BX' 1)<|ggE hr fun g1 hr=>J (gn 12)<|J (rngT 11)<|fun hl1=>bdE hr fun q1 hqq1 hr=>q0y hqq1 2 (fun k1 _=>[(2,.pb 0 0),(3,.pb 1 0),(11,dI ((a1.rt_.length+1:Nat):Int)),(12,dI (k1:Int))]) (fun k1 _=>[]) I (fun k1 sk1 ok1 hr hltk1 hik1=>?_) fun sk1 ek1=>?_
 refine bdE hr fun y1 hy1 hr=>J g<|J (CB' [] [] (z0u (m:=m) hy1))<|bdP hr fun y2 y3 hq2 hr=>J (CB' [] [] (q9Y (m:=m) hq2))<|J g<|J (NV' 2)<|fE 8 hr ?_ ?_<;>intro h1 hr
 exact e
 exact e
 subst ek1
 exact e
theorem z7Q {m:Md}{a0:Gm_}{a1:Rule}{r:List Oc}(hr:z0n a0 a1=some r):Okp 84 [Gm_.y m a0,Rule.x m a1] [] (.ref 0 none) [.row .fz 2 (r.map Oc.D)]:=by
 refine OE Tryz.func84 fun S hS=>?_
 unfold z0n at hr
 refine J g<|J (BX' 0)<|J (BX' 1)<|J g<|J (L0' 2 Oc.D)<|ggE hr fun g1 hr=>J (gn 12)<|J (rngT 16)<|fun hl1=>bdE hr fun s1 hqq1 hr=>q0l hqq1 3 (fun k1 s1=>[(2,.pb 0 0),(3,.pb 1 0),(5,.ref 2 none),(16,dI ((a1.rt_.length+1:Nat):Int)),(17,dI (k1:Int))]) (fun k1 s1=>[(2,.row .fz 2 (s1.map Oc.D))]) I (fun k1 sk1 ok1 hr hltk1=>?_) ?_
 obtain⟨s1,rfl⟩:∃ y,y=sk1:=⟨_,rfl⟩
 refine bdE hr fun s2 hqq2 hr=>J (gn 24)<|q0d 3 [(2,.pb 0 0),(3,.pb 1 0),(5,.ref 2 none),(6,dI (k1:Int)),(7,dI s2),(16,dI ((a1.rt_.length+1:Nat):Int)),(17,dI (k1:Int))] [] ?_ ?_
 replace hr:=hqq2
 refine ifE hr ?_ ?_<;>intro h1 hr
 exact e
 exact e
 refine bdE hr fun y1 hy1 hr=>J g<|J (CB' [] [] (z0u (m:=m) hy1))<|bdP hr fun y2 y3 hq3 hr=>J (CB' [] [] (q9Y (m:=m) hq3))<|J g<|J (NV' 3)<|J (gn 11) ?_
 refine AW.len (.ag 1 (.tu 0 (.tmp 22 rfl) rfl) rfl) fun hl2=>?_
 refine bdE hr fun s3 hqq4 hr=>q0e hqq4 hl2 4 (fun k2 s3=>[(2,.pb 0 0),(3,.pb 1 0),(5,.ref 2 none),(6,dI (k1:Int)),(7,dI s2),(16,dI ((a1.rt_.length+1:Nat):Int)),(17,dI (k1:Int)),(31,rw6 m y2.as_),(32,dI (y2.as_.length:Int)),(33,dI (k2:Int))]) (fun k2 s3=>[(2,.row .fz 2 (s3.map Oc.D))]) I (fun k2 xk2 sk2 ok2 hxk2 hr hltk2=>?_) fun k2 hltk2=>?_
 obtain⟨s3,rfl⟩:∃ y,y=sk2:=⟨_,rfl⟩
 refine bdE hr fun s4 hqq5 hr=>J (gn 8)<|q0d 4 [(2,.pb 0 0),(3,.pb 1 0),(5,.ref 2 none),(6,dI (k1:Int)),(7,dI s2),(16,dI ((a1.rt_.length+1:Nat):Int)),(17,dI (k1:Int)),(31,rw6 m y2.as_),(32,dI (y2.as_.length:Int)),(33,dI (k2:Int))] [(2,.row .fz 2 (s4.map Oc.D))] ?_ ?_
 replace hr:=hqq5
 refine J g<|J (NV' 4)<|fE 9 hr ?_ ?_<;>intro h2 hr
 refine J g<|J (LIR' 5 (m:=.fz) (f:=Oc.D) (xs:=[(⟨(k1:Int),xk2.Name⟩:Oc)]))<|ggE hr fun g2 hr=>J (z1D (f:=Oc.D) 6 (fun _=>rfl) 24 g2)<|e
 exact e
 exact e
 exact e
 exact e
theorem j3s {m:Md}{a0:Eqn}{a1:Oc}{r:Bool}(hr:z3c a0 a1=some r):Okp 255 [Eqn.x m a0,.pb 0 0] [.box [dI a1.Pos,dS a1.Name]] (dB r) [.box [dI a1.Pos,dS a1.Name]]:=by
 refine OE Tryz.func255 fun S hS=>?_
 unfold z3c at hr
 refine J g<|J (BX' 1)<|J g ?_
 refine J (SQ' rfl rfl rfl rfl (q6B a0.At a1))<|J g<|E
theorem z0a {m:Md}{a0:List Eqn}{a1_0:Oc}{r:Int}(hr:q5a a0 a1_0=some r):Okp 277 [rw8 m a0,.fn 255 [.pb 0 0]] [.box [dI a1_0.Pos,dS a1_0.Name]] (dI r) [.box [dI a1_0.Pos,dS a1_0.Name]]:=by
 refine OE Tryz.func277 fun S hS=>?_
 unfold q5a at hr
 refine J (gn 12)<|J (lenT 0)<|fun hl1=>bdE hr fun q1 hqq1 hr=>q0b hqq1 hl1 1 (fun k1 _=>[(0,rw8 m a0),(1,.fn 255 [.pb 0 0]),(7,dI (a0.length:Int)),(8,dI (k1:Int))]) (fun k1 _=>[]) I (fun k1 xk1 sk1 ok1 hxk1 hr hltk1 hik1=>?_) fun k1 sk1 ek1 hltk1=>?_
 refine bdE hr fun y1 hy1 hr=>J g<|J (CB' [(0,0)] [] (j3s (m:=m) hy1))<|fE 1 hr ?_ ?_<;>intro h1 hr
 exact e
 exact e
 subst ek1
 exact e
theorem q9o {m:Md}{a0:List Eqn}{a1_0:Oc}{r:Bool}(hr:q4L a0 a1_0=some r):Okp 254 [rw8 m a0,.fn 255 [.pb 0 0]] [.box [dI a1_0.Pos,dS a1_0.Name]] (dB r) [.box [dI a1_0.Pos,dS a1_0.Name]]:=by
 refine OE Tryz.func254 fun S hS=>?_
 unfold q4L at hr
 refine bdE hr fun y1 hy1 hr=>J g<|J (CB' [(0,0)] [] (z0a (m:=m) hy1))<|e
theorem j6h {m2:Md}{a0:Oc}{a1:Rule}{r:Bool}(hr:z5h a0 a1=some r):Okp 253 [Oc.x .fz a0,.pb 0 0] [bx1 m2 m2 m2 a1] (dB r) [bx1 m2 m2 m2 a1]:=by
 refine OE Tryz.func253 fun S hS=>?_
 unfold z5h at hr
 refine J g<|J (BX' 1)<|bdE hr fun y1 hy1 hr=>J g<|J (CB' [(0,1)] [] (q9o (m:=m2) hy1))<|e
theorem z0b {m2:Md}{a0:List Oc}{a1_0:Rule}{r:Int}(hr:q5b a0 a1_0=some r):Okp 142 [.ref 1 none,.fn 253 [.pb 0 0]] [bx1 m2 m2 m2 a1_0,.row .fz 2 (a0.map Oc.D)] (dI r) [bx1 m2 m2 m2 a1_0,.row .fz 2 (a0.map Oc.D)]:=by
 refine OE Tryz.func142 fun S hS=>?_
 unfold q5b at hr
 refine J (gn 12)<|J (lenR 1)<|fun hl1=>bdE hr fun q1 hqq1 hr=>q0b hqq1 hl1 2 (fun k1 _=>[(0,.ref 1 none),(1,.fn 253 [.pb 0 0]),(7,dI (a0.length:Int)),(8,dI (k1:Int))]) (fun k1 _=>[]) I (fun k1 xk1 sk1 ok1 hxk1 hr hltk1 hik1=>?_) fun k1 sk1 ek1 hltk1=>?_
 refine bdE hr fun y1 hy1 hr=>J g<|J (CB' [(0,0)] [] (j6h (m2:=m2) hy1))<|fE 1 hr ?_ ?_<;>intro h1 hr
 exact e
 exact e
 subst ek1
 exact e
theorem q9p {m2:Md}{a0:List Oc}{a1_0:Rule}{r:Bool}(hr:q4M a0 a1_0=some r):Okp 92 [.ref 1 none,.fn 253 [.pb 0 0]] [bx1 m2 m2 m2 a1_0,.row .fz 2 (a0.map Oc.D)] (dB r) [bx1 m2 m2 m2 a1_0,.row .fz 2 (a0.map Oc.D)]:=by
 refine OE Tryz.func92 fun S hS=>?_
 unfold q4M at hr
 refine bdE hr fun y1 hy1 hr=>J g<|J (CB' [(0,0),(1,1)] [] (z0b (m2:=m2) hy1))<|e
theorem j9q {m:Md}{a0:Gm_}{a1:Rule}{r:Bool}(hr:z5S a0 a1=some r):Okp 215 [Gm_.y m a0,Rule.x m a1] [] (dB r) []:=by
 refine OE Tryz.func215 fun S hS=>?_
 unfold z5S at hr
 refine J g<|J (BX' 0)<|J (BX' 1)<|bdE hr fun y1 hy1 hr=>J g<|J (CB' [(0,2)] [] (z7Q (m:=m) hy1))<|bdE hr fun y2 hy2 hr=>J g<|J (CB' [(0,1),(1,2)] [] (q9p (m2:=m) hy2))<|e
theorem z0I {m:Md}{a0:List Oc}{a1:Oc}{r:Int}(hr:q4d a0 a1=some r):Okp 141 [rw4 m a0,Oc.x .fz a1] [] (dI r) []:=by
 refine OE Tryz.func141 fun S hS=>?_
 unfold q4d at hr
 refine J g<|J (BX' 0)<|J (gn 10)<|J (lenT 0)<|fun hl1=>bdE hr fun q1 hqq1 hr=>q0b hqq1 hl1 1 (fun k1 _=>[(0,rw4 m a0),(3,.pb 0 0),(7,dI (a0.length:Int)),(8,dI (k1:Int))]) (fun k1 _=>[]) I (fun k1 xk1 sk1 ok1 hxk1 hr hltk1 hik1=>?_) fun k1 sk1 ek1 hltk1=>?_
 refine J g ?_
 refine J (SQ' rfl rfl rfl rfl (q6B a1 xk1))<|fE 1 hr ?_ ?_<;>intro h1 hr
 exact e
 exact e
 subst ek1
 exact e
theorem q5g {m:Md}{a0:List Oc}{a1:Oc}{r:Bool}(hr:q3U a0 a1=some r):Okp 91 [rw4 m a0,Oc.x .fz a1] [] (dB r) []:=by
 refine OE Tryz.func91 fun S hS=>?_
 unfold q3U at hr
 refine J g<|J (BX' 0)<|bdE hr fun y1 hy1 hr=>J g<|J (CB' [] [] (z0I (m:=m) hy1))<|e
theorem j9r {m m2:Md}{a0 a1:Eqn}{r:Bool}(hr:z8q a0 a1=some r):Okp 256 [Eqn.x m a0,.pb 0 0] [bx6 m2 a1] (dB r) [bx6 m2 a1]:=by
 refine OE Tryz.func256 fun S hS=>?_
 unfold z8q at hr
 refine J g<|J (BX' 1)<|J g ?_
 refine J (SQ' rfl rfl rfl rfl (q6B a0.At a1.At))<|J g<|E
theorem z0O {m m2:Md}{a0:List Eqn}{a1_0:Eqn}{r:Int}(hr:q5w a0 a1_0=some r):Okp 277 [rw8 m a0,.fn 256 [.pb 0 0]] [bx6 m2 a1_0] (dI r) [bx6 m2 a1_0]:=by
 refine OE Tryz.func277 fun S hS=>?_
 unfold q5w at hr
 refine J (gn 12)<|J (lenT 0)<|fun hl1=>bdE hr fun q1 hqq1 hr=>q0b hqq1 hl1 1 (fun k1 _=>[(0,rw8 m a0),(1,.fn 256 [.pb 0 0]),(7,dI (a0.length:Int)),(8,dI (k1:Int))]) (fun k1 _=>[]) I (fun k1 xk1 sk1 ok1 hxk1 hr hltk1 hik1=>?_) fun k1 sk1 ek1 hltk1=>?_
 refine bdE hr fun y1 hy1 hr=>J g<|J (CB' [(0,0)] [] (j9r (m:=m) (m2:=m2) hy1))<|fE 1 hr ?_ ?_<;>intro h1 hr
 exact e
 exact e
 subst ek1
 exact e
theorem z0i {m m2:Md}{a0:List Eqn}{a1_0:Eqn}{r:Bool}(hr:q5i a0 a1_0=some r):Okp 254 [rw8 m a0,.fn 256 [.pb 0 0]] [bx6 m2 a1_0] (dB r) [bx6 m2 a1_0]:=by
 refine OE Tryz.func254 fun S hS=>?_
 unfold q5i at hr
 refine bdE hr fun y1 hy1 hr=>J g<|J (CB' [(0,0)] [] (z0O (m:=m) (m2:=m2) hy1))<|e
theorem k3j {m:Md}{a0:Gm_}{a1:Rule}{r:Bool}(hr:z9N a0 a1=some r):Okp 216 [Gm_.y m a0,Rule.x m a1] [] (dB r) []:=by
 refine OE Tryz.func216 fun S hS=>?_
 unfold z9N at hr
 refine J g<|J (BX' 0)<|J (BX' 1)<|bdE hr fun y1 hy1 hr=>J g<|J (CB' [(0,2)] [] (z7Q (m:=m) hy1))<|J (gn 11)<|J (lenA 4 1)<|fun hl1=>bdE hr fun q1 hqq1 hr=>q0b hqq1 hl1 3 (fun k1 _=>[(3,.pb 1 0),(5,.ref 2 none),(12,rw8 m a1.es_),(13,dI (a1.es_.length:Int)),(14,dI (k1:Int))]) (fun k1 _=>[]) I (fun k1 xk1 sk1 ok1 hxk1 hr hltk1 hik1=>?_) fun k1 sk1 ek1 hltk1=>?_
 refine J g<|J (NV' 3)<|bdE hr fun y2 hy2 hr=>J g<|J (CB' [] [2] (q5g (m:=.bo) hy2))<|fE 1 hr ?_ ?_<;>intro h1 hr
 refine ggE hr fun g1 hr=>J g<|J (SLH' (Dpz _) g1)<|bdE hr fun y3 hy3 hr=>J g<|J (CB' [(0,3)] [] (z0i (m:=m) (m2:=m) hy3))<|fE 2 hr ?_ ?_<;>intro h2 hr
 exact e
 exact e
 exact e
 subst ek1
 exact e
theorem z7R {m:Md}{a0:Rule}{r:List Expr}(hr:q9V a0=some r):Okp 161 [Rule.x m a0] [] (.ref 0 none) [.row m 7 (r.map Expr.D)]:=by
 refine OE Tryz.func161 fun S hS=>?_
 unfold q9V at hr
 refine J g<|J (BX' 0)<|J g<|J (L0' 1 Expr.D)<|J (gn 11)<|J (lenA 4 0)<|fun hl1=>bdE hr fun s1 hqq1 hr=>?_
 refine q0e hqq1 hl1 2 (fun k1 s1=>[(1,.pb 0 0),(3,.ref 1 none),(10,rw8 m a0.es_),(11,dI (a0.es_.length:Int)),(12,dI (k1:Int))]) (fun k1 s1=>[(1,.row m 7 (s1.map Expr.D))]) (GH.trans (q3J (r:=1) m rfl) I) (fun k1 xk1 sk1 ok1 hxk1 hr hltk1=>?_) fun k1 hltk1=>?_
 obtain⟨s1,rfl⟩:∃ y,y=sk1:=⟨_,rfl⟩
 refine J g<|J (NV' 2)<|J g ?_
 refine J (k7F 3 (m:=m) (f:=Expr.D) [xk1.Expr] (by simp only[List.map_cons,List.map_nil,Expr.D_eq];rfl))<|ggE hr fun g1 hr=>J (AP1' 4 m 88 g1)<|J g<|E
 refine J (gn 16)<|J (lenT 23)<|fun hl2=>bdE hr fun s2 hqq2 hr=>q0e hqq2 hl2 2 (fun k2 s2=>[(3,.ref 1 none),(23,rw9 m a0.cs_),(24,dI (a0.cs_.length:Int)),(25,dI (k2:Int))]) (fun k2 s2=>[(1,.row m 7 (s2.map Expr.D))]) I (fun k2 xk2 sk2 ok2 hxk2 hr hltk2=>?_) fun k2 hltk2=>?_
 obtain⟨s2,rfl⟩:∃ y,y=sk2:=⟨_,rfl⟩
 refine J g<|J (NV' 2)<|J g ?_
 refine J (k7F 3 (m:=m) (f:=Expr.D) [xk2.Target,xk2.Value] (by simp only[List.map_cons,List.map_nil,Expr.D_eq];rfl))<|ggE hr fun g2 hr=>J (APB' 4 m 88 g2)<|J g<|E
 exact e
theorem z9h {m:Md}{a0:Expr}{o0:List Oc}{r:(Bool×(List Oc))}(hr:q8F a0 o0=some r):Okp 168 [Expr.x m a0,.pb 0 0] [.box [.ref 1 none],.row .fz 2 (o0.map Oc.D)] (dB r.1) [.box [.ref 2 none],.dead,.row .fz 2 (r.2.map Oc.D)]:=by
 refine OE Tryz.func168 fun S hS=>?_
 unfold q8F at hr
 refine J g<|J (BX' 2)<|fE 9 hr ?_ ?_<;>intro h1 hr
 refine J g<|J (LIR' 3 (m:=.fz) (f:=Oc.D) (xs:=[(⟨a0.Pos,a0.Name⟩:Oc)]))<|ggE hr fun g1 hr=>J (z1D (f:=Oc.D) 4 (fun _=>rfl) 24 g1)<|e
 refine J (gn 7) ?_
 refine J (q0c (q0G (i:=1) (j:=3) rfl rfl))<|J g<|E
theorem z2o {Rc10:Expr→(List Oc)→Option (Bool×(List Oc))}(Ic10:∀ {m:Md} {a0:Expr} {o0:List Oc} {r:(Bool×(List Oc))},Rc10 a0 o0=some r→Okp 167 [Expr.x m a0,.fn 168 [.pb 0 0]] [.box [.ref 1 none],.row .fz 2 (o0.map Oc.D)] (dB r.1) [.box [.ref 2 none],.dead,.row .fz 2 (r.2.map Oc.D)]){m:Md}{a0:Expr}{o0:List Oc}{r:(Bool×(List Oc))}(hr:q6b Rc10 a0 o0=some r):Okp 192 [Expr.x m a0,.pb 1 0] [.box [.ref 2 none],.box [.fn 168 [.pb 0 0]],.row .fz 2 (o0.map Oc.D)] (dB r.1) [.box [.ref 3 none],.box [.fn 168 [.pb 0 0]],.dead,.row .fz 2 (r.2.map Oc.D)]:=by
 refine OE Tryz.func192 fun S hS=>?_
 unfold q6b at hr
 refine J g<|J (BX' 3)<|bdP hr fun y1 z1 hq1 hr=>J g<|J (CB' [(0,0),(1,2),(2,4)] [] (Ic10 (m:=m) hq1))<|e
theorem q7J {Rc10:Expr→(List Oc)→Option (Bool×(List Oc))}(Ic10:∀ {m:Md} {a0:Expr} {o0:List Oc} {r:(Bool×(List Oc))},Rc10 a0 o0=some r→Okp 167 [Expr.x m a0,.fn 168 [.pb 0 0]] [.box [.ref 1 none],.row .fz 2 (o0.map Oc.D)] (dB r.1) [.box [.ref 2 none],.dead,.row .fz 2 (r.2.map Oc.D)]){m:Md}{a0:List Expr}{o0:List Oc}{r:(Int×(List Oc))}(hr:q4g Rc10 a0 o0=some r):Okp 189 [rw7 m a0,.fn 192 [.pb 1 0]] [.box [.ref 2 none],.box [.fn 168 [.pb 0 0]],.row .fz 2 (o0.map Oc.D)] (dI r.1) [.box [.ref 3 none],.box [.fn 168 [.pb 0 0]],.dead,.row .fz 2 (r.2.map Oc.D)]:=by
 refine OE Tryz.func189 fun S hS=>?_
 unfold q4g at hr
 refine J (gn 12) ?_
 refine J (q0P 2 3 rfl)<|J (lenT 0)<|fun hl1=>bdE hr fun q1 hqq1 hr=>q0b hqq1 hl1 4 (fun k1 s1=>[(0,rw7 m a0),(1,.fn 192 [.pb 1 0]),(7,dI (a0.length:Int)),(8,dI (k1:Int))]) (fun k1 s1=>[(3,.row .fz 2 (s1.map Oc.D))]) I (fun k1 xk1 sk1 ok1 hxk1 hr hltk1 hik1=>?_) fun k1 sk1 ek1 hltk1=>?_
 obtain⟨s1,rfl⟩:∃ y,y=sk1:=⟨_,rfl⟩
 refine bdP hr fun y1 z1 hq2 hr=>J g<|J (CB' [(0,0),(1,1),(2,3),(3,4)] [] (z2o Ic10 (m:=m) hq2))<|fE 1 hr ?_ ?_<;>intro h1 hr
 exact e
 exact e
 subst ek1
 obtain⟨s1,rfl⟩:∃ y,y=sk1:=⟨_,rfl⟩
 exact e
theorem q7i {Rc10:Expr→(List Oc)→Option (Bool×(List Oc))}(Ic10:∀ {m:Md} {a0:Expr} {o0:List Oc} {r:(Bool×(List Oc))},Rc10 a0 o0=some r→Okp 167 [Expr.x m a0,.fn 168 [.pb 0 0]] [.box [.ref 1 none],.row .fz 2 (o0.map Oc.D)] (dB r.1) [.box [.ref 2 none],.dead,.row .fz 2 (r.2.map Oc.D)]){m:Md}{a0:List Expr}{o0:List Oc}{r:(Bool×(List Oc))}(hr:q4b Rc10 a0 o0=some r):Okp 160 [rw7 m a0,.fn 192 [.pb 1 0]] [.box [.ref 2 none],.box [.fn 168 [.pb 0 0]],.row .fz 2 (o0.map Oc.D)] (dB r.1) [.box [.ref 3 none],.box [.fn 168 [.pb 0 0]],.dead,.row .fz 2 (r.2.map Oc.D)]:=by
 refine OE Tryz.func160 fun S hS=>?_
 unfold q4b at hr
 refine bdP hr fun y1 z1 hq1 hr=>J g<|J (CB' [(0,0),(1,1),(2,2),(3,3)] [] (q7J Ic10 (m:=m) hq1))<|e
theorem z2K {Rc10:Expr→(List Oc)→Option (Bool×(List Oc))}(Ic10:∀ {m:Md} {a0:Expr} {o0:List Oc} {r:(Bool×(List Oc))},Rc10 a0 o0=some r→Okp 167 [Expr.x m a0,.fn 168 [.pb 0 0]] [.box [.ref 1 none],.row .fz 2 (o0.map Oc.D)] (dB r.1) [.box [.ref 2 none],.dead,.row .fz 2 (r.2.map Oc.D)]){m:Md}{a0:Expr}{o0:List Oc}{r:(Bool×(List Oc))}(hr:q5z Rc10 a0 o0=some r):Okp 167 [Expr.x m a0,.fn 168 [.pb 0 0]] [.box [.ref 1 none],.row .fz 2 (o0.map Oc.D)] (dB r.1) [.box [.ref 2 none],.dead,.row .fz 2 (r.2.map Oc.D)]:=by
 refine OE Tryz.func167 fun S hS=>?_
 unfold q5z at hr
 refine J g<|J (BX' 2)<|J (BX' 3)<|bdP hr fun y1 z1 hq1 hr=>J g<|J (CB' [(0,0),(1,1),(2,4)] [] (z9h (m:=m) hq1))<|ifE hr ?_ ?_<;>intro h1 hr
 refine bdP hr fun y2 z2 hq2 hr=>J g<|J (CB' [(0,0),(1,3),(2,4),(3,5)] [] (q7i Ic10 (m:=m) hq2))<|e
 exact e
theorem z2L (n:Nat):∀ {m:Md} {a0:Expr} {o0:List Oc} {r:(Bool×(List Oc))},q5f n a0 o0=some r→Okp 167 [Expr.x m a0,.fn 168 [.pb 0 0]] [.box [.ref 1 none],.row .fz 2 (o0.map Oc.D)] (dB r.1) [.box [.ref 2 none],.dead,.row .fz 2 (r.2.map Oc.D)]:=by
  induction n with
  | zero=>intro _ _ _ r hr;exact nomatch (show (none:Option (Bool×(List Oc)))=some r from hr)
  | succ n ih=>intro _ _ _ r hr;exact z2K ih hr
theorem z3D {m:Md}{a0:Expr}{o0:List Oc}{r:(Bool×(List Oc))}(hr:q7s a0 o0=some r):Okp 167 [Expr.x m a0,.fn 168 [.pb 0 0]] [.box [.ref 1 none],.row .fz 2 (o0.map Oc.D)] (dB r.1) [.box [.ref 2 none],.dead,.row .fz 2 (r.2.map Oc.D)]:=by
 obtain⟨n,hn⟩:=q6R hr
 exact z2L n hn
theorem z3L {a0 r:List Oc}(hr:q6A a0=some r):Okp 169 [.ref 0 none,.fn 170 []] [.row .fz 2 (a0.map Oc.D)] (.tu []) [.row .fz 2 (r.map Oc.D)]:=by
 unfold q6A at hr
 refine ggE hr fun g1 hr=>?_
 cases hr
 exact k5y g1
end Go.Proofs.YtgkepiefcpfimaaGreatDoor
