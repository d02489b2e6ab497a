/- What some functions of the program compute, as partial functions on plain data, and that they do; each lemma bears its conditions in its statement. -/
import Derived.Test.YtppbkkcekpbaiaaGreatDef
set_option linter.unusedVariables false
set_option linter.unusedSimpArgs false
set_option linter.ambiguousOpen false
set_option linter.unusedSectionVars false
set_option linter.unnecessarySimpa false
set_option maxRecDepth 100000
set_option maxHeartbeats 40000000
noncomputable section
namespace Go.Proofs.YtppbkkcekpbaiaaGreat
open Go Go.E Go.A
theorem q5v {a0:Int}{a1:Int}{a2:Int}{r:Bool}(hr:q4b a0 a1 a2=some r):Ok Tryz.prog 64 [dI a0,dI a1,dI a2] [] (dB r) []:=by
 refine OE Tryz.func64 fun S hS=>?_
 unfold q4b at hr
 refine J (gn 9)<|ifE hr ?_ ?_<;>intro h1 hr
 exact e
 exact e
theorem j2x {a0:UInt8}{r:Bool}(hr:z3Q a0=some r):Ok Tryz.prog 276 [.d .fz (.i .u8 (a0.toNat:Int))] [] (dB r) []:=by
 refine OE Tryz.func276 fun S hS=>?_
 unfold z3Q at hr
 refine J (gn 8)<|ifE hr ?_ ?_<;>intro h1 hr
 exact e
 exact e
theorem j8o {a0:UInt8}{r:Bool}(hr:z5x a0=some r):Ok Tryz.prog 277 [.d .fz (.i .u8 (a0.toNat:Int))] [] (dB r) []:=by
 refine OE Tryz.func277 fun S hS=>?_
 unfold z5x at hr
 refine J (gn 8)<|ifE hr ?_ ?_<;>intro h1 hr
 exact e
 exact e
theorem j3I {a0:ByteArray}{r:Bool}(hr:z1v a0=some r):Ok Tryz.prog 278 [dS a0] [] (dB r) []:=by
 refine OE Tryz.func278 fun S hS=>?_
 unfold z1v at hr
 refine J (gn 16)<|ifE hr ?_ ?_<;>intro h1 hr
 refine J (gn 2)<|ifE hr ?_ ?_<;>intro h2 hr
 exact e
 exact e
 refine J (gn 6)<|ifE hr ?_ ?_<;>intro h3 hr
 refine J (gn 2)<|ifE hr ?_ ?_<;>intro h4 hr
 exact e
 exact e
 refine J (gn 6)<|ifE hr ?_ ?_<;>intro h5 hr
 refine J (gn 2)<|ifE hr ?_ ?_<;>intro h6 hr
 exact e
 exact e
 refine J (gn 6)<|ifE hr ?_ ?_<;>intro h7 hr
 refine J (gn 2)<|ifE hr ?_ ?_<;>intro h8 hr
 exact e
 exact e
 refine J (gn 6)<|ifE hr ?_ ?_<;>intro h9 hr
 refine J (gn 2)<|ifE hr ?_ ?_<;>intro h10 hr
 exact e
 exact e
 refine J (gn 6)<|ifE hr ?_ ?_<;>intro h11 hr
 refine J (gn 2)<|ifE hr ?_ ?_<;>intro h12 hr
 exact e
 exact e
 refine J (gn 6)<|ifE hr ?_ ?_<;>intro h13 hr
 refine J (gn 2)<|ifE hr ?_ ?_<;>intro h14 hr
 exact e
 exact e
 refine J (gn 6)<|ifE hr ?_ ?_<;>intro h15 hr
 refine J (gn 2)<|ifE hr ?_ ?_<;>intro h16 hr
 exact e
 exact e
 refine J (gn 6)<|ifE hr ?_ ?_<;>intro h17 hr
 refine J (gn 2)<|ifE hr ?_ ?_<;>intro h18 hr
 exact e
 exact e
 refine J (gn 6)<|ifE hr ?_ ?_<;>intro h19 hr
 refine J (gn 2)<|ifE hr ?_ ?_<;>intro h20 hr
 exact e
 exact e
 refine J (gn 6)<|ifE hr ?_ ?_<;>intro h21 hr
 refine J (gn 2)<|ifE hr ?_ ?_<;>intro h22 hr
 exact e
 exact e
 refine J (gn 6)<|ifE hr ?_ ?_<;>intro h23 hr
 refine J (gn 2)<|ifE hr ?_ ?_<;>intro h24 hr
 exact e
 exact e
 refine J (gn 5)<|ifE hr ?_ ?_<;>intro h25 hr
 exact e
 exact e
theorem q5L {a0:ByteArray}{r:Bool}(hr:q4L a0=some r):Ok Tryz.prog 260 [dS a0] [] (dB r) []:=by
 refine OE Tryz.func260 fun S hS=>?_
 unfold q4L at hr
 refine J g<|J LS'<|J (gn 3)<|J (rngT 5)<|fun hl1=>bdE hr fun q1 hqq1 hr=>q0w hqq1 0 (fun k1 _=>[(0,dS a0),(5,dI (a0.size:Int)),(6,dI (k1:Int))]) (fun k1 _=>[]) I (fun k1 sk1 ok1 hr hltk1 hik1=>?_) fun sk1 ek1=>?_
 refine bdE hr fun x1 hx1 hr=>J g ?_
 refine J (SI' rfl rfl (Int.natCast_nonneg _) hx1)<|bdE hr fun y1 hy1 hr=>J (CB' [] [] (j2x hy1))<|J (gn 1)<|ifE hr ?_ ?_<;>intro h1 hr
 exact e
 refine J g ?_
 refine J (SI' rfl rfl (Int.natCast_nonneg _) hx1)<|bdE hr fun y2 hy2 hr=>J (CB' [] [] (j8o hy2))<|J (gn 3)<|ifE hr ?_ ?_<;>intro h2 hr
 exact e
 exact e
 subst ek1
 refine J g<|J LS'<|bdE hr fun y3 hy3 hr=>J (CB' [] [] (q5v hy3))<|bdE hr fun s1 hqq2 hr=>q0a 5 [(0,dS a0),(29,dB s1)] ?_ ?_
 replace hr:=hqq2
 refine ifE hr ?_ ?_<;>intro h3 hr
 refine bdE hr fun x2 hx2 hr=>J g ?_
 refine J (SI' rfl rfl (Int.natCast_nonneg _) hx2)<|bdE hr fun y4 hy4 hr=>J (CB' [] [] (j2x hy4))<|J g<|E
 exact e
 refine bdE hr fun s2 hqq3 hr=>q0a 5 [(34,dB s2)] ?_ ?_
 replace hr:=hqq3
 refine ifE hr ?_ ?_<;>intro h4 hr
 refine bdE hr fun y5 hy5 hr=>J g<|J (CB' [] [] (j3I hy5))<|e
 exact e
 exact e
theorem j4k {a0:Int}{r:Bool}(hr:z5y a0=some r):Ok Tryz.prog 275 [dI a0] [] (dB r) []:=by
 refine OE Tryz.func275 fun S hS=>?_
 unfold z5y at hr
 refine bdE hr fun y1 hy1 hr=>J g<|J (CB' [] [] (q5v hy1))<|e
theorem z8h {a0:At_}{r:Bool}(hr:q7U a0=some r):Ok Tryz.prog 258 [At_.x .fz a0] [] (dB r) []:=by
 refine OE Tryz.func258 fun S hS=>?_
 unfold q7U at hr
 refine J g<|J (BX' 0)<|bdE hr fun y1 hy1 hr=>J g<|J (CB' [] [] (q5L hy1))<|bdE hr fun s1 hqq1 hr=>J (gn 1)<|q0a 6 [(1,.pb 0 0),(13,dB s1)] ?_ ?_
 replace hr:=hqq1
 refine ifE hr ?_ ?_<;>intro h1 hr
 refine bdE hr fun y2 hy2 hr=>J g<|J (CB' [] [] (j4k hy2))<|e
 exact e
 refine bdE hr fun s2 hqq2 hr=>q0a 6 [(1,.pb 0 0),(19,dB s2)] ?_ ?_
 replace hr:=hqq2
 refine ifE hr ?_ ?_<;>intro h2 hr
 exact e
 refine bdE hr fun y3 hy3 hr=>J g<|J (CB' [] [] (q5v hy3))<|e
 refine J (gn 2)<|ifE hr ?_ ?_<;>intro h3 hr
 exact e
 refine J (gn 8)<|ifE hr ?_ ?_<;>intro h4 hr
 refine bdE hr fun s3 hqq3 hr=>J (gn 6)<|q0a 5 [(31,dB s3)] ?_ ?_
 replace hr:=hqq3
 refine ifE hr ?_ ?_<;>intro h5 hr
 exact e
 exact e
 exact e
 refine bdE hr fun s4 hqq4 hr=>J (gn 7)<|q0a 5 [(39,dB s4)] ?_ ?_
 replace hr:=hqq4
 refine ifE hr ?_ ?_<;>intro h6 hr
 exact e
 exact e
 exact e
theorem z8C {a0:At_}{a1:At_}{r:Bool}(hr:q9H a0 a1=some r):Ok Tryz.prog 259 [At_.x .fz a0,.pb 0 0] [.box [dS a1.Name,dI a1.Type_,dI a1.Mode,dB a1.Circular]] (dB r) [.box [dS a1.Name,dI a1.Type_,dI a1.Mode,dB a1.Circular]]:=by
 refine OE Tryz.func259 fun S hS=>?_
 unfold q9H at hr
 refine J g<|J (BX' 1)<|e
theorem q8u {m:Md}{a0:(List At_)}{a1_0:At_}{r:Int}(hr:q4p a0 a1_0=some r):Ok Tryz.prog 161 [.d m (.sl 4 (a0.map At_.D)),.fn 259 [.pb 0 0]] [.box [dS a1_0.Name,dI a1_0.Type_,dI a1_0.Mode,dB a1_0.Circular]] (dI r) [.box [dS a1_0.Name,dI a1_0.Type_,dI a1_0.Mode,dB a1_0.Circular]]:=by
 refine OE Tryz.func161 fun S hS=>?_
 unfold q4p at hr
 refine J (gn 12)<|J (lenT 0)<|fun hl1=>bdE hr fun q1 hqq1 hr=>q0b hqq1 hl1 1 (fun k1 _=>[(0,.d m (.sl 4 (a0.map At_.D))),(1,.fn 259 [.pb 0 0]),(7,dI (a0.length:Int)),(8,dI (k1:Int))]) (fun k1 _=>[]) I (fun k1 xk1 sk1 ok1 hxk1 hr hltk1 hik1=>?_) fun k1 sk1 ek1 hltk1=>?_
 refine bdE hr fun y1 hy1 hr=>J g<|J (CB' [(0,0)] [] (z8C hy1))<|J (gn 1)<|ifE hr ?_ ?_<;>intro h1 hr
 exact e
 exact e
 subst ek1
 exact e
theorem q8f {m:Md}{a0:(List At_)}{a1_0:At_}{r:Bool}(hr:q4d a0 a1_0=some r):Ok Tryz.prog 107 [.d m (.sl 4 (a0.map At_.D)),.fn 259 [.pb 0 0]] [.box [dS a1_0.Name,dI a1_0.Type_,dI a1_0.Mode,dB a1_0.Circular]] (dB r) [.box [dS a1_0.Name,dI a1_0.Type_,dI a1_0.Mode,dB a1_0.Circular]]:=by
 refine OE Tryz.func107 fun S hS=>?_
 unfold q4d at hr
 refine bdE hr fun y1 hy1 hr=>J g<|J (CB' [(0,0)] [] (q8u (m:=m) hy1))<|e
theorem z9Y {m:Md}{a0:Symbol}{r:Bool}(hr:q9p a0=some r):Ok Tryz.prog 219 [Symbol.x m a0] [] (dB r) []:=by
 refine OE Tryz.func219 fun S hS=>?_
 unfold q9p at hr
 refine J g<|J (BX' 0)<|J (gn 11)<|J (lenA 1 0)<|fun hl1=>bdE hr fun q1 hqq1 hr=>q0b hqq1 hl1 1 (fun k1 _=>[(1,.pb 0 0),(6,.d m (.sl 4 (a0.Attributes.map At_.D))),(7,dI (a0.Attributes.length:Int)),(8,dI (k1:Int))]) (fun k1 _=>[]) I (fun k1 xk1 sk1 ok1 hxk1 hr hltk1 hik1=>?_) fun k1 sk1 ek1 hltk1=>?_
 refine J g<|J (NV' 1)<|bdE hr fun y1 hy1 hr=>J g<|J (CB' [] [] (z8h hy1))<|J (gn 1)<|ifE hr ?_ ?_<;>intro h1 hr
 refine ggE hr fun g1 hr=>J g<|J (SLH' (Int.natCast_nonneg _) g1)<|bdE hr fun y2 hy2 hr=>J g<|J (CB' [(0,1)] [] (q8f (m:=m) hy2))<|J (gn 2)<|ifE hr ?_ ?_<;>intro h2 hr
 exact e
 exact e
 exact e
 subst ek1
 refine bdE hr fun y3 hy3 hr=>J g<|J (CB' [] [] (q5L hy3))<|bdE hr fun s1 hqq2 hr=>q0a 6 [(33,dB s1)] ?_ ?_
 replace hr:=hqq2
 refine ifE hr ?_ ?_<;>intro h3 hr
 exact e
 exact e
 exact e
theorem j0Z {m:Md}{m2:Md}{a0:Symbol}{a1:Symbol}{r:Bool}(hr:z1w a0 a1=some r):Ok Tryz.prog 220 [Symbol.x m a0,.pb 0 0] [.box [dS a1.Name,.d m2 (.sl 4 (a1.Attributes.map At_.D))]] (dB r) [.box [dS a1.Name,.d m2 (.sl 4 (a1.Attributes.map At_.D))]]:=by
 refine OE Tryz.func220 fun S hS=>?_
 unfold z1w at hr
 refine J g<|J (BX' 1)<|e
theorem q9K {m:Md}{m2:Md}{a0:(List Symbol)}{a1_0:Symbol}{r:Int}(hr:q4T a0 a1_0=some r):Ok Tryz.prog 111 [.d m (.sl 2 (a0.map Symbol.D)),.fn 220 [.pb 0 0]] [.box [dS a1_0.Name,.d m2 (.sl 4 (a1_0.Attributes.map At_.D))]] (dI r) [.box [dS a1_0.Name,.d m2 (.sl 4 (a1_0.Attributes.map At_.D))]]:=by
 refine OE Tryz.func111 fun S hS=>?_
 unfold q4T at hr
 refine J (gn 12)<|J (lenT 0)<|fun hl1=>bdE hr fun q1 hqq1 hr=>q0b hqq1 hl1 1 (fun k1 _=>[(0,.d m (.sl 2 (a0.map Symbol.D))),(1,.fn 220 [.pb 0 0]),(7,dI (a0.length:Int)),(8,dI (k1:Int))]) (fun k1 _=>[]) I (fun k1 xk1 sk1 ok1 hxk1 hr hltk1 hik1=>?_) fun k1 sk1 ek1 hltk1=>?_
 refine bdE hr fun y1 hy1 hr=>J g<|J (CB' [(0,0)] [] (j0Z (m:=m) (m2:=m2) hy1))<|J (gn 1)<|ifE hr ?_ ?_<;>intro h1 hr
 exact e
 exact e
 subst ek1
 exact e
theorem q9e {m:Md}{m2:Md}{a0:(List Symbol)}{a1_0:Symbol}{r:Bool}(hr:q4B a0 a1_0=some r):Ok Tryz.prog 105 [.d m (.sl 2 (a0.map Symbol.D)),.fn 220 [.pb 0 0]] [.box [dS a1_0.Name,.d m2 (.sl 4 (a1_0.Attributes.map At_.D))]] (dB r) [.box [dS a1_0.Name,.d m2 (.sl 4 (a1_0.Attributes.map At_.D))]]:=by
 refine OE Tryz.func105 fun S hS=>?_
 unfold q4B at hr
 refine bdE hr fun y1 hy1 hr=>J g<|J (CB' [(0,0)] [] (q9K (m:=m) (m2:=m2) hy1))<|e
theorem j3J {Rc9:Expr→Option Int}(Ic9:∀ {m:Md} {a0:Expr} {r:Int},Rc9 a0=some r→Ok Tryz.prog 286 [Expr.x m a0] [] (dI r) []){m:Md}{a0:Expr}{r:Int}(hr:z2W Rc9 a0=some r):Ok Tryz.prog 286 [Expr.x m a0] [] (dI r) []:=by
 refine OE Tryz.func286 fun S hS=>?_
 unfold z2W at hr
 refine J g<|J (BX' 0)<|J (gn 15)<|J (lenA 6 0)<|fun hl1=>bdE hr fun s1 hqq1 hr=>q0f hqq1 hl1 1 (fun k1 s1=>[(3,dI s1),(7,.d m (.sl 7 (a0.Args.map Expr.D))),(8,dI (a0.Args.length:Int)),(9,dI (k1:Int))]) (fun k1 s1=>[]) I (fun k1 xk1 sk1 ok1 hxk1 hr hltk1=>?_) fun k1 hltk1=>?_
 obtain⟨s1,rfl⟩:∃ y,y=sk1:=⟨_,rfl⟩
 refine J g<|J (NV' 1)<|bdE hr fun y1 hy1 hr=>J g<|J (CB' [] [] (Ic9 (m:=m) hy1))<|ggE hr fun g1 hr=>e
 exact e
theorem j3K (n:Nat):∀ {m:Md} {a0:Expr} {r:Int},z1f n a0=some r→Ok Tryz.prog 286 [Expr.x m a0] [] (dI r) []:=by
  induction n with
  | zero=>intro _ _ r hr;exact nomatch (show (none:Option Int)=some r from hr)
  | succ n ih=>intro _ _ r hr;exact j3J ih hr
theorem j5l {m:Md}{a0:Expr}{r:Int}(hr:z7l a0=some r):Ok Tryz.prog 286 [Expr.x m a0] [] (dI r) []:=by
 obtain⟨n,hn⟩:=q6U hr
 exact j3K n hn
theorem j1a {Rc10:Expr→Option Int}(Ic10:∀ {m:Md} {a0:Expr} {r:Int},Rc10 a0=some r→Ok Tryz.prog 287 [Expr.x m a0] [] (dI r) []){m:Md}{a0:Expr}{r:Int}(hr:z0z Rc10 a0=some r):Ok Tryz.prog 287 [Expr.x m a0] [] (dI r) []:=by
 refine OE Tryz.func287 fun S hS=>?_
 unfold z0z at hr
 refine J g<|J (BX' 0)<|J (gn 15)<|J (lenA 6 0)<|fun hl1=>bdE hr fun s1 hqq1 hr=>q0f hqq1 hl1 1 (fun k1 s1=>[(3,dI s1),(7,.d m (.sl 7 (a0.Args.map Expr.D))),(8,dI (a0.Args.length:Int)),(9,dI (k1:Int))]) (fun k1 s1=>[]) I (fun k1 xk1 sk1 ok1 hxk1 hr hltk1=>?_) fun k1 hltk1=>?_
 obtain⟨s1,rfl⟩:∃ y,y=sk1:=⟨_,rfl⟩
 refine J g<|J (NV' 1)<|bdE hr fun y1 hy1 hr=>J g<|J (CB' [] [] (Ic10 (m:=m) hy1)) ?_
 refine J (MXI' rfl rfl)<|J g<|E
 refine ggE hr fun g1 hr=>e
theorem j1b (n:Nat):∀ {m:Md} {a0:Expr} {r:Int},q7D n a0=some r→Ok Tryz.prog 287 [Expr.x m a0] [] (dI r) []:=by
  induction n with
  | zero=>intro _ _ r hr;exact nomatch (show (none:Option Int)=some r from hr)
  | succ n ih=>intro _ _ r hr;exact j1a ih hr
theorem j2y {m:Md}{a0:Expr}{r:Int}(hr:z5e a0=some r):Ok Tryz.prog 287 [Expr.x m a0] [] (dI r) []:=by
 obtain⟨n,hn⟩:=q6U hr
 exact j1b n hn
theorem j6S {a0:Int}{r:Int}(hr:z6i a0=some r):Ok Tryz.prog 293 [dI a0] [] (dI r) []:=by
 refine OE Tryz.func293 fun S hS=>?_
 unfold z6i at hr
 refine J g ?_
 refine J (MNI' rfl rfl) ?_
 refine J (MXI' rfl rfl)<|J g<|E
theorem k4k {a0:Bool}{r:Int}(hr:j2l a0=some r):Ok Tryz.prog 294 [dB a0] [] (dI r) []:=by
 refine OE Tryz.func294 fun S hS=>?_
 unfold j2l at hr
 refine J (gn 9)<|ifE hr ?_ ?_<;>intro h1 hr
 exact e
 exact e
theorem k0P {a0:Int}{a1:Int}{r:Int}(hr:z7n a0 a1=some r):Ok Tryz.prog 292 [dI a0,dI a1] [] (dI r) []:=by
 refine OE Tryz.func292 fun S hS=>?_
 unfold z7n at hr
 refine J (gn 12)<|ifE hr ?_ ?_<;>intro h1 hr
 refine bdE hr fun y1 hy1 hr=>J g<|J (CB' [] [] (j6S hy1))<|e
 refine J (gn 7)<|ifE hr ?_ ?_<;>intro h2 hr
 refine J g<|J (OB' _ k1P)<|e
 refine J (gn 7)<|ifE hr ?_ ?_<;>intro h3 hr
 refine bdE hr fun y2 hy2 hr=>J g<|J (CB' [] [] (k4k hy2))<|e
 refine J (gn 5)<|ifE hr ?_ ?_<;>intro h4 hr
 refine bdE hr fun y3 hy3 hr=>J g<|J (CB' [] [] (q5v hy3))<|J (gn 3)<|ifE hr ?_ ?_<;>intro h5 hr
 exact e
 exact e
 exact e
theorem j6T {a0:Int}{a1:Int}{r:Bool}(hr:z4p a0 a1=some r):Ok Tryz.prog 290 [dI a0,dI a1] [] (dB r) []:=by
 refine OE Tryz.func290 fun S hS=>?_
 unfold z4p at hr
 refine bdE hr fun y1 hy1 hr=>J g<|J (CB' [] [] (j4k hy1))<|ifE hr ?_ ?_<;>intro h1 hr
 refine bdE hr fun y2 hy2 hr=>J g<|J (CB' [] [] (k0P hy2))<|e
 exact e
theorem q8S {m:Md}{a0:Expr}{a1:Expr}{r:Bool}(hr:q7g a0 a1=some r):Ok Tryz.prog 291 [Expr.x m a0,Expr.x m a1] [] (dB r) []:=by
 refine OE Tryz.func291 fun S hS=>?_
 unfold q7g at hr
 refine J g<|J (BX' 0)<|J (BX' 1)<|bdE hr fun s1 hqq1 hr=>J (gn 9)<|q0a 7 [(2,.pb 0 0),(3,.pb 1 0),(4,dB false),(16,dB s1)] ?_ ?_
 replace hr:=hqq1
 refine ifE hr ?_ ?_<;>intro h1 hr
 exact e
 exact e
 refine bdE hr fun s2 hqq2 hr=>q0a 7 [(2,.pb 0 0),(3,.pb 1 0),(4,dB false),(23,dB s2)] ?_ ?_
 replace hr:=hqq2
 refine ifE hr ?_ ?_<;>intro h2 hr
 exact e
 exact e
 refine bdE hr fun s3 hqq3 hr=>q0a 7 [(2,.pb 0 0),(3,.pb 1 0),(4,dB false),(30,dB s3)] ?_ ?_
 replace hr:=hqq3
 refine ifE hr ?_ ?_<;>intro h3 hr
 exact e
 exact e
 refine bdE hr fun s4 hqq4 hr=>q0a 7 [(2,.pb 0 0),(3,.pb 1 0),(4,dB false),(37,dB s4)] ?_ ?_
 replace hr:=hqq4
 refine ifE hr ?_ ?_<;>intro h4 hr
 exact e
 exact e
 refine bdE hr fun s5 hqq5 hr=>q0a 7 [(4,dB false),(44,dB s5)] ?_ ?_
 replace hr:=hqq5
 refine ifE hr ?_ ?_<;>intro h5 hr
 exact e
 exact e
 exact e
theorem j3L {m:Md}{a0:Expr}{r:Bool}(hr:z1x a0=some r):Ok Tryz.prog 288 [Expr.x m a0] [] (dB r) []:=by
 refine OE Tryz.func288 fun S hS=>?_
 unfold z1x at hr
 refine J g<|J (BX' 0)<|J g<|J (NV' 1)<|J (gn 18)<|ifE hr ?_ ?_<;>intro h1 hr
 refine bdE hr fun s1 hqq1 hr=>J (gn 17)<|q0a 8 [(1,.pb 0 0),(3,.pb 1 0),(4,dI 0),(30,dB s1)] ?_ ?_
 replace hr:=hqq1
 refine ifE hr ?_ ?_<;>intro h2 hr
 exact e
 refine bdE hr fun y1 hy1 hr=>J g<|J (CB' [] [] (j6T hy1))<|e
 refine bdE hr fun s2 hqq2 hr=>q0a 5 [(1,.pb 0 0),(3,.pb 1 0),(4,dI 0),(35,dB s2)] ?_ ?_
 replace hr:=hqq2
 refine ifE hr ?_ ?_<;>intro h3 hr
 exact e
 exact e
 refine J (gn 1)<|ifE hr ?_ ?_<;>intro h4 hr
 exact e
 refine bdE hr fun s3 hqq3 hr=>J (gn 9)<|q0a 5 [(1,.pb 0 0),(3,.pb 1 0),(94,dB s3)] ?_ ?_
 replace hr:=hqq3
 refine ifE hr ?_ ?_<;>intro h5 hr
 refine bdE hr fun y2 hy2 hr=>J g<|J (CB' [] [] (q5v hy2))<|e
 exact e
 refine bdE hr fun s4 hqq4 hr=>q0a 5 [(99,dB s4)] ?_ ?_
 replace hr:=hqq4
 refine ifE hr ?_ ?_<;>intro h6 hr
 refine bdE hr fun y3 hy3 hr=>J g<|J (CB' [] [] (q8S (m:=m) hy3))<|e
 exact e
 exact e
 refine J (gn 6)<|ifE hr ?_ ?_<;>intro h7 hr
 refine bdE hr fun y4 hy4 hr=>J g<|J (CB' [] [] (q5L hy4))<|J (gn 2)<|ifE hr ?_ ?_<;>intro h8 hr
 refine bdE hr fun s5 hqq5 hr=>J (gn 9)<|q0a 5 [(1,.pb 0 0),(2,dB false),(3,.pb 1 0),(94,dB s5)] ?_ ?_
 replace hr:=hqq5
 refine ifE hr ?_ ?_<;>intro h9 hr
 refine bdE hr fun y5 hy5 hr=>J g<|J (CB' [] [] (q5v hy5))<|e
 exact e
 refine bdE hr fun s6 hqq6 hr=>q0a 5 [(2,dB false),(99,dB s6)] ?_ ?_
 replace hr:=hqq6
 refine ifE hr ?_ ?_<;>intro h10 hr
 refine bdE hr fun y6 hy6 hr=>J g<|J (CB' [] [] (q8S (m:=m) hy6))<|e
 exact e
 exact e
 exact e
 refine J (gn 6)<|ifE hr ?_ ?_<;>intro h11 hr
 refine bdE hr fun y7 hy7 hr=>J g<|J (CB' [] [] (q5v hy7))<|J (gn 2)<|ifE hr ?_ ?_<;>intro h12 hr
 refine bdE hr fun s7 hqq7 hr=>J (gn 9)<|q0a 5 [(1,.pb 0 0),(2,dB false),(3,.pb 1 0),(94,dB s7)] ?_ ?_
 replace hr:=hqq7
 refine ifE hr ?_ ?_<;>intro h13 hr
 refine bdE hr fun y8 hy8 hr=>J g<|J (CB' [] [] (q5v hy8))<|e
 exact e
 refine bdE hr fun s8 hqq8 hr=>q0a 5 [(2,dB false),(99,dB s8)] ?_ ?_
 replace hr:=hqq8
 refine ifE hr ?_ ?_<;>intro h14 hr
 refine bdE hr fun y9 hy9 hr=>J g<|J (CB' [] [] (q8S (m:=m) hy9))<|e
 exact e
 exact e
 exact e
 refine J (gn 6)<|ifE hr ?_ ?_<;>intro h15 hr
 refine bdE hr fun s9 hqq9 hr=>J (gn 11)<|q0a 5 [(1,.pb 0 0),(2,dB false),(3,.pb 1 0),(94,dB s9)] ?_ ?_
 replace hr:=hqq9
 refine ifE hr ?_ ?_<;>intro h16 hr
 refine bdE hr fun y10 hy10 hr=>J g<|J (CB' [] [] (q5v hy10))<|e
 exact e
 refine bdE hr fun s10 hqq10 hr=>q0a 5 [(2,dB false),(99,dB s10)] ?_ ?_
 replace hr:=hqq10
 refine ifE hr ?_ ?_<;>intro h17 hr
 refine bdE hr fun y11 hy11 hr=>J g<|J (CB' [] [] (q8S (m:=m) hy11))<|e
 exact e
 exact e
 refine J (gn 6)<|ifE hr ?_ ?_<;>intro h18 hr
 refine bdE hr fun s11 hqq11 hr=>J (gn 14)<|q0a 5 [(1,.pb 0 0),(2,dB false),(3,.pb 1 0),(94,dB s11)] ?_ ?_
 replace hr:=hqq11
 refine ifE hr ?_ ?_<;>intro h19 hr
 refine bdE hr fun y12 hy12 hr=>J g<|J (CB' [] [] (q5v hy12))<|e
 exact e
 refine bdE hr fun s12 hqq12 hr=>q0a 5 [(2,dB false),(99,dB s12)] ?_ ?_
 replace hr:=hqq12
 refine ifE hr ?_ ?_<;>intro h20 hr
 refine bdE hr fun y13 hy13 hr=>J g<|J (CB' [] [] (q8S (m:=m) hy13))<|e
 exact e
 exact e
 refine J (gn 6)<|ifE hr ?_ ?_<;>intro h21 hr
 refine bdE hr fun y14 hy14 hr=>J g<|J (CB' [] [] (q5L hy14))<|bdE hr fun s13 hqq13 hr=>J (gn 1)<|q0a 6 [(1,.pb 0 0),(3,.pb 1 0),(4,dI 1),(81,dB s13)] ?_ ?_
 replace hr:=hqq13
 refine ifE hr ?_ ?_<;>intro h22 hr
 refine bdE hr fun y15 hy15 hr=>J g<|J (CB' [] [] (q5L hy15))<|e
 exact e
 refine J (gn 1)<|ifE hr ?_ ?_<;>intro h23 hr
 exact e
 refine bdE hr fun s14 hqq14 hr=>J (gn 9)<|q0a 5 [(1,.pb 0 0),(3,.pb 1 0),(94,dB s14)] ?_ ?_
 replace hr:=hqq14
 refine ifE hr ?_ ?_<;>intro h24 hr
 refine bdE hr fun y16 hy16 hr=>J g<|J (CB' [] [] (q5v hy16))<|e
 exact e
 refine bdE hr fun s15 hqq15 hr=>q0a 5 [(99,dB s15)] ?_ ?_
 replace hr:=hqq15
 refine ifE hr ?_ ?_<;>intro h25 hr
 refine bdE hr fun y17 hy17 hr=>J g<|J (CB' [] [] (q8S (m:=m) hy17))<|e
 exact e
 exact e
 refine J (gn 7)<|ifE hr ?_ ?_<;>intro h26 hr
 refine J (gn 2)<|ifE hr ?_ ?_<;>intro h27 hr
 refine bdE hr fun s16 hqq16 hr=>J (gn 9)<|q0a 5 [(1,.pb 0 0),(2,dB false),(3,.pb 1 0),(94,dB s16)] ?_ ?_
 replace hr:=hqq16
 refine ifE hr ?_ ?_<;>intro h28 hr
 refine bdE hr fun y18 hy18 hr=>J g<|J (CB' [] [] (q5v hy18))<|e
 exact e
 refine bdE hr fun s17 hqq17 hr=>q0a 5 [(2,dB false),(99,dB s17)] ?_ ?_
 replace hr:=hqq17
 refine ifE hr ?_ ?_<;>intro h29 hr
 refine bdE hr fun y19 hy19 hr=>J g<|J (CB' [] [] (q8S (m:=m) hy19))<|e
 exact e
 exact e
 exact e
 refine J (gn 5)<|ifE hr ?_ ?_<;>intro h30 hr
 refine bdE hr fun s18 hqq18 hr=>J (gn 9)<|q0a 5 [(1,.pb 0 0),(2,dB false),(3,.pb 1 0),(94,dB s18)] ?_ ?_
 replace hr:=hqq18
 refine ifE hr ?_ ?_<;>intro h31 hr
 refine bdE hr fun y20 hy20 hr=>J g<|J (CB' [] [] (q5v hy20))<|e
 exact e
 refine bdE hr fun s19 hqq19 hr=>q0a 5 [(2,dB false),(99,dB s19)] ?_ ?_
 replace hr:=hqq19
 refine ifE hr ?_ ?_<;>intro h32 hr
 refine bdE hr fun y21 hy21 hr=>J g<|J (CB' [] [] (q8S (m:=m) hy21))<|e
 exact e
 exact e
 exact e
theorem z4u {Rc11:Expr→Option Bool}(Ic11:∀ {m:Md} {a0:Expr} {r:Bool},Rc11 a0=some r→Ok Tryz.prog 159 [Expr.x m a0,.fn 288 []] [] (dB r) []){m:Md}{a0:Expr}{r:Bool}(hr:q6E Rc11 a0=some r):Ok Tryz.prog 202 [Expr.x m a0,.pb 0 0] [.box [.fn 288 []]] (dB r) [.box [.fn 288 []]]:=by
 refine OE Tryz.func202 fun S hS=>?_
 unfold q6E at hr
 refine J g<|J (BX' 1)<|bdE hr fun y1 hy1 hr=>J g<|J (CB' [] [] (Ic11 (m:=m) hy1))<|e
theorem q8g {Rc11:Expr→Option Bool}(Ic11:∀ {m:Md} {a0:Expr} {r:Bool},Rc11 a0=some r→Ok Tryz.prog 159 [Expr.x m a0,.fn 288 []] [] (dB r) []){m:Md}{a0:(List Expr)}{r:Int}(hr:q4e Rc11 a0=some r):Ok Tryz.prog 158 [.d m (.sl 7 (a0.map Expr.D)),.fn 202 [.pb 0 0]] [.box [.fn 288 []]] (dI r) [.box [.fn 288 []]]:=by
 refine OE Tryz.func158 fun S hS=>?_
 unfold q4e at hr
 refine J (gn 12)<|J (lenT 0)<|fun hl1=>bdE hr fun q1 hqq1 hr=>q0b hqq1 hl1 1 (fun k1 _=>[(0,.d m (.sl 7 (a0.map Expr.D))),(1,.fn 202 [.pb 0 0]),(7,dI (a0.length:Int)),(8,dI (k1:Int))]) (fun k1 _=>[]) I (fun k1 xk1 sk1 ok1 hxk1 hr hltk1 hik1=>?_) fun k1 sk1 ek1 hltk1=>?_
 refine bdE hr fun y1 hy1 hr=>J g<|J (CB' [(0,0)] [] (z4u Ic11 (m:=m) hy1))<|J (gn 1)<|ifE hr ?_ ?_<;>intro h1 hr
 exact e
 exact e
 subst ek1
 exact e
theorem q7K {Rc11:Expr→Option Bool}(Ic11:∀ {m:Md} {a0:Expr} {r:Bool},Rc11 a0=some r→Ok Tryz.prog 159 [Expr.x m a0,.fn 288 []] [] (dB r) []){m:Md}{a0:(List Expr)}{r:Bool}(hr:q3Z Rc11 a0=some r):Ok Tryz.prog 102 [.d m (.sl 7 (a0.map Expr.D)),.fn 202 [.pb 0 0]] [.box [.fn 288 []]] (dB r) [.box [.fn 288 []]]:=by
 refine OE Tryz.func102 fun S hS=>?_
 unfold q3Z at hr
 refine bdE hr fun y1 hy1 hr=>J g<|J (CB' [(0,0)] [] (q8g Ic11 (m:=m) hy1))<|e
theorem z4H {Rc11:Expr→Option Bool}(Ic11:∀ {m:Md} {a0:Expr} {r:Bool},Rc11 a0=some r→Ok Tryz.prog 159 [Expr.x m a0,.fn 288 []] [] (dB r) []){m:Md}{a0:Expr}{r:Bool}(hr:q6i Rc11 a0=some r):Ok Tryz.prog 159 [Expr.x m a0,.fn 288 []] [] (dB r) []:=by
 refine OE Tryz.func159 fun S hS=>?_
 unfold q6i at hr
 refine J g<|J (BX' 0)<|J (BX' 1)<|bdE hr fun y1 hy1 hr=>J g<|J (CB' [] [] (j3L (m:=m) hy1))<|ifE hr ?_ ?_<;>intro h1 hr
 refine bdE hr fun y2 hy2 hr=>J g<|J (CB' [(0,1)] [] (q7K Ic11 (m:=m) hy2))<|e
 exact e
theorem z4I (n:Nat):∀ {m:Md} {a0:Expr} {r:Bool},q6j n a0=some r→Ok Tryz.prog 159 [Expr.x m a0,.fn 288 []] [] (dB r) []:=by
  induction n with
  | zero=>intro _ _ r hr;exact nomatch (show (none:Option Bool)=some r from hr)
  | succ n ih=>intro _ _ r hr;exact z4H ih hr
theorem z5g {m:Md}{a0:Expr}{r:Bool}(hr:q8F a0=some r):Ok Tryz.prog 159 [Expr.x m a0,.fn 288 []] [] (dB r) []:=by
 obtain⟨n,hn⟩:=q6U hr
 exact z4I n hn
theorem j2z {m:Md}{a0:Expr}{r:Bool}(hr:z0A a0=some r):Ok Tryz.prog 279 [Expr.x m a0] [] (dB r) []:=by
 refine OE Tryz.func279 fun S hS=>?_
 unfold z0A at hr
 refine J g<|J (BX' 0)<|bdE hr fun y1 hy1 hr=>J g<|J (CB' [] [] (j5l (m:=m) hy1))<|bdE hr fun s1 hqq1 hr=>J (gn 1)<|q0a 5 [(1,.pb 0 0),(2,dB false),(10,dB s1)] ?_ ?_
 replace hr:=hqq1
 refine ifE hr ?_ ?_<;>intro h1 hr
 refine bdE hr fun y2 hy2 hr=>J g<|J (CB' [] [] (j2y (m:=m) hy2))<|e
 exact e
 refine bdE hr fun s2 hqq2 hr=>q0a 4 [(2,dB false),(14,dB s2)] ?_ ?_
 replace hr:=hqq2
 refine ifE hr ?_ ?_<;>intro h2 hr
 refine bdE hr fun y3 hy3 hr=>J g<|J (CB' [] [] (z5g (m:=m) hy3))<|e
 exact e
 exact e
theorem k0Q {m:Md}{a0:Expr}{a1:Int}{r:Bool}(hr:z9h a0 a1=some r):Ok Tryz.prog 280 [Expr.x m a0,.pb 0 0] [.box [dI a1]] (dB r) [.box [dI a1]]:=by
 refine OE Tryz.func280 fun S hS=>?_
 unfold z9h at hr
 refine J g<|J (BX' 1)<|e
theorem z6r {Rc12:Expr→Int→Option Bool}(Ic12:∀ {m:Md} {a0:Expr} {a1_0:Int} {r:Bool},Rc12 a0 a1_0=some r→Ok Tryz.prog 159 [Expr.x m a0,.fn 280 [.pb 0 0]] [.box [dI a1_0]] (dB r) [.box [dI a1_0]]){m:Md}{a0:Expr}{a1_0:Int}{r:Bool}(hr:q8c Rc12 a0 a1_0=some r):Ok Tryz.prog 202 [Expr.x m a0,.pb 1 0] [.box [dI a1_0],.box [.fn 280 [.pb 0 0]]] (dB r) [.box [dI a1_0],.box [.fn 280 [.pb 0 0]]]:=by
 refine OE Tryz.func202 fun S hS=>?_
 unfold q8c at hr
 refine J g<|J (BX' 2)<|bdE hr fun y1 hy1 hr=>J g<|J (CB' [(0,0)] [] (Ic12 (m:=m) hy1))<|e
theorem q8J {Rc12:Expr→Int→Option Bool}(Ic12:∀ {m:Md} {a0:Expr} {a1_0:Int} {r:Bool},Rc12 a0 a1_0=some r→Ok Tryz.prog 159 [Expr.x m a0,.fn 280 [.pb 0 0]] [.box [dI a1_0]] (dB r) [.box [dI a1_0]]){m:Md}{a0:(List Expr)}{a1_0_0:Int}{r:Int}(hr:q4s Rc12 a0 a1_0_0=some r):Ok Tryz.prog 158 [.d m (.sl 7 (a0.map Expr.D)),.fn 202 [.pb 1 0]] [.box [dI a1_0_0],.box [.fn 280 [.pb 0 0]]] (dI r) [.box [dI a1_0_0],.box [.fn 280 [.pb 0 0]]]:=by
 refine OE Tryz.func158 fun S hS=>?_
 unfold q4s at hr
 refine J (gn 12)<|J (lenT 0)<|fun hl1=>bdE hr fun q1 hqq1 hr=>q0b hqq1 hl1 2 (fun k1 _=>[(0,.d m (.sl 7 (a0.map Expr.D))),(1,.fn 202 [.pb 1 0]),(7,dI (a0.length:Int)),(8,dI (k1:Int))]) (fun k1 _=>[]) I (fun k1 xk1 sk1 ok1 hxk1 hr hltk1 hik1=>?_) fun k1 sk1 ek1 hltk1=>?_
 refine bdE hr fun y1 hy1 hr=>J g<|J (CB' [(0,0),(1,1)] [] (z6r Ic12 (m:=m) hy1))<|J (gn 1)<|ifE hr ?_ ?_<;>intro h1 hr
 exact e
 exact e
 subst ek1
 exact e
theorem q8p {Rc12:Expr→Int→Option Bool}(Ic12:∀ {m:Md} {a0:Expr} {a1_0:Int} {r:Bool},Rc12 a0 a1_0=some r→Ok Tryz.prog 159 [Expr.x m a0,.fn 280 [.pb 0 0]] [.box [dI a1_0]] (dB r) [.box [dI a1_0]]){m:Md}{a0:(List Expr)}{a1_0_0:Int}{r:Bool}(hr:q4l Rc12 a0 a1_0_0=some r):Ok Tryz.prog 102 [.d m (.sl 7 (a0.map Expr.D)),.fn 202 [.pb 1 0]] [.box [dI a1_0_0],.box [.fn 280 [.pb 0 0]]] (dB r) [.box [dI a1_0_0],.box [.fn 280 [.pb 0 0]]]:=by
 refine OE Tryz.func102 fun S hS=>?_
 unfold q4l at hr
 refine bdE hr fun y1 hy1 hr=>J g<|J (CB' [(0,0),(1,1)] [] (q8J Ic12 (m:=m) hy1))<|e
theorem z6P {Rc12:Expr→Int→Option Bool}(Ic12:∀ {m:Md} {a0:Expr} {a1_0:Int} {r:Bool},Rc12 a0 a1_0=some r→Ok Tryz.prog 159 [Expr.x m a0,.fn 280 [.pb 0 0]] [.box [dI a1_0]] (dB r) [.box [dI a1_0]]){m:Md}{a0:Expr}{a1_0:Int}{r:Bool}(hr:q7o Rc12 a0 a1_0=some r):Ok Tryz.prog 159 [Expr.x m a0,.fn 280 [.pb 0 0]] [.box [dI a1_0]] (dB r) [.box [dI a1_0]]:=by
 refine OE Tryz.func159 fun S hS=>?_
 unfold q7o at hr
 refine J g<|J (BX' 1)<|J (BX' 2)<|bdE hr fun y1 hy1 hr=>J g<|J (CB' [(0,0)] [] (k0Q (m:=m) hy1))<|ifE hr ?_ ?_<;>intro h1 hr
 refine bdE hr fun y2 hy2 hr=>J g<|J (CB' [(0,0),(1,2)] [] (q8p Ic12 (m:=m) hy2))<|e
 exact e
theorem z6Q (n:Nat):∀ {m:Md} {a0:Expr} {a1_0:Int} {r:Bool},q7p n a0 a1_0=some r→Ok Tryz.prog 159 [Expr.x m a0,.fn 280 [.pb 0 0]] [.box [dI a1_0]] (dB r) [.box [dI a1_0]]:=by
  induction n with
  | zero=>intro _ _ _ r hr;exact nomatch (show (none:Option Bool)=some r from hr)
  | succ n ih=>intro _ _ _ r hr;exact z6P ih hr
theorem z7x {m:Md}{a0:Expr}{a1_0:Int}{r:Bool}(hr:z0n a0 a1_0=some r):Ok Tryz.prog 159 [Expr.x m a0,.fn 280 [.pb 0 0]] [.box [dI a1_0]] (dB r) [.box [dI a1_0]]:=by
 obtain⟨n,hn⟩:=q6U hr
 exact z6Q n hn
theorem j5m {m:Md}{a0:Expr}{a1:Int}{r:Bool}(hr:z8v a0 a1=some r):Ok Tryz.prog 261 [Expr.x m a0,dI a1] [] (dB r) []:=by
 refine OE Tryz.func261 fun S hS=>?_
 unfold z8v at hr
 refine J g<|J (BX' 0)<|J (BX' 1)<|bdE hr fun y1 hy1 hr=>J g<|J (CB' [] [] (j2z (m:=m) hy1))<|ifE hr ?_ ?_<;>intro h1 hr
 refine bdE hr fun y2 hy2 hr=>J g<|J (CB' [(0,1)] [] (z7x (m:=m) hy2))<|e
 exact e
theorem j2A {m:Md}{a0:Rule}{r:Bool}(hr:z0B a0=some r):Ok Tryz.prog 221 [Rule.x m a0] [] (dB r) []:=by
 refine OE Tryz.func221 fun S hS=>?_
 unfold z0B at hr
 refine J g<|J (BX' 0)<|bdE hr fun y1 hy1 hr=>J g<|J (CB' [] [] (q5L hy1))<|bdE hr fun s1 hqq1 hr=>J (gn 1)<|q0a 6 [(1,.pb 0 0),(3,dI (a0.Right.length:Int)),(22,dB s1)] ?_ ?_
 replace hr:=hqq1
 refine ifE hr ?_ ?_<;>intro h1 hr
 refine bdE hr fun y2 hy2 hr=>J g<|J (CB' [] [] (q5L hy2))<|e
 exact e
 refine bdE hr fun s2 hqq2 hr=>q0a 4 [(1,.pb 0 0),(3,dI (a0.Right.length:Int)),(26,dB s2)] ?_ ?_
 replace hr:=hqq2
 refine ifE hr ?_ ?_<;>intro h2 hr
 exact e
 exact e
 refine bdE hr fun s3 hqq3 hr=>q0a 6 [(1,.pb 0 0),(3,dI (a0.Right.length:Int)),(32,dB s3)] ?_ ?_
 replace hr:=hqq3
 refine ifE hr ?_ ?_<;>intro h3 hr
 exact e
 exact e
 refine J (gn 1)<|ifE hr ?_ ?_<;>intro h4 hr
 exact e
 refine J (gn 11)<|J (lenT 34)<|fun hl1=>bdE hr fun q4 hqq4 hr=>q0b hqq4 hl1 1 (fun k1 _=>[(1,.pb 0 0),(3,dI (a0.Right.length:Int)),(34,.d m (.sl 1 (a0.Right.map A.D.s))),(35,dI (a0.Right.length:Int)),(36,dI (k1:Int))]) (fun k1 _=>[]) I (fun k1 xk1 sk1 ok1 hxk1 hr hltk1 hik1=>?_) fun k1 sk1 ek1 hltk1=>?_
 refine bdE hr fun y3 hy3 hr=>J g<|J (CB' [] [] (q5L hy3))<|J (gn 2)<|ifE hr ?_ ?_<;>intro h5 hr
 exact e
 exact e
 subst ek1
 refine J (gn 16)<|J (lenT 45)<|fun hl2=>bdE hr fun q5 hqq5 hr=>q0b hqq5 hl2 1 (fun k2 _=>[(1,.pb 0 0),(3,dI (a0.Right.length:Int)),(45,.d m (.sl 9 (a0.Equations.map Eqn.D))),(46,dI (a0.Equations.length:Int)),(47,dI (k2:Int))]) (fun k2 _=>[]) I (fun k2 xk2 sk2 ok2 hxk2 hr hltk2 hik2=>?_) fun k2 sk2 ek2 hltk2=>?_
 refine J g<|J (NV' 1)<|bdE hr fun y4 hy4 hr=>J g<|J (CB' [] [] (j5m (m:=m) hy4))<|bdE hr fun s4 hqq6 hr=>J (gn 1)<|q0a 7 [(1,.pb 0 0),(3,dI (a0.Right.length:Int)),(7,.pb 1 0),(45,.d m (.sl 9 (a0.Equations.map Eqn.D))),(46,dI (a0.Equations.length:Int)),(47,dI (k2:Int)),(62,dB s4)] ?_ ?_
 replace hr:=hqq6
 refine ifE hr ?_ ?_<;>intro h6 hr
 refine bdE hr fun y5 hy5 hr=>J g<|J (CB' [] [] (q5L hy5))<|e
 exact e
 refine bdE hr fun s5 hqq7 hr=>q0a 8 [(1,.pb 0 0),(3,dI (a0.Right.length:Int)),(45,.d m (.sl 9 (a0.Equations.map Eqn.D))),(46,dI (a0.Equations.length:Int)),(47,dI (k2:Int)),(70,dB s5)] ?_ ?_
 replace hr:=hqq7
 refine ifE hr ?_ ?_<;>intro h7 hr
 exact e
 refine bdE hr fun y6 hy6 hr=>J g<|J (CB' [] [] (q5v hy6))<|e
 refine J (gn 1)<|ifE hr ?_ ?_<;>intro h8 hr
 exact e
 exact e
 subst ek2
 refine J (gn 16)<|J (lenT 73)<|fun hl3=>bdE hr fun q8 hqq8 hr=>q0b hqq8 hl3 1 (fun k3 _=>[(3,dI (a0.Right.length:Int)),(73,.d m (.sl 16 (a0.Contributions.map Cn.D))),(74,dI (a0.Contributions.length:Int)),(75,dI (k3:Int))]) (fun k3 _=>[]) I (fun k3 xk3 sk3 ok3 hxk3 hr hltk3 hik3=>?_) fun k3 sk3 ek3 hltk3=>?_
 refine J g<|J (NV' 1)<|bdE hr fun y7 hy7 hr=>J g<|J (CB' [] [] (j5m (m:=m) hy7))<|bdE hr fun s6 hqq9 hr=>J (gn 1)<|q0a 7 [(3,dI (a0.Right.length:Int)),(9,.pb 1 0),(73,.d m (.sl 16 (a0.Contributions.map Cn.D))),(74,dI (a0.Contributions.length:Int)),(75,dI (k3:Int)),(90,dB s6)] ?_ ?_
 replace hr:=hqq9
 refine ifE hr ?_ ?_<;>intro h9 hr
 refine bdE hr fun y8 hy8 hr=>J g<|J (CB' [] [] (j5m (m:=m) hy8))<|e
 exact e
 refine bdE hr fun s7 hqq10 hr=>q0a 6 [(3,dI (a0.Right.length:Int)),(9,.pb 1 0),(73,.d m (.sl 16 (a0.Contributions.map Cn.D))),(74,dI (a0.Contributions.length:Int)),(75,dI (k3:Int)),(96,dB s7)] ?_ ?_
 replace hr:=hqq10
 refine ifE hr ?_ ?_<;>intro h10 hr
 exact e
 refine bdE hr fun y9 hy9 hr=>J g<|J (CB' [] [] (q5L hy9))<|e
 refine bdE hr fun s8 hqq11 hr=>q0a 6 [(3,dI (a0.Right.length:Int)),(73,.d m (.sl 16 (a0.Contributions.map Cn.D))),(74,dI (a0.Contributions.length:Int)),(75,dI (k3:Int)),(102,dB s8)] ?_ ?_
 replace hr:=hqq11
 refine ifE hr ?_ ?_<;>intro h11 hr
 exact e
 refine bdE hr fun y10 hy10 hr=>J g<|J (CB' [] [] (q5L hy10))<|e
 refine J (gn 1)<|ifE hr ?_ ?_<;>intro h12 hr
 exact e
 exact e
 subst ek3
 exact e
theorem j1c {m:Md}{m2:Md}{a0:Rule}{a1:Rule}{r:Bool}(hr:z1y a0 a1=some r):Ok Tryz.prog 222 [Rule.x m a0,.pb 0 0] [.box [dS a1.Name,dS a1.Left,.d m2 (.sl 1 (a1.Right.map A.D.s)),dB a1.Literal,.d m2 (.sl 9 (a1.Equations.map Eqn.D)),.d m2 (.sl 16 (a1.Contributions.map Cn.D))]] (dB r) [.box [dS a1.Name,dS a1.Left,.d m2 (.sl 1 (a1.Right.map A.D.s)),dB a1.Literal,.d m2 (.sl 9 (a1.Equations.map Eqn.D)),.d m2 (.sl 16 (a1.Contributions.map Cn.D))]]:=by
 refine OE Tryz.func222 fun S hS=>?_
 unfold z1y at hr
 refine J g<|J (BX' 1)<|e
theorem z0g {m:Md}{m2:Md}{a0:(List Rule)}{a1_0:Rule}{r:Int}(hr:q5c a0 a1_0=some r):Ok Tryz.prog 157 [.d m (.sl 6 (a0.map Rule.D)),.fn 222 [.pb 0 0]] [.box [dS a1_0.Name,dS a1_0.Left,.d m2 (.sl 1 (a1_0.Right.map A.D.s)),dB a1_0.Literal,.d m2 (.sl 9 (a1_0.Equations.map Eqn.D)),.d m2 (.sl 16 (a1_0.Contributions.map Cn.D))]] (dI r) [.box [dS a1_0.Name,dS a1_0.Left,.d m2 (.sl 1 (a1_0.Right.map A.D.s)),dB a1_0.Literal,.d m2 (.sl 9 (a1_0.Equations.map Eqn.D)),.d m2 (.sl 16 (a1_0.Contributions.map Cn.D))]]:=by
 refine OE Tryz.func157 fun S hS=>?_
 unfold q5c at hr
 refine J (gn 12)<|J (lenT 0)<|fun hl1=>bdE hr fun q1 hqq1 hr=>q0b hqq1 hl1 1 (fun k1 _=>[(0,.d m (.sl 6 (a0.map Rule.D))),(1,.fn 222 [.pb 0 0]),(7,dI (a0.length:Int)),(8,dI (k1:Int))]) (fun k1 _=>[]) I (fun k1 xk1 sk1 ok1 hxk1 hr hltk1 hik1=>?_) fun k1 sk1 ek1 hltk1=>?_
 refine bdE hr fun y1 hy1 hr=>J g<|J (CB' [(0,0)] [] (j1c (m:=m) (m2:=m2) hy1))<|J (gn 1)<|ifE hr ?_ ?_<;>intro h1 hr
 exact e
 exact e
 subst ek1
 exact e
theorem q9z {m:Md}{m2:Md}{a0:(List Rule)}{a1_0:Rule}{r:Bool}(hr:q4M a0 a1_0=some r):Ok Tryz.prog 100 [.d m (.sl 6 (a0.map Rule.D)),.fn 222 [.pb 0 0]] [.box [dS a1_0.Name,dS a1_0.Left,.d m2 (.sl 1 (a1_0.Right.map A.D.s)),dB a1_0.Literal,.d m2 (.sl 9 (a1_0.Equations.map Eqn.D)),.d m2 (.sl 16 (a1_0.Contributions.map Cn.D))]] (dB r) [.box [dS a1_0.Name,dS a1_0.Left,.d m2 (.sl 1 (a1_0.Right.map A.D.s)),dB a1_0.Literal,.d m2 (.sl 9 (a1_0.Equations.map Eqn.D)),.d m2 (.sl 16 (a1_0.Contributions.map Cn.D))]]:=by
 refine OE Tryz.func100 fun S hS=>?_
 unfold q4M at hr
 refine bdE hr fun y1 hy1 hr=>J g<|J (CB' [(0,0)] [] (z0g (m:=m) (m2:=m2) hy1))<|e
theorem j3M {m:Md}{a0:Gm_}{r:Int}(hr:z1z a0=some r):Ok Tryz.prog 192 [Gm_.x m a0] [] (dI r) []:=by
 refine OE Tryz.func192 fun S hS=>?_
 unfold z1z at hr
 refine J g<|J (BX' 0)<|J (gn 11)<|J (lenA 0 0)<|fun hl1=>bdE hr fun q1 hqq1 hr=>q0b hqq1 hl1 1 (fun k1 _=>[(1,.pb 0 0),(8,.d m (.sl 2 (a0.Symbols.map Symbol.D))),(9,dI (a0.Symbols.length:Int)),(10,dI (k1:Int))]) (fun k1 _=>[]) I (fun k1 xk1 sk1 ok1 hxk1 hr hltk1 hik1=>?_) fun k1 sk1 ek1 hltk1=>?_
 refine J g<|J (NV' 1)<|bdE hr fun y1 hy1 hr=>J g<|J (CB' [] [] (z9Y (m:=m) hy1))<|J (gn 1)<|ifE hr ?_ ?_<;>intro h1 hr
 refine ggE hr fun g1 hr=>J g<|J (SLH' (Int.natCast_nonneg _) g1)<|bdE hr fun y2 hy2 hr=>J g<|J (CB' [(0,1)] [] (q9e (m:=m) (m2:=m) hy2))<|J (gn 2)<|ifE hr ?_ ?_<;>intro h2 hr
 exact e
 exact e
 exact e
 subst ek1
 refine J (gn 16)<|J (lenT 29)<|fun hl2=>bdE hr fun q2 hqq2 hr=>q0b hqq2 hl2 1 (fun k2 _=>[(1,.pb 0 0),(29,.d m (.sl 6 (a0.Rules.map Rule.D))),(30,dI (a0.Rules.length:Int)),(31,dI (k2:Int))]) (fun k2 _=>[]) I (fun k2 xk2 sk2 ok2 hxk2 hr hltk2 hik2=>?_) fun k2 sk2 ek2 hltk2=>?_
 refine J g<|J (NV' 1)<|bdE hr fun y3 hy3 hr=>J g<|J (CB' [] [] (j2A (m:=m) hy3))<|J (gn 1)<|ifE hr ?_ ?_<;>intro h3 hr
 refine ggE hr fun g2 hr=>J g<|J (SLH' (Int.natCast_nonneg _) g2)<|bdE hr fun y4 hy4 hr=>J g<|J (CB' [(0,1)] [] (q9z (m:=m) (m2:=m) hy4))<|J (gn 2)<|ifE hr ?_ ?_<;>intro h4 hr
 exact e
 exact e
 exact e
 subst ek2
 exact e
theorem j1d {a0:At_}{r:Bool}(hr:z1A a0=some r):Ok Tryz.prog 193 [At_.x .fz a0] [] (dB r) []:=by
 refine OE Tryz.func193 fun S hS=>?_
 unfold z1A at hr
 refine J g<|J (BX' 0)<|e
theorem q9f {m:Md}{a0:(List At_)}{r:Int}(hr:q4C a0=some r):Ok Tryz.prog 161 [.d m (.sl 4 (a0.map At_.D)),.fn 193 []] [] (dI r) []:=by
 refine OE Tryz.func161 fun S hS=>?_
 unfold q4C at hr
 refine J (gn 12)<|J (lenT 0)<|fun hl1=>bdE hr fun q1 hqq1 hr=>q0b hqq1 hl1 0 (fun k1 _=>[(0,.d m (.sl 4 (a0.map At_.D))),(1,.fn 193 []),(7,dI (a0.length:Int)),(8,dI (k1:Int))]) (fun k1 _=>[]) I (fun k1 xk1 sk1 ok1 hxk1 hr hltk1 hik1=>?_) fun k1 sk1 ek1 hltk1=>?_
 refine bdE hr fun y1 hy1 hr=>J g<|J (CB' [] [] (j1d hy1))<|J (gn 1)<|ifE hr ?_ ?_<;>intro h1 hr
 exact e
 exact e
 subst ek1
 exact e
theorem q8v {m:Md}{a0:(List At_)}{r:Bool}(hr:q4q a0=some r):Ok Tryz.prog 107 [.d m (.sl 4 (a0.map At_.D)),.fn 193 []] [] (dB r) []:=by
 refine OE Tryz.func107 fun S hS=>?_
 unfold q4q at hr
 refine bdE hr fun y1 hy1 hr=>J g<|J (CB' [] [] (q9f (m:=m) hy1))<|e
theorem z4S {m:Md}{a0:Rule}{a1:Int}{r:ByteArray}(hr:q7h a0 a1=some r):Ok Tryz.prog 63 [Rule.x m a0,dI a1] [] (dS r) []:=by
 refine OE Tryz.func63 fun S hS=>?_
 unfold q7h at hr
 refine J g<|J (BX' 0)<|J (gn 10)<|ifE hr ?_ ?_<;>intro h1 hr
 exact e
 refine bdE hr fun y1 hy1 hr=>J g<|J (CB' [] [] (q5v hy1))<|J (gn 2)<|ifE hr ?_ ?_<;>intro h2 hr
 refine ggE hr fun g1 hr=>ggE hr fun g2 hr=>bdE hr fun x1 hx1 hr=>e
 exact e
theorem z0D {m:Md}{a0:Gm_}{a1:ByteArray}{r:(Symbol×Bool)}(hr:q6a a0 a1=some r):Ok Tryz.prog 110 [Gm_.y m a0,dS a1] [] (.tu [Symbol.x m r.1,dB r.2]) []:=by
 refine OE Tryz.func110 fun S hS=>?_
 unfold q6a at hr
 refine J g<|J (BX' 0)<|J (NV' 1)<|J (gn 11)<|J (lenA 0 0)<|fun hl1=>bdE hr fun q1 hqq1 hr=>q0b hqq1 hl1 2 (fun k1 _=>[(1,dS a1),(4,.pb 1 0),(9,.d m (.sl 2 (a0.Symbols.map Symbol.D))),(10,dI (a0.Symbols.length:Int)),(11,dI (k1:Int))]) (fun k1 _=>[]) I (fun k1 xk1 sk1 ok1 hxk1 hr hltk1 hik1=>?_) fun k1 sk1 ek1 hltk1=>?_
 refine J g<|J (NV' 2)<|J (gn 9)<|ifE hr ?_ ?_<;>intro h1 hr
 exact e
 exact e
 subst ek1
 refine J (gn 14) ?_
 cases hr
 exact endA.ren [] 0 (.inr rfl) hS rfl rfl rfl (.tu (.cons (.ag (.cons .rfl (.cons .nld .nil))) (.cons .rfl .nil))) rfl rfl
theorem j8p {m:Md}{a0:Gm_}{a1:Rule}{r:Bool}(hr:z5z a0 a1=some r):Ok Tryz.prog 194 [Gm_.y m a0,Rule.x m a1] [] (dB r) []:=by
 refine OE Tryz.func194 fun S hS=>?_
 unfold z5z at hr
 refine J g<|J (BX' 0)<|J (BX' 1)<|ggE hr fun g1 hr=>J (gn 12)<|J (rngT 11)<|fun hl1=>bdE hr fun q1 hqq1 hr=>q0w hqq1 2 (fun k1 _=>[(2,.pb 0 0),(3,.pb 1 0),(11,dI ((a1.Right.length+1:Nat):Int)),(12,dI (k1:Int))]) (fun k1 _=>[]) I (fun k1 sk1 ok1 hr hltk1 hik1=>?_) fun sk1 ek1=>?_
 refine bdE hr fun y1 hy1 hr=>J g<|J (CB' [] [] (z4S (m:=m) hy1))<|bdP hr fun y2 y3 hq2 hr=>J (CB' [] [] (z0D (m:=m) hq2))<|J g<|J (NV' 2)<|J (gn 8)<|ifE hr ?_ ?_<;>intro h1 hr
 exact e
 exact e
 subst ek1
 exact e
theorem z7y {m:Md}{a0:Gm_}{a1:Rule}{r:(List Oc)}(hr:q9S a0 a1=some r):Ok Tryz.prog 61 [Gm_.y m a0,Rule.x m a1] [] (.ref 0 none) [.row .fz 2 (r.map Oc.D)]:=by
 refine OE Tryz.func61 fun S hS=>?_
 unfold q9S at hr
 refine J g<|J (BX' 0)<|J (BX' 1)<|J g<|J (L0' 2 Oc.D)<|ggE hr fun g1 hr=>J (gn 12)<|J (rngT 16)<|fun hl1=>bdE hr fun s1 hqq1 hr=>q0s hqq1 3 (fun k1 s1=>[(2,.pb 0 0),(3,.pb 1 0),(5,.ref 2 none),(16,dI ((a1.Right.length+1:Nat):Int)),(17,dI (k1:Int))]) (fun k1 s1=>[(2,.row .fz 2 (s1.map Oc.D))]) I (fun k1 sk1 ok1 hr hltk1=>?_) ?_
 obtain⟨s1,rfl⟩:∃ y,y=sk1:=⟨_,rfl⟩
 refine bdE hr fun s2 hqq2 hr=>J (gn 24)<|q0d 3 [(2,.pb 0 0),(3,.pb 1 0),(5,.ref 2 none),(6,dI (k1:Int)),(7,dI s2),(16,dI ((a1.Right.length+1:Nat):Int)),(17,dI (k1:Int))] [] ?_ ?_
 replace hr:=hqq2
 refine ifE hr ?_ ?_<;>intro h1 hr
 exact e
 exact e
 refine bdE hr fun y1 hy1 hr=>J g<|J (CB' [] [] (z4S (m:=m) hy1))<|bdP hr fun y2 y3 hq3 hr=>J (CB' [] [] (z0D (m:=m) hq3))<|J g<|J (NV' 3)<|J (gn 11) ?_
 refine AW.len (.ag 1 (.tu 0 (.tmp 22 rfl) rfl) rfl) fun hl2=>?_
 refine bdE hr fun s3 hqq4 hr=>q0f hqq4 hl2 4 (fun k2 s3=>[(2,.pb 0 0),(3,.pb 1 0),(5,.ref 2 none),(6,dI (k1:Int)),(7,dI s2),(16,dI ((a1.Right.length+1:Nat):Int)),(17,dI (k1:Int)),(31,.d m (.sl 4 (y2.Attributes.map At_.D))),(32,dI (y2.Attributes.length:Int)),(33,dI (k2:Int))]) (fun k2 s3=>[(2,.row .fz 2 (s3.map Oc.D))]) I (fun k2 xk2 sk2 ok2 hxk2 hr hltk2=>?_) fun k2 hltk2=>?_
 obtain⟨s3,rfl⟩:∃ y,y=sk2:=⟨_,rfl⟩
 refine bdE hr fun s4 hqq5 hr=>J (gn 8)<|q0d 4 [(2,.pb 0 0),(3,.pb 1 0),(5,.ref 2 none),(6,dI (k1:Int)),(7,dI s2),(16,dI ((a1.Right.length+1:Nat):Int)),(17,dI (k1:Int)),(31,.d m (.sl 4 (y2.Attributes.map At_.D))),(32,dI (y2.Attributes.length:Int)),(33,dI (k2:Int))] [(2,.row .fz 2 (s4.map Oc.D))] ?_ ?_
 replace hr:=hqq5
 refine J g<|J (NV' 4)<|J (gn 9)<|ifE hr ?_ ?_<;>intro h2 hr
 refine J g<|J (LIR' 5 (m:=.fz) (f:=Oc.D) (xs:=[(⟨(k1:Int),xk2.Name⟩:Oc)]))<|ggE hr fun g2 hr=>J (z3z (f:=Oc.D) 6 (fun _=>rfl) 24 g2)<|e
 exact e
 exact e
 exact e
 exact e
theorem j2B {m:Md}{a0:Eqn}{a1:Oc}{r:Bool}(hr:z2H a0 a1=some r):Ok Tryz.prog 225 [Eqn.x m a0,.pb 0 0] [.box [dI a1.Pos,dS a1.Name]] (dB r) [.box [dI a1.Pos,dS a1.Name]]:=by
 refine OE Tryz.func225 fun S hS=>?_
 unfold z2H at hr
 refine J g<|J (BX' 1)<|J g ?_
 refine J (SQ' rfl rfl rfl rfl (q6o a0.At a1))<|J g<|E
theorem q9A {m:Md}{a0:(List Eqn)}{a1_0:Oc}{r:Int}(hr:q4N a0 a1_0=some r):Ok Tryz.prog 262 [.d m (.sl 9 (a0.map Eqn.D)),.fn 225 [.pb 0 0]] [.box [dI a1_0.Pos,dS a1_0.Name]] (dI r) [.box [dI a1_0.Pos,dS a1_0.Name]]:=by
 refine OE Tryz.func262 fun S hS=>?_
 unfold q4N at hr
 refine J (gn 12)<|J (lenT 0)<|fun hl1=>bdE hr fun q1 hqq1 hr=>q0b hqq1 hl1 1 (fun k1 _=>[(0,.d m (.sl 9 (a0.map Eqn.D))),(1,.fn 225 [.pb 0 0]),(7,dI (a0.length:Int)),(8,dI (k1:Int))]) (fun k1 _=>[]) I (fun k1 xk1 sk1 ok1 hxk1 hr hltk1 hik1=>?_) fun k1 sk1 ek1 hltk1=>?_
 refine bdE hr fun y1 hy1 hr=>J g<|J (CB' [(0,0)] [] (j2B (m:=m) hy1))<|J (gn 1)<|ifE hr ?_ ?_<;>intro h1 hr
 exact e
 exact e
 subst ek1
 exact e
theorem q8O {m:Md}{a0:(List Eqn)}{a1_0:Oc}{r:Bool}(hr:q4x a0 a1_0=some r):Ok Tryz.prog 224 [.d m (.sl 9 (a0.map Eqn.D)),.fn 225 [.pb 0 0]] [.box [dI a1_0.Pos,dS a1_0.Name]] (dB r) [.box [dI a1_0.Pos,dS a1_0.Name]]:=by
 refine OE Tryz.func224 fun S hS=>?_
 unfold q4x at hr
 refine bdE hr fun y1 hy1 hr=>J g<|J (CB' [(0,0)] [] (q9A (m:=m) hy1))<|e
theorem j5n {m2:Md}{a0:Oc}{a1:Rule}{r:Bool}(hr:z4Q a0 a1=some r):Ok Tryz.prog 223 [Oc.x .fz a0,.pb 0 0] [.box [dS a1.Name,dS a1.Left,.d m2 (.sl 1 (a1.Right.map A.D.s)),dB a1.Literal,.d m2 (.sl 9 (a1.Equations.map Eqn.D)),.d m2 (.sl 16 (a1.Contributions.map Cn.D))]] (dB r) [.box [dS a1.Name,dS a1.Left,.d m2 (.sl 1 (a1.Right.map A.D.s)),dB a1.Literal,.d m2 (.sl 9 (a1.Equations.map Eqn.D)),.d m2 (.sl 16 (a1.Contributions.map Cn.D))]]:=by
 refine OE Tryz.func223 fun S hS=>?_
 unfold z4Q at hr
 refine J g<|J (BX' 1)<|bdE hr fun y1 hy1 hr=>J g<|J (CB' [(0,1)] [] (q8O (m:=m2) hy1))<|e
theorem q9B {m2:Md}{a0:(List Oc)}{a1_0:Rule}{r:Int}(hr:q4O a0 a1_0=some r):Ok Tryz.prog 118 [.ref 1 none,.fn 223 [.pb 0 0]] [.box [dS a1_0.Name,dS a1_0.Left,.d m2 (.sl 1 (a1_0.Right.map A.D.s)),dB a1_0.Literal,.d m2 (.sl 9 (a1_0.Equations.map Eqn.D)),.d m2 (.sl 16 (a1_0.Contributions.map Cn.D))],.row .fz 2 (a0.map Oc.D)] (dI r) [.box [dS a1_0.Name,dS a1_0.Left,.d m2 (.sl 1 (a1_0.Right.map A.D.s)),dB a1_0.Literal,.d m2 (.sl 9 (a1_0.Equations.map Eqn.D)),.d m2 (.sl 16 (a1_0.Contributions.map Cn.D))],.row .fz 2 (a0.map Oc.D)]:=by
 refine OE Tryz.func118 fun S hS=>?_
 unfold q4O at hr
 refine J (gn 12)<|J (lenR 1)<|fun hl1=>bdE hr fun q1 hqq1 hr=>q0b hqq1 hl1 2 (fun k1 _=>[(0,.ref 1 none),(1,.fn 223 [.pb 0 0]),(7,dI (a0.length:Int)),(8,dI (k1:Int))]) (fun k1 _=>[]) I (fun k1 xk1 sk1 ok1 hxk1 hr hltk1 hik1=>?_) fun k1 sk1 ek1 hltk1=>?_
 refine bdE hr fun y1 hy1 hr=>J g<|J (CB' [(0,0)] [] (j5n (m2:=m2) hy1))<|J (gn 1)<|ifE hr ?_ ?_<;>intro h1 hr
 exact e
 exact e
 subst ek1
 exact e
theorem q8P {m2:Md}{a0:(List Oc)}{a1_0:Rule}{r:Bool}(hr:q4y a0 a1_0=some r):Ok Tryz.prog 69 [.ref 1 none,.fn 223 [.pb 0 0]] [.box [dS a1_0.Name,dS a1_0.Left,.d m2 (.sl 1 (a1_0.Right.map A.D.s)),dB a1_0.Literal,.d m2 (.sl 9 (a1_0.Equations.map Eqn.D)),.d m2 (.sl 16 (a1_0.Contributions.map Cn.D))],.row .fz 2 (a0.map Oc.D)] (dB r) [.box [dS a1_0.Name,dS a1_0.Left,.d m2 (.sl 1 (a1_0.Right.map A.D.s)),dB a1_0.Literal,.d m2 (.sl 9 (a1_0.Equations.map Eqn.D)),.d m2 (.sl 16 (a1_0.Contributions.map Cn.D))],.row .fz 2 (a0.map Oc.D)]:=by
 refine OE Tryz.func69 fun S hS=>?_
 unfold q4y at hr
 refine bdE hr fun y1 hy1 hr=>J g<|J (CB' [(0,0),(1,1)] [] (q9B (m2:=m2) hy1))<|e
theorem j8q {m:Md}{a0:Gm_}{a1:Rule}{r:Bool}(hr:z5A a0 a1=some r):Ok Tryz.prog 195 [Gm_.y m a0,Rule.x m a1] [] (dB r) []:=by
 refine OE Tryz.func195 fun S hS=>?_
 unfold z5A at hr
 refine J g<|J (BX' 0)<|J (BX' 1)<|bdE hr fun y1 hy1 hr=>J g<|J (CB' [(0,2)] [] (z7y (m:=m) hy1))<|bdE hr fun y2 hy2 hr=>J g<|J (CB' [(0,1),(1,2)] [] (q8P (m2:=m) hy2))<|e
theorem z4J {m:Md}{a0:(List Oc)}{a1:Oc}{r:Int}(hr:q3R a0 a1=some r):Ok Tryz.prog 119 [.d m (.sl 2 (a0.map Oc.D)),Oc.x .fz a1] [] (dI r) []:=by
 refine OE Tryz.func119 fun S hS=>?_
 unfold q3R at hr
 refine J g<|J (BX' 0)<|J (gn 10)<|J (lenT 0)<|fun hl1=>bdE hr fun q1 hqq1 hr=>q0b hqq1 hl1 1 (fun k1 _=>[(0,.d m (.sl 2 (a0.map Oc.D))),(3,.pb 0 0),(7,dI (a0.length:Int)),(8,dI (k1:Int))]) (fun k1 _=>[]) I (fun k1 xk1 sk1 ok1 hxk1 hr hltk1 hik1=>?_) fun k1 sk1 ek1 hltk1=>?_
 refine J g ?_
 refine J (SQ' rfl rfl rfl rfl (q6o a1 xk1))<|J (gn 1)<|ifE hr ?_ ?_<;>intro h1 hr
 exact e
 exact e
 subst ek1
 exact e
theorem q4S {m:Md}{a0:(List Oc)}{a1:Oc}{r:Bool}(hr:q3I a0 a1=some r):Ok Tryz.prog 71 [.d m (.sl 2 (a0.map Oc.D)),Oc.x .fz a1] [] (dB r) []:=by
 refine OE Tryz.func71 fun S hS=>?_
 unfold q3I at hr
 refine J g<|J (BX' 0)<|bdE hr fun y1 hy1 hr=>J g<|J (CB' [] [] (z4J (m:=m) hy1))<|e
theorem j8r {m:Md}{m2:Md}{a0:Eqn}{a1:Eqn}{r:Bool}(hr:z7W a0 a1=some r):Ok Tryz.prog 226 [Eqn.x m a0,.pb 0 0] [.box [dI a1.At.Pos,dS a1.At.Name,dI a1.Expr.Kind,dI a1.Expr.N,dI a1.Expr.Pos,dI a1.Expr.Type_,dS a1.Expr.Symbol,dS a1.Expr.Name,.d m2 (.sl 7 (a1.Expr.Args.map Expr.D))]] (dB r) [.box [dI a1.At.Pos,dS a1.At.Name,dI a1.Expr.Kind,dI a1.Expr.N,dI a1.Expr.Pos,dI a1.Expr.Type_,dS a1.Expr.Symbol,dS a1.Expr.Name,.d m2 (.sl 7 (a1.Expr.Args.map Expr.D))]]:=by
 refine OE Tryz.func226 fun S hS=>?_
 unfold z7W at hr
 refine J g<|J (BX' 1)<|J g ?_
 refine J (SQ' rfl rfl rfl rfl (q6o a0.At a1.At))<|J g<|E
theorem z0o {m:Md}{m2:Md}{a0:(List Eqn)}{a1_0:Eqn}{r:Int}(hr:q5i a0 a1_0=some r):Ok Tryz.prog 262 [.d m (.sl 9 (a0.map Eqn.D)),.fn 226 [.pb 0 0]] [.box [dI a1_0.At.Pos,dS a1_0.At.Name,dI a1_0.Expr.Kind,dI a1_0.Expr.N,dI a1_0.Expr.Pos,dI a1_0.Expr.Type_,dS a1_0.Expr.Symbol,dS a1_0.Expr.Name,.d m2 (.sl 7 (a1_0.Expr.Args.map Expr.D))]] (dI r) [.box [dI a1_0.At.Pos,dS a1_0.At.Name,dI a1_0.Expr.Kind,dI a1_0.Expr.N,dI a1_0.Expr.Pos,dI a1_0.Expr.Type_,dS a1_0.Expr.Symbol,dS a1_0.Expr.Name,.d m2 (.sl 7 (a1_0.Expr.Args.map Expr.D))]]:=by
 refine OE Tryz.func262 fun S hS=>?_
 unfold q5i at hr
 refine J (gn 12)<|J (lenT 0)<|fun hl1=>bdE hr fun q1 hqq1 hr=>q0b hqq1 hl1 1 (fun k1 _=>[(0,.d m (.sl 9 (a0.map Eqn.D))),(1,.fn 226 [.pb 0 0]),(7,dI (a0.length:Int)),(8,dI (k1:Int))]) (fun k1 _=>[]) I (fun k1 xk1 sk1 ok1 hxk1 hr hltk1 hik1=>?_) fun k1 sk1 ek1 hltk1=>?_
 refine bdE hr fun y1 hy1 hr=>J g<|J (CB' [(0,0)] [] (j8r (m:=m) (m2:=m2) hy1))<|J (gn 1)<|ifE hr ?_ ?_<;>intro h1 hr
 exact e
 exact e
 subst ek1
 exact e
theorem q9L {m:Md}{m2:Md}{a0:(List Eqn)}{a1_0:Eqn}{r:Bool}(hr:q4U a0 a1_0=some r):Ok Tryz.prog 224 [.d m (.sl 9 (a0.map Eqn.D)),.fn 226 [.pb 0 0]] [.box [dI a1_0.At.Pos,dS a1_0.At.Name,dI a1_0.Expr.Kind,dI a1_0.Expr.N,dI a1_0.Expr.Pos,dI a1_0.Expr.Type_,dS a1_0.Expr.Symbol,dS a1_0.Expr.Name,.d m2 (.sl 7 (a1_0.Expr.Args.map Expr.D))]] (dB r) [.box [dI a1_0.At.Pos,dS a1_0.At.Name,dI a1_0.Expr.Kind,dI a1_0.Expr.N,dI a1_0.Expr.Pos,dI a1_0.Expr.Type_,dS a1_0.Expr.Symbol,dS a1_0.Expr.Name,.d m2 (.sl 7 (a1_0.Expr.Args.map Expr.D))]]:=by
 refine OE Tryz.func224 fun S hS=>?_
 unfold q4U at hr
 refine bdE hr fun y1 hy1 hr=>J g<|J (CB' [(0,0)] [] (z0o (m:=m) (m2:=m2) hy1))<|e
theorem k2h {m:Md}{a0:Gm_}{a1:Rule}{r:Bool}(hr:z9j a0 a1=some r):Ok Tryz.prog 196 [Gm_.y m a0,Rule.x m a1] [] (dB r) []:=by
 refine OE Tryz.func196 fun S hS=>?_
 unfold z9j at hr
 refine J g<|J (BX' 0)<|J (BX' 1)<|bdE hr fun y1 hy1 hr=>J g<|J (CB' [(0,2)] [] (z7y (m:=m) hy1))<|J (gn 11)<|J (lenA 4 1)<|fun hl1=>bdE hr fun q1 hqq1 hr=>q0b hqq1 hl1 3 (fun k1 _=>[(3,.pb 1 0),(5,.ref 2 none),(12,.d m (.sl 9 (a1.Equations.map Eqn.D))),(13,dI (a1.Equations.length:Int)),(14,dI (k1:Int))]) (fun k1 _=>[]) I (fun k1 xk1 sk1 ok1 hxk1 hr hltk1 hik1=>?_) fun k1 sk1 ek1 hltk1=>?_
 refine J g<|J (NV' 3)<|bdE hr fun y2 hy2 hr=>J g<|J (CB' [] [2] (q4S (m:=.bo) hy2))<|J (gn 1)<|ifE hr ?_ ?_<;>intro h1 hr
 refine ggE hr fun g1 hr=>J g<|J (SLH' (Int.natCast_nonneg _) g1)<|bdE hr fun y3 hy3 hr=>J g<|J (CB' [(0,3)] [] (q9L (m:=m) (m2:=m) hy3))<|J (gn 2)<|ifE hr ?_ ?_<;>intro h2 hr
 exact e
 exact e
 exact e
 subst ek1
 exact e
theorem z7z {m:Md}{a0:Rule}{r:(List Expr)}(hr:q9y a0=some r):Ok Tryz.prog 103 [Rule.x m a0] [] (.ref 0 none) [.row m 7 (r.map Expr.D)]:=by
 refine OE Tryz.func103 fun S hS=>?_
 unfold q9y at hr
 refine J g<|J (BX' 0)<|J g<|J (L0' 1 Expr.D)<|J (gn 11)<|J (lenA 4 0)<|fun hl1=>bdE hr fun s1 hqq1 hr=>?_
 refine q0f hqq1 hl1 2 (fun k1 s1=>[(1,.pb 0 0),(3,.ref 1 none),(10,.d m (.sl 9 (a0.Equations.map Eqn.D))),(11,dI (a0.Equations.length:Int)),(12,dI (k1:Int))]) (fun k1 s1=>[(1,.row m 7 (s1.map Expr.D))]) (GH.trans (q3y (r:=1) m rfl) I) (fun k1 xk1 sk1 ok1 hxk1 hr hltk1=>?_) fun k1 hltk1=>?_
 obtain⟨s1,rfl⟩:∃ y,y=sk1:=⟨_,rfl⟩
 refine J g<|J (NV' 2)<|J g ?_
 refine J (k6q 3 (m:=m) (f:=Expr.D) [xk1.Expr] (by simp only[List.map_cons,List.map_nil,Expr.D_eq];rfl))<|ggE hr fun g1 hr=>J (AP1' 4 m 88 g1)<|J g<|E
 refine J (gn 16)<|J (lenT 23)<|fun hl2=>bdE hr fun s2 hqq2 hr=>q0f hqq2 hl2 2 (fun k2 s2=>[(3,.ref 1 none),(23,.d m (.sl 16 (a0.Contributions.map Cn.D))),(24,dI (a0.Contributions.length:Int)),(25,dI (k2:Int))]) (fun k2 s2=>[(1,.row m 7 (s2.map Expr.D))]) I (fun k2 xk2 sk2 ok2 hxk2 hr hltk2=>?_) fun k2 hltk2=>?_
 obtain⟨s2,rfl⟩:∃ y,y=sk2:=⟨_,rfl⟩
 refine J g<|J (NV' 2)<|J g ?_
 refine J (k6q 3 (m:=m) (f:=Expr.D) [xk2.Target,xk2.Value] (by simp only[List.map_cons,List.map_nil,Expr.D_eq];rfl))<|ggE hr fun g2 hr=>J (APB' 4 m 88 g2)<|J g<|E
 exact e
theorem z8D {m:Md}{a0:Expr}{o0:(List Oc)}{r:(Bool×(List Oc))}(hr:q8o a0 o0=some r):Ok Tryz.prog 166 [Expr.x m a0,.pb 0 0] [.box [.ref 1 none],.row .fz 2 (o0.map Oc.D)] (dB r.1) [.box [.ref 2 none],.dead,.row .fz 2 (r.2.map Oc.D)]:=by
 refine OE Tryz.func166 fun S hS=>?_
 unfold q8o at hr
 refine J g<|J (BX' 2)<|J (gn 9)<|ifE hr ?_ ?_<;>intro h1 hr
 refine J g<|J (LIR' 3 (m:=.fz) (f:=Oc.D) (xs:=[(⟨a0.Pos,a0.Name⟩:Oc)]))<|ggE hr fun g1 hr=>J (z3z (f:=Oc.D) 4 (fun _=>rfl) 24 g1)<|e
 refine J (gn 7) ?_
 refine J (q0c (q0q (i:=1) (j:=3) rfl rfl))<|J g<|E
theorem z1S {Rc13:Expr→(List Oc)→Option (Bool×(List Oc))}(Ic13:∀ {m:Md} {a0:Expr} {o0:(List Oc)} {r:(Bool×(List Oc))},Rc13 a0 o0=some r→Ok Tryz.prog 159 [Expr.x m a0,.fn 166 [.pb 0 0]] [.box [.ref 1 none],.row .fz 2 (o0.map Oc.D)] (dB r.1) [.box [.ref 2 none],.dead,.row .fz 2 (r.2.map Oc.D)]){m:Md}{a0:Expr}{o0:(List Oc)}{r:(Bool×(List Oc))}(hr:q5P Rc13 a0 o0=some r):Ok Tryz.prog 202 [Expr.x m a0,.pb 1 0] [.box [.ref 2 none],.box [.fn 166 [.pb 0 0]],.row .fz 2 (o0.map Oc.D)] (dB r.1) [.box [.ref 3 none],.box [.fn 166 [.pb 0 0]],.dead,.row .fz 2 (r.2.map Oc.D)]:=by
 refine OE Tryz.func202 fun S hS=>?_
 unfold q5P at hr
 refine J g<|J (BX' 3)<|bdP hr fun y1 z1 hq1 hr=>J g<|J (CB' [(0,0),(1,2),(2,4)] [] (Ic13 (m:=m) hq1))<|e
theorem q7t {Rc13:Expr→(List Oc)→Option (Bool×(List Oc))}(Ic13:∀ {m:Md} {a0:Expr} {o0:(List Oc)} {r:(Bool×(List Oc))},Rc13 a0 o0=some r→Ok Tryz.prog 159 [Expr.x m a0,.fn 166 [.pb 0 0]] [.box [.ref 1 none],.row .fz 2 (o0.map Oc.D)] (dB r.1) [.box [.ref 2 none],.dead,.row .fz 2 (r.2.map Oc.D)]){m:Md}{a0:(List Expr)}{o0:(List Oc)}{r:(Int×(List Oc))}(hr:q3U Rc13 a0 o0=some r):Ok Tryz.prog 158 [.d m (.sl 7 (a0.map Expr.D)),.fn 202 [.pb 1 0]] [.box [.ref 2 none],.box [.fn 166 [.pb 0 0]],.row .fz 2 (o0.map Oc.D)] (dI r.1) [.box [.ref 3 none],.box [.fn 166 [.pb 0 0]],.dead,.row .fz 2 (r.2.map Oc.D)]:=by
 refine OE Tryz.func158 fun S hS=>?_
 unfold q3U at hr
 refine J (gn 12) ?_
 refine J (q1d 2 3 rfl)<|J (lenT 0)<|fun hl1=>bdE hr fun q1 hqq1 hr=>q0b hqq1 hl1 4 (fun k1 s1=>[(0,.d m (.sl 7 (a0.map Expr.D))),(1,.fn 202 [.pb 1 0]),(7,dI (a0.length:Int)),(8,dI (k1:Int))]) (fun k1 s1=>[(3,.row .fz 2 (s1.map Oc.D))]) I (fun k1 xk1 sk1 ok1 hxk1 hr hltk1 hik1=>?_) fun k1 sk1 ek1 hltk1=>?_
 obtain⟨s1,rfl⟩:∃ y,y=sk1:=⟨_,rfl⟩
 refine bdP hr fun y1 z1 hq2 hr=>J g<|J (CB' [(0,0),(1,1),(2,3),(3,4)] [] (z1S Ic13 (m:=m) hq2))<|J (gn 1)<|ifE hr ?_ ?_<;>intro h1 hr
 exact e
 exact e
 subst ek1
 obtain⟨s1,rfl⟩:∃ y,y=sk1:=⟨_,rfl⟩
 exact e
theorem q6X {Rc13:Expr→(List Oc)→Option (Bool×(List Oc))}(Ic13:∀ {m:Md} {a0:Expr} {o0:(List Oc)} {r:(Bool×(List Oc))},Rc13 a0 o0=some r→Ok Tryz.prog 159 [Expr.x m a0,.fn 166 [.pb 0 0]] [.box [.ref 1 none],.row .fz 2 (o0.map Oc.D)] (dB r.1) [.box [.ref 2 none],.dead,.row .fz 2 (r.2.map Oc.D)]){m:Md}{a0:(List Expr)}{o0:(List Oc)}{r:(Bool×(List Oc))}(hr:q3P Rc13 a0 o0=some r):Ok Tryz.prog 102 [.d m (.sl 7 (a0.map Expr.D)),.fn 202 [.pb 1 0]] [.box [.ref 2 none],.box [.fn 166 [.pb 0 0]],.row .fz 2 (o0.map Oc.D)] (dB r.1) [.box [.ref 3 none],.box [.fn 166 [.pb 0 0]],.dead,.row .fz 2 (r.2.map Oc.D)]:=by
 refine OE Tryz.func102 fun S hS=>?_
 unfold q3P at hr
 refine bdP hr fun y1 z1 hq1 hr=>J g<|J (CB' [(0,0),(1,1),(2,2),(3,3)] [] (q7t Ic13 (m:=m) hq1))<|e
theorem z2o {Rc13:Expr→(List Oc)→Option (Bool×(List Oc))}(Ic13:∀ {m:Md} {a0:Expr} {o0:(List Oc)} {r:(Bool×(List Oc))},Rc13 a0 o0=some r→Ok Tryz.prog 159 [Expr.x m a0,.fn 166 [.pb 0 0]] [.box [.ref 1 none],.row .fz 2 (o0.map Oc.D)] (dB r.1) [.box [.ref 2 none],.dead,.row .fz 2 (r.2.map Oc.D)]){m:Md}{a0:Expr}{o0:(List Oc)}{r:(Bool×(List Oc))}(hr:q5m Rc13 a0 o0=some r):Ok Tryz.prog 159 [Expr.x m a0,.fn 166 [.pb 0 0]] [.box [.ref 1 none],.row .fz 2 (o0.map Oc.D)] (dB r.1) [.box [.ref 2 none],.dead,.row .fz 2 (r.2.map Oc.D)]:=by
 refine OE Tryz.func159 fun S hS=>?_
 unfold q5m at hr
 refine J g<|J (BX' 2)<|J (BX' 3)<|bdP hr fun y1 z1 hq1 hr=>J g<|J (CB' [(0,0),(1,1),(2,4)] [] (z8D (m:=m) hq1))<|ifE hr ?_ ?_<;>intro h1 hr
 refine bdP hr fun y2 z2 hq2 hr=>J g<|J (CB' [(0,0),(1,3),(2,4),(3,5)] [] (q6X Ic13 (m:=m) hq2))<|e
 exact e
theorem z2p (n:Nat):∀ {m:Md} {a0:Expr} {o0:(List Oc)} {r:(Bool×(List Oc))},q4R n a0 o0=some r→Ok Tryz.prog 159 [Expr.x m a0,.fn 166 [.pb 0 0]] [.box [.ref 1 none],.row .fz 2 (o0.map Oc.D)] (dB r.1) [.box [.ref 2 none],.dead,.row .fz 2 (r.2.map Oc.D)]:=by
  induction n with
  | zero=>intro _ _ _ r hr;exact nomatch (show (none:Option (Bool×(List Oc)))=some r from hr)
  | succ n ih=>intro _ _ _ r hr;exact z2o ih hr
theorem z3f {m:Md}{a0:Expr}{o0:(List Oc)}{r:(Bool×(List Oc))}(hr:q7i a0 o0=some r):Ok Tryz.prog 159 [Expr.x m a0,.fn 166 [.pb 0 0]] [.box [.ref 1 none],.row .fz 2 (o0.map Oc.D)] (dB r.1) [.box [.ref 2 none],.dead,.row .fz 2 (r.2.map Oc.D)]:=by
 obtain⟨n,hn⟩:=q6U hr
 exact z2p n hn
theorem z3r {a0:(List Oc)}{r:(List Oc)}(hr:q6m a0=some r):Ok Tryz.prog 167 [.ref 0 none,.fn 168 []] [.row .fz 2 (a0.map Oc.D)] (.tu []) [.row .fz 2 (r.map Oc.D)]:=by
 unfold q6m at hr
 refine ggE hr fun g1 hr=>?_
 cases hr
 exact k4i g1
theorem z3E {a0:(List Oc)}{r:(List Oc)}(hr:q5H a0=some r):Ok Tryz.prog 169 [.ref 0 none] [.row .fz 2 (a0.map Oc.D)] (.ref 1 none) [.dead,.row .fz 2 (r.map Oc.D)]:=by
 refine OE Tryz.func169 fun S hS=>?_
 unfold q5H at hr
 refine J (gn 11)<|ifE hr ?_ ?_<;>intro h1 hr
 refine J (gn 7) ?_
 refine J (q0c (q0q (i:=0) (j:=1) rfl rfl))<|J g<|E
 refine bdE hr fun q1 hqq1 hr=>J (gn 7)<|AW.cut 1 (fun _=>[(0,.ref 0 none)]) (fun _=>[]) (M:=fun x=>q1=.inl x) ?_ fun x hx=>?_
 refine J g<|q0l hqq1 1 (fun s1=>[(0,.ref 0 none),(3,dI s1)]) (fun s1=>[]) I fun sk1 ok1 hr hik1=>?_
 obtain⟨s1,rfl⟩:∃ y,y=sk1:=⟨_,rfl⟩
 have hr:=hr
 refine J (gn 8)<|ifE hr ?_ ?_<;>intro h2 hr
 refine ggE hr fun g1 hr=>bdE hr fun x1 hx1 hr=>ggE hr fun g2 hr=>ggE hr fun g3 hr=>bdE hr fun x2 hx2 hr=>J g ?_
 refine J (SQ' rfl rfl rfl rfl (q6o x1 x2))<|J (gn 1)<|ifE hr ?_ ?_<;>intro h3 hr
 refine ggE hr fun g4 hr=>ggE hr fun g5 hr=>J g<|J (SVL' g4 g5)<|bdP hr fun s2 s3 hqq2 hr=>J (gn 7)<|q0d 1 [(0,.ref 0 none),(3,dI s3)] [(0,.row .fz 2 (s2.map Oc.D))] ?_ ?_
 refine J g ?_
 refine q0l hqq2 1 (fun (s4,s5,s6)=>[(0,.ref 0 none),(3,dI s5),(4,.vs 0 none s1.toNat (s4.length-s1.toNat)),(5,dI s6)]) (fun (s4,s5,s6)=>[(0,.row .fz 2 (s4.map Oc.D))]) (GH.ren hS [(0,0)] 1 ⟨.rfl,.rfl,(.vn (by first|rfl|simp only[List.length_set])),.rfl,trivial⟩) fun sk2 ok2 hr hik2=>?_
 obtain⟨s4,s5,s6⟩:=sk2
 have hr:=hr
 refine J g<|J (LV' (s4.drop s1.toNat).length)<|J (gn 2)<|ifE hr ?_ ?_<;>intro h4 hr
 refine bdP hr fun s7 s8 hqq3 hr=>J (gn 3)<|q0d 1 [(0,.ref 0 none),(3,dI s7),(4,.vs 0 none s1.toNat (s8.length-s1.toNat)),(5,dI s6)] [(0,.row .fz 2 (s8.map Oc.D))] ?_ ?_
 replace hr:=hqq3
 refine ggE hr fun g6 hr=>bdE hr fun x3 hx3 hr=>J g<|J (IV' hx3 g6 (z9P hx3))<|ggE hr fun g7 hr=>ggE hr fun g8 hr=>bdE hr fun x4 hx4 hr=>J g<|J (IV' hx4 g8 (z9P hx4))<|J g ?_
 refine J (SQn' rfl rfl rfl rfl (q6o x3 x4))<|J (gn 1)<|ifE hr ?_ ?_<;>intro h5 hr
 refine J (gn 2) ?_
 cases hr
 exact GH.ren hS [(0,0)] 1 ⟨.rfl,.rfl,(.vn (by first|rfl|simp only[List.length_set])),.rfl,trivial⟩
 refine ggE hr fun g9 hr=>J g<|J (IV' hx3 g9 (z9P hx3))<|ggE hr fun g10 hr=>bdE hr fun x5 hx5 hr=>J g<|J (SE' x3 hx5)<|ggE hr fun g11 hr=>J (gn 6) ?_
 cases hr
 exact GH.ren hS [(0,0)] 1 ⟨.rfl,.rfl,(.vn (by first|rfl|simp only[List.length_set])),.rfl,trivial⟩
 refine ggE hr fun g12 hr=>J (gn 5) ?_
 cases hr
 exact⟨_,rfl,GH.ren hS [(0,0)] 1 ⟨.rfl,.rfl,(.vn (by first|rfl|simp only[List.length_set])),.rfl,trivial⟩⟩
 refine J (gn 2) ?_
 cases hr
 cases hik2 _ rfl
 exact q0i hS 1
 refine ggE hr fun g13 hr=>ggE hr fun g14 hr=>J g<|J (SVL' g13 g14)<|J (CLR' (⟨(0:Int),(⟨#[]⟩:ByteArray)⟩:Oc) g14)<|ggE hr fun g15 hr=>ggE hr fun g16 hr=>J g<|J (CU' 1 g15 g16)<|e
 refine ggE hr fun g17 hr=>e
 refine J (gn 2) ?_
 cases hr
 cases hik1 _ rfl
 exact⟨_,rfl,q0i hS 1⟩
 subst hx
 refine J (gn 6) ?_
 refine J (q0c (q0q (i:=0) (j:=1) rfl rfl))<|J g<|E
theorem z5J {m:Md}{a0:Expr}{r:(List Oc)}(hr:q7j a0=some r):Ok Tryz.prog 114 [Expr.x m a0] [] (.ref 0 none) [.row .fz 2 (r.map Oc.D)]:=by
 refine OE Tryz.func114 fun S hS=>?_
 unfold q7j at hr
 refine J g<|J (BX' 0)<|J g<|J (L0' 1 Oc.D)<|J (NV' 2)<|bdP hr fun y1 z1 hq1 hr=>J g<|J (CB' [(0,2),(1,1),(2,3)] [] (z3f (m:=m) hq1))<|bdE hr fun z2 hz2 hr=>J g<|J (CB' [(0,3)] [] (z3r hz2))<|bdE hr fun y2 hy2 hr=>J g<|J (CB' [(0,3),(1,4)] [] (z3E hy2))<|e
theorem z2q {m:Md}{a0:Symbol}{a1:ByteArray}{r:(At_×Bool)}(hr:q7k a0 a1=some r):Ok Tryz.prog 200 [Symbol.x m a0,dS a1] [] (.tu [At_.x .fz r.1,dB r.2]) []:=by
 refine OE Tryz.func200 fun S hS=>?_
 unfold q7k at hr
 refine J g<|J (BX' 0)<|J (NV' 1)<|J (gn 11)<|J (lenA 1 0)<|fun hl1=>bdE hr fun q1 hqq1 hr=>q0b hqq1 hl1 2 (fun k1 _=>[(1,dS a1),(4,.pb 1 0),(9,.d m (.sl 4 (a0.Attributes.map At_.D))),(10,dI (a0.Attributes.length:Int)),(11,dI (k1:Int))]) (fun k1 _=>[]) I (fun k1 xk1 sk1 ok1 hxk1 hr hltk1 hik1=>?_) fun k1 sk1 ek1 hltk1=>?_
 refine J g<|J (NV' 2)<|J (gn 9)<|ifE hr ?_ ?_<;>intro h1 hr
 exact e
 exact e
 subst ek1
 exact e
theorem z4v {m:Md}{a0:Gm_}{a1:Rule}{a2:Oc}{r:(At_×Bool)}(hr:q8s a0 a1 a2=some r):Ok Tryz.prog 198 [Gm_.y m a0,Rule.x m a1,Oc.x .fz a2] [] (.tu [At_.x .fz r.1,dB r.2]) []:=by
 refine OE Tryz.func198 fun S hS=>?_
 unfold q8s at hr
 refine J g<|J (BX' 0)<|J (BX' 1)<|J (BX' 2)<|J (NV' 3)<|bdE hr fun y1 hy1 hr=>J g<|J (CB' [] [] (q5v hy1))<|J (gn 2)<|ifE hr ?_ ?_<;>intro h1 hr
 refine bdE hr fun y2 hy2 hr=>J g<|J (CB' [] [] (z4S (m:=m) hy2))<|bdP hr fun y3 y4 hq1 hr=>J (CB' [] [] (z0D (m:=m) hq1))<|J g<|J (NV' 4)<|bdP hr fun y5 y6 hq2 hr=>J g<|J (CB' [] [] (z2q (m:=m) hq2))<|e
 exact e
theorem k0R {m:Md}{a0:Gm_}{a1:Rule}{a2:Oc}{r:Bool}(hr:z7t a0 a1 a2=some r):Ok Tryz.prog 229 [Gm_.y m a0,Rule.x m a1,Oc.x .fz a2] [] (dB r) []:=by
 refine OE Tryz.func229 fun S hS=>?_
 unfold z7t at hr
 refine J g<|J (BX' 0)<|J (BX' 1)<|J (BX' 2)<|bdP hr fun y1 y2 hq1 hr=>J g<|J (CB' [] [] (z4v (m:=m) hq1))<|J g<|J (NV' 3)<|J (gn 10)<|ifE hr ?_ ?_<;>intro h1 hr
 refine bdE hr fun s1 hqq2 hr=>J (gn 4)<|q0a 5 [(6,dB false),(24,dB s1)] ?_ ?_
 replace hr:=hqq2
 refine ifE hr ?_ ?_<;>intro h2 hr
 exact e
 exact e
 exact e
 refine bdE hr fun s2 hqq3 hr=>J (gn 5)<|q0a 5 [(6,dB false),(30,dB s2)] ?_ ?_
 replace hr:=hqq3
 refine ifE hr ?_ ?_<;>intro h3 hr
 exact e
 exact e
 exact e
theorem j2C {m2:Md}{a0:Oc}{a1:Gm_}{a2:Rule}{r:Bool}(hr:z2I a0 a1 a2=some r):Ok Tryz.prog 228 [Oc.x .fz a0,.pb 0 0,.pb 1 0] [.box [.d m2 (.sl 2 (a1.Symbols.map Symbol.D)),.d m2 (.sl 6 (a1.Rules.map Rule.D))],.box [dS a2.Name,dS a2.Left,.d m2 (.sl 1 (a2.Right.map A.D.s)),dB a2.Literal,.d m2 (.sl 9 (a2.Equations.map Eqn.D)),.d m2 (.sl 16 (a2.Contributions.map Cn.D))]] (dB r) [.box [.d m2 (.sl 2 (a1.Symbols.map Symbol.D)),.d m2 (.sl 6 (a1.Rules.map Rule.D))],.box [dS a2.Name,dS a2.Left,.d m2 (.sl 1 (a2.Right.map A.D.s)),dB a2.Literal,.d m2 (.sl 9 (a2.Equations.map Eqn.D)),.d m2 (.sl 16 (a2.Contributions.map Cn.D))]]:=by
 refine OE Tryz.func228 fun S hS=>?_
 unfold z2I at hr
 refine J g<|J (BX' 2)<|bdE hr fun y1 hy1 hr=>J g<|J (CB' [] [] (k0R (m:=m2) hy1))<|e
theorem q9g {m2:Md}{a0:(List Oc)}{a1_0:Gm_}{a1_1:Rule}{r:Int}(hr:q4D a0 a1_0 a1_1=some r):Ok Tryz.prog 118 [.ref 2 none,.fn 228 [.pb 0 0,.pb 1 0]] [.box [.d m2 (.sl 2 (a1_0.Symbols.map Symbol.D)),.d m2 (.sl 6 (a1_0.Rules.map Rule.D))],.box [dS a1_1.Name,dS a1_1.Left,.d m2 (.sl 1 (a1_1.Right.map A.D.s)),dB a1_1.Literal,.d m2 (.sl 9 (a1_1.Equations.map Eqn.D)),.d m2 (.sl 16 (a1_1.Contributions.map Cn.D))],.row .fz 2 (a0.map Oc.D)] (dI r) [.box [.d m2 (.sl 2 (a1_0.Symbols.map Symbol.D)),.d m2 (.sl 6 (a1_0.Rules.map Rule.D))],.box [dS a1_1.Name,dS a1_1.Left,.d m2 (.sl 1 (a1_1.Right.map A.D.s)),dB a1_1.Literal,.d m2 (.sl 9 (a1_1.Equations.map Eqn.D)),.d m2 (.sl 16 (a1_1.Contributions.map Cn.D))],.row .fz 2 (a0.map Oc.D)]:=by
 refine OE Tryz.func118 fun S hS=>?_
 unfold q4D at hr
 refine J (gn 12)<|J (lenR 2)<|fun hl1=>bdE hr fun q1 hqq1 hr=>q0b hqq1 hl1 3 (fun k1 _=>[(0,.ref 2 none),(1,.fn 228 [.pb 0 0,.pb 1 0]),(7,dI (a0.length:Int)),(8,dI (k1:Int))]) (fun k1 _=>[]) I (fun k1 xk1 sk1 ok1 hxk1 hr hltk1 hik1=>?_) fun k1 sk1 ek1 hltk1=>?_
 refine bdE hr fun y1 hy1 hr=>J g<|J (CB' [(0,0),(1,1)] [] (j2C (m2:=m2) hy1))<|J (gn 1)<|ifE hr ?_ ?_<;>intro h1 hr
 exact e
 exact e
 subst ek1
 exact e
theorem q8w {m2:Md}{a0:(List Oc)}{a1_0:Gm_}{a1_1:Rule}{r:Bool}(hr:q4r a0 a1_0 a1_1=some r):Ok Tryz.prog 69 [.ref 2 none,.fn 228 [.pb 0 0,.pb 1 0]] [.box [.d m2 (.sl 2 (a1_0.Symbols.map Symbol.D)),.d m2 (.sl 6 (a1_0.Rules.map Rule.D))],.box [dS a1_1.Name,dS a1_1.Left,.d m2 (.sl 1 (a1_1.Right.map A.D.s)),dB a1_1.Literal,.d m2 (.sl 9 (a1_1.Equations.map Eqn.D)),.d m2 (.sl 16 (a1_1.Contributions.map Cn.D))],.row .fz 2 (a0.map Oc.D)] (dB r) [.box [.d m2 (.sl 2 (a1_0.Symbols.map Symbol.D)),.d m2 (.sl 6 (a1_0.Rules.map Rule.D))],.box [dS a1_1.Name,dS a1_1.Left,.d m2 (.sl 1 (a1_1.Right.map A.D.s)),dB a1_1.Literal,.d m2 (.sl 9 (a1_1.Equations.map Eqn.D)),.d m2 (.sl 16 (a1_1.Contributions.map Cn.D))],.row .fz 2 (a0.map Oc.D)]:=by
 refine OE Tryz.func69 fun S hS=>?_
 unfold q4r at hr
 refine bdE hr fun y1 hy1 hr=>J g<|J (CB' [(0,0),(1,1),(2,2)] [] (q9g (m2:=m2) hy1))<|e
theorem j5o {m:Md}{m2:Md}{a0:Expr}{a1:Gm_}{a2:Rule}{r:Bool}(hr:z2X a0 a1 a2=some r):Ok Tryz.prog 227 [Expr.x m a0,.pb 0 0,.pb 1 0] [.box [.d m2 (.sl 2 (a1.Symbols.map Symbol.D)),.d m2 (.sl 6 (a1.Rules.map Rule.D))],.box [dS a2.Name,dS a2.Left,.d m2 (.sl 1 (a2.Right.map A.D.s)),dB a2.Literal,.d m2 (.sl 9 (a2.Equations.map Eqn.D)),.d m2 (.sl 16 (a2.Contributions.map Cn.D))]] (dB r) [.box [.d m2 (.sl 2 (a1.Symbols.map Symbol.D)),.d m2 (.sl 6 (a1.Rules.map Rule.D))],.box [dS a2.Name,dS a2.Left,.d m2 (.sl 1 (a2.Right.map A.D.s)),dB a2.Literal,.d m2 (.sl 9 (a2.Equations.map Eqn.D)),.d m2 (.sl 16 (a2.Contributions.map Cn.D))]]:=by
 refine OE Tryz.func227 fun S hS=>?_
 unfold z2X at hr
 refine J g<|J (BX' 2)<|bdE hr fun y1 hy1 hr=>J g<|J (CB' [(0,3)] [] (z5J (m:=m) hy1))<|bdE hr fun y2 hy2 hr=>J g<|J (CB' [(0,0),(1,1),(2,3)] [] (q8w (m2:=m2) hy2))<|e
theorem z0R {m2:Md}{a0:(List Expr)}{a1_0:Gm_}{a1_1:Rule}{r:Int}(hr:q5q a0 a1_0 a1_1=some r):Ok Tryz.prog 158 [.ref 2 none,.fn 227 [.pb 0 0,.pb 1 0]] [.box [.d m2 (.sl 2 (a1_0.Symbols.map Symbol.D)),.d m2 (.sl 6 (a1_0.Rules.map Rule.D))],.box [dS a1_1.Name,dS a1_1.Left,.d m2 (.sl 1 (a1_1.Right.map A.D.s)),dB a1_1.Literal,.d m2 (.sl 9 (a1_1.Equations.map Eqn.D)),.d m2 (.sl 16 (a1_1.Contributions.map Cn.D))],.row m2 7 (a0.map Expr.D)] (dI r) [.box [.d m2 (.sl 2 (a1_0.Symbols.map Symbol.D)),.d m2 (.sl 6 (a1_0.Rules.map Rule.D))],.box [dS a1_1.Name,dS a1_1.Left,.d m2 (.sl 1 (a1_1.Right.map A.D.s)),dB a1_1.Literal,.d m2 (.sl 9 (a1_1.Equations.map Eqn.D)),.d m2 (.sl 16 (a1_1.Contributions.map Cn.D))],.row m2 7 (a0.map Expr.D)]:=by
 refine OE Tryz.func158 fun S hS=>?_
 unfold q5q at hr
 refine J (gn 12)<|J (lenR 2)<|fun hl1=>bdE hr fun q1 hqq1 hr=>q0b hqq1 hl1 3 (fun k1 _=>[(0,.ref 2 none),(1,.fn 227 [.pb 0 0,.pb 1 0]),(7,dI (a0.length:Int)),(8,dI (k1:Int))]) (fun k1 _=>[]) I (fun k1 xk1 sk1 ok1 hxk1 hr hltk1 hik1=>?_) fun k1 sk1 ek1 hltk1=>?_
 refine J g<|J (k8s hxk1 (Expr.D_cells xk1))<|bdE hr fun y1 hy1 hr=>J (CB' [(0,0),(1,1)] [] (j5o (m:=m2) (m2:=m2) hy1))<|J (gn 1)<|ifE hr ?_ ?_<;>intro h1 hr
 exact e
 exact e
 subst ek1
 exact e
theorem z0h {m2:Md}{a0:(List Expr)}{a1_0:Gm_}{a1_1:Rule}{r:Bool}(hr:q5d a0 a1_0 a1_1=some r):Ok Tryz.prog 102 [.ref 2 none,.fn 227 [.pb 0 0,.pb 1 0]] [.box [.d m2 (.sl 2 (a1_0.Symbols.map Symbol.D)),.d m2 (.sl 6 (a1_0.Rules.map Rule.D))],.box [dS a1_1.Name,dS a1_1.Left,.d m2 (.sl 1 (a1_1.Right.map A.D.s)),dB a1_1.Literal,.d m2 (.sl 9 (a1_1.Equations.map Eqn.D)),.d m2 (.sl 16 (a1_1.Contributions.map Cn.D))],.row m2 7 (a0.map Expr.D)] (dB r) [.box [.d m2 (.sl 2 (a1_0.Symbols.map Symbol.D)),.d m2 (.sl 6 (a1_0.Rules.map Rule.D))],.box [dS a1_1.Name,dS a1_1.Left,.d m2 (.sl 1 (a1_1.Right.map A.D.s)),dB a1_1.Literal,.d m2 (.sl 9 (a1_1.Equations.map Eqn.D)),.d m2 (.sl 16 (a1_1.Contributions.map Cn.D))],.row m2 7 (a0.map Expr.D)]:=by
 refine OE Tryz.func102 fun S hS=>?_
 unfold q5d at hr
 refine bdE hr fun y1 hy1 hr=>J g<|J (CB' [(0,0),(1,1),(2,2)] [] (z0R (m2:=m2) hy1))<|e
theorem j8s {m:Md}{a0:Gm_}{a1:Rule}{r:Bool}(hr:z5B a0 a1=some r):Ok Tryz.prog 197 [Gm_.x m a0,Rule.x m a1] [] (dB r) []:=by
 refine OE Tryz.func197 fun S hS=>?_
 unfold z5B at hr
 refine J g<|J (BX' 0)<|J (BX' 1)<|bdE hr fun y1 hy1 hr=>J g<|J (CB' [(0,2)] [] (z7z (m:=m) hy1))<|bdE hr fun y2 hy2 hr=>J g<|J (CB' [(0,0),(1,1),(2,2)] [] (z0h (m2:=m) hy2))<|e
theorem j3N {m:Md}{a0:Gm_}{r:(Int×Int)}(hr:z1D a0=some r):Ok Tryz.prog 154 [Gm_.x m a0] [] (.tu [dI r.1,dI r.2]) []:=by
 refine OE Tryz.func154 fun S hS=>?_
 unfold z1D at hr
 refine J g<|J (BX' 0)<|bdE hr fun y1 hy1 hr=>J g<|J (CB' [] [] (q5v hy1))<|J (gn 1)<|ifE hr ?_ ?_<;>intro h1 hr
 refine bdE hr fun y2 hy2 hr=>J g<|J (CB' [] [] (q5v hy2))<|J (gn 3)<|ifE hr ?_ ?_<;>intro h2 hr
 refine bdE hr fun y3 hy3 hr=>J g<|J (CB' [] [] (j3M (m:=m) hy3))<|J (gn 7)<|ifE hr ?_ ?_<;>intro h3 hr
 exact e
 refine bdE hr fun x1 hx1 hr=>bdE hr fun y4 hy4 hr=>J g<|J (CB' [] [] (q8v (m:=m) hy4))<|J (gn 1)<|ifE hr ?_ ?_<;>intro h4 hr
 exact e
 refine bdE hr fun q1 hqq1 hr=>J (gn 7)<|AW.cut 1 (fun _=>[]) (fun _=>[]) (M:=fun x=>q1=.inl x) ?_ fun x hx=>?_
 refine J g<|q0l hqq1 1 (fun s1=>[(1,.pb 0 0),(5,dI s1)]) (fun s1=>[]) I fun sk1 ok1 hr hik1=>?_
 obtain⟨s1,rfl⟩:∃ y,y=sk1:=⟨_,rfl⟩
 have hr:=hr
 refine J (gn 6)<|ifE hr ?_ ?_<;>intro h5 hr
 refine J (gn 12)<|J (lenT 37)<|fun hl2=>bdE hr fun q2 hqq2 hr=>q0b hqq2 hl2 1 (fun k2 _=>[(1,.pb 0 0),(5,dI s1),(37,.d m (.sl 6 (a0.Rules.map Rule.D))),(38,dI (a0.Rules.length:Int)),(39,dI (k2:Int))]) (fun k2 _=>[]) I (fun k2 xk2 sk2 ok2 hxk2 hr hltk2 hik2=>?_) fun k2 sk2 ek2 hltk2=>?_
 refine J g<|J (NV' 1)<|J (gn 18)<|ifE hr ?_ ?_<;>intro h6 hr
 refine bdE hr fun y5 hy5 hr=>J g<|J (CB' [] [] (j8p (m:=m) hy5))<|J (gn 6)<|ifE hr ?_ ?_<;>intro h7 hr
 exact e
 exact e
 refine J (gn 6)<|ifE hr ?_ ?_<;>intro h8 hr
 refine bdE hr fun y6 hy6 hr=>J g<|J (CB' [] [] (j8q (m:=m) hy6))<|J (gn 6)<|ifE hr ?_ ?_<;>intro h9 hr
 exact e
 exact e
 refine J (gn 6)<|ifE hr ?_ ?_<;>intro h10 hr
 refine bdE hr fun y7 hy7 hr=>J g<|J (CB' [] [] (k2h (m:=m) hy7))<|J (gn 6)<|ifE hr ?_ ?_<;>intro h11 hr
 exact e
 exact e
 refine bdE hr fun y8 hy8 hr=>J g<|J (CB' [] [] (j8s (m:=m) hy8))<|J (gn 6)<|ifE hr ?_ ?_<;>intro h12 hr
 exact e
 exact e
 subst ek2
 refine ggE hr fun g1 hr=>e
 refine J (gn 2) ?_
 cases hr
 cases hik1 _ rfl
 exact⟨_,rfl,q0i hS 1⟩
 subst hx
 exact e
 exact e
 exact e
theorem j1e {a0:Int}{r:(Int×Int×Int)}(hr:q9T a0=some r):Ok Tryz.prog 230 [dI a0] [] (.tu [dI r.1,dI r.2.1,dI r.2.2]) []:=by
 refine OE Tryz.func230 fun S hS=>?_
 unfold q9T at hr
 refine bdE hr fun s1 hqq1 hr=>J (gn 18)<|q0d 0 [(5,dI a0),(6,dB s1)] [] ?_ ?_
 replace hr:=hqq1
 refine ifE hr ?_ ?_<;>intro h1 hr
 exact e
 refine J (gn 6)<|ifE hr ?_ ?_<;>intro h2 hr
 exact e
 refine J (gn 6)<|ifE hr ?_ ?_<;>intro h3 hr
 exact e
 refine J (gn 6)<|ifE hr ?_ ?_<;>intro h4 hr
 exact e
 exact e
 refine ifE hr ?_ ?_<;>intro h5 hr
 exact e
 refine bdE hr fun s2 hqq2 hr=>J (gn 7)<|q0d 0 [(5,dI a0),(12,dB s2)] [] ?_ ?_
 replace hr:=hqq2
 refine ifE hr ?_ ?_<;>intro h6 hr
 exact e
 refine J (gn 6)<|ifE hr ?_ ?_<;>intro h7 hr
 exact e
 exact e
 refine ifE hr ?_ ?_<;>intro h8 hr
 exact e
 refine J (gn 7)<|ifE hr ?_ ?_<;>intro h9 hr
 refine J (gn 2)<|ifE hr ?_ ?_<;>intro h10 hr
 exact e
 refine J (gn 6)<|ifE hr ?_ ?_<;>intro h11 hr
 exact e
 refine J (gn 6)<|ifE hr ?_ ?_<;>intro h12 hr
 exact e
 exact e
 refine J (gn 5)<|ifE hr ?_ ?_<;>intro h13 hr
 exact e
 refine J (gn 6)<|ifE hr ?_ ?_<;>intro h14 hr
 exact e
 refine J (gn 6)<|ifE hr ?_ ?_<;>intro h15 hr
 exact e
 exact e
theorem j2D {Rc14:Gm_→Rule→Expr→Option Int}(Ic14:∀ {m:Md} {a0:Gm_} {a1:Rule} {a2:Expr} {r:Int},Rc14 a0 a1 a2=some r→Ok Tryz.prog 199 [Gm_.y m a0,Rule.x m a1,Expr.x m a2] [] (dI r) []){m:Md}{a0:Gm_}{a1:Rule}{a2:Expr}{r:Int}(hr:z1E Rc14 a0 a1 a2=some r):Ok Tryz.prog 199 [Gm_.y m a0,Rule.x m a1,Expr.x m a2] [] (dI r) []:=by
 refine OE Tryz.func199 fun S hS=>?_
 unfold z1E at hr
 refine J g<|J (BX' 0)<|J (BX' 1)<|J (BX' 2)<|J g<|J (L0' 3 (A.D.i .i64))<|J (gn 11)<|J (lenA 6 2)<|fun hl1=>bdE hr fun s1 hqq1 hr=>q0f hqq1 hl1 4 (fun k1 s1=>[(3,.pb 0 0),(4,.pb 1 0),(5,.pb 2 0),(7,.ref 3 none),(21,.d m (.sl 7 (a2.Args.map Expr.D))),(22,dI (a2.Args.length:Int)),(23,dI (k1:Int))]) (fun k1 s1=>[(3,.row .fz 1 (s1.map (A.D.i .i64)))]) I (fun k1 xk1 sk1 ok1 hxk1 hr hltk1=>?_) fun k1 hltk1=>?_
 obtain⟨s1,rfl⟩:∃ y,y=sk1:=⟨_,rfl⟩
 refine J g<|J (NV' 4)<|bdE hr fun y1 hy1 hr=>J g<|J (CB' [] [] (Ic14 (m:=m) hy1))<|J (LIR' 5 (m:=.fz) (f:=(A.D.i .i64)) (xs:=([y1]:List Int)))<|ggE hr fun g1 hr=>J (z3z (f:=(A.D.i .i64)) 6 (fun _=>rfl) 8 g1)<|e
 refine J (gn 16)<|ifE hr ?_ ?_<;>intro h1 hr
 exact e
 refine bdE hr fun s2 hqq2 hr=>J (gn 6)<|q0a 4 [(3,.pb 0 0),(4,.pb 1 0),(5,.pb 2 0),(7,.ref 3 none),(48,dB s2)] ?_ ?_
 replace hr:=hqq2
 refine ifE hr ?_ ?_<;>intro h2 hr
 exact e
 exact e
 refine J (gn 2)<|ifE hr ?_ ?_<;>intro h3 hr
 exact e
 refine J (gn 8)<|ifE hr ?_ ?_<;>intro h4 hr
 refine bdP hr fun y2 y3 hq3 hr=>J g<|J (CB' [] [] (z4v (m:=m) hq3))<|J g<|J (NV' 4)<|e
 refine bdE hr fun s3 hqq4 hr=>J (gn 6)<|q0a 5 [(3,.pb 0 0),(4,.pb 1 0),(5,.pb 2 0),(7,.ref 3 none),(74,dB s3)] ?_ ?_
 replace hr:=hqq4
 refine ifE hr ?_ ?_<;>intro h5 hr
 exact e
 exact e
 refine J (gn 2)<|ifE hr ?_ ?_<;>intro h6 hr
 refine bdT hr fun y4 y5 y6 hq5 hr=>J g<|J (CB' [] [] (j1e hq5))<|bdE hr fun x1 hx1 hr=>bdE hr fun s4 hqq6 hr=>J (gn 15)<|q0a 7 [(14,dI y6),(93,dB s4)] ?_ ?_
 replace hr:=hqq6
 refine ifE hr ?_ ?_<;>intro h7 hr
 refine bdE hr fun x2 hx2 hr=>e
 exact e
 refine J (gn 1)<|ifE hr ?_ ?_<;>intro h8 hr
 exact e
 exact e
 refine bdE hr fun s5 hqq7 hr=>J (gn 6)<|q0a 5 [(3,.pb 0 0),(4,.pb 1 0),(5,.pb 2 0),(7,.ref 3 none),(103,dB s5)] ?_ ?_
 replace hr:=hqq7
 refine ifE hr ?_ ?_<;>intro h9 hr
 exact e
 exact e
 refine J (gn 2)<|ifE hr ?_ ?_<;>intro h10 hr
 refine bdE hr fun x3 hx3 hr=>J (gn 7)<|ifE hr ?_ ?_<;>intro h11 hr
 refine bdE hr fun x4 hx4 hr=>bdE hr fun x5 hx5 hr=>J (gn 10)<|ifE hr ?_ ?_<;>intro h12 hr
 exact e
 exact e
 exact e
 refine bdE hr fun s6 hqq8 hr=>J (gn 7)<|q0a 8 [(3,.pb 0 0),(5,.pb 2 0),(7,.ref 3 none),(131,dB s6)] ?_ ?_
 replace hr:=hqq8
 refine ifE hr ?_ ?_<;>intro h13 hr
 refine bdE hr fun y7 hy7 hr=>J g<|J (CB' [] [] (q5v hy7))<|e
 exact e
 refine bdE hr fun s7 hqq9 hr=>J (gn 2)<|q0d 4 [(3,.pb 0 0),(5,.pb 2 0),(7,.ref 3 none),(120,dB s7)] [] ?_ ?_
 replace hr:=hqq9
 refine ifE hr ?_ ?_<;>intro h14 hr
 exact e
 exact e
 refine ifE hr ?_ ?_<;>intro h15 hr
 exact e
 refine bdE hr fun s8 hqq10 hr=>J (gn 6)<|q0a 5 [(3,.pb 0 0),(5,.pb 2 0),(7,.ref 3 none),(143,dB s8)] ?_ ?_
 replace hr:=hqq10
 refine ifE hr ?_ ?_<;>intro h16 hr
 exact e
 exact e
 refine bdE hr fun s9 hqq11 hr=>q0a 6 [(3,.pb 0 0),(5,.pb 2 0),(149,dB s9)] ?_ ?_
 replace hr:=hqq11
 refine ifE hr ?_ ?_<;>intro h17 hr
 refine bdE hr fun x6 hx6 hr=>e
 exact e
 refine J (gn 2)<|ifE hr ?_ ?_<;>intro h18 hr
 refine bdP hr fun y8 y9 hq12 hr=>J g<|J (CB' [] [] (z0D (m:=m) hq12))<|J g<|J (NV' 4)<|bdP hr fun y10 y11 hq13 hr=>J g<|J (CB' [] [] (z2q (m:=m) hq13))<|J g<|J (NV' 5)<|e
 exact e
theorem j2E (n:Nat):∀ {m:Md} {a0:Gm_} {a1:Rule} {a2:Expr} {r:Int},q9c n a0 a1 a2=some r→Ok Tryz.prog 199 [Gm_.y m a0,Rule.x m a1,Expr.x m a2] [] (dI r) []:=by
  induction n with
  | zero=>intro _ _ _ _ r hr;exact nomatch (show (none:Option Int)=some r from hr)
  | succ n ih=>intro _ _ _ _ r hr;exact j2D ih hr
theorem z5h {m:Md}{a0:Gm_}{a1:Rule}{a2:Expr}{r:Int}(hr:z1F a0 a1 a2=some r):Ok Tryz.prog 199 [Gm_.y m a0,Rule.x m a1,Expr.x m a2] [] (dI r) []:=by
 obtain⟨n,hn⟩:=q6U hr
 exact j2E n hn
theorem j6U {m:Md}{a0:Gm_}{a1:Rule}{r:Bool}(hr:z4q a0 a1=some r):Ok Tryz.prog 155 [Gm_.y m a0,Rule.x m a1] [] (dB r) []:=by
 refine OE Tryz.func155 fun S hS=>?_
 unfold z4q at hr
 refine J g<|J (BX' 0)<|J (BX' 1)<|J (gn 11)<|J (lenA 4 1)<|fun hl1=>bdE hr fun q1 hqq1 hr=>q0b hqq1 hl1 2 (fun k1 _=>[(2,.pb 0 0),(3,.pb 1 0),(16,.d m (.sl 9 (a1.Equations.map Eqn.D))),(17,dI (a1.Equations.length:Int)),(18,dI (k1:Int))]) (fun k1 _=>[]) I (fun k1 xk1 sk1 ok1 hxk1 hr hltk1 hik1=>?_) fun k1 sk1 ek1 hltk1=>?_
 refine J g<|J (NV' 2)<|bdP hr fun y1 y2 hq2 hr=>J g<|J (CB' [] [] (z4v (m:=m) hq2))<|J g<|J (NV' 3)<|bdE hr fun y3 hy3 hr=>J g<|J (CB' [] [] (z5h (m:=m) hy3))<|J (gn 4)<|ifE hr ?_ ?_<;>intro h1 hr
 exact e
 exact e
 subst ek1
 refine J (gn 16)<|J (lenT 40)<|fun hl2=>bdE hr fun q3 hqq3 hr=>q0b hqq3 hl2 2 (fun k2 _=>[(2,.pb 0 0),(3,.pb 1 0),(40,.d m (.sl 16 (a1.Contributions.map Cn.D))),(41,dI (a1.Contributions.length:Int)),(42,dI (k2:Int))]) (fun k2 _=>[]) I (fun k2 xk2 sk2 ok2 hxk2 hr hltk2 hik2=>?_) fun k2 sk2 ek2 hltk2=>?_
 refine J g<|J (NV' 2)<|bdP hr fun y4 y5 hq4 hr=>J g<|J (CB' [] [] (z0D (m:=m) hq4))<|J g<|J (NV' 3)<|bdP hr fun y6 y7 hq5 hr=>J g<|J (CB' [] [] (z2q (m:=m) hq5))<|J g<|J (NV' 4)<|bdE hr fun y8 hy8 hr=>J g<|J (CB' [] [] (z5h (m:=m) hy8))<|bdE hr fun s1 hqq6 hr=>J (gn 1)<|q0a 8 [(2,.pb 0 0),(3,.pb 1 0),(13,.pb 4 0),(40,.d m (.sl 16 (a1.Contributions.map Cn.D))),(41,dI (a1.Contributions.length:Int)),(42,dI (k2:Int)),(73,dB s1)] ?_ ?_
 replace hr:=hqq6
 refine ifE hr ?_ ?_<;>intro h2 hr
 refine bdE hr fun y9 hy9 hr=>J g<|J (CB' [] [] (z5h (m:=m) hy9))<|e
 exact e
 refine bdE hr fun s2 hqq7 hr=>q0a 5 [(2,.pb 0 0),(3,.pb 1 0),(40,.d m (.sl 16 (a1.Contributions.map Cn.D))),(41,dI (a1.Contributions.length:Int)),(42,dI (k2:Int)),(78,dB s2)] ?_ ?_
 replace hr:=hqq7
 refine ifE hr ?_ ?_<;>intro h3 hr
 exact e
 exact e
 refine J (gn 1)<|ifE hr ?_ ?_<;>intro h4 hr
 exact e
 exact e
 subst ek2
 exact e
theorem j5p {m2:Md}{a0:ByteArray}{a1:Gm_}{a2:(List Int)}{r:Int}(hr:z2Y a0 a1 a2=some r):Ok Tryz.prog 201 [dS a0,.pb 0 0,.pb 1 0] [.box [.d m2 (.sl 2 (a1.Symbols.map Symbol.D)),.d m2 (.sl 6 (a1.Rules.map Rule.D))],.box [.ref 2 none],.row .fz 1 (a2.map (A.D.i .i64))] (dI r) [.box [.d m2 (.sl 2 (a1.Symbols.map Symbol.D)),.d m2 (.sl 6 (a1.Rules.map Rule.D))],.box [.ref 2 none],.row .fz 1 (a2.map (A.D.i .i64))]:=by
 refine OE Tryz.func201 fun S hS=>?_
 unfold z2Y at hr
 refine J (gn 13)<|J (lenT 8)<|fun hl1=>bdE hr fun q1 hqq1 hr=>q0b hqq1 hl1 3 (fun k1 _=>[(0,dS a0),(2,.pb 1 0),(8,.d m2 (.sl 2 (a1.Symbols.map Symbol.D))),(9,dI (a1.Symbols.length:Int)),(10,dI (k1:Int))]) (fun k1 _=>[]) I (fun k1 xk1 sk1 ok1 hxk1 hr hltk1 hik1=>?_) fun k1 sk1 ek1 hltk1=>?_
 refine J g<|J (NV' 3)<|J (gn 10)<|ifE hr ?_ ?_<;>intro h1 hr
 refine bdE hr fun x1 hx1 hr=>e
 exact e
 subst ek1
 exact e
theorem j8t {m:Md}{a0:Gm_}{r:(List Int)}(hr:z3R a0=some r):Ok Tryz.prog 156 [Gm_.x m a0] [] (.ref 0 none) [.row .fz 1 (r.map (A.D.i .i64))]:=by
 refine OE Tryz.func156 fun S hS=>?_
 unfold z3R at hr
 refine J g<|J (BX' 0)<|ggE hr fun g1 hr=>J g<|J (MKR' 1 (f:=(A.D.i .i64)) (0:Int) g1.1 g1.2.1 g1.2.2)<|J (NV' 2)<|bdE hr fun s1 hqq1 hr=>J (gn 12)<|q0d 3 [(3,.pb 2 0)] [(1,.row .fz 1 (s1.map (A.D.i .i64)))] ?_ ?_
 refine J g<|q0l hqq1 3 (fun (s3,s2)=>[(1,.pb 0 0),(3,.pb 2 0),(4,.fn 201 [.pb 0 0,.pb 2 0]),(5,dI s3)]) (fun (s3,s2)=>[(1,.row .fz 1 (s2.map (A.D.i .i64)))]) I fun sk1 ok1 hr hik1=>?_
 obtain⟨s3,s2⟩:=sk1
 have hr:=hr
 refine J (gn 9)<|ifE hr ?_ ?_<;>intro h1 hr
 refine ggE hr fun g2 hr=>J g<|J (MKR' 3 (f:=(A.D.i .i64)) (0:Int) g2.1 g2.2.1 g2.2.2)<|ggE hr fun g3 hr=>J g<|J (k8t g3)<|J (gn 10)<|J (lenT 21)<|fun hl2=>bdE hr fun s4 hqq2 hr=>q0f hqq2 hl2 4 (fun k2 s4=>[(1,.pb 0 0),(3,.pb 2 0),(4,.fn 201 [.pb 0 0,.pb 2 0]),(5,dI s3),(6,.ref 3 none),(33,.d m (.sl 2 (a0.Symbols.map Symbol.D))),(34,dI (a0.Symbols.length:Int)),(35,dI (k2:Int))]) (fun k2 s4=>[(3,.row .fz 1 (s4.map (A.D.i .i64)))]) I (fun k2 xk2 sk2 ok2 hxk2 hr hltk2=>?_) fun k2 hltk2=>?_
 obtain⟨s4,rfl⟩:∃ y,y=sk2:=⟨_,rfl⟩
 refine bdE hr fun s5 hqq3 hr=>J (gn 8)<|q0d 4 [(1,.pb 0 0),(3,.pb 2 0),(4,.fn 201 [.pb 0 0,.pb 2 0]),(5,dI s3),(6,.ref 3 none),(33,.d m (.sl 2 (a0.Symbols.map Symbol.D))),(34,dI (a0.Symbols.length:Int)),(35,dI (k2:Int))] [(3,.row .fz 1 (s5.map (A.D.i .i64)))] ?_ ?_
 replace hr:=hqq3
 refine J g<|J (NV' 4)<|bdE hr fun x1 hx1 hr=>J (gn 12)<|ifE hr ?_ ?_<;>intro h2 hr
 exact e
 refine J (gn 10)<|J (lenT 46)<|fun hl3=>bdE hr fun s6 hqq4 hr=>q0f hqq4 hl3 5 (fun k3 s6=>[(1,.pb 0 0),(3,.pb 2 0),(4,.fn 201 [.pb 0 0,.pb 2 0]),(5,dI s3),(6,.ref 3 none),(7,dI (k2:Int)),(8,.pb 4 0),(33,.d m (.sl 2 (a0.Symbols.map Symbol.D))),(34,dI (a0.Symbols.length:Int)),(35,dI (k2:Int)),(46,.d m (.sl 6 (a0.Rules.map Rule.D))),(47,dI (a0.Rules.length:Int)),(48,dI (k3:Int))]) (fun k3 s6=>[(3,.row .fz 1 (s6.map (A.D.i .i64)))]) I (fun k3 xk3 sk3 ok3 hxk3 hr hltk3=>?_) fun k3 hltk3=>?_
 obtain⟨s6,rfl⟩:∃ y,y=sk3:=⟨_,rfl⟩
 refine bdE hr fun s7 hqq5 hr=>J (gn 8)<|q0d 5 [(1,.pb 0 0),(3,.pb 2 0),(4,.fn 201 [.pb 0 0,.pb 2 0]),(5,dI s3),(6,.ref 3 none),(7,dI (k2:Int)),(8,.pb 4 0),(33,.d m (.sl 2 (a0.Symbols.map Symbol.D))),(34,dI (a0.Symbols.length:Int)),(35,dI (k2:Int)),(46,.d m (.sl 6 (a0.Rules.map Rule.D))),(47,dI (a0.Rules.length:Int)),(48,dI (k3:Int))] [(3,.row .fz 1 (s7.map (A.D.i .i64)))] ?_ ?_
 replace hr:=hqq5
 refine J g<|J (NV' 5)<|J (gn 20)<|J (lenA 2 51)<|fun hl4=>bdE hr fun s8 hqq6 hr=>q0f hqq6 hl4 6 (fun k4 s8=>[(1,.pb 0 0),(3,.pb 2 0),(4,.fn 201 [.pb 0 0,.pb 2 0]),(5,dI s3),(6,.ref 3 none),(7,dI (k2:Int)),(8,.pb 4 0),(11,dB s8),(33,.d m (.sl 2 (a0.Symbols.map Symbol.D))),(34,dI (a0.Symbols.length:Int)),(35,dI (k2:Int)),(46,.d m (.sl 6 (a0.Rules.map Rule.D))),(47,dI (a0.Rules.length:Int)),(48,dI (k3:Int)),(58,.d m (.sl 1 (xk3.Right.map A.D.s))),(59,dI (xk3.Right.length:Int)),(60,dI (k4:Int))]) (fun k4 s8=>[]) I (fun k4 xk4 sk4 ok4 hxk4 hr hltk4=>?_) fun k4 hltk4=>?_
 obtain⟨s8,rfl⟩:∃ y,y=sk4:=⟨_,rfl⟩
 refine bdE hr fun s9 hqq7 hr=>J (gn 8)<|q0d 6 [(1,.pb 0 0),(3,.pb 2 0),(4,.fn 201 [.pb 0 0,.pb 2 0]),(5,dI s3),(6,.ref 3 none),(7,dI (k2:Int)),(8,.pb 4 0),(11,dB s9),(33,.d m (.sl 2 (a0.Symbols.map Symbol.D))),(34,dI (a0.Symbols.length:Int)),(35,dI (k2:Int)),(46,.d m (.sl 6 (a0.Rules.map Rule.D))),(47,dI (a0.Rules.length:Int)),(48,dI (k3:Int)),(58,.d m (.sl 1 (xk3.Right.map A.D.s))),(59,dI (xk3.Right.length:Int)),(60,dI (k4:Int))] [] ?_ ?_
 replace hr:=hqq7
 refine J (gn 9)<|ifE hr ?_ ?_<;>intro h3 hr
 refine bdE hr fun y1 hy1 hr=>J g<|J (CB' [(0,0),(1,2),(2,1)] [] (j5p (m2:=m) hy1))<|e
 exact e
 exact e
 refine J (gn 11)<|ifE hr ?_ ?_<;>intro h4 hr
 refine bdE hr fun x2 hx2 hr=>J g<|J (SE' s3 hx2)<|e
 exact e
 exact e
 exact e
 exact e
 refine ggE hr fun g4 hr=>e
 refine J (gn 2) ?_
 cases hr
 cases hik1 _ rfl
 exact q0i hS 3
 exact e
theorem j1f {m:Md}{a0:Gm_}{r:(Int×Int)}(hr:q9U a0=some r):Ok Tryz.prog 99 [Gm_.x m a0] [] (.tu [dI r.1,dI r.2]) []:=by
 refine OE Tryz.func99 fun S hS=>?_
 unfold q9U at hr
 refine J g<|J (BX' 0)<|bdP hr fun y1 y2 hq1 hr=>J g<|J (CB' [] [] (j3N (m:=m) hq1))<|J (gn 11)<|ifE hr ?_ ?_<;>intro h1 hr
 refine J (gn 11)<|J (lenA 1 0)<|fun hl1=>bdE hr fun q2 hqq2 hr=>q0b hqq2 hl1 1 (fun k1 _=>[(1,.pb 0 0),(20,.d m (.sl 6 (a0.Rules.map Rule.D))),(21,dI (a0.Rules.length:Int)),(22,dI (k1:Int))]) (fun k1 _=>[]) I (fun k1 xk1 sk1 ok1 hxk1 hr hltk1 hik1=>?_) fun k1 sk1 ek1 hltk1=>?_
 refine J g<|J (NV' 1)<|bdE hr fun y3 hy3 hr=>J g<|J (CB' [] [] (j6U (m:=m) hy3))<|J (gn 1)<|ifE hr ?_ ?_<;>intro h2 hr
 exact e
 exact e
 subst ek1
 refine bdE hr fun y4 hy4 hr=>J g<|J (CB' [(0,1)] [] (j8t (m:=m) hy4))<|J (gn 4)<|J (lenR 1)<|fun hl2=>bdE hr fun q3 hqq3 hr=>q0b hqq3 hl2 2 (fun k2 _=>[(33,.ref 1 none),(34,dI (y4.length:Int)),(35,dI (k2:Int))]) (fun k2 _=>[]) I (fun k2 xk2 sk2 ok2 hxk2 hr hltk2 hik2=>?_) fun k2 sk2 ek2 hltk2=>?_
 refine J (gn 22)<|ifE hr ?_ ?_<;>intro h3 hr
 exact e
 exact e
 subst ek2
 exact e
 exact e
theorem j6V {m:Md}{a0:Gm_}{r:Bool}(hr:z4r a0=some r):Ok Tryz.prog 52 [Gm_.x m a0] [] (dB r) []:=by
 refine OE Tryz.func52 fun S hS=>?_
 unfold z4r at hr
 refine J g<|J (BX' 0)<|bdP hr fun y1 y2 hq1 hr=>J g<|J (CB' [] [] (j1f (m:=m) hq1))<|e
theorem j2F {m:Md}{a0:Expr}{r:Bool}(hr:z2L a0=some r):Ok Tryz.prog 160 [Expr.x m a0] [] (dB r) []:=by
 refine OE Tryz.func160 fun S hS=>?_
 unfold z2L at hr
 refine J g<|J (BX' 0)<|e
theorem z3F {Rc15:Expr→Option Bool}(Ic15:∀ {m:Md} {a0:Expr} {r:Bool},Rc15 a0=some r→Ok Tryz.prog 159 [Expr.x m a0,.fn 160 []] [] (dB r) []){m:Md}{a0:Expr}{r:Bool}(hr:q6t Rc15 a0=some r):Ok Tryz.prog 202 [Expr.x m a0,.pb 0 0] [.box [.fn 160 []]] (dB r) [.box [.fn 160 []]]:=by
 refine OE Tryz.func202 fun S hS=>?_
 unfold q6t at hr
 refine J g<|J (BX' 1)<|bdE hr fun y1 hy1 hr=>J g<|J (CB' [] [] (Ic15 (m:=m) hy1))<|e
theorem q8e {Rc15:Expr→Option Bool}(Ic15:∀ {m:Md} {a0:Expr} {r:Bool},Rc15 a0=some r→Ok Tryz.prog 159 [Expr.x m a0,.fn 160 []] [] (dB r) []){m:Md}{a0:(List Expr)}{r:Int}(hr:q4c Rc15 a0=some r):Ok Tryz.prog 158 [.d m (.sl 7 (a0.map Expr.D)),.fn 202 [.pb 0 0]] [.box [.fn 160 []]] (dI r) [.box [.fn 160 []]]:=by
 refine OE Tryz.func158 fun S hS=>?_
 unfold q4c at hr
 refine J (gn 12)<|J (lenT 0)<|fun hl1=>bdE hr fun q1 hqq1 hr=>q0b hqq1 hl1 1 (fun k1 _=>[(0,.d m (.sl 7 (a0.map Expr.D))),(1,.fn 202 [.pb 0 0]),(7,dI (a0.length:Int)),(8,dI (k1:Int))]) (fun k1 _=>[]) I (fun k1 xk1 sk1 ok1 hxk1 hr hltk1 hik1=>?_) fun k1 sk1 ek1 hltk1=>?_
 refine bdE hr fun y1 hy1 hr=>J g<|J (CB' [(0,0)] [] (z3F Ic15 (m:=m) hy1))<|J (gn 1)<|ifE hr ?_ ?_<;>intro h1 hr
 exact e
 exact e
 subst ek1
 exact e
theorem q7y {Rc15:Expr→Option Bool}(Ic15:∀ {m:Md} {a0:Expr} {r:Bool},Rc15 a0=some r→Ok Tryz.prog 159 [Expr.x m a0,.fn 160 []] [] (dB r) []){m:Md}{a0:(List Expr)}{r:Bool}(hr:q3Y Rc15 a0=some r):Ok Tryz.prog 102 [.d m (.sl 7 (a0.map Expr.D)),.fn 202 [.pb 0 0]] [.box [.fn 160 []]] (dB r) [.box [.fn 160 []]]:=by
 refine OE Tryz.func102 fun S hS=>?_
 unfold q3Y at hr
 refine bdE hr fun y1 hy1 hr=>J g<|J (CB' [(0,0)] [] (q8e Ic15 (m:=m) hy1))<|e
theorem z4w {Rc15:Expr→Option Bool}(Ic15:∀ {m:Md} {a0:Expr} {r:Bool},Rc15 a0=some r→Ok Tryz.prog 159 [Expr.x m a0,.fn 160 []] [] (dB r) []){m:Md}{a0:Expr}{r:Bool}(hr:q5W Rc15 a0=some r):Ok Tryz.prog 159 [Expr.x m a0,.fn 160 []] [] (dB r) []:=by
 refine OE Tryz.func159 fun S hS=>?_
 unfold q5W at hr
 refine J g<|J (BX' 0)<|J (BX' 1)<|bdE hr fun y1 hy1 hr=>J g<|J (CB' [] [] (j2F (m:=m) hy1))<|ifE hr ?_ ?_<;>intro h1 hr
 refine bdE hr fun y2 hy2 hr=>J g<|J (CB' [(0,1)] [] (q7y Ic15 (m:=m) hy2))<|e
 exact e
theorem z4x (n:Nat):∀ {m:Md} {a0:Expr} {r:Bool},q5X n a0=some r→Ok Tryz.prog 159 [Expr.x m a0,.fn 160 []] [] (dB r) []:=by
  induction n with
  | zero=>intro _ _ r hr;exact nomatch (show (none:Option Bool)=some r from hr)
  | succ n ih=>intro _ _ r hr;exact z4w ih hr
theorem z4K {m:Md}{a0:Expr}{r:Bool}(hr:q8t a0=some r):Ok Tryz.prog 159 [Expr.x m a0,.fn 160 []] [] (dB r) []:=by
 obtain⟨n,hn⟩:=q6U hr
 exact z4x n hn
theorem j5q {m:Md}{a0:Expr}{r:Bool}(hr:z2Z a0=some r):Ok Tryz.prog 104 [Expr.x m a0] [] (dB r) []:=by
 refine OE Tryz.func104 fun S hS=>?_
 unfold z2Z at hr
 refine J g<|J (BX' 0)<|bdE hr fun y1 hy1 hr=>J g<|J (CB' [] [] (z4K (m:=m) hy1))<|e
theorem z0S {m:Md}{a0:(List Expr)}{r:Int}(hr:q5r a0=some r):Ok Tryz.prog 158 [.d m (.sl 7 (a0.map Expr.D)),.fn 104 []] [] (dI r) []:=by
 refine OE Tryz.func158 fun S hS=>?_
 unfold q5r at hr
 refine J (gn 12)<|J (lenT 0)<|fun hl1=>bdE hr fun q1 hqq1 hr=>q0b hqq1 hl1 0 (fun k1 _=>[(0,.d m (.sl 7 (a0.map Expr.D))),(1,.fn 104 []),(7,dI (a0.length:Int)),(8,dI (k1:Int))]) (fun k1 _=>[]) I (fun k1 xk1 sk1 ok1 hxk1 hr hltk1 hik1=>?_) fun k1 sk1 ek1 hltk1=>?_
 refine bdE hr fun y1 hy1 hr=>J g<|J (CB' [] [] (j5q (m:=m) hy1))<|J (gn 1)<|ifE hr ?_ ?_<;>intro h1 hr
 exact e
 exact e
 subst ek1
 exact e
theorem z0i {m:Md}{a0:(List Expr)}{r:Bool}(hr:q5e a0=some r):Ok Tryz.prog 102 [.d m (.sl 7 (a0.map Expr.D)),.fn 104 []] [] (dB r) []:=by
 refine OE Tryz.func102 fun S hS=>?_
 unfold q5e at hr
 refine bdE hr fun y1 hy1 hr=>J g<|J (CB' [] [] (z0S (m:=m) hy1))<|e
theorem j2G {m:Md}{a0:Rule}{r:Bool}(hr:z2M a0=some r):Ok Tryz.prog 101 [Rule.x m a0] [] (dB r) []:=by
 refine OE Tryz.func101 fun S hS=>?_
 unfold z2M at hr
 refine J g<|J (BX' 0)<|bdE hr fun y1 hy1 hr=>J g<|J (CB' [(0,1)] [] (z7z (m:=m) hy1))<|bdE hr fun y2 hy2 hr=>J (CB' [] [1] (z0i (m:=.bo) hy2))<|e
theorem z0p {m:Md}{a0:(List Rule)}{r:Int}(hr:q5j a0=some r):Ok Tryz.prog 157 [.d m (.sl 6 (a0.map Rule.D)),.fn 101 []] [] (dI r) []:=by
 refine OE Tryz.func157 fun S hS=>?_
 unfold q5j at hr
 refine J (gn 12)<|J (lenT 0)<|fun hl1=>bdE hr fun q1 hqq1 hr=>q0b hqq1 hl1 0 (fun k1 _=>[(0,.d m (.sl 6 (a0.map Rule.D))),(1,.fn 101 []),(7,dI (a0.length:Int)),(8,dI (k1:Int))]) (fun k1 _=>[]) I (fun k1 xk1 sk1 ok1 hxk1 hr hltk1 hik1=>?_) fun k1 sk1 ek1 hltk1=>?_
 refine bdE hr fun y1 hy1 hr=>J g<|J (CB' [] [] (j2G (m:=m) hy1))<|J (gn 1)<|ifE hr ?_ ?_<;>intro h1 hr
 exact e
 exact e
 subst ek1
 exact e
theorem q9M {m:Md}{a0:(List Rule)}{r:Bool}(hr:q4V a0=some r):Ok Tryz.prog 100 [.d m (.sl 6 (a0.map Rule.D)),.fn 101 []] [] (dB r) []:=by
 refine OE Tryz.func100 fun S hS=>?_
 unfold q4V at hr
 refine bdE hr fun y1 hy1 hr=>J g<|J (CB' [] [] (z0p (m:=m) hy1))<|e
theorem j5r {m:Md}{a0:Gm_}{r:Bool}(hr:z3a a0=some r):Ok Tryz.prog 53 [.ag [.u,.d m (.sl 6 (a0.Rules.map Rule.D))]] [] (dB r) []:=by
 refine OE Tryz.func53 fun S hS=>?_
 unfold z3a at hr
 refine J g<|J (BX' 0)<|bdE hr fun y1 hy1 hr=>J g<|J (CB' [] [] (q9M (m:=m) hy1))<|e
theorem j2H {a0:At_}{r:Bool}(hr:z2N a0=some r):Ok Tryz.prog 55 [At_.x .fz a0] [] (dB r) []:=by
 refine OE Tryz.func55 fun S hS=>?_
 unfold z2N at hr
 refine J g<|J (BX' 0)<|e
theorem q9r {m:Md}{a0:(List At_)}{r:Int}(hr:q4G a0=some r):Ok Tryz.prog 161 [.d m (.sl 4 (a0.map At_.D)),.fn 55 []] [] (dI r) []:=by
 refine OE Tryz.func161 fun S hS=>?_
 unfold q4G at hr
 refine J (gn 12)<|J (lenT 0)<|fun hl1=>bdE hr fun q1 hqq1 hr=>q0b hqq1 hl1 0 (fun k1 _=>[(0,.d m (.sl 4 (a0.map At_.D))),(1,.fn 55 []),(7,dI (a0.length:Int)),(8,dI (k1:Int))]) (fun k1 _=>[]) I (fun k1 xk1 sk1 ok1 hxk1 hr hltk1 hik1=>?_) fun k1 sk1 ek1 hltk1=>?_
 refine bdE hr fun y1 hy1 hr=>J g<|J (CB' [] [] (j2H hy1))<|J (gn 1)<|ifE hr ?_ ?_<;>intro h1 hr
 exact e
 exact e
 subst ek1
 exact e
theorem q8K {m:Md}{a0:(List At_)}{r:Bool}(hr:q4t a0=some r):Ok Tryz.prog 107 [.d m (.sl 4 (a0.map At_.D)),.fn 55 []] [] (dB r) []:=by
 refine OE Tryz.func107 fun S hS=>?_
 unfold q4t at hr
 refine bdE hr fun y1 hy1 hr=>J g<|J (CB' [] [] (q9r (m:=m) hy1))<|e
theorem z2r {m:Md}{a0:Symbol}{r:Bool}(hr:q5V a0=some r):Ok Tryz.prog 106 [Symbol.x m a0,.pb 0 0] [.box [.fn 55 []]] (dB r) [.box [.fn 55 []]]:=by
 refine OE Tryz.func106 fun S hS=>?_
 unfold q5V at hr
 refine J g<|J (BX' 1)<|bdE hr fun y1 hy1 hr=>J g<|J (CB' [] [] (q8K (m:=m) hy1))<|e
theorem q7m {m:Md}{a0:(List Symbol)}{r:Int}(hr:q3S a0=some r):Ok Tryz.prog 111 [.d m (.sl 2 (a0.map Symbol.D)),.fn 106 [.pb 0 0]] [.box [.fn 55 []]] (dI r) [.box [.fn 55 []]]:=by
 refine OE Tryz.func111 fun S hS=>?_
 unfold q3S at hr
 refine J (gn 12)<|J (lenT 0)<|fun hl1=>bdE hr fun q1 hqq1 hr=>q0b hqq1 hl1 1 (fun k1 _=>[(0,.d m (.sl 2 (a0.map Symbol.D))),(1,.fn 106 [.pb 0 0]),(7,dI (a0.length:Int)),(8,dI (k1:Int))]) (fun k1 _=>[]) I (fun k1 xk1 sk1 ok1 hxk1 hr hltk1 hik1=>?_) fun k1 sk1 ek1 hltk1=>?_
 refine bdE hr fun y1 hy1 hr=>J g<|J (CB' [(0,0)] [] (z2r (m:=m) hy1))<|J (gn 1)<|ifE hr ?_ ?_<;>intro h1 hr
 exact e
 exact e
 subst ek1
 exact e
theorem q6S {m:Md}{a0:(List Symbol)}{r:Bool}(hr:q3N a0=some r):Ok Tryz.prog 105 [.d m (.sl 2 (a0.map Symbol.D)),.fn 106 [.pb 0 0]] [.box [.fn 55 []]] (dB r) [.box [.fn 55 []]]:=by
 refine OE Tryz.func105 fun S hS=>?_
 unfold q3N at hr
 refine bdE hr fun y1 hy1 hr=>J g<|J (CB' [(0,0)] [] (q7m (m:=m) hy1))<|e
theorem z3s {m:Md}{a0:Gm_}{r:Bool}(hr:q5B a0=some r):Ok Tryz.prog 54 [Gm_.y m a0,.fn 55 []] [] (dB r) []:=by
 refine OE Tryz.func54 fun S hS=>?_
 unfold q5B at hr
 refine J g<|J (BX' 0)<|J (BX' 1)<|bdE hr fun y1 hy1 hr=>J g<|J (CB' [(0,1)] [] (q6S (m:=m) hy1))<|e
theorem j3O {a0:At_}{r:Bool}(hr:z3D a0=some r):Ok Tryz.prog 56 [At_.x .fz a0] [] (dB r) []:=by
 refine OE Tryz.func56 fun S hS=>?_
 unfold z3D at hr
 refine J g<|J (BX' 0)<|e
theorem q9C {m:Md}{a0:(List At_)}{r:Int}(hr:q4P a0=some r):Ok Tryz.prog 161 [.d m (.sl 4 (a0.map At_.D)),.fn 56 []] [] (dI r) []:=by
 refine OE Tryz.func161 fun S hS=>?_
 unfold q4P at hr
 refine J (gn 12)<|J (lenT 0)<|fun hl1=>bdE hr fun q1 hqq1 hr=>q0b hqq1 hl1 0 (fun k1 _=>[(0,.d m (.sl 4 (a0.map At_.D))),(1,.fn 56 []),(7,dI (a0.length:Int)),(8,dI (k1:Int))]) (fun k1 _=>[]) I (fun k1 xk1 sk1 ok1 hxk1 hr hltk1 hik1=>?_) fun k1 sk1 ek1 hltk1=>?_
 refine bdE hr fun y1 hy1 hr=>J g<|J (CB' [] [] (j3O hy1))<|J (gn 1)<|ifE hr ?_ ?_<;>intro h1 hr
 exact e
 exact e
 subst ek1
 exact e
theorem q8Q {m:Md}{a0:(List At_)}{r:Bool}(hr:q4z a0=some r):Ok Tryz.prog 107 [.d m (.sl 4 (a0.map At_.D)),.fn 56 []] [] (dB r) []:=by
 refine OE Tryz.func107 fun S hS=>?_
 unfold q4z at hr
 refine bdE hr fun y1 hy1 hr=>J g<|J (CB' [] [] (q9C (m:=m) hy1))<|e
theorem z3g {m:Md}{a0:Symbol}{r:Bool}(hr:q6b a0=some r):Ok Tryz.prog 106 [Symbol.x m a0,.pb 0 0] [.box [.fn 56 []]] (dB r) [.box [.fn 56 []]]:=by
 refine OE Tryz.func106 fun S hS=>?_
 unfold q6b at hr
 refine J g<|J (BX' 1)<|bdE hr fun y1 hy1 hr=>J g<|J (CB' [] [] (q8Q (m:=m) hy1))<|e
theorem q7u {m:Md}{a0:(List Symbol)}{r:Int}(hr:q3V a0=some r):Ok Tryz.prog 111 [.d m (.sl 2 (a0.map Symbol.D)),.fn 106 [.pb 0 0]] [.box [.fn 56 []]] (dI r) [.box [.fn 56 []]]:=by
 refine OE Tryz.func111 fun S hS=>?_
 unfold q3V at hr
 refine J (gn 12)<|J (lenT 0)<|fun hl1=>bdE hr fun q1 hqq1 hr=>q0b hqq1 hl1 1 (fun k1 _=>[(0,.d m (.sl 2 (a0.map Symbol.D))),(1,.fn 106 [.pb 0 0]),(7,dI (a0.length:Int)),(8,dI (k1:Int))]) (fun k1 _=>[]) I (fun k1 xk1 sk1 ok1 hxk1 hr hltk1 hik1=>?_) fun k1 sk1 ek1 hltk1=>?_
 refine bdE hr fun y1 hy1 hr=>J g<|J (CB' [(0,0)] [] (z3g (m:=m) hy1))<|J (gn 1)<|ifE hr ?_ ?_<;>intro h1 hr
 exact e
 exact e
 subst ek1
 exact e
theorem q6Y {m:Md}{a0:(List Symbol)}{r:Bool}(hr:q3Q a0=some r):Ok Tryz.prog 105 [.d m (.sl 2 (a0.map Symbol.D)),.fn 106 [.pb 0 0]] [.box [.fn 56 []]] (dB r) [.box [.fn 56 []]]:=by
 refine OE Tryz.func105 fun S hS=>?_
 unfold q3Q at hr
 refine bdE hr fun y1 hy1 hr=>J g<|J (CB' [(0,0)] [] (q7u (m:=m) hy1))<|e
theorem z3G {m:Md}{a0:Gm_}{r:Bool}(hr:q5I a0=some r):Ok Tryz.prog 54 [Gm_.y m a0,.fn 56 []] [] (dB r) []:=by
 refine OE Tryz.func54 fun S hS=>?_
 unfold q5I at hr
 refine J g<|J (BX' 0)<|J (BX' 1)<|bdE hr fun y1 hy1 hr=>J g<|J (CB' [(0,1)] [] (q6Y (m:=m) hy1))<|e
theorem j6W {m:Md}{a0:Gm_}{r:Bool}(hr:z2h a0=some r):Ok Tryz.prog 22 [Gm_.x m a0] [] (dB r) []:=by
 refine OE Tryz.func22 fun S hS=>?_
 unfold z2h at hr
 refine J g<|J (BX' 0)<|bdE hr fun y1 hy1 hr=>J g<|J (CB' [] [] (j6V (m:=m) hy1))<|bdE hr fun s1 hqq1 hr=>q0a 5 [(1,.pb 0 0),(2,dB false),(9,dB s1)] ?_ ?_
 replace hr:=hqq1
 refine ifE hr ?_ ?_<;>intro h1 hr
 refine bdE hr fun y2 hy2 hr=>J g<|J (CB' [] [] (j5r (m:=m) hy2))<|e
 exact e
 refine bdE hr fun s2 hqq2 hr=>q0a 5 [(1,.pb 0 0),(2,dB false),(14,dB s2)] ?_ ?_
 replace hr:=hqq2
 refine ifE hr ?_ ?_<;>intro h2 hr
 refine bdE hr fun y3 hy3 hr=>J g<|J (CB' [] [] (z3s (m:=m) hy3))<|e
 exact e
 refine bdE hr fun s3 hqq3 hr=>q0a 5 [(2,dB false),(19,dB s3)] ?_ ?_
 replace hr:=hqq3
 refine ifE hr ?_ ?_<;>intro h3 hr
 refine bdE hr fun y4 hy4 hr=>J g<|J (CB' [] [] (z3G (m:=m) hy4))<|e
 exact e
 exact e
theorem j2I {m:Md}{a0:(List Phase)}{r:Bool}(hr:z2O a0=some r):Ok Tryz.prog 24 [.d m (.sl 2 (a0.map Phase.D))] [] (dB r) []:=by
 refine OE Tryz.func24 fun S hS=>?_
 unfold z2O at hr
 exact e
theorem z0j {m:Md}{a0:(List (List Phase))}{r:Int}(hr:q5f a0=some r):Ok Tryz.prog 57 [.d m (.sl 1 (a0.map (fun (l:List Phase)=>A.D.sl 2 (l.map Phase.D)))),.fn 24 []] [] (dI r) []:=by
 refine OE Tryz.func57 fun S hS=>?_
 unfold q5f at hr
 refine J (gn 12)<|J (lenT 0)<|fun hl1=>bdE hr fun q1 hqq1 hr=>q0b hqq1 hl1 0 (fun k1 _=>[(0,.d m (.sl 1 (a0.map (fun (l:List Phase)=>A.D.sl 2 (l.map Phase.D))))),(1,.fn 24 []),(7,dI (a0.length:Int)),(8,dI (k1:Int))]) (fun k1 _=>[]) I (fun k1 xk1 sk1 ok1 hxk1 hr hltk1 hik1=>?_) fun k1 sk1 ek1 hltk1=>?_
 refine bdE hr fun y1 hy1 hr=>J g<|J (CB' [] [] (j2I (m:=m) hy1))<|J (gn 1)<|ifE hr ?_ ?_<;>intro h1 hr
 exact e
 exact e
 subst ek1
 exact e
theorem q9D {m:Md}{a0:(List (List Phase))}{r:Bool}(hr:q4j a0=some r):Ok Tryz.prog 23 [.d m (.sl 1 (a0.map (fun (l:List Phase)=>A.D.sl 2 (l.map Phase.D)))),.fn 24 []] [] (dB r) []:=by
 refine OE Tryz.func23 fun S hS=>?_
 unfold q4j at hr
 refine bdE hr fun y1 hy1 hr=>J g<|J (CB' [] [] (z0j (m:=m) hy1))<|e
theorem j6X {m:Md}{a0:Gm_}{a1:(List (List Phase))}{a2:Rule}{r:visits}(hr:z2i a0 a1 a2=some r):Ok Tryz.prog 29 [Gm_.x m a0,.d m (.sl 1 (a1.map (fun (l:List Phase)=>A.D.sl 2 (l.map Phase.D)))),Rule.x m a2] [] (.pb 0 0) [.box [.d m (.sl 2 (r.g.Symbols.map Symbol.D)),.d m (.sl 6 (r.g.Rules.map Rule.D)),.d m (.sl 1 (r.phases.map (fun (l:List Phase)=>A.D.sl 2 (l.map Phase.D)))),dS r.r.Name,dS r.r.Left,.d m (.sl 1 (r.r.Right.map A.D.s)),dB r.r.Literal,.d m (.sl 9 (r.r.Equations.map Eqn.D)),.d m (.sl 16 (r.r.Contributions.map Cn.D)),.ref 1 none,.ref 2 none,.ref 3 none],.row .fz 2 (r.due.map Oc.D),.row .fz 2 (r.known.map Oc.D),.row .fz 1 (r.next.map (A.D.i .i64))]:=by
 refine OE Tryz.func29 fun S hS=>?_
 unfold z2i at hr
 refine J g<|J (BX' 0)<|J (BX' 1)<|bdE hr fun y1 hy1 hr=>J g<|J (CB' [(0,2)] [] (z7y (m:=m) hy1))<|ggE hr fun g1 hr=>ggE hr fun g2 hr=>J g<|MKRb 3 8 (f:=(A.D.i .i64)) (0:Int) g2.1 g2.2.1 g2.2.2 ?_
 refine J g<|J (BX' 4)<|J (gn 3) ?_
 refine J (q0c (q0r (q:=4) (c:=10) (r:=5) .fz 2 rfl rfl rfl))<|J g<|E
theorem z9Z {m:Md}{a0:Symbol}{a1:ByteArray}{r:Bool}(hr:q9q a0 a1=some r):Ok Tryz.prog 112 [Symbol.x m a0,.pb 0 0] [.box [dS a1]] (dB r) [.box [dS a1]]:=by
 refine OE Tryz.func112 fun S hS=>?_
 unfold q9q at hr
 refine J g<|J (BX' 1)<|e
theorem q9E {m:Md}{a0:(List Symbol)}{a1_0:ByteArray}{r:Int}(hr:q4k a0 a1_0=some r):Ok Tryz.prog 111 [.d m (.sl 2 (a0.map Symbol.D)),.fn 112 [.pb 0 0]] [.box [dS a1_0]] (dI r) [.box [dS a1_0]]:=by
 refine OE Tryz.func111 fun S hS=>?_
 unfold q4k at hr
 refine J (gn 12)<|J (lenT 0)<|fun hl1=>bdE hr fun q1 hqq1 hr=>q0b hqq1 hl1 1 (fun k1 _=>[(0,.d m (.sl 2 (a0.map Symbol.D))),(1,.fn 112 [.pb 0 0]),(7,dI (a0.length:Int)),(8,dI (k1:Int))]) (fun k1 _=>[]) I (fun k1 xk1 sk1 ok1 hxk1 hr hltk1 hik1=>?_) fun k1 sk1 ek1 hltk1=>?_
 refine bdE hr fun y1 hy1 hr=>J g<|J (CB' [(0,0)] [] (z9Z (m:=m) hy1))<|J (gn 1)<|ifE hr ?_ ?_<;>intro h1 hr
 exact e
 exact e
 subst ek1
 exact e
theorem j2J {m:Md}{a0:Gm_}{a1:ByteArray}{r:Int}(hr:q6R a0 a1=some r):Ok Tryz.prog 62 [Gm_.y m a0,dS a1] [] (dI r) []:=by
 refine OE Tryz.func62 fun S hS=>?_
 unfold q6R at hr
 refine J g<|J (BX' 0)<|J (BX' 1)<|bdE hr fun y1 hy1 hr=>J g<|J (CB' [(0,1)] [] (q9E (m:=m) hy1))<|e
theorem q8a {m2:Md}{a1:Int}{o0:visits}{r:(List Phase)}(hr:q5k a1 o0=some r):Ok Tryz.prog 30 [.pb 0 0,dI a1] [.box [.d m2 (.sl 2 (o0.g.Symbols.map Symbol.D)),.d m2 (.sl 6 (o0.g.Rules.map Rule.D)),.d m2 (.sl 1 (o0.phases.map (fun (l:List Phase)=>A.D.sl 2 (l.map Phase.D)))),dS o0.r.Name,dS o0.r.Left,.d m2 (.sl 1 (o0.r.Right.map A.D.s)),dB o0.r.Literal,.d m2 (.sl 9 (o0.r.Equations.map Eqn.D)),.d m2 (.sl 16 (o0.r.Contributions.map Cn.D)),.ref 1 none,.ref 2 none,.ref 3 none],.row .fz 2 (o0.due.map Oc.D),.row .fz 2 (o0.known.map Oc.D),.row .fz 1 (o0.next.map (A.D.i .i64))] (.d m2 (.sl 2 (r.map Phase.D))) [.box [.d m2 (.sl 2 (o0.g.Symbols.map Symbol.D)),.d m2 (.sl 6 (o0.g.Rules.map Rule.D)),.d m2 (.sl 1 (o0.phases.map (fun (l:List Phase)=>A.D.sl 2 (l.map Phase.D)))),dS o0.r.Name,dS o0.r.Left,.d m2 (.sl 1 (o0.r.Right.map A.D.s)),dB o0.r.Literal,.d m2 (.sl 9 (o0.r.Equations.map Eqn.D)),.d m2 (.sl 16 (o0.r.Contributions.map Cn.D)),.ref 1 none,.ref 2 none,.ref 3 none],.row .fz 2 (o0.due.map Oc.D),.row .fz 2 (o0.known.map Oc.D),.row .fz 1 (o0.next.map (A.D.i .i64))]:=by
 refine OE Tryz.func30 fun S hS=>?_
 unfold q5k at hr
 refine bdE hr fun y1 hy1 hr=>J g<|J (CB' [] [] (z4S (m:=m2) hy1))<|bdE hr fun y2 hy2 hr=>J (CB' [] [] (j2J (m:=m2) hy2))<|J g<|J (OB' _ (j7T (p:=o0.phases.length) (k:=1) (by decide)))<|bdE hr fun y3 hy3 hr=>J (CB' [] [] (q5v hy3))<|J (gn 2)<|ifE hr ?_ ?_<;>intro h1 hr
 refine ggE hr fun g1 hr=>bdE hr fun x1 hx1 hr=>e
 refine J (gn 6) ?_
 cases hr
 exact endA.ren [(0,0),(1,1),(2,2),(3,3)] 4 (.inr rfl) hS rfl rfl rfl .nld rfl rfl
theorem z3t {m:Md}{m2:Md}{a1:Int}{a2:(List ByteArray)}{o0:visits}{r:visits}(hr:q6V a1 a2 o0=some r):Ok Tryz.prog 31 [.pb 0 0,dI a1,.d m (.sl 1 (a2.map A.D.s))] [.box [.d m2 (.sl 2 (o0.g.Symbols.map Symbol.D)),.d m2 (.sl 6 (o0.g.Rules.map Rule.D)),.d m2 (.sl 1 (o0.phases.map (fun (l:List Phase)=>A.D.sl 2 (l.map Phase.D)))),dS o0.r.Name,dS o0.r.Left,.d m2 (.sl 1 (o0.r.Right.map A.D.s)),dB o0.r.Literal,.d m2 (.sl 9 (o0.r.Equations.map Eqn.D)),.d m2 (.sl 16 (o0.r.Contributions.map Cn.D)),.ref 1 none,.ref 2 none,.ref 3 none],.row .fz 2 (o0.due.map Oc.D),.row .fz 2 (o0.known.map Oc.D),.row .fz 1 (o0.next.map (A.D.i .i64))] (.tu []) [.box [.d m2 (.sl 2 (o0.g.Symbols.map Symbol.D)),.d m2 (.sl 6 (o0.g.Rules.map Rule.D)),.d m2 (.sl 1 (o0.phases.map (fun (l:List Phase)=>A.D.sl 2 (l.map Phase.D)))),dS r.r.Name,dS r.r.Left,.d m2 (.sl 1 (o0.r.Right.map A.D.s)),dB r.r.Literal,.d m2 (.sl 9 (o0.r.Equations.map Eqn.D)),.d m2 (.sl 16 (o0.r.Contributions.map Cn.D)),.ref 1 none,.ref 4 none,.ref 3 none],.row .fz 2 (r.due.map Oc.D),.dead,.row .fz 1 (r.next.map (A.D.i .i64)),.row .fz 2 (r.known.map Oc.D)]:=by
 refine OE Tryz.func31 fun S hS=>?_
 unfold q6V at hr
 refine J (gn 7) ?_
 refine J (q1d 2 4 rfl)<|J (lenT 2)<|fun hl1=>bdE hr fun s1 hqq1 hr=>q0f hqq1 hl1 5 (fun k1 s1=>[(0,.pb 0 0),(1,dI a1),(8,.d m (.sl 1 (a2.map A.D.s))),(9,dI (a2.length:Int)),(10,dI (k1:Int))]) (fun k1 s1=>[(4,.row .fz 2 (s1.map Oc.D))]) I (fun k1 xk1 sk1 ok1 hxk1 hr hltk1=>?_) fun k1 hltk1=>?_
 obtain⟨s1,rfl⟩:∃ y,y=sk1:=⟨_,rfl⟩
 refine J g<|J (LIR' 5 (m:=.fz) (f:=Oc.D) (xs:=[(⟨a1,xk1⟩:Oc)]))<|ggE hr fun g1 hr=>J (z3z (f:=Oc.D) 6 (fun _=>rfl) 24 g1)<|e
 exact e
theorem j5s {Rc16:Expr→Option Expr}(Ic16:∀ {m:Md} {a0:Expr} {r:Expr},Rc16 a0=some r→Ok Tryz.prog 165 [Expr.x m a0] [] (.ag [dI r.Kind,dI r.N,dI r.Pos,dI r.Type_,dS r.Symbol,dS r.Name,.ref 0 none]) [.row .fz 7 (r.Args.map Expr.D)]){m:Md}{a0:Expr}{r:Expr}(hr:z6l Rc16 a0=some r):Ok Tryz.prog 165 [Expr.x m a0] [] (.ag [dI r.Kind,dI r.N,dI r.Pos,dI r.Type_,dS r.Symbol,dS r.Name,.ref 0 none]) [.row .fz 7 (r.Args.map Expr.D)]:=by
 refine OE Tryz.func165 fun S hS=>?_
 unfold z6l at hr
 refine J g<|J (BX' 0)<|J (NV' 1)<|J (gn 14) ?_
 refine J (q3c 3 2 .fz 7 rfl)<|J (lenA 6 0)<|fun hl1=>bdE hr fun s1 hqq1 hr=>q0f hqq1 hl1 3 (fun k1 s1=>[(1,.pb 0 0),(2,.pb 1 0),(3,.ref 2 none),(7,.d m (.sl 7 (a0.Args.map Expr.D))),(8,dI (a0.Args.length:Int)),(9,dI (k1:Int))]) (fun k1 s1=>[(2,.row .fz 7 (s1.map Expr.D))]) I (fun k1 xk1 sk1 ok1 hxk1 hr hltk1=>?_) fun k1 hltk1=>?_
 obtain⟨s1,rfl⟩:∃ y,y=sk1:=⟨_,rfl⟩
 refine J g<|J (NV' 3)<|bdE hr fun y1 hy1 hr=>J g<|J (CB' [(0,4)] [] (Ic16 (m:=m) hy1)) ?_
 refine J (q0x 4 rfl) ?_
 refine J (k2b 5 (m:=.fz) (f:=Expr.D) [y1] (by simp only[List.map_cons,List.map_nil,Expr.D_eq];rfl))<|ggE hr fun g1 hr=>J (AP1' 6 .fz 88 g1)<|J g<|E
 exact e
theorem j5t (n:Nat):∀ {m:Md} {a0:Expr} {r:Expr},z2j n a0=some r→Ok Tryz.prog 165 [Expr.x m a0] [] (.ag [dI r.Kind,dI r.N,dI r.Pos,dI r.Type_,dS r.Symbol,dS r.Name,.ref 0 none]) [.row .fz 7 (r.Args.map Expr.D)]:=by
  induction n with
  | zero=>intro _ _ r hr;exact nomatch (show (none:Option Expr)=some r from hr)
  | succ n ih=>intro _ _ r hr;exact j5s ih hr
theorem j6Y {m:Md}{a0:Expr}{r:Expr}(hr:z8x a0=some r):Ok Tryz.prog 165 [Expr.x m a0] [] (.ag [dI r.Kind,dI r.N,dI r.Pos,dI r.Type_,dS r.Symbol,dS r.Name,.ref 0 none]) [.row .fz 7 (r.Args.map Expr.D)]:=by
 obtain⟨n,hn⟩:=q6U hr
 exact j5t n hn
theorem j1g {m:Md}{a0:Rule}{a1:Oc}{r:(Expr×Bool)}(hr:q7X a0 a1=some r):Ok Tryz.prog 113 [Rule.x m a0,Oc.x .fz a1] [] (.tu [.ag [dI r.1.Kind,dI r.1.N,dI r.1.Pos,dI r.1.Type_,dS r.1.Symbol,dS r.1.Name,.ref 0 none],dB r.2]) [.row .fz 7 (r.1.Args.map Expr.D)]:=by
 refine OE Tryz.func113 fun S hS=>?_
 unfold q7X at hr
 refine J g<|J (BX' 0)<|J (BX' 1)<|J (NV' 2)<|J (gn 11)<|J (lenA 4 0)<|fun hl1=>bdE hr fun q1 hqq1 hr=>q0b hqq1 hl1 3 (fun k1 _=>[(3,.pb 1 0),(4,.pb 2 0),(9,.d m (.sl 9 (a0.Equations.map Eqn.D))),(10,dI (a0.Equations.length:Int)),(11,dI (k1:Int))]) (fun k1 _=>[]) I (fun k1 xk1 sk1 ok1 hxk1 hr hltk1 hik1=>?_) fun k1 sk1 ek1 hltk1=>?_
 refine J g<|J (NV' 3)<|J g ?_
 refine J (SQ' rfl rfl rfl rfl (q6o xk1.At a1))<|J (gn 1)<|ifE hr ?_ ?_<;>intro h1 hr
 refine bdE hr fun y1 hy1 hr=>J g<|J (CB' [(0,4)] [] (j6Y (m:=m) hy1))<|e
 exact e
 subst ek1
 refine J (gn 14) ?_
 refine J (q0c (q0r (q:=2) (c:=6) (r:=3) .fz 7 rfl rfl rfl))<|J g<|E
theorem z8i {m2:Md}{a0:Oc}{a1_0:visits}{r:Bool}(hr:q9d a0 a1_0=some r):Ok Tryz.prog 115 [Oc.x .fz a0,.pb 1 0] [.box [.d m2 (.sl 2 (a1_0.g.Symbols.map Symbol.D)),.d m2 (.sl 6 (a1_0.g.Rules.map Rule.D)),.d m2 (.sl 1 (a1_0.phases.map (fun (l:List Phase)=>A.D.sl 2 (l.map Phase.D)))),dS a1_0.r.Name,dS a1_0.r.Left,.d m2 (.sl 1 (a1_0.r.Right.map A.D.s)),dB a1_0.r.Literal,.d m2 (.sl 9 (a1_0.r.Equations.map Eqn.D)),.d m2 (.sl 16 (a1_0.r.Contributions.map Cn.D)),.ref 2 none,.ref 3 none,.ref 4 none],.box [.pb 0 0],.row .fz 2 (a1_0.due.map Oc.D),.row .fz 2 (a1_0.known.map Oc.D),.row .fz 1 (a1_0.next.map (A.D.i .i64))] (dB r) [.box [.d m2 (.sl 2 (a1_0.g.Symbols.map Symbol.D)),.d m2 (.sl 6 (a1_0.g.Rules.map Rule.D)),.d m2 (.sl 1 (a1_0.phases.map (fun (l:List Phase)=>A.D.sl 2 (l.map Phase.D)))),dS a1_0.r.Name,dS a1_0.r.Left,.d m2 (.sl 1 (a1_0.r.Right.map A.D.s)),dB a1_0.r.Literal,.d m2 (.sl 9 (a1_0.r.Equations.map Eqn.D)),.d m2 (.sl 16 (a1_0.r.Contributions.map Cn.D)),.ref 2 none,.ref 3 none,.ref 4 none],.box [.pb 0 0],.row .fz 2 (a1_0.due.map Oc.D),.row .fz 2 (a1_0.known.map Oc.D),.row .fz 1 (a1_0.next.map (A.D.i .i64))]:=by
 refine OE Tryz.func115 fun S hS=>?_
 unfold q9d at hr
 refine J g<|J (BX' 5)<|bdE hr fun y1 hy1 hr=>J g<|J (CB' [] [3] (q4S (m:=.bo) hy1))<|e
theorem q8q {m2:Md}{a0:(List Oc)}{a1_0_0:visits}{r:Int}(hr:q4m a0 a1_0_0=some r):Ok Tryz.prog 118 [.ref 2 none,.fn 115 [.pb 1 0]] [.box [.d m2 (.sl 2 (a1_0_0.g.Symbols.map Symbol.D)),.d m2 (.sl 6 (a1_0_0.g.Rules.map Rule.D)),.d m2 (.sl 1 (a1_0_0.phases.map (fun (l:List Phase)=>A.D.sl 2 (l.map Phase.D)))),dS a1_0_0.r.Name,dS a1_0_0.r.Left,.d m2 (.sl 1 (a1_0_0.r.Right.map A.D.s)),dB a1_0_0.r.Literal,.d m2 (.sl 9 (a1_0_0.r.Equations.map Eqn.D)),.d m2 (.sl 16 (a1_0_0.r.Contributions.map Cn.D)),.ref 3 none,.ref 4 none,.ref 5 none],.box [.pb 0 0],.row .fz 2 (a0.map Oc.D),.row .fz 2 (a1_0_0.due.map Oc.D),.row .fz 2 (a1_0_0.known.map Oc.D),.row .fz 1 (a1_0_0.next.map (A.D.i .i64))] (dI r) [.box [.d m2 (.sl 2 (a1_0_0.g.Symbols.map Symbol.D)),.d m2 (.sl 6 (a1_0_0.g.Rules.map Rule.D)),.d m2 (.sl 1 (a1_0_0.phases.map (fun (l:List Phase)=>A.D.sl 2 (l.map Phase.D)))),dS a1_0_0.r.Name,dS a1_0_0.r.Left,.d m2 (.sl 1 (a1_0_0.r.Right.map A.D.s)),dB a1_0_0.r.Literal,.d m2 (.sl 9 (a1_0_0.r.Equations.map Eqn.D)),.d m2 (.sl 16 (a1_0_0.r.Contributions.map Cn.D)),.ref 3 none,.ref 4 none,.ref 5 none],.box [.pb 0 0],.row .fz 2 (a0.map Oc.D),.row .fz 2 (a1_0_0.due.map Oc.D),.row .fz 2 (a1_0_0.known.map Oc.D),.row .fz 1 (a1_0_0.next.map (A.D.i .i64))]:=by
 refine OE Tryz.func118 fun S hS=>?_
 unfold q4m at hr
 refine J (gn 12)<|J (lenR 2)<|fun hl1=>bdE hr fun q1 hqq1 hr=>q0b hqq1 hl1 6 (fun k1 _=>[(0,.ref 2 none),(1,.fn 115 [.pb 1 0]),(7,dI (a0.length:Int)),(8,dI (k1:Int))]) (fun k1 _=>[]) I (fun k1 xk1 sk1 ok1 hxk1 hr hltk1 hik1=>?_) fun k1 sk1 ek1 hltk1=>?_
 refine bdE hr fun y1 hy1 hr=>J g<|J (CB' [(0,0),(1,1),(2,3),(3,4),(4,5)] [] (z8i (m2:=m2) hy1))<|J (gn 1)<|ifE hr ?_ ?_<;>intro h1 hr
 exact e
 exact e
 subst ek1
 exact e
theorem q8b {m2:Md}{a0:(List Oc)}{a1_0_0:visits}{r:Bool}(hr:q4a a0 a1_0_0=some r):Ok Tryz.prog 69 [.ref 2 none,.fn 115 [.pb 1 0]] [.box [.d m2 (.sl 2 (a1_0_0.g.Symbols.map Symbol.D)),.d m2 (.sl 6 (a1_0_0.g.Rules.map Rule.D)),.d m2 (.sl 1 (a1_0_0.phases.map (fun (l:List Phase)=>A.D.sl 2 (l.map Phase.D)))),dS a1_0_0.r.Name,dS a1_0_0.r.Left,.d m2 (.sl 1 (a1_0_0.r.Right.map A.D.s)),dB a1_0_0.r.Literal,.d m2 (.sl 9 (a1_0_0.r.Equations.map Eqn.D)),.d m2 (.sl 16 (a1_0_0.r.Contributions.map Cn.D)),.ref 3 none,.ref 4 none,.ref 5 none],.box [.pb 0 0],.row .fz 2 (a0.map Oc.D),.row .fz 2 (a1_0_0.due.map Oc.D),.row .fz 2 (a1_0_0.known.map Oc.D),.row .fz 1 (a1_0_0.next.map (A.D.i .i64))] (dB r) [.box [.d m2 (.sl 2 (a1_0_0.g.Symbols.map Symbol.D)),.d m2 (.sl 6 (a1_0_0.g.Rules.map Rule.D)),.d m2 (.sl 1 (a1_0_0.phases.map (fun (l:List Phase)=>A.D.sl 2 (l.map Phase.D)))),dS a1_0_0.r.Name,dS a1_0_0.r.Left,.d m2 (.sl 1 (a1_0_0.r.Right.map A.D.s)),dB a1_0_0.r.Literal,.d m2 (.sl 9 (a1_0_0.r.Equations.map Eqn.D)),.d m2 (.sl 16 (a1_0_0.r.Contributions.map Cn.D)),.ref 3 none,.ref 4 none,.ref 5 none],.box [.pb 0 0],.row .fz 2 (a0.map Oc.D),.row .fz 2 (a1_0_0.due.map Oc.D),.row .fz 2 (a1_0_0.known.map Oc.D),.row .fz 1 (a1_0_0.next.map (A.D.i .i64))]:=by
 refine OE Tryz.func69 fun S hS=>?_
 unfold q4a at hr
 refine bdE hr fun y1 hy1 hr=>J g<|J (CB' [(0,0),(1,1),(2,2),(3,3),(4,4),(5,5)] [] (q8q (m2:=m2) hy1))<|e
theorem z9p {m2:Md}{a0:visits}{a1:Oc}{r:Bool}(hr:q7J a0 a1=some r):Ok Tryz.prog 65 [.pb 0 0,Oc.x .fz a1] [.box [.d m2 (.sl 2 (a0.g.Symbols.map Symbol.D)),.d m2 (.sl 6 (a0.g.Rules.map Rule.D)),.d m2 (.sl 1 (a0.phases.map (fun (l:List Phase)=>A.D.sl 2 (l.map Phase.D)))),dS a0.r.Name,dS a0.r.Left,.d m2 (.sl 1 (a0.r.Right.map A.D.s)),dB a0.r.Literal,.d m2 (.sl 9 (a0.r.Equations.map Eqn.D)),.d m2 (.sl 16 (a0.r.Contributions.map Cn.D)),.ref 1 none,.ref 2 none,.ref 3 none],.row .fz 2 (a0.due.map Oc.D),.row .fz 2 (a0.known.map Oc.D),.row .fz 1 (a0.next.map (A.D.i .i64))] (dB r) [.box [.d m2 (.sl 2 (a0.g.Symbols.map Symbol.D)),.d m2 (.sl 6 (a0.g.Rules.map Rule.D)),.d m2 (.sl 1 (a0.phases.map (fun (l:List Phase)=>A.D.sl 2 (l.map Phase.D)))),dS a0.r.Name,dS a0.r.Left,.d m2 (.sl 1 (a0.r.Right.map A.D.s)),dB a0.r.Literal,.d m2 (.sl 9 (a0.r.Equations.map Eqn.D)),.d m2 (.sl 16 (a0.r.Contributions.map Cn.D)),.ref 1 none,.ref 2 none,.ref 3 none],.row .fz 2 (a0.due.map Oc.D),.row .fz 2 (a0.known.map Oc.D),.row .fz 1 (a0.next.map (A.D.i .i64))]:=by
 refine OE Tryz.func65 fun S hS=>?_
 unfold q7J at hr
 refine J g<|J (BX' 4)<|J (BX' 5)<|bdE hr fun y1 hy1 hr=>J g<|J (CB' [] [1] (q4S (m:=.bo) hy1))<|J (gn 1)<|ifE hr ?_ ?_<;>intro h1 hr
 refine bdE hr fun y2 hy2 hr=>J g<|J (CB' [] [2] (q4S (m:=.bo) hy2))<|J (gn 2)<|ifE hr ?_ ?_<;>intro h2 hr
 exact e
 refine bdP hr fun y3 y4 hq1 hr=>J g<|J (CB' [(0,6)] [] (j1g (m:=m2) hq1))<|J g<|J (NV' 7)<|J (gn 6)<|ifE hr ?_ ?_<;>intro h3 hr
 refine bdE hr fun y5 hy5 hr=>J g<|J (CB' [(0,8)] [6] (z5J (m:=.bo) hy5))<|bdE hr fun y6 hy6 hr=>J g<|J (CB' [(0,0),(1,4),(2,8),(3,1),(4,2),(5,3)] [] (q8b (m2:=m2) hy6))<|e
 exact e
 exact e
theorem z9q {m2:Md}{a0:ByteArray}{a1_0:visits}{a2:Int}{r:Bool}(hr:z0c a0 a1_0 a2=some r):Ok Tryz.prog 117 [dS a0,.pb 1 0,.pb 2 0] [.box [.d m2 (.sl 2 (a1_0.g.Symbols.map Symbol.D)),.d m2 (.sl 6 (a1_0.g.Rules.map Rule.D)),.d m2 (.sl 1 (a1_0.phases.map (fun (l:List Phase)=>A.D.sl 2 (l.map Phase.D)))),dS a1_0.r.Name,dS a1_0.r.Left,.d m2 (.sl 1 (a1_0.r.Right.map A.D.s)),dB a1_0.r.Literal,.d m2 (.sl 9 (a1_0.r.Equations.map Eqn.D)),.d m2 (.sl 16 (a1_0.r.Contributions.map Cn.D)),.ref 3 none,.ref 4 none,.ref 5 none],.box [.pb 0 0],.box [dI a2],.row .fz 2 (a1_0.due.map Oc.D),.row .fz 2 (a1_0.known.map Oc.D),.row .fz 1 (a1_0.next.map (A.D.i .i64))] (dB r) [.box [.d m2 (.sl 2 (a1_0.g.Symbols.map Symbol.D)),.d m2 (.sl 6 (a1_0.g.Rules.map Rule.D)),.d m2 (.sl 1 (a1_0.phases.map (fun (l:List Phase)=>A.D.sl 2 (l.map Phase.D)))),dS a1_0.r.Name,dS a1_0.r.Left,.d m2 (.sl 1 (a1_0.r.Right.map A.D.s)),dB a1_0.r.Literal,.d m2 (.sl 9 (a1_0.r.Equations.map Eqn.D)),.d m2 (.sl 16 (a1_0.r.Contributions.map Cn.D)),.ref 3 none,.ref 4 none,.ref 5 none],.box [.pb 0 0],.box [dI a2],.row .fz 2 (a1_0.due.map Oc.D),.row .fz 2 (a1_0.known.map Oc.D),.row .fz 1 (a1_0.next.map (A.D.i .i64))]:=by
 refine OE Tryz.func117 fun S hS=>?_
 unfold z0c at hr
 refine bdE hr fun y1 hy1 hr=>J g<|J (CB' [] [4] (q4S (m:=.bo) hy1))<|e
theorem q9s {m:Md}{m2:Md}{a0:(List ByteArray)}{a1_0_0:visits}{a1_1:Int}{r:Int}(hr:q4I a0 a1_0_0 a1_1=some r):Ok Tryz.prog 170 [.d m (.sl 1 (a0.map A.D.s)),.fn 117 [.pb 1 0,.pb 2 0]] [.box [.d m2 (.sl 2 (a1_0_0.g.Symbols.map Symbol.D)),.d m2 (.sl 6 (a1_0_0.g.Rules.map Rule.D)),.d m2 (.sl 1 (a1_0_0.phases.map (fun (l:List Phase)=>A.D.sl 2 (l.map Phase.D)))),dS a1_0_0.r.Name,dS a1_0_0.r.Left,.d m2 (.sl 1 (a1_0_0.r.Right.map A.D.s)),dB a1_0_0.r.Literal,.d m2 (.sl 9 (a1_0_0.r.Equations.map Eqn.D)),.d m2 (.sl 16 (a1_0_0.r.Contributions.map Cn.D)),.ref 3 none,.ref 4 none,.ref 5 none],.box [.pb 0 0],.box [dI a1_1],.row .fz 2 (a1_0_0.due.map Oc.D),.row .fz 2 (a1_0_0.known.map Oc.D),.row .fz 1 (a1_0_0.next.map (A.D.i .i64))] (dI r) [.box [.d m2 (.sl 2 (a1_0_0.g.Symbols.map Symbol.D)),.d m2 (.sl 6 (a1_0_0.g.Rules.map Rule.D)),.d m2 (.sl 1 (a1_0_0.phases.map (fun (l:List Phase)=>A.D.sl 2 (l.map Phase.D)))),dS a1_0_0.r.Name,dS a1_0_0.r.Left,.d m2 (.sl 1 (a1_0_0.r.Right.map A.D.s)),dB a1_0_0.r.Literal,.d m2 (.sl 9 (a1_0_0.r.Equations.map Eqn.D)),.d m2 (.sl 16 (a1_0_0.r.Contributions.map Cn.D)),.ref 3 none,.ref 4 none,.ref 5 none],.box [.pb 0 0],.box [dI a1_1],.row .fz 2 (a1_0_0.due.map Oc.D),.row .fz 2 (a1_0_0.known.map Oc.D),.row .fz 1 (a1_0_0.next.map (A.D.i .i64))]:=by
 refine OE Tryz.func170 fun S hS=>?_
 unfold q4I at hr
 refine J (gn 12)<|J (lenT 0)<|fun hl1=>bdE hr fun q1 hqq1 hr=>q0b hqq1 hl1 6 (fun k1 _=>[(0,.d m (.sl 1 (a0.map A.D.s))),(1,.fn 117 [.pb 1 0,.pb 2 0]),(7,dI (a0.length:Int)),(8,dI (k1:Int))]) (fun k1 _=>[]) I (fun k1 xk1 sk1 ok1 hxk1 hr hltk1 hik1=>?_) fun k1 sk1 ek1 hltk1=>?_
 refine bdE hr fun y1 hy1 hr=>J g<|J (CB' [(0,0),(1,1),(2,2),(3,3),(4,4),(5,5)] [] (z9q (m2:=m2) hy1))<|J (gn 1)<|ifE hr ?_ ?_<;>intro h1 hr
 exact e
 exact e
 subst ek1
 exact e
theorem q8L {m:Md}{m2:Md}{a0:(List ByteArray)}{a1_0_0:visits}{a1_1:Int}{r:Bool}(hr:q4u a0 a1_0_0 a1_1=some r):Ok Tryz.prog 116 [.d m (.sl 1 (a0.map A.D.s)),.fn 117 [.pb 1 0,.pb 2 0]] [.box [.d m2 (.sl 2 (a1_0_0.g.Symbols.map Symbol.D)),.d m2 (.sl 6 (a1_0_0.g.Rules.map Rule.D)),.d m2 (.sl 1 (a1_0_0.phases.map (fun (l:List Phase)=>A.D.sl 2 (l.map Phase.D)))),dS a1_0_0.r.Name,dS a1_0_0.r.Left,.d m2 (.sl 1 (a1_0_0.r.Right.map A.D.s)),dB a1_0_0.r.Literal,.d m2 (.sl 9 (a1_0_0.r.Equations.map Eqn.D)),.d m2 (.sl 16 (a1_0_0.r.Contributions.map Cn.D)),.ref 3 none,.ref 4 none,.ref 5 none],.box [.pb 0 0],.box [dI a1_1],.row .fz 2 (a1_0_0.due.map Oc.D),.row .fz 2 (a1_0_0.known.map Oc.D),.row .fz 1 (a1_0_0.next.map (A.D.i .i64))] (dB r) [.box [.d m2 (.sl 2 (a1_0_0.g.Symbols.map Symbol.D)),.d m2 (.sl 6 (a1_0_0.g.Rules.map Rule.D)),.d m2 (.sl 1 (a1_0_0.phases.map (fun (l:List Phase)=>A.D.sl 2 (l.map Phase.D)))),dS a1_0_0.r.Name,dS a1_0_0.r.Left,.d m2 (.sl 1 (a1_0_0.r.Right.map A.D.s)),dB a1_0_0.r.Literal,.d m2 (.sl 9 (a1_0_0.r.Equations.map Eqn.D)),.d m2 (.sl 16 (a1_0_0.r.Contributions.map Cn.D)),.ref 3 none,.ref 4 none,.ref 5 none],.box [.pb 0 0],.box [dI a1_1],.row .fz 2 (a1_0_0.due.map Oc.D),.row .fz 2 (a1_0_0.known.map Oc.D),.row .fz 1 (a1_0_0.next.map (A.D.i .i64))]:=by
 refine OE Tryz.func116 fun S hS=>?_
 unfold q4u at hr
 refine bdE hr fun y1 hy1 hr=>J g<|J (CB' [(0,0),(1,1),(2,2),(3,3),(4,4),(5,5)] [] (q9s (m:=m) (m2:=m2) hy1))<|e
theorem z6H {m:Md}{m2:Md}{a0:visits}{a1:Int}{a2:(List ByteArray)}{r:Bool}(hr:q7Y a0 a1 a2=some r):Ok Tryz.prog 68 [.pb 0 0,dI a1,.d m (.sl 1 (a2.map A.D.s))] [.box [.d m2 (.sl 2 (a0.g.Symbols.map Symbol.D)),.d m2 (.sl 6 (a0.g.Rules.map Rule.D)),.d m2 (.sl 1 (a0.phases.map (fun (l:List Phase)=>A.D.sl 2 (l.map Phase.D)))),dS a0.r.Name,dS a0.r.Left,.d m2 (.sl 1 (a0.r.Right.map A.D.s)),dB a0.r.Literal,.d m2 (.sl 9 (a0.r.Equations.map Eqn.D)),.d m2 (.sl 16 (a0.r.Contributions.map Cn.D)),.ref 1 none,.ref 2 none,.ref 3 none],.row .fz 2 (a0.due.map Oc.D),.row .fz 2 (a0.known.map Oc.D),.row .fz 1 (a0.next.map (A.D.i .i64))] (dB r) [.box [.d m2 (.sl 2 (a0.g.Symbols.map Symbol.D)),.d m2 (.sl 6 (a0.g.Rules.map Rule.D)),.d m2 (.sl 1 (a0.phases.map (fun (l:List Phase)=>A.D.sl 2 (l.map Phase.D)))),dS a0.r.Name,dS a0.r.Left,.d m2 (.sl 1 (a0.r.Right.map A.D.s)),dB a0.r.Literal,.d m2 (.sl 9 (a0.r.Equations.map Eqn.D)),.d m2 (.sl 16 (a0.r.Contributions.map Cn.D)),.ref 1 none,.ref 2 none,.ref 3 none],.row .fz 2 (a0.due.map Oc.D),.row .fz 2 (a0.known.map Oc.D),.row .fz 1 (a0.next.map (A.D.i .i64))]:=by
 refine OE Tryz.func68 fun S hS=>?_
 unfold q7Y at hr
 refine J g<|J (BX' 4)<|J (BX' 5)<|bdE hr fun y1 hy1 hr=>J g<|J (CB' [(0,0),(1,4),(2,5),(3,1),(4,2),(5,3)] [] (q8L (m:=m) (m2:=m2) hy1))<|e
theorem z8E {m2:Md}{a0:visits}{a1:Int}{r:Bool}(hr:q7c a0 a1=some r):Ok Tryz.prog 66 [.pb 0 0,dI a1] [.box [.d m2 (.sl 2 (a0.g.Symbols.map Symbol.D)),.d m2 (.sl 6 (a0.g.Rules.map Rule.D)),.d m2 (.sl 1 (a0.phases.map (fun (l:List Phase)=>A.D.sl 2 (l.map Phase.D)))),dS a0.r.Name,dS a0.r.Left,.d m2 (.sl 1 (a0.r.Right.map A.D.s)),dB a0.r.Literal,.d m2 (.sl 9 (a0.r.Equations.map Eqn.D)),.d m2 (.sl 16 (a0.r.Contributions.map Cn.D)),.ref 1 none,.ref 2 none,.ref 3 none],.row .fz 2 (a0.due.map Oc.D),.row .fz 2 (a0.known.map Oc.D),.row .fz 1 (a0.next.map (A.D.i .i64))] (dB r) [.box [.d m2 (.sl 2 (a0.g.Symbols.map Symbol.D)),.d m2 (.sl 6 (a0.g.Rules.map Rule.D)),.d m2 (.sl 1 (a0.phases.map (fun (l:List Phase)=>A.D.sl 2 (l.map Phase.D)))),dS a0.r.Name,dS a0.r.Left,.d m2 (.sl 1 (a0.r.Right.map A.D.s)),dB a0.r.Literal,.d m2 (.sl 9 (a0.r.Equations.map Eqn.D)),.d m2 (.sl 16 (a0.r.Contributions.map Cn.D)),.ref 1 none,.ref 2 none,.ref 3 none],.row .fz 2 (a0.due.map Oc.D),.row .fz 2 (a0.known.map Oc.D),.row .fz 1 (a0.next.map (A.D.i .i64))]:=by
 refine OE Tryz.func66 fun S hS=>?_
 unfold q7c at hr
 refine bdE hr fun y1 hy1 hr=>J g<|J (CB' [(0,0),(1,1),(2,2),(3,3)] [] (q8a (m2:=m2) hy1))<|bdE hr fun y2 hy2 hr=>J g<|J (CB' [] [] (q5v hy2))<|bdE hr fun s1 hqq1 hr=>q0a 12 [(0,.pb 0 0),(1,dI a1),(4,dB false),(5,.d m2 (.sl 2 (y1.map Phase.D))),(28,dB s1)] ?_ ?_
 replace hr:=hqq1
 refine ifE hr ?_ ?_<;>intro h1 hr
 refine ggE hr fun g1 hr=>bdE hr fun x1 hx1 hr=>e
 exact e
 refine bdE hr fun s2 hqq2 hr=>q0a 16 [(4,dB false),(44,dB s2)] ?_ ?_
 replace hr:=hqq2
 refine ifE hr ?_ ?_<;>intro h2 hr
 refine ggE hr fun g2 hr=>bdE hr fun x2 hx2 hr=>ggE hr fun g3 hr=>bdE hr fun x3 hx3 hr=>bdE hr fun y3 hy3 hr=>J g<|J (CB' [(0,0),(1,1),(2,2),(3,3)] [] (z6H (m:=m2) (m2:=m2) hy3))<|e
 exact e
 exact e
theorem j1h {m2:Md}{a1:Int}{o0:visits}{r:visits}(hr:q6W a1 o0=some r):Ok Tryz.prog 67 [.pb 0 0,dI a1] [.box [.d m2 (.sl 2 (o0.g.Symbols.map Symbol.D)),.d m2 (.sl 6 (o0.g.Rules.map Rule.D)),.d m2 (.sl 1 (o0.phases.map (fun (l:List Phase)=>A.D.sl 2 (l.map Phase.D)))),dS o0.r.Name,dS o0.r.Left,.d m2 (.sl 1 (o0.r.Right.map A.D.s)),dB o0.r.Literal,.d m2 (.sl 9 (o0.r.Equations.map Eqn.D)),.d m2 (.sl 16 (o0.r.Contributions.map Cn.D)),.ref 1 none,.ref 2 none,.ref 3 none],.row .fz 2 (o0.due.map Oc.D),.row .fz 2 (o0.known.map Oc.D),.row .fz 1 (o0.next.map (A.D.i .i64))] (.tu []) [.box [.d m2 (.sl 2 (o0.g.Symbols.map Symbol.D)),.d m2 (.sl 6 (o0.g.Rules.map Rule.D)),.d m2 (.sl 1 (o0.phases.map (fun (l:List Phase)=>A.D.sl 2 (l.map Phase.D)))),dS r.r.Name,dS r.r.Left,.d m2 (.sl 1 (o0.r.Right.map A.D.s)),dB r.r.Literal,.d m2 (.sl 9 (o0.r.Equations.map Eqn.D)),.d m2 (.sl 16 (o0.r.Contributions.map Cn.D)),.ref 1 none,.ref 4 none,.ref 3 none],.row .fz 2 (r.due.map Oc.D),.dead,.row .fz 1 (r.next.map (A.D.i .i64)),.row .fz 2 (r.known.map Oc.D)]:=by
 refine OE Tryz.func67 fun S hS=>?_
 unfold q6W at hr
 refine bdE hr fun y1 hy1 hr=>J g<|CBK2 [(0,0),(1,1),(2,2),(3,3)] [] [] (q8a (m2:=m2) hy1) ?_
 refine ggE hr fun g1 hr=>bdE hr fun x1 hx1 hr=>ggE hr fun g2 hr=>bdE hr fun x2 hx2 hr=>bdE hr fun z1 hz1 hr=>J g<|J (CB' [(0,0),(1,1),(2,2),(3,3),(4,4)] [] (z3t (m:=m2) (m2:=m2) hz1))<|ggE hr fun g3 hr=>bdE hr fun x3 hx3 hr=>ggE hr fun g4 hr=>J g<|J (SE' (x3+1) hx3)<|e
theorem z9r {m2:Md}{a1:Step}{o0:visits}{r:(Bool×visits)}(hr:q8G a1 o0=some r):Ok Tryz.prog 32 [.pb 0 0,Step.x .fz a1] [.box [.d m2 (.sl 2 (o0.g.Symbols.map Symbol.D)),.d m2 (.sl 6 (o0.g.Rules.map Rule.D)),.d m2 (.sl 1 (o0.phases.map (fun (l:List Phase)=>A.D.sl 2 (l.map Phase.D)))),dS o0.r.Name,dS o0.r.Left,.d m2 (.sl 1 (o0.r.Right.map A.D.s)),dB o0.r.Literal,.d m2 (.sl 9 (o0.r.Equations.map Eqn.D)),.d m2 (.sl 16 (o0.r.Contributions.map Cn.D)),.ref 1 none,.ref 2 none,.ref 3 none],.row .fz 2 (o0.due.map Oc.D),.row .fz 2 (o0.known.map Oc.D),.row .fz 1 (o0.next.map (A.D.i .i64))] (dB r.1) [.box [.d m2 (.sl 2 (o0.g.Symbols.map Symbol.D)),.d m2 (.sl 6 (o0.g.Rules.map Rule.D)),.d m2 (.sl 1 (o0.phases.map (fun (l:List Phase)=>A.D.sl 2 (l.map Phase.D)))),dS r.2.r.Name,dS r.2.r.Left,.d m2 (.sl 1 (o0.r.Right.map A.D.s)),dB r.2.r.Literal,.d m2 (.sl 9 (o0.r.Equations.map Eqn.D)),.d m2 (.sl 16 (o0.r.Contributions.map Cn.D)),.ref 1 none,.ref 4 none,.ref 3 none],.row .fz 2 (r.2.due.map Oc.D),.dead,.row .fz 1 (r.2.next.map (A.D.i .i64)),.row .fz 2 (r.2.known.map Oc.D)]:=by
 refine OE Tryz.func32 fun S hS=>?_
 unfold q8G at hr
 refine J g<|J (BX' 4)<|J (gn 14)<|ifE hr ?_ ?_<;>intro h1 hr
 refine J g<|J (NV' 5)<|J (gn 8)<|ifE hr ?_ ?_<;>intro h2 hr
 refine bdE hr fun y1 hy1 hr=>J g<|J (CB' [(0,0),(1,1),(2,2),(3,3)] [] (z9p (m2:=m2) hy1))<|J (gn 3)<|ifE hr ?_ ?_<;>intro h3 hr
 refine J g<|J (LIR' 6 (m:=.fz) (f:=Oc.D) (xs:=[(⟨a1.Pos,a1.Name⟩:Oc)]))<|ggE hr fun g1 hr=>J (z3z (f:=Oc.D) 7 (fun _=>rfl) 24 g1)<|e
 refine J (gn 6) ?_
 refine J (q0c (q0q (i:=2) (j:=6) rfl rfl))<|J g<|E
 refine J (gn 13) ?_
 refine J (q0c (q0q (i:=2) (j:=6) rfl rfl))<|J g<|E
 refine J (gn 6)<|ifE hr ?_ ?_<;>intro h4 hr
 refine J (gn 7)<|ifE hr ?_ ?_<;>intro h5 hr
 refine bdE hr fun y2 hy2 hr=>J g<|CBK2 [(0,0),(1,1),(2,2),(3,3)] [] [] (z8E (m2:=m2) hy2) ?_
 refine J (gn 2)<|ifE hr ?_ ?_<;>intro h6 hr
 refine ggE hr fun g2 hr=>bdE hr fun x1 hx1 hr=>ggE hr fun g3 hr=>J (gn 15)<|ifE hr ?_ ?_<;>intro h7 hr
 refine bdE hr fun z1 hz1 hr=>J g<|J (CB' [(0,0),(1,1),(2,2),(3,3),(4,5)] [] (j1h (m2:=m2) hz1))<|e
 refine J (gn 6) ?_
 refine J (q0c (q0q (i:=2) (j:=5) rfl rfl))<|J g<|E
 refine J (gn 21) ?_
 refine J (q0c (q0q (i:=2) (j:=5) rfl rfl))<|J g<|E
 refine J (gn 28) ?_
 refine J (q0c (q0q (i:=2) (j:=5) rfl rfl))<|J g<|E
 refine J (gn 6)<|ifE hr ?_ ?_<;>intro h8 hr
 refine bdE hr fun y3 hy3 hr=>J g<|J (CB' [(0,0),(1,1),(2,2),(3,3)] [] (q8a (m2:=m2) hy3))<|J (gn 8)<|ifE hr ?_ ?_<;>intro h9 hr
 refine J (gn 5)<|ifE hr ?_ ?_<;>intro h10 hr
 refine bdE hr fun x2 hx2 hr=>J (gn 11)<|ifE hr ?_ ?_<;>intro h11 hr
 refine J (gn 34) ?_
 refine J (q0c (q0q (i:=2) (j:=5) rfl rfl))<|J g<|E
 refine ggE hr fun g4 hr=>J (gn 12)<|ifE hr ?_ ?_<;>intro h12 hr
 refine ggE hr fun g5 hr=>bdE hr fun x3 hx3 hr=>bdE hr fun y4 hy4 hr=>J g<|CBK2 [(0,0),(1,1),(2,2),(3,3)] [] [] (z6H (m:=m2) (m2:=m2) hy4) ?_
 refine J (gn 3)<|ifE hr ?_ ?_<;>intro h13 hr
 refine ggE hr fun g6 hr=>J g<|J (SE' (x2+1) hx2)<|bdE hr fun x4 hx4 hr=>J (gn 14)<|ifE hr ?_ ?_<;>intro h14 hr
 refine ggE hr fun g7 hr=>bdE hr fun x5 hx5 hr=>bdE hr fun z2 hz2 hr=>J g<|J (CB' [(0,0),(1,1),(2,2),(3,3),(4,5)] [] (z3t (m:=m2) (m2:=m2) hz2))<|e
 refine J (gn 7) ?_
 refine J (q0c (q0q (i:=2) (j:=5) rfl rfl))<|J g<|E
 refine J (gn 6) ?_
 refine J (q0c (q0q (i:=2) (j:=5) rfl rfl))<|J g<|E
 refine J (gn 22) ?_
 refine J (q0c (q0q (i:=2) (j:=5) rfl rfl))<|J g<|E
 refine J (gn 45) ?_
 refine J (q0c (q0q (i:=2) (j:=5) rfl rfl))<|J g<|E
 refine J (gn 50) ?_
 refine J (q0c (q0q (i:=2) (j:=5) rfl rfl))<|J g<|E
 refine J (gn 7) ?_
 refine J (q0c (q0q (i:=2) (j:=5) rfl rfl))<|J g<|E
theorem z7A {m2:Md}{a0:Oc}{a1_0:visits}{r:Bool}(hr:q8x a0 a1_0=some r):Ok Tryz.prog 70 [Oc.x .fz a0,.pb 1 0] [.box [.d m2 (.sl 2 (a1_0.g.Symbols.map Symbol.D)),.d m2 (.sl 6 (a1_0.g.Rules.map Rule.D)),.d m2 (.sl 1 (a1_0.phases.map (fun (l:List Phase)=>A.D.sl 2 (l.map Phase.D)))),dS a1_0.r.Name,dS a1_0.r.Left,.d m2 (.sl 1 (a1_0.r.Right.map A.D.s)),dB a1_0.r.Literal,.d m2 (.sl 9 (a1_0.r.Equations.map Eqn.D)),.d m2 (.sl 16 (a1_0.r.Contributions.map Cn.D)),.ref 2 none,.ref 3 none,.ref 4 none],.box [.pb 0 0],.row .fz 2 (a1_0.due.map Oc.D),.row .fz 2 (a1_0.known.map Oc.D),.row .fz 1 (a1_0.next.map (A.D.i .i64))] (dB r) [.box [.d m2 (.sl 2 (a1_0.g.Symbols.map Symbol.D)),.d m2 (.sl 6 (a1_0.g.Rules.map Rule.D)),.d m2 (.sl 1 (a1_0.phases.map (fun (l:List Phase)=>A.D.sl 2 (l.map Phase.D)))),dS a1_0.r.Name,dS a1_0.r.Left,.d m2 (.sl 1 (a1_0.r.Right.map A.D.s)),dB a1_0.r.Literal,.d m2 (.sl 9 (a1_0.r.Equations.map Eqn.D)),.d m2 (.sl 16 (a1_0.r.Contributions.map Cn.D)),.ref 2 none,.ref 3 none,.ref 4 none],.box [.pb 0 0],.row .fz 2 (a1_0.due.map Oc.D),.row .fz 2 (a1_0.known.map Oc.D),.row .fz 1 (a1_0.next.map (A.D.i .i64))]:=by
 refine OE Tryz.func70 fun S hS=>?_
 unfold q8x at hr
 refine J g<|J (BX' 5)<|bdE hr fun y1 hy1 hr=>J g<|J (CB' [] [3] (q4S (m:=.bo) hy1))<|e
theorem q8h {m2:Md}{a0:(List Oc)}{a1_0_0:visits}{r:Int}(hr:q4h a0 a1_0_0=some r):Ok Tryz.prog 118 [.ref 2 none,.fn 70 [.pb 1 0]] [.box [.d m2 (.sl 2 (a1_0_0.g.Symbols.map Symbol.D)),.d m2 (.sl 6 (a1_0_0.g.Rules.map Rule.D)),.d m2 (.sl 1 (a1_0_0.phases.map (fun (l:List Phase)=>A.D.sl 2 (l.map Phase.D)))),dS a1_0_0.r.Name,dS a1_0_0.r.Left,.d m2 (.sl 1 (a1_0_0.r.Right.map A.D.s)),dB a1_0_0.r.Literal,.d m2 (.sl 9 (a1_0_0.r.Equations.map Eqn.D)),.d m2 (.sl 16 (a1_0_0.r.Contributions.map Cn.D)),.ref 2 none,.ref 3 none,.ref 4 none],.box [.pb 0 0],.row .fz 2 (a1_0_0.due.map Oc.D),.row .fz 2 (a1_0_0.known.map Oc.D),.row .fz 1 (a1_0_0.next.map (A.D.i .i64))] (dI r) [.box [.d m2 (.sl 2 (a1_0_0.g.Symbols.map Symbol.D)),.d m2 (.sl 6 (a1_0_0.g.Rules.map Rule.D)),.d m2 (.sl 1 (a1_0_0.phases.map (fun (l:List Phase)=>A.D.sl 2 (l.map Phase.D)))),dS a1_0_0.r.Name,dS a1_0_0.r.Left,.d m2 (.sl 1 (a1_0_0.r.Right.map A.D.s)),dB a1_0_0.r.Literal,.d m2 (.sl 9 (a1_0_0.r.Equations.map Eqn.D)),.d m2 (.sl 16 (a1_0_0.r.Contributions.map Cn.D)),.ref 2 none,.ref 3 none,.ref 4 none],.box [.pb 0 0],.row .fz 2 (a1_0_0.due.map Oc.D),.row .fz 2 (a1_0_0.known.map Oc.D),.row .fz 1 (a1_0_0.next.map (A.D.i .i64))]:=by
 refine OE Tryz.func118 fun S hS=>?_
 unfold q4h at hr
 refine J (gn 12)<|J (lenR 2)<|fun hl1=>bdE hr fun q1 hqq1 hr=>q0b hqq1 hl1 5 (fun k1 _=>[(0,.ref 2 none),(1,.fn 70 [.pb 1 0]),(7,dI (a1_0_0.due.length:Int)),(8,dI (k1:Int))]) (fun k1 _=>[]) I (fun k1 xk1 sk1 ok1 hxk1 hr hltk1 hik1=>?_) fun k1 sk1 ek1 hltk1=>?_
 refine bdE hr fun y1 hy1 hr=>J g<|J (CB' [(0,0),(1,1),(2,2),(3,3),(4,4)] [] (z7A (m2:=m2) hy1))<|J (gn 1)<|ifE hr ?_ ?_<;>intro h1 hr
 exact e
 exact e
 subst ek1
 exact e
theorem q7L {m2:Md}{a0:(List Oc)}{a1_0_0:visits}{r:Bool}(hr:q3H a0 a1_0_0=some r):Ok Tryz.prog 69 [.ref 2 none,.fn 70 [.pb 1 0]] [.box [.d m2 (.sl 2 (a1_0_0.g.Symbols.map Symbol.D)),.d m2 (.sl 6 (a1_0_0.g.Rules.map Rule.D)),.d m2 (.sl 1 (a1_0_0.phases.map (fun (l:List Phase)=>A.D.sl 2 (l.map Phase.D)))),dS a1_0_0.r.Name,dS a1_0_0.r.Left,.d m2 (.sl 1 (a1_0_0.r.Right.map A.D.s)),dB a1_0_0.r.Literal,.d m2 (.sl 9 (a1_0_0.r.Equations.map Eqn.D)),.d m2 (.sl 16 (a1_0_0.r.Contributions.map Cn.D)),.ref 2 none,.ref 3 none,.ref 4 none],.box [.pb 0 0],.row .fz 2 (a1_0_0.due.map Oc.D),.row .fz 2 (a1_0_0.known.map Oc.D),.row .fz 1 (a1_0_0.next.map (A.D.i .i64))] (dB r) [.box [.d m2 (.sl 2 (a1_0_0.g.Symbols.map Symbol.D)),.d m2 (.sl 6 (a1_0_0.g.Rules.map Rule.D)),.d m2 (.sl 1 (a1_0_0.phases.map (fun (l:List Phase)=>A.D.sl 2 (l.map Phase.D)))),dS a1_0_0.r.Name,dS a1_0_0.r.Left,.d m2 (.sl 1 (a1_0_0.r.Right.map A.D.s)),dB a1_0_0.r.Literal,.d m2 (.sl 9 (a1_0_0.r.Equations.map Eqn.D)),.d m2 (.sl 16 (a1_0_0.r.Contributions.map Cn.D)),.ref 2 none,.ref 3 none,.ref 4 none],.box [.pb 0 0],.row .fz 2 (a1_0_0.due.map Oc.D),.row .fz 2 (a1_0_0.known.map Oc.D),.row .fz 1 (a1_0_0.next.map (A.D.i .i64))]:=by
 refine OE Tryz.func69 fun S hS=>?_
 unfold q3H at hr
 refine bdE hr fun y1 hy1 hr=>J g<|J (CB' [(0,0),(1,1),(2,2),(3,3),(4,4)] [] (q8h (m2:=m2) hy1))<|e
theorem z8F {m2:Md}{a0:visits}{r:Bool}(hr:q5C a0=some r):Ok Tryz.prog 33 [.pb 0 0] [.box [.d m2 (.sl 2 (a0.g.Symbols.map Symbol.D)),.d m2 (.sl 6 (a0.g.Rules.map Rule.D)),.d m2 (.sl 1 (a0.phases.map (fun (l:List Phase)=>A.D.sl 2 (l.map Phase.D)))),dS a0.r.Name,dS a0.r.Left,.d m2 (.sl 1 (a0.r.Right.map A.D.s)),dB a0.r.Literal,.d m2 (.sl 9 (a0.r.Equations.map Eqn.D)),.d m2 (.sl 16 (a0.r.Contributions.map Cn.D)),.ref 1 none,.ref 2 none,.ref 3 none],.row .fz 2 (a0.due.map Oc.D),.row .fz 2 (a0.known.map Oc.D),.row .fz 1 (a0.next.map (A.D.i .i64))] (dB r) [.box [.d m2 (.sl 2 (a0.g.Symbols.map Symbol.D)),.d m2 (.sl 6 (a0.g.Rules.map Rule.D)),.d m2 (.sl 1 (a0.phases.map (fun (l:List Phase)=>A.D.sl 2 (l.map Phase.D)))),dS a0.r.Name,dS a0.r.Left,.d m2 (.sl 1 (a0.r.Right.map A.D.s)),dB a0.r.Literal,.d m2 (.sl 9 (a0.r.Equations.map Eqn.D)),.d m2 (.sl 16 (a0.r.Contributions.map Cn.D)),.ref 1 none,.ref 2 none,.ref 3 none],.row .fz 2 (a0.due.map Oc.D),.row .fz 2 (a0.known.map Oc.D),.row .fz 1 (a0.next.map (A.D.i .i64))]:=by
 refine OE Tryz.func33 fun S hS=>?_
 unfold q5C at hr
 refine J g<|J (BX' 4)<|bdE hr fun q1 hqq1 hr=>J (gn 7)<|AW.cut 5 (fun _=>[(1,.pb 4 0)]) (fun _=>[]) (M:=fun x=>q1=.inl x) ?_ fun x hx=>?_
 refine J g<|q0l hqq1 5 (fun s1=>[(1,.pb 4 0),(3,dI s1)]) (fun s1=>[]) I fun sk1 ok1 hr hik1=>?_
 obtain⟨s1,rfl⟩:∃ y,y=sk1:=⟨_,rfl⟩
 have hr:=hr
 refine J (gn 12)<|ifE hr ?_ ?_<;>intro h1 hr
 refine ggE hr fun g1 hr=>bdE hr fun x1 hx1 hr=>bdE hr fun y1 hy1 hr=>J g<|CBK2 [(0,0),(1,1),(2,2),(3,3)] [] [] (q8a (m2:=m2) hy1) ?_
 refine J (gn 3)<|ifE hr ?_ ?_<;>intro h2 hr
 exact e
 refine ggE hr fun g2 hr=>e
 refine J (gn 2) ?_
 cases hr
 cases hik1 _ rfl
 exact⟨_,rfl,q0i hS 5⟩
 subst hx
 refine bdE hr fun y2 hy2 hr=>J g<|J (CB' [(0,0),(1,4),(2,1),(3,2),(4,3)] [] (q7L (m2:=m2) hy2))<|e
theorem z2s {m:Md}{a0:Gm_}{a1:(List (List Phase))}{a2:Rule}{a3:(List Step)}{r:Bool}(hr:q6c a0 a1 a2 a3=some r):Ok Tryz.prog 10 [Gm_.x m a0,.d m (.sl 1 (a1.map (fun (l:List Phase)=>A.D.sl 2 (l.map Phase.D)))),Rule.x m a2,.d m (.sl 4 (a3.map Step.D))] [] (dB r) []:=by
 refine Ok.enter rfl Tryz.func10 rfl rfl rfl fun S hS=>?_
 unfold q6c at hr
 refine sr ?_
 refine BX 0 ?_
 refine BX 1 ?_
 refine N1 ?_
 refine sr ?_
 refine W3 ?_
 refine bdE hr fun y1 hy1 hr=>?_
 refine CB [(0,2),(1,3),(2,4),(3,5)] [] (j6X (m:=m) hy1) ?_
 refine N1 ?_
 refine sr ?_
 refine W1 ?_
 refine bdE hr fun y2 hy2 hr=>?_
 refine CB [(0,2),(1,3),(2,4),(3,5)] [] (q8a (m2:=m) hy2) ?_
 refine N1 ?_
 refine ssr ?_
 refine W1 ?_
 refine LF ?_
 refine W1 ?_
 refine bdE hr fun s1 hqq1 hr=>?_
 refine q0a 5 [(3,.d m (.sl 4 (a3.map Step.D))),(9,.pb 2 0),(10,.d m (.sl 2 (y2.map Phase.D))),(26,dB s1)] ?_ ?_
 replace hr:=hqq1
 refine ifE hr (fun h1 hr=>?_) fun h1 hr=>?_
 refine VT rfl (dT h1) ?_
 iterate 3 refine AL.off ?_
 refine N1 ?_
 cases hr
 exact z0M
 refine VF rfl (dF h1) ?_
 refine W1 ?_
 refine LF ?_
 refine N2 ?_
 cases hr
 exact z0M
 refine N0 ?_
 refine ifE hr (fun h2 hr=>?_) fun h2 hr=>?_
 refine q0o rfl h2 ?_
 refine sr ?_
 refine N1 ?_
 refine AW.ret ?_
 cases hr
 exact q0j [] 0 hS
 refine q0p rfl (bF h2) ?_
 refine q0k ?_
 refine sr ?_
 refine W2 ?_
 refine bdE hr fun x1 hx1 hr=>?_
 refine IF (Int.natCast_nonneg _) hx1 ?_
 refine W2 ?_
 refine bdE hr fun z1 hz1 hr=>?_
 refine CB [(0,2),(1,3),(2,4),(3,5),(4,6)] [] (z3t (m:=m) (m2:=m) hz1) ?_
 refine N0 ?_
 refine ssr ?_
 refine W1 ?_
 refine LF ?_
 refine N1 ?_
 refine AW.block ?_
 refine AW.len (.tmp 3 rfl) fun hl1=>?_
 refine bdE hr fun q2 hqq2 hr=>?_
 refine q0b hqq2 hl1 7 (fun k1 (s3,s4,s5,s6,s2,s7)=>[(3,.d m (.sl 4 (a3.map Step.D))),(9,.pb 2 0),(10,.d m (.sl 2 (y2.map Phase.D))),(33,.d m (.sl 4 (a3.map Step.D))),(34,dI (a3.length:Int)),(35,dI (k1:Int))]) (fun k1 (s3,s4,s5,s6,s2,s7)=>[(2,.box [.d m (.sl 2 (y1.g.Symbols.map Symbol.D)),.d m (.sl 6 (y1.g.Rules.map Rule.D)),.d m (.sl 1 (y1.phases.map (fun (l:List Phase)=>A.D.sl 2 (l.map Phase.D)))),dS s3,dS s4,.d m (.sl 1 (y1.r.Right.map A.D.s)),dB s5,.d m (.sl 9 (y1.r.Equations.map Eqn.D)),.d m (.sl 16 (y1.r.Contributions.map Cn.D)),.ref 3 none,.ref 6 none,.ref 5 none]),(3,.row .fz 2 (s6.map Oc.D)),(4,.none),(5,.row .fz 1 (s7.map (A.D.i .i64))),(6,.row .fz 2 (s2.map Oc.D))]) (q0h hS [(0,0),(1,1),(2,2),(3,3),(5,5),(6,6)] 7) (fun k1 xk1 sk1 ok1 hxk1 hr hltk1 hik1=>?_) fun k1 sk1 ek1 hltk1=>?_
 obtain⟨s3,s4,s5,s6,s2,s7⟩:=sk1
 refine sr ?_
 refine N1 ?_
 refine q0m (q0o rfl (dT hltk1) ?_)
 refine q0k ?_
 refine q0m (AW.block (q0m (q0g ?_)))
 refine W1 ?_
 refine IF (Int.natCast_nonneg _) hxk1 ?_
 refine W1 ?_
 refine NV 7 ?_
 refine W1 ?_
 refine SB ?_
 refine N0 ?_
 refine sr ?_
 refine W2 ?_
 refine bdE hr fun q3 hq3 hr=>?_
 obtain⟨y3,z2⟩:=q3
 refine CB [(0,2),(1,3),(2,6),(3,5),(4,8)] [] (z9r (m2:=m) hq3) ?_
 refine W1 ?_
 refine bdE hr fun q4 hqq4 hr=>?_
 obtain⟨s12,s13,s14,s15⟩:=q4
 refine q0u 18 9 [(3,.d m (.sl 4 (a3.map Step.D))),(9,.pb 2 0),(10,.d m (.sl 2 (y2.map Phase.D))),(33,.d m (.sl 4 (a3.map Step.D))),(34,dI (a3.length:Int)),(35,dI (k1:Int)),(61,dB s12)] [(3,.row .fz 2 (s13.map Oc.D)),(5,.row .fz 1 (s15.map (A.D.i .i64))),(6,.none),(8,.row .fz 2 (s14.map Oc.D))] ?_ ?_
 replace hr:=hqq4
 refine ifE hr (fun h3 hr=>?_) fun h3 hr=>?_
 refine VF rfl (bnF h3) ?_
 refine W4 ?_
 refine bdE hr fun x2 hx2 hr=>?_
 refine IE hx2 (Int.natCast_nonneg _) ?_
 refine LP hx2 ?_
 refine W1 ?_
 refine LF ?_
 refine W1 ?_
 refine bdE hr fun q5 hqq5 hr=>?_
 obtain⟨s16,s17⟩:=q5
 refine q0a 7 [(3,.d m (.sl 4 (a3.map Step.D))),(9,.pb 2 0),(10,.d m (.sl 2 (y2.map Phase.D))),(33,.d m (.sl 4 (a3.map Step.D))),(34,dI (a3.length:Int)),(35,dI (k1:Int)),(44,dB false),(45,.pb 2 0),(46,.pb 2 0),(47,.pb 2 11),(48,.ref 5 none),(49,.pe 5 none 0 0),(50,dI x2),(51,.d m (.sl 2 (y2.map Phase.D))),(52,dI (y2.length:Int)),(53,dB (decide (x2=(y2.length:Int)))),(54,dB s16),(60,dB s17)] ?_ ?_
 replace hr:=hqq5
 refine ifE hr (fun h4 hr=>?_) fun h4 hr=>?_
 refine VT rfl (dT h4) ?_
 refine W2 ?_
 refine LF ?_
 refine OB _ (j7T (p:=a3.length) (k:=1) (by decide)) ?_
 refine N2 ?_
 cases hr
 exact z0M
 refine VF rfl (dF h4) ?_
 iterate 5 refine AL.off ?_
 refine N1 ?_
 cases hr
 exact z0M
 refine N1 ?_
 cases hr
 exact q0h hS [(0,0),(1,1),(2,2),(3,3),(5,5),(7,7),(8,8)] 9
 refine VT rfl (bnT h3) ?_
 iterate 16 refine AL.off ?_
 refine N1 ?_
 cases hr
 exact q0h hS [(0,0),(1,1),(2,2),(3,3),(5,5),(7,7),(8,8)] 9
 refine N0 ?_
 refine ifE hr (fun h5 hr=>?_) fun h5 hr=>?_
 refine q0o rfl h5 ?_
 refine sr ?_
 refine N1 ?_
 refine AW.ret ?_
 cases hr
 cases hik1 _ rfl
 rename_i hr
 cases hr
 exact q0j [] 0 hS
 refine q0p rfl (bF h5) ?_
 refine q0k ?_
 refine q0g ?_
 refine OB _ (z1R (p:=k1) (q:=1) (q4J hltk1 hl1)) ?_
 refine N1 ?_
 cases hr
 exact⟨_,rfl,q0h hS [(0,0),(1,1),(2,2),(3,3),(5,5),(8,6)] 7⟩
 subst ek1
 obtain⟨s3,s4,s5,s6,s2,s7⟩:=sk1
 refine sr ?_
 refine N1 ?_
 refine q0m (q0p rfl (dF hltk1) ?_)
 refine q0t ?_
 refine sr ?_
 refine W4 ?_
 refine bdE hr fun x3 hx3 hr=>?_
 refine IE hx3 (Int.natCast_nonneg _) ?_
 refine LP hx3 ?_
 refine W1 ?_
 refine LF ?_
 refine W1 ?_
 refine bdE hr fun s18 hqq6 hr=>?_
 refine q0a 4 [(75,dB s18)] ?_ ?_
 replace hr:=hqq6
 refine ifE hr (fun h6 hr=>?_) fun h6 hr=>?_
 refine VT rfl (dT h6) ?_
 refine W1 ?_
 refine bdE hr fun y4 hy4 hr=>?_
 refine CB [(0,2),(1,3),(2,6),(3,5)] [] (z8F (m2:=m) hy4) ?_
 refine N1 ?_
 cases hr
 exact z0M
 refine VF rfl (dF h6) ?_
 iterate 2 refine AL.off ?_
 refine N1 ?_
 cases hr
 exact z0M
 refine N1 ?_
 refine AW.ret ?_
 cases hr
 exact q0j [] 0 hS
theorem j5u {m:Md}{a0:Gm_}{a1:(List (List Phase))}{a2:(List RPl_)}{r:Bool}(hr:z3c a0 a1 a2=some r):Ok Tryz.prog 7 [Gm_.x m a0,.d m (.sl 1 (a1.map (fun (l:List Phase)=>A.D.sl 2 (l.map Phase.D)))),.d m (.sl 2 (a2.map RPl_.D))] [] (dB r) []:=by
 refine OE Tryz.func7 fun S hS=>?_
 unfold z3c at hr
 refine J g<|J (BX' 0)<|bdE hr fun y1 hy1 hr=>J g<|J (CB' [] [] (j6W (m:=m) hy1))<|bdE hr fun s1 hqq1 hr=>J (gn 1)<|q0a 8 [(1,.d m (.sl 1 (a1.map (fun (l:List Phase)=>A.D.sl 2 (l.map Phase.D))))),(2,.d m (.sl 2 (a2.map RPl_.D))),(3,.pb 0 0),(19,dB s1)] ?_ ?_
 replace hr:=hqq1
 refine ifE hr ?_ ?_<;>intro h1 hr
 exact e
 exact e
 refine bdE hr fun s2 hqq2 hr=>q0a 8 [(1,.d m (.sl 1 (a1.map (fun (l:List Phase)=>A.D.sl 2 (l.map Phase.D))))),(2,.d m (.sl 2 (a2.map RPl_.D))),(3,.pb 0 0),(27,dB s2)] ?_ ?_
 replace hr:=hqq2
 refine ifE hr ?_ ?_<;>intro h2 hr
 exact e
 exact e
 refine bdE hr fun s3 hqq3 hr=>q0a 4 [(1,.d m (.sl 1 (a1.map (fun (l:List Phase)=>A.D.sl 2 (l.map Phase.D))))),(2,.d m (.sl 2 (a2.map RPl_.D))),(3,.pb 0 0),(31,dB s3)] ?_ ?_
 replace hr:=hqq3
 refine ifE hr ?_ ?_<;>intro h3 hr
 exact e
 refine bdE hr fun y2 hy2 hr=>J g<|J (CB' [] [] (q9D (m:=m) hy2))<|e
 refine J (gn 1)<|ifE hr ?_ ?_<;>intro h4 hr
 exact e
 refine J (gn 11)<|J (lenT 33)<|fun hl1=>bdE hr fun q4 hqq4 hr=>q0b hqq4 hl1 1 (fun k1 _=>[(1,.d m (.sl 1 (a1.map (fun (l:List Phase)=>A.D.sl 2 (l.map Phase.D))))),(2,.d m (.sl 2 (a2.map RPl_.D))),(3,.pb 0 0),(33,.d m (.sl 6 (a0.Rules.map Rule.D))),(34,dI (a0.Rules.length:Int)),(35,dI (k1:Int))]) (fun k1 _=>[]) I (fun k1 xk1 sk1 ok1 hxk1 hr hltk1 hik1=>?_) fun k1 sk1 ek1 hltk1=>?_
 refine J g<|J (NV' 1)<|bdE hr fun x1 hx1 hr=>J (gn 13)<|ifE hr ?_ ?_<;>intro h5 hr
 refine bdE hr fun y3 hy3 hr=>J g<|J (CB' [] [] (z2s (m:=m) hy3))<|J (gn 3)<|ifE hr ?_ ?_<;>intro h6 hr
 exact e
 exact e
 exact e
 subst ek1
 exact e
end Go.Proofs.YtppbkkcekpbaiaaGreat
