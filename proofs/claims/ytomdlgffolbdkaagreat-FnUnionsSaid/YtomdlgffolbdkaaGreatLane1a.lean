/- What some functions of the program compute, as partial functions on plain data, and that they do; each lemma bears its conditions in its statement. -/
import Derived.Test.YtomdlgffolbdkaaGreatDef
set_option linter.unusedVariables false
set_option linter.unusedSimpArgs false
set_option linter.ambiguousOpen false
set_option linter.unusedSectionVars false
set_option linter.unnecessarySimpa false
set_option maxRecDepth 100000
set_option maxHeartbeats 40000000
noncomputable section
namespace Go.Proofs.YtomdlgffolbdkaaGreat
open Go Go.E Go.A
theorem q4y {a0:Int}{a1:Int}{a2:Int}{r:Bool}(hr:q4e a0 a1 a2=some r):Ok Tryz.prog 151 [dI a0,dI a1,dI a2] [] (dB r) []:=by
 refine OE Tryz.func151 fun S hS=>?_
 unfold q4e at hr
 refine J (gn 9)<|ifE hr ?_ ?_<;>intro h1 hr
 exact e
 exact e
theorem j0q {a0:UInt8}{r:Bool}(hr:z1T a0=some r):Ok Tryz.prog 290 [.d .fz (.i .u8 (a0.toNat:Int))] [] (dB r) []:=by
 refine OE Tryz.func290 fun S hS=>?_
 unfold z1T at hr
 refine J (gn 8)<|ifE hr ?_ ?_<;>intro h1 hr
 exact e
 exact e
theorem j5V {a0:UInt8}{r:Bool}(hr:z3t a0=some r):Ok Tryz.prog 291 [.d .fz (.i .u8 (a0.toNat:Int))] [] (dB r) []:=by
 refine OE Tryz.func291 fun S hS=>?_
 unfold z3t at hr
 refine J (gn 8)<|ifE hr ?_ ?_<;>intro h1 hr
 exact e
 exact e
theorem j1p {a0:ByteArray}{r:Bool}(hr:q9T a0=some r):Ok Tryz.prog 292 [dS a0] [] (dB r) []:=by
 refine OE Tryz.func292 fun S hS=>?_
 unfold q9T at hr
 refine J (gn 16)<|ifE hr ?_ ?_<;>intro h1 hr
 refine J (gn 2)<|ifE hr ?_ ?_<;>intro h2 hr
 exact e
 exact e
 refine J (gn 6)<|ifE hr ?_ ?_<;>intro h3 hr
 refine J (gn 2)<|ifE hr ?_ ?_<;>intro h4 hr
 exact e
 exact e
 refine J (gn 6)<|ifE hr ?_ ?_<;>intro h5 hr
 refine J (gn 2)<|ifE hr ?_ ?_<;>intro h6 hr
 exact e
 exact e
 refine J (gn 6)<|ifE hr ?_ ?_<;>intro h7 hr
 refine J (gn 2)<|ifE hr ?_ ?_<;>intro h8 hr
 exact e
 exact e
 refine J (gn 6)<|ifE hr ?_ ?_<;>intro h9 hr
 refine J (gn 2)<|ifE hr ?_ ?_<;>intro h10 hr
 exact e
 exact e
 refine J (gn 6)<|ifE hr ?_ ?_<;>intro h11 hr
 refine J (gn 2)<|ifE hr ?_ ?_<;>intro h12 hr
 exact e
 exact e
 refine J (gn 6)<|ifE hr ?_ ?_<;>intro h13 hr
 refine J (gn 2)<|ifE hr ?_ ?_<;>intro h14 hr
 exact e
 exact e
 refine J (gn 6)<|ifE hr ?_ ?_<;>intro h15 hr
 refine J (gn 2)<|ifE hr ?_ ?_<;>intro h16 hr
 exact e
 exact e
 refine J (gn 6)<|ifE hr ?_ ?_<;>intro h17 hr
 refine J (gn 2)<|ifE hr ?_ ?_<;>intro h18 hr
 exact e
 exact e
 refine J (gn 6)<|ifE hr ?_ ?_<;>intro h19 hr
 refine J (gn 2)<|ifE hr ?_ ?_<;>intro h20 hr
 exact e
 exact e
 refine J (gn 6)<|ifE hr ?_ ?_<;>intro h21 hr
 refine J (gn 2)<|ifE hr ?_ ?_<;>intro h22 hr
 exact e
 exact e
 refine J (gn 6)<|ifE hr ?_ ?_<;>intro h23 hr
 refine J (gn 2)<|ifE hr ?_ ?_<;>intro h24 hr
 exact e
 exact e
 refine J (gn 5)<|ifE hr ?_ ?_<;>intro h25 hr
 exact e
 exact e
theorem q5q {a0:ByteArray}{r:Bool}(hr:q4z a0=some r):Ok Tryz.prog 269 [dS a0] [] (dB r) []:=by
 refine OE Tryz.func269 fun S hS=>?_
 unfold q4z at hr
 refine J g<|J LS'<|J (gn 3)<|J (rngT 5)<|fun hl1=>bdE hr fun q1 hqq1 hr=>q0u hqq1 0 (fun k1 _=>[(0,dS a0),(5,dI (a0.size:Int)),(6,dI (k1:Int))]) (fun k1 _=>[]) I (fun k1 sk1 ok1 hr hltk1 hik1=>?_) fun sk1 ek1=>?_
 refine bdE hr fun x1 hx1 hr=>J g ?_
 refine J (SI' rfl rfl (Int.natCast_nonneg _) hx1)<|bdE hr fun y1 hy1 hr=>J (CB' [] [] (j0q hy1))<|J (gn 1)<|ifE hr ?_ ?_<;>intro h1 hr
 exact e
 refine J g ?_
 refine J (SI' rfl rfl (Int.natCast_nonneg _) hx1)<|bdE hr fun y2 hy2 hr=>J (CB' [] [] (j5V hy2))<|J (gn 3)<|ifE hr ?_ ?_<;>intro h2 hr
 exact e
 exact e
 subst ek1
 refine J g<|J LS'<|bdE hr fun y3 hy3 hr=>J (CB' [] [] (q4y hy3))<|bdE hr fun s1 hqq2 hr=>q0a 5 [(0,dS a0),(29,dB s1)] ?_ ?_
 replace hr:=hqq2
 refine ifE hr ?_ ?_<;>intro h3 hr
 refine bdE hr fun x2 hx2 hr=>J g ?_
 refine J (SI' rfl rfl (Int.natCast_nonneg _) hx2)<|bdE hr fun y4 hy4 hr=>J (CB' [] [] (j0q hy4))<|J g<|E
 exact e
 refine bdE hr fun s2 hqq3 hr=>q0a 5 [(34,dB s2)] ?_ ?_
 replace hr:=hqq3
 refine ifE hr ?_ ?_<;>intro h4 hr
 refine bdE hr fun y5 hy5 hr=>J g<|J (CB' [] [] (j1p hy5))<|e
 exact e
 exact e
theorem j1V {a0:Int}{r:Bool}(hr:z3u a0=some r):Ok Tryz.prog 289 [dI a0] [] (dB r) []:=by
 refine OE Tryz.func289 fun S hS=>?_
 unfold z3u at hr
 refine bdE hr fun y1 hy1 hr=>J g<|J (CB' [] [] (q4y hy1))<|e
theorem z6b {a0:At_}{r:Bool}(hr:q6T a0=some r):Ok Tryz.prog 267 [At_.x .fz a0] [] (dB r) []:=by
 refine OE Tryz.func267 fun S hS=>?_
 unfold q6T at hr
 refine J g<|J (BX' 0)<|bdE hr fun y1 hy1 hr=>J g<|J (CB' [] [] (q5q hy1))<|bdE hr fun s1 hqq1 hr=>J (gn 1)<|q0a 6 [(1,.pb 0 0),(13,dB s1)] ?_ ?_
 replace hr:=hqq1
 refine ifE hr ?_ ?_<;>intro h1 hr
 refine bdE hr fun y2 hy2 hr=>J g<|J (CB' [] [] (j1V hy2))<|e
 exact e
 refine bdE hr fun s2 hqq2 hr=>q0a 6 [(1,.pb 0 0),(19,dB s2)] ?_ ?_
 replace hr:=hqq2
 refine ifE hr ?_ ?_<;>intro h2 hr
 exact e
 refine bdE hr fun y3 hy3 hr=>J g<|J (CB' [] [] (q4y hy3))<|e
 refine J (gn 2)<|ifE hr ?_ ?_<;>intro h3 hr
 exact e
 refine J (gn 8)<|ifE hr ?_ ?_<;>intro h4 hr
 refine bdE hr fun s3 hqq3 hr=>J (gn 6)<|q0a 5 [(31,dB s3)] ?_ ?_
 replace hr:=hqq3
 refine ifE hr ?_ ?_<;>intro h5 hr
 exact e
 exact e
 exact e
 refine bdE hr fun s4 hqq4 hr=>J (gn 7)<|q0a 5 [(39,dB s4)] ?_ ?_
 replace hr:=hqq4
 refine ifE hr ?_ ?_<;>intro h6 hr
 exact e
 exact e
 exact e
theorem z6A {a0:At_}{a1:At_}{r:Bool}(hr:q8y a0 a1=some r):Ok Tryz.prog 268 [At_.x .fz a0,.pb 0 0] [.box [dS a1.Name,dI a1.Type_,dI a1.Mode,dB a1.Circular]] (dB r) [.box [dS a1.Name,dI a1.Type_,dI a1.Mode,dB a1.Circular]]:=by
 refine OE Tryz.func268 fun S hS=>?_
 unfold q8y at hr
 refine J g<|J (BX' 1)<|e
theorem q7z {m:Md}{a0:(List At_)}{a1_0:At_}{r:Int}(hr:q4i a0 a1_0=some r):Ok Tryz.prog 230 [.d m (.sl 4 (a0.map At_.D)),.fn 268 [.pb 0 0]] [.box [dS a1_0.Name,dI a1_0.Type_,dI a1_0.Mode,dB a1_0.Circular]] (dI r) [.box [dS a1_0.Name,dI a1_0.Type_,dI a1_0.Mode,dB a1_0.Circular]]:=by
 refine OE Tryz.func230 fun S hS=>?_
 unfold q4i at hr
 refine J (gn 12)<|J (lenT 0)<|fun hl1=>bdE hr fun q1 hqq1 hr=>q0b hqq1 hl1 1 (fun k1 _=>[(0,.d m (.sl 4 (a0.map At_.D))),(1,.fn 268 [.pb 0 0]),(7,dI (a0.length:Int)),(8,dI (k1:Int))]) (fun k1 _=>[]) I (fun k1 xk1 sk1 ok1 hxk1 hr hltk1 hik1=>?_) fun k1 sk1 ek1 hltk1=>?_
 refine bdE hr fun y1 hy1 hr=>J g<|J (CB' [(0,0)] [] (z6A hy1))<|J (gn 1)<|ifE hr ?_ ?_<;>intro h1 hr
 exact e
 exact e
 subst ek1
 exact e
theorem q7d {m:Md}{a0:(List At_)}{a1_0:At_}{r:Bool}(hr:q4a a0 a1_0=some r):Ok Tryz.prog 185 [.d m (.sl 4 (a0.map At_.D)),.fn 268 [.pb 0 0]] [.box [dS a1_0.Name,dI a1_0.Type_,dI a1_0.Mode,dB a1_0.Circular]] (dB r) [.box [dS a1_0.Name,dI a1_0.Type_,dI a1_0.Mode,dB a1_0.Circular]]:=by
 refine OE Tryz.func185 fun S hS=>?_
 unfold q4a at hr
 refine bdE hr fun y1 hy1 hr=>J g<|J (CB' [(0,0)] [] (q7z (m:=m) hy1))<|e
theorem z7X {m:Md}{a0:Symbol}{r:Bool}(hr:q8i a0=some r):Ok Tryz.prog 224 [Symbol.x m a0] [] (dB r) []:=by
 refine OE Tryz.func224 fun S hS=>?_
 unfold q8i at hr
 refine J g<|J (BX' 0)<|J (gn 11)<|J (lenA 1 0)<|fun hl1=>bdE hr fun q1 hqq1 hr=>q0b hqq1 hl1 1 (fun k1 _=>[(1,.pb 0 0),(6,.d m (.sl 4 (a0.Attributes.map At_.D))),(7,dI (a0.Attributes.length:Int)),(8,dI (k1:Int))]) (fun k1 _=>[]) I (fun k1 xk1 sk1 ok1 hxk1 hr hltk1 hik1=>?_) fun k1 sk1 ek1 hltk1=>?_
 refine J g<|J (NV' 1)<|bdE hr fun y1 hy1 hr=>J g<|J (CB' [] [] (z6b hy1))<|J (gn 1)<|ifE hr ?_ ?_<;>intro h1 hr
 refine ggE hr fun g1 hr=>J g<|J (SLH' (Int.natCast_nonneg _) g1)<|bdE hr fun y2 hy2 hr=>J g<|J (CB' [(0,1)] [] (q7d (m:=m) hy2))<|J (gn 2)<|ifE hr ?_ ?_<;>intro h2 hr
 exact e
 exact e
 exact e
 subst ek1
 refine bdE hr fun y3 hy3 hr=>J g<|J (CB' [] [] (q5q hy3))<|bdE hr fun s1 hqq2 hr=>q0a 6 [(33,dB s1)] ?_ ?_
 replace hr:=hqq2
 refine ifE hr ?_ ?_<;>intro h3 hr
 exact e
 exact e
 exact e
theorem z8V {m:Md}{m2:Md}{a0:Symbol}{a1:Symbol}{r:Bool}(hr:q9U a0 a1=some r):Ok Tryz.prog 226 [Symbol.x m a0,.pb 0 0] [.box [dS a1.Name,.d m2 (.sl 4 (a1.Attributes.map At_.D))]] (dB r) [.box [dS a1.Name,.d m2 (.sl 4 (a1.Attributes.map At_.D))]]:=by
 refine OE Tryz.func226 fun S hS=>?_
 unfold q9U at hr
 refine J g<|J (BX' 1)<|e
theorem q8B {m:Md}{m2:Md}{a0:(List Symbol)}{a1_0:Symbol}{r:Int}(hr:q4J a0 a1_0=some r):Ok Tryz.prog 92 [.d m (.sl 2 (a0.map Symbol.D)),.fn 226 [.pb 0 0]] [.box [dS a1_0.Name,.d m2 (.sl 4 (a1_0.Attributes.map At_.D))]] (dI r) [.box [dS a1_0.Name,.d m2 (.sl 4 (a1_0.Attributes.map At_.D))]]:=by
 refine OE Tryz.func92 fun S hS=>?_
 unfold q4J at hr
 refine J (gn 12)<|J (lenT 0)<|fun hl1=>bdE hr fun q1 hqq1 hr=>q0b hqq1 hl1 1 (fun k1 _=>[(0,.d m (.sl 2 (a0.map Symbol.D))),(1,.fn 226 [.pb 0 0]),(7,dI (a0.length:Int)),(8,dI (k1:Int))]) (fun k1 _=>[]) I (fun k1 xk1 sk1 ok1 hxk1 hr hltk1 hik1=>?_) fun k1 sk1 ek1 hltk1=>?_
 refine bdE hr fun y1 hy1 hr=>J g<|J (CB' [(0,0)] [] (z8V (m:=m) (m2:=m2) hy1))<|J (gn 1)<|ifE hr ?_ ?_<;>intro h1 hr
 exact e
 exact e
 subst ek1
 exact e
theorem q8a {m:Md}{m2:Md}{a0:(List Symbol)}{a1_0:Symbol}{r:Bool}(hr:q4s a0 a1_0=some r):Ok Tryz.prog 225 [.d m (.sl 2 (a0.map Symbol.D)),.fn 226 [.pb 0 0]] [.box [dS a1_0.Name,.d m2 (.sl 4 (a1_0.Attributes.map At_.D))]] (dB r) [.box [dS a1_0.Name,.d m2 (.sl 4 (a1_0.Attributes.map At_.D))]]:=by
 refine OE Tryz.func225 fun S hS=>?_
 unfold q4s at hr
 refine bdE hr fun y1 hy1 hr=>J g<|J (CB' [(0,0)] [] (q8B (m:=m) (m2:=m2) hy1))<|e
theorem j1q {Rc6:Expr→Option Int}(Ic6:∀ {m:Md} {a0:Expr} {r:Int},Rc6 a0=some r→Ok Tryz.prog 310 [Expr.x m a0] [] (dI r) []){m:Md}{a0:Expr}{r:Int}(hr:z1t Rc6 a0=some r):Ok Tryz.prog 310 [Expr.x m a0] [] (dI r) []:=by
 refine OE Tryz.func310 fun S hS=>?_
 unfold z1t at hr
 refine J g<|J (BX' 0)<|J (gn 15)<|J (lenA 6 0)<|fun hl1=>bdE hr fun s1 hqq1 hr=>q0d hqq1 hl1 1 (fun k1 s1=>[(3,dI s1),(7,.d m (.sl 7 (a0.Args.map Expr.D))),(8,dI (a0.Args.length:Int)),(9,dI (k1:Int))]) (fun k1 s1=>[]) I (fun k1 xk1 sk1 ok1 hxk1 hr hltk1=>?_) fun k1 hltk1=>?_
 obtain⟨s1,rfl⟩:∃ y,y=sk1:=⟨_,rfl⟩
 refine J g<|J (NV' 1)<|bdE hr fun y1 hy1 hr=>J g<|J (CB' [] [] (Ic6 (m:=m) hy1))<|ggE hr fun g1 hr=>e
 exact e
theorem j1r (n:Nat):∀ {m:Md} {a0:Expr} {r:Int},q9E n a0=some r→Ok Tryz.prog 310 [Expr.x m a0] [] (dI r) []:=by
  induction n with
  | zero=>intro _ _ r hr;exact nomatch (show (none:Option Int)=some r from hr)
  | succ n ih=>intro _ _ r hr;exact j1q ih hr
theorem j2V {m:Md}{a0:Expr}{r:Int}(hr:z5b a0=some r):Ok Tryz.prog 310 [Expr.x m a0] [] (dI r) []:=by
 obtain⟨n,hn⟩:=q6x hr
 exact j1r n hn
theorem z8W {Rc7:Expr→Option Int}(Ic7:∀ {m:Md} {a0:Expr} {r:Int},Rc7 a0=some r→Ok Tryz.prog 311 [Expr.x m a0] [] (dI r) []){m:Md}{a0:Expr}{r:Int}(hr:q9k Rc7 a0=some r):Ok Tryz.prog 311 [Expr.x m a0] [] (dI r) []:=by
 refine OE Tryz.func311 fun S hS=>?_
 unfold q9k at hr
 refine J g<|J (BX' 0)<|J (gn 15)<|J (lenA 6 0)<|fun hl1=>bdE hr fun s1 hqq1 hr=>q0d hqq1 hl1 1 (fun k1 s1=>[(3,dI s1),(7,.d m (.sl 7 (a0.Args.map Expr.D))),(8,dI (a0.Args.length:Int)),(9,dI (k1:Int))]) (fun k1 s1=>[]) I (fun k1 xk1 sk1 ok1 hxk1 hr hltk1=>?_) fun k1 hltk1=>?_
 obtain⟨s1,rfl⟩:∃ y,y=sk1:=⟨_,rfl⟩
 refine J g<|J (NV' 1)<|bdE hr fun y1 hy1 hr=>J g<|J (CB' [] [] (Ic7 (m:=m) hy1)) ?_
 refine J (MXI' rfl rfl)<|J g<|E
 refine ggE hr fun g1 hr=>e
theorem z8X (n:Nat):∀ {m:Md} {a0:Expr} {r:Int},q6I n a0=some r→Ok Tryz.prog 311 [Expr.x m a0] [] (dI r) []:=by
  induction n with
  | zero=>intro _ _ r hr;exact nomatch (show (none:Option Int)=some r from hr)
  | succ n ih=>intro _ _ r hr;exact z8W ih hr
theorem j0r {m:Md}{a0:Expr}{r:Int}(hr:z2Z a0=some r):Ok Tryz.prog 311 [Expr.x m a0] [] (dI r) []:=by
 obtain⟨n,hn⟩:=q6x hr
 exact z8X n hn
theorem j4B {a0:Int}{r:Int}(hr:z4d a0=some r):Ok Tryz.prog 323 [dI a0] [] (dI r) []:=by
 refine OE Tryz.func323 fun S hS=>?_
 unfold z4d at hr
 refine J g ?_
 refine J (MNI' rfl rfl) ?_
 refine J (MXI' rfl rfl)<|J g<|E
theorem k1Q {a0:Bool}{r:Int}(hr:z9Y a0=some r):Ok Tryz.prog 324 [dB a0] [] (dI r) []:=by
 refine OE Tryz.func324 fun S hS=>?_
 unfold z9Y at hr
 refine J (gn 9)<|ifE hr ?_ ?_<;>intro h1 hr
 exact e
 exact e
theorem j8w {a0:Int}{a1:Int}{r:Int}(hr:z5d a0 a1=some r):Ok Tryz.prog 322 [dI a0,dI a1] [] (dI r) []:=by
 refine OE Tryz.func322 fun S hS=>?_
 unfold z5d at hr
 refine J (gn 12)<|ifE hr ?_ ?_<;>intro h1 hr
 refine bdE hr fun y1 hy1 hr=>J g<|J (CB' [] [] (j4B hy1))<|e
 refine J (gn 7)<|ifE hr ?_ ?_<;>intro h2 hr
 refine J g<|J (OB' _ j9t)<|e
 refine J (gn 7)<|ifE hr ?_ ?_<;>intro h3 hr
 refine bdE hr fun y2 hy2 hr=>J g<|J (CB' [] [] (k1Q hy2))<|e
 refine J (gn 5)<|ifE hr ?_ ?_<;>intro h4 hr
 refine bdE hr fun y3 hy3 hr=>J g<|J (CB' [] [] (q4y hy3))<|J (gn 3)<|ifE hr ?_ ?_<;>intro h5 hr
 exact e
 exact e
 exact e
theorem j4C {a0:Int}{a1:Int}{r:Bool}(hr:z2k a0 a1=some r):Ok Tryz.prog 319 [dI a0,dI a1] [] (dB r) []:=by
 refine OE Tryz.func319 fun S hS=>?_
 unfold z2k at hr
 refine bdE hr fun y1 hy1 hr=>J g<|J (CB' [] [] (j1V hy1))<|ifE hr ?_ ?_<;>intro h1 hr
 refine bdE hr fun y2 hy2 hr=>J g<|J (CB' [] [] (j8w hy2))<|e
 exact e
theorem q7S {m:Md}{a0:Expr}{a1:Expr}{r:Bool}(hr:q6q a0 a1=some r):Ok Tryz.prog 320 [Expr.x m a0,Expr.x m a1] [] (dB r) []:=by
 refine OE Tryz.func320 fun S hS=>?_
 unfold q6q at hr
 refine J g<|J (BX' 0)<|J (BX' 1)<|bdE hr fun s1 hqq1 hr=>J (gn 9)<|q0a 7 [(2,.pb 0 0),(3,.pb 1 0),(4,dB false),(16,dB s1)] ?_ ?_
 replace hr:=hqq1
 refine ifE hr ?_ ?_<;>intro h1 hr
 exact e
 exact e
 refine bdE hr fun s2 hqq2 hr=>q0a 7 [(2,.pb 0 0),(3,.pb 1 0),(4,dB false),(23,dB s2)] ?_ ?_
 replace hr:=hqq2
 refine ifE hr ?_ ?_<;>intro h2 hr
 exact e
 exact e
 refine bdE hr fun s3 hqq3 hr=>q0a 7 [(2,.pb 0 0),(3,.pb 1 0),(4,dB false),(30,dB s3)] ?_ ?_
 replace hr:=hqq3
 refine ifE hr ?_ ?_<;>intro h3 hr
 exact e
 exact e
 refine bdE hr fun s4 hqq4 hr=>q0a 7 [(2,.pb 0 0),(3,.pb 1 0),(4,dB false),(37,dB s4)] ?_ ?_
 replace hr:=hqq4
 refine ifE hr ?_ ?_<;>intro h4 hr
 exact e
 exact e
 refine bdE hr fun s5 hqq5 hr=>q0a 7 [(4,dB false),(44,dB s5)] ?_ ?_
 replace hr:=hqq5
 refine ifE hr ?_ ?_<;>intro h5 hr
 exact e
 exact e
 exact e
theorem j1s {m:Md}{a0:Expr}{r:Bool}(hr:q9V a0=some r):Ok Tryz.prog 312 [Expr.x m a0] [] (dB r) []:=by
 refine OE Tryz.func312 fun S hS=>?_
 unfold q9V at hr
 refine J g<|J (BX' 0)<|J g<|J (NV' 1)<|J (gn 18)<|ifE hr ?_ ?_<;>intro h1 hr
 refine bdE hr fun s1 hqq1 hr=>J (gn 17)<|q0a 8 [(1,.pb 0 0),(3,.pb 1 0),(4,dI 0),(30,dB s1)] ?_ ?_
 replace hr:=hqq1
 refine ifE hr ?_ ?_<;>intro h2 hr
 exact e
 refine bdE hr fun y1 hy1 hr=>J g<|J (CB' [] [] (j4C hy1))<|e
 refine bdE hr fun s2 hqq2 hr=>q0a 5 [(1,.pb 0 0),(3,.pb 1 0),(4,dI 0),(35,dB s2)] ?_ ?_
 replace hr:=hqq2
 refine ifE hr ?_ ?_<;>intro h3 hr
 exact e
 exact e
 refine J (gn 1)<|ifE hr ?_ ?_<;>intro h4 hr
 exact e
 refine bdE hr fun s3 hqq3 hr=>J (gn 9)<|q0a 5 [(1,.pb 0 0),(3,.pb 1 0),(94,dB s3)] ?_ ?_
 replace hr:=hqq3
 refine ifE hr ?_ ?_<;>intro h5 hr
 refine bdE hr fun y2 hy2 hr=>J g<|J (CB' [] [] (q4y hy2))<|e
 exact e
 refine bdE hr fun s4 hqq4 hr=>q0a 5 [(99,dB s4)] ?_ ?_
 replace hr:=hqq4
 refine ifE hr ?_ ?_<;>intro h6 hr
 refine bdE hr fun y3 hy3 hr=>J g<|J (CB' [] [] (q7S (m:=m) hy3))<|e
 exact e
 exact e
 refine J (gn 6)<|ifE hr ?_ ?_<;>intro h7 hr
 refine bdE hr fun y4 hy4 hr=>J g<|J (CB' [] [] (q5q hy4))<|J (gn 2)<|ifE hr ?_ ?_<;>intro h8 hr
 refine bdE hr fun s5 hqq5 hr=>J (gn 9)<|q0a 5 [(1,.pb 0 0),(2,dB false),(3,.pb 1 0),(94,dB s5)] ?_ ?_
 replace hr:=hqq5
 refine ifE hr ?_ ?_<;>intro h9 hr
 refine bdE hr fun y5 hy5 hr=>J g<|J (CB' [] [] (q4y hy5))<|e
 exact e
 refine bdE hr fun s6 hqq6 hr=>q0a 5 [(2,dB false),(99,dB s6)] ?_ ?_
 replace hr:=hqq6
 refine ifE hr ?_ ?_<;>intro h10 hr
 refine bdE hr fun y6 hy6 hr=>J g<|J (CB' [] [] (q7S (m:=m) hy6))<|e
 exact e
 exact e
 exact e
 refine J (gn 6)<|ifE hr ?_ ?_<;>intro h11 hr
 refine bdE hr fun y7 hy7 hr=>J g<|J (CB' [] [] (q4y hy7))<|J (gn 2)<|ifE hr ?_ ?_<;>intro h12 hr
 refine bdE hr fun s7 hqq7 hr=>J (gn 9)<|q0a 5 [(1,.pb 0 0),(2,dB false),(3,.pb 1 0),(94,dB s7)] ?_ ?_
 replace hr:=hqq7
 refine ifE hr ?_ ?_<;>intro h13 hr
 refine bdE hr fun y8 hy8 hr=>J g<|J (CB' [] [] (q4y hy8))<|e
 exact e
 refine bdE hr fun s8 hqq8 hr=>q0a 5 [(2,dB false),(99,dB s8)] ?_ ?_
 replace hr:=hqq8
 refine ifE hr ?_ ?_<;>intro h14 hr
 refine bdE hr fun y9 hy9 hr=>J g<|J (CB' [] [] (q7S (m:=m) hy9))<|e
 exact e
 exact e
 exact e
 refine J (gn 6)<|ifE hr ?_ ?_<;>intro h15 hr
 refine bdE hr fun s9 hqq9 hr=>J (gn 11)<|q0a 5 [(1,.pb 0 0),(2,dB false),(3,.pb 1 0),(94,dB s9)] ?_ ?_
 replace hr:=hqq9
 refine ifE hr ?_ ?_<;>intro h16 hr
 refine bdE hr fun y10 hy10 hr=>J g<|J (CB' [] [] (q4y hy10))<|e
 exact e
 refine bdE hr fun s10 hqq10 hr=>q0a 5 [(2,dB false),(99,dB s10)] ?_ ?_
 replace hr:=hqq10
 refine ifE hr ?_ ?_<;>intro h17 hr
 refine bdE hr fun y11 hy11 hr=>J g<|J (CB' [] [] (q7S (m:=m) hy11))<|e
 exact e
 exact e
 refine J (gn 6)<|ifE hr ?_ ?_<;>intro h18 hr
 refine bdE hr fun s11 hqq11 hr=>J (gn 14)<|q0a 5 [(1,.pb 0 0),(2,dB false),(3,.pb 1 0),(94,dB s11)] ?_ ?_
 replace hr:=hqq11
 refine ifE hr ?_ ?_<;>intro h19 hr
 refine bdE hr fun y12 hy12 hr=>J g<|J (CB' [] [] (q4y hy12))<|e
 exact e
 refine bdE hr fun s12 hqq12 hr=>q0a 5 [(2,dB false),(99,dB s12)] ?_ ?_
 replace hr:=hqq12
 refine ifE hr ?_ ?_<;>intro h20 hr
 refine bdE hr fun y13 hy13 hr=>J g<|J (CB' [] [] (q7S (m:=m) hy13))<|e
 exact e
 exact e
 refine J (gn 6)<|ifE hr ?_ ?_<;>intro h21 hr
 refine bdE hr fun y14 hy14 hr=>J g<|J (CB' [] [] (q5q hy14))<|bdE hr fun s13 hqq13 hr=>J (gn 1)<|q0a 6 [(1,.pb 0 0),(3,.pb 1 0),(4,dI 1),(81,dB s13)] ?_ ?_
 replace hr:=hqq13
 refine ifE hr ?_ ?_<;>intro h22 hr
 refine bdE hr fun y15 hy15 hr=>J g<|J (CB' [] [] (q5q hy15))<|e
 exact e
 refine J (gn 1)<|ifE hr ?_ ?_<;>intro h23 hr
 exact e
 refine bdE hr fun s14 hqq14 hr=>J (gn 9)<|q0a 5 [(1,.pb 0 0),(3,.pb 1 0),(94,dB s14)] ?_ ?_
 replace hr:=hqq14
 refine ifE hr ?_ ?_<;>intro h24 hr
 refine bdE hr fun y16 hy16 hr=>J g<|J (CB' [] [] (q4y hy16))<|e
 exact e
 refine bdE hr fun s15 hqq15 hr=>q0a 5 [(99,dB s15)] ?_ ?_
 replace hr:=hqq15
 refine ifE hr ?_ ?_<;>intro h25 hr
 refine bdE hr fun y17 hy17 hr=>J g<|J (CB' [] [] (q7S (m:=m) hy17))<|e
 exact e
 exact e
 refine J (gn 7)<|ifE hr ?_ ?_<;>intro h26 hr
 refine J (gn 2)<|ifE hr ?_ ?_<;>intro h27 hr
 refine bdE hr fun s16 hqq16 hr=>J (gn 9)<|q0a 5 [(1,.pb 0 0),(2,dB false),(3,.pb 1 0),(94,dB s16)] ?_ ?_
 replace hr:=hqq16
 refine ifE hr ?_ ?_<;>intro h28 hr
 refine bdE hr fun y18 hy18 hr=>J g<|J (CB' [] [] (q4y hy18))<|e
 exact e
 refine bdE hr fun s17 hqq17 hr=>q0a 5 [(2,dB false),(99,dB s17)] ?_ ?_
 replace hr:=hqq17
 refine ifE hr ?_ ?_<;>intro h29 hr
 refine bdE hr fun y19 hy19 hr=>J g<|J (CB' [] [] (q7S (m:=m) hy19))<|e
 exact e
 exact e
 exact e
 refine J (gn 5)<|ifE hr ?_ ?_<;>intro h30 hr
 refine bdE hr fun s18 hqq18 hr=>J (gn 9)<|q0a 5 [(1,.pb 0 0),(2,dB false),(3,.pb 1 0),(94,dB s18)] ?_ ?_
 replace hr:=hqq18
 refine ifE hr ?_ ?_<;>intro h31 hr
 refine bdE hr fun y20 hy20 hr=>J g<|J (CB' [] [] (q4y hy20))<|e
 exact e
 refine bdE hr fun s19 hqq19 hr=>q0a 5 [(2,dB false),(99,dB s19)] ?_ ?_
 replace hr:=hqq19
 refine ifE hr ?_ ?_<;>intro h32 hr
 refine bdE hr fun y21 hy21 hr=>J g<|J (CB' [] [] (q7S (m:=m) hy21))<|e
 exact e
 exact e
 exact e
theorem z2u {Rc8:Expr→Option Bool}(Ic8:∀ {m:Md} {a0:Expr} {r:Bool},Rc8 a0=some r→Ok Tryz.prog 252 [Expr.x m a0,.fn 312 []] [] (dB r) []){m:Md}{a0:Expr}{r:Bool}(hr:q5W Rc8 a0=some r):Ok Tryz.prog 278 [Expr.x m a0,.pb 0 0] [.box [.fn 312 []]] (dB r) [.box [.fn 312 []]]:=by
 refine OE Tryz.func278 fun S hS=>?_
 unfold q5W at hr
 refine J g<|J (BX' 1)<|bdE hr fun y1 hy1 hr=>J g<|J (CB' [] [] (Ic8 (m:=m) hy1))<|e
theorem q7e {Rc8:Expr→Option Bool}(Ic8:∀ {m:Md} {a0:Expr} {r:Bool},Rc8 a0=some r→Ok Tryz.prog 252 [Expr.x m a0,.fn 312 []] [] (dB r) []){m:Md}{a0:(List Expr)}{r:Int}(hr:q4b Rc8 a0=some r):Ok Tryz.prog 274 [.d m (.sl 7 (a0.map Expr.D)),.fn 278 [.pb 0 0]] [.box [.fn 312 []]] (dI r) [.box [.fn 312 []]]:=by
 refine OE Tryz.func274 fun S hS=>?_
 unfold q4b at hr
 refine J (gn 12)<|J (lenT 0)<|fun hl1=>bdE hr fun q1 hqq1 hr=>q0b hqq1 hl1 1 (fun k1 _=>[(0,.d m (.sl 7 (a0.map Expr.D))),(1,.fn 278 [.pb 0 0]),(7,dI (a0.length:Int)),(8,dI (k1:Int))]) (fun k1 _=>[]) I (fun k1 xk1 sk1 ok1 hxk1 hr hltk1 hik1=>?_) fun k1 sk1 ek1 hltk1=>?_
 refine bdE hr fun y1 hy1 hr=>J g<|J (CB' [(0,0)] [] (z2u Ic8 (m:=m) hy1))<|J (gn 1)<|ifE hr ?_ ?_<;>intro h1 hr
 exact e
 exact e
 subst ek1
 exact e
theorem q6O {Rc8:Expr→Option Bool}(Ic8:∀ {m:Md} {a0:Expr} {r:Bool},Rc8 a0=some r→Ok Tryz.prog 252 [Expr.x m a0,.fn 312 []] [] (dB r) []){m:Md}{a0:(List Expr)}{r:Bool}(hr:q3W Rc8 a0=some r):Ok Tryz.prog 238 [.d m (.sl 7 (a0.map Expr.D)),.fn 278 [.pb 0 0]] [.box [.fn 312 []]] (dB r) [.box [.fn 312 []]]:=by
 refine OE Tryz.func238 fun S hS=>?_
 unfold q3W at hr
 refine bdE hr fun y1 hy1 hr=>J g<|J (CB' [(0,0)] [] (q7e Ic8 (m:=m) hy1))<|e
theorem z2D {Rc8:Expr→Option Bool}(Ic8:∀ {m:Md} {a0:Expr} {r:Bool},Rc8 a0=some r→Ok Tryz.prog 252 [Expr.x m a0,.fn 312 []] [] (dB r) []){m:Md}{a0:Expr}{r:Bool}(hr:q5K Rc8 a0=some r):Ok Tryz.prog 252 [Expr.x m a0,.fn 312 []] [] (dB r) []:=by
 refine OE Tryz.func252 fun S hS=>?_
 unfold q5K at hr
 refine J g<|J (BX' 0)<|J (BX' 1)<|bdE hr fun y1 hy1 hr=>J g<|J (CB' [] [] (j1s (m:=m) hy1))<|ifE hr ?_ ?_<;>intro h1 hr
 refine bdE hr fun y2 hy2 hr=>J g<|J (CB' [(0,1)] [] (q6O Ic8 (m:=m) hy2))<|e
 exact e
theorem z2E (n:Nat):∀ {m:Md} {a0:Expr} {r:Bool},q5L n a0=some r→Ok Tryz.prog 252 [Expr.x m a0,.fn 312 []] [] (dB r) []:=by
  induction n with
  | zero=>intro _ _ r hr;exact nomatch (show (none:Option Bool)=some r from hr)
  | succ n ih=>intro _ _ r hr;exact z2D ih hr
theorem z3f {m:Md}{a0:Expr}{r:Bool}(hr:q7F a0=some r):Ok Tryz.prog 252 [Expr.x m a0,.fn 312 []] [] (dB r) []:=by
 obtain⟨n,hn⟩:=q6x hr
 exact z2E n hn
theorem j0s {m:Md}{a0:Expr}{r:Bool}(hr:q9l a0=some r):Ok Tryz.prog 293 [Expr.x m a0] [] (dB r) []:=by
 refine OE Tryz.func293 fun S hS=>?_
 unfold q9l at hr
 refine J g<|J (BX' 0)<|bdE hr fun y1 hy1 hr=>J g<|J (CB' [] [] (j2V (m:=m) hy1))<|bdE hr fun s1 hqq1 hr=>J (gn 1)<|q0a 5 [(1,.pb 0 0),(2,dB false),(10,dB s1)] ?_ ?_
 replace hr:=hqq1
 refine ifE hr ?_ ?_<;>intro h1 hr
 refine bdE hr fun y2 hy2 hr=>J g<|J (CB' [] [] (j0r (m:=m) hy2))<|e
 exact e
 refine bdE hr fun s2 hqq2 hr=>q0a 4 [(2,dB false),(14,dB s2)] ?_ ?_
 replace hr:=hqq2
 refine ifE hr ?_ ?_<;>intro h2 hr
 refine bdE hr fun y3 hy3 hr=>J g<|J (CB' [] [] (z3f (m:=m) hy3))<|e
 exact e
 exact e
theorem j8x {m:Md}{a0:Expr}{a1:Int}{r:Bool}(hr:z7c a0 a1=some r):Ok Tryz.prog 294 [Expr.x m a0,.pb 0 0] [.box [dI a1]] (dB r) [.box [dI a1]]:=by
 refine OE Tryz.func294 fun S hS=>?_
 unfold z7c at hr
 refine J g<|J (BX' 1)<|e
theorem z4l {Rc9:Expr→Int→Option Bool}(Ic9:∀ {m:Md} {a0:Expr} {a1_0:Int} {r:Bool},Rc9 a0 a1_0=some r→Ok Tryz.prog 252 [Expr.x m a0,.fn 294 [.pb 0 0]] [.box [dI a1_0]] (dB r) [.box [dI a1_0]]){m:Md}{a0:Expr}{a1_0:Int}{r:Bool}(hr:q7b Rc9 a0 a1_0=some r):Ok Tryz.prog 278 [Expr.x m a0,.pb 1 0] [.box [dI a1_0],.box [.fn 294 [.pb 0 0]]] (dB r) [.box [dI a1_0],.box [.fn 294 [.pb 0 0]]]:=by
 refine OE Tryz.func278 fun S hS=>?_
 unfold q7b at hr
 refine J g<|J (BX' 2)<|bdE hr fun y1 hy1 hr=>J g<|J (CB' [(0,0)] [] (Ic9 (m:=m) hy1))<|e
theorem q7N {Rc9:Expr→Int→Option Bool}(Ic9:∀ {m:Md} {a0:Expr} {a1_0:Int} {r:Bool},Rc9 a0 a1_0=some r→Ok Tryz.prog 252 [Expr.x m a0,.fn 294 [.pb 0 0]] [.box [dI a1_0]] (dB r) [.box [dI a1_0]]){m:Md}{a0:(List Expr)}{a1_0_0:Int}{r:Int}(hr:q4l Rc9 a0 a1_0_0=some r):Ok Tryz.prog 274 [.d m (.sl 7 (a0.map Expr.D)),.fn 278 [.pb 1 0]] [.box [dI a1_0_0],.box [.fn 294 [.pb 0 0]]] (dI r) [.box [dI a1_0_0],.box [.fn 294 [.pb 0 0]]]:=by
 refine OE Tryz.func274 fun S hS=>?_
 unfold q4l at hr
 refine J (gn 12)<|J (lenT 0)<|fun hl1=>bdE hr fun q1 hqq1 hr=>q0b hqq1 hl1 2 (fun k1 _=>[(0,.d m (.sl 7 (a0.map Expr.D))),(1,.fn 278 [.pb 1 0]),(7,dI (a0.length:Int)),(8,dI (k1:Int))]) (fun k1 _=>[]) I (fun k1 xk1 sk1 ok1 hxk1 hr hltk1 hik1=>?_) fun k1 sk1 ek1 hltk1=>?_
 refine bdE hr fun y1 hy1 hr=>J g<|J (CB' [(0,0),(1,1)] [] (z4l Ic9 (m:=m) hy1))<|J (gn 1)<|ifE hr ?_ ?_<;>intro h1 hr
 exact e
 exact e
 subst ek1
 exact e
theorem q7v {Rc9:Expr→Int→Option Bool}(Ic9:∀ {m:Md} {a0:Expr} {a1_0:Int} {r:Bool},Rc9 a0 a1_0=some r→Ok Tryz.prog 252 [Expr.x m a0,.fn 294 [.pb 0 0]] [.box [dI a1_0]] (dB r) [.box [dI a1_0]]){m:Md}{a0:(List Expr)}{a1_0_0:Int}{r:Bool}(hr:q4g Rc9 a0 a1_0_0=some r):Ok Tryz.prog 238 [.d m (.sl 7 (a0.map Expr.D)),.fn 278 [.pb 1 0]] [.box [dI a1_0_0],.box [.fn 294 [.pb 0 0]]] (dB r) [.box [dI a1_0_0],.box [.fn 294 [.pb 0 0]]]:=by
 refine OE Tryz.func238 fun S hS=>?_
 unfold q4g at hr
 refine bdE hr fun y1 hy1 hr=>J g<|J (CB' [(0,0),(1,1)] [] (q7N Ic9 (m:=m) hy1))<|e
theorem z4I {Rc9:Expr→Int→Option Bool}(Ic9:∀ {m:Md} {a0:Expr} {a1_0:Int} {r:Bool},Rc9 a0 a1_0=some r→Ok Tryz.prog 252 [Expr.x m a0,.fn 294 [.pb 0 0]] [.box [dI a1_0]] (dB r) [.box [dI a1_0]]){m:Md}{a0:Expr}{a1_0:Int}{r:Bool}(hr:q6z Rc9 a0 a1_0=some r):Ok Tryz.prog 252 [Expr.x m a0,.fn 294 [.pb 0 0]] [.box [dI a1_0]] (dB r) [.box [dI a1_0]]:=by
 refine OE Tryz.func252 fun S hS=>?_
 unfold q6z at hr
 refine J g<|J (BX' 1)<|J (BX' 2)<|bdE hr fun y1 hy1 hr=>J g<|J (CB' [(0,0)] [] (j8x (m:=m) hy1))<|ifE hr ?_ ?_<;>intro h1 hr
 refine bdE hr fun y2 hy2 hr=>J g<|J (CB' [(0,0),(1,2)] [] (q7v Ic9 (m:=m) hy2))<|e
 exact e
theorem z4J (n:Nat):∀ {m:Md} {a0:Expr} {a1_0:Int} {r:Bool},q6A n a0 a1_0=some r→Ok Tryz.prog 252 [Expr.x m a0,.fn 294 [.pb 0 0]] [.box [dI a1_0]] (dB r) [.box [dI a1_0]]:=by
  induction n with
  | zero=>intro _ _ _ r hr;exact nomatch (show (none:Option Bool)=some r from hr)
  | succ n ih=>intro _ _ _ r hr;exact z4I ih hr
theorem z5s {m:Md}{a0:Expr}{a1_0:Int}{r:Bool}(hr:q9c a0 a1_0=some r):Ok Tryz.prog 252 [Expr.x m a0,.fn 294 [.pb 0 0]] [.box [dI a1_0]] (dB r) [.box [dI a1_0]]:=by
 obtain⟨n,hn⟩:=q6x hr
 exact z4J n hn
theorem j2W {m:Md}{a0:Expr}{a1:Int}{r:Bool}(hr:z6p a0 a1=some r):Ok Tryz.prog 270 [Expr.x m a0,dI a1] [] (dB r) []:=by
 refine OE Tryz.func270 fun S hS=>?_
 unfold z6p at hr
 refine J g<|J (BX' 0)<|J (BX' 1)<|bdE hr fun y1 hy1 hr=>J g<|J (CB' [] [] (j0s (m:=m) hy1))<|ifE hr ?_ ?_<;>intro h1 hr
 refine bdE hr fun y2 hy2 hr=>J g<|J (CB' [(0,1)] [] (z5s (m:=m) hy2))<|e
 exact e
theorem j0t {m:Md}{a0:Rule}{r:Bool}(hr:q9m a0=some r):Ok Tryz.prog 227 [Rule.x m a0] [] (dB r) []:=by
 refine OE Tryz.func227 fun S hS=>?_
 unfold q9m at hr
 refine J g<|J (BX' 0)<|bdE hr fun y1 hy1 hr=>J g<|J (CB' [] [] (q5q hy1))<|bdE hr fun s1 hqq1 hr=>J (gn 1)<|q0a 6 [(1,.pb 0 0),(3,dI (a0.Right.length:Int)),(22,dB s1)] ?_ ?_
 replace hr:=hqq1
 refine ifE hr ?_ ?_<;>intro h1 hr
 refine bdE hr fun y2 hy2 hr=>J g<|J (CB' [] [] (q5q hy2))<|e
 exact e
 refine bdE hr fun s2 hqq2 hr=>q0a 4 [(1,.pb 0 0),(3,dI (a0.Right.length:Int)),(26,dB s2)] ?_ ?_
 replace hr:=hqq2
 refine ifE hr ?_ ?_<;>intro h2 hr
 exact e
 exact e
 refine bdE hr fun s3 hqq3 hr=>q0a 6 [(1,.pb 0 0),(3,dI (a0.Right.length:Int)),(32,dB s3)] ?_ ?_
 replace hr:=hqq3
 refine ifE hr ?_ ?_<;>intro h3 hr
 exact e
 exact e
 refine J (gn 1)<|ifE hr ?_ ?_<;>intro h4 hr
 exact e
 refine J (gn 11)<|J (lenT 34)<|fun hl1=>bdE hr fun q4 hqq4 hr=>q0b hqq4 hl1 1 (fun k1 _=>[(1,.pb 0 0),(3,dI (a0.Right.length:Int)),(34,.d m (.sl 1 (a0.Right.map A.D.s))),(35,dI (a0.Right.length:Int)),(36,dI (k1:Int))]) (fun k1 _=>[]) I (fun k1 xk1 sk1 ok1 hxk1 hr hltk1 hik1=>?_) fun k1 sk1 ek1 hltk1=>?_
 refine bdE hr fun y3 hy3 hr=>J g<|J (CB' [] [] (q5q hy3))<|J (gn 2)<|ifE hr ?_ ?_<;>intro h5 hr
 exact e
 exact e
 subst ek1
 refine J (gn 16)<|J (lenT 45)<|fun hl2=>bdE hr fun q5 hqq5 hr=>q0b hqq5 hl2 1 (fun k2 _=>[(1,.pb 0 0),(3,dI (a0.Right.length:Int)),(45,.d m (.sl 9 (a0.Equations.map Eqn.D))),(46,dI (a0.Equations.length:Int)),(47,dI (k2:Int))]) (fun k2 _=>[]) I (fun k2 xk2 sk2 ok2 hxk2 hr hltk2 hik2=>?_) fun k2 sk2 ek2 hltk2=>?_
 refine J g<|J (NV' 1)<|bdE hr fun y4 hy4 hr=>J g<|J (CB' [] [] (j2W (m:=m) hy4))<|bdE hr fun s4 hqq6 hr=>J (gn 1)<|q0a 7 [(1,.pb 0 0),(3,dI (a0.Right.length:Int)),(7,.pb 1 0),(45,.d m (.sl 9 (a0.Equations.map Eqn.D))),(46,dI (a0.Equations.length:Int)),(47,dI (k2:Int)),(62,dB s4)] ?_ ?_
 replace hr:=hqq6
 refine ifE hr ?_ ?_<;>intro h6 hr
 refine bdE hr fun y5 hy5 hr=>J g<|J (CB' [] [] (q5q hy5))<|e
 exact e
 refine bdE hr fun s5 hqq7 hr=>q0a 8 [(1,.pb 0 0),(3,dI (a0.Right.length:Int)),(45,.d m (.sl 9 (a0.Equations.map Eqn.D))),(46,dI (a0.Equations.length:Int)),(47,dI (k2:Int)),(70,dB s5)] ?_ ?_
 replace hr:=hqq7
 refine ifE hr ?_ ?_<;>intro h7 hr
 exact e
 refine bdE hr fun y6 hy6 hr=>J g<|J (CB' [] [] (q4y hy6))<|e
 refine J (gn 1)<|ifE hr ?_ ?_<;>intro h8 hr
 exact e
 exact e
 subst ek2
 refine J (gn 16)<|J (lenT 73)<|fun hl3=>bdE hr fun q8 hqq8 hr=>q0b hqq8 hl3 1 (fun k3 _=>[(3,dI (a0.Right.length:Int)),(73,.d m (.sl 16 (a0.Contributions.map Cn.D))),(74,dI (a0.Contributions.length:Int)),(75,dI (k3:Int))]) (fun k3 _=>[]) I (fun k3 xk3 sk3 ok3 hxk3 hr hltk3 hik3=>?_) fun k3 sk3 ek3 hltk3=>?_
 refine J g<|J (NV' 1)<|bdE hr fun y7 hy7 hr=>J g<|J (CB' [] [] (j2W (m:=m) hy7))<|bdE hr fun s6 hqq9 hr=>J (gn 1)<|q0a 7 [(3,dI (a0.Right.length:Int)),(9,.pb 1 0),(73,.d m (.sl 16 (a0.Contributions.map Cn.D))),(74,dI (a0.Contributions.length:Int)),(75,dI (k3:Int)),(90,dB s6)] ?_ ?_
 replace hr:=hqq9
 refine ifE hr ?_ ?_<;>intro h9 hr
 refine bdE hr fun y8 hy8 hr=>J g<|J (CB' [] [] (j2W (m:=m) hy8))<|e
 exact e
 refine bdE hr fun s7 hqq10 hr=>q0a 6 [(3,dI (a0.Right.length:Int)),(9,.pb 1 0),(73,.d m (.sl 16 (a0.Contributions.map Cn.D))),(74,dI (a0.Contributions.length:Int)),(75,dI (k3:Int)),(96,dB s7)] ?_ ?_
 replace hr:=hqq10
 refine ifE hr ?_ ?_<;>intro h10 hr
 exact e
 refine bdE hr fun y9 hy9 hr=>J g<|J (CB' [] [] (q5q hy9))<|e
 refine bdE hr fun s8 hqq11 hr=>q0a 6 [(3,dI (a0.Right.length:Int)),(73,.d m (.sl 16 (a0.Contributions.map Cn.D))),(74,dI (a0.Contributions.length:Int)),(75,dI (k3:Int)),(102,dB s8)] ?_ ?_
 replace hr:=hqq11
 refine ifE hr ?_ ?_<;>intro h11 hr
 exact e
 refine bdE hr fun y10 hy10 hr=>J g<|J (CB' [] [] (q5q hy10))<|e
 refine J (gn 1)<|ifE hr ?_ ?_<;>intro h12 hr
 exact e
 exact e
 subst ek3
 exact e
theorem z8Y {m:Md}{m2:Md}{a0:Rule}{a1:Rule}{r:Bool}(hr:q9W a0 a1=some r):Ok Tryz.prog 229 [Rule.x m a0,.pb 0 0] [.box [dS a1.Name,dS a1.Left,.d m2 (.sl 1 (a1.Right.map A.D.s)),dB a1.Literal,.d m2 (.sl 9 (a1.Equations.map Eqn.D)),.d m2 (.sl 16 (a1.Contributions.map Cn.D))]] (dB r) [.box [dS a1.Name,dS a1.Left,.d m2 (.sl 1 (a1.Right.map A.D.s)),dB a1.Literal,.d m2 (.sl 9 (a1.Equations.map Eqn.D)),.d m2 (.sl 16 (a1.Contributions.map Cn.D))]]:=by
 refine OE Tryz.func229 fun S hS=>?_
 unfold q9W at hr
 refine J g<|J (BX' 1)<|e
theorem q8W {m:Md}{m2:Md}{a0:(List Rule)}{a1_0:Rule}{r:Int}(hr:q4P a0 a1_0=some r):Ok Tryz.prog 271 [.d m (.sl 6 (a0.map Rule.D)),.fn 229 [.pb 0 0]] [.box [dS a1_0.Name,dS a1_0.Left,.d m2 (.sl 1 (a1_0.Right.map A.D.s)),dB a1_0.Literal,.d m2 (.sl 9 (a1_0.Equations.map Eqn.D)),.d m2 (.sl 16 (a1_0.Contributions.map Cn.D))]] (dI r) [.box [dS a1_0.Name,dS a1_0.Left,.d m2 (.sl 1 (a1_0.Right.map A.D.s)),dB a1_0.Literal,.d m2 (.sl 9 (a1_0.Equations.map Eqn.D)),.d m2 (.sl 16 (a1_0.Contributions.map Cn.D))]]:=by
 refine OE Tryz.func271 fun S hS=>?_
 unfold q4P at hr
 refine J (gn 12)<|J (lenT 0)<|fun hl1=>bdE hr fun q1 hqq1 hr=>q0b hqq1 hl1 1 (fun k1 _=>[(0,.d m (.sl 6 (a0.map Rule.D))),(1,.fn 229 [.pb 0 0]),(7,dI (a0.length:Int)),(8,dI (k1:Int))]) (fun k1 _=>[]) I (fun k1 xk1 sk1 ok1 hxk1 hr hltk1 hik1=>?_) fun k1 sk1 ek1 hltk1=>?_
 refine bdE hr fun y1 hy1 hr=>J g<|J (CB' [(0,0)] [] (z8Y (m:=m) (m2:=m2) hy1))<|J (gn 1)<|ifE hr ?_ ?_<;>intro h1 hr
 exact e
 exact e
 subst ek1
 exact e
theorem q8t {m:Md}{m2:Md}{a0:(List Rule)}{a1_0:Rule}{r:Bool}(hr:q4A a0 a1_0=some r):Ok Tryz.prog 228 [.d m (.sl 6 (a0.map Rule.D)),.fn 229 [.pb 0 0]] [.box [dS a1_0.Name,dS a1_0.Left,.d m2 (.sl 1 (a1_0.Right.map A.D.s)),dB a1_0.Literal,.d m2 (.sl 9 (a1_0.Equations.map Eqn.D)),.d m2 (.sl 16 (a1_0.Contributions.map Cn.D))]] (dB r) [.box [dS a1_0.Name,dS a1_0.Left,.d m2 (.sl 1 (a1_0.Right.map A.D.s)),dB a1_0.Literal,.d m2 (.sl 9 (a1_0.Equations.map Eqn.D)),.d m2 (.sl 16 (a1_0.Contributions.map Cn.D))]]:=by
 refine OE Tryz.func228 fun S hS=>?_
 unfold q4A at hr
 refine bdE hr fun y1 hy1 hr=>J g<|J (CB' [(0,0)] [] (q8W (m:=m) (m2:=m2) hy1))<|e
theorem j1t {m:Md}{a0:Gm_}{r:Int}(hr:q9X a0=some r):Ok Tryz.prog 184 [Gm_.x m a0] [] (dI r) []:=by
 refine OE Tryz.func184 fun S hS=>?_
 unfold q9X at hr
 refine J g<|J (BX' 0)<|J (gn 11)<|J (lenA 0 0)<|fun hl1=>bdE hr fun q1 hqq1 hr=>q0b hqq1 hl1 1 (fun k1 _=>[(1,.pb 0 0),(8,.d m (.sl 2 (a0.Symbols.map Symbol.D))),(9,dI (a0.Symbols.length:Int)),(10,dI (k1:Int))]) (fun k1 _=>[]) I (fun k1 xk1 sk1 ok1 hxk1 hr hltk1 hik1=>?_) fun k1 sk1 ek1 hltk1=>?_
 refine J g<|J (NV' 1)<|bdE hr fun y1 hy1 hr=>J g<|J (CB' [] [] (z7X (m:=m) hy1))<|J (gn 1)<|ifE hr ?_ ?_<;>intro h1 hr
 refine ggE hr fun g1 hr=>J g<|J (SLH' (Int.natCast_nonneg _) g1)<|bdE hr fun y2 hy2 hr=>J g<|J (CB' [(0,1)] [] (q8a (m:=m) (m2:=m) hy2))<|J (gn 2)<|ifE hr ?_ ?_<;>intro h2 hr
 exact e
 exact e
 exact e
 subst ek1
 refine J (gn 16)<|J (lenT 29)<|fun hl2=>bdE hr fun q2 hqq2 hr=>q0b hqq2 hl2 1 (fun k2 _=>[(1,.pb 0 0),(29,.d m (.sl 6 (a0.Rules.map Rule.D))),(30,dI (a0.Rules.length:Int)),(31,dI (k2:Int))]) (fun k2 _=>[]) I (fun k2 xk2 sk2 ok2 hxk2 hr hltk2 hik2=>?_) fun k2 sk2 ek2 hltk2=>?_
 refine J g<|J (NV' 1)<|bdE hr fun y3 hy3 hr=>J g<|J (CB' [] [] (j0t (m:=m) hy3))<|J (gn 1)<|ifE hr ?_ ?_<;>intro h3 hr
 refine ggE hr fun g2 hr=>J g<|J (SLH' (Int.natCast_nonneg _) g2)<|bdE hr fun y4 hy4 hr=>J g<|J (CB' [(0,1)] [] (q8t (m:=m) (m2:=m) hy4))<|J (gn 2)<|ifE hr ?_ ?_<;>intro h4 hr
 exact e
 exact e
 exact e
 subst ek2
 exact e
theorem z8Z {a0:At_}{r:Bool}(hr:q9Y a0=some r):Ok Tryz.prog 186 [At_.x .fz a0] [] (dB r) []:=by
 refine OE Tryz.func186 fun S hS=>?_
 unfold q9Y at hr
 refine J g<|J (BX' 0)<|e
theorem q8b {m:Md}{a0:(List At_)}{r:Int}(hr:q4t a0=some r):Ok Tryz.prog 230 [.d m (.sl 4 (a0.map At_.D)),.fn 186 []] [] (dI r) []:=by
 refine OE Tryz.func230 fun S hS=>?_
 unfold q4t at hr
 refine J (gn 12)<|J (lenT 0)<|fun hl1=>bdE hr fun q1 hqq1 hr=>q0b hqq1 hl1 0 (fun k1 _=>[(0,.d m (.sl 4 (a0.map At_.D))),(1,.fn 186 []),(7,dI (a0.length:Int)),(8,dI (k1:Int))]) (fun k1 _=>[]) I (fun k1 xk1 sk1 ok1 hxk1 hr hltk1 hik1=>?_) fun k1 sk1 ek1 hltk1=>?_
 refine bdE hr fun y1 hy1 hr=>J g<|J (CB' [] [] (z8Z hy1))<|J (gn 1)<|ifE hr ?_ ?_<;>intro h1 hr
 exact e
 exact e
 subst ek1
 exact e
theorem q7A {m:Md}{a0:(List At_)}{r:Bool}(hr:q4j a0=some r):Ok Tryz.prog 185 [.d m (.sl 4 (a0.map At_.D)),.fn 186 []] [] (dB r) []:=by
 refine OE Tryz.func185 fun S hS=>?_
 unfold q4j at hr
 refine bdE hr fun y1 hy1 hr=>J g<|J (CB' [] [] (q8b (m:=m) hy1))<|e
theorem z2T {m:Md}{a0:Rule}{a1:Int}{r:ByteArray}(hr:q6U a0 a1=some r):Ok Tryz.prog 207 [Rule.x m a0,dI a1] [] (dS r) []:=by
 refine OE Tryz.func207 fun S hS=>?_
 unfold q6U at hr
 refine J g<|J (BX' 0)<|J (gn 10)<|ifE hr ?_ ?_<;>intro h1 hr
 exact e
 refine bdE hr fun y1 hy1 hr=>J g<|J (CB' [] [] (q4y hy1))<|J (gn 2)<|ifE hr ?_ ?_<;>intro h2 hr
 refine ggE hr fun g1 hr=>ggE hr fun g2 hr=>bdE hr fun x1 hx1 hr=>e
 exact e
theorem q8s {m:Md}{a0:Gm_}{a1:ByteArray}{r:(Symbol×Bool)}(hr:q5C a0 a1=some r):Ok Tryz.prog 152 [Gm_.y m a0,dS a1] [] (.tu [Symbol.x m r.1,dB r.2]) []:=by
 refine OE Tryz.func152 fun S hS=>?_
 unfold q5C at hr
 refine J g<|J (BX' 0)<|J (NV' 1)<|J (gn 11)<|J (lenA 0 0)<|fun hl1=>bdE hr fun q1 hqq1 hr=>q0b hqq1 hl1 2 (fun k1 _=>[(1,dS a1),(4,.pb 1 0),(9,.d m (.sl 2 (a0.Symbols.map Symbol.D))),(10,dI (a0.Symbols.length:Int)),(11,dI (k1:Int))]) (fun k1 _=>[]) I (fun k1 xk1 sk1 ok1 hxk1 hr hltk1 hik1=>?_) fun k1 sk1 ek1 hltk1=>?_
 refine J g<|J (NV' 2)<|J (gn 9)<|ifE hr ?_ ?_<;>intro h1 hr
 exact e
 exact e
 subst ek1
 refine J (gn 14) ?_
 cases hr
 exact endA.ren [] 0 (.inr rfl) hS rfl rfl rfl (.tu (.cons (.ag (.cons .rfl (.cons .nld .nil))) (.cons .rfl .nil))) rfl rfl
theorem j5W {m:Md}{a0:Gm_}{a1:Rule}{r:Bool}(hr:z3v a0 a1=some r):Ok Tryz.prog 187 [Gm_.y m a0,Rule.x m a1] [] (dB r) []:=by
 refine OE Tryz.func187 fun S hS=>?_
 unfold z3v at hr
 refine J g<|J (BX' 0)<|J (BX' 1)<|ggE hr fun g1 hr=>J (gn 12)<|J (rngT 11)<|fun hl1=>bdE hr fun q1 hqq1 hr=>q0u hqq1 2 (fun k1 _=>[(2,.pb 0 0),(3,.pb 1 0),(11,dI ((a1.Right.length+1:Nat):Int)),(12,dI (k1:Int))]) (fun k1 _=>[]) I (fun k1 sk1 ok1 hr hltk1 hik1=>?_) fun sk1 ek1=>?_
 refine bdE hr fun y1 hy1 hr=>J g<|J (CB' [] [] (z2T (m:=m) hy1))<|bdP hr fun y2 y3 hq2 hr=>J (CB' [] [] (q8s (m:=m) hq2))<|J g<|J (NV' 2)<|J (gn 8)<|ifE hr ?_ ?_<;>intro h1 hr
 exact e
 exact e
 subst ek1
 exact e
theorem z8E {m:Md}{a0:Gm_}{a1:Rule}{r:(List Oc)}(hr:z0H a0 a1=some r):Ok Tryz.prog 232 [Gm_.y m a0,Rule.x m a1] [] (.ref 0 none) [.row .fz 2 (r.map Oc.D)]:=by
 refine OE Tryz.func232 fun S hS=>?_
 unfold z0H at hr
 refine J g<|J (BX' 0)<|J (BX' 1)<|J g<|J (L0' 2 Oc.D)<|ggE hr fun g1 hr=>J (gn 12)<|J (rngT 16)<|fun hl1=>bdE hr fun s1 hqq1 hr=>q0i hqq1 3 (fun k1 s1=>[(2,.pb 0 0),(3,.pb 1 0),(5,.ref 2 none),(16,dI ((a1.Right.length+1:Nat):Int)),(17,dI (k1:Int))]) (fun k1 s1=>[(2,.row .fz 2 (s1.map Oc.D))]) I (fun k1 sk1 ok1 hr hltk1=>?_) ?_
 obtain⟨s1,rfl⟩:∃ y,y=sk1:=⟨_,rfl⟩
 refine bdE hr fun s2 hqq2 hr=>J (gn 24)<|q0e 3 [(2,.pb 0 0),(3,.pb 1 0),(5,.ref 2 none),(6,dI (k1:Int)),(7,dI s2),(16,dI ((a1.Right.length+1:Nat):Int)),(17,dI (k1:Int))] [] ?_ ?_
 replace hr:=hqq2
 refine ifE hr ?_ ?_<;>intro h1 hr
 exact e
 exact e
 refine bdE hr fun y1 hy1 hr=>J g<|J (CB' [] [] (z2T (m:=m) hy1))<|bdP hr fun y2 y3 hq3 hr=>J (CB' [] [] (q8s (m:=m) hq3))<|J g<|J (NV' 3)<|J (gn 11) ?_
 refine AW.len (.ag 1 (.tu 0 (.tmp 22 rfl) rfl) rfl) fun hl2=>?_
 refine bdE hr fun s3 hqq4 hr=>q0d hqq4 hl2 4 (fun k2 s3=>[(2,.pb 0 0),(3,.pb 1 0),(5,.ref 2 none),(6,dI (k1:Int)),(7,dI s2),(16,dI ((a1.Right.length+1:Nat):Int)),(17,dI (k1:Int)),(31,.d m (.sl 4 (y2.Attributes.map At_.D))),(32,dI (y2.Attributes.length:Int)),(33,dI (k2:Int))]) (fun k2 s3=>[(2,.row .fz 2 (s3.map Oc.D))]) I (fun k2 xk2 sk2 ok2 hxk2 hr hltk2=>?_) fun k2 hltk2=>?_
 obtain⟨s3,rfl⟩:∃ y,y=sk2:=⟨_,rfl⟩
 refine bdE hr fun s4 hqq5 hr=>J (gn 8)<|q0e 4 [(2,.pb 0 0),(3,.pb 1 0),(5,.ref 2 none),(6,dI (k1:Int)),(7,dI s2),(16,dI ((a1.Right.length+1:Nat):Int)),(17,dI (k1:Int)),(31,.d m (.sl 4 (y2.Attributes.map At_.D))),(32,dI (y2.Attributes.length:Int)),(33,dI (k2:Int))] [(2,.row .fz 2 (s4.map Oc.D))] ?_ ?_
 replace hr:=hqq5
 refine J g<|J (NV' 4)<|J (gn 9)<|ifE hr ?_ ?_<;>intro h2 hr
 refine J g<|J (LIR' 5 (m:=.fz) (f:=Oc.D) (xs:=[(⟨(k1:Int),xk2.Name⟩:Oc)]))<|ggE hr fun g2 hr=>J (z0F (f:=Oc.D) 6 (fun _=>rfl) 24 g2)<|e
 exact e
 exact e
 exact e
 exact e
theorem j0u {m:Md}{a0:Eqn}{a1:Oc}{r:Bool}(hr:z1k a0 a1=some r):Ok Tryz.prog 235 [Eqn.x m a0,.pb 0 0] [.box [dI a1.Pos,dS a1.Name]] (dB r) [.box [dI a1.Pos,dS a1.Name]]:=by
 refine OE Tryz.func235 fun S hS=>?_
 unfold z1k at hr
 refine J g<|J (BX' 1)<|J g ?_
 refine J (SQ' rfl rfl rfl rfl (q5P a0.At a1))<|J g<|E
theorem q8u {m:Md}{a0:(List Eqn)}{a1_0:Oc}{r:Int}(hr:q4B a0 a1_0=some r):Ok Tryz.prog 273 [.d m (.sl 9 (a0.map Eqn.D)),.fn 235 [.pb 0 0]] [.box [dI a1_0.Pos,dS a1_0.Name]] (dI r) [.box [dI a1_0.Pos,dS a1_0.Name]]:=by
 refine OE Tryz.func273 fun S hS=>?_
 unfold q4B at hr
 refine J (gn 12)<|J (lenT 0)<|fun hl1=>bdE hr fun q1 hqq1 hr=>q0b hqq1 hl1 1 (fun k1 _=>[(0,.d m (.sl 9 (a0.map Eqn.D))),(1,.fn 235 [.pb 0 0]),(7,dI (a0.length:Int)),(8,dI (k1:Int))]) (fun k1 _=>[]) I (fun k1 xk1 sk1 ok1 hxk1 hr hltk1 hik1=>?_) fun k1 sk1 ek1 hltk1=>?_
 refine bdE hr fun y1 hy1 hr=>J g<|J (CB' [(0,0)] [] (j0u (m:=m) hy1))<|J (gn 1)<|ifE hr ?_ ?_<;>intro h1 hr
 exact e
 exact e
 subst ek1
 exact e
theorem q7P {m:Md}{a0:(List Eqn)}{a1_0:Oc}{r:Bool}(hr:q4o a0 a1_0=some r):Ok Tryz.prog 234 [.d m (.sl 9 (a0.map Eqn.D)),.fn 235 [.pb 0 0]] [.box [dI a1_0.Pos,dS a1_0.Name]] (dB r) [.box [dI a1_0.Pos,dS a1_0.Name]]:=by
 refine OE Tryz.func234 fun S hS=>?_
 unfold q4o at hr
 refine bdE hr fun y1 hy1 hr=>J g<|J (CB' [(0,0)] [] (q8u (m:=m) hy1))<|e
theorem j2X {m2:Md}{a0:Oc}{a1:Rule}{r:Bool}(hr:z2J a0 a1=some r):Ok Tryz.prog 233 [Oc.x .fz a0,.pb 0 0] [.box [dS a1.Name,dS a1.Left,.d m2 (.sl 1 (a1.Right.map A.D.s)),dB a1.Literal,.d m2 (.sl 9 (a1.Equations.map Eqn.D)),.d m2 (.sl 16 (a1.Contributions.map Cn.D))]] (dB r) [.box [dS a1.Name,dS a1.Left,.d m2 (.sl 1 (a1.Right.map A.D.s)),dB a1.Literal,.d m2 (.sl 9 (a1.Equations.map Eqn.D)),.d m2 (.sl 16 (a1.Contributions.map Cn.D))]]:=by
 refine OE Tryz.func233 fun S hS=>?_
 unfold z2J at hr
 refine J g<|J (BX' 1)<|bdE hr fun y1 hy1 hr=>J g<|J (CB' [(0,1)] [] (q7P (m:=m2) hy1))<|e
theorem q8v {m2:Md}{a0:(List Oc)}{a1_0:Rule}{r:Int}(hr:q4C a0 a1_0=some r):Ok Tryz.prog 272 [.ref 1 none,.fn 233 [.pb 0 0]] [.box [dS a1_0.Name,dS a1_0.Left,.d m2 (.sl 1 (a1_0.Right.map A.D.s)),dB a1_0.Literal,.d m2 (.sl 9 (a1_0.Equations.map Eqn.D)),.d m2 (.sl 16 (a1_0.Contributions.map Cn.D))],.row .fz 2 (a0.map Oc.D)] (dI r) [.box [dS a1_0.Name,dS a1_0.Left,.d m2 (.sl 1 (a1_0.Right.map A.D.s)),dB a1_0.Literal,.d m2 (.sl 9 (a1_0.Equations.map Eqn.D)),.d m2 (.sl 16 (a1_0.Contributions.map Cn.D))],.row .fz 2 (a0.map Oc.D)]:=by
 refine OE Tryz.func272 fun S hS=>?_
 unfold q4C at hr
 refine J (gn 12)<|J (lenR 1)<|fun hl1=>bdE hr fun q1 hqq1 hr=>q0b hqq1 hl1 2 (fun k1 _=>[(0,.ref 1 none),(1,.fn 233 [.pb 0 0]),(7,dI (a0.length:Int)),(8,dI (k1:Int))]) (fun k1 _=>[]) I (fun k1 xk1 sk1 ok1 hxk1 hr hltk1 hik1=>?_) fun k1 sk1 ek1 hltk1=>?_
 refine bdE hr fun y1 hy1 hr=>J g<|J (CB' [(0,0)] [] (j2X (m2:=m2) hy1))<|J (gn 1)<|ifE hr ?_ ?_<;>intro h1 hr
 exact e
 exact e
 subst ek1
 exact e
theorem q7Q {m2:Md}{a0:(List Oc)}{a1_0:Rule}{r:Bool}(hr:q4p a0 a1_0=some r):Ok Tryz.prog 231 [.ref 1 none,.fn 233 [.pb 0 0]] [.box [dS a1_0.Name,dS a1_0.Left,.d m2 (.sl 1 (a1_0.Right.map A.D.s)),dB a1_0.Literal,.d m2 (.sl 9 (a1_0.Equations.map Eqn.D)),.d m2 (.sl 16 (a1_0.Contributions.map Cn.D))],.row .fz 2 (a0.map Oc.D)] (dB r) [.box [dS a1_0.Name,dS a1_0.Left,.d m2 (.sl 1 (a1_0.Right.map A.D.s)),dB a1_0.Literal,.d m2 (.sl 9 (a1_0.Equations.map Eqn.D)),.d m2 (.sl 16 (a1_0.Contributions.map Cn.D))],.row .fz 2 (a0.map Oc.D)]:=by
 refine OE Tryz.func231 fun S hS=>?_
 unfold q4p at hr
 refine bdE hr fun y1 hy1 hr=>J g<|J (CB' [(0,0),(1,1)] [] (q8v (m2:=m2) hy1))<|e
theorem j5X {m:Md}{a0:Gm_}{a1:Rule}{r:Bool}(hr:z3w a0 a1=some r):Ok Tryz.prog 188 [Gm_.y m a0,Rule.x m a1] [] (dB r) []:=by
 refine OE Tryz.func188 fun S hS=>?_
 unfold z3w at hr
 refine J g<|J (BX' 0)<|J (BX' 1)<|bdE hr fun y1 hy1 hr=>J g<|J (CB' [(0,2)] [] (z8E (m:=m) hy1))<|bdE hr fun y2 hy2 hr=>J g<|J (CB' [(0,1),(1,2)] [] (q7Q (m2:=m) hy2))<|e
theorem q9a {m:Md}{a0:(List Oc)}{a1:Oc}{r:Int}(hr:q4q a0 a1=some r):Ok Tryz.prog 257 [.d m (.sl 2 (a0.map Oc.D)),Oc.x .fz a1] [] (dI r) []:=by
 refine OE Tryz.func257 fun S hS=>?_
 unfold q4q at hr
 refine J g<|J (BX' 0)<|J (gn 10)<|J (lenT 0)<|fun hl1=>bdE hr fun q1 hqq1 hr=>q0b hqq1 hl1 1 (fun k1 _=>[(0,.d m (.sl 2 (a0.map Oc.D))),(3,.pb 0 0),(7,dI (a0.length:Int)),(8,dI (k1:Int))]) (fun k1 _=>[]) I (fun k1 xk1 sk1 ok1 hxk1 hr hltk1 hik1=>?_) fun k1 sk1 ek1 hltk1=>?_
 refine J g ?_
 refine J (SQ' rfl rfl rfl rfl (q5P a1 xk1))<|J (gn 1)<|ifE hr ?_ ?_<;>intro h1 hr
 exact e
 exact e
 subst ek1
 exact e
theorem z1D {m:Md}{a0:(List Oc)}{a1:Oc}{r:Bool}(hr:q5i a0 a1=some r):Ok Tryz.prog 236 [.d m (.sl 2 (a0.map Oc.D)),Oc.x .fz a1] [] (dB r) []:=by
 refine OE Tryz.func236 fun S hS=>?_
 unfold q5i at hr
 refine J g<|J (BX' 0)<|bdE hr fun y1 hy1 hr=>J g<|J (CB' [] [] (q9a (m:=m) hy1))<|e
theorem j5Y {m:Md}{m2:Md}{a0:Eqn}{a1:Eqn}{r:Bool}(hr:z5P a0 a1=some r):Ok Tryz.prog 237 [Eqn.x m a0,.pb 0 0] [.box [dI a1.At.Pos,dS a1.At.Name,dI a1.Expr.Kind,dI a1.Expr.N,dI a1.Expr.Pos,dI a1.Expr.Type_,dS a1.Expr.Symbol,dS a1.Expr.Name,.d m2 (.sl 7 (a1.Expr.Args.map Expr.D))]] (dB r) [.box [dI a1.At.Pos,dS a1.At.Name,dI a1.Expr.Kind,dI a1.Expr.N,dI a1.Expr.Pos,dI a1.Expr.Type_,dS a1.Expr.Symbol,dS a1.Expr.Name,.d m2 (.sl 7 (a1.Expr.Args.map Expr.D))]]:=by
 refine OE Tryz.func237 fun S hS=>?_
 unfold z5P at hr
 refine J g<|J (BX' 1)<|J g ?_
 refine J (SQ' rfl rfl rfl rfl (q5P a0.At a1.At))<|J g<|E
theorem q9d {m:Md}{m2:Md}{a0:(List Eqn)}{a1_0:Eqn}{r:Int}(hr:q4T a0 a1_0=some r):Ok Tryz.prog 273 [.d m (.sl 9 (a0.map Eqn.D)),.fn 237 [.pb 0 0]] [.box [dI a1_0.At.Pos,dS a1_0.At.Name,dI a1_0.Expr.Kind,dI a1_0.Expr.N,dI a1_0.Expr.Pos,dI a1_0.Expr.Type_,dS a1_0.Expr.Symbol,dS a1_0.Expr.Name,.d m2 (.sl 7 (a1_0.Expr.Args.map Expr.D))]] (dI r) [.box [dI a1_0.At.Pos,dS a1_0.At.Name,dI a1_0.Expr.Kind,dI a1_0.Expr.N,dI a1_0.Expr.Pos,dI a1_0.Expr.Type_,dS a1_0.Expr.Symbol,dS a1_0.Expr.Name,.d m2 (.sl 7 (a1_0.Expr.Args.map Expr.D))]]:=by
 refine OE Tryz.func273 fun S hS=>?_
 unfold q4T at hr
 refine J (gn 12)<|J (lenT 0)<|fun hl1=>bdE hr fun q1 hqq1 hr=>q0b hqq1 hl1 1 (fun k1 _=>[(0,.d m (.sl 9 (a0.map Eqn.D))),(1,.fn 237 [.pb 0 0]),(7,dI (a0.length:Int)),(8,dI (k1:Int))]) (fun k1 _=>[]) I (fun k1 xk1 sk1 ok1 hxk1 hr hltk1 hik1=>?_) fun k1 sk1 ek1 hltk1=>?_
 refine bdE hr fun y1 hy1 hr=>J g<|J (CB' [(0,0)] [] (j5Y (m:=m) (m2:=m2) hy1))<|J (gn 1)<|ifE hr ?_ ?_<;>intro h1 hr
 exact e
 exact e
 subst ek1
 exact e
theorem q8C {m:Md}{m2:Md}{a0:(List Eqn)}{a1_0:Eqn}{r:Bool}(hr:q4K a0 a1_0=some r):Ok Tryz.prog 234 [.d m (.sl 9 (a0.map Eqn.D)),.fn 237 [.pb 0 0]] [.box [dI a1_0.At.Pos,dS a1_0.At.Name,dI a1_0.Expr.Kind,dI a1_0.Expr.N,dI a1_0.Expr.Pos,dI a1_0.Expr.Type_,dS a1_0.Expr.Symbol,dS a1_0.Expr.Name,.d m2 (.sl 7 (a1_0.Expr.Args.map Expr.D))]] (dB r) [.box [dI a1_0.At.Pos,dS a1_0.At.Name,dI a1_0.Expr.Kind,dI a1_0.Expr.N,dI a1_0.Expr.Pos,dI a1_0.Expr.Type_,dS a1_0.Expr.Symbol,dS a1_0.Expr.Name,.d m2 (.sl 7 (a1_0.Expr.Args.map Expr.D))]]:=by
 refine OE Tryz.func234 fun S hS=>?_
 unfold q4K at hr
 refine bdE hr fun y1 hy1 hr=>J g<|J (CB' [(0,0)] [] (q9d (m:=m) (m2:=m2) hy1))<|e
theorem j9L {m:Md}{a0:Gm_}{a1:Rule}{r:Bool}(hr:z7e a0 a1=some r):Ok Tryz.prog 189 [Gm_.y m a0,Rule.x m a1] [] (dB r) []:=by
 refine OE Tryz.func189 fun S hS=>?_
 unfold z7e at hr
 refine J g<|J (BX' 0)<|J (BX' 1)<|bdE hr fun y1 hy1 hr=>J g<|J (CB' [(0,2)] [] (z8E (m:=m) hy1))<|J (gn 11)<|J (lenA 4 1)<|fun hl1=>bdE hr fun q1 hqq1 hr=>q0b hqq1 hl1 3 (fun k1 _=>[(3,.pb 1 0),(5,.ref 2 none),(12,.d m (.sl 9 (a1.Equations.map Eqn.D))),(13,dI (a1.Equations.length:Int)),(14,dI (k1:Int))]) (fun k1 _=>[]) I (fun k1 xk1 sk1 ok1 hxk1 hr hltk1 hik1=>?_) fun k1 sk1 ek1 hltk1=>?_
 refine J g<|J (NV' 3)<|bdE hr fun y2 hy2 hr=>J g<|J (CB' [] [2] (z1D (m:=.bo) hy2))<|J (gn 1)<|ifE hr ?_ ?_<;>intro h1 hr
 refine ggE hr fun g1 hr=>J g<|J (SLH' (Int.natCast_nonneg _) g1)<|bdE hr fun y3 hy3 hr=>J g<|J (CB' [(0,3)] [] (q8C (m:=m) (m2:=m) hy3))<|J (gn 2)<|ifE hr ?_ ?_<;>intro h2 hr
 exact e
 exact e
 exact e
 subst ek1
 exact e
theorem j0v {m:Md}{a0:Rule}{r:(List Expr)}(hr:q9o a0=some r):Ok Tryz.prog 239 [Rule.x m a0] [] (.ref 0 none) [.row m 7 (r.map Expr.D)]:=by
 refine OE Tryz.func239 fun S hS=>?_
 unfold q9o at hr
 refine J g<|J (BX' 0)<|J g<|J (L0' 1 Expr.D)<|J (gn 11)<|J (lenA 4 0)<|fun hl1=>bdE hr fun s1 hqq1 hr=>?_
 refine q0d hqq1 hl1 2 (fun k1 s1=>[(1,.pb 0 0),(3,.ref 1 none),(10,.d m (.sl 9 (a0.Equations.map Eqn.D))),(11,dI (a0.Equations.length:Int)),(12,dI (k1:Int))]) (fun k1 s1=>[(1,.row m 7 (s1.map Expr.D))]) (GH.trans (q0Z (r:=1) m rfl) I) (fun k1 xk1 sk1 ok1 hxk1 hr hltk1=>?_) fun k1 hltk1=>?_
 obtain⟨s1,rfl⟩:∃ y,y=sk1:=⟨_,rfl⟩
 refine J g<|J (NV' 2)<|J g ?_
 refine J (j8a 3 (m:=m) (f:=Expr.D) [xk1.Expr] (by simp only[List.map_cons,List.map_nil,Expr.D_eq];rfl))<|ggE hr fun g1 hr=>J (AP1' 4 m 88 g1)<|J g<|E
 refine J (gn 16)<|J (lenT 23)<|fun hl2=>bdE hr fun s2 hqq2 hr=>q0d hqq2 hl2 2 (fun k2 s2=>[(3,.ref 1 none),(23,.d m (.sl 16 (a0.Contributions.map Cn.D))),(24,dI (a0.Contributions.length:Int)),(25,dI (k2:Int))]) (fun k2 s2=>[(1,.row m 7 (s2.map Expr.D))]) I (fun k2 xk2 sk2 ok2 hxk2 hr hltk2=>?_) fun k2 hltk2=>?_
 obtain⟨s2,rfl⟩:∃ y,y=sk2:=⟨_,rfl⟩
 refine J g<|J (NV' 2)<|J g ?_
 refine J (j8a 3 (m:=m) (f:=Expr.D) [xk2.Target,xk2.Value] (by simp only[List.map_cons,List.map_nil,Expr.D_eq];rfl))<|ggE hr fun g2 hr=>J (APB' 4 m 88 g2)<|J g<|E
 exact e
theorem z6B {m:Md}{a0:Expr}{o0:(List Oc)}{r:(Bool×(List Oc))}(hr:q7r a0 o0=some r):Ok Tryz.prog 253 [Expr.x m a0,.pb 0 0] [.box [.ref 1 none],.row .fz 2 (o0.map Oc.D)] (dB r.1) [.box [.ref 2 none],.dead,.row .fz 2 (r.2.map Oc.D)]:=by
 refine OE Tryz.func253 fun S hS=>?_
 unfold q7r at hr
 refine J g<|J (BX' 2)<|J (gn 9)<|ifE hr ?_ ?_<;>intro h1 hr
 refine J g<|J (LIR' 3 (m:=.fz) (f:=Oc.D) (xs:=[(⟨a0.Pos,a0.Name⟩:Oc)]))<|ggE hr fun g1 hr=>J (z0F (f:=Oc.D) 4 (fun _=>rfl) 24 g1)<|e
 refine J (gn 7) ?_
 refine J (q0c (q1D (i:=1) (j:=3) rfl rfl))<|J g<|E
theorem z0B {Rc10:Expr→(List Oc)→Option (Bool×(List Oc))}(Ic10:∀ {m:Md} {a0:Expr} {o0:(List Oc)} {r:(Bool×(List Oc))},Rc10 a0 o0=some r→Ok Tryz.prog 252 [Expr.x m a0,.fn 253 [.pb 0 0]] [.box [.ref 1 none],.row .fz 2 (o0.map Oc.D)] (dB r.1) [.box [.ref 2 none],.dead,.row .fz 2 (r.2.map Oc.D)]){m:Md}{a0:Expr}{o0:(List Oc)}{r:(Bool×(List Oc))}(hr:q5t Rc10 a0 o0=some r):Ok Tryz.prog 278 [Expr.x m a0,.pb 1 0] [.box [.ref 2 none],.box [.fn 253 [.pb 0 0]],.row .fz 2 (o0.map Oc.D)] (dB r.1) [.box [.ref 3 none],.box [.fn 253 [.pb 0 0]],.dead,.row .fz 2 (r.2.map Oc.D)]:=by
 refine OE Tryz.func278 fun S hS=>?_
 unfold q5t at hr
 refine J g<|J (BX' 3)<|bdP hr fun y1 z1 hq1 hr=>J g<|J (CB' [(0,0),(1,2),(2,4)] [] (Ic10 (m:=m) hq1))<|e
theorem q6D {Rc10:Expr→(List Oc)→Option (Bool×(List Oc))}(Ic10:∀ {m:Md} {a0:Expr} {o0:(List Oc)} {r:(Bool×(List Oc))},Rc10 a0 o0=some r→Ok Tryz.prog 252 [Expr.x m a0,.fn 253 [.pb 0 0]] [.box [.ref 1 none],.row .fz 2 (o0.map Oc.D)] (dB r.1) [.box [.ref 2 none],.dead,.row .fz 2 (r.2.map Oc.D)]){m:Md}{a0:(List Expr)}{o0:(List Oc)}{r:(Int×(List Oc))}(hr:q3V Rc10 a0 o0=some r):Ok Tryz.prog 274 [.d m (.sl 7 (a0.map Expr.D)),.fn 278 [.pb 1 0]] [.box [.ref 2 none],.box [.fn 253 [.pb 0 0]],.row .fz 2 (o0.map Oc.D)] (dI r.1) [.box [.ref 3 none],.box [.fn 253 [.pb 0 0]],.dead,.row .fz 2 (r.2.map Oc.D)]:=by
 refine OE Tryz.func274 fun S hS=>?_
 unfold q3V at hr
 refine J (gn 12) ?_
 refine J (q1G 2 3 rfl)<|J (lenT 0)<|fun hl1=>bdE hr fun q1 hqq1 hr=>q0b hqq1 hl1 4 (fun k1 s1=>[(0,.d m (.sl 7 (a0.map Expr.D))),(1,.fn 278 [.pb 1 0]),(7,dI (a0.length:Int)),(8,dI (k1:Int))]) (fun k1 s1=>[(3,.row .fz 2 (s1.map Oc.D))]) I (fun k1 xk1 sk1 ok1 hxk1 hr hltk1 hik1=>?_) fun k1 sk1 ek1 hltk1=>?_
 obtain⟨s1,rfl⟩:∃ y,y=sk1:=⟨_,rfl⟩
 refine bdP hr fun y1 z1 hq2 hr=>J g<|J (CB' [(0,0),(1,1),(2,3),(3,4)] [] (z0B Ic10 (m:=m) hq2))<|J (gn 1)<|ifE hr ?_ ?_<;>intro h1 hr
 exact e
 exact e
 subst ek1
 obtain⟨s1,rfl⟩:∃ y,y=sk1:=⟨_,rfl⟩
 exact e
theorem q6j {Rc10:Expr→(List Oc)→Option (Bool×(List Oc))}(Ic10:∀ {m:Md} {a0:Expr} {o0:(List Oc)} {r:(Bool×(List Oc))},Rc10 a0 o0=some r→Ok Tryz.prog 252 [Expr.x m a0,.fn 253 [.pb 0 0]] [.box [.ref 1 none],.row .fz 2 (o0.map Oc.D)] (dB r.1) [.box [.ref 2 none],.dead,.row .fz 2 (r.2.map Oc.D)]){m:Md}{a0:(List Expr)}{o0:(List Oc)}{r:(Bool×(List Oc))}(hr:q3S Rc10 a0 o0=some r):Ok Tryz.prog 238 [.d m (.sl 7 (a0.map Expr.D)),.fn 278 [.pb 1 0]] [.box [.ref 2 none],.box [.fn 253 [.pb 0 0]],.row .fz 2 (o0.map Oc.D)] (dB r.1) [.box [.ref 3 none],.box [.fn 253 [.pb 0 0]],.dead,.row .fz 2 (r.2.map Oc.D)]:=by
 refine OE Tryz.func238 fun S hS=>?_
 unfold q3S at hr
 refine bdP hr fun y1 z1 hq1 hr=>J g<|J (CB' [(0,0),(1,1),(2,2),(3,3)] [] (q6D Ic10 (m:=m) hq1))<|e
theorem z0W {Rc10:Expr→(List Oc)→Option (Bool×(List Oc))}(Ic10:∀ {m:Md} {a0:Expr} {o0:(List Oc)} {r:(Bool×(List Oc))},Rc10 a0 o0=some r→Ok Tryz.prog 252 [Expr.x m a0,.fn 253 [.pb 0 0]] [.box [.ref 1 none],.row .fz 2 (o0.map Oc.D)] (dB r.1) [.box [.ref 2 none],.dead,.row .fz 2 (r.2.map Oc.D)]){m:Md}{a0:Expr}{o0:(List Oc)}{r:(Bool×(List Oc))}(hr:q4W Rc10 a0 o0=some r):Ok Tryz.prog 252 [Expr.x m a0,.fn 253 [.pb 0 0]] [.box [.ref 1 none],.row .fz 2 (o0.map Oc.D)] (dB r.1) [.box [.ref 2 none],.dead,.row .fz 2 (r.2.map Oc.D)]:=by
 refine OE Tryz.func252 fun S hS=>?_
 unfold q4W at hr
 refine J g<|J (BX' 2)<|J (BX' 3)<|bdP hr fun y1 z1 hq1 hr=>J g<|J (CB' [(0,0),(1,1),(2,4)] [] (z6B (m:=m) hq1))<|ifE hr ?_ ?_<;>intro h1 hr
 refine bdP hr fun y2 z2 hq2 hr=>J g<|J (CB' [(0,0),(1,3),(2,4),(3,5)] [] (q6j Ic10 (m:=m) hq2))<|e
 exact e
theorem z0X (n:Nat):∀ {m:Md} {a0:Expr} {o0:(List Oc)} {r:(Bool×(List Oc))},q4H n a0 o0=some r→Ok Tryz.prog 252 [Expr.x m a0,.fn 253 [.pb 0 0]] [.box [.ref 1 none],.row .fz 2 (o0.map Oc.D)] (dB r.1) [.box [.ref 2 none],.dead,.row .fz 2 (r.2.map Oc.D)]:=by
  induction n with
  | zero=>intro _ _ _ r hr;exact nomatch (show (none:Option (Bool×(List Oc)))=some r from hr)
  | succ n ih=>intro _ _ _ r hr;exact z0W ih hr
theorem z1z {m:Md}{a0:Expr}{o0:(List Oc)}{r:(Bool×(List Oc))}(hr:q6r a0 o0=some r):Ok Tryz.prog 252 [Expr.x m a0,.fn 253 [.pb 0 0]] [.box [.ref 1 none],.row .fz 2 (o0.map Oc.D)] (dB r.1) [.box [.ref 2 none],.dead,.row .fz 2 (r.2.map Oc.D)]:=by
 obtain⟨n,hn⟩:=q6x hr
 exact z0X n hn
theorem z1E {a0:(List Oc)}{r:(List Oc)}(hr:q5O a0=some r):Ok Tryz.prog 254 [.ref 0 none,.fn 255 []] [.row .fz 2 (a0.map Oc.D)] (.tu []) [.row .fz 2 (r.map Oc.D)]:=by
 unfold q5O at hr
 refine ggE hr fun g1 hr=>?_
 cases hr
 exact k1P g1
theorem z1N {a0:(List Oc)}{r:(List Oc)}(hr:q5o a0=some r):Ok Tryz.prog 256 [.ref 0 none] [.row .fz 2 (a0.map Oc.D)] (.ref 1 none) [.dead,.row .fz 2 (r.map Oc.D)]:=by
 refine OE Tryz.func256 fun S hS=>?_
 unfold q5o at hr
 refine J (gn 11)<|ifE hr ?_ ?_<;>intro h1 hr
 refine J (gn 7) ?_
 refine J (q0c (q1D (i:=0) (j:=1) rfl rfl))<|J g<|E
 refine bdE hr fun q1 hqq1 hr=>J (gn 7)<|AW.cut 1 (fun _=>[(0,.ref 0 none)]) (fun _=>[]) (M:=fun x=>q1=.inl x) ?_ fun x hx=>?_
 refine J g<|q0h hqq1 1 (fun s1=>[(0,.ref 0 none),(3,dI s1)]) (fun s1=>[]) I fun sk1 ok1 hr hik1=>?_
 obtain⟨s1,rfl⟩:∃ y,y=sk1:=⟨_,rfl⟩
 have hr:=hr
 refine J (gn 8)<|ifE hr ?_ ?_<;>intro h2 hr
 refine ggE hr fun g1 hr=>bdE hr fun x1 hx1 hr=>ggE hr fun g2 hr=>ggE hr fun g3 hr=>bdE hr fun x2 hx2 hr=>J g ?_
 refine J (SQ' rfl rfl rfl rfl (q5P x1 x2))<|J (gn 1)<|ifE hr ?_ ?_<;>intro h3 hr
 refine ggE hr fun g4 hr=>ggE hr fun g5 hr=>J g<|J (SVL' g4 g5)<|bdP hr fun s2 s3 hqq2 hr=>J (gn 7)<|q0e 1 [(0,.ref 0 none),(3,dI s3)] [(0,.row .fz 2 (s2.map Oc.D))] ?_ ?_
 refine J g ?_
 refine q0h hqq2 1 (fun (s4,s5,s6)=>[(0,.ref 0 none),(3,dI s5),(4,.vs 0 none s1.toNat (s4.length-s1.toNat)),(5,dI s6)]) (fun (s4,s5,s6)=>[(0,.row .fz 2 (s4.map Oc.D))]) (GH.ren hS [(0,0)] 1 ⟨.rfl,.rfl,(.vn (by first|rfl|simp only[List.length_set])),.rfl,trivial⟩) fun sk2 ok2 hr hik2=>?_
 obtain⟨s4,s5,s6⟩:=sk2
 have hr:=hr
 refine J g<|J (LV' (s4.drop s1.toNat).length)<|J (gn 2)<|ifE hr ?_ ?_<;>intro h4 hr
 refine bdP hr fun s7 s8 hqq3 hr=>J (gn 3)<|q0e 1 [(0,.ref 0 none),(3,dI s7),(4,.vs 0 none s1.toNat (s8.length-s1.toNat)),(5,dI s6)] [(0,.row .fz 2 (s8.map Oc.D))] ?_ ?_
 replace hr:=hqq3
 refine ggE hr fun g6 hr=>bdE hr fun x3 hx3 hr=>J g<|J (IV' hx3 g6 (z7O hx3))<|ggE hr fun g7 hr=>ggE hr fun g8 hr=>bdE hr fun x4 hx4 hr=>J g<|J (IV' hx4 g8 (z7O hx4))<|J g ?_
 refine J (SQn' rfl rfl rfl rfl (q5P x3 x4))<|J (gn 1)<|ifE hr ?_ ?_<;>intro h5 hr
 refine J (gn 2) ?_
 cases hr
 exact GH.ren hS [(0,0)] 1 ⟨.rfl,.rfl,(.vn (by first|rfl|simp only[List.length_set])),.rfl,trivial⟩
 refine ggE hr fun g9 hr=>J g<|J (IV' hx3 g9 (z7O hx3))<|ggE hr fun g10 hr=>bdE hr fun x5 hx5 hr=>J g<|J (SE' x3 hx5)<|ggE hr fun g11 hr=>J (gn 6) ?_
 cases hr
 exact GH.ren hS [(0,0)] 1 ⟨.rfl,.rfl,(.vn (by first|rfl|simp only[List.length_set])),.rfl,trivial⟩
 refine ggE hr fun g12 hr=>J (gn 5) ?_
 cases hr
 exact⟨_,rfl,GH.ren hS [(0,0)] 1 ⟨.rfl,.rfl,(.vn (by first|rfl|simp only[List.length_set])),.rfl,trivial⟩⟩
 refine J (gn 2) ?_
 cases hr
 cases hik2 _ rfl
 exact q0g hS 1
 refine ggE hr fun g13 hr=>ggE hr fun g14 hr=>J g<|J (SVL' g13 g14)<|J (CLR' (⟨(0:Int),(⟨#[]⟩:ByteArray)⟩:Oc) g14)<|ggE hr fun g15 hr=>ggE hr fun g16 hr=>J g<|J (CU' 1 g15 g16)<|e
 refine ggE hr fun g17 hr=>e
 refine J (gn 2) ?_
 cases hr
 cases hik1 _ rfl
 exact⟨_,rfl,q0g hS 1⟩
 subst hx
 refine J (gn 6) ?_
 refine J (q0c (q1D (i:=0) (j:=1) rfl rfl))<|J g<|E
theorem z3J {m:Md}{a0:Expr}{r:(List Oc)}(hr:q7i a0=some r):Ok Tryz.prog 209 [Expr.x m a0] [] (.ref 0 none) [.row .fz 2 (r.map Oc.D)]:=by
 refine OE Tryz.func209 fun S hS=>?_
 unfold q7i at hr
 refine J g<|J (BX' 0)<|J g<|J (L0' 1 Oc.D)<|J (NV' 2)<|bdP hr fun y1 z1 hq1 hr=>J g<|J (CB' [(0,2),(1,1),(2,3)] [] (z1z (m:=m) hq1))<|bdE hr fun z2 hz2 hr=>J g<|J (CB' [(0,3)] [] (z1E hz2))<|bdE hr fun y2 hy2 hr=>J g<|J (CB' [(0,3),(1,4)] [] (z1N hy2))<|e
theorem z0Y {m:Md}{a0:Symbol}{a1:ByteArray}{r:(At_×Bool)}(hr:q6s a0 a1=some r):Ok Tryz.prog 193 [Symbol.x m a0,dS a1] [] (.tu [At_.x .fz r.1,dB r.2]) []:=by
 refine OE Tryz.func193 fun S hS=>?_
 unfold q6s at hr
 refine J g<|J (BX' 0)<|J (NV' 1)<|J (gn 11)<|J (lenA 1 0)<|fun hl1=>bdE hr fun q1 hqq1 hr=>q0b hqq1 hl1 2 (fun k1 _=>[(1,dS a1),(4,.pb 1 0),(9,.d m (.sl 4 (a0.Attributes.map At_.D))),(10,dI (a0.Attributes.length:Int)),(11,dI (k1:Int))]) (fun k1 _=>[]) I (fun k1 xk1 sk1 ok1 hxk1 hr hltk1 hik1=>?_) fun k1 sk1 ek1 hltk1=>?_
 refine J g<|J (NV' 2)<|J (gn 9)<|ifE hr ?_ ?_<;>intro h1 hr
 exact e
 exact e
 subst ek1
 exact e
theorem z2v {m:Md}{a0:Gm_}{a1:Rule}{a2:Oc}{r:(At_×Bool)}(hr:q7x a0 a1 a2=some r):Ok Tryz.prog 191 [Gm_.y m a0,Rule.x m a1,Oc.x .fz a2] [] (.tu [At_.x .fz r.1,dB r.2]) []:=by
 refine OE Tryz.func191 fun S hS=>?_
 unfold q7x at hr
 refine J g<|J (BX' 0)<|J (BX' 1)<|J (BX' 2)<|J (NV' 3)<|bdE hr fun y1 hy1 hr=>J g<|J (CB' [] [] (q4y hy1))<|J (gn 2)<|ifE hr ?_ ?_<;>intro h1 hr
 refine bdE hr fun y2 hy2 hr=>J g<|J (CB' [] [] (z2T (m:=m) hy2))<|bdP hr fun y3 y4 hq1 hr=>J (CB' [] [] (q8s (m:=m) hq1))<|J g<|J (NV' 4)<|bdP hr fun y5 y6 hq2 hr=>J g<|J (CB' [] [] (z0Y (m:=m) hq2))<|e
 exact e
theorem j8y {m:Md}{a0:Gm_}{a1:Rule}{a2:Oc}{r:Bool}(hr:z5j a0 a1 a2=some r):Ok Tryz.prog 242 [Gm_.y m a0,Rule.x m a1,Oc.x .fz a2] [] (dB r) []:=by
 refine OE Tryz.func242 fun S hS=>?_
 unfold z5j at hr
 refine J g<|J (BX' 0)<|J (BX' 1)<|J (BX' 2)<|bdP hr fun y1 y2 hq1 hr=>J g<|J (CB' [] [] (z2v (m:=m) hq1))<|J g<|J (NV' 3)<|J (gn 10)<|ifE hr ?_ ?_<;>intro h1 hr
 refine bdE hr fun s1 hqq2 hr=>J (gn 4)<|q0a 5 [(6,dB false),(24,dB s1)] ?_ ?_
 replace hr:=hqq2
 refine ifE hr ?_ ?_<;>intro h2 hr
 exact e
 exact e
 exact e
 refine bdE hr fun s2 hqq3 hr=>J (gn 5)<|q0a 5 [(6,dB false),(30,dB s2)] ?_ ?_
 replace hr:=hqq3
 refine ifE hr ?_ ?_<;>intro h3 hr
 exact e
 exact e
 exact e
theorem j0w {m2:Md}{a0:Oc}{a1:Gm_}{a2:Rule}{r:Bool}(hr:z1l a0 a1 a2=some r):Ok Tryz.prog 241 [Oc.x .fz a0,.pb 0 0,.pb 1 0] [.box [.d m2 (.sl 2 (a1.Symbols.map Symbol.D)),.d m2 (.sl 6 (a1.Rules.map Rule.D))],.box [dS a2.Name,dS a2.Left,.d m2 (.sl 1 (a2.Right.map A.D.s)),dB a2.Literal,.d m2 (.sl 9 (a2.Equations.map Eqn.D)),.d m2 (.sl 16 (a2.Contributions.map Cn.D))]] (dB r) [.box [.d m2 (.sl 2 (a1.Symbols.map Symbol.D)),.d m2 (.sl 6 (a1.Rules.map Rule.D))],.box [dS a2.Name,dS a2.Left,.d m2 (.sl 1 (a2.Right.map A.D.s)),dB a2.Literal,.d m2 (.sl 9 (a2.Equations.map Eqn.D)),.d m2 (.sl 16 (a2.Contributions.map Cn.D))]]:=by
 refine OE Tryz.func241 fun S hS=>?_
 unfold z1l at hr
 refine J g<|J (BX' 2)<|bdE hr fun y1 hy1 hr=>J g<|J (CB' [] [] (j8y (m:=m2) hy1))<|e
theorem q8c {m2:Md}{a0:(List Oc)}{a1_0:Gm_}{a1_1:Rule}{r:Int}(hr:q4u a0 a1_0 a1_1=some r):Ok Tryz.prog 272 [.ref 2 none,.fn 241 [.pb 0 0,.pb 1 0]] [.box [.d m2 (.sl 2 (a1_0.Symbols.map Symbol.D)),.d m2 (.sl 6 (a1_0.Rules.map Rule.D))],.box [dS a1_1.Name,dS a1_1.Left,.d m2 (.sl 1 (a1_1.Right.map A.D.s)),dB a1_1.Literal,.d m2 (.sl 9 (a1_1.Equations.map Eqn.D)),.d m2 (.sl 16 (a1_1.Contributions.map Cn.D))],.row .fz 2 (a0.map Oc.D)] (dI r) [.box [.d m2 (.sl 2 (a1_0.Symbols.map Symbol.D)),.d m2 (.sl 6 (a1_0.Rules.map Rule.D))],.box [dS a1_1.Name,dS a1_1.Left,.d m2 (.sl 1 (a1_1.Right.map A.D.s)),dB a1_1.Literal,.d m2 (.sl 9 (a1_1.Equations.map Eqn.D)),.d m2 (.sl 16 (a1_1.Contributions.map Cn.D))],.row .fz 2 (a0.map Oc.D)]:=by
 refine OE Tryz.func272 fun S hS=>?_
 unfold q4u at hr
 refine J (gn 12)<|J (lenR 2)<|fun hl1=>bdE hr fun q1 hqq1 hr=>q0b hqq1 hl1 3 (fun k1 _=>[(0,.ref 2 none),(1,.fn 241 [.pb 0 0,.pb 1 0]),(7,dI (a0.length:Int)),(8,dI (k1:Int))]) (fun k1 _=>[]) I (fun k1 xk1 sk1 ok1 hxk1 hr hltk1 hik1=>?_) fun k1 sk1 ek1 hltk1=>?_
 refine bdE hr fun y1 hy1 hr=>J g<|J (CB' [(0,0),(1,1)] [] (j0w (m2:=m2) hy1))<|J (gn 1)<|ifE hr ?_ ?_<;>intro h1 hr
 exact e
 exact e
 subst ek1
 exact e
theorem q7B {m2:Md}{a0:(List Oc)}{a1_0:Gm_}{a1_1:Rule}{r:Bool}(hr:q4k a0 a1_0 a1_1=some r):Ok Tryz.prog 231 [.ref 2 none,.fn 241 [.pb 0 0,.pb 1 0]] [.box [.d m2 (.sl 2 (a1_0.Symbols.map Symbol.D)),.d m2 (.sl 6 (a1_0.Rules.map Rule.D))],.box [dS a1_1.Name,dS a1_1.Left,.d m2 (.sl 1 (a1_1.Right.map A.D.s)),dB a1_1.Literal,.d m2 (.sl 9 (a1_1.Equations.map Eqn.D)),.d m2 (.sl 16 (a1_1.Contributions.map Cn.D))],.row .fz 2 (a0.map Oc.D)] (dB r) [.box [.d m2 (.sl 2 (a1_0.Symbols.map Symbol.D)),.d m2 (.sl 6 (a1_0.Rules.map Rule.D))],.box [dS a1_1.Name,dS a1_1.Left,.d m2 (.sl 1 (a1_1.Right.map A.D.s)),dB a1_1.Literal,.d m2 (.sl 9 (a1_1.Equations.map Eqn.D)),.d m2 (.sl 16 (a1_1.Contributions.map Cn.D))],.row .fz 2 (a0.map Oc.D)]:=by
 refine OE Tryz.func231 fun S hS=>?_
 unfold q4k at hr
 refine bdE hr fun y1 hy1 hr=>J g<|J (CB' [(0,0),(1,1),(2,2)] [] (q8c (m2:=m2) hy1))<|e
theorem j2Y {m:Md}{m2:Md}{a0:Expr}{a1:Gm_}{a2:Rule}{r:Bool}(hr:z1u a0 a1 a2=some r):Ok Tryz.prog 240 [Expr.x m a0,.pb 0 0,.pb 1 0] [.box [.d m2 (.sl 2 (a1.Symbols.map Symbol.D)),.d m2 (.sl 6 (a1.Rules.map Rule.D))],.box [dS a2.Name,dS a2.Left,.d m2 (.sl 1 (a2.Right.map A.D.s)),dB a2.Literal,.d m2 (.sl 9 (a2.Equations.map Eqn.D)),.d m2 (.sl 16 (a2.Contributions.map Cn.D))]] (dB r) [.box [.d m2 (.sl 2 (a1.Symbols.map Symbol.D)),.d m2 (.sl 6 (a1.Rules.map Rule.D))],.box [dS a2.Name,dS a2.Left,.d m2 (.sl 1 (a2.Right.map A.D.s)),dB a2.Literal,.d m2 (.sl 9 (a2.Equations.map Eqn.D)),.d m2 (.sl 16 (a2.Contributions.map Cn.D))]]:=by
 refine OE Tryz.func240 fun S hS=>?_
 unfold z1u at hr
 refine J g<|J (BX' 2)<|bdE hr fun y1 hy1 hr=>J g<|J (CB' [(0,3)] [] (z3J (m:=m) hy1))<|bdE hr fun y2 hy2 hr=>J g<|J (CB' [(0,0),(1,1),(2,3)] [] (q7B (m2:=m2) hy2))<|e
theorem q9C {m2:Md}{a0:(List Expr)}{a1_0:Gm_}{a1_1:Rule}{r:Int}(hr:q4Z a0 a1_0 a1_1=some r):Ok Tryz.prog 274 [.ref 2 none,.fn 240 [.pb 0 0,.pb 1 0]] [.box [.d m2 (.sl 2 (a1_0.Symbols.map Symbol.D)),.d m2 (.sl 6 (a1_0.Rules.map Rule.D))],.box [dS a1_1.Name,dS a1_1.Left,.d m2 (.sl 1 (a1_1.Right.map A.D.s)),dB a1_1.Literal,.d m2 (.sl 9 (a1_1.Equations.map Eqn.D)),.d m2 (.sl 16 (a1_1.Contributions.map Cn.D))],.row m2 7 (a0.map Expr.D)] (dI r) [.box [.d m2 (.sl 2 (a1_0.Symbols.map Symbol.D)),.d m2 (.sl 6 (a1_0.Rules.map Rule.D))],.box [dS a1_1.Name,dS a1_1.Left,.d m2 (.sl 1 (a1_1.Right.map A.D.s)),dB a1_1.Literal,.d m2 (.sl 9 (a1_1.Equations.map Eqn.D)),.d m2 (.sl 16 (a1_1.Contributions.map Cn.D))],.row m2 7 (a0.map Expr.D)]:=by
 refine OE Tryz.func274 fun S hS=>?_
 unfold q4Z at hr
 refine J (gn 12)<|J (lenR 2)<|fun hl1=>bdE hr fun q1 hqq1 hr=>q0b hqq1 hl1 3 (fun k1 _=>[(0,.ref 2 none),(1,.fn 240 [.pb 0 0,.pb 1 0]),(7,dI (a0.length:Int)),(8,dI (k1:Int))]) (fun k1 _=>[]) I (fun k1 xk1 sk1 ok1 hxk1 hr hltk1 hik1=>?_) fun k1 sk1 ek1 hltk1=>?_
 refine J g<|J (k5E hxk1 (Expr.D_cells xk1))<|bdE hr fun y1 hy1 hr=>J (CB' [(0,0),(1,1)] [] (j2Y (m:=m2) (m2:=m2) hy1))<|J (gn 1)<|ifE hr ?_ ?_<;>intro h1 hr
 exact e
 exact e
 subst ek1
 exact e
theorem q8X {m2:Md}{a0:(List Expr)}{a1_0:Gm_}{a1_1:Rule}{r:Bool}(hr:q4Q a0 a1_0 a1_1=some r):Ok Tryz.prog 238 [.ref 2 none,.fn 240 [.pb 0 0,.pb 1 0]] [.box [.d m2 (.sl 2 (a1_0.Symbols.map Symbol.D)),.d m2 (.sl 6 (a1_0.Rules.map Rule.D))],.box [dS a1_1.Name,dS a1_1.Left,.d m2 (.sl 1 (a1_1.Right.map A.D.s)),dB a1_1.Literal,.d m2 (.sl 9 (a1_1.Equations.map Eqn.D)),.d m2 (.sl 16 (a1_1.Contributions.map Cn.D))],.row m2 7 (a0.map Expr.D)] (dB r) [.box [.d m2 (.sl 2 (a1_0.Symbols.map Symbol.D)),.d m2 (.sl 6 (a1_0.Rules.map Rule.D))],.box [dS a1_1.Name,dS a1_1.Left,.d m2 (.sl 1 (a1_1.Right.map A.D.s)),dB a1_1.Literal,.d m2 (.sl 9 (a1_1.Equations.map Eqn.D)),.d m2 (.sl 16 (a1_1.Contributions.map Cn.D))],.row m2 7 (a0.map Expr.D)]:=by
 refine OE Tryz.func238 fun S hS=>?_
 unfold q4Q at hr
 refine bdE hr fun y1 hy1 hr=>J g<|J (CB' [(0,0),(1,1),(2,2)] [] (q9C (m2:=m2) hy1))<|e
theorem j5Z {m:Md}{a0:Gm_}{a1:Rule}{r:Bool}(hr:z3x a0 a1=some r):Ok Tryz.prog 190 [Gm_.x m a0,Rule.x m a1] [] (dB r) []:=by
 refine OE Tryz.func190 fun S hS=>?_
 unfold z3x at hr
 refine J g<|J (BX' 0)<|J (BX' 1)<|bdE hr fun y1 hy1 hr=>J g<|J (CB' [(0,2)] [] (j0v (m:=m) hy1))<|bdE hr fun y2 hy2 hr=>J g<|J (CB' [(0,0),(1,1),(2,2)] [] (q8X (m2:=m) hy2))<|e
theorem j1u {m:Md}{a0:Gm_}{r:(Int×Int)}(hr:z0b a0=some r):Ok Tryz.prog 140 [Gm_.x m a0] [] (.tu [dI r.1,dI r.2]) []:=by
 refine OE Tryz.func140 fun S hS=>?_
 unfold z0b at hr
 refine J g<|J (BX' 0)<|bdE hr fun y1 hy1 hr=>J g<|J (CB' [] [] (q4y hy1))<|J (gn 1)<|ifE hr ?_ ?_<;>intro h1 hr
 refine bdE hr fun y2 hy2 hr=>J g<|J (CB' [] [] (q4y hy2))<|J (gn 3)<|ifE hr ?_ ?_<;>intro h2 hr
 refine bdE hr fun y3 hy3 hr=>J g<|J (CB' [] [] (j1t (m:=m) hy3))<|J (gn 7)<|ifE hr ?_ ?_<;>intro h3 hr
 exact e
 refine bdE hr fun x1 hx1 hr=>bdE hr fun y4 hy4 hr=>J g<|J (CB' [] [] (q7A (m:=m) hy4))<|J (gn 1)<|ifE hr ?_ ?_<;>intro h4 hr
 exact e
 refine bdE hr fun q1 hqq1 hr=>J (gn 7)<|AW.cut 1 (fun _=>[]) (fun _=>[]) (M:=fun x=>q1=.inl x) ?_ fun x hx=>?_
 refine J g<|q0h hqq1 1 (fun s1=>[(1,.pb 0 0),(5,dI s1)]) (fun s1=>[]) I fun sk1 ok1 hr hik1=>?_
 obtain⟨s1,rfl⟩:∃ y,y=sk1:=⟨_,rfl⟩
 have hr:=hr
 refine J (gn 6)<|ifE hr ?_ ?_<;>intro h5 hr
 refine J (gn 12)<|J (lenT 37)<|fun hl2=>bdE hr fun q2 hqq2 hr=>q0b hqq2 hl2 1 (fun k2 _=>[(1,.pb 0 0),(5,dI s1),(37,.d m (.sl 6 (a0.Rules.map Rule.D))),(38,dI (a0.Rules.length:Int)),(39,dI (k2:Int))]) (fun k2 _=>[]) I (fun k2 xk2 sk2 ok2 hxk2 hr hltk2 hik2=>?_) fun k2 sk2 ek2 hltk2=>?_
 refine J g<|J (NV' 1)<|J (gn 18)<|ifE hr ?_ ?_<;>intro h6 hr
 refine bdE hr fun y5 hy5 hr=>J g<|J (CB' [] [] (j5W (m:=m) hy5))<|J (gn 6)<|ifE hr ?_ ?_<;>intro h7 hr
 exact e
 exact e
 refine J (gn 6)<|ifE hr ?_ ?_<;>intro h8 hr
 refine bdE hr fun y6 hy6 hr=>J g<|J (CB' [] [] (j5X (m:=m) hy6))<|J (gn 6)<|ifE hr ?_ ?_<;>intro h9 hr
 exact e
 exact e
 refine J (gn 6)<|ifE hr ?_ ?_<;>intro h10 hr
 refine bdE hr fun y7 hy7 hr=>J g<|J (CB' [] [] (j9L (m:=m) hy7))<|J (gn 6)<|ifE hr ?_ ?_<;>intro h11 hr
 exact e
 exact e
 refine bdE hr fun y8 hy8 hr=>J g<|J (CB' [] [] (j5Z (m:=m) hy8))<|J (gn 6)<|ifE hr ?_ ?_<;>intro h12 hr
 exact e
 exact e
 subst ek2
 refine ggE hr fun g1 hr=>e
 refine J (gn 2) ?_
 cases hr
 cases hik1 _ rfl
 exact⟨_,rfl,q0g hS 1⟩
 subst hx
 exact e
 exact e
 exact e
theorem z9a {a0:Int}{r:(Int×Int×Int)}(hr:q8H a0=some r):Ok Tryz.prog 243 [dI a0] [] (.tu [dI r.1,dI r.2.1,dI r.2.2]) []:=by
 refine OE Tryz.func243 fun S hS=>?_
 unfold q8H at hr
 refine bdE hr fun s1 hqq1 hr=>J (gn 18)<|q0e 0 [(5,dI a0),(6,dB s1)] [] ?_ ?_
 replace hr:=hqq1
 refine ifE hr ?_ ?_<;>intro h1 hr
 exact e
 refine J (gn 6)<|ifE hr ?_ ?_<;>intro h2 hr
 exact e
 refine J (gn 6)<|ifE hr ?_ ?_<;>intro h3 hr
 exact e
 refine J (gn 6)<|ifE hr ?_ ?_<;>intro h4 hr
 exact e
 exact e
 refine ifE hr ?_ ?_<;>intro h5 hr
 exact e
 refine bdE hr fun s2 hqq2 hr=>J (gn 7)<|q0e 0 [(5,dI a0),(12,dB s2)] [] ?_ ?_
 replace hr:=hqq2
 refine ifE hr ?_ ?_<;>intro h6 hr
 exact e
 refine J (gn 6)<|ifE hr ?_ ?_<;>intro h7 hr
 exact e
 exact e
 refine ifE hr ?_ ?_<;>intro h8 hr
 exact e
 refine J (gn 7)<|ifE hr ?_ ?_<;>intro h9 hr
 refine J (gn 2)<|ifE hr ?_ ?_<;>intro h10 hr
 exact e
 refine J (gn 6)<|ifE hr ?_ ?_<;>intro h11 hr
 exact e
 refine J (gn 6)<|ifE hr ?_ ?_<;>intro h12 hr
 exact e
 exact e
 refine J (gn 5)<|ifE hr ?_ ?_<;>intro h13 hr
 exact e
 refine J (gn 6)<|ifE hr ?_ ?_<;>intro h14 hr
 exact e
 refine J (gn 6)<|ifE hr ?_ ?_<;>intro h15 hr
 exact e
 exact e
theorem j0x {Rc11:Gm_→Rule→Expr→Option Int}(Ic11:∀ {m:Md} {a0:Gm_} {a1:Rule} {a2:Expr} {r:Int},Rc11 a0 a1 a2=some r→Ok Tryz.prog 192 [Gm_.y m a0,Rule.x m a1,Expr.x m a2] [] (dI r) []){m:Md}{a0:Gm_}{a1:Rule}{a2:Expr}{r:Int}(hr:z0c Rc11 a0 a1 a2=some r):Ok Tryz.prog 192 [Gm_.y m a0,Rule.x m a1,Expr.x m a2] [] (dI r) []:=by
 refine OE Tryz.func192 fun S hS=>?_
 unfold z0c at hr
 refine J g<|J (BX' 0)<|J (BX' 1)<|J (BX' 2)<|J g<|J (L0' 3 (A.D.i .i64))<|J (gn 11)<|J (lenA 6 2)<|fun hl1=>bdE hr fun s1 hqq1 hr=>q0d hqq1 hl1 4 (fun k1 s1=>[(3,.pb 0 0),(4,.pb 1 0),(5,.pb 2 0),(7,.ref 3 none),(21,.d m (.sl 7 (a2.Args.map Expr.D))),(22,dI (a2.Args.length:Int)),(23,dI (k1:Int))]) (fun k1 s1=>[(3,.row .fz 1 (s1.map (A.D.i .i64)))]) I (fun k1 xk1 sk1 ok1 hxk1 hr hltk1=>?_) fun k1 hltk1=>?_
 obtain⟨s1,rfl⟩:∃ y,y=sk1:=⟨_,rfl⟩
 refine J g<|J (NV' 4)<|bdE hr fun y1 hy1 hr=>J g<|J (CB' [] [] (Ic11 (m:=m) hy1))<|J (LIR' 5 (m:=.fz) (f:=(A.D.i .i64)) (xs:=([y1]:List Int)))<|ggE hr fun g1 hr=>J (z0F (f:=(A.D.i .i64)) 6 (fun _=>rfl) 8 g1)<|e
 refine J (gn 16)<|ifE hr ?_ ?_<;>intro h1 hr
 exact e
 refine bdE hr fun s2 hqq2 hr=>J (gn 6)<|q0a 4 [(3,.pb 0 0),(4,.pb 1 0),(5,.pb 2 0),(7,.ref 3 none),(48,dB s2)] ?_ ?_
 replace hr:=hqq2
 refine ifE hr ?_ ?_<;>intro h2 hr
 exact e
 exact e
 refine J (gn 2)<|ifE hr ?_ ?_<;>intro h3 hr
 exact e
 refine J (gn 8)<|ifE hr ?_ ?_<;>intro h4 hr
 refine bdP hr fun y2 y3 hq3 hr=>J g<|J (CB' [] [] (z2v (m:=m) hq3))<|J g<|J (NV' 4)<|e
 refine bdE hr fun s3 hqq4 hr=>J (gn 6)<|q0a 5 [(3,.pb 0 0),(4,.pb 1 0),(5,.pb 2 0),(7,.ref 3 none),(74,dB s3)] ?_ ?_
 replace hr:=hqq4
 refine ifE hr ?_ ?_<;>intro h5 hr
 exact e
 exact e
 refine J (gn 2)<|ifE hr ?_ ?_<;>intro h6 hr
 refine bdT hr fun y4 y5 y6 hq5 hr=>J g<|J (CB' [] [] (z9a hq5))<|bdE hr fun x1 hx1 hr=>bdE hr fun s4 hqq6 hr=>J (gn 15)<|q0a 7 [(14,dI y6),(93,dB s4)] ?_ ?_
 replace hr:=hqq6
 refine ifE hr ?_ ?_<;>intro h7 hr
 refine bdE hr fun x2 hx2 hr=>e
 exact e
 refine J (gn 1)<|ifE hr ?_ ?_<;>intro h8 hr
 exact e
 exact e
 refine bdE hr fun s5 hqq7 hr=>J (gn 6)<|q0a 5 [(3,.pb 0 0),(4,.pb 1 0),(5,.pb 2 0),(7,.ref 3 none),(103,dB s5)] ?_ ?_
 replace hr:=hqq7
 refine ifE hr ?_ ?_<;>intro h9 hr
 exact e
 exact e
 refine J (gn 2)<|ifE hr ?_ ?_<;>intro h10 hr
 refine bdE hr fun x3 hx3 hr=>J (gn 7)<|ifE hr ?_ ?_<;>intro h11 hr
 refine bdE hr fun x4 hx4 hr=>bdE hr fun x5 hx5 hr=>J (gn 10)<|ifE hr ?_ ?_<;>intro h12 hr
 exact e
 exact e
 exact e
 refine bdE hr fun s6 hqq8 hr=>J (gn 7)<|q0a 8 [(3,.pb 0 0),(5,.pb 2 0),(7,.ref 3 none),(131,dB s6)] ?_ ?_
 replace hr:=hqq8
 refine ifE hr ?_ ?_<;>intro h13 hr
 refine bdE hr fun y7 hy7 hr=>J g<|J (CB' [] [] (q4y hy7))<|e
 exact e
 refine bdE hr fun s7 hqq9 hr=>J (gn 2)<|q0e 4 [(3,.pb 0 0),(5,.pb 2 0),(7,.ref 3 none),(120,dB s7)] [] ?_ ?_
 replace hr:=hqq9
 refine ifE hr ?_ ?_<;>intro h14 hr
 exact e
 exact e
 refine ifE hr ?_ ?_<;>intro h15 hr
 exact e
 refine bdE hr fun s8 hqq10 hr=>J (gn 6)<|q0a 5 [(3,.pb 0 0),(5,.pb 2 0),(7,.ref 3 none),(143,dB s8)] ?_ ?_
 replace hr:=hqq10
 refine ifE hr ?_ ?_<;>intro h16 hr
 exact e
 exact e
 refine bdE hr fun s9 hqq11 hr=>q0a 6 [(3,.pb 0 0),(5,.pb 2 0),(149,dB s9)] ?_ ?_
 replace hr:=hqq11
 refine ifE hr ?_ ?_<;>intro h17 hr
 refine bdE hr fun x6 hx6 hr=>e
 exact e
 refine J (gn 2)<|ifE hr ?_ ?_<;>intro h18 hr
 refine bdP hr fun y8 y9 hq12 hr=>J g<|J (CB' [] [] (q8s (m:=m) hq12))<|J g<|J (NV' 4)<|bdP hr fun y10 y11 hq13 hr=>J g<|J (CB' [] [] (z0Y (m:=m) hq13))<|J g<|J (NV' 5)<|e
 exact e
theorem j0y (n:Nat):∀ {m:Md} {a0:Gm_} {a1:Rule} {a2:Expr} {r:Int},q7X n a0 a1 a2=some r→Ok Tryz.prog 192 [Gm_.y m a0,Rule.x m a1,Expr.x m a2] [] (dI r) []:=by
  induction n with
  | zero=>intro _ _ _ _ r hr;exact nomatch (show (none:Option Int)=some r from hr)
  | succ n ih=>intro _ _ _ _ r hr;exact j0x ih hr
theorem z3g {m:Md}{a0:Gm_}{a1:Rule}{a2:Expr}{r:Int}(hr:z0d a0 a1 a2=some r):Ok Tryz.prog 192 [Gm_.y m a0,Rule.x m a1,Expr.x m a2] [] (dI r) []:=by
 obtain⟨n,hn⟩:=q6x hr
 exact j0y n hn
theorem j4D {m:Md}{a0:Gm_}{a1:Rule}{r:Bool}(hr:z2l a0 a1=some r):Ok Tryz.prog 141 [Gm_.y m a0,Rule.x m a1] [] (dB r) []:=by
 refine OE Tryz.func141 fun S hS=>?_
 unfold z2l at hr
 refine J g<|J (BX' 0)<|J (BX' 1)<|J (gn 11)<|J (lenA 4 1)<|fun hl1=>bdE hr fun q1 hqq1 hr=>q0b hqq1 hl1 2 (fun k1 _=>[(2,.pb 0 0),(3,.pb 1 0),(16,.d m (.sl 9 (a1.Equations.map Eqn.D))),(17,dI (a1.Equations.length:Int)),(18,dI (k1:Int))]) (fun k1 _=>[]) I (fun k1 xk1 sk1 ok1 hxk1 hr hltk1 hik1=>?_) fun k1 sk1 ek1 hltk1=>?_
 refine J g<|J (NV' 2)<|bdP hr fun y1 y2 hq2 hr=>J g<|J (CB' [] [] (z2v (m:=m) hq2))<|J g<|J (NV' 3)<|bdE hr fun y3 hy3 hr=>J g<|J (CB' [] [] (z3g (m:=m) hy3))<|J (gn 4)<|ifE hr ?_ ?_<;>intro h1 hr
 exact e
 exact e
 subst ek1
 refine J (gn 16)<|J (lenT 40)<|fun hl2=>bdE hr fun q3 hqq3 hr=>q0b hqq3 hl2 2 (fun k2 _=>[(2,.pb 0 0),(3,.pb 1 0),(40,.d m (.sl 16 (a1.Contributions.map Cn.D))),(41,dI (a1.Contributions.length:Int)),(42,dI (k2:Int))]) (fun k2 _=>[]) I (fun k2 xk2 sk2 ok2 hxk2 hr hltk2 hik2=>?_) fun k2 sk2 ek2 hltk2=>?_
 refine J g<|J (NV' 2)<|bdP hr fun y4 y5 hq4 hr=>J g<|J (CB' [] [] (q8s (m:=m) hq4))<|J g<|J (NV' 3)<|bdP hr fun y6 y7 hq5 hr=>J g<|J (CB' [] [] (z0Y (m:=m) hq5))<|J g<|J (NV' 4)<|bdE hr fun y8 hy8 hr=>J g<|J (CB' [] [] (z3g (m:=m) hy8))<|bdE hr fun s1 hqq6 hr=>J (gn 1)<|q0a 8 [(2,.pb 0 0),(3,.pb 1 0),(13,.pb 4 0),(40,.d m (.sl 16 (a1.Contributions.map Cn.D))),(41,dI (a1.Contributions.length:Int)),(42,dI (k2:Int)),(73,dB s1)] ?_ ?_
 replace hr:=hqq6
 refine ifE hr ?_ ?_<;>intro h2 hr
 refine bdE hr fun y9 hy9 hr=>J g<|J (CB' [] [] (z3g (m:=m) hy9))<|e
 exact e
 refine bdE hr fun s2 hqq7 hr=>q0a 5 [(2,.pb 0 0),(3,.pb 1 0),(40,.d m (.sl 16 (a1.Contributions.map Cn.D))),(41,dI (a1.Contributions.length:Int)),(42,dI (k2:Int)),(78,dB s2)] ?_ ?_
 replace hr:=hqq7
 refine ifE hr ?_ ?_<;>intro h3 hr
 exact e
 exact e
 refine J (gn 1)<|ifE hr ?_ ?_<;>intro h4 hr
 exact e
 exact e
 subst ek2
 exact e
theorem j2Z {m2:Md}{a0:ByteArray}{a1:Gm_}{a2:(List Int)}{r:Int}(hr:z1v a0 a1 a2=some r):Ok Tryz.prog 194 [dS a0,.pb 0 0,.pb 1 0] [.box [.d m2 (.sl 2 (a1.Symbols.map Symbol.D)),.d m2 (.sl 6 (a1.Rules.map Rule.D))],.box [.ref 2 none],.row .fz 1 (a2.map (A.D.i .i64))] (dI r) [.box [.d m2 (.sl 2 (a1.Symbols.map Symbol.D)),.d m2 (.sl 6 (a1.Rules.map Rule.D))],.box [.ref 2 none],.row .fz 1 (a2.map (A.D.i .i64))]:=by
 refine OE Tryz.func194 fun S hS=>?_
 unfold z1v at hr
 refine J (gn 13)<|J (lenT 8)<|fun hl1=>bdE hr fun q1 hqq1 hr=>q0b hqq1 hl1 3 (fun k1 _=>[(0,dS a0),(2,.pb 1 0),(8,.d m2 (.sl 2 (a1.Symbols.map Symbol.D))),(9,dI (a1.Symbols.length:Int)),(10,dI (k1:Int))]) (fun k1 _=>[]) I (fun k1 xk1 sk1 ok1 hxk1 hr hltk1 hik1=>?_) fun k1 sk1 ek1 hltk1=>?_
 refine J g<|J (NV' 3)<|J (gn 10)<|ifE hr ?_ ?_<;>intro h1 hr
 refine bdE hr fun x1 hx1 hr=>e
 exact e
 subst ek1
 exact e
theorem j6a {m:Md}{a0:Gm_}{r:(List Int)}(hr:z1U a0=some r):Ok Tryz.prog 142 [Gm_.x m a0] [] (.ref 0 none) [.row .fz 1 (r.map (A.D.i .i64))]:=by
 refine OE Tryz.func142 fun S hS=>?_
 unfold z1U at hr
 refine J g<|J (BX' 0)<|ggE hr fun g1 hr=>J g<|J (MKR' 1 (f:=(A.D.i .i64)) (0:Int) g1.1 g1.2.1 g1.2.2)<|J (NV' 2)<|bdE hr fun s1 hqq1 hr=>J (gn 12)<|q0e 3 [(3,.pb 2 0)] [(1,.row .fz 1 (s1.map (A.D.i .i64)))] ?_ ?_
 refine J g<|q0h hqq1 3 (fun (s3,s2)=>[(1,.pb 0 0),(3,.pb 2 0),(4,.fn 194 [.pb 0 0,.pb 2 0]),(5,dI s3)]) (fun (s3,s2)=>[(1,.row .fz 1 (s2.map (A.D.i .i64)))]) I fun sk1 ok1 hr hik1=>?_
 obtain⟨s3,s2⟩:=sk1
 have hr:=hr
 refine J (gn 9)<|ifE hr ?_ ?_<;>intro h1 hr
 refine ggE hr fun g2 hr=>J g<|J (MKR' 3 (f:=(A.D.i .i64)) (0:Int) g2.1 g2.2.1 g2.2.2)<|ggE hr fun g3 hr=>J g<|J (k5F g3)<|J (gn 10)<|J (lenT 21)<|fun hl2=>bdE hr fun s4 hqq2 hr=>q0d hqq2 hl2 4 (fun k2 s4=>[(1,.pb 0 0),(3,.pb 2 0),(4,.fn 194 [.pb 0 0,.pb 2 0]),(5,dI s3),(6,.ref 3 none),(33,.d m (.sl 2 (a0.Symbols.map Symbol.D))),(34,dI (a0.Symbols.length:Int)),(35,dI (k2:Int))]) (fun k2 s4=>[(3,.row .fz 1 (s4.map (A.D.i .i64)))]) I (fun k2 xk2 sk2 ok2 hxk2 hr hltk2=>?_) fun k2 hltk2=>?_
 obtain⟨s4,rfl⟩:∃ y,y=sk2:=⟨_,rfl⟩
 refine bdE hr fun s5 hqq3 hr=>J (gn 8)<|q0e 4 [(1,.pb 0 0),(3,.pb 2 0),(4,.fn 194 [.pb 0 0,.pb 2 0]),(5,dI s3),(6,.ref 3 none),(33,.d m (.sl 2 (a0.Symbols.map Symbol.D))),(34,dI (a0.Symbols.length:Int)),(35,dI (k2:Int))] [(3,.row .fz 1 (s5.map (A.D.i .i64)))] ?_ ?_
 replace hr:=hqq3
 refine J g<|J (NV' 4)<|bdE hr fun x1 hx1 hr=>J (gn 12)<|ifE hr ?_ ?_<;>intro h2 hr
 exact e
 refine J (gn 10)<|J (lenT 46)<|fun hl3=>bdE hr fun s6 hqq4 hr=>q0d hqq4 hl3 5 (fun k3 s6=>[(1,.pb 0 0),(3,.pb 2 0),(4,.fn 194 [.pb 0 0,.pb 2 0]),(5,dI s3),(6,.ref 3 none),(7,dI (k2:Int)),(8,.pb 4 0),(33,.d m (.sl 2 (a0.Symbols.map Symbol.D))),(34,dI (a0.Symbols.length:Int)),(35,dI (k2:Int)),(46,.d m (.sl 6 (a0.Rules.map Rule.D))),(47,dI (a0.Rules.length:Int)),(48,dI (k3:Int))]) (fun k3 s6=>[(3,.row .fz 1 (s6.map (A.D.i .i64)))]) I (fun k3 xk3 sk3 ok3 hxk3 hr hltk3=>?_) fun k3 hltk3=>?_
 obtain⟨s6,rfl⟩:∃ y,y=sk3:=⟨_,rfl⟩
 refine bdE hr fun s7 hqq5 hr=>J (gn 8)<|q0e 5 [(1,.pb 0 0),(3,.pb 2 0),(4,.fn 194 [.pb 0 0,.pb 2 0]),(5,dI s3),(6,.ref 3 none),(7,dI (k2:Int)),(8,.pb 4 0),(33,.d m (.sl 2 (a0.Symbols.map Symbol.D))),(34,dI (a0.Symbols.length:Int)),(35,dI (k2:Int)),(46,.d m (.sl 6 (a0.Rules.map Rule.D))),(47,dI (a0.Rules.length:Int)),(48,dI (k3:Int))] [(3,.row .fz 1 (s7.map (A.D.i .i64)))] ?_ ?_
 replace hr:=hqq5
 refine J g<|J (NV' 5)<|J (gn 20)<|J (lenA 2 51)<|fun hl4=>bdE hr fun s8 hqq6 hr=>q0d hqq6 hl4 6 (fun k4 s8=>[(1,.pb 0 0),(3,.pb 2 0),(4,.fn 194 [.pb 0 0,.pb 2 0]),(5,dI s3),(6,.ref 3 none),(7,dI (k2:Int)),(8,.pb 4 0),(11,dB s8),(33,.d m (.sl 2 (a0.Symbols.map Symbol.D))),(34,dI (a0.Symbols.length:Int)),(35,dI (k2:Int)),(46,.d m (.sl 6 (a0.Rules.map Rule.D))),(47,dI (a0.Rules.length:Int)),(48,dI (k3:Int)),(58,.d m (.sl 1 (xk3.Right.map A.D.s))),(59,dI (xk3.Right.length:Int)),(60,dI (k4:Int))]) (fun k4 s8=>[]) I (fun k4 xk4 sk4 ok4 hxk4 hr hltk4=>?_) fun k4 hltk4=>?_
 obtain⟨s8,rfl⟩:∃ y,y=sk4:=⟨_,rfl⟩
 refine bdE hr fun s9 hqq7 hr=>J (gn 8)<|q0e 6 [(1,.pb 0 0),(3,.pb 2 0),(4,.fn 194 [.pb 0 0,.pb 2 0]),(5,dI s3),(6,.ref 3 none),(7,dI (k2:Int)),(8,.pb 4 0),(11,dB s9),(33,.d m (.sl 2 (a0.Symbols.map Symbol.D))),(34,dI (a0.Symbols.length:Int)),(35,dI (k2:Int)),(46,.d m (.sl 6 (a0.Rules.map Rule.D))),(47,dI (a0.Rules.length:Int)),(48,dI (k3:Int)),(58,.d m (.sl 1 (xk3.Right.map A.D.s))),(59,dI (xk3.Right.length:Int)),(60,dI (k4:Int))] [] ?_ ?_
 replace hr:=hqq7
 refine J (gn 9)<|ifE hr ?_ ?_<;>intro h3 hr
 refine bdE hr fun y1 hy1 hr=>J g<|J (CB' [(0,0),(1,2),(2,1)] [] (j2Z (m2:=m) hy1))<|e
 exact e
 exact e
 refine J (gn 11)<|ifE hr ?_ ?_<;>intro h4 hr
 refine bdE hr fun x2 hx2 hr=>J g<|J (SE' s3 hx2)<|e
 exact e
 exact e
 exact e
 exact e
 refine ggE hr fun g4 hr=>e
 refine J (gn 2) ?_
 cases hr
 cases hik1 _ rfl
 exact q0g hS 3
 exact e
theorem z9b {m:Md}{a0:Gm_}{r:(Int×Int)}(hr:q8I a0=some r):Ok Tryz.prog 79 [Gm_.x m a0] [] (.tu [dI r.1,dI r.2]) []:=by
 refine OE Tryz.func79 fun S hS=>?_
 unfold q8I at hr
 refine J g<|J (BX' 0)<|bdP hr fun y1 y2 hq1 hr=>J g<|J (CB' [] [] (j1u (m:=m) hq1))<|J (gn 11)<|ifE hr ?_ ?_<;>intro h1 hr
 refine J (gn 11)<|J (lenA 1 0)<|fun hl1=>bdE hr fun q2 hqq2 hr=>q0b hqq2 hl1 1 (fun k1 _=>[(1,.pb 0 0),(20,.d m (.sl 6 (a0.Rules.map Rule.D))),(21,dI (a0.Rules.length:Int)),(22,dI (k1:Int))]) (fun k1 _=>[]) I (fun k1 xk1 sk1 ok1 hxk1 hr hltk1 hik1=>?_) fun k1 sk1 ek1 hltk1=>?_
 refine J g<|J (NV' 1)<|bdE hr fun y3 hy3 hr=>J g<|J (CB' [] [] (j4D (m:=m) hy3))<|J (gn 1)<|ifE hr ?_ ?_<;>intro h2 hr
 exact e
 exact e
 subst ek1
 refine bdE hr fun y4 hy4 hr=>J g<|J (CB' [(0,1)] [] (j6a (m:=m) hy4))<|J (gn 4)<|J (lenR 1)<|fun hl2=>bdE hr fun q3 hqq3 hr=>q0b hqq3 hl2 2 (fun k2 _=>[(33,.ref 1 none),(34,dI (y4.length:Int)),(35,dI (k2:Int))]) (fun k2 _=>[]) I (fun k2 xk2 sk2 ok2 hxk2 hr hltk2 hik2=>?_) fun k2 sk2 ek2 hltk2=>?_
 refine J (gn 22)<|ifE hr ?_ ?_<;>intro h3 hr
 exact e
 exact e
 subst ek2
 exact e
 exact e
theorem z8F {m:Md}{a0:Gm_}{r:Bool}(hr:z0K a0=some r):Ok Tryz.prog 33 [Gm_.x m a0] [] (dB r) []:=by
 refine OE Tryz.func33 fun S hS=>?_
 unfold z0K at hr
 refine J g<|J (BX' 0)<|bdP hr fun y1 y2 hq1 hr=>J g<|J (CB' [] [] (z9b (m:=m) hq1))<|e
theorem q8d {m:Md}{a0:Gm_}{a1:ByteArray}{r:(List At_)}(hr:q4v a0 a1=some r):Ok Tryz.prog 91 [Gm_.y m a0,dS a1] [] (.ref 0 none) [.row .fz 4 (r.map At_.D)]:=by
 refine OE Tryz.func91 fun S hS=>?_
 unfold q4v at hr
 refine J g<|J (BX' 0)<|J g<|J (L0' 1 At_.D)<|bdP hr fun y1 y2 hq1 hr=>J g<|J (CB' [] [] (q8s (m:=m) hq1))<|J g<|J (NV' 2)<|J (gn 12) ?_
 refine AW.len (.ag 1 (.tu 0 (.tmp 11 rfl) rfl) rfl) fun hl1=>?_
 refine bdE hr fun s1 hqq2 hr=>q0d hqq2 hl1 3 (fun k1 s1=>[(5,.ref 1 none),(18,.d m (.sl 4 (y1.Attributes.map At_.D))),(19,dI (y1.Attributes.length:Int)),(20,dI (k1:Int))]) (fun k1 s1=>[(1,.row .fz 4 (s1.map At_.D))]) I (fun k1 xk1 sk1 ok1 hxk1 hr hltk1=>?_) fun k1 hltk1=>?_
 obtain⟨s1,rfl⟩:∃ y,y=sk1:=⟨_,rfl⟩
 refine bdE hr fun s2 hqq3 hr=>J (gn 8)<|q0e 3 [(5,.ref 1 none),(18,.d m (.sl 4 (y1.Attributes.map At_.D))),(19,dI (y1.Attributes.length:Int)),(20,dI (k1:Int))] [(1,.row .fz 4 (s2.map At_.D))] ?_ ?_
 replace hr:=hqq3
 refine J g<|J (NV' 3)<|J (gn 7)<|ifE hr ?_ ?_<;>intro h1 hr
 refine J g<|J (LIR' 4 (m:=.fz) (f:=At_.D) (xs:=[xk1]))<|ggE hr fun g1 hr=>J (z0F (f:=At_.D) 5 (fun _=>rfl) 40 g1)<|e
 refine J (gn 6)<|ifE hr ?_ ?_<;>intro h2 hr
 refine J g<|J (LIR' 4 (m:=.fz) (f:=At_.D) (xs:=[xk1]))<|ggE hr fun g2 hr=>J (z0F (f:=At_.D) 5 (fun _=>rfl) 40 g2)<|e
 exact e
 exact e
 exact e
theorem z0Z {a0:Int}{r:Rl_}(hr:q6t a0=some r):Ok Tryz.prog 90 [dI a0] [] (.ag [dI r.N,.ref 0 none]) [.row .fz 1 (r.Rows.map (A.D.i .i64))]:=by
 refine OE Tryz.func90 fun S hS=>?_
 unfold q6t at hr
 refine J g<|J (NV' 0)<|bdE hr fun y1 hy1 hr=>J g<|J (CB' [] [] (q4y hy1))<|J (gn 2)<|ifE hr ?_ ?_<;>intro h1 hr
 refine ggE hr fun g1 hr=>J g<|J (MKR' 1 (f:=(A.D.i .i64)) (0:Int) g1.1 g1.2.1 g1.2.2)<|e
 refine J (gn 7) ?_
 refine J (q0c (q0j (q:=0) (c:=1) (r:=1) .fz 1 rfl rfl rfl))<|J g<|E
theorem z7s {m:Md}{a0:Gm_}{r:(List Rl_)}(hr:q7G a0=some r):Ok Tryz.prog 39 [Gm_.y m a0] [] (.ref 0 none) [.row .fz 2 (r.map Rl_.D)]:=by
 refine OE Tryz.func39 fun S hS=>?_
 unfold q7G at hr
 refine J g<|J (BX' 0)<|J g<|J (L0' 1 Rl_.D)<|J (gn 11)<|J (lenA 0 0)<|fun hl1=>bdE hr fun s1 hqq1 hr=>q0d hqq1 hl1 2 (fun k1 s1=>[(1,.pb 0 0),(3,.ref 1 none),(8,.d m (.sl 2 (a0.Symbols.map Symbol.D))),(9,dI (a0.Symbols.length:Int)),(10,dI (k1:Int))]) (fun k1 s1=>[(1,.row .fz 2 (s1.map Rl_.D))]) I (fun k1 xk1 sk1 ok1 hxk1 hr hltk1=>?_) fun k1 hltk1=>?_
 obtain⟨s1,rfl⟩:∃ y,y=sk1:=⟨_,rfl⟩
 refine J g<|J (NV' 2)<|bdE hr fun y1 hy1 hr=>J g<|J (CB' [(0,3)] [] (q8d (m:=m) hy1))<|bdE hr fun y2 hy2 hr=>J g<|J (CB' [(0,4)] [] (z0Z hy2)) ?_
 refine J (q0m 4 rfl)<|J (LIR' 5 (m:=.fz) (f:=Rl_.D) (xs:=[y2]))<|ggE hr fun g1 hr=>J (AP1' 6 .fz 32 g1)<|J g<|E
 exact e
theorem z7Y {m:Md}{a0:Symbol}{a1:ByteArray}{r:Bool}(hr:q9t a0 a1=some r):Ok Tryz.prog 93 [Symbol.x m a0,.pb 0 0] [.box [dS a1]] (dB r) [.box [dS a1]]:=by
 refine OE Tryz.func93 fun S hS=>?_
 unfold q9t at hr
 refine J g<|J (BX' 1)<|e
theorem q8w {m:Md}{a0:(List Symbol)}{a1_0:ByteArray}{r:Int}(hr:q4D a0 a1_0=some r):Ok Tryz.prog 92 [.d m (.sl 2 (a0.map Symbol.D)),.fn 93 [.pb 0 0]] [.box [dS a1_0]] (dI r) [.box [dS a1_0]]:=by
 refine OE Tryz.func92 fun S hS=>?_
 unfold q4D at hr
 refine J (gn 12)<|J (lenT 0)<|fun hl1=>bdE hr fun q1 hqq1 hr=>q0b hqq1 hl1 1 (fun k1 _=>[(0,.d m (.sl 2 (a0.map Symbol.D))),(1,.fn 93 [.pb 0 0]),(7,dI (a0.length:Int)),(8,dI (k1:Int))]) (fun k1 _=>[]) I (fun k1 xk1 sk1 ok1 hxk1 hr hltk1 hik1=>?_) fun k1 sk1 ek1 hltk1=>?_
 refine bdE hr fun y1 hy1 hr=>J g<|J (CB' [(0,0)] [] (z7Y (m:=m) hy1))<|J (gn 1)<|ifE hr ?_ ?_<;>intro h1 hr
 exact e
 exact e
 subst ek1
 exact e
theorem z5t {m:Md}{a0:Gm_}{a1:ByteArray}{r:Int}(hr:q8o a0 a1=some r):Ok Tryz.prog 40 [Gm_.y m a0,dS a1] [] (dI r) []:=by
 refine OE Tryz.func40 fun S hS=>?_
 unfold q8o at hr
 refine J g<|J (BX' 0)<|J (BX' 1)<|bdE hr fun y1 hy1 hr=>J g<|J (CB' [(0,1)] [] (q8w (m:=m) hy1))<|e
theorem z1a {m:Md}{a0:Gm_}{a1:Rule}{r:(List Oc)}(hr:q4X a0 a1=some r):Ok Tryz.prog 155 [Gm_.y m a0,Rule.x m a1] [] (.ref 0 none) [.row .fz 2 (r.map Oc.D)]:=by
 refine OE Tryz.func155 fun S hS=>?_
 unfold q4X at hr
 refine J g<|J (BX' 0)<|J (BX' 1)<|J g<|J (L0' 2 Oc.D)<|ggE hr fun g1 hr=>J (gn 12)<|J (rngT 13)<|fun hl1=>bdE hr fun s1 hqq1 hr=>q0i hqq1 3 (fun k1 s1=>[(2,.pb 0 0),(3,.pb 1 0),(5,.ref 2 none),(13,dI ((a1.Right.length+1:Nat):Int)),(14,dI (k1:Int))]) (fun k1 s1=>[(2,.row .fz 2 (s1.map Oc.D))]) I (fun k1 sk1 ok1 hr hltk1=>?_) ?_
 obtain⟨s1,rfl⟩:∃ y,y=sk1:=⟨_,rfl⟩
 refine bdE hr fun y1 hy1 hr=>J g<|J (CB' [] [] (z2T (m:=m) hy1))<|bdE hr fun y2 hy2 hr=>J (CB' [(0,3)] [] (q8d (m:=m) hy2))<|J (gn 4)<|J (lenR 3)<|fun hl2=>bdE hr fun s2 hqq2 hr=>q0d hqq2 hl2 4 (fun k2 s2=>[(2,.pb 0 0),(3,.pb 1 0),(5,.ref 2 none),(6,dI (k1:Int)),(13,dI ((a1.Right.length+1:Nat):Int)),(14,dI (k1:Int)),(21,.ref 3 none),(22,dI (y2.length:Int)),(23,dI (k2:Int))]) (fun k2 s2=>[(2,.row .fz 2 (s2.map Oc.D))]) I (fun k2 xk2 sk2 ok2 hxk2 hr hltk2=>?_) fun k2 hltk2=>?_
 obtain⟨s2,rfl⟩:∃ y,y=sk2:=⟨_,rfl⟩
 refine J g<|J (NV' 4)<|J g<|J (LIR' 5 (m:=.fz) (f:=Oc.D) (xs:=[(⟨(k1:Int),xk2.Name⟩:Oc)]))<|ggE hr fun g2 hr=>J (z0F (f:=Oc.D) 6 (fun _=>rfl) 24 g2)<|e
 exact e
 exact e
theorem j3a {Rc12:Expr→Option Expr}(Ic12:∀ {m:Md} {a0:Expr} {r:Expr},Rc12 a0=some r→Ok Tryz.prog 251 [Expr.x m a0] [] (.ag [dI r.Kind,dI r.N,dI r.Pos,dI r.Type_,dS r.Symbol,dS r.Name,.ref 0 none]) [.row .fz 7 (r.Args.map Expr.D)]){m:Md}{a0:Expr}{r:Expr}(hr:z4g Rc12 a0=some r):Ok Tryz.prog 251 [Expr.x m a0] [] (.ag [dI r.Kind,dI r.N,dI r.Pos,dI r.Type_,dS r.Symbol,dS r.Name,.ref 0 none]) [.row .fz 7 (r.Args.map Expr.D)]:=by
 refine OE Tryz.func251 fun S hS=>?_
 unfold z4g at hr
 refine J g<|J (BX' 0)<|J (NV' 1)<|J (gn 14) ?_
 refine J (q3h 3 2 .fz 7 rfl)<|J (lenA 6 0)<|fun hl1=>bdE hr fun s1 hqq1 hr=>q0d hqq1 hl1 3 (fun k1 s1=>[(1,.pb 0 0),(2,.pb 1 0),(3,.ref 2 none),(7,.d m (.sl 7 (a0.Args.map Expr.D))),(8,dI (a0.Args.length:Int)),(9,dI (k1:Int))]) (fun k1 s1=>[(2,.row .fz 7 (s1.map Expr.D))]) I (fun k1 xk1 sk1 ok1 hxk1 hr hltk1=>?_) fun k1 hltk1=>?_
 obtain⟨s1,rfl⟩:∃ y,y=sk1:=⟨_,rfl⟩
 refine J g<|J (NV' 3)<|bdE hr fun y1 hy1 hr=>J g<|J (CB' [(0,4)] [] (Ic12 (m:=m) hy1)) ?_
 refine J (q0m 4 rfl) ?_
 refine J (j4k 5 (m:=.fz) (f:=Expr.D) [y1] (by simp only[List.map_cons,List.map_nil,Expr.D_eq];rfl))<|ggE hr fun g1 hr=>J (AP1' 6 .fz 88 g1)<|J g<|E
 exact e
theorem j3b (n:Nat):∀ {m:Md} {a0:Expr} {r:Expr},z0L n a0=some r→Ok Tryz.prog 251 [Expr.x m a0] [] (.ag [dI r.Kind,dI r.N,dI r.Pos,dI r.Type_,dS r.Symbol,dS r.Name,.ref 0 none]) [.row .fz 7 (r.Args.map Expr.D)]:=by
  induction n with
  | zero=>intro _ _ r hr;exact nomatch (show (none:Option Expr)=some r from hr)
  | succ n ih=>intro _ _ r hr;exact j3a ih hr
theorem j4E {m:Md}{a0:Expr}{r:Expr}(hr:z6r a0=some r):Ok Tryz.prog 251 [Expr.x m a0] [] (.ag [dI r.Kind,dI r.N,dI r.Pos,dI r.Type_,dS r.Symbol,dS r.Name,.ref 0 none]) [.row .fz 7 (r.Args.map Expr.D)]:=by
 obtain⟨n,hn⟩:=q6x hr
 exact j3b n hn
theorem z9c {m:Md}{a0:Rule}{a1:Oc}{r:(Expr×Bool)}(hr:q7H a0 a1=some r):Ok Tryz.prog 208 [Rule.x m a0,Oc.x .fz a1] [] (.tu [.ag [dI r.1.Kind,dI r.1.N,dI r.1.Pos,dI r.1.Type_,dS r.1.Symbol,dS r.1.Name,.ref 0 none],dB r.2]) [.row .fz 7 (r.1.Args.map Expr.D)]:=by
 refine OE Tryz.func208 fun S hS=>?_
 unfold q7H at hr
 refine J g<|J (BX' 0)<|J (BX' 1)<|J (NV' 2)<|J (gn 11)<|J (lenA 4 0)<|fun hl1=>bdE hr fun q1 hqq1 hr=>q0b hqq1 hl1 3 (fun k1 _=>[(3,.pb 1 0),(4,.pb 2 0),(9,.d m (.sl 9 (a0.Equations.map Eqn.D))),(10,dI (a0.Equations.length:Int)),(11,dI (k1:Int))]) (fun k1 _=>[]) I (fun k1 xk1 sk1 ok1 hxk1 hr hltk1 hik1=>?_) fun k1 sk1 ek1 hltk1=>?_
 refine J g<|J (NV' 3)<|J g ?_
 refine J (SQ' rfl rfl rfl rfl (q5P xk1.At a1))<|J (gn 1)<|ifE hr ?_ ?_<;>intro h1 hr
 refine bdE hr fun y1 hy1 hr=>J g<|J (CB' [(0,4)] [] (j4E (m:=m) hy1))<|e
 exact e
 subst ek1
 refine J (gn 14) ?_
 refine J (q0c (q0j (q:=2) (c:=6) (r:=3) .fz 7 rfl rfl rfl))<|J g<|E
theorem z6C {m:Md}{a0:(List Oc)}{a1:Oc}{r:Int}(hr:q5T a0 a1=some r):Ok Tryz.prog 210 [.d m (.sl 2 (a0.map Oc.D)),Oc.x .fz a1] [] (dI r) []:=by
 refine OE Tryz.func210 fun S hS=>?_
 unfold q5T at hr
 refine J g<|J (BX' 0)<|bdE hr fun y1 hy1 hr=>J g<|J (CB' [] [] (q9a (m:=m) hy1))<|e
theorem z6D {m:Md}{a0:(List Int)}{r:(List Int)}(hr:q8z a0=some r):Ok Tryz.prog 85 [.d m (.sl 1 (a0.map (A.D.i .i64)))] [] (.ref 0 none) [.row .fz 1 (r.map (A.D.i .i64))]:=by
 refine OE Tryz.func85 fun S hS=>?_
 unfold q8z at hr
 refine ggE hr fun g1 hr=>J (gn 6) ?_
 refine q3d rfl fun q hq=>?_
 cases q with
 | true=>
 refine J g ?_
 have e0:a0=[]:=List.map_eq_nil_iff.1 (hq rfl)
 subst e0
 refine J (q0c (q0Y (t:=2) (r:=0) .fz 1 rfl rfl))<|J g<|E
 | false=>
 refine J g<|J (L0' 0 (A.D.i .i64))<|J g<|J (APf' 1 (fun _=>rfl) g1)<|e
theorem z1F {m:Md}{a0:Rl_}{r:Rl_}(hr:q6W a0=some r):Ok Tryz.prog 94 [Rl_.x m a0] [] (.ag [dI r.N,.ref 0 none]) [.row .fz 1 (r.Rows.map (A.D.i .i64))]:=by
 refine OE Tryz.func94 fun S hS=>?_
 unfold q6W at hr
 refine J g<|J (BX' 0)<|J (NV' 1)<|bdE hr fun y1 hy1 hr=>J g<|J (CB' [(0,2)] [] (z6D (m:=m) hy1))<|e
theorem z5u {m2:Md}{a0:Int}{a1:Rl_}{r:Bool}(hr:q6C a0 a1=some r):Ok Tryz.prog 154 [dI a0,.pb 0 0] [.box [dI a1.N,.d m2 (.sl 1 (a1.Rows.map (A.D.i .i64)))]] (dB r) [.box [dI a1.N,.d m2 (.sl 1 (a1.Rows.map (A.D.i .i64)))]]:=by
 refine OE Tryz.func154 fun S hS=>?_
 unfold q6C at hr
 refine ggE hr fun g1 hr=>J g ?_
 refine J (CIU' g1 rfl)<|ggE hr fun g2 hr=>J (OB' _ (j7Y g2))<|J (OB' _ (k5b (p:=(2 ^ a1.N.toNat)) (k:=1) (by decide)))<|bdE hr fun y1 hy1 hr=>J (CB' [] [] (q4y hy1))<|J g<|E
theorem q8m {m:Md}{m2:Md}{a0:(List Int)}{a1_0:Rl_}{r:Int}(hr:q4x a0 a1_0=some r):Ok Tryz.prog 206 [.d m (.sl 1 (a0.map (A.D.i .i64))),.fn 154 [.pb 0 0]] [.box [dI a1_0.N,.d m2 (.sl 1 (a1_0.Rows.map (A.D.i .i64)))]] (dI r) [.box [dI a1_0.N,.d m2 (.sl 1 (a1_0.Rows.map (A.D.i .i64)))]]:=by
 refine OE Tryz.func206 fun S hS=>?_
 unfold q4x at hr
 refine J (gn 12)<|J (lenT 0)<|fun hl1=>bdE hr fun q1 hqq1 hr=>q0b hqq1 hl1 1 (fun k1 _=>[(0,.d m (.sl 1 (a0.map (A.D.i .i64)))),(1,.fn 154 [.pb 0 0]),(7,dI (a0.length:Int)),(8,dI (k1:Int))]) (fun k1 _=>[]) I (fun k1 xk1 sk1 ok1 hxk1 hr hltk1 hik1=>?_) fun k1 sk1 ek1 hltk1=>?_
 refine bdE hr fun y1 hy1 hr=>J g<|J (CB' [(0,0)] [] (z5u (m2:=m2) hy1))<|J (gn 1)<|ifE hr ?_ ?_<;>intro h1 hr
 exact e
 exact e
 subst ek1
 exact e
theorem q7O {m:Md}{m2:Md}{a0:(List Int)}{a1_0:Rl_}{r:Bool}(hr:q4m a0 a1_0=some r):Ok Tryz.prog 153 [.d m (.sl 1 (a0.map (A.D.i .i64))),.fn 154 [.pb 0 0]] [.box [dI a1_0.N,.d m2 (.sl 1 (a1_0.Rows.map (A.D.i .i64)))]] (dB r) [.box [dI a1_0.N,.d m2 (.sl 1 (a1_0.Rows.map (A.D.i .i64)))]]:=by
 refine OE Tryz.func153 fun S hS=>?_
 unfold q4m at hr
 refine bdE hr fun y1 hy1 hr=>J g<|J (CB' [(0,0)] [] (q8m (m:=m) (m2:=m2) hy1))<|e
theorem q7a {m:Md}{a0:Rl_}{r:Bool}(hr:q5j a0=some r):Ok Tryz.prog 95 [Rl_.x m a0] [] (dB r) []:=by
 refine OE Tryz.func95 fun S hS=>?_
 unfold q5j at hr
 refine J g<|J (BX' 0)<|bdE hr fun y1 hy1 hr=>J g<|J (CB' [] [] (q4y hy1))<|bdE hr fun s1 hqq1 hr=>q0a 8 [(1,.pb 0 0),(2,dB false),(13,dB s1)] ?_ ?_
 replace hr:=hqq1
 refine ifE hr ?_ ?_<;>intro h1 hr
 exact e
 exact e
 refine bdE hr fun s2 hqq2 hr=>q0a 7 [(2,dB false),(20,dB s2)] ?_ ?_
 replace hr:=hqq2
 refine ifE hr ?_ ?_<;>intro h2 hr
 refine bdE hr fun y2 hy2 hr=>J g<|J (CB' [(0,0)] [] (q7O (m:=m) (m2:=m) hy2))<|e
 exact e
 exact e
theorem z6E {m:Md}{a0:Rl_}{a1:Int}{a2:Int}{r:Rl_}(hr:z0M a0 a1 a2=some r):Ok Tryz.prog 98 [Rl_.x m a0,dI a1,dI a2] [] (.ag [dI r.N,.ref 0 none]) [.row .fz 1 (r.Rows.map (A.D.i .i64))]:=by
 refine OE Tryz.func98 fun S hS=>?_
 unfold z0M at hr
 refine J g<|J (BX' 0)<|J (NV' 1)<|bdE hr fun y1 hy1 hr=>J g<|J (CB' [(0,2)] [] (z1F (m:=m) hy1))<|J (NV' 3)<|bdE hr fun y2 hy2 hr=>J g<|J (CB' [] [] (q7a (m:=m) hy2))<|bdE hr fun s1 hqq1 hr=>q0a 7 [(1,dI a1),(2,dI a2),(3,.pb 0 0),(6,.pb 1 0),(7,.pb 3 0),(18,dB s1)] ?_ ?_
 replace hr:=hqq1
 refine ifE hr ?_ ?_<;>intro h1 hr
 refine ggE hr fun g1 hr=>bdE hr fun y3 hy3 hr=>J g<|J (CB' [] [] (q4y hy3))<|e
 exact e
 refine bdE hr fun s2 hqq2 hr=>q0a 7 [(1,dI a1),(2,dI a2),(6,.pb 1 0),(7,.pb 3 0),(25,dB s2)] ?_ ?_
 replace hr:=hqq2
 refine ifE hr ?_ ?_<;>intro h2 hr
 refine ggE hr fun g2 hr=>bdE hr fun y4 hy4 hr=>J g<|J (CB' [] [] (q4y hy4))<|e
 exact e
 refine J (gn 1)<|ifE hr ?_ ?_<;>intro h3 hr
 refine ggE hr fun g3 hr=>bdE hr fun x1 hx1 hr=>ggE hr fun g4 hr=>J g ?_
 refine J (CIU' g4 rfl)<|ggE hr fun g5 hr=>J (OB' _ (j7Y g5))<|ggE hr fun g6 hr=>J (OB' _ (bOrI g6))<|J g<|J (SE' ((x1.toNat ||| ((2 ^ a2.toNat:Nat):Int).toNat:Nat):Int) hx1)<|J g<|E
 exact e
theorem z7Z {m:Md}{a0:Gm_}{a1:Rule}{r:Rl_}(hr:q7j a0 a1=some r):Ok Tryz.prog 156 [Gm_.y m a0,Rule.x m a1] [] (.ag [dI r.N,.ref 0 none]) [.row .fz 1 (r.Rows.map (A.D.i .i64))]:=by
 refine OE Tryz.func156 fun S hS=>?_
 unfold q7j at hr
 refine J g<|J (BX' 0)<|J (BX' 1)<|J (NV' 2)<|bdE hr fun y1 hy1 hr=>J g<|J (CB' [(0,3)] [] (z1a (m:=m) hy1))<|bdE hr fun y2 hy2 hr=>J g<|J (CB' [(0,4)] [] (z0Z hy2))<|J (NV' 5)<|J (gn 9)<|ifE hr ?_ ?_<;>intro h1 hr
 refine J (gn 7) ?_
 refine J (q0c (q0j (q:=2) (c:=1) (r:=6) .fz 1 rfl rfl rfl))<|J g<|E
 refine J (gn 10)<|J (lenR 3)<|fun hl1=>bdP hr fun s1 s2 hqq1 hr=>q0d hqq1 hl1 6 (fun k1 (s1,s2)=>[(3,.pb 1 0),(4,.pb 2 0),(5,.ref 3 none),(6,.pb 5 0),(23,.ref 3 none),(24,dI (y1.length:Int)),(25,dI (k1:Int))]) (fun k1 (s1,s2)=>[(4,.row .fz 1 (s1.map (A.D.i .i64))),(5,.box [dI s2,.ref 4 none])]) I (fun k1 xk1 sk1 ok1 hxk1 hr hltk1=>?_) fun k1 hltk1=>?_
 obtain⟨s1,s2⟩:=sk1
 refine J g<|J (NV' 6)<|bdP hr fun y3 y4 hq2 hr=>J g<|J (CB' [(0,7)] [] (z9c (m:=m) hq2))<|J g<|J (NV' 8)<|bdE hr fun y5 hy5 hr=>J g<|J (CB' [(0,9)] [7] (z3J (m:=.bo) hy5))<|J (gn 4)<|J (lenR 9)<|fun hl2=>bdP hr fun s3 s4 hqq3 hr=>q0d hqq3 hl2 10 (fun k2 (s3,s4)=>[(3,.pb 1 0),(4,.pb 2 0),(5,.ref 3 none),(6,.pb 5 0),(7,dI (k1:Int)),(23,.ref 3 none),(24,dI (y1.length:Int)),(25,dI (k1:Int)),(37,.ref 9 none),(38,dI (y5.length:Int)),(39,dI (k2:Int))]) (fun k2 (s3,s4)=>[(4,.row .fz 1 (s3.map (A.D.i .i64))),(5,.box [dI s4,.ref 4 none])]) I (fun k2 xk2 sk2 ok2 hxk2 hr hltk2=>?_) fun k2 hltk2=>?_
 obtain⟨s3,s4⟩:=sk2
 refine J g<|J (NV' 10)<|bdE hr fun y6 hy6 hr=>J g<|J (CB' [] [3] (z6C (m:=.bo) hy6))<|bdE hr fun y7 hy7 hr=>J g<|J (CB' [(0,11)] [4] (z6E (m:=.bo) hy7))<|e
 exact e
 exact e
theorem z2w {m:Md}{a0:Gm_}{a1:Rule}{a2:Int}{r:(List Int)}(hr:q4U a0 a1 a2=some r):Ok Tryz.prog 96 [Gm_.y m a0,Rule.x m a1,dI a2] [] (.ref 0 none) [.row .fz 1 (r.map (A.D.i .i64))]:=by
 refine OE Tryz.func96 fun S hS=>?_
 unfold q4U at hr
 refine J g<|J (BX' 0)<|J (BX' 1)<|J g<|J (L0' 2 (A.D.i .i64))<|bdE hr fun y1 hy1 hr=>J g<|J (CB' [(0,3)] [] (z1a (m:=m) hy1))<|J (gn 4)<|J (lenR 3)<|fun hl1=>bdE hr fun s1 hqq1 hr=>q0d hqq1 hl1 4 (fun k1 s1=>[(2,dI a2),(7,.ref 2 none),(13,.ref 3 none),(14,dI (y1.length:Int)),(15,dI (k1:Int))]) (fun k1 s1=>[(2,.row .fz 1 (s1.map (A.D.i .i64)))]) I (fun k1 xk1 sk1 ok1 hxk1 hr hltk1=>?_) fun k1 hltk1=>?_
 obtain⟨s1,rfl⟩:∃ y,y=sk1:=⟨_,rfl⟩
 refine bdE hr fun s2 hqq2 hr=>J (gn 8)<|q0e 4 [(2,dI a2),(7,.ref 2 none),(13,.ref 3 none),(14,dI (y1.length:Int)),(15,dI (k1:Int))] [(2,.row .fz 1 (s2.map (A.D.i .i64)))] ?_ ?_
 replace hr:=hqq2
 refine J g<|J (NV' 4)<|J (gn 10)<|ifE hr ?_ ?_<;>intro h1 hr
 refine J g<|J (LIR' 5 (m:=.fz) (f:=(A.D.i .i64)) (xs:=([(k1:Int)]:List Int)))<|ggE hr fun g1 hr=>J (z0F (f:=(A.D.i .i64)) 6 (fun _=>rfl) 8 g1)<|e
 exact e
 exact e
 exact e
theorem z6F {m:Md}{a0:Rl_}{a1:Int}{a2:Int}{r:Bool}(hr:q9F a0 a1 a2=some r):Ok Tryz.prog 97 [Rl_.x m a0,dI a1,dI a2] [] (dB r) []:=by
 refine OE Tryz.func97 fun S hS=>?_
 unfold q9F at hr
 refine J g<|J (BX' 0)<|bdE hr fun y1 hy1 hr=>J g<|J (CB' [] [] (q7a (m:=m) hy1))<|bdE hr fun s1 hqq1 hr=>q0a 7 [(1,dI a1),(2,dI a2),(3,.pb 0 0),(6,dB false),(15,dB s1)] ?_ ?_
 replace hr:=hqq1
 refine ifE hr ?_ ?_<;>intro h1 hr
 refine ggE hr fun g1 hr=>bdE hr fun y2 hy2 hr=>J g<|J (CB' [] [] (q4y hy2))<|e
 exact e
 refine bdE hr fun s2 hqq2 hr=>q0a 7 [(1,dI a1),(2,dI a2),(3,.pb 0 0),(6,dB false),(22,dB s2)] ?_ ?_
 replace hr:=hqq2
 refine ifE hr ?_ ?_<;>intro h2 hr
 refine ggE hr fun g2 hr=>bdE hr fun y3 hy3 hr=>J g<|J (CB' [] [] (q4y hy3))<|e
 exact e
 refine bdE hr fun s3 hqq3 hr=>q0a 12 [(6,dB false),(34,dB s3)] ?_ ?_
 replace hr:=hqq3
 refine ifE hr ?_ ?_<;>intro h3 hr
 refine ggE hr fun g3 hr=>bdE hr fun x1 hx1 hr=>ggE hr fun g4 hr=>J g ?_
 refine J (CIU' g4 rfl)<|ggE hr fun g5 hr=>J (OB' _ (k1D g5))<|ggE hr fun g6 hr=>J (OB' _ (k1E g6))<|J g<|E
 exact e
 exact e
theorem j9M {m:Md}{a0:Gm_}{a1:Rule}{a2:Rl_}{a3:Int}{a4:Rl_}{r:Rl_}(hr:z7i a0 a1 a2 a3 a4=some r):Ok Tryz.prog 157 [Gm_.y m a0,Rule.x m a1,.ag [dI a2.N,.ref 0 none],dI a3,Rl_.x m a4] [.row .fz 1 (a2.Rows.map (A.D.i .i64))] (.ag [dI r.N,.ref 1 none]) [.dead,.row .fz 1 (r.Rows.map (A.D.i .i64))]:=by
 refine OE Tryz.func157 fun S hS=>?_
 unfold z7i at hr
 refine J g<|J (BX' 1)<|J (BX' 2)<|J (BX' 3)<|J (BX' 4)<|J (NV' 5)<|bdE hr fun y1 hy1 hr=>J g<|J (CB' [(0,6)] [] (z2w (m:=m) hy1))<|J (gn 10) ?_
 refine J (q1G 0 7 rfl)<|J (lenR 6)<|fun hl1=>bdP hr fun s1 s2 hqq1 hr=>q0d hqq1 hl1 8 (fun k1 (s1,s2)=>[(7,.pb 3 0),(9,.pb 4 0),(10,.pb 5 0),(11,.ref 6 none),(20,.ref 6 none),(21,dI (y1.length:Int)),(22,dI (k1:Int))]) (fun k1 (s1,s2)=>[(3,.box [dI s1,.ref 7 none]),(7,.row .fz 1 (s2.map (A.D.i .i64)))]) I (fun k1 xk1 sk1 ok1 hxk1 hr hltk1=>?_) fun k1 hltk1=>?_
 obtain⟨s1,s2⟩:=sk1
 refine J (gn 24)<|J (lenR 6)<|fun hl2=>bdP hr fun s3 s4 hqq2 hr=>q0d hqq2 hl2 8 (fun k2 (s3,s4)=>[(7,.pb 3 0),(9,.pb 4 0),(10,.pb 5 0),(11,.ref 6 none),(12,dI (k1:Int)),(13,dI xk1),(20,.ref 6 none),(21,dI (y1.length:Int)),(22,dI (k1:Int)),(27,.ref 6 none),(28,dI (y1.length:Int)),(29,dI (k2:Int))]) (fun k2 (s3,s4)=>[(3,.box [dI s3,.ref 7 none]),(7,.row .fz 1 (s4.map (A.D.i .i64)))]) I (fun k2 xk2 sk2 ok2 hxk2 hr hltk2=>?_) fun k2 hltk2=>?_
 obtain⟨s3,s4⟩:=sk2
 refine bdP hr fun s6 s5 hqq3 hr=>J (gn 8)<|q0e 8 [(7,.pb 3 0),(9,.pb 4 0),(10,.pb 5 0),(11,.ref 6 none),(12,dI (k1:Int)),(13,dI xk1),(20,.ref 6 none),(21,dI (y1.length:Int)),(22,dI (k1:Int)),(27,.ref 6 none),(28,dI (y1.length:Int)),(29,dI (k2:Int))] [(3,.box [dI s6,.ref 7 none]),(7,.row .fz 1 (s5.map (A.D.i .i64)))] ?_ ?_
 replace hr:=hqq3
 refine bdE hr fun y2 hy2 hr=>J g<|J (CB' [] [] (z6F (m:=m) hy2))<|J (gn 1)<|ifE hr ?_ ?_<;>intro h1 hr
 refine bdE hr fun y3 hy3 hr=>J g<|J (CB' [(0,8)] [7] (z6E (m:=.bo) hy3))<|e
 exact e
 exact e
 exact e
 exact e
theorem z3K {m:Md}{a0:Rl_}{r:Rl_}(hr:q7k a0=some r):Ok Tryz.prog 112 [Rl_.x m a0] [] (.ag [dI r.N,.ref 0 none]) [.row .fz 1 (r.Rows.map (A.D.i .i64))]:=by
 refine OE Tryz.func112 fun S hS=>?_
 unfold q7k at hr
 refine J g<|J (BX' 0)<|J (NV' 1)<|bdE hr fun y1 hy1 hr=>J g<|J (CB' [(0,2)] [] (z1F (m:=m) hy1))<|J (NV' 3)<|bdE hr fun y2 hy2 hr=>J g<|J (CB' [] [] (q7a (m:=m) hy2))<|J (gn 2)<|ifE hr ?_ ?_<;>intro h1 hr
 refine J (gn 11)<|J (rngT 14)<|fun hl1=>bdE hr fun s1 hqq1 hr=>q0i hqq1 4 (fun k1 s1=>[(2,.pb 1 0),(3,.pb 3 0),(14,dI (y1.Rows.length:Int)),(15,dI (k1:Int))]) (fun k1 s1=>[(2,.row .fz 1 (s1.map (A.D.i .i64)))]) I (fun k1 sk1 ok1 hr hltk1=>?_) ?_
 obtain⟨s1,rfl⟩:∃ y,y=sk1:=⟨_,rfl⟩
 refine J (gn 22)<|J (rngT 20)<|fun hl2=>bdE hr fun s2 hqq2 hr=>q0i hqq2 4 (fun k2 s2=>[(2,.pb 1 0),(3,.pb 3 0),(4,dI (k1:Int)),(14,dI (y1.Rows.length:Int)),(15,dI (k1:Int)),(20,dI (s1.length:Int)),(21,dI (k2:Int))]) (fun k2 s2=>[(2,.row .fz 1 (s2.map (A.D.i .i64)))]) I (fun k2 sk2 ok2 hr hltk2=>?_) ?_
 obtain⟨s2,rfl⟩:∃ y,y=sk2:=⟨_,rfl⟩
 refine bdE hr fun s3 hqq3 hr=>J (gn 8)<|q0e 4 [(2,.pb 1 0),(3,.pb 3 0),(4,dI (k1:Int)),(14,dI (y1.Rows.length:Int)),(15,dI (k1:Int)),(20,dI (s1.length:Int)),(21,dI (k2:Int))] [(2,.row .fz 1 (s3.map (A.D.i .i64)))] ?_ ?_
 replace hr:=hqq3
 refine bdE hr fun x1 hx1 hr=>J g ?_
 refine J (CIU' (Int.natCast_nonneg _) rfl)<|ggE hr fun g1 hr=>J (OB' _ (k1D g1))<|ggE hr fun g2 hr=>J (OB' _ (k1E g2))<|J (gn 2)<|ifE hr ?_ ?_<;>intro h2 hr
 refine bdE hr fun x2 hx2 hr=>ggE hr fun g3 hr=>J g<|J (OB' _ (bOrI g3))<|J g<|J (SE' ((x1.toNat ||| x2.toNat:Nat):Int) hx1)<|e
 exact e
 exact e
 exact e
 exact e
 exact e
theorem j0z {m:Md}{a0:Gm_}{a1:Rule}{a2:(List Rl_)}{r:Rl_}(hr:q9p a0 a1 a2=some r):Ok Tryz.prog 99 [Gm_.y m a0,Rule.x m a1,.d m (.sl 2 (a2.map Rl_.D))] [] (.ag [dI r.N,.ref 0 none]) [.row .fz 1 (r.Rows.map (A.D.i .i64))]:=by
 refine OE Tryz.func99 fun S hS=>?_
 unfold q9p at hr
 refine J g<|J (BX' 0)<|J (BX' 1)<|J (NV' 2)<|J (gn 10)<|ifE hr ?_ ?_<;>intro h1 hr
 refine bdE hr fun y1 hy1 hr=>J g<|J (CB' [(0,3)] [] (z1a (m:=m) hy1))<|J (gn 4)<|ifE hr ?_ ?_<;>intro h2 hr
 refine J (gn 7) ?_
 refine J (q0c (q0j (q:=2) (c:=1) (r:=4) .fz 1 rfl rfl rfl))<|J g<|E
 refine bdE hr fun y2 hy2 hr=>J g<|J (CB' [(0,4)] [] (z7Z (m:=m) hy2))<|J (NV' 5)<|J (gn 10)<|J (lenT 2)<|fun hl1=>bdE hr fun q1 hqq1 hr=>q0b hqq1 hl1 6 (fun k1 (s1,s2)=>[(3,.pb 0 0),(4,.pb 1 0),(6,.pb 2 0),(7,.pb 5 0),(27,.d m (.sl 2 (a2.map Rl_.D))),(28,dI (a2.length:Int)),(29,dI (k1:Int))]) (fun k1 (s1,s2)=>[(4,.row .fz 1 (s1.map (A.D.i .i64))),(5,.box [dI s2,.ref 4 none])]) I (fun k1 xk1 sk1 ok1 hxk1 hr hltk1 hik1=>?_) fun k1 sk1 ek1 hltk1=>?_
 obtain⟨s1,s2⟩:=sk1
 refine J g<|J (NV' 6)<|bdE hr fun x1 hx1 hr=>bdE hr fun y3 hy3 hr=>J g<|J (CB' [(0,7)] [] (q8d (m:=m) hy3))<|J (gn 3)<|ifE hr ?_ ?_<;>intro h3 hr
 refine bdE hr fun y4 hy4 hr=>J g<|J (CB' [(0,4),(1,8)] [] (j9M (m:=m) hy4))<|e
 refine J (gn 7) ?_
 refine J (q0c (q0j (q:=2) (c:=1) (r:=8) .fz 1 rfl rfl rfl))<|J g<|E
 subst ek1
 obtain⟨s1,s2⟩:=sk1
 refine bdE hr fun y5 hy5 hr=>J g<|J (CB' [(0,6)] [4] (z3K (m:=.bo) hy5))<|e
 refine J (gn 15) ?_
 refine J (q0c (q0j (q:=2) (c:=1) (r:=3) .fz 1 rfl rfl rfl))<|J g<|E
theorem z4C {m:Md}{a0:Gm_}{a1:Rule}{a2:(List Rl_)}{r:Rl_}(hr:q7I a0 a1 a2=some r):Ok Tryz.prog 43 [Gm_.y m a0,Rule.x m a1,.d m (.sl 2 (a2.map Rl_.D))] [] (.ag [dI r.N,.ref 0 none]) [.row .fz 1 (r.Rows.map (A.D.i .i64))]:=by
 refine OE Tryz.func43 fun S hS=>?_
 unfold q7I at hr
 refine J g<|J (BX' 0)<|J (BX' 1)<|J (NV' 2)<|J g<|J (L0' 3 Rl_.D)<|J (gn 11)<|J (lenA 2 1)<|fun hl1=>bdE hr fun s1 hqq1 hr=>?_
 refine q0d hqq1 hl1 4 (fun k1 s1=>[(2,.d m (.sl 2 (a2.map Rl_.D))),(3,.pb 0 0),(4,.pb 1 0),(6,.pb 2 0),(7,.ref 3 none),(12,.d m (.sl 1 (a1.Right.map A.D.s))),(13,dI (a1.Right.length:Int)),(14,dI (k1:Int))]) (fun k1 s1=>[(3,.row m 2 (s1.map Rl_.D))]) (GH.trans (q0Z (r:=3) m rfl) I) (fun k1 xk1 sk1 ok1 hxk1 hr hltk1=>?_) fun k1 hltk1=>?_
 obtain⟨s1,rfl⟩:∃ y,y=sk1:=⟨_,rfl⟩
 refine bdE hr fun y1 hy1 hr=>J g<|J (CB' [] [] (z5t (m:=m) hy1))<|ggE hr fun g1 hr=>bdE hr fun x1 hx1 hr=>J g ?_
 refine J (j8a 4 (m:=m) (f:=Rl_.D) [x1] rfl)<|ggE hr fun g2 hr=>J (AP1' 5 m 32 g2)<|J g<|E
 refine bdE hr fun y2 hy2 hr=>J g<|J (CB' [(0,4)] [3] (j0z (m:=.bo) hy2))<|e
theorem j3c {m:Md}{a0:Gm_}{a1:Rule}{a2:Rl_}{r:Rl_}(hr:q9G a0 a1 a2=some r):Ok Tryz.prog 42 [Gm_.y m a0,Rule.x m a1,Rl_.x m a2] [] (.ag [dI r.N,.ref 0 none]) [.row .fz 1 (r.Rows.map (A.D.i .i64))]:=by
 refine OE Tryz.func42 fun S hS=>?_
 unfold q9G at hr
 refine J g<|J (BX' 0)<|J (BX' 1)<|J (BX' 2)<|J (NV' 3)<|bdE hr fun y1 hy1 hr=>J g<|J (CB' [(0,4)] [] (q8d (m:=m) hy1))<|bdE hr fun y2 hy2 hr=>J g<|J (CB' [(0,5)] [] (z2w (m:=m) hy2))<|bdE hr fun y3 hy3 hr=>J g<|J (CB' [(0,6)] [] (z0Z hy3))<|J (NV' 7)<|J (gn 10)<|J (lenR 4)<|fun hl1=>bdP hr fun s1 s2 hqq1 hr=>q0d hqq1 hl1 8 (fun k1 (s1,s2)=>[(5,.pb 2 0),(6,.pb 3 0),(7,.ref 4 none),(8,.ref 5 none),(9,.pb 7 0),(24,.ref 4 none),(25,dI (y1.length:Int)),(26,dI (k1:Int))]) (fun k1 (s1,s2)=>[(6,.row .fz 1 (s1.map (A.D.i .i64))),(7,.box [dI s2,.ref 6 none])]) I (fun k1 xk1 sk1 ok1 hxk1 hr hltk1=>?_) fun k1 hltk1=>?_
 obtain⟨s1,s2⟩:=sk1
 refine J g<|J (NV' 8)<|J (gn 10)<|J (lenR 4)<|fun hl2=>bdP hr fun s3 s4 hqq2 hr=>q0d hqq2 hl2 9 (fun k2 (s3,s4)=>[(5,.pb 2 0),(6,.pb 3 0),(7,.ref 4 none),(8,.ref 5 none),(9,.pb 7 0),(10,dI (k1:Int)),(11,.pb 8 0),(24,.ref 4 none),(25,dI (y1.length:Int)),(26,dI (k1:Int)),(31,.ref 4 none),(32,dI (y1.length:Int)),(33,dI (k2:Int))]) (fun k2 (s3,s4)=>[(6,.row .fz 1 (s3.map (A.D.i .i64))),(7,.box [dI s4,.ref 6 none])]) I (fun k2 xk2 sk2 ok2 hxk2 hr hltk2=>?_) fun k2 hltk2=>?_
 obtain⟨s3,s4⟩:=sk2
 refine bdP hr fun s5 s6 hqq3 hr=>J (gn 8)<|q0e 9 [(5,.pb 2 0),(6,.pb 3 0),(7,.ref 4 none),(8,.ref 5 none),(9,.pb 7 0),(10,dI (k1:Int)),(11,.pb 8 0),(24,.ref 4 none),(25,dI (y1.length:Int)),(26,dI (k1:Int)),(31,.ref 4 none),(32,dI (y1.length:Int)),(33,dI (k2:Int))] [(6,.row .fz 1 (s5.map (A.D.i .i64))),(7,.box [dI s6,.ref 6 none])] ?_ ?_
 replace hr:=hqq3
 refine J g<|J (NV' 9)<|J (gn 8)<|ifE hr ?_ ?_<;>intro h1 hr
 refine J (gn 5)<|ifE hr ?_ ?_<;>intro h2 hr
 refine bdE hr fun x1 hx1 hr=>bdE hr fun x2 hx2 hr=>bdE hr fun y4 hy4 hr=>J g<|J (CB' [] [] (z6F (m:=m) hy4))<|J (gn 2)<|ifE hr ?_ ?_<;>intro h3 hr
 refine bdE hr fun y5 hy5 hr=>J g<|J (CB' [(0,10)] [6] (z6E (m:=.bo) hy5))<|e
 exact e
 exact e
 exact e
 exact e
 exact e
 exact e
theorem z8a {m:Md}{a0:Rl_}{a1:Rl_}{r:Rl_}(hr:q8j a0 a1=some r):Ok Tryz.prog 41 [Rl_.x m a0,Rl_.x m a1] [] (.ag [dI r.N,.ref 0 none]) [.row .fz 1 (r.Rows.map (A.D.i .i64))]:=by
 refine OE Tryz.func41 fun S hS=>?_
 unfold q8j at hr
 refine J g<|J (BX' 0)<|J (BX' 1)<|J (NV' 2)<|bdE hr fun y1 hy1 hr=>J g<|J (CB' [(0,3)] [] (z1F (m:=m) hy1))<|J (NV' 4)<|bdE hr fun y2 hy2 hr=>J g<|J (CB' [] [] (q7a (m:=m) hy2))<|bdE hr fun s1 hqq1 hr=>q0a 4 [(2,.pb 0 0),(3,.pb 1 0),(4,.pb 2 0),(5,.pb 4 0),(14,dB s1)] ?_ ?_
 replace hr:=hqq1
 refine ifE hr ?_ ?_<;>intro h1 hr
 refine bdE hr fun y3 hy3 hr=>J g<|J (CB' [] [] (q7a (m:=m) hy3))<|e
 exact e
 refine bdE hr fun s2 hqq2 hr=>q0a 7 [(3,.pb 1 0),(4,.pb 2 0),(5,.pb 4 0),(21,dB s2)] ?_ ?_
 replace hr:=hqq2
 refine ifE hr ?_ ?_<;>intro h2 hr
 exact e
 exact e
 refine J (gn 1)<|ifE hr ?_ ?_<;>intro h3 hr
 refine J (gn 9)<|J (rngT 24)<|fun hl1=>bdE hr fun s3 hqq3 hr=>q0i hqq3 5 (fun k1 s3=>[(3,.pb 1 0),(4,.pb 2 0),(5,.pb 4 0),(24,dI (y1.Rows.length:Int)),(25,dI (k1:Int))]) (fun k1 s3=>[(3,.row .fz 1 (s3.map (A.D.i .i64)))]) I (fun k1 sk1 ok1 hr hltk1=>?_) ?_
 obtain⟨s3,rfl⟩:∃ y,y=sk1:=⟨_,rfl⟩
 refine bdE hr fun x1 hx1 hr=>bdE hr fun x2 hx2 hr=>ggE hr fun g1 hr=>J g<|J (OB' _ (bOrI g1))<|J g<|J (SE' ((x1.toNat ||| x2.toNat:Nat):Int) hx1)<|e
 exact e
 exact e
theorem z6G {m:Md}{a0:(List Int)}{a1:(List Int)}{r:Bool}(hr:z0f a0 a1=some r):Ok Tryz.prog 100 [.d m (.sl 1 (a0.map (A.D.i .i64))),.d m (.sl 1 (a1.map (A.D.i .i64)))] [] (dB r) []:=by
 refine OE Tryz.func100 fun S hS=>?_
 unfold z0f at hr
 refine J (gn 13)<|ifE hr ?_ ?_<;>intro h1 hr
 refine J (gn 10)<|J (lenT 0)<|fun hl1=>bdE hr fun q1 hqq1 hr=>q0b hqq1 hl1 0 (fun k1 _=>[(0,.d m (.sl 1 (a0.map (A.D.i .i64)))),(1,.d m (.sl 1 (a1.map (A.D.i .i64)))),(12,dI (a0.length:Int)),(13,dI (k1:Int))]) (fun k1 _=>[]) I (fun k1 xk1 sk1 ok1 hxk1 hr hltk1 hik1=>?_) fun k1 sk1 ek1 hltk1=>?_
 refine bdE hr fun x1 hx1 hr=>J (gn 26)<|ifE hr ?_ ?_<;>intro h2 hr
 exact e
 exact e
 subst ek1
 exact e
 exact e
theorem z8b {m:Md}{a0:Rl_}{a1:Rl_}{r:Bool}(hr:q9u a0 a1=some r):Ok Tryz.prog 44 [Rl_.x m a0,Rl_.x m a1] [] (dB r) []:=by
 refine OE Tryz.func44 fun S hS=>?_
 unfold q9u at hr
 refine J g<|J (BX' 0)<|J (BX' 1)<|J (gn 9)<|ifE hr ?_ ?_<;>intro h1 hr
 refine bdE hr fun y1 hy1 hr=>J g<|J (CB' [] [] (z6G (m:=m) hy1))<|e
 exact e
theorem z2U {m:Md}{a0:Gm_}{r:((List Rl_)×Bool)}(hr:q6e a0=some r):Ok Tryz.prog 14 [Gm_.x m a0] [] (.tu [.ref 0 none,dB r.2]) [.row .fz 2 (r.1.map Rl_.D)]:=by
 refine OE Tryz.func14 fun S hS=>?_
 unfold q6e at hr
 refine J g<|J (BX' 0)<|bdE hr fun y1 hy1 hr=>J g<|J (CB' [] [] (z8F (m:=m) hy1))<|J (gn 2)<|ifE hr ?_ ?_<;>intro h1 hr
 refine bdE hr fun y2 hy2 hr=>J g<|J (CB' [(0,1)] [] (z7s (m:=m) hy2))<|bdE hr fun s1 hqq1 hr=>J (gn 7)<|q0e 2 [(4,.ref 1 none)] [(1,.row .fz 2 (s1.map Rl_.D))] ?_ ?_
 refine J g<|q0h hqq1 2 (fun (s2,s3)=>[(1,.pb 0 0),(4,.ref 1 none),(5,dB s3)]) (fun (s2,s3)=>[(1,.row .fz 2 (s2.map Rl_.D))]) I fun sk1 ok1 hr hik1=>?_
 obtain⟨s2,s3⟩:=sk1
 have hr:=hr
 refine J (gn 5)<|ifE hr ?_ ?_<;>intro h2 hr
 refine J (gn 15)<|J (lenT 17)<|fun hl2=>bdP hr fun s4 s5 hqq2 hr=>q0d hqq2 hl2 2 (fun k2 (s4,s5)=>[(1,.pb 0 0),(4,.ref 1 none),(5,dB s4),(17,.d m (.sl 6 (a0.Rules.map Rule.D))),(18,dI (a0.Rules.length:Int)),(19,dI (k2:Int))]) (fun k2 (s4,s5)=>[(1,.row .fz 2 (s5.map Rl_.D))]) I (fun k2 xk2 sk2 ok2 hxk2 hr hltk2=>?_) fun k2 hltk2=>?_
 obtain⟨s4,s5⟩:=sk2
 refine bdP hr fun s6 s7 hqq3 hr=>J (gn 8)<|q0e 2 [(1,.pb 0 0),(4,.ref 1 none),(5,dB s6),(17,.d m (.sl 6 (a0.Rules.map Rule.D))),(18,dI (a0.Rules.length:Int)),(19,dI (k2:Int))] [(1,.row .fz 2 (s7.map Rl_.D))] ?_ ?_
 replace hr:=hqq3
 refine J g<|J (NV' 2)<|bdE hr fun y3 hy3 hr=>J g<|J (CB' [] [] (z5t (m:=m) hy3))<|ggE hr fun g1 hr=>bdE hr fun x1 hx1 hr=>bdE hr fun y4 hy4 hr=>J g<|J (CB' [(0,3)] [1] (z4C (m:=.bo) hy4))<|bdE hr fun y5 hy5 hr=>J (CB' [(0,4)] [3] (j3c (m:=.bo) hy5))<|bdE hr fun y6 hy6 hr=>J (CB' [(0,5)] [4] (z8a (m:=.bo) hy6))<|J (NV' 6)<|J (gn 5)<|ifE hr ?_ ?_<;>intro h3 hr
 refine J (gn 9)<|J (q0x .refl)<|J (gn 7) ?_
 refine J (q0m 5 rfl)<|J (SE' y6 hx1)<|J g<|E
 refine bdE hr fun y7 hy7 hr=>J g<|J (CB' [] [5] (z8b (m:=.bo) hy7))<|J (gn 2)<|J (q0x .refl)<|J (gn 7) ?_
 refine J (q0m 5 rfl)<|J (SE' y6 hx1)<|J g<|E
 exact e
 exact e
 refine J (gn 2) ?_
 cases hr
 cases hik1 _ rfl
 exact q0g hS 2
 exact e
 refine J (gn 7) ?_
 refine J (q0c (q0Y (t:=2) (r:=1) .fz 2 rfl rfl))<|J g<|E
theorem j6b {m:Md}{a0:Rl_}{r:Bool}(hr:z0S a0=some r):Ok Tryz.prog 53 [Rl_.x m a0] [] (dB r) []:=by
 refine OE Tryz.func53 fun S hS=>?_
 unfold z0S at hr
 refine J g<|J (BX' 0)<|bdE hr fun y1 hy1 hr=>J g<|J (CB' [(0,1)] [] (z3K (m:=m) hy1))<|J (NV' 2)<|J (gn 11)<|J (lenR 1)<|fun hl1=>bdE hr fun q1 hqq1 hr=>q0b hqq1 hl1 3 (fun k1 _=>[(3,.pb 2 0),(9,dI (y1.Rows.length:Int)),(10,dI (k1:Int))]) (fun k1 _=>[]) I (fun k1 xk1 sk1 ok1 hxk1 hr hltk1 hik1=>?_) fun k1 sk1 ek1 hltk1=>?_
 refine bdE hr fun y2 hy2 hr=>J g<|J (CB' [] [1] (z6F (m:=.bo) hy2))<|J (gn 1)<|ifE hr ?_ ?_<;>intro h1 hr
 exact e
 exact e
 subst ek1
 exact e
theorem z3L {m:Md}{a0:Gm_}{r:(List ByteArray)}(hr:q7o a0=some r):Ok Tryz.prog 19 [Gm_.x m a0] [] (.ref 0 none) [.row .fz 1 (r.map A.D.s)]:=by
 refine OE Tryz.func19 fun S hS=>?_
 unfold q7o at hr
 refine J g<|J (BX' 0)<|J g<|J (L0' 1 A.D.s)<|bdP hr fun y1 y2 hq1 hr=>J g<|J (CB' [(0,2)] [] (z2U (m:=m) hq1))<|J (gn 12)<|ifE hr ?_ ?_<;>intro h1 hr
 refine J (gn 11)<|J (lenA 1 0)<|fun hl1=>bdE hr fun s1 hqq2 hr=>q0d hqq2 hl1 3 (fun k1 s1=>[(1,.pb 0 0),(3,.ref 1 none),(4,.ref 2 none),(18,.d m (.sl 6 (a0.Rules.map Rule.D))),(19,dI (a0.Rules.length:Int)),(20,dI (k1:Int))]) (fun k1 s1=>[(1,.row .fz 1 (s1.map A.D.s))]) I (fun k1 xk1 sk1 ok1 hxk1 hr hltk1=>?_) fun k1 hltk1=>?_
 obtain⟨s1,rfl⟩:∃ y,y=sk1:=⟨_,rfl⟩
 refine bdE hr fun s2 hqq3 hr=>J (gn 8)<|q0e 3 [(1,.pb 0 0),(3,.ref 1 none),(4,.ref 2 none),(18,.d m (.sl 6 (a0.Rules.map Rule.D))),(19,dI (a0.Rules.length:Int)),(20,dI (k1:Int))] [(1,.row .fz 1 (s2.map A.D.s))] ?_ ?_
 replace hr:=hqq3
 refine J g<|J (NV' 3)<|bdE hr fun y3 hy3 hr=>J g<|J (CB' [(0,4)] [2] (z4C (m:=.bo) hy3))<|bdE hr fun y4 hy4 hr=>J (CB' [] [4] (j6b (m:=.bo) hy4))<|J (gn 1)<|ifE hr ?_ ?_<;>intro h2 hr
 refine J g<|J (LIR' 5 (m:=.fz) (f:=A.D.s) (xs:=[xk1.Name]))<|ggE hr fun g1 hr=>J (z0F (f:=A.D.s) 6 (fun _=>rfl) 16 g1)<|e
 exact e
 exact e
 exact e
 exact e
theorem z4m {m:Md}{a0:Gm_}{r:Bool}(hr:q6a a0=some r):Ok Tryz.prog 17 [Gm_.x m a0] [] (dB r) []:=by
 refine OE Tryz.func17 fun S hS=>?_
 unfold q6a at hr
 refine J g<|J (BX' 0)<|bdE hr fun y1 hy1 hr=>J g<|J (CB' [] [] (z8F (m:=m) hy1))<|ifE hr ?_ ?_<;>intro h1 hr
 refine bdE hr fun y2 hy2 hr=>J g<|J (CB' [(0,1)] [] (z3L (m:=m) hy2))<|e
 exact e
end Go.Proofs.YtomdlgffolbdkaaGreat
