/- What some functions of the program compute, as partial functions on plain data, and that they do; each lemma bears its conditions in its statement. -/
import Derived.Test.YtnhofaohogianaaGreatDef
set_option linter.unusedVariables false
set_option linter.unusedSimpArgs false
set_option linter.ambiguousOpen false
set_option linter.unusedSectionVars false
set_option linter.unnecessarySimpa false
set_option maxRecDepth 100000
set_option maxHeartbeats 40000000
noncomputable section
open Int renaming natCast_nonneg→Dmz
namespace Go.Proofs.YtnhofaohogianaaGreat
open Go Go.E Go.A
theorem q4p {a0:Int}{a1:Int}{a2:Int}{r:Bool}(hr:q3W a0 a1 a2=some r):Ok Tryz.prog 123 [dI a0,dI a1,dI a2] [] (dB r) []:=by
 refine OE Tryz.func123 fun S hS=>?_
 unfold q3W at hr
 refine J (gn 9)<|ifE hr ?_ ?_<;>intro h1 hr
 exact e
 exact e
theorem j0P {a0:UInt8}{r:Bool}(hr:z1Y a0=some r):Ok Tryz.prog 228 [.d .fz (.i .u8 (a0.toNat:Int))] [] (dB r) []:=by
 refine OE Tryz.func228 fun S hS=>?_
 unfold z1Y at hr
 refine J (gn 8)<|ifE hr ?_ ?_<;>intro h1 hr
 exact e
 exact e
theorem j6j {a0:UInt8}{r:Bool}(hr:z3T a0=some r):Ok Tryz.prog 229 [.d .fz (.i .u8 (a0.toNat:Int))] [] (dB r) []:=by
 refine OE Tryz.func229 fun S hS=>?_
 unfold z3T at hr
 refine J (gn 8)<|ifE hr ?_ ?_<;>intro h1 hr
 exact e
 exact e
theorem j1T {a0:BA_}{r:Bool}(hr:q9V a0=some r):Ok Tryz.prog 230 [dS a0] [] (dB r) []:=by
 refine OE Tryz.func230 fun S hS=>?_
 unfold q9V at hr
 refine J (gn 16)<|ifE hr ?_ ?_<;>intro h1 hr
 refine J (gn 2)<|ifE hr ?_ ?_<;>intro h2 hr
 exact e
 exact e
 refine J (gn 6)<|ifE hr ?_ ?_<;>intro h3 hr
 refine J (gn 2)<|ifE hr ?_ ?_<;>intro h4 hr
 exact e
 exact e
 refine J (gn 6)<|ifE hr ?_ ?_<;>intro h5 hr
 refine J (gn 2)<|ifE hr ?_ ?_<;>intro h6 hr
 exact e
 exact e
 refine J (gn 6)<|ifE hr ?_ ?_<;>intro h7 hr
 refine J (gn 2)<|ifE hr ?_ ?_<;>intro h8 hr
 exact e
 exact e
 refine J (gn 6)<|ifE hr ?_ ?_<;>intro h9 hr
 refine J (gn 2)<|ifE hr ?_ ?_<;>intro h10 hr
 exact e
 exact e
 refine J (gn 6)<|ifE hr ?_ ?_<;>intro h11 hr
 refine J (gn 2)<|ifE hr ?_ ?_<;>intro h12 hr
 exact e
 exact e
 refine J (gn 6)<|ifE hr ?_ ?_<;>intro h13 hr
 refine J (gn 2)<|ifE hr ?_ ?_<;>intro h14 hr
 exact e
 exact e
 refine J (gn 6)<|ifE hr ?_ ?_<;>intro h15 hr
 refine J (gn 2)<|ifE hr ?_ ?_<;>intro h16 hr
 exact e
 exact e
 refine J (gn 6)<|ifE hr ?_ ?_<;>intro h17 hr
 refine J (gn 2)<|ifE hr ?_ ?_<;>intro h18 hr
 exact e
 exact e
 refine J (gn 6)<|ifE hr ?_ ?_<;>intro h19 hr
 refine J (gn 2)<|ifE hr ?_ ?_<;>intro h20 hr
 exact e
 exact e
 refine J (gn 6)<|ifE hr ?_ ?_<;>intro h21 hr
 refine J (gn 2)<|ifE hr ?_ ?_<;>intro h22 hr
 exact e
 exact e
 refine J (gn 6)<|ifE hr ?_ ?_<;>intro h23 hr
 refine J (gn 2)<|ifE hr ?_ ?_<;>intro h24 hr
 exact e
 exact e
 refine J (gn 5)<|ifE hr ?_ ?_<;>intro h25 hr
 exact e
 exact e
theorem q5a {a0:BA_}{r:Bool}(hr:q4q a0=some r):Ok Tryz.prog 206 [dS a0] [] (dB r) []:=by
 refine OE Tryz.func206 fun S hS=>?_
 unfold q4q at hr
 refine J g<|J LS'<|J (gn 3)<|J (rngT 5)<|fun hl1=>bdE hr fun q1 hqq1 hr=>q0s hqq1 0 (fun k1 _=>[(0,dS a0),(5,dI (a0.size:Int)),(6,dI (k1:Int))]) (fun k1 _=>[]) I (fun k1 sk1 ok1 hr hltk1 hik1=>?_) fun sk1 ek1=>?_
 refine bdE hr fun x1 hx1 hr=>J g ?_
 refine J (SI' rfl rfl (Dmz _) hx1)<|bdE hr fun y1 hy1 hr=>J (CB' [] [] (j0P hy1))<|J (gn 1)<|ifE hr ?_ ?_<;>intro h1 hr
 exact e
 refine J g ?_
 refine J (SI' rfl rfl (Dmz _) hx1)<|bdE hr fun y2 hy2 hr=>J (CB' [] [] (j6j hy2))<|J (gn 3)<|ifE hr ?_ ?_<;>intro h2 hr
 exact e
 exact e
 subst ek1
 refine J g<|J LS'<|bdE hr fun y3 hy3 hr=>J (CB' [] [] (q4p hy3))<|bdE hr fun s1 hqq2 hr=>q0a 5 [(0,dS a0),(29,dB s1)] ?_ ?_
 replace hr:=hqq2
 refine ifE hr ?_ ?_<;>intro h3 hr
 refine bdE hr fun x2 hx2 hr=>J g ?_
 refine J (SI' rfl rfl (Dmz _) hx2)<|bdE hr fun y4 hy4 hr=>J (CB' [] [] (j0P hy4))<|J g<|E
 exact e
 refine bdE hr fun s2 hqq3 hr=>q0a 5 [(34,dB s2)] ?_ ?_
 replace hr:=hqq3
 refine ifE hr ?_ ?_<;>intro h4 hr
 refine bdE hr fun y5 hy5 hr=>J g<|J (CB' [] [] (j1T hy5))<|e
 exact e
 exact e
theorem j2E {a0:Int}{r:Bool}(hr:z3U a0=some r):Ok Tryz.prog 227 [dI a0] [] (dB r) []:=by
 refine OE Tryz.func227 fun S hS=>?_
 unfold z3U at hr
 refine bdE hr fun y1 hy1 hr=>J g<|J (CB' [] [] (q4p hy1))<|e
theorem z6n {a0:At_}{r:Bool}(hr:q6x a0=some r):Ok Tryz.prog 204 [At_.x .fz a0] [] (dB r) []:=by
 refine OE Tryz.func204 fun S hS=>?_
 unfold q6x at hr
 refine J g<|J (BX' 0)<|bdE hr fun y1 hy1 hr=>J g<|J (CB' [] [] (q5a hy1))<|bdE hr fun s1 hqq1 hr=>J (gn 1)<|q0a 6 [(1,.pb 0 0),(13,dB s1)] ?_ ?_
 replace hr:=hqq1
 refine ifE hr ?_ ?_<;>intro h1 hr
 refine bdE hr fun y2 hy2 hr=>J g<|J (CB' [] [] (j2E hy2))<|e
 exact e
 refine bdE hr fun s2 hqq2 hr=>q0a 6 [(1,.pb 0 0),(19,dB s2)] ?_ ?_
 replace hr:=hqq2
 refine ifE hr ?_ ?_<;>intro h2 hr
 exact e
 refine bdE hr fun y3 hy3 hr=>J g<|J (CB' [] [] (q4p hy3))<|e
 refine J (gn 2)<|ifE hr ?_ ?_<;>intro h3 hr
 exact e
 refine J (gn 8)<|ifE hr ?_ ?_<;>intro h4 hr
 refine bdE hr fun s3 hqq3 hr=>J (gn 6)<|q0a 5 [(31,dB s3)] ?_ ?_
 replace hr:=hqq3
 refine ifE hr ?_ ?_<;>intro h5 hr
 exact e
 exact e
 exact e
 refine bdE hr fun s4 hqq4 hr=>J (gn 7)<|q0a 5 [(39,dB s4)] ?_ ?_
 replace hr:=hqq4
 refine ifE hr ?_ ?_<;>intro h6 hr
 exact e
 exact e
 exact e
theorem z6T {a0:At_}{a1:At_}{r:Bool}(hr:q7W a0 a1=some r):Ok Tryz.prog 205 [At_.x .fz a0,.pb 0 0] [.box [dS a1.Name,dI a1.t__,dI a1.Mode,dB a1.Circular]] (dB r) [.box [dS a1.Name,dI a1.t__,dI a1.Mode,dB a1.Circular]]:=by
 refine OE Tryz.func205 fun S hS=>?_
 unfold q7W at hr
 refine J g<|J (BX' 1)<|e
theorem q6T {m:Md}{a0:(List At_)}{a1_0:At_}{r:Int}(hr:q4b a0 a1_0=some r):Ok Tryz.prog 169 [.d m (.sl 4 (a0.map At_.D)),.fn 205 [.pb 0 0]] [.box [dS a1_0.Name,dI a1_0.t__,dI a1_0.Mode,dB a1_0.Circular]] (dI r) [.box [dS a1_0.Name,dI a1_0.t__,dI a1_0.Mode,dB a1_0.Circular]]:=by
 refine OE Tryz.func169 fun S hS=>?_
 unfold q4b at hr
 refine J (gn 12)<|J (lenT 0)<|fun hl1=>bdE hr fun q1 hqq1 hr=>q0b hqq1 hl1 1 (fun k1 _=>[(0,.d m (.sl 4 (a0.map At_.D))),(1,.fn 205 [.pb 0 0]),(7,dI (a0.length:Int)),(8,dI (k1:Int))]) (fun k1 _=>[]) I (fun k1 xk1 sk1 ok1 hxk1 hr hltk1 hik1=>?_) fun k1 sk1 ek1 hltk1=>?_
 refine bdE hr fun y1 hy1 hr=>J g<|J (CB' [(0,0)] [] (z6T hy1))<|J (gn 1)<|ifE hr ?_ ?_<;>intro h1 hr
 exact e
 exact e
 subst ek1
 exact e
theorem q6B {m:Md}{a0:(List At_)}{a1_0:At_}{r:Bool}(hr:q3R a0 a1_0=some r):Ok Tryz.prog 125 [.d m (.sl 4 (a0.map At_.D)),.fn 205 [.pb 0 0]] [.box [dS a1_0.Name,dI a1_0.t__,dI a1_0.Mode,dB a1_0.Circular]] (dB r) [.box [dS a1_0.Name,dI a1_0.t__,dI a1_0.Mode,dB a1_0.Circular]]:=by
 refine OE Tryz.func125 fun S hS=>?_
 unfold q3R at hr
 refine bdE hr fun y1 hy1 hr=>J g<|J (CB' [(0,0)] [] (q6T (m:=m) hy1))<|e
theorem z8D {m:Md}{a0:Symbol}{r:Bool}(hr:q7G a0=some r):Ok Tryz.prog 163 [Symbol.x m a0] [] (dB r) []:=by
 refine OE Tryz.func163 fun S hS=>?_
 unfold q7G at hr
 refine J g<|J (BX' 0)<|J (gn 11)<|J (lenA 1 0)<|fun hl1=>bdE hr fun q1 hqq1 hr=>q0b hqq1 hl1 1 (fun k1 _=>[(1,.pb 0 0),(6,.d m (.sl 4 (a0.as_.map At_.D))),(7,dI (a0.as_.length:Int)),(8,dI (k1:Int))]) (fun k1 _=>[]) I (fun k1 xk1 sk1 ok1 hxk1 hr hltk1 hik1=>?_) fun k1 sk1 ek1 hltk1=>?_
 refine J g<|J (NV' 1)<|bdE hr fun y1 hy1 hr=>J g<|J (CB' [] [] (z6n hy1))<|J (gn 1)<|ifE hr ?_ ?_<;>intro h1 hr
 refine ggE hr fun g1 hr=>J g<|J (SLH' (Dmz _) g1)<|bdE hr fun y2 hy2 hr=>J g<|J (CB' [(0,1)] [] (q6B (m:=m) hy2))<|J (gn 2)<|ifE hr ?_ ?_<;>intro h2 hr
 exact e
 exact e
 exact e
 subst ek1
 refine bdE hr fun y3 hy3 hr=>J g<|J (CB' [] [] (q5a hy3))<|bdE hr fun s1 hqq2 hr=>q0a 6 [(33,dB s1)] ?_ ?_
 replace hr:=hqq2
 refine ifE hr ?_ ?_<;>intro h3 hr
 exact e
 exact e
 exact e
theorem z9D {m:Md}{m2:Md}{a0:Symbol}{a1:Symbol}{r:Bool}(hr:q9W a0 a1=some r):Ok Tryz.prog 165 [Symbol.x m a0,.pb 0 0] [.box [dS a1.Name,.d m2 (.sl 4 (a1.as_.map At_.D))]] (dB r) [.box [dS a1.Name,.d m2 (.sl 4 (a1.as_.map At_.D))]]:=by
 refine OE Tryz.func165 fun S hS=>?_
 unfold q9W at hr
 refine J g<|J (BX' 1)<|e
theorem q8c {m:Md}{m2:Md}{a0:(List Symbol)}{a1_0:Symbol}{r:Int}(hr:q4x a0 a1_0=some r):Ok Tryz.prog 85 [.d m (.sl 2 (a0.map Symbol.D)),.fn 165 [.pb 0 0]] [.box [dS a1_0.Name,.d m2 (.sl 4 (a1_0.as_.map At_.D))]] (dI r) [.box [dS a1_0.Name,.d m2 (.sl 4 (a1_0.as_.map At_.D))]]:=by
 refine OE Tryz.func85 fun S hS=>?_
 unfold q4x at hr
 refine J (gn 12)<|J (lenT 0)<|fun hl1=>bdE hr fun q1 hqq1 hr=>q0b hqq1 hl1 1 (fun k1 _=>[(0,.d m (.sl 2 (a0.map Symbol.D))),(1,.fn 165 [.pb 0 0]),(7,dI (a0.length:Int)),(8,dI (k1:Int))]) (fun k1 _=>[]) I (fun k1 xk1 sk1 ok1 hxk1 hr hltk1 hik1=>?_) fun k1 sk1 ek1 hltk1=>?_
 refine bdE hr fun y1 hy1 hr=>J g<|J (CB' [(0,0)] [] (z9D (m:=m) (m2:=m2) hy1))<|J (gn 1)<|ifE hr ?_ ?_<;>intro h1 hr
 exact e
 exact e
 subst ek1
 exact e
theorem q7v {m:Md}{m2:Md}{a0:(List Symbol)}{a1_0:Symbol}{r:Bool}(hr:q4l a0 a1_0=some r):Ok Tryz.prog 164 [.d m (.sl 2 (a0.map Symbol.D)),.fn 165 [.pb 0 0]] [.box [dS a1_0.Name,.d m2 (.sl 4 (a1_0.as_.map At_.D))]] (dB r) [.box [dS a1_0.Name,.d m2 (.sl 4 (a1_0.as_.map At_.D))]]:=by
 refine OE Tryz.func164 fun S hS=>?_
 unfold q4l at hr
 refine bdE hr fun y1 hy1 hr=>J g<|J (CB' [(0,0)] [] (q8c (m:=m) (m2:=m2) hy1))<|e
theorem j1U {Rc9:Expr→Option Int}(Ic9:∀ {m:Md} {a0:Expr} {r:Int},Rc9 a0=some r→Ok Tryz.prog 243 [Expr.x m a0] [] (dI r) []){m:Md}{a0:Expr}{r:Int}(hr:z1n Rc9 a0=some r):Ok Tryz.prog 243 [Expr.x m a0] [] (dI r) []:=by
 refine OE Tryz.func243 fun S hS=>?_
 unfold z1n at hr
 refine J g<|J (BX' 0)<|J (gn 15)<|J (lenA 6 0)<|fun hl1=>bdE hr fun s1 hqq1 hr=>q0c hqq1 hl1 1 (fun k1 s1=>[(3,dI s1),(7,.d m (.sl 7 (a0.Args.map Expr.D))),(8,dI (a0.Args.length:Int)),(9,dI (k1:Int))]) (fun k1 s1=>[]) I (fun k1 xk1 sk1 ok1 hxk1 hr hltk1=>?_) fun k1 hltk1=>?_
 obtain⟨s1,rfl⟩:∃ y,y=sk1:=⟨_,rfl⟩
 refine J g<|J (NV' 1)<|bdE hr fun y1 hy1 hr=>J g<|J (CB' [] [] (Ic9 (m:=m) hy1))<|ggE hr fun g1 hr=>e
 exact e
theorem j1V (n:Nat):∀ {m:Md} {a0:Expr} {r:Int},q9s n a0=some r→Ok Tryz.prog 243 [Expr.x m a0] [] (dI r) []:=by
  induction n with
  | zero=>intro _ _ r hr;exact nomatch (show (none:Option Int)=some r from hr)
  | succ n ih=>intro _ _ r hr;exact j1U ih hr
theorem j3q {m:Md}{a0:Expr}{r:Int}(hr:z5v a0=some r):Ok Tryz.prog 243 [Expr.x m a0] [] (dI r) []:=by
 obtain⟨n,hn⟩:=q5M hr
 exact j1V n hn
theorem z9E {Rc10:Expr→Option Int}(Ic10:∀ {m:Md} {a0:Expr} {r:Int},Rc10 a0=some r→Ok Tryz.prog 244 [Expr.x m a0] [] (dI r) []){m:Md}{a0:Expr}{r:Int}(hr:q8U Rc10 a0=some r):Ok Tryz.prog 244 [Expr.x m a0] [] (dI r) []:=by
 refine OE Tryz.func244 fun S hS=>?_
 unfold q8U at hr
 refine J g<|J (BX' 0)<|J (gn 15)<|J (lenA 6 0)<|fun hl1=>bdE hr fun s1 hqq1 hr=>q0c hqq1 hl1 1 (fun k1 s1=>[(3,dI s1),(7,.d m (.sl 7 (a0.Args.map Expr.D))),(8,dI (a0.Args.length:Int)),(9,dI (k1:Int))]) (fun k1 s1=>[]) I (fun k1 xk1 sk1 ok1 hxk1 hr hltk1=>?_) fun k1 hltk1=>?_
 obtain⟨s1,rfl⟩:∃ y,y=sk1:=⟨_,rfl⟩
 refine J g<|J (NV' 1)<|bdE hr fun y1 hy1 hr=>J g<|J (CB' [] [] (Ic10 (m:=m) hy1)) ?_
 refine J (MXI' rfl rfl)<|J g<|E
 refine ggE hr fun g1 hr=>e
theorem z9F (n:Nat):∀ {m:Md} {a0:Expr} {r:Int},q6m n a0=some r→Ok Tryz.prog 244 [Expr.x m a0] [] (dI r) []:=by
  induction n with
  | zero=>intro _ _ r hr;exact nomatch (show (none:Option Int)=some r from hr)
  | succ n ih=>intro _ _ r hr;exact z9E ih hr
theorem j0Q {m:Md}{a0:Expr}{r:Int}(hr:z3y a0=some r):Ok Tryz.prog 244 [Expr.x m a0] [] (dI r) []:=by
 obtain⟨n,hn⟩:=q5M hr
 exact z9F n hn
theorem j4W {a0:Int}{r:Int}(hr:z4y a0=some r):Ok Tryz.prog 271 [dI a0] [] (dI r) []:=by
 refine OE Tryz.func271 fun S hS=>?_
 unfold z4y at hr
 refine J g ?_
 refine J (MNI' rfl rfl) ?_
 refine J (MXI' rfl rfl)<|J g<|E
theorem k2I {a0:Bool}{r:Int}(hr:j0L a0=some r):Ok Tryz.prog 272 [dB a0] [] (dI r) []:=by
 refine OE Tryz.func272 fun S hS=>?_
 unfold j0L at hr
 refine J (gn 9)<|ifE hr ?_ ?_<;>intro h1 hr
 exact e
 exact e
theorem j8H {a0:Int}{a1:Int}{r:Int}(hr:z5x a0 a1=some r):Ok Tryz.prog 268 [dI a0,dI a1] [] (dI r) []:=by
 refine OE Tryz.func268 fun S hS=>?_
 unfold z5x at hr
 refine J (gn 12)<|ifE hr ?_ ?_<;>intro h1 hr
 refine bdE hr fun y1 hy1 hr=>J g<|J (CB' [] [] (j4W hy1))<|e
 refine J (gn 7)<|ifE hr ?_ ?_<;>intro h2 hr
 refine J g<|J (OB' _ k6s)<|e
 refine J (gn 7)<|ifE hr ?_ ?_<;>intro h3 hr
 refine bdE hr fun y2 hy2 hr=>J g<|J (CB' [] [] (k2I hy2))<|e
 refine J (gn 5)<|ifE hr ?_ ?_<;>intro h4 hr
 refine bdE hr fun y3 hy3 hr=>J g<|J (CB' [] [] (q4p hy3))<|J (gn 3)<|ifE hr ?_ ?_<;>intro h5 hr
 exact e
 exact e
 exact e
theorem j4X {a0:Int}{a1:Int}{r:Bool}(hr:z2u a0 a1=some r):Ok Tryz.prog 259 [dI a0,dI a1] [] (dB r) []:=by
 refine OE Tryz.func259 fun S hS=>?_
 unfold z2u at hr
 refine bdE hr fun y1 hy1 hr=>J g<|J (CB' [] [] (j2E hy1))<|ifE hr ?_ ?_<;>intro h1 hr
 refine bdE hr fun y2 hy2 hr=>J g<|J (CB' [] [] (j8H hy2))<|e
 exact e
theorem q7n {m:Md}{a0:Expr}{a1:Expr}{r:Bool}(hr:q6c a0 a1=some r):Ok Tryz.prog 260 [Expr.x m a0,Expr.x m a1] [] (dB r) []:=by
 refine OE Tryz.func260 fun S hS=>?_
 unfold q6c at hr
 refine J g<|J (BX' 0)<|J (BX' 1)<|bdE hr fun s1 hqq1 hr=>J (gn 9)<|q0a 7 [(2,.pb 0 0),(3,.pb 1 0),(4,dB false),(16,dB s1)] ?_ ?_
 replace hr:=hqq1
 refine ifE hr ?_ ?_<;>intro h1 hr
 exact e
 exact e
 refine bdE hr fun s2 hqq2 hr=>q0a 7 [(2,.pb 0 0),(3,.pb 1 0),(4,dB false),(23,dB s2)] ?_ ?_
 replace hr:=hqq2
 refine ifE hr ?_ ?_<;>intro h2 hr
 exact e
 exact e
 refine bdE hr fun s3 hqq3 hr=>q0a 7 [(2,.pb 0 0),(3,.pb 1 0),(4,dB false),(30,dB s3)] ?_ ?_
 replace hr:=hqq3
 refine ifE hr ?_ ?_<;>intro h3 hr
 exact e
 exact e
 refine bdE hr fun s4 hqq4 hr=>q0a 7 [(2,.pb 0 0),(3,.pb 1 0),(4,dB false),(37,dB s4)] ?_ ?_
 replace hr:=hqq4
 refine ifE hr ?_ ?_<;>intro h4 hr
 exact e
 exact e
 refine bdE hr fun s5 hqq5 hr=>q0a 7 [(4,dB false),(44,dB s5)] ?_ ?_
 replace hr:=hqq5
 refine ifE hr ?_ ?_<;>intro h5 hr
 exact e
 exact e
 exact e
theorem j1W {m:Md}{a0:Expr}{r:Bool}(hr:q9X a0=some r):Ok Tryz.prog 245 [Expr.x m a0] [] (dB r) []:=by
 refine OE Tryz.func245 fun S hS=>?_
 unfold q9X at hr
 refine J g<|J (BX' 0)<|J g<|J (NV' 1)<|J (gn 18)<|ifE hr ?_ ?_<;>intro h1 hr
 refine bdE hr fun s1 hqq1 hr=>J (gn 17)<|q0a 8 [(1,.pb 0 0),(3,.pb 1 0),(4,dI 0),(30,dB s1)] ?_ ?_
 replace hr:=hqq1
 refine ifE hr ?_ ?_<;>intro h2 hr
 exact e
 refine bdE hr fun y1 hy1 hr=>J g<|J (CB' [] [] (j4X hy1))<|e
 refine bdE hr fun s2 hqq2 hr=>q0a 5 [(1,.pb 0 0),(3,.pb 1 0),(4,dI 0),(35,dB s2)] ?_ ?_
 replace hr:=hqq2
 refine ifE hr ?_ ?_<;>intro h3 hr
 exact e
 exact e
 refine J (gn 1)<|ifE hr ?_ ?_<;>intro h4 hr
 exact e
 refine bdE hr fun s3 hqq3 hr=>J (gn 9)<|q0a 5 [(1,.pb 0 0),(3,.pb 1 0),(94,dB s3)] ?_ ?_
 replace hr:=hqq3
 refine ifE hr ?_ ?_<;>intro h5 hr
 refine bdE hr fun y2 hy2 hr=>J g<|J (CB' [] [] (q4p hy2))<|e
 exact e
 refine bdE hr fun s4 hqq4 hr=>q0a 5 [(99,dB s4)] ?_ ?_
 replace hr:=hqq4
 refine ifE hr ?_ ?_<;>intro h6 hr
 refine bdE hr fun y3 hy3 hr=>J g<|J (CB' [] [] (q7n (m:=m) hy3))<|e
 exact e
 exact e
 refine J (gn 6)<|ifE hr ?_ ?_<;>intro h7 hr
 refine bdE hr fun y4 hy4 hr=>J g<|J (CB' [] [] (q5a hy4))<|J (gn 2)<|ifE hr ?_ ?_<;>intro h8 hr
 refine bdE hr fun s5 hqq5 hr=>J (gn 9)<|q0a 5 [(1,.pb 0 0),(2,dB false),(3,.pb 1 0),(94,dB s5)] ?_ ?_
 replace hr:=hqq5
 refine ifE hr ?_ ?_<;>intro h9 hr
 refine bdE hr fun y5 hy5 hr=>J g<|J (CB' [] [] (q4p hy5))<|e
 exact e
 refine bdE hr fun s6 hqq6 hr=>q0a 5 [(2,dB false),(99,dB s6)] ?_ ?_
 replace hr:=hqq6
 refine ifE hr ?_ ?_<;>intro h10 hr
 refine bdE hr fun y6 hy6 hr=>J g<|J (CB' [] [] (q7n (m:=m) hy6))<|e
 exact e
 exact e
 exact e
 refine J (gn 6)<|ifE hr ?_ ?_<;>intro h11 hr
 refine bdE hr fun y7 hy7 hr=>J g<|J (CB' [] [] (q4p hy7))<|J (gn 2)<|ifE hr ?_ ?_<;>intro h12 hr
 refine bdE hr fun s7 hqq7 hr=>J (gn 9)<|q0a 5 [(1,.pb 0 0),(2,dB false),(3,.pb 1 0),(94,dB s7)] ?_ ?_
 replace hr:=hqq7
 refine ifE hr ?_ ?_<;>intro h13 hr
 refine bdE hr fun y8 hy8 hr=>J g<|J (CB' [] [] (q4p hy8))<|e
 exact e
 refine bdE hr fun s8 hqq8 hr=>q0a 5 [(2,dB false),(99,dB s8)] ?_ ?_
 replace hr:=hqq8
 refine ifE hr ?_ ?_<;>intro h14 hr
 refine bdE hr fun y9 hy9 hr=>J g<|J (CB' [] [] (q7n (m:=m) hy9))<|e
 exact e
 exact e
 exact e
 refine J (gn 6)<|ifE hr ?_ ?_<;>intro h15 hr
 refine bdE hr fun s9 hqq9 hr=>J (gn 11)<|q0a 5 [(1,.pb 0 0),(2,dB false),(3,.pb 1 0),(94,dB s9)] ?_ ?_
 replace hr:=hqq9
 refine ifE hr ?_ ?_<;>intro h16 hr
 refine bdE hr fun y10 hy10 hr=>J g<|J (CB' [] [] (q4p hy10))<|e
 exact e
 refine bdE hr fun s10 hqq10 hr=>q0a 5 [(2,dB false),(99,dB s10)] ?_ ?_
 replace hr:=hqq10
 refine ifE hr ?_ ?_<;>intro h17 hr
 refine bdE hr fun y11 hy11 hr=>J g<|J (CB' [] [] (q7n (m:=m) hy11))<|e
 exact e
 exact e
 refine J (gn 6)<|ifE hr ?_ ?_<;>intro h18 hr
 refine bdE hr fun s11 hqq11 hr=>J (gn 14)<|q0a 5 [(1,.pb 0 0),(2,dB false),(3,.pb 1 0),(94,dB s11)] ?_ ?_
 replace hr:=hqq11
 refine ifE hr ?_ ?_<;>intro h19 hr
 refine bdE hr fun y12 hy12 hr=>J g<|J (CB' [] [] (q4p hy12))<|e
 exact e
 refine bdE hr fun s12 hqq12 hr=>q0a 5 [(2,dB false),(99,dB s12)] ?_ ?_
 replace hr:=hqq12
 refine ifE hr ?_ ?_<;>intro h20 hr
 refine bdE hr fun y13 hy13 hr=>J g<|J (CB' [] [] (q7n (m:=m) hy13))<|e
 exact e
 exact e
 refine J (gn 6)<|ifE hr ?_ ?_<;>intro h21 hr
 refine bdE hr fun y14 hy14 hr=>J g<|J (CB' [] [] (q5a hy14))<|bdE hr fun s13 hqq13 hr=>J (gn 1)<|q0a 6 [(1,.pb 0 0),(3,.pb 1 0),(4,dI 1),(81,dB s13)] ?_ ?_
 replace hr:=hqq13
 refine ifE hr ?_ ?_<;>intro h22 hr
 refine bdE hr fun y15 hy15 hr=>J g<|J (CB' [] [] (q5a hy15))<|e
 exact e
 refine J (gn 1)<|ifE hr ?_ ?_<;>intro h23 hr
 exact e
 refine bdE hr fun s14 hqq14 hr=>J (gn 9)<|q0a 5 [(1,.pb 0 0),(3,.pb 1 0),(94,dB s14)] ?_ ?_
 replace hr:=hqq14
 refine ifE hr ?_ ?_<;>intro h24 hr
 refine bdE hr fun y16 hy16 hr=>J g<|J (CB' [] [] (q4p hy16))<|e
 exact e
 refine bdE hr fun s15 hqq15 hr=>q0a 5 [(99,dB s15)] ?_ ?_
 replace hr:=hqq15
 refine ifE hr ?_ ?_<;>intro h25 hr
 refine bdE hr fun y17 hy17 hr=>J g<|J (CB' [] [] (q7n (m:=m) hy17))<|e
 exact e
 exact e
 refine J (gn 7)<|ifE hr ?_ ?_<;>intro h26 hr
 refine J (gn 2)<|ifE hr ?_ ?_<;>intro h27 hr
 refine bdE hr fun s16 hqq16 hr=>J (gn 9)<|q0a 5 [(1,.pb 0 0),(2,dB false),(3,.pb 1 0),(94,dB s16)] ?_ ?_
 replace hr:=hqq16
 refine ifE hr ?_ ?_<;>intro h28 hr
 refine bdE hr fun y18 hy18 hr=>J g<|J (CB' [] [] (q4p hy18))<|e
 exact e
 refine bdE hr fun s17 hqq17 hr=>q0a 5 [(2,dB false),(99,dB s17)] ?_ ?_
 replace hr:=hqq17
 refine ifE hr ?_ ?_<;>intro h29 hr
 refine bdE hr fun y19 hy19 hr=>J g<|J (CB' [] [] (q7n (m:=m) hy19))<|e
 exact e
 exact e
 exact e
 refine J (gn 5)<|ifE hr ?_ ?_<;>intro h30 hr
 refine bdE hr fun s18 hqq18 hr=>J (gn 9)<|q0a 5 [(1,.pb 0 0),(2,dB false),(3,.pb 1 0),(94,dB s18)] ?_ ?_
 replace hr:=hqq18
 refine ifE hr ?_ ?_<;>intro h31 hr
 refine bdE hr fun y20 hy20 hr=>J g<|J (CB' [] [] (q4p hy20))<|e
 exact e
 refine bdE hr fun s19 hqq19 hr=>q0a 5 [(2,dB false),(99,dB s19)] ?_ ?_
 replace hr:=hqq19
 refine ifE hr ?_ ?_<;>intro h32 hr
 refine bdE hr fun y21 hy21 hr=>J g<|J (CB' [] [] (q7n (m:=m) hy21))<|e
 exact e
 exact e
 exact e
theorem z2B {Rc11:Expr→Option Bool}(Ic11:∀ {m:Md} {a0:Expr} {r:Bool},Rc11 a0=some r→Ok Tryz.prog 213 [Expr.x m a0,.fn 245 []] [] (dB r) []){m:Md}{a0:Expr}{r:Bool}(hr:q5L Rc11 a0=some r):Ok Tryz.prog 233 [Expr.x m a0,.pb 0 0] [.box [.fn 245 []]] (dB r) [.box [.fn 245 []]]:=by
 refine OE Tryz.func233 fun S hS=>?_
 unfold q5L at hr
 refine J g<|J (BX' 1)<|bdE hr fun y1 hy1 hr=>J g<|J (CB' [] [] (Ic11 (m:=m) hy1))<|e
theorem q6C {Rc11:Expr→Option Bool}(Ic11:∀ {m:Md} {a0:Expr} {r:Bool},Rc11 a0=some r→Ok Tryz.prog 213 [Expr.x m a0,.fn 245 []] [] (dB r) []){m:Md}{a0:(List Expr)}{r:Int}(hr:q3S Rc11 a0=some r):Ok Tryz.prog 212 [.d m (.sl 7 (a0.map Expr.D)),.fn 233 [.pb 0 0]] [.box [.fn 245 []]] (dI r) [.box [.fn 245 []]]:=by
 refine OE Tryz.func212 fun S hS=>?_
 unfold q3S at hr
 refine J (gn 12)<|J (lenT 0)<|fun hl1=>bdE hr fun q1 hqq1 hr=>q0b hqq1 hl1 1 (fun k1 _=>[(0,.d m (.sl 7 (a0.map Expr.D))),(1,.fn 233 [.pb 0 0]),(7,dI (a0.length:Int)),(8,dI (k1:Int))]) (fun k1 _=>[]) I (fun k1 xk1 sk1 ok1 hxk1 hr hltk1 hik1=>?_) fun k1 sk1 ek1 hltk1=>?_
 refine bdE hr fun y1 hy1 hr=>J g<|J (CB' [(0,0)] [] (z2B Ic11 (m:=m) hy1))<|J (gn 1)<|ifE hr ?_ ?_<;>intro h1 hr
 exact e
 exact e
 subst ek1
 exact e
theorem q6r {Rc11:Expr→Option Bool}(Ic11:∀ {m:Md} {a0:Expr} {r:Bool},Rc11 a0=some r→Ok Tryz.prog 213 [Expr.x m a0,.fn 245 []] [] (dB r) []){m:Md}{a0:(List Expr)}{r:Bool}(hr:q3M Rc11 a0=some r):Ok Tryz.prog 178 [.d m (.sl 7 (a0.map Expr.D)),.fn 233 [.pb 0 0]] [.box [.fn 245 []]] (dB r) [.box [.fn 245 []]]:=by
 refine OE Tryz.func178 fun S hS=>?_
 unfold q3M at hr
 refine bdE hr fun y1 hy1 hr=>J g<|J (CB' [(0,0)] [] (q6C Ic11 (m:=m) hy1))<|e
theorem z2N {Rc11:Expr→Option Bool}(Ic11:∀ {m:Md} {a0:Expr} {r:Bool},Rc11 a0=some r→Ok Tryz.prog 213 [Expr.x m a0,.fn 245 []] [] (dB r) []){m:Md}{a0:Expr}{r:Bool}(hr:q5u Rc11 a0=some r):Ok Tryz.prog 213 [Expr.x m a0,.fn 245 []] [] (dB r) []:=by
 refine OE Tryz.func213 fun S hS=>?_
 unfold q5u at hr
 refine J g<|J (BX' 0)<|J (BX' 1)<|bdE hr fun y1 hy1 hr=>J g<|J (CB' [] [] (j1W (m:=m) hy1))<|ifE hr ?_ ?_<;>intro h1 hr
 refine bdE hr fun y2 hy2 hr=>J g<|J (CB' [(0,1)] [] (q6r Ic11 (m:=m) hy2))<|e
 exact e
theorem z2O (n:Nat):∀ {m:Md} {a0:Expr} {r:Bool},q5v n a0=some r→Ok Tryz.prog 213 [Expr.x m a0,.fn 245 []] [] (dB r) []:=by
  induction n with
  | zero=>intro _ _ r hr;exact nomatch (show (none:Option Bool)=some r from hr)
  | succ n ih=>intro _ _ r hr;exact z2N ih hr
theorem z3z {m:Md}{a0:Expr}{r:Bool}(hr:q7a a0=some r):Ok Tryz.prog 213 [Expr.x m a0,.fn 245 []] [] (dB r) []:=by
 obtain⟨n,hn⟩:=q5M hr
 exact z2O n hn
theorem j0R {m:Md}{a0:Expr}{r:Bool}(hr:q8V a0=some r):Ok Tryz.prog 231 [Expr.x m a0] [] (dB r) []:=by
 refine OE Tryz.func231 fun S hS=>?_
 unfold q8V at hr
 refine J g<|J (BX' 0)<|bdE hr fun y1 hy1 hr=>J g<|J (CB' [] [] (j3q (m:=m) hy1))<|bdE hr fun s1 hqq1 hr=>J (gn 1)<|q0a 5 [(1,.pb 0 0),(2,dB false),(10,dB s1)] ?_ ?_
 replace hr:=hqq1
 refine ifE hr ?_ ?_<;>intro h1 hr
 refine bdE hr fun y2 hy2 hr=>J g<|J (CB' [] [] (j0Q (m:=m) hy2))<|e
 exact e
 refine bdE hr fun s2 hqq2 hr=>q0a 4 [(2,dB false),(14,dB s2)] ?_ ?_
 replace hr:=hqq2
 refine ifE hr ?_ ?_<;>intro h2 hr
 refine bdE hr fun y3 hy3 hr=>J g<|J (CB' [] [] (z3z (m:=m) hy3))<|e
 exact e
 exact e
theorem j8I {m:Md}{a0:Expr}{a1:Int}{r:Bool}(hr:z7P a0 a1=some r):Ok Tryz.prog 232 [Expr.x m a0,.pb 0 0] [.box [dI a1]] (dB r) [.box [dI a1]]:=by
 refine OE Tryz.func232 fun S hS=>?_
 unfold z7P at hr
 refine J g<|J (BX' 1)<|e
theorem z4I {Rc12:Expr→Int→Option Bool}(Ic12:∀ {m:Md} {a0:Expr} {a1_0:Int} {r:Bool},Rc12 a0 a1_0=some r→Ok Tryz.prog 213 [Expr.x m a0,.fn 232 [.pb 0 0]] [.box [dI a1_0]] (dB r) [.box [dI a1_0]]){m:Md}{a0:Expr}{a1_0:Int}{r:Bool}(hr:q6A Rc12 a0 a1_0=some r):Ok Tryz.prog 233 [Expr.x m a0,.pb 1 0] [.box [dI a1_0],.box [.fn 232 [.pb 0 0]]] (dB r) [.box [dI a1_0],.box [.fn 232 [.pb 0 0]]]:=by
 refine OE Tryz.func233 fun S hS=>?_
 unfold q6A at hr
 refine J g<|J (BX' 2)<|bdE hr fun y1 hy1 hr=>J g<|J (CB' [(0,0)] [] (Ic12 (m:=m) hy1))<|e
theorem q7f {Rc12:Expr→Int→Option Bool}(Ic12:∀ {m:Md} {a0:Expr} {a1_0:Int} {r:Bool},Rc12 a0 a1_0=some r→Ok Tryz.prog 213 [Expr.x m a0,.fn 232 [.pb 0 0]] [.box [dI a1_0]] (dB r) [.box [dI a1_0]]){m:Md}{a0:(List Expr)}{a1_0_0:Int}{r:Int}(hr:q4e Rc12 a0 a1_0_0=some r):Ok Tryz.prog 212 [.d m (.sl 7 (a0.map Expr.D)),.fn 233 [.pb 1 0]] [.box [dI a1_0_0],.box [.fn 232 [.pb 0 0]]] (dI r) [.box [dI a1_0_0],.box [.fn 232 [.pb 0 0]]]:=by
 refine OE Tryz.func212 fun S hS=>?_
 unfold q4e at hr
 refine J (gn 12)<|J (lenT 0)<|fun hl1=>bdE hr fun q1 hqq1 hr=>q0b hqq1 hl1 2 (fun k1 _=>[(0,.d m (.sl 7 (a0.map Expr.D))),(1,.fn 233 [.pb 1 0]),(7,dI (a0.length:Int)),(8,dI (k1:Int))]) (fun k1 _=>[]) I (fun k1 xk1 sk1 ok1 hxk1 hr hltk1 hik1=>?_) fun k1 sk1 ek1 hltk1=>?_
 refine bdE hr fun y1 hy1 hr=>J g<|J (CB' [(0,0),(1,1)] [] (z4I Ic12 (m:=m) hy1))<|J (gn 1)<|ifE hr ?_ ?_<;>intro h1 hr
 exact e
 exact e
 subst ek1
 exact e
theorem q6O {Rc12:Expr→Int→Option Bool}(Ic12:∀ {m:Md} {a0:Expr} {a1_0:Int} {r:Bool},Rc12 a0 a1_0=some r→Ok Tryz.prog 213 [Expr.x m a0,.fn 232 [.pb 0 0]] [.box [dI a1_0]] (dB r) [.box [dI a1_0]]){m:Md}{a0:(List Expr)}{a1_0_0:Int}{r:Bool}(hr:q3Y Rc12 a0 a1_0_0=some r):Ok Tryz.prog 178 [.d m (.sl 7 (a0.map Expr.D)),.fn 233 [.pb 1 0]] [.box [dI a1_0_0],.box [.fn 232 [.pb 0 0]]] (dB r) [.box [dI a1_0_0],.box [.fn 232 [.pb 0 0]]]:=by
 refine OE Tryz.func178 fun S hS=>?_
 unfold q3Y at hr
 refine bdE hr fun y1 hy1 hr=>J g<|J (CB' [(0,0),(1,1)] [] (q7f Ic12 (m:=m) hy1))<|e
theorem z4X {Rc12:Expr→Int→Option Bool}(Ic12:∀ {m:Md} {a0:Expr} {a1_0:Int} {r:Bool},Rc12 a0 a1_0=some r→Ok Tryz.prog 213 [Expr.x m a0,.fn 232 [.pb 0 0]] [.box [dI a1_0]] (dB r) [.box [dI a1_0]]){m:Md}{a0:Expr}{a1_0:Int}{r:Bool}(hr:q6f Rc12 a0 a1_0=some r):Ok Tryz.prog 213 [Expr.x m a0,.fn 232 [.pb 0 0]] [.box [dI a1_0]] (dB r) [.box [dI a1_0]]:=by
 refine OE Tryz.func213 fun S hS=>?_
 unfold q6f at hr
 refine J g<|J (BX' 1)<|J (BX' 2)<|bdE hr fun y1 hy1 hr=>J g<|J (CB' [(0,0)] [] (j8I (m:=m) hy1))<|ifE hr ?_ ?_<;>intro h1 hr
 refine bdE hr fun y2 hy2 hr=>J g<|J (CB' [(0,0),(1,2)] [] (q6O Ic12 (m:=m) hy2))<|e
 exact e
theorem z4Y (n:Nat):∀ {m:Md} {a0:Expr} {a1_0:Int} {r:Bool},q6g n a0 a1_0=some r→Ok Tryz.prog 213 [Expr.x m a0,.fn 232 [.pb 0 0]] [.box [dI a1_0]] (dB r) [.box [dI a1_0]]:=by
  induction n with
  | zero=>intro _ _ _ r hr;exact nomatch (show (none:Option Bool)=some r from hr)
  | succ n ih=>intro _ _ _ r hr;exact z4X ih hr
theorem z5I {m:Md}{a0:Expr}{a1_0:Int}{r:Bool}(hr:q8I a0 a1_0=some r):Ok Tryz.prog 213 [Expr.x m a0,.fn 232 [.pb 0 0]] [.box [dI a1_0]] (dB r) [.box [dI a1_0]]:=by
 obtain⟨n,hn⟩:=q5M hr
 exact z4Y n hn
theorem j3r {m:Md}{a0:Expr}{a1:Int}{r:Bool}(hr:z6O a0 a1=some r):Ok Tryz.prog 207 [Expr.x m a0,dI a1] [] (dB r) []:=by
 refine OE Tryz.func207 fun S hS=>?_
 unfold z6O at hr
 refine J g<|J (BX' 0)<|J (BX' 1)<|bdE hr fun y1 hy1 hr=>J g<|J (CB' [] [] (j0R (m:=m) hy1))<|ifE hr ?_ ?_<;>intro h1 hr
 refine bdE hr fun y2 hy2 hr=>J g<|J (CB' [(0,1)] [] (z5I (m:=m) hy2))<|e
 exact e
theorem j0S {m:Md}{a0:Rule}{r:Bool}(hr:q8W a0=some r):Ok Tryz.prog 166 [Rule.x m a0] [] (dB r) []:=by
 refine OE Tryz.func166 fun S hS=>?_
 unfold q8W at hr
 refine J g<|J (BX' 0)<|bdE hr fun y1 hy1 hr=>J g<|J (CB' [] [] (q5a hy1))<|bdE hr fun s1 hqq1 hr=>J (gn 1)<|q0a 6 [(1,.pb 0 0),(3,dI (a0.rt_.length:Int)),(22,dB s1)] ?_ ?_
 replace hr:=hqq1
 refine ifE hr ?_ ?_<;>intro h1 hr
 refine bdE hr fun y2 hy2 hr=>J g<|J (CB' [] [] (q5a hy2))<|e
 exact e
 refine bdE hr fun s2 hqq2 hr=>q0a 4 [(1,.pb 0 0),(3,dI (a0.rt_.length:Int)),(26,dB s2)] ?_ ?_
 replace hr:=hqq2
 refine ifE hr ?_ ?_<;>intro h2 hr
 exact e
 exact e
 refine bdE hr fun s3 hqq3 hr=>q0a 6 [(1,.pb 0 0),(3,dI (a0.rt_.length:Int)),(32,dB s3)] ?_ ?_
 replace hr:=hqq3
 refine ifE hr ?_ ?_<;>intro h3 hr
 exact e
 exact e
 refine J (gn 1)<|ifE hr ?_ ?_<;>intro h4 hr
 exact e
 refine J (gn 11)<|J (lenT 34)<|fun hl1=>bdE hr fun q4 hqq4 hr=>q0b hqq4 hl1 1 (fun k1 _=>[(1,.pb 0 0),(3,dI (a0.rt_.length:Int)),(34,.d m (.sl 1 (a0.rt_.map A.D.s))),(35,dI (a0.rt_.length:Int)),(36,dI (k1:Int))]) (fun k1 _=>[]) I (fun k1 xk1 sk1 ok1 hxk1 hr hltk1 hik1=>?_) fun k1 sk1 ek1 hltk1=>?_
 refine bdE hr fun y3 hy3 hr=>J g<|J (CB' [] [] (q5a hy3))<|J (gn 2)<|ifE hr ?_ ?_<;>intro h5 hr
 exact e
 exact e
 subst ek1
 refine J (gn 16)<|J (lenT 45)<|fun hl2=>bdE hr fun q5 hqq5 hr=>q0b hqq5 hl2 1 (fun k2 _=>[(1,.pb 0 0),(3,dI (a0.rt_.length:Int)),(45,.d m (.sl 9 (a0.es_.map Eqn.D))),(46,dI (a0.es_.length:Int)),(47,dI (k2:Int))]) (fun k2 _=>[]) I (fun k2 xk2 sk2 ok2 hxk2 hr hltk2 hik2=>?_) fun k2 sk2 ek2 hltk2=>?_
 refine J g<|J (NV' 1)<|bdE hr fun y4 hy4 hr=>J g<|J (CB' [] [] (j3r (m:=m) hy4))<|bdE hr fun s4 hqq6 hr=>J (gn 1)<|q0a 7 [(1,.pb 0 0),(3,dI (a0.rt_.length:Int)),(7,.pb 1 0),(45,.d m (.sl 9 (a0.es_.map Eqn.D))),(46,dI (a0.es_.length:Int)),(47,dI (k2:Int)),(62,dB s4)] ?_ ?_
 replace hr:=hqq6
 refine ifE hr ?_ ?_<;>intro h6 hr
 refine bdE hr fun y5 hy5 hr=>J g<|J (CB' [] [] (q5a hy5))<|e
 exact e
 refine bdE hr fun s5 hqq7 hr=>q0a 8 [(1,.pb 0 0),(3,dI (a0.rt_.length:Int)),(45,.d m (.sl 9 (a0.es_.map Eqn.D))),(46,dI (a0.es_.length:Int)),(47,dI (k2:Int)),(70,dB s5)] ?_ ?_
 replace hr:=hqq7
 refine ifE hr ?_ ?_<;>intro h7 hr
 exact e
 refine bdE hr fun y6 hy6 hr=>J g<|J (CB' [] [] (q4p hy6))<|e
 refine J (gn 1)<|ifE hr ?_ ?_<;>intro h8 hr
 exact e
 exact e
 subst ek2
 refine J (gn 16)<|J (lenT 73)<|fun hl3=>bdE hr fun q8 hqq8 hr=>q0b hqq8 hl3 1 (fun k3 _=>[(3,dI (a0.rt_.length:Int)),(73,.d m (.sl 16 (a0.cs_.map Cn.D))),(74,dI (a0.cs_.length:Int)),(75,dI (k3:Int))]) (fun k3 _=>[]) I (fun k3 xk3 sk3 ok3 hxk3 hr hltk3 hik3=>?_) fun k3 sk3 ek3 hltk3=>?_
 refine J g<|J (NV' 1)<|bdE hr fun y7 hy7 hr=>J g<|J (CB' [] [] (j3r (m:=m) hy7))<|bdE hr fun s6 hqq9 hr=>J (gn 1)<|q0a 7 [(3,dI (a0.rt_.length:Int)),(9,.pb 1 0),(73,.d m (.sl 16 (a0.cs_.map Cn.D))),(74,dI (a0.cs_.length:Int)),(75,dI (k3:Int)),(90,dB s6)] ?_ ?_
 replace hr:=hqq9
 refine ifE hr ?_ ?_<;>intro h9 hr
 refine bdE hr fun y8 hy8 hr=>J g<|J (CB' [] [] (j3r (m:=m) hy8))<|e
 exact e
 refine bdE hr fun s7 hqq10 hr=>q0a 6 [(3,dI (a0.rt_.length:Int)),(9,.pb 1 0),(73,.d m (.sl 16 (a0.cs_.map Cn.D))),(74,dI (a0.cs_.length:Int)),(75,dI (k3:Int)),(96,dB s7)] ?_ ?_
 replace hr:=hqq10
 refine ifE hr ?_ ?_<;>intro h10 hr
 exact e
 refine bdE hr fun y9 hy9 hr=>J g<|J (CB' [] [] (q5a hy9))<|e
 refine bdE hr fun s8 hqq11 hr=>q0a 6 [(3,dI (a0.rt_.length:Int)),(73,.d m (.sl 16 (a0.cs_.map Cn.D))),(74,dI (a0.cs_.length:Int)),(75,dI (k3:Int)),(102,dB s8)] ?_ ?_
 replace hr:=hqq11
 refine ifE hr ?_ ?_<;>intro h11 hr
 exact e
 refine bdE hr fun y10 hy10 hr=>J g<|J (CB' [] [] (q5a hy10))<|e
 refine J (gn 1)<|ifE hr ?_ ?_<;>intro h12 hr
 exact e
 exact e
 subst ek3
 exact e
theorem z9G {m:Md}{m2:Md}{a0:Rule}{a1:Rule}{r:Bool}(hr:q9Y a0 a1=some r):Ok Tryz.prog 168 [Rule.x m a0,.pb 0 0] [.box [dS a1.Name,dS a1.Left,.d m2 (.sl 1 (a1.rt_.map A.D.s)),dB a1.ll_,.d m2 (.sl 9 (a1.es_.map Eqn.D)),.d m2 (.sl 16 (a1.cs_.map Cn.D))]] (dB r) [.box [dS a1.Name,dS a1.Left,.d m2 (.sl 1 (a1.rt_.map A.D.s)),dB a1.ll_,.d m2 (.sl 9 (a1.es_.map Eqn.D)),.d m2 (.sl 16 (a1.cs_.map Cn.D))]]:=by
 refine OE Tryz.func168 fun S hS=>?_
 unfold q9Y at hr
 refine J g<|J (BX' 1)<|e
theorem q8D {m:Md}{m2:Md}{a0:(List Rule)}{a1_0:Rule}{r:Int}(hr:q4D a0 a1_0=some r):Ok Tryz.prog 208 [.d m (.sl 6 (a0.map Rule.D)),.fn 168 [.pb 0 0]] [.box [dS a1_0.Name,dS a1_0.Left,.d m2 (.sl 1 (a1_0.rt_.map A.D.s)),dB a1_0.ll_,.d m2 (.sl 9 (a1_0.es_.map Eqn.D)),.d m2 (.sl 16 (a1_0.cs_.map Cn.D))]] (dI r) [.box [dS a1_0.Name,dS a1_0.Left,.d m2 (.sl 1 (a1_0.rt_.map A.D.s)),dB a1_0.ll_,.d m2 (.sl 9 (a1_0.es_.map Eqn.D)),.d m2 (.sl 16 (a1_0.cs_.map Cn.D))]]:=by
 refine OE Tryz.func208 fun S hS=>?_
 unfold q4D at hr
 refine J (gn 12)<|J (lenT 0)<|fun hl1=>bdE hr fun q1 hqq1 hr=>q0b hqq1 hl1 1 (fun k1 _=>[(0,.d m (.sl 6 (a0.map Rule.D))),(1,.fn 168 [.pb 0 0]),(7,dI (a0.length:Int)),(8,dI (k1:Int))]) (fun k1 _=>[]) I (fun k1 xk1 sk1 ok1 hxk1 hr hltk1 hik1=>?_) fun k1 sk1 ek1 hltk1=>?_
 refine bdE hr fun y1 hy1 hr=>J g<|J (CB' [(0,0)] [] (z9G (m:=m) (m2:=m2) hy1))<|J (gn 1)<|ifE hr ?_ ?_<;>intro h1 hr
 exact e
 exact e
 subst ek1
 exact e
theorem q7P {m:Md}{m2:Md}{a0:(List Rule)}{a1_0:Rule}{r:Bool}(hr:q4r a0 a1_0=some r):Ok Tryz.prog 167 [.d m (.sl 6 (a0.map Rule.D)),.fn 168 [.pb 0 0]] [.box [dS a1_0.Name,dS a1_0.Left,.d m2 (.sl 1 (a1_0.rt_.map A.D.s)),dB a1_0.ll_,.d m2 (.sl 9 (a1_0.es_.map Eqn.D)),.d m2 (.sl 16 (a1_0.cs_.map Cn.D))]] (dB r) [.box [dS a1_0.Name,dS a1_0.Left,.d m2 (.sl 1 (a1_0.rt_.map A.D.s)),dB a1_0.ll_,.d m2 (.sl 9 (a1_0.es_.map Eqn.D)),.d m2 (.sl 16 (a1_0.cs_.map Cn.D))]]:=by
 refine OE Tryz.func167 fun S hS=>?_
 unfold q4r at hr
 refine bdE hr fun y1 hy1 hr=>J g<|J (CB' [(0,0)] [] (q8D (m:=m) (m2:=m2) hy1))<|e
theorem j1X {m:Md}{a0:Gm_}{r:Int}(hr:q9Z a0=some r):Ok Tryz.prog 124 [Gm_.x m a0] [] (dI r) []:=by
 refine OE Tryz.func124 fun S hS=>?_
 unfold q9Z at hr
 refine J g<|J (BX' 0)<|J (gn 11)<|J (lenA 0 0)<|fun hl1=>bdE hr fun q1 hqq1 hr=>q0b hqq1 hl1 1 (fun k1 _=>[(1,.pb 0 0),(8,.d m (.sl 2 (a0.ss_.map Symbol.D))),(9,dI (a0.ss_.length:Int)),(10,dI (k1:Int))]) (fun k1 _=>[]) I (fun k1 xk1 sk1 ok1 hxk1 hr hltk1 hik1=>?_) fun k1 sk1 ek1 hltk1=>?_
 refine J g<|J (NV' 1)<|bdE hr fun y1 hy1 hr=>J g<|J (CB' [] [] (z8D (m:=m) hy1))<|J (gn 1)<|ifE hr ?_ ?_<;>intro h1 hr
 refine ggE hr fun g1 hr=>J g<|J (SLH' (Dmz _) g1)<|bdE hr fun y2 hy2 hr=>J g<|J (CB' [(0,1)] [] (q7v (m:=m) (m2:=m) hy2))<|J (gn 2)<|ifE hr ?_ ?_<;>intro h2 hr
 exact e
 exact e
 exact e
 subst ek1
 refine J (gn 16)<|J (lenT 29)<|fun hl2=>bdE hr fun q2 hqq2 hr=>q0b hqq2 hl2 1 (fun k2 _=>[(1,.pb 0 0),(29,.d m (.sl 6 (a0.rs_.map Rule.D))),(30,dI (a0.rs_.length:Int)),(31,dI (k2:Int))]) (fun k2 _=>[]) I (fun k2 xk2 sk2 ok2 hxk2 hr hltk2 hik2=>?_) fun k2 sk2 ek2 hltk2=>?_
 refine J g<|J (NV' 1)<|bdE hr fun y3 hy3 hr=>J g<|J (CB' [] [] (j0S (m:=m) hy3))<|J (gn 1)<|ifE hr ?_ ?_<;>intro h3 hr
 refine ggE hr fun g2 hr=>J g<|J (SLH' (Dmz _) g2)<|bdE hr fun y4 hy4 hr=>J g<|J (CB' [(0,1)] [] (q7P (m:=m) (m2:=m) hy4))<|J (gn 2)<|ifE hr ?_ ?_<;>intro h4 hr
 exact e
 exact e
 exact e
 subst ek2
 exact e
theorem z9H {a0:At_}{r:Bool}(hr:z0a a0=some r):Ok Tryz.prog 126 [At_.x .fz a0] [] (dB r) []:=by
 refine OE Tryz.func126 fun S hS=>?_
 unfold z0a at hr
 refine J g<|J (BX' 0)<|e
theorem q7w {m:Md}{a0:(List At_)}{r:Int}(hr:q4m a0=some r):Ok Tryz.prog 169 [.d m (.sl 4 (a0.map At_.D)),.fn 126 []] [] (dI r) []:=by
 refine OE Tryz.func169 fun S hS=>?_
 unfold q4m at hr
 refine J (gn 12)<|J (lenT 0)<|fun hl1=>bdE hr fun q1 hqq1 hr=>q0b hqq1 hl1 0 (fun k1 _=>[(0,.d m (.sl 4 (a0.map At_.D))),(1,.fn 126 []),(7,dI (a0.length:Int)),(8,dI (k1:Int))]) (fun k1 _=>[]) I (fun k1 xk1 sk1 ok1 hxk1 hr hltk1 hik1=>?_) fun k1 sk1 ek1 hltk1=>?_
 refine bdE hr fun y1 hy1 hr=>J g<|J (CB' [] [] (z9H hy1))<|J (gn 1)<|ifE hr ?_ ?_<;>intro h1 hr
 exact e
 exact e
 subst ek1
 exact e
theorem q6U {m:Md}{a0:(List At_)}{r:Bool}(hr:q4c a0=some r):Ok Tryz.prog 125 [.d m (.sl 4 (a0.map At_.D)),.fn 126 []] [] (dB r) []:=by
 refine OE Tryz.func125 fun S hS=>?_
 unfold q4c at hr
 refine bdE hr fun y1 hy1 hr=>J g<|J (CB' [] [] (q7w (m:=m) hy1))<|e
theorem z3i {m:Md}{a0:Rule}{a1:Int}{r:BA_}(hr:q6y a0 a1=some r):Ok Tryz.prog 170 [Rule.x m a0,dI a1] [] (dS r) []:=by
 refine OE Tryz.func170 fun S hS=>?_
 unfold q6y at hr
 refine J g<|J (BX' 0)<|J (gn 10)<|ifE hr ?_ ?_<;>intro h1 hr
 exact e
 refine bdE hr fun y1 hy1 hr=>J g<|J (CB' [] [] (q4p hy1))<|J (gn 2)<|ifE hr ?_ ?_<;>intro h2 hr
 refine ggE hr fun g1 hr=>ggE hr fun g2 hr=>bdE hr fun x1 hx1 hr=>e
 exact e
theorem q7N {m:Md}{a0:Gm_}{a1:BA_}{r:(Symbol×Bool)}(hr:q5n a0 a1=some r):Ok Tryz.prog 133 [Gm_.y m a0,dS a1] [] (.tu [Symbol.x m r.1,dB r.2]) []:=by
 refine OE Tryz.func133 fun S hS=>?_
 unfold q5n at hr
 refine J g<|J (BX' 0)<|J (NV' 1)<|J (gn 11)<|J (lenA 0 0)<|fun hl1=>bdE hr fun q1 hqq1 hr=>q0b hqq1 hl1 2 (fun k1 _=>[(1,dS a1),(4,.pb 1 0),(9,.d m (.sl 2 (a0.ss_.map Symbol.D))),(10,dI (a0.ss_.length:Int)),(11,dI (k1:Int))]) (fun k1 _=>[]) I (fun k1 xk1 sk1 ok1 hxk1 hr hltk1 hik1=>?_) fun k1 sk1 ek1 hltk1=>?_
 refine J g<|J (NV' 2)<|J (gn 9)<|ifE hr ?_ ?_<;>intro h1 hr
 exact e
 exact e
 subst ek1
 refine J (gn 14) ?_
 cases hr
 exact endA.ren [] 0 (.inr rfl) hS rfl rfl rfl (.tu (.cons (.ag (.cons .rfl (.cons .nld .nil))) (.cons .rfl .nil))) rfl rfl
theorem j6k {m:Md}{a0:Gm_}{a1:Rule}{r:Bool}(hr:z3V a0 a1=some r):Ok Tryz.prog 127 [Gm_.y m a0,Rule.x m a1] [] (dB r) []:=by
 refine OE Tryz.func127 fun S hS=>?_
 unfold z3V at hr
 refine J g<|J (BX' 0)<|J (BX' 1)<|ggE hr fun g1 hr=>J (gn 12)<|J (rngT 11)<|fun hl1=>bdE hr fun q1 hqq1 hr=>q0s hqq1 2 (fun k1 _=>[(2,.pb 0 0),(3,.pb 1 0),(11,dI ((a1.rt_.length+1:Nat):Int)),(12,dI (k1:Int))]) (fun k1 _=>[]) I (fun k1 sk1 ok1 hr hltk1 hik1=>?_) fun sk1 ek1=>?_
 refine bdE hr fun y1 hy1 hr=>J g<|J (CB' [] [] (z3i (m:=m) hy1))<|bdP hr fun y2 y3 hq2 hr=>J (CB' [] [] (q7N (m:=m) hq2))<|J g<|J (NV' 2)<|J (gn 8)<|ifE hr ?_ ?_<;>intro h1 hr
 exact e
 exact e
 subst ek1
 exact e
theorem z9r {m:Md}{a0:Gm_}{a1:Rule}{r:(List Oc)}(hr:z0y a0 a1=some r):Ok Tryz.prog 172 [Gm_.y m a0,Rule.x m a1] [] (.ref 0 none) [.row .fz 2 (r.map Oc.D)]:=by
 refine OE Tryz.func172 fun S hS=>?_
 unfold z0y at hr
 refine J g<|J (BX' 0)<|J (BX' 1)<|J g<|J (L0' 2 Oc.D)<|ggE hr fun g1 hr=>J (gn 12)<|J (rngT 16)<|fun hl1=>bdE hr fun s1 hqq1 hr=>q0n hqq1 3 (fun k1 s1=>[(2,.pb 0 0),(3,.pb 1 0),(5,.ref 2 none),(16,dI ((a1.rt_.length+1:Nat):Int)),(17,dI (k1:Int))]) (fun k1 s1=>[(2,.row .fz 2 (s1.map Oc.D))]) I (fun k1 sk1 ok1 hr hltk1=>?_) ?_
 obtain⟨s1,rfl⟩:∃ y,y=sk1:=⟨_,rfl⟩
 refine bdE hr fun s2 hqq2 hr=>J (gn 24)<|q0e 3 [(2,.pb 0 0),(3,.pb 1 0),(5,.ref 2 none),(6,dI (k1:Int)),(7,dI s2),(16,dI ((a1.rt_.length+1:Nat):Int)),(17,dI (k1:Int))] [] ?_ ?_
 replace hr:=hqq2
 refine ifE hr ?_ ?_<;>intro h1 hr
 exact e
 exact e
 refine bdE hr fun y1 hy1 hr=>J g<|J (CB' [] [] (z3i (m:=m) hy1))<|bdP hr fun y2 y3 hq3 hr=>J (CB' [] [] (q7N (m:=m) hq3))<|J g<|J (NV' 3)<|J (gn 11) ?_
 refine AW.len (.ag 1 (.tu 0 (.tmp 22 rfl) rfl) rfl) fun hl2=>?_
 refine bdE hr fun s3 hqq4 hr=>q0c hqq4 hl2 4 (fun k2 s3=>[(2,.pb 0 0),(3,.pb 1 0),(5,.ref 2 none),(6,dI (k1:Int)),(7,dI s2),(16,dI ((a1.rt_.length+1:Nat):Int)),(17,dI (k1:Int)),(31,.d m (.sl 4 (y2.as_.map At_.D))),(32,dI (y2.as_.length:Int)),(33,dI (k2:Int))]) (fun k2 s3=>[(2,.row .fz 2 (s3.map Oc.D))]) I (fun k2 xk2 sk2 ok2 hxk2 hr hltk2=>?_) fun k2 hltk2=>?_
 obtain⟨s3,rfl⟩:∃ y,y=sk2:=⟨_,rfl⟩
 refine bdE hr fun s4 hqq5 hr=>J (gn 8)<|q0e 4 [(2,.pb 0 0),(3,.pb 1 0),(5,.ref 2 none),(6,dI (k1:Int)),(7,dI s2),(16,dI ((a1.rt_.length+1:Nat):Int)),(17,dI (k1:Int)),(31,.d m (.sl 4 (y2.as_.map At_.D))),(32,dI (y2.as_.length:Int)),(33,dI (k2:Int))] [(2,.row .fz 2 (s4.map Oc.D))] ?_ ?_
 replace hr:=hqq5
 refine J g<|J (NV' 4)<|J (gn 9)<|ifE hr ?_ ?_<;>intro h2 hr
 refine J g<|J (LIR' 5 (m:=.fz) (f:=Oc.D) (xs:=[(⟨(k1:Int),xk2.Name⟩:Oc)]))<|ggE hr fun g2 hr=>J (z1H (f:=Oc.D) 6 (fun _=>rfl) 24 g2)<|e
 exact e
 exact e
 exact e
 exact e
theorem j0T {m:Md}{a0:Eqn}{a1:Oc}{r:Bool}(hr:z1a a0 a1=some r):Ok Tryz.prog 175 [Eqn.x m a0,.pb 0 0] [.box [dI a1.Pos,dS a1.Name]] (dB r) [.box [dI a1.Pos,dS a1.Name]]:=by
 refine OE Tryz.func175 fun S hS=>?_
 unfold z1a at hr
 refine J g<|J (BX' 1)<|J g ?_
 refine J (SQ' rfl rfl rfl rfl (q5z a0.At a1))<|J g<|E
theorem q7Q {m:Md}{a0:(List Eqn)}{a1_0:Oc}{r:Int}(hr:q4s a0 a1_0=some r):Ok Tryz.prog 210 [.d m (.sl 9 (a0.map Eqn.D)),.fn 175 [.pb 0 0]] [.box [dI a1_0.Pos,dS a1_0.Name]] (dI r) [.box [dI a1_0.Pos,dS a1_0.Name]]:=by
 refine OE Tryz.func210 fun S hS=>?_
 unfold q4s at hr
 refine J (gn 12)<|J (lenT 0)<|fun hl1=>bdE hr fun q1 hqq1 hr=>q0b hqq1 hl1 1 (fun k1 _=>[(0,.d m (.sl 9 (a0.map Eqn.D))),(1,.fn 175 [.pb 0 0]),(7,dI (a0.length:Int)),(8,dI (k1:Int))]) (fun k1 _=>[]) I (fun k1 xk1 sk1 ok1 hxk1 hr hltk1 hik1=>?_) fun k1 sk1 ek1 hltk1=>?_
 refine bdE hr fun y1 hy1 hr=>J g<|J (CB' [(0,0)] [] (j0T (m:=m) hy1))<|J (gn 1)<|ifE hr ?_ ?_<;>intro h1 hr
 exact e
 exact e
 subst ek1
 exact e
theorem q7k {m:Md}{a0:(List Eqn)}{a1_0:Oc}{r:Bool}(hr:q4h a0 a1_0=some r):Ok Tryz.prog 174 [.d m (.sl 9 (a0.map Eqn.D)),.fn 175 [.pb 0 0]] [.box [dI a1_0.Pos,dS a1_0.Name]] (dB r) [.box [dI a1_0.Pos,dS a1_0.Name]]:=by
 refine OE Tryz.func174 fun S hS=>?_
 unfold q4h at hr
 refine bdE hr fun y1 hy1 hr=>J g<|J (CB' [(0,0)] [] (q7Q (m:=m) hy1))<|e
theorem j3s {m2:Md}{a0:Oc}{a1:Rule}{r:Bool}(hr:z3b a0 a1=some r):Ok Tryz.prog 173 [Oc.x .fz a0,.pb 0 0] [.box [dS a1.Name,dS a1.Left,.d m2 (.sl 1 (a1.rt_.map A.D.s)),dB a1.ll_,.d m2 (.sl 9 (a1.es_.map Eqn.D)),.d m2 (.sl 16 (a1.cs_.map Cn.D))]] (dB r) [.box [dS a1.Name,dS a1.Left,.d m2 (.sl 1 (a1.rt_.map A.D.s)),dB a1.ll_,.d m2 (.sl 9 (a1.es_.map Eqn.D)),.d m2 (.sl 16 (a1.cs_.map Cn.D))]]:=by
 refine OE Tryz.func173 fun S hS=>?_
 unfold z3b at hr
 refine J g<|J (BX' 1)<|bdE hr fun y1 hy1 hr=>J g<|J (CB' [(0,1)] [] (q7k (m:=m2) hy1))<|e
theorem q7R {m2:Md}{a0:(List Oc)}{a1_0:Rule}{r:Int}(hr:q4t a0 a1_0=some r):Ok Tryz.prog 209 [.ref 1 none,.fn 173 [.pb 0 0]] [.box [dS a1_0.Name,dS a1_0.Left,.d m2 (.sl 1 (a1_0.rt_.map A.D.s)),dB a1_0.ll_,.d m2 (.sl 9 (a1_0.es_.map Eqn.D)),.d m2 (.sl 16 (a1_0.cs_.map Cn.D))],.row .fz 2 (a0.map Oc.D)] (dI r) [.box [dS a1_0.Name,dS a1_0.Left,.d m2 (.sl 1 (a1_0.rt_.map A.D.s)),dB a1_0.ll_,.d m2 (.sl 9 (a1_0.es_.map Eqn.D)),.d m2 (.sl 16 (a1_0.cs_.map Cn.D))],.row .fz 2 (a0.map Oc.D)]:=by
 refine OE Tryz.func209 fun S hS=>?_
 unfold q4t at hr
 refine J (gn 12)<|J (lenR 1)<|fun hl1=>bdE hr fun q1 hqq1 hr=>q0b hqq1 hl1 2 (fun k1 _=>[(0,.ref 1 none),(1,.fn 173 [.pb 0 0]),(7,dI (a0.length:Int)),(8,dI (k1:Int))]) (fun k1 _=>[]) I (fun k1 xk1 sk1 ok1 hxk1 hr hltk1 hik1=>?_) fun k1 sk1 ek1 hltk1=>?_
 refine bdE hr fun y1 hy1 hr=>J g<|J (CB' [(0,0)] [] (j3s (m2:=m2) hy1))<|J (gn 1)<|ifE hr ?_ ?_<;>intro h1 hr
 exact e
 exact e
 subst ek1
 exact e
theorem q7l {m2:Md}{a0:(List Oc)}{a1_0:Rule}{r:Bool}(hr:q4i a0 a1_0=some r):Ok Tryz.prog 171 [.ref 1 none,.fn 173 [.pb 0 0]] [.box [dS a1_0.Name,dS a1_0.Left,.d m2 (.sl 1 (a1_0.rt_.map A.D.s)),dB a1_0.ll_,.d m2 (.sl 9 (a1_0.es_.map Eqn.D)),.d m2 (.sl 16 (a1_0.cs_.map Cn.D))],.row .fz 2 (a0.map Oc.D)] (dB r) [.box [dS a1_0.Name,dS a1_0.Left,.d m2 (.sl 1 (a1_0.rt_.map A.D.s)),dB a1_0.ll_,.d m2 (.sl 9 (a1_0.es_.map Eqn.D)),.d m2 (.sl 16 (a1_0.cs_.map Cn.D))],.row .fz 2 (a0.map Oc.D)]:=by
 refine OE Tryz.func171 fun S hS=>?_
 unfold q4i at hr
 refine bdE hr fun y1 hy1 hr=>J g<|J (CB' [(0,0),(1,1)] [] (q7R (m2:=m2) hy1))<|e
theorem j6l {m:Md}{a0:Gm_}{a1:Rule}{r:Bool}(hr:z3W a0 a1=some r):Ok Tryz.prog 128 [Gm_.y m a0,Rule.x m a1] [] (dB r) []:=by
 refine OE Tryz.func128 fun S hS=>?_
 unfold z3W at hr
 refine J g<|J (BX' 0)<|J (BX' 1)<|bdE hr fun y1 hy1 hr=>J g<|J (CB' [(0,2)] [] (z9r (m:=m) hy1))<|bdE hr fun y2 hy2 hr=>J g<|J (CB' [(0,1),(1,2)] [] (q7l (m2:=m) hy2))<|e
theorem q8G {m:Md}{a0:(List Oc)}{a1:Oc}{r:Int}(hr:q4j a0 a1=some r):Ok Tryz.prog 211 [.d m (.sl 2 (a0.map Oc.D)),Oc.x .fz a1] [] (dI r) []:=by
 refine OE Tryz.func211 fun S hS=>?_
 unfold q4j at hr
 refine J g<|J (BX' 0)<|J (gn 10)<|J (lenT 0)<|fun hl1=>bdE hr fun q1 hqq1 hr=>q0b hqq1 hl1 1 (fun k1 _=>[(0,.d m (.sl 2 (a0.map Oc.D))),(3,.pb 0 0),(7,dI (a0.length:Int)),(8,dI (k1:Int))]) (fun k1 _=>[]) I (fun k1 xk1 sk1 ok1 hxk1 hr hltk1 hik1=>?_) fun k1 sk1 ek1 hltk1=>?_
 refine J g ?_
 refine J (SQ' rfl rfl rfl rfl (q5z a1 xk1))<|J (gn 1)<|ifE hr ?_ ?_<;>intro h1 hr
 exact e
 exact e
 subst ek1
 exact e
theorem z1y {m:Md}{a0:(List Oc)}{a1:Oc}{r:Bool}(hr:q4V a0 a1=some r):Ok Tryz.prog 176 [.d m (.sl 2 (a0.map Oc.D)),Oc.x .fz a1] [] (dB r) []:=by
 refine OE Tryz.func176 fun S hS=>?_
 unfold q4V at hr
 refine J g<|J (BX' 0)<|bdE hr fun y1 hy1 hr=>J g<|J (CB' [] [] (q8G (m:=m) hy1))<|e
theorem j6m {m:Md}{m2:Md}{a0:Eqn}{a1:Eqn}{r:Bool}(hr:z6j a0 a1=some r):Ok Tryz.prog 177 [Eqn.x m a0,.pb 0 0] [.box [dI a1.At.Pos,dS a1.At.Name,dI a1.Expr.Kind,dI a1.Expr.N,dI a1.Expr.Pos,dI a1.Expr.t__,dS a1.Expr.Symbol,dS a1.Expr.Name,.d m2 (.sl 7 (a1.Expr.Args.map Expr.D))]] (dB r) [.box [dI a1.At.Pos,dS a1.At.Name,dI a1.Expr.Kind,dI a1.Expr.N,dI a1.Expr.Pos,dI a1.Expr.t__,dS a1.Expr.Symbol,dS a1.Expr.Name,.d m2 (.sl 7 (a1.Expr.Args.map Expr.D))]]:=by
 refine OE Tryz.func177 fun S hS=>?_
 unfold z6j at hr
 refine J g<|J (BX' 1)<|J g ?_
 refine J (SQ' rfl rfl rfl rfl (q5z a0.At a1.At))<|J g<|E
theorem q8J {m:Md}{m2:Md}{a0:(List Eqn)}{a1_0:Eqn}{r:Int}(hr:q4H a0 a1_0=some r):Ok Tryz.prog 210 [.d m (.sl 9 (a0.map Eqn.D)),.fn 177 [.pb 0 0]] [.box [dI a1_0.At.Pos,dS a1_0.At.Name,dI a1_0.Expr.Kind,dI a1_0.Expr.N,dI a1_0.Expr.Pos,dI a1_0.Expr.t__,dS a1_0.Expr.Symbol,dS a1_0.Expr.Name,.d m2 (.sl 7 (a1_0.Expr.Args.map Expr.D))]] (dI r) [.box [dI a1_0.At.Pos,dS a1_0.At.Name,dI a1_0.Expr.Kind,dI a1_0.Expr.N,dI a1_0.Expr.Pos,dI a1_0.Expr.t__,dS a1_0.Expr.Symbol,dS a1_0.Expr.Name,.d m2 (.sl 7 (a1_0.Expr.Args.map Expr.D))]]:=by
 refine OE Tryz.func210 fun S hS=>?_
 unfold q4H at hr
 refine J (gn 12)<|J (lenT 0)<|fun hl1=>bdE hr fun q1 hqq1 hr=>q0b hqq1 hl1 1 (fun k1 _=>[(0,.d m (.sl 9 (a0.map Eqn.D))),(1,.fn 177 [.pb 0 0]),(7,dI (a0.length:Int)),(8,dI (k1:Int))]) (fun k1 _=>[]) I (fun k1 xk1 sk1 ok1 hxk1 hr hltk1 hik1=>?_) fun k1 sk1 ek1 hltk1=>?_
 refine bdE hr fun y1 hy1 hr=>J g<|J (CB' [(0,0)] [] (j6m (m:=m) (m2:=m2) hy1))<|J (gn 1)<|ifE hr ?_ ?_<;>intro h1 hr
 exact e
 exact e
 subst ek1
 exact e
theorem q8d {m:Md}{m2:Md}{a0:(List Eqn)}{a1_0:Eqn}{r:Bool}(hr:q4y a0 a1_0=some r):Ok Tryz.prog 174 [.d m (.sl 9 (a0.map Eqn.D)),.fn 177 [.pb 0 0]] [.box [dI a1_0.At.Pos,dS a1_0.At.Name,dI a1_0.Expr.Kind,dI a1_0.Expr.N,dI a1_0.Expr.Pos,dI a1_0.Expr.t__,dS a1_0.Expr.Symbol,dS a1_0.Expr.Name,.d m2 (.sl 7 (a1_0.Expr.Args.map Expr.D))]] (dB r) [.box [dI a1_0.At.Pos,dS a1_0.At.Name,dI a1_0.Expr.Kind,dI a1_0.Expr.N,dI a1_0.Expr.Pos,dI a1_0.Expr.t__,dS a1_0.Expr.Symbol,dS a1_0.Expr.Name,.d m2 (.sl 7 (a1_0.Expr.Args.map Expr.D))]]:=by
 refine OE Tryz.func174 fun S hS=>?_
 unfold q4y at hr
 refine bdE hr fun y1 hy1 hr=>J g<|J (CB' [(0,0)] [] (q8J (m:=m) (m2:=m2) hy1))<|e
theorem k0o {m:Md}{a0:Gm_}{a1:Rule}{r:Bool}(hr:z7R a0 a1=some r):Ok Tryz.prog 129 [Gm_.y m a0,Rule.x m a1] [] (dB r) []:=by
 refine OE Tryz.func129 fun S hS=>?_
 unfold z7R at hr
 refine J g<|J (BX' 0)<|J (BX' 1)<|bdE hr fun y1 hy1 hr=>J g<|J (CB' [(0,2)] [] (z9r (m:=m) hy1))<|J (gn 11)<|J (lenA 4 1)<|fun hl1=>bdE hr fun q1 hqq1 hr=>q0b hqq1 hl1 3 (fun k1 _=>[(3,.pb 1 0),(5,.ref 2 none),(12,.d m (.sl 9 (a1.es_.map Eqn.D))),(13,dI (a1.es_.length:Int)),(14,dI (k1:Int))]) (fun k1 _=>[]) I (fun k1 xk1 sk1 ok1 hxk1 hr hltk1 hik1=>?_) fun k1 sk1 ek1 hltk1=>?_
 refine J g<|J (NV' 3)<|bdE hr fun y2 hy2 hr=>J g<|J (CB' [] [2] (z1y (m:=.bo) hy2))<|J (gn 1)<|ifE hr ?_ ?_<;>intro h1 hr
 refine ggE hr fun g1 hr=>J g<|J (SLH' (Dmz _) g1)<|bdE hr fun y3 hy3 hr=>J g<|J (CB' [(0,3)] [] (q8d (m:=m) (m2:=m) hy3))<|J (gn 2)<|ifE hr ?_ ?_<;>intro h2 hr
 exact e
 exact e
 exact e
 subst ek1
 exact e
theorem j0U {m:Md}{a0:Rule}{r:(List Expr)}(hr:q8Y a0=some r):Ok Tryz.prog 179 [Rule.x m a0] [] (.ref 0 none) [.row m 7 (r.map Expr.D)]:=by
 refine OE Tryz.func179 fun S hS=>?_
 unfold q8Y at hr
 refine J g<|J (BX' 0)<|J g<|J (L0' 1 Expr.D)<|J (gn 11)<|J (lenA 4 0)<|fun hl1=>bdE hr fun s1 hqq1 hr=>?_
 refine q0c hqq1 hl1 2 (fun k1 s1=>[(1,.pb 0 0),(3,.ref 1 none),(10,.d m (.sl 9 (a0.es_.map Eqn.D))),(11,dI (a0.es_.length:Int)),(12,dI (k1:Int))]) (fun k1 s1=>[(1,.row m 7 (s1.map Expr.D))]) (GH.trans (q1y (r:=1) m rfl) I) (fun k1 xk1 sk1 ok1 hxk1 hr hltk1=>?_) fun k1 hltk1=>?_
 obtain⟨s1,rfl⟩:∃ y,y=sk1:=⟨_,rfl⟩
 refine J g<|J (NV' 2)<|J g ?_
 refine J (k4M 3 (m:=m) (f:=Expr.D) [xk1.Expr] (by simp only[List.map_cons,List.map_nil,Expr.D_eq];rfl))<|ggE hr fun g1 hr=>J (AP1' 4 m 88 g1)<|J g<|E
 refine J (gn 16)<|J (lenT 23)<|fun hl2=>bdE hr fun s2 hqq2 hr=>q0c hqq2 hl2 2 (fun k2 s2=>[(3,.ref 1 none),(23,.d m (.sl 16 (a0.cs_.map Cn.D))),(24,dI (a0.cs_.length:Int)),(25,dI (k2:Int))]) (fun k2 s2=>[(1,.row m 7 (s2.map Expr.D))]) I (fun k2 xk2 sk2 ok2 hxk2 hr hltk2=>?_) fun k2 hltk2=>?_
 obtain⟨s2,rfl⟩:∃ y,y=sk2:=⟨_,rfl⟩
 refine J g<|J (NV' 2)<|J g ?_
 refine J (k4M 3 (m:=m) (f:=Expr.D) [xk2.tt_,xk2.Value] (by simp only[List.map_cons,List.map_nil,Expr.D_eq];rfl))<|ggE hr fun g2 hr=>J (APB' 4 m 88 g2)<|J g<|E
 exact e
theorem z6U {m:Md}{a0:Expr}{o0:(List Oc)}{r:(Bool×(List Oc))}(hr:q6M a0 o0=some r):Ok Tryz.prog 214 [Expr.x m a0,.pb 0 0] [.box [.ref 1 none],.row .fz 2 (o0.map Oc.D)] (dB r.1) [.box [.ref 2 none],.dead,.row .fz 2 (r.2.map Oc.D)]:=by
 refine OE Tryz.func214 fun S hS=>?_
 unfold q6M at hr
 refine J g<|J (BX' 2)<|J (gn 9)<|ifE hr ?_ ?_<;>intro h1 hr
 refine J g<|J (LIR' 3 (m:=.fz) (f:=Oc.D) (xs:=[(⟨a0.Pos,a0.Name⟩:Oc)]))<|ggE hr fun g1 hr=>J (z1H (f:=Oc.D) 4 (fun _=>rfl) 24 g1)<|e
 refine J (gn 7) ?_
 refine J (q0h (q2b (i:=1) (j:=3) rfl rfl))<|J g<|E
theorem z0q {Rc13:Expr→(List Oc)→Option (Bool×(List Oc))}(Ic13:∀ {m:Md} {a0:Expr} {o0:(List Oc)} {r:(Bool×(List Oc))},Rc13 a0 o0=some r→Ok Tryz.prog 213 [Expr.x m a0,.fn 214 [.pb 0 0]] [.box [.ref 1 none],.row .fz 2 (o0.map Oc.D)] (dB r.1) [.box [.ref 2 none],.dead,.row .fz 2 (r.2.map Oc.D)]){m:Md}{a0:Expr}{o0:(List Oc)}{r:(Bool×(List Oc))}(hr:q5c Rc13 a0 o0=some r):Ok Tryz.prog 233 [Expr.x m a0,.pb 1 0] [.box [.ref 2 none],.box [.fn 214 [.pb 0 0]],.row .fz 2 (o0.map Oc.D)] (dB r.1) [.box [.ref 3 none],.box [.fn 214 [.pb 0 0]],.dead,.row .fz 2 (r.2.map Oc.D)]:=by
 refine OE Tryz.func233 fun S hS=>?_
 unfold q5c at hr
 refine J g<|J (BX' 3)<|bdP hr fun y1 z1 hq1 hr=>J g<|J (CB' [(0,0),(1,2),(2,4)] [] (Ic13 (m:=m) hq1))<|e
theorem q6j {Rc13:Expr→(List Oc)→Option (Bool×(List Oc))}(Ic13:∀ {m:Md} {a0:Expr} {o0:(List Oc)} {r:(Bool×(List Oc))},Rc13 a0 o0=some r→Ok Tryz.prog 213 [Expr.x m a0,.fn 214 [.pb 0 0]] [.box [.ref 1 none],.row .fz 2 (o0.map Oc.D)] (dB r.1) [.box [.ref 2 none],.dead,.row .fz 2 (r.2.map Oc.D)]){m:Md}{a0:(List Expr)}{o0:(List Oc)}{r:(Int×(List Oc))}(hr:q3L Rc13 a0 o0=some r):Ok Tryz.prog 212 [.d m (.sl 7 (a0.map Expr.D)),.fn 233 [.pb 1 0]] [.box [.ref 2 none],.box [.fn 214 [.pb 0 0]],.row .fz 2 (o0.map Oc.D)] (dI r.1) [.box [.ref 3 none],.box [.fn 214 [.pb 0 0]],.dead,.row .fz 2 (r.2.map Oc.D)]:=by
 refine OE Tryz.func212 fun S hS=>?_
 unfold q3L at hr
 refine J (gn 12) ?_
 refine J (q2m 2 3 rfl)<|J (lenT 0)<|fun hl1=>bdE hr fun q1 hqq1 hr=>q0b hqq1 hl1 4 (fun k1 s1=>[(0,.d m (.sl 7 (a0.map Expr.D))),(1,.fn 233 [.pb 1 0]),(7,dI (a0.length:Int)),(8,dI (k1:Int))]) (fun k1 s1=>[(3,.row .fz 2 (s1.map Oc.D))]) I (fun k1 xk1 sk1 ok1 hxk1 hr hltk1 hik1=>?_) fun k1 sk1 ek1 hltk1=>?_
 obtain⟨s1,rfl⟩:∃ y,y=sk1:=⟨_,rfl⟩
 refine bdP hr fun y1 z1 hq2 hr=>J g<|J (CB' [(0,0),(1,1),(2,3),(3,4)] [] (z0q Ic13 (m:=m) hq2))<|J (gn 1)<|ifE hr ?_ ?_<;>intro h1 hr
 exact e
 exact e
 subst ek1
 obtain⟨s1,rfl⟩:∃ y,y=sk1:=⟨_,rfl⟩
 exact e
end Go.Proofs.YtnhofaohogianaaGreat
