/- What some functions of the program compute, as partial functions on plain data, and that they do; each lemma bears its conditions in its statement. -/
import Derived.Test.YtomdlgffolbdkaaGreatLane0a
import Derived.Test.YtomdlgffolbdkaaGreatLane1a
set_option linter.unusedVariables false
set_option linter.unusedSimpArgs false
set_option linter.ambiguousOpen false
set_option linter.unusedSectionVars false
set_option linter.unnecessarySimpa false
set_option maxRecDepth 100000
set_option maxHeartbeats 40000000
noncomputable section
namespace Go.Proofs.YtomdlgffolbdkaaGreat
open Go Go.E Go.A
theorem j0D {a0:At_}{a1:Int}{r:Int}(hr:z0y a0 a1=some r):Ok Tryz.prog 213 [At_.x .fz a0,dI a1] [] (dI r) []:=by
 refine OE Tryz.func213 fun S hS=>?_
 unfold z0y at hr
 refine J g<|J (BX' 0)<|J g<|J LS'<|ggE hr fun g1 hr=>J (gn 9)<|ifE hr ?_ ?_<;>intro h1 hr
 exact e
 exact e
theorem z9e {m:Md}{a0:(List At_)}{a1:Int}{r:Int}(hr:q9l a0 a1=some r):Ok Tryz.prog 162 [.d m (.sl 4 (a0.map At_.D)),dI a1] [] (dI r) []:=by
 refine OE Tryz.func162 fun S hS=>?_
 unfold q9l at hr
 refine ggE hr fun g1 hr=>J (gn 18)<|ifE hr ?_ ?_<;>intro h1 hr
 exact e
 refine J (gn 8)<|J (lenT 0)<|fun hl1=>bdE hr fun q1 hqq1 hr=>q0b hqq1 hl1 0 (fun k1 s1=>[(0,.d m (.sl 4 (a0.map At_.D))),(1,dI s1),(5,dI (k1:Int))]) (fun k1 s1=>[]) I (fun k1 xk1 sk1 ok1 hxk1 hr hltk1 hik1=>?_) fun k1 sk1 ek1 hltk1=>?_
 obtain⟨s1,rfl⟩:∃ y,y=sk1:=⟨_,rfl⟩
 refine bdE hr fun y1 hy1 hr=>J g<|J (CB' [] [] (j0D hy1))<|J (gn 7)<|ifE hr ?_ ?_<;>intro h2 hr
 exact e
 exact e
 subst ek1
 obtain⟨s1,rfl⟩:∃ y,y=sk1:=⟨_,rfl⟩
 exact e
theorem j4D {m:Md}{a0:Symbol}{a1:Int}{r:Int}(hr:z3V a0 a1=some r):Ok Tryz.prog 113 [Symbol.x m a0,dI a1] [] (dI r) []:=by
 refine OE Tryz.func113 fun S hS=>?_
 unfold z3V at hr
 refine J g<|J (BX' 0)<|J g<|J LS'<|ggE hr fun g1 hr=>J (gn 9)<|ifE hr ?_ ?_<;>intro h1 hr
 exact e
 refine bdE hr fun y1 hy1 hr=>J g<|J (CB' [] [] (z9e (m:=m) hy1))<|J (gn 8)<|ifE hr ?_ ?_<;>intro h2 hr
 exact e
 exact e
theorem j3e {m:Md}{a0:(List Symbol)}{a1:Int}{r:Int}(hr:z2z a0 a1=some r):Ok Tryz.prog 58 [.d m (.sl 2 (a0.map Symbol.D)),dI a1] [] (dI r) []:=by
 refine OE Tryz.func58 fun S hS=>?_
 unfold z2z at hr
 refine ggE hr fun g1 hr=>J (gn 18)<|ifE hr ?_ ?_<;>intro h1 hr
 exact e
 refine J (gn 8)<|J (lenT 0)<|fun hl1=>bdE hr fun q1 hqq1 hr=>q0b hqq1 hl1 0 (fun k1 s1=>[(0,.d m (.sl 2 (a0.map Symbol.D))),(1,dI s1),(5,dI (k1:Int))]) (fun k1 s1=>[]) I (fun k1 xk1 sk1 ok1 hxk1 hr hltk1 hik1=>?_) fun k1 sk1 ek1 hltk1=>?_
 obtain⟨s1,rfl⟩:∃ y,y=sk1:=⟨_,rfl⟩
 refine bdE hr fun y1 hy1 hr=>J g<|J (CB' [] [] (j4D (m:=m) hy1))<|J (gn 7)<|ifE hr ?_ ?_<;>intro h2 hr
 exact e
 exact e
 subst ek1
 obtain⟨s1,rfl⟩:∃ y,y=sk1:=⟨_,rfl⟩
 exact e
theorem j3f {m:Md}{a0:(List ByteArray)}{a1:Int}{r:Int}(hr:z2A a0 a1=some r):Ok Tryz.prog 163 [.d m (.sl 1 (a0.map A.D.s)),dI a1] [] (dI r) []:=by
 refine OE Tryz.func163 fun S hS=>?_
 unfold z2A at hr
 refine ggE hr fun g1 hr=>J (gn 18)<|ifE hr ?_ ?_<;>intro h1 hr
 exact e
 refine J (gn 8)<|J (lenT 0)<|fun hl1=>bdE hr fun q1 hqq1 hr=>q0b hqq1 hl1 0 (fun k1 s1=>[(0,.d m (.sl 1 (a0.map A.D.s))),(1,dI s1),(5,dI (k1:Int))]) (fun k1 s1=>[]) I (fun k1 xk1 sk1 ok1 hxk1 hr hltk1 hik1=>?_) fun k1 sk1 ek1 hltk1=>?_
 obtain⟨s1,rfl⟩:∃ y,y=sk1:=⟨_,rfl⟩
 refine J g<|J LS'<|ggE hr fun g2 hr=>J (gn 8)<|ifE hr ?_ ?_<;>intro h2 hr
 exact e
 exact e
 subst ek1
 obtain⟨s1,rfl⟩:∃ y,y=sk1:=⟨_,rfl⟩
 exact e
theorem z9f {a0:Oc}{a1:Int}{r:Int}(hr:q9m a0 a1=some r):Ok Tryz.prog 259 [Oc.x .fz a0,dI a1] [] (dI r) []:=by
 refine OE Tryz.func259 fun S hS=>?_
 unfold q9m at hr
 refine J g<|J (BX' 0)<|J g<|J LS'<|ggE hr fun g1 hr=>J (gn 9)<|ifE hr ?_ ?_<;>intro h1 hr
 exact e
 exact e
theorem j5Y {Rc0:Expr→Int→Option Int}(Ic0:∀ {m:Md} {a0:Expr} {a1:Int} {r:Int},Rc0 a0 a1=some r→Ok Tryz.prog 260 [Expr.x m a0,dI a1] [] (dI r) []){m:Md}{a0:(List Expr)}{a1:Int}{r:Int}(hr:z7T Rc0 a0 a1=some r):Ok Tryz.prog 285 [.d m (.sl 7 (a0.map Expr.D)),dI a1] [] (dI r) []:=by
 refine OE Tryz.func285 fun S hS=>?_
 unfold z7T at hr
 refine ggE hr fun g1 hr=>J (gn 18)<|ifE hr ?_ ?_<;>intro h1 hr
 exact e
 refine J (gn 8)<|J (lenT 0)<|fun hl1=>bdE hr fun q1 hqq1 hr=>q0b hqq1 hl1 0 (fun k1 s1=>[(0,.d m (.sl 7 (a0.map Expr.D))),(1,dI s1),(5,dI (k1:Int))]) (fun k1 s1=>[]) I (fun k1 xk1 sk1 ok1 hxk1 hr hltk1 hik1=>?_) fun k1 sk1 ek1 hltk1=>?_
 obtain⟨s1,rfl⟩:∃ y,y=sk1:=⟨_,rfl⟩
 refine bdE hr fun y1 hy1 hr=>J g<|J (CB' [] [] (Ic0 (m:=m) hy1))<|J (gn 7)<|ifE hr ?_ ?_<;>intro h2 hr
 exact e
 exact e
 subst ek1
 obtain⟨s1,rfl⟩:∃ y,y=sk1:=⟨_,rfl⟩
 exact e
theorem j5Z {Rc0:Expr→Int→Option Int}(Ic0:∀ {m:Md} {a0:Expr} {a1:Int} {r:Int},Rc0 a0 a1=some r→Ok Tryz.prog 260 [Expr.x m a0,dI a1] [] (dI r) []){m:Md}{a0:Expr}{a1:Int}{r:Int}(hr:z4B Rc0 a0 a1=some r):Ok Tryz.prog 260 [Expr.x m a0,dI a1] [] (dI r) []:=by
 refine OE Tryz.func260 fun S hS=>?_
 unfold z4B at hr
 refine J g<|J (BX' 0)<|J g<|J LS'<|ggE hr fun g1 hr=>J (gn 9)<|ifE hr ?_ ?_<;>intro h1 hr
 exact e
 refine J g<|J LS'<|ggE hr fun g2 hr=>J (gn 9)<|ifE hr ?_ ?_<;>intro h2 hr
 exact e
 refine bdE hr fun y1 hy1 hr=>J g<|J (CB' [] [] (j5Y Ic0 (m:=m) hy1))<|J (gn 8)<|ifE hr ?_ ?_<;>intro h3 hr
 exact e
 exact e
theorem j6a (n:Nat):∀ {m:Md} {a0:Expr} {a1:Int} {r:Int},z3m n a0 a1=some r→Ok Tryz.prog 260 [Expr.x m a0,dI a1] [] (dI r) []:=by
  induction n with
  | zero=>intro _ _ _ r hr;exact nomatch (show (none:Option Int)=some r from hr)
  | succ n ih=>intro _ _ _ r hr;exact j5Z ih hr
theorem z8e {m:Md}{a0:Expr}{a1:Int}{r:Int}(hr:z4C a0 a1=some r):Ok Tryz.prog 260 [Expr.x m a0,dI a1] [] (dI r) []:=by
 obtain⟨n,hn⟩:=q5L hr
 exact j6a n hn
theorem j1z {m:Md}{a0:Eqn}{a1:Int}{r:Int}(hr:z1q a0 a1=some r):Ok Tryz.prog 214 [Eqn.x m a0,dI a1] [] (dI r) []:=by
 refine OE Tryz.func214 fun S hS=>?_
 unfold z1q at hr
 refine J g<|J (BX' 0)<|bdE hr fun y1 hy1 hr=>J g<|J (CB' [] [] (z9f hy1))<|J (gn 8)<|ifE hr ?_ ?_<;>intro h1 hr
 exact e
 refine bdE hr fun y2 hy2 hr=>J g<|J (CB' [] [] (z8e (m:=m) hy2))<|J (gn 8)<|ifE hr ?_ ?_<;>intro h2 hr
 exact e
 exact e
theorem j0E {m:Md}{a0:(List Eqn)}{a1:Int}{r:Int}(hr:z0z a0 a1=some r):Ok Tryz.prog 164 [.d m (.sl 9 (a0.map Eqn.D)),dI a1] [] (dI r) []:=by
 refine OE Tryz.func164 fun S hS=>?_
 unfold z0z at hr
 refine ggE hr fun g1 hr=>J (gn 18)<|ifE hr ?_ ?_<;>intro h1 hr
 exact e
 refine J (gn 8)<|J (lenT 0)<|fun hl1=>bdE hr fun q1 hqq1 hr=>q0b hqq1 hl1 0 (fun k1 s1=>[(0,.d m (.sl 9 (a0.map Eqn.D))),(1,dI s1),(5,dI (k1:Int))]) (fun k1 s1=>[]) I (fun k1 xk1 sk1 ok1 hxk1 hr hltk1 hik1=>?_) fun k1 sk1 ek1 hltk1=>?_
 obtain⟨s1,rfl⟩:∃ y,y=sk1:=⟨_,rfl⟩
 refine bdE hr fun y1 hy1 hr=>J g<|J (CB' [] [] (j1z (m:=m) hy1))<|J (gn 7)<|ifE hr ?_ ?_<;>intro h2 hr
 exact e
 exact e
 subst ek1
 obtain⟨s1,rfl⟩:∃ y,y=sk1:=⟨_,rfl⟩
 exact e
theorem z7x {m:Md}{a0:Cn}{a1:Int}{r:Int}(hr:q8g a0 a1=some r):Ok Tryz.prog 215 [Cn.x m a0,dI a1] [] (dI r) []:=by
 refine OE Tryz.func215 fun S hS=>?_
 unfold q8g at hr
 refine J g<|J (BX' 0)<|J g<|J LS'<|ggE hr fun g1 hr=>J (gn 9)<|ifE hr ?_ ?_<;>intro h1 hr
 exact e
 refine J g<|J LS'<|ggE hr fun g2 hr=>J (gn 9)<|ifE hr ?_ ?_<;>intro h2 hr
 exact e
 refine bdE hr fun y1 hy1 hr=>J g<|J (CB' [] [] (z8e (m:=m) hy1))<|J (gn 8)<|ifE hr ?_ ?_<;>intro h3 hr
 exact e
 refine bdE hr fun y2 hy2 hr=>J g<|J (CB' [] [] (z8e (m:=m) hy2))<|J (gn 8)<|ifE hr ?_ ?_<;>intro h4 hr
 exact e
 exact e
theorem z6D {m:Md}{a0:(List Cn)}{a1:Int}{r:Int}(hr:q7M a0 a1=some r):Ok Tryz.prog 165 [.d m (.sl 16 (a0.map Cn.D)),dI a1] [] (dI r) []:=by
 refine OE Tryz.func165 fun S hS=>?_
 unfold q7M at hr
 refine ggE hr fun g1 hr=>J (gn 18)<|ifE hr ?_ ?_<;>intro h1 hr
 exact e
 refine J (gn 8)<|J (lenT 0)<|fun hl1=>bdE hr fun q1 hqq1 hr=>q0b hqq1 hl1 0 (fun k1 s1=>[(0,.d m (.sl 16 (a0.map Cn.D))),(1,dI s1),(5,dI (k1:Int))]) (fun k1 s1=>[]) I (fun k1 xk1 sk1 ok1 hxk1 hr hltk1 hik1=>?_) fun k1 sk1 ek1 hltk1=>?_
 obtain⟨s1,rfl⟩:∃ y,y=sk1:=⟨_,rfl⟩
 refine bdE hr fun y1 hy1 hr=>J g<|J (CB' [] [] (z7x (m:=m) hy1))<|J (gn 7)<|ifE hr ?_ ?_<;>intro h2 hr
 exact e
 exact e
 subst ek1
 obtain⟨s1,rfl⟩:∃ y,y=sk1:=⟨_,rfl⟩
 exact e
theorem j8q {m:Md}{a0:Rule}{a1:Int}{r:Int}(hr:z7b a0 a1=some r):Ok Tryz.prog 114 [Rule.x m a0,dI a1] [] (dI r) []:=by
 refine OE Tryz.func114 fun S hS=>?_
 unfold z7b at hr
 refine J g<|J (BX' 0)<|J g<|J LS'<|ggE hr fun g1 hr=>J (gn 9)<|ifE hr ?_ ?_<;>intro h1 hr
 exact e
 refine J g<|J LS'<|ggE hr fun g2 hr=>J (gn 9)<|ifE hr ?_ ?_<;>intro h2 hr
 exact e
 refine bdE hr fun y1 hy1 hr=>J g<|J (CB' [] [] (j3f (m:=m) hy1))<|J (gn 8)<|ifE hr ?_ ?_<;>intro h3 hr
 exact e
 refine bdE hr fun y2 hy2 hr=>J g<|J (CB' [] [] (j0E (m:=m) hy2))<|J (gn 8)<|ifE hr ?_ ?_<;>intro h4 hr
 exact e
 refine bdE hr fun y3 hy3 hr=>J g<|J (CB' [] [] (z6D (m:=m) hy3))<|J (gn 8)<|ifE hr ?_ ?_<;>intro h5 hr
 exact e
 exact e
theorem j6b {m:Md}{a0:(List Rule)}{a1:Int}{r:Int}(hr:z5D a0 a1=some r):Ok Tryz.prog 59 [.d m (.sl 6 (a0.map Rule.D)),dI a1] [] (dI r) []:=by
 refine OE Tryz.func59 fun S hS=>?_
 unfold z5D at hr
 refine ggE hr fun g1 hr=>J (gn 18)<|ifE hr ?_ ?_<;>intro h1 hr
 exact e
 refine J (gn 8)<|J (lenT 0)<|fun hl1=>bdE hr fun q1 hqq1 hr=>q0b hqq1 hl1 0 (fun k1 s1=>[(0,.d m (.sl 6 (a0.map Rule.D))),(1,dI s1),(5,dI (k1:Int))]) (fun k1 s1=>[]) I (fun k1 xk1 sk1 ok1 hxk1 hr hltk1 hik1=>?_) fun k1 sk1 ek1 hltk1=>?_
 obtain⟨s1,rfl⟩:∃ y,y=sk1:=⟨_,rfl⟩
 refine bdE hr fun y1 hy1 hr=>J g<|J (CB' [] [] (j8q (m:=m) hy1))<|J (gn 7)<|ifE hr ?_ ?_<;>intro h2 hr
 exact e
 exact e
 subst ek1
 obtain⟨s1,rfl⟩:∃ y,y=sk1:=⟨_,rfl⟩
 exact e
theorem j3g {m:Md}{a0:Gm_}{a1:Int}{r:Int}(hr:z2B a0 a1=some r):Ok Tryz.prog 21 [Gm_.x m a0,dI a1] [] (dI r) []:=by
 refine OE Tryz.func21 fun S hS=>?_
 unfold z2B at hr
 refine J g<|J (BX' 0)<|bdE hr fun y1 hy1 hr=>J g<|J (CB' [] [] (j3e (m:=m) hy1))<|J (gn 8)<|ifE hr ?_ ?_<;>intro h1 hr
 exact e
 refine bdE hr fun y2 hy2 hr=>J g<|J (CB' [] [] (j6b (m:=m) hy2))<|J (gn 8)<|ifE hr ?_ ?_<;>intro h2 hr
 exact e
 exact e
theorem j0F {a0:At_}{r:At_}(hr:z0A a0=some r):Ok Tryz.prog 216 [At_.x .fz a0] [] (At_.x .fz r) []:=by
 refine OE Tryz.func216 fun S hS=>?_
 unfold z0A at hr
 refine J g<|J (BX' 0)<|J (NV' 1)<|J g<|J (NV' 2)<|e
theorem z9g {m:Md}{a0:(List At_)}{r:(List At_)}(hr:q9n a0=some r):Ok Tryz.prog 166 [.d m (.sl 4 (a0.map At_.D))] [] (.ref 0 none) [.row .fz 4 (r.map At_.D)]:=by
 refine OE Tryz.func166 fun S hS=>?_
 unfold q9n at hr
 refine ggE hr fun g1 hr=>J g<|J (MKR' 0 (f:=At_.D) (⟨(⟨#[]⟩:ByteArray),(0:Int),(0:Int),false⟩:At_) g1.1 g1.2.1 g1.2.2)<|J (gn 8)<|J (lenT 0)<|fun hl1=>bdE hr fun s1 hqq1 hr=>q0c hqq1 hl1 1 (fun k1 s1=>[(0,.d m (.sl 4 (a0.map At_.D))),(3,.ref 0 none),(4,dI (k1:Int))]) (fun k1 s1=>[(0,.row .fz 4 (s1.map At_.D))]) I (fun k1 xk1 sk1 ok1 hxk1 hr hltk1=>?_) fun k1 hltk1=>?_
 obtain⟨s1,rfl⟩:∃ y,y=sk1:=⟨_,rfl⟩
 refine bdE hr fun y1 hy1 hr=>J g<|J (CB' [] [] (j0F hy1))<|bdE hr fun x1 hx1 hr=>J g<|J (SE' y1 hx1)<|e
 exact e
theorem j4E {m:Md}{a0:Symbol}{r:Symbol}(hr:z0e a0=some r):Ok Tryz.prog 115 [Symbol.x m a0] [] (.ag [dS r.Name,.ref 0 none]) [.row .fz 4 (r.Attributes.map At_.D)]:=by
 refine OE Tryz.func115 fun S hS=>?_
 unfold z0e at hr
 refine J g<|J (BX' 0)<|J (NV' 1)<|J g<|J (NV' 2)<|bdE hr fun y1 hy1 hr=>J g<|J (CB' [(0,3)] [] (z9g (m:=m) hy1))<|e
theorem j3h {m:Md}{a0:(List Symbol)}{r:(List Symbol)}(hr:z2C a0=some r):Ok Tryz.prog 60 [.d m (.sl 2 (a0.map Symbol.D))] [] (.ref 0 none) [.deep .fz 2 (r.map Symbol.W) []]:=by
 refine OE Tryz.func60 fun S hS=>?_
 unfold z2C at hr
 refine ggE hr fun g1 hr=>J g<|MKW 0 (f:=Symbol.W) (⟨(⟨#[]⟩:ByteArray),[]⟩:Symbol) g1.1 g1.2.1 g1.2.2 ?_
 refine J (gn 8)<|J (lenT 0)<|fun hl1=>bdE hr fun s1 hqq1 hr=>q0c hqq1 hl1 1 (fun k1 s1=>[(0,.d m (.sl 2 (a0.map Symbol.D))),(3,.ref 0 none),(4,dI (k1:Int))]) (fun k1 s1=>[(0,.deep .fz 2 (s1.map Symbol.W) [])]) I (fun k1 xk1 sk1 ok1 hxk1 hr hltk1=>?_) fun k1 hltk1=>?_
 obtain⟨s1,rfl⟩:∃ y,y=sk1:=⟨_,rfl⟩
 refine bdE hr fun y1 hy1 hr=>J g<|J (CB' [(0,1)] [] (j4E (m:=m) hy1))<|bdE hr fun x1 hx1 hr=>J (IEd' (Int.natCast_nonneg _) (q5c hx1))<|J (SD' [.d .fz (.s y1.Name),.w 4 (y1.Attributes.map At_.D)] [1] (q5c hx1))<|J (gn 6) ?_
 cases hr
 exact GH.trans (q0o 0 (he:=eset (f:=Symbol.W) (x':=y1) (by first|rfl|(simp only[List.set_set];rfl)))) (q0f hS 1)
 exact e
theorem j3i {m:Md}{a0:(List ByteArray)}{r:(List ByteArray)}(hr:z2D a0=some r):Ok Tryz.prog 167 [.d m (.sl 1 (a0.map A.D.s))] [] (.ref 0 none) [.row .fz 1 (r.map A.D.s)]:=by
 refine OE Tryz.func167 fun S hS=>?_
 unfold z2D at hr
 refine ggE hr fun g1 hr=>J g<|J (MKR' 0 (f:=A.D.s) (⟨#[]⟩:ByteArray) g1.1 g1.2.1 g1.2.2)<|J (gn 8)<|J (lenT 0)<|fun hl1=>bdE hr fun s1 hqq1 hr=>q0c hqq1 hl1 1 (fun k1 s1=>[(0,.d m (.sl 1 (a0.map A.D.s))),(3,.ref 0 none),(4,dI (k1:Int))]) (fun k1 s1=>[(0,.row .fz 1 (s1.map A.D.s))]) I (fun k1 xk1 sk1 ok1 hxk1 hr hltk1=>?_) fun k1 hltk1=>?_
 obtain⟨s1,rfl⟩:∃ y,y=sk1:=⟨_,rfl⟩
 refine bdE hr fun x1 hx1 hr=>J g<|J (SE' xk1 hx1)<|e
 exact e
theorem z9h {a0:Oc}{r:Oc}(hr:q9o a0=some r):Ok Tryz.prog 261 [Oc.x .fz a0] [] (Oc.x .fz r) []:=by
 refine OE Tryz.func261 fun S hS=>?_
 unfold q9o at hr
 refine J g<|J (BX' 0)<|J (NV' 1)<|J g<|J (NV' 2)<|e
theorem j6c {Rc1:Expr→Option Expr}(Ic1:∀ {m:Md} {a0:Expr} {r:Expr},Rc1 a0=some r→Ok Tryz.prog 262 [Expr.x m a0] [] (.ag [dI r.Kind,dI r.N,dI r.Pos,dI r.Type_,dS r.Symbol,dS r.Name,.ref 0 none]) [.deep .fz 7 (r.Args.map Expr.W) []]){m:Md}{a0:(List Expr)}{r:(List Expr)}(hr:z5E Rc1 a0=some r):Ok Tryz.prog 286 [.d m (.sl 7 (a0.map Expr.D))] [] (.ref 0 none) [.deep .fz 7 (r.map Expr.W) []]:=by
 refine OE Tryz.func286 fun S hS=>?_
 unfold z5E at hr
 refine ggE hr fun g1 hr=>J g<|MKW 0 (f:=Expr.W) (⟨(0:Int),(0:Int),(0:Int),(0:Int),(⟨#[]⟩:ByteArray),(⟨#[]⟩:ByteArray),[]⟩:Expr) g1.1 g1.2.1 g1.2.2 ?_
 refine J (gn 8)<|J (lenT 0)<|fun hl1=>bdE hr fun s1 hqq1 hr=>q0c hqq1 hl1 1 (fun k1 s1=>[(0,.d m (.sl 7 (a0.map Expr.D))),(3,.ref 0 none),(4,dI (k1:Int))]) (fun k1 s1=>[(0,.deep .fz 7 (s1.map Expr.W) [])]) I (fun k1 xk1 sk1 ok1 hxk1 hr hltk1=>?_) fun k1 hltk1=>?_
 obtain⟨s1,rfl⟩:∃ y,y=sk1:=⟨_,rfl⟩
 refine bdE hr fun y1 hy1 hr=>J g<|J (CB' [(0,1)] [] (Ic1 (m:=m) hy1))<|bdE hr fun x1 hx1 hr=>J (IEd' (Int.natCast_nonneg _) (q5c hx1))<|J (SD' [.d .fz (.i .i64 y1.Kind),.d .fz (.i .i64 y1.N),.d .fz (.i .i64 y1.Pos),.d .fz (.i .i64 y1.Type_),.d .fz (.s y1.Symbol),.d .fz (.s y1.Name),.w 7 (y1.Args.map Expr.D)] [1] (q5c hx1))<|J (gn 6) ?_
 cases hr
 exact GH.trans (q0o 0 (he:=eset (f:=Expr.W) (x':=y1) (by first|rfl|(simp only[List.set_set];rfl)))) (q0f hS 1)
 exact e
theorem j6d {Rc1:Expr→Option Expr}(Ic1:∀ {m:Md} {a0:Expr} {r:Expr},Rc1 a0=some r→Ok Tryz.prog 262 [Expr.x m a0] [] (.ag [dI r.Kind,dI r.N,dI r.Pos,dI r.Type_,dS r.Symbol,dS r.Name,.ref 0 none]) [.deep .fz 7 (r.Args.map Expr.W) []]){m:Md}{a0:Expr}{r:Expr}(hr:z4E Rc1 a0=some r):Ok Tryz.prog 262 [Expr.x m a0] [] (.ag [dI r.Kind,dI r.N,dI r.Pos,dI r.Type_,dS r.Symbol,dS r.Name,.ref 0 none]) [.deep .fz 7 (r.Args.map Expr.W) []]:=by
 refine OE Tryz.func262 fun S hS=>?_
 unfold z4E at hr
 refine J g<|J (BX' 0)<|J (NV' 1)<|J g<|J (NV' 2)<|bdE hr fun y1 hy1 hr=>J g<|J (CB' [(0,3)] [] (j6c Ic1 (m:=m) hy1))<|e
theorem j6e (n:Nat):∀ {m:Md} {a0:Expr} {r:Expr},z1R n a0=some r→Ok Tryz.prog 262 [Expr.x m a0] [] (.ag [dI r.Kind,dI r.N,dI r.Pos,dI r.Type_,dS r.Symbol,dS r.Name,.ref 0 none]) [.deep .fz 7 (r.Args.map Expr.W) []]:=by
  induction n with
  | zero=>intro _ _ r hr;exact nomatch (show (none:Option Expr)=some r from hr)
  | succ n ih=>intro _ _ r hr;exact j6d ih hr
theorem z8f {m:Md}{a0:Expr}{r:Expr}(hr:z4F a0=some r):Ok Tryz.prog 262 [Expr.x m a0] [] (.ag [dI r.Kind,dI r.N,dI r.Pos,dI r.Type_,dS r.Symbol,dS r.Name,.ref 0 none]) [.deep .fz 7 (r.Args.map Expr.W) []]:=by
 obtain⟨n,hn⟩:=q5L hr
 exact j6e n hn
theorem j1A {m:Md}{a0:Eqn}{r:Eqn}(hr:q8h a0=some r):Ok Tryz.prog 217 [Eqn.x m a0] [] (.ag [dI r.At.Pos,dS r.At.Name,dI r.Expr.Kind,dI r.Expr.N,dI r.Expr.Pos,dI r.Expr.Type_,dS r.Expr.Symbol,dS r.Expr.Name,.ref 0 none]) [.deep .fz 7 (r.Expr.Args.map Expr.W) []]:=by
 refine OE Tryz.func217 fun S hS=>?_
 unfold q8h at hr
 refine J g<|J (BX' 0)<|J (NV' 1)<|J g<|J (NV' 2)<|bdE hr fun y1 hy1 hr=>J g<|J (CB' [] [] (z9h hy1))<|bdE hr fun y2 hy2 hr=>J g<|J (CB' [(0,3)] [] (z8f (m:=m) hy2))<|e
theorem j0G {m:Md}{a0:(List Eqn)}{r:(List Eqn)}(hr:z0B a0=some r):Ok Tryz.prog 168 [.d m (.sl 9 (a0.map Eqn.D))] [] (.ref 0 none) [.deep .fz 9 (r.map Eqn.W) []]:=by
 refine OE Tryz.func168 fun S hS=>?_
 unfold z0B at hr
 refine ggE hr fun g1 hr=>J g<|MKW 0 (f:=Eqn.W) (⟨(⟨(0:Int),(⟨#[]⟩:ByteArray)⟩:Oc),(⟨(0:Int),(0:Int),(0:Int),(0:Int),(⟨#[]⟩:ByteArray),(⟨#[]⟩:ByteArray),[]⟩:Expr)⟩:Eqn) g1.1 g1.2.1 g1.2.2 ?_
 refine J (gn 8)<|J (lenT 0)<|fun hl1=>bdE hr fun s1 hqq1 hr=>q0c hqq1 hl1 1 (fun k1 s1=>[(0,.d m (.sl 9 (a0.map Eqn.D))),(3,.ref 0 none),(4,dI (k1:Int))]) (fun k1 s1=>[(0,.deep .fz 9 (s1.map Eqn.W) [])]) I (fun k1 xk1 sk1 ok1 hxk1 hr hltk1=>?_) fun k1 hltk1=>?_
 obtain⟨s1,rfl⟩:∃ y,y=sk1:=⟨_,rfl⟩
 refine bdE hr fun y1 hy1 hr=>J g<|J (CB' [(0,1)] [] (j1A (m:=m) hy1))<|bdE hr fun x1 hx1 hr=>J (IEd' (Int.natCast_nonneg _) (q5c hx1))<|J (SD' [.d .fz (.i .i64 y1.At.Pos),.d .fz (.s y1.At.Name),.d .fz (.i .i64 y1.Expr.Kind),.d .fz (.i .i64 y1.Expr.N),.d .fz (.i .i64 y1.Expr.Pos),.d .fz (.i .i64 y1.Expr.Type_),.d .fz (.s y1.Expr.Symbol),.d .fz (.s y1.Expr.Name),.w 7 (y1.Expr.Args.map Expr.D)] [1] (q5c hx1))<|J (gn 6) ?_
 cases hr
 exact GH.trans (q0o 0 (he:=eset (f:=Eqn.W) (x':=y1) (by first|rfl|(simp only[List.set_set];rfl)))) (q0f hS 1)
 exact e
theorem z7y {m:Md}{a0:Cn}{r:Cn}(hr:q6f a0=some r):Ok Tryz.prog 218 [Cn.x m a0] [] (.ag [dS r.Symbol,dS r.Name,dI r.Target.Kind,dI r.Target.N,dI r.Target.Pos,dI r.Target.Type_,dS r.Target.Symbol,dS r.Target.Name,.ref 0 none,dI r.Value.Kind,dI r.Value.N,dI r.Value.Pos,dI r.Value.Type_,dS r.Value.Symbol,dS r.Value.Name,.ref 1 none]) [.deep .fz 7 (r.Target.Args.map Expr.W) [],.deep .fz 7 (r.Value.Args.map Expr.W) []]:=by
 refine OE Tryz.func218 fun S hS=>?_
 unfold q6f at hr
 refine J g<|J (BX' 0)<|J (NV' 1)<|J g<|J (NV' 2)<|bdE hr fun y1 hy1 hr=>J g<|J (CB' [(0,3)] [] (z8f (m:=m) hy1))<|bdE hr fun y2 hy2 hr=>J g<|J (CB' [(0,4)] [] (z8f (m:=m) hy2))<|e
theorem z6E {m:Md}{a0:(List Cn)}{r:(List Cn)}(hr:q7N a0=some r):Ok Tryz.prog 169 [.d m (.sl 16 (a0.map Cn.D))] [] (.ref 0 none) [.deep .fz 16 (r.map Cn.W) []]:=by
 refine OE Tryz.func169 fun S hS=>?_
 unfold q7N at hr
 refine ggE hr fun g1 hr=>J g<|MKW 0 (f:=Cn.W) (⟨(⟨#[]⟩:ByteArray),(⟨#[]⟩:ByteArray),(⟨(0:Int),(0:Int),(0:Int),(0:Int),(⟨#[]⟩:ByteArray),(⟨#[]⟩:ByteArray),[]⟩:Expr),(⟨(0:Int),(0:Int),(0:Int),(0:Int),(⟨#[]⟩:ByteArray),(⟨#[]⟩:ByteArray),[]⟩:Expr)⟩:Cn) g1.1 g1.2.1 g1.2.2 ?_
 refine J (gn 8)<|J (lenT 0)<|fun hl1=>bdE hr fun s1 hqq1 hr=>q0c hqq1 hl1 1 (fun k1 s1=>[(0,.d m (.sl 16 (a0.map Cn.D))),(3,.ref 0 none),(4,dI (k1:Int))]) (fun k1 s1=>[(0,.deep .fz 16 (s1.map Cn.W) [])]) I (fun k1 xk1 sk1 ok1 hxk1 hr hltk1=>?_) fun k1 hltk1=>?_
 obtain⟨s1,rfl⟩:∃ y,y=sk1:=⟨_,rfl⟩
 refine bdE hr fun y1 hy1 hr=>J g<|J (CB' [(0,1),(1,2)] [] (z7y (m:=m) hy1))<|bdE hr fun x1 hx1 hr=>J (IEd' (Int.natCast_nonneg _) (q5c hx1))<|J (SD' [.d .fz (.s y1.Symbol),.d .fz (.s y1.Name),.d .fz (.i .i64 y1.Target.Kind),.d .fz (.i .i64 y1.Target.N),.d .fz (.i .i64 y1.Target.Pos),.d .fz (.i .i64 y1.Target.Type_),.d .fz (.s y1.Target.Symbol),.d .fz (.s y1.Target.Name),.w 7 (y1.Target.Args.map Expr.D),.d .fz (.i .i64 y1.Value.Kind),.d .fz (.i .i64 y1.Value.N),.d .fz (.i .i64 y1.Value.Pos),.d .fz (.i .i64 y1.Value.Type_),.d .fz (.s y1.Value.Symbol),.d .fz (.s y1.Value.Name),.w 7 (y1.Value.Args.map Expr.D)] [1,2] (q5c hx1))<|J (gn 6) ?_
 cases hr
 exact GH.trans (q0o 0 (he:=eset (f:=Cn.W) (x':=y1) (by first|rfl|(simp only[List.set_set];rfl)))) (q0f hS 1)
 exact e
theorem j8r {m:Md}{a0:Rule}{r:Rule}(hr:z3n a0=some r):Ok Tryz.prog 116 [Rule.x m a0] [] (.ag [dS r.Name,dS r.Left,.ref 0 none,dB r.Literal,.ref 1 none,.ref 2 none]) [.row .fz 1 (r.Right.map A.D.s),.deep .fz 9 (r.Equations.map Eqn.W) [],.deep .fz 16 (r.Contributions.map Cn.W) []]:=by
 refine OE Tryz.func116 fun S hS=>?_
 unfold z3n at hr
 refine J g<|J (BX' 0)<|J (NV' 1)<|J g<|J (NV' 2)<|bdE hr fun y1 hy1 hr=>J g<|J (CB' [(0,3)] [] (j3i (m:=m) hy1))<|bdE hr fun y2 hy2 hr=>J g<|J (CB' [(0,4)] [] (j0G (m:=m) hy2))<|bdE hr fun y3 hy3 hr=>J g<|J (CB' [(0,5)] [] (z6E (m:=m) hy3))<|e
theorem j6f {m:Md}{a0:(List Rule)}{r:(List Rule)}(hr:z5F a0=some r):Ok Tryz.prog 61 [.d m (.sl 6 (a0.map Rule.D))] [] (.ref 0 none) [.deep .fz 6 (r.map Rule.W) []]:=by
 refine OE Tryz.func61 fun S hS=>?_
 unfold z5F at hr
 refine ggE hr fun g1 hr=>J g<|MKW 0 (f:=Rule.W) (⟨(⟨#[]⟩:ByteArray),(⟨#[]⟩:ByteArray),[],false,[],[]⟩:Rule) g1.1 g1.2.1 g1.2.2 ?_
 refine J (gn 8)<|J (lenT 0)<|fun hl1=>bdE hr fun s1 hqq1 hr=>q0c hqq1 hl1 1 (fun k1 s1=>[(0,.d m (.sl 6 (a0.map Rule.D))),(3,.ref 0 none),(4,dI (k1:Int))]) (fun k1 s1=>[(0,.deep .fz 6 (s1.map Rule.W) [])]) I (fun k1 xk1 sk1 ok1 hxk1 hr hltk1=>?_) fun k1 hltk1=>?_
 obtain⟨s1,rfl⟩:∃ y,y=sk1:=⟨_,rfl⟩
 refine bdE hr fun y1 hy1 hr=>J g<|J (CB' [(0,1),(1,2),(2,3)] [] (j8r (m:=m) hy1))<|bdE hr fun x1 hx1 hr=>J (IEd' (Int.natCast_nonneg _) (q5c hx1))<|J (SD' [.d .fz (.s y1.Name),.d .fz (.s y1.Left),.w 1 (y1.Right.map A.D.s),.d .fz (.b y1.Literal),.w 9 (y1.Equations.map Eqn.D),.w 16 (y1.Contributions.map Cn.D)] [1,2,3] (q5c hx1))<|J (gn 6) ?_
 cases hr
 exact GH.trans (q0o 0 (he:=eset (f:=Rule.W) (x':=y1) (by first|rfl|(simp only[List.set_set];rfl)))) (q0f hS 1)
 exact e
theorem z4h {m:Md}{a0:Gm_}{r:Gm_}(hr:q7X a0=some r):Ok Tryz.prog 22 [Gm_.x m a0] [] (.ag [.ref 0 none,.ref 1 none]) [.deep .fz 2 (r.Symbols.map Symbol.W) [],.deep .fz 6 (r.Rules.map Rule.W) []]:=by
 refine OE Tryz.func22 fun S hS=>?_
 unfold q7X at hr
 refine J g<|J (BX' 0)<|J (NV' 1)<|J g<|J (NV' 2)<|bdE hr fun y1 hy1 hr=>J g<|J (CB' [(0,3)] [] (j3h (m:=m) hy1))<|bdE hr fun y2 hy2 hr=>J g<|J (CB' [(0,4)] [] (j6f (m:=m) hy2))<|e
theorem j0H {a0:At_}{a1:At_}{r:Bool}(hr:q7D a0 a1=some r):Ok Tryz.prog 219 [At_.x .fz a0,At_.x .fz a1] [] (dB r) []:=by
 refine OE Tryz.func219 fun S hS=>?_
 unfold q7D at hr
 refine J g<|J (BX' 0)<|J (BX' 1)<|J (gn 11)<|ifE hr ?_ ?_<;>intro h1 hr
 refine J (gn 11)<|ifE hr ?_ ?_<;>intro h2 hr
 refine J (gn 11)<|ifE hr ?_ ?_<;>intro h3 hr
 refine J g ?_
 refine J (BQn' rfl rfl)<|J (gn 1)<|ifE hr ?_ ?_<;>intro h4 hr
 exact e
 exact e
 exact e
 exact e
 exact e
theorem z9i {m:Md}{a0:(List At_)}{a1:(List At_)}{r:Bool}(hr:q9T a0 a1=some r):Ok Tryz.prog 170 [.d m (.sl 4 (a0.map At_.D)),.d m (.sl 4 (a1.map At_.D))] [] (dB r) []:=by
 refine OE Tryz.func170 fun S hS=>?_
 unfold q9T at hr
 refine J (gn 13)<|ifE hr ?_ ?_<;>intro h1 hr
 refine J (gn 8)<|J (lenT 0)<|fun hl1=>bdE hr fun q1 hqq1 hr=>q0b hqq1 hl1 0 (fun k1 _=>[(0,.d m (.sl 4 (a0.map At_.D))),(1,.d m (.sl 4 (a1.map At_.D))),(5,dI (k1:Int))]) (fun k1 _=>[]) I (fun k1 xk1 sk1 ok1 hxk1 hr hltk1 hik1=>?_) fun k1 sk1 ek1 hltk1=>?_
 refine bdE hr fun x1 hx1 hr=>bdE hr fun y1 hy1 hr=>J g<|J (CB' [] [] (j0H hy1))<|J (gn 2)<|ifE hr ?_ ?_<;>intro h2 hr
 exact e
 exact e
 subst ek1
 exact e
 exact e
theorem j4F {m:Md}{a0:Symbol}{a1:Symbol}{r:Bool}(hr:z0o a0 a1=some r):Ok Tryz.prog 118 [Symbol.x m a0,Symbol.x m a1] [] (dB r) []:=by
 refine OE Tryz.func118 fun S hS=>?_
 unfold z0o at hr
 refine J g<|J (BX' 0)<|J (BX' 1)<|J (gn 11)<|ifE hr ?_ ?_<;>intro h1 hr
 refine bdE hr fun y1 hy1 hr=>J g<|J (CB' [] [] (z9i (m:=m) hy1))<|J (gn 2)<|ifE hr ?_ ?_<;>intro h2 hr
 exact e
 exact e
 exact e
theorem j3j {m:Md}{a0:(List Symbol)}{a1:(List Symbol)}{r:Bool}(hr:z2K a0 a1=some r):Ok Tryz.prog 63 [.d m (.sl 2 (a0.map Symbol.D)),.d m (.sl 2 (a1.map Symbol.D))] [] (dB r) []:=by
 refine OE Tryz.func63 fun S hS=>?_
 unfold z2K at hr
 refine J (gn 13)<|ifE hr ?_ ?_<;>intro h1 hr
 refine J (gn 8)<|J (lenT 0)<|fun hl1=>bdE hr fun q1 hqq1 hr=>q0b hqq1 hl1 0 (fun k1 _=>[(0,.d m (.sl 2 (a0.map Symbol.D))),(1,.d m (.sl 2 (a1.map Symbol.D))),(5,dI (k1:Int))]) (fun k1 _=>[]) I (fun k1 xk1 sk1 ok1 hxk1 hr hltk1 hik1=>?_) fun k1 sk1 ek1 hltk1=>?_
 refine bdE hr fun x1 hx1 hr=>bdE hr fun y1 hy1 hr=>J g<|J (CB' [] [] (j4F (m:=m) hy1))<|J (gn 2)<|ifE hr ?_ ?_<;>intro h2 hr
 exact e
 exact e
 subst ek1
 exact e
 exact e
theorem j3k {m:Md}{a0:(List ByteArray)}{a1:(List ByteArray)}{r:Bool}(hr:z2L a0 a1=some r):Ok Tryz.prog 171 [.d m (.sl 1 (a0.map A.D.s)),.d m (.sl 1 (a1.map A.D.s))] [] (dB r) []:=by
 refine OE Tryz.func171 fun S hS=>?_
 unfold z2L at hr
 refine J (gn 13)<|ifE hr ?_ ?_<;>intro h1 hr
 refine J (gn 8)<|J (lenT 0)<|fun hl1=>bdE hr fun q1 hqq1 hr=>q0b hqq1 hl1 0 (fun k1 _=>[(0,.d m (.sl 1 (a0.map A.D.s))),(1,.d m (.sl 1 (a1.map A.D.s))),(5,dI (k1:Int))]) (fun k1 _=>[]) I (fun k1 xk1 sk1 ok1 hxk1 hr hltk1 hik1=>?_) fun k1 sk1 ek1 hltk1=>?_
 refine bdE hr fun x1 hx1 hr=>J (gn 24)<|ifE hr ?_ ?_<;>intro h2 hr
 exact e
 exact e
 subst ek1
 exact e
 exact e
theorem z9j {a0:Oc}{a1:Oc}{r:Bool}(hr:q8e a0 a1=some r):Ok Tryz.prog 263 [Oc.x .fz a0,Oc.x .fz a1] [] (dB r) []:=by
 refine OE Tryz.func263 fun S hS=>?_
 unfold q8e at hr
 refine J g<|J (BX' 0)<|J (BX' 1)<|J (gn 11)<|ifE hr ?_ ?_<;>intro h1 hr
 refine J (gn 11)<|ifE hr ?_ ?_<;>intro h2 hr
 exact e
 exact e
 exact e
theorem j6g {Rc16:Expr→Expr→Option Bool}(Ic16:∀ {m:Md} {a0:Expr} {a1:Expr} {r:Bool},Rc16 a0 a1=some r→Ok Tryz.prog 264 [Expr.x m a0,Expr.x m a1] [] (dB r) []){m:Md}{a0:(List Expr)}{a1:(List Expr)}{r:Bool}(hr:z5K Rc16 a0 a1=some r):Ok Tryz.prog 287 [.d m (.sl 7 (a0.map Expr.D)),.d m (.sl 7 (a1.map Expr.D))] [] (dB r) []:=by
 refine OE Tryz.func287 fun S hS=>?_
 unfold z5K at hr
 refine J (gn 13)<|ifE hr ?_ ?_<;>intro h1 hr
 refine J (gn 8)<|J (lenT 0)<|fun hl1=>bdE hr fun q1 hqq1 hr=>q0b hqq1 hl1 0 (fun k1 _=>[(0,.d m (.sl 7 (a0.map Expr.D))),(1,.d m (.sl 7 (a1.map Expr.D))),(5,dI (k1:Int))]) (fun k1 _=>[]) I (fun k1 xk1 sk1 ok1 hxk1 hr hltk1 hik1=>?_) fun k1 sk1 ek1 hltk1=>?_
 refine bdE hr fun x1 hx1 hr=>bdE hr fun y1 hy1 hr=>J g<|J (CB' [] [] (Ic16 (m:=m) hy1))<|J (gn 2)<|ifE hr ?_ ?_<;>intro h2 hr
 exact e
 exact e
 subst ek1
 exact e
 exact e
theorem j6h {Rc16:Expr→Expr→Option Bool}(Ic16:∀ {m:Md} {a0:Expr} {a1:Expr} {r:Bool},Rc16 a0 a1=some r→Ok Tryz.prog 264 [Expr.x m a0,Expr.x m a1] [] (dB r) []){m:Md}{a0:Expr}{a1:Expr}{r:Bool}(hr:z5a Rc16 a0 a1=some r):Ok Tryz.prog 264 [Expr.x m a0,Expr.x m a1] [] (dB r) []:=by
 refine OE Tryz.func264 fun S hS=>?_
 unfold z5a at hr
 refine J g<|J (BX' 0)<|J (BX' 1)<|J (gn 11)<|ifE hr ?_ ?_<;>intro h1 hr
 refine J (gn 11)<|ifE hr ?_ ?_<;>intro h2 hr
 refine J (gn 11)<|ifE hr ?_ ?_<;>intro h3 hr
 refine J (gn 11)<|ifE hr ?_ ?_<;>intro h4 hr
 refine J (gn 11)<|ifE hr ?_ ?_<;>intro h5 hr
 refine J (gn 11)<|ifE hr ?_ ?_<;>intro h6 hr
 refine bdE hr fun y1 hy1 hr=>J g<|J (CB' [] [] (j6g Ic16 (m:=m) hy1))<|J (gn 2)<|ifE hr ?_ ?_<;>intro h7 hr
 exact e
 exact e
 exact e
 exact e
 exact e
 exact e
 exact e
 exact e
theorem j6i (n:Nat):∀ {m:Md} {a0:Expr} {a1:Expr} {r:Bool},z0Z n a0 a1=some r→Ok Tryz.prog 264 [Expr.x m a0,Expr.x m a1] [] (dB r) []:=by
  induction n with
  | zero=>intro _ _ _ r hr;exact nomatch (show (none:Option Bool)=some r from hr)
  | succ n ih=>intro _ _ _ r hr;exact j6h ih hr
theorem z8g {m:Md}{a0:Expr}{a1:Expr}{r:Bool}(hr:z5b a0 a1=some r):Ok Tryz.prog 264 [Expr.x m a0,Expr.x m a1] [] (dB r) []:=by
 obtain⟨n,hn⟩:=q5L hr
 exact j6i n hn
theorem j1B {m:Md}{a0:Eqn}{a1:Eqn}{r:Bool}(hr:q8s a0 a1=some r):Ok Tryz.prog 220 [Eqn.x m a0,Eqn.x m a1] [] (dB r) []:=by
 refine OE Tryz.func220 fun S hS=>?_
 unfold q8s at hr
 refine J g<|J (BX' 0)<|J (BX' 1)<|bdE hr fun y1 hy1 hr=>J g<|J (CB' [] [] (z9j hy1))<|J (gn 2)<|ifE hr ?_ ?_<;>intro h1 hr
 refine bdE hr fun y2 hy2 hr=>J g<|J (CB' [] [] (z8g (m:=m) hy2))<|J (gn 2)<|ifE hr ?_ ?_<;>intro h2 hr
 exact e
 exact e
 exact e
theorem j0I {m:Md}{a0:(List Eqn)}{a1:(List Eqn)}{r:Bool}(hr:z0O a0 a1=some r):Ok Tryz.prog 172 [.d m (.sl 9 (a0.map Eqn.D)),.d m (.sl 9 (a1.map Eqn.D))] [] (dB r) []:=by
 refine OE Tryz.func172 fun S hS=>?_
 unfold z0O at hr
 refine J (gn 13)<|ifE hr ?_ ?_<;>intro h1 hr
 refine J (gn 8)<|J (lenT 0)<|fun hl1=>bdE hr fun q1 hqq1 hr=>q0b hqq1 hl1 0 (fun k1 _=>[(0,.d m (.sl 9 (a0.map Eqn.D))),(1,.d m (.sl 9 (a1.map Eqn.D))),(5,dI (k1:Int))]) (fun k1 _=>[]) I (fun k1 xk1 sk1 ok1 hxk1 hr hltk1 hik1=>?_) fun k1 sk1 ek1 hltk1=>?_
 refine bdE hr fun x1 hx1 hr=>bdE hr fun y1 hy1 hr=>J g<|J (CB' [] [] (j1B (m:=m) hy1))<|J (gn 2)<|ifE hr ?_ ?_<;>intro h2 hr
 exact e
 exact e
 subst ek1
 exact e
 exact e
theorem z7z {m:Md}{a0:Cn}{a1:Cn}{r:Bool}(hr:q6h a0 a1=some r):Ok Tryz.prog 221 [Cn.x m a0,Cn.x m a1] [] (dB r) []:=by
 refine OE Tryz.func221 fun S hS=>?_
 unfold q6h at hr
 refine J g<|J (BX' 0)<|J (BX' 1)<|J (gn 11)<|ifE hr ?_ ?_<;>intro h1 hr
 refine J (gn 11)<|ifE hr ?_ ?_<;>intro h2 hr
 refine bdE hr fun y1 hy1 hr=>J g<|J (CB' [] [] (z8g (m:=m) hy1))<|J (gn 2)<|ifE hr ?_ ?_<;>intro h3 hr
 refine bdE hr fun y2 hy2 hr=>J g<|J (CB' [] [] (z8g (m:=m) hy2))<|J (gn 2)<|ifE hr ?_ ?_<;>intro h4 hr
 exact e
 exact e
 exact e
 exact e
 exact e
theorem z6F {m:Md}{a0:(List Cn)}{a1:(List Cn)}{r:Bool}(hr:q7Q a0 a1=some r):Ok Tryz.prog 173 [.d m (.sl 16 (a0.map Cn.D)),.d m (.sl 16 (a1.map Cn.D))] [] (dB r) []:=by
 refine OE Tryz.func173 fun S hS=>?_
 unfold q7Q at hr
 refine J (gn 13)<|ifE hr ?_ ?_<;>intro h1 hr
 refine J (gn 8)<|J (lenT 0)<|fun hl1=>bdE hr fun q1 hqq1 hr=>q0b hqq1 hl1 0 (fun k1 _=>[(0,.d m (.sl 16 (a0.map Cn.D))),(1,.d m (.sl 16 (a1.map Cn.D))),(5,dI (k1:Int))]) (fun k1 _=>[]) I (fun k1 xk1 sk1 ok1 hxk1 hr hltk1 hik1=>?_) fun k1 sk1 ek1 hltk1=>?_
 refine bdE hr fun x1 hx1 hr=>bdE hr fun y1 hy1 hr=>J g<|J (CB' [] [] (z7z (m:=m) hy1))<|J (gn 2)<|ifE hr ?_ ?_<;>intro h2 hr
 exact e
 exact e
 subst ek1
 exact e
 exact e
theorem j8s {m:Md}{a0:Rule}{a1:Rule}{r:Bool}(hr:z3A a0 a1=some r):Ok Tryz.prog 119 [Rule.x m a0,Rule.x m a1] [] (dB r) []:=by
 refine OE Tryz.func119 fun S hS=>?_
 unfold z3A at hr
 refine J g<|J (BX' 0)<|J (BX' 1)<|J (gn 11)<|ifE hr ?_ ?_<;>intro h1 hr
 refine J (gn 11)<|ifE hr ?_ ?_<;>intro h2 hr
 refine bdE hr fun y1 hy1 hr=>J g<|J (CB' [] [] (j3k (m:=m) hy1))<|J (gn 2)<|ifE hr ?_ ?_<;>intro h3 hr
 refine J g ?_
 refine J (BQn' rfl rfl)<|J (gn 1)<|ifE hr ?_ ?_<;>intro h4 hr
 refine bdE hr fun y2 hy2 hr=>J g<|J (CB' [] [] (j0I (m:=m) hy2))<|J (gn 2)<|ifE hr ?_ ?_<;>intro h5 hr
 refine bdE hr fun y3 hy3 hr=>J g<|J (CB' [] [] (z6F (m:=m) hy3))<|J (gn 2)<|ifE hr ?_ ?_<;>intro h6 hr
 exact e
 exact e
 exact e
 exact e
 exact e
 exact e
 exact e
theorem j6j {m:Md}{a0:(List Rule)}{a1:(List Rule)}{r:Bool}(hr:z5L a0 a1=some r):Ok Tryz.prog 64 [.d m (.sl 6 (a0.map Rule.D)),.d m (.sl 6 (a1.map Rule.D))] [] (dB r) []:=by
 refine OE Tryz.func64 fun S hS=>?_
 unfold z5L at hr
 refine J (gn 13)<|ifE hr ?_ ?_<;>intro h1 hr
 refine J (gn 8)<|J (lenT 0)<|fun hl1=>bdE hr fun q1 hqq1 hr=>q0b hqq1 hl1 0 (fun k1 _=>[(0,.d m (.sl 6 (a0.map Rule.D))),(1,.d m (.sl 6 (a1.map Rule.D))),(5,dI (k1:Int))]) (fun k1 _=>[]) I (fun k1 xk1 sk1 ok1 hxk1 hr hltk1 hik1=>?_) fun k1 sk1 ek1 hltk1=>?_
 refine bdE hr fun x1 hx1 hr=>bdE hr fun y1 hy1 hr=>J g<|J (CB' [] [] (j8s (m:=m) hy1))<|J (gn 2)<|ifE hr ?_ ?_<;>intro h2 hr
 exact e
 exact e
 subst ek1
 exact e
 exact e
theorem j3l {m:Md}{a0:Gm_}{a1:Gm_}{r:Bool}(hr:z1a a0 a1=some r):Ok Tryz.prog 24 [Gm_.x m a0,Gm_.x m a1] [] (dB r) []:=by
 refine OE Tryz.func24 fun S hS=>?_
 unfold z1a at hr
 refine J g<|J (BX' 0)<|J (BX' 1)<|bdE hr fun y1 hy1 hr=>J g<|J (CB' [] [] (j3j (m:=m) hy1))<|J (gn 2)<|ifE hr ?_ ?_<;>intro h1 hr
 refine bdE hr fun y2 hy2 hr=>J g<|J (CB' [] [] (j6j (m:=m) hy2))<|J (gn 2)<|ifE hr ?_ ?_<;>intro h2 hr
 exact e
 exact e
 exact e
theorem z5j {m:Md}{a0:Gm_}{r:Bool}(hr:q6S a0=some r):Ok Tryz.prog 5 [Gm_.x m a0] [] (dB r) []:=by
 refine OE Tryz.func5 fun S hS=>?_
 unfold q6S at hr
 refine J g<|J (BX' 0)<|bdE hr fun y1 hy1 hr=>J g<|J (CB' [] [] (j3g (m:=m) hy1))<|J (gn 8)<|ifE hr ?_ ?_<;>intro h1 hr
 exact e
 refine bdE hr fun y2 hy2 hr=>J g<|J (CB' [(0,1),(1,2)] [] (z4h (m:=m) hy2))<|bdE hr fun y3 hy3 hr=>J (CB' [] [1,2] (j1y (m:=.bo) hy3))<|bdE hr fun y4 hy4 hr=>J g<|J (CB' [(0,3),(1,4)] [] (z4h (m:=m) hy4))<|J (NV' 5)<|bdE hr fun y5 hy5 hr=>J g<|J (CB' [] [3,4] (j1q (m:=.bo) hy5))<|J g ?_
 refine J (BQn' rfl rfl)<|J (gn 1)<|ifE hr ?_ ?_<;>intro h2 hr
 refine bdE hr fun y6 hy6 hr=>J g<|J (CB' [(0,6),(1,7)] [] (z4h (m:=m) hy6))<|bdE hr fun y7 hy7 hr=>J (CB' [] [3,4,6,7] (j3l (m:=.bo) hy7))<|J (gn 2)<|ifE hr ?_ ?_<;>intro h3 hr
 exact e
 exact e
 exact e
end Go.Proofs.YtomdlgffolbdkaaGreat
