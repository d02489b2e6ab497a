/- What some functions of the program compute, as partial functions on plain data, and that they do; each lemma bears its conditions in its statement. -/
import Derived.Test.YtcegfmageiicaaaGreatLane0a
import Derived.Test.YtcegfmageiicaaaGreatLane1a
set_option linter.unusedVariables false
set_option linter.unusedSimpArgs false
set_option linter.ambiguousOpen false
set_option linter.unusedSectionVars false
set_option linter.unnecessarySimpa false
set_option maxRecDepth 100000
set_option maxHeartbeats 40000000
noncomputable section
namespace Go.Proofs.YtcegfmageiicaaaGreat
open Go Go.E Go.A
theorem j4d {a0:At_}{a1:Int}{r:Int}(hr:z2F a0 a1=some r):Ok Tryz.prog 204 [At_.x .fz a0,dI a1] [] (dI r) []:=by
 refine OE Tryz.func204 fun S hS=>?_
 unfold z2F at hr
 refine J g<|J (BX' 0)<|J g<|J LS'<|ggE hr fun g1 hr=>J (gn 9)<|ifE hr ?_ ?_<;>intro h1 hr
 exact e
 exact e
theorem j2x {m:Md}{a0:(List At_)}{a1:Int}{r:Int}(hr:z1q a0 a1=some r):Ok Tryz.prog 148 [.d m (.sl 4 (a0.map At_.D)),dI a1] [] (dI r) []:=by
 refine OE Tryz.func148 fun S hS=>?_
 unfold z1q at hr
 refine ggE hr fun g1 hr=>J (gn 18)<|ifE hr ?_ ?_<;>intro h1 hr
 exact e
 refine J (gn 8)<|J (lenT 0)<|fun hl1=>bdE hr fun q1 hqq1 hr=>q0b hqq1 hl1 0 (fun k1 s1=>[(0,.d m (.sl 4 (a0.map At_.D))),(1,dI s1),(5,dI (k1:Int))]) (fun k1 s1=>[]) I (fun k1 xk1 sk1 ok1 hxk1 hr hltk1 hik1=>?_) fun k1 sk1 ek1 hltk1=>?_
 obtain⟨s1,rfl⟩:∃ y,y=sk1:=⟨_,rfl⟩
 refine bdE hr fun y1 hy1 hr=>J g<|J (CB' [] [] (j4d hy1))<|J (gn 7)<|ifE hr ?_ ?_<;>intro h2 hr
 exact e
 exact e
 subst ek1
 obtain⟨s1,rfl⟩:∃ y,y=sk1:=⟨_,rfl⟩
 exact e
theorem j8w {m:Md}{a0:Symbol}{a1:Int}{r:Int}(hr:z6J a0 a1=some r):Ok Tryz.prog 87 [Symbol.x m a0,dI a1] [] (dI r) []:=by
 refine OE Tryz.func87 fun S hS=>?_
 unfold z6J at hr
 refine J g<|J (BX' 0)<|J g<|J LS'<|ggE hr fun g1 hr=>J (gn 9)<|ifE hr ?_ ?_<;>intro h1 hr
 exact e
 refine bdE hr fun y1 hy1 hr=>J g<|J (CB' [] [] (j2x (m:=m) hy1))<|J (gn 8)<|ifE hr ?_ ?_<;>intro h2 hr
 exact e
 exact e
theorem j6R {m:Md}{a0:(List Symbol)}{a1:Int}{r:Int}(hr:z5h a0 a1=some r):Ok Tryz.prog 34 [.d m (.sl 2 (a0.map Symbol.D)),dI a1] [] (dI r) []:=by
 refine OE Tryz.func34 fun S hS=>?_
 unfold z5h at hr
 refine ggE hr fun g1 hr=>J (gn 18)<|ifE hr ?_ ?_<;>intro h1 hr
 exact e
 refine J (gn 8)<|J (lenT 0)<|fun hl1=>bdE hr fun q1 hqq1 hr=>q0b hqq1 hl1 0 (fun k1 s1=>[(0,.d m (.sl 2 (a0.map Symbol.D))),(1,dI s1),(5,dI (k1:Int))]) (fun k1 s1=>[]) I (fun k1 xk1 sk1 ok1 hxk1 hr hltk1 hik1=>?_) fun k1 sk1 ek1 hltk1=>?_
 obtain⟨s1,rfl⟩:∃ y,y=sk1:=⟨_,rfl⟩
 refine bdE hr fun y1 hy1 hr=>J g<|J (CB' [] [] (j8w (m:=m) hy1))<|J (gn 7)<|ifE hr ?_ ?_<;>intro h2 hr
 exact e
 exact e
 subst ek1
 obtain⟨s1,rfl⟩:∃ y,y=sk1:=⟨_,rfl⟩
 exact e
theorem j6S {m:Md}{a0:(List ByteArray)}{a1:Int}{r:Int}(hr:z5i a0 a1=some r):Ok Tryz.prog 149 [.d m (.sl 1 (a0.map A.D.s)),dI a1] [] (dI r) []:=by
 refine OE Tryz.func149 fun S hS=>?_
 unfold z5i at hr
 refine ggE hr fun g1 hr=>J (gn 18)<|ifE hr ?_ ?_<;>intro h1 hr
 exact e
 refine J (gn 8)<|J (lenT 0)<|fun hl1=>bdE hr fun q1 hqq1 hr=>q0b hqq1 hl1 0 (fun k1 s1=>[(0,.d m (.sl 1 (a0.map A.D.s))),(1,dI s1),(5,dI (k1:Int))]) (fun k1 s1=>[]) I (fun k1 xk1 sk1 ok1 hxk1 hr hltk1 hik1=>?_) fun k1 sk1 ek1 hltk1=>?_
 obtain⟨s1,rfl⟩:∃ y,y=sk1:=⟨_,rfl⟩
 refine J g<|J LS'<|ggE hr fun g2 hr=>J (gn 8)<|ifE hr ?_ ?_<;>intro h2 hr
 exact e
 exact e
 subst ek1
 obtain⟨s1,rfl⟩:∃ y,y=sk1:=⟨_,rfl⟩
 exact e
theorem j2y {a0:Oc}{a1:Int}{r:Int}(hr:z1r a0 a1=some r):Ok Tryz.prog 245 [Oc.x .fz a0,dI a1] [] (dI r) []:=by
 refine OE Tryz.func245 fun S hS=>?_
 unfold z1r at hr
 refine J g<|J (BX' 0)<|J g<|J LS'<|ggE hr fun g1 hr=>J (gn 9)<|ifE hr ?_ ?_<;>intro h1 hr
 exact e
 exact e
theorem j9R {rec_wszExpr:Expr→Int→Option Int}(ih_wszExpr:∀ {m:Md} {a0:Expr} {a1:Int} {r:Int},rec_wszExpr a0 a1=some r→Ok Tryz.prog 246 [Expr.x m a0,dI a1] [] (dI r) []){m:Md}{a0:(List Expr)}{a1:Int}{r:Int}(hr:j1a rec_wszExpr a0 a1=some r):Ok Tryz.prog 286 [.d m (.sl 7 (a0.map Expr.D)),dI a1] [] (dI r) []:=by
 refine OE Tryz.func286 fun S hS=>?_
 unfold j1a at hr
 refine ggE hr fun g1 hr=>J (gn 18)<|ifE hr ?_ ?_<;>intro h1 hr
 exact e
 refine J (gn 8)<|J (lenT 0)<|fun hl1=>bdE hr fun q1 hqq1 hr=>q0b hqq1 hl1 0 (fun k1 s1=>[(0,.d m (.sl 7 (a0.map Expr.D))),(1,dI s1),(5,dI (k1:Int))]) (fun k1 s1=>[]) I (fun k1 xk1 sk1 ok1 hxk1 hr hltk1 hik1=>?_) fun k1 sk1 ek1 hltk1=>?_
 obtain⟨s1,rfl⟩:∃ y,y=sk1:=⟨_,rfl⟩
 refine bdE hr fun y1 hy1 hr=>J g<|J (CB' [] [] (ih_wszExpr (m:=m) hy1))<|J (gn 7)<|ifE hr ?_ ?_<;>intro h2 hr
 exact e
 exact e
 subst ek1
 obtain⟨s1,rfl⟩:∃ y,y=sk1:=⟨_,rfl⟩
 exact e
theorem j9S {rec_wszExpr:Expr→Int→Option Int}(ih_wszExpr:∀ {m:Md} {a0:Expr} {a1:Int} {r:Int},rec_wszExpr a0 a1=some r→Ok Tryz.prog 246 [Expr.x m a0,dI a1] [] (dI r) []){m:Md}{a0:Expr}{a1:Int}{r:Int}(hr:z7E rec_wszExpr a0 a1=some r):Ok Tryz.prog 246 [Expr.x m a0,dI a1] [] (dI r) []:=by
 refine OE Tryz.func246 fun S hS=>?_
 unfold z7E at hr
 refine J g<|J (BX' 0)<|J g<|J LS'<|ggE hr fun g1 hr=>J (gn 9)<|ifE hr ?_ ?_<;>intro h1 hr
 exact e
 refine J g<|J LS'<|ggE hr fun g2 hr=>J (gn 9)<|ifE hr ?_ ?_<;>intro h2 hr
 exact e
 refine bdE hr fun y1 hy1 hr=>J g<|J (CB' [] [] (j9R ih_wszExpr (m:=m) hy1))<|J (gn 8)<|ifE hr ?_ ?_<;>intro h3 hr
 exact e
 exact e
theorem j9T (n:Nat):∀ {m:Md} {a0:Expr} {a1:Int} {r:Int},z5T n a0 a1=some r→Ok Tryz.prog 246 [Expr.x m a0,dI a1] [] (dI r) []:=by
  induction n with
  | zero=>intro _ _ _ r hr;exact nomatch (show (none:Option Int)=some r from hr)
  | succ n ih=>intro _ _ _ r hr;exact j9S ih hr
theorem j1n {m:Md}{a0:Expr}{a1:Int}{r:Int}(hr:z7F a0 a1=some r):Ok Tryz.prog 246 [Expr.x m a0,dI a1] [] (dI r) []:=by
 obtain⟨n,hn⟩:=q5Z hr
 exact j9T n hn
theorem j5l {m:Md}{a0:Eqn}{a1:Int}{r:Int}(hr:z3L a0 a1=some r):Ok Tryz.prog 205 [Eqn.x m a0,dI a1] [] (dI r) []:=by
 refine OE Tryz.func205 fun S hS=>?_
 unfold z3L at hr
 refine J g<|J (BX' 0)<|bdE hr fun y1 hy1 hr=>J g<|J (CB' [] [] (j2y hy1))<|J (gn 8)<|ifE hr ?_ ?_<;>intro h1 hr
 exact e
 refine bdE hr fun y2 hy2 hr=>J g<|J (CB' [] [] (j1n (m:=m) hy2))<|J (gn 8)<|ifE hr ?_ ?_<;>intro h2 hr
 exact e
 exact e
theorem j4e {m:Md}{a0:(List Eqn)}{a1:Int}{r:Int}(hr:z2G a0 a1=some r):Ok Tryz.prog 150 [.d m (.sl 9 (a0.map Eqn.D)),dI a1] [] (dI r) []:=by
 refine OE Tryz.func150 fun S hS=>?_
 unfold z2G at hr
 refine ggE hr fun g1 hr=>J (gn 18)<|ifE hr ?_ ?_<;>intro h1 hr
 exact e
 refine J (gn 8)<|J (lenT 0)<|fun hl1=>bdE hr fun q1 hqq1 hr=>q0b hqq1 hl1 0 (fun k1 s1=>[(0,.d m (.sl 9 (a0.map Eqn.D))),(1,dI s1),(5,dI (k1:Int))]) (fun k1 s1=>[]) I (fun k1 xk1 sk1 ok1 hxk1 hr hltk1 hik1=>?_) fun k1 sk1 ek1 hltk1=>?_
 obtain⟨s1,rfl⟩:∃ y,y=sk1:=⟨_,rfl⟩
 refine bdE hr fun y1 hy1 hr=>J g<|J (CB' [] [] (j5l (m:=m) hy1))<|J (gn 7)<|ifE hr ?_ ?_<;>intro h2 hr
 exact e
 exact e
 subst ek1
 obtain⟨s1,rfl⟩:∃ y,y=sk1:=⟨_,rfl⟩
 exact e
theorem j0F {m:Md}{a0:Cn}{a1:Int}{r:Int}(hr:z0a a0 a1=some r):Ok Tryz.prog 206 [Cn.x m a0,dI a1] [] (dI r) []:=by
 refine OE Tryz.func206 fun S hS=>?_
 unfold z0a at hr
 refine J g<|J (BX' 0)<|J g<|J LS'<|ggE hr fun g1 hr=>J (gn 9)<|ifE hr ?_ ?_<;>intro h1 hr
 exact e
 refine J g<|J LS'<|ggE hr fun g2 hr=>J (gn 9)<|ifE hr ?_ ?_<;>intro h2 hr
 exact e
 refine bdE hr fun y1 hy1 hr=>J g<|J (CB' [] [] (j1n (m:=m) hy1))<|J (gn 8)<|ifE hr ?_ ?_<;>intro h3 hr
 exact e
 refine bdE hr fun y2 hy2 hr=>J g<|J (CB' [] [] (j1n (m:=m) hy2))<|J (gn 8)<|ifE hr ?_ ?_<;>intro h4 hr
 exact e
 exact e
theorem z9G {m:Md}{a0:(List Cn)}{a1:Int}{r:Int}(hr:q9D a0 a1=some r):Ok Tryz.prog 151 [.d m (.sl 16 (a0.map Cn.D)),dI a1] [] (dI r) []:=by
 refine OE Tryz.func151 fun S hS=>?_
 unfold q9D at hr
 refine ggE hr fun g1 hr=>J (gn 18)<|ifE hr ?_ ?_<;>intro h1 hr
 exact e
 refine J (gn 8)<|J (lenT 0)<|fun hl1=>bdE hr fun q1 hqq1 hr=>q0b hqq1 hl1 0 (fun k1 s1=>[(0,.d m (.sl 16 (a0.map Cn.D))),(1,dI s1),(5,dI (k1:Int))]) (fun k1 s1=>[]) I (fun k1 xk1 sk1 ok1 hxk1 hr hltk1 hik1=>?_) fun k1 sk1 ek1 hltk1=>?_
 obtain⟨s1,rfl⟩:∃ y,y=sk1:=⟨_,rfl⟩
 refine bdE hr fun y1 hy1 hr=>J g<|J (CB' [] [] (j0F (m:=m) hy1))<|J (gn 7)<|ifE hr ?_ ?_<;>intro h2 hr
 exact e
 exact e
 subst ek1
 obtain⟨s1,rfl⟩:∃ y,y=sk1:=⟨_,rfl⟩
 exact e
theorem k2A {m:Md}{a0:Rule}{a1:Int}{r:Int}(hr:j0c a0 a1=some r):Ok Tryz.prog 88 [Rule.x m a0,dI a1] [] (dI r) []:=by
 refine OE Tryz.func88 fun S hS=>?_
 unfold j0c at hr
 refine J g<|J (BX' 0)<|J g<|J LS'<|ggE hr fun g1 hr=>J (gn 9)<|ifE hr ?_ ?_<;>intro h1 hr
 exact e
 refine J g<|J LS'<|ggE hr fun g2 hr=>J (gn 9)<|ifE hr ?_ ?_<;>intro h2 hr
 exact e
 refine bdE hr fun y1 hy1 hr=>J g<|J (CB' [] [] (j6S (m:=m) hy1))<|J (gn 8)<|ifE hr ?_ ?_<;>intro h3 hr
 exact e
 refine bdE hr fun y2 hy2 hr=>J g<|J (CB' [] [] (j4e (m:=m) hy2))<|J (gn 8)<|ifE hr ?_ ?_<;>intro h4 hr
 exact e
 refine bdE hr fun y3 hy3 hr=>J g<|J (CB' [] [] (z9G (m:=m) hy3))<|J (gn 8)<|ifE hr ?_ ?_<;>intro h5 hr
 exact e
 exact e
theorem j9U {m:Md}{a0:(List Rule)}{a1:Int}{r:Int}(hr:z8F a0 a1=some r):Ok Tryz.prog 35 [.d m (.sl 6 (a0.map Rule.D)),dI a1] [] (dI r) []:=by
 refine OE Tryz.func35 fun S hS=>?_
 unfold z8F at hr
 refine ggE hr fun g1 hr=>J (gn 18)<|ifE hr ?_ ?_<;>intro h1 hr
 exact e
 refine J (gn 8)<|J (lenT 0)<|fun hl1=>bdE hr fun q1 hqq1 hr=>q0b hqq1 hl1 0 (fun k1 s1=>[(0,.d m (.sl 6 (a0.map Rule.D))),(1,dI s1),(5,dI (k1:Int))]) (fun k1 s1=>[]) I (fun k1 xk1 sk1 ok1 hxk1 hr hltk1 hik1=>?_) fun k1 sk1 ek1 hltk1=>?_
 obtain⟨s1,rfl⟩:∃ y,y=sk1:=⟨_,rfl⟩
 refine bdE hr fun y1 hy1 hr=>J g<|J (CB' [] [] (k2A (m:=m) hy1))<|J (gn 7)<|ifE hr ?_ ?_<;>intro h2 hr
 exact e
 exact e
 subst ek1
 obtain⟨s1,rfl⟩:∃ y,y=sk1:=⟨_,rfl⟩
 exact e
theorem j6T {m:Md}{a0:Grammar}{a1:Int}{r:Int}(hr:z5j a0 a1=some r):Ok Tryz.prog 8 [Grammar.x m a0,dI a1] [] (dI r) []:=by
 refine OE Tryz.func8 fun S hS=>?_
 unfold z5j at hr
 refine J g<|J (BX' 0)<|bdE hr fun y1 hy1 hr=>J g<|J (CB' [] [] (j6R (m:=m) hy1))<|J (gn 8)<|ifE hr ?_ ?_<;>intro h1 hr
 exact e
 refine bdE hr fun y2 hy2 hr=>J g<|J (CB' [] [] (j9U (m:=m) hy2))<|J (gn 8)<|ifE hr ?_ ?_<;>intro h2 hr
 exact e
 exact e
theorem j4f {a0:At_}{r:At_}(hr:z2H a0=some r):Ok Tryz.prog 209 [At_.x .fz a0] [] (At_.x .fz r) []:=by
 refine OE Tryz.func209 fun S hS=>?_
 unfold z2H at hr
 refine J g<|J (BX' 0)<|J (NV' 1)<|J g<|J (NV' 2)<|e
theorem j2z {m:Md}{a0:(List At_)}{r:(List At_)}(hr:z1s a0=some r):Ok Tryz.prog 155 [.d m (.sl 4 (a0.map At_.D))] [] (.ref 0 none) [.row .fz 4 (r.map At_.D)]:=by
 refine OE Tryz.func155 fun S hS=>?_
 unfold z1s at hr
 refine ggE hr fun g1 hr=>J g<|J (MKR' 0 (f:=At_.D) (⟨(⟨#[]⟩:ByteArray),(0:Int),(0:Int),false⟩:At_) g1.1 g1.2.1 g1.2.2)<|J (gn 8)<|J (lenT 0)<|fun hl1=>bdE hr fun s1 hqq1 hr=>q0c hqq1 hl1 1 (fun k1 s1=>[(0,.d m (.sl 4 (a0.map At_.D))),(3,.ref 0 none),(4,dI (k1:Int))]) (fun k1 s1=>[(0,.row .fz 4 (s1.map At_.D))]) I (fun k1 xk1 sk1 ok1 hxk1 hr hltk1=>?_) fun k1 hltk1=>?_
 obtain⟨s1,rfl⟩:∃ y,y=sk1:=⟨_,rfl⟩
 refine bdE hr fun y1 hy1 hr=>J g<|J (CB' [] [] (j4f hy1))<|bdE hr fun x1 hx1 hr=>J g<|J (SE' y1 hx1)<|e
 exact e
theorem j8x {m:Md}{a0:Symbol}{r:Symbol}(hr:z2d a0=some r):Ok Tryz.prog 96 [Symbol.x m a0] [] (.ag [dS r.Name,.ref 0 none]) [.row .fz 4 (r.Attributes.map At_.D)]:=by
 refine OE Tryz.func96 fun S hS=>?_
 unfold z2d at hr
 refine J g<|J (BX' 0)<|J (NV' 1)<|J g<|J (NV' 2)<|bdE hr fun y1 hy1 hr=>J g<|J (CB' [(0,3)] [] (j2z (m:=m) hy1))<|e
theorem j6U {m:Md}{a0:(List Symbol)}{r:(List Symbol)}(hr:z5k a0=some r):Ok Tryz.prog 39 [.d m (.sl 2 (a0.map Symbol.D))] [] (.ref 0 none) [.deep .fz 2 (r.map Symbol.W) []]:=by
 refine OE Tryz.func39 fun S hS=>?_
 unfold z5k at hr
 refine ggE hr fun g1 hr=>J g<|MKW 0 (f:=Symbol.W) (⟨(⟨#[]⟩:ByteArray),[]⟩:Symbol) g1.1 g1.2.1 g1.2.2 ?_
 refine J (gn 8)<|J (lenT 0)<|fun hl1=>bdE hr fun s1 hqq1 hr=>q0c hqq1 hl1 1 (fun k1 s1=>[(0,.d m (.sl 2 (a0.map Symbol.D))),(3,.ref 0 none),(4,dI (k1:Int))]) (fun k1 s1=>[(0,.deep .fz 2 (s1.map Symbol.W) [])]) I (fun k1 xk1 sk1 ok1 hxk1 hr hltk1=>?_) fun k1 hltk1=>?_
 obtain⟨s1,rfl⟩:∃ y,y=sk1:=⟨_,rfl⟩
 refine bdE hr fun y1 hy1 hr=>J g<|J (CB' [(0,1)] [] (j8x (m:=m) hy1))<|bdE hr fun x1 hx1 hr=>J (IEd' (Int.natCast_nonneg _) (q3E hx1))<|J (SD' [.d .fz (.s y1.Name),.w 4 (y1.Attributes.map At_.D)] [1] (q3E hx1))<|J (gn 6) ?_
 cases hr
 exact GH.trans (q0p 0 (he:=eset (f:=Symbol.W) (x':=y1) (by first|rfl|(simp only[List.set_set];rfl)))) (q0d hS 1)
 exact e
theorem j6V {m:Md}{a0:(List ByteArray)}{r:(List ByteArray)}(hr:z5l a0=some r):Ok Tryz.prog 156 [.d m (.sl 1 (a0.map A.D.s))] [] (.ref 0 none) [.row .fz 1 (r.map A.D.s)]:=by
 refine OE Tryz.func156 fun S hS=>?_
 unfold z5l at hr
 refine ggE hr fun g1 hr=>J g<|J (MKR' 0 (f:=A.D.s) (⟨#[]⟩:ByteArray) g1.1 g1.2.1 g1.2.2)<|J (gn 8)<|J (lenT 0)<|fun hl1=>bdE hr fun s1 hqq1 hr=>q0c hqq1 hl1 1 (fun k1 s1=>[(0,.d m (.sl 1 (a0.map A.D.s))),(3,.ref 0 none),(4,dI (k1:Int))]) (fun k1 s1=>[(0,.row .fz 1 (s1.map A.D.s))]) I (fun k1 xk1 sk1 ok1 hxk1 hr hltk1=>?_) fun k1 hltk1=>?_
 obtain⟨s1,rfl⟩:∃ y,y=sk1:=⟨_,rfl⟩
 refine bdE hr fun x1 hx1 hr=>J g<|J (SE' xk1 hx1)<|e
 exact e
theorem j2A {a0:Oc}{r:Oc}(hr:z1t a0=some r):Ok Tryz.prog 248 [Oc.x .fz a0] [] (Oc.x .fz r) []:=by
 refine OE Tryz.func248 fun S hS=>?_
 unfold z1t at hr
 refine J g<|J (BX' 0)<|J (NV' 1)<|J g<|J (NV' 2)<|e
theorem j9V {rec_wtoExpr:Expr→Option Expr}(ih_wtoExpr:∀ {m:Md} {a0:Expr} {r:Expr},rec_wtoExpr a0=some r→Ok Tryz.prog 249 [Expr.x m a0] [] (.ag [dI r.Kind,dI r.N,dI r.Pos,dI r.Type_,dS r.Symbol,dS r.Name,.ref 0 none]) [.deep .fz 7 (r.Args.map Expr.W) []]){m:Md}{a0:(List Expr)}{r:(List Expr)}(hr:z8G rec_wtoExpr a0=some r):Ok Tryz.prog 288 [.d m (.sl 7 (a0.map Expr.D))] [] (.ref 0 none) [.deep .fz 7 (r.map Expr.W) []]:=by
 refine OE Tryz.func288 fun S hS=>?_
 unfold z8G at hr
 refine ggE hr fun g1 hr=>J g<|MKW 0 (f:=Expr.W) (⟨(0:Int),(0:Int),(0:Int),(0:Int),(⟨#[]⟩:ByteArray),(⟨#[]⟩:ByteArray),[]⟩:Expr) g1.1 g1.2.1 g1.2.2 ?_
 refine J (gn 8)<|J (lenT 0)<|fun hl1=>bdE hr fun s1 hqq1 hr=>q0c hqq1 hl1 1 (fun k1 s1=>[(0,.d m (.sl 7 (a0.map Expr.D))),(3,.ref 0 none),(4,dI (k1:Int))]) (fun k1 s1=>[(0,.deep .fz 7 (s1.map Expr.W) [])]) I (fun k1 xk1 sk1 ok1 hxk1 hr hltk1=>?_) fun k1 hltk1=>?_
 obtain⟨s1,rfl⟩:∃ y,y=sk1:=⟨_,rfl⟩
 refine bdE hr fun y1 hy1 hr=>J g<|J (CB' [(0,1)] [] (ih_wtoExpr (m:=m) hy1))<|bdE hr fun x1 hx1 hr=>J (IEd' (Int.natCast_nonneg _) (q3E hx1))<|J (SD' [.d .fz (.i .i64 y1.Kind),.d .fz (.i .i64 y1.N),.d .fz (.i .i64 y1.Pos),.d .fz (.i .i64 y1.Type_),.d .fz (.s y1.Symbol),.d .fz (.s y1.Name),.w 7 (y1.Args.map Expr.D)] [1] (q3E hx1))<|J (gn 6) ?_
 cases hr
 exact GH.trans (q0p 0 (he:=eset (f:=Expr.W) (x':=y1) (by first|rfl|(simp only[List.set_set];rfl)))) (q0d hS 1)
 exact e
theorem j9W {rec_wtoExpr:Expr→Option Expr}(ih_wtoExpr:∀ {m:Md} {a0:Expr} {r:Expr},rec_wtoExpr a0=some r→Ok Tryz.prog 249 [Expr.x m a0] [] (.ag [dI r.Kind,dI r.N,dI r.Pos,dI r.Type_,dS r.Symbol,dS r.Name,.ref 0 none]) [.deep .fz 7 (r.Args.map Expr.W) []]){m:Md}{a0:Expr}{r:Expr}(hr:z7H rec_wtoExpr a0=some r):Ok Tryz.prog 249 [Expr.x m a0] [] (.ag [dI r.Kind,dI r.N,dI r.Pos,dI r.Type_,dS r.Symbol,dS r.Name,.ref 0 none]) [.deep .fz 7 (r.Args.map Expr.W) []]:=by
 refine OE Tryz.func249 fun S hS=>?_
 unfold z7H at hr
 refine J g<|J (BX' 0)<|J (NV' 1)<|J g<|J (NV' 2)<|bdE hr fun y1 hy1 hr=>J g<|J (CB' [(0,3)] [] (j9V ih_wtoExpr (m:=m) hy1))<|e
theorem j9X (n:Nat):∀ {m:Md} {a0:Expr} {r:Expr},z4p n a0=some r→Ok Tryz.prog 249 [Expr.x m a0] [] (.ag [dI r.Kind,dI r.N,dI r.Pos,dI r.Type_,dS r.Symbol,dS r.Name,.ref 0 none]) [.deep .fz 7 (r.Args.map Expr.W) []]:=by
  induction n with
  | zero=>intro _ _ r hr;exact nomatch (show (none:Option Expr)=some r from hr)
  | succ n ih=>intro _ _ r hr;exact j9W ih hr
theorem j1o {m:Md}{a0:Expr}{r:Expr}(hr:z7I a0=some r):Ok Tryz.prog 249 [Expr.x m a0] [] (.ag [dI r.Kind,dI r.N,dI r.Pos,dI r.Type_,dS r.Symbol,dS r.Name,.ref 0 none]) [.deep .fz 7 (r.Args.map Expr.W) []]:=by
 obtain⟨n,hn⟩:=q5Z hr
 exact j9X n hn
theorem j5m {m:Md}{a0:Eqn}{r:Eqn}(hr:z0b a0=some r):Ok Tryz.prog 210 [Eqn.x m a0] [] (.ag [dI r.At.Pos,dS r.At.Name,dI r.Expr.Kind,dI r.Expr.N,dI r.Expr.Pos,dI r.Expr.Type_,dS r.Expr.Symbol,dS r.Expr.Name,.ref 0 none]) [.deep .fz 7 (r.Expr.Args.map Expr.W) []]:=by
 refine OE Tryz.func210 fun S hS=>?_
 unfold z0b at hr
 refine J g<|J (BX' 0)<|J (NV' 1)<|J g<|J (NV' 2)<|bdE hr fun y1 hy1 hr=>J g<|J (CB' [] [] (j2A hy1))<|bdE hr fun y2 hy2 hr=>J g<|J (CB' [(0,3)] [] (j1o (m:=m) hy2))<|e
theorem j4g {m:Md}{a0:(List Eqn)}{r:(List Eqn)}(hr:z2I a0=some r):Ok Tryz.prog 157 [.d m (.sl 9 (a0.map Eqn.D))] [] (.ref 0 none) [.deep .fz 9 (r.map Eqn.W) []]:=by
 refine OE Tryz.func157 fun S hS=>?_
 unfold z2I at hr
 refine ggE hr fun g1 hr=>J g<|MKW 0 (f:=Eqn.W) (⟨(⟨(0:Int),(⟨#[]⟩:ByteArray)⟩:Oc),(⟨(0:Int),(0:Int),(0:Int),(0:Int),(⟨#[]⟩:ByteArray),(⟨#[]⟩:ByteArray),[]⟩:Expr)⟩:Eqn) g1.1 g1.2.1 g1.2.2 ?_
 refine J (gn 8)<|J (lenT 0)<|fun hl1=>bdE hr fun s1 hqq1 hr=>q0c hqq1 hl1 1 (fun k1 s1=>[(0,.d m (.sl 9 (a0.map Eqn.D))),(3,.ref 0 none),(4,dI (k1:Int))]) (fun k1 s1=>[(0,.deep .fz 9 (s1.map Eqn.W) [])]) I (fun k1 xk1 sk1 ok1 hxk1 hr hltk1=>?_) fun k1 hltk1=>?_
 obtain⟨s1,rfl⟩:∃ y,y=sk1:=⟨_,rfl⟩
 refine bdE hr fun y1 hy1 hr=>J g<|J (CB' [(0,1)] [] (j5m (m:=m) hy1))<|bdE hr fun x1 hx1 hr=>J (IEd' (Int.natCast_nonneg _) (q3E hx1))<|J (SD' [.d .fz (.i .i64 y1.At.Pos),.d .fz (.s y1.At.Name),.d .fz (.i .i64 y1.Expr.Kind),.d .fz (.i .i64 y1.Expr.N),.d .fz (.i .i64 y1.Expr.Pos),.d .fz (.i .i64 y1.Expr.Type_),.d .fz (.s y1.Expr.Symbol),.d .fz (.s y1.Expr.Name),.w 7 (y1.Expr.Args.map Expr.D)] [1] (q3E hx1))<|J (gn 6) ?_
 cases hr
 exact GH.trans (q0p 0 (he:=eset (f:=Eqn.W) (x':=y1) (by first|rfl|(simp only[List.set_set];rfl)))) (q0d hS 1)
 exact e
theorem j0G {m:Md}{a0:Cn}{r:Cn}(hr:q7o a0=some r):Ok Tryz.prog 211 [Cn.x m a0] [] (.ag [dS r.Symbol,dS r.Name,dI r.Target.Kind,dI r.Target.N,dI r.Target.Pos,dI r.Target.Type_,dS r.Target.Symbol,dS r.Target.Name,.ref 0 none,dI r.Value.Kind,dI r.Value.N,dI r.Value.Pos,dI r.Value.Type_,dS r.Value.Symbol,dS r.Value.Name,.ref 1 none]) [.deep .fz 7 (r.Target.Args.map Expr.W) [],.deep .fz 7 (r.Value.Args.map Expr.W) []]:=by
 refine OE Tryz.func211 fun S hS=>?_
 unfold q7o at hr
 refine J g<|J (BX' 0)<|J (NV' 1)<|J g<|J (NV' 2)<|bdE hr fun y1 hy1 hr=>J g<|J (CB' [(0,3)] [] (j1o (m:=m) hy1))<|bdE hr fun y2 hy2 hr=>J g<|J (CB' [(0,4)] [] (j1o (m:=m) hy2))<|e
theorem z9H {m:Md}{a0:(List Cn)}{r:(List Cn)}(hr:q9E a0=some r):Ok Tryz.prog 158 [.d m (.sl 16 (a0.map Cn.D))] [] (.ref 0 none) [.deep .fz 16 (r.map Cn.W) []]:=by
 refine OE Tryz.func158 fun S hS=>?_
 unfold q9E at hr
 refine ggE hr fun g1 hr=>J g<|MKW 0 (f:=Cn.W) (⟨(⟨#[]⟩:ByteArray),(⟨#[]⟩:ByteArray),(⟨(0:Int),(0:Int),(0:Int),(0:Int),(⟨#[]⟩:ByteArray),(⟨#[]⟩:ByteArray),[]⟩:Expr),(⟨(0:Int),(0:Int),(0:Int),(0:Int),(⟨#[]⟩:ByteArray),(⟨#[]⟩:ByteArray),[]⟩:Expr)⟩:Cn) g1.1 g1.2.1 g1.2.2 ?_
 refine J (gn 8)<|J (lenT 0)<|fun hl1=>bdE hr fun s1 hqq1 hr=>q0c hqq1 hl1 1 (fun k1 s1=>[(0,.d m (.sl 16 (a0.map Cn.D))),(3,.ref 0 none),(4,dI (k1:Int))]) (fun k1 s1=>[(0,.deep .fz 16 (s1.map Cn.W) [])]) I (fun k1 xk1 sk1 ok1 hxk1 hr hltk1=>?_) fun k1 hltk1=>?_
 obtain⟨s1,rfl⟩:∃ y,y=sk1:=⟨_,rfl⟩
 refine bdE hr fun y1 hy1 hr=>J g<|J (CB' [(0,1),(1,2)] [] (j0G (m:=m) hy1))<|bdE hr fun x1 hx1 hr=>J (IEd' (Int.natCast_nonneg _) (q3E hx1))<|J (SD' [.d .fz (.s y1.Symbol),.d .fz (.s y1.Name),.d .fz (.i .i64 y1.Target.Kind),.d .fz (.i .i64 y1.Target.N),.d .fz (.i .i64 y1.Target.Pos),.d .fz (.i .i64 y1.Target.Type_),.d .fz (.s y1.Target.Symbol),.d .fz (.s y1.Target.Name),.w 7 (y1.Target.Args.map Expr.D),.d .fz (.i .i64 y1.Value.Kind),.d .fz (.i .i64 y1.Value.N),.d .fz (.i .i64 y1.Value.Pos),.d .fz (.i .i64 y1.Value.Type_),.d .fz (.s y1.Value.Symbol),.d .fz (.s y1.Value.Name),.w 7 (y1.Value.Args.map Expr.D)] [1,2] (q3E hx1))<|J (gn 6) ?_
 cases hr
 exact GH.trans (q0p 0 (he:=eset (f:=Cn.W) (x':=y1) (by first|rfl|(simp only[List.set_set];rfl)))) (q0d hS 1)
 exact e
theorem k2B {m:Md}{a0:Rule}{r:Rule}(hr:z5U a0=some r):Ok Tryz.prog 97 [Rule.x m a0] [] (.ag [dS r.Name,dS r.Left,.ref 0 none,dB r.Literal,.ref 1 none,.ref 2 none]) [.row .fz 1 (r.Right.map A.D.s),.deep .fz 9 (r.Equations.map Eqn.W) [],.deep .fz 16 (r.Contributions.map Cn.W) []]:=by
 refine OE Tryz.func97 fun S hS=>?_
 unfold z5U at hr
 refine J g<|J (BX' 0)<|J (NV' 1)<|J g<|J (NV' 2)<|bdE hr fun y1 hy1 hr=>J g<|J (CB' [(0,3)] [] (j6V (m:=m) hy1))<|bdE hr fun y2 hy2 hr=>J g<|J (CB' [(0,4)] [] (j4g (m:=m) hy2))<|bdE hr fun y3 hy3 hr=>J g<|J (CB' [(0,5)] [] (z9H (m:=m) hy3))<|e
theorem j9Y {m:Md}{a0:(List Rule)}{r:(List Rule)}(hr:z8H a0=some r):Ok Tryz.prog 40 [.d m (.sl 6 (a0.map Rule.D))] [] (.ref 0 none) [.deep .fz 6 (r.map Rule.W) []]:=by
 refine OE Tryz.func40 fun S hS=>?_
 unfold z8H at hr
 refine ggE hr fun g1 hr=>J g<|MKW 0 (f:=Rule.W) (⟨(⟨#[]⟩:ByteArray),(⟨#[]⟩:ByteArray),[],false,[],[]⟩:Rule) g1.1 g1.2.1 g1.2.2 ?_
 refine J (gn 8)<|J (lenT 0)<|fun hl1=>bdE hr fun s1 hqq1 hr=>q0c hqq1 hl1 1 (fun k1 s1=>[(0,.d m (.sl 6 (a0.map Rule.D))),(3,.ref 0 none),(4,dI (k1:Int))]) (fun k1 s1=>[(0,.deep .fz 6 (s1.map Rule.W) [])]) I (fun k1 xk1 sk1 ok1 hxk1 hr hltk1=>?_) fun k1 hltk1=>?_
 obtain⟨s1,rfl⟩:∃ y,y=sk1:=⟨_,rfl⟩
 refine bdE hr fun y1 hy1 hr=>J g<|J (CB' [(0,1),(1,2),(2,3)] [] (k2B (m:=m) hy1))<|bdE hr fun x1 hx1 hr=>J (IEd' (Int.natCast_nonneg _) (q3E hx1))<|J (SD' [.d .fz (.s y1.Name),.d .fz (.s y1.Left),.w 1 (y1.Right.map A.D.s),.d .fz (.b y1.Literal),.w 9 (y1.Equations.map Eqn.D),.w 16 (y1.Contributions.map Cn.D)] [1,2,3] (q3E hx1))<|J (gn 6) ?_
 cases hr
 exact GH.trans (q0p 0 (he:=eset (f:=Rule.W) (x':=y1) (by first|rfl|(simp only[List.set_set];rfl)))) (q0d hS 1)
 exact e
theorem z3U {m:Md}{a0:Grammar}{r:Grammar}(hr:q8J a0=some r):Ok Tryz.prog 10 [Grammar.x m a0] [] (.ag [.ref 0 none,.ref 1 none]) [.deep .fz 2 (r.Symbols.map Symbol.W) [],.deep .fz 6 (r.Rules.map Rule.W) []]:=by
 refine OE Tryz.func10 fun S hS=>?_
 unfold q8J at hr
 refine J g<|J (BX' 0)<|J (NV' 1)<|J g<|J (NV' 2)<|bdE hr fun y1 hy1 hr=>J g<|J (CB' [(0,3)] [] (j6U (m:=m) hy1))<|bdE hr fun y2 hy2 hr=>J g<|J (CB' [(0,4)] [] (j9Y (m:=m) hy2))<|e
theorem j6W {m:Md}{a0:(List ByteArray)}{a1:(List ByteArray)}{r:Bool}(hr:z5r a0 a1=some r):Ok Tryz.prog 12 [.d m (.sl 1 (a0.map A.D.s)),.d m (.sl 1 (a1.map A.D.s))] [] (dB r) []:=by
 refine OE Tryz.func12 fun S hS=>?_
 unfold z5r at hr
 refine J (gn 13)<|ifE hr ?_ ?_<;>intro h1 hr
 refine J (gn 8)<|J (lenT 0)<|fun hl1=>bdE hr fun q1 hqq1 hr=>q0b hqq1 hl1 0 (fun k1 _=>[(0,.d m (.sl 1 (a0.map A.D.s))),(1,.d m (.sl 1 (a1.map A.D.s))),(5,dI (k1:Int))]) (fun k1 _=>[]) I (fun k1 xk1 sk1 ok1 hxk1 hr hltk1 hik1=>?_) fun k1 sk1 ek1 hltk1=>?_
 refine bdE hr fun x1 hx1 hr=>J (gn 24)<|ifE hr ?_ ?_<;>intro h2 hr
 exact e
 exact e
 subst ek1
 exact e
 exact e
theorem j4h {a0:At_}{a1:At_}{r:Bool}(hr:q9q a0 a1=some r):Ok Tryz.prog 212 [At_.x .fz a0,At_.x .fz a1] [] (dB r) []:=by
 refine OE Tryz.func212 fun S hS=>?_
 unfold q9q at hr
 refine J g<|J (BX' 0)<|J (BX' 1)<|J (gn 11)<|ifE hr ?_ ?_<;>intro h1 hr
 refine J (gn 11)<|ifE hr ?_ ?_<;>intro h2 hr
 refine J (gn 11)<|ifE hr ?_ ?_<;>intro h3 hr
 refine J g ?_
 refine J (BQn' rfl rfl)<|J (gn 1)<|ifE hr ?_ ?_<;>intro h4 hr
 exact e
 exact e
 exact e
 exact e
 exact e
theorem j2B {m:Md}{a0:(List At_)}{a1:(List At_)}{r:Bool}(hr:z1R a0 a1=some r):Ok Tryz.prog 159 [.d m (.sl 4 (a0.map At_.D)),.d m (.sl 4 (a1.map At_.D))] [] (dB r) []:=by
 refine OE Tryz.func159 fun S hS=>?_
 unfold z1R at hr
 refine J (gn 13)<|ifE hr ?_ ?_<;>intro h1 hr
 refine J (gn 8)<|J (lenT 0)<|fun hl1=>bdE hr fun q1 hqq1 hr=>q0b hqq1 hl1 0 (fun k1 _=>[(0,.d m (.sl 4 (a0.map At_.D))),(1,.d m (.sl 4 (a1.map At_.D))),(5,dI (k1:Int))]) (fun k1 _=>[]) I (fun k1 xk1 sk1 ok1 hxk1 hr hltk1 hik1=>?_) fun k1 sk1 ek1 hltk1=>?_
 refine bdE hr fun x1 hx1 hr=>bdE hr fun y1 hy1 hr=>J g<|J (CB' [] [] (j4h hy1))<|J (gn 2)<|ifE hr ?_ ?_<;>intro h2 hr
 exact e
 exact e
 subst ek1
 exact e
 exact e
theorem j8y {m:Md}{a0:Symbol}{a1:Symbol}{r:Bool}(hr:z2m a0 a1=some r):Ok Tryz.prog 100 [Symbol.x m a0,Symbol.x m a1] [] (dB r) []:=by
 refine OE Tryz.func100 fun S hS=>?_
 unfold z2m at hr
 refine J g<|J (BX' 0)<|J (BX' 1)<|J (gn 11)<|ifE hr ?_ ?_<;>intro h1 hr
 refine bdE hr fun y1 hy1 hr=>J g<|J (CB' [] [] (j2B (m:=m) hy1))<|J (gn 2)<|ifE hr ?_ ?_<;>intro h2 hr
 exact e
 exact e
 exact e
theorem j6X {m:Md}{a0:(List Symbol)}{a1:(List Symbol)}{r:Bool}(hr:z5s a0 a1=some r):Ok Tryz.prog 43 [.d m (.sl 2 (a0.map Symbol.D)),.d m (.sl 2 (a1.map Symbol.D))] [] (dB r) []:=by
 refine OE Tryz.func43 fun S hS=>?_
 unfold z5s at hr
 refine J (gn 13)<|ifE hr ?_ ?_<;>intro h1 hr
 refine J (gn 8)<|J (lenT 0)<|fun hl1=>bdE hr fun q1 hqq1 hr=>q0b hqq1 hl1 0 (fun k1 _=>[(0,.d m (.sl 2 (a0.map Symbol.D))),(1,.d m (.sl 2 (a1.map Symbol.D))),(5,dI (k1:Int))]) (fun k1 _=>[]) I (fun k1 xk1 sk1 ok1 hxk1 hr hltk1 hik1=>?_) fun k1 sk1 ek1 hltk1=>?_
 refine bdE hr fun x1 hx1 hr=>bdE hr fun y1 hy1 hr=>J g<|J (CB' [] [] (j8y (m:=m) hy1))<|J (gn 2)<|ifE hr ?_ ?_<;>intro h2 hr
 exact e
 exact e
 subst ek1
 exact e
 exact e
theorem j2C {a0:Oc}{a1:Oc}{r:Bool}(hr:q9W a0 a1=some r):Ok Tryz.prog 250 [Oc.x .fz a0,Oc.x .fz a1] [] (dB r) []:=by
 refine OE Tryz.func250 fun S hS=>?_
 unfold q9W at hr
 refine J g<|J (BX' 0)<|J (BX' 1)<|J (gn 11)<|ifE hr ?_ ?_<;>intro h1 hr
 refine J (gn 11)<|ifE hr ?_ ?_<;>intro h2 hr
 exact e
 exact e
 exact e
theorem j9Z {rec_weqExpr:Expr→Expr→Option Bool}(ih_weqExpr:∀ {m:Md} {a0:Expr} {a1:Expr} {r:Bool},rec_weqExpr a0 a1=some r→Ok Tryz.prog 251 [Expr.x m a0,Expr.x m a1] [] (dB r) []){m:Md}{a0:(List Expr)}{a1:(List Expr)}{r:Bool}(hr:z8M rec_weqExpr a0 a1=some r):Ok Tryz.prog 289 [.d m (.sl 7 (a0.map Expr.D)),.d m (.sl 7 (a1.map Expr.D))] [] (dB r) []:=by
 refine OE Tryz.func289 fun S hS=>?_
 unfold z8M at hr
 refine J (gn 13)<|ifE hr ?_ ?_<;>intro h1 hr
 refine J (gn 8)<|J (lenT 0)<|fun hl1=>bdE hr fun q1 hqq1 hr=>q0b hqq1 hl1 0 (fun k1 _=>[(0,.d m (.sl 7 (a0.map Expr.D))),(1,.d m (.sl 7 (a1.map Expr.D))),(5,dI (k1:Int))]) (fun k1 _=>[]) I (fun k1 xk1 sk1 ok1 hxk1 hr hltk1 hik1=>?_) fun k1 sk1 ek1 hltk1=>?_
 refine bdE hr fun x1 hx1 hr=>bdE hr fun y1 hy1 hr=>J g<|J (CB' [] [] (ih_weqExpr (m:=m) hy1))<|J (gn 2)<|ifE hr ?_ ?_<;>intro h2 hr
 exact e
 exact e
 subst ek1
 exact e
 exact e
theorem k0a {rec_weqExpr:Expr→Expr→Option Bool}(ih_weqExpr:∀ {m:Md} {a0:Expr} {a1:Expr} {r:Bool},rec_weqExpr a0 a1=some r→Ok Tryz.prog 251 [Expr.x m a0,Expr.x m a1] [] (dB r) []){m:Md}{a0:Expr}{a1:Expr}{r:Bool}(hr:z8c rec_weqExpr a0 a1=some r):Ok Tryz.prog 251 [Expr.x m a0,Expr.x m a1] [] (dB r) []:=by
 refine OE Tryz.func251 fun S hS=>?_
 unfold z8c at hr
 refine J g<|J (BX' 0)<|J (BX' 1)<|J (gn 11)<|ifE hr ?_ ?_<;>intro h1 hr
 refine J (gn 11)<|ifE hr ?_ ?_<;>intro h2 hr
 refine J (gn 11)<|ifE hr ?_ ?_<;>intro h3 hr
 refine J (gn 11)<|ifE hr ?_ ?_<;>intro h4 hr
 refine J (gn 11)<|ifE hr ?_ ?_<;>intro h5 hr
 refine J (gn 11)<|ifE hr ?_ ?_<;>intro h6 hr
 refine bdE hr fun y1 hy1 hr=>J g<|J (CB' [] [] (j9Z ih_weqExpr (m:=m) hy1))<|J (gn 2)<|ifE hr ?_ ?_<;>intro h7 hr
 exact e
 exact e
 exact e
 exact e
 exact e
 exact e
 exact e
 exact e
theorem k0b (n:Nat):∀ {m:Md} {a0:Expr} {a1:Expr} {r:Bool},z3i n a0 a1=some r→Ok Tryz.prog 251 [Expr.x m a0,Expr.x m a1] [] (dB r) []:=by
  induction n with
  | zero=>intro _ _ _ r hr;exact nomatch (show (none:Option Bool)=some r from hr)
  | succ n ih=>intro _ _ _ r hr;exact k0a ih hr
theorem j1p {m:Md}{a0:Expr}{a1:Expr}{r:Bool}(hr:z8d a0 a1=some r):Ok Tryz.prog 251 [Expr.x m a0,Expr.x m a1] [] (dB r) []:=by
 obtain⟨n,hn⟩:=q5Z hr
 exact k0b n hn
theorem j5n {m:Md}{a0:Eqn}{a1:Eqn}{r:Bool}(hr:z0h a0 a1=some r):Ok Tryz.prog 213 [Eqn.x m a0,Eqn.x m a1] [] (dB r) []:=by
 refine OE Tryz.func213 fun S hS=>?_
 unfold z0h at hr
 refine J g<|J (BX' 0)<|J (BX' 1)<|bdE hr fun y1 hy1 hr=>J g<|J (CB' [] [] (j2C hy1))<|J (gn 2)<|ifE hr ?_ ?_<;>intro h1 hr
 refine bdE hr fun y2 hy2 hr=>J g<|J (CB' [] [] (j1p (m:=m) hy2))<|J (gn 2)<|ifE hr ?_ ?_<;>intro h2 hr
 exact e
 exact e
 exact e
theorem j4i {m:Md}{a0:(List Eqn)}{a1:(List Eqn)}{r:Bool}(hr:z2U a0 a1=some r):Ok Tryz.prog 160 [.d m (.sl 9 (a0.map Eqn.D)),.d m (.sl 9 (a1.map Eqn.D))] [] (dB r) []:=by
 refine OE Tryz.func160 fun S hS=>?_
 unfold z2U at hr
 refine J (gn 13)<|ifE hr ?_ ?_<;>intro h1 hr
 refine J (gn 8)<|J (lenT 0)<|fun hl1=>bdE hr fun q1 hqq1 hr=>q0b hqq1 hl1 0 (fun k1 _=>[(0,.d m (.sl 9 (a0.map Eqn.D))),(1,.d m (.sl 9 (a1.map Eqn.D))),(5,dI (k1:Int))]) (fun k1 _=>[]) I (fun k1 xk1 sk1 ok1 hxk1 hr hltk1 hik1=>?_) fun k1 sk1 ek1 hltk1=>?_
 refine bdE hr fun x1 hx1 hr=>bdE hr fun y1 hy1 hr=>J g<|J (CB' [] [] (j5n (m:=m) hy1))<|J (gn 2)<|ifE hr ?_ ?_<;>intro h2 hr
 exact e
 exact e
 subst ek1
 exact e
 exact e
theorem j0H {m:Md}{a0:Cn}{a1:Cn}{r:Bool}(hr:q7s a0 a1=some r):Ok Tryz.prog 214 [Cn.x m a0,Cn.x m a1] [] (dB r) []:=by
 refine OE Tryz.func214 fun S hS=>?_
 unfold q7s at hr
 refine J g<|J (BX' 0)<|J (BX' 1)<|J (gn 11)<|ifE hr ?_ ?_<;>intro h1 hr
 refine J (gn 11)<|ifE hr ?_ ?_<;>intro h2 hr
 refine bdE hr fun y1 hy1 hr=>J g<|J (CB' [] [] (j1p (m:=m) hy1))<|J (gn 2)<|ifE hr ?_ ?_<;>intro h3 hr
 refine bdE hr fun y2 hy2 hr=>J g<|J (CB' [] [] (j1p (m:=m) hy2))<|J (gn 2)<|ifE hr ?_ ?_<;>intro h4 hr
 exact e
 exact e
 exact e
 exact e
 exact e
theorem z9I {m:Md}{a0:(List Cn)}{a1:(List Cn)}{r:Bool}(hr:q9H a0 a1=some r):Ok Tryz.prog 161 [.d m (.sl 16 (a0.map Cn.D)),.d m (.sl 16 (a1.map Cn.D))] [] (dB r) []:=by
 refine OE Tryz.func161 fun S hS=>?_
 unfold q9H at hr
 refine J (gn 13)<|ifE hr ?_ ?_<;>intro h1 hr
 refine J (gn 8)<|J (lenT 0)<|fun hl1=>bdE hr fun q1 hqq1 hr=>q0b hqq1 hl1 0 (fun k1 _=>[(0,.d m (.sl 16 (a0.map Cn.D))),(1,.d m (.sl 16 (a1.map Cn.D))),(5,dI (k1:Int))]) (fun k1 _=>[]) I (fun k1 xk1 sk1 ok1 hxk1 hr hltk1 hik1=>?_) fun k1 sk1 ek1 hltk1=>?_
 refine bdE hr fun x1 hx1 hr=>bdE hr fun y1 hy1 hr=>J g<|J (CB' [] [] (j0H (m:=m) hy1))<|J (gn 2)<|ifE hr ?_ ?_<;>intro h2 hr
 exact e
 exact e
 subst ek1
 exact e
 exact e
theorem k2C {m:Md}{a0:Rule}{a1:Rule}{r:Bool}(hr:z6h a0 a1=some r):Ok Tryz.prog 101 [Rule.x m a0,Rule.x m a1] [] (dB r) []:=by
 refine OE Tryz.func101 fun S hS=>?_
 unfold z6h at hr
 refine J g<|J (BX' 0)<|J (BX' 1)<|J (gn 11)<|ifE hr ?_ ?_<;>intro h1 hr
 refine J (gn 11)<|ifE hr ?_ ?_<;>intro h2 hr
 refine bdE hr fun y1 hy1 hr=>J g<|J (CB' [] [] (j6W (m:=m) hy1))<|J (gn 2)<|ifE hr ?_ ?_<;>intro h3 hr
 refine J g ?_
 refine J (BQn' rfl rfl)<|J (gn 1)<|ifE hr ?_ ?_<;>intro h4 hr
 refine bdE hr fun y2 hy2 hr=>J g<|J (CB' [] [] (j4i (m:=m) hy2))<|J (gn 2)<|ifE hr ?_ ?_<;>intro h5 hr
 refine bdE hr fun y3 hy3 hr=>J g<|J (CB' [] [] (z9I (m:=m) hy3))<|J (gn 2)<|ifE hr ?_ ?_<;>intro h6 hr
 exact e
 exact e
 exact e
 exact e
 exact e
 exact e
 exact e
theorem k0c {m:Md}{a0:(List Rule)}{a1:(List Rule)}{r:Bool}(hr:z8N a0 a1=some r):Ok Tryz.prog 44 [.d m (.sl 6 (a0.map Rule.D)),.d m (.sl 6 (a1.map Rule.D))] [] (dB r) []:=by
 refine OE Tryz.func44 fun S hS=>?_
 unfold z8N at hr
 refine J (gn 13)<|ifE hr ?_ ?_<;>intro h1 hr
 refine J (gn 8)<|J (lenT 0)<|fun hl1=>bdE hr fun q1 hqq1 hr=>q0b hqq1 hl1 0 (fun k1 _=>[(0,.d m (.sl 6 (a0.map Rule.D))),(1,.d m (.sl 6 (a1.map Rule.D))),(5,dI (k1:Int))]) (fun k1 _=>[]) I (fun k1 xk1 sk1 ok1 hxk1 hr hltk1 hik1=>?_) fun k1 sk1 ek1 hltk1=>?_
 refine bdE hr fun x1 hx1 hr=>bdE hr fun y1 hy1 hr=>J g<|J (CB' [] [] (k2C (m:=m) hy1))<|J (gn 2)<|ifE hr ?_ ?_<;>intro h2 hr
 exact e
 exact e
 subst ek1
 exact e
 exact e
theorem j6Y {m:Md}{a0:Grammar}{a1:Grammar}{r:Bool}(hr:z3j a0 a1=some r):Ok Tryz.prog 13 [Grammar.x m a0,Grammar.x m a1] [] (dB r) []:=by
 refine OE Tryz.func13 fun S hS=>?_
 unfold z3j at hr
 refine J g<|J (BX' 0)<|J (BX' 1)<|bdE hr fun y1 hy1 hr=>J g<|J (CB' [] [] (j6X (m:=m) hy1))<|J (gn 2)<|ifE hr ?_ ?_<;>intro h1 hr
 refine bdE hr fun y2 hy2 hr=>J g<|J (CB' [] [] (k0c (m:=m) hy2))<|J (gn 2)<|ifE hr ?_ ?_<;>intro h2 hr
 exact e
 exact e
 exact e
theorem q4I {a0:Int}{r:ByteArray}(hr:q4h a0=some r):Ok Tryz.prog 47 [dI a0] [] (dS r) []:=by
 refine OE Tryz.func47 fun S hS=>?_
 unfold q4h at hr
 refine J (gn 10)<|ifE hr ?_ ?_<;>intro h1 hr
 exact e
 refine bdE hr fun s1 hqq1 hr=>J (gn 7)<|q0e 0 [(3,dS s1)] [] ?_ ?_
 refine J g<|q0h hqq1 0 (fun (s2,s3)=>[(0,dI s2),(3,dS s3)]) (fun (s2,s3)=>[]) I fun sk1 ok1 hr hik1=>?_
 obtain⟨s2,s3⟩:=sk1
 have hr:=hr
 refine J (gn 6)<|ifE hr ?_ ?_<;>intro h2 hr
 refine J g<|J (OB' _ (bRem (b:=10) (by decide)))<|ggE hr fun g1 hr=>J g ?_
 refine J (CIB' rfl)<|J (LIR' 0 (m:=.fz) (f:=byD) (xs:=([(UInt8.ofNat ((48+(s2.tmod 10)) % 256).toNat)]:List UInt8))) ?_
 refine J (TS' rfl rfl)<|ggE hr fun g2 hr=>J g<|J (OB' _ (x0a g2))<|ggE hr fun g3 hr=>J g<|J (OB' _ (bQuo (b:=10) (by decide) g3))<|J g<|E
 refine J (gn 2) ?_
 cases hr
 cases hik1 _ rfl
 exact q0d hS 0
 refine ggE hr fun g4 hr=>J g<|J (OB' _ (x0a g4))<|e
theorem j0I {a0:(List At_)}{a1:Int}{r:(Int×(List At_))}(hr:z0i a0 a1=some r):Ok Tryz.prog 102 [.ref 0 none,dI a1] [.row .fz 4 (a0.map At_.D)] (dI r.1) [.row .fz 4 (r.2.map At_.D)]:=by
 refine OE Tryz.func102 fun S hS=>?_
 unfold z0i at hr
 refine bdP hr fun s1 s2 hqq1 hr=>J (gn 9)<|q0e 1 [(1,dI s1)] [(0,.row .fz 4 (s2.map At_.D))] ?_ ?_
 refine J g<|q0h hqq1 1 (fun (s3,s4,s5)=>[(0,.ref 0 none),(1,dI s3),(5,dI s4)]) (fun (s3,s4,s5)=>[(0,.row .fz 4 (s5.map At_.D))]) I fun sk1 ok1 hr hik1=>?_
 obtain⟨s3,s4,s5⟩:=sk1
 have hr:=hr
 refine J (gn 8)<|ifE hr ?_ ?_<;>intro h1 hr
 refine bdE hr fun y1 hy1 hr=>J g<|J (CB' [] [] (q4I hy1))<|ggE hr fun g1 hr=>bdE hr fun x1 hx1 hr=>J g<|J (SE' (⟨y1,x1.Type_,x1.Mode,x1.Circular⟩:At_) hx1)<|ggE hr fun g2 hr=>ggE hr fun g3 hr=>bdE hr fun x2 hx2 hr=>J g<|J (SE' (⟨x2.Name,(s3+1),x2.Mode,x2.Circular⟩:At_) hx2)<|ggE hr fun g4 hr=>ggE hr fun g5 hr=>bdE hr fun x3 hx3 hr=>J g<|J (SE' (⟨x3.Name,x3.Type_,((s3+1)+1),x3.Circular⟩:At_) hx3)<|ggE hr fun g6 hr=>J g<|J (OB' _ (bRem (b:=3) (by decide)))<|ggE hr fun g7 hr=>bdE hr fun x4 hx4 hr=>J g<|J (SE' (⟨x4.Name,x4.Type_,x4.Mode,decide (((((s3+1)+1)+1).tmod 3)=0)⟩:At_) hx4)<|ggE hr fun g8 hr=>ggE hr fun g9 hr=>?_
 exact e
 refine J (gn 2) ?_
 cases hr
 cases hik1 _ rfl
 exact q0d hS 1
 exact e
theorem j4j {a0:(List Symbol)}{a1:Int}{r:(Int×(List Symbol))}(hr:z2V a0 a1=some r):Ok Tryz.prog 45 [.ref 0 none,dI a1] [.deep .fz 2 (a0.map Symbol.W) []] (dI r.1) [.deep .fz 2 (r.2.map Symbol.W) []]:=by
 refine OE Tryz.func45 fun S hS=>?_
 unfold z2V at hr
 refine bdP hr fun s1 s2 hqq1 hr=>J (gn 9)<|q0e 1 [(1,dI s1)] [(0,.deep .fz 2 (s2.map Symbol.W) [])] ?_ ?_
 refine J g<|q0h hqq1 1 (fun (s3,s4,s5)=>[(0,.ref 0 none),(1,dI s3),(5,dI s4)]) (fun (s3,s4,s5)=>[(0,.deep .fz 2 (s5.map Symbol.W) [])]) I fun sk1 ok1 hr hik1=>?_
 obtain⟨s3,s4,s5⟩:=sk1
 have hr:=hr
 refine J g<|J (LEd' s5.length)<|J (gn 2)<|ifE hr ?_ ?_<;>intro h1 hr
 refine bdE hr fun y1 hy1 hr=>J g<|J (CB' [] [] (q4I hy1))<|ggE hr fun g1 hr=>bdE hr fun x1 hx1 hr=>J (IEd' g1 (q3E hx1))<|J g<|J (SD' [.d .fz (.s y1)] [] (q3E hx1))<|ggE hr fun g2 hr=>J g<|J (IEd' g1 (q3D (q3E hx1)))<|J (gn 1)<|J (q0s 0 s4.toNat 1 1 (q3D (q3E hx1)))<|J (LPd' [(1,1)] (q3D (q3D (q3E hx1))))<|bdP hr fun y2 z1 hq2 hr=>J g<|J (CB' [(0,1)] [] (j0I hq2))<|ggE hr fun g3 hr=>J (gn 7) ?_
 cases hr
 exact⟨_,rfl,GH.trans (q0n 0 s4.toNat 1 1 (q3D (q3D (q3E hx1))) (hx:=.flatM (fun _=>rfl))) (GH.trans (q0p 0 (he:=eset (f:=Symbol.W) (x':=(⟨y1,z1⟩:Symbol)) (by first|rfl|(simp only[List.set_set];rfl)))) (q0d hS 1))⟩
 refine J (gn 2) ?_
 cases hr
 cases hik1 _ rfl
 exact q0d hS 1
 exact e
theorem j4k {a0:(List ByteArray)}{a1:Int}{r:(Int×(List ByteArray))}(hr:z0K a0 a1=some r):Ok Tryz.prog 15 [.ref 0 none,dI a1] [.row .fz 1 (a0.map A.D.s)] (dI r.1) [.row .fz 1 (r.2.map A.D.s)]:=by
 refine OE Tryz.func15 fun S hS=>?_
 unfold z0K at hr
 refine bdP hr fun s1 s2 hqq1 hr=>J (gn 9)<|q0e 1 [(1,dI s1)] [(0,.row .fz 1 (s2.map A.D.s))] ?_ ?_
 refine J g<|q0h hqq1 1 (fun (s3,s4,s5)=>[(0,.ref 0 none),(1,dI s3),(5,dI s4)]) (fun (s3,s4,s5)=>[(0,.row .fz 1 (s5.map A.D.s))]) I fun sk1 ok1 hr hik1=>?_
 obtain⟨s3,s4,s5⟩:=sk1
 have hr:=hr
 refine J (gn 8)<|ifE hr ?_ ?_<;>intro h1 hr
 refine bdE hr fun y1 hy1 hr=>J g<|J (CB' [] [] (q4I hy1))<|ggE hr fun g1 hr=>bdE hr fun x1 hx1 hr=>J g<|J (SE' y1 hx1)<|ggE hr fun g2 hr=>ggE hr fun g3 hr=>e
 refine J (gn 2) ?_
 cases hr
 cases hik1 _ rfl
 exact q0d hS 1
 exact e
theorem j5o {rec_wmarkExprS:(List Expr)→Int→Option (Int×(List Expr))}(ih_wmarkExprS:∀ {a0:(List Expr)} {a1:Int} {r:(Int×(List Expr))},rec_wmarkExprS a0 a1=some r→Ok Tryz.prog 162 [.ref 0 none,dI a1] [.deep .fz 7 (a0.map Expr.W) []] (dI r.1) [.deep .fz 7 (r.2.map Expr.W) []]){a0:(List Expr)}{a1:Int}{r:(Int×(List Expr))}(hr:z3k rec_wmarkExprS a0 a1=some r):Ok Tryz.prog 162 [.ref 0 none,dI a1] [.deep .fz 7 (a0.map Expr.W) []] (dI r.1) [.deep .fz 7 (r.2.map Expr.W) []]:=by
 refine OE Tryz.func162 fun S hS=>?_
 unfold z3k at hr
 refine bdP hr fun s1 s2 hqq1 hr=>J (gn 9)<|q0e 1 [(1,dI s1)] [(0,.deep .fz 7 (s2.map Expr.W) [])] ?_ ?_
 refine J g<|q0h hqq1 1 (fun (s3,s4,s5)=>[(0,.ref 0 none),(1,dI s3),(5,dI s4)]) (fun (s3,s4,s5)=>[(0,.deep .fz 7 (s5.map Expr.W) [])]) I fun sk1 ok1 hr hik1=>?_
 obtain⟨s3,s4,s5⟩:=sk1
 have hr:=hr
 refine J g<|J (LEd' s5.length)<|J (gn 2)<|ifE hr ?_ ?_<;>intro h1 hr
 refine ggE hr fun g1 hr=>bdE hr fun x1 hx1 hr=>J g<|J (IEd' g1 (q3E hx1))<|J g<|J (SD' [.d .fz (.i .i64 s3)] [] (q3E hx1))<|ggE hr fun g2 hr=>J g<|J (IEd' g1 (q3D (q3E hx1)))<|J g<|J (SD' [.d .fz (.i .i64 (s3+1))] [] (q3D (q3E hx1)))<|ggE hr fun g3 hr=>J g<|J (IEd' g1 (q3D (q3D (q3E hx1))))<|J g<|J (SD' [.d .fz (.i .i64 ((s3+1)+1))] [] (q3D (q3D (q3E hx1))))<|ggE hr fun g4 hr=>J g<|J (IEd' g1 (q3D (q3D (q3D (q3E hx1)))))<|J g<|J (SD' [.d .fz (.i .i64 (((s3+1)+1)+1))] [] (q3D (q3D (q3D (q3E hx1)))))<|ggE hr fun g5 hr=>bdE hr fun y1 hy1 hr=>J g<|J (CB' [] [] (q4I hy1))<|J (IEd' g1 (q3D (q3D (q3D (q3D (q3E hx1)))))) ?_
 refine J g<|J (SD' [.d .fz (.s y1)] [] (q3D (q3D (q3D (q3D (q3E hx1))))))<|ggE hr fun g6 hr=>bdE hr fun y2 hy2 hr=>J g<|J (CB' [] [] (q4I hy2))<|J (IEd' g1 (q3D (q3D (q3D (q3D (q3D (q3E hx1)))))))<|J g<|J (SD' [.d .fz (.s y2)] [] (q3D (q3D (q3D (q3D (q3D (q3E hx1)))))))<|ggE hr fun g7 hr=>J g<|J (IEd' g1 (q3D (q3D (q3D (q3D (q3D (q3D (q3E hx1))))))))<|J (gn 1)<|J (q0s 0 s4.toNat 6 1 (q3D (q3D (q3D (q3D (q3D (q3D (q3E hx1))))))))<|J (LPd' [(6,1)] (q3D (q3D (q3D (q3D (q3D (q3D (q3D (q3E hx1)))))))))<|bdP hr fun y3 z1 hq2 hr=>J g<|J (CB' [(0,1)] [] (ih_wmarkExprS hq2))<|ggE hr fun g8 hr=>J (gn 7) ?_
 cases hr
 exact⟨_,rfl,GH.trans (q0n 0 s4.toNat 6 1 (q3D (q3D (q3D (q3D (q3D (q3D (q3D (q3E hx1)))))))) (hx:=.ownM (f:=Expr.D))) (GH.trans (q0p 0 (he:=eset (f:=Expr.W) (x':=(⟨s3,(s3+1),((s3+1)+1),(((s3+1)+1)+1),y1,y2,z1⟩:Expr)) (by first|rfl|(simp only[List.set_set];rfl)))) (q0d hS 1))⟩
 refine J (gn 2) ?_
 cases hr
 cases hik1 _ rfl
 exact q0d hS 1
 exact e
theorem j5p (n:Nat):∀ {a0:(List Expr)} {a1:Int} {r:(Int×(List Expr))},z3l n a0 a1=some r→Ok Tryz.prog 162 [.ref 0 none,dI a1] [.deep .fz 7 (a0.map Expr.W) []] (dI r.1) [.deep .fz 7 (r.2.map Expr.W) []]:=by
  induction n with
  | zero=>intro _ _ r hr;exact nomatch (show (none:Option (Int×(List Expr)))=some r from hr)
  | succ n ih=>intro _ _ r hr;exact j5o ih hr
theorem z6Y {a0:(List Expr)}{a1:Int}{r:(Int×(List Expr))}(hr:z3m a0 a1=some r):Ok Tryz.prog 162 [.ref 0 none,dI a1] [.deep .fz 7 (a0.map Expr.W) []] (dI r.1) [.deep .fz 7 (r.2.map Expr.W) []]:=by
 obtain⟨n,hn⟩:=q5Z hr
 exact j5p n hn
theorem j1q {a0:(List Eqn)}{a1:Int}{r:(Int×(List Eqn))}(hr:z0O a0 a1=some r):Ok Tryz.prog 103 [.ref 0 none,dI a1] [.deep .fz 9 (a0.map Eqn.W) []] (dI r.1) [.deep .fz 9 (r.2.map Eqn.W) []]:=by
 refine OE Tryz.func103 fun S hS=>?_
 unfold z0O at hr
 refine bdP hr fun s1 s2 hqq1 hr=>J (gn 9)<|q0e 1 [(1,dI s1)] [(0,.deep .fz 9 (s2.map Eqn.W) [])] ?_ ?_
 refine J g<|q0h hqq1 1 (fun (s3,s4,s5)=>[(0,.ref 0 none),(1,dI s3),(5,dI s4)]) (fun (s3,s4,s5)=>[(0,.deep .fz 9 (s5.map Eqn.W) [])]) I fun sk1 ok1 hr hik1=>?_
 obtain⟨s3,s4,s5⟩:=sk1
 have hr:=hr
 refine J g<|J (LEd' s5.length)<|J (gn 2)<|ifE hr ?_ ?_<;>intro h1 hr
 refine ggE hr fun g1 hr=>bdE hr fun x1 hx1 hr=>J g<|J (IEd' g1 (q3E hx1))<|J g<|J (SD' [.d .fz (.i .i64 s3)] [] (q3E hx1))<|ggE hr fun g2 hr=>bdE hr fun y1 hy1 hr=>J g<|J (CB' [] [] (q4I hy1))<|J (IEd' g1 (q3D (q3E hx1)))<|J g<|J (SD' [.d .fz (.s y1)] [] (q3D (q3E hx1)))<|ggE hr fun g3 hr=>J g<|J (IEd' g1 (q3D (q3D (q3E hx1))))<|J g<|J (SD' [.d .fz (.i .i64 ((s3+1)+1))] [] (q3D (q3D (q3E hx1)))) ?_
 refine q0u 0 rfl (he:=enr3 (c:=[Cell.d Md.fz (.i .i64 s3),Cell.d Md.fz (.s y1),Cell.d Md.fz (.i .i64 ((s3+1)+1)),Cell.d Md.fz (.i .i64 x1.Expr.N),Cell.d Md.fz (.i .i64 x1.Expr.Pos),Cell.d Md.fz (.i .i64 x1.Expr.Type_),Cell.d Md.fz (.s x1.Expr.Symbol),Cell.d Md.fz (.s x1.Expr.Name),.w 7 (x1.Expr.Args.map Expr.D)]) rfl) ?_
 refine ggE hr fun g4 hr=>J g<|J (IEd' g1 (q3D (q3E hx1)))<|J g<|J (SD' [.d .fz (.i .i64 (((s3+1)+1)+1))] [] (q3D (q3E hx1)))<|ggE hr fun g5 hr=>J g<|J (IEd' g1 (q3D (q3D (q3E hx1))))<|J g<|J (SD' [.d .fz (.i .i64 ((((s3+1)+1)+1)+1))] [] (q3D (q3D (q3E hx1)))) ?_
 refine q0u 0 rfl (he:=enr3 (c:=[Cell.d Md.fz (.i .i64 s3),Cell.d Md.fz (.s y1),Cell.d Md.fz (.i .i64 ((s3+1)+1)),Cell.d Md.fz (.i .i64 (((s3+1)+1)+1)),Cell.d Md.fz (.i .i64 ((((s3+1)+1)+1)+1)),Cell.d Md.fz (.i .i64 x1.Expr.Type_),Cell.d Md.fz (.s x1.Expr.Symbol),Cell.d Md.fz (.s x1.Expr.Name),.w 7 (x1.Expr.Args.map Expr.D)]) rfl) ?_
 refine ggE hr fun g6 hr=>J g<|J (IEd' g1 (q3D (q3E hx1)))<|J g<|J (SD' [.d .fz (.i .i64 (((((s3+1)+1)+1)+1)+1))] [] (q3D (q3E hx1)))<|ggE hr fun g7 hr=>bdE hr fun y2 hy2 hr=>J g<|J (CB' [] [] (q4I hy2))<|J (IEd' g1 (q3D (q3D (q3E hx1))))<|J g<|J (SD' [.d .fz (.s y2)] [] (q3D (q3D (q3E hx1)))) ?_
 refine q0u 0 rfl (he:=enr3 (c:=[Cell.d Md.fz (.i .i64 s3),Cell.d Md.fz (.s y1),Cell.d Md.fz (.i .i64 ((s3+1)+1)),Cell.d Md.fz (.i .i64 (((s3+1)+1)+1)),Cell.d Md.fz (.i .i64 ((((s3+1)+1)+1)+1)),Cell.d Md.fz (.i .i64 (((((s3+1)+1)+1)+1)+1)),Cell.d Md.fz (.s y2),Cell.d Md.fz (.s x1.Expr.Name),.w 7 (x1.Expr.Args.map Expr.D)]) rfl) ?_
 refine ggE hr fun g8 hr=>bdE hr fun y3 hy3 hr=>J g<|J (CB' [] [] (q4I hy3))<|J (IEd' g1 (q3D (q3E hx1)))<|J g<|J (SD' [.d .fz (.s y3)] [] (q3D (q3E hx1)))<|ggE hr fun g9 hr=>J g<|J (IEd' g1 (q3D (q3D (q3E hx1))))<|J (gn 2)<|J (q0s 0 s4.toNat 8 1 (q3D (q3D (q3E hx1)))) ?_
 refine q0u 0 rfl (he:=enr3 (c:=[Cell.d Md.fz (.i .i64 s3),Cell.d Md.fz (.s y1),Cell.d Md.fz (.i .i64 ((s3+1)+1)),Cell.d Md.fz (.i .i64 (((s3+1)+1)+1)),Cell.d Md.fz (.i .i64 ((((s3+1)+1)+1)+1)),Cell.d Md.fz (.i .i64 (((((s3+1)+1)+1)+1)+1)),Cell.d Md.fz (.s y2),Cell.d Md.fz (.s y3),.u]) rfl) ?_
 refine J (LPd' [(8,1)] (q3D (q3E hx1)))<|bdP hr fun y4 z1 hq2 hr=>J g<|J (CB' [(0,1)] [] (z6Y hq2))<|ggE hr fun g10 hr=>J (gn 7) ?_
 cases hr
 exact⟨_,rfl,GH.trans (q0n 0 s4.toNat 8 1 (q3D (q3E hx1)) (hx:=.ownM (f:=Expr.D))) (GH.trans (q0p 0 (he:=eset (f:=Eqn.W) (x':=(⟨(⟨s3,y1⟩:Oc),(⟨((s3+1)+1),(((s3+1)+1)+1),((((s3+1)+1)+1)+1),(((((s3+1)+1)+1)+1)+1),y2,y3,z1⟩:Expr)⟩:Eqn)) (by first|rfl|(simp only[List.set_set];rfl)))) (q0d hS 1))⟩
 refine J (gn 2) ?_
 cases hr
 cases hik1 _ rfl
 exact q0d hS 1
 exact e
theorem z8q {a0:(List Cn)}{a1:Int}{r:(Int×(List Cn))}(hr:q8o a0 a1=some r):Ok Tryz.prog 104 [.ref 0 none,dI a1] [.deep .fz 16 (a0.map Cn.W) []] (dI r.1) [.deep .fz 16 (r.2.map Cn.W) []]:=by
 refine OE Tryz.func104 fun S hS=>?_
 unfold q8o at hr
 refine bdP hr fun s1 s2 hqq1 hr=>J (gn 9)<|q0e 1 [(1,dI s1)] [(0,.deep .fz 16 (s2.map Cn.W) [])] ?_ ?_
 refine J g<|q0h hqq1 1 (fun (s3,s4,s5)=>[(0,.ref 0 none),(1,dI s3),(5,dI s4)]) (fun (s3,s4,s5)=>[(0,.deep .fz 16 (s5.map Cn.W) [])]) I fun sk1 ok1 hr hik1=>?_
 obtain⟨s3,s4,s5⟩:=sk1
 have hr:=hr
 refine J g<|J (LEd' s5.length)<|J (gn 2)<|ifE hr ?_ ?_<;>intro h1 hr
 refine bdE hr fun y1 hy1 hr=>J g<|J (CB' [] [] (q4I hy1))<|ggE hr fun g1 hr=>bdE hr fun x1 hx1 hr=>J (IEd' g1 (q3E hx1))<|J g<|J (SD' [.d .fz (.s y1)] [] (q3E hx1))<|ggE hr fun g2 hr=>bdE hr fun y2 hy2 hr=>J g<|J (CB' [] [] (q4I hy2))<|J (IEd' g1 (q3D (q3E hx1)))<|J g<|J (SD' [.d .fz (.s y2)] [] (q3D (q3E hx1)))<|ggE hr fun g3 hr=>J g<|J (IEd' g1 (q3D (q3D (q3E hx1))))<|J g<|J (SD' [.d .fz (.i .i64 ((s3+1)+1))] [] (q3D (q3D (q3E hx1)))) ?_
 refine q0u 0 rfl (he:=enr3 (c:=[Cell.d Md.fz (.s y1),Cell.d Md.fz (.s y2),Cell.d Md.fz (.i .i64 ((s3+1)+1)),Cell.d Md.fz (.i .i64 x1.Target.N),Cell.d Md.fz (.i .i64 x1.Target.Pos),Cell.d Md.fz (.i .i64 x1.Target.Type_),Cell.d Md.fz (.s x1.Target.Symbol),Cell.d Md.fz (.s x1.Target.Name),.w 7 (x1.Target.Args.map Expr.D),Cell.d Md.fz (.i .i64 x1.Value.Kind),Cell.d Md.fz (.i .i64 x1.Value.N),Cell.d Md.fz (.i .i64 x1.Value.Pos),Cell.d Md.fz (.i .i64 x1.Value.Type_),Cell.d Md.fz (.s x1.Value.Symbol),Cell.d Md.fz (.s x1.Value.Name),.w 7 (x1.Value.Args.map Expr.D)]) rfl) ?_
 refine ggE hr fun g4 hr=>J g<|J (IEd' g1 (q3D (q3E hx1)))<|J g<|J (SD' [.d .fz (.i .i64 (((s3+1)+1)+1))] [] (q3D (q3E hx1)))<|ggE hr fun g5 hr=>J g<|J (IEd' g1 (q3D (q3D (q3E hx1))))<|J g<|J (SD' [.d .fz (.i .i64 ((((s3+1)+1)+1)+1))] [] (q3D (q3D (q3E hx1)))) ?_
 refine q0u 0 rfl (he:=enr3 (c:=[Cell.d Md.fz (.s y1),Cell.d Md.fz (.s y2),Cell.d Md.fz (.i .i64 ((s3+1)+1)),Cell.d Md.fz (.i .i64 (((s3+1)+1)+1)),Cell.d Md.fz (.i .i64 ((((s3+1)+1)+1)+1)),Cell.d Md.fz (.i .i64 x1.Target.Type_),Cell.d Md.fz (.s x1.Target.Symbol),Cell.d Md.fz (.s x1.Target.Name),.w 7 (x1.Target.Args.map Expr.D),Cell.d Md.fz (.i .i64 x1.Value.Kind),Cell.d Md.fz (.i .i64 x1.Value.N),Cell.d Md.fz (.i .i64 x1.Value.Pos),Cell.d Md.fz (.i .i64 x1.Value.Type_),Cell.d Md.fz (.s x1.Value.Symbol),Cell.d Md.fz (.s x1.Value.Name),.w 7 (x1.Value.Args.map Expr.D)]) rfl) ?_
 refine ggE hr fun g6 hr=>J g<|J (IEd' g1 (q3D (q3E hx1)))<|J g<|J (SD' [.d .fz (.i .i64 (((((s3+1)+1)+1)+1)+1))] [] (q3D (q3E hx1)))<|ggE hr fun g7 hr=>bdE hr fun y3 hy3 hr=>J g<|J (CB' [] [] (q4I hy3))<|J (IEd' g1 (q3D (q3D (q3E hx1))))<|J g<|J (SD' [.d .fz (.s y3)] [] (q3D (q3D (q3E hx1)))) ?_
 refine q0u 0 rfl (he:=enr3 (c:=[Cell.d Md.fz (.s y1),Cell.d Md.fz (.s y2),Cell.d Md.fz (.i .i64 ((s3+1)+1)),Cell.d Md.fz (.i .i64 (((s3+1)+1)+1)),Cell.d Md.fz (.i .i64 ((((s3+1)+1)+1)+1)),Cell.d Md.fz (.i .i64 (((((s3+1)+1)+1)+1)+1)),Cell.d Md.fz (.s y3),Cell.d Md.fz (.s x1.Target.Name),.w 7 (x1.Target.Args.map Expr.D),Cell.d Md.fz (.i .i64 x1.Value.Kind),Cell.d Md.fz (.i .i64 x1.Value.N),Cell.d Md.fz (.i .i64 x1.Value.Pos),Cell.d Md.fz (.i .i64 x1.Value.Type_),Cell.d Md.fz (.s x1.Value.Symbol),Cell.d Md.fz (.s x1.Value.Name),.w 7 (x1.Value.Args.map Expr.D)]) rfl) ?_
 refine ggE hr fun g8 hr=>bdE hr fun y4 hy4 hr=>J g<|J (CB' [] [] (q4I hy4))<|J (IEd' g1 (q3D (q3E hx1)))<|J g<|J (SD' [.d .fz (.s y4)] [] (q3D (q3E hx1)))<|ggE hr fun g9 hr=>J g<|J (IEd' g1 (q3D (q3D (q3E hx1))))<|J (gn 2)<|J (q0s 0 s4.toNat 8 1 (q3D (q3D (q3E hx1)))) ?_
 refine q0u 0 rfl (he:=enr3 (c:=[Cell.d Md.fz (.s y1),Cell.d Md.fz (.s y2),Cell.d Md.fz (.i .i64 ((s3+1)+1)),Cell.d Md.fz (.i .i64 (((s3+1)+1)+1)),Cell.d Md.fz (.i .i64 ((((s3+1)+1)+1)+1)),Cell.d Md.fz (.i .i64 (((((s3+1)+1)+1)+1)+1)),Cell.d Md.fz (.s y3),Cell.d Md.fz (.s y4),.u,Cell.d Md.fz (.i .i64 x1.Value.Kind),Cell.d Md.fz (.i .i64 x1.Value.N),Cell.d Md.fz (.i .i64 x1.Value.Pos),Cell.d Md.fz (.i .i64 x1.Value.Type_),Cell.d Md.fz (.s x1.Value.Symbol),Cell.d Md.fz (.s x1.Value.Name),.w 7 (x1.Value.Args.map Expr.D)]) rfl) ?_
 refine J (LPd' [(8,1)] (q3D (q3E hx1)))<|bdP hr fun y5 z1 hq2 hr=>J g<|J (CB' [(0,1)] [] (z6Y hq2))<|J g<|J (IEd' g1 (q3D (q3E hx1)))<|J g<|J (SD' [.d .fz (.i .i64 y5)] [] (q3D (q3E hx1)))<|ggE hr fun g10 hr=>J g<|J (IEd' g1 (q3D (q3D (q3E hx1))))<|J g<|J (SD' [.d .fz (.i .i64 (y5+1))] [] (q3D (q3D (q3E hx1)))) ?_
 refine q0u 0 rfl (he:=enr3 (c:=[Cell.d Md.fz (.s y1),Cell.d Md.fz (.s y2),Cell.d Md.fz (.i .i64 ((s3+1)+1)),Cell.d Md.fz (.i .i64 (((s3+1)+1)+1)),Cell.d Md.fz (.i .i64 ((((s3+1)+1)+1)+1)),Cell.d Md.fz (.i .i64 (((((s3+1)+1)+1)+1)+1)),Cell.d Md.fz (.s y3),Cell.d Md.fz (.s y4),.u,Cell.d Md.fz (.i .i64 y5),Cell.d Md.fz (.i .i64 (y5+1)),Cell.d Md.fz (.i .i64 x1.Value.Pos),Cell.d Md.fz (.i .i64 x1.Value.Type_),Cell.d Md.fz (.s x1.Value.Symbol),Cell.d Md.fz (.s x1.Value.Name),.w 7 (x1.Value.Args.map Expr.D)]) rfl) ?_
 refine ggE hr fun g11 hr=>J g<|J (IEd' g1 (q3D (q3E hx1)))<|J g<|J (SD' [.d .fz (.i .i64 ((y5+1)+1))] [] (q3D (q3E hx1)))<|ggE hr fun g12 hr=>J g<|J (IEd' g1 (q3D (q3D (q3E hx1))))<|J g<|J (SD' [.d .fz (.i .i64 (((y5+1)+1)+1))] [] (q3D (q3D (q3E hx1)))) ?_
 refine q0u 0 rfl (he:=enr3 (c:=[Cell.d Md.fz (.s y1),Cell.d Md.fz (.s y2),Cell.d Md.fz (.i .i64 ((s3+1)+1)),Cell.d Md.fz (.i .i64 (((s3+1)+1)+1)),Cell.d Md.fz (.i .i64 ((((s3+1)+1)+1)+1)),Cell.d Md.fz (.i .i64 (((((s3+1)+1)+1)+1)+1)),Cell.d Md.fz (.s y3),Cell.d Md.fz (.s y4),.u,Cell.d Md.fz (.i .i64 y5),Cell.d Md.fz (.i .i64 (y5+1)),Cell.d Md.fz (.i .i64 ((y5+1)+1)),Cell.d Md.fz (.i .i64 (((y5+1)+1)+1)),Cell.d Md.fz (.s x1.Value.Symbol),Cell.d Md.fz (.s x1.Value.Name),.w 7 (x1.Value.Args.map Expr.D)]) rfl) ?_
 refine ggE hr fun g13 hr=>bdE hr fun y6 hy6 hr=>J g<|J (CB' [] [] (q4I hy6))<|J (IEd' g1 (q3D (q3E hx1)))<|J g<|J (SD' [.d .fz (.s y6)] [] (q3D (q3E hx1)))<|ggE hr fun g14 hr=>bdE hr fun y7 hy7 hr=>J g<|J (CB' [] [] (q4I hy7))<|J (IEd' g1 (q3D (q3D (q3E hx1))))<|J g<|J (SD' [.d .fz (.s y7)] [] (q3D (q3D (q3E hx1)))) ?_
 refine q0u 0 rfl (he:=enr3 (c:=[Cell.d Md.fz (.s y1),Cell.d Md.fz (.s y2),Cell.d Md.fz (.i .i64 ((s3+1)+1)),Cell.d Md.fz (.i .i64 (((s3+1)+1)+1)),Cell.d Md.fz (.i .i64 ((((s3+1)+1)+1)+1)),Cell.d Md.fz (.i .i64 (((((s3+1)+1)+1)+1)+1)),Cell.d Md.fz (.s y3),Cell.d Md.fz (.s y4),.u,Cell.d Md.fz (.i .i64 y5),Cell.d Md.fz (.i .i64 (y5+1)),Cell.d Md.fz (.i .i64 ((y5+1)+1)),Cell.d Md.fz (.i .i64 (((y5+1)+1)+1)),Cell.d Md.fz (.s y6),Cell.d Md.fz (.s y7),.w 7 (x1.Value.Args.map Expr.D)]) rfl) ?_
 refine ggE hr fun g15 hr=>J g<|J (IEd' g1 (q3D (q3E hx1)))<|J (gn 2)<|J (q0s 0 s4.toNat 15 2 (q3D (q3E hx1)))<|J (LPd' [(15,2),(8,1)] (q3D (q3D (q3E hx1))))<|bdP hr fun y8 z2 hq3 hr=>J g<|J (CB' [(0,2)] [] (z6Y hq3))<|ggE hr fun g16 hr=>J (gn 7) ?_
 cases hr
 exact⟨_,rfl,GH.trans (q0n 0 s4.toNat 15 2 (q3D (q3D (q3E hx1))) (hx:=.ownM (f:=Expr.D))) (GH.trans (q0n 0 s4.toNat 8 1 (q3D (q3D (q3D (q3E hx1)))) (hx:=.ownM (f:=Expr.D))) (GH.trans (q0p 0 (he:=eset (f:=Cn.W) (x':=(⟨y1,y2,(⟨((s3+1)+1),(((s3+1)+1)+1),((((s3+1)+1)+1)+1),(((((s3+1)+1)+1)+1)+1),y3,y4,z1⟩:Expr),(⟨y5,(y5+1),((y5+1)+1),(((y5+1)+1)+1),y6,y7,z2⟩:Expr)⟩:Cn)) (by first|rfl|(simp only[List.set_set];rfl)))) (q0d hS 1)))⟩
 refine J (gn 2) ?_
 cases hr
 cases hik1 _ rfl
 exact q0d hS 1
 exact e
theorem j6Z {a0:(List Rule)}{a1:Int}{r:(Int×(List Rule))}(hr:z5u a0 a1=some r):Ok Tryz.prog 46 [.ref 0 none,dI a1] [.deep .fz 6 (a0.map Rule.W) []] (dI r.1) [.deep .fz 6 (r.2.map Rule.W) []]:=by
 refine OE Tryz.func46 fun S hS=>?_
 unfold z5u at hr
 refine bdP hr fun s1 s2 hqq1 hr=>J (gn 9)<|q0e 1 [(1,dI s1)] [(0,.deep .fz 6 (s2.map Rule.W) [])] ?_ ?_
 refine J g<|q0h hqq1 1 (fun (s3,s4,s5)=>[(0,.ref 0 none),(1,dI s3),(5,dI s4)]) (fun (s3,s4,s5)=>[(0,.deep .fz 6 (s5.map Rule.W) [])]) I fun sk1 ok1 hr hik1=>?_
 obtain⟨s3,s4,s5⟩:=sk1
 have hr:=hr
 refine J g<|J (LEd' s5.length)<|J (gn 2)<|ifE hr ?_ ?_<;>intro h1 hr
 refine bdE hr fun y1 hy1 hr=>J g<|J (CB' [] [] (q4I hy1))<|ggE hr fun g1 hr=>bdE hr fun x1 hx1 hr=>J (IEd' g1 (q3E hx1))<|J g<|J (SD' [.d .fz (.s y1)] [] (q3E hx1))<|ggE hr fun g2 hr=>bdE hr fun y2 hy2 hr=>J g<|J (CB' [] [] (q4I hy2))<|J (IEd' g1 (q3D (q3E hx1)))<|J g<|J (SD' [.d .fz (.s y2)] [] (q3D (q3E hx1)))<|ggE hr fun g3 hr=>J g<|J (IEd' g1 (q3D (q3D (q3E hx1))))<|J (gn 1)<|J (q0s 0 s4.toNat 2 1 (q3D (q3D (q3E hx1))))<|J (LPd' [(2,1)] (q3D (q3D (q3D (q3E hx1)))))<|bdP hr fun y3 z1 hq2 hr=>J g<|J (CB' [(0,1)] [] (j4k hq2))<|J g<|J (OB' _ (bRem (b:=3) (by decide))) ?_
 refine J g<|J (IEd' g1 (q3D (q3D (q3D (q3E hx1)))))<|J g<|J (SD' [.d .fz (.b (decide ((y3.tmod 3)=0)))] [] (q3D (q3D (q3D (q3E hx1)))))<|ggE hr fun g4 hr=>J g<|J (IEd' g1 (q3D (q3D (q3D (q3D (q3E hx1))))))<|J (gn 1)<|J (q0s 0 s4.toNat 4 2 (q3D (q3D (q3D (q3D (q3E hx1))))))<|J (LPd' [(4,2),(2,1)] (q3D (q3D (q3D (q3D (q3D (q3E hx1)))))))<|bdP hr fun y4 z2 hq3 hr=>J g<|J (CB' [(0,2)] [] (j1q hq3))<|J g<|J (IEd' g1 (q3D (q3D (q3D (q3D (q3D (q3E hx1)))))))<|J (gn 1)<|J (q0s 0 s4.toNat 5 3 (q3D (q3D (q3D (q3D (q3D (q3E hx1)))))))<|J (LPd' [(5,3),(4,2),(2,1)] (q3D (q3D (q3D (q3D (q3D (q3D (q3E hx1))))))))<|bdP hr fun y5 z3 hq4 hr=>J g<|J (CB' [(0,3)] [] (z8q hq4))<|ggE hr fun g5 hr=>J (gn 7) ?_
 cases hr
 exact⟨_,rfl,GH.trans (q0n 0 s4.toNat 5 3 (q3D (q3D (q3D (q3D (q3D (q3D (q3E hx1))))))) (hx:=.ownM (f:=Cn.D))) (GH.trans (q0n 0 s4.toNat 4 2 (q3D (q3D (q3D (q3D (q3D (q3D (q3D (q3E hx1)))))))) (hx:=.ownM (f:=Eqn.D))) (GH.trans (q0n 0 s4.toNat 2 1 (q3D (q3D (q3D (q3D (q3D (q3D (q3D (q3D (q3E hx1))))))))) (hx:=.flatM (fun _=>rfl))) (GH.trans (q0p 0 (he:=eset (f:=Rule.W) (x':=(⟨y1,y2,z1,decide ((y3.tmod 3)=0),z2,z3⟩:Rule)) (by first|rfl|(simp only[List.set_set];rfl)))) (q0d hS 1))))⟩
 refine J (gn 2) ?_
 cases hr
 cases hik1 _ rfl
 exact q0d hS 1
 exact e
theorem j4l {a0:Grammar}{a1:Int}{r:(Int×(List Symbol)×(List Rule))}(hr:z0L a0 a1=some r):Ok Tryz.prog 14 [.ag [.ref 0 none,.ref 1 none],dI a1] [.deep .fz 2 (a0.Symbols.map Symbol.W) [],.deep .fz 6 (a0.Rules.map Rule.W) []] (dI r.1) [.deep .fz 2 (r.2.1.map Symbol.W) [],.deep .fz 6 (r.2.2.map Rule.W) []]:=by
 refine OE Tryz.func14 fun S hS=>?_
 unfold z0L at hr
 refine J g<|J (BX' 2)<|bdP hr fun y1 z1 hq1 hr=>J g<|J (CB' [(0,0)] [] (j4j hq1))<|bdP hr fun y2 z2 hq2 hr=>J g<|J (CB' [(0,1)] [] (j6Z hq2))<|e
theorem k2D {a0:Step}{a1:Step}{r:Bool}(hr:z6m a0 a1=some r):Ok Tryz.prog 203 [Step.x .fz a0,Step.x .fz a1] [] (dB r) []:=by
 refine OE Tryz.func203 fun S hS=>?_
 unfold z6m at hr
 refine J g<|J (BX' 0)<|J (BX' 1)<|J (gn 11)<|ifE hr ?_ ?_<;>intro h1 hr
 refine J (gn 11)<|ifE hr ?_ ?_<;>intro h2 hr
 refine J (gn 11)<|ifE hr ?_ ?_<;>intro h3 hr
 refine J (gn 11)<|ifE hr ?_ ?_<;>intro h4 hr
 exact e
 exact e
 exact e
 exact e
 exact e
theorem k0d {m:Md}{a0:(List Step)}{a1:(List Step)}{r:Bool}(hr:z8O a0 a1=some r):Ok Tryz.prog 147 [.d m (.sl 4 (a0.map Step.D)),.d m (.sl 4 (a1.map Step.D))] [] (dB r) []:=by
 refine OE Tryz.func147 fun S hS=>?_
 unfold z8O at hr
 refine J (gn 13)<|ifE hr ?_ ?_<;>intro h1 hr
 refine J (gn 8)<|J (lenT 0)<|fun hl1=>bdE hr fun q1 hqq1 hr=>q0b hqq1 hl1 0 (fun k1 _=>[(0,.d m (.sl 4 (a0.map Step.D))),(1,.d m (.sl 4 (a1.map Step.D))),(5,dI (k1:Int))]) (fun k1 _=>[]) I (fun k1 xk1 sk1 ok1 hxk1 hr hltk1 hik1=>?_) fun k1 sk1 ek1 hltk1=>?_
 refine bdE hr fun x1 hx1 hr=>bdE hr fun y1 hy1 hr=>J g<|J (CB' [] [] (k2D hy1))<|J (gn 2)<|ifE hr ?_ ?_<;>intro h2 hr
 exact e
 exact e
 subst ek1
 exact e
 exact e
theorem j5q {m:Md}{a0:RPl_}{a1:RPl_}{r:Bool}(hr:z0m a0 a1=some r):Ok Tryz.prog 84 [RPl_.x m a0,RPl_.x m a1] [] (dB r) []:=by
 refine OE Tryz.func84 fun S hS=>?_
 unfold z0m at hr
 refine J g<|J (BX' 0)<|J (BX' 1)<|J (gn 11)<|ifE hr ?_ ?_<;>intro h1 hr
 refine bdE hr fun y1 hy1 hr=>J g<|J (CB' [] [] (k0d (m:=m) hy1))<|J (gn 2)<|ifE hr ?_ ?_<;>intro h2 hr
 exact e
 exact e
 exact e
theorem z4U {m:Md}{a0:(List RPl_)}{a1:(List RPl_)}{r:Bool}(hr:q9r a0 a1=some r):Ok Tryz.prog 31 [.d m (.sl 2 (a0.map RPl_.D)),.d m (.sl 2 (a1.map RPl_.D))] [] (dB r) []:=by
 refine OE Tryz.func31 fun S hS=>?_
 unfold q9r at hr
 refine J (gn 13)<|ifE hr ?_ ?_<;>intro h1 hr
 refine J (gn 8)<|J (lenT 0)<|fun hl1=>bdE hr fun q1 hqq1 hr=>q0b hqq1 hl1 0 (fun k1 _=>[(0,.d m (.sl 2 (a0.map RPl_.D))),(1,.d m (.sl 2 (a1.map RPl_.D))),(5,dI (k1:Int))]) (fun k1 _=>[]) I (fun k1 xk1 sk1 ok1 hxk1 hr hltk1 hik1=>?_) fun k1 sk1 ek1 hltk1=>?_
 refine bdE hr fun x1 hx1 hr=>bdE hr fun y1 hy1 hr=>J g<|J (CB' [] [] (j5q (m:=m) hy1))<|J (gn 2)<|ifE hr ?_ ?_<;>intro h2 hr
 exact e
 exact e
 subst ek1
 exact e
 exact e
theorem j7a {a0:(List Step)}{a1:Int}{r:(Int×(List Step))}(hr:z5w a0 a1=some r):Ok Tryz.prog 85 [.ref 0 none,dI a1] [.row .fz 4 (a0.map Step.D)] (dI r.1) [.row .fz 4 (r.2.map Step.D)]:=by
 refine OE Tryz.func85 fun S hS=>?_
 unfold z5w at hr
 refine bdP hr fun s1 s2 hqq1 hr=>J (gn 9)<|q0e 1 [(1,dI s1)] [(0,.row .fz 4 (s2.map Step.D))] ?_ ?_
 refine J g<|q0h hqq1 1 (fun (s3,s4,s5)=>[(0,.ref 0 none),(1,dI s3),(5,dI s4)]) (fun (s3,s4,s5)=>[(0,.row .fz 4 (s5.map Step.D))]) I fun sk1 ok1 hr hik1=>?_
 obtain⟨s3,s4,s5⟩:=sk1
 have hr:=hr
 refine J (gn 8)<|ifE hr ?_ ?_<;>intro h1 hr
 refine ggE hr fun g1 hr=>bdE hr fun x1 hx1 hr=>J g<|J (SE' (⟨s3,x1.Pos,x1.Visit,x1.Name⟩:Step) hx1)<|ggE hr fun g2 hr=>ggE hr fun g3 hr=>bdE hr fun x2 hx2 hr=>J g<|J (SE' (⟨x2.Kind,(s3+1),x2.Visit,x2.Name⟩:Step) hx2)<|ggE hr fun g4 hr=>ggE hr fun g5 hr=>bdE hr fun x3 hx3 hr=>J g<|J (SE' (⟨x3.Kind,x3.Pos,((s3+1)+1),x3.Name⟩:Step) hx3)<|ggE hr fun g6 hr=>bdE hr fun y1 hy1 hr=>J g<|J (CB' [] [] (q4I hy1))<|ggE hr fun g7 hr=>bdE hr fun x4 hx4 hr=>J g<|J (SE' (⟨x4.Kind,x4.Pos,x4.Visit,y1⟩:Step) hx4)<|ggE hr fun g8 hr=>ggE hr fun g9 hr=>e
 refine J (gn 2) ?_
 cases hr
 cases hik1 _ rfl
 exact q0d hS 1
 exact e
theorem j1r {a0:(List RPl_)}{a1:Int}{r:(Int×(List RPl_))}(hr:z0P a0 a1=some r):Ok Tryz.prog 32 [.ref 0 none,dI a1] [.deep .fz 2 (a0.map RPl_.W) []] (dI r.1) [.deep .fz 2 (r.2.map RPl_.W) []]:=by
 refine OE Tryz.func32 fun S hS=>?_
 unfold z0P at hr
 refine bdP hr fun s1 s2 hqq1 hr=>J (gn 9)<|q0e 1 [(1,dI s1)] [(0,.deep .fz 2 (s2.map RPl_.W) [])] ?_ ?_
 refine J g<|q0h hqq1 1 (fun (s3,s4,s5)=>[(0,.ref 0 none),(1,dI s3),(5,dI s4)]) (fun (s3,s4,s5)=>[(0,.deep .fz 2 (s5.map RPl_.W) [])]) I fun sk1 ok1 hr hik1=>?_
 obtain⟨s3,s4,s5⟩:=sk1
 have hr:=hr
 refine J g<|J (LEd' s5.length)<|J (gn 2)<|ifE hr ?_ ?_<;>intro h1 hr
 refine bdE hr fun y1 hy1 hr=>J g<|J (CB' [] [] (q4I hy1))<|ggE hr fun g1 hr=>bdE hr fun x1 hx1 hr=>J (IEd' g1 (q3E hx1))<|J g<|J (SD' [.d .fz (.s y1)] [] (q3E hx1))<|ggE hr fun g2 hr=>J g<|J (IEd' g1 (q3D (q3E hx1)))<|J (gn 1)<|J (q0s 0 s4.toNat 1 1 (q3D (q3E hx1)))<|J (LPd' [(1,1)] (q3D (q3D (q3E hx1))))<|bdP hr fun y2 z1 hq2 hr=>J g<|J (CB' [(0,1)] [] (j7a hq2))<|ggE hr fun g3 hr=>J (gn 7) ?_
 cases hr
 exact⟨_,rfl,GH.trans (q0n 0 s4.toNat 1 1 (q3D (q3D (q3E hx1))) (hx:=.flatM (fun _=>rfl))) (GH.trans (q0p 0 (he:=eset (f:=RPl_.W) (x':=(⟨y1,z1⟩:RPl_)) (by first|rfl|(simp only[List.set_set];rfl)))) (q0d hS 1))⟩
 refine J (gn 2) ?_
 cases hr
 cases hik1 _ rfl
 exact q0d hS 1
 exact e
theorem j7b {m:Md}{a0:(List Step)}{a1:Int}{r:Int}(hr:z3u a0 a1=some r):Ok Tryz.prog 86 [.d m (.sl 4 (a0.map Step.D)),dI a1] [] (dI r) []:=by
 refine OE Tryz.func86 fun S hS=>?_
 unfold z3u at hr
 refine J (gn 10)<|J (lenT 0)<|fun hl1=>bdE hr fun q1 hqq1 hr=>q0b hqq1 hl1 0 (fun k1 s1=>[(0,.d m (.sl 4 (a0.map Step.D))),(1,dI s1),(5,dI (k1:Int))]) (fun k1 s1=>[]) I (fun k1 xk1 sk1 ok1 hxk1 hr hltk1 hik1=>?_) fun k1 sk1 ek1 hltk1=>?_
 obtain⟨s1,rfl⟩:∃ y,y=sk1:=⟨_,rfl⟩
 refine J (gn 23)<|ifE hr ?_ ?_<;>intro h1 hr
 refine ggE hr fun g1 hr=>J (gn 19)<|ifE hr ?_ ?_<;>intro h2 hr
 refine ggE hr fun g2 hr=>J (gn 19)<|ifE hr ?_ ?_<;>intro h3 hr
 refine ggE hr fun g3 hr=>bdE hr fun y1 hy1 hr=>J g<|J (CB' [] [] (q4I hy1))<|J (gn 2)<|ifE hr ?_ ?_<;>intro h4 hr
 refine ggE hr fun g4 hr=>e
 exact e
 exact e
 exact e
 exact e
 subst ek1
 obtain⟨s1,rfl⟩:∃ y,y=sk1:=⟨_,rfl⟩
 exact e
theorem z6s {m:Md}{a0:(List RPl_)}{a1:Int}{r:Int}(hr:q7Y a0 a1=some r):Ok Tryz.prog 33 [.d m (.sl 2 (a0.map RPl_.D)),dI a1] [] (dI r) []:=by
 refine OE Tryz.func33 fun S hS=>?_
 unfold q7Y at hr
 refine J (gn 10)<|J (lenT 0)<|fun hl1=>bdE hr fun q1 hqq1 hr=>q0b hqq1 hl1 0 (fun k1 s1=>[(0,.d m (.sl 2 (a0.map RPl_.D))),(1,dI s1),(5,dI (k1:Int))]) (fun k1 s1=>[]) I (fun k1 xk1 sk1 ok1 hxk1 hr hltk1 hik1=>?_) fun k1 sk1 ek1 hltk1=>?_
 obtain⟨s1,rfl⟩:∃ y,y=sk1:=⟨_,rfl⟩
 refine bdE hr fun y1 hy1 hr=>J g<|J (CB' [] [] (q4I hy1))<|J (gn 2)<|ifE hr ?_ ?_<;>intro h1 hr
 refine ggE hr fun g1 hr=>bdE hr fun y2 hy2 hr=>J g<|J (CB' [] [] (j7b (m:=m) hy2))<|J (gn 7)<|ifE hr ?_ ?_<;>intro h2 hr
 exact e
 exact e
 exact e
 subst ek1
 obtain⟨s1,rfl⟩:∃ y,y=sk1:=⟨_,rfl⟩
 exact e
theorem z9b {m:Md}{a0:Grammar}{r:Bool}(hr:q8U a0=some r):Ok Tryz.prog 7 [Grammar.x m a0] [] (dB r) []:=by
 refine OE Tryz.func7 fun S hS=>?_
 unfold q8U at hr
 refine J g<|J (BX' 0)<|bdE hr fun y1 hy1 hr=>J g<|J (CB' [] [] (j6T (m:=m) hy1))<|J (gn 8)<|ifE hr ?_ ?_<;>intro h1 hr
 exact e
 refine bdE hr fun y2 hy2 hr=>J g<|J (CB' [(0,1),(1,2)] [] (z3U (m:=m) hy2))<|bdP hr fun y3 y4 hq1 hr=>J (CB' [(0,3)] [1,2] (j6Q (m:=.bo) hq1))<|bdE hr fun y5 hy5 hr=>J g<|J (CB' [(0,4),(1,5)] [] (z3U (m:=m) hy5))<|J (NV' 6)<|bdP hr fun y6 y7 hq2 hr=>J g<|J (CB' [(0,7)] [4,5] (j0C (m:=.bo) hq2))<|bdE hr fun y8 hy8 hr=>J g<|J (CB' [] [7,3] (z4U (m:=.bo) hy8))<|bdE hr fun s1 hqq3 hr=>J (gn 1)<|q0a 5 [(1,.pb 0 0),(4,.ref 3 none),(5,dB y4),(6,.pb 6 0),(7,.ref 7 none),(8,dB y7),(40,dB s1)] ?_ ?_
 replace hr:=hqq3
 refine ifE hr ?_ ?_<;>intro h2 hr
 refine J g ?_
 refine J (BQn' rfl rfl)<|J g<|E
 exact e
 refine J (gn 1)<|ifE hr ?_ ?_<;>intro h3 hr
 exact e
 refine bdE hr fun y9 hy9 hr=>J g<|J (CB' [(0,8),(1,9)] [] (z3U (m:=m) hy9))<|bdE hr fun y10 hy10 hr=>J (CB' [] [4,5,8,9] (j6Y (m:=.bo) hy10))<|J (gn 2)<|ifE hr ?_ ?_<;>intro h4 hr
 refine bdT hr fun y11 z1 z2 hq4 hr=>J g<|J (CB' [(0,4),(1,5)] [] (j4l hq4))<|bdE hr fun s2 hqq5 hr=>J (gn 7)<|q0a 6 [(1,.pb 0 0),(4,.ref 3 none),(5,dB y4),(7,.ref 7 none),(8,dB y7),(56,dB s2)] ?_ ?_
 replace hr:=hqq5
 refine ifE hr ?_ ?_<;>intro h5 hr
 exact e
 refine bdE hr fun y12 hy12 hr=>J g<|J (CB' [] [7,3] (z4U (m:=.bo) hy12))<|e
 refine bdE hr fun s3 hqq6 hr=>q0a 5 [(1,.pb 0 0),(4,.ref 3 none),(5,dB y4),(7,.ref 7 none),(61,dB s3)] ?_ ?_
 replace hr:=hqq6
 refine ifE hr ?_ ?_<;>intro h6 hr
 exact e
 refine J g ?_
 refine J (BQn' rfl rfl)<|J g<|E
 refine J (gn 1)<|ifE hr ?_ ?_<;>intro h7 hr
 exact e
 refine bdP hr fun y13 z3 hq7 hr=>J g<|J (CB' [(0,7)] [] (j1r hq7))<|bdE hr fun y14 hy14 hr=>J g<|J (CB' [] [7] (z6s (m:=.bo) hy14))<|J (gn 8)<|ifE hr ?_ ?_<;>intro h8 hr
 exact e
 refine J (gn 9)<|ifE hr ?_ ?_<;>intro h9 hr
 refine bdE hr fun y15 hy15 hr=>J g<|J (CB' [(0,10),(1,11)] [] (z3U (m:=m) hy15))<|bdP hr fun y16 y17 hq8 hr=>J (CB' [(0,12)] [10,11] (j0C (m:=.bo) hq8))<|bdE hr fun y18 hy18 hr=>J g<|J (CB' [] [12,3] (z4U (m:=.bo) hy18))<|bdE hr fun s4 hqq9 hr=>J (gn 1)<|q0a 5 [(7,.ref 7 none),(10,dI y13),(87,dB s4)] ?_ ?_
 replace hr:=hqq9
 refine ifE hr ?_ ?_<;>intro h10 hr
 refine J g ?_
 refine J (BQn' rfl rfl)<|J g<|E
 exact e
 refine J (gn 1)<|ifE hr ?_ ?_<;>intro h11 hr
 exact e
 refine bdE hr fun y19 hy19 hr=>J g<|J (CB' [] [7] (z6s (m:=.bo) hy19))<|J (gn 8)<|ifE hr ?_ ?_<;>intro h12 hr
 exact e
 refine J (gn 9)<|ifE hr ?_ ?_<;>intro h13 hr
 exact e
 exact e
 exact e
 exact e
end Go.Proofs.YtcegfmageiicaaaGreat
