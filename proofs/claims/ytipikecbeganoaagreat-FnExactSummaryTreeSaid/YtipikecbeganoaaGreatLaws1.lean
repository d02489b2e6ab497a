/- What some functions of the program compute, as partial functions on plain data, and that they do; each lemma bears its conditions in its statement. -/
import Derived.Test.YtipikecbeganoaaGreatLane0c
import Derived.Test.YtipikecbeganoaaGreatLane1b
set_option linter.unusedVariables false
set_option linter.unusedSimpArgs false
set_option linter.ambiguousOpen false
set_option linter.unusedSectionVars false
set_option linter.unnecessarySimpa false
set_option maxRecDepth 100000
set_option maxHeartbeats 40000000
noncomputable section
namespace Go.Proofs.YtipikecbeganoaaGreat
open Go Go.E Go.A
theorem j3e {a0:At_}{a1:Int}{r:Int}(hr:z1I a0 a1=some r):Ok Tryz.prog 132 [At_.x .fz a0,dI a1] [] (dI r) []:=by
 refine OE Tryz.func132 fun S hS=>?_
 unfold z1I at hr
 refine J g<|J (BX' 0)<|J g<|J LS'<|ggE hr fun g1 hr=>J (gn 9)<|ifE hr ?_ ?_<;>intro h1 hr
 exact e
 exact e
theorem j1w {m:Md}{a0:(List At_)}{a1:Int}{r:Int}(hr:z0n a0 a1=some r):Ok Tryz.prog 95 [.d m (.sl 4 (a0.map At_.D)),dI a1] [] (dI r) []:=by
 refine OE Tryz.func95 fun S hS=>?_
 unfold z0n at hr
 refine ggE hr fun g1 hr=>J (gn 18)<|ifE hr ?_ ?_<;>intro h1 hr
 exact e
 refine J (gn 8)<|J (lenT 0)<|fun hl1=>bdE hr fun q1 hqq1 hr=>q0b hqq1 hl1 0 (fun k1 s1=>[(0,.d m (.sl 4 (a0.map At_.D))),(1,dI s1),(5,dI (k1:Int))]) (fun k1 s1=>[]) I (fun k1 xk1 sk1 ok1 hxk1 hr hltk1 hik1=>?_) fun k1 sk1 ek1 hltk1=>?_
 obtain⟨s1,rfl⟩:∃ y,y=sk1:=⟨_,rfl⟩
 refine bdE hr fun y1 hy1 hr=>J g<|J (CB' [] [] (j3e hy1))<|J (gn 7)<|ifE hr ?_ ?_<;>intro h2 hr
 exact e
 exact e
 subst ek1
 obtain⟨s1,rfl⟩:∃ y,y=sk1:=⟨_,rfl⟩
 exact e
theorem j7D {m:Md}{a0:Symbol}{a1:Int}{r:Int}(hr:z5w a0 a1=some r):Ok Tryz.prog 54 [Symbol.x m a0,dI a1] [] (dI r) []:=by
 refine OE Tryz.func54 fun S hS=>?_
 unfold z5w at hr
 refine J g<|J (BX' 0)<|J g<|J LS'<|ggE hr fun g1 hr=>J (gn 9)<|ifE hr ?_ ?_<;>intro h1 hr
 exact e
 refine bdE hr fun y1 hy1 hr=>J g<|J (CB' [] [] (j1w (m:=m) hy1))<|J (gn 8)<|ifE hr ?_ ?_<;>intro h2 hr
 exact e
 exact e
theorem j5U {m:Md}{a0:(List Symbol)}{a1:Int}{r:Int}(hr:z3U a0 a1=some r):Ok Tryz.prog 20 [.d m (.sl 2 (a0.map Symbol.D)),dI a1] [] (dI r) []:=by
 refine OE Tryz.func20 fun S hS=>?_
 unfold z3U at hr
 refine ggE hr fun g1 hr=>J (gn 18)<|ifE hr ?_ ?_<;>intro h1 hr
 exact e
 refine J (gn 8)<|J (lenT 0)<|fun hl1=>bdE hr fun q1 hqq1 hr=>q0b hqq1 hl1 0 (fun k1 s1=>[(0,.d m (.sl 2 (a0.map Symbol.D))),(1,dI s1),(5,dI (k1:Int))]) (fun k1 s1=>[]) I (fun k1 xk1 sk1 ok1 hxk1 hr hltk1 hik1=>?_) fun k1 sk1 ek1 hltk1=>?_
 obtain⟨s1,rfl⟩:∃ y,y=sk1:=⟨_,rfl⟩
 refine bdE hr fun y1 hy1 hr=>J g<|J (CB' [] [] (j7D (m:=m) hy1))<|J (gn 7)<|ifE hr ?_ ?_<;>intro h2 hr
 exact e
 exact e
 subst ek1
 obtain⟨s1,rfl⟩:∃ y,y=sk1:=⟨_,rfl⟩
 exact e
theorem j5V {m:Md}{a0:(List ByteArray)}{a1:Int}{r:Int}(hr:z3V a0 a1=some r):Ok Tryz.prog 96 [.d m (.sl 1 (a0.map A.D.s)),dI a1] [] (dI r) []:=by
 refine OE Tryz.func96 fun S hS=>?_
 unfold z3V at hr
 refine ggE hr fun g1 hr=>J (gn 18)<|ifE hr ?_ ?_<;>intro h1 hr
 exact e
 refine J (gn 8)<|J (lenT 0)<|fun hl1=>bdE hr fun q1 hqq1 hr=>q0b hqq1 hl1 0 (fun k1 s1=>[(0,.d m (.sl 1 (a0.map A.D.s))),(1,dI s1),(5,dI (k1:Int))]) (fun k1 s1=>[]) I (fun k1 xk1 sk1 ok1 hxk1 hr hltk1 hik1=>?_) fun k1 sk1 ek1 hltk1=>?_
 obtain⟨s1,rfl⟩:∃ y,y=sk1:=⟨_,rfl⟩
 refine J g<|J LS'<|ggE hr fun g2 hr=>J (gn 8)<|ifE hr ?_ ?_<;>intro h2 hr
 exact e
 exact e
 subst ek1
 obtain⟨s1,rfl⟩:∃ y,y=sk1:=⟨_,rfl⟩
 exact e
theorem j1x {a0:Oc}{a1:Int}{r:Int}(hr:z0o a0 a1=some r):Ok Tryz.prog 169 [Oc.x .fz a0,dI a1] [] (dI r) []:=by
 refine OE Tryz.func169 fun S hS=>?_
 unfold z0o at hr
 refine J g<|J (BX' 0)<|J g<|J LS'<|ggE hr fun g1 hr=>J (gn 9)<|ifE hr ?_ ?_<;>intro h1 hr
 exact e
 exact e
theorem j9k {Rc0:Expr→Int→Option Int}(Ic0:∀ {m:Md} {a0:Expr} {a1:Int} {r:Int},Rc0 a0 a1=some r→Ok Tryz.prog 170 [Expr.x m a0,dI a1] [] (dI r) []){m:Md}{a0:(List Expr)}{a1:Int}{r:Int}(hr:z9Z Rc0 a0 a1=some r):Ok Tryz.prog 214 [.d m (.sl 7 (a0.map Expr.D)),dI a1] [] (dI r) []:=by
 refine OE Tryz.func214 fun S hS=>?_
 unfold z9Z at hr
 refine ggE hr fun g1 hr=>J (gn 18)<|ifE hr ?_ ?_<;>intro h1 hr
 exact e
 refine J (gn 8)<|J (lenT 0)<|fun hl1=>bdE hr fun q1 hqq1 hr=>q0b hqq1 hl1 0 (fun k1 s1=>[(0,.d m (.sl 7 (a0.map Expr.D))),(1,dI s1),(5,dI (k1:Int))]) (fun k1 s1=>[]) I (fun k1 xk1 sk1 ok1 hxk1 hr hltk1 hik1=>?_) fun k1 sk1 ek1 hltk1=>?_
 obtain⟨s1,rfl⟩:∃ y,y=sk1:=⟨_,rfl⟩
 refine bdE hr fun y1 hy1 hr=>J g<|J (CB' [] [] (Ic0 (m:=m) hy1))<|J (gn 7)<|ifE hr ?_ ?_<;>intro h2 hr
 exact e
 exact e
 subst ek1
 obtain⟨s1,rfl⟩:∃ y,y=sk1:=⟨_,rfl⟩
 exact e
theorem j9l {Rc0:Expr→Int→Option Int}(Ic0:∀ {m:Md} {a0:Expr} {a1:Int} {r:Int},Rc0 a0 a1=some r→Ok Tryz.prog 170 [Expr.x m a0,dI a1] [] (dI r) []){m:Md}{a0:Expr}{a1:Int}{r:Int}(hr:z6o Rc0 a0 a1=some r):Ok Tryz.prog 170 [Expr.x m a0,dI a1] [] (dI r) []:=by
 refine OE Tryz.func170 fun S hS=>?_
 unfold z6o at hr
 refine J g<|J (BX' 0)<|J g<|J LS'<|ggE hr fun g1 hr=>J (gn 9)<|ifE hr ?_ ?_<;>intro h1 hr
 exact e
 refine J g<|J LS'<|ggE hr fun g2 hr=>J (gn 9)<|ifE hr ?_ ?_<;>intro h2 hr
 exact e
 refine bdE hr fun y1 hy1 hr=>J g<|J (CB' [] [] (j9k Ic0 (m:=m) hy1))<|J (gn 8)<|ifE hr ?_ ?_<;>intro h3 hr
 exact e
 exact e
theorem j9m (n:Nat):∀ {m:Md} {a0:Expr} {a1:Int} {r:Int},z4L n a0 a1=some r→Ok Tryz.prog 170 [Expr.x m a0,dI a1] [] (dI r) []:=by
  induction n with
  | zero=>intro _ _ _ r hr;exact nomatch (show (none:Option Int)=some r from hr)
  | succ n ih=>intro _ _ _ r hr;exact j9l ih hr
theorem j0l {m:Md}{a0:Expr}{a1:Int}{r:Int}(hr:z6p a0 a1=some r):Ok Tryz.prog 170 [Expr.x m a0,dI a1] [] (dI r) []:=by
 obtain⟨n,hn⟩:=q5J hr
 exact j9m n hn
theorem j4b {m:Md}{a0:Eqn}{a1:Int}{r:Int}(hr:z2D a0 a1=some r):Ok Tryz.prog 133 [Eqn.x m a0,dI a1] [] (dI r) []:=by
 refine OE Tryz.func133 fun S hS=>?_
 unfold z2D at hr
 refine J g<|J (BX' 0)<|bdE hr fun y1 hy1 hr=>J g<|J (CB' [] [] (j1x hy1))<|J (gn 8)<|ifE hr ?_ ?_<;>intro h1 hr
 exact e
 refine bdE hr fun y2 hy2 hr=>J g<|J (CB' [] [] (j0l (m:=m) hy2))<|J (gn 8)<|ifE hr ?_ ?_<;>intro h2 hr
 exact e
 exact e
theorem j3f {m:Md}{a0:(List Eqn)}{a1:Int}{r:Int}(hr:z1J a0 a1=some r):Ok Tryz.prog 97 [.d m (.sl 9 (a0.map Eqn.D)),dI a1] [] (dI r) []:=by
 refine OE Tryz.func97 fun S hS=>?_
 unfold z1J at hr
 refine ggE hr fun g1 hr=>J (gn 18)<|ifE hr ?_ ?_<;>intro h1 hr
 exact e
 refine J (gn 8)<|J (lenT 0)<|fun hl1=>bdE hr fun q1 hqq1 hr=>q0b hqq1 hl1 0 (fun k1 s1=>[(0,.d m (.sl 9 (a0.map Eqn.D))),(1,dI s1),(5,dI (k1:Int))]) (fun k1 s1=>[]) I (fun k1 xk1 sk1 ok1 hxk1 hr hltk1 hik1=>?_) fun k1 sk1 ek1 hltk1=>?_
 obtain⟨s1,rfl⟩:∃ y,y=sk1:=⟨_,rfl⟩
 refine bdE hr fun y1 hy1 hr=>J g<|J (CB' [] [] (j4b (m:=m) hy1))<|J (gn 7)<|ifE hr ?_ ?_<;>intro h2 hr
 exact e
 exact e
 subst ek1
 obtain⟨s1,rfl⟩:∃ y,y=sk1:=⟨_,rfl⟩
 exact e
theorem z9A {m:Md}{a0:Cn}{a1:Int}{r:Int}(hr:q8X a0 a1=some r):Ok Tryz.prog 134 [Cn.x m a0,dI a1] [] (dI r) []:=by
 refine OE Tryz.func134 fun S hS=>?_
 unfold q8X at hr
 refine J g<|J (BX' 0)<|J g<|J LS'<|ggE hr fun g1 hr=>J (gn 9)<|ifE hr ?_ ?_<;>intro h1 hr
 exact e
 refine J g<|J LS'<|ggE hr fun g2 hr=>J (gn 9)<|ifE hr ?_ ?_<;>intro h2 hr
 exact e
 refine bdE hr fun y1 hy1 hr=>J g<|J (CB' [] [] (j0l (m:=m) hy1))<|J (gn 8)<|ifE hr ?_ ?_<;>intro h3 hr
 exact e
 refine bdE hr fun y2 hy2 hr=>J g<|J (CB' [] [] (j0l (m:=m) hy2))<|J (gn 8)<|ifE hr ?_ ?_<;>intro h4 hr
 exact e
 exact e
theorem z8D {m:Md}{a0:(List Cn)}{a1:Int}{r:Int}(hr:q8z a0 a1=some r):Ok Tryz.prog 98 [.d m (.sl 16 (a0.map Cn.D)),dI a1] [] (dI r) []:=by
 refine OE Tryz.func98 fun S hS=>?_
 unfold q8z at hr
 refine ggE hr fun g1 hr=>J (gn 18)<|ifE hr ?_ ?_<;>intro h1 hr
 exact e
 refine J (gn 8)<|J (lenT 0)<|fun hl1=>bdE hr fun q1 hqq1 hr=>q0b hqq1 hl1 0 (fun k1 s1=>[(0,.d m (.sl 16 (a0.map Cn.D))),(1,dI s1),(5,dI (k1:Int))]) (fun k1 s1=>[]) I (fun k1 xk1 sk1 ok1 hxk1 hr hltk1 hik1=>?_) fun k1 sk1 ek1 hltk1=>?_
 obtain⟨s1,rfl⟩:∃ y,y=sk1:=⟨_,rfl⟩
 refine bdE hr fun y1 hy1 hr=>J g<|J (CB' [] [] (z9A (m:=m) hy1))<|J (gn 7)<|ifE hr ?_ ?_<;>intro h2 hr
 exact e
 exact e
 subst ek1
 obtain⟨s1,rfl⟩:∃ y,y=sk1:=⟨_,rfl⟩
 exact e
theorem k2c {m:Md}{a0:Rule}{a1:Int}{r:Int}(hr:z9b a0 a1=some r):Ok Tryz.prog 55 [Rule.x m a0,dI a1] [] (dI r) []:=by
 refine OE Tryz.func55 fun S hS=>?_
 unfold z9b at hr
 refine J g<|J (BX' 0)<|J g<|J LS'<|ggE hr fun g1 hr=>J (gn 9)<|ifE hr ?_ ?_<;>intro h1 hr
 exact e
 refine J g<|J LS'<|ggE hr fun g2 hr=>J (gn 9)<|ifE hr ?_ ?_<;>intro h2 hr
 exact e
 refine bdE hr fun y1 hy1 hr=>J g<|J (CB' [] [] (j5V (m:=m) hy1))<|J (gn 8)<|ifE hr ?_ ?_<;>intro h3 hr
 exact e
 refine bdE hr fun y2 hy2 hr=>J g<|J (CB' [] [] (j3f (m:=m) hy2))<|J (gn 8)<|ifE hr ?_ ?_<;>intro h4 hr
 exact e
 refine bdE hr fun y3 hy3 hr=>J g<|J (CB' [] [] (z8D (m:=m) hy3))<|J (gn 8)<|ifE hr ?_ ?_<;>intro h5 hr
 exact e
 exact e
theorem j9n {m:Md}{a0:(List Rule)}{a1:Int}{r:Int}(hr:z7y a0 a1=some r):Ok Tryz.prog 21 [.d m (.sl 6 (a0.map Rule.D)),dI a1] [] (dI r) []:=by
 refine OE Tryz.func21 fun S hS=>?_
 unfold z7y at hr
 refine ggE hr fun g1 hr=>J (gn 18)<|ifE hr ?_ ?_<;>intro h1 hr
 exact e
 refine J (gn 8)<|J (lenT 0)<|fun hl1=>bdE hr fun q1 hqq1 hr=>q0b hqq1 hl1 0 (fun k1 s1=>[(0,.d m (.sl 6 (a0.map Rule.D))),(1,dI s1),(5,dI (k1:Int))]) (fun k1 s1=>[]) I (fun k1 xk1 sk1 ok1 hxk1 hr hltk1 hik1=>?_) fun k1 sk1 ek1 hltk1=>?_
 obtain⟨s1,rfl⟩:∃ y,y=sk1:=⟨_,rfl⟩
 refine bdE hr fun y1 hy1 hr=>J g<|J (CB' [] [] (k2c (m:=m) hy1))<|J (gn 7)<|ifE hr ?_ ?_<;>intro h2 hr
 exact e
 exact e
 subst ek1
 obtain⟨s1,rfl⟩:∃ y,y=sk1:=⟨_,rfl⟩
 exact e
theorem z9B {m:Md}{a0:Gm_}{a1:Int}{r:Int}(hr:z2b a0 a1=some r):Ok Tryz.prog 5 [Gm_.x m a0,dI a1] [] (dI r) []:=by
 refine OE Tryz.func5 fun S hS=>?_
 unfold z2b at hr
 refine J g<|J (BX' 0)<|bdE hr fun y1 hy1 hr=>J g<|J (CB' [] [] (j5U (m:=m) hy1))<|J (gn 8)<|ifE hr ?_ ?_<;>intro h1 hr
 exact e
 refine bdE hr fun y2 hy2 hr=>J g<|J (CB' [] [] (j9n (m:=m) hy2))<|J (gn 8)<|ifE hr ?_ ?_<;>intro h2 hr
 exact e
 exact e
theorem k2d {m:Md}{a0:(List Int)}{a1:Int}{r:Int}(hr:z9c a0 a1=some r):Ok Tryz.prog 22 [.d m (.sl 1 (a0.map (A.D.i .i64))),dI a1] [] (dI r) []:=by
 refine OE Tryz.func22 fun S hS=>?_
 unfold z9c at hr
 refine ggE hr fun g1 hr=>J (gn 18)<|ifE hr ?_ ?_<;>intro h1 hr
 exact e
 exact e
theorem j4c {m:Md}{a0:Rl_}{a1:Int}{r:Int}(hr:z0p a0 a1=some r):Ok Tryz.prog 6 [Rl_.x m a0,dI a1] [] (dI r) []:=by
 refine OE Tryz.func6 fun S hS=>?_
 unfold z0p at hr
 refine J g<|J (BX' 0)<|bdE hr fun y1 hy1 hr=>J g<|J (CB' [] [] (k2d (m:=m) hy1))<|J (gn 8)<|ifE hr ?_ ?_<;>intro h1 hr
 exact e
 exact e
theorem j3g {a0:At_}{r:At_}(hr:z1K a0=some r):Ok Tryz.prog 143 [At_.x .fz a0] [] (At_.x .fz r) []:=by
 refine OE Tryz.func143 fun S hS=>?_
 unfold z1K at hr
 refine J g<|J (BX' 0)<|J (NV' 1)<|J g<|J (NV' 2)<|e
theorem j1y {m:Md}{a0:(List At_)}{r:(List At_)}(hr:z0q a0=some r):Ok Tryz.prog 105 [.d m (.sl 4 (a0.map At_.D))] [] (.ref 0 none) [.row .fz 4 (r.map At_.D)]:=by
 refine OE Tryz.func105 fun S hS=>?_
 unfold z0q at hr
 refine ggE hr fun g1 hr=>J g<|J (MKR' 0 (f:=At_.D) (⟨(⟨#[]⟩:ByteArray),(0:Int),(0:Int),false⟩:At_) g1.1 g1.2.1 g1.2.2)<|J (gn 8)<|J (lenT 0)<|fun hl1=>bdE hr fun s1 hqq1 hr=>q0c hqq1 hl1 1 (fun k1 s1=>[(0,.d m (.sl 4 (a0.map At_.D))),(3,.ref 0 none),(4,dI (k1:Int))]) (fun k1 s1=>[(0,.row .fz 4 (s1.map At_.D))]) I (fun k1 xk1 sk1 ok1 hxk1 hr hltk1=>?_) fun k1 hltk1=>?_
 obtain⟨s1,rfl⟩:∃ y,y=sk1:=⟨_,rfl⟩
 refine bdE hr fun y1 hy1 hr=>J g<|J (CB' [] [] (j3g hy1))<|bdE hr fun x1 hx1 hr=>J g<|J (SE' y1 hx1)<|e
 exact e
theorem j7E {m:Md}{a0:Symbol}{r:Symbol}(hr:z1k a0=some r):Ok Tryz.prog 62 [Symbol.x m a0] [] (.ag [dS r.Name,.ref 0 none]) [.row .fz 4 (r.Attributes.map At_.D)]:=by
 refine OE Tryz.func62 fun S hS=>?_
 unfold z1k at hr
 refine J g<|J (BX' 0)<|J (NV' 1)<|J g<|J (NV' 2)<|bdE hr fun y1 hy1 hr=>J g<|J (CB' [(0,3)] [] (j1y (m:=m) hy1))<|e
theorem j5W {m:Md}{a0:(List Symbol)}{r:(List Symbol)}(hr:z3W a0=some r):Ok Tryz.prog 29 [.d m (.sl 2 (a0.map Symbol.D))] [] (.ref 0 none) [.deep .fz 2 (r.map Symbol.W) []]:=by
 refine OE Tryz.func29 fun S hS=>?_
 unfold z3W at hr
 refine ggE hr fun g1 hr=>J g<|MKW 0 (f:=Symbol.W) (⟨(⟨#[]⟩:ByteArray),[]⟩:Symbol) g1.1 g1.2.1 g1.2.2 ?_
 refine J (gn 8)<|J (lenT 0)<|fun hl1=>bdE hr fun s1 hqq1 hr=>q0c hqq1 hl1 1 (fun k1 s1=>[(0,.d m (.sl 2 (a0.map Symbol.D))),(3,.ref 0 none),(4,dI (k1:Int))]) (fun k1 s1=>[(0,.deep .fz 2 (s1.map Symbol.W) [])]) I (fun k1 xk1 sk1 ok1 hxk1 hr hltk1=>?_) fun k1 hltk1=>?_
 obtain⟨s1,rfl⟩:∃ y,y=sk1:=⟨_,rfl⟩
 refine bdE hr fun y1 hy1 hr=>J g<|J (CB' [(0,1)] [] (j7E (m:=m) hy1))<|bdE hr fun x1 hx1 hr=>J (IEd' (Int.natCast_nonneg _) (q3P hx1))<|J (SD' [.d .fz (.s y1.Name),.w 4 (y1.Attributes.map At_.D)] [1] (q3P hx1))<|J (gn 6) ?_
 cases hr
 exact GH.trans (q0k 0 (he:=eset (f:=Symbol.W) (x':=y1) (by first|rfl|(simp only[List.set_set];rfl)))) (q0f hS 1)
 exact e
theorem j5X {m:Md}{a0:(List ByteArray)}{r:(List ByteArray)}(hr:z3X a0=some r):Ok Tryz.prog 106 [.d m (.sl 1 (a0.map A.D.s))] [] (.ref 0 none) [.row .fz 1 (r.map A.D.s)]:=by
 refine OE Tryz.func106 fun S hS=>?_
 unfold z3X at hr
 refine ggE hr fun g1 hr=>J g<|J (MKR' 0 (f:=A.D.s) (⟨#[]⟩:ByteArray) g1.1 g1.2.1 g1.2.2)<|J (gn 8)<|J (lenT 0)<|fun hl1=>bdE hr fun s1 hqq1 hr=>q0c hqq1 hl1 1 (fun k1 s1=>[(0,.d m (.sl 1 (a0.map A.D.s))),(3,.ref 0 none),(4,dI (k1:Int))]) (fun k1 s1=>[(0,.row .fz 1 (s1.map A.D.s))]) I (fun k1 xk1 sk1 ok1 hxk1 hr hltk1=>?_) fun k1 hltk1=>?_
 obtain⟨s1,rfl⟩:∃ y,y=sk1:=⟨_,rfl⟩
 refine bdE hr fun x1 hx1 hr=>J g<|J (SE' xk1 hx1)<|e
 exact e
theorem j1z {a0:Oc}{r:Oc}(hr:z0r a0=some r):Ok Tryz.prog 182 [Oc.x .fz a0] [] (Oc.x .fz r) []:=by
 refine OE Tryz.func182 fun S hS=>?_
 unfold z0r at hr
 refine J g<|J (BX' 0)<|J (NV' 1)<|J g<|J (NV' 2)<|e
theorem j9o {Rc1:Expr→Option Expr}(Ic1:∀ {m:Md} {a0:Expr} {r:Expr},Rc1 a0=some r→Ok Tryz.prog 183 [Expr.x m a0] [] (.ag [dI r.Kind,dI r.N,dI r.Pos,dI r.Type_,dS r.Symbol,dS r.Name,.ref 0 none]) [.deep .fz 7 (r.Args.map Expr.W) []]){m:Md}{a0:(List Expr)}{r:(List Expr)}(hr:z7z Rc1 a0=some r):Ok Tryz.prog 224 [.d m (.sl 7 (a0.map Expr.D))] [] (.ref 0 none) [.deep .fz 7 (r.map Expr.W) []]:=by
 refine OE Tryz.func224 fun S hS=>?_
 unfold z7z at hr
 refine ggE hr fun g1 hr=>J g<|MKW 0 (f:=Expr.W) (⟨(0:Int),(0:Int),(0:Int),(0:Int),(⟨#[]⟩:ByteArray),(⟨#[]⟩:ByteArray),[]⟩:Expr) g1.1 g1.2.1 g1.2.2 ?_
 refine J (gn 8)<|J (lenT 0)<|fun hl1=>bdE hr fun s1 hqq1 hr=>q0c hqq1 hl1 1 (fun k1 s1=>[(0,.d m (.sl 7 (a0.map Expr.D))),(3,.ref 0 none),(4,dI (k1:Int))]) (fun k1 s1=>[(0,.deep .fz 7 (s1.map Expr.W) [])]) I (fun k1 xk1 sk1 ok1 hxk1 hr hltk1=>?_) fun k1 hltk1=>?_
 obtain⟨s1,rfl⟩:∃ y,y=sk1:=⟨_,rfl⟩
 refine bdE hr fun y1 hy1 hr=>J g<|J (CB' [(0,1)] [] (Ic1 (m:=m) hy1))<|bdE hr fun x1 hx1 hr=>J (IEd' (Int.natCast_nonneg _) (q3P hx1))<|J (SD' [.d .fz (.i .i64 y1.Kind),.d .fz (.i .i64 y1.N),.d .fz (.i .i64 y1.Pos),.d .fz (.i .i64 y1.Type_),.d .fz (.s y1.Symbol),.d .fz (.s y1.Name),.w 7 (y1.Args.map Expr.D)] [1] (q3P hx1))<|J (gn 6) ?_
 cases hr
 exact GH.trans (q0k 0 (he:=eset (f:=Expr.W) (x':=y1) (by first|rfl|(simp only[List.set_set];rfl)))) (q0f hS 1)
 exact e
theorem j9p {Rc1:Expr→Option Expr}(Ic1:∀ {m:Md} {a0:Expr} {r:Expr},Rc1 a0=some r→Ok Tryz.prog 183 [Expr.x m a0] [] (.ag [dI r.Kind,dI r.N,dI r.Pos,dI r.Type_,dS r.Symbol,dS r.Name,.ref 0 none]) [.deep .fz 7 (r.Args.map Expr.W) []]){m:Md}{a0:Expr}{r:Expr}(hr:z6r Rc1 a0=some r):Ok Tryz.prog 183 [Expr.x m a0] [] (.ag [dI r.Kind,dI r.N,dI r.Pos,dI r.Type_,dS r.Symbol,dS r.Name,.ref 0 none]) [.deep .fz 7 (r.Args.map Expr.W) []]:=by
 refine OE Tryz.func183 fun S hS=>?_
 unfold z6r at hr
 refine J g<|J (BX' 0)<|J (NV' 1)<|J g<|J (NV' 2)<|bdE hr fun y1 hy1 hr=>J g<|J (CB' [(0,3)] [] (j9o Ic1 (m:=m) hy1))<|e
theorem j9q (n:Nat):∀ {m:Md} {a0:Expr} {r:Expr},z3j n a0=some r→Ok Tryz.prog 183 [Expr.x m a0] [] (.ag [dI r.Kind,dI r.N,dI r.Pos,dI r.Type_,dS r.Symbol,dS r.Name,.ref 0 none]) [.deep .fz 7 (r.Args.map Expr.W) []]:=by
  induction n with
  | zero=>intro _ _ r hr;exact nomatch (show (none:Option Expr)=some r from hr)
  | succ n ih=>intro _ _ r hr;exact j9p ih hr
theorem j0m {m:Md}{a0:Expr}{r:Expr}(hr:z6s a0=some r):Ok Tryz.prog 183 [Expr.x m a0] [] (.ag [dI r.Kind,dI r.N,dI r.Pos,dI r.Type_,dS r.Symbol,dS r.Name,.ref 0 none]) [.deep .fz 7 (r.Args.map Expr.W) []]:=by
 obtain⟨n,hn⟩:=q5J hr
 exact j9q n hn
theorem j4d {m:Md}{a0:Eqn}{r:Eqn}(hr:q8Y a0=some r):Ok Tryz.prog 144 [Eqn.x m a0] [] (.ag [dI r.At.Pos,dS r.At.Name,dI r.Expr.Kind,dI r.Expr.N,dI r.Expr.Pos,dI r.Expr.Type_,dS r.Expr.Symbol,dS r.Expr.Name,.ref 0 none]) [.deep .fz 7 (r.Expr.Args.map Expr.W) []]:=by
 refine OE Tryz.func144 fun S hS=>?_
 unfold q8Y at hr
 refine J g<|J (BX' 0)<|J (NV' 1)<|J g<|J (NV' 2)<|bdE hr fun y1 hy1 hr=>J g<|J (CB' [] [] (j1z hy1))<|bdE hr fun y2 hy2 hr=>J g<|J (CB' [(0,3)] [] (j0m (m:=m) hy2))<|e
theorem j3h {m:Md}{a0:(List Eqn)}{r:(List Eqn)}(hr:z1L a0=some r):Ok Tryz.prog 107 [.d m (.sl 9 (a0.map Eqn.D))] [] (.ref 0 none) [.deep .fz 9 (r.map Eqn.W) []]:=by
 refine OE Tryz.func107 fun S hS=>?_
 unfold z1L at hr
 refine ggE hr fun g1 hr=>J g<|MKW 0 (f:=Eqn.W) (⟨(⟨(0:Int),(⟨#[]⟩:ByteArray)⟩:Oc),(⟨(0:Int),(0:Int),(0:Int),(0:Int),(⟨#[]⟩:ByteArray),(⟨#[]⟩:ByteArray),[]⟩:Expr)⟩:Eqn) g1.1 g1.2.1 g1.2.2 ?_
 refine J (gn 8)<|J (lenT 0)<|fun hl1=>bdE hr fun s1 hqq1 hr=>q0c hqq1 hl1 1 (fun k1 s1=>[(0,.d m (.sl 9 (a0.map Eqn.D))),(3,.ref 0 none),(4,dI (k1:Int))]) (fun k1 s1=>[(0,.deep .fz 9 (s1.map Eqn.W) [])]) I (fun k1 xk1 sk1 ok1 hxk1 hr hltk1=>?_) fun k1 hltk1=>?_
 obtain⟨s1,rfl⟩:∃ y,y=sk1:=⟨_,rfl⟩
 refine bdE hr fun y1 hy1 hr=>J g<|J (CB' [(0,1)] [] (j4d (m:=m) hy1))<|bdE hr fun x1 hx1 hr=>J (IEd' (Int.natCast_nonneg _) (q3P hx1))<|J (SD' [.d .fz (.i .i64 y1.At.Pos),.d .fz (.s y1.At.Name),.d .fz (.i .i64 y1.Expr.Kind),.d .fz (.i .i64 y1.Expr.N),.d .fz (.i .i64 y1.Expr.Pos),.d .fz (.i .i64 y1.Expr.Type_),.d .fz (.s y1.Expr.Symbol),.d .fz (.s y1.Expr.Name),.w 7 (y1.Expr.Args.map Expr.D)] [1] (q3P hx1))<|J (gn 6) ?_
 cases hr
 exact GH.trans (q0k 0 (he:=eset (f:=Eqn.W) (x':=y1) (by first|rfl|(simp only[List.set_set];rfl)))) (q0f hS 1)
 exact e
theorem z9C {m:Md}{a0:Cn}{r:Cn}(hr:q6F a0=some r):Ok Tryz.prog 145 [Cn.x m a0] [] (.ag [dS r.Symbol,dS r.Name,dI r.Target.Kind,dI r.Target.N,dI r.Target.Pos,dI r.Target.Type_,dS r.Target.Symbol,dS r.Target.Name,.ref 0 none,dI r.Value.Kind,dI r.Value.N,dI r.Value.Pos,dI r.Value.Type_,dS r.Value.Symbol,dS r.Value.Name,.ref 1 none]) [.deep .fz 7 (r.Target.Args.map Expr.W) [],.deep .fz 7 (r.Value.Args.map Expr.W) []]:=by
 refine OE Tryz.func145 fun S hS=>?_
 unfold q6F at hr
 refine J g<|J (BX' 0)<|J (NV' 1)<|J g<|J (NV' 2)<|bdE hr fun y1 hy1 hr=>J g<|J (CB' [(0,3)] [] (j0m (m:=m) hy1))<|bdE hr fun y2 hy2 hr=>J g<|J (CB' [(0,4)] [] (j0m (m:=m) hy2))<|e
theorem z8E {m:Md}{a0:(List Cn)}{r:(List Cn)}(hr:q8A a0=some r):Ok Tryz.prog 108 [.d m (.sl 16 (a0.map Cn.D))] [] (.ref 0 none) [.deep .fz 16 (r.map Cn.W) []]:=by
 refine OE Tryz.func108 fun S hS=>?_
 unfold q8A at hr
 refine ggE hr fun g1 hr=>J g<|MKW 0 (f:=Cn.W) (⟨(⟨#[]⟩:ByteArray),(⟨#[]⟩:ByteArray),(⟨(0:Int),(0:Int),(0:Int),(0:Int),(⟨#[]⟩:ByteArray),(⟨#[]⟩:ByteArray),[]⟩:Expr),(⟨(0:Int),(0:Int),(0:Int),(0:Int),(⟨#[]⟩:ByteArray),(⟨#[]⟩:ByteArray),[]⟩:Expr)⟩:Cn) g1.1 g1.2.1 g1.2.2 ?_
 refine J (gn 8)<|J (lenT 0)<|fun hl1=>bdE hr fun s1 hqq1 hr=>q0c hqq1 hl1 1 (fun k1 s1=>[(0,.d m (.sl 16 (a0.map Cn.D))),(3,.ref 0 none),(4,dI (k1:Int))]) (fun k1 s1=>[(0,.deep .fz 16 (s1.map Cn.W) [])]) I (fun k1 xk1 sk1 ok1 hxk1 hr hltk1=>?_) fun k1 hltk1=>?_
 obtain⟨s1,rfl⟩:∃ y,y=sk1:=⟨_,rfl⟩
 refine bdE hr fun y1 hy1 hr=>J g<|J (CB' [(0,1),(1,2)] [] (z9C (m:=m) hy1))<|bdE hr fun x1 hx1 hr=>J (IEd' (Int.natCast_nonneg _) (q3P hx1))<|J (SD' [.d .fz (.s y1.Symbol),.d .fz (.s y1.Name),.d .fz (.i .i64 y1.Target.Kind),.d .fz (.i .i64 y1.Target.N),.d .fz (.i .i64 y1.Target.Pos),.d .fz (.i .i64 y1.Target.Type_),.d .fz (.s y1.Target.Symbol),.d .fz (.s y1.Target.Name),.w 7 (y1.Target.Args.map Expr.D),.d .fz (.i .i64 y1.Value.Kind),.d .fz (.i .i64 y1.Value.N),.d .fz (.i .i64 y1.Value.Pos),.d .fz (.i .i64 y1.Value.Type_),.d .fz (.s y1.Value.Symbol),.d .fz (.s y1.Value.Name),.w 7 (y1.Value.Args.map Expr.D)] [1,2] (q3P hx1))<|J (gn 6) ?_
 cases hr
 exact GH.trans (q0k 0 (he:=eset (f:=Cn.W) (x':=y1) (by first|rfl|(simp only[List.set_set];rfl)))) (q0f hS 1)
 exact e
theorem k2e {m:Md}{a0:Rule}{r:Rule}(hr:z4M a0=some r):Ok Tryz.prog 63 [Rule.x m a0] [] (.ag [dS r.Name,dS r.Left,.ref 0 none,dB r.Literal,.ref 1 none,.ref 2 none]) [.row .fz 1 (r.Right.map A.D.s),.deep .fz 9 (r.Equations.map Eqn.W) [],.deep .fz 16 (r.Contributions.map Cn.W) []]:=by
 refine OE Tryz.func63 fun S hS=>?_
 unfold z4M at hr
 refine J g<|J (BX' 0)<|J (NV' 1)<|J g<|J (NV' 2)<|bdE hr fun y1 hy1 hr=>J g<|J (CB' [(0,3)] [] (j5X (m:=m) hy1))<|bdE hr fun y2 hy2 hr=>J g<|J (CB' [(0,4)] [] (j3h (m:=m) hy2))<|bdE hr fun y3 hy3 hr=>J g<|J (CB' [(0,5)] [] (z8E (m:=m) hy3))<|e
theorem j9r {m:Md}{a0:(List Rule)}{r:(List Rule)}(hr:z7A a0=some r):Ok Tryz.prog 30 [.d m (.sl 6 (a0.map Rule.D))] [] (.ref 0 none) [.deep .fz 6 (r.map Rule.W) []]:=by
 refine OE Tryz.func30 fun S hS=>?_
 unfold z7A at hr
 refine ggE hr fun g1 hr=>J g<|MKW 0 (f:=Rule.W) (⟨(⟨#[]⟩:ByteArray),(⟨#[]⟩:ByteArray),[],false,[],[]⟩:Rule) g1.1 g1.2.1 g1.2.2 ?_
 refine J (gn 8)<|J (lenT 0)<|fun hl1=>bdE hr fun s1 hqq1 hr=>q0c hqq1 hl1 1 (fun k1 s1=>[(0,.d m (.sl 6 (a0.map Rule.D))),(3,.ref 0 none),(4,dI (k1:Int))]) (fun k1 s1=>[(0,.deep .fz 6 (s1.map Rule.W) [])]) I (fun k1 xk1 sk1 ok1 hxk1 hr hltk1=>?_) fun k1 hltk1=>?_
 obtain⟨s1,rfl⟩:∃ y,y=sk1:=⟨_,rfl⟩
 refine bdE hr fun y1 hy1 hr=>J g<|J (CB' [(0,1),(1,2),(2,3)] [] (k2e (m:=m) hy1))<|bdE hr fun x1 hx1 hr=>J (IEd' (Int.natCast_nonneg _) (q3P hx1))<|J (SD' [.d .fz (.s y1.Name),.d .fz (.s y1.Left),.w 1 (y1.Right.map A.D.s),.d .fz (.b y1.Literal),.w 9 (y1.Equations.map Eqn.D),.w 16 (y1.Contributions.map Cn.D)] [1,2,3] (q3P hx1))<|J (gn 6) ?_
 cases hr
 exact GH.trans (q0k 0 (he:=eset (f:=Rule.W) (x':=y1) (by first|rfl|(simp only[List.set_set];rfl)))) (q0f hS 1)
 exact e
theorem q7u {m:Md}{a0:Gm_}{r:Gm_}(hr:q6b a0=some r):Ok Tryz.prog 8 [Gm_.x m a0] [] (.ag [.ref 0 none,.ref 1 none]) [.deep .fz 2 (r.Symbols.map Symbol.W) [],.deep .fz 6 (r.Rules.map Rule.W) []]:=by
 refine OE Tryz.func8 fun S hS=>?_
 unfold q6b at hr
 refine J g<|J (BX' 0)<|J (NV' 1)<|J g<|J (NV' 2)<|bdE hr fun y1 hy1 hr=>J g<|J (CB' [(0,3)] [] (j5W (m:=m) hy1))<|bdE hr fun y2 hy2 hr=>J g<|J (CB' [(0,4)] [] (j9r (m:=m) hy2))<|e
theorem k2f {m:Md}{a0:(List Int)}{r:(List Int)}(hr:z9e a0=some r):Ok Tryz.prog 31 [.d m (.sl 1 (a0.map (A.D.i .i64)))] [] (.ref 0 none) [.row .fz 1 (r.map (A.D.i .i64))]:=by
 refine OE Tryz.func31 fun S hS=>?_
 unfold z9e at hr
 refine ggE hr fun g1 hr=>J g<|J (MKR' 0 (f:=(A.D.i .i64)) (0:Int) g1.1 g1.2.1 g1.2.2)<|J (gn 8)<|J (lenT 0)<|fun hl1=>bdE hr fun s1 hqq1 hr=>q0c hqq1 hl1 1 (fun k1 s1=>[(0,.d m (.sl 1 (a0.map (A.D.i .i64)))),(3,.ref 0 none),(4,dI (k1:Int))]) (fun k1 s1=>[(0,.row .fz 1 (s1.map (A.D.i .i64)))]) I (fun k1 xk1 sk1 ok1 hxk1 hr hltk1=>?_) fun k1 hltk1=>?_
 obtain⟨s1,rfl⟩:∃ y,y=sk1:=⟨_,rfl⟩
 refine bdE hr fun x1 hx1 hr=>J g<|J (SE' xk1 hx1)<|e
 exact e
theorem z1Z {m:Md}{a0:Rl_}{r:Rl_}(hr:q7l a0=some r):Ok Tryz.prog 9 [Rl_.x m a0] [] (.ag [dI r.N,.ref 0 none]) [.row .fz 1 (r.Rows.map (A.D.i .i64))]:=by
 refine OE Tryz.func9 fun S hS=>?_
 unfold q7l at hr
 refine J g<|J (BX' 0)<|J (NV' 1)<|J g<|J (NV' 2)<|bdE hr fun y1 hy1 hr=>J g<|J (CB' [(0,3)] [] (k2f (m:=m) hy1))<|e
theorem j4E {m:Md}{a0:(List Int)}{a1:(List Int)}{r:Bool}(hr:z6O a0 a1=some r):Ok Tryz.prog 42 [.d m (.sl 1 (a0.map (A.D.i .i64))),.d m (.sl 1 (a1.map (A.D.i .i64)))] [] (dB r) []:=by
 refine OE Tryz.func42 fun S hS=>?_
 unfold z6O at hr
 refine J (gn 13)<|ifE hr ?_ ?_<;>intro h1 hr
 refine J (gn 8)<|J (lenT 0)<|fun hl1=>bdE hr fun q1 hqq1 hr=>q0b hqq1 hl1 0 (fun k1 _=>[(0,.d m (.sl 1 (a0.map (A.D.i .i64)))),(1,.d m (.sl 1 (a1.map (A.D.i .i64)))),(5,dI (k1:Int))]) (fun k1 _=>[]) I (fun k1 xk1 sk1 ok1 hxk1 hr hltk1 hik1=>?_) fun k1 sk1 ek1 hltk1=>?_
 refine bdE hr fun x1 hx1 hr=>J (gn 24)<|ifE hr ?_ ?_<;>intro h2 hr
 exact e
 exact e
 subst ek1
 exact e
 exact e
theorem k2g {m:Md}{a0:Node}{a1:Node}{r:Bool}(hr:z4Y a0 a1=some r):Ok Tryz.prog 76 [Node.x m a0,Node.x m a1] [] (dB r) []:=by
 refine OE Tryz.func76 fun S hS=>?_
 unfold z4Y at hr
 refine J g<|J (BX' 0)<|J (BX' 1)<|J (gn 11)<|ifE hr ?_ ?_<;>intro h1 hr
 refine J (gn 11)<|ifE hr ?_ ?_<;>intro h2 hr
 refine J (gn 11)<|ifE hr ?_ ?_<;>intro h3 hr
 refine J (gn 11)<|ifE hr ?_ ?_<;>intro h4 hr
 refine J (gn 11)<|ifE hr ?_ ?_<;>intro h5 hr
 refine bdE hr fun y1 hy1 hr=>J g<|J (CB' [] [] (j4E (m:=m) hy1))<|J (gn 2)<|ifE hr ?_ ?_<;>intro h6 hr
 exact e
 exact e
 exact e
 exact e
 exact e
 exact e
 exact e
theorem j9s {m:Md}{a0:(List Node)}{a1:(List Node)}{r:Bool}(hr:z7I a0 a1=some r):Ok Tryz.prog 39 [.d m (.sl 6 (a0.map Node.D)),.d m (.sl 6 (a1.map Node.D))] [] (dB r) []:=by
 refine OE Tryz.func39 fun S hS=>?_
 unfold z7I at hr
 refine J (gn 13)<|ifE hr ?_ ?_<;>intro h1 hr
 refine J (gn 8)<|J (lenT 0)<|fun hl1=>bdE hr fun q1 hqq1 hr=>q0b hqq1 hl1 0 (fun k1 _=>[(0,.d m (.sl 6 (a0.map Node.D))),(1,.d m (.sl 6 (a1.map Node.D))),(5,dI (k1:Int))]) (fun k1 _=>[]) I (fun k1 xk1 sk1 ok1 hxk1 hr hltk1 hik1=>?_) fun k1 sk1 ek1 hltk1=>?_
 refine bdE hr fun x1 hx1 hr=>bdE hr fun y1 hy1 hr=>J g<|J (CB' [] [] (k2g (m:=m) hy1))<|J (gn 2)<|ifE hr ?_ ?_<;>intro h2 hr
 exact e
 exact e
 subst ek1
 exact e
 exact e
theorem z3b {m:Md}{a0:Tree}{a1:Tree}{r:Bool}(hr:q9F a0 a1=some r):Ok Tryz.prog 11 [Tree.x m a0,Tree.x m a1] [] (dB r) []:=by
 refine OE Tryz.func11 fun S hS=>?_
 unfold q9F at hr
 refine J g<|J (BX' 0)<|J (BX' 1)<|bdE hr fun y1 hy1 hr=>J g<|J (CB' [] [] (j9s (m:=m) hy1))<|J (gn 2)<|ifE hr ?_ ?_<;>intro h1 hr
 exact e
 exact e
theorem j3i {a0:At_}{a1:At_}{r:Bool}(hr:q8p a0 a1=some r):Ok Tryz.prog 165 [At_.x .fz a0,At_.x .fz a1] [] (dB r) []:=by
 refine OE Tryz.func165 fun S hS=>?_
 unfold q8p at hr
 refine J g<|J (BX' 0)<|J (BX' 1)<|J (gn 11)<|ifE hr ?_ ?_<;>intro h1 hr
 refine J (gn 11)<|ifE hr ?_ ?_<;>intro h2 hr
 refine J (gn 11)<|ifE hr ?_ ?_<;>intro h3 hr
 refine J g ?_
 refine J (BQn' rfl rfl)<|J (gn 1)<|ifE hr ?_ ?_<;>intro h4 hr
 exact e
 exact e
 exact e
 exact e
 exact e
theorem j1A {m:Md}{a0:(List At_)}{a1:(List At_)}{r:Bool}(hr:z0V a0 a1=some r):Ok Tryz.prog 120 [.d m (.sl 4 (a0.map At_.D)),.d m (.sl 4 (a1.map At_.D))] [] (dB r) []:=by
 refine OE Tryz.func120 fun S hS=>?_
 unfold z0V at hr
 refine J (gn 13)<|ifE hr ?_ ?_<;>intro h1 hr
 refine J (gn 8)<|J (lenT 0)<|fun hl1=>bdE hr fun q1 hqq1 hr=>q0b hqq1 hl1 0 (fun k1 _=>[(0,.d m (.sl 4 (a0.map At_.D))),(1,.d m (.sl 4 (a1.map At_.D))),(5,dI (k1:Int))]) (fun k1 _=>[]) I (fun k1 xk1 sk1 ok1 hxk1 hr hltk1 hik1=>?_) fun k1 sk1 ek1 hltk1=>?_
 refine bdE hr fun x1 hx1 hr=>bdE hr fun y1 hy1 hr=>J g<|J (CB' [] [] (j3i hy1))<|J (gn 2)<|ifE hr ?_ ?_<;>intro h2 hr
 exact e
 exact e
 subst ek1
 exact e
 exact e
theorem j7F {m:Md}{a0:Symbol}{a1:Symbol}{r:Bool}(hr:z1v a0 a1=some r):Ok Tryz.prog 77 [Symbol.x m a0,Symbol.x m a1] [] (dB r) []:=by
 refine OE Tryz.func77 fun S hS=>?_
 unfold z1v at hr
 refine J g<|J (BX' 0)<|J (BX' 1)<|J (gn 11)<|ifE hr ?_ ?_<;>intro h1 hr
 refine bdE hr fun y1 hy1 hr=>J g<|J (CB' [] [] (j1A (m:=m) hy1))<|J (gn 2)<|ifE hr ?_ ?_<;>intro h2 hr
 exact e
 exact e
 exact e
theorem j5Y {m:Md}{a0:(List Symbol)}{a1:(List Symbol)}{r:Bool}(hr:z4c a0 a1=some r):Ok Tryz.prog 40 [.d m (.sl 2 (a0.map Symbol.D)),.d m (.sl 2 (a1.map Symbol.D))] [] (dB r) []:=by
 refine OE Tryz.func40 fun S hS=>?_
 unfold z4c at hr
 refine J (gn 13)<|ifE hr ?_ ?_<;>intro h1 hr
 refine J (gn 8)<|J (lenT 0)<|fun hl1=>bdE hr fun q1 hqq1 hr=>q0b hqq1 hl1 0 (fun k1 _=>[(0,.d m (.sl 2 (a0.map Symbol.D))),(1,.d m (.sl 2 (a1.map Symbol.D))),(5,dI (k1:Int))]) (fun k1 _=>[]) I (fun k1 xk1 sk1 ok1 hxk1 hr hltk1 hik1=>?_) fun k1 sk1 ek1 hltk1=>?_
 refine bdE hr fun x1 hx1 hr=>bdE hr fun y1 hy1 hr=>J g<|J (CB' [] [] (j7F (m:=m) hy1))<|J (gn 2)<|ifE hr ?_ ?_<;>intro h2 hr
 exact e
 exact e
 subst ek1
 exact e
 exact e
theorem j5Z {m:Md}{a0:(List ByteArray)}{a1:(List ByteArray)}{r:Bool}(hr:z4d a0 a1=some r):Ok Tryz.prog 121 [.d m (.sl 1 (a0.map A.D.s)),.d m (.sl 1 (a1.map A.D.s))] [] (dB r) []:=by
 refine OE Tryz.func121 fun S hS=>?_
 unfold z4d at hr
 refine J (gn 13)<|ifE hr ?_ ?_<;>intro h1 hr
 refine J (gn 8)<|J (lenT 0)<|fun hl1=>bdE hr fun q1 hqq1 hr=>q0b hqq1 hl1 0 (fun k1 _=>[(0,.d m (.sl 1 (a0.map A.D.s))),(1,.d m (.sl 1 (a1.map A.D.s))),(5,dI (k1:Int))]) (fun k1 _=>[]) I (fun k1 xk1 sk1 ok1 hxk1 hr hltk1 hik1=>?_) fun k1 sk1 ek1 hltk1=>?_
 refine bdE hr fun x1 hx1 hr=>J (gn 24)<|ifE hr ?_ ?_<;>intro h2 hr
 exact e
 exact e
 subst ek1
 exact e
 exact e
theorem j1B {a0:Oc}{a1:Oc}{r:Bool}(hr:q8R a0 a1=some r):Ok Tryz.prog 211 [Oc.x .fz a0,Oc.x .fz a1] [] (dB r) []:=by
 refine OE Tryz.func211 fun S hS=>?_
 unfold q8R at hr
 refine J g<|J (BX' 0)<|J (BX' 1)<|J (gn 11)<|ifE hr ?_ ?_<;>intro h1 hr
 refine J (gn 11)<|ifE hr ?_ ?_<;>intro h2 hr
 exact e
 exact e
 exact e
theorem j9t {Rc18:Expr→Expr→Option Bool}(Ic18:∀ {m:Md} {a0:Expr} {a1:Expr} {r:Bool},Rc18 a0 a1=some r→Ok Tryz.prog 212 [Expr.x m a0,Expr.x m a1] [] (dB r) []){m:Md}{a0:(List Expr)}{a1:(List Expr)}{r:Bool}(hr:z7J Rc18 a0 a1=some r):Ok Tryz.prog 241 [.d m (.sl 7 (a0.map Expr.D)),.d m (.sl 7 (a1.map Expr.D))] [] (dB r) []:=by
 refine OE Tryz.func241 fun S hS=>?_
 unfold z7J at hr
 refine J (gn 13)<|ifE hr ?_ ?_<;>intro h1 hr
 refine J (gn 8)<|J (lenT 0)<|fun hl1=>bdE hr fun q1 hqq1 hr=>q0b hqq1 hl1 0 (fun k1 _=>[(0,.d m (.sl 7 (a0.map Expr.D))),(1,.d m (.sl 7 (a1.map Expr.D))),(5,dI (k1:Int))]) (fun k1 _=>[]) I (fun k1 xk1 sk1 ok1 hxk1 hr hltk1 hik1=>?_) fun k1 sk1 ek1 hltk1=>?_
 refine bdE hr fun x1 hx1 hr=>bdE hr fun y1 hy1 hr=>J g<|J (CB' [] [] (Ic18 (m:=m) hy1))<|J (gn 2)<|ifE hr ?_ ?_<;>intro h2 hr
 exact e
 exact e
 subst ek1
 exact e
 exact e
theorem j9u {Rc18:Expr→Expr→Option Bool}(Ic18:∀ {m:Md} {a0:Expr} {a1:Expr} {r:Bool},Rc18 a0 a1=some r→Ok Tryz.prog 212 [Expr.x m a0,Expr.x m a1] [] (dB r) []){m:Md}{a0:Expr}{a1:Expr}{r:Bool}(hr:z6P Rc18 a0 a1=some r):Ok Tryz.prog 212 [Expr.x m a0,Expr.x m a1] [] (dB r) []:=by
 refine OE Tryz.func212 fun S hS=>?_
 unfold z6P at hr
 refine J g<|J (BX' 0)<|J (BX' 1)<|J (gn 11)<|ifE hr ?_ ?_<;>intro h1 hr
 refine J (gn 11)<|ifE hr ?_ ?_<;>intro h2 hr
 refine J (gn 11)<|ifE hr ?_ ?_<;>intro h3 hr
 refine J (gn 11)<|ifE hr ?_ ?_<;>intro h4 hr
 refine J (gn 11)<|ifE hr ?_ ?_<;>intro h5 hr
 refine J (gn 11)<|ifE hr ?_ ?_<;>intro h6 hr
 refine bdE hr fun y1 hy1 hr=>J g<|J (CB' [] [] (j9t Ic18 (m:=m) hy1))<|J (gn 2)<|ifE hr ?_ ?_<;>intro h7 hr
 exact e
 exact e
 exact e
 exact e
 exact e
 exact e
 exact e
 exact e
theorem j9v (n:Nat):∀ {m:Md} {a0:Expr} {a1:Expr} {r:Bool},z2j n a0 a1=some r→Ok Tryz.prog 212 [Expr.x m a0,Expr.x m a1] [] (dB r) []:=by
  induction n with
  | zero=>intro _ _ _ r hr;exact nomatch (show (none:Option Bool)=some r from hr)
  | succ n ih=>intro _ _ _ r hr;exact j9u ih hr
theorem j0n {m:Md}{a0:Expr}{a1:Expr}{r:Bool}(hr:z6Q a0 a1=some r):Ok Tryz.prog 212 [Expr.x m a0,Expr.x m a1] [] (dB r) []:=by
 obtain⟨n,hn⟩:=q5J hr
 exact j9v n hn
theorem j4e {m:Md}{a0:Eqn}{a1:Eqn}{r:Bool}(hr:q9i a0 a1=some r):Ok Tryz.prog 166 [Eqn.x m a0,Eqn.x m a1] [] (dB r) []:=by
 refine OE Tryz.func166 fun S hS=>?_
 unfold q9i at hr
 refine J g<|J (BX' 0)<|J (BX' 1)<|bdE hr fun y1 hy1 hr=>J g<|J (CB' [] [] (j1B hy1))<|J (gn 2)<|ifE hr ?_ ?_<;>intro h1 hr
 refine bdE hr fun y2 hy2 hr=>J g<|J (CB' [] [] (j0n (m:=m) hy2))<|J (gn 2)<|ifE hr ?_ ?_<;>intro h2 hr
 exact e
 exact e
 exact e
theorem j3j {m:Md}{a0:(List Eqn)}{a1:(List Eqn)}{r:Bool}(hr:z1X a0 a1=some r):Ok Tryz.prog 122 [.d m (.sl 9 (a0.map Eqn.D)),.d m (.sl 9 (a1.map Eqn.D))] [] (dB r) []:=by
 refine OE Tryz.func122 fun S hS=>?_
 unfold z1X at hr
 refine J (gn 13)<|ifE hr ?_ ?_<;>intro h1 hr
 refine J (gn 8)<|J (lenT 0)<|fun hl1=>bdE hr fun q1 hqq1 hr=>q0b hqq1 hl1 0 (fun k1 _=>[(0,.d m (.sl 9 (a0.map Eqn.D))),(1,.d m (.sl 9 (a1.map Eqn.D))),(5,dI (k1:Int))]) (fun k1 _=>[]) I (fun k1 xk1 sk1 ok1 hxk1 hr hltk1 hik1=>?_) fun k1 sk1 ek1 hltk1=>?_
 refine bdE hr fun x1 hx1 hr=>bdE hr fun y1 hy1 hr=>J g<|J (CB' [] [] (j4e (m:=m) hy1))<|J (gn 2)<|ifE hr ?_ ?_<;>intro h2 hr
 exact e
 exact e
 subst ek1
 exact e
 exact e
theorem z9D {m:Md}{a0:Cn}{a1:Cn}{r:Bool}(hr:q6H a0 a1=some r):Ok Tryz.prog 167 [Cn.x m a0,Cn.x m a1] [] (dB r) []:=by
 refine OE Tryz.func167 fun S hS=>?_
 unfold q6H at hr
 refine J g<|J (BX' 0)<|J (BX' 1)<|J (gn 11)<|ifE hr ?_ ?_<;>intro h1 hr
 refine J (gn 11)<|ifE hr ?_ ?_<;>intro h2 hr
 refine bdE hr fun y1 hy1 hr=>J g<|J (CB' [] [] (j0n (m:=m) hy1))<|J (gn 2)<|ifE hr ?_ ?_<;>intro h3 hr
 refine bdE hr fun y2 hy2 hr=>J g<|J (CB' [] [] (j0n (m:=m) hy2))<|J (gn 2)<|ifE hr ?_ ?_<;>intro h4 hr
 exact e
 exact e
 exact e
 exact e
 exact e
theorem z8F {m:Md}{a0:(List Cn)}{a1:(List Cn)}{r:Bool}(hr:q8D a0 a1=some r):Ok Tryz.prog 123 [.d m (.sl 16 (a0.map Cn.D)),.d m (.sl 16 (a1.map Cn.D))] [] (dB r) []:=by
 refine OE Tryz.func123 fun S hS=>?_
 unfold q8D at hr
 refine J (gn 13)<|ifE hr ?_ ?_<;>intro h1 hr
 refine J (gn 8)<|J (lenT 0)<|fun hl1=>bdE hr fun q1 hqq1 hr=>q0b hqq1 hl1 0 (fun k1 _=>[(0,.d m (.sl 16 (a0.map Cn.D))),(1,.d m (.sl 16 (a1.map Cn.D))),(5,dI (k1:Int))]) (fun k1 _=>[]) I (fun k1 xk1 sk1 ok1 hxk1 hr hltk1 hik1=>?_) fun k1 sk1 ek1 hltk1=>?_
 refine bdE hr fun x1 hx1 hr=>bdE hr fun y1 hy1 hr=>J g<|J (CB' [] [] (z9D (m:=m) hy1))<|J (gn 2)<|ifE hr ?_ ?_<;>intro h2 hr
 exact e
 exact e
 subst ek1
 exact e
 exact e
theorem k2h {m:Md}{a0:Rule}{a1:Rule}{r:Bool}(hr:z4Z a0 a1=some r):Ok Tryz.prog 78 [Rule.x m a0,Rule.x m a1] [] (dB r) []:=by
 refine OE Tryz.func78 fun S hS=>?_
 unfold z4Z at hr
 refine J g<|J (BX' 0)<|J (BX' 1)<|J (gn 11)<|ifE hr ?_ ?_<;>intro h1 hr
 refine J (gn 11)<|ifE hr ?_ ?_<;>intro h2 hr
 refine bdE hr fun y1 hy1 hr=>J g<|J (CB' [] [] (j5Z (m:=m) hy1))<|J (gn 2)<|ifE hr ?_ ?_<;>intro h3 hr
 refine J g ?_
 refine J (BQn' rfl rfl)<|J (gn 1)<|ifE hr ?_ ?_<;>intro h4 hr
 refine bdE hr fun y2 hy2 hr=>J g<|J (CB' [] [] (j3j (m:=m) hy2))<|J (gn 2)<|ifE hr ?_ ?_<;>intro h5 hr
 refine bdE hr fun y3 hy3 hr=>J g<|J (CB' [] [] (z8F (m:=m) hy3))<|J (gn 2)<|ifE hr ?_ ?_<;>intro h6 hr
 exact e
 exact e
 exact e
 exact e
 exact e
 exact e
 exact e
theorem j9w {m:Md}{a0:(List Rule)}{a1:(List Rule)}{r:Bool}(hr:z7K a0 a1=some r):Ok Tryz.prog 41 [.d m (.sl 6 (a0.map Rule.D)),.d m (.sl 6 (a1.map Rule.D))] [] (dB r) []:=by
 refine OE Tryz.func41 fun S hS=>?_
 unfold z7K at hr
 refine J (gn 13)<|ifE hr ?_ ?_<;>intro h1 hr
 refine J (gn 8)<|J (lenT 0)<|fun hl1=>bdE hr fun q1 hqq1 hr=>q0b hqq1 hl1 0 (fun k1 _=>[(0,.d m (.sl 6 (a0.map Rule.D))),(1,.d m (.sl 6 (a1.map Rule.D))),(5,dI (k1:Int))]) (fun k1 _=>[]) I (fun k1 xk1 sk1 ok1 hxk1 hr hltk1 hik1=>?_) fun k1 sk1 ek1 hltk1=>?_
 refine bdE hr fun x1 hx1 hr=>bdE hr fun y1 hy1 hr=>J g<|J (CB' [] [] (k2h (m:=m) hy1))<|J (gn 2)<|ifE hr ?_ ?_<;>intro h2 hr
 exact e
 exact e
 subst ek1
 exact e
 exact e
theorem z9E {m:Md}{a0:Gm_}{a1:Gm_}{r:Bool}(hr:z0e a0 a1=some r):Ok Tryz.prog 12 [Gm_.x m a0,Gm_.x m a1] [] (dB r) []:=by
 refine OE Tryz.func12 fun S hS=>?_
 unfold z0e at hr
 refine J g<|J (BX' 0)<|J (BX' 1)<|bdE hr fun y1 hy1 hr=>J g<|J (CB' [] [] (j5Y (m:=m) hy1))<|J (gn 2)<|ifE hr ?_ ?_<;>intro h1 hr
 refine bdE hr fun y2 hy2 hr=>J g<|J (CB' [] [] (j9w (m:=m) hy2))<|J (gn 2)<|ifE hr ?_ ?_<;>intro h2 hr
 exact e
 exact e
 exact e
theorem j4f {m:Md}{a0:Rl_}{a1:Rl_}{r:Bool}(hr:z0W a0 a1=some r):Ok Tryz.prog 13 [Rl_.x m a0,Rl_.x m a1] [] (dB r) []:=by
 refine OE Tryz.func13 fun S hS=>?_
 unfold z0W at hr
 refine J g<|J (BX' 0)<|J (BX' 1)<|J (gn 11)<|ifE hr ?_ ?_<;>intro h1 hr
 refine bdE hr fun y1 hy1 hr=>J g<|J (CB' [] [] (j4E (m:=m) hy1))<|J (gn 2)<|ifE hr ?_ ?_<;>intro h2 hr
 exact e
 exact e
 exact e
theorem q4S {a0:Int}{r:ByteArray}(hr:q4t a0=some r):Ok Tryz.prog 79 [dI a0] [] (dS r) []:=by
 refine OE Tryz.func79 fun S hS=>?_
 unfold q4t at hr
 refine J (gn 10)<|ifE hr ?_ ?_<;>intro h1 hr
 exact e
 refine bdE hr fun s1 hqq1 hr=>J (gn 7)<|q0e 0 [(3,dS s1)] [] ?_ ?_
 refine J g<|q0h hqq1 0 (fun (s2,s3)=>[(0,dI s2),(3,dS s3)]) (fun (s2,s3)=>[]) I fun sk1 ok1 hr hik1=>?_
 obtain⟨s2,s3⟩:=sk1
 have hr:=hr
 refine J (gn 6)<|ifE hr ?_ ?_<;>intro h2 hr
 refine J g<|J (OB' _ (bRem (b:=10) (by decide)))<|ggE hr fun g1 hr=>J g ?_
 refine J (CIB' rfl)<|J (LIR' 0 (m:=.fz) (f:=byD) (xs:=([(UInt8.ofNat ((48+(s2.tmod 10)) % 256).toNat)]:List UInt8))) ?_
 refine J (TS' rfl rfl)<|ggE hr fun g2 hr=>J g<|J (OB' _ (k9D g2))<|ggE hr fun g3 hr=>J g<|J (OB' _ (bQuo (b:=10) (by decide) g3))<|J g<|E
 refine J (gn 2) ?_
 cases hr
 cases hik1 _ rfl
 exact q0f hS 0
 refine ggE hr fun g4 hr=>J g<|J (OB' _ (k9D g4))<|e
theorem z9F {a0:(List At_)}{a1:Int}{r:(Int×(List At_))}(hr:q9j a0 a1=some r):Ok Tryz.prog 80 [.ref 0 none,dI a1] [.row .fz 4 (a0.map At_.D)] (dI r.1) [.row .fz 4 (r.2.map At_.D)]:=by
 refine OE Tryz.func80 fun S hS=>?_
 unfold q9j at hr
 refine bdP hr fun s1 s2 hqq1 hr=>J (gn 9)<|q0e 1 [(1,dI s1)] [(0,.row .fz 4 (s2.map At_.D))] ?_ ?_
 refine J g<|q0h hqq1 1 (fun (s3,s4,s5)=>[(0,.ref 0 none),(1,dI s3),(5,dI s4)]) (fun (s3,s4,s5)=>[(0,.row .fz 4 (s5.map At_.D))]) I fun sk1 ok1 hr hik1=>?_
 obtain⟨s3,s4,s5⟩:=sk1
 have hr:=hr
 refine J (gn 8)<|ifE hr ?_ ?_<;>intro h1 hr
 refine bdE hr fun y1 hy1 hr=>J g<|J (CB' [] [] (q4S hy1))<|ggE hr fun g1 hr=>bdE hr fun x1 hx1 hr=>J g<|J (SE' (⟨y1,x1.Type_,x1.Mode,x1.Circular⟩:At_) hx1)<|ggE hr fun g2 hr=>ggE hr fun g3 hr=>bdE hr fun x2 hx2 hr=>J g<|J (SE' (⟨x2.Name,(s3+1),x2.Mode,x2.Circular⟩:At_) hx2)<|ggE hr fun g4 hr=>ggE hr fun g5 hr=>bdE hr fun x3 hx3 hr=>J g<|J (SE' (⟨x3.Name,x3.Type_,((s3+1)+1),x3.Circular⟩:At_) hx3)<|ggE hr fun g6 hr=>J g<|J (OB' _ (bRem (b:=3) (by decide)))<|ggE hr fun g7 hr=>bdE hr fun x4 hx4 hr=>J g<|J (SE' (⟨x4.Name,x4.Type_,x4.Mode,decide (((((s3+1)+1)+1).tmod 3)=0)⟩:At_) hx4)<|ggE hr fun g8 hr=>ggE hr fun g9 hr=>?_
 exact e
 refine J (gn 2) ?_
 cases hr
 cases hik1 _ rfl
 exact q0f hS 1
 exact e
theorem j3k {a0:(List Symbol)}{a1:Int}{r:(Int×(List Symbol))}(hr:z1Y a0 a1=some r):Ok Tryz.prog 43 [.ref 0 none,dI a1] [.deep .fz 2 (a0.map Symbol.W) []] (dI r.1) [.deep .fz 2 (r.2.map Symbol.W) []]:=by
 refine OE Tryz.func43 fun S hS=>?_
 unfold z1Y at hr
 refine bdP hr fun s1 s2 hqq1 hr=>J (gn 9)<|q0e 1 [(1,dI s1)] [(0,.deep .fz 2 (s2.map Symbol.W) [])] ?_ ?_
 refine J g<|q0h hqq1 1 (fun (s3,s4,s5)=>[(0,.ref 0 none),(1,dI s3),(5,dI s4)]) (fun (s3,s4,s5)=>[(0,.deep .fz 2 (s5.map Symbol.W) [])]) I fun sk1 ok1 hr hik1=>?_
 obtain⟨s3,s4,s5⟩:=sk1
 have hr:=hr
 refine J g<|J (LEd' s5.length)<|J (gn 2)<|ifE hr ?_ ?_<;>intro h1 hr
 refine bdE hr fun y1 hy1 hr=>J g<|J (CB' [] [] (q4S hy1))<|ggE hr fun g1 hr=>bdE hr fun x1 hx1 hr=>J (IEd' g1 (q3P hx1))<|J g<|J (SD' [.d .fz (.s y1)] [] (q3P hx1))<|ggE hr fun g2 hr=>J g<|J (IEd' g1 (q3O (q3P hx1)))<|J (gn 1)<|J (q0o 0 s4.toNat 1 1 (q3O (q3P hx1)))<|J (LPd' [(1,1)] (q3O (q3O (q3P hx1))))<|bdP hr fun y2 z1 hq2 hr=>J g<|J (CB' [(0,1)] [] (z9F hq2))<|ggE hr fun g3 hr=>J (gn 7) ?_
 cases hr
 exact⟨_,rfl,GH.trans (q0m 0 s4.toNat 1 1 (q3O (q3O (q3P hx1))) (hx:=.flatM (fun _=>rfl))) (GH.trans (q0k 0 (he:=eset (f:=Symbol.W) (x':=(⟨y1,z1⟩:Symbol)) (by first|rfl|(simp only[List.set_set];rfl)))) (q0f hS 1))⟩
 refine J (gn 2) ?_
 cases hr
 cases hik1 _ rfl
 exact q0f hS 1
 exact e
theorem j3l {a0:(List ByteArray)}{a1:Int}{r:(Int×(List ByteArray))}(hr:q9G a0 a1=some r):Ok Tryz.prog 81 [.ref 0 none,dI a1] [.row .fz 1 (a0.map A.D.s)] (dI r.1) [.row .fz 1 (r.2.map A.D.s)]:=by
 refine OE Tryz.func81 fun S hS=>?_
 unfold q9G at hr
 refine bdP hr fun s1 s2 hqq1 hr=>J (gn 9)<|q0e 1 [(1,dI s1)] [(0,.row .fz 1 (s2.map A.D.s))] ?_ ?_
 refine J g<|q0h hqq1 1 (fun (s3,s4,s5)=>[(0,.ref 0 none),(1,dI s3),(5,dI s4)]) (fun (s3,s4,s5)=>[(0,.row .fz 1 (s5.map A.D.s))]) I fun sk1 ok1 hr hik1=>?_
 obtain⟨s3,s4,s5⟩:=sk1
 have hr:=hr
 refine J (gn 8)<|ifE hr ?_ ?_<;>intro h1 hr
 refine bdE hr fun y1 hy1 hr=>J g<|J (CB' [] [] (q4S hy1))<|ggE hr fun g1 hr=>bdE hr fun x1 hx1 hr=>J g<|J (SE' y1 hx1)<|ggE hr fun g2 hr=>ggE hr fun g3 hr=>e
 refine J (gn 2) ?_
 cases hr
 cases hik1 _ rfl
 exact q0f hS 1
 exact e
theorem j4g {Rc19:(List Expr)→Int→Option (Int×(List Expr))}(Ic19:∀ {a0:(List Expr)} {a1:Int} {r:(Int×(List Expr))},Rc19 a0 a1=some r→Ok Tryz.prog 124 [.ref 0 none,dI a1] [.deep .fz 7 (a0.map Expr.W) []] (dI r.1) [.deep .fz 7 (r.2.map Expr.W) []]){a0:(List Expr)}{a1:Int}{r:(Int×(List Expr))}(hr:z2k Rc19 a0 a1=some r):Ok Tryz.prog 124 [.ref 0 none,dI a1] [.deep .fz 7 (a0.map Expr.W) []] (dI r.1) [.deep .fz 7 (r.2.map Expr.W) []]:=by
 refine OE Tryz.func124 fun S hS=>?_
 unfold z2k at hr
 refine bdP hr fun s1 s2 hqq1 hr=>J (gn 9)<|q0e 1 [(1,dI s1)] [(0,.deep .fz 7 (s2.map Expr.W) [])] ?_ ?_
 refine J g<|q0h hqq1 1 (fun (s3,s4,s5)=>[(0,.ref 0 none),(1,dI s3),(5,dI s4)]) (fun (s3,s4,s5)=>[(0,.deep .fz 7 (s5.map Expr.W) [])]) I fun sk1 ok1 hr hik1=>?_
 obtain⟨s3,s4,s5⟩:=sk1
 have hr:=hr
 refine J g<|J (LEd' s5.length)<|J (gn 2)<|ifE hr ?_ ?_<;>intro h1 hr
 refine ggE hr fun g1 hr=>bdE hr fun x1 hx1 hr=>J g<|J (IEd' g1 (q3P hx1))<|J g<|J (SD' [.d .fz (.i .i64 s3)] [] (q3P hx1))<|ggE hr fun g2 hr=>J g<|J (IEd' g1 (q3O (q3P hx1)))<|J g<|J (SD' [.d .fz (.i .i64 (s3+1))] [] (q3O (q3P hx1)))<|ggE hr fun g3 hr=>J g<|J (IEd' g1 (q3O (q3O (q3P hx1))))<|J g<|J (SD' [.d .fz (.i .i64 ((s3+1)+1))] [] (q3O (q3O (q3P hx1))))<|ggE hr fun g4 hr=>J g<|J (IEd' g1 (q3O (q3O (q3O (q3P hx1)))))<|J g<|J (SD' [.d .fz (.i .i64 (((s3+1)+1)+1))] [] (q3O (q3O (q3O (q3P hx1)))))<|ggE hr fun g5 hr=>bdE hr fun y1 hy1 hr=>J g<|J (CB' [] [] (q4S hy1))<|J (IEd' g1 (q3O (q3O (q3O (q3O (q3P hx1)))))) ?_
 refine J g<|J (SD' [.d .fz (.s y1)] [] (q3O (q3O (q3O (q3O (q3P hx1))))))<|ggE hr fun g6 hr=>bdE hr fun y2 hy2 hr=>J g<|J (CB' [] [] (q4S hy2))<|J (IEd' g1 (q3O (q3O (q3O (q3O (q3O (q3P hx1)))))))<|J g<|J (SD' [.d .fz (.s y2)] [] (q3O (q3O (q3O (q3O (q3O (q3P hx1)))))))<|ggE hr fun g7 hr=>J g<|J (IEd' g1 (q3O (q3O (q3O (q3O (q3O (q3O (q3P hx1))))))))<|J (gn 1)<|J (q0o 0 s4.toNat 6 1 (q3O (q3O (q3O (q3O (q3O (q3O (q3P hx1))))))))<|J (LPd' [(6,1)] (q3O (q3O (q3O (q3O (q3O (q3O (q3O (q3P hx1)))))))))<|bdP hr fun y3 z1 hq2 hr=>J g<|J (CB' [(0,1)] [] (Ic19 hq2))<|ggE hr fun g8 hr=>J (gn 7) ?_
 cases hr
 exact⟨_,rfl,GH.trans (q0m 0 s4.toNat 6 1 (q3O (q3O (q3O (q3O (q3O (q3O (q3O (q3P hx1)))))))) (hx:=.ownM (f:=Expr.D))) (GH.trans (q0k 0 (he:=eset (f:=Expr.W) (x':=(⟨s3,(s3+1),((s3+1)+1),(((s3+1)+1)+1),y1,y2,z1⟩:Expr)) (by first|rfl|(simp only[List.set_set];rfl)))) (q0f hS 1))⟩
 refine J (gn 2) ?_
 cases hr
 cases hik1 _ rfl
 exact q0f hS 1
 exact e
theorem j4h (n:Nat):∀ {a0:(List Expr)} {a1:Int} {r:(Int×(List Expr))},z2l n a0 a1=some r→Ok Tryz.prog 124 [.ref 0 none,dI a1] [.deep .fz 7 (a0.map Expr.W) []] (dI r.1) [.deep .fz 7 (r.2.map Expr.W) []]:=by
  induction n with
  | zero=>intro _ _ r hr;exact nomatch (show (none:Option (Int×(List Expr)))=some r from hr)
  | succ n ih=>intro _ _ r hr;exact j4g ih hr
theorem z5J {a0:(List Expr)}{a1:Int}{r:(Int×(List Expr))}(hr:z2m a0 a1=some r):Ok Tryz.prog 124 [.ref 0 none,dI a1] [.deep .fz 7 (a0.map Expr.W) []] (dI r.1) [.deep .fz 7 (r.2.map Expr.W) []]:=by
 obtain⟨n,hn⟩:=q5J hr
 exact j4h n hn
theorem j0o {a0:(List Eqn)}{a1:Int}{r:(Int×(List Eqn))}(hr:q9K a0 a1=some r):Ok Tryz.prog 82 [.ref 0 none,dI a1] [.deep .fz 9 (a0.map Eqn.W) []] (dI r.1) [.deep .fz 9 (r.2.map Eqn.W) []]:=by
 refine OE Tryz.func82 fun S hS=>?_
 unfold q9K at hr
 refine bdP hr fun s1 s2 hqq1 hr=>J (gn 9)<|q0e 1 [(1,dI s1)] [(0,.deep .fz 9 (s2.map Eqn.W) [])] ?_ ?_
 refine J g<|q0h hqq1 1 (fun (s3,s4,s5)=>[(0,.ref 0 none),(1,dI s3),(5,dI s4)]) (fun (s3,s4,s5)=>[(0,.deep .fz 9 (s5.map Eqn.W) [])]) I fun sk1 ok1 hr hik1=>?_
 obtain⟨s3,s4,s5⟩:=sk1
 have hr:=hr
 refine J g<|J (LEd' s5.length)<|J (gn 2)<|ifE hr ?_ ?_<;>intro h1 hr
 refine ggE hr fun g1 hr=>bdE hr fun x1 hx1 hr=>J g<|J (IEd' g1 (q3P hx1))<|J g<|J (SD' [.d .fz (.i .i64 s3)] [] (q3P hx1))<|ggE hr fun g2 hr=>bdE hr fun y1 hy1 hr=>J g<|J (CB' [] [] (q4S hy1))<|J (IEd' g1 (q3O (q3P hx1)))<|J g<|J (SD' [.d .fz (.s y1)] [] (q3O (q3P hx1)))<|ggE hr fun g3 hr=>J g<|J (IEd' g1 (q3O (q3O (q3P hx1))))<|J g<|J (SD' [.d .fz (.i .i64 ((s3+1)+1))] [] (q3O (q3O (q3P hx1)))) ?_
 refine q0r 0 rfl (he:=enr3 (c:=[Cell.d Md.fz (.i .i64 s3),Cell.d Md.fz (.s y1),Cell.d Md.fz (.i .i64 ((s3+1)+1)),Cell.d Md.fz (.i .i64 x1.Expr.N),Cell.d Md.fz (.i .i64 x1.Expr.Pos),Cell.d Md.fz (.i .i64 x1.Expr.Type_),Cell.d Md.fz (.s x1.Expr.Symbol),Cell.d Md.fz (.s x1.Expr.Name),.w 7 (x1.Expr.Args.map Expr.D)]) rfl) ?_
 refine ggE hr fun g4 hr=>J g<|J (IEd' g1 (q3O (q3P hx1)))<|J g<|J (SD' [.d .fz (.i .i64 (((s3+1)+1)+1))] [] (q3O (q3P hx1)))<|ggE hr fun g5 hr=>J g<|J (IEd' g1 (q3O (q3O (q3P hx1))))<|J g<|J (SD' [.d .fz (.i .i64 ((((s3+1)+1)+1)+1))] [] (q3O (q3O (q3P hx1)))) ?_
 refine q0r 0 rfl (he:=enr3 (c:=[Cell.d Md.fz (.i .i64 s3),Cell.d Md.fz (.s y1),Cell.d Md.fz (.i .i64 ((s3+1)+1)),Cell.d Md.fz (.i .i64 (((s3+1)+1)+1)),Cell.d Md.fz (.i .i64 ((((s3+1)+1)+1)+1)),Cell.d Md.fz (.i .i64 x1.Expr.Type_),Cell.d Md.fz (.s x1.Expr.Symbol),Cell.d Md.fz (.s x1.Expr.Name),.w 7 (x1.Expr.Args.map Expr.D)]) rfl) ?_
 refine ggE hr fun g6 hr=>J g<|J (IEd' g1 (q3O (q3P hx1)))<|J g<|J (SD' [.d .fz (.i .i64 (((((s3+1)+1)+1)+1)+1))] [] (q3O (q3P hx1)))<|ggE hr fun g7 hr=>bdE hr fun y2 hy2 hr=>J g<|J (CB' [] [] (q4S hy2))<|J (IEd' g1 (q3O (q3O (q3P hx1))))<|J g<|J (SD' [.d .fz (.s y2)] [] (q3O (q3O (q3P hx1)))) ?_
 refine q0r 0 rfl (he:=enr3 (c:=[Cell.d Md.fz (.i .i64 s3),Cell.d Md.fz (.s y1),Cell.d Md.fz (.i .i64 ((s3+1)+1)),Cell.d Md.fz (.i .i64 (((s3+1)+1)+1)),Cell.d Md.fz (.i .i64 ((((s3+1)+1)+1)+1)),Cell.d Md.fz (.i .i64 (((((s3+1)+1)+1)+1)+1)),Cell.d Md.fz (.s y2),Cell.d Md.fz (.s x1.Expr.Name),.w 7 (x1.Expr.Args.map Expr.D)]) rfl) ?_
 refine ggE hr fun g8 hr=>bdE hr fun y3 hy3 hr=>J g<|J (CB' [] [] (q4S hy3))<|J (IEd' g1 (q3O (q3P hx1)))<|J g<|J (SD' [.d .fz (.s y3)] [] (q3O (q3P hx1)))<|ggE hr fun g9 hr=>J g<|J (IEd' g1 (q3O (q3O (q3P hx1))))<|J (gn 2)<|J (q0o 0 s4.toNat 8 1 (q3O (q3O (q3P hx1)))) ?_
 refine q0r 0 rfl (he:=enr3 (c:=[Cell.d Md.fz (.i .i64 s3),Cell.d Md.fz (.s y1),Cell.d Md.fz (.i .i64 ((s3+1)+1)),Cell.d Md.fz (.i .i64 (((s3+1)+1)+1)),Cell.d Md.fz (.i .i64 ((((s3+1)+1)+1)+1)),Cell.d Md.fz (.i .i64 (((((s3+1)+1)+1)+1)+1)),Cell.d Md.fz (.s y2),Cell.d Md.fz (.s y3),.u]) rfl) ?_
 refine J (LPd' [(8,1)] (q3O (q3P hx1)))<|bdP hr fun y4 z1 hq2 hr=>J g<|J (CB' [(0,1)] [] (z5J hq2))<|ggE hr fun g10 hr=>J (gn 7) ?_
 cases hr
 exact⟨_,rfl,GH.trans (q0m 0 s4.toNat 8 1 (q3O (q3P hx1)) (hx:=.ownM (f:=Expr.D))) (GH.trans (q0k 0 (he:=eset (f:=Eqn.W) (x':=(⟨(⟨s3,y1⟩:Oc),(⟨((s3+1)+1),(((s3+1)+1)+1),((((s3+1)+1)+1)+1),(((((s3+1)+1)+1)+1)+1),y2,y3,z1⟩:Expr)⟩:Eqn)) (by first|rfl|(simp only[List.set_set];rfl)))) (q0f hS 1))⟩
 refine J (gn 2) ?_
 cases hr
 cases hik1 _ rfl
 exact q0f hS 1
 exact e
end Go.Proofs.YtipikecbeganoaaGreat
