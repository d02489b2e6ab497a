/- What some functions of the program compute, as partial functions on plain data, and that they do; each lemma bears its conditions in its statement. -/
import Derived.Test.YtaholdflpgcndaaGreatLane0a
import Derived.Test.YtaholdflpgcndaaGreatLane1a
set_option linter.unusedVariables false
set_option linter.unusedSimpArgs false
set_option linter.ambiguousOpen false
set_option linter.unusedSectionVars false
set_option linter.unnecessarySimpa false
set_option maxRecDepth 100000
set_option maxHeartbeats 40000000
noncomputable section
namespace Go.Proofs.YtaholdflpgcndaaGreat
open Go Go.E Go.A
theorem z5c {a0:Attribute}{a1:Int}{r:Int}(hr:q7i a0 a1=some r):Ok Tryz.prog 150 [Attribute.x .fz a0,dI a1] [] (dI r) []:=by
 refine OE Tryz.func150 fun S hS=>?_
 unfold q7i at hr
 refine J g<|J (BX' 0)<|J g<|J LS'<|ggE hr fun g1 hr=>J (gn 9)<|ifE hr ?_ ?_<;>intro h1 hr
 exact e
 exact e
theorem z3Q {m:Md}{a0:(List Attribute)}{a1:Int}{r:Int}(hr:q6w a0 a1=some r):Ok Tryz.prog 105 [.d m (.sl 4 (a0.map Attribute.D)),dI a1] [] (dI r) []:=by
 refine OE Tryz.func105 fun S hS=>?_
 unfold q6w at hr
 refine ggE hr fun g1 hr=>J (gn 18)<|ifE hr ?_ ?_<;>intro h1 hr
 exact e
 refine J (gn 8)<|J (lenT 0)<|fun hl1=>bdE hr fun q1 hqq1 hr=>q0b hqq1 hl1 0 (fun k1 s1=>[(0,.d m (.sl 4 (a0.map Attribute.D))),(1,dI s1),(5,dI (k1:Int))]) (fun k1 s1=>[]) I (fun k1 xk1 sk1 ok1 hxk1 hr hltk1 hik1=>?_) fun k1 sk1 ek1 hltk1=>?_
 obtain⟨s1,rfl⟩:∃ y,y=sk1:=⟨_,rfl⟩
 refine bdE hr fun y1 hy1 hr=>J g<|J (CB' [] [] (z5c hy1))<|J (gn 7)<|ifE hr ?_ ?_<;>intro h2 hr
 exact e
 exact e
 subst ek1
 obtain⟨s1,rfl⟩:∃ y,y=sk1:=⟨_,rfl⟩
 exact e
theorem z8r {m:Md}{a0:Symbol}{a1:Int}{r:Int}(hr:q9R a0 a1=some r):Ok Tryz.prog 60 [Symbol.x m a0,dI a1] [] (dI r) []:=by
 refine OE Tryz.func60 fun S hS=>?_
 unfold q9R at hr
 refine J g<|J (BX' 0)<|J g<|J LS'<|ggE hr fun g1 hr=>J (gn 9)<|ifE hr ?_ ?_<;>intro h1 hr
 exact e
 refine bdE hr fun y1 hy1 hr=>J g<|J (CB' [] [] (z3Q (m:=m) hy1))<|J (gn 8)<|ifE hr ?_ ?_<;>intro h2 hr
 exact e
 exact e
theorem z7b {m:Md}{a0:(List Symbol)}{a1:Int}{r:Int}(hr:q8N a0 a1=some r):Ok Tryz.prog 26 [.d m (.sl 2 (a0.map Symbol.D)),dI a1] [] (dI r) []:=by
 refine OE Tryz.func26 fun S hS=>?_
 unfold q8N at hr
 refine ggE hr fun g1 hr=>J (gn 18)<|ifE hr ?_ ?_<;>intro h1 hr
 exact e
 refine J (gn 8)<|J (lenT 0)<|fun hl1=>bdE hr fun q1 hqq1 hr=>q0b hqq1 hl1 0 (fun k1 s1=>[(0,.d m (.sl 2 (a0.map Symbol.D))),(1,dI s1),(5,dI (k1:Int))]) (fun k1 s1=>[]) I (fun k1 xk1 sk1 ok1 hxk1 hr hltk1 hik1=>?_) fun k1 sk1 ek1 hltk1=>?_
 obtain⟨s1,rfl⟩:∃ y,y=sk1:=⟨_,rfl⟩
 refine bdE hr fun y1 hy1 hr=>J g<|J (CB' [] [] (z8r (m:=m) hy1))<|J (gn 7)<|ifE hr ?_ ?_<;>intro h2 hr
 exact e
 exact e
 subst ek1
 obtain⟨s1,rfl⟩:∃ y,y=sk1:=⟨_,rfl⟩
 exact e
theorem z7c {m:Md}{a0:(List ByteArray)}{a1:Int}{r:Int}(hr:q8O a0 a1=some r):Ok Tryz.prog 106 [.d m (.sl 1 (a0.map A.D.s)),dI a1] [] (dI r) []:=by
 refine OE Tryz.func106 fun S hS=>?_
 unfold q8O at hr
 refine ggE hr fun g1 hr=>J (gn 18)<|ifE hr ?_ ?_<;>intro h1 hr
 exact e
 refine J (gn 8)<|J (lenT 0)<|fun hl1=>bdE hr fun q1 hqq1 hr=>q0b hqq1 hl1 0 (fun k1 s1=>[(0,.d m (.sl 1 (a0.map A.D.s))),(1,dI s1),(5,dI (k1:Int))]) (fun k1 s1=>[]) I (fun k1 xk1 sk1 ok1 hxk1 hr hltk1 hik1=>?_) fun k1 sk1 ek1 hltk1=>?_
 obtain⟨s1,rfl⟩:∃ y,y=sk1:=⟨_,rfl⟩
 refine J g<|J LS'<|ggE hr fun g2 hr=>J (gn 8)<|ifE hr ?_ ?_<;>intro h2 hr
 exact e
 exact e
 subst ek1
 obtain⟨s1,rfl⟩:∃ y,y=sk1:=⟨_,rfl⟩
 exact e
theorem z3R {a0:Occurrence}{a1:Int}{r:Int}(hr:q6x a0 a1=some r):Ok Tryz.prog 188 [Occurrence.x .fz a0,dI a1] [] (dI r) []:=by
 refine OE Tryz.func188 fun S hS=>?_
 unfold q6x at hr
 refine J g<|J (BX' 0)<|J g<|J LS'<|ggE hr fun g1 hr=>J (gn 9)<|ifE hr ?_ ?_<;>intro h1 hr
 exact e
 exact e
theorem z9F {rec_wszExpr:Expr→Int→Option Int}(ih_wszExpr:∀ {m:Md} {a0:Expr} {a1:Int} {r:Int},rec_wszExpr a0 a1=some r→Ok Tryz.prog 189 [Expr.x m a0,dI a1] [] (dI r) []){m:Md}{a0:(List Expr)}{a1:Int}{r:Int}(hr:z2M rec_wszExpr a0 a1=some r):Ok Tryz.prog 206 [.d m (.sl 7 (a0.map Expr.D)),dI a1] [] (dI r) []:=by
 refine OE Tryz.func206 fun S hS=>?_
 unfold z2M at hr
 refine ggE hr fun g1 hr=>J (gn 18)<|ifE hr ?_ ?_<;>intro h1 hr
 exact e
 refine J (gn 8)<|J (lenT 0)<|fun hl1=>bdE hr fun q1 hqq1 hr=>q0b hqq1 hl1 0 (fun k1 s1=>[(0,.d m (.sl 7 (a0.map Expr.D))),(1,dI s1),(5,dI (k1:Int))]) (fun k1 s1=>[]) I (fun k1 xk1 sk1 ok1 hxk1 hr hltk1 hik1=>?_) fun k1 sk1 ek1 hltk1=>?_
 obtain⟨s1,rfl⟩:∃ y,y=sk1:=⟨_,rfl⟩
 refine bdE hr fun y1 hy1 hr=>J g<|J (CB' [] [] (ih_wszExpr (m:=m) hy1))<|J (gn 7)<|ifE hr ?_ ?_<;>intro h2 hr
 exact e
 exact e
 subst ek1
 obtain⟨s1,rfl⟩:∃ y,y=sk1:=⟨_,rfl⟩
 exact e
theorem z9G {rec_wszExpr:Expr→Int→Option Int}(ih_wszExpr:∀ {m:Md} {a0:Expr} {a1:Int} {r:Int},rec_wszExpr a0 a1=some r→Ok Tryz.prog 189 [Expr.x m a0,dI a1] [] (dI r) []){m:Md}{a0:Expr}{a1:Int}{r:Int}(hr:z0r rec_wszExpr a0 a1=some r):Ok Tryz.prog 189 [Expr.x m a0,dI a1] [] (dI r) []:=by
 refine OE Tryz.func189 fun S hS=>?_
 unfold z0r at hr
 refine J g<|J (BX' 0)<|J g<|J LS'<|ggE hr fun g1 hr=>J (gn 9)<|ifE hr ?_ ?_<;>intro h1 hr
 exact e
 refine J g<|J LS'<|ggE hr fun g2 hr=>J (gn 9)<|ifE hr ?_ ?_<;>intro h2 hr
 exact e
 refine bdE hr fun y1 hy1 hr=>J g<|J (CB' [] [] (z9F ih_wszExpr (m:=m) hy1))<|J (gn 8)<|ifE hr ?_ ?_<;>intro h3 hr
 exact e
 exact e
theorem z9H (n:Nat):∀ {m:Md} {a0:Expr} {a1:Int} {r:Int},q9v n a0 a1=some r→Ok Tryz.prog 189 [Expr.x m a0,dI a1] [] (dI r) []:=by
  induction n with
  | zero=>intro _ _ _ r hr; exact nomatch (show (none:Option Int)=some r from hr)
  | succ n ih=>intro _ _ _ r hr; exact z9G ih hr
theorem z2Z {m:Md}{a0:Expr}{a1:Int}{r:Int}(hr:z0s a0 a1=some r):Ok Tryz.prog 189 [Expr.x m a0,dI a1] [] (dI r) []:=by
 obtain⟨n,hn⟩:=q4j hr
 exact z9H n hn
theorem z5N {m:Md}{a0:Equation}{a1:Int}{r:Int}(hr:q7P a0 a1=some r):Ok Tryz.prog 151 [Equation.x m a0,dI a1] [] (dI r) []:=by
 refine OE Tryz.func151 fun S hS=>?_
 unfold q7P at hr
 refine J g<|J (BX' 0)<|bdE hr fun y1 hy1 hr=>J g<|J (CB' [] [] (z3R hy1))<|J (gn 8)<|ifE hr ?_ ?_<;>intro h1 hr
 exact e
 refine bdE hr fun y2 hy2 hr=>J g<|J (CB' [] [] (z2Z (m:=m) hy2))<|J (gn 8)<|ifE hr ?_ ?_<;>intro h2 hr
 exact e
 exact e
theorem z5d {m:Md}{a0:(List Equation)}{a1:Int}{r:Int}(hr:q7j a0 a1=some r):Ok Tryz.prog 107 [.d m (.sl 9 (a0.map Equation.D)),dI a1] [] (dI r) []:=by
 refine OE Tryz.func107 fun S hS=>?_
 unfold q7j at hr
 refine ggE hr fun g1 hr=>J (gn 18)<|ifE hr ?_ ?_<;>intro h1 hr
 exact e
 refine J (gn 8)<|J (lenT 0)<|fun hl1=>bdE hr fun q1 hqq1 hr=>q0b hqq1 hl1 0 (fun k1 s1=>[(0,.d m (.sl 9 (a0.map Equation.D))),(1,dI s1),(5,dI (k1:Int))]) (fun k1 s1=>[]) I (fun k1 xk1 sk1 ok1 hxk1 hr hltk1 hik1=>?_) fun k1 sk1 ek1 hltk1=>?_
 obtain⟨s1,rfl⟩:∃ y,y=sk1:=⟨_,rfl⟩
 refine bdE hr fun y1 hy1 hr=>J g<|J (CB' [] [] (z5N (m:=m) hy1))<|J (gn 7)<|ifE hr ?_ ?_<;>intro h2 hr
 exact e
 exact e
 subst ek1
 obtain⟨s1,rfl⟩:∃ y,y=sk1:=⟨_,rfl⟩
 exact e
theorem z2l {m:Md}{a0:Contribution}{a1:Int}{r:Int}(hr:q5E a0 a1=some r):Ok Tryz.prog 152 [Contribution.x m a0,dI a1] [] (dI r) []:=by
 refine OE Tryz.func152 fun S hS=>?_
 unfold q5E at hr
 refine J g<|J (BX' 0)<|J g<|J LS'<|ggE hr fun g1 hr=>J (gn 9)<|ifE hr ?_ ?_<;>intro h1 hr
 exact e
 refine J g<|J LS'<|ggE hr fun g2 hr=>J (gn 9)<|ifE hr ?_ ?_<;>intro h2 hr
 exact e
 refine bdE hr fun y1 hy1 hr=>J g<|J (CB' [] [] (z2Z (m:=m) hy1))<|J (gn 8)<|ifE hr ?_ ?_<;>intro h3 hr
 exact e
 refine bdE hr fun y2 hy2 hr=>J g<|J (CB' [] [] (z2Z (m:=m) hy2))<|J (gn 8)<|ifE hr ?_ ?_<;>intro h4 hr
 exact e
 exact e
theorem z1C {m:Md}{a0:(List Contribution)}{a1:Int}{r:Int}(hr:q5f a0 a1=some r):Ok Tryz.prog 108 [.d m (.sl 16 (a0.map Contribution.D)),dI a1] [] (dI r) []:=by
 refine OE Tryz.func108 fun S hS=>?_
 unfold q5f at hr
 refine ggE hr fun g1 hr=>J (gn 18)<|ifE hr ?_ ?_<;>intro h1 hr
 exact e
 refine J (gn 8)<|J (lenT 0)<|fun hl1=>bdE hr fun q1 hqq1 hr=>q0b hqq1 hl1 0 (fun k1 s1=>[(0,.d m (.sl 16 (a0.map Contribution.D))),(1,dI s1),(5,dI (k1:Int))]) (fun k1 s1=>[]) I (fun k1 xk1 sk1 ok1 hxk1 hr hltk1 hik1=>?_) fun k1 sk1 ek1 hltk1=>?_
 obtain⟨s1,rfl⟩:∃ y,y=sk1:=⟨_,rfl⟩
 refine bdE hr fun y1 hy1 hr=>J g<|J (CB' [] [] (z2l (m:=m) hy1))<|J (gn 7)<|ifE hr ?_ ?_<;>intro h2 hr
 exact e
 exact e
 subst ek1
 obtain⟨s1,rfl⟩:∃ y,y=sk1:=⟨_,rfl⟩
 exact e
theorem j1y {m:Md}{a0:Rule}{a1:Int}{r:Int}(hr:z1X a0 a1=some r):Ok Tryz.prog 61 [Rule.x m a0,dI a1] [] (dI r) []:=by
 refine OE Tryz.func61 fun S hS=>?_
 unfold z1X at hr
 refine J g<|J (BX' 0)<|J g<|J LS'<|ggE hr fun g1 hr=>J (gn 9)<|ifE hr ?_ ?_<;>intro h1 hr
 exact e
 refine J g<|J LS'<|ggE hr fun g2 hr=>J (gn 9)<|ifE hr ?_ ?_<;>intro h2 hr
 exact e
 refine bdE hr fun y1 hy1 hr=>J g<|J (CB' [] [] (z7c (m:=m) hy1))<|J (gn 8)<|ifE hr ?_ ?_<;>intro h3 hr
 exact e
 refine bdE hr fun y2 hy2 hr=>J g<|J (CB' [] [] (z5d (m:=m) hy2))<|J (gn 8)<|ifE hr ?_ ?_<;>intro h4 hr
 exact e
 refine bdE hr fun y3 hy3 hr=>J g<|J (CB' [] [] (z1C (m:=m) hy3))<|J (gn 8)<|ifE hr ?_ ?_<;>intro h5 hr
 exact e
 exact e
theorem z9I {m:Md}{a0:(List Rule)}{a1:Int}{r:Int}(hr:z1d a0 a1=some r):Ok Tryz.prog 27 [.d m (.sl 6 (a0.map Rule.D)),dI a1] [] (dI r) []:=by
 refine OE Tryz.func27 fun S hS=>?_
 unfold z1d at hr
 refine ggE hr fun g1 hr=>J (gn 18)<|ifE hr ?_ ?_<;>intro h1 hr
 exact e
 refine J (gn 8)<|J (lenT 0)<|fun hl1=>bdE hr fun q1 hqq1 hr=>q0b hqq1 hl1 0 (fun k1 s1=>[(0,.d m (.sl 6 (a0.map Rule.D))),(1,dI s1),(5,dI (k1:Int))]) (fun k1 s1=>[]) I (fun k1 xk1 sk1 ok1 hxk1 hr hltk1 hik1=>?_) fun k1 sk1 ek1 hltk1=>?_
 obtain⟨s1,rfl⟩:∃ y,y=sk1:=⟨_,rfl⟩
 refine bdE hr fun y1 hy1 hr=>J g<|J (CB' [] [] (j1y (m:=m) hy1))<|J (gn 7)<|ifE hr ?_ ?_<;>intro h2 hr
 exact e
 exact e
 subst ek1
 obtain⟨s1,rfl⟩:∃ y,y=sk1:=⟨_,rfl⟩
 exact e
theorem z7d {m:Md}{a0:Grammar}{a1:Int}{r:Int}(hr:q8P a0 a1=some r):Ok Tryz.prog 4 [Grammar.x m a0,dI a1] [] (dI r) []:=by
 refine OE Tryz.func4 fun S hS=>?_
 unfold q8P at hr
 refine J g<|J (BX' 0)<|bdE hr fun y1 hy1 hr=>J g<|J (CB' [] [] (z7b (m:=m) hy1))<|J (gn 8)<|ifE hr ?_ ?_<;>intro h1 hr
 exact e
 refine bdE hr fun y2 hy2 hr=>J g<|J (CB' [] [] (z9I (m:=m) hy2))<|J (gn 8)<|ifE hr ?_ ?_<;>intro h2 hr
 exact e
 exact e
theorem j1z {m:Md}{a0:(List Int)}{a1:Int}{r:Int}(hr:z0u a0 a1=some r):Ok Tryz.prog 109 [.d m (.sl 1 (a0.map (A.D.i .i64))),dI a1] [] (dI r) []:=by
 refine OE Tryz.func109 fun S hS=>?_
 unfold z0u at hr
 refine ggE hr fun g1 hr=>J (gn 18)<|ifE hr ?_ ?_<;>intro h1 hr
 exact e
 exact e
theorem j1A {m:Md}{a0:Node}{a1:Int}{r:Int}(hr:z1Y a0 a1=some r):Ok Tryz.prog 62 [Node.x m a0,dI a1] [] (dI r) []:=by
 refine OE Tryz.func62 fun S hS=>?_
 unfold z1Y at hr
 refine J g<|J (BX' 0)<|J g<|J LS'<|ggE hr fun g1 hr=>J (gn 9)<|ifE hr ?_ ?_<;>intro h1 hr
 exact e
 refine bdE hr fun y1 hy1 hr=>J g<|J (CB' [] [] (j1z (m:=m) hy1))<|J (gn 8)<|ifE hr ?_ ?_<;>intro h2 hr
 exact e
 exact e
theorem z9J {m:Md}{a0:(List Node)}{a1:Int}{r:Int}(hr:z1e a0 a1=some r):Ok Tryz.prog 28 [.d m (.sl 6 (a0.map Node.D)),dI a1] [] (dI r) []:=by
 refine OE Tryz.func28 fun S hS=>?_
 unfold z1e at hr
 refine ggE hr fun g1 hr=>J (gn 18)<|ifE hr ?_ ?_<;>intro h1 hr
 exact e
 refine J (gn 8)<|J (lenT 0)<|fun hl1=>bdE hr fun q1 hqq1 hr=>q0b hqq1 hl1 0 (fun k1 s1=>[(0,.d m (.sl 6 (a0.map Node.D))),(1,dI s1),(5,dI (k1:Int))]) (fun k1 s1=>[]) I (fun k1 xk1 sk1 ok1 hxk1 hr hltk1 hik1=>?_) fun k1 sk1 ek1 hltk1=>?_
 obtain⟨s1,rfl⟩:∃ y,y=sk1:=⟨_,rfl⟩
 refine bdE hr fun y1 hy1 hr=>J g<|J (CB' [] [] (j1A (m:=m) hy1))<|J (gn 7)<|ifE hr ?_ ?_<;>intro h2 hr
 exact e
 exact e
 subst ek1
 obtain⟨s1,rfl⟩:∃ y,y=sk1:=⟨_,rfl⟩
 exact e
theorem j1B {m:Md}{a0:Tree}{a1:Int}{r:Int}(hr:z1Z a0 a1=some r):Ok Tryz.prog 5 [Tree.x m a0,dI a1] [] (dI r) []:=by
 refine OE Tryz.func5 fun S hS=>?_
 unfold z1Z at hr
 refine J g<|J (BX' 0)<|bdE hr fun y1 hy1 hr=>J g<|J (CB' [] [] (z9J (m:=m) hy1))<|J (gn 8)<|ifE hr ?_ ?_<;>intro h1 hr
 exact e
 exact e
theorem z1s {a0:Instance}{a1:Int}{r:Int}(hr:q6y a0 a1=some r):Ok Tryz.prog 30 [Instance.x .fz a0,dI a1] [] (dI r) []:=by
 refine OE Tryz.func30 fun S hS=>?_
 unfold q6y at hr
 refine J g<|J (BX' 0)<|J g<|J LS'<|ggE hr fun g1 hr=>J (gn 9)<|ifE hr ?_ ?_<;>intro h1 hr
 exact e
 exact e
theorem z0P {m:Md}{a0:(List Instance)}{a1:Int}{r:Int}(hr:q5T a0 a1=some r):Ok Tryz.prog 7 [.d m (.sl 2 (a0.map Instance.D)),dI a1] [] (dI r) []:=by
 refine OE Tryz.func7 fun S hS=>?_
 unfold q5T at hr
 refine ggE hr fun g1 hr=>J (gn 18)<|ifE hr ?_ ?_<;>intro h1 hr
 exact e
 refine J (gn 8)<|J (lenT 0)<|fun hl1=>bdE hr fun q1 hqq1 hr=>q0b hqq1 hl1 0 (fun k1 s1=>[(0,.d m (.sl 2 (a0.map Instance.D))),(1,dI s1),(5,dI (k1:Int))]) (fun k1 s1=>[]) I (fun k1 xk1 sk1 ok1 hxk1 hr hltk1 hik1=>?_) fun k1 sk1 ek1 hltk1=>?_
 obtain⟨s1,rfl⟩:∃ y,y=sk1:=⟨_,rfl⟩
 refine bdE hr fun y1 hy1 hr=>J g<|J (CB' [] [] (z1s hy1))<|J (gn 7)<|ifE hr ?_ ?_<;>intro h2 hr
 exact e
 exact e
 subst ek1
 obtain⟨s1,rfl⟩:∃ y,y=sk1:=⟨_,rfl⟩
 exact e
theorem z5e {m:Md}{a0:TraceStep}{a1:Int}{r:Int}(hr:q7k a0 a1=some r):Ok Tryz.prog 29 [TraceStep.x m a0,dI a1] [] (dI r) []:=by
 refine OE Tryz.func29 fun S hS=>?_
 unfold q7k at hr
 refine J g<|J (BX' 0)<|bdE hr fun y1 hy1 hr=>J g<|J (CB' [] [] (z1s hy1))<|J (gn 8)<|ifE hr ?_ ?_<;>intro h1 hr
 exact e
 refine bdE hr fun y2 hy2 hr=>J g<|J (CB' [] [] (z0P (m:=m) hy2))<|J (gn 8)<|ifE hr ?_ ?_<;>intro h2 hr
 exact e
 exact e
theorem z3S {m:Md}{a0:(List TraceStep)}{a1:Int}{r:Int}(hr:q6z a0 a1=some r):Ok Tryz.prog 6 [.d m (.sl 3 (a0.map TraceStep.D)),dI a1] [] (dI r) []:=by
 refine OE Tryz.func6 fun S hS=>?_
 unfold q6z at hr
 refine ggE hr fun g1 hr=>J (gn 18)<|ifE hr ?_ ?_<;>intro h1 hr
 exact e
 refine J (gn 8)<|J (lenT 0)<|fun hl1=>bdE hr fun q1 hqq1 hr=>q0b hqq1 hl1 0 (fun k1 s1=>[(0,.d m (.sl 3 (a0.map TraceStep.D))),(1,dI s1),(5,dI (k1:Int))]) (fun k1 s1=>[]) I (fun k1 xk1 sk1 ok1 hxk1 hr hltk1 hik1=>?_) fun k1 sk1 ek1 hltk1=>?_
 obtain⟨s1,rfl⟩:∃ y,y=sk1:=⟨_,rfl⟩
 refine bdE hr fun y1 hy1 hr=>J g<|J (CB' [] [] (z5e (m:=m) hy1))<|J (gn 7)<|ifE hr ?_ ?_<;>intro h2 hr
 exact e
 exact e
 subst ek1
 obtain⟨s1,rfl⟩:∃ y,y=sk1:=⟨_,rfl⟩
 exact e
theorem z5f {a0:Attribute}{r:Attribute}(hr:q7l a0=some r):Ok Tryz.prog 162 [Attribute.x .fz a0] [] (Attribute.x .fz r) []:=by
 refine OE Tryz.func162 fun S hS=>?_
 unfold q7l at hr
 refine J g<|J (BX' 0)<|J (NV' 1)<|J g<|J (NV' 2)<|e
theorem z3T {m:Md}{a0:(List Attribute)}{r:(List Attribute)}(hr:q6A a0=some r):Ok Tryz.prog 122 [.d m (.sl 4 (a0.map Attribute.D))] [] (.ref 0 none) [.row .fz 4 (r.map Attribute.D)]:=by
 refine OE Tryz.func122 fun S hS=>?_
 unfold q6A at hr
 refine ggE hr fun g1 hr=>J g<|J (MKR' 0 (f:=Attribute.D) (⟨(⟨#[]⟩:ByteArray),(0:Int),(0:Int),false⟩:Attribute) g1.1 g1.2.1 g1.2.2)<|J (gn 8)<|J (lenT 0)<|fun hl1=>bdE hr fun s1 hqq1 hr=>q0d hqq1 hl1 1 (fun k1 s1=>[(0,.d m (.sl 4 (a0.map Attribute.D))),(3,.ref 0 none),(4,dI (k1:Int))]) (fun k1 s1=>[(0,.row .fz 4 (s1.map Attribute.D))]) I (fun k1 xk1 sk1 ok1 hxk1 hr hltk1=>?_) fun k1 hltk1=>?_
 obtain⟨s1,rfl⟩:∃ y,y=sk1:=⟨_,rfl⟩
 refine bdE hr fun y1 hy1 hr=>J g<|J (CB' [] [] (z5f hy1))<|bdE hr fun x1 hx1 hr=>J g<|J (SE' y1 hx1)<|e
 exact e
theorem z8s {m:Md}{a0:Symbol}{r:Symbol}(hr:q6W a0=some r):Ok Tryz.prog 74 [Symbol.x m a0] [] (.ag [dS r.Name,.ref 0 none]) [.row .fz 4 (r.Attributes.map Attribute.D)]:=by
 refine OE Tryz.func74 fun S hS=>?_
 unfold q6W at hr
 refine J g<|J (BX' 0)<|J (NV' 1)<|J g<|J (NV' 2)<|bdE hr fun y1 hy1 hr=>J g<|J (CB' [(0,3)] [] (z3T (m:=m) hy1))<|e
theorem z7e {m:Md}{a0:(List Symbol)}{r:(List Symbol)}(hr:q8Q a0=some r):Ok Tryz.prog 38 [.d m (.sl 2 (a0.map Symbol.D))] [] (.ref 0 none) [.deep .fz 2 (r.map Symbol.W) []]:=by
 refine OE Tryz.func38 fun S hS=>?_
 unfold q8Q at hr
 refine ggE hr fun g1 hr=>J g<|MKW 0 (f:=Symbol.W) (⟨(⟨#[]⟩:ByteArray),[]⟩:Symbol) g1.1 g1.2.1 g1.2.2 ?_
 refine J (gn 8)<|J (lenT 0)<|fun hl1=>bdE hr fun s1 hqq1 hr=>q0d hqq1 hl1 1 (fun k1 s1=>[(0,.d m (.sl 2 (a0.map Symbol.D))),(3,.ref 0 none),(4,dI (k1:Int))]) (fun k1 s1=>[(0,.deep .fz 2 (s1.map Symbol.W) [])]) I (fun k1 xk1 sk1 ok1 hxk1 hr hltk1=>?_) fun k1 hltk1=>?_
 obtain⟨s1,rfl⟩:∃ y,y=sk1:=⟨_,rfl⟩
 refine bdE hr fun y1 hy1 hr=>J g<|J (CB' [(0,1)] [] (z8s (m:=m) hy1))<|bdE hr fun x1 hx1 hr=>J (IEd' (Int.natCast_nonneg _) (q3o hx1))<|J (SD' [.d .fz (.s y1.Name),.w 4 (y1.Attributes.map Attribute.D)] [1] (q3o hx1))<|J (gn 6) ?_
 cases hr
 exact GH.trans (q0j 0 (he:=eset (f:=Symbol.W) (x':=y1) (by first | rfl | (simp only [List.set_set]; rfl)))) (q0c hS 1)
 exact e
theorem z7f {m:Md}{a0:(List ByteArray)}{r:(List ByteArray)}(hr:q8R a0=some r):Ok Tryz.prog 123 [.d m (.sl 1 (a0.map A.D.s))] [] (.ref 0 none) [.row .fz 1 (r.map A.D.s)]:=by
 refine OE Tryz.func123 fun S hS=>?_
 unfold q8R at hr
 refine ggE hr fun g1 hr=>J g<|J (MKR' 0 (f:=A.D.s) (⟨#[]⟩:ByteArray) g1.1 g1.2.1 g1.2.2)<|J (gn 8)<|J (lenT 0)<|fun hl1=>bdE hr fun s1 hqq1 hr=>q0d hqq1 hl1 1 (fun k1 s1=>[(0,.d m (.sl 1 (a0.map A.D.s))),(3,.ref 0 none),(4,dI (k1:Int))]) (fun k1 s1=>[(0,.row .fz 1 (s1.map A.D.s))]) I (fun k1 xk1 sk1 ok1 hxk1 hr hltk1=>?_) fun k1 hltk1=>?_
 obtain⟨s1,rfl⟩:∃ y,y=sk1:=⟨_,rfl⟩
 refine bdE hr fun x1 hx1 hr=>J g<|J (SE' xk1 hx1)<|e
 exact e
theorem z3U {a0:Occurrence}{r:Occurrence}(hr:q6B a0=some r):Ok Tryz.prog 193 [Occurrence.x .fz a0] [] (Occurrence.x .fz r) []:=by
 refine OE Tryz.func193 fun S hS=>?_
 unfold q6B at hr
 refine J g<|J (BX' 0)<|J (NV' 1)<|J g<|J (NV' 2)<|e
theorem z9K {rec_wtoExpr:Expr→Option Expr}(ih_wtoExpr:∀ {m:Md} {a0:Expr} {r:Expr},rec_wtoExpr a0=some r→Ok Tryz.prog 194 [Expr.x m a0] [] (.ag [dI r.Kind,dI r.N,dI r.Pos,dI r.Type_,dS r.Symbol,dS r.Name,.ref 0 none]) [.deep .fz 7 (r.Args.map Expr.W) []]){m:Md}{a0:(List Expr)}{r:(List Expr)}(hr:z1f rec_wtoExpr a0=some r):Ok Tryz.prog 209 [.d m (.sl 7 (a0.map Expr.D))] [] (.ref 0 none) [.deep .fz 7 (r.map Expr.W) []]:=by
 refine OE Tryz.func209 fun S hS=>?_
 unfold z1f at hr
 refine ggE hr fun g1 hr=>J g<|MKW 0 (f:=Expr.W) (⟨(0:Int),(0:Int),(0:Int),(0:Int),(⟨#[]⟩:ByteArray),(⟨#[]⟩:ByteArray),[]⟩:Expr) g1.1 g1.2.1 g1.2.2 ?_
 refine J (gn 8)<|J (lenT 0)<|fun hl1=>bdE hr fun s1 hqq1 hr=>q0d hqq1 hl1 1 (fun k1 s1=>[(0,.d m (.sl 7 (a0.map Expr.D))),(3,.ref 0 none),(4,dI (k1:Int))]) (fun k1 s1=>[(0,.deep .fz 7 (s1.map Expr.W) [])]) I (fun k1 xk1 sk1 ok1 hxk1 hr hltk1=>?_) fun k1 hltk1=>?_
 obtain⟨s1,rfl⟩:∃ y,y=sk1:=⟨_,rfl⟩
 refine bdE hr fun y1 hy1 hr=>J g<|J (CB' [(0,1)] [] (ih_wtoExpr (m:=m) hy1))<|bdE hr fun x1 hx1 hr=>J (IEd' (Int.natCast_nonneg _) (q3o hx1))<|J (SD' [.d .fz (.i .i64 y1.Kind),.d .fz (.i .i64 y1.N),.d .fz (.i .i64 y1.Pos),.d .fz (.i .i64 y1.Type_),.d .fz (.s y1.Symbol),.d .fz (.s y1.Name),.w 7 (y1.Args.map Expr.D)] [1] (q3o hx1))<|J (gn 6) ?_
 cases hr
 exact GH.trans (q0j 0 (he:=eset (f:=Expr.W) (x':=y1) (by first | rfl | (simp only [List.set_set]; rfl)))) (q0c hS 1)
 exact e
theorem z9L {rec_wtoExpr:Expr→Option Expr}(ih_wtoExpr:∀ {m:Md} {a0:Expr} {r:Expr},rec_wtoExpr a0=some r→Ok Tryz.prog 194 [Expr.x m a0] [] (.ag [dI r.Kind,dI r.N,dI r.Pos,dI r.Type_,dS r.Symbol,dS r.Name,.ref 0 none]) [.deep .fz 7 (r.Args.map Expr.W) []]){m:Md}{a0:Expr}{r:Expr}(hr:z0w rec_wtoExpr a0=some r):Ok Tryz.prog 194 [Expr.x m a0] [] (.ag [dI r.Kind,dI r.N,dI r.Pos,dI r.Type_,dS r.Symbol,dS r.Name,.ref 0 none]) [.deep .fz 7 (r.Args.map Expr.W) []]:=by
 refine OE Tryz.func194 fun S hS=>?_
 unfold z0w at hr
 refine J g<|J (BX' 0)<|J (NV' 1)<|J g<|J (NV' 2)<|bdE hr fun y1 hy1 hr=>J g<|J (CB' [(0,3)] [] (z9K ih_wtoExpr (m:=m) hy1))<|e
theorem z9M (n:Nat):∀ {m:Md} {a0:Expr} {r:Expr},q8m n a0=some r→Ok Tryz.prog 194 [Expr.x m a0] [] (.ag [dI r.Kind,dI r.N,dI r.Pos,dI r.Type_,dS r.Symbol,dS r.Name,.ref 0 none]) [.deep .fz 7 (r.Args.map Expr.W) []]:=by
  induction n with
  | zero=>intro _ _ r hr; exact nomatch (show (none:Option Expr)=some r from hr)
  | succ n ih=>intro _ _ r hr; exact z9L ih hr
theorem z3a {m:Md}{a0:Expr}{r:Expr}(hr:z0x a0=some r):Ok Tryz.prog 194 [Expr.x m a0] [] (.ag [dI r.Kind,dI r.N,dI r.Pos,dI r.Type_,dS r.Symbol,dS r.Name,.ref 0 none]) [.deep .fz 7 (r.Args.map Expr.W) []]:=by
 obtain⟨n,hn⟩:=q4j hr
 exact z9M n hn
theorem z5O {m:Md}{a0:Equation}{r:Equation}(hr:q5F a0=some r):Ok Tryz.prog 163 [Equation.x m a0] [] (.ag [dI r.At.Pos,dS r.At.Name,dI r.Expr.Kind,dI r.Expr.N,dI r.Expr.Pos,dI r.Expr.Type_,dS r.Expr.Symbol,dS r.Expr.Name,.ref 0 none]) [.deep .fz 7 (r.Expr.Args.map Expr.W) []]:=by
 refine OE Tryz.func163 fun S hS=>?_
 unfold q5F at hr
 refine J g<|J (BX' 0)<|J (NV' 1)<|J g<|J (NV' 2)<|bdE hr fun y1 hy1 hr=>J g<|J (CB' [] [] (z3U hy1))<|bdE hr fun y2 hy2 hr=>J g<|J (CB' [(0,3)] [] (z3a (m:=m) hy2))<|e
theorem z5g {m:Md}{a0:(List Equation)}{r:(List Equation)}(hr:q7m a0=some r):Ok Tryz.prog 124 [.d m (.sl 9 (a0.map Equation.D))] [] (.ref 0 none) [.deep .fz 9 (r.map Equation.W) []]:=by
 refine OE Tryz.func124 fun S hS=>?_
 unfold q7m at hr
 refine ggE hr fun g1 hr=>J g<|MKW 0 (f:=Equation.W) (⟨(⟨(0:Int),(⟨#[]⟩:ByteArray)⟩:Occurrence),(⟨(0:Int),(0:Int),(0:Int),(0:Int),(⟨#[]⟩:ByteArray),(⟨#[]⟩:ByteArray),[]⟩:Expr)⟩:Equation) g1.1 g1.2.1 g1.2.2 ?_
 refine J (gn 8)<|J (lenT 0)<|fun hl1=>bdE hr fun s1 hqq1 hr=>q0d hqq1 hl1 1 (fun k1 s1=>[(0,.d m (.sl 9 (a0.map Equation.D))),(3,.ref 0 none),(4,dI (k1:Int))]) (fun k1 s1=>[(0,.deep .fz 9 (s1.map Equation.W) [])]) I (fun k1 xk1 sk1 ok1 hxk1 hr hltk1=>?_) fun k1 hltk1=>?_
 obtain⟨s1,rfl⟩:∃ y,y=sk1:=⟨_,rfl⟩
 refine bdE hr fun y1 hy1 hr=>J g<|J (CB' [(0,1)] [] (z5O (m:=m) hy1))<|bdE hr fun x1 hx1 hr=>J (IEd' (Int.natCast_nonneg _) (q3o hx1))<|J (SD' [.d .fz (.i .i64 y1.At.Pos),.d .fz (.s y1.At.Name),.d .fz (.i .i64 y1.Expr.Kind),.d .fz (.i .i64 y1.Expr.N),.d .fz (.i .i64 y1.Expr.Pos),.d .fz (.i .i64 y1.Expr.Type_),.d .fz (.s y1.Expr.Symbol),.d .fz (.s y1.Expr.Name),.w 7 (y1.Expr.Args.map Expr.D)] [1] (q3o hx1))<|J (gn 6) ?_
 cases hr
 exact GH.trans (q0j 0 (he:=eset (f:=Equation.W) (x':=y1) (by first | rfl | (simp only [List.set_set]; rfl)))) (q0c hS 1)
 exact e
theorem z2m {m:Md}{a0:Contribution}{r:Contribution}(hr:q4r a0=some r):Ok Tryz.prog 164 [Contribution.x m a0] [] (.ag [dS r.Symbol,dS r.Name,dI r.Target.Kind,dI r.Target.N,dI r.Target.Pos,dI r.Target.Type_,dS r.Target.Symbol,dS r.Target.Name,.ref 0 none,dI r.Value.Kind,dI r.Value.N,dI r.Value.Pos,dI r.Value.Type_,dS r.Value.Symbol,dS r.Value.Name,.ref 1 none]) [.deep .fz 7 (r.Target.Args.map Expr.W) [],.deep .fz 7 (r.Value.Args.map Expr.W) []]:=by
 refine OE Tryz.func164 fun S hS=>?_
 unfold q4r at hr
 refine J g<|J (BX' 0)<|J (NV' 1)<|J g<|J (NV' 2)<|bdE hr fun y1 hy1 hr=>J g<|J (CB' [(0,3)] [] (z3a (m:=m) hy1))<|bdE hr fun y2 hy2 hr=>J g<|J (CB' [(0,4)] [] (z3a (m:=m) hy2))<|e
theorem z1D {m:Md}{a0:(List Contribution)}{r:(List Contribution)}(hr:q5g a0=some r):Ok Tryz.prog 125 [.d m (.sl 16 (a0.map Contribution.D))] [] (.ref 0 none) [.deep .fz 16 (r.map Contribution.W) []]:=by
 refine OE Tryz.func125 fun S hS=>?_
 unfold q5g at hr
 refine ggE hr fun g1 hr=>J g<|MKW 0 (f:=Contribution.W) (⟨(⟨#[]⟩:ByteArray),(⟨#[]⟩:ByteArray),(⟨(0:Int),(0:Int),(0:Int),(0:Int),(⟨#[]⟩:ByteArray),(⟨#[]⟩:ByteArray),[]⟩:Expr),(⟨(0:Int),(0:Int),(0:Int),(0:Int),(⟨#[]⟩:ByteArray),(⟨#[]⟩:ByteArray),[]⟩:Expr)⟩:Contribution) g1.1 g1.2.1 g1.2.2 ?_
 refine J (gn 8)<|J (lenT 0)<|fun hl1=>bdE hr fun s1 hqq1 hr=>q0d hqq1 hl1 1 (fun k1 s1=>[(0,.d m (.sl 16 (a0.map Contribution.D))),(3,.ref 0 none),(4,dI (k1:Int))]) (fun k1 s1=>[(0,.deep .fz 16 (s1.map Contribution.W) [])]) I (fun k1 xk1 sk1 ok1 hxk1 hr hltk1=>?_) fun k1 hltk1=>?_
 obtain⟨s1,rfl⟩:∃ y,y=sk1:=⟨_,rfl⟩
 refine bdE hr fun y1 hy1 hr=>J g<|J (CB' [(0,1),(1,2)] [] (z2m (m:=m) hy1))<|bdE hr fun x1 hx1 hr=>J (IEd' (Int.natCast_nonneg _) (q3o hx1))<|J (SD' [.d .fz (.s y1.Symbol),.d .fz (.s y1.Name),.d .fz (.i .i64 y1.Target.Kind),.d .fz (.i .i64 y1.Target.N),.d .fz (.i .i64 y1.Target.Pos),.d .fz (.i .i64 y1.Target.Type_),.d .fz (.s y1.Target.Symbol),.d .fz (.s y1.Target.Name),.w 7 (y1.Target.Args.map Expr.D),.d .fz (.i .i64 y1.Value.Kind),.d .fz (.i .i64 y1.Value.N),.d .fz (.i .i64 y1.Value.Pos),.d .fz (.i .i64 y1.Value.Type_),.d .fz (.s y1.Value.Symbol),.d .fz (.s y1.Value.Name),.w 7 (y1.Value.Args.map Expr.D)] [1,2] (q3o hx1))<|J (gn 6) ?_
 cases hr
 exact GH.trans (q0j 0 (he:=eset (f:=Contribution.W) (x':=y1) (by first | rfl | (simp only [List.set_set]; rfl)))) (q0c hS 1)
 exact e
theorem j1C {m:Md}{a0:Rule}{r:Rule}(hr:q9w a0=some r):Ok Tryz.prog 75 [Rule.x m a0] [] (.ag [dS r.Name,dS r.Left,.ref 0 none,dB r.Literal,.ref 1 none,.ref 2 none]) [.row .fz 1 (r.Right.map A.D.s),.deep .fz 9 (r.Equations.map Equation.W) [],.deep .fz 16 (r.Contributions.map Contribution.W) []]:=by
 refine OE Tryz.func75 fun S hS=>?_
 unfold q9w at hr
 refine J g<|J (BX' 0)<|J (NV' 1)<|J g<|J (NV' 2)<|bdE hr fun y1 hy1 hr=>J g<|J (CB' [(0,3)] [] (z7f (m:=m) hy1))<|bdE hr fun y2 hy2 hr=>J g<|J (CB' [(0,4)] [] (z5g (m:=m) hy2))<|bdE hr fun y3 hy3 hr=>J g<|J (CB' [(0,5)] [] (z1D (m:=m) hy3))<|e
theorem z9N {m:Md}{a0:(List Rule)}{r:(List Rule)}(hr:z1g a0=some r):Ok Tryz.prog 39 [.d m (.sl 6 (a0.map Rule.D))] [] (.ref 0 none) [.deep .fz 6 (r.map Rule.W) []]:=by
 refine OE Tryz.func39 fun S hS=>?_
 unfold z1g at hr
 refine ggE hr fun g1 hr=>J g<|MKW 0 (f:=Rule.W) (⟨(⟨#[]⟩:ByteArray),(⟨#[]⟩:ByteArray),[],false,[],[]⟩:Rule) g1.1 g1.2.1 g1.2.2 ?_
 refine J (gn 8)<|J (lenT 0)<|fun hl1=>bdE hr fun s1 hqq1 hr=>q0d hqq1 hl1 1 (fun k1 s1=>[(0,.d m (.sl 6 (a0.map Rule.D))),(3,.ref 0 none),(4,dI (k1:Int))]) (fun k1 s1=>[(0,.deep .fz 6 (s1.map Rule.W) [])]) I (fun k1 xk1 sk1 ok1 hxk1 hr hltk1=>?_) fun k1 hltk1=>?_
 obtain⟨s1,rfl⟩:∃ y,y=sk1:=⟨_,rfl⟩
 refine bdE hr fun y1 hy1 hr=>J g<|J (CB' [(0,1),(1,2),(2,3)] [] (j1C (m:=m) hy1))<|bdE hr fun x1 hx1 hr=>J (IEd' (Int.natCast_nonneg _) (q3o hx1))<|J (SD' [.d .fz (.s y1.Name),.d .fz (.s y1.Left),.w 1 (y1.Right.map A.D.s),.d .fz (.b y1.Literal),.w 9 (y1.Equations.map Equation.D),.w 16 (y1.Contributions.map Contribution.D)] [1,2,3] (q3o hx1))<|J (gn 6) ?_
 cases hr
 exact GH.trans (q0j 0 (he:=eset (f:=Rule.W) (x':=y1) (by first | rfl | (simp only [List.set_set]; rfl)))) (q0c hS 1)
 exact e
theorem q7V {m:Md}{a0:Grammar}{r:Grammar}(hr:q4Q a0=some r):Ok Tryz.prog 9 [Grammar.x m a0] [] (.ag [.ref 0 none,.ref 1 none]) [.deep .fz 2 (r.Symbols.map Symbol.W) [],.deep .fz 6 (r.Rules.map Rule.W) []]:=by
 refine OE Tryz.func9 fun S hS=>?_
 unfold q4Q at hr
 refine J g<|J (BX' 0)<|J (NV' 1)<|J g<|J (NV' 2)<|bdE hr fun y1 hy1 hr=>J g<|J (CB' [(0,3)] [] (z7e (m:=m) hy1))<|bdE hr fun y2 hy2 hr=>J g<|J (CB' [(0,4)] [] (z9N (m:=m) hy2))<|e
theorem q9J {m:Md}{a0:(List Int)}{r:(List Int)}(hr:q7t a0=some r):Ok Tryz.prog 12 [.d m (.sl 1 (a0.map (A.D.i .i64)))] [] (.ref 0 none) [.row .fz 1 (r.map (A.D.i .i64))]:=by
 refine OE Tryz.func12 fun S hS=>?_
 unfold q7t at hr
 refine ggE hr fun g1 hr=>J g<|J (MKR' 0 (f:=(A.D.i .i64)) (0:Int) g1.1 g1.2.1 g1.2.2)<|J (gn 8)<|J (lenT 0)<|fun hl1=>bdE hr fun s1 hqq1 hr=>q0d hqq1 hl1 1 (fun k1 s1=>[(0,.d m (.sl 1 (a0.map (A.D.i .i64)))),(3,.ref 0 none),(4,dI (k1:Int))]) (fun k1 s1=>[(0,.row .fz 1 (s1.map (A.D.i .i64)))]) I (fun k1 xk1 sk1 ok1 hxk1 hr hltk1=>?_) fun k1 hltk1=>?_
 obtain⟨s1,rfl⟩:∃ y,y=sk1:=⟨_,rfl⟩
 refine bdE hr fun x1 hx1 hr=>J g<|J (SE' xk1 hx1)<|e
 exact e
theorem j1D {m:Md}{a0:Node}{r:Node}(hr:q9x a0=some r):Ok Tryz.prog 76 [Node.x m a0] [] (.ag [dI r.Id,dI r.Parent,dI r.Place,dI r.Literal,dS r.Rule,.ref 0 none]) [.row .fz 1 (r.Children.map (A.D.i .i64))]:=by
 refine OE Tryz.func76 fun S hS=>?_
 unfold q9x at hr
 refine J g<|J (BX' 0)<|J (NV' 1)<|J g<|J (NV' 2)<|bdE hr fun y1 hy1 hr=>J g<|J (CB' [(0,3)] [] (q9J (m:=m) hy1))<|e
theorem z9O {m:Md}{a0:(List Node)}{r:(List Node)}(hr:z1h a0=some r):Ok Tryz.prog 40 [.d m (.sl 6 (a0.map Node.D))] [] (.ref 0 none) [.deep .fz 6 (r.map Node.W) []]:=by
 refine OE Tryz.func40 fun S hS=>?_
 unfold z1h at hr
 refine ggE hr fun g1 hr=>J g<|MKW 0 (f:=Node.W) (⟨(0:Int),(0:Int),(0:Int),(0:Int),(⟨#[]⟩:ByteArray),[]⟩:Node) g1.1 g1.2.1 g1.2.2 ?_
 refine J (gn 8)<|J (lenT 0)<|fun hl1=>bdE hr fun s1 hqq1 hr=>q0d hqq1 hl1 1 (fun k1 s1=>[(0,.d m (.sl 6 (a0.map Node.D))),(3,.ref 0 none),(4,dI (k1:Int))]) (fun k1 s1=>[(0,.deep .fz 6 (s1.map Node.W) [])]) I (fun k1 xk1 sk1 ok1 hxk1 hr hltk1=>?_) fun k1 hltk1=>?_
 obtain⟨s1,rfl⟩:∃ y,y=sk1:=⟨_,rfl⟩
 refine bdE hr fun y1 hy1 hr=>J g<|J (CB' [(0,1)] [] (j1D (m:=m) hy1))<|bdE hr fun x1 hx1 hr=>J (IEd' (Int.natCast_nonneg _) (q3o hx1))<|J (SD' [.d .fz (.i .i64 y1.Id),.d .fz (.i .i64 y1.Parent),.d .fz (.i .i64 y1.Place),.d .fz (.i .i64 y1.Literal),.d .fz (.s y1.Rule),.w 1 (y1.Children.map (A.D.i .i64))] [1] (q3o hx1))<|J (gn 6) ?_
 cases hr
 exact GH.trans (q0j 0 (he:=eset (f:=Node.W) (x':=y1) (by first | rfl | (simp only [List.set_set]; rfl)))) (q0c hS 1)
 exact e
theorem z1o {m:Md}{a0:Tree}{r:Tree}(hr:q7u a0=some r):Ok Tryz.prog 10 [Tree.x m a0] [] (.ag [.ref 0 none]) [.deep .fz 6 (r.Nodes.map Node.W) []]:=by
 refine OE Tryz.func10 fun S hS=>?_
 unfold q7u at hr
 refine J g<|J (BX' 0)<|J (NV' 1)<|J g<|J (NV' 2)<|bdE hr fun y1 hy1 hr=>J g<|J (CB' [(0,3)] [] (z9O (m:=m) hy1))<|e
theorem z1t {a0:Instance}{r:Instance}(hr:q5G a0=some r):Ok Tryz.prog 42 [Instance.x .fz a0] [] (Instance.x .fz r) []:=by
 refine OE Tryz.func42 fun S hS=>?_
 unfold q5G at hr
 refine J g<|J (BX' 0)<|J (NV' 1)<|J g<|J (NV' 2)<|e
theorem q5A {m:Md}{a0:(List Instance)}{r:(List Instance)}(hr:q4o a0=some r):Ok Tryz.prog 13 [.d m (.sl 2 (a0.map Instance.D))] [] (.ref 0 none) [.row .fz 2 (r.map Instance.D)]:=by
 refine OE Tryz.func13 fun S hS=>?_
 unfold q4o at hr
 refine ggE hr fun g1 hr=>J g<|J (MKR' 0 (f:=Instance.D) (⟨(0:Int),(⟨#[]⟩:ByteArray)⟩:Instance) g1.1 g1.2.1 g1.2.2)<|J (gn 8)<|J (lenT 0)<|fun hl1=>bdE hr fun s1 hqq1 hr=>q0d hqq1 hl1 1 (fun k1 s1=>[(0,.d m (.sl 2 (a0.map Instance.D))),(3,.ref 0 none),(4,dI (k1:Int))]) (fun k1 s1=>[(0,.row .fz 2 (s1.map Instance.D))]) I (fun k1 xk1 sk1 ok1 hxk1 hr hltk1=>?_) fun k1 hltk1=>?_
 obtain⟨s1,rfl⟩:∃ y,y=sk1:=⟨_,rfl⟩
 refine bdE hr fun y1 hy1 hr=>J g<|J (CB' [] [] (z1t hy1))<|bdE hr fun x1 hx1 hr=>J g<|J (SE' y1 hx1)<|e
 exact e
theorem z5h {m:Md}{a0:TraceStep}{r:TraceStep}(hr:q5c a0=some r):Ok Tryz.prog 41 [TraceStep.x m a0] [] (.ag [dI r.At.Node,dS r.At.Name,.ref 0 none]) [.row .fz 2 (r.Inputs.map Instance.D)]:=by
 refine OE Tryz.func41 fun S hS=>?_
 unfold q5c at hr
 refine J g<|J (BX' 0)<|J (NV' 1)<|J g<|J (NV' 2)<|bdE hr fun y1 hy1 hr=>J g<|J (CB' [] [] (z1t hy1))<|bdE hr fun y2 hy2 hr=>J g<|J (CB' [(0,3)] [] (q5A (m:=m) hy2))<|e
theorem q6g {m:Md}{a0:(List TraceStep)}{r:(List TraceStep)}(hr:q4v a0=some r):Ok Tryz.prog 11 [.d m (.sl 3 (a0.map TraceStep.D))] [] (.ref 0 none) [.deep .fz 3 (r.map TraceStep.W) []]:=by
 refine OE Tryz.func11 fun S hS=>?_
 unfold q4v at hr
 refine ggE hr fun g1 hr=>J g<|MKW 0 (f:=TraceStep.W) (⟨(⟨(0:Int),(⟨#[]⟩:ByteArray)⟩:Instance),[]⟩:TraceStep) g1.1 g1.2.1 g1.2.2 ?_
 refine J (gn 8)<|J (lenT 0)<|fun hl1=>bdE hr fun s1 hqq1 hr=>q0d hqq1 hl1 1 (fun k1 s1=>[(0,.d m (.sl 3 (a0.map TraceStep.D))),(3,.ref 0 none),(4,dI (k1:Int))]) (fun k1 s1=>[(0,.deep .fz 3 (s1.map TraceStep.W) [])]) I (fun k1 xk1 sk1 ok1 hxk1 hr hltk1=>?_) fun k1 hltk1=>?_
 obtain⟨s1,rfl⟩:∃ y,y=sk1:=⟨_,rfl⟩
 refine bdE hr fun y1 hy1 hr=>J g<|J (CB' [(0,1)] [] (z5h (m:=m) hy1))<|bdE hr fun x1 hx1 hr=>J (IEd' (Int.natCast_nonneg _) (q3o hx1))<|J (SD' [.d .fz (.i .i64 y1.At.Node),.d .fz (.s y1.At.Name),.w 2 (y1.Inputs.map Instance.D)] [1] (q3o hx1))<|J (gn 6) ?_
 cases hr
 exact GH.trans (q0j 0 (he:=eset (f:=TraceStep.W) (x':=y1) (by first | rfl | (simp only [List.set_set]; rfl)))) (q0c hS 1)
 exact e
theorem q9K {m:Md}{a0:(List Int)}{a1:(List Int)}{r:Bool}(hr:q7C a0 a1=some r):Ok Tryz.prog 15 [.d m (.sl 1 (a0.map (A.D.i .i64))),.d m (.sl 1 (a1.map (A.D.i .i64)))] [] (dB r) []:=by
 refine OE Tryz.func15 fun S hS=>?_
 unfold q7C at hr
 refine J (gn 13)<|ifE hr ?_ ?_<;>intro h1 hr
 refine J (gn 8)<|J (lenT 0)<|fun hl1=>bdE hr fun q1 hqq1 hr=>q0b hqq1 hl1 0 (fun k1 _=>[(0,.d m (.sl 1 (a0.map (A.D.i .i64)))),(1,.d m (.sl 1 (a1.map (A.D.i .i64)))),(5,dI (k1:Int))]) (fun k1 _=>[]) I (fun k1 xk1 sk1 ok1 hxk1 hr hltk1 hik1=>?_) fun k1 sk1 ek1 hltk1=>?_
 refine bdE hr fun x1 hx1 hr=>J (gn 24)<|ifE hr ?_ ?_<;>intro h2 hr
 exact e
 exact e
 subst ek1
 exact e
 exact e
theorem z5i {a0:Attribute}{a1:Attribute}{r:Bool}(hr:q5d a0 a1=some r):Ok Tryz.prog 185 [Attribute.x .fz a0,Attribute.x .fz a1] [] (dB r) []:=by
 refine OE Tryz.func185 fun S hS=>?_
 unfold q5d at hr
 refine J g<|J (BX' 0)<|J (BX' 1)<|J (gn 11)<|ifE hr ?_ ?_<;>intro h1 hr
 refine J (gn 11)<|ifE hr ?_ ?_<;>intro h2 hr
 refine J (gn 11)<|ifE hr ?_ ?_<;>intro h3 hr
 refine J g ?_
 refine J (BQn' rfl rfl)<|J (gn 1)<|ifE hr ?_ ?_<;>intro h4 hr
 exact e
 exact e
 exact e
 exact e
 exact e
theorem z3V {m:Md}{a0:(List Attribute)}{a1:(List Attribute)}{r:Bool}(hr:q6N a0 a1=some r):Ok Tryz.prog 145 [.d m (.sl 4 (a0.map Attribute.D)),.d m (.sl 4 (a1.map Attribute.D))] [] (dB r) []:=by
 refine OE Tryz.func145 fun S hS=>?_
 unfold q6N at hr
 refine J (gn 13)<|ifE hr ?_ ?_<;>intro h1 hr
 refine J (gn 8)<|J (lenT 0)<|fun hl1=>bdE hr fun q1 hqq1 hr=>q0b hqq1 hl1 0 (fun k1 _=>[(0,.d m (.sl 4 (a0.map Attribute.D))),(1,.d m (.sl 4 (a1.map Attribute.D))),(5,dI (k1:Int))]) (fun k1 _=>[]) I (fun k1 xk1 sk1 ok1 hxk1 hr hltk1 hik1=>?_) fun k1 sk1 ek1 hltk1=>?_
 refine bdE hr fun x1 hx1 hr=>bdE hr fun y1 hy1 hr=>J g<|J (CB' [] [] (z5i hy1))<|J (gn 2)<|ifE hr ?_ ?_<;>intro h2 hr
 exact e
 exact e
 subst ek1
 exact e
 exact e
theorem z8t {m:Md}{a0:Symbol}{a1:Symbol}{r:Bool}(hr:q7d a0 a1=some r):Ok Tryz.prog 98 [Symbol.x m a0,Symbol.x m a1] [] (dB r) []:=by
 refine OE Tryz.func98 fun S hS=>?_
 unfold q7d at hr
 refine J g<|J (BX' 0)<|J (BX' 1)<|J (gn 11)<|ifE hr ?_ ?_<;>intro h1 hr
 refine bdE hr fun y1 hy1 hr=>J g<|J (CB' [] [] (z3V (m:=m) hy1))<|J (gn 2)<|ifE hr ?_ ?_<;>intro h2 hr
 exact e
 exact e
 exact e
theorem z7g {m:Md}{a0:(List Symbol)}{a1:(List Symbol)}{r:Bool}(hr:q8W a0 a1=some r):Ok Tryz.prog 51 [.d m (.sl 2 (a0.map Symbol.D)),.d m (.sl 2 (a1.map Symbol.D))] [] (dB r) []:=by
 refine OE Tryz.func51 fun S hS=>?_
 unfold q8W at hr
 refine J (gn 13)<|ifE hr ?_ ?_<;>intro h1 hr
 refine J (gn 8)<|J (lenT 0)<|fun hl1=>bdE hr fun q1 hqq1 hr=>q0b hqq1 hl1 0 (fun k1 _=>[(0,.d m (.sl 2 (a0.map Symbol.D))),(1,.d m (.sl 2 (a1.map Symbol.D))),(5,dI (k1:Int))]) (fun k1 _=>[]) I (fun k1 xk1 sk1 ok1 hxk1 hr hltk1 hik1=>?_) fun k1 sk1 ek1 hltk1=>?_
 refine bdE hr fun x1 hx1 hr=>bdE hr fun y1 hy1 hr=>J g<|J (CB' [] [] (z8t (m:=m) hy1))<|J (gn 2)<|ifE hr ?_ ?_<;>intro h2 hr
 exact e
 exact e
 subst ek1
 exact e
 exact e
theorem z7h {m:Md}{a0:(List ByteArray)}{a1:(List ByteArray)}{r:Bool}(hr:q8X a0 a1=some r):Ok Tryz.prog 146 [.d m (.sl 1 (a0.map A.D.s)),.d m (.sl 1 (a1.map A.D.s))] [] (dB r) []:=by
 refine OE Tryz.func146 fun S hS=>?_
 unfold q8X at hr
 refine J (gn 13)<|ifE hr ?_ ?_<;>intro h1 hr
 refine J (gn 8)<|J (lenT 0)<|fun hl1=>bdE hr fun q1 hqq1 hr=>q0b hqq1 hl1 0 (fun k1 _=>[(0,.d m (.sl 1 (a0.map A.D.s))),(1,.d m (.sl 1 (a1.map A.D.s))),(5,dI (k1:Int))]) (fun k1 _=>[]) I (fun k1 xk1 sk1 ok1 hxk1 hr hltk1 hik1=>?_) fun k1 sk1 ek1 hltk1=>?_
 refine bdE hr fun x1 hx1 hr=>J (gn 24)<|ifE hr ?_ ?_<;>intro h2 hr
 exact e
 exact e
 subst ek1
 exact e
 exact e
theorem z3W {a0:Occurrence}{a1:Occurrence}{r:Bool}(hr:q5y a0 a1=some r):Ok Tryz.prog 204 [Occurrence.x .fz a0,Occurrence.x .fz a1] [] (dB r) []:=by
 refine OE Tryz.func204 fun S hS=>?_
 unfold q5y at hr
 refine J g<|J (BX' 0)<|J (BX' 1)<|J (gn 11)<|ifE hr ?_ ?_<;>intro h1 hr
 refine J (gn 11)<|ifE hr ?_ ?_<;>intro h2 hr
 exact e
 exact e
 exact e
theorem z9P {rec_weqExpr:Expr→Expr→Option Bool}(ih_weqExpr:∀ {m:Md} {a0:Expr} {a1:Expr} {r:Bool},rec_weqExpr a0 a1=some r→Ok Tryz.prog 205 [Expr.x m a0,Expr.x m a1] [] (dB r) []){m:Md}{a0:(List Expr)}{a1:(List Expr)}{r:Bool}(hr:z1k rec_weqExpr a0 a1=some r):Ok Tryz.prog 211 [.d m (.sl 7 (a0.map Expr.D)),.d m (.sl 7 (a1.map Expr.D))] [] (dB r) []:=by
 refine OE Tryz.func211 fun S hS=>?_
 unfold z1k at hr
 refine J (gn 13)<|ifE hr ?_ ?_<;>intro h1 hr
 refine J (gn 8)<|J (lenT 0)<|fun hl1=>bdE hr fun q1 hqq1 hr=>q0b hqq1 hl1 0 (fun k1 _=>[(0,.d m (.sl 7 (a0.map Expr.D))),(1,.d m (.sl 7 (a1.map Expr.D))),(5,dI (k1:Int))]) (fun k1 _=>[]) I (fun k1 xk1 sk1 ok1 hxk1 hr hltk1 hik1=>?_) fun k1 sk1 ek1 hltk1=>?_
 refine bdE hr fun x1 hx1 hr=>bdE hr fun y1 hy1 hr=>J g<|J (CB' [] [] (ih_weqExpr (m:=m) hy1))<|J (gn 2)<|ifE hr ?_ ?_<;>intro h2 hr
 exact e
 exact e
 subst ek1
 exact e
 exact e
theorem z9Q {rec_weqExpr:Expr→Expr→Option Bool}(ih_weqExpr:∀ {m:Md} {a0:Expr} {a1:Expr} {r:Bool},rec_weqExpr a0 a1=some r→Ok Tryz.prog 205 [Expr.x m a0,Expr.x m a1] [] (dB r) []){m:Md}{a0:Expr}{a1:Expr}{r:Bool}(hr:z0K rec_weqExpr a0 a1=some r):Ok Tryz.prog 205 [Expr.x m a0,Expr.x m a1] [] (dB r) []:=by
 refine OE Tryz.func205 fun S hS=>?_
 unfold z0K at hr
 refine J g<|J (BX' 0)<|J (BX' 1)<|J (gn 11)<|ifE hr ?_ ?_<;>intro h1 hr
 refine J (gn 11)<|ifE hr ?_ ?_<;>intro h2 hr
 refine J (gn 11)<|ifE hr ?_ ?_<;>intro h3 hr
 refine J (gn 11)<|ifE hr ?_ ?_<;>intro h4 hr
 refine J (gn 11)<|ifE hr ?_ ?_<;>intro h5 hr
 refine J (gn 11)<|ifE hr ?_ ?_<;>intro h6 hr
 refine bdE hr fun y1 hy1 hr=>J g<|J (CB' [] [] (z9P ih_weqExpr (m:=m) hy1))<|J (gn 2)<|ifE hr ?_ ?_<;>intro h7 hr
 exact e
 exact e
 exact e
 exact e
 exact e
 exact e
 exact e
 exact e
theorem z9R (n:Nat):∀ {m:Md} {a0:Expr} {a1:Expr} {r:Bool},q7D n a0 a1=some r→Ok Tryz.prog 205 [Expr.x m a0,Expr.x m a1] [] (dB r) []:=by
  induction n with
  | zero=>intro _ _ _ r hr; exact nomatch (show (none:Option Bool)=some r from hr)
  | succ n ih=>intro _ _ _ r hr; exact z9Q ih hr
theorem z3b {m:Md}{a0:Expr}{a1:Expr}{r:Bool}(hr:z0L a0 a1=some r):Ok Tryz.prog 205 [Expr.x m a0,Expr.x m a1] [] (dB r) []:=by
 obtain⟨n,hn⟩:=q4j hr
 exact z9R n hn
theorem z5P {m:Md}{a0:Equation}{a1:Equation}{r:Bool}(hr:q5J a0 a1=some r):Ok Tryz.prog 186 [Equation.x m a0,Equation.x m a1] [] (dB r) []:=by
 refine OE Tryz.func186 fun S hS=>?_
 unfold q5J at hr
 refine J g<|J (BX' 0)<|J (BX' 1)<|bdE hr fun y1 hy1 hr=>J g<|J (CB' [] [] (z3W hy1))<|J (gn 2)<|ifE hr ?_ ?_<;>intro h1 hr
 refine bdE hr fun y2 hy2 hr=>J g<|J (CB' [] [] (z3b (m:=m) hy2))<|J (gn 2)<|ifE hr ?_ ?_<;>intro h2 hr
 exact e
 exact e
 exact e
theorem z5j {m:Md}{a0:(List Equation)}{a1:(List Equation)}{r:Bool}(hr:q7p a0 a1=some r):Ok Tryz.prog 147 [.d m (.sl 9 (a0.map Equation.D)),.d m (.sl 9 (a1.map Equation.D))] [] (dB r) []:=by
 refine OE Tryz.func147 fun S hS=>?_
 unfold q7p at hr
 refine J (gn 13)<|ifE hr ?_ ?_<;>intro h1 hr
 refine J (gn 8)<|J (lenT 0)<|fun hl1=>bdE hr fun q1 hqq1 hr=>q0b hqq1 hl1 0 (fun k1 _=>[(0,.d m (.sl 9 (a0.map Equation.D))),(1,.d m (.sl 9 (a1.map Equation.D))),(5,dI (k1:Int))]) (fun k1 _=>[]) I (fun k1 xk1 sk1 ok1 hxk1 hr hltk1 hik1=>?_) fun k1 sk1 ek1 hltk1=>?_
 refine bdE hr fun x1 hx1 hr=>bdE hr fun y1 hy1 hr=>J g<|J (CB' [] [] (z5P (m:=m) hy1))<|J (gn 2)<|ifE hr ?_ ?_<;>intro h2 hr
 exact e
 exact e
 subst ek1
 exact e
 exact e
theorem z2n {m:Md}{a0:Contribution}{a1:Contribution}{r:Bool}(hr:q4s a0 a1=some r):Ok Tryz.prog 187 [Contribution.x m a0,Contribution.x m a1] [] (dB r) []:=by
 refine OE Tryz.func187 fun S hS=>?_
 unfold q4s at hr
 refine J g<|J (BX' 0)<|J (BX' 1)<|J (gn 11)<|ifE hr ?_ ?_<;>intro h1 hr
 refine J (gn 11)<|ifE hr ?_ ?_<;>intro h2 hr
 refine bdE hr fun y1 hy1 hr=>J g<|J (CB' [] [] (z3b (m:=m) hy1))<|J (gn 2)<|ifE hr ?_ ?_<;>intro h3 hr
 refine bdE hr fun y2 hy2 hr=>J g<|J (CB' [] [] (z3b (m:=m) hy2))<|J (gn 2)<|ifE hr ?_ ?_<;>intro h4 hr
 exact e
 exact e
 exact e
 exact e
 exact e
theorem z1E {m:Md}{a0:(List Contribution)}{a1:(List Contribution)}{r:Bool}(hr:q5h a0 a1=some r):Ok Tryz.prog 148 [.d m (.sl 16 (a0.map Contribution.D)),.d m (.sl 16 (a1.map Contribution.D))] [] (dB r) []:=by
 refine OE Tryz.func148 fun S hS=>?_
 unfold q5h at hr
 refine J (gn 13)<|ifE hr ?_ ?_<;>intro h1 hr
 refine J (gn 8)<|J (lenT 0)<|fun hl1=>bdE hr fun q1 hqq1 hr=>q0b hqq1 hl1 0 (fun k1 _=>[(0,.d m (.sl 16 (a0.map Contribution.D))),(1,.d m (.sl 16 (a1.map Contribution.D))),(5,dI (k1:Int))]) (fun k1 _=>[]) I (fun k1 xk1 sk1 ok1 hxk1 hr hltk1 hik1=>?_) fun k1 sk1 ek1 hltk1=>?_
 refine bdE hr fun x1 hx1 hr=>bdE hr fun y1 hy1 hr=>J g<|J (CB' [] [] (z2n (m:=m) hy1))<|J (gn 2)<|ifE hr ?_ ?_<;>intro h2 hr
 exact e
 exact e
 subst ek1
 exact e
 exact e
theorem j1E {m:Md}{a0:Rule}{a1:Rule}{r:Bool}(hr:q9G a0 a1=some r):Ok Tryz.prog 99 [Rule.x m a0,Rule.x m a1] [] (dB r) []:=by
 refine OE Tryz.func99 fun S hS=>?_
 unfold q9G at hr
 refine J g<|J (BX' 0)<|J (BX' 1)<|J (gn 11)<|ifE hr ?_ ?_<;>intro h1 hr
 refine J (gn 11)<|ifE hr ?_ ?_<;>intro h2 hr
 refine bdE hr fun y1 hy1 hr=>J g<|J (CB' [] [] (z7h (m:=m) hy1))<|J (gn 2)<|ifE hr ?_ ?_<;>intro h3 hr
 refine J g ?_
 refine J (BQn' rfl rfl)<|J (gn 1)<|ifE hr ?_ ?_<;>intro h4 hr
 refine bdE hr fun y2 hy2 hr=>J g<|J (CB' [] [] (z5j (m:=m) hy2))<|J (gn 2)<|ifE hr ?_ ?_<;>intro h5 hr
 refine bdE hr fun y3 hy3 hr=>J g<|J (CB' [] [] (z1E (m:=m) hy3))<|J (gn 2)<|ifE hr ?_ ?_<;>intro h6 hr
 exact e
 exact e
 exact e
 exact e
 exact e
 exact e
 exact e
theorem z9S {m:Md}{a0:(List Rule)}{a1:(List Rule)}{r:Bool}(hr:z1l a0 a1=some r):Ok Tryz.prog 52 [.d m (.sl 6 (a0.map Rule.D)),.d m (.sl 6 (a1.map Rule.D))] [] (dB r) []:=by
 refine OE Tryz.func52 fun S hS=>?_
 unfold z1l at hr
 refine J (gn 13)<|ifE hr ?_ ?_<;>intro h1 hr
 refine J (gn 8)<|J (lenT 0)<|fun hl1=>bdE hr fun q1 hqq1 hr=>q0b hqq1 hl1 0 (fun k1 _=>[(0,.d m (.sl 6 (a0.map Rule.D))),(1,.d m (.sl 6 (a1.map Rule.D))),(5,dI (k1:Int))]) (fun k1 _=>[]) I (fun k1 xk1 sk1 ok1 hxk1 hr hltk1 hik1=>?_) fun k1 sk1 ek1 hltk1=>?_
 refine bdE hr fun x1 hx1 hr=>bdE hr fun y1 hy1 hr=>J g<|J (CB' [] [] (j1E (m:=m) hy1))<|J (gn 2)<|ifE hr ?_ ?_<;>intro h2 hr
 exact e
 exact e
 subst ek1
 exact e
 exact e
theorem z7i {m:Md}{a0:Grammar}{a1:Grammar}{r:Bool}(hr:q7E a0 a1=some r):Ok Tryz.prog 16 [Grammar.x m a0,Grammar.x m a1] [] (dB r) []:=by
 refine OE Tryz.func16 fun S hS=>?_
 unfold q7E at hr
 refine J g<|J (BX' 0)<|J (BX' 1)<|bdE hr fun y1 hy1 hr=>J g<|J (CB' [] [] (z7g (m:=m) hy1))<|J (gn 2)<|ifE hr ?_ ?_<;>intro h1 hr
 refine bdE hr fun y2 hy2 hr=>J g<|J (CB' [] [] (z9S (m:=m) hy2))<|J (gn 2)<|ifE hr ?_ ?_<;>intro h2 hr
 exact e
 exact e
 exact e
theorem j1F {m:Md}{a0:Node}{a1:Node}{r:Bool}(hr:q9H a0 a1=some r):Ok Tryz.prog 100 [Node.x m a0,Node.x m a1] [] (dB r) []:=by
 refine OE Tryz.func100 fun S hS=>?_
 unfold q9H at hr
 refine J g<|J (BX' 0)<|J (BX' 1)<|J (gn 11)<|ifE hr ?_ ?_<;>intro h1 hr
 refine J (gn 11)<|ifE hr ?_ ?_<;>intro h2 hr
 refine J (gn 11)<|ifE hr ?_ ?_<;>intro h3 hr
 refine J (gn 11)<|ifE hr ?_ ?_<;>intro h4 hr
 refine J (gn 11)<|ifE hr ?_ ?_<;>intro h5 hr
 refine bdE hr fun y1 hy1 hr=>J g<|J (CB' [] [] (q9K (m:=m) hy1))<|J (gn 2)<|ifE hr ?_ ?_<;>intro h6 hr
 exact e
 exact e
 exact e
 exact e
 exact e
 exact e
 exact e
theorem z9T {m:Md}{a0:(List Node)}{a1:(List Node)}{r:Bool}(hr:z1m a0 a1=some r):Ok Tryz.prog 53 [.d m (.sl 6 (a0.map Node.D)),.d m (.sl 6 (a1.map Node.D))] [] (dB r) []:=by
 refine OE Tryz.func53 fun S hS=>?_
 unfold z1m at hr
 refine J (gn 13)<|ifE hr ?_ ?_<;>intro h1 hr
 refine J (gn 8)<|J (lenT 0)<|fun hl1=>bdE hr fun q1 hqq1 hr=>q0b hqq1 hl1 0 (fun k1 _=>[(0,.d m (.sl 6 (a0.map Node.D))),(1,.d m (.sl 6 (a1.map Node.D))),(5,dI (k1:Int))]) (fun k1 _=>[]) I (fun k1 xk1 sk1 ok1 hxk1 hr hltk1 hik1=>?_) fun k1 sk1 ek1 hltk1=>?_
 refine bdE hr fun x1 hx1 hr=>bdE hr fun y1 hy1 hr=>J g<|J (CB' [] [] (j1F (m:=m) hy1))<|J (gn 2)<|ifE hr ?_ ?_<;>intro h2 hr
 exact e
 exact e
 subst ek1
 exact e
 exact e
theorem j1G {m:Md}{a0:Tree}{a1:Tree}{r:Bool}(hr:z0N a0 a1=some r):Ok Tryz.prog 17 [Tree.x m a0,Tree.x m a1] [] (dB r) []:=by
 refine OE Tryz.func17 fun S hS=>?_
 unfold z0N at hr
 refine J g<|J (BX' 0)<|J (BX' 1)<|bdE hr fun y1 hy1 hr=>J g<|J (CB' [] [] (z9T (m:=m) hy1))<|J (gn 2)<|ifE hr ?_ ?_<;>intro h1 hr
 exact e
 exact e
theorem z1u {a0:Instance}{a1:Instance}{r:Bool}(hr:q4U a0 a1=some r):Ok Tryz.prog 55 [Instance.x .fz a0,Instance.x .fz a1] [] (dB r) []:=by
 refine OE Tryz.func55 fun S hS=>?_
 unfold q4U at hr
 refine J g<|J (BX' 0)<|J (BX' 1)<|J (gn 11)<|ifE hr ?_ ?_<;>intro h1 hr
 refine J (gn 11)<|ifE hr ?_ ?_<;>intro h2 hr
 exact e
 exact e
 exact e
theorem z0Q {m:Md}{a0:(List Instance)}{a1:(List Instance)}{r:Bool}(hr:q6a a0 a1=some r):Ok Tryz.prog 19 [.d m (.sl 2 (a0.map Instance.D)),.d m (.sl 2 (a1.map Instance.D))] [] (dB r) []:=by
 refine OE Tryz.func19 fun S hS=>?_
 unfold q6a at hr
 refine J (gn 13)<|ifE hr ?_ ?_<;>intro h1 hr
 refine J (gn 8)<|J (lenT 0)<|fun hl1=>bdE hr fun q1 hqq1 hr=>q0b hqq1 hl1 0 (fun k1 _=>[(0,.d m (.sl 2 (a0.map Instance.D))),(1,.d m (.sl 2 (a1.map Instance.D))),(5,dI (k1:Int))]) (fun k1 _=>[]) I (fun k1 xk1 sk1 ok1 hxk1 hr hltk1 hik1=>?_) fun k1 sk1 ek1 hltk1=>?_
 refine bdE hr fun x1 hx1 hr=>bdE hr fun y1 hy1 hr=>J g<|J (CB' [] [] (z1u hy1))<|J (gn 2)<|ifE hr ?_ ?_<;>intro h2 hr
 exact e
 exact e
 subst ek1
 exact e
 exact e
theorem z5k {m:Md}{a0:TraceStep}{a1:TraceStep}{r:Bool}(hr:q5e a0 a1=some r):Ok Tryz.prog 54 [TraceStep.x m a0,TraceStep.x m a1] [] (dB r) []:=by
 refine OE Tryz.func54 fun S hS=>?_
 unfold q5e at hr
 refine J g<|J (BX' 0)<|J (BX' 1)<|bdE hr fun y1 hy1 hr=>J g<|J (CB' [] [] (z1u hy1))<|J (gn 2)<|ifE hr ?_ ?_<;>intro h1 hr
 refine bdE hr fun y2 hy2 hr=>J g<|J (CB' [] [] (z0Q (m:=m) hy2))<|J (gn 2)<|ifE hr ?_ ?_<;>intro h2 hr
 exact e
 exact e
 exact e
theorem z3X {m:Md}{a0:(List TraceStep)}{a1:(List TraceStep)}{r:Bool}(hr:q6O a0 a1=some r):Ok Tryz.prog 18 [.d m (.sl 3 (a0.map TraceStep.D)),.d m (.sl 3 (a1.map TraceStep.D))] [] (dB r) []:=by
 refine OE Tryz.func18 fun S hS=>?_
 unfold q6O at hr
 refine J (gn 13)<|ifE hr ?_ ?_<;>intro h1 hr
 refine J (gn 8)<|J (lenT 0)<|fun hl1=>bdE hr fun q1 hqq1 hr=>q0b hqq1 hl1 0 (fun k1 _=>[(0,.d m (.sl 3 (a0.map TraceStep.D))),(1,.d m (.sl 3 (a1.map TraceStep.D))),(5,dI (k1:Int))]) (fun k1 _=>[]) I (fun k1 xk1 sk1 ok1 hxk1 hr hltk1 hik1=>?_) fun k1 sk1 ek1 hltk1=>?_
 refine bdE hr fun x1 hx1 hr=>bdE hr fun y1 hy1 hr=>J g<|J (CB' [] [] (z5k (m:=m) hy1))<|J (gn 2)<|ifE hr ?_ ?_<;>intro h2 hr
 exact e
 exact e
 subst ek1
 exact e
 exact e
theorem q3D {a0:Int}{r:ByteArray}(hr:q3y a0=some r):Ok Tryz.prog 59 [dI a0] [] (dS r) []:=by
 refine OE Tryz.func59 fun S hS=>?_
 unfold q3y at hr
 refine J (gn 10)<|ifE hr ?_ ?_<;>intro h1 hr
 exact e
 refine bdE hr fun s1 hqq1 hr=>J (gn 7)<|q0g 0 [(3,dS s1)] [] ?_ ?_
 refine J g<|q0h hqq1 0 (fun (s2,s3)=>[(0,dI s2),(3,dS s3)]) (fun (s2,s3)=>[]) I fun sk1 ok1 hr hik1=>?_
 obtain⟨s2,s3⟩:=sk1
 have hr:=hr
 refine J (gn 6)<|ifE hr ?_ ?_<;>intro h2 hr
 refine J g<|J (OB' _ (bRem (b:=10) (by decide)))<|ggE hr fun g1 hr=>J g ?_
 refine J (CIB' rfl)<|J (LIR' 0 (m:=.fz) (f:=byD) (xs:=([(UInt8.ofNat ((48+(s2.tmod 10)) % 256).toNat)]:List UInt8))) ?_
 refine J (TS' rfl rfl)<|ggE hr fun g2 hr=>J g<|J (OB' _ (j6N g2))<|ggE hr fun g3 hr=>J g<|J (OB' _ (bQuo (b:=10) (by decide) g3))<|J g<|E
 refine J (gn 2) ?_
 cases hr
 cases hik1 _ rfl
 exact q0c hS 0
 refine ggE hr fun g4 hr=>J g<|J (OB' _ (j6N g4))<|e
theorem z2o {a0:(List Attribute)}{a1:Int}{r:(Int × (List Attribute))}(hr:q5K a0 a1=some r):Ok Tryz.prog 101 [.ref 0 none,dI a1] [.row .fz 4 (a0.map Attribute.D)] (dI r.1) [.row .fz 4 (r.2.map Attribute.D)]:=by
 refine OE Tryz.func101 fun S hS=>?_
 unfold q5K at hr
 refine bdP hr fun s1 s2 hqq1 hr=>J (gn 9)<|q0g 1 [(1,dI s1)] [(0,.row .fz 4 (s2.map Attribute.D))] ?_ ?_
 refine J g<|q0h hqq1 1 (fun (s3,s4,s5)=>[(0,.ref 0 none),(1,dI s3),(5,dI s4)]) (fun (s3,s4,s5)=>[(0,.row .fz 4 (s5.map Attribute.D))]) I fun sk1 ok1 hr hik1=>?_
 obtain⟨s3,s4,s5⟩:=sk1
 have hr:=hr
 refine J (gn 8)<|ifE hr ?_ ?_<;>intro h1 hr
 refine bdE hr fun y1 hy1 hr=>J g<|J (CB' [] [] (q3D hy1))<|ggE hr fun g1 hr=>bdE hr fun x1 hx1 hr=>J g<|J (SE' (⟨y1,x1.Type_,x1.Mode,x1.Circular⟩:Attribute) hx1)<|ggE hr fun g2 hr=>ggE hr fun g3 hr=>bdE hr fun x2 hx2 hr=>J g<|J (SE' (⟨x2.Name,(s3+1),x2.Mode,x2.Circular⟩:Attribute) hx2)<|ggE hr fun g4 hr=>ggE hr fun g5 hr=>bdE hr fun x3 hx3 hr=>J g<|J (SE' (⟨x3.Name,x3.Type_,((s3+1)+1),x3.Circular⟩:Attribute) hx3)<|ggE hr fun g6 hr=>J g<|J (OB' _ (bRem (b:=3) (by decide)))<|ggE hr fun g7 hr=>bdE hr fun x4 hx4 hr=>J g<|J (SE' (⟨x4.Name,x4.Type_,x4.Mode,decide (((((s3+1)+1)+1).tmod 3)=0)⟩:Attribute) hx4)<|ggE hr fun g8 hr=>ggE hr fun g9 hr=>?_
 exact e
 refine J (gn 2) ?_
 cases hr
 cases hik1 _ rfl
 exact q0c hS 1
 exact e
theorem z5l {a0:(List Symbol)}{a1:Int}{r:(Int × (List Symbol))}(hr:q7q a0 a1=some r):Ok Tryz.prog 56 [.ref 0 none,dI a1] [.deep .fz 2 (a0.map Symbol.W) []] (dI r.1) [.deep .fz 2 (r.2.map Symbol.W) []]:=by
 refine OE Tryz.func56 fun S hS=>?_
 unfold q7q at hr
 refine bdP hr fun s1 s2 hqq1 hr=>J (gn 9)<|q0g 1 [(1,dI s1)] [(0,.deep .fz 2 (s2.map Symbol.W) [])] ?_ ?_
 refine J g<|q0h hqq1 1 (fun (s3,s4,s5)=>[(0,.ref 0 none),(1,dI s3),(5,dI s4)]) (fun (s3,s4,s5)=>[(0,.deep .fz 2 (s5.map Symbol.W) [])]) I fun sk1 ok1 hr hik1=>?_
 obtain⟨s3,s4,s5⟩:=sk1
 have hr:=hr
 refine J g<|J (LEd' s5.length)<|J (gn 2)<|ifE hr ?_ ?_<;>intro h1 hr
 refine bdE hr fun y1 hy1 hr=>J g<|J (CB' [] [] (q3D hy1))<|ggE hr fun g1 hr=>bdE hr fun x1 hx1 hr=>J (IEd' g1 (q3o hx1))<|J g<|J (SD' [.d .fz (.s y1)] [] (q3o hx1))<|ggE hr fun g2 hr=>J g<|J (IEd' g1 (q3n (q3o hx1)))<|J (gn 1)<|J (q0l 0 s4.toNat 1 1 (q3n (q3o hx1)))<|J (LPd' [(1,1)] (q3n (q3n (q3o hx1))))<|bdP hr fun y2 z1 hq2 hr=>J g<|J (CB' [(0,1)] [] (z2o hq2))<|ggE hr fun g3 hr=>J (gn 7) ?_
 cases hr
 exact⟨_,rfl,GH.trans (q0k 0 s4.toNat 1 1 (q3n (q3n (q3o hx1))) (hx:=.flatM (fun _=>rfl))) (GH.trans (q0j 0 (he:=eset (f:=Symbol.W) (x':=(⟨y1,z1⟩:Symbol)) (by first | rfl | (simp only [List.set_set]; rfl)))) (q0c hS 1))⟩
 refine J (gn 2) ?_
 cases hr
 cases hik1 _ rfl
 exact q0c hS 1
 exact e
theorem z5m {a0:(List ByteArray)}{a1:Int}{r:(Int × (List ByteArray))}(hr:q6b a0 a1=some r):Ok Tryz.prog 102 [.ref 0 none,dI a1] [.row .fz 1 (a0.map A.D.s)] (dI r.1) [.row .fz 1 (r.2.map A.D.s)]:=by
 refine OE Tryz.func102 fun S hS=>?_
 unfold q6b at hr
 refine bdP hr fun s1 s2 hqq1 hr=>J (gn 9)<|q0g 1 [(1,dI s1)] [(0,.row .fz 1 (s2.map A.D.s))] ?_ ?_
 refine J g<|q0h hqq1 1 (fun (s3,s4,s5)=>[(0,.ref 0 none),(1,dI s3),(5,dI s4)]) (fun (s3,s4,s5)=>[(0,.row .fz 1 (s5.map A.D.s))]) I fun sk1 ok1 hr hik1=>?_
 obtain⟨s3,s4,s5⟩:=sk1
 have hr:=hr
 refine J (gn 8)<|ifE hr ?_ ?_<;>intro h1 hr
 refine bdE hr fun y1 hy1 hr=>J g<|J (CB' [] [] (q3D hy1))<|ggE hr fun g1 hr=>bdE hr fun x1 hx1 hr=>J g<|J (SE' y1 hx1)<|ggE hr fun g2 hr=>ggE hr fun g3 hr=>e
 refine J (gn 2) ?_
 cases hr
 cases hik1 _ rfl
 exact q0c hS 1
 exact e
theorem z5Q {rec_wmarkExprS:(List Expr)→Int→Option (Int × (List Expr))}(ih_wmarkExprS:∀ {a0:(List Expr)} {a1:Int} {r:(Int × (List Expr))},rec_wmarkExprS a0 a1=some r→Ok Tryz.prog 149 [.ref 0 none,dI a1] [.deep .fz 7 (a0.map Expr.W) []] (dI r.1) [.deep .fz 7 (r.2.map Expr.W) []]){a0:(List Expr)}{a1:Int}{r:(Int × (List Expr))}(hr:q7F rec_wmarkExprS a0 a1=some r):Ok Tryz.prog 149 [.ref 0 none,dI a1] [.deep .fz 7 (a0.map Expr.W) []] (dI r.1) [.deep .fz 7 (r.2.map Expr.W) []]:=by
 refine OE Tryz.func149 fun S hS=>?_
 unfold q7F at hr
 refine bdP hr fun s1 s2 hqq1 hr=>J (gn 9)<|q0g 1 [(1,dI s1)] [(0,.deep .fz 7 (s2.map Expr.W) [])] ?_ ?_
 refine J g<|q0h hqq1 1 (fun (s3,s4,s5)=>[(0,.ref 0 none),(1,dI s3),(5,dI s4)]) (fun (s3,s4,s5)=>[(0,.deep .fz 7 (s5.map Expr.W) [])]) I fun sk1 ok1 hr hik1=>?_
 obtain⟨s3,s4,s5⟩:=sk1
 have hr:=hr
 refine J g<|J (LEd' s5.length)<|J (gn 2)<|ifE hr ?_ ?_<;>intro h1 hr
 refine ggE hr fun g1 hr=>bdE hr fun x1 hx1 hr=>J g<|J (IEd' g1 (q3o hx1))<|J g<|J (SD' [.d .fz (.i .i64 s3)] [] (q3o hx1))<|ggE hr fun g2 hr=>J g<|J (IEd' g1 (q3n (q3o hx1)))<|J g<|J (SD' [.d .fz (.i .i64 (s3+1))] [] (q3n (q3o hx1)))<|ggE hr fun g3 hr=>J g<|J (IEd' g1 (q3n (q3n (q3o hx1))))<|J g<|J (SD' [.d .fz (.i .i64 ((s3+1)+1))] [] (q3n (q3n (q3o hx1))))<|ggE hr fun g4 hr=>J g<|J (IEd' g1 (q3n (q3n (q3n (q3o hx1)))))<|J g<|J (SD' [.d .fz (.i .i64 (((s3+1)+1)+1))] [] (q3n (q3n (q3n (q3o hx1)))))<|ggE hr fun g5 hr=>bdE hr fun y1 hy1 hr=>J g<|J (CB' [] [] (q3D hy1))<|J (IEd' g1 (q3n (q3n (q3n (q3n (q3o hx1)))))) ?_
 refine J g<|J (SD' [.d .fz (.s y1)] [] (q3n (q3n (q3n (q3n (q3o hx1))))))<|ggE hr fun g6 hr=>bdE hr fun y2 hy2 hr=>J g<|J (CB' [] [] (q3D hy2))<|J (IEd' g1 (q3n (q3n (q3n (q3n (q3n (q3o hx1)))))))<|J g<|J (SD' [.d .fz (.s y2)] [] (q3n (q3n (q3n (q3n (q3n (q3o hx1)))))))<|ggE hr fun g7 hr=>J g<|J (IEd' g1 (q3n (q3n (q3n (q3n (q3n (q3n (q3o hx1))))))))<|J (gn 1)<|J (q0l 0 s4.toNat 6 1 (q3n (q3n (q3n (q3n (q3n (q3n (q3o hx1))))))))<|J (LPd' [(6,1)] (q3n (q3n (q3n (q3n (q3n (q3n (q3n (q3o hx1)))))))))<|bdP hr fun y3 z1 hq2 hr=>J g<|J (CB' [(0,1)] [] (ih_wmarkExprS hq2))<|ggE hr fun g8 hr=>J (gn 7) ?_
 cases hr
 exact⟨_,rfl,GH.trans (q0k 0 s4.toNat 6 1 (q3n (q3n (q3n (q3n (q3n (q3n (q3n (q3o hx1)))))))) (hx:=.ownM (f:=Expr.D))) (GH.trans (q0j 0 (he:=eset (f:=Expr.W) (x':=(⟨s3,(s3+1),((s3+1)+1),(((s3+1)+1)+1),y1,y2,z1⟩:Expr)) (by first | rfl | (simp only [List.set_set]; rfl)))) (q0c hS 1))⟩
 refine J (gn 2) ?_
 cases hr
 cases hik1 _ rfl
 exact q0c hS 1
 exact e
theorem z5R (n:Nat):∀ {a0:(List Expr)} {a1:Int} {r:(Int × (List Expr))},q7G n a0 a1=some r→Ok Tryz.prog 149 [.ref 0 none,dI a1] [.deep .fz 7 (a0.map Expr.W) []] (dI r.1) [.deep .fz 7 (r.2.map Expr.W) []]:=by
  induction n with
  | zero=>intro _ _ r hr; exact nomatch (show (none:Option (Int × (List Expr)))=some r from hr)
  | succ n ih=>intro _ _ r hr; exact z5Q ih hr
theorem q9Z {a0:(List Expr)}{a1:Int}{r:(Int × (List Expr))}(hr:q7H a0 a1=some r):Ok Tryz.prog 149 [.ref 0 none,dI a1] [.deep .fz 7 (a0.map Expr.W) []] (dI r.1) [.deep .fz 7 (r.2.map Expr.W) []]:=by
 obtain⟨n,hn⟩:=q4j hr
 exact z5R n hn
theorem z3c {a0:(List Equation)}{a1:Int}{r:(Int × (List Equation))}(hr:q6f a0 a1=some r):Ok Tryz.prog 103 [.ref 0 none,dI a1] [.deep .fz 9 (a0.map Equation.W) []] (dI r.1) [.deep .fz 9 (r.2.map Equation.W) []]:=by
 refine OE Tryz.func103 fun S hS=>?_
 unfold q6f at hr
 refine bdP hr fun s1 s2 hqq1 hr=>J (gn 9)<|q0g 1 [(1,dI s1)] [(0,.deep .fz 9 (s2.map Equation.W) [])] ?_ ?_
 refine J g<|q0h hqq1 1 (fun (s3,s4,s5)=>[(0,.ref 0 none),(1,dI s3),(5,dI s4)]) (fun (s3,s4,s5)=>[(0,.deep .fz 9 (s5.map Equation.W) [])]) I fun sk1 ok1 hr hik1=>?_
 obtain⟨s3,s4,s5⟩:=sk1
 have hr:=hr
 refine J g<|J (LEd' s5.length)<|J (gn 2)<|ifE hr ?_ ?_<;>intro h1 hr
 refine ggE hr fun g1 hr=>bdE hr fun x1 hx1 hr=>J g<|J (IEd' g1 (q3o hx1))<|J g<|J (SD' [.d .fz (.i .i64 s3)] [] (q3o hx1))<|ggE hr fun g2 hr=>bdE hr fun y1 hy1 hr=>J g<|J (CB' [] [] (q3D hy1))<|J (IEd' g1 (q3n (q3o hx1)))<|J g<|J (SD' [.d .fz (.s y1)] [] (q3n (q3o hx1)))<|ggE hr fun g3 hr=>J g<|J (IEd' g1 (q3n (q3n (q3o hx1))))<|J g<|J (SD' [.d .fz (.i .i64 ((s3+1)+1))] [] (q3n (q3n (q3o hx1)))) ?_
 refine q0m 0 rfl (he:=enr3 (c:=[Cell.d Md.fz (.i .i64 s3),Cell.d Md.fz (.s y1),Cell.d Md.fz (.i .i64 ((s3+1)+1)),Cell.d Md.fz (.i .i64 x1.Expr.N),Cell.d Md.fz (.i .i64 x1.Expr.Pos),Cell.d Md.fz (.i .i64 x1.Expr.Type_),Cell.d Md.fz (.s x1.Expr.Symbol),Cell.d Md.fz (.s x1.Expr.Name),.w 7 (x1.Expr.Args.map Expr.D)]) rfl) ?_
 refine ggE hr fun g4 hr=>J g<|J (IEd' g1 (q3n (q3o hx1)))<|J g<|J (SD' [.d .fz (.i .i64 (((s3+1)+1)+1))] [] (q3n (q3o hx1)))<|ggE hr fun g5 hr=>J g<|J (IEd' g1 (q3n (q3n (q3o hx1))))<|J g<|J (SD' [.d .fz (.i .i64 ((((s3+1)+1)+1)+1))] [] (q3n (q3n (q3o hx1)))) ?_
 refine q0m 0 rfl (he:=enr3 (c:=[Cell.d Md.fz (.i .i64 s3),Cell.d Md.fz (.s y1),Cell.d Md.fz (.i .i64 ((s3+1)+1)),Cell.d Md.fz (.i .i64 (((s3+1)+1)+1)),Cell.d Md.fz (.i .i64 ((((s3+1)+1)+1)+1)),Cell.d Md.fz (.i .i64 x1.Expr.Type_),Cell.d Md.fz (.s x1.Expr.Symbol),Cell.d Md.fz (.s x1.Expr.Name),.w 7 (x1.Expr.Args.map Expr.D)]) rfl) ?_
 refine ggE hr fun g6 hr=>J g<|J (IEd' g1 (q3n (q3o hx1)))<|J g<|J (SD' [.d .fz (.i .i64 (((((s3+1)+1)+1)+1)+1))] [] (q3n (q3o hx1)))<|ggE hr fun g7 hr=>bdE hr fun y2 hy2 hr=>J g<|J (CB' [] [] (q3D hy2))<|J (IEd' g1 (q3n (q3n (q3o hx1))))<|J g<|J (SD' [.d .fz (.s y2)] [] (q3n (q3n (q3o hx1)))) ?_
 refine q0m 0 rfl (he:=enr3 (c:=[Cell.d Md.fz (.i .i64 s3),Cell.d Md.fz (.s y1),Cell.d Md.fz (.i .i64 ((s3+1)+1)),Cell.d Md.fz (.i .i64 (((s3+1)+1)+1)),Cell.d Md.fz (.i .i64 ((((s3+1)+1)+1)+1)),Cell.d Md.fz (.i .i64 (((((s3+1)+1)+1)+1)+1)),Cell.d Md.fz (.s y2),Cell.d Md.fz (.s x1.Expr.Name),.w 7 (x1.Expr.Args.map Expr.D)]) rfl) ?_
 refine ggE hr fun g8 hr=>bdE hr fun y3 hy3 hr=>J g<|J (CB' [] [] (q3D hy3))<|J (IEd' g1 (q3n (q3o hx1)))<|J g<|J (SD' [.d .fz (.s y3)] [] (q3n (q3o hx1)))<|ggE hr fun g9 hr=>J g<|J (IEd' g1 (q3n (q3n (q3o hx1))))<|J (gn 2)<|J (q0l 0 s4.toNat 8 1 (q3n (q3n (q3o hx1)))) ?_
 refine q0m 0 rfl (he:=enr3 (c:=[Cell.d Md.fz (.i .i64 s3),Cell.d Md.fz (.s y1),Cell.d Md.fz (.i .i64 ((s3+1)+1)),Cell.d Md.fz (.i .i64 (((s3+1)+1)+1)),Cell.d Md.fz (.i .i64 ((((s3+1)+1)+1)+1)),Cell.d Md.fz (.i .i64 (((((s3+1)+1)+1)+1)+1)),Cell.d Md.fz (.s y2),Cell.d Md.fz (.s y3),.u]) rfl) ?_
 refine J (LPd' [(8,1)] (q3n (q3o hx1)))<|bdP hr fun y4 z1 hq2 hr=>J g<|J (CB' [(0,1)] [] (q9Z hq2))<|ggE hr fun g10 hr=>J (gn 7) ?_
 cases hr
 exact⟨_,rfl,GH.trans (q0k 0 s4.toNat 8 1 (q3n (q3o hx1)) (hx:=.ownM (f:=Expr.D))) (GH.trans (q0j 0 (he:=eset (f:=Equation.W) (x':=(⟨(⟨s3,y1⟩:Occurrence),(⟨((s3+1)+1),(((s3+1)+1)+1),((((s3+1)+1)+1)+1),(((((s3+1)+1)+1)+1)+1),y2,y3,z1⟩:Expr)⟩:Equation)) (by first | rfl | (simp only [List.set_set]; rfl)))) (q0c hS 1))⟩
 refine J (gn 2) ?_
 cases hr
 cases hik1 _ rfl
 exact q0c hS 1
 exact e
theorem z0R {a0:(List Contribution)}{a1:Int}{r:(Int × (List Contribution))}(hr:q4J a0 a1=some r):Ok Tryz.prog 104 [.ref 0 none,dI a1] [.deep .fz 16 (a0.map Contribution.W) []] (dI r.1) [.deep .fz 16 (r.2.map Contribution.W) []]:=by
 refine OE Tryz.func104 fun S hS=>?_
 unfold q4J at hr
 refine bdP hr fun s1 s2 hqq1 hr=>J (gn 9)<|q0g 1 [(1,dI s1)] [(0,.deep .fz 16 (s2.map Contribution.W) [])] ?_ ?_
 refine J g<|q0h hqq1 1 (fun (s3,s4,s5)=>[(0,.ref 0 none),(1,dI s3),(5,dI s4)]) (fun (s3,s4,s5)=>[(0,.deep .fz 16 (s5.map Contribution.W) [])]) I fun sk1 ok1 hr hik1=>?_
 obtain⟨s3,s4,s5⟩:=sk1
 have hr:=hr
 refine J g<|J (LEd' s5.length)<|J (gn 2)<|ifE hr ?_ ?_<;>intro h1 hr
 refine bdE hr fun y1 hy1 hr=>J g<|J (CB' [] [] (q3D hy1))<|ggE hr fun g1 hr=>bdE hr fun x1 hx1 hr=>J (IEd' g1 (q3o hx1))<|J g<|J (SD' [.d .fz (.s y1)] [] (q3o hx1))<|ggE hr fun g2 hr=>bdE hr fun y2 hy2 hr=>J g<|J (CB' [] [] (q3D hy2))<|J (IEd' g1 (q3n (q3o hx1)))<|J g<|J (SD' [.d .fz (.s y2)] [] (q3n (q3o hx1)))<|ggE hr fun g3 hr=>J g<|J (IEd' g1 (q3n (q3n (q3o hx1))))<|J g<|J (SD' [.d .fz (.i .i64 ((s3+1)+1))] [] (q3n (q3n (q3o hx1)))) ?_
 refine q0m 0 rfl (he:=enr3 (c:=[Cell.d Md.fz (.s y1),Cell.d Md.fz (.s y2),Cell.d Md.fz (.i .i64 ((s3+1)+1)),Cell.d Md.fz (.i .i64 x1.Target.N),Cell.d Md.fz (.i .i64 x1.Target.Pos),Cell.d Md.fz (.i .i64 x1.Target.Type_),Cell.d Md.fz (.s x1.Target.Symbol),Cell.d Md.fz (.s x1.Target.Name),.w 7 (x1.Target.Args.map Expr.D),Cell.d Md.fz (.i .i64 x1.Value.Kind),Cell.d Md.fz (.i .i64 x1.Value.N),Cell.d Md.fz (.i .i64 x1.Value.Pos),Cell.d Md.fz (.i .i64 x1.Value.Type_),Cell.d Md.fz (.s x1.Value.Symbol),Cell.d Md.fz (.s x1.Value.Name),.w 7 (x1.Value.Args.map Expr.D)]) rfl) ?_
 refine ggE hr fun g4 hr=>J g<|J (IEd' g1 (q3n (q3o hx1)))<|J g<|J (SD' [.d .fz (.i .i64 (((s3+1)+1)+1))] [] (q3n (q3o hx1)))<|ggE hr fun g5 hr=>J g<|J (IEd' g1 (q3n (q3n (q3o hx1))))<|J g<|J (SD' [.d .fz (.i .i64 ((((s3+1)+1)+1)+1))] [] (q3n (q3n (q3o hx1)))) ?_
 refine q0m 0 rfl (he:=enr3 (c:=[Cell.d Md.fz (.s y1),Cell.d Md.fz (.s y2),Cell.d Md.fz (.i .i64 ((s3+1)+1)),Cell.d Md.fz (.i .i64 (((s3+1)+1)+1)),Cell.d Md.fz (.i .i64 ((((s3+1)+1)+1)+1)),Cell.d Md.fz (.i .i64 x1.Target.Type_),Cell.d Md.fz (.s x1.Target.Symbol),Cell.d Md.fz (.s x1.Target.Name),.w 7 (x1.Target.Args.map Expr.D),Cell.d Md.fz (.i .i64 x1.Value.Kind),Cell.d Md.fz (.i .i64 x1.Value.N),Cell.d Md.fz (.i .i64 x1.Value.Pos),Cell.d Md.fz (.i .i64 x1.Value.Type_),Cell.d Md.fz (.s x1.Value.Symbol),Cell.d Md.fz (.s x1.Value.Name),.w 7 (x1.Value.Args.map Expr.D)]) rfl) ?_
 refine ggE hr fun g6 hr=>J g<|J (IEd' g1 (q3n (q3o hx1)))<|J g<|J (SD' [.d .fz (.i .i64 (((((s3+1)+1)+1)+1)+1))] [] (q3n (q3o hx1)))<|ggE hr fun g7 hr=>bdE hr fun y3 hy3 hr=>J g<|J (CB' [] [] (q3D hy3))<|J (IEd' g1 (q3n (q3n (q3o hx1))))<|J g<|J (SD' [.d .fz (.s y3)] [] (q3n (q3n (q3o hx1)))) ?_
 refine q0m 0 rfl (he:=enr3 (c:=[Cell.d Md.fz (.s y1),Cell.d Md.fz (.s y2),Cell.d Md.fz (.i .i64 ((s3+1)+1)),Cell.d Md.fz (.i .i64 (((s3+1)+1)+1)),Cell.d Md.fz (.i .i64 ((((s3+1)+1)+1)+1)),Cell.d Md.fz (.i .i64 (((((s3+1)+1)+1)+1)+1)),Cell.d Md.fz (.s y3),Cell.d Md.fz (.s x1.Target.Name),.w 7 (x1.Target.Args.map Expr.D),Cell.d Md.fz (.i .i64 x1.Value.Kind),Cell.d Md.fz (.i .i64 x1.Value.N),Cell.d Md.fz (.i .i64 x1.Value.Pos),Cell.d Md.fz (.i .i64 x1.Value.Type_),Cell.d Md.fz (.s x1.Value.Symbol),Cell.d Md.fz (.s x1.Value.Name),.w 7 (x1.Value.Args.map Expr.D)]) rfl) ?_
 refine ggE hr fun g8 hr=>bdE hr fun y4 hy4 hr=>J g<|J (CB' [] [] (q3D hy4))<|J (IEd' g1 (q3n (q3o hx1)))<|J g<|J (SD' [.d .fz (.s y4)] [] (q3n (q3o hx1)))<|ggE hr fun g9 hr=>J g<|J (IEd' g1 (q3n (q3n (q3o hx1))))<|J (gn 2)<|J (q0l 0 s4.toNat 8 1 (q3n (q3n (q3o hx1)))) ?_
 refine q0m 0 rfl (he:=enr3 (c:=[Cell.d Md.fz (.s y1),Cell.d Md.fz (.s y2),Cell.d Md.fz (.i .i64 ((s3+1)+1)),Cell.d Md.fz (.i .i64 (((s3+1)+1)+1)),Cell.d Md.fz (.i .i64 ((((s3+1)+1)+1)+1)),Cell.d Md.fz (.i .i64 (((((s3+1)+1)+1)+1)+1)),Cell.d Md.fz (.s y3),Cell.d Md.fz (.s y4),.u,Cell.d Md.fz (.i .i64 x1.Value.Kind),Cell.d Md.fz (.i .i64 x1.Value.N),Cell.d Md.fz (.i .i64 x1.Value.Pos),Cell.d Md.fz (.i .i64 x1.Value.Type_),Cell.d Md.fz (.s x1.Value.Symbol),Cell.d Md.fz (.s x1.Value.Name),.w 7 (x1.Value.Args.map Expr.D)]) rfl) ?_
 refine J (LPd' [(8,1)] (q3n (q3o hx1)))<|bdP hr fun y5 z1 hq2 hr=>J g<|J (CB' [(0,1)] [] (q9Z hq2))<|J g<|J (IEd' g1 (q3n (q3o hx1)))<|J g<|J (SD' [.d .fz (.i .i64 y5)] [] (q3n (q3o hx1)))<|ggE hr fun g10 hr=>J g<|J (IEd' g1 (q3n (q3n (q3o hx1))))<|J g<|J (SD' [.d .fz (.i .i64 (y5+1))] [] (q3n (q3n (q3o hx1)))) ?_
 refine q0m 0 rfl (he:=enr3 (c:=[Cell.d Md.fz (.s y1),Cell.d Md.fz (.s y2),Cell.d Md.fz (.i .i64 ((s3+1)+1)),Cell.d Md.fz (.i .i64 (((s3+1)+1)+1)),Cell.d Md.fz (.i .i64 ((((s3+1)+1)+1)+1)),Cell.d Md.fz (.i .i64 (((((s3+1)+1)+1)+1)+1)),Cell.d Md.fz (.s y3),Cell.d Md.fz (.s y4),.u,Cell.d Md.fz (.i .i64 y5),Cell.d Md.fz (.i .i64 (y5+1)),Cell.d Md.fz (.i .i64 x1.Value.Pos),Cell.d Md.fz (.i .i64 x1.Value.Type_),Cell.d Md.fz (.s x1.Value.Symbol),Cell.d Md.fz (.s x1.Value.Name),.w 7 (x1.Value.Args.map Expr.D)]) rfl) ?_
 refine ggE hr fun g11 hr=>J g<|J (IEd' g1 (q3n (q3o hx1)))<|J g<|J (SD' [.d .fz (.i .i64 ((y5+1)+1))] [] (q3n (q3o hx1)))<|ggE hr fun g12 hr=>J g<|J (IEd' g1 (q3n (q3n (q3o hx1))))<|J g<|J (SD' [.d .fz (.i .i64 (((y5+1)+1)+1))] [] (q3n (q3n (q3o hx1)))) ?_
 refine q0m 0 rfl (he:=enr3 (c:=[Cell.d Md.fz (.s y1),Cell.d Md.fz (.s y2),Cell.d Md.fz (.i .i64 ((s3+1)+1)),Cell.d Md.fz (.i .i64 (((s3+1)+1)+1)),Cell.d Md.fz (.i .i64 ((((s3+1)+1)+1)+1)),Cell.d Md.fz (.i .i64 (((((s3+1)+1)+1)+1)+1)),Cell.d Md.fz (.s y3),Cell.d Md.fz (.s y4),.u,Cell.d Md.fz (.i .i64 y5),Cell.d Md.fz (.i .i64 (y5+1)),Cell.d Md.fz (.i .i64 ((y5+1)+1)),Cell.d Md.fz (.i .i64 (((y5+1)+1)+1)),Cell.d Md.fz (.s x1.Value.Symbol),Cell.d Md.fz (.s x1.Value.Name),.w 7 (x1.Value.Args.map Expr.D)]) rfl) ?_
 refine ggE hr fun g13 hr=>bdE hr fun y6 hy6 hr=>J g<|J (CB' [] [] (q3D hy6))<|J (IEd' g1 (q3n (q3o hx1)))<|J g<|J (SD' [.d .fz (.s y6)] [] (q3n (q3o hx1)))<|ggE hr fun g14 hr=>bdE hr fun y7 hy7 hr=>J g<|J (CB' [] [] (q3D hy7))<|J (IEd' g1 (q3n (q3n (q3o hx1))))<|J g<|J (SD' [.d .fz (.s y7)] [] (q3n (q3n (q3o hx1)))) ?_
 refine q0m 0 rfl (he:=enr3 (c:=[Cell.d Md.fz (.s y1),Cell.d Md.fz (.s y2),Cell.d Md.fz (.i .i64 ((s3+1)+1)),Cell.d Md.fz (.i .i64 (((s3+1)+1)+1)),Cell.d Md.fz (.i .i64 ((((s3+1)+1)+1)+1)),Cell.d Md.fz (.i .i64 (((((s3+1)+1)+1)+1)+1)),Cell.d Md.fz (.s y3),Cell.d Md.fz (.s y4),.u,Cell.d Md.fz (.i .i64 y5),Cell.d Md.fz (.i .i64 (y5+1)),Cell.d Md.fz (.i .i64 ((y5+1)+1)),Cell.d Md.fz (.i .i64 (((y5+1)+1)+1)),Cell.d Md.fz (.s y6),Cell.d Md.fz (.s y7),.w 7 (x1.Value.Args.map Expr.D)]) rfl) ?_
 refine ggE hr fun g15 hr=>J g<|J (IEd' g1 (q3n (q3o hx1)))<|J (gn 2)<|J (q0l 0 s4.toNat 15 2 (q3n (q3o hx1)))<|J (LPd' [(15,2),(8,1)] (q3n (q3n (q3o hx1))))<|bdP hr fun y8 z2 hq3 hr=>J g<|J (CB' [(0,2)] [] (q9Z hq3))<|ggE hr fun g16 hr=>J (gn 7) ?_
 cases hr
 exact⟨_,rfl,GH.trans (q0k 0 s4.toNat 15 2 (q3n (q3n (q3o hx1))) (hx:=.ownM (f:=Expr.D))) (GH.trans (q0k 0 s4.toNat 8 1 (q3n (q3n (q3n (q3o hx1)))) (hx:=.ownM (f:=Expr.D))) (GH.trans (q0j 0 (he:=eset (f:=Contribution.W) (x':=(⟨y1,y2,(⟨((s3+1)+1),(((s3+1)+1)+1),((((s3+1)+1)+1)+1),(((((s3+1)+1)+1)+1)+1),y3,y4,z1⟩:Expr),(⟨y5,(y5+1),((y5+1)+1),(((y5+1)+1)+1),y6,y7,z2⟩:Expr)⟩:Contribution)) (by first | rfl | (simp only [List.set_set]; rfl)))) (q0c hS 1)))⟩
 refine J (gn 2) ?_
 cases hr
 cases hik1 _ rfl
 exact q0c hS 1
 exact e
theorem z7j {a0:(List Rule)}{a1:Int}{r:(Int × (List Rule))}(hr:q8Z a0 a1=some r):Ok Tryz.prog 57 [.ref 0 none,dI a1] [.deep .fz 6 (a0.map Rule.W) []] (dI r.1) [.deep .fz 6 (r.2.map Rule.W) []]:=by
 refine OE Tryz.func57 fun S hS=>?_
 unfold q8Z at hr
 refine bdP hr fun s1 s2 hqq1 hr=>J (gn 9)<|q0g 1 [(1,dI s1)] [(0,.deep .fz 6 (s2.map Rule.W) [])] ?_ ?_
 refine J g<|q0h hqq1 1 (fun (s3,s4,s5)=>[(0,.ref 0 none),(1,dI s3),(5,dI s4)]) (fun (s3,s4,s5)=>[(0,.deep .fz 6 (s5.map Rule.W) [])]) I fun sk1 ok1 hr hik1=>?_
 obtain⟨s3,s4,s5⟩:=sk1
 have hr:=hr
 refine J g<|J (LEd' s5.length)<|J (gn 2)<|ifE hr ?_ ?_<;>intro h1 hr
 refine bdE hr fun y1 hy1 hr=>J g<|J (CB' [] [] (q3D hy1))<|ggE hr fun g1 hr=>bdE hr fun x1 hx1 hr=>J (IEd' g1 (q3o hx1))<|J g<|J (SD' [.d .fz (.s y1)] [] (q3o hx1))<|ggE hr fun g2 hr=>bdE hr fun y2 hy2 hr=>J g<|J (CB' [] [] (q3D hy2))<|J (IEd' g1 (q3n (q3o hx1)))<|J g<|J (SD' [.d .fz (.s y2)] [] (q3n (q3o hx1)))<|ggE hr fun g3 hr=>J g<|J (IEd' g1 (q3n (q3n (q3o hx1))))<|J (gn 1)<|J (q0l 0 s4.toNat 2 1 (q3n (q3n (q3o hx1))))<|J (LPd' [(2,1)] (q3n (q3n (q3n (q3o hx1)))))<|bdP hr fun y3 z1 hq2 hr=>J g<|J (CB' [(0,1)] [] (z5m hq2))<|J g<|J (OB' _ (bRem (b:=3) (by decide))) ?_
 refine J g<|J (IEd' g1 (q3n (q3n (q3n (q3o hx1)))))<|J g<|J (SD' [.d .fz (.b (decide ((y3.tmod 3)=0)))] [] (q3n (q3n (q3n (q3o hx1)))))<|ggE hr fun g4 hr=>J g<|J (IEd' g1 (q3n (q3n (q3n (q3n (q3o hx1))))))<|J (gn 1)<|J (q0l 0 s4.toNat 4 2 (q3n (q3n (q3n (q3n (q3o hx1))))))<|J (LPd' [(4,2),(2,1)] (q3n (q3n (q3n (q3n (q3n (q3o hx1)))))))<|bdP hr fun y4 z2 hq3 hr=>J g<|J (CB' [(0,2)] [] (z3c hq3))<|J g<|J (IEd' g1 (q3n (q3n (q3n (q3n (q3n (q3o hx1)))))))<|J (gn 1)<|J (q0l 0 s4.toNat 5 3 (q3n (q3n (q3n (q3n (q3n (q3o hx1)))))))<|J (LPd' [(5,3),(4,2),(2,1)] (q3n (q3n (q3n (q3n (q3n (q3n (q3o hx1))))))))<|bdP hr fun y5 z3 hq4 hr=>J g<|J (CB' [(0,3)] [] (z0R hq4))<|ggE hr fun g5 hr=>J (gn 7) ?_
 cases hr
 exact⟨_,rfl,GH.trans (q0k 0 s4.toNat 5 3 (q3n (q3n (q3n (q3n (q3n (q3n (q3o hx1))))))) (hx:=.ownM (f:=Contribution.D))) (GH.trans (q0k 0 s4.toNat 4 2 (q3n (q3n (q3n (q3n (q3n (q3n (q3n (q3o hx1)))))))) (hx:=.ownM (f:=Equation.D))) (GH.trans (q0k 0 s4.toNat 2 1 (q3n (q3n (q3n (q3n (q3n (q3n (q3n (q3n (q3o hx1))))))))) (hx:=.flatM (fun _=>rfl))) (GH.trans (q0j 0 (he:=eset (f:=Rule.W) (x':=(⟨y1,y2,z1,decide ((y3.tmod 3)=0),z2,z3⟩:Rule)) (by first | rfl | (simp only [List.set_set]; rfl)))) (q0c hS 1))))⟩
 refine J (gn 2) ?_
 cases hr
 cases hik1 _ rfl
 exact q0c hS 1
 exact e
theorem z5n {a0:Grammar}{a1:Int}{r:(Int × (List Symbol) × (List Rule))}(hr:q6c a0 a1=some r):Ok Tryz.prog 20 [.ag [.ref 0 none,.ref 1 none],dI a1] [.deep .fz 2 (a0.Symbols.map Symbol.W) [],.deep .fz 6 (a0.Rules.map Rule.W) []] (dI r.1) [.deep .fz 2 (r.2.1.map Symbol.W) [],.deep .fz 6 (r.2.2.map Rule.W) []]:=by
 refine OE Tryz.func20 fun S hS=>?_
 unfold q6c at hr
 refine J g<|J (BX' 2)<|bdP hr fun y1 z1 hq1 hr=>J g<|J (CB' [(0,0)] [] (z5l hq1))<|bdP hr fun y2 z2 hq2 hr=>J g<|J (CB' [(0,1)] [] (z7j hq2))<|e
theorem z0S {a0:(List Int)}{a1:Int}{r:(Int × (List Int))}(hr:q6n a0 a1=some r):Ok Tryz.prog 23 [.ref 0 none,dI a1] [.row .fz 1 (a0.map (A.D.i .i64))] (dI r.1) [.row .fz 1 (r.2.map (A.D.i .i64))]:=by
 refine OE Tryz.func23 fun S hS=>?_
 unfold q6n at hr
 refine bdP hr fun s1 s2 hqq1 hr=>J (gn 9)<|q0g 1 [(1,dI s1)] [(0,.row .fz 1 (s2.map (A.D.i .i64)))] ?_ ?_
 refine J g<|q0h hqq1 1 (fun (s3,s4,s5)=>[(0,.ref 0 none),(1,dI s3),(5,dI s4)]) (fun (s3,s4,s5)=>[(0,.row .fz 1 (s5.map (A.D.i .i64)))]) I fun sk1 ok1 hr hik1=>?_
 obtain⟨s3,s4,s5⟩:=sk1
 have hr:=hr
 refine J (gn 8)<|ifE hr ?_ ?_<;>intro h1 hr
 refine ggE hr fun g1 hr=>bdE hr fun x1 hx1 hr=>J g<|J (SE' s3 hx1)<|ggE hr fun g2 hr=>ggE hr fun g3 hr=>e
 refine J (gn 2) ?_
 cases hr
 cases hik1 _ rfl
 exact q0c hS 1
 exact e
theorem z7k {a0:(List Node)}{a1:Int}{r:(Int × (List Node))}(hr:q9b a0 a1=some r):Ok Tryz.prog 58 [.ref 0 none,dI a1] [.deep .fz 6 (a0.map Node.W) []] (dI r.1) [.deep .fz 6 (r.2.map Node.W) []]:=by
 refine OE Tryz.func58 fun S hS=>?_
 unfold q9b at hr
 refine bdP hr fun s1 s2 hqq1 hr=>J (gn 9)<|q0g 1 [(1,dI s1)] [(0,.deep .fz 6 (s2.map Node.W) [])] ?_ ?_
 refine J g<|q0h hqq1 1 (fun (s3,s4,s5)=>[(0,.ref 0 none),(1,dI s3),(5,dI s4)]) (fun (s3,s4,s5)=>[(0,.deep .fz 6 (s5.map Node.W) [])]) I fun sk1 ok1 hr hik1=>?_
 obtain⟨s3,s4,s5⟩:=sk1
 have hr:=hr
 refine J g<|J (LEd' s5.length)<|J (gn 2)<|ifE hr ?_ ?_<;>intro h1 hr
 refine ggE hr fun g1 hr=>bdE hr fun x1 hx1 hr=>J g<|J (IEd' g1 (q3o hx1))<|J g<|J (SD' [.d .fz (.i .i64 s3)] [] (q3o hx1))<|ggE hr fun g2 hr=>J g<|J (IEd' g1 (q3n (q3o hx1)))<|J g<|J (SD' [.d .fz (.i .i64 (s3+1))] [] (q3n (q3o hx1)))<|ggE hr fun g3 hr=>J g<|J (IEd' g1 (q3n (q3n (q3o hx1))))<|J g<|J (SD' [.d .fz (.i .i64 ((s3+1)+1))] [] (q3n (q3n (q3o hx1))))<|ggE hr fun g4 hr=>J g<|J (IEd' g1 (q3n (q3n (q3n (q3o hx1)))))<|J g<|J (SD' [.d .fz (.i .i64 (((s3+1)+1)+1))] [] (q3n (q3n (q3n (q3o hx1)))))<|ggE hr fun g5 hr=>bdE hr fun y1 hy1 hr=>J g<|J (CB' [] [] (q3D hy1))<|J (IEd' g1 (q3n (q3n (q3n (q3n (q3o hx1)))))) ?_
 refine J g<|J (SD' [.d .fz (.s y1)] [] (q3n (q3n (q3n (q3n (q3o hx1))))))<|ggE hr fun g6 hr=>J g<|J (IEd' g1 (q3n (q3n (q3n (q3n (q3n (q3o hx1)))))))<|J (gn 1)<|J (q0l 0 s4.toNat 5 1 (q3n (q3n (q3n (q3n (q3n (q3o hx1)))))))<|J (LPd' [(5,1)] (q3n (q3n (q3n (q3n (q3n (q3n (q3o hx1))))))))<|bdP hr fun y2 z1 hq2 hr=>J g<|J (CB' [(0,1)] [] (z0S hq2))<|ggE hr fun g7 hr=>J (gn 7) ?_
 cases hr
 exact⟨_,rfl,GH.trans (q0k 0 s4.toNat 5 1 (q3n (q3n (q3n (q3n (q3n (q3n (q3o hx1))))))) (hx:=.flatM (fun _=>rfl))) (GH.trans (q0j 0 (he:=eset (f:=Node.W) (x':=(⟨s3,(s3+1),((s3+1)+1),(((s3+1)+1)+1),y1,z1⟩:Node)) (by first | rfl | (simp only [List.set_set]; rfl)))) (q0c hS 1))⟩
 refine J (gn 2) ?_
 cases hr
 cases hik1 _ rfl
 exact q0c hS 1
 exact e
theorem z8u {a0:Tree}{a1:Int}{r:(Int × (List Node))}(hr:q8B a0 a1=some r):Ok Tryz.prog 21 [.ag [.ref 0 none],dI a1] [.deep .fz 6 (a0.Nodes.map Node.W) []] (dI r.1) [.deep .fz 6 (r.2.map Node.W) []]:=by
 refine OE Tryz.func21 fun S hS=>?_
 unfold q8B at hr
 refine J g<|J (BX' 1)<|bdP hr fun y1 z1 hq1 hr=>J g<|J (CB' [(0,0)] [] (z7k hq1))<|e
theorem q9L {a0:(List Instance)}{a1:Int}{r:(Int × (List Instance))}(hr:q5a a0 a1=some r):Ok Tryz.prog 24 [.ref 0 none,dI a1] [.row .fz 2 (a0.map Instance.D)] (dI r.1) [.row .fz 2 (r.2.map Instance.D)]:=by
 refine OE Tryz.func24 fun S hS=>?_
 unfold q5a at hr
 refine bdP hr fun s1 s2 hqq1 hr=>J (gn 9)<|q0g 1 [(1,dI s1)] [(0,.row .fz 2 (s2.map Instance.D))] ?_ ?_
 refine J g<|q0h hqq1 1 (fun (s3,s4,s5)=>[(0,.ref 0 none),(1,dI s3),(5,dI s4)]) (fun (s3,s4,s5)=>[(0,.row .fz 2 (s5.map Instance.D))]) I fun sk1 ok1 hr hik1=>?_
 obtain⟨s3,s4,s5⟩:=sk1
 have hr:=hr
 refine J (gn 8)<|ifE hr ?_ ?_<;>intro h1 hr
 refine ggE hr fun g1 hr=>bdE hr fun x1 hx1 hr=>J g<|J (SE' (⟨s3,x1.Name⟩:Instance) hx1)<|ggE hr fun g2 hr=>bdE hr fun y1 hy1 hr=>J g<|J (CB' [] [] (q3D hy1))<|ggE hr fun g3 hr=>bdE hr fun x2 hx2 hr=>J g<|J (SE' (⟨x2.Node,y1⟩:Instance) hx2)<|ggE hr fun g4 hr=>ggE hr fun g5 hr=>e
 refine J (gn 2) ?_
 cases hr
 cases hik1 _ rfl
 exact q0c hS 1
 exact e
theorem z2p {a0:(List TraceStep)}{a1:Int}{r:(Int × (List TraceStep))}(hr:q5N a0 a1=some r):Ok Tryz.prog 22 [.ref 0 none,dI a1] [.deep .fz 3 (a0.map TraceStep.W) []] (dI r.1) [.deep .fz 3 (r.2.map TraceStep.W) []]:=by
 refine OE Tryz.func22 fun S hS=>?_
 unfold q5N at hr
 refine bdP hr fun s1 s2 hqq1 hr=>J (gn 9)<|q0g 1 [(1,dI s1)] [(0,.deep .fz 3 (s2.map TraceStep.W) [])] ?_ ?_
 refine J g<|q0h hqq1 1 (fun (s3,s4,s5)=>[(0,.ref 0 none),(1,dI s3),(5,dI s4)]) (fun (s3,s4,s5)=>[(0,.deep .fz 3 (s5.map TraceStep.W) [])]) I fun sk1 ok1 hr hik1=>?_
 obtain⟨s3,s4,s5⟩:=sk1
 have hr:=hr
 refine J g<|J (LEd' s5.length)<|J (gn 2)<|ifE hr ?_ ?_<;>intro h1 hr
 refine ggE hr fun g1 hr=>bdE hr fun x1 hx1 hr=>J g<|J (IEd' g1 (q3o hx1))<|J g<|J (SD' [.d .fz (.i .i64 s3)] [] (q3o hx1))<|ggE hr fun g2 hr=>bdE hr fun y1 hy1 hr=>J g<|J (CB' [] [] (q3D hy1))<|J (IEd' g1 (q3n (q3o hx1)))<|J g<|J (SD' [.d .fz (.s y1)] [] (q3n (q3o hx1)))<|ggE hr fun g3 hr=>J g<|J (IEd' g1 (q3n (q3n (q3o hx1))))<|J (gn 1)<|J (q0l 0 s4.toNat 2 1 (q3n (q3n (q3o hx1))))<|J (LPd' [(2,1)] (q3n (q3n (q3n (q3o hx1)))))<|bdP hr fun y2 z1 hq2 hr=>J g<|J (CB' [(0,1)] [] (q9L hq2))<|ggE hr fun g4 hr=>J (gn 7) ?_
 cases hr
 exact⟨_,rfl,GH.trans (q0k 0 s4.toNat 2 1 (q3n (q3n (q3n (q3o hx1)))) (hx:=.flatM (fun _=>rfl))) (GH.trans (q0j 0 (he:=eset (f:=TraceStep.W) (x':=(⟨(⟨s3,y1⟩:Instance),z1⟩:TraceStep)) (by first | rfl | (simp only [List.set_set]; rfl)))) (q0c hS 1))⟩
 refine J (gn 2) ?_
 cases hr
 cases hik1 _ rfl
 exact q0c hS 1
 exact e
theorem z3t {m:Md}{a0:(List Int)}{a1:Int}{r:Int}(hr:q7e a0 a1=some r):Ok Tryz.prog 25 [.d m (.sl 1 (a0.map (A.D.i .i64))),dI a1] [] (dI r) []:=by
 refine OE Tryz.func25 fun S hS=>?_
 unfold q7e at hr
 refine J (gn 10)<|J (lenT 0)<|fun hl1=>bdE hr fun q1 hqq1 hr=>q0b hqq1 hl1 0 (fun k1 s1=>[(0,.d m (.sl 1 (a0.map (A.D.i .i64)))),(1,dI s1),(5,dI (k1:Int))]) (fun k1 s1=>[]) I (fun k1 xk1 sk1 ok1 hxk1 hr hltk1 hik1=>?_) fun k1 sk1 ek1 hltk1=>?_
 obtain⟨s1,rfl⟩:∃ y,y=sk1:=⟨_,rfl⟩
 refine J (gn 22)<|ifE hr ?_ ?_<;>intro h1 hr
 refine ggE hr fun g1 hr=>e
 exact e
 subst ek1
 obtain⟨s1,rfl⟩:∃ y,y=sk1:=⟨_,rfl⟩
 exact e
theorem z1F {m:Md}{a0:Grammar}{a1:Tree}{a2:(List TraceStep)}{a3:(List Int)}{a4:(List Instance)}{r:Bool}(hr:q5k a0 a1 a2 a3 a4=some r):Ok Tryz.prog 3 [Grammar.x m a0,Tree.x m a1,.d m (.sl 3 (a2.map TraceStep.D)),.d m (.sl 1 (a3.map (A.D.i .i64))),.d m (.sl 2 (a4.map Instance.D))] [] (dB r) []:=by
 refine OE Tryz.func3 fun S hS=>?_
 unfold q5k at hr
 refine J g<|J (BX' 0)<|J (BX' 1)<|J (gn 9)<|ifE hr ?_ ?_<;>intro h1 hr
 exact e
 refine bdE hr fun y1 hy1 hr=>J g<|J (CB' [] [] (z7d (m:=m) hy1))<|J (gn 8)<|ifE hr ?_ ?_<;>intro h2 hr
 exact e
 refine bdE hr fun y2 hy2 hr=>J g<|J (CB' [] [] (j1B (m:=m) hy2))<|J (gn 8)<|ifE hr ?_ ?_<;>intro h3 hr
 exact e
 refine bdE hr fun y3 hy3 hr=>J g<|J (CB' [] [] (z3S (m:=m) hy3))<|J (gn 8)<|ifE hr ?_ ?_<;>intro h4 hr
 exact e
 refine bdE hr fun y4 hy4 hr=>J g<|J (CB' [] [] (z0P (m:=m) hy4))<|J (gn 8)<|ifE hr ?_ ?_<;>intro h5 hr
 exact e
 refine bdE hr fun y5 hy5 hr=>J g<|J (CB' [(0,2),(1,3)] [] (q7V (m:=m) hy5))<|bdE hr fun y6 hy6 hr=>J g<|J (CB' [(0,4)] [] (z1o (m:=m) hy6))<|bdE hr fun y7 hy7 hr=>J g<|J (CB' [(0,5)] [] (q6g (m:=m) hy7))<|bdE hr fun y8 hy8 hr=>J g<|J (CB' [(0,6)] [] (q9J (m:=m) hy8))<|bdE hr fun y9 hy9 hr=>J g<|J (CB' [(0,7)] [] (q5A (m:=m) hy9))<|bdP hr fun y10 y11 hq1 hr=>J (CB' [(0,8)] [2,3,4,5,6,7] (z8q (m:=.bo) hq1))<|bdE hr fun y12 hy12 hr=>J g<|J (CB' [(0,9),(1,10)] [] (q7V (m:=m) hy12))<|J (NV' 11)<|bdE hr fun y13 hy13 hr=>J g<|J (CB' [(0,12)] [] (z1o (m:=m) hy13))<|J (NV' 13)<|bdE hr fun y14 hy14 hr=>J g ?_
 refine J (CB' [(0,14)] [] (q6g (m:=m) hy14))<|bdE hr fun y15 hy15 hr=>J g<|J (CB' [(0,15)] [] (q9J (m:=m) hy15))<|bdE hr fun y16 hy16 hr=>J g<|J (CB' [(0,16)] [] (q5A (m:=m) hy16))<|bdP hr fun y17 y18 hq2 hr=>J g<|J (CB' [(0,17)] [9,10,12,14,15,16] (z3r (m:=.bo) hq2))<|bdE hr fun y19 hy19 hr=>J g<|J (CB' [] [17,8] (q9K (m:=.bo) hy19))<|bdE hr fun s1 hqq3 hr=>J (gn 1)<|q0a 5 [(2,.d m (.sl 3 (a2.map TraceStep.D))),(3,.d m (.sl 1 (a3.map (A.D.i .i64)))),(4,.d m (.sl 2 (a4.map Instance.D))),(5,.pb 0 0),(6,.pb 1 0),(12,.ref 8 none),(13,dB y11),(14,.pb 11 0),(15,.pb 13 0),(16,.ref 14 none),(17,.ref 15 none),(18,.ref 16 none),(19,.ref 17 none),(20,dB y18),(90,dB s1)] ?_ ?_
 replace hr:=hqq3
 refine ifE hr ?_ ?_<;>intro h6 hr
 refine J g ?_
 refine J (BQn' rfl rfl)<|J g<|E
 exact e
 refine J (gn 1)<|ifE hr ?_ ?_<;>intro h7 hr
 exact e
 refine bdE hr fun y20 hy20 hr=>J g<|J (CB' [(0,18),(1,19)] [] (q7V (m:=m) hy20))<|bdE hr fun y21 hy21 hr=>J (CB' [] [9,10,18,19] (z7i (m:=.bo) hy21))<|J (gn 2)<|ifE hr ?_ ?_<;>intro h8 hr
 refine bdE hr fun y22 hy22 hr=>J g<|J (CB' [(0,20)] [] (z1o (m:=m) hy22))<|bdE hr fun y23 hy23 hr=>J (CB' [] [12,20] (j1G (m:=.bo) hy23))<|J (gn 2)<|ifE hr ?_ ?_<;>intro h9 hr
 refine bdE hr fun y24 hy24 hr=>J g<|J (CB' [(0,21)] [] (q6g (m:=m) hy24))<|bdE hr fun y25 hy25 hr=>J (CB' [] [14,21] (z3X (m:=.bo) hy25))<|J (gn 2)<|ifE hr ?_ ?_<;>intro h10 hr
 refine bdE hr fun y26 hy26 hr=>J g<|J (CB' [(0,22)] [] (q9J (m:=m) hy26))<|bdE hr fun y27 hy27 hr=>J (CB' [] [15,22] (q9K (m:=.bo) hy27))<|J (gn 2)<|ifE hr ?_ ?_<;>intro h11 hr
 refine bdE hr fun y28 hy28 hr=>J g<|J (CB' [(0,23)] [] (q5A (m:=m) hy28))<|bdE hr fun y29 hy29 hr=>J (CB' [] [16,23] (z0Q (m:=.bo) hy29))<|J (gn 2)<|ifE hr ?_ ?_<;>intro h12 hr
 refine bdT hr fun y30 z1 z2 hq4 hr=>J g<|J (CB' [(0,9),(1,10)] [] (z5n hq4))<|bdP hr fun y31 z3 hq5 hr=>J g<|J (CB' [(0,12)] [] (z8u hq5))<|bdP hr fun y32 z4 hq6 hr=>J g<|J (CB' [(0,14)] [] (z2p hq6))<|bdP hr fun y33 z5 hq7 hr=>J g<|J (CB' [(0,15)] [] (z0S hq7))<|bdP hr fun y34 z6 hq8 hr=>J g<|J (CB' [(0,16)] [] (q9L hq8))<|bdE hr fun s2 hqq9 hr=>J (gn 7)<|q0a 6 [(2,.d m (.sl 3 (a2.map TraceStep.D))),(3,.d m (.sl 1 (a3.map (A.D.i .i64)))),(4,.d m (.sl 2 (a4.map Instance.D))),(5,.pb 0 0),(6,.pb 1 0),(12,.ref 8 none),(13,dB y11),(19,.ref 17 none),(20,dB y18),(138,dB s2)] ?_ ?_
 replace hr:=hqq9
 refine ifE hr ?_ ?_<;>intro h13 hr
 exact e
 refine bdE hr fun y35 hy35 hr=>J g<|J (CB' [] [17,8] (q9K (m:=.bo) hy35))<|e
 refine bdE hr fun s3 hqq10 hr=>q0a 5 [(2,.d m (.sl 3 (a2.map TraceStep.D))),(3,.d m (.sl 1 (a3.map (A.D.i .i64)))),(4,.d m (.sl 2 (a4.map Instance.D))),(5,.pb 0 0),(6,.pb 1 0),(12,.ref 8 none),(13,dB y11),(19,.ref 17 none),(143,dB s3)] ?_ ?_
 replace hr:=hqq10
 refine ifE hr ?_ ?_<;>intro h14 hr
 exact e
 refine J g ?_
 refine J (BQn' rfl rfl)<|J g<|E
 refine J (gn 1)<|ifE hr ?_ ?_<;>intro h15 hr
 exact e
 refine bdP hr fun y36 z7 hq11 hr=>J g<|J (CB' [(0,17)] [] (z0S hq11))<|bdE hr fun y37 hy37 hr=>J g<|J (CB' [] [17] (z3t (m:=.bo) hy37))<|J (gn 8)<|ifE hr ?_ ?_<;>intro h16 hr
 exact e
 refine J (gn 9)<|ifE hr ?_ ?_<;>intro h17 hr
 refine bdE hr fun y38 hy38 hr=>J g<|J (CB' [(0,24),(1,25)] [] (q7V (m:=m) hy38))<|bdE hr fun y39 hy39 hr=>J g<|J (CB' [(0,26)] [] (z1o (m:=m) hy39))<|bdE hr fun y40 hy40 hr=>J g<|J (CB' [(0,27)] [] (q6g (m:=m) hy40))<|bdE hr fun y41 hy41 hr=>J g<|J (CB' [(0,28)] [] (q9J (m:=m) hy41))<|bdE hr fun y42 hy42 hr=>J g<|J (CB' [(0,29)] [] (q5A (m:=m) hy42))<|bdP hr fun y43 y44 hq12 hr=>J (CB' [(0,30)] [24,25,26,27,28,29] (z3r (m:=.bo) hq12))<|bdE hr fun y45 hy45 hr=>J g<|J (CB' [] [30,8] (q9K (m:=.bo) hy45))<|bdE hr fun s4 hqq13 hr=>J (gn 1)<|q0a 5 [(19,.ref 17 none),(22,dI y36),(177,dB s4)] ?_ ?_
 replace hr:=hqq13
 refine ifE hr ?_ ?_<;>intro h18 hr
 refine J g ?_
 refine J (BQn' rfl rfl)<|J g<|E
 exact e
 refine J (gn 1)<|ifE hr ?_ ?_<;>intro h19 hr
 exact e
 refine bdE hr fun y46 hy46 hr=>J g<|J (CB' [] [17] (z3t (m:=.bo) hy46))<|J (gn 8)<|ifE hr ?_ ?_<;>intro h20 hr
 exact e
 refine J (gn 9)<|ifE hr ?_ ?_<;>intro h21 hr
 exact e
 exact e
 exact e
 exact e
 exact e
 exact e
 exact e
 exact e
end Go.Proofs.YtaholdflpgcndaaGreat
