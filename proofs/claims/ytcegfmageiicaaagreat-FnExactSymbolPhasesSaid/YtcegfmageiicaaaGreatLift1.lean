/- What some functions of the program compute, as partial functions on plain data, and that they do; each lemma bears its conditions in its statement. -/
import Derived.Test.YtcegfmageiicaaaGreatSort
set_option linter.unusedVariables false
set_option linter.unusedSimpArgs false
set_option linter.ambiguousOpen false
set_option linter.unusedSectionVars false
set_option linter.unnecessarySimpa false
set_option maxRecDepth 100000
set_option maxHeartbeats 40000000
noncomputable section
namespace Go.Proofs.YtcegfmageiicaaaGreat
open Go Go.E Go.A
def z2R (a0:Attribute)(a1:Int):Option Int:=
 grd (I64 (a1 - (a0.Name.size:Int))) <|
 if (a1 - (a0.Name.size:Int)) < 0 then (
 some (-1)
 ) else (
 some (a1 - (a0.Name.size:Int))
 )
theorem j3V {a0:Attribute}{a1:Int}{r:Int}(hr:z2R a0 a1=some r):Ok Tryz.prog 204 [Attribute.x .fz a0,dI a1] [] (dI r) []:=by
 refine OE Tryz.func204 fun S hS=>?_
 unfold z2R at hr
 refine J g<|J (BX' 0)<|J g<|J LS'<|ggE hr fun g1 hr=>J (gn 9)<|ifE hr ?_ ?_<;>intro h1 hr
 exact e
 exact e
def z7K:Nat→Attribute→Int→Option (Int ⊕ Int):=fun k1 xk1 s1=>
 (z2R xk1 s1).bind fun y1=>
 if y1 < 0 then (
 some (.inr (-1))
 ) else (
 some (.inl y1)
 )
def z1p (a0:(List Attribute))(a1:Int):Option Int:=
 grd (I64 (a1 - (a0.length:Int))) <|
 if (a1 - (a0.length:Int)) < 0 then (
 some (-1)
 ) else (
 (findL z7K 0 a0 (a1 - (a0.length:Int))).bind <| onr (fun r1=>some r1) fun s1=>
 some s1
 )
theorem j2E {m:Md}{a0:(List Attribute)}{a1:Int}{r:Int}(hr:z1p a0 a1=some r):Ok Tryz.prog 148 [.d m (.sl 4 (a0.map Attribute.D)),dI a1] [] (dI r) []:=by
 refine OE Tryz.func148 fun S hS=>?_
 unfold z1p at hr
 refine ggE hr fun g1 hr=>J (gn 18)<|ifE hr ?_ ?_<;>intro h1 hr
 exact e
 refine J (gn 8)<|J (lenT 0)<|fun hl1=>bdE hr fun q1 hqq1 hr=>q0b hqq1 hl1 0 (fun k1 s1=>[(0,.d m (.sl 4 (a0.map Attribute.D))),(1,dI s1),(5,dI (k1:Int))]) (fun k1 s1=>[]) I (fun k1 xk1 sk1 ok1 hxk1 hr hltk1 hik1=>?_) fun k1 sk1 ek1 hltk1=>?_
 obtain⟨s1,rfl⟩:∃ y,y=sk1:=⟨_,rfl⟩
 refine bdE hr fun y1 hy1 hr=>J g<|J (CB' [] [] (j3V hy1))<|J (gn 7)<|ifE hr ?_ ?_<;>intro h2 hr
 exact e
 exact e
 subst ek1
 obtain⟨s1,rfl⟩:∃ y,y=sk1:=⟨_,rfl⟩
 exact e
def z7f (a0:Symbol)(a1:Int):Option Int:=
 grd (I64 (a1 - (a0.Name.size:Int))) <|
 if (a1 - (a0.Name.size:Int)) < 0 then (
 some (-1)
 ) else (
 (z1p a0.Attributes (a1 - (a0.Name.size:Int))).bind fun y1=>
 if y1 < 0 then (
 some (-1)
 ) else (
 some y1
 )
 )
theorem j8z {m:Md}{a0:Symbol}{a1:Int}{r:Int}(hr:z7f a0 a1=some r):Ok Tryz.prog 87 [Symbol.x m a0,dI a1] [] (dI r) []:=by
 refine OE Tryz.func87 fun S hS=>?_
 unfold z7f at hr
 refine J g<|J (BX' 0)<|J g<|J LS'<|ggE hr fun g1 hr=>J (gn 9)<|ifE hr ?_ ?_<;>intro h1 hr
 exact e
 refine bdE hr fun y1 hy1 hr=>J g<|J (CB' [] [] (j2E (m:=m) hy1))<|J (gn 8)<|ifE hr ?_ ?_<;>intro h2 hr
 exact e
 exact e
def j0z:Nat→Symbol→Int→Option (Int ⊕ Int):=fun k1 xk1 s1=>
 (z7f xk1 s1).bind fun y1=>
 if y1 < 0 then (
 some (.inr (-1))
 ) else (
 some (.inl y1)
 )
def z5w (a0:(List Symbol))(a1:Int):Option Int:=
 grd (I64 (a1 - (a0.length:Int))) <|
 if (a1 - (a0.length:Int)) < 0 then (
 some (-1)
 ) else (
 (findL j0z 0 a0 (a1 - (a0.length:Int))).bind <| onr (fun r1=>some r1) fun s1=>
 some s1
 )
theorem j6Q {m:Md}{a0:(List Symbol)}{a1:Int}{r:Int}(hr:z5w a0 a1=some r):Ok Tryz.prog 34 [.d m (.sl 2 (a0.map Symbol.D)),dI a1] [] (dI r) []:=by
 refine OE Tryz.func34 fun S hS=>?_
 unfold z5w at hr
 refine ggE hr fun g1 hr=>J (gn 18)<|ifE hr ?_ ?_<;>intro h1 hr
 exact e
 refine J (gn 8)<|J (lenT 0)<|fun hl1=>bdE hr fun q1 hqq1 hr=>q0b hqq1 hl1 0 (fun k1 s1=>[(0,.d m (.sl 2 (a0.map Symbol.D))),(1,dI s1),(5,dI (k1:Int))]) (fun k1 s1=>[]) I (fun k1 xk1 sk1 ok1 hxk1 hr hltk1 hik1=>?_) fun k1 sk1 ek1 hltk1=>?_
 obtain⟨s1,rfl⟩:∃ y,y=sk1:=⟨_,rfl⟩
 refine bdE hr fun y1 hy1 hr=>J g<|J (CB' [] [] (j8z (m:=m) hy1))<|J (gn 7)<|ifE hr ?_ ?_<;>intro h2 hr
 exact e
 exact e
 subst ek1
 obtain⟨s1,rfl⟩:∃ y,y=sk1:=⟨_,rfl⟩
 exact e
def z7g:Nat→ByteArray→Int→Option (Int ⊕ Int):=fun k1 xk1 s1=>
 grd (I64 (s1 - (xk1.size:Int))) <|
 if (s1 - (xk1.size:Int)) < 0 then (
 some (.inr (-1))
 ) else (
 some (.inl (s1 - (xk1.size:Int)))
 )
def z5x (a0:(List ByteArray))(a1:Int):Option Int:=
 grd (I64 (a1 - (a0.length:Int))) <|
 if (a1 - (a0.length:Int)) < 0 then (
 some (-1)
 ) else (
 (findL z7g 0 a0 (a1 - (a0.length:Int))).bind <| onr (fun r1=>some r1) fun s1=>
 some s1
 )
theorem j6R {m:Md}{a0:(List ByteArray)}{a1:Int}{r:Int}(hr:z5x a0 a1=some r):Ok Tryz.prog 149 [.d m (.sl 1 (a0.map A.D.s)),dI a1] [] (dI r) []:=by
 refine OE Tryz.func149 fun S hS=>?_
 unfold z5x at hr
 refine ggE hr fun g1 hr=>J (gn 18)<|ifE hr ?_ ?_<;>intro h1 hr
 exact e
 refine J (gn 8)<|J (lenT 0)<|fun hl1=>bdE hr fun q1 hqq1 hr=>q0b hqq1 hl1 0 (fun k1 s1=>[(0,.d m (.sl 1 (a0.map A.D.s))),(1,dI s1),(5,dI (k1:Int))]) (fun k1 s1=>[]) I (fun k1 xk1 sk1 ok1 hxk1 hr hltk1 hik1=>?_) fun k1 sk1 ek1 hltk1=>?_
 obtain⟨s1,rfl⟩:∃ y,y=sk1:=⟨_,rfl⟩
 refine J g<|J LS'<|ggE hr fun g2 hr=>J (gn 8)<|ifE hr ?_ ?_<;>intro h2 hr
 exact e
 exact e
 subst ek1
 obtain⟨s1,rfl⟩:∃ y,y=sk1:=⟨_,rfl⟩
 exact e
def z1q (a0:Occurrence)(a1:Int):Option Int:=
 grd (I64 (a1 - (a0.Name.size:Int))) <|
 if (a1 - (a0.Name.size:Int)) < 0 then (
 some (-1)
 ) else (
 some (a1 - (a0.Name.size:Int))
 )
theorem j2F {a0:Occurrence}{a1:Int}{r:Int}(hr:z1q a0 a1=some r):Ok Tryz.prog 245 [Occurrence.x .fz a0,dI a1] [] (dI r) []:=by
 refine OE Tryz.func245 fun S hS=>?_
 unfold z1q at hr
 refine J g<|J (BX' 0)<|J g<|J LS'<|ggE hr fun g1 hr=>J (gn 9)<|ifE hr ?_ ?_<;>intro h1 hr
 exact e
 exact e
def j3W (rec_wszExpr:Expr→Int→Option Int):Nat→Expr→Int→Option (Int ⊕ Int):=fun k1 xk1 s1=>
 (rec_wszExpr xk1 s1).bind fun y1=>
 if y1 < 0 then (
 some (.inr (-1))
 ) else (
 some (.inl y1)
 )
def j1y (rec_wszExpr:Expr→Int→Option Int)(a0:(List Expr))(a1:Int):Option Int:=
 grd (I64 (a1 - (a0.length:Int))) <|
 if (a1 - (a0.length:Int)) < 0 then (
 some (-1)
 ) else (
 (findL (j3W rec_wszExpr) 0 a0 (a1 - (a0.length:Int))).bind <| onr (fun r1=>some r1) fun s1=>
 some s1
 )
theorem j9P {rec_wszExpr:Expr→Int→Option Int}(ih_wszExpr:∀ {m:Md} {a0:Expr} {a1:Int} {r:Int},rec_wszExpr a0 a1=some r→Ok Tryz.prog 246 [Expr.x m a0,dI a1] [] (dI r) []){m:Md}{a0:(List Expr)}{a1:Int}{r:Int}(hr:j1y rec_wszExpr a0 a1=some r):Ok Tryz.prog 286 [.d m (.sl 7 (a0.map Expr.D)),dI a1] [] (dI r) []:=by
 refine OE Tryz.func286 fun S hS=>?_
 unfold j1y at hr
 refine ggE hr fun g1 hr=>J (gn 18)<|ifE hr ?_ ?_<;>intro h1 hr
 exact e
 refine J (gn 8)<|J (lenT 0)<|fun hl1=>bdE hr fun q1 hqq1 hr=>q0b hqq1 hl1 0 (fun k1 s1=>[(0,.d m (.sl 7 (a0.map Expr.D))),(1,dI s1),(5,dI (k1:Int))]) (fun k1 s1=>[]) I (fun k1 xk1 sk1 ok1 hxk1 hr hltk1 hik1=>?_) fun k1 sk1 ek1 hltk1=>?_
 obtain⟨s1,rfl⟩:∃ y,y=sk1:=⟨_,rfl⟩
 refine bdE hr fun y1 hy1 hr=>J g<|J (CB' [] [] (ih_wszExpr (m:=m) hy1))<|J (gn 7)<|ifE hr ?_ ?_<;>intro h2 hr
 exact e
 exact e
 subst ek1
 obtain⟨s1,rfl⟩:∃ y,y=sk1:=⟨_,rfl⟩
 exact e
def z8h (rec_wszExpr:Expr→Int→Option Int)(a0:Expr)(a1:Int):Option Int:=
 grd (I64 (a1 - (a0.Symbol.size:Int))) <|
 if (a1 - (a0.Symbol.size:Int)) < 0 then (
 some (-1)
 ) else (
 grd (I64 ((a1 - (a0.Symbol.size:Int)) - (a0.Name.size:Int))) <|
 if ((a1 - (a0.Symbol.size:Int)) - (a0.Name.size:Int)) < 0 then (
 some (-1)
 ) else (
 (j1y rec_wszExpr a0.Args ((a1 - (a0.Symbol.size:Int)) - (a0.Name.size:Int))).bind fun y1=>
 if y1 < 0 then (
 some (-1)
 ) else (
 some y1
 )
 )
 )
theorem j9Q {rec_wszExpr:Expr→Int→Option Int}(ih_wszExpr:∀ {m:Md} {a0:Expr} {a1:Int} {r:Int},rec_wszExpr a0 a1=some r→Ok Tryz.prog 246 [Expr.x m a0,dI a1] [] (dI r) []){m:Md}{a0:Expr}{a1:Int}{r:Int}(hr:z8h rec_wszExpr a0 a1=some r):Ok Tryz.prog 246 [Expr.x m a0,dI a1] [] (dI r) []:=by
 refine OE Tryz.func246 fun S hS=>?_
 unfold z8h at hr
 refine J g<|J (BX' 0)<|J g<|J LS'<|ggE hr fun g1 hr=>J (gn 9)<|ifE hr ?_ ?_<;>intro h1 hr
 exact e
 refine J g<|J LS'<|ggE hr fun g2 hr=>J (gn 9)<|ifE hr ?_ ?_<;>intro h2 hr
 exact e
 refine bdE hr fun y1 hy1 hr=>J g<|J (CB' [] [] (j9P ih_wszExpr (m:=m) hy1))<|J (gn 8)<|ifE hr ?_ ?_<;>intro h3 hr
 exact e
 exact e
def z6h:Nat→Expr→Int→Option Int
  | 0,_,_=>none
  | n+1,a0,a1=>z8h (z6h n) a0 a1
def z8i (a0:Expr)(a1:Int):Option Int:=recO fun n=>z6h n a0 a1
theorem j9R (n:Nat):∀ {m:Md} {a0:Expr} {a1:Int} {r:Int},z6h n a0 a1=some r→Ok Tryz.prog 246 [Expr.x m a0,dI a1] [] (dI r) []:=by
  induction n with
  | zero=>intro _ _ _ r hr; exact nomatch (show (none:Option Int)=some r from hr)
  | succ n ih=>intro _ _ _ r hr; exact j9Q ih hr
theorem j1z {m:Md}{a0:Expr}{a1:Int}{r:Int}(hr:z8i a0 a1=some r):Ok Tryz.prog 246 [Expr.x m a0,dI a1] [] (dI r) []:=by
 obtain⟨n,hn⟩:=q5V hr
 exact j9R n hn
def z3T (a0:Equation)(a1:Int):Option Int:=
 (z1q a0.At a1).bind fun y1=>
 if y1 < 0 then (
 some (-1)
 ) else (
 (z8i a0.Expr y1).bind fun y2=>
 if y2 < 0 then (
 some (-1)
 ) else (
 some y2
 )
 )
theorem j5m {m:Md}{a0:Equation}{a1:Int}{r:Int}(hr:z3T a0 a1=some r):Ok Tryz.prog 205 [Equation.x m a0,dI a1] [] (dI r) []:=by
 refine OE Tryz.func205 fun S hS=>?_
 unfold z3T at hr
 refine J g<|J (BX' 0)<|bdE hr fun y1 hy1 hr=>J g<|J (CB' [] [] (j2F hy1))<|J (gn 8)<|ifE hr ?_ ?_<;>intro h1 hr
 exact e
 refine bdE hr fun y2 hy2 hr=>J g<|J (CB' [] [] (j1z (m:=m) hy2))<|J (gn 8)<|ifE hr ?_ ?_<;>intro h2 hr
 exact e
 exact e
def z8j:Nat→Equation→Int→Option (Int ⊕ Int):=fun k1 xk1 s1=>
 (z3T xk1 s1).bind fun y1=>
 if y1 < 0 then (
 some (.inr (-1))
 ) else (
 some (.inl y1)
 )
def z2S (a0:(List Equation))(a1:Int):Option Int:=
 grd (I64 (a1 - (a0.length:Int))) <|
 if (a1 - (a0.length:Int)) < 0 then (
 some (-1)
 ) else (
 (findL z8j 0 a0 (a1 - (a0.length:Int))).bind <| onr (fun r1=>some r1) fun s1=>
 some s1
 )
theorem j3X {m:Md}{a0:(List Equation)}{a1:Int}{r:Int}(hr:z2S a0 a1=some r):Ok Tryz.prog 150 [.d m (.sl 9 (a0.map Equation.D)),dI a1] [] (dI r) []:=by
 refine OE Tryz.func150 fun S hS=>?_
 unfold z2S at hr
 refine ggE hr fun g1 hr=>J (gn 18)<|ifE hr ?_ ?_<;>intro h1 hr
 exact e
 refine J (gn 8)<|J (lenT 0)<|fun hl1=>bdE hr fun q1 hqq1 hr=>q0b hqq1 hl1 0 (fun k1 s1=>[(0,.d m (.sl 9 (a0.map Equation.D))),(1,dI s1),(5,dI (k1:Int))]) (fun k1 s1=>[]) I (fun k1 xk1 sk1 ok1 hxk1 hr hltk1 hik1=>?_) fun k1 sk1 ek1 hltk1=>?_
 obtain⟨s1,rfl⟩:∃ y,y=sk1:=⟨_,rfl⟩
 refine bdE hr fun y1 hy1 hr=>J g<|J (CB' [] [] (j5m (m:=m) hy1))<|J (gn 7)<|ifE hr ?_ ?_<;>intro h2 hr
 exact e
 exact e
 subst ek1
 obtain⟨s1,rfl⟩:∃ y,y=sk1:=⟨_,rfl⟩
 exact e
def q9W (a0:Contribution)(a1:Int):Option Int:=
 grd (I64 (a1 - (a0.Symbol.size:Int))) <|
 if (a1 - (a0.Symbol.size:Int)) < 0 then (
 some (-1)
 ) else (
 grd (I64 ((a1 - (a0.Symbol.size:Int)) - (a0.Name.size:Int))) <|
 if ((a1 - (a0.Symbol.size:Int)) - (a0.Name.size:Int)) < 0 then (
 some (-1)
 ) else (
 (z8i a0.Target ((a1 - (a0.Symbol.size:Int)) - (a0.Name.size:Int))).bind fun y1=>
 if y1 < 0 then (
 some (-1)
 ) else (
 (z8i a0.Value y1).bind fun y2=>
 if y2 < 0 then (
 some (-1)
 ) else (
 some y2
 )
 )
 )
 )
theorem j0A {m:Md}{a0:Contribution}{a1:Int}{r:Int}(hr:q9W a0 a1=some r):Ok Tryz.prog 206 [Contribution.x m a0,dI a1] [] (dI r) []:=by
 refine OE Tryz.func206 fun S hS=>?_
 unfold q9W at hr
 refine J g<|J (BX' 0)<|J g<|J LS'<|ggE hr fun g1 hr=>J (gn 9)<|ifE hr ?_ ?_<;>intro h1 hr
 exact e
 refine J g<|J LS'<|ggE hr fun g2 hr=>J (gn 9)<|ifE hr ?_ ?_<;>intro h2 hr
 exact e
 refine bdE hr fun y1 hy1 hr=>J g<|J (CB' [] [] (j1z (m:=m) hy1))<|J (gn 8)<|ifE hr ?_ ?_<;>intro h3 hr
 exact e
 refine bdE hr fun y2 hy2 hr=>J g<|J (CB' [] [] (j1z (m:=m) hy2))<|J (gn 8)<|ifE hr ?_ ?_<;>intro h4 hr
 exact e
 exact e
def z4B:Nat→Contribution→Int→Option (Int ⊕ Int):=fun k1 xk1 s1=>
 (q9W xk1 s1).bind fun y1=>
 if y1 < 0 then (
 some (.inr (-1))
 ) else (
 some (.inl y1)
 )
def q9x (a0:(List Contribution))(a1:Int):Option Int:=
 grd (I64 (a1 - (a0.length:Int))) <|
 if (a1 - (a0.length:Int)) < 0 then (
 some (-1)
 ) else (
 (findL z4B 0 a0 (a1 - (a0.length:Int))).bind <| onr (fun r1=>some r1) fun s1=>
 some s1
 )
theorem z9N {m:Md}{a0:(List Contribution)}{a1:Int}{r:Int}(hr:q9x a0 a1=some r):Ok Tryz.prog 151 [.d m (.sl 16 (a0.map Contribution.D)),dI a1] [] (dI r) []:=by
 refine OE Tryz.func151 fun S hS=>?_
 unfold q9x at hr
 refine ggE hr fun g1 hr=>J (gn 18)<|ifE hr ?_ ?_<;>intro h1 hr
 exact e
 refine J (gn 8)<|J (lenT 0)<|fun hl1=>bdE hr fun q1 hqq1 hr=>q0b hqq1 hl1 0 (fun k1 s1=>[(0,.d m (.sl 16 (a0.map Contribution.D))),(1,dI s1),(5,dI (k1:Int))]) (fun k1 s1=>[]) I (fun k1 xk1 sk1 ok1 hxk1 hr hltk1 hik1=>?_) fun k1 sk1 ek1 hltk1=>?_
 obtain⟨s1,rfl⟩:∃ y,y=sk1:=⟨_,rfl⟩
 refine bdE hr fun y1 hy1 hr=>J g<|J (CB' [] [] (j0A (m:=m) hy1))<|J (gn 7)<|ifE hr ?_ ?_<;>intro h2 hr
 exact e
 exact e
 subst ek1
 obtain⟨s1,rfl⟩:∃ y,y=sk1:=⟨_,rfl⟩
 exact e
def j0B (a0:Rule)(a1:Int):Option Int:=
 grd (I64 (a1 - (a0.Name.size:Int))) <|
 if (a1 - (a0.Name.size:Int)) < 0 then (
 some (-1)
 ) else (
 grd (I64 ((a1 - (a0.Name.size:Int)) - (a0.Left.size:Int))) <|
 if ((a1 - (a0.Name.size:Int)) - (a0.Left.size:Int)) < 0 then (
 some (-1)
 ) else (
 (z5x a0.Right ((a1 - (a0.Name.size:Int)) - (a0.Left.size:Int))).bind fun y1=>
 if y1 < 0 then (
 some (-1)
 ) else (
 (z2S a0.Equations y1).bind fun y2=>
 if y2 < 0 then (
 some (-1)
 ) else (
 (q9x a0.Contributions y2).bind fun y3=>
 if y3 < 0 then (
 some (-1)
 ) else (
 some y3
 )
 )
 )
 )
 )
theorem k2x {m:Md}{a0:Rule}{a1:Int}{r:Int}(hr:j0B a0 a1=some r):Ok Tryz.prog 88 [Rule.x m a0,dI a1] [] (dI r) []:=by
 refine OE Tryz.func88 fun S hS=>?_
 unfold j0B at hr
 refine J g<|J (BX' 0)<|J g<|J LS'<|ggE hr fun g1 hr=>J (gn 9)<|ifE hr ?_ ?_<;>intro h1 hr
 exact e
 refine J g<|J LS'<|ggE hr fun g2 hr=>J (gn 9)<|ifE hr ?_ ?_<;>intro h2 hr
 exact e
 refine bdE hr fun y1 hy1 hr=>J g<|J (CB' [] [] (j6R (m:=m) hy1))<|J (gn 8)<|ifE hr ?_ ?_<;>intro h3 hr
 exact e
 refine bdE hr fun y2 hy2 hr=>J g<|J (CB' [] [] (j3X (m:=m) hy2))<|J (gn 8)<|ifE hr ?_ ?_<;>intro h4 hr
 exact e
 refine bdE hr fun y3 hy3 hr=>J g<|J (CB' [] [] (z9N (m:=m) hy3))<|J (gn 8)<|ifE hr ?_ ?_<;>intro h5 hr
 exact e
 exact e
def j3Y:Nat→Rule→Int→Option (Int ⊕ Int):=fun k1 xk1 s1=>
 (j0B xk1 s1).bind fun y1=>
 if y1 < 0 then (
 some (.inr (-1))
 ) else (
 some (.inl y1)
 )
def z9h (a0:(List Rule))(a1:Int):Option Int:=
 grd (I64 (a1 - (a0.length:Int))) <|
 if (a1 - (a0.length:Int)) < 0 then (
 some (-1)
 ) else (
 (findL j3Y 0 a0 (a1 - (a0.length:Int))).bind <| onr (fun r1=>some r1) fun s1=>
 some s1
 )
theorem j9S {m:Md}{a0:(List Rule)}{a1:Int}{r:Int}(hr:z9h a0 a1=some r):Ok Tryz.prog 35 [.d m (.sl 6 (a0.map Rule.D)),dI a1] [] (dI r) []:=by
 refine OE Tryz.func35 fun S hS=>?_
 unfold z9h at hr
 refine ggE hr fun g1 hr=>J (gn 18)<|ifE hr ?_ ?_<;>intro h1 hr
 exact e
 refine J (gn 8)<|J (lenT 0)<|fun hl1=>bdE hr fun q1 hqq1 hr=>q0b hqq1 hl1 0 (fun k1 s1=>[(0,.d m (.sl 6 (a0.map Rule.D))),(1,dI s1),(5,dI (k1:Int))]) (fun k1 s1=>[]) I (fun k1 xk1 sk1 ok1 hxk1 hr hltk1 hik1=>?_) fun k1 sk1 ek1 hltk1=>?_
 obtain⟨s1,rfl⟩:∃ y,y=sk1:=⟨_,rfl⟩
 refine bdE hr fun y1 hy1 hr=>J g<|J (CB' [] [] (k2x (m:=m) hy1))<|J (gn 7)<|ifE hr ?_ ?_<;>intro h2 hr
 exact e
 exact e
 subst ek1
 obtain⟨s1,rfl⟩:∃ y,y=sk1:=⟨_,rfl⟩
 exact e
def q9M (a0:Grammar)(a1:Int):Option Int:=
 (z5w a0.Symbols a1).bind fun y1=>
 if y1 < 0 then (
 some (-1)
 ) else (
 (z9h a0.Rules y1).bind fun y2=>
 if y2 < 0 then (
 some (-1)
 ) else (
 some y2
 )
 )
theorem z3U {m:Md}{a0:Grammar}{a1:Int}{r:Int}(hr:q9M a0 a1=some r):Ok Tryz.prog 8 [Grammar.x m a0,dI a1] [] (dI r) []:=by
 refine OE Tryz.func8 fun S hS=>?_
 unfold q9M at hr
 refine J g<|J (BX' 0)<|bdE hr fun y1 hy1 hr=>J g<|J (CB' [] [] (j6Q (m:=m) hy1))<|J (gn 8)<|ifE hr ?_ ?_<;>intro h1 hr
 exact e
 refine bdE hr fun y2 hy2 hr=>J g<|J (CB' [] [] (j9S (m:=m) hy2))<|J (gn 8)<|ifE hr ?_ ?_<;>intro h2 hr
 exact e
 exact e
def z2T (a0:Attribute):Option Attribute:=
 some a0
theorem j3Z {a0:Attribute}{r:Attribute}(hr:z2T a0=some r):Ok Tryz.prog 209 [Attribute.x .fz a0] [] (Attribute.x .fz r) []:=by
 refine OE Tryz.func209 fun S hS=>?_
 unfold z2T at hr
 refine J g<|J (BX' 0)<|J (NV' 1)<|J g<|J (NV' 2)<|e
def j2G:Nat→Attribute→((List Attribute))→Option ((List Attribute)):=fun k1 xk1 s1=>
 (z2T xk1).bind fun y1=>
 (s1[k1]?).bind fun x1=>
 some (List.set s1 k1 y1)
def z1r (a0:(List Attribute)):Option (List Attribute):=
 grd (0≤(a0.length:Int)∧(a0.length:Int)*40≤281474976710656∧(a0.length:Int)≤9223372036854775807) <|
 (eachL j2G 0 a0 (List.replicate a0.length (⟨(⟨#[]⟩:ByteArray),(0:Int),(0:Int),false⟩:Attribute))).bind fun s1=>
 some s1
theorem j2H {m:Md}{a0:(List Attribute)}{r:(List Attribute)}(hr:z1r a0=some r):Ok Tryz.prog 155 [.d m (.sl 4 (a0.map Attribute.D))] [] (.ref 0 none) [.row .fz 4 (r.map Attribute.D)]:=by
 refine OE Tryz.func155 fun S hS=>?_
 unfold z1r at hr
 refine ggE hr fun g1 hr=>J g<|J (MKR' 0 (f:=Attribute.D) (⟨(⟨#[]⟩:ByteArray),(0:Int),(0:Int),false⟩:Attribute) g1.1 g1.2.1 g1.2.2)<|J (gn 8)<|J (lenT 0)<|fun hl1=>bdE hr fun s1 hqq1 hr=>q0c hqq1 hl1 1 (fun k1 s1=>[(0,.d m (.sl 4 (a0.map Attribute.D))),(3,.ref 0 none),(4,dI (k1:Int))]) (fun k1 s1=>[(0,.row .fz 4 (s1.map Attribute.D))]) I (fun k1 xk1 sk1 ok1 hxk1 hr hltk1=>?_) fun k1 hltk1=>?_
 obtain⟨s1,rfl⟩:∃ y,y=sk1:=⟨_,rfl⟩
 refine bdE hr fun y1 hy1 hr=>J g<|J (CB' [] [] (j3Z hy1))<|bdE hr fun x1 hx1 hr=>J g<|J (SE' y1 hx1)<|e
 exact e
def z2q (a0:Symbol):Option Symbol:=
 (z1r a0.Attributes).bind fun y1=>
 some (⟨a0.Name,y1⟩:Symbol)
theorem j8A {m:Md}{a0:Symbol}{r:Symbol}(hr:z2q a0=some r):Ok Tryz.prog 96 [Symbol.x m a0] [] (.ag [dS r.Name,.ref 0 none]) [.row .fz 4 (r.Attributes.map Attribute.D)]:=by
 refine OE Tryz.func96 fun S hS=>?_
 unfold z2q at hr
 refine J g<|J (BX' 0)<|J (NV' 1)<|J g<|J (NV' 2)<|bdE hr fun y1 hy1 hr=>J g<|J (CB' [(0,3)] [] (j2H (m:=m) hy1))<|e
def j6S:Nat→Symbol→((List Symbol))→Option ((List Symbol)):=fun k1 xk1 s1=>
 (z2q xk1).bind fun y1=>
 (s1[k1]?).bind fun x1=>
 some (List.set s1 k1 y1)
def z5y (a0:(List Symbol)):Option (List Symbol):=
 grd (0≤(a0.length:Int)∧(a0.length:Int)*40≤281474976710656∧(a0.length:Int)≤9223372036854775807) <|
 (eachL j6S 0 a0 (List.replicate a0.length (⟨(⟨#[]⟩:ByteArray),[]⟩:Symbol))).bind fun s1=>
 some s1
theorem j6T {m:Md}{a0:(List Symbol)}{r:(List Symbol)}(hr:z5y a0=some r):Ok Tryz.prog 39 [.d m (.sl 2 (a0.map Symbol.D))] [] (.ref 0 none) [.deep .fz 2 (r.map Symbol.W) []]:=by
 refine OE Tryz.func39 fun S hS=>?_
 unfold z5y at hr
 refine ggE hr fun g1 hr=>J g<|MKW 0 (f:=Symbol.W) (⟨(⟨#[]⟩:ByteArray),[]⟩:Symbol) g1.1 g1.2.1 g1.2.2 ?_
 refine J (gn 8)<|J (lenT 0)<|fun hl1=>bdE hr fun s1 hqq1 hr=>q0c hqq1 hl1 1 (fun k1 s1=>[(0,.d m (.sl 2 (a0.map Symbol.D))),(3,.ref 0 none),(4,dI (k1:Int))]) (fun k1 s1=>[(0,.deep .fz 2 (s1.map Symbol.W) [])]) I (fun k1 xk1 sk1 ok1 hxk1 hr hltk1=>?_) fun k1 hltk1=>?_
 obtain⟨s1,rfl⟩:∃ y,y=sk1:=⟨_,rfl⟩
 refine bdE hr fun y1 hy1 hr=>J g<|J (CB' [(0,1)] [] (j8A (m:=m) hy1))<|bdE hr fun x1 hx1 hr=>J (IEd' (Int.natCast_nonneg _) (q3D hx1))<|J (SD' [.d .fz (.s y1.Name),.w 4 (y1.Attributes.map Attribute.D)] [1] (q3D hx1))<|J (gn 6) ?_
 cases hr
 exact GH.trans (q0j 0 (he:=eset (f:=Symbol.W) (x':=y1) (by first | rfl | (simp only [List.set_set]; rfl)))) (q0e hS 1)
 exact e
def j0C:Nat→ByteArray→((List ByteArray))→Option ((List ByteArray)):=fun k1 xk1 s1=>
 (s1[k1]?).bind fun x1=>
 some (List.set s1 k1 xk1)
def z5z (a0:(List ByteArray)):Option (List ByteArray):=
 grd (0≤(a0.length:Int)∧(a0.length:Int)*16≤281474976710656∧(a0.length:Int)≤9223372036854775807) <|
 (eachL j0C 0 a0 (List.replicate a0.length (⟨#[]⟩:ByteArray))).bind fun s1=>
 some s1
theorem j6U {m:Md}{a0:(List ByteArray)}{r:(List ByteArray)}(hr:z5z a0=some r):Ok Tryz.prog 156 [.d m (.sl 1 (a0.map A.D.s))] [] (.ref 0 none) [.row .fz 1 (r.map A.D.s)]:=by
 refine OE Tryz.func156 fun S hS=>?_
 unfold z5z at hr
 refine ggE hr fun g1 hr=>J g<|J (MKR' 0 (f:=A.D.s) (⟨#[]⟩:ByteArray) g1.1 g1.2.1 g1.2.2)<|J (gn 8)<|J (lenT 0)<|fun hl1=>bdE hr fun s1 hqq1 hr=>q0c hqq1 hl1 1 (fun k1 s1=>[(0,.d m (.sl 1 (a0.map A.D.s))),(3,.ref 0 none),(4,dI (k1:Int))]) (fun k1 s1=>[(0,.row .fz 1 (s1.map A.D.s))]) I (fun k1 xk1 sk1 ok1 hxk1 hr hltk1=>?_) fun k1 hltk1=>?_
 obtain⟨s1,rfl⟩:∃ y,y=sk1:=⟨_,rfl⟩
 refine bdE hr fun x1 hx1 hr=>J g<|J (SE' xk1 hx1)<|e
 exact e
def z1s (a0:Occurrence):Option Occurrence:=
 some a0
theorem j2I {a0:Occurrence}{r:Occurrence}(hr:z1s a0=some r):Ok Tryz.prog 248 [Occurrence.x .fz a0] [] (Occurrence.x .fz r) []:=by
 refine OE Tryz.func248 fun S hS=>?_
 unfold z1s at hr
 refine J g<|J (BX' 0)<|J (NV' 1)<|J g<|J (NV' 2)<|e
def j9T (rec_wtoExpr:Expr→Option Expr):Nat→Expr→((List Expr))→Option ((List Expr)):=fun k1 xk1 s1=>
 (rec_wtoExpr xk1).bind fun y1=>
 (s1[k1]?).bind fun x1=>
 some (List.set s1 k1 y1)
def z9i (rec_wtoExpr:Expr→Option Expr)(a0:(List Expr)):Option (List Expr):=
 grd (0≤(a0.length:Int)∧(a0.length:Int)*88≤281474976710656∧(a0.length:Int)≤9223372036854775807) <|
 (eachL (j9T rec_wtoExpr) 0 a0 (List.replicate a0.length (⟨(0:Int),(0:Int),(0:Int),(0:Int),(⟨#[]⟩:ByteArray),(⟨#[]⟩:ByteArray),[]⟩:Expr))).bind fun s1=>
 some s1
theorem j9U {rec_wtoExpr:Expr→Option Expr}(ih_wtoExpr:∀ {m:Md} {a0:Expr} {r:Expr},rec_wtoExpr a0=some r→Ok Tryz.prog 249 [Expr.x m a0] [] (.ag [dI r.Kind,dI r.N,dI r.Pos,dI r.Type_,dS r.Symbol,dS r.Name,.ref 0 none]) [.deep .fz 7 (r.Args.map Expr.W) []]){m:Md}{a0:(List Expr)}{r:(List Expr)}(hr:z9i rec_wtoExpr a0=some r):Ok Tryz.prog 288 [.d m (.sl 7 (a0.map Expr.D))] [] (.ref 0 none) [.deep .fz 7 (r.map Expr.W) []]:=by
 refine OE Tryz.func288 fun S hS=>?_
 unfold z9i at hr
 refine ggE hr fun g1 hr=>J g<|MKW 0 (f:=Expr.W) (⟨(0:Int),(0:Int),(0:Int),(0:Int),(⟨#[]⟩:ByteArray),(⟨#[]⟩:ByteArray),[]⟩:Expr) g1.1 g1.2.1 g1.2.2 ?_
 refine J (gn 8)<|J (lenT 0)<|fun hl1=>bdE hr fun s1 hqq1 hr=>q0c hqq1 hl1 1 (fun k1 s1=>[(0,.d m (.sl 7 (a0.map Expr.D))),(3,.ref 0 none),(4,dI (k1:Int))]) (fun k1 s1=>[(0,.deep .fz 7 (s1.map Expr.W) [])]) I (fun k1 xk1 sk1 ok1 hxk1 hr hltk1=>?_) fun k1 hltk1=>?_
 obtain⟨s1,rfl⟩:∃ y,y=sk1:=⟨_,rfl⟩
 refine bdE hr fun y1 hy1 hr=>J g<|J (CB' [(0,1)] [] (ih_wtoExpr (m:=m) hy1))<|bdE hr fun x1 hx1 hr=>J (IEd' (Int.natCast_nonneg _) (q3D hx1))<|J (SD' [.d .fz (.i .i64 y1.Kind),.d .fz (.i .i64 y1.N),.d .fz (.i .i64 y1.Pos),.d .fz (.i .i64 y1.Type_),.d .fz (.s y1.Symbol),.d .fz (.s y1.Name),.w 7 (y1.Args.map Expr.D)] [1] (q3D hx1))<|J (gn 6) ?_
 cases hr
 exact GH.trans (q0j 0 (he:=eset (f:=Expr.W) (x':=y1) (by first | rfl | (simp only [List.set_set]; rfl)))) (q0e hS 1)
 exact e
def z8k (rec_wtoExpr:Expr→Option Expr)(a0:Expr):Option Expr:=
 (z9i rec_wtoExpr a0.Args).bind fun y1=>
 some (⟨a0.Kind,a0.N,a0.Pos,a0.Type_,a0.Symbol,a0.Name,y1⟩:Expr)
theorem j9V {rec_wtoExpr:Expr→Option Expr}(ih_wtoExpr:∀ {m:Md} {a0:Expr} {r:Expr},rec_wtoExpr a0=some r→Ok Tryz.prog 249 [Expr.x m a0] [] (.ag [dI r.Kind,dI r.N,dI r.Pos,dI r.Type_,dS r.Symbol,dS r.Name,.ref 0 none]) [.deep .fz 7 (r.Args.map Expr.W) []]){m:Md}{a0:Expr}{r:Expr}(hr:z8k rec_wtoExpr a0=some r):Ok Tryz.prog 249 [Expr.x m a0] [] (.ag [dI r.Kind,dI r.N,dI r.Pos,dI r.Type_,dS r.Symbol,dS r.Name,.ref 0 none]) [.deep .fz 7 (r.Args.map Expr.W) []]:=by
 refine OE Tryz.func249 fun S hS=>?_
 unfold z8k at hr
 refine J g<|J (BX' 0)<|J (NV' 1)<|J g<|J (NV' 2)<|bdE hr fun y1 hy1 hr=>J g<|J (CB' [(0,3)] [] (j9U ih_wtoExpr (m:=m) hy1))<|e
def z4C:Nat→Expr→Option Expr
  | 0,_=>none
  | n+1,a0=>z8k (z4C n) a0
def z8l (a0:Expr):Option Expr:=recO fun n=>z4C n a0
theorem j9W (n:Nat):∀ {m:Md} {a0:Expr} {r:Expr},z4C n a0=some r→Ok Tryz.prog 249 [Expr.x m a0] [] (.ag [dI r.Kind,dI r.N,dI r.Pos,dI r.Type_,dS r.Symbol,dS r.Name,.ref 0 none]) [.deep .fz 7 (r.Args.map Expr.W) []]:=by
  induction n with
  | zero=>intro _ _ r hr; exact nomatch (show (none:Option Expr)=some r from hr)
  | succ n ih=>intro _ _ r hr; exact j9V ih hr
theorem j1A {m:Md}{a0:Expr}{r:Expr}(hr:z8l a0=some r):Ok Tryz.prog 249 [Expr.x m a0] [] (.ag [dI r.Kind,dI r.N,dI r.Pos,dI r.Type_,dS r.Symbol,dS r.Name,.ref 0 none]) [.deep .fz 7 (r.Args.map Expr.W) []]:=by
 obtain⟨n,hn⟩:=q5V hr
 exact j9W n hn
def q9X (a0:Equation):Option Equation:=
 (z1s a0.At).bind fun y1=>
 (z8l a0.Expr).bind fun y2=>
 some (⟨y1,y2⟩:Equation)
theorem j5n {m:Md}{a0:Equation}{r:Equation}(hr:q9X a0=some r):Ok Tryz.prog 210 [Equation.x m a0] [] (.ag [dI r.At.Pos,dS r.At.Name,dI r.Expr.Kind,dI r.Expr.N,dI r.Expr.Pos,dI r.Expr.Type_,dS r.Expr.Symbol,dS r.Expr.Name,.ref 0 none]) [.deep .fz 7 (r.Expr.Args.map Expr.W) []]:=by
 refine OE Tryz.func210 fun S hS=>?_
 unfold q9X at hr
 refine J g<|J (BX' 0)<|J (NV' 1)<|J g<|J (NV' 2)<|bdE hr fun y1 hy1 hr=>J g<|J (CB' [] [] (j2I hy1))<|bdE hr fun y2 hy2 hr=>J g<|J (CB' [(0,3)] [] (j1A (m:=m) hy2))<|e
def j4a:Nat→Equation→((List Equation))→Option ((List Equation)):=fun k1 xk1 s1=>
 (q9X xk1).bind fun y1=>
 (s1[k1]?).bind fun x1=>
 some (List.set s1 k1 y1)
def z2U (a0:(List Equation)):Option (List Equation):=
 grd (0≤(a0.length:Int)∧(a0.length:Int)*112≤281474976710656∧(a0.length:Int)≤9223372036854775807) <|
 (eachL j4a 0 a0 (List.replicate a0.length (⟨(⟨(0:Int),(⟨#[]⟩:ByteArray)⟩:Occurrence),(⟨(0:Int),(0:Int),(0:Int),(0:Int),(⟨#[]⟩:ByteArray),(⟨#[]⟩:ByteArray),[]⟩:Expr)⟩:Equation))).bind fun s1=>
 some s1
theorem j4b {m:Md}{a0:(List Equation)}{r:(List Equation)}(hr:z2U a0=some r):Ok Tryz.prog 157 [.d m (.sl 9 (a0.map Equation.D))] [] (.ref 0 none) [.deep .fz 9 (r.map Equation.W) []]:=by
 refine OE Tryz.func157 fun S hS=>?_
 unfold z2U at hr
 refine ggE hr fun g1 hr=>J g<|MKW 0 (f:=Equation.W) (⟨(⟨(0:Int),(⟨#[]⟩:ByteArray)⟩:Occurrence),(⟨(0:Int),(0:Int),(0:Int),(0:Int),(⟨#[]⟩:ByteArray),(⟨#[]⟩:ByteArray),[]⟩:Expr)⟩:Equation) g1.1 g1.2.1 g1.2.2 ?_
 refine J (gn 8)<|J (lenT 0)<|fun hl1=>bdE hr fun s1 hqq1 hr=>q0c hqq1 hl1 1 (fun k1 s1=>[(0,.d m (.sl 9 (a0.map Equation.D))),(3,.ref 0 none),(4,dI (k1:Int))]) (fun k1 s1=>[(0,.deep .fz 9 (s1.map Equation.W) [])]) I (fun k1 xk1 sk1 ok1 hxk1 hr hltk1=>?_) fun k1 hltk1=>?_
 obtain⟨s1,rfl⟩:∃ y,y=sk1:=⟨_,rfl⟩
 refine bdE hr fun y1 hy1 hr=>J g<|J (CB' [(0,1)] [] (j5n (m:=m) hy1))<|bdE hr fun x1 hx1 hr=>J (IEd' (Int.natCast_nonneg _) (q3D hx1))<|J (SD' [.d .fz (.i .i64 y1.At.Pos),.d .fz (.s y1.At.Name),.d .fz (.i .i64 y1.Expr.Kind),.d .fz (.i .i64 y1.Expr.N),.d .fz (.i .i64 y1.Expr.Pos),.d .fz (.i .i64 y1.Expr.Type_),.d .fz (.s y1.Expr.Symbol),.d .fz (.s y1.Expr.Name),.w 7 (y1.Expr.Args.map Expr.D)] [1] (q3D hx1))<|J (gn 6) ?_
 cases hr
 exact GH.trans (q0j 0 (he:=eset (f:=Equation.W) (x':=y1) (by first | rfl | (simp only [List.set_set]; rfl)))) (q0e hS 1)
 exact e
def q7u (a0:Contribution):Option Contribution:=
 (z8l a0.Target).bind fun y1=>
 (z8l a0.Value).bind fun y2=>
 some (⟨a0.Symbol,a0.Name,y1,y2⟩:Contribution)
theorem j0D {m:Md}{a0:Contribution}{r:Contribution}(hr:q7u a0=some r):Ok Tryz.prog 211 [Contribution.x m a0] [] (.ag [dS r.Symbol,dS r.Name,dI r.Target.Kind,dI r.Target.N,dI r.Target.Pos,dI r.Target.Type_,dS r.Target.Symbol,dS r.Target.Name,.ref 0 none,dI r.Value.Kind,dI r.Value.N,dI r.Value.Pos,dI r.Value.Type_,dS r.Value.Symbol,dS r.Value.Name,.ref 1 none]) [.deep .fz 7 (r.Target.Args.map Expr.W) [],.deep .fz 7 (r.Value.Args.map Expr.W) []]:=by
 refine OE Tryz.func211 fun S hS=>?_
 unfold q7u at hr
 refine J g<|J (BX' 0)<|J (NV' 1)<|J g<|J (NV' 2)<|bdE hr fun y1 hy1 hr=>J g<|J (CB' [(0,3)] [] (j1A (m:=m) hy1))<|bdE hr fun y2 hy2 hr=>J g<|J (CB' [(0,4)] [] (j1A (m:=m) hy2))<|e
def z9O:Nat→Contribution→((List Contribution))→Option ((List Contribution)):=fun k1 xk1 s1=>
 (q7u xk1).bind fun y1=>
 (s1[k1]?).bind fun x1=>
 some (List.set s1 k1 y1)
def q9y (a0:(List Contribution)):Option (List Contribution):=
 grd (0≤(a0.length:Int)∧(a0.length:Int)*208≤281474976710656∧(a0.length:Int)≤9223372036854775807) <|
 (eachL z9O 0 a0 (List.replicate a0.length (⟨(⟨#[]⟩:ByteArray),(⟨#[]⟩:ByteArray),(⟨(0:Int),(0:Int),(0:Int),(0:Int),(⟨#[]⟩:ByteArray),(⟨#[]⟩:ByteArray),[]⟩:Expr),(⟨(0:Int),(0:Int),(0:Int),(0:Int),(⟨#[]⟩:ByteArray),(⟨#[]⟩:ByteArray),[]⟩:Expr)⟩:Contribution))).bind fun s1=>
 some s1
theorem z9P {m:Md}{a0:(List Contribution)}{r:(List Contribution)}(hr:q9y a0=some r):Ok Tryz.prog 158 [.d m (.sl 16 (a0.map Contribution.D))] [] (.ref 0 none) [.deep .fz 16 (r.map Contribution.W) []]:=by
 refine OE Tryz.func158 fun S hS=>?_
 unfold q9y at hr
 refine ggE hr fun g1 hr=>J g<|MKW 0 (f:=Contribution.W) (⟨(⟨#[]⟩:ByteArray),(⟨#[]⟩:ByteArray),(⟨(0:Int),(0:Int),(0:Int),(0:Int),(⟨#[]⟩:ByteArray),(⟨#[]⟩:ByteArray),[]⟩:Expr),(⟨(0:Int),(0:Int),(0:Int),(0:Int),(⟨#[]⟩:ByteArray),(⟨#[]⟩:ByteArray),[]⟩:Expr)⟩:Contribution) g1.1 g1.2.1 g1.2.2 ?_
 refine J (gn 8)<|J (lenT 0)<|fun hl1=>bdE hr fun s1 hqq1 hr=>q0c hqq1 hl1 1 (fun k1 s1=>[(0,.d m (.sl 16 (a0.map Contribution.D))),(3,.ref 0 none),(4,dI (k1:Int))]) (fun k1 s1=>[(0,.deep .fz 16 (s1.map Contribution.W) [])]) I (fun k1 xk1 sk1 ok1 hxk1 hr hltk1=>?_) fun k1 hltk1=>?_
 obtain⟨s1,rfl⟩:∃ y,y=sk1:=⟨_,rfl⟩
 refine bdE hr fun y1 hy1 hr=>J g<|J (CB' [(0,1),(1,2)] [] (j0D (m:=m) hy1))<|bdE hr fun x1 hx1 hr=>J (IEd' (Int.natCast_nonneg _) (q3D hx1))<|J (SD' [.d .fz (.s y1.Symbol),.d .fz (.s y1.Name),.d .fz (.i .i64 y1.Target.Kind),.d .fz (.i .i64 y1.Target.N),.d .fz (.i .i64 y1.Target.Pos),.d .fz (.i .i64 y1.Target.Type_),.d .fz (.s y1.Target.Symbol),.d .fz (.s y1.Target.Name),.w 7 (y1.Target.Args.map Expr.D),.d .fz (.i .i64 y1.Value.Kind),.d .fz (.i .i64 y1.Value.N),.d .fz (.i .i64 y1.Value.Pos),.d .fz (.i .i64 y1.Value.Type_),.d .fz (.s y1.Value.Symbol),.d .fz (.s y1.Value.Name),.w 7 (y1.Value.Args.map Expr.D)] [1,2] (q3D hx1))<|J (gn 6) ?_
 cases hr
 exact GH.trans (q0j 0 (he:=eset (f:=Contribution.W) (x':=y1) (by first | rfl | (simp only [List.set_set]; rfl)))) (q0e hS 1)
 exact e
def z6i (a0:Rule):Option Rule:=
 (z5z a0.Right).bind fun y1=>
 (z2U a0.Equations).bind fun y2=>
 (q9y a0.Contributions).bind fun y3=>
 some (⟨a0.Name,a0.Left,y1,a0.Literal,y2,y3⟩:Rule)
theorem k2y {m:Md}{a0:Rule}{r:Rule}(hr:z6i a0=some r):Ok Tryz.prog 97 [Rule.x m a0] [] (.ag [dS r.Name,dS r.Left,.ref 0 none,dB r.Literal,.ref 1 none,.ref 2 none]) [.row .fz 1 (r.Right.map A.D.s),.deep .fz 9 (r.Equations.map Equation.W) [],.deep .fz 16 (r.Contributions.map Contribution.W) []]:=by
 refine OE Tryz.func97 fun S hS=>?_
 unfold z6i at hr
 refine J g<|J (BX' 0)<|J (NV' 1)<|J g<|J (NV' 2)<|bdE hr fun y1 hy1 hr=>J g<|J (CB' [(0,3)] [] (j6U (m:=m) hy1))<|bdE hr fun y2 hy2 hr=>J g<|J (CB' [(0,4)] [] (j4b (m:=m) hy2))<|bdE hr fun y3 hy3 hr=>J g<|J (CB' [(0,5)] [] (z9P (m:=m) hy3))<|e
def j9X:Nat→Rule→((List Rule))→Option ((List Rule)):=fun k1 xk1 s1=>
 (z6i xk1).bind fun y1=>
 (s1[k1]?).bind fun x1=>
 some (List.set s1 k1 y1)
def z9j (a0:(List Rule)):Option (List Rule):=
 grd (0≤(a0.length:Int)∧(a0.length:Int)*112≤281474976710656∧(a0.length:Int)≤9223372036854775807) <|
 (eachL j9X 0 a0 (List.replicate a0.length (⟨(⟨#[]⟩:ByteArray),(⟨#[]⟩:ByteArray),[],false,[],[]⟩:Rule))).bind fun s1=>
 some s1
theorem j9Y {m:Md}{a0:(List Rule)}{r:(List Rule)}(hr:z9j a0=some r):Ok Tryz.prog 40 [.d m (.sl 6 (a0.map Rule.D))] [] (.ref 0 none) [.deep .fz 6 (r.map Rule.W) []]:=by
 refine OE Tryz.func40 fun S hS=>?_
 unfold z9j at hr
 refine ggE hr fun g1 hr=>J g<|MKW 0 (f:=Rule.W) (⟨(⟨#[]⟩:ByteArray),(⟨#[]⟩:ByteArray),[],false,[],[]⟩:Rule) g1.1 g1.2.1 g1.2.2 ?_
 refine J (gn 8)<|J (lenT 0)<|fun hl1=>bdE hr fun s1 hqq1 hr=>q0c hqq1 hl1 1 (fun k1 s1=>[(0,.d m (.sl 6 (a0.map Rule.D))),(3,.ref 0 none),(4,dI (k1:Int))]) (fun k1 s1=>[(0,.deep .fz 6 (s1.map Rule.W) [])]) I (fun k1 xk1 sk1 ok1 hxk1 hr hltk1=>?_) fun k1 hltk1=>?_
 obtain⟨s1,rfl⟩:∃ y,y=sk1:=⟨_,rfl⟩
 refine bdE hr fun y1 hy1 hr=>J g<|J (CB' [(0,1),(1,2),(2,3)] [] (k2y (m:=m) hy1))<|bdE hr fun x1 hx1 hr=>J (IEd' (Int.natCast_nonneg _) (q3D hx1))<|J (SD' [.d .fz (.s y1.Name),.d .fz (.s y1.Left),.w 1 (y1.Right.map A.D.s),.d .fz (.b y1.Literal),.w 9 (y1.Equations.map Equation.D),.w 16 (y1.Contributions.map Contribution.D)] [1,2,3] (q3D hx1))<|J (gn 6) ?_
 cases hr
 exact GH.trans (q0j 0 (he:=eset (f:=Rule.W) (x':=y1) (by first | rfl | (simp only [List.set_set]; rfl)))) (q0e hS 1)
 exact e
def q4z (a0:Grammar):Option Grammar:=
 (z5y a0.Symbols).bind fun y1=>
 (z9j a0.Rules).bind fun y2=>
 some (⟨y1,y2⟩:Grammar)
theorem q4T {m:Md}{a0:Grammar}{r:Grammar}(hr:q4z a0=some r):Ok Tryz.prog 10 [Grammar.x m a0] [] (.ag [.ref 0 none,.ref 1 none]) [.deep .fz 2 (r.Symbols.map Symbol.W) [],.deep .fz 6 (r.Rules.map Rule.W) []]:=by
 refine OE Tryz.func10 fun S hS=>?_
 unfold q4z at hr
 refine J g<|J (BX' 0)<|J (NV' 1)<|J g<|J (NV' 2)<|bdE hr fun y1 hy1 hr=>J g<|J (CB' [(0,3)] [] (j6T (m:=m) hy1))<|bdE hr fun y2 hy2 hr=>J g<|J (CB' [(0,4)] [] (j9Y (m:=m) hy2))<|e
def q5B (a0:Int)(a1:Int)(a2:Int):Option Bool:=
 if a1≤a0 then (
 some (decide (a0≤a2))
 ) else (
 some false
 )
theorem q5L {a0:Int}{a1:Int}{a2:Int}{r:Bool}(hr:q5B a0 a1 a2=some r):Ok Tryz.prog 106 [dI a0,dI a1,dI a2] [] (dB r) []:=by
 refine OE Tryz.func106 fun S hS=>?_
 unfold q5B at hr
 refine J (gn 9)<|ifE hr ?_ ?_<;>intro h1 hr
 exact e
 exact e
def j4c (a0:ByteArray):Nat→Unit→Option (Unit ⊕ Bool):=fun k1 _=>
 (a0.data[k1]?).bind fun x1=>
 (
 if 97≤(x1.toNat:Int) then (
 some (decide ((x1.toNat:Int)≤122))
 ) else (
 some false
 )
 ).bind fun s1=>
 (
 if 48≤(x1.toNat:Int) then (
 some (decide ((x1.toNat:Int)≤57))
 ) else (
 some false
 )
 ).bind fun s2=>
 (
 if s1=true then (
 some false
 ) else (
 (
 if (k1:Int)=0 then (
 some (true,true)
 ) else (
 some (false,!s2)
 )
 ).bind fun (s4,s5)=>
 some s5
 )
 ).bind fun s3=>
 if s3=true then (
 some (.inr false)
 ) else (
 some (.inl ())
 )
def z9k (a0:ByteArray):Option Bool:=
 (findN (j4c a0) 0 a0.size ()).bind <| onr (fun r1=>some r1) fun _=>
 some (decide (0 < (a0.size:Int)))
theorem j9Z {a0:ByteArray}{r:Bool}(hr:z9k a0=some r):Ok Tryz.prog 307 [dS a0] [] (dB r) []:=by
 refine OE Tryz.func307 fun S hS=>?_
 unfold z9k at hr
 refine J (gn 10) ?_
 refine q2S (.tmp 0 rfl) fun ht1=>?_
 have hl1:rngI .i64 (a0.size:Int):=k5W ht1
 refine bdE hr fun q1 hqq1 hr=>q0q hqq1 0 (fun k1 _=>[(0,dS a0),(3,dI (k1:Int))]) (fun k1 _=>[]) I (fun k1 sk1 ok1 hr hltk1 hik1=>?_) fun sk1 ek1=>?_
 refine J g<|J LS'<|bdE hr fun x1 hx1 hr=>J g ?_
 refine J (SI' rfl rfl (Int.natCast_nonneg _) hx1)<|bdE hr fun s1 hqq2 hr=>J (gn 1)<|q0a 6 [(0,dS a0),(3,dI (k1:Int)),(21,dB s1)] ?_ ?_
 replace hr:=hqq2
 refine ifE hr ?_ ?_<;>intro h1 hr
 refine J g ?_
 refine J (SI' rfl rfl (Int.natCast_nonneg _) hx1)<|J g<|E
 exact e
 refine J g ?_
 refine J (SI' rfl rfl (Int.natCast_nonneg _) hx1)<|bdE hr fun s2 hqq3 hr=>J (gn 1)<|q0a 6 [(0,dS a0),(3,dI (k1:Int)),(4,dB s1),(31,dB s2)] ?_ ?_
 replace hr:=hqq3
 refine ifE hr ?_ ?_<;>intro h2 hr
 refine J g ?_
 refine J (SI' rfl rfl (Int.natCast_nonneg _) hx1)<|J g<|E
 exact e
 refine bdE hr fun s3 hqq4 hr=>J (gn 6)<|q0a 8 [(0,dS a0),(3,dI (k1:Int)),(41,dB s3)] ?_ ?_
 replace hr:=hqq4
 refine ifE hr ?_ ?_<;>intro h3 hr
 exact e
 refine bdP hr fun s4 s5 hqq5 hr=>J (gn 3)<|q0a 4 [(0,dS a0),(3,dI (k1:Int)),(34,dB true),(35,dI (k1:Int)),(36,dB (decide ((k1:Int)=0))),(37,dB s4),(40,dB s5)] ?_ ?_
 replace hr:=hqq5
 refine ifE hr ?_ ?_<;>intro h4 hr
 exact e
 exact e
 exact e
 refine J (gn 1)<|ifE hr ?_ ?_<;>intro h5 hr
 exact e
 exact e
 subst ek1
 refine J g<|J LS'<|J g<|J LS'<|e
def z3V:Option (List ByteArray):=
 some [(⟨#[105,102]⟩:ByteArray),(⟨#[116,104,101,110]⟩:ByteArray),(⟨#[101,108,115,101]⟩:ByteArray),(⟨#[116,114,117,101]⟩:ByteArray),(⟨#[102,97,108,115,101]⟩:ByteArray),(⟨#[108,105,116]⟩:ByteArray),(⟨#[110,111,110,101]⟩:ByteArray),(⟨#[115,101,108,102]⟩:ByteArray),(⟨#[111,102]⟩:ByteArray),(⟨#[109,97,120]⟩:ByteArray),(⟨#[109,105,110]⟩:ByteArray),(⟨#[119,105,116,104]⟩:ByteArray),(⟨#[104,97,115]⟩:ByteArray)]
theorem j5o {r:(List ByteArray)}(hr:z3V=some r):Ok Tryz.prog 319 [] [] (.ref 0 none) [.row .fz 1 (r.map A.D.s)]:=by
 refine OE Tryz.func319 fun S hS=>?_
 unfold z3V at hr
 refine J g<|J (LIR' 0 (m:=.fz) (f:=A.D.s) (xs:=[(⟨#[105,102]⟩:ByteArray),(⟨#[116,104,101,110]⟩:ByteArray),(⟨#[101,108,115,101]⟩:ByteArray),(⟨#[116,114,117,101]⟩:ByteArray),(⟨#[102,97,108,115,101]⟩:ByteArray),(⟨#[108,105,116]⟩:ByteArray),(⟨#[110,111,110,101]⟩:ByteArray),(⟨#[115,101,108,102]⟩:ByteArray),(⟨#[111,102]⟩:ByteArray),(⟨#[109,97,120]⟩:ByteArray),(⟨#[109,105,110]⟩:ByteArray),(⟨#[119,105,116,104]⟩:ByteArray),(⟨#[104,97,115]⟩:ByteArray)]))<|e
def j0E (a1:ByteArray):Nat→ByteArray→Unit→Option (Unit ⊕ Bool):=fun k1 xk1 _=>
 if xk1=a1 then (
 some (.inr true)
 ) else (
 some (.inl ())
 )
def z2V (a0:(List ByteArray))(a1:ByteArray):Option Bool:=
 (findL (j0E a1) 0 a0 ()).bind <| onr (fun r1=>some r1) fun _=>
 some false
theorem j0F {m:Md}{a0:(List ByteArray)}{a1:ByteArray}{r:Bool}(hr:z2V a0 a1=some r):Ok Tryz.prog 253 [.d m (.sl 1 (a0.map A.D.s)),dS a1] [] (dB r) []:=by
 refine OE Tryz.func253 fun S hS=>?_
 unfold z2V at hr
 refine J (gn 10)<|J (lenT 0)<|fun hl1=>bdE hr fun q1 hqq1 hr=>q0b hqq1 hl1 0 (fun k1 _=>[(0,.d m (.sl 1 (a0.map A.D.s))),(1,dS a1),(5,dI (k1:Int))]) (fun k1 _=>[]) I (fun k1 xk1 sk1 ok1 hxk1 hr hltk1 hik1=>?_) fun k1 sk1 ek1 hltk1=>?_
 refine J (gn 21)<|ifE hr ?_ ?_<;>intro h1 hr
 exact e
 exact e
 subst ek1
 exact e
def z1t (a0:ByteArray):Option Bool:=
 (z3V).bind fun y1=>
 (z2V y1 a0).bind fun y2=>
 some y2
theorem j5p {a0:ByteArray}{r:Bool}(hr:z1t a0=some r):Ok Tryz.prog 308 [dS a0] [] (dB r) []:=by
 refine OE Tryz.func308 fun S hS=>?_
 unfold z1t at hr
 refine bdE hr fun y1 hy1 hr=>J g<|J (CB' [(0,0)] [] (j5o hy1))<|bdE hr fun y2 hy2 hr=>J g<|J (CB' [] [0] (j0F (m:=.bo) hy2))<|e
def q4R (a0:ByteArray):Option Bool:=
 (z9k a0).bind fun y1=>
 (
 if y1=true then (
 some (decide ((a0.size:Int)≤8))
 ) else (
 some false
 )
 ).bind fun s1=>
 (
 if s1=true then (
 (z1t a0).bind fun y2=>
 some (!y2)
 ) else (
 some false
 )
 ).bind fun s2=>
 some s2
theorem q5u {a0:ByteArray}{r:Bool}(hr:q4R a0=some r):Ok Tryz.prog 291 [dS a0] [] (dB r) []:=by
 refine OE Tryz.func291 fun S hS=>?_
 unfold q4R at hr
 refine bdE hr fun y1 hy1 hr=>J g<|J (CB' [] [] (j9Z hy1))<|bdE hr fun s1 hqq1 hr=>q0a 5 [(0,dS a0),(2,dB false),(9,dB s1)] ?_ ?_
 replace hr:=hqq1
 refine ifE hr ?_ ?_<;>intro h1 hr
 refine J g<|J LS'<|e
 exact e
 refine bdE hr fun s2 hqq2 hr=>q0a 5 [(2,dB false),(14,dB s2)] ?_ ?_
 replace hr:=hqq2
 refine ifE hr ?_ ?_<;>intro h2 hr
 refine bdE hr fun y2 hy2 hr=>J g<|J (CB' [] [] (j5p hy2))<|e
 exact e
 exact e
def q7D (a0:Attribute):Option Bool:=
 (q4R a0.Name).bind fun y1=>
 (
 if y1=true then (
 (q5B a0.Type_ 1 4).bind fun y2=>
 some (!y2)
 ) else (
 some true
 )
 ).bind fun s1=>
 (
 if s1=true then (
 some true
 ) else (
 (q5B a0.Mode 1 3).bind fun y3=>
 some (!y3)
 )
 ).bind fun s2=>
 if s2=true then (
 some false
 ) else (
 (
 if a0.Mode=3 then (
 (
 if a0.Type_=2 then (
 some a0.Circular
 ) else (
 some true
 )
 ).bind fun s4=>
 some s4
 ) else (
 some false
 )
 ).bind fun s3=>
 if s3=true then (
 some false
 ) else (
 (
 if a0.Circular=true then (
 some (decide (a0.Type_=2))
 ) else (
 some true
 )
 ).bind fun s5=>
 some s5
 )
 )
theorem z9w {a0:Attribute}{r:Bool}(hr:q7D a0=some r):Ok Tryz.prog 290 [Attribute.x .fz a0] [] (dB r) []:=by
 refine OE Tryz.func290 fun S hS=>?_
 unfold q7D at hr
 refine J g<|J (BX' 0)<|bdE hr fun y1 hy1 hr=>J g<|J (CB' [] [] (q5u hy1))<|bdE hr fun s1 hqq1 hr=>J (gn 1)<|q0a 6 [(1,.pb 0 0),(12,dB s1)] ?_ ?_
 replace hr:=hqq1
 refine ifE hr ?_ ?_<;>intro h1 hr
 refine bdE hr fun y2 hy2 hr=>J g<|J (CB' [] [] (q5L hy2))<|e
 exact e
 refine bdE hr fun s2 hqq2 hr=>q0a 6 [(1,.pb 0 0),(18,dB s2)] ?_ ?_
 replace hr:=hqq2
 refine ifE hr ?_ ?_<;>intro h2 hr
 exact e
 refine bdE hr fun y3 hy3 hr=>J g<|J (CB' [] [] (q5L hy3))<|e
 refine J (gn 1)<|ifE hr ?_ ?_<;>intro h3 hr
 exact e
 refine bdE hr fun s3 hqq3 hr=>J (gn 8)<|q0a 9 [(1,.pb 0 0),(30,dB s3)] ?_ ?_
 replace hr:=hqq3
 refine ifE hr ?_ ?_<;>intro h4 hr
 refine bdE hr fun s4 hqq4 hr=>J (gn 4)<|q0a 4 [(1,.pb 0 0),(22,dB true),(29,dB s4)] ?_ ?_
 replace hr:=hqq4
 refine ifE hr ?_ ?_<;>intro h5 hr
 exact e
 exact e
 exact e
 exact e
 refine J (gn 1)<|ifE hr ?_ ?_<;>intro h6 hr
 exact e
 refine bdE hr fun s5 hqq5 hr=>J (gn 7)<|q0a 5 [(38,dB s5)] ?_ ?_
 replace hr:=hqq5
 refine ifE hr ?_ ?_<;>intro h7 hr
 exact e
 exact e
 exact e
def z1u (a0:(List ByteArray)):Nat→ByteArray→Unit→Option (Unit ⊕ Bool):=fun k1 xk1 _=>
 grd (k1≤a0.length) <|
 (z2V (a0.take k1) xk1).bind fun y1=>
 if y1=true then (
 some (.inr false)
 ) else (
 some (.inl ())
 )
def z0y (a0:(List ByteArray)):Option Bool:=
 (findL (z1u a0) 0 a0 ()).bind <| onr (fun r1=>some r1) fun _=>
 some true
theorem j4d {m:Md}{a0:(List ByteArray)}{r:Bool}(hr:z0y a0=some r):Ok Tryz.prog 292 [.d m (.sl 1 (a0.map A.D.s))] [] (dB r) []:=by
 refine OE Tryz.func292 fun S hS=>?_
 unfold z0y at hr
 refine J (gn 10)<|J (lenT 0)<|fun hl1=>bdE hr fun q1 hqq1 hr=>q0b hqq1 hl1 0 (fun k1 _=>[(0,.d m (.sl 1 (a0.map A.D.s))),(3,dI (k1:Int))]) (fun k1 _=>[]) I (fun k1 xk1 sk1 ok1 hxk1 hr hltk1 hik1=>?_) fun k1 sk1 ek1 hltk1=>?_
 refine ggE hr fun g1 hr=>J g<|J (SLH' (Int.natCast_nonneg _) g1)<|bdE hr fun y1 hy1 hr=>J g<|J (CB' [] [] (j0F (m:=m) hy1))<|J (gn 1)<|ifE hr ?_ ?_<;>intro h1 hr
 exact e
 exact e
 subst ek1
 exact e
def q9Y:Nat→Attribute→((List ByteArray))→Option (((List ByteArray)) ⊕ Bool):=fun k1 xk1 s1=>
 (q7D xk1).bind fun y1=>
 if y1=true then (
 grd (((s1.length:Int)+1)*16≤140737488355328∧(s1.length:Int)+1≤9223372036854775807) <|
 some (.inl (s1++[xk1.Name]))
 ) else (
 some (.inr false)
 )
def q8X (a0:Symbol):Option Bool:=
 (findL q9Y 0 a0.Attributes ([]:List ByteArray)).bind <| onr (fun r1=>some r1) fun s1=>
 (q4R a0.Name).bind fun y2=>
 (
 if y2=true then (
 some (decide ((s1.length:Int)≤4))
 ) else (
 some false
 )
 ).bind fun s2=>
 (
 if s2=true then (
 (z0y s1).bind fun y3=>
 some y3
 ) else (
 some false
 )
 ).bind fun s3=>
 some s3
theorem j1B {m:Md}{a0:Symbol}{r:Bool}(hr:q8X a0=some r):Ok Tryz.prog 252 [Symbol.x m a0] [] (dB r) []:=by
 refine OE Tryz.func252 fun S hS=>?_
 unfold q8X at hr
 refine J g<|J (BX' 0)<|J g<|J (L0' 1 A.D.s)<|J (gn 8)<|J (lenA 1 0)<|fun hl1=>bdE hr fun q1 hqq1 hr=>q0b hqq1 hl1 2 (fun k1 s1=>[(1,.pb 0 0),(3,.ref 1 none),(4,dI (k1:Int))]) (fun k1 s1=>[(1,.row .fz 1 (s1.map A.D.s))]) I (fun k1 xk1 sk1 ok1 hxk1 hr hltk1 hik1=>?_) fun k1 sk1 ek1 hltk1=>?_
 obtain⟨s1,rfl⟩:∃ y,y=sk1:=⟨_,rfl⟩
 refine bdE hr fun y1 hy1 hr=>J g<|J (CB' [] [] (z9w hy1))<|J (gn 2)<|ifE hr ?_ ?_<;>intro h1 hr
 refine J g<|J (LIR' 2 (m:=.fz) (f:=A.D.s) (xs:=[xk1.Name]))<|ggE hr fun g1 hr=>J (z4z (f:=A.D.s) 3 (fun _=>rfl) 16 g1)<|e
 exact e
 subst ek1
 obtain⟨s1,rfl⟩:∃ y,y=sk1:=⟨_,rfl⟩
 refine bdE hr fun y2 hy2 hr=>J g<|J (CB' [] [] (q5u hy2))<|bdE hr fun s2 hqq2 hr=>q0a 5 [(3,.ref 1 none),(36,dB s2)] ?_ ?_
 replace hr:=hqq2
 refine ifE hr ?_ ?_<;>intro h2 hr
 exact e
 exact e
 refine bdE hr fun s3 hqq3 hr=>q0a 4 [(40,dB s3)] ?_ ?_
 replace hr:=hqq3
 refine ifE hr ?_ ?_<;>intro h3 hr
 refine bdE hr fun y3 hy3 hr=>J g<|J (CB' [] [1] (j4d (m:=.bo) hy3))<|e
 exact e
 exact e
def z4l (rec_sl4Left:Expr→Int→Option Int)(a0:Expr):(Int × Int)→Option ((Int × Int) ⊕ Int):=fun (s2,s3)=>
 if s3 < (a0.Args.length:Int) then (
 if 0≤s2 then (
 grd (0≤s3) <|
 (a0.Args[s3.toNat]?).bind fun x1=>
 (rec_sl4Left x1 s2).bind fun y1=>
 grd (I64 (s3+1)) <|
 some (.inl (y1,(s3+1)))
 ) else (
 some (.inr s2)
 )
 ) else (
 some (.inr s2)
 )
def z8m (rec_sl4Left:Expr→Int→Option Int)(a0:Expr)(a1:Int):Option Int:=
 grd (I64 (a1 - 1)) <|
 (q4i (z4l rec_sl4Left a0) ((a1 - 1),0)).bind fun s1=>
 some s1
theorem k0a {rec_sl4Left:Expr→Int→Option Int}(ih_sl4Left:∀ {m:Md} {a0:Expr} {a1:Int} {r:Int},rec_sl4Left a0 a1=some r→Ok Tryz.prog 320 [Expr.x m a0,dI a1] [] (dI r) []){m:Md}{a0:Expr}{a1:Int}{r:Int}(hr:z8m rec_sl4Left a0 a1=some r):Ok Tryz.prog 320 [Expr.x m a0,dI a1] [] (dI r) []:=by
 refine OE Tryz.func320 fun S hS=>?_
 unfold z8m at hr
 refine J g<|J (BX' 0)<|ggE hr fun g1 hr=>bdE hr fun s1 hqq1 hr=>J (gn 13)<|q0d 1 [(1,dI s1)] [] ?_ ?_
 refine J g<|q0h hqq1 1 (fun (s2,s3)=>[(1,dI s2),(2,.pb 0 0),(5,dI s3)]) (fun (s2,s3)=>[]) I fun sk1 ok1 hr hik1=>?_
 obtain⟨s2,s3⟩:=sk1
 have hr:=hr
 refine J (gn 8)<|ifE hr ?_ ?_<;>intro h1 hr
 refine J (gn 5)<|ifE hr ?_ ?_<;>intro h2 hr
 refine ggE hr fun g2 hr=>bdE hr fun x1 hx1 hr=>bdE hr fun y1 hy1 hr=>J g<|J (CB' [] [] (ih_sl4Left (m:=m) hy1))<|ggE hr fun g3 hr=>e
 refine J (gn 2) ?_
 cases hr
 cases hik1 _ rfl
 exact q0e hS 1
 refine J (gn 7) ?_
 cases hr
 cases hik1 _ rfl
 exact q0e hS 1
 exact e
def z4D:Nat→Expr→Int→Option Int
  | 0,_,_=>none
  | n+1,a0,a1=>z8m (z4D n) a0 a1
def j4e (a0:Expr)(a1:Int):Option Int:=recO fun n=>z4D n a0 a1
theorem k0b (n:Nat):∀ {m:Md} {a0:Expr} {a1:Int} {r:Int},z4D n a0 a1=some r→Ok Tryz.prog 320 [Expr.x m a0,dI a1] [] (dI r) []:=by
  induction n with
  | zero=>intro _ _ _ r hr; exact nomatch (show (none:Option Int)=some r from hr)
  | succ n ih=>intro _ _ _ r hr; exact k0a ih hr
theorem k2z {m:Md}{a0:Expr}{a1:Int}{r:Int}(hr:j4e a0 a1=some r):Ok Tryz.prog 320 [Expr.x m a0,dI a1] [] (dI r) []:=by
 obtain⟨n,hn⟩:=q5V hr
 exact k0b n hn
def z0J (a0:Int)(a1:Int):Option Int:=
 if a1 < a0 then (
 some a0
 ) else (
 some a1
 )
theorem z8n {a0:Int}{a1:Int}{r:Int}(hr:z0J a0 a1=some r):Ok Tryz.prog 95 [dI a0,dI a1] [] (dI r) []:=by
 refine OE Tryz.func95 fun S hS=>?_
 unfold z0J at hr
 refine J (gn 11)<|ifE hr ?_ ?_<;>intro h1 hr
 exact e
 exact e
def z4E (rec_sDepthOfExpr:Expr→Option Int):Nat→Expr→Int→Option Int:=fun k1 xk1 s1=>
 (rec_sDepthOfExpr xk1).bind fun y1=>
 (z0J s1 y1).bind fun y2=>
 some y2
def z0z (rec_sDepthOfExpr:Expr→Option Int)(a0:Expr):Option Int:=
 (eachL (z4E rec_sDepthOfExpr) 0 a0.Args 0).bind fun s1=>
 grd (I64 (s1+1)) <|
 some (s1+1)
theorem j2J {rec_sDepthOfExpr:Expr→Option Int}(ih_sDepthOfExpr:∀ {m:Md} {a0:Expr} {r:Int},rec_sDepthOfExpr a0=some r→Ok Tryz.prog 321 [Expr.x m a0] [] (dI r) []){m:Md}{a0:Expr}{r:Int}(hr:z0z rec_sDepthOfExpr a0=some r):Ok Tryz.prog 321 [Expr.x m a0] [] (dI r) []:=by
 refine OE Tryz.func321 fun S hS=>?_
 unfold z0z at hr
 refine J g<|J (BX' 0)<|J (gn 12)<|J (lenA 6 0)<|fun hl1=>bdE hr fun s1 hqq1 hr=>q0c hqq1 hl1 1 (fun k1 s1=>[(1,.pb 0 0),(3,dI s1),(4,dI (k1:Int))]) (fun k1 s1=>[]) I (fun k1 xk1 sk1 ok1 hxk1 hr hltk1=>?_) fun k1 hltk1=>?_
 obtain⟨s1,rfl⟩:∃ y,y=sk1:=⟨_,rfl⟩
 refine bdE hr fun y1 hy1 hr=>J g<|J (CB' [] [] (ih_sDepthOfExpr (m:=m) hy1))<|bdE hr fun y2 hy2 hr=>J (CB' [] [] (z8n hy2))<|e
 refine ggE hr fun g1 hr=>e
def q7o:Nat→Expr→Option Int
  | 0,_=>none
  | n+1,a0=>z0z (q7o n) a0
def z5Q (a0:Expr):Option Int:=recO fun n=>q7o n a0
theorem j2K (n:Nat):∀ {m:Md} {a0:Expr} {r:Int},q7o n a0=some r→Ok Tryz.prog 321 [Expr.x m a0] [] (dI r) []:=by
  induction n with
  | zero=>intro _ _ r hr; exact nomatch (show (none:Option Int)=some r from hr)
  | succ n ih=>intro _ _ r hr; exact j2J ih hr
theorem j4f {m:Md}{a0:Expr}{r:Int}(hr:z5Q a0=some r):Ok Tryz.prog 321 [Expr.x m a0] [] (dI r) []:=by
 obtain⟨n,hn⟩:=q5V hr
 exact j2K n hn
def z8o (a0:Expr):Option Bool:=
 (
 if a0.Kind=4 then (
 some 2
 ) else (
 if a0.Kind=5 then (
 some 3
 ) else (
 if a0.Kind=8 then (
 some 1
 ) else (
 some 0
 )
 )
 )
 ).bind fun s1=>
 if (a0.Args.length:Int)=s1 then (
 (
 if a0.Kind=3 then (
 some true
 ) else (
 some (decide (a0.Kind=6))
 )
 ).bind fun s2=>
 (
 if a0.Kind=3 then (
 some true
 ) else (
 some (decide (a0.Kind=8))
 )
 ).bind fun s3=>
 (
 if a0.Kind=1 then (
 some true
 ) else (
 some (decide (a0.Kind=4))
 )
 ).bind fun s4=>
 (
 if s2=true then (
 some true
 ) else (
 some (decide (a0.Pos=0))
 )
 ).bind fun s5=>
 (
 if s5=true then (
 (
 if s3=true then (
 some true
 ) else (
 some (decide (a0.Name=(⟨#[]⟩:ByteArray)))
 )
 ).bind fun s7=>
 some s7
 ) else (
 some false
 )
 ).bind fun s6=>
 (
 if s6=true then (
 (
 if s4=true then (
 some true
 ) else (
 some (decide (a0.N=0))
 )
 ).bind fun s9=>
 some s9
 ) else (
 some false
 )
 ).bind fun s8=>
 (
 if s8=true then (
 (
 if a0.Kind=1 then (
 some true
 ) else (
 some (decide (a0.Type_=0))
 )
 ).bind fun s11=>
 some s11
 ) else (
 some false
 )
 ).bind fun s10=>
 (
 if s10=true then (
 (
 if a0.Kind=8 then (
 some true
 ) else (
 some (decide (a0.Symbol=(⟨#[]⟩:ByteArray)))
 )
 ).bind fun s13=>
 some s13
 ) else (
 some false
 )
 ).bind fun s12=>
 some s12
 ) else (
 some false
 )
theorem k2A {m:Md}{a0:Expr}{r:Bool}(hr:z8o a0=some r):Ok Tryz.prog 329 [Expr.x m a0] [] (dB r) []:=by
 refine OE Tryz.func329 fun S hS=>?_
 unfold z8o at hr
 refine J g<|J (BX' 0)<|bdE hr fun s1 hqq1 hr=>J (gn 12)<|q0d 1 [(1,.pb 0 0),(3,dI s1)] [] ?_ ?_
 replace hr:=hqq1
 refine J (gn 6)<|ifE hr ?_ ?_<;>intro h1 hr
 exact e
 refine J (gn 6)<|ifE hr ?_ ?_<;>intro h2 hr
 exact e
 refine J (gn 6)<|ifE hr ?_ ?_<;>intro h3 hr
 exact e
 exact e
 refine J (gn 9)<|ifE hr ?_ ?_<;>intro h4 hr
 refine bdE hr fun s2 hqq2 hr=>J (gn 7)<|q0a 5 [(1,.pb 0 0),(27,dB s2)] ?_ ?_
 replace hr:=hqq2
 refine ifE hr ?_ ?_<;>intro h5 hr
 exact e
 exact e
 refine bdE hr fun s3 hqq3 hr=>J (gn 7)<|q0a 5 [(1,.pb 0 0),(4,dB s2),(35,dB s3)] ?_ ?_
 replace hr:=hqq3
 refine ifE hr ?_ ?_<;>intro h6 hr
 exact e
 exact e
 refine bdE hr fun s4 hqq4 hr=>J (gn 7)<|q0a 5 [(1,.pb 0 0),(4,dB s2),(5,dB s3),(43,dB s4)] ?_ ?_
 replace hr:=hqq4
 refine ifE hr ?_ ?_<;>intro h7 hr
 exact e
 exact e
 refine bdE hr fun s5 hqq5 hr=>J (gn 5)<|q0a 5 [(1,.pb 0 0),(5,dB s3),(6,dB s4),(49,dB s5)] ?_ ?_
 replace hr:=hqq5
 refine ifE hr ?_ ?_<;>intro h8 hr
 exact e
 exact e
 refine bdE hr fun s6 hqq6 hr=>q0a 8 [(1,.pb 0 0),(6,dB s4),(57,dB s6)] ?_ ?_
 replace hr:=hqq6
 refine ifE hr ?_ ?_<;>intro h9 hr
 refine bdE hr fun s7 hqq7 hr=>J (gn 2)<|q0a 5 [(1,.pb 0 0),(6,dB s4),(50,dB true),(56,dB s7)] ?_ ?_
 replace hr:=hqq7
 refine ifE hr ?_ ?_<;>intro h10 hr
 exact e
 exact e
 exact e
 exact e
 refine bdE hr fun s8 hqq8 hr=>q0a 8 [(1,.pb 0 0),(65,dB s8)] ?_ ?_
 replace hr:=hqq8
 refine ifE hr ?_ ?_<;>intro h11 hr
 refine bdE hr fun s9 hqq9 hr=>J (gn 2)<|q0a 5 [(1,.pb 0 0),(58,dB true),(64,dB s9)] ?_ ?_
 replace hr:=hqq9
 refine ifE hr ?_ ?_<;>intro h12 hr
 exact e
 exact e
 exact e
 exact e
 refine bdE hr fun s10 hqq10 hr=>q0a 10 [(1,.pb 0 0),(75,dB s10)] ?_ ?_
 replace hr:=hqq10
 refine ifE hr ?_ ?_<;>intro h13 hr
 refine bdE hr fun s11 hqq11 hr=>J (gn 4)<|q0a 5 [(1,.pb 0 0),(66,dB true),(74,dB s11)] ?_ ?_
 replace hr:=hqq11
 refine ifE hr ?_ ?_<;>intro h14 hr
 exact e
 exact e
 exact e
 exact e
 refine bdE hr fun s12 hqq12 hr=>q0a 10 [(85,dB s12)] ?_ ?_
 replace hr:=hqq12
 refine ifE hr ?_ ?_<;>intro h15 hr
 refine bdE hr fun s13 hqq13 hr=>J (gn 4)<|q0a 5 [(76,dB true),(84,dB s13)] ?_ ?_
 replace hr:=hqq13
 refine ifE hr ?_ ?_<;>intro h16 hr
 exact e
 exact e
 exact e
 exact e
 exact e
 exact e
end Go.Proofs.YtcegfmageiicaaaGreat
