/- What some functions of the program compute, as partial functions on plain data, and that they do; each lemma bears its conditions in its statement. -/
import Derived.Test.YtcegfmageiicaaaGreatLift5
set_option linter.unusedVariables false
set_option linter.unusedSimpArgs false
set_option linter.ambiguousOpen false
set_option linter.unusedSectionVars false
set_option linter.unnecessarySimpa false
set_option maxRecDepth 100000
set_option maxHeartbeats 40000000
noncomputable section
namespace Go.Proofs.YtcegfmageiicaaaGreat
open Go Go.E Go.A
def q8h (a0:Grammar)(a1:Rule)(a2:Occurrence):Option (Attribute × Bool):=
 (q3Z a2.Pos 0 (a1.Right.length:Int)).bind fun y1=>
 if y1=true then (
 (q6A a1 a2.Pos).bind fun y2=>
 (q5O a0 y2).bind fun (y3,y4)=>
 (q6Z y3 a2.Name).bind fun (y5,y6)=>
 some (y5,y6)
 ) else (
 some ((⟨(⟨#[]⟩:ByteArray),0,0,false⟩:Attribute),false)
 )
theorem z4P {m:Md}{a0:Grammar}{a1:Rule}{a2:Occurrence}{r:(Attribute × Bool)}(hr:q8h a0 a1 a2=some r):Ok Tryz.prog 227 [Grammar.y m a0,Rule.x m a1,Occurrence.x .fz a2] [] (.tu [Attribute.x .fz r.1,dB r.2]) []:=by
 refine OE Tryz.func227 fun S hS=>?_
 unfold q8h at hr
 refine J g<|J (BX' 0)<|J (BX' 1)<|J (BX' 2)<|J (NV' 3)<|bdE hr fun y1 hy1 hr=>J g<|J (CB' [] [] (q4A hy1))<|J (gn 2)<|ifE hr ?_ ?_<;>intro h1 hr
 refine bdE hr fun y2 hy2 hr=>J g<|J (CB' [] [] (z1e (m:=m) hy2))<|bdP hr fun y3 y4 hq1 hr=>J (CB' [] [] (q9k (m:=m) hq1))<|J g<|J (NV' 4)<|bdP hr fun y5 y6 hq2 hr=>J g<|J (CB' [] [] (z2D (m:=m) hq2))<|e
 exact e
def z8I (a0:Grammar)(a1:Rule)(a2:Occurrence):Option Bool:=
 (q8h a0 a1 a2).bind fun (y1,y2)=>
 if a2.Pos=0 then (
 (
 if y2=true then (
 some (decide (y1.Mode=1))
 ) else (
 some false
 )
 ).bind fun s1=>
 some s1
 ) else (
 (
 if y2=true then (
 some (decide (y1.Mode=2))
 ) else (
 some false
 )
 ).bind fun s2=>
 some s2
 )
theorem k2N {m:Md}{a0:Grammar}{a1:Rule}{a2:Occurrence}{r:Bool}(hr:z8I a0 a1 a2=some r):Ok Tryz.prog 272 [Grammar.y m a0,Rule.x m a1,Occurrence.x .fz a2] [] (dB r) []:=by
 refine OE Tryz.func272 fun S hS=>?_
 unfold z8I at hr
 refine J g<|J (BX' 0)<|J (BX' 1)<|J (BX' 2)<|bdP hr fun y1 y2 hq1 hr=>J g<|J (CB' [] [] (z4P (m:=m) hq1))<|J g<|J (NV' 3)<|J (gn 10)<|ifE hr ?_ ?_<;>intro h1 hr
 refine bdE hr fun s1 hqq2 hr=>J (gn 4)<|q0a 5 [(6,dB false),(24,dB s1)] ?_ ?_
 replace hr:=hqq2
 refine ifE hr ?_ ?_<;>intro h2 hr
 exact e
 exact e
 exact e
 refine bdE hr fun s2 hqq3 hr=>J (gn 5)<|q0a 5 [(6,dB false),(30,dB s2)] ?_ ?_
 replace hr:=hqq3
 refine ifE hr ?_ ?_<;>intro h3 hr
 exact e
 exact e
 exact e
def z3d (a0:Occurrence)(a1:Grammar)(a2:Rule):Option Bool:=
 (z8I a1 a2 a0).bind fun y1=>
 some (!y1)
theorem j4y {m2:Md}{a0:Occurrence}{a1:Grammar}{a2:Rule}{r:Bool}(hr:z3d a0 a1 a2=some r):Ok Tryz.prog 271 [Occurrence.x .fz a0,.pb 0 0,.pb 1 0] [.box [.d m2 (.sl 2 (a1.Symbols.map Symbol.D)),.d m2 (.sl 6 (a1.Rules.map Rule.D))],.box [dS a2.Name,dS a2.Left,.d m2 (.sl 1 (a2.Right.map A.D.s)),dB a2.Literal,.d m2 (.sl 9 (a2.Equations.map Equation.D)),.d m2 (.sl 16 (a2.Contributions.map Contribution.D))]] (dB r) [.box [.d m2 (.sl 2 (a1.Symbols.map Symbol.D)),.d m2 (.sl 6 (a1.Rules.map Rule.D))],.box [dS a2.Name,dS a2.Left,.d m2 (.sl 1 (a2.Right.map A.D.s)),dB a2.Literal,.d m2 (.sl 9 (a2.Equations.map Equation.D)),.d m2 (.sl 16 (a2.Contributions.map Contribution.D))]]:=by
 refine OE Tryz.func271 fun S hS=>?_
 unfold z3d at hr
 refine J g<|J (BX' 2)<|bdE hr fun y1 hy1 hr=>J g<|J (CB' [] [] (k2N (m:=m2) hy1))<|e
def q6h (a1_0:Grammar)(a1_1:Rule):Nat→Occurrence→Unit→Option (Unit ⊕ Int):=fun k1 xk1 _=>
 (z3d xk1 a1_0 a1_1).bind fun y1=>
 if y1=true then (
 some (.inr (k1:Int))
 ) else (
 some (.inl ())
 )
def q4v (a0:(List Occurrence))(a1_0:Grammar)(a1_1:Rule):Option Int:=
 (findL (q6h a1_0 a1_1) 0 a0 ()).bind <| onr (fun r1=>some r1) fun _=>
 some (-1)
theorem q8R {m2:Md}{a0:(List Occurrence)}{a1_0:Grammar}{a1_1:Rule}{r:Int}(hr:q4v a0 a1_0 a1_1=some r):Ok Tryz.prog 244 [.ref 2 none,.fn 271 [.pb 0 0,.pb 1 0]] [.box [.d m2 (.sl 2 (a1_0.Symbols.map Symbol.D)),.d m2 (.sl 6 (a1_0.Rules.map Rule.D))],.box [dS a1_1.Name,dS a1_1.Left,.d m2 (.sl 1 (a1_1.Right.map A.D.s)),dB a1_1.Literal,.d m2 (.sl 9 (a1_1.Equations.map Equation.D)),.d m2 (.sl 16 (a1_1.Contributions.map Contribution.D))],.row .fz 2 (a0.map Occurrence.D)] (dI r) [.box [.d m2 (.sl 2 (a1_0.Symbols.map Symbol.D)),.d m2 (.sl 6 (a1_0.Rules.map Rule.D))],.box [dS a1_1.Name,dS a1_1.Left,.d m2 (.sl 1 (a1_1.Right.map A.D.s)),dB a1_1.Literal,.d m2 (.sl 9 (a1_1.Equations.map Equation.D)),.d m2 (.sl 16 (a1_1.Contributions.map Contribution.D))],.row .fz 2 (a0.map Occurrence.D)]:=by
 refine OE Tryz.func244 fun S hS=>?_
 unfold q4v at hr
 refine J (gn 12)<|J (lenR 2)<|fun hl1=>bdE hr fun q1 hqq1 hr=>q0b hqq1 hl1 3 (fun k1 _=>[(0,.ref 2 none),(1,.fn 271 [.pb 0 0,.pb 1 0]),(7,dI (a0.length:Int)),(8,dI (k1:Int))]) (fun k1 _=>[]) I (fun k1 xk1 sk1 ok1 hxk1 hr hltk1 hik1=>?_) fun k1 sk1 ek1 hltk1=>?_
 refine bdE hr fun y1 hy1 hr=>J g<|J (CB' [(0,0),(1,1)] [] (j4y (m2:=m2) hy1))<|J (gn 1)<|ifE hr ?_ ?_<;>intro h1 hr
 exact e
 exact e
 subst ek1
 exact e
def q4f (a0:(List Occurrence))(a1_0:Grammar)(a1_1:Rule):Option Bool:=
 (q4v a0 a1_0 a1_1).bind fun y1=>
 some (decide (0≤y1))
theorem q8n {m2:Md}{a0:(List Occurrence)}{a1_0:Grammar}{a1_1:Rule}{r:Bool}(hr:q4f a0 a1_0 a1_1=some r):Ok Tryz.prog 201 [.ref 2 none,.fn 271 [.pb 0 0,.pb 1 0]] [.box [.d m2 (.sl 2 (a1_0.Symbols.map Symbol.D)),.d m2 (.sl 6 (a1_0.Rules.map Rule.D))],.box [dS a1_1.Name,dS a1_1.Left,.d m2 (.sl 1 (a1_1.Right.map A.D.s)),dB a1_1.Literal,.d m2 (.sl 9 (a1_1.Equations.map Equation.D)),.d m2 (.sl 16 (a1_1.Contributions.map Contribution.D))],.row .fz 2 (a0.map Occurrence.D)] (dB r) [.box [.d m2 (.sl 2 (a1_0.Symbols.map Symbol.D)),.d m2 (.sl 6 (a1_0.Rules.map Rule.D))],.box [dS a1_1.Name,dS a1_1.Left,.d m2 (.sl 1 (a1_1.Right.map A.D.s)),dB a1_1.Literal,.d m2 (.sl 9 (a1_1.Equations.map Equation.D)),.d m2 (.sl 16 (a1_1.Contributions.map Contribution.D))],.row .fz 2 (a0.map Occurrence.D)]:=by
 refine OE Tryz.func201 fun S hS=>?_
 unfold q4f at hr
 refine bdE hr fun y1 hy1 hr=>J g<|J (CB' [(0,0),(1,1),(2,2)] [] (q8R (m2:=m2) hy1))<|e
def z3t (a0:Expr)(a1:Grammar)(a2:Rule):Option Bool:=
 (q7X a0).bind fun y1=>
 (q4f y1 a1 a2).bind fun y2=>
 some y2
theorem j7g {m:Md}{m2:Md}{a0:Expr}{a1:Grammar}{a2:Rule}{r:Bool}(hr:z3t a0 a1 a2=some r):Ok Tryz.prog 270 [Expr.x m a0,.pb 0 0,.pb 1 0] [.box [.d m2 (.sl 2 (a1.Symbols.map Symbol.D)),.d m2 (.sl 6 (a1.Rules.map Rule.D))],.box [dS a2.Name,dS a2.Left,.d m2 (.sl 1 (a2.Right.map A.D.s)),dB a2.Literal,.d m2 (.sl 9 (a2.Equations.map Equation.D)),.d m2 (.sl 16 (a2.Contributions.map Contribution.D))]] (dB r) [.box [.d m2 (.sl 2 (a1.Symbols.map Symbol.D)),.d m2 (.sl 6 (a1.Rules.map Rule.D))],.box [dS a2.Name,dS a2.Left,.d m2 (.sl 1 (a2.Right.map A.D.s)),dB a2.Literal,.d m2 (.sl 9 (a2.Equations.map Equation.D)),.d m2 (.sl 16 (a2.Contributions.map Contribution.D))]]:=by
 refine OE Tryz.func270 fun S hS=>?_
 unfold z3t at hr
 refine J g<|J (BX' 2)<|bdE hr fun y1 hy1 hr=>J g<|J (CB' [(0,3)] [] (z6v (m:=m) hy1))<|bdE hr fun y2 hy2 hr=>J g<|J (CB' [(0,0),(1,1),(2,3)] [] (q8n (m2:=m2) hy2))<|e
def q7I (a1_0:Grammar)(a1_1:Rule):Nat→Expr→Unit→Option (Unit ⊕ Int):=fun k1 xk1 _=>
 (z3t xk1 a1_0 a1_1).bind fun y1=>
 if y1=true then (
 some (.inr (k1:Int))
 ) else (
 some (.inl ())
 )
def q5i (a0:(List Expr))(a1_0:Grammar)(a1_1:Rule):Option Int:=
 (findL (q7I a1_0 a1_1) 0 a0 ()).bind <| onr (fun r1=>some r1) fun _=>
 some (-1)
theorem z0T {m2:Md}{a0:(List Expr)}{a1_0:Grammar}{a1_1:Rule}{r:Int}(hr:q5i a0 a1_0 a1_1=some r):Ok Tryz.prog 233 [.ref 2 none,.fn 270 [.pb 0 0,.pb 1 0]] [.box [.d m2 (.sl 2 (a1_0.Symbols.map Symbol.D)),.d m2 (.sl 6 (a1_0.Rules.map Rule.D))],.box [dS a1_1.Name,dS a1_1.Left,.d m2 (.sl 1 (a1_1.Right.map A.D.s)),dB a1_1.Literal,.d m2 (.sl 9 (a1_1.Equations.map Equation.D)),.d m2 (.sl 16 (a1_1.Contributions.map Contribution.D))],.row m2 7 (a0.map Expr.D)] (dI r) [.box [.d m2 (.sl 2 (a1_0.Symbols.map Symbol.D)),.d m2 (.sl 6 (a1_0.Rules.map Rule.D))],.box [dS a1_1.Name,dS a1_1.Left,.d m2 (.sl 1 (a1_1.Right.map A.D.s)),dB a1_1.Literal,.d m2 (.sl 9 (a1_1.Equations.map Equation.D)),.d m2 (.sl 16 (a1_1.Contributions.map Contribution.D))],.row m2 7 (a0.map Expr.D)]:=by
 refine OE Tryz.func233 fun S hS=>?_
 unfold q5i at hr
 refine J (gn 12)<|J (lenR 2)<|fun hl1=>bdE hr fun q1 hqq1 hr=>q0b hqq1 hl1 3 (fun k1 _=>[(0,.ref 2 none),(1,.fn 270 [.pb 0 0,.pb 1 0]),(7,dI (a0.length:Int)),(8,dI (k1:Int))]) (fun k1 _=>[]) I (fun k1 xk1 sk1 ok1 hxk1 hr hltk1 hik1=>?_) fun k1 sk1 ek1 hltk1=>?_
 refine J g<|J (x0v hxk1 (Expr.D_cells xk1))<|bdE hr fun y1 hy1 hr=>J (CB' [(0,0),(1,1)] [] (j7g (m:=m2) (m2:=m2) hy1))<|J (gn 1)<|ifE hr ?_ ?_<;>intro h1 hr
 exact e
 exact e
 subst ek1
 exact e
def q4V (a0:(List Expr))(a1_0:Grammar)(a1_1:Rule):Option Bool:=
 (q5i a0 a1_0 a1_1).bind fun y1=>
 some (decide (0≤y1))
theorem z0c {m2:Md}{a0:(List Expr)}{a1_0:Grammar}{a1_1:Rule}{r:Bool}(hr:q4V a0 a1_0 a1_1=some r):Ok Tryz.prog 176 [.ref 2 none,.fn 270 [.pb 0 0,.pb 1 0]] [.box [.d m2 (.sl 2 (a1_0.Symbols.map Symbol.D)),.d m2 (.sl 6 (a1_0.Rules.map Rule.D))],.box [dS a1_1.Name,dS a1_1.Left,.d m2 (.sl 1 (a1_1.Right.map A.D.s)),dB a1_1.Literal,.d m2 (.sl 9 (a1_1.Equations.map Equation.D)),.d m2 (.sl 16 (a1_1.Contributions.map Contribution.D))],.row m2 7 (a0.map Expr.D)] (dB r) [.box [.d m2 (.sl 2 (a1_0.Symbols.map Symbol.D)),.d m2 (.sl 6 (a1_0.Rules.map Rule.D))],.box [dS a1_1.Name,dS a1_1.Left,.d m2 (.sl 1 (a1_1.Right.map A.D.s)),dB a1_1.Literal,.d m2 (.sl 9 (a1_1.Equations.map Equation.D)),.d m2 (.sl 16 (a1_1.Contributions.map Contribution.D))],.row m2 7 (a0.map Expr.D)]:=by
 refine OE Tryz.func176 fun S hS=>?_
 unfold q4V at hr
 refine bdE hr fun y1 hy1 hr=>J g<|J (CB' [(0,0),(1,1),(2,2)] [] (z0T (m2:=m2) hy1))<|e
def z6w (a0:Grammar)(a1:Rule):Option Bool:=
 (q9l a1).bind fun y1=>
 (q4V y1 a0 a1).bind fun y2=>
 some y2
theorem k0m {m:Md}{a0:Grammar}{a1:Rule}{r:Bool}(hr:z6w a0 a1=some r):Ok Tryz.prog 226 [Grammar.x m a0,Rule.x m a1] [] (dB r) []:=by
 refine OE Tryz.func226 fun S hS=>?_
 unfold z6w at hr
 refine J g<|J (BX' 0)<|J (BX' 1)<|bdE hr fun y1 hy1 hr=>J g<|J (CB' [(0,2)] [] (z8H (m:=m) hy1))<|bdE hr fun y2 hy2 hr=>J g<|J (CB' [(0,0),(1,1),(2,2)] [] (z0c (m2:=m) hy2))<|e
def z3e (a0:Grammar)(s1:Int):Nat→Rule→Unit→Option (Unit ⊕ (Int × Int)):=fun k2 xk2 _=>
 if s1=3 then (
 (z6t a0 xk2).bind fun y5=>
 if y5=true then (
 some (.inr (s1,(k2:Int)))
 ) else (
 some (.inl ())
 )
 ) else (
 if s1=4 then (
 (z6u a0 xk2).bind fun y6=>
 if y6=true then (
 some (.inr (s1,(k2:Int)))
 ) else (
 some (.inl ())
 )
 ) else (
 if s1=5 then (
 (j0Q a0 xk2).bind fun y7=>
 if y7=true then (
 some (.inr (s1,(k2:Int)))
 ) else (
 some (.inl ())
 )
 ) else (
 (z6w a0 xk2).bind fun y8=>
 if y8=true then (
 some (.inr (s1,(k2:Int)))
 ) else (
 some (.inl ())
 )
 )
 )
 )
def q6J (a0:Grammar):Int→Option (Int ⊕ (Unit ⊕ (Int × Int))):=fun s1=>
 if s1≤6 then (
 (findL (z3e a0 s1) 0 a0.Rules ()).bind <| onr (fun r1=>some (.inr (.inr r1))) fun _=>
 grd (I64 (s1+1)) <|
 some (.inl (s1+1))
 ) else (
 some (.inr (.inl ()))
 )
def z1Q (a0:Grammar):Option (Int × Int):=
 (q3Z (a0.Symbols.length:Int) 1 4).bind fun y1=>
 if y1=true then (
 (q3Z (a0.Rules.length:Int) 1 8).bind fun y2=>
 if y2=true then (
 (z1M a0).bind fun y3=>
 if 0≤y3 then (
 some (1,y3)
 ) else (
 (a0.Symbols[0]?).bind fun x1=>
 (q4e x1.Attributes).bind fun y4=>
 if y4=true then (
 some (2,0)
 ) else (
 (q4i (q6J a0) 3).bind <| onr (fun r2=>some r2) fun ()=>
 some (0,0)
 )
 )
 ) else (
 some (1,0)
 )
 ) else (
 some (1,0)
 )
theorem j5A {m:Md}{a0:Grammar}{r:(Int × Int)}(hr:z1Q a0=some r):Ok Tryz.prog 167 [Grammar.x m a0] [] (.tu [dI r.1,dI r.2]) []:=by
 refine OE Tryz.func167 fun S hS=>?_
 unfold z1Q at hr
 refine J g<|J (BX' 0)<|bdE hr fun y1 hy1 hr=>J g<|J (CB' [] [] (q4A hy1))<|J (gn 1)<|ifE hr ?_ ?_<;>intro h1 hr
 refine bdE hr fun y2 hy2 hr=>J g<|J (CB' [] [] (q4A hy2))<|J (gn 3)<|ifE hr ?_ ?_<;>intro h2 hr
 refine bdE hr fun y3 hy3 hr=>J g<|J (CB' [] [] (j5z (m:=m) hy3))<|J (gn 7)<|ifE hr ?_ ?_<;>intro h3 hr
 exact e
 refine bdE hr fun x1 hx1 hr=>bdE hr fun y4 hy4 hr=>J g<|J (CB' [] [] (q8m (m:=m) hy4))<|J (gn 1)<|ifE hr ?_ ?_<;>intro h4 hr
 exact e
 refine bdE hr fun q1 hqq1 hr=>J (gn 7)<|AW.cut 1 (fun _=>[]) (fun _=>[]) (M:=fun x=>q1 = .inl x) ?_ fun x hx=>?_
 refine J g<|q0h hqq1 1 (fun s1=>[(1,.pb 0 0),(5,dI s1)]) (fun s1=>[]) I fun sk1 ok1 hr hik1=>?_
 obtain⟨s1,rfl⟩:∃ y,y=sk1:=⟨_,rfl⟩
 have hr:=hr
 refine J (gn 6)<|ifE hr ?_ ?_<;>intro h5 hr
 refine J (gn 12)<|J (lenT 37)<|fun hl2=>bdE hr fun q2 hqq2 hr=>q0b hqq2 hl2 1 (fun k2 _=>[(1,.pb 0 0),(5,dI s1),(37,.d m (.sl 6 (a0.Rules.map Rule.D))),(38,dI (a0.Rules.length:Int)),(39,dI (k2:Int))]) (fun k2 _=>[]) I (fun k2 xk2 sk2 ok2 hxk2 hr hltk2 hik2=>?_) fun k2 sk2 ek2 hltk2=>?_
 refine J g<|J (NV' 1)<|J (gn 18)<|ifE hr ?_ ?_<;>intro h6 hr
 refine bdE hr fun y5 hy5 hr=>J g<|J (CB' [] [] (k0j (m:=m) hy5))<|J (gn 6)<|ifE hr ?_ ?_<;>intro h7 hr
 exact e
 exact e
 refine J (gn 6)<|ifE hr ?_ ?_<;>intro h8 hr
 refine bdE hr fun y6 hy6 hr=>J g<|J (CB' [] [] (k0k (m:=m) hy6))<|J (gn 6)<|ifE hr ?_ ?_<;>intro h9 hr
 exact e
 exact e
 refine J (gn 6)<|ifE hr ?_ ?_<;>intro h10 hr
 refine bdE hr fun y7 hy7 hr=>J g<|J (CB' [] [] (k4g (m:=m) hy7))<|J (gn 6)<|ifE hr ?_ ?_<;>intro h11 hr
 exact e
 exact e
 refine bdE hr fun y8 hy8 hr=>J g<|J (CB' [] [] (k0m (m:=m) hy8))<|J (gn 6)<|ifE hr ?_ ?_<;>intro h12 hr
 exact e
 exact e
 subst ek2
 refine ggE hr fun g1 hr=>e
 refine J (gn 2) ?_
 cases hr
 cases hik1 _ rfl
 exact⟨_,rfl,q0e hS 1⟩
 subst hx
 exact e
 exact e
 exact e
def q9S (a0:Int):Option (Int × Int × Int):=
 (
 if a0=1 then (
 some (decide (a0=1))
 ) else (
 if a0=2 then (
 some (decide (a0=2))
 ) else (
 if a0=3 then (
 some (decide (a0=3))
 ) else (
 if a0=4 then (
 some (decide (a0=4))
 ) else (
 some (decide (a0=5))
 )
 )
 )
 )
 ).bind fun s1=>
 if s1=true then (
 some (1,1,1)
 ) else (
 (
 if a0=6 then (
 some (decide (a0=6))
 ) else (
 if a0=7 then (
 some (decide (a0=7))
 ) else (
 some (decide (a0=8))
 )
 )
 ).bind fun s2=>
 if s2=true then (
 some (2,2,2)
 ) else (
 if a0=9 then (
 if a0=9 then (
 some (1,1,3)
 ) else (
 if a0=11 then (
 some (2,1,3)
 ) else (
 if a0=12 then (
 some (2,1,2)
 ) else (
 some (0,0,0)
 )
 )
 )
 ) else (
 if a0=10 then (
 some (1,1,3)
 ) else (
 if a0=11 then (
 some (2,1,3)
 ) else (
 if a0=12 then (
 some (2,1,2)
 ) else (
 some (0,0,0)
 )
 )
 )
 )
 )
 )
theorem j2T {a0:Int}{r:(Int × Int × Int)}(hr:q9S a0=some r):Ok Tryz.prog 273 [dI a0] [] (.tu [dI r.1,dI r.2.1,dI r.2.2]) []:=by
 refine OE Tryz.func273 fun S hS=>?_
 unfold q9S at hr
 refine bdE hr fun s1 hqq1 hr=>J (gn 18)<|q0d 0 [(5,dI a0),(6,dB s1)] [] ?_ ?_
 replace hr:=hqq1
 refine ifE hr ?_ ?_<;>intro h1 hr
 exact e
 refine J (gn 6)<|ifE hr ?_ ?_<;>intro h2 hr
 exact e
 refine J (gn 6)<|ifE hr ?_ ?_<;>intro h3 hr
 exact e
 refine J (gn 6)<|ifE hr ?_ ?_<;>intro h4 hr
 exact e
 exact e
 refine ifE hr ?_ ?_<;>intro h5 hr
 exact e
 refine bdE hr fun s2 hqq2 hr=>J (gn 7)<|q0d 0 [(5,dI a0),(12,dB s2)] [] ?_ ?_
 replace hr:=hqq2
 refine ifE hr ?_ ?_<;>intro h6 hr
 exact e
 refine J (gn 6)<|ifE hr ?_ ?_<;>intro h7 hr
 exact e
 exact e
 refine ifE hr ?_ ?_<;>intro h8 hr
 exact e
 refine J (gn 7)<|ifE hr ?_ ?_<;>intro h9 hr
 refine J (gn 2)<|ifE hr ?_ ?_<;>intro h10 hr
 exact e
 refine J (gn 6)<|ifE hr ?_ ?_<;>intro h11 hr
 exact e
 refine J (gn 6)<|ifE hr ?_ ?_<;>intro h12 hr
 exact e
 exact e
 refine J (gn 5)<|ifE hr ?_ ?_<;>intro h13 hr
 exact e
 refine J (gn 6)<|ifE hr ?_ ?_<;>intro h14 hr
 exact e
 refine J (gn 6)<|ifE hr ?_ ?_<;>intro h15 hr
 exact e
 exact e
def z3f (rec_iTypeOfExpr:Grammar→Rule→Expr→Option Int)(a0:Grammar)(a1:Rule):Nat→Expr→((List Int))→Option ((List Int)):=fun k1 xk1 s1=>
 (rec_iTypeOfExpr a0 a1 xk1).bind fun y1=>
 grd (((s1.length:Int)+1)*8≤140737488355328∧(s1.length:Int)+1≤9223372036854775807) <|
 some (s1++[y1])
def z1R (rec_iTypeOfExpr:Grammar→Rule→Expr→Option Int)(a0:Grammar)(a1:Rule)(a2:Expr):Option Int:=
 (eachL (z3f rec_iTypeOfExpr a0 a1) 0 a2.Args ([]:List Int)).bind fun s1=>
 if a2.Kind=1 then (
 some a2.Type_
 ) else (
 (
 if a2.Kind=2 then (
 some a1.Literal
 ) else (
 some false
 )
 ).bind fun s2=>
 if s2=true then (
 some 1
 ) else (
 if a2.Kind=3 then (
 (q8h a0 a1 (⟨a2.Pos,a2.Name⟩:Occurrence)).bind fun (y2,y3)=>
 some y2.Type_
 ) else (
 (
 if a2.Kind=4 then (
 some (decide ((s1.length:Int)=2))
 ) else (
 some false
 )
 ).bind fun s3=>
 if s3=true then (
 (q9S a2.N).bind fun (y4,y5,y6)=>
 (s1[0]?).bind fun x1=>
 (
 if x1=y4 then (
 (s1[1]?).bind fun x2=>
 some (decide (x2=y5))
 ) else (
 some false
 )
 ).bind fun s4=>
 if s4=true then (
 some y6
 ) else (
 some 0
 )
 ) else (
 (
 if a2.Kind=5 then (
 some (decide ((s1.length:Int)=3))
 ) else (
 some false
 )
 ).bind fun s5=>
 if s5=true then (
 (s1[0]?).bind fun x3=>
 if x3=3 then (
 (s1[1]?).bind fun x4=>
 (s1[2]?).bind fun x5=>
 if x4=x5 then (
 some x4
 ) else (
 some 0
 )
 ) else (
 some 0
 )
 ) else (
 (
 if a2.Kind=6 then (
 (q3Z a2.Pos 0 (a1.Right.length:Int)).bind fun y7=>
 some y7
 ) else (
 some false
 )
 ).bind fun s6=>
 (
 if s6=true then (
 some s6
 ) else (
 some (decide (a2.Kind=7))
 )
 ).bind fun s7=>
 if s7=true then (
 some 4
 ) else (
 (
 if a2.Kind=8 then (
 some (decide ((s1.length:Int)=1))
 ) else (
 some false
 )
 ).bind fun s8=>
 (
 if s8=true then (
 (s1[0]?).bind fun x6=>
 some (decide (x6=4))
 ) else (
 some false
 )
 ).bind fun s9=>
 if s9=true then (
 (q5O a0 a2.Symbol).bind fun (y8,y9)=>
 (q6Z y8 a2.Name).bind fun (y10,y11)=>
 some y10.Type_
 ) else (
 some 0
 )
 )
 )
 )
 )
 )
 )
theorem j4z {rec_iTypeOfExpr:Grammar→Rule→Expr→Option Int}(ih_iTypeOfExpr:∀ {m:Md} {a0:Grammar} {a1:Rule} {a2:Expr} {r:Int},rec_iTypeOfExpr a0 a1 a2=some r→Ok Tryz.prog 228 [Grammar.y m a0,Rule.x m a1,Expr.x m a2] [] (dI r) []){m:Md}{a0:Grammar}{a1:Rule}{a2:Expr}{r:Int}(hr:z1R rec_iTypeOfExpr a0 a1 a2=some r):Ok Tryz.prog 228 [Grammar.y m a0,Rule.x m a1,Expr.x m a2] [] (dI r) []:=by
 refine OE Tryz.func228 fun S hS=>?_
 unfold z1R at hr
 refine J g<|J (BX' 0)<|J (BX' 1)<|J (BX' 2)<|J g<|J (L0' 3 (A.D.i .i64))<|J (gn 11)<|J (lenA 6 2)<|fun hl1=>bdE hr fun s1 hqq1 hr=>q0c hqq1 hl1 4 (fun k1 s1=>[(3,.pb 0 0),(4,.pb 1 0),(5,.pb 2 0),(7,.ref 3 none),(21,.d m (.sl 7 (a2.Args.map Expr.D))),(22,dI (a2.Args.length:Int)),(23,dI (k1:Int))]) (fun k1 s1=>[(3,.row .fz 1 (s1.map (A.D.i .i64)))]) I (fun k1 xk1 sk1 ok1 hxk1 hr hltk1=>?_) fun k1 hltk1=>?_
 obtain⟨s1,rfl⟩:∃ y,y=sk1:=⟨_,rfl⟩
 refine J g<|J (NV' 4)<|bdE hr fun y1 hy1 hr=>J g<|J (CB' [] [] (ih_iTypeOfExpr (m:=m) hy1))<|J (LIR' 5 (m:=.fz) (f:=(A.D.i .i64)) (xs:=([y1]:List Int)))<|ggE hr fun g1 hr=>J (z4z (f:=(A.D.i .i64)) 6 (fun _=>rfl) 8 g1)<|e
 refine J (gn 16)<|ifE hr ?_ ?_<;>intro h1 hr
 exact e
 refine bdE hr fun s2 hqq2 hr=>J (gn 6)<|q0a 4 [(3,.pb 0 0),(4,.pb 1 0),(5,.pb 2 0),(7,.ref 3 none),(48,dB s2)] ?_ ?_
 replace hr:=hqq2
 refine ifE hr ?_ ?_<;>intro h2 hr
 exact e
 exact e
 refine J (gn 2)<|ifE hr ?_ ?_<;>intro h3 hr
 exact e
 refine J (gn 8)<|ifE hr ?_ ?_<;>intro h4 hr
 refine bdP hr fun y2 y3 hq3 hr=>J g<|J (CB' [] [] (z4P (m:=m) hq3))<|J g<|J (NV' 4)<|e
 refine bdE hr fun s3 hqq4 hr=>J (gn 6)<|q0a 5 [(3,.pb 0 0),(4,.pb 1 0),(5,.pb 2 0),(7,.ref 3 none),(74,dB s3)] ?_ ?_
 replace hr:=hqq4
 refine ifE hr ?_ ?_<;>intro h5 hr
 exact e
 exact e
 refine J (gn 2)<|ifE hr ?_ ?_<;>intro h6 hr
 refine bdT hr fun y4 y5 y6 hq5 hr=>J g<|J (CB' [] [] (j2T hq5))<|bdE hr fun x1 hx1 hr=>bdE hr fun s4 hqq6 hr=>J (gn 15)<|q0a 7 [(14,dI y6),(93,dB s4)] ?_ ?_
 replace hr:=hqq6
 refine ifE hr ?_ ?_<;>intro h7 hr
 refine bdE hr fun x2 hx2 hr=>e
 exact e
 refine J (gn 1)<|ifE hr ?_ ?_<;>intro h8 hr
 exact e
 exact e
 refine bdE hr fun s5 hqq7 hr=>J (gn 6)<|q0a 5 [(3,.pb 0 0),(4,.pb 1 0),(5,.pb 2 0),(7,.ref 3 none),(103,dB s5)] ?_ ?_
 replace hr:=hqq7
 refine ifE hr ?_ ?_<;>intro h9 hr
 exact e
 exact e
 refine J (gn 2)<|ifE hr ?_ ?_<;>intro h10 hr
 refine bdE hr fun x3 hx3 hr=>J (gn 7)<|ifE hr ?_ ?_<;>intro h11 hr
 refine bdE hr fun x4 hx4 hr=>bdE hr fun x5 hx5 hr=>J (gn 10)<|ifE hr ?_ ?_<;>intro h12 hr
 exact e
 exact e
 exact e
 refine bdE hr fun s6 hqq8 hr=>J (gn 7)<|q0a 8 [(3,.pb 0 0),(5,.pb 2 0),(7,.ref 3 none),(131,dB s6)] ?_ ?_
 replace hr:=hqq8
 refine ifE hr ?_ ?_<;>intro h13 hr
 refine bdE hr fun y7 hy7 hr=>J g<|J (CB' [] [] (q4A hy7))<|e
 exact e
 refine bdE hr fun s7 hqq9 hr=>J (gn 2)<|q0d 4 [(3,.pb 0 0),(5,.pb 2 0),(7,.ref 3 none),(120,dB s7)] [] ?_ ?_
 replace hr:=hqq9
 refine ifE hr ?_ ?_<;>intro h14 hr
 exact e
 exact e
 refine ifE hr ?_ ?_<;>intro h15 hr
 exact e
 refine bdE hr fun s8 hqq10 hr=>J (gn 6)<|q0a 5 [(3,.pb 0 0),(5,.pb 2 0),(7,.ref 3 none),(143,dB s8)] ?_ ?_
 replace hr:=hqq10
 refine ifE hr ?_ ?_<;>intro h16 hr
 exact e
 exact e
 refine bdE hr fun s9 hqq11 hr=>q0a 6 [(3,.pb 0 0),(5,.pb 2 0),(149,dB s9)] ?_ ?_
 replace hr:=hqq11
 refine ifE hr ?_ ?_<;>intro h17 hr
 refine bdE hr fun x6 hx6 hr=>e
 exact e
 refine J (gn 2)<|ifE hr ?_ ?_<;>intro h18 hr
 refine bdP hr fun y8 y9 hq12 hr=>J g<|J (CB' [] [] (q9k (m:=m) hq12))<|J g<|J (NV' 4)<|bdP hr fun y10 y11 hq13 hr=>J g<|J (CB' [] [] (z2D (m:=m) hq13))<|J g<|J (NV' 5)<|e
 exact e
def q8S:Nat→Grammar→Rule→Expr→Option Int
  | 0,_,_,_=>none
  | n+1,a0,a1,a2=>z1R (q8S n) a0 a1 a2
def z1S (a0:Grammar)(a1:Rule)(a2:Expr):Option Int:=recO fun n=>q8S n a0 a1 a2
theorem j4A (n:Nat):∀ {m:Md} {a0:Grammar} {a1:Rule} {a2:Expr} {r:Int},q8S n a0 a1 a2=some r→Ok Tryz.prog 228 [Grammar.y m a0,Rule.x m a1,Expr.x m a2] [] (dI r) []:=by
  induction n with
  | zero=>intro _ _ _ _ r hr; exact nomatch (show (none:Option Int)=some r from hr)
  | succ n ih=>intro _ _ _ _ r hr; exact j4z ih hr
theorem z5V {m:Md}{a0:Grammar}{a1:Rule}{a2:Expr}{r:Int}(hr:z1S a0 a1 a2=some r):Ok Tryz.prog 228 [Grammar.y m a0,Rule.x m a1,Expr.x m a2] [] (dI r) []:=by
 obtain⟨n,hn⟩:=q5V hr
 exact j4A n hn
def j2n (a0:Grammar)(a1:Rule):Nat→Equation→Unit→Option (Unit ⊕ Bool):=fun k1 xk1 _=>
 (q8h a0 a1 xk1.At).bind fun (y1,y2)=>
 (z1S a0 a1 xk1.Expr).bind fun y3=>
 if y3=y1.Type_ then (
 some (.inl ())
 ) else (
 some (.inr true)
 )
def j2o (a0:Grammar)(a1:Rule):Nat→Contribution→Unit→Option (Unit ⊕ Bool):=fun k2 xk2 _=>
 (q5O a0 xk2.Symbol).bind fun (y4,y5)=>
 (q6Z y4 xk2.Name).bind fun (y6,y7)=>
 (z1S a0 a1 xk2.Target).bind fun y8=>
 (
 if y8=4 then (
 (z1S a0 a1 xk2.Value).bind fun y9=>
 some (!(decide (y9=2)))
 ) else (
 some true
 )
 ).bind fun s1=>
 (
 if s1=true then (
 some true
 ) else (
 some (!(decide (y6.Mode=3)))
 )
 ).bind fun s2=>
 if s2=true then (
 some (.inr true)
 ) else (
 some (.inl ())
 )
def z4Q (a0:Grammar)(a1:Rule):Option Bool:=
 (findL (j2n a0 a1) 0 a1.Equations ()).bind <| onr (fun r1=>some r1) fun _=>
 (findL (j2o a0 a1) 0 a1.Contributions ()).bind <| onr (fun r2=>some r2) fun _=>
 some false
theorem j8K {m:Md}{a0:Grammar}{a1:Rule}{r:Bool}(hr:z4Q a0 a1=some r):Ok Tryz.prog 168 [Grammar.y m a0,Rule.x m a1] [] (dB r) []:=by
 refine OE Tryz.func168 fun S hS=>?_
 unfold z4Q at hr
 refine J g<|J (BX' 0)<|J (BX' 1)<|J (gn 11)<|J (lenA 4 1)<|fun hl1=>bdE hr fun q1 hqq1 hr=>q0b hqq1 hl1 2 (fun k1 _=>[(2,.pb 0 0),(3,.pb 1 0),(16,.d m (.sl 9 (a1.Equations.map Equation.D))),(17,dI (a1.Equations.length:Int)),(18,dI (k1:Int))]) (fun k1 _=>[]) I (fun k1 xk1 sk1 ok1 hxk1 hr hltk1 hik1=>?_) fun k1 sk1 ek1 hltk1=>?_
 refine J g<|J (NV' 2)<|bdP hr fun y1 y2 hq2 hr=>J g<|J (CB' [] [] (z4P (m:=m) hq2))<|J g<|J (NV' 3)<|bdE hr fun y3 hy3 hr=>J g<|J (CB' [] [] (z5V (m:=m) hy3))<|J (gn 4)<|ifE hr ?_ ?_<;>intro h1 hr
 exact e
 exact e
 subst ek1
 refine J (gn 16)<|J (lenT 40)<|fun hl2=>bdE hr fun q3 hqq3 hr=>q0b hqq3 hl2 2 (fun k2 _=>[(2,.pb 0 0),(3,.pb 1 0),(40,.d m (.sl 16 (a1.Contributions.map Contribution.D))),(41,dI (a1.Contributions.length:Int)),(42,dI (k2:Int))]) (fun k2 _=>[]) I (fun k2 xk2 sk2 ok2 hxk2 hr hltk2 hik2=>?_) fun k2 sk2 ek2 hltk2=>?_
 refine J g<|J (NV' 2)<|bdP hr fun y4 y5 hq4 hr=>J g<|J (CB' [] [] (q9k (m:=m) hq4))<|J g<|J (NV' 3)<|bdP hr fun y6 y7 hq5 hr=>J g<|J (CB' [] [] (z2D (m:=m) hq5))<|J g<|J (NV' 4)<|bdE hr fun y8 hy8 hr=>J g<|J (CB' [] [] (z5V (m:=m) hy8))<|bdE hr fun s1 hqq6 hr=>J (gn 1)<|q0a 8 [(2,.pb 0 0),(3,.pb 1 0),(13,.pb 4 0),(40,.d m (.sl 16 (a1.Contributions.map Contribution.D))),(41,dI (a1.Contributions.length:Int)),(42,dI (k2:Int)),(73,dB s1)] ?_ ?_
 replace hr:=hqq6
 refine ifE hr ?_ ?_<;>intro h2 hr
 refine bdE hr fun y9 hy9 hr=>J g<|J (CB' [] [] (z5V (m:=m) hy9))<|e
 exact e
 refine bdE hr fun s2 hqq7 hr=>q0a 5 [(2,.pb 0 0),(3,.pb 1 0),(40,.d m (.sl 16 (a1.Contributions.map Contribution.D))),(41,dI (a1.Contributions.length:Int)),(42,dI (k2:Int)),(78,dB s2)] ?_ ?_
 replace hr:=hqq7
 refine ifE hr ?_ ?_<;>intro h3 hr
 exact e
 exact e
 refine J (gn 1)<|ifE hr ?_ ?_<;>intro h4 hr
 exact e
 exact e
 subst ek2
 exact e
def j0R (a0:ByteArray)(a2:(List Int)):Nat→Symbol→Unit→Option (Unit ⊕ Int):=fun k1 xk1 _=>
 if xk1.Name=a0 then (
 (a2[k1]?).bind fun x1=>
 some (.inr x1)
 ) else (
 some (.inl ())
 )
def z3u (a0:ByteArray)(a1:Grammar)(a2:(List Int)):Option Int:=
 (findL (j0R a0 a2) 0 a1.Symbols ()).bind <| onr (fun r1=>some r1) fun _=>
 some 0
theorem j7h {m2:Md}{a0:ByteArray}{a1:Grammar}{a2:(List Int)}{r:Int}(hr:z3u a0 a1 a2=some r):Ok Tryz.prog 230 [dS a0,.pb 0 0,.pb 1 0] [.box [.d m2 (.sl 2 (a1.Symbols.map Symbol.D)),.d m2 (.sl 6 (a1.Rules.map Rule.D))],.box [.ref 2 none],.row .fz 1 (a2.map (A.D.i .i64))] (dI r) [.box [.d m2 (.sl 2 (a1.Symbols.map Symbol.D)),.d m2 (.sl 6 (a1.Rules.map Rule.D))],.box [.ref 2 none],.row .fz 1 (a2.map (A.D.i .i64))]:=by
 refine OE Tryz.func230 fun S hS=>?_
 unfold z3u at hr
 refine J (gn 13)<|J (lenT 8)<|fun hl1=>bdE hr fun q1 hqq1 hr=>q0b hqq1 hl1 3 (fun k1 _=>[(0,dS a0),(2,.pb 1 0),(8,.d m2 (.sl 2 (a1.Symbols.map Symbol.D))),(9,dI (a1.Symbols.length:Int)),(10,dI (k1:Int))]) (fun k1 _=>[]) I (fun k1 xk1 sk1 ok1 hxk1 hr hltk1 hik1=>?_) fun k1 sk1 ek1 hltk1=>?_
 refine J g<|J (NV' 3)<|J (gn 10)<|ifE hr ?_ ?_<;>intro h1 hr
 refine bdE hr fun x1 hx1 hr=>e
 exact e
 subst ek1
 exact e
def z9Y (a0:Grammar)(s2:List Int):Nat→ByteArray→Bool→Option Bool:=fun k4 xk4 s8=>
 (
 if s8=true then (
 (z3u xk4 a0 s2).bind fun y1=>
 some (decide (0 < y1))
 ) else (
 some false
 )
 ).bind fun s9=>
 some s9
def z7l (a0:Grammar)(s3:Int)(s2:List Int)(k2:Nat)(xk2:Symbol):Nat→Rule→((List Int))→Option ((List Int)):=fun k3 xk3 s6=>
 (
 (eachL (z9Y a0 s2) 0 xk3.Right (decide (xk3.Left=xk2.Name))).bind fun s8=>
 if s8=true then (
 (s6[k2]?).bind fun x2=>
 some (List.set s6 k2 s3)
 ) else (
 some s6
 )
 ).bind fun s7=>
 some s7
def z7m (a0:Grammar)(s3:Int)(s2:List Int):Nat→Symbol→((List Int))→Option ((List Int)):=fun k2 xk2 s4=>
 (
 (s2[k2]?).bind fun x1=>
 if 0 < x1 then (
 some s4
 ) else (
 (eachL (z7l a0 s3 s2 k2 xk2) 0 a0.Rules s4).bind fun s6=>
 some s6
 )
 ).bind fun s5=>
 some s5
def z2E (a0:Grammar):(Int × (List Int))→Option ((Int × (List Int)) ⊕ ((List Int))):=fun (s3,s2)=>
 if s3≤(a0.Symbols.length:Int) then (
 grd (0≤(s2.length:Int)∧(s2.length:Int)*8≤281474976710656∧(s2.length:Int)≤9223372036854775807) <|
 grd (s2.length=(List.replicate s2.length (0:Int)).length) <|
 (eachL (z7m a0 s3 s2) 0 a0.Symbols s2).bind fun s4=>
 grd (I64 (s3+1)) <|
 some (.inl ((s3+1),s4))
 ) else (
 some (.inr s2)
 )
def z4r (a0:Grammar):Option (List Int):=
 grd (0≤(a0.Symbols.length:Int)∧(a0.Symbols.length:Int)*8≤281474976710656∧(a0.Symbols.length:Int)≤9223372036854775807) <|
 (q4i (z2E a0) (1,(List.replicate a0.Symbols.length (0:Int)))).bind fun s1=>
 some s1
theorem k0n {m:Md}{a0:Grammar}{r:(List Int)}(hr:z4r a0=some r):Ok Tryz.prog 169 [Grammar.x m a0] [] (.ref 0 none) [.row .fz 1 (r.map (A.D.i .i64))]:=by
 refine OE Tryz.func169 fun S hS=>?_
 unfold z4r at hr
 refine J g<|J (BX' 0)<|ggE hr fun g1 hr=>J g<|J (MKR' 1 (f:=(A.D.i .i64)) (0:Int) g1.1 g1.2.1 g1.2.2)<|J (NV' 2)<|bdE hr fun s1 hqq1 hr=>J (gn 12)<|q0d 3 [(3,.pb 2 0)] [(1,.row .fz 1 (s1.map (A.D.i .i64)))] ?_ ?_
 refine J g<|q0h hqq1 3 (fun (s3,s2)=>[(1,.pb 0 0),(3,.pb 2 0),(4,.fn 230 [.pb 0 0,.pb 2 0]),(5,dI s3)]) (fun (s3,s2)=>[(1,.row .fz 1 (s2.map (A.D.i .i64)))]) I fun sk1 ok1 hr hik1=>?_
 obtain⟨s3,s2⟩:=sk1
 have hr:=hr
 refine J (gn 9)<|ifE hr ?_ ?_<;>intro h1 hr
 refine ggE hr fun g2 hr=>J g<|J (MKR' 3 (f:=(A.D.i .i64)) (0:Int) g2.1 g2.2.1 g2.2.2)<|ggE hr fun g3 hr=>J g<|J (x0w g3)<|J (gn 10)<|J (lenT 21)<|fun hl2=>bdE hr fun s4 hqq2 hr=>q0c hqq2 hl2 4 (fun k2 s4=>[(1,.pb 0 0),(3,.pb 2 0),(4,.fn 230 [.pb 0 0,.pb 2 0]),(5,dI s3),(6,.ref 3 none),(33,.d m (.sl 2 (a0.Symbols.map Symbol.D))),(34,dI (a0.Symbols.length:Int)),(35,dI (k2:Int))]) (fun k2 s4=>[(3,.row .fz 1 (s4.map (A.D.i .i64)))]) I (fun k2 xk2 sk2 ok2 hxk2 hr hltk2=>?_) fun k2 hltk2=>?_
 obtain⟨s4,rfl⟩:∃ y,y=sk2:=⟨_,rfl⟩
 refine bdE hr fun s5 hqq3 hr=>J (gn 8)<|q0d 4 [(1,.pb 0 0),(3,.pb 2 0),(4,.fn 230 [.pb 0 0,.pb 2 0]),(5,dI s3),(6,.ref 3 none),(33,.d m (.sl 2 (a0.Symbols.map Symbol.D))),(34,dI (a0.Symbols.length:Int)),(35,dI (k2:Int))] [(3,.row .fz 1 (s5.map (A.D.i .i64)))] ?_ ?_
 replace hr:=hqq3
 refine J g<|J (NV' 4)<|bdE hr fun x1 hx1 hr=>J (gn 12)<|ifE hr ?_ ?_<;>intro h2 hr
 exact e
 refine J (gn 10)<|J (lenT 46)<|fun hl3=>bdE hr fun s6 hqq4 hr=>q0c hqq4 hl3 5 (fun k3 s6=>[(1,.pb 0 0),(3,.pb 2 0),(4,.fn 230 [.pb 0 0,.pb 2 0]),(5,dI s3),(6,.ref 3 none),(7,dI (k2:Int)),(8,.pb 4 0),(33,.d m (.sl 2 (a0.Symbols.map Symbol.D))),(34,dI (a0.Symbols.length:Int)),(35,dI (k2:Int)),(46,.d m (.sl 6 (a0.Rules.map Rule.D))),(47,dI (a0.Rules.length:Int)),(48,dI (k3:Int))]) (fun k3 s6=>[(3,.row .fz 1 (s6.map (A.D.i .i64)))]) I (fun k3 xk3 sk3 ok3 hxk3 hr hltk3=>?_) fun k3 hltk3=>?_
 obtain⟨s6,rfl⟩:∃ y,y=sk3:=⟨_,rfl⟩
 refine bdE hr fun s7 hqq5 hr=>J (gn 8)<|q0d 5 [(1,.pb 0 0),(3,.pb 2 0),(4,.fn 230 [.pb 0 0,.pb 2 0]),(5,dI s3),(6,.ref 3 none),(7,dI (k2:Int)),(8,.pb 4 0),(33,.d m (.sl 2 (a0.Symbols.map Symbol.D))),(34,dI (a0.Symbols.length:Int)),(35,dI (k2:Int)),(46,.d m (.sl 6 (a0.Rules.map Rule.D))),(47,dI (a0.Rules.length:Int)),(48,dI (k3:Int))] [(3,.row .fz 1 (s7.map (A.D.i .i64)))] ?_ ?_
 replace hr:=hqq5
 refine J g<|J (NV' 5)<|J (gn 20)<|J (lenA 2 51)<|fun hl4=>bdE hr fun s8 hqq6 hr=>q0c hqq6 hl4 6 (fun k4 s8=>[(1,.pb 0 0),(3,.pb 2 0),(4,.fn 230 [.pb 0 0,.pb 2 0]),(5,dI s3),(6,.ref 3 none),(7,dI (k2:Int)),(8,.pb 4 0),(11,dB s8),(33,.d m (.sl 2 (a0.Symbols.map Symbol.D))),(34,dI (a0.Symbols.length:Int)),(35,dI (k2:Int)),(46,.d m (.sl 6 (a0.Rules.map Rule.D))),(47,dI (a0.Rules.length:Int)),(48,dI (k3:Int)),(58,.d m (.sl 1 (xk3.Right.map A.D.s))),(59,dI (xk3.Right.length:Int)),(60,dI (k4:Int))]) (fun k4 s8=>[]) I (fun k4 xk4 sk4 ok4 hxk4 hr hltk4=>?_) fun k4 hltk4=>?_
 obtain⟨s8,rfl⟩:∃ y,y=sk4:=⟨_,rfl⟩
 refine bdE hr fun s9 hqq7 hr=>J (gn 8)<|q0d 6 [(1,.pb 0 0),(3,.pb 2 0),(4,.fn 230 [.pb 0 0,.pb 2 0]),(5,dI s3),(6,.ref 3 none),(7,dI (k2:Int)),(8,.pb 4 0),(11,dB s9),(33,.d m (.sl 2 (a0.Symbols.map Symbol.D))),(34,dI (a0.Symbols.length:Int)),(35,dI (k2:Int)),(46,.d m (.sl 6 (a0.Rules.map Rule.D))),(47,dI (a0.Rules.length:Int)),(48,dI (k3:Int)),(58,.d m (.sl 1 (xk3.Right.map A.D.s))),(59,dI (xk3.Right.length:Int)),(60,dI (k4:Int))] [] ?_ ?_
 replace hr:=hqq7
 refine J (gn 9)<|ifE hr ?_ ?_<;>intro h3 hr
 refine bdE hr fun y1 hy1 hr=>J g<|J (CB' [(0,0),(1,2),(2,1)] [] (j7h (m2:=m) hy1))<|e
 exact e
 exact e
 refine J (gn 11)<|ifE hr ?_ ?_<;>intro h4 hr
 refine bdE hr fun x2 hx2 hr=>J g<|J (SE' s3 hx2)<|e
 exact e
 exact e
 exact e
 exact e
 refine ggE hr fun g4 hr=>e
 refine J (gn 2) ?_
 cases hr
 cases hik1 _ rfl
 exact q0e hS 3
 exact e
def z7N (a0:Grammar):Nat→Rule→Unit→Option (Unit ⊕ (Int × Int)):=fun k1 xk1 _=>
 (z4Q a0 xk1).bind fun y3=>
 if y3=true then (
 some (.inr (7,(k1:Int)))
 ) else (
 some (.inl ())
 )
def z7O:Nat→Int→Unit→Option (Unit ⊕ (Int × Int)):=fun k2 xk2 _=>
 if xk2=0 then (
 some (.inr (8,(k2:Int)))
 ) else (
 some (.inl ())
 )
def q9T (a0:Grammar):Option (Int × Int):=
 (z1Q a0).bind fun (y1,y2)=>
 if y1=0 then (
 (findL (z7N a0) 0 a0.Rules ()).bind <| onr (fun r1=>some r1) fun _=>
 (z4r a0).bind fun y4=>
 (findL z7O 0 y4 ()).bind <| onr (fun r2=>some r2) fun _=>
 some (0,0)
 ) else (
 some (y1,y2)
 )
theorem j2U {m:Md}{a0:Grammar}{r:(Int × Int)}(hr:q9T a0=some r):Ok Tryz.prog 110 [Grammar.x m a0] [] (.tu [dI r.1,dI r.2]) []:=by
 refine OE Tryz.func110 fun S hS=>?_
 unfold q9T at hr
 refine J g<|J (BX' 0)<|bdP hr fun y1 y2 hq1 hr=>J g<|J (CB' [] [] (j5A (m:=m) hq1))<|J (gn 11)<|ifE hr ?_ ?_<;>intro h1 hr
 refine J (gn 11)<|J (lenA 1 0)<|fun hl1=>bdE hr fun q2 hqq2 hr=>q0b hqq2 hl1 1 (fun k1 _=>[(1,.pb 0 0),(20,.d m (.sl 6 (a0.Rules.map Rule.D))),(21,dI (a0.Rules.length:Int)),(22,dI (k1:Int))]) (fun k1 _=>[]) I (fun k1 xk1 sk1 ok1 hxk1 hr hltk1 hik1=>?_) fun k1 sk1 ek1 hltk1=>?_
 refine J g<|J (NV' 1)<|bdE hr fun y3 hy3 hr=>J g<|J (CB' [] [] (j8K (m:=m) hy3))<|J (gn 1)<|ifE hr ?_ ?_<;>intro h2 hr
 exact e
 exact e
 subst ek1
 refine bdE hr fun y4 hy4 hr=>J g<|J (CB' [(0,1)] [] (k0n (m:=m) hy4))<|J (gn 4)<|J (lenR 1)<|fun hl2=>bdE hr fun q3 hqq3 hr=>q0b hqq3 hl2 2 (fun k2 _=>[(33,.ref 1 none),(34,dI (y4.length:Int)),(35,dI (k2:Int))]) (fun k2 _=>[]) I (fun k2 xk2 sk2 ok2 hxk2 hr hltk2 hik2=>?_) fun k2 sk2 ek2 hltk2=>?_
 refine J (gn 22)<|ifE hr ?_ ?_<;>intro h3 hr
 exact e
 exact e
 subst ek2
 exact e
 exact e
def z2F (a0:Grammar):Option Bool:=
 (q9T a0).bind fun (y1,y2)=>
 some (decide (y1=0))
theorem j2p {m:Md}{a0:Grammar}{r:Bool}(hr:z2F a0=some r):Ok Tryz.prog 55 [Grammar.x m a0] [] (dB r) []:=by
 refine OE Tryz.func55 fun S hS=>?_
 unfold z2F at hr
 refine J g<|J (BX' 0)<|bdP hr fun y1 y2 hq1 hr=>J g<|J (CB' [] [] (j2U (m:=m) hq1))<|e
def z4R:Nat→Attribute→((List Attribute))→Option ((List Attribute)):=fun k1 xk1 s1=>
 (
 if xk1.Mode=1 then (
 grd (((s1.length:Int)+1)*40≤140737488355328∧(s1.length:Int)+1≤9223372036854775807) <|
 some (s1++[xk1])
 ) else (
 if xk1.Mode=2 then (
 grd (((s1.length:Int)+1)*40≤140737488355328∧(s1.length:Int)+1≤9223372036854775807) <|
 some (s1++[xk1])
 ) else (
 some s1
 )
 )
 ).bind fun s2=>
 some s2
def q4g (a0:Grammar)(a1:ByteArray):Option (List Attribute):=
 (q5O a0 a1).bind fun (y1,y2)=>
 (eachL z4R 0 y1.Attributes ([]:List Attribute)).bind fun s1=>
 some s1
theorem q7J {m:Md}{a0:Grammar}{a1:ByteArray}{r:(List Attribute)}(hr:q4g a0 a1=some r):Ok Tryz.prog 78 [Grammar.y m a0,dS a1] [] (.ref 0 none) [.row .fz 4 (r.map Attribute.D)]:=by
 refine OE Tryz.func78 fun S hS=>?_
 unfold q4g at hr
 refine J g<|J (BX' 0)<|J g<|J (L0' 1 Attribute.D)<|bdP hr fun y1 y2 hq1 hr=>J g<|J (CB' [] [] (q9k (m:=m) hq1))<|J g<|J (NV' 2)<|J (gn 12) ?_
 refine AW.len (.ag 1 (.tu 0 (.tmp 11 rfl) rfl) rfl) fun hl1=>?_
 refine bdE hr fun s1 hqq2 hr=>q0c hqq2 hl1 3 (fun k1 s1=>[(5,.ref 1 none),(18,.d m (.sl 4 (y1.Attributes.map Attribute.D))),(19,dI (y1.Attributes.length:Int)),(20,dI (k1:Int))]) (fun k1 s1=>[(1,.row .fz 4 (s1.map Attribute.D))]) I (fun k1 xk1 sk1 ok1 hxk1 hr hltk1=>?_) fun k1 hltk1=>?_
 obtain⟨s1,rfl⟩:∃ y,y=sk1:=⟨_,rfl⟩
 refine bdE hr fun s2 hqq3 hr=>J (gn 8)<|q0d 3 [(5,.ref 1 none),(18,.d m (.sl 4 (y1.Attributes.map Attribute.D))),(19,dI (y1.Attributes.length:Int)),(20,dI (k1:Int))] [(1,.row .fz 4 (s2.map Attribute.D))] ?_ ?_
 replace hr:=hqq3
 refine J g<|J (NV' 3)<|J (gn 7)<|ifE hr ?_ ?_<;>intro h1 hr
 refine J g<|J (LIR' 4 (m:=.fz) (f:=Attribute.D) (xs:=[xk1]))<|ggE hr fun g1 hr=>J (z4z (f:=Attribute.D) 5 (fun _=>rfl) 40 g1)<|e
 refine J (gn 6)<|ifE hr ?_ ?_<;>intro h2 hr
 refine J g<|J (LIR' 4 (m:=.fz) (f:=Attribute.D) (xs:=[xk1]))<|ggE hr fun g2 hr=>J (z4z (f:=Attribute.D) 5 (fun _=>rfl) 40 g2)<|e
 exact e
 exact e
 exact e
def q6n (a0:Int):Option Relation:=
 (q3Z a0 0 16).bind fun y1=>
 if y1=true then (
 grd (0≤a0∧a0*8≤281474976710656∧a0≤9223372036854775807) <|
 some (⟨a0,(List.replicate a0.toNat (0:Int))⟩:Relation)
 ) else (
 some (⟨0,[]⟩:Relation)
 )
theorem z0d {a0:Int}{r:Relation}(hr:q6n a0=some r):Ok Tryz.prog 111 [dI a0] [] (.ag [dI r.N,.ref 0 none]) [.row .fz 1 (r.Rows.map (A.D.i .i64))]:=by
 refine OE Tryz.func111 fun S hS=>?_
 unfold q6n at hr
 refine J g<|J (NV' 0)<|bdE hr fun y1 hy1 hr=>J g<|J (CB' [] [] (q4A hy1))<|J (gn 2)<|ifE hr ?_ ?_<;>intro h1 hr
 refine ggE hr fun g1 hr=>J g<|J (MKR' 1 (f:=(A.D.i .i64)) (0:Int) g1.1 g1.2.1 g1.2.2)<|e
 refine J (gn 7) ?_
 refine J (q0g (q0m (q:=0) (c:=1) (r:=1) .fz 1 rfl rfl rfl))<|J g<|E
def z5E (a0:Grammar):Nat→Symbol→((List Relation))→Option ((List Relation)):=fun k1 xk1 s1=>
 (q4g a0 xk1.Name).bind fun y1=>
 (q6n (y1.length:Int)).bind fun y2=>
 grd (((s1.length:Int)+1)*32≤140737488355328∧(s1.length:Int)+1≤9223372036854775807) <|
 some (s1++[y2])
def q7y (a0:Grammar):Option (List Relation):=
 (eachL (z5E a0) 0 a0.Symbols ([]:List Relation)).bind fun s1=>
 some s1
theorem z5F {m:Md}{a0:Grammar}{r:(List Relation)}(hr:q7y a0=some r):Ok Tryz.prog 56 [Grammar.y m a0] [] (.ref 0 none) [.deep .fz 2 (r.map Relation.W) []]:=by
 refine OE Tryz.func56 fun S hS=>?_
 unfold q7y at hr
 refine J g<|J (BX' 0)<|J g<|J (L0' 1 Relation.D)<|q3x 1 Relation.W ?_
 refine J (gn 11)<|J (lenA 0 0)<|fun hl1=>bdE hr fun s1 hqq1 hr=>q0c hqq1 hl1 2 (fun k1 s1=>[(1,.pb 0 0),(3,.ref 1 none),(8,.d m (.sl 2 (a0.Symbols.map Symbol.D))),(9,dI (a0.Symbols.length:Int)),(10,dI (k1:Int))]) (fun k1 s1=>[(1,.deep .fz 2 (s1.map Relation.W) [])]) I (fun k1 xk1 sk1 ok1 hxk1 hr hltk1=>?_) fun k1 hltk1=>?_
 obtain⟨s1,rfl⟩:∃ y,y=sk1:=⟨_,rfl⟩
 refine J g<|J (NV' 2)<|bdE hr fun y1 hy1 hr=>J g<|J (CB' [(0,3)] [] (q7J (m:=m) hy1))<|bdE hr fun y2 hy2 hr=>J g<|J (CB' [(0,4)] [] (z0d hy2))<|J (LID' (f:=Relation.W) 5 y2 [4])<|ggE hr fun g1 hr=>J (k9V 6 32 g1)<|e
 exact e
def z0L (a0:Symbol)(a1:ByteArray):Option Bool:=
 some (decide (a0.Name=a1))
theorem j1H {m:Md}{a0:Symbol}{a1:ByteArray}{r:Bool}(hr:z0L a0 a1=some r):Ok Tryz.prog 113 [Symbol.x m a0,.pb 0 0] [.box [dS a1]] (dB r) [.box [dS a1]]:=by
 refine OE Tryz.func113 fun S hS=>?_
 unfold z0L at hr
 refine J g<|J (BX' 1)<|e
def q6v (a1_0:ByteArray):Nat→Symbol→Unit→Option (Unit ⊕ Int):=fun k1 xk1 _=>
 (z0L xk1 a1_0).bind fun y1=>
 if y1=true then (
 some (.inr (k1:Int))
 ) else (
 some (.inl ())
 )
def q4G (a0:(List Symbol))(a1_0:ByteArray):Option Int:=
 (findL (q6v a1_0) 0 a0 ()).bind <| onr (fun r1=>some r1) fun _=>
 some (-1)
theorem q9t {m:Md}{a0:(List Symbol)}{a1_0:ByteArray}{r:Int}(hr:q4G a0 a1_0=some r):Ok Tryz.prog 112 [.d m (.sl 2 (a0.map Symbol.D)),.fn 113 [.pb 0 0]] [.box [dS a1_0]] (dI r) [.box [dS a1_0]]:=by
 refine OE Tryz.func112 fun S hS=>?_
 unfold q4G at hr
 refine J (gn 12)<|J (lenT 0)<|fun hl1=>bdE hr fun q1 hqq1 hr=>q0b hqq1 hl1 1 (fun k1 _=>[(0,.d m (.sl 2 (a0.map Symbol.D))),(1,.fn 113 [.pb 0 0]),(7,dI (a0.length:Int)),(8,dI (k1:Int))]) (fun k1 _=>[]) I (fun k1 xk1 sk1 ok1 hxk1 hr hltk1 hik1=>?_) fun k1 sk1 ek1 hltk1=>?_
 refine bdE hr fun y1 hy1 hr=>J g<|J (CB' [(0,0)] [] (j1H (m:=m) hy1))<|J (gn 1)<|ifE hr ?_ ?_<;>intro h1 hr
 exact e
 exact e
 subst ek1
 exact e
def q7q (a0:Grammar)(a1:ByteArray):Option Int:=
 (q4G a0.Symbols a1).bind fun y1=>
 some y1
theorem z1T {m:Md}{a0:Grammar}{a1:ByteArray}{r:Int}(hr:q7q a0 a1=some r):Ok Tryz.prog 57 [Grammar.y m a0,dS a1] [] (dI r) []:=by
 refine OE Tryz.func57 fun S hS=>?_
 unfold q7q at hr
 refine J g<|J (BX' 0)<|J (BX' 1)<|bdE hr fun y1 hy1 hr=>J g<|J (CB' [(0,1)] [] (q9t (m:=m) hy1))<|e
def q5Z (k1:Nat):Nat→Attribute→((List Occurrence))→Option ((List Occurrence)):=fun k2 xk2 s2=>
 grd (((s2.length:Int)+1)*24≤140737488355328∧(s2.length:Int)+1≤9223372036854775807) <|
 some (s2++[(⟨(k1:Int),xk2.Name⟩:Occurrence)])
def q4s (a0:Grammar)(a1:Rule):Nat→((List Occurrence))→Option ((List Occurrence)):=fun k1 s1=>
 (q6A a1 (k1:Int)).bind fun y1=>
 (q4g a0 y1).bind fun y2=>
 (eachL (q5Z k1) 0 y2 s1).bind fun s2=>
 some s2
def q5f (a0:Grammar)(a1:Rule):Option (List Occurrence):=
 grd (I64 ((a1.Right.length+1:Nat):Int)) <|
 (eachN (q4s a0 a1) 0 (a1.Right.length+1) ([]:List Occurrence)).bind fun s1=>
 some s1
theorem z2G {m:Md}{a0:Grammar}{a1:Rule}{r:(List Occurrence)}(hr:q5f a0 a1=some r):Ok Tryz.prog 124 [Grammar.y m a0,Rule.x m a1] [] (.ref 0 none) [.row .fz 2 (r.map Occurrence.D)]:=by
 refine OE Tryz.func124 fun S hS=>?_
 unfold q5f at hr
 refine J g<|J (BX' 0)<|J (BX' 1)<|J g<|J (L0' 2 Occurrence.D)<|ggE hr fun g1 hr=>J (gn 12)<|J (rngT 13)<|fun hl1=>bdE hr fun s1 hqq1 hr=>q0k hqq1 3 (fun k1 s1=>[(2,.pb 0 0),(3,.pb 1 0),(5,.ref 2 none),(13,dI ((a1.Right.length+1:Nat):Int)),(14,dI (k1:Int))]) (fun k1 s1=>[(2,.row .fz 2 (s1.map Occurrence.D))]) I (fun k1 sk1 ok1 hr hltk1=>?_) ?_
 obtain⟨s1,rfl⟩:∃ y,y=sk1:=⟨_,rfl⟩
 refine bdE hr fun y1 hy1 hr=>J g<|J (CB' [] [] (z1e (m:=m) hy1))<|bdE hr fun y2 hy2 hr=>J (CB' [(0,3)] [] (q7J (m:=m) hy2))<|J (gn 4)<|J (lenR 3)<|fun hl2=>bdE hr fun s2 hqq2 hr=>q0c hqq2 hl2 4 (fun k2 s2=>[(2,.pb 0 0),(3,.pb 1 0),(5,.ref 2 none),(6,dI (k1:Int)),(13,dI ((a1.Right.length+1:Nat):Int)),(14,dI (k1:Int)),(21,.ref 3 none),(22,dI (y2.length:Int)),(23,dI (k2:Int))]) (fun k2 s2=>[(2,.row .fz 2 (s2.map Occurrence.D))]) I (fun k2 xk2 sk2 ok2 hxk2 hr hltk2=>?_) fun k2 hltk2=>?_
 obtain⟨s2,rfl⟩:∃ y,y=sk2:=⟨_,rfl⟩
 refine J g<|J (NV' 4)<|J g<|J (LIR' 5 (m:=.fz) (f:=Occurrence.D) (xs:=[(⟨(k1:Int),xk2.Name⟩:Occurrence)]))<|ggE hr fun g2 hr=>J (z4z (f:=Occurrence.D) 6 (fun _=>rfl) 24 g2)<|e
 exact e
 exact e
def j8L (rec_icopyExpr:Expr→Option Expr):Nat→Expr→((List Expr))→Option ((List Expr)):=fun k1 xk1 s1=>
 (rec_icopyExpr xk1).bind fun y1=>
 grd (((s1.length:Int)+1)*88≤140737488355328∧(s1.length:Int)+1≤9223372036854775807) <|
 some (s1++[y1])
def z7n (rec_icopyExpr:Expr→Option Expr)(a0:Expr):Option Expr:=
 (eachL (j8L rec_icopyExpr) 0 a0.Args ([]:List Expr)).bind fun s1=>
 some (⟨a0.Kind,a0.N,a0.Pos,a0.Type_,a0.Symbol,a0.Name,s1⟩:Expr)
theorem j7i {rec_icopyExpr:Expr→Option Expr}(ih_icopyExpr:∀ {m:Md} {a0:Expr} {r:Expr},rec_icopyExpr a0=some r→Ok Tryz.prog 182 [Expr.x m a0] [] (.ag [dI r.Kind,dI r.N,dI r.Pos,dI r.Type_,dS r.Symbol,dS r.Name,.ref 0 none]) [.row .fz 7 (r.Args.map Expr.D)]){m:Md}{a0:Expr}{r:Expr}(hr:z7n rec_icopyExpr a0=some r):Ok Tryz.prog 182 [Expr.x m a0] [] (.ag [dI r.Kind,dI r.N,dI r.Pos,dI r.Type_,dS r.Symbol,dS r.Name,.ref 0 none]) [.row .fz 7 (r.Args.map Expr.D)]:=by
 refine OE Tryz.func182 fun S hS=>?_
 unfold z7n at hr
 refine J g<|J (BX' 0)<|J (NV' 1)<|J (gn 14) ?_
 refine J (q2W 3 2 .fz 7 rfl)<|J (lenA 6 0)<|fun hl1=>bdE hr fun s1 hqq1 hr=>q0c hqq1 hl1 3 (fun k1 s1=>[(1,.pb 0 0),(2,.pb 1 0),(3,.ref 2 none),(7,.d m (.sl 7 (a0.Args.map Expr.D))),(8,dI (a0.Args.length:Int)),(9,dI (k1:Int))]) (fun k1 s1=>[(2,.row .fz 7 (s1.map Expr.D))]) I (fun k1 xk1 sk1 ok1 hxk1 hr hltk1=>?_) fun k1 hltk1=>?_
 obtain⟨s1,rfl⟩:∃ y,y=sk1:=⟨_,rfl⟩
 refine J g<|J (NV' 3)<|bdE hr fun y1 hy1 hr=>J g<|J (CB' [(0,4)] [] (ih_icopyExpr (m:=m) hy1)) ?_
 refine J (q0p 4 rfl) ?_
 refine J (k9U 5 (m:=.fz) (f:=Expr.D) [y1] (by simp only [List.map_cons,List.map_nil,Expr.D_eq]; rfl))<|ggE hr fun g1 hr=>J (AP1' 6 .fz 88 g1)<|J g<|E
 exact e
def z2H:Nat→Expr→Option Expr
  | 0,_=>none
  | n+1,a0=>z7n (z2H n) a0
def z9Z (a0:Expr):Option Expr:=recO fun n=>z2H n a0
theorem j7j (n:Nat):∀ {m:Md} {a0:Expr} {r:Expr},z2H n a0=some r→Ok Tryz.prog 182 [Expr.x m a0] [] (.ag [dI r.Kind,dI r.N,dI r.Pos,dI r.Type_,dS r.Symbol,dS r.Name,.ref 0 none]) [.row .fz 7 (r.Args.map Expr.D)]:=by
  induction n with
  | zero=>intro _ _ r hr; exact nomatch (show (none:Option Expr)=some r from hr)
  | succ n ih=>intro _ _ r hr; exact j7i ih hr
theorem j8M {m:Md}{a0:Expr}{r:Expr}(hr:z9Z a0=some r):Ok Tryz.prog 182 [Expr.x m a0] [] (.ag [dI r.Kind,dI r.N,dI r.Pos,dI r.Type_,dS r.Symbol,dS r.Name,.ref 0 none]) [.row .fz 7 (r.Args.map Expr.D)]:=by
 obtain⟨n,hn⟩:=q5V hr
 exact j7j n hn
def z3L (a1:Occurrence):Nat→Equation→Unit→Option (Unit ⊕ (Expr × Bool)):=fun k1 xk1 _=>
 if xk1.At=a1 then (
 (z9Z xk1.Expr).bind fun y1=>
 some (.inr (y1,true))
 ) else (
 some (.inl ())
 )
def q8w (a0:Rule)(a1:Occurrence):Option (Expr × Bool):=
 (findL (z3L a1) 0 a0.Equations ()).bind <| onr (fun r1=>some r1) fun _=>
 some ((⟨0,0,0,0,(⟨#[]⟩:ByteArray),(⟨#[]⟩:ByteArray),[]⟩:Expr),false)
theorem j2V {m:Md}{a0:Rule}{a1:Occurrence}{r:(Expr × Bool)}(hr:q8w a0 a1=some r):Ok Tryz.prog 125 [Rule.x m a0,Occurrence.x .fz a1] [] (.tu [.ag [dI r.1.Kind,dI r.1.N,dI r.1.Pos,dI r.1.Type_,dS r.1.Symbol,dS r.1.Name,.ref 0 none],dB r.2]) [.row .fz 7 (r.1.Args.map Expr.D)]:=by
 refine OE Tryz.func125 fun S hS=>?_
 unfold q8w at hr
 refine J g<|J (BX' 0)<|J (BX' 1)<|J (NV' 2)<|J (gn 11)<|J (lenA 4 0)<|fun hl1=>bdE hr fun q1 hqq1 hr=>q0b hqq1 hl1 3 (fun k1 _=>[(3,.pb 1 0),(4,.pb 2 0),(9,.d m (.sl 9 (a0.Equations.map Equation.D))),(10,dI (a0.Equations.length:Int)),(11,dI (k1:Int))]) (fun k1 _=>[]) I (fun k1 xk1 sk1 ok1 hxk1 hr hltk1 hik1=>?_) fun k1 sk1 ek1 hltk1=>?_
 refine J g<|J (NV' 3)<|J g ?_
 refine J (SQ' rfl rfl rfl rfl (q6d xk1.At a1))<|J (gn 1)<|ifE hr ?_ ?_<;>intro h1 hr
 refine bdE hr fun y1 hy1 hr=>J g<|J (CB' [(0,4)] [] (j8M (m:=m) hy1))<|e
 exact e
 subst ek1
 refine J (gn 14) ?_
 refine J (q0g (q0m (q:=2) (c:=6) (r:=3) .fz 7 rfl rfl rfl))<|J g<|E
def q5q (a0:(List Occurrence))(a1:Occurrence):Option Int:=
 (q3P a0 a1).bind fun y1=>
 some y1
theorem j0a {m:Md}{a0:(List Occurrence)}{a1:Occurrence}{r:Int}(hr:q5q a0 a1=some r):Ok Tryz.prog 127 [.d m (.sl 2 (a0.map Occurrence.D)),Occurrence.x .fz a1] [] (dI r) []:=by
 refine OE Tryz.func127 fun S hS=>?_
 unfold q5q at hr
 refine J g<|J (BX' 0)<|bdE hr fun y1 hy1 hr=>J g<|J (CB' [] [] (z0p (m:=m) hy1))<|e
def q9B (a0:(List Int)):Option (List Int):=
 grd (((([]:(List Int)).length:Int)+(a0.length:Int))*8≤140737488355328∧(([]:(List Int)).length:Int)+(a0.length:Int)≤9223372036854775807) <|
 some a0
theorem j0b {m:Md}{a0:(List Int)}{r:(List Int)}(hr:q9B a0=some r):Ok Tryz.prog 170 [.d m (.sl 1 (a0.map (A.D.i .i64)))] [] (.ref 0 none) [.row .fz 1 (r.map (A.D.i .i64))]:=by
 refine OE Tryz.func170 fun S hS=>?_
 unfold q9B at hr
 refine ggE hr fun g1 hr=>J (gn 6) ?_
 refine q2U rfl fun q hq=>?_
 cases q with
 | true=>
 refine J g ?_
 have e0:a0=[]:=List.map_eq_nil_iff.1 (hq rfl)
 subst e0
 refine J (q0g (q0s (t:=2) (r:=0) .fz 1 rfl rfl))<|J g<|E
 | false=>
 refine J g<|J (L0' 0 (A.D.i .i64))<|J g<|J (APf' 1 (fun _=>rfl) g1)<|e
def q7K (a0:Relation):Option Relation:=
 (q9B a0.Rows).bind fun y1=>
 some (⟨a0.N,y1⟩:Relation)
theorem z3M {m:Md}{a0:Relation}{r:Relation}(hr:q7K a0=some r):Ok Tryz.prog 114 [Relation.x m a0] [] (.ag [dI r.N,.ref 0 none]) [.row .fz 1 (r.Rows.map (A.D.i .i64))]:=by
 refine OE Tryz.func114 fun S hS=>?_
 unfold q7K at hr
 refine J g<|J (BX' 0)<|J (NV' 1)<|bdE hr fun y1 hy1 hr=>J g<|J (CB' [(0,2)] [] (j0b (m:=m) hy1))<|e
def q7h (a0:Int)(a1:Relation):Option Bool:=
 grd (0≤a1.N) <|
 grd (0≤a1.N∧a1.N < 63) <|
 (q3Z a0 0 (((2 ^ a1.N.toNat:Nat):Int) - 1)).bind fun y1=>
 some (!y1)
theorem z8J {m2:Md}{a0:Int}{a1:Relation}{r:Bool}(hr:q7h a0 a1=some r):Ok Tryz.prog 172 [dI a0,.pb 0 0] [.box [dI a1.N,.d m2 (.sl 1 (a1.Rows.map (A.D.i .i64)))]] (dB r) [.box [dI a1.N,.d m2 (.sl 1 (a1.Rows.map (A.D.i .i64)))]]:=by
 refine OE Tryz.func172 fun S hS=>?_
 unfold q7h at hr
 refine ggE hr fun g1 hr=>J g ?_
 refine J (CIU' g1 rfl)<|ggE hr fun g2 hr=>J (OB' _ (k2s g2))<|J (OB' _ (k8s (p:=(2 ^ a1.N.toNat)) (k:=1) (by decide)))<|bdE hr fun y1 hy1 hr=>J (CB' [] [] (q4A hy1))<|J g<|E
def q5g (a1_0:Relation):Nat→Int→Unit→Option (Unit ⊕ Int):=fun k1 xk1 _=>
 (q7h xk1 a1_0).bind fun y1=>
 if y1=true then (
 some (.inr (k1:Int))
 ) else (
 some (.inl ())
 )
def q4x (a0:(List Int))(a1_0:Relation):Option Int:=
 (findL (q5g a1_0) 0 a0 ()).bind <| onr (fun r1=>some r1) fun _=>
 some (-1)
theorem q9a {m:Md}{m2:Md}{a0:(List Int)}{a1_0:Relation}{r:Int}(hr:q4x a0 a1_0=some r):Ok Tryz.prog 231 [.d m (.sl 1 (a0.map (A.D.i .i64))),.fn 172 [.pb 0 0]] [.box [dI a1_0.N,.d m2 (.sl 1 (a1_0.Rows.map (A.D.i .i64)))]] (dI r) [.box [dI a1_0.N,.d m2 (.sl 1 (a1_0.Rows.map (A.D.i .i64)))]]:=by
 refine OE Tryz.func231 fun S hS=>?_
 unfold q4x at hr
 refine J (gn 12)<|J (lenT 0)<|fun hl1=>bdE hr fun q1 hqq1 hr=>q0b hqq1 hl1 1 (fun k1 _=>[(0,.d m (.sl 1 (a0.map (A.D.i .i64)))),(1,.fn 172 [.pb 0 0]),(7,dI (a0.length:Int)),(8,dI (k1:Int))]) (fun k1 _=>[]) I (fun k1 xk1 sk1 ok1 hxk1 hr hltk1 hik1=>?_) fun k1 sk1 ek1 hltk1=>?_
 refine bdE hr fun y1 hy1 hr=>J g<|J (CB' [(0,0)] [] (z8J (m2:=m2) hy1))<|J (gn 1)<|ifE hr ?_ ?_<;>intro h1 hr
 exact e
 exact e
 subst ek1
 exact e
def q4k (a0:(List Int))(a1_0:Relation):Option Bool:=
 (q4x a0 a1_0).bind fun y1=>
 some (decide (0≤y1))
theorem q8x {m:Md}{m2:Md}{a0:(List Int)}{a1_0:Relation}{r:Bool}(hr:q4k a0 a1_0=some r):Ok Tryz.prog 171 [.d m (.sl 1 (a0.map (A.D.i .i64))),.fn 172 [.pb 0 0]] [.box [dI a1_0.N,.d m2 (.sl 1 (a1_0.Rows.map (A.D.i .i64)))]] (dB r) [.box [dI a1_0.N,.d m2 (.sl 1 (a1_0.Rows.map (A.D.i .i64)))]]:=by
 refine OE Tryz.func171 fun S hS=>?_
 unfold q4k at hr
 refine bdE hr fun y1 hy1 hr=>J g<|J (CB' [(0,0)] [] (q9a (m:=m) (m2:=m2) hy1))<|e
end Go.Proofs.YtcegfmageiicaaaGreat
