/- What some functions of the program compute, as partial functions on plain data, and that they do; each lemma bears its conditions in its statement. -/
import Derived.Test.YtcegfmageiicaaaGreatLift4
set_option linter.unusedVariables false
set_option linter.unusedSimpArgs false
set_option linter.ambiguousOpen false
set_option linter.unusedSectionVars false
set_option linter.unnecessarySimpa false
set_option maxRecDepth 100000
set_option maxHeartbeats 40000000
noncomputable section
namespace Go.Proofs.YtcegfmageiicaaaGreat
open Go Go.E Go.A
def z0r (a0:Expr)(a1_0:Int):Option Bool:=recO fun n=>q7e n a0 a1_0
theorem z7X (n:Nat):∀ {m:Md} {a0:Expr} {a1_0:Int} {r:Bool},q7e n a0 a1_0=some r→Ok Tryz.prog 183 [Expr.x m a0,.fn 317 [.pb 0 0]] [.box [dI a1_0]] (dB r) [.box [dI a1_0]]:=by
  induction n with
  | zero=>intro _ _ _ r hr; exact nomatch (show (none:Option Bool)=some r from hr)
  | succ n ih=>intro _ _ _ r hr; exact z7W ih hr
theorem z8B {m:Md}{a0:Expr}{a1_0:Int}{r:Bool}(hr:z0r a0 a1_0=some r):Ok Tryz.prog 183 [Expr.x m a0,.fn 317 [.pb 0 0]] [.box [dI a1_0]] (dB r) [.box [dI a1_0]]:=by
 obtain⟨n,hn⟩:=q5V hr
 exact z7X n hn
def z9W (a0:Expr)(a1:Int):Option Bool:=
 (z0F a0).bind fun y1=>
 if y1=true then (
 (z0r a0 a1).bind fun y2=>
 some y2
 ) else (
 some false
 )
theorem j7e {m:Md}{a0:Expr}{a1:Int}{r:Bool}(hr:z9W a0 a1=some r):Ok Tryz.prog 300 [Expr.x m a0,dI a1] [] (dB r) []:=by
 refine OE Tryz.func300 fun S hS=>?_
 unfold z9W at hr
 refine J g<|J (BX' 0)<|J (BX' 1)<|bdE hr fun y1 hy1 hr=>J g<|J (CB' [] [] (j4u (m:=m) hy1))<|ifE hr ?_ ?_<;>intro h1 hr
 refine bdE hr fun y2 hy2 hr=>J g<|J (CB' [(0,1)] [] (z8B (m:=m) hy2))<|e
 exact e
def z8C:Nat→ByteArray→Unit→Option (Unit ⊕ Bool):=fun k1 xk1 _=>
 (q4C xk1).bind fun y3=>
 if y3=true then (
 some (.inl ())
 ) else (
 some (.inr false)
 )
def z8D (a0:Rule):Nat→Equation→Unit→Option (Unit ⊕ Bool):=fun k2 xk2 _=>
 (z9W xk2.Expr (a0.Right.length:Int)).bind fun y4=>
 (
 if y4=true then (
 (q4C xk2.At.Name).bind fun y5=>
 some (!y5)
 ) else (
 some true
 )
 ).bind fun s4=>
 (
 if s4=true then (
 some true
 ) else (
 (q3Z xk2.At.Pos 0 (a0.Right.length:Int)).bind fun y6=>
 some (!y6)
 )
 ).bind fun s5=>
 if s5=true then (
 some (.inr false)
 ) else (
 some (.inl ())
 )
def z8E (a0:Rule):Nat→Contribution→Unit→Option (Unit ⊕ Bool):=fun k3 xk3 _=>
 (z9W xk3.Target (a0.Right.length:Int)).bind fun y7=>
 (
 if y7=true then (
 (z9W xk3.Value (a0.Right.length:Int)).bind fun y8=>
 some (!y8)
 ) else (
 some true
 )
 ).bind fun s6=>
 (
 if s6=true then (
 some true
 ) else (
 (q4C xk3.Symbol).bind fun y9=>
 some (!y9)
 )
 ).bind fun s7=>
 (
 if s7=true then (
 some true
 ) else (
 (q4C xk3.Name).bind fun y10=>
 some (!y10)
 )
 ).bind fun s8=>
 if s8=true then (
 some (.inr false)
 ) else (
 some (.inl ())
 )
def z0G (a0:Rule):Option Bool:=
 (q4C a0.Name).bind fun y1=>
 (
 if y1=true then (
 (q4C a0.Left).bind fun y2=>
 some (!y2)
 ) else (
 some true
 )
 ).bind fun s1=>
 (
 if s1=true then (
 some true
 ) else (
 some (decide (3 < (a0.Right.length:Int)))
 )
 ).bind fun s2=>
 (
 if s2=true then (
 some true
 ) else (
 some (decide (2 < (a0.Contributions.length:Int)))
 )
 ).bind fun s3=>
 if s3=true then (
 some false
 ) else (
 (findL z8C 0 a0.Right ()).bind <| onr (fun r1=>some r1) fun _=>
 (findL (z8D a0) 0 a0.Equations ()).bind <| onr (fun r2=>some r2) fun _=>
 (findL (z8E a0) 0 a0.Contributions ()).bind <| onr (fun r3=>some r3) fun _=>
 some true
 )
theorem j4v {m:Md}{a0:Rule}{r:Bool}(hr:z0G a0=some r):Ok Tryz.prog 264 [Rule.x m a0] [] (dB r) []:=by
 refine OE Tryz.func264 fun S hS=>?_
 unfold z0G at hr
 refine J g<|J (BX' 0)<|bdE hr fun y1 hy1 hr=>J g<|J (CB' [] [] (q5v hy1))<|bdE hr fun s1 hqq1 hr=>J (gn 1)<|q0a 6 [(1,.pb 0 0),(3,dI (a0.Right.length:Int)),(22,dB s1)] ?_ ?_
 replace hr:=hqq1
 refine ifE hr ?_ ?_<;>intro h1 hr
 refine bdE hr fun y2 hy2 hr=>J g<|J (CB' [] [] (q5v hy2))<|e
 exact e
 refine bdE hr fun s2 hqq2 hr=>q0a 4 [(1,.pb 0 0),(3,dI (a0.Right.length:Int)),(26,dB s2)] ?_ ?_
 replace hr:=hqq2
 refine ifE hr ?_ ?_<;>intro h2 hr
 exact e
 exact e
 refine bdE hr fun s3 hqq3 hr=>q0a 6 [(1,.pb 0 0),(3,dI (a0.Right.length:Int)),(32,dB s3)] ?_ ?_
 replace hr:=hqq3
 refine ifE hr ?_ ?_<;>intro h3 hr
 exact e
 exact e
 refine J (gn 1)<|ifE hr ?_ ?_<;>intro h4 hr
 exact e
 refine J (gn 11)<|J (lenT 34)<|fun hl1=>bdE hr fun q4 hqq4 hr=>q0b hqq4 hl1 1 (fun k1 _=>[(1,.pb 0 0),(3,dI (a0.Right.length:Int)),(34,.d m (.sl 1 (a0.Right.map A.D.s))),(35,dI (a0.Right.length:Int)),(36,dI (k1:Int))]) (fun k1 _=>[]) I (fun k1 xk1 sk1 ok1 hxk1 hr hltk1 hik1=>?_) fun k1 sk1 ek1 hltk1=>?_
 refine bdE hr fun y3 hy3 hr=>J g<|J (CB' [] [] (q5v hy3))<|J (gn 2)<|ifE hr ?_ ?_<;>intro h5 hr
 exact e
 exact e
 subst ek1
 refine J (gn 16)<|J (lenT 45)<|fun hl2=>bdE hr fun q5 hqq5 hr=>q0b hqq5 hl2 1 (fun k2 _=>[(1,.pb 0 0),(3,dI (a0.Right.length:Int)),(45,.d m (.sl 9 (a0.Equations.map Equation.D))),(46,dI (a0.Equations.length:Int)),(47,dI (k2:Int))]) (fun k2 _=>[]) I (fun k2 xk2 sk2 ok2 hxk2 hr hltk2 hik2=>?_) fun k2 sk2 ek2 hltk2=>?_
 refine J g<|J (NV' 1)<|bdE hr fun y4 hy4 hr=>J g<|J (CB' [] [] (j7e (m:=m) hy4))<|bdE hr fun s4 hqq6 hr=>J (gn 1)<|q0a 7 [(1,.pb 0 0),(3,dI (a0.Right.length:Int)),(7,.pb 1 0),(45,.d m (.sl 9 (a0.Equations.map Equation.D))),(46,dI (a0.Equations.length:Int)),(47,dI (k2:Int)),(62,dB s4)] ?_ ?_
 replace hr:=hqq6
 refine ifE hr ?_ ?_<;>intro h6 hr
 refine bdE hr fun y5 hy5 hr=>J g<|J (CB' [] [] (q5v hy5))<|e
 exact e
 refine bdE hr fun s5 hqq7 hr=>q0a 8 [(1,.pb 0 0),(3,dI (a0.Right.length:Int)),(45,.d m (.sl 9 (a0.Equations.map Equation.D))),(46,dI (a0.Equations.length:Int)),(47,dI (k2:Int)),(70,dB s5)] ?_ ?_
 replace hr:=hqq7
 refine ifE hr ?_ ?_<;>intro h7 hr
 exact e
 refine bdE hr fun y6 hy6 hr=>J g<|J (CB' [] [] (q4A hy6))<|e
 refine J (gn 1)<|ifE hr ?_ ?_<;>intro h8 hr
 exact e
 exact e
 subst ek2
 refine J (gn 16)<|J (lenT 73)<|fun hl3=>bdE hr fun q8 hqq8 hr=>q0b hqq8 hl3 1 (fun k3 _=>[(3,dI (a0.Right.length:Int)),(73,.d m (.sl 16 (a0.Contributions.map Contribution.D))),(74,dI (a0.Contributions.length:Int)),(75,dI (k3:Int))]) (fun k3 _=>[]) I (fun k3 xk3 sk3 ok3 hxk3 hr hltk3 hik3=>?_) fun k3 sk3 ek3 hltk3=>?_
 refine J g<|J (NV' 1)<|bdE hr fun y7 hy7 hr=>J g<|J (CB' [] [] (j7e (m:=m) hy7))<|bdE hr fun s6 hqq9 hr=>J (gn 1)<|q0a 7 [(3,dI (a0.Right.length:Int)),(9,.pb 1 0),(73,.d m (.sl 16 (a0.Contributions.map Contribution.D))),(74,dI (a0.Contributions.length:Int)),(75,dI (k3:Int)),(90,dB s6)] ?_ ?_
 replace hr:=hqq9
 refine ifE hr ?_ ?_<;>intro h9 hr
 refine bdE hr fun y8 hy8 hr=>J g<|J (CB' [] [] (j7e (m:=m) hy8))<|e
 exact e
 refine bdE hr fun s7 hqq10 hr=>q0a 6 [(3,dI (a0.Right.length:Int)),(9,.pb 1 0),(73,.d m (.sl 16 (a0.Contributions.map Contribution.D))),(74,dI (a0.Contributions.length:Int)),(75,dI (k3:Int)),(96,dB s7)] ?_ ?_
 replace hr:=hqq10
 refine ifE hr ?_ ?_<;>intro h10 hr
 exact e
 refine bdE hr fun y9 hy9 hr=>J g<|J (CB' [] [] (q5v hy9))<|e
 refine bdE hr fun s8 hqq11 hr=>q0a 6 [(3,dI (a0.Right.length:Int)),(73,.d m (.sl 16 (a0.Contributions.map Contribution.D))),(74,dI (a0.Contributions.length:Int)),(75,dI (k3:Int)),(102,dB s8)] ?_ ?_
 replace hr:=hqq11
 refine ifE hr ?_ ?_<;>intro h11 hr
 exact e
 refine bdE hr fun y10 hy10 hr=>J g<|J (CB' [] [] (q5v hy10))<|e
 refine J (gn 1)<|ifE hr ?_ ?_<;>intro h12 hr
 exact e
 exact e
 subst ek3
 exact e
def z1L (a0:Rule)(a1:Rule):Option Bool:=
 some (decide (a0.Name=a1.Name))
theorem j2R {m:Md}{m2:Md}{a0:Rule}{a1:Rule}{r:Bool}(hr:z1L a0 a1=some r):Ok Tryz.prog 265 [Rule.x m a0,.pb 0 0] [.box [dS a1.Name,dS a1.Left,.d m2 (.sl 1 (a1.Right.map A.D.s)),dB a1.Literal,.d m2 (.sl 9 (a1.Equations.map Equation.D)),.d m2 (.sl 16 (a1.Contributions.map Contribution.D))]] (dB r) [.box [dS a1.Name,dS a1.Left,.d m2 (.sl 1 (a1.Right.map A.D.s)),dB a1.Literal,.d m2 (.sl 9 (a1.Equations.map Equation.D)),.d m2 (.sl 16 (a1.Contributions.map Contribution.D))]]:=by
 refine OE Tryz.func265 fun S hS=>?_
 unfold z1L at hr
 refine J g<|J (BX' 1)<|e
def q6R (a1_0:Rule):Nat→Rule→Unit→Option (Unit ⊕ Int):=fun k1 xk1 _=>
 (z1L xk1 a1_0).bind fun y1=>
 if y1=true then (
 some (.inr (k1:Int))
 ) else (
 some (.inl ())
 )
def q4U (a0:(List Rule))(a1_0:Rule):Option Int:=
 (findL (q6R a1_0) 0 a0 ()).bind <| onr (fun r1=>some r1) fun _=>
 some (-1)
theorem z0b {m:Md}{m2:Md}{a0:(List Rule)}{a1_0:Rule}{r:Int}(hr:q4U a0 a1_0=some r):Ok Tryz.prog 232 [.d m (.sl 6 (a0.map Rule.D)),.fn 265 [.pb 0 0]] [.box [dS a1_0.Name,dS a1_0.Left,.d m2 (.sl 1 (a1_0.Right.map A.D.s)),dB a1_0.Literal,.d m2 (.sl 9 (a1_0.Equations.map Equation.D)),.d m2 (.sl 16 (a1_0.Contributions.map Contribution.D))]] (dI r) [.box [dS a1_0.Name,dS a1_0.Left,.d m2 (.sl 1 (a1_0.Right.map A.D.s)),dB a1_0.Literal,.d m2 (.sl 9 (a1_0.Equations.map Equation.D)),.d m2 (.sl 16 (a1_0.Contributions.map Contribution.D))]]:=by
 refine OE Tryz.func232 fun S hS=>?_
 unfold q4U at hr
 refine J (gn 12)<|J (lenT 0)<|fun hl1=>bdE hr fun q1 hqq1 hr=>q0b hqq1 hl1 1 (fun k1 _=>[(0,.d m (.sl 6 (a0.map Rule.D))),(1,.fn 265 [.pb 0 0]),(7,dI (a0.length:Int)),(8,dI (k1:Int))]) (fun k1 _=>[]) I (fun k1 xk1 sk1 ok1 hxk1 hr hltk1 hik1=>?_) fun k1 sk1 ek1 hltk1=>?_
 refine bdE hr fun y1 hy1 hr=>J g<|J (CB' [(0,0)] [] (j2R (m:=m) (m2:=m2) hy1))<|J (gn 1)<|ifE hr ?_ ?_<;>intro h1 hr
 exact e
 exact e
 subst ek1
 exact e
def q4D (a0:(List Rule))(a1_0:Rule):Option Bool:=
 (q4U a0 a1_0).bind fun y1=>
 some (decide (0≤y1))
theorem q9q {m:Md}{m2:Md}{a0:(List Rule)}{a1_0:Rule}{r:Bool}(hr:q4D a0 a1_0=some r):Ok Tryz.prog 174 [.d m (.sl 6 (a0.map Rule.D)),.fn 265 [.pb 0 0]] [.box [dS a1_0.Name,dS a1_0.Left,.d m2 (.sl 1 (a1_0.Right.map A.D.s)),dB a1_0.Literal,.d m2 (.sl 9 (a1_0.Equations.map Equation.D)),.d m2 (.sl 16 (a1_0.Contributions.map Contribution.D))]] (dB r) [.box [dS a1_0.Name,dS a1_0.Left,.d m2 (.sl 1 (a1_0.Right.map A.D.s)),dB a1_0.Literal,.d m2 (.sl 9 (a1_0.Equations.map Equation.D)),.d m2 (.sl 16 (a1_0.Contributions.map Contribution.D))]]:=by
 refine OE Tryz.func174 fun S hS=>?_
 unfold q4D at hr
 refine bdE hr fun y1 hy1 hr=>J g<|J (CB' [(0,0)] [] (z0b (m:=m) (m2:=m2) hy1))<|e
def z3a (a0:Grammar):Nat→Symbol→Unit→Option (Unit ⊕ Int):=fun k1 xk1 _=>
 (q8Z xk1).bind fun y1=>
 if y1=true then (
 grd (k1≤a0.Symbols.length) <|
 (q4t (a0.Symbols.take k1) xk1).bind fun y2=>
 if y2=true then (
 some (.inr (k1:Int))
 ) else (
 some (.inl ())
 )
 ) else (
 some (.inr (k1:Int))
 )
def z3b (a0:Grammar):Nat→Rule→Unit→Option (Unit ⊕ Int):=fun k2 xk2 _=>
 (z0G xk2).bind fun y3=>
 if y3=true then (
 grd (k2≤a0.Rules.length) <|
 (q4D (a0.Rules.take k2) xk2).bind fun y4=>
 if y4=true then (
 some (.inr (k2:Int))
 ) else (
 some (.inl ())
 )
 ) else (
 some (.inr (k2:Int))
 )
def z1M (a0:Grammar):Option Int:=
 (findL (z3a a0) 0 a0.Symbols ()).bind <| onr (fun r1=>some r1) fun _=>
 (findL (z3b a0) 0 a0.Rules ()).bind <| onr (fun r2=>some r2) fun _=>
 some (-1)
theorem j5z {m:Md}{a0:Grammar}{r:Int}(hr:z1M a0=some r):Ok Tryz.prog 221 [Grammar.x m a0] [] (dI r) []:=by
 refine OE Tryz.func221 fun S hS=>?_
 unfold z1M at hr
 refine J g<|J (BX' 0)<|J (gn 11)<|J (lenA 0 0)<|fun hl1=>bdE hr fun q1 hqq1 hr=>q0b hqq1 hl1 1 (fun k1 _=>[(1,.pb 0 0),(8,.d m (.sl 2 (a0.Symbols.map Symbol.D))),(9,dI (a0.Symbols.length:Int)),(10,dI (k1:Int))]) (fun k1 _=>[]) I (fun k1 xk1 sk1 ok1 hxk1 hr hltk1 hik1=>?_) fun k1 sk1 ek1 hltk1=>?_
 refine J g<|J (NV' 1)<|bdE hr fun y1 hy1 hr=>J g<|J (CB' [] [] (j1G (m:=m) hy1))<|J (gn 1)<|ifE hr ?_ ?_<;>intro h1 hr
 refine ggE hr fun g1 hr=>J g<|J (SLH' (Int.natCast_nonneg _) g1)<|bdE hr fun y2 hy2 hr=>J g<|J (CB' [(0,1)] [] (q8P (m:=m) (m2:=m) hy2))<|J (gn 2)<|ifE hr ?_ ?_<;>intro h2 hr
 exact e
 exact e
 exact e
 subst ek1
 refine J (gn 16)<|J (lenT 29)<|fun hl2=>bdE hr fun q2 hqq2 hr=>q0b hqq2 hl2 1 (fun k2 _=>[(1,.pb 0 0),(29,.d m (.sl 6 (a0.Rules.map Rule.D))),(30,dI (a0.Rules.length:Int)),(31,dI (k2:Int))]) (fun k2 _=>[]) I (fun k2 xk2 sk2 ok2 hxk2 hr hltk2 hik2=>?_) fun k2 sk2 ek2 hltk2=>?_
 refine J g<|J (NV' 1)<|bdE hr fun y3 hy3 hr=>J g<|J (CB' [] [] (j4v (m:=m) hy3))<|J (gn 1)<|ifE hr ?_ ?_<;>intro h3 hr
 refine ggE hr fun g2 hr=>J g<|J (SLH' (Int.natCast_nonneg _) g2)<|bdE hr fun y4 hy4 hr=>J g<|J (CB' [(0,1)] [] (q9q (m:=m) (m2:=m) hy4))<|J (gn 2)<|ifE hr ?_ ?_<;>intro h4 hr
 exact e
 exact e
 exact e
 subst ek2
 exact e
def z1N (a0:Attribute):Option Bool:=
 some (decide (a0.Mode=1))
theorem j2S {a0:Attribute}{r:Bool}(hr:z1N a0=some r):Ok Tryz.prog 222 [Attribute.x .fz a0] [] (dB r) []:=by
 refine OE Tryz.func222 fun S hS=>?_
 unfold z1N at hr
 refine J g<|J (BX' 0)<|e
def q6g:Nat→Attribute→Unit→Option (Unit ⊕ Int):=fun k1 xk1 _=>
 (z1N xk1).bind fun y1=>
 if y1=true then (
 some (.inr (k1:Int))
 ) else (
 some (.inl ())
 )
def q4u (a0:(List Attribute)):Option Int:=
 (findL q6g 0 a0 ()).bind <| onr (fun r1=>some r1) fun _=>
 some (-1)
theorem q8Q {m:Md}{a0:(List Attribute)}{r:Int}(hr:q4u a0=some r):Ok Tryz.prog 235 [.d m (.sl 4 (a0.map Attribute.D)),.fn 222 []] [] (dI r) []:=by
 refine OE Tryz.func235 fun S hS=>?_
 unfold q4u at hr
 refine J (gn 12)<|J (lenT 0)<|fun hl1=>bdE hr fun q1 hqq1 hr=>q0b hqq1 hl1 0 (fun k1 _=>[(0,.d m (.sl 4 (a0.map Attribute.D))),(1,.fn 222 []),(7,dI (a0.length:Int)),(8,dI (k1:Int))]) (fun k1 _=>[]) I (fun k1 xk1 sk1 ok1 hxk1 hr hltk1 hik1=>?_) fun k1 sk1 ek1 hltk1=>?_
 refine bdE hr fun y1 hy1 hr=>J g<|J (CB' [] [] (j2S hy1))<|J (gn 1)<|ifE hr ?_ ?_<;>intro h1 hr
 exact e
 exact e
 subst ek1
 exact e
def q4e (a0:(List Attribute)):Option Bool:=
 (q4u a0).bind fun y1=>
 some (decide (0≤y1))
theorem q8m {m:Md}{a0:(List Attribute)}{r:Bool}(hr:q4e a0=some r):Ok Tryz.prog 181 [.d m (.sl 4 (a0.map Attribute.D)),.fn 222 []] [] (dB r) []:=by
 refine OE Tryz.func181 fun S hS=>?_
 unfold q4e at hr
 refine bdE hr fun y1 hy1 hr=>J g<|J (CB' [] [] (q8Q (m:=m) hy1))<|e
def q6A (a0:Rule)(a1:Int):Option ByteArray:=
 if a1=0 then (
 some a0.Left
 ) else (
 (q3Z a1 1 (a0.Right.length:Int)).bind fun y1=>
 if y1=true then (
 grd (I64 (a1 - 1)) <|
 grd (0≤(a1 - 1)) <|
 (a0.Right[(a1 - 1).toNat]?).bind fun x1=>
 some x1
 ) else (
 some (⟨#[]⟩:ByteArray)
 )
 )
theorem z1e {m:Md}{a0:Rule}{a1:Int}{r:ByteArray}(hr:q6A a0 a1=some r):Ok Tryz.prog 72 [Rule.x m a0,dI a1] [] (dS r) []:=by
 refine OE Tryz.func72 fun S hS=>?_
 unfold q6A at hr
 refine J g<|J (BX' 0)<|J (gn 10)<|ifE hr ?_ ?_<;>intro h1 hr
 exact e
 refine bdE hr fun y1 hy1 hr=>J g<|J (CB' [] [] (q4A hy1))<|J (gn 2)<|ifE hr ?_ ?_<;>intro h2 hr
 refine ggE hr fun g1 hr=>ggE hr fun g2 hr=>bdE hr fun x1 hx1 hr=>e
 exact e
def z0H (a1:ByteArray):Nat→Symbol→Unit→Option (Unit ⊕ (Symbol × Bool)):=fun k1 xk1 _=>
 if xk1.Name=a1 then (
 some (.inr (xk1,true))
 ) else (
 some (.inl ())
 )
def q5O (a0:Grammar)(a1:ByteArray):Option (Symbol × Bool):=
 (findL (z0H a1) 0 a0.Symbols ()).bind <| onr (fun r1=>some r1) fun _=>
 some ((⟨(⟨#[]⟩:ByteArray),[]⟩:Symbol),false)
theorem q9k {m:Md}{a0:Grammar}{a1:ByteArray}{r:(Symbol × Bool)}(hr:q5O a0 a1=some r):Ok Tryz.prog 133 [Grammar.y m a0,dS a1] [] (.tu [Symbol.x m r.1,dB r.2]) []:=by
 refine OE Tryz.func133 fun S hS=>?_
 unfold q5O at hr
 refine J g<|J (BX' 0)<|J (NV' 1)<|J (gn 11)<|J (lenA 0 0)<|fun hl1=>bdE hr fun q1 hqq1 hr=>q0b hqq1 hl1 2 (fun k1 _=>[(1,dS a1),(4,.pb 1 0),(9,.d m (.sl 2 (a0.Symbols.map Symbol.D))),(10,dI (a0.Symbols.length:Int)),(11,dI (k1:Int))]) (fun k1 _=>[]) I (fun k1 xk1 sk1 ok1 hxk1 hr hltk1 hik1=>?_) fun k1 sk1 ek1 hltk1=>?_
 refine J g<|J (NV' 2)<|J (gn 9)<|ifE hr ?_ ?_<;>intro h1 hr
 exact e
 exact e
 subst ek1
 refine J (gn 14) ?_
 cases hr
 exact endA.ren [] 0 (.inr rfl) hS rfl rfl rfl (.tu (.cons (.ag (.cons .rfl (.cons .nld .nil))) (.cons .rfl .nil))) rfl rfl
def j4w (a0:Grammar)(a1:Rule):Nat→Unit→Option (Unit ⊕ Bool):=fun k1 _=>
 (q6A a1 (k1:Int)).bind fun y1=>
 (q5O a0 y1).bind fun (y2,y3)=>
 if y3=true then (
 some (.inl ())
 ) else (
 some (.inr true)
 )
def z6t (a0:Grammar)(a1:Rule):Option Bool:=
 grd (I64 ((a1.Right.length+1:Nat):Int)) <|
 (findN (j4w a0 a1) 0 (a1.Right.length+1) ()).bind <| onr (fun r1=>some r1) fun _=>
 some false
theorem k0j {m:Md}{a0:Grammar}{a1:Rule}{r:Bool}(hr:z6t a0 a1=some r):Ok Tryz.prog 223 [Grammar.y m a0,Rule.x m a1] [] (dB r) []:=by
 refine OE Tryz.func223 fun S hS=>?_
 unfold z6t at hr
 refine J g<|J (BX' 0)<|J (BX' 1)<|ggE hr fun g1 hr=>J (gn 12)<|J (rngT 11)<|fun hl1=>bdE hr fun q1 hqq1 hr=>q0q hqq1 2 (fun k1 _=>[(2,.pb 0 0),(3,.pb 1 0),(11,dI ((a1.Right.length+1:Nat):Int)),(12,dI (k1:Int))]) (fun k1 _=>[]) I (fun k1 sk1 ok1 hr hltk1 hik1=>?_) fun sk1 ek1=>?_
 refine bdE hr fun y1 hy1 hr=>J g<|J (CB' [] [] (z1e (m:=m) hy1))<|bdP hr fun y2 y3 hq2 hr=>J (CB' [] [] (q9k (m:=m) hq2))<|J g<|J (NV' 2)<|J (gn 8)<|ifE hr ?_ ?_<;>intro h1 hr
 exact e
 exact e
 subst ek1
 exact e
def z8F (k1:Nat)(s2:Int):Nat→Attribute→((List Occurrence))→Option ((List Occurrence)):=fun k2 xk2 s3=>
 (
 if xk2.Mode=s2 then (
 grd (((s3.length:Int)+1)*24≤140737488355328∧(s3.length:Int)+1≤9223372036854775807) <|
 some (s3++[(⟨(k1:Int),xk2.Name⟩:Occurrence)])
 ) else (
 some s3
 )
 ).bind fun s4=>
 some s4
def z8G (a0:Grammar)(a1:Rule):Nat→((List Occurrence))→Option ((List Occurrence)):=fun k1 s1=>
 (
 if (k1:Int)=0 then (
 some 2
 ) else (
 some 1
 )
 ).bind fun s2=>
 (q6A a1 (k1:Int)).bind fun y1=>
 (q5O a0 y1).bind fun (y2,y3)=>
 (eachL (z8F k1 s2) 0 y2.Attributes s1).bind fun s3=>
 some s3
def z2z (a0:Grammar)(a1:Rule):Option (List Occurrence):=
 grd (I64 ((a1.Right.length+1:Nat):Int)) <|
 (eachN (z8G a0 a1) 0 (a1.Right.length+1) ([]:List Occurrence)).bind fun s1=>
 some s1
theorem j2m {m:Md}{a0:Grammar}{a1:Rule}{r:(List Occurrence)}(hr:z2z a0 a1=some r):Ok Tryz.prog 194 [Grammar.y m a0,Rule.x m a1] [] (.ref 0 none) [.row .fz 2 (r.map Occurrence.D)]:=by
 refine OE Tryz.func194 fun S hS=>?_
 unfold z2z at hr
 refine J g<|J (BX' 0)<|J (BX' 1)<|J g<|J (L0' 2 Occurrence.D)<|ggE hr fun g1 hr=>J (gn 12)<|J (rngT 16)<|fun hl1=>bdE hr fun s1 hqq1 hr=>q0k hqq1 3 (fun k1 s1=>[(2,.pb 0 0),(3,.pb 1 0),(5,.ref 2 none),(16,dI ((a1.Right.length+1:Nat):Int)),(17,dI (k1:Int))]) (fun k1 s1=>[(2,.row .fz 2 (s1.map Occurrence.D))]) I (fun k1 sk1 ok1 hr hltk1=>?_) ?_
 obtain⟨s1,rfl⟩:∃ y,y=sk1:=⟨_,rfl⟩
 refine bdE hr fun s2 hqq2 hr=>J (gn 24)<|q0d 3 [(2,.pb 0 0),(3,.pb 1 0),(5,.ref 2 none),(6,dI (k1:Int)),(7,dI s2),(16,dI ((a1.Right.length+1:Nat):Int)),(17,dI (k1:Int))] [] ?_ ?_
 replace hr:=hqq2
 refine ifE hr ?_ ?_<;>intro h1 hr
 exact e
 exact e
 refine bdE hr fun y1 hy1 hr=>J g<|J (CB' [] [] (z1e (m:=m) hy1))<|bdP hr fun y2 y3 hq3 hr=>J (CB' [] [] (q9k (m:=m) hq3))<|J g<|J (NV' 3)<|J (gn 11) ?_
 refine AW.len (.ag 1 (.tu 0 (.tmp 22 rfl) rfl) rfl) fun hl2=>?_
 refine bdE hr fun s3 hqq4 hr=>q0c hqq4 hl2 4 (fun k2 s3=>[(2,.pb 0 0),(3,.pb 1 0),(5,.ref 2 none),(6,dI (k1:Int)),(7,dI s2),(16,dI ((a1.Right.length+1:Nat):Int)),(17,dI (k1:Int)),(31,.d m (.sl 4 (y2.Attributes.map Attribute.D))),(32,dI (y2.Attributes.length:Int)),(33,dI (k2:Int))]) (fun k2 s3=>[(2,.row .fz 2 (s3.map Occurrence.D))]) I (fun k2 xk2 sk2 ok2 hxk2 hr hltk2=>?_) fun k2 hltk2=>?_
 obtain⟨s3,rfl⟩:∃ y,y=sk2:=⟨_,rfl⟩
 refine bdE hr fun s4 hqq5 hr=>J (gn 8)<|q0d 4 [(2,.pb 0 0),(3,.pb 1 0),(5,.ref 2 none),(6,dI (k1:Int)),(7,dI s2),(16,dI ((a1.Right.length+1:Nat):Int)),(17,dI (k1:Int)),(31,.d m (.sl 4 (y2.Attributes.map Attribute.D))),(32,dI (y2.Attributes.length:Int)),(33,dI (k2:Int))] [(2,.row .fz 2 (s4.map Occurrence.D))] ?_ ?_
 replace hr:=hqq5
 refine J g<|J (NV' 4)<|J (gn 9)<|ifE hr ?_ ?_<;>intro h2 hr
 refine J g<|J (LIR' 5 (m:=.fz) (f:=Occurrence.D) (xs:=[(⟨(k1:Int),xk2.Name⟩:Occurrence)]))<|ggE hr fun g2 hr=>J (z4z (f:=Occurrence.D) 6 (fun _=>rfl) 24 g2)<|e
 exact e
 exact e
 exact e
 exact e
def z3c (a0:Equation)(a1:Occurrence):Option Bool:=
 some (decide (a0.At=a1))
theorem j4x {m:Md}{a0:Equation}{a1:Occurrence}{r:Bool}(hr:z3c a0 a1=some r):Ok Tryz.prog 268 [Equation.x m a0,.pb 0 0] [.box [dI a1.Pos,dS a1.Name]] (dB r) [.box [dI a1.Pos,dS a1.Name]]:=by
 refine OE Tryz.func268 fun S hS=>?_
 unfold z3c at hr
 refine J g<|J (BX' 1)<|J g ?_
 refine J (SQ' rfl rfl rfl rfl (q6d a0.At a1))<|J g<|E
def q6t (a1_0:Occurrence):Nat→Equation→Unit→Option (Unit ⊕ Int):=fun k1 xk1 _=>
 (z3c xk1 a1_0).bind fun y1=>
 if y1=true then (
 some (.inr (k1:Int))
 ) else (
 some (.inl ())
 )
def q4E (a0:(List Equation))(a1_0:Occurrence):Option Int:=
 (findL (q6t a1_0) 0 a0 ()).bind <| onr (fun r1=>some r1) fun _=>
 some (-1)
theorem q9r {m:Md}{a0:(List Equation)}{a1_0:Occurrence}{r:Int}(hr:q4E a0 a1_0=some r):Ok Tryz.prog 301 [.d m (.sl 9 (a0.map Equation.D)),.fn 268 [.pb 0 0]] [.box [dI a1_0.Pos,dS a1_0.Name]] (dI r) [.box [dI a1_0.Pos,dS a1_0.Name]]:=by
 refine OE Tryz.func301 fun S hS=>?_
 unfold q4E at hr
 refine J (gn 12)<|J (lenT 0)<|fun hl1=>bdE hr fun q1 hqq1 hr=>q0b hqq1 hl1 1 (fun k1 _=>[(0,.d m (.sl 9 (a0.map Equation.D))),(1,.fn 268 [.pb 0 0]),(7,dI (a0.length:Int)),(8,dI (k1:Int))]) (fun k1 _=>[]) I (fun k1 xk1 sk1 ok1 hxk1 hr hltk1 hik1=>?_) fun k1 sk1 ek1 hltk1=>?_
 refine bdE hr fun y1 hy1 hr=>J g<|J (CB' [(0,0)] [] (j4x (m:=m) hy1))<|J (gn 1)<|ifE hr ?_ ?_<;>intro h1 hr
 exact e
 exact e
 subst ek1
 exact e
def q4o (a0:(List Equation))(a1_0:Occurrence):Option Bool:=
 (q4E a0 a1_0).bind fun y1=>
 some (decide (0≤y1))
theorem q8F {m:Md}{a0:(List Equation)}{a1_0:Occurrence}{r:Bool}(hr:q4o a0 a1_0=some r):Ok Tryz.prog 267 [.d m (.sl 9 (a0.map Equation.D)),.fn 268 [.pb 0 0]] [.box [dI a1_0.Pos,dS a1_0.Name]] (dB r) [.box [dI a1_0.Pos,dS a1_0.Name]]:=by
 refine OE Tryz.func267 fun S hS=>?_
 unfold q4o at hr
 refine bdE hr fun y1 hy1 hr=>J g<|J (CB' [(0,0)] [] (q9r (m:=m) hy1))<|e
def z5D (a0:Occurrence)(a1:Rule):Option Bool:=
 (q4o a1.Equations a0).bind fun y1=>
 some (!y1)
theorem j7f {m2:Md}{a0:Occurrence}{a1:Rule}{r:Bool}(hr:z5D a0 a1=some r):Ok Tryz.prog 266 [Occurrence.x .fz a0,.pb 0 0] [.box [dS a1.Name,dS a1.Left,.d m2 (.sl 1 (a1.Right.map A.D.s)),dB a1.Literal,.d m2 (.sl 9 (a1.Equations.map Equation.D)),.d m2 (.sl 16 (a1.Contributions.map Contribution.D))]] (dB r) [.box [dS a1.Name,dS a1.Left,.d m2 (.sl 1 (a1.Right.map A.D.s)),dB a1.Literal,.d m2 (.sl 9 (a1.Equations.map Equation.D)),.d m2 (.sl 16 (a1.Contributions.map Contribution.D))]]:=by
 refine OE Tryz.func266 fun S hS=>?_
 unfold z5D at hr
 refine J g<|J (BX' 1)<|bdE hr fun y1 hy1 hr=>J g<|J (CB' [(0,1)] [] (q8F (m:=m2) hy1))<|e
def q6u (a1_0:Rule):Nat→Occurrence→Unit→Option (Unit ⊕ Int):=fun k1 xk1 _=>
 (z5D xk1 a1_0).bind fun y1=>
 if y1=true then (
 some (.inr (k1:Int))
 ) else (
 some (.inl ())
 )
def q4F (a0:(List Occurrence))(a1_0:Rule):Option Int:=
 (findL (q6u a1_0) 0 a0 ()).bind <| onr (fun r1=>some r1) fun _=>
 some (-1)
theorem q9s {m2:Md}{a0:(List Occurrence)}{a1_0:Rule}{r:Int}(hr:q4F a0 a1_0=some r):Ok Tryz.prog 244 [.ref 1 none,.fn 266 [.pb 0 0]] [.box [dS a1_0.Name,dS a1_0.Left,.d m2 (.sl 1 (a1_0.Right.map A.D.s)),dB a1_0.Literal,.d m2 (.sl 9 (a1_0.Equations.map Equation.D)),.d m2 (.sl 16 (a1_0.Contributions.map Contribution.D))],.row .fz 2 (a0.map Occurrence.D)] (dI r) [.box [dS a1_0.Name,dS a1_0.Left,.d m2 (.sl 1 (a1_0.Right.map A.D.s)),dB a1_0.Literal,.d m2 (.sl 9 (a1_0.Equations.map Equation.D)),.d m2 (.sl 16 (a1_0.Contributions.map Contribution.D))],.row .fz 2 (a0.map Occurrence.D)]:=by
 refine OE Tryz.func244 fun S hS=>?_
 unfold q4F at hr
 refine J (gn 12)<|J (lenR 1)<|fun hl1=>bdE hr fun q1 hqq1 hr=>q0b hqq1 hl1 2 (fun k1 _=>[(0,.ref 1 none),(1,.fn 266 [.pb 0 0]),(7,dI (a0.length:Int)),(8,dI (k1:Int))]) (fun k1 _=>[]) I (fun k1 xk1 sk1 ok1 hxk1 hr hltk1 hik1=>?_) fun k1 sk1 ek1 hltk1=>?_
 refine bdE hr fun y1 hy1 hr=>J g<|J (CB' [(0,0)] [] (j7f (m2:=m2) hy1))<|J (gn 1)<|ifE hr ?_ ?_<;>intro h1 hr
 exact e
 exact e
 subst ek1
 exact e
def q4p (a0:(List Occurrence))(a1_0:Rule):Option Bool:=
 (q4F a0 a1_0).bind fun y1=>
 some (decide (0≤y1))
theorem q8G {m2:Md}{a0:(List Occurrence)}{a1_0:Rule}{r:Bool}(hr:q4p a0 a1_0=some r):Ok Tryz.prog 201 [.ref 1 none,.fn 266 [.pb 0 0]] [.box [dS a1_0.Name,dS a1_0.Left,.d m2 (.sl 1 (a1_0.Right.map A.D.s)),dB a1_0.Literal,.d m2 (.sl 9 (a1_0.Equations.map Equation.D)),.d m2 (.sl 16 (a1_0.Contributions.map Contribution.D))],.row .fz 2 (a0.map Occurrence.D)] (dB r) [.box [dS a1_0.Name,dS a1_0.Left,.d m2 (.sl 1 (a1_0.Right.map A.D.s)),dB a1_0.Literal,.d m2 (.sl 9 (a1_0.Equations.map Equation.D)),.d m2 (.sl 16 (a1_0.Contributions.map Contribution.D))],.row .fz 2 (a0.map Occurrence.D)]:=by
 refine OE Tryz.func201 fun S hS=>?_
 unfold q4p at hr
 refine bdE hr fun y1 hy1 hr=>J g<|J (CB' [(0,0),(1,1)] [] (q9s (m2:=m2) hy1))<|e
def z6u (a0:Grammar)(a1:Rule):Option Bool:=
 (z2z a0 a1).bind fun y1=>
 (q4p y1 a1).bind fun y2=>
 some y2
theorem k0k {m:Md}{a0:Grammar}{a1:Rule}{r:Bool}(hr:z6u a0 a1=some r):Ok Tryz.prog 224 [Grammar.y m a0,Rule.x m a1] [] (dB r) []:=by
 refine OE Tryz.func224 fun S hS=>?_
 unfold z6u at hr
 refine J g<|J (BX' 0)<|J (BX' 1)<|bdE hr fun y1 hy1 hr=>J g<|J (CB' [(0,2)] [] (j2m (m:=m) hy1))<|bdE hr fun y2 hy2 hr=>J g<|J (CB' [(0,1),(1,2)] [] (q8G (m2:=m) hy2))<|e
def q3S (a1:Occurrence):Nat→Occurrence→Unit→Option (Unit ⊕ Int):=fun k1 xk1 _=>
 if a1=xk1 then (
 some (.inr (k1:Int))
 ) else (
 some (.inl ())
 )
def q3P (a0:(List Occurrence))(a1:Occurrence):Option Int:=
 (findL (q3S a1) 0 a0 ()).bind <| onr (fun r1=>some r1) fun _=>
 some (-1)
theorem z0p {m:Md}{a0:(List Occurrence)}{a1:Occurrence}{r:Int}(hr:q3P a0 a1=some r):Ok Tryz.prog 188 [.d m (.sl 2 (a0.map Occurrence.D)),Occurrence.x .fz a1] [] (dI r) []:=by
 refine OE Tryz.func188 fun S hS=>?_
 unfold q3P at hr
 refine J g<|J (BX' 0)<|J (gn 10)<|J (lenT 0)<|fun hl1=>bdE hr fun q1 hqq1 hr=>q0b hqq1 hl1 1 (fun k1 _=>[(0,.d m (.sl 2 (a0.map Occurrence.D))),(3,.pb 0 0),(7,dI (a0.length:Int)),(8,dI (k1:Int))]) (fun k1 _=>[]) I (fun k1 xk1 sk1 ok1 hxk1 hr hltk1 hik1=>?_) fun k1 sk1 ek1 hltk1=>?_
 refine J g ?_
 refine J (SQ' rfl rfl rfl rfl (q6d a1 xk1))<|J (gn 1)<|ifE hr ?_ ?_<;>intro h1 hr
 exact e
 exact e
 subst ek1
 exact e
def q5p (a0:(List Occurrence))(a1:Occurrence):Option Bool:=
 (q3P a0 a1).bind fun y1=>
 some (decide (0≤y1))
theorem z3J {m:Md}{a0:(List Occurrence)}{a1:Occurrence}{r:Bool}(hr:q5p a0 a1=some r):Ok Tryz.prog 200 [.d m (.sl 2 (a0.map Occurrence.D)),Occurrence.x .fz a1] [] (dB r) []:=by
 refine OE Tryz.func200 fun S hS=>?_
 unfold q5p at hr
 refine J g<|J (BX' 0)<|bdE hr fun y1 hy1 hr=>J g<|J (CB' [] [] (z0p (m:=m) hy1))<|e
def z9n (a0:Equation)(a1:Equation):Option Bool:=
 some (decide (a0.At=a1.At))
theorem k0l {m:Md}{m2:Md}{a0:Equation}{a1:Equation}{r:Bool}(hr:z9n a0 a1=some r):Ok Tryz.prog 269 [Equation.x m a0,.pb 0 0] [.box [dI a1.At.Pos,dS a1.At.Name,dI a1.Expr.Kind,dI a1.Expr.N,dI a1.Expr.Pos,dI a1.Expr.Type_,dS a1.Expr.Symbol,dS a1.Expr.Name,.d m2 (.sl 7 (a1.Expr.Args.map Expr.D))]] (dB r) [.box [dI a1.At.Pos,dS a1.At.Name,dI a1.Expr.Kind,dI a1.Expr.N,dI a1.Expr.Pos,dI a1.Expr.Type_,dS a1.Expr.Symbol,dS a1.Expr.Name,.d m2 (.sl 7 (a1.Expr.Args.map Expr.D))]]:=by
 refine OE Tryz.func269 fun S hS=>?_
 unfold z9n at hr
 refine J g<|J (BX' 1)<|J g ?_
 refine J (SQ' rfl rfl rfl rfl (q6d a0.At a1.At))<|J g<|E
def q7f (a1_0:Equation):Nat→Equation→Unit→Option (Unit ⊕ Int):=fun k1 xk1 _=>
 (z9n xk1 a1_0).bind fun y1=>
 if y1=true then (
 some (.inr (k1:Int))
 ) else (
 some (.inl ())
 )
def q4Y (a0:(List Equation))(a1_0:Equation):Option Int:=
 (findL (q7f a1_0) 0 a0 ()).bind <| onr (fun r1=>some r1) fun _=>
 some (-1)
theorem z0s {m:Md}{m2:Md}{a0:(List Equation)}{a1_0:Equation}{r:Int}(hr:q4Y a0 a1_0=some r):Ok Tryz.prog 301 [.d m (.sl 9 (a0.map Equation.D)),.fn 269 [.pb 0 0]] [.box [dI a1_0.At.Pos,dS a1_0.At.Name,dI a1_0.Expr.Kind,dI a1_0.Expr.N,dI a1_0.Expr.Pos,dI a1_0.Expr.Type_,dS a1_0.Expr.Symbol,dS a1_0.Expr.Name,.d m2 (.sl 7 (a1_0.Expr.Args.map Expr.D))]] (dI r) [.box [dI a1_0.At.Pos,dS a1_0.At.Name,dI a1_0.Expr.Kind,dI a1_0.Expr.N,dI a1_0.Expr.Pos,dI a1_0.Expr.Type_,dS a1_0.Expr.Symbol,dS a1_0.Expr.Name,.d m2 (.sl 7 (a1_0.Expr.Args.map Expr.D))]]:=by
 refine OE Tryz.func301 fun S hS=>?_
 unfold q4Y at hr
 refine J (gn 12)<|J (lenT 0)<|fun hl1=>bdE hr fun q1 hqq1 hr=>q0b hqq1 hl1 1 (fun k1 _=>[(0,.d m (.sl 9 (a0.map Equation.D))),(1,.fn 269 [.pb 0 0]),(7,dI (a0.length:Int)),(8,dI (k1:Int))]) (fun k1 _=>[]) I (fun k1 xk1 sk1 ok1 hxk1 hr hltk1 hik1=>?_) fun k1 sk1 ek1 hltk1=>?_
 refine bdE hr fun y1 hy1 hr=>J g<|J (CB' [(0,0)] [] (k0l (m:=m) (m2:=m2) hy1))<|J (gn 1)<|ifE hr ?_ ?_<;>intro h1 hr
 exact e
 exact e
 subst ek1
 exact e
def q4M (a0:(List Equation))(a1_0:Equation):Option Bool:=
 (q4Y a0 a1_0).bind fun y1=>
 some (decide (0≤y1))
theorem q9I {m:Md}{m2:Md}{a0:(List Equation)}{a1_0:Equation}{r:Bool}(hr:q4M a0 a1_0=some r):Ok Tryz.prog 267 [.d m (.sl 9 (a0.map Equation.D)),.fn 269 [.pb 0 0]] [.box [dI a1_0.At.Pos,dS a1_0.At.Name,dI a1_0.Expr.Kind,dI a1_0.Expr.N,dI a1_0.Expr.Pos,dI a1_0.Expr.Type_,dS a1_0.Expr.Symbol,dS a1_0.Expr.Name,.d m2 (.sl 7 (a1_0.Expr.Args.map Expr.D))]] (dB r) [.box [dI a1_0.At.Pos,dS a1_0.At.Name,dI a1_0.Expr.Kind,dI a1_0.Expr.N,dI a1_0.Expr.Pos,dI a1_0.Expr.Type_,dS a1_0.Expr.Symbol,dS a1_0.Expr.Name,.d m2 (.sl 7 (a1_0.Expr.Args.map Expr.D))]]:=by
 refine OE Tryz.func267 fun S hS=>?_
 unfold q4M at hr
 refine bdE hr fun y1 hy1 hr=>J g<|J (CB' [(0,0)] [] (z0s (m:=m) (m2:=m2) hy1))<|e
def j0P (a1:Rule)(y1:(List Occurrence)):Nat→Equation→Unit→Option (Unit ⊕ Bool):=fun k1 xk1 _=>
 (q5p y1 xk1.At).bind fun y2=>
 if y2=true then (
 grd (k1≤a1.Equations.length) <|
 (q4M (a1.Equations.take k1) xk1).bind fun y3=>
 if y3=true then (
 some (.inr true)
 ) else (
 some (.inl ())
 )
 ) else (
 some (.inr true)
 )
def j0Q (a0:Grammar)(a1:Rule):Option Bool:=
 (z2z a0 a1).bind fun y1=>
 (findL (j0P a1 y1) 0 a1.Equations ()).bind <| onr (fun r1=>some r1) fun _=>
 some false
theorem k4g {m:Md}{a0:Grammar}{a1:Rule}{r:Bool}(hr:j0Q a0 a1=some r):Ok Tryz.prog 225 [Grammar.y m a0,Rule.x m a1] [] (dB r) []:=by
 refine OE Tryz.func225 fun S hS=>?_
 unfold j0Q at hr
 refine J g<|J (BX' 0)<|J (BX' 1)<|bdE hr fun y1 hy1 hr=>J g<|J (CB' [(0,2)] [] (j2m (m:=m) hy1))<|J (gn 11)<|J (lenA 4 1)<|fun hl1=>bdE hr fun q1 hqq1 hr=>q0b hqq1 hl1 3 (fun k1 _=>[(3,.pb 1 0),(5,.ref 2 none),(12,.d m (.sl 9 (a1.Equations.map Equation.D))),(13,dI (a1.Equations.length:Int)),(14,dI (k1:Int))]) (fun k1 _=>[]) I (fun k1 xk1 sk1 ok1 hxk1 hr hltk1 hik1=>?_) fun k1 sk1 ek1 hltk1=>?_
 refine J g<|J (NV' 3)<|bdE hr fun y2 hy2 hr=>J g<|J (CB' [] [2] (z3J (m:=.bo) hy2))<|J (gn 1)<|ifE hr ?_ ?_<;>intro h1 hr
 refine ggE hr fun g1 hr=>J g<|J (SLH' (Int.natCast_nonneg _) g1)<|bdE hr fun y3 hy3 hr=>J g<|J (CB' [(0,3)] [] (q9I (m:=m) (m2:=m) hy3))<|J (gn 2)<|ifE hr ?_ ?_<;>intro h2 hr
 exact e
 exact e
 exact e
 subst ek1
 exact e
def z1O:Nat→Equation→((List Expr))→Option ((List Expr)):=fun k1 xk1 s1=>
 grd (((s1.length:Int)+1)*88≤140737488355328∧(s1.length:Int)+1≤9223372036854775807) <|
 some (s1++[xk1.Expr])
def z1P:Nat→Contribution→((List Expr))→Option ((List Expr)):=fun k2 xk2 s2=>
 grd (((s2.length:Int)+([xk2.Target,xk2.Value].length:Int))*88≤140737488355328∧(s2.length:Int)+([xk2.Target,xk2.Value].length:Int)≤9223372036854775807) <|
 some (s2++[xk2.Target,xk2.Value])
def q9l (a0:Rule):Option (List Expr):=
 (eachL z1O 0 a0.Equations ([]:List Expr)).bind fun s1=>
 (eachL z1P 0 a0.Contributions s1).bind fun s2=>
 some s2
theorem z8H {m:Md}{a0:Rule}{r:(List Expr)}(hr:q9l a0=some r):Ok Tryz.prog 177 [Rule.x m a0] [] (.ref 0 none) [.row m 7 (r.map Expr.D)]:=by
 refine OE Tryz.func177 fun S hS=>?_
 unfold q9l at hr
 refine J g<|J (BX' 0)<|J g<|J (L0' 1 Expr.D)<|J (gn 11)<|J (lenA 4 0)<|fun hl1=>bdE hr fun s1 hqq1 hr=>?_
 refine q0c hqq1 hl1 2 (fun k1 s1=>[(1,.pb 0 0),(3,.ref 1 none),(10,.d m (.sl 9 (a0.Equations.map Equation.D))),(11,dI (a0.Equations.length:Int)),(12,dI (k1:Int))]) (fun k1 s1=>[(1,.row m 7 (s1.map Expr.D))]) (GH.trans (q1A (r:=1) m rfl) I) (fun k1 xk1 sk1 ok1 hxk1 hr hltk1=>?_) fun k1 hltk1=>?_
 obtain⟨s1,rfl⟩:∃ y,y=sk1:=⟨_,rfl⟩
 refine J g<|J (NV' 2)<|J g ?_
 refine J (k6l 3 (m:=m) (f:=Expr.D) [xk1.Expr] (by simp only [List.map_cons,List.map_nil,Expr.D_eq]; rfl))<|ggE hr fun g1 hr=>J (AP1' 4 m 88 g1)<|J g<|E
 refine J (gn 16)<|J (lenT 23)<|fun hl2=>bdE hr fun s2 hqq2 hr=>q0c hqq2 hl2 2 (fun k2 s2=>[(3,.ref 1 none),(23,.d m (.sl 16 (a0.Contributions.map Contribution.D))),(24,dI (a0.Contributions.length:Int)),(25,dI (k2:Int))]) (fun k2 s2=>[(1,.row m 7 (s2.map Expr.D))]) I (fun k2 xk2 sk2 ok2 hxk2 hr hltk2=>?_) fun k2 hltk2=>?_
 obtain⟨s2,rfl⟩:∃ y,y=sk2:=⟨_,rfl⟩
 refine J g<|J (NV' 2)<|J g ?_
 refine J (k6l 3 (m:=m) (f:=Expr.D) [xk2.Target,xk2.Value] (by simp only [List.map_cons,List.map_nil,Expr.D_eq]; rfl))<|ggE hr fun g2 hr=>J (APB' 4 m 88 g2)<|J g<|E
 exact e
def q8d (a0:Expr)(o0:(List Occurrence)):Option (Bool × (List Occurrence)):=
 if a0.Kind=3 then (
 grd (((o0.length:Int)+1)*24≤140737488355328∧(o0.length:Int)+1≤9223372036854775807) <|
 some (true,(o0++[(⟨a0.Pos,a0.Name⟩:Occurrence)]))
 ) else (
 some (true,o0)
 )
theorem z9X {m:Md}{a0:Expr}{o0:(List Occurrence)}{r:(Bool × (List Occurrence))}(hr:q8d a0 o0=some r):Ok Tryz.prog 184 [Expr.x m a0,.pb 0 0] [.box [.ref 1 none],.row .fz 2 (o0.map Occurrence.D)] (dB r.1) [.box [.ref 2 none],.dead,.row .fz 2 (r.2.map Occurrence.D)]:=by
 refine OE Tryz.func184 fun S hS=>?_
 unfold q8d at hr
 refine J g<|J (BX' 2)<|J (gn 9)<|ifE hr ?_ ?_<;>intro h1 hr
 refine J g<|J (LIR' 3 (m:=.fz) (f:=Occurrence.D) (xs:=[(⟨a0.Pos,a0.Name⟩:Occurrence)]))<|ggE hr fun g1 hr=>J (z4z (f:=Occurrence.D) 4 (fun _=>rfl) 24 g1)<|e
 refine J (gn 7) ?_
 refine J (q0g (q2c (i:=1) (j:=3) rfl rfl))<|J g<|E
def q5z (rec_ieveryNode_iAttributeUses_1:Expr→(List Occurrence)→Option (Bool × (List Occurrence)))(a0:Expr)(o0:(List Occurrence)):Option (Bool × (List Occurrence)):=
 (rec_ieveryNode_iAttributeUses_1 a0 o0).bind fun (y1,z1)=>
 some (!y1,z1)
theorem z2k {rec_ieveryNode_iAttributeUses_1:Expr→(List Occurrence)→Option (Bool × (List Occurrence))}(ih_ieveryNode_iAttributeUses_1:∀ {m:Md} {a0:Expr} {o0:(List Occurrence)} {r:(Bool × (List Occurrence))},rec_ieveryNode_iAttributeUses_1 a0 o0=some r→Ok Tryz.prog 183 [Expr.x m a0,.fn 184 [.pb 0 0]] [.box [.ref 1 none],.row .fz 2 (o0.map Occurrence.D)] (dB r.1) [.box [.ref 2 none],.dead,.row .fz 2 (r.2.map Occurrence.D)]){m:Md}{a0:Expr}{o0:(List Occurrence)}{r:(Bool × (List Occurrence))}(hr:q5z rec_ieveryNode_iAttributeUses_1 a0 o0=some r):Ok Tryz.prog 236 [Expr.x m a0,.pb 1 0] [.box [.ref 2 none],.box [.fn 184 [.pb 0 0]],.row .fz 2 (o0.map Occurrence.D)] (dB r.1) [.box [.ref 3 none],.box [.fn 184 [.pb 0 0]],.dead,.row .fz 2 (r.2.map Occurrence.D)]:=by
 refine OE Tryz.func236 fun S hS=>?_
 unfold q5z at hr
 refine J g<|J (BX' 3)<|bdP hr fun y1 z1 hq1 hr=>J g<|J (CB' [(0,0),(1,2),(2,4)] [] (ih_ieveryNode_iAttributeUses_1 (m:=m) hq1))<|e
def q4n (rec_ieveryNode_iAttributeUses_1:Expr→(List Occurrence)→Option (Bool × (List Occurrence))):Nat→Expr→((List Occurrence))→Option (((List Occurrence)) ⊕ (Int × (List Occurrence))):=fun k1 xk1 s1=>
 (q5z rec_ieveryNode_iAttributeUses_1 xk1 s1).bind fun (y1,z1)=>
 if y1=true then (
 some (.inr ((k1:Int),z1))
 ) else (
 some (.inl z1)
 )
def q3M (rec_ieveryNode_iAttributeUses_1:Expr→(List Occurrence)→Option (Bool × (List Occurrence)))(a0:(List Expr))(o0:(List Occurrence)):Option (Int × (List Occurrence)):=
 (findL (q4n rec_ieveryNode_iAttributeUses_1) 0 a0 o0).bind <| onr (fun r1=>some r1) fun s1=>
 some ((-1),s1)
theorem q7g {rec_ieveryNode_iAttributeUses_1:Expr→(List Occurrence)→Option (Bool × (List Occurrence))}(ih_ieveryNode_iAttributeUses_1:∀ {m:Md} {a0:Expr} {o0:(List Occurrence)} {r:(Bool × (List Occurrence))},rec_ieveryNode_iAttributeUses_1 a0 o0=some r→Ok Tryz.prog 183 [Expr.x m a0,.fn 184 [.pb 0 0]] [.box [.ref 1 none],.row .fz 2 (o0.map Occurrence.D)] (dB r.1) [.box [.ref 2 none],.dead,.row .fz 2 (r.2.map Occurrence.D)]){m:Md}{a0:(List Expr)}{o0:(List Occurrence)}{r:(Int × (List Occurrence))}(hr:q3M rec_ieveryNode_iAttributeUses_1 a0 o0=some r):Ok Tryz.prog 233 [.d m (.sl 7 (a0.map Expr.D)),.fn 236 [.pb 1 0]] [.box [.ref 2 none],.box [.fn 184 [.pb 0 0]],.row .fz 2 (o0.map Occurrence.D)] (dI r.1) [.box [.ref 3 none],.box [.fn 184 [.pb 0 0]],.dead,.row .fz 2 (r.2.map Occurrence.D)]:=by
 refine OE Tryz.func233 fun S hS=>?_
 unfold q3M at hr
 refine J (gn 12) ?_
 refine J (q2j 2 3 rfl)<|J (lenT 0)<|fun hl1=>bdE hr fun q1 hqq1 hr=>q0b hqq1 hl1 4 (fun k1 s1=>[(0,.d m (.sl 7 (a0.map Expr.D))),(1,.fn 236 [.pb 1 0]),(7,dI (a0.length:Int)),(8,dI (k1:Int))]) (fun k1 s1=>[(3,.row .fz 2 (s1.map Occurrence.D))]) I (fun k1 xk1 sk1 ok1 hxk1 hr hltk1 hik1=>?_) fun k1 sk1 ek1 hltk1=>?_
 obtain⟨s1,rfl⟩:∃ y,y=sk1:=⟨_,rfl⟩
 refine bdP hr fun y1 z1 hq2 hr=>J g<|J (CB' [(0,0),(1,1),(2,3),(3,4)] [] (z2k ih_ieveryNode_iAttributeUses_1 (m:=m) hq2))<|J (gn 1)<|ifE hr ?_ ?_<;>intro h1 hr
 exact e
 exact e
 subst ek1
 obtain⟨s1,rfl⟩:∃ y,y=sk1:=⟨_,rfl⟩
 exact e
def q3I (rec_ieveryNode_iAttributeUses_1:Expr→(List Occurrence)→Option (Bool × (List Occurrence)))(a0:(List Expr))(o0:(List Occurrence)):Option (Bool × (List Occurrence)):=
 (q3M rec_ieveryNode_iAttributeUses_1 a0 o0).bind fun (y1,z1)=>
 some (decide (0≤y1),z1)
theorem q6N {rec_ieveryNode_iAttributeUses_1:Expr→(List Occurrence)→Option (Bool × (List Occurrence))}(ih_ieveryNode_iAttributeUses_1:∀ {m:Md} {a0:Expr} {o0:(List Occurrence)} {r:(Bool × (List Occurrence))},rec_ieveryNode_iAttributeUses_1 a0 o0=some r→Ok Tryz.prog 183 [Expr.x m a0,.fn 184 [.pb 0 0]] [.box [.ref 1 none],.row .fz 2 (o0.map Occurrence.D)] (dB r.1) [.box [.ref 2 none],.dead,.row .fz 2 (r.2.map Occurrence.D)]){m:Md}{a0:(List Expr)}{o0:(List Occurrence)}{r:(Bool × (List Occurrence))}(hr:q3I rec_ieveryNode_iAttributeUses_1 a0 o0=some r):Ok Tryz.prog 176 [.d m (.sl 7 (a0.map Expr.D)),.fn 236 [.pb 1 0]] [.box [.ref 2 none],.box [.fn 184 [.pb 0 0]],.row .fz 2 (o0.map Occurrence.D)] (dB r.1) [.box [.ref 3 none],.box [.fn 184 [.pb 0 0]],.dead,.row .fz 2 (r.2.map Occurrence.D)]:=by
 refine OE Tryz.func176 fun S hS=>?_
 unfold q3I at hr
 refine bdP hr fun y1 z1 hq1 hr=>J g<|J (CB' [(0,0),(1,1),(2,2),(3,3)] [] (q7g ih_ieveryNode_iAttributeUses_1 (m:=m) hq1))<|e
def q5e (rec_ieveryNode_iAttributeUses_1:Expr→(List Occurrence)→Option (Bool × (List Occurrence)))(a0:Expr)(o0:(List Occurrence)):Option (Bool × (List Occurrence)):=
 (q8d a0 o0).bind fun (y1,z1)=>
 if y1=true then (
 (q3I rec_ieveryNode_iAttributeUses_1 a0.Args z1).bind fun (y2,z2)=>
 some (!y2,z2)
 ) else (
 some (false,z1)
 )
theorem z2A {rec_ieveryNode_iAttributeUses_1:Expr→(List Occurrence)→Option (Bool × (List Occurrence))}(ih_ieveryNode_iAttributeUses_1:∀ {m:Md} {a0:Expr} {o0:(List Occurrence)} {r:(Bool × (List Occurrence))},rec_ieveryNode_iAttributeUses_1 a0 o0=some r→Ok Tryz.prog 183 [Expr.x m a0,.fn 184 [.pb 0 0]] [.box [.ref 1 none],.row .fz 2 (o0.map Occurrence.D)] (dB r.1) [.box [.ref 2 none],.dead,.row .fz 2 (r.2.map Occurrence.D)]){m:Md}{a0:Expr}{o0:(List Occurrence)}{r:(Bool × (List Occurrence))}(hr:q5e rec_ieveryNode_iAttributeUses_1 a0 o0=some r):Ok Tryz.prog 183 [Expr.x m a0,.fn 184 [.pb 0 0]] [.box [.ref 1 none],.row .fz 2 (o0.map Occurrence.D)] (dB r.1) [.box [.ref 2 none],.dead,.row .fz 2 (r.2.map Occurrence.D)]:=by
 refine OE Tryz.func183 fun S hS=>?_
 unfold q5e at hr
 refine J g<|J (BX' 2)<|J (BX' 3)<|bdP hr fun y1 z1 hq1 hr=>J g<|J (CB' [(0,0),(1,1),(2,4)] [] (z9X (m:=m) hq1))<|ifE hr ?_ ?_<;>intro h1 hr
 refine bdP hr fun y2 z2 hq2 hr=>J g<|J (CB' [(0,0),(1,3),(2,4),(3,5)] [] (q6N ih_ieveryNode_iAttributeUses_1 (m:=m) hq2))<|e
 exact e
def q4J:Nat→Expr→(List Occurrence)→Option (Bool × (List Occurrence))
  | 0,_,_=>none
  | n+1,a0,o0=>q5e (q4J n) a0 o0
def q6Y (a0:Expr)(o0:(List Occurrence)):Option (Bool × (List Occurrence)):=recO fun n=>q4J n a0 o0
theorem z2B (n:Nat):∀ {m:Md} {a0:Expr} {o0:(List Occurrence)} {r:(Bool × (List Occurrence))},q4J n a0 o0=some r→Ok Tryz.prog 183 [Expr.x m a0,.fn 184 [.pb 0 0]] [.box [.ref 1 none],.row .fz 2 (o0.map Occurrence.D)] (dB r.1) [.box [.ref 2 none],.dead,.row .fz 2 (r.2.map Occurrence.D)]:=by
  induction n with
  | zero=>intro _ _ _ r hr; exact nomatch (show (none:Option (Bool × (List Occurrence)))=some r from hr)
  | succ n ih=>intro _ _ _ r hr; exact z2A ih hr
theorem z3s {m:Md}{a0:Expr}{o0:(List Occurrence)}{r:(Bool × (List Occurrence))}(hr:q6Y a0 o0=some r):Ok Tryz.prog 183 [Expr.x m a0,.fn 184 [.pb 0 0]] [.box [.ref 1 none],.row .fz 2 (o0.map Occurrence.D)] (dB r.1) [.box [.ref 2 none],.dead,.row .fz 2 (r.2.map Occurrence.D)]:=by
 obtain⟨n,hn⟩:=q5V hr
 exact z2B n hn
def q6b (a0:(List Occurrence)):Option (List Occurrence):=
 grd (a0.length < 4611686018427387904) <|
 some (j8y a0)
theorem z3K {a0:(List Occurrence)}{r:(List Occurrence)}(hr:q6b a0=some r):Ok Tryz.prog 185 [.ref 0 none,.fn 186 []] [.row .fz 2 (a0.map Occurrence.D)] (.tu []) [.row .fz 2 (r.map Occurrence.D)]:=by
 unfold q6b at hr
 refine ggE hr fun g1 hr=>?_
 cases hr
 exact k6r g1
def q3W (s1:Int):((List Occurrence) × Int × Int)→Option (((List Occurrence) × Int × Int) ⊕ ((List Occurrence) × Int)):=fun (s4,s5,s6)=>
 if s6 < ((s4.drop s1.toNat).length:Int) then (
 (
 grd (0≤s6) <|
 (s4[(s1.toNat+s6.toNat)]?).bind fun x3=>
 grd (I64 (s6 - 1)) <|
 grd (0≤(s6 - 1)) <|
 (s4[(s1.toNat+((s6 - 1).toNat))]?).bind fun x4=>
 if x3=x4 then (
 some (s5,s4)
 ) else (
 grd (0≤s6) <|
 grd (0≤s5) <|
 (s4[s5.toNat]?).bind fun x5=>
 grd (I64 (s5+1)) <|
 some ((s5+1),(List.set s4 s5.toNat x3))
 )
 ).bind fun (s7,s8)=>
 grd (I64 (s6+1)) <|
 some (.inl (s8,s7,(s6+1)))
 ) else (
 some (.inr (s4,s5))
 )
def q3X (a0:(List Occurrence)):Int→Option (Int ⊕ (Unit ⊕ (List Occurrence))):=fun s1=>
 if s1 < (a0.length:Int) then (
 grd (0≤s1) <|
 (a0[s1.toNat]?).bind fun x1=>
 grd (I64 (s1 - 1)) <|
 grd (0≤(s1 - 1)) <|
 (a0[(s1 - 1).toNat]?).bind fun x2=>
 if x1=x2 then (
 grd (0≤s1) <|
 grd (s1.toNat≤a0.length) <|
 (q4i (q3W s1) (a0,s1,1)).bind fun (s2,s3)=>
 grd (0≤s3) <|
 grd (s3.toNat≤s2.length) <|
 grd (0≤s3) <|
 grd (s3.toNat≤(s2.take s3.toNat++List.replicate (s2.length - s3.toNat) (⟨(0:Int),(⟨#[]⟩:ByteArray)⟩:Occurrence)).length) <|
 some (.inr (.inr ((s2.take s3.toNat++List.replicate (s2.length - s3.toNat) (⟨(0:Int),(⟨#[]⟩:ByteArray)⟩:Occurrence)).take s3.toNat)))
 ) else (
 grd (I64 (s1+1)) <|
 some (.inl (s1+1))
 )
 ) else (
 some (.inr (.inl ()))
 )
def q5w (a0:(List Occurrence)):Option (List Occurrence):=
 if (a0.length:Int) < 2 then (
 some a0
 ) else (
 (q4i (q3X a0) 1).bind <| onr (fun r1=>some r1) fun ()=>
 some a0
 )
theorem z3Y {a0:(List Occurrence)}{r:(List Occurrence)}(hr:q5w a0=some r):Ok Tryz.prog 187 [.ref 0 none] [.row .fz 2 (a0.map Occurrence.D)] (.ref 1 none) [.dead,.row .fz 2 (r.map Occurrence.D)]:=by
 refine OE Tryz.func187 fun S hS=>?_
 unfold q5w at hr
 refine J (gn 11)<|ifE hr ?_ ?_<;>intro h1 hr
 refine J (gn 7) ?_
 refine J (q0g (q2c (i:=0) (j:=1) rfl rfl))<|J g<|E
 refine bdE hr fun q1 hqq1 hr=>J (gn 7)<|AW.cut 1 (fun _=>[(0,.ref 0 none)]) (fun _=>[]) (M:=fun x=>q1 = .inl x) ?_ fun x hx=>?_
 refine J g<|q0h hqq1 1 (fun s1=>[(0,.ref 0 none),(3,dI s1)]) (fun s1=>[]) I fun sk1 ok1 hr hik1=>?_
 obtain⟨s1,rfl⟩:∃ y,y=sk1:=⟨_,rfl⟩
 have hr:=hr
 refine J (gn 8)<|ifE hr ?_ ?_<;>intro h2 hr
 refine ggE hr fun g1 hr=>bdE hr fun x1 hx1 hr=>ggE hr fun g2 hr=>ggE hr fun g3 hr=>bdE hr fun x2 hx2 hr=>J g ?_
 refine J (SQ' rfl rfl rfl rfl (q6d x1 x2))<|J (gn 1)<|ifE hr ?_ ?_<;>intro h3 hr
 refine ggE hr fun g4 hr=>ggE hr fun g5 hr=>J g<|J (SVL' g4 g5)<|bdP hr fun s2 s3 hqq2 hr=>J (gn 7)<|q0d 1 [(0,.ref 0 none),(3,dI s3)] [(0,.row .fz 2 (s2.map Occurrence.D))] ?_ ?_
 refine J g ?_
 refine q0h hqq2 1 (fun (s4,s5,s6)=>[(0,.ref 0 none),(3,dI s5),(4,.vs 0 none s1.toNat (s4.length - s1.toNat)),(5,dI s6)]) (fun (s4,s5,s6)=>[(0,.row .fz 2 (s4.map Occurrence.D))]) (GH.ren hS [(0,0)] 1 ⟨.rfl,.rfl,(.vn (by first | rfl | simp only [List.length_set])),.rfl,trivial⟩) fun sk2 ok2 hr hik2=>?_
 obtain⟨s4,s5,s6⟩:=sk2
 have hr:=hr
 refine J g<|J (LV' (s4.drop s1.toNat).length)<|J (gn 2)<|ifE hr ?_ ?_<;>intro h4 hr
 refine bdP hr fun s7 s8 hqq3 hr=>J (gn 3)<|q0d 1 [(0,.ref 0 none),(3,dI s7),(4,.vs 0 none s1.toNat (s8.length - s1.toNat)),(5,dI s6)] [(0,.row .fz 2 (s8.map Occurrence.D))] ?_ ?_
 replace hr:=hqq3
 refine ggE hr fun g6 hr=>bdE hr fun x3 hx3 hr=>J g<|J (IV' hx3 g6 (j1x hx3))<|ggE hr fun g7 hr=>ggE hr fun g8 hr=>bdE hr fun x4 hx4 hr=>J g<|J (IV' hx4 g8 (j1x hx4))<|J g ?_
 refine J (SQn' rfl rfl rfl rfl (q6d x3 x4))<|J (gn 1)<|ifE hr ?_ ?_<;>intro h5 hr
 refine J (gn 2) ?_
 cases hr
 exact GH.ren hS [(0,0)] 1 ⟨.rfl,.rfl,(.vn (by first | rfl | simp only [List.length_set])),.rfl,trivial⟩
 refine ggE hr fun g9 hr=>J g<|J (IV' hx3 g9 (j1x hx3))<|ggE hr fun g10 hr=>bdE hr fun x5 hx5 hr=>J g<|J (SE' x3 hx5)<|ggE hr fun g11 hr=>J (gn 6) ?_
 cases hr
 exact GH.ren hS [(0,0)] 1 ⟨.rfl,.rfl,(.vn (by first | rfl | simp only [List.length_set])),.rfl,trivial⟩
 refine ggE hr fun g12 hr=>J (gn 5) ?_
 cases hr
 exact⟨_,rfl,GH.ren hS [(0,0)] 1 ⟨.rfl,.rfl,(.vn (by first | rfl | simp only [List.length_set])),.rfl,trivial⟩⟩
 refine J (gn 2) ?_
 cases hr
 cases hik2 _ rfl
 exact q0e hS 1
 refine ggE hr fun g13 hr=>ggE hr fun g14 hr=>J g<|J (SVL' g13 g14)<|J (CLR' (⟨(0:Int),(⟨#[]⟩:ByteArray)⟩:Occurrence) g14)<|ggE hr fun g15 hr=>ggE hr fun g16 hr=>J g<|J (CU' 1 g15 g16)<|e
 refine ggE hr fun g17 hr=>e
 refine J (gn 2) ?_
 cases hr
 cases hik1 _ rfl
 exact⟨_,rfl,q0e hS 1⟩
 subst hx
 refine J (gn 6) ?_
 refine J (q0g (q2c (i:=0) (j:=1) rfl rfl))<|J g<|E
def q7X (a0:Expr):Option (List Occurrence):=
 (q6Y a0 []).bind fun (y1,z1)=>
 (q6b z1).bind fun z2=>
 (q5w z2).bind fun y2=>
 some y2
theorem z6v {m:Md}{a0:Expr}{r:(List Occurrence)}(hr:q7X a0=some r):Ok Tryz.prog 126 [Expr.x m a0] [] (.ref 0 none) [.row .fz 2 (r.map Occurrence.D)]:=by
 refine OE Tryz.func126 fun S hS=>?_
 unfold q7X at hr
 refine J g<|J (BX' 0)<|J g<|J (L0' 1 Occurrence.D)<|J (NV' 2)<|bdP hr fun y1 z1 hq1 hr=>J g<|J (CB' [(0,2),(1,1),(2,3)] [] (z3s (m:=m) hq1))<|bdE hr fun z2 hz2 hr=>J g<|J (CB' [(0,3)] [] (z3K hz2))<|bdE hr fun y2 hy2 hr=>J g<|J (CB' [(0,3),(1,4)] [] (z3Y hy2))<|e
def z2C (a1:ByteArray):Nat→Attribute→Unit→Option (Unit ⊕ (Attribute × Bool)):=fun k1 xk1 _=>
 if xk1.Name=a1 then (
 some (.inr (xk1,true))
 ) else (
 some (.inl ())
 )
def q6Z (a0:Symbol)(a1:ByteArray):Option (Attribute × Bool):=
 (findL (z2C a1) 0 a0.Attributes ()).bind <| onr (fun r1=>some r1) fun _=>
 some ((⟨(⟨#[]⟩:ByteArray),0,0,false⟩:Attribute),false)
theorem z2D {m:Md}{a0:Symbol}{a1:ByteArray}{r:(Attribute × Bool)}(hr:q6Z a0 a1=some r):Ok Tryz.prog 229 [Symbol.x m a0,dS a1] [] (.tu [Attribute.x .fz r.1,dB r.2]) []:=by
 refine OE Tryz.func229 fun S hS=>?_
 unfold q6Z at hr
 refine J g<|J (BX' 0)<|J (NV' 1)<|J (gn 11)<|J (lenA 1 0)<|fun hl1=>bdE hr fun q1 hqq1 hr=>q0b hqq1 hl1 2 (fun k1 _=>[(1,dS a1),(4,.pb 1 0),(9,.d m (.sl 4 (a0.Attributes.map Attribute.D))),(10,dI (a0.Attributes.length:Int)),(11,dI (k1:Int))]) (fun k1 _=>[]) I (fun k1 xk1 sk1 ok1 hxk1 hr hltk1 hik1=>?_) fun k1 sk1 ek1 hltk1=>?_
 refine J g<|J (NV' 2)<|J (gn 9)<|ifE hr ?_ ?_<;>intro h1 hr
 exact e
 exact e
 subst ek1
 exact e
end Go.Proofs.YtcegfmageiicaaaGreat
