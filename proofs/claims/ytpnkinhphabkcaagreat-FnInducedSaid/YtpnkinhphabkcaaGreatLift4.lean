/- What some functions of the program compute, as partial functions on plain data, and that they do; each lemma bears its conditions in its statement. -/
import Derived.Test.YtpnkinhphabkcaaGreatLift3
set_option linter.unusedVariables false
set_option linter.unusedSimpArgs false
set_option linter.ambiguousOpen false
set_option linter.unusedSectionVars false
set_option linter.unnecessarySimpa false
set_option maxRecDepth 100000
set_option maxHeartbeats 40000000
noncomputable section
namespace Go.Proofs.YtpnkinhphabkcaaGreat
open Go Go.E Go.A
def z1b (a0:Expr):Option Bool:=
 if a0.Kind=1 then (
 (
 if a0.Type_=4 then (
 some true
 ) else (
 (z3E a0.N a0.Type_).bind fun y1=>
 some (!y1)
 )
 ).bind fun s1=>
 (
 if s1=true then (
 some true
 ) else (
 some (decide (a0.N < 0))
 )
 ).bind fun s2=>
 if s2=true then (
 some false
 ) else (
 (
 if (a0.Args.length:Int)=0 then (
 (q4d a0.Pos 0 3).bind fun y2=>
 some y2
 ) else (
 some false
 )
 ).bind fun s3=>
 (
 if s3=true then (
 (q7d a0 (⟨a0.Kind,a0.N,0,a0.Type_,(⟨#[]⟩:ByteArray),(⟨#[]⟩:ByteArray),a0.Args⟩:Expr)).bind fun y3=>
 some y3
 ) else (
 some false
 )
 ).bind fun s4=>
 some s4
 )
 ) else (
 if a0.Kind=3 then (
 (q4E a0.Name).bind fun y4=>
 if y4=true then (
 (
 if (a0.Args.length:Int)=0 then (
 (q4d a0.Pos 0 3).bind fun y5=>
 some y5
 ) else (
 some false
 )
 ).bind fun s5=>
 (
 if s5=true then (
 (q7d a0 (⟨a0.Kind,0,a0.Pos,0,(⟨#[]⟩:ByteArray),a0.Name,a0.Args⟩:Expr)).bind fun y6=>
 some y6
 ) else (
 some false
 )
 ).bind fun s6=>
 some s6
 ) else (
 some false
 )
 ) else (
 if a0.Kind=4 then (
 (q4d a0.N 1 12).bind fun y7=>
 if y7=true then (
 (
 if (a0.Args.length:Int)=2 then (
 (q4d a0.Pos 0 3).bind fun y8=>
 some y8
 ) else (
 some false
 )
 ).bind fun s7=>
 (
 if s7=true then (
 (q7d a0 (⟨a0.Kind,a0.N,0,0,(⟨#[]⟩:ByteArray),(⟨#[]⟩:ByteArray),a0.Args⟩:Expr)).bind fun y9=>
 some y9
 ) else (
 some false
 )
 ).bind fun s8=>
 some s8
 ) else (
 some false
 )
 ) else (
 if a0.Kind=5 then (
 (
 if (a0.Args.length:Int)=3 then (
 (q4d a0.Pos 0 3).bind fun y10=>
 some y10
 ) else (
 some false
 )
 ).bind fun s9=>
 (
 if s9=true then (
 (q7d a0 (⟨a0.Kind,0,0,0,(⟨#[]⟩:ByteArray),(⟨#[]⟩:ByteArray),a0.Args⟩:Expr)).bind fun y11=>
 some y11
 ) else (
 some false
 )
 ).bind fun s10=>
 some s10
 ) else (
 if a0.Kind=6 then (
 (
 if (a0.Args.length:Int)=0 then (
 (q4d a0.Pos 0 3).bind fun y12=>
 some y12
 ) else (
 some false
 )
 ).bind fun s11=>
 (
 if s11=true then (
 (q7d a0 (⟨a0.Kind,0,a0.Pos,0,(⟨#[]⟩:ByteArray),(⟨#[]⟩:ByteArray),a0.Args⟩:Expr)).bind fun y13=>
 some y13
 ) else (
 some false
 )
 ).bind fun s12=>
 some s12
 ) else (
 if a0.Kind=8 then (
 (q4E a0.Symbol).bind fun y14=>
 (
 if y14=true then (
 (q4E a0.Name).bind fun y15=>
 some (!y15)
 ) else (
 some true
 )
 ).bind fun s13=>
 if s13=true then (
 some false
 ) else (
 (
 if (a0.Args.length:Int)=1 then (
 (q4d a0.Pos 0 3).bind fun y16=>
 some y16
 ) else (
 some false
 )
 ).bind fun s14=>
 (
 if s14=true then (
 (q7d a0 (⟨a0.Kind,0,0,0,a0.Symbol,a0.Name,a0.Args⟩:Expr)).bind fun y17=>
 some y17
 ) else (
 some false
 )
 ).bind fun s15=>
 some s15
 )
 ) else (
 if a0.Kind=2 then (
 if a0.Kind=2 then (
 (
 if (a0.Args.length:Int)=0 then (
 (q4d a0.Pos 0 3).bind fun y18=>
 some y18
 ) else (
 some false
 )
 ).bind fun s16=>
 (
 if s16=true then (
 (q7d a0 (⟨a0.Kind,0,0,0,(⟨#[]⟩:ByteArray),(⟨#[]⟩:ByteArray),a0.Args⟩:Expr)).bind fun y19=>
 some y19
 ) else (
 some false
 )
 ).bind fun s17=>
 some s17
 ) else (
 some false
 )
 ) else (
 if a0.Kind=7 then (
 (
 if (a0.Args.length:Int)=0 then (
 (q4d a0.Pos 0 3).bind fun y20=>
 some y20
 ) else (
 some false
 )
 ).bind fun s18=>
 (
 if s18=true then (
 (q7d a0 (⟨a0.Kind,0,0,0,(⟨#[]⟩:ByteArray),(⟨#[]⟩:ByteArray),a0.Args⟩:Expr)).bind fun y21=>
 some y21
 ) else (
 some false
 )
 ).bind fun s19=>
 some s19
 ) else (
 some false
 )
 )
 )
 )
 )
 )
 )
 )
theorem j2C {m:Md}{a0:Expr}{r:Bool}(hr:z1b a0=some r):Ok Tryz.prog 245 [Expr.x m a0] [] (dB r) []:=by
 refine OE Tryz.func245 fun S hS=>?_
 unfold z1b at hr
 refine J g<|J (BX' 0)<|J g<|J (NV' 1)<|J (gn 18)<|ifE hr ?_ ?_<;>intro h1 hr
 refine bdE hr fun s1 hqq1 hr=>J (gn 17)<|q0a 8 [(1,.pb 0 0),(3,.pb 1 0),(4,dI 0),(30,dB s1)] ?_ ?_
 replace hr:=hqq1
 refine ifE hr ?_ ?_<;>intro h2 hr
 exact e
 refine bdE hr fun y1 hy1 hr=>J g<|J (CB' [] [] (j5Q hy1))<|e
 refine bdE hr fun s2 hqq2 hr=>q0a 5 [(1,.pb 0 0),(3,.pb 1 0),(4,dI 0),(35,dB s2)] ?_ ?_
 replace hr:=hqq2
 refine ifE hr ?_ ?_<;>intro h3 hr
 exact e
 exact e
 refine J (gn 1)<|ifE hr ?_ ?_<;>intro h4 hr
 exact e
 refine bdE hr fun s3 hqq3 hr=>J (gn 9)<|q0a 5 [(1,.pb 0 0),(3,.pb 1 0),(94,dB s3)] ?_ ?_
 replace hr:=hqq3
 refine ifE hr ?_ ?_<;>intro h5 hr
 refine bdE hr fun y2 hy2 hr=>J g<|J (CB' [] [] (q4C hy2))<|e
 exact e
 refine bdE hr fun s4 hqq4 hr=>q0a 5 [(99,dB s4)] ?_ ?_
 replace hr:=hqq4
 refine ifE hr ?_ ?_<;>intro h6 hr
 refine bdE hr fun y3 hy3 hr=>J g<|J (CB' [] [] (q8I (m:=m) hy3))<|e
 exact e
 exact e
 refine J (gn 6)<|ifE hr ?_ ?_<;>intro h7 hr
 refine bdE hr fun y4 hy4 hr=>J g<|J (CB' [] [] (q5E hy4))<|J (gn 2)<|ifE hr ?_ ?_<;>intro h8 hr
 refine bdE hr fun s5 hqq5 hr=>J (gn 9)<|q0a 5 [(1,.pb 0 0),(2,dB false),(3,.pb 1 0),(94,dB s5)] ?_ ?_
 replace hr:=hqq5
 refine ifE hr ?_ ?_<;>intro h9 hr
 refine bdE hr fun y5 hy5 hr=>J g<|J (CB' [] [] (q4C hy5))<|e
 exact e
 refine bdE hr fun s6 hqq6 hr=>q0a 5 [(2,dB false),(99,dB s6)] ?_ ?_
 replace hr:=hqq6
 refine ifE hr ?_ ?_<;>intro h10 hr
 refine bdE hr fun y6 hy6 hr=>J g<|J (CB' [] [] (q8I (m:=m) hy6))<|e
 exact e
 exact e
 exact e
 refine J (gn 6)<|ifE hr ?_ ?_<;>intro h11 hr
 refine bdE hr fun y7 hy7 hr=>J g<|J (CB' [] [] (q4C hy7))<|J (gn 2)<|ifE hr ?_ ?_<;>intro h12 hr
 refine bdE hr fun s7 hqq7 hr=>J (gn 9)<|q0a 5 [(1,.pb 0 0),(2,dB false),(3,.pb 1 0),(94,dB s7)] ?_ ?_
 replace hr:=hqq7
 refine ifE hr ?_ ?_<;>intro h13 hr
 refine bdE hr fun y8 hy8 hr=>J g<|J (CB' [] [] (q4C hy8))<|e
 exact e
 refine bdE hr fun s8 hqq8 hr=>q0a 5 [(2,dB false),(99,dB s8)] ?_ ?_
 replace hr:=hqq8
 refine ifE hr ?_ ?_<;>intro h14 hr
 refine bdE hr fun y9 hy9 hr=>J g<|J (CB' [] [] (q8I (m:=m) hy9))<|e
 exact e
 exact e
 exact e
 refine J (gn 6)<|ifE hr ?_ ?_<;>intro h15 hr
 refine bdE hr fun s9 hqq9 hr=>J (gn 11)<|q0a 5 [(1,.pb 0 0),(2,dB false),(3,.pb 1 0),(94,dB s9)] ?_ ?_
 replace hr:=hqq9
 refine ifE hr ?_ ?_<;>intro h16 hr
 refine bdE hr fun y10 hy10 hr=>J g<|J (CB' [] [] (q4C hy10))<|e
 exact e
 refine bdE hr fun s10 hqq10 hr=>q0a 5 [(2,dB false),(99,dB s10)] ?_ ?_
 replace hr:=hqq10
 refine ifE hr ?_ ?_<;>intro h17 hr
 refine bdE hr fun y11 hy11 hr=>J g<|J (CB' [] [] (q8I (m:=m) hy11))<|e
 exact e
 exact e
 refine J (gn 6)<|ifE hr ?_ ?_<;>intro h18 hr
 refine bdE hr fun s11 hqq11 hr=>J (gn 14)<|q0a 5 [(1,.pb 0 0),(2,dB false),(3,.pb 1 0),(94,dB s11)] ?_ ?_
 replace hr:=hqq11
 refine ifE hr ?_ ?_<;>intro h19 hr
 refine bdE hr fun y12 hy12 hr=>J g<|J (CB' [] [] (q4C hy12))<|e
 exact e
 refine bdE hr fun s12 hqq12 hr=>q0a 5 [(2,dB false),(99,dB s12)] ?_ ?_
 replace hr:=hqq12
 refine ifE hr ?_ ?_<;>intro h20 hr
 refine bdE hr fun y13 hy13 hr=>J g<|J (CB' [] [] (q8I (m:=m) hy13))<|e
 exact e
 exact e
 refine J (gn 6)<|ifE hr ?_ ?_<;>intro h21 hr
 refine bdE hr fun y14 hy14 hr=>J g<|J (CB' [] [] (q5E hy14))<|bdE hr fun s13 hqq13 hr=>J (gn 1)<|q0a 6 [(1,.pb 0 0),(3,.pb 1 0),(4,dI 1),(81,dB s13)] ?_ ?_
 replace hr:=hqq13
 refine ifE hr ?_ ?_<;>intro h22 hr
 refine bdE hr fun y15 hy15 hr=>J g<|J (CB' [] [] (q5E hy15))<|e
 exact e
 refine J (gn 1)<|ifE hr ?_ ?_<;>intro h23 hr
 exact e
 refine bdE hr fun s14 hqq14 hr=>J (gn 9)<|q0a 5 [(1,.pb 0 0),(3,.pb 1 0),(94,dB s14)] ?_ ?_
 replace hr:=hqq14
 refine ifE hr ?_ ?_<;>intro h24 hr
 refine bdE hr fun y16 hy16 hr=>J g<|J (CB' [] [] (q4C hy16))<|e
 exact e
 refine bdE hr fun s15 hqq15 hr=>q0a 5 [(99,dB s15)] ?_ ?_
 replace hr:=hqq15
 refine ifE hr ?_ ?_<;>intro h25 hr
 refine bdE hr fun y17 hy17 hr=>J g<|J (CB' [] [] (q8I (m:=m) hy17))<|e
 exact e
 exact e
 refine J (gn 7)<|ifE hr ?_ ?_<;>intro h26 hr
 refine J (gn 2)<|ifE hr ?_ ?_<;>intro h27 hr
 refine bdE hr fun s16 hqq16 hr=>J (gn 9)<|q0a 5 [(1,.pb 0 0),(2,dB false),(3,.pb 1 0),(94,dB s16)] ?_ ?_
 replace hr:=hqq16
 refine ifE hr ?_ ?_<;>intro h28 hr
 refine bdE hr fun y18 hy18 hr=>J g<|J (CB' [] [] (q4C hy18))<|e
 exact e
 refine bdE hr fun s17 hqq17 hr=>q0a 5 [(2,dB false),(99,dB s17)] ?_ ?_
 replace hr:=hqq17
 refine ifE hr ?_ ?_<;>intro h29 hr
 refine bdE hr fun y19 hy19 hr=>J g<|J (CB' [] [] (q8I (m:=m) hy19))<|e
 exact e
 exact e
 exact e
 refine J (gn 5)<|ifE hr ?_ ?_<;>intro h30 hr
 refine bdE hr fun s18 hqq18 hr=>J (gn 9)<|q0a 5 [(1,.pb 0 0),(2,dB false),(3,.pb 1 0),(94,dB s18)] ?_ ?_
 replace hr:=hqq18
 refine ifE hr ?_ ?_<;>intro h31 hr
 refine bdE hr fun y20 hy20 hr=>J g<|J (CB' [] [] (q4C hy20))<|e
 exact e
 refine bdE hr fun s19 hqq19 hr=>q0a 5 [(2,dB false),(99,dB s19)] ?_ ?_
 replace hr:=hqq19
 refine ifE hr ?_ ?_<;>intro h32 hr
 refine bdE hr fun y21 hy21 hr=>J g<|J (CB' [] [] (q8I (m:=m) hy21))<|e
 exact e
 exact e
 exact e
def q6C (rec_ieveryNode_iexprNodeOk:Expr→Option Bool)(a0:Expr):Option Bool:=
 (rec_ieveryNode_iexprNodeOk a0).bind fun y1=>
 some (!y1)
theorem z3F {rec_ieveryNode_iexprNodeOk:Expr→Option Bool}(ih_ieveryNode_iexprNodeOk:∀ {m:Md} {a0:Expr} {r:Bool},rec_ieveryNode_iexprNodeOk a0=some r→Ok Tryz.prog 101 [Expr.x m a0,.fn 245 []] [] (dB r) []){m:Md}{a0:Expr}{r:Bool}(hr:q6C rec_ieveryNode_iexprNodeOk a0=some r):Ok Tryz.prog 137 [Expr.x m a0,.pb 0 0] [.box [.fn 245 []]] (dB r) [.box [.fn 245 []]]:=by
 refine OE Tryz.func137 fun S hS=>?_
 unfold q6C at hr
 refine J g<|J (BX' 1)<|bdE hr fun y1 hy1 hr=>J g<|J (CB' [] [] (ih_ieveryNode_iexprNodeOk (m:=m) hy1))<|e
def q5L (rec_ieveryNode_iexprNodeOk:Expr→Option Bool):Nat→Expr→Unit→Option (Unit ⊕ Int):=fun k1 xk1 _=>
 (q6C rec_ieveryNode_iexprNodeOk xk1).bind fun y1=>
 if y1=true then (
 some (.inr (k1:Int))
 ) else (
 some (.inl ())
 )
def q4a (rec_ieveryNode_iexprNodeOk:Expr→Option Bool)(a0:(List Expr)):Option Int:=
 (findL (q5L rec_ieveryNode_iexprNodeOk) 0 a0 ()).bind <| onr (fun r1=>some r1) fun _=>
 some (-1)
theorem q7V {rec_ieveryNode_iexprNodeOk:Expr→Option Bool}(ih_ieveryNode_iexprNodeOk:∀ {m:Md} {a0:Expr} {r:Bool},rec_ieveryNode_iexprNodeOk a0=some r→Ok Tryz.prog 101 [Expr.x m a0,.fn 245 []] [] (dB r) []){m:Md}{a0:(List Expr)}{r:Int}(hr:q4a rec_ieveryNode_iexprNodeOk a0=some r):Ok Tryz.prog 134 [.d m (.sl 7 (a0.map Expr.D)),.fn 137 [.pb 0 0]] [.box [.fn 245 []]] (dI r) [.box [.fn 245 []]]:=by
 refine OE Tryz.func134 fun S hS=>?_
 unfold q4a at hr
 refine J (gn 12)<|J (lenT 0)<|fun hl1=>bdE hr fun q1 hqq1 hr=>q0b hqq1 hl1 1 (fun k1 _=>[(0,.d m (.sl 7 (a0.map Expr.D))),(1,.fn 137 [.pb 0 0]),(7,dI (a0.length:Int)),(8,dI (k1:Int))]) (fun k1 _=>[]) I (fun k1 xk1 sk1 ok1 hxk1 hr hltk1 hik1=>?_) fun k1 sk1 ek1 hltk1=>?_
 refine bdE hr fun y1 hy1 hr=>J g<|J (CB' [(0,0)] [] (z3F ih_ieveryNode_iexprNodeOk (m:=m) hy1))<|J (gn 1)<|ifE hr ?_ ?_<;>intro h1 hr
 exact e
 exact e
 subst ek1
 exact e
def q3U (rec_ieveryNode_iexprNodeOk:Expr→Option Bool)(a0:(List Expr)):Option Bool:=
 (q4a rec_ieveryNode_iexprNodeOk a0).bind fun y1=>
 some (decide (0≤y1))
theorem q7A {rec_ieveryNode_iexprNodeOk:Expr→Option Bool}(ih_ieveryNode_iexprNodeOk:∀ {m:Md} {a0:Expr} {r:Bool},rec_ieveryNode_iexprNodeOk a0=some r→Ok Tryz.prog 101 [Expr.x m a0,.fn 245 []] [] (dB r) []){m:Md}{a0:(List Expr)}{r:Bool}(hr:q3U rec_ieveryNode_iexprNodeOk a0=some r):Ok Tryz.prog 94 [.d m (.sl 7 (a0.map Expr.D)),.fn 137 [.pb 0 0]] [.box [.fn 245 []]] (dB r) [.box [.fn 245 []]]:=by
 refine OE Tryz.func94 fun S hS=>?_
 unfold q3U at hr
 refine bdE hr fun y1 hy1 hr=>J g<|J (CB' [(0,0)] [] (q7V ih_ieveryNode_iexprNodeOk (m:=m) hy1))<|e
def q6i (rec_ieveryNode_iexprNodeOk:Expr→Option Bool)(a0:Expr):Option Bool:=
 (z1b a0).bind fun y1=>
 if y1=true then (
 (q3U rec_ieveryNode_iexprNodeOk a0.Args).bind fun y2=>
 some (!y2)
 ) else (
 some false
 )
theorem z4b {rec_ieveryNode_iexprNodeOk:Expr→Option Bool}(ih_ieveryNode_iexprNodeOk:∀ {m:Md} {a0:Expr} {r:Bool},rec_ieveryNode_iexprNodeOk a0=some r→Ok Tryz.prog 101 [Expr.x m a0,.fn 245 []] [] (dB r) []){m:Md}{a0:Expr}{r:Bool}(hr:q6i rec_ieveryNode_iexprNodeOk a0=some r):Ok Tryz.prog 101 [Expr.x m a0,.fn 245 []] [] (dB r) []:=by
 refine OE Tryz.func101 fun S hS=>?_
 unfold q6i at hr
 refine J g<|J (BX' 0)<|J (BX' 1)<|bdE hr fun y1 hy1 hr=>J g<|J (CB' [] [] (j2C (m:=m) hy1))<|ifE hr ?_ ?_<;>intro h1 hr
 refine bdE hr fun y2 hy2 hr=>J g<|J (CB' [(0,1)] [] (q7A ih_ieveryNode_iexprNodeOk (m:=m) hy2))<|e
 exact e
def q6j:Nat→Expr→Option Bool
  | 0,_=>none
  | n+1,a0=>q6i (q6j n) a0
def q8u (a0:Expr):Option Bool:=recO fun n=>q6j n a0
theorem z4c (n:Nat):∀ {m:Md} {a0:Expr} {r:Bool},q6j n a0=some r→Ok Tryz.prog 101 [Expr.x m a0,.fn 245 []] [] (dB r) []:=by
  induction n with
  | zero=>intro _ _ r hr; exact nomatch (show (none:Option Bool)=some r from hr)
  | succ n ih=>intro _ _ r hr; exact z4b ih hr
theorem z4w {m:Md}{a0:Expr}{r:Bool}(hr:q8u a0=some r):Ok Tryz.prog 101 [Expr.x m a0,.fn 245 []] [] (dB r) []:=by
 obtain⟨n,hn⟩:=q6D hr
 exact z4c n hn
def z0l (a0:Expr):Option Bool:=
 (z6y a0).bind fun y1=>
 (
 if y1≤24 then (
 (z4v a0).bind fun y2=>
 some (decide (y2≤6))
 ) else (
 some false
 )
 ).bind fun s1=>
 (
 if s1=true then (
 (q8u a0).bind fun y3=>
 some y3
 ) else (
 some false
 )
 ).bind fun s2=>
 some s2
theorem j1u {m:Md}{a0:Expr}{r:Bool}(hr:z0l a0=some r):Ok Tryz.prog 238 [Expr.x m a0] [] (dB r) []:=by
 refine OE Tryz.func238 fun S hS=>?_
 unfold z0l at hr
 refine J g<|J (BX' 0)<|bdE hr fun y1 hy1 hr=>J g<|J (CB' [] [] (j4d (m:=m) hy1))<|bdE hr fun s1 hqq1 hr=>J (gn 1)<|q0a 5 [(1,.pb 0 0),(2,dB false),(10,dB s1)] ?_ ?_
 replace hr:=hqq1
 refine ifE hr ?_ ?_<;>intro h1 hr
 refine bdE hr fun y2 hy2 hr=>J g<|J (CB' [] [] (j1s (m:=m) hy2))<|e
 exact e
 refine bdE hr fun s2 hqq2 hr=>q0a 4 [(2,dB false),(14,dB s2)] ?_ ?_
 replace hr:=hqq2
 refine ifE hr ?_ ?_<;>intro h2 hr
 refine bdE hr fun y3 hy3 hr=>J g<|J (CB' [] [] (z4w (m:=m) hy3))<|e
 exact e
 exact e
def z8v (a0:Expr)(a1:Int):Option Bool:=
 some (decide (a0.Pos≤a1))
theorem j9J {m:Md}{a0:Expr}{a1:Int}{r:Bool}(hr:z8v a0 a1=some r):Ok Tryz.prog 239 [Expr.x m a0,.pb 0 0] [.box [dI a1]] (dB r) [.box [dI a1]]:=by
 refine OE Tryz.func239 fun S hS=>?_
 unfold z8v at hr
 refine J g<|J (BX' 1)<|e
def q7R (rec_ieveryNode_ifits_1:Expr→Int→Option Bool)(a0:Expr)(a1_0:Int):Option Bool:=
 (rec_ieveryNode_ifits_1 a0 a1_0).bind fun y1=>
 some (!y1)
theorem z5B {rec_ieveryNode_ifits_1:Expr→Int→Option Bool}(ih_ieveryNode_ifits_1:∀ {m:Md} {a0:Expr} {a1_0:Int} {r:Bool},rec_ieveryNode_ifits_1 a0 a1_0=some r→Ok Tryz.prog 101 [Expr.x m a0,.fn 239 [.pb 0 0]] [.box [dI a1_0]] (dB r) [.box [dI a1_0]]){m:Md}{a0:Expr}{a1_0:Int}{r:Bool}(hr:q7R rec_ieveryNode_ifits_1 a0 a1_0=some r):Ok Tryz.prog 137 [Expr.x m a0,.pb 1 0] [.box [dI a1_0],.box [.fn 239 [.pb 0 0]]] (dB r) [.box [dI a1_0],.box [.fn 239 [.pb 0 0]]]:=by
 refine OE Tryz.func137 fun S hS=>?_
 unfold q7R at hr
 refine J g<|J (BX' 2)<|bdE hr fun y1 hy1 hr=>J g<|J (CB' [(0,0)] [] (ih_ieveryNode_ifits_1 (m:=m) hy1))<|e
def q6k (rec_ieveryNode_ifits_1:Expr→Int→Option Bool)(a1_0_0:Int):Nat→Expr→Unit→Option (Unit ⊕ Int):=fun k1 xk1 _=>
 (q7R rec_ieveryNode_ifits_1 xk1 a1_0_0).bind fun y1=>
 if y1=true then (
 some (.inr (k1:Int))
 ) else (
 some (.inl ())
 )
def q4n (rec_ieveryNode_ifits_1:Expr→Int→Option Bool)(a0:(List Expr))(a1_0_0:Int):Option Int:=
 (findL (q6k rec_ieveryNode_ifits_1 a1_0_0) 0 a0 ()).bind <| onr (fun r1=>some r1) fun _=>
 some (-1)
theorem q8v {rec_ieveryNode_ifits_1:Expr→Int→Option Bool}(ih_ieveryNode_ifits_1:∀ {m:Md} {a0:Expr} {a1_0:Int} {r:Bool},rec_ieveryNode_ifits_1 a0 a1_0=some r→Ok Tryz.prog 101 [Expr.x m a0,.fn 239 [.pb 0 0]] [.box [dI a1_0]] (dB r) [.box [dI a1_0]]){m:Md}{a0:(List Expr)}{a1_0_0:Int}{r:Int}(hr:q4n rec_ieveryNode_ifits_1 a0 a1_0_0=some r):Ok Tryz.prog 134 [.d m (.sl 7 (a0.map Expr.D)),.fn 137 [.pb 1 0]] [.box [dI a1_0_0],.box [.fn 239 [.pb 0 0]]] (dI r) [.box [dI a1_0_0],.box [.fn 239 [.pb 0 0]]]:=by
 refine OE Tryz.func134 fun S hS=>?_
 unfold q4n at hr
 refine J (gn 12)<|J (lenT 0)<|fun hl1=>bdE hr fun q1 hqq1 hr=>q0b hqq1 hl1 2 (fun k1 _=>[(0,.d m (.sl 7 (a0.map Expr.D))),(1,.fn 137 [.pb 1 0]),(7,dI (a0.length:Int)),(8,dI (k1:Int))]) (fun k1 _=>[]) I (fun k1 xk1 sk1 ok1 hxk1 hr hltk1 hik1=>?_) fun k1 sk1 ek1 hltk1=>?_
 refine bdE hr fun y1 hy1 hr=>J g<|J (CB' [(0,0),(1,1)] [] (z5B ih_ieveryNode_ifits_1 (m:=m) hy1))<|J (gn 1)<|ifE hr ?_ ?_<;>intro h1 hr
 exact e
 exact e
 subst ek1
 exact e
def q4e (rec_ieveryNode_ifits_1:Expr→Int→Option Bool)(a0:(List Expr))(a1_0_0:Int):Option Bool:=
 (q4n rec_ieveryNode_ifits_1 a0 a1_0_0).bind fun y1=>
 some (decide (0≤y1))
theorem q8c {rec_ieveryNode_ifits_1:Expr→Int→Option Bool}(ih_ieveryNode_ifits_1:∀ {m:Md} {a0:Expr} {a1_0:Int} {r:Bool},rec_ieveryNode_ifits_1 a0 a1_0=some r→Ok Tryz.prog 101 [Expr.x m a0,.fn 239 [.pb 0 0]] [.box [dI a1_0]] (dB r) [.box [dI a1_0]]){m:Md}{a0:(List Expr)}{a1_0_0:Int}{r:Bool}(hr:q4e rec_ieveryNode_ifits_1 a0 a1_0_0=some r):Ok Tryz.prog 94 [.d m (.sl 7 (a0.map Expr.D)),.fn 137 [.pb 1 0]] [.box [dI a1_0_0],.box [.fn 239 [.pb 0 0]]] (dB r) [.box [dI a1_0_0],.box [.fn 239 [.pb 0 0]]]:=by
 refine OE Tryz.func94 fun S hS=>?_
 unfold q4e at hr
 refine bdE hr fun y1 hy1 hr=>J g<|J (CB' [(0,0),(1,1)] [] (q8v ih_ieveryNode_ifits_1 (m:=m) hy1))<|e
def q7m (rec_ieveryNode_ifits_1:Expr→Int→Option Bool)(a0:Expr)(a1_0:Int):Option Bool:=
 (z8v a0 a1_0).bind fun y1=>
 if y1=true then (
 (q4e rec_ieveryNode_ifits_1 a0.Args a1_0).bind fun y2=>
 some (!y2)
 ) else (
 some false
 )
theorem z6f {rec_ieveryNode_ifits_1:Expr→Int→Option Bool}(ih_ieveryNode_ifits_1:∀ {m:Md} {a0:Expr} {a1_0:Int} {r:Bool},rec_ieveryNode_ifits_1 a0 a1_0=some r→Ok Tryz.prog 101 [Expr.x m a0,.fn 239 [.pb 0 0]] [.box [dI a1_0]] (dB r) [.box [dI a1_0]]){m:Md}{a0:Expr}{a1_0:Int}{r:Bool}(hr:q7m rec_ieveryNode_ifits_1 a0 a1_0=some r):Ok Tryz.prog 101 [Expr.x m a0,.fn 239 [.pb 0 0]] [.box [dI a1_0]] (dB r) [.box [dI a1_0]]:=by
 refine OE Tryz.func101 fun S hS=>?_
 unfold q7m at hr
 refine J g<|J (BX' 1)<|J (BX' 2)<|bdE hr fun y1 hy1 hr=>J g<|J (CB' [(0,0)] [] (j9J (m:=m) hy1))<|ifE hr ?_ ?_<;>intro h1 hr
 refine bdE hr fun y2 hy2 hr=>J g<|J (CB' [(0,0),(1,2)] [] (q8c ih_ieveryNode_ifits_1 (m:=m) hy2))<|e
 exact e
def q7n:Nat→Expr→Int→Option Bool
  | 0,_,_=>none
  | n+1,a0,a1_0=>q7m (q7n n) a0 a1_0
def z0a (a0:Expr)(a1_0:Int):Option Bool:=recO fun n=>q7n n a0 a1_0
theorem z6g (n:Nat):∀ {m:Md} {a0:Expr} {a1_0:Int} {r:Bool},q7n n a0 a1_0=some r→Ok Tryz.prog 101 [Expr.x m a0,.fn 239 [.pb 0 0]] [.box [dI a1_0]] (dB r) [.box [dI a1_0]]:=by
  induction n with
  | zero=>intro _ _ _ r hr; exact nomatch (show (none:Option Bool)=some r from hr)
  | succ n ih=>intro _ _ _ r hr; exact z6f ih hr
theorem z6B {m:Md}{a0:Expr}{a1_0:Int}{r:Bool}(hr:z0a a0 a1_0=some r):Ok Tryz.prog 101 [Expr.x m a0,.fn 239 [.pb 0 0]] [.box [dI a1_0]] (dB r) [.box [dI a1_0]]:=by
 obtain⟨n,hn⟩:=q6D hr
 exact z6g n hn
def z7M (a0:Expr)(a1:Int):Option Bool:=
 (z0l a0).bind fun y1=>
 if y1=true then (
 (z0a a0 a1).bind fun y2=>
 some y2
 ) else (
 some false
 )
theorem j4e {m:Md}{a0:Expr}{a1:Int}{r:Bool}(hr:z7M a0 a1=some r):Ok Tryz.prog 226 [Expr.x m a0,dI a1] [] (dB r) []:=by
 refine OE Tryz.func226 fun S hS=>?_
 unfold z7M at hr
 refine J g<|J (BX' 0)<|J (BX' 1)<|bdE hr fun y1 hy1 hr=>J g<|J (CB' [] [] (j1u (m:=m) hy1))<|ifE hr ?_ ?_<;>intro h1 hr
 refine bdE hr fun y2 hy2 hr=>J g<|J (CB' [(0,1)] [] (z6B (m:=m) hy2))<|e
 exact e
def z6C:Nat→ByteArray→Unit→Option (Unit ⊕ Bool):=fun k1 xk1 _=>
 (q4E xk1).bind fun y3=>
 if y3=true then (
 some (.inl ())
 ) else (
 some (.inr false)
 )
def z6D (a0:Rule):Nat→Equation→Unit→Option (Unit ⊕ Bool):=fun k2 xk2 _=>
 (z7M xk2.Expr (a0.Right.length:Int)).bind fun y4=>
 (
 if y4=true then (
 (q4E xk2.At.Name).bind fun y5=>
 some (!y5)
 ) else (
 some true
 )
 ).bind fun s4=>
 (
 if s4=true then (
 some true
 ) else (
 (q4d xk2.At.Pos 0 (a0.Right.length:Int)).bind fun y6=>
 some (!y6)
 )
 ).bind fun s5=>
 if s5=true then (
 some (.inr false)
 ) else (
 some (.inl ())
 )
def z6E (a0:Rule):Nat→Contribution→Unit→Option (Unit ⊕ Bool):=fun k3 xk3 _=>
 (z7M xk3.Target (a0.Right.length:Int)).bind fun y7=>
 (
 if y7=true then (
 (z7M xk3.Value (a0.Right.length:Int)).bind fun y8=>
 some (!y8)
 ) else (
 some true
 )
 ).bind fun s6=>
 (
 if s6=true then (
 some true
 ) else (
 (q4E xk3.Symbol).bind fun y9=>
 some (!y9)
 )
 ).bind fun s7=>
 (
 if s7=true then (
 some true
 ) else (
 (q4E xk3.Name).bind fun y10=>
 some (!y10)
 )
 ).bind fun s8=>
 if s8=true then (
 some (.inr false)
 ) else (
 some (.inl ())
 )
def z0m (a0:Rule):Option Bool:=
 (q4E a0.Name).bind fun y1=>
 (
 if y1=true then (
 (q4E a0.Left).bind fun y2=>
 some (!y2)
 ) else (
 some true
 )
 ).bind fun s1=>
 (
 if s1=true then (
 some true
 ) else (
 some (decide (3 < (a0.Right.length:Int)))
 )
 ).bind fun s2=>
 (
 if s2=true then (
 some true
 ) else (
 some (decide (2 < (a0.Contributions.length:Int)))
 )
 ).bind fun s3=>
 if s3=true then (
 some false
 ) else (
 (findL z6C 0 a0.Right ()).bind <| onr (fun r1=>some r1) fun _=>
 (findL (z6D a0) 0 a0.Equations ()).bind <| onr (fun r2=>some r2) fun _=>
 (findL (z6E a0) 0 a0.Contributions ()).bind <| onr (fun r3=>some r3) fun _=>
 some true
 )
theorem j1v {m:Md}{a0:Rule}{r:Bool}(hr:z0m a0=some r):Ok Tryz.prog 196 [Rule.x m a0] [] (dB r) []:=by
 refine OE Tryz.func196 fun S hS=>?_
 unfold z0m at hr
 refine J g<|J (BX' 0)<|bdE hr fun y1 hy1 hr=>J g<|J (CB' [] [] (q5E hy1))<|bdE hr fun s1 hqq1 hr=>J (gn 1)<|q0a 6 [(1,.pb 0 0),(3,dI (a0.Right.length:Int)),(22,dB s1)] ?_ ?_
 replace hr:=hqq1
 refine ifE hr ?_ ?_<;>intro h1 hr
 refine bdE hr fun y2 hy2 hr=>J g<|J (CB' [] [] (q5E hy2))<|e
 exact e
 refine bdE hr fun s2 hqq2 hr=>q0a 4 [(1,.pb 0 0),(3,dI (a0.Right.length:Int)),(26,dB s2)] ?_ ?_
 replace hr:=hqq2
 refine ifE hr ?_ ?_<;>intro h2 hr
 exact e
 exact e
 refine bdE hr fun s3 hqq3 hr=>q0a 6 [(1,.pb 0 0),(3,dI (a0.Right.length:Int)),(32,dB s3)] ?_ ?_
 replace hr:=hqq3
 refine ifE hr ?_ ?_<;>intro h3 hr
 exact e
 exact e
 refine J (gn 1)<|ifE hr ?_ ?_<;>intro h4 hr
 exact e
 refine J (gn 11)<|J (lenT 34)<|fun hl1=>bdE hr fun q4 hqq4 hr=>q0b hqq4 hl1 1 (fun k1 _=>[(1,.pb 0 0),(3,dI (a0.Right.length:Int)),(34,.d m (.sl 1 (a0.Right.map A.D.s))),(35,dI (a0.Right.length:Int)),(36,dI (k1:Int))]) (fun k1 _=>[]) I (fun k1 xk1 sk1 ok1 hxk1 hr hltk1 hik1=>?_) fun k1 sk1 ek1 hltk1=>?_
 refine bdE hr fun y3 hy3 hr=>J g<|J (CB' [] [] (q5E hy3))<|J (gn 2)<|ifE hr ?_ ?_<;>intro h5 hr
 exact e
 exact e
 subst ek1
 refine J (gn 16)<|J (lenT 45)<|fun hl2=>bdE hr fun q5 hqq5 hr=>q0b hqq5 hl2 1 (fun k2 _=>[(1,.pb 0 0),(3,dI (a0.Right.length:Int)),(45,.d m (.sl 9 (a0.Equations.map Equation.D))),(46,dI (a0.Equations.length:Int)),(47,dI (k2:Int))]) (fun k2 _=>[]) I (fun k2 xk2 sk2 ok2 hxk2 hr hltk2 hik2=>?_) fun k2 sk2 ek2 hltk2=>?_
 refine J g<|J (NV' 1)<|bdE hr fun y4 hy4 hr=>J g<|J (CB' [] [] (j4e (m:=m) hy4))<|bdE hr fun s4 hqq6 hr=>J (gn 1)<|q0a 7 [(1,.pb 0 0),(3,dI (a0.Right.length:Int)),(7,.pb 1 0),(45,.d m (.sl 9 (a0.Equations.map Equation.D))),(46,dI (a0.Equations.length:Int)),(47,dI (k2:Int)),(62,dB s4)] ?_ ?_
 replace hr:=hqq6
 refine ifE hr ?_ ?_<;>intro h6 hr
 refine bdE hr fun y5 hy5 hr=>J g<|J (CB' [] [] (q5E hy5))<|e
 exact e
 refine bdE hr fun s5 hqq7 hr=>q0a 8 [(1,.pb 0 0),(3,dI (a0.Right.length:Int)),(45,.d m (.sl 9 (a0.Equations.map Equation.D))),(46,dI (a0.Equations.length:Int)),(47,dI (k2:Int)),(70,dB s5)] ?_ ?_
 replace hr:=hqq7
 refine ifE hr ?_ ?_<;>intro h7 hr
 exact e
 refine bdE hr fun y6 hy6 hr=>J g<|J (CB' [] [] (q4C hy6))<|e
 refine J (gn 1)<|ifE hr ?_ ?_<;>intro h8 hr
 exact e
 exact e
 subst ek2
 refine J (gn 16)<|J (lenT 73)<|fun hl3=>bdE hr fun q8 hqq8 hr=>q0b hqq8 hl3 1 (fun k3 _=>[(3,dI (a0.Right.length:Int)),(73,.d m (.sl 16 (a0.Contributions.map Contribution.D))),(74,dI (a0.Contributions.length:Int)),(75,dI (k3:Int))]) (fun k3 _=>[]) I (fun k3 xk3 sk3 ok3 hxk3 hr hltk3 hik3=>?_) fun k3 sk3 ek3 hltk3=>?_
 refine J g<|J (NV' 1)<|bdE hr fun y7 hy7 hr=>J g<|J (CB' [] [] (j4e (m:=m) hy7))<|bdE hr fun s6 hqq9 hr=>J (gn 1)<|q0a 7 [(3,dI (a0.Right.length:Int)),(9,.pb 1 0),(73,.d m (.sl 16 (a0.Contributions.map Contribution.D))),(74,dI (a0.Contributions.length:Int)),(75,dI (k3:Int)),(90,dB s6)] ?_ ?_
 replace hr:=hqq9
 refine ifE hr ?_ ?_<;>intro h9 hr
 refine bdE hr fun y8 hy8 hr=>J g<|J (CB' [] [] (j4e (m:=m) hy8))<|e
 exact e
 refine bdE hr fun s7 hqq10 hr=>q0a 6 [(3,dI (a0.Right.length:Int)),(9,.pb 1 0),(73,.d m (.sl 16 (a0.Contributions.map Contribution.D))),(74,dI (a0.Contributions.length:Int)),(75,dI (k3:Int)),(96,dB s7)] ?_ ?_
 replace hr:=hqq10
 refine ifE hr ?_ ?_<;>intro h10 hr
 exact e
 refine bdE hr fun y9 hy9 hr=>J g<|J (CB' [] [] (q5E hy9))<|e
 refine bdE hr fun s8 hqq11 hr=>q0a 6 [(3,dI (a0.Right.length:Int)),(73,.d m (.sl 16 (a0.Contributions.map Contribution.D))),(74,dI (a0.Contributions.length:Int)),(75,dI (k3:Int)),(102,dB s8)] ?_ ?_
 replace hr:=hqq11
 refine ifE hr ?_ ?_<;>intro h11 hr
 exact e
 refine bdE hr fun y10 hy10 hr=>J g<|J (CB' [] [] (q5E hy10))<|e
 refine J (gn 1)<|ifE hr ?_ ?_<;>intro h12 hr
 exact e
 exact e
 subst ek3
 exact e
def z1c (a0:Rule)(a1:Rule):Option Bool:=
 some (decide (a0.Name=a1.Name))
theorem j0i {m:Md}{m2:Md}{a0:Rule}{a1:Rule}{r:Bool}(hr:z1c a0 a1=some r):Ok Tryz.prog 197 [Rule.x m a0,.pb 0 0] [.box [dS a1.Name,dS a1.Left,.d m2 (.sl 1 (a1.Right.map A.D.s)),dB a1.Literal,.d m2 (.sl 9 (a1.Equations.map Equation.D)),.d m2 (.sl 16 (a1.Contributions.map Contribution.D))]] (dB r) [.box [dS a1.Name,dS a1.Left,.d m2 (.sl 1 (a1.Right.map A.D.s)),dB a1.Literal,.d m2 (.sl 9 (a1.Equations.map Equation.D)),.d m2 (.sl 16 (a1.Contributions.map Contribution.D))]]:=by
 refine OE Tryz.func197 fun S hS=>?_
 unfold z1c at hr
 refine J g<|J (BX' 1)<|e
def q6X (a1_0:Rule):Nat→Rule→Unit→Option (Unit ⊕ Int):=fun k1 xk1 _=>
 (z1c xk1 a1_0).bind fun y1=>
 if y1=true then (
 some (.inr (k1:Int))
 ) else (
 some (.inl ())
 )
def q4W (a0:(List Rule))(a1_0:Rule):Option Int:=
 (findL (q6X a1_0) 0 a0 ()).bind <| onr (fun r1=>some r1) fun _=>
 some (-1)
theorem q9L {m:Md}{m2:Md}{a0:(List Rule)}{a1_0:Rule}{r:Int}(hr:q4W a0 a1_0=some r):Ok Tryz.prog 133 [.d m (.sl 6 (a0.map Rule.D)),.fn 197 [.pb 0 0]] [.box [dS a1_0.Name,dS a1_0.Left,.d m2 (.sl 1 (a1_0.Right.map A.D.s)),dB a1_0.Literal,.d m2 (.sl 9 (a1_0.Equations.map Equation.D)),.d m2 (.sl 16 (a1_0.Contributions.map Contribution.D))]] (dI r) [.box [dS a1_0.Name,dS a1_0.Left,.d m2 (.sl 1 (a1_0.Right.map A.D.s)),dB a1_0.Literal,.d m2 (.sl 9 (a1_0.Equations.map Equation.D)),.d m2 (.sl 16 (a1_0.Contributions.map Contribution.D))]]:=by
 refine OE Tryz.func133 fun S hS=>?_
 unfold q4W at hr
 refine J (gn 12)<|J (lenT 0)<|fun hl1=>bdE hr fun q1 hqq1 hr=>q0b hqq1 hl1 1 (fun k1 _=>[(0,.d m (.sl 6 (a0.map Rule.D))),(1,.fn 197 [.pb 0 0]),(7,dI (a0.length:Int)),(8,dI (k1:Int))]) (fun k1 _=>[]) I (fun k1 xk1 sk1 ok1 hxk1 hr hltk1 hik1=>?_) fun k1 sk1 ek1 hltk1=>?_
 refine bdE hr fun y1 hy1 hr=>J g<|J (CB' [(0,0)] [] (j0i (m:=m) (m2:=m2) hy1))<|J (gn 1)<|ifE hr ?_ ?_<;>intro h1 hr
 exact e
 exact e
 subst ek1
 exact e
def q4F (a0:(List Rule))(a1_0:Rule):Option Bool:=
 (q4W a0 a1_0).bind fun y1=>
 some (decide (0≤y1))
theorem q9k {m:Md}{m2:Md}{a0:(List Rule)}{a1_0:Rule}{r:Bool}(hr:q4F a0 a1_0=some r):Ok Tryz.prog 92 [.d m (.sl 6 (a0.map Rule.D)),.fn 197 [.pb 0 0]] [.box [dS a1_0.Name,dS a1_0.Left,.d m2 (.sl 1 (a1_0.Right.map A.D.s)),dB a1_0.Literal,.d m2 (.sl 9 (a1_0.Equations.map Equation.D)),.d m2 (.sl 16 (a1_0.Contributions.map Contribution.D))]] (dB r) [.box [dS a1_0.Name,dS a1_0.Left,.d m2 (.sl 1 (a1_0.Right.map A.D.s)),dB a1_0.Literal,.d m2 (.sl 9 (a1_0.Equations.map Equation.D)),.d m2 (.sl 16 (a1_0.Contributions.map Contribution.D))]]:=by
 refine OE Tryz.func92 fun S hS=>?_
 unfold q4F at hr
 refine bdE hr fun y1 hy1 hr=>J g<|J (CB' [(0,0)] [] (q9L (m:=m) (m2:=m2) hy1))<|e
def z2k (a0:Grammar):Nat→Symbol→Unit→Option (Unit ⊕ Int):=fun k1 xk1 _=>
 (q8X xk1).bind fun y1=>
 if y1=true then (
 grd (k1≤a0.Symbols.length) <|
 (q4w (a0.Symbols.take k1) xk1).bind fun y2=>
 if y2=true then (
 some (.inr (k1:Int))
 ) else (
 some (.inl ())
 )
 ) else (
 some (.inr (k1:Int))
 )
def z2l (a0:Grammar):Nat→Rule→Unit→Option (Unit ⊕ Int):=fun k2 xk2 _=>
 (z0m xk2).bind fun y3=>
 if y3=true then (
 grd (k2≤a0.Rules.length) <|
 (q4F (a0.Rules.take k2) xk2).bind fun y4=>
 if y4=true then (
 some (.inr (k2:Int))
 ) else (
 some (.inl ())
 )
 ) else (
 some (.inr (k2:Int))
 )
def z1d (a0:Grammar):Option Int:=
 (findL (z2k a0) 0 a0.Symbols ()).bind <| onr (fun r1=>some r1) fun _=>
 (findL (z2l a0) 0 a0.Rules ()).bind <| onr (fun r2=>some r2) fun _=>
 some (-1)
theorem j2D {m:Md}{a0:Grammar}{r:Int}(hr:z1d a0=some r):Ok Tryz.prog 159 [Grammar.x m a0] [] (dI r) []:=by
 refine OE Tryz.func159 fun S hS=>?_
 unfold z1d at hr
 refine J g<|J (BX' 0)<|J (gn 11)<|J (lenA 0 0)<|fun hl1=>bdE hr fun q1 hqq1 hr=>q0b hqq1 hl1 1 (fun k1 _=>[(1,.pb 0 0),(8,.d m (.sl 2 (a0.Symbols.map Symbol.D))),(9,dI (a0.Symbols.length:Int)),(10,dI (k1:Int))]) (fun k1 _=>[]) I (fun k1 xk1 sk1 ok1 hxk1 hr hltk1 hik1=>?_) fun k1 sk1 ek1 hltk1=>?_
 refine J g<|J (NV' 1)<|bdE hr fun y1 hy1 hr=>J g<|J (CB' [] [] (z9k (m:=m) hy1))<|J (gn 1)<|ifE hr ?_ ?_<;>intro h1 hr
 refine ggE hr fun g1 hr=>J g<|J (SLH' (Int.natCast_nonneg _) g1)<|bdE hr fun y2 hy2 hr=>J g<|J (CB' [(0,1)] [] (q8O (m:=m) (m2:=m) hy2))<|J (gn 2)<|ifE hr ?_ ?_<;>intro h2 hr
 exact e
 exact e
 exact e
 subst ek1
 refine J (gn 16)<|J (lenT 29)<|fun hl2=>bdE hr fun q2 hqq2 hr=>q0b hqq2 hl2 1 (fun k2 _=>[(1,.pb 0 0),(29,.d m (.sl 6 (a0.Rules.map Rule.D))),(30,dI (a0.Rules.length:Int)),(31,dI (k2:Int))]) (fun k2 _=>[]) I (fun k2 xk2 sk2 ok2 hxk2 hr hltk2 hik2=>?_) fun k2 sk2 ek2 hltk2=>?_
 refine J g<|J (NV' 1)<|bdE hr fun y3 hy3 hr=>J g<|J (CB' [] [] (j1v (m:=m) hy3))<|J (gn 1)<|ifE hr ?_ ?_<;>intro h3 hr
 refine ggE hr fun g2 hr=>J g<|J (SLH' (Int.natCast_nonneg _) g2)<|bdE hr fun y4 hy4 hr=>J g<|J (CB' [(0,1)] [] (q9k (m:=m) (m2:=m) hy4))<|J (gn 2)<|ifE hr ?_ ?_<;>intro h4 hr
 exact e
 exact e
 exact e
 subst ek2
 exact e
def z1e (a0:Attribute):Option Bool:=
 some (decide (a0.Mode=1))
theorem j0j {a0:Attribute}{r:Bool}(hr:z1e a0=some r):Ok Tryz.prog 160 [Attribute.x .fz a0] [] (dB r) []:=by
 refine OE Tryz.func160 fun S hS=>?_
 unfold z1e at hr
 refine J g<|J (BX' 0)<|e
def q6s:Nat→Attribute→Unit→Option (Unit ⊕ Int):=fun k1 xk1 _=>
 (z1e xk1).bind fun y1=>
 if y1=true then (
 some (.inr (k1:Int))
 ) else (
 some (.inl ())
 )
def q4x (a0:(List Attribute)):Option Int:=
 (findL q6s 0 a0 ()).bind <| onr (fun r1=>some r1) fun _=>
 some (-1)
theorem q8P {m:Md}{a0:(List Attribute)}{r:Int}(hr:q4x a0=some r):Ok Tryz.prog 136 [.d m (.sl 4 (a0.map Attribute.D)),.fn 160 []] [] (dI r) []:=by
 refine OE Tryz.func136 fun S hS=>?_
 unfold q4x at hr
 refine J (gn 12)<|J (lenT 0)<|fun hl1=>bdE hr fun q1 hqq1 hr=>q0b hqq1 hl1 0 (fun k1 _=>[(0,.d m (.sl 4 (a0.map Attribute.D))),(1,.fn 160 []),(7,dI (a0.length:Int)),(8,dI (k1:Int))]) (fun k1 _=>[]) I (fun k1 xk1 sk1 ok1 hxk1 hr hltk1 hik1=>?_) fun k1 sk1 ek1 hltk1=>?_
 refine bdE hr fun y1 hy1 hr=>J g<|J (CB' [] [] (j0j hy1))<|J (gn 1)<|ifE hr ?_ ?_<;>intro h1 hr
 exact e
 exact e
 subst ek1
 exact e
def q4h (a0:(List Attribute)):Option Bool:=
 (q4x a0).bind fun y1=>
 some (decide (0≤y1))
theorem q8n {m:Md}{a0:(List Attribute)}{r:Bool}(hr:q4h a0=some r):Ok Tryz.prog 99 [.d m (.sl 4 (a0.map Attribute.D)),.fn 160 []] [] (dB r) []:=by
 refine OE Tryz.func99 fun S hS=>?_
 unfold q4h at hr
 refine bdE hr fun y1 hy1 hr=>J g<|J (CB' [] [] (q8P (m:=m) hy1))<|e
def q6L (a0:Rule)(a1:Int):Option ByteArray:=
 if a1=0 then (
 some a0.Left
 ) else (
 (q4d a1 1 (a0.Right.length:Int)).bind fun y1=>
 if y1=true then (
 grd (I64 (a1 - 1)) <|
 grd (0≤(a1 - 1)) <|
 (a0.Right[(a1 - 1).toNat]?).bind fun x1=>
 some x1
 ) else (
 some (⟨#[]⟩:ByteArray)
 )
 )
theorem z0N {m:Md}{a0:Rule}{a1:Int}{r:ByteArray}(hr:q6L a0 a1=some r):Ok Tryz.prog 19 [Rule.x m a0,dI a1] [] (dS r) []:=by
 refine OE Tryz.func19 fun S hS=>?_
 unfold q6L at hr
 refine J g<|J (BX' 0)<|J (gn 10)<|ifE hr ?_ ?_<;>intro h1 hr
 exact e
 refine bdE hr fun y1 hy1 hr=>J g<|J (CB' [] [] (q4C hy1))<|J (gn 2)<|ifE hr ?_ ?_<;>intro h2 hr
 refine ggE hr fun g1 hr=>ggE hr fun g2 hr=>bdE hr fun x1 hx1 hr=>e
 exact e
def z0n (a1:ByteArray):Nat→Symbol→Unit→Option (Unit ⊕ (Symbol × Bool)):=fun k1 xk1 _=>
 if xk1.Name=a1 then (
 some (.inr (xk1,true))
 ) else (
 some (.inl ())
 )
def q5Y (a0:Grammar)(a1:ByteArray):Option (Symbol × Bool):=
 (findL (z0n a1) 0 a0.Symbols ()).bind <| onr (fun r1=>some r1) fun _=>
 some ((⟨(⟨#[]⟩:ByteArray),[]⟩:Symbol),false)
theorem q9d {m:Md}{a0:Grammar}{a1:ByteArray}{r:(Symbol × Bool)}(hr:q5Y a0 a1=some r):Ok Tryz.prog 80 [Grammar.y m a0,dS a1] [] (.tu [Symbol.x m r.1,dB r.2]) []:=by
 refine OE Tryz.func80 fun S hS=>?_
 unfold q5Y at hr
 refine J g<|J (BX' 0)<|J (NV' 1)<|J (gn 11)<|J (lenA 0 0)<|fun hl1=>bdE hr fun q1 hqq1 hr=>q0b hqq1 hl1 2 (fun k1 _=>[(1,dS a1),(4,.pb 1 0),(9,.d m (.sl 2 (a0.Symbols.map Symbol.D))),(10,dI (a0.Symbols.length:Int)),(11,dI (k1:Int))]) (fun k1 _=>[]) I (fun k1 xk1 sk1 ok1 hxk1 hr hltk1 hik1=>?_) fun k1 sk1 ek1 hltk1=>?_
 refine J g<|J (NV' 2)<|J (gn 9)<|ifE hr ?_ ?_<;>intro h1 hr
 exact e
 exact e
 subst ek1
 refine J (gn 14) ?_
 cases hr
 exact endA.ren [] 0 (.inr rfl) hS rfl rfl rfl (.tu (.cons (.ag (.cons .rfl (.cons .nld .nil))) (.cons .rfl .nil))) rfl rfl
def j1w (a0:Grammar)(a1:Rule):Nat→Unit→Option (Unit ⊕ Bool):=fun k1 _=>
 (q6L a1 (k1:Int)).bind fun y1=>
 (q5Y a0 y1).bind fun (y2,y3)=>
 if y3=true then (
 some (.inl ())
 ) else (
 some (.inr true)
 )
def z4R (a0:Grammar)(a1:Rule):Option Bool:=
 grd (I64 ((a1.Right.length+1:Nat):Int)) <|
 (findN (j1w a0 a1) 0 (a1.Right.length+1) ()).bind <| onr (fun r1=>some r1) fun _=>
 some false
theorem j7n {m:Md}{a0:Grammar}{a1:Rule}{r:Bool}(hr:z4R a0 a1=some r):Ok Tryz.prog 161 [Grammar.y m a0,Rule.x m a1] [] (dB r) []:=by
 refine OE Tryz.func161 fun S hS=>?_
 unfold z4R at hr
 refine J g<|J (BX' 0)<|J (BX' 1)<|ggE hr fun g1 hr=>J (gn 12)<|J (rngT 11)<|fun hl1=>bdE hr fun q1 hqq1 hr=>q0q hqq1 2 (fun k1 _=>[(2,.pb 0 0),(3,.pb 1 0),(11,dI ((a1.Right.length+1:Nat):Int)),(12,dI (k1:Int))]) (fun k1 _=>[]) I (fun k1 sk1 ok1 hr hltk1 hik1=>?_) fun sk1 ek1=>?_
 refine bdE hr fun y1 hy1 hr=>J g<|J (CB' [] [] (z0N (m:=m) hy1))<|bdP hr fun y2 y3 hq2 hr=>J (CB' [] [] (q9d (m:=m) hq2))<|J g<|J (NV' 2)<|J (gn 8)<|ifE hr ?_ ?_<;>intro h1 hr
 exact e
 exact e
 subst ek1
 exact e
def z6F (k1:Nat)(s2:Int):Nat→Attribute→((List Occurrence))→Option ((List Occurrence)):=fun k2 xk2 s3=>
 (
 if xk2.Mode=s2 then (
 grd (((s3.length:Int)+1)*24≤140737488355328∧(s3.length:Int)+1≤9223372036854775807) <|
 some (s3++[(⟨(k1:Int),xk2.Name⟩:Occurrence)])
 ) else (
 some s3
 )
 ).bind fun s4=>
 some s4
def z6G (a0:Grammar)(a1:Rule):Nat→((List Occurrence))→Option ((List Occurrence)):=fun k1 s1=>
 (
 if (k1:Int)=0 then (
 some 2
 ) else (
 some 1
 )
 ).bind fun s2=>
 (q6L a1 (k1:Int)).bind fun y1=>
 (q5Y a0 y1).bind fun (y2,y3)=>
 (eachL (z6F k1 s2) 0 y2.Attributes s1).bind fun s3=>
 some s3
def z1J (a0:Grammar)(a1:Rule):Option (List Occurrence):=
 grd (I64 ((a1.Right.length+1:Nat):Int)) <|
 (eachN (z6G a0 a1) 0 (a1.Right.length+1) ([]:List Occurrence)).bind fun s1=>
 some s1
theorem z9N {m:Md}{a0:Grammar}{a1:Rule}{r:(List Occurrence)}(hr:z1J a0 a1=some r):Ok Tryz.prog 199 [Grammar.y m a0,Rule.x m a1] [] (.ref 0 none) [.row .fz 2 (r.map Occurrence.D)]:=by
 refine OE Tryz.func199 fun S hS=>?_
 unfold z1J at hr
 refine J g<|J (BX' 0)<|J (BX' 1)<|J g<|J (L0' 2 Occurrence.D)<|ggE hr fun g1 hr=>J (gn 12)<|J (rngT 16)<|fun hl1=>bdE hr fun s1 hqq1 hr=>q0i hqq1 3 (fun k1 s1=>[(2,.pb 0 0),(3,.pb 1 0),(5,.ref 2 none),(16,dI ((a1.Right.length+1:Nat):Int)),(17,dI (k1:Int))]) (fun k1 s1=>[(2,.row .fz 2 (s1.map Occurrence.D))]) I (fun k1 sk1 ok1 hr hltk1=>?_) ?_
 obtain⟨s1,rfl⟩:∃ y,y=sk1:=⟨_,rfl⟩
 refine bdE hr fun s2 hqq2 hr=>J (gn 24)<|q0e 3 [(2,.pb 0 0),(3,.pb 1 0),(5,.ref 2 none),(6,dI (k1:Int)),(7,dI s2),(16,dI ((a1.Right.length+1:Nat):Int)),(17,dI (k1:Int))] [] ?_ ?_
 replace hr:=hqq2
 refine ifE hr ?_ ?_<;>intro h1 hr
 exact e
 exact e
 refine bdE hr fun y1 hy1 hr=>J g<|J (CB' [] [] (z0N (m:=m) hy1))<|bdP hr fun y2 y3 hq3 hr=>J (CB' [] [] (q9d (m:=m) hq3))<|J g<|J (NV' 3)<|J (gn 11) ?_
 refine AW.len (.ag 1 (.tu 0 (.tmp 22 rfl) rfl) rfl) fun hl2=>?_
 refine bdE hr fun s3 hqq4 hr=>q0d hqq4 hl2 4 (fun k2 s3=>[(2,.pb 0 0),(3,.pb 1 0),(5,.ref 2 none),(6,dI (k1:Int)),(7,dI s2),(16,dI ((a1.Right.length+1:Nat):Int)),(17,dI (k1:Int)),(31,.d m (.sl 4 (y2.Attributes.map Attribute.D))),(32,dI (y2.Attributes.length:Int)),(33,dI (k2:Int))]) (fun k2 s3=>[(2,.row .fz 2 (s3.map Occurrence.D))]) I (fun k2 xk2 sk2 ok2 hxk2 hr hltk2=>?_) fun k2 hltk2=>?_
 obtain⟨s3,rfl⟩:∃ y,y=sk2:=⟨_,rfl⟩
 refine bdE hr fun s4 hqq5 hr=>J (gn 8)<|q0e 4 [(2,.pb 0 0),(3,.pb 1 0),(5,.ref 2 none),(6,dI (k1:Int)),(7,dI s2),(16,dI ((a1.Right.length+1:Nat):Int)),(17,dI (k1:Int)),(31,.d m (.sl 4 (y2.Attributes.map Attribute.D))),(32,dI (y2.Attributes.length:Int)),(33,dI (k2:Int))] [(2,.row .fz 2 (s4.map Occurrence.D))] ?_ ?_
 replace hr:=hqq5
 refine J g<|J (NV' 4)<|J (gn 9)<|ifE hr ?_ ?_<;>intro h2 hr
 refine J g<|J (LIR' 5 (m:=.fz) (f:=Occurrence.D) (xs:=[(⟨(k1:Int),xk2.Name⟩:Occurrence)]))<|ggE hr fun g2 hr=>J (q9Z (f:=Occurrence.D) 6 (fun _=>rfl) 24 g2)<|e
 exact e
 exact e
 exact e
 exact e
def z2m (a0:Equation)(a1:Occurrence):Option Bool:=
 some (decide (a0.At=a1))
theorem j1x {m:Md}{a0:Equation}{a1:Occurrence}{r:Bool}(hr:z2m a0 a1=some r):Ok Tryz.prog 202 [Equation.x m a0,.pb 0 0] [.box [dI a1.Pos,dS a1.Name]] (dB r) [.box [dI a1.Pos,dS a1.Name]]:=by
 refine OE Tryz.func202 fun S hS=>?_
 unfold z2m at hr
 refine J g<|J (BX' 1)<|J g ?_
 refine J (SQ' rfl rfl rfl rfl (q6o a0.At a1))<|J g<|E
def q6E (a1_0:Occurrence):Nat→Equation→Unit→Option (Unit ⊕ Int):=fun k1 xk1 _=>
 (z2m xk1 a1_0).bind fun y1=>
 if y1=true then (
 some (.inr (k1:Int))
 ) else (
 some (.inl ())
 )
def q4G (a0:(List Equation))(a1_0:Occurrence):Option Int:=
 (findL (q6E a1_0) 0 a0 ()).bind <| onr (fun r1=>some r1) fun _=>
 some (-1)
theorem q9l {m:Md}{a0:(List Equation)}{a1_0:Occurrence}{r:Int}(hr:q4G a0 a1_0=some r):Ok Tryz.prog 228 [.d m (.sl 9 (a0.map Equation.D)),.fn 202 [.pb 0 0]] [.box [dI a1_0.Pos,dS a1_0.Name]] (dI r) [.box [dI a1_0.Pos,dS a1_0.Name]]:=by
 refine OE Tryz.func228 fun S hS=>?_
 unfold q4G at hr
 refine J (gn 12)<|J (lenT 0)<|fun hl1=>bdE hr fun q1 hqq1 hr=>q0b hqq1 hl1 1 (fun k1 _=>[(0,.d m (.sl 9 (a0.map Equation.D))),(1,.fn 202 [.pb 0 0]),(7,dI (a0.length:Int)),(8,dI (k1:Int))]) (fun k1 _=>[]) I (fun k1 xk1 sk1 ok1 hxk1 hr hltk1 hik1=>?_) fun k1 sk1 ek1 hltk1=>?_
 refine bdE hr fun y1 hy1 hr=>J g<|J (CB' [(0,0)] [] (j1x (m:=m) hy1))<|J (gn 1)<|ifE hr ?_ ?_<;>intro h1 hr
 exact e
 exact e
 subst ek1
 exact e
def q4r (a0:(List Equation))(a1_0:Occurrence):Option Bool:=
 (q4G a0 a1_0).bind fun y1=>
 some (decide (0≤y1))
theorem q8F {m:Md}{a0:(List Equation)}{a1_0:Occurrence}{r:Bool}(hr:q4r a0 a1_0=some r):Ok Tryz.prog 201 [.d m (.sl 9 (a0.map Equation.D)),.fn 202 [.pb 0 0]] [.box [dI a1_0.Pos,dS a1_0.Name]] (dB r) [.box [dI a1_0.Pos,dS a1_0.Name]]:=by
 refine OE Tryz.func201 fun S hS=>?_
 unfold q4r at hr
 refine bdE hr fun y1 hy1 hr=>J g<|J (CB' [(0,0)] [] (q9l (m:=m) hy1))<|e
def z4h (a0:Occurrence)(a1:Rule):Option Bool:=
 (q4r a1.Equations a0).bind fun y1=>
 some (!y1)
theorem j4f {m2:Md}{a0:Occurrence}{a1:Rule}{r:Bool}(hr:z4h a0 a1=some r):Ok Tryz.prog 200 [Occurrence.x .fz a0,.pb 0 0] [.box [dS a1.Name,dS a1.Left,.d m2 (.sl 1 (a1.Right.map A.D.s)),dB a1.Literal,.d m2 (.sl 9 (a1.Equations.map Equation.D)),.d m2 (.sl 16 (a1.Contributions.map Contribution.D))]] (dB r) [.box [dS a1.Name,dS a1.Left,.d m2 (.sl 1 (a1.Right.map A.D.s)),dB a1.Literal,.d m2 (.sl 9 (a1.Equations.map Equation.D)),.d m2 (.sl 16 (a1.Contributions.map Contribution.D))]]:=by
 refine OE Tryz.func200 fun S hS=>?_
 unfold z4h at hr
 refine J g<|J (BX' 1)<|bdE hr fun y1 hy1 hr=>J g<|J (CB' [(0,1)] [] (q8F (m:=m2) hy1))<|e
def q6F (a1_0:Rule):Nat→Occurrence→Unit→Option (Unit ⊕ Int):=fun k1 xk1 _=>
 (z4h xk1 a1_0).bind fun y1=>
 if y1=true then (
 some (.inr (k1:Int))
 ) else (
 some (.inl ())
 )
def q4H (a0:(List Occurrence))(a1_0:Rule):Option Int:=
 (findL (q6F a1_0) 0 a0 ()).bind <| onr (fun r1=>some r1) fun _=>
 some (-1)
theorem q9m {m2:Md}{a0:(List Occurrence)}{a1_0:Rule}{r:Int}(hr:q4H a0 a1_0=some r):Ok Tryz.prog 227 [.ref 1 none,.fn 200 [.pb 0 0]] [.box [dS a1_0.Name,dS a1_0.Left,.d m2 (.sl 1 (a1_0.Right.map A.D.s)),dB a1_0.Literal,.d m2 (.sl 9 (a1_0.Equations.map Equation.D)),.d m2 (.sl 16 (a1_0.Contributions.map Contribution.D))],.row .fz 2 (a0.map Occurrence.D)] (dI r) [.box [dS a1_0.Name,dS a1_0.Left,.d m2 (.sl 1 (a1_0.Right.map A.D.s)),dB a1_0.Literal,.d m2 (.sl 9 (a1_0.Equations.map Equation.D)),.d m2 (.sl 16 (a1_0.Contributions.map Contribution.D))],.row .fz 2 (a0.map Occurrence.D)]:=by
 refine OE Tryz.func227 fun S hS=>?_
 unfold q4H at hr
 refine J (gn 12)<|J (lenR 1)<|fun hl1=>bdE hr fun q1 hqq1 hr=>q0b hqq1 hl1 2 (fun k1 _=>[(0,.ref 1 none),(1,.fn 200 [.pb 0 0]),(7,dI (a0.length:Int)),(8,dI (k1:Int))]) (fun k1 _=>[]) I (fun k1 xk1 sk1 ok1 hxk1 hr hltk1 hik1=>?_) fun k1 sk1 ek1 hltk1=>?_
 refine bdE hr fun y1 hy1 hr=>J g<|J (CB' [(0,0)] [] (j4f (m2:=m2) hy1))<|J (gn 1)<|ifE hr ?_ ?_<;>intro h1 hr
 exact e
 exact e
 subst ek1
 exact e
def q4s (a0:(List Occurrence))(a1_0:Rule):Option Bool:=
 (q4H a0 a1_0).bind fun y1=>
 some (decide (0≤y1))
theorem q8G {m2:Md}{a0:(List Occurrence)}{a1_0:Rule}{r:Bool}(hr:q4s a0 a1_0=some r):Ok Tryz.prog 198 [.ref 1 none,.fn 200 [.pb 0 0]] [.box [dS a1_0.Name,dS a1_0.Left,.d m2 (.sl 1 (a1_0.Right.map A.D.s)),dB a1_0.Literal,.d m2 (.sl 9 (a1_0.Equations.map Equation.D)),.d m2 (.sl 16 (a1_0.Contributions.map Contribution.D))],.row .fz 2 (a0.map Occurrence.D)] (dB r) [.box [dS a1_0.Name,dS a1_0.Left,.d m2 (.sl 1 (a1_0.Right.map A.D.s)),dB a1_0.Literal,.d m2 (.sl 9 (a1_0.Equations.map Equation.D)),.d m2 (.sl 16 (a1_0.Contributions.map Contribution.D))],.row .fz 2 (a0.map Occurrence.D)]:=by
 refine OE Tryz.func198 fun S hS=>?_
 unfold q4s at hr
 refine bdE hr fun y1 hy1 hr=>J g<|J (CB' [(0,0),(1,1)] [] (q9m (m2:=m2) hy1))<|e
def z4S (a0:Grammar)(a1:Rule):Option Bool:=
 (z1J a0 a1).bind fun y1=>
 (q4s y1 a1).bind fun y2=>
 some y2
theorem j7o {m:Md}{a0:Grammar}{a1:Rule}{r:Bool}(hr:z4S a0 a1=some r):Ok Tryz.prog 162 [Grammar.y m a0,Rule.x m a1] [] (dB r) []:=by
 refine OE Tryz.func162 fun S hS=>?_
 unfold z4S at hr
 refine J g<|J (BX' 0)<|J (BX' 1)<|bdE hr fun y1 hy1 hr=>J g<|J (CB' [(0,2)] [] (z9N (m:=m) hy1))<|bdE hr fun y2 hy2 hr=>J g<|J (CB' [(0,1),(1,2)] [] (q8G (m2:=m) hy2))<|e
def q3X (a1:Occurrence):Nat→Occurrence→Unit→Option (Unit ⊕ Int):=fun k1 xk1 _=>
 if a1=xk1 then (
 some (.inr (k1:Int))
 ) else (
 some (.inl ())
 )
def q3T (a0:(List Occurrence))(a1:Occurrence):Option Int:=
 (findL (q3X a1) 0 a0 ()).bind <| onr (fun r1=>some r1) fun _=>
 some (-1)
theorem q9W {m:Md}{a0:(List Occurrence)}{a1:Occurrence}{r:Int}(hr:q3T a0 a1=some r):Ok Tryz.prog 106 [.d m (.sl 2 (a0.map Occurrence.D)),Occurrence.x .fz a1] [] (dI r) []:=by
 refine OE Tryz.func106 fun S hS=>?_
 unfold q3T at hr
 refine J g<|J (BX' 0)<|J (gn 10)<|J (lenT 0)<|fun hl1=>bdE hr fun q1 hqq1 hr=>q0b hqq1 hl1 1 (fun k1 _=>[(0,.d m (.sl 2 (a0.map Occurrence.D))),(3,.pb 0 0),(7,dI (a0.length:Int)),(8,dI (k1:Int))]) (fun k1 _=>[]) I (fun k1 xk1 sk1 ok1 hxk1 hr hltk1 hik1=>?_) fun k1 sk1 ek1 hltk1=>?_
 refine J g ?_
 refine J (SQ' rfl rfl rfl rfl (q6o a1 xk1))<|J (gn 1)<|ifE hr ?_ ?_<;>intro h1 hr
 exact e
 exact e
 subst ek1
 exact e
def q5v (a0:(List Occurrence))(a1:Occurrence):Option Bool:=
 (q3T a0 a1).bind fun y1=>
 some (decide (0≤y1))
theorem z2P {m:Md}{a0:(List Occurrence)}{a1:Occurrence}{r:Bool}(hr:q5v a0 a1=some r):Ok Tryz.prog 203 [.d m (.sl 2 (a0.map Occurrence.D)),Occurrence.x .fz a1] [] (dB r) []:=by
 refine OE Tryz.func203 fun S hS=>?_
 unfold q5v at hr
 refine J g<|J (BX' 0)<|bdE hr fun y1 hy1 hr=>J g<|J (CB' [] [] (q9W (m:=m) hy1))<|e
def z7p (a0:Equation)(a1:Equation):Option Bool:=
 some (decide (a0.At=a1.At))
theorem j7p {m:Md}{m2:Md}{a0:Equation}{a1:Equation}{r:Bool}(hr:z7p a0 a1=some r):Ok Tryz.prog 204 [Equation.x m a0,.pb 0 0] [.box [dI a1.At.Pos,dS a1.At.Name,dI a1.Expr.Kind,dI a1.Expr.N,dI a1.Expr.Pos,dI a1.Expr.Type_,dS a1.Expr.Symbol,dS a1.Expr.Name,.d m2 (.sl 7 (a1.Expr.Args.map Expr.D))]] (dB r) [.box [dI a1.At.Pos,dS a1.At.Name,dI a1.Expr.Kind,dI a1.Expr.N,dI a1.Expr.Pos,dI a1.Expr.Type_,dS a1.Expr.Symbol,dS a1.Expr.Name,.d m2 (.sl 7 (a1.Expr.Args.map Expr.D))]]:=by
 refine OE Tryz.func204 fun S hS=>?_
 unfold z7p at hr
 refine J g<|J (BX' 1)<|J g ?_
 refine J (SQ' rfl rfl rfl rfl (q6o a0.At a1.At))<|J g<|E
def q7o (a1_0:Equation):Nat→Equation→Unit→Option (Unit ⊕ Int):=fun k1 xk1 _=>
 (z7p xk1 a1_0).bind fun y1=>
 if y1=true then (
 some (.inr (k1:Int))
 ) else (
 some (.inl ())
 )
def q5c (a0:(List Equation))(a1_0:Equation):Option Int:=
 (findL (q7o a1_0) 0 a0 ()).bind <| onr (fun r1=>some r1) fun _=>
 some (-1)
theorem z0b {m:Md}{m2:Md}{a0:(List Equation)}{a1_0:Equation}{r:Int}(hr:q5c a0 a1_0=some r):Ok Tryz.prog 228 [.d m (.sl 9 (a0.map Equation.D)),.fn 204 [.pb 0 0]] [.box [dI a1_0.At.Pos,dS a1_0.At.Name,dI a1_0.Expr.Kind,dI a1_0.Expr.N,dI a1_0.Expr.Pos,dI a1_0.Expr.Type_,dS a1_0.Expr.Symbol,dS a1_0.Expr.Name,.d m2 (.sl 7 (a1_0.Expr.Args.map Expr.D))]] (dI r) [.box [dI a1_0.At.Pos,dS a1_0.At.Name,dI a1_0.Expr.Kind,dI a1_0.Expr.N,dI a1_0.Expr.Pos,dI a1_0.Expr.Type_,dS a1_0.Expr.Symbol,dS a1_0.Expr.Name,.d m2 (.sl 7 (a1_0.Expr.Args.map Expr.D))]]:=by
 refine OE Tryz.func228 fun S hS=>?_
 unfold q5c at hr
 refine J (gn 12)<|J (lenT 0)<|fun hl1=>bdE hr fun q1 hqq1 hr=>q0b hqq1 hl1 1 (fun k1 _=>[(0,.d m (.sl 9 (a0.map Equation.D))),(1,.fn 204 [.pb 0 0]),(7,dI (a0.length:Int)),(8,dI (k1:Int))]) (fun k1 _=>[]) I (fun k1 xk1 sk1 ok1 hxk1 hr hltk1 hik1=>?_) fun k1 sk1 ek1 hltk1=>?_
 refine bdE hr fun y1 hy1 hr=>J g<|J (CB' [(0,0)] [] (j7p (m:=m) (m2:=m2) hy1))<|J (gn 1)<|ifE hr ?_ ?_<;>intro h1 hr
 exact e
 exact e
 subst ek1
 exact e
def q4O (a0:(List Equation))(a1_0:Equation):Option Bool:=
 (q5c a0 a1_0).bind fun y1=>
 some (decide (0≤y1))
theorem q9u {m:Md}{m2:Md}{a0:(List Equation)}{a1_0:Equation}{r:Bool}(hr:q4O a0 a1_0=some r):Ok Tryz.prog 201 [.d m (.sl 9 (a0.map Equation.D)),.fn 204 [.pb 0 0]] [.box [dI a1_0.At.Pos,dS a1_0.At.Name,dI a1_0.Expr.Kind,dI a1_0.Expr.N,dI a1_0.Expr.Pos,dI a1_0.Expr.Type_,dS a1_0.Expr.Symbol,dS a1_0.Expr.Name,.d m2 (.sl 7 (a1_0.Expr.Args.map Expr.D))]] (dB r) [.box [dI a1_0.At.Pos,dS a1_0.At.Name,dI a1_0.Expr.Kind,dI a1_0.Expr.N,dI a1_0.Expr.Pos,dI a1_0.Expr.Type_,dS a1_0.Expr.Symbol,dS a1_0.Expr.Name,.d m2 (.sl 7 (a1_0.Expr.Args.map Expr.D))]]:=by
 refine OE Tryz.func201 fun S hS=>?_
 unfold q4O at hr
 refine bdE hr fun y1 hy1 hr=>J g<|J (CB' [(0,0)] [] (z0b (m:=m) (m2:=m2) hy1))<|e
end Go.Proofs.YtpnkinhphabkcaaGreat
