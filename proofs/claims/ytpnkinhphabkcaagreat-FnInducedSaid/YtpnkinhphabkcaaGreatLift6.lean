/- What some functions of the program compute, as partial functions on plain data, and that they do; each lemma bears its conditions in its statement. -/
import Derived.Test.YtpnkinhphabkcaaGreatLift5
set_option linter.unusedVariables false
set_option linter.unusedSimpArgs false
set_option linter.ambiguousOpen false
set_option linter.unusedSectionVars false
set_option linter.unnecessarySimpa false
set_option maxRecDepth 100000
set_option maxHeartbeats 40000000
noncomputable section
namespace Go.Proofs.YtpnkinhphabkcaaGreat
open Go Go.E Go.A
def z5X (a0:Grammar):Nat→Rule→Unit→Option (Unit ⊕ (Int × Int)):=fun k1 xk1 _=>
 (z3H a0 xk1).bind fun y3=>
 if y3=true then (
 some (.inr (7,(k1:Int)))
 ) else (
 some (.inl ())
 )
def z5Y:Nat→Int→Unit→Option (Unit ⊕ (Int × Int)):=fun k2 xk2 _=>
 if xk2=0 then (
 some (.inr (8,(k2:Int)))
 ) else (
 some (.inl ())
 )
def q9B (a0:Grammar):Option (Int × Int):=
 (z1h a0).bind fun (y1,y2)=>
 if y1=0 then (
 (findL (z5X a0) 0 a0.Rules ()).bind <| onr (fun r1=>some r1) fun _=>
 (z3o a0).bind fun y4=>
 (findL z5Y 0 y4 ()).bind <| onr (fun r2=>some r2) fun _=>
 some (0,0)
 ) else (
 some (y1,y2)
 )
theorem j0l {m:Md}{a0:Grammar}{r:(Int × Int)}(hr:q9B a0=some r):Ok Tryz.prog 91 [Grammar.x m a0] [] (.tu [dI r.1,dI r.2]) []:=by
 refine OE Tryz.func91 fun S hS=>?_
 unfold q9B at hr
 refine J g<|J (BX' 0)<|bdP hr fun y1 y2 hq1 hr=>J g<|J (CB' [] [] (j2E (m:=m) hq1))<|J (gn 11)<|ifE hr ?_ ?_<;>intro h1 hr
 refine J (gn 11)<|J (lenA 1 0)<|fun hl1=>bdE hr fun q2 hqq2 hr=>q0b hqq2 hl1 1 (fun k1 _=>[(1,.pb 0 0),(20,.d m (.sl 6 (a0.Rules.map Rule.D))),(21,dI (a0.Rules.length:Int)),(22,dI (k1:Int))]) (fun k1 _=>[]) I (fun k1 xk1 sk1 ok1 hxk1 hr hltk1 hik1=>?_) fun k1 sk1 ek1 hltk1=>?_
 refine J g<|J (NV' 1)<|bdE hr fun y3 hy3 hr=>J g<|J (CB' [] [] (j5R (m:=m) hy3))<|J (gn 1)<|ifE hr ?_ ?_<;>intro h2 hr
 exact e
 exact e
 subst ek1
 refine bdE hr fun y4 hy4 hr=>J g<|J (CB' [(0,1)] [] (j7r (m:=m) hy4))<|J (gn 4)<|J (lenR 1)<|fun hl2=>bdE hr fun q3 hqq3 hr=>q0b hqq3 hl2 2 (fun k2 _=>[(33,.ref 1 none),(34,dI (y4.length:Int)),(35,dI (k2:Int))]) (fun k2 _=>[]) I (fun k2 xk2 sk2 ok2 hxk2 hr hltk2 hik2=>?_) fun k2 sk2 ek2 hltk2=>?_
 refine J (gn 22)<|ifE hr ?_ ?_<;>intro h3 hr
 exact e
 exact e
 subst ek2
 exact e
 exact e
def z3I (a0:Grammar):Option Bool:=
 (q9B a0).bind fun (y1,y2)=>
 some (decide (y1=0))
theorem j5S {m:Md}{a0:Grammar}{r:Bool}(hr:z3I a0=some r):Ok Tryz.prog 48 [Grammar.x m a0] [] (dB r) []:=by
 refine OE Tryz.func48 fun S hS=>?_
 unfold z3I at hr
 refine J g<|J (BX' 0)<|bdP hr fun y1 y2 hq1 hr=>J g<|J (CB' [] [] (j0l (m:=m) hq1))<|e
def z2q (a0:Expr):Option Bool:=
 some (!(decide (a0.Kind=8)))
theorem j1B {m:Md}{a0:Expr}{r:Bool}(hr:z2q a0=some r):Ok Tryz.prog 135 [Expr.x m a0] [] (dB r) []:=by
 refine OE Tryz.func135 fun S hS=>?_
 unfold z2q at hr
 refine J g<|J (BX' 0)<|e
def q6u (rec_ieveryNode_iHasRemote_1:Expr→Option Bool)(a0:Expr):Option Bool:=
 (rec_ieveryNode_iHasRemote_1 a0).bind fun y1=>
 some (!y1)
theorem z3d {rec_ieveryNode_iHasRemote_1:Expr→Option Bool}(ih_ieveryNode_iHasRemote_1:∀ {m:Md} {a0:Expr} {r:Bool},rec_ieveryNode_iHasRemote_1 a0=some r→Ok Tryz.prog 101 [Expr.x m a0,.fn 135 []] [] (dB r) []){m:Md}{a0:Expr}{r:Bool}(hr:q6u rec_ieveryNode_iHasRemote_1 a0=some r):Ok Tryz.prog 137 [Expr.x m a0,.pb 0 0] [.box [.fn 135 []]] (dB r) [.box [.fn 135 []]]:=by
 refine OE Tryz.func137 fun S hS=>?_
 unfold q6u at hr
 refine J g<|J (BX' 1)<|bdE hr fun y1 hy1 hr=>J g<|J (CB' [] [] (ih_ieveryNode_iHasRemote_1 (m:=m) hy1))<|e
def q5J (rec_ieveryNode_iHasRemote_1:Expr→Option Bool):Nat→Expr→Unit→Option (Unit ⊕ Int):=fun k1 xk1 _=>
 (q6u rec_ieveryNode_iHasRemote_1 xk1).bind fun y1=>
 if y1=true then (
 some (.inr (k1:Int))
 ) else (
 some (.inl ())
 )
def q3Y (rec_ieveryNode_iHasRemote_1:Expr→Option Bool)(a0:(List Expr)):Option Int:=
 (findL (q5J rec_ieveryNode_iHasRemote_1) 0 a0 ()).bind <| onr (fun r1=>some r1) fun _=>
 some (-1)
theorem q7S {rec_ieveryNode_iHasRemote_1:Expr→Option Bool}(ih_ieveryNode_iHasRemote_1:∀ {m:Md} {a0:Expr} {r:Bool},rec_ieveryNode_iHasRemote_1 a0=some r→Ok Tryz.prog 101 [Expr.x m a0,.fn 135 []] [] (dB r) []){m:Md}{a0:(List Expr)}{r:Int}(hr:q3Y rec_ieveryNode_iHasRemote_1 a0=some r):Ok Tryz.prog 134 [.d m (.sl 7 (a0.map Expr.D)),.fn 137 [.pb 0 0]] [.box [.fn 135 []]] (dI r) [.box [.fn 135 []]]:=by
 refine OE Tryz.func134 fun S hS=>?_
 unfold q3Y at hr
 refine J (gn 12)<|J (lenT 0)<|fun hl1=>bdE hr fun q1 hqq1 hr=>q0b hqq1 hl1 1 (fun k1 _=>[(0,.d m (.sl 7 (a0.map Expr.D))),(1,.fn 137 [.pb 0 0]),(7,dI (a0.length:Int)),(8,dI (k1:Int))]) (fun k1 _=>[]) I (fun k1 xk1 sk1 ok1 hxk1 hr hltk1 hik1=>?_) fun k1 sk1 ek1 hltk1=>?_
 refine bdE hr fun y1 hy1 hr=>J g<|J (CB' [(0,0)] [] (z3d ih_ieveryNode_iHasRemote_1 (m:=m) hy1))<|J (gn 1)<|ifE hr ?_ ?_<;>intro h1 hr
 exact e
 exact e
 subst ek1
 exact e
def q3S (rec_ieveryNode_iHasRemote_1:Expr→Option Bool)(a0:(List Expr)):Option Bool:=
 (q3Y rec_ieveryNode_iHasRemote_1 a0).bind fun y1=>
 some (decide (0≤y1))
theorem q7u {rec_ieveryNode_iHasRemote_1:Expr→Option Bool}(ih_ieveryNode_iHasRemote_1:∀ {m:Md} {a0:Expr} {r:Bool},rec_ieveryNode_iHasRemote_1 a0=some r→Ok Tryz.prog 101 [Expr.x m a0,.fn 135 []] [] (dB r) []){m:Md}{a0:(List Expr)}{r:Bool}(hr:q3S rec_ieveryNode_iHasRemote_1 a0=some r):Ok Tryz.prog 94 [.d m (.sl 7 (a0.map Expr.D)),.fn 137 [.pb 0 0]] [.box [.fn 135 []]] (dB r) [.box [.fn 135 []]]:=by
 refine OE Tryz.func94 fun S hS=>?_
 unfold q3S at hr
 refine bdE hr fun y1 hy1 hr=>J g<|J (CB' [(0,0)] [] (q7S ih_ieveryNode_iHasRemote_1 (m:=m) hy1))<|e
def q5T (rec_ieveryNode_iHasRemote_1:Expr→Option Bool)(a0:Expr):Option Bool:=
 (z2q a0).bind fun y1=>
 if y1=true then (
 (q3S rec_ieveryNode_iHasRemote_1 a0.Args).bind fun y2=>
 some (!y2)
 ) else (
 some false
 )
theorem z3J {rec_ieveryNode_iHasRemote_1:Expr→Option Bool}(ih_ieveryNode_iHasRemote_1:∀ {m:Md} {a0:Expr} {r:Bool},rec_ieveryNode_iHasRemote_1 a0=some r→Ok Tryz.prog 101 [Expr.x m a0,.fn 135 []] [] (dB r) []){m:Md}{a0:Expr}{r:Bool}(hr:q5T rec_ieveryNode_iHasRemote_1 a0=some r):Ok Tryz.prog 101 [Expr.x m a0,.fn 135 []] [] (dB r) []:=by
 refine OE Tryz.func101 fun S hS=>?_
 unfold q5T at hr
 refine J g<|J (BX' 0)<|J (BX' 1)<|bdE hr fun y1 hy1 hr=>J g<|J (CB' [] [] (j1B (m:=m) hy1))<|ifE hr ?_ ?_<;>intro h1 hr
 refine bdE hr fun y2 hy2 hr=>J g<|J (CB' [(0,1)] [] (q7u ih_ieveryNode_iHasRemote_1 (m:=m) hy2))<|e
 exact e
def q5U:Nat→Expr→Option Bool
  | 0,_=>none
  | n+1,a0=>q5T (q5U n) a0
def q8k (a0:Expr):Option Bool:=recO fun n=>q5U n a0
theorem z3K (n:Nat):∀ {m:Md} {a0:Expr} {r:Bool},q5U n a0=some r→Ok Tryz.prog 101 [Expr.x m a0,.fn 135 []] [] (dB r) []:=by
  induction n with
  | zero=>intro _ _ r hr; exact nomatch (show (none:Option Bool)=some r from hr)
  | succ n ih=>intro _ _ r hr; exact z3J ih hr
theorem z4d {m:Md}{a0:Expr}{r:Bool}(hr:q8k a0=some r):Ok Tryz.prog 101 [Expr.x m a0,.fn 135 []] [] (dB r) []:=by
 obtain⟨n,hn⟩:=q6D hr
 exact z3K n hn
def z2C (a0:Expr):Option Bool:=
 (q8k a0).bind fun y1=>
 some (!y1)
theorem j4i {m:Md}{a0:Expr}{r:Bool}(hr:z2C a0=some r):Ok Tryz.prog 96 [Expr.x m a0] [] (dB r) []:=by
 refine OE Tryz.func96 fun S hS=>?_
 unfold z2C at hr
 refine J g<|J (BX' 0)<|bdE hr fun y1 hy1 hr=>J g<|J (CB' [] [] (z4d (m:=m) hy1))<|e
def q7J:Nat→Expr→Unit→Option (Unit ⊕ Int):=fun k1 xk1 _=>
 (z2C xk1).bind fun y1=>
 if y1=true then (
 some (.inr (k1:Int))
 ) else (
 some (.inl ())
 )
def q5m (a0:(List Expr)):Option Int:=
 (findL q7J 0 a0 ()).bind <| onr (fun r1=>some r1) fun _=>
 some (-1)
theorem z0C {m:Md}{a0:(List Expr)}{r:Int}(hr:q5m a0=some r):Ok Tryz.prog 134 [.d m (.sl 7 (a0.map Expr.D)),.fn 96 []] [] (dI r) []:=by
 refine OE Tryz.func134 fun S hS=>?_
 unfold q5m at hr
 refine J (gn 12)<|J (lenT 0)<|fun hl1=>bdE hr fun q1 hqq1 hr=>q0b hqq1 hl1 0 (fun k1 _=>[(0,.d m (.sl 7 (a0.map Expr.D))),(1,.fn 96 []),(7,dI (a0.length:Int)),(8,dI (k1:Int))]) (fun k1 _=>[]) I (fun k1 xk1 sk1 ok1 hxk1 hr hltk1 hik1=>?_) fun k1 sk1 ek1 hltk1=>?_
 refine bdE hr fun y1 hy1 hr=>J g<|J (CB' [] [] (j4i (m:=m) hy1))<|J (gn 1)<|ifE hr ?_ ?_<;>intro h1 hr
 exact e
 exact e
 subst ek1
 exact e
def q4Y (a0:(List Expr)):Option Bool:=
 (q5m a0).bind fun y1=>
 some (decide (0≤y1))
theorem q9N {m:Md}{a0:(List Expr)}{r:Bool}(hr:q4Y a0=some r):Ok Tryz.prog 94 [.d m (.sl 7 (a0.map Expr.D)),.fn 96 []] [] (dB r) []:=by
 refine OE Tryz.func94 fun S hS=>?_
 unfold q4Y at hr
 refine bdE hr fun y1 hy1 hr=>J g<|J (CB' [] [] (z0C (m:=m) hy1))<|e
def z2r (a0:Rule):Option Bool:=
 (q9e a0).bind fun y1=>
 (q4Y y1).bind fun y2=>
 some y2
theorem j1C {m:Md}{a0:Rule}{r:Bool}(hr:z2r a0=some r):Ok Tryz.prog 93 [Rule.x m a0] [] (dB r) []:=by
 refine OE Tryz.func93 fun S hS=>?_
 unfold z2r at hr
 refine J g<|J (BX' 0)<|bdE hr fun y1 hy1 hr=>J g<|J (CB' [(0,1)] [] (z6H (m:=m) hy1))<|bdE hr fun y2 hy2 hr=>J (CB' [] [1] (q9N (m:=.bo) hy2))<|e
def q7q:Nat→Rule→Unit→Option (Unit ⊕ Int):=fun k1 xk1 _=>
 (z2r xk1).bind fun y1=>
 if y1=true then (
 some (.inr (k1:Int))
 ) else (
 some (.inl ())
 )
def q5d (a0:(List Rule)):Option Int:=
 (findL q7q 0 a0 ()).bind <| onr (fun r1=>some r1) fun _=>
 some (-1)
theorem z0c {m:Md}{a0:(List Rule)}{r:Int}(hr:q5d a0=some r):Ok Tryz.prog 133 [.d m (.sl 6 (a0.map Rule.D)),.fn 93 []] [] (dI r) []:=by
 refine OE Tryz.func133 fun S hS=>?_
 unfold q5d at hr
 refine J (gn 12)<|J (lenT 0)<|fun hl1=>bdE hr fun q1 hqq1 hr=>q0b hqq1 hl1 0 (fun k1 _=>[(0,.d m (.sl 6 (a0.map Rule.D))),(1,.fn 93 []),(7,dI (a0.length:Int)),(8,dI (k1:Int))]) (fun k1 _=>[]) I (fun k1 xk1 sk1 ok1 hxk1 hr hltk1 hik1=>?_) fun k1 sk1 ek1 hltk1=>?_
 refine bdE hr fun y1 hy1 hr=>J g<|J (CB' [] [] (j1C (m:=m) hy1))<|J (gn 1)<|ifE hr ?_ ?_<;>intro h1 hr
 exact e
 exact e
 subst ek1
 exact e
def q4P (a0:(List Rule)):Option Bool:=
 (q5d a0).bind fun y1=>
 some (decide (0≤y1))
theorem q9v {m:Md}{a0:(List Rule)}{r:Bool}(hr:q4P a0=some r):Ok Tryz.prog 92 [.d m (.sl 6 (a0.map Rule.D)),.fn 93 []] [] (dB r) []:=by
 refine OE Tryz.func92 fun S hS=>?_
 unfold q4P at hr
 refine bdE hr fun y1 hy1 hr=>J g<|J (CB' [] [] (z0c (m:=m) hy1))<|e
def z2D (a0:Grammar):Option Bool:=
 (q4P a0.Rules).bind fun y1=>
 some y1
theorem j4j {m:Md}{a0:Grammar}{r:Bool}(hr:z2D a0=some r):Ok Tryz.prog 49 [.ag [.u,.d m (.sl 6 (a0.Rules.map Rule.D))]] [] (dB r) []:=by
 refine OE Tryz.func49 fun S hS=>?_
 unfold z2D at hr
 refine J g<|J (BX' 0)<|bdE hr fun y1 hy1 hr=>J g<|J (CB' [] [] (q9v (m:=m) hy1))<|e
def z2s (a0:Attribute):Option Bool:=
 some (decide (a0.Mode=3))
theorem j1D {a0:Attribute}{r:Bool}(hr:z2s a0=some r):Ok Tryz.prog 51 [Attribute.x .fz a0] [] (dB r) []:=by
 refine OE Tryz.func51 fun S hS=>?_
 unfold z2s at hr
 refine J g<|J (BX' 0)<|e
def q6y:Nat→Attribute→Unit→Option (Unit ⊕ Int):=fun k1 xk1 _=>
 (z2s xk1).bind fun y1=>
 if y1=true then (
 some (.inr (k1:Int))
 ) else (
 some (.inl ())
 )
def q4z (a0:(List Attribute)):Option Int:=
 (findL q6y 0 a0 ()).bind <| onr (fun r1=>some r1) fun _=>
 some (-1)
theorem q8Y {m:Md}{a0:(List Attribute)}{r:Int}(hr:q4z a0=some r):Ok Tryz.prog 136 [.d m (.sl 4 (a0.map Attribute.D)),.fn 51 []] [] (dI r) []:=by
 refine OE Tryz.func136 fun S hS=>?_
 unfold q4z at hr
 refine J (gn 12)<|J (lenT 0)<|fun hl1=>bdE hr fun q1 hqq1 hr=>q0b hqq1 hl1 0 (fun k1 _=>[(0,.d m (.sl 4 (a0.map Attribute.D))),(1,.fn 51 []),(7,dI (a0.length:Int)),(8,dI (k1:Int))]) (fun k1 _=>[]) I (fun k1 xk1 sk1 ok1 hxk1 hr hltk1 hik1=>?_) fun k1 sk1 ek1 hltk1=>?_
 refine bdE hr fun y1 hy1 hr=>J g<|J (CB' [] [] (j1D hy1))<|J (gn 1)<|ifE hr ?_ ?_<;>intro h1 hr
 exact e
 exact e
 subst ek1
 exact e
def q4o (a0:(List Attribute)):Option Bool:=
 (q4z a0).bind fun y1=>
 some (decide (0≤y1))
theorem q8w {m:Md}{a0:(List Attribute)}{r:Bool}(hr:q4o a0=some r):Ok Tryz.prog 99 [.d m (.sl 4 (a0.map Attribute.D)),.fn 51 []] [] (dB r) []:=by
 refine OE Tryz.func99 fun S hS=>?_
 unfold q4o at hr
 refine bdE hr fun y1 hy1 hr=>J g<|J (CB' [] [] (q8Y (m:=m) hy1))<|e
def q5R (a0:Symbol):Option Bool:=
 (q4o a0.Attributes).bind fun y1=>
 some y1
theorem z1P {m:Md}{a0:Symbol}{r:Bool}(hr:q5R a0=some r):Ok Tryz.prog 98 [Symbol.x m a0,.pb 0 0] [.box [.fn 51 []]] (dB r) [.box [.fn 51 []]]:=by
 refine OE Tryz.func98 fun S hS=>?_
 unfold q5R at hr
 refine J g<|J (BX' 1)<|bdE hr fun y1 hy1 hr=>J g<|J (CB' [] [] (q8w (m:=m) hy1))<|e
def q5i:Nat→Symbol→Unit→Option (Unit ⊕ Int):=fun k1 xk1 _=>
 (q5R xk1).bind fun y1=>
 if y1=true then (
 some (.inr (k1:Int))
 ) else (
 some (.inl ())
 )
def q3P (a0:(List Symbol)):Option Int:=
 (findL q5i 0 a0 ()).bind <| onr (fun r1=>some r1) fun _=>
 some (-1)
theorem q7g {m:Md}{a0:(List Symbol)}{r:Int}(hr:q3P a0=some r):Ok Tryz.prog 60 [.d m (.sl 2 (a0.map Symbol.D)),.fn 98 [.pb 0 0]] [.box [.fn 51 []]] (dI r) [.box [.fn 51 []]]:=by
 refine OE Tryz.func60 fun S hS=>?_
 unfold q3P at hr
 refine J (gn 12)<|J (lenT 0)<|fun hl1=>bdE hr fun q1 hqq1 hr=>q0b hqq1 hl1 1 (fun k1 _=>[(0,.d m (.sl 2 (a0.map Symbol.D))),(1,.fn 98 [.pb 0 0]),(7,dI (a0.length:Int)),(8,dI (k1:Int))]) (fun k1 _=>[]) I (fun k1 xk1 sk1 ok1 hxk1 hr hltk1 hik1=>?_) fun k1 sk1 ek1 hltk1=>?_
 refine bdE hr fun y1 hy1 hr=>J g<|J (CB' [(0,0)] [] (z1P (m:=m) hy1))<|J (gn 1)<|ifE hr ?_ ?_<;>intro h1 hr
 exact e
 exact e
 subst ek1
 exact e
def q3M (a0:(List Symbol)):Option Bool:=
 (q3P a0).bind fun y1=>
 some (decide (0≤y1))
theorem q6S {m:Md}{a0:(List Symbol)}{r:Bool}(hr:q3M a0=some r):Ok Tryz.prog 97 [.d m (.sl 2 (a0.map Symbol.D)),.fn 98 [.pb 0 0]] [.box [.fn 51 []]] (dB r) [.box [.fn 51 []]]:=by
 refine OE Tryz.func97 fun S hS=>?_
 unfold q3M at hr
 refine bdE hr fun y1 hy1 hr=>J g<|J (CB' [(0,0)] [] (q7g (m:=m) hy1))<|e
def q5w (a0:Grammar):Option Bool:=
 (q3M a0.Symbols).bind fun y1=>
 some y1
theorem z2R {m:Md}{a0:Grammar}{r:Bool}(hr:q5w a0=some r):Ok Tryz.prog 50 [Grammar.y m a0,.fn 51 []] [] (dB r) []:=by
 refine OE Tryz.func50 fun S hS=>?_
 unfold q5w at hr
 refine J g<|J (BX' 0)<|J (BX' 1)<|bdE hr fun y1 hy1 hr=>J g<|J (CB' [(0,1)] [] (q6S (m:=m) hy1))<|e
def z3e (a0:Attribute):Option Bool:=
 some a0.Circular
theorem j2F {a0:Attribute}{r:Bool}(hr:z3e a0=some r):Ok Tryz.prog 52 [Attribute.x .fz a0] [] (dB r) []:=by
 refine OE Tryz.func52 fun S hS=>?_
 unfold z3e at hr
 refine J g<|J (BX' 0)<|e
def q6G:Nat→Attribute→Unit→Option (Unit ⊕ Int):=fun k1 xk1 _=>
 (z3e xk1).bind fun y1=>
 if y1=true then (
 some (.inr (k1:Int))
 ) else (
 some (.inl ())
 )
def q4I (a0:(List Attribute)):Option Int:=
 (findL q6G 0 a0 ()).bind <| onr (fun r1=>some r1) fun _=>
 some (-1)
theorem q9n {m:Md}{a0:(List Attribute)}{r:Int}(hr:q4I a0=some r):Ok Tryz.prog 136 [.d m (.sl 4 (a0.map Attribute.D)),.fn 52 []] [] (dI r) []:=by
 refine OE Tryz.func136 fun S hS=>?_
 unfold q4I at hr
 refine J (gn 12)<|J (lenT 0)<|fun hl1=>bdE hr fun q1 hqq1 hr=>q0b hqq1 hl1 0 (fun k1 _=>[(0,.d m (.sl 4 (a0.map Attribute.D))),(1,.fn 52 []),(7,dI (a0.length:Int)),(8,dI (k1:Int))]) (fun k1 _=>[]) I (fun k1 xk1 sk1 ok1 hxk1 hr hltk1 hik1=>?_) fun k1 sk1 ek1 hltk1=>?_
 refine bdE hr fun y1 hy1 hr=>J g<|J (CB' [] [] (j2F hy1))<|J (gn 1)<|ifE hr ?_ ?_<;>intro h1 hr
 exact e
 exact e
 subst ek1
 exact e
def q4t (a0:(List Attribute)):Option Bool:=
 (q4I a0).bind fun y1=>
 some (decide (0≤y1))
theorem q8H {m:Md}{a0:(List Attribute)}{r:Bool}(hr:q4t a0=some r):Ok Tryz.prog 99 [.d m (.sl 4 (a0.map Attribute.D)),.fn 52 []] [] (dB r) []:=by
 refine OE Tryz.func99 fun S hS=>?_
 unfold q4t at hr
 refine bdE hr fun y1 hy1 hr=>J g<|J (CB' [] [] (q9n (m:=m) hy1))<|e
def q5Z (a0:Symbol):Option Bool:=
 (q4t a0.Attributes).bind fun y1=>
 some y1
theorem z2E {m:Md}{a0:Symbol}{r:Bool}(hr:q5Z a0=some r):Ok Tryz.prog 98 [Symbol.x m a0,.pb 0 0] [.box [.fn 52 []]] (dB r) [.box [.fn 52 []]]:=by
 refine OE Tryz.func98 fun S hS=>?_
 unfold q5Z at hr
 refine J g<|J (BX' 1)<|bdE hr fun y1 hy1 hr=>J g<|J (CB' [] [] (q8H (m:=m) hy1))<|e
def q5r:Nat→Symbol→Unit→Option (Unit ⊕ Int):=fun k1 xk1 _=>
 (q5Z xk1).bind fun y1=>
 if y1=true then (
 some (.inr (k1:Int))
 ) else (
 some (.inl ())
 )
def q3R (a0:(List Symbol)):Option Int:=
 (findL q5r 0 a0 ()).bind <| onr (fun r1=>some r1) fun _=>
 some (-1)
theorem q7r {m:Md}{a0:(List Symbol)}{r:Int}(hr:q3R a0=some r):Ok Tryz.prog 60 [.d m (.sl 2 (a0.map Symbol.D)),.fn 98 [.pb 0 0]] [.box [.fn 52 []]] (dI r) [.box [.fn 52 []]]:=by
 refine OE Tryz.func60 fun S hS=>?_
 unfold q3R at hr
 refine J (gn 12)<|J (lenT 0)<|fun hl1=>bdE hr fun q1 hqq1 hr=>q0b hqq1 hl1 1 (fun k1 _=>[(0,.d m (.sl 2 (a0.map Symbol.D))),(1,.fn 98 [.pb 0 0]),(7,dI (a0.length:Int)),(8,dI (k1:Int))]) (fun k1 _=>[]) I (fun k1 xk1 sk1 ok1 hxk1 hr hltk1 hik1=>?_) fun k1 sk1 ek1 hltk1=>?_
 refine bdE hr fun y1 hy1 hr=>J g<|J (CB' [(0,0)] [] (z2E (m:=m) hy1))<|J (gn 1)<|ifE hr ?_ ?_<;>intro h1 hr
 exact e
 exact e
 subst ek1
 exact e
def q3O (a0:(List Symbol)):Option Bool:=
 (q3R a0).bind fun y1=>
 some (decide (0≤y1))
theorem q6U {m:Md}{a0:(List Symbol)}{r:Bool}(hr:q3O a0=some r):Ok Tryz.prog 97 [.d m (.sl 2 (a0.map Symbol.D)),.fn 98 [.pb 0 0]] [.box [.fn 52 []]] (dB r) [.box [.fn 52 []]]:=by
 refine OE Tryz.func97 fun S hS=>?_
 unfold q3O at hr
 refine bdE hr fun y1 hy1 hr=>J g<|J (CB' [(0,0)] [] (q7r (m:=m) hy1))<|e
def q5G (a0:Grammar):Option Bool:=
 (q3O a0.Symbols).bind fun y1=>
 some y1
theorem z3f {m:Md}{a0:Grammar}{r:Bool}(hr:q5G a0=some r):Ok Tryz.prog 50 [Grammar.y m a0,.fn 52 []] [] (dB r) []:=by
 refine OE Tryz.func50 fun S hS=>?_
 unfold q5G at hr
 refine J g<|J (BX' 0)<|J (BX' 1)<|bdE hr fun y1 hy1 hr=>J g<|J (CB' [(0,1)] [] (q6U (m:=m) hy1))<|e
def z3L (a0:Grammar):Option Bool:=
 (z3I a0).bind fun y1=>
 (
 if y1=true then (
 (z2D a0).bind fun y2=>
 some (!y2)
 ) else (
 some false
 )
 ).bind fun s1=>
 (
 if s1=true then (
 (q5w a0).bind fun y3=>
 some (!y3)
 ) else (
 some false
 )
 ).bind fun s2=>
 (
 if s2=true then (
 (q5G a0).bind fun y4=>
 some (!y4)
 ) else (
 some false
 )
 ).bind fun s3=>
 some s3
theorem j5T {m:Md}{a0:Grammar}{r:Bool}(hr:z3L a0=some r):Ok Tryz.prog 14 [Grammar.x m a0] [] (dB r) []:=by
 refine OE Tryz.func14 fun S hS=>?_
 unfold z3L at hr
 refine J g<|J (BX' 0)<|bdE hr fun y1 hy1 hr=>J g<|J (CB' [] [] (j5S (m:=m) hy1))<|bdE hr fun s1 hqq1 hr=>q0a 5 [(1,.pb 0 0),(2,dB false),(9,dB s1)] ?_ ?_
 replace hr:=hqq1
 refine ifE hr ?_ ?_<;>intro h1 hr
 refine bdE hr fun y2 hy2 hr=>J g<|J (CB' [] [] (j4j (m:=m) hy2))<|e
 exact e
 refine bdE hr fun s2 hqq2 hr=>q0a 5 [(1,.pb 0 0),(2,dB false),(14,dB s2)] ?_ ?_
 replace hr:=hqq2
 refine ifE hr ?_ ?_<;>intro h2 hr
 refine bdE hr fun y3 hy3 hr=>J g<|J (CB' [] [] (z2R (m:=m) hy3))<|e
 exact e
 refine bdE hr fun s3 hqq3 hr=>q0a 5 [(2,dB false),(19,dB s3)] ?_ ?_
 replace hr:=hqq3
 refine ifE hr ?_ ?_<;>intro h3 hr
 refine bdE hr fun y4 hy4 hr=>J g<|J (CB' [] [] (z3f (m:=m) hy4))<|e
 exact e
 exact e
def z3M:Nat→Attribute→((List Attribute))→Option ((List Attribute)):=fun k1 xk1 s1=>
 (
 if xk1.Mode=1 then (
 grd (((s1.length:Int)+1)*40≤140737488355328∧(s1.length:Int)+1≤9223372036854775807) <|
 some (s1++[xk1])
 ) else (
 if xk1.Mode=2 then (
 grd (((s1.length:Int)+1)*40≤140737488355328∧(s1.length:Int)+1≤9223372036854775807) <|
 some (s1++[xk1])
 ) else (
 some s1
 )
 )
 ).bind fun s2=>
 some s2
def q4j (a0:Grammar)(a1:ByteArray):Option (List Attribute):=
 (q5Y a0 a1).bind fun (y1,y2)=>
 (eachL z3M 0 y1.Attributes ([]:List Attribute)).bind fun s1=>
 some s1
theorem z0D {m:Md}{a0:Grammar}{a1:ByteArray}{r:(List Attribute)}(hr:q4j a0 a1=some r):Ok Tryz.prog 37 [Grammar.y m a0,dS a1] [] (.ref 0 none) [.row .fz 4 (r.map Attribute.D)]:=by
 refine OE Tryz.func37 fun S hS=>?_
 unfold q4j at hr
 refine J g<|J (BX' 0)<|J g<|J (L0' 1 Attribute.D)<|bdP hr fun y1 y2 hq1 hr=>J g<|J (CB' [] [] (q9d (m:=m) hq1))<|J g<|J (NV' 2)<|J (gn 12) ?_
 refine AW.len (.ag 1 (.tu 0 (.tmp 11 rfl) rfl) rfl) fun hl1=>?_
 refine bdE hr fun s1 hqq2 hr=>q0d hqq2 hl1 3 (fun k1 s1=>[(5,.ref 1 none),(18,.d m (.sl 4 (y1.Attributes.map Attribute.D))),(19,dI (y1.Attributes.length:Int)),(20,dI (k1:Int))]) (fun k1 s1=>[(1,.row .fz 4 (s1.map Attribute.D))]) I (fun k1 xk1 sk1 ok1 hxk1 hr hltk1=>?_) fun k1 hltk1=>?_
 obtain⟨s1,rfl⟩:∃ y,y=sk1:=⟨_,rfl⟩
 refine bdE hr fun s2 hqq3 hr=>J (gn 8)<|q0e 3 [(5,.ref 1 none),(18,.d m (.sl 4 (y1.Attributes.map Attribute.D))),(19,dI (y1.Attributes.length:Int)),(20,dI (k1:Int))] [(1,.row .fz 4 (s2.map Attribute.D))] ?_ ?_
 replace hr:=hqq3
 refine J g<|J (NV' 3)<|J (gn 7)<|ifE hr ?_ ?_<;>intro h1 hr
 refine J g<|J (LIR' 4 (m:=.fz) (f:=Attribute.D) (xs:=[xk1]))<|ggE hr fun g1 hr=>J (q9Z (f:=Attribute.D) 5 (fun _=>rfl) 40 g1)<|e
 refine J (gn 6)<|ifE hr ?_ ?_<;>intro h2 hr
 refine J g<|J (LIR' 4 (m:=.fz) (f:=Attribute.D) (xs:=[xk1]))<|ggE hr fun g2 hr=>J (q9Z (f:=Attribute.D) 5 (fun _=>rfl) 40 g2)<|e
 exact e
 exact e
 exact e
def q6z (a0:Int):Option Relation:=
 (q4d a0 0 16).bind fun y1=>
 if y1=true then (
 grd (0≤a0∧a0*8≤281474976710656∧a0≤9223372036854775807) <|
 some (⟨a0,(List.replicate a0.toNat (0:Int))⟩:Relation)
 ) else (
 some (⟨0,[]⟩:Relation)
 )
theorem z1Q {a0:Int}{r:Relation}(hr:q6z a0=some r):Ok Tryz.prog 53 [dI a0] [] (.ag [dI r.N,.ref 0 none]) [.row .fz 1 (r.Rows.map (A.D.i .i64))]:=by
 refine OE Tryz.func53 fun S hS=>?_
 unfold q6z at hr
 refine J g<|J (NV' 0)<|bdE hr fun y1 hy1 hr=>J g<|J (CB' [] [] (q4C hy1))<|J (gn 2)<|ifE hr ?_ ?_<;>intro h1 hr
 refine ggE hr fun g1 hr=>J g<|J (MKR' 1 (f:=(A.D.i .i64)) (0:Int) g1.1 g1.2.1 g1.2.2)<|e
 refine J (gn 7) ?_
 refine J (q0c (q0j (q:=0) (c:=1) (r:=1) .fz 1 rfl rfl rfl))<|J g<|E
def z4i (a0:Grammar):Nat→Symbol→((List Relation))→Option ((List Relation)):=fun k1 xk1 s1=>
 (q4j a0 xk1.Name).bind fun y1=>
 (q6z (y1.length:Int)).bind fun y2=>
 grd (((s1.length:Int)+1)*32≤140737488355328∧(s1.length:Int)+1≤9223372036854775807) <|
 some (s1++[y2])
def q8x (a0:Grammar):Option (List Relation):=
 (eachL (z4i a0) 0 a0.Symbols ([]:List Relation)).bind fun s1=>
 some s1
theorem z8z {m:Md}{a0:Grammar}{r:(List Relation)}(hr:q8x a0=some r):Ok Tryz.prog 15 [Grammar.y m a0] [] (.ref 0 none) [.row .fz 2 (r.map Relation.D)]:=by
 refine OE Tryz.func15 fun S hS=>?_
 unfold q8x at hr
 refine J g<|J (BX' 0)<|J g<|J (L0' 1 Relation.D)<|J (gn 11)<|J (lenA 0 0)<|fun hl1=>bdE hr fun s1 hqq1 hr=>q0d hqq1 hl1 2 (fun k1 s1=>[(1,.pb 0 0),(3,.ref 1 none),(8,.d m (.sl 2 (a0.Symbols.map Symbol.D))),(9,dI (a0.Symbols.length:Int)),(10,dI (k1:Int))]) (fun k1 s1=>[(1,.row .fz 2 (s1.map Relation.D))]) I (fun k1 xk1 sk1 ok1 hxk1 hr hltk1=>?_) fun k1 hltk1=>?_
 obtain⟨s1,rfl⟩:∃ y,y=sk1:=⟨_,rfl⟩
 refine J g<|J (NV' 2)<|bdE hr fun y1 hy1 hr=>J g<|J (CB' [(0,3)] [] (z0D (m:=m) hy1))<|bdE hr fun y2 hy2 hr=>J g<|J (CB' [(0,4)] [] (z1Q hy2)) ?_
 refine J (q0k 4 rfl)<|J (LIR' 5 (m:=.fz) (f:=Relation.D) (xs:=[y2]))<|ggE hr fun g1 hr=>J (AP1' 6 .fz 32 g1)<|J g<|E
 exact e
def q6l (k1:Nat):Nat→Attribute→((List Occurrence))→Option ((List Occurrence)):=fun k2 xk2 s2=>
 grd (((s2.length:Int)+1)*24≤140737488355328∧(s2.length:Int)+1≤9223372036854775807) <|
 some (s2++[(⟨(k1:Int),xk2.Name⟩:Occurrence)])
def q4v (a0:Grammar)(a1:Rule):Nat→((List Occurrence))→Option ((List Occurrence)):=fun k1 s1=>
 (q6L a1 (k1:Int)).bind fun y1=>
 (q4j a0 y1).bind fun y2=>
 (eachL (q6l k1) 0 y2 s1).bind fun s2=>
 some s2
def q5j (a0:Grammar)(a1:Rule):Option (List Occurrence):=
 grd (I64 ((a1.Right.length+1:Nat):Int)) <|
 (eachN (q4v a0 a1) 0 (a1.Right.length+1) ([]:List Occurrence)).bind fun s1=>
 some s1
theorem z4V {m:Md}{a0:Grammar}{a1:Rule}{r:(List Occurrence)}(hr:q5j a0 a1=some r):Ok Tryz.prog 54 [Grammar.y m a0,Rule.x m a1] [] (.ref 0 none) [.row .fz 2 (r.map Occurrence.D)]:=by
 refine OE Tryz.func54 fun S hS=>?_
 unfold q5j at hr
 refine J g<|J (BX' 0)<|J (BX' 1)<|J g<|J (L0' 2 Occurrence.D)<|ggE hr fun g1 hr=>J (gn 12)<|J (rngT 13)<|fun hl1=>bdE hr fun s1 hqq1 hr=>q0i hqq1 3 (fun k1 s1=>[(2,.pb 0 0),(3,.pb 1 0),(5,.ref 2 none),(13,dI ((a1.Right.length+1:Nat):Int)),(14,dI (k1:Int))]) (fun k1 s1=>[(2,.row .fz 2 (s1.map Occurrence.D))]) I (fun k1 sk1 ok1 hr hltk1=>?_) ?_
 obtain⟨s1,rfl⟩:∃ y,y=sk1:=⟨_,rfl⟩
 refine bdE hr fun y1 hy1 hr=>J g<|J (CB' [] [] (z0N (m:=m) hy1))<|bdE hr fun y2 hy2 hr=>J (CB' [(0,3)] [] (z0D (m:=m) hy2))<|J (gn 4)<|J (lenR 3)<|fun hl2=>bdE hr fun s2 hqq2 hr=>q0d hqq2 hl2 4 (fun k2 s2=>[(2,.pb 0 0),(3,.pb 1 0),(5,.ref 2 none),(6,dI (k1:Int)),(13,dI ((a1.Right.length+1:Nat):Int)),(14,dI (k1:Int)),(21,.ref 3 none),(22,dI (y2.length:Int)),(23,dI (k2:Int))]) (fun k2 s2=>[(2,.row .fz 2 (s2.map Occurrence.D))]) I (fun k2 xk2 sk2 ok2 hxk2 hr hltk2=>?_) fun k2 hltk2=>?_
 obtain⟨s2,rfl⟩:∃ y,y=sk2:=⟨_,rfl⟩
 refine J g<|J (NV' 4)<|J g<|J (LIR' 5 (m:=.fz) (f:=Occurrence.D) (xs:=[(⟨(k1:Int),xk2.Name⟩:Occurrence)]))<|ggE hr fun g2 hr=>J (q9Z (f:=Occurrence.D) 6 (fun _=>rfl) 24 g2)<|e
 exact e
 exact e
def j5U (rec_icopyExpr:Expr→Option Expr):Nat→Expr→((List Expr))→Option ((List Expr)):=fun k1 xk1 s1=>
 (rec_icopyExpr xk1).bind fun y1=>
 grd (((s1.length:Int)+1)*88≤140737488355328∧(s1.length:Int)+1≤9223372036854775807) <|
 some (s1++[y1])
def z5E (rec_icopyExpr:Expr→Option Expr)(a0:Expr):Option Expr:=
 (eachL (j5U rec_icopyExpr) 0 a0.Args ([]:List Expr)).bind fun s1=>
 some (⟨a0.Kind,a0.N,a0.Pos,a0.Type_,a0.Symbol,a0.Name,s1⟩:Expr)
theorem j4k {rec_icopyExpr:Expr→Option Expr}(ih_icopyExpr:∀ {m:Md} {a0:Expr} {r:Expr},rec_icopyExpr a0=some r→Ok Tryz.prog 100 [Expr.x m a0] [] (.ag [dI r.Kind,dI r.N,dI r.Pos,dI r.Type_,dS r.Symbol,dS r.Name,.ref 0 none]) [.row .fz 7 (r.Args.map Expr.D)]){m:Md}{a0:Expr}{r:Expr}(hr:z5E rec_icopyExpr a0=some r):Ok Tryz.prog 100 [Expr.x m a0] [] (.ag [dI r.Kind,dI r.N,dI r.Pos,dI r.Type_,dS r.Symbol,dS r.Name,.ref 0 none]) [.row .fz 7 (r.Args.map Expr.D)]:=by
 refine OE Tryz.func100 fun S hS=>?_
 unfold z5E at hr
 refine J g<|J (BX' 0)<|J (NV' 1)<|J (gn 14) ?_
 refine J (q2Z 3 2 .fz 7 rfl)<|J (lenA 6 0)<|fun hl1=>bdE hr fun s1 hqq1 hr=>q0d hqq1 hl1 3 (fun k1 s1=>[(1,.pb 0 0),(2,.pb 1 0),(3,.ref 2 none),(7,.d m (.sl 7 (a0.Args.map Expr.D))),(8,dI (a0.Args.length:Int)),(9,dI (k1:Int))]) (fun k1 s1=>[(2,.row .fz 7 (s1.map Expr.D))]) I (fun k1 xk1 sk1 ok1 hxk1 hr hltk1=>?_) fun k1 hltk1=>?_
 obtain⟨s1,rfl⟩:∃ y,y=sk1:=⟨_,rfl⟩
 refine J g<|J (NV' 3)<|bdE hr fun y1 hy1 hr=>J g<|J (CB' [(0,4)] [] (ih_icopyExpr (m:=m) hy1)) ?_
 refine J (q0k 4 rfl) ?_
 refine J (j5E 5 (m:=.fz) (f:=Expr.D) [y1] (by simp only [List.map_cons,List.map_nil,Expr.D_eq]; rfl))<|ggE hr fun g1 hr=>J (AP1' 6 .fz 88 g1)<|J g<|E
 exact e
def z1R:Nat→Expr→Option Expr
  | 0,_=>none
  | n+1,a0=>z5E (z1R n) a0
def z7P (a0:Expr):Option Expr:=recO fun n=>z1R n a0
theorem j4l (n:Nat):∀ {m:Md} {a0:Expr} {r:Expr},z1R n a0=some r→Ok Tryz.prog 100 [Expr.x m a0] [] (.ag [dI r.Kind,dI r.N,dI r.Pos,dI r.Type_,dS r.Symbol,dS r.Name,.ref 0 none]) [.row .fz 7 (r.Args.map Expr.D)]:=by
  induction n with
  | zero=>intro _ _ r hr; exact nomatch (show (none:Option Expr)=some r from hr)
  | succ n ih=>intro _ _ r hr; exact j4k ih hr
theorem j5V {m:Md}{a0:Expr}{r:Expr}(hr:z7P a0=some r):Ok Tryz.prog 100 [Expr.x m a0] [] (.ag [dI r.Kind,dI r.N,dI r.Pos,dI r.Type_,dS r.Symbol,dS r.Name,.ref 0 none]) [.row .fz 7 (r.Args.map Expr.D)]:=by
 obtain⟨n,hn⟩:=q6D hr
 exact j4l n hn
def z2S (a1:Occurrence):Nat→Equation→Unit→Option (Unit ⊕ (Expr × Bool)):=fun k1 xk1 _=>
 if xk1.At=a1 then (
 (z7P xk1.Expr).bind fun y1=>
 some (.inr (y1,true))
 ) else (
 some (.inl ())
 )
def q8y (a0:Rule)(a1:Occurrence):Option (Expr × Bool):=
 (findL (z2S a1) 0 a0.Equations ()).bind <| onr (fun r1=>some r1) fun _=>
 some ((⟨0,0,0,0,(⟨#[]⟩:ByteArray),(⟨#[]⟩:ByteArray),[]⟩:Expr),false)
theorem j0m {m:Md}{a0:Rule}{a1:Occurrence}{r:(Expr × Bool)}(hr:q8y a0 a1=some r):Ok Tryz.prog 55 [Rule.x m a0,Occurrence.x .fz a1] [] (.tu [.ag [dI r.1.Kind,dI r.1.N,dI r.1.Pos,dI r.1.Type_,dS r.1.Symbol,dS r.1.Name,.ref 0 none],dB r.2]) [.row .fz 7 (r.1.Args.map Expr.D)]:=by
 refine OE Tryz.func55 fun S hS=>?_
 unfold q8y at hr
 refine J g<|J (BX' 0)<|J (BX' 1)<|J (NV' 2)<|J (gn 11)<|J (lenA 4 0)<|fun hl1=>bdE hr fun q1 hqq1 hr=>q0b hqq1 hl1 3 (fun k1 _=>[(3,.pb 1 0),(4,.pb 2 0),(9,.d m (.sl 9 (a0.Equations.map Equation.D))),(10,dI (a0.Equations.length:Int)),(11,dI (k1:Int))]) (fun k1 _=>[]) I (fun k1 xk1 sk1 ok1 hxk1 hr hltk1 hik1=>?_) fun k1 sk1 ek1 hltk1=>?_
 refine J g<|J (NV' 3)<|J g ?_
 refine J (SQ' rfl rfl rfl rfl (q6o xk1.At a1))<|J (gn 1)<|ifE hr ?_ ?_<;>intro h1 hr
 refine bdE hr fun y1 hy1 hr=>J g<|J (CB' [(0,4)] [] (j5V (m:=m) hy1))<|e
 exact e
 subst ek1
 refine J (gn 14) ?_
 refine J (q0c (q0j (q:=2) (c:=6) (r:=3) .fz 7 rfl rfl rfl))<|J g<|E
def q5x (a0:(List Occurrence))(a1:Occurrence):Option Int:=
 (q3T a0 a1).bind fun y1=>
 some y1
theorem z7Q {m:Md}{a0:(List Occurrence)}{a1:Occurrence}{r:Int}(hr:q5x a0 a1=some r):Ok Tryz.prog 58 [.d m (.sl 2 (a0.map Occurrence.D)),Occurrence.x .fz a1] [] (dI r) []:=by
 refine OE Tryz.func58 fun S hS=>?_
 unfold q5x at hr
 refine J g<|J (BX' 0)<|bdE hr fun y1 hy1 hr=>J g<|J (CB' [] [] (q9W (m:=m) hy1))<|e
def q9r (a0:(List Int)):Option (List Int):=
 grd (((([]:(List Int)).length:Int)+(a0.length:Int))*8≤140737488355328∧(([]:(List Int)).length:Int)+(a0.length:Int)≤9223372036854775807) <|
 some a0
theorem z7R {m:Md}{a0:(List Int)}{r:(List Int)}(hr:q9r a0=some r):Ok Tryz.prog 107 [.d m (.sl 1 (a0.map (A.D.i .i64)))] [] (.ref 0 none) [.row .fz 1 (r.map (A.D.i .i64))]:=by
 refine OE Tryz.func107 fun S hS=>?_
 unfold q9r at hr
 refine ggE hr fun g1 hr=>J (gn 6) ?_
 refine q2V rfl fun q hq=>?_
 cases q with
 | true=>
 refine J g ?_
 have e0:a0=[]:=List.map_eq_nil_iff.1 (hq rfl)
 subst e0
 refine J (q0c (q0p (t:=2) (r:=0) .fz 1 rfl rfl))<|J g<|E
 | false=>
 refine J g<|J (L0' 0 (A.D.i .i64))<|J g<|J (APf' 1 (fun _=>rfl) g1)<|e
def q7K (a0:Relation):Option Relation:=
 (q9r a0.Rows).bind fun y1=>
 some (⟨a0.N,y1⟩:Relation)
theorem z2T {m:Md}{a0:Relation}{r:Relation}(hr:q7K a0=some r):Ok Tryz.prog 63 [Relation.x m a0] [] (.ag [dI r.N,.ref 0 none]) [.row .fz 1 (r.Rows.map (A.D.i .i64))]:=by
 refine OE Tryz.func63 fun S hS=>?_
 unfold q7K at hr
 refine J g<|J (BX' 0)<|J (NV' 1)<|bdE hr fun y1 hy1 hr=>J g<|J (CB' [(0,2)] [] (z7R (m:=m) hy1))<|e
def q7s (a0:Int)(a1:Relation):Option Bool:=
 grd (0≤a1.N) <|
 grd (0≤a1.N∧a1.N < 63) <|
 (q4d a0 0 (((2 ^ a1.N.toNat:Nat):Int) - 1)).bind fun y1=>
 some (!y1)
theorem z6J {m2:Md}{a0:Int}{a1:Relation}{r:Bool}(hr:q7s a0 a1=some r):Ok Tryz.prog 109 [dI a0,.pb 0 0] [.box [dI a1.N,.d m2 (.sl 1 (a1.Rows.map (A.D.i .i64)))]] (dB r) [.box [dI a1.N,.d m2 (.sl 1 (a1.Rows.map (A.D.i .i64)))]]:=by
 refine OE Tryz.func109 fun S hS=>?_
 unfold q7s at hr
 refine ggE hr fun g1 hr=>J g ?_
 refine J (CIU' g1 rfl)<|ggE hr fun g2 hr=>J (OB' _ (j5y g2))<|J (OB' _ (k6q (p:=(2 ^ a1.N.toNat)) (k:=1) (by decide)))<|bdE hr fun y1 hy1 hr=>J (CB' [] [] (q4C hy1))<|J g<|E
def q5k (a1_0:Relation):Nat→Int→Unit→Option (Unit ⊕ Int):=fun k1 xk1 _=>
 (q7s xk1 a1_0).bind fun y1=>
 if y1=true then (
 some (.inr (k1:Int))
 ) else (
 some (.inl ())
 )
def q4A (a0:(List Int))(a1_0:Relation):Option Int:=
 (findL (q5k a1_0) 0 a0 ()).bind <| onr (fun r1=>some r1) fun _=>
 some (-1)
theorem q8Z {m:Md}{m2:Md}{a0:(List Int)}{a1_0:Relation}{r:Int}(hr:q4A a0 a1_0=some r):Ok Tryz.prog 143 [.d m (.sl 1 (a0.map (A.D.i .i64))),.fn 109 [.pb 0 0]] [.box [dI a1_0.N,.d m2 (.sl 1 (a1_0.Rows.map (A.D.i .i64)))]] (dI r) [.box [dI a1_0.N,.d m2 (.sl 1 (a1_0.Rows.map (A.D.i .i64)))]]:=by
 refine OE Tryz.func143 fun S hS=>?_
 unfold q4A at hr
 refine J (gn 12)<|J (lenT 0)<|fun hl1=>bdE hr fun q1 hqq1 hr=>q0b hqq1 hl1 1 (fun k1 _=>[(0,.d m (.sl 1 (a0.map (A.D.i .i64)))),(1,.fn 109 [.pb 0 0]),(7,dI (a0.length:Int)),(8,dI (k1:Int))]) (fun k1 _=>[]) I (fun k1 xk1 sk1 ok1 hxk1 hr hltk1 hik1=>?_) fun k1 sk1 ek1 hltk1=>?_
 refine bdE hr fun y1 hy1 hr=>J g<|J (CB' [(0,0)] [] (z6J (m2:=m2) hy1))<|J (gn 1)<|ifE hr ?_ ?_<;>intro h1 hr
 exact e
 exact e
 subst ek1
 exact e
def q4p (a0:(List Int))(a1_0:Relation):Option Bool:=
 (q4A a0 a1_0).bind fun y1=>
 some (decide (0≤y1))
theorem q8z {m:Md}{m2:Md}{a0:(List Int)}{a1_0:Relation}{r:Bool}(hr:q4p a0 a1_0=some r):Ok Tryz.prog 108 [.d m (.sl 1 (a0.map (A.D.i .i64))),.fn 109 [.pb 0 0]] [.box [dI a1_0.N,.d m2 (.sl 1 (a1_0.Rows.map (A.D.i .i64)))]] (dB r) [.box [dI a1_0.N,.d m2 (.sl 1 (a1_0.Rows.map (A.D.i .i64)))]]:=by
 refine OE Tryz.func108 fun S hS=>?_
 unfold q4p at hr
 refine bdE hr fun y1 hy1 hr=>J g<|J (CB' [(0,0)] [] (q8Z (m:=m) (m2:=m2) hy1))<|e
def q4Q (a0:Relation):Option Bool:=
 (q4d a0.N 0 16).bind fun y1=>
 (
 if y1=true then (
 some (decide ((a0.Rows.length:Int)=a0.N))
 ) else (
 some false
 )
 ).bind fun s1=>
 (
 if s1=true then (
 (q4p a0.Rows a0).bind fun y2=>
 some (!y2)
 ) else (
 some false
 )
 ).bind fun s2=>
 some s2
theorem q6c {m:Md}{a0:Relation}{r:Bool}(hr:q4Q a0=some r):Ok Tryz.prog 64 [Relation.x m a0] [] (dB r) []:=by
 refine OE Tryz.func64 fun S hS=>?_
 unfold q4Q at hr
 refine J g<|J (BX' 0)<|bdE hr fun y1 hy1 hr=>J g<|J (CB' [] [] (q4C hy1))<|bdE hr fun s1 hqq1 hr=>q0a 8 [(1,.pb 0 0),(2,dB false),(13,dB s1)] ?_ ?_
 replace hr:=hqq1
 refine ifE hr ?_ ?_<;>intro h1 hr
 exact e
 exact e
 refine bdE hr fun s2 hqq2 hr=>q0a 7 [(2,dB false),(20,dB s2)] ?_ ?_
 replace hr:=hqq2
 refine ifE hr ?_ ?_<;>intro h2 hr
 refine bdE hr fun y2 hy2 hr=>J g<|J (CB' [(0,0)] [] (q8z (m:=m) (m2:=m) hy2))<|e
 exact e
 exact e
def z1S (a0:Relation)(a1:Int)(a2:Int):Option Relation:=
 (q7K a0).bind fun y1=>
 (q4Q a0).bind fun y2=>
 (
 if y2=true then (
 grd (I64 (a0.N - 1)) <|
 (q4d a1 0 (a0.N - 1)).bind fun y3=>
 some y3
 ) else (
 some false
 )
 ).bind fun s1=>
 (
 if s1=true then (
 grd (I64 (a0.N - 1)) <|
 (q4d a2 0 (a0.N - 1)).bind fun y4=>
 some y4
 ) else (
 some false
 )
 ).bind fun s2=>
 if s2=true then (
 grd (0≤a1) <|
 (y1.Rows[a1.toNat]?).bind fun x1=>
 grd (0≤a2) <|
 grd (0≤a2∧a2 < 63) <|
 grd (0≤x1∧0≤((2 ^ a2.toNat:Nat):Int)) <|
 some (⟨y1.N,(List.set y1.Rows a1.toNat ((x1.toNat ||| ((2 ^ a2.toNat:Nat):Int).toNat:Nat):Int))⟩:Relation)
 ) else (
 some y1
 )
theorem j1E {m:Md}{a0:Relation}{a1:Int}{a2:Int}{r:Relation}(hr:z1S a0 a1 a2=some r):Ok Tryz.prog 57 [Relation.x m a0,dI a1,dI a2] [] (.ag [dI r.N,.ref 0 none]) [.row .fz 1 (r.Rows.map (A.D.i .i64))]:=by
 refine OE Tryz.func57 fun S hS=>?_
 unfold z1S at hr
 refine J g<|J (BX' 0)<|J (NV' 1)<|bdE hr fun y1 hy1 hr=>J g<|J (CB' [(0,2)] [] (z2T (m:=m) hy1))<|J (NV' 3)<|bdE hr fun y2 hy2 hr=>J g<|J (CB' [] [] (q6c (m:=m) hy2))<|bdE hr fun s1 hqq1 hr=>q0a 7 [(1,dI a1),(2,dI a2),(3,.pb 0 0),(6,.pb 1 0),(7,.pb 3 0),(18,dB s1)] ?_ ?_
 replace hr:=hqq1
 refine ifE hr ?_ ?_<;>intro h1 hr
 refine ggE hr fun g1 hr=>bdE hr fun y3 hy3 hr=>J g<|J (CB' [] [] (q4C hy3))<|e
 exact e
 refine bdE hr fun s2 hqq2 hr=>q0a 7 [(1,dI a1),(2,dI a2),(6,.pb 1 0),(7,.pb 3 0),(25,dB s2)] ?_ ?_
 replace hr:=hqq2
 refine ifE hr ?_ ?_<;>intro h2 hr
 refine ggE hr fun g2 hr=>bdE hr fun y4 hy4 hr=>J g<|J (CB' [] [] (q4C hy4))<|e
 exact e
 refine J (gn 1)<|ifE hr ?_ ?_<;>intro h3 hr
 refine ggE hr fun g3 hr=>bdE hr fun x1 hx1 hr=>ggE hr fun g4 hr=>J g ?_
 refine J (CIU' g4 rfl)<|ggE hr fun g5 hr=>J (OB' _ (j5y g5))<|ggE hr fun g6 hr=>J (OB' _ (bOrI g6))<|J g<|J (SE' ((x1.toNat ||| ((2 ^ a2.toNat:Nat):Int).toNat:Nat):Int) hx1)<|J g<|E
 exact e
def q6M (y1:(List Occurrence))(k1:Nat):Nat→Occurrence→((List Int) × Int)→Option ((List Int) × Int):=fun k2 xk2 (s3,s4)=>
 (q5x y1 xk2).bind fun y6=>
 (z1S (⟨s4,s3⟩:Relation) y6 (k1:Int)).bind fun y7=>
 some (y7.Rows,y7.N)
def q6N (a1:Rule)(y1:(List Occurrence)):Nat→Occurrence→((List Int) × Int)→Option ((List Int) × Int):=fun k1 xk1 (s1,s2)=>
 (q8y a1 xk1).bind fun (y3,y4)=>
 (q7Z y3).bind fun y5=>
 (eachL (q6M y1 k1) 0 y5 (s1,s2)).bind fun (s3,s4)=>
 some (s3,s4)
def q6A (a0:Grammar)(a1:Rule):Option Relation:=
 (q5j a0 a1).bind fun y1=>
 (q6z (y1.length:Int)).bind fun y2=>
 if 16 < (y1.length:Int) then (
 some (⟨0,[]⟩:Relation)
 ) else (
 (eachL (q6N a1 y1) 0 y1 (y2.Rows,y2.N)).bind fun (s1,s2)=>
 some (⟨s2,s1⟩:Relation)
 )
theorem z9l {m:Md}{a0:Grammar}{a1:Rule}{r:Relation}(hr:q6A a0 a1=some r):Ok Tryz.prog 16 [Grammar.y m a0,Rule.x m a1] [] (.ag [dI r.N,.ref 0 none]) [.row .fz 1 (r.Rows.map (A.D.i .i64))]:=by
 refine OE Tryz.func16 fun S hS=>?_
 unfold q6A at hr
 refine J g<|J (BX' 0)<|J (BX' 1)<|J (NV' 2)<|bdE hr fun y1 hy1 hr=>J g<|J (CB' [(0,3)] [] (z4V (m:=m) hy1))<|bdE hr fun y2 hy2 hr=>J g<|J (CB' [(0,4)] [] (z1Q hy2))<|J (NV' 5)<|J (gn 9)<|ifE hr ?_ ?_<;>intro h1 hr
 refine J (gn 7) ?_
 refine J (q0c (q0j (q:=2) (c:=1) (r:=6) .fz 1 rfl rfl rfl))<|J g<|E
 refine J (gn 10)<|J (lenR 3)<|fun hl1=>bdP hr fun s1 s2 hqq1 hr=>q0d hqq1 hl1 6 (fun k1 (s1,s2)=>[(3,.pb 1 0),(4,.pb 2 0),(5,.ref 3 none),(6,.pb 5 0),(23,.ref 3 none),(24,dI (y1.length:Int)),(25,dI (k1:Int))]) (fun k1 (s1,s2)=>[(4,.row .fz 1 (s1.map (A.D.i .i64))),(5,.box [dI s2,.ref 4 none])]) I (fun k1 xk1 sk1 ok1 hxk1 hr hltk1=>?_) fun k1 hltk1=>?_
 obtain⟨s1,s2⟩:=sk1
 refine J g<|J (NV' 6)<|bdP hr fun y3 y4 hq2 hr=>J g<|J (CB' [(0,7)] [] (j0m (m:=m) hq2))<|J g<|J (NV' 8)<|bdE hr fun y5 hy5 hr=>J g<|J (CB' [(0,9)] [7] (z4T (m:=.bo) hy5))<|J (gn 4)<|J (lenR 9)<|fun hl2=>bdP hr fun s3 s4 hqq3 hr=>q0d hqq3 hl2 10 (fun k2 (s3,s4)=>[(3,.pb 1 0),(4,.pb 2 0),(5,.ref 3 none),(6,.pb 5 0),(7,dI (k1:Int)),(23,.ref 3 none),(24,dI (y1.length:Int)),(25,dI (k1:Int)),(37,.ref 9 none),(38,dI (y5.length:Int)),(39,dI (k2:Int))]) (fun k2 (s3,s4)=>[(4,.row .fz 1 (s3.map (A.D.i .i64))),(5,.box [dI s4,.ref 4 none])]) I (fun k2 xk2 sk2 ok2 hxk2 hr hltk2=>?_) fun k2 hltk2=>?_
 obtain⟨s3,s4⟩:=sk2
 refine J g<|J (NV' 10)<|bdE hr fun y6 hy6 hr=>J g<|J (CB' [] [3] (z7Q (m:=.bo) hy6))<|bdE hr fun y7 hy7 hr=>J g<|J (CB' [(0,11)] [4] (j1E (m:=.bo) hy7))<|e
 exact e
 exact e
def z0t (a0:Symbol)(a1:ByteArray):Option Bool:=
 some (decide (a0.Name=a1))
theorem z9m {m:Md}{a0:Symbol}{a1:ByteArray}{r:Bool}(hr:z0t a0 a1=some r):Ok Tryz.prog 61 [Symbol.x m a0,.pb 0 0] [.box [dS a1]] (dB r) [.box [dS a1]]:=by
 refine OE Tryz.func61 fun S hS=>?_
 unfold z0t at hr
 refine J g<|J (BX' 1)<|e
def q6H (a1_0:ByteArray):Nat→Symbol→Unit→Option (Unit ⊕ Int):=fun k1 xk1 _=>
 (z0t xk1 a1_0).bind fun y1=>
 if y1=true then (
 some (.inr (k1:Int))
 ) else (
 some (.inl ())
 )
def q4J (a0:(List Symbol))(a1_0:ByteArray):Option Int:=
 (findL (q6H a1_0) 0 a0 ()).bind <| onr (fun r1=>some r1) fun _=>
 some (-1)
theorem q9o {m:Md}{a0:(List Symbol)}{a1_0:ByteArray}{r:Int}(hr:q4J a0 a1_0=some r):Ok Tryz.prog 60 [.d m (.sl 2 (a0.map Symbol.D)),.fn 61 [.pb 0 0]] [.box [dS a1_0]] (dI r) [.box [dS a1_0]]:=by
 refine OE Tryz.func60 fun S hS=>?_
 unfold q4J at hr
 refine J (gn 12)<|J (lenT 0)<|fun hl1=>bdE hr fun q1 hqq1 hr=>q0b hqq1 hl1 1 (fun k1 _=>[(0,.d m (.sl 2 (a0.map Symbol.D))),(1,.fn 61 [.pb 0 0]),(7,dI (a0.length:Int)),(8,dI (k1:Int))]) (fun k1 _=>[]) I (fun k1 xk1 sk1 ok1 hxk1 hr hltk1 hik1=>?_) fun k1 sk1 ek1 hltk1=>?_
 refine bdE hr fun y1 hy1 hr=>J g<|J (CB' [(0,0)] [] (z9m (m:=m) hy1))<|J (gn 1)<|ifE hr ?_ ?_<;>intro h1 hr
 exact e
 exact e
 subst ek1
 exact e
def q9f (a0:Grammar)(a1:ByteArray):Option Int:=
 (q4J a0.Symbols a1).bind fun y1=>
 some y1
theorem z6K {m:Md}{a0:Grammar}{a1:ByteArray}{r:Int}(hr:q9f a0 a1=some r):Ok Tryz.prog 18 [Grammar.y m a0,dS a1] [] (dI r) []:=by
 refine OE Tryz.func18 fun S hS=>?_
 unfold q9f at hr
 refine J g<|J (BX' 0)<|J (BX' 1)<|bdE hr fun y1 hy1 hr=>J g<|J (CB' [(0,1)] [] (q9o (m:=m) hy1))<|e
def q5f (a2:Int):Nat→Occurrence→((List Int))→Option ((List Int)):=fun k1 xk1 s1=>
 (
 if xk1.Pos=a2 then (
 grd (((s1.length:Int)+1)*8≤140737488355328∧(s1.length:Int)+1≤9223372036854775807) <|
 some (s1++[(k1:Int)])
 ) else (
 some s1
 )
 ).bind fun s2=>
 some s2
def q4R (a0:Grammar)(a1:Rule)(a2:Int):Option (List Int):=
 (q5j a0 a1).bind fun y1=>
 (eachL (q5f a2) 0 y1 ([]:List Int)).bind fun s1=>
 some s1
theorem z3N {m:Md}{a0:Grammar}{a1:Rule}{a2:Int}{r:(List Int)}(hr:q4R a0 a1 a2=some r):Ok Tryz.prog 24 [Grammar.y m a0,Rule.x m a1,dI a2] [] (.ref 0 none) [.row .fz 1 (r.map (A.D.i .i64))]:=by
 refine OE Tryz.func24 fun S hS=>?_
 unfold q4R at hr
 refine J g<|J (BX' 0)<|J (BX' 1)<|J g<|J (L0' 2 (A.D.i .i64))<|bdE hr fun y1 hy1 hr=>J g<|J (CB' [(0,3)] [] (z4V (m:=m) hy1))<|J (gn 4)<|J (lenR 3)<|fun hl1=>bdE hr fun s1 hqq1 hr=>q0d hqq1 hl1 4 (fun k1 s1=>[(2,dI a2),(7,.ref 2 none),(13,.ref 3 none),(14,dI (y1.length:Int)),(15,dI (k1:Int))]) (fun k1 s1=>[(2,.row .fz 1 (s1.map (A.D.i .i64)))]) I (fun k1 xk1 sk1 ok1 hxk1 hr hltk1=>?_) fun k1 hltk1=>?_
 obtain⟨s1,rfl⟩:∃ y,y=sk1:=⟨_,rfl⟩
 refine bdE hr fun s2 hqq2 hr=>J (gn 8)<|q0e 4 [(2,dI a2),(7,.ref 2 none),(13,.ref 3 none),(14,dI (y1.length:Int)),(15,dI (k1:Int))] [(2,.row .fz 1 (s2.map (A.D.i .i64)))] ?_ ?_
 replace hr:=hqq2
 refine J g<|J (NV' 4)<|J (gn 10)<|ifE hr ?_ ?_<;>intro h1 hr
 refine J g<|J (LIR' 5 (m:=.fz) (f:=(A.D.i .i64)) (xs:=([(k1:Int)]:List Int)))<|ggE hr fun g1 hr=>J (q9Z (f:=(A.D.i .i64)) 6 (fun _=>rfl) 8 g1)<|e
 exact e
 exact e
 exact e
def q9g (a0:Relation)(a1:Int)(a2:Int):Option Bool:=
 (q4Q a0).bind fun y1=>
 (
 if y1=true then (
 grd (I64 (a0.N - 1)) <|
 (q4d a1 0 (a0.N - 1)).bind fun y2=>
 some y2
 ) else (
 some false
 )
 ).bind fun s1=>
 (
 if s1=true then (
 grd (I64 (a0.N - 1)) <|
 (q4d a2 0 (a0.N - 1)).bind fun y3=>
 some y3
 ) else (
 some false
 )
 ).bind fun s2=>
 (
 if s2=true then (
 grd (0≤a1) <|
 (a0.Rows[a1.toNat]?).bind fun x1=>
 grd (0≤a2) <|
 grd (0≤x1∧0≤a2∧a2 < 64) <|
 grd (0≤((x1.toNat >>> a2.toNat:Nat):Int)∧0≤(1:Int)) <|
 some (decide (((((x1.toNat >>> a2.toNat:Nat):Int).toNat &&& (1:Int).toNat:Nat):Int)=1))
 ) else (
 some false
 )
 ).bind fun s3=>
 some s3
theorem z5F {m:Md}{a0:Relation}{a1:Int}{a2:Int}{r:Bool}(hr:q9g a0 a1 a2=some r):Ok Tryz.prog 59 [Relation.x m a0,dI a1,dI a2] [] (dB r) []:=by
 refine OE Tryz.func59 fun S hS=>?_
 unfold q9g at hr
 refine J g<|J (BX' 0)<|bdE hr fun y1 hy1 hr=>J g<|J (CB' [] [] (q6c (m:=m) hy1))<|bdE hr fun s1 hqq1 hr=>q0a 7 [(1,dI a1),(2,dI a2),(3,.pb 0 0),(6,dB false),(15,dB s1)] ?_ ?_
 replace hr:=hqq1
 refine ifE hr ?_ ?_<;>intro h1 hr
 refine ggE hr fun g1 hr=>bdE hr fun y2 hy2 hr=>J g<|J (CB' [] [] (q4C hy2))<|e
 exact e
 refine bdE hr fun s2 hqq2 hr=>q0a 7 [(1,dI a1),(2,dI a2),(3,.pb 0 0),(6,dB false),(22,dB s2)] ?_ ?_
 replace hr:=hqq2
 refine ifE hr ?_ ?_<;>intro h2 hr
 refine ggE hr fun g2 hr=>bdE hr fun y3 hy3 hr=>J g<|J (CB' [] [] (q4C hy3))<|e
 exact e
 refine bdE hr fun s3 hqq3 hr=>q0a 12 [(6,dB false),(34,dB s3)] ?_ ?_
 replace hr:=hqq3
 refine ifE hr ?_ ?_<;>intro h3 hr
 refine ggE hr fun g3 hr=>bdE hr fun x1 hx1 hr=>ggE hr fun g4 hr=>J g ?_
 refine J (CIU' g4 rfl)<|ggE hr fun g5 hr=>J (OB' _ (k2T g5))<|ggE hr fun g6 hr=>J (OB' _ (k2U g6))<|J g<|E
 exact e
 exact e
def z8A (a4:Relation)(k1:Nat)(xk1:Int):Nat→Int→(Int × (List Int))→Option (Int × (List Int)):=fun k2 xk2 (s3,s4)=>
 (
 (q9g a4 (k1:Int) (k2:Int)).bind fun y2=>
 if y2=true then (
 (z1S (⟨s3,s4⟩:Relation) xk1 xk2).bind fun y3=>
 some (y3.N,y3.Rows)
 ) else (
 some (s3,s4)
 )
 ).bind fun (s5,s6)=>
 some (s5,s6)
def z8B (a4:Relation)(y1:(List Int)):Nat→Int→(Int × (List Int))→Option (Int × (List Int)):=fun k1 xk1 (s1,s2)=>
 (eachL (z8A a4 k1 xk1) 0 y1 (s1,s2)).bind fun (s3,s4)=>
 some (s3,s4)
def z7q (a0:Grammar)(a1:Rule)(a2:Relation)(a3:Int)(a4:Relation):Option Relation:=
 (q4R a0 a1 a3).bind fun y1=>
 (eachL (z8B a4 y1) 0 y1 (a2.N,a2.Rows)).bind fun (s1,s2)=>
 some (⟨s1,s2⟩:Relation)
theorem k1b {m:Md}{a0:Grammar}{a1:Rule}{a2:Relation}{a3:Int}{a4:Relation}{r:Relation}(hr:z7q a0 a1 a2 a3 a4=some r):Ok Tryz.prog 17 [Grammar.y m a0,Rule.x m a1,Relation.x m a2,dI a3,Relation.x m a4] [] (Relation.x m r) []:=by
 refine OE Tryz.func17 fun S hS=>?_
 unfold z7q at hr
 refine J g<|J (BX' 0)<|J (BX' 1)<|J (BX' 2)<|J (BX' 3)<|J (NV' 4)<|bdE hr fun y1 hy1 hr=>J g<|J (CB' [(0,5)] [] (z3N (m:=m) hy1))<|J (gn 10)<|J (lenR 5)<|fun hl1=>bdP hr fun s1 s2 hqq1 hr=>q0d hqq1 hl1 6 (fun k1 (s1,s2)=>[(7,.pb 2 0),(9,.pb 3 0),(10,.pb 4 0),(11,.ref 5 none),(20,.ref 5 none),(21,dI (y1.length:Int)),(22,dI (k1:Int))]) (fun k1 (s1,s2)=>[(2,.box [dI s1,.d m (.sl 1 (s2.map (A.D.i .i64)))])]) I (fun k1 xk1 sk1 ok1 hxk1 hr hltk1=>?_) fun k1 hltk1=>?_
 obtain⟨s1,s2⟩:=sk1
 refine J (gn 24)<|J (lenR 5)<|fun hl2=>bdP hr fun s3 s4 hqq2 hr=>q0d hqq2 hl2 6 (fun k2 (s3,s4)=>[(7,.pb 2 0),(9,.pb 3 0),(10,.pb 4 0),(11,.ref 5 none),(12,dI (k1:Int)),(13,dI xk1),(20,.ref 5 none),(21,dI (y1.length:Int)),(22,dI (k1:Int)),(27,.ref 5 none),(28,dI (y1.length:Int)),(29,dI (k2:Int))]) (fun k2 (s3,s4)=>[(2,.box [dI s3,.d m (.sl 1 (s4.map (A.D.i .i64)))])]) I (fun k2 xk2 sk2 ok2 hxk2 hr hltk2=>?_) fun k2 hltk2=>?_
 obtain⟨s3,s4⟩:=sk2
 refine bdP hr fun s5 s6 hqq3 hr=>J (gn 8)<|q0e 6 [(7,.pb 2 0),(9,.pb 3 0),(10,.pb 4 0),(11,.ref 5 none),(12,dI (k1:Int)),(13,dI xk1),(20,.ref 5 none),(21,dI (y1.length:Int)),(22,dI (k1:Int)),(27,.ref 5 none),(28,dI (y1.length:Int)),(29,dI (k2:Int))] [(2,.box [dI s5,.d m (.sl 1 (s6.map (A.D.i .i64)))])] ?_ ?_
 replace hr:=hqq3
 refine bdE hr fun y2 hy2 hr=>J g<|J (CB' [] [] (z5F (m:=m) hy2))<|J (gn 1)<|ifE hr ?_ ?_<;>intro h1 hr
 refine bdE hr fun y3 hy3 hr=>J g<|J (CB' [(0,6)] [] (j1E (m:=m) hy3))<|J (gn 2) ?_
 cases hr
 exact GH.trans (q0l (r:=6) rfl) (GH.trans (q0y (q:=0) [.d m (.sl 2 (a0.Symbols.map Symbol.D)),.u] (.cons .rfl (.cons .u .nil)) rfl) (GH.trans (q0y (q:=2) [dI y3.N,.d m (.sl 1 (y3.Rows.map (A.D.i .i64)))] (.cons .rfl (.cons (.md rfl) .nil)) rfl) (q0g hS 6)))
 exact e
 exact e
 exact e
 exact e
end Go.Proofs.YtpnkinhphabkcaaGreat
