/- What some functions of the program compute, as partial functions on plain data, and that they do; each lemma bears its conditions in its statement. -/
import Derived.Test.YtpnkinhphabkcaaGreatLift7
set_option linter.unusedVariables false
set_option linter.unusedSimpArgs false
set_option linter.ambiguousOpen false
set_option linter.unusedSectionVars false
set_option linter.unnecessarySimpa false
set_option maxRecDepth 100000
set_option maxHeartbeats 40000000
noncomputable section
namespace Go.Proofs.YtpnkinhphabkcaaGreat
open Go Go.E Go.A
def j1J (a0:Grammar)(a1:Rule):Nat→Occurrence→Unit→Option (Unit ⊕ Bool):=fun k1 xk1 _=>
 (z6Q a0 a1 xk1).bind fun y2=>
 if y2=true then (
 some (.inl ())
 ) else (
 some (.inr false)
 )
def z1W (a0:Grammar)(a1:Rule)(a2:Expr):Option Bool:=
 (q7i a2).bind fun y1=>
 (findL (j1J a0 a1) 0 y1 ()).bind <| onr (fun r1=>some r1) fun _=>
 some true
theorem z7V {m:Md}{a0:Grammar}{a1:Rule}{a2:Expr}{r:Bool}(hr:z1W a0 a1 a2=some r):Ok Tryz.prog 219 [Grammar.y m a0,Rule.x m a1,Expr.x m a2] [] (dB r) []:=by
 refine OE Tryz.func219 fun S hS=>?_
 unfold z1W at hr
 refine J g<|J (BX' 0)<|J (BX' 1)<|J (BX' 2)<|bdE hr fun y1 hy1 hr=>J g<|J (CB' [] [] (z4Z (m:=m) hy1))<|J (gn 8)<|J (lenT 7)<|fun hl1=>bdE hr fun q1 hqq1 hr=>q0b hqq1 hl1 3 (fun k1 _=>[(3,.pb 0 0),(4,.pb 1 0),(7,.d m (.sl 2 (y1.map Occurrence.D))),(8,dI (k1:Int))]) (fun k1 _=>[]) I (fun k1 xk1 sk1 ok1 hxk1 hr hltk1 hik1=>?_) fun k1 sk1 ek1 hltk1=>?_
 refine bdE hr fun y2 hy2 hr=>J g<|J (CB' [] [] (j9O (m:=m) hy2))<|J (gn 2)<|ifE hr ?_ ?_<;>intro h1 hr
 exact e
 exact e
 subst ek1
 exact e
def z8G (a0:Grammar)(a1:Rule):Nat→Equation→Unit→Option (Unit ⊕ Bool):=fun k1 xk1 _=>
 (z1W a0 a1 xk1.Expr).bind fun y1=>
 if y1=true then (
 some (.inl ())
 ) else (
 some (.inr true)
 )
def z8H (a0:Grammar)(a1:Rule):Nat→Contribution→Unit→Option (Unit ⊕ Bool):=fun k2 xk2 _=>
 (z1W a0 a1 xk2.Target).bind fun y2=>
 if y2=true then (
 (z1W a0 a1 xk2.Value).bind fun y3=>
 if y3=true then (
 some (.inl ())
 ) else (
 some (.inr true)
 )
 ) else (
 some (.inr true)
 )
def z2J (a0:Grammar)(a1:Rule):Option Bool:=
 (findL (z8G a0 a1) 0 a1.Equations ()).bind <| onr (fun r1=>some r1) fun _=>
 (findL (z8H a0 a1) 0 a1.Contributions ()).bind <| onr (fun r2=>some r2) fun _=>
 some false
theorem j4o {m:Md}{a0:Grammar}{a1:Rule}{r:Bool}(hr:z2J a0 a1=some r):Ok Tryz.prog 188 [Grammar.y m a0,Rule.x m a1] [] (dB r) []:=by
 refine OE Tryz.func188 fun S hS=>?_
 unfold z2J at hr
 refine J g<|J (BX' 0)<|J (BX' 1)<|J (gn 8)<|J (lenA 4 1)<|fun hl1=>bdE hr fun q1 hqq1 hr=>q0b hqq1 hl1 2 (fun k1 _=>[(2,.pb 0 0),(3,.pb 1 0),(5,dI (k1:Int))]) (fun k1 _=>[]) I (fun k1 xk1 sk1 ok1 hxk1 hr hltk1 hik1=>?_) fun k1 sk1 ek1 hltk1=>?_
 refine bdE hr fun y1 hy1 hr=>J g<|J (CB' [] [] (z7V (m:=m) hy1))<|J (gn 2)<|ifE hr ?_ ?_<;>intro h1 hr
 exact e
 exact e
 subst ek1
 refine J (gn 17) ?_
 refine AW.len (.box 1 5 rfl rfl) fun hl2=>?_
 refine bdE hr fun q2 hqq2 hr=>q0b hqq2 hl2 2 (fun k2 _=>[(2,.pb 0 0),(3,.pb 1 0),(6,dI (k2:Int))]) (fun k2 _=>[]) I (fun k2 xk2 sk2 ok2 hxk2 hr hltk2 hik2=>?_) fun k2 sk2 ek2 hltk2=>?_
 refine bdE hr fun y2 hy2 hr=>J g<|J (CB' [] [] (z7V (m:=m) hy2))<|J (gn 1)<|ifE hr ?_ ?_<;>intro h2 hr
 refine bdE hr fun y3 hy3 hr=>J g<|J (CB' [] [] (z7V (m:=m) hy3))<|J (gn 3)<|ifE hr ?_ ?_<;>intro h3 hr
 exact e
 exact e
 exact e
 subst ek2
 exact e
def z2K (a0:Grammar)(a1:Rule)(a2:Int):Option Bool:=
 if a2=3 then (
 (z1m a0 a1).bind fun y1=>
 some (!y1)
 ) else (
 if a2=4 then (
 (z1o a0 a1).bind fun y2=>
 some y2
 ) else (
 if a2=5 then (
 (z3P a0 a1).bind fun y3=>
 some y3
 ) else (
 (z2J a0 a1).bind fun y4=>
 some y4
 )
 )
 )
theorem j4p {m:Md}{a0:Grammar}{a1:Rule}{a2:Int}{r:Bool}(hr:z2K a0 a1 a2=some r):Ok Tryz.prog 147 [Grammar.y m a0,Rule.x m a1,dI a2] [] (dB r) []:=by
 refine OE Tryz.func147 fun S hS=>?_
 unfold z2K at hr
 refine J g<|J (BX' 0)<|J (BX' 1)<|J (gn 13)<|ifE hr ?_ ?_<;>intro h1 hr
 refine bdE hr fun y1 hy1 hr=>J g<|J (CB' [] [] (j2I (m:=m) hy1))<|e
 refine J (gn 6)<|ifE hr ?_ ?_<;>intro h2 hr
 refine bdE hr fun y2 hy2 hr=>J g<|J (CB' [] [] (j2J (m:=m) hy2))<|e
 refine J (gn 6)<|ifE hr ?_ ?_<;>intro h3 hr
 refine bdE hr fun y3 hy3 hr=>J g<|J (CB' [] [] (j5W (m:=m) hy3))<|e
 refine bdE hr fun y4 hy4 hr=>J g<|J (CB' [] [] (j4o (m:=m) hy4))<|e
def z7C:Nat→Attribute→Unit→Option (Unit ⊕ (Int × Int)):=fun k1 xk1 _=>
 if xk1.Mode=1 then (
 some (.inr (2,0))
 ) else (
 some (.inl ())
 )
def z2t (a0:Grammar)(s1:Int):Nat→Rule→Unit→Option (Unit ⊕ (Int × Int)):=fun k3 xk3 _=>
 (z2K a0 xk3 s1).bind fun y4=>
 if y4=true then (
 some (.inr (s1,(k3:Int)))
 ) else (
 some (.inl ())
 )
def z2u (a0:Grammar):Int→Option (Int ⊕ (Unit ⊕ (Int × Int))):=fun s1=>
 if s1≤6 then (
 (findL (z2t a0 s1) 0 a0.Rules ()).bind <| onr (fun r2=>some (.inr (.inr r2))) fun _=>
 grd (I64 (s1+1)) <|
 some (.inl (s1+1))
 ) else (
 some (.inr (.inl ()))
 )
def z1p (a0:Grammar):Option (Int × Int):=
 (q5O (a0.Symbols.length:Int) 1 4).bind fun y1=>
 if y1=true then (
 (q5O (a0.Rules.length:Int) 1 8).bind fun y2=>
 if y2=true then (
 (z6P a0).bind fun y3=>
 if 0≤y3 then (
 some (1,y3)
 ) else (
 (a0.Symbols[0]?).bind fun x1=>
 (findL z7C 0 x1.Attributes ()).bind <| onr (fun r1=>some r1) fun _=>
 (q4L (z2u a0) 3).bind <| onr (fun r3=>some r3) fun ()=>
 some (0,0)
 )
 ) else (
 some (1,0)
 )
 ) else (
 some (1,0)
 )
theorem j2K {m:Md}{a0:Grammar}{r:(Int × Int)}(hr:z1p a0=some r):Ok Tryz.prog 116 [Grammar.x m a0] [] (.tu [dI r.1,dI r.2]) []:=by
 refine OE Tryz.func116 fun S hS=>?_
 unfold z1p at hr
 refine J g<|J (BX' 0)<|bdE hr fun y1 hy1 hr=>J g<|J (CB' [] [] (q5W hy1))<|J (gn 1)<|ifE hr ?_ ?_<;>intro h1 hr
 refine bdE hr fun y2 hy2 hr=>J g<|J (CB' [] [] (q5W hy2))<|J (gn 3)<|ifE hr ?_ ?_<;>intro h2 hr
 refine bdE hr fun y3 hy3 hr=>J g<|J (CB' [] [] (j9L (m:=m) hy3))<|J (gn 8)<|ifE hr ?_ ?_<;>intro h3 hr
 exact e
 refine bdE hr fun x1 hx1 hr=>J (gn 8) ?_
 refine AW.len (.el 1 (.ag 0 (.tmp 0 rfl) rfl) hx1 rfl) fun hl1=>?_
 refine bdE hr fun q1 hqq1 hr=>q0b hqq1 hl1 1 (fun k1 _=>[(1,.pb 0 0),(5,dI (k1:Int))]) (fun k1 _=>[]) I (fun k1 xk1 sk1 ok1 hxk1 hr hltk1 hik1=>?_) fun k1 sk1 ek1 hltk1=>?_
 refine J (gn 29)<|ifE hr ?_ ?_<;>intro h4 hr
 exact e
 exact e
 subst ek1
 refine bdE hr fun q2 hqq2 hr=>J (gn 19)<|AW.cut 1 (fun _=>[]) (fun _=>[]) (M:=fun x=>q2 = .inl x) ?_ fun x hx=>?_
 refine J g<|q0h hqq2 1 (fun s1=>[(1,.pb 0 0),(6,dI s1)]) (fun s1=>[]) I fun sk2 ok2 hr hik2=>?_
 obtain⟨s1,rfl⟩:∃ y,y=sk2:=⟨_,rfl⟩
 have hr:=hr
 refine J (gn 6)<|ifE hr ?_ ?_<;>intro h5 hr
 refine J (gn 9) ?_
 refine AW.len (.box 0 1 rfl rfl) fun hl3=>?_
 refine bdE hr fun q3 hqq3 hr=>q0b hqq3 hl3 1 (fun k3 _=>[(1,.pb 0 0),(6,dI s1),(7,dI (k3:Int))]) (fun k3 _=>[]) I (fun k3 xk3 sk3 ok3 hxk3 hr hltk3 hik3=>?_) fun k3 sk3 ek3 hltk3=>?_
 refine bdE hr fun y4 hy4 hr=>J g<|J (CB' [] [] (j4p (m:=m) hy4))<|J (gn 1)<|ifE hr ?_ ?_<;>intro h6 hr
 exact e
 exact e
 subst ek3
 refine ggE hr fun g1 hr=>e
 refine J (gn 2) ?_
 cases hr
 cases hik2 _ rfl
 exact⟨_,rfl,q0g hS 1⟩
 subst hx
 exact e
 exact e
 exact e
def q7N (a0:Grammar)(a1:ByteArray)(a2:ByteArray):Option Int:=
 (q5u a0 a1).bind fun (y1,y2)=>
 (q5X y1 a2).bind fun (y3,y4)=>
 if y4=true then (
 some y3.Type_
 ) else (
 some 0
 )
theorem z2U {m:Md}{a0:Grammar}{a1:ByteArray}{a2:ByteArray}{r:Int}(hr:q7N a0 a1 a2=some r):Ok Tryz.prog 149 [Grammar.y m a0,dS a1,dS a2] [] (dI r) []:=by
 refine OE Tryz.func149 fun S hS=>?_
 unfold q7N at hr
 refine J g<|J (BX' 0)<|bdP hr fun y1 y2 hq1 hr=>J g<|J (CB' [(0,1)] [] (q7w (m:=m) hq1))<|J g<|J (NV' 2)<|bdP hr fun y3 y4 hq2 hr=>J g<|J (CB' [] [1] (q9I (m:=.bo) hq2))<|J g<|J (NV' 3)<|J (gn 9)<|ifE hr ?_ ?_<;>intro h1 hr
 exact e
 exact e
def j0A (rec_sTypeOfExpr:Grammar→Rule→Expr→Option Int)(a0:Grammar)(a1:Rule)(a2:Expr):Option Int:=
 (q5b a2.N).bind fun (y1,y2,y3)=>
 if (a2.Args.length:Int)=2 then (
 (a2.Args[0]?).bind fun x1=>
 (rec_sTypeOfExpr a0 a1 x1).bind fun y4=>
 if y4=y1 then (
 (a2.Args[1]?).bind fun x2=>
 (rec_sTypeOfExpr a0 a1 x2).bind fun y5=>
 if y5=y2 then (
 some y3
 ) else (
 some 0
 )
 ) else (
 some 0
 )
 ) else (
 some 0
 )
theorem k1d {rec_sTypeOfExpr:Grammar→Rule→Expr→Option Int}(ih_sTypeOfExpr:∀ {m:Md} {a0:Grammar} {a1:Rule} {a2:Expr} {r:Int},rec_sTypeOfExpr a0 a1 a2=some r→Ok Tryz.prog 148 [Grammar.y m a0,Rule.x m a1,Expr.x m a2] [] (dI r) []){m:Md}{a0:Grammar}{a1:Rule}{a2:Expr}{r:Int}(hr:j0A rec_sTypeOfExpr a0 a1 a2=some r):Ok Tryz.prog 189 [Grammar.y m a0,Rule.x m a1,Expr.x m a2] [] (dI r) []:=by
 refine OE Tryz.func189 fun S hS=>?_
 unfold j0A at hr
 refine J g<|J (BX' 0)<|J (BX' 1)<|J (BX' 2)<|bdT hr fun y1 y2 y3 hq1 hr=>J g<|J (CB' [] [] (q7c hq1))<|J (gn 15)<|ifE hr ?_ ?_<;>intro h1 hr
 refine bdE hr fun x1 hx1 hr=>bdE hr fun y4 hy4 hr=>J g<|J (CB' [] [] (ih_sTypeOfExpr (m:=m) hy4))<|J (gn 3)<|ifE hr ?_ ?_<;>intro h2 hr
 refine bdE hr fun x2 hx2 hr=>bdE hr fun y5 hy5 hr=>J g<|J (CB' [] [] (ih_sTypeOfExpr (m:=m) hy5))<|J (gn 4)<|ifE hr ?_ ?_<;>intro h3 hr
 exact e
 exact e
 exact e
 exact e
def j0B (rec_sTypeOfExpr:Grammar→Rule→Expr→Option Int)(a0:Grammar)(a1:Rule)(a2:Expr):Option Int:=
 if (a2.Args.length:Int)=3 then (
 (a2.Args[0]?).bind fun x1=>
 (rec_sTypeOfExpr a0 a1 x1).bind fun y1=>
 if y1=3 then (
 (a2.Args[1]?).bind fun x2=>
 (rec_sTypeOfExpr a0 a1 x2).bind fun y2=>
 (a2.Args[2]?).bind fun x3=>
 (rec_sTypeOfExpr a0 a1 x3).bind fun y3=>
 if y2=y3 then (
 some y2
 ) else (
 some 0
 )
 ) else (
 some 0
 )
 ) else (
 some 0
 )
theorem k1e {rec_sTypeOfExpr:Grammar→Rule→Expr→Option Int}(ih_sTypeOfExpr:∀ {m:Md} {a0:Grammar} {a1:Rule} {a2:Expr} {r:Int},rec_sTypeOfExpr a0 a1 a2=some r→Ok Tryz.prog 148 [Grammar.y m a0,Rule.x m a1,Expr.x m a2] [] (dI r) []){m:Md}{a0:Grammar}{a1:Rule}{a2:Expr}{r:Int}(hr:j0B rec_sTypeOfExpr a0 a1 a2=some r):Ok Tryz.prog 190 [Grammar.y m a0,Rule.x m a1,Expr.x m a2] [] (dI r) []:=by
 refine OE Tryz.func190 fun S hS=>?_
 unfold j0B at hr
 refine J g<|J (BX' 0)<|J (BX' 1)<|J (BX' 2)<|J (gn 9)<|ifE hr ?_ ?_<;>intro h1 hr
 refine bdE hr fun x1 hx1 hr=>bdE hr fun y1 hy1 hr=>J g<|J (CB' [] [] (ih_sTypeOfExpr (m:=m) hy1))<|J (gn 3)<|ifE hr ?_ ?_<;>intro h2 hr
 refine bdE hr fun x2 hx2 hr=>bdE hr fun y2 hy2 hr=>J g<|J (CB' [] [] (ih_sTypeOfExpr (m:=m) hy2))<|bdE hr fun x3 hx3 hr=>bdE hr fun y3 hy3 hr=>J g<|J (CB' [] [] (ih_sTypeOfExpr (m:=m) hy3))<|J (gn 2)<|ifE hr ?_ ?_<;>intro h3 hr
 exact e
 exact e
 exact e
 exact e
def z1q (rec_sTypeOfExpr:Grammar→Rule→Expr→Option Int)(a0:Grammar)(a1:Rule)(a2:Expr):Option Int:=
 if a2.Kind=1 then (
 some a2.Type_
 ) else (
 if a2.Kind=2 then (
 if a1.Literal=true then (
 some 1
 ) else (
 some 0
 )
 ) else (
 if a2.Kind=3 then (
 (q5O a2.Pos 0 (a1.Right.length:Int)).bind fun y1=>
 if y1=true then (
 (q5s a1 a2.Pos).bind fun y2=>
 (q7N a0 y2 a2.Name).bind fun y3=>
 some y3
 ) else (
 some 0
 )
 ) else (
 if a2.Kind=4 then (
 (j0A rec_sTypeOfExpr a0 a1 a2).bind fun y4=>
 some y4
 ) else (
 if a2.Kind=5 then (
 (j0B rec_sTypeOfExpr a0 a1 a2).bind fun y5=>
 some y5
 ) else (
 if a2.Kind=6 then (
 (q5O a2.Pos 0 (a1.Right.length:Int)).bind fun y6=>
 if y6=true then (
 some 4
 ) else (
 some 0
 )
 ) else (
 if a2.Kind=7 then (
 some 4
 ) else (
 if a2.Kind=8 then (
 if (a2.Args.length:Int)=1 then (
 (a2.Args[0]?).bind fun x1=>
 (rec_sTypeOfExpr a0 a1 x1).bind fun y7=>
 if y7=4 then (
 (q7N a0 a2.Symbol a2.Name).bind fun y8=>
 some y8
 ) else (
 some 0
 )
 ) else (
 some 0
 )
 ) else (
 some 0
 )
 )
 )
 )
 )
 )
 )
 )
theorem j1K {rec_sTypeOfExpr:Grammar→Rule→Expr→Option Int}(ih_sTypeOfExpr:∀ {m:Md} {a0:Grammar} {a1:Rule} {a2:Expr} {r:Int},rec_sTypeOfExpr a0 a1 a2=some r→Ok Tryz.prog 148 [Grammar.y m a0,Rule.x m a1,Expr.x m a2] [] (dI r) []){m:Md}{a0:Grammar}{a1:Rule}{a2:Expr}{r:Int}(hr:z1q rec_sTypeOfExpr a0 a1 a2=some r):Ok Tryz.prog 148 [Grammar.y m a0,Rule.x m a1,Expr.x m a2] [] (dI r) []:=by
 refine OE Tryz.func148 fun S hS=>?_
 unfold z1q at hr
 refine J g<|J (BX' 0)<|J (BX' 1)<|J (BX' 2)<|J (gn 14)<|ifE hr ?_ ?_<;>intro h1 hr
 exact e
 refine J (gn 6)<|ifE hr ?_ ?_<;>intro h2 hr
 refine J (gn 6)<|ifE hr ?_ ?_<;>intro h3 hr
 exact e
 exact e
 refine J (gn 6)<|ifE hr ?_ ?_<;>intro h4 hr
 refine bdE hr fun y1 hy1 hr=>J g<|J (CB' [] [] (q5W hy1))<|J (gn 1)<|ifE hr ?_ ?_<;>intro h5 hr
 refine bdE hr fun y2 hy2 hr=>J g<|J (CB' [] [] (q7v (m:=m) hy2))<|bdE hr fun y3 hy3 hr=>J g<|J (CB' [] [] (z2U (m:=m) hy3))<|e
 exact e
 refine J (gn 6)<|ifE hr ?_ ?_<;>intro h6 hr
 refine bdE hr fun y4 hy4 hr=>J g<|J (CB' [] [] (k1d ih_sTypeOfExpr (m:=m) hy4))<|e
 refine J (gn 6)<|ifE hr ?_ ?_<;>intro h7 hr
 refine bdE hr fun y5 hy5 hr=>J g<|J (CB' [] [] (k1e ih_sTypeOfExpr (m:=m) hy5))<|e
 refine J (gn 6)<|ifE hr ?_ ?_<;>intro h8 hr
 refine bdE hr fun y6 hy6 hr=>J g<|J (CB' [] [] (q5W hy6))<|J (gn 1)<|ifE hr ?_ ?_<;>intro h9 hr
 exact e
 exact e
 refine J (gn 6)<|ifE hr ?_ ?_<;>intro h10 hr
 exact e
 refine J (gn 6)<|ifE hr ?_ ?_<;>intro h11 hr
 refine J (gn 7)<|ifE hr ?_ ?_<;>intro h12 hr
 refine bdE hr fun x1 hx1 hr=>bdE hr fun y7 hy7 hr=>J g<|J (CB' [] [] (ih_sTypeOfExpr (m:=m) hy7))<|J (gn 3)<|ifE hr ?_ ?_<;>intro h13 hr
 refine bdE hr fun y8 hy8 hr=>J g<|J (CB' [] [] (z2U (m:=m) hy8))<|e
 exact e
 exact e
 exact e
def q9P:Nat→Grammar→Rule→Expr→Option Int
  | 0,_,_,_=>none
  | n+1,a0,a1,a2=>z1q (q9P n) a0 a1 a2
def z1r (a0:Grammar)(a1:Rule)(a2:Expr):Option Int:=recO fun n=>q9P n a0 a1 a2
theorem j1L (n:Nat):∀ {m:Md} {a0:Grammar} {a1:Rule} {a2:Expr} {r:Int},q9P n a0 a1 a2=some r→Ok Tryz.prog 148 [Grammar.y m a0,Rule.x m a1,Expr.x m a2] [] (dI r) []:=by
  induction n with
  | zero=>intro _ _ _ _ r hr; exact nomatch (show (none:Option Int)=some r from hr)
  | succ n ih=>intro _ _ _ _ r hr; exact j1K ih hr
theorem z4y {m:Md}{a0:Grammar}{a1:Rule}{a2:Expr}{r:Int}(hr:z1r a0 a1 a2=some r):Ok Tryz.prog 148 [Grammar.y m a0,Rule.x m a1,Expr.x m a2] [] (dI r) []:=by
 obtain⟨n,hn⟩:=q6D hr
 exact j1L n hn
def j1M (a0:Grammar)(a1:Rule):Nat→Equation→Unit→Option (Unit ⊕ Bool):=fun k1 xk1 _=>
 (z1r a0 a1 xk1.Expr).bind fun y1=>
 (q5s a1 xk1.At.Pos).bind fun y2=>
 (q7N a0 y2 xk1.At.Name).bind fun y3=>
 if y1=y3 then (
 some (.inl ())
 ) else (
 some (.inr false)
 )
def j1N (a0:Grammar)(a1:Rule):Nat→Contribution→Unit→Option (Unit ⊕ Bool):=fun k2 xk2 _=>
 (q5u a0 xk2.Symbol).bind fun (y4,y5)=>
 (q5X y4 xk2.Name).bind fun (y6,y7)=>
 (
 if y7=true then (
 some (!(decide (y6.Mode=3)))
 ) else (
 some true
 )
 ).bind fun s1=>
 (
 if s1=true then (
 some true
 ) else (
 (z1r a0 a1 xk2.Target).bind fun y8=>
 some (!(decide (y8=4)))
 )
 ).bind fun s2=>
 (
 if s2=true then (
 some true
 ) else (
 (z1r a0 a1 xk2.Value).bind fun y9=>
 some (!(decide (y9=2)))
 )
 ).bind fun s3=>
 if s3=true then (
 some (.inr false)
 ) else (
 some (.inl ())
 )
def z5a (a0:Grammar)(a1:Rule):Option Bool:=
 (findL (j1M a0 a1) 0 a1.Equations ()).bind <| onr (fun r1=>some r1) fun _=>
 (findL (j1N a0 a1) 0 a1.Contributions ()).bind <| onr (fun r2=>some r2) fun _=>
 some true
theorem j7w {m:Md}{a0:Grammar}{a1:Rule}{r:Bool}(hr:z5a a0 a1=some r):Ok Tryz.prog 117 [Grammar.y m a0,Rule.x m a1] [] (dB r) []:=by
 refine OE Tryz.func117 fun S hS=>?_
 unfold z5a at hr
 refine J g<|J (BX' 0)<|J (BX' 1)<|J (gn 8)<|J (lenA 4 1)<|fun hl1=>bdE hr fun q1 hqq1 hr=>q0b hqq1 hl1 2 (fun k1 _=>[(2,.pb 0 0),(3,.pb 1 0),(5,dI (k1:Int))]) (fun k1 _=>[]) I (fun k1 xk1 sk1 ok1 hxk1 hr hltk1 hik1=>?_) fun k1 sk1 ek1 hltk1=>?_
 refine J g<|J (NV' 2)<|bdE hr fun y1 hy1 hr=>J g<|J (CB' [] [] (z4y (m:=m) hy1))<|bdE hr fun y2 hy2 hr=>J g<|J (CB' [] [] (q7v (m:=m) hy2))<|bdE hr fun y3 hy3 hr=>J g<|J (CB' [] [] (z2U (m:=m) hy3))<|J (gn 2)<|ifE hr ?_ ?_<;>intro h1 hr
 exact e
 exact e
 subst ek1
 refine J (gn 17) ?_
 refine AW.len (.box 1 5 rfl rfl) fun hl2=>?_
 refine bdE hr fun q2 hqq2 hr=>q0b hqq2 hl2 2 (fun k2 _=>[(2,.pb 0 0),(3,.pb 1 0),(7,dI (k2:Int))]) (fun k2 _=>[]) I (fun k2 xk2 sk2 ok2 hxk2 hr hltk2 hik2=>?_) fun k2 sk2 ek2 hltk2=>?_
 refine J g<|J (NV' 2)<|bdP hr fun y4 y5 hq3 hr=>J g<|J (CB' [(0,3)] [] (q7w (m:=m) hq3))<|J g<|J (NV' 4)<|bdP hr fun y6 y7 hq4 hr=>J g<|J (CB' [] [3] (q9I (m:=.bo) hq4))<|J g<|J (NV' 5)<|bdE hr fun s1 hqq5 hr=>J (gn 7)<|q0a 5 [(2,.pb 0 0),(3,.pb 1 0),(7,dI (k2:Int)),(8,.pb 2 0),(73,dB s1)] ?_ ?_
 replace hr:=hqq5
 refine ifE hr ?_ ?_<;>intro h2 hr
 exact e
 exact e
 refine bdE hr fun s2 hqq6 hr=>q0a 8 [(2,.pb 0 0),(3,.pb 1 0),(7,dI (k2:Int)),(8,.pb 2 0),(81,dB s2)] ?_ ?_
 replace hr:=hqq6
 refine ifE hr ?_ ?_<;>intro h3 hr
 exact e
 refine bdE hr fun y8 hy8 hr=>J g<|J (CB' [] [] (z4y (m:=m) hy8))<|e
 refine bdE hr fun s3 hqq7 hr=>q0a 8 [(2,.pb 0 0),(3,.pb 1 0),(7,dI (k2:Int)),(89,dB s3)] ?_ ?_
 replace hr:=hqq7
 refine ifE hr ?_ ?_<;>intro h4 hr
 exact e
 refine bdE hr fun y9 hy9 hr=>J g<|J (CB' [] [] (z4y (m:=m) hy9))<|e
 refine J (gn 1)<|ifE hr ?_ ?_<;>intro h5 hr
 exact e
 exact e
 subst ek2
 exact e
def j5Y (a1:ByteArray):Nat→Symbol→Unit→Option (Unit ⊕ Int):=fun k1 xk1 _=>
 if xk1.Name=a1 then (
 some (.inr (k1:Int))
 ) else (
 some (.inl ())
 )
def z2v (a0:Grammar)(a1:ByteArray):Option Int:=
 (findL (j5Y a1) 0 a0.Symbols ()).bind <| onr (fun r1=>some r1) fun _=>
 some (-1)
theorem z5b {m:Md}{a0:Grammar}{a1:ByteArray}{r:Int}(hr:z2v a0 a1=some r):Ok Tryz.prog 31 [Grammar.y m a0,dS a1] [] (dI r) []:=by
 refine OE Tryz.func31 fun S hS=>?_
 unfold z2v at hr
 refine J g<|J (BX' 0)<|J (gn 8)<|J (lenA 0 0)<|fun hl1=>bdE hr fun q1 hqq1 hr=>q0b hqq1 hl1 1 (fun k1 _=>[(1,dS a1),(2,.pb 0 0),(5,dI (k1:Int))]) (fun k1 _=>[]) I (fun k1 xk1 sk1 ok1 hxk1 hr hltk1 hik1=>?_) fun k1 sk1 ek1 hltk1=>?_
 refine J (gn 24)<|ifE hr ?_ ?_<;>intro h1 hr
 exact e
 exact e
 subst ek1
 exact e
def z4z (a0:Grammar)(a2:(List Int)):Nat→ByteArray→Bool→Option Bool:=fun k2 xk2 s1=>
 (z2v a0 xk2).bind fun y1=>
 (
 if s1=true then (
 some (decide (0≤y1))
 ) else (
 some false
 )
 ).bind fun s2=>
 (
 if s2=true then (
 (z0r y1 0).bind fun y2=>
 grd (0≤y2) <|
 (a2[y2.toNat]?).bind fun x1=>
 some (decide (0 < x1))
 ) else (
 some false
 )
 ).bind fun s3=>
 some s3
def z7D (a0:Grammar)(a1:ByteArray)(a2:(List Int)):Nat→Rule→Unit→Option (Unit ⊕ Bool):=fun k1 xk1 _=>
 (eachL (z4z a0 a2) 0 xk1.Right (decide (xk1.Left=a1))).bind fun s1=>
 if s1=true then (
 some (.inr true)
 ) else (
 some (.inl ())
 )
def z1s (a0:Grammar)(a1:ByteArray)(a2:(List Int)):Option Bool:=
 (findL (z7D a0 a1 a2) 0 a0.Rules ()).bind <| onr (fun r1=>some r1) fun _=>
 some false
theorem j2L {m:Md}{a0:Grammar}{a1:ByteArray}{a2:(List Int)}{r:Bool}(hr:z1s a0 a1 a2=some r):Ok Tryz.prog 220 [Grammar.x m a0,dS a1,.d m (.sl 1 (a2.map (A.D.i .i64)))] [] (dB r) []:=by
 refine OE Tryz.func220 fun S hS=>?_
 unfold z1s at hr
 refine J g<|J (BX' 0)<|J (gn 8)<|J (lenA 1 0)<|fun hl1=>bdE hr fun q1 hqq1 hr=>q0b hqq1 hl1 1 (fun k1 _=>[(1,dS a1),(2,.d m (.sl 1 (a2.map (A.D.i .i64)))),(3,.pb 0 0),(7,dI (k1:Int))]) (fun k1 _=>[]) I (fun k1 xk1 sk1 ok1 hxk1 hr hltk1 hik1=>?_) fun k1 sk1 ek1 hltk1=>?_
 refine J g<|J (NV' 1)<|J (gn 16)<|J (lenA 2 23)<|fun hl2=>bdE hr fun s1 hqq2 hr=>q0d hqq2 hl2 2 (fun k2 s1=>[(1,dS a1),(2,.d m (.sl 1 (a2.map (A.D.i .i64)))),(3,.pb 0 0),(7,dI (k1:Int)),(8,.pb 1 0),(9,dB s1),(10,dI (k2:Int))]) (fun k2 s1=>[]) I (fun k2 xk2 sk2 ok2 hxk2 hr hltk2=>?_) fun k2 hltk2=>?_
 obtain⟨s1,rfl⟩:∃ y,y=sk2:=⟨_,rfl⟩
 refine bdE hr fun y1 hy1 hr=>J g<|J (CB' [] [] (z5b (m:=m) hy1))<|bdE hr fun s2 hqq3 hr=>J (gn 4)<|q0a 4 [(1,dS a1),(2,.d m (.sl 1 (a2.map (A.D.i .i64)))),(3,.pb 0 0),(7,dI (k1:Int)),(8,.pb 1 0),(9,dB s1),(10,dI (k2:Int)),(11,dI y1),(46,dB s2)] ?_ ?_
 replace hr:=hqq3
 refine ifE hr ?_ ?_<;>intro h1 hr
 exact e
 exact e
 refine bdE hr fun s3 hqq4 hr=>q0a 8 [(1,dS a1),(2,.d m (.sl 1 (a2.map (A.D.i .i64)))),(3,.pb 0 0),(7,dI (k1:Int)),(8,.pb 1 0),(9,dB s1),(10,dI (k2:Int)),(54,dB s3)] ?_ ?_
 replace hr:=hqq4
 refine ifE hr ?_ ?_<;>intro h2 hr
 refine bdE hr fun y2 hy2 hr=>J g<|J (CB' [] [] (z6o hy2))<|ggE hr fun g1 hr=>bdE hr fun x1 hx1 hr=>e
 exact e
 exact e
 refine J (gn 15)<|ifE hr ?_ ?_<;>intro h3 hr
 exact e
 exact e
 subst ek1
 exact e
def z2w (a0:Grammar)(s2:List Int)(s3:Int):Nat→Symbol→((List Int))→Option ((List Int)):=fun k2 xk2 s4=>
 (
 (s2[k2]?).bind fun x1=>
 if x1=0 then (
 (z1s a0 xk2.Name s2).bind fun y1=>
 if y1=true then (
 (s4[k2]?).bind fun x2=>
 some (List.set s4 k2 s3)
 ) else (
 some s4
 )
 ) else (
 some s4
 )
 ).bind fun s5=>
 some s5
def q9h (a0:Grammar):((List Int) × Int)→Option (((List Int) × Int) ⊕ ((List Int))):=fun (s2,s3)=>
 if s3≤(a0.Symbols.length:Int) then (
 grd (((([]:List Int).length:Int)+(s2.length:Int))*8≤140737488355328∧(([]:List Int).length:Int)+(s2.length:Int)≤9223372036854775807) <|
 (eachL (z2w a0 s2 s3) 0 a0.Symbols s2).bind fun s4=>
 grd (I64 (s3+1)) <|
 some (.inl (s4,(s3+1)))
 ) else (
 some (.inr s2)
 )
def z1t (a0:Grammar):Option (List Int):=
 grd (0≤(a0.Symbols.length:Int)∧(a0.Symbols.length:Int)*8≤281474976710656∧(a0.Symbols.length:Int)≤9223372036854775807) <|
 (q4L (q9h a0) ((List.replicate a0.Symbols.length (0:Int)),1)).bind fun s1=>
 some s1
theorem j2M {m:Md}{a0:Grammar}{r:(List Int)}(hr:z1t a0=some r):Ok Tryz.prog 191 [Grammar.x m a0] [] (.ref 0 none) [.row .fz 1 (r.map (A.D.i .i64))]:=by
 refine OE Tryz.func191 fun S hS=>?_
 unfold z1t at hr
 refine J g<|J (BX' 0)<|ggE hr fun g1 hr=>J g<|J (MKR' 1 (f:=(A.D.i .i64)) (0:Int) g1.1 g1.2.1 g1.2.2)<|bdE hr fun s1 hqq1 hr=>J (gn 7)<|q0e 2 [(3,.ref 1 none)] [(1,.row .fz 1 (s1.map (A.D.i .i64)))] ?_ ?_
 refine J g<|q0h hqq1 2 (fun (s2,s3)=>[(1,.pb 0 0),(3,.ref 1 none),(4,dI s3)]) (fun (s2,s3)=>[(1,.row .fz 1 (s2.map (A.D.i .i64)))]) I fun sk1 ok1 hr hik1=>?_
 obtain⟨s2,s3⟩:=sk1
 have hr:=hr
 refine J (gn 9)<|ifE hr ?_ ?_<;>intro h1 hr
 refine J g<|J (L0' 2 (A.D.i .i64))<|ggE hr fun g2 hr=>J g<|J (j5F (f:=(A.D.i .i64)) 3 8 (fun _=>rfl) g2)<|J (gn 8)<|J (lenT 13)<|fun hl2=>bdE hr fun s4 hqq2 hr=>q0d hqq2 hl2 4 (fun k2 s4=>[(1,.pb 0 0),(3,.ref 1 none),(4,dI s3),(5,.ref 3 none),(6,dI (k2:Int))]) (fun k2 s4=>[(2,.none),(3,.row .fz 1 (s4.map (A.D.i .i64)))]) I (fun k2 xk2 sk2 ok2 hxk2 hr hltk2=>?_) fun k2 hltk2=>?_
 obtain⟨s4,rfl⟩:∃ y,y=sk2:=⟨_,rfl⟩
 refine bdE hr fun s5 hqq3 hr=>J (gn 12)<|q0e 4 [(1,.pb 0 0),(3,.ref 1 none),(4,dI s3),(5,.ref 3 none),(6,dI (k2:Int))] [(3,.row .fz 1 (s5.map (A.D.i .i64)))] ?_ ?_
 replace hr:=hqq3
 refine bdE hr fun x1 hx1 hr=>J (gn 8)<|ifE hr ?_ ?_<;>intro h2 hr
 refine bdE hr fun y1 hy1 hr=>J g<|J (CB' [] [1] (j2L (m:=.bo) hy1))<|J (gn 2)<|ifE hr ?_ ?_<;>intro h3 hr
 refine bdE hr fun x2 hx2 hr=>J g<|J (SE' s3 hx2)<|e
 exact e
 exact e
 exact e
 refine ggE hr fun g3 hr=>e
 refine J (gn 2) ?_
 cases hr
 cases hik1 _ rfl
 exact q0g hS 2
 exact e
def z4k (a0:Grammar)(a1:ByteArray):Option Int:=
 (z2v a0 a1).bind fun y1=>
 if y1 < 0 then (
 some 0
 ) else (
 (z1t a0).bind fun y2=>
 grd (0≤y1) <|
 (y2[y1.toNat]?).bind fun x1=>
 some x1
 )
theorem j4q {m:Md}{a0:Grammar}{a1:ByteArray}{r:Int}(hr:z4k a0 a1=some r):Ok Tryz.prog 150 [Grammar.x m a0,dS a1] [] (dI r) []:=by
 refine OE Tryz.func150 fun S hS=>?_
 unfold z4k at hr
 refine J g<|J (BX' 0)<|bdE hr fun y1 hy1 hr=>J g<|J (CB' [] [] (z5b (m:=m) hy1))<|J (gn 8)<|ifE hr ?_ ?_<;>intro h1 hr
 exact e
 refine bdE hr fun y2 hy2 hr=>J g<|J (CB' [(0,1)] [] (j2M (m:=m) hy2))<|ggE hr fun g1 hr=>bdE hr fun x1 hx1 hr=>e
def q9C (a0:Grammar)(a1:ByteArray):Option Bool:=
 (z4k a0 a1).bind fun y1=>
 some (decide (0 < y1))
theorem j0n {m:Md}{a0:Grammar}{a1:ByteArray}{r:Bool}(hr:q9C a0 a1=some r):Ok Tryz.prog 118 [Grammar.x m a0,dS a1] [] (dB r) []:=by
 refine OE Tryz.func118 fun S hS=>?_
 unfold q9C at hr
 refine J g<|J (BX' 0)<|bdE hr fun y1 hy1 hr=>J g<|J (CB' [] [] (j4q (m:=m) hy1))<|e
def z6a (a0:Grammar):Nat→Rule→Unit→Option (Unit ⊕ (Int × Int)):=fun k1 xk1 _=>
 (z5a a0 xk1).bind fun y3=>
 if y3=true then (
 some (.inl ())
 ) else (
 some (.inr (7,(k1:Int)))
 )
def z0v (a0:Grammar):Nat→Symbol→Unit→Option (Unit ⊕ (Int × Int)):=fun k2 xk2 _=>
 (q9C a0 xk2.Name).bind fun y4=>
 if y4=true then (
 some (.inl ())
 ) else (
 some (.inr (8,(k2:Int)))
 )
def q9D (a0:Grammar):Option (Int × Int):=
 (z1p a0).bind fun (y1,y2)=>
 if y1=0 then (
 (findL (z6a a0) 0 a0.Rules ()).bind <| onr (fun r1=>some r1) fun _=>
 (findL (z0v a0) 0 a0.Symbols ()).bind <| onr (fun r2=>some r2) fun _=>
 some (0,0)
 ) else (
 some (y1,y2)
 )
theorem j0o {m:Md}{a0:Grammar}{r:(Int × Int)}(hr:q9D a0=some r):Ok Tryz.prog 81 [Grammar.x m a0] [] (.tu [dI r.1,dI r.2]) []:=by
 refine OE Tryz.func81 fun S hS=>?_
 unfold q9D at hr
 refine J g<|J (BX' 0)<|bdP hr fun y1 y2 hq1 hr=>J g<|J (CB' [] [] (j2K (m:=m) hq1))<|J (gn 12)<|ifE hr ?_ ?_<;>intro h1 hr
 refine J (gn 8)<|J (lenA 1 0)<|fun hl1=>bdE hr fun q2 hqq2 hr=>q0b hqq2 hl1 1 (fun k1 _=>[(1,.pb 0 0),(6,dI (k1:Int))]) (fun k1 _=>[]) I (fun k1 xk1 sk1 ok1 hxk1 hr hltk1 hik1=>?_) fun k1 sk1 ek1 hltk1=>?_
 refine bdE hr fun y3 hy3 hr=>J g<|J (CB' [] [] (j7w (m:=m) hy3))<|J (gn 2)<|ifE hr ?_ ?_<;>intro h2 hr
 exact e
 exact e
 subst ek1
 refine J (gn 17) ?_
 refine AW.len (.box 0 0 rfl rfl) fun hl2=>?_
 refine bdE hr fun q3 hqq3 hr=>q0b hqq3 hl2 1 (fun k2 _=>[(1,.pb 0 0),(7,dI (k2:Int))]) (fun k2 _=>[]) I (fun k2 xk2 sk2 ok2 hxk2 hr hltk2 hik2=>?_) fun k2 sk2 ek2 hltk2=>?_
 refine bdE hr fun y4 hy4 hr=>J g<|J (CB' [] [] (j0n (m:=m) hy4))<|J (gn 2)<|ifE hr ?_ ?_<;>intro h3 hr
 exact e
 exact e
 subst ek2
 exact e
 exact e
def z1X (a0:Grammar):Option Bool:=
 (q9D a0).bind fun (y1,y2)=>
 some (decide (y1=0))
theorem z7W {m:Md}{a0:Grammar}{r:Bool}(hr:z1X a0=some r):Ok Tryz.prog 38 [Grammar.x m a0] [] (dB r) []:=by
 refine OE Tryz.func38 fun S hS=>?_
 unfold z1X at hr
 refine J g<|J (BX' 0)<|bdP hr fun y1 y2 hq1 hr=>J g<|J (CB' [] [] (j0o (m:=m) hq1))<|e
def z9S:Nat→Attribute→Unit→Option (Unit ⊕ Bool):=fun k2 xk2 _=>
 if xk2.Circular=true then (
 some (.inr false)
 ) else (
 if xk2.Mode=3 then (
 some (.inr false)
 ) else (
 some (.inl ())
 )
 )
def z9T:Nat→Symbol→Unit→Option (Unit ⊕ Bool):=fun k1 xk1 _=>
 (findL z9S 0 xk1.Attributes ()).bind <| onr (fun r1=>some (.inr r1)) fun _=>
 some (.inl ())
def z9U:Nat→Rule→Unit→Option (Unit ⊕ Bool):=fun k3 xk3 _=>
 (z2H xk3).bind fun y1=>
 if y1=true then (
 some (.inr false)
 ) else (
 some (.inl ())
 )
def z3S (a0:Grammar):Option Bool:=
 (findL z9T 0 a0.Symbols ()).bind <| onr (fun r2=>some r2) fun _=>
 (findL z9U 0 a0.Rules ()).bind <| onr (fun r3=>some r3) fun _=>
 (z1X a0).bind fun y2=>
 some y2
theorem j5Z {m:Md}{a0:Grammar}{r:Bool}(hr:z3S a0=some r):Ok Tryz.prog 26 [Grammar.x m a0] [] (dB r) []:=by
 refine OE Tryz.func26 fun S hS=>?_
 unfold z3S at hr
 refine J g<|J (BX' 0)<|J (gn 8)<|J (lenA 0 0)<|fun hl1=>bdE hr fun q1 hqq1 hr=>q0b hqq1 hl1 1 (fun k1 _=>[(1,.pb 0 0),(3,dI (k1:Int))]) (fun k1 _=>[]) I (fun k1 xk1 sk1 ok1 hxk1 hr hltk1 hik1=>?_) fun k1 sk1 ek1 hltk1=>?_
 refine J (gn 18) ?_
 refine AW.len (.el 1 (.tmp 9 rfl) hxk1 rfl) fun hl2=>?_
 refine bdE hr fun q2 hqq2 hr=>q0b hqq2 hl2 1 (fun k2 _=>[(1,.pb 0 0),(3,dI (k1:Int)),(4,dI (k2:Int))]) (fun k2 _=>[]) I (fun k2 xk2 sk2 ok2 hxk2 hr hltk2 hik2=>?_) fun k2 sk2 ek2 hltk2=>?_
 refine J g<|J (NV' 1)<|J (gn 6)<|ifE hr ?_ ?_<;>intro h1 hr
 exact e
 refine J (gn 6)<|ifE hr ?_ ?_<;>intro h2 hr
 exact e
 exact e
 subst ek2
 exact e
 subst ek1
 refine J (gn 17) ?_
 refine AW.len (.box 0 1 rfl rfl) fun hl3=>?_
 refine bdE hr fun q3 hqq3 hr=>q0b hqq3 hl3 1 (fun k3 _=>[(1,.pb 0 0),(6,dI (k3:Int))]) (fun k3 _=>[]) I (fun k3 xk3 sk3 ok3 hxk3 hr hltk3 hik3=>?_) fun k3 sk3 ek3 hltk3=>?_
 refine bdE hr fun y1 hy1 hr=>J g<|J (CB' [] [] (j4n (m:=m) hy1))<|J (gn 1)<|ifE hr ?_ ?_<;>intro h3 hr
 exact e
 exact e
 subst ek3
 refine bdE hr fun y2 hy2 hr=>J g<|J (CB' [] [] (z7W (m:=m) hy2))<|e
def q6e:Nat→Attribute→((List Attribute))→Option ((List Attribute)):=fun k1 xk1 s1=>
 (
 if xk1.Mode=1 then (
 grd (((s1.length:Int)+1)*40≤140737488355328∧(s1.length:Int)+1≤9223372036854775807) <|
 some (s1++[xk1])
 ) else (
 if xk1.Mode=2 then (
 grd (((s1.length:Int)+1)*40≤140737488355328∧(s1.length:Int)+1≤9223372036854775807) <|
 some (s1++[xk1])
 ) else (
 some s1
 )
 )
 ).bind fun s2=>
 some s2
def q5e (a0:Grammar)(a1:ByteArray):Option (List Attribute):=
 (q5u a0 a1).bind fun (y1,y2)=>
 (eachL q6e 0 y1.Attributes ([]:List Attribute)).bind fun s1=>
 some s1
theorem q8S {m:Md}{a0:Grammar}{a1:ByteArray}{r:(List Attribute)}(hr:q5e a0 a1=some r):Ok Tryz.prog 28 [Grammar.y m a0,dS a1] [] (.ref 0 none) [.row .fz 4 (r.map Attribute.D)]:=by
 refine OE Tryz.func28 fun S hS=>?_
 unfold q5e at hr
 refine J g<|J (BX' 0)<|J g<|J (L0' 1 Attribute.D)<|bdP hr fun y1 y2 hq1 hr=>J g<|J (CB' [(0,2)] [] (q7w (m:=m) hq1))<|J g<|J (NV' 3)<|J (gn 9)<|J (lenR 2)<|fun hl1=>bdE hr fun s1 hqq2 hr=>q0d hqq2 hl1 4 (fun k1 s1=>[(5,.ref 1 none),(6,.pb 3 0),(8,dI (k1:Int))]) (fun k1 s1=>[(1,.row .fz 4 (s1.map Attribute.D))]) I (fun k1 xk1 sk1 ok1 hxk1 hr hltk1=>?_) fun k1 hltk1=>?_
 obtain⟨s1,rfl⟩:∃ y,y=sk1:=⟨_,rfl⟩
 refine bdE hr fun s2 hqq3 hr=>J (gn 12)<|q0e 4 [(5,.ref 1 none),(6,.pb 3 0),(8,dI (k1:Int))] [(1,.row .fz 4 (s2.map Attribute.D))] ?_ ?_
 replace hr:=hqq3
 refine J (gn 10)<|ifE hr ?_ ?_<;>intro h1 hr
 refine J g<|J (LIR' 4 (m:=.fz) (f:=Attribute.D) (xs:=[xk1]))<|ggE hr fun g1 hr=>J (q9Z (f:=Attribute.D) 5 (fun _=>rfl) 40 g1)<|e
 refine J (gn 10)<|ifE hr ?_ ?_<;>intro h2 hr
 refine J g<|J (LIR' 4 (m:=.fz) (f:=Attribute.D) (xs:=[xk1]))<|ggE hr fun g2 hr=>J (q9Z (f:=Attribute.D) 5 (fun _=>rfl) 40 g2)<|e
 exact e
 exact e
 exact e
def q4l (a0:Int):Option Relation:=
 (q5O a0 0 16).bind fun y1=>
 if y1=true then (
 grd (0≤a0∧a0*8≤281474976710656∧a0≤9223372036854775807) <|
 some (⟨a0,(List.replicate a0.toNat (0:Int))⟩:Relation)
 ) else (
 some (⟨0,[]⟩:Relation)
 )
theorem q8A {a0:Int}{r:Relation}(hr:q4l a0=some r):Ok Tryz.prog 27 [dI a0] [] (.ag [dI r.N,.ref 0 none]) [.row .fz 1 (r.Rows.map (A.D.i .i64))]:=by
 refine OE Tryz.func27 fun S hS=>?_
 unfold q4l at hr
 refine J g<|J (NV' 0)<|bdE hr fun y1 hy1 hr=>J g<|J (CB' [] [] (q5W hy1))<|J (gn 2)<|ifE hr ?_ ?_<;>intro h1 hr
 refine ggE hr fun g1 hr=>J g<|J (MKR' 1 (f:=(A.D.i .i64)) (0:Int) g1.1 g1.2.1 g1.2.2)<|e
 refine J (gn 7) ?_
 refine J (q0c (q0j (q:=0) (c:=1) (r:=1) .fz 1 rfl rfl rfl))<|J g<|E
def z5c (s3:Int):Nat→Attribute→((List Occurrence))→Option ((List Occurrence)):=fun k2 xk2 s4=>
 grd (((s4.length:Int)+1)*24≤140737488355328∧(s4.length:Int)+1≤9223372036854775807) <|
 some (s4++[(⟨s3,xk2.Name⟩:Occurrence)])
def q5o (a0:Grammar)(a1:Rule):((List Occurrence) × Int)→Option (((List Occurrence) × Int) ⊕ ((List Occurrence))):=fun (s2,s3)=>
 if s3≤(a1.Right.length:Int) then (
 (q5s a1 s3).bind fun y1=>
 (q5e a0 y1).bind fun y2=>
 (eachL (z5c s3) 0 y2 s2).bind fun s4=>
 grd (I64 (s3+1)) <|
 some (.inl (s4,(s3+1)))
 ) else (
 some (.inr s2)
 )
def q6a (a0:Grammar)(a1:Rule):Option (List Occurrence):=
 (q4L (q5o a0 a1) (([]:List Occurrence),0)).bind fun s1=>
 some s1
theorem z1Y {m:Md}{a0:Grammar}{a1:Rule}{r:(List Occurrence)}(hr:q6a a0 a1=some r):Ok Tryz.prog 76 [Grammar.y m a0,Rule.x m a1] [] (.ref 0 none) [.row .fz 2 (r.map Occurrence.D)]:=by
 refine OE Tryz.func76 fun S hS=>?_
 unfold q6a at hr
 refine J g<|J (BX' 0)<|J (BX' 1)<|J g<|J (L0' 2 Occurrence.D)<|bdE hr fun s1 hqq1 hr=>J (gn 7)<|q0e 3 [(5,.ref 2 none)] [(2,.row .fz 2 (s1.map Occurrence.D))] ?_ ?_
 refine J g<|q0h hqq1 3 (fun (s2,s3)=>[(2,.pb 0 0),(3,.pb 1 0),(5,.ref 2 none),(6,dI s3)]) (fun (s2,s3)=>[(2,.row .fz 2 (s2.map Occurrence.D))]) I fun sk1 ok1 hr hik1=>?_
 obtain⟨s2,s3⟩:=sk1
 have hr:=hr
 refine J (gn 9)<|ifE hr ?_ ?_<;>intro h1 hr
 refine bdE hr fun y1 hy1 hr=>J g<|J (CB' [] [] (q7v (m:=m) hy1))<|bdE hr fun y2 hy2 hr=>J (CB' [(0,3)] [] (q8S (m:=m) hy2))<|J (gn 7)<|J (lenR 3)<|fun hl2=>bdE hr fun s4 hqq2 hr=>q0d hqq2 hl2 4 (fun k2 s4=>[(2,.pb 0 0),(3,.pb 1 0),(5,.ref 2 none),(6,dI s3),(7,.ref 3 none),(8,dI (k2:Int))]) (fun k2 s4=>[(2,.row .fz 2 (s4.map Occurrence.D))]) I (fun k2 xk2 sk2 ok2 hxk2 hr hltk2=>?_) fun k2 hltk2=>?_
 obtain⟨s4,rfl⟩:∃ y,y=sk2:=⟨_,rfl⟩
 refine J g<|J (LIR' 4 (m:=.fz) (f:=Occurrence.D) (xs:=[(⟨s3,xk2.Name⟩:Occurrence)]))<|ggE hr fun g1 hr=>J (q9Z (f:=Occurrence.D) 5 (fun _=>rfl) 24 g1)<|e
 refine ggE hr fun g2 hr=>e
 refine J (gn 2) ?_
 cases hr
 cases hik1 _ rfl
 exact GH.trans (q0y (q:=0) [.d m (.sl 2 (a0.Symbols.map Symbol.D)),.u] (.cons .rfl (.cons .u .nil)) rfl) (q0g hS 3)
 exact e
def z0G (a1:Occurrence):Nat→Occurrence→Unit→Option (Unit ⊕ Int):=fun k1 xk1 _=>
 if xk1=a1 then (
 some (.inr (k1:Int))
 ) else (
 some (.inl ())
 )
def q8g (a0:(List Occurrence))(a1:Occurrence):Option Int:=
 (findL (z0G a1) 0 a0 ()).bind <| onr (fun r1=>some r1) fun _=>
 some (-1)
theorem z7X {m:Md}{a0:(List Occurrence)}{a1:Occurrence}{r:Int}(hr:q8g a0 a1=some r):Ok Tryz.prog 114 [.d m (.sl 2 (a0.map Occurrence.D)),Occurrence.x .fz a1] [] (dI r) []:=by
 refine OE Tryz.func114 fun S hS=>?_
 unfold q8g at hr
 refine J g<|J (BX' 0)<|J (gn 8)<|J (lenT 0)<|fun hl1=>bdE hr fun q1 hqq1 hr=>q0b hqq1 hl1 1 (fun k1 _=>[(0,.d m (.sl 2 (a0.map Occurrence.D))),(3,.pb 0 0),(5,dI (k1:Int))]) (fun k1 _=>[]) I (fun k1 xk1 sk1 ok1 hxk1 hr hltk1 hik1=>?_) fun k1 sk1 ek1 hltk1=>?_
 refine J g ?_
 refine J (SQ' rfl rfl rfl rfl (q6o xk1 a1))<|J (gn 1)<|ifE hr ?_ ?_<;>intro h1 hr
 exact e
 exact e
 subst ek1
 exact e
def q9i (a0:Relation):Option Relation:=
 grd (((([]:List Int).length:Int)+(a0.Rows.length:Int))*8≤140737488355328∧(([]:List Int).length:Int)+(a0.Rows.length:Int)≤9223372036854775807) <|
 some a0
theorem z7Y {m:Md}{a0:Relation}{r:Relation}(hr:q9i a0=some r):Ok Tryz.prog 75 [Relation.x m a0] [] (.ag [dI r.N,.ref 0 none]) [.row .fz 1 (r.Rows.map (A.D.i .i64))]:=by
 refine OE Tryz.func75 fun S hS=>?_
 unfold q9i at hr
 refine J g<|J (BX' 0)<|J (NV' 1)<|J g<|J (L0' 2 (A.D.i .i64))<|ggE hr fun g1 hr=>J g<|J (j5F (f:=(A.D.i .i64)) 3 8 (fun _=>rfl) g1)<|e
def z0H (a0:Relation):Nat→Unit→Option (Unit ⊕ Bool):=fun k1 _=>
 (a0.Rows[k1]?).bind fun x1=>
 grd (0≤a0.N) <|
 grd (0≤a0.N∧a0.N < 63) <|
 (q5O x1 0 (((2 ^ a0.N.toNat:Nat):Int) - 1)).bind fun y2=>
 if y2=true then (
 some (.inl ())
 ) else (
 some (.inr false)
 )
def q4k (a0:Relation):Option Bool:=
 (q5O a0.N 0 16).bind fun y1=>
 if y1=true then (
 if (a0.Rows.length:Int)=a0.N then (
 (findN (z0H a0) 0 a0.N.toNat ()).bind <| onr (fun r1=>some r1) fun _=>
 some true
 ) else (
 some false
 )
 ) else (
 some false
 )
theorem q5H {m:Md}{a0:Relation}{r:Bool}(hr:q4k a0=some r):Ok Tryz.prog 74 [Relation.x m a0] [] (dB r) []:=by
 refine OE Tryz.func74 fun S hS=>?_
 unfold q4k at hr
 refine J g<|J (BX' 0)<|bdE hr fun y1 hy1 hr=>J g<|J (CB' [] [] (q5W hy1))<|J (gn 1)<|ifE hr ?_ ?_<;>intro h1 hr
 refine J (gn 9)<|ifE hr ?_ ?_<;>intro h2 hr
 refine J (gn 8) ?_
 refine q0F (.ag 0 (.tmp 0 rfl) rfl) fun hl1=>?_
 refine bdE hr fun q1 hqq1 hr=>q0q hqq1 1 (fun k1 _=>[(1,.pb 0 0),(3,dI (k1:Int))]) (fun k1 _=>[]) I (fun k1 sk1 ok1 hr hltk1 hik1=>?_) fun sk1 ek1=>?_
 refine bdE hr fun x1 hx1 hr=>ggE hr fun g1 hr=>J g ?_
 refine J (CIU' g1 rfl)<|ggE hr fun g2 hr=>J (OB' _ (j5y g2))<|J (OB' _ (k6q (p:=(2 ^ a0.N.toNat)) (k:=1) (by decide)))<|bdE hr fun y2 hy2 hr=>J (CB' [] [] (q5W hy2))<|J (gn 2)<|ifE hr ?_ ?_<;>intro h3 hr
 exact e
 exact e
 subst ek1
 exact e
 exact e
 exact e
def q6Y (a0:Relation)(a1:Int)(a2:Int):Option Relation:=
 (q9i a0).bind fun y1=>
 (q4k a0).bind fun y2=>
 (
 if y2=true then (
 grd (I64 (a0.N - 1)) <|
 (q5O a1 0 (a0.N - 1)).bind fun y3=>
 some y3
 ) else (
 some false
 )
 ).bind fun s1=>
 (
 if s1=true then (
 grd (I64 (a0.N - 1)) <|
 (q5O a2 0 (a0.N - 1)).bind fun y4=>
 some y4
 ) else (
 some false
 )
 ).bind fun s2=>
 if s2=true then (
 grd (0≤a1) <|
 (y1.Rows[a1.toNat]?).bind fun x1=>
 grd (0≤a2) <|
 grd (0≤a2∧a2 < 63) <|
 grd (0≤x1∧0≤((2 ^ a2.toNat:Nat):Int)) <|
 some (⟨y1.N,(List.set y1.Rows a1.toNat ((x1.toNat ||| ((2 ^ a2.toNat:Nat):Int).toNat:Nat):Int))⟩:Relation)
 ) else (
 some y1
 )
theorem z5G {m:Md}{a0:Relation}{a1:Int}{a2:Int}{r:Relation}(hr:q6Y a0 a1 a2=some r):Ok Tryz.prog 72 [Relation.x m a0,dI a1,dI a2] [] (.ag [dI r.N,.ref 0 none]) [.row .fz 1 (r.Rows.map (A.D.i .i64))]:=by
 refine OE Tryz.func72 fun S hS=>?_
 unfold q6Y at hr
 refine J g<|J (BX' 0)<|J (NV' 1)<|bdE hr fun y1 hy1 hr=>J g<|J (CB' [(0,2)] [] (z7Y (m:=m) hy1))<|J (NV' 3)<|bdE hr fun y2 hy2 hr=>J g<|J (CB' [] [] (q5H (m:=m) hy2))<|bdE hr fun s1 hqq1 hr=>q0a 7 [(1,dI a1),(2,dI a2),(3,.pb 0 0),(6,.pb 1 0),(7,.pb 3 0),(18,dB s1)] ?_ ?_
 replace hr:=hqq1
 refine ifE hr ?_ ?_<;>intro h1 hr
 refine ggE hr fun g1 hr=>bdE hr fun y3 hy3 hr=>J g<|J (CB' [] [] (q5W hy3))<|e
 exact e
 refine bdE hr fun s2 hqq2 hr=>q0a 7 [(1,dI a1),(2,dI a2),(6,.pb 1 0),(7,.pb 3 0),(25,dB s2)] ?_ ?_
 replace hr:=hqq2
 refine ifE hr ?_ ?_<;>intro h2 hr
 refine ggE hr fun g2 hr=>bdE hr fun y4 hy4 hr=>J g<|J (CB' [] [] (q5W hy4))<|e
 exact e
 refine J (gn 1)<|ifE hr ?_ ?_<;>intro h3 hr
 refine ggE hr fun g3 hr=>bdE hr fun x1 hx1 hr=>ggE hr fun g4 hr=>J g ?_
 refine J (CIU' g4 rfl)<|ggE hr fun g5 hr=>J (OB' _ (j5y g5))<|ggE hr fun g6 hr=>J (OB' _ (bOrI g6))<|J g<|J (SE' ((x1.toNat ||| ((2 ^ a2.toNat:Nat):Int).toNat:Nat):Int) hx1)<|J g<|E
 exact e
def q8B (y1:(List Occurrence))(s3:Int):Nat→Occurrence→((List Int) × Int)→Option ((List Int) × Int):=fun k2 xk2 (s8,s9)=>
 (q8g y1 xk2).bind fun y6=>
 (q6Y (⟨s9,s8⟩:Relation) y6 s3).bind fun y7=>
 some (y7.Rows,y7.N)
def q5p (a1:Rule)(y1:(List Occurrence)):(Int × (List Int) × Int)→Option ((Int × (List Int) × Int) ⊕ ((List Int) × Int)):=fun (s3,s4,s5)=>
 if s3 < (y1.length:Int) then (
 if 0 < s5 then (
 (
 grd (0≤s3) <|
 (y1[s3.toNat]?).bind fun x1=>
 (q5V a1 x1).bind fun (y3,y4)=>
 if y4=true then (
 (q7i y3).bind fun y5=>
 (eachL (q8B y1 s3) 0 y5 (s4,s5)).bind fun (s8,s9)=>
 some (s8,s9)
 ) else (
 some (s4,s5)
 )
 ).bind fun (s6,s7)=>
 grd (I64 (s3+1)) <|
 some (.inl ((s3+1),s6,s7))
 ) else (
 some (.inr (s4,s5))
 )
 ) else (
 some (.inr (s4,s5))
 )
def q6B (a0:Grammar)(a1:Rule):Option Relation:=
 (q6a a0 a1).bind fun y1=>
 (q4l (y1.length:Int)).bind fun y2=>
 (q4L (q5p a1 y1) (0,y2.Rows,y2.N)).bind fun (s1,s2)=>
 some (⟨s2,s1⟩:Relation)
theorem z5d {m:Md}{a0:Grammar}{a1:Rule}{r:Relation}(hr:q6B a0 a1=some r):Ok Tryz.prog 69 [Grammar.y m a0,Rule.x m a1] [] (.ag [dI r.N,.ref 0 none]) [.row .fz 1 (r.Rows.map (A.D.i .i64))]:=by
 refine OE Tryz.func69 fun S hS=>?_
 unfold q6B at hr
 refine J g<|J (BX' 0)<|J (BX' 1)<|J (NV' 2)<|bdE hr fun y1 hy1 hr=>J g<|J (CB' [(0,3)] [] (z1Y (m:=m) hy1))<|bdE hr fun y2 hy2 hr=>J g<|J (CB' [(0,4)] [] (q8A hy2))<|J (NV' 5)<|bdP hr fun s1 s2 hqq1 hr=>J (gn 7)<|q0e 6 [(4,.pb 2 0),(6,.pb 5 0)] [(4,.row .fz 1 (s1.map (A.D.i .i64))),(5,.box [dI s2,.ref 4 none])] ?_ ?_
 refine J g<|q0h hqq1 6 (fun (s3,s4,s5)=>[(3,.pb 1 0),(4,.pb 2 0),(5,.ref 3 none),(6,.pb 5 0),(7,dI s3)]) (fun (s3,s4,s5)=>[(4,.row .fz 1 (s4.map (A.D.i .i64))),(5,.box [dI s5,.ref 4 none])]) I fun sk1 ok1 hr hik1=>?_
 obtain⟨s3,s4,s5⟩:=sk1
 have hr:=hr
 refine J (gn 7)<|ifE hr ?_ ?_<;>intro h1 hr
 refine J (gn 6)<|ifE hr ?_ ?_<;>intro h2 hr
 refine bdP hr fun s6 s7 hqq2 hr=>J (gn 3)<|q0e 6 [(3,.pb 1 0),(4,.pb 2 0),(5,.ref 3 none),(6,.pb 5 0),(7,dI s3),(23,.pb 5 0),(24,dI s5),(25,dB (decide (0 < s5)))] [(4,.row .fz 1 (s6.map (A.D.i .i64))),(5,.box [dI s7,.ref 4 none])] ?_ ?_
 replace hr:=hqq2
 refine ggE hr fun g1 hr=>bdE hr fun x1 hx1 hr=>bdP hr fun y3 y4 hq3 hr=>J g<|J (CB' [(0,6)] [] (z5Z (m:=m) hq3))<|J g<|J (NV' 7)<|J (gn 9)<|ifE hr ?_ ?_<;>intro h3 hr
 refine J (gn 5) ?_
 refine J (q0k 6 rfl)<|bdE hr fun y5 hy5 hr=>J (CB' [] [] (z4Z (m:=.fz) hy5))<|J (gn 7)<|J (lenT 10)<|fun hl2=>bdP hr fun s8 s9 hqq4 hr=>q0d hqq4 hl2 8 (fun k2 (s8,s9)=>[(3,.pb 1 0),(4,.pb 2 0),(5,.ref 3 none),(6,.pb 5 0),(7,dI s3),(10,.d .fz (.sl 2 (y5.map Occurrence.D))),(11,dI (k2:Int)),(23,.pb 5 0),(24,dI s5),(25,dB (decide (0 < s5)))]) (fun k2 (s8,s9)=>[(4,.row .fz 1 (s8.map (A.D.i .i64))),(5,.box [dI s9,.ref 4 none]),(6,.none)]) I (fun k2 xk2 sk2 ok2 hxk2 hr hltk2=>?_) fun k2 hltk2=>?_
 obtain⟨s8,s9⟩:=sk2
 refine bdE hr fun y6 hy6 hr=>J g<|J (CB' [] [3] (z7X (m:=.bo) hy6))<|bdE hr fun y7 hy7 hr=>J g<|J (CB' [(0,8)] [4] (z5G (m:=.bo) hy7))<|e
 exact e
 exact e
 refine ggE hr fun g2 hr=>e
 refine J (gn 2) ?_
 cases hr
 cases hik1 _ rfl
 exact GH.trans (q0y (q:=0) [.d m (.sl 2 (a0.Symbols.map Symbol.D)),.u] (.cons .rfl (.cons .u .nil)) rfl) (q0g hS 6)
 refine J (gn 8) ?_
 cases hr
 cases hik1 _ rfl
 exact GH.trans (q0y (q:=0) [.d m (.sl 2 (a0.Symbols.map Symbol.D)),.u] (.cons .rfl (.cons .u .nil)) rfl) (q0g hS 6)
 exact e
def q6f (a2:Int):Nat→Occurrence→((List Int))→Option ((List Int)):=fun k1 xk1 s1=>
 (
 if xk1.Pos=a2 then (
 grd (((s1.length:Int)+1)*8≤140737488355328∧(s1.length:Int)+1≤9223372036854775807) <|
 some (s1++[(k1:Int)])
 ) else (
 some s1
 )
 ).bind fun s2=>
 some s2
def q5y (a0:Grammar)(a1:Rule)(a2:Int):Option (List Int):=
 (q6a a0 a1).bind fun y1=>
 (eachL (q6f a2) 0 y1 ([]:List Int)).bind fun s1=>
 some s1
theorem z0I {m:Md}{a0:Grammar}{a1:Rule}{a2:Int}{r:(List Int)}(hr:q5y a0 a1 a2=some r):Ok Tryz.prog 35 [Grammar.y m a0,Rule.x m a1,dI a2] [] (.ref 0 none) [.row .fz 1 (r.map (A.D.i .i64))]:=by
 refine OE Tryz.func35 fun S hS=>?_
 unfold q5y at hr
 refine J g<|J (BX' 0)<|J (BX' 1)<|J g<|J (L0' 2 (A.D.i .i64))<|bdE hr fun y1 hy1 hr=>J g<|J (CB' [(0,3)] [] (z1Y (m:=m) hy1))<|J (gn 8)<|J (lenR 3)<|fun hl1=>bdE hr fun s1 hqq1 hr=>q0d hqq1 hl1 4 (fun k1 s1=>[(2,dI a2),(7,.ref 2 none),(8,.ref 3 none),(9,dI (k1:Int))]) (fun k1 s1=>[(2,.row .fz 1 (s1.map (A.D.i .i64)))]) I (fun k1 xk1 sk1 ok1 hxk1 hr hltk1=>?_) fun k1 hltk1=>?_
 obtain⟨s1,rfl⟩:∃ y,y=sk1:=⟨_,rfl⟩
 refine bdE hr fun s2 hqq2 hr=>J (gn 11)<|q0e 4 [(2,dI a2),(7,.ref 2 none),(8,.ref 3 none),(9,dI (k1:Int))] [(2,.row .fz 1 (s2.map (A.D.i .i64)))] ?_ ?_
 replace hr:=hqq2
 refine J (gn 11)<|ifE hr ?_ ?_<;>intro h1 hr
 refine J g<|J (LIR' 4 (m:=.fz) (f:=(A.D.i .i64)) (xs:=([(k1:Int)]:List Int)))<|ggE hr fun g1 hr=>J (q9Z (f:=(A.D.i .i64)) 5 (fun _=>rfl) 8 g1)<|e
 exact e
 exact e
 exact e
def q7B (a0:Relation)(a1:Int)(a2:Int):Option Bool:=
 (q4k a0).bind fun y1=>
 (
 if y1=true then (
 grd (I64 (a0.N - 1)) <|
 (q5O a1 0 (a0.N - 1)).bind fun y2=>
 some y2
 ) else (
 some false
 )
 ).bind fun s1=>
 (
 if s1=true then (
 grd (I64 (a0.N - 1)) <|
 (q5O a2 0 (a0.N - 1)).bind fun y3=>
 some y3
 ) else (
 some false
 )
 ).bind fun s2=>
 (
 if s2=true then (
 grd (0≤a1) <|
 (a0.Rows[a1.toNat]?).bind fun x1=>
 grd (0≤a2) <|
 grd (0≤x1∧0≤a2∧a2 < 64) <|
 grd (0≤((x1.toNat >>> a2.toNat:Nat):Int)∧0≤(1:Int)) <|
 some (decide (((((x1.toNat >>> a2.toNat:Nat):Int).toNat &&& (1:Int).toNat:Nat):Int)=1))
 ) else (
 some false
 )
 ).bind fun s3=>
 some s3
theorem z3T {m:Md}{a0:Relation}{a1:Int}{a2:Int}{r:Bool}(hr:q7B a0 a1 a2=some r):Ok Tryz.prog 71 [Relation.x m a0,dI a1,dI a2] [] (dB r) []:=by
 refine OE Tryz.func71 fun S hS=>?_
 unfold q7B at hr
 refine J g<|J (BX' 0)<|bdE hr fun y1 hy1 hr=>J g<|J (CB' [] [] (q5H (m:=m) hy1))<|bdE hr fun s1 hqq1 hr=>q0a 7 [(1,dI a1),(2,dI a2),(3,.pb 0 0),(6,dB false),(15,dB s1)] ?_ ?_
 replace hr:=hqq1
 refine ifE hr ?_ ?_<;>intro h1 hr
 refine ggE hr fun g1 hr=>bdE hr fun y2 hy2 hr=>J g<|J (CB' [] [] (q5W hy2))<|e
 exact e
 refine bdE hr fun s2 hqq2 hr=>q0a 7 [(1,dI a1),(2,dI a2),(3,.pb 0 0),(6,dB false),(22,dB s2)] ?_ ?_
 replace hr:=hqq2
 refine ifE hr ?_ ?_<;>intro h2 hr
 refine ggE hr fun g2 hr=>bdE hr fun y3 hy3 hr=>J g<|J (CB' [] [] (q5W hy3))<|e
 exact e
 refine bdE hr fun s3 hqq3 hr=>q0a 12 [(6,dB false),(34,dB s3)] ?_ ?_
 replace hr:=hqq3
 refine ifE hr ?_ ?_<;>intro h3 hr
 refine ggE hr fun g3 hr=>bdE hr fun x1 hx1 hr=>ggE hr fun g4 hr=>J g ?_
 refine J (CIU' g4 rfl)<|ggE hr fun g5 hr=>J (OB' _ (k2T g5))<|ggE hr fun g6 hr=>J (OB' _ (k2U g6))<|J g<|E
 exact e
 exact e
def q8C (k1:Nat):Nat→((List Int))→Option ((List Int)):=fun k2 s2=>
 (
 (s2[k2]?).bind fun x1=>
 grd (0≤x1∧0≤(k1:Int)∧(k1:Int) < 64) <|
 grd (0≤((x1.toNat >>> (k1:Int).toNat:Nat):Int)∧0≤(1:Int)) <|
 if ((((x1.toNat >>> (k1:Int).toNat:Nat):Int).toNat &&& (1:Int).toNat:Nat):Int)=1 then (
 (s2[k1]?).bind fun x2=>
 grd (0≤x1∧0≤x2) <|
 some (List.set s2 k2 ((x1.toNat ||| x2.toNat:Nat):Int))
 ) else (
 some s2
 )
 ).bind fun s3=>
 some s3
def z1Z (a0:Relation):Nat→((List Int))→Option ((List Int)):=fun k1 s1=>
 (eachN (q8C k1) 0 a0.N.toNat s1).bind fun s2=>
 some s2
def q7j (a0:Relation):Option Relation:=
 (q9i a0).bind fun y1=>
 (q4k a0).bind fun y2=>
 if y2=true then (
 (eachN (z1Z a0) 0 a0.N.toNat y1.Rows).bind fun s1=>
 some (⟨y1.N,s1⟩:Relation)
 ) else (
 some y1
 )
theorem z2a {m:Md}{a0:Relation}{r:Relation}(hr:q7j a0=some r):Ok Tryz.prog 73 [Relation.x m a0] [] (.ag [dI r.N,.ref 0 none]) [.row .fz 1 (r.Rows.map (A.D.i .i64))]:=by
 refine OE Tryz.func73 fun S hS=>?_
 unfold q7j at hr
 refine J g<|J (BX' 0)<|J (NV' 1)<|bdE hr fun y1 hy1 hr=>J g<|J (CB' [(0,2)] [] (z7Y (m:=m) hy1))<|J (NV' 3)<|bdE hr fun y2 hy2 hr=>J g<|J (CB' [] [] (q5H (m:=m) hy2))<|J (gn 2)<|ifE hr ?_ ?_<;>intro h1 hr
 refine J (gn 8) ?_
 refine q0F (.ag 0 (.tmp 0 rfl) rfl) fun hl1=>?_
 refine bdE hr fun s1 hqq1 hr=>q0i hqq1 4 (fun k1 s1=>[(1,.pb 0 0),(2,.pb 1 0),(3,.pb 3 0),(4,dI (k1:Int))]) (fun k1 s1=>[(2,.row .fz 1 (s1.map (A.D.i .i64)))]) I (fun k1 sk1 ok1 hr hltk1=>?_) ?_
 obtain⟨s1,rfl⟩:∃ y,y=sk1:=⟨_,rfl⟩
 refine J (gn 17)<|J (rngT 14)<|fun hl2=>bdE hr fun s2 hqq2 hr=>q0i hqq2 4 (fun k2 s2=>[(1,.pb 0 0),(2,.pb 1 0),(3,.pb 3 0),(4,dI (k1:Int)),(5,dI (k2:Int))]) (fun k2 s2=>[(2,.row .fz 1 (s2.map (A.D.i .i64)))]) I (fun k2 sk2 ok2 hr hltk2=>?_) ?_
 obtain⟨s2,rfl⟩:∃ y,y=sk2:=⟨_,rfl⟩
 refine bdE hr fun s3 hqq3 hr=>J (gn 11)<|q0e 4 [(1,.pb 0 0),(2,.pb 1 0),(3,.pb 3 0),(4,dI (k1:Int)),(5,dI (k2:Int))] [(2,.row .fz 1 (s3.map (A.D.i .i64)))] ?_ ?_
 replace hr:=hqq3
 refine bdE hr fun x1 hx1 hr=>J g ?_
 refine J (CIU' (Int.natCast_nonneg _) rfl)<|ggE hr fun g1 hr=>J (OB' _ (k2T g1))<|ggE hr fun g2 hr=>J (OB' _ (k2U g2))<|J (gn 2)<|ifE hr ?_ ?_<;>intro h2 hr
 refine bdE hr fun x2 hx2 hr=>ggE hr fun g3 hr=>J g<|J (OB' _ (bOrI g3))<|J g<|J (SE' ((x1.toNat ||| x2.toNat:Nat):Int) hx1)<|e
 exact e
 exact e
 exact e
 exact e
 exact e
def z5H (x1:Relation)(k2:Nat)(xk2:Int):Nat→Int→((List Int) × Int)→Option ((List Int) × Int):=fun k3 xk3 (s8,s9)=>
 (
 (q7B x1 (k2:Int) (k3:Int)).bind fun y6=>
 if y6=true then (
 (q6Y (⟨s9,s8⟩:Relation) xk2 xk3).bind fun y7=>
 some (y7.Rows,y7.N)
 ) else (
 some (s8,s9)
 )
 ).bind fun (s10,s11)=>
 some (s10,s11)
def z5I (y2:(List Int))(x1:Relation):Nat→Int→((List Int) × Int)→Option ((List Int) × Int):=fun k2 xk2 (s6,s7)=>
 (eachL (z5H x1 k2 xk2) 0 y2 (s6,s7)).bind fun (s8,s9)=>
 some (s8,s9)
def z2b (a0:Grammar)(a1:Rule)(a2:(List Relation)):(Int × (List Int) × Int)→Option ((Int × (List Int) × Int) ⊕ ((List Int) × Int)):=fun (s3,s4,s5)=>
 if s3≤(a1.Right.length:Int) then (
 (q5y a0 a1 s3).bind fun y2=>
 (q5s a1 s3).bind fun y3=>
 (z2v a0 y3).bind fun y4=>
 (z0r 0 y4).bind fun y5=>
 grd (0≤y5) <|
 (a2[y5.toNat]?).bind fun x1=>
 (eachL (z5I y2 x1) 0 y2 (s4,s5)).bind fun (s6,s7)=>
 grd (I64 (s3+1)) <|
 some (.inl ((s3+1),s6,s7))
 ) else (
 some (.inr (s4,s5))
 )
def z5e (a0:Grammar)(a1:Rule)(a2:(List Relation)):Option Relation:=
 (q6B a0 a1).bind fun y1=>
 (q4L (z2b a0 a1 a2) (0,y1.Rows,y1.N)).bind fun (s1,s2)=>
 (q7j (⟨s2,s1⟩:Relation)).bind fun y8=>
 some y8
theorem j7x {m:Md}{a0:Grammar}{a1:Rule}{a2:(List Relation)}{r:Relation}(hr:z5e a0 a1 a2=some r):Ok Tryz.prog 29 [Grammar.y m a0,Rule.x m a1,.d m (.sl 2 (a2.map Relation.D))] [] (.ag [dI r.N,.ref 0 none]) [.row .fz 1 (r.Rows.map (A.D.i .i64))]:=by
 refine OE Tryz.func29 fun S hS=>?_
 unfold z5e at hr
 refine J g<|J (BX' 0)<|J (BX' 1)<|J (NV' 2)<|bdE hr fun y1 hy1 hr=>J g<|J (CB' [(0,3)] [] (z5d (m:=m) hy1))<|J (NV' 4)<|bdP hr fun s1 s2 hqq1 hr=>J (gn 7)<|q0e 5 [(6,.pb 2 0),(7,.pb 4 0)] [(3,.row .fz 1 (s1.map (A.D.i .i64))),(4,.box [dI s2,.ref 3 none])] ?_ ?_
 refine J g<|q0h hqq1 5 (fun (s3,s4,s5)=>[(2,.d m (.sl 2 (a2.map Relation.D))),(3,.pb 0 0),(4,.pb 1 0),(6,.pb 2 0),(7,.pb 4 0),(8,dI s3)]) (fun (s3,s4,s5)=>[(3,.row .fz 1 (s4.map (A.D.i .i64))),(4,.box [dI s5,.ref 3 none])]) I fun sk1 ok1 hr hik1=>?_
 obtain⟨s3,s4,s5⟩:=sk1
 have hr:=hr
 refine J (gn 9)<|ifE hr ?_ ?_<;>intro h1 hr
 refine bdE hr fun y2 hy2 hr=>J g<|J (CB' [(0,5)] [] (z0I (m:=m) hy2))<|bdE hr fun y3 hy3 hr=>J g<|J (CB' [] [] (q7v (m:=m) hy3))<|bdE hr fun y4 hy4 hr=>J (CB' [] [] (z5b (m:=m) hy4))<|bdE hr fun y5 hy5 hr=>J (CB' [] [] (z6o hy5))<|ggE hr fun g1 hr=>bdE hr fun x1 hx1 hr=>J g<|J (NV' 6)<|J (gn 7)<|J (lenR 5)<|fun hl2=>bdP hr fun s6 s7 hqq2 hr=>q0d hqq2 hl2 7 (fun k2 (s6,s7)=>[(2,.d m (.sl 2 (a2.map Relation.D))),(3,.pb 0 0),(4,.pb 1 0),(6,.pb 2 0),(7,.pb 4 0),(8,dI s3),(9,.ref 5 none),(10,.pb 6 0),(11,dI (k2:Int))]) (fun k2 (s6,s7)=>[(3,.row .fz 1 (s6.map (A.D.i .i64))),(4,.box [dI s7,.ref 3 none])]) I (fun k2 xk2 sk2 ok2 hxk2 hr hltk2=>?_) fun k2 hltk2=>?_
 obtain⟨s6,s7⟩:=sk2
 refine J (gn 17)<|J (lenR 5)<|fun hl3=>bdP hr fun s8 s9 hqq3 hr=>q0d hqq3 hl3 7 (fun k3 (s8,s9)=>[(2,.d m (.sl 2 (a2.map Relation.D))),(3,.pb 0 0),(4,.pb 1 0),(6,.pb 2 0),(7,.pb 4 0),(8,dI s3),(9,.ref 5 none),(10,.pb 6 0),(11,dI (k2:Int)),(12,dI (k3:Int))]) (fun k3 (s8,s9)=>[(3,.row .fz 1 (s8.map (A.D.i .i64))),(4,.box [dI s9,.ref 3 none])]) I (fun k3 xk3 sk3 ok3 hxk3 hr hltk3=>?_) fun k3 hltk3=>?_
 obtain⟨s8,s9⟩:=sk3
 refine bdP hr fun s10 s11 hqq4 hr=>J (gn 11)<|q0e 7 [(2,.d m (.sl 2 (a2.map Relation.D))),(3,.pb 0 0),(4,.pb 1 0),(6,.pb 2 0),(7,.pb 4 0),(8,dI s3),(9,.ref 5 none),(10,.pb 6 0),(11,dI (k2:Int)),(12,dI (k3:Int))] [(3,.row .fz 1 (s10.map (A.D.i .i64))),(4,.box [dI s11,.ref 3 none])] ?_ ?_
 replace hr:=hqq4
 refine bdE hr fun y6 hy6 hr=>J g<|J (CB' [] [] (z3T (m:=m) hy6))<|J (gn 1)<|ifE hr ?_ ?_<;>intro h2 hr
 refine bdE hr fun y7 hy7 hr=>J g<|J (CB' [(0,7)] [3] (z5G (m:=.bo) hy7))<|e
 exact e
 exact e
 exact e
 refine ggE hr fun g2 hr=>e
 refine J (gn 2) ?_
 cases hr
 cases hik1 _ rfl
 exact GH.trans (q0y (q:=0) [.d m (.sl 2 (a0.Symbols.map Symbol.D)),.u] (.cons .rfl (.cons .u .nil)) rfl) (q0g hS 5)
 refine bdE hr fun y8 hy8 hr=>J g<|J (CB' [(0,5)] [3] (z2a (m:=.bo) hy8))<|e
end Go.Proofs.YtpnkinhphabkcaaGreat
