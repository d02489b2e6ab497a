/- What some functions of the program compute, as partial functions on plain data, and that they do; each lemma bears its conditions in its statement. -/
import Derived.Test.YtcegfmageiicaaaGreatLift2
set_option linter.unusedVariables false
set_option linter.unusedSimpArgs false
set_option linter.ambiguousOpen false
set_option linter.unusedSectionVars false
set_option linter.unnecessarySimpa false
set_option maxRecDepth 100000
set_option maxHeartbeats 40000000
noncomputable section
namespace Go.Proofs.YtcegfmageiicaaaGreat
open Go Go.E Go.A
def q7F (a0:Grammar)(a1:ByteArray)(a2:ByteArray):Option Int:=
 (q5M a0 a1).bind fun (y1,y2)=>
 (q7U y1 a2).bind fun (y3,y4)=>
 if y4=true then (
 some y3.Type_
 ) else (
 some 0
 )
theorem z3I {m:Md}{a0:Grammar}{a1:ByteArray}{a2:ByteArray}{r:Int}(hr:q7F a0 a1 a2=some r):Ok Tryz.prog 218 [Grammar.y m a0,dS a1,dS a2] [] (dI r) []:=by
 refine OE Tryz.func218 fun S hS=>?_
 unfold q7F at hr
 refine J g<|J (BX' 0)<|bdP hr fun y1 y2 hq1 hr=>J g<|J (CB' [(0,1)] [] (q9f (m:=m) hq1))<|J g<|J (NV' 2)<|bdP hr fun y3 y4 hq2 hr=>J g<|J (CB' [] [1] (z2s (m:=.bo) hq2))<|J g<|J (NV' 3)<|J (gn 9)<|ifE hr ?_ ?_<;>intro h1 hr
 exact e
 exact e
def q9O (a0:Int):Option (Int × Int × Int):=
 (q5B a0 1 5).bind fun y1=>
 if y1=true then (
 some (1,1,1)
 ) else (
 (q5B a0 6 8).bind fun y2=>
 if y2=true then (
 some (2,2,2)
 ) else (
 if a0=9 then (
 some (1,1,3)
 ) else (
 if a0=10 then (
 some (1,1,3)
 ) else (
 if a0=11 then (
 some (2,1,3)
 ) else (
 if a0=12 then (
 some (2,1,2)
 ) else (
 some (0,0,0)
 )
 )
 )
 )
 )
 )
theorem j2L {a0:Int}{r:(Int × Int × Int)}(hr:q9O a0=some r):Ok Tryz.prog 295 [dI a0] [] (.tu [dI r.1,dI r.2.1,dI r.2.2]) []:=by
 refine OE Tryz.func295 fun S hS=>?_
 unfold q9O at hr
 refine bdE hr fun y1 hy1 hr=>J g<|J (CB' [] [] (q5L hy1))<|J (gn 2)<|ifE hr ?_ ?_<;>intro h1 hr
 exact e
 refine bdE hr fun y2 hy2 hr=>J g<|J (CB' [] [] (q5L hy2))<|J (gn 2)<|ifE hr ?_ ?_<;>intro h2 hr
 exact e
 refine J (gn 5)<|ifE hr ?_ ?_<;>intro h3 hr
 exact e
 refine J (gn 6)<|ifE hr ?_ ?_<;>intro h4 hr
 exact e
 refine J (gn 7)<|ifE hr ?_ ?_<;>intro h5 hr
 exact e
 refine J (gn 7)<|ifE hr ?_ ?_<;>intro h6 hr
 exact e
 exact e
def j3j (rec_sTypeOfExpr:Grammar→Rule→Expr→Option Int)(a0:Grammar)(a1:Rule)(a2:Expr):Option Int:=
 (q9O a2.N).bind fun (y1,y2,y3)=>
 if (a2.Args.length:Int)=2 then (
 (a2.Args[0]?).bind fun x1=>
 (rec_sTypeOfExpr a0 a1 x1).bind fun y4=>
 if y4=y1 then (
 (a2.Args[1]?).bind fun x2=>
 (rec_sTypeOfExpr a0 a1 x2).bind fun y5=>
 if y5=y2 then (
 some y3
 ) else (
 some 0
 )
 ) else (
 some 0
 )
 ) else (
 some 0
 )
theorem k4e {rec_sTypeOfExpr:Grammar→Rule→Expr→Option Int}(ih_sTypeOfExpr:∀ {m:Md} {a0:Grammar} {a1:Rule} {a2:Expr} {r:Int},rec_sTypeOfExpr a0 a1 a2=some r→Ok Tryz.prog 217 [Grammar.y m a0,Rule.x m a1,Expr.x m a2] [] (dI r) []){m:Md}{a0:Grammar}{a1:Rule}{a2:Expr}{r:Int}(hr:j3j rec_sTypeOfExpr a0 a1 a2=some r):Ok Tryz.prog 259 [Grammar.y m a0,Rule.x m a1,Expr.x m a2] [] (dI r) []:=by
 refine OE Tryz.func259 fun S hS=>?_
 unfold j3j at hr
 refine J g<|J (BX' 0)<|J (BX' 1)<|J (BX' 2)<|bdT hr fun y1 y2 y3 hq1 hr=>J g<|J (CB' [] [] (j2L hq1))<|J (gn 15)<|ifE hr ?_ ?_<;>intro h1 hr
 refine bdE hr fun x1 hx1 hr=>bdE hr fun y4 hy4 hr=>J g<|J (CB' [] [] (ih_sTypeOfExpr (m:=m) hy4))<|J (gn 3)<|ifE hr ?_ ?_<;>intro h2 hr
 refine bdE hr fun x2 hx2 hr=>bdE hr fun y5 hy5 hr=>J g<|J (CB' [] [] (ih_sTypeOfExpr (m:=m) hy5))<|J (gn 4)<|ifE hr ?_ ?_<;>intro h3 hr
 exact e
 exact e
 exact e
 exact e
def j3k (rec_sTypeOfExpr:Grammar→Rule→Expr→Option Int)(a0:Grammar)(a1:Rule)(a2:Expr):Option Int:=
 if (a2.Args.length:Int)=3 then (
 (a2.Args[0]?).bind fun x1=>
 (rec_sTypeOfExpr a0 a1 x1).bind fun y1=>
 if y1=3 then (
 (a2.Args[1]?).bind fun x2=>
 (rec_sTypeOfExpr a0 a1 x2).bind fun y2=>
 (a2.Args[2]?).bind fun x3=>
 (rec_sTypeOfExpr a0 a1 x3).bind fun y3=>
 if y2=y3 then (
 some y2
 ) else (
 some 0
 )
 ) else (
 some 0
 )
 ) else (
 some 0
 )
theorem k4f {rec_sTypeOfExpr:Grammar→Rule→Expr→Option Int}(ih_sTypeOfExpr:∀ {m:Md} {a0:Grammar} {a1:Rule} {a2:Expr} {r:Int},rec_sTypeOfExpr a0 a1 a2=some r→Ok Tryz.prog 217 [Grammar.y m a0,Rule.x m a1,Expr.x m a2] [] (dI r) []){m:Md}{a0:Grammar}{a1:Rule}{a2:Expr}{r:Int}(hr:j3k rec_sTypeOfExpr a0 a1 a2=some r):Ok Tryz.prog 260 [Grammar.y m a0,Rule.x m a1,Expr.x m a2] [] (dI r) []:=by
 refine OE Tryz.func260 fun S hS=>?_
 unfold j3k at hr
 refine J g<|J (BX' 0)<|J (BX' 1)<|J (BX' 2)<|J (gn 9)<|ifE hr ?_ ?_<;>intro h1 hr
 refine bdE hr fun x1 hx1 hr=>bdE hr fun y1 hy1 hr=>J g<|J (CB' [] [] (ih_sTypeOfExpr (m:=m) hy1))<|J (gn 3)<|ifE hr ?_ ?_<;>intro h2 hr
 refine bdE hr fun x2 hx2 hr=>bdE hr fun y2 hy2 hr=>J g<|J (CB' [] [] (ih_sTypeOfExpr (m:=m) hy2))<|bdE hr fun x3 hx3 hr=>bdE hr fun y3 hy3 hr=>J g<|J (CB' [] [] (ih_sTypeOfExpr (m:=m) hy3))<|J (gn 2)<|ifE hr ?_ ?_<;>intro h3 hr
 exact e
 exact e
 exact e
 exact e
def z1A (rec_sTypeOfExpr:Grammar→Rule→Expr→Option Int)(a0:Grammar)(a1:Rule)(a2:Expr):Option Int:=
 if a2.Kind=1 then (
 some a2.Type_
 ) else (
 if a2.Kind=2 then (
 if a1.Literal=true then (
 some 1
 ) else (
 some 0
 )
 ) else (
 if a2.Kind=3 then (
 (q5B a2.Pos 0 (a1.Right.length:Int)).bind fun y1=>
 if y1=true then (
 (q5C a1 a2.Pos).bind fun y2=>
 (q7F a0 y2 a2.Name).bind fun y3=>
 some y3
 ) else (
 some 0
 )
 ) else (
 if a2.Kind=4 then (
 (j3j rec_sTypeOfExpr a0 a1 a2).bind fun y4=>
 some y4
 ) else (
 if a2.Kind=5 then (
 (j3k rec_sTypeOfExpr a0 a1 a2).bind fun y5=>
 some y5
 ) else (
 if a2.Kind=6 then (
 (q5B a2.Pos 0 (a1.Right.length:Int)).bind fun y6=>
 if y6=true then (
 some 4
 ) else (
 some 0
 )
 ) else (
 if a2.Kind=7 then (
 some 4
 ) else (
 if a2.Kind=8 then (
 if (a2.Args.length:Int)=1 then (
 (a2.Args[0]?).bind fun x1=>
 (rec_sTypeOfExpr a0 a1 x1).bind fun y7=>
 if y7=4 then (
 (q7F a0 a2.Symbol a2.Name).bind fun y8=>
 some y8
 ) else (
 some 0
 )
 ) else (
 some 0
 )
 ) else (
 some 0
 )
 )
 )
 )
 )
 )
 )
 )
theorem j4k {rec_sTypeOfExpr:Grammar→Rule→Expr→Option Int}(ih_sTypeOfExpr:∀ {m:Md} {a0:Grammar} {a1:Rule} {a2:Expr} {r:Int},rec_sTypeOfExpr a0 a1 a2=some r→Ok Tryz.prog 217 [Grammar.y m a0,Rule.x m a1,Expr.x m a2] [] (dI r) []){m:Md}{a0:Grammar}{a1:Rule}{a2:Expr}{r:Int}(hr:z1A rec_sTypeOfExpr a0 a1 a2=some r):Ok Tryz.prog 217 [Grammar.y m a0,Rule.x m a1,Expr.x m a2] [] (dI r) []:=by
 refine OE Tryz.func217 fun S hS=>?_
 unfold z1A at hr
 refine J g<|J (BX' 0)<|J (BX' 1)<|J (BX' 2)<|J (gn 14)<|ifE hr ?_ ?_<;>intro h1 hr
 exact e
 refine J (gn 6)<|ifE hr ?_ ?_<;>intro h2 hr
 refine J (gn 6)<|ifE hr ?_ ?_<;>intro h3 hr
 exact e
 exact e
 refine J (gn 6)<|ifE hr ?_ ?_<;>intro h4 hr
 refine bdE hr fun y1 hy1 hr=>J g<|J (CB' [] [] (q5L hy1))<|J (gn 1)<|ifE hr ?_ ?_<;>intro h5 hr
 refine bdE hr fun y2 hy2 hr=>J g<|J (CB' [] [] (q8I (m:=m) hy2))<|bdE hr fun y3 hy3 hr=>J g<|J (CB' [] [] (z3I (m:=m) hy3))<|e
 exact e
 refine J (gn 6)<|ifE hr ?_ ?_<;>intro h6 hr
 refine bdE hr fun y4 hy4 hr=>J g<|J (CB' [] [] (k4e ih_sTypeOfExpr (m:=m) hy4))<|e
 refine J (gn 6)<|ifE hr ?_ ?_<;>intro h7 hr
 refine bdE hr fun y5 hy5 hr=>J g<|J (CB' [] [] (k4f ih_sTypeOfExpr (m:=m) hy5))<|e
 refine J (gn 6)<|ifE hr ?_ ?_<;>intro h8 hr
 refine bdE hr fun y6 hy6 hr=>J g<|J (CB' [] [] (q5L hy6))<|J (gn 1)<|ifE hr ?_ ?_<;>intro h9 hr
 exact e
 exact e
 refine J (gn 6)<|ifE hr ?_ ?_<;>intro h10 hr
 exact e
 refine J (gn 6)<|ifE hr ?_ ?_<;>intro h11 hr
 refine J (gn 7)<|ifE hr ?_ ?_<;>intro h12 hr
 refine bdE hr fun x1 hx1 hr=>bdE hr fun y7 hy7 hr=>J g<|J (CB' [] [] (ih_sTypeOfExpr (m:=m) hy7))<|J (gn 3)<|ifE hr ?_ ?_<;>intro h13 hr
 refine bdE hr fun y8 hy8 hr=>J g<|J (CB' [] [] (z3I (m:=m) hy8))<|e
 exact e
 exact e
 exact e
def q9Z:Nat→Grammar→Rule→Expr→Option Int
  | 0,_,_,_=>none
  | n+1,a0,a1,a2=>z1A (q9Z n) a0 a1 a2
def z1B (a0:Grammar)(a1:Rule)(a2:Expr):Option Int:=recO fun n=>q9Z n a0 a1 a2
theorem j4l (n:Nat):∀ {m:Md} {a0:Grammar} {a1:Rule} {a2:Expr} {r:Int},q9Z n a0 a1 a2=some r→Ok Tryz.prog 217 [Grammar.y m a0,Rule.x m a1,Expr.x m a2] [] (dI r) []:=by
  induction n with
  | zero=>intro _ _ _ _ r hr; exact nomatch (show (none:Option Int)=some r from hr)
  | succ n ih=>intro _ _ _ _ r hr; exact j4k ih hr
theorem z5R {m:Md}{a0:Grammar}{a1:Rule}{a2:Expr}{r:Int}(hr:z1B a0 a1 a2=some r):Ok Tryz.prog 217 [Grammar.y m a0,Rule.x m a1,Expr.x m a2] [] (dI r) []:=by
 obtain⟨n,hn⟩:=q5V hr
 exact j4l n hn
def j4m (a0:Grammar)(a1:Rule):Nat→Equation→Unit→Option (Unit ⊕ Bool):=fun k1 xk1 _=>
 (z1B a0 a1 xk1.Expr).bind fun y1=>
 (q5C a1 xk1.At.Pos).bind fun y2=>
 (q7F a0 y2 xk1.At.Name).bind fun y3=>
 if y1=y3 then (
 some (.inl ())
 ) else (
 some (.inr false)
 )
def j4n (a0:Grammar)(a1:Rule):Nat→Contribution→Unit→Option (Unit ⊕ Bool):=fun k2 xk2 _=>
 (q5M a0 xk2.Symbol).bind fun (y4,y5)=>
 (q7U y4 xk2.Name).bind fun (y6,y7)=>
 (
 if y7=true then (
 some (!(decide (y6.Mode=3)))
 ) else (
 some true
 )
 ).bind fun s1=>
 (
 if s1=true then (
 some true
 ) else (
 (z1B a0 a1 xk2.Target).bind fun y8=>
 some (!(decide (y8=4)))
 )
 ).bind fun s2=>
 (
 if s2=true then (
 some true
 ) else (
 (z1B a0 a1 xk2.Value).bind fun y9=>
 some (!(decide (y9=2)))
 )
 ).bind fun s3=>
 if s3=true then (
 some (.inr false)
 ) else (
 some (.inl ())
 )
def z6l (a0:Grammar)(a1:Rule):Option Bool:=
 (findL (j4m a0 a1) 0 a1.Equations ()).bind <| onr (fun r1=>some r1) fun _=>
 (findL (j4n a0 a1) 0 a1.Contributions ()).bind <| onr (fun r2=>some r2) fun _=>
 some true
theorem k0h {m:Md}{a0:Grammar}{a1:Rule}{r:Bool}(hr:z6l a0 a1=some r):Ok Tryz.prog 164 [Grammar.y m a0,Rule.x m a1] [] (dB r) []:=by
 refine OE Tryz.func164 fun S hS=>?_
 unfold z6l at hr
 refine J g<|J (BX' 0)<|J (BX' 1)<|J (gn 8)<|J (lenA 4 1)<|fun hl1=>bdE hr fun q1 hqq1 hr=>q0b hqq1 hl1 2 (fun k1 _=>[(2,.pb 0 0),(3,.pb 1 0),(5,dI (k1:Int))]) (fun k1 _=>[]) I (fun k1 xk1 sk1 ok1 hxk1 hr hltk1 hik1=>?_) fun k1 sk1 ek1 hltk1=>?_
 refine J g<|J (NV' 2)<|bdE hr fun y1 hy1 hr=>J g<|J (CB' [] [] (z5R (m:=m) hy1))<|bdE hr fun y2 hy2 hr=>J g<|J (CB' [] [] (q8I (m:=m) hy2))<|bdE hr fun y3 hy3 hr=>J g<|J (CB' [] [] (z3I (m:=m) hy3))<|J (gn 2)<|ifE hr ?_ ?_<;>intro h1 hr
 exact e
 exact e
 subst ek1
 refine J (gn 17) ?_
 refine AW.len (.box 1 5 rfl rfl) fun hl2=>?_
 refine bdE hr fun q2 hqq2 hr=>q0b hqq2 hl2 2 (fun k2 _=>[(2,.pb 0 0),(3,.pb 1 0),(7,dI (k2:Int))]) (fun k2 _=>[]) I (fun k2 xk2 sk2 ok2 hxk2 hr hltk2 hik2=>?_) fun k2 sk2 ek2 hltk2=>?_
 refine J g<|J (NV' 2)<|bdP hr fun y4 y5 hq3 hr=>J g<|J (CB' [(0,3)] [] (q9f (m:=m) hq3))<|J g<|J (NV' 4)<|bdP hr fun y6 y7 hq4 hr=>J g<|J (CB' [] [3] (z2s (m:=.bo) hq4))<|J g<|J (NV' 5)<|bdE hr fun s1 hqq5 hr=>J (gn 7)<|q0a 5 [(2,.pb 0 0),(3,.pb 1 0),(7,dI (k2:Int)),(8,.pb 2 0),(73,dB s1)] ?_ ?_
 replace hr:=hqq5
 refine ifE hr ?_ ?_<;>intro h2 hr
 exact e
 exact e
 refine bdE hr fun s2 hqq6 hr=>q0a 8 [(2,.pb 0 0),(3,.pb 1 0),(7,dI (k2:Int)),(8,.pb 2 0),(81,dB s2)] ?_ ?_
 replace hr:=hqq6
 refine ifE hr ?_ ?_<;>intro h3 hr
 exact e
 refine bdE hr fun y8 hy8 hr=>J g<|J (CB' [] [] (z5R (m:=m) hy8))<|e
 refine bdE hr fun s3 hqq7 hr=>q0a 8 [(2,.pb 0 0),(3,.pb 1 0),(7,dI (k2:Int)),(89,dB s3)] ?_ ?_
 replace hr:=hqq7
 refine ifE hr ?_ ?_<;>intro h4 hr
 exact e
 refine bdE hr fun y9 hy9 hr=>J g<|J (CB' [] [] (z5R (m:=m) hy9))<|e
 refine J (gn 1)<|ifE hr ?_ ?_<;>intro h5 hr
 exact e
 exact e
 subst ek2
 exact e
def j8H (a1:ByteArray):Nat→Symbol→Unit→Option (Unit ⊕ Int):=fun k1 xk1 _=>
 if xk1.Name=a1 then (
 some (.inr (k1:Int))
 ) else (
 some (.inl ())
 )
def z2Y (a0:Grammar)(a1:ByteArray):Option Int:=
 (findL (j8H a1) 0 a0.Symbols ()).bind <| onr (fun r1=>some r1) fun _=>
 some (-1)
theorem z6m {m:Md}{a0:Grammar}{a1:ByteArray}{r:Int}(hr:z2Y a0 a1=some r):Ok Tryz.prog 51 [Grammar.y m a0,dS a1] [] (dI r) []:=by
 refine OE Tryz.func51 fun S hS=>?_
 unfold z2Y at hr
 refine J g<|J (BX' 0)<|J (gn 8)<|J (lenA 0 0)<|fun hl1=>bdE hr fun q1 hqq1 hr=>q0b hqq1 hl1 1 (fun k1 _=>[(1,dS a1),(2,.pb 0 0),(5,dI (k1:Int))]) (fun k1 _=>[]) I (fun k1 xk1 sk1 ok1 hxk1 hr hltk1 hik1=>?_) fun k1 sk1 ek1 hltk1=>?_
 refine J (gn 24)<|ifE hr ?_ ?_<;>intro h1 hr
 exact e
 exact e
 subst ek1
 exact e
def z5S (a0:Grammar)(a2:(List Int)):Nat→ByteArray→Bool→Option Bool:=fun k2 xk2 s1=>
 (z2Y a0 xk2).bind fun y1=>
 (
 if s1=true then (
 some (decide (0≤y1))
 ) else (
 some false
 )
 ).bind fun s2=>
 (
 if s2=true then (
 (z0J y1 0).bind fun y2=>
 grd (0≤y2) <|
 (a2[y2.toNat]?).bind fun x1=>
 some (decide (0 < x1))
 ) else (
 some false
 )
 ).bind fun s3=>
 some s3
def z9D (a0:Grammar)(a1:ByteArray)(a2:(List Int)):Nat→Rule→Unit→Option (Unit ⊕ Bool):=fun k1 xk1 _=>
 (eachL (z5S a0 a2) 0 xk1.Right (decide (xk1.Left=a1))).bind fun s1=>
 if s1=true then (
 some (.inr true)
 ) else (
 some (.inl ())
 )
def z1C (a0:Grammar)(a1:ByteArray)(a2:(List Int)):Option Bool:=
 (findL (z9D a0 a1 a2) 0 a0.Rules ()).bind <| onr (fun r1=>some r1) fun _=>
 some false
theorem j5t {m:Md}{a0:Grammar}{a1:ByteArray}{a2:(List Int)}{r:Bool}(hr:z1C a0 a1 a2=some r):Ok Tryz.prog 296 [Grammar.x m a0,dS a1,.d m (.sl 1 (a2.map (A.D.i .i64)))] [] (dB r) []:=by
 refine OE Tryz.func296 fun S hS=>?_
 unfold z1C at hr
 refine J g<|J (BX' 0)<|J (gn 8)<|J (lenA 1 0)<|fun hl1=>bdE hr fun q1 hqq1 hr=>q0b hqq1 hl1 1 (fun k1 _=>[(1,dS a1),(2,.d m (.sl 1 (a2.map (A.D.i .i64)))),(3,.pb 0 0),(7,dI (k1:Int))]) (fun k1 _=>[]) I (fun k1 xk1 sk1 ok1 hxk1 hr hltk1 hik1=>?_) fun k1 sk1 ek1 hltk1=>?_
 refine J g<|J (NV' 1)<|J (gn 16)<|J (lenA 2 23)<|fun hl2=>bdE hr fun s1 hqq2 hr=>q0c hqq2 hl2 2 (fun k2 s1=>[(1,dS a1),(2,.d m (.sl 1 (a2.map (A.D.i .i64)))),(3,.pb 0 0),(7,dI (k1:Int)),(8,.pb 1 0),(9,dB s1),(10,dI (k2:Int))]) (fun k2 s1=>[]) I (fun k2 xk2 sk2 ok2 hxk2 hr hltk2=>?_) fun k2 hltk2=>?_
 obtain⟨s1,rfl⟩:∃ y,y=sk2:=⟨_,rfl⟩
 refine bdE hr fun y1 hy1 hr=>J g<|J (CB' [] [] (z6m (m:=m) hy1))<|bdE hr fun s2 hqq3 hr=>J (gn 4)<|q0a 4 [(1,dS a1),(2,.d m (.sl 1 (a2.map (A.D.i .i64)))),(3,.pb 0 0),(7,dI (k1:Int)),(8,.pb 1 0),(9,dB s1),(10,dI (k2:Int)),(11,dI y1),(46,dB s2)] ?_ ?_
 replace hr:=hqq3
 refine ifE hr ?_ ?_<;>intro h1 hr
 exact e
 exact e
 refine bdE hr fun s3 hqq4 hr=>q0a 8 [(1,dS a1),(2,.d m (.sl 1 (a2.map (A.D.i .i64)))),(3,.pb 0 0),(7,dI (k1:Int)),(8,.pb 1 0),(9,dB s1),(10,dI (k2:Int)),(54,dB s3)] ?_ ?_
 replace hr:=hqq4
 refine ifE hr ?_ ?_<;>intro h2 hr
 refine bdE hr fun y2 hy2 hr=>J g<|J (CB' [] [] (z8n hy2))<|ggE hr fun g1 hr=>bdE hr fun x1 hx1 hr=>e
 exact e
 exact e
 refine J (gn 15)<|ifE hr ?_ ?_<;>intro h3 hr
 exact e
 exact e
 subst ek1
 exact e
def z2Z (a0:Grammar)(s2:List Int)(s3:Int):Nat→Symbol→((List Int))→Option ((List Int)):=fun k2 xk2 s4=>
 (
 (s2[k2]?).bind fun x1=>
 if x1=0 then (
 (z1C a0 xk2.Name s2).bind fun y1=>
 if y1=true then (
 (s4[k2]?).bind fun x2=>
 some (List.set s4 k2 s3)
 ) else (
 some s4
 )
 ) else (
 some s4
 )
 ).bind fun s5=>
 some s5
def q9g (a0:Grammar):((List Int) × Int)→Option (((List Int) × Int) ⊕ ((List Int))):=fun (s2,s3)=>
 if s3≤(a0.Symbols.length:Int) then (
 grd (((([]:List Int).length:Int)+(s2.length:Int))*8≤140737488355328∧(([]:List Int).length:Int)+(s2.length:Int)≤9223372036854775807) <|
 (eachL (z2Z a0 s2 s3) 0 a0.Symbols s2).bind fun s4=>
 grd (I64 (s3+1)) <|
 some (.inl (s4,(s3+1)))
 ) else (
 some (.inr s2)
 )
def z1D (a0:Grammar):Option (List Int):=
 grd (0≤(a0.Symbols.length:Int)∧(a0.Symbols.length:Int)*8≤281474976710656∧(a0.Symbols.length:Int)≤9223372036854775807) <|
 (q4i (q9g a0) ((List.replicate a0.Symbols.length (0:Int)),1)).bind fun s1=>
 some s1
theorem j5u {m:Md}{a0:Grammar}{r:(List Int)}(hr:z1D a0=some r):Ok Tryz.prog 261 [Grammar.x m a0] [] (.ref 0 none) [.row .fz 1 (r.map (A.D.i .i64))]:=by
 refine OE Tryz.func261 fun S hS=>?_
 unfold z1D at hr
 refine J g<|J (BX' 0)<|ggE hr fun g1 hr=>J g<|J (MKR' 1 (f:=(A.D.i .i64)) (0:Int) g1.1 g1.2.1 g1.2.2)<|bdE hr fun s1 hqq1 hr=>J (gn 7)<|q0d 2 [(3,.ref 1 none)] [(1,.row .fz 1 (s1.map (A.D.i .i64)))] ?_ ?_
 refine J g<|q0h hqq1 2 (fun (s2,s3)=>[(1,.pb 0 0),(3,.ref 1 none),(4,dI s3)]) (fun (s2,s3)=>[(1,.row .fz 1 (s2.map (A.D.i .i64)))]) I fun sk1 ok1 hr hik1=>?_
 obtain⟨s2,s3⟩:=sk1
 have hr:=hr
 refine J (gn 9)<|ifE hr ?_ ?_<;>intro h1 hr
 refine J g<|J (L0' 2 (A.D.i .i64))<|ggE hr fun g2 hr=>J g<|J (j9N (f:=(A.D.i .i64)) 3 8 (fun _=>rfl) g2)<|J (gn 8)<|J (lenT 13)<|fun hl2=>bdE hr fun s4 hqq2 hr=>q0c hqq2 hl2 4 (fun k2 s4=>[(1,.pb 0 0),(3,.ref 1 none),(4,dI s3),(5,.ref 3 none),(6,dI (k2:Int))]) (fun k2 s4=>[(2,.none),(3,.row .fz 1 (s4.map (A.D.i .i64)))]) I (fun k2 xk2 sk2 ok2 hxk2 hr hltk2=>?_) fun k2 hltk2=>?_
 obtain⟨s4,rfl⟩:∃ y,y=sk2:=⟨_,rfl⟩
 refine bdE hr fun s5 hqq3 hr=>J (gn 12)<|q0d 4 [(1,.pb 0 0),(3,.ref 1 none),(4,dI s3),(5,.ref 3 none),(6,dI (k2:Int))] [(3,.row .fz 1 (s5.map (A.D.i .i64)))] ?_ ?_
 replace hr:=hqq3
 refine bdE hr fun x1 hx1 hr=>J (gn 8)<|ifE hr ?_ ?_<;>intro h2 hr
 refine bdE hr fun y1 hy1 hr=>J g<|J (CB' [] [1] (j5t (m:=.bo) hy1))<|J (gn 2)<|ifE hr ?_ ?_<;>intro h3 hr
 refine bdE hr fun x2 hx2 hr=>J g<|J (SE' s3 hx2)<|e
 exact e
 exact e
 exact e
 refine ggE hr fun g3 hr=>e
 refine J (gn 2) ?_
 cases hr
 cases hik1 _ rfl
 exact q0e hS 2
 exact e
def z5B (a0:Grammar)(a1:ByteArray):Option Int:=
 (z2Y a0 a1).bind fun y1=>
 if y1 < 0 then (
 some 0
 ) else (
 (z1D a0).bind fun y2=>
 grd (0≤y1) <|
 (y2[y1.toNat]?).bind fun x1=>
 some x1
 )
theorem j7b {m:Md}{a0:Grammar}{a1:ByteArray}{r:Int}(hr:z5B a0 a1=some r):Ok Tryz.prog 220 [Grammar.x m a0,dS a1] [] (dI r) []:=by
 refine OE Tryz.func220 fun S hS=>?_
 unfold z5B at hr
 refine J g<|J (BX' 0)<|bdE hr fun y1 hy1 hr=>J g<|J (CB' [] [] (z6m (m:=m) hy1))<|J (gn 8)<|ifE hr ?_ ?_<;>intro h1 hr
 exact e
 refine bdE hr fun y2 hy2 hr=>J g<|J (CB' [(0,1)] [] (j5u (m:=m) hy2))<|ggE hr fun g1 hr=>bdE hr fun x1 hx1 hr=>e
def q9P (a0:Grammar)(a1:ByteArray):Option Bool:=
 (z5B a0 a1).bind fun y1=>
 some (decide (0 < y1))
theorem j2M {m:Md}{a0:Grammar}{a1:ByteArray}{r:Bool}(hr:q9P a0 a1=some r):Ok Tryz.prog 165 [Grammar.x m a0,dS a1] [] (dB r) []:=by
 refine OE Tryz.func165 fun S hS=>?_
 unfold q9P at hr
 refine J g<|J (BX' 0)<|bdE hr fun y1 hy1 hr=>J g<|J (CB' [] [] (j7b (m:=m) hy1))<|e
def z7M (a0:Grammar):Nat→Rule→Unit→Option (Unit ⊕ (Int × Int)):=fun k1 xk1 _=>
 (z6l a0 xk1).bind fun y3=>
 if y3=true then (
 some (.inl ())
 ) else (
 some (.inr (7,(k1:Int)))
 )
def z0K (a0:Grammar):Nat→Symbol→Unit→Option (Unit ⊕ (Int × Int)):=fun k2 xk2 _=>
 (q9P a0 xk2.Name).bind fun y4=>
 if y4=true then (
 some (.inl ())
 ) else (
 some (.inr (8,(k2:Int)))
 )
def q9Q (a0:Grammar):Option (Int × Int):=
 (z1z a0).bind fun (y1,y2)=>
 if y1=0 then (
 (findL (z7M a0) 0 a0.Rules ()).bind <| onr (fun r1=>some r1) fun _=>
 (findL (z0K a0) 0 a0.Symbols ()).bind <| onr (fun r2=>some r2) fun _=>
 some (0,0)
 ) else (
 some (y1,y2)
 )
theorem j2N {m:Md}{a0:Grammar}{r:(Int × Int)}(hr:q9Q a0=some r):Ok Tryz.prog 105 [Grammar.x m a0] [] (.tu [dI r.1,dI r.2]) []:=by
 refine OE Tryz.func105 fun S hS=>?_
 unfold q9Q at hr
 refine J g<|J (BX' 0)<|bdP hr fun y1 y2 hq1 hr=>J g<|J (CB' [] [] (j5s (m:=m) hq1))<|J (gn 12)<|ifE hr ?_ ?_<;>intro h1 hr
 refine J (gn 8)<|J (lenA 1 0)<|fun hl1=>bdE hr fun q2 hqq2 hr=>q0b hqq2 hl1 1 (fun k1 _=>[(1,.pb 0 0),(6,dI (k1:Int))]) (fun k1 _=>[]) I (fun k1 xk1 sk1 ok1 hxk1 hr hltk1 hik1=>?_) fun k1 sk1 ek1 hltk1=>?_
 refine bdE hr fun y3 hy3 hr=>J g<|J (CB' [] [] (k0h (m:=m) hy3))<|J (gn 2)<|ifE hr ?_ ?_<;>intro h2 hr
 exact e
 exact e
 subst ek1
 refine J (gn 17) ?_
 refine AW.len (.box 0 0 rfl rfl) fun hl2=>?_
 refine bdE hr fun q3 hqq3 hr=>q0b hqq3 hl2 1 (fun k2 _=>[(1,.pb 0 0),(7,dI (k2:Int))]) (fun k2 _=>[]) I (fun k2 xk2 sk2 ok2 hxk2 hr hltk2 hik2=>?_) fun k2 sk2 ek2 hltk2=>?_
 refine bdE hr fun y4 hy4 hr=>J g<|J (CB' [] [] (j2M (m:=m) hy4))<|J (gn 2)<|ifE hr ?_ ?_<;>intro h3 hr
 exact e
 exact e
 subst ek2
 exact e
 exact e
def z4o (a0:Grammar):Option Bool:=
 (q9Q a0).bind fun (y1,y2)=>
 some (decide (y1=0))
theorem j4o {m:Md}{a0:Grammar}{r:Bool}(hr:z4o a0=some r):Ok Tryz.prog 48 [Grammar.x m a0] [] (dB r) []:=by
 refine OE Tryz.func48 fun S hS=>?_
 unfold z4o at hr
 refine J g<|J (BX' 0)<|bdP hr fun y1 y2 hq1 hr=>J g<|J (CB' [] [] (j2N (m:=m) hq1))<|e
def q5R:Nat→Attribute→((List Attribute))→Option ((List Attribute)):=fun k1 xk1 s1=>
 (
 if xk1.Mode=1 then (
 grd (((s1.length:Int)+1)*40≤140737488355328∧(s1.length:Int)+1≤9223372036854775807) <|
 some (s1++[xk1])
 ) else (
 if xk1.Mode=2 then (
 grd (((s1.length:Int)+1)*40≤140737488355328∧(s1.length:Int)+1≤9223372036854775807) <|
 some (s1++[xk1])
 ) else (
 some s1
 )
 )
 ).bind fun s2=>
 some s2
def q4K (a0:Grammar)(a1:ByteArray):Option (List Attribute):=
 (q5M a0 a1).bind fun (y1,y2)=>
 (eachL q5R 0 y1.Attributes ([]:List Attribute)).bind fun s1=>
 some s1
theorem q7G {m:Md}{a0:Grammar}{a1:ByteArray}{r:(List Attribute)}(hr:q4K a0 a1=some r):Ok Tryz.prog 50 [Grammar.y m a0,dS a1] [] (.ref 0 none) [.row .fz 4 (r.map Attribute.D)]:=by
 refine OE Tryz.func50 fun S hS=>?_
 unfold q4K at hr
 refine J g<|J (BX' 0)<|J g<|J (L0' 1 Attribute.D)<|bdP hr fun y1 y2 hq1 hr=>J g<|J (CB' [(0,2)] [] (q9f (m:=m) hq1))<|J g<|J (NV' 3)<|J (gn 9)<|J (lenR 2)<|fun hl1=>bdE hr fun s1 hqq2 hr=>q0c hqq2 hl1 4 (fun k1 s1=>[(5,.ref 1 none),(6,.pb 3 0),(8,dI (k1:Int))]) (fun k1 s1=>[(1,.row .fz 4 (s1.map Attribute.D))]) I (fun k1 xk1 sk1 ok1 hxk1 hr hltk1=>?_) fun k1 hltk1=>?_
 obtain⟨s1,rfl⟩:∃ y,y=sk1:=⟨_,rfl⟩
 refine bdE hr fun s2 hqq3 hr=>J (gn 12)<|q0d 4 [(5,.ref 1 none),(6,.pb 3 0),(8,dI (k1:Int))] [(1,.row .fz 4 (s2.map Attribute.D))] ?_ ?_
 replace hr:=hqq3
 refine J (gn 10)<|ifE hr ?_ ?_<;>intro h1 hr
 refine J g<|J (LIR' 4 (m:=.fz) (f:=Attribute.D) (xs:=[xk1]))<|ggE hr fun g1 hr=>J (z4z (f:=Attribute.D) 5 (fun _=>rfl) 40 g1)<|e
 refine J (gn 10)<|ifE hr ?_ ?_<;>intro h2 hr
 refine J g<|J (LIR' 4 (m:=.fz) (f:=Attribute.D) (xs:=[xk1]))<|ggE hr fun g2 hr=>J (z4z (f:=Attribute.D) 5 (fun _=>rfl) 40 g2)<|e
 exact e
 exact e
 exact e
def q4h (a0:Int):Option Relation:=
 (q5B a0 0 16).bind fun y1=>
 if y1=true then (
 grd (0≤a0∧a0*8≤281474976710656∧a0≤9223372036854775807) <|
 some (⟨a0,(List.replicate a0.toNat (0:Int))⟩:Relation)
 ) else (
 some (⟨0,[]⟩:Relation)
 )
theorem q8r {a0:Int}{r:Relation}(hr:q4h a0=some r):Ok Tryz.prog 49 [dI a0] [] (.ag [dI r.N,.ref 0 none]) [.row .fz 1 (r.Rows.map (A.D.i .i64))]:=by
 refine OE Tryz.func49 fun S hS=>?_
 unfold q4h at hr
 refine J g<|J (NV' 0)<|bdE hr fun y1 hy1 hr=>J g<|J (CB' [] [] (q5L hy1))<|J (gn 2)<|ifE hr ?_ ?_<;>intro h1 hr
 refine ggE hr fun g1 hr=>J g<|J (MKR' 1 (f:=(A.D.i .i64)) (0:Int) g1.1 g1.2.1 g1.2.2)<|e
 refine J (gn 7) ?_
 refine J (q0g (q0m (q:=0) (c:=1) (r:=1) .fz 1 rfl rfl rfl))<|J g<|E
def j4p (a0:Grammar)(a2:(List Relation)):Nat→ByteArray→((List Relation))→Option ((List Relation)):=fun k1 xk1 s1=>
 (z2Y a0 xk1).bind fun y1=>
 (z0J 0 y1).bind fun y2=>
 grd (0≤y2) <|
 (a2[y2.toNat]?).bind fun x1=>
 grd (((s1.length:Int)+1)*32≤140737488355328∧(s1.length:Int)+1≤9223372036854775807) <|
 some (s1++[x1])
def z4p (a0:Grammar)(a1:Rule)(a2:(List Relation)):Option (List Relation):=
 (eachL (j4p a0 a2) 0 a1.Right ([]:List Relation)).bind fun s1=>
 some s1
theorem j4q {m:Md}{m2:Md}{a0:Grammar}{a1:Rule}{a2:(List Relation)}{r:(List Relation)}(hr:z4p a0 a1 a2=some r):Ok Tryz.prog 38 [Grammar.y m a0,Rule.x m a1,.ref 0 none] [.row m2 2 (a2.map Relation.D)] (.ref 1 none) [.row m2 2 (a2.map Relation.D),.row m2 2 (r.map Relation.D)]:=by
 refine OE Tryz.func38 fun S hS=>?_
 unfold z4p at hr
 refine J g<|J (BX' 1)<|J (BX' 2)<|J g<|J (L0' 3 Relation.D)<|J (gn 8)<|J (lenA 2 1)<|fun hl1=>bdE hr fun s1 hqq1 hr=>?_
 refine q0c hqq1 hl1 4 (fun k1 s1=>[(2,.ref 0 none),(3,.pb 1 0),(4,.pb 2 0),(7,.ref 3 none),(8,dI (k1:Int))]) (fun k1 s1=>[(3,.row m2 2 (s1.map Relation.D))]) (GH.trans (q1A (r:=3) m2 rfl) I) (fun k1 xk1 sk1 ok1 hxk1 hr hltk1=>?_) fun k1 hltk1=>?_
 obtain⟨s1,rfl⟩:∃ y,y=sk1:=⟨_,rfl⟩
 refine bdE hr fun y1 hy1 hr=>J g<|J (CB' [] [] (z6m (m:=m) hy1))<|bdE hr fun y2 hy2 hr=>J (CB' [] [] (z8n hy2))<|ggE hr fun g1 hr=>bdE hr fun x1 hx1 hr=>J g ?_
 refine J (k6l 4 (m:=m2) (f:=Relation.D) [x1] rfl)<|ggE hr fun g2 hr=>J (AP1' 5 m2 32 g2)<|J (q0o .refl)<|J g<|E
 exact e
def z6n (s3:Int):Nat→Attribute→((List Occurrence))→Option ((List Occurrence)):=fun k2 xk2 s4=>
 grd (((s4.length:Int)+1)*24≤140737488355328∧(s4.length:Int)+1≤9223372036854775807) <|
 some (s4++[(⟨s3,xk2.Name⟩:Occurrence)])
def q5l (a0:Grammar)(a1:Rule):((List Occurrence) × Int)→Option (((List Occurrence) × Int) ⊕ ((List Occurrence))):=fun (s2,s3)=>
 if s3≤(a1.Right.length:Int) then (
 (q5C a1 s3).bind fun y1=>
 (q4K a0 y1).bind fun y2=>
 (eachL (z6n s3) 0 y2 s2).bind fun s4=>
 grd (I64 (s3+1)) <|
 some (.inl (s4,(s3+1)))
 ) else (
 some (.inr s2)
 )
def q5N (a0:Grammar)(a1:Rule):Option (List Occurrence):=
 (q4i (q5l a0 a1) (([]:List Occurrence),0)).bind fun s1=>
 some s1
theorem z2u {m:Md}{a0:Grammar}{a1:Rule}{r:(List Occurrence)}(hr:q5N a0 a1=some r):Ok Tryz.prog 92 [Grammar.y m a0,Rule.x m a1] [] (.ref 0 none) [.row .fz 2 (r.map Occurrence.D)]:=by
 refine OE Tryz.func92 fun S hS=>?_
 unfold q5N at hr
 refine J g<|J (BX' 0)<|J (BX' 1)<|J g<|J (L0' 2 Occurrence.D)<|bdE hr fun s1 hqq1 hr=>J (gn 7)<|q0d 3 [(5,.ref 2 none)] [(2,.row .fz 2 (s1.map Occurrence.D))] ?_ ?_
 refine J g<|q0h hqq1 3 (fun (s2,s3)=>[(2,.pb 0 0),(3,.pb 1 0),(5,.ref 2 none),(6,dI s3)]) (fun (s2,s3)=>[(2,.row .fz 2 (s2.map Occurrence.D))]) I fun sk1 ok1 hr hik1=>?_
 obtain⟨s2,s3⟩:=sk1
 have hr:=hr
 refine J (gn 9)<|ifE hr ?_ ?_<;>intro h1 hr
 refine bdE hr fun y1 hy1 hr=>J g<|J (CB' [] [] (q8I (m:=m) hy1))<|bdE hr fun y2 hy2 hr=>J (CB' [(0,3)] [] (q7G (m:=m) hy2))<|J (gn 7)<|J (lenR 3)<|fun hl2=>bdE hr fun s4 hqq2 hr=>q0c hqq2 hl2 4 (fun k2 s4=>[(2,.pb 0 0),(3,.pb 1 0),(5,.ref 2 none),(6,dI s3),(7,.ref 3 none),(8,dI (k2:Int))]) (fun k2 s4=>[(2,.row .fz 2 (s4.map Occurrence.D))]) I (fun k2 xk2 sk2 ok2 hxk2 hr hltk2=>?_) fun k2 hltk2=>?_
 obtain⟨s4,rfl⟩:∃ y,y=sk2:=⟨_,rfl⟩
 refine J g<|J (LIR' 4 (m:=.fz) (f:=Occurrence.D) (xs:=[(⟨s3,xk2.Name⟩:Occurrence)]))<|ggE hr fun g1 hr=>J (z4z (f:=Occurrence.D) 5 (fun _=>rfl) 24 g1)<|e
 refine ggE hr fun g2 hr=>e
 refine J (gn 2) ?_
 cases hr
 cases hik1 _ rfl
 exact GH.trans (q0W (q:=0) [.d m (.sl 2 (a0.Symbols.map Symbol.D)),.u] (.cons .rfl (.cons .u .nil)) rfl) (q0e hS 3)
 exact e
def z0Q (a1:Occurrence):Nat→Occurrence→Unit→Option (Unit ⊕ Int):=fun k1 xk1 _=>
 if xk1=a1 then (
 some (.inr (k1:Int))
 ) else (
 some (.inl ())
 )
def q8b (a0:(List Occurrence))(a1:Occurrence):Option Int:=
 (findL (z0Q a1) 0 a0 ()).bind <| onr (fun r1=>some r1) fun _=>
 some (-1)
theorem z9S {m:Md}{a0:(List Occurrence)}{a1:Occurrence}{r:Int}(hr:q8b a0 a1=some r):Ok Tryz.prog 154 [.d m (.sl 2 (a0.map Occurrence.D)),Occurrence.x .fz a1] [] (dI r) []:=by
 refine OE Tryz.func154 fun S hS=>?_
 unfold q8b at hr
 refine J g<|J (BX' 0)<|J (gn 8)<|J (lenT 0)<|fun hl1=>bdE hr fun q1 hqq1 hr=>q0b hqq1 hl1 1 (fun k1 _=>[(0,.d m (.sl 2 (a0.map Occurrence.D))),(3,.pb 0 0),(5,dI (k1:Int))]) (fun k1 _=>[]) I (fun k1 xk1 sk1 ok1 hxk1 hr hltk1 hik1=>?_) fun k1 sk1 ek1 hltk1=>?_
 refine J g ?_
 refine J (SQ' rfl rfl rfl rfl (q6d xk1 a1))<|J (gn 1)<|ifE hr ?_ ?_<;>intro h1 hr
 exact e
 exact e
 subst ek1
 exact e
def q9h (a0:Relation):Option Relation:=
 grd (((([]:List Int).length:Int)+(a0.Rows.length:Int))*8≤140737488355328∧(([]:List Int).length:Int)+(a0.Rows.length:Int)≤9223372036854775807) <|
 some a0
theorem z9T {m:Md}{a0:Relation}{r:Relation}(hr:q9h a0=some r):Ok Tryz.prog 108 [Relation.x m a0] [] (.ag [dI r.N,.ref 0 none]) [.row .fz 1 (r.Rows.map (A.D.i .i64))]:=by
 refine OE Tryz.func108 fun S hS=>?_
 unfold q9h at hr
 refine J g<|J (BX' 0)<|J (NV' 1)<|J g<|J (L0' 2 (A.D.i .i64))<|ggE hr fun g1 hr=>J g<|J (j9N (f:=(A.D.i .i64)) 3 8 (fun _=>rfl) g1)<|e
def z0R (a0:Relation):Nat→Unit→Option (Unit ⊕ Bool):=fun k1 _=>
 (a0.Rows[k1]?).bind fun x1=>
 grd (0≤a0.N) <|
 grd (0≤a0.N∧a0.N < 63) <|
 (q5B x1 0 (((2 ^ a0.N.toNat:Nat):Int) - 1)).bind fun y2=>
 if y2=true then (
 some (.inl ())
 ) else (
 some (.inr false)
 )
def q4c (a0:Relation):Option Bool:=
 (q5B a0.N 0 16).bind fun y1=>
 if y1=true then (
 if (a0.Rows.length:Int)=a0.N then (
 (findN (z0R a0) 0 a0.N.toNat ()).bind <| onr (fun r1=>some r1) fun _=>
 some true
 ) else (
 some false
 )
 ) else (
 some false
 )
theorem q5c {m:Md}{a0:Relation}{r:Bool}(hr:q4c a0=some r):Ok Tryz.prog 89 [Relation.x m a0] [] (dB r) []:=by
 refine OE Tryz.func89 fun S hS=>?_
 unfold q4c at hr
 refine J g<|J (BX' 0)<|bdE hr fun y1 hy1 hr=>J g<|J (CB' [] [] (q5L hy1))<|J (gn 1)<|ifE hr ?_ ?_<;>intro h1 hr
 refine J (gn 9)<|ifE hr ?_ ?_<;>intro h2 hr
 refine J (gn 8) ?_
 refine q0y (.ag 0 (.tmp 0 rfl) rfl) fun hl1=>?_
 refine bdE hr fun q1 hqq1 hr=>q0q hqq1 1 (fun k1 _=>[(1,.pb 0 0),(3,dI (k1:Int))]) (fun k1 _=>[]) I (fun k1 sk1 ok1 hr hltk1 hik1=>?_) fun sk1 ek1=>?_
 refine bdE hr fun x1 hx1 hr=>ggE hr fun g1 hr=>J g ?_
 refine J (CIU' g1 rfl)<|ggE hr fun g2 hr=>J (OB' _ (k2s g2))<|J (OB' _ (k8s (p:=(2 ^ a0.N.toNat)) (k:=1) (by decide)))<|bdE hr fun y2 hy2 hr=>J (CB' [] [] (q5L hy2))<|J (gn 2)<|ifE hr ?_ ?_<;>intro h3 hr
 exact e
 exact e
 subst ek1
 exact e
 exact e
 exact e
def q6P (a0:Relation)(a1:Int)(a2:Int):Option Relation:=
 (q9h a0).bind fun y1=>
 (q4c a0).bind fun y2=>
 (
 if y2=true then (
 grd (I64 (a0.N - 1)) <|
 (q5B a1 0 (a0.N - 1)).bind fun y3=>
 some y3
 ) else (
 some false
 )
 ).bind fun s1=>
 (
 if s1=true then (
 grd (I64 (a0.N - 1)) <|
 (q5B a2 0 (a0.N - 1)).bind fun y4=>
 some y4
 ) else (
 some false
 )
 ).bind fun s2=>
 if s2=true then (
 grd (0≤a1) <|
 (y1.Rows[a1.toNat]?).bind fun x1=>
 grd (0≤a2) <|
 grd (0≤a2∧a2 < 63) <|
 grd (0≤x1∧0≤((2 ^ a2.toNat:Nat):Int)) <|
 some (⟨y1.N,(List.set y1.Rows a1.toNat ((x1.toNat ||| ((2 ^ a2.toNat:Nat):Int).toNat:Nat):Int))⟩:Relation)
 ) else (
 some y1
 )
theorem z7h {m:Md}{a0:Relation}{a1:Int}{a2:Int}{r:Relation}(hr:q6P a0 a1 a2=some r):Ok Tryz.prog 94 [Relation.x m a0,dI a1,dI a2] [] (.ag [dI r.N,.ref 0 none]) [.row .fz 1 (r.Rows.map (A.D.i .i64))]:=by
 refine OE Tryz.func94 fun S hS=>?_
 unfold q6P at hr
 refine J g<|J (BX' 0)<|J (NV' 1)<|bdE hr fun y1 hy1 hr=>J g<|J (CB' [(0,2)] [] (z9T (m:=m) hy1))<|J (NV' 3)<|bdE hr fun y2 hy2 hr=>J g<|J (CB' [] [] (q5c (m:=m) hy2))<|bdE hr fun s1 hqq1 hr=>q0a 7 [(1,dI a1),(2,dI a2),(3,.pb 0 0),(6,.pb 1 0),(7,.pb 3 0),(18,dB s1)] ?_ ?_
 replace hr:=hqq1
 refine ifE hr ?_ ?_<;>intro h1 hr
 refine ggE hr fun g1 hr=>bdE hr fun y3 hy3 hr=>J g<|J (CB' [] [] (q5L hy3))<|e
 exact e
 refine bdE hr fun s2 hqq2 hr=>q0a 7 [(1,dI a1),(2,dI a2),(6,.pb 1 0),(7,.pb 3 0),(25,dB s2)] ?_ ?_
 replace hr:=hqq2
 refine ifE hr ?_ ?_<;>intro h2 hr
 refine ggE hr fun g2 hr=>bdE hr fun y4 hy4 hr=>J g<|J (CB' [] [] (q5L hy4))<|e
 exact e
 refine J (gn 1)<|ifE hr ?_ ?_<;>intro h3 hr
 refine ggE hr fun g3 hr=>bdE hr fun x1 hx1 hr=>ggE hr fun g4 hr=>J g ?_
 refine J (CIU' g4 rfl)<|ggE hr fun g5 hr=>J (OB' _ (k2s g5))<|ggE hr fun g6 hr=>J (OB' _ (bOrI g6))<|J g<|J (SE' ((x1.toNat ||| ((2 ^ a2.toNat:Nat):Int).toNat:Nat):Int) hx1)<|J g<|E
 exact e
def q8s (y1:(List Occurrence))(s3:Int):Nat→Occurrence→((List Int) × Int)→Option ((List Int) × Int):=fun k2 xk2 (s8,s9)=>
 (q8b y1 xk2).bind fun y6=>
 (q6P (⟨s9,s8⟩:Relation) y6 s3).bind fun y7=>
 some (y7.Rows,y7.N)
def q5m (a1:Rule)(y1:(List Occurrence)):(Int × (List Int) × Int)→Option ((Int × (List Int) × Int) ⊕ ((List Int) × Int)):=fun (s3,s4,s5)=>
 if s3 < (y1.length:Int) then (
 if 0 < s5 then (
 (
 grd (0≤s3) <|
 (y1[s3.toNat]?).bind fun x1=>
 (q5H a1 x1).bind fun (y3,y4)=>
 if y4=true then (
 (q6V y3).bind fun y5=>
 (eachL (q8s y1 s3) 0 y5 (s4,s5)).bind fun (s8,s9)=>
 some (s8,s9)
 ) else (
 some (s4,s5)
 )
 ).bind fun (s6,s7)=>
 grd (I64 (s3+1)) <|
 some (.inl ((s3+1),s6,s7))
 ) else (
 some (.inr (s4,s5))
 )
 ) else (
 some (.inr (s4,s5))
 )
def q6m (a0:Grammar)(a1:Rule):Option Relation:=
 (q5N a0 a1).bind fun y1=>
 (q4h (y1.length:Int)).bind fun y2=>
 (q4i (q5m a1 y1) (0,y2.Rows,y2.N)).bind fun (s1,s2)=>
 some (⟨s2,s1⟩:Relation)
theorem z6o {m:Md}{a0:Grammar}{a1:Rule}{r:Relation}(hr:q6m a0 a1=some r):Ok Tryz.prog 93 [Grammar.y m a0,Rule.x m a1] [] (.ag [dI r.N,.ref 0 none]) [.row .fz 1 (r.Rows.map (A.D.i .i64))]:=by
 refine OE Tryz.func93 fun S hS=>?_
 unfold q6m at hr
 refine J g<|J (BX' 0)<|J (BX' 1)<|J (NV' 2)<|bdE hr fun y1 hy1 hr=>J g<|J (CB' [(0,3)] [] (z2u (m:=m) hy1))<|bdE hr fun y2 hy2 hr=>J g<|J (CB' [(0,4)] [] (q8r hy2))<|J (NV' 5)<|bdP hr fun s1 s2 hqq1 hr=>J (gn 7)<|q0d 6 [(4,.pb 2 0),(6,.pb 5 0)] [(4,.row .fz 1 (s1.map (A.D.i .i64))),(5,.box [dI s2,.ref 4 none])] ?_ ?_
 refine J g<|q0h hqq1 6 (fun (s3,s4,s5)=>[(3,.pb 1 0),(4,.pb 2 0),(5,.ref 3 none),(6,.pb 5 0),(7,dI s3)]) (fun (s3,s4,s5)=>[(4,.row .fz 1 (s4.map (A.D.i .i64))),(5,.box [dI s5,.ref 4 none])]) I fun sk1 ok1 hr hik1=>?_
 obtain⟨s3,s4,s5⟩:=sk1
 have hr:=hr
 refine J (gn 7)<|ifE hr ?_ ?_<;>intro h1 hr
 refine J (gn 6)<|ifE hr ?_ ?_<;>intro h2 hr
 refine bdP hr fun s6 s7 hqq2 hr=>J (gn 3)<|q0d 6 [(3,.pb 1 0),(4,.pb 2 0),(5,.ref 3 none),(6,.pb 5 0),(7,dI s3),(23,.pb 5 0),(24,dI s5),(25,dB (decide (0 < s5)))] [(4,.row .fz 1 (s6.map (A.D.i .i64))),(5,.box [dI s7,.ref 4 none])] ?_ ?_
 replace hr:=hqq2
 refine ggE hr fun g1 hr=>bdE hr fun x1 hx1 hr=>bdP hr fun y3 y4 hq3 hr=>J g<|J (CB' [(0,6)] [] (z7L (m:=m) hq3))<|J g<|J (NV' 7)<|J (gn 9)<|ifE hr ?_ ?_<;>intro h3 hr
 refine J (gn 5) ?_
 refine J (q0p 6 rfl)<|bdE hr fun y5 hy5 hr=>J (CB' [] [] (z6k (m:=.fz) hy5))<|J (gn 7)<|J (lenT 10)<|fun hl2=>bdP hr fun s8 s9 hqq4 hr=>q0c hqq4 hl2 8 (fun k2 (s8,s9)=>[(3,.pb 1 0),(4,.pb 2 0),(5,.ref 3 none),(6,.pb 5 0),(7,dI s3),(10,.d .fz (.sl 2 (y5.map Occurrence.D))),(11,dI (k2:Int)),(23,.pb 5 0),(24,dI s5),(25,dB (decide (0 < s5)))]) (fun k2 (s8,s9)=>[(4,.row .fz 1 (s8.map (A.D.i .i64))),(5,.box [dI s9,.ref 4 none]),(6,.none)]) I (fun k2 xk2 sk2 ok2 hxk2 hr hltk2=>?_) fun k2 hltk2=>?_
 obtain⟨s8,s9⟩:=sk2
 refine bdE hr fun y6 hy6 hr=>J g<|J (CB' [] [3] (z9S (m:=.bo) hy6))<|bdE hr fun y7 hy7 hr=>J g<|J (CB' [(0,8)] [4] (z7h (m:=.bo) hy7))<|e
 exact e
 exact e
 refine ggE hr fun g2 hr=>e
 refine J (gn 2) ?_
 cases hr
 cases hik1 _ rfl
 exact GH.trans (q0W (q:=0) [.d m (.sl 2 (a0.Symbols.map Symbol.D)),.u] (.cons .rfl (.cons .u .nil)) rfl) (q0e hS 6)
 refine J (gn 8) ?_
 cases hr
 cases hik1 _ rfl
 exact GH.trans (q0W (q:=0) [.d m (.sl 2 (a0.Symbols.map Symbol.D)),.u] (.cons .rfl (.cons .u .nil)) rfl) (q0e hS 6)
 exact e
def q5S (a2:Int):Nat→Occurrence→((List Int))→Option ((List Int)):=fun k1 xk1 s1=>
 (
 if xk1.Pos=a2 then (
 grd (((s1.length:Int)+1)*8≤140737488355328∧(s1.length:Int)+1≤9223372036854775807) <|
 some (s1++[(k1:Int)])
 ) else (
 some s1
 )
 ).bind fun s2=>
 some s2
def q5o (a0:Grammar)(a1:Rule)(a2:Int):Option (List Int):=
 (q5N a0 a1).bind fun y1=>
 (eachL (q5S a2) 0 y1 ([]:List Int)).bind fun s1=>
 some s1
theorem z0S {m:Md}{a0:Grammar}{a1:Rule}{a2:Int}{r:(List Int)}(hr:q5o a0 a1 a2=some r):Ok Tryz.prog 68 [Grammar.y m a0,Rule.x m a1,dI a2] [] (.ref 0 none) [.row .fz 1 (r.map (A.D.i .i64))]:=by
 refine OE Tryz.func68 fun S hS=>?_
 unfold q5o at hr
 refine J g<|J (BX' 0)<|J (BX' 1)<|J g<|J (L0' 2 (A.D.i .i64))<|bdE hr fun y1 hy1 hr=>J g<|J (CB' [(0,3)] [] (z2u (m:=m) hy1))<|J (gn 8)<|J (lenR 3)<|fun hl1=>bdE hr fun s1 hqq1 hr=>q0c hqq1 hl1 4 (fun k1 s1=>[(2,dI a2),(7,.ref 2 none),(8,.ref 3 none),(9,dI (k1:Int))]) (fun k1 s1=>[(2,.row .fz 1 (s1.map (A.D.i .i64)))]) I (fun k1 xk1 sk1 ok1 hxk1 hr hltk1=>?_) fun k1 hltk1=>?_
 obtain⟨s1,rfl⟩:∃ y,y=sk1:=⟨_,rfl⟩
 refine bdE hr fun s2 hqq2 hr=>J (gn 11)<|q0d 4 [(2,dI a2),(7,.ref 2 none),(8,.ref 3 none),(9,dI (k1:Int))] [(2,.row .fz 1 (s2.map (A.D.i .i64)))] ?_ ?_
 replace hr:=hqq2
 refine J (gn 11)<|ifE hr ?_ ?_<;>intro h1 hr
 refine J g<|J (LIR' 4 (m:=.fz) (f:=(A.D.i .i64)) (xs:=([(k1:Int)]:List Int)))<|ggE hr fun g1 hr=>J (z4z (f:=(A.D.i .i64)) 5 (fun _=>rfl) 8 g1)<|e
 exact e
 exact e
 exact e
def q7v (a0:Relation)(a1:Int)(a2:Int):Option Bool:=
 (q4c a0).bind fun y1=>
 (
 if y1=true then (
 grd (I64 (a0.N - 1)) <|
 (q5B a1 0 (a0.N - 1)).bind fun y2=>
 some y2
 ) else (
 some false
 )
 ).bind fun s1=>
 (
 if s1=true then (
 grd (I64 (a0.N - 1)) <|
 (q5B a2 0 (a0.N - 1)).bind fun y3=>
 some y3
 ) else (
 some false
 )
 ).bind fun s2=>
 (
 if s2=true then (
 grd (0≤a1) <|
 (a0.Rows[a1.toNat]?).bind fun x1=>
 grd (0≤a2) <|
 grd (0≤x1∧0≤a2∧a2 < 64) <|
 grd (0≤((x1.toNat >>> a2.toNat:Nat):Int)∧0≤(1:Int)) <|
 some (decide (((((x1.toNat >>> a2.toNat:Nat):Int).toNat &&& (1:Int).toNat:Nat):Int)=1))
 ) else (
 some false
 )
 ).bind fun s3=>
 some s3
theorem z2v {m:Md}{a0:Relation}{a1:Int}{a2:Int}{r:Bool}(hr:q7v a0 a1 a2=some r):Ok Tryz.prog 91 [Relation.x m a0,dI a1,dI a2] [] (dB r) []:=by
 refine OE Tryz.func91 fun S hS=>?_
 unfold q7v at hr
 refine J g<|J (BX' 0)<|bdE hr fun y1 hy1 hr=>J g<|J (CB' [] [] (q5c (m:=m) hy1))<|bdE hr fun s1 hqq1 hr=>q0a 7 [(1,dI a1),(2,dI a2),(3,.pb 0 0),(6,dB false),(15,dB s1)] ?_ ?_
 replace hr:=hqq1
 refine ifE hr ?_ ?_<;>intro h1 hr
 refine ggE hr fun g1 hr=>bdE hr fun y2 hy2 hr=>J g<|J (CB' [] [] (q5L hy2))<|e
 exact e
 refine bdE hr fun s2 hqq2 hr=>q0a 7 [(1,dI a1),(2,dI a2),(3,.pb 0 0),(6,dB false),(22,dB s2)] ?_ ?_
 replace hr:=hqq2
 refine ifE hr ?_ ?_<;>intro h2 hr
 refine ggE hr fun g2 hr=>bdE hr fun y3 hy3 hr=>J g<|J (CB' [] [] (q5L hy3))<|e
 exact e
 refine bdE hr fun s3 hqq3 hr=>q0a 12 [(6,dB false),(34,dB s3)] ?_ ?_
 replace hr:=hqq3
 refine ifE hr ?_ ?_<;>intro h3 hr
 refine ggE hr fun g3 hr=>bdE hr fun x1 hx1 hr=>ggE hr fun g4 hr=>J g ?_
 refine J (CIU' g4 rfl)<|ggE hr fun g5 hr=>J (OB' _ (k6h g5))<|ggE hr fun g6 hr=>J (OB' _ (k6i g6))<|J g<|E
 exact e
 exact e
def q8t (k1:Nat):Nat→((List Int))→Option ((List Int)):=fun k2 s2=>
 (
 (s2[k2]?).bind fun x1=>
 grd (0≤x1∧0≤(k1:Int)∧(k1:Int) < 64) <|
 grd (0≤((x1.toNat >>> (k1:Int).toNat:Nat):Int)∧0≤(1:Int)) <|
 if ((((x1.toNat >>> (k1:Int).toNat:Nat):Int).toNat &&& (1:Int).toNat:Nat):Int)=1 then (
 (s2[k1]?).bind fun x2=>
 grd (0≤x1∧0≤x2) <|
 some (List.set s2 k2 ((x1.toNat ||| x2.toNat:Nat):Int))
 ) else (
 some s2
 )
 ).bind fun s3=>
 some s3
def z2w (a0:Relation):Nat→((List Int))→Option ((List Int)):=fun k1 s1=>
 (eachN (q8t k1) 0 a0.N.toNat s1).bind fun s2=>
 some s2
def q6W (a0:Relation):Option Relation:=
 (q9h a0).bind fun y1=>
 (q4c a0).bind fun y2=>
 if y2=true then (
 (eachN (z2w a0) 0 a0.N.toNat y1.Rows).bind fun s1=>
 some (⟨y1.N,s1⟩:Relation)
 ) else (
 some y1
 )
theorem z2x {m:Md}{a0:Relation}{r:Relation}(hr:q6W a0=some r):Ok Tryz.prog 90 [Relation.x m a0] [] (.ag [dI r.N,.ref 0 none]) [.row .fz 1 (r.Rows.map (A.D.i .i64))]:=by
 refine OE Tryz.func90 fun S hS=>?_
 unfold q6W at hr
 refine J g<|J (BX' 0)<|J (NV' 1)<|bdE hr fun y1 hy1 hr=>J g<|J (CB' [(0,2)] [] (z9T (m:=m) hy1))<|J (NV' 3)<|bdE hr fun y2 hy2 hr=>J g<|J (CB' [] [] (q5c (m:=m) hy2))<|J (gn 2)<|ifE hr ?_ ?_<;>intro h1 hr
 refine J (gn 8) ?_
 refine q0y (.ag 0 (.tmp 0 rfl) rfl) fun hl1=>?_
 refine bdE hr fun s1 hqq1 hr=>q0k hqq1 4 (fun k1 s1=>[(1,.pb 0 0),(2,.pb 1 0),(3,.pb 3 0),(4,dI (k1:Int))]) (fun k1 s1=>[(2,.row .fz 1 (s1.map (A.D.i .i64)))]) I (fun k1 sk1 ok1 hr hltk1=>?_) ?_
 obtain⟨s1,rfl⟩:∃ y,y=sk1:=⟨_,rfl⟩
 refine J (gn 17)<|J (rngT 14)<|fun hl2=>bdE hr fun s2 hqq2 hr=>q0k hqq2 4 (fun k2 s2=>[(1,.pb 0 0),(2,.pb 1 0),(3,.pb 3 0),(4,dI (k1:Int)),(5,dI (k2:Int))]) (fun k2 s2=>[(2,.row .fz 1 (s2.map (A.D.i .i64)))]) I (fun k2 sk2 ok2 hr hltk2=>?_) ?_
 obtain⟨s2,rfl⟩:∃ y,y=sk2:=⟨_,rfl⟩
 refine bdE hr fun s3 hqq3 hr=>J (gn 11)<|q0d 4 [(1,.pb 0 0),(2,.pb 1 0),(3,.pb 3 0),(4,dI (k1:Int)),(5,dI (k2:Int))] [(2,.row .fz 1 (s3.map (A.D.i .i64)))] ?_ ?_
 replace hr:=hqq3
 refine bdE hr fun x1 hx1 hr=>J g ?_
 refine J (CIU' (Int.natCast_nonneg _) rfl)<|ggE hr fun g1 hr=>J (OB' _ (k6h g1))<|ggE hr fun g2 hr=>J (OB' _ (k6i g2))<|J (gn 2)<|ifE hr ?_ ?_<;>intro h2 hr
 refine bdE hr fun x2 hx2 hr=>ggE hr fun g3 hr=>J g<|J (OB' _ (bOrI g3))<|J g<|J (SE' ((x1.toNat ||| x2.toNat:Nat):Int) hx1)<|e
 exact e
 exact e
 exact e
 exact e
 exact e
def z1E (xk1:Relation)(k2:Nat)(xk2:Int):Nat→Int→((List Int) × Int)→Option ((List Int) × Int):=fun k3 xk3 (s6,s7)=>
 (
 (q7v xk1 (k2:Int) (k3:Int)).bind fun y5=>
 if y5=true then (
 (q6P (⟨s7,s6⟩:Relation) xk2 xk3).bind fun y6=>
 some (y6.Rows,y6.N)
 ) else (
 some (s6,s7)
 )
 ).bind fun (s8,s9)=>
 some (s8,s9)
def z1F (xk1:Relation)(y3:(List Int)):Nat→Int→((List Int) × Int)→Option ((List Int) × Int):=fun k2 xk2 (s4,s5)=>
 (eachL (z1E xk1 k2 xk2) 0 y3 (s4,s5)).bind fun (s6,s7)=>
 some (s6,s7)
def z1G (a0:Grammar)(a1:Rule):Nat→Relation→((List Int) × Int)→Option (((List Int) × Int) ⊕ Relation):=fun k1 xk1 (s2,s3)=>
 (q5o a0 a1 ((k1+1:Nat):Int)).bind fun y3=>
 (q4c xk1).bind fun y4=>
 if y4=true then (
 if xk1.N=(y3.length:Int) then (
 (eachL (z1F xk1 y3) 0 y3 (s2,s3)).bind fun (s4,s5)=>
 some (.inl (s4,s5))
 ) else (
 some (.inr (⟨0,[]⟩:Relation))
 )
 ) else (
 some (.inr (⟨0,[]⟩:Relation))
 )
def q9i (a0:Grammar)(a1:Rule)(a2:(List Relation)):Option Relation:=
 (q5N a0 a1).bind fun y1=>
 (
 if (a2.length:Int)=(a1.Right.length:Int) then (
 some (decide (16 < (y1.length:Int)))
 ) else (
 some true
 )
 ).bind fun s1=>
 if s1=true then (
 some (⟨0,[]⟩:Relation)
 ) else (
 (q6m a0 a1).bind fun y2=>
 (findL (z1G a0 a1) 0 a2 (y2.Rows,y2.N)).bind <| onr (fun r1=>some r1) fun (s2,s3)=>
 (q6W (⟨s3,s2⟩:Relation)).bind fun y7=>
 some y7
 )
theorem z8w {m:Md}{a0:Grammar}{a1:Rule}{a2:(List Relation)}{r:Relation}(hr:q9i a0 a1 a2=some r):Ok Tryz.prog 37 [Grammar.y m a0,Rule.x m a1,.d m (.sl 2 (a2.map Relation.D))] [] (.ag [dI r.N,.ref 0 none]) [.row .fz 1 (r.Rows.map (A.D.i .i64))]:=by
 refine OE Tryz.func37 fun S hS=>?_
 unfold q9i at hr
 refine J g<|J (BX' 0)<|J (BX' 1)<|J (NV' 2)<|bdE hr fun y1 hy1 hr=>J g<|J (CB' [(0,3)] [] (z2u (m:=m) hy1))<|bdE hr fun s1 hqq1 hr=>J (gn 11)<|q0a 5 [(2,.d m (.sl 2 (a2.map Relation.D))),(3,.pb 0 0),(4,.pb 1 0),(6,.pb 2 0),(26,dB s1)] ?_ ?_
 replace hr:=hqq1
 refine ifE hr ?_ ?_<;>intro h1 hr
 exact e
 exact e
 refine J (gn 1)<|ifE hr ?_ ?_<;>intro h2 hr
 refine J (gn 7) ?_
 refine J (q0g (q0m (q:=2) (c:=1) (r:=4) .fz 1 rfl rfl rfl))<|J g<|E
 refine bdE hr fun y2 hy2 hr=>J g<|J (CB' [(0,4)] [] (z6o (m:=m) hy2))<|J (NV' 5)<|J (gn 8)<|J (lenT 2)<|fun hl1=>bdE hr fun q2 hqq2 hr=>q0b hqq2 hl1 6 (fun k1 (s2,s3)=>[(2,.d m (.sl 2 (a2.map Relation.D))),(3,.pb 0 0),(4,.pb 1 0),(6,.pb 2 0),(8,.pb 5 0),(9,dI (k1:Int))]) (fun k1 (s2,s3)=>[(4,.row .fz 1 (s2.map (A.D.i .i64))),(5,.box [dI s3,.ref 4 none])]) I (fun k1 xk1 sk1 ok1 hxk1 hr hltk1 hik1=>?_) fun k1 sk1 ek1 hltk1=>?_
 obtain⟨s2,s3⟩:=sk1
 refine bdE hr fun y3 hy3 hr=>J g<|J (CB' [(0,6)] [] (z0S (m:=m) hy3))<|bdE hr fun y4 hy4 hr=>J g<|J (CB' [] [] (q5c (m:=m) hy4))<|J (gn 1)<|ifE hr ?_ ?_<;>intro h3 hr
 refine J (gn 11)<|ifE hr ?_ ?_<;>intro h4 hr
 refine J (gn 7)<|J (lenR 6)<|fun hl2=>bdP hr fun s4 s5 hqq3 hr=>q0c hqq3 hl2 7 (fun k2 (s4,s5)=>[(2,.d m (.sl 2 (a2.map Relation.D))),(3,.pb 0 0),(4,.pb 1 0),(6,.pb 2 0),(8,.pb 5 0),(9,dI (k1:Int)),(10,.ref 6 none),(11,dI (k2:Int)),(49,.d m (.sl 2 (a2.map Relation.D))),(50,dI (k1:Int)),(51,.pf m (Relation.l xk1)),(52,.pf m (Relation.l xk1)),(53,dI xk1.N),(54,.ref 6 none),(55,dI (y3.length:Int)),(56,dB (!(decide (xk1.N=(y3.length:Int)))))]) (fun k2 (s4,s5)=>[(4,.row .fz 1 (s4.map (A.D.i .i64))),(5,.box [dI s5,.ref 4 none])]) I (fun k2 xk2 sk2 ok2 hxk2 hr hltk2=>?_) fun k2 hltk2=>?_
 obtain⟨s4,s5⟩:=sk2
 refine J (gn 17)<|J (lenR 6)<|fun hl3=>bdP hr fun s6 s7 hqq4 hr=>q0c hqq4 hl3 7 (fun k3 (s6,s7)=>[(2,.d m (.sl 2 (a2.map Relation.D))),(3,.pb 0 0),(4,.pb 1 0),(6,.pb 2 0),(8,.pb 5 0),(9,dI (k1:Int)),(10,.ref 6 none),(11,dI (k2:Int)),(12,dI (k3:Int)),(49,.d m (.sl 2 (a2.map Relation.D))),(50,dI (k1:Int)),(51,.pf m (Relation.l xk1)),(52,.pf m (Relation.l xk1)),(53,dI xk1.N),(54,.ref 6 none),(55,dI (y3.length:Int)),(56,dB (!(decide (xk1.N=(y3.length:Int)))))]) (fun k3 (s6,s7)=>[(4,.row .fz 1 (s6.map (A.D.i .i64))),(5,.box [dI s7,.ref 4 none])]) I (fun k3 xk3 sk3 ok3 hxk3 hr hltk3=>?_) fun k3 hltk3=>?_
 obtain⟨s6,s7⟩:=sk3
 refine bdP hr fun s8 s9 hqq5 hr=>J (gn 11)<|q0d 7 [(2,.d m (.sl 2 (a2.map Relation.D))),(3,.pb 0 0),(4,.pb 1 0),(6,.pb 2 0),(8,.pb 5 0),(9,dI (k1:Int)),(10,.ref 6 none),(11,dI (k2:Int)),(12,dI (k3:Int)),(49,.d m (.sl 2 (a2.map Relation.D))),(50,dI (k1:Int)),(51,.pf m (Relation.l xk1)),(52,.pf m (Relation.l xk1)),(53,dI xk1.N),(54,.ref 6 none),(55,dI (y3.length:Int)),(56,dB (!(decide (xk1.N=(y3.length:Int)))))] [(4,.row .fz 1 (s8.map (A.D.i .i64))),(5,.box [dI s9,.ref 4 none])] ?_ ?_
 replace hr:=hqq5
 refine bdE hr fun y5 hy5 hr=>J g<|J (CB' [] [] (z2v (m:=m) hy5))<|J (gn 1)<|ifE hr ?_ ?_<;>intro h5 hr
 refine bdE hr fun y6 hy6 hr=>J g<|J (CB' [(0,7)] [4] (z7h (m:=.bo) hy6))<|e
 exact e
 exact e
 exact e
 exact e
 refine J (gn 7) ?_
 refine J (q0g (q0m (q:=2) (c:=1) (r:=7) .fz 1 rfl rfl rfl))<|J g<|E
 refine J (gn 18) ?_
 refine J (q0g (q0m (q:=2) (c:=1) (r:=7) .fz 1 rfl rfl rfl))<|J g<|E
 subst ek1
 obtain⟨s2,s3⟩:=sk1
 refine bdE hr fun y7 hy7 hr=>J g<|J (CB' [(0,6)] [4] (z2x (m:=.bo) hy7))<|e
def z3W (a2:Relation)(k1:Nat)(xk1:Attribute):Nat→Attribute→((List Int) × Int)→Option ((List Int) × Int):=fun k2 xk2 (s3,s4)=>
 (
 (
 if xk1.Mode=1 then (
 some (decide (xk2.Mode=2))
 ) else (
 some false
 )
 ).bind fun s7=>
 (
 if s7=true then (
 (q7v a2 (k1:Int) (k2:Int)).bind fun y3=>
 some y3
 ) else (
 some false
 )
 ).bind fun s8=>
 if s8=true then (
 (q6P (⟨s4,s3⟩:Relation) (k1:Int) (k2:Int)).bind fun y4=>
 some (y4.Rows,y4.N)
 ) else (
 some (s3,s4)
 )
 ).bind fun (s5,s6)=>
 some (s5,s6)
def z7i (a2:Relation)(y1:(List Attribute)):Nat→Attribute→((List Int) × Int)→Option ((List Int) × Int):=fun k1 xk1 (s1,s2)=>
 (eachL (z3W a2 k1 xk1) 0 y1 (s1,s2)).bind fun (s3,s4)=>
 some (s3,s4)
def q9R (a0:Grammar)(a1:Rule)(a2:Relation):Option Relation:=
 (q4K a0 a1.Left).bind fun y1=>
 (q4h (y1.length:Int)).bind fun y2=>
 (eachL (z7i a2 y1) 0 y1 (y2.Rows,y2.N)).bind fun (s1,s2)=>
 some (⟨s2,s1⟩:Relation)
theorem j7c {m:Md}{a0:Grammar}{a1:Rule}{a2:Relation}{r:Relation}(hr:q9R a0 a1 a2=some r):Ok Tryz.prog 53 [Grammar.y m a0,Rule.x m a1,Relation.x m a2] [] (.ag [dI r.N,.ref 0 none]) [.row .fz 1 (r.Rows.map (A.D.i .i64))]:=by
 refine OE Tryz.func53 fun S hS=>?_
 unfold q9R at hr
 refine J g<|J (BX' 0)<|J (BX' 1)<|J (BX' 2)<|J (NV' 3)<|bdE hr fun y1 hy1 hr=>J g<|J (CB' [(0,4)] [] (q7G (m:=m) hy1))<|bdE hr fun y2 hy2 hr=>J g<|J (CB' [(0,5)] [] (q8r hy2))<|J (NV' 6)<|J (gn 8)<|J (lenR 4)<|fun hl1=>bdP hr fun s1 s2 hqq1 hr=>q0c hqq1 hl1 7 (fun k1 (s1,s2)=>[(5,.pb 2 0),(6,.pb 3 0),(7,.ref 4 none),(8,.pb 6 0),(9,dI (k1:Int))]) (fun k1 (s1,s2)=>[(5,.row .fz 1 (s1.map (A.D.i .i64))),(6,.box [dI s2,.ref 5 none])]) I (fun k1 xk1 sk1 ok1 hxk1 hr hltk1=>?_) fun k1 hltk1=>?_
 obtain⟨s1,s2⟩:=sk1
 refine J (gn 17)<|J (lenR 4)<|fun hl2=>bdP hr fun s3 s4 hqq2 hr=>q0c hqq2 hl2 7 (fun k2 (s3,s4)=>[(5,.pb 2 0),(6,.pb 3 0),(7,.ref 4 none),(8,.pb 6 0),(9,dI (k1:Int)),(10,dI (k2:Int))]) (fun k2 (s3,s4)=>[(5,.row .fz 1 (s3.map (A.D.i .i64))),(6,.box [dI s4,.ref 5 none])]) I (fun k2 xk2 sk2 ok2 hxk2 hr hltk2=>?_) fun k2 hltk2=>?_
 obtain⟨s3,s4⟩:=sk2
 refine bdP hr fun s5 s6 hqq3 hr=>J (gn 11)<|q0d 7 [(5,.pb 2 0),(6,.pb 3 0),(7,.ref 4 none),(8,.pb 6 0),(9,dI (k1:Int)),(10,dI (k2:Int))] [(5,.row .fz 1 (s5.map (A.D.i .i64))),(6,.box [dI s6,.ref 5 none])] ?_ ?_
 replace hr:=hqq3
 refine bdE hr fun s7 hqq4 hr=>J (gn 9)<|q0a 8 [(5,.pb 2 0),(6,.pb 3 0),(7,.ref 4 none),(8,.pb 6 0),(9,dI (k1:Int)),(10,dI (k2:Int)),(43,dB s7)] ?_ ?_
 replace hr:=hqq4
 refine ifE hr ?_ ?_<;>intro h1 hr
 exact e
 exact e
 refine bdE hr fun s8 hqq5 hr=>q0a 6 [(5,.pb 2 0),(6,.pb 3 0),(7,.ref 4 none),(8,.pb 6 0),(9,dI (k1:Int)),(10,dI (k2:Int)),(49,dB s8)] ?_ ?_
 replace hr:=hqq5
 refine ifE hr ?_ ?_<;>intro h2 hr
 refine bdE hr fun y3 hy3 hr=>J g<|J (CB' [] [] (z2v (m:=m) hy3))<|e
 exact e
 refine J (gn 1)<|ifE hr ?_ ?_<;>intro h3 hr
 refine bdE hr fun y4 hy4 hr=>J g<|J (CB' [(0,7)] [5] (z7h (m:=.bo) hy4))<|e
 exact e
 exact e
 exact e
 exact e
def q7w (a1:Relation):Nat→((List Int))→Option ((List Int)):=fun k1 s3=>
 (s3[k1]?).bind fun x1=>
 (a1.Rows[k1]?).bind fun x2=>
 grd (0≤x1∧0≤x2) <|
 some (List.set s3 k1 ((x1.toNat ||| x2.toNat:Nat):Int))
def q7V (a0:Relation)(a1:Relation):Option Relation:=
 (q9h a0).bind fun y1=>
 (q4c a0).bind fun y2=>
 (
 if y2=true then (
 (q4c a1).bind fun y3=>
 some (!y3)
 ) else (
 some true
 )
 ).bind fun s1=>
 (
 if s1=true then (
 some true
 ) else (
 some (!(decide (a0.N=a1.N)))
 )
 ).bind fun s2=>
 if s2=true then (
 some y1
 ) else (
 (eachN (q7w a1) 0 a0.N.toNat y1.Rows).bind fun s3=>
 some (⟨y1.N,s3⟩:Relation)
 )
theorem z6p {m:Md}{a0:Relation}{a1:Relation}{r:Relation}(hr:q7V a0 a1=some r):Ok Tryz.prog 52 [Relation.x m a0,Relation.x m a1] [] (.ag [dI r.N,.ref 0 none]) [.row .fz 1 (r.Rows.map (A.D.i .i64))]:=by
 refine OE Tryz.func52 fun S hS=>?_
 unfold q7V at hr
 refine J g<|J (BX' 0)<|J (BX' 1)<|J (NV' 2)<|bdE hr fun y1 hy1 hr=>J g<|J (CB' [(0,3)] [] (z9T (m:=m) hy1))<|J (NV' 4)<|bdE hr fun y2 hy2 hr=>J g<|J (CB' [] [] (q5c (m:=m) hy2))<|bdE hr fun s1 hqq1 hr=>J (gn 1)<|q0a 5 [(2,.pb 0 0),(3,.pb 1 0),(4,.pb 2 0),(5,.pb 4 0),(16,dB s1)] ?_ ?_
 replace hr:=hqq1
 refine ifE hr ?_ ?_<;>intro h1 hr
 refine bdE hr fun y3 hy3 hr=>J g<|J (CB' [] [] (q5c (m:=m) hy3))<|e
 exact e
 refine bdE hr fun s2 hqq2 hr=>q0a 7 [(2,.pb 0 0),(3,.pb 1 0),(4,.pb 2 0),(5,.pb 4 0),(23,dB s2)] ?_ ?_
 replace hr:=hqq2
 refine ifE hr ?_ ?_<;>intro h2 hr
 exact e
 exact e
 refine J (gn 1)<|ifE hr ?_ ?_<;>intro h3 hr
 exact e
 refine J (gn 8) ?_
 refine q0y (.box 0 0 rfl rfl) fun hl1=>?_
 refine bdE hr fun s3 hqq3 hr=>q0k hqq3 5 (fun k1 s3=>[(2,.pb 0 0),(3,.pb 1 0),(4,.pb 2 0),(5,.pb 4 0),(6,dI (k1:Int))]) (fun k1 s3=>[(3,.row .fz 1 (s3.map (A.D.i .i64)))]) I (fun k1 sk1 ok1 hr hltk1=>?_) ?_
 obtain⟨s3,rfl⟩:∃ y,y=sk1:=⟨_,rfl⟩
 refine bdE hr fun x1 hx1 hr=>bdE hr fun x2 hx2 hr=>ggE hr fun g1 hr=>J g<|J (OB' _ (bOrI g1))<|J g<|J (SE' ((x1.toNat ||| x2.toNat:Nat):Int) hx1)<|e
 exact e
end Go.Proofs.YtcegfmageiicaaaGreat
