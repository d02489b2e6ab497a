/- What some functions of the program compute, as partial functions on plain data, and that they do; each lemma bears its conditions in its statement. -/
import Derived.Test.YtcegfmageiicaaaGreatLift1
set_option linter.unusedVariables false
set_option linter.unusedSimpArgs false
set_option linter.ambiguousOpen false
set_option linter.unusedSectionVars false
set_option linter.unnecessarySimpa false
set_option maxRecDepth 100000
set_option maxHeartbeats 40000000
noncomputable section
namespace Go.Proofs.YtcegfmageiicaaaGreat
open Go Go.E Go.A
def j0G (a0:Int)(a1:Int):Option Int:=
 if a0 < a1 then (
 some a0
 ) else (
 some a1
 )
theorem k4b {a0:Int}{a1:Int}{r:Int}(hr:j0G a0 a1=some r):Ok Tryz.prog 337 [dI a0,dI a1] [] (dI r) []:=by
 refine OE Tryz.func337 fun S hS=>?_
 unfold j0G at hr
 refine J (gn 11)<|ifE hr ?_ ?_<;>intro h1 hr
 exact e
 exact e
def z4F (a0:Int):Option Int:=
 (j0G 1000000 a0).bind fun y1=>
 (z0J (-1000000) y1).bind fun y2=>
 some y2
theorem j8B {a0:Int}{r:Int}(hr:z4F a0=some r):Ok Tryz.prog 335 [dI a0] [] (dI r) []:=by
 refine OE Tryz.func335 fun S hS=>?_
 unfold z4F at hr
 refine bdE hr fun y1 hy1 hr=>J g<|J (CB' [] [] (k4b hy1))<|bdE hr fun y2 hy2 hr=>J (CB' [] [] (z8n hy2))<|e
def z6j (a0:Bool):Option Int:=
 if a0=true then (
 some 1
 ) else (
 some 0
 )
theorem k0c {a0:Bool}{r:Int}(hr:z6j a0=some r):Ok Tryz.prog 336 [dB a0] [] (dI r) []:=by
 refine OE Tryz.func336 fun S hS=>?_
 unfold z6j at hr
 refine J (gn 9)<|ifE hr ?_ ?_<;>intro h1 hr
 exact e
 exact e
def z8p (a0:Int)(a1:Int):Option Int:=
 if a1=1 then (
 (z4F a0).bind fun y1=>
 some y1
 ) else (
 if a1=2 then (
 some (k2l a0 4095)
 ) else (
 if a1=3 then (
 (z6j (!(decide (a0=0)))).bind fun y2=>
 some y2
 ) else (
 if a1=4 then (
 (q5B a0 0 999).bind fun y3=>
 if y3=true then (
 some a0
 ) else (
 some 0
 )
 ) else (
 some 0
 )
 )
 )
 )
theorem k2B {a0:Int}{a1:Int}{r:Int}(hr:z8p a0 a1=some r):Ok Tryz.prog 332 [dI a0,dI a1] [] (dI r) []:=by
 refine OE Tryz.func332 fun S hS=>?_
 unfold z8p at hr
 refine J (gn 15)<|ifE hr ?_ ?_<;>intro h1 hr
 refine bdE hr fun y1 hy1 hr=>J g<|J (CB' [] [] (j8B hy1))<|e
 refine J (gn 6)<|ifE hr ?_ ?_<;>intro h2 hr
 refine J g<|J (OB' _ k9P)<|e
 refine J (gn 6)<|ifE hr ?_ ?_<;>intro h3 hr
 refine bdE hr fun y2 hy2 hr=>J g<|J (CB' [] [] (k0c hy2))<|e
 refine J (gn 6)<|ifE hr ?_ ?_<;>intro h4 hr
 refine bdE hr fun y3 hy3 hr=>J g<|J (CB' [] [] (q5L hy3))<|J (gn 1)<|ifE hr ?_ ?_<;>intro h5 hr
 exact e
 exact e
 exact e
def z4G (a0:Int)(a1:Int):Option Bool:=
 (q5B a1 1 4).bind fun y1=>
 if y1=true then (
 (z8p a0 a1).bind fun y2=>
 some (decide (y2=a0))
 ) else (
 some false
 )
theorem j8C {a0:Int}{a1:Int}{r:Bool}(hr:z4G a0 a1=some r):Ok Tryz.prog 330 [dI a0,dI a1] [] (dB r) []:=by
 refine OE Tryz.func330 fun S hS=>?_
 unfold z4G at hr
 refine bdE hr fun y1 hy1 hr=>J g<|J (CB' [] [] (q5L hy1))<|ifE hr ?_ ?_<;>intro h1 hr
 refine bdE hr fun y2 hy2 hr=>J g<|J (CB' [] [] (k2B hy2))<|e
 exact e
def z8q (a0:Expr):Option Bool:=
 (q5B a0.Kind 1 8).bind fun y1=>
 (
 if y1=true then (
 (z8o a0).bind fun y2=>
 some (!y2)
 ) else (
 some true
 )
 ).bind fun s1=>
 if s1=true then (
 some false
 ) else (
 if a0.Kind=1 then (
 (q5B a0.Type_ 1 3).bind fun y3=>
 (
 if y3=true then (
 (z4G a0.N a0.Type_).bind fun y4=>
 some y4
 ) else (
 some false
 )
 ).bind fun s2=>
 (
 if s2=true then (
 some (decide (0≤a0.N))
 ) else (
 some false
 )
 ).bind fun s3=>
 some s3
 ) else (
 if a0.Kind=3 then (
 (q5B a0.Pos 0 3).bind fun y5=>
 (
 if y5=true then (
 (q4R a0.Name).bind fun y6=>
 some y6
 ) else (
 some false
 )
 ).bind fun s4=>
 some s4
 ) else (
 if a0.Kind=6 then (
 (q5B a0.Pos 0 3).bind fun y7=>
 some y7
 ) else (
 if a0.Kind=4 then (
 (q5B a0.N 1 12).bind fun y8=>
 some y8
 ) else (
 if a0.Kind=8 then (
 (q4R a0.Symbol).bind fun y9=>
 (
 if y9=true then (
 (q4R a0.Name).bind fun y10=>
 some y10
 ) else (
 some false
 )
 ).bind fun s5=>
 some s5
 ) else (
 some true
 )
 )
 )
 )
 )
 )
theorem k2C {m:Md}{a0:Expr}{r:Bool}(hr:z8q a0=some r):Ok Tryz.prog 326 [Expr.x m a0] [] (dB r) []:=by
 refine OE Tryz.func326 fun S hS=>?_
 unfold z8q at hr
 refine J g<|J (BX' 0)<|bdE hr fun y1 hy1 hr=>J g<|J (CB' [] [] (q5L hy1))<|bdE hr fun s1 hqq1 hr=>J (gn 1)<|q0a 5 [(1,.pb 0 0),(11,dB s1)] ?_ ?_
 replace hr:=hqq1
 refine ifE hr ?_ ?_<;>intro h1 hr
 refine bdE hr fun y2 hy2 hr=>J g<|J (CB' [] [] (k2A (m:=m) hy2))<|e
 exact e
 refine J (gn 1)<|ifE hr ?_ ?_<;>intro h2 hr
 exact e
 refine J (gn 14)<|ifE hr ?_ ?_<;>intro h3 hr
 refine bdE hr fun y3 hy3 hr=>J g<|J (CB' [] [] (q5L hy3))<|bdE hr fun s2 hqq2 hr=>q0a 7 [(1,.pb 0 0),(25,dB s2)] ?_ ?_
 replace hr:=hqq2
 refine ifE hr ?_ ?_<;>intro h4 hr
 refine bdE hr fun y4 hy4 hr=>J g<|J (CB' [] [] (j8C hy4))<|e
 exact e
 refine bdE hr fun s3 hqq3 hr=>q0a 5 [(30,dB s3)] ?_ ?_
 replace hr:=hqq3
 refine ifE hr ?_ ?_<;>intro h5 hr
 exact e
 exact e
 exact e
 refine J (gn 6)<|ifE hr ?_ ?_<;>intro h6 hr
 refine bdE hr fun y5 hy5 hr=>J g<|J (CB' [] [] (q5L hy5))<|bdE hr fun s4 hqq4 hr=>q0a 5 [(40,dB s4)] ?_ ?_
 replace hr:=hqq4
 refine ifE hr ?_ ?_<;>intro h7 hr
 refine bdE hr fun y6 hy6 hr=>J g<|J (CB' [] [] (q5u hy6))<|e
 exact e
 exact e
 refine J (gn 6)<|ifE hr ?_ ?_<;>intro h8 hr
 refine bdE hr fun y7 hy7 hr=>J g<|J (CB' [] [] (q5L hy7))<|e
 refine J (gn 6)<|ifE hr ?_ ?_<;>intro h9 hr
 refine bdE hr fun y8 hy8 hr=>J g<|J (CB' [] [] (q5L hy8))<|e
 refine J (gn 6)<|ifE hr ?_ ?_<;>intro h10 hr
 refine bdE hr fun y9 hy9 hr=>J g<|J (CB' [] [] (q5u hy9))<|bdE hr fun s5 hqq5 hr=>q0a 5 [(60,dB s5)] ?_ ?_
 replace hr:=hqq5
 refine ifE hr ?_ ?_<;>intro h11 hr
 refine bdE hr fun y10 hy10 hr=>J g<|J (CB' [] [] (q5u hy10))<|e
 exact e
 exact e
 exact e
def j8D (rec_sl4All:Expr→Option Bool):Nat→Expr→Unit→Option (Unit ⊕ Bool):=fun k1 xk1 _=>
 (rec_sl4All xk1).bind fun y1=>
 if y1=true then (
 some (.inl ())
 ) else (
 some (.inr false)
 )
def j0H (rec_sl4All:Expr→Option Bool)(a0:Expr):Option Bool:=
 (findL (j8D rec_sl4All) 0 a0.Args ()).bind <| onr (fun r1=>some r1) fun _=>
 (z8q a0).bind fun y2=>
 some y2
theorem k2D {rec_sl4All:Expr→Option Bool}(ih_sl4All:∀ {m:Md} {a0:Expr} {r:Bool},rec_sl4All a0=some r→Ok Tryz.prog 322 [Expr.x m a0] [] (dB r) []){m:Md}{a0:Expr}{r:Bool}(hr:j0H rec_sl4All a0=some r):Ok Tryz.prog 322 [Expr.x m a0] [] (dB r) []:=by
 refine OE Tryz.func322 fun S hS=>?_
 unfold j0H at hr
 refine J g<|J (BX' 0)<|J (gn 8)<|J (lenA 6 0)<|fun hl1=>bdE hr fun q1 hqq1 hr=>q0b hqq1 hl1 1 (fun k1 _=>[(1,.pb 0 0),(3,dI (k1:Int))]) (fun k1 _=>[]) I (fun k1 xk1 sk1 ok1 hxk1 hr hltk1 hik1=>?_) fun k1 sk1 ek1 hltk1=>?_
 refine bdE hr fun y1 hy1 hr=>J g<|J (CB' [] [] (ih_sl4All (m:=m) hy1))<|J (gn 2)<|ifE hr ?_ ?_<;>intro h1 hr
 exact e
 exact e
 subst ek1
 refine bdE hr fun y2 hy2 hr=>J g<|J (CB' [] [] (k2C (m:=m) hy2))<|e
def j0I:Nat→Expr→Option Bool
  | 0,_=>none
  | n+1,a0=>j0H (j0I n) a0
def j6V (a0:Expr):Option Bool:=recO fun n=>j0I n a0
theorem k2E (n:Nat):∀ {m:Md} {a0:Expr} {r:Bool},j0I n a0=some r→Ok Tryz.prog 322 [Expr.x m a0] [] (dB r) []:=by
  induction n with
  | zero=>intro _ _ r hr; exact nomatch (show (none:Option Bool)=some r from hr)
  | succ n ih=>intro _ _ r hr; exact k2D ih hr
theorem k4c {m:Md}{a0:Expr}{r:Bool}(hr:j6V a0=some r):Ok Tryz.prog 322 [Expr.x m a0] [] (dB r) []:=by
 obtain⟨n,hn⟩:=q5V hr
 exact k2E n hn
def z0A (a0:Expr):Option Bool:=
 (j4e a0 24).bind fun y1=>
 (
 if 0≤y1 then (
 (z5Q a0).bind fun y2=>
 some (decide (y2≤6))
 ) else (
 some false
 )
 ).bind fun s1=>
 (
 if s1=true then (
 (j6V a0).bind fun y3=>
 some y3
 ) else (
 some false
 )
 ).bind fun s2=>
 some s2
theorem j4g {m:Md}{a0:Expr}{r:Bool}(hr:z0A a0=some r):Ok Tryz.prog 309 [Expr.x m a0] [] (dB r) []:=by
 refine OE Tryz.func309 fun S hS=>?_
 unfold z0A at hr
 refine J g<|J (BX' 0)<|bdE hr fun y1 hy1 hr=>J g<|J (CB' [] [] (k2z (m:=m) hy1))<|bdE hr fun s1 hqq1 hr=>J (gn 1)<|q0a 5 [(1,.pb 0 0),(2,dB false),(10,dB s1)] ?_ ?_
 replace hr:=hqq1
 refine ifE hr ?_ ?_<;>intro h1 hr
 refine bdE hr fun y2 hy2 hr=>J g<|J (CB' [] [] (j4f (m:=m) hy2))<|e
 exact e
 refine bdE hr fun s2 hqq2 hr=>q0a 4 [(2,dB false),(14,dB s2)] ?_ ?_
 replace hr:=hqq2
 refine ifE hr ?_ ?_<;>intro h2 hr
 refine bdE hr fun y3 hy3 hr=>J g<|J (CB' [] [] (k4c (m:=m) hy3))<|e
 exact e
 exact e
def j2j (rec_sl9Within:Expr→Int→Option Bool)(a1:Int):Nat→Expr→Unit→Option (Unit ⊕ Bool):=fun k1 xk1 _=>
 (rec_sl9Within xk1 a1).bind fun y1=>
 if y1=true then (
 some (.inl ())
 ) else (
 some (.inr false)
 )
def z4H (rec_sl9Within:Expr→Int→Option Bool)(a0:Expr)(a1:Int):Option Bool:=
 (findL (j2j rec_sl9Within a1) 0 a0.Args ()).bind <| onr (fun r1=>some r1) fun _=>
 some (decide (a0.Pos≤a1))
theorem j6W {rec_sl9Within:Expr→Int→Option Bool}(ih_sl9Within:∀ {m:Md} {a0:Expr} {a1:Int} {r:Bool},rec_sl9Within a0 a1=some r→Ok Tryz.prog 310 [Expr.x m a0,dI a1] [] (dB r) []){m:Md}{a0:Expr}{a1:Int}{r:Bool}(hr:z4H rec_sl9Within a0 a1=some r):Ok Tryz.prog 310 [Expr.x m a0,dI a1] [] (dB r) []:=by
 refine OE Tryz.func310 fun S hS=>?_
 unfold z4H at hr
 refine J g<|J (BX' 0)<|J (gn 8)<|J (lenA 6 0)<|fun hl1=>bdE hr fun q1 hqq1 hr=>q0b hqq1 hl1 1 (fun k1 _=>[(1,dI a1),(2,.pb 0 0),(5,dI (k1:Int))]) (fun k1 _=>[]) I (fun k1 xk1 sk1 ok1 hxk1 hr hltk1 hik1=>?_) fun k1 sk1 ek1 hltk1=>?_
 refine bdE hr fun y1 hy1 hr=>J g<|J (CB' [] [] (ih_sl9Within (m:=m) hy1))<|J (gn 2)<|ifE hr ?_ ?_<;>intro h1 hr
 exact e
 exact e
 subst ek1
 exact e
def z4I:Nat→Expr→Int→Option Bool
  | 0,_,_=>none
  | n+1,a0,a1=>z4H (z4I n) a0 a1
def z9Q (a0:Expr)(a1:Int):Option Bool:=recO fun n=>z4I n a0 a1
theorem j6X (n:Nat):∀ {m:Md} {a0:Expr} {a1:Int} {r:Bool},z4I n a0 a1=some r→Ok Tryz.prog 310 [Expr.x m a0,dI a1] [] (dB r) []:=by
  induction n with
  | zero=>intro _ _ _ r hr; exact nomatch (show (none:Option Bool)=some r from hr)
  | succ n ih=>intro _ _ _ r hr; exact j6W ih hr
theorem j8E {m:Md}{a0:Expr}{a1:Int}{r:Bool}(hr:z9Q a0 a1=some r):Ok Tryz.prog 310 [Expr.x m a0,dI a1] [] (dB r) []:=by
 obtain⟨n,hn⟩:=q5V hr
 exact j6X n hn
def z4J (a0:Expr)(a1:Int):Option Bool:=
 (z0A a0).bind fun y1=>
 if y1=true then (
 (z9Q a0 a1).bind fun y2=>
 some y2
 ) else (
 some false
 )
theorem j1C {m:Md}{a0:Expr}{a1:Int}{r:Bool}(hr:z4J a0 a1=some r):Ok Tryz.prog 293 [Expr.x m a0,dI a1] [] (dB r) []:=by
 refine OE Tryz.func293 fun S hS=>?_
 unfold z4J at hr
 refine J g<|J (BX' 0)<|bdE hr fun y1 hy1 hr=>J g<|J (CB' [] [] (j4g (m:=m) hy1))<|ifE hr ?_ ?_<;>intro h1 hr
 refine bdE hr fun y2 hy2 hr=>J g<|J (CB' [] [] (j8E (m:=m) hy2))<|e
 exact e
def z8r:Nat→ByteArray→Unit→Option (Unit ⊕ Bool):=fun k1 xk1 _=>
 (q4R xk1).bind fun y3=>
 if y3=true then (
 some (.inl ())
 ) else (
 some (.inr false)
 )
def z8s (a0:Rule):Nat→Equation→Unit→Option (Unit ⊕ Bool):=fun k2 xk2 _=>
 (q4R xk2.At.Name).bind fun y4=>
 (
 if y4=true then (
 (q5B xk2.At.Pos 0 (a0.Right.length:Int)).bind fun y5=>
 some (!y5)
 ) else (
 some true
 )
 ).bind fun s4=>
 (
 if s4=true then (
 some true
 ) else (
 (z4J xk2.Expr (a0.Right.length:Int)).bind fun y6=>
 some (!y6)
 )
 ).bind fun s5=>
 if s5=true then (
 some (.inr false)
 ) else (
 some (.inl ())
 )
def z8t (a0:Rule):Nat→Contribution→Unit→Option (Unit ⊕ Bool):=fun k3 xk3 _=>
 (q4R xk3.Symbol).bind fun y7=>
 (
 if y7=true then (
 (q4R xk3.Name).bind fun y8=>
 some (!y8)
 ) else (
 some true
 )
 ).bind fun s6=>
 (
 if s6=true then (
 some true
 ) else (
 (z4J xk3.Target (a0.Right.length:Int)).bind fun y9=>
 some (!y9)
 )
 ).bind fun s7=>
 (
 if s7=true then (
 some true
 ) else (
 (z4J xk3.Value (a0.Right.length:Int)).bind fun y10=>
 some (!y10)
 )
 ).bind fun s8=>
 if s8=true then (
 some (.inr false)
 ) else (
 some (.inl ())
 )
def z0B (a0:Rule):Option Bool:=
 (q4R a0.Name).bind fun y1=>
 (
 if y1=true then (
 (q4R a0.Left).bind fun y2=>
 some (!y2)
 ) else (
 some true
 )
 ).bind fun s1=>
 (
 if s1=true then (
 some true
 ) else (
 some (decide (3 < (a0.Right.length:Int)))
 )
 ).bind fun s2=>
 (
 if s2=true then (
 some true
 ) else (
 some (decide (2 < (a0.Contributions.length:Int)))
 )
 ).bind fun s3=>
 if s3=true then (
 some false
 ) else (
 (findL z8r 0 a0.Right ()).bind <| onr (fun r1=>some r1) fun _=>
 (findL (z8s a0) 0 a0.Equations ()).bind <| onr (fun r2=>some r2) fun _=>
 (findL (z8t a0) 0 a0.Contributions ()).bind <| onr (fun r3=>some r3) fun _=>
 some true
 )
theorem j4h {m:Md}{a0:Rule}{r:Bool}(hr:z0B a0=some r):Ok Tryz.prog 254 [Rule.x m a0] [] (dB r) []:=by
 refine OE Tryz.func254 fun S hS=>?_
 unfold z0B at hr
 refine J g<|J (BX' 0)<|bdE hr fun y1 hy1 hr=>J g<|J (CB' [] [] (q5u hy1))<|bdE hr fun s1 hqq1 hr=>J (gn 1)<|q0a 6 [(1,.pb 0 0),(3,dI (a0.Right.length:Int)),(21,dB s1)] ?_ ?_
 replace hr:=hqq1
 refine ifE hr ?_ ?_<;>intro h1 hr
 refine bdE hr fun y2 hy2 hr=>J g<|J (CB' [] [] (q5u hy2))<|e
 exact e
 refine bdE hr fun s2 hqq2 hr=>q0a 4 [(1,.pb 0 0),(3,dI (a0.Right.length:Int)),(25,dB s2)] ?_ ?_
 replace hr:=hqq2
 refine ifE hr ?_ ?_<;>intro h2 hr
 exact e
 exact e
 refine bdE hr fun s3 hqq3 hr=>q0a 6 [(1,.pb 0 0),(3,dI (a0.Right.length:Int)),(31,dB s3)] ?_ ?_
 replace hr:=hqq3
 refine ifE hr ?_ ?_<;>intro h3 hr
 exact e
 exact e
 refine J (gn 1)<|ifE hr ?_ ?_<;>intro h4 hr
 exact e
 refine J (gn 8) ?_
 refine AW.len (.box 0 2 rfl rfl) fun hl1=>?_
 refine bdE hr fun q4 hqq4 hr=>q0b hqq4 hl1 1 (fun k1 _=>[(1,.pb 0 0),(3,dI (a0.Right.length:Int)),(4,dI (k1:Int))]) (fun k1 _=>[]) I (fun k1 xk1 sk1 ok1 hxk1 hr hltk1 hik1=>?_) fun k1 sk1 ek1 hltk1=>?_
 refine bdE hr fun y3 hy3 hr=>J g<|J (CB' [] [] (q5u hy3))<|J (gn 2)<|ifE hr ?_ ?_<;>intro h5 hr
 exact e
 exact e
 subst ek1
 refine J (gn 15) ?_
 refine AW.len (.box 0 4 rfl rfl) fun hl2=>?_
 refine bdE hr fun q5 hqq5 hr=>q0b hqq5 hl2 1 (fun k2 _=>[(1,.pb 0 0),(3,dI (a0.Right.length:Int)),(5,dI (k2:Int))]) (fun k2 _=>[]) I (fun k2 xk2 sk2 ok2 hxk2 hr hltk2 hik2=>?_) fun k2 sk2 ek2 hltk2=>?_
 refine J g<|J (NV' 1)<|bdE hr fun y4 hy4 hr=>J g<|J (CB' [] [] (q5u hy4))<|bdE hr fun s4 hqq6 hr=>J (gn 1)<|q0a 8 [(1,.pb 0 0),(3,dI (a0.Right.length:Int)),(5,dI (k2:Int)),(6,.pb 1 0),(68,dB s4)] ?_ ?_
 replace hr:=hqq6
 refine ifE hr ?_ ?_<;>intro h6 hr
 refine bdE hr fun y5 hy5 hr=>J g<|J (CB' [] [] (q5L hy5))<|e
 exact e
 refine bdE hr fun s5 hqq7 hr=>q0a 7 [(1,.pb 0 0),(3,dI (a0.Right.length:Int)),(5,dI (k2:Int)),(75,dB s5)] ?_ ?_
 replace hr:=hqq7
 refine ifE hr ?_ ?_<;>intro h7 hr
 exact e
 refine bdE hr fun y6 hy6 hr=>J g<|J (CB' [] [] (j1C (m:=m) hy6))<|e
 refine J (gn 1)<|ifE hr ?_ ?_<;>intro h8 hr
 exact e
 exact e
 subst ek2
 refine J (gn 17) ?_
 refine AW.len (.box 0 5 rfl rfl) fun hl3=>?_
 refine bdE hr fun q8 hqq8 hr=>q0b hqq8 hl3 1 (fun k3 _=>[(1,.pb 0 0),(3,dI (a0.Right.length:Int)),(7,dI (k3:Int))]) (fun k3 _=>[]) I (fun k3 xk3 sk3 ok3 hxk3 hr hltk3 hik3=>?_) fun k3 sk3 ek3 hltk3=>?_
 refine J g<|J (NV' 1)<|bdE hr fun y7 hy7 hr=>J g<|J (CB' [] [] (q5u hy7))<|bdE hr fun s6 hqq9 hr=>J (gn 1)<|q0a 6 [(1,.pb 0 0),(3,dI (a0.Right.length:Int)),(7,dI (k3:Int)),(8,.pb 1 0),(97,dB s6)] ?_ ?_
 replace hr:=hqq9
 refine ifE hr ?_ ?_<;>intro h9 hr
 refine bdE hr fun y8 hy8 hr=>J g<|J (CB' [] [] (q5u hy8))<|e
 exact e
 refine bdE hr fun s7 hqq10 hr=>q0a 7 [(1,.pb 0 0),(3,dI (a0.Right.length:Int)),(7,dI (k3:Int)),(8,.pb 1 0),(104,dB s7)] ?_ ?_
 replace hr:=hqq10
 refine ifE hr ?_ ?_<;>intro h10 hr
 exact e
 refine bdE hr fun y9 hy9 hr=>J g<|J (CB' [] [] (j1C (m:=m) hy9))<|e
 refine bdE hr fun s8 hqq11 hr=>q0a 7 [(1,.pb 0 0),(3,dI (a0.Right.length:Int)),(7,dI (k3:Int)),(111,dB s8)] ?_ ?_
 replace hr:=hqq11
 refine ifE hr ?_ ?_<;>intro h11 hr
 exact e
 refine bdE hr fun y10 hy10 hr=>J g<|J (CB' [] [] (j1C (m:=m) hy10))<|e
 refine J (gn 1)<|ifE hr ?_ ?_<;>intro h12 hr
 exact e
 exact e
 subst ek3
 exact e
def z9l:Nat→Symbol→((List ByteArray))→Option (((List ByteArray)) ⊕ Int):=fun k1 xk1 s1=>
 (q8X xk1).bind fun y1=>
 if y1=true then (
 (z2V s1 xk1.Name).bind fun y2=>
 if y2=true then (
 some (.inr (k1:Int))
 ) else (
 grd (((s1.length:Int)+1)*16≤140737488355328∧(s1.length:Int)+1≤9223372036854775807) <|
 some (.inl (s1++[xk1.Name]))
 )
 ) else (
 some (.inr (k1:Int))
 )
def z9m:Nat→Rule→((List ByteArray))→Option (((List ByteArray)) ⊕ Int):=fun k2 xk2 s2=>
 (z0B xk2).bind fun y3=>
 if y3=true then (
 (z2V s2 xk2.Name).bind fun y4=>
 if y4=true then (
 some (.inr (k2:Int))
 ) else (
 grd (((s2.length:Int)+1)*16≤140737488355328∧(s2.length:Int)+1≤9223372036854775807) <|
 some (.inl (s2++[xk2.Name]))
 )
 ) else (
 some (.inr (k2:Int))
 )
def z8u (a0:Grammar):Option Int:=
 (findL z9l 0 a0.Symbols ([]:List ByteArray)).bind <| onr (fun r1=>some r1) fun s1=>
 (findL z9m 0 a0.Rules ([]:List ByteArray)).bind <| onr (fun r2=>some r2) fun s2=>
 some (-1)
theorem k2F {m:Md}{a0:Grammar}{r:Int}(hr:z8u a0=some r):Ok Tryz.prog 215 [Grammar.x m a0] [] (dI r) []:=by
 refine OE Tryz.func215 fun S hS=>?_
 unfold z8u at hr
 refine J g<|J (BX' 0)<|J g<|J (L0' 1 A.D.s)<|J (gn 8)<|J (lenA 0 0)<|fun hl1=>bdE hr fun q1 hqq1 hr=>q0b hqq1 hl1 2 (fun k1 s1=>[(1,.pb 0 0),(3,.ref 1 none),(4,dI (k1:Int))]) (fun k1 s1=>[(1,.row .fz 1 (s1.map A.D.s))]) I (fun k1 xk1 sk1 ok1 hxk1 hr hltk1 hik1=>?_) fun k1 sk1 ek1 hltk1=>?_
 obtain⟨s1,rfl⟩:∃ y,y=sk1:=⟨_,rfl⟩
 refine bdE hr fun y1 hy1 hr=>J g<|J (CB' [] [] (j1B (m:=m) hy1))<|J (gn 1)<|ifE hr ?_ ?_<;>intro h1 hr
 refine bdE hr fun y2 hy2 hr=>J g<|J (CB' [] [1] (j0F (m:=.bo) hy2))<|J (gn 2)<|ifE hr ?_ ?_<;>intro h2 hr
 exact e
 refine J g<|J (LIR' 2 (m:=.fz) (f:=A.D.s) (xs:=[xk1.Name]))<|ggE hr fun g1 hr=>J (z4z (f:=A.D.s) 3 (fun _=>rfl) 16 g1)<|e
 exact e
 subst ek1
 obtain⟨s1,rfl⟩:∃ y,y=sk1:=⟨_,rfl⟩
 refine J g<|J (L0' 2 A.D.s)<|J (gn 8) ?_
 refine AW.len (.box 0 1 rfl rfl) fun hl2=>?_
 refine bdE hr fun q2 hqq2 hr=>q0b hqq2 hl2 3 (fun k2 s2=>[(1,.pb 0 0),(3,.ref 2 none),(5,dI (k2:Int))]) (fun k2 s2=>[(2,.row .fz 1 (s2.map A.D.s))]) I (fun k2 xk2 sk2 ok2 hxk2 hr hltk2 hik2=>?_) fun k2 sk2 ek2 hltk2=>?_
 obtain⟨s2,rfl⟩:∃ y,y=sk2:=⟨_,rfl⟩
 refine bdE hr fun y3 hy3 hr=>J g<|J (CB' [] [] (j4h (m:=m) hy3))<|J (gn 1)<|ifE hr ?_ ?_<;>intro h3 hr
 refine bdE hr fun y4 hy4 hr=>J g<|J (CB' [] [2] (j0F (m:=.bo) hy4))<|J (gn 2)<|ifE hr ?_ ?_<;>intro h4 hr
 exact e
 refine J g<|J (LIR' 3 (m:=.fz) (f:=A.D.s) (xs:=[xk2.Name]))<|ggE hr fun g2 hr=>J (z4z (f:=A.D.s) 4 (fun _=>rfl) 16 g2)<|e
 exact e
 subst ek2
 obtain⟨s2,rfl⟩:∃ y,y=sk2:=⟨_,rfl⟩
 exact e
def q5C (a0:Rule)(a1:Int):Option ByteArray:=
 if a1=0 then (
 some a0.Left
 ) else (
 (q5B a1 1 (a0.Right.length:Int)).bind fun y1=>
 if y1=true then (
 grd (I64 (a1 - 1)) <|
 grd (0≤(a1 - 1)) <|
 (a0.Right[(a1 - 1).toNat]?).bind fun x1=>
 some x1
 ) else (
 some (⟨#[]⟩:ByteArray)
 )
 )
theorem q8I {m:Md}{a0:Rule}{a1:Int}{r:ByteArray}(hr:q5C a0 a1=some r):Ok Tryz.prog 66 [Rule.x m a0,dI a1] [] (dS r) []:=by
 refine OE Tryz.func66 fun S hS=>?_
 unfold q5C at hr
 refine J g<|J (BX' 0)<|J (gn 8)<|ifE hr ?_ ?_<;>intro h1 hr
 exact e
 refine bdE hr fun y1 hy1 hr=>J g<|J (CB' [] [] (q5L hy1))<|J (gn 2)<|ifE hr ?_ ?_<;>intro h2 hr
 refine ggE hr fun g1 hr=>ggE hr fun g2 hr=>bdE hr fun x1 hx1 hr=>e
 exact e
def q9N (a0:Symbol):Option Symbol:=
 grd (((([]:List Attribute).length:Int)+(a0.Attributes.length:Int))*40≤140737488355328∧(([]:List Attribute).length:Int)+(a0.Attributes.length:Int)≤9223372036854775807) <|
 some a0
theorem j6Y {m:Md}{a0:Symbol}{r:Symbol}(hr:q9N a0=some r):Ok Tryz.prog 166 [Symbol.x m a0] [] (.ag [dS r.Name,.ref 0 none]) [.row .fz 4 (r.Attributes.map Attribute.D)]:=by
 refine OE Tryz.func166 fun S hS=>?_
 unfold q9N at hr
 refine J g<|J (BX' 0)<|J (NV' 1)<|J g<|J (L0' 2 Attribute.D)<|ggE hr fun g1 hr=>J g<|J (j9N (f:=Attribute.D) 3 40 (fun _=>rfl) g1)<|e
def z0C (a1:ByteArray):Nat→Symbol→Unit→Option (Unit ⊕ (Symbol × Bool)):=fun k1 xk1 _=>
 if xk1.Name=a1 then (
 (q9N xk1).bind fun y1=>
 some (.inr (y1,true))
 ) else (
 some (.inl ())
 )
def q5M (a0:Grammar)(a1:ByteArray):Option (Symbol × Bool):=
 (findL (z0C a1) 0 a0.Symbols ()).bind <| onr (fun r1=>some r1) fun _=>
 some ((⟨(⟨#[]⟩:ByteArray),[]⟩:Symbol),false)
theorem q9f {m:Md}{a0:Grammar}{a1:ByteArray}{r:(Symbol × Bool)}(hr:q5M a0 a1=some r):Ok Tryz.prog 107 [Grammar.y m a0,dS a1] [] (.tu [.ag [dS r.1.Name,.ref 0 none],dB r.2]) [.row .fz 4 (r.1.Attributes.map Attribute.D)]:=by
 refine OE Tryz.func107 fun S hS=>?_
 unfold q5M at hr
 refine J g<|J (BX' 0)<|J (NV' 1)<|J (gn 8)<|J (lenA 0 0)<|fun hl1=>bdE hr fun q1 hqq1 hr=>q0b hqq1 hl1 2 (fun k1 _=>[(1,dS a1),(2,.pb 0 0),(4,.pb 1 0),(6,dI (k1:Int))]) (fun k1 _=>[]) I (fun k1 xk1 sk1 ok1 hxk1 hr hltk1 hik1=>?_) fun k1 sk1 ek1 hltk1=>?_
 refine J (gn 24)<|ifE hr ?_ ?_<;>intro h1 hr
 refine bdE hr fun y1 hy1 hr=>J g<|J (CB' [(0,2)] [] (j6Y (m:=m) hy1))<|e
 exact e
 subst ek1
 refine J (gn 18) ?_
 refine J (q0g (q0m (q:=1) (c:=1) (r:=2) .fz 4 rfl rfl rfl))<|J g<|E
def z0D (a0:Grammar)(a1:Rule):Int→Option (Int ⊕ (Unit ⊕ Bool)):=fun s1=>
 if s1≤(a1.Right.length:Int) then (
 (q5C a1 s1).bind fun y1=>
 (q5M a0 y1).bind fun (y2,y3)=>
 if y3=true then (
 grd (I64 (s1+1)) <|
 some (.inl (s1+1))
 ) else (
 some (.inr (.inr false))
 )
 ) else (
 some (.inr (.inl ()))
 )
def z1v (a0:Grammar)(a1:Rule):Option Bool:=
 (q4i (z0D a0 a1) 0).bind <| onr (fun r1=>some r1) fun ()=>
 some true
theorem j5q {m:Md}{a0:Grammar}{a1:Rule}{r:Bool}(hr:z1v a0 a1=some r):Ok Tryz.prog 255 [Grammar.y m a0,Rule.x m a1] [] (dB r) []:=by
 refine OE Tryz.func255 fun S hS=>?_
 unfold z1v at hr
 refine J g<|J (BX' 0)<|J (BX' 1)<|bdE hr fun q1 hqq1 hr=>J (gn 7)<|AW.cut 2 (fun _=>[]) (fun _=>[]) (M:=fun x=>q1 = .inl x) ?_ fun x hx=>?_
 refine J g<|q0h hqq1 2 (fun s1=>[(2,.pb 0 0),(3,.pb 1 0),(5,dI s1)]) (fun s1=>[]) I fun sk1 ok1 hr hik1=>?_
 obtain⟨s1,rfl⟩:∃ y,y=sk1:=⟨_,rfl⟩
 have hr:=hr
 refine J (gn 9)<|ifE hr ?_ ?_<;>intro h1 hr
 refine bdE hr fun y1 hy1 hr=>J g<|J (CB' [] [] (q8I (m:=m) hy1))<|bdP hr fun y2 y3 hq2 hr=>J (CB' [(0,2)] [] (q9f (m:=m) hq2))<|J g<|J (NV' 3)<|J (gn 8)<|ifE hr ?_ ?_<;>intro h2 hr
 refine ggE hr fun g1 hr=>e
 exact e
 refine J (gn 2) ?_
 cases hr
 cases hik1 _ rfl
 exact⟨_,rfl,GH.trans (q0W (q:=0) [.d m (.sl 2 (a0.Symbols.map Symbol.D)),.u] (.cons .rfl (.cons .u .nil)) rfl) (q0e hS 2)⟩
 subst hx
 exact e
def q8N (s3:Int):Nat→Attribute→((List Occurrence))→Option ((List Occurrence)):=fun k2 xk2 s5=>
 (
 if xk2.Mode=2 then (
 grd (((s5.length:Int)+1)*24≤140737488355328∧(s5.length:Int)+1≤9223372036854775807) <|
 some (s5++[(⟨s3,xk2.Name⟩:Occurrence)])
 ) else (
 some s5
 )
 ).bind fun s6=>
 some s6
def q8O (s3:Int):Nat→Attribute→((List Occurrence))→Option ((List Occurrence)):=fun k3 xk3 s7=>
 (
 if xk3.Mode=1 then (
 grd (((s7.length:Int)+1)*24≤140737488355328∧(s7.length:Int)+1≤9223372036854775807) <|
 some (s7++[(⟨s3,xk3.Name⟩:Occurrence)])
 ) else (
 some s7
 )
 ).bind fun s8=>
 some s8
def q6f (a0:Grammar)(a1:Rule):((List Occurrence) × Int)→Option (((List Occurrence) × Int) ⊕ ((List Occurrence))):=fun (s2,s3)=>
 if s3≤(a1.Right.length:Int) then (
 (
 (q5C a1 s3).bind fun y1=>
 (q5M a0 y1).bind fun (y2,y3)=>
 if s3=0 then (
 (eachL (q8N s3) 0 y2.Attributes s2).bind fun s5=>
 some s5
 ) else (
 (eachL (q8O s3) 0 y2.Attributes s2).bind fun s7=>
 some s7
 )
 ).bind fun s4=>
 grd (I64 (s3+1)) <|
 some (.inl (s4,(s3+1)))
 ) else (
 some (.inr s2)
 )
def q5F (a0:Grammar)(a1:Rule):Option (List Occurrence):=
 (q4i (q6f a0 a1) (([]:List Occurrence),0)).bind fun s1=>
 some s1
theorem z1w {m:Md}{a0:Grammar}{a1:Rule}{r:(List Occurrence)}(hr:q5F a0 a1=some r):Ok Tryz.prog 191 [Grammar.y m a0,Rule.x m a1] [] (.ref 0 none) [.row .fz 2 (r.map Occurrence.D)]:=by
 refine OE Tryz.func191 fun S hS=>?_
 unfold q5F at hr
 refine J g<|J (BX' 0)<|J (BX' 1)<|J g<|J (L0' 2 Occurrence.D)<|bdE hr fun s1 hqq1 hr=>J (gn 7)<|q0d 3 [(5,.ref 2 none)] [(2,.row .fz 2 (s1.map Occurrence.D))] ?_ ?_
 refine J g<|q0h hqq1 3 (fun (s2,s3)=>[(2,.pb 0 0),(3,.pb 1 0),(5,.ref 2 none),(6,dI s3)]) (fun (s2,s3)=>[(2,.row .fz 2 (s2.map Occurrence.D))]) I fun sk1 ok1 hr hik1=>?_
 obtain⟨s2,s3⟩:=sk1
 have hr:=hr
 refine J (gn 9)<|ifE hr ?_ ?_<;>intro h1 hr
 refine bdE hr fun s4 hqq2 hr=>J (gn 3)<|q0d 3 [(2,.pb 0 0),(3,.pb 1 0),(5,.ref 2 none),(6,dI s3)] [(2,.row .fz 2 (s4.map Occurrence.D))] ?_ ?_
 replace hr:=hqq2
 refine bdE hr fun y1 hy1 hr=>J g<|J (CB' [] [] (q8I (m:=m) hy1))<|bdP hr fun y2 y3 hq3 hr=>J (CB' [(0,3)] [] (q9f (m:=m) hq3))<|J g<|J (NV' 4)<|J (gn 13)<|ifE hr ?_ ?_<;>intro h2 hr
 refine J (gn 9)<|J (lenR 3)<|fun hl2=>bdE hr fun s5 hqq4 hr=>q0c hqq4 hl2 5 (fun k2 s5=>[(2,.pb 0 0),(3,.pb 1 0),(5,.ref 2 none),(6,dI s3),(7,.pb 4 0),(9,dI 2),(10,dI (k2:Int))]) (fun k2 s5=>[(2,.row .fz 2 (s5.map Occurrence.D))]) I (fun k2 xk2 sk2 ok2 hxk2 hr hltk2=>?_) fun k2 hltk2=>?_
 obtain⟨s5,rfl⟩:∃ y,y=sk2:=⟨_,rfl⟩
 refine bdE hr fun s6 hqq5 hr=>J (gn 12)<|q0d 5 [(2,.pb 0 0),(3,.pb 1 0),(5,.ref 2 none),(6,dI s3),(7,.pb 4 0),(9,dI 2),(10,dI (k2:Int))] [(2,.row .fz 2 (s6.map Occurrence.D))] ?_ ?_
 replace hr:=hqq5
 refine J (gn 12)<|ifE hr ?_ ?_<;>intro h3 hr
 refine J g<|J (LIR' 5 (m:=.fz) (f:=Occurrence.D) (xs:=[(⟨s3,xk2.Name⟩:Occurrence)]))<|ggE hr fun g1 hr=>J (z4z (f:=Occurrence.D) 6 (fun _=>rfl) 24 g1)<|e
 exact e
 exact e
 exact e
 refine J (gn 7)<|J (lenR 3)<|fun hl3=>bdE hr fun s7 hqq6 hr=>q0c hqq6 hl3 5 (fun k3 s7=>[(2,.pb 0 0),(3,.pb 1 0),(5,.ref 2 none),(6,dI s3),(7,.pb 4 0),(9,dI 1),(10,dI (k3:Int))]) (fun k3 s7=>[(2,.row .fz 2 (s7.map Occurrence.D))]) I (fun k3 xk3 sk3 ok3 hxk3 hr hltk3=>?_) fun k3 hltk3=>?_
 obtain⟨s7,rfl⟩:∃ y,y=sk3:=⟨_,rfl⟩
 refine bdE hr fun s8 hqq7 hr=>J (gn 12)<|q0d 5 [(2,.pb 0 0),(3,.pb 1 0),(5,.ref 2 none),(6,dI s3),(7,.pb 4 0),(9,dI 1),(10,dI (k3:Int))] [(2,.row .fz 2 (s8.map Occurrence.D))] ?_ ?_
 replace hr:=hqq7
 refine J (gn 12)<|ifE hr ?_ ?_<;>intro h4 hr
 refine J g<|J (LIR' 5 (m:=.fz) (f:=Occurrence.D) (xs:=[(⟨s3,xk3.Name⟩:Occurrence)]))<|ggE hr fun g2 hr=>J (z4z (f:=Occurrence.D) 6 (fun _=>rfl) 24 g2)<|e
 exact e
 exact e
 exact e
 refine ggE hr fun g3 hr=>e
 refine J (gn 2) ?_
 cases hr
 cases hik1 _ rfl
 exact GH.trans (q0W (q:=0) [.d m (.sl 2 (a0.Symbols.map Symbol.D)),.u] (.cons .rfl (.cons .u .nil)) rfl) (q0e hS 3)
 exact e
def z4m (rec_sl4Copy:Expr→Option Expr):Nat→Expr→((List Expr))→Option ((List Expr)):=fun k1 xk1 s1=>
 (rec_sl4Copy xk1).bind fun y1=>
 grd (((s1.length:Int)+1)*88≤140737488355328∧(s1.length:Int)+1≤9223372036854775807) <|
 some (s1++[y1])
def z1x (rec_sl4Copy:Expr→Option Expr)(a0:Expr):Option Expr:=
 (eachL (z4m rec_sl4Copy) 0 a0.Args ([]:List Expr)).bind fun s1=>
 some (⟨a0.Kind,a0.N,a0.Pos,a0.Type_,a0.Symbol,a0.Name,s1⟩:Expr)
theorem k0d {rec_sl4Copy:Expr→Option Expr}(ih_sl4Copy:∀ {m:Md} {a0:Expr} {r:Expr},rec_sl4Copy a0=some r→Ok Tryz.prog 207 [Expr.x m a0] [] (.ag [dI r.Kind,dI r.N,dI r.Pos,dI r.Type_,dS r.Symbol,dS r.Name,.ref 0 none]) [.row .fz 7 (r.Args.map Expr.D)]){m:Md}{a0:Expr}{r:Expr}(hr:z1x rec_sl4Copy a0=some r):Ok Tryz.prog 207 [Expr.x m a0] [] (.ag [dI r.Kind,dI r.N,dI r.Pos,dI r.Type_,dS r.Symbol,dS r.Name,.ref 0 none]) [.row .fz 7 (r.Args.map Expr.D)]:=by
 refine OE Tryz.func207 fun S hS=>?_
 unfold z1x at hr
 refine J g<|J (BX' 0)<|J (NV' 1)<|J g<|J (L0' 2 Expr.D)<|J (gn 8)<|J (lenA 6 0)<|fun hl1=>bdE hr fun s1 hqq1 hr=>q0c hqq1 hl1 3 (fun k1 s1=>[(1,.pb 0 0),(2,.pb 1 0),(3,.ref 2 none),(4,dI (k1:Int))]) (fun k1 s1=>[(2,.row .fz 7 (s1.map Expr.D))]) I (fun k1 xk1 sk1 ok1 hxk1 hr hltk1=>?_) fun k1 hltk1=>?_
 obtain⟨s1,rfl⟩:∃ y,y=sk1:=⟨_,rfl⟩
 refine bdE hr fun y1 hy1 hr=>J g<|J (CB' [(0,3)] [] (ih_sl4Copy (m:=m) hy1)) ?_
 refine J (q0p 3 rfl) ?_
 refine J (k9U 4 (m:=.fz) (f:=Expr.D) [y1] (by simp only [List.map_cons,List.map_nil,Expr.D_eq]; rfl))<|ggE hr fun g1 hr=>J (AP1' 5 .fz 88 g1)<|J g<|E
 exact e
def q7E:Nat→Expr→Option Expr
  | 0,_=>none
  | n+1,a0=>z1x (q7E n) a0
def j0J (a0:Expr):Option Expr:=recO fun n=>q7E n a0
theorem k0e (n:Nat):∀ {m:Md} {a0:Expr} {r:Expr},q7E n a0=some r→Ok Tryz.prog 207 [Expr.x m a0] [] (.ag [dI r.Kind,dI r.N,dI r.Pos,dI r.Type_,dS r.Symbol,dS r.Name,.ref 0 none]) [.row .fz 7 (r.Args.map Expr.D)]:=by
  induction n with
  | zero=>intro _ _ r hr; exact nomatch (show (none:Option Expr)=some r from hr)
  | succ n ih=>intro _ _ r hr; exact k0d ih hr
theorem k2G {m:Md}{a0:Expr}{r:Expr}(hr:j0J a0=some r):Ok Tryz.prog 207 [Expr.x m a0] [] (.ag [dI r.Kind,dI r.N,dI r.Pos,dI r.Type_,dS r.Symbol,dS r.Name,.ref 0 none]) [.row .fz 7 (r.Args.map Expr.D)]:=by
 obtain⟨n,hn⟩:=q5V hr
 exact k0e n hn
def q7T (a1:Occurrence):Nat→Equation→Unit→Option (Unit ⊕ (Expr × Bool)):=fun k1 xk1 _=>
 if xk1.At=a1 then (
 (j0J xk1.Expr).bind fun y1=>
 some (.inr (y1,true))
 ) else (
 some (.inl ())
 )
def q5H (a0:Rule)(a1:Occurrence):Option (Expr × Bool):=
 (findL (q7T a1) 0 a0.Equations ()).bind <| onr (fun r1=>some r1) fun _=>
 some ((⟨0,0,0,0,(⟨#[]⟩:ByteArray),(⟨#[]⟩:ByteArray),[]⟩:Expr),false)
theorem z7L {m:Md}{a0:Rule}{a1:Occurrence}{r:(Expr × Bool)}(hr:q5H a0 a1=some r):Ok Tryz.prog 152 [Rule.x m a0,Occurrence.x .fz a1] [] (.tu [.ag [dI r.1.Kind,dI r.1.N,dI r.1.Pos,dI r.1.Type_,dS r.1.Symbol,dS r.1.Name,.ref 0 none],dB r.2]) [.row .fz 7 (r.1.Args.map Expr.D)]:=by
 refine OE Tryz.func152 fun S hS=>?_
 unfold q5H at hr
 refine J g<|J (BX' 0)<|J (BX' 1)<|J (NV' 2)<|J (gn 8)<|J (lenA 4 0)<|fun hl1=>bdE hr fun q1 hqq1 hr=>q0b hqq1 hl1 3 (fun k1 _=>[(2,.pb 0 0),(3,.pb 1 0),(4,.pb 2 0),(6,dI (k1:Int))]) (fun k1 _=>[]) I (fun k1 xk1 sk1 ok1 hxk1 hr hltk1 hik1=>?_) fun k1 sk1 ek1 hltk1=>?_
 refine J g ?_
 refine J (SQ' rfl rfl rfl rfl (q6d xk1.At a1))<|J (gn 1)<|ifE hr ?_ ?_<;>intro h1 hr
 refine bdE hr fun y1 hy1 hr=>J g<|J (CB' [(0,3)] [] (k2G (m:=m) hy1))<|e
 exact e
 subst ek1
 refine J (gn 18) ?_
 refine J (q0g (q0m (q:=2) (c:=6) (r:=3) .fz 7 rfl rfl rfl))<|J g<|E
def z9B (a1:Rule):Nat→Occurrence→Unit→Option (Unit ⊕ Bool):=fun k1 xk1 _=>
 (q5H a1 xk1).bind fun (y2,y3)=>
 if y3=true then (
 some (.inl ())
 ) else (
 some (.inr true)
 )
def z1y (a0:Grammar)(a1:Rule):Option Bool:=
 (q5F a0 a1).bind fun y1=>
 (findL (z9B a1) 0 y1 ()).bind <| onr (fun r1=>some r1) fun _=>
 some false
theorem j5r {m:Md}{a0:Grammar}{a1:Rule}{r:Bool}(hr:z1y a0 a1=some r):Ok Tryz.prog 256 [Grammar.y m a0,Rule.x m a1] [] (dB r) []:=by
 refine OE Tryz.func256 fun S hS=>?_
 unfold z1y at hr
 refine J g<|J (BX' 0)<|J (BX' 1)<|bdE hr fun y1 hy1 hr=>J g<|J (CB' [(0,2)] [] (z1w (m:=m) hy1))<|J (gn 8)<|J (lenR 2)<|fun hl1=>bdE hr fun q1 hqq1 hr=>q0b hqq1 hl1 3 (fun k1 _=>[(3,.pb 1 0),(5,.ref 2 none),(6,dI (k1:Int))]) (fun k1 _=>[]) I (fun k1 xk1 sk1 ok1 hxk1 hr hltk1 hik1=>?_) fun k1 sk1 ek1 hltk1=>?_
 refine bdP hr fun y2 y3 hq2 hr=>J g<|J (CB' [(0,3)] [] (z7L (m:=m) hq2))<|J g<|J (NV' 4)<|J (gn 8)<|ifE hr ?_ ?_<;>intro h1 hr
 exact e
 exact e
 subst ek1
 exact e
def j2k (a1:Occurrence):Nat→Occurrence→Unit→Option (Unit ⊕ Bool):=fun k1 xk1 _=>
 if xk1=a1 then (
 some (.inr true)
 ) else (
 some (.inl ())
 )
def z2r (a0:(List Occurrence))(a1:Occurrence):Option Bool:=
 (findL (j2k a1) 0 a0 ()).bind <| onr (fun r1=>some r1) fun _=>
 some false
theorem j2l {m:Md}{a0:(List Occurrence)}{a1:Occurrence}{r:Bool}(hr:z2r a0 a1=some r):Ok Tryz.prog 192 [.d m (.sl 2 (a0.map Occurrence.D)),Occurrence.x .fz a1] [] (dB r) []:=by
 refine OE Tryz.func192 fun S hS=>?_
 unfold z2r at hr
 refine J g<|J (BX' 0)<|J (gn 8)<|J (lenT 0)<|fun hl1=>bdE hr fun q1 hqq1 hr=>q0b hqq1 hl1 1 (fun k1 _=>[(0,.d m (.sl 2 (a0.map Occurrence.D))),(3,.pb 0 0),(5,dI (k1:Int))]) (fun k1 _=>[]) I (fun k1 xk1 sk1 ok1 hxk1 hr hltk1 hik1=>?_) fun k1 sk1 ek1 hltk1=>?_
 refine J g ?_
 refine J (SQ' rfl rfl rfl rfl (q6d xk1 a1))<|J (gn 1)<|ifE hr ?_ ?_<;>intro h1 hr
 exact e
 exact e
 subst ek1
 exact e
def z5A (y1:(List Occurrence)):Nat→Equation→((List Occurrence))→Option (((List Occurrence)) ⊕ Bool):=fun k1 xk1 s1=>
 (z2r y1 xk1.At).bind fun y2=>
 if y2=true then (
 (z2r s1 xk1.At).bind fun y3=>
 if y3=true then (
 some (.inr true)
 ) else (
 grd (((s1.length:Int)+1)*24≤140737488355328∧(s1.length:Int)+1≤9223372036854775807) <|
 some (.inl (s1++[xk1.At]))
 )
 ) else (
 some (.inr true)
 )
def z4K (a0:Grammar)(a1:Rule):Option Bool:=
 (q5F a0 a1).bind fun y1=>
 (findL (z5A y1) 0 a1.Equations ([]:List Occurrence)).bind <| onr (fun r1=>some r1) fun s1=>
 some false
theorem j8F {m:Md}{a0:Grammar}{a1:Rule}{r:Bool}(hr:z4K a0 a1=some r):Ok Tryz.prog 257 [Grammar.y m a0,Rule.x m a1] [] (dB r) []:=by
 refine OE Tryz.func257 fun S hS=>?_
 unfold z4K at hr
 refine J g<|J (BX' 0)<|J (BX' 1)<|bdE hr fun y1 hy1 hr=>J g<|J (CB' [(0,2)] [] (z1w (m:=m) hy1))<|J g<|J (L0' 3 Occurrence.D)<|J (gn 8)<|J (lenA 4 1)<|fun hl1=>bdE hr fun q1 hqq1 hr=>q0b hqq1 hl1 4 (fun k1 s1=>[(3,.pb 1 0),(5,.ref 2 none),(6,.ref 3 none),(7,dI (k1:Int))]) (fun k1 s1=>[(3,.row .fz 2 (s1.map Occurrence.D))]) I (fun k1 xk1 sk1 ok1 hxk1 hr hltk1 hik1=>?_) fun k1 sk1 ek1 hltk1=>?_
 obtain⟨s1,rfl⟩:∃ y,y=sk1:=⟨_,rfl⟩
 refine J g<|J (NV' 4)<|bdE hr fun y2 hy2 hr=>J g<|J (CB' [] [2] (j2l (m:=.bo) hy2))<|J (gn 1)<|ifE hr ?_ ?_<;>intro h1 hr
 refine bdE hr fun y3 hy3 hr=>J g<|J (CB' [] [3] (j2l (m:=.bo) hy3))<|J (gn 2)<|ifE hr ?_ ?_<;>intro h2 hr
 exact e
 refine J g<|J (LIR' 5 (m:=.fz) (f:=Occurrence.D) (xs:=[xk1.At]))<|ggE hr fun g1 hr=>J (z4z (f:=Occurrence.D) 6 (fun _=>rfl) 24 g1)<|e
 exact e
 subst ek1
 obtain⟨s1,rfl⟩:∃ y,y=sk1:=⟨_,rfl⟩
 exact e
def z4L (a0:Occurrence)(a1:Occurrence):Option Bool:=
 (
 if a0.Pos < a1.Pos then (
 some true
 ) else (
 (
 if a0.Pos=a1.Pos then (
 some (Op.bytesLess a0.Name.toList a1.Name.toList)
 ) else (
 some false
 )
 ).bind fun s2=>
 some s2
 )
 ).bind fun s1=>
 some s1
theorem j8G {a0:Occurrence}{a1:Occurrence}{r:Bool}(hr:z4L a0 a1=some r):Ok Tryz.prog 287 [Occurrence.x .fz a0,Occurrence.x .fz a1] [] (dB r) []:=by
 refine OE Tryz.func287 fun S hS=>?_
 unfold z4L at hr
 refine J g<|J (BX' 0)<|J (BX' 1)<|bdE hr fun s1 hqq1 hr=>J (gn 9)<|q0a 14 [(4,dB false),(23,dB s1)] ?_ ?_
 replace hr:=hqq1
 refine ifE hr ?_ ?_<;>intro h1 hr
 exact e
 refine bdE hr fun s2 hqq2 hr=>J (gn 6)<|q0a 7 [(4,dB false),(10,dB false),(22,dB s2)] ?_ ?_
 replace hr:=hqq2
 refine ifE hr ?_ ?_<;>intro h2 hr
 exact e
 exact e
 exact e
 exact e
def z4M (a0:(List Occurrence))(a1:Occurrence):Int→Option (Int ⊕ Int):=fun s2=>
 if s2 < (a0.length:Int) then (
 grd (0≤s2) <|
 (a0[s2.toNat]?).bind fun x1=>
 (z4L x1 a1).bind fun y1=>
 if y1=true then (
 grd (I64 (s2+1)) <|
 some (.inl (s2+1))
 ) else (
 some (.inr s2)
 )
 ) else (
 some (.inr s2)
 )
def j0K (a0:(List Occurrence))(a1:Occurrence):Option (List Occurrence):=
 (q4i (z4M a0 a1) 0).bind fun s1=>
 if s1 < (a0.length:Int) then (
 grd (0≤s1) <|
 (a0[s1.toNat]?).bind fun x2=>
 if x2=a1 then (
 some a0
 ) else (
 grd (0≤s1) <|
 grd (s1.toNat≤a0.length) <|
 grd (((([]:List Occurrence).length:Int)+((a0.take s1.toNat).length:Int))*24≤140737488355328∧(([]:List Occurrence).length:Int)+((a0.take s1.toNat).length:Int)≤9223372036854775807) <|
 grd ((((a0.take s1.toNat).length:Int)+1)*24≤140737488355328∧((a0.take s1.toNat).length:Int)+1≤9223372036854775807) <|
 grd (0≤s1) <|
 grd (s1.toNat≤a0.length) <|
 grd (((((a0.take s1.toNat)++[a1]).length:Int)+((a0.drop s1.toNat).length:Int))*24≤140737488355328∧(((a0.take s1.toNat)++[a1]).length:Int)+((a0.drop s1.toNat).length:Int)≤9223372036854775807) <|
 some (((a0.take s1.toNat)++[a1])++(a0.drop s1.toNat))
 )
 ) else (
 grd (0≤s1) <|
 grd (s1.toNat≤a0.length) <|
 grd (((([]:List Occurrence).length:Int)+((a0.take s1.toNat).length:Int))*24≤140737488355328∧(([]:List Occurrence).length:Int)+((a0.take s1.toNat).length:Int)≤9223372036854775807) <|
 grd ((((a0.take s1.toNat).length:Int)+1)*24≤140737488355328∧((a0.take s1.toNat).length:Int)+1≤9223372036854775807) <|
 grd (0≤s1) <|
 grd (s1.toNat≤a0.length) <|
 grd (((((a0.take s1.toNat)++[a1]).length:Int)+((a0.drop s1.toNat).length:Int))*24≤140737488355328∧(((a0.take s1.toNat)++[a1]).length:Int)+((a0.drop s1.toNat).length:Int)≤9223372036854775807) <|
 some (((a0.take s1.toNat)++[a1])++(a0.drop s1.toNat))
 )
theorem k4d {m:Md}{a0:(List Occurrence)}{a1:Occurrence}{r:(List Occurrence)}(hr:j0K a0 a1=some r):Ok Tryz.prog 247 [.d m (.sl 2 (a0.map Occurrence.D)),Occurrence.x .fz a1] [] (.d m (.sl 2 (r.map Occurrence.D))) []:=by
 refine OE Tryz.func247 fun S hS=>?_
 unfold j0K at hr
 refine J g<|J (BX' 0)<|bdE hr fun s1 hqq1 hr=>J (gn 7)<|q0d 1 [(0,.d m (.sl 2 (a0.map Occurrence.D))),(3,.pb 0 0),(5,dI s1)] [] ?_ ?_
 refine J g<|q0h hqq1 1 (fun s2=>[(0,.d m (.sl 2 (a0.map Occurrence.D))),(3,.pb 0 0),(5,dI s2)]) (fun s2=>[]) I fun sk1 ok1 hr hik1=>?_
 obtain⟨s2,rfl⟩:∃ y,y=sk1:=⟨_,rfl⟩
 have hr:=hr
 refine J (gn 7)<|ifE hr ?_ ?_<;>intro h1 hr
 refine ggE hr fun g1 hr=>bdE hr fun x1 hx1 hr=>bdE hr fun y1 hy1 hr=>J g<|J (CB' [] [] (j8G hy1))<|J (gn 2)<|ifE hr ?_ ?_<;>intro h2 hr
 refine ggE hr fun g2 hr=>e
 refine J (gn 2) ?_
 cases hr
 cases hik1 _ rfl
 exact q0e hS 1
 refine J (gn 11) ?_
 cases hr
 cases hik1 _ rfl
 exact q0e hS 1
 refine J (gn 7)<|ifE hr ?_ ?_<;>intro h3 hr
 refine ggE hr fun g3 hr=>bdE hr fun x2 hx2 hr=>J g ?_
 refine J (SQ' rfl rfl rfl rfl (q6d x2 a1))<|J (gn 2)<|ifE hr ?_ ?_<;>intro h4 hr
 exact e
 refine J g<|J (L0' 1 Occurrence.D)<|ggE hr fun g4 hr=>ggE hr fun g5 hr=>J g<|J (SLH' g4 g5)<|ggE hr fun g6 hr=>J (j9N (f:=Occurrence.D) 2 24 (fun _=>rfl) g6)<|J g<|J (LIR' 3 (m:=.fz) (f:=Occurrence.D) (xs:=[a1]))<|ggE hr fun g7 hr=>J (z4z (f:=Occurrence.D) 4 (fun _=>rfl) 24 g7)<|ggE hr fun g8 hr=>ggE hr fun g9 hr=>J g<|J (SLL' g8 g9)<|ggE hr fun g10 hr=>J (j9N (f:=Occurrence.D) 5 24 (fun _=>rfl) g10)<|J (gn 3) ?_
 refine J (q0g (q0v (r:=5) rfl)) ?_
 cases hr
 exact endA.ren [] 0 (.inr rfl) hS rfl rfl rfl (.md rfl) rfl rfl
 refine J g<|J (L0' 1 Occurrence.D)<|ggE hr fun g11 hr=>ggE hr fun g12 hr=>J g<|J (SLH' g11 g12)<|ggE hr fun g13 hr=>J (j9N (f:=Occurrence.D) 2 24 (fun _=>rfl) g13)<|J g<|J (LIR' 3 (m:=.fz) (f:=Occurrence.D) (xs:=[a1]))<|ggE hr fun g14 hr=>J (z4z (f:=Occurrence.D) 4 (fun _=>rfl) 24 g14)<|ggE hr fun g15 hr=>ggE hr fun g16 hr=>J g<|J (SLL' g15 g16)<|ggE hr fun g17 hr=>J (j9N (f:=Occurrence.D) 5 24 (fun _=>rfl) g17)<|J (gn 3) ?_
 refine J (q0g (q0v (r:=5) rfl)) ?_
 cases hr
 exact endA.ren [] 0 (.inr rfl) hS rfl rfl rfl (.md rfl) rfl rfl
def z4n (rec_sl4Uses:Expr→(List Occurrence)→Option (List Occurrence)):Nat→Expr→((List Occurrence))→Option ((List Occurrence)):=fun k1 xk1 s1=>
 (rec_sl4Uses xk1 s1).bind fun y2=>
 some y2
def j1D (rec_sl4Uses:Expr→(List Occurrence)→Option (List Occurrence)):Nat→Expr→((List Occurrence))→Option ((List Occurrence)):=fun k2 xk2 s2=>
 (rec_sl4Uses xk2 s2).bind fun y3=>
 some y3
def z3o (rec_sl4Uses:Expr→(List Occurrence)→Option (List Occurrence))(a0:Expr)(a1:(List Occurrence)):Option (List Occurrence):=
 if a0.Kind=3 then (
 (j0K a1 (⟨a0.Pos,a0.Name⟩:Occurrence)).bind fun y1=>
 (eachL (z4n rec_sl4Uses) 0 a0.Args y1).bind fun s1=>
 some s1
 ) else (
 (eachL (j1D rec_sl4Uses) 0 a0.Args a1).bind fun s2=>
 some s2
 )
theorem k0f {rec_sl4Uses:Expr→(List Occurrence)→Option (List Occurrence)}(ih_sl4Uses:∀ {m:Md} {a0:Expr} {a1:(List Occurrence)} {r:(List Occurrence)},rec_sl4Uses a0 a1=some r→Ok Tryz.prog 208 [Expr.x m a0,.d m (.sl 2 (a1.map Occurrence.D))] [] (.d m (.sl 2 (r.map Occurrence.D))) []){m:Md}{a0:Expr}{a1:(List Occurrence)}{r:(List Occurrence)}(hr:z3o rec_sl4Uses a0 a1=some r):Ok Tryz.prog 208 [Expr.x m a0,.d m (.sl 2 (a1.map Occurrence.D))] [] (.d m (.sl 2 (r.map Occurrence.D))) []:=by
 refine OE Tryz.func208 fun S hS=>?_
 unfold z3o at hr
 refine J g<|J (BX' 0)<|J (gn 9)<|ifE hr ?_ ?_<;>intro h1 hr
 refine bdE hr fun y1 hy1 hr=>J g<|J (CB' [] [] (k4d (m:=m) hy1))<|J (gn 8)<|J (lenA 6 0)<|fun hl1=>bdE hr fun s1 hqq1 hr=>q0c hqq1 hl1 1 (fun k1 s1=>[(1,.d m (.sl 2 (s1.map Occurrence.D))),(2,.pb 0 0),(5,dI (k1:Int))]) (fun k1 s1=>[]) I (fun k1 xk1 sk1 ok1 hxk1 hr hltk1=>?_) fun k1 hltk1=>?_
 obtain⟨s1,rfl⟩:∃ y,y=sk1:=⟨_,rfl⟩
 refine bdE hr fun y2 hy2 hr=>J g<|J (CB' [] [] (ih_sl4Uses (m:=m) hy2))<|e
 exact e
 refine J (gn 8)<|J (lenA 6 0)<|fun hl2=>bdE hr fun s2 hqq2 hr=>q0c hqq2 hl2 1 (fun k2 s2=>[(1,.d m (.sl 2 (s2.map Occurrence.D))),(2,.pb 0 0),(5,dI (k2:Int))]) (fun k2 s2=>[]) I (fun k2 xk2 sk2 ok2 hxk2 hr hltk2=>?_) fun k2 hltk2=>?_
 obtain⟨s2,rfl⟩:∃ y,y=sk2:=⟨_,rfl⟩
 refine bdE hr fun y3 hy3 hr=>J g<|J (CB' [] [] (ih_sl4Uses (m:=m) hy3))<|e
 exact e
def q8a:Nat→Expr→(List Occurrence)→Option (List Occurrence)
  | 0,_,_=>none
  | n+1,a0,a1=>z3o (q8a n) a0 a1
def j4i (a0:Expr)(a1:(List Occurrence)):Option (List Occurrence):=recO fun n=>q8a n a0 a1
theorem k0g (n:Nat):∀ {m:Md} {a0:Expr} {a1:(List Occurrence)} {r:(List Occurrence)},q8a n a0 a1=some r→Ok Tryz.prog 208 [Expr.x m a0,.d m (.sl 2 (a1.map Occurrence.D))] [] (.d m (.sl 2 (r.map Occurrence.D))) []:=by
  induction n with
  | zero=>intro _ _ _ r hr; exact nomatch (show (none:Option (List Occurrence))=some r from hr)
  | succ n ih=>intro _ _ _ r hr; exact k0f ih hr
theorem k2H {m:Md}{a0:Expr}{a1:(List Occurrence)}{r:(List Occurrence)}(hr:j4i a0 a1=some r):Ok Tryz.prog 208 [Expr.x m a0,.d m (.sl 2 (a1.map Occurrence.D))] [] (.d m (.sl 2 (r.map Occurrence.D))) []:=by
 obtain⟨n,hn⟩:=q5V hr
 exact k0g n hn
def q6V (a0:Expr):Option (List Occurrence):=
 (j4i a0 []).bind fun y1=>
 some y1
theorem z6k {m:Md}{a0:Expr}{r:(List Occurrence)}(hr:q6V a0=some r):Ok Tryz.prog 153 [Expr.x m a0] [] (.d m (.sl 2 (r.map Occurrence.D))) []:=by
 refine OE Tryz.func153 fun S hS=>?_
 unfold q6V at hr
 refine J g<|J (BX' 0)<|J g<|J (L0' 1 Occurrence.D) ?_
 refine J (q0p 1 rfl)<|bdE hr fun y1 hy1 hr=>J (CB' [] [] (k2H (m:=m) hy1))<|J g<|E
def j1E (a1:ByteArray):Nat→Attribute→Unit→Option (Unit ⊕ (Attribute × Bool)):=fun k1 xk1 _=>
 if xk1.Name=a1 then (
 some (.inr (xk1,true))
 ) else (
 some (.inl ())
 )
def q7U (a0:Symbol)(a1:ByteArray):Option (Attribute × Bool):=
 (findL (j1E a1) 0 a0.Attributes ()).bind <| onr (fun r1=>some r1) fun _=>
 some ((⟨(⟨#[]⟩:ByteArray),0,0,false⟩:Attribute),false)
theorem z2s {m:Md}{a0:Symbol}{a1:ByteArray}{r:(Attribute × Bool)}(hr:q7U a0 a1=some r):Ok Tryz.prog 219 [Symbol.x m a0,dS a1] [] (.tu [Attribute.x .fz r.1,dB r.2]) []:=by
 refine OE Tryz.func219 fun S hS=>?_
 unfold q7U at hr
 refine J g<|J (BX' 0)<|J (NV' 1)<|J (gn 8)<|J (lenA 1 0)<|fun hl1=>bdE hr fun q1 hqq1 hr=>q0b hqq1 hl1 2 (fun k1 _=>[(1,dS a1),(2,.pb 0 0),(4,.pb 1 0),(6,dI (k1:Int))]) (fun k1 _=>[]) I (fun k1 xk1 sk1 ok1 hxk1 hr hltk1 hik1=>?_) fun k1 sk1 ek1 hltk1=>?_
 refine J (gn 24)<|ifE hr ?_ ?_<;>intro h1 hr
 exact e
 exact e
 subst ek1
 exact e
def z8v (a0:Grammar)(a1:Rule)(a2:Occurrence):Option Bool:=
 (q5B a2.Pos 0 (a1.Right.length:Int)).bind fun y1=>
 if y1=true then (
 (q5C a1 a2.Pos).bind fun y2=>
 (q5M a0 y2).bind fun (y3,y4)=>
 (q7U y3 a2.Name).bind fun (y5,y6)=>
 if a2.Pos=0 then (
 (
 if y6=true then (
 some (decide (y5.Mode=1))
 ) else (
 some false
 )
 ).bind fun s1=>
 some s1
 ) else (
 (
 if y6=true then (
 some (decide (y5.Mode=2))
 ) else (
 some false
 )
 ).bind fun s2=>
 some s2
 )
 ) else (
 some false
 )
theorem k2I {m:Md}{a0:Grammar}{a1:Rule}{a2:Occurrence}{r:Bool}(hr:z8v a0 a1 a2=some r):Ok Tryz.prog 311 [Grammar.y m a0,Rule.x m a1,Occurrence.x .fz a2] [] (dB r) []:=by
 refine OE Tryz.func311 fun S hS=>?_
 unfold z8v at hr
 refine J g<|J (BX' 0)<|J (BX' 1)<|J (BX' 2)<|bdE hr fun y1 hy1 hr=>J g<|J (CB' [] [] (q5L hy1))<|J (gn 2)<|ifE hr ?_ ?_<;>intro h1 hr
 refine bdE hr fun y2 hy2 hr=>J g<|J (CB' [] [] (q8I (m:=m) hy2))<|bdP hr fun y3 y4 hq1 hr=>J (CB' [(0,3)] [] (q9f (m:=m) hq1))<|J g<|J (NV' 4)<|bdP hr fun y5 y6 hq2 hr=>J g<|J (CB' [] [3] (z2s (m:=.bo) hq2))<|J g<|J (NV' 5)<|J (gn 10)<|ifE hr ?_ ?_<;>intro h2 hr
 refine bdE hr fun s1 hqq3 hr=>J (gn 4)<|q0a 5 [(6,dB false),(42,dB s1)] ?_ ?_
 replace hr:=hqq3
 refine ifE hr ?_ ?_<;>intro h3 hr
 exact e
 exact e
 exact e
 refine bdE hr fun s2 hqq4 hr=>J (gn 5)<|q0a 5 [(6,dB false),(48,dB s2)] ?_ ?_
 replace hr:=hqq4
 refine ifE hr ?_ ?_<;>intro h4 hr
 exact e
 exact e
 exact e
 exact e
def j4j (a0:Grammar)(a1:Rule):Nat→Occurrence→Unit→Option (Unit ⊕ Bool):=fun k1 xk1 _=>
 (z8v a0 a1 xk1).bind fun y2=>
 if y2=true then (
 some (.inl ())
 ) else (
 some (.inr false)
 )
def z2t (a0:Grammar)(a1:Rule)(a2:Expr):Option Bool:=
 (q6V a2).bind fun y1=>
 (findL (j4j a0 a1) 0 y1 ()).bind <| onr (fun r1=>some r1) fun _=>
 some true
theorem z9R {m:Md}{a0:Grammar}{a1:Rule}{a2:Expr}{r:Bool}(hr:z2t a0 a1 a2=some r):Ok Tryz.prog 294 [Grammar.y m a0,Rule.x m a1,Expr.x m a2] [] (dB r) []:=by
 refine OE Tryz.func294 fun S hS=>?_
 unfold z2t at hr
 refine J g<|J (BX' 0)<|J (BX' 1)<|J (BX' 2)<|bdE hr fun y1 hy1 hr=>J g<|J (CB' [] [] (z6k (m:=m) hy1))<|J (gn 8)<|J (lenT 7)<|fun hl1=>bdE hr fun q1 hqq1 hr=>q0b hqq1 hl1 3 (fun k1 _=>[(3,.pb 0 0),(4,.pb 1 0),(7,.d m (.sl 2 (y1.map Occurrence.D))),(8,dI (k1:Int))]) (fun k1 _=>[]) I (fun k1 xk1 sk1 ok1 hxk1 hr hltk1 hik1=>?_) fun k1 sk1 ek1 hltk1=>?_
 refine bdE hr fun y2 hy2 hr=>J g<|J (CB' [] [] (k2I (m:=m) hy2))<|J (gn 2)<|ifE hr ?_ ?_<;>intro h1 hr
 exact e
 exact e
 subst ek1
 exact e
def j0L (a0:Grammar)(a1:Rule):Nat→Equation→Unit→Option (Unit ⊕ Bool):=fun k1 xk1 _=>
 (z2t a0 a1 xk1.Expr).bind fun y1=>
 if y1=true then (
 some (.inl ())
 ) else (
 some (.inr true)
 )
def j0M (a0:Grammar)(a1:Rule):Nat→Contribution→Unit→Option (Unit ⊕ Bool):=fun k2 xk2 _=>
 (z2t a0 a1 xk2.Target).bind fun y2=>
 if y2=true then (
 (z2t a0 a1 xk2.Value).bind fun y3=>
 if y3=true then (
 some (.inl ())
 ) else (
 some (.inr true)
 )
 ) else (
 some (.inr true)
 )
def z3p (a0:Grammar)(a1:Rule):Option Bool:=
 (findL (j0L a0 a1) 0 a1.Equations ()).bind <| onr (fun r1=>some r1) fun _=>
 (findL (j0M a0 a1) 0 a1.Contributions ()).bind <| onr (fun r2=>some r2) fun _=>
 some false
theorem j6Z {m:Md}{a0:Grammar}{a1:Rule}{r:Bool}(hr:z3p a0 a1=some r):Ok Tryz.prog 258 [Grammar.y m a0,Rule.x m a1] [] (dB r) []:=by
 refine OE Tryz.func258 fun S hS=>?_
 unfold z3p at hr
 refine J g<|J (BX' 0)<|J (BX' 1)<|J (gn 8)<|J (lenA 4 1)<|fun hl1=>bdE hr fun q1 hqq1 hr=>q0b hqq1 hl1 2 (fun k1 _=>[(2,.pb 0 0),(3,.pb 1 0),(5,dI (k1:Int))]) (fun k1 _=>[]) I (fun k1 xk1 sk1 ok1 hxk1 hr hltk1 hik1=>?_) fun k1 sk1 ek1 hltk1=>?_
 refine bdE hr fun y1 hy1 hr=>J g<|J (CB' [] [] (z9R (m:=m) hy1))<|J (gn 2)<|ifE hr ?_ ?_<;>intro h1 hr
 exact e
 exact e
 subst ek1
 refine J (gn 17) ?_
 refine AW.len (.box 1 5 rfl rfl) fun hl2=>?_
 refine bdE hr fun q2 hqq2 hr=>q0b hqq2 hl2 2 (fun k2 _=>[(2,.pb 0 0),(3,.pb 1 0),(6,dI (k2:Int))]) (fun k2 _=>[]) I (fun k2 xk2 sk2 ok2 hxk2 hr hltk2 hik2=>?_) fun k2 sk2 ek2 hltk2=>?_
 refine bdE hr fun y2 hy2 hr=>J g<|J (CB' [] [] (z9R (m:=m) hy2))<|J (gn 1)<|ifE hr ?_ ?_<;>intro h2 hr
 refine bdE hr fun y3 hy3 hr=>J g<|J (CB' [] [] (z9R (m:=m) hy3))<|J (gn 3)<|ifE hr ?_ ?_<;>intro h3 hr
 exact e
 exact e
 exact e
 subst ek2
 exact e
def z3q (a0:Grammar)(a1:Rule)(a2:Int):Option Bool:=
 if a2=3 then (
 (z1v a0 a1).bind fun y1=>
 some (!y1)
 ) else (
 if a2=4 then (
 (z1y a0 a1).bind fun y2=>
 some y2
 ) else (
 if a2=5 then (
 (z4K a0 a1).bind fun y3=>
 some y3
 ) else (
 (z3p a0 a1).bind fun y4=>
 some y4
 )
 )
 )
theorem j7a {m:Md}{a0:Grammar}{a1:Rule}{a2:Int}{r:Bool}(hr:z3q a0 a1 a2=some r):Ok Tryz.prog 216 [Grammar.y m a0,Rule.x m a1,dI a2] [] (dB r) []:=by
 refine OE Tryz.func216 fun S hS=>?_
 unfold z3q at hr
 refine J g<|J (BX' 0)<|J (BX' 1)<|J (gn 13)<|ifE hr ?_ ?_<;>intro h1 hr
 refine bdE hr fun y1 hy1 hr=>J g<|J (CB' [] [] (j5q (m:=m) hy1))<|e
 refine J (gn 6)<|ifE hr ?_ ?_<;>intro h2 hr
 refine bdE hr fun y2 hy2 hr=>J g<|J (CB' [] [] (j5r (m:=m) hy2))<|e
 refine J (gn 6)<|ifE hr ?_ ?_<;>intro h3 hr
 refine bdE hr fun y3 hy3 hr=>J g<|J (CB' [] [] (j8F (m:=m) hy3))<|e
 refine bdE hr fun y4 hy4 hr=>J g<|J (CB' [] [] (j6Z (m:=m) hy4))<|e
def z9C:Nat→Attribute→Unit→Option (Unit ⊕ (Int × Int)):=fun k1 xk1 _=>
 if xk1.Mode=1 then (
 some (.inr (2,0))
 ) else (
 some (.inl ())
 )
def z2W (a0:Grammar)(s1:Int):Nat→Rule→Unit→Option (Unit ⊕ (Int × Int)):=fun k3 xk3 _=>
 (z3q a0 xk3 s1).bind fun y4=>
 if y4=true then (
 some (.inr (s1,(k3:Int)))
 ) else (
 some (.inl ())
 )
def z2X (a0:Grammar):Int→Option (Int ⊕ (Unit ⊕ (Int × Int))):=fun s1=>
 if s1≤6 then (
 (findL (z2W a0 s1) 0 a0.Rules ()).bind <| onr (fun r2=>some (.inr (.inr r2))) fun _=>
 grd (I64 (s1+1)) <|
 some (.inl (s1+1))
 ) else (
 some (.inr (.inl ()))
 )
def z1z (a0:Grammar):Option (Int × Int):=
 (q5B (a0.Symbols.length:Int) 1 4).bind fun y1=>
 if y1=true then (
 (q5B (a0.Rules.length:Int) 1 8).bind fun y2=>
 if y2=true then (
 (z8u a0).bind fun y3=>
 if 0≤y3 then (
 some (1,y3)
 ) else (
 (a0.Symbols[0]?).bind fun x1=>
 (findL z9C 0 x1.Attributes ()).bind <| onr (fun r1=>some r1) fun _=>
 (q4i (z2X a0) 3).bind <| onr (fun r3=>some r3) fun ()=>
 some (0,0)
 )
 ) else (
 some (1,0)
 )
 ) else (
 some (1,0)
 )
theorem j5s {m:Md}{a0:Grammar}{r:(Int × Int)}(hr:z1z a0=some r):Ok Tryz.prog 163 [Grammar.x m a0] [] (.tu [dI r.1,dI r.2]) []:=by
 refine OE Tryz.func163 fun S hS=>?_
 unfold z1z at hr
 refine J g<|J (BX' 0)<|bdE hr fun y1 hy1 hr=>J g<|J (CB' [] [] (q5L hy1))<|J (gn 1)<|ifE hr ?_ ?_<;>intro h1 hr
 refine bdE hr fun y2 hy2 hr=>J g<|J (CB' [] [] (q5L hy2))<|J (gn 3)<|ifE hr ?_ ?_<;>intro h2 hr
 refine bdE hr fun y3 hy3 hr=>J g<|J (CB' [] [] (k2F (m:=m) hy3))<|J (gn 8)<|ifE hr ?_ ?_<;>intro h3 hr
 exact e
 refine bdE hr fun x1 hx1 hr=>J (gn 8) ?_
 refine AW.len (.el 1 (.ag 0 (.tmp 0 rfl) rfl) hx1 rfl) fun hl1=>?_
 refine bdE hr fun q1 hqq1 hr=>q0b hqq1 hl1 1 (fun k1 _=>[(1,.pb 0 0),(5,dI (k1:Int))]) (fun k1 _=>[]) I (fun k1 xk1 sk1 ok1 hxk1 hr hltk1 hik1=>?_) fun k1 sk1 ek1 hltk1=>?_
 refine J (gn 29)<|ifE hr ?_ ?_<;>intro h4 hr
 exact e
 exact e
 subst ek1
 refine bdE hr fun q2 hqq2 hr=>J (gn 19)<|AW.cut 1 (fun _=>[]) (fun _=>[]) (M:=fun x=>q2 = .inl x) ?_ fun x hx=>?_
 refine J g<|q0h hqq2 1 (fun s1=>[(1,.pb 0 0),(6,dI s1)]) (fun s1=>[]) I fun sk2 ok2 hr hik2=>?_
 obtain⟨s1,rfl⟩:∃ y,y=sk2:=⟨_,rfl⟩
 have hr:=hr
 refine J (gn 6)<|ifE hr ?_ ?_<;>intro h5 hr
 refine J (gn 9) ?_
 refine AW.len (.box 0 1 rfl rfl) fun hl3=>?_
 refine bdE hr fun q3 hqq3 hr=>q0b hqq3 hl3 1 (fun k3 _=>[(1,.pb 0 0),(6,dI s1),(7,dI (k3:Int))]) (fun k3 _=>[]) I (fun k3 xk3 sk3 ok3 hxk3 hr hltk3 hik3=>?_) fun k3 sk3 ek3 hltk3=>?_
 refine bdE hr fun y4 hy4 hr=>J g<|J (CB' [] [] (j7a (m:=m) hy4))<|J (gn 1)<|ifE hr ?_ ?_<;>intro h6 hr
 exact e
 exact e
 subst ek3
 refine ggE hr fun g1 hr=>e
 refine J (gn 2) ?_
 cases hr
 cases hik2 _ rfl
 exact⟨_,rfl,q0e hS 1⟩
 subst hx
 exact e
 exact e
 exact e
end Go.Proofs.YtcegfmageiicaaaGreat
