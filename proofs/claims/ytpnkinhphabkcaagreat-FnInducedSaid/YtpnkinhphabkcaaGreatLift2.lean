/- What some functions of the program compute, as partial functions on plain data, and that they do; each lemma bears its conditions in its statement. -/
import Derived.Test.YtpnkinhphabkcaaGreatLift1
set_option linter.unusedVariables false
set_option linter.unusedSimpArgs false
set_option linter.ambiguousOpen false
set_option linter.unusedSectionVars false
set_option linter.unnecessarySimpa false
set_option maxRecDepth 100000
set_option maxHeartbeats 40000000
noncomputable section
namespace Go.Proofs.YtpnkinhphabkcaaGreat
open Go Go.E Go.A
def z3l (rec_sl4Left:Expr→Int→Option Int)(a0:Expr):(Int × Int)→Option ((Int × Int) ⊕ Int):=fun (s2,s3)=>
 if s3 < (a0.Args.length:Int) then (
 if 0≤s2 then (
 grd (0≤s3) <|
 (a0.Args[s3.toNat]?).bind fun x1=>
 (rec_sl4Left x1 s2).bind fun y1=>
 grd (I64 (s3+1)) <|
 some (.inl (y1,(s3+1)))
 ) else (
 some (.inr s2)
 )
 ) else (
 some (.inr s2)
 )
def z6n (rec_sl4Left:Expr→Int→Option Int)(a0:Expr)(a1:Int):Option Int:=
 grd (I64 (a1 - 1)) <|
 (q4L (z3l rec_sl4Left a0) ((a1 - 1),0)).bind fun s1=>
 some s1
theorem j7e {rec_sl4Left:Expr→Int→Option Int}(ih_sl4Left:∀ {m:Md} {a0:Expr} {a1:Int} {r:Int},rec_sl4Left a0 a1=some r→Ok Tryz.prog 155 [Expr.x m a0,dI a1] [] (dI r) []){m:Md}{a0:Expr}{a1:Int}{r:Int}(hr:z6n rec_sl4Left a0 a1=some r):Ok Tryz.prog 155 [Expr.x m a0,dI a1] [] (dI r) []:=by
 refine OE Tryz.func155 fun S hS=>?_
 unfold z6n at hr
 refine J g<|J (BX' 0)<|ggE hr fun g1 hr=>bdE hr fun s1 hqq1 hr=>J (gn 13)<|q0e 1 [(1,dI s1)] [] ?_ ?_
 refine J g<|q0h hqq1 1 (fun (s2,s3)=>[(1,dI s2),(2,.pb 0 0),(5,dI s3)]) (fun (s2,s3)=>[]) I fun sk1 ok1 hr hik1=>?_
 obtain⟨s2,s3⟩:=sk1
 have hr:=hr
 refine J (gn 8)<|ifE hr ?_ ?_<;>intro h1 hr
 refine J (gn 5)<|ifE hr ?_ ?_<;>intro h2 hr
 refine ggE hr fun g2 hr=>bdE hr fun x1 hx1 hr=>bdE hr fun y1 hy1 hr=>J g<|J (CB' [] [] (ih_sl4Left (m:=m) hy1))<|ggE hr fun g3 hr=>e
 refine J (gn 2) ?_
 cases hr
 cases hik1 _ rfl
 exact q0g hS 1
 refine J (gn 7) ?_
 cases hr
 cases hik1 _ rfl
 exact q0g hS 1
 exact e
def z3z:Nat→Expr→Int→Option Int
  | 0,_,_=>none
  | n+1,a0,a1=>z6n (z3z n) a0 a1
def j1i (a0:Expr)(a1:Int):Option Int:=recO fun n=>z3z n a0 a1
theorem j7f (n:Nat):∀ {m:Md} {a0:Expr} {a1:Int} {r:Int},z3z n a0 a1=some r→Ok Tryz.prog 155 [Expr.x m a0,dI a1] [] (dI r) []:=by
  induction n with
  | zero=>intro _ _ _ r hr; exact nomatch (show (none:Option Int)=some r from hr)
  | succ n ih=>intro _ _ _ r hr; exact j7e ih hr
theorem j9x {m:Md}{a0:Expr}{a1:Int}{r:Int}(hr:j1i a0 a1=some r):Ok Tryz.prog 155 [Expr.x m a0,dI a1] [] (dI r) []:=by
 obtain⟨n,hn⟩:=q6D hr
 exact j7f n hn
def z0r (a0:Int)(a1:Int):Option Int:=
 if a1 < a0 then (
 some a0
 ) else (
 some a1
 )
theorem z6o {a0:Int}{a1:Int}{r:Int}(hr:z0r a0 a1=some r):Ok Tryz.prog 70 [dI a0,dI a1] [] (dI r) []:=by
 refine OE Tryz.func70 fun S hS=>?_
 unfold z0r at hr
 refine J (gn 11)<|ifE hr ?_ ?_<;>intro h1 hr
 exact e
 exact e
def z3A (rec_sDepthOfExpr:Expr→Option Int):Nat→Expr→Int→Option Int:=fun k1 xk1 s1=>
 (rec_sDepthOfExpr xk1).bind fun y1=>
 (z0r s1 y1).bind fun y2=>
 some y2
def z0i (rec_sDepthOfExpr:Expr→Option Int)(a0:Expr):Option Int:=
 (eachL (z3A rec_sDepthOfExpr) 0 a0.Args 0).bind fun s1=>
 grd (I64 (s1+1)) <|
 some (s1+1)
theorem j0d {rec_sDepthOfExpr:Expr→Option Int}(ih_sDepthOfExpr:∀ {m:Md} {a0:Expr} {r:Int},rec_sDepthOfExpr a0=some r→Ok Tryz.prog 156 [Expr.x m a0] [] (dI r) []){m:Md}{a0:Expr}{r:Int}(hr:z0i rec_sDepthOfExpr a0=some r):Ok Tryz.prog 156 [Expr.x m a0] [] (dI r) []:=by
 refine OE Tryz.func156 fun S hS=>?_
 unfold z0i at hr
 refine J g<|J (BX' 0)<|J (gn 12)<|J (lenA 6 0)<|fun hl1=>bdE hr fun s1 hqq1 hr=>q0d hqq1 hl1 1 (fun k1 s1=>[(1,.pb 0 0),(3,dI s1),(4,dI (k1:Int))]) (fun k1 s1=>[]) I (fun k1 xk1 sk1 ok1 hxk1 hr hltk1=>?_) fun k1 hltk1=>?_
 obtain⟨s1,rfl⟩:∃ y,y=sk1:=⟨_,rfl⟩
 refine bdE hr fun y1 hy1 hr=>J g<|J (CB' [] [] (ih_sDepthOfExpr (m:=m) hy1))<|bdE hr fun y2 hy2 hr=>J (CB' [] [] (z6o hy2))<|e
 refine ggE hr fun g1 hr=>e
def q7x:Nat→Expr→Option Int
  | 0,_=>none
  | n+1,a0=>z0i (q7x n) a0
def z4u (a0:Expr):Option Int:=recO fun n=>q7x n a0
theorem j0e (n:Nat):∀ {m:Md} {a0:Expr} {r:Int},q7x n a0=some r→Ok Tryz.prog 156 [Expr.x m a0] [] (dI r) []:=by
  induction n with
  | zero=>intro _ _ r hr; exact nomatch (show (none:Option Int)=some r from hr)
  | succ n ih=>intro _ _ r hr; exact j0d ih hr
theorem j1j {m:Md}{a0:Expr}{r:Int}(hr:z4u a0=some r):Ok Tryz.prog 156 [Expr.x m a0] [] (dI r) []:=by
 obtain⟨n,hn⟩:=q6D hr
 exact j0e n hn
def z6p (a0:Expr):Option Bool:=
 (
 if a0.Kind=4 then (
 some 2
 ) else (
 if a0.Kind=5 then (
 some 3
 ) else (
 if a0.Kind=8 then (
 some 1
 ) else (
 some 0
 )
 )
 )
 ).bind fun s1=>
 if (a0.Args.length:Int)=s1 then (
 (
 if a0.Kind=3 then (
 some true
 ) else (
 some (decide (a0.Kind=6))
 )
 ).bind fun s2=>
 (
 if a0.Kind=3 then (
 some true
 ) else (
 some (decide (a0.Kind=8))
 )
 ).bind fun s3=>
 (
 if a0.Kind=1 then (
 some true
 ) else (
 some (decide (a0.Kind=4))
 )
 ).bind fun s4=>
 (
 if s2=true then (
 some true
 ) else (
 some (decide (a0.Pos=0))
 )
 ).bind fun s5=>
 (
 if s5=true then (
 (
 if s3=true then (
 some true
 ) else (
 some (decide (a0.Name=(⟨#[]⟩:ByteArray)))
 )
 ).bind fun s7=>
 some s7
 ) else (
 some false
 )
 ).bind fun s6=>
 (
 if s6=true then (
 (
 if s4=true then (
 some true
 ) else (
 some (decide (a0.N=0))
 )
 ).bind fun s9=>
 some s9
 ) else (
 some false
 )
 ).bind fun s8=>
 (
 if s8=true then (
 (
 if a0.Kind=1 then (
 some true
 ) else (
 some (decide (a0.Type_=0))
 )
 ).bind fun s11=>
 some s11
 ) else (
 some false
 )
 ).bind fun s10=>
 (
 if s10=true then (
 (
 if a0.Kind=8 then (
 some true
 ) else (
 some (decide (a0.Symbol=(⟨#[]⟩:ByteArray)))
 )
 ).bind fun s13=>
 some s13
 ) else (
 some false
 )
 ).bind fun s12=>
 some s12
 ) else (
 some false
 )
theorem j9y {m:Md}{a0:Expr}{r:Bool}(hr:z6p a0=some r):Ok Tryz.prog 221 [Expr.x m a0] [] (dB r) []:=by
 refine OE Tryz.func221 fun S hS=>?_
 unfold z6p at hr
 refine J g<|J (BX' 0)<|bdE hr fun s1 hqq1 hr=>J (gn 12)<|q0e 1 [(1,.pb 0 0),(3,dI s1)] [] ?_ ?_
 replace hr:=hqq1
 refine J (gn 6)<|ifE hr ?_ ?_<;>intro h1 hr
 exact e
 refine J (gn 6)<|ifE hr ?_ ?_<;>intro h2 hr
 exact e
 refine J (gn 6)<|ifE hr ?_ ?_<;>intro h3 hr
 exact e
 exact e
 refine J (gn 9)<|ifE hr ?_ ?_<;>intro h4 hr
 refine bdE hr fun s2 hqq2 hr=>J (gn 7)<|q0a 5 [(1,.pb 0 0),(27,dB s2)] ?_ ?_
 replace hr:=hqq2
 refine ifE hr ?_ ?_<;>intro h5 hr
 exact e
 exact e
 refine bdE hr fun s3 hqq3 hr=>J (gn 7)<|q0a 5 [(1,.pb 0 0),(4,dB s2),(35,dB s3)] ?_ ?_
 replace hr:=hqq3
 refine ifE hr ?_ ?_<;>intro h6 hr
 exact e
 exact e
 refine bdE hr fun s4 hqq4 hr=>J (gn 7)<|q0a 5 [(1,.pb 0 0),(4,dB s2),(5,dB s3),(43,dB s4)] ?_ ?_
 replace hr:=hqq4
 refine ifE hr ?_ ?_<;>intro h7 hr
 exact e
 exact e
 refine bdE hr fun s5 hqq5 hr=>J (gn 5)<|q0a 5 [(1,.pb 0 0),(5,dB s3),(6,dB s4),(49,dB s5)] ?_ ?_
 replace hr:=hqq5
 refine ifE hr ?_ ?_<;>intro h8 hr
 exact e
 exact e
 refine bdE hr fun s6 hqq6 hr=>q0a 8 [(1,.pb 0 0),(6,dB s4),(57,dB s6)] ?_ ?_
 replace hr:=hqq6
 refine ifE hr ?_ ?_<;>intro h9 hr
 refine bdE hr fun s7 hqq7 hr=>J (gn 2)<|q0a 5 [(1,.pb 0 0),(6,dB s4),(50,dB true),(56,dB s7)] ?_ ?_
 replace hr:=hqq7
 refine ifE hr ?_ ?_<;>intro h10 hr
 exact e
 exact e
 exact e
 exact e
 refine bdE hr fun s8 hqq8 hr=>q0a 8 [(1,.pb 0 0),(65,dB s8)] ?_ ?_
 replace hr:=hqq8
 refine ifE hr ?_ ?_<;>intro h11 hr
 refine bdE hr fun s9 hqq9 hr=>J (gn 2)<|q0a 5 [(1,.pb 0 0),(58,dB true),(64,dB s9)] ?_ ?_
 replace hr:=hqq9
 refine ifE hr ?_ ?_<;>intro h12 hr
 exact e
 exact e
 exact e
 exact e
 refine bdE hr fun s10 hqq10 hr=>q0a 10 [(1,.pb 0 0),(75,dB s10)] ?_ ?_
 replace hr:=hqq10
 refine ifE hr ?_ ?_<;>intro h13 hr
 refine bdE hr fun s11 hqq11 hr=>J (gn 4)<|q0a 5 [(1,.pb 0 0),(66,dB true),(74,dB s11)] ?_ ?_
 replace hr:=hqq11
 refine ifE hr ?_ ?_<;>intro h14 hr
 exact e
 exact e
 exact e
 exact e
 refine bdE hr fun s12 hqq12 hr=>q0a 10 [(85,dB s12)] ?_ ?_
 replace hr:=hqq12
 refine ifE hr ?_ ?_<;>intro h15 hr
 refine bdE hr fun s13 hqq13 hr=>J (gn 4)<|q0a 5 [(76,dB true),(84,dB s13)] ?_ ?_
 replace hr:=hqq13
 refine ifE hr ?_ ?_<;>intro h16 hr
 exact e
 exact e
 exact e
 exact e
 exact e
 exact e
def z8p (a0:Int)(a1:Int):Option Int:=
 if a0 < a1 then (
 some a0
 ) else (
 some a1
 )
theorem k0Y {a0:Int}{a1:Int}{r:Int}(hr:z8p a0 a1=some r):Ok Tryz.prog 246 [dI a0,dI a1] [] (dI r) []:=by
 refine OE Tryz.func246 fun S hS=>?_
 unfold z8p at hr
 refine J (gn 11)<|ifE hr ?_ ?_<;>intro h1 hr
 exact e
 exact e
def z3B (a0:Int):Option Int:=
 (z8p 1000000 a0).bind fun y1=>
 (z0r (-1000000) y1).bind fun y2=>
 some y2
theorem j5L {a0:Int}{r:Int}(hr:z3B a0=some r):Ok Tryz.prog 241 [dI a0] [] (dI r) []:=by
 refine OE Tryz.func241 fun S hS=>?_
 unfold z3B at hr
 refine bdE hr fun y1 hy1 hr=>J g<|J (CB' [] [] (k0Y hy1))<|bdE hr fun y2 hy2 hr=>J (CB' [] [] (z6o hy2))<|e
def z4K (a0:Bool):Option Int:=
 if a0=true then (
 some 1
 ) else (
 some 0
 )
theorem j7g {a0:Bool}{r:Int}(hr:z4K a0=some r):Ok Tryz.prog 242 [dB a0] [] (dI r) []:=by
 refine OE Tryz.func242 fun S hS=>?_
 unfold z4K at hr
 refine J (gn 9)<|ifE hr ?_ ?_<;>intro h1 hr
 exact e
 exact e
def z6q (a0:Int)(a1:Int):Option Int:=
 if a1=1 then (
 (z3B a0).bind fun y1=>
 some y1
 ) else (
 if a1=2 then (
 some (z8j a0 4095)
 ) else (
 if a1=3 then (
 (z4K (!(decide (a0=0)))).bind fun y2=>
 some y2
 ) else (
 if a1=4 then (
 (q5O a0 0 999).bind fun y3=>
 if y3=true then (
 some a0
 ) else (
 some 0
 )
 ) else (
 some 0
 )
 )
 )
 )
theorem j9z {a0:Int}{a1:Int}{r:Int}(hr:z6q a0 a1=some r):Ok Tryz.prog 233 [dI a0,dI a1] [] (dI r) []:=by
 refine OE Tryz.func233 fun S hS=>?_
 unfold z6q at hr
 refine J (gn 15)<|ifE hr ?_ ?_<;>intro h1 hr
 refine bdE hr fun y1 hy1 hr=>J g<|J (CB' [] [] (j5L hy1))<|e
 refine J (gn 6)<|ifE hr ?_ ?_<;>intro h2 hr
 refine J g<|J (OB' _ k0O)<|e
 refine J (gn 6)<|ifE hr ?_ ?_<;>intro h3 hr
 refine bdE hr fun y2 hy2 hr=>J g<|J (CB' [] [] (j7g hy2))<|e
 refine J (gn 6)<|ifE hr ?_ ?_<;>intro h4 hr
 refine bdE hr fun y3 hy3 hr=>J g<|J (CB' [] [] (q5W hy3))<|J (gn 1)<|ifE hr ?_ ?_<;>intro h5 hr
 exact e
 exact e
 exact e
def z3C (a0:Int)(a1:Int):Option Bool:=
 (q5O a1 1 4).bind fun y1=>
 if y1=true then (
 (z6q a0 a1).bind fun y2=>
 some (decide (y2=a0))
 ) else (
 some false
 )
theorem j5M {a0:Int}{a1:Int}{r:Bool}(hr:z3C a0 a1=some r):Ok Tryz.prog 222 [dI a0,dI a1] [] (dB r) []:=by
 refine OE Tryz.func222 fun S hS=>?_
 unfold z3C at hr
 refine bdE hr fun y1 hy1 hr=>J g<|J (CB' [] [] (q5W hy1))<|ifE hr ?_ ?_<;>intro h1 hr
 refine bdE hr fun y2 hy2 hr=>J g<|J (CB' [] [] (j9z hy2))<|e
 exact e
def j1k (a0:ByteArray):Nat→Unit→Option (Unit ⊕ Bool):=fun k1 _=>
 (a0.data[k1]?).bind fun x1=>
 (
 if 97≤(x1.toNat:Int) then (
 some (decide ((x1.toNat:Int)≤122))
 ) else (
 some false
 )
 ).bind fun s1=>
 (
 if 48≤(x1.toNat:Int) then (
 some (decide ((x1.toNat:Int)≤57))
 ) else (
 some false
 )
 ).bind fun s2=>
 (
 if s1=true then (
 some false
 ) else (
 (
 if (k1:Int)=0 then (
 some (true,true)
 ) else (
 some (false,!s2)
 )
 ).bind fun (s4,s5)=>
 some s5
 )
 ).bind fun s3=>
 if s3=true then (
 some (.inr false)
 ) else (
 some (.inl ())
 )
def z7m (a0:ByteArray):Option Bool:=
 (findN (j1k a0) 0 a0.size ()).bind <| onr (fun r1=>some r1) fun _=>
 some (decide (0 < (a0.size:Int)))
theorem j7h {a0:ByteArray}{r:Bool}(hr:z7m a0=some r):Ok Tryz.prog 230 [dS a0] [] (dB r) []:=by
 refine OE Tryz.func230 fun S hS=>?_
 unfold z7m at hr
 refine J (gn 10) ?_
 refine q2T (.tmp 0 rfl) fun ht1=>?_
 have hl1:rngI .i64 (a0.size:Int):=k2I ht1
 refine bdE hr fun q1 hqq1 hr=>q0q hqq1 0 (fun k1 _=>[(0,dS a0),(3,dI (k1:Int))]) (fun k1 _=>[]) I (fun k1 sk1 ok1 hr hltk1 hik1=>?_) fun sk1 ek1=>?_
 refine J g<|J LS'<|bdE hr fun x1 hx1 hr=>J g ?_
 refine J (SI' rfl rfl (Int.natCast_nonneg _) hx1)<|bdE hr fun s1 hqq2 hr=>J (gn 1)<|q0a 6 [(0,dS a0),(3,dI (k1:Int)),(21,dB s1)] ?_ ?_
 replace hr:=hqq2
 refine ifE hr ?_ ?_<;>intro h1 hr
 refine J g ?_
 refine J (SI' rfl rfl (Int.natCast_nonneg _) hx1)<|J g<|E
 exact e
 refine J g ?_
 refine J (SI' rfl rfl (Int.natCast_nonneg _) hx1)<|bdE hr fun s2 hqq3 hr=>J (gn 1)<|q0a 6 [(0,dS a0),(3,dI (k1:Int)),(4,dB s1),(31,dB s2)] ?_ ?_
 replace hr:=hqq3
 refine ifE hr ?_ ?_<;>intro h2 hr
 refine J g ?_
 refine J (SI' rfl rfl (Int.natCast_nonneg _) hx1)<|J g<|E
 exact e
 refine bdE hr fun s3 hqq4 hr=>J (gn 6)<|q0a 8 [(0,dS a0),(3,dI (k1:Int)),(41,dB s3)] ?_ ?_
 replace hr:=hqq4
 refine ifE hr ?_ ?_<;>intro h3 hr
 exact e
 refine bdP hr fun s4 s5 hqq5 hr=>J (gn 3)<|q0a 4 [(0,dS a0),(3,dI (k1:Int)),(34,dB true),(35,dI (k1:Int)),(36,dB (decide ((k1:Int)=0))),(37,dB s4),(40,dB s5)] ?_ ?_
 replace hr:=hqq5
 refine ifE hr ?_ ?_<;>intro h4 hr
 exact e
 exact e
 exact e
 refine J (gn 1)<|ifE hr ?_ ?_<;>intro h5 hr
 exact e
 exact e
 subst ek1
 refine J g<|J LS'<|J g<|J LS'<|e
def z3a:Option (List ByteArray):=
 some [(⟨#[105,102]⟩:ByteArray),(⟨#[116,104,101,110]⟩:ByteArray),(⟨#[101,108,115,101]⟩:ByteArray),(⟨#[116,114,117,101]⟩:ByteArray),(⟨#[102,97,108,115,101]⟩:ByteArray),(⟨#[108,105,116]⟩:ByteArray),(⟨#[110,111,110,101]⟩:ByteArray),(⟨#[115,101,108,102]⟩:ByteArray),(⟨#[111,102]⟩:ByteArray),(⟨#[109,97,120]⟩:ByteArray),(⟨#[109,105,110]⟩:ByteArray),(⟨#[119,105,116,104]⟩:ByteArray),(⟨#[104,97,115]⟩:ByteArray)]
theorem j2x {r:(List ByteArray)}(hr:z3a=some r):Ok Tryz.prog 240 [] [] (.ref 0 none) [.row .fz 1 (r.map A.D.s)]:=by
 refine OE Tryz.func240 fun S hS=>?_
 unfold z3a at hr
 refine J g<|J (LIR' 0 (m:=.fz) (f:=A.D.s) (xs:=[(⟨#[105,102]⟩:ByteArray),(⟨#[116,104,101,110]⟩:ByteArray),(⟨#[101,108,115,101]⟩:ByteArray),(⟨#[116,114,117,101]⟩:ByteArray),(⟨#[102,97,108,115,101]⟩:ByteArray),(⟨#[108,105,116]⟩:ByteArray),(⟨#[110,111,110,101]⟩:ByteArray),(⟨#[115,101,108,102]⟩:ByteArray),(⟨#[111,102]⟩:ByteArray),(⟨#[109,97,120]⟩:ByteArray),(⟨#[109,105,110]⟩:ByteArray),(⟨#[119,105,116,104]⟩:ByteArray),(⟨#[104,97,115]⟩:ByteArray)]))<|e
def z8q (a1:ByteArray):Nat→ByteArray→Unit→Option (Unit ⊕ Bool):=fun k1 xk1 _=>
 if xk1=a1 then (
 some (.inr true)
 ) else (
 some (.inl ())
 )
def z2j (a0:(List ByteArray))(a1:ByteArray):Option Bool:=
 (findL (z8q a1) 0 a0 ()).bind <| onr (fun r1=>some r1) fun _=>
 some false
theorem z8r {m:Md}{a0:(List ByteArray)}{a1:ByteArray}{r:Bool}(hr:z2j a0 a1=some r):Ok Tryz.prog 183 [.d m (.sl 1 (a0.map A.D.s)),dS a1] [] (dB r) []:=by
 refine OE Tryz.func183 fun S hS=>?_
 unfold z2j at hr
 refine J (gn 10)<|J (lenT 0)<|fun hl1=>bdE hr fun q1 hqq1 hr=>q0b hqq1 hl1 0 (fun k1 _=>[(0,.d m (.sl 1 (a0.map A.D.s))),(1,dS a1),(5,dI (k1:Int))]) (fun k1 _=>[]) I (fun k1 xk1 sk1 ok1 hxk1 hr hltk1 hik1=>?_) fun k1 sk1 ek1 hltk1=>?_
 refine J (gn 21)<|ifE hr ?_ ?_<;>intro h1 hr
 exact e
 exact e
 subst ek1
 exact e
def z0X (a0:ByteArray):Option Bool:=
 (z3a).bind fun y1=>
 (z2j y1 a0).bind fun y2=>
 some y2
theorem j2y {a0:ByteArray}{r:Bool}(hr:z0X a0=some r):Ok Tryz.prog 231 [dS a0] [] (dB r) []:=by
 refine OE Tryz.func231 fun S hS=>?_
 unfold z0X at hr
 refine bdE hr fun y1 hy1 hr=>J g<|J (CB' [(0,0)] [] (j2x hy1))<|bdE hr fun y2 hy2 hr=>J g<|J (CB' [] [0] (z8r (m:=.bo) hy2))<|e
def q4T (a0:ByteArray):Option Bool:=
 (z7m a0).bind fun y1=>
 (
 if y1=true then (
 some (decide ((a0.size:Int)≤8))
 ) else (
 some false
 )
 ).bind fun s1=>
 (
 if s1=true then (
 (z0X a0).bind fun y2=>
 some (!y2)
 ) else (
 some false
 )
 ).bind fun s2=>
 some s2
theorem q5D {a0:ByteArray}{r:Bool}(hr:q4T a0=some r):Ok Tryz.prog 216 [dS a0] [] (dB r) []:=by
 refine OE Tryz.func216 fun S hS=>?_
 unfold q4T at hr
 refine bdE hr fun y1 hy1 hr=>J g<|J (CB' [] [] (j7h hy1))<|bdE hr fun s1 hqq1 hr=>q0a 5 [(0,dS a0),(2,dB false),(9,dB s1)] ?_ ?_
 replace hr:=hqq1
 refine ifE hr ?_ ?_<;>intro h1 hr
 refine J g<|J LS'<|e
 exact e
 refine bdE hr fun s2 hqq2 hr=>q0a 5 [(2,dB false),(14,dB s2)] ?_ ?_
 replace hr:=hqq2
 refine ifE hr ?_ ?_<;>intro h2 hr
 refine bdE hr fun y2 hy2 hr=>J g<|J (CB' [] [] (j2y hy2))<|e
 exact e
 exact e
def z6r (a0:Expr):Option Bool:=
 (q5O a0.Kind 1 8).bind fun y1=>
 (
 if y1=true then (
 (z6p a0).bind fun y2=>
 some (!y2)
 ) else (
 some true
 )
 ).bind fun s1=>
 if s1=true then (
 some false
 ) else (
 if a0.Kind=1 then (
 (q5O a0.Type_ 1 3).bind fun y3=>
 (
 if y3=true then (
 (z3C a0.N a0.Type_).bind fun y4=>
 some y4
 ) else (
 some false
 )
 ).bind fun s2=>
 (
 if s2=true then (
 some (decide (0≤a0.N))
 ) else (
 some false
 )
 ).bind fun s3=>
 some s3
 ) else (
 if a0.Kind=3 then (
 (q5O a0.Pos 0 3).bind fun y5=>
 (
 if y5=true then (
 (q4T a0.Name).bind fun y6=>
 some y6
 ) else (
 some false
 )
 ).bind fun s4=>
 some s4
 ) else (
 if a0.Kind=6 then (
 (q5O a0.Pos 0 3).bind fun y7=>
 some y7
 ) else (
 if a0.Kind=4 then (
 (q5O a0.N 1 12).bind fun y8=>
 some y8
 ) else (
 if a0.Kind=8 then (
 (q4T a0.Symbol).bind fun y9=>
 (
 if y9=true then (
 (q4T a0.Name).bind fun y10=>
 some y10
 ) else (
 some false
 )
 ).bind fun s5=>
 some s5
 ) else (
 some true
 )
 )
 )
 )
 )
 )
theorem j9A {m:Md}{a0:Expr}{r:Bool}(hr:z6r a0=some r):Ok Tryz.prog 193 [Expr.x m a0] [] (dB r) []:=by
 refine OE Tryz.func193 fun S hS=>?_
 unfold z6r at hr
 refine J g<|J (BX' 0)<|bdE hr fun y1 hy1 hr=>J g<|J (CB' [] [] (q5W hy1))<|bdE hr fun s1 hqq1 hr=>J (gn 1)<|q0a 5 [(1,.pb 0 0),(11,dB s1)] ?_ ?_
 replace hr:=hqq1
 refine ifE hr ?_ ?_<;>intro h1 hr
 refine bdE hr fun y2 hy2 hr=>J g<|J (CB' [] [] (j9y (m:=m) hy2))<|e
 exact e
 refine J (gn 1)<|ifE hr ?_ ?_<;>intro h2 hr
 exact e
 refine J (gn 14)<|ifE hr ?_ ?_<;>intro h3 hr
 refine bdE hr fun y3 hy3 hr=>J g<|J (CB' [] [] (q5W hy3))<|bdE hr fun s2 hqq2 hr=>q0a 7 [(1,.pb 0 0),(25,dB s2)] ?_ ?_
 replace hr:=hqq2
 refine ifE hr ?_ ?_<;>intro h4 hr
 refine bdE hr fun y4 hy4 hr=>J g<|J (CB' [] [] (j5M hy4))<|e
 exact e
 refine bdE hr fun s3 hqq3 hr=>q0a 5 [(30,dB s3)] ?_ ?_
 replace hr:=hqq3
 refine ifE hr ?_ ?_<;>intro h5 hr
 exact e
 exact e
 exact e
 refine J (gn 6)<|ifE hr ?_ ?_<;>intro h6 hr
 refine bdE hr fun y5 hy5 hr=>J g<|J (CB' [] [] (q5W hy5))<|bdE hr fun s4 hqq4 hr=>q0a 5 [(40,dB s4)] ?_ ?_
 replace hr:=hqq4
 refine ifE hr ?_ ?_<;>intro h7 hr
 refine bdE hr fun y6 hy6 hr=>J g<|J (CB' [] [] (q5D hy6))<|e
 exact e
 exact e
 refine J (gn 6)<|ifE hr ?_ ?_<;>intro h8 hr
 refine bdE hr fun y7 hy7 hr=>J g<|J (CB' [] [] (q5W hy7))<|e
 refine J (gn 6)<|ifE hr ?_ ?_<;>intro h9 hr
 refine bdE hr fun y8 hy8 hr=>J g<|J (CB' [] [] (q5W hy8))<|e
 refine J (gn 6)<|ifE hr ?_ ?_<;>intro h10 hr
 refine bdE hr fun y9 hy9 hr=>J g<|J (CB' [] [] (q5D hy9))<|bdE hr fun s5 hqq5 hr=>q0a 5 [(60,dB s5)] ?_ ?_
 replace hr:=hqq5
 refine ifE hr ?_ ?_<;>intro h11 hr
 refine bdE hr fun y10 hy10 hr=>J g<|J (CB' [] [] (q5D hy10))<|e
 exact e
 exact e
 exact e
def j5N (rec_sl4All:Expr→Option Bool):Nat→Expr→Unit→Option (Unit ⊕ Bool):=fun k1 xk1 _=>
 (rec_sl4All xk1).bind fun y1=>
 if y1=true then (
 some (.inl ())
 ) else (
 some (.inr false)
 )
def z8s (rec_sl4All:Expr→Option Bool)(a0:Expr):Option Bool:=
 (findL (j5N rec_sl4All) 0 a0.Args ()).bind <| onr (fun r1=>some r1) fun _=>
 (z6r a0).bind fun y2=>
 some y2
theorem j9B {rec_sl4All:Expr→Option Bool}(ih_sl4All:∀ {m:Md} {a0:Expr} {r:Bool},rec_sl4All a0=some r→Ok Tryz.prog 157 [Expr.x m a0] [] (dB r) []){m:Md}{a0:Expr}{r:Bool}(hr:z8s rec_sl4All a0=some r):Ok Tryz.prog 157 [Expr.x m a0] [] (dB r) []:=by
 refine OE Tryz.func157 fun S hS=>?_
 unfold z8s at hr
 refine J g<|J (BX' 0)<|J (gn 8)<|J (lenA 6 0)<|fun hl1=>bdE hr fun q1 hqq1 hr=>q0b hqq1 hl1 1 (fun k1 _=>[(1,.pb 0 0),(3,dI (k1:Int))]) (fun k1 _=>[]) I (fun k1 xk1 sk1 ok1 hxk1 hr hltk1 hik1=>?_) fun k1 sk1 ek1 hltk1=>?_
 refine bdE hr fun y1 hy1 hr=>J g<|J (CB' [] [] (ih_sl4All (m:=m) hy1))<|J (gn 2)<|ifE hr ?_ ?_<;>intro h1 hr
 exact e
 exact e
 subst ek1
 refine bdE hr fun y2 hy2 hr=>J g<|J (CB' [] [] (j9A (m:=m) hy2))<|e
def z8t:Nat→Expr→Option Bool
  | 0,_=>none
  | n+1,a0=>z8s (z8t n) a0
def j4a (a0:Expr):Option Bool:=recO fun n=>z8t n a0
theorem j9C (n:Nat):∀ {m:Md} {a0:Expr} {r:Bool},z8t n a0=some r→Ok Tryz.prog 157 [Expr.x m a0] [] (dB r) []:=by
  induction n with
  | zero=>intro _ _ r hr; exact nomatch (show (none:Option Bool)=some r from hr)
  | succ n ih=>intro _ _ r hr; exact j9B ih hr
theorem k0Z {m:Md}{a0:Expr}{r:Bool}(hr:j4a a0=some r):Ok Tryz.prog 157 [Expr.x m a0] [] (dB r) []:=by
 obtain⟨n,hn⟩:=q6D hr
 exact j9C n hn
def q8i (a0:Expr):Option Bool:=
 (j1i a0 24).bind fun y1=>
 (
 if 0≤y1 then (
 (z4u a0).bind fun y2=>
 some (decide (y2≤6))
 ) else (
 some false
 )
 ).bind fun s1=>
 (
 if s1=true then (
 (j4a a0).bind fun y3=>
 some y3
 ) else (
 some false
 )
 ).bind fun s2=>
 some s2
theorem z3D {m:Md}{a0:Expr}{r:Bool}(hr:q8i a0=some r):Ok Tryz.prog 123 [Expr.x m a0] [] (dB r) []:=by
 refine OE Tryz.func123 fun S hS=>?_
 unfold q8i at hr
 refine J g<|J (BX' 0)<|bdE hr fun y1 hy1 hr=>J g<|J (CB' [] [] (j9x (m:=m) hy1))<|bdE hr fun s1 hqq1 hr=>J (gn 1)<|q0a 5 [(1,.pb 0 0),(2,dB false),(10,dB s1)] ?_ ?_
 replace hr:=hqq1
 refine ifE hr ?_ ?_<;>intro h1 hr
 refine bdE hr fun y2 hy2 hr=>J g<|J (CB' [] [] (j1j (m:=m) hy2))<|e
 exact e
 refine bdE hr fun s2 hqq2 hr=>q0a 4 [(2,dB false),(14,dB s2)] ?_ ?_
 replace hr:=hqq2
 refine ifE hr ?_ ?_<;>intro h2 hr
 refine bdE hr fun y3 hy3 hr=>J g<|J (CB' [] [] (k0Z (m:=m) hy3))<|e
 exact e
 exact e
def j1l (a1:Grammar)(a2:Rule)(a3:Bool)(o0:l1Cur):Nat→Occurrence→(Int × Int × (List Equation))→Option (Int × Int × (List Equation)):=fun k1 xk1 (s2,s3,s1)=>
 (
 (q5s (⟨a2.Name,a2.Left,a2.Right,a2.Literal,s1,a2.Contributions⟩:Rule) xk1.Pos).bind fun y2=>
 (q5u a1 y2).bind fun (y3,y4)=>
 (q5X y3 xk1.Name).bind fun (y5,y6)=>
 (q3H 3 (⟨o0.b,s2,s3⟩:l1Cur)).bind fun (y7,z1)=>
 grd (I64 (1+y7)) <|
 (z9h a1 (⟨a2.Name,a2.Left,a2.Right,a2.Literal,s1,a2.Contributions⟩:Rule) y5.Type_ (1+y7) a3 (⟨o0.b,z1.i,z1.h⟩:l1Cur)).bind fun (y8,z2)=>
 (q8i y8).bind fun y9=>
 if y9=true then (
 grd (((s1.length:Int)+1)*112≤140737488355328∧(s1.length:Int)+1≤9223372036854775807) <|
 some (z2.i,z2.h,(s1++[(⟨xk1,y8⟩:Equation)]))
 ) else (
 (q8b y5.Type_ [] (⟨o0.b,z2.i,z2.h⟩:l1Cur)).bind fun (y10,z3)=>
 grd (((s1.length:Int)+1)*112≤140737488355328∧(s1.length:Int)+1≤9223372036854775807) <|
 some (z3.i,z3.h,(s1++[(⟨xk1,y10⟩:Equation)]))
 )
 ).bind fun (s5,s6,s4)=>
 some (s5,s6,s4)
def z4L (a1:Grammar)(a2:Rule)(a3:Bool)(o0:l1Cur):Option (Rule × l1Cur):=
 (q5t a1 a2).bind fun y1=>
 (eachL (j1l a1 a2 a3 o0) 0 y1 (o0.i,o0.h,a2.Equations)).bind fun (s2,s3,s1)=>
 some ((⟨a2.Name,a2.Left,a2.Right,a2.Literal,s1,a2.Contributions⟩:Rule),(⟨o0.b,s2,s3⟩:l1Cur))
theorem j7i {m:Md}{m2:Md}{a1:Grammar}{a2:Rule}{a3:Bool}{o0:l1Cur}{r:(Rule × l1Cur)}(hr:z4L a1 a2 a3 o0=some r):Ok Tryz.prog 89 [.pb 0 0,Grammar.y m a1,.ag [dS a2.Name,dS a2.Left,.ref 1 none,dB a2.Literal,.ref 2 none,.ref 3 none],dB a3] [.box [.d .fz (.sl 1 (o0.b.map byD)),dI o0.i,dI o0.h],.row .fz 1 (a2.Right.map A.D.s),.row m2 9 (a2.Equations.map Equation.D),.row m2 16 (a2.Contributions.map Contribution.D)] (.ag [dS r.1.Name,dS r.1.Left,.ref 1 none,dB r.1.Literal,.ref 4 none,.ref 3 none]) [.box [.d .fz (.sl 1 (o0.b.map byD)),dI r.2.i,dI r.2.h],.row .fz 1 (r.1.Right.map A.D.s),.dead,.row m2 16 (r.1.Contributions.map Contribution.D),.row m2 9 (r.1.Equations.map Equation.D)]:=by
 refine OE Tryz.func89 fun S hS=>?_
 unfold z4L at hr
 refine J (gw 2)<|J (BX' 4)<|J (BX' 5)<|J (NV' 6)<|bdE hr fun y1 hy1 hr=>J (gw 5)<|J (CB' [(0,7)] [1,2,3] (q8N (m:=.bo) hy1))<|J (gw 8) ?_
 refine J (q1t 2 8 rfl)<|J (lenR 7)<|fun hl1=>bdT hr fun s2 s3 s1 hqq1 hr=>q0d hqq1 hl1 9 (fun k1 (s2,s3,s1)=>[(0,.pb 0 0),(3,dB a3),(5,.pb 4 0),(6,.pb 5 0),(8,.pb 6 0),(9,.ref 7 none),(10,dI (k1:Int))]) (fun k1 (s2,s3,s1)=>[(0,.box [.d .fz (.sl 1 (o0.b.map byD)),dI s2,dI s3]),(8,.row m2 9 (s1.map Equation.D))]) I (fun k1 xk1 sk1 ok1 hxk1 hr hltk1=>?_) fun k1 hltk1=>?_
 obtain⟨s2,s3,s1⟩:=sk1
 refine bdT hr fun s5 s6 s4 hqq2 hr=>J (gw 11)<|q0e 10 [(0,.pb 0 0),(3,dB a3),(5,.pb 4 0),(6,.pb 5 0),(8,.pb 6 0),(9,.ref 7 none),(10,dI (k1:Int))] [(0,.box [.d .fz (.sl 1 (o0.b.map byD)),dI s5,dI s6]),(5,.box [dS a2.Name,dS a2.Left,.ref 1 none,dB a2.Literal,.ref 9 none,.ref 3 none]),(8,.none),(9,.row m2 9 (s4.map Equation.D))] ?_ ?_
 replace hr:=hqq2
 refine bdE hr fun y2 hy2 hr=>J (gw 10)<|J (CB' [] [1,8,3] (q7v (m:=.bo) hy2))<|bdP hr fun y3 y4 hq3 hr=>J (CB' [(0,9)] [] (q7w (m:=m) hq3))<|J (gw 3)<|J (NV' 10)<|bdP hr fun y5 y6 hq4 hr=>J (gw 11)<|J (CB' [] [9] (q9I (m:=.bo) hq4))<|J (gw 3)<|J (NV' 11)<|bdP hr fun y7 z1 hq5 hr=>J (gw 11)<|J (CB' [(0,0)] [] (q3J hq5))<|ggE hr fun g1 hr=>bdP hr fun y8 z2 hq6 hr=>J (gw 2)<|J (CB' [(0,0),(1,12)] [1,8,3] (j7d (m:=.bo) hq6))<|J (NV' 13)<|bdE hr fun y9 hy9 hr=>J (gw 6)<|J (CB' [] [12] (z3D (m:=.bo) hy9))<|J (gw 2)<|ifE hr ?_ ?_<;>intro h1 hr
 refine J (gw 2) ?_
 refine J (q0X 12 rfl)<|J (gw 9)<|J (LIR' 14 (m:=.fz) (f:=Equation.D) (xs:=[(⟨xk1,y8⟩:Equation)]))<|ggE hr fun g2 hr=>J (AP1' 15 m2 112 g2)<|J (gw 3)<|E
 refine J (gw 5)<|J (L0' 14 Occurrence.D)<|bdP hr fun y10 z3 hq7 hr=>J (CB' [(0,0),(1,15)] [14] (q9J (m:=.bo) hq7))<|J (gw 2) ?_
 refine J (q0X 15 rfl)<|J (gw 9)<|J (LIR' 16 (m:=.fz) (f:=Equation.D) (xs:=[(⟨xk1,y10⟩:Equation)]))<|ggE hr fun g3 hr=>J (AP1' 17 m2 112 g3)<|J (gw 3)<|E
 refine J (gw 5)<|E
 refine J (gw 16)<|E
def j3h (a1:Grammar)(a2:Rule)(o0:l1Cur)(xk1:Symbol):Nat→Attribute→(Int × Int × (List Contribution))→Option (Int × Int × (List Contribution)):=fun k2 xk2 (s4,s5,s6)=>
 (
 (
 if xk2.Mode=3 then (
 some (decide ((s6.length:Int) < 2))
 ) else (
 some false
 )
 ).bind fun s10=>
 (
 if s10=true then (
 (q5a 3 (⟨o0.b,s4,s5⟩:l1Cur)).bind fun (y1,z1)=>
 some (!y1,z1.i,z1.h)
 ) else (
 some (false,s4,s5)
 )
 ).bind fun (s14,s15,s16)=>
 if s14=true then (
 (z2i a1 (⟨a2.Name,a2.Left,a2.Right,a2.Literal,a2.Equations,s6⟩:Rule) 4).bind fun y2=>
 (q8b 4 y2 (⟨o0.b,s15,s16⟩:l1Cur)).bind fun (y3,z2)=>
 (z2i a1 (⟨a2.Name,a2.Left,a2.Right,a2.Literal,a2.Equations,s6⟩:Rule) 2).bind fun y4=>
 (q8b 2 y4 (⟨o0.b,z2.i,z2.h⟩:l1Cur)).bind fun (y5,z3)=>
 grd (((s6.length:Int)+1)*208≤140737488355328∧(s6.length:Int)+1≤9223372036854775807) <|
 some (z3.i,z3.h,(s6++[(⟨xk1.Name,xk2.Name,y3,y5⟩:Contribution)]))
 ) else (
 some (s15,s16,s6)
 )
 ).bind fun (s8,s9,s7)=>
 some (s8,s9,s7)
def j3i (a1:Grammar)(a2:Rule)(o0:l1Cur):Nat→Symbol→(Int × Int × (List Contribution))→Option (Int × Int × (List Contribution)):=fun k1 xk1 (s1,s2,s3)=>
 (eachL (j3h a1 a2 o0 xk1) 0 xk1.Attributes (s1,s2,s3)).bind fun (s4,s5,s6)=>
 some (s4,s5,s6)
def z6s (a1:Grammar)(a2:Rule)(o0:l1Cur):Option (Rule × l1Cur):=
 (eachL (j3i a1 a2 o0) 0 a1.Symbols (o0.i,o0.h,a2.Contributions)).bind fun (s1,s2,s3)=>
 some ((⟨a2.Name,a2.Left,a2.Right,a2.Literal,a2.Equations,s3⟩:Rule),(⟨o0.b,s1,s2⟩:l1Cur))
theorem j9D {m:Md}{m2:Md}{a1:Grammar}{a2:Rule}{o0:l1Cur}{r:(Rule × l1Cur)}(hr:z6s a1 a2 o0=some r):Ok Tryz.prog 90 [.pb 0 0,Grammar.y m a1,.ag [dS a2.Name,dS a2.Left,.ref 1 none,dB a2.Literal,.ref 2 none,.ref 3 none]] [.box [.d .fz (.sl 1 (o0.b.map byD)),dI o0.i,dI o0.h],.row .fz 1 (a2.Right.map A.D.s),.row m2 9 (a2.Equations.map Equation.D),.row m2 16 (a2.Contributions.map Contribution.D)] (.ag [dS r.1.Name,dS r.1.Left,.ref 1 none,dB r.1.Literal,.ref 2 none,.ref 4 none]) [.box [.d .fz (.sl 1 (o0.b.map byD)),dI r.2.i,dI r.2.h],.row .fz 1 (r.1.Right.map A.D.s),.row m2 9 (r.1.Equations.map Equation.D),.dead,.row m2 16 (r.1.Contributions.map Contribution.D)]:=by
 refine OE Tryz.func90 fun S hS=>?_
 unfold z6s at hr
 refine J g<|J (BX' 4)<|J (BX' 5)<|J (NV' 6)<|J (gn 7) ?_
 refine J (q1t 3 7 rfl)<|J (lenA 0 1)<|fun hl1=>bdT hr fun s1 s2 s3 hqq1 hr=>q0d hqq1 hl1 8 (fun k1 (s1,s2,s3)=>[(0,.pb 0 0),(4,.pb 4 0),(5,.pb 5 0),(6,.pb 6 0),(7,dI (k1:Int))]) (fun k1 (s1,s2,s3)=>[(0,.box [.d .fz (.sl 1 (o0.b.map byD)),dI s1,dI s2]),(7,.row m2 16 (s3.map Contribution.D))]) I (fun k1 xk1 sk1 ok1 hxk1 hr hltk1=>?_) fun k1 hltk1=>?_
 obtain⟨s1,s2,s3⟩:=sk1
 refine J (gn 18) ?_
 refine AW.len (.el 1 (.tmp 12 rfl) hxk1 rfl) fun hl2=>?_
 refine bdT hr fun s4 s5 s6 hqq2 hr=>q0d hqq2 hl2 8 (fun k2 (s4,s5,s6)=>[(0,.pb 0 0),(4,.pb 4 0),(5,.pb 5 0),(6,.pb 6 0),(7,dI (k1:Int)),(8,dI (k2:Int))]) (fun k2 (s4,s5,s6)=>[(0,.box [.d .fz (.sl 1 (o0.b.map byD)),dI s4,dI s5]),(7,.row m2 16 (s6.map Contribution.D))]) I (fun k2 xk2 sk2 ok2 hxk2 hr hltk2=>?_) fun k2 hltk2=>?_
 obtain⟨s4,s5,s6⟩:=sk2
 refine bdT hr fun s8 s9 s7 hqq3 hr=>J (gn 16)<|q0e 8 [(0,.pb 0 0),(4,.pb 4 0),(5,.pb 5 0),(6,.pb 6 0),(7,dI (k1:Int)),(8,dI (k2:Int))] [(0,.box [.d .fz (.sl 1 (o0.b.map byD)),dI s8,dI s9]),(7,.row m2 16 (s7.map Contribution.D))] ?_ ?_
 replace hr:=hqq3
 refine J g<|J (NV' 8)<|bdE hr fun s10 hqq4 hr=>J (gn 7)<|q0a 6 [(0,.pb 0 0),(4,.pb 4 0),(5,.pb 5 0),(6,.pb 6 0),(7,dI (k1:Int)),(8,dI (k2:Int)),(9,.pb 8 0),(45,dB s10)] ?_ ?_
 replace hr:=hqq4
 refine ifE hr ?_ ?_<;>intro h1 hr
 exact e
 exact e
 refine bdT hr fun s14 s15 s16 hqq5 hr=>q0v 5 9 [(0,.pb 0 0),(4,.pb 4 0),(5,.pb 5 0),(6,.pb 6 0),(7,dI (k1:Int)),(8,dI (k2:Int)),(9,.pb 8 0),(50,dB s14)] [(0,.box [.d .fz (.sl 1 (o0.b.map byD)),dI s15,dI s16])] ?_ ?_
 replace hr:=hqq5
 refine ifE hr ?_ ?_<;>intro h2 hr
 refine bdP hr fun y1 z1 hq6 hr=>J g<|J (CB' [(0,0)] [] (q5B hq6))<|e
 exact e
 refine J (gn 1)<|ifE hr ?_ ?_<;>intro h3 hr
 refine bdE hr fun y2 hy2 hr=>J g<|J (CB' [(0,9)] [1,2,7] (z4J (m:=.bo) hy2))<|bdP hr fun y3 z2 hq7 hr=>J (CBz' 10 [(0,0),(1,10)] [9] (q9J (m:=.bo) hq7))<|bdE hr fun y4 hy4 hr=>J g<|J (CB' [(0,11)] [1,2,7] (z4J (m:=.bo) hy4))<|bdP hr fun y5 z3 hq8 hr=>J (CBz' 12 [(0,0),(1,12)] [11] (q9J (m:=.bo) hq8))<|J g<|J (LIR' 13 (m:=.fz) (f:=Contribution.D) (xs:=[(⟨xk1.Name,xk2.Name,y3,y5⟩:Contribution)]))<|ggE hr fun g1 hr=>J (AP1' 14 m2 208 g1)<|e
 exact e
 exact e
 exact e
 exact e
def j1m (a1:Bool)(o0:l1Cur)(y1:Int):Nat→(Int × Int × (List Symbol))→Option (Int × Int × (List Symbol)):=fun k1 (s2,s3,s1)=>
 (([(⟨#[115]⟩:ByteArray),(⟨#[116]⟩:ByteArray),(⟨#[117]⟩:ByteArray)].take ((1+y1).toNat))[k1]?).bind fun x1=>
 (z4I x1 (decide ((k1:Int)=0)) a1 (⟨o0.b,s2,s3⟩:l1Cur)).bind fun (y2,z2)=>
 grd (((s1.length:Int)+1)*40≤140737488355328∧(s1.length:Int)+1≤9223372036854775807) <|
 some (z2.i,z2.h,(s1++[y2]))
def j1n (o0:l1Cur)(y1:Int):Nat→(Int × Int × (List ByteArray))→Option (Int × Int × (List ByteArray)):=fun k4 (s11,s12,s10)=>
 (q7F ([(⟨#[115]⟩:ByteArray),(⟨#[116]⟩:ByteArray),(⟨#[117]⟩:ByteArray)].take ((1+y1).toNat)) (⟨o0.b,s11,s12⟩:l1Cur)).bind fun (y8,z7)=>
 grd (((s10.length:Int)+1)*16≤140737488355328∧(s10.length:Int)+1≤9223372036854775807) <|
 some (z7.i,z7.h,(s10++[y8]))
def j1o (o0:l1Cur)(y1:Int)(x2:ByteArray):Nat→(Int × Int × (List Rule))→Option (Int × Int × (List Rule)):=fun k3 (s8,s9,s7)=>
 grd ((⟨#[112]⟩:ByteArray).size+x2.size≤9223372036854775807) <|
 (z0L (k3:Int)).bind fun y5=>
 grd (((⟨#[112]⟩:ByteArray)++x2).size+y5.size≤9223372036854775807) <|
 (q5a 4 (⟨o0.b,s8,s9⟩:l1Cur)).bind fun (y6,z5)=>
 (q3H 3 (⟨o0.b,z5.i,z5.h⟩:l1Cur)).bind fun (y7,z6)=>
 grd (I64 (1+y7)) <|
 (eachN (j1n o0 y1) 0 (1+y7).toNat (z6.i,z6.h,([]:List ByteArray))).bind fun (s11,s12,s10)=>
 grd (((s7.length:Int)+1)*112≤140737488355328∧(s7.length:Int)+1≤9223372036854775807) <|
 some (s11,s12,(s7++[(⟨(((⟨#[112]⟩:ByteArray)++x2)++y5),x2,s10,y6,[],[]⟩:Rule)]))
def j1p (o0:l1Cur)(y1:Int):Nat→(Int × Int × (List Rule))→Option (Int × Int × (List Rule)):=fun k2 (s5,s6,s4)=>
 (([(⟨#[115]⟩:ByteArray),(⟨#[116]⟩:ByteArray),(⟨#[117]⟩:ByteArray)].take ((1+y1).toNat))[k2]?).bind fun x2=>
 grd ((⟨#[108,101,97,102]⟩:ByteArray).size+x2.size≤9223372036854775807) <|
 (q5a 3 (⟨o0.b,s5,s6⟩:l1Cur)).bind fun (y3,z3)=>
 grd (((s4.length:Int)+1)*112≤140737488355328∧(s4.length:Int)+1≤9223372036854775807) <|
 (q3H 2 (⟨o0.b,z3.i,z3.h⟩:l1Cur)).bind fun (y4,z4)=>
 grd (I64 (1+y4)) <|
 (eachN (j1o o0 y1 x2) 0 (1+y4).toNat (z4.i,z4.h,(s4++[(⟨((⟨#[108,101,97,102]⟩:ByteArray)++x2),x2,[],!y3,[],[]⟩:Rule)]))).bind fun (s8,s9,s7)=>
 some (s8,s9,s7)
def z7K (a1:Bool)(o0:l1Cur)(s1:List Symbol):(Int × Int × Int × (List Rule))→Option ((Int × Int × Int × (List Rule)) ⊕ (Int × Int × (List Rule))):=fun (s17,s18,s19,s20)=>
 if s17 < (s20.length:Int) then (
 (
 grd (0≤s17) <|
 (s20[s17.toNat]?).bind fun x3=>
 (z4L (⟨s1,s20⟩:Grammar) x3 (!a1) (⟨o0.b,s18,s19⟩:l1Cur)).bind fun (y9,z8)=>
 if a1=true then (
 some (z8.i,z8.h,(List.set s20 s17.toNat y9))
 ) else (
 (z6s (⟨s1,s20⟩:Grammar) y9 (⟨o0.b,z8.i,z8.h⟩:l1Cur)).bind fun (y10,z9)=>
 some (z9.i,z9.h,(List.set s20 s17.toNat y10))
 )
 ).bind fun (s21,s22,s23)=>
 grd (I64 (s17+1)) <|
 some (.inl ((s17+1),s21,s22,s23))
 ) else (
 some (.inr (s18,s19,s20))
 )
def z3m (a1:Bool)(o0:l1Cur):Option (Grammar × l1Cur):=
 (q3H 3 o0).bind fun (y1,z1)=>
 grd (I64 (1+y1)) <|
 grd (0≤(1+y1)) <|
 grd ((1+y1).toNat≤[(⟨#[115]⟩:ByteArray),(⟨#[116]⟩:ByteArray),(⟨#[117]⟩:ByteArray)].length) <|
 (eachN (j1m a1 o0 y1) 0 (1+y1).toNat (z1.i,z1.h,([]:List Symbol))).bind fun (s2,s3,s1)=>
 (eachN (j1p o0 y1) 0 (1+y1).toNat (s2,s3,([]:List Rule))).bind fun (s5,s6,s4)=>
 (
 if 8 < (s4.length:Int) then (
 grd (8≤s4.length) <|
 some (s4.take 8)
 ) else (
 some s4
 )
 ).bind fun s13=>
 (q4L (z7K a1 o0 s1) (0,s5,s6,s13)).bind fun (s14,s15,s16)=>
 some ((⟨s1,s16⟩:Grammar),(⟨o0.b,s14,s15⟩:l1Cur))
theorem j1q {a1:Bool}{o0:l1Cur}{r:(Grammar × l1Cur)}(hr:z3m a1 o0=some r):Ok Tryz.prog 47 [.pb 0 0,dB a1] [.box [.d .fz (.sl 1 (o0.b.map byD)),dI o0.i,dI o0.h]] (.ag [.ref 1 none,.ref 2 none]) [.box [.d .fz (.sl 1 (o0.b.map byD)),dI r.2.i,dI r.2.h],.deep .fz 2 (r.1.Symbols.map Symbol.O) [],.deep .fz 6 (r.1.Rules.map Rule.O) []]:=by
 refine OE Tryz.func47 fun S hS=>?_
 unfold z3m at hr
 refine J g<|J (NV' 1)<|J g<|J (NV' 2)<|bdP hr fun y1 z1 hq1 hr=>J g<|J (CB' [(0,0)] [] (q3J hq1))<|ggE hr fun g1 hr=>J g<|J (LIR' 3 (m:=.fz) (f:=A.D.s) (xs:=[(⟨#[115]⟩:ByteArray),(⟨#[116]⟩:ByteArray),(⟨#[117]⟩:ByteArray)]))<|ggE hr fun g2 hr=>ggE hr fun g3 hr=>J g<|J (CU' 4 g2 g3)<|J (gn 8) ?_
 refine J (q0t 2 0 5 .fz 2 rfl rfl)<|J (q2d 5 Symbol.O)<|J (rngT 6)<|fun hl1=>bdT hr fun s2 s3 s1 hqq2 hr=>q0i hqq2 6 (fun k1 (s2,s3,s1)=>[(0,.pb 0 0),(1,dB a1),(4,.pb 1 0),(5,.pb 2 0),(6,dI (1+y1)),(7,.ref 4 none),(8,dI (k1:Int))]) (fun k1 (s2,s3,s1)=>[(0,.box [.d .fz (.sl 1 (o0.b.map byD)),dI s2,dI s3]),(3,.none),(5,.deep .fz 2 (s1.map Symbol.O) [])]) I (fun k1 sk1 ok1 hr hltk1=>?_) ?_
 obtain⟨s2,s3,s1⟩:=sk1
 refine bdE hr fun x1 hx1 hr=>bdP hr fun y2 z2 hq3 hr=>J g<|J (CB' [(0,0),(1,6)] [] (j3g hq3))<|J (LID' (f:=Symbol.O) 7 y2 [6])<|ggE hr fun g4 hr=>J (k5k 8 40 g4)<|e
 refine J (gn 15) ?_
 refine J (q0t 2 1 6 .fz 6 rfl rfl)<|J (q2d 6 Rule.O)<|J (rngT 6)<|fun hl2=>bdT hr fun s5 s6 s4 hqq4 hr=>q0i hqq4 7 (fun k2 (s5,s6,s4)=>[(0,.pb 0 0),(1,dB a1),(4,.pb 1 0),(5,.pb 2 0),(6,dI (1+y1)),(7,.ref 4 none),(9,dI (k2:Int))]) (fun k2 (s5,s6,s4)=>[(0,.box [.d .fz (.sl 1 (o0.b.map byD)),dI s5,dI s6]),(6,.deep .fz 6 (s4.map Rule.O) [])]) I (fun k2 sk2 ok2 hr hltk2=>?_) ?_
 obtain⟨s5,s6,s4⟩:=sk2
 refine bdE hr fun x2 hx2 hr=>ggE hr fun g5 hr=>J g<|J (OB' _ (j9t g5))<|bdP hr fun y3 z3 hq5 hr=>J g<|J (CB' [(0,0)] [] (q5B hq5))<|J g<|J (LID' (f:=Rule.O) 7 (⟨((⟨#[108,101,97,102]⟩:ByteArray)++x2),x2,[],!y3,[],[]⟩:Rule) [])<|ggE hr fun g6 hr=>J (k5k 8 112 g6)<|bdP hr fun y4 z4 hq6 hr=>J g<|J (CB' [(0,0)] [] (q3J hq6))<|ggE hr fun g7 hr=>J (gn 8)<|J (rngT 10)<|fun hl3=>bdT hr fun s8 s9 s7 hqq7 hr=>q0i hqq7 9 (fun k3 (s8,s9,s7)=>[(0,.pb 0 0),(1,dB a1),(4,.pb 1 0),(5,.pb 2 0),(6,dI (1+y1)),(7,.ref 4 none),(9,dI (k2:Int)),(10,dI (1+y4)),(11,dI (k3:Int))]) (fun k3 (s8,s9,s7)=>[(0,.box [.d .fz (.sl 1 (o0.b.map byD)),dI s8,dI s9]),(6,.none),(7,.none),(8,.deep .fz 6 (s7.map Rule.O) [])]) I (fun k3 sk3 ok3 hr hltk3=>?_) ?_
 obtain⟨s8,s9,s7⟩:=sk3
 refine ggE hr fun g8 hr=>J g<|J (OB' _ (j9t g8))<|bdE hr fun y5 hy5 hr=>J g<|J (CB' [] [] (j3Y hy5))<|ggE hr fun g9 hr=>J (OB' _ (j9t g9))<|bdP hr fun y6 z5 hq8 hr=>J g<|J (CB' [(0,0)] [] (q5B hq8))<|J g<|J (NV' 9)<|bdP hr fun y7 z6 hq9 hr=>J g<|J (CB' [(0,0)] [] (q3J hq9))<|ggE hr fun g10 hr=>J (gn 9) ?_
 refine J (q0t 9 2 10 .fz 1 rfl rfl)<|J (rngT 13)<|fun hl4=>bdT hr fun s11 s12 s10 hqq10 hr=>q0i hqq10 11 (fun k4 (s11,s12,s10)=>[(0,.pb 0 0),(1,dB a1),(4,.pb 1 0),(5,.pb 2 0),(6,dI (1+y1)),(7,.ref 4 none),(9,dI (k2:Int)),(10,dI (1+y4)),(11,dI (k3:Int)),(12,.pb 9 0),(13,dI (1+y7)),(14,dI (k4:Int))]) (fun k4 (s11,s12,s10)=>[(0,.box [.d .fz (.sl 1 (o0.b.map byD)),dI s11,dI s12]),(10,.row .fz 1 (s10.map A.D.s))]) I (fun k4 sk4 ok4 hr hltk4=>?_) ?_
 obtain⟨s11,s12,s10⟩:=sk4
 refine bdP hr fun y8 z7 hq11 hr=>J g<|J (CB' [(0,0)] [4] (q8s (m:=.bo) hq11))<|J (LIR' 11 (m:=.fz) (f:=A.D.s) (xs:=[y8]))<|ggE hr fun g11 hr=>J (q9Z (f:=A.D.s) 12 (fun _=>rfl) 16 g11)<|e
 refine J g<|J (LID' (f:=Rule.O) 11 (⟨(((⟨#[112]⟩:ByteArray)++x2)++y5),x2,s10,y6,[],[]⟩:Rule) [10])<|ggE hr fun g12 hr=>J (k5k 12 112 g12)<|e
 exact e
 refine J g<|J (LEd' s4.length)<|bdE hr fun s13 hqq12 hr=>J (gn 2)<|q0e 7 [(0,.pb 0 0),(1,dB a1),(4,.pb 1 0),(5,.pb 2 0)] [(6,.deep .fz 6 (s13.map Rule.O) [])] ?_ ?_
 replace hr:=hqq12
 refine ifE hr ?_ ?_<;>intro h1 hr
 refine ggE hr fun g13 hr=>J g<|J (CUd' (xs:=s4) (b:=8) 7 (by decide) g13)<|e
 exact e
 refine bdT hr fun s14 s15 s16 hqq13 hr=>J (gn 5)<|q0e 7 [(4,.pb 1 0),(5,.pb 2 0)] [(0,.box [.d .fz (.sl 1 (o0.b.map byD)),dI s14,dI s15]),(6,.deep .fz 6 (s16.map Rule.O) [])] ?_ ?_
 refine J g<|q0h hqq13 7 (fun (s17,s18,s19,s20)=>[(0,.pb 0 0),(1,dB a1),(4,.pb 1 0),(5,.pb 2 0),(15,dI s17)]) (fun (s17,s18,s19,s20)=>[(0,.box [.d .fz (.sl 1 (o0.b.map byD)),dI s18,dI s19]),(6,.deep .fz 6 (s20.map Rule.O) [])]) I fun sk5 ok5 hr hik5=>?_
 obtain⟨s17,s18,s19,s20⟩:=sk5
 have hr:=hr
 refine J g<|J (LEd' s20.length)<|J (gn 2)<|ifE hr ?_ ?_<;>intro h2 hr
 refine bdT hr fun s21 s22 s23 hqq14 hr=>J (gn 3)<|q0e 7 [(0,.pb 0 0),(1,dB a1),(4,.pb 1 0),(5,.pb 2 0),(15,dI s17)] [(0,.box [.d .fz (.sl 1 (o0.b.map byD)),dI s21,dI s22]),(6,.deep .fz 6 (s23.map Rule.O) [])] ?_ ?_
 replace hr:=hqq14
 refine ggE hr fun g14 hr=>bdE hr fun x3 hx3 hr=>J (q0u 6 s17.toNat 2 7 (q4B hx3))<|J (q0u 6 s17.toNat 4 8 (q3V (q4B hx3)))<|J (q0u 6 s17.toNat 5 9 (q3V (q3V (q4B hx3))))<|J g<|J (IEd' g14 (q3V (q3V (q3V (q4B hx3)))))<|J (k6x [(5,9),(4,8),(2,7)] (q3V (q3V (q3V (q4B hx3)))))<|bdP hr fun y9 z8 hq15 hr=>J g<|J (CB' [(0,0),(1,7),(2,8),(3,9),(4,10)] [5] (j7i (m:=.bo) (m2:=.fz) hq15))<|J (IEd' g14 (q3V (q3V (q3V (q4B hx3)))))<|J (SD' [.d .fz (.s y9.Name),.d .fz (.s y9.Left),.o .fz 1 (y9.Right.map A.D.s),.d .fz (.b y9.Literal),.o .fz 9 (y9.Equations.map Equation.D),.o .fz 16 (y9.Contributions.map Contribution.D)] [7,10,9] (q3V (q3V (q3V (q4B hx3)))))<|J (gn 6)<|ifE hr ?_ ?_<;>intro h3 hr
 refine J (gn 2) ?_
 cases hr
 exact GH.trans (q0m 6 (he:=eset (f:=Rule.O) (x':=y9) (by first | rfl | (simp only [List.set_set]; rfl)))) (q0A hS [(0,0),(1,1),(2,2),(4,4),(5,5),(6,6)] 7)
 refine J (gn 1)<|J (q0u 6 s17.toNat 2 11 (q3V (q3V (q3V (q3V (q4B hx3))))))<|J (q0u 6 s17.toNat 4 12 (q3V (q3V (q3V (q3V (q3V (q4B hx3)))))))<|J (q0u 6 s17.toNat 5 13 (q3V (q3V (q3V (q3V (q3V (q3V (q4B hx3))))))))<|J g<|J (IEd' g14 (q3V (q3V (q3V (q3V (q3V (q3V (q3V (q4B hx3)))))))))<|J (k6x [(5,13),(4,12),(2,11)] (q3V (q3V (q3V (q3V (q3V (q3V (q3V (q4B hx3)))))))))<|bdP hr fun y10 z9 hq16 hr=>J (CB' [(0,0),(1,11),(2,12),(3,13),(4,14)] [5] (j9D (m:=.bo) (m2:=.fz) hq16))<|J (IEd' g14 (q3V (q3V (q3V (q3V (q3V (q3V (q3V (q4B hx3)))))))))<|J (SD' [.d .fz (.s y10.Name),.d .fz (.s y10.Left),.o .fz 1 (y10.Right.map A.D.s),.d .fz (.b y10.Literal),.o .fz 9 (y10.Equations.map Equation.D),.o .fz 16 (y10.Contributions.map Contribution.D)] [11,12,14] (q3V (q3V (q3V (q3V (q3V (q3V (q3V (q4B hx3)))))))))<|J (gn 1) ?_
 cases hr
 exact GH.trans (q0m 6 (he:=eset (f:=Rule.O) (x':=y10) (by first | rfl | (simp only [List.set_set]; rfl)))) (q0A hS [(0,0),(1,1),(2,2),(4,4),(5,5),(6,6)] 7)
 refine ggE hr fun g15 hr=>e
 refine J (gn 2) ?_
 cases hr
 cases hik5 _ rfl
 exact q0A hS [(0,0),(1,1),(2,2),(4,4),(5,5),(6,6)] 7
 exact e
def z0Y (o0:l1Cur):Option (ByteArray × l1Cur):=
 (q7F [(⟨#[97]⟩:ByteArray),(⟨#[98]⟩:ByteArray),(⟨#[99]⟩:ByteArray),(⟨#[100]⟩:ByteArray),(⟨#[120]⟩:ByteArray),(⟨#[121]⟩:ByteArray),(⟨#[116]⟩:ByteArray),(⟨#[117]⟩:ByteArray)] o0).bind fun (y1,z1)=>
 some (y1,(⟨o0.b,z1.i,z1.h⟩:l1Cur))
theorem z7n {o0:l1Cur}{r:(ByteArray × l1Cur)}(hr:z0Y o0=some r):Ok Tryz.prog 152 [.pb 0 0] [.box [.d .fz (.sl 1 (o0.b.map byD)),dI o0.i,dI o0.h]] (dS r.1) [.box [.d .fz (.sl 1 (o0.b.map byD)),dI r.2.i,dI r.2.h]]:=by
 refine OE Tryz.func152 fun S hS=>?_
 unfold z0Y at hr
 refine J g<|J (LIR' 1 (m:=.fz) (f:=A.D.s) (xs:=[(⟨#[97]⟩:ByteArray),(⟨#[98]⟩:ByteArray),(⟨#[99]⟩:ByteArray),(⟨#[100]⟩:ByteArray),(⟨#[120]⟩:ByteArray),(⟨#[121]⟩:ByteArray),(⟨#[116]⟩:ByteArray),(⟨#[117]⟩:ByteArray)]))<|bdP hr fun y1 z1 hq1 hr=>J (CB' [(0,0)] [1] (q8s (m:=.bo) hq1))<|e
def q8t (rec_sl4Free:Int→l1Cur→Option (Expr × l1Cur))(a1:Int)(o0:l1Cur):Option (Expr × l1Cur):=
 if a1 < 2 then (
 (q5a 5 o0).bind fun (y1,z1)=>
 if y1=true then (
 some ((⟨2,0,0,0,(⟨#[]⟩:ByteArray),(⟨#[]⟩:ByteArray),[]⟩:Expr),(⟨o0.b,z1.i,z1.h⟩:l1Cur))
 ) else (
 (q5a 6 (⟨o0.b,z1.i,z1.h⟩:l1Cur)).bind fun (y2,z2)=>
 if y2=true then (
 (q3H 4 (⟨o0.b,z2.i,z2.h⟩:l1Cur)).bind fun (y3,z3)=>
 some ((⟨6,0,y3,0,(⟨#[]⟩:ByteArray),(⟨#[]⟩:ByteArray),[]⟩:Expr),(⟨o0.b,z3.i,z3.h⟩:l1Cur))
 ) else (
 (q3H 4 (⟨o0.b,z2.i,z2.h⟩:l1Cur)).bind fun (y4,z4)=>
 grd (I64 (1+y4)) <|
 (q3H 4 (⟨o0.b,z4.i,z4.h⟩:l1Cur)).bind fun (y5,z5)=>
 (z0Y (⟨o0.b,z5.i,z5.h⟩:l1Cur)).bind fun (y6,z6)=>
 (q8b (1+y4) [(⟨y5,y6⟩:Occurrence)] (⟨o0.b,z6.i,z6.h⟩:l1Cur)).bind fun (y7,z7)=>
 some (y7,(⟨o0.b,z7.i,z7.h⟩:l1Cur))
 )
 )
 ) else (
 (q5a 4 o0).bind fun (y8,z8)=>
 if y8=true then (
 (q5a 5 (⟨o0.b,z8.i,z8.h⟩:l1Cur)).bind fun (y9,z9)=>
 if y9=true then (
 some ((⟨2,0,0,0,(⟨#[]⟩:ByteArray),(⟨#[]⟩:ByteArray),[]⟩:Expr),(⟨o0.b,z9.i,z9.h⟩:l1Cur))
 ) else (
 (q5a 6 (⟨o0.b,z9.i,z9.h⟩:l1Cur)).bind fun (y10,z10)=>
 if y10=true then (
 (q3H 4 (⟨o0.b,z10.i,z10.h⟩:l1Cur)).bind fun (y11,z11)=>
 some ((⟨6,0,y11,0,(⟨#[]⟩:ByteArray),(⟨#[]⟩:ByteArray),[]⟩:Expr),(⟨o0.b,z11.i,z11.h⟩:l1Cur))
 ) else (
 (q3H 4 (⟨o0.b,z10.i,z10.h⟩:l1Cur)).bind fun (y12,z12)=>
 grd (I64 (1+y12)) <|
 (q3H 4 (⟨o0.b,z12.i,z12.h⟩:l1Cur)).bind fun (y13,z13)=>
 (z0Y (⟨o0.b,z13.i,z13.h⟩:l1Cur)).bind fun (y14,z14)=>
 (q8b (1+y12) [(⟨y13,y14⟩:Occurrence)] (⟨o0.b,z14.i,z14.h⟩:l1Cur)).bind fun (y15,z15)=>
 some (y15,(⟨o0.b,z15.i,z15.h⟩:l1Cur))
 )
 )
 ) else (
 (q3H 5 (⟨o0.b,z8.i,z8.h⟩:l1Cur)).bind fun (y16,z16)=>
 if y16=0 then (
 grd (I64 (a1 - 1)) <|
 (rec_sl4Free (a1 - 1) (⟨o0.b,z16.i,z16.h⟩:l1Cur)).bind fun (y17,z17)=>
 grd (I64 (a1 - 1)) <|
 (rec_sl4Free (a1 - 1) (⟨o0.b,z17.i,z17.h⟩:l1Cur)).bind fun (y18,z18)=>
 grd (I64 (a1 - 1)) <|
 (rec_sl4Free (a1 - 1) (⟨o0.b,z18.i,z18.h⟩:l1Cur)).bind fun (y19,z19)=>
 some ((⟨5,0,0,0,(⟨#[]⟩:ByteArray),(⟨#[]⟩:ByteArray),[y17,y18,y19]⟩:Expr),(⟨o0.b,z19.i,z19.h⟩:l1Cur))
 ) else (
 if y16=1 then (
 (q7F [(⟨#[115]⟩:ByteArray),(⟨#[116]⟩:ByteArray)] (⟨o0.b,z16.i,z16.h⟩:l1Cur)).bind fun (y20,z20)=>
 (z0Y (⟨o0.b,z20.i,z20.h⟩:l1Cur)).bind fun (y21,z21)=>
 grd (I64 (a1 - 1)) <|
 (rec_sl4Free (a1 - 1) (⟨o0.b,z21.i,z21.h⟩:l1Cur)).bind fun (y22,z22)=>
 some ((⟨8,0,0,0,y20,y21,[y22]⟩:Expr),(⟨o0.b,z22.i,z22.h⟩:l1Cur))
 ) else (
 (q3H 12 (⟨o0.b,z16.i,z16.h⟩:l1Cur)).bind fun (y23,z23)=>
 grd (I64 (1+y23)) <|
 grd (I64 (a1 - 1)) <|
 (rec_sl4Free (a1 - 1) (⟨o0.b,z23.i,z23.h⟩:l1Cur)).bind fun (y24,z24)=>
 grd (I64 (a1 - 1)) <|
 (rec_sl4Free (a1 - 1) (⟨o0.b,z24.i,z24.h⟩:l1Cur)).bind fun (y25,z25)=>
 (z3y (1+y23) y24 y25).bind fun y26=>
 some (y26,(⟨o0.b,z25.i,z25.h⟩:l1Cur))
 )
 )
 )
 )
theorem j7j {rec_sl4Free:Int→l1Cur→Option (Expr × l1Cur)}(ih_sl4Free:∀ {a1:Int} {o0:l1Cur} {r:(Expr × l1Cur)},rec_sl4Free a1 o0=some r→Ok Tryz.prog 122 [.pb 0 0,dI a1] [.box [.d .fz (.sl 1 (o0.b.map byD)),dI o0.i,dI o0.h]] (.ag [dI r.1.Kind,dI r.1.N,dI r.1.Pos,dI r.1.Type_,dS r.1.Symbol,dS r.1.Name,.ref 1 none]) [.box [.d .fz (.sl 1 (o0.b.map byD)),dI r.2.i,dI r.2.h],.row .fz 7 (r.1.Args.map Expr.D)]){a1:Int}{o0:l1Cur}{r:(Expr × l1Cur)}(hr:q8t rec_sl4Free a1 o0=some r):Ok Tryz.prog 122 [.pb 0 0,dI a1] [.box [.d .fz (.sl 1 (o0.b.map byD)),dI o0.i,dI o0.h]] (.ag [dI r.1.Kind,dI r.1.N,dI r.1.Pos,dI r.1.Type_,dS r.1.Symbol,dS r.1.Name,.ref 1 none]) [.box [.d .fz (.sl 1 (o0.b.map byD)),dI r.2.i,dI r.2.h],.row .fz 7 (r.1.Args.map Expr.D)]:=by
 refine OE Tryz.func122 fun S hS=>?_
 unfold q8t at hr
 refine J g<|J (NV' 1)<|J (gn 6)<|ifE hr ?_ ?_<;>intro h1 hr
 refine bdP hr fun y1 z1 hq1 hr=>J g<|J (CB' [(0,0)] [] (q5B hq1))<|J (gn 1)<|ifE hr ?_ ?_<;>intro h2 hr
 refine J (gn 7) ?_
 refine J (q0c (q0j (q:=1) (c:=6) (r:=2) .fz 7 rfl rfl rfl))<|J g<|E
 refine bdP hr fun y2 z2 hq2 hr=>J g<|J (CB' [(0,0)] [] (q5B hq2))<|J (gn 1)<|ifE hr ?_ ?_<;>intro h3 hr
 refine bdP hr fun y3 z3 hq3 hr=>J g<|J (CB' [(0,0)] [] (q3J hq3))<|J (gn 4) ?_
 refine J (q0c (q0j (q:=1) (c:=6) (r:=2) .fz 7 rfl rfl rfl))<|J g<|E
 refine bdP hr fun y4 z4 hq4 hr=>J g<|J (CB' [(0,0)] [] (q3J hq4))<|ggE hr fun g1 hr=>bdP hr fun y5 z5 hq5 hr=>J g<|J (CB' [(0,0)] [] (q3J hq5))<|bdP hr fun y6 z6 hq6 hr=>J g<|J (CB' [(0,0)] [] (z7n hq6))<|J g<|J (LIR' 2 (m:=.fz) (f:=Occurrence.D) (xs:=[(⟨y5,y6⟩:Occurrence)]))<|bdP hr fun y7 z7 hq7 hr=>J (CB' [(0,0),(1,3)] [2] (q9J (m:=.bo) hq7))<|e
 refine bdP hr fun y8 z8 hq8 hr=>J g<|J (CB' [(0,0)] [] (q5B hq8))<|J (gn 2)<|ifE hr ?_ ?_<;>intro h4 hr
 refine bdP hr fun y9 z9 hq9 hr=>J g<|J (CB' [(0,0)] [] (q5B hq9))<|J (gn 1)<|ifE hr ?_ ?_<;>intro h5 hr
 refine J (gn 7) ?_
 refine J (q0c (q0j (q:=1) (c:=6) (r:=2) .fz 7 rfl rfl rfl))<|J g<|E
 refine bdP hr fun y10 z10 hq10 hr=>J g<|J (CB' [(0,0)] [] (q5B hq10))<|J (gn 1)<|ifE hr ?_ ?_<;>intro h6 hr
 refine bdP hr fun y11 z11 hq11 hr=>J g<|J (CB' [(0,0)] [] (q3J hq11))<|J (gn 4) ?_
 refine J (q0c (q0j (q:=1) (c:=6) (r:=2) .fz 7 rfl rfl rfl))<|J g<|E
 refine bdP hr fun y12 z12 hq12 hr=>J g<|J (CB' [(0,0)] [] (q3J hq12))<|ggE hr fun g2 hr=>bdP hr fun y13 z13 hq13 hr=>J g<|J (CB' [(0,0)] [] (q3J hq13))<|bdP hr fun y14 z14 hq14 hr=>J g<|J (CB' [(0,0)] [] (z7n hq14))<|J g<|J (LIR' 2 (m:=.fz) (f:=Occurrence.D) (xs:=[(⟨y13,y14⟩:Occurrence)]))<|bdP hr fun y15 z15 hq15 hr=>J (CB' [(0,0),(1,3)] [2] (q9J (m:=.bo) hq15))<|e
 refine bdP hr fun y16 z16 hq16 hr=>J g<|J (CB' [(0,0)] [] (q3J hq16))<|J (gn 7)<|ifE hr ?_ ?_<;>intro h7 hr
 refine ggE hr fun g3 hr=>bdP hr fun y17 z17 hq17 hr=>J g<|J (CB' [(0,0),(1,2)] [] (ih_sl4Free hq17))<|ggE hr fun g4 hr=>bdP hr fun y18 z18 hq18 hr=>J g<|J (CB' [(0,0),(1,3)] [] (ih_sl4Free hq18))<|ggE hr fun g5 hr=>bdP hr fun y19 z19 hq19 hr=>J g<|J (CB' [(0,0),(1,4)] [] (ih_sl4Free hq19)) ?_
 refine J (q0k 2 rfl) ?_
 refine J (q0k 3 rfl) ?_
 refine J (q0k 4 rfl) ?_
 refine J (j5E 5 (m:=.fz) (f:=Expr.D) [y17,y18,y19] (by simp only [List.map_cons,List.map_nil,Expr.D_eq]; rfl))<|J g<|E
 refine J (gn 6)<|ifE hr ?_ ?_<;>intro h8 hr
 refine J g<|J (LIR' 2 (m:=.fz) (f:=A.D.s) (xs:=[(⟨#[115]⟩:ByteArray),(⟨#[116]⟩:ByteArray)]))<|bdP hr fun y20 z20 hq20 hr=>J (CB' [(0,0)] [2] (q8s (m:=.bo) hq20))<|bdP hr fun y21 z21 hq21 hr=>J g<|J (CB' [(0,0)] [] (z7n hq21))<|ggE hr fun g6 hr=>bdP hr fun y22 z22 hq22 hr=>J g<|J (CB' [(0,0),(1,3)] [] (ih_sl4Free hq22)) ?_
 refine J (q0k 3 rfl) ?_
 refine J (j5E 4 (m:=.fz) (f:=Expr.D) [y22] (by simp only [List.map_cons,List.map_nil,Expr.D_eq]; rfl))<|J g<|E
 refine bdP hr fun y23 z23 hq23 hr=>J g<|J (CB' [(0,0)] [] (q3J hq23))<|ggE hr fun g7 hr=>ggE hr fun g8 hr=>bdP hr fun y24 z24 hq24 hr=>J g<|J (CB' [(0,0),(1,2)] [] (ih_sl4Free hq24))<|ggE hr fun g9 hr=>bdP hr fun y25 z25 hq25 hr=>J g<|J (CB' [(0,0),(1,3)] [] (ih_sl4Free hq25)) ?_
 refine J (q0k 2 rfl) ?_
 refine J (q0k 3 rfl)<|bdE hr fun y26 hy26 hr=>J (CB' [(0,4)] [] (z4g (m:=.fz) hy26))<|J g<|E
def q7l:Nat→Int→l1Cur→Option (Expr × l1Cur)
  | 0,_,_=>none
  | n+1,a1,o0=>q8t (q7l n) a1 o0
def z8u (a1:Int)(o0:l1Cur):Option (Expr × l1Cur):=recO fun n=>q7l n a1 o0
theorem j7k (n:Nat):∀ {a1:Int} {o0:l1Cur} {r:(Expr × l1Cur)},q7l n a1 o0=some r→Ok Tryz.prog 122 [.pb 0 0,dI a1] [.box [.d .fz (.sl 1 (o0.b.map byD)),dI o0.i,dI o0.h]] (.ag [dI r.1.Kind,dI r.1.N,dI r.1.Pos,dI r.1.Type_,dS r.1.Symbol,dS r.1.Name,.ref 1 none]) [.box [.d .fz (.sl 1 (o0.b.map byD)),dI r.2.i,dI r.2.h],.row .fz 7 (r.1.Args.map Expr.D)]:=by
  induction n with
  | zero=>intro _ _ r hr; exact nomatch (show (none:Option (Expr × l1Cur))=some r from hr)
  | succ n ih=>intro _ _ r hr; exact j7j ih hr
theorem j3j {a1:Int}{o0:l1Cur}{r:(Expr × l1Cur)}(hr:z8u a1 o0=some r):Ok Tryz.prog 122 [.pb 0 0,dI a1] [.box [.d .fz (.sl 1 (o0.b.map byD)),dI o0.i,dI o0.h]] (.ag [dI r.1.Kind,dI r.1.N,dI r.1.Pos,dI r.1.Type_,dS r.1.Symbol,dS r.1.Name,.ref 1 none]) [.box [.d .fz (.sl 1 (o0.b.map byD)),dI r.2.i,dI r.2.h],.row .fz 7 (r.1.Args.map Expr.D)]:=by
 obtain⟨n,hn⟩:=q6D hr
 exact j7k n hn
def q9y (rec_sl9Within:Expr→Int→Option Bool)(a1:Int):Nat→Expr→Unit→Option (Unit ⊕ Bool):=fun k1 xk1 _=>
 (rec_sl9Within xk1 a1).bind fun y1=>
 if y1=true then (
 some (.inl ())
 ) else (
 some (.inr false)
 )
def q9z (rec_sl9Within:Expr→Int→Option Bool)(a0:Expr)(a1:Int):Option Bool:=
 (findL (q9y rec_sl9Within a1) 0 a0.Args ()).bind <| onr (fun r1=>some r1) fun _=>
 some (decide (a0.Pos≤a1))
theorem j4b {rec_sl9Within:Expr→Int→Option Bool}(ih_sl9Within:∀ {m:Md} {a0:Expr} {a1:Int} {r:Bool},rec_sl9Within a0 a1=some r→Ok Tryz.prog 192 [Expr.x m a0,dI a1] [] (dB r) []){m:Md}{a0:Expr}{a1:Int}{r:Bool}(hr:q9z rec_sl9Within a0 a1=some r):Ok Tryz.prog 192 [Expr.x m a0,dI a1] [] (dB r) []:=by
 refine OE Tryz.func192 fun S hS=>?_
 unfold q9z at hr
 refine J g<|J (BX' 0)<|J (gn 8)<|J (lenA 6 0)<|fun hl1=>bdE hr fun q1 hqq1 hr=>q0b hqq1 hl1 1 (fun k1 _=>[(1,dI a1),(2,.pb 0 0),(5,dI (k1:Int))]) (fun k1 _=>[]) I (fun k1 xk1 sk1 ok1 hxk1 hr hltk1 hik1=>?_) fun k1 sk1 ek1 hltk1=>?_
 refine bdE hr fun y1 hy1 hr=>J g<|J (CB' [] [] (ih_sl9Within (m:=m) hy1))<|J (gn 2)<|ifE hr ?_ ?_<;>intro h1 hr
 exact e
 exact e
 subst ek1
 exact e
def q7G:Nat→Expr→Int→Option Bool
  | 0,_,_=>none
  | n+1,a0,a1=>q9z (q7G n) a0 a1
def z5z (a0:Expr)(a1:Int):Option Bool:=recO fun n=>q7G n a0 a1
theorem j4c (n:Nat):∀ {m:Md} {a0:Expr} {a1:Int} {r:Bool},q7G n a0 a1=some r→Ok Tryz.prog 192 [Expr.x m a0,dI a1] [] (dB r) []:=by
  induction n with
  | zero=>intro _ _ _ r hr; exact nomatch (show (none:Option Bool)=some r from hr)
  | succ n ih=>intro _ _ _ r hr; exact j4b ih hr
theorem j5O {m:Md}{a0:Expr}{a1:Int}{r:Bool}(hr:z5z a0 a1=some r):Ok Tryz.prog 192 [Expr.x m a0,dI a1] [] (dB r) []:=by
 obtain⟨n,hn⟩:=q6D hr
 exact j4c n hn
end Go.Proofs.YtpnkinhphabkcaaGreat
