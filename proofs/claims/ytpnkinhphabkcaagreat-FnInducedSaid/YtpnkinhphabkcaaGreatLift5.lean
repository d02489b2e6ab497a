/- What some functions of the program compute, as partial functions on plain data, and that they do; each lemma bears its conditions in its statement. -/
import Derived.Test.YtpnkinhphabkcaaGreatLift4
set_option linter.unusedVariables false
set_option linter.unusedSimpArgs false
set_option linter.ambiguousOpen false
set_option linter.unusedSectionVars false
set_option linter.unnecessarySimpa false
set_option maxRecDepth 100000
set_option maxHeartbeats 40000000
noncomputable section
namespace Go.Proofs.YtpnkinhphabkcaaGreat
open Go Go.E Go.A
def z8w (a1:Rule)(y1:(List Occurrence)):Nat→Equation→Unit→Option (Unit ⊕ Bool):=fun k1 xk1 _=>
 (q5v y1 xk1.At).bind fun y2=>
 if y2=true then (
 grd (k1≤a1.Equations.length) <|
 (q4O (a1.Equations.take k1) xk1).bind fun y3=>
 if y3=true then (
 some (.inr true)
 ) else (
 some (.inl ())
 )
 ) else (
 some (.inr true)
 )
def z8x (a0:Grammar)(a1:Rule):Option Bool:=
 (z1J a0 a1).bind fun y1=>
 (findL (z8w a1 y1) 0 a1.Equations ()).bind <| onr (fun r1=>some r1) fun _=>
 some false
theorem k1a {m:Md}{a0:Grammar}{a1:Rule}{r:Bool}(hr:z8x a0 a1=some r):Ok Tryz.prog 163 [Grammar.y m a0,Rule.x m a1] [] (dB r) []:=by
 refine OE Tryz.func163 fun S hS=>?_
 unfold z8x at hr
 refine J g<|J (BX' 0)<|J (BX' 1)<|bdE hr fun y1 hy1 hr=>J g<|J (CB' [(0,2)] [] (z9N (m:=m) hy1))<|J (gn 11)<|J (lenA 4 1)<|fun hl1=>bdE hr fun q1 hqq1 hr=>q0b hqq1 hl1 3 (fun k1 _=>[(3,.pb 1 0),(5,.ref 2 none),(12,.d m (.sl 9 (a1.Equations.map Equation.D))),(13,dI (a1.Equations.length:Int)),(14,dI (k1:Int))]) (fun k1 _=>[]) I (fun k1 xk1 sk1 ok1 hxk1 hr hltk1 hik1=>?_) fun k1 sk1 ek1 hltk1=>?_
 refine J g<|J (NV' 3)<|bdE hr fun y2 hy2 hr=>J g<|J (CB' [] [2] (z2P (m:=.bo) hy2))<|J (gn 1)<|ifE hr ?_ ?_<;>intro h1 hr
 refine ggE hr fun g1 hr=>J g<|J (SLH' (Int.natCast_nonneg _) g1)<|bdE hr fun y3 hy3 hr=>J g<|J (CB' [(0,3)] [] (q9u (m:=m) (m2:=m) hy3))<|J (gn 2)<|ifE hr ?_ ?_<;>intro h2 hr
 exact e
 exact e
 exact e
 subst ek1
 exact e
def z1f:Nat→Equation→((List Expr))→Option ((List Expr)):=fun k1 xk1 s1=>
 grd (((s1.length:Int)+1)*88≤140737488355328∧(s1.length:Int)+1≤9223372036854775807) <|
 some (s1++[xk1.Expr])
def z1g:Nat→Contribution→((List Expr))→Option ((List Expr)):=fun k2 xk2 s2=>
 grd (((s2.length:Int)+([xk2.Target,xk2.Value].length:Int))*88≤140737488355328∧(s2.length:Int)+([xk2.Target,xk2.Value].length:Int)≤9223372036854775807) <|
 some (s2++[xk2.Target,xk2.Value])
def q9e (a0:Rule):Option (List Expr):=
 (eachL z1f 0 a0.Equations ([]:List Expr)).bind fun s1=>
 (eachL z1g 0 a0.Contributions s1).bind fun s2=>
 some s2
theorem z6H {m:Md}{a0:Rule}{r:(List Expr)}(hr:q9e a0=some r):Ok Tryz.prog 95 [Rule.x m a0] [] (.ref 0 none) [.row m 7 (r.map Expr.D)]:=by
 refine OE Tryz.func95 fun S hS=>?_
 unfold q9e at hr
 refine J g<|J (BX' 0)<|J g<|J (L0' 1 Expr.D)<|J (gn 11)<|J (lenA 4 0)<|fun hl1=>bdE hr fun s1 hqq1 hr=>?_
 refine q0d hqq1 hl1 2 (fun k1 s1=>[(1,.pb 0 0),(3,.ref 1 none),(10,.d m (.sl 9 (a0.Equations.map Equation.D))),(11,dI (a0.Equations.length:Int)),(12,dI (k1:Int))]) (fun k1 s1=>[(1,.row m 7 (s1.map Expr.D))]) (GH.trans (q2c (r:=1) m rfl) I) (fun k1 xk1 sk1 ok1 hxk1 hr hltk1=>?_) fun k1 hltk1=>?_
 obtain⟨s1,rfl⟩:∃ y,y=sk1:=⟨_,rfl⟩
 refine J g<|J (NV' 2)<|J g ?_
 refine J (k3e 3 (m:=m) (f:=Expr.D) [xk1.Expr] (by simp only [List.map_cons,List.map_nil,Expr.D_eq]; rfl))<|ggE hr fun g1 hr=>J (AP1' 4 m 88 g1)<|J g<|E
 refine J (gn 16)<|J (lenT 23)<|fun hl2=>bdE hr fun s2 hqq2 hr=>q0d hqq2 hl2 2 (fun k2 s2=>[(3,.ref 1 none),(23,.d m (.sl 16 (a0.Contributions.map Contribution.D))),(24,dI (a0.Contributions.length:Int)),(25,dI (k2:Int))]) (fun k2 s2=>[(1,.row m 7 (s2.map Expr.D))]) I (fun k2 xk2 sk2 ok2 hxk2 hr hltk2=>?_) fun k2 hltk2=>?_
 obtain⟨s2,rfl⟩:∃ y,y=sk2:=⟨_,rfl⟩
 refine J g<|J (NV' 2)<|J g ?_
 refine J (k3e 3 (m:=m) (f:=Expr.D) [xk2.Target,xk2.Value] (by simp only [List.map_cons,List.map_nil,Expr.D_eq]; rfl))<|ggE hr fun g2 hr=>J (APB' 4 m 88 g2)<|J g<|E
 exact e
def q8d (a0:Expr)(o0:(List Occurrence)):Option (Bool × (List Occurrence)):=
 if a0.Kind=3 then (
 grd (((o0.length:Int)+1)*24≤140737488355328∧(o0.length:Int)+1≤9223372036854775807) <|
 some (true,(o0++[(⟨a0.Pos,a0.Name⟩:Occurrence)]))
 ) else (
 some (true,o0)
 )
theorem z7N {m:Md}{a0:Expr}{o0:(List Occurrence)}{r:(Bool × (List Occurrence))}(hr:q8d a0 o0=some r):Ok Tryz.prog 102 [Expr.x m a0,.pb 0 0] [.box [.ref 1 none],.row .fz 2 (o0.map Occurrence.D)] (dB r.1) [.box [.ref 2 none],.dead,.row .fz 2 (r.2.map Occurrence.D)]:=by
 refine OE Tryz.func102 fun S hS=>?_
 unfold q8d at hr
 refine J g<|J (BX' 2)<|J (gn 9)<|ifE hr ?_ ?_<;>intro h1 hr
 refine J g<|J (LIR' 3 (m:=.fz) (f:=Occurrence.D) (xs:=[(⟨a0.Pos,a0.Name⟩:Occurrence)]))<|ggE hr fun g1 hr=>J (q9Z (f:=Occurrence.D) 4 (fun _=>rfl) 24 g1)<|e
 refine J (gn 7) ?_
 refine J (q0c (q1W (i:=1) (j:=3) rfl rfl))<|J g<|E
def q5K (rec_ieveryNode_iAttributeUses_1:Expr→(List Occurrence)→Option (Bool × (List Occurrence)))(a0:Expr)(o0:(List Occurrence)):Option (Bool × (List Occurrence)):=
 (rec_ieveryNode_iAttributeUses_1 a0 o0).bind fun (y1,z1)=>
 some (!y1,z1)
theorem z1E {rec_ieveryNode_iAttributeUses_1:Expr→(List Occurrence)→Option (Bool × (List Occurrence))}(ih_ieveryNode_iAttributeUses_1:∀ {m:Md} {a0:Expr} {o0:(List Occurrence)} {r:(Bool × (List Occurrence))},rec_ieveryNode_iAttributeUses_1 a0 o0=some r→Ok Tryz.prog 101 [Expr.x m a0,.fn 102 [.pb 0 0]] [.box [.ref 1 none],.row .fz 2 (o0.map Occurrence.D)] (dB r.1) [.box [.ref 2 none],.dead,.row .fz 2 (r.2.map Occurrence.D)]){m:Md}{a0:Expr}{o0:(List Occurrence)}{r:(Bool × (List Occurrence))}(hr:q5K rec_ieveryNode_iAttributeUses_1 a0 o0=some r):Ok Tryz.prog 137 [Expr.x m a0,.pb 1 0] [.box [.ref 2 none],.box [.fn 102 [.pb 0 0]],.row .fz 2 (o0.map Occurrence.D)] (dB r.1) [.box [.ref 3 none],.box [.fn 102 [.pb 0 0]],.dead,.row .fz 2 (r.2.map Occurrence.D)]:=by
 refine OE Tryz.func137 fun S hS=>?_
 unfold q5K at hr
 refine J g<|J (BX' 3)<|bdP hr fun y1 z1 hq1 hr=>J g<|J (CB' [(0,0),(1,2),(2,4)] [] (ih_ieveryNode_iAttributeUses_1 (m:=m) hq1))<|e
def q4q (rec_ieveryNode_iAttributeUses_1:Expr→(List Occurrence)→Option (Bool × (List Occurrence))):Nat→Expr→((List Occurrence))→Option (((List Occurrence)) ⊕ (Int × (List Occurrence))):=fun k1 xk1 s1=>
 (q5K rec_ieveryNode_iAttributeUses_1 xk1 s1).bind fun (y1,z1)=>
 if y1=true then (
 some (.inr ((k1:Int),z1))
 ) else (
 some (.inl z1)
 )
def q3Q (rec_ieveryNode_iAttributeUses_1:Expr→(List Occurrence)→Option (Bool × (List Occurrence)))(a0:(List Expr))(o0:(List Occurrence)):Option (Int × (List Occurrence)):=
 (findL (q4q rec_ieveryNode_iAttributeUses_1) 0 a0 o0).bind <| onr (fun r1=>some r1) fun s1=>
 some ((-1),s1)
theorem q7p {rec_ieveryNode_iAttributeUses_1:Expr→(List Occurrence)→Option (Bool × (List Occurrence))}(ih_ieveryNode_iAttributeUses_1:∀ {m:Md} {a0:Expr} {o0:(List Occurrence)} {r:(Bool × (List Occurrence))},rec_ieveryNode_iAttributeUses_1 a0 o0=some r→Ok Tryz.prog 101 [Expr.x m a0,.fn 102 [.pb 0 0]] [.box [.ref 1 none],.row .fz 2 (o0.map Occurrence.D)] (dB r.1) [.box [.ref 2 none],.dead,.row .fz 2 (r.2.map Occurrence.D)]){m:Md}{a0:(List Expr)}{o0:(List Occurrence)}{r:(Int × (List Occurrence))}(hr:q3Q rec_ieveryNode_iAttributeUses_1 a0 o0=some r):Ok Tryz.prog 134 [.d m (.sl 7 (a0.map Expr.D)),.fn 137 [.pb 1 0]] [.box [.ref 2 none],.box [.fn 102 [.pb 0 0]],.row .fz 2 (o0.map Occurrence.D)] (dI r.1) [.box [.ref 3 none],.box [.fn 102 [.pb 0 0]],.dead,.row .fz 2 (r.2.map Occurrence.D)]:=by
 refine OE Tryz.func134 fun S hS=>?_
 unfold q3Q at hr
 refine J (gn 12) ?_
 refine J (q1t 2 3 rfl)<|J (lenT 0)<|fun hl1=>bdE hr fun q1 hqq1 hr=>q0b hqq1 hl1 4 (fun k1 s1=>[(0,.d m (.sl 7 (a0.map Expr.D))),(1,.fn 137 [.pb 1 0]),(7,dI (a0.length:Int)),(8,dI (k1:Int))]) (fun k1 s1=>[(3,.row .fz 2 (s1.map Occurrence.D))]) I (fun k1 xk1 sk1 ok1 hxk1 hr hltk1 hik1=>?_) fun k1 sk1 ek1 hltk1=>?_
 obtain⟨s1,rfl⟩:∃ y,y=sk1:=⟨_,rfl⟩
 refine bdP hr fun y1 z1 hq2 hr=>J g<|J (CB' [(0,0),(1,1),(2,3),(3,4)] [] (z1E ih_ieveryNode_iAttributeUses_1 (m:=m) hq2))<|J (gn 1)<|ifE hr ?_ ?_<;>intro h1 hr
 exact e
 exact e
 subst ek1
 obtain⟨s1,rfl⟩:∃ y,y=sk1:=⟨_,rfl⟩
 exact e
def q3N (rec_ieveryNode_iAttributeUses_1:Expr→(List Occurrence)→Option (Bool × (List Occurrence)))(a0:(List Expr))(o0:(List Occurrence)):Option (Bool × (List Occurrence)):=
 (q3Q rec_ieveryNode_iAttributeUses_1 a0 o0).bind fun (y1,z1)=>
 some (decide (0≤y1),z1)
theorem q6T {rec_ieveryNode_iAttributeUses_1:Expr→(List Occurrence)→Option (Bool × (List Occurrence))}(ih_ieveryNode_iAttributeUses_1:∀ {m:Md} {a0:Expr} {o0:(List Occurrence)} {r:(Bool × (List Occurrence))},rec_ieveryNode_iAttributeUses_1 a0 o0=some r→Ok Tryz.prog 101 [Expr.x m a0,.fn 102 [.pb 0 0]] [.box [.ref 1 none],.row .fz 2 (o0.map Occurrence.D)] (dB r.1) [.box [.ref 2 none],.dead,.row .fz 2 (r.2.map Occurrence.D)]){m:Md}{a0:(List Expr)}{o0:(List Occurrence)}{r:(Bool × (List Occurrence))}(hr:q3N rec_ieveryNode_iAttributeUses_1 a0 o0=some r):Ok Tryz.prog 94 [.d m (.sl 7 (a0.map Expr.D)),.fn 137 [.pb 1 0]] [.box [.ref 2 none],.box [.fn 102 [.pb 0 0]],.row .fz 2 (o0.map Occurrence.D)] (dB r.1) [.box [.ref 3 none],.box [.fn 102 [.pb 0 0]],.dead,.row .fz 2 (r.2.map Occurrence.D)]:=by
 refine OE Tryz.func94 fun S hS=>?_
 unfold q3N at hr
 refine bdP hr fun y1 z1 hq1 hr=>J g<|J (CB' [(0,0),(1,1),(2,2),(3,3)] [] (q7p ih_ieveryNode_iAttributeUses_1 (m:=m) hq1))<|e
def q5h (rec_ieveryNode_iAttributeUses_1:Expr→(List Occurrence)→Option (Bool × (List Occurrence)))(a0:Expr)(o0:(List Occurrence)):Option (Bool × (List Occurrence)):=
 (q8d a0 o0).bind fun (y1,z1)=>
 if y1=true then (
 (q3N rec_ieveryNode_iAttributeUses_1 a0.Args z1).bind fun (y2,z2)=>
 some (!y2,z2)
 ) else (
 some (false,z1)
 )
theorem z1K {rec_ieveryNode_iAttributeUses_1:Expr→(List Occurrence)→Option (Bool × (List Occurrence))}(ih_ieveryNode_iAttributeUses_1:∀ {m:Md} {a0:Expr} {o0:(List Occurrence)} {r:(Bool × (List Occurrence))},rec_ieveryNode_iAttributeUses_1 a0 o0=some r→Ok Tryz.prog 101 [Expr.x m a0,.fn 102 [.pb 0 0]] [.box [.ref 1 none],.row .fz 2 (o0.map Occurrence.D)] (dB r.1) [.box [.ref 2 none],.dead,.row .fz 2 (r.2.map Occurrence.D)]){m:Md}{a0:Expr}{o0:(List Occurrence)}{r:(Bool × (List Occurrence))}(hr:q5h rec_ieveryNode_iAttributeUses_1 a0 o0=some r):Ok Tryz.prog 101 [Expr.x m a0,.fn 102 [.pb 0 0]] [.box [.ref 1 none],.row .fz 2 (o0.map Occurrence.D)] (dB r.1) [.box [.ref 2 none],.dead,.row .fz 2 (r.2.map Occurrence.D)]:=by
 refine OE Tryz.func101 fun S hS=>?_
 unfold q5h at hr
 refine J g<|J (BX' 2)<|J (BX' 3)<|bdP hr fun y1 z1 hq1 hr=>J g<|J (CB' [(0,0),(1,1),(2,4)] [] (z7N (m:=m) hq1))<|ifE hr ?_ ?_<;>intro h1 hr
 refine bdP hr fun y2 z2 hq2 hr=>J g<|J (CB' [(0,0),(1,3),(2,4),(3,5)] [] (q6T ih_ieveryNode_iAttributeUses_1 (m:=m) hq2))<|e
 exact e
def q4M:Nat→Expr→(List Occurrence)→Option (Bool × (List Occurrence))
  | 0,_,_=>none
  | n+1,a0,o0=>q5h (q4M n) a0 o0
def q7e (a0:Expr)(o0:(List Occurrence)):Option (Bool × (List Occurrence)):=recO fun n=>q4M n a0 o0
theorem z1L (n:Nat):∀ {m:Md} {a0:Expr} {o0:(List Occurrence)} {r:(Bool × (List Occurrence))},q4M n a0 o0=some r→Ok Tryz.prog 101 [Expr.x m a0,.fn 102 [.pb 0 0]] [.box [.ref 1 none],.row .fz 2 (o0.map Occurrence.D)] (dB r.1) [.box [.ref 2 none],.dead,.row .fz 2 (r.2.map Occurrence.D)]:=by
  induction n with
  | zero=>intro _ _ _ r hr; exact nomatch (show (none:Option (Bool × (List Occurrence)))=some r from hr)
  | succ n ih=>intro _ _ _ r hr; exact z1K ih hr
theorem z2z {m:Md}{a0:Expr}{o0:(List Occurrence)}{r:(Bool × (List Occurrence))}(hr:q7e a0 o0=some r):Ok Tryz.prog 101 [Expr.x m a0,.fn 102 [.pb 0 0]] [.box [.ref 1 none],.row .fz 2 (o0.map Occurrence.D)] (dB r.1) [.box [.ref 2 none],.dead,.row .fz 2 (r.2.map Occurrence.D)]:=by
 obtain⟨n,hn⟩:=q6D hr
 exact z1L n hn
def q6m (a0:(List Occurrence)):Option (List Occurrence):=
 grd (a0.length < 4611686018427387904) <|
 some (j5D a0)
theorem z2Q {a0:(List Occurrence)}{r:(List Occurrence)}(hr:q6m a0=some r):Ok Tryz.prog 103 [.ref 0 none,.fn 104 []] [.row .fz 2 (a0.map Occurrence.D)] (.tu []) [.row .fz 2 (r.map Occurrence.D)]:=by
 unfold q6m at hr
 refine ggE hr fun g1 hr=>?_
 cases hr
 exact k3d g1
def q4b (s1:Int):((List Occurrence) × Int × Int)→Option (((List Occurrence) × Int × Int) ⊕ ((List Occurrence) × Int)):=fun (s4,s5,s6)=>
 if s6 < ((s4.drop s1.toNat).length:Int) then (
 (
 grd (0≤s6) <|
 (s4[(s1.toNat+s6.toNat)]?).bind fun x3=>
 grd (I64 (s6 - 1)) <|
 grd (0≤(s6 - 1)) <|
 (s4[(s1.toNat+((s6 - 1).toNat))]?).bind fun x4=>
 if x3=x4 then (
 some (s5,s4)
 ) else (
 grd (0≤s6) <|
 grd (0≤s5) <|
 (s4[s5.toNat]?).bind fun x5=>
 grd (I64 (s5+1)) <|
 some ((s5+1),(List.set s4 s5.toNat x3))
 )
 ).bind fun (s7,s8)=>
 grd (I64 (s6+1)) <|
 some (.inl (s8,s7,(s6+1)))
 ) else (
 some (.inr (s4,s5))
 )
def q4c (a0:(List Occurrence)):Int→Option (Int ⊕ (Unit ⊕ (List Occurrence))):=fun s1=>
 if s1 < (a0.length:Int) then (
 grd (0≤s1) <|
 (a0[s1.toNat]?).bind fun x1=>
 grd (I64 (s1 - 1)) <|
 grd (0≤(s1 - 1)) <|
 (a0[(s1 - 1).toNat]?).bind fun x2=>
 if x1=x2 then (
 grd (0≤s1) <|
 grd (s1.toNat≤a0.length) <|
 (q4L (q4b s1) (a0,s1,1)).bind fun (s2,s3)=>
 grd (0≤s3) <|
 grd (s3.toNat≤s2.length) <|
 grd (0≤s3) <|
 grd (s3.toNat≤(s2.take s3.toNat++List.replicate (s2.length - s3.toNat) (⟨(0:Int),(⟨#[]⟩:ByteArray)⟩:Occurrence)).length) <|
 some (.inr (.inr ((s2.take s3.toNat++List.replicate (s2.length - s3.toNat) (⟨(0:Int),(⟨#[]⟩:ByteArray)⟩:Occurrence)).take s3.toNat)))
 ) else (
 grd (I64 (s1+1)) <|
 some (.inl (s1+1))
 )
 ) else (
 some (.inr (.inl ()))
 )
def q5F (a0:(List Occurrence)):Option (List Occurrence):=
 if (a0.length:Int) < 2 then (
 some a0
 ) else (
 (q4L (q4c a0) 1).bind <| onr (fun r1=>some r1) fun ()=>
 some a0
 )
theorem z3c {a0:(List Occurrence)}{r:(List Occurrence)}(hr:q5F a0=some r):Ok Tryz.prog 105 [.ref 0 none] [.row .fz 2 (a0.map Occurrence.D)] (.ref 1 none) [.dead,.row .fz 2 (r.map Occurrence.D)]:=by
 refine OE Tryz.func105 fun S hS=>?_
 unfold q5F at hr
 refine J (gn 11)<|ifE hr ?_ ?_<;>intro h1 hr
 refine J (gn 7) ?_
 refine J (q0c (q1W (i:=0) (j:=1) rfl rfl))<|J g<|E
 refine bdE hr fun q1 hqq1 hr=>J (gn 7)<|AW.cut 1 (fun _=>[(0,.ref 0 none)]) (fun _=>[]) (M:=fun x=>q1 = .inl x) ?_ fun x hx=>?_
 refine J g<|q0h hqq1 1 (fun s1=>[(0,.ref 0 none),(3,dI s1)]) (fun s1=>[]) I fun sk1 ok1 hr hik1=>?_
 obtain⟨s1,rfl⟩:∃ y,y=sk1:=⟨_,rfl⟩
 have hr:=hr
 refine J (gn 8)<|ifE hr ?_ ?_<;>intro h2 hr
 refine ggE hr fun g1 hr=>bdE hr fun x1 hx1 hr=>ggE hr fun g2 hr=>ggE hr fun g3 hr=>bdE hr fun x2 hx2 hr=>J g ?_
 refine J (SQ' rfl rfl rfl rfl (q6o x1 x2))<|J (gn 1)<|ifE hr ?_ ?_<;>intro h3 hr
 refine ggE hr fun g4 hr=>ggE hr fun g5 hr=>J g<|J (SVL' g4 g5)<|bdP hr fun s2 s3 hqq2 hr=>J (gn 7)<|q0e 1 [(0,.ref 0 none),(3,dI s3)] [(0,.row .fz 2 (s2.map Occurrence.D))] ?_ ?_
 refine J g ?_
 refine q0h hqq2 1 (fun (s4,s5,s6)=>[(0,.ref 0 none),(3,dI s5),(4,.vs 0 none s1.toNat (s4.length - s1.toNat)),(5,dI s6)]) (fun (s4,s5,s6)=>[(0,.row .fz 2 (s4.map Occurrence.D))]) (GH.ren hS [(0,0)] 1 ⟨.rfl,.rfl,(.vn (by first | rfl | simp only [List.length_set])),.rfl,trivial⟩) fun sk2 ok2 hr hik2=>?_
 obtain⟨s4,s5,s6⟩:=sk2
 have hr:=hr
 refine J g<|J (LV' (s4.drop s1.toNat).length)<|J (gn 2)<|ifE hr ?_ ?_<;>intro h4 hr
 refine bdP hr fun s7 s8 hqq3 hr=>J (gn 3)<|q0e 1 [(0,.ref 0 none),(3,dI s7),(4,.vs 0 none s1.toNat (s8.length - s1.toNat)),(5,dI s6)] [(0,.row .fz 2 (s8.map Occurrence.D))] ?_ ?_
 replace hr:=hqq3
 refine ggE hr fun g6 hr=>bdE hr fun x3 hx3 hr=>J g<|J (IV' hx3 g6 (z9g hx3))<|ggE hr fun g7 hr=>ggE hr fun g8 hr=>bdE hr fun x4 hx4 hr=>J g<|J (IV' hx4 g8 (z9g hx4))<|J g ?_
 refine J (SQn' rfl rfl rfl rfl (q6o x3 x4))<|J (gn 1)<|ifE hr ?_ ?_<;>intro h5 hr
 refine J (gn 2) ?_
 cases hr
 exact GH.ren hS [(0,0)] 1 ⟨.rfl,.rfl,(.vn (by first | rfl | simp only [List.length_set])),.rfl,trivial⟩
 refine ggE hr fun g9 hr=>J g<|J (IV' hx3 g9 (z9g hx3))<|ggE hr fun g10 hr=>bdE hr fun x5 hx5 hr=>J g<|J (SE' x3 hx5)<|ggE hr fun g11 hr=>J (gn 6) ?_
 cases hr
 exact GH.ren hS [(0,0)] 1 ⟨.rfl,.rfl,(.vn (by first | rfl | simp only [List.length_set])),.rfl,trivial⟩
 refine ggE hr fun g12 hr=>J (gn 5) ?_
 cases hr
 exact⟨_,rfl,GH.ren hS [(0,0)] 1 ⟨.rfl,.rfl,(.vn (by first | rfl | simp only [List.length_set])),.rfl,trivial⟩⟩
 refine J (gn 2) ?_
 cases hr
 cases hik2 _ rfl
 exact q0g hS 1
 refine ggE hr fun g13 hr=>ggE hr fun g14 hr=>J g<|J (SVL' g13 g14)<|J (CLR' (⟨(0:Int),(⟨#[]⟩:ByteArray)⟩:Occurrence) g14)<|ggE hr fun g15 hr=>ggE hr fun g16 hr=>J g<|J (CU' 1 g15 g16)<|e
 refine ggE hr fun g17 hr=>e
 refine J (gn 2) ?_
 cases hr
 cases hik1 _ rfl
 exact⟨_,rfl,q0g hS 1⟩
 subst hx
 refine J (gn 6) ?_
 refine J (q0c (q1W (i:=0) (j:=1) rfl rfl))<|J g<|E
def q7Z (a0:Expr):Option (List Occurrence):=
 (q7e a0 []).bind fun (y1,z1)=>
 (q6m z1).bind fun z2=>
 (q5F z2).bind fun y2=>
 some y2
theorem z4T {m:Md}{a0:Expr}{r:(List Occurrence)}(hr:q7Z a0=some r):Ok Tryz.prog 56 [Expr.x m a0] [] (.ref 0 none) [.row .fz 2 (r.map Occurrence.D)]:=by
 refine OE Tryz.func56 fun S hS=>?_
 unfold q7Z at hr
 refine J g<|J (BX' 0)<|J g<|J (L0' 1 Occurrence.D)<|J (NV' 2)<|bdP hr fun y1 z1 hq1 hr=>J g<|J (CB' [(0,2),(1,1),(2,3)] [] (z2z (m:=m) hq1))<|bdE hr fun z2 hz2 hr=>J g<|J (CB' [(0,3)] [] (z2Q hz2))<|bdE hr fun y2 hy2 hr=>J g<|J (CB' [(0,3),(1,4)] [] (z3c hy2))<|e
def z1M (a1:ByteArray):Nat→Attribute→Unit→Option (Unit ⊕ (Attribute × Bool)):=fun k1 xk1 _=>
 if xk1.Name=a1 then (
 some (.inr (xk1,true))
 ) else (
 some (.inl ())
 )
def q7f (a0:Symbol)(a1:ByteArray):Option (Attribute × Bool):=
 (findL (z1M a1) 0 a0.Attributes ()).bind <| onr (fun r1=>some r1) fun _=>
 some ((⟨(⟨#[]⟩:ByteArray),0,0,false⟩:Attribute),false)
theorem z1N {m:Md}{a0:Symbol}{a1:ByteArray}{r:(Attribute × Bool)}(hr:q7f a0 a1=some r):Ok Tryz.prog 167 [Symbol.x m a0,dS a1] [] (.tu [Attribute.x .fz r.1,dB r.2]) []:=by
 refine OE Tryz.func167 fun S hS=>?_
 unfold q7f at hr
 refine J g<|J (BX' 0)<|J (NV' 1)<|J (gn 11)<|J (lenA 1 0)<|fun hl1=>bdE hr fun q1 hqq1 hr=>q0b hqq1 hl1 2 (fun k1 _=>[(1,dS a1),(4,.pb 1 0),(9,.d m (.sl 4 (a0.Attributes.map Attribute.D))),(10,dI (a0.Attributes.length:Int)),(11,dI (k1:Int))]) (fun k1 _=>[]) I (fun k1 xk1 sk1 ok1 hxk1 hr hltk1 hik1=>?_) fun k1 sk1 ek1 hltk1=>?_
 refine J g<|J (NV' 2)<|J (gn 9)<|ifE hr ?_ ?_<;>intro h1 hr
 exact e
 exact e
 subst ek1
 exact e
def q8j (a0:Grammar)(a1:Rule)(a2:Occurrence):Option (Attribute × Bool):=
 (q4d a2.Pos 0 (a1.Right.length:Int)).bind fun y1=>
 if y1=true then (
 (q6L a1 a2.Pos).bind fun y2=>
 (q5Y a0 y2).bind fun (y3,y4)=>
 (q7f y3 a2.Name).bind fun (y5,y6)=>
 some (y5,y6)
 ) else (
 some ((⟨(⟨#[]⟩:ByteArray),0,0,false⟩:Attribute),false)
 )
theorem z3G {m:Md}{a0:Grammar}{a1:Rule}{a2:Occurrence}{r:(Attribute × Bool)}(hr:q8j a0 a1 a2=some r):Ok Tryz.prog 165 [Grammar.y m a0,Rule.x m a1,Occurrence.x .fz a2] [] (.tu [Attribute.x .fz r.1,dB r.2]) []:=by
 refine OE Tryz.func165 fun S hS=>?_
 unfold q8j at hr
 refine J g<|J (BX' 0)<|J (BX' 1)<|J (BX' 2)<|J (NV' 3)<|bdE hr fun y1 hy1 hr=>J g<|J (CB' [] [] (q4C hy1))<|J (gn 2)<|ifE hr ?_ ?_<;>intro h1 hr
 refine bdE hr fun y2 hy2 hr=>J g<|J (CB' [] [] (z0N (m:=m) hy2))<|bdP hr fun y3 y4 hq1 hr=>J (CB' [] [] (q9d (m:=m) hq1))<|J g<|J (NV' 4)<|bdP hr fun y5 y6 hq2 hr=>J g<|J (CB' [] [] (z1N (m:=m) hq2))<|e
 exact e
def z6I (a0:Grammar)(a1:Rule)(a2:Occurrence):Option Bool:=
 (q8j a0 a1 a2).bind fun (y1,y2)=>
 if a2.Pos=0 then (
 (
 if y2=true then (
 some (decide (y1.Mode=1))
 ) else (
 some false
 )
 ).bind fun s1=>
 some s1
 ) else (
 (
 if y2=true then (
 some (decide (y1.Mode=2))
 ) else (
 some false
 )
 ).bind fun s2=>
 some s2
 )
theorem j9K {m:Md}{a0:Grammar}{a1:Rule}{a2:Occurrence}{r:Bool}(hr:z6I a0 a1 a2=some r):Ok Tryz.prog 207 [Grammar.y m a0,Rule.x m a1,Occurrence.x .fz a2] [] (dB r) []:=by
 refine OE Tryz.func207 fun S hS=>?_
 unfold z6I at hr
 refine J g<|J (BX' 0)<|J (BX' 1)<|J (BX' 2)<|bdP hr fun y1 y2 hq1 hr=>J g<|J (CB' [] [] (z3G (m:=m) hq1))<|J g<|J (NV' 3)<|J (gn 10)<|ifE hr ?_ ?_<;>intro h1 hr
 refine bdE hr fun s1 hqq2 hr=>J (gn 4)<|q0a 5 [(6,dB false),(24,dB s1)] ?_ ?_
 replace hr:=hqq2
 refine ifE hr ?_ ?_<;>intro h2 hr
 exact e
 exact e
 exact e
 refine bdE hr fun s2 hqq3 hr=>J (gn 5)<|q0a 5 [(6,dB false),(30,dB s2)] ?_ ?_
 replace hr:=hqq3
 refine ifE hr ?_ ?_<;>intro h3 hr
 exact e
 exact e
 exact e
def z2n (a0:Occurrence)(a1:Grammar)(a2:Rule):Option Bool:=
 (z6I a1 a2 a0).bind fun y1=>
 some (!y1)
theorem j1y {m2:Md}{a0:Occurrence}{a1:Grammar}{a2:Rule}{r:Bool}(hr:z2n a0 a1 a2=some r):Ok Tryz.prog 206 [Occurrence.x .fz a0,.pb 0 0,.pb 1 0] [.box [.d m2 (.sl 2 (a1.Symbols.map Symbol.D)),.d m2 (.sl 6 (a1.Rules.map Rule.D))],.box [dS a2.Name,dS a2.Left,.d m2 (.sl 1 (a2.Right.map A.D.s)),dB a2.Literal,.d m2 (.sl 9 (a2.Equations.map Equation.D)),.d m2 (.sl 16 (a2.Contributions.map Contribution.D))]] (dB r) [.box [.d m2 (.sl 2 (a1.Symbols.map Symbol.D)),.d m2 (.sl 6 (a1.Rules.map Rule.D))],.box [dS a2.Name,dS a2.Left,.d m2 (.sl 1 (a2.Right.map A.D.s)),dB a2.Literal,.d m2 (.sl 9 (a2.Equations.map Equation.D)),.d m2 (.sl 16 (a2.Contributions.map Contribution.D))]]:=by
 refine OE Tryz.func206 fun S hS=>?_
 unfold z2n at hr
 refine J g<|J (BX' 2)<|bdE hr fun y1 hy1 hr=>J g<|J (CB' [] [] (j9K (m:=m2) hy1))<|e
def q6t (a1_0:Grammar)(a1_1:Rule):Nat→Occurrence→Unit→Option (Unit ⊕ Int):=fun k1 xk1 _=>
 (z2n xk1 a1_0 a1_1).bind fun y1=>
 if y1=true then (
 some (.inr (k1:Int))
 ) else (
 some (.inl ())
 )
def q4y (a0:(List Occurrence))(a1_0:Grammar)(a1_1:Rule):Option Int:=
 (findL (q6t a1_0 a1_1) 0 a0 ()).bind <| onr (fun r1=>some r1) fun _=>
 some (-1)
theorem q8Q {m2:Md}{a0:(List Occurrence)}{a1_0:Grammar}{a1_1:Rule}{r:Int}(hr:q4y a0 a1_0 a1_1=some r):Ok Tryz.prog 227 [.ref 2 none,.fn 206 [.pb 0 0,.pb 1 0]] [.box [.d m2 (.sl 2 (a1_0.Symbols.map Symbol.D)),.d m2 (.sl 6 (a1_0.Rules.map Rule.D))],.box [dS a1_1.Name,dS a1_1.Left,.d m2 (.sl 1 (a1_1.Right.map A.D.s)),dB a1_1.Literal,.d m2 (.sl 9 (a1_1.Equations.map Equation.D)),.d m2 (.sl 16 (a1_1.Contributions.map Contribution.D))],.row .fz 2 (a0.map Occurrence.D)] (dI r) [.box [.d m2 (.sl 2 (a1_0.Symbols.map Symbol.D)),.d m2 (.sl 6 (a1_0.Rules.map Rule.D))],.box [dS a1_1.Name,dS a1_1.Left,.d m2 (.sl 1 (a1_1.Right.map A.D.s)),dB a1_1.Literal,.d m2 (.sl 9 (a1_1.Equations.map Equation.D)),.d m2 (.sl 16 (a1_1.Contributions.map Contribution.D))],.row .fz 2 (a0.map Occurrence.D)]:=by
 refine OE Tryz.func227 fun S hS=>?_
 unfold q4y at hr
 refine J (gn 12)<|J (lenR 2)<|fun hl1=>bdE hr fun q1 hqq1 hr=>q0b hqq1 hl1 3 (fun k1 _=>[(0,.ref 2 none),(1,.fn 206 [.pb 0 0,.pb 1 0]),(7,dI (a0.length:Int)),(8,dI (k1:Int))]) (fun k1 _=>[]) I (fun k1 xk1 sk1 ok1 hxk1 hr hltk1 hik1=>?_) fun k1 sk1 ek1 hltk1=>?_
 refine bdE hr fun y1 hy1 hr=>J g<|J (CB' [(0,0),(1,1)] [] (j1y (m2:=m2) hy1))<|J (gn 1)<|ifE hr ?_ ?_<;>intro h1 hr
 exact e
 exact e
 subst ek1
 exact e
def q4i (a0:(List Occurrence))(a1_0:Grammar)(a1_1:Rule):Option Bool:=
 (q4y a0 a1_0 a1_1).bind fun y1=>
 some (decide (0≤y1))
theorem q8o {m2:Md}{a0:(List Occurrence)}{a1_0:Grammar}{a1_1:Rule}{r:Bool}(hr:q4i a0 a1_0 a1_1=some r):Ok Tryz.prog 198 [.ref 2 none,.fn 206 [.pb 0 0,.pb 1 0]] [.box [.d m2 (.sl 2 (a1_0.Symbols.map Symbol.D)),.d m2 (.sl 6 (a1_0.Rules.map Rule.D))],.box [dS a1_1.Name,dS a1_1.Left,.d m2 (.sl 1 (a1_1.Right.map A.D.s)),dB a1_1.Literal,.d m2 (.sl 9 (a1_1.Equations.map Equation.D)),.d m2 (.sl 16 (a1_1.Contributions.map Contribution.D))],.row .fz 2 (a0.map Occurrence.D)] (dB r) [.box [.d m2 (.sl 2 (a1_0.Symbols.map Symbol.D)),.d m2 (.sl 6 (a1_0.Rules.map Rule.D))],.box [dS a1_1.Name,dS a1_1.Left,.d m2 (.sl 1 (a1_1.Right.map A.D.s)),dB a1_1.Literal,.d m2 (.sl 9 (a1_1.Equations.map Equation.D)),.d m2 (.sl 16 (a1_1.Contributions.map Contribution.D))],.row .fz 2 (a0.map Occurrence.D)]:=by
 refine OE Tryz.func198 fun S hS=>?_
 unfold q4i at hr
 refine bdE hr fun y1 hy1 hr=>J g<|J (CB' [(0,0),(1,1),(2,2)] [] (q8Q (m2:=m2) hy1))<|e
def z2A (a0:Expr)(a1:Grammar)(a2:Rule):Option Bool:=
 (q7Z a0).bind fun y1=>
 (q4i y1 a1 a2).bind fun y2=>
 some y2
theorem j4g {m:Md}{m2:Md}{a0:Expr}{a1:Grammar}{a2:Rule}{r:Bool}(hr:z2A a0 a1 a2=some r):Ok Tryz.prog 205 [Expr.x m a0,.pb 0 0,.pb 1 0] [.box [.d m2 (.sl 2 (a1.Symbols.map Symbol.D)),.d m2 (.sl 6 (a1.Rules.map Rule.D))],.box [dS a2.Name,dS a2.Left,.d m2 (.sl 1 (a2.Right.map A.D.s)),dB a2.Literal,.d m2 (.sl 9 (a2.Equations.map Equation.D)),.d m2 (.sl 16 (a2.Contributions.map Contribution.D))]] (dB r) [.box [.d m2 (.sl 2 (a1.Symbols.map Symbol.D)),.d m2 (.sl 6 (a1.Rules.map Rule.D))],.box [dS a2.Name,dS a2.Left,.d m2 (.sl 1 (a2.Right.map A.D.s)),dB a2.Literal,.d m2 (.sl 9 (a2.Equations.map Equation.D)),.d m2 (.sl 16 (a2.Contributions.map Contribution.D))]]:=by
 refine OE Tryz.func205 fun S hS=>?_
 unfold z2A at hr
 refine J g<|J (BX' 2)<|bdE hr fun y1 hy1 hr=>J g<|J (CB' [(0,3)] [] (z4T (m:=m) hy1))<|bdE hr fun y2 hy2 hr=>J g<|J (CB' [(0,0),(1,1),(2,3)] [] (q8o (m2:=m2) hy2))<|e
def q7I (a1_0:Grammar)(a1_1:Rule):Nat→Expr→Unit→Option (Unit ⊕ Int):=fun k1 xk1 _=>
 (z2A xk1 a1_0 a1_1).bind fun y1=>
 if y1=true then (
 some (.inr (k1:Int))
 ) else (
 some (.inl ())
 )
def q5l (a0:(List Expr))(a1_0:Grammar)(a1_1:Rule):Option Int:=
 (findL (q7I a1_0 a1_1) 0 a0 ()).bind <| onr (fun r1=>some r1) fun _=>
 some (-1)
theorem z0B {m2:Md}{a0:(List Expr)}{a1_0:Grammar}{a1_1:Rule}{r:Int}(hr:q5l a0 a1_0 a1_1=some r):Ok Tryz.prog 134 [.ref 2 none,.fn 205 [.pb 0 0,.pb 1 0]] [.box [.d m2 (.sl 2 (a1_0.Symbols.map Symbol.D)),.d m2 (.sl 6 (a1_0.Rules.map Rule.D))],.box [dS a1_1.Name,dS a1_1.Left,.d m2 (.sl 1 (a1_1.Right.map A.D.s)),dB a1_1.Literal,.d m2 (.sl 9 (a1_1.Equations.map Equation.D)),.d m2 (.sl 16 (a1_1.Contributions.map Contribution.D))],.row m2 7 (a0.map Expr.D)] (dI r) [.box [.d m2 (.sl 2 (a1_0.Symbols.map Symbol.D)),.d m2 (.sl 6 (a1_0.Rules.map Rule.D))],.box [dS a1_1.Name,dS a1_1.Left,.d m2 (.sl 1 (a1_1.Right.map A.D.s)),dB a1_1.Literal,.d m2 (.sl 9 (a1_1.Equations.map Equation.D)),.d m2 (.sl 16 (a1_1.Contributions.map Contribution.D))],.row m2 7 (a0.map Expr.D)]:=by
 refine OE Tryz.func134 fun S hS=>?_
 unfold q5l at hr
 refine J (gn 12)<|J (lenR 2)<|fun hl1=>bdE hr fun q1 hqq1 hr=>q0b hqq1 hl1 3 (fun k1 _=>[(0,.ref 2 none),(1,.fn 205 [.pb 0 0,.pb 1 0]),(7,dI (a0.length:Int)),(8,dI (k1:Int))]) (fun k1 _=>[]) I (fun k1 xk1 sk1 ok1 hxk1 hr hltk1 hik1=>?_) fun k1 sk1 ek1 hltk1=>?_
 refine J g<|J (k6X hxk1 (Expr.D_cells xk1))<|bdE hr fun y1 hy1 hr=>J (CB' [(0,0),(1,1)] [] (j4g (m:=m2) (m2:=m2) hy1))<|J (gn 1)<|ifE hr ?_ ?_<;>intro h1 hr
 exact e
 exact e
 subst ek1
 exact e
def q4X (a0:(List Expr))(a1_0:Grammar)(a1_1:Rule):Option Bool:=
 (q5l a0 a1_0 a1_1).bind fun y1=>
 some (decide (0≤y1))
theorem q9M {m2:Md}{a0:(List Expr)}{a1_0:Grammar}{a1_1:Rule}{r:Bool}(hr:q4X a0 a1_0 a1_1=some r):Ok Tryz.prog 94 [.ref 2 none,.fn 205 [.pb 0 0,.pb 1 0]] [.box [.d m2 (.sl 2 (a1_0.Symbols.map Symbol.D)),.d m2 (.sl 6 (a1_0.Rules.map Rule.D))],.box [dS a1_1.Name,dS a1_1.Left,.d m2 (.sl 1 (a1_1.Right.map A.D.s)),dB a1_1.Literal,.d m2 (.sl 9 (a1_1.Equations.map Equation.D)),.d m2 (.sl 16 (a1_1.Contributions.map Contribution.D))],.row m2 7 (a0.map Expr.D)] (dB r) [.box [.d m2 (.sl 2 (a1_0.Symbols.map Symbol.D)),.d m2 (.sl 6 (a1_0.Rules.map Rule.D))],.box [dS a1_1.Name,dS a1_1.Left,.d m2 (.sl 1 (a1_1.Right.map A.D.s)),dB a1_1.Literal,.d m2 (.sl 9 (a1_1.Equations.map Equation.D)),.d m2 (.sl 16 (a1_1.Contributions.map Contribution.D))],.row m2 7 (a0.map Expr.D)]:=by
 refine OE Tryz.func94 fun S hS=>?_
 unfold q4X at hr
 refine bdE hr fun y1 hy1 hr=>J g<|J (CB' [(0,0),(1,1),(2,2)] [] (z0B (m2:=m2) hy1))<|e
def z4U (a0:Grammar)(a1:Rule):Option Bool:=
 (q9e a1).bind fun y1=>
 (q4X y1 a0 a1).bind fun y2=>
 some y2
theorem j7q {m:Md}{a0:Grammar}{a1:Rule}{r:Bool}(hr:z4U a0 a1=some r):Ok Tryz.prog 164 [Grammar.x m a0,Rule.x m a1] [] (dB r) []:=by
 refine OE Tryz.func164 fun S hS=>?_
 unfold z4U at hr
 refine J g<|J (BX' 0)<|J (BX' 1)<|bdE hr fun y1 hy1 hr=>J g<|J (CB' [(0,2)] [] (z6H (m:=m) hy1))<|bdE hr fun y2 hy2 hr=>J g<|J (CB' [(0,0),(1,1),(2,2)] [] (q9M (m2:=m) hy2))<|e
def z2o (a0:Grammar)(s1:Int):Nat→Rule→Unit→Option (Unit ⊕ (Int × Int)):=fun k2 xk2 _=>
 if s1=3 then (
 (z4R a0 xk2).bind fun y5=>
 if y5=true then (
 some (.inr (s1,(k2:Int)))
 ) else (
 some (.inl ())
 )
 ) else (
 if s1=4 then (
 (z4S a0 xk2).bind fun y6=>
 if y6=true then (
 some (.inr (s1,(k2:Int)))
 ) else (
 some (.inl ())
 )
 ) else (
 if s1=5 then (
 (z8x a0 xk2).bind fun y7=>
 if y7=true then (
 some (.inr (s1,(k2:Int)))
 ) else (
 some (.inl ())
 )
 ) else (
 (z4U a0 xk2).bind fun y8=>
 if y8=true then (
 some (.inr (s1,(k2:Int)))
 ) else (
 some (.inl ())
 )
 )
 )
 )
def q6R (a0:Grammar):Int→Option (Int ⊕ (Unit ⊕ (Int × Int))):=fun s1=>
 if s1≤6 then (
 (findL (z2o a0 s1) 0 a0.Rules ()).bind <| onr (fun r1=>some (.inr (.inr r1))) fun _=>
 grd (I64 (s1+1)) <|
 some (.inl (s1+1))
 ) else (
 some (.inr (.inl ()))
 )
def z1h (a0:Grammar):Option (Int × Int):=
 (q4d (a0.Symbols.length:Int) 1 4).bind fun y1=>
 if y1=true then (
 (q4d (a0.Rules.length:Int) 1 8).bind fun y2=>
 if y2=true then (
 (z1d a0).bind fun y3=>
 if 0≤y3 then (
 some (1,y3)
 ) else (
 (a0.Symbols[0]?).bind fun x1=>
 (q4h x1.Attributes).bind fun y4=>
 if y4=true then (
 some (2,0)
 ) else (
 (q4L (q6R a0) 3).bind <| onr (fun r2=>some r2) fun ()=>
 some (0,0)
 )
 )
 ) else (
 some (1,0)
 )
 ) else (
 some (1,0)
 )
theorem j2E {m:Md}{a0:Grammar}{r:(Int × Int)}(hr:z1h a0=some r):Ok Tryz.prog 130 [Grammar.x m a0] [] (.tu [dI r.1,dI r.2]) []:=by
 refine OE Tryz.func130 fun S hS=>?_
 unfold z1h at hr
 refine J g<|J (BX' 0)<|bdE hr fun y1 hy1 hr=>J g<|J (CB' [] [] (q4C hy1))<|J (gn 1)<|ifE hr ?_ ?_<;>intro h1 hr
 refine bdE hr fun y2 hy2 hr=>J g<|J (CB' [] [] (q4C hy2))<|J (gn 3)<|ifE hr ?_ ?_<;>intro h2 hr
 refine bdE hr fun y3 hy3 hr=>J g<|J (CB' [] [] (j2D (m:=m) hy3))<|J (gn 7)<|ifE hr ?_ ?_<;>intro h3 hr
 exact e
 refine bdE hr fun x1 hx1 hr=>bdE hr fun y4 hy4 hr=>J g<|J (CB' [] [] (q8n (m:=m) hy4))<|J (gn 1)<|ifE hr ?_ ?_<;>intro h4 hr
 exact e
 refine bdE hr fun q1 hqq1 hr=>J (gn 7)<|AW.cut 1 (fun _=>[]) (fun _=>[]) (M:=fun x=>q1 = .inl x) ?_ fun x hx=>?_
 refine J g<|q0h hqq1 1 (fun s1=>[(1,.pb 0 0),(5,dI s1)]) (fun s1=>[]) I fun sk1 ok1 hr hik1=>?_
 obtain⟨s1,rfl⟩:∃ y,y=sk1:=⟨_,rfl⟩
 have hr:=hr
 refine J (gn 6)<|ifE hr ?_ ?_<;>intro h5 hr
 refine J (gn 12)<|J (lenT 37)<|fun hl2=>bdE hr fun q2 hqq2 hr=>q0b hqq2 hl2 1 (fun k2 _=>[(1,.pb 0 0),(5,dI s1),(37,.d m (.sl 6 (a0.Rules.map Rule.D))),(38,dI (a0.Rules.length:Int)),(39,dI (k2:Int))]) (fun k2 _=>[]) I (fun k2 xk2 sk2 ok2 hxk2 hr hltk2 hik2=>?_) fun k2 sk2 ek2 hltk2=>?_
 refine J g<|J (NV' 1)<|J (gn 18)<|ifE hr ?_ ?_<;>intro h6 hr
 refine bdE hr fun y5 hy5 hr=>J g<|J (CB' [] [] (j7n (m:=m) hy5))<|J (gn 6)<|ifE hr ?_ ?_<;>intro h7 hr
 exact e
 exact e
 refine J (gn 6)<|ifE hr ?_ ?_<;>intro h8 hr
 refine bdE hr fun y6 hy6 hr=>J g<|J (CB' [] [] (j7o (m:=m) hy6))<|J (gn 6)<|ifE hr ?_ ?_<;>intro h9 hr
 exact e
 exact e
 refine J (gn 6)<|ifE hr ?_ ?_<;>intro h10 hr
 refine bdE hr fun y7 hy7 hr=>J g<|J (CB' [] [] (k1a (m:=m) hy7))<|J (gn 6)<|ifE hr ?_ ?_<;>intro h11 hr
 exact e
 exact e
 refine bdE hr fun y8 hy8 hr=>J g<|J (CB' [] [] (j7q (m:=m) hy8))<|J (gn 6)<|ifE hr ?_ ?_<;>intro h12 hr
 exact e
 exact e
 subst ek2
 refine ggE hr fun g1 hr=>e
 refine J (gn 2) ?_
 cases hr
 cases hik1 _ rfl
 exact⟨_,rfl,q0g hS 1⟩
 subst hx
 exact e
 exact e
 exact e
def q9A (a0:Int):Option (Int × Int × Int):=
 (
 if a0=1 then (
 some (decide (a0=1))
 ) else (
 if a0=2 then (
 some (decide (a0=2))
 ) else (
 if a0=3 then (
 some (decide (a0=3))
 ) else (
 if a0=4 then (
 some (decide (a0=4))
 ) else (
 some (decide (a0=5))
 )
 )
 )
 )
 ).bind fun s1=>
 if s1=true then (
 some (1,1,1)
 ) else (
 (
 if a0=6 then (
 some (decide (a0=6))
 ) else (
 if a0=7 then (
 some (decide (a0=7))
 ) else (
 some (decide (a0=8))
 )
 )
 ).bind fun s2=>
 if s2=true then (
 some (2,2,2)
 ) else (
 if a0=9 then (
 if a0=9 then (
 some (1,1,3)
 ) else (
 if a0=11 then (
 some (2,1,3)
 ) else (
 if a0=12 then (
 some (2,1,2)
 ) else (
 some (0,0,0)
 )
 )
 )
 ) else (
 if a0=10 then (
 some (1,1,3)
 ) else (
 if a0=11 then (
 some (2,1,3)
 ) else (
 if a0=12 then (
 some (2,1,2)
 ) else (
 some (0,0,0)
 )
 )
 )
 )
 )
 )
theorem j0k {a0:Int}{r:(Int × Int × Int)}(hr:q9A a0=some r):Ok Tryz.prog 208 [dI a0] [] (.tu [dI r.1,dI r.2.1,dI r.2.2]) []:=by
 refine OE Tryz.func208 fun S hS=>?_
 unfold q9A at hr
 refine bdE hr fun s1 hqq1 hr=>J (gn 18)<|q0e 0 [(5,dI a0),(6,dB s1)] [] ?_ ?_
 replace hr:=hqq1
 refine ifE hr ?_ ?_<;>intro h1 hr
 exact e
 refine J (gn 6)<|ifE hr ?_ ?_<;>intro h2 hr
 exact e
 refine J (gn 6)<|ifE hr ?_ ?_<;>intro h3 hr
 exact e
 refine J (gn 6)<|ifE hr ?_ ?_<;>intro h4 hr
 exact e
 exact e
 refine ifE hr ?_ ?_<;>intro h5 hr
 exact e
 refine bdE hr fun s2 hqq2 hr=>J (gn 7)<|q0e 0 [(5,dI a0),(12,dB s2)] [] ?_ ?_
 replace hr:=hqq2
 refine ifE hr ?_ ?_<;>intro h6 hr
 exact e
 refine J (gn 6)<|ifE hr ?_ ?_<;>intro h7 hr
 exact e
 exact e
 refine ifE hr ?_ ?_<;>intro h8 hr
 exact e
 refine J (gn 7)<|ifE hr ?_ ?_<;>intro h9 hr
 refine J (gn 2)<|ifE hr ?_ ?_<;>intro h10 hr
 exact e
 refine J (gn 6)<|ifE hr ?_ ?_<;>intro h11 hr
 exact e
 refine J (gn 6)<|ifE hr ?_ ?_<;>intro h12 hr
 exact e
 exact e
 refine J (gn 5)<|ifE hr ?_ ?_<;>intro h13 hr
 exact e
 refine J (gn 6)<|ifE hr ?_ ?_<;>intro h14 hr
 exact e
 refine J (gn 6)<|ifE hr ?_ ?_<;>intro h15 hr
 exact e
 exact e
def z2p (rec_iTypeOfExpr:Grammar→Rule→Expr→Option Int)(a0:Grammar)(a1:Rule):Nat→Expr→((List Int))→Option ((List Int)):=fun k1 xk1 s1=>
 (rec_iTypeOfExpr a0 a1 xk1).bind fun y1=>
 grd (((s1.length:Int)+1)*8≤140737488355328∧(s1.length:Int)+1≤9223372036854775807) <|
 some (s1++[y1])
def z1i (rec_iTypeOfExpr:Grammar→Rule→Expr→Option Int)(a0:Grammar)(a1:Rule)(a2:Expr):Option Int:=
 (eachL (z2p rec_iTypeOfExpr a0 a1) 0 a2.Args ([]:List Int)).bind fun s1=>
 if a2.Kind=1 then (
 some a2.Type_
 ) else (
 (
 if a2.Kind=2 then (
 some a1.Literal
 ) else (
 some false
 )
 ).bind fun s2=>
 if s2=true then (
 some 1
 ) else (
 if a2.Kind=3 then (
 (q8j a0 a1 (⟨a2.Pos,a2.Name⟩:Occurrence)).bind fun (y2,y3)=>
 some y2.Type_
 ) else (
 (
 if a2.Kind=4 then (
 some (decide ((s1.length:Int)=2))
 ) else (
 some false
 )
 ).bind fun s3=>
 if s3=true then (
 (q9A a2.N).bind fun (y4,y5,y6)=>
 (s1[0]?).bind fun x1=>
 (
 if x1=y4 then (
 (s1[1]?).bind fun x2=>
 some (decide (x2=y5))
 ) else (
 some false
 )
 ).bind fun s4=>
 if s4=true then (
 some y6
 ) else (
 some 0
 )
 ) else (
 (
 if a2.Kind=5 then (
 some (decide ((s1.length:Int)=3))
 ) else (
 some false
 )
 ).bind fun s5=>
 if s5=true then (
 (s1[0]?).bind fun x3=>
 if x3=3 then (
 (s1[1]?).bind fun x4=>
 (s1[2]?).bind fun x5=>
 if x4=x5 then (
 some x4
 ) else (
 some 0
 )
 ) else (
 some 0
 )
 ) else (
 (
 if a2.Kind=6 then (
 (q4d a2.Pos 0 (a1.Right.length:Int)).bind fun y7=>
 some y7
 ) else (
 some false
 )
 ).bind fun s6=>
 (
 if s6=true then (
 some s6
 ) else (
 some (decide (a2.Kind=7))
 )
 ).bind fun s7=>
 if s7=true then (
 some 4
 ) else (
 (
 if a2.Kind=8 then (
 some (decide ((s1.length:Int)=1))
 ) else (
 some false
 )
 ).bind fun s8=>
 (
 if s8=true then (
 (s1[0]?).bind fun x6=>
 some (decide (x6=4))
 ) else (
 some false
 )
 ).bind fun s9=>
 if s9=true then (
 (q5Y a0 a2.Symbol).bind fun (y8,y9)=>
 (q7f y8 a2.Name).bind fun (y10,y11)=>
 some y10.Type_
 ) else (
 some 0
 )
 )
 )
 )
 )
 )
 )
theorem j1z {rec_iTypeOfExpr:Grammar→Rule→Expr→Option Int}(ih_iTypeOfExpr:∀ {m:Md} {a0:Grammar} {a1:Rule} {a2:Expr} {r:Int},rec_iTypeOfExpr a0 a1 a2=some r→Ok Tryz.prog 166 [Grammar.y m a0,Rule.x m a1,Expr.x m a2] [] (dI r) []){m:Md}{a0:Grammar}{a1:Rule}{a2:Expr}{r:Int}(hr:z1i rec_iTypeOfExpr a0 a1 a2=some r):Ok Tryz.prog 166 [Grammar.y m a0,Rule.x m a1,Expr.x m a2] [] (dI r) []:=by
 refine OE Tryz.func166 fun S hS=>?_
 unfold z1i at hr
 refine J g<|J (BX' 0)<|J (BX' 1)<|J (BX' 2)<|J g<|J (L0' 3 (A.D.i .i64))<|J (gn 11)<|J (lenA 6 2)<|fun hl1=>bdE hr fun s1 hqq1 hr=>q0d hqq1 hl1 4 (fun k1 s1=>[(3,.pb 0 0),(4,.pb 1 0),(5,.pb 2 0),(7,.ref 3 none),(21,.d m (.sl 7 (a2.Args.map Expr.D))),(22,dI (a2.Args.length:Int)),(23,dI (k1:Int))]) (fun k1 s1=>[(3,.row .fz 1 (s1.map (A.D.i .i64)))]) I (fun k1 xk1 sk1 ok1 hxk1 hr hltk1=>?_) fun k1 hltk1=>?_
 obtain⟨s1,rfl⟩:∃ y,y=sk1:=⟨_,rfl⟩
 refine J g<|J (NV' 4)<|bdE hr fun y1 hy1 hr=>J g<|J (CB' [] [] (ih_iTypeOfExpr (m:=m) hy1))<|J (LIR' 5 (m:=.fz) (f:=(A.D.i .i64)) (xs:=([y1]:List Int)))<|ggE hr fun g1 hr=>J (q9Z (f:=(A.D.i .i64)) 6 (fun _=>rfl) 8 g1)<|e
 refine J (gn 16)<|ifE hr ?_ ?_<;>intro h1 hr
 exact e
 refine bdE hr fun s2 hqq2 hr=>J (gn 6)<|q0a 4 [(3,.pb 0 0),(4,.pb 1 0),(5,.pb 2 0),(7,.ref 3 none),(48,dB s2)] ?_ ?_
 replace hr:=hqq2
 refine ifE hr ?_ ?_<;>intro h2 hr
 exact e
 exact e
 refine J (gn 2)<|ifE hr ?_ ?_<;>intro h3 hr
 exact e
 refine J (gn 8)<|ifE hr ?_ ?_<;>intro h4 hr
 refine bdP hr fun y2 y3 hq3 hr=>J g<|J (CB' [] [] (z3G (m:=m) hq3))<|J g<|J (NV' 4)<|e
 refine bdE hr fun s3 hqq4 hr=>J (gn 6)<|q0a 5 [(3,.pb 0 0),(4,.pb 1 0),(5,.pb 2 0),(7,.ref 3 none),(74,dB s3)] ?_ ?_
 replace hr:=hqq4
 refine ifE hr ?_ ?_<;>intro h5 hr
 exact e
 exact e
 refine J (gn 2)<|ifE hr ?_ ?_<;>intro h6 hr
 refine bdT hr fun y4 y5 y6 hq5 hr=>J g<|J (CB' [] [] (j0k hq5))<|bdE hr fun x1 hx1 hr=>bdE hr fun s4 hqq6 hr=>J (gn 15)<|q0a 7 [(14,dI y6),(93,dB s4)] ?_ ?_
 replace hr:=hqq6
 refine ifE hr ?_ ?_<;>intro h7 hr
 refine bdE hr fun x2 hx2 hr=>e
 exact e
 refine J (gn 1)<|ifE hr ?_ ?_<;>intro h8 hr
 exact e
 exact e
 refine bdE hr fun s5 hqq7 hr=>J (gn 6)<|q0a 5 [(3,.pb 0 0),(4,.pb 1 0),(5,.pb 2 0),(7,.ref 3 none),(103,dB s5)] ?_ ?_
 replace hr:=hqq7
 refine ifE hr ?_ ?_<;>intro h9 hr
 exact e
 exact e
 refine J (gn 2)<|ifE hr ?_ ?_<;>intro h10 hr
 refine bdE hr fun x3 hx3 hr=>J (gn 7)<|ifE hr ?_ ?_<;>intro h11 hr
 refine bdE hr fun x4 hx4 hr=>bdE hr fun x5 hx5 hr=>J (gn 10)<|ifE hr ?_ ?_<;>intro h12 hr
 exact e
 exact e
 exact e
 refine bdE hr fun s6 hqq8 hr=>J (gn 7)<|q0a 8 [(3,.pb 0 0),(5,.pb 2 0),(7,.ref 3 none),(131,dB s6)] ?_ ?_
 replace hr:=hqq8
 refine ifE hr ?_ ?_<;>intro h13 hr
 refine bdE hr fun y7 hy7 hr=>J g<|J (CB' [] [] (q4C hy7))<|e
 exact e
 refine bdE hr fun s7 hqq9 hr=>J (gn 2)<|q0e 4 [(3,.pb 0 0),(5,.pb 2 0),(7,.ref 3 none),(120,dB s7)] [] ?_ ?_
 replace hr:=hqq9
 refine ifE hr ?_ ?_<;>intro h14 hr
 exact e
 exact e
 refine ifE hr ?_ ?_<;>intro h15 hr
 exact e
 refine bdE hr fun s8 hqq10 hr=>J (gn 6)<|q0a 5 [(3,.pb 0 0),(5,.pb 2 0),(7,.ref 3 none),(143,dB s8)] ?_ ?_
 replace hr:=hqq10
 refine ifE hr ?_ ?_<;>intro h16 hr
 exact e
 exact e
 refine bdE hr fun s9 hqq11 hr=>q0a 6 [(3,.pb 0 0),(5,.pb 2 0),(149,dB s9)] ?_ ?_
 replace hr:=hqq11
 refine ifE hr ?_ ?_<;>intro h17 hr
 refine bdE hr fun x6 hx6 hr=>e
 exact e
 refine J (gn 2)<|ifE hr ?_ ?_<;>intro h18 hr
 refine bdP hr fun y8 y9 hq12 hr=>J g<|J (CB' [] [] (q9d (m:=m) hq12))<|J g<|J (NV' 4)<|bdP hr fun y10 y11 hq13 hr=>J g<|J (CB' [] [] (z1N (m:=m) hq13))<|J g<|J (NV' 5)<|e
 exact e
def q8R:Nat→Grammar→Rule→Expr→Option Int
  | 0,_,_,_=>none
  | n+1,a0,a1,a2=>z1i (q8R n) a0 a1 a2
def z1j (a0:Grammar)(a1:Rule)(a2:Expr):Option Int:=recO fun n=>q8R n a0 a1 a2
theorem j1A (n:Nat):∀ {m:Md} {a0:Grammar} {a1:Rule} {a2:Expr} {r:Int},q8R n a0 a1 a2=some r→Ok Tryz.prog 166 [Grammar.y m a0,Rule.x m a1,Expr.x m a2] [] (dI r) []:=by
  induction n with
  | zero=>intro _ _ _ _ r hr; exact nomatch (show (none:Option Int)=some r from hr)
  | succ n ih=>intro _ _ _ _ r hr; exact j1z ih hr
theorem z4x {m:Md}{a0:Grammar}{a1:Rule}{a2:Expr}{r:Int}(hr:z1j a0 a1 a2=some r):Ok Tryz.prog 166 [Grammar.y m a0,Rule.x m a1,Expr.x m a2] [] (dI r) []:=by
 obtain⟨n,hn⟩:=q6D hr
 exact j1A n hn
def z9O (a0:Grammar)(a1:Rule):Nat→Equation→Unit→Option (Unit ⊕ Bool):=fun k1 xk1 _=>
 (q8j a0 a1 xk1.At).bind fun (y1,y2)=>
 (z1j a0 a1 xk1.Expr).bind fun y3=>
 if y3=y1.Type_ then (
 some (.inl ())
 ) else (
 some (.inr true)
 )
def z9P (a0:Grammar)(a1:Rule):Nat→Contribution→Unit→Option (Unit ⊕ Bool):=fun k2 xk2 _=>
 (q5Y a0 xk2.Symbol).bind fun (y4,y5)=>
 (q7f y4 xk2.Name).bind fun (y6,y7)=>
 (z1j a0 a1 xk2.Target).bind fun y8=>
 (
 if y8=4 then (
 (z1j a0 a1 xk2.Value).bind fun y9=>
 some (!(decide (y9=2)))
 ) else (
 some true
 )
 ).bind fun s1=>
 (
 if s1=true then (
 some true
 ) else (
 some (!(decide (y6.Mode=3)))
 )
 ).bind fun s2=>
 if s2=true then (
 some (.inr true)
 ) else (
 some (.inl ())
 )
def z3H (a0:Grammar)(a1:Rule):Option Bool:=
 (findL (z9O a0 a1) 0 a1.Equations ()).bind <| onr (fun r1=>some r1) fun _=>
 (findL (z9P a0 a1) 0 a1.Contributions ()).bind <| onr (fun r2=>some r2) fun _=>
 some false
theorem j5R {m:Md}{a0:Grammar}{a1:Rule}{r:Bool}(hr:z3H a0 a1=some r):Ok Tryz.prog 131 [Grammar.y m a0,Rule.x m a1] [] (dB r) []:=by
 refine OE Tryz.func131 fun S hS=>?_
 unfold z3H at hr
 refine J g<|J (BX' 0)<|J (BX' 1)<|J (gn 11)<|J (lenA 4 1)<|fun hl1=>bdE hr fun q1 hqq1 hr=>q0b hqq1 hl1 2 (fun k1 _=>[(2,.pb 0 0),(3,.pb 1 0),(16,.d m (.sl 9 (a1.Equations.map Equation.D))),(17,dI (a1.Equations.length:Int)),(18,dI (k1:Int))]) (fun k1 _=>[]) I (fun k1 xk1 sk1 ok1 hxk1 hr hltk1 hik1=>?_) fun k1 sk1 ek1 hltk1=>?_
 refine J g<|J (NV' 2)<|bdP hr fun y1 y2 hq2 hr=>J g<|J (CB' [] [] (z3G (m:=m) hq2))<|J g<|J (NV' 3)<|bdE hr fun y3 hy3 hr=>J g<|J (CB' [] [] (z4x (m:=m) hy3))<|J (gn 4)<|ifE hr ?_ ?_<;>intro h1 hr
 exact e
 exact e
 subst ek1
 refine J (gn 16)<|J (lenT 40)<|fun hl2=>bdE hr fun q3 hqq3 hr=>q0b hqq3 hl2 2 (fun k2 _=>[(2,.pb 0 0),(3,.pb 1 0),(40,.d m (.sl 16 (a1.Contributions.map Contribution.D))),(41,dI (a1.Contributions.length:Int)),(42,dI (k2:Int))]) (fun k2 _=>[]) I (fun k2 xk2 sk2 ok2 hxk2 hr hltk2 hik2=>?_) fun k2 sk2 ek2 hltk2=>?_
 refine J g<|J (NV' 2)<|bdP hr fun y4 y5 hq4 hr=>J g<|J (CB' [] [] (q9d (m:=m) hq4))<|J g<|J (NV' 3)<|bdP hr fun y6 y7 hq5 hr=>J g<|J (CB' [] [] (z1N (m:=m) hq5))<|J g<|J (NV' 4)<|bdE hr fun y8 hy8 hr=>J g<|J (CB' [] [] (z4x (m:=m) hy8))<|bdE hr fun s1 hqq6 hr=>J (gn 1)<|q0a 8 [(2,.pb 0 0),(3,.pb 1 0),(13,.pb 4 0),(40,.d m (.sl 16 (a1.Contributions.map Contribution.D))),(41,dI (a1.Contributions.length:Int)),(42,dI (k2:Int)),(73,dB s1)] ?_ ?_
 replace hr:=hqq6
 refine ifE hr ?_ ?_<;>intro h2 hr
 refine bdE hr fun y9 hy9 hr=>J g<|J (CB' [] [] (z4x (m:=m) hy9))<|e
 exact e
 refine bdE hr fun s2 hqq7 hr=>q0a 5 [(2,.pb 0 0),(3,.pb 1 0),(40,.d m (.sl 16 (a1.Contributions.map Contribution.D))),(41,dI (a1.Contributions.length:Int)),(42,dI (k2:Int)),(78,dB s2)] ?_ ?_
 replace hr:=hqq7
 refine ifE hr ?_ ?_<;>intro h3 hr
 exact e
 exact e
 refine J (gn 1)<|ifE hr ?_ ?_<;>intro h4 hr
 exact e
 exact e
 subst ek2
 exact e
def z8y (a0:ByteArray)(a2:(List Int)):Nat→Symbol→Unit→Option (Unit ⊕ Int):=fun k1 xk1 _=>
 if xk1.Name=a0 then (
 (a2[k1]?).bind fun x1=>
 some (.inr x1)
 ) else (
 some (.inl ())
 )
def z2B (a0:ByteArray)(a1:Grammar)(a2:(List Int)):Option Int:=
 (findL (z8y a0 a2) 0 a1.Symbols ()).bind <| onr (fun r1=>some r1) fun _=>
 some 0
theorem j4h {m2:Md}{a0:ByteArray}{a1:Grammar}{a2:(List Int)}{r:Int}(hr:z2B a0 a1 a2=some r):Ok Tryz.prog 168 [dS a0,.pb 0 0,.pb 1 0] [.box [.d m2 (.sl 2 (a1.Symbols.map Symbol.D)),.d m2 (.sl 6 (a1.Rules.map Rule.D))],.box [.ref 2 none],.row .fz 1 (a2.map (A.D.i .i64))] (dI r) [.box [.d m2 (.sl 2 (a1.Symbols.map Symbol.D)),.d m2 (.sl 6 (a1.Rules.map Rule.D))],.box [.ref 2 none],.row .fz 1 (a2.map (A.D.i .i64))]:=by
 refine OE Tryz.func168 fun S hS=>?_
 unfold z2B at hr
 refine J (gn 13)<|J (lenT 8)<|fun hl1=>bdE hr fun q1 hqq1 hr=>q0b hqq1 hl1 3 (fun k1 _=>[(0,dS a0),(2,.pb 1 0),(8,.d m2 (.sl 2 (a1.Symbols.map Symbol.D))),(9,dI (a1.Symbols.length:Int)),(10,dI (k1:Int))]) (fun k1 _=>[]) I (fun k1 xk1 sk1 ok1 hxk1 hr hltk1 hik1=>?_) fun k1 sk1 ek1 hltk1=>?_
 refine J g<|J (NV' 3)<|J (gn 10)<|ifE hr ?_ ?_<;>intro h1 hr
 refine bdE hr fun x1 hx1 hr=>e
 exact e
 subst ek1
 exact e
def z7O (a0:Grammar)(s2:List Int):Nat→ByteArray→Bool→Option Bool:=fun k4 xk4 s8=>
 (
 if s8=true then (
 (z2B xk4 a0 s2).bind fun y1=>
 some (decide (0 < y1))
 ) else (
 some false
 )
 ).bind fun s9=>
 some s9
def z5C (a0:Grammar)(s3:Int)(s2:List Int)(k2:Nat)(xk2:Symbol):Nat→Rule→((List Int))→Option ((List Int)):=fun k3 xk3 s6=>
 (
 (eachL (z7O a0 s2) 0 xk3.Right (decide (xk3.Left=xk2.Name))).bind fun s8=>
 if s8=true then (
 (s6[k2]?).bind fun x2=>
 some (List.set s6 k2 s3)
 ) else (
 some s6
 )
 ).bind fun s7=>
 some s7
def z5D (a0:Grammar)(s3:Int)(s2:List Int):Nat→Symbol→((List Int))→Option ((List Int)):=fun k2 xk2 s4=>
 (
 (s2[k2]?).bind fun x1=>
 if 0 < x1 then (
 some s4
 ) else (
 (eachL (z5C a0 s3 s2 k2 xk2) 0 a0.Rules s4).bind fun s6=>
 some s6
 )
 ).bind fun s5=>
 some s5
def z1O (a0:Grammar):(Int × (List Int))→Option ((Int × (List Int)) ⊕ ((List Int))):=fun (s3,s2)=>
 if s3≤(a0.Symbols.length:Int) then (
 grd (0≤(s2.length:Int)∧(s2.length:Int)*8≤281474976710656∧(s2.length:Int)≤9223372036854775807) <|
 grd (s2.length=(List.replicate s2.length (0:Int)).length) <|
 (eachL (z5D a0 s3 s2) 0 a0.Symbols s2).bind fun s4=>
 grd (I64 (s3+1)) <|
 some (.inl ((s3+1),s4))
 ) else (
 some (.inr s2)
 )
def z3o (a0:Grammar):Option (List Int):=
 grd (0≤(a0.Symbols.length:Int)∧(a0.Symbols.length:Int)*8≤281474976710656∧(a0.Symbols.length:Int)≤9223372036854775807) <|
 (q4L (z1O a0) (1,(List.replicate a0.Symbols.length (0:Int)))).bind fun s1=>
 some s1
theorem j7r {m:Md}{a0:Grammar}{r:(List Int)}(hr:z3o a0=some r):Ok Tryz.prog 132 [Grammar.x m a0] [] (.ref 0 none) [.row .fz 1 (r.map (A.D.i .i64))]:=by
 refine OE Tryz.func132 fun S hS=>?_
 unfold z3o at hr
 refine J g<|J (BX' 0)<|ggE hr fun g1 hr=>J g<|J (MKR' 1 (f:=(A.D.i .i64)) (0:Int) g1.1 g1.2.1 g1.2.2)<|J (NV' 2)<|bdE hr fun s1 hqq1 hr=>J (gn 12)<|q0e 3 [(3,.pb 2 0)] [(1,.row .fz 1 (s1.map (A.D.i .i64)))] ?_ ?_
 refine J g<|q0h hqq1 3 (fun (s3,s2)=>[(1,.pb 0 0),(3,.pb 2 0),(4,.fn 168 [.pb 0 0,.pb 2 0]),(5,dI s3)]) (fun (s3,s2)=>[(1,.row .fz 1 (s2.map (A.D.i .i64)))]) I fun sk1 ok1 hr hik1=>?_
 obtain⟨s3,s2⟩:=sk1
 have hr:=hr
 refine J (gn 9)<|ifE hr ?_ ?_<;>intro h1 hr
 refine ggE hr fun g2 hr=>J g<|J (MKR' 3 (f:=(A.D.i .i64)) (0:Int) g2.1 g2.2.1 g2.2.2)<|ggE hr fun g3 hr=>J g<|J (k6Y g3)<|J (gn 10)<|J (lenT 21)<|fun hl2=>bdE hr fun s4 hqq2 hr=>q0d hqq2 hl2 4 (fun k2 s4=>[(1,.pb 0 0),(3,.pb 2 0),(4,.fn 168 [.pb 0 0,.pb 2 0]),(5,dI s3),(6,.ref 3 none),(33,.d m (.sl 2 (a0.Symbols.map Symbol.D))),(34,dI (a0.Symbols.length:Int)),(35,dI (k2:Int))]) (fun k2 s4=>[(3,.row .fz 1 (s4.map (A.D.i .i64)))]) I (fun k2 xk2 sk2 ok2 hxk2 hr hltk2=>?_) fun k2 hltk2=>?_
 obtain⟨s4,rfl⟩:∃ y,y=sk2:=⟨_,rfl⟩
 refine bdE hr fun s5 hqq3 hr=>J (gn 8)<|q0e 4 [(1,.pb 0 0),(3,.pb 2 0),(4,.fn 168 [.pb 0 0,.pb 2 0]),(5,dI s3),(6,.ref 3 none),(33,.d m (.sl 2 (a0.Symbols.map Symbol.D))),(34,dI (a0.Symbols.length:Int)),(35,dI (k2:Int))] [(3,.row .fz 1 (s5.map (A.D.i .i64)))] ?_ ?_
 replace hr:=hqq3
 refine J g<|J (NV' 4)<|bdE hr fun x1 hx1 hr=>J (gn 12)<|ifE hr ?_ ?_<;>intro h2 hr
 exact e
 refine J (gn 10)<|J (lenT 46)<|fun hl3=>bdE hr fun s6 hqq4 hr=>q0d hqq4 hl3 5 (fun k3 s6=>[(1,.pb 0 0),(3,.pb 2 0),(4,.fn 168 [.pb 0 0,.pb 2 0]),(5,dI s3),(6,.ref 3 none),(7,dI (k2:Int)),(8,.pb 4 0),(33,.d m (.sl 2 (a0.Symbols.map Symbol.D))),(34,dI (a0.Symbols.length:Int)),(35,dI (k2:Int)),(46,.d m (.sl 6 (a0.Rules.map Rule.D))),(47,dI (a0.Rules.length:Int)),(48,dI (k3:Int))]) (fun k3 s6=>[(3,.row .fz 1 (s6.map (A.D.i .i64)))]) I (fun k3 xk3 sk3 ok3 hxk3 hr hltk3=>?_) fun k3 hltk3=>?_
 obtain⟨s6,rfl⟩:∃ y,y=sk3:=⟨_,rfl⟩
 refine bdE hr fun s7 hqq5 hr=>J (gn 8)<|q0e 5 [(1,.pb 0 0),(3,.pb 2 0),(4,.fn 168 [.pb 0 0,.pb 2 0]),(5,dI s3),(6,.ref 3 none),(7,dI (k2:Int)),(8,.pb 4 0),(33,.d m (.sl 2 (a0.Symbols.map Symbol.D))),(34,dI (a0.Symbols.length:Int)),(35,dI (k2:Int)),(46,.d m (.sl 6 (a0.Rules.map Rule.D))),(47,dI (a0.Rules.length:Int)),(48,dI (k3:Int))] [(3,.row .fz 1 (s7.map (A.D.i .i64)))] ?_ ?_
 replace hr:=hqq5
 refine J g<|J (NV' 5)<|J (gn 20)<|J (lenA 2 51)<|fun hl4=>bdE hr fun s8 hqq6 hr=>q0d hqq6 hl4 6 (fun k4 s8=>[(1,.pb 0 0),(3,.pb 2 0),(4,.fn 168 [.pb 0 0,.pb 2 0]),(5,dI s3),(6,.ref 3 none),(7,dI (k2:Int)),(8,.pb 4 0),(11,dB s8),(33,.d m (.sl 2 (a0.Symbols.map Symbol.D))),(34,dI (a0.Symbols.length:Int)),(35,dI (k2:Int)),(46,.d m (.sl 6 (a0.Rules.map Rule.D))),(47,dI (a0.Rules.length:Int)),(48,dI (k3:Int)),(58,.d m (.sl 1 (xk3.Right.map A.D.s))),(59,dI (xk3.Right.length:Int)),(60,dI (k4:Int))]) (fun k4 s8=>[]) I (fun k4 xk4 sk4 ok4 hxk4 hr hltk4=>?_) fun k4 hltk4=>?_
 obtain⟨s8,rfl⟩:∃ y,y=sk4:=⟨_,rfl⟩
 refine bdE hr fun s9 hqq7 hr=>J (gn 8)<|q0e 6 [(1,.pb 0 0),(3,.pb 2 0),(4,.fn 168 [.pb 0 0,.pb 2 0]),(5,dI s3),(6,.ref 3 none),(7,dI (k2:Int)),(8,.pb 4 0),(11,dB s9),(33,.d m (.sl 2 (a0.Symbols.map Symbol.D))),(34,dI (a0.Symbols.length:Int)),(35,dI (k2:Int)),(46,.d m (.sl 6 (a0.Rules.map Rule.D))),(47,dI (a0.Rules.length:Int)),(48,dI (k3:Int)),(58,.d m (.sl 1 (xk3.Right.map A.D.s))),(59,dI (xk3.Right.length:Int)),(60,dI (k4:Int))] [] ?_ ?_
 replace hr:=hqq7
 refine J (gn 9)<|ifE hr ?_ ?_<;>intro h3 hr
 refine bdE hr fun y1 hy1 hr=>J g<|J (CB' [(0,0),(1,2),(2,1)] [] (j4h (m2:=m) hy1))<|e
 exact e
 exact e
 refine J (gn 11)<|ifE hr ?_ ?_<;>intro h4 hr
 refine bdE hr fun x2 hx2 hr=>J g<|J (SE' s3 hx2)<|e
 exact e
 exact e
 exact e
 exact e
 refine ggE hr fun g4 hr=>e
 refine J (gn 2) ?_
 cases hr
 cases hik1 _ rfl
 exact q0g hS 3
 exact e
end Go.Proofs.YtpnkinhphabkcaaGreat
