/- What some functions of the program compute, as partial functions on plain data, and that they do; each lemma bears its conditions in its statement. -/
import Derived.Test.YtibagkppfnjgcaaGreatLift7
set_option linter.unusedVariables false
set_option linter.unusedSimpArgs false
set_option linter.ambiguousOpen false
set_option linter.unusedSectionVars false
set_option linter.unnecessarySimpa false
set_option maxRecDepth 100000
set_option maxHeartbeats 40000000
noncomputable section
namespace Go.Proofs.YtibagkppfnjgcaaGreat
open Go Go.E Go.A
def q3y (rec_ieveryNode_iAttributeUses_1:Expr→(List Occurrence)→Option (Bool × (List Occurrence)))(a0:(List Expr))(o0:(List Occurrence)):Option (Bool × (List Occurrence)):=
 (q3E rec_ieveryNode_iAttributeUses_1 a0 o0).bind fun (y1,z1)=>
 some (decide (0≤y1),z1)
theorem q5I {rec_ieveryNode_iAttributeUses_1:Expr→(List Occurrence)→Option (Bool × (List Occurrence))}(ih_ieveryNode_iAttributeUses_1:∀ {m:Md} {a0:Expr} {o0:(List Occurrence)} {r:(Bool × (List Occurrence))},rec_ieveryNode_iAttributeUses_1 a0 o0=some r→Ok Tryz.prog 89 [Expr.x m a0,.fn 95 [.pb 0 0]] [.box [.ref 1 none],.row .fz 2 (o0.map Occurrence.D)] (.d .fz (.b r.1)) [.box [.ref 2 none],.dead,.row .fz 2 (r.2.map Occurrence.D)]){m:Md}{a0:(List Expr)}{o0:(List Occurrence)}{r:(Bool × (List Occurrence))}(hr:q3y rec_ieveryNode_iAttributeUses_1 a0 o0=some r):Ok Tryz.prog 48 [.d m (.sl 7 (a0.map Expr.D)),.fn 120 [.pb 1 0]] [.box [.ref 2 none],.box [.fn 95 [.pb 0 0]],.row .fz 2 (o0.map Occurrence.D)] (.d .fz (.b r.1)) [.box [.ref 3 none],.box [.fn 95 [.pb 0 0]],.dead,.row .fz 2 (r.2.map Occurrence.D)]:=by
 refine Ok.enter rfl Tryz.func48 rfl rfl rfl fun S hS=>?_
 unfold q3y at hr
 refine sr ?_
 refine N1 ?_
 refine sr ?_
 refine W2 ?_
 refine bdE hr fun q1 hq1 hr=>?_
 obtain⟨y1,z1⟩:=q1
 refine CB [(0,0),(1,1),(2,2),(3,3)] [] (q5X ih_ieveryNode_iAttributeUses_1 (m:=m) hq1) ?_
 refine N2 ?_
 refine AW.ret ?_
 cases hr
 exact q0a [(0,0),(1,1),(2,2),(3,3)] 4 hS
def q4D (rec_ieveryNode_iAttributeUses_1:Expr→(List Occurrence)→Option (Bool × (List Occurrence)))(a0:Expr)(o0:(List Occurrence)):Option (Bool × (List Occurrence)):=
 (q6I a0 o0).bind fun (y1,z1)=>
 if y1=true then (
 (q3y rec_ieveryNode_iAttributeUses_1 a0.Args z1).bind fun (y2,z2)=>
 some (!y2,z2)
 ) else (
 some (false,z1)
 )
theorem q9G {rec_ieveryNode_iAttributeUses_1:Expr→(List Occurrence)→Option (Bool × (List Occurrence))}(ih_ieveryNode_iAttributeUses_1:∀ {m:Md} {a0:Expr} {o0:(List Occurrence)} {r:(Bool × (List Occurrence))},rec_ieveryNode_iAttributeUses_1 a0 o0=some r→Ok Tryz.prog 89 [Expr.x m a0,.fn 95 [.pb 0 0]] [.box [.ref 1 none],.row .fz 2 (o0.map Occurrence.D)] (.d .fz (.b r.1)) [.box [.ref 2 none],.dead,.row .fz 2 (r.2.map Occurrence.D)]){m:Md}{a0:Expr}{o0:(List Occurrence)}{r:(Bool × (List Occurrence))}(hr:q4D rec_ieveryNode_iAttributeUses_1 a0 o0=some r):Ok Tryz.prog 89 [Expr.x m a0,.fn 95 [.pb 0 0]] [.box [.ref 1 none],.row .fz 2 (o0.map Occurrence.D)] (.d .fz (.b r.1)) [.box [.ref 2 none],.dead,.row .fz 2 (r.2.map Occurrence.D)]:=by
 refine Ok.enter rfl Tryz.func89 rfl rfl rfl fun S hS=>?_
 unfold q4D at hr
 refine sr ?_
 refine BX 2 ?_
 refine BX 3 ?_
 refine N1 ?_
 refine sr ?_
 refine W2 ?_
 refine bdE hr fun q1 hq1 hr=>?_
 obtain⟨y1,z1⟩:=q1
 refine CB [(0,0),(1,1),(2,4)] [] (z4x (m:=m) hq1) ?_
 refine ifE hr (fun h1 hr=>?_) fun h1 hr=>?_
 refine VT rfl h1 ?_
 refine W3 ?_
 refine bdE hr fun q2 hq2 hr=>?_
 obtain⟨y2,z2⟩:=q2
 refine CB [(0,0),(1,3),(2,4),(3,5)] [] (q5I ih_ieveryNode_iAttributeUses_1 (m:=m) hq2) ?_
 refine N3 ?_
 refine AW.ret ?_
 cases hr
 exact q0a [(0,0),(1,1),(5,2)] 3 hS
 refine VF rfl (bF h1) ?_
 iterate 5 refine AL.off ?_
 refine N2 ?_
 refine AW.ret ?_
 cases hr
 exact q0a [(0,0),(1,1),(4,2)] 3 hS
def q4n:Nat→Expr→(List Occurrence)→Option (Bool × (List Occurrence))
  | 0,_,_=>none
  | n+1,a0,o0=>q4D (q4n n) a0 o0
def q5O (a0:Expr)(o0:(List Occurrence)):Option (Bool × (List Occurrence)):=recO fun n=>q4n n a0 o0
theorem q9H (n:Nat):∀ {m:Md} {a0:Expr} {o0:(List Occurrence)} {r:(Bool × (List Occurrence))},q4n n a0 o0=some r→Ok Tryz.prog 89 [Expr.x m a0,.fn 95 [.pb 0 0]] [.box [.ref 1 none],.row .fz 2 (o0.map Occurrence.D)] (.d .fz (.b r.1)) [.box [.ref 2 none],.dead,.row .fz 2 (r.2.map Occurrence.D)]:=by
  induction n with
  | zero=>intro _ _ _ r hr; exact nomatch (show (none:Option (Bool × (List Occurrence)))=some r from hr)
  | succ n ih=>intro _ _ _ r hr; exact q9G ih hr
theorem z0h {m:Md}{a0:Expr}{o0:(List Occurrence)}{r:(Bool × (List Occurrence))}(hr:q5O a0 o0=some r):Ok Tryz.prog 89 [Expr.x m a0,.fn 95 [.pb 0 0]] [.box [.ref 1 none],.row .fz 2 (o0.map Occurrence.D)] (.d .fz (.b r.1)) [.box [.ref 2 none],.dead,.row .fz 2 (r.2.map Occurrence.D)]:=by
 obtain⟨n,hn⟩:=q5a hr
 exact q9H n hn
def q5l (a0:(List Occurrence)):Option (List Occurrence):=
 grd (a0.length < 4611686018427387904) <|
 some (j2e a0)
theorem z0v {a0:(List Occurrence)}{r:(List Occurrence)}(hr:q5l a0=some r):Ok Tryz.prog 96 [.ref 0 none,.fn 97 []] [.row .fz 2 (a0.map Occurrence.D)] (.tu []) [.row .fz 2 (r.map Occurrence.D)]:=by
 unfold q5l at hr
 refine ggE hr fun g1 hr=>?_
 cases hr
 exact j7f g1
def q3L (s1:Int):((List Occurrence) × Int × Int)→Option (((List Occurrence) × Int × Int) ⊕ ((List Occurrence) × Int)):=fun (s4,s5,s6)=>
 if s6 < ((s4.drop s1.toNat).length:Int) then (
 (
 grd (0≤s6) <|
 (s4[(s1.toNat+s6.toNat)]?).bind fun x3=>
 grd (I64 (s6 - 1)) <|
 grd (0≤(s6 - 1)) <|
 (s4[(s1.toNat+((s6 - 1).toNat))]?).bind fun x4=>
 if x3=x4 then (
 some (s5,s4)
 ) else (
 grd (0≤s6) <|
 grd (0≤s5) <|
 (s4[s5.toNat]?).bind fun x5=>
 grd (I64 (s5+1)) <|
 some ((s5+1),(List.set s4 s5.toNat x3))
 )
 ).bind fun (s7,s8)=>
 grd (I64 (s6+1)) <|
 some (.inl (s8,s7,(s6+1)))
 ) else (
 some (.inr (s4,s5))
 )
def q3M (a0:(List Occurrence)):Int→Option (Int ⊕ (Unit ⊕ (List Occurrence))):=fun s1=>
 if s1 < (a0.length:Int) then (
 grd (0≤s1) <|
 (a0[s1.toNat]?).bind fun x1=>
 grd (I64 (s1 - 1)) <|
 grd (0≤(s1 - 1)) <|
 (a0[(s1 - 1).toNat]?).bind fun x2=>
 if x1=x2 then (
 grd (0≤s1) <|
 grd (s1.toNat≤a0.length) <|
 (q5m (q3L s1) (a0,s1,1)).bind fun (s2,s3)=>
 grd (0≤s3) <|
 grd (s3.toNat≤s2.length) <|
 grd (0≤s3) <|
 grd (s3.toNat≤(s2.take s3.toNat++List.replicate (s2.length - s3.toNat) (⟨(0:Int),(⟨#[]⟩:ByteArray)⟩:Occurrence)).length) <|
 some (.inr (.inr ((s2.take s3.toNat++List.replicate (s2.length - s3.toNat) (⟨(0:Int),(⟨#[]⟩:ByteArray)⟩:Occurrence)).take s3.toNat)))
 ) else (
 grd (I64 (s1+1)) <|
 some (.inl (s1+1))
 )
 ) else (
 some (.inr (.inl ()))
 )
def q4S (a0:(List Occurrence)):Option (List Occurrence):=
 if (a0.length:Int) < 2 then (
 some a0
 ) else (
 (q5m (q3M a0) 1).bind <| onr (fun r1=>some r1) fun ()=>
 some a0
 )
theorem z0D {a0:(List Occurrence)}{r:(List Occurrence)}(hr:q4S a0=some r):Ok Tryz.prog 98 [.ref 0 none] [.row .fz 2 (a0.map Occurrence.D)] (.ref 1 none) [.dead,.row .fz 2 (r.map Occurrence.D)]:=by
 refine Ok.enter rfl Tryz.func98 rfl rfl rfl fun S hS=>?_
 unfold q4S at hr
 refine sr ?_
 refine N1 ?_
 refine ssr ?_
 refine W1 ?_
 refine LE ?_
 refine N1 ?_
 refine ifE hr (fun h1 hr=>?_) fun h1 hr=>?_
 refine q0f rfl (dT h1) ?_
 refine sr ?_
 refine N2 ?_
 refine AW.ret ?_
 refine endA.gh (q1i (i:=0) (j:=1) rfl rfl) ?_
 cases hr
 exact q0a [(0,0),(1,1)] 2 hS
 refine q0g rfl (dF h1) ?_
 refine q0b ?_
 refine ssr ?_
 refine N1 ?_
 refine bdE hr fun q1 hqq1 hr=>?_
 refine AW.cut 1 (fun _=>[(0,.ref 0 none)]) (fun _=>[]) (M:=fun x=>q1 = .inl x) ?_ fun x hx=>?_
 refine AW.block (q0q hqq1 1 (fun s1=>[(0,.ref 0 none),(3,.d .fz (.i .i64 s1))]) (fun s1=>[]) (q0e hS 1) fun sk1 ok1 hr hik1=>?_)
 obtain⟨s1,rfl⟩:∃ y,y=sk1:=⟨_,rfl⟩
 have hr:=hr
 refine ssr ?_
 refine W2 ?_
 refine LE ?_
 refine N1 ?_
 refine ifE hr (fun h2 hr=>?_) fun h2 hr=>?_
 refine q0f rfl (dT h2) ?_
 refine q0b ?_
 refine q0d (AW.block (q0d (q0j (h:=?_))))
 refine W2 ?_
 refine ggE hr fun g1 hr=>?_
 refine bdE hr fun x1 hx1 hr=>?_
 refine IE hx1 g1 ?_
 refine LPa hx1 ?_
 refine W2 ?_
 refine ggE hr fun g2 hr=>?_
 refine OB _ (bSub g2) ?_
 refine ggE hr fun g3 hr=>?_
 refine bdE hr fun x2 hx2 hr=>?_
 refine IE hx2 g3 ?_
 refine LPa hx2 ?_
 refine SQ rfl rfl rfl rfl (q5n x1 x2) ?_
 refine N0 ?_
 refine ifE hr (fun h3 hr=>?_) fun h3 hr=>?_
 refine q0f rfl (dT h3) ?_
 refine sr ?_
 refine W2 ?_
 refine ggE hr fun g4 hr=>?_
 refine ggE hr fun g5 hr=>?_
 refine SVL g4 g5 ?_
 refine N1 ?_
 refine ssr ?_
 refine N1 ?_
 refine bdE hr fun q2 hqq2 hr=>?_
 obtain⟨s2,s3⟩:=q2
 refine q0n 1 [(0,.ref 0 none),(3,.d .fz (.i .i64 s3))] [(0,.row .fz 2 (s2.map Occurrence.D))] ?_ ?_
 refine AW.block (q0q hqq2 1 (fun (s4,s5,s6)=>[(0,.ref 0 none),(3,.d .fz (.i .i64 s5)),(4,.vs 0 none s1.toNat (s4.length - s1.toNat)),(5,.d .fz (.i .i64 s6))]) (fun (s4,s5,s6)=>[(0,.row .fz 2 (s4.map Occurrence.D))]) (GH.ren hS [(0,0)] 1 ⟨.rfl,.rfl,(.vn (by first | rfl | simp only [List.length_set])),.rfl,trivial⟩) fun sk2 ok2 hr hik2=>?_)
 obtain⟨s4,s5,s6⟩:=sk2
 have hr:=hr
 refine ssr ?_
 refine W2 ?_
 refine LV (s4.drop s1.toNat).length ?_
 refine N1 ?_
 refine ifE hr (fun h4 hr=>?_) fun h4 hr=>?_
 refine q0f rfl (dT h4) ?_
 refine q0b ?_
 refine bdE hr fun q3 hqq3 hr=>?_
 obtain⟨s7,s8⟩:=q3
 refine q0d (q0n 1 [(0,.ref 0 none),(3,.d .fz (.i .i64 s7)),(4,.vs 0 none s1.toNat (s8.length - s1.toNat)),(5,.d .fz (.i .i64 s6))] [(0,.row .fz 2 (s8.map Occurrence.D))] ?_ ?_)
 replace hr:=hqq3
 refine AW.block (q0d (q0j (h:=?_)))
 refine W2 ?_
 refine ggE hr fun g6 hr=>?_
 refine bdE hr fun x3 hx3 hr=>?_
 refine IV hx3 g6 (z5u hx3) ?_
 refine LPa hx3 ?_
 refine W2 ?_
 refine ggE hr fun g7 hr=>?_
 refine OB _ (bSub g7) ?_
 refine ggE hr fun g8 hr=>?_
 refine bdE hr fun x4 hx4 hr=>?_
 refine IV hx4 g8 (z5u hx4) ?_
 refine LPa hx4 ?_
 refine SQn rfl rfl rfl rfl (q5n x3 x4) ?_
 refine N0 ?_
 refine ifE hr (fun h5 hr=>?_) fun h5 hr=>?_
 refine q0g rfl (nF h5) ?_
 refine q0b ?_
 cases hr
 exact GH.ren hS [(0,0)] 1 ⟨.rfl,.rfl,(.vn (by first | rfl | simp only [List.length_set])),.rfl,trivial⟩
 refine q0f rfl (nT h5) ?_
 refine sr ?_
 refine W4 ?_
 refine ggE hr fun g9 hr=>?_
 refine IV hx3 g9 (z5u hx3) ?_
 refine LPa hx3 ?_
 refine ggE hr fun g10 hr=>?_
 refine bdE hr fun x5 hx5 hr=>?_
 refine IE hx5 g10 ?_
 refine SE x3 hx5 ?_
 refine N0 ?_
 refine q0c ?_
 refine W1 ?_
 refine ggE hr fun g11 hr=>?_
 refine OB _ (bAdd g11) ?_
 refine N1 ?_
 cases hr
 exact GH.ren hS [(0,0)] 1 ⟨.rfl,.rfl,(.vn (by first | rfl | simp only [List.length_set])),.rfl,trivial⟩
 refine q0c ?_
 refine W1 ?_
 refine ggE hr fun g12 hr=>?_
 refine OB _ (bAdd g12) ?_
 refine N1 ?_
 cases hr
 exact⟨_,rfl,GH.ren hS [(0,0)] 1 ⟨.rfl,.rfl,(.vn (by first | rfl | simp only [List.length_set])),.rfl,trivial⟩⟩
 refine q0g rfl (dF h4) ?_
 refine q0i ?_
 cases hr
 cases hik2 _ rfl
 exact q0e hS 1
 refine sr ?_
 refine W2 ?_
 refine ggE hr fun g13 hr=>?_
 refine ggE hr fun g14 hr=>?_
 refine SVL g13 g14 ?_
 refine CLR (⟨(0:Int),(⟨#[]⟩:ByteArray)⟩:Occurrence) g14 ?_
 refine N0 ?_
 refine sr ?_
 refine W2 ?_
 refine ggE hr fun g15 hr=>?_
 refine ggE hr fun g16 hr=>?_
 refine CU 1 g15 g16 ?_
 refine N1 ?_
 refine AW.ret ?_
 cases hr
 cases hik1 _ rfl
 rename_i hr
 cases hr
 exact q0a [(0,0),(1,1)] 2 hS
 refine q0g rfl (dF h3) ?_
 refine q0b ?_
 refine q0c ?_
 refine W1 ?_
 refine ggE hr fun g17 hr=>?_
 refine OB _ (bAdd g17) ?_
 refine N1 ?_
 cases hr
 exact⟨_,rfl,q0e hS 1⟩
 refine q0g rfl (dF h2) ?_
 refine q0i ?_
 cases hr
 cases hik1 _ rfl
 exact⟨_,rfl,q0e hS 1⟩
 subst hx
 refine sr ?_
 refine N2 ?_
 refine AW.ret ?_
 refine endA.gh (q1i (i:=0) (j:=1) rfl rfl) ?_
 cases hr
 exact q0a [(0,0),(1,1)] 2 hS
def q6D (a0:Expr):Option (List Occurrence):=
 (q5O a0 []).bind fun (y1,z1)=>
 (q5l z1).bind fun z2=>
 (q4S z2).bind fun y2=>
 some y2
theorem z2h {m:Md}{a0:Expr}{r:(List Occurrence)}(hr:q6D a0=some r):Ok Tryz.prog 67 [Expr.x m a0] [] (.ref 0 none) [.row .fz 2 (r.map Occurrence.D)]:=by
 refine Ok.enter rfl Tryz.func67 rfl rfl rfl fun S hS=>?_
 unfold q6D at hr
 refine sr ?_
 refine BX 0 ?_
 refine N1 ?_
 refine sr ?_
 refine L0 1 Occurrence.D ?_
 refine NV 2 ?_
 refine SB ?_
 refine N0 ?_
 refine sr ?_
 refine W2 ?_
 refine bdE hr fun q1 hq1 hr=>?_
 obtain⟨y1,z1⟩:=q1
 refine CB [(0,2),(1,1),(2,3)] [] (z0h (m:=m) hq1) ?_
 refine N0 ?_
 refine sr ?_
 refine W1 ?_
 refine bdE hr fun z2 hz2 hr=>?_
 refine CB [(0,3)] [] (z0v hz2) ?_
 refine N0 ?_
 refine sr ?_
 refine W1 ?_
 refine bdE hr fun y2 hy2 hr=>?_
 refine CB [(0,3),(1,4)] [] (z0D hy2) ?_
 refine N1 ?_
 refine AW.ret ?_
 cases hr
 exact q0a [(4,0)] 1 hS
def q9I (a1:ByteArray):Nat→Attribute→Unit→Option (Unit ⊕ (Attribute × Bool)):=fun k1 xk1 _=>
 if xk1.Name=a1 then (
 some (.inr (xk1,true))
 ) else (
 some (.inl ())
 )
def q5e (a0:Symbol)(a1:ByteArray):Option (Attribute × Bool):=
 (findL (q9I a1) 0 a0.Attributes ()).bind <| onr (fun r1=>some r1) fun _=>
 some ((⟨(⟨#[]⟩:ByteArray),0,0,false⟩:Attribute),false)
theorem q9J {m:Md}{a0:Symbol}{a1:ByteArray}{r:(Attribute × Bool)}(hr:q5e a0 a1=some r):Ok Tryz.prog 62 [Symbol.x m a0,.d .fz (.s a1)] [] (.tu [Attribute.x .fz r.1,.d .fz (.b r.2)]) []:=by
 refine Ok.enter rfl Tryz.func62 rfl rfl rfl fun S hS=>?_
 unfold q5e at hr
 refine sr ?_
 refine BX 0 ?_
 refine NV 1 ?_
 refine N1 ?_
 refine ssr ?_
 refine W2 ?_
 refine LF ?_
 refine N1 ?_
 refine AW.block ?_
 refine AW.len (.ag 1 (.tmp 0 rfl) rfl) fun hl1=>?_
 refine bdE hr fun q1 hqq1 hr=>?_
 refine q0k hqq1 hl1 2 (fun k1 _=>[(1,.d .fz (.s a1)),(4,.pb 1 0),(9,.d m (.sl 4 (a0.Attributes.map Attribute.D))),(10,.d .fz (.i .i64 (a0.Attributes.length:Int))),(11,.d .fz (.i .i64 (k1:Int)))]) (fun k1 _=>[]) (q0e hS 2) (fun k1 xk1 sk1 ok1 hxk1 hr hltk1 hik1=>?_) fun k1 sk1 ek1 hltk1=>?_
 refine sr ?_
 refine N1 ?_
 refine q0d (q0f rfl (dT hltk1) ?_)
 refine q0b ?_
 refine q0d (AW.block (q0d (q0c ?_)))
 refine IF (Int.natCast_nonneg _) hxk1 ?_
 refine W1 ?_
 refine NV 2 ?_
 refine SB ?_
 refine N0 ?_
 refine sr ?_
 refine N4 ?_
 refine ifE hr (fun h1 hr=>?_) fun h1 hr=>?_
 refine q0f rfl (dT h1) ?_
 refine sr ?_
 refine W1 ?_
 refine SB ?_
 refine N1 ?_
 refine AW.ret ?_
 cases hr
 cases hik1 _ rfl
 rename_i hr
 cases hr
 exact q0a [] 0 hS
 refine q0g rfl (dF h1) ?_
 refine q0b ?_
 refine q0c ?_
 refine OB _ (q3B (p:=k1) (q:=1) (q3m hltk1 hl1)) ?_
 refine N1 ?_
 cases hr
 exact⟨_,rfl,q0e hS 2⟩
 subst ek1
 refine sr ?_
 refine N1 ?_
 refine q0d (q0g rfl (dF hltk1) ?_)
 refine q0i ?_
 refine sr ?_
 refine W1 ?_
 refine SB ?_
 refine N1 ?_
 refine AW.ret ?_
 cases hr
 exact q0a [] 0 hS
def q5D (a0:Grammar)(a1:Rule)(a2:Occurrence):Option (Attribute × Bool):=
 (q4o a2.Pos 0 (a1.Right.length:Int)).bind fun y1=>
 if y1=true then (
 (q7s a1 a2.Pos).bind fun y2=>
 (q5d a0 y2).bind fun (y3,y4)=>
 (q5e y3 a2.Name).bind fun (y5,y6)=>
 some (y5,y6)
 ) else (
 some ((⟨(⟨#[]⟩:ByteArray),0,0,false⟩:Attribute),false)
 )
theorem q9h {m:Md}{a0:Grammar}{a1:Rule}{a2:Occurrence}{r:(Attribute × Bool)}(hr:q5D a0 a1 a2=some r):Ok Tryz.prog 28 [Grammar.y m a0,Rule.x m a1,Occurrence.x .fz a2] [] (.tu [Attribute.x .fz r.1,.d .fz (.b r.2)]) []:=by
 refine Ok.enter rfl Tryz.func28 rfl rfl rfl fun S hS=>?_
 unfold q5D at hr
 refine sr ?_
 refine BX 0 ?_
 refine BX 1 ?_
 refine BX 2 ?_
 refine NV 3 ?_
 refine N1 ?_
 refine ssr ?_
 refine W4 ?_
 refine LF ?_
 refine bdE hr fun y1 hy1 hr=>?_
 refine CB [] [] (q4V hy1) ?_
 refine N1 ?_
 refine ifE hr (fun h1 hr=>?_) fun h1 hr=>?_
 refine q0g rfl (bnF h1) ?_
 refine q0b ?_
 refine q0d (q0j (h:=?_))
 refine W4 ?_
 refine bdE hr fun y2 hy2 hr=>?_
 refine CB [] [] (z1w (m:=m) hy2) ?_
 refine bdE hr fun q1 hq1 hr=>?_
 obtain⟨y3,y4⟩:=q1
 refine CB [] [] (q7H (m:=m) hq1) ?_
 refine W3 ?_
 refine NV 4 ?_
 refine SB ?_
 refine N1 ?_
 refine sr ?_
 refine W3 ?_
 refine bdE hr fun q2 hq2 hr=>?_
 obtain⟨y5,y6⟩:=q2
 refine CB [] [] (q9J (m:=m) hq2) ?_
 refine W2 ?_
 refine SB ?_
 refine N1 ?_
 refine AW.ret ?_
 cases hr
 exact q0a [] 0 hS
 refine q0f rfl (bnT h1) ?_
 refine sr ?_
 refine W1 ?_
 refine SB ?_
 refine N1 ?_
 refine AW.ret ?_
 cases hr
 exact q0a [] 0 hS
def z3x (a0:Grammar)(a1:Rule)(a2:Occurrence):Option Bool:=
 (q5D a0 a1 a2).bind fun (y1,y2)=>
 if a2.Pos=0 then (
 (
 if y2=true then (
 some (decide (y1.Mode=1))
 ) else (
 some false
 )
 ).bind fun s1=>
 some s1
 ) else (
 (
 if y2=true then (
 some (decide (y1.Mode=2))
 ) else (
 some false
 )
 ).bind fun s2=>
 some s2
 )
theorem j4A {m:Md}{a0:Grammar}{a1:Rule}{a2:Occurrence}{r:Bool}(hr:z3x a0 a1 a2=some r):Ok Tryz.prog 152 [Grammar.y m a0,Rule.x m a1,Occurrence.x .fz a2] [] (.d .fz (.b r)) []:=by
 refine Ok.enter rfl Tryz.func152 rfl rfl rfl fun S hS=>?_
 unfold z3x at hr
 refine sr ?_
 refine BX 0 ?_
 refine BX 1 ?_
 refine BX 2 ?_
 refine N1 ?_
 refine sr ?_
 refine W3 ?_
 refine bdE hr fun q1 hq1 hr=>?_
 obtain⟨y1,y2⟩:=q1
 refine CB [] [] (q9h (m:=m) hq1) ?_
 refine W3 ?_
 refine NV 3 ?_
 refine SB ?_
 refine N1 ?_
 refine ssr ?_
 refine N3 ?_
 refine ifE hr (fun h1 hr=>?_) fun h1 hr=>?_
 refine q0f rfl (dT h1) ?_
 refine sr ?_
 refine W1 ?_
 refine bdE hr fun s1 hqq2 hr=>?_
 refine q0h 5 [(6,.d .fz (.b false)),(24,.d .fz (.b s1))] ?_ ?_
 replace hr:=hqq2
 refine ifE hr (fun h2 hr=>?_) fun h2 hr=>?_
 refine VT rfl h2 ?_
 refine N4 ?_
 cases hr
 exact q3n
 refine VF rfl (bF h2) ?_
 iterate 3 refine AL.off ?_
 refine N1 ?_
 cases hr
 exact q3n
 refine N1 ?_
 refine AW.ret ?_
 cases hr
 exact q0a [] 0 hS
 refine q0g rfl (dF h1) ?_
 refine q0b ?_
 refine sr ?_
 refine W1 ?_
 refine bdE hr fun s2 hqq3 hr=>?_
 refine q0h 5 [(6,.d .fz (.b false)),(30,.d .fz (.b s2))] ?_ ?_
 replace hr:=hqq3
 refine ifE hr (fun h3 hr=>?_) fun h3 hr=>?_
 refine VT rfl h3 ?_
 refine N4 ?_
 cases hr
 exact q3n
 refine VF rfl (bF h3) ?_
 iterate 3 refine AL.off ?_
 refine N1 ?_
 cases hr
 exact q3n
 refine N1 ?_
 refine AW.ret ?_
 cases hr
 exact q0a [] 0 hS
def q9T (a0:Occurrence)(a1:Grammar)(a2:Rule):Option Bool:=
 (z3x a1 a2 a0).bind fun y1=>
 some (!y1)
theorem z7u {m2:Md}{a0:Occurrence}{a1:Grammar}{a2:Rule}{r:Bool}(hr:q9T a0 a1 a2=some r):Ok Tryz.prog 151 [Occurrence.x .fz a0,.pb 0 0,.pb 1 0] [.box [.d m2 (.sl 2 (a1.Symbols.map Symbol.D)),.d m2 (.sl 6 (a1.Rules.map Rule.D))],.box [.d .fz (.s a2.Name),.d .fz (.s a2.Left),.d m2 (.sl 1 (a2.Right.map A.D.s)),.d .fz (.b a2.Literal),.d m2 (.sl 9 (a2.Equations.map Equation.D)),.d m2 (.sl 16 (a2.Contributions.map Contribution.D))]] (.d .fz (.b r)) [.box [.d m2 (.sl 2 (a1.Symbols.map Symbol.D)),.d m2 (.sl 6 (a1.Rules.map Rule.D))],.box [.d .fz (.s a2.Name),.d .fz (.s a2.Left),.d m2 (.sl 1 (a2.Right.map A.D.s)),.d .fz (.b a2.Literal),.d m2 (.sl 9 (a2.Equations.map Equation.D)),.d m2 (.sl 16 (a2.Contributions.map Contribution.D))]]:=by
 refine Ok.enter rfl Tryz.func151 rfl rfl rfl fun S hS=>?_
 unfold q9T at hr
 refine sr ?_
 refine BX 2 ?_
 refine N1 ?_
 refine sr ?_
 refine W3 ?_
 refine bdE hr fun y1 hy1 hr=>?_
 refine CB [] [] (j4A (m:=m2) hy1) ?_
 refine N2 ?_
 refine AW.ret ?_
 cases hr
 exact q0a [(0,0),(1,1)] 2 hS
def q5r (a1_0:Grammar)(a1_1:Rule):Nat→Occurrence→Unit→Option (Unit ⊕ Int):=fun k1 xk1 _=>
 (q9T xk1 a1_0 a1_1).bind fun y1=>
 if y1=true then (
 some (.inr (k1:Int))
 ) else (
 some (.inl ())
 )
def q4a (a0:(List Occurrence))(a1_0:Grammar)(a1_1:Rule):Option Int:=
 (findL (q5r a1_0 a1_1) 0 a0 ()).bind <| onr (fun r1=>some r1) fun _=>
 some (-1)
theorem q7t {m2:Md}{a0:(List Occurrence)}{a1_0:Grammar}{a1_1:Rule}{r:Int}(hr:q4a a0 a1_0 a1_1=some r):Ok Tryz.prog 57 [.ref 2 none,.fn 151 [.pb 0 0,.pb 1 0]] [.box [.d m2 (.sl 2 (a1_0.Symbols.map Symbol.D)),.d m2 (.sl 6 (a1_0.Rules.map Rule.D))],.box [.d .fz (.s a1_1.Name),.d .fz (.s a1_1.Left),.d m2 (.sl 1 (a1_1.Right.map A.D.s)),.d .fz (.b a1_1.Literal),.d m2 (.sl 9 (a1_1.Equations.map Equation.D)),.d m2 (.sl 16 (a1_1.Contributions.map Contribution.D))],.row .fz 2 (a0.map Occurrence.D)] (.d .fz (.i .i64 r)) [.box [.d m2 (.sl 2 (a1_0.Symbols.map Symbol.D)),.d m2 (.sl 6 (a1_0.Rules.map Rule.D))],.box [.d .fz (.s a1_1.Name),.d .fz (.s a1_1.Left),.d m2 (.sl 1 (a1_1.Right.map A.D.s)),.d .fz (.b a1_1.Literal),.d m2 (.sl 9 (a1_1.Equations.map Equation.D)),.d m2 (.sl 16 (a1_1.Contributions.map Contribution.D))],.row .fz 2 (a0.map Occurrence.D)]:=by
 refine Ok.enter rfl Tryz.func57 rfl rfl rfl fun S hS=>?_
 unfold q4a at hr
 refine sr ?_
 refine N1 ?_
 refine ssr ?_
 refine W1 ?_
 refine LE ?_
 refine N1 ?_
 refine AW.block ?_
 refine q0r 2 rfl fun hl1=>?_
 refine bdE hr fun q1 hqq1 hr=>?_
 refine q0k hqq1 hl1 3 (fun k1 _=>[(0,.ref 2 none),(1,.fn 151 [.pb 0 0,.pb 1 0]),(7,.d .fz (.i .i64 (a0.length:Int))),(8,.d .fz (.i .i64 (k1:Int)))]) (fun k1 _=>[]) (q0e hS 3) (fun k1 xk1 sk1 ok1 hxk1 hr hltk1 hik1=>?_) fun k1 sk1 ek1 hltk1=>?_
 refine sr ?_
 refine N1 ?_
 refine q0d (q0f rfl (dT hltk1) ?_)
 refine q0b ?_
 refine q0d (AW.block (q0d (q0c ?_)))
 refine N2 ?_
 refine sr ?_
 refine W3 ?_
 refine IE hxk1 (Int.natCast_nonneg _) ?_
 refine LPa hxk1 ?_
 refine bdE hr fun y1 hy1 hr=>?_
 refine CB [(0,0),(1,1)] [] (z7u (m2:=m2) hy1) ?_
 refine N0 ?_
 refine ifE hr (fun h1 hr=>?_) fun h1 hr=>?_
 refine q0f rfl h1 ?_
 refine sr ?_
 refine N2 ?_
 refine AW.ret ?_
 cases hr
 cases hik1 _ rfl
 rename_i hr
 cases hr
 exact q0a [(0,0),(1,1),(2,2)] 3 hS
 refine q0g rfl (bF h1) ?_
 refine q0b ?_
 refine q0c ?_
 refine OB _ (q3B (p:=k1) (q:=1) (q3m hltk1 hl1)) ?_
 refine N1 ?_
 cases hr
 exact⟨_,rfl,q0e hS 3⟩
 subst ek1
 refine sr ?_
 refine N1 ?_
 refine q0d (q0g rfl (dF hltk1) ?_)
 refine q0i ?_
 refine sr ?_
 refine N1 ?_
 refine AW.ret ?_
 cases hr
 exact q0a [(0,0),(1,1),(2,2)] 3 hS
def q3R (a0:(List Occurrence))(a1_0:Grammar)(a1_1:Rule):Option Bool:=
 (q4a a0 a1_0 a1_1).bind fun y1=>
 some (decide (0≤y1))
theorem q6Q {m2:Md}{a0:(List Occurrence)}{a1_0:Grammar}{a1_1:Rule}{r:Bool}(hr:q3R a0 a1_0 a1_1=some r):Ok Tryz.prog 66 [.ref 2 none,.fn 151 [.pb 0 0,.pb 1 0]] [.box [.d m2 (.sl 2 (a1_0.Symbols.map Symbol.D)),.d m2 (.sl 6 (a1_0.Rules.map Rule.D))],.box [.d .fz (.s a1_1.Name),.d .fz (.s a1_1.Left),.d m2 (.sl 1 (a1_1.Right.map A.D.s)),.d .fz (.b a1_1.Literal),.d m2 (.sl 9 (a1_1.Equations.map Equation.D)),.d m2 (.sl 16 (a1_1.Contributions.map Contribution.D))],.row .fz 2 (a0.map Occurrence.D)] (.d .fz (.b r)) [.box [.d m2 (.sl 2 (a1_0.Symbols.map Symbol.D)),.d m2 (.sl 6 (a1_0.Rules.map Rule.D))],.box [.d .fz (.s a1_1.Name),.d .fz (.s a1_1.Left),.d m2 (.sl 1 (a1_1.Right.map A.D.s)),.d .fz (.b a1_1.Literal),.d m2 (.sl 9 (a1_1.Equations.map Equation.D)),.d m2 (.sl 16 (a1_1.Contributions.map Contribution.D))],.row .fz 2 (a0.map Occurrence.D)]:=by
 refine Ok.enter rfl Tryz.func66 rfl rfl rfl fun S hS=>?_
 unfold q3R at hr
 refine sr ?_
 refine N1 ?_
 refine sr ?_
 refine W2 ?_
 refine bdE hr fun y1 hy1 hr=>?_
 refine CB [(0,0),(1,1),(2,2)] [] (q7t (m2:=m2) hy1) ?_
 refine N2 ?_
 refine AW.ret ?_
 cases hr
 exact q0a [(0,0),(1,1),(2,2)] 3 hS
def z0i (a0:Expr)(a1:Grammar)(a2:Rule):Option Bool:=
 (q6D a0).bind fun y1=>
 (q3R y1 a1 a2).bind fun y2=>
 some y2
theorem z9H {m:Md}{m2:Md}{a0:Expr}{a1:Grammar}{a2:Rule}{r:Bool}(hr:z0i a0 a1 a2=some r):Ok Tryz.prog 150 [Expr.x m a0,.pb 0 0,.pb 1 0] [.box [.d m2 (.sl 2 (a1.Symbols.map Symbol.D)),.d m2 (.sl 6 (a1.Rules.map Rule.D))],.box [.d .fz (.s a2.Name),.d .fz (.s a2.Left),.d m2 (.sl 1 (a2.Right.map A.D.s)),.d .fz (.b a2.Literal),.d m2 (.sl 9 (a2.Equations.map Equation.D)),.d m2 (.sl 16 (a2.Contributions.map Contribution.D))]] (.d .fz (.b r)) [.box [.d m2 (.sl 2 (a1.Symbols.map Symbol.D)),.d m2 (.sl 6 (a1.Rules.map Rule.D))],.box [.d .fz (.s a2.Name),.d .fz (.s a2.Left),.d m2 (.sl 1 (a2.Right.map A.D.s)),.d .fz (.b a2.Literal),.d m2 (.sl 9 (a2.Equations.map Equation.D)),.d m2 (.sl 16 (a2.Contributions.map Contribution.D))]]:=by
 refine Ok.enter rfl Tryz.func150 rfl rfl rfl fun S hS=>?_
 unfold z0i at hr
 refine sr ?_
 refine BX 2 ?_
 refine N1 ?_
 refine sr ?_
 refine W1 ?_
 refine bdE hr fun y1 hy1 hr=>?_
 refine CB [(0,3)] [] (z2h (m:=m) hy1) ?_
 refine W1 ?_
 refine bdE hr fun y2 hy2 hr=>?_
 refine CB [(0,0),(1,1),(2,3)] [] (q6Q (m2:=m2) hy2) ?_
 refine N1 ?_
 refine AW.ret ?_
 cases hr
 exact q0a [(0,0),(1,1)] 2 hS
def q6t (a1_0:Grammar)(a1_1:Rule):Nat→Expr→Unit→Option (Unit ⊕ Int):=fun k1 xk1 _=>
 (z0i xk1 a1_0 a1_1).bind fun y1=>
 if y1=true then (
 some (.inr (k1:Int))
 ) else (
 some (.inl ())
 )
def q4F (a0:(List Expr))(a1_0:Grammar)(a1_1:Rule):Option Int:=
 (findL (q6t a1_0 a1_1) 0 a0 ()).bind <| onr (fun r1=>some r1) fun _=>
 some (-1)
theorem q8M {m2:Md}{a0:(List Expr)}{a1_0:Grammar}{a1_1:Rule}{r:Int}(hr:q4F a0 a1_0 a1_1=some r):Ok Tryz.prog 88 [.ref 2 none,.fn 150 [.pb 0 0,.pb 1 0]] [.box [.d m2 (.sl 2 (a1_0.Symbols.map Symbol.D)),.d m2 (.sl 6 (a1_0.Rules.map Rule.D))],.box [.d .fz (.s a1_1.Name),.d .fz (.s a1_1.Left),.d m2 (.sl 1 (a1_1.Right.map A.D.s)),.d .fz (.b a1_1.Literal),.d m2 (.sl 9 (a1_1.Equations.map Equation.D)),.d m2 (.sl 16 (a1_1.Contributions.map Contribution.D))],.row m2 7 (a0.map Expr.D)] (.d .fz (.i .i64 r)) [.box [.d m2 (.sl 2 (a1_0.Symbols.map Symbol.D)),.d m2 (.sl 6 (a1_0.Rules.map Rule.D))],.box [.d .fz (.s a1_1.Name),.d .fz (.s a1_1.Left),.d m2 (.sl 1 (a1_1.Right.map A.D.s)),.d .fz (.b a1_1.Literal),.d m2 (.sl 9 (a1_1.Equations.map Equation.D)),.d m2 (.sl 16 (a1_1.Contributions.map Contribution.D))],.row m2 7 (a0.map Expr.D)]:=by
 refine Ok.enter rfl Tryz.func88 rfl rfl rfl fun S hS=>?_
 unfold q4F at hr
 refine sr ?_
 refine N1 ?_
 refine ssr ?_
 refine W1 ?_
 refine LE ?_
 refine N1 ?_
 refine AW.block ?_
 refine q0r 2 rfl fun hl1=>?_
 refine bdE hr fun q1 hqq1 hr=>?_
 refine q0k hqq1 hl1 3 (fun k1 _=>[(0,.ref 2 none),(1,.fn 150 [.pb 0 0,.pb 1 0]),(7,.d .fz (.i .i64 (a0.length:Int))),(8,.d .fz (.i .i64 (k1:Int)))]) (fun k1 _=>[]) (q0e hS 3) (fun k1 xk1 sk1 ok1 hxk1 hr hltk1 hik1=>?_) fun k1 sk1 ek1 hltk1=>?_
 refine sr ?_
 refine N1 ?_
 refine q0d (q0f rfl (dT hltk1) ?_)
 refine q0b ?_
 refine q0d (AW.block (q0d (q0c ?_)))
 refine N2 ?_
 refine sr ?_
 refine W3 ?_
 refine IE hxk1 (Int.natCast_nonneg _) ?_
 refine LPaq hxk1 (Expr.D_cells xk1) ?_
 refine bdE hr fun y1 hy1 hr=>?_
 refine CB [(0,0),(1,1)] [] (z9H (m:=m2) (m2:=m2) hy1) ?_
 refine N0 ?_
 refine ifE hr (fun h1 hr=>?_) fun h1 hr=>?_
 refine q0f rfl h1 ?_
 refine sr ?_
 refine N2 ?_
 refine AW.ret ?_
 cases hr
 cases hik1 _ rfl
 rename_i hr
 cases hr
 exact q0a [(0,0),(1,1),(2,2)] 3 hS
 refine q0g rfl (bF h1) ?_
 refine q0b ?_
 refine q0c ?_
 refine OB _ (q3B (p:=k1) (q:=1) (q3m hltk1 hl1)) ?_
 refine N1 ?_
 cases hr
 exact⟨_,rfl,q0e hS 3⟩
 subst ek1
 refine sr ?_
 refine N1 ?_
 refine q0d (q0g rfl (dF hltk1) ?_)
 refine q0i ?_
 refine sr ?_
 refine N1 ?_
 refine AW.ret ?_
 cases hr
 exact q0a [(0,0),(1,1),(2,2)] 3 hS
def q4w (a0:(List Expr))(a1_0:Grammar)(a1_1:Rule):Option Bool:=
 (q4F a0 a1_0 a1_1).bind fun y1=>
 some (decide (0≤y1))
theorem q8g {m2:Md}{a0:(List Expr)}{a1_0:Grammar}{a1_1:Rule}{r:Bool}(hr:q4w a0 a1_0 a1_1=some r):Ok Tryz.prog 48 [.ref 2 none,.fn 150 [.pb 0 0,.pb 1 0]] [.box [.d m2 (.sl 2 (a1_0.Symbols.map Symbol.D)),.d m2 (.sl 6 (a1_0.Rules.map Rule.D))],.box [.d .fz (.s a1_1.Name),.d .fz (.s a1_1.Left),.d m2 (.sl 1 (a1_1.Right.map A.D.s)),.d .fz (.b a1_1.Literal),.d m2 (.sl 9 (a1_1.Equations.map Equation.D)),.d m2 (.sl 16 (a1_1.Contributions.map Contribution.D))],.row m2 7 (a0.map Expr.D)] (.d .fz (.b r)) [.box [.d m2 (.sl 2 (a1_0.Symbols.map Symbol.D)),.d m2 (.sl 6 (a1_0.Rules.map Rule.D))],.box [.d .fz (.s a1_1.Name),.d .fz (.s a1_1.Left),.d m2 (.sl 1 (a1_1.Right.map A.D.s)),.d .fz (.b a1_1.Literal),.d m2 (.sl 9 (a1_1.Equations.map Equation.D)),.d m2 (.sl 16 (a1_1.Contributions.map Contribution.D))],.row m2 7 (a0.map Expr.D)]:=by
 refine Ok.enter rfl Tryz.func48 rfl rfl rfl fun S hS=>?_
 unfold q4w at hr
 refine sr ?_
 refine N1 ?_
 refine sr ?_
 refine W2 ?_
 refine bdE hr fun y1 hy1 hr=>?_
 refine CB [(0,0),(1,1),(2,2)] [] (q8M (m2:=m2) hy1) ?_
 refine N2 ?_
 refine AW.ret ?_
 cases hr
 exact q0a [(0,0),(1,1),(2,2)] 3 hS
def z2i (a0:Grammar)(a1:Rule):Option Bool:=
 (q7I a1).bind fun y1=>
 (q4w y1 a0 a1).bind fun y2=>
 some y2
theorem j2v {m:Md}{a0:Grammar}{a1:Rule}{r:Bool}(hr:z2i a0 a1=some r):Ok Tryz.prog 117 [Grammar.x m a0,Rule.x m a1] [] (.d .fz (.b r)) []:=by
 refine Ok.enter rfl Tryz.func117 rfl rfl rfl fun S hS=>?_
 unfold z2i at hr
 refine sr ?_
 refine BX 0 ?_
 refine BX 1 ?_
 refine N1 ?_
 refine sr ?_
 refine W1 ?_
 refine bdE hr fun y1 hy1 hr=>?_
 refine CB [(0,2)] [] (z3w (m:=m) hy1) ?_
 refine W1 ?_
 refine bdE hr fun y2 hy2 hr=>?_
 refine CB [(0,0),(1,1),(2,2)] [] (q8g (m2:=m) hy2) ?_
 refine N1 ?_
 refine AW.ret ?_
 cases hr
 exact q0a [] 0 hS
def q9U (a0:Grammar)(s1:Int):Nat→Rule→Unit→Option (Unit ⊕ (Int × Int)):=fun k2 xk2 _=>
 if s1=3 then (
 (z2f a0 xk2).bind fun y5=>
 if y5=true then (
 some (.inr (s1,(k2:Int)))
 ) else (
 some (.inl ())
 )
 ) else (
 if s1=4 then (
 (z2g a0 xk2).bind fun y6=>
 if y6=true then (
 some (.inr (s1,(k2:Int)))
 ) else (
 some (.inl ())
 )
 ) else (
 if s1=5 then (
 (z4Y a0 xk2).bind fun y7=>
 if y7=true then (
 some (.inr (s1,(k2:Int)))
 ) else (
 some (.inl ())
 )
 ) else (
 (z2i a0 xk2).bind fun y8=>
 if y8=true then (
 some (.inr (s1,(k2:Int)))
 ) else (
 some (.inl ())
 )
 )
 )
 )
def q5E (a0:Grammar):Int→Option (Int ⊕ (Unit ⊕ (Int × Int))):=fun s1=>
 if s1≤6 then (
 (findL (q9U a0 s1) 0 a0.Rules ()).bind <| onr (fun r1=>some (.inr (.inr r1))) fun _=>
 grd (I64 (s1+1)) <|
 some (.inl (s1+1))
 ) else (
 some (.inr (.inl ()))
 )
def q9i (a0:Grammar):Option (Int × Int):=
 (q4o (a0.Symbols.length:Int) 1 4).bind fun y1=>
 if y1=true then (
 (q4o (a0.Rules.length:Int) 1 8).bind fun y2=>
 if y2=true then (
 (q9d a0).bind fun y3=>
 if 0≤y3 then (
 some (1,y3)
 ) else (
 (a0.Symbols[0]?).bind fun x1=>
 (q3Q x1.Attributes).bind fun y4=>
 if y4=true then (
 some (2,0)
 ) else (
 (q5m (q5E a0) 3).bind <| onr (fun r2=>some r2) fun ()=>
 some (0,0)
 )
 )
 ) else (
 some (1,0)
 )
 ) else (
 some (1,0)
 )
theorem z8p {m:Md}{a0:Grammar}{r:(Int × Int)}(hr:q9i a0=some r):Ok Tryz.prog 84 [Grammar.x m a0] [] (.tu [.d .fz (.i .i64 r.1),.d .fz (.i .i64 r.2)]) []:=by
 refine Ok.enter rfl Tryz.func84 rfl rfl rfl fun S hS=>?_
 unfold q9i at hr
 refine sr ?_
 refine BX 0 ?_
 refine N2 ?_
 refine ssr ?_
 refine W2 ?_
 refine LF ?_
 refine bdE hr fun y1 hy1 hr=>?_
 refine CB [] [] (q4V hy1) ?_
 refine W1 ?_
 refine ifE hr (fun h1 hr=>?_) fun h1 hr=>?_
 refine VF rfl (bnF h1) ?_
 refine W2 ?_
 refine LF ?_
 refine bdE hr fun y2 hy2 hr=>?_
 refine CB [] [] (q4V hy2) ?_
 refine N2 ?_
 refine ifE hr (fun h2 hr=>?_) fun h2 hr=>?_
 refine q0g rfl (bnF h2) ?_
 refine q0b ?_
 refine ssr ?_
 refine W1 ?_
 refine bdE hr fun y3 hy3 hr=>?_
 refine CB [] [] (z8o (m:=m) hy3) ?_
 refine N1 ?_
 refine sr ?_
 refine N2 ?_
 refine ifE hr (fun h3 hr=>?_) fun h3 hr=>?_
 refine q0f rfl (dT h3) ?_
 refine sr ?_
 refine N3 ?_
 refine AW.ret ?_
 cases hr
 exact q0a [] 0 hS
 refine q0g rfl (dF h3) ?_
 refine q0b ?_
 refine ssr ?_
 refine W2 ?_
 refine bdE hr fun x1 hx1 hr=>?_
 refine IF (Int.natCast_nonneg _) hx1 ?_
 refine W2 ?_
 refine bdE hr fun y4 hy4 hr=>?_
 refine CB [] [] (q6P (m:=m) hy4) ?_
 refine N0 ?_
 refine ifE hr (fun h4 hr=>?_) fun h4 hr=>?_
 refine q0f rfl h4 ?_
 refine sr ?_
 refine N2 ?_
 refine AW.ret ?_
 cases hr
 exact q0a [] 0 hS
 refine q0g rfl (bF h4) ?_
 refine q0b ?_
 refine ssr ?_
 refine N1 ?_
 refine bdE hr fun q1 hqq1 hr=>?_
 refine AW.cut 1 (fun _=>[]) (fun _=>[]) (M:=fun x=>q1 = .inl x) ?_ fun x hx=>?_
 refine AW.block (q0q hqq1 1 (fun s1=>[(1,.pb 0 0),(5,.d .fz (.i .i64 s1))]) (fun s1=>[]) (q0e hS 1) fun sk1 ok1 hr hik1=>?_)
 obtain⟨s1,rfl⟩:∃ y,y=sk1:=⟨_,rfl⟩
 have hr:=hr
 refine ssr ?_
 refine N2 ?_
 refine ifE hr (fun h5 hr=>?_) fun h5 hr=>?_
 refine q0f rfl (dT h5) ?_
 refine q0b ?_
 refine q0d (AW.block (q0d (q0c ?_)))
 refine W2 ?_
 refine LF ?_
 refine N1 ?_
 refine AW.block ?_
 refine AW.len (.tmp 37 rfl) fun hl2=>?_
 refine bdE hr fun q2 hqq2 hr=>?_
 refine q0k hqq2 hl2 1 (fun k2 _=>[(1,.pb 0 0),(5,.d .fz (.i .i64 s1)),(37,.d m (.sl 6 (a0.Rules.map Rule.D))),(38,.d .fz (.i .i64 (a0.Rules.length:Int))),(39,.d .fz (.i .i64 (k2:Int)))]) (fun k2 _=>[]) (q0e hS 1) (fun k2 xk2 sk2 ok2 hxk2 hr hltk2 hik2=>?_) fun k2 sk2 ek2 hltk2=>?_
 refine sr ?_
 refine N1 ?_
 refine q0d (q0f rfl (dT hltk2) ?_)
 refine q0b ?_
 refine q0d (AW.block (q0d (q0c ?_)))
 refine W1 ?_
 refine IF (Int.natCast_nonneg _) hxk2 ?_
 refine W1 ?_
 refine NV 1 ?_
 refine W1 ?_
 refine SB ?_
 refine N0 ?_
 refine sr ?_
 refine N1 ?_
 refine ssr ?_
 refine N1 ?_
 refine AW.block (q0d (q0c ?_))
 refine N2 ?_
 refine ifE hr (fun h6 hr=>?_) fun h6 hr=>?_
 refine q0f rfl (dT h6) ?_
 refine q0c ?_
 refine W2 ?_
 refine bdE hr fun y5 hy5 hr=>?_
 refine CB [] [] (j2s (m:=m) hy5) ?_
 refine N1 ?_
 refine sr ?_
 refine N1 ?_
 refine ifE hr (fun h7 hr=>?_) fun h7 hr=>?_
 refine q0f rfl h7 ?_
 refine sr ?_
 refine N4 ?_
 refine AW.ret ?_
 cases hr
 cases hik2 _ rfl
 rename_i hr
 cases hr
 cases hik1 _ rfl
 rename_i hr
 cases hr
 exact q0a [] 0 hS
 refine q0g rfl (bF h7) ?_
 refine q0b ?_
 refine q0c ?_
 refine OB _ (q3B (p:=k2) (q:=1) (q3m hltk2 hl2)) ?_
 refine N1 ?_
 cases hr
 exact⟨_,rfl,q0e hS 1⟩
 refine q0g rfl (dF h6) ?_
 refine sr ?_
 refine N2 ?_
 refine ifE hr (fun h8 hr=>?_) fun h8 hr=>?_
 refine q0f rfl (dT h8) ?_
 refine q0c ?_
 refine W2 ?_
 refine bdE hr fun y6 hy6 hr=>?_
 refine CB [] [] (j2t (m:=m) hy6) ?_
 refine N1 ?_
 refine sr ?_
 refine N1 ?_
 refine ifE hr (fun h9 hr=>?_) fun h9 hr=>?_
 refine q0f rfl h9 ?_
 refine sr ?_
 refine N4 ?_
 refine AW.ret ?_
 cases hr
 cases hik2 _ rfl
 rename_i hr
 cases hr
 cases hik1 _ rfl
 rename_i hr
 cases hr
 exact q0a [] 0 hS
 refine q0g rfl (bF h9) ?_
 refine q0b ?_
 refine q0c ?_
 refine OB _ (q3B (p:=k2) (q:=1) (q3m hltk2 hl2)) ?_
 refine N1 ?_
 cases hr
 exact⟨_,rfl,q0e hS 1⟩
 refine q0g rfl (dF h8) ?_
 refine sr ?_
 refine N2 ?_
 refine ifE hr (fun h10 hr=>?_) fun h10 hr=>?_
 refine q0f rfl (dT h10) ?_
 refine q0c ?_
 refine W2 ?_
 refine bdE hr fun y7 hy7 hr=>?_
 refine CB [] [] (j5D (m:=m) hy7) ?_
 refine N1 ?_
 refine sr ?_
 refine N1 ?_
 refine ifE hr (fun h11 hr=>?_) fun h11 hr=>?_
 refine q0f rfl h11 ?_
 refine sr ?_
 refine N4 ?_
 refine AW.ret ?_
 cases hr
 cases hik2 _ rfl
 rename_i hr
 cases hr
 cases hik1 _ rfl
 rename_i hr
 cases hr
 exact q0a [] 0 hS
 refine q0g rfl (bF h11) ?_
 refine q0b ?_
 refine q0c ?_
 refine OB _ (q3B (p:=k2) (q:=1) (q3m hltk2 hl2)) ?_
 refine N1 ?_
 cases hr
 exact⟨_,rfl,q0e hS 1⟩
 refine q0g rfl (dF h10) ?_
 refine q0c ?_
 refine W2 ?_
 refine bdE hr fun y8 hy8 hr=>?_
 refine CB [] [] (j2v (m:=m) hy8) ?_
 refine N1 ?_
 refine sr ?_
 refine N1 ?_
 refine ifE hr (fun h12 hr=>?_) fun h12 hr=>?_
 refine q0f rfl h12 ?_
 refine sr ?_
 refine N4 ?_
 refine AW.ret ?_
 cases hr
 cases hik2 _ rfl
 rename_i hr
 cases hr
 cases hik1 _ rfl
 rename_i hr
 cases hr
 exact q0a [] 0 hS
 refine q0g rfl (bF h12) ?_
 refine q0b ?_
 refine q0c ?_
 refine OB _ (q3B (p:=k2) (q:=1) (q3m hltk2 hl2)) ?_
 refine N1 ?_
 cases hr
 exact⟨_,rfl,q0e hS 1⟩
 subst ek2
 refine sr ?_
 refine N1 ?_
 refine q0d (q0g rfl (dF hltk2) ?_)
 refine q0i ?_
 refine q0c ?_
 refine W1 ?_
 refine ggE hr fun g1 hr=>?_
 refine OB _ (bAdd g1) ?_
 refine N1 ?_
 cases hr
 exact⟨_,rfl,q0e hS 1⟩
 refine q0g rfl (dF h5) ?_
 refine q0i ?_
 cases hr
 cases hik1 _ rfl
 exact⟨_,rfl,q0e hS 1⟩
 subst hx
 refine sr ?_
 refine N2 ?_
 refine AW.ret ?_
 cases hr
 exact q0a [] 0 hS
 refine q0f rfl (bnT h2) ?_
 refine sr ?_
 refine N2 ?_
 refine AW.ret ?_
 cases hr
 exact q0a [] 0 hS
 refine VT rfl (bnT h1) ?_
 iterate 5 refine AL.off ?_
 refine N1 ?_
 refine q0f rfl rfl ?_
 refine sr ?_
 refine N2 ?_
 refine AW.ret ?_
 cases hr
 exact q0a [] 0 hS
def q7Y (a0:Int):Option (Int × Int × Int):=
 (
 if a0=1 then (
 some (decide (a0=1))
 ) else (
 if a0=2 then (
 some (decide (a0=2))
 ) else (
 if a0=3 then (
 some (decide (a0=3))
 ) else (
 if a0=4 then (
 some (decide (a0=4))
 ) else (
 some (decide (a0=5))
 )
 )
 )
 )
 ).bind fun s1=>
 if s1=true then (
 some (1,1,1)
 ) else (
 (
 if a0=6 then (
 some (decide (a0=6))
 ) else (
 if a0=7 then (
 some (decide (a0=7))
 ) else (
 some (decide (a0=8))
 )
 )
 ).bind fun s2=>
 if s2=true then (
 some (2,2,2)
 ) else (
 if a0=9 then (
 if a0=9 then (
 some (1,1,3)
 ) else (
 if a0=11 then (
 some (2,1,3)
 ) else (
 if a0=12 then (
 some (2,1,2)
 ) else (
 some (0,0,0)
 )
 )
 )
 ) else (
 if a0=10 then (
 some (1,1,3)
 ) else (
 if a0=11 then (
 some (2,1,3)
 ) else (
 if a0=12 then (
 some (2,1,2)
 ) else (
 some (0,0,0)
 )
 )
 )
 )
 )
 )
theorem z6l {a0:Int}{r:(Int × Int × Int)}(hr:q7Y a0=some r):Ok Tryz.prog 153 [.d .fz (.i .i64 a0)] [] (.tu [.d .fz (.i .i64 r.1),.d .fz (.i .i64 r.2.1),.d .fz (.i .i64 r.2.2)]) []:=by
 refine Ok.enter rfl Tryz.func153 rfl rfl rfl fun S hS=>?_
 unfold q7Y at hr
 refine sr ?_
 refine N3 ?_
 refine ssr ?_
 refine N1 ?_
 refine AW.block (q0d (q0d (q0c ?_)))
 refine N2 ?_
 refine bdE hr fun s1 hqq1 hr=>?_
 refine q0n 0 [(5,.d .fz (.i .i64 a0)),(6,.d .fz (.b s1))] [] ?_ ?_
 replace hr:=hqq1
 refine ifE hr (fun h1 hr=>?_) fun h1 hr=>?_
 refine q0f rfl (dT h1) ?_
 refine q0b ?_
 cases hr
 exact q0e hS 0
 refine q0g rfl (dF h1) ?_
 refine sr ?_
 refine N2 ?_
 refine ifE hr (fun h2 hr=>?_) fun h2 hr=>?_
 refine q0f rfl (dT h2) ?_
 refine q0b ?_
 cases hr
 exact q0e hS 0
 refine q0g rfl (dF h2) ?_
 refine sr ?_
 refine N2 ?_
 refine ifE hr (fun h3 hr=>?_) fun h3 hr=>?_
 refine q0f rfl (dT h3) ?_
 refine q0b ?_
 cases hr
 exact q0e hS 0
 refine q0g rfl (dF h3) ?_
 refine sr ?_
 refine N2 ?_
 refine ifE hr (fun h4 hr=>?_) fun h4 hr=>?_
 refine q0f rfl (dT h4) ?_
 refine q0b ?_
 cases hr
 exact q0e hS 0
 refine q0g rfl (dF h4) ?_
 refine q0c ?_
 refine N2 ?_
 cases hr
 exact q0e hS 0
 refine ifE hr (fun h5 hr=>?_) fun h5 hr=>?_
 refine q0f rfl h5 ?_
 refine sr ?_
 refine N3 ?_
 refine AW.ret ?_
 cases hr
 exact q0a [] 0 hS
 refine q0g rfl (bF h5) ?_
 refine ssr ?_
 refine N2 ?_
 refine bdE hr fun s2 hqq2 hr=>?_
 refine q0n 0 [(5,.d .fz (.i .i64 a0)),(12,.d .fz (.b s2))] [] ?_ ?_
 replace hr:=hqq2
 refine ifE hr (fun h6 hr=>?_) fun h6 hr=>?_
 refine q0f rfl (dT h6) ?_
 refine q0b ?_
 cases hr
 exact q0e hS 0
 refine q0g rfl (dF h6) ?_
 refine sr ?_
 refine N2 ?_
 refine ifE hr (fun h7 hr=>?_) fun h7 hr=>?_
 refine q0f rfl (dT h7) ?_
 refine q0b ?_
 cases hr
 exact q0e hS 0
 refine q0g rfl (dF h7) ?_
 refine q0c ?_
 refine N2 ?_
 cases hr
 exact q0e hS 0
 refine ifE hr (fun h8 hr=>?_) fun h8 hr=>?_
 refine q0f rfl h8 ?_
 refine sr ?_
 refine N3 ?_
 refine AW.ret ?_
 cases hr
 exact q0a [] 0 hS
 refine q0g rfl (bF h8) ?_
 refine ssr ?_
 refine N2 ?_
 refine ifE hr (fun h9 hr=>?_) fun h9 hr=>?_
 refine q0f rfl (dT h9) ?_
 refine q0b ?_
 refine ifE hr (fun h10 hr=>?_) fun h10 hr=>?_
 refine q0f rfl (dT h10) ?_
 refine sr ?_
 refine N3 ?_
 refine AW.ret ?_
 cases hr
 exact q0a [] 0 hS
 refine q0g rfl (dF h10) ?_
 refine sr ?_
 refine N2 ?_
 refine ifE hr (fun h11 hr=>?_) fun h11 hr=>?_
 refine q0f rfl (dT h11) ?_
 refine sr ?_
 refine N3 ?_
 refine AW.ret ?_
 cases hr
 exact q0a [] 0 hS
 refine q0g rfl (dF h11) ?_
 refine sr ?_
 refine N2 ?_
 refine ifE hr (fun h12 hr=>?_) fun h12 hr=>?_
 refine q0f rfl (dT h12) ?_
 refine sr ?_
 refine N3 ?_
 refine AW.ret ?_
 cases hr
 exact q0a [] 0 hS
 refine q0g rfl (dF h12) ?_
 refine q0b ?_
 refine sr ?_
 refine N3 ?_
 refine AW.ret ?_
 cases hr
 exact q0a [] 0 hS
 refine q0g rfl (dF h9) ?_
 refine q0c ?_
 refine N2 ?_
 refine ifE hr (fun h13 hr=>?_) fun h13 hr=>?_
 refine q0f rfl (dT h13) ?_
 refine sr ?_
 refine N3 ?_
 refine AW.ret ?_
 cases hr
 exact q0a [] 0 hS
 refine q0g rfl (dF h13) ?_
 refine sr ?_
 refine N2 ?_
 refine ifE hr (fun h14 hr=>?_) fun h14 hr=>?_
 refine q0f rfl (dT h14) ?_
 refine sr ?_
 refine N3 ?_
 refine AW.ret ?_
 cases hr
 exact q0a [] 0 hS
 refine q0g rfl (dF h14) ?_
 refine sr ?_
 refine N2 ?_
 refine ifE hr (fun h15 hr=>?_) fun h15 hr=>?_
 refine q0f rfl (dT h15) ?_
 refine sr ?_
 refine N3 ?_
 refine AW.ret ?_
 cases hr
 exact q0a [] 0 hS
 refine q0g rfl (dF h15) ?_
 refine q0b ?_
 refine sr ?_
 refine N3 ?_
 refine AW.ret ?_
 cases hr
 exact q0a [] 0 hS
def q9V (rec_iTypeOfExpr:Grammar→Rule→Expr→Option Int)(a0:Grammar)(a1:Rule):Nat→Expr→((List Int))→Option ((List Int)):=fun k1 xk1 s1=>
 (rec_iTypeOfExpr a0 a1 xk1).bind fun y1=>
 grd (((s1.length:Int)+1)*8≤140737488355328∧(s1.length:Int)+1≤9223372036854775807) <|
 some (s1++[y1])
def q9j (rec_iTypeOfExpr:Grammar→Rule→Expr→Option Int)(a0:Grammar)(a1:Rule)(a2:Expr):Option Int:=
 (eachL (q9V rec_iTypeOfExpr a0 a1) 0 a2.Args ([]:List Int)).bind fun s1=>
 if a2.Kind=1 then (
 some a2.Type_
 ) else (
 (
 if a2.Kind=2 then (
 some a1.Literal
 ) else (
 some false
 )
 ).bind fun s2=>
 if s2=true then (
 some 1
 ) else (
 if a2.Kind=3 then (
 (q5D a0 a1 (⟨a2.Pos,a2.Name⟩:Occurrence)).bind fun (y2,y3)=>
 some y2.Type_
 ) else (
 (
 if a2.Kind=4 then (
 some (decide ((s1.length:Int)=2))
 ) else (
 some false
 )
 ).bind fun s3=>
 if s3=true then (
 (q7Y a2.N).bind fun (y4,y5,y6)=>
 (s1[0]?).bind fun x1=>
 (
 if x1=y4 then (
 (s1[1]?).bind fun x2=>
 some (decide (x2=y5))
 ) else (
 some false
 )
 ).bind fun s4=>
 if s4=true then (
 some y6
 ) else (
 some 0
 )
 ) else (
 (
 if a2.Kind=5 then (
 some (decide ((s1.length:Int)=3))
 ) else (
 some false
 )
 ).bind fun s5=>
 if s5=true then (
 (s1[0]?).bind fun x3=>
 if x3=3 then (
 (s1[1]?).bind fun x4=>
 (s1[2]?).bind fun x5=>
 if x4=x5 then (
 some x4
 ) else (
 some 0
 )
 ) else (
 some 0
 )
 ) else (
 (
 if a2.Kind=6 then (
 (q4o a2.Pos 0 (a1.Right.length:Int)).bind fun y7=>
 some y7
 ) else (
 some false
 )
 ).bind fun s6=>
 (
 if s6=true then (
 some s6
 ) else (
 some (decide (a2.Kind=7))
 )
 ).bind fun s7=>
 if s7=true then (
 some 4
 ) else (
 (
 if a2.Kind=8 then (
 some (decide ((s1.length:Int)=1))
 ) else (
 some false
 )
 ).bind fun s8=>
 (
 if s8=true then (
 (s1[0]?).bind fun x6=>
 some (decide (x6=4))
 ) else (
 some false
 )
 ).bind fun s9=>
 if s9=true then (
 (q5d a0 a2.Symbol).bind fun (y8,y9)=>
 (q5e y8 a2.Name).bind fun (y10,y11)=>
 some y10.Type_
 ) else (
 some 0
 )
 )
 )
 )
 )
 )
 )
theorem z7v {rec_iTypeOfExpr:Grammar→Rule→Expr→Option Int}(ih_iTypeOfExpr:∀ {m:Md} {a0:Grammar} {a1:Rule} {a2:Expr} {r:Int},rec_iTypeOfExpr a0 a1 a2=some r→Ok Tryz.prog 118 [Grammar.y m a0,Rule.x m a1,Expr.x m a2] [] (.d .fz (.i .i64 r)) []){m:Md}{a0:Grammar}{a1:Rule}{a2:Expr}{r:Int}(hr:q9j rec_iTypeOfExpr a0 a1 a2=some r):Ok Tryz.prog 118 [Grammar.y m a0,Rule.x m a1,Expr.x m a2] [] (.d .fz (.i .i64 r)) []:=by
 refine Ok.enter rfl Tryz.func118 rfl rfl rfl fun S hS=>?_
 unfold q9j at hr
 refine sr ?_
 refine BX 0 ?_
 refine BX 1 ?_
 refine BX 2 ?_
 refine N1 ?_
 refine sr ?_
 refine L0 3 (A.D.i .i64) ?_
 refine N1 ?_
 refine ssr ?_
 refine W2 ?_
 refine LF ?_
 refine N1 ?_
 refine AW.block ?_
 refine AW.len (.ag 6 (.tmp 2 rfl) rfl) fun hl1=>?_
 refine bdE hr fun s1 hqq1 hr=>?_
 refine q0o hqq1 hl1 4 (fun k1 s1=>[(3,.pb 0 0),(4,.pb 1 0),(5,.pb 2 0),(7,.ref 3 none),(21,.d m (.sl 7 (a2.Args.map Expr.D))),(22,.d .fz (.i .i64 (a2.Args.length:Int))),(23,.d .fz (.i .i64 (k1:Int)))]) (fun k1 s1=>[(3,.row .fz 1 (s1.map (A.D.i .i64)))]) (GH.trans (q0m (q:=0) [.d m (.sl 2 (a0.Symbols.map Symbol.D)),.u] (.cons .rfl (.cons .u .nil)) rfl) (q0e hS 4)) (fun k1 xk1 sk1 ok1 hxk1 hr hltk1=>?_) fun k1 hltk1=>?_
 obtain⟨s1,rfl⟩:∃ y,y=sk1:=⟨_,rfl⟩
 refine sr ?_
 refine N1 ?_
 refine q0d (q0f rfl (dT hltk1) ?_)
 refine q0b ?_
 refine q0d (AW.block (q0d (q0c ?_)))
 refine IFq (Int.natCast_nonneg _) hxk1 (Expr.D_cells xk1) ?_
 refine W1 ?_
 refine NV 4 ?_
 refine SB ?_
 refine N0 ?_
 refine q0c ?_
 refine W4 ?_
 refine bdE hr fun y1 hy1 hr=>?_
 refine CB [] [] (ih_iTypeOfExpr (m:=m) hy1) ?_
 refine LIR 5 (m:=.fz) (f:=(A.D.i .i64)) (xs:=([y1]:List Int)) ?_
 refine ggE hr fun g1 hr=>?_
 refine APf1 (f:=(A.D.i .i64)) 6 (fun _=>rfl) 8 g1 ?_
 refine N1 ?_
 refine q0c ?_
 refine OB _ (q3B (p:=k1) (q:=1) (q3m hltk1 hl1)) ?_
 refine N1 ?_
 cases hr
 exact GH.trans (q0m (q:=0) [.d m (.sl 2 (a0.Symbols.map Symbol.D)),.u] (.cons .rfl (.cons .u .nil)) rfl) (q0l hS [(0,0),(1,1),(2,2),(6,3)] 4)
 refine sr ?_
 refine N1 ?_
 refine q0d (q0g rfl (dF hltk1) ?_)
 refine q0i ?_
 refine q0d (AW.block (q0d (q0c ?_)))
 refine N4 ?_
 refine ifE hr (fun h1 hr=>?_) fun h1 hr=>?_
 refine q0f rfl (dT h1) ?_
 refine sr ?_
 refine N3 ?_
 refine AW.ret ?_
 cases hr
 exact q0a [] 0 hS
 refine q0g rfl (dF h1) ?_
 refine sr ?_
 refine W3 ?_
 refine bdE hr fun s2 hqq2 hr=>?_
 refine q0h 4 [(3,.pb 0 0),(4,.pb 1 0),(5,.pb 2 0),(7,.ref 3 none),(48,.d .fz (.b s2))] ?_ ?_
 replace hr:=hqq2
 refine ifE hr (fun h2 hr=>?_) fun h2 hr=>?_
 refine VT rfl (dT h2) ?_
 refine N3 ?_
 cases hr
 exact q3n
 refine VF rfl (dF h2) ?_
 iterate 2 refine AL.off ?_
 refine N1 ?_
 cases hr
 exact q3n
 refine N1 ?_
 refine ifE hr (fun h3 hr=>?_) fun h3 hr=>?_
 refine q0f rfl h3 ?_
 refine sr ?_
 refine N1 ?_
 refine AW.ret ?_
 cases hr
 exact q0a [] 0 hS
 refine q0g rfl (bF h3) ?_
 refine sr ?_
 refine N4 ?_
 refine ifE hr (fun h4 hr=>?_) fun h4 hr=>?_
 refine q0f rfl (dT h4) ?_
 refine sr ?_
 refine W5 ?_
 refine W2 ?_
 refine bdE hr fun q3 hq3 hr=>?_
 obtain⟨y2,y3⟩:=q3
 refine CB [] [] (q9h (m:=m) hq3) ?_
 refine W3 ?_
 refine NV 4 ?_
 refine SB ?_
 refine N1 ?_
 refine sr ?_
 refine N3 ?_
 refine AW.ret ?_
 cases hr
 exact q0a [] 0 hS
 refine q0g rfl (dF h4) ?_
 refine sr ?_
 refine W3 ?_
 refine bdE hr fun s3 hqq4 hr=>?_
 refine q0h 5 [(3,.pb 0 0),(4,.pb 1 0),(5,.pb 2 0),(7,.ref 3 none),(74,.d .fz (.b s3))] ?_ ?_
 replace hr:=hqq4
 refine ifE hr (fun h5 hr=>?_) fun h5 hr=>?_
 refine VT rfl (dT h5) ?_
 refine W1 ?_
 refine LE ?_
 refine N2 ?_
 cases hr
 exact q3n
 refine VF rfl (dF h5) ?_
 iterate 3 refine AL.off ?_
 refine N1 ?_
 cases hr
 exact q3n
 refine N1 ?_
 refine ifE hr (fun h6 hr=>?_) fun h6 hr=>?_
 refine q0f rfl h6 ?_
 refine sr ?_
 refine W2 ?_
 refine bdE hr fun q5 hq5 hr=>?_
 obtain⟨y4,y5,y6⟩:=q5
 refine CB [] [] (z6l hq5) ?_
 refine W5 ?_
 refine N2 ?_
 refine sr ?_
 refine W1 ?_
 refine bdE hr fun x1 hx1 hr=>?_
 refine IE hx1 (Int.natCast_nonneg _) ?_
 refine LP hx1 ?_
 refine W2 ?_
 refine bdE hr fun s4 hqq6 hr=>?_
 refine q0h 7 [(14,.d .fz (.i .i64 y6)),(93,.d .fz (.b s4))] ?_ ?_
 replace hr:=hqq6
 refine ifE hr (fun h7 hr=>?_) fun h7 hr=>?_
 refine VT rfl (dT h7) ?_
 refine W1 ?_
 refine bdE hr fun x2 hx2 hr=>?_
 refine IE hx2 (Int.natCast_nonneg _) ?_
 refine LP hx2 ?_
 refine N3 ?_
 cases hr
 exact q3n
 refine VF rfl (dF h7) ?_
 iterate 5 refine AL.off ?_
 refine N1 ?_
 cases hr
 exact q3n
 refine N0 ?_
 refine ifE hr (fun h8 hr=>?_) fun h8 hr=>?_
 refine q0f rfl h8 ?_
 refine sr ?_
 refine N2 ?_
 refine AW.ret ?_
 cases hr
 exact q0a [] 0 hS
 refine q0g rfl (bF h8) ?_
 refine q0b ?_
 refine sr ?_
 refine N1 ?_
 refine AW.ret ?_
 cases hr
 exact q0a [] 0 hS
 refine q0g rfl (bF h6) ?_
 refine sr ?_
 refine W3 ?_
 refine bdE hr fun s5 hqq7 hr=>?_
 refine q0h 5 [(3,.pb 0 0),(4,.pb 1 0),(5,.pb 2 0),(7,.ref 3 none),(103,.d .fz (.b s5))] ?_ ?_
 replace hr:=hqq7
 refine ifE hr (fun h9 hr=>?_) fun h9 hr=>?_
 refine VT rfl (dT h9) ?_
 refine W1 ?_
 refine LE ?_
 refine N2 ?_
 cases hr
 exact q3n
 refine VF rfl (dF h9) ?_
 iterate 3 refine AL.off ?_
 refine N1 ?_
 cases hr
 exact q3n
 refine N1 ?_
 refine ifE hr (fun h10 hr=>?_) fun h10 hr=>?_
 refine q0f rfl h10 ?_
 refine q0d (q0j (h:=?_))
 refine W1 ?_
 refine bdE hr fun x3 hx3 hr=>?_
 refine IE hx3 (Int.natCast_nonneg _) ?_
 refine LP hx3 ?_
 refine W1 ?_
 refine ifE hr (fun h11 hr=>?_) fun h11 hr=>?_
 refine VT rfl (dT h11) ?_
 refine W1 ?_
 refine bdE hr fun x4 hx4 hr=>?_
 refine IE hx4 (Int.natCast_nonneg _) ?_
 refine LP hx4 ?_
 refine W1 ?_
 refine bdE hr fun x5 hx5 hr=>?_
 refine IE hx5 (Int.natCast_nonneg _) ?_
 refine LP hx5 ?_
 refine N2 ?_
 refine ifE hr (fun h12 hr=>?_) fun h12 hr=>?_
 refine q0f rfl (dT h12) ?_
 refine sr ?_
 refine W1 ?_
 refine IE hx4 (Int.natCast_nonneg _) ?_
 refine LP hx4 ?_
 refine N1 ?_
 refine AW.ret ?_
 cases hr
 exact q0a [] 0 hS
 refine q0g rfl (dF h12) ?_
 refine q0b ?_
 refine sr ?_
 refine N1 ?_
 refine AW.ret ?_
 cases hr
 exact q0a [] 0 hS
 refine VF rfl (dF h11) ?_
 iterate 7 refine AL.off ?_
 refine N1 ?_
 refine q0g rfl rfl ?_
 refine q0b ?_
 refine sr ?_
 refine N1 ?_
 refine AW.ret ?_
 cases hr
 exact q0a [] 0 hS
 refine q0g rfl (bF h10) ?_
 refine ssr ?_
 refine W3 ?_
 refine bdE hr fun s6 hqq8 hr=>?_
 refine q0h 8 [(3,.pb 0 0),(5,.pb 2 0),(7,.ref 3 none),(131,.d .fz (.b s6))] ?_ ?_
 replace hr:=hqq8
 refine ifE hr (fun h13 hr=>?_) fun h13 hr=>?_
 refine VT rfl (dT h13) ?_
 refine W4 ?_
 refine LF ?_
 refine bdE hr fun y7 hy7 hr=>?_
 refine CB [] [] (q4V hy7) ?_
 refine N1 ?_
 cases hr
 exact q3n
 refine VF rfl (dF h13) ?_
 iterate 6 refine AL.off ?_
 refine N1 ?_
 cases hr
 exact q3n
 refine N1 ?_
 refine bdE hr fun s7 hqq9 hr=>?_
 refine q0n 4 [(3,.pb 0 0),(5,.pb 2 0),(7,.ref 3 none),(120,.d .fz (.b s7))] [] ?_ ?_
 replace hr:=hqq9
 refine ifE hr (fun h14 hr=>?_) fun h14 hr=>?_
 refine q0f rfl h14 ?_
 refine q0b ?_
 cases hr
 exact GH.trans (q0m (q:=0) [.d m (.sl 2 (a0.Symbols.map Symbol.D)),.u] (.cons .rfl (.cons .u .nil)) rfl) (q0e hS 4)
 refine q0g rfl (bF h14) ?_
 refine q0c ?_
 refine N4 ?_
 cases hr
 exact GH.trans (q0m (q:=0) [.d m (.sl 2 (a0.Symbols.map Symbol.D)),.u] (.cons .rfl (.cons .u .nil)) rfl) (q0e hS 4)
 refine ifE hr (fun h15 hr=>?_) fun h15 hr=>?_
 refine q0f rfl h15 ?_
 refine sr ?_
 refine N1 ?_
 refine AW.ret ?_
 cases hr
 exact q0a [] 0 hS
 refine q0g rfl (bF h15) ?_
 refine sr ?_
 refine W3 ?_
 refine bdE hr fun s8 hqq10 hr=>?_
 refine q0h 5 [(3,.pb 0 0),(5,.pb 2 0),(7,.ref 3 none),(143,.d .fz (.b s8))] ?_ ?_
 replace hr:=hqq10
 refine ifE hr (fun h16 hr=>?_) fun h16 hr=>?_
 refine VT rfl (dT h16) ?_
 refine W1 ?_
 refine LE ?_
 refine N2 ?_
 cases hr
 exact q3n
 refine VF rfl (dF h16) ?_
 iterate 3 refine AL.off ?_
 refine N1 ?_
 cases hr
 exact q3n
 refine bdE hr fun s9 hqq11 hr=>?_
 refine q0h 6 [(3,.pb 0 0),(5,.pb 2 0),(149,.d .fz (.b s9))] ?_ ?_
 replace hr:=hqq11
 refine ifE hr (fun h17 hr=>?_) fun h17 hr=>?_
 refine VT rfl h17 ?_
 refine W1 ?_
 refine bdE hr fun x6 hx6 hr=>?_
 refine IE hx6 (Int.natCast_nonneg _) ?_
 refine LP hx6 ?_
 refine N2 ?_
 cases hr
 exact q3n
 refine VF rfl (bF h17) ?_
 iterate 4 refine AL.off ?_
 refine N1 ?_
 cases hr
 exact q3n
 refine N1 ?_
 refine ifE hr (fun h18 hr=>?_) fun h18 hr=>?_
 refine q0f rfl h18 ?_
 refine sr ?_
 refine W3 ?_
 refine bdE hr fun q12 hq12 hr=>?_
 obtain⟨y8,y9⟩:=q12
 refine CB [] [] (q7H (m:=m) hq12) ?_
 refine W3 ?_
 refine NV 4 ?_
 refine SB ?_
 refine N1 ?_
 refine sr ?_
 refine W3 ?_
 refine bdE hr fun q13 hq13 hr=>?_
 obtain⟨y10,y11⟩:=q13
 refine CB [] [] (q9J (m:=m) hq13) ?_
 refine W3 ?_
 refine NV 5 ?_
 refine SB ?_
 refine N1 ?_
 refine sr ?_
 refine N3 ?_
 refine AW.ret ?_
 cases hr
 exact q0a [] 0 hS
 refine q0g rfl (bF h18) ?_
 refine q0b ?_
 refine sr ?_
 refine N1 ?_
 refine AW.ret ?_
 cases hr
 exact q0a [] 0 hS
end Go.Proofs.YtibagkppfnjgcaaGreat
