/- What some functions of the program compute, as partial functions on plain data, and that they do; each lemma bears its conditions in its statement. -/
import Derived.Test.YtiojgbiimbefiabGreatLift5
set_option linter.unusedVariables false
set_option linter.unusedSimpArgs false
set_option linter.ambiguousOpen false
set_option linter.unusedSectionVars false
set_option linter.unnecessarySimpa false
set_option maxRecDepth 100000
set_option maxHeartbeats 40000000
noncomputable section
namespace Go.Proofs.YtiojgbiimbefiabGreat
open Go Go.E Go.A
def q2a (rec_ieveryNode_iAttributeUses_1:Expr→(List Occurrence)→Option (Bool × (List Occurrence)))(a0:Expr)(o0:(List Occurrence)):Option (Bool × (List Occurrence)):=
 (q3B a0 o0).bind fun (y1,z1)=>
 if y1=true then (
 (q1m rec_ieveryNode_iAttributeUses_1 a0.Args z1).bind fun (y2,z2)=>
 some (!y2,z2)
 ) else (
 some (false,z1)
 )
theorem q5P {rec_ieveryNode_iAttributeUses_1:Expr→(List Occurrence)→Option (Bool × (List Occurrence))}(ih_ieveryNode_iAttributeUses_1:∀ {m:Md} {a0:Expr} {o0:(List Occurrence)} {r:(Bool × (List Occurrence))},rec_ieveryNode_iAttributeUses_1 a0 o0=some r→Ok Tryz.prog 86 [Expr.x m a0,.fn 87 [.pb 0 0]] [.box [.ref 1 none],.row .fz 2 (o0.map Occurrence.D)] (.d .fz (.b r.1)) [.box [.ref 2 none],.dead,.row .fz 2 (r.2.map Occurrence.D)]){m:Md}{a0:Expr}{o0:(List Occurrence)}{r:(Bool × (List Occurrence))}(hr:q2a rec_ieveryNode_iAttributeUses_1 a0 o0=some r):Ok Tryz.prog 86 [Expr.x m a0,.fn 87 [.pb 0 0]] [.box [.ref 1 none],.row .fz 2 (o0.map Occurrence.D)] (.d .fz (.b r.1)) [.box [.ref 2 none],.dead,.row .fz 2 (r.2.map Occurrence.D)]:=by
 refine Ok.enter rfl Tryz.func86 rfl rfl rfl fun S hS=>?_
 unfold q2a at hr
 refine AW.seq (AW.regL ?_)
 refine BX 2 ?_
 refine BX 3 ?_
 refine V rfl ?_
 refine AL.nil ?_
 refine AW.seq (AW.regL ?_)
 iterate 2 refine V rfl ?_
 refine bdE hr fun q1 hq1 hr=>?_
 obtain⟨y1,z1⟩:=q1
 refine CB [(0,0),(1,1),(2,4)] [] (q9u (m:=m) hq1) ?_
 refine ifE hr (fun h1 hr=>?_) fun h1 hr=>?_
 ·refine VT rfl h1 ?_
  iterate 3 refine V rfl ?_
  refine bdE hr fun q2 hq2 hr=>?_
  obtain⟨y2,z2⟩:=q2
  refine CB [(0,0),(1,3),(2,4),(3,5)] [] (q2O ih_ieveryNode_iAttributeUses_1 (m:=m) hq2) ?_
  iterate 3 refine V rfl ?_
  refine AL.nil ?_
  refine AW.ret ?_
  cases hr
  exact endA.renK [(0,0),(1,1),(5,2)] 3 hS
 ·refine VF rfl (bF h1) ?_
  refine AL.off ?_
  refine AL.off ?_
  refine AL.off ?_
  refine AL.off ?_
  refine AL.off ?_
  iterate 2 refine V rfl ?_
  refine AL.nil ?_
  refine AW.ret ?_
  cases hr
  exact endA.renK [(0,0),(1,1),(4,2)] 3 hS
def q1N:Nat→Expr→(List Occurrence)→Option (Bool × (List Occurrence))
  | 0,_,_=>none
  | n+1,a0,o0=>q2a (q1N n) a0 o0
def q2V (a0:Expr)(o0:(List Occurrence)):Option (Bool × (List Occurrence)):=recO fun n=>q1N n a0 o0
theorem q5Q (n:Nat):∀ {m:Md} {a0:Expr} {o0:(List Occurrence)} {r:(Bool × (List Occurrence))},q1N n a0 o0=some r→Ok Tryz.prog 86 [Expr.x m a0,.fn 87 [.pb 0 0]] [.box [.ref 1 none],.row .fz 2 (o0.map Occurrence.D)] (.d .fz (.b r.1)) [.box [.ref 2 none],.dead,.row .fz 2 (r.2.map Occurrence.D)]:=by
  induction n with
  | zero=>intro _ _ _ r hr; exact nomatch (show (none:Option (Bool × (List Occurrence)))=some r from hr)
  | succ n ih=>intro _ _ _ r hr; exact q5P ih hr
theorem q6j {m:Md}{a0:Expr}{o0:(List Occurrence)}{r:(Bool × (List Occurrence))}(hr:q2V a0 o0=some r):Ok Tryz.prog 86 [Expr.x m a0,.fn 87 [.pb 0 0]] [.box [.ref 1 none],.row .fz 2 (o0.map Occurrence.D)] (.d .fz (.b r.1)) [.box [.ref 2 none],.dead,.row .fz 2 (r.2.map Occurrence.D)]:=by
  obtain⟨n,hn⟩:=q3M hr
  exact q5Q n hn
def q2x (a0:(List Occurrence)):Option (List Occurrence):=
 grd (a0.length < 4611686018427387904) <|
 some (z5V a0)
theorem q6r {a0:(List Occurrence)}{r:(List Occurrence)}(hr:q2x a0=some r):Ok Tryz.prog 88 [.ref 0 none,.fn 89 []] [.row .fz 2 (a0.map Occurrence.D)] (.tu []) [.row .fz 2 (r.map Occurrence.D)]:=by
 unfold q2x at hr
 refine ggE hr fun g1 hr=>?_
 cases hr
 exact j0D g1
def q1t (s1:Int):((List Occurrence) × Int × Int)→Option (((List Occurrence) × Int × Int) ⊕ ((List Occurrence) × Int)):=fun (s4,s5,s6)=>
 if s6 < ((s4.drop s1.toNat).length:Int) then (
 (
 grd (0≤s6) <|
 (s4[(s1.toNat+s6.toNat)]?).bind fun x3=>
 grd (I64 (s6 - 1)) <|
 grd (0≤(s6 - 1)) <|
 (s4[(s1.toNat+((s6 - 1).toNat))]?).bind fun x4=>
 if x3=x4 then (
 some (s5,s4)
 ) else (
 grd (0≤s6) <|
 grd (0≤s5) <|
 (s4[s5.toNat]?).bind fun x5=>
 grd (I64 (s5+1)) <|
 some ((s5+1),(List.set s4 s5.toNat x3))
 )
 ).bind fun (s7,s8)=>
 grd (I64 (s6+1)) <|
 some (.inl (s8,s7,(s6+1)))
 ) else (
 some (.inr (s4,s5))
 )
def q1u (a0:(List Occurrence)):Int→Option (Int ⊕ (Unit ⊕ (List Occurrence))):=fun s1=>
 if s1 < (a0.length:Int) then (
 grd (0≤s1) <|
 (a0[s1.toNat]?).bind fun x1=>
 grd (I64 (s1 - 1)) <|
 grd (0≤(s1 - 1)) <|
 (a0[(s1 - 1).toNat]?).bind fun x2=>
 if x1=x2 then (
 grd (0≤s1) <|
 grd (s1.toNat≤a0.length) <|
 (q3D (q1t s1) (a0,s1,1)).bind fun (s2,s3)=>
 grd (0≤s3) <|
 grd (s3.toNat≤s2.length) <|
 grd (0≤s3) <|
 grd (s3.toNat≤(s2.take s3.toNat++List.replicate (s2.length - s3.toNat) (⟨(0:Int),(⟨#[]⟩:ByteArray)⟩:Occurrence)).length) <|
 some (.inr (.inr ((s2.take s3.toNat++List.replicate (s2.length - s3.toNat) (⟨(0:Int),(⟨#[]⟩:ByteArray)⟩:Occurrence)).take s3.toNat)))
 ) else (
 grd (I64 (s1+1)) <|
 some (.inl (s1+1))
 )
 ) else (
 some (.inr (.inl ()))
 )
def q2j (a0:(List Occurrence)):Option (List Occurrence):=
 if (a0.length:Int) < 2 then (
 some a0
 ) else (
 (q3D (q1u a0) 1).bind <| onr (fun r1=>some r1) fun ()=>
 some a0
 )
theorem q6A {a0:(List Occurrence)}{r:(List Occurrence)}(hr:q2j a0=some r):Ok Tryz.prog 90 [.ref 0 none] [.row .fz 2 (a0.map Occurrence.D)] (.ref 1 none) [.dead,.row .fz 2 (r.map Occurrence.D)]:=by
 refine Ok.enter rfl Tryz.func90 rfl rfl rfl fun S hS=>?_
 unfold q2j at hr
 refine AW.seq (AW.regL ?_)
 refine V rfl ?_
 refine AL.nil ?_
 refine AW.seq (AW.seq (AW.regL ?_))
 refine V rfl ?_
 refine LE ?_
 refine V rfl ?_
 refine AL.nil ?_
 refine ifE hr (fun h1 hr=>?_) fun h1 hr=>?_
 ·refine AW.cT rfl (dT h1) ?_
  refine AW.seq (AW.regL ?_)
  iterate 2 refine V rfl ?_
  refine AL.nil ?_
  refine AW.ret ?_
  refine endA.gh (GH.mv (i:=0) (j:=1) rfl rfl) ?_
  cases hr
  exact endA.renK [(0,0),(1,1)] 2 hS
 ·refine AW.cF rfl (dF h1) ?_
  refine AW.skip ?_
  refine AW.seq (AW.seq (AW.regL ?_))
  refine V rfl ?_
  refine AL.nil ?_
  refine bdE hr fun q1 hqq1 hr=>?_
  refine AW.cut 1 (fun _=>[(0,.ref 0 none)]) (fun _=>[]) (M:=fun x=>q1 = .inl x) ?_ fun x hx=>?_
  ·refine AW.block (AW.iter hqq1 1 (fun s1=>[(0,.ref 0 none),(3,.d .fz (.i .i64 s1))]) (fun s1=>[]) (GH.renK hS [(0,0)] 1) fun sk1 ok1 hr hik1=>?_)
   obtain⟨s1,rfl⟩:∃ y,y=sk1:=⟨_,rfl⟩
   have hr:=hr
   refine AW.seq (AW.seq (AW.regL ?_))
   iterate 2 refine V rfl ?_
   refine LE ?_
   refine V rfl ?_
   refine AL.nil ?_
   refine ifE hr (fun h2 hr=>?_) fun h2 hr=>?_
   ·refine AW.cT rfl (dT h2) ?_
    refine AW.skip ?_
    refine AW.seq (AW.block (AW.seq (AW.drawL (h:=?_))))
    iterate 2 refine V rfl ?_
    refine ggE hr fun g1 hr=>?_
    refine bdE hr fun x1 hx1 hr=>?_
    refine IE hx1 g1 ?_
    refine LPa hx1 ?_
    iterate 2 refine V rfl ?_
    refine ggE hr fun g2 hr=>?_
    refine OB _ (bSub g2) ?_
    refine ggE hr fun g3 hr=>?_
    refine bdE hr fun x2 hx2 hr=>?_
    refine IE hx2 g3 ?_
    refine LPa hx2 ?_
    refine SQ rfl rfl rfl rfl (q2K x1 x2) ?_
    refine AL.nil ?_
    refine ifE hr (fun h3 hr=>?_) fun h3 hr=>?_
    ·refine AW.cT rfl (dT h3) ?_
     refine AW.seq (AW.regL ?_)
     iterate 2 refine V rfl ?_
     refine ggE hr fun g4 hr=>?_
     refine ggE hr fun g5 hr=>?_
     refine SVL g4 g5 ?_
     refine V rfl ?_
     refine AL.nil ?_
     refine AW.seq (AW.seq (AW.regL ?_))
     refine V rfl ?_
     refine AL.nil ?_
     refine bdE hr fun q2 hqq2 hr=>?_
     obtain⟨s2,s3⟩:=q2
     refine AW.cut1 1 [(0,.ref 0 none),(3,.d .fz (.i .i64 s3))] [(0,.row .fz 2 (s2.map Occurrence.D))] ?_ ?_
     ·refine AW.block (AW.iter hqq2 1 (fun (s4,s5,s6)=>[(0,.ref 0 none),(3,.d .fz (.i .i64 s5)),(4,.vs 0 none s1.toNat (s4.length - s1.toNat)),(5,.d .fz (.i .i64 s6))]) (fun (s4,s5,s6)=>[(0,.row .fz 2 (s4.map Occurrence.D))]) (GH.ren hS [(0,0)] 1 ⟨.rfl,.rfl,(.vn (by first | rfl | simp only [List.length_set])),.rfl,trivial⟩) fun sk2 ok2 hr hik2=>?_)
      obtain⟨s4,s5,s6⟩:=sk2
      have hr:=hr
      refine AW.seq (AW.seq (AW.regL ?_))
      iterate 2 refine V rfl ?_
      refine LV (s4.drop s1.toNat).length ?_
      refine V rfl ?_
      refine AL.nil ?_
      refine ifE hr (fun h4 hr=>?_) fun h4 hr=>?_
      ·refine AW.cT rfl (dT h4) ?_
       refine AW.skip ?_
       refine bdE hr fun q3 hqq3 hr=>?_
       obtain⟨s7,s8⟩:=q3
       refine AW.seq (AW.cut1 1 [(0,.ref 0 none),(3,.d .fz (.i .i64 s7)),(4,.vs 0 none s1.toNat (s8.length - s1.toNat)),(5,.d .fz (.i .i64 s6))] [(0,.row .fz 2 (s8.map Occurrence.D))] ?_ ?_)
       ·replace hr:=hqq3
        refine AW.block (AW.seq (AW.drawL (h:=?_)))
        iterate 2 refine V rfl ?_
        refine ggE hr fun g6 hr=>?_
        refine bdE hr fun x3 hx3 hr=>?_
        refine IV hx3 g6 (z0n hx3) ?_
        refine LPa hx3 ?_
        iterate 2 refine V rfl ?_
        refine ggE hr fun g7 hr=>?_
        refine OB _ (bSub g7) ?_
        refine ggE hr fun g8 hr=>?_
        refine bdE hr fun x4 hx4 hr=>?_
        refine IV hx4 g8 (z0n hx4) ?_
        refine LPa hx4 ?_
        refine SQn rfl rfl rfl rfl (q2K x3 x4) ?_
        refine AL.nil ?_
        refine ifE hr (fun h5 hr=>?_) fun h5 hr=>?_
        ·refine AW.cF rfl (nF h5) ?_
         refine AW.skip ?_
         cases hr
         exact GH.ren hS [(0,0)] 1 ⟨.rfl,.rfl,(.vn (by first | rfl | simp only [List.length_set])),.rfl,trivial⟩
        ·refine AW.cT rfl (nT h5) ?_
         refine AW.seq (AW.regL ?_)
         iterate 4 refine V rfl ?_
         refine ggE hr fun g9 hr=>?_
         refine IV hx3 g9 (z0n hx3) ?_
         refine LPa hx3 ?_
         refine ggE hr fun g10 hr=>?_
         refine bdE hr fun x5 hx5 hr=>?_
         refine IE hx5 g10 ?_
         refine SE x3 hx5 ?_
         refine AL.nil ?_
         refine AW.regL ?_
         refine V rfl ?_
         refine ggE hr fun g11 hr=>?_
         refine OB _ (bAdd g11) ?_
         refine V rfl ?_
         refine AL.nil ?_
         cases hr
         exact GH.ren hS [(0,0)] 1 ⟨.rfl,.rfl,(.vn (by first | rfl | simp only [List.length_set])),.rfl,trivial⟩
       ·refine AW.regL ?_
        refine V rfl ?_
        refine ggE hr fun g12 hr=>?_
        refine OB _ (bAdd g12) ?_
        refine V rfl ?_
        refine AL.nil ?_
        cases hr
        exact⟨_,rfl,GH.ren hS [(0,0)] 1 ⟨.rfl,.rfl,(.vn (by first | rfl | simp only [List.length_set])),.rfl,trivial⟩⟩
      ·refine AW.cF rfl (dF h4) ?_
       refine AW.exit ?_
       cases hr
       cases hik2 _ rfl
       exact GH.renK hS [(0,0)] 1
     ·refine AW.seq (AW.regL ?_)
      iterate 2 refine V rfl ?_
      refine ggE hr fun g13 hr=>?_
      refine ggE hr fun g14 hr=>?_
      refine SVL g13 g14 ?_
      refine CLR (⟨(0:Int),(⟨#[]⟩:ByteArray)⟩:Occurrence) g14 ?_
      refine AL.nil ?_
      refine AW.seq (AW.regL ?_)
      iterate 2 refine V rfl ?_
      refine ggE hr fun g15 hr=>?_
      refine ggE hr fun g16 hr=>?_
      refine CU 1 g15 g16 ?_
      refine V rfl ?_
      refine AL.nil ?_
      refine AW.ret ?_
      cases hr
      cases hik1 _ rfl
      rename_i hr
      cases hr
      exact endA.renK [(0,0),(1,1)] 2 hS
    ·refine AW.cF rfl (dF h3) ?_
     refine AW.skip ?_
     refine AW.regL ?_
     refine V rfl ?_
     refine ggE hr fun g17 hr=>?_
     refine OB _ (bAdd g17) ?_
     refine V rfl ?_
     refine AL.nil ?_
     cases hr
     exact⟨_,rfl,GH.renK hS [(0,0)] 1⟩
   ·refine AW.cF rfl (dF h2) ?_
    refine AW.exit ?_
    cases hr
    cases hik1 _ rfl
    exact⟨_,rfl,GH.renK hS [(0,0)] 1⟩
  ·subst hx
   refine AW.seq (AW.regL ?_)
   iterate 2 refine V rfl ?_
   refine AL.nil ?_
   refine AW.ret ?_
   refine endA.gh (GH.mv (i:=0) (j:=1) rfl rfl) ?_
   cases hr
   exact endA.renK [(0,0),(1,1)] 2 hS
def q4l (a0:Expr):Option (List Occurrence):=
 (q2V a0 []).bind fun (y1,z1)=>
 (q2x z1).bind fun z2=>
 (q2j z2).bind fun y2=>
 some y2
theorem z0r {m:Md}{a0:Expr}{r:(List Occurrence)}(hr:q4l a0=some r):Ok Tryz.prog 56 [Expr.x m a0] [] (.ref 0 none) [.row .fz 2 (r.map Occurrence.D)]:=by
 refine Ok.enter rfl Tryz.func56 rfl rfl rfl fun S hS=>?_
 unfold q4l at hr
 refine AW.seq (AW.regL ?_)
 refine BX 0 ?_
 refine V rfl ?_
 refine AL.nil ?_
 refine AW.seq (AW.regL ?_)
 refine L0 1 Occurrence.D ?_
 refine NV 2 ?_
 refine SB ?_
 refine AL.nil ?_
 refine AW.seq (AW.regL ?_)
 iterate 2 refine V rfl ?_
 refine bdE hr fun q1 hq1 hr=>?_
 obtain⟨y1,z1⟩:=q1
 refine CB [(0,2),(1,1),(2,3)] [] (q6j (m:=m) hq1) ?_
 refine AL.nil ?_
 refine AW.seq (AW.regL ?_)
 refine V rfl ?_
 refine bdE hr fun z2 hz2 hr=>?_
 refine CB [(0,3)] [] (q6r hz2) ?_
 refine AL.nil ?_
 refine AW.seq (AW.regL ?_)
 refine V rfl ?_
 refine bdE hr fun y2 hy2 hr=>?_
 refine CB [(0,3),(1,4)] [] (q6A hy2) ?_
 refine V rfl ?_
 refine AL.nil ?_
 refine AW.ret ?_
 cases hr
 exact endA.renK [(4,0)] 1 hS
def q5R (a1:ByteArray):Nat→Attribute→Unit→Option (Unit ⊕ (Attribute × Bool)):=fun k1 xk1 _=>
 if xk1.Name=a1 then (
 some (.inr (xk1,true))
 ) else (
 some (.inl ())
 )
def q4m (a0:Symbol)(a1:ByteArray):Option (Attribute × Bool):=
 (findL (q5R a1) 0 a0.Attributes ()).bind <| onr (fun r1=>some r1) fun _=>
 some ((⟨(⟨#[]⟩:ByteArray),0,0,false⟩:Attribute),false)
theorem z0s {m:Md}{a0:Symbol}{a1:ByteArray}{r:(Attribute × Bool)}(hr:q4m a0 a1=some r):Ok Tryz.prog 66 [Symbol.x m a0,.d .fz (.s a1)] [] (.tu [Attribute.x .fz r.1,.d .fz (.b r.2)]) []:=by
 refine Ok.enter rfl Tryz.func66 rfl rfl rfl fun S hS=>?_
 unfold q4m at hr
 refine AW.seq (AW.regL ?_)
 refine BX 0 ?_
 refine NV 1 ?_
 refine V rfl ?_
 refine AL.nil ?_
 refine AW.seq (AW.seq (AW.regL ?_))
 iterate 2 refine V rfl ?_
 refine LF ?_
 refine V rfl ?_
 refine AL.nil ?_
 refine AW.block ?_
 refine AW.len (.ag 1 (.tmp 0 rfl) rfl) fun hl1=>?_
 refine bdE hr fun q1 hqq1 hr=>?_
 refine AW.findL hqq1 hl1 2 (fun k1 _=>[(1,.d .fz (.s a1)),(4,.pb 1 0),(9,.d m (.sl 4 (a0.Attributes.map Attribute.D))),(10,.d .fz (.i .i64 (a0.Attributes.length:Int))),(11,.d .fz (.i .i64 (k1:Int)))]) (fun k1 _=>[]) (GH.renK hS [(0,0),(1,1)] 2) (fun k1 xk1 sk1 ok1 hxk1 hr hltk1 hik1=>?_) fun k1 sk1 ek1 hltk1=>?_
 ·refine AW.seq (AW.regL ?_)
  refine V rfl ?_
  refine AL.nil ?_
  refine AW.seq (AW.cT rfl (dT hltk1) ?_)
  refine AW.skip ?_
  refine AW.seq (AW.block (AW.seq (AW.regL ?_)))
  refine IF (Int.natCast_nonneg _) hxk1 ?_
  refine V rfl ?_
  refine NV 2 ?_
  refine SB ?_
  refine AL.nil ?_
  refine AW.seq (AW.regL ?_)
  iterate 4 refine V rfl ?_
  refine AL.nil ?_
  refine ifE hr (fun h1 hr=>?_) fun h1 hr=>?_
  ·refine AW.cT rfl (dT h1) ?_
   refine AW.seq (AW.regL ?_)
   refine V rfl ?_
   refine SB ?_
   refine V rfl ?_
   refine AL.nil ?_
   refine AW.ret ?_
   cases hr
   cases hik1 _ rfl
   rename_i hr
   cases hr
   exact endA.renK [] 0 hS
  ·refine AW.cF rfl (dF h1) ?_
   refine AW.skip ?_
   refine AW.regL ?_
   refine OB _ (q1X (p:=k1) (q:=1) (q1h hltk1 hl1)) ?_
   refine V rfl ?_
   refine AL.nil ?_
   cases hr
   exact⟨_,rfl,GH.renK hS [(0,0),(1,1)] 2⟩
 ·subst ek1
  refine AW.seq (AW.regL ?_)
  refine V rfl ?_
  refine AL.nil ?_
  refine AW.seq (AW.cF rfl (dF hltk1) ?_)
  refine AW.exit ?_
  refine AW.seq (AW.regL ?_)
  refine V rfl ?_
  refine SB ?_
  refine V rfl ?_
  refine AL.nil ?_
  refine AW.ret ?_
  cases hr
  exact endA.renK [] 0 hS
def q4T (a0:Grammar)(a1:Rule)(a2:Occurrence):Option (Attribute × Bool):=
 (q1Z a2.Pos 0 (a1.Right.length:Int)).bind fun y1=>
 if y1=true then (
 (q4B a1 a2.Pos).bind fun y2=>
 (q4f a0 y2).bind fun (y3,y4)=>
 (q4m y3 a2.Name).bind fun (y5,y6)=>
 some (y5,y6)
 ) else (
 some ((⟨(⟨#[]⟩:ByteArray),0,0,false⟩:Attribute),false)
 )
theorem z1X {m:Md}{a0:Grammar}{a1:Rule}{a2:Occurrence}{r:(Attribute × Bool)}(hr:q4T a0 a1 a2=some r):Ok Tryz.prog 29 [Grammar.y m a0,Rule.x m a1,Occurrence.x .fz a2] [] (.tu [Attribute.x .fz r.1,.d .fz (.b r.2)]) []:=by
 refine Ok.enter rfl Tryz.func29 rfl rfl rfl fun S hS=>?_
 unfold q4T at hr
 refine AW.seq (AW.regL ?_)
 refine BX 0 ?_
 refine BX 1 ?_
 refine BX 2 ?_
 refine NV 3 ?_
 refine V rfl ?_
 refine AL.nil ?_
 refine AW.seq (AW.seq (AW.regL ?_))
 iterate 4 refine V rfl ?_
 refine LF ?_
 refine bdE hr fun y1 hy1 hr=>?_
 refine CB [] [] (q2p hy1) ?_
 refine V rfl ?_
 refine AL.nil ?_
 refine ifE hr (fun h1 hr=>?_) fun h1 hr=>?_
 ·refine AW.cF rfl (bnF h1) ?_
  refine AW.skip ?_
  refine AW.seq (AW.drawL (h:=?_))
  iterate 4 refine V rfl ?_
  refine bdE hr fun y2 hy2 hr=>?_
  refine CB [] [] (q8C (m:=m) hy2) ?_
  refine bdE hr fun q1 hq1 hr=>?_
  obtain⟨y3,y4⟩:=q1
  refine CB [] [] (q7t (m:=m) hq1) ?_
  iterate 3 refine V rfl ?_
  refine NV 4 ?_
  refine SB ?_
  refine V rfl ?_
  refine AL.nil ?_
  refine AW.seq (AW.regL ?_)
  iterate 3 refine V rfl ?_
  refine bdE hr fun q2 hq2 hr=>?_
  obtain⟨y5,y6⟩:=q2
  refine CB [] [] (z0s (m:=m) hq2) ?_
  iterate 2 refine V rfl ?_
  refine SB ?_
  refine V rfl ?_
  refine AL.nil ?_
  refine AW.ret ?_
  cases hr
  exact endA.renK [] 0 hS
 ·refine AW.cT rfl (bnT h1) ?_
  refine AW.seq (AW.regL ?_)
  refine V rfl ?_
  refine SB ?_
  refine V rfl ?_
  refine AL.nil ?_
  refine AW.ret ?_
  cases hr
  exact endA.renK [] 0 hS
def q7K (a0:Grammar)(a1:Rule)(a2:Occurrence):Option Bool:=
 (q4T a0 a1 a2).bind fun (y1,y2)=>
 if a2.Pos=0 then (
 (
 if y2=true then (
 some (decide (y1.Mode=1))
 ) else (
 some false
 )
 ).bind fun s1=>
 some s1
 ) else (
 (
 if y2=true then (
 some (decide (y1.Mode=2))
 ) else (
 some false
 )
 ).bind fun s2=>
 some s2
 )
theorem z3j {m:Md}{a0:Grammar}{a1:Rule}{a2:Occurrence}{r:Bool}(hr:q7K a0 a1 a2=some r):Ok Tryz.prog 11 [Grammar.y m a0,Rule.x m a1,Occurrence.x .fz a2] [] (.d .fz (.b r)) []:=by
 refine Ok.enter rfl Tryz.func11 rfl rfl rfl fun S hS=>?_
 unfold q7K at hr
 refine AW.seq (AW.regL ?_)
 refine BX 0 ?_
 refine BX 1 ?_
 refine BX 2 ?_
 refine V rfl ?_
 refine AL.nil ?_
 refine AW.seq (AW.regL ?_)
 iterate 3 refine V rfl ?_
 refine bdE hr fun q1 hq1 hr=>?_
 obtain⟨y1,y2⟩:=q1
 refine CB [] [] (z1X (m:=m) hq1) ?_
 iterate 3 refine V rfl ?_
 refine NV 3 ?_
 refine SB ?_
 refine V rfl ?_
 refine AL.nil ?_
 refine AW.seq (AW.seq (AW.regL ?_))
 iterate 3 refine V rfl ?_
 refine AL.nil ?_
 refine ifE hr (fun h1 hr=>?_) fun h1 hr=>?_
 ·refine AW.cT rfl (dT h1) ?_
  refine AW.seq (AW.regL ?_)
  refine V rfl ?_
  refine bdE hr fun s1 hqq2 hr=>?_
  refine AL.meet1 5 [(6,.d .fz (.b false)),(24,.d .fz (.b s1))] ?_ ?_
  ·replace hr:=hqq2
   refine ifE hr (fun h2 hr=>?_) fun h2 hr=>?_
   ·refine VT rfl h2 ?_
    iterate 4 refine V rfl ?_
    refine AL.nil ?_
    cases hr
    exact q1i
   ·refine VF rfl (bF h2) ?_
    refine AL.off ?_
    refine AL.off ?_
    refine AL.off ?_
    refine V rfl ?_
    refine AL.nil ?_
    cases hr
    exact q1i
  ·refine V rfl ?_
   refine AL.nil ?_
   refine AW.ret ?_
   cases hr
   exact endA.renK [] 0 hS
 ·refine AW.cF rfl (dF h1) ?_
  refine AW.skip ?_
  refine AW.seq (AW.regL ?_)
  refine V rfl ?_
  refine bdE hr fun s2 hqq3 hr=>?_
  refine AL.meet1 5 [(6,.d .fz (.b false)),(30,.d .fz (.b s2))] ?_ ?_
  ·replace hr:=hqq3
   refine ifE hr (fun h3 hr=>?_) fun h3 hr=>?_
   ·refine VT rfl h3 ?_
    iterate 4 refine V rfl ?_
    refine AL.nil ?_
    cases hr
    exact q1i
   ·refine VF rfl (bF h3) ?_
    refine AL.off ?_
    refine AL.off ?_
    refine AL.off ?_
    refine V rfl ?_
    refine AL.nil ?_
    cases hr
    exact q1i
  ·refine V rfl ?_
   refine AL.nil ?_
   refine AW.ret ?_
   cases hr
   exact endA.renK [] 0 hS
def q6b (a0:Occurrence)(a1:Grammar)(a2:Rule):Option Bool:=
 (q7K a1 a2 a0).bind fun y1=>
 some (!y1)
theorem z1Y {m2:Md}{a0:Occurrence}{a1:Grammar}{a2:Rule}{r:Bool}(hr:q6b a0 a1 a2=some r):Ok Tryz.prog 57 [Occurrence.x .fz a0,.pb 0 0,.pb 1 0] [.box [.d m2 (.sl 2 (a1.Symbols.map Symbol.D)),.d m2 (.sl 6 (a1.Rules.map Rule.D))],.box [.d .fz (.s a2.Name),.d .fz (.s a2.Left),.d m2 (.sl 1 (a2.Right.map A.D.s)),.d .fz (.b a2.Literal),.d m2 (.sl 9 (a2.Equations.map Equation.D)),.d m2 (.sl 16 (a2.Contributions.map Contribution.D))]] (.d .fz (.b r)) [.box [.d m2 (.sl 2 (a1.Symbols.map Symbol.D)),.d m2 (.sl 6 (a1.Rules.map Rule.D))],.box [.d .fz (.s a2.Name),.d .fz (.s a2.Left),.d m2 (.sl 1 (a2.Right.map A.D.s)),.d .fz (.b a2.Literal),.d m2 (.sl 9 (a2.Equations.map Equation.D)),.d m2 (.sl 16 (a2.Contributions.map Contribution.D))]]:=by
 refine Ok.enter rfl Tryz.func57 rfl rfl rfl fun S hS=>?_
 unfold q6b at hr
 refine AW.seq (AW.regL ?_)
 refine BX 2 ?_
 refine V rfl ?_
 refine AL.nil ?_
 refine AW.seq (AW.regL ?_)
 iterate 3 refine V rfl ?_
 refine bdE hr fun y1 hy1 hr=>?_
 refine CB [] [] (z3j (m:=m2) hy1) ?_
 iterate 2 refine V rfl ?_
 refine AL.nil ?_
 refine AW.ret ?_
 cases hr
 exact endA.renK [(0,0),(1,1)] 2 hS
def q2C (a1_0:Grammar)(a1_1:Rule):Nat→Occurrence→Unit→Option (Unit ⊕ Int):=fun k1 xk1 _=>
 (q6b xk1 a1_0 a1_1).bind fun y1=>
 if y1=true then (
 some (.inr (k1:Int))
 ) else (
 some (.inl ())
 )
def q1G (a0:(List Occurrence))(a1_0:Grammar)(a1_1:Rule):Option Int:=
 (findL (q2C a1_0 a1_1) 0 a0 ()).bind <| onr (fun r1=>some r1) fun _=>
 some (-1)
theorem q4g {m:Md}{m2:Md}{a0:(List Occurrence)}{a1_0:Grammar}{a1_1:Rule}{r:Int}(hr:q1G a0 a1_0 a1_1=some r):Ok Tryz.prog 82 [.d m (.sl 2 (a0.map Occurrence.D)),.fn 57 [.pb 0 0,.pb 1 0]] [.box [.d m2 (.sl 2 (a1_0.Symbols.map Symbol.D)),.d m2 (.sl 6 (a1_0.Rules.map Rule.D))],.box [.d .fz (.s a1_1.Name),.d .fz (.s a1_1.Left),.d m2 (.sl 1 (a1_1.Right.map A.D.s)),.d .fz (.b a1_1.Literal),.d m2 (.sl 9 (a1_1.Equations.map Equation.D)),.d m2 (.sl 16 (a1_1.Contributions.map Contribution.D))]] (.d .fz (.i .i64 r)) [.box [.d m2 (.sl 2 (a1_0.Symbols.map Symbol.D)),.d m2 (.sl 6 (a1_0.Rules.map Rule.D))],.box [.d .fz (.s a1_1.Name),.d .fz (.s a1_1.Left),.d m2 (.sl 1 (a1_1.Right.map A.D.s)),.d .fz (.b a1_1.Literal),.d m2 (.sl 9 (a1_1.Equations.map Equation.D)),.d m2 (.sl 16 (a1_1.Contributions.map Contribution.D))]]:=by
 refine Ok.enter rfl Tryz.func82 rfl rfl rfl fun S hS=>?_
 unfold q1G at hr
 refine AW.seq (AW.regL ?_)
 refine V rfl ?_
 refine AL.nil ?_
 refine AW.seq (AW.seq (AW.regL ?_))
 refine V rfl ?_
 refine LF ?_
 refine V rfl ?_
 refine AL.nil ?_
 refine AW.block ?_
 refine AW.len (.tmp 0 rfl) fun hl1=>?_
 refine bdE hr fun q1 hqq1 hr=>?_
 refine AW.findL hqq1 hl1 2 (fun k1 _=>[(0,.d m (.sl 2 (a0.map Occurrence.D))),(1,.fn 57 [.pb 0 0,.pb 1 0]),(7,.d .fz (.i .i64 (a0.length:Int))),(8,.d .fz (.i .i64 (k1:Int)))]) (fun k1 _=>[]) (GH.renK hS [(0,0),(1,1)] 2) (fun k1 xk1 sk1 ok1 hxk1 hr hltk1 hik1=>?_) fun k1 sk1 ek1 hltk1=>?_
 ·refine AW.seq (AW.regL ?_)
  refine V rfl ?_
  refine AL.nil ?_
  refine AW.seq (AW.cT rfl (dT hltk1) ?_)
  refine AW.skip ?_
  refine AW.seq (AW.block (AW.seq (AW.regL ?_)))
  iterate 2 refine V rfl ?_
  refine AL.nil ?_
  refine AW.seq (AW.regL ?_)
  iterate 3 refine V rfl ?_
  refine IF (Int.natCast_nonneg _) hxk1 ?_
  refine V rfl ?_
  refine bdE hr fun y1 hy1 hr=>?_
  refine CB [(0,0),(1,1)] [] (z1Y (m2:=m2) hy1) ?_
  refine AL.nil ?_
  refine ifE hr (fun h1 hr=>?_) fun h1 hr=>?_
  ·refine AW.cT rfl h1 ?_
   refine AW.seq (AW.regL ?_)
   iterate 2 refine V rfl ?_
   refine AL.nil ?_
   refine AW.ret ?_
   cases hr
   cases hik1 _ rfl
   rename_i hr
   cases hr
   exact endA.renK [(0,0),(1,1)] 2 hS
  ·refine AW.cF rfl (bF h1) ?_
   refine AW.skip ?_
   refine AW.regL ?_
   refine OB _ (q1X (p:=k1) (q:=1) (q1h hltk1 hl1)) ?_
   refine V rfl ?_
   refine AL.nil ?_
   cases hr
   exact⟨_,rfl,GH.renK hS [(0,0),(1,1)] 2⟩
 ·subst ek1
  refine AW.seq (AW.regL ?_)
  refine V rfl ?_
  refine AL.nil ?_
  refine AW.seq (AW.cF rfl (dF hltk1) ?_)
  refine AW.exit ?_
  refine AW.seq (AW.regL ?_)
  refine V rfl ?_
  refine AL.nil ?_
  refine AW.ret ?_
  cases hr
  exact endA.renK [(0,0),(1,1)] 2 hS
def q1y (a0:(List Occurrence))(a1_0:Grammar)(a1_1:Rule):Option Bool:=
 (q1G a0 a1_0 a1_1).bind fun y1=>
 some (decide (0≤y1))
theorem q3I {m:Md}{m2:Md}{a0:(List Occurrence)}{a1_0:Grammar}{a1_1:Rule}{r:Bool}(hr:q1y a0 a1_0 a1_1=some r):Ok Tryz.prog 47 [.d m (.sl 2 (a0.map Occurrence.D)),.fn 57 [.pb 0 0,.pb 1 0]] [.box [.d m2 (.sl 2 (a1_0.Symbols.map Symbol.D)),.d m2 (.sl 6 (a1_0.Rules.map Rule.D))],.box [.d .fz (.s a1_1.Name),.d .fz (.s a1_1.Left),.d m2 (.sl 1 (a1_1.Right.map A.D.s)),.d .fz (.b a1_1.Literal),.d m2 (.sl 9 (a1_1.Equations.map Equation.D)),.d m2 (.sl 16 (a1_1.Contributions.map Contribution.D))]] (.d .fz (.b r)) [.box [.d m2 (.sl 2 (a1_0.Symbols.map Symbol.D)),.d m2 (.sl 6 (a1_0.Rules.map Rule.D))],.box [.d .fz (.s a1_1.Name),.d .fz (.s a1_1.Left),.d m2 (.sl 1 (a1_1.Right.map A.D.s)),.d .fz (.b a1_1.Literal),.d m2 (.sl 9 (a1_1.Equations.map Equation.D)),.d m2 (.sl 16 (a1_1.Contributions.map Contribution.D))]]:=by
 refine Ok.enter rfl Tryz.func47 rfl rfl rfl fun S hS=>?_
 unfold q1y at hr
 refine AW.seq (AW.regL ?_)
 refine V rfl ?_
 refine AL.nil ?_
 refine AW.seq (AW.regL ?_)
 iterate 2 refine V rfl ?_
 refine bdE hr fun y1 hy1 hr=>?_
 refine CB [(0,0),(1,1)] [] (q4g (m:=m) (m2:=m2) hy1) ?_
 iterate 2 refine V rfl ?_
 refine AL.nil ?_
 refine AW.ret ?_
 cases hr
 exact endA.renK [(0,0),(1,1)] 2 hS
def q6k (a0:Expr)(a1:Grammar)(a2:Rule):Option Bool:=
 (q4l a0).bind fun y1=>
 (q1y y1 a1 a2).bind fun y2=>
 some y2
theorem z3U {m:Md}{m2:Md}{a0:Expr}{a1:Grammar}{a2:Rule}{r:Bool}(hr:q6k a0 a1 a2=some r):Ok Tryz.prog 55 [Expr.x m a0,.pb 0 0,.pb 1 0] [.box [.d m2 (.sl 2 (a1.Symbols.map Symbol.D)),.d m2 (.sl 6 (a1.Rules.map Rule.D))],.box [.d .fz (.s a2.Name),.d .fz (.s a2.Left),.d m2 (.sl 1 (a2.Right.map A.D.s)),.d .fz (.b a2.Literal),.d m2 (.sl 9 (a2.Equations.map Equation.D)),.d m2 (.sl 16 (a2.Contributions.map Contribution.D))]] (.d .fz (.b r)) [.box [.d m2 (.sl 2 (a1.Symbols.map Symbol.D)),.d m2 (.sl 6 (a1.Rules.map Rule.D))],.box [.d .fz (.s a2.Name),.d .fz (.s a2.Left),.d m2 (.sl 1 (a2.Right.map A.D.s)),.d .fz (.b a2.Literal),.d m2 (.sl 9 (a2.Equations.map Equation.D)),.d m2 (.sl 16 (a2.Contributions.map Contribution.D))]]:=by
 refine Ok.enter rfl Tryz.func55 rfl rfl rfl fun S hS=>?_
 unfold q6k at hr
 refine AW.seq (AW.regL ?_)
 refine BX 2 ?_
 refine V rfl ?_
 refine AL.nil ?_
 refine AW.seq (AW.regL ?_)
 refine V rfl ?_
 refine bdE hr fun y1 hy1 hr=>?_
 refine CB [(0,3)] [] (z0r (m:=m) hy1) ?_
 refine V rfl ?_
 refine AL.fz 3 rfl ?_
 refine bdE hr fun y2 hy2 hr=>?_
 refine CB [(0,0),(1,1)] [] (q3I (m:=.fz) (m2:=m2) hy2) ?_
 refine V rfl ?_
 refine AL.nil ?_
 refine AW.ret ?_
 cases hr
 exact endA.renK [(0,0),(1,1)] 2 hS
def q3p (a1_0:Grammar)(a1_1:Rule):Nat→Expr→Unit→Option (Unit ⊕ Int):=fun k1 xk1 _=>
 (q6k xk1 a1_0 a1_1).bind fun y1=>
 if y1=true then (
 some (.inr (k1:Int))
 ) else (
 some (.inl ())
 )
def q2b (a0:(List Expr))(a1_0:Grammar)(a1_1:Rule):Option Int:=
 (findL (q3p a1_0 a1_1) 0 a0 ()).bind <| onr (fun r1=>some r1) fun _=>
 some (-1)
theorem q5d {m:Md}{m2:Md}{a0:(List Expr)}{a1_0:Grammar}{a1_1:Rule}{r:Int}(hr:q2b a0 a1_0 a1_1=some r):Ok Tryz.prog 85 [.d m (.sl 7 (a0.map Expr.D)),.fn 55 [.pb 0 0,.pb 1 0]] [.box [.d m2 (.sl 2 (a1_0.Symbols.map Symbol.D)),.d m2 (.sl 6 (a1_0.Rules.map Rule.D))],.box [.d .fz (.s a1_1.Name),.d .fz (.s a1_1.Left),.d m2 (.sl 1 (a1_1.Right.map A.D.s)),.d .fz (.b a1_1.Literal),.d m2 (.sl 9 (a1_1.Equations.map Equation.D)),.d m2 (.sl 16 (a1_1.Contributions.map Contribution.D))]] (.d .fz (.i .i64 r)) [.box [.d m2 (.sl 2 (a1_0.Symbols.map Symbol.D)),.d m2 (.sl 6 (a1_0.Rules.map Rule.D))],.box [.d .fz (.s a1_1.Name),.d .fz (.s a1_1.Left),.d m2 (.sl 1 (a1_1.Right.map A.D.s)),.d .fz (.b a1_1.Literal),.d m2 (.sl 9 (a1_1.Equations.map Equation.D)),.d m2 (.sl 16 (a1_1.Contributions.map Contribution.D))]]:=by
 refine Ok.enter rfl Tryz.func85 rfl rfl rfl fun S hS=>?_
 unfold q2b at hr
 refine AW.seq (AW.regL ?_)
 refine V rfl ?_
 refine AL.nil ?_
 refine AW.seq (AW.seq (AW.regL ?_))
 refine V rfl ?_
 refine LF ?_
 refine V rfl ?_
 refine AL.nil ?_
 refine AW.block ?_
 refine AW.len (.tmp 0 rfl) fun hl1=>?_
 refine bdE hr fun q1 hqq1 hr=>?_
 refine AW.findL hqq1 hl1 2 (fun k1 _=>[(0,.d m (.sl 7 (a0.map Expr.D))),(1,.fn 55 [.pb 0 0,.pb 1 0]),(7,.d .fz (.i .i64 (a0.length:Int))),(8,.d .fz (.i .i64 (k1:Int)))]) (fun k1 _=>[]) (GH.renK hS [(0,0),(1,1)] 2) (fun k1 xk1 sk1 ok1 hxk1 hr hltk1 hik1=>?_) fun k1 sk1 ek1 hltk1=>?_
 ·refine AW.seq (AW.regL ?_)
  refine V rfl ?_
  refine AL.nil ?_
  refine AW.seq (AW.cT rfl (dT hltk1) ?_)
  refine AW.skip ?_
  refine AW.seq (AW.block (AW.seq (AW.regL ?_)))
  iterate 2 refine V rfl ?_
  refine AL.nil ?_
  refine AW.seq (AW.regL ?_)
  iterate 3 refine V rfl ?_
  refine IFq (Int.natCast_nonneg _) hxk1 (Expr.D_cells xk1) ?_
  refine V rfl ?_
  refine bdE hr fun y1 hy1 hr=>?_
  refine CB [(0,0),(1,1)] [] (z3U (m:=m) (m2:=m2) hy1) ?_
  refine AL.nil ?_
  refine ifE hr (fun h1 hr=>?_) fun h1 hr=>?_
  ·refine AW.cT rfl h1 ?_
   refine AW.seq (AW.regL ?_)
   iterate 2 refine V rfl ?_
   refine AL.nil ?_
   refine AW.ret ?_
   cases hr
   cases hik1 _ rfl
   rename_i hr
   cases hr
   exact endA.renK [(0,0),(1,1)] 2 hS
  ·refine AW.cF rfl (bF h1) ?_
   refine AW.skip ?_
   refine AW.regL ?_
   refine OB _ (q1X (p:=k1) (q:=1) (q1h hltk1 hl1)) ?_
   refine V rfl ?_
   refine AL.nil ?_
   cases hr
   exact⟨_,rfl,GH.renK hS [(0,0),(1,1)] 2⟩
 ·subst ek1
  refine AW.seq (AW.regL ?_)
  refine V rfl ?_
  refine AL.nil ?_
  refine AW.seq (AW.cF rfl (dF hltk1) ?_)
  refine AW.exit ?_
  refine AW.seq (AW.regL ?_)
  refine V rfl ?_
  refine AL.nil ?_
  refine AW.ret ?_
  cases hr
  exact endA.renK [(0,0),(1,1)] 2 hS
def q1T (a0:(List Expr))(a1_0:Grammar)(a1_1:Rule):Option Bool:=
 (q2b a0 a1_0 a1_1).bind fun y1=>
 some (decide (0≤y1))
theorem q4F {m:Md}{m2:Md}{a0:(List Expr)}{a1_0:Grammar}{a1_1:Rule}{r:Bool}(hr:q1T a0 a1_0 a1_1=some r):Ok Tryz.prog 53 [.d m (.sl 7 (a0.map Expr.D)),.fn 55 [.pb 0 0,.pb 1 0]] [.box [.d m2 (.sl 2 (a1_0.Symbols.map Symbol.D)),.d m2 (.sl 6 (a1_0.Rules.map Rule.D))],.box [.d .fz (.s a1_1.Name),.d .fz (.s a1_1.Left),.d m2 (.sl 1 (a1_1.Right.map A.D.s)),.d .fz (.b a1_1.Literal),.d m2 (.sl 9 (a1_1.Equations.map Equation.D)),.d m2 (.sl 16 (a1_1.Contributions.map Contribution.D))]] (.d .fz (.b r)) [.box [.d m2 (.sl 2 (a1_0.Symbols.map Symbol.D)),.d m2 (.sl 6 (a1_0.Rules.map Rule.D))],.box [.d .fz (.s a1_1.Name),.d .fz (.s a1_1.Left),.d m2 (.sl 1 (a1_1.Right.map A.D.s)),.d .fz (.b a1_1.Literal),.d m2 (.sl 9 (a1_1.Equations.map Equation.D)),.d m2 (.sl 16 (a1_1.Contributions.map Contribution.D))]]:=by
 refine Ok.enter rfl Tryz.func53 rfl rfl rfl fun S hS=>?_
 unfold q1T at hr
 refine AW.seq (AW.regL ?_)
 refine V rfl ?_
 refine AL.nil ?_
 refine AW.seq (AW.regL ?_)
 iterate 2 refine V rfl ?_
 refine bdE hr fun y1 hy1 hr=>?_
 refine CB [(0,0),(1,1)] [] (q5d (m:=m) (m2:=m2) hy1) ?_
 iterate 2 refine V rfl ?_
 refine AL.nil ?_
 refine AW.ret ?_
 cases hr
 exact endA.renK [(0,0),(1,1)] 2 hS
def q7L (a0:Grammar)(a1:Rule):Option Bool:=
 (q4S a1).bind fun y1=>
 (q1T y1 a0 a1).bind fun y2=>
 some y2
theorem z6k {m:Md}{a0:Grammar}{a1:Rule}{r:Bool}(hr:q7L a0 a1=some r):Ok Tryz.prog 22 [Grammar.x m a0,Rule.x m a1] [] (.d .fz (.b r)) []:=by
 refine Ok.enter rfl Tryz.func22 rfl rfl rfl fun S hS=>?_
 unfold q7L at hr
 refine AW.seq (AW.regL ?_)
 refine BX 0 ?_
 refine BX 1 ?_
 refine V rfl ?_
 refine AL.nil ?_
 refine AW.seq (AW.regL ?_)
 refine V rfl ?_
 refine bdE hr fun y1 hy1 hr=>?_
 refine CB [(0,2)] [] (z1W (m:=m) hy1) ?_
 refine V rfl ?_
 refine AL.fz 2 rfl ?_
 refine bdE hr fun y2 hy2 hr=>?_
 refine CB [(0,0),(1,1)] [] (q4F (m:=m) (m2:=m) hy2) ?_
 refine V rfl ?_
 refine AL.nil ?_
 refine AW.ret ?_
 cases hr
 exact endA.renK [] 0 hS
def q6c (a0:Grammar)(s1:Int):Nat→Rule→Unit→Option (Unit ⊕ (Int × Int)):=fun k2 xk2 _=>
 if s1=3 then (
 (q7I a0 xk2).bind fun y5=>
 if y5=true then (
 some (.inr (s1,(k2:Int)))
 ) else (
 some (.inl ())
 )
 ) else (
 if s1=4 then (
 (q7J a0 xk2).bind fun y6=>
 if y6=true then (
 some (.inr (s1,(k2:Int)))
 ) else (
 some (.inl ())
 )
 ) else (
 if s1=5 then (
 (q9T a0 xk2).bind fun y7=>
 if y7=true then (
 some (.inr (s1,(k2:Int)))
 ) else (
 some (.inl ())
 )
 ) else (
 (q7L a0 xk2).bind fun y8=>
 if y8=true then (
 some (.inr (s1,(k2:Int)))
 ) else (
 some (.inl ())
 )
 )
 )
 )
def q2M (a0:Grammar):Int→Option (Int ⊕ (Unit ⊕ (Int × Int))):=fun s1=>
 if s1≤6 then (
 (findL (q6c a0 s1) 0 a0.Rules ()).bind <| onr (fun r1=>some (.inr (.inr r1))) fun _=>
 grd (I64 (s1+1)) <|
 some (.inl (s1+1))
 ) else (
 some (.inr (.inl ()))
 )
def q5A (a0:Grammar):Option (Int × Int):=
 (q1Z (a0.Symbols.length:Int) 1 4).bind fun y1=>
 if y1=true then (
 (q1Z (a0.Rules.length:Int) 1 8).bind fun y2=>
 if y2=true then (
 (q5w a0).bind fun y3=>
 if 0≤y3 then (
 some (1,y3)
 ) else (
 (a0.Symbols[0]?).bind fun x1=>
 (q1x x1.Attributes).bind fun y4=>
 if y4=true then (
 some (2,0)
 ) else (
 (q3D (q2M a0) 3).bind <| onr (fun r2=>some r2) fun ()=>
 some (0,0)
 )
 )
 ) else (
 some (1,0)
 )
 ) else (
 some (1,0)
 )
theorem z2B {m:Md}{a0:Grammar}{r:(Int × Int)}(hr:q5A a0=some r):Ok Tryz.prog 6 [Grammar.x m a0] [] (.tu [.d .fz (.i .i64 r.1),.d .fz (.i .i64 r.2)]) []:=by
 refine Ok.enter rfl Tryz.func6 rfl rfl rfl fun S hS=>?_
 unfold q5A at hr
 refine AW.seq (AW.regL ?_)
 refine BX 0 ?_
 iterate 2 refine V rfl ?_
 refine AL.nil ?_
 refine AW.seq (AW.seq (AW.regL ?_))
 iterate 2 refine V rfl ?_
 refine LF ?_
 refine bdE hr fun y1 hy1 hr=>?_
 refine CB [] [] (q2p hy1) ?_
 refine V rfl ?_
 refine ifE hr (fun h1 hr=>?_) fun h1 hr=>?_
 ·refine VF rfl (bnF h1) ?_
  iterate 2 refine V rfl ?_
  refine LF ?_
  refine bdE hr fun y2 hy2 hr=>?_
  refine CB [] [] (q2p hy2) ?_
  iterate 2 refine V rfl ?_
  refine AL.nil ?_
  refine ifE hr (fun h2 hr=>?_) fun h2 hr=>?_
  ·refine AW.cF rfl (bnF h2) ?_
   refine AW.skip ?_
   refine AW.seq (AW.seq (AW.regL ?_))
   refine V rfl ?_
   refine bdE hr fun y3 hy3 hr=>?_
   refine CB [] [] (z2A (m:=m) hy3) ?_
   refine V rfl ?_
   refine AL.nil ?_
   refine AW.seq (AW.regL ?_)
   iterate 2 refine V rfl ?_
   refine AL.nil ?_
   refine ifE hr (fun h3 hr=>?_) fun h3 hr=>?_
   ·refine AW.cT rfl (dT h3) ?_
    refine AW.seq (AW.regL ?_)
    iterate 3 refine V rfl ?_
    refine AL.nil ?_
    refine AW.ret ?_
    cases hr
    exact endA.renK [] 0 hS
   ·refine AW.cF rfl (dF h3) ?_
    refine AW.skip ?_
    refine AW.seq (AW.seq (AW.regL ?_))
    iterate 2 refine V rfl ?_
    refine bdE hr fun x1 hx1 hr=>?_
    refine IF (Int.natCast_nonneg _) hx1 ?_
    iterate 2 refine V rfl ?_
    refine bdE hr fun y4 hy4 hr=>?_
    refine CB [] [] (q3H (m:=m) hy4) ?_
    refine AL.nil ?_
    refine ifE hr (fun h4 hr=>?_) fun h4 hr=>?_
    ·refine AW.cT rfl h4 ?_
     refine AW.seq (AW.regL ?_)
     iterate 2 refine V rfl ?_
     refine AL.nil ?_
     refine AW.ret ?_
     cases hr
     exact endA.renK [] 0 hS
    ·refine AW.cF rfl (bF h4) ?_
     refine AW.skip ?_
     refine AW.seq (AW.seq (AW.regL ?_))
     refine V rfl ?_
     refine AL.nil ?_
     refine bdE hr fun q1 hqq1 hr=>?_
     refine AW.cut 1 (fun _=>[]) (fun _=>[]) (M:=fun x=>q1 = .inl x) ?_ fun x hx=>?_
     ·refine AW.block (AW.iter hqq1 1 (fun s1=>[(1,.pb 0 0),(5,.d .fz (.i .i64 s1))]) (fun s1=>[]) (GH.renK hS [(0,0)] 1) fun sk1 ok1 hr hik1=>?_)
      obtain⟨s1,rfl⟩:∃ y,y=sk1:=⟨_,rfl⟩
      have hr:=hr
      refine AW.seq (AW.seq (AW.regL ?_))
      iterate 2 refine V rfl ?_
      refine AL.nil ?_
      refine ifE hr (fun h5 hr=>?_) fun h5 hr=>?_
      ·refine AW.cT rfl (dT h5) ?_
       refine AW.skip ?_
       refine AW.seq (AW.block (AW.seq (AW.regL ?_)))
       iterate 2 refine V rfl ?_
       refine LF ?_
       refine V rfl ?_
       refine AL.nil ?_
       refine AW.block ?_
       refine AW.len (.tmp 37 rfl) fun hl2=>?_
       refine bdE hr fun q2 hqq2 hr=>?_
       refine AW.findL hqq2 hl2 1 (fun k2 _=>[(1,.pb 0 0),(5,.d .fz (.i .i64 s1)),(37,.d m (.sl 6 (a0.Rules.map Rule.D))),(38,.d .fz (.i .i64 (a0.Rules.length:Int))),(39,.d .fz (.i .i64 (k2:Int)))]) (fun k2 _=>[]) (GH.renK hS [(0,0)] 1) (fun k2 xk2 sk2 ok2 hxk2 hr hltk2 hik2=>?_) fun k2 sk2 ek2 hltk2=>?_
       ·refine AW.seq (AW.regL ?_)
        refine V rfl ?_
        refine AL.nil ?_
        refine AW.seq (AW.cT rfl (dT hltk2) ?_)
        refine AW.skip ?_
        refine AW.seq (AW.block (AW.seq (AW.regL ?_)))
        refine V rfl ?_
        refine IF (Int.natCast_nonneg _) hxk2 ?_
        refine V rfl ?_
        refine NV 1 ?_
        refine V rfl ?_
        refine SB ?_
        refine AL.nil ?_
        refine AW.seq (AW.regL ?_)
        refine V rfl ?_
        refine AL.nil ?_
        refine AW.seq (AW.seq (AW.regL ?_))
        refine V rfl ?_
        refine AL.nil ?_
        refine AW.block (AW.seq (AW.regL ?_))
        iterate 2 refine V rfl ?_
        refine AL.nil ?_
        refine ifE hr (fun h6 hr=>?_) fun h6 hr=>?_
        ·refine AW.cT rfl (dT h6) ?_
         refine AW.regL ?_
         iterate 2 refine V rfl ?_
         refine bdE hr fun y5 hy5 hr=>?_
         refine CB [] [] (z6h (m:=m) hy5) ?_
         refine V rfl ?_
         refine AL.nil ?_
         refine AW.seq (AW.regL ?_)
         refine V rfl ?_
         refine AL.nil ?_
         refine ifE hr (fun h7 hr=>?_) fun h7 hr=>?_
         ·refine AW.cT rfl h7 ?_
          refine AW.seq (AW.regL ?_)
          iterate 4 refine V rfl ?_
          refine AL.nil ?_
          refine AW.ret ?_
          cases hr
          cases hik2 _ rfl
          rename_i hr
          cases hr
          cases hik1 _ rfl
          rename_i hr
          cases hr
          exact endA.renK [] 0 hS
         ·refine AW.cF rfl (bF h7) ?_
          refine AW.skip ?_
          refine AW.regL ?_
          refine OB _ (q1X (p:=k2) (q:=1) (q1h hltk2 hl2)) ?_
          refine V rfl ?_
          refine AL.nil ?_
          cases hr
          exact⟨_,rfl,GH.renK hS [(0,0)] 1⟩
        ·refine AW.cF rfl (dF h6) ?_
         refine AW.seq (AW.regL ?_)
         iterate 2 refine V rfl ?_
         refine AL.nil ?_
         refine ifE hr (fun h8 hr=>?_) fun h8 hr=>?_
         ·refine AW.cT rfl (dT h8) ?_
          refine AW.regL ?_
          iterate 2 refine V rfl ?_
          refine bdE hr fun y6 hy6 hr=>?_
          refine CB [] [] (z6i (m:=m) hy6) ?_
          refine V rfl ?_
          refine AL.nil ?_
          refine AW.seq (AW.regL ?_)
          refine V rfl ?_
          refine AL.nil ?_
          refine ifE hr (fun h9 hr=>?_) fun h9 hr=>?_
          ·refine AW.cT rfl h9 ?_
           refine AW.seq (AW.regL ?_)
           iterate 4 refine V rfl ?_
           refine AL.nil ?_
           refine AW.ret ?_
           cases hr
           cases hik2 _ rfl
           rename_i hr
           cases hr
           cases hik1 _ rfl
           rename_i hr
           cases hr
           exact endA.renK [] 0 hS
          ·refine AW.cF rfl (bF h9) ?_
           refine AW.skip ?_
           refine AW.regL ?_
           refine OB _ (q1X (p:=k2) (q:=1) (q1h hltk2 hl2)) ?_
           refine V rfl ?_
           refine AL.nil ?_
           cases hr
           exact⟨_,rfl,GH.renK hS [(0,0)] 1⟩
         ·refine AW.cF rfl (dF h8) ?_
          refine AW.seq (AW.regL ?_)
          iterate 2 refine V rfl ?_
          refine AL.nil ?_
          refine ifE hr (fun h10 hr=>?_) fun h10 hr=>?_
          ·refine AW.cT rfl (dT h10) ?_
           refine AW.regL ?_
           iterate 2 refine V rfl ?_
           refine bdE hr fun y7 hy7 hr=>?_
           refine CB [] [] (z9k (m:=m) hy7) ?_
           refine V rfl ?_
           refine AL.nil ?_
           refine AW.seq (AW.regL ?_)
           refine V rfl ?_
           refine AL.nil ?_
           refine ifE hr (fun h11 hr=>?_) fun h11 hr=>?_
           ·refine AW.cT rfl h11 ?_
            refine AW.seq (AW.regL ?_)
            iterate 4 refine V rfl ?_
            refine AL.nil ?_
            refine AW.ret ?_
            cases hr
            cases hik2 _ rfl
            rename_i hr
            cases hr
            cases hik1 _ rfl
            rename_i hr
            cases hr
            exact endA.renK [] 0 hS
           ·refine AW.cF rfl (bF h11) ?_
            refine AW.skip ?_
            refine AW.regL ?_
            refine OB _ (q1X (p:=k2) (q:=1) (q1h hltk2 hl2)) ?_
            refine V rfl ?_
            refine AL.nil ?_
            cases hr
            exact⟨_,rfl,GH.renK hS [(0,0)] 1⟩
          ·refine AW.cF rfl (dF h10) ?_
           refine AW.regL ?_
           iterate 2 refine V rfl ?_
           refine bdE hr fun y8 hy8 hr=>?_
           refine CB [] [] (z6k (m:=m) hy8) ?_
           refine V rfl ?_
           refine AL.nil ?_
           refine AW.seq (AW.regL ?_)
           refine V rfl ?_
           refine AL.nil ?_
           refine ifE hr (fun h12 hr=>?_) fun h12 hr=>?_
           ·refine AW.cT rfl h12 ?_
            refine AW.seq (AW.regL ?_)
            iterate 4 refine V rfl ?_
            refine AL.nil ?_
            refine AW.ret ?_
            cases hr
            cases hik2 _ rfl
            rename_i hr
            cases hr
            cases hik1 _ rfl
            rename_i hr
            cases hr
            exact endA.renK [] 0 hS
           ·refine AW.cF rfl (bF h12) ?_
            refine AW.skip ?_
            refine AW.regL ?_
            refine OB _ (q1X (p:=k2) (q:=1) (q1h hltk2 hl2)) ?_
            refine V rfl ?_
            refine AL.nil ?_
            cases hr
            exact⟨_,rfl,GH.renK hS [(0,0)] 1⟩
       ·subst ek2
        refine AW.seq (AW.regL ?_)
        refine V rfl ?_
        refine AL.nil ?_
        refine AW.seq (AW.cF rfl (dF hltk2) ?_)
        refine AW.exit ?_
        refine AW.regL ?_
        refine V rfl ?_
        refine ggE hr fun g1 hr=>?_
        refine OB _ (bAdd g1) ?_
        refine V rfl ?_
        refine AL.nil ?_
        cases hr
        exact⟨_,rfl,GH.renK hS [(0,0)] 1⟩
      ·refine AW.cF rfl (dF h5) ?_
       refine AW.exit ?_
       cases hr
       cases hik1 _ rfl
       exact⟨_,rfl,GH.renK hS [(0,0)] 1⟩
     ·subst hx
      refine AW.seq (AW.regL ?_)
      iterate 2 refine V rfl ?_
      refine AL.nil ?_
      refine AW.ret ?_
      cases hr
      exact endA.renK [] 0 hS
  ·refine AW.cT rfl (bnT h2) ?_
   refine AW.seq (AW.regL ?_)
   iterate 2 refine V rfl ?_
   refine AL.nil ?_
   refine AW.ret ?_
   cases hr
   exact endA.renK [] 0 hS
 ·refine VT rfl (bnT h1) ?_
  refine AL.off ?_
  refine AL.off ?_
  refine AL.off ?_
  refine AL.off ?_
  refine AL.off ?_
  refine V rfl ?_
  refine AL.nil ?_
  refine AW.cT rfl rfl ?_
  refine AW.seq (AW.regL ?_)
  iterate 2 refine V rfl ?_
  refine AL.nil ?_
  refine AW.ret ?_
  cases hr
  exact endA.renK [] 0 hS
def q3q (a0:Attribute):Option Bool:=
 (q1R a0.Name).bind fun y1=>
 (
 if y1=true then (
 (q3d a0.Type_ 1 4).bind fun y2=>
 some (!y2)
 ) else (
 some true
 )
 ).bind fun s1=>
 (
 if s1=true then (
 some true
 ) else (
 (q3d a0.Mode 1 3).bind fun y3=>
 some (!y3)
 )
 ).bind fun s2=>
 if s2=true then (
 some false
 ) else (
 (
 if a0.Mode=3 then (
 (
 if a0.Type_=2 then (
 some a0.Circular
 ) else (
 some true
 )
 ).bind fun s4=>
 some s4
 ) else (
 some false
 )
 ).bind fun s3=>
 if s3=true then (
 some false
 ) else (
 (
 if a0.Circular=true then (
 some (decide (a0.Type_=2))
 ) else (
 some true
 )
 ).bind fun s5=>
 some s5
 )
 )
theorem q9i {a0:Attribute}{r:Bool}(hr:q3q a0=some r):Ok Tryz.prog 91 [Attribute.x .fz a0] [] (.d .fz (.b r)) []:=by
 refine Ok.enter rfl Tryz.func91 rfl rfl rfl fun S hS=>?_
 unfold q3q at hr
 refine AW.seq (AW.regL ?_)
 refine BX 0 ?_
 refine V rfl ?_
 refine AL.nil ?_
 refine AW.seq (AW.seq (AW.regL ?_))
 iterate 2 refine V rfl ?_
 refine bdE hr fun y1 hy1 hr=>?_
 refine CB [] [] (q2h hy1) ?_
 refine V rfl ?_
 refine bdE hr fun s1 hqq1 hr=>?_
 refine AL.meet1 6 [(1,.pb 0 0),(12,.d .fz (.b s1))] ?_ ?_
 ·replace hr:=hqq1
  refine ifE hr (fun h1 hr=>?_) fun h1 hr=>?_
  ·refine VF rfl (bnF h1) ?_
   iterate 2 refine V rfl ?_
   refine bdE hr fun y2 hy2 hr=>?_
   refine CB [] [] (q3K hy2) ?_
   iterate 2 refine V rfl ?_
   refine AL.nil ?_
   cases hr
   exact q1i
  ·refine VT rfl (bnT h1) ?_
   refine AL.off ?_
   refine AL.off ?_
   refine AL.off ?_
   refine AL.off ?_
   refine V rfl ?_
   refine AL.nil ?_
   cases hr
   exact q1i
 ·refine bdE hr fun s2 hqq2 hr=>?_
  refine AL.meet1 6 [(1,.pb 0 0),(18,.d .fz (.b s2))] ?_ ?_
  ·replace hr:=hqq2
   refine ifE hr (fun h2 hr=>?_) fun h2 hr=>?_
   ·refine VT rfl h2 ?_
    refine AL.off ?_
    refine AL.off ?_
    refine AL.off ?_
    refine AL.off ?_
    refine V rfl ?_
    refine AL.nil ?_
    cases hr
    exact q1i
   ·refine VF rfl (bF h2) ?_
    iterate 2 refine V rfl ?_
    refine bdE hr fun y3 hy3 hr=>?_
    refine CB [] [] (q3K hy3) ?_
    iterate 2 refine V rfl ?_
    refine AL.nil ?_
    cases hr
    exact q1i
  ·refine AL.nil ?_
   refine ifE hr (fun h3 hr=>?_) fun h3 hr=>?_
   ·refine AW.cT rfl h3 ?_
    refine AW.seq (AW.regL ?_)
    refine V rfl ?_
    refine AL.nil ?_
    refine AW.ret ?_
    cases hr
    exact endA.renK [] 0 hS
   ·refine AW.cF rfl (bF h3) ?_
    refine AW.skip ?_
    refine AW.seq (AW.seq (AW.regL ?_))
    iterate 3 refine V rfl ?_
    refine bdE hr fun s3 hqq3 hr=>?_
    refine AL.meet1 9 [(1,.pb 0 0),(30,.d .fz (.b s3))] ?_ ?_
    ·replace hr:=hqq3
     refine ifE hr (fun h4 hr=>?_) fun h4 hr=>?_
     ·refine VT rfl (dT h4) ?_
      iterate 3 refine V rfl ?_
      refine bdE hr fun s4 hqq4 hr=>?_
      refine AL.meet1 4 [(1,.pb 0 0),(22,.d .fz (.b true)),(29,.d .fz (.b s4))] ?_ ?_
      ·replace hr:=hqq4
       refine ifE hr (fun h5 hr=>?_) fun h5 hr=>?_
       ·refine VF rfl (nF h5) ?_
        iterate 3 refine V rfl ?_
        refine AL.nil ?_
        cases hr
        exact q1i
       ·refine VT rfl (nT h5) ?_
        refine AL.off ?_
        refine AL.off ?_
        refine V rfl ?_
        refine AL.nil ?_
        cases hr
        exact q1i
      ·refine V rfl ?_
       refine AL.nil ?_
       cases hr
       exact q1i
     ·refine VF rfl (dF h4) ?_
      refine AL.off ?_
      refine AL.off ?_
      refine AL.off ?_
      refine AL.off ?_
      refine AL.off ?_
      refine AL.off ?_
      refine AL.off ?_
      refine V rfl ?_
      refine AL.nil ?_
      cases hr
      exact q1i
    ·refine AL.nil ?_
     refine ifE hr (fun h6 hr=>?_) fun h6 hr=>?_
     ·refine AW.cT rfl h6 ?_
      refine AW.seq (AW.regL ?_)
      refine V rfl ?_
      refine AL.nil ?_
      refine AW.ret ?_
      cases hr
      exact endA.renK [] 0 hS
     ·refine AW.cF rfl (bF h6) ?_
      refine AW.skip ?_
      refine AW.seq (AW.regL ?_)
      iterate 3 refine V rfl ?_
      refine bdE hr fun s5 hqq5 hr=>?_
      refine AL.meet1 5 [(38,.d .fz (.b s5))] ?_ ?_
      ·replace hr:=hqq5
       refine ifE hr (fun h7 hr=>?_) fun h7 hr=>?_
       ·refine VF rfl (bnF h7) ?_
        iterate 4 refine V rfl ?_
        refine AL.nil ?_
        cases hr
        exact q1i
       ·refine VT rfl (bnT h7) ?_
        refine AL.off ?_
        refine AL.off ?_
        refine AL.off ?_
        refine V rfl ?_
        refine AL.nil ?_
        cases hr
        exact q1i
      ·refine V rfl ?_
       refine AL.nil ?_
       refine AW.ret ?_
       cases hr
       exact endA.renK [] 0 hS
def q5B (a0:(List ByteArray)):Nat→ByteArray→Unit→Option (Unit ⊕ Bool):=fun k1 xk1 _=>
 grd (k1≤a0.length) <|
 (q5X (a0.take k1) xk1).bind fun y1=>
 if y1=true then (
 some (.inr false)
 ) else (
 some (.inl ())
 )
def q4U (a0:(List ByteArray)):Option Bool:=
 (findL (q5B a0) 0 a0 ()).bind <| onr (fun r1=>some r1) fun _=>
 some true
theorem z1Z {m:Md}{a0:(List ByteArray)}{r:Bool}(hr:q4U a0=some r):Ok Tryz.prog 93 [.d m (.sl 1 (a0.map A.D.s))] [] (.d .fz (.b r)) []:=by
 refine Ok.enter rfl Tryz.func93 rfl rfl rfl fun S hS=>?_
 unfold q4U at hr
 refine AW.seq (AW.regL ?_)
 refine V rfl ?_
 refine AL.nil ?_
 refine AW.seq (AW.seq (AW.regL ?_))
 refine V rfl ?_
 refine AL.nil ?_
 refine AW.block ?_
 refine AW.len (.tmp 0 rfl) fun hl1=>?_
 refine bdE hr fun q1 hqq1 hr=>?_
 refine AW.findL hqq1 hl1 0 (fun k1 _=>[(0,.d m (.sl 1 (a0.map A.D.s))),(3,.d .fz (.i .i64 (k1:Int)))]) (fun k1 _=>[]) (GH.renK hS [] 0) (fun k1 xk1 sk1 ok1 hxk1 hr hltk1 hik1=>?_) fun k1 sk1 ek1 hltk1=>?_
 ·refine AW.seq (AW.seq (AW.regL ?_))
  iterate 2 refine V rfl ?_
  refine LF ?_
  refine V rfl ?_
  refine AL.nil ?_
  refine AW.cT rfl (dT hltk1) ?_
  refine AW.skip ?_
  refine AW.seq (AW.block (AW.seq (AW.drawL (h:=?_))))
  iterate 2 refine V rfl ?_
  refine ggE hr fun g1 hr=>?_
  refine SLH (Int.natCast_nonneg _) g1 ?_
  iterate 2 refine V rfl ?_
  refine IF (Int.natCast_nonneg _) hxk1 ?_
  refine V rfl ?_
  refine bdE hr fun y1 hy1 hr=>?_
  refine CB [] [] (q9M (m:=m) hy1) ?_
  refine AL.nil ?_
  refine ifE hr (fun h1 hr=>?_) fun h1 hr=>?_
  ·refine AW.cT rfl h1 ?_
   refine AW.seq (AW.regL ?_)
   refine V rfl ?_
   refine AL.nil ?_
   refine AW.ret ?_
   cases hr
   cases hik1 _ rfl
   rename_i hr
   cases hr
   exact endA.renK [] 0 hS
  ·refine AW.cF rfl (bF h1) ?_
   refine AW.skip ?_
   refine AW.regL ?_
   refine V rfl ?_
   refine OB _ (q1X (p:=k1) (q:=1) (q1h hltk1 hl1)) ?_
   refine V rfl ?_
   refine AL.nil ?_
   cases hr
   exact⟨_,rfl,GH.renK hS [] 0⟩
 ·subst ek1
  refine AW.seq (AW.seq (AW.regL ?_))
  iterate 2 refine V rfl ?_
  refine LF ?_
  refine V rfl ?_
  refine AL.nil ?_
  refine AW.cF rfl (dF hltk1) ?_
  refine AW.exit ?_
  refine AW.seq (AW.regL ?_)
  refine V rfl ?_
  refine AL.nil ?_
  refine AW.ret ?_
  cases hr
  exact endA.renK [] 0 hS
def q4G:Nat→Attribute→((List ByteArray))→Option (((List ByteArray)) ⊕ Bool):=fun k1 xk1 s1=>
 (q3q xk1).bind fun y1=>
 if y1=true then (
 grd (((s1.length:Int)+1)*16≤140737488355328∧(s1.length:Int)+1≤9223372036854775807) <|
 some (.inl (s1++[xk1.Name]))
 ) else (
 some (.inr false)
 )
def q4n (a0:Symbol):Option Bool:=
 (findL q4G 0 a0.Attributes ([]:List ByteArray)).bind <| onr (fun r1=>some r1) fun s1=>
 (q1R a0.Name).bind fun y2=>
 (
 if y2=true then (
 some (decide ((s1.length:Int)≤4))
 ) else (
 some false
 )
 ).bind fun s2=>
 (
 if s2=true then (
 (q4U s1).bind fun y3=>
 some y3
 ) else (
 some false
 )
 ).bind fun s3=>
 some s3
theorem z0t {m:Md}{a0:Symbol}{r:Bool}(hr:q4n a0=some r):Ok Tryz.prog 58 [Symbol.x m a0] [] (.d .fz (.b r)) []:=by
 refine Ok.enter rfl Tryz.func58 rfl rfl rfl fun S hS=>?_
 unfold q4n at hr
 refine AW.seq (AW.regL ?_)
 refine BX 0 ?_
 refine V rfl ?_
 refine AL.nil ?_
 refine AW.seq (AW.regL ?_)
 refine L0 1 A.D.s ?_
 refine V rfl ?_
 refine AL.nil ?_
 refine AW.seq (AW.seq (AW.regL ?_))
 refine V rfl ?_
 refine AL.nil ?_
 refine AW.block ?_
 refine AW.len (.ag 1 (.tmp 0 rfl) rfl) fun hl1=>?_
 refine bdE hr fun q1 hqq1 hr=>?_
 refine AW.findL hqq1 hl1 2 (fun k1 s1=>[(1,.pb 0 0),(3,.ref 1 none),(4,.d .fz (.i .i64 (k1:Int)))]) (fun k1 s1=>[(1,.row .fz 1 (s1.map A.D.s))]) (GH.renK hS [(0,0),(1,1)] 2) (fun k1 xk1 sk1 ok1 hxk1 hr hltk1 hik1=>?_) fun k1 sk1 ek1 hltk1=>?_
 ·obtain⟨s1,rfl⟩:∃ y,y=sk1:=⟨_,rfl⟩
  refine AW.seq (AW.seq (AW.regL ?_))
  iterate 3 refine V rfl ?_
  refine LF ?_
  refine V rfl ?_
  refine AL.nil ?_
  refine AW.cT rfl (dT hltk1) ?_
  refine AW.skip ?_
  refine AW.seq (AW.block (AW.seq (AW.seq (AW.regL ?_))))
  iterate 3 refine V rfl ?_
  refine IF (Int.natCast_nonneg _) hxk1 ?_
  refine V rfl ?_
  refine bdE hr fun y1 hy1 hr=>?_
  refine CB [] [] (q9i hy1) ?_
  refine V rfl ?_
  refine AL.nil ?_
  refine ifE hr (fun h1 hr=>?_) fun h1 hr=>?_
  ·refine AW.cF rfl (bnF h1) ?_
   refine AW.skip ?_
   refine AW.regL ?_
   iterate 4 refine V rfl ?_
   refine IF (Int.natCast_nonneg _) hxk1 ?_
   iterate 2 refine V rfl ?_
   refine LIR 2 (m:=.fz) (f:=A.D.s) (xs:=[xk1.Name]) ?_
   refine ggE hr fun g1 hr=>?_
   refine APf1 (f:=A.D.s) 3 (fun _=>rfl) 16 g1 ?_
   refine V rfl ?_
   refine AL.nil ?_
   refine AW.regL ?_
   refine V rfl ?_
   refine OB _ (q1X (p:=k1) (q:=1) (q1h hltk1 hl1)) ?_
   refine V rfl ?_
   refine AL.nil ?_
   cases hr
   exact⟨_,rfl,GH.renK hS [(0,0),(3,1)] 2⟩
  ·refine AW.cT rfl (bnT h1) ?_
   refine AW.seq (AW.regL ?_)
   refine V rfl ?_
   refine AL.nil ?_
   refine AW.ret ?_
   cases hr
   cases hik1 _ rfl
   rename_i hr
   cases hr
   exact endA.renK [] 0 hS
 ·subst ek1
  obtain⟨s1,rfl⟩:∃ y,y=sk1:=⟨_,rfl⟩
  refine AW.seq (AW.seq (AW.regL ?_))
  iterate 3 refine V rfl ?_
  refine LF ?_
  refine V rfl ?_
  refine AL.nil ?_
  refine AW.cF rfl (dF hltk1) ?_
  refine AW.exit ?_
  refine AW.seq (AW.regL ?_)
  iterate 2 refine V rfl ?_
  refine bdE hr fun y2 hy2 hr=>?_
  refine CB [] [] (q2h hy2) ?_
  refine bdE hr fun s2 hqq2 hr=>?_
  refine AL.meet1 5 [(3,.ref 1 none),(36,.d .fz (.b s2))] ?_ ?_
  ·replace hr:=hqq2
   refine ifE hr (fun h2 hr=>?_) fun h2 hr=>?_
   ·refine VT rfl h2 ?_
    refine V rfl ?_
    refine LE ?_
    iterate 2 refine V rfl ?_
    refine AL.nil ?_
    cases hr
    exact q1i
   ·refine VF rfl (bF h2) ?_
    refine AL.off ?_
    refine AL.off ?_
    refine AL.off ?_
    refine V rfl ?_
    refine AL.nil ?_
    cases hr
    exact q1i
  ·refine bdE hr fun s3 hqq3 hr=>?_
   refine AL.meet1 4 [(40,.d .fz (.b s3))] ?_ ?_
   ·replace hr:=hqq3
    refine ifE hr (fun h3 hr=>?_) fun h3 hr=>?_
    ·refine VT rfl h3 ?_
     refine V rfl ?_
     refine bdE hr fun y3 hy3 hr=>?_
     refine CB [] [1] (z1Z (m:=.bo) hy3) ?_
     refine V rfl ?_
     refine AL.nil ?_
     cases hr
     exact q1i
    ·refine VF rfl (bF h3) ?_
     refine AL.off ?_
     refine AL.off ?_
     refine V rfl ?_
     refine AL.nil ?_
     cases hr
     exact q1i
   ·refine V rfl ?_
    refine AL.nil ?_
    refine AW.ret ?_
    cases hr
    exact endA.renK [] 0 hS
def q8G:Nat→ByteArray→Unit→Option (Unit ⊕ Bool):=fun k1 xk1 _=>
 (q1R xk1).bind fun y3=>
 if y3=true then (
 some (.inl ())
 ) else (
 some (.inr false)
 )
def q8H (a0:Rule):Nat→Equation→Unit→Option (Unit ⊕ Bool):=fun k2 xk2 _=>
 (q1R xk2.At.Name).bind fun y4=>
 (
 if y4=true then (
 (q3d xk2.At.Pos 0 (a0.Right.length:Int)).bind fun y5=>
 some (!y5)
 ) else (
 some true
 )
 ).bind fun s4=>
 (
 if s4=true then (
 some true
 ) else (
 (q4O xk2.Expr (a0.Right.length:Int)).bind fun y6=>
 some (!y6)
 )
 ).bind fun s5=>
 if s5=true then (
 some (.inr false)
 ) else (
 some (.inl ())
 )
def q8I (a0:Rule):Nat→Contribution→Unit→Option (Unit ⊕ Bool):=fun k3 xk3 _=>
 (q1R xk3.Symbol).bind fun y7=>
 (
 if y7=true then (
 (q1R xk3.Name).bind fun y8=>
 some (!y8)
 ) else (
 some true
 )
 ).bind fun s6=>
 (
 if s6=true then (
 some true
 ) else (
 (q4O xk3.Target (a0.Right.length:Int)).bind fun y9=>
 some (!y9)
 )
 ).bind fun s7=>
 (
 if s7=true then (
 some true
 ) else (
 (q4O xk3.Value (a0.Right.length:Int)).bind fun y10=>
 some (!y10)
 )
 ).bind fun s8=>
 if s8=true then (
 some (.inr false)
 ) else (
 some (.inl ())
 )
def q4V (a0:Rule):Option Bool:=
 (q1R a0.Name).bind fun y1=>
 (
 if y1=true then (
 (q1R a0.Left).bind fun y2=>
 some (!y2)
 ) else (
 some true
 )
 ).bind fun s1=>
 (
 if s1=true then (
 some true
 ) else (
 some (decide (3 < (a0.Right.length:Int)))
 )
 ).bind fun s2=>
 (
 if s2=true then (
 some true
 ) else (
 some (decide (2 < (a0.Contributions.length:Int)))
 )
 ).bind fun s3=>
 if s3=true then (
 some false
 ) else (
 (findL q8G 0 a0.Right ()).bind <| onr (fun r1=>some r1) fun _=>
 (findL (q8H a0) 0 a0.Equations ()).bind <| onr (fun r2=>some r2) fun _=>
 (findL (q8I a0) 0 a0.Contributions ()).bind <| onr (fun r3=>some r3) fun _=>
 some true
 )
theorem z2a {m:Md}{a0:Rule}{r:Bool}(hr:q4V a0=some r):Ok Tryz.prog 60 [Rule.x m a0] [] (.d .fz (.b r)) []:=by
 refine Ok.enter rfl Tryz.func60 rfl rfl rfl fun S hS=>?_
 unfold q4V at hr
 refine AW.seq (AW.regL ?_)
 refine BX 0 ?_
 refine V rfl ?_
 refine AL.nil ?_
 refine AW.seq (AW.regL ?_)
 iterate 2 refine V rfl ?_
 refine LF ?_
 refine V rfl ?_
 refine AL.nil ?_
 refine AW.seq (AW.seq (AW.regL ?_))
 iterate 2 refine V rfl ?_
 refine bdE hr fun y1 hy1 hr=>?_
 refine CB [] [] (q2h hy1) ?_
 refine V rfl ?_
 refine bdE hr fun s1 hqq1 hr=>?_
 refine AL.meet1 6 [(1,.pb 0 0),(3,.d .fz (.i .i64 (a0.Right.length:Int))),(21,.d .fz (.b s1))] ?_ ?_
 ·replace hr:=hqq1
  refine ifE hr (fun h1 hr=>?_) fun h1 hr=>?_
  ·refine VF rfl (bnF h1) ?_
   iterate 2 refine V rfl ?_
   refine bdE hr fun y2 hy2 hr=>?_
   refine CB [] [] (q2h hy2) ?_
   iterate 2 refine V rfl ?_
   refine AL.nil ?_
   cases hr
   exact q1i
  ·refine VT rfl (bnT h1) ?_
   refine AL.off ?_
   refine AL.off ?_
   refine AL.off ?_
   refine AL.off ?_
   refine V rfl ?_
   refine AL.nil ?_
   cases hr
   exact q1i
 ·refine bdE hr fun s2 hqq2 hr=>?_
  refine AL.meet1 4 [(1,.pb 0 0),(3,.d .fz (.i .i64 (a0.Right.length:Int))),(25,.d .fz (.b s2))] ?_ ?_
  ·replace hr:=hqq2
   refine ifE hr (fun h2 hr=>?_) fun h2 hr=>?_
   ·refine VT rfl h2 ?_
    refine AL.off ?_
    refine AL.off ?_
    refine V rfl ?_
    refine AL.nil ?_
    cases hr
    exact q1i
   ·refine VF rfl (bF h2) ?_
    iterate 3 refine V rfl ?_
    refine AL.nil ?_
    cases hr
    exact q1i
  ·refine bdE hr fun s3 hqq3 hr=>?_
   refine AL.meet1 6 [(1,.pb 0 0),(3,.d .fz (.i .i64 (a0.Right.length:Int))),(31,.d .fz (.b s3))] ?_ ?_
   ·replace hr:=hqq3
    refine ifE hr (fun h3 hr=>?_) fun h3 hr=>?_
    ·refine VT rfl h3 ?_
     refine AL.off ?_
     refine AL.off ?_
     refine AL.off ?_
     refine AL.off ?_
     refine V rfl ?_
     refine AL.nil ?_
     cases hr
     exact q1i
    ·refine VF rfl (bF h3) ?_
     iterate 2 refine V rfl ?_
     refine LF ?_
     iterate 2 refine V rfl ?_
     refine AL.nil ?_
     cases hr
     exact q1i
   ·refine AL.nil ?_
    refine ifE hr (fun h4 hr=>?_) fun h4 hr=>?_
    ·refine AW.cT rfl h4 ?_
     refine AW.seq (AW.regL ?_)
     refine V rfl ?_
     refine AL.nil ?_
     refine AW.ret ?_
     cases hr
     exact endA.renK [] 0 hS
    ·refine AW.cF rfl (bF h4) ?_
     refine AW.skip ?_
     refine AW.seq (AW.seq (AW.regL ?_))
     refine V rfl ?_
     refine AL.nil ?_
     refine AW.block ?_
     refine AW.len (.box 0 2 rfl rfl) fun hl1=>?_
     refine bdE hr fun q4 hqq4 hr=>?_
     refine AW.findL hqq4 hl1 1 (fun k1 _=>[(1,.pb 0 0),(3,.d .fz (.i .i64 (a0.Right.length:Int))),(4,.d .fz (.i .i64 (k1:Int)))]) (fun k1 _=>[]) (GH.renK hS [(0,0)] 1) (fun k1 xk1 sk1 ok1 hxk1 hr hltk1 hik1=>?_) fun k1 sk1 ek1 hltk1=>?_
     ·refine AW.seq (AW.seq (AW.regL ?_))
      iterate 3 refine V rfl ?_
      refine AL.nil ?_
      refine AW.cT rfl (dT hltk1) ?_
      refine AW.skip ?_
      refine AW.seq (AW.block (AW.seq (AW.regL ?_)))
      iterate 3 refine V rfl ?_
      refine IF (Int.natCast_nonneg _) hxk1 ?_
      refine V rfl ?_
      refine bdE hr fun y3 hy3 hr=>?_
      refine CB [] [] (q2h hy3) ?_
      refine V rfl ?_
      refine AL.nil ?_
      refine ifE hr (fun h5 hr=>?_) fun h5 hr=>?_
      ·refine AW.cF rfl (bnF h5) ?_
       refine AW.skip ?_
       refine AW.regL ?_
       refine V rfl ?_
       refine OB _ (q1X (p:=k1) (q:=1) (q1h hltk1 hl1)) ?_
       refine V rfl ?_
       refine AL.nil ?_
       cases hr
       exact⟨_,rfl,GH.renK hS [(0,0)] 1⟩
      ·refine AW.cT rfl (bnT h5) ?_
       refine AW.seq (AW.regL ?_)
       refine V rfl ?_
       refine AL.nil ?_
       refine AW.ret ?_
       cases hr
       cases hik1 _ rfl
       rename_i hr
       cases hr
       exact endA.renK [] 0 hS
     ·subst ek1
      refine AW.seq (AW.seq (AW.regL ?_))
      iterate 3 refine V rfl ?_
      refine AL.nil ?_
      refine AW.cF rfl (dF hltk1) ?_
      refine AW.exit ?_
      refine AW.seq (AW.seq (AW.regL ?_))
      refine V rfl ?_
      refine AL.nil ?_
      refine AW.block ?_
      refine AW.len (.box 0 4 rfl rfl) fun hl2=>?_
      refine bdE hr fun q5 hqq5 hr=>?_
      refine AW.findL hqq5 hl2 1 (fun k2 _=>[(1,.pb 0 0),(3,.d .fz (.i .i64 (a0.Right.length:Int))),(5,.d .fz (.i .i64 (k2:Int)))]) (fun k2 _=>[]) (GH.renK hS [(0,0)] 1) (fun k2 xk2 sk2 ok2 hxk2 hr hltk2 hik2=>?_) fun k2 sk2 ek2 hltk2=>?_
      ·refine AW.seq (AW.seq (AW.regL ?_))
       iterate 3 refine V rfl ?_
       refine LF ?_
       refine V rfl ?_
       refine AL.nil ?_
       refine AW.cT rfl (dT hltk2) ?_
       refine AW.skip ?_
       refine AW.seq (AW.block (AW.seq (AW.regL ?_)))
       iterate 3 refine V rfl ?_
       refine IF (Int.natCast_nonneg _) hxk2 ?_
       refine V rfl ?_
       refine NV 1 ?_
       refine SB ?_
       refine AL.nil ?_
       refine AW.seq (AW.regL ?_)
       iterate 3 refine V rfl ?_
       refine bdE hr fun y4 hy4 hr=>?_
       refine CB [] [] (q2h hy4) ?_
       refine V rfl ?_
       refine bdE hr fun s4 hqq6 hr=>?_
       refine AL.meet1 8 [(1,.pb 0 0),(3,.d .fz (.i .i64 (a0.Right.length:Int))),(5,.d .fz (.i .i64 (k2:Int))),(6,.pb 1 0),(68,.d .fz (.b s4))] ?_ ?_
       ·replace hr:=hqq6
        refine ifE hr (fun h6 hr=>?_) fun h6 hr=>?_
        ·refine VF rfl (bnF h6) ?_
         iterate 4 refine V rfl ?_
         refine bdE hr fun y5 hy5 hr=>?_
         refine CB [] [] (q3K hy5) ?_
         iterate 2 refine V rfl ?_
         refine AL.nil ?_
         cases hr
         exact q1i
        ·refine VT rfl (bnT h6) ?_
         refine AL.off ?_
         refine AL.off ?_
         refine AL.off ?_
         refine AL.off ?_
         refine AL.off ?_
         refine AL.off ?_
         refine V rfl ?_
         refine AL.nil ?_
         cases hr
         exact q1i
       ·refine bdE hr fun s5 hqq7 hr=>?_
        refine AL.meet1 7 [(1,.pb 0 0),(3,.d .fz (.i .i64 (a0.Right.length:Int))),(5,.d .fz (.i .i64 (k2:Int))),(75,.d .fz (.b s5))] ?_ ?_
        ·replace hr:=hqq7
         refine ifE hr (fun h7 hr=>?_) fun h7 hr=>?_
         ·refine VT rfl h7 ?_
          refine AL.off ?_
          refine AL.off ?_
          refine AL.off ?_
          refine AL.off ?_
          refine AL.off ?_
          refine V rfl ?_
          refine AL.nil ?_
          cases hr
          exact q1i
         ·refine VF rfl (bF h7) ?_
          iterate 3 refine V rfl ?_
          refine bdE hr fun y6 hy6 hr=>?_
          refine CB [] [] (q9c (m:=m) hy6) ?_
          iterate 2 refine V rfl ?_
          refine AL.nil ?_
          cases hr
          exact q1i
        ·refine AL.nil ?_
         refine ifE hr (fun h8 hr=>?_) fun h8 hr=>?_
         ·refine AW.cT rfl h8 ?_
          refine AW.seq (AW.regL ?_)
          refine V rfl ?_
          refine AL.nil ?_
          refine AW.ret ?_
          cases hr
          cases hik2 _ rfl
          rename_i hr
          cases hr
          exact endA.renK [] 0 hS
         ·refine AW.cF rfl (bF h8) ?_
          refine AW.skip ?_
          refine AW.regL ?_
          refine V rfl ?_
          refine OB _ (q1X (p:=k2) (q:=1) (q1h hltk2 hl2)) ?_
          refine V rfl ?_
          refine AL.nil ?_
          cases hr
          exact⟨_,rfl,GH.renK hS [(0,0)] 1⟩
      ·subst ek2
       refine AW.seq (AW.seq (AW.regL ?_))
       iterate 3 refine V rfl ?_
       refine LF ?_
       refine V rfl ?_
       refine AL.nil ?_
       refine AW.cF rfl (dF hltk2) ?_
       refine AW.exit ?_
       refine AW.seq (AW.seq (AW.regL ?_))
       refine V rfl ?_
       refine AL.nil ?_
       refine AW.block ?_
       refine AW.len (.box 0 5 rfl rfl) fun hl3=>?_
       refine bdE hr fun q8 hqq8 hr=>?_
       refine AW.findL hqq8 hl3 1 (fun k3 _=>[(1,.pb 0 0),(3,.d .fz (.i .i64 (a0.Right.length:Int))),(7,.d .fz (.i .i64 (k3:Int)))]) (fun k3 _=>[]) (GH.renK hS [(0,0)] 1) (fun k3 xk3 sk3 ok3 hxk3 hr hltk3 hik3=>?_) fun k3 sk3 ek3 hltk3=>?_
       ·refine AW.seq (AW.seq (AW.regL ?_))
        iterate 3 refine V rfl ?_
        refine LF ?_
        refine V rfl ?_
        refine AL.nil ?_
        refine AW.cT rfl (dT hltk3) ?_
        refine AW.skip ?_
        refine AW.seq (AW.block (AW.seq (AW.regL ?_)))
        iterate 3 refine V rfl ?_
        refine IF (Int.natCast_nonneg _) hxk3 ?_
        refine V rfl ?_
        refine NV 1 ?_
        refine SB ?_
        refine AL.nil ?_
        refine AW.seq (AW.regL ?_)
        iterate 2 refine V rfl ?_
        refine bdE hr fun y7 hy7 hr=>?_
        refine CB [] [] (q2h hy7) ?_
        refine V rfl ?_
        refine bdE hr fun s6 hqq9 hr=>?_
        refine AL.meet1 6 [(1,.pb 0 0),(3,.d .fz (.i .i64 (a0.Right.length:Int))),(7,.d .fz (.i .i64 (k3:Int))),(8,.pb 1 0),(97,.d .fz (.b s6))] ?_ ?_
        ·replace hr:=hqq9
         refine ifE hr (fun h9 hr=>?_) fun h9 hr=>?_
         ·refine VF rfl (bnF h9) ?_
          iterate 2 refine V rfl ?_
          refine bdE hr fun y8 hy8 hr=>?_
          refine CB [] [] (q2h hy8) ?_
          iterate 2 refine V rfl ?_
          refine AL.nil ?_
          cases hr
          exact q1i
         ·refine VT rfl (bnT h9) ?_
          refine AL.off ?_
          refine AL.off ?_
          refine AL.off ?_
          refine AL.off ?_
          refine V rfl ?_
          refine AL.nil ?_
          cases hr
          exact q1i
        ·refine bdE hr fun s7 hqq10 hr=>?_
         refine AL.meet1 7 [(1,.pb 0 0),(3,.d .fz (.i .i64 (a0.Right.length:Int))),(7,.d .fz (.i .i64 (k3:Int))),(8,.pb 1 0),(104,.d .fz (.b s7))] ?_ ?_
         ·replace hr:=hqq10
          refine ifE hr (fun h10 hr=>?_) fun h10 hr=>?_
          ·refine VT rfl h10 ?_
           refine AL.off ?_
           refine AL.off ?_
           refine AL.off ?_
           refine AL.off ?_
           refine AL.off ?_
           refine V rfl ?_
           refine AL.nil ?_
           cases hr
           exact q1i
          ·refine VF rfl (bF h10) ?_
           iterate 3 refine V rfl ?_
           refine bdE hr fun y9 hy9 hr=>?_
           refine CB [] [] (q9c (m:=m) hy9) ?_
           iterate 2 refine V rfl ?_
           refine AL.nil ?_
           cases hr
           exact q1i
         ·refine bdE hr fun s8 hqq11 hr=>?_
          refine AL.meet1 7 [(1,.pb 0 0),(3,.d .fz (.i .i64 (a0.Right.length:Int))),(7,.d .fz (.i .i64 (k3:Int))),(111,.d .fz (.b s8))] ?_ ?_
          ·replace hr:=hqq11
           refine ifE hr (fun h11 hr=>?_) fun h11 hr=>?_
           ·refine VT rfl h11 ?_
            refine AL.off ?_
            refine AL.off ?_
            refine AL.off ?_
            refine AL.off ?_
            refine AL.off ?_
            refine V rfl ?_
            refine AL.nil ?_
            cases hr
            exact q1i
           ·refine VF rfl (bF h11) ?_
            iterate 3 refine V rfl ?_
            refine bdE hr fun y10 hy10 hr=>?_
            refine CB [] [] (q9c (m:=m) hy10) ?_
            iterate 2 refine V rfl ?_
            refine AL.nil ?_
            cases hr
            exact q1i
          ·refine AL.nil ?_
           refine ifE hr (fun h12 hr=>?_) fun h12 hr=>?_
           ·refine AW.cT rfl h12 ?_
            refine AW.seq (AW.regL ?_)
            refine V rfl ?_
            refine AL.nil ?_
            refine AW.ret ?_
            cases hr
            cases hik3 _ rfl
            rename_i hr
            cases hr
            exact endA.renK [] 0 hS
           ·refine AW.cF rfl (bF h12) ?_
            refine AW.skip ?_
            refine AW.regL ?_
            refine V rfl ?_
            refine OB _ (q1X (p:=k3) (q:=1) (q1h hltk3 hl3)) ?_
            refine V rfl ?_
            refine AL.nil ?_
            cases hr
            exact⟨_,rfl,GH.renK hS [(0,0)] 1⟩
       ·subst ek3
        refine AW.seq (AW.seq (AW.regL ?_))
        iterate 3 refine V rfl ?_
        refine LF ?_
        refine V rfl ?_
        refine AL.nil ?_
        refine AW.cF rfl (dF hltk3) ?_
        refine AW.exit ?_
        refine AW.seq (AW.regL ?_)
        refine V rfl ?_
        refine AL.nil ?_
        refine AW.ret ?_
        cases hr
        exact endA.renK [] 0 hS
def q9e:Nat→Symbol→((List ByteArray))→Option (((List ByteArray)) ⊕ Int):=fun k1 xk1 s1=>
 (q4n xk1).bind fun y1=>
 if y1=true then (
 (q5X s1 xk1.Name).bind fun y2=>
 if y2=true then (
 some (.inr (k1:Int))
 ) else (
 grd (((s1.length:Int)+1)*16≤140737488355328∧(s1.length:Int)+1≤9223372036854775807) <|
 some (.inl (s1++[xk1.Name]))
 )
 ) else (
 some (.inr (k1:Int))
 )
def q9f:Nat→Rule→((List ByteArray))→Option (((List ByteArray)) ⊕ Int):=fun k2 xk2 s2=>
 (q4V xk2).bind fun y3=>
 if y3=true then (
 (q5X s2 xk2.Name).bind fun y4=>
 if y4=true then (
 some (.inr (k2:Int))
 ) else (
 grd (((s2.length:Int)+1)*16≤140737488355328∧(s2.length:Int)+1≤9223372036854775807) <|
 some (.inl (s2++[xk2.Name]))
 )
 ) else (
 some (.inr (k2:Int))
 )
def q8J (a0:Grammar):Option Int:=
 (findL q9e 0 a0.Symbols ([]:List ByteArray)).bind <| onr (fun r1=>some r1) fun s1=>
 (findL q9f 0 a0.Rules ([]:List ByteArray)).bind <| onr (fun r2=>some r2) fun s2=>
 some (-1)
theorem z8b {m:Md}{a0:Grammar}{r:Int}(hr:q8J a0=some r):Ok Tryz.prog 24 [Grammar.x m a0] [] (.d .fz (.i .i64 r)) []:=by
 refine Ok.enter rfl Tryz.func24 rfl rfl rfl fun S hS=>?_
 unfold q8J at hr
 refine AW.seq (AW.regL ?_)
 refine BX 0 ?_
 refine V rfl ?_
 refine AL.nil ?_
 refine AW.seq (AW.regL ?_)
 refine L0 1 A.D.s ?_
 refine V rfl ?_
 refine AL.nil ?_
 refine AW.seq (AW.seq (AW.regL ?_))
 refine V rfl ?_
 refine AL.nil ?_
 refine AW.block ?_
 refine AW.len (.ag 0 (.tmp 0 rfl) rfl) fun hl1=>?_
 refine bdE hr fun q1 hqq1 hr=>?_
 refine AW.findL hqq1 hl1 2 (fun k1 s1=>[(1,.pb 0 0),(3,.ref 1 none),(4,.d .fz (.i .i64 (k1:Int)))]) (fun k1 s1=>[(1,.row .fz 1 (s1.map A.D.s))]) (GH.renK hS [(0,0),(1,1)] 2) (fun k1 xk1 sk1 ok1 hxk1 hr hltk1 hik1=>?_) fun k1 sk1 ek1 hltk1=>?_
 ·obtain⟨s1,rfl⟩:∃ y,y=sk1:=⟨_,rfl⟩
  refine AW.seq (AW.seq (AW.regL ?_))
  iterate 3 refine V rfl ?_
  refine LF ?_
  refine V rfl ?_
  refine AL.nil ?_
  refine AW.cT rfl (dT hltk1) ?_
  refine AW.skip ?_
  refine AW.seq (AW.block (AW.seq (AW.seq (AW.regL ?_))))
  iterate 3 refine V rfl ?_
  refine IF (Int.natCast_nonneg _) hxk1 ?_
  refine V rfl ?_
  refine bdE hr fun y1 hy1 hr=>?_
  refine CB [] [] (z0t (m:=m) hy1) ?_
  refine V rfl ?_
  refine ifE hr (fun h1 hr=>?_) fun h1 hr=>?_
  ·refine VF rfl (bnF h1) ?_
   iterate 4 refine V rfl ?_
   refine IF (Int.natCast_nonneg _) hxk1 ?_
   iterate 2 refine V rfl ?_
   refine bdE hr fun y2 hy2 hr=>?_
   refine CB [] [1] (q9M (m:=.bo) hy2) ?_
   refine V rfl ?_
   refine AL.nil ?_
   refine ifE hr (fun h2 hr=>?_) fun h2 hr=>?_
   ·refine AW.cT rfl h2 ?_
    refine AW.seq (AW.regL ?_)
    iterate 2 refine V rfl ?_
    refine AL.nil ?_
    refine AW.ret ?_
    cases hr
    cases hik1 _ rfl
    rename_i hr
    cases hr
    exact endA.renK [] 0 hS
   ·refine AW.cF rfl (bF h2) ?_
    refine AW.skip ?_
    refine AW.regL ?_
    iterate 4 refine V rfl ?_
    refine IF (Int.natCast_nonneg _) hxk1 ?_
    iterate 2 refine V rfl ?_
    refine LIR 2 (m:=.fz) (f:=A.D.s) (xs:=[xk1.Name]) ?_
    refine ggE hr fun g1 hr=>?_
    refine APf1 (f:=A.D.s) 3 (fun _=>rfl) 16 g1 ?_
    refine V rfl ?_
    refine AL.nil ?_
    refine AW.regL ?_
    refine V rfl ?_
    refine OB _ (q1X (p:=k1) (q:=1) (q1h hltk1 hl1)) ?_
    refine V rfl ?_
    refine AL.nil ?_
    cases hr
    exact⟨_,rfl,GH.renK hS [(0,0),(3,1)] 2⟩
  ·refine VT rfl (bnT h1) ?_
   refine AL.off ?_
   refine AL.off ?_
   refine AL.off ?_
   refine AL.off ?_
   refine AL.off ?_
   refine AL.off ?_
   refine AL.off ?_
   refine AL.off ?_
   refine V rfl ?_
   refine AL.nil ?_
   refine AW.cT rfl rfl ?_
   refine AW.seq (AW.regL ?_)
   iterate 2 refine V rfl ?_
   refine AL.nil ?_
   refine AW.ret ?_
   cases hr
   cases hik1 _ rfl
   rename_i hr
   cases hr
   exact endA.renK [] 0 hS
 ·subst ek1
  obtain⟨s1,rfl⟩:∃ y,y=sk1:=⟨_,rfl⟩
  refine AW.seq (AW.seq (AW.regL ?_))
  iterate 3 refine V rfl ?_
  refine LF ?_
  refine V rfl ?_
  refine AL.nil ?_
  refine AW.cF rfl (dF hltk1) ?_
  refine AW.exit ?_
  refine AW.seq (AW.regL ?_)
  refine L0 2 A.D.s ?_
  refine V rfl ?_
  refine AL.nil ?_
  refine AW.seq (AW.seq (AW.regL ?_))
  refine V rfl ?_
  refine AL.nil ?_
  refine AW.block ?_
  refine AW.len (.box 0 1 rfl rfl) fun hl2=>?_
  refine bdE hr fun q2 hqq2 hr=>?_
  refine AW.findL hqq2 hl2 3 (fun k2 s2=>[(1,.pb 0 0),(3,.ref 2 none),(5,.d .fz (.i .i64 (k2:Int)))]) (fun k2 s2=>[(2,.row .fz 1 (s2.map A.D.s))]) (GH.renK hS [(0,0),(1,1),(2,2)] 3) (fun k2 xk2 sk2 ok2 hxk2 hr hltk2 hik2=>?_) fun k2 sk2 ek2 hltk2=>?_
  ·obtain⟨s2,rfl⟩:∃ y,y=sk2:=⟨_,rfl⟩
   refine AW.seq (AW.seq (AW.regL ?_))
   iterate 3 refine V rfl ?_
   refine LF ?_
   refine V rfl ?_
   refine AL.nil ?_
   refine AW.cT rfl (dT hltk2) ?_
   refine AW.skip ?_
   refine AW.seq (AW.block (AW.seq (AW.seq (AW.regL ?_))))
   iterate 3 refine V rfl ?_
   refine IF (Int.natCast_nonneg _) hxk2 ?_
   refine V rfl ?_
   refine bdE hr fun y3 hy3 hr=>?_
   refine CB [] [] (z2a (m:=m) hy3) ?_
   refine V rfl ?_
   refine ifE hr (fun h3 hr=>?_) fun h3 hr=>?_
   ·refine VF rfl (bnF h3) ?_
    iterate 4 refine V rfl ?_
    refine IF (Int.natCast_nonneg _) hxk2 ?_
    iterate 2 refine V rfl ?_
    refine bdE hr fun y4 hy4 hr=>?_
    refine CB [] [2] (q9M (m:=.bo) hy4) ?_
    refine V rfl ?_
    refine AL.nil ?_
    refine ifE hr (fun h4 hr=>?_) fun h4 hr=>?_
    ·refine AW.cT rfl h4 ?_
     refine AW.seq (AW.regL ?_)
     iterate 2 refine V rfl ?_
     refine AL.nil ?_
     refine AW.ret ?_
     cases hr
     cases hik2 _ rfl
     rename_i hr
     cases hr
     exact endA.renK [] 0 hS
    ·refine AW.cF rfl (bF h4) ?_
     refine AW.skip ?_
     refine AW.regL ?_
     iterate 4 refine V rfl ?_
     refine IF (Int.natCast_nonneg _) hxk2 ?_
     iterate 2 refine V rfl ?_
     refine LIR 3 (m:=.fz) (f:=A.D.s) (xs:=[xk2.Name]) ?_
     refine ggE hr fun g2 hr=>?_
     refine APf1 (f:=A.D.s) 4 (fun _=>rfl) 16 g2 ?_
     refine V rfl ?_
     refine AL.nil ?_
     refine AW.regL ?_
     refine V rfl ?_
     refine OB _ (q1X (p:=k2) (q:=1) (q1h hltk2 hl2)) ?_
     refine V rfl ?_
     refine AL.nil ?_
     cases hr
     exact⟨_,rfl,GH.renK hS [(0,0),(1,1),(4,2)] 3⟩
   ·refine VT rfl (bnT h3) ?_
    refine AL.off ?_
    refine AL.off ?_
    refine AL.off ?_
    refine AL.off ?_
    refine AL.off ?_
    refine AL.off ?_
    refine AL.off ?_
    refine AL.off ?_
    refine V rfl ?_
    refine AL.nil ?_
    refine AW.cT rfl rfl ?_
    refine AW.seq (AW.regL ?_)
    iterate 2 refine V rfl ?_
    refine AL.nil ?_
    refine AW.ret ?_
    cases hr
    cases hik2 _ rfl
    rename_i hr
    cases hr
    exact endA.renK [] 0 hS
  ·subst ek2
   obtain⟨s2,rfl⟩:∃ y,y=sk2:=⟨_,rfl⟩
   refine AW.seq (AW.seq (AW.regL ?_))
   iterate 3 refine V rfl ?_
   refine LF ?_
   refine V rfl ?_
   refine AL.nil ?_
   refine AW.cF rfl (dF hltk2) ?_
   refine AW.exit ?_
   refine AW.seq (AW.regL ?_)
   refine V rfl ?_
   refine AL.nil ?_
   refine AW.ret ?_
   cases hr
   exact endA.renK [] 0 hS
def q4W (a0:Grammar)(a1:Rule):Int→Option (Int ⊕ (Unit ⊕ Bool)):=fun s1=>
 if s1≤(a1.Right.length:Int) then (
 (q3m a1 s1).bind fun y1=>
 (q3e a0 y1).bind fun (y2,y3)=>
 if y3=true then (
 grd (I64 (s1+1)) <|
 some (.inl (s1+1))
 ) else (
 some (.inr (.inr false))
 )
 ) else (
 some (.inr (.inl ()))
 )
def q5C (a0:Grammar)(a1:Rule):Option Bool:=
 (q3D (q4W a0 a1) 0).bind <| onr (fun r1=>some r1) fun ()=>
 some true
theorem z2C {m:Md}{a0:Grammar}{a1:Rule}{r:Bool}(hr:q5C a0 a1=some r):Ok Tryz.prog 61 [Grammar.y m a0,Rule.x m a1] [] (.d .fz (.b r)) []:=by
 refine Ok.enter rfl Tryz.func61 rfl rfl rfl fun S hS=>?_
 unfold q5C at hr
 refine AW.seq (AW.regL ?_)
 refine BX 0 ?_
 refine BX 1 ?_
 refine V rfl ?_
 refine AL.nil ?_
 refine AW.seq (AW.seq (AW.regL ?_))
 refine V rfl ?_
 refine AL.nil ?_
 refine bdE hr fun q1 hqq1 hr=>?_
 refine AW.cut 2 (fun _=>[]) (fun _=>[]) (M:=fun x=>q1 = .inl x) ?_ fun x hx=>?_
 ·refine AW.block (AW.iter hqq1 2 (fun s1=>[(2,.pb 0 0),(3,.pb 1 0),(5,.d .fz (.i .i64 s1))]) (fun s1=>[]) (GH.trans (GH.bw (q:=0) [.d m (.sl 2 (a0.Symbols.map Symbol.D)),.u] (.cons .rfl (.cons .u .nil)) rfl) (GH.renK hS [(0,0),(1,1)] 2)) fun sk1 ok1 hr hik1=>?_)
  obtain⟨s1,rfl⟩:∃ y,y=sk1:=⟨_,rfl⟩
  have hr:=hr
  refine AW.seq (AW.seq (AW.regL ?_))
  iterate 3 refine V rfl ?_
  refine LF ?_
  refine V rfl ?_
  refine AL.nil ?_
  refine ifE hr (fun h1 hr=>?_) fun h1 hr=>?_
  ·refine AW.cT rfl (dT h1) ?_
   refine AW.skip ?_
   refine AW.seq (AW.block (AW.seq (AW.drawL (h:=?_))))
   iterate 3 refine V rfl ?_
   refine bdE hr fun y1 hy1 hr=>?_
   refine CB [] [] (q6g (m:=m) hy1) ?_
   refine bdE hr fun q2 hq2 hr=>?_
   obtain⟨y2,y3⟩:=q2
   refine CB [(0,2)] [] (q4M (m:=m) hq2) ?_
   iterate 3 refine V rfl ?_
   refine NV 3 ?_
   refine SB ?_
   refine V rfl ?_
   refine AL.nil ?_
   refine AW.seq (AW.regL ?_)
   iterate 2 refine V rfl ?_
   refine AL.nil ?_
   refine ifE hr (fun h2 hr=>?_) fun h2 hr=>?_
   ·refine AW.cF rfl (bnF h2) ?_
    refine AW.skip ?_
    refine AW.regL ?_
    refine V rfl ?_
    refine ggE hr fun g1 hr=>?_
    refine OB _ (bAdd g1) ?_
    refine V rfl ?_
    refine AL.nil ?_
    cases hr
    exact⟨_,rfl,GH.trans (GH.bw (q:=0) [.d m (.sl 2 (a0.Symbols.map Symbol.D)),.u] (.cons .rfl (.cons .u .nil)) rfl) (GH.renK hS [(0,0),(1,1)] 2)⟩
   ·refine AW.cT rfl (bnT h2) ?_
    refine AW.seq (AW.regL ?_)
    refine V rfl ?_
    refine AL.nil ?_
    refine AW.ret ?_
    cases hr
    cases hik1 _ rfl
    rename_i hr
    cases hr
    exact endA.renK [] 0 hS
  ·refine AW.cF rfl (dF h1) ?_
   refine AW.exit ?_
   cases hr
   cases hik1 _ rfl
   exact⟨_,rfl,GH.trans (GH.bw (q:=0) [.d m (.sl 2 (a0.Symbols.map Symbol.D)),.u] (.cons .rfl (.cons .u .nil)) rfl) (GH.renK hS [(0,0),(1,1)] 2)⟩
 ·subst hx
  refine AW.seq (AW.regL ?_)
  refine V rfl ?_
  refine AL.nil ?_
  refine AW.ret ?_
  cases hr
  exact endA.renK [] 0 hS
end Go.Proofs.YtiojgbiimbefiabGreat
