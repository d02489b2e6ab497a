/- What some functions of the program compute, as partial functions on plain data, and that they do; each lemma bears its conditions in its statement. -/
import Derived.Test.YtiojgbiimbefiaaGreatLift5
set_option linter.unusedVariables false
set_option linter.unusedSimpArgs false
set_option linter.ambiguousOpen false
set_option linter.unusedSectionVars false
set_option linter.unnecessarySimpa false
set_option maxRecDepth 100000
set_option maxHeartbeats 40000000
noncomputable section
namespace Go.Proofs.YtiojgbiimbefiaaGreat
open Go Go.E Go.A
def z6F (a1:(List Int)):Nat→Int→Unit→Option (Unit ⊕ Bool):=fun k1 xk1 _=>
 (a1[k1]?).bind fun x1=>
 if xk1=x1 then (
 some (.inl ())
 ) else (
 some (.inr false)
 )
def q8H (a0:(List Int))(a1:(List Int)):Option Bool:=
 if (a0.length:Int)=(a1.length:Int) then (
 (findL (z6F a1) 0 a0 ()).bind <| onr (fun r1=>some r1) fun _=>
 some true
 ) else (
 some false
 )
theorem z6G {m:Md}{a0:(List Int)}{a1:(List Int)}{r:Bool}(hr:q8H a0 a1=some r):Ok Tryz.prog 24 [.d m (.sl 1 (a0.map (A.D.i .i64))),.d m (.sl 1 (a1.map (A.D.i .i64)))] [] (.d .fz (.b r)) []:=by
 refine Ok.enter rfl Tryz.func24 rfl rfl rfl fun S hS=>?_
 unfold q8H at hr
 refine AW.seq (AW.regL ?_)
 refine V rfl ?_
 refine AL.nil ?_
 refine AW.seq (AW.seq (AW.regL ?_))
 refine V rfl ?_
 refine LF ?_
 refine V rfl ?_
 refine LF ?_
 refine V rfl ?_
 refine AL.nil ?_
 refine ifE hr (fun h1 hr=>?_) fun h1 hr=>?_
 ·refine AW.cF rfl (nF h1) ?_
  refine AW.skip ?_
  refine AW.seq (AW.seq (AW.regL ?_))
  refine V rfl ?_
  refine AL.nil ?_
  refine AW.block ?_
  refine AW.len (.tmp 0 rfl) fun hl1=>?_
  refine bdE hr fun q1 hqq1 hr=>?_
  refine AW.findL hqq1 hl1 0 (fun k1 _=>[(0,.d m (.sl 1 (a0.map (A.D.i .i64)))),(1,.d m (.sl 1 (a1.map (A.D.i .i64)))),(5,.d .fz (.i .i64 (k1:Int)))]) (fun k1 _=>[]) (GH.renK hS [] 0) (fun k1 xk1 sk1 ok1 hxk1 hr hltk1 hik1=>?_) fun k1 sk1 ek1 hltk1=>?_
  ·refine AW.seq (AW.seq (AW.regL ?_))
   iterate 2 refine V rfl ?_
   refine LF ?_
   refine V rfl ?_
   refine AL.nil ?_
   refine AW.cT rfl (dT hltk1) ?_
   refine AW.skip ?_
   refine AW.seq (AW.block (AW.seq (AW.drawL (h:=?_))))
   iterate 2 refine V rfl ?_
   refine IF (Int.natCast_nonneg _) hxk1 ?_
   iterate 3 refine V rfl ?_
   refine bdE hr fun x1 hx1 hr=>?_
   refine IF (Int.natCast_nonneg _) hx1 ?_
   iterate 2 refine V rfl ?_
   refine AL.nil ?_
   refine ifE hr (fun h2 hr=>?_) fun h2 hr=>?_
   ·refine AW.cF rfl (nF h2) ?_
    refine AW.skip ?_
    refine AW.regL ?_
    refine V rfl ?_
    refine OB _ (q2c (p:=k1) (q:=1) (q1n hltk1 hl1)) ?_
    refine V rfl ?_
    refine AL.nil ?_
    cases hr
    exact⟨_,rfl,GH.renK hS [] 0⟩
   ·refine AW.cT rfl (nT h2) ?_
    refine AW.seq (AW.regL ?_)
    refine V rfl ?_
    refine AL.nil ?_
    refine AW.ret ?_
    cases hr
    cases hik1 _ rfl
    rename_i hr
    cases hr
    exact endA.renK [] 0 hS
  ·subst ek1
   refine AW.seq (AW.seq (AW.regL ?_))
   iterate 2 refine V rfl ?_
   refine LF ?_
   refine V rfl ?_
   refine AL.nil ?_
   refine AW.cF rfl (dF hltk1) ?_
   refine AW.exit ?_
   refine AW.seq (AW.regL ?_)
   refine V rfl ?_
   refine AL.nil ?_
   refine AW.ret ?_
   cases hr
   exact endA.renK [] 0 hS
 ·refine AW.cT rfl (nT h1) ?_
  refine AW.seq (AW.regL ?_)
  refine V rfl ?_
  refine AL.nil ?_
  refine AW.ret ?_
  cases hr
  exact endA.renK [] 0 hS
def q2I (a0:Relation)(a1:Relation):Option Bool:=
 if a0.N=a1.N then (
 (q8H a0.Rows a1.Rows).bind fun y1=>
 some y1
 ) else (
 some false
 )
theorem q5h {m:Md}{a0:Relation}{a1:Relation}{r:Bool}(hr:q2I a0 a1=some r):Ok Tryz.prog 7 [Relation.x m a0,Relation.x m a1] [] (.d .fz (.b r)) []:=by
 refine Ok.enter rfl Tryz.func7 rfl rfl rfl fun S hS=>?_
 unfold q2I at hr
 refine AW.seq (AW.regL ?_)
 refine BX 0 ?_
 refine BX 1 ?_
 refine V rfl ?_
 refine AL.nil ?_
 refine AW.seq (AW.regL ?_)
 iterate 5 refine V rfl ?_
 refine ifE hr (fun h1 hr=>?_) fun h1 hr=>?_
 ·refine VT rfl (dT h1) ?_
  iterate 4 refine V rfl ?_
  refine bdE hr fun y1 hy1 hr=>?_
  refine CB [] [] (z6G (m:=m) hy1) ?_
  iterate 2 refine V rfl ?_
  refine AL.nil ?_
  refine AW.ret ?_
  cases hr
  exact endA.renK [] 0 hS
 ·refine VF rfl (dF h1) ?_
  refine AL.off ?_
  refine AL.off ?_
  refine AL.off ?_
  refine AL.off ?_
  refine AL.off ?_
  iterate 2 refine V rfl ?_
  refine AL.nil ?_
  refine AW.ret ?_
  cases hr
  exact endA.renK [] 0 hS
def q5B (a2:Relation)(y2:(List Int))(k1:Nat)(xk1:Attribute):Nat→Attribute→((List Int) × Int)→Option ((List Int) × Int):=fun k2 xk2 (s3,s4)=>
 (
 if xk1.Mode=1 then (
 if xk2.Mode=2 then (
 (y2[k1]?).bind fun x1=>
 (y2[k2]?).bind fun x2=>
 (q5d a2 x1 x2).bind fun y4=>
 if y4=true then (
 (q5c (⟨s4,s3⟩:Relation) (k1:Int) (k2:Int)).bind fun y5=>
 some (y5.Rows,y5.N)
 ) else (
 some (s3,s4)
 )
 ) else (
 some (s3,s4)
 )
 ) else (
 some (s3,s4)
 )
 ).bind fun (s5,s6)=>
 some (s5,s6)
def q6V (a2:Relation)(y1:(List Attribute))(y2:(List Int)):Nat→Attribute→((List Int) × Int)→Option ((List Int) × Int):=fun k1 xk1 (s1,s2)=>
 (eachL (q5B a2 y2 k1 xk1) 0 y1 (s1,s2)).bind fun (s3,s4)=>
 some (s3,s4)
def q5s (a0:Grammar)(a1:Rule)(a2:Relation):Option Relation:=
 (q1H a0 a1.Left).bind fun y1=>
 (q1M a0 a1 0).bind fun y2=>
 (q2X (y1.length:Int)).bind fun y3=>
 (eachL (q6V a2 y1 y2) 0 y1 (y3.Rows,y3.N)).bind fun (s1,s2)=>
 some (⟨s2,s1⟩:Relation)
theorem z2x {m:Md}{a0:Grammar}{a1:Rule}{a2:Relation}{r:Relation}(hr:q5s a0 a1 a2=some r):Ok Tryz.prog 10 [Grammar.y m a0,Rule.x m a1,Relation.x m a2] [] (.ag [.d .fz (.i .i64 r.N),.ref 0 none]) [.row .fz 1 (r.Rows.map (A.D.i .i64))]:=by
 refine Ok.enter rfl Tryz.func10 rfl rfl rfl fun S hS=>?_
 unfold q5s at hr
 refine AW.seq (AW.regL ?_)
 refine BX 0 ?_
 refine BX 1 ?_
 refine BX 2 ?_
 refine NV 3 ?_
 refine AL.nil ?_
 refine AW.seq (AW.drawL (h:=?_))
 iterate 3 refine V rfl ?_
 refine bdE hr fun y1 hy1 hr=>?_
 refine CB [(0,4)] [] (q4o (m:=m) hy1) ?_
 iterate 2 refine V rfl ?_
 refine bdE hr fun y2 hy2 hr=>?_
 refine CB [(0,5)] [] (q5Y (m:=m) hy2) ?_
 iterate 2 refine V rfl ?_
 refine AL.nil ?_
 refine AW.seq (AW.regL ?_)
 refine V rfl ?_
 refine LE ?_
 refine bdE hr fun y3 hy3 hr=>?_
 refine CB [(0,6)] [] (q6D hy3) ?_
 refine NV 7 ?_
 refine SB ?_
 refine AL.nil ?_
 refine AW.seq (AW.seq (AW.regL ?_))
 refine V rfl ?_
 refine LE ?_
 refine V rfl ?_
 refine AL.nil ?_
 refine AW.block ?_
 refine AW.lenR 4 rfl fun hl1=>?_
 refine bdE hr fun q1 hqq1 hr=>?_
 obtain⟨s1,s2⟩:=q1
 refine AW.eachL hqq1 hl1 8 (fun k1 (s1,s2)=>[(5,.pb 2 0),(6,.pb 3 0),(7,.ref 4 none),(8,.ref 5 none),(9,.pb 7 0),(24,.ref 4 none),(25,.d .fz (.i .i64 (y1.length:Int))),(26,.d .fz (.i .i64 (k1:Int)))]) (fun k1 (s1,s2)=>[(6,.row .fz 1 (s1.map (A.D.i .i64))),(7,.box [.d .fz (.i .i64 s2),.ref 6 none])]) (GH.trans (GH.bw (q:=0) [.d m (.sl 2 (a0.Symbols.map Symbol.D)),.u] (.cons .rfl (.cons .u .nil)) rfl) (GH.renK hS [(0,0),(1,1),(2,2),(3,3),(4,4),(5,5),(6,6),(7,7)] 8)) (fun k1 xk1 sk1 ok1 hxk1 hr hltk1=>?_) fun k1 hltk1=>?_
 ·obtain⟨s1,s2⟩:=sk1
  refine AW.seq (AW.regL ?_)
  refine V rfl ?_
  refine AL.nil ?_
  refine AW.seq (AW.cT rfl (dT hltk1) ?_)
  refine AW.skip ?_
  refine AW.seq (AW.block (AW.seq (AW.regL ?_)))
  refine V rfl ?_
  refine IE hxk1 (Int.natCast_nonneg _) ?_
  refine LPa hxk1 ?_
  refine NV 8 ?_
  refine V rfl ?_
  refine SB ?_
  refine AL.nil ?_
  refine AW.seq (AW.regL ?_)
  refine V rfl ?_
  refine LE ?_
  refine V rfl ?_
  refine AL.nil ?_
  refine AW.block ?_
  refine AW.lenR 4 rfl fun hl2=>?_
  refine bdE hr fun q2 hqq2 hr=>?_
  obtain⟨s3,s4⟩:=q2
  refine AW.eachL hqq2 hl2 9 (fun k2 (s3,s4)=>[(5,.pb 2 0),(6,.pb 3 0),(7,.ref 4 none),(8,.ref 5 none),(9,.pb 7 0),(10,.d .fz (.i .i64 (k1:Int))),(11,.pb 8 0),(24,.ref 4 none),(25,.d .fz (.i .i64 (y1.length:Int))),(26,.d .fz (.i .i64 (k1:Int))),(31,.ref 4 none),(32,.d .fz (.i .i64 (y1.length:Int))),(33,.d .fz (.i .i64 (k2:Int)))]) (fun k2 (s3,s4)=>[(6,.row .fz 1 (s3.map (A.D.i .i64))),(7,.box [.d .fz (.i .i64 s4),.ref 6 none])]) (GH.trans (GH.bw (q:=0) [.d m (.sl 2 (a0.Symbols.map Symbol.D)),.u] (.cons .rfl (.cons .u .nil)) rfl) (GH.renK hS [(0,0),(1,1),(2,2),(3,3),(4,4),(5,5),(6,6),(7,7),(8,8)] 9)) (fun k2 xk2 sk2 ok2 hxk2 hr hltk2=>?_) fun k2 hltk2=>?_
  ·obtain⟨s3,s4⟩:=sk2
   refine AW.seq (AW.regL ?_)
   refine V rfl ?_
   refine AL.nil ?_
   refine AW.seq (AW.cT rfl (dT hltk2) ?_)
   refine AW.skip ?_
   refine bdE hr fun q3 hqq3 hr=>?_
   obtain⟨s5,s6⟩:=q3
   refine AW.seq (AW.cut1 9 [(5,.pb 2 0),(6,.pb 3 0),(7,.ref 4 none),(8,.ref 5 none),(9,.pb 7 0),(10,.d .fz (.i .i64 (k1:Int))),(11,.pb 8 0),(24,.ref 4 none),(25,.d .fz (.i .i64 (y1.length:Int))),(26,.d .fz (.i .i64 (k1:Int))),(31,.ref 4 none),(32,.d .fz (.i .i64 (y1.length:Int))),(33,.d .fz (.i .i64 (k2:Int)))] [(6,.row .fz 1 (s5.map (A.D.i .i64))),(7,.box [.d .fz (.i .i64 s6),.ref 6 none])] ?_ ?_)
   ·replace hr:=hqq3
    refine AW.block (AW.seq (AW.regL ?_))
    refine V rfl ?_
    refine IE hxk2 (Int.natCast_nonneg _) ?_
    refine LPa hxk2 ?_
    refine NV 9 ?_
    refine V rfl ?_
    refine SB ?_
    refine AL.nil ?_
    refine AW.seq (AW.drawL (h:=?_))
    iterate 3 refine V rfl ?_
    refine ifE hr (fun h1 hr=>?_) fun h1 hr=>?_
    ·refine VT rfl (dT h1) ?_
     iterate 4 refine V rfl ?_
     refine ifE hr (fun h2 hr=>?_) fun h2 hr=>?_
     ·refine VT rfl (dT h2) ?_
      iterate 3 refine V rfl ?_
      refine bdE hr fun x1 hx1 hr=>?_
      refine IE hx1 (Int.natCast_nonneg _) ?_
      refine LP hx1 ?_
      iterate 2 refine V rfl ?_
      refine bdE hr fun x2 hx2 hr=>?_
      refine IE hx2 (Int.natCast_nonneg _) ?_
      refine LP hx2 ?_
      refine bdE hr fun y4 hy4 hr=>?_
      refine CB [] [] (z0E (m:=m) hy4) ?_
      refine V rfl ?_
      refine AL.nil ?_
      refine ifE hr (fun h3 hr=>?_) fun h3 hr=>?_
      ·refine AW.cT rfl h3 ?_
       refine AW.regL ?_
       iterate 3 refine V rfl ?_
       refine bdE hr fun y5 hy5 hr=>?_
       refine CB [(0,10)] [6] (q8e (m:=.bo) hy5) ?_
       refine SB ?_
       refine AL.nil ?_
       cases hr
       exact GH.trans (GH.bw (q:=0) [.d m (.sl 2 (a0.Symbols.map Symbol.D)),.u] (.cons .rfl (.cons .u .nil)) rfl) (GH.renK hS [(0,0),(1,1),(2,2),(3,3),(4,4),(5,5),(10,6),(7,7),(8,8)] 9)
      ·refine AW.cF rfl (bF h3) ?_
       refine AW.skip ?_
       cases hr
       exact GH.trans (GH.bw (q:=0) [.d m (.sl 2 (a0.Symbols.map Symbol.D)),.u] (.cons .rfl (.cons .u .nil)) rfl) (GH.renK hS [(0,0),(1,1),(2,2),(3,3),(4,4),(5,5),(6,6),(7,7),(8,8)] 9)
     ·refine VF rfl (dF h2) ?_
      refine AL.off ?_
      refine AL.off ?_
      refine AL.off ?_
      refine AL.off ?_
      refine AL.off ?_
      refine AL.off ?_
      refine AL.off ?_
      refine AL.off ?_
      refine AL.off ?_
      refine AL.off ?_
      refine V rfl ?_
      refine AL.nil ?_
      refine AW.cF rfl rfl ?_
      refine AW.skip ?_
      cases hr
      exact GH.trans (GH.bw (q:=0) [.d m (.sl 2 (a0.Symbols.map Symbol.D)),.u] (.cons .rfl (.cons .u .nil)) rfl) (GH.renK hS [(0,0),(1,1),(2,2),(3,3),(4,4),(5,5),(6,6),(7,7),(8,8)] 9)
    ·refine VF rfl (dF h1) ?_
     refine AL.off ?_
     refine AL.off ?_
     refine AL.off ?_
     iterate 2 refine V rfl ?_
     refine AL.off ?_
     refine AL.off ?_
     refine AL.off ?_
     refine AL.off ?_
     refine AL.off ?_
     refine AL.off ?_
     refine AL.off ?_
     refine AL.off ?_
     refine AL.off ?_
     refine AL.off ?_
     refine V rfl ?_
     refine AL.nil ?_
     refine AW.cF rfl rfl ?_
     refine AW.skip ?_
     cases hr
     exact GH.trans (GH.bw (q:=0) [.d m (.sl 2 (a0.Symbols.map Symbol.D)),.u] (.cons .rfl (.cons .u .nil)) rfl) (GH.renK hS [(0,0),(1,1),(2,2),(3,3),(4,4),(5,5),(6,6),(7,7),(8,8)] 9)
   ·refine AW.regL ?_
    refine OB _ (q2c (p:=k2) (q:=1) (q1n hltk2 hl2)) ?_
    refine V rfl ?_
    refine AL.nil ?_
    cases hr
    exact GH.trans (GH.bw (q:=0) [.d m (.sl 2 (a0.Symbols.map Symbol.D)),.u] (.cons .rfl (.cons .u .nil)) rfl) (GH.renK hS [(0,0),(1,1),(2,2),(3,3),(4,4),(5,5),(6,6),(7,7),(8,8)] 9)
  ·refine AW.seq (AW.regL ?_)
   refine V rfl ?_
   refine AL.nil ?_
   refine AW.seq (AW.cF rfl (dF hltk2) ?_)
   refine AW.exit ?_
   refine AW.regL ?_
   refine OB _ (q2c (p:=k1) (q:=1) (q1n hltk1 hl1)) ?_
   refine V rfl ?_
   refine AL.nil ?_
   cases hr
   exact GH.trans (GH.bw (q:=0) [.d m (.sl 2 (a0.Symbols.map Symbol.D)),.u] (.cons .rfl (.cons .u .nil)) rfl) (GH.renK hS [(0,0),(1,1),(2,2),(3,3),(4,4),(5,5),(6,6),(7,7)] 8)
 ·refine AW.seq (AW.regL ?_)
  refine V rfl ?_
  refine AL.nil ?_
  refine AW.seq (AW.cF rfl (dF hltk1) ?_)
  refine AW.exit ?_
  refine AW.seq (AW.regL ?_)
  refine V rfl ?_
  refine SB ?_
  refine AL.nil ?_
  refine AW.ret ?_
  cases hr
  exact endA.renK [(6,0)] 1 hS
def q3z (a1:Relation):Nat→((List Int))→Option ((List Int)):=fun k1 s3=>
 (s3[k1]?).bind fun x1=>
 (a1.Rows[k1]?).bind fun x2=>
 grd (0≤x1∧0≤x2) <|
 some (List.set s3 k1 ((x1.toNat ||| x2.toNat:Nat):Int))
def q3Q (a0:Relation)(a1:Relation):Option Relation:=
 (q3R a0).bind fun y1=>
 (q1L a0).bind fun y2=>
 (
 if y2=true then (
 (q1L a1).bind fun y3=>
 some (!y3)
 ) else (
 some true
 )
 ).bind fun s1=>
 (
 if s1=true then (
 some true
 ) else (
 some (!(decide (a0.N=a1.N)))
 )
 ).bind fun s2=>
 if s2=true then (
 some y1
 ) else (
 (eachN (q3z a1) 0 a0.N.toNat y1.Rows).bind fun s3=>
 some (⟨y1.N,s3⟩:Relation)
 )
theorem q9h {m:Md}{a0:Relation}{a1:Relation}{r:Relation}(hr:q3Q a0 a1=some r):Ok Tryz.prog 36 [Relation.x m a0,Relation.x m a1] [] (.ag [.d .fz (.i .i64 r.N),.ref 0 none]) [.row .fz 1 (r.Rows.map (A.D.i .i64))]:=by
 refine Ok.enter rfl Tryz.func36 rfl rfl rfl fun S hS=>?_
 unfold q3Q at hr
 refine AW.seq (AW.regL ?_)
 refine BX 0 ?_
 refine BX 1 ?_
 refine NV 2 ?_
 refine AL.nil ?_
 refine AW.seq (AW.regL ?_)
 refine V rfl ?_
 refine bdE hr fun y1 hy1 hr=>?_
 refine CB [(0,3)] [] (q7X (m:=m) hy1) ?_
 refine NV 4 ?_
 refine SB ?_
 refine AL.nil ?_
 refine AW.seq (AW.seq (AW.regL ?_))
 refine V rfl ?_
 refine bdE hr fun y2 hy2 hr=>?_
 refine CB [] [] (q2y (m:=m) hy2) ?_
 refine V rfl ?_
 refine bdE hr fun s1 hqq1 hr=>?_
 refine AL.meet1 5 [(2,.pb 0 0),(3,.pb 1 0),(4,.pb 2 0),(5,.pb 4 0),(16,.d .fz (.b s1))] ?_ ?_
 ·replace hr:=hqq1
  refine ifE hr (fun h1 hr=>?_) fun h1 hr=>?_
  ·refine VF rfl (bnF h1) ?_
   refine V rfl ?_
   refine bdE hr fun y3 hy3 hr=>?_
   refine CB [] [] (q2y (m:=m) hy3) ?_
   iterate 2 refine V rfl ?_
   refine AL.nil ?_
   cases hr
   exact q1u
  ·refine VT rfl (bnT h1) ?_
   refine AL.off ?_
   refine AL.off ?_
   refine AL.off ?_
   refine V rfl ?_
   refine AL.nil ?_
   cases hr
   exact q1u
 ·refine bdE hr fun s2 hqq2 hr=>?_
  refine AL.meet1 7 [(2,.pb 0 0),(3,.pb 1 0),(4,.pb 2 0),(5,.pb 4 0),(23,.d .fz (.b s2))] ?_ ?_
  ·replace hr:=hqq2
   refine ifE hr (fun h2 hr=>?_) fun h2 hr=>?_
   ·refine VT rfl h2 ?_
    refine AL.off ?_
    refine AL.off ?_
    refine AL.off ?_
    refine AL.off ?_
    refine AL.off ?_
    refine V rfl ?_
    refine AL.nil ?_
    cases hr
    exact q1u
   ·refine VF rfl (bF h2) ?_
    iterate 6 refine V rfl ?_
    refine AL.nil ?_
    cases hr
    exact q1u
  ·refine AL.nil ?_
   refine ifE hr (fun h3 hr=>?_) fun h3 hr=>?_
   ·refine AW.cT rfl h3 ?_
    refine AW.seq (AW.regL ?_)
    refine V rfl ?_
    refine SB ?_
    refine AL.nil ?_
    refine AW.ret ?_
    cases hr
    exact endA.renK [(3,0)] 1 hS
   ·refine AW.cF rfl (bF h3) ?_
    refine AW.skip ?_
    refine AW.seq (AW.seq (AW.regL ?_))
    refine V rfl ?_
    refine AL.nil ?_
    refine AW.block ?_
    refine AW.rng (.box 0 0 rfl rfl) fun hl1=>?_
    refine bdE hr fun s3 hqq3 hr=>?_
    refine AW.eachN hqq3 5 (fun k1 s3=>[(2,.pb 0 0),(3,.pb 1 0),(4,.pb 2 0),(5,.pb 4 0),(6,.d .fz (.i .i64 (k1:Int)))]) (fun k1 s3=>[(3,.row .fz 1 (s3.map (A.D.i .i64)))]) (GH.renK hS [(0,0),(1,1),(2,2),(3,3),(4,4)] 5) (fun k1 sk1 ok1 hr hltk1=>?_) ?_
    ·obtain⟨s3,rfl⟩:∃ y,y=sk1:=⟨_,rfl⟩
     refine AW.seq (AW.seq (AW.regL ?_))
     iterate 4 refine V rfl ?_
     refine AL.nil ?_
     refine AW.cT rfl (dT (ltI hltk1)) ?_
     refine AW.skip ?_
     refine AW.seq (AW.block (AW.drawL (h:=?_)))
     iterate 6 refine V rfl ?_
     refine bdE hr fun x1 hx1 hr=>?_
     refine IE hx1 (Int.natCast_nonneg _) ?_
     refine LP hx1 ?_
     iterate 3 refine V rfl ?_
     refine bdE hr fun x2 hx2 hr=>?_
     refine IF (Int.natCast_nonneg _) hx2 ?_
     refine V rfl ?_
     refine ggE hr fun g1 hr=>?_
     refine OB _ (bOrI g1) ?_
     refine IE hx1 (Int.natCast_nonneg _) ?_
     refine SE ((x1.toNat ||| x2.toNat:Nat):Int) hx1 ?_
     refine AL.nil ?_
     refine AW.regL ?_
     refine V rfl ?_
     refine OB _ (q2c (p:=k1) (q:=1) (q1n (ltI hltk1) hl1.2)) ?_
     refine V rfl ?_
     refine AL.nil ?_
     cases hr
     exact GH.renK hS [(0,0),(1,1),(2,2),(3,3),(4,4)] 5
    ·refine AW.seq (AW.seq (AW.regL ?_))
     iterate 4 refine V rfl ?_
     refine AL.nil ?_
     refine AW.cF rfl (dF geI) ?_
     refine AW.exit ?_
     refine AW.seq (AW.regL ?_)
     refine V rfl ?_
     refine SB ?_
     refine AL.nil ?_
     refine AW.ret ?_
     cases hr
     exact endA.renK [(3,0)] 1 hS
def q6c (a0:Relation)(a1:Relation):Option Bool:=
 (q3Q a1 a0).bind fun y1=>
 (q2I y1 a1).bind fun y2=>
 some y2
theorem q9i {m:Md}{a0:Relation}{a1:Relation}{r:Bool}(hr:q6c a0 a1=some r):Ok Tryz.prog 11 [Relation.x m a0,Relation.x m a1] [] (.d .fz (.b r)) []:=by
 refine Ok.enter rfl Tryz.func11 rfl rfl rfl fun S hS=>?_
 unfold q6c at hr
 refine AW.seq (AW.regL ?_)
 refine BX 0 ?_
 refine BX 1 ?_
 refine V rfl ?_
 refine AL.nil ?_
 refine AW.seq (AW.drawL (h:=?_))
 iterate 2 refine V rfl ?_
 refine bdE hr fun y1 hy1 hr=>?_
 refine CB [(0,2)] [] (q9h (m:=m) hy1) ?_
 refine V rfl ?_
 refine bdE hr fun y2 hy2 hr=>?_
 refine CB [] [2] (q5h (m:=.bo) hy2) ?_
 refine V rfl ?_
 refine AL.nil ?_
 refine AW.ret ?_
 cases hr
 exact endA.renK [] 0 hS
def q3I (a2:Relation)(k1:Nat)(xk1:Attribute):Nat→Attribute→((List Int) × Int)→Option ((List Int) × Int):=fun k2 xk2 (s3,s4)=>
 (
 (
 if xk1.Mode=1 then (
 some (decide (xk2.Mode=2))
 ) else (
 some false
 )
 ).bind fun s7=>
 (
 if s7=true then (
 (q4u a2 (k1:Int) (k2:Int)).bind fun y3=>
 some y3
 ) else (
 some false
 )
 ).bind fun s8=>
 if s8=true then (
 (q2z (⟨s4,s3⟩:Relation) (k1:Int) (k2:Int)).bind fun y4=>
 some (y4.Rows,y4.N)
 ) else (
 some (s3,s4)
 )
 ).bind fun (s5,s6)=>
 some (s5,s6)
def q3J (a2:Relation)(y1:(List Attribute)):Nat→Attribute→((List Int) × Int)→Option ((List Int) × Int):=fun k1 xk1 (s1,s2)=>
 (eachL (q3I a2 k1 xk1) 0 y1 (s1,s2)).bind fun (s3,s4)=>
 some (s3,s4)
def q2O (a0:Grammar)(a1:Rule)(a2:Relation):Option Relation:=
 (q1X a0 a1.Left).bind fun y1=>
 (q1x (y1.length:Int)).bind fun y2=>
 (eachL (q3J a2 y1) 0 y1 (y2.Rows,y2.N)).bind fun (s1,s2)=>
 some (⟨s2,s1⟩:Relation)
theorem q8I {m:Md}{a0:Grammar}{a1:Rule}{a2:Relation}{r:Relation}(hr:q2O a0 a1 a2=some r):Ok Tryz.prog 13 [Grammar.y m a0,Rule.x m a1,Relation.x m a2] [] (.ag [.d .fz (.i .i64 r.N),.ref 0 none]) [.row .fz 1 (r.Rows.map (A.D.i .i64))]:=by
 refine Ok.enter rfl Tryz.func13 rfl rfl rfl fun S hS=>?_
 unfold q2O at hr
 refine AW.seq (AW.regL ?_)
 refine BX 0 ?_
 refine BX 1 ?_
 refine BX 2 ?_
 refine NV 3 ?_
 refine AL.nil ?_
 refine AW.seq (AW.regL ?_)
 iterate 3 refine V rfl ?_
 refine bdE hr fun y1 hy1 hr=>?_
 refine CB [(0,4)] [] (q4m (m:=m) hy1) ?_
 refine V rfl ?_
 refine AL.nil ?_
 refine AW.seq (AW.regL ?_)
 refine V rfl ?_
 refine LE ?_
 refine bdE hr fun y2 hy2 hr=>?_
 refine CB [(0,5)] [] (q3t hy2) ?_
 refine NV 6 ?_
 refine SB ?_
 refine AL.nil ?_
 refine AW.seq (AW.seq (AW.regL ?_))
 refine V rfl ?_
 refine AL.nil ?_
 refine AW.block ?_
 refine AW.lenR 4 rfl fun hl1=>?_
 refine bdE hr fun q1 hqq1 hr=>?_
 obtain⟨s1,s2⟩:=q1
 refine AW.eachL hqq1 hl1 7 (fun k1 (s1,s2)=>[(5,.pb 2 0),(6,.pb 3 0),(7,.ref 4 none),(8,.pb 6 0),(9,.d .fz (.i .i64 (k1:Int)))]) (fun k1 (s1,s2)=>[(5,.row .fz 1 (s1.map (A.D.i .i64))),(6,.box [.d .fz (.i .i64 s2),.ref 5 none])]) (GH.trans (GH.bw (q:=0) [.d m (.sl 2 (a0.Symbols.map Symbol.D)),.u] (.cons .rfl (.cons .u .nil)) rfl) (GH.renK hS [(0,0),(1,1),(2,2),(3,3),(4,4),(5,5),(6,6)] 7)) (fun k1 xk1 sk1 ok1 hxk1 hr hltk1=>?_) fun k1 hltk1=>?_
 ·obtain⟨s1,s2⟩:=sk1
  refine AW.seq (AW.seq (AW.regL ?_))
  iterate 2 refine V rfl ?_
  refine LE ?_
  refine V rfl ?_
  refine AL.nil ?_
  refine AW.cT rfl (dT hltk1) ?_
  refine AW.skip ?_
  refine AW.seq (AW.block (AW.seq (AW.regL ?_)))
  refine V rfl ?_
  refine AL.nil ?_
  refine AW.block ?_
  refine AW.lenR 4 rfl fun hl2=>?_
  refine bdE hr fun q2 hqq2 hr=>?_
  obtain⟨s3,s4⟩:=q2
  refine AW.eachL hqq2 hl2 7 (fun k2 (s3,s4)=>[(5,.pb 2 0),(6,.pb 3 0),(7,.ref 4 none),(8,.pb 6 0),(9,.d .fz (.i .i64 (k1:Int))),(10,.d .fz (.i .i64 (k2:Int)))]) (fun k2 (s3,s4)=>[(5,.row .fz 1 (s3.map (A.D.i .i64))),(6,.box [.d .fz (.i .i64 s4),.ref 5 none])]) (GH.trans (GH.bw (q:=0) [.d m (.sl 2 (a0.Symbols.map Symbol.D)),.u] (.cons .rfl (.cons .u .nil)) rfl) (GH.renK hS [(0,0),(1,1),(2,2),(3,3),(4,4),(5,5),(6,6)] 7)) (fun k2 xk2 sk2 ok2 hxk2 hr hltk2=>?_) fun k2 hltk2=>?_
  ·obtain⟨s3,s4⟩:=sk2
   refine AW.seq (AW.seq (AW.regL ?_))
   iterate 2 refine V rfl ?_
   refine LE ?_
   refine V rfl ?_
   refine AL.nil ?_
   refine AW.cT rfl (dT hltk2) ?_
   refine AW.skip ?_
   refine bdE hr fun q3 hqq3 hr=>?_
   obtain⟨s5,s6⟩:=q3
   refine AW.seq (AW.cut1 7 [(5,.pb 2 0),(6,.pb 3 0),(7,.ref 4 none),(8,.pb 6 0),(9,.d .fz (.i .i64 (k1:Int))),(10,.d .fz (.i .i64 (k2:Int)))] [(5,.row .fz 1 (s5.map (A.D.i .i64))),(6,.box [.d .fz (.i .i64 s6),.ref 5 none])] ?_ ?_)
   ·replace hr:=hqq3
    refine AW.block (AW.seq (AW.regL ?_))
    iterate 2 refine V rfl ?_
    refine IE hxk1 (Int.natCast_nonneg _) ?_
    refine V rfl ?_
    refine LP hxk1 ?_
    refine V rfl ?_
    refine bdE hr fun s7 hqq4 hr=>?_
    refine AL.meet1 8 [(5,.pb 2 0),(6,.pb 3 0),(7,.ref 4 none),(8,.pb 6 0),(9,.d .fz (.i .i64 (k1:Int))),(10,.d .fz (.i .i64 (k2:Int))),(43,.d .fz (.b s7))] ?_ ?_
    ·replace hr:=hqq4
     refine ifE hr (fun h1 hr=>?_) fun h1 hr=>?_
     ·refine VT rfl (dT h1) ?_
      iterate 2 refine V rfl ?_
      refine IE hxk2 (Int.natCast_nonneg _) ?_
      refine V rfl ?_
      refine LP hxk2 ?_
      iterate 2 refine V rfl ?_
      refine AL.nil ?_
      cases hr
      exact q1u
     ·refine VF rfl (dF h1) ?_
      refine AL.off ?_
      refine AL.off ?_
      refine AL.off ?_
      refine AL.off ?_
      refine AL.off ?_
      refine AL.off ?_
      refine V rfl ?_
      refine AL.nil ?_
      cases hr
      exact q1u
    ·refine bdE hr fun s8 hqq5 hr=>?_
     refine AL.meet1 6 [(5,.pb 2 0),(6,.pb 3 0),(7,.ref 4 none),(8,.pb 6 0),(9,.d .fz (.i .i64 (k1:Int))),(10,.d .fz (.i .i64 (k2:Int))),(49,.d .fz (.b s8))] ?_ ?_
     ·replace hr:=hqq5
      refine ifE hr (fun h2 hr=>?_) fun h2 hr=>?_
      ·refine VT rfl h2 ?_
       iterate 3 refine V rfl ?_
       refine bdE hr fun y3 hy3 hr=>?_
       refine CB [] [] (z0G (m:=m) hy3) ?_
       refine V rfl ?_
       refine AL.nil ?_
       cases hr
       exact q1u
      ·refine VF rfl (bF h2) ?_
       refine AL.off ?_
       refine AL.off ?_
       refine AL.off ?_
       refine AL.off ?_
       refine V rfl ?_
       refine AL.nil ?_
       cases hr
       exact q1u
     ·refine AL.nil ?_
      refine ifE hr (fun h3 hr=>?_) fun h3 hr=>?_
      ·refine AW.cT rfl h3 ?_
       refine AW.regL ?_
       iterate 3 refine V rfl ?_
       refine bdE hr fun y4 hy4 hr=>?_
       refine CB [(0,7)] [5] (q5V (m:=.bo) hy4) ?_
       refine SB ?_
       refine AL.nil ?_
       cases hr
       exact GH.trans (GH.bw (q:=0) [.d m (.sl 2 (a0.Symbols.map Symbol.D)),.u] (.cons .rfl (.cons .u .nil)) rfl) (GH.renK hS [(0,0),(1,1),(2,2),(3,3),(4,4),(7,5),(6,6)] 7)
      ·refine AW.cF rfl (bF h3) ?_
       refine AW.skip ?_
       cases hr
       exact GH.trans (GH.bw (q:=0) [.d m (.sl 2 (a0.Symbols.map Symbol.D)),.u] (.cons .rfl (.cons .u .nil)) rfl) (GH.renK hS [(0,0),(1,1),(2,2),(3,3),(4,4),(5,5),(6,6)] 7)
   ·refine AW.regL ?_
    refine V rfl ?_
    refine OB _ (q2c (p:=k2) (q:=1) (q1n hltk2 hl2)) ?_
    refine V rfl ?_
    refine AL.nil ?_
    cases hr
    exact GH.trans (GH.bw (q:=0) [.d m (.sl 2 (a0.Symbols.map Symbol.D)),.u] (.cons .rfl (.cons .u .nil)) rfl) (GH.renK hS [(0,0),(1,1),(2,2),(3,3),(4,4),(5,5),(6,6)] 7)
  ·refine AW.seq (AW.seq (AW.regL ?_))
   iterate 2 refine V rfl ?_
   refine LE ?_
   refine V rfl ?_
   refine AL.nil ?_
   refine AW.cF rfl (dF hltk2) ?_
   refine AW.exit ?_
   refine AW.regL ?_
   refine V rfl ?_
   refine OB _ (q2c (p:=k1) (q:=1) (q1n hltk1 hl1)) ?_
   refine V rfl ?_
   refine AL.nil ?_
   cases hr
   exact GH.trans (GH.bw (q:=0) [.d m (.sl 2 (a0.Symbols.map Symbol.D)),.u] (.cons .rfl (.cons .u .nil)) rfl) (GH.renK hS [(0,0),(1,1),(2,2),(3,3),(4,4),(5,5),(6,6)] 7)
 ·refine AW.seq (AW.seq (AW.regL ?_))
  iterate 2 refine V rfl ?_
  refine LE ?_
  refine V rfl ?_
  refine AL.nil ?_
  refine AW.cF rfl (dF hltk1) ?_
  refine AW.exit ?_
  refine AW.seq (AW.regL ?_)
  refine V rfl ?_
  refine SB ?_
  refine AL.nil ?_
  refine AW.ret ?_
  cases hr
  exact endA.renK [(5,0)] 1 hS
def q6p:Nat→Relation→((List Relation))→Option ((List Relation)):=fun k1 xk1 s1=>
 (q1x xk1.N).bind fun y8=>
 grd (((s1.length:Int)+1)*32≤140737488355328∧(s1.length:Int)+1≤9223372036854775807) <|
 some (s1++[y8])
def q5C (a0:(List UInt8)):Option Bool:=
 (z5H a0).bind fun y1=>
 if y1=true then (
 some true
 ) else (
 (q3d a0).bind fun (y2,y3,y4)=>
 (q2C y2 y3 y4).bind fun y5=>
 (q3n y2 y3 y4).bind fun y6=>
 (q2I y5 y6).bind fun y7=>
 if y7=true then (
 if y5.N=0 then (
 some true
 ) else (
 (eachL q6p 0 y4 ([]:List Relation)).bind fun s1=>
 (q5s y2 y3 y5).bind fun y9=>
 (q2t y2 y3).bind fun y10=>
 (q6c y10 y5).bind fun y11=>
 if y11=true then (
 (q2C y2 y3 s1).bind fun y12=>
 (q6c y12 y5).bind fun y13=>
 if y13=true then (
 (q2O y2 y3 y5).bind fun y14=>
 (q2I y9 y14).bind fun y15=>
 if y15=true then (
 (q2C y2 y3 s1).bind fun y16=>
 (q2O y2 y3 y16).bind fun y17=>
 (q6c y17 y9).bind fun y18=>
 some y18
 ) else (
 some false
 )
 ) else (
 some false
 )
 ) else (
 some false
 )
 )
 ) else (
 some false
 )
 )
theorem z1h {a0:(List UInt8)}{r:Bool}(hr:q5C a0=some r):Ok Tryz.prog 3 [.d .fz (.sl 1 (a0.map byD))] [] (.d .fz (.b r)) []:=by
 refine Ok.enter rfl Tryz.func3 rfl rfl rfl fun S hS=>?_
 unfold q5C at hr
 refine AW.seq (AW.regL ?_)
 refine V rfl ?_
 refine AL.nil ?_
 refine AW.seq (AW.seq (AW.regL ?_))
 refine V rfl ?_
 refine bdE hr fun y1 hy1 hr=>?_
 refine CB [] [] (j0T hy1) ?_
 refine AL.nil ?_
 refine ifE hr (fun h1 hr=>?_) fun h1 hr=>?_
 ·refine AW.cT rfl h1 ?_
  refine AW.seq (AW.regL ?_)
  refine V rfl ?_
  refine AL.nil ?_
  refine AW.ret ?_
  cases hr
  exact endA.renK [] 0 hS
 ·refine AW.cF rfl (bF h1) ?_
  refine AW.skip ?_
  refine AW.seq (AW.regL ?_)
  refine V rfl ?_
  refine bdE hr fun q1 hq1 hr=>?_
  obtain⟨y2,y3,y4⟩:=q1
  refine CB [(0,0),(1,1)] [] (q7Z hq1) ?_
  iterate 4 refine V rfl ?_
  refine NV 2 ?_
  refine NV 3 ?_
  refine SB ?_
  refine SB ?_
  refine V rfl ?_
  refine AL.nil ?_
  refine AW.seq (AW.regL ?_)
  iterate 3 refine V rfl ?_
  refine bdE hr fun y5 hy5 hr=>?_
  refine CB [(0,4)] [0,1] (q5Z (m:=.bo) hy5) ?_
  refine NV 5 ?_
  refine SB ?_
  refine AL.nil ?_
  refine AW.seq (AW.seq (AW.drawL (h:=?_)))
  iterate 4 refine V rfl ?_
  refine bdE hr fun y6 hy6 hr=>?_
  refine CB [(0,6)] [0,1] (z0H (m:=.bo) hy6) ?_
  refine bdE hr fun y7 hy7 hr=>?_
  refine CB [] [4,6] (q5h (m:=.bo) hy7) ?_
  refine V rfl ?_
  refine AL.nil ?_
  refine ifE hr (fun h2 hr=>?_) fun h2 hr=>?_
  ·refine AW.cF rfl (bnF h2) ?_
   refine AW.skip ?_
   refine AW.seq (AW.seq (AW.regL ?_))
   iterate 3 refine V rfl ?_
   refine AL.nil ?_
   refine ifE hr (fun h3 hr=>?_) fun h3 hr=>?_
   ·refine AW.cT rfl (dT h3) ?_
    refine AW.seq (AW.regL ?_)
    refine V rfl ?_
    refine AL.nil ?_
    refine AW.ret ?_
    cases hr
    exact endA.renK [] 0 hS
   ·refine AW.cF rfl (dF h3) ?_
    refine AW.skip ?_
    refine AW.seq (AW.regL ?_)
    refine L0 7 Relation.D ?_
    refine V rfl ?_
    refine AL.nil ?_
    refine AW.seq (AW.seq (AW.regL ?_))
    refine V rfl ?_
    refine AL.nil ?_
    refine AW.block ?_
    refine AW.lenR 1 rfl fun hl1=>?_
    refine bdE hr fun s1 hqq2 hr=>?_
    refine AW.eachL hqq2 hl1 8 (fun k1 s1=>[(3,.pb 2 0),(4,.pb 3 0),(5,.ref 1 none),(6,.pb 5 0),(7,.ref 7 none),(8,.d .fz (.i .i64 (k1:Int)))]) (fun k1 s1=>[(7,.row .fz 2 (s1.map Relation.D))]) (GH.renK hS [(0,0),(1,1),(2,2),(3,3),(4,4),(5,5),(6,6),(7,7)] 8) (fun k1 xk1 sk1 ok1 hxk1 hr hltk1=>?_) fun k1 hltk1=>?_
    ·obtain⟨s1,rfl⟩:∃ y,y=sk1:=⟨_,rfl⟩
     refine AW.seq (AW.seq (AW.regL ?_))
     iterate 2 refine V rfl ?_
     refine LE ?_
     refine V rfl ?_
     refine AL.nil ?_
     refine AW.cT rfl (dT hltk1) ?_
     refine AW.skip ?_
     refine AW.seq (AW.block (AW.regL ?_))
     iterate 3 refine V rfl ?_
     refine IE hxk1 (Int.natCast_nonneg _) ?_
     refine V rfl ?_
     refine LP hxk1 ?_
     refine bdE hr fun y8 hy8 hr=>?_
     refine CB [(0,8)] [] (q3t hy8) ?_
     refine AL.fz 8 rfl ?_
     refine LIR 9 (m:=.fz) (f:=Relation.D) (xs:=[y8]) ?_
     refine ggE hr fun g1 hr=>?_
     refine AP1 10 .fz 32 g1 ?_
     refine V rfl ?_
     refine AL.nil ?_
     refine AW.regL ?_
     refine V rfl ?_
     refine OB _ (q2c (p:=k1) (q:=1) (q1n hltk1 hl1)) ?_
     refine V rfl ?_
     refine AL.nil ?_
     cases hr
     exact GH.renK hS [(0,0),(1,1),(2,2),(3,3),(4,4),(5,5),(6,6),(10,7)] 8
    ·refine AW.seq (AW.seq (AW.regL ?_))
     iterate 2 refine V rfl ?_
     refine LE ?_
     refine V rfl ?_
     refine AL.nil ?_
     refine AW.cF rfl (dF hltk1) ?_
     refine AW.exit ?_
     refine AW.seq (AW.regL ?_)
     iterate 3 refine V rfl ?_
     refine bdE hr fun y9 hy9 hr=>?_
     refine CB [(0,8)] [0,4] (z2x (m:=.bo) hy9) ?_
     refine NV 9 ?_
     refine SB ?_
     refine AL.nil ?_
     refine AW.seq (AW.drawL (h:=?_))
     iterate 2 refine V rfl ?_
     refine bdE hr fun y10 hy10 hr=>?_
     refine CB [(0,10)] [0] (q6G (m:=.bo) hy10) ?_
     refine V rfl ?_
     refine bdE hr fun y11 hy11 hr=>?_
     refine CB [] [10,4] (q9i (m:=.bo) hy11) ?_
     refine ifE hr (fun h4 hr=>?_) fun h4 hr=>?_
     ·refine VT rfl h4 ?_
      iterate 3 refine V rfl ?_
      refine bdE hr fun y12 hy12 hr=>?_
      refine CB [(0,11)] [0,7] (q5Z (m:=.bo) hy12) ?_
      refine V rfl ?_
      refine bdE hr fun y13 hy13 hr=>?_
      refine CB [] [11,4] (q9i (m:=.bo) hy13) ?_
      refine V rfl ?_
      refine ifE hr (fun h5 hr=>?_) fun h5 hr=>?_
      ·refine VT rfl h5 ?_
       iterate 4 refine V rfl ?_
       refine bdE hr fun y14 hy14 hr=>?_
       refine CB [(0,12)] [0,4] (q8I (m:=.bo) hy14) ?_
       refine bdE hr fun y15 hy15 hr=>?_
       refine CB [] [8,12] (q5h (m:=.bo) hy15) ?_
       refine V rfl ?_
       refine ifE hr (fun h6 hr=>?_) fun h6 hr=>?_
       ·refine VT rfl h6 ?_
        iterate 5 refine V rfl ?_
        refine bdE hr fun y16 hy16 hr=>?_
        refine CB [(0,13)] [0,7] (q5Z (m:=.bo) hy16) ?_
        refine bdE hr fun y17 hy17 hr=>?_
        refine CB [(0,14)] [0,13] (q8I (m:=.bo) hy17) ?_
        refine V rfl ?_
        refine bdE hr fun y18 hy18 hr=>?_
        refine CB [] [14,8] (q9i (m:=.bo) hy18) ?_
        iterate 2 refine V rfl ?_
        refine AL.nil ?_
        refine AW.ret ?_
        cases hr
        exact endA.renK [] 0 hS
       ·refine VF rfl (bF h6) ?_
        refine AL.off ?_
        refine AL.off ?_
        refine AL.off ?_
        refine AL.off ?_
        refine AL.off ?_
        refine AL.off ?_
        refine AL.off ?_
        refine AL.off ?_
        refine AL.off ?_
        iterate 2 refine V rfl ?_
        refine AL.nil ?_
        refine AW.ret ?_
        cases hr
        exact endA.renK [] 0 hS
      ·refine VF rfl (bF h5) ?_
       refine AL.off ?_
       refine AL.off ?_
       refine AL.off ?_
       refine AL.off ?_
       refine AL.off ?_
       refine AL.off ?_
       iterate 2 refine V rfl ?_
       refine AL.off ?_
       refine AL.off ?_
       refine AL.off ?_
       refine AL.off ?_
       refine AL.off ?_
       refine AL.off ?_
       refine AL.off ?_
       refine AL.off ?_
       refine AL.off ?_
       iterate 2 refine V rfl ?_
       refine AL.nil ?_
       refine AW.ret ?_
       cases hr
       exact endA.renK [] 0 hS
     ·refine VF rfl (bF h4) ?_
      refine AL.off ?_
      refine AL.off ?_
      refine AL.off ?_
      refine AL.off ?_
      refine AL.off ?_
      refine AL.off ?_
      iterate 2 refine V rfl ?_
      refine AL.off ?_
      refine AL.off ?_
      refine AL.off ?_
      refine AL.off ?_
      refine AL.off ?_
      refine AL.off ?_
      iterate 2 refine V rfl ?_
      refine AL.off ?_
      refine AL.off ?_
      refine AL.off ?_
      refine AL.off ?_
      refine AL.off ?_
      refine AL.off ?_
      refine AL.off ?_
      refine AL.off ?_
      refine AL.off ?_
      iterate 2 refine V rfl ?_
      refine AL.nil ?_
      refine AW.ret ?_
      cases hr
      exact endA.renK [] 0 hS
  ·refine AW.cT rfl (bnT h2) ?_
   refine AW.seq (AW.regL ?_)
   refine V rfl ?_
   refine AL.nil ?_
   refine AW.ret ?_
   cases hr
   exact endA.renK [] 0 hS
end Go.Proofs.YtiojgbiimbefiaaGreat
