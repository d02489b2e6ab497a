/- What some functions of the program compute, as partial functions on plain data, and that they do; each lemma bears its conditions in its statement. -/
import Derived.Test.YtiojgbiimbefiabGreatLift3
set_option linter.unusedVariables false
set_option linter.unusedSimpArgs false
set_option linter.ambiguousOpen false
set_option linter.unusedSectionVars false
set_option linter.unnecessarySimpa false
set_option maxRecDepth 100000
set_option maxHeartbeats 40000000
noncomputable section
namespace Go.Proofs.YtiojgbiimbefiabGreat
open Go Go.E Go.A
def q8u (a0:ByteArray):Nat→Unit→Option (Unit ⊕ Bool):=fun k1 _=>
 (a0.data[k1]?).bind fun x1=>
 (q6F x1).bind fun y1=>
 if y1=true then (
 some (.inl ())
 ) else (
 (q7G x1).bind fun y2=>
 if y2=true then (
 some (.inl ())
 ) else (
 some (.inr false)
 )
 )
def q1H (a0:ByteArray):Option Bool:=
 (findN (q8u a0) 0 a0.size ()).bind <| onr (fun r1=>some r1) fun _=>
 (q1Z (a0.size:Int) 1 8).bind fun y3=>
 (
 if y3=true then (
 (a0.data[0]?).bind fun x2=>
 (q6F x2).bind fun y4=>
 some y4
 ) else (
 some false
 )
 ).bind fun s1=>
 (
 if s1=true then (
 (q5s a0).bind fun y5=>
 some (!y5)
 ) else (
 some false
 )
 ).bind fun s2=>
 some s2
theorem q2i {a0:ByteArray}{r:Bool}(hr:q1H a0=some r):Ok Tryz.prog 78 [.d .fz (.s a0)] [] (.d .fz (.b r)) []:=by
 refine Ok.enter rfl Tryz.func78 rfl rfl rfl fun S hS=>?_
 unfold q1H at hr
 refine AW.seq (AW.regL ?_)
 refine V rfl ?_
 refine AL.nil ?_
 refine AW.seq (AW.seq (AW.regL ?_))
 refine V rfl ?_
 refine LS ?_
 refine V rfl ?_
 refine AL.nil ?_
 refine AW.block ?_
 refine AW.rng (.tmp 5 rfl) fun hl1=>?_
 refine bdE hr fun q1 hqq1 hr=>?_
 refine AW.findN hqq1 0 (fun k1 _=>[(0,.d .fz (.s a0)),(5,.d .fz (.i .i64 (a0.size:Int))),(6,.d .fz (.i .i64 (k1:Int)))]) (fun k1 _=>[]) (GH.renK hS [] 0) (fun k1 sk1 ok1 hr hltk1 hik1=>?_) fun sk1 ek1=>?_
 ·refine AW.seq (AW.regL ?_)
  refine V rfl ?_
  refine AL.nil ?_
  refine AW.seq (AW.cT rfl (dT (ltN hltk1)) ?_)
  refine AW.skip ?_
  refine AW.seq (AW.block (AW.seq (AW.regL ?_)))
  iterate 2 refine V rfl ?_
  refine AL.nil ?_
  refine AW.seq (AW.regL ?_)
  iterate 2 refine V rfl ?_
  refine bdE hr fun x1 hx1 hr=>?_
  refine SI rfl rfl (Int.natCast_nonneg _) hx1 ?_
  refine bdE hr fun y1 hy1 hr=>?_
  refine CB [] [] (z1P hy1) ?_
  refine V rfl ?_
  refine ifE hr (fun h1 hr=>?_) fun h1 hr=>?_
  ·refine VF rfl (bnF h1) ?_
   refine AL.off ?_
   refine AL.off ?_
   refine AL.off ?_
   refine AL.off ?_
   refine AL.off ?_
   refine V rfl ?_
   refine AL.nil ?_
   refine AW.cF rfl rfl ?_
   refine AW.skip ?_
   refine AW.regL ?_
   refine OB _ (q1X (p:=k1) (q:=1) (q1h (ltN hltk1) hl1.2)) ?_
   refine V rfl ?_
   refine AL.nil ?_
   cases hr
   exact⟨_,rfl,GH.renK hS [] 0⟩
  ·refine VT rfl (bnT h1) ?_
   iterate 2 refine V rfl ?_
   refine SI rfl rfl (Int.natCast_nonneg _) hx1 ?_
   refine bdE hr fun y2 hy2 hr=>?_
   refine CB [] [] (z6g hy2) ?_
   iterate 2 refine V rfl ?_
   refine AL.nil ?_
   refine ifE hr (fun h2 hr=>?_) fun h2 hr=>?_
   ·refine AW.cF rfl (bnF h2) ?_
    refine AW.skip ?_
    refine AW.regL ?_
    refine OB _ (q1X (p:=k1) (q:=1) (q1h (ltN hltk1) hl1.2)) ?_
    refine V rfl ?_
    refine AL.nil ?_
    cases hr
    exact⟨_,rfl,GH.renK hS [] 0⟩
   ·refine AW.cT rfl (bnT h2) ?_
    refine AW.seq (AW.regL ?_)
    refine V rfl ?_
    refine AL.nil ?_
    refine AW.ret ?_
    cases hr
    cases hik1 _ rfl
    rename_i hr
    cases hr
    exact endA.renK [] 0 hS
 ·subst ek1
  refine AW.seq (AW.regL ?_)
  refine V rfl ?_
  refine AL.nil ?_
  refine AW.seq (AW.cF rfl (dF geN) ?_)
  refine AW.exit ?_
  refine AW.seq (AW.regL ?_)
  refine V rfl ?_
  refine LS ?_
  refine bdE hr fun y3 hy3 hr=>?_
  refine CB [] [] (q2p hy3) ?_
  refine bdE hr fun s1 hqq2 hr=>?_
  refine AL.meet1 5 [(0,.d .fz (.s a0)),(29,.d .fz (.b s1))] ?_ ?_
  ·replace hr:=hqq2
   refine ifE hr (fun h3 hr=>?_) fun h3 hr=>?_
   ·refine VT rfl h3 ?_
    refine V rfl ?_
    refine bdE hr fun x2 hx2 hr=>?_
    refine SI rfl rfl (Int.natCast_nonneg _) hx2 ?_
    refine bdE hr fun y4 hy4 hr=>?_
    refine CB [] [] (z1P hy4) ?_
    refine V rfl ?_
    refine AL.nil ?_
    cases hr
    exact q1i
   ·refine VF rfl (bF h3) ?_
    refine AL.off ?_
    refine AL.off ?_
    refine AL.off ?_
    refine V rfl ?_
    refine AL.nil ?_
    cases hr
    exact q1i
  ·refine bdE hr fun s2 hqq3 hr=>?_
   refine AL.meet1 5 [(34,.d .fz (.b s2))] ?_ ?_
   ·replace hr:=hqq3
    refine ifE hr (fun h4 hr=>?_) fun h4 hr=>?_
    ·refine VT rfl h4 ?_
     refine V rfl ?_
     refine bdE hr fun y5 hy5 hr=>?_
     refine CB [] [] (z2w hy5) ?_
     iterate 2 refine V rfl ?_
     refine AL.nil ?_
     cases hr
     exact q1i
    ·refine VF rfl (bF h4) ?_
     refine AL.off ?_
     refine AL.off ?_
     refine AL.off ?_
     refine V rfl ?_
     refine AL.nil ?_
     cases hr
     exact q1i
   ·refine V rfl ?_
    refine AL.nil ?_
    refine AW.ret ?_
    cases hr
    exact endA.renK [] 0 hS
def q7H (a0:Int):Option Bool:=
 (q1Z a0 1 4).bind fun y1=>
 some y1
theorem z3i {a0:Int}{r:Bool}(hr:q7H a0=some r):Ok Tryz.prog 112 [.d .fz (.i .i64 a0)] [] (.d .fz (.b r)) []:=by
 refine Ok.enter rfl Tryz.func112 rfl rfl rfl fun S hS=>?_
 unfold q7H at hr
 refine AW.seq (AW.regL ?_)
 refine V rfl ?_
 refine AL.nil ?_
 refine AW.seq (AW.regL ?_)
 refine V rfl ?_
 refine bdE hr fun y1 hy1 hr=>?_
 refine CB [] [] (q2p hy1) ?_
 refine V rfl ?_
 refine AL.nil ?_
 refine AW.ret ?_
 cases hr
 exact endA.renK [] 0 hS
def q3o (a0:Attribute):Option Bool:=
 (q1H a0.Name).bind fun y1=>
 (
 if y1=true then (
 (q7H a0.Type_).bind fun y2=>
 some (!y2)
 ) else (
 some true
 )
 ).bind fun s1=>
 (
 if s1=true then (
 some true
 ) else (
 (q1Z a0.Mode 1 3).bind fun y3=>
 some (!y3)
 )
 ).bind fun s2=>
 if s2=true then (
 some false
 ) else (
 if a0.Mode=3 then (
 (
 if a0.Type_=2 then (
 some (!a0.Circular)
 ) else (
 some false
 )
 ).bind fun s3=>
 some s3
 ) else (
 (
 if a0.Circular=true then (
 some (decide (a0.Type_=2))
 ) else (
 some true
 )
 ).bind fun s4=>
 some s4
 )
 )
theorem q9h {a0:Attribute}{r:Bool}(hr:q3o a0=some r):Ok Tryz.prog 76 [Attribute.x .fz a0] [] (.d .fz (.b r)) []:=by
 refine Ok.enter rfl Tryz.func76 rfl rfl rfl fun S hS=>?_
 unfold q3o at hr
 refine AW.seq (AW.regL ?_)
 refine BX 0 ?_
 refine V rfl ?_
 refine AL.nil ?_
 refine AW.seq (AW.block (AW.seq (AW.regL ?_)))
 iterate 2 refine V rfl ?_
 refine bdE hr fun y1 hy1 hr=>?_
 refine CB [] [] (q2i hy1) ?_
 refine V rfl ?_
 refine bdE hr fun s1 hqq1 hr=>?_
 refine AL.meet1 6 [(1,.pb 0 0),(13,.d .fz (.b s1))] ?_ ?_
 ·replace hr:=hqq1
  refine ifE hr (fun h1 hr=>?_) fun h1 hr=>?_
  ·refine VF rfl (bnF h1) ?_
   iterate 2 refine V rfl ?_
   refine bdE hr fun y2 hy2 hr=>?_
   refine CB [] [] (z3i hy2) ?_
   iterate 2 refine V rfl ?_
   refine AL.nil ?_
   cases hr
   exact q1i
  ·refine VT rfl (bnT h1) ?_
   refine AL.off ?_
   refine AL.off ?_
   refine AL.off ?_
   refine AL.off ?_
   refine V rfl ?_
   refine AL.nil ?_
   cases hr
   exact q1i
 ·refine bdE hr fun s2 hqq2 hr=>?_
  refine AL.meet1 6 [(1,.pb 0 0),(19,.d .fz (.b s2))] ?_ ?_
  ·replace hr:=hqq2
   refine ifE hr (fun h2 hr=>?_) fun h2 hr=>?_
   ·refine VT rfl h2 ?_
    refine AL.off ?_
    refine AL.off ?_
    refine AL.off ?_
    refine AL.off ?_
    refine V rfl ?_
    refine AL.nil ?_
    cases hr
    exact q1i
   ·refine VF rfl (bF h2) ?_
    iterate 2 refine V rfl ?_
    refine bdE hr fun y3 hy3 hr=>?_
    refine CB [] [] (q2p hy3) ?_
    iterate 2 refine V rfl ?_
    refine AL.nil ?_
    cases hr
    exact q1i
  ·refine V rfl ?_
   refine AL.nil ?_
   refine ifE hr (fun h3 hr=>?_) fun h3 hr=>?_
   ·refine AW.cT rfl h3 ?_
    refine AW.seq (AW.regL ?_)
    refine V rfl ?_
    refine AL.nil ?_
    refine AW.ret ?_
    cases hr
    exact endA.renK [] 0 hS
   ·refine AW.cF rfl (bF h3) ?_
    refine AW.seq (AW.regL ?_)
    iterate 4 refine V rfl ?_
    refine AL.nil ?_
    refine ifE hr (fun h4 hr=>?_) fun h4 hr=>?_
    ·refine AW.cT rfl (dT h4) ?_
     refine AW.seq (AW.regL ?_)
     iterate 3 refine V rfl ?_
     refine bdE hr fun s3 hqq3 hr=>?_
     refine AL.meet1 5 [(31,.d .fz (.b s3))] ?_ ?_
     ·replace hr:=hqq3
      refine ifE hr (fun h5 hr=>?_) fun h5 hr=>?_
      ·refine VT rfl (dT h5) ?_
       iterate 4 refine V rfl ?_
       refine AL.nil ?_
       cases hr
       exact q1i
      ·refine VF rfl (dF h5) ?_
       refine AL.off ?_
       refine AL.off ?_
       refine AL.off ?_
       refine V rfl ?_
       refine AL.nil ?_
       cases hr
       exact q1i
     ·refine V rfl ?_
      refine AL.nil ?_
      refine AW.ret ?_
      cases hr
      exact endA.renK [] 0 hS
    ·refine AW.cF rfl (dF h4) ?_
     refine AW.skip ?_
     refine AW.seq (AW.regL ?_)
     iterate 3 refine V rfl ?_
     refine bdE hr fun s4 hqq4 hr=>?_
     refine AL.meet1 5 [(39,.d .fz (.b s4))] ?_ ?_
     ·replace hr:=hqq4
      refine ifE hr (fun h6 hr=>?_) fun h6 hr=>?_
      ·refine VF rfl (bnF h6) ?_
       iterate 4 refine V rfl ?_
       refine AL.nil ?_
       cases hr
       exact q1i
      ·refine VT rfl (bnT h6) ?_
       refine AL.off ?_
       refine AL.off ?_
       refine AL.off ?_
       refine V rfl ?_
       refine AL.nil ?_
       cases hr
       exact q1i
     ·refine V rfl ?_
      refine AL.nil ?_
      refine AW.ret ?_
      cases hr
      exact endA.renK [] 0 hS
def q4t (a0:Attribute)(a1:Attribute):Option Bool:=
 some (decide (a0.Name=a1.Name))
theorem q9s {a0:Attribute}{a1:Attribute}{r:Bool}(hr:q4t a0 a1=some r):Ok Tryz.prog 77 [Attribute.x .fz a0,.pb 0 0] [.box [.d .fz (.s a1.Name),.d .fz (.i .i64 a1.Type_),.d .fz (.i .i64 a1.Mode),.d .fz (.b a1.Circular)]] (.d .fz (.b r)) [.box [.d .fz (.s a1.Name),.d .fz (.i .i64 a1.Type_),.d .fz (.i .i64 a1.Mode),.d .fz (.b a1.Circular)]]:=by
 refine Ok.enter rfl Tryz.func77 rfl rfl rfl fun S hS=>?_
 unfold q4t at hr
 refine AW.seq (AW.regL ?_)
 refine BX 1 ?_
 refine V rfl ?_
 refine AL.nil ?_
 refine AW.seq (AW.regL ?_)
 iterate 6 refine V rfl ?_
 refine AL.nil ?_
 refine AW.ret ?_
 cases hr
 exact endA.renK [(0,0)] 1 hS
def q2s (a1_0:Attribute):Nat→Attribute→Unit→Option (Unit ⊕ Int):=fun k1 xk1 _=>
 (q4t xk1 a1_0).bind fun y1=>
 if y1=true then (
 some (.inr (k1:Int))
 ) else (
 some (.inl ())
 )
def q1w (a0:(List Attribute))(a1_0:Attribute):Option Int:=
 (findL (q2s a1_0) 0 a0 ()).bind <| onr (fun r1=>some r1) fun _=>
 some (-1)
theorem q3G {m:Md}{a0:(List Attribute)}{a1_0:Attribute}{r:Int}(hr:q1w a0 a1_0=some r):Ok Tryz.prog 44 [.d m (.sl 4 (a0.map Attribute.D)),.fn 77 [.pb 0 0]] [.box [.d .fz (.s a1_0.Name),.d .fz (.i .i64 a1_0.Type_),.d .fz (.i .i64 a1_0.Mode),.d .fz (.b a1_0.Circular)]] (.d .fz (.i .i64 r)) [.box [.d .fz (.s a1_0.Name),.d .fz (.i .i64 a1_0.Type_),.d .fz (.i .i64 a1_0.Mode),.d .fz (.b a1_0.Circular)]]:=by
 refine Ok.enter rfl Tryz.func44 rfl rfl rfl fun S hS=>?_
 unfold q1w at hr
 refine AW.seq (AW.regL ?_)
 refine V rfl ?_
 refine AL.nil ?_
 refine AW.seq (AW.seq (AW.regL ?_))
 refine V rfl ?_
 refine LF ?_
 refine V rfl ?_
 refine AL.nil ?_
 refine AW.block ?_
 refine AW.len (.tmp 0 rfl) fun hl1=>?_
 refine bdE hr fun q1 hqq1 hr=>?_
 refine AW.findL hqq1 hl1 1 (fun k1 _=>[(0,.d m (.sl 4 (a0.map Attribute.D))),(1,.fn 77 [.pb 0 0]),(7,.d .fz (.i .i64 (a0.length:Int))),(8,.d .fz (.i .i64 (k1:Int)))]) (fun k1 _=>[]) (GH.renK hS [(0,0)] 1) (fun k1 xk1 sk1 ok1 hxk1 hr hltk1 hik1=>?_) fun k1 sk1 ek1 hltk1=>?_
 ·refine AW.seq (AW.regL ?_)
  refine V rfl ?_
  refine AL.nil ?_
  refine AW.seq (AW.cT rfl (dT hltk1) ?_)
  refine AW.skip ?_
  refine AW.seq (AW.block (AW.seq (AW.regL ?_)))
  iterate 2 refine V rfl ?_
  refine AL.nil ?_
  refine AW.seq (AW.regL ?_)
  iterate 3 refine V rfl ?_
  refine IF (Int.natCast_nonneg _) hxk1 ?_
  refine V rfl ?_
  refine bdE hr fun y1 hy1 hr=>?_
  refine CB [(0,0)] [] (q9s hy1) ?_
  refine AL.nil ?_
  refine ifE hr (fun h1 hr=>?_) fun h1 hr=>?_
  ·refine AW.cT rfl h1 ?_
   refine AW.seq (AW.regL ?_)
   iterate 2 refine V rfl ?_
   refine AL.nil ?_
   refine AW.ret ?_
   cases hr
   cases hik1 _ rfl
   rename_i hr
   cases hr
   exact endA.renK [(0,0)] 1 hS
  ·refine AW.cF rfl (bF h1) ?_
   refine AW.skip ?_
   refine AW.regL ?_
   refine OB _ (q1X (p:=k1) (q:=1) (q1h hltk1 hl1)) ?_
   refine V rfl ?_
   refine AL.nil ?_
   cases hr
   exact⟨_,rfl,GH.renK hS [(0,0)] 1⟩
 ·subst ek1
  refine AW.seq (AW.regL ?_)
  refine V rfl ?_
  refine AL.nil ?_
  refine AW.seq (AW.cF rfl (dF hltk1) ?_)
  refine AW.exit ?_
  refine AW.seq (AW.regL ?_)
  refine V rfl ?_
  refine AL.nil ?_
  refine AW.ret ?_
  cases hr
  exact endA.renK [(0,0)] 1 hS
def q1r (a0:(List Attribute))(a1_0:Attribute):Option Bool:=
 (q1w a0 a1_0).bind fun y1=>
 some (decide (0≤y1))
theorem q3u {m:Md}{a0:(List Attribute)}{a1_0:Attribute}{r:Bool}(hr:q1r a0 a1_0=some r):Ok Tryz.prog 17 [.d m (.sl 4 (a0.map Attribute.D)),.fn 77 [.pb 0 0]] [.box [.d .fz (.s a1_0.Name),.d .fz (.i .i64 a1_0.Type_),.d .fz (.i .i64 a1_0.Mode),.d .fz (.b a1_0.Circular)]] (.d .fz (.b r)) [.box [.d .fz (.s a1_0.Name),.d .fz (.i .i64 a1_0.Type_),.d .fz (.i .i64 a1_0.Mode),.d .fz (.b a1_0.Circular)]]:=by
 refine Ok.enter rfl Tryz.func17 rfl rfl rfl fun S hS=>?_
 unfold q1r at hr
 refine AW.seq (AW.regL ?_)
 refine V rfl ?_
 refine AL.nil ?_
 refine AW.seq (AW.regL ?_)
 iterate 2 refine V rfl ?_
 refine bdE hr fun y1 hy1 hr=>?_
 refine CB [(0,0)] [] (q3G (m:=m) hy1) ?_
 iterate 2 refine V rfl ?_
 refine AL.nil ?_
 refine AW.ret ?_
 cases hr
 exact endA.renK [(0,0)] 1 hS
def q4D (a0:Symbol):Nat→Attribute→Unit→Option (Unit ⊕ Bool):=fun k1 xk1 _=>
 (q3o xk1).bind fun y1=>
 if y1=true then (
 grd (k1≤a0.Attributes.length) <|
 (q1r (a0.Attributes.take k1) xk1).bind fun y2=>
 if y2=true then (
 some (.inr false)
 ) else (
 some (.inl ())
 )
 ) else (
 some (.inr false)
 )
def q4k (a0:Symbol):Option Bool:=
 (findL (q4D a0) 0 a0.Attributes ()).bind <| onr (fun r1=>some r1) fun _=>
 (q1H a0.Name).bind fun y3=>
 (
 if y3=true then (
 some (decide ((a0.Attributes.length:Int)≤4))
 ) else (
 some false
 )
 ).bind fun s1=>
 some s1
theorem z0q {m:Md}{a0:Symbol}{r:Bool}(hr:q4k a0=some r):Ok Tryz.prog 38 [Symbol.x m a0] [] (.d .fz (.b r)) []:=by
 refine Ok.enter rfl Tryz.func38 rfl rfl rfl fun S hS=>?_
 unfold q4k at hr
 refine AW.seq (AW.regL ?_)
 refine BX 0 ?_
 refine V rfl ?_
 refine AL.nil ?_
 refine AW.seq (AW.seq (AW.regL ?_))
 iterate 2 refine V rfl ?_
 refine LF ?_
 refine V rfl ?_
 refine AL.nil ?_
 refine AW.block ?_
 refine AW.len (.ag 1 (.tmp 0 rfl) rfl) fun hl1=>?_
 refine bdE hr fun q1 hqq1 hr=>?_
 refine AW.findL hqq1 hl1 1 (fun k1 _=>[(1,.pb 0 0),(6,.d m (.sl 4 (a0.Attributes.map Attribute.D))),(7,.d .fz (.i .i64 (a0.Attributes.length:Int))),(8,.d .fz (.i .i64 (k1:Int)))]) (fun k1 _=>[]) (GH.renK hS [(0,0)] 1) (fun k1 xk1 sk1 ok1 hxk1 hr hltk1 hik1=>?_) fun k1 sk1 ek1 hltk1=>?_
 ·refine AW.seq (AW.regL ?_)
  refine V rfl ?_
  refine AL.nil ?_
  refine AW.seq (AW.cT rfl (dT hltk1) ?_)
  refine AW.skip ?_
  refine AW.seq (AW.block (AW.seq (AW.regL ?_)))
  refine V rfl ?_
  refine IF (Int.natCast_nonneg _) hxk1 ?_
  refine V rfl ?_
  refine NV 1 ?_
  refine V rfl ?_
  refine SB ?_
  refine AL.nil ?_
  refine AW.seq (AW.regL ?_)
  refine V rfl ?_
  refine bdE hr fun y1 hy1 hr=>?_
  refine CB [] [] (q9h hy1) ?_
  refine V rfl ?_
  refine ifE hr (fun h1 hr=>?_) fun h1 hr=>?_
  ·refine VF rfl (bnF h1) ?_
   iterate 3 refine V rfl ?_
   refine ggE hr fun g1 hr=>?_
   refine SLH (Int.natCast_nonneg _) g1 ?_
   refine V rfl ?_
   refine bdE hr fun y2 hy2 hr=>?_
   refine CB [(0,1)] [] (q3u (m:=m) hy2) ?_
   refine V rfl ?_
   refine AL.nil ?_
   refine ifE hr (fun h2 hr=>?_) fun h2 hr=>?_
   ·refine AW.cT rfl h2 ?_
    refine AW.seq (AW.regL ?_)
    refine V rfl ?_
    refine AL.nil ?_
    refine AW.ret ?_
    cases hr
    cases hik1 _ rfl
    rename_i hr
    cases hr
    exact endA.renK [] 0 hS
   ·refine AW.cF rfl (bF h2) ?_
    refine AW.skip ?_
    refine AW.regL ?_
    refine OB _ (q1X (p:=k1) (q:=1) (q1h hltk1 hl1)) ?_
    refine V rfl ?_
    refine AL.nil ?_
    cases hr
    exact⟨_,rfl,GH.renK hS [(0,0)] 1⟩
  ·refine VT rfl (bnT h1) ?_
   refine AL.off ?_
   refine AL.off ?_
   refine AL.off ?_
   refine AL.off ?_
   refine AL.off ?_
   refine AL.off ?_
   refine V rfl ?_
   refine AL.nil ?_
   refine AW.cT rfl rfl ?_
   refine AW.seq (AW.regL ?_)
   refine V rfl ?_
   refine AL.nil ?_
   refine AW.ret ?_
   cases hr
   cases hik1 _ rfl
   rename_i hr
   cases hr
   exact endA.renK [] 0 hS
 ·subst ek1
  refine AW.seq (AW.regL ?_)
  refine V rfl ?_
  refine AL.nil ?_
  refine AW.seq (AW.cF rfl (dF hltk1) ?_)
  refine AW.exit ?_
  refine AW.seq (AW.regL ?_)
  iterate 2 refine V rfl ?_
  refine bdE hr fun y3 hy3 hr=>?_
  refine CB [] [] (q2i hy3) ?_
  refine bdE hr fun s1 hqq2 hr=>?_
  refine AL.meet1 6 [(33,.d .fz (.b s1))] ?_ ?_
  ·replace hr:=hqq2
   refine ifE hr (fun h3 hr=>?_) fun h3 hr=>?_
   ·refine VT rfl h3 ?_
    iterate 2 refine V rfl ?_
    refine LF ?_
    iterate 2 refine V rfl ?_
    refine AL.nil ?_
    cases hr
    exact q1i
   ·refine VF rfl (bF h3) ?_
    refine AL.off ?_
    refine AL.off ?_
    refine AL.off ?_
    refine AL.off ?_
    refine V rfl ?_
    refine AL.nil ?_
    cases hr
    exact q1i
  ·refine V rfl ?_
   refine AL.nil ?_
   refine AW.ret ?_
   cases hr
   exact endA.renK [] 0 hS
def q5t (a0:Symbol)(a1:Symbol):Option Bool:=
 some (decide (a0.Name=a1.Name))
theorem z0W {m:Md}{m2:Md}{a0:Symbol}{a1:Symbol}{r:Bool}(hr:q5t a0 a1=some r):Ok Tryz.prog 40 [Symbol.x m a0,.pb 0 0] [.box [.d .fz (.s a1.Name),.d m2 (.sl 4 (a1.Attributes.map Attribute.D))]] (.d .fz (.b r)) [.box [.d .fz (.s a1.Name),.d m2 (.sl 4 (a1.Attributes.map Attribute.D))]]:=by
 refine Ok.enter rfl Tryz.func40 rfl rfl rfl fun S hS=>?_
 unfold q5t at hr
 refine AW.seq (AW.regL ?_)
 refine BX 1 ?_
 refine V rfl ?_
 refine AL.nil ?_
 refine AW.seq (AW.regL ?_)
 iterate 6 refine V rfl ?_
 refine AL.nil ?_
 refine AW.ret ?_
 cases hr
 exact endA.renK [(0,0)] 1 hS
def q2J (a1_0:Symbol):Nat→Symbol→Unit→Option (Unit ⊕ Int):=fun k1 xk1 _=>
 (q5t xk1 a1_0).bind fun y1=>
 if y1=true then (
 some (.inr (k1:Int))
 ) else (
 some (.inl ())
 )
def q1O (a0:(List Symbol))(a1_0:Symbol):Option Int:=
 (findL (q2J a1_0) 0 a0 ()).bind <| onr (fun r1=>some r1) fun _=>
 some (-1)
theorem q4v {m:Md}{m2:Md}{a0:(List Symbol)}{a1_0:Symbol}{r:Int}(hr:q1O a0 a1_0=some r):Ok Tryz.prog 79 [.d m (.sl 2 (a0.map Symbol.D)),.fn 40 [.pb 0 0]] [.box [.d .fz (.s a1_0.Name),.d m2 (.sl 4 (a1_0.Attributes.map Attribute.D))]] (.d .fz (.i .i64 r)) [.box [.d .fz (.s a1_0.Name),.d m2 (.sl 4 (a1_0.Attributes.map Attribute.D))]]:=by
 refine Ok.enter rfl Tryz.func79 rfl rfl rfl fun S hS=>?_
 unfold q1O at hr
 refine AW.seq (AW.regL ?_)
 refine V rfl ?_
 refine AL.nil ?_
 refine AW.seq (AW.seq (AW.regL ?_))
 refine V rfl ?_
 refine LF ?_
 refine V rfl ?_
 refine AL.nil ?_
 refine AW.block ?_
 refine AW.len (.tmp 0 rfl) fun hl1=>?_
 refine bdE hr fun q1 hqq1 hr=>?_
 refine AW.findL hqq1 hl1 1 (fun k1 _=>[(0,.d m (.sl 2 (a0.map Symbol.D))),(1,.fn 40 [.pb 0 0]),(7,.d .fz (.i .i64 (a0.length:Int))),(8,.d .fz (.i .i64 (k1:Int)))]) (fun k1 _=>[]) (GH.renK hS [(0,0)] 1) (fun k1 xk1 sk1 ok1 hxk1 hr hltk1 hik1=>?_) fun k1 sk1 ek1 hltk1=>?_
 ·refine AW.seq (AW.regL ?_)
  refine V rfl ?_
  refine AL.nil ?_
  refine AW.seq (AW.cT rfl (dT hltk1) ?_)
  refine AW.skip ?_
  refine AW.seq (AW.block (AW.seq (AW.regL ?_)))
  iterate 2 refine V rfl ?_
  refine AL.nil ?_
  refine AW.seq (AW.regL ?_)
  iterate 3 refine V rfl ?_
  refine IF (Int.natCast_nonneg _) hxk1 ?_
  refine V rfl ?_
  refine bdE hr fun y1 hy1 hr=>?_
  refine CB [(0,0)] [] (z0W (m:=m) (m2:=m2) hy1) ?_
  refine AL.nil ?_
  refine ifE hr (fun h1 hr=>?_) fun h1 hr=>?_
  ·refine AW.cT rfl h1 ?_
   refine AW.seq (AW.regL ?_)
   iterate 2 refine V rfl ?_
   refine AL.nil ?_
   refine AW.ret ?_
   cases hr
   cases hik1 _ rfl
   rename_i hr
   cases hr
   exact endA.renK [(0,0)] 1 hS
  ·refine AW.cF rfl (bF h1) ?_
   refine AW.skip ?_
   refine AW.regL ?_
   refine OB _ (q1X (p:=k1) (q:=1) (q1h hltk1 hl1)) ?_
   refine V rfl ?_
   refine AL.nil ?_
   cases hr
   exact⟨_,rfl,GH.renK hS [(0,0)] 1⟩
 ·subst ek1
  refine AW.seq (AW.regL ?_)
  refine V rfl ?_
  refine AL.nil ?_
  refine AW.seq (AW.cF rfl (dF hltk1) ?_)
  refine AW.exit ?_
  refine AW.seq (AW.regL ?_)
  refine V rfl ?_
  refine AL.nil ?_
  refine AW.ret ?_
  cases hr
  exact endA.renK [(0,0)] 1 hS
def q1E (a0:(List Symbol))(a1_0:Symbol):Option Bool:=
 (q1O a0 a1_0).bind fun y1=>
 some (decide (0≤y1))
theorem q4d {m:Md}{m2:Md}{a0:(List Symbol)}{a1_0:Symbol}{r:Bool}(hr:q1E a0 a1_0=some r):Ok Tryz.prog 39 [.d m (.sl 2 (a0.map Symbol.D)),.fn 40 [.pb 0 0]] [.box [.d .fz (.s a1_0.Name),.d m2 (.sl 4 (a1_0.Attributes.map Attribute.D))]] (.d .fz (.b r)) [.box [.d .fz (.s a1_0.Name),.d m2 (.sl 4 (a1_0.Attributes.map Attribute.D))]]:=by
 refine Ok.enter rfl Tryz.func39 rfl rfl rfl fun S hS=>?_
 unfold q1E at hr
 refine AW.seq (AW.regL ?_)
 refine V rfl ?_
 refine AL.nil ?_
 refine AW.seq (AW.regL ?_)
 iterate 2 refine V rfl ?_
 refine bdE hr fun y1 hy1 hr=>?_
 refine CB [(0,0)] [] (q4v (m:=m) (m2:=m2) hy1) ?_
 iterate 2 refine V rfl ?_
 refine AL.nil ?_
 refine AW.ret ?_
 cases hr
 exact endA.renK [(0,0)] 1 hS
def q6z (rec_iCountExpr:Expr→Option Int):Nat→Expr→Int→Option Int:=fun k1 xk1 s1=>
 (rec_iCountExpr xk1).bind fun y1=>
 grd (I64 (s1+y1)) <|
 some (s1+y1)
def q6i (rec_iCountExpr:Expr→Option Int)(a0:Expr):Option Int:=
 (eachL (q6z rec_iCountExpr) 0 a0.Args 1).bind fun s1=>
 some s1
theorem z2x {rec_iCountExpr:Expr→Option Int}(ih_iCountExpr:∀ {m:Md} {a0:Expr} {r:Int},rec_iCountExpr a0=some r→Ok Tryz.prog 132 [Expr.x m a0] [] (.d .fz (.i .i64 r)) []){m:Md}{a0:Expr}{r:Int}(hr:q6i rec_iCountExpr a0=some r):Ok Tryz.prog 132 [Expr.x m a0] [] (.d .fz (.i .i64 r)) []:=by
 refine Ok.enter rfl Tryz.func132 rfl rfl rfl fun S hS=>?_
 unfold q6i at hr
 refine AW.seq (AW.regL ?_)
 refine BX 0 ?_
 refine V rfl ?_
 refine AL.nil ?_
 refine AW.seq (AW.regL ?_)
 refine V rfl ?_
 refine AL.nil ?_
 refine AW.seq (AW.seq (AW.regL ?_))
 iterate 2 refine V rfl ?_
 refine LF ?_
 refine V rfl ?_
 refine AL.nil ?_
 refine AW.block ?_
 refine AW.len (.ag 6 (.tmp 0 rfl) rfl) fun hl1=>?_
 refine bdE hr fun s1 hqq1 hr=>?_
 refine AW.eachL hqq1 hl1 1 (fun k1 s1=>[(3,.d .fz (.i .i64 s1)),(7,.d m (.sl 7 (a0.Args.map Expr.D))),(8,.d .fz (.i .i64 (a0.Args.length:Int))),(9,.d .fz (.i .i64 (k1:Int)))]) (fun k1 s1=>[]) (GH.renK hS [(0,0)] 1) (fun k1 xk1 sk1 ok1 hxk1 hr hltk1=>?_) fun k1 hltk1=>?_
 ·obtain⟨s1,rfl⟩:∃ y,y=sk1:=⟨_,rfl⟩
  refine AW.seq (AW.regL ?_)
  refine V rfl ?_
  refine AL.nil ?_
  refine AW.seq (AW.cT rfl (dT hltk1) ?_)
  refine AW.skip ?_
  refine AW.seq (AW.block (AW.seq (AW.regL ?_)))
  refine IFq (Int.natCast_nonneg _) hxk1 (Expr.D_cells xk1) ?_
  refine V rfl ?_
  refine NV 1 ?_
  refine SB ?_
  refine AL.nil ?_
  refine AW.regL ?_
  iterate 2 refine V rfl ?_
  refine bdE hr fun y1 hy1 hr=>?_
  refine CB [] [] (ih_iCountExpr (m:=m) hy1) ?_
  refine ggE hr fun g1 hr=>?_
  refine OB _ (bAdd g1) ?_
  refine V rfl ?_
  refine AL.nil ?_
  refine AW.regL ?_
  refine OB _ (q1X (p:=k1) (q:=1) (q1h hltk1 hl1)) ?_
  refine V rfl ?_
  refine AL.nil ?_
  cases hr
  exact GH.renK hS [(0,0)] 1
 ·refine AW.seq (AW.regL ?_)
  refine V rfl ?_
  refine AL.nil ?_
  refine AW.seq (AW.cF rfl (dF hltk1) ?_)
  refine AW.exit ?_
  refine AW.seq (AW.regL ?_)
  iterate 2 refine V rfl ?_
  refine AL.nil ?_
  refine AW.ret ?_
  cases hr
  exact endA.renK [] 0 hS
def q5h:Nat→Expr→Option Int
  | 0,_=>none
  | n+1,a0=>q6i (q5h n) a0
def q8v (a0:Expr):Option Int:=recO fun n=>q5h n a0
theorem z2y (n:Nat):∀ {m:Md} {a0:Expr} {r:Int},q5h n a0=some r→Ok Tryz.prog 132 [Expr.x m a0] [] (.d .fz (.i .i64 r)) []:=by
  induction n with
  | zero=>intro _ _ r hr; exact nomatch (show (none:Option Int)=some r from hr)
  | succ n ih=>intro _ _ r hr; exact z2x ih hr
theorem z3R {m:Md}{a0:Expr}{r:Int}(hr:q8v a0=some r):Ok Tryz.prog 132 [Expr.x m a0] [] (.d .fz (.i .i64 r)) []:=by
  obtain⟨n,hn⟩:=q3M hr
  exact z2y n hn
def q8w (rec_iDepthOfExpr:Expr→Option Int):Nat→Expr→Int→Option Int:=fun k1 xk1 s1=>
 (rec_iDepthOfExpr xk1).bind fun y1=>
 some (if y1 > s1 then y1 else s1)
def q4P (rec_iDepthOfExpr:Expr→Option Int)(a0:Expr):Option Int:=
 (eachL (q8w rec_iDepthOfExpr) 0 a0.Args 0).bind fun s1=>
 grd (I64 (s1+1)) <|
 some (s1+1)
theorem z0X {rec_iDepthOfExpr:Expr→Option Int}(ih_iDepthOfExpr:∀ {m:Md} {a0:Expr} {r:Int},rec_iDepthOfExpr a0=some r→Ok Tryz.prog 133 [Expr.x m a0] [] (.d .fz (.i .i64 r)) []){m:Md}{a0:Expr}{r:Int}(hr:q4P rec_iDepthOfExpr a0=some r):Ok Tryz.prog 133 [Expr.x m a0] [] (.d .fz (.i .i64 r)) []:=by
 refine Ok.enter rfl Tryz.func133 rfl rfl rfl fun S hS=>?_
 unfold q4P at hr
 refine AW.seq (AW.regL ?_)
 refine BX 0 ?_
 refine V rfl ?_
 refine AL.nil ?_
 refine AW.seq (AW.regL ?_)
 refine V rfl ?_
 refine AL.nil ?_
 refine AW.seq (AW.seq (AW.regL ?_))
 iterate 2 refine V rfl ?_
 refine LF ?_
 refine V rfl ?_
 refine AL.nil ?_
 refine AW.block ?_
 refine AW.len (.ag 6 (.tmp 0 rfl) rfl) fun hl1=>?_
 refine bdE hr fun s1 hqq1 hr=>?_
 refine AW.eachL hqq1 hl1 1 (fun k1 s1=>[(3,.d .fz (.i .i64 s1)),(7,.d m (.sl 7 (a0.Args.map Expr.D))),(8,.d .fz (.i .i64 (a0.Args.length:Int))),(9,.d .fz (.i .i64 (k1:Int)))]) (fun k1 s1=>[]) (GH.renK hS [(0,0)] 1) (fun k1 xk1 sk1 ok1 hxk1 hr hltk1=>?_) fun k1 hltk1=>?_
 ·obtain⟨s1,rfl⟩:∃ y,y=sk1:=⟨_,rfl⟩
  refine AW.seq (AW.regL ?_)
  refine V rfl ?_
  refine AL.nil ?_
  refine AW.seq (AW.cT rfl (dT hltk1) ?_)
  refine AW.skip ?_
  refine AW.seq (AW.block (AW.seq (AW.regL ?_)))
  refine IFq (Int.natCast_nonneg _) hxk1 (Expr.D_cells xk1) ?_
  refine V rfl ?_
  refine NV 1 ?_
  refine SB ?_
  refine AL.nil ?_
  refine AW.regL ?_
  iterate 2 refine V rfl ?_
  refine bdE hr fun y1 hy1 hr=>?_
  refine CB [] [] (ih_iDepthOfExpr (m:=m) hy1) ?_
  refine MXI rfl rfl ?_
  refine V rfl ?_
  refine AL.nil ?_
  refine AW.regL ?_
  refine OB _ (q1X (p:=k1) (q:=1) (q1h hltk1 hl1)) ?_
  refine V rfl ?_
  refine AL.nil ?_
  cases hr
  exact GH.renK hS [(0,0)] 1
 ·refine AW.seq (AW.regL ?_)
  refine V rfl ?_
  refine AL.nil ?_
  refine AW.seq (AW.cF rfl (dF hltk1) ?_)
  refine AW.exit ?_
  refine AW.seq (AW.regL ?_)
  refine V rfl ?_
  refine ggE hr fun g1 hr=>?_
  refine OB _ (bAdd g1) ?_
  refine V rfl ?_
  refine AL.nil ?_
  refine AW.ret ?_
  cases hr
  exact endA.renK [] 0 hS
def q3h:Nat→Expr→Option Int
  | 0,_=>none
  | n+1,a0=>q4P (q3h n) a0
def q7q (a0:Expr):Option Int:=recO fun n=>q3h n a0
theorem z0Y (n:Nat):∀ {m:Md} {a0:Expr} {r:Int},q3h n a0=some r→Ok Tryz.prog 133 [Expr.x m a0] [] (.d .fz (.i .i64 r)) []:=by
  induction n with
  | zero=>intro _ _ r hr; exact nomatch (show (none:Option Int)=some r from hr)
  | succ n ih=>intro _ _ r hr; exact z0X ih hr
theorem z1Q {m:Md}{a0:Expr}{r:Int}(hr:q7q a0=some r):Ok Tryz.prog 133 [Expr.x m a0] [] (.d .fz (.i .i64 r)) []:=by
  obtain⟨n,hn⟩:=q3M hr
  exact z0Y n hn
def q7W (a0:Int):Option Int:=
 some (if ((-1000000):Int) > (if (1000000:Int) < a0 then (1000000:Int) else a0) then ((-1000000):Int) else (if (1000000:Int) < a0 then (1000000:Int) else a0))
theorem z5f {a0:Int}{r:Int}(hr:q7W a0=some r):Ok Tryz.prog 162 [.d .fz (.i .i64 a0)] [] (.d .fz (.i .i64 r)) []:=by
 refine Ok.enter rfl Tryz.func162 rfl rfl rfl fun S hS=>?_
 unfold q7W at hr
 refine AW.seq (AW.regL ?_)
 refine V rfl ?_
 refine AL.nil ?_
 refine AW.seq (AW.regL ?_)
 refine V rfl ?_
 refine MNI rfl rfl ?_
 refine MXI rfl rfl ?_
 refine V rfl ?_
 refine AL.nil ?_
 refine AW.ret ?_
 cases hr
 exact endA.renK [] 0 hS
def z1R (a0:Bool):Option Int:=
 if a0=true then (
 some 1
 ) else (
 some 0
 )
theorem j0E {a0:Bool}{r:Int}(hr:z1R a0=some r):Ok Tryz.prog 163 [.d .fz (.b a0)] [] (.d .fz (.i .i64 r)) []:=by
 refine Ok.enter rfl Tryz.func163 rfl rfl rfl fun S hS=>?_
 unfold z1R at hr
 refine AW.seq (AW.regL ?_)
 refine V rfl ?_
 refine AL.nil ?_
 refine AW.seq (AW.seq (AW.regL ?_))
 refine V rfl ?_
 refine AL.nil ?_
 refine ifE hr (fun h1 hr=>?_) fun h1 hr=>?_
 ·refine AW.cT rfl h1 ?_
  refine AW.seq (AW.regL ?_)
  refine V rfl ?_
  refine AL.nil ?_
  refine AW.ret ?_
  cases hr
  exact endA.renK [] 0 hS
 ·refine AW.cF rfl (bF h1) ?_
  refine AW.skip ?_
  refine AW.seq (AW.regL ?_)
  refine V rfl ?_
  refine AL.nil ?_
  refine AW.ret ?_
  cases hr
  exact endA.renK [] 0 hS
def q8x (a0:Int)(a1:Int):Option Int:=
 if a1=1 then (
 (q7W a0).bind fun y1=>
 some y1
 ) else (
 if a1=2 then (
 some (q9F a0 4095)
 ) else (
 if a1=3 then (
 (z1R (!(decide (a0=0)))).bind fun y2=>
 some y2
 ) else (
 if a1=4 then (
 (q1Z a0 0 999).bind fun y3=>
 if y3=true then (
 some a0
 ) else (
 some 0
 )
 ) else (
 some 0
 )
 )
 )
 )
theorem z7Z {a0:Int}{a1:Int}{r:Int}(hr:q8x a0 a1=some r):Ok Tryz.prog 158 [.d .fz (.i .i64 a0),.d .fz (.i .i64 a1)] [] (.d .fz (.i .i64 r)) []:=by
 refine Ok.enter rfl Tryz.func158 rfl rfl rfl fun S hS=>?_
 unfold q8x at hr
 refine AW.seq (AW.regL ?_)
 refine V rfl ?_
 refine AL.nil ?_
 refine AW.seq (AW.block (AW.seq (AW.regL ?_)))
 iterate 3 refine V rfl ?_
 refine AL.nil ?_
 refine ifE hr (fun h1 hr=>?_) fun h1 hr=>?_
 ·refine AW.cT rfl (dT h1) ?_
  refine AW.seq (AW.regL ?_)
  refine V rfl ?_
  refine bdE hr fun y1 hy1 hr=>?_
  refine CB [] [] (z5f hy1) ?_
  refine V rfl ?_
  refine AL.nil ?_
  refine AW.ret ?_
  cases hr
  exact endA.renK [] 0 hS
 ·refine AW.cF rfl (dF h1) ?_
  refine AW.seq (AW.regL ?_)
  iterate 3 refine V rfl ?_
  refine AL.nil ?_
  refine ifE hr (fun h2 hr=>?_) fun h2 hr=>?_
  ·refine AW.cT rfl (dT h2) ?_
   refine AW.seq (AW.regL ?_)
   refine V rfl ?_
   refine OB _ z8Z ?_
   refine V rfl ?_
   refine AL.nil ?_
   refine AW.ret ?_
   cases hr
   exact endA.renK [] 0 hS
  ·refine AW.cF rfl (dF h2) ?_
   refine AW.seq (AW.regL ?_)
   iterate 3 refine V rfl ?_
   refine AL.nil ?_
   refine ifE hr (fun h3 hr=>?_) fun h3 hr=>?_
   ·refine AW.cT rfl (dT h3) ?_
    refine AW.seq (AW.regL ?_)
    iterate 2 refine V rfl ?_
    refine bdE hr fun y2 hy2 hr=>?_
    refine CB [] [] (j0E hy2) ?_
    refine V rfl ?_
    refine AL.nil ?_
    refine AW.ret ?_
    cases hr
    exact endA.renK [] 0 hS
   ·refine AW.cF rfl (dF h3) ?_
    refine AW.seq (AW.regL ?_)
    iterate 2 refine V rfl ?_
    refine ifE hr (fun h4 hr=>?_) fun h4 hr=>?_
    ·refine VT rfl (dT h4) ?_
     refine V rfl ?_
     refine bdE hr fun y3 hy3 hr=>?_
     refine CB [] [] (q2p hy3) ?_
     iterate 2 refine V rfl ?_
     refine AL.nil ?_
     refine ifE hr (fun h5 hr=>?_) fun h5 hr=>?_
     ·refine AW.cT rfl h5 ?_
      refine AW.seq (AW.regL ?_)
      iterate 2 refine V rfl ?_
      refine AL.nil ?_
      refine AW.ret ?_
      cases hr
      exact endA.renK [] 0 hS
     ·refine AW.cF rfl (bF h5) ?_
      refine AW.skip ?_
      refine AW.seq (AW.regL ?_)
      refine V rfl ?_
      refine AL.nil ?_
      refine AW.ret ?_
      cases hr
      exact endA.renK [] 0 hS
    ·refine VF rfl (dF h4) ?_
     refine AL.off ?_
     refine AL.off ?_
     iterate 2 refine V rfl ?_
     refine AL.nil ?_
     refine AW.cF rfl rfl ?_
     refine AW.skip ?_
     refine AW.seq (AW.regL ?_)
     refine V rfl ?_
     refine AL.nil ?_
     refine AW.ret ?_
     cases hr
     exact endA.renK [] 0 hS
def q6U (a0:Int)(a1:Int):Option Bool:=
 (q7H a1).bind fun y1=>
 if y1=true then (
 (q8x a0 a1).bind fun y2=>
 some (decide (y2=a0))
 ) else (
 some false
 )
theorem z5g {a0:Int}{a1:Int}{r:Bool}(hr:q6U a0 a1=some r):Ok Tryz.prog 150 [.d .fz (.i .i64 a0),.d .fz (.i .i64 a1)] [] (.d .fz (.b r)) []:=by
 refine Ok.enter rfl Tryz.func150 rfl rfl rfl fun S hS=>?_
 unfold q6U at hr
 refine AW.seq (AW.regL ?_)
 refine V rfl ?_
 refine AL.nil ?_
 refine AW.seq (AW.regL ?_)
 refine V rfl ?_
 refine bdE hr fun y1 hy1 hr=>?_
 refine CB [] [] (z3i hy1) ?_
 refine ifE hr (fun h1 hr=>?_) fun h1 hr=>?_
 ·refine VT rfl h1 ?_
  iterate 2 refine V rfl ?_
  refine bdE hr fun y2 hy2 hr=>?_
  refine CB [] [] (z7Z hy2) ?_
  iterate 4 refine V rfl ?_
  refine AL.nil ?_
  refine AW.ret ?_
  cases hr
  exact endA.renK [] 0 hS
 ·refine VF rfl (bF h1) ?_
  refine AL.off ?_
  refine AL.off ?_
  refine AL.off ?_
  refine AL.off ?_
  refine AL.off ?_
  iterate 2 refine V rfl ?_
  refine AL.nil ?_
  refine AW.ret ?_
  cases hr
  exact endA.renK [] 0 hS
def q2U (a0:Expr)(a1:Expr):Option Bool:=
 (
 if a0.Kind=a1.Kind then (
 some (decide (a0.N=a1.N))
 ) else (
 some false
 )
 ).bind fun s1=>
 (
 if s1=true then (
 some (decide (a0.Pos=a1.Pos))
 ) else (
 some false
 )
 ).bind fun s2=>
 (
 if s2=true then (
 some (decide (a0.Type_=a1.Type_))
 ) else (
 some false
 )
 ).bind fun s3=>
 (
 if s3=true then (
 some (decide (a0.Symbol=a1.Symbol))
 ) else (
 some false
 )
 ).bind fun s4=>
 (
 if s4=true then (
 some (decide (a0.Name=a1.Name))
 ) else (
 some false
 )
 ).bind fun s5=>
 some s5
theorem q3W {m:Md}{a0:Expr}{a1:Expr}{r:Bool}(hr:q2U a0 a1=some r):Ok Tryz.prog 151 [Expr.x m a0,Expr.x m a1] [] (.d .fz (.b r)) []:=by
 refine Ok.enter rfl Tryz.func151 rfl rfl rfl fun S hS=>?_
 unfold q2U at hr
 refine AW.seq (AW.regL ?_)
 refine BX 0 ?_
 refine BX 1 ?_
 refine V rfl ?_
 refine AL.nil ?_
 refine AW.seq (AW.regL ?_)
 iterate 5 refine V rfl ?_
 refine bdE hr fun s1 hqq1 hr=>?_
 refine AL.meet1 7 [(2,.pb 0 0),(3,.pb 1 0),(4,.d .fz (.b false)),(16,.d .fz (.b s1))] ?_ ?_
 ·replace hr:=hqq1
  refine ifE hr (fun h1 hr=>?_) fun h1 hr=>?_
  ·refine VT rfl (dT h1) ?_
   iterate 6 refine V rfl ?_
   refine AL.nil ?_
   cases hr
   exact q1i
  ·refine VF rfl (dF h1) ?_
   refine AL.off ?_
   refine AL.off ?_
   refine AL.off ?_
   refine AL.off ?_
   refine AL.off ?_
   refine V rfl ?_
   refine AL.nil ?_
   cases hr
   exact q1i
 ·refine bdE hr fun s2 hqq2 hr=>?_
  refine AL.meet1 7 [(2,.pb 0 0),(3,.pb 1 0),(4,.d .fz (.b false)),(23,.d .fz (.b s2))] ?_ ?_
  ·replace hr:=hqq2
   refine ifE hr (fun h2 hr=>?_) fun h2 hr=>?_
   ·refine VT rfl h2 ?_
    iterate 6 refine V rfl ?_
    refine AL.nil ?_
    cases hr
    exact q1i
   ·refine VF rfl (bF h2) ?_
    refine AL.off ?_
    refine AL.off ?_
    refine AL.off ?_
    refine AL.off ?_
    refine AL.off ?_
    refine V rfl ?_
    refine AL.nil ?_
    cases hr
    exact q1i
  ·refine bdE hr fun s3 hqq3 hr=>?_
   refine AL.meet1 7 [(2,.pb 0 0),(3,.pb 1 0),(4,.d .fz (.b false)),(30,.d .fz (.b s3))] ?_ ?_
   ·replace hr:=hqq3
    refine ifE hr (fun h3 hr=>?_) fun h3 hr=>?_
    ·refine VT rfl h3 ?_
     iterate 6 refine V rfl ?_
     refine AL.nil ?_
     cases hr
     exact q1i
    ·refine VF rfl (bF h3) ?_
     refine AL.off ?_
     refine AL.off ?_
     refine AL.off ?_
     refine AL.off ?_
     refine AL.off ?_
     refine V rfl ?_
     refine AL.nil ?_
     cases hr
     exact q1i
   ·refine bdE hr fun s4 hqq4 hr=>?_
    refine AL.meet1 7 [(2,.pb 0 0),(3,.pb 1 0),(4,.d .fz (.b false)),(37,.d .fz (.b s4))] ?_ ?_
    ·replace hr:=hqq4
     refine ifE hr (fun h4 hr=>?_) fun h4 hr=>?_
     ·refine VT rfl h4 ?_
      iterate 6 refine V rfl ?_
      refine AL.nil ?_
      cases hr
      exact q1i
     ·refine VF rfl (bF h4) ?_
      refine AL.off ?_
      refine AL.off ?_
      refine AL.off ?_
      refine AL.off ?_
      refine AL.off ?_
      refine V rfl ?_
      refine AL.nil ?_
      cases hr
      exact q1i
    ·refine bdE hr fun s5 hqq5 hr=>?_
     refine AL.meet1 7 [(4,.d .fz (.b false)),(44,.d .fz (.b s5))] ?_ ?_
     ·replace hr:=hqq5
      refine ifE hr (fun h5 hr=>?_) fun h5 hr=>?_
      ·refine VT rfl h5 ?_
       iterate 6 refine V rfl ?_
       refine AL.nil ?_
       cases hr
       exact q1i
      ·refine VF rfl (bF h5) ?_
       refine AL.off ?_
       refine AL.off ?_
       refine AL.off ?_
       refine AL.off ?_
       refine AL.off ?_
       refine V rfl ?_
       refine AL.nil ?_
       cases hr
       exact q1i
     ·refine V rfl ?_
      refine AL.nil ?_
      refine AW.ret ?_
      cases hr
      exact endA.renK [] 0 hS
def q5u (a0:Expr):Option Bool:=
 if a0.Kind=1 then (
 (
 if a0.Type_=4 then (
 some true
 ) else (
 (q6U a0.N a0.Type_).bind fun y1=>
 some (!y1)
 )
 ).bind fun s1=>
 (
 if s1=true then (
 some true
 ) else (
 some (decide (a0.N < 0))
 )
 ).bind fun s2=>
 if s2=true then (
 some false
 ) else (
 (
 if (a0.Args.length:Int)=0 then (
 (q1Z a0.Pos 0 3).bind fun y2=>
 some y2
 ) else (
 some false
 )
 ).bind fun s3=>
 (
 if s3=true then (
 (q2U a0 (⟨a0.Kind,a0.N,0,a0.Type_,(⟨#[]⟩:ByteArray),(⟨#[]⟩:ByteArray),a0.Args⟩:Expr)).bind fun y3=>
 some y3
 ) else (
 some false
 )
 ).bind fun s4=>
 some s4
 )
 ) else (
 if a0.Kind=3 then (
 (q1H a0.Name).bind fun y4=>
 if y4=true then (
 (
 if (a0.Args.length:Int)=0 then (
 (q1Z a0.Pos 0 3).bind fun y5=>
 some y5
 ) else (
 some false
 )
 ).bind fun s5=>
 (
 if s5=true then (
 (q2U a0 (⟨a0.Kind,0,a0.Pos,0,(⟨#[]⟩:ByteArray),a0.Name,a0.Args⟩:Expr)).bind fun y6=>
 some y6
 ) else (
 some false
 )
 ).bind fun s6=>
 some s6
 ) else (
 some false
 )
 ) else (
 if a0.Kind=4 then (
 (q1Z a0.N 1 12).bind fun y7=>
 if y7=true then (
 (
 if (a0.Args.length:Int)=2 then (
 (q1Z a0.Pos 0 3).bind fun y8=>
 some y8
 ) else (
 some false
 )
 ).bind fun s7=>
 (
 if s7=true then (
 (q2U a0 (⟨a0.Kind,a0.N,0,0,(⟨#[]⟩:ByteArray),(⟨#[]⟩:ByteArray),a0.Args⟩:Expr)).bind fun y9=>
 some y9
 ) else (
 some false
 )
 ).bind fun s8=>
 some s8
 ) else (
 some false
 )
 ) else (
 if a0.Kind=5 then (
 (
 if (a0.Args.length:Int)=3 then (
 (q1Z a0.Pos 0 3).bind fun y10=>
 some y10
 ) else (
 some false
 )
 ).bind fun s9=>
 (
 if s9=true then (
 (q2U a0 (⟨a0.Kind,0,0,0,(⟨#[]⟩:ByteArray),(⟨#[]⟩:ByteArray),a0.Args⟩:Expr)).bind fun y11=>
 some y11
 ) else (
 some false
 )
 ).bind fun s10=>
 some s10
 ) else (
 if a0.Kind=6 then (
 (
 if (a0.Args.length:Int)=0 then (
 (q1Z a0.Pos 0 3).bind fun y12=>
 some y12
 ) else (
 some false
 )
 ).bind fun s11=>
 (
 if s11=true then (
 (q2U a0 (⟨a0.Kind,0,a0.Pos,0,(⟨#[]⟩:ByteArray),(⟨#[]⟩:ByteArray),a0.Args⟩:Expr)).bind fun y13=>
 some y13
 ) else (
 some false
 )
 ).bind fun s12=>
 some s12
 ) else (
 if a0.Kind=8 then (
 (q1H a0.Symbol).bind fun y14=>
 (
 if y14=true then (
 (q1H a0.Name).bind fun y15=>
 some (!y15)
 ) else (
 some true
 )
 ).bind fun s13=>
 if s13=true then (
 some false
 ) else (
 (
 if (a0.Args.length:Int)=1 then (
 (q1Z a0.Pos 0 3).bind fun y16=>
 some y16
 ) else (
 some false
 )
 ).bind fun s14=>
 (
 if s14=true then (
 (q2U a0 (⟨a0.Kind,0,0,0,a0.Symbol,a0.Name,a0.Args⟩:Expr)).bind fun y17=>
 some y17
 ) else (
 some false
 )
 ).bind fun s15=>
 some s15
 )
 ) else (
 if a0.Kind=2 then (
 if a0.Kind=2 then (
 (
 if (a0.Args.length:Int)=0 then (
 (q1Z a0.Pos 0 3).bind fun y18=>
 some y18
 ) else (
 some false
 )
 ).bind fun s16=>
 (
 if s16=true then (
 (q2U a0 (⟨a0.Kind,0,0,0,(⟨#[]⟩:ByteArray),(⟨#[]⟩:ByteArray),a0.Args⟩:Expr)).bind fun y19=>
 some y19
 ) else (
 some false
 )
 ).bind fun s17=>
 some s17
 ) else (
 some false
 )
 ) else (
 if a0.Kind=7 then (
 (
 if (a0.Args.length:Int)=0 then (
 (q1Z a0.Pos 0 3).bind fun y20=>
 some y20
 ) else (
 some false
 )
 ).bind fun s18=>
 (
 if s18=true then (
 (q2U a0 (⟨a0.Kind,0,0,0,(⟨#[]⟩:ByteArray),(⟨#[]⟩:ByteArray),a0.Args⟩:Expr)).bind fun y21=>
 some y21
 ) else (
 some false
 )
 ).bind fun s19=>
 some s19
 ) else (
 some false
 )
 )
 )
 )
 )
 )
 )
 )
theorem z2z {m:Md}{a0:Expr}{r:Bool}(hr:q5u a0=some r):Ok Tryz.prog 134 [Expr.x m a0] [] (.d .fz (.b r)) []:=by
 refine Ok.enter rfl Tryz.func134 rfl rfl rfl fun S hS=>?_
 unfold q5u at hr
 refine AW.seq (AW.regL ?_)
 refine BX 0 ?_
 refine V rfl ?_
 refine AL.nil ?_
 refine AW.seq (AW.regL ?_)
 iterate 5 refine V rfl ?_
 refine NV 1 ?_
 refine SB ?_
 refine AL.nil ?_
 refine AW.seq (AW.regL ?_)
 refine V rfl ?_
 refine AL.nil ?_
 refine AW.seq (AW.seq (AW.regL ?_))
 iterate 2 refine V rfl ?_
 refine AL.nil ?_
 refine AW.block (AW.seq (AW.regL ?_))
 iterate 2 refine V rfl ?_
 refine AL.nil ?_
 refine ifE hr (fun h1 hr=>?_) fun h1 hr=>?_
 ·refine AW.cT rfl (dT h1) ?_
  refine AW.seq (AW.drawL (h:=?_))
  iterate 5 refine V rfl ?_
  refine SB ?_
  refine V rfl ?_
  refine SB ?_
  refine AL.nil ?_
  refine AW.seq (AW.regL ?_)
  iterate 3 refine V rfl ?_
  refine bdE hr fun s1 hqq1 hr=>?_
  refine AL.meet1 8 [(1,.pb 0 0),(3,.pb 1 0),(4,.d .fz (.i .i64 0)),(30,.d .fz (.b s1))] ?_ ?_
  ·replace hr:=hqq1
   refine ifE hr (fun h2 hr=>?_) fun h2 hr=>?_
   ·refine VT rfl (dT h2) ?_
    refine AL.off ?_
    refine AL.off ?_
    refine AL.off ?_
    refine AL.off ?_
    refine AL.off ?_
    refine AL.off ?_
    refine V rfl ?_
    refine AL.nil ?_
    cases hr
    exact q1i
   ·refine VF rfl (dF h2) ?_
    iterate 4 refine V rfl ?_
    refine bdE hr fun y1 hy1 hr=>?_
    refine CB [] [] (z5g hy1) ?_
    iterate 2 refine V rfl ?_
    refine AL.nil ?_
    cases hr
    exact q1i
  ·refine bdE hr fun s2 hqq2 hr=>?_
   refine AL.meet1 5 [(1,.pb 0 0),(3,.pb 1 0),(4,.d .fz (.i .i64 0)),(35,.d .fz (.b s2))] ?_ ?_
   ·replace hr:=hqq2
    refine ifE hr (fun h3 hr=>?_) fun h3 hr=>?_
    ·refine VT rfl h3 ?_
     refine AL.off ?_
     refine AL.off ?_
     refine AL.off ?_
     refine V rfl ?_
     refine AL.nil ?_
     cases hr
     exact q1i
    ·refine VF rfl (bF h3) ?_
     iterate 4 refine V rfl ?_
     refine AL.nil ?_
     cases hr
     exact q1i
   ·refine AL.nil ?_
    refine ifE hr (fun h4 hr=>?_) fun h4 hr=>?_
    ·refine AW.cT rfl h4 ?_
     refine AW.seq (AW.regL ?_)
     refine V rfl ?_
     refine AL.nil ?_
     refine AW.ret ?_
     cases hr
     exact endA.renK [] 0 hS
    ·refine AW.cF rfl (bF h4) ?_
     refine AW.skip ?_
     refine AW.seq (AW.regL ?_)
     iterate 2 refine V rfl ?_
     refine LF ?_
     iterate 2 refine V rfl ?_
     refine bdE hr fun s3 hqq3 hr=>?_
     refine AL.meet1 5 [(1,.pb 0 0),(3,.pb 1 0),(94,.d .fz (.b s3))] ?_ ?_
     ·replace hr:=hqq3
      refine ifE hr (fun h5 hr=>?_) fun h5 hr=>?_
      ·refine VT rfl (dT h5) ?_
       iterate 2 refine V rfl ?_
       refine bdE hr fun y2 hy2 hr=>?_
       refine CB [] [] (q2p hy2) ?_
       refine V rfl ?_
       refine AL.nil ?_
       cases hr
       exact q1i
      ·refine VF rfl (dF h5) ?_
       refine AL.off ?_
       refine AL.off ?_
       refine AL.off ?_
       refine V rfl ?_
       refine AL.nil ?_
       cases hr
       exact q1i
     ·refine bdE hr fun s4 hqq4 hr=>?_
      refine AL.meet1 5 [(99,.d .fz (.b s4))] ?_ ?_
      ·replace hr:=hqq4
       refine ifE hr (fun h6 hr=>?_) fun h6 hr=>?_
       ·refine VT rfl h6 ?_
        iterate 2 refine V rfl ?_
        refine bdE hr fun y3 hy3 hr=>?_
        refine CB [] [] (q3W (m:=m) hy3) ?_
        refine V rfl ?_
        refine AL.nil ?_
        cases hr
        exact q1i
       ·refine VF rfl (bF h6) ?_
        refine AL.off ?_
        refine AL.off ?_
        refine AL.off ?_
        refine V rfl ?_
        refine AL.nil ?_
        cases hr
        exact q1i
      ·refine V rfl ?_
       refine AL.nil ?_
       refine AW.ret ?_
       cases hr
       exact endA.renK [] 0 hS
 ·refine AW.cF rfl (dF h1) ?_
  refine AW.seq (AW.regL ?_)
  iterate 2 refine V rfl ?_
  refine AL.nil ?_
  refine ifE hr (fun h7 hr=>?_) fun h7 hr=>?_
  ·refine AW.cT rfl (dT h7) ?_
   refine AW.seq (AW.drawL (h:=?_))
   iterate 5 refine V rfl ?_
   refine SB ?_
   refine V rfl ?_
   refine SB ?_
   refine AL.nil ?_
   refine AW.seq (AW.regL ?_)
   iterate 2 refine V rfl ?_
   refine bdE hr fun y4 hy4 hr=>?_
   refine CB [] [] (q2i hy4) ?_
   refine V rfl ?_
   refine AL.nil ?_
   refine ifE hr (fun h8 hr=>?_) fun h8 hr=>?_
   ·refine AW.cF rfl (bnF h8) ?_
    refine AW.skip ?_
    refine AW.seq (AW.regL ?_)
    iterate 2 refine V rfl ?_
    refine LF ?_
    iterate 2 refine V rfl ?_
    refine bdE hr fun s5 hqq5 hr=>?_
    refine AL.meet1 5 [(1,.pb 0 0),(2,.d .fz (.b false)),(3,.pb 1 0),(94,.d .fz (.b s5))] ?_ ?_
    ·replace hr:=hqq5
     refine ifE hr (fun h9 hr=>?_) fun h9 hr=>?_
     ·refine VT rfl (dT h9) ?_
      iterate 2 refine V rfl ?_
      refine bdE hr fun y5 hy5 hr=>?_
      refine CB [] [] (q2p hy5) ?_
      refine V rfl ?_
      refine AL.nil ?_
      cases hr
      exact q1i
     ·refine VF rfl (dF h9) ?_
      refine AL.off ?_
      refine AL.off ?_
      refine AL.off ?_
      refine V rfl ?_
      refine AL.nil ?_
      cases hr
      exact q1i
    ·refine bdE hr fun s6 hqq6 hr=>?_
     refine AL.meet1 5 [(2,.d .fz (.b false)),(99,.d .fz (.b s6))] ?_ ?_
     ·replace hr:=hqq6
      refine ifE hr (fun h10 hr=>?_) fun h10 hr=>?_
      ·refine VT rfl h10 ?_
       iterate 2 refine V rfl ?_
       refine bdE hr fun y6 hy6 hr=>?_
       refine CB [] [] (q3W (m:=m) hy6) ?_
       refine V rfl ?_
       refine AL.nil ?_
       cases hr
       exact q1i
      ·refine VF rfl (bF h10) ?_
       refine AL.off ?_
       refine AL.off ?_
       refine AL.off ?_
       refine V rfl ?_
       refine AL.nil ?_
       cases hr
       exact q1i
     ·refine V rfl ?_
      refine AL.nil ?_
      refine AW.ret ?_
      cases hr
      exact endA.renK [] 0 hS
   ·refine AW.cT rfl (bnT h8) ?_
    refine AW.seq (AW.regL ?_)
    refine V rfl ?_
    refine AL.nil ?_
    refine AW.ret ?_
    cases hr
    exact endA.renK [] 0 hS
  ·refine AW.cF rfl (dF h7) ?_
   refine AW.seq (AW.regL ?_)
   iterate 2 refine V rfl ?_
   refine AL.nil ?_
   refine ifE hr (fun h11 hr=>?_) fun h11 hr=>?_
   ·refine AW.cT rfl (dT h11) ?_
    refine AW.seq (AW.regL ?_)
    iterate 3 refine V rfl ?_
    refine SB ?_
    refine V rfl ?_
    refine AL.nil ?_
    refine AW.seq (AW.regL ?_)
    iterate 2 refine V rfl ?_
    refine bdE hr fun y7 hy7 hr=>?_
    refine CB [] [] (q2p hy7) ?_
    refine V rfl ?_
    refine AL.nil ?_
    refine ifE hr (fun h12 hr=>?_) fun h12 hr=>?_
    ·refine AW.cF rfl (bnF h12) ?_
     refine AW.skip ?_
     refine AW.seq (AW.regL ?_)
     iterate 2 refine V rfl ?_
     refine LF ?_
     iterate 2 refine V rfl ?_
     refine bdE hr fun s7 hqq7 hr=>?_
     refine AL.meet1 5 [(1,.pb 0 0),(2,.d .fz (.b false)),(3,.pb 1 0),(94,.d .fz (.b s7))] ?_ ?_
     ·replace hr:=hqq7
      refine ifE hr (fun h13 hr=>?_) fun h13 hr=>?_
      ·refine VT rfl (dT h13) ?_
       iterate 2 refine V rfl ?_
       refine bdE hr fun y8 hy8 hr=>?_
       refine CB [] [] (q2p hy8) ?_
       refine V rfl ?_
       refine AL.nil ?_
       cases hr
       exact q1i
      ·refine VF rfl (dF h13) ?_
       refine AL.off ?_
       refine AL.off ?_
       refine AL.off ?_
       refine V rfl ?_
       refine AL.nil ?_
       cases hr
       exact q1i
     ·refine bdE hr fun s8 hqq8 hr=>?_
      refine AL.meet1 5 [(2,.d .fz (.b false)),(99,.d .fz (.b s8))] ?_ ?_
      ·replace hr:=hqq8
       refine ifE hr (fun h14 hr=>?_) fun h14 hr=>?_
       ·refine VT rfl h14 ?_
        iterate 2 refine V rfl ?_
        refine bdE hr fun y9 hy9 hr=>?_
        refine CB [] [] (q3W (m:=m) hy9) ?_
        refine V rfl ?_
        refine AL.nil ?_
        cases hr
        exact q1i
       ·refine VF rfl (bF h14) ?_
        refine AL.off ?_
        refine AL.off ?_
        refine AL.off ?_
        refine V rfl ?_
        refine AL.nil ?_
        cases hr
        exact q1i
      ·refine V rfl ?_
       refine AL.nil ?_
       refine AW.ret ?_
       cases hr
       exact endA.renK [] 0 hS
    ·refine AW.cT rfl (bnT h12) ?_
     refine AW.seq (AW.regL ?_)
     refine V rfl ?_
     refine AL.nil ?_
     refine AW.ret ?_
     cases hr
     exact endA.renK [] 0 hS
   ·refine AW.cF rfl (dF h11) ?_
    refine AW.seq (AW.regL ?_)
    iterate 2 refine V rfl ?_
    refine AL.nil ?_
    refine ifE hr (fun h15 hr=>?_) fun h15 hr=>?_
    ·refine AW.cT rfl (dT h15) ?_
     refine AW.regL ?_
     refine V rfl ?_
     refine AL.nil ?_
     refine AW.seq (AW.regL ?_)
     iterate 2 refine V rfl ?_
     refine LF ?_
     iterate 2 refine V rfl ?_
     refine bdE hr fun s9 hqq9 hr=>?_
     refine AL.meet1 5 [(1,.pb 0 0),(2,.d .fz (.b false)),(3,.pb 1 0),(94,.d .fz (.b s9))] ?_ ?_
     ·replace hr:=hqq9
      refine ifE hr (fun h16 hr=>?_) fun h16 hr=>?_
      ·refine VT rfl (dT h16) ?_
       iterate 2 refine V rfl ?_
       refine bdE hr fun y10 hy10 hr=>?_
       refine CB [] [] (q2p hy10) ?_
       refine V rfl ?_
       refine AL.nil ?_
       cases hr
       exact q1i
      ·refine VF rfl (dF h16) ?_
       refine AL.off ?_
       refine AL.off ?_
       refine AL.off ?_
       refine V rfl ?_
       refine AL.nil ?_
       cases hr
       exact q1i
     ·refine bdE hr fun s10 hqq10 hr=>?_
      refine AL.meet1 5 [(2,.d .fz (.b false)),(99,.d .fz (.b s10))] ?_ ?_
      ·replace hr:=hqq10
       refine ifE hr (fun h17 hr=>?_) fun h17 hr=>?_
       ·refine VT rfl h17 ?_
        iterate 2 refine V rfl ?_
        refine bdE hr fun y11 hy11 hr=>?_
        refine CB [] [] (q3W (m:=m) hy11) ?_
        refine V rfl ?_
        refine AL.nil ?_
        cases hr
        exact q1i
       ·refine VF rfl (bF h17) ?_
        refine AL.off ?_
        refine AL.off ?_
        refine AL.off ?_
        refine V rfl ?_
        refine AL.nil ?_
        cases hr
        exact q1i
      ·refine V rfl ?_
       refine AL.nil ?_
       refine AW.ret ?_
       cases hr
       exact endA.renK [] 0 hS
    ·refine AW.cF rfl (dF h15) ?_
     refine AW.seq (AW.regL ?_)
     iterate 2 refine V rfl ?_
     refine AL.nil ?_
     refine ifE hr (fun h18 hr=>?_) fun h18 hr=>?_
     ·refine AW.cT rfl (dT h18) ?_
      refine AW.regL ?_
      iterate 3 refine V rfl ?_
      refine SB ?_
      refine AL.nil ?_
      refine AW.seq (AW.regL ?_)
      iterate 2 refine V rfl ?_
      refine LF ?_
      iterate 2 refine V rfl ?_
      refine bdE hr fun s11 hqq11 hr=>?_
      refine AL.meet1 5 [(1,.pb 0 0),(2,.d .fz (.b false)),(3,.pb 1 0),(94,.d .fz (.b s11))] ?_ ?_
      ·replace hr:=hqq11
       refine ifE hr (fun h19 hr=>?_) fun h19 hr=>?_
       ·refine VT rfl (dT h19) ?_
        iterate 2 refine V rfl ?_
        refine bdE hr fun y12 hy12 hr=>?_
        refine CB [] [] (q2p hy12) ?_
        refine V rfl ?_
        refine AL.nil ?_
        cases hr
        exact q1i
       ·refine VF rfl (dF h19) ?_
        refine AL.off ?_
        refine AL.off ?_
        refine AL.off ?_
        refine V rfl ?_
        refine AL.nil ?_
        cases hr
        exact q1i
      ·refine bdE hr fun s12 hqq12 hr=>?_
       refine AL.meet1 5 [(2,.d .fz (.b false)),(99,.d .fz (.b s12))] ?_ ?_
       ·replace hr:=hqq12
        refine ifE hr (fun h20 hr=>?_) fun h20 hr=>?_
        ·refine VT rfl h20 ?_
         iterate 2 refine V rfl ?_
         refine bdE hr fun y13 hy13 hr=>?_
         refine CB [] [] (q3W (m:=m) hy13) ?_
         refine V rfl ?_
         refine AL.nil ?_
         cases hr
         exact q1i
        ·refine VF rfl (bF h20) ?_
         refine AL.off ?_
         refine AL.off ?_
         refine AL.off ?_
         refine V rfl ?_
         refine AL.nil ?_
         cases hr
         exact q1i
       ·refine V rfl ?_
        refine AL.nil ?_
        refine AW.ret ?_
        cases hr
        exact endA.renK [] 0 hS
     ·refine AW.cF rfl (dF h18) ?_
      refine AW.seq (AW.regL ?_)
      iterate 2 refine V rfl ?_
      refine AL.nil ?_
      refine ifE hr (fun h21 hr=>?_) fun h21 hr=>?_
      ·refine AW.cT rfl (dT h21) ?_
       refine AW.seq (AW.drawL (h:=?_))
       iterate 5 refine V rfl ?_
       refine SB ?_
       refine V rfl ?_
       refine SB ?_
       refine V rfl ?_
       refine AL.nil ?_
       refine AW.seq (AW.regL ?_)
       iterate 2 refine V rfl ?_
       refine bdE hr fun y14 hy14 hr=>?_
       refine CB [] [] (q2i hy14) ?_
       refine V rfl ?_
       refine bdE hr fun s13 hqq13 hr=>?_
       refine AL.meet1 6 [(1,.pb 0 0),(3,.pb 1 0),(4,.d .fz (.i .i64 1)),(81,.d .fz (.b s13))] ?_ ?_
       ·replace hr:=hqq13
        refine ifE hr (fun h22 hr=>?_) fun h22 hr=>?_
        ·refine VF rfl (bnF h22) ?_
         iterate 2 refine V rfl ?_
         refine bdE hr fun y15 hy15 hr=>?_
         refine CB [] [] (q2i hy15) ?_
         iterate 2 refine V rfl ?_
         refine AL.nil ?_
         cases hr
         exact q1i
        ·refine VT rfl (bnT h22) ?_
         refine AL.off ?_
         refine AL.off ?_
         refine AL.off ?_
         refine AL.off ?_
         refine V rfl ?_
         refine AL.nil ?_
         cases hr
         exact q1i
       ·refine AL.nil ?_
        refine ifE hr (fun h23 hr=>?_) fun h23 hr=>?_
        ·refine AW.cT rfl h23 ?_
         refine AW.seq (AW.regL ?_)
         refine V rfl ?_
         refine AL.nil ?_
         refine AW.ret ?_
         cases hr
         exact endA.renK [] 0 hS
        ·refine AW.cF rfl (bF h23) ?_
         refine AW.skip ?_
         refine AW.seq (AW.regL ?_)
         iterate 2 refine V rfl ?_
         refine LF ?_
         iterate 2 refine V rfl ?_
         refine bdE hr fun s14 hqq14 hr=>?_
         refine AL.meet1 5 [(1,.pb 0 0),(3,.pb 1 0),(94,.d .fz (.b s14))] ?_ ?_
         ·replace hr:=hqq14
          refine ifE hr (fun h24 hr=>?_) fun h24 hr=>?_
          ·refine VT rfl (dT h24) ?_
           iterate 2 refine V rfl ?_
           refine bdE hr fun y16 hy16 hr=>?_
           refine CB [] [] (q2p hy16) ?_
           refine V rfl ?_
           refine AL.nil ?_
           cases hr
           exact q1i
          ·refine VF rfl (dF h24) ?_
           refine AL.off ?_
           refine AL.off ?_
           refine AL.off ?_
           refine V rfl ?_
           refine AL.nil ?_
           cases hr
           exact q1i
         ·refine bdE hr fun s15 hqq15 hr=>?_
          refine AL.meet1 5 [(99,.d .fz (.b s15))] ?_ ?_
          ·replace hr:=hqq15
           refine ifE hr (fun h25 hr=>?_) fun h25 hr=>?_
           ·refine VT rfl h25 ?_
            iterate 2 refine V rfl ?_
            refine bdE hr fun y17 hy17 hr=>?_
            refine CB [] [] (q3W (m:=m) hy17) ?_
            refine V rfl ?_
            refine AL.nil ?_
            cases hr
            exact q1i
           ·refine VF rfl (bF h25) ?_
            refine AL.off ?_
            refine AL.off ?_
            refine AL.off ?_
            refine V rfl ?_
            refine AL.nil ?_
            cases hr
            exact q1i
          ·refine V rfl ?_
           refine AL.nil ?_
           refine AW.ret ?_
           cases hr
           exact endA.renK [] 0 hS
      ·refine AW.cF rfl (dF h21) ?_
       refine AW.seq (AW.seq (AW.regL ?_))
       iterate 2 refine V rfl ?_
       refine AL.nil ?_
       refine ifE hr (fun h26 hr=>?_) fun h26 hr=>?_
       ·refine AW.cT rfl (dT h26) ?_
        refine AW.skip ?_
        refine ifE hr (fun h27 hr=>?_) fun h27 hr=>?_
        ·refine AW.cT rfl (dT h27) ?_
         refine AW.skip ?_
         refine AW.seq (AW.regL ?_)
         iterate 2 refine V rfl ?_
         refine LF ?_
         iterate 2 refine V rfl ?_
         refine bdE hr fun s16 hqq16 hr=>?_
         refine AL.meet1 5 [(1,.pb 0 0),(2,.d .fz (.b false)),(3,.pb 1 0),(94,.d .fz (.b s16))] ?_ ?_
         ·replace hr:=hqq16
          refine ifE hr (fun h28 hr=>?_) fun h28 hr=>?_
          ·refine VT rfl (dT h28) ?_
           iterate 2 refine V rfl ?_
           refine bdE hr fun y18 hy18 hr=>?_
           refine CB [] [] (q2p hy18) ?_
           refine V rfl ?_
           refine AL.nil ?_
           cases hr
           exact q1i
          ·refine VF rfl (dF h28) ?_
           refine AL.off ?_
           refine AL.off ?_
           refine AL.off ?_
           refine V rfl ?_
           refine AL.nil ?_
           cases hr
           exact q1i
         ·refine bdE hr fun s17 hqq17 hr=>?_
          refine AL.meet1 5 [(2,.d .fz (.b false)),(99,.d .fz (.b s17))] ?_ ?_
          ·replace hr:=hqq17
           refine ifE hr (fun h29 hr=>?_) fun h29 hr=>?_
           ·refine VT rfl h29 ?_
            iterate 2 refine V rfl ?_
            refine bdE hr fun y19 hy19 hr=>?_
            refine CB [] [] (q3W (m:=m) hy19) ?_
            refine V rfl ?_
            refine AL.nil ?_
            cases hr
            exact q1i
           ·refine VF rfl (bF h29) ?_
            refine AL.off ?_
            refine AL.off ?_
            refine AL.off ?_
            refine V rfl ?_
            refine AL.nil ?_
            cases hr
            exact q1i
          ·refine V rfl ?_
           refine AL.nil ?_
           refine AW.ret ?_
           cases hr
           exact endA.renK [] 0 hS
        ·refine AW.cF rfl (dF h27) ?_
         refine AW.seq (AW.regL ?_)
         refine V rfl ?_
         refine AL.nil ?_
         refine AW.ret ?_
         cases hr
         exact endA.renK [] 0 hS
       ·refine AW.cF rfl (dF h26) ?_
        refine AW.regL ?_
        iterate 2 refine V rfl ?_
        refine AL.nil ?_
        refine ifE hr (fun h30 hr=>?_) fun h30 hr=>?_
        ·refine AW.cT rfl (dT h30) ?_
         refine AW.skip ?_
         refine AW.seq (AW.regL ?_)
         iterate 2 refine V rfl ?_
         refine LF ?_
         iterate 2 refine V rfl ?_
         refine bdE hr fun s18 hqq18 hr=>?_
         refine AL.meet1 5 [(1,.pb 0 0),(2,.d .fz (.b false)),(3,.pb 1 0),(94,.d .fz (.b s18))] ?_ ?_
         ·replace hr:=hqq18
          refine ifE hr (fun h31 hr=>?_) fun h31 hr=>?_
          ·refine VT rfl (dT h31) ?_
           iterate 2 refine V rfl ?_
           refine bdE hr fun y20 hy20 hr=>?_
           refine CB [] [] (q2p hy20) ?_
           refine V rfl ?_
           refine AL.nil ?_
           cases hr
           exact q1i
          ·refine VF rfl (dF h31) ?_
           refine AL.off ?_
           refine AL.off ?_
           refine AL.off ?_
           refine V rfl ?_
           refine AL.nil ?_
           cases hr
           exact q1i
         ·refine bdE hr fun s19 hqq19 hr=>?_
          refine AL.meet1 5 [(2,.d .fz (.b false)),(99,.d .fz (.b s19))] ?_ ?_
          ·replace hr:=hqq19
           refine ifE hr (fun h32 hr=>?_) fun h32 hr=>?_
           ·refine VT rfl h32 ?_
            iterate 2 refine V rfl ?_
            refine bdE hr fun y21 hy21 hr=>?_
            refine CB [] [] (q3W (m:=m) hy21) ?_
            refine V rfl ?_
            refine AL.nil ?_
            cases hr
            exact q1i
           ·refine VF rfl (bF h32) ?_
            refine AL.off ?_
            refine AL.off ?_
            refine AL.off ?_
            refine V rfl ?_
            refine AL.nil ?_
            cases hr
            exact q1i
          ·refine V rfl ?_
           refine AL.nil ?_
           refine AW.ret ?_
           cases hr
           exact endA.renK [] 0 hS
        ·refine AW.cF rfl (dF h30) ?_
         refine AW.seq (AW.regL ?_)
         refine V rfl ?_
         refine AL.nil ?_
         refine AW.ret ?_
         cases hr
         exact endA.renK [] 0 hS
def q2E (rec_ieveryNode_iexprNodeOk:Expr→Option Bool)(a0:Expr):Option Bool:=
 (rec_ieveryNode_iexprNodeOk a0).bind fun y1=>
 some (!y1)
theorem q6V {rec_ieveryNode_iexprNodeOk:Expr→Option Bool}(ih_ieveryNode_iexprNodeOk:∀ {m:Md} {a0:Expr} {r:Bool},rec_ieveryNode_iexprNodeOk a0=some r→Ok Tryz.prog 86 [Expr.x m a0,.fn 134 []] [] (.d .fz (.b r)) []){m:Md}{a0:Expr}{r:Bool}(hr:q2E rec_ieveryNode_iexprNodeOk a0=some r):Ok Tryz.prog 118 [Expr.x m a0,.pb 0 0] [.box [.fn 134 []]] (.d .fz (.b r)) [.box [.fn 134 []]]:=by
 refine Ok.enter rfl Tryz.func118 rfl rfl rfl fun S hS=>?_
 unfold q2E at hr
 refine AW.seq (AW.regL ?_)
 refine BX 1 ?_
 refine V rfl ?_
 refine AL.nil ?_
 refine AW.seq (AW.regL ?_)
 iterate 2 refine V rfl ?_
 refine bdE hr fun y1 hy1 hr=>?_
 refine CB [] [] (ih_ieveryNode_iexprNodeOk (m:=m) hy1) ?_
 iterate 2 refine V rfl ?_
 refine AL.nil ?_
 refine AW.ret ?_
 cases hr
 exact endA.renK [(0,0)] 1 hS
def q2n (rec_ieveryNode_iexprNodeOk:Expr→Option Bool):Nat→Expr→Unit→Option (Unit ⊕ Int):=fun k1 xk1 _=>
 (q2E rec_ieveryNode_iexprNodeOk xk1).bind fun y1=>
 if y1=true then (
 some (.inr (k1:Int))
 ) else (
 some (.inl ())
 )
def q1s (rec_ieveryNode_iexprNodeOk:Expr→Option Bool)(a0:(List Expr)):Option Int:=
 (findL (q2n rec_ieveryNode_iexprNodeOk) 0 a0 ()).bind <| onr (fun r1=>some r1) fun _=>
 some (-1)
theorem q3v {rec_ieveryNode_iexprNodeOk:Expr→Option Bool}(ih_ieveryNode_iexprNodeOk:∀ {m:Md} {a0:Expr} {r:Bool},rec_ieveryNode_iexprNodeOk a0=some r→Ok Tryz.prog 86 [Expr.x m a0,.fn 134 []] [] (.d .fz (.b r)) []){m:Md}{a0:(List Expr)}{r:Int}(hr:q1s rec_ieveryNode_iexprNodeOk a0=some r):Ok Tryz.prog 85 [.d m (.sl 7 (a0.map Expr.D)),.fn 118 [.pb 0 0]] [.box [.fn 134 []]] (.d .fz (.i .i64 r)) [.box [.fn 134 []]]:=by
 refine Ok.enter rfl Tryz.func85 rfl rfl rfl fun S hS=>?_
 unfold q1s at hr
 refine AW.seq (AW.regL ?_)
 refine V rfl ?_
 refine AL.nil ?_
 refine AW.seq (AW.seq (AW.regL ?_))
 refine V rfl ?_
 refine LF ?_
 refine V rfl ?_
 refine AL.nil ?_
 refine AW.block ?_
 refine AW.len (.tmp 0 rfl) fun hl1=>?_
 refine bdE hr fun q1 hqq1 hr=>?_
 refine AW.findL hqq1 hl1 1 (fun k1 _=>[(0,.d m (.sl 7 (a0.map Expr.D))),(1,.fn 118 [.pb 0 0]),(7,.d .fz (.i .i64 (a0.length:Int))),(8,.d .fz (.i .i64 (k1:Int)))]) (fun k1 _=>[]) (GH.renK hS [(0,0)] 1) (fun k1 xk1 sk1 ok1 hxk1 hr hltk1 hik1=>?_) fun k1 sk1 ek1 hltk1=>?_
 ·refine AW.seq (AW.regL ?_)
  refine V rfl ?_
  refine AL.nil ?_
  refine AW.seq (AW.cT rfl (dT hltk1) ?_)
  refine AW.skip ?_
  refine AW.seq (AW.block (AW.seq (AW.regL ?_)))
  iterate 2 refine V rfl ?_
  refine AL.nil ?_
  refine AW.seq (AW.regL ?_)
  iterate 3 refine V rfl ?_
  refine IFq (Int.natCast_nonneg _) hxk1 (Expr.D_cells xk1) ?_
  refine V rfl ?_
  refine bdE hr fun y1 hy1 hr=>?_
  refine CB [(0,0)] [] (q6V ih_ieveryNode_iexprNodeOk (m:=m) hy1) ?_
  refine AL.nil ?_
  refine ifE hr (fun h1 hr=>?_) fun h1 hr=>?_
  ·refine AW.cT rfl h1 ?_
   refine AW.seq (AW.regL ?_)
   iterate 2 refine V rfl ?_
   refine AL.nil ?_
   refine AW.ret ?_
   cases hr
   cases hik1 _ rfl
   rename_i hr
   cases hr
   exact endA.renK [(0,0)] 1 hS
  ·refine AW.cF rfl (bF h1) ?_
   refine AW.skip ?_
   refine AW.regL ?_
   refine OB _ (q1X (p:=k1) (q:=1) (q1h hltk1 hl1)) ?_
   refine V rfl ?_
   refine AL.nil ?_
   cases hr
   exact⟨_,rfl,GH.renK hS [(0,0)] 1⟩
 ·subst ek1
  refine AW.seq (AW.regL ?_)
  refine V rfl ?_
  refine AL.nil ?_
  refine AW.seq (AW.cF rfl (dF hltk1) ?_)
  refine AW.exit ?_
  refine AW.seq (AW.regL ?_)
  refine V rfl ?_
  refine AL.nil ?_
  refine AW.ret ?_
  cases hr
  exact endA.renK [(0,0)] 1 hS
def q1p (rec_ieveryNode_iexprNodeOk:Expr→Option Bool)(a0:(List Expr)):Option Bool:=
 (q1s rec_ieveryNode_iexprNodeOk a0).bind fun y1=>
 some (decide (0≤y1))
theorem q3j {rec_ieveryNode_iexprNodeOk:Expr→Option Bool}(ih_ieveryNode_iexprNodeOk:∀ {m:Md} {a0:Expr} {r:Bool},rec_ieveryNode_iexprNodeOk a0=some r→Ok Tryz.prog 86 [Expr.x m a0,.fn 134 []] [] (.d .fz (.b r)) []){m:Md}{a0:(List Expr)}{r:Bool}(hr:q1p rec_ieveryNode_iexprNodeOk a0=some r):Ok Tryz.prog 53 [.d m (.sl 7 (a0.map Expr.D)),.fn 118 [.pb 0 0]] [.box [.fn 134 []]] (.d .fz (.b r)) [.box [.fn 134 []]]:=by
 refine Ok.enter rfl Tryz.func53 rfl rfl rfl fun S hS=>?_
 unfold q1p at hr
 refine AW.seq (AW.regL ?_)
 refine V rfl ?_
 refine AL.nil ?_
 refine AW.seq (AW.regL ?_)
 iterate 2 refine V rfl ?_
 refine bdE hr fun y1 hy1 hr=>?_
 refine CB [(0,0)] [] (q3v ih_ieveryNode_iexprNodeOk (m:=m) hy1) ?_
 iterate 2 refine V rfl ?_
 refine AL.nil ?_
 refine AW.ret ?_
 cases hr
 exact endA.renK [(0,0)] 1 hS
def q2u (rec_ieveryNode_iexprNodeOk:Expr→Option Bool)(a0:Expr):Option Bool:=
 (q5u a0).bind fun y1=>
 if y1=true then (
 (q1p rec_ieveryNode_iexprNodeOk a0.Args).bind fun y2=>
 some (!y2)
 ) else (
 some false
 )
theorem q7c {rec_ieveryNode_iexprNodeOk:Expr→Option Bool}(ih_ieveryNode_iexprNodeOk:∀ {m:Md} {a0:Expr} {r:Bool},rec_ieveryNode_iexprNodeOk a0=some r→Ok Tryz.prog 86 [Expr.x m a0,.fn 134 []] [] (.d .fz (.b r)) []){m:Md}{a0:Expr}{r:Bool}(hr:q2u rec_ieveryNode_iexprNodeOk a0=some r):Ok Tryz.prog 86 [Expr.x m a0,.fn 134 []] [] (.d .fz (.b r)) []:=by
 refine Ok.enter rfl Tryz.func86 rfl rfl rfl fun S hS=>?_
 unfold q2u at hr
 refine AW.seq (AW.regL ?_)
 refine BX 0 ?_
 refine BX 1 ?_
 refine V rfl ?_
 refine AL.nil ?_
 refine AW.seq (AW.regL ?_)
 iterate 2 refine V rfl ?_
 refine bdE hr fun y1 hy1 hr=>?_
 refine CB [] [] (z2z (m:=m) hy1) ?_
 refine ifE hr (fun h1 hr=>?_) fun h1 hr=>?_
 ·refine VT rfl h1 ?_
  iterate 3 refine V rfl ?_
  refine bdE hr fun y2 hy2 hr=>?_
  refine CB [(0,1)] [] (q3j ih_ieveryNode_iexprNodeOk (m:=m) hy2) ?_
  iterate 3 refine V rfl ?_
  refine AL.nil ?_
  refine AW.ret ?_
  cases hr
  exact endA.renK [] 0 hS
 ·refine VF rfl (bF h1) ?_
  refine AL.off ?_
  refine AL.off ?_
  refine AL.off ?_
  refine AL.off ?_
  refine AL.off ?_
  iterate 2 refine V rfl ?_
  refine AL.nil ?_
  refine AW.ret ?_
  cases hr
  exact endA.renK [] 0 hS
def q2v:Nat→Expr→Option Bool
  | 0,_=>none
  | n+1,a0=>q2u (q2v n) a0
def q3R (a0:Expr):Option Bool:=recO fun n=>q2v n a0
theorem q7d (n:Nat):∀ {m:Md} {a0:Expr} {r:Bool},q2v n a0=some r→Ok Tryz.prog 86 [Expr.x m a0,.fn 134 []] [] (.d .fz (.b r)) []:=by
  induction n with
  | zero=>intro _ _ r hr; exact nomatch (show (none:Option Bool)=some r from hr)
  | succ n ih=>intro _ _ r hr; exact q7c ih hr
theorem q7r {m:Md}{a0:Expr}{r:Bool}(hr:q3R a0=some r):Ok Tryz.prog 86 [Expr.x m a0,.fn 134 []] [] (.d .fz (.b r)) []:=by
  obtain⟨n,hn⟩:=q3M hr
  exact q7d n hn
def q4Q (a0:Expr):Option Bool:=
 (q8v a0).bind fun y1=>
 (
 if y1≤24 then (
 (q7q a0).bind fun y2=>
 some (decide (y2≤6))
 ) else (
 some false
 )
 ).bind fun s1=>
 (
 if s1=true then (
 (q3R a0).bind fun y3=>
 some y3
 ) else (
 some false
 )
 ).bind fun s2=>
 some s2
theorem z1S {m:Md}{a0:Expr}{r:Bool}(hr:q4Q a0=some r):Ok Tryz.prog 116 [Expr.x m a0] [] (.d .fz (.b r)) []:=by
 refine Ok.enter rfl Tryz.func116 rfl rfl rfl fun S hS=>?_
 unfold q4Q at hr
 refine AW.seq (AW.regL ?_)
 refine BX 0 ?_
 refine V rfl ?_
 refine AL.nil ?_
 refine AW.seq (AW.regL ?_)
 refine V rfl ?_
 refine bdE hr fun y1 hy1 hr=>?_
 refine CB [] [] (z3R (m:=m) hy1) ?_
 refine V rfl ?_
 refine bdE hr fun s1 hqq1 hr=>?_
 refine AL.meet1 5 [(1,.pb 0 0),(2,.d .fz (.b false)),(10,.d .fz (.b s1))] ?_ ?_
 ·replace hr:=hqq1
  refine ifE hr (fun h1 hr=>?_) fun h1 hr=>?_
  ·refine VT rfl (dT h1) ?_
   refine V rfl ?_
   refine bdE hr fun y2 hy2 hr=>?_
   refine CB [] [] (z1Q (m:=m) hy2) ?_
   iterate 2 refine V rfl ?_
   refine AL.nil ?_
   cases hr
   exact q1i
  ·refine VF rfl (dF h1) ?_
   refine AL.off ?_
   refine AL.off ?_
   refine AL.off ?_
   refine V rfl ?_
   refine AL.nil ?_
   cases hr
   exact q1i
 ·refine bdE hr fun s2 hqq2 hr=>?_
  refine AL.meet1 4 [(2,.d .fz (.b false)),(14,.d .fz (.b s2))] ?_ ?_
  ·replace hr:=hqq2
   refine ifE hr (fun h2 hr=>?_) fun h2 hr=>?_
   ·refine VT rfl h2 ?_
    refine V rfl ?_
    refine bdE hr fun y3 hy3 hr=>?_
    refine CB [] [] (q7r (m:=m) hy3) ?_
    refine V rfl ?_
    refine AL.nil ?_
    cases hr
    exact q1i
   ·refine VF rfl (bF h2) ?_
    refine AL.off ?_
    refine AL.off ?_
    refine V rfl ?_
    refine AL.nil ?_
    cases hr
    exact q1i
  ·refine V rfl ?_
   refine AL.nil ?_
   refine AW.ret ?_
   cases hr
   exact endA.renK [] 0 hS
def q9R (a0:Expr)(a1:Int):Option Bool:=
 some (decide (a0.Pos≤a1))
theorem z8a {m:Md}{a0:Expr}{a1:Int}{r:Bool}(hr:q9R a0 a1=some r):Ok Tryz.prog 117 [Expr.x m a0,.pb 0 0] [.box [.d .fz (.i .i64 a1)]] (.d .fz (.b r)) [.box [.d .fz (.i .i64 a1)]]:=by
 refine Ok.enter rfl Tryz.func117 rfl rfl rfl fun S hS=>?_
 unfold q9R at hr
 refine AW.seq (AW.regL ?_)
 refine BX 1 ?_
 refine V rfl ?_
 refine AL.nil ?_
 refine AW.seq (AW.regL ?_)
 iterate 5 refine V rfl ?_
 refine AL.nil ?_
 refine AW.ret ?_
 cases hr
 exact endA.renK [(0,0)] 1 hS
def q3r (rec_ieveryNode_ifits_1:Expr→Int→Option Bool)(a0:Expr)(a1_0:Int):Option Bool:=
 (rec_ieveryNode_ifits_1 a0 a1_0).bind fun y1=>
 some (!y1)
theorem q7X {rec_ieveryNode_ifits_1:Expr→Int→Option Bool}(ih_ieveryNode_ifits_1:∀ {m:Md} {a0:Expr} {a1_0:Int} {r:Bool},rec_ieveryNode_ifits_1 a0 a1_0=some r→Ok Tryz.prog 86 [Expr.x m a0,.fn 117 [.pb 0 0]] [.box [.d .fz (.i .i64 a1_0)]] (.d .fz (.b r)) [.box [.d .fz (.i .i64 a1_0)]]){m:Md}{a0:Expr}{a1_0:Int}{r:Bool}(hr:q3r rec_ieveryNode_ifits_1 a0 a1_0=some r):Ok Tryz.prog 118 [Expr.x m a0,.pb 1 0] [.box [.d .fz (.i .i64 a1_0)],.box [.fn 117 [.pb 0 0]]] (.d .fz (.b r)) [.box [.d .fz (.i .i64 a1_0)],.box [.fn 117 [.pb 0 0]]]:=by
 refine Ok.enter rfl Tryz.func118 rfl rfl rfl fun S hS=>?_
 unfold q3r at hr
 refine AW.seq (AW.regL ?_)
 refine BX 2 ?_
 refine V rfl ?_
 refine AL.nil ?_
 refine AW.seq (AW.regL ?_)
 iterate 2 refine V rfl ?_
 refine bdE hr fun y1 hy1 hr=>?_
 refine CB [(0,0)] [] (ih_ieveryNode_ifits_1 (m:=m) hy1) ?_
 iterate 2 refine V rfl ?_
 refine AL.nil ?_
 refine AW.ret ?_
 cases hr
 exact endA.renK [(0,0),(1,1)] 2 hS
def q2w (rec_ieveryNode_ifits_1:Expr→Int→Option Bool)(a1_0_0:Int):Nat→Expr→Unit→Option (Unit ⊕ Int):=fun k1 xk1 _=>
 (q3r rec_ieveryNode_ifits_1 xk1 a1_0_0).bind fun y1=>
 if y1=true then (
 some (.inr (k1:Int))
 ) else (
 some (.inl ())
 )
def q1z (rec_ieveryNode_ifits_1:Expr→Int→Option Bool)(a0:(List Expr))(a1_0_0:Int):Option Int:=
 (findL (q2w rec_ieveryNode_ifits_1 a1_0_0) 0 a0 ()).bind <| onr (fun r1=>some r1) fun _=>
 some (-1)
theorem q3S {rec_ieveryNode_ifits_1:Expr→Int→Option Bool}(ih_ieveryNode_ifits_1:∀ {m:Md} {a0:Expr} {a1_0:Int} {r:Bool},rec_ieveryNode_ifits_1 a0 a1_0=some r→Ok Tryz.prog 86 [Expr.x m a0,.fn 117 [.pb 0 0]] [.box [.d .fz (.i .i64 a1_0)]] (.d .fz (.b r)) [.box [.d .fz (.i .i64 a1_0)]]){m:Md}{a0:(List Expr)}{a1_0_0:Int}{r:Int}(hr:q1z rec_ieveryNode_ifits_1 a0 a1_0_0=some r):Ok Tryz.prog 85 [.d m (.sl 7 (a0.map Expr.D)),.fn 118 [.pb 1 0]] [.box [.d .fz (.i .i64 a1_0_0)],.box [.fn 117 [.pb 0 0]]] (.d .fz (.i .i64 r)) [.box [.d .fz (.i .i64 a1_0_0)],.box [.fn 117 [.pb 0 0]]]:=by
 refine Ok.enter rfl Tryz.func85 rfl rfl rfl fun S hS=>?_
 unfold q1z at hr
 refine AW.seq (AW.regL ?_)
 refine V rfl ?_
 refine AL.nil ?_
 refine AW.seq (AW.seq (AW.regL ?_))
 refine V rfl ?_
 refine LF ?_
 refine V rfl ?_
 refine AL.nil ?_
 refine AW.block ?_
 refine AW.len (.tmp 0 rfl) fun hl1=>?_
 refine bdE hr fun q1 hqq1 hr=>?_
 refine AW.findL hqq1 hl1 2 (fun k1 _=>[(0,.d m (.sl 7 (a0.map Expr.D))),(1,.fn 118 [.pb 1 0]),(7,.d .fz (.i .i64 (a0.length:Int))),(8,.d .fz (.i .i64 (k1:Int)))]) (fun k1 _=>[]) (GH.renK hS [(0,0),(1,1)] 2) (fun k1 xk1 sk1 ok1 hxk1 hr hltk1 hik1=>?_) fun k1 sk1 ek1 hltk1=>?_
 ·refine AW.seq (AW.regL ?_)
  refine V rfl ?_
  refine AL.nil ?_
  refine AW.seq (AW.cT rfl (dT hltk1) ?_)
  refine AW.skip ?_
  refine AW.seq (AW.block (AW.seq (AW.regL ?_)))
  iterate 2 refine V rfl ?_
  refine AL.nil ?_
  refine AW.seq (AW.regL ?_)
  iterate 3 refine V rfl ?_
  refine IFq (Int.natCast_nonneg _) hxk1 (Expr.D_cells xk1) ?_
  refine V rfl ?_
  refine bdE hr fun y1 hy1 hr=>?_
  refine CB [(0,0),(1,1)] [] (q7X ih_ieveryNode_ifits_1 (m:=m) hy1) ?_
  refine AL.nil ?_
  refine ifE hr (fun h1 hr=>?_) fun h1 hr=>?_
  ·refine AW.cT rfl h1 ?_
   refine AW.seq (AW.regL ?_)
   iterate 2 refine V rfl ?_
   refine AL.nil ?_
   refine AW.ret ?_
   cases hr
   cases hik1 _ rfl
   rename_i hr
   cases hr
   exact endA.renK [(0,0),(1,1)] 2 hS
  ·refine AW.cF rfl (bF h1) ?_
   refine AW.skip ?_
   refine AW.regL ?_
   refine OB _ (q1X (p:=k1) (q:=1) (q1h hltk1 hl1)) ?_
   refine V rfl ?_
   refine AL.nil ?_
   cases hr
   exact⟨_,rfl,GH.renK hS [(0,0),(1,1)] 2⟩
 ·subst ek1
  refine AW.seq (AW.regL ?_)
  refine V rfl ?_
  refine AL.nil ?_
  refine AW.seq (AW.cF rfl (dF hltk1) ?_)
  refine AW.exit ?_
  refine AW.seq (AW.regL ?_)
  refine V rfl ?_
  refine AL.nil ?_
  refine AW.ret ?_
  cases hr
  exact endA.renK [(0,0),(1,1)] 2 hS
def q1v (rec_ieveryNode_ifits_1:Expr→Int→Option Bool)(a0:(List Expr))(a1_0_0:Int):Option Bool:=
 (q1z rec_ieveryNode_ifits_1 a0 a1_0_0).bind fun y1=>
 some (decide (0≤y1))
theorem q3A {rec_ieveryNode_ifits_1:Expr→Int→Option Bool}(ih_ieveryNode_ifits_1:∀ {m:Md} {a0:Expr} {a1_0:Int} {r:Bool},rec_ieveryNode_ifits_1 a0 a1_0=some r→Ok Tryz.prog 86 [Expr.x m a0,.fn 117 [.pb 0 0]] [.box [.d .fz (.i .i64 a1_0)]] (.d .fz (.b r)) [.box [.d .fz (.i .i64 a1_0)]]){m:Md}{a0:(List Expr)}{a1_0_0:Int}{r:Bool}(hr:q1v rec_ieveryNode_ifits_1 a0 a1_0_0=some r):Ok Tryz.prog 53 [.d m (.sl 7 (a0.map Expr.D)),.fn 118 [.pb 1 0]] [.box [.d .fz (.i .i64 a1_0_0)],.box [.fn 117 [.pb 0 0]]] (.d .fz (.b r)) [.box [.d .fz (.i .i64 a1_0_0)],.box [.fn 117 [.pb 0 0]]]:=by
 refine Ok.enter rfl Tryz.func53 rfl rfl rfl fun S hS=>?_
 unfold q1v at hr
 refine AW.seq (AW.regL ?_)
 refine V rfl ?_
 refine AL.nil ?_
 refine AW.seq (AW.regL ?_)
 iterate 2 refine V rfl ?_
 refine bdE hr fun y1 hy1 hr=>?_
 refine CB [(0,0),(1,1)] [] (q3S ih_ieveryNode_ifits_1 (m:=m) hy1) ?_
 iterate 2 refine V rfl ?_
 refine AL.nil ?_
 refine AW.ret ?_
 cases hr
 exact endA.renK [(0,0),(1,1)] 2 hS
def q2Y (rec_ieveryNode_ifits_1:Expr→Int→Option Bool)(a0:Expr)(a1_0:Int):Option Bool:=
 (q9R a0 a1_0).bind fun y1=>
 if y1=true then (
 (q1v rec_ieveryNode_ifits_1 a0.Args a1_0).bind fun y2=>
 some (!y2)
 ) else (
 some false
 )
theorem q8f {rec_ieveryNode_ifits_1:Expr→Int→Option Bool}(ih_ieveryNode_ifits_1:∀ {m:Md} {a0:Expr} {a1_0:Int} {r:Bool},rec_ieveryNode_ifits_1 a0 a1_0=some r→Ok Tryz.prog 86 [Expr.x m a0,.fn 117 [.pb 0 0]] [.box [.d .fz (.i .i64 a1_0)]] (.d .fz (.b r)) [.box [.d .fz (.i .i64 a1_0)]]){m:Md}{a0:Expr}{a1_0:Int}{r:Bool}(hr:q2Y rec_ieveryNode_ifits_1 a0 a1_0=some r):Ok Tryz.prog 86 [Expr.x m a0,.fn 117 [.pb 0 0]] [.box [.d .fz (.i .i64 a1_0)]] (.d .fz (.b r)) [.box [.d .fz (.i .i64 a1_0)]]:=by
 refine Ok.enter rfl Tryz.func86 rfl rfl rfl fun S hS=>?_
 unfold q2Y at hr
 refine AW.seq (AW.regL ?_)
 refine BX 1 ?_
 refine BX 2 ?_
 refine V rfl ?_
 refine AL.nil ?_
 refine AW.seq (AW.regL ?_)
 iterate 2 refine V rfl ?_
 refine bdE hr fun y1 hy1 hr=>?_
 refine CB [(0,0)] [] (z8a (m:=m) hy1) ?_
 refine ifE hr (fun h1 hr=>?_) fun h1 hr=>?_
 ·refine VT rfl h1 ?_
  iterate 3 refine V rfl ?_
  refine bdE hr fun y2 hy2 hr=>?_
  refine CB [(0,0),(1,2)] [] (q3A ih_ieveryNode_ifits_1 (m:=m) hy2) ?_
  iterate 3 refine V rfl ?_
  refine AL.nil ?_
  refine AW.ret ?_
  cases hr
  exact endA.renK [(0,0)] 1 hS
 ·refine VF rfl (bF h1) ?_
  refine AL.off ?_
  refine AL.off ?_
  refine AL.off ?_
  refine AL.off ?_
  refine AL.off ?_
  iterate 2 refine V rfl ?_
  refine AL.nil ?_
  refine AW.ret ?_
  cases hr
  exact endA.renK [(0,0)] 1 hS
def q2Z:Nat→Expr→Int→Option Bool
  | 0,_,_=>none
  | n+1,a0,a1_0=>q2Y (q2Z n) a0 a1_0
def q4I (a0:Expr)(a1_0:Int):Option Bool:=recO fun n=>q2Z n a0 a1_0
theorem q8g (n:Nat):∀ {m:Md} {a0:Expr} {a1_0:Int} {r:Bool},q2Z n a0 a1_0=some r→Ok Tryz.prog 86 [Expr.x m a0,.fn 117 [.pb 0 0]] [.box [.d .fz (.i .i64 a1_0)]] (.d .fz (.b r)) [.box [.d .fz (.i .i64 a1_0)]]:=by
  induction n with
  | zero=>intro _ _ _ r hr; exact nomatch (show (none:Option Bool)=some r from hr)
  | succ n ih=>intro _ _ _ r hr; exact q8f ih hr
theorem q8y {m:Md}{a0:Expr}{a1_0:Int}{r:Bool}(hr:q4I a0 a1_0=some r):Ok Tryz.prog 86 [Expr.x m a0,.fn 117 [.pb 0 0]] [.box [.d .fz (.i .i64 a1_0)]] (.d .fz (.b r)) [.box [.d .fz (.i .i64 a1_0)]]:=by
  obtain⟨n,hn⟩:=q3M hr
  exact q8g n hn
end Go.Proofs.YtiojgbiimbefiabGreat
