/- What some functions of the program compute, as partial functions on plain data, and that they do; each lemma bears its conditions in its statement. -/
import Derived.Test.YtiojgbiimbefiabGreatLift4
set_option linter.unusedVariables false
set_option linter.unusedSimpArgs false
set_option linter.ambiguousOpen false
set_option linter.unusedSectionVars false
set_option linter.unnecessarySimpa false
set_option maxRecDepth 100000
set_option maxHeartbeats 40000000
noncomputable section
namespace Go.Proofs.YtiojgbiimbefiabGreat
open Go Go.E Go.A
def q9t (a0:Expr)(a1:Int):Option Bool:=
 (q4Q a0).bind fun y1=>
 if y1=true then (
 (q4I a0 a1).bind fun y2=>
 some y2
 ) else (
 some false
 )
theorem z3S {m:Md}{a0:Expr}{a1:Int}{r:Bool}(hr:q9t a0 a1=some r):Ok Tryz.prog 80 [Expr.x m a0,.d .fz (.i .i64 a1)] [] (.d .fz (.b r)) []:=by
 refine Ok.enter rfl Tryz.func80 rfl rfl rfl fun S hS=>?_
 unfold q9t at hr
 refine AW.seq (AW.regL ?_)
 refine BX 0 ?_
 refine BX 1 ?_
 refine V rfl ?_
 refine AL.nil ?_
 refine AW.seq (AW.regL ?_)
 refine V rfl ?_
 refine bdE hr fun y1 hy1 hr=>?_
 refine CB [] [] (z1S (m:=m) hy1) ?_
 refine ifE hr (fun h1 hr=>?_) fun h1 hr=>?_
 ·refine VT rfl h1 ?_
  iterate 2 refine V rfl ?_
  refine bdE hr fun y2 hy2 hr=>?_
  refine CB [(0,1)] [] (q8y (m:=m) hy2) ?_
  iterate 2 refine V rfl ?_
  refine AL.nil ?_
  refine AW.ret ?_
  cases hr
  exact endA.renK [] 0 hS
 ·refine VF rfl (bF h1) ?_
  refine AL.off ?_
  refine AL.off ?_
  refine AL.off ?_
  iterate 2 refine V rfl ?_
  refine AL.nil ?_
  refine AW.ret ?_
  cases hr
  exact endA.renK [] 0 hS
def q8z:Nat→ByteArray→Unit→Option (Unit ⊕ Bool):=fun k1 xk1 _=>
 (q1H xk1).bind fun y3=>
 if y3=true then (
 some (.inl ())
 ) else (
 some (.inr false)
 )
def q8A (a0:Rule):Nat→Equation→Unit→Option (Unit ⊕ Bool):=fun k2 xk2 _=>
 (q9t xk2.Expr (a0.Right.length:Int)).bind fun y4=>
 (
 if y4=true then (
 (q1H xk2.At.Name).bind fun y5=>
 some (!y5)
 ) else (
 some true
 )
 ).bind fun s4=>
 (
 if s4=true then (
 some true
 ) else (
 (q1Z xk2.At.Pos 0 (a0.Right.length:Int)).bind fun y6=>
 some (!y6)
 )
 ).bind fun s5=>
 if s5=true then (
 some (.inr false)
 ) else (
 some (.inl ())
 )
def q8B (a0:Rule):Nat→Contribution→Unit→Option (Unit ⊕ Bool):=fun k3 xk3 _=>
 (q9t xk3.Target (a0.Right.length:Int)).bind fun y7=>
 (
 if y7=true then (
 (q9t xk3.Value (a0.Right.length:Int)).bind fun y8=>
 some (!y8)
 ) else (
 some true
 )
 ).bind fun s6=>
 (
 if s6=true then (
 some true
 ) else (
 (q1H xk3.Symbol).bind fun y9=>
 some (!y9)
 )
 ).bind fun s7=>
 (
 if s7=true then (
 some true
 ) else (
 (q1H xk3.Name).bind fun y10=>
 some (!y10)
 )
 ).bind fun s8=>
 if s8=true then (
 some (.inr false)
 ) else (
 some (.inl ())
 )
def q4R (a0:Rule):Option Bool:=
 (q1H a0.Name).bind fun y1=>
 (
 if y1=true then (
 (q1H a0.Left).bind fun y2=>
 some (!y2)
 ) else (
 some true
 )
 ).bind fun s1=>
 (
 if s1=true then (
 some true
 ) else (
 some (decide (3 < (a0.Right.length:Int)))
 )
 ).bind fun s2=>
 (
 if s2=true then (
 some true
 ) else (
 some (decide (2 < (a0.Contributions.length:Int)))
 )
 ).bind fun s3=>
 if s3=true then (
 some false
 ) else (
 (findL q8z 0 a0.Right ()).bind <| onr (fun r1=>some r1) fun _=>
 (findL (q8A a0) 0 a0.Equations ()).bind <| onr (fun r2=>some r2) fun _=>
 (findL (q8B a0) 0 a0.Contributions ()).bind <| onr (fun r3=>some r3) fun _=>
 some true
 )
theorem z1T {m:Md}{a0:Rule}{r:Bool}(hr:q4R a0=some r):Ok Tryz.prog 41 [Rule.x m a0] [] (.d .fz (.b r)) []:=by
 refine Ok.enter rfl Tryz.func41 rfl rfl rfl fun S hS=>?_
 unfold q4R at hr
 refine AW.seq (AW.regL ?_)
 refine BX 0 ?_
 refine V rfl ?_
 refine AL.nil ?_
 refine AW.seq (AW.regL ?_)
 iterate 2 refine V rfl ?_
 refine LF ?_
 refine V rfl ?_
 refine AL.nil ?_
 refine AW.seq (AW.seq (AW.regL ?_))
 iterate 2 refine V rfl ?_
 refine bdE hr fun y1 hy1 hr=>?_
 refine CB [] [] (q2i hy1) ?_
 refine V rfl ?_
 refine bdE hr fun s1 hqq1 hr=>?_
 refine AL.meet1 6 [(1,.pb 0 0),(3,.d .fz (.i .i64 (a0.Right.length:Int))),(22,.d .fz (.b s1))] ?_ ?_
 ·replace hr:=hqq1
  refine ifE hr (fun h1 hr=>?_) fun h1 hr=>?_
  ·refine VF rfl (bnF h1) ?_
   iterate 2 refine V rfl ?_
   refine bdE hr fun y2 hy2 hr=>?_
   refine CB [] [] (q2i hy2) ?_
   iterate 2 refine V rfl ?_
   refine AL.nil ?_
   cases hr
   exact q1i
  ·refine VT rfl (bnT h1) ?_
   refine AL.off ?_
   refine AL.off ?_
   refine AL.off ?_
   refine AL.off ?_
   refine V rfl ?_
   refine AL.nil ?_
   cases hr
   exact q1i
 ·refine bdE hr fun s2 hqq2 hr=>?_
  refine AL.meet1 4 [(1,.pb 0 0),(3,.d .fz (.i .i64 (a0.Right.length:Int))),(26,.d .fz (.b s2))] ?_ ?_
  ·replace hr:=hqq2
   refine ifE hr (fun h2 hr=>?_) fun h2 hr=>?_
   ·refine VT rfl h2 ?_
    refine AL.off ?_
    refine AL.off ?_
    refine V rfl ?_
    refine AL.nil ?_
    cases hr
    exact q1i
   ·refine VF rfl (bF h2) ?_
    iterate 3 refine V rfl ?_
    refine AL.nil ?_
    cases hr
    exact q1i
  ·refine bdE hr fun s3 hqq3 hr=>?_
   refine AL.meet1 6 [(1,.pb 0 0),(3,.d .fz (.i .i64 (a0.Right.length:Int))),(32,.d .fz (.b s3))] ?_ ?_
   ·replace hr:=hqq3
    refine ifE hr (fun h3 hr=>?_) fun h3 hr=>?_
    ·refine VT rfl h3 ?_
     refine AL.off ?_
     refine AL.off ?_
     refine AL.off ?_
     refine AL.off ?_
     refine V rfl ?_
     refine AL.nil ?_
     cases hr
     exact q1i
    ·refine VF rfl (bF h3) ?_
     iterate 2 refine V rfl ?_
     refine LF ?_
     iterate 2 refine V rfl ?_
     refine AL.nil ?_
     cases hr
     exact q1i
   ·refine AL.nil ?_
    refine ifE hr (fun h4 hr=>?_) fun h4 hr=>?_
    ·refine AW.cT rfl h4 ?_
     refine AW.seq (AW.regL ?_)
     refine V rfl ?_
     refine AL.nil ?_
     refine AW.ret ?_
     cases hr
     exact endA.renK [] 0 hS
    ·refine AW.cF rfl (bF h4) ?_
     refine AW.skip ?_
     refine AW.seq (AW.seq (AW.regL ?_))
     iterate 2 refine V rfl ?_
     refine LF ?_
     refine V rfl ?_
     refine AL.nil ?_
     refine AW.block ?_
     refine AW.len (.tmp 34 rfl) fun hl1=>?_
     refine bdE hr fun q4 hqq4 hr=>?_
     refine AW.findL hqq4 hl1 1 (fun k1 _=>[(1,.pb 0 0),(3,.d .fz (.i .i64 (a0.Right.length:Int))),(34,.d m (.sl 1 (a0.Right.map A.D.s))),(35,.d .fz (.i .i64 (a0.Right.length:Int))),(36,.d .fz (.i .i64 (k1:Int)))]) (fun k1 _=>[]) (GH.renK hS [(0,0)] 1) (fun k1 xk1 sk1 ok1 hxk1 hr hltk1 hik1=>?_) fun k1 sk1 ek1 hltk1=>?_
     ·refine AW.seq (AW.regL ?_)
      refine V rfl ?_
      refine AL.nil ?_
      refine AW.seq (AW.cT rfl (dT hltk1) ?_)
      refine AW.skip ?_
      refine AW.seq (AW.block (AW.seq (AW.regL ?_)))
      refine IF (Int.natCast_nonneg _) hxk1 ?_
      iterate 2 refine V rfl ?_
      refine AL.nil ?_
      refine AW.seq (AW.regL ?_)
      refine V rfl ?_
      refine bdE hr fun y3 hy3 hr=>?_
      refine CB [] [] (q2i hy3) ?_
      refine V rfl ?_
      refine AL.nil ?_
      refine ifE hr (fun h5 hr=>?_) fun h5 hr=>?_
      ·refine AW.cF rfl (bnF h5) ?_
       refine AW.skip ?_
       refine AW.regL ?_
       refine OB _ (q1X (p:=k1) (q:=1) (q1h hltk1 hl1)) ?_
       refine V rfl ?_
       refine AL.nil ?_
       cases hr
       exact⟨_,rfl,GH.renK hS [(0,0)] 1⟩
      ·refine AW.cT rfl (bnT h5) ?_
       refine AW.seq (AW.regL ?_)
       refine V rfl ?_
       refine AL.nil ?_
       refine AW.ret ?_
       cases hr
       cases hik1 _ rfl
       rename_i hr
       cases hr
       exact endA.renK [] 0 hS
     ·subst ek1
      refine AW.seq (AW.regL ?_)
      refine V rfl ?_
      refine AL.nil ?_
      refine AW.seq (AW.cF rfl (dF hltk1) ?_)
      refine AW.exit ?_
      refine AW.seq (AW.seq (AW.regL ?_))
      iterate 2 refine V rfl ?_
      refine LF ?_
      refine V rfl ?_
      refine AL.nil ?_
      refine AW.block ?_
      refine AW.len (.tmp 45 rfl) fun hl2=>?_
      refine bdE hr fun q5 hqq5 hr=>?_
      refine AW.findL hqq5 hl2 1 (fun k2 _=>[(1,.pb 0 0),(3,.d .fz (.i .i64 (a0.Right.length:Int))),(45,.d m (.sl 9 (a0.Equations.map Equation.D))),(46,.d .fz (.i .i64 (a0.Equations.length:Int))),(47,.d .fz (.i .i64 (k2:Int)))]) (fun k2 _=>[]) (GH.renK hS [(0,0)] 1) (fun k2 xk2 sk2 ok2 hxk2 hr hltk2 hik2=>?_) fun k2 sk2 ek2 hltk2=>?_
      ·refine AW.seq (AW.regL ?_)
       refine V rfl ?_
       refine AL.nil ?_
       refine AW.seq (AW.cT rfl (dT hltk2) ?_)
       refine AW.skip ?_
       refine AW.seq (AW.block (AW.seq (AW.regL ?_)))
       refine IF (Int.natCast_nonneg _) hxk2 ?_
       refine V rfl ?_
       refine NV 1 ?_
       refine SB ?_
       refine AL.nil ?_
       refine AW.seq (AW.regL ?_)
       iterate 3 refine V rfl ?_
       refine bdE hr fun y4 hy4 hr=>?_
       refine CB [] [] (z3S (m:=m) hy4) ?_
       refine V rfl ?_
       refine bdE hr fun s4 hqq6 hr=>?_
       refine AL.meet1 7 [(1,.pb 0 0),(3,.d .fz (.i .i64 (a0.Right.length:Int))),(7,.pb 1 0),(45,.d m (.sl 9 (a0.Equations.map Equation.D))),(46,.d .fz (.i .i64 (a0.Equations.length:Int))),(47,.d .fz (.i .i64 (k2:Int))),(62,.d .fz (.b s4))] ?_ ?_
       ·replace hr:=hqq6
        refine ifE hr (fun h6 hr=>?_) fun h6 hr=>?_
        ·refine VF rfl (bnF h6) ?_
         iterate 3 refine V rfl ?_
         refine bdE hr fun y5 hy5 hr=>?_
         refine CB [] [] (q2i hy5) ?_
         iterate 2 refine V rfl ?_
         refine AL.nil ?_
         cases hr
         exact q1i
        ·refine VT rfl (bnT h6) ?_
         refine AL.off ?_
         refine AL.off ?_
         refine AL.off ?_
         refine AL.off ?_
         refine AL.off ?_
         refine V rfl ?_
         refine AL.nil ?_
         cases hr
         exact q1i
       ·refine bdE hr fun s5 hqq7 hr=>?_
        refine AL.meet1 8 [(1,.pb 0 0),(3,.d .fz (.i .i64 (a0.Right.length:Int))),(45,.d m (.sl 9 (a0.Equations.map Equation.D))),(46,.d .fz (.i .i64 (a0.Equations.length:Int))),(47,.d .fz (.i .i64 (k2:Int))),(70,.d .fz (.b s5))] ?_ ?_
        ·replace hr:=hqq7
         refine ifE hr (fun h7 hr=>?_) fun h7 hr=>?_
         ·refine VT rfl h7 ?_
          refine AL.off ?_
          refine AL.off ?_
          refine AL.off ?_
          refine AL.off ?_
          refine AL.off ?_
          refine AL.off ?_
          refine V rfl ?_
          refine AL.nil ?_
          cases hr
          exact q1i
         ·refine VF rfl (bF h7) ?_
          iterate 4 refine V rfl ?_
          refine bdE hr fun y6 hy6 hr=>?_
          refine CB [] [] (q2p hy6) ?_
          iterate 2 refine V rfl ?_
          refine AL.nil ?_
          cases hr
          exact q1i
        ·refine AL.nil ?_
         refine ifE hr (fun h8 hr=>?_) fun h8 hr=>?_
         ·refine AW.cT rfl h8 ?_
          refine AW.seq (AW.regL ?_)
          refine V rfl ?_
          refine AL.nil ?_
          refine AW.ret ?_
          cases hr
          cases hik2 _ rfl
          rename_i hr
          cases hr
          exact endA.renK [] 0 hS
         ·refine AW.cF rfl (bF h8) ?_
          refine AW.skip ?_
          refine AW.regL ?_
          refine OB _ (q1X (p:=k2) (q:=1) (q1h hltk2 hl2)) ?_
          refine V rfl ?_
          refine AL.nil ?_
          cases hr
          exact⟨_,rfl,GH.renK hS [(0,0)] 1⟩
      ·subst ek2
       refine AW.seq (AW.regL ?_)
       refine V rfl ?_
       refine AL.nil ?_
       refine AW.seq (AW.cF rfl (dF hltk2) ?_)
       refine AW.exit ?_
       refine AW.seq (AW.seq (AW.regL ?_))
       iterate 2 refine V rfl ?_
       refine LF ?_
       refine V rfl ?_
       refine AL.nil ?_
       refine AW.block ?_
       refine AW.len (.tmp 73 rfl) fun hl3=>?_
       refine bdE hr fun q8 hqq8 hr=>?_
       refine AW.findL hqq8 hl3 1 (fun k3 _=>[(3,.d .fz (.i .i64 (a0.Right.length:Int))),(73,.d m (.sl 16 (a0.Contributions.map Contribution.D))),(74,.d .fz (.i .i64 (a0.Contributions.length:Int))),(75,.d .fz (.i .i64 (k3:Int)))]) (fun k3 _=>[]) (GH.renK hS [(0,0)] 1) (fun k3 xk3 sk3 ok3 hxk3 hr hltk3 hik3=>?_) fun k3 sk3 ek3 hltk3=>?_
       ·refine AW.seq (AW.regL ?_)
        refine V rfl ?_
        refine AL.nil ?_
        refine AW.seq (AW.cT rfl (dT hltk3) ?_)
        refine AW.skip ?_
        refine AW.seq (AW.block (AW.seq (AW.regL ?_)))
        refine IF (Int.natCast_nonneg _) hxk3 ?_
        refine V rfl ?_
        refine NV 1 ?_
        refine SB ?_
        refine AL.nil ?_
        refine AW.seq (AW.regL ?_)
        iterate 3 refine V rfl ?_
        refine bdE hr fun y7 hy7 hr=>?_
        refine CB [] [] (z3S (m:=m) hy7) ?_
        refine V rfl ?_
        refine bdE hr fun s6 hqq9 hr=>?_
        refine AL.meet1 7 [(3,.d .fz (.i .i64 (a0.Right.length:Int))),(9,.pb 1 0),(73,.d m (.sl 16 (a0.Contributions.map Contribution.D))),(74,.d .fz (.i .i64 (a0.Contributions.length:Int))),(75,.d .fz (.i .i64 (k3:Int))),(90,.d .fz (.b s6))] ?_ ?_
        ·replace hr:=hqq9
         refine ifE hr (fun h9 hr=>?_) fun h9 hr=>?_
         ·refine VF rfl (bnF h9) ?_
          iterate 3 refine V rfl ?_
          refine bdE hr fun y8 hy8 hr=>?_
          refine CB [] [] (z3S (m:=m) hy8) ?_
          iterate 2 refine V rfl ?_
          refine AL.nil ?_
          cases hr
          exact q1i
         ·refine VT rfl (bnT h9) ?_
          refine AL.off ?_
          refine AL.off ?_
          refine AL.off ?_
          refine AL.off ?_
          refine AL.off ?_
          refine V rfl ?_
          refine AL.nil ?_
          cases hr
          exact q1i
        ·refine bdE hr fun s7 hqq10 hr=>?_
         refine AL.meet1 6 [(3,.d .fz (.i .i64 (a0.Right.length:Int))),(9,.pb 1 0),(73,.d m (.sl 16 (a0.Contributions.map Contribution.D))),(74,.d .fz (.i .i64 (a0.Contributions.length:Int))),(75,.d .fz (.i .i64 (k3:Int))),(96,.d .fz (.b s7))] ?_ ?_
         ·replace hr:=hqq10
          refine ifE hr (fun h10 hr=>?_) fun h10 hr=>?_
          ·refine VT rfl h10 ?_
           refine AL.off ?_
           refine AL.off ?_
           refine AL.off ?_
           refine AL.off ?_
           refine V rfl ?_
           refine AL.nil ?_
           cases hr
           exact q1i
          ·refine VF rfl (bF h10) ?_
           iterate 2 refine V rfl ?_
           refine bdE hr fun y9 hy9 hr=>?_
           refine CB [] [] (q2i hy9) ?_
           iterate 2 refine V rfl ?_
           refine AL.nil ?_
           cases hr
           exact q1i
         ·refine bdE hr fun s8 hqq11 hr=>?_
          refine AL.meet1 6 [(3,.d .fz (.i .i64 (a0.Right.length:Int))),(73,.d m (.sl 16 (a0.Contributions.map Contribution.D))),(74,.d .fz (.i .i64 (a0.Contributions.length:Int))),(75,.d .fz (.i .i64 (k3:Int))),(102,.d .fz (.b s8))] ?_ ?_
          ·replace hr:=hqq11
           refine ifE hr (fun h11 hr=>?_) fun h11 hr=>?_
           ·refine VT rfl h11 ?_
            refine AL.off ?_
            refine AL.off ?_
            refine AL.off ?_
            refine AL.off ?_
            refine V rfl ?_
            refine AL.nil ?_
            cases hr
            exact q1i
           ·refine VF rfl (bF h11) ?_
            iterate 2 refine V rfl ?_
            refine bdE hr fun y10 hy10 hr=>?_
            refine CB [] [] (q2i hy10) ?_
            iterate 2 refine V rfl ?_
            refine AL.nil ?_
            cases hr
            exact q1i
          ·refine AL.nil ?_
           refine ifE hr (fun h12 hr=>?_) fun h12 hr=>?_
           ·refine AW.cT rfl h12 ?_
            refine AW.seq (AW.regL ?_)
            refine V rfl ?_
            refine AL.nil ?_
            refine AW.ret ?_
            cases hr
            cases hik3 _ rfl
            rename_i hr
            cases hr
            exact endA.renK [] 0 hS
           ·refine AW.cF rfl (bF h12) ?_
            refine AW.skip ?_
            refine AW.regL ?_
            refine OB _ (q1X (p:=k3) (q:=1) (q1h hltk3 hl3)) ?_
            refine V rfl ?_
            refine AL.nil ?_
            cases hr
            exact⟨_,rfl,GH.renK hS [(0,0)] 1⟩
       ·subst ek3
        refine AW.seq (AW.regL ?_)
        refine V rfl ?_
        refine AL.nil ?_
        refine AW.seq (AW.cF rfl (dF hltk3) ?_)
        refine AW.exit ?_
        refine AW.seq (AW.regL ?_)
        refine V rfl ?_
        refine AL.nil ?_
        refine AW.ret ?_
        cases hr
        exact endA.renK [] 0 hS
def q5v (a0:Rule)(a1:Rule):Option Bool:=
 some (decide (a0.Name=a1.Name))
theorem z0Z {m:Md}{m2:Md}{a0:Rule}{a1:Rule}{r:Bool}(hr:q5v a0 a1=some r):Ok Tryz.prog 43 [Rule.x m a0,.pb 0 0] [.box [.d .fz (.s a1.Name),.d .fz (.s a1.Left),.d m2 (.sl 1 (a1.Right.map A.D.s)),.d .fz (.b a1.Literal),.d m2 (.sl 9 (a1.Equations.map Equation.D)),.d m2 (.sl 16 (a1.Contributions.map Contribution.D))]] (.d .fz (.b r)) [.box [.d .fz (.s a1.Name),.d .fz (.s a1.Left),.d m2 (.sl 1 (a1.Right.map A.D.s)),.d .fz (.b a1.Literal),.d m2 (.sl 9 (a1.Equations.map Equation.D)),.d m2 (.sl 16 (a1.Contributions.map Contribution.D))]]:=by
 refine Ok.enter rfl Tryz.func43 rfl rfl rfl fun S hS=>?_
 unfold q5v at hr
 refine AW.seq (AW.regL ?_)
 refine BX 1 ?_
 refine V rfl ?_
 refine AL.nil ?_
 refine AW.seq (AW.regL ?_)
 iterate 6 refine V rfl ?_
 refine AL.nil ?_
 refine AW.ret ?_
 cases hr
 exact endA.renK [(0,0)] 1 hS
def q2S (a1_0:Rule):Nat→Rule→Unit→Option (Unit ⊕ Int):=fun k1 xk1 _=>
 (q5v xk1 a1_0).bind fun y1=>
 if y1=true then (
 some (.inr (k1:Int))
 ) else (
 some (.inl ())
 )
def q1S (a0:(List Rule))(a1_0:Rule):Option Int:=
 (findL (q2S a1_0) 0 a0 ()).bind <| onr (fun r1=>some r1) fun _=>
 some (-1)
theorem q4E {m:Md}{m2:Md}{a0:(List Rule)}{a1_0:Rule}{r:Int}(hr:q1S a0 a1_0=some r):Ok Tryz.prog 81 [.d m (.sl 6 (a0.map Rule.D)),.fn 43 [.pb 0 0]] [.box [.d .fz (.s a1_0.Name),.d .fz (.s a1_0.Left),.d m2 (.sl 1 (a1_0.Right.map A.D.s)),.d .fz (.b a1_0.Literal),.d m2 (.sl 9 (a1_0.Equations.map Equation.D)),.d m2 (.sl 16 (a1_0.Contributions.map Contribution.D))]] (.d .fz (.i .i64 r)) [.box [.d .fz (.s a1_0.Name),.d .fz (.s a1_0.Left),.d m2 (.sl 1 (a1_0.Right.map A.D.s)),.d .fz (.b a1_0.Literal),.d m2 (.sl 9 (a1_0.Equations.map Equation.D)),.d m2 (.sl 16 (a1_0.Contributions.map Contribution.D))]]:=by
 refine Ok.enter rfl Tryz.func81 rfl rfl rfl fun S hS=>?_
 unfold q1S at hr
 refine AW.seq (AW.regL ?_)
 refine V rfl ?_
 refine AL.nil ?_
 refine AW.seq (AW.seq (AW.regL ?_))
 refine V rfl ?_
 refine LF ?_
 refine V rfl ?_
 refine AL.nil ?_
 refine AW.block ?_
 refine AW.len (.tmp 0 rfl) fun hl1=>?_
 refine bdE hr fun q1 hqq1 hr=>?_
 refine AW.findL hqq1 hl1 1 (fun k1 _=>[(0,.d m (.sl 6 (a0.map Rule.D))),(1,.fn 43 [.pb 0 0]),(7,.d .fz (.i .i64 (a0.length:Int))),(8,.d .fz (.i .i64 (k1:Int)))]) (fun k1 _=>[]) (GH.renK hS [(0,0)] 1) (fun k1 xk1 sk1 ok1 hxk1 hr hltk1 hik1=>?_) fun k1 sk1 ek1 hltk1=>?_
 ·refine AW.seq (AW.regL ?_)
  refine V rfl ?_
  refine AL.nil ?_
  refine AW.seq (AW.cT rfl (dT hltk1) ?_)
  refine AW.skip ?_
  refine AW.seq (AW.block (AW.seq (AW.regL ?_)))
  iterate 2 refine V rfl ?_
  refine AL.nil ?_
  refine AW.seq (AW.regL ?_)
  iterate 3 refine V rfl ?_
  refine IF (Int.natCast_nonneg _) hxk1 ?_
  refine V rfl ?_
  refine bdE hr fun y1 hy1 hr=>?_
  refine CB [(0,0)] [] (z0Z (m:=m) (m2:=m2) hy1) ?_
  refine AL.nil ?_
  refine ifE hr (fun h1 hr=>?_) fun h1 hr=>?_
  ·refine AW.cT rfl h1 ?_
   refine AW.seq (AW.regL ?_)
   iterate 2 refine V rfl ?_
   refine AL.nil ?_
   refine AW.ret ?_
   cases hr
   cases hik1 _ rfl
   rename_i hr
   cases hr
   exact endA.renK [(0,0)] 1 hS
  ·refine AW.cF rfl (bF h1) ?_
   refine AW.skip ?_
   refine AW.regL ?_
   refine OB _ (q1X (p:=k1) (q:=1) (q1h hltk1 hl1)) ?_
   refine V rfl ?_
   refine AL.nil ?_
   cases hr
   exact⟨_,rfl,GH.renK hS [(0,0)] 1⟩
 ·subst ek1
  refine AW.seq (AW.regL ?_)
  refine V rfl ?_
  refine AL.nil ?_
  refine AW.seq (AW.cF rfl (dF hltk1) ?_)
  refine AW.exit ?_
  refine AW.seq (AW.regL ?_)
  refine V rfl ?_
  refine AL.nil ?_
  refine AW.ret ?_
  cases hr
  exact endA.renK [(0,0)] 1 hS
def q1I (a0:(List Rule))(a1_0:Rule):Option Bool:=
 (q1S a0 a1_0).bind fun y1=>
 some (decide (0≤y1))
theorem q4q {m:Md}{m2:Md}{a0:(List Rule)}{a1_0:Rule}{r:Bool}(hr:q1I a0 a1_0=some r):Ok Tryz.prog 42 [.d m (.sl 6 (a0.map Rule.D)),.fn 43 [.pb 0 0]] [.box [.d .fz (.s a1_0.Name),.d .fz (.s a1_0.Left),.d m2 (.sl 1 (a1_0.Right.map A.D.s)),.d .fz (.b a1_0.Literal),.d m2 (.sl 9 (a1_0.Equations.map Equation.D)),.d m2 (.sl 16 (a1_0.Contributions.map Contribution.D))]] (.d .fz (.b r)) [.box [.d .fz (.s a1_0.Name),.d .fz (.s a1_0.Left),.d m2 (.sl 1 (a1_0.Right.map A.D.s)),.d .fz (.b a1_0.Literal),.d m2 (.sl 9 (a1_0.Equations.map Equation.D)),.d m2 (.sl 16 (a1_0.Contributions.map Contribution.D))]]:=by
 refine Ok.enter rfl Tryz.func42 rfl rfl rfl fun S hS=>?_
 unfold q1I at hr
 refine AW.seq (AW.regL ?_)
 refine V rfl ?_
 refine AL.nil ?_
 refine AW.seq (AW.regL ?_)
 iterate 2 refine V rfl ?_
 refine bdE hr fun y1 hy1 hr=>?_
 refine CB [(0,0)] [] (q4E (m:=m) (m2:=m2) hy1) ?_
 iterate 2 refine V rfl ?_
 refine AL.nil ?_
 refine AW.ret ?_
 cases hr
 exact endA.renK [(0,0)] 1 hS
def q5Y (a0:Grammar):Nat→Symbol→Unit→Option (Unit ⊕ Int):=fun k1 xk1 _=>
 (q4k xk1).bind fun y1=>
 if y1=true then (
 grd (k1≤a0.Symbols.length) <|
 (q1E (a0.Symbols.take k1) xk1).bind fun y2=>
 if y2=true then (
 some (.inr (k1:Int))
 ) else (
 some (.inl ())
 )
 ) else (
 some (.inr (k1:Int))
 )
def q5Z (a0:Grammar):Nat→Rule→Unit→Option (Unit ⊕ Int):=fun k2 xk2 _=>
 (q4R xk2).bind fun y3=>
 if y3=true then (
 grd (k2≤a0.Rules.length) <|
 (q1I (a0.Rules.take k2) xk2).bind fun y4=>
 if y4=true then (
 some (.inr (k2:Int))
 ) else (
 some (.inl ())
 )
 ) else (
 some (.inr (k2:Int))
 )
def q5w (a0:Grammar):Option Int:=
 (findL (q5Y a0) 0 a0.Symbols ()).bind <| onr (fun r1=>some r1) fun _=>
 (findL (q5Z a0) 0 a0.Rules ()).bind <| onr (fun r2=>some r2) fun _=>
 some (-1)
theorem z2A {m:Md}{a0:Grammar}{r:Int}(hr:q5w a0=some r):Ok Tryz.prog 16 [Grammar.x m a0] [] (.d .fz (.i .i64 r)) []:=by
 refine Ok.enter rfl Tryz.func16 rfl rfl rfl fun S hS=>?_
 unfold q5w at hr
 refine AW.seq (AW.regL ?_)
 refine BX 0 ?_
 refine V rfl ?_
 refine AL.nil ?_
 refine AW.seq (AW.seq (AW.regL ?_))
 iterate 2 refine V rfl ?_
 refine LF ?_
 refine V rfl ?_
 refine AL.nil ?_
 refine AW.block ?_
 refine AW.len (.ag 0 (.tmp 0 rfl) rfl) fun hl1=>?_
 refine bdE hr fun q1 hqq1 hr=>?_
 refine AW.findL hqq1 hl1 1 (fun k1 _=>[(1,.pb 0 0),(8,.d m (.sl 2 (a0.Symbols.map Symbol.D))),(9,.d .fz (.i .i64 (a0.Symbols.length:Int))),(10,.d .fz (.i .i64 (k1:Int)))]) (fun k1 _=>[]) (GH.renK hS [(0,0)] 1) (fun k1 xk1 sk1 ok1 hxk1 hr hltk1 hik1=>?_) fun k1 sk1 ek1 hltk1=>?_
 ·refine AW.seq (AW.regL ?_)
  refine V rfl ?_
  refine AL.nil ?_
  refine AW.seq (AW.cT rfl (dT hltk1) ?_)
  refine AW.skip ?_
  refine AW.seq (AW.block (AW.seq (AW.regL ?_)))
  refine V rfl ?_
  refine IF (Int.natCast_nonneg _) hxk1 ?_
  refine V rfl ?_
  refine NV 1 ?_
  refine V rfl ?_
  refine SB ?_
  refine AL.nil ?_
  refine AW.seq (AW.regL ?_)
  refine V rfl ?_
  refine bdE hr fun y1 hy1 hr=>?_
  refine CB [] [] (z0q (m:=m) hy1) ?_
  refine V rfl ?_
  refine ifE hr (fun h1 hr=>?_) fun h1 hr=>?_
  ·refine VF rfl (bnF h1) ?_
   iterate 3 refine V rfl ?_
   refine ggE hr fun g1 hr=>?_
   refine SLH (Int.natCast_nonneg _) g1 ?_
   refine V rfl ?_
   refine bdE hr fun y2 hy2 hr=>?_
   refine CB [(0,1)] [] (q4d (m:=m) (m2:=m) hy2) ?_
   refine V rfl ?_
   refine AL.nil ?_
   refine ifE hr (fun h2 hr=>?_) fun h2 hr=>?_
   ·refine AW.cT rfl h2 ?_
    refine AW.seq (AW.regL ?_)
    iterate 2 refine V rfl ?_
    refine AL.nil ?_
    refine AW.ret ?_
    cases hr
    cases hik1 _ rfl
    rename_i hr
    cases hr
    exact endA.renK [] 0 hS
   ·refine AW.cF rfl (bF h2) ?_
    refine AW.skip ?_
    refine AW.regL ?_
    refine OB _ (q1X (p:=k1) (q:=1) (q1h hltk1 hl1)) ?_
    refine V rfl ?_
    refine AL.nil ?_
    cases hr
    exact⟨_,rfl,GH.renK hS [(0,0)] 1⟩
  ·refine VT rfl (bnT h1) ?_
   refine AL.off ?_
   refine AL.off ?_
   refine AL.off ?_
   refine AL.off ?_
   refine AL.off ?_
   refine AL.off ?_
   refine V rfl ?_
   refine AL.nil ?_
   refine AW.cT rfl rfl ?_
   refine AW.seq (AW.regL ?_)
   iterate 2 refine V rfl ?_
   refine AL.nil ?_
   refine AW.ret ?_
   cases hr
   cases hik1 _ rfl
   rename_i hr
   cases hr
   exact endA.renK [] 0 hS
 ·subst ek1
  refine AW.seq (AW.regL ?_)
  refine V rfl ?_
  refine AL.nil ?_
  refine AW.seq (AW.cF rfl (dF hltk1) ?_)
  refine AW.exit ?_
  refine AW.seq (AW.seq (AW.regL ?_))
  iterate 2 refine V rfl ?_
  refine LF ?_
  refine V rfl ?_
  refine AL.nil ?_
  refine AW.block ?_
  refine AW.len (.tmp 29 rfl) fun hl2=>?_
  refine bdE hr fun q2 hqq2 hr=>?_
  refine AW.findL hqq2 hl2 1 (fun k2 _=>[(1,.pb 0 0),(29,.d m (.sl 6 (a0.Rules.map Rule.D))),(30,.d .fz (.i .i64 (a0.Rules.length:Int))),(31,.d .fz (.i .i64 (k2:Int)))]) (fun k2 _=>[]) (GH.renK hS [(0,0)] 1) (fun k2 xk2 sk2 ok2 hxk2 hr hltk2 hik2=>?_) fun k2 sk2 ek2 hltk2=>?_
  ·refine AW.seq (AW.regL ?_)
   refine V rfl ?_
   refine AL.nil ?_
   refine AW.seq (AW.cT rfl (dT hltk2) ?_)
   refine AW.skip ?_
   refine AW.seq (AW.block (AW.seq (AW.regL ?_)))
   refine V rfl ?_
   refine IF (Int.natCast_nonneg _) hxk2 ?_
   refine V rfl ?_
   refine NV 1 ?_
   refine V rfl ?_
   refine SB ?_
   refine AL.nil ?_
   refine AW.seq (AW.regL ?_)
   refine V rfl ?_
   refine bdE hr fun y3 hy3 hr=>?_
   refine CB [] [] (z1T (m:=m) hy3) ?_
   refine V rfl ?_
   refine ifE hr (fun h3 hr=>?_) fun h3 hr=>?_
   ·refine VF rfl (bnF h3) ?_
    iterate 3 refine V rfl ?_
    refine ggE hr fun g2 hr=>?_
    refine SLH (Int.natCast_nonneg _) g2 ?_
    refine V rfl ?_
    refine bdE hr fun y4 hy4 hr=>?_
    refine CB [(0,1)] [] (q4q (m:=m) (m2:=m) hy4) ?_
    refine V rfl ?_
    refine AL.nil ?_
    refine ifE hr (fun h4 hr=>?_) fun h4 hr=>?_
    ·refine AW.cT rfl h4 ?_
     refine AW.seq (AW.regL ?_)
     iterate 2 refine V rfl ?_
     refine AL.nil ?_
     refine AW.ret ?_
     cases hr
     cases hik2 _ rfl
     rename_i hr
     cases hr
     exact endA.renK [] 0 hS
    ·refine AW.cF rfl (bF h4) ?_
     refine AW.skip ?_
     refine AW.regL ?_
     refine OB _ (q1X (p:=k2) (q:=1) (q1h hltk2 hl2)) ?_
     refine V rfl ?_
     refine AL.nil ?_
     cases hr
     exact⟨_,rfl,GH.renK hS [(0,0)] 1⟩
   ·refine VT rfl (bnT h3) ?_
    refine AL.off ?_
    refine AL.off ?_
    refine AL.off ?_
    refine AL.off ?_
    refine AL.off ?_
    refine AL.off ?_
    refine V rfl ?_
    refine AL.nil ?_
    refine AW.cT rfl rfl ?_
    refine AW.seq (AW.regL ?_)
    iterate 2 refine V rfl ?_
    refine AL.nil ?_
    refine AW.ret ?_
    cases hr
    cases hik2 _ rfl
    rename_i hr
    cases hr
    exact endA.renK [] 0 hS
  ·subst ek2
   refine AW.seq (AW.regL ?_)
   refine V rfl ?_
   refine AL.nil ?_
   refine AW.seq (AW.cF rfl (dF hltk2) ?_)
   refine AW.exit ?_
   refine AW.seq (AW.regL ?_)
   refine V rfl ?_
   refine AL.nil ?_
   refine AW.ret ?_
   cases hr
   exact endA.renK [] 0 hS
def q5x (a0:Attribute):Option Bool:=
 some (decide (a0.Mode=1))
theorem z1a {a0:Attribute}{r:Bool}(hr:q5x a0=some r):Ok Tryz.prog 18 [Attribute.x .fz a0] [] (.d .fz (.b r)) []:=by
 refine Ok.enter rfl Tryz.func18 rfl rfl rfl fun S hS=>?_
 unfold q5x at hr
 refine AW.seq (AW.regL ?_)
 refine BX 0 ?_
 refine V rfl ?_
 refine AL.nil ?_
 refine AW.seq (AW.regL ?_)
 iterate 4 refine V rfl ?_
 refine AL.nil ?_
 refine AW.ret ?_
 cases hr
 exact endA.renK [] 0 hS
def q2B:Nat→Attribute→Unit→Option (Unit ⊕ Int):=fun k1 xk1 _=>
 (q5x xk1).bind fun y1=>
 if y1=true then (
 some (.inr (k1:Int))
 ) else (
 some (.inl ())
 )
def q1F (a0:(List Attribute)):Option Int:=
 (findL q2B 0 a0 ()).bind <| onr (fun r1=>some r1) fun _=>
 some (-1)
theorem q4e {m:Md}{a0:(List Attribute)}{r:Int}(hr:q1F a0=some r):Ok Tryz.prog 44 [.d m (.sl 4 (a0.map Attribute.D)),.fn 18 []] [] (.d .fz (.i .i64 r)) []:=by
 refine Ok.enter rfl Tryz.func44 rfl rfl rfl fun S hS=>?_
 unfold q1F at hr
 refine AW.seq (AW.regL ?_)
 refine V rfl ?_
 refine AL.nil ?_
 refine AW.seq (AW.seq (AW.regL ?_))
 refine V rfl ?_
 refine LF ?_
 refine V rfl ?_
 refine AL.nil ?_
 refine AW.block ?_
 refine AW.len (.tmp 0 rfl) fun hl1=>?_
 refine bdE hr fun q1 hqq1 hr=>?_
 refine AW.findL hqq1 hl1 0 (fun k1 _=>[(0,.d m (.sl 4 (a0.map Attribute.D))),(1,.fn 18 []),(7,.d .fz (.i .i64 (a0.length:Int))),(8,.d .fz (.i .i64 (k1:Int)))]) (fun k1 _=>[]) (GH.renK hS [] 0) (fun k1 xk1 sk1 ok1 hxk1 hr hltk1 hik1=>?_) fun k1 sk1 ek1 hltk1=>?_
 ·refine AW.seq (AW.regL ?_)
  refine V rfl ?_
  refine AL.nil ?_
  refine AW.seq (AW.cT rfl (dT hltk1) ?_)
  refine AW.skip ?_
  refine AW.seq (AW.block (AW.seq (AW.regL ?_)))
  iterate 2 refine V rfl ?_
  refine AL.nil ?_
  refine AW.seq (AW.regL ?_)
  iterate 3 refine V rfl ?_
  refine IF (Int.natCast_nonneg _) hxk1 ?_
  refine V rfl ?_
  refine bdE hr fun y1 hy1 hr=>?_
  refine CB [] [] (z1a hy1) ?_
  refine AL.nil ?_
  refine ifE hr (fun h1 hr=>?_) fun h1 hr=>?_
  ·refine AW.cT rfl h1 ?_
   refine AW.seq (AW.regL ?_)
   iterate 2 refine V rfl ?_
   refine AL.nil ?_
   refine AW.ret ?_
   cases hr
   cases hik1 _ rfl
   rename_i hr
   cases hr
   exact endA.renK [] 0 hS
  ·refine AW.cF rfl (bF h1) ?_
   refine AW.skip ?_
   refine AW.regL ?_
   refine OB _ (q1X (p:=k1) (q:=1) (q1h hltk1 hl1)) ?_
   refine V rfl ?_
   refine AL.nil ?_
   cases hr
   exact⟨_,rfl,GH.renK hS [] 0⟩
 ·subst ek1
  refine AW.seq (AW.regL ?_)
  refine V rfl ?_
  refine AL.nil ?_
  refine AW.seq (AW.cF rfl (dF hltk1) ?_)
  refine AW.exit ?_
  refine AW.seq (AW.regL ?_)
  refine V rfl ?_
  refine AL.nil ?_
  refine AW.ret ?_
  cases hr
  exact endA.renK [] 0 hS
def q1x (a0:(List Attribute)):Option Bool:=
 (q1F a0).bind fun y1=>
 some (decide (0≤y1))
theorem q3H {m:Md}{a0:(List Attribute)}{r:Bool}(hr:q1x a0=some r):Ok Tryz.prog 17 [.d m (.sl 4 (a0.map Attribute.D)),.fn 18 []] [] (.d .fz (.b r)) []:=by
 refine Ok.enter rfl Tryz.func17 rfl rfl rfl fun S hS=>?_
 unfold q1x at hr
 refine AW.seq (AW.regL ?_)
 refine V rfl ?_
 refine AL.nil ?_
 refine AW.seq (AW.regL ?_)
 iterate 2 refine V rfl ?_
 refine bdE hr fun y1 hy1 hr=>?_
 refine CB [] [] (q4e (m:=m) hy1) ?_
 iterate 2 refine V rfl ?_
 refine AL.nil ?_
 refine AW.ret ?_
 cases hr
 exact endA.renK [] 0 hS
def q4B (a0:Rule)(a1:Int):Option ByteArray:=
 if a1=0 then (
 some a0.Left
 ) else (
 (q1Z a1 1 (a0.Right.length:Int)).bind fun y1=>
 if y1=true then (
 grd (I64 (a1 - 1)) <|
 grd (0≤(a1 - 1)) <|
 (a0.Right[(a1 - 1).toNat]?).bind fun x1=>
 some x1
 ) else (
 some (⟨#[]⟩:ByteArray)
 )
 )
theorem q8C {m:Md}{a0:Rule}{a1:Int}{r:ByteArray}(hr:q4B a0 a1=some r):Ok Tryz.prog 46 [Rule.x m a0,.d .fz (.i .i64 a1)] [] (.d .fz (.s r)) []:=by
 refine Ok.enter rfl Tryz.func46 rfl rfl rfl fun S hS=>?_
 unfold q4B at hr
 refine AW.seq (AW.regL ?_)
 refine BX 0 ?_
 refine V rfl ?_
 refine AL.nil ?_
 refine AW.seq (AW.block (AW.seq (AW.regL ?_)))
 iterate 3 refine V rfl ?_
 refine AL.nil ?_
 refine ifE hr (fun h1 hr=>?_) fun h1 hr=>?_
 ·refine AW.cT rfl (dT h1) ?_
  refine AW.seq (AW.regL ?_)
  iterate 3 refine V rfl ?_
  refine AL.nil ?_
  refine AW.ret ?_
  cases hr
  exact endA.renK [] 0 hS
 ·refine AW.cF rfl (dF h1) ?_
  refine AW.seq (AW.regL ?_)
  iterate 3 refine V rfl ?_
  refine LF ?_
  refine bdE hr fun y1 hy1 hr=>?_
  refine CB [] [] (q2p hy1) ?_
  refine V rfl ?_
  refine AL.nil ?_
  refine ifE hr (fun h2 hr=>?_) fun h2 hr=>?_
  ·refine AW.cT rfl h2 ?_
   refine AW.seq (AW.regL ?_)
   iterate 3 refine V rfl ?_
   refine ggE hr fun g1 hr=>?_
   refine OB _ (bSub g1) ?_
   refine ggE hr fun g2 hr=>?_
   refine bdE hr fun x1 hx1 hr=>?_
   refine IF g2 hx1 ?_
   iterate 2 refine V rfl ?_
   refine AL.nil ?_
   refine AW.ret ?_
   cases hr
   exact endA.renK [] 0 hS
  ·refine AW.cF rfl (bF h2) ?_
   refine AW.skip ?_
   refine AW.seq (AW.regL ?_)
   refine V rfl ?_
   refine AL.nil ?_
   refine AW.ret ?_
   cases hr
   exact endA.renK [] 0 hS
def q7s (a1:ByteArray):Nat→Symbol→Unit→Option (Unit ⊕ (Symbol × Bool)):=fun k1 xk1 _=>
 if xk1.Name=a1 then (
 some (.inr (xk1,true))
 ) else (
 some (.inl ())
 )
def q4f (a0:Grammar)(a1:ByteArray):Option (Symbol × Bool):=
 (findL (q7s a1) 0 a0.Symbols ()).bind <| onr (fun r1=>some r1) fun _=>
 some ((⟨(⟨#[]⟩:ByteArray),[]⟩:Symbol),false)
theorem q7t {m:Md}{a0:Grammar}{a1:ByteArray}{r:(Symbol × Bool)}(hr:q4f a0 a1=some r):Ok Tryz.prog 45 [Grammar.y m a0,.d .fz (.s a1)] [] (.tu [Symbol.x m r.1,.d .fz (.b r.2)]) []:=by
 refine Ok.enter rfl Tryz.func45 rfl rfl rfl fun S hS=>?_
 unfold q4f at hr
 refine AW.seq (AW.regL ?_)
 refine BX 0 ?_
 refine NV 1 ?_
 refine V rfl ?_
 refine AL.nil ?_
 refine AW.seq (AW.seq (AW.regL ?_))
 iterate 2 refine V rfl ?_
 refine LF ?_
 refine V rfl ?_
 refine AL.nil ?_
 refine AW.block ?_
 refine AW.len (.ag 0 (.tmp 0 rfl) rfl) fun hl1=>?_
 refine bdE hr fun q1 hqq1 hr=>?_
 refine AW.findL hqq1 hl1 2 (fun k1 _=>[(1,.d .fz (.s a1)),(4,.pb 1 0),(9,.d m (.sl 2 (a0.Symbols.map Symbol.D))),(10,.d .fz (.i .i64 (a0.Symbols.length:Int))),(11,.d .fz (.i .i64 (k1:Int)))]) (fun k1 _=>[]) (GH.trans (GH.bw (q:=0) [.d m (.sl 2 (a0.Symbols.map Symbol.D)),.u] (.cons .rfl (.cons .u .nil)) rfl) (GH.renK hS [(0,0),(1,1)] 2)) (fun k1 xk1 sk1 ok1 hxk1 hr hltk1 hik1=>?_) fun k1 sk1 ek1 hltk1=>?_
 ·refine AW.seq (AW.regL ?_)
  refine V rfl ?_
  refine AL.nil ?_
  refine AW.seq (AW.cT rfl (dT hltk1) ?_)
  refine AW.skip ?_
  refine AW.seq (AW.block (AW.seq (AW.regL ?_)))
  refine IF (Int.natCast_nonneg _) hxk1 ?_
  refine V rfl ?_
  refine NV 2 ?_
  refine SB ?_
  refine AL.nil ?_
  refine AW.seq (AW.regL ?_)
  iterate 4 refine V rfl ?_
  refine AL.nil ?_
  refine ifE hr (fun h1 hr=>?_) fun h1 hr=>?_
  ·refine AW.cT rfl (dT h1) ?_
   refine AW.seq (AW.regL ?_)
   refine V rfl ?_
   refine SB ?_
   refine V rfl ?_
   refine AL.nil ?_
   refine AW.ret ?_
   cases hr
   cases hik1 _ rfl
   rename_i hr
   cases hr
   exact endA.renK [] 0 hS
  ·refine AW.cF rfl (dF h1) ?_
   refine AW.skip ?_
   refine AW.regL ?_
   refine OB _ (q1X (p:=k1) (q:=1) (q1h hltk1 hl1)) ?_
   refine V rfl ?_
   refine AL.nil ?_
   cases hr
   exact⟨_,rfl,GH.trans (GH.bw (q:=0) [.d m (.sl 2 (a0.Symbols.map Symbol.D)),.u] (.cons .rfl (.cons .u .nil)) rfl) (GH.renK hS [(0,0),(1,1)] 2)⟩
 ·subst ek1
  refine AW.seq (AW.regL ?_)
  refine V rfl ?_
  refine AL.nil ?_
  refine AW.seq (AW.cF rfl (dF hltk1) ?_)
  refine AW.exit ?_
  refine AW.seq (AW.regL ?_)
  refine V rfl ?_
  refine SB ?_
  refine V rfl ?_
  refine AL.nil ?_
  refine AW.ret ?_
  cases hr
  exact endA.ren [] 0 (.inr rfl) hS rfl rfl rfl (.tu (.cons (.ag (.cons .rfl (.cons .nld .nil))) (.cons .rfl .nil))) rfl rfl
def z1U (a0:Grammar)(a1:Rule):Nat→Unit→Option (Unit ⊕ Bool):=fun k1 _=>
 (q4B a1 (k1:Int)).bind fun y1=>
 (q4f a0 y1).bind fun (y2,y3)=>
 if y3=true then (
 some (.inl ())
 ) else (
 some (.inr true)
 )
def q7I (a0:Grammar)(a1:Rule):Option Bool:=
 grd (I64 ((a1.Right.length+1:Nat):Int)) <|
 (findN (z1U a0 a1) 0 (a1.Right.length+1) ()).bind <| onr (fun r1=>some r1) fun _=>
 some false
theorem z6h {m:Md}{a0:Grammar}{a1:Rule}{r:Bool}(hr:q7I a0 a1=some r):Ok Tryz.prog 19 [Grammar.y m a0,Rule.x m a1] [] (.d .fz (.b r)) []:=by
 refine Ok.enter rfl Tryz.func19 rfl rfl rfl fun S hS=>?_
 unfold q7I at hr
 refine AW.seq (AW.regL ?_)
 refine BX 0 ?_
 refine BX 1 ?_
 refine V rfl ?_
 refine AL.nil ?_
 refine AW.seq (AW.seq (AW.regL ?_))
 iterate 2 refine V rfl ?_
 refine LF ?_
 refine ggE hr fun g1 hr=>?_
 refine OB _ (q1X (p:=a1.Right.length) (q:=1) g1) ?_
 refine V rfl ?_
 refine AL.nil ?_
 refine AW.block ?_
 refine AW.rng (.tmp 11 rfl) fun hl1=>?_
 refine bdE hr fun q1 hqq1 hr=>?_
 refine AW.findN hqq1 2 (fun k1 _=>[(2,.pb 0 0),(3,.pb 1 0),(11,.d .fz (.i .i64 ((a1.Right.length+1:Nat):Int))),(12,.d .fz (.i .i64 (k1:Int)))]) (fun k1 _=>[]) (GH.trans (GH.bw (q:=0) [.d m (.sl 2 (a0.Symbols.map Symbol.D)),.u] (.cons .rfl (.cons .u .nil)) rfl) (GH.renK hS [(0,0),(1,1)] 2)) (fun k1 sk1 ok1 hr hltk1 hik1=>?_) fun sk1 ek1=>?_
 ·refine AW.seq (AW.regL ?_)
  refine V rfl ?_
  refine AL.nil ?_
  refine AW.seq (AW.cT rfl (dT (ltN hltk1)) ?_)
  refine AW.skip ?_
  refine AW.seq (AW.block (AW.seq (AW.regL ?_)))
  iterate 2 refine V rfl ?_
  refine AL.nil ?_
  refine AW.seq (AW.drawL (h:=?_))
  iterate 3 refine V rfl ?_
  refine bdE hr fun y1 hy1 hr=>?_
  refine CB [] [] (q8C (m:=m) hy1) ?_
  refine bdE hr fun q2 hq2 hr=>?_
  obtain⟨y2,y3⟩:=q2
  refine CB [] [] (q7t (m:=m) hq2) ?_
  iterate 3 refine V rfl ?_
  refine NV 2 ?_
  refine SB ?_
  refine V rfl ?_
  refine AL.nil ?_
  refine AW.seq (AW.regL ?_)
  iterate 2 refine V rfl ?_
  refine AL.nil ?_
  refine ifE hr (fun h1 hr=>?_) fun h1 hr=>?_
  ·refine AW.cF rfl (bnF h1) ?_
   refine AW.skip ?_
   refine AW.regL ?_
   refine OB _ (q1X (p:=k1) (q:=1) (q1h (ltN hltk1) hl1.2)) ?_
   refine V rfl ?_
   refine AL.nil ?_
   cases hr
   exact⟨_,rfl,GH.trans (GH.bw (q:=0) [.d m (.sl 2 (a0.Symbols.map Symbol.D)),.u] (.cons .rfl (.cons .u .nil)) rfl) (GH.renK hS [(0,0),(1,1)] 2)⟩
  ·refine AW.cT rfl (bnT h1) ?_
   refine AW.seq (AW.regL ?_)
   refine V rfl ?_
   refine AL.nil ?_
   refine AW.ret ?_
   cases hr
   cases hik1 _ rfl
   rename_i hr
   cases hr
   exact endA.renK [] 0 hS
 ·subst ek1
  refine AW.seq (AW.regL ?_)
  refine V rfl ?_
  refine AL.nil ?_
  refine AW.seq (AW.cF rfl (dF geN) ?_)
  refine AW.exit ?_
  refine AW.seq (AW.regL ?_)
  refine V rfl ?_
  refine AL.nil ?_
  refine AW.ret ?_
  cases hr
  exact endA.renK [] 0 hS
def q8D (k1:Nat)(s2:Int):Nat→Attribute→((List Occurrence))→Option ((List Occurrence)):=fun k2 xk2 s3=>
 (
 if xk2.Mode=s2 then (
 grd (((s3.length:Int)+1)*24≤140737488355328∧(s3.length:Int)+1≤9223372036854775807) <|
 some (s3++[(⟨(k1:Int),xk2.Name⟩:Occurrence)])
 ) else (
 some s3
 )
 ).bind fun s4=>
 some s4
def q8E (a0:Grammar)(a1:Rule):Nat→((List Occurrence))→Option ((List Occurrence)):=fun k1 s1=>
 (
 if (k1:Int)=0 then (
 some 2
 ) else (
 some 1
 )
 ).bind fun s2=>
 (q4B a1 (k1:Int)).bind fun y1=>
 (q4f a0 y1).bind fun (y2,y3)=>
 (eachL (q8D k1 s2) 0 y2.Attributes s1).bind fun s3=>
 some s3
def q5c (a0:Grammar)(a1:Rule):Option (List Occurrence):=
 grd (I64 ((a1.Right.length+1:Nat):Int)) <|
 (eachN (q8E a0 a1) 0 (a1.Right.length+1) ([]:List Occurrence)).bind fun s1=>
 some s1
theorem q8F {m:Md}{a0:Grammar}{a1:Rule}{r:(List Occurrence)}(hr:q5c a0 a1=some r):Ok Tryz.prog 26 [Grammar.y m a0,Rule.x m a1] [] (.ref 0 none) [.row .fz 2 (r.map Occurrence.D)]:=by
 refine Ok.enter rfl Tryz.func26 rfl rfl rfl fun S hS=>?_
 unfold q5c at hr
 refine AW.seq (AW.regL ?_)
 refine BX 0 ?_
 refine BX 1 ?_
 refine V rfl ?_
 refine AL.nil ?_
 refine AW.seq (AW.regL ?_)
 refine L0 2 Occurrence.D ?_
 refine V rfl ?_
 refine AL.nil ?_
 refine AW.seq (AW.seq (AW.regL ?_))
 iterate 2 refine V rfl ?_
 refine LF ?_
 refine ggE hr fun g1 hr=>?_
 refine OB _ (q1X (p:=a1.Right.length) (q:=1) g1) ?_
 refine V rfl ?_
 refine AL.nil ?_
 refine AW.block ?_
 refine AW.rng (.tmp 16 rfl) fun hl1=>?_
 refine bdE hr fun s1 hqq1 hr=>?_
 refine AW.eachN hqq1 3 (fun k1 s1=>[(2,.pb 0 0),(3,.pb 1 0),(5,.ref 2 none),(16,.d .fz (.i .i64 ((a1.Right.length+1:Nat):Int))),(17,.d .fz (.i .i64 (k1:Int)))]) (fun k1 s1=>[(2,.row .fz 2 (s1.map Occurrence.D))]) (GH.trans (GH.bw (q:=0) [.d m (.sl 2 (a0.Symbols.map Symbol.D)),.u] (.cons .rfl (.cons .u .nil)) rfl) (GH.renK hS [(0,0),(1,1),(2,2)] 3)) (fun k1 sk1 ok1 hr hltk1=>?_) ?_
 ·obtain⟨s1,rfl⟩:∃ y,y=sk1:=⟨_,rfl⟩
  refine AW.seq (AW.regL ?_)
  refine V rfl ?_
  refine AL.nil ?_
  refine AW.seq (AW.cT rfl (dT (ltN hltk1)) ?_)
  refine AW.skip ?_
  refine AW.seq (AW.block (AW.seq (AW.regL ?_)))
  iterate 2 refine V rfl ?_
  refine AL.nil ?_
  refine AW.seq (AW.regL ?_)
  refine V rfl ?_
  refine AL.nil ?_
  refine AW.seq (AW.seq (AW.regL ?_))
  iterate 2 refine V rfl ?_
  refine AL.nil ?_
  refine bdE hr fun s2 hqq2 hr=>?_
  refine AW.cut1 3 [(2,.pb 0 0),(3,.pb 1 0),(5,.ref 2 none),(6,.d .fz (.i .i64 (k1:Int))),(7,.d .fz (.i .i64 s2)),(16,.d .fz (.i .i64 ((a1.Right.length+1:Nat):Int))),(17,.d .fz (.i .i64 (k1:Int)))] [] ?_ ?_
  ·replace hr:=hqq2
   refine ifE hr (fun h1 hr=>?_) fun h1 hr=>?_
   ·refine AW.cT rfl (dT h1) ?_
    refine AW.regL ?_
    refine V rfl ?_
    refine AL.nil ?_
    cases hr
    exact GH.trans (GH.bw (q:=0) [.d m (.sl 2 (a0.Symbols.map Symbol.D)),.u] (.cons .rfl (.cons .u .nil)) rfl) (GH.renK hS [(0,0),(1,1),(2,2)] 3)
   ·refine AW.cF rfl (dF h1) ?_
    refine AW.skip ?_
    cases hr
    exact GH.trans (GH.bw (q:=0) [.d m (.sl 2 (a0.Symbols.map Symbol.D)),.u] (.cons .rfl (.cons .u .nil)) rfl) (GH.renK hS [(0,0),(1,1),(2,2)] 3)
  ·refine AW.seq (AW.drawL (h:=?_))
   iterate 3 refine V rfl ?_
   refine bdE hr fun y1 hy1 hr=>?_
   refine CB [] [] (q8C (m:=m) hy1) ?_
   refine bdE hr fun q3 hq3 hr=>?_
   obtain⟨y2,y3⟩:=q3
   refine CB [] [] (q7t (m:=m) hq3) ?_
   iterate 3 refine V rfl ?_
   refine NV 3 ?_
   refine SB ?_
   refine V rfl ?_
   refine AL.nil ?_
   refine AW.seq (AW.regL ?_)
   iterate 2 refine V rfl ?_
   refine LF ?_
   refine V rfl ?_
   refine AL.nil ?_
   refine AW.block ?_
   refine AW.len (.ag 1 (.tu 0 (.tmp 22 rfl) rfl) rfl) fun hl2=>?_
   refine bdE hr fun s3 hqq4 hr=>?_
   refine AW.eachL hqq4 hl2 4 (fun k2 s3=>[(2,.pb 0 0),(3,.pb 1 0),(5,.ref 2 none),(6,.d .fz (.i .i64 (k1:Int))),(7,.d .fz (.i .i64 s2)),(16,.d .fz (.i .i64 ((a1.Right.length+1:Nat):Int))),(17,.d .fz (.i .i64 (k1:Int))),(31,.d m (.sl 4 (y2.Attributes.map Attribute.D))),(32,.d .fz (.i .i64 (y2.Attributes.length:Int))),(33,.d .fz (.i .i64 (k2:Int)))]) (fun k2 s3=>[(2,.row .fz 2 (s3.map Occurrence.D))]) (GH.trans (GH.bw (q:=0) [.d m (.sl 2 (a0.Symbols.map Symbol.D)),.u] (.cons .rfl (.cons .u .nil)) rfl) (GH.renK hS [(0,0),(1,1),(2,2),(3,3)] 4)) (fun k2 xk2 sk2 ok2 hxk2 hr hltk2=>?_) fun k2 hltk2=>?_
   ·obtain⟨s3,rfl⟩:∃ y,y=sk2:=⟨_,rfl⟩
    refine AW.seq (AW.regL ?_)
    refine V rfl ?_
    refine AL.nil ?_
    refine AW.seq (AW.cT rfl (dT hltk2) ?_)
    refine AW.skip ?_
    refine bdE hr fun s4 hqq5 hr=>?_
    refine AW.seq (AW.cut1 4 [(2,.pb 0 0),(3,.pb 1 0),(5,.ref 2 none),(6,.d .fz (.i .i64 (k1:Int))),(7,.d .fz (.i .i64 s2)),(16,.d .fz (.i .i64 ((a1.Right.length+1:Nat):Int))),(17,.d .fz (.i .i64 (k1:Int))),(31,.d m (.sl 4 (y2.Attributes.map Attribute.D))),(32,.d .fz (.i .i64 (y2.Attributes.length:Int))),(33,.d .fz (.i .i64 (k2:Int)))] [(2,.row .fz 2 (s4.map Occurrence.D))] ?_ ?_)
    ·replace hr:=hqq5
     refine AW.block (AW.seq (AW.regL ?_))
     refine IF (Int.natCast_nonneg _) hxk2 ?_
     refine V rfl ?_
     refine NV 4 ?_
     refine SB ?_
     refine AL.nil ?_
     refine AW.seq (AW.regL ?_)
     iterate 4 refine V rfl ?_
     refine AL.nil ?_
     refine ifE hr (fun h2 hr=>?_) fun h2 hr=>?_
     ·refine AW.cT rfl (dT h2) ?_
      refine AW.regL ?_
      iterate 5 refine V rfl ?_
      refine LIR 5 (m:=.fz) (f:=Occurrence.D) (xs:=[(⟨(k1:Int),xk2.Name⟩:Occurrence)]) ?_
      refine ggE hr fun g2 hr=>?_
      refine APf1 (f:=Occurrence.D) 6 (fun _=>rfl) 24 g2 ?_
      refine V rfl ?_
      refine AL.nil ?_
      cases hr
      exact GH.trans (GH.bw (q:=0) [.d m (.sl 2 (a0.Symbols.map Symbol.D)),.u] (.cons .rfl (.cons .u .nil)) rfl) (GH.renK hS [(0,0),(1,1),(6,2),(3,3)] 4)
     ·refine AW.cF rfl (dF h2) ?_
      refine AW.skip ?_
      cases hr
      exact GH.trans (GH.bw (q:=0) [.d m (.sl 2 (a0.Symbols.map Symbol.D)),.u] (.cons .rfl (.cons .u .nil)) rfl) (GH.renK hS [(0,0),(1,1),(2,2),(3,3)] 4)
    ·refine AW.regL ?_
     refine OB _ (q1X (p:=k2) (q:=1) (q1h hltk2 hl2)) ?_
     refine V rfl ?_
     refine AL.nil ?_
     cases hr
     exact GH.trans (GH.bw (q:=0) [.d m (.sl 2 (a0.Symbols.map Symbol.D)),.u] (.cons .rfl (.cons .u .nil)) rfl) (GH.renK hS [(0,0),(1,1),(2,2),(3,3)] 4)
   ·refine AW.seq (AW.regL ?_)
    refine V rfl ?_
    refine AL.nil ?_
    refine AW.seq (AW.cF rfl (dF hltk2) ?_)
    refine AW.exit ?_
    refine AW.regL ?_
    refine OB _ (q1X (p:=k1) (q:=1) (q1h (ltN hltk1) hl1.2)) ?_
    refine V rfl ?_
    refine AL.nil ?_
    cases hr
    exact GH.trans (GH.bw (q:=0) [.d m (.sl 2 (a0.Symbols.map Symbol.D)),.u] (.cons .rfl (.cons .u .nil)) rfl) (GH.renK hS [(0,0),(1,1),(2,2)] 3)
 ·refine AW.seq (AW.regL ?_)
  refine V rfl ?_
  refine AL.nil ?_
  refine AW.seq (AW.cF rfl (dF geN) ?_)
  refine AW.exit ?_
  refine AW.seq (AW.regL ?_)
  iterate 2 refine V rfl ?_
  refine AL.nil ?_
  refine AW.ret ?_
  cases hr
  exact endA.renK [(2,0)] 1 hS
def q6a (a0:Equation)(a1:Occurrence):Option Bool:=
 some (decide (a0.At=a1))
theorem z1V {m:Md}{a0:Equation}{a1:Occurrence}{r:Bool}(hr:q6a a0 a1=some r):Ok Tryz.prog 50 [Equation.x m a0,.pb 0 0] [.box [.d .fz (.i .i64 a1.Pos),.d .fz (.s a1.Name)]] (.d .fz (.b r)) [.box [.d .fz (.i .i64 a1.Pos),.d .fz (.s a1.Name)]]:=by
 refine Ok.enter rfl Tryz.func50 rfl rfl rfl fun S hS=>?_
 unfold q6a at hr
 refine AW.seq (AW.regL ?_)
 refine BX 1 ?_
 refine V rfl ?_
 refine AL.nil ?_
 refine AW.seq (AW.regL ?_)
 iterate 3 refine V rfl ?_
 refine SQ rfl rfl rfl rfl (q2K a0.At a1) ?_
 refine V rfl ?_
 refine AL.nil ?_
 refine AW.ret ?_
 cases hr
 exact endA.renK [(0,0)] 1 hS
def q2F (a1_0:Occurrence):Nat→Equation→Unit→Option (Unit ⊕ Int):=fun k1 xk1 _=>
 (q6a xk1 a1_0).bind fun y1=>
 if y1=true then (
 some (.inr (k1:Int))
 ) else (
 some (.inl ())
 )
def q1J (a0:(List Equation))(a1_0:Occurrence):Option Int:=
 (findL (q2F a1_0) 0 a0 ()).bind <| onr (fun r1=>some r1) fun _=>
 some (-1)
theorem q4r {m:Md}{a0:(List Equation)}{a1_0:Occurrence}{r:Int}(hr:q1J a0 a1_0=some r):Ok Tryz.prog 83 [.d m (.sl 9 (a0.map Equation.D)),.fn 50 [.pb 0 0]] [.box [.d .fz (.i .i64 a1_0.Pos),.d .fz (.s a1_0.Name)]] (.d .fz (.i .i64 r)) [.box [.d .fz (.i .i64 a1_0.Pos),.d .fz (.s a1_0.Name)]]:=by
 refine Ok.enter rfl Tryz.func83 rfl rfl rfl fun S hS=>?_
 unfold q1J at hr
 refine AW.seq (AW.regL ?_)
 refine V rfl ?_
 refine AL.nil ?_
 refine AW.seq (AW.seq (AW.regL ?_))
 refine V rfl ?_
 refine LF ?_
 refine V rfl ?_
 refine AL.nil ?_
 refine AW.block ?_
 refine AW.len (.tmp 0 rfl) fun hl1=>?_
 refine bdE hr fun q1 hqq1 hr=>?_
 refine AW.findL hqq1 hl1 1 (fun k1 _=>[(0,.d m (.sl 9 (a0.map Equation.D))),(1,.fn 50 [.pb 0 0]),(7,.d .fz (.i .i64 (a0.length:Int))),(8,.d .fz (.i .i64 (k1:Int)))]) (fun k1 _=>[]) (GH.renK hS [(0,0)] 1) (fun k1 xk1 sk1 ok1 hxk1 hr hltk1 hik1=>?_) fun k1 sk1 ek1 hltk1=>?_
 ·refine AW.seq (AW.regL ?_)
  refine V rfl ?_
  refine AL.nil ?_
  refine AW.seq (AW.cT rfl (dT hltk1) ?_)
  refine AW.skip ?_
  refine AW.seq (AW.block (AW.seq (AW.regL ?_)))
  iterate 2 refine V rfl ?_
  refine AL.nil ?_
  refine AW.seq (AW.regL ?_)
  iterate 3 refine V rfl ?_
  refine IF (Int.natCast_nonneg _) hxk1 ?_
  refine V rfl ?_
  refine bdE hr fun y1 hy1 hr=>?_
  refine CB [(0,0)] [] (z1V (m:=m) hy1) ?_
  refine AL.nil ?_
  refine ifE hr (fun h1 hr=>?_) fun h1 hr=>?_
  ·refine AW.cT rfl h1 ?_
   refine AW.seq (AW.regL ?_)
   iterate 2 refine V rfl ?_
   refine AL.nil ?_
   refine AW.ret ?_
   cases hr
   cases hik1 _ rfl
   rename_i hr
   cases hr
   exact endA.renK [(0,0)] 1 hS
  ·refine AW.cF rfl (bF h1) ?_
   refine AW.skip ?_
   refine AW.regL ?_
   refine OB _ (q1X (p:=k1) (q:=1) (q1h hltk1 hl1)) ?_
   refine V rfl ?_
   refine AL.nil ?_
   cases hr
   exact⟨_,rfl,GH.renK hS [(0,0)] 1⟩
 ·subst ek1
  refine AW.seq (AW.regL ?_)
  refine V rfl ?_
  refine AL.nil ?_
  refine AW.seq (AW.cF rfl (dF hltk1) ?_)
  refine AW.exit ?_
  refine AW.seq (AW.regL ?_)
  refine V rfl ?_
  refine AL.nil ?_
  refine AW.ret ?_
  cases hr
  exact endA.renK [(0,0)] 1 hS
def q1C (a0:(List Equation))(a1_0:Occurrence):Option Bool:=
 (q1J a0 a1_0).bind fun y1=>
 some (decide (0≤y1))
theorem q3U {m:Md}{a0:(List Equation)}{a1_0:Occurrence}{r:Bool}(hr:q1C a0 a1_0=some r):Ok Tryz.prog 49 [.d m (.sl 9 (a0.map Equation.D)),.fn 50 [.pb 0 0]] [.box [.d .fz (.i .i64 a1_0.Pos),.d .fz (.s a1_0.Name)]] (.d .fz (.b r)) [.box [.d .fz (.i .i64 a1_0.Pos),.d .fz (.s a1_0.Name)]]:=by
 refine Ok.enter rfl Tryz.func49 rfl rfl rfl fun S hS=>?_
 unfold q1C at hr
 refine AW.seq (AW.regL ?_)
 refine V rfl ?_
 refine AL.nil ?_
 refine AW.seq (AW.regL ?_)
 iterate 2 refine V rfl ?_
 refine bdE hr fun y1 hy1 hr=>?_
 refine CB [(0,0)] [] (q4r (m:=m) hy1) ?_
 iterate 2 refine V rfl ?_
 refine AL.nil ?_
 refine AW.ret ?_
 cases hr
 exact endA.renK [(0,0)] 1 hS
def q7h (a0:Occurrence)(a1:Rule):Option Bool:=
 (q1C a1.Equations a0).bind fun y1=>
 some (!y1)
theorem z3T {m2:Md}{a0:Occurrence}{a1:Rule}{r:Bool}(hr:q7h a0 a1=some r):Ok Tryz.prog 48 [Occurrence.x .fz a0,.pb 0 0] [.box [.d .fz (.s a1.Name),.d .fz (.s a1.Left),.d m2 (.sl 1 (a1.Right.map A.D.s)),.d .fz (.b a1.Literal),.d m2 (.sl 9 (a1.Equations.map Equation.D)),.d m2 (.sl 16 (a1.Contributions.map Contribution.D))]] (.d .fz (.b r)) [.box [.d .fz (.s a1.Name),.d .fz (.s a1.Left),.d m2 (.sl 1 (a1.Right.map A.D.s)),.d .fz (.b a1.Literal),.d m2 (.sl 9 (a1.Equations.map Equation.D)),.d m2 (.sl 16 (a1.Contributions.map Contribution.D))]]:=by
 refine Ok.enter rfl Tryz.func48 rfl rfl rfl fun S hS=>?_
 unfold q7h at hr
 refine AW.seq (AW.regL ?_)
 refine BX 1 ?_
 refine V rfl ?_
 refine AL.nil ?_
 refine AW.seq (AW.regL ?_)
 iterate 3 refine V rfl ?_
 refine bdE hr fun y1 hy1 hr=>?_
 refine CB [(0,1)] [] (q3U (m:=m2) hy1) ?_
 iterate 2 refine V rfl ?_
 refine AL.nil ?_
 refine AW.ret ?_
 cases hr
 exact endA.renK [(0,0)] 1 hS
def q2G (a1_0:Rule):Nat→Occurrence→Unit→Option (Unit ⊕ Int):=fun k1 xk1 _=>
 (q7h xk1 a1_0).bind fun y1=>
 if y1=true then (
 some (.inr (k1:Int))
 ) else (
 some (.inl ())
 )
def q1K (a0:(List Occurrence))(a1_0:Rule):Option Int:=
 (findL (q2G a1_0) 0 a0 ()).bind <| onr (fun r1=>some r1) fun _=>
 some (-1)
theorem q4s {m:Md}{m2:Md}{a0:(List Occurrence)}{a1_0:Rule}{r:Int}(hr:q1K a0 a1_0=some r):Ok Tryz.prog 82 [.d m (.sl 2 (a0.map Occurrence.D)),.fn 48 [.pb 0 0]] [.box [.d .fz (.s a1_0.Name),.d .fz (.s a1_0.Left),.d m2 (.sl 1 (a1_0.Right.map A.D.s)),.d .fz (.b a1_0.Literal),.d m2 (.sl 9 (a1_0.Equations.map Equation.D)),.d m2 (.sl 16 (a1_0.Contributions.map Contribution.D))]] (.d .fz (.i .i64 r)) [.box [.d .fz (.s a1_0.Name),.d .fz (.s a1_0.Left),.d m2 (.sl 1 (a1_0.Right.map A.D.s)),.d .fz (.b a1_0.Literal),.d m2 (.sl 9 (a1_0.Equations.map Equation.D)),.d m2 (.sl 16 (a1_0.Contributions.map Contribution.D))]]:=by
 refine Ok.enter rfl Tryz.func82 rfl rfl rfl fun S hS=>?_
 unfold q1K at hr
 refine AW.seq (AW.regL ?_)
 refine V rfl ?_
 refine AL.nil ?_
 refine AW.seq (AW.seq (AW.regL ?_))
 refine V rfl ?_
 refine LF ?_
 refine V rfl ?_
 refine AL.nil ?_
 refine AW.block ?_
 refine AW.len (.tmp 0 rfl) fun hl1=>?_
 refine bdE hr fun q1 hqq1 hr=>?_
 refine AW.findL hqq1 hl1 1 (fun k1 _=>[(0,.d m (.sl 2 (a0.map Occurrence.D))),(1,.fn 48 [.pb 0 0]),(7,.d .fz (.i .i64 (a0.length:Int))),(8,.d .fz (.i .i64 (k1:Int)))]) (fun k1 _=>[]) (GH.renK hS [(0,0)] 1) (fun k1 xk1 sk1 ok1 hxk1 hr hltk1 hik1=>?_) fun k1 sk1 ek1 hltk1=>?_
 ·refine AW.seq (AW.regL ?_)
  refine V rfl ?_
  refine AL.nil ?_
  refine AW.seq (AW.cT rfl (dT hltk1) ?_)
  refine AW.skip ?_
  refine AW.seq (AW.block (AW.seq (AW.regL ?_)))
  iterate 2 refine V rfl ?_
  refine AL.nil ?_
  refine AW.seq (AW.regL ?_)
  iterate 3 refine V rfl ?_
  refine IF (Int.natCast_nonneg _) hxk1 ?_
  refine V rfl ?_
  refine bdE hr fun y1 hy1 hr=>?_
  refine CB [(0,0)] [] (z3T (m2:=m2) hy1) ?_
  refine AL.nil ?_
  refine ifE hr (fun h1 hr=>?_) fun h1 hr=>?_
  ·refine AW.cT rfl h1 ?_
   refine AW.seq (AW.regL ?_)
   iterate 2 refine V rfl ?_
   refine AL.nil ?_
   refine AW.ret ?_
   cases hr
   cases hik1 _ rfl
   rename_i hr
   cases hr
   exact endA.renK [(0,0)] 1 hS
  ·refine AW.cF rfl (bF h1) ?_
   refine AW.skip ?_
   refine AW.regL ?_
   refine OB _ (q1X (p:=k1) (q:=1) (q1h hltk1 hl1)) ?_
   refine V rfl ?_
   refine AL.nil ?_
   cases hr
   exact⟨_,rfl,GH.renK hS [(0,0)] 1⟩
 ·subst ek1
  refine AW.seq (AW.regL ?_)
  refine V rfl ?_
  refine AL.nil ?_
  refine AW.seq (AW.cF rfl (dF hltk1) ?_)
  refine AW.exit ?_
  refine AW.seq (AW.regL ?_)
  refine V rfl ?_
  refine AL.nil ?_
  refine AW.ret ?_
  cases hr
  exact endA.renK [(0,0)] 1 hS
def q1D (a0:(List Occurrence))(a1_0:Rule):Option Bool:=
 (q1K a0 a1_0).bind fun y1=>
 some (decide (0≤y1))
theorem q3V {m:Md}{m2:Md}{a0:(List Occurrence)}{a1_0:Rule}{r:Bool}(hr:q1D a0 a1_0=some r):Ok Tryz.prog 47 [.d m (.sl 2 (a0.map Occurrence.D)),.fn 48 [.pb 0 0]] [.box [.d .fz (.s a1_0.Name),.d .fz (.s a1_0.Left),.d m2 (.sl 1 (a1_0.Right.map A.D.s)),.d .fz (.b a1_0.Literal),.d m2 (.sl 9 (a1_0.Equations.map Equation.D)),.d m2 (.sl 16 (a1_0.Contributions.map Contribution.D))]] (.d .fz (.b r)) [.box [.d .fz (.s a1_0.Name),.d .fz (.s a1_0.Left),.d m2 (.sl 1 (a1_0.Right.map A.D.s)),.d .fz (.b a1_0.Literal),.d m2 (.sl 9 (a1_0.Equations.map Equation.D)),.d m2 (.sl 16 (a1_0.Contributions.map Contribution.D))]]:=by
 refine Ok.enter rfl Tryz.func47 rfl rfl rfl fun S hS=>?_
 unfold q1D at hr
 refine AW.seq (AW.regL ?_)
 refine V rfl ?_
 refine AL.nil ?_
 refine AW.seq (AW.regL ?_)
 iterate 2 refine V rfl ?_
 refine bdE hr fun y1 hy1 hr=>?_
 refine CB [(0,0)] [] (q4s (m:=m) (m2:=m2) hy1) ?_
 iterate 2 refine V rfl ?_
 refine AL.nil ?_
 refine AW.ret ?_
 cases hr
 exact endA.renK [(0,0)] 1 hS
def q7J (a0:Grammar)(a1:Rule):Option Bool:=
 (q5c a0 a1).bind fun y1=>
 (q1D y1 a1).bind fun y2=>
 some y2
theorem z6i {m:Md}{a0:Grammar}{a1:Rule}{r:Bool}(hr:q7J a0 a1=some r):Ok Tryz.prog 20 [Grammar.y m a0,Rule.x m a1] [] (.d .fz (.b r)) []:=by
 refine Ok.enter rfl Tryz.func20 rfl rfl rfl fun S hS=>?_
 unfold q7J at hr
 refine AW.seq (AW.regL ?_)
 refine BX 0 ?_
 refine BX 1 ?_
 refine V rfl ?_
 refine AL.nil ?_
 refine AW.seq (AW.regL ?_)
 iterate 2 refine V rfl ?_
 refine bdE hr fun y1 hy1 hr=>?_
 refine CB [(0,2)] [] (q8F (m:=m) hy1) ?_
 refine V rfl ?_
 refine AL.fz 2 rfl ?_
 refine bdE hr fun y2 hy2 hr=>?_
 refine CB [(0,1)] [] (q3V (m:=.fz) (m2:=m) hy2) ?_
 refine V rfl ?_
 refine AL.nil ?_
 refine AW.ret ?_
 cases hr
 exact endA.renK [] 0 hS
def q4H (a1:Occurrence):Nat→Occurrence→Unit→Option (Unit ⊕ Int):=fun k1 xk1 _=>
 if a1=xk1 then (
 some (.inr (k1:Int))
 ) else (
 some (.inl ())
 )
def q2L (a0:(List Occurrence))(a1:Occurrence):Option Int:=
 (findL (q4H a1) 0 a0 ()).bind <| onr (fun r1=>some r1) fun _=>
 some (-1)
theorem q7e {m:Md}{a0:(List Occurrence)}{a1:Occurrence}{r:Int}(hr:q2L a0 a1=some r):Ok Tryz.prog 84 [.d m (.sl 2 (a0.map Occurrence.D)),Occurrence.x .fz a1] [] (.d .fz (.i .i64 r)) []:=by
 refine Ok.enter rfl Tryz.func84 rfl rfl rfl fun S hS=>?_
 unfold q2L at hr
 refine AW.seq (AW.regL ?_)
 refine BX 0 ?_
 refine V rfl ?_
 refine AL.nil ?_
 refine AW.seq (AW.seq (AW.regL ?_))
 refine V rfl ?_
 refine LF ?_
 refine V rfl ?_
 refine AL.nil ?_
 refine AW.block ?_
 refine AW.len (.tmp 0 rfl) fun hl1=>?_
 refine bdE hr fun q1 hqq1 hr=>?_
 refine AW.findL hqq1 hl1 1 (fun k1 _=>[(0,.d m (.sl 2 (a0.map Occurrence.D))),(3,.pb 0 0),(7,.d .fz (.i .i64 (a0.length:Int))),(8,.d .fz (.i .i64 (k1:Int)))]) (fun k1 _=>[]) (GH.renK hS [(0,0)] 1) (fun k1 xk1 sk1 ok1 hxk1 hr hltk1 hik1=>?_) fun k1 sk1 ek1 hltk1=>?_
 ·refine AW.seq (AW.regL ?_)
  refine V rfl ?_
  refine AL.nil ?_
  refine AW.seq (AW.cT rfl (dT hltk1) ?_)
  refine AW.skip ?_
  refine AW.seq (AW.block (AW.seq (AW.regL ?_)))
  iterate 2 refine V rfl ?_
  refine AL.nil ?_
  refine AW.seq (AW.drawL (h:=?_))
  iterate 3 refine V rfl ?_
  refine IF (Int.natCast_nonneg _) hxk1 ?_
  refine V rfl ?_
  refine SQ rfl rfl rfl rfl (q2K a1 xk1) ?_
  refine AL.nil ?_
  refine ifE hr (fun h1 hr=>?_) fun h1 hr=>?_
  ·refine AW.cT rfl (dT h1) ?_
   refine AW.seq (AW.regL ?_)
   iterate 2 refine V rfl ?_
   refine AL.nil ?_
   refine AW.ret ?_
   cases hr
   cases hik1 _ rfl
   rename_i hr
   cases hr
   exact endA.renK [] 0 hS
  ·refine AW.cF rfl (dF h1) ?_
   refine AW.skip ?_
   refine AW.regL ?_
   refine OB _ (q1X (p:=k1) (q:=1) (q1h hltk1 hl1)) ?_
   refine V rfl ?_
   refine AL.nil ?_
   cases hr
   exact⟨_,rfl,GH.renK hS [(0,0)] 1⟩
 ·subst ek1
  refine AW.seq (AW.regL ?_)
  refine V rfl ?_
  refine AL.nil ?_
  refine AW.seq (AW.cF rfl (dF hltk1) ?_)
  refine AW.exit ?_
  refine AW.seq (AW.regL ?_)
  refine V rfl ?_
  refine AL.nil ?_
  refine AW.ret ?_
  cases hr
  exact endA.renK [] 0 hS
def q2e (a0:(List Occurrence))(a1:Occurrence):Option Bool:=
 (q2L a0 a1).bind fun y1=>
 some (decide (0≤y1))
theorem q6q {m:Md}{a0:(List Occurrence)}{a1:Occurrence}{r:Bool}(hr:q2e a0 a1=some r):Ok Tryz.prog 51 [.d m (.sl 2 (a0.map Occurrence.D)),Occurrence.x .fz a1] [] (.d .fz (.b r)) []:=by
 refine Ok.enter rfl Tryz.func51 rfl rfl rfl fun S hS=>?_
 unfold q2e at hr
 refine AW.seq (AW.regL ?_)
 refine BX 0 ?_
 refine V rfl ?_
 refine AL.nil ?_
 refine AW.seq (AW.regL ?_)
 iterate 2 refine V rfl ?_
 refine bdE hr fun y1 hy1 hr=>?_
 refine CB [] [] (q7e (m:=m) hy1) ?_
 iterate 2 refine V rfl ?_
 refine AL.nil ?_
 refine AW.ret ?_
 cases hr
 exact endA.renK [] 0 hS
def q9d (a0:Equation)(a1:Equation):Option Bool:=
 some (decide (a0.At=a1.At))
theorem z6j {m:Md}{m2:Md}{a0:Equation}{a1:Equation}{r:Bool}(hr:q9d a0 a1=some r):Ok Tryz.prog 52 [Equation.x m a0,.pb 0 0] [.box [.d .fz (.i .i64 a1.At.Pos),.d .fz (.s a1.At.Name),.d .fz (.i .i64 a1.Expr.Kind),.d .fz (.i .i64 a1.Expr.N),.d .fz (.i .i64 a1.Expr.Pos),.d .fz (.i .i64 a1.Expr.Type_),.d .fz (.s a1.Expr.Symbol),.d .fz (.s a1.Expr.Name),.d m2 (.sl 7 (a1.Expr.Args.map Expr.D))]] (.d .fz (.b r)) [.box [.d .fz (.i .i64 a1.At.Pos),.d .fz (.s a1.At.Name),.d .fz (.i .i64 a1.Expr.Kind),.d .fz (.i .i64 a1.Expr.N),.d .fz (.i .i64 a1.Expr.Pos),.d .fz (.i .i64 a1.Expr.Type_),.d .fz (.s a1.Expr.Symbol),.d .fz (.s a1.Expr.Name),.d m2 (.sl 7 (a1.Expr.Args.map Expr.D))]]:=by
 refine Ok.enter rfl Tryz.func52 rfl rfl rfl fun S hS=>?_
 unfold q9d at hr
 refine AW.seq (AW.regL ?_)
 refine BX 1 ?_
 refine V rfl ?_
 refine AL.nil ?_
 refine AW.seq (AW.regL ?_)
 iterate 4 refine V rfl ?_
 refine SQ rfl rfl rfl rfl (q2K a0.At a1.At) ?_
 refine V rfl ?_
 refine AL.nil ?_
 refine AW.ret ?_
 cases hr
 exact endA.renK [(0,0)] 1 hS
def q3a (a1_0:Equation):Nat→Equation→Unit→Option (Unit ⊕ Int):=fun k1 xk1 _=>
 (q9d xk1 a1_0).bind fun y1=>
 if y1=true then (
 some (.inr (k1:Int))
 ) else (
 some (.inl ())
 )
def q1W (a0:(List Equation))(a1_0:Equation):Option Int:=
 (findL (q3a a1_0) 0 a0 ()).bind <| onr (fun r1=>some r1) fun _=>
 some (-1)
theorem q4J {m:Md}{m2:Md}{a0:(List Equation)}{a1_0:Equation}{r:Int}(hr:q1W a0 a1_0=some r):Ok Tryz.prog 83 [.d m (.sl 9 (a0.map Equation.D)),.fn 52 [.pb 0 0]] [.box [.d .fz (.i .i64 a1_0.At.Pos),.d .fz (.s a1_0.At.Name),.d .fz (.i .i64 a1_0.Expr.Kind),.d .fz (.i .i64 a1_0.Expr.N),.d .fz (.i .i64 a1_0.Expr.Pos),.d .fz (.i .i64 a1_0.Expr.Type_),.d .fz (.s a1_0.Expr.Symbol),.d .fz (.s a1_0.Expr.Name),.d m2 (.sl 7 (a1_0.Expr.Args.map Expr.D))]] (.d .fz (.i .i64 r)) [.box [.d .fz (.i .i64 a1_0.At.Pos),.d .fz (.s a1_0.At.Name),.d .fz (.i .i64 a1_0.Expr.Kind),.d .fz (.i .i64 a1_0.Expr.N),.d .fz (.i .i64 a1_0.Expr.Pos),.d .fz (.i .i64 a1_0.Expr.Type_),.d .fz (.s a1_0.Expr.Symbol),.d .fz (.s a1_0.Expr.Name),.d m2 (.sl 7 (a1_0.Expr.Args.map Expr.D))]]:=by
 refine Ok.enter rfl Tryz.func83 rfl rfl rfl fun S hS=>?_
 unfold q1W at hr
 refine AW.seq (AW.regL ?_)
 refine V rfl ?_
 refine AL.nil ?_
 refine AW.seq (AW.seq (AW.regL ?_))
 refine V rfl ?_
 refine LF ?_
 refine V rfl ?_
 refine AL.nil ?_
 refine AW.block ?_
 refine AW.len (.tmp 0 rfl) fun hl1=>?_
 refine bdE hr fun q1 hqq1 hr=>?_
 refine AW.findL hqq1 hl1 1 (fun k1 _=>[(0,.d m (.sl 9 (a0.map Equation.D))),(1,.fn 52 [.pb 0 0]),(7,.d .fz (.i .i64 (a0.length:Int))),(8,.d .fz (.i .i64 (k1:Int)))]) (fun k1 _=>[]) (GH.renK hS [(0,0)] 1) (fun k1 xk1 sk1 ok1 hxk1 hr hltk1 hik1=>?_) fun k1 sk1 ek1 hltk1=>?_
 ·refine AW.seq (AW.regL ?_)
  refine V rfl ?_
  refine AL.nil ?_
  refine AW.seq (AW.cT rfl (dT hltk1) ?_)
  refine AW.skip ?_
  refine AW.seq (AW.block (AW.seq (AW.regL ?_)))
  iterate 2 refine V rfl ?_
  refine AL.nil ?_
  refine AW.seq (AW.regL ?_)
  iterate 3 refine V rfl ?_
  refine IF (Int.natCast_nonneg _) hxk1 ?_
  refine V rfl ?_
  refine bdE hr fun y1 hy1 hr=>?_
  refine CB [(0,0)] [] (z6j (m:=m) (m2:=m2) hy1) ?_
  refine AL.nil ?_
  refine ifE hr (fun h1 hr=>?_) fun h1 hr=>?_
  ·refine AW.cT rfl h1 ?_
   refine AW.seq (AW.regL ?_)
   iterate 2 refine V rfl ?_
   refine AL.nil ?_
   refine AW.ret ?_
   cases hr
   cases hik1 _ rfl
   rename_i hr
   cases hr
   exact endA.renK [(0,0)] 1 hS
  ·refine AW.cF rfl (bF h1) ?_
   refine AW.skip ?_
   refine AW.regL ?_
   refine OB _ (q1X (p:=k1) (q:=1) (q1h hltk1 hl1)) ?_
   refine V rfl ?_
   refine AL.nil ?_
   cases hr
   exact⟨_,rfl,GH.renK hS [(0,0)] 1⟩
 ·subst ek1
  refine AW.seq (AW.regL ?_)
  refine V rfl ?_
  refine AL.nil ?_
  refine AW.seq (AW.cF rfl (dF hltk1) ?_)
  refine AW.exit ?_
  refine AW.seq (AW.regL ?_)
  refine V rfl ?_
  refine AL.nil ?_
  refine AW.ret ?_
  cases hr
  exact endA.renK [(0,0)] 1 hS
def q1P (a0:(List Equation))(a1_0:Equation):Option Bool:=
 (q1W a0 a1_0).bind fun y1=>
 some (decide (0≤y1))
theorem q4w {m:Md}{m2:Md}{a0:(List Equation)}{a1_0:Equation}{r:Bool}(hr:q1P a0 a1_0=some r):Ok Tryz.prog 49 [.d m (.sl 9 (a0.map Equation.D)),.fn 52 [.pb 0 0]] [.box [.d .fz (.i .i64 a1_0.At.Pos),.d .fz (.s a1_0.At.Name),.d .fz (.i .i64 a1_0.Expr.Kind),.d .fz (.i .i64 a1_0.Expr.N),.d .fz (.i .i64 a1_0.Expr.Pos),.d .fz (.i .i64 a1_0.Expr.Type_),.d .fz (.s a1_0.Expr.Symbol),.d .fz (.s a1_0.Expr.Name),.d m2 (.sl 7 (a1_0.Expr.Args.map Expr.D))]] (.d .fz (.b r)) [.box [.d .fz (.i .i64 a1_0.At.Pos),.d .fz (.s a1_0.At.Name),.d .fz (.i .i64 a1_0.Expr.Kind),.d .fz (.i .i64 a1_0.Expr.N),.d .fz (.i .i64 a1_0.Expr.Pos),.d .fz (.i .i64 a1_0.Expr.Type_),.d .fz (.s a1_0.Expr.Symbol),.d .fz (.s a1_0.Expr.Name),.d m2 (.sl 7 (a1_0.Expr.Args.map Expr.D))]]:=by
 refine Ok.enter rfl Tryz.func49 rfl rfl rfl fun S hS=>?_
 unfold q1P at hr
 refine AW.seq (AW.regL ?_)
 refine V rfl ?_
 refine AL.nil ?_
 refine AW.seq (AW.regL ?_)
 iterate 2 refine V rfl ?_
 refine bdE hr fun y1 hy1 hr=>?_
 refine CB [(0,0)] [] (q4J (m:=m) (m2:=m2) hy1) ?_
 iterate 2 refine V rfl ?_
 refine AL.nil ?_
 refine AW.ret ?_
 cases hr
 exact endA.renK [(0,0)] 1 hS
def q9S (a1:Rule)(y1:(List Occurrence)):Nat→Equation→Unit→Option (Unit ⊕ Bool):=fun k1 xk1 _=>
 (q2e y1 xk1.At).bind fun y2=>
 if y2=true then (
 grd (k1≤a1.Equations.length) <|
 (q1P (a1.Equations.take k1) xk1).bind fun y3=>
 if y3=true then (
 some (.inr true)
 ) else (
 some (.inl ())
 )
 ) else (
 some (.inr true)
 )
def q9T (a0:Grammar)(a1:Rule):Option Bool:=
 (q5c a0 a1).bind fun y1=>
 (findL (q9S a1 y1) 0 a1.Equations ()).bind <| onr (fun r1=>some r1) fun _=>
 some false
theorem z9k {m:Md}{a0:Grammar}{a1:Rule}{r:Bool}(hr:q9T a0 a1=some r):Ok Tryz.prog 21 [Grammar.y m a0,Rule.x m a1] [] (.d .fz (.b r)) []:=by
 refine Ok.enter rfl Tryz.func21 rfl rfl rfl fun S hS=>?_
 unfold q9T at hr
 refine AW.seq (AW.regL ?_)
 refine BX 0 ?_
 refine BX 1 ?_
 refine V rfl ?_
 refine AL.nil ?_
 refine AW.seq (AW.regL ?_)
 iterate 2 refine V rfl ?_
 refine bdE hr fun y1 hy1 hr=>?_
 refine CB [(0,2)] [] (q8F (m:=m) hy1) ?_
 refine V rfl ?_
 refine AL.nil ?_
 refine AW.seq (AW.seq (AW.regL ?_))
 iterate 2 refine V rfl ?_
 refine LF ?_
 refine V rfl ?_
 refine AL.nil ?_
 refine AW.block ?_
 refine AW.len (.ag 4 (.tmp 1 rfl) rfl) fun hl1=>?_
 refine bdE hr fun q1 hqq1 hr=>?_
 refine AW.findL hqq1 hl1 3 (fun k1 _=>[(3,.pb 1 0),(5,.ref 2 none),(12,.d m (.sl 9 (a1.Equations.map Equation.D))),(13,.d .fz (.i .i64 (a1.Equations.length:Int))),(14,.d .fz (.i .i64 (k1:Int)))]) (fun k1 _=>[]) (GH.trans (GH.bw (q:=0) [.d m (.sl 2 (a0.Symbols.map Symbol.D)),.u] (.cons .rfl (.cons .u .nil)) rfl) (GH.renK hS [(0,0),(1,1),(2,2)] 3)) (fun k1 xk1 sk1 ok1 hxk1 hr hltk1 hik1=>?_) fun k1 sk1 ek1 hltk1=>?_
 ·refine AW.seq (AW.regL ?_)
  refine V rfl ?_
  refine AL.nil ?_
  refine AW.seq (AW.cT rfl (dT hltk1) ?_)
  refine AW.skip ?_
  refine AW.seq (AW.block (AW.seq (AW.regL ?_)))
  refine V rfl ?_
  refine IF (Int.natCast_nonneg _) hxk1 ?_
  refine V rfl ?_
  refine NV 3 ?_
  refine V rfl ?_
  refine SB ?_
  refine AL.nil ?_
  refine AW.seq (AW.regL ?_)
  iterate 3 refine V rfl ?_
  refine bdE hr fun y2 hy2 hr=>?_
  refine CB [] [2] (q6q (m:=.bo) hy2) ?_
  refine V rfl ?_
  refine ifE hr (fun h1 hr=>?_) fun h1 hr=>?_
  ·refine VF rfl (bnF h1) ?_
   iterate 3 refine V rfl ?_
   refine ggE hr fun g1 hr=>?_
   refine SLH (Int.natCast_nonneg _) g1 ?_
   refine V rfl ?_
   refine bdE hr fun y3 hy3 hr=>?_
   refine CB [(0,3)] [] (q4w (m:=m) (m2:=m) hy3) ?_
   refine V rfl ?_
   refine AL.nil ?_
   refine ifE hr (fun h2 hr=>?_) fun h2 hr=>?_
   ·refine AW.cT rfl h2 ?_
    refine AW.seq (AW.regL ?_)
    refine V rfl ?_
    refine AL.nil ?_
    refine AW.ret ?_
    cases hr
    cases hik1 _ rfl
    rename_i hr
    cases hr
    exact endA.renK [] 0 hS
   ·refine AW.cF rfl (bF h2) ?_
    refine AW.skip ?_
    refine AW.regL ?_
    refine OB _ (q1X (p:=k1) (q:=1) (q1h hltk1 hl1)) ?_
    refine V rfl ?_
    refine AL.nil ?_
    cases hr
    exact⟨_,rfl,GH.trans (GH.bw (q:=0) [.d m (.sl 2 (a0.Symbols.map Symbol.D)),.u] (.cons .rfl (.cons .u .nil)) rfl) (GH.renK hS [(0,0),(1,1),(2,2)] 3)⟩
  ·refine VT rfl (bnT h1) ?_
   refine AL.off ?_
   refine AL.off ?_
   refine AL.off ?_
   refine AL.off ?_
   refine AL.off ?_
   refine AL.off ?_
   refine V rfl ?_
   refine AL.nil ?_
   refine AW.cT rfl rfl ?_
   refine AW.seq (AW.regL ?_)
   refine V rfl ?_
   refine AL.nil ?_
   refine AW.ret ?_
   cases hr
   cases hik1 _ rfl
   rename_i hr
   cases hr
   exact endA.renK [] 0 hS
 ·subst ek1
  refine AW.seq (AW.regL ?_)
  refine V rfl ?_
  refine AL.nil ?_
  refine AW.seq (AW.cF rfl (dF hltk1) ?_)
  refine AW.exit ?_
  refine AW.seq (AW.regL ?_)
  refine V rfl ?_
  refine AL.nil ?_
  refine AW.ret ?_
  cases hr
  exact endA.renK [] 0 hS
def q5y:Nat→Equation→((List Expr))→Option ((List Expr)):=fun k1 xk1 s1=>
 grd (((s1.length:Int)+1)*88≤140737488355328∧(s1.length:Int)+1≤9223372036854775807) <|
 some (s1++[xk1.Expr])
def q5z:Nat→Contribution→((List Expr))→Option ((List Expr)):=fun k2 xk2 s2=>
 grd (((s2.length:Int)+([xk2.Target,xk2.Value].length:Int))*88≤140737488355328∧(s2.length:Int)+([xk2.Target,xk2.Value].length:Int)≤9223372036854775807) <|
 some (s2++[xk2.Target,xk2.Value])
def q4S (a0:Rule):Option (List Expr):=
 (eachL q5y 0 a0.Equations ([]:List Expr)).bind fun s1=>
 (eachL q5z 0 a0.Contributions s1).bind fun s2=>
 some s2
theorem z1W {m:Md}{a0:Rule}{r:(List Expr)}(hr:q4S a0=some r):Ok Tryz.prog 54 [Rule.x m a0] [] (.ref 0 none) [.row m 7 (r.map Expr.D)]:=by
 refine Ok.enter rfl Tryz.func54 rfl rfl rfl fun S hS=>?_
 unfold q4S at hr
 refine AW.seq (AW.regL ?_)
 refine BX 0 ?_
 refine V rfl ?_
 refine AL.nil ?_
 refine AW.seq (AW.regL ?_)
 refine L0 1 Expr.D ?_
 refine V rfl ?_
 refine AL.nil ?_
 refine AW.seq (AW.seq (AW.regL ?_))
 iterate 2 refine V rfl ?_
 refine LF ?_
 refine V rfl ?_
 refine AL.nil ?_
 refine AW.block ?_
 refine AW.len (.ag 4 (.tmp 0 rfl) rfl) fun hl1=>?_
 refine bdE hr fun s1 hqq1 hr=>?_
 refine AW.eachL hqq1 hl1 2 (fun k1 s1=>[(1,.pb 0 0),(3,.ref 1 none),(10,.d m (.sl 9 (a0.Equations.map Equation.D))),(11,.d .fz (.i .i64 (a0.Equations.length:Int))),(12,.d .fz (.i .i64 (k1:Int)))]) (fun k1 s1=>[(1,.row m 7 (s1.map Expr.D))]) (GH.trans (GH.upM (r:=1) m rfl) (GH.renK hS [(0,0),(1,1)] 2)) (fun k1 xk1 sk1 ok1 hxk1 hr hltk1=>?_) fun k1 hltk1=>?_
 ·obtain⟨s1,rfl⟩:∃ y,y=sk1:=⟨_,rfl⟩
  refine AW.seq (AW.regL ?_)
  refine V rfl ?_
  refine AL.nil ?_
  refine AW.seq (AW.cT rfl (dT hltk1) ?_)
  refine AW.skip ?_
  refine AW.seq (AW.block (AW.seq (AW.regL ?_)))
  refine IF (Int.natCast_nonneg _) hxk1 ?_
  refine V rfl ?_
  refine NV 2 ?_
  refine SB ?_
  refine AL.nil ?_
  refine AW.regL ?_
  iterate 3 refine V rfl ?_
  refine LIRm 3 (m:=m) (f:=Expr.D) [xk1.Expr] (by simp only [List.map_cons,List.map_nil,Expr.D_eq]; rfl) ?_
  refine ggE hr fun g1 hr=>?_
  refine AP1 4 m 88 g1 ?_
  refine V rfl ?_
  refine AL.nil ?_
  refine AW.regL ?_
  refine OB _ (q1X (p:=k1) (q:=1) (q1h hltk1 hl1)) ?_
  refine V rfl ?_
  refine AL.nil ?_
  cases hr
  exact GH.renK hS [(0,0),(4,1)] 2
 ·refine AW.seq (AW.regL ?_)
  refine V rfl ?_
  refine AL.nil ?_
  refine AW.seq (AW.cF rfl (dF hltk1) ?_)
  refine AW.exit ?_
  refine AW.seq (AW.seq (AW.regL ?_))
  iterate 2 refine V rfl ?_
  refine LF ?_
  refine V rfl ?_
  refine AL.nil ?_
  refine AW.block ?_
  refine AW.len (.tmp 23 rfl) fun hl2=>?_
  refine bdE hr fun s2 hqq2 hr=>?_
  refine AW.eachL hqq2 hl2 2 (fun k2 s2=>[(3,.ref 1 none),(23,.d m (.sl 16 (a0.Contributions.map Contribution.D))),(24,.d .fz (.i .i64 (a0.Contributions.length:Int))),(25,.d .fz (.i .i64 (k2:Int)))]) (fun k2 s2=>[(1,.row m 7 (s2.map Expr.D))]) (GH.renK hS [(0,0),(1,1)] 2) (fun k2 xk2 sk2 ok2 hxk2 hr hltk2=>?_) fun k2 hltk2=>?_
  ·obtain⟨s2,rfl⟩:∃ y,y=sk2:=⟨_,rfl⟩
   refine AW.seq (AW.regL ?_)
   refine V rfl ?_
   refine AL.nil ?_
   refine AW.seq (AW.cT rfl (dT hltk2) ?_)
   refine AW.skip ?_
   refine AW.seq (AW.block (AW.seq (AW.regL ?_)))
   refine IF (Int.natCast_nonneg _) hxk2 ?_
   refine V rfl ?_
   refine NV 2 ?_
   refine SB ?_
   refine AL.nil ?_
   refine AW.regL ?_
   iterate 5 refine V rfl ?_
   refine LIRm 3 (m:=m) (f:=Expr.D) [xk2.Target,xk2.Value] (by simp only [List.map_cons,List.map_nil,Expr.D_eq]; rfl) ?_
   refine ggE hr fun g2 hr=>?_
   refine APB 4 m 88 g2 ?_
   refine V rfl ?_
   refine AL.nil ?_
   refine AW.regL ?_
   refine OB _ (q1X (p:=k2) (q:=1) (q1h hltk2 hl2)) ?_
   refine V rfl ?_
   refine AL.nil ?_
   cases hr
   exact GH.renK hS [(0,0),(4,1)] 2
  ·refine AW.seq (AW.regL ?_)
   refine V rfl ?_
   refine AL.nil ?_
   refine AW.seq (AW.cF rfl (dF hltk2) ?_)
   refine AW.exit ?_
   refine AW.seq (AW.regL ?_)
   iterate 2 refine V rfl ?_
   refine AL.nil ?_
   refine AW.ret ?_
   cases hr
   exact endA.renK [(1,0)] 1 hS
def q3B (a0:Expr)(o0:(List Occurrence)):Option (Bool × (List Occurrence)):=
 if a0.Kind=3 then (
 grd (((o0.length:Int)+1)*24≤140737488355328∧(o0.length:Int)+1≤9223372036854775807) <|
 some (true,(o0++[(⟨a0.Pos,a0.Name⟩:Occurrence)]))
 ) else (
 some (true,o0)
 )
theorem q9u {m:Md}{a0:Expr}{o0:(List Occurrence)}{r:(Bool × (List Occurrence))}(hr:q3B a0 o0=some r):Ok Tryz.prog 87 [Expr.x m a0,.pb 0 0] [.box [.ref 1 none],.row .fz 2 (o0.map Occurrence.D)] (.d .fz (.b r.1)) [.box [.ref 2 none],.dead,.row .fz 2 (r.2.map Occurrence.D)]:=by
 refine Ok.enter rfl Tryz.func87 rfl rfl rfl fun S hS=>?_
 unfold q3B at hr
 refine AW.seq (AW.regL ?_)
 refine BX 2 ?_
 refine V rfl ?_
 refine AL.nil ?_
 refine AW.seq (AW.seq (AW.regL ?_))
 iterate 3 refine V rfl ?_
 refine AL.nil ?_
 refine ifE hr (fun h1 hr=>?_) fun h1 hr=>?_
 ·refine AW.cT rfl (dT h1) ?_
  refine AW.regL ?_
  iterate 6 refine V rfl ?_
  refine LIR 3 (m:=.fz) (f:=Occurrence.D) (xs:=[(⟨a0.Pos,a0.Name⟩:Occurrence)]) ?_
  refine ggE hr fun g1 hr=>?_
  refine APf1 (f:=Occurrence.D) 4 (fun _=>rfl) 24 g1 ?_
  refine SB ?_
  refine AL.nil ?_
  refine AW.seq (AW.regL ?_)
  refine V rfl ?_
  refine AL.nil ?_
  refine AW.ret ?_
  cases hr
  exact endA.renK [(0,0),(1,1),(4,2)] 3 hS
 ·refine AW.cF rfl (dF h1) ?_
  refine AW.skip ?_
  refine AW.seq (AW.regL ?_)
  refine V rfl ?_
  refine AL.nil ?_
  refine AW.ret ?_
  refine endA.gh (GH.mv (i:=1) (j:=3) rfl rfl) ?_
  cases hr
  exact endA.renK [(0,0),(1,1),(3,2)] 3 hS
def q2l (rec_ieveryNode_iAttributeUses_1:Expr→(List Occurrence)→Option (Bool × (List Occurrence)))(a0:Expr)(o0:(List Occurrence)):Option (Bool × (List Occurrence)):=
 (rec_ieveryNode_iAttributeUses_1 a0 o0).bind fun (y1,z1)=>
 some (!y1,z1)
theorem q5J {rec_ieveryNode_iAttributeUses_1:Expr→(List Occurrence)→Option (Bool × (List Occurrence))}(ih_ieveryNode_iAttributeUses_1:∀ {m:Md} {a0:Expr} {o0:(List Occurrence)} {r:(Bool × (List Occurrence))},rec_ieveryNode_iAttributeUses_1 a0 o0=some r→Ok Tryz.prog 86 [Expr.x m a0,.fn 87 [.pb 0 0]] [.box [.ref 1 none],.row .fz 2 (o0.map Occurrence.D)] (.d .fz (.b r.1)) [.box [.ref 2 none],.dead,.row .fz 2 (r.2.map Occurrence.D)]){m:Md}{a0:Expr}{o0:(List Occurrence)}{r:(Bool × (List Occurrence))}(hr:q2l rec_ieveryNode_iAttributeUses_1 a0 o0=some r):Ok Tryz.prog 118 [Expr.x m a0,.pb 1 0] [.box [.ref 2 none],.box [.fn 87 [.pb 0 0]],.row .fz 2 (o0.map Occurrence.D)] (.d .fz (.b r.1)) [.box [.ref 3 none],.box [.fn 87 [.pb 0 0]],.dead,.row .fz 2 (r.2.map Occurrence.D)]:=by
 refine Ok.enter rfl Tryz.func118 rfl rfl rfl fun S hS=>?_
 unfold q2l at hr
 refine AW.seq (AW.regL ?_)
 refine BX 3 ?_
 refine V rfl ?_
 refine AL.nil ?_
 refine AW.seq (AW.regL ?_)
 iterate 2 refine V rfl ?_
 refine bdE hr fun q1 hq1 hr=>?_
 obtain⟨y1,z1⟩:=q1
 refine CB [(0,0),(1,2),(2,4)] [] (ih_ieveryNode_iAttributeUses_1 (m:=m) hq1) ?_
 iterate 2 refine V rfl ?_
 refine AL.nil ?_
 refine AW.ret ?_
 cases hr
 exact endA.renK [(0,0),(1,1),(2,2),(4,3)] 4 hS
def q1A (rec_ieveryNode_iAttributeUses_1:Expr→(List Occurrence)→Option (Bool × (List Occurrence))):Nat→Expr→((List Occurrence))→Option (((List Occurrence)) ⊕ (Int × (List Occurrence))):=fun k1 xk1 s1=>
 (q2l rec_ieveryNode_iAttributeUses_1 xk1 s1).bind fun (y1,z1)=>
 if y1=true then (
 some (.inr ((k1:Int),z1))
 ) else (
 some (.inl z1)
 )
def q1n (rec_ieveryNode_iAttributeUses_1:Expr→(List Occurrence)→Option (Bool × (List Occurrence)))(a0:(List Expr))(o0:(List Occurrence)):Option (Int × (List Occurrence)):=
 (findL (q1A rec_ieveryNode_iAttributeUses_1) 0 a0 o0).bind <| onr (fun r1=>some r1) fun s1=>
 some ((-1),s1)
theorem q3b {rec_ieveryNode_iAttributeUses_1:Expr→(List Occurrence)→Option (Bool × (List Occurrence))}(ih_ieveryNode_iAttributeUses_1:∀ {m:Md} {a0:Expr} {o0:(List Occurrence)} {r:(Bool × (List Occurrence))},rec_ieveryNode_iAttributeUses_1 a0 o0=some r→Ok Tryz.prog 86 [Expr.x m a0,.fn 87 [.pb 0 0]] [.box [.ref 1 none],.row .fz 2 (o0.map Occurrence.D)] (.d .fz (.b r.1)) [.box [.ref 2 none],.dead,.row .fz 2 (r.2.map Occurrence.D)]){m:Md}{a0:(List Expr)}{o0:(List Occurrence)}{r:(Int × (List Occurrence))}(hr:q1n rec_ieveryNode_iAttributeUses_1 a0 o0=some r):Ok Tryz.prog 85 [.d m (.sl 7 (a0.map Expr.D)),.fn 118 [.pb 1 0]] [.box [.ref 2 none],.box [.fn 87 [.pb 0 0]],.row .fz 2 (o0.map Occurrence.D)] (.d .fz (.i .i64 r.1)) [.box [.ref 3 none],.box [.fn 87 [.pb 0 0]],.dead,.row .fz 2 (r.2.map Occurrence.D)]:=by
 refine Ok.enter rfl Tryz.func85 rfl rfl rfl fun S hS=>?_
 unfold q1n at hr
 refine AW.seq (AW.regL ?_)
 refine V rfl ?_
 refine AL.nil ?_
 refine AW.seq (AW.seq (AW.regL ?_))
 refine V rfl ?_
 refine LF ?_
 refine V rfl ?_
 refine AL.nil ?_
 refine AW.block ?_
 refine AW.mv 2 3 rfl ?_
 refine AW.len (.tmp 0 rfl) fun hl1=>?_
 refine bdE hr fun q1 hqq1 hr=>?_
 refine AW.findL hqq1 hl1 4 (fun k1 s1=>[(0,.d m (.sl 7 (a0.map Expr.D))),(1,.fn 118 [.pb 1 0]),(7,.d .fz (.i .i64 (a0.length:Int))),(8,.d .fz (.i .i64 (k1:Int)))]) (fun k1 s1=>[(3,.row .fz 2 (s1.map Occurrence.D))]) (GH.renK hS [(0,0),(1,1),(2,2),(3,3)] 4) (fun k1 xk1 sk1 ok1 hxk1 hr hltk1 hik1=>?_) fun k1 sk1 ek1 hltk1=>?_
 ·obtain⟨s1,rfl⟩:∃ y,y=sk1:=⟨_,rfl⟩
  refine AW.seq (AW.regL ?_)
  refine V rfl ?_
  refine AL.nil ?_
  refine AW.seq (AW.cT rfl (dT hltk1) ?_)
  refine AW.skip ?_
  refine AW.seq (AW.block (AW.seq (AW.regL ?_)))
  iterate 2 refine V rfl ?_
  refine AL.nil ?_
  refine AW.seq (AW.regL ?_)
  iterate 3 refine V rfl ?_
  refine IFq (Int.natCast_nonneg _) hxk1 (Expr.D_cells xk1) ?_
  refine V rfl ?_
  refine bdE hr fun q2 hq2 hr=>?_
  obtain⟨y1,z1⟩:=q2
  refine CB [(0,0),(1,1),(2,3),(3,4)] [] (q5J ih_ieveryNode_iAttributeUses_1 (m:=m) hq2) ?_
  refine AL.nil ?_
  refine ifE hr (fun h1 hr=>?_) fun h1 hr=>?_
  ·refine AW.cT rfl h1 ?_
   refine AW.seq (AW.regL ?_)
   iterate 2 refine V rfl ?_
   refine AL.nil ?_
   refine AW.ret ?_
   cases hr
   cases hik1 _ rfl
   rename_i hr
   cases hr
   exact endA.renK [(0,0),(1,1),(2,2),(4,3)] 4 hS
  ·refine AW.cF rfl (bF h1) ?_
   refine AW.skip ?_
   refine AW.regL ?_
   refine OB _ (q1X (p:=k1) (q:=1) (q1h hltk1 hl1)) ?_
   refine V rfl ?_
   refine AL.nil ?_
   cases hr
   exact⟨_,rfl,GH.renK hS [(0,0),(1,1),(2,2),(4,3)] 4⟩
 ·subst ek1
  obtain⟨s1,rfl⟩:∃ y,y=sk1:=⟨_,rfl⟩
  refine AW.seq (AW.regL ?_)
  refine V rfl ?_
  refine AL.nil ?_
  refine AW.seq (AW.cF rfl (dF hltk1) ?_)
  refine AW.exit ?_
  refine AW.seq (AW.regL ?_)
  refine V rfl ?_
  refine AL.nil ?_
  refine AW.ret ?_
  cases hr
  exact endA.renK [(0,0),(1,1),(2,2),(3,3)] 4 hS
def q1m (rec_ieveryNode_iAttributeUses_1:Expr→(List Occurrence)→Option (Bool × (List Occurrence)))(a0:(List Expr))(o0:(List Occurrence)):Option (Bool × (List Occurrence)):=
 (q1n rec_ieveryNode_iAttributeUses_1 a0 o0).bind fun (y1,z1)=>
 some (decide (0≤y1),z1)
theorem q2O {rec_ieveryNode_iAttributeUses_1:Expr→(List Occurrence)→Option (Bool × (List Occurrence))}(ih_ieveryNode_iAttributeUses_1:∀ {m:Md} {a0:Expr} {o0:(List Occurrence)} {r:(Bool × (List Occurrence))},rec_ieveryNode_iAttributeUses_1 a0 o0=some r→Ok Tryz.prog 86 [Expr.x m a0,.fn 87 [.pb 0 0]] [.box [.ref 1 none],.row .fz 2 (o0.map Occurrence.D)] (.d .fz (.b r.1)) [.box [.ref 2 none],.dead,.row .fz 2 (r.2.map Occurrence.D)]){m:Md}{a0:(List Expr)}{o0:(List Occurrence)}{r:(Bool × (List Occurrence))}(hr:q1m rec_ieveryNode_iAttributeUses_1 a0 o0=some r):Ok Tryz.prog 53 [.d m (.sl 7 (a0.map Expr.D)),.fn 118 [.pb 1 0]] [.box [.ref 2 none],.box [.fn 87 [.pb 0 0]],.row .fz 2 (o0.map Occurrence.D)] (.d .fz (.b r.1)) [.box [.ref 3 none],.box [.fn 87 [.pb 0 0]],.dead,.row .fz 2 (r.2.map Occurrence.D)]:=by
 refine Ok.enter rfl Tryz.func53 rfl rfl rfl fun S hS=>?_
 unfold q1m at hr
 refine AW.seq (AW.regL ?_)
 refine V rfl ?_
 refine AL.nil ?_
 refine AW.seq (AW.regL ?_)
 iterate 2 refine V rfl ?_
 refine bdE hr fun q1 hq1 hr=>?_
 obtain⟨y1,z1⟩:=q1
 refine CB [(0,0),(1,1),(2,2),(3,3)] [] (q3b ih_ieveryNode_iAttributeUses_1 (m:=m) hq1) ?_
 iterate 2 refine V rfl ?_
 refine AL.nil ?_
 refine AW.ret ?_
 cases hr
 exact endA.renK [(0,0),(1,1),(2,2),(3,3)] 4 hS
end Go.Proofs.YtiojgbiimbefiabGreat
