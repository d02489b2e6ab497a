/- What some functions of the program compute, as partial functions on plain data, and that they do; each lemma bears its conditions in its statement. -/
import Derived.Test.YtiojgbiimbefiacGreatLift5
set_option linter.unusedVariables false
set_option linter.unusedSimpArgs false
set_option linter.ambiguousOpen false
set_option linter.unusedSectionVars false
set_option linter.unnecessarySimpa false
set_option maxRecDepth 100000
set_option maxHeartbeats 40000000
noncomputable section
namespace Go.Proofs.YtiojgbiimbefiacGreat
open Go Go.E Go.A
def z1U (a0:Grammar)(a1:Rule):Nat→Occurrence→Unit→Option (Unit ⊕ Bool):=fun k1 xk1 _=>
 (q8w a0 a1 xk1).bind fun y2=>
 if y2=true then (
 some (.inl ())
 ) else (
 some (.inr false)
 )
def q5J (a0:Grammar)(a1:Rule)(a2:Expr):Option Bool:=
 (q2G a2).bind fun y1=>
 (findL (z1U a0 a1) 0 y1 ()).bind <| onr (fun r1=>some r1) fun _=>
 some true
theorem q9q {m:Md}{a0:Grammar}{a1:Rule}{a2:Expr}{r:Bool}(hr:q5J a0 a1 a2=some r):Ok Tryz.prog 137 [Grammar.y m a0,Rule.x m a1,Expr.x m a2] [] (.d .fz (.b r)) []:=by
 refine Ok.enter rfl Tryz.func137 rfl rfl rfl fun S hS=>?_
 unfold q5J at hr
 refine AW.seq (AW.regL ?_)
 refine BX 0 ?_
 refine BX 1 ?_
 refine BX 2 ?_
 refine V rfl ?_
 refine AL.nil ?_
 refine AW.seq (AW.regL ?_)
 refine V rfl ?_
 refine bdE hr fun y1 hy1 hr=>?_
 refine CB [] [] (q5H (m:=m) hy1) ?_
 refine V rfl ?_
 refine AL.nil ?_
 refine AW.seq (AW.seq (AW.regL ?_))
 refine V rfl ?_
 refine AL.nil ?_
 refine AW.block ?_
 refine AW.len (.tmp 7 rfl) fun hl1=>?_
 refine bdE hr fun q1 hqq1 hr=>?_
 refine AW.findL hqq1 hl1 3 (fun k1 _=>[(3,.pb 0 0),(4,.pb 1 0),(7,.d m (.sl 2 (y1.map Occurrence.D))),(8,.d .fz (.i .i64 (k1:Int)))]) (fun k1 _=>[]) (GH.trans (GH.bw (q:=0) [.d m (.sl 2 (a0.Symbols.map Symbol.D)),.u] (.cons .rfl (.cons .u .nil)) rfl) (GH.renK hS [(0,0),(1,1),(2,2)] 3)) (fun k1 xk1 sk1 ok1 hxk1 hr hltk1 hik1=>?_) fun k1 sk1 ek1 hltk1=>?_
 ·refine AW.seq (AW.seq (AW.regL ?_))
  iterate 2 refine V rfl ?_
  refine LF ?_
  refine V rfl ?_
  refine AL.nil ?_
  refine AW.cT rfl (dT hltk1) ?_
  refine AW.skip ?_
  refine AW.seq (AW.block (AW.seq (AW.drawL (h:=?_))))
  iterate 4 refine V rfl ?_
  refine IF (Int.natCast_nonneg _) hxk1 ?_
  refine V rfl ?_
  refine bdE hr fun y2 hy2 hr=>?_
  refine CB [] [] (z8H (m:=m) hy2) ?_
  refine V rfl ?_
  refine AL.nil ?_
  refine ifE hr (fun h1 hr=>?_) fun h1 hr=>?_
  ·refine AW.cF rfl (bnF h1) ?_
   refine AW.skip ?_
   refine AW.regL ?_
   refine V rfl ?_
   refine OB _ (q2b (p:=k1) (q:=1) (q1o hltk1 hl1)) ?_
   refine V rfl ?_
   refine AL.nil ?_
   cases hr
   exact⟨_,rfl,GH.trans (GH.bw (q:=0) [.d m (.sl 2 (a0.Symbols.map Symbol.D)),.u] (.cons .rfl (.cons .u .nil)) rfl) (GH.renK hS [(0,0),(1,1),(2,2)] 3)⟩
  ·refine AW.cT rfl (bnT h1) ?_
   refine AW.seq (AW.regL ?_)
   refine V rfl ?_
   refine AL.nil ?_
   refine AW.ret ?_
   cases hr
   cases hik1 _ rfl
   rename_i hr
   cases hr
   exact endA.renK [] 0 hS
 ·subst ek1
  refine AW.seq (AW.seq (AW.regL ?_))
  iterate 2 refine V rfl ?_
  refine LF ?_
  refine V rfl ?_
  refine AL.nil ?_
  refine AW.cF rfl (dF hltk1) ?_
  refine AW.exit ?_
  refine AW.seq (AW.regL ?_)
  refine V rfl ?_
  refine AL.nil ?_
  refine AW.ret ?_
  cases hr
  exact endA.renK [] 0 hS
def q9R (a0:Grammar)(a1:Rule):Nat→Equation→Unit→Option (Unit ⊕ Bool):=fun k1 xk1 _=>
 (q5J a0 a1 xk1.Expr).bind fun y1=>
 if y1=true then (
 some (.inl ())
 ) else (
 some (.inr true)
 )
def q9S (a0:Grammar)(a1:Rule):Nat→Contribution→Unit→Option (Unit ⊕ Bool):=fun k2 xk2 _=>
 (q5J a0 a1 xk2.Target).bind fun y2=>
 if y2=true then (
 (q5J a0 a1 xk2.Value).bind fun y3=>
 if y3=true then (
 some (.inl ())
 ) else (
 some (.inr true)
 )
 ) else (
 some (.inr true)
 )
def q5Z (a0:Grammar)(a1:Rule):Option Bool:=
 (findL (q9R a0 a1) 0 a1.Equations ()).bind <| onr (fun r1=>some r1) fun _=>
 (findL (q9S a0 a1) 0 a1.Contributions ()).bind <| onr (fun r2=>some r2) fun _=>
 some false
theorem z3T {m:Md}{a0:Grammar}{a1:Rule}{r:Bool}(hr:q5Z a0 a1=some r):Ok Tryz.prog 115 [Grammar.y m a0,Rule.x m a1] [] (.d .fz (.b r)) []:=by
 refine Ok.enter rfl Tryz.func115 rfl rfl rfl fun S hS=>?_
 unfold q5Z at hr
 refine AW.seq (AW.regL ?_)
 refine BX 0 ?_
 refine BX 1 ?_
 refine V rfl ?_
 refine AL.nil ?_
 refine AW.seq (AW.seq (AW.regL ?_))
 refine V rfl ?_
 refine AL.nil ?_
 refine AW.block ?_
 refine AW.len (.ag 4 (.tmp 1 rfl) rfl) fun hl1=>?_
 refine bdE hr fun q1 hqq1 hr=>?_
 refine AW.findL hqq1 hl1 2 (fun k1 _=>[(2,.pb 0 0),(3,.pb 1 0),(5,.d .fz (.i .i64 (k1:Int)))]) (fun k1 _=>[]) (GH.trans (GH.bw (q:=0) [.d m (.sl 2 (a0.Symbols.map Symbol.D)),.u] (.cons .rfl (.cons .u .nil)) rfl) (GH.renK hS [(0,0),(1,1)] 2)) (fun k1 xk1 sk1 ok1 hxk1 hr hltk1 hik1=>?_) fun k1 sk1 ek1 hltk1=>?_
 ·refine AW.seq (AW.seq (AW.regL ?_))
  iterate 3 refine V rfl ?_
  refine LF ?_
  refine V rfl ?_
  refine AL.nil ?_
  refine AW.cT rfl (dT hltk1) ?_
  refine AW.skip ?_
  refine AW.seq (AW.block (AW.seq (AW.drawL (h:=?_))))
  iterate 5 refine V rfl ?_
  refine IF (Int.natCast_nonneg _) hxk1 ?_
  iterate 2 refine V rfl ?_
  refine bdE hr fun y1 hy1 hr=>?_
  refine CB [] [] (q9q (m:=m) hy1) ?_
  refine V rfl ?_
  refine AL.nil ?_
  refine ifE hr (fun h1 hr=>?_) fun h1 hr=>?_
  ·refine AW.cF rfl (bnF h1) ?_
   refine AW.skip ?_
   refine AW.regL ?_
   refine V rfl ?_
   refine OB _ (q2b (p:=k1) (q:=1) (q1o hltk1 hl1)) ?_
   refine V rfl ?_
   refine AL.nil ?_
   cases hr
   exact⟨_,rfl,GH.trans (GH.bw (q:=0) [.d m (.sl 2 (a0.Symbols.map Symbol.D)),.u] (.cons .rfl (.cons .u .nil)) rfl) (GH.renK hS [(0,0),(1,1)] 2)⟩
  ·refine AW.cT rfl (bnT h1) ?_
   refine AW.seq (AW.regL ?_)
   refine V rfl ?_
   refine AL.nil ?_
   refine AW.ret ?_
   cases hr
   cases hik1 _ rfl
   rename_i hr
   cases hr
   exact endA.renK [] 0 hS
 ·subst ek1
  refine AW.seq (AW.seq (AW.regL ?_))
  iterate 3 refine V rfl ?_
  refine LF ?_
  refine V rfl ?_
  refine AL.nil ?_
  refine AW.cF rfl (dF hltk1) ?_
  refine AW.exit ?_
  refine AW.seq (AW.seq (AW.regL ?_))
  refine V rfl ?_
  refine AL.nil ?_
  refine AW.block ?_
  refine AW.len (.box 1 5 rfl rfl) fun hl2=>?_
  refine bdE hr fun q2 hqq2 hr=>?_
  refine AW.findL hqq2 hl2 2 (fun k2 _=>[(2,.pb 0 0),(3,.pb 1 0),(6,.d .fz (.i .i64 (k2:Int)))]) (fun k2 _=>[]) (GH.trans (GH.bw (q:=0) [.d m (.sl 2 (a0.Symbols.map Symbol.D)),.u] (.cons .rfl (.cons .u .nil)) rfl) (GH.renK hS [(0,0),(1,1)] 2)) (fun k2 xk2 sk2 ok2 hxk2 hr hltk2 hik2=>?_) fun k2 sk2 ek2 hltk2=>?_
  ·refine AW.seq (AW.seq (AW.regL ?_))
   iterate 3 refine V rfl ?_
   refine LF ?_
   refine V rfl ?_
   refine AL.nil ?_
   refine AW.cT rfl (dT hltk2) ?_
   refine AW.skip ?_
   refine AW.seq (AW.block (AW.seq (AW.drawL (h:=?_))))
   iterate 5 refine V rfl ?_
   refine IF (Int.natCast_nonneg _) hxk2 ?_
   iterate 2 refine V rfl ?_
   refine bdE hr fun y2 hy2 hr=>?_
   refine CB [] [] (q9q (m:=m) hy2) ?_
   refine V rfl ?_
   refine ifE hr (fun h2 hr=>?_) fun h2 hr=>?_
   ·refine VF rfl (bnF h2) ?_
    iterate 5 refine V rfl ?_
    refine IF (Int.natCast_nonneg _) hxk2 ?_
    iterate 2 refine V rfl ?_
    refine bdE hr fun y3 hy3 hr=>?_
    refine CB [] [] (q9q (m:=m) hy3) ?_
    iterate 2 refine V rfl ?_
    refine AL.nil ?_
    refine ifE hr (fun h3 hr=>?_) fun h3 hr=>?_
    ·refine AW.cF rfl (bnF h3) ?_
     refine AW.skip ?_
     refine AW.regL ?_
     refine V rfl ?_
     refine OB _ (q2b (p:=k2) (q:=1) (q1o hltk2 hl2)) ?_
     refine V rfl ?_
     refine AL.nil ?_
     cases hr
     exact⟨_,rfl,GH.trans (GH.bw (q:=0) [.d m (.sl 2 (a0.Symbols.map Symbol.D)),.u] (.cons .rfl (.cons .u .nil)) rfl) (GH.renK hS [(0,0),(1,1)] 2)⟩
    ·refine AW.cT rfl (bnT h3) ?_
     refine AW.seq (AW.regL ?_)
     refine V rfl ?_
     refine AL.nil ?_
     refine AW.ret ?_
     cases hr
     cases hik2 _ rfl
     rename_i hr
     cases hr
     exact endA.renK [] 0 hS
   ·refine VT rfl (bnT h2) ?_
    refine AL.off ?_
    refine AL.off ?_
    refine AL.off ?_
    refine AL.off ?_
    refine AL.off ?_
    refine AL.off ?_
    refine AL.off ?_
    refine AL.off ?_
    refine AL.off ?_
    refine AL.off ?_
    refine V rfl ?_
    refine AL.nil ?_
    refine AW.cT rfl rfl ?_
    refine AW.seq (AW.regL ?_)
    refine V rfl ?_
    refine AL.nil ?_
    refine AW.ret ?_
    cases hr
    cases hik2 _ rfl
    rename_i hr
    cases hr
    exact endA.renK [] 0 hS
  ·subst ek2
   refine AW.seq (AW.seq (AW.regL ?_))
   iterate 3 refine V rfl ?_
   refine LF ?_
   refine V rfl ?_
   refine AL.nil ?_
   refine AW.cF rfl (dF hltk2) ?_
   refine AW.exit ?_
   refine AW.seq (AW.regL ?_)
   refine V rfl ?_
   refine AL.nil ?_
   refine AW.ret ?_
   cases hr
   exact endA.renK [] 0 hS
def q6a (a0:Grammar)(a1:Rule)(a2:Int):Option Bool:=
 if a2=3 then (
 (q5m a0 a1).bind fun y1=>
 some (!y1)
 ) else (
 if a2=4 then (
 (q5n a0 a1).bind fun y2=>
 some y2
 ) else (
 if a2=5 then (
 (q6M a0 a1).bind fun y3=>
 some y3
 ) else (
 (q5Z a0 a1).bind fun y4=>
 some y4
 )
 )
 )
theorem z3U {m:Md}{a0:Grammar}{a1:Rule}{a2:Int}{r:Bool}(hr:q6a a0 a1 a2=some r):Ok Tryz.prog 78 [Grammar.y m a0,Rule.x m a1,.d .fz (.i .i64 a2)] [] (.d .fz (.b r)) []:=by
 refine Ok.enter rfl Tryz.func78 rfl rfl rfl fun S hS=>?_
 unfold q6a at hr
 refine AW.seq (AW.regL ?_)
 refine BX 0 ?_
 refine BX 1 ?_
 refine V rfl ?_
 refine AL.nil ?_
 refine AW.seq (AW.seq (AW.regL ?_))
 refine V rfl ?_
 refine AL.nil ?_
 refine AW.block (AW.seq (AW.regL ?_))
 iterate 2 refine V rfl ?_
 refine AL.nil ?_
 refine ifE hr (fun h1 hr=>?_) fun h1 hr=>?_
 ·refine AW.cT rfl (dT h1) ?_
  refine AW.seq (AW.regL ?_)
  iterate 2 refine V rfl ?_
  refine bdE hr fun y1 hy1 hr=>?_
  refine CB [] [] (z2y (m:=m) hy1) ?_
  iterate 2 refine V rfl ?_
  refine AL.nil ?_
  refine AW.ret ?_
  cases hr
  exact endA.renK [] 0 hS
 ·refine AW.cF rfl (dF h1) ?_
  refine AW.seq (AW.regL ?_)
  iterate 2 refine V rfl ?_
  refine AL.nil ?_
  refine ifE hr (fun h2 hr=>?_) fun h2 hr=>?_
  ·refine AW.cT rfl (dT h2) ?_
   refine AW.seq (AW.regL ?_)
   iterate 2 refine V rfl ?_
   refine bdE hr fun y2 hy2 hr=>?_
   refine CB [] [] (z2z (m:=m) hy2) ?_
   refine V rfl ?_
   refine AL.nil ?_
   refine AW.ret ?_
   cases hr
   exact endA.renK [] 0 hS
  ·refine AW.cF rfl (dF h2) ?_
   refine AW.seq (AW.regL ?_)
   iterate 2 refine V rfl ?_
   refine AL.nil ?_
   refine ifE hr (fun h3 hr=>?_) fun h3 hr=>?_
   ·refine AW.cT rfl (dT h3) ?_
    refine AW.seq (AW.regL ?_)
    iterate 2 refine V rfl ?_
    refine bdE hr fun y3 hy3 hr=>?_
    refine CB [] [] (z5o (m:=m) hy3) ?_
    refine V rfl ?_
    refine AL.nil ?_
    refine AW.ret ?_
    cases hr
    exact endA.renK [] 0 hS
   ·refine AW.cF rfl (dF h3) ?_
    refine AW.skip ?_
    refine AW.seq (AW.regL ?_)
    iterate 2 refine V rfl ?_
    refine bdE hr fun y4 hy4 hr=>?_
    refine CB [] [] (z3T (m:=m) hy4) ?_
    refine V rfl ?_
    refine AL.nil ?_
    refine AW.ret ?_
    cases hr
    exact endA.renK [] 0 hS
def q8Y:Nat→Attribute→Unit→Option (Unit ⊕ (Int × Int)):=fun k1 xk1 _=>
 if xk1.Mode=1 then (
 some (.inr (2,0))
 ) else (
 some (.inl ())
 )
def q5R (a0:Grammar)(s1:Int):Nat→Rule→Unit→Option (Unit ⊕ (Int × Int)):=fun k3 xk3 _=>
 (q6a a0 xk3 s1).bind fun y4=>
 if y4=true then (
 some (.inr (s1,(k3:Int)))
 ) else (
 some (.inl ())
 )
def q5S (a0:Grammar):Int→Option (Int ⊕ (Unit ⊕ (Int × Int))):=fun s1=>
 if s1≤6 then (
 (findL (q5R a0 s1) 0 a0.Rules ()).bind <| onr (fun r2=>some (.inr (.inr r2))) fun _=>
 grd (I64 (s1+1)) <|
 some (.inl (s1+1))
 ) else (
 some (.inr (.inl ()))
 )
def q5o (a0:Grammar):Option (Int × Int):=
 (q2g (a0.Symbols.length:Int) 1 4).bind fun y1=>
 if y1=true then (
 (q2g (a0.Rules.length:Int) 1 8).bind fun y2=>
 if y2=true then (
 (q8v a0).bind fun y3=>
 if 0≤y3 then (
 some (1,y3)
 ) else (
 (a0.Symbols[0]?).bind fun x1=>
 (findL q8Y 0 x1.Attributes ()).bind <| onr (fun r1=>some r1) fun _=>
 (q2t (q5S a0) 3).bind <| onr (fun r3=>some r3) fun ()=>
 some (0,0)
 )
 ) else (
 some (1,0)
 )
 ) else (
 some (1,0)
 )
theorem z2A {m:Md}{a0:Grammar}{r:(Int × Int)}(hr:q5o a0=some r):Ok Tryz.prog 55 [Grammar.x m a0] [] (.tu [.d .fz (.i .i64 r.1),.d .fz (.i .i64 r.2)]) []:=by
 refine Ok.enter rfl Tryz.func55 rfl rfl rfl fun S hS=>?_
 unfold q5o at hr
 refine AW.seq (AW.regL ?_)
 refine BX 0 ?_
 iterate 2 refine V rfl ?_
 refine AL.nil ?_
 refine AW.seq (AW.seq (AW.regL ?_))
 iterate 2 refine V rfl ?_
 refine LF ?_
 refine bdE hr fun y1 hy1 hr=>?_
 refine CB [] [] (q2w hy1) ?_
 refine V rfl ?_
 refine ifE hr (fun h1 hr=>?_) fun h1 hr=>?_
 ·refine VF rfl (bnF h1) ?_
  iterate 2 refine V rfl ?_
  refine LF ?_
  refine bdE hr fun y2 hy2 hr=>?_
  refine CB [] [] (q2w hy2) ?_
  iterate 2 refine V rfl ?_
  refine AL.nil ?_
  refine ifE hr (fun h2 hr=>?_) fun h2 hr=>?_
  ·refine AW.cF rfl (bnF h2) ?_
   refine AW.skip ?_
   refine AW.seq (AW.regL ?_)
   refine V rfl ?_
   refine bdE hr fun y3 hy3 hr=>?_
   refine CB [] [] (z8G (m:=m) hy3) ?_
   refine V rfl ?_
   refine AL.nil ?_
   refine AW.seq (AW.seq (AW.regL ?_))
   iterate 2 refine V rfl ?_
   refine AL.nil ?_
   refine ifE hr (fun h3 hr=>?_) fun h3 hr=>?_
   ·refine AW.cT rfl (dT h3) ?_
    refine AW.seq (AW.regL ?_)
    iterate 3 refine V rfl ?_
    refine AL.nil ?_
    refine AW.ret ?_
    cases hr
    exact endA.renK [] 0 hS
   ·refine AW.cF rfl (dF h3) ?_
    refine AW.skip ?_
    refine AW.seq (AW.seq (AW.regL ?_))
    refine V rfl ?_
    refine AL.nil ?_
    refine bdE hr fun x1 hx1 hr=>?_
    refine AW.block ?_
    refine AW.len (.el 1 (.ag 0 (.tmp 0 rfl) rfl) hx1 rfl) fun hl1=>?_
    refine bdE hr fun q1 hqq1 hr=>?_
    refine AW.findL hqq1 hl1 1 (fun k1 _=>[(1,.pb 0 0),(5,.d .fz (.i .i64 (k1:Int)))]) (fun k1 _=>[]) (GH.renK hS [(0,0)] 1) (fun k1 xk1 sk1 ok1 hxk1 hr hltk1 hik1=>?_) fun k1 sk1 ek1 hltk1=>?_
    ·refine AW.seq (AW.seq (AW.regL ?_))
     iterate 3 refine V rfl ?_
     refine IF (Int.natCast_nonneg _) hx1 ?_
     iterate 2 refine V rfl ?_
     refine LF ?_
     refine V rfl ?_
     refine AL.nil ?_
     refine AW.cT rfl (dT hltk1) ?_
     refine AW.skip ?_
     refine AW.seq (AW.block (AW.seq (AW.regL ?_)))
     iterate 2 refine V rfl ?_
     refine IF (Int.natCast_nonneg _) hx1 ?_
     iterate 3 refine V rfl ?_
     refine IF (Int.natCast_nonneg _) hxk1 ?_
     iterate 3 refine V rfl ?_
     refine AL.nil ?_
     refine ifE hr (fun h4 hr=>?_) fun h4 hr=>?_
     ·refine AW.cT rfl (dT h4) ?_
      refine AW.seq (AW.regL ?_)
      iterate 2 refine V rfl ?_
      refine AL.nil ?_
      refine AW.ret ?_
      cases hr
      cases hik1 _ rfl
      rename_i hr
      cases hr
      exact endA.renK [] 0 hS
     ·refine AW.cF rfl (dF h4) ?_
      refine AW.skip ?_
      refine AW.regL ?_
      refine V rfl ?_
      refine OB _ (q2b (p:=k1) (q:=1) (q1o hltk1 hl1)) ?_
      refine V rfl ?_
      refine AL.nil ?_
      cases hr
      exact⟨_,rfl,GH.renK hS [(0,0)] 1⟩
    ·subst ek1
     refine AW.seq (AW.seq (AW.regL ?_))
     iterate 3 refine V rfl ?_
     refine IF (Int.natCast_nonneg _) hx1 ?_
     iterate 2 refine V rfl ?_
     refine LF ?_
     refine V rfl ?_
     refine AL.nil ?_
     refine AW.cF rfl (dF hltk1) ?_
     refine AW.exit ?_
     refine AW.seq (AW.seq (AW.regL ?_))
     refine V rfl ?_
     refine AL.nil ?_
     refine bdE hr fun q2 hqq2 hr=>?_
     refine AW.cut 1 (fun _=>[]) (fun _=>[]) (M:=fun x=>q2 = .inl x) ?_ fun x hx=>?_
     ·refine AW.block (AW.iter hqq2 1 (fun s1=>[(1,.pb 0 0),(6,.d .fz (.i .i64 s1))]) (fun s1=>[]) (GH.renK hS [(0,0)] 1) fun sk2 ok2 hr hik2=>?_)
      obtain⟨s1,rfl⟩:∃ y,y=sk2:=⟨_,rfl⟩
      have hr:=hr
      refine AW.seq (AW.seq (AW.regL ?_))
      iterate 2 refine V rfl ?_
      refine AL.nil ?_
      refine ifE hr (fun h5 hr=>?_) fun h5 hr=>?_
      ·refine AW.cT rfl (dT h5) ?_
       refine AW.skip ?_
       refine AW.seq (AW.block (AW.seq (AW.regL ?_)))
       refine V rfl ?_
       refine AL.nil ?_
       refine AW.block ?_
       refine AW.len (.box 0 1 rfl rfl) fun hl3=>?_
       refine bdE hr fun q3 hqq3 hr=>?_
       refine AW.findL hqq3 hl3 1 (fun k3 _=>[(1,.pb 0 0),(6,.d .fz (.i .i64 s1)),(7,.d .fz (.i .i64 (k3:Int)))]) (fun k3 _=>[]) (GH.renK hS [(0,0)] 1) (fun k3 xk3 sk3 ok3 hxk3 hr hltk3 hik3=>?_) fun k3 sk3 ek3 hltk3=>?_
       ·refine AW.seq (AW.seq (AW.regL ?_))
        iterate 3 refine V rfl ?_
        refine LF ?_
        refine V rfl ?_
        refine AL.nil ?_
        refine AW.cT rfl (dT hltk3) ?_
        refine AW.skip ?_
        refine AW.seq (AW.block (AW.seq (AW.drawL (h:=?_))))
        iterate 4 refine V rfl ?_
        refine IF (Int.natCast_nonneg _) hxk3 ?_
        iterate 2 refine V rfl ?_
        refine bdE hr fun y4 hy4 hr=>?_
        refine CB [] [] (z3U (m:=m) hy4) ?_
        refine AL.nil ?_
        refine ifE hr (fun h6 hr=>?_) fun h6 hr=>?_
        ·refine AW.cT rfl h6 ?_
         refine AW.seq (AW.regL ?_)
         iterate 4 refine V rfl ?_
         refine AL.nil ?_
         refine AW.ret ?_
         cases hr
         cases hik3 _ rfl
         rename_i hr
         cases hr
         cases hik2 _ rfl
         rename_i hr
         cases hr
         exact endA.renK [] 0 hS
        ·refine AW.cF rfl (bF h6) ?_
         refine AW.skip ?_
         refine AW.regL ?_
         refine V rfl ?_
         refine OB _ (q2b (p:=k3) (q:=1) (q1o hltk3 hl3)) ?_
         refine V rfl ?_
         refine AL.nil ?_
         cases hr
         exact⟨_,rfl,GH.renK hS [(0,0)] 1⟩
       ·subst ek3
        refine AW.seq (AW.seq (AW.regL ?_))
        iterate 3 refine V rfl ?_
        refine LF ?_
        refine V rfl ?_
        refine AL.nil ?_
        refine AW.cF rfl (dF hltk3) ?_
        refine AW.exit ?_
        refine AW.regL ?_
        refine V rfl ?_
        refine ggE hr fun g1 hr=>?_
        refine OB _ (bAdd g1) ?_
        refine V rfl ?_
        refine AL.nil ?_
        cases hr
        exact⟨_,rfl,GH.renK hS [(0,0)] 1⟩
      ·refine AW.cF rfl (dF h5) ?_
       refine AW.exit ?_
       cases hr
       cases hik2 _ rfl
       exact⟨_,rfl,GH.renK hS [(0,0)] 1⟩
     ·subst hx
      refine AW.seq (AW.regL ?_)
      iterate 2 refine V rfl ?_
      refine AL.nil ?_
      refine AW.ret ?_
      cases hr
      exact endA.renK [] 0 hS
  ·refine AW.cT rfl (bnT h2) ?_
   refine AW.seq (AW.regL ?_)
   iterate 2 refine V rfl ?_
   refine AL.nil ?_
   refine AW.ret ?_
   cases hr
   exact endA.renK [] 0 hS
 ·refine VT rfl (bnT h1) ?_
  refine AL.off ?_
  refine AL.off ?_
  refine AL.off ?_
  refine AL.off ?_
  refine AL.off ?_
  refine V rfl ?_
  refine AL.nil ?_
  refine AW.cT rfl rfl ?_
  refine AW.seq (AW.regL ?_)
  iterate 2 refine V rfl ?_
  refine AL.nil ?_
  refine AW.ret ?_
  cases hr
  exact endA.renK [] 0 hS
def q3y (a0:Grammar)(a1:ByteArray)(a2:ByteArray):Option Int:=
 (q1U a0 a1).bind fun (y1,y2)=>
 (q2j y1 a2).bind fun (y3,y4)=>
 if y4=true then (
 some y3.Type_
 ) else (
 some 0
 )
theorem q6f {m:Md}{a0:Grammar}{a1:ByteArray}{a2:ByteArray}{r:Int}(hr:q3y a0 a1 a2=some r):Ok Tryz.prog 80 [Grammar.y m a0,.d .fz (.s a1),.d .fz (.s a2)] [] (.d .fz (.i .i64 r)) []:=by
 refine Ok.enter rfl Tryz.func80 rfl rfl rfl fun S hS=>?_
 unfold q3y at hr
 refine AW.seq (AW.regL ?_)
 refine BX 0 ?_
 refine V rfl ?_
 refine AL.nil ?_
 refine AW.seq (AW.regL ?_)
 iterate 2 refine V rfl ?_
 refine bdE hr fun q1 hq1 hr=>?_
 obtain⟨y1,y2⟩:=q1
 refine CB [(0,1)] [] (q3m (m:=m) hq1) ?_
 iterate 3 refine V rfl ?_
 refine NV 2 ?_
 refine SB ?_
 refine V rfl ?_
 refine AL.nil ?_
 refine AW.seq (AW.regL ?_)
 iterate 2 refine V rfl ?_
 refine bdE hr fun q2 hq2 hr=>?_
 obtain⟨y3,y4⟩:=q2
 refine CB [] [1] (q4D (m:=.bo) hq2) ?_
 iterate 3 refine V rfl ?_
 refine NV 3 ?_
 refine SB ?_
 refine V rfl ?_
 refine AL.nil ?_
 refine AW.seq (AW.seq (AW.regL ?_))
 iterate 2 refine V rfl ?_
 refine AL.nil ?_
 refine ifE hr (fun h1 hr=>?_) fun h1 hr=>?_
 ·refine AW.cF rfl (bnF h1) ?_
  refine AW.skip ?_
  refine AW.seq (AW.regL ?_)
  iterate 3 refine V rfl ?_
  refine AL.nil ?_
  refine AW.ret ?_
  cases hr
  exact endA.renK [] 0 hS
 ·refine AW.cT rfl (bnT h1) ?_
  refine AW.seq (AW.regL ?_)
  refine V rfl ?_
  refine AL.nil ?_
  refine AW.ret ?_
  cases hr
  exact endA.renK [] 0 hS
def z1g (rec_sTypeOfExpr:Grammar→Rule→Expr→Option Int)(a0:Grammar)(a1:Rule)(a2:Expr):Option Int:=
 (q1M a2.N).bind fun (y1,y2,y3)=>
 if (a2.Args.length:Int)=2 then (
 (a2.Args[0]?).bind fun x1=>
 (rec_sTypeOfExpr a0 a1 x1).bind fun y4=>
 if y4=y1 then (
 (a2.Args[1]?).bind fun x2=>
 (rec_sTypeOfExpr a0 a1 x2).bind fun y5=>
 if y5=y2 then (
 some y3
 ) else (
 some 0
 )
 ) else (
 some 0
 )
 ) else (
 some 0
 )
theorem z9R {rec_sTypeOfExpr:Grammar→Rule→Expr→Option Int}(ih_sTypeOfExpr:∀ {m:Md} {a0:Grammar} {a1:Rule} {a2:Expr} {r:Int},rec_sTypeOfExpr a0 a1 a2=some r→Ok Tryz.prog 79 [Grammar.y m a0,Rule.x m a1,Expr.x m a2] [] (.d .fz (.i .i64 r)) []){m:Md}{a0:Grammar}{a1:Rule}{a2:Expr}{r:Int}(hr:z1g rec_sTypeOfExpr a0 a1 a2=some r):Ok Tryz.prog 116 [Grammar.y m a0,Rule.x m a1,Expr.x m a2] [] (.d .fz (.i .i64 r)) []:=by
 refine Ok.enter rfl Tryz.func116 rfl rfl rfl fun S hS=>?_
 unfold z1g at hr
 refine AW.seq (AW.regL ?_)
 refine BX 0 ?_
 refine BX 1 ?_
 refine BX 2 ?_
 refine V rfl ?_
 refine AL.nil ?_
 refine AW.seq (AW.regL ?_)
 iterate 2 refine V rfl ?_
 refine bdE hr fun q1 hq1 hr=>?_
 obtain⟨y1,y2,y3⟩:=q1
 refine CB [] [] (q3a hq1) ?_
 iterate 7 refine V rfl ?_
 refine AL.nil ?_
 refine AW.seq (AW.seq (AW.drawL (h:=?_)))
 iterate 2 refine V rfl ?_
 refine LF ?_
 refine V rfl ?_
 refine ifE hr (fun h1 hr=>?_) fun h1 hr=>?_
 ·refine VF rfl (nF h1) ?_
  iterate 4 refine V rfl ?_
  refine bdE hr fun x1 hx1 hr=>?_
  refine IFq (Int.natCast_nonneg _) hx1 (Expr.D_cells x1) ?_
  refine V rfl ?_
  refine bdE hr fun y4 hy4 hr=>?_
  refine CB [] [] (ih_sTypeOfExpr (m:=m) hy4) ?_
  iterate 3 refine V rfl ?_
  refine ifE hr (fun h2 hr=>?_) fun h2 hr=>?_
  ·refine VF rfl (nF h2) ?_
   iterate 4 refine V rfl ?_
   refine bdE hr fun x2 hx2 hr=>?_
   refine IFq (Int.natCast_nonneg _) hx2 (Expr.D_cells x2) ?_
   refine V rfl ?_
   refine bdE hr fun y5 hy5 hr=>?_
   refine CB [] [] (ih_sTypeOfExpr (m:=m) hy5) ?_
   iterate 3 refine V rfl ?_
   refine AL.nil ?_
   refine ifE hr (fun h3 hr=>?_) fun h3 hr=>?_
   ·refine AW.cF rfl (nF h3) ?_
    refine AW.skip ?_
    refine AW.seq (AW.regL ?_)
    iterate 2 refine V rfl ?_
    refine AL.nil ?_
    refine AW.ret ?_
    cases hr
    exact endA.renK [] 0 hS
   ·refine AW.cT rfl (nT h3) ?_
    refine AW.seq (AW.regL ?_)
    refine V rfl ?_
    refine AL.nil ?_
    refine AW.ret ?_
    cases hr
    exact endA.renK [] 0 hS
  ·refine VT rfl (nT h2) ?_
   refine AL.off ?_
   refine AL.off ?_
   refine AL.off ?_
   refine AL.off ?_
   refine AL.off ?_
   refine AL.off ?_
   refine AL.off ?_
   refine AL.off ?_
   refine AL.off ?_
   refine V rfl ?_
   refine AL.nil ?_
   refine AW.cT rfl rfl ?_
   refine AW.seq (AW.regL ?_)
   refine V rfl ?_
   refine AL.nil ?_
   refine AW.ret ?_
   cases hr
   exact endA.renK [] 0 hS
 ·refine VT rfl (nT h1) ?_
  refine AL.off ?_
  refine AL.off ?_
  refine AL.off ?_
  refine AL.off ?_
  refine AL.off ?_
  refine AL.off ?_
  refine AL.off ?_
  refine AL.off ?_
  refine AL.off ?_
  iterate 2 refine V rfl ?_
  refine AL.off ?_
  refine AL.off ?_
  refine AL.off ?_
  refine AL.off ?_
  refine AL.off ?_
  refine AL.off ?_
  refine AL.off ?_
  refine AL.off ?_
  refine AL.off ?_
  refine V rfl ?_
  refine AL.nil ?_
  refine AW.cT rfl rfl ?_
  refine AW.seq (AW.regL ?_)
  refine V rfl ?_
  refine AL.nil ?_
  refine AW.ret ?_
  cases hr
  exact endA.renK [] 0 hS
def z1h (rec_sTypeOfExpr:Grammar→Rule→Expr→Option Int)(a0:Grammar)(a1:Rule)(a2:Expr):Option Int:=
 if (a2.Args.length:Int)=3 then (
 (a2.Args[0]?).bind fun x1=>
 (rec_sTypeOfExpr a0 a1 x1).bind fun y1=>
 if y1=3 then (
 (a2.Args[1]?).bind fun x2=>
 (rec_sTypeOfExpr a0 a1 x2).bind fun y2=>
 (a2.Args[2]?).bind fun x3=>
 (rec_sTypeOfExpr a0 a1 x3).bind fun y3=>
 if y2=y3 then (
 some y2
 ) else (
 some 0
 )
 ) else (
 some 0
 )
 ) else (
 some 0
 )
theorem z9S {rec_sTypeOfExpr:Grammar→Rule→Expr→Option Int}(ih_sTypeOfExpr:∀ {m:Md} {a0:Grammar} {a1:Rule} {a2:Expr} {r:Int},rec_sTypeOfExpr a0 a1 a2=some r→Ok Tryz.prog 79 [Grammar.y m a0,Rule.x m a1,Expr.x m a2] [] (.d .fz (.i .i64 r)) []){m:Md}{a0:Grammar}{a1:Rule}{a2:Expr}{r:Int}(hr:z1h rec_sTypeOfExpr a0 a1 a2=some r):Ok Tryz.prog 117 [Grammar.y m a0,Rule.x m a1,Expr.x m a2] [] (.d .fz (.i .i64 r)) []:=by
 refine Ok.enter rfl Tryz.func117 rfl rfl rfl fun S hS=>?_
 unfold z1h at hr
 refine AW.seq (AW.regL ?_)
 refine BX 0 ?_
 refine BX 1 ?_
 refine BX 2 ?_
 refine V rfl ?_
 refine AL.nil ?_
 refine AW.seq (AW.seq (AW.drawL (h:=?_)))
 iterate 2 refine V rfl ?_
 refine LF ?_
 refine V rfl ?_
 refine ifE hr (fun h1 hr=>?_) fun h1 hr=>?_
 ·refine VF rfl (nF h1) ?_
  iterate 4 refine V rfl ?_
  refine bdE hr fun x1 hx1 hr=>?_
  refine IFq (Int.natCast_nonneg _) hx1 (Expr.D_cells x1) ?_
  refine V rfl ?_
  refine bdE hr fun y1 hy1 hr=>?_
  refine CB [] [] (ih_sTypeOfExpr (m:=m) hy1) ?_
  iterate 2 refine V rfl ?_
  refine AL.nil ?_
  refine ifE hr (fun h2 hr=>?_) fun h2 hr=>?_
  ·refine AW.cF rfl (nF h2) ?_
   refine AW.skip ?_
   refine AW.seq (AW.drawL (h:=?_))
   iterate 4 refine V rfl ?_
   refine bdE hr fun x2 hx2 hr=>?_
   refine IFq (Int.natCast_nonneg _) hx2 (Expr.D_cells x2) ?_
   refine V rfl ?_
   refine bdE hr fun y2 hy2 hr=>?_
   refine CB [] [] (ih_sTypeOfExpr (m:=m) hy2) ?_
   refine V rfl ?_
   refine AL.nil ?_
   refine AW.seq (AW.seq (AW.drawL (h:=?_)))
   iterate 5 refine V rfl ?_
   refine bdE hr fun x3 hx3 hr=>?_
   refine IFq (Int.natCast_nonneg _) hx3 (Expr.D_cells x3) ?_
   refine V rfl ?_
   refine bdE hr fun y3 hy3 hr=>?_
   refine CB [] [] (ih_sTypeOfExpr (m:=m) hy3) ?_
   refine V rfl ?_
   refine AL.nil ?_
   refine ifE hr (fun h3 hr=>?_) fun h3 hr=>?_
   ·refine AW.cF rfl (nF h3) ?_
    refine AW.skip ?_
    refine AW.seq (AW.regL ?_)
    iterate 2 refine V rfl ?_
    refine AL.nil ?_
    refine AW.ret ?_
    cases hr
    exact endA.renK [] 0 hS
   ·refine AW.cT rfl (nT h3) ?_
    refine AW.seq (AW.regL ?_)
    refine V rfl ?_
    refine AL.nil ?_
    refine AW.ret ?_
    cases hr
    exact endA.renK [] 0 hS
  ·refine AW.cT rfl (nT h2) ?_
   refine AW.seq (AW.regL ?_)
   refine V rfl ?_
   refine AL.nil ?_
   refine AW.ret ?_
   cases hr
   exact endA.renK [] 0 hS
 ·refine VT rfl (nT h1) ?_
  refine AL.off ?_
  refine AL.off ?_
  refine AL.off ?_
  refine AL.off ?_
  refine AL.off ?_
  refine AL.off ?_
  refine AL.off ?_
  refine AL.off ?_
  refine V rfl ?_
  refine AL.nil ?_
  refine AW.cT rfl rfl ?_
  refine AW.seq (AW.regL ?_)
  refine V rfl ?_
  refine AL.nil ?_
  refine AW.ret ?_
  cases hr
  exact endA.renK [] 0 hS
def q5p (rec_sTypeOfExpr:Grammar→Rule→Expr→Option Int)(a0:Grammar)(a1:Rule)(a2:Expr):Option Int:=
 if a2.Kind=1 then (
 some a2.Type_
 ) else (
 if a2.Kind=2 then (
 if a1.Literal=true then (
 some 1
 ) else (
 some 0
 )
 ) else (
 if a2.Kind=3 then (
 (q2g a2.Pos 0 (a1.Right.length:Int)).bind fun y1=>
 if y1=true then (
 (q1X a1 a2.Pos).bind fun y2=>
 (q3y a0 y2 a2.Name).bind fun y3=>
 some y3
 ) else (
 some 0
 )
 ) else (
 if a2.Kind=4 then (
 (z1g rec_sTypeOfExpr a0 a1 a2).bind fun y4=>
 some y4
 ) else (
 if a2.Kind=5 then (
 (z1h rec_sTypeOfExpr a0 a1 a2).bind fun y5=>
 some y5
 ) else (
 if a2.Kind=6 then (
 (q2g a2.Pos 0 (a1.Right.length:Int)).bind fun y6=>
 if y6=true then (
 some 4
 ) else (
 some 0
 )
 ) else (
 if a2.Kind=7 then (
 some 4
 ) else (
 if a2.Kind=8 then (
 if (a2.Args.length:Int)=1 then (
 (a2.Args[0]?).bind fun x1=>
 (rec_sTypeOfExpr a0 a1 x1).bind fun y7=>
 if y7=4 then (
 (q3y a0 a2.Symbol a2.Name).bind fun y8=>
 some y8
 ) else (
 some 0
 )
 ) else (
 some 0
 )
 ) else (
 some 0
 )
 )
 )
 )
 )
 )
 )
 )
theorem z1V {rec_sTypeOfExpr:Grammar→Rule→Expr→Option Int}(ih_sTypeOfExpr:∀ {m:Md} {a0:Grammar} {a1:Rule} {a2:Expr} {r:Int},rec_sTypeOfExpr a0 a1 a2=some r→Ok Tryz.prog 79 [Grammar.y m a0,Rule.x m a1,Expr.x m a2] [] (.d .fz (.i .i64 r)) []){m:Md}{a0:Grammar}{a1:Rule}{a2:Expr}{r:Int}(hr:q5p rec_sTypeOfExpr a0 a1 a2=some r):Ok Tryz.prog 79 [Grammar.y m a0,Rule.x m a1,Expr.x m a2] [] (.d .fz (.i .i64 r)) []:=by
 refine Ok.enter rfl Tryz.func79 rfl rfl rfl fun S hS=>?_
 unfold q5p at hr
 refine AW.seq (AW.regL ?_)
 refine BX 0 ?_
 refine BX 1 ?_
 refine BX 2 ?_
 refine V rfl ?_
 refine AL.nil ?_
 refine AW.seq (AW.seq (AW.regL ?_))
 iterate 2 refine V rfl ?_
 refine AL.nil ?_
 refine AW.block (AW.seq (AW.regL ?_))
 iterate 2 refine V rfl ?_
 refine AL.nil ?_
 refine ifE hr (fun h1 hr=>?_) fun h1 hr=>?_
 ·refine AW.cT rfl (dT h1) ?_
  refine AW.seq (AW.regL ?_)
  iterate 3 refine V rfl ?_
  refine AL.nil ?_
  refine AW.ret ?_
  cases hr
  exact endA.renK [] 0 hS
 ·refine AW.cF rfl (dF h1) ?_
  refine AW.seq (AW.regL ?_)
  iterate 2 refine V rfl ?_
  refine AL.nil ?_
  refine ifE hr (fun h2 hr=>?_) fun h2 hr=>?_
  ·refine AW.cT rfl (dT h2) ?_
   refine AW.seq (AW.regL ?_)
   iterate 2 refine V rfl ?_
   refine AL.nil ?_
   refine ifE hr (fun h3 hr=>?_) fun h3 hr=>?_
   ·refine AW.cT rfl h3 ?_
    refine AW.seq (AW.regL ?_)
    refine V rfl ?_
    refine AL.nil ?_
    refine AW.ret ?_
    cases hr
    exact endA.renK [] 0 hS
   ·refine AW.cF rfl (bF h3) ?_
    refine AW.skip ?_
    refine AW.seq (AW.regL ?_)
    refine V rfl ?_
    refine AL.nil ?_
    refine AW.ret ?_
    cases hr
    exact endA.renK [] 0 hS
  ·refine AW.cF rfl (dF h2) ?_
   refine AW.seq (AW.regL ?_)
   iterate 2 refine V rfl ?_
   refine AL.nil ?_
   refine ifE hr (fun h4 hr=>?_) fun h4 hr=>?_
   ·refine AW.cT rfl (dT h4) ?_
    refine AW.seq (AW.regL ?_)
    iterate 4 refine V rfl ?_
    refine LF ?_
    refine bdE hr fun y1 hy1 hr=>?_
    refine CB [] [] (q2w hy1) ?_
    refine AL.nil ?_
    refine ifE hr (fun h5 hr=>?_) fun h5 hr=>?_
    ·refine AW.cT rfl h5 ?_
     refine AW.seq (AW.drawL (h:=?_))
     iterate 4 refine V rfl ?_
     refine bdE hr fun y2 hy2 hr=>?_
     refine CB [] [] (q3F (m:=m) hy2) ?_
     iterate 2 refine V rfl ?_
     refine bdE hr fun y3 hy3 hr=>?_
     refine CB [] [] (q6f (m:=m) hy3) ?_
     refine V rfl ?_
     refine AL.nil ?_
     refine AW.ret ?_
     cases hr
     exact endA.renK [] 0 hS
    ·refine AW.cF rfl (bF h5) ?_
     refine AW.skip ?_
     refine AW.seq (AW.regL ?_)
     refine V rfl ?_
     refine AL.nil ?_
     refine AW.ret ?_
     cases hr
     exact endA.renK [] 0 hS
   ·refine AW.cF rfl (dF h4) ?_
    refine AW.seq (AW.regL ?_)
    iterate 2 refine V rfl ?_
    refine AL.nil ?_
    refine ifE hr (fun h6 hr=>?_) fun h6 hr=>?_
    ·refine AW.cT rfl (dT h6) ?_
     refine AW.seq (AW.regL ?_)
     iterate 3 refine V rfl ?_
     refine bdE hr fun y4 hy4 hr=>?_
     refine CB [] [] (z9R ih_sTypeOfExpr (m:=m) hy4) ?_
     refine V rfl ?_
     refine AL.nil ?_
     refine AW.ret ?_
     cases hr
     exact endA.renK [] 0 hS
    ·refine AW.cF rfl (dF h6) ?_
     refine AW.seq (AW.regL ?_)
     iterate 2 refine V rfl ?_
     refine AL.nil ?_
     refine ifE hr (fun h7 hr=>?_) fun h7 hr=>?_
     ·refine AW.cT rfl (dT h7) ?_
      refine AW.seq (AW.regL ?_)
      iterate 3 refine V rfl ?_
      refine bdE hr fun y5 hy5 hr=>?_
      refine CB [] [] (z9S ih_sTypeOfExpr (m:=m) hy5) ?_
      refine V rfl ?_
      refine AL.nil ?_
      refine AW.ret ?_
      cases hr
      exact endA.renK [] 0 hS
     ·refine AW.cF rfl (dF h7) ?_
      refine AW.seq (AW.regL ?_)
      iterate 2 refine V rfl ?_
      refine AL.nil ?_
      refine ifE hr (fun h8 hr=>?_) fun h8 hr=>?_
      ·refine AW.cT rfl (dT h8) ?_
       refine AW.seq (AW.regL ?_)
       iterate 4 refine V rfl ?_
       refine LF ?_
       refine bdE hr fun y6 hy6 hr=>?_
       refine CB [] [] (q2w hy6) ?_
       refine AL.nil ?_
       refine ifE hr (fun h9 hr=>?_) fun h9 hr=>?_
       ·refine AW.cT rfl h9 ?_
        refine AW.seq (AW.regL ?_)
        refine V rfl ?_
        refine AL.nil ?_
        refine AW.ret ?_
        cases hr
        exact endA.renK [] 0 hS
       ·refine AW.cF rfl (bF h9) ?_
        refine AW.skip ?_
        refine AW.seq (AW.regL ?_)
        refine V rfl ?_
        refine AL.nil ?_
        refine AW.ret ?_
        cases hr
        exact endA.renK [] 0 hS
      ·refine AW.cF rfl (dF h8) ?_
       refine AW.seq (AW.regL ?_)
       iterate 2 refine V rfl ?_
       refine AL.nil ?_
       refine ifE hr (fun h10 hr=>?_) fun h10 hr=>?_
       ·refine AW.cT rfl (dT h10) ?_
        refine AW.seq (AW.regL ?_)
        refine V rfl ?_
        refine AL.nil ?_
        refine AW.ret ?_
        cases hr
        exact endA.renK [] 0 hS
       ·refine AW.cF rfl (dF h10) ?_
        refine AW.seq (AW.regL ?_)
        iterate 2 refine V rfl ?_
        refine AL.nil ?_
        refine ifE hr (fun h11 hr=>?_) fun h11 hr=>?_
        ·refine AW.cT rfl (dT h11) ?_
         refine AW.seq (AW.drawL (h:=?_))
         iterate 2 refine V rfl ?_
         refine LF ?_
         refine V rfl ?_
         refine ifE hr (fun h12 hr=>?_) fun h12 hr=>?_
         ·refine VT rfl (dT h12) ?_
          iterate 4 refine V rfl ?_
          refine bdE hr fun x1 hx1 hr=>?_
          refine IFq (Int.natCast_nonneg _) hx1 (Expr.D_cells x1) ?_
          refine V rfl ?_
          refine bdE hr fun y7 hy7 hr=>?_
          refine CB [] [] (ih_sTypeOfExpr (m:=m) hy7) ?_
          iterate 2 refine V rfl ?_
          refine AL.nil ?_
          refine ifE hr (fun h13 hr=>?_) fun h13 hr=>?_
          ·refine AW.cT rfl (dT h13) ?_
           refine AW.seq (AW.regL ?_)
           iterate 5 refine V rfl ?_
           refine bdE hr fun y8 hy8 hr=>?_
           refine CB [] [] (q6f (m:=m) hy8) ?_
           refine V rfl ?_
           refine AL.nil ?_
           refine AW.ret ?_
           cases hr
           exact endA.renK [] 0 hS
          ·refine AW.cF rfl (dF h13) ?_
           refine AW.skip ?_
           refine AW.seq (AW.regL ?_)
           refine V rfl ?_
           refine AL.nil ?_
           refine AW.ret ?_
           cases hr
           exact endA.renK [] 0 hS
         ·refine VF rfl (dF h12) ?_
          refine AL.off ?_
          refine AL.off ?_
          refine AL.off ?_
          refine AL.off ?_
          refine AL.off ?_
          refine AL.off ?_
          refine AL.off ?_
          refine AL.off ?_
          refine V rfl ?_
          refine AL.nil ?_
          refine AW.cF rfl rfl ?_
          refine AW.skip ?_
          refine AW.seq (AW.regL ?_)
          refine V rfl ?_
          refine AL.nil ?_
          refine AW.ret ?_
          cases hr
          exact endA.renK [] 0 hS
        ·refine AW.cF rfl (dF h11) ?_
         refine AW.skip ?_
         refine AW.seq (AW.regL ?_)
         refine V rfl ?_
         refine AL.nil ?_
         refine AW.ret ?_
         cases hr
         exact endA.renK [] 0 hS
def q4G:Nat→Grammar→Rule→Expr→Option Int
  | 0,_,_,_=>none
  | n+1,a0,a1,a2=>q5p (q4G n) a0 a1 a2
def q5q (a0:Grammar)(a1:Rule)(a2:Expr):Option Int:=recO fun n=>q4G n a0 a1 a2
theorem z1W (n:Nat):∀ {m:Md} {a0:Grammar} {a1:Rule} {a2:Expr} {r:Int},q4G n a0 a1 a2=some r→Ok Tryz.prog 79 [Grammar.y m a0,Rule.x m a1,Expr.x m a2] [] (.d .fz (.i .i64 r)) []:=by
  induction n with
  | zero=>intro _ _ _ _ r hr; exact nomatch (show (none:Option Int)=some r from hr)
  | succ n ih=>intro _ _ _ _ r hr; exact z1V ih hr
theorem q7g {m:Md}{a0:Grammar}{a1:Rule}{a2:Expr}{r:Int}(hr:q5q a0 a1 a2=some r):Ok Tryz.prog 79 [Grammar.y m a0,Rule.x m a1,Expr.x m a2] [] (.d .fz (.i .i64 r)) []:=by
  obtain⟨n,hn⟩:=q4v hr
  exact z1W n hn
def z1X (a0:Grammar)(a1:Rule):Nat→Equation→Unit→Option (Unit ⊕ Bool):=fun k1 xk1 _=>
 (q5q a0 a1 xk1.Expr).bind fun y1=>
 (q1X a1 xk1.At.Pos).bind fun y2=>
 (q3y a0 y2 xk1.At.Name).bind fun y3=>
 if y1=y3 then (
 some (.inl ())
 ) else (
 some (.inr false)
 )
def z1Y (a0:Grammar)(a1:Rule):Nat→Contribution→Unit→Option (Unit ⊕ Bool):=fun k2 xk2 _=>
 (q1U a0 xk2.Symbol).bind fun (y4,y5)=>
 (q2j y4 xk2.Name).bind fun (y6,y7)=>
 (
 if y7=true then (
 some (!(decide (y6.Mode=3)))
 ) else (
 some true
 )
 ).bind fun s1=>
 (
 if s1=true then (
 some true
 ) else (
 (q5q a0 a1 xk2.Target).bind fun y8=>
 some (!(decide (y8=4)))
 )
 ).bind fun s2=>
 (
 if s2=true then (
 some true
 ) else (
 (q5q a0 a1 xk2.Value).bind fun y9=>
 some (!(decide (y9=2)))
 )
 ).bind fun s3=>
 if s3=true then (
 some (.inr false)
 ) else (
 some (.inl ())
 )
def q7B (a0:Grammar)(a1:Rule):Option Bool:=
 (findL (z1X a0 a1) 0 a1.Equations ()).bind <| onr (fun r1=>some r1) fun _=>
 (findL (z1Y a0 a1) 0 a1.Contributions ()).bind <| onr (fun r2=>some r2) fun _=>
 some true
theorem z6E {m:Md}{a0:Grammar}{a1:Rule}{r:Bool}(hr:q7B a0 a1=some r):Ok Tryz.prog 56 [Grammar.y m a0,Rule.x m a1] [] (.d .fz (.b r)) []:=by
 refine Ok.enter rfl Tryz.func56 rfl rfl rfl fun S hS=>?_
 unfold q7B at hr
 refine AW.seq (AW.regL ?_)
 refine BX 0 ?_
 refine BX 1 ?_
 refine V rfl ?_
 refine AL.nil ?_
 refine AW.seq (AW.seq (AW.regL ?_))
 refine V rfl ?_
 refine AL.nil ?_
 refine AW.block ?_
 refine AW.len (.ag 4 (.tmp 1 rfl) rfl) fun hl1=>?_
 refine bdE hr fun q1 hqq1 hr=>?_
 refine AW.findL hqq1 hl1 2 (fun k1 _=>[(2,.pb 0 0),(3,.pb 1 0),(5,.d .fz (.i .i64 (k1:Int)))]) (fun k1 _=>[]) (GH.trans (GH.bw (q:=0) [.d m (.sl 2 (a0.Symbols.map Symbol.D)),.u] (.cons .rfl (.cons .u .nil)) rfl) (GH.renK hS [(0,0),(1,1)] 2)) (fun k1 xk1 sk1 ok1 hxk1 hr hltk1 hik1=>?_) fun k1 sk1 ek1 hltk1=>?_
 ·refine AW.seq (AW.seq (AW.regL ?_))
  iterate 3 refine V rfl ?_
  refine LF ?_
  refine V rfl ?_
  refine AL.nil ?_
  refine AW.cT rfl (dT hltk1) ?_
  refine AW.skip ?_
  refine AW.seq (AW.block (AW.seq (AW.regL ?_)))
  iterate 3 refine V rfl ?_
  refine IF (Int.natCast_nonneg _) hxk1 ?_
  refine V rfl ?_
  refine NV 2 ?_
  refine SB ?_
  refine AL.nil ?_
  refine AW.seq (AW.drawL (h:=?_))
  iterate 4 refine V rfl ?_
  refine bdE hr fun y1 hy1 hr=>?_
  refine CB [] [] (q7g (m:=m) hy1) ?_
  iterate 5 refine V rfl ?_
  refine bdE hr fun y2 hy2 hr=>?_
  refine CB [] [] (q3F (m:=m) hy2) ?_
  iterate 3 refine V rfl ?_
  refine bdE hr fun y3 hy3 hr=>?_
  refine CB [] [] (q6f (m:=m) hy3) ?_
  refine V rfl ?_
  refine AL.nil ?_
  refine ifE hr (fun h1 hr=>?_) fun h1 hr=>?_
  ·refine AW.cF rfl (nF h1) ?_
   refine AW.skip ?_
   refine AW.regL ?_
   refine V rfl ?_
   refine OB _ (q2b (p:=k1) (q:=1) (q1o hltk1 hl1)) ?_
   refine V rfl ?_
   refine AL.nil ?_
   cases hr
   exact⟨_,rfl,GH.trans (GH.bw (q:=0) [.d m (.sl 2 (a0.Symbols.map Symbol.D)),.u] (.cons .rfl (.cons .u .nil)) rfl) (GH.renK hS [(0,0),(1,1)] 2)⟩
  ·refine AW.cT rfl (nT h1) ?_
   refine AW.seq (AW.regL ?_)
   refine V rfl ?_
   refine AL.nil ?_
   refine AW.ret ?_
   cases hr
   cases hik1 _ rfl
   rename_i hr
   cases hr
   exact endA.renK [] 0 hS
 ·subst ek1
  refine AW.seq (AW.seq (AW.regL ?_))
  iterate 3 refine V rfl ?_
  refine LF ?_
  refine V rfl ?_
  refine AL.nil ?_
  refine AW.cF rfl (dF hltk1) ?_
  refine AW.exit ?_
  refine AW.seq (AW.seq (AW.regL ?_))
  refine V rfl ?_
  refine AL.nil ?_
  refine AW.block ?_
  refine AW.len (.box 1 5 rfl rfl) fun hl2=>?_
  refine bdE hr fun q2 hqq2 hr=>?_
  refine AW.findL hqq2 hl2 2 (fun k2 _=>[(2,.pb 0 0),(3,.pb 1 0),(7,.d .fz (.i .i64 (k2:Int)))]) (fun k2 _=>[]) (GH.trans (GH.bw (q:=0) [.d m (.sl 2 (a0.Symbols.map Symbol.D)),.u] (.cons .rfl (.cons .u .nil)) rfl) (GH.renK hS [(0,0),(1,1)] 2)) (fun k2 xk2 sk2 ok2 hxk2 hr hltk2 hik2=>?_) fun k2 sk2 ek2 hltk2=>?_
  ·refine AW.seq (AW.seq (AW.regL ?_))
   iterate 3 refine V rfl ?_
   refine LF ?_
   refine V rfl ?_
   refine AL.nil ?_
   refine AW.cT rfl (dT hltk2) ?_
   refine AW.skip ?_
   refine AW.seq (AW.block (AW.seq (AW.regL ?_)))
   iterate 3 refine V rfl ?_
   refine IF (Int.natCast_nonneg _) hxk2 ?_
   refine V rfl ?_
   refine NV 2 ?_
   refine SB ?_
   refine AL.nil ?_
   refine AW.seq (AW.regL ?_)
   iterate 3 refine V rfl ?_
   refine bdE hr fun q3 hq3 hr=>?_
   obtain⟨y4,y5⟩:=q3
   refine CB [(0,3)] [] (q3m (m:=m) hq3) ?_
   iterate 3 refine V rfl ?_
   refine NV 4 ?_
   refine SB ?_
   refine V rfl ?_
   refine AL.nil ?_
   refine AW.seq (AW.regL ?_)
   iterate 3 refine V rfl ?_
   refine bdE hr fun q4 hq4 hr=>?_
   obtain⟨y6,y7⟩:=q4
   refine CB [] [3] (q4D (m:=.bo) hq4) ?_
   iterate 3 refine V rfl ?_
   refine NV 5 ?_
   refine SB ?_
   refine V rfl ?_
   refine AL.nil ?_
   refine AW.seq (AW.regL ?_)
   iterate 2 refine V rfl ?_
   refine bdE hr fun s1 hqq5 hr=>?_
   refine AL.meet1 5 [(2,.pb 0 0),(3,.pb 1 0),(7,.d .fz (.i .i64 (k2:Int))),(8,.pb 2 0),(73,.d .fz (.b s1))] ?_ ?_
   ·replace hr:=hqq5
    refine ifE hr (fun h2 hr=>?_) fun h2 hr=>?_
    ·refine VF rfl (bnF h2) ?_
     iterate 4 refine V rfl ?_
     refine AL.nil ?_
     cases hr
     exact q1r
    ·refine VT rfl (bnT h2) ?_
     refine AL.off ?_
     refine AL.off ?_
     refine AL.off ?_
     refine V rfl ?_
     refine AL.nil ?_
     cases hr
     exact q1r
   ·refine bdE hr fun s2 hqq6 hr=>?_
    refine AL.meet1 8 [(2,.pb 0 0),(3,.pb 1 0),(7,.d .fz (.i .i64 (k2:Int))),(8,.pb 2 0),(81,.d .fz (.b s2))] ?_ ?_
    ·replace hr:=hqq6
     refine ifE hr (fun h3 hr=>?_) fun h3 hr=>?_
     ·refine VT rfl h3 ?_
      refine AL.off ?_
      refine AL.off ?_
      refine AL.off ?_
      refine AL.off ?_
      refine AL.off ?_
      refine AL.off ?_
      refine V rfl ?_
      refine AL.nil ?_
      cases hr
      exact q1r
     ·refine VF rfl (bF h3) ?_
      iterate 4 refine V rfl ?_
      refine bdE hr fun y8 hy8 hr=>?_
      refine CB [] [] (q7g (m:=m) hy8) ?_
      iterate 2 refine V rfl ?_
      refine AL.nil ?_
      cases hr
      exact q1r
    ·refine bdE hr fun s3 hqq7 hr=>?_
     refine AL.meet1 8 [(2,.pb 0 0),(3,.pb 1 0),(7,.d .fz (.i .i64 (k2:Int))),(89,.d .fz (.b s3))] ?_ ?_
     ·replace hr:=hqq7
      refine ifE hr (fun h4 hr=>?_) fun h4 hr=>?_
      ·refine VT rfl h4 ?_
       refine AL.off ?_
       refine AL.off ?_
       refine AL.off ?_
       refine AL.off ?_
       refine AL.off ?_
       refine AL.off ?_
       refine V rfl ?_
       refine AL.nil ?_
       cases hr
       exact q1r
      ·refine VF rfl (bF h4) ?_
       iterate 4 refine V rfl ?_
       refine bdE hr fun y9 hy9 hr=>?_
       refine CB [] [] (q7g (m:=m) hy9) ?_
       iterate 2 refine V rfl ?_
       refine AL.nil ?_
       cases hr
       exact q1r
     ·refine AL.nil ?_
      refine ifE hr (fun h5 hr=>?_) fun h5 hr=>?_
      ·refine AW.cT rfl h5 ?_
       refine AW.seq (AW.regL ?_)
       refine V rfl ?_
       refine AL.nil ?_
       refine AW.ret ?_
       cases hr
       cases hik2 _ rfl
       rename_i hr
       cases hr
       exact endA.renK [] 0 hS
      ·refine AW.cF rfl (bF h5) ?_
       refine AW.skip ?_
       refine AW.regL ?_
       refine V rfl ?_
       refine OB _ (q2b (p:=k2) (q:=1) (q1o hltk2 hl2)) ?_
       refine V rfl ?_
       refine AL.nil ?_
       cases hr
       exact⟨_,rfl,GH.trans (GH.bw (q:=0) [.d m (.sl 2 (a0.Symbols.map Symbol.D)),.u] (.cons .rfl (.cons .u .nil)) rfl) (GH.renK hS [(0,0),(1,1)] 2)⟩
  ·subst ek2
   refine AW.seq (AW.seq (AW.regL ?_))
   iterate 3 refine V rfl ?_
   refine LF ?_
   refine V rfl ?_
   refine AL.nil ?_
   refine AW.cF rfl (dF hltk2) ?_
   refine AW.exit ?_
   refine AW.seq (AW.regL ?_)
   refine V rfl ?_
   refine AL.nil ?_
   refine AW.ret ?_
   cases hr
   exact endA.renK [] 0 hS
def z5p (a1:ByteArray):Nat→Symbol→Unit→Option (Unit ⊕ Int):=fun k1 xk1 _=>
 if xk1.Name=a1 then (
 some (.inr (k1:Int))
 ) else (
 some (.inl ())
 )
def q8S (a0:Grammar)(a1:ByteArray):Option Int:=
 (findL (z5p a1) 0 a0.Symbols ()).bind <| onr (fun r1=>some r1) fun _=>
 some (-1)
theorem z5q {m:Md}{a0:Grammar}{a1:ByteArray}{r:Int}(hr:q8S a0 a1=some r):Ok Tryz.prog 118 [Grammar.y m a0,.d .fz (.s a1)] [] (.d .fz (.i .i64 r)) []:=by
 refine Ok.enter rfl Tryz.func118 rfl rfl rfl fun S hS=>?_
 unfold q8S at hr
 refine AW.seq (AW.regL ?_)
 refine BX 0 ?_
 refine V rfl ?_
 refine AL.nil ?_
 refine AW.seq (AW.seq (AW.regL ?_))
 refine V rfl ?_
 refine AL.nil ?_
 refine AW.block ?_
 refine AW.len (.ag 0 (.tmp 0 rfl) rfl) fun hl1=>?_
 refine bdE hr fun q1 hqq1 hr=>?_
 refine AW.findL hqq1 hl1 1 (fun k1 _=>[(1,.d .fz (.s a1)),(2,.pb 0 0),(5,.d .fz (.i .i64 (k1:Int)))]) (fun k1 _=>[]) (GH.trans (GH.bw (q:=0) [.d m (.sl 2 (a0.Symbols.map Symbol.D)),.u] (.cons .rfl (.cons .u .nil)) rfl) (GH.renK hS [(0,0)] 1)) (fun k1 xk1 sk1 ok1 hxk1 hr hltk1 hik1=>?_) fun k1 sk1 ek1 hltk1=>?_
 ·refine AW.seq (AW.seq (AW.regL ?_))
  iterate 3 refine V rfl ?_
  refine LF ?_
  refine V rfl ?_
  refine AL.nil ?_
  refine AW.cT rfl (dT hltk1) ?_
  refine AW.skip ?_
  refine AW.seq (AW.block (AW.seq (AW.regL ?_)))
  iterate 3 refine V rfl ?_
  refine IF (Int.natCast_nonneg _) hxk1 ?_
  iterate 4 refine V rfl ?_
  refine AL.nil ?_
  refine ifE hr (fun h1 hr=>?_) fun h1 hr=>?_
  ·refine AW.cT rfl (dT h1) ?_
   refine AW.seq (AW.regL ?_)
   iterate 2 refine V rfl ?_
   refine AL.nil ?_
   refine AW.ret ?_
   cases hr
   cases hik1 _ rfl
   rename_i hr
   cases hr
   exact endA.renK [] 0 hS
  ·refine AW.cF rfl (dF h1) ?_
   refine AW.skip ?_
   refine AW.regL ?_
   refine V rfl ?_
   refine OB _ (q2b (p:=k1) (q:=1) (q1o hltk1 hl1)) ?_
   refine V rfl ?_
   refine AL.nil ?_
   cases hr
   exact⟨_,rfl,GH.trans (GH.bw (q:=0) [.d m (.sl 2 (a0.Symbols.map Symbol.D)),.u] (.cons .rfl (.cons .u .nil)) rfl) (GH.renK hS [(0,0)] 1)⟩
 ·subst ek1
  refine AW.seq (AW.seq (AW.regL ?_))
  iterate 3 refine V rfl ?_
  refine LF ?_
  refine V rfl ?_
  refine AL.nil ?_
  refine AW.cF rfl (dF hltk1) ?_
  refine AW.exit ?_
  refine AW.seq (AW.regL ?_)
  refine V rfl ?_
  refine AL.nil ?_
  refine AW.ret ?_
  cases hr
  exact endA.renK [] 0 hS
def q7h (a0:Grammar)(a2:(List Int)):Nat→ByteArray→Bool→Option Bool:=fun k2 xk2 s1=>
 (q8S a0 xk2).bind fun y1=>
 (
 if s1=true then (
 some (decide (0≤y1))
 ) else (
 some false
 )
 ).bind fun s2=>
 (
 if s2=true then (
 (q6X y1 0).bind fun y2=>
 grd (0≤y2) <|
 (a2[y2.toNat]?).bind fun x1=>
 some (decide (0 < x1))
 ) else (
 some false
 )
 ).bind fun s3=>
 some s3
def q8Z (a0:Grammar)(a1:ByteArray)(a2:(List Int)):Nat→Rule→Unit→Option (Unit ⊕ Bool):=fun k1 xk1 _=>
 (eachL (q7h a0 a2) 0 xk1.Right (decide (xk1.Left=a1))).bind fun s1=>
 if s1=true then (
 some (.inr true)
 ) else (
 some (.inl ())
 )
def q5r (a0:Grammar)(a1:ByteArray)(a2:(List Int)):Option Bool:=
 (findL (q8Z a0 a1 a2) 0 a0.Rules ()).bind <| onr (fun r1=>some r1) fun _=>
 some false
theorem z2B {m:Md}{a0:Grammar}{a1:ByteArray}{a2:(List Int)}{r:Bool}(hr:q5r a0 a1 a2=some r):Ok Tryz.prog 139 [Grammar.x m a0,.d .fz (.s a1),.d m (.sl 1 (a2.map (A.D.i .i64)))] [] (.d .fz (.b r)) []:=by
 refine Ok.enter rfl Tryz.func139 rfl rfl rfl fun S hS=>?_
 unfold q5r at hr
 refine AW.seq (AW.regL ?_)
 refine BX 0 ?_
 refine V rfl ?_
 refine AL.nil ?_
 refine AW.seq (AW.seq (AW.regL ?_))
 refine V rfl ?_
 refine AL.nil ?_
 refine AW.block ?_
 refine AW.len (.ag 1 (.tmp 0 rfl) rfl) fun hl1=>?_
 refine bdE hr fun q1 hqq1 hr=>?_
 refine AW.findL hqq1 hl1 1 (fun k1 _=>[(1,.d .fz (.s a1)),(2,.d m (.sl 1 (a2.map (A.D.i .i64)))),(3,.pb 0 0),(7,.d .fz (.i .i64 (k1:Int)))]) (fun k1 _=>[]) (GH.renK hS [(0,0)] 1) (fun k1 xk1 sk1 ok1 hxk1 hr hltk1 hik1=>?_) fun k1 sk1 ek1 hltk1=>?_
 ·refine AW.seq (AW.seq (AW.regL ?_))
  iterate 3 refine V rfl ?_
  refine LF ?_
  refine V rfl ?_
  refine AL.nil ?_
  refine AW.cT rfl (dT hltk1) ?_
  refine AW.skip ?_
  refine AW.seq (AW.block (AW.seq (AW.regL ?_)))
  iterate 3 refine V rfl ?_
  refine IF (Int.natCast_nonneg _) hxk1 ?_
  refine V rfl ?_
  refine NV 1 ?_
  refine SB ?_
  refine AL.nil ?_
  refine AW.seq (AW.regL ?_)
  iterate 5 refine V rfl ?_
  refine AL.nil ?_
  refine AW.seq (AW.seq (AW.regL ?_))
  refine V rfl ?_
  refine AL.nil ?_
  refine AW.block ?_
  refine AW.len (.ag 2 (.tmp 23 rfl) rfl) fun hl2=>?_
  refine bdE hr fun s1 hqq2 hr=>?_
  refine AW.eachL hqq2 hl2 2 (fun k2 s1=>[(1,.d .fz (.s a1)),(2,.d m (.sl 1 (a2.map (A.D.i .i64)))),(3,.pb 0 0),(7,.d .fz (.i .i64 (k1:Int))),(8,.pb 1 0),(9,.d .fz (.b s1)),(10,.d .fz (.i .i64 (k2:Int)))]) (fun k2 s1=>[]) (GH.renK hS [(0,0),(1,1)] 2) (fun k2 xk2 sk2 ok2 hxk2 hr hltk2=>?_) fun k2 hltk2=>?_
  ·obtain⟨s1,rfl⟩:∃ y,y=sk2:=⟨_,rfl⟩
   refine AW.seq (AW.seq (AW.regL ?_))
   iterate 3 refine V rfl ?_
   refine LF ?_
   refine V rfl ?_
   refine AL.nil ?_
   refine AW.cT rfl (dT hltk2) ?_
   refine AW.skip ?_
   refine AW.seq (AW.block (AW.seq (AW.drawL (h:=?_))))
   iterate 4 refine V rfl ?_
   refine IF (Int.natCast_nonneg _) hxk2 ?_
   refine V rfl ?_
   refine bdE hr fun y1 hy1 hr=>?_
   refine CB [] [] (z5q (m:=m) hy1) ?_
   refine V rfl ?_
   refine AL.nil ?_
   refine AW.regL ?_
   refine V rfl ?_
   refine bdE hr fun s2 hqq3 hr=>?_
   refine AL.meet1 4 [(1,.d .fz (.s a1)),(2,.d m (.sl 1 (a2.map (A.D.i .i64)))),(3,.pb 0 0),(7,.d .fz (.i .i64 (k1:Int))),(8,.pb 1 0),(9,.d .fz (.b s1)),(10,.d .fz (.i .i64 (k2:Int))),(11,.d .fz (.i .i64 y1)),(46,.d .fz (.b s2))] ?_ ?_
   ·replace hr:=hqq3
    refine ifE hr (fun h1 hr=>?_) fun h1 hr=>?_
    ·refine VT rfl h1 ?_
     iterate 3 refine V rfl ?_
     refine AL.nil ?_
     cases hr
     exact q1r
    ·refine VF rfl (bF h1) ?_
     refine AL.off ?_
     refine AL.off ?_
     refine V rfl ?_
     refine AL.nil ?_
     cases hr
     exact q1r
   ·refine bdE hr fun s3 hqq4 hr=>?_
    refine AL.meet1 8 [(1,.d .fz (.s a1)),(2,.d m (.sl 1 (a2.map (A.D.i .i64)))),(3,.pb 0 0),(7,.d .fz (.i .i64 (k1:Int))),(8,.pb 1 0),(9,.d .fz (.b s1)),(10,.d .fz (.i .i64 (k2:Int))),(54,.d .fz (.b s3))] ?_ ?_
    ·replace hr:=hqq4
     refine ifE hr (fun h2 hr=>?_) fun h2 hr=>?_
     ·refine VT rfl h2 ?_
      iterate 2 refine V rfl ?_
      refine bdE hr fun y2 hy2 hr=>?_
      refine CB [] [] (z1J hy2) ?_
      refine ggE hr fun g1 hr=>?_
      refine bdE hr fun x1 hx1 hr=>?_
      refine IF g1 hx1 ?_
      iterate 3 refine V rfl ?_
      refine AL.nil ?_
      cases hr
      exact q1r
     ·refine VF rfl (bF h2) ?_
      refine AL.off ?_
      refine AL.off ?_
      refine AL.off ?_
      refine AL.off ?_
      refine AL.off ?_
      refine AL.off ?_
      refine V rfl ?_
      refine AL.nil ?_
      cases hr
      exact q1r
    ·refine V rfl ?_
     refine AL.nil ?_
     refine AW.regL ?_
     refine V rfl ?_
     refine OB _ (q2b (p:=k2) (q:=1) (q1o hltk2 hl2)) ?_
     refine V rfl ?_
     refine AL.nil ?_
     cases hr
     exact GH.renK hS [(0,0),(1,1)] 2
  ·refine AW.seq (AW.seq (AW.regL ?_))
   iterate 3 refine V rfl ?_
   refine LF ?_
   refine V rfl ?_
   refine AL.nil ?_
   refine AW.cF rfl (dF hltk2) ?_
   refine AW.exit ?_
   refine AW.seq (AW.regL ?_)
   refine V rfl ?_
   refine AL.nil ?_
   refine ifE hr (fun h3 hr=>?_) fun h3 hr=>?_
   ·refine AW.cT rfl h3 ?_
    refine AW.seq (AW.regL ?_)
    refine V rfl ?_
    refine AL.nil ?_
    refine AW.ret ?_
    cases hr
    cases hik1 _ rfl
    rename_i hr
    cases hr
    exact endA.renK [] 0 hS
   ·refine AW.cF rfl (bF h3) ?_
    refine AW.skip ?_
    refine AW.regL ?_
    refine V rfl ?_
    refine OB _ (q2b (p:=k1) (q:=1) (q1o hltk1 hl1)) ?_
    refine V rfl ?_
    refine AL.nil ?_
    cases hr
    exact⟨_,rfl,GH.renK hS [(0,0)] 1⟩
 ·subst ek1
  refine AW.seq (AW.seq (AW.regL ?_))
  iterate 3 refine V rfl ?_
  refine LF ?_
  refine V rfl ?_
  refine AL.nil ?_
  refine AW.cF rfl (dF hltk1) ?_
  refine AW.exit ?_
  refine AW.seq (AW.regL ?_)
  refine V rfl ?_
  refine AL.nil ?_
  refine AW.ret ?_
  cases hr
  exact endA.renK [] 0 hS
def q5T (a0:Grammar)(s2:List Int)(s3:Int):Nat→Symbol→((List Int))→Option ((List Int)):=fun k2 xk2 s4=>
 (
 (s2[k2]?).bind fun x1=>
 if x1=0 then (
 (q5r a0 xk2.Name s2).bind fun y1=>
 if y1=true then (
 (s4[k2]?).bind fun x2=>
 some (List.set s4 k2 s3)
 ) else (
 some s4
 )
 ) else (
 some s4
 )
 ).bind fun s5=>
 some s5
def q4p (a0:Grammar):((List Int) × Int)→Option (((List Int) × Int) ⊕ ((List Int))):=fun (s2,s3)=>
 if s3≤(a0.Symbols.length:Int) then (
 grd (((([]:List Int).length:Int)+(s2.length:Int))*8≤140737488355328∧(([]:List Int).length:Int)+(s2.length:Int)≤9223372036854775807) <|
 (eachL (q5T a0 s2 s3) 0 a0.Symbols s2).bind fun s4=>
 grd (I64 (s3+1)) <|
 some (.inl (s4,(s3+1)))
 ) else (
 some (.inr s2)
 )
def q5s (a0:Grammar):Option (List Int):=
 grd (0≤(a0.Symbols.length:Int)∧(a0.Symbols.length:Int)*8≤281474976710656∧(a0.Symbols.length:Int)≤9223372036854775807) <|
 (q2t (q4p a0) ((List.replicate a0.Symbols.length (0:Int)),1)).bind fun s1=>
 some s1
theorem z2C {m:Md}{a0:Grammar}{r:(List Int)}(hr:q5s a0=some r):Ok Tryz.prog 119 [Grammar.x m a0] [] (.ref 0 none) [.row .fz 1 (r.map (A.D.i .i64))]:=by
 refine Ok.enter rfl Tryz.func119 rfl rfl rfl fun S hS=>?_
 unfold q5s at hr
 refine AW.seq (AW.regL ?_)
 refine BX 0 ?_
 refine V rfl ?_
 refine AL.nil ?_
 refine AW.seq (AW.regL ?_)
 iterate 2 refine V rfl ?_
 refine LF ?_
 refine ggE hr fun g1 hr=>?_
 refine MKR 1 (f:=(A.D.i .i64)) (0:Int) g1.1 g1.2.1 g1.2.2 ?_
 refine V rfl ?_
 refine AL.nil ?_
 refine AW.seq (AW.seq (AW.regL ?_))
 refine V rfl ?_
 refine AL.nil ?_
 refine bdE hr fun s1 hqq1 hr=>?_
 refine AW.cut1 2 [(3,.ref 1 none)] [(1,.row .fz 1 (s1.map (A.D.i .i64)))] ?_ ?_
 ·refine AW.block (AW.iter hqq1 2 (fun (s2,s3)=>[(1,.pb 0 0),(3,.ref 1 none),(4,.d .fz (.i .i64 s3))]) (fun (s2,s3)=>[(1,.row .fz 1 (s2.map (A.D.i .i64)))]) (GH.renK hS [(0,0),(1,1)] 2) fun sk1 ok1 hr hik1=>?_)
  obtain⟨s2,s3⟩:=sk1
  have hr:=hr
  refine AW.seq (AW.seq (AW.regL ?_))
  iterate 3 refine V rfl ?_
  refine LF ?_
  refine V rfl ?_
  refine AL.nil ?_
  refine ifE hr (fun h1 hr=>?_) fun h1 hr=>?_
  ·refine AW.cT rfl (dT h1) ?_
   refine AW.skip ?_
   refine AW.seq (AW.block (AW.seq (AW.regL ?_)))
   refine L0 2 (A.D.i .i64) ?_
   refine V rfl ?_
   refine ggE hr fun g2 hr=>?_
   refine APfB (f:=(A.D.i .i64)) 3 8 (fun _=>rfl) g2 ?_
   refine V rfl ?_
   refine AL.nil ?_
   refine AW.seq (AW.seq (AW.regL ?_))
   refine V rfl ?_
   refine AL.nil ?_
   refine AW.block ?_
   refine AW.len (.tmp 13 rfl) fun hl2=>?_
   refine bdE hr fun s4 hqq2 hr=>?_
   refine AW.eachL hqq2 hl2 4 (fun k2 s4=>[(1,.pb 0 0),(3,.ref 1 none),(4,.d .fz (.i .i64 s3)),(5,.ref 3 none),(6,.d .fz (.i .i64 (k2:Int)))]) (fun k2 s4=>[(2,.none),(3,.row .fz 1 (s4.map (A.D.i .i64)))]) (GH.renK hS [(0,0),(1,1),(3,3)] 4) (fun k2 xk2 sk2 ok2 hxk2 hr hltk2=>?_) fun k2 hltk2=>?_
   ·obtain⟨s4,rfl⟩:∃ y,y=sk2:=⟨_,rfl⟩
    refine AW.seq (AW.seq (AW.regL ?_))
    iterate 3 refine V rfl ?_
    refine LF ?_
    refine V rfl ?_
    refine AL.nil ?_
    refine AW.cT rfl (dT hltk2) ?_
    refine AW.skip ?_
    refine bdE hr fun s5 hqq3 hr=>?_
    refine AW.seq (AW.cut1 4 [(1,.pb 0 0),(3,.ref 1 none),(4,.d .fz (.i .i64 s3)),(5,.ref 3 none),(6,.d .fz (.i .i64 (k2:Int)))] [(3,.row .fz 1 (s5.map (A.D.i .i64)))] ?_ ?_)
    ·replace hr:=hqq3
     refine AW.block (AW.seq (AW.drawL (h:=?_)))
     iterate 2 refine V rfl ?_
     refine bdE hr fun x1 hx1 hr=>?_
     refine IE hx1 (Int.natCast_nonneg _) ?_
     refine LP hx1 ?_
     refine V rfl ?_
     refine ifE hr (fun h2 hr=>?_) fun h2 hr=>?_
     ·refine VT rfl (dT h2) ?_
      iterate 4 refine V rfl ?_
      refine IF (Int.natCast_nonneg _) hxk2 ?_
      iterate 3 refine V rfl ?_
      refine bdE hr fun y1 hy1 hr=>?_
      refine CB [] [1] (z2B (m:=.bo) hy1) ?_
      refine V rfl ?_
      refine AL.nil ?_
      refine ifE hr (fun h3 hr=>?_) fun h3 hr=>?_
      ·refine AW.cT rfl h3 ?_
       refine AW.regL ?_
       iterate 3 refine V rfl ?_
       refine bdE hr fun x2 hx2 hr=>?_
       refine IE hx2 (Int.natCast_nonneg _) ?_
       refine SE s3 hx2 ?_
       refine AL.nil ?_
       cases hr
       exact GH.renK hS [(0,0),(1,1),(3,3)] 4
      ·refine AW.cF rfl (bF h3) ?_
       refine AW.skip ?_
       cases hr
       exact GH.renK hS [(0,0),(1,1),(3,3)] 4
     ·refine VF rfl (dF h2) ?_
      refine AL.off ?_
      refine AL.off ?_
      refine AL.off ?_
      refine AL.off ?_
      refine AL.off ?_
      refine AL.off ?_
      refine AL.off ?_
      refine AL.off ?_
      refine AL.off ?_
      refine V rfl ?_
      refine AL.nil ?_
      refine AW.cF rfl rfl ?_
      refine AW.skip ?_
      cases hr
      exact GH.renK hS [(0,0),(1,1),(3,3)] 4
    ·refine AW.regL ?_
     refine V rfl ?_
     refine OB _ (q2b (p:=k2) (q:=1) (q1o hltk2 hl2)) ?_
     refine V rfl ?_
     refine AL.nil ?_
     cases hr
     exact GH.renK hS [(0,0),(1,1),(3,3)] 4
   ·refine AW.seq (AW.seq (AW.regL ?_))
    iterate 3 refine V rfl ?_
    refine LF ?_
    refine V rfl ?_
    refine AL.nil ?_
    refine AW.cF rfl (dF hltk2) ?_
    refine AW.exit ?_
    refine AW.regL ?_
    iterate 2 refine V rfl ?_
    refine AL.nil ?_
    refine AW.regL ?_
    refine V rfl ?_
    refine ggE hr fun g3 hr=>?_
    refine OB _ (bAdd g3) ?_
    refine V rfl ?_
    refine AL.nil ?_
    cases hr
    exact⟨_,rfl,GH.renK hS [(0,0),(3,1)] 2⟩
  ·refine AW.cF rfl (dF h1) ?_
   refine AW.exit ?_
   cases hr
   cases hik1 _ rfl
   exact GH.renK hS [(0,0),(1,1)] 2
 ·refine AW.seq (AW.regL ?_)
  iterate 2 refine V rfl ?_
  refine AL.nil ?_
  refine AW.ret ?_
  cases hr
  exact endA.renK [(1,0)] 1 hS
def q6Z (a0:Grammar)(a1:ByteArray):Option Int:=
 (q8S a0 a1).bind fun y1=>
 if y1 < 0 then (
 some 0
 ) else (
 (q5s a0).bind fun y2=>
 grd (0≤y1) <|
 (y2[y1.toNat]?).bind fun x1=>
 some x1
 )
theorem z3V {m:Md}{a0:Grammar}{a1:ByteArray}{r:Int}(hr:q6Z a0 a1=some r):Ok Tryz.prog 82 [Grammar.x m a0,.d .fz (.s a1)] [] (.d .fz (.i .i64 r)) []:=by
 refine Ok.enter rfl Tryz.func82 rfl rfl rfl fun S hS=>?_
 unfold q6Z at hr
 refine AW.seq (AW.regL ?_)
 refine BX 0 ?_
 refine V rfl ?_
 refine AL.nil ?_
 refine AW.seq (AW.regL ?_)
 iterate 2 refine V rfl ?_
 refine bdE hr fun y1 hy1 hr=>?_
 refine CB [] [] (z5q (m:=m) hy1) ?_
 refine V rfl ?_
 refine AL.nil ?_
 refine AW.seq (AW.seq (AW.regL ?_))
 iterate 2 refine V rfl ?_
 refine AL.nil ?_
 refine ifE hr (fun h1 hr=>?_) fun h1 hr=>?_
 ·refine AW.cT rfl (dT h1) ?_
  refine AW.seq (AW.regL ?_)
  refine V rfl ?_
  refine AL.nil ?_
  refine AW.ret ?_
  cases hr
  exact endA.renK [] 0 hS
 ·refine AW.cF rfl (dF h1) ?_
  refine AW.skip ?_
  refine AW.seq (AW.regL ?_)
  refine V rfl ?_
  refine bdE hr fun y2 hy2 hr=>?_
  refine CB [(0,1)] [] (z2C (m:=m) hy2) ?_
  refine V rfl ?_
  refine ggE hr fun g1 hr=>?_
  refine bdE hr fun x1 hx1 hr=>?_
  refine IE hx1 g1 ?_
  refine LP hx1 ?_
  refine V rfl ?_
  refine AL.nil ?_
  refine AW.ret ?_
  cases hr
  exact endA.renK [] 0 hS
def q4B (a0:Grammar)(a1:ByteArray):Option Bool:=
 (q6Z a0 a1).bind fun y1=>
 some (decide (0 < y1))
theorem z0Y {m:Md}{a0:Grammar}{a1:ByteArray}{r:Bool}(hr:q4B a0 a1=some r):Ok Tryz.prog 57 [Grammar.x m a0,.d .fz (.s a1)] [] (.d .fz (.b r)) []:=by
 refine Ok.enter rfl Tryz.func57 rfl rfl rfl fun S hS=>?_
 unfold q4B at hr
 refine AW.seq (AW.regL ?_)
 refine BX 0 ?_
 refine V rfl ?_
 refine AL.nil ?_
 refine AW.seq (AW.regL ?_)
 iterate 2 refine V rfl ?_
 refine bdE hr fun y1 hy1 hr=>?_
 refine CB [] [] (z3V (m:=m) hy1) ?_
 iterate 2 refine V rfl ?_
 refine AL.nil ?_
 refine AW.ret ?_
 cases hr
 exact endA.renK [] 0 hS
def q7Y (a0:Grammar):Nat→Rule→Unit→Option (Unit ⊕ (Int × Int)):=fun k1 xk1 _=>
 (q7B a0 xk1).bind fun y3=>
 if y3=true then (
 some (.inl ())
 ) else (
 some (.inr (7,(k1:Int)))
 )
def q4R (a0:Grammar):Nat→Symbol→Unit→Option (Unit ⊕ (Int × Int)):=fun k2 xk2 _=>
 (q4B a0 xk2.Name).bind fun y4=>
 if y4=true then (
 some (.inl ())
 ) else (
 some (.inr (8,(k2:Int)))
 )
def q4C (a0:Grammar):Option (Int × Int):=
 (q5o a0).bind fun (y1,y2)=>
 if y1=0 then (
 (findL (q7Y a0) 0 a0.Rules ()).bind <| onr (fun r1=>some r1) fun _=>
 (findL (q4R a0) 0 a0.Symbols ()).bind <| onr (fun r2=>some r2) fun _=>
 some (0,0)
 ) else (
 some (y1,y2)
 )
theorem z0Z {m:Md}{a0:Grammar}{r:(Int × Int)}(hr:q4C a0=some r):Ok Tryz.prog 32 [Grammar.x m a0] [] (.tu [.d .fz (.i .i64 r.1),.d .fz (.i .i64 r.2)]) []:=by
 refine Ok.enter rfl Tryz.func32 rfl rfl rfl fun S hS=>?_
 unfold q4C at hr
 refine AW.seq (AW.regL ?_)
 refine BX 0 ?_
 iterate 2 refine V rfl ?_
 refine AL.nil ?_
 refine AW.seq (AW.regL ?_)
 refine V rfl ?_
 refine bdE hr fun q1 hq1 hr=>?_
 obtain⟨y1,y2⟩:=q1
 refine CB [] [] (z2A (m:=m) hq1) ?_
 iterate 5 refine V rfl ?_
 refine AL.nil ?_
 refine AW.seq (AW.seq (AW.regL ?_))
 iterate 2 refine V rfl ?_
 refine AL.nil ?_
 refine ifE hr (fun h1 hr=>?_) fun h1 hr=>?_
 ·refine AW.cF rfl (nF h1) ?_
  refine AW.skip ?_
  refine AW.seq (AW.seq (AW.regL ?_))
  refine V rfl ?_
  refine AL.nil ?_
  refine AW.block ?_
  refine AW.len (.ag 1 (.tmp 0 rfl) rfl) fun hl1=>?_
  refine bdE hr fun q2 hqq2 hr=>?_
  refine AW.findL hqq2 hl1 1 (fun k1 _=>[(1,.pb 0 0),(6,.d .fz (.i .i64 (k1:Int)))]) (fun k1 _=>[]) (GH.renK hS [(0,0)] 1) (fun k1 xk1 sk1 ok1 hxk1 hr hltk1 hik1=>?_) fun k1 sk1 ek1 hltk1=>?_
  ·refine AW.seq (AW.seq (AW.regL ?_))
   iterate 3 refine V rfl ?_
   refine LF ?_
   refine V rfl ?_
   refine AL.nil ?_
   refine AW.cT rfl (dT hltk1) ?_
   refine AW.skip ?_
   refine AW.seq (AW.block (AW.seq (AW.drawL (h:=?_))))
   iterate 4 refine V rfl ?_
   refine IF (Int.natCast_nonneg _) hxk1 ?_
   refine V rfl ?_
   refine bdE hr fun y3 hy3 hr=>?_
   refine CB [] [] (z6E (m:=m) hy3) ?_
   refine V rfl ?_
   refine AL.nil ?_
   refine ifE hr (fun h2 hr=>?_) fun h2 hr=>?_
   ·refine AW.cF rfl (bnF h2) ?_
    refine AW.skip ?_
    refine AW.regL ?_
    refine V rfl ?_
    refine OB _ (q2b (p:=k1) (q:=1) (q1o hltk1 hl1)) ?_
    refine V rfl ?_
    refine AL.nil ?_
    cases hr
    exact⟨_,rfl,GH.renK hS [(0,0)] 1⟩
   ·refine AW.cT rfl (bnT h2) ?_
    refine AW.seq (AW.regL ?_)
    iterate 3 refine V rfl ?_
    refine AL.nil ?_
    refine AW.ret ?_
    cases hr
    cases hik1 _ rfl
    rename_i hr
    cases hr
    exact endA.renK [] 0 hS
  ·subst ek1
   refine AW.seq (AW.seq (AW.regL ?_))
   iterate 3 refine V rfl ?_
   refine LF ?_
   refine V rfl ?_
   refine AL.nil ?_
   refine AW.cF rfl (dF hltk1) ?_
   refine AW.exit ?_
   refine AW.seq (AW.seq (AW.regL ?_))
   refine V rfl ?_
   refine AL.nil ?_
   refine AW.block ?_
   refine AW.len (.box 0 0 rfl rfl) fun hl2=>?_
   refine bdE hr fun q3 hqq3 hr=>?_
   refine AW.findL hqq3 hl2 1 (fun k2 _=>[(1,.pb 0 0),(7,.d .fz (.i .i64 (k2:Int)))]) (fun k2 _=>[]) (GH.renK hS [(0,0)] 1) (fun k2 xk2 sk2 ok2 hxk2 hr hltk2 hik2=>?_) fun k2 sk2 ek2 hltk2=>?_
   ·refine AW.seq (AW.seq (AW.regL ?_))
    iterate 3 refine V rfl ?_
    refine LF ?_
    refine V rfl ?_
    refine AL.nil ?_
    refine AW.cT rfl (dT hltk2) ?_
    refine AW.skip ?_
    refine AW.seq (AW.block (AW.seq (AW.drawL (h:=?_))))
    iterate 4 refine V rfl ?_
    refine IF (Int.natCast_nonneg _) hxk2 ?_
    iterate 2 refine V rfl ?_
    refine bdE hr fun y4 hy4 hr=>?_
    refine CB [] [] (z0Y (m:=m) hy4) ?_
    refine V rfl ?_
    refine AL.nil ?_
    refine ifE hr (fun h3 hr=>?_) fun h3 hr=>?_
    ·refine AW.cF rfl (bnF h3) ?_
     refine AW.skip ?_
     refine AW.regL ?_
     refine V rfl ?_
     refine OB _ (q2b (p:=k2) (q:=1) (q1o hltk2 hl2)) ?_
     refine V rfl ?_
     refine AL.nil ?_
     cases hr
     exact⟨_,rfl,GH.renK hS [(0,0)] 1⟩
    ·refine AW.cT rfl (bnT h3) ?_
     refine AW.seq (AW.regL ?_)
     iterate 3 refine V rfl ?_
     refine AL.nil ?_
     refine AW.ret ?_
     cases hr
     cases hik2 _ rfl
     rename_i hr
     cases hr
     exact endA.renK [] 0 hS
   ·subst ek2
    refine AW.seq (AW.seq (AW.regL ?_))
    iterate 3 refine V rfl ?_
    refine LF ?_
    refine V rfl ?_
    refine AL.nil ?_
    refine AW.cF rfl (dF hltk2) ?_
    refine AW.exit ?_
    refine AW.seq (AW.regL ?_)
    iterate 2 refine V rfl ?_
    refine AL.nil ?_
    refine AW.ret ?_
    cases hr
    exact endA.renK [] 0 hS
 ·refine AW.cT rfl (nT h1) ?_
  refine AW.seq (AW.regL ?_)
  iterate 4 refine V rfl ?_
  refine AL.nil ?_
  refine AW.ret ?_
  cases hr
  exact endA.renK [] 0 hS
def z1Z (a0:Grammar):Option Bool:=
 (q4C a0).bind fun (y1,y2)=>
 some (decide (y1=0))
theorem j1u {m:Md}{a0:Grammar}{r:Bool}(hr:z1Z a0=some r):Ok Tryz.prog 12 [Grammar.x m a0] [] (.d .fz (.b r)) []:=by
 refine Ok.enter rfl Tryz.func12 rfl rfl rfl fun S hS=>?_
 unfold z1Z at hr
 refine AW.seq (AW.regL ?_)
 refine BX 0 ?_
 refine V rfl ?_
 refine AL.nil ?_
 refine AW.seq (AW.regL ?_)
 refine V rfl ?_
 refine bdE hr fun q1 hq1 hr=>?_
 obtain⟨y1,y2⟩:=q1
 refine CB [] [] (z0Z (m:=m) hq1) ?_
 iterate 5 refine V rfl ?_
 refine AL.nil ?_
 refine AW.seq (AW.regL ?_)
 iterate 3 refine V rfl ?_
 refine AL.nil ?_
 refine AW.ret ?_
 cases hr
 exact endA.renK [] 0 hS
def q6N (a2:Int):Nat→Occurrence→((List Int))→Option ((List Int)):=fun k1 xk1 s1=>
 (
 if xk1.Pos=a2 then (
 grd (((s1.length:Int)+1)*8≤140737488355328∧(s1.length:Int)+1≤9223372036854775807) <|
 some (s1++[(k1:Int)])
 ) else (
 some s1
 )
 ).bind fun s2=>
 some s2
def q3K (a0:Grammar)(a1:Rule)(a2:Int):Option (List Int):=
 (q2k a0 a1).bind fun y1=>
 (eachL (q6N a2) 0 y1 ([]:List Int)).bind fun s1=>
 some s1
theorem q9r {m:Md}{a0:Grammar}{a1:Rule}{a2:Int}{r:(List Int)}(hr:q3K a0 a1 a2=some r):Ok Tryz.prog 13 [Grammar.y m a0,Rule.x m a1,.d .fz (.i .i64 a2)] [] (.ref 0 none) [.row .fz 1 (r.map (A.D.i .i64))]:=by
 refine Ok.enter rfl Tryz.func13 rfl rfl rfl fun S hS=>?_
 unfold q3K at hr
 refine AW.seq (AW.regL ?_)
 refine BX 0 ?_
 refine BX 1 ?_
 refine V rfl ?_
 refine AL.nil ?_
 refine AW.seq (AW.regL ?_)
 refine L0 2 (A.D.i .i64) ?_
 refine V rfl ?_
 refine AL.nil ?_
 refine AW.seq (AW.seq (AW.regL ?_))
 iterate 2 refine V rfl ?_
 refine bdE hr fun y1 hy1 hr=>?_
 refine CB [(0,3)] [] (q5D (m:=m) hy1) ?_
 refine LE ?_
 refine V rfl ?_
 refine AL.nil ?_
 refine AW.block ?_
 refine AW.lenR 3 rfl fun hl1=>?_
 refine bdE hr fun s1 hqq1 hr=>?_
 refine AW.eachL hqq1 hl1 4 (fun k1 s1=>[(2,.d .fz (.i .i64 a2)),(7,.ref 2 none),(13,.ref 3 none),(14,.d .fz (.i .i64 (y1.length:Int))),(15,.d .fz (.i .i64 (k1:Int)))]) (fun k1 s1=>[(2,.row .fz 1 (s1.map (A.D.i .i64)))]) (GH.trans (GH.bw (q:=0) [.d m (.sl 2 (a0.Symbols.map Symbol.D)),.u] (.cons .rfl (.cons .u .nil)) rfl) (GH.renK hS [(0,0),(1,1),(2,2),(3,3)] 4)) (fun k1 xk1 sk1 ok1 hxk1 hr hltk1=>?_) fun k1 hltk1=>?_
 ·obtain⟨s1,rfl⟩:∃ y,y=sk1:=⟨_,rfl⟩
  refine AW.seq (AW.regL ?_)
  refine V rfl ?_
  refine AL.nil ?_
  refine AW.seq (AW.cT rfl (dT hltk1) ?_)
  refine AW.skip ?_
  refine bdE hr fun s2 hqq2 hr=>?_
  refine AW.seq (AW.cut1 4 [(2,.d .fz (.i .i64 a2)),(7,.ref 2 none),(13,.ref 3 none),(14,.d .fz (.i .i64 (y1.length:Int))),(15,.d .fz (.i .i64 (k1:Int)))] [(2,.row .fz 1 (s2.map (A.D.i .i64)))] ?_ ?_)
  ·replace hr:=hqq2
   refine AW.block (AW.seq (AW.regL ?_))
   refine V rfl ?_
   refine IE hxk1 (Int.natCast_nonneg _) ?_
   refine LPa hxk1 ?_
   refine NV 4 ?_
   refine V rfl ?_
   refine SB ?_
   refine AL.nil ?_
   refine AW.seq (AW.regL ?_)
   iterate 4 refine V rfl ?_
   refine AL.nil ?_
   refine ifE hr (fun h1 hr=>?_) fun h1 hr=>?_
   ·refine AW.cT rfl (dT h1) ?_
    refine AW.regL ?_
    iterate 2 refine V rfl ?_
    refine LIR 5 (m:=.fz) (f:=(A.D.i .i64)) (xs:=([(k1:Int)]:List Int)) ?_
    refine ggE hr fun g1 hr=>?_
    refine APf1 (f:=(A.D.i .i64)) 6 (fun _=>rfl) 8 g1 ?_
    refine V rfl ?_
    refine AL.nil ?_
    cases hr
    exact GH.trans (GH.bw (q:=0) [.d m (.sl 2 (a0.Symbols.map Symbol.D)),.u] (.cons .rfl (.cons .u .nil)) rfl) (GH.renK hS [(0,0),(1,1),(6,2),(3,3)] 4)
   ·refine AW.cF rfl (dF h1) ?_
    refine AW.skip ?_
    cases hr
    exact GH.trans (GH.bw (q:=0) [.d m (.sl 2 (a0.Symbols.map Symbol.D)),.u] (.cons .rfl (.cons .u .nil)) rfl) (GH.renK hS [(0,0),(1,1),(2,2),(3,3)] 4)
  ·refine AW.regL ?_
   refine OB _ (q2b (p:=k1) (q:=1) (q1o hltk1 hl1)) ?_
   refine V rfl ?_
   refine AL.nil ?_
   cases hr
   exact GH.trans (GH.bw (q:=0) [.d m (.sl 2 (a0.Symbols.map Symbol.D)),.u] (.cons .rfl (.cons .u .nil)) rfl) (GH.renK hS [(0,0),(1,1),(2,2),(3,3)] 4)
 ·refine AW.seq (AW.regL ?_)
  refine V rfl ?_
  refine AL.nil ?_
  refine AW.seq (AW.cF rfl (dF hltk1) ?_)
  refine AW.exit ?_
  refine AW.seq (AW.regL ?_)
  iterate 2 refine V rfl ?_
  refine AL.nil ?_
  refine AW.ret ?_
  cases hr
  exact endA.renK [(2,0)] 1 hS
def q7C (a0:Relation)(a1:Int)(a2:Int):Option Bool:=
 (q2Y a0).bind fun y1=>
 (
 if y1=true then (
 grd (I64 (a0.N - 1)) <|
 (q3v a1 0 (a0.N - 1)).bind fun y2=>
 some y2
 ) else (
 some false
 )
 ).bind fun s1=>
 (
 if s1=true then (
 grd (I64 (a0.N - 1)) <|
 (q3v a2 0 (a0.N - 1)).bind fun y3=>
 some y3
 ) else (
 some false
 )
 ).bind fun s2=>
 (
 if s2=true then (
 grd (0≤a1) <|
 (a0.Rows[a1.toNat]?).bind fun x1=>
 grd (0≤a2) <|
 grd (0≤x1∧0≤a2∧a2 < 64) <|
 grd (0≤((x1.toNat >>> a2.toNat:Nat):Int)∧0≤(1:Int)) <|
 some (decide (((((x1.toNat >>> a2.toNat:Nat):Int).toNat &&& (1:Int).toNat:Nat):Int)=1))
 ) else (
 some false
 )
 ).bind fun s3=>
 some s3
theorem z6F {m:Md}{a0:Relation}{a1:Int}{a2:Int}{r:Bool}(hr:q7C a0 a1 a2=some r):Ok Tryz.prog 18 [Relation.x m a0,.d .fz (.i .i64 a1),.d .fz (.i .i64 a2)] [] (.d .fz (.b r)) []:=by
 refine Ok.enter rfl Tryz.func18 rfl rfl rfl fun S hS=>?_
 unfold q7C at hr
 refine AW.seq (AW.regL ?_)
 refine BX 0 ?_
 refine V rfl ?_
 refine AL.nil ?_
 refine AW.seq (AW.regL ?_)
 refine V rfl ?_
 refine bdE hr fun y1 hy1 hr=>?_
 refine CB [] [] (q6H (m:=m) hy1) ?_
 refine bdE hr fun s1 hqq1 hr=>?_
 refine AL.meet1 7 [(1,.d .fz (.i .i64 a1)),(2,.d .fz (.i .i64 a2)),(3,.pb 0 0),(6,.d .fz (.b false)),(15,.d .fz (.b s1))] ?_ ?_
 ·replace hr:=hqq1
  refine ifE hr (fun h1 hr=>?_) fun h1 hr=>?_
  ·refine VT rfl h1 ?_
   iterate 3 refine V rfl ?_
   refine ggE hr fun g1 hr=>?_
   refine OB _ (bSub g1) ?_
   refine bdE hr fun y2 hy2 hr=>?_
   refine CB [] [] (q4W hy2) ?_
   refine V rfl ?_
   refine AL.nil ?_
   cases hr
   exact q1r
  ·refine VF rfl (bF h1) ?_
   refine AL.off ?_
   refine AL.off ?_
   refine AL.off ?_
   refine AL.off ?_
   refine AL.off ?_
   refine V rfl ?_
   refine AL.nil ?_
   cases hr
   exact q1r
 ·refine bdE hr fun s2 hqq2 hr=>?_
  refine AL.meet1 7 [(1,.d .fz (.i .i64 a1)),(2,.d .fz (.i .i64 a2)),(3,.pb 0 0),(6,.d .fz (.b false)),(22,.d .fz (.b s2))] ?_ ?_
  ·replace hr:=hqq2
   refine ifE hr (fun h2 hr=>?_) fun h2 hr=>?_
   ·refine VT rfl h2 ?_
    iterate 3 refine V rfl ?_
    refine ggE hr fun g2 hr=>?_
    refine OB _ (bSub g2) ?_
    refine bdE hr fun y3 hy3 hr=>?_
    refine CB [] [] (q4W hy3) ?_
    refine V rfl ?_
    refine AL.nil ?_
    cases hr
    exact q1r
   ·refine VF rfl (bF h2) ?_
    refine AL.off ?_
    refine AL.off ?_
    refine AL.off ?_
    refine AL.off ?_
    refine AL.off ?_
    refine V rfl ?_
    refine AL.nil ?_
    cases hr
    exact q1r
  ·refine bdE hr fun s3 hqq3 hr=>?_
   refine AL.meet1 12 [(6,.d .fz (.b false)),(34,.d .fz (.b s3))] ?_ ?_
   ·replace hr:=hqq3
    refine ifE hr (fun h3 hr=>?_) fun h3 hr=>?_
    ·refine VT rfl h3 ?_
     iterate 3 refine V rfl ?_
     refine ggE hr fun g3 hr=>?_
     refine bdE hr fun x1 hx1 hr=>?_
     refine IF g3 hx1 ?_
     iterate 2 refine V rfl ?_
     refine ggE hr fun g4 hr=>?_
     refine CIU g4 rfl ?_
     refine ggE hr fun g5 hr=>?_
     refine OB _ (j4M g5) ?_
     refine ggE hr fun g6 hr=>?_
     refine OB _ (j4N g6) ?_
     iterate 2 refine V rfl ?_
     refine AL.nil ?_
     cases hr
     exact q1r
    ·refine VF rfl (bF h3) ?_
     refine AL.off ?_
     refine AL.off ?_
     refine AL.off ?_
     refine AL.off ?_
     refine AL.off ?_
     refine AL.off ?_
     refine AL.off ?_
     refine AL.off ?_
     refine AL.off ?_
     refine AL.off ?_
     refine V rfl ?_
     refine AL.nil ?_
     cases hr
     exact q1r
   ·refine V rfl ?_
    refine AL.nil ?_
    refine AW.ret ?_
    cases hr
    exact endA.renK [] 0 hS
def q4o (a0:(List Occurrence))(a1:Occurrence):Option Bool:=
 (q2z a0 a1).bind fun y1=>
 some (decide (0≤y1))
theorem z0t {m:Md}{a0:(List Occurrence)}{a1:Occurrence}{r:Bool}(hr:q4o a0 a1=some r):Ok Tryz.prog 19 [.d m (.sl 2 (a0.map Occurrence.D)),Occurrence.x .fz a1] [] (.d .fz (.b r)) []:=by
 refine Ok.enter rfl Tryz.func19 rfl rfl rfl fun S hS=>?_
 unfold q4o at hr
 refine AW.seq (AW.regL ?_)
 refine BX 0 ?_
 refine V rfl ?_
 refine AL.nil ?_
 refine AW.seq (AW.regL ?_)
 iterate 2 refine V rfl ?_
 refine bdE hr fun y1 hy1 hr=>?_
 refine CB [] [] (q6K (m:=m) hy1) ?_
 iterate 2 refine V rfl ?_
 refine AL.nil ?_
 refine AW.ret ?_
 cases hr
 exact endA.renK [] 0 hS
def q2P (y2:Grammar)(y3:Rule):(Int × Int)→Option ((Int × Int) ⊕ (Int ⊕ Bool)):=fun (s2,s3)=>
 if s3≤(y3.Right.length:Int) then (
 (q3K y2 y3 s3).bind fun y11=>
 grd (I64 (s2+(y11.length:Int))) <|
 (q1X y3 s3).bind fun y12=>
 (q2h y2 y12).bind fun y13=>
 if (y11.length:Int)=(y13.length:Int) then (
 grd (I64 (s3+1)) <|
 some (.inl ((s2+(y11.length:Int)),(s3+1)))
 ) else (
 some (.inr (.inr false))
 )
 ) else (
 some (.inr (.inl s2))
 )
def q4i (y4:Relation)(s4:Int)(y16:(List Occurrence)):Nat→Occurrence→Unit→Option (Unit ⊕ Bool):=fun k3 xk3 _=>
 (q7C y4 (k3:Int) s4).bind fun y17=>
 (q4o y16 xk3).bind fun y18=>
 if y17=y18 then (
 some (.inl ())
 ) else (
 some (.inr false)
 )
def q2n (y3:Rule)(y4:Relation)(y5:(List Occurrence)):Int→Option (Int ⊕ (Unit ⊕ Bool)):=fun s4=>
 if s4 < (y5.length:Int) then (
 if 0 < y4.N then (
 grd (0≤s4) <|
 (y5[s4.toNat]?).bind fun x1=>
 (q2a y3 x1).bind fun (y14,y15)=>
 (q2G y14).bind fun y16=>
 (findL (q4i y4 s4 y16) 0 y5 ()).bind <| onr (fun r2=>some (.inr (.inr r2))) fun _=>
 grd (I64 (s4+1)) <|
 some (.inl (s4+1))
 ) else (
 some (.inr (.inl ()))
 )
 ) else (
 some (.inr (.inl ()))
 )
def q4s (a0:(List UInt8)):Option Bool:=
 (z7H a0).bind fun y1=>
 if y1=true then (
 some true
 ) else (
 (q3f a0).bind fun (y2,y3)=>
 (q2E y2 y3).bind fun y4=>
 (q2k y2 y3).bind fun y5=>
 (q3c y2 y3).bind fun y6=>
 (q4m y4 y6).bind fun y7=>
 if y7=true then (
 (q2F y2 y3).bind fun y8=>
 (q3J y5 y8).bind fun y9=>
 if y9=true then (
 (z1Z y2).bind fun y10=>
 if y10=true then (
 (q2t (q2P y2 y3) (0,0)).bind <| onr (fun r1=>some r1) fun s1=>
 (q2t (q2n y3 y4 y5) 0).bind <| onr (fun r3=>some r3) fun ()=>
 some (decide (s1=(y5.length:Int)))
 ) else (
 some true
 )
 ) else (
 some false
 )
 ) else (
 some false
 )
 )
theorem q9s {a0:(List UInt8)}{r:Bool}(hr:q4s a0=some r):Ok Tryz.prog 3 [.d .fz (.sl 1 (a0.map byD))] [] (.d .fz (.b r)) []:=by
 refine Ok.enter rfl Tryz.func3 rfl rfl rfl fun S hS=>?_
 unfold q4s at hr
 refine AW.seq (AW.regL ?_)
 refine V rfl ?_
 refine AL.nil ?_
 refine AW.seq (AW.seq (AW.regL ?_))
 refine V rfl ?_
 refine bdE hr fun y1 hy1 hr=>?_
 refine CB [] [] (j3l hy1) ?_
 refine AL.nil ?_
 refine ifE hr (fun h1 hr=>?_) fun h1 hr=>?_
 ·refine AW.cT rfl h1 ?_
  refine AW.seq (AW.regL ?_)
  refine V rfl ?_
  refine AL.nil ?_
  refine AW.ret ?_
  cases hr
  exact endA.renK [] 0 hS
 ·refine AW.cF rfl (bF h1) ?_
  refine AW.skip ?_
  refine AW.seq (AW.regL ?_)
  refine V rfl ?_
  refine bdE hr fun q1 hq1 hr=>?_
  obtain⟨y2,y3⟩:=q1
  refine CB [(0,0)] [] (q8q hq1) ?_
  iterate 3 refine V rfl ?_
  refine NV 1 ?_
  refine NV 2 ?_
  refine SB ?_
  refine SB ?_
  refine AL.nil ?_
  refine AW.seq (AW.regL ?_)
  iterate 2 refine V rfl ?_
  refine bdE hr fun y4 hy4 hr=>?_
  refine CB [(0,3)] [0] (z0n (m:=.bo) hy4) ?_
  refine NV 4 ?_
  refine SB ?_
  refine AL.nil ?_
  refine AW.seq (AW.regL ?_)
  iterate 2 refine V rfl ?_
  refine bdE hr fun y5 hy5 hr=>?_
  refine CB [(0,5)] [0] (q5D (m:=.bo) hy5) ?_
  refine V rfl ?_
  refine AL.nil ?_
  refine AW.seq (AW.seq (AW.drawL (h:=?_)))
  iterate 3 refine V rfl ?_
  refine bdE hr fun y6 hy6 hr=>?_
  refine CB [(0,6)] [0] (z0q (m:=.bo) hy6) ?_
  refine bdE hr fun y7 hy7 hr=>?_
  refine CB [] [3,6] (z0r (m:=.bo) hy7) ?_
  refine V rfl ?_
  refine ifE hr (fun h2 hr=>?_) fun h2 hr=>?_
  ·refine VF rfl (bnF h2) ?_
   iterate 3 refine V rfl ?_
   refine bdE hr fun y8 hy8 hr=>?_
   refine CB [(0,7)] [0] (q7A (m:=.bo) hy8) ?_
   refine bdE hr fun y9 hy9 hr=>?_
   refine CB [] [5,7] (q9p (m:=.bo) hy9) ?_
   iterate 2 refine V rfl ?_
   refine AL.nil ?_
   refine ifE hr (fun h3 hr=>?_) fun h3 hr=>?_
   ·refine AW.cF rfl (bnF h3) ?_
    refine AW.skip ?_
    refine AW.seq (AW.seq (AW.regL ?_))
    refine V rfl ?_
    refine bdE hr fun y10 hy10 hr=>?_
    refine CB [] [0] (j1u (m:=.bo) hy10) ?_
    refine V rfl ?_
    refine AL.nil ?_
    refine ifE hr (fun h4 hr=>?_) fun h4 hr=>?_
    ·refine AW.cF rfl (bnF h4) ?_
     refine AW.skip ?_
     refine AW.seq (AW.regL ?_)
     refine V rfl ?_
     refine AL.nil ?_
     refine AW.seq (AW.seq (AW.regL ?_))
     refine V rfl ?_
     refine AL.nil ?_
     refine bdE hr fun q2 hqq2 hr=>?_
     refine AW.cut 8 (fun s1=>[(4,.pb 2 0),(5,.pb 4 0),(6,.ref 5 none),(7,.d .fz (.i .i64 s1))]) (fun s1=>[]) (M:=fun x=>q2 = .inl x) ?_ fun x hx=>?_
     ·refine AW.block (AW.iter hqq2 8 (fun (s2,s3)=>[(3,.pb 1 0),(4,.pb 2 0),(5,.pb 4 0),(6,.ref 5 none),(7,.d .fz (.i .i64 s2)),(8,.d .fz (.i .i64 s3))]) (fun (s2,s3)=>[]) (GH.renK hS [(0,0),(1,1),(2,2),(3,3),(4,4),(5,5),(6,6),(7,7)] 8) fun sk1 ok1 hr hik1=>?_)
      obtain⟨s2,s3⟩:=sk1
      have hr:=hr
      refine AW.seq (AW.seq (AW.regL ?_))
      iterate 3 refine V rfl ?_
      refine LF ?_
      refine V rfl ?_
      refine AL.nil ?_
      refine ifE hr (fun h5 hr=>?_) fun h5 hr=>?_
      ·refine AW.cT rfl (dT h5) ?_
       refine AW.skip ?_
       refine AW.seq (AW.block (AW.seq (AW.regL ?_)))
       iterate 3 refine V rfl ?_
       refine bdE hr fun y11 hy11 hr=>?_
       refine CB [(0,8)] [0] (q9r (m:=.bo) hy11) ?_
       refine V rfl ?_
       refine AL.nil ?_
       refine AW.seq (AW.regL ?_)
       iterate 2 refine V rfl ?_
       refine LE ?_
       refine ggE hr fun g1 hr=>?_
       refine OB _ (bAdd g1) ?_
       refine V rfl ?_
       refine AL.nil ?_
       refine AW.seq (AW.drawL (h:=?_))
       refine V rfl ?_
       refine LE ?_
       iterate 3 refine V rfl ?_
       refine bdE hr fun y12 hy12 hr=>?_
       refine CB [] [] (q3F (m:=.fz) hy12) ?_
       refine bdE hr fun y13 hy13 hr=>?_
       refine CB [(0,9)] [0] (q6G (m:=.bo) hy13) ?_
       refine LE ?_
       refine V rfl ?_
       refine AL.nil ?_
       refine ifE hr (fun h6 hr=>?_) fun h6 hr=>?_
       ·refine AW.cF rfl (nF h6) ?_
        refine AW.skip ?_
        refine AW.regL ?_
        refine V rfl ?_
        refine ggE hr fun g2 hr=>?_
        refine OB _ (bAdd g2) ?_
        refine V rfl ?_
        refine AL.nil ?_
        cases hr
        exact⟨_,rfl,GH.renK hS [(0,0),(1,1),(2,2),(3,3),(4,4),(5,5),(6,6),(7,7)] 8⟩
       ·refine AW.cT rfl (nT h6) ?_
        refine AW.seq (AW.regL ?_)
        refine V rfl ?_
        refine AL.nil ?_
        refine AW.ret ?_
        cases hr
        cases hik1 _ rfl
        rename_i hr
        cases hr
        exact endA.renK [] 0 hS
      ·refine AW.cF rfl (dF h5) ?_
       refine AW.exit ?_
       cases hr
       cases hik1 _ rfl
       exact⟨_,rfl,GH.renK hS [(0,0),(1,1),(2,2),(3,3),(4,4),(5,5),(6,6),(7,7)] 8⟩
     ·subst hx
      obtain⟨s1,rfl⟩:∃ y,y=x:=⟨_,rfl⟩
      refine AW.seq (AW.seq (AW.regL ?_))
      refine V rfl ?_
      refine AL.nil ?_
      refine bdE hr fun q3 hqq3 hr=>?_
      refine AW.cut 8 (fun _=>[(6,.ref 5 none),(7,.d .fz (.i .i64 s1))]) (fun _=>[]) (M:=fun x=>q3 = .inl x) ?_ fun x hx=>?_
      ·refine AW.block (AW.iter hqq3 8 (fun s4=>[(4,.pb 2 0),(5,.pb 4 0),(6,.ref 5 none),(7,.d .fz (.i .i64 s1)),(10,.d .fz (.i .i64 s4))]) (fun s4=>[]) (GH.renK hS [(0,0),(1,1),(2,2),(3,3),(4,4),(5,5),(6,6),(7,7)] 8) fun sk2 ok2 hr hik2=>?_)
       obtain⟨s4,rfl⟩:∃ y,y=sk2:=⟨_,rfl⟩
       have hr:=hr
       refine AW.seq (AW.seq (AW.regL ?_))
       iterate 2 refine V rfl ?_
       refine LE ?_
       refine V rfl ?_
       refine ifE hr (fun h7 hr=>?_) fun h7 hr=>?_
       ·refine VT rfl (dT h7) ?_
        iterate 4 refine V rfl ?_
        refine AL.nil ?_
        refine ifE hr (fun h8 hr=>?_) fun h8 hr=>?_
        ·refine AW.cT rfl (dT h8) ?_
         refine AW.skip ?_
         refine AW.seq (AW.block (AW.seq (AW.drawL (h:=?_))))
         iterate 3 refine V rfl ?_
         refine ggE hr fun g3 hr=>?_
         refine bdE hr fun x1 hx1 hr=>?_
         refine IE hx1 g3 ?_
         refine LPa hx1 ?_
         refine bdE hr fun q4 hq4 hr=>?_
         obtain⟨y14,y15⟩:=q4
         refine CB [(0,8)] [] (q6e (m:=.fz) hq4) ?_
         iterate 3 refine V rfl ?_
         refine NV 9 ?_
         refine SB ?_
         refine V rfl ?_
         refine AL.nil ?_
         refine AW.seq (AW.regL ?_)
         refine V rfl ?_
         refine AL.fz 8 rfl ?_
         refine bdE hr fun y16 hy16 hr=>?_
         refine CB [] [] (q5H (m:=.fz) hy16) ?_
         refine V rfl ?_
         refine AL.nil ?_
         refine AW.seq (AW.regL ?_)
         refine V rfl ?_
         refine AL.nil ?_
         refine AW.block ?_
         refine AW.lenR 5 rfl fun hl3=>?_
         refine bdE hr fun q5 hqq5 hr=>?_
         refine AW.findL hqq5 hl3 10 (fun k3 _=>[(4,.pb 2 0),(5,.pb 4 0),(6,.ref 5 none),(7,.d .fz (.i .i64 s1)),(10,.d .fz (.i .i64 s4)),(13,.d .fz (.sl 2 (y16.map Occurrence.D))),(14,.d .fz (.i .i64 (k3:Int))),(74,.pb 4 0),(75,.d .fz (.i .i64 y4.N)),(76,.d .fz (.b (decide (0 < y4.N))))]) (fun k3 _=>[(8,.none)]) (GH.renK hS [(0,0),(1,1),(2,2),(3,3),(4,4),(5,5),(6,6),(7,7),(9,9)] 10) (fun k3 xk3 sk3 ok3 hxk3 hr hltk3 hik3=>?_) fun k3 sk3 ek3 hltk3=>?_
         ·refine AW.seq (AW.seq (AW.regL ?_))
          iterate 2 refine V rfl ?_
          refine LE ?_
          refine V rfl ?_
          refine AL.nil ?_
          refine AW.cT rfl (dT hltk3) ?_
          refine AW.skip ?_
          refine AW.seq (AW.block (AW.seq (AW.drawL (h:=?_))))
          iterate 3 refine V rfl ?_
          refine bdE hr fun y17 hy17 hr=>?_
          refine CB [] [3] (z6F (m:=.bo) hy17) ?_
          iterate 3 refine V rfl ?_
          refine IE hxk3 (Int.natCast_nonneg _) ?_
          refine LPa hxk3 ?_
          refine bdE hr fun y18 hy18 hr=>?_
          refine CB [] [] (z0t (m:=.fz) hy18) ?_
          refine BQn rfl rfl ?_
          refine AL.nil ?_
          refine ifE hr (fun h9 hr=>?_) fun h9 hr=>?_
          ·refine AW.cF rfl (nF h9) ?_
           refine AW.skip ?_
           refine AW.regL ?_
           refine V rfl ?_
           refine OB _ (q2b (p:=k3) (q:=1) (q1o hltk3 hl3)) ?_
           refine V rfl ?_
           refine AL.nil ?_
           cases hr
           exact⟨_,rfl,GH.renK hS [(0,0),(1,1),(2,2),(3,3),(4,4),(5,5),(6,6),(7,7),(9,9)] 10⟩
          ·refine AW.cT rfl (nT h9) ?_
           refine AW.seq (AW.regL ?_)
           refine V rfl ?_
           refine AL.nil ?_
           refine AW.ret ?_
           cases hr
           cases hik3 _ rfl
           rename_i hr
           cases hr
           cases hik2 _ rfl
           rename_i hr
           cases hr
           exact endA.renK [] 0 hS
         ·subst ek3
          refine AW.seq (AW.seq (AW.regL ?_))
          iterate 2 refine V rfl ?_
          refine LE ?_
          refine V rfl ?_
          refine AL.nil ?_
          refine AW.cF rfl (dF hltk3) ?_
          refine AW.exit ?_
          refine AW.regL ?_
          refine V rfl ?_
          refine ggE hr fun g4 hr=>?_
          refine OB _ (bAdd g4) ?_
          refine V rfl ?_
          refine AL.nil ?_
          cases hr
          exact⟨_,rfl,GH.renK hS [(0,0),(1,1),(2,2),(3,3),(4,4),(5,5),(6,6),(7,7)] 8⟩
        ·refine AW.cF rfl (dF h8) ?_
         refine AW.exit ?_
         cases hr
         cases hik2 _ rfl
         exact⟨_,rfl,GH.renK hS [(0,0),(1,1),(2,2),(3,3),(4,4),(5,5),(6,6),(7,7)] 8⟩
       ·refine VF rfl (dF h7) ?_
        refine AL.off ?_
        refine AL.off ?_
        refine AL.off ?_
        refine V rfl ?_
        refine AL.nil ?_
        refine AW.cF rfl rfl ?_
        refine AW.exit ?_
        cases hr
        cases hik2 _ rfl
        exact⟨_,rfl,GH.renK hS [(0,0),(1,1),(2,2),(3,3),(4,4),(5,5),(6,6),(7,7)] 8⟩
      ·subst hx
       refine AW.seq (AW.regL ?_)
       iterate 2 refine V rfl ?_
       refine LE ?_
       iterate 2 refine V rfl ?_
       refine AL.nil ?_
       refine AW.ret ?_
       cases hr
       exact endA.renK [] 0 hS
    ·refine AW.cT rfl (bnT h4) ?_
     refine AW.seq (AW.regL ?_)
     refine V rfl ?_
     refine AL.nil ?_
     refine AW.ret ?_
     cases hr
     exact endA.renK [] 0 hS
   ·refine AW.cT rfl (bnT h3) ?_
    refine AW.seq (AW.regL ?_)
    refine V rfl ?_
    refine AL.nil ?_
    refine AW.ret ?_
    cases hr
    exact endA.renK [] 0 hS
  ·refine VT rfl (bnT h2) ?_
   refine AL.off ?_
   refine AL.off ?_
   refine AL.off ?_
   refine AL.off ?_
   refine AL.off ?_
   refine AL.off ?_
   refine V rfl ?_
   refine AL.nil ?_
   refine AW.cT rfl rfl ?_
   refine AW.seq (AW.regL ?_)
   refine V rfl ?_
   refine AL.nil ?_
   refine AW.ret ?_
   cases hr
   exact endA.renK [] 0 hS
end Go.Proofs.YtiojgbiimbefiacGreat
