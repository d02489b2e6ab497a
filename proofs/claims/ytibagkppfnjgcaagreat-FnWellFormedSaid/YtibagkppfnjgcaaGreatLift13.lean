/- What some functions of the program compute, as partial functions on plain data, and that they do; each lemma bears its conditions in its statement. -/
import Derived.Test.YtibagkppfnjgcaaGreatLift12
set_option linter.unusedVariables false
set_option linter.unusedSimpArgs false
set_option linter.ambiguousOpen false
set_option linter.unusedSectionVars false
set_option linter.unnecessarySimpa false
set_option maxRecDepth 100000
set_option maxHeartbeats 40000000
noncomputable section
namespace Go.Proofs.YtibagkppfnjgcaaGreat
open Go Go.E Go.A
def z2U (y5:(List Occurrence)):Nat→Equation→Unit→Option (Unit ⊕ Bool):=fun k2 xk2 _=>
 (q7G y5 xk2.At).bind fun y8=>
 if y8=true then (
 (z0F xk2.Expr y5).bind fun y9=>
 if y9=true then (
 some (.inl ())
 ) else (
 some (.inr false)
 )
 ) else (
 some (.inl ())
 )
def q5R (y2:Grammar)(y3:Bool):Int→Option (Int ⊕ (Unit ⊕ Bool)):=fun s1=>
 (
 if s1 < (y2.Rules.length:Int) then (
 some y3
 ) else (
 some false
 )
 ).bind fun s2=>
 if s2=true then (
 grd (0≤s1) <|
 (y2.Rules[s1.toNat]?).bind fun x1=>
 (q4L y2 x1).bind fun y5=>
 (q4b y2 x1).bind fun y6=>
 (q6L y5 y6).bind fun y7=>
 if y7=true then (
 (findL (z2U y5) 0 x1.Equations ()).bind <| onr (fun r1=>some (.inr (.inr r1))) fun _=>
 grd (I64 (s1+1)) <|
 some (.inl (s1+1))
 ) else (
 some (.inr (.inr false))
 )
 ) else (
 some (.inr (.inl ()))
 )
def q9w (a0:(List UInt8)):Option Bool:=
 (j3F a0).bind fun y1=>
 if y1=true then (
 some true
 ) else (
 (q6r a0).bind fun y2=>
 (q8a y2).bind fun y3=>
 (q8d y2).bind fun y4=>
 if y3=y4 then (
 (q5m (q5R y2 y3) 0).bind <| onr (fun r2=>some r2) fun ()=>
 (
 if y3=true then (
 (z7Q y2).bind fun y10=>
 some y10
 ) else (
 some true
 )
 ).bind fun s3=>
 some s3
 ) else (
 some false
 )
 )
theorem z6r {a0:(List UInt8)}{r:Bool}(hr:q9w a0=some r):Ok Tryz.prog 3 [.d .fz (.sl 1 (a0.map byD))] [] (.d .fz (.b r)) []:=by
 refine Ok.enter rfl Tryz.func3 rfl rfl rfl fun S hS=>?_
 unfold q9w at hr
 refine sr ?_
 refine N1 ?_
 refine ssr ?_
 refine W1 ?_
 refine bdE hr fun y1 hy1 hr=>?_
 refine CB [] [] (j9c hy1) ?_
 refine N0 ?_
 refine ifE hr (fun h1 hr=>?_) fun h1 hr=>?_
 refine q0f rfl h1 ?_
 refine sr ?_
 refine N1 ?_
 refine AW.ret ?_
 cases hr
 exact q0a [] 0 hS
 refine q0g rfl (bF h1) ?_
 refine q0b ?_
 refine sr ?_
 refine W1 ?_
 refine bdE hr fun y2 hy2 hr=>?_
 refine CB [(0,0)] [] (z4e hy2) ?_
 refine NV 1 ?_
 refine SB ?_
 refine N0 ?_
 refine sr ?_
 refine W1 ?_
 refine bdE hr fun y3 hy3 hr=>?_
 refine CB [] [0] (z6n (m:=.bo) hy3) ?_
 refine N1 ?_
 refine ssr ?_
 refine W2 ?_
 refine bdE hr fun y4 hy4 hr=>?_
 refine CB [] [0] (z6q (m:=.bo) hy4) ?_
 refine BQn rfl rfl ?_
 refine N0 ?_
 refine ifE hr (fun h2 hr=>?_) fun h2 hr=>?_
 refine q0g rfl (nF h2) ?_
 refine q0b ?_
 refine ssr ?_
 refine N1 ?_
 refine bdE hr fun q1 hqq1 hr=>?_
 refine AW.cut 2 (fun _=>[(3,.pb 1 0),(4,.d .fz (.b y3))]) (fun _=>[]) (M:=fun x=>q1 = .inl x) ?_ fun x hx=>?_
 refine AW.block (q0q hqq1 2 (fun s1=>[(3,.pb 1 0),(4,.d .fz (.b y3)),(5,.d .fz (.i .i64 s1))]) (fun s1=>[]) (q0e hS 2) fun sk1 ok1 hr hik1=>?_)
 obtain⟨s1,rfl⟩:∃ y,y=sk1:=⟨_,rfl⟩
 have hr:=hr
 refine ssr ?_
 refine W3 ?_
 refine LF ?_
 refine W1 ?_
 refine bdE hr fun s2 hqq2 hr=>?_
 refine q0h 3 [(3,.pb 1 0),(4,.d .fz (.b y3)),(5,.d .fz (.i .i64 s1)),(25,.d .fz (.b s2))] ?_ ?_
 replace hr:=hqq2
 refine ifE hr (fun h3 hr=>?_) fun h3 hr=>?_
 refine VT rfl (dT h3) ?_
 refine N2 ?_
 cases hr
 exact q3n
 refine VF rfl (dF h3) ?_
 refine AL.off ?_
 refine N1 ?_
 cases hr
 exact q3n
 refine N0 ?_
 refine ifE hr (fun h4 hr=>?_) fun h4 hr=>?_
 refine q0f rfl h4 ?_
 refine q0b ?_
 refine q0d (AW.block (q0d (q0j (h:=?_))))
 refine W4 ?_
 refine ggE hr fun g1 hr=>?_
 refine bdE hr fun x1 hx1 hr=>?_
 refine IF g1 hx1 ?_
 refine W1 ?_
 refine bdE hr fun y5 hy5 hr=>?_
 refine CB [(0,2)] [0] (q9l (m:=.bo) hy5) ?_
 refine N1 ?_
 refine q0d (q0d (q0j (h:=?_)))
 refine W5 ?_
 refine IF g1 hx1 ?_
 refine W1 ?_
 refine bdE hr fun y6 hy6 hr=>?_
 refine CB [(0,3)] [0] (q7p (m:=.bo) hy6) ?_
 refine bdE hr fun y7 hy7 hr=>?_
 refine CB [] [2,3] (z4C (m:=.bo) hy7) ?_
 refine N1 ?_
 refine ifE hr (fun h5 hr=>?_) fun h5 hr=>?_
 refine q0g rfl (bnF h5) ?_
 refine q0b ?_
 refine sr ?_
 refine N1 ?_
 refine AW.block ?_
 refine AW.len (.ag 4 (.tmp 33 rfl) rfl) fun hl2=>?_
 refine bdE hr fun q3 hqq3 hr=>?_
 refine q0k hqq3 hl2 4 (fun k2 _=>[(3,.pb 1 0),(4,.d .fz (.b y3)),(5,.d .fz (.i .i64 s1)),(6,.ref 2 none),(7,.d .fz (.i .i64 (k2:Int)))]) (fun k2 _=>[]) (q0e hS 4) (fun k2 xk2 sk2 ok2 hxk2 hr hltk2 hik2=>?_) fun k2 sk2 ek2 hltk2=>?_
 refine ssr ?_
 refine W4 ?_
 refine IF g1 hx1 ?_
 refine W2 ?_
 refine LF ?_
 refine N1 ?_
 refine q0f rfl (dT hltk2) ?_
 refine q0b ?_
 refine q0d (AW.block (q0d (q0c ?_)))
 refine W4 ?_
 refine IF g1 hx1 ?_
 refine W3 ?_
 refine IF (Int.natCast_nonneg _) hxk2 ?_
 refine W2 ?_
 refine bdE hr fun y8 hy8 hr=>?_
 refine CB [] [2] (z5D (m:=.bo) hy8) ?_
 refine ifE hr (fun h6 hr=>?_) fun h6 hr=>?_
 refine VT rfl h6 ?_
 refine W3 ?_
 refine IF g1 hx1 ?_
 refine W3 ?_
 refine IF (Int.natCast_nonneg _) hxk2 ?_
 refine W3 ?_
 refine bdE hr fun y9 hy9 hr=>?_
 refine CB [] [2] (z4j (m:=.bo) hy9) ?_
 refine N2 ?_
 refine ifE hr (fun h7 hr=>?_) fun h7 hr=>?_
 refine q0g rfl (bnF h7) ?_
 refine q0b ?_
 refine q0c ?_
 refine W1 ?_
 refine OB _ (q3B (p:=k2) (q:=1) (q3m hltk2 hl2)) ?_
 refine N1 ?_
 cases hr
 exact⟨_,rfl,q0e hS 4⟩
 refine q0f rfl (bnT h7) ?_
 refine sr ?_
 refine N1 ?_
 refine AW.ret ?_
 cases hr
 cases hik2 _ rfl
 rename_i hr
 cases hr
 cases hik1 _ rfl
 rename_i hr
 cases hr
 exact q0a [] 0 hS
 refine VF rfl (bF h6) ?_
 iterate 13 refine AL.off ?_
 refine N1 ?_
 refine q0g rfl rfl ?_
 refine q0b ?_
 refine q0c ?_
 refine W1 ?_
 refine OB _ (q3B (p:=k2) (q:=1) (q3m hltk2 hl2)) ?_
 refine N1 ?_
 cases hr
 exact⟨_,rfl,q0e hS 4⟩
 subst ek2
 refine ssr ?_
 refine W4 ?_
 refine IF g1 hx1 ?_
 refine W2 ?_
 refine LF ?_
 refine N1 ?_
 refine q0g rfl (dF hltk2) ?_
 refine q0i ?_
 refine q0c ?_
 refine W1 ?_
 refine ggE hr fun g2 hr=>?_
 refine OB _ (bAdd g2) ?_
 refine N1 ?_
 cases hr
 exact⟨_,rfl,q0e hS 2⟩
 refine q0f rfl (bnT h5) ?_
 refine sr ?_
 refine N1 ?_
 refine AW.ret ?_
 cases hr
 cases hik1 _ rfl
 rename_i hr
 cases hr
 exact q0a [] 0 hS
 refine q0g rfl (bF h4) ?_
 refine q0i ?_
 cases hr
 cases hik1 _ rfl
 exact⟨_,rfl,q0e hS 2⟩
 subst hx
 refine sr ?_
 refine W2 ?_
 refine bdE hr fun s3 hqq4 hr=>?_
 refine q0h 4 [(88,.d .fz (.b s3))] ?_ ?_
 replace hr:=hqq4
 refine ifE hr (fun h8 hr=>?_) fun h8 hr=>?_
 refine VF rfl (bnF h8) ?_
 refine W1 ?_
 refine bdE hr fun y10 hy10 hr=>?_
 refine CB [] [0] (j7h (m:=.bo) hy10) ?_
 refine N1 ?_
 cases hr
 exact q3n
 refine VT rfl (bnT h8) ?_
 iterate 2 refine AL.off ?_
 refine N1 ?_
 cases hr
 exact q3n
 refine N1 ?_
 refine AW.ret ?_
 cases hr
 exact q0a [] 0 hS
 refine q0f rfl (nT h2) ?_
 refine sr ?_
 refine N1 ?_
 refine AW.ret ?_
 cases hr
 exact q0a [] 0 hS
end Go.Proofs.YtibagkppfnjgcaaGreat
