/- What some functions of the program compute, as partial functions on plain data, and that they do; each lemma bears its conditions in its statement. -/
import Derived.Test.YtibagkppfnjgcaaGreatLift10
set_option linter.unusedVariables false
set_option linter.unusedSimpArgs false
set_option linter.ambiguousOpen false
set_option linter.unusedSectionVars false
set_option linter.unnecessarySimpa false
set_option maxRecDepth 100000
set_option maxHeartbeats 40000000
noncomputable section
namespace Go.Proofs.YtibagkppfnjgcaaGreat
open Go Go.E Go.A
def q9o (a0:(List ByteArray)):Nat→ByteArray→Unit→Option (Unit ⊕ Bool):=fun k1 xk1 _=>
 grd (k1≤a0.length) <|
 (q9P (a0.take k1) xk1).bind fun y1=>
 if y1=true then (
 some (.inr false)
 ) else (
 some (.inl ())
 )
def q8B (a0:(List ByteArray)):Option Bool:=
 (findL (q9o a0) 0 a0 ()).bind <| onr (fun r1=>some r1) fun _=>
 some true
theorem z7H {m:Md}{a0:(List ByteArray)}{r:Bool}(hr:q8B a0=some r):Ok Tryz.prog 168 [.d m (.sl 1 (a0.map A.D.s))] [] (.d .fz (.b r)) []:=by
 refine Ok.enter rfl Tryz.func168 rfl rfl rfl fun S hS=>?_
 unfold q8B at hr
 refine sr ?_
 refine N1 ?_
 refine ssr ?_
 refine N1 ?_
 refine AW.block ?_
 refine AW.len (.tmp 0 rfl) fun hl1=>?_
 refine bdE hr fun q1 hqq1 hr=>?_
 refine q0k hqq1 hl1 0 (fun k1 _=>[(0,.d m (.sl 1 (a0.map A.D.s))),(3,.d .fz (.i .i64 (k1:Int)))]) (fun k1 _=>[]) (q0e hS 0) (fun k1 xk1 sk1 ok1 hxk1 hr hltk1 hik1=>?_) fun k1 sk1 ek1 hltk1=>?_
 refine ssr ?_
 refine W2 ?_
 refine LF ?_
 refine N1 ?_
 refine q0f rfl (dT hltk1) ?_
 refine q0b ?_
 refine q0d (AW.block (q0d (q0j (h:=?_))))
 refine W2 ?_
 refine ggE hr fun g1 hr=>?_
 refine SLH (Int.natCast_nonneg _) g1 ?_
 refine W2 ?_
 refine IF (Int.natCast_nonneg _) hxk1 ?_
 refine W1 ?_
 refine bdE hr fun y1 hy1 hr=>?_
 refine CB [] [] (z4S (m:=m) hy1) ?_
 refine N0 ?_
 refine ifE hr (fun h1 hr=>?_) fun h1 hr=>?_
 refine q0f rfl h1 ?_
 refine sr ?_
 refine N1 ?_
 refine AW.ret ?_
 cases hr
 cases hik1 _ rfl
 rename_i hr
 cases hr
 exact q0a [] 0 hS
 refine q0g rfl (bF h1) ?_
 refine q0b ?_
 refine q0c ?_
 refine W1 ?_
 refine OB _ (q3B (p:=k1) (q:=1) (q3m hltk1 hl1)) ?_
 refine N1 ?_
 cases hr
 exact⟨_,rfl,q0e hS 0⟩
 subst ek1
 refine ssr ?_
 refine W2 ?_
 refine LF ?_
 refine N1 ?_
 refine q0g rfl (dF hltk1) ?_
 refine q0i ?_
 refine sr ?_
 refine N1 ?_
 refine AW.ret ?_
 cases hr
 exact q0a [] 0 hS
def q8k:Nat→Attribute→((List ByteArray))→Option (((List ByteArray)) ⊕ Bool):=fun k1 xk1 s1=>
 (q6v xk1).bind fun y1=>
 if y1=true then (
 grd (((s1.length:Int)+1)*16≤140737488355328∧(s1.length:Int)+1≤9223372036854775807) <|
 some (.inl (s1++[xk1.Name]))
 ) else (
 some (.inr false)
 )
def q7D (a0:Symbol):Option Bool:=
 (findL q8k 0 a0.Attributes ([]:List ByteArray)).bind <| onr (fun r1=>some r1) fun s1=>
 (q4t a0.Name).bind fun y2=>
 (
 if y2=true then (
 some (decide ((s1.length:Int)≤4))
 ) else (
 some false
 )
 ).bind fun s2=>
 (
 if s2=true then (
 (q8B s1).bind fun y3=>
 some y3
 ) else (
 some false
 )
 ).bind fun s3=>
 some s3
theorem z5A {m:Md}{a0:Symbol}{r:Bool}(hr:q7D a0=some r):Ok Tryz.prog 126 [Symbol.x m a0] [] (.d .fz (.b r)) []:=by
 refine Ok.enter rfl Tryz.func126 rfl rfl rfl fun S hS=>?_
 unfold q7D at hr
 refine sr ?_
 refine BX 0 ?_
 refine N1 ?_
 refine sr ?_
 refine L0 1 A.D.s ?_
 refine N1 ?_
 refine ssr ?_
 refine N1 ?_
 refine AW.block ?_
 refine AW.len (.ag 1 (.tmp 0 rfl) rfl) fun hl1=>?_
 refine bdE hr fun q1 hqq1 hr=>?_
 refine q0k hqq1 hl1 2 (fun k1 s1=>[(1,.pb 0 0),(3,.ref 1 none),(4,.d .fz (.i .i64 (k1:Int)))]) (fun k1 s1=>[(1,.row .fz 1 (s1.map A.D.s))]) (q0e hS 2) (fun k1 xk1 sk1 ok1 hxk1 hr hltk1 hik1=>?_) fun k1 sk1 ek1 hltk1=>?_
 obtain⟨s1,rfl⟩:∃ y,y=sk1:=⟨_,rfl⟩
 refine ssr ?_
 refine W3 ?_
 refine LF ?_
 refine N1 ?_
 refine q0f rfl (dT hltk1) ?_
 refine q0b ?_
 refine q0d (AW.block (q0d (q0d (q0c ?_))))
 refine W3 ?_
 refine IF (Int.natCast_nonneg _) hxk1 ?_
 refine W1 ?_
 refine bdE hr fun y1 hy1 hr=>?_
 refine CB [] [] (z4g hy1) ?_
 refine N1 ?_
 refine ifE hr (fun h1 hr=>?_) fun h1 hr=>?_
 refine q0g rfl (bnF h1) ?_
 refine q0b ?_
 refine q0c ?_
 refine W4 ?_
 refine IF (Int.natCast_nonneg _) hxk1 ?_
 refine W2 ?_
 refine LIR 2 (m:=.fz) (f:=A.D.s) (xs:=[xk1.Name]) ?_
 refine ggE hr fun g1 hr=>?_
 refine APf1 (f:=A.D.s) 3 (fun _=>rfl) 16 g1 ?_
 refine N1 ?_
 refine q0c ?_
 refine W1 ?_
 refine OB _ (q3B (p:=k1) (q:=1) (q3m hltk1 hl1)) ?_
 refine N1 ?_
 cases hr
 exact⟨_,rfl,q0l hS [(0,0),(3,1)] 2⟩
 refine q0f rfl (bnT h1) ?_
 refine sr ?_
 refine N1 ?_
 refine AW.ret ?_
 cases hr
 cases hik1 _ rfl
 rename_i hr
 cases hr
 exact q0a [] 0 hS
 subst ek1
 obtain⟨s1,rfl⟩:∃ y,y=sk1:=⟨_,rfl⟩
 refine ssr ?_
 refine W3 ?_
 refine LF ?_
 refine N1 ?_
 refine q0g rfl (dF hltk1) ?_
 refine q0i ?_
 refine sr ?_
 refine W2 ?_
 refine bdE hr fun y2 hy2 hr=>?_
 refine CB [] [] (q4Q hy2) ?_
 refine bdE hr fun s2 hqq2 hr=>?_
 refine q0h 5 [(3,.ref 1 none),(36,.d .fz (.b s2))] ?_ ?_
 replace hr:=hqq2
 refine ifE hr (fun h2 hr=>?_) fun h2 hr=>?_
 refine VT rfl h2 ?_
 refine W1 ?_
 refine LE ?_
 refine N2 ?_
 cases hr
 exact q3n
 refine VF rfl (bF h2) ?_
 iterate 3 refine AL.off ?_
 refine N1 ?_
 cases hr
 exact q3n
 refine bdE hr fun s3 hqq3 hr=>?_
 refine q0h 4 [(40,.d .fz (.b s3))] ?_ ?_
 replace hr:=hqq3
 refine ifE hr (fun h3 hr=>?_) fun h3 hr=>?_
 refine VT rfl h3 ?_
 refine W1 ?_
 refine bdE hr fun y3 hy3 hr=>?_
 refine CB [] [1] (z7H (m:=.bo) hy3) ?_
 refine N1 ?_
 cases hr
 exact q3n
 refine VF rfl (bF h3) ?_
 iterate 2 refine AL.off ?_
 refine N1 ?_
 cases hr
 exact q3n
 refine N1 ?_
 refine AW.ret ?_
 cases hr
 exact q0a [] 0 hS
def z3z:Nat→ByteArray→Unit→Option (Unit ⊕ Bool):=fun k1 xk1 _=>
 (q4t xk1).bind fun y3=>
 if y3=true then (
 some (.inl ())
 ) else (
 some (.inr false)
 )
def z3A (a0:Rule):Nat→Equation→Unit→Option (Unit ⊕ Bool):=fun k2 xk2 _=>
 (q4t xk2.At.Name).bind fun y4=>
 (
 if y4=true then (
 (q5H xk2.At.Pos 0 (a0.Right.length:Int)).bind fun y5=>
 some (!y5)
 ) else (
 some true
 )
 ).bind fun s4=>
 (
 if s4=true then (
 some true
 ) else (
 (q8v xk2.Expr (a0.Right.length:Int)).bind fun y6=>
 some (!y6)
 )
 ).bind fun s5=>
 if s5=true then (
 some (.inr false)
 ) else (
 some (.inl ())
 )
def z3B (a0:Rule):Nat→Contribution→Unit→Option (Unit ⊕ Bool):=fun k3 xk3 _=>
 (q4t xk3.Symbol).bind fun y7=>
 (
 if y7=true then (
 (q4t xk3.Name).bind fun y8=>
 some (!y8)
 ) else (
 some true
 )
 ).bind fun s6=>
 (
 if s6=true then (
 some true
 ) else (
 (q8v xk3.Target (a0.Right.length:Int)).bind fun y9=>
 some (!y9)
 )
 ).bind fun s7=>
 (
 if s7=true then (
 some true
 ) else (
 (q8v xk3.Value (a0.Right.length:Int)).bind fun y10=>
 some (!y10)
 )
 ).bind fun s8=>
 if s8=true then (
 some (.inr false)
 ) else (
 some (.inl ())
 )
def q8C (a0:Rule):Option Bool:=
 (q4t a0.Name).bind fun y1=>
 (
 if y1=true then (
 (q4t a0.Left).bind fun y2=>
 some (!y2)
 ) else (
 some true
 )
 ).bind fun s1=>
 (
 if s1=true then (
 some true
 ) else (
 some (decide (3 < (a0.Right.length:Int)))
 )
 ).bind fun s2=>
 (
 if s2=true then (
 some true
 ) else (
 some (decide (2 < (a0.Contributions.length:Int)))
 )
 ).bind fun s3=>
 if s3=true then (
 some false
 ) else (
 (findL z3z 0 a0.Right ()).bind <| onr (fun r1=>some r1) fun _=>
 (findL (z3A a0) 0 a0.Equations ()).bind <| onr (fun r2=>some r2) fun _=>
 (findL (z3B a0) 0 a0.Contributions ()).bind <| onr (fun r3=>some r3) fun _=>
 some true
 )
theorem z7I {m:Md}{a0:Rule}{r:Bool}(hr:q8C a0=some r):Ok Tryz.prog 128 [Rule.x m a0] [] (.d .fz (.b r)) []:=by
 refine Ok.enter rfl Tryz.func128 rfl rfl rfl fun S hS=>?_
 unfold q8C at hr
 refine sr ?_
 refine BX 0 ?_
 refine N1 ?_
 refine sr ?_
 refine W2 ?_
 refine LF ?_
 refine N1 ?_
 refine ssr ?_
 refine W2 ?_
 refine bdE hr fun y1 hy1 hr=>?_
 refine CB [] [] (q4Q hy1) ?_
 refine W1 ?_
 refine bdE hr fun s1 hqq1 hr=>?_
 refine q0h 6 [(1,.pb 0 0),(3,.d .fz (.i .i64 (a0.Right.length:Int))),(21,.d .fz (.b s1))] ?_ ?_
 replace hr:=hqq1
 refine ifE hr (fun h1 hr=>?_) fun h1 hr=>?_
 refine VF rfl (bnF h1) ?_
 refine W2 ?_
 refine bdE hr fun y2 hy2 hr=>?_
 refine CB [] [] (q4Q hy2) ?_
 refine N2 ?_
 cases hr
 exact q3n
 refine VT rfl (bnT h1) ?_
 iterate 4 refine AL.off ?_
 refine N1 ?_
 cases hr
 exact q3n
 refine bdE hr fun s2 hqq2 hr=>?_
 refine q0h 4 [(1,.pb 0 0),(3,.d .fz (.i .i64 (a0.Right.length:Int))),(25,.d .fz (.b s2))] ?_ ?_
 replace hr:=hqq2
 refine ifE hr (fun h2 hr=>?_) fun h2 hr=>?_
 refine VT rfl h2 ?_
 iterate 2 refine AL.off ?_
 refine N1 ?_
 cases hr
 exact q3n
 refine VF rfl (bF h2) ?_
 refine N3 ?_
 cases hr
 exact q3n
 refine bdE hr fun s3 hqq3 hr=>?_
 refine q0h 6 [(1,.pb 0 0),(3,.d .fz (.i .i64 (a0.Right.length:Int))),(31,.d .fz (.b s3))] ?_ ?_
 replace hr:=hqq3
 refine ifE hr (fun h3 hr=>?_) fun h3 hr=>?_
 refine VT rfl h3 ?_
 iterate 4 refine AL.off ?_
 refine N1 ?_
 cases hr
 exact q3n
 refine VF rfl (bF h3) ?_
 refine W2 ?_
 refine LF ?_
 refine N2 ?_
 cases hr
 exact q3n
 refine N0 ?_
 refine ifE hr (fun h4 hr=>?_) fun h4 hr=>?_
 refine q0f rfl h4 ?_
 refine sr ?_
 refine N1 ?_
 refine AW.ret ?_
 cases hr
 exact q0a [] 0 hS
 refine q0g rfl (bF h4) ?_
 refine q0b ?_
 refine ssr ?_
 refine N1 ?_
 refine AW.block ?_
 refine AW.len (.box 0 2 rfl rfl) fun hl1=>?_
 refine bdE hr fun q4 hqq4 hr=>?_
 refine q0k hqq4 hl1 1 (fun k1 _=>[(1,.pb 0 0),(3,.d .fz (.i .i64 (a0.Right.length:Int))),(4,.d .fz (.i .i64 (k1:Int)))]) (fun k1 _=>[]) (q0e hS 1) (fun k1 xk1 sk1 ok1 hxk1 hr hltk1 hik1=>?_) fun k1 sk1 ek1 hltk1=>?_
 refine ssr ?_
 refine N3 ?_
 refine q0f rfl (dT hltk1) ?_
 refine q0b ?_
 refine q0d (AW.block (q0d (q0c ?_)))
 refine W3 ?_
 refine IF (Int.natCast_nonneg _) hxk1 ?_
 refine W1 ?_
 refine bdE hr fun y3 hy3 hr=>?_
 refine CB [] [] (q4Q hy3) ?_
 refine N1 ?_
 refine ifE hr (fun h5 hr=>?_) fun h5 hr=>?_
 refine q0g rfl (bnF h5) ?_
 refine q0b ?_
 refine q0c ?_
 refine W1 ?_
 refine OB _ (q3B (p:=k1) (q:=1) (q3m hltk1 hl1)) ?_
 refine N1 ?_
 cases hr
 exact⟨_,rfl,q0e hS 1⟩
 refine q0f rfl (bnT h5) ?_
 refine sr ?_
 refine N1 ?_
 refine AW.ret ?_
 cases hr
 cases hik1 _ rfl
 rename_i hr
 cases hr
 exact q0a [] 0 hS
 subst ek1
 refine ssr ?_
 refine N3 ?_
 refine q0g rfl (dF hltk1) ?_
 refine q0i ?_
 refine ssr ?_
 refine N1 ?_
 refine AW.block ?_
 refine AW.len (.box 0 4 rfl rfl) fun hl2=>?_
 refine bdE hr fun q5 hqq5 hr=>?_
 refine q0k hqq5 hl2 1 (fun k2 _=>[(1,.pb 0 0),(3,.d .fz (.i .i64 (a0.Right.length:Int))),(5,.d .fz (.i .i64 (k2:Int)))]) (fun k2 _=>[]) (q0e hS 1) (fun k2 xk2 sk2 ok2 hxk2 hr hltk2 hik2=>?_) fun k2 sk2 ek2 hltk2=>?_
 refine ssr ?_
 refine W3 ?_
 refine LF ?_
 refine N1 ?_
 refine q0f rfl (dT hltk2) ?_
 refine q0b ?_
 refine q0d (AW.block (q0d (q0c ?_)))
 refine W3 ?_
 refine IF (Int.natCast_nonneg _) hxk2 ?_
 refine W1 ?_
 refine NV 1 ?_
 refine SB ?_
 refine N0 ?_
 refine sr ?_
 refine W3 ?_
 refine bdE hr fun y4 hy4 hr=>?_
 refine CB [] [] (q4Q hy4) ?_
 refine W1 ?_
 refine bdE hr fun s4 hqq6 hr=>?_
 refine q0h 8 [(1,.pb 0 0),(3,.d .fz (.i .i64 (a0.Right.length:Int))),(5,.d .fz (.i .i64 (k2:Int))),(6,.pb 1 0),(68,.d .fz (.b s4))] ?_ ?_
 replace hr:=hqq6
 refine ifE hr (fun h6 hr=>?_) fun h6 hr=>?_
 refine VF rfl (bnF h6) ?_
 refine W4 ?_
 refine bdE hr fun y5 hy5 hr=>?_
 refine CB [] [] (q6x hy5) ?_
 refine N2 ?_
 cases hr
 exact q3n
 refine VT rfl (bnT h6) ?_
 iterate 6 refine AL.off ?_
 refine N1 ?_
 cases hr
 exact q3n
 refine bdE hr fun s5 hqq7 hr=>?_
 refine q0h 7 [(1,.pb 0 0),(3,.d .fz (.i .i64 (a0.Right.length:Int))),(5,.d .fz (.i .i64 (k2:Int))),(75,.d .fz (.b s5))] ?_ ?_
 replace hr:=hqq7
 refine ifE hr (fun h7 hr=>?_) fun h7 hr=>?_
 refine VT rfl h7 ?_
 iterate 5 refine AL.off ?_
 refine N1 ?_
 cases hr
 exact q3n
 refine VF rfl (bF h7) ?_
 refine W3 ?_
 refine bdE hr fun y6 hy6 hr=>?_
 refine CB [] [] (z3X (m:=m) hy6) ?_
 refine N2 ?_
 cases hr
 exact q3n
 refine N0 ?_
 refine ifE hr (fun h8 hr=>?_) fun h8 hr=>?_
 refine q0f rfl h8 ?_
 refine sr ?_
 refine N1 ?_
 refine AW.ret ?_
 cases hr
 cases hik2 _ rfl
 rename_i hr
 cases hr
 exact q0a [] 0 hS
 refine q0g rfl (bF h8) ?_
 refine q0b ?_
 refine q0c ?_
 refine W1 ?_
 refine OB _ (q3B (p:=k2) (q:=1) (q3m hltk2 hl2)) ?_
 refine N1 ?_
 cases hr
 exact⟨_,rfl,q0e hS 1⟩
 subst ek2
 refine ssr ?_
 refine W3 ?_
 refine LF ?_
 refine N1 ?_
 refine q0g rfl (dF hltk2) ?_
 refine q0i ?_
 refine ssr ?_
 refine N1 ?_
 refine AW.block ?_
 refine AW.len (.box 0 5 rfl rfl) fun hl3=>?_
 refine bdE hr fun q8 hqq8 hr=>?_
 refine q0k hqq8 hl3 1 (fun k3 _=>[(1,.pb 0 0),(3,.d .fz (.i .i64 (a0.Right.length:Int))),(7,.d .fz (.i .i64 (k3:Int)))]) (fun k3 _=>[]) (q0e hS 1) (fun k3 xk3 sk3 ok3 hxk3 hr hltk3 hik3=>?_) fun k3 sk3 ek3 hltk3=>?_
 refine ssr ?_
 refine W3 ?_
 refine LF ?_
 refine N1 ?_
 refine q0f rfl (dT hltk3) ?_
 refine q0b ?_
 refine q0d (AW.block (q0d (q0c ?_)))
 refine W3 ?_
 refine IF (Int.natCast_nonneg _) hxk3 ?_
 refine W1 ?_
 refine NV 1 ?_
 refine SB ?_
 refine N0 ?_
 refine sr ?_
 refine W2 ?_
 refine bdE hr fun y7 hy7 hr=>?_
 refine CB [] [] (q4Q hy7) ?_
 refine W1 ?_
 refine bdE hr fun s6 hqq9 hr=>?_
 refine q0h 6 [(1,.pb 0 0),(3,.d .fz (.i .i64 (a0.Right.length:Int))),(7,.d .fz (.i .i64 (k3:Int))),(8,.pb 1 0),(97,.d .fz (.b s6))] ?_ ?_
 replace hr:=hqq9
 refine ifE hr (fun h9 hr=>?_) fun h9 hr=>?_
 refine VF rfl (bnF h9) ?_
 refine W2 ?_
 refine bdE hr fun y8 hy8 hr=>?_
 refine CB [] [] (q4Q hy8) ?_
 refine N2 ?_
 cases hr
 exact q3n
 refine VT rfl (bnT h9) ?_
 iterate 4 refine AL.off ?_
 refine N1 ?_
 cases hr
 exact q3n
 refine bdE hr fun s7 hqq10 hr=>?_
 refine q0h 7 [(1,.pb 0 0),(3,.d .fz (.i .i64 (a0.Right.length:Int))),(7,.d .fz (.i .i64 (k3:Int))),(8,.pb 1 0),(104,.d .fz (.b s7))] ?_ ?_
 replace hr:=hqq10
 refine ifE hr (fun h10 hr=>?_) fun h10 hr=>?_
 refine VT rfl h10 ?_
 iterate 5 refine AL.off ?_
 refine N1 ?_
 cases hr
 exact q3n
 refine VF rfl (bF h10) ?_
 refine W3 ?_
 refine bdE hr fun y9 hy9 hr=>?_
 refine CB [] [] (z3X (m:=m) hy9) ?_
 refine N2 ?_
 cases hr
 exact q3n
 refine bdE hr fun s8 hqq11 hr=>?_
 refine q0h 7 [(1,.pb 0 0),(3,.d .fz (.i .i64 (a0.Right.length:Int))),(7,.d .fz (.i .i64 (k3:Int))),(111,.d .fz (.b s8))] ?_ ?_
 replace hr:=hqq11
 refine ifE hr (fun h11 hr=>?_) fun h11 hr=>?_
 refine VT rfl h11 ?_
 iterate 5 refine AL.off ?_
 refine N1 ?_
 cases hr
 exact q3n
 refine VF rfl (bF h11) ?_
 refine W3 ?_
 refine bdE hr fun y10 hy10 hr=>?_
 refine CB [] [] (z3X (m:=m) hy10) ?_
 refine N2 ?_
 cases hr
 exact q3n
 refine N0 ?_
 refine ifE hr (fun h12 hr=>?_) fun h12 hr=>?_
 refine q0f rfl h12 ?_
 refine sr ?_
 refine N1 ?_
 refine AW.ret ?_
 cases hr
 cases hik3 _ rfl
 rename_i hr
 cases hr
 exact q0a [] 0 hS
 refine q0g rfl (bF h12) ?_
 refine q0b ?_
 refine q0c ?_
 refine W1 ?_
 refine OB _ (q3B (p:=k3) (q:=1) (q3m hltk3 hl3)) ?_
 refine N1 ?_
 cases hr
 exact⟨_,rfl,q0e hS 1⟩
 subst ek3
 refine ssr ?_
 refine W3 ?_
 refine LF ?_
 refine N1 ?_
 refine q0g rfl (dF hltk3) ?_
 refine q0i ?_
 refine sr ?_
 refine N1 ?_
 refine AW.ret ?_
 cases hr
 exact q0a [] 0 hS
def z4a:Nat→Symbol→((List ByteArray))→Option (((List ByteArray)) ⊕ Int):=fun k1 xk1 s1=>
 (q7D xk1).bind fun y1=>
 if y1=true then (
 (q9P s1 xk1.Name).bind fun y2=>
 if y2=true then (
 some (.inr (k1:Int))
 ) else (
 grd (((s1.length:Int)+1)*16≤140737488355328∧(s1.length:Int)+1≤9223372036854775807) <|
 some (.inl (s1++[xk1.Name]))
 )
 ) else (
 some (.inr (k1:Int))
 )
def z4b:Nat→Rule→((List ByteArray))→Option (((List ByteArray)) ⊕ Int):=fun k2 xk2 s2=>
 (q8C xk2).bind fun y3=>
 if y3=true then (
 (q9P s2 xk2.Name).bind fun y4=>
 if y4=true then (
 some (.inr (k2:Int))
 ) else (
 grd (((s2.length:Int)+1)*16≤140737488355328∧(s2.length:Int)+1≤9223372036854775807) <|
 some (.inl (s2++[xk2.Name]))
 )
 ) else (
 some (.inr (k2:Int))
 )
def z3C (a0:Grammar):Option Int:=
 (findL z4a 0 a0.Symbols ([]:List ByteArray)).bind <| onr (fun r1=>some r1) fun s1=>
 (findL z4b 0 a0.Rules ([]:List ByteArray)).bind <| onr (fun r2=>some r2) fun s2=>
 some (-1)
theorem j4B {m:Md}{a0:Grammar}{r:Int}(hr:z3C a0=some r):Ok Tryz.prog 99 [Grammar.x m a0] [] (.d .fz (.i .i64 r)) []:=by
 refine Ok.enter rfl Tryz.func99 rfl rfl rfl fun S hS=>?_
 unfold z3C at hr
 refine sr ?_
 refine BX 0 ?_
 refine N1 ?_
 refine sr ?_
 refine L0 1 A.D.s ?_
 refine N1 ?_
 refine ssr ?_
 refine N1 ?_
 refine AW.block ?_
 refine AW.len (.ag 0 (.tmp 0 rfl) rfl) fun hl1=>?_
 refine bdE hr fun q1 hqq1 hr=>?_
 refine q0k hqq1 hl1 2 (fun k1 s1=>[(1,.pb 0 0),(3,.ref 1 none),(4,.d .fz (.i .i64 (k1:Int)))]) (fun k1 s1=>[(1,.row .fz 1 (s1.map A.D.s))]) (q0e hS 2) (fun k1 xk1 sk1 ok1 hxk1 hr hltk1 hik1=>?_) fun k1 sk1 ek1 hltk1=>?_
 obtain⟨s1,rfl⟩:∃ y,y=sk1:=⟨_,rfl⟩
 refine ssr ?_
 refine W3 ?_
 refine LF ?_
 refine N1 ?_
 refine q0f rfl (dT hltk1) ?_
 refine q0b ?_
 refine q0d (AW.block (q0d (q0d (q0c ?_))))
 refine W3 ?_
 refine IF (Int.natCast_nonneg _) hxk1 ?_
 refine W1 ?_
 refine bdE hr fun y1 hy1 hr=>?_
 refine CB [] [] (z5A (m:=m) hy1) ?_
 refine W1 ?_
 refine ifE hr (fun h1 hr=>?_) fun h1 hr=>?_
 refine VF rfl (bnF h1) ?_
 refine W4 ?_
 refine IF (Int.natCast_nonneg _) hxk1 ?_
 refine W2 ?_
 refine bdE hr fun y2 hy2 hr=>?_
 refine CB [] [1] (z4S (m:=.bo) hy2) ?_
 refine N1 ?_
 refine ifE hr (fun h2 hr=>?_) fun h2 hr=>?_
 refine q0f rfl h2 ?_
 refine sr ?_
 refine N2 ?_
 refine AW.ret ?_
 cases hr
 cases hik1 _ rfl
 rename_i hr
 cases hr
 exact q0a [] 0 hS
 refine q0g rfl (bF h2) ?_
 refine q0b ?_
 refine q0c ?_
 refine W4 ?_
 refine IF (Int.natCast_nonneg _) hxk1 ?_
 refine W2 ?_
 refine LIR 2 (m:=.fz) (f:=A.D.s) (xs:=[xk1.Name]) ?_
 refine ggE hr fun g1 hr=>?_
 refine APf1 (f:=A.D.s) 3 (fun _=>rfl) 16 g1 ?_
 refine N1 ?_
 refine q0c ?_
 refine W1 ?_
 refine OB _ (q3B (p:=k1) (q:=1) (q3m hltk1 hl1)) ?_
 refine N1 ?_
 cases hr
 exact⟨_,rfl,q0l hS [(0,0),(3,1)] 2⟩
 refine VT rfl (bnT h1) ?_
 iterate 8 refine AL.off ?_
 refine N1 ?_
 refine q0f rfl rfl ?_
 refine sr ?_
 refine N2 ?_
 refine AW.ret ?_
 cases hr
 cases hik1 _ rfl
 rename_i hr
 cases hr
 exact q0a [] 0 hS
 subst ek1
 obtain⟨s1,rfl⟩:∃ y,y=sk1:=⟨_,rfl⟩
 refine ssr ?_
 refine W3 ?_
 refine LF ?_
 refine N1 ?_
 refine q0g rfl (dF hltk1) ?_
 refine q0i ?_
 refine sr ?_
 refine L0 2 A.D.s ?_
 refine N1 ?_
 refine ssr ?_
 refine N1 ?_
 refine AW.block ?_
 refine AW.len (.box 0 1 rfl rfl) fun hl2=>?_
 refine bdE hr fun q2 hqq2 hr=>?_
 refine q0k hqq2 hl2 3 (fun k2 s2=>[(1,.pb 0 0),(3,.ref 2 none),(5,.d .fz (.i .i64 (k2:Int)))]) (fun k2 s2=>[(2,.row .fz 1 (s2.map A.D.s))]) (q0e hS 3) (fun k2 xk2 sk2 ok2 hxk2 hr hltk2 hik2=>?_) fun k2 sk2 ek2 hltk2=>?_
 obtain⟨s2,rfl⟩:∃ y,y=sk2:=⟨_,rfl⟩
 refine ssr ?_
 refine W3 ?_
 refine LF ?_
 refine N1 ?_
 refine q0f rfl (dT hltk2) ?_
 refine q0b ?_
 refine q0d (AW.block (q0d (q0d (q0c ?_))))
 refine W3 ?_
 refine IF (Int.natCast_nonneg _) hxk2 ?_
 refine W1 ?_
 refine bdE hr fun y3 hy3 hr=>?_
 refine CB [] [] (z7I (m:=m) hy3) ?_
 refine W1 ?_
 refine ifE hr (fun h3 hr=>?_) fun h3 hr=>?_
 refine VF rfl (bnF h3) ?_
 refine W4 ?_
 refine IF (Int.natCast_nonneg _) hxk2 ?_
 refine W2 ?_
 refine bdE hr fun y4 hy4 hr=>?_
 refine CB [] [2] (z4S (m:=.bo) hy4) ?_
 refine N1 ?_
 refine ifE hr (fun h4 hr=>?_) fun h4 hr=>?_
 refine q0f rfl h4 ?_
 refine sr ?_
 refine N2 ?_
 refine AW.ret ?_
 cases hr
 cases hik2 _ rfl
 rename_i hr
 cases hr
 exact q0a [] 0 hS
 refine q0g rfl (bF h4) ?_
 refine q0b ?_
 refine q0c ?_
 refine W4 ?_
 refine IF (Int.natCast_nonneg _) hxk2 ?_
 refine W2 ?_
 refine LIR 3 (m:=.fz) (f:=A.D.s) (xs:=[xk2.Name]) ?_
 refine ggE hr fun g2 hr=>?_
 refine APf1 (f:=A.D.s) 4 (fun _=>rfl) 16 g2 ?_
 refine N1 ?_
 refine q0c ?_
 refine W1 ?_
 refine OB _ (q3B (p:=k2) (q:=1) (q3m hltk2 hl2)) ?_
 refine N1 ?_
 cases hr
 exact⟨_,rfl,q0l hS [(0,0),(1,1),(4,2)] 3⟩
 refine VT rfl (bnT h3) ?_
 iterate 8 refine AL.off ?_
 refine N1 ?_
 refine q0f rfl rfl ?_
 refine sr ?_
 refine N2 ?_
 refine AW.ret ?_
 cases hr
 cases hik2 _ rfl
 rename_i hr
 cases hr
 exact q0a [] 0 hS
 subst ek2
 obtain⟨s2,rfl⟩:∃ y,y=sk2:=⟨_,rfl⟩
 refine ssr ?_
 refine W3 ?_
 refine LF ?_
 refine N1 ?_
 refine q0g rfl (dF hltk2) ?_
 refine q0i ?_
 refine sr ?_
 refine N1 ?_
 refine AW.ret ?_
 cases hr
 exact q0a [] 0 hS
def q8D (a0:Grammar)(a1:Rule):Int→Option (Int ⊕ (Unit ⊕ Bool)):=fun s1=>
 if s1≤(a1.Right.length:Int) then (
 (q4P a1 s1).bind fun y1=>
 (q4C a0 y1).bind fun (y2,y3)=>
 if y3=true then (
 grd (I64 (s1+1)) <|
 some (.inl (s1+1))
 ) else (
 some (.inr (.inr false))
 )
 ) else (
 some (.inr (.inl ()))
 )
def q9p (a0:Grammar)(a1:Rule):Option Bool:=
 (q5m (q8D a0 a1) 0).bind <| onr (fun r1=>some r1) fun ()=>
 some true
theorem z8t {m:Md}{a0:Grammar}{a1:Rule}{r:Bool}(hr:q9p a0 a1=some r):Ok Tryz.prog 129 [Grammar.y m a0,Rule.x m a1] [] (.d .fz (.b r)) []:=by
 refine Ok.enter rfl Tryz.func129 rfl rfl rfl fun S hS=>?_
 unfold q9p at hr
 refine sr ?_
 refine BX 0 ?_
 refine BX 1 ?_
 refine N1 ?_
 refine ssr ?_
 refine N1 ?_
 refine bdE hr fun q1 hqq1 hr=>?_
 refine AW.cut 2 (fun _=>[]) (fun _=>[]) (M:=fun x=>q1 = .inl x) ?_ fun x hx=>?_
 refine AW.block (q0q hqq1 2 (fun s1=>[(2,.pb 0 0),(3,.pb 1 0),(5,.d .fz (.i .i64 s1))]) (fun s1=>[]) (GH.trans (q0m (q:=0) [.d m (.sl 2 (a0.Symbols.map Symbol.D)),.u] (.cons .rfl (.cons .u .nil)) rfl) (q0e hS 2)) fun sk1 ok1 hr hik1=>?_)
 obtain⟨s1,rfl⟩:∃ y,y=sk1:=⟨_,rfl⟩
 have hr:=hr
 refine ssr ?_
 refine W3 ?_
 refine LF ?_
 refine N1 ?_
 refine ifE hr (fun h1 hr=>?_) fun h1 hr=>?_
 refine q0f rfl (dT h1) ?_
 refine q0b ?_
 refine q0d (AW.block (q0d (q0j (h:=?_))))
 refine W3 ?_
 refine bdE hr fun y1 hy1 hr=>?_
 refine CB [] [] (q6F (m:=m) hy1) ?_
 refine bdE hr fun q2 hq2 hr=>?_
 obtain⟨y2,y3⟩:=q2
 refine CB [(0,2)] [] (q5C (m:=m) hq2) ?_
 refine W3 ?_
 refine NV 3 ?_
 refine SB ?_
 refine N1 ?_
 refine sr ?_
 refine N2 ?_
 refine ifE hr (fun h2 hr=>?_) fun h2 hr=>?_
 refine q0g rfl (bnF h2) ?_
 refine q0b ?_
 refine q0c ?_
 refine W1 ?_
 refine ggE hr fun g1 hr=>?_
 refine OB _ (bAdd g1) ?_
 refine N1 ?_
 cases hr
 exact⟨_,rfl,GH.trans (q0m (q:=0) [.d m (.sl 2 (a0.Symbols.map Symbol.D)),.u] (.cons .rfl (.cons .u .nil)) rfl) (q0e hS 2)⟩
 refine q0f rfl (bnT h2) ?_
 refine sr ?_
 refine N1 ?_
 refine AW.ret ?_
 cases hr
 cases hik1 _ rfl
 rename_i hr
 cases hr
 exact q0a [] 0 hS
 refine q0g rfl (dF h1) ?_
 refine q0i ?_
 cases hr
 cases hik1 _ rfl
 exact⟨_,rfl,GH.trans (q0m (q:=0) [.d m (.sl 2 (a0.Symbols.map Symbol.D)),.u] (.cons .rfl (.cons .u .nil)) rfl) (q0e hS 2)⟩
 subst hx
 refine sr ?_
 refine N1 ?_
 refine AW.ret ?_
 cases hr
 exact q0a [] 0 hS
def z0N (rec_sl4Copy:Expr→Option Expr):Nat→Expr→((List Expr))→Option ((List Expr)):=fun k1 xk1 s1=>
 (rec_sl4Copy xk1).bind fun y1=>
 grd (((s1.length:Int)+1)*88≤140737488355328∧(s1.length:Int)+1≤9223372036854775807) <|
 some (s1++[y1])
def z0q (rec_sl4Copy:Expr→Option Expr)(a0:Expr):Option Expr:=
 (eachL (z0N rec_sl4Copy) 0 a0.Args ([]:List Expr)).bind fun s1=>
 some (⟨a0.Kind,a0.N,a0.Pos,a0.Type_,a0.Symbol,a0.Name,s1⟩:Expr)
theorem j2y {rec_sl4Copy:Expr→Option Expr}(ih_sl4Copy:∀ {m:Md} {a0:Expr} {r:Expr},rec_sl4Copy a0=some r→Ok Tryz.prog 186 [Expr.x m a0] [] (.ag [.d .fz (.i .i64 r.Kind),.d .fz (.i .i64 r.N),.d .fz (.i .i64 r.Pos),.d .fz (.i .i64 r.Type_),.d .fz (.s r.Symbol),.d .fz (.s r.Name),.ref 0 none]) [.row .fz 7 (r.Args.map Expr.D)]){m:Md}{a0:Expr}{r:Expr}(hr:z0q rec_sl4Copy a0=some r):Ok Tryz.prog 186 [Expr.x m a0] [] (.ag [.d .fz (.i .i64 r.Kind),.d .fz (.i .i64 r.N),.d .fz (.i .i64 r.Pos),.d .fz (.i .i64 r.Type_),.d .fz (.s r.Symbol),.d .fz (.s r.Name),.ref 0 none]) [.row .fz 7 (r.Args.map Expr.D)]:=by
 refine Ok.enter rfl Tryz.func186 rfl rfl rfl fun S hS=>?_
 unfold z0q at hr
 refine sr ?_
 refine BX 0 ?_
 refine NV 1 ?_
 refine N0 ?_
 refine sr ?_
 refine L0 2 Expr.D ?_
 refine N1 ?_
 refine ssr ?_
 refine N1 ?_
 refine AW.block ?_
 refine AW.len (.ag 6 (.tmp 0 rfl) rfl) fun hl1=>?_
 refine bdE hr fun s1 hqq1 hr=>?_
 refine q0o hqq1 hl1 3 (fun k1 s1=>[(1,.pb 0 0),(2,.pb 1 0),(3,.ref 2 none),(4,.d .fz (.i .i64 (k1:Int)))]) (fun k1 s1=>[(2,.row .fz 7 (s1.map Expr.D))]) (q0e hS 3) (fun k1 xk1 sk1 ok1 hxk1 hr hltk1=>?_) fun k1 hltk1=>?_
 obtain⟨s1,rfl⟩:∃ y,y=sk1:=⟨_,rfl⟩
 refine ssr ?_
 refine W3 ?_
 refine LF ?_
 refine N1 ?_
 refine q0f rfl (dT hltk1) ?_
 refine q0b ?_
 refine q0d (AW.block (q0c ?_))
 refine W4 ?_
 refine IFq (Int.natCast_nonneg _) hxk1 (Expr.D_cells xk1) ?_
 refine W1 ?_
 refine bdE hr fun y1 hy1 hr=>?_
 refine CB [(0,3)] [] (ih_sl4Copy (m:=m) hy1) ?_
 refine AL.fz 3 rfl ?_
 refine LIRq 4 (m:=.fz) (f:=Expr.D) [y1] (by simp only [List.map_cons,List.map_nil,Expr.D_eq]; rfl) ?_
 refine ggE hr fun g1 hr=>?_
 refine AP1 5 .fz 88 g1 ?_
 refine N1 ?_
 refine q0c ?_
 refine W1 ?_
 refine OB _ (q3B (p:=k1) (q:=1) (q3m hltk1 hl1)) ?_
 refine N1 ?_
 cases hr
 exact q0l hS [(0,0),(1,1),(5,2)] 3
 refine ssr ?_
 refine W3 ?_
 refine LF ?_
 refine N1 ?_
 refine q0g rfl (dF hltk1) ?_
 refine q0i ?_
 refine sr ?_
 refine W2 ?_
 refine SB ?_
 refine N0 ?_
 refine sr ?_
 refine W1 ?_
 refine SB ?_
 refine N0 ?_
 refine AW.ret ?_
 cases hr
 exact q0a [(2,0)] 1 hS
def q7E:Nat→Expr→Option Expr
  | 0,_=>none
  | n+1,a0=>z0q (q7E n) a0
def z7J (a0:Expr):Option Expr:=recO fun n=>q7E n a0
theorem j2z (n:Nat):∀ {m:Md} {a0:Expr} {r:Expr},q7E n a0=some r→Ok Tryz.prog 186 [Expr.x m a0] [] (.ag [.d .fz (.i .i64 r.Kind),.d .fz (.i .i64 r.N),.d .fz (.i .i64 r.Pos),.d .fz (.i .i64 r.Type_),.d .fz (.s r.Symbol),.d .fz (.s r.Name),.ref 0 none]) [.row .fz 7 (r.Args.map Expr.D)]:=by
  induction n with
  | zero=>intro _ _ r hr; exact nomatch (show (none:Option Expr)=some r from hr)
  | succ n ih=>intro _ _ r hr; exact j2y ih hr
theorem j4C {m:Md}{a0:Expr}{r:Expr}(hr:z7J a0=some r):Ok Tryz.prog 186 [Expr.x m a0] [] (.ag [.d .fz (.i .i64 r.Kind),.d .fz (.i .i64 r.N),.d .fz (.i .i64 r.Pos),.d .fz (.i .i64 r.Type_),.d .fz (.s r.Symbol),.d .fz (.s r.Name),.ref 0 none]) [.row .fz 7 (r.Args.map Expr.D)]:=by
 obtain⟨n,hn⟩:=q5a hr
 exact j2z n hn
def q8H (a1:Occurrence):Nat→Equation→Unit→Option (Unit ⊕ (Expr × Bool)):=fun k1 xk1 _=>
 if xk1.At=a1 then (
 (z7J xk1.Expr).bind fun y1=>
 some (.inr (y1,true))
 ) else (
 some (.inl ())
 )
def q8b (a0:Rule)(a1:Occurrence):Option (Expr × Bool):=
 (findL (q8H a1) 0 a0.Equations ()).bind <| onr (fun r1=>some r1) fun _=>
 some ((⟨0,0,0,0,(⟨#[]⟩:ByteArray),(⟨#[]⟩:ByteArray),[]⟩:Expr),false)
theorem z6o {m:Md}{a0:Rule}{a1:Occurrence}{r:(Expr × Bool)}(hr:q8b a0 a1=some r):Ok Tryz.prog 169 [Rule.x m a0,Occurrence.x .fz a1] [] (.tu [.ag [.d .fz (.i .i64 r.1.Kind),.d .fz (.i .i64 r.1.N),.d .fz (.i .i64 r.1.Pos),.d .fz (.i .i64 r.1.Type_),.d .fz (.s r.1.Symbol),.d .fz (.s r.1.Name),.ref 0 none],.d .fz (.b r.2)]) [.row .fz 7 (r.1.Args.map Expr.D)]:=by
 refine Ok.enter rfl Tryz.func169 rfl rfl rfl fun S hS=>?_
 unfold q8b at hr
 refine sr ?_
 refine BX 0 ?_
 refine BX 1 ?_
 refine NV 2 ?_
 refine N1 ?_
 refine ssr ?_
 refine N1 ?_
 refine AW.block ?_
 refine AW.len (.ag 4 (.tmp 0 rfl) rfl) fun hl1=>?_
 refine bdE hr fun q1 hqq1 hr=>?_
 refine q0k hqq1 hl1 3 (fun k1 _=>[(2,.pb 0 0),(3,.pb 1 0),(4,.pb 2 0),(6,.d .fz (.i .i64 (k1:Int)))]) (fun k1 _=>[]) (q0e hS 3) (fun k1 xk1 sk1 ok1 hxk1 hr hltk1 hik1=>?_) fun k1 sk1 ek1 hltk1=>?_
 refine ssr ?_
 refine W3 ?_
 refine LF ?_
 refine N1 ?_
 refine q0f rfl (dT hltk1) ?_
 refine q0b ?_
 refine q0d (AW.block (q0d (q0j (h:=?_))))
 refine W3 ?_
 refine IF (Int.natCast_nonneg _) hxk1 ?_
 refine W3 ?_
 refine SQ rfl rfl rfl rfl (q5n xk1.At a1) ?_
 refine N0 ?_
 refine ifE hr (fun h1 hr=>?_) fun h1 hr=>?_
 refine q0f rfl (dT h1) ?_
 refine sr ?_
 refine W3 ?_
 refine IF (Int.natCast_nonneg _) hxk1 ?_
 refine W2 ?_
 refine bdE hr fun y1 hy1 hr=>?_
 refine CB [(0,3)] [] (j4C (m:=m) hy1) ?_
 refine SB ?_
 refine N1 ?_
 refine AW.ret ?_
 cases hr
 cases hik1 _ rfl
 rename_i hr
 cases hr
 exact q0a [(3,0)] 1 hS
 refine q0g rfl (dF h1) ?_
 refine q0b ?_
 refine q0c ?_
 refine W1 ?_
 refine OB _ (q3B (p:=k1) (q:=1) (q3m hltk1 hl1)) ?_
 refine N1 ?_
 cases hr
 exact⟨_,rfl,q0e hS 3⟩
 subst ek1
 refine ssr ?_
 refine W3 ?_
 refine LF ?_
 refine N1 ?_
 refine q0g rfl (dF hltk1) ?_
 refine q0i ?_
 refine sr ?_
 refine W1 ?_
 refine SB ?_
 refine N1 ?_
 refine AW.ret ?_
 refine endA.gh (q0t (q:=2) (c:=6) (r:=3) .fz 7 rfl rfl rfl) ?_
 cases hr
 exact q0a [(3,0)] 1 hS
def z4k (a1:Rule):Nat→Occurrence→Unit→Option (Unit ⊕ Bool):=fun k1 xk1 _=>
 (q8b a1 xk1).bind fun (y2,y3)=>
 if y3=true then (
 some (.inl ())
 ) else (
 some (.inr true)
 )
def q9q (a0:Grammar)(a1:Rule):Option Bool:=
 (q4K a0 a1).bind fun y1=>
 (findL (z4k a1) 0 y1 ()).bind <| onr (fun r1=>some r1) fun _=>
 some false
theorem z8u {m:Md}{a0:Grammar}{a1:Rule}{r:Bool}(hr:q9q a0 a1=some r):Ok Tryz.prog 130 [Grammar.y m a0,Rule.x m a1] [] (.d .fz (.b r)) []:=by
 refine Ok.enter rfl Tryz.func130 rfl rfl rfl fun S hS=>?_
 unfold q9q at hr
 refine sr ?_
 refine BX 0 ?_
 refine BX 1 ?_
 refine N1 ?_
 refine sr ?_
 refine W2 ?_
 refine bdE hr fun y1 hy1 hr=>?_
 refine CB [(0,2)] [] (q7m (m:=m) hy1) ?_
 refine N1 ?_
 refine ssr ?_
 refine N1 ?_
 refine AW.block ?_
 refine q0r 2 rfl fun hl1=>?_
 refine bdE hr fun q1 hqq1 hr=>?_
 refine q0k hqq1 hl1 3 (fun k1 _=>[(3,.pb 1 0),(5,.ref 2 none),(6,.d .fz (.i .i64 (k1:Int)))]) (fun k1 _=>[]) (GH.trans (q0m (q:=0) [.d m (.sl 2 (a0.Symbols.map Symbol.D)),.u] (.cons .rfl (.cons .u .nil)) rfl) (q0e hS 3)) (fun k1 xk1 sk1 ok1 hxk1 hr hltk1 hik1=>?_) fun k1 sk1 ek1 hltk1=>?_
 refine ssr ?_
 refine W2 ?_
 refine LE ?_
 refine N1 ?_
 refine q0f rfl (dT hltk1) ?_
 refine q0b ?_
 refine q0d (AW.block (q0d (q0j (h:=?_))))
 refine W3 ?_
 refine IE hxk1 (Int.natCast_nonneg _) ?_
 refine LPa hxk1 ?_
 refine bdE hr fun q2 hq2 hr=>?_
 obtain⟨y2,y3⟩:=q2
 refine CB [(0,3)] [] (z6o (m:=m) hq2) ?_
 refine W3 ?_
 refine NV 4 ?_
 refine SB ?_
 refine N1 ?_
 refine sr ?_
 refine N2 ?_
 refine ifE hr (fun h1 hr=>?_) fun h1 hr=>?_
 refine q0g rfl (bnF h1) ?_
 refine q0b ?_
 refine q0c ?_
 refine W1 ?_
 refine OB _ (q3B (p:=k1) (q:=1) (q3m hltk1 hl1)) ?_
 refine N1 ?_
 cases hr
 exact⟨_,rfl,GH.trans (q0m (q:=0) [.d m (.sl 2 (a0.Symbols.map Symbol.D)),.u] (.cons .rfl (.cons .u .nil)) rfl) (q0e hS 3)⟩
 refine q0f rfl (bnT h1) ?_
 refine sr ?_
 refine N1 ?_
 refine AW.ret ?_
 cases hr
 cases hik1 _ rfl
 rename_i hr
 cases hr
 exact q0a [] 0 hS
 subst ek1
 refine ssr ?_
 refine W2 ?_
 refine LE ?_
 refine N1 ?_
 refine q0g rfl (dF hltk1) ?_
 refine q0i ?_
 refine sr ?_
 refine N1 ?_
 refine AW.ret ?_
 cases hr
 exact q0a [] 0 hS
def z1y (y1:(List Occurrence)):Nat→Equation→((List Occurrence))→Option (((List Occurrence)) ⊕ Bool):=fun k1 xk1 s1=>
 (q6p y1 xk1.At).bind fun y2=>
 if y2=true then (
 (q6p s1 xk1.At).bind fun y3=>
 if y3=true then (
 some (.inr true)
 ) else (
 grd (((s1.length:Int)+1)*24≤140737488355328∧(s1.length:Int)+1≤9223372036854775807) <|
 some (.inl (s1++[xk1.At]))
 )
 ) else (
 some (.inr true)
 )
def z1h (a0:Grammar)(a1:Rule):Option Bool:=
 (q4K a0 a1).bind fun y1=>
 (findL (z1y y1) 0 a1.Equations ([]:List Occurrence)).bind <| onr (fun r1=>some r1) fun s1=>
 some false
theorem j1h {m:Md}{a0:Grammar}{a1:Rule}{r:Bool}(hr:z1h a0 a1=some r):Ok Tryz.prog 131 [Grammar.y m a0,Rule.x m a1] [] (.d .fz (.b r)) []:=by
 refine Ok.enter rfl Tryz.func131 rfl rfl rfl fun S hS=>?_
 unfold z1h at hr
 refine sr ?_
 refine BX 0 ?_
 refine BX 1 ?_
 refine N1 ?_
 refine sr ?_
 refine W2 ?_
 refine bdE hr fun y1 hy1 hr=>?_
 refine CB [(0,2)] [] (q7m (m:=m) hy1) ?_
 refine N1 ?_
 refine sr ?_
 refine L0 3 Occurrence.D ?_
 refine N1 ?_
 refine ssr ?_
 refine N1 ?_
 refine AW.block ?_
 refine AW.len (.ag 4 (.tmp 1 rfl) rfl) fun hl1=>?_
 refine bdE hr fun q1 hqq1 hr=>?_
 refine q0k hqq1 hl1 4 (fun k1 s1=>[(3,.pb 1 0),(5,.ref 2 none),(6,.ref 3 none),(7,.d .fz (.i .i64 (k1:Int)))]) (fun k1 s1=>[(3,.row .fz 2 (s1.map Occurrence.D))]) (GH.trans (q0m (q:=0) [.d m (.sl 2 (a0.Symbols.map Symbol.D)),.u] (.cons .rfl (.cons .u .nil)) rfl) (q0e hS 4)) (fun k1 xk1 sk1 ok1 hxk1 hr hltk1 hik1=>?_) fun k1 sk1 ek1 hltk1=>?_
 obtain⟨s1,rfl⟩:∃ y,y=sk1:=⟨_,rfl⟩
 refine ssr ?_
 refine W3 ?_
 refine LF ?_
 refine N1 ?_
 refine q0f rfl (dT hltk1) ?_
 refine q0b ?_
 refine q0d (AW.block (q0d (q0c ?_)))
 refine W3 ?_
 refine IF (Int.natCast_nonneg _) hxk1 ?_
 refine W2 ?_
 refine NV 4 ?_
 refine SB ?_
 refine N0 ?_
 refine ssr ?_
 refine W2 ?_
 refine bdE hr fun y2 hy2 hr=>?_
 refine CB [] [2] (z0f (m:=.bo) hy2) ?_
 refine W1 ?_
 refine ifE hr (fun h1 hr=>?_) fun h1 hr=>?_
 refine VF rfl (bnF h1) ?_
 refine W2 ?_
 refine bdE hr fun y3 hy3 hr=>?_
 refine CB [] [3] (z0f (m:=.bo) hy3) ?_
 refine N1 ?_
 refine ifE hr (fun h2 hr=>?_) fun h2 hr=>?_
 refine q0f rfl h2 ?_
 refine sr ?_
 refine N1 ?_
 refine AW.ret ?_
 cases hr
 cases hik1 _ rfl
 rename_i hr
 cases hr
 exact q0a [] 0 hS
 refine q0g rfl (bF h2) ?_
 refine q0b ?_
 refine q0c ?_
 refine W2 ?_
 refine LIR 5 (m:=.fz) (f:=Occurrence.D) (xs:=[xk1.At]) ?_
 refine ggE hr fun g1 hr=>?_
 refine APf1 (f:=Occurrence.D) 6 (fun _=>rfl) 24 g1 ?_
 refine N1 ?_
 refine q0c ?_
 refine W1 ?_
 refine OB _ (q3B (p:=k1) (q:=1) (q3m hltk1 hl1)) ?_
 refine N1 ?_
 cases hr
 exact⟨_,rfl,GH.trans (q0m (q:=0) [.d m (.sl 2 (a0.Symbols.map Symbol.D)),.u] (.cons .rfl (.cons .u .nil)) rfl) (q0l hS [(0,0),(1,1),(2,2),(6,3)] 4)⟩
 refine VT rfl (bnT h1) ?_
 iterate 3 refine AL.off ?_
 refine N1 ?_
 refine q0f rfl rfl ?_
 refine sr ?_
 refine N1 ?_
 refine AW.ret ?_
 cases hr
 cases hik1 _ rfl
 rename_i hr
 cases hr
 exact q0a [] 0 hS
 subst ek1
 obtain⟨s1,rfl⟩:∃ y,y=sk1:=⟨_,rfl⟩
 refine ssr ?_
 refine W3 ?_
 refine LF ?_
 refine N1 ?_
 refine q0g rfl (dF hltk1) ?_
 refine q0i ?_
 refine sr ?_
 refine N1 ?_
 refine AW.ret ?_
 cases hr
 exact q0a [] 0 hS
def z1i (a0:Occurrence)(a1:Occurrence):Option Bool:=
 (
 if a0.Pos < a1.Pos then (
 some true
 ) else (
 (
 if a0.Pos=a1.Pos then (
 some (Op.bytesLess a0.Name.toList a1.Name.toList)
 ) else (
 some false
 )
 ).bind fun s2=>
 some s2
 )
 ).bind fun s1=>
 some s1
theorem j1i {a0:Occurrence}{a1:Occurrence}{r:Bool}(hr:z1i a0 a1=some r):Ok Tryz.prog 208 [Occurrence.x .fz a0,Occurrence.x .fz a1] [] (.d .fz (.b r)) []:=by
 refine Ok.enter rfl Tryz.func208 rfl rfl rfl fun S hS=>?_
 unfold z1i at hr
 refine sr ?_
 refine BX 0 ?_
 refine BX 1 ?_
 refine N1 ?_
 refine sr ?_
 refine W5 ?_
 refine bdE hr fun s1 hqq1 hr=>?_
 refine q0h 14 [(4,.d .fz (.b false)),(23,.d .fz (.b s1))] ?_ ?_
 replace hr:=hqq1
 refine ifE hr (fun h1 hr=>?_) fun h1 hr=>?_
 refine VT rfl (dT h1) ?_
 iterate 12 refine AL.off ?_
 refine N1 ?_
 cases hr
 exact q3n
 refine VF rfl (dF h1) ?_
 refine W5 ?_
 refine bdE hr fun s2 hqq2 hr=>?_
 refine q0h 7 [(4,.d .fz (.b false)),(10,.d .fz (.b false)),(22,.d .fz (.b s2))] ?_ ?_
 replace hr:=hqq2
 refine ifE hr (fun h2 hr=>?_) fun h2 hr=>?_
 refine VT rfl (dT h2) ?_
 refine W5 ?_
 refine N1 ?_
 cases hr
 exact q3n
 refine VF rfl (dF h2) ?_
 iterate 5 refine AL.off ?_
 refine N1 ?_
 cases hr
 exact q3n
 refine N1 ?_
 cases hr
 exact q3n
 refine N1 ?_
 refine AW.ret ?_
 cases hr
 exact q0a [] 0 hS
def z1j (a0:(List Occurrence))(a1:Occurrence):Int→Option (Int ⊕ Int):=fun s2=>
 if s2 < (a0.length:Int) then (
 grd (0≤s2) <|
 (a0[s2.toNat]?).bind fun x1=>
 (z1i x1 a1).bind fun y1=>
 if y1=true then (
 grd (I64 (s2+1)) <|
 some (.inl (s2+1))
 ) else (
 some (.inr s2)
 )
 ) else (
 some (.inr s2)
 )
def z5c (a0:(List Occurrence))(a1:Occurrence):Option (List Occurrence):=
 (q5m (z1j a0 a1) 0).bind fun s1=>
 if s1 < (a0.length:Int) then (
 grd (0≤s1) <|
 (a0[s1.toNat]?).bind fun x2=>
 if x2=a1 then (
 some a0
 ) else (
 grd (0≤s1) <|
 grd (s1.toNat≤a0.length) <|
 grd (((([]:List Occurrence).length:Int)+((a0.take s1.toNat).length:Int))*24≤140737488355328∧(([]:List Occurrence).length:Int)+((a0.take s1.toNat).length:Int)≤9223372036854775807) <|
 grd ((((a0.take s1.toNat).length:Int)+1)*24≤140737488355328∧((a0.take s1.toNat).length:Int)+1≤9223372036854775807) <|
 grd (0≤s1) <|
 grd (s1.toNat≤a0.length) <|
 grd (((((a0.take s1.toNat)++[a1]).length:Int)+((a0.drop s1.toNat).length:Int))*24≤140737488355328∧(((a0.take s1.toNat)++[a1]).length:Int)+((a0.drop s1.toNat).length:Int)≤9223372036854775807) <|
 some (((a0.take s1.toNat)++[a1])++(a0.drop s1.toNat))
 )
 ) else (
 grd (0≤s1) <|
 grd (s1.toNat≤a0.length) <|
 grd (((([]:List Occurrence).length:Int)+((a0.take s1.toNat).length:Int))*24≤140737488355328∧(([]:List Occurrence).length:Int)+((a0.take s1.toNat).length:Int)≤9223372036854775807) <|
 grd ((((a0.take s1.toNat).length:Int)+1)*24≤140737488355328∧((a0.take s1.toNat).length:Int)+1≤9223372036854775807) <|
 grd (0≤s1) <|
 grd (s1.toNat≤a0.length) <|
 grd (((((a0.take s1.toNat)++[a1]).length:Int)+((a0.drop s1.toNat).length:Int))*24≤140737488355328∧(((a0.take s1.toNat)++[a1]).length:Int)+((a0.drop s1.toNat).length:Int)≤9223372036854775807) <|
 some (((a0.take s1.toNat)++[a1])++(a0.drop s1.toNat))
 )
theorem j5E {m:Md}{a0:(List Occurrence)}{a1:Occurrence}{r:(List Occurrence)}(hr:z5c a0 a1=some r):Ok Tryz.prog 204 [.d m (.sl 2 (a0.map Occurrence.D)),Occurrence.x .fz a1] [] (.d m (.sl 2 (r.map Occurrence.D))) []:=by
 refine Ok.enter rfl Tryz.func204 rfl rfl rfl fun S hS=>?_
 unfold z5c at hr
 refine sr ?_
 refine BX 0 ?_
 refine N1 ?_
 refine sr ?_
 refine N1 ?_
 refine bdE hr fun s1 hqq1 hr=>?_
 refine q0d (q0n 1 [(0,.d m (.sl 2 (a0.map Occurrence.D))),(3,.pb 0 0),(5,.d .fz (.i .i64 s1))] [] ?_ ?_)
 refine AW.block (q0q hqq1 1 (fun s2=>[(0,.d m (.sl 2 (a0.map Occurrence.D))),(3,.pb 0 0),(5,.d .fz (.i .i64 s2))]) (fun s2=>[]) (q0e hS 1) fun sk1 ok1 hr hik1=>?_)
 obtain⟨s2,rfl⟩:∃ y,y=sk1:=⟨_,rfl⟩
 have hr:=hr
 refine q0d (q0d (q0j (h:=?_)))
 refine W2 ?_
 refine LF ?_
 refine W1 ?_
 refine ifE hr (fun h1 hr=>?_) fun h1 hr=>?_
 refine VT rfl (dT h1) ?_
 refine W2 ?_
 refine ggE hr fun g1 hr=>?_
 refine bdE hr fun x1 hx1 hr=>?_
 refine IF g1 hx1 ?_
 refine W2 ?_
 refine bdE hr fun y1 hy1 hr=>?_
 refine CB [] [] (j1i hy1) ?_
 refine N1 ?_
 refine ifE hr (fun h2 hr=>?_) fun h2 hr=>?_
 refine q0f rfl h2 ?_
 refine q0b ?_
 refine AW.block (q0c ?_)
 refine W1 ?_
 refine ggE hr fun g2 hr=>?_
 refine OB _ (bAdd g2) ?_
 refine N1 ?_
 cases hr
 exact⟨_,rfl,q0e hS 1⟩
 refine q0g rfl (bF h2) ?_
 refine q0i ?_
 cases hr
 cases hik1 _ rfl
 exact q0e hS 1
 refine VF rfl (dF h1) ?_
 iterate 6 refine AL.off ?_
 refine N1 ?_
 refine q0g rfl rfl ?_
 refine q0i ?_
 cases hr
 cases hik1 _ rfl
 exact q0e hS 1
 refine q0d (q0d (q0j (h:=?_)))
 refine W2 ?_
 refine LF ?_
 refine W1 ?_
 refine ifE hr (fun h3 hr=>?_) fun h3 hr=>?_
 refine VT rfl (dT h3) ?_
 refine W2 ?_
 refine ggE hr fun g3 hr=>?_
 refine bdE hr fun x2 hx2 hr=>?_
 refine IF g3 hx2 ?_
 refine W2 ?_
 refine SQ rfl rfl rfl rfl (q5n x2 a1) ?_
 refine N1 ?_
 refine ifE hr (fun h4 hr=>?_) fun h4 hr=>?_
 refine q0f rfl (dT h4) ?_
 refine sr ?_
 refine N2 ?_
 refine AW.ret ?_
 cases hr
 exact q0a [] 0 hS
 refine q0g rfl (dF h4) ?_
 refine q0b ?_
 refine sr ?_
 refine L0 1 Occurrence.D ?_
 refine W2 ?_
 refine ggE hr fun g4 hr=>?_
 refine ggE hr fun g5 hr=>?_
 refine SLH g4 g5 ?_
 refine ggE hr fun g6 hr=>?_
 refine APfB (f:=Occurrence.D) 2 24 (fun _=>rfl) g6 ?_
 refine N1 ?_
 refine sr ?_
 refine W2 ?_
 refine LIR 3 (m:=.fz) (f:=Occurrence.D) (xs:=[a1]) ?_
 refine ggE hr fun g7 hr=>?_
 refine APf1 (f:=Occurrence.D) 4 (fun _=>rfl) 24 g7 ?_
 refine N1 ?_
 refine sr ?_
 refine W3 ?_
 refine ggE hr fun g8 hr=>?_
 refine ggE hr fun g9 hr=>?_
 refine SLL g8 g9 ?_
 refine ggE hr fun g10 hr=>?_
 refine APfB (f:=Occurrence.D) 5 24 (fun _=>rfl) g10 ?_
 refine N1 ?_
 refine AW.ret ?_
 refine endA.gh (q0y (r:=5) rfl) ?_
 cases hr
 exact endA.ren [] 0 (.inr rfl) hS rfl rfl rfl (.md rfl) rfl rfl
 refine VF rfl (dF h3) ?_
 iterate 6 refine AL.off ?_
 refine N1 ?_
 refine q0g rfl rfl ?_
 refine q0b ?_
 refine sr ?_
 refine L0 1 Occurrence.D ?_
 refine W2 ?_
 refine ggE hr fun g11 hr=>?_
 refine ggE hr fun g12 hr=>?_
 refine SLH g11 g12 ?_
 refine ggE hr fun g13 hr=>?_
 refine APfB (f:=Occurrence.D) 2 24 (fun _=>rfl) g13 ?_
 refine N1 ?_
 refine sr ?_
 refine W2 ?_
 refine LIR 3 (m:=.fz) (f:=Occurrence.D) (xs:=[a1]) ?_
 refine ggE hr fun g14 hr=>?_
 refine APf1 (f:=Occurrence.D) 4 (fun _=>rfl) 24 g14 ?_
 refine N1 ?_
 refine sr ?_
 refine W3 ?_
 refine ggE hr fun g15 hr=>?_
 refine ggE hr fun g16 hr=>?_
 refine SLL g15 g16 ?_
 refine ggE hr fun g17 hr=>?_
 refine APfB (f:=Occurrence.D) 5 24 (fun _=>rfl) g17 ?_
 refine N1 ?_
 refine AW.ret ?_
 refine endA.gh (q0y (r:=5) rfl) ?_
 cases hr
 exact endA.ren [] 0 (.inr rfl) hS rfl rfl rfl (.md rfl) rfl rfl
def z0O (rec_sl4Uses:Expr→(List Occurrence)→Option (List Occurrence)):Nat→Expr→((List Occurrence))→Option ((List Occurrence)):=fun k1 xk1 s1=>
 (rec_sl4Uses xk1 s1).bind fun y2=>
 some y2
def z5B (rec_sl4Uses:Expr→(List Occurrence)→Option (List Occurrence)):Nat→Expr→((List Occurrence))→Option ((List Occurrence)):=fun k2 xk2 s2=>
 (rec_sl4Uses xk2 s2).bind fun y3=>
 some y3
def z0r (rec_sl4Uses:Expr→(List Occurrence)→Option (List Occurrence))(a0:Expr)(a1:(List Occurrence)):Option (List Occurrence):=
 if a0.Kind=3 then (
 (z5c a1 (⟨a0.Pos,a0.Name⟩:Occurrence)).bind fun y1=>
 (eachL (z0O rec_sl4Uses) 0 a0.Args y1).bind fun s1=>
 some s1
 ) else (
 (eachL (z5B rec_sl4Uses) 0 a0.Args a1).bind fun s2=>
 some s2
 )
theorem j2A {rec_sl4Uses:Expr→(List Occurrence)→Option (List Occurrence)}(ih_sl4Uses:∀ {m:Md} {a0:Expr} {a1:(List Occurrence)} {r:(List Occurrence)},rec_sl4Uses a0 a1=some r→Ok Tryz.prog 198 [Expr.x m a0,.d m (.sl 2 (a1.map Occurrence.D))] [] (.d m (.sl 2 (r.map Occurrence.D))) []){m:Md}{a0:Expr}{a1:(List Occurrence)}{r:(List Occurrence)}(hr:z0r rec_sl4Uses a0 a1=some r):Ok Tryz.prog 198 [Expr.x m a0,.d m (.sl 2 (a1.map Occurrence.D))] [] (.d m (.sl 2 (r.map Occurrence.D))) []:=by
 refine Ok.enter rfl Tryz.func198 rfl rfl rfl fun S hS=>?_
 unfold z0r at hr
 refine sr ?_
 refine BX 0 ?_
 refine N1 ?_
 refine ssr ?_
 refine N3 ?_
 refine ifE hr (fun h1 hr=>?_) fun h1 hr=>?_
 refine q0f rfl (dT h1) ?_
 refine q0c ?_
 refine W5 ?_
 refine W1 ?_
 refine bdE hr fun y1 hy1 hr=>?_
 refine CB [] [] (j5E (m:=m) hy1) ?_
 refine N1 ?_
 refine ssr ?_
 refine N1 ?_
 refine AW.block ?_
 refine AW.len (.ag 6 (.tmp 0 rfl) rfl) fun hl1=>?_
 refine bdE hr fun s1 hqq1 hr=>?_
 refine q0o hqq1 hl1 1 (fun k1 s1=>[(1,.d m (.sl 2 (s1.map Occurrence.D))),(2,.pb 0 0),(5,.d .fz (.i .i64 (k1:Int)))]) (fun k1 s1=>[]) (q0e hS 1) (fun k1 xk1 sk1 ok1 hxk1 hr hltk1=>?_) fun k1 hltk1=>?_
 obtain⟨s1,rfl⟩:∃ y,y=sk1:=⟨_,rfl⟩
 refine ssr ?_
 refine W3 ?_
 refine LF ?_
 refine N1 ?_
 refine q0f rfl (dT hltk1) ?_
 refine q0b ?_
 refine q0d (AW.block (q0c ?_))
 refine W3 ?_
 refine IFq (Int.natCast_nonneg _) hxk1 (Expr.D_cells xk1) ?_
 refine W2 ?_
 refine bdE hr fun y2 hy2 hr=>?_
 refine CB [] [] (ih_sl4Uses (m:=m) hy2) ?_
 refine N1 ?_
 refine q0c ?_
 refine W1 ?_
 refine OB _ (q3B (p:=k1) (q:=1) (q3m hltk1 hl1)) ?_
 refine N1 ?_
 cases hr
 exact q0e hS 1
 refine ssr ?_
 refine W3 ?_
 refine LF ?_
 refine N1 ?_
 refine q0g rfl (dF hltk1) ?_
 refine q0i ?_
 refine sr ?_
 refine N2 ?_
 refine AW.ret ?_
 cases hr
 exact q0a [] 0 hS
 refine q0g rfl (dF h1) ?_
 refine q0b ?_
 refine ssr ?_
 refine N1 ?_
 refine AW.block ?_
 refine AW.len (.ag 6 (.tmp 0 rfl) rfl) fun hl2=>?_
 refine bdE hr fun s2 hqq2 hr=>?_
 refine q0o hqq2 hl2 1 (fun k2 s2=>[(1,.d m (.sl 2 (s2.map Occurrence.D))),(2,.pb 0 0),(5,.d .fz (.i .i64 (k2:Int)))]) (fun k2 s2=>[]) (q0e hS 1) (fun k2 xk2 sk2 ok2 hxk2 hr hltk2=>?_) fun k2 hltk2=>?_
 obtain⟨s2,rfl⟩:∃ y,y=sk2:=⟨_,rfl⟩
 refine ssr ?_
 refine W3 ?_
 refine LF ?_
 refine N1 ?_
 refine q0f rfl (dT hltk2) ?_
 refine q0b ?_
 refine q0d (AW.block (q0c ?_))
 refine W3 ?_
 refine IFq (Int.natCast_nonneg _) hxk2 (Expr.D_cells xk2) ?_
 refine W2 ?_
 refine bdE hr fun y3 hy3 hr=>?_
 refine CB [] [] (ih_sl4Uses (m:=m) hy3) ?_
 refine N1 ?_
 refine q0c ?_
 refine W1 ?_
 refine OB _ (q3B (p:=k2) (q:=1) (q3m hltk2 hl2)) ?_
 refine N1 ?_
 cases hr
 exact q0e hS 1
 refine ssr ?_
 refine W3 ?_
 refine LF ?_
 refine N1 ?_
 refine q0g rfl (dF hltk2) ?_
 refine q0i ?_
 refine sr ?_
 refine N2 ?_
 refine AW.ret ?_
 cases hr
 exact q0a [] 0 hS
def q6K:Nat→Expr→(List Occurrence)→Option (List Occurrence)
  | 0,_,_=>none
  | n+1,a0,a1=>z0r (q6K n) a0 a1
def z7K (a0:Expr)(a1:(List Occurrence)):Option (List Occurrence):=recO fun n=>q6K n a0 a1
theorem j2B (n:Nat):∀ {m:Md} {a0:Expr} {a1:(List Occurrence)} {r:(List Occurrence)},q6K n a0 a1=some r→Ok Tryz.prog 198 [Expr.x m a0,.d m (.sl 2 (a1.map Occurrence.D))] [] (.d m (.sl 2 (r.map Occurrence.D))) []:=by
  induction n with
  | zero=>intro _ _ _ r hr; exact nomatch (show (none:Option (List Occurrence))=some r from hr)
  | succ n ih=>intro _ _ _ r hr; exact j2A ih hr
theorem j4D {m:Md}{a0:Expr}{a1:(List Occurrence)}{r:(List Occurrence)}(hr:z7K a0 a1=some r):Ok Tryz.prog 198 [Expr.x m a0,.d m (.sl 2 (a1.map Occurrence.D))] [] (.d m (.sl 2 (r.map Occurrence.D))) []:=by
 obtain⟨n,hn⟩:=q5a hr
 exact j2B n hn
def q7F (a0:Expr):Option (List Occurrence):=
 (z7K a0 []).bind fun y1=>
 some y1
theorem z5C {m:Md}{a0:Expr}{r:(List Occurrence)}(hr:q7F a0=some r):Ok Tryz.prog 187 [Expr.x m a0] [] (.d m (.sl 2 (r.map Occurrence.D))) []:=by
 refine Ok.enter rfl Tryz.func187 rfl rfl rfl fun S hS=>?_
 unfold q7F at hr
 refine sr ?_
 refine BX 0 ?_
 refine N1 ?_
 refine sr ?_
 refine W1 ?_
 refine L0 1 Occurrence.D ?_
 refine AL.fz 1 rfl ?_
 refine bdE hr fun y1 hy1 hr=>?_
 refine CB [] [] (j4D (m:=m) hy1) ?_
 refine N1 ?_
 refine AW.ret ?_
 cases hr
 exact q0a [] 0 hS
def z3D (a0:Grammar)(a1:Rule)(a2:Occurrence):Option Bool:=
 (q5H a2.Pos 0 (a1.Right.length:Int)).bind fun y1=>
 if y1=true then (
 (q4P a1 a2.Pos).bind fun y2=>
 (q4C a0 y2).bind fun (y3,y4)=>
 (q4m y3 a2.Name).bind fun (y5,y6)=>
 if a2.Pos=0 then (
 (
 if y6=true then (
 some (decide (y5.Mode=1))
 ) else (
 some false
 )
 ).bind fun s1=>
 some s1
 ) else (
 (
 if y6=true then (
 some (decide (y5.Mode=2))
 ) else (
 some false
 )
 ).bind fun s2=>
 some s2
 )
 ) else (
 some false
 )
theorem j4E {m:Md}{a0:Grammar}{a1:Rule}{a2:Occurrence}{r:Bool}(hr:z3D a0 a1 a2=some r):Ok Tryz.prog 188 [Grammar.y m a0,Rule.x m a1,Occurrence.x .fz a2] [] (.d .fz (.b r)) []:=by
 refine Ok.enter rfl Tryz.func188 rfl rfl rfl fun S hS=>?_
 unfold z3D at hr
 refine sr ?_
 refine BX 0 ?_
 refine BX 1 ?_
 refine BX 2 ?_
 refine N1 ?_
 refine ssr ?_
 refine W4 ?_
 refine LF ?_
 refine bdE hr fun y1 hy1 hr=>?_
 refine CB [] [] (q6x hy1) ?_
 refine N1 ?_
 refine ifE hr (fun h1 hr=>?_) fun h1 hr=>?_
 refine q0g rfl (bnF h1) ?_
 refine q0b ?_
 refine q0d (q0j (h:=?_))
 refine W4 ?_
 refine bdE hr fun y2 hy2 hr=>?_
 refine CB [] [] (q6F (m:=m) hy2) ?_
 refine bdE hr fun q1 hq1 hr=>?_
 obtain⟨y3,y4⟩:=q1
 refine CB [(0,3)] [] (q5C (m:=m) hq1) ?_
 refine W3 ?_
 refine NV 4 ?_
 refine SB ?_
 refine N1 ?_
 refine sr ?_
 refine W3 ?_
 refine bdE hr fun q2 hq2 hr=>?_
 obtain⟨y5,y6⟩:=q2
 refine CB [] [3] (q6U (m:=.bo) hq2) ?_
 refine W3 ?_
 refine NV 5 ?_
 refine SB ?_
 refine N1 ?_
 refine ssr ?_
 refine N3 ?_
 refine ifE hr (fun h2 hr=>?_) fun h2 hr=>?_
 refine q0f rfl (dT h2) ?_
 refine sr ?_
 refine W1 ?_
 refine bdE hr fun s1 hqq3 hr=>?_
 refine q0h 5 [(6,.d .fz (.b false)),(42,.d .fz (.b s1))] ?_ ?_
 replace hr:=hqq3
 refine ifE hr (fun h3 hr=>?_) fun h3 hr=>?_
 refine VT rfl h3 ?_
 refine N4 ?_
 cases hr
 exact q3n
 refine VF rfl (bF h3) ?_
 iterate 3 refine AL.off ?_
 refine N1 ?_
 cases hr
 exact q3n
 refine N1 ?_
 refine AW.ret ?_
 cases hr
 exact q0a [] 0 hS
 refine q0g rfl (dF h2) ?_
 refine q0b ?_
 refine sr ?_
 refine W1 ?_
 refine bdE hr fun s2 hqq4 hr=>?_
 refine q0h 5 [(6,.d .fz (.b false)),(48,.d .fz (.b s2))] ?_ ?_
 replace hr:=hqq4
 refine ifE hr (fun h4 hr=>?_) fun h4 hr=>?_
 refine VT rfl h4 ?_
 refine N4 ?_
 cases hr
 exact q3n
 refine VF rfl (bF h4) ?_
 iterate 3 refine AL.off ?_
 refine N1 ?_
 cases hr
 exact q3n
 refine N1 ?_
 refine AW.ret ?_
 cases hr
 exact q0a [] 0 hS
 refine q0f rfl (bnT h1) ?_
 refine sr ?_
 refine N1 ?_
 refine AW.ret ?_
 cases hr
 exact q0a [] 0 hS
def z7L (a0:Grammar)(a1:Rule):Nat→Occurrence→Unit→Option (Unit ⊕ Bool):=fun k1 xk1 _=>
 (z3D a0 a1 xk1).bind fun y2=>
 if y2=true then (
 some (.inl ())
 ) else (
 some (.inr false)
 )
def q9N (a0:Grammar)(a1:Rule)(a2:Expr):Option Bool:=
 (q7F a2).bind fun y1=>
 (findL (z7L a0 a1) 0 y1 ()).bind <| onr (fun r1=>some r1) fun _=>
 some true
theorem z4B {m:Md}{a0:Grammar}{a1:Rule}{a2:Expr}{r:Bool}(hr:q9N a0 a1 a2=some r):Ok Tryz.prog 170 [Grammar.y m a0,Rule.x m a1,Expr.x m a2] [] (.d .fz (.b r)) []:=by
 refine Ok.enter rfl Tryz.func170 rfl rfl rfl fun S hS=>?_
 unfold q9N at hr
 refine sr ?_
 refine BX 0 ?_
 refine BX 1 ?_
 refine BX 2 ?_
 refine N1 ?_
 refine sr ?_
 refine W1 ?_
 refine bdE hr fun y1 hy1 hr=>?_
 refine CB [] [] (z5C (m:=m) hy1) ?_
 refine N1 ?_
 refine ssr ?_
 refine N1 ?_
 refine AW.block ?_
 refine AW.len (.tmp 7 rfl) fun hl1=>?_
 refine bdE hr fun q1 hqq1 hr=>?_
 refine q0k hqq1 hl1 3 (fun k1 _=>[(3,.pb 0 0),(4,.pb 1 0),(7,.d m (.sl 2 (y1.map Occurrence.D))),(8,.d .fz (.i .i64 (k1:Int)))]) (fun k1 _=>[]) (GH.trans (q0m (q:=0) [.d m (.sl 2 (a0.Symbols.map Symbol.D)),.u] (.cons .rfl (.cons .u .nil)) rfl) (q0e hS 3)) (fun k1 xk1 sk1 ok1 hxk1 hr hltk1 hik1=>?_) fun k1 sk1 ek1 hltk1=>?_
 refine ssr ?_
 refine W2 ?_
 refine LF ?_
 refine N1 ?_
 refine q0f rfl (dT hltk1) ?_
 refine q0b ?_
 refine q0d (AW.block (q0d (q0j (h:=?_))))
 refine W4 ?_
 refine IF (Int.natCast_nonneg _) hxk1 ?_
 refine W1 ?_
 refine bdE hr fun y2 hy2 hr=>?_
 refine CB [] [] (j4E (m:=m) hy2) ?_
 refine N1 ?_
 refine ifE hr (fun h1 hr=>?_) fun h1 hr=>?_
 refine q0g rfl (bnF h1) ?_
 refine q0b ?_
 refine q0c ?_
 refine W1 ?_
 refine OB _ (q3B (p:=k1) (q:=1) (q3m hltk1 hl1)) ?_
 refine N1 ?_
 cases hr
 exact⟨_,rfl,GH.trans (q0m (q:=0) [.d m (.sl 2 (a0.Symbols.map Symbol.D)),.u] (.cons .rfl (.cons .u .nil)) rfl) (q0e hS 3)⟩
 refine q0f rfl (bnT h1) ?_
 refine sr ?_
 refine N1 ?_
 refine AW.ret ?_
 cases hr
 cases hik1 _ rfl
 rename_i hr
 cases hr
 exact q0a [] 0 hS
 subst ek1
 refine ssr ?_
 refine W2 ?_
 refine LF ?_
 refine N1 ?_
 refine q0g rfl (dF hltk1) ?_
 refine q0i ?_
 refine sr ?_
 refine N1 ?_
 refine AW.ret ?_
 cases hr
 exact q0a [] 0 hS
def z5d (a0:Grammar)(a1:Rule):Nat→Equation→Unit→Option (Unit ⊕ Bool):=fun k1 xk1 _=>
 (q9N a0 a1 xk1.Expr).bind fun y1=>
 if y1=true then (
 some (.inl ())
 ) else (
 some (.inr true)
 )
def z5e (a0:Grammar)(a1:Rule):Nat→Contribution→Unit→Option (Unit ⊕ Bool):=fun k2 xk2 _=>
 (q9N a0 a1 xk2.Target).bind fun y2=>
 if y2=true then (
 (q9N a0 a1 xk2.Value).bind fun y3=>
 if y3=true then (
 some (.inl ())
 ) else (
 some (.inr true)
 )
 ) else (
 some (.inr true)
 )
def z0s (a0:Grammar)(a1:Rule):Option Bool:=
 (findL (z5d a0 a1) 0 a1.Equations ()).bind <| onr (fun r1=>some r1) fun _=>
 (findL (z5e a0 a1) 0 a1.Contributions ()).bind <| onr (fun r2=>some r2) fun _=>
 some false
theorem z9O {m:Md}{a0:Grammar}{a1:Rule}{r:Bool}(hr:z0s a0 a1=some r):Ok Tryz.prog 132 [Grammar.y m a0,Rule.x m a1] [] (.d .fz (.b r)) []:=by
 refine Ok.enter rfl Tryz.func132 rfl rfl rfl fun S hS=>?_
 unfold z0s at hr
 refine sr ?_
 refine BX 0 ?_
 refine BX 1 ?_
 refine N1 ?_
 refine ssr ?_
 refine N1 ?_
 refine AW.block ?_
 refine AW.len (.ag 4 (.tmp 1 rfl) rfl) fun hl1=>?_
 refine bdE hr fun q1 hqq1 hr=>?_
 refine q0k hqq1 hl1 2 (fun k1 _=>[(2,.pb 0 0),(3,.pb 1 0),(5,.d .fz (.i .i64 (k1:Int)))]) (fun k1 _=>[]) (GH.trans (q0m (q:=0) [.d m (.sl 2 (a0.Symbols.map Symbol.D)),.u] (.cons .rfl (.cons .u .nil)) rfl) (q0e hS 2)) (fun k1 xk1 sk1 ok1 hxk1 hr hltk1 hik1=>?_) fun k1 sk1 ek1 hltk1=>?_
 refine ssr ?_
 refine W3 ?_
 refine LF ?_
 refine N1 ?_
 refine q0f rfl (dT hltk1) ?_
 refine q0b ?_
 refine q0d (AW.block (q0d (q0j (h:=?_))))
 refine W5 ?_
 refine IF (Int.natCast_nonneg _) hxk1 ?_
 refine W2 ?_
 refine bdE hr fun y1 hy1 hr=>?_
 refine CB [] [] (z4B (m:=m) hy1) ?_
 refine N1 ?_
 refine ifE hr (fun h1 hr=>?_) fun h1 hr=>?_
 refine q0g rfl (bnF h1) ?_
 refine q0b ?_
 refine q0c ?_
 refine W1 ?_
 refine OB _ (q3B (p:=k1) (q:=1) (q3m hltk1 hl1)) ?_
 refine N1 ?_
 cases hr
 exact⟨_,rfl,GH.trans (q0m (q:=0) [.d m (.sl 2 (a0.Symbols.map Symbol.D)),.u] (.cons .rfl (.cons .u .nil)) rfl) (q0e hS 2)⟩
 refine q0f rfl (bnT h1) ?_
 refine sr ?_
 refine N1 ?_
 refine AW.ret ?_
 cases hr
 cases hik1 _ rfl
 rename_i hr
 cases hr
 exact q0a [] 0 hS
 subst ek1
 refine ssr ?_
 refine W3 ?_
 refine LF ?_
 refine N1 ?_
 refine q0g rfl (dF hltk1) ?_
 refine q0i ?_
 refine ssr ?_
 refine N1 ?_
 refine AW.block ?_
 refine AW.len (.box 1 5 rfl rfl) fun hl2=>?_
 refine bdE hr fun q2 hqq2 hr=>?_
 refine q0k hqq2 hl2 2 (fun k2 _=>[(2,.pb 0 0),(3,.pb 1 0),(6,.d .fz (.i .i64 (k2:Int)))]) (fun k2 _=>[]) (GH.trans (q0m (q:=0) [.d m (.sl 2 (a0.Symbols.map Symbol.D)),.u] (.cons .rfl (.cons .u .nil)) rfl) (q0e hS 2)) (fun k2 xk2 sk2 ok2 hxk2 hr hltk2 hik2=>?_) fun k2 sk2 ek2 hltk2=>?_
 refine ssr ?_
 refine W3 ?_
 refine LF ?_
 refine N1 ?_
 refine q0f rfl (dT hltk2) ?_
 refine q0b ?_
 refine q0d (AW.block (q0d (q0j (h:=?_))))
 refine W5 ?_
 refine IF (Int.natCast_nonneg _) hxk2 ?_
 refine W2 ?_
 refine bdE hr fun y2 hy2 hr=>?_
 refine CB [] [] (z4B (m:=m) hy2) ?_
 refine W1 ?_
 refine ifE hr (fun h2 hr=>?_) fun h2 hr=>?_
 refine VF rfl (bnF h2) ?_
 refine W5 ?_
 refine IF (Int.natCast_nonneg _) hxk2 ?_
 refine W2 ?_
 refine bdE hr fun y3 hy3 hr=>?_
 refine CB [] [] (z4B (m:=m) hy3) ?_
 refine N2 ?_
 refine ifE hr (fun h3 hr=>?_) fun h3 hr=>?_
 refine q0g rfl (bnF h3) ?_
 refine q0b ?_
 refine q0c ?_
 refine W1 ?_
 refine OB _ (q3B (p:=k2) (q:=1) (q3m hltk2 hl2)) ?_
 refine N1 ?_
 cases hr
 exact⟨_,rfl,GH.trans (q0m (q:=0) [.d m (.sl 2 (a0.Symbols.map Symbol.D)),.u] (.cons .rfl (.cons .u .nil)) rfl) (q0e hS 2)⟩
 refine q0f rfl (bnT h3) ?_
 refine sr ?_
 refine N1 ?_
 refine AW.ret ?_
 cases hr
 cases hik2 _ rfl
 rename_i hr
 cases hr
 exact q0a [] 0 hS
 refine VT rfl (bnT h2) ?_
 iterate 10 refine AL.off ?_
 refine N1 ?_
 refine q0f rfl rfl ?_
 refine sr ?_
 refine N1 ?_
 refine AW.ret ?_
 cases hr
 cases hik2 _ rfl
 rename_i hr
 cases hr
 exact q0a [] 0 hS
 subst ek2
 refine ssr ?_
 refine W3 ?_
 refine LF ?_
 refine N1 ?_
 refine q0g rfl (dF hltk2) ?_
 refine q0i ?_
 refine sr ?_
 refine N1 ?_
 refine AW.ret ?_
 cases hr
 exact q0a [] 0 hS
end Go.Proofs.YtibagkppfnjgcaaGreat
