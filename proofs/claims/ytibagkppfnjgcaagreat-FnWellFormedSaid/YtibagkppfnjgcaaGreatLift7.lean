/- What some functions of the program compute, as partial functions on plain data, and that they do; each lemma bears its conditions in its statement. -/
import Derived.Test.YtibagkppfnjgcaaGreatLift6
set_option linter.unusedVariables false
set_option linter.unusedSimpArgs false
set_option linter.ambiguousOpen false
set_option linter.unusedSectionVars false
set_option linter.unnecessarySimpa false
set_option maxRecDepth 100000
set_option maxHeartbeats 40000000
noncomputable section
namespace Go.Proofs.YtibagkppfnjgcaaGreat
open Go Go.E Go.A
def q9c (a0:Rule)(a1:Rule):Option Bool:=
 some (decide (a0.Name=a1.Name))
theorem z6j {m:Md}{m2:Md}{a0:Rule}{a1:Rule}{r:Bool}(hr:q9c a0 a1=some r):Ok Tryz.prog 144 [Rule.x m a0,.pb 0 0] [.box [.d .fz (.s a1.Name),.d .fz (.s a1.Left),.d m2 (.sl 1 (a1.Right.map A.D.s)),.d .fz (.b a1.Literal),.d m2 (.sl 9 (a1.Equations.map Equation.D)),.d m2 (.sl 16 (a1.Contributions.map Contribution.D))]] (.d .fz (.b r)) [.box [.d .fz (.s a1.Name),.d .fz (.s a1.Left),.d m2 (.sl 1 (a1.Right.map A.D.s)),.d .fz (.b a1.Literal),.d m2 (.sl 9 (a1.Equations.map Equation.D)),.d m2 (.sl 16 (a1.Contributions.map Contribution.D))]]:=by
 refine Ok.enter rfl Tryz.func144 rfl rfl rfl fun S hS=>?_
 unfold q9c at hr
 refine sr ?_
 refine BX 1 ?_
 refine N1 ?_
 refine sr ?_
 refine W5 ?_
 refine N1 ?_
 refine AW.ret ?_
 cases hr
 exact q0a [(0,0)] 1 hS
def q5J (a1_0:Rule):Nat→Rule→Unit→Option (Unit ⊕ Int):=fun k1 xk1 _=>
 (q9c xk1 a1_0).bind fun y1=>
 if y1=true then (
 some (.inr (k1:Int))
 ) else (
 some (.inl ())
 )
def q4v (a0:(List Rule))(a1_0:Rule):Option Int:=
 (findL (q5J a1_0) 0 a0 ()).bind <| onr (fun r1=>some r1) fun _=>
 some (-1)
theorem q8f {m:Md}{m2:Md}{a0:(List Rule)}{a1_0:Rule}{r:Int}(hr:q4v a0 a1_0=some r):Ok Tryz.prog 87 [.d m (.sl 6 (a0.map Rule.D)),.fn 144 [.pb 0 0]] [.box [.d .fz (.s a1_0.Name),.d .fz (.s a1_0.Left),.d m2 (.sl 1 (a1_0.Right.map A.D.s)),.d .fz (.b a1_0.Literal),.d m2 (.sl 9 (a1_0.Equations.map Equation.D)),.d m2 (.sl 16 (a1_0.Contributions.map Contribution.D))]] (.d .fz (.i .i64 r)) [.box [.d .fz (.s a1_0.Name),.d .fz (.s a1_0.Left),.d m2 (.sl 1 (a1_0.Right.map A.D.s)),.d .fz (.b a1_0.Literal),.d m2 (.sl 9 (a1_0.Equations.map Equation.D)),.d m2 (.sl 16 (a1_0.Contributions.map Contribution.D))]]:=by
 refine Ok.enter rfl Tryz.func87 rfl rfl rfl fun S hS=>?_
 unfold q4v at hr
 refine sr ?_
 refine N1 ?_
 refine ssr ?_
 refine W1 ?_
 refine LF ?_
 refine N1 ?_
 refine AW.block ?_
 refine AW.len (.tmp 0 rfl) fun hl1=>?_
 refine bdE hr fun q1 hqq1 hr=>?_
 refine q0k hqq1 hl1 1 (fun k1 _=>[(0,.d m (.sl 6 (a0.map Rule.D))),(1,.fn 144 [.pb 0 0]),(7,.d .fz (.i .i64 (a0.length:Int))),(8,.d .fz (.i .i64 (k1:Int)))]) (fun k1 _=>[]) (q0e hS 1) (fun k1 xk1 sk1 ok1 hxk1 hr hltk1 hik1=>?_) fun k1 sk1 ek1 hltk1=>?_
 refine sr ?_
 refine N1 ?_
 refine q0d (q0f rfl (dT hltk1) ?_)
 refine q0b ?_
 refine q0d (AW.block (q0d (q0c ?_)))
 refine N2 ?_
 refine sr ?_
 refine W3 ?_
 refine IF (Int.natCast_nonneg _) hxk1 ?_
 refine W1 ?_
 refine bdE hr fun y1 hy1 hr=>?_
 refine CB [(0,0)] [] (z6j (m:=m) (m2:=m2) hy1) ?_
 refine N0 ?_
 refine ifE hr (fun h1 hr=>?_) fun h1 hr=>?_
 refine q0f rfl h1 ?_
 refine sr ?_
 refine N2 ?_
 refine AW.ret ?_
 cases hr
 cases hik1 _ rfl
 rename_i hr
 cases hr
 exact q0a [(0,0)] 1 hS
 refine q0g rfl (bF h1) ?_
 refine q0b ?_
 refine q0c ?_
 refine OB _ (q3B (p:=k1) (q:=1) (q3m hltk1 hl1)) ?_
 refine N1 ?_
 cases hr
 exact⟨_,rfl,q0e hS 1⟩
 subst ek1
 refine sr ?_
 refine N1 ?_
 refine q0d (q0g rfl (dF hltk1) ?_)
 refine q0i ?_
 refine sr ?_
 refine N1 ?_
 refine AW.ret ?_
 cases hr
 exact q0a [(0,0)] 1 hS
def q4i (a0:(List Rule))(a1_0:Rule):Option Bool:=
 (q4v a0 a1_0).bind fun y1=>
 some (decide (0≤y1))
theorem q7K {m:Md}{m2:Md}{a0:(List Rule)}{a1_0:Rule}{r:Bool}(hr:q4i a0 a1_0=some r):Ok Tryz.prog 46 [.d m (.sl 6 (a0.map Rule.D)),.fn 144 [.pb 0 0]] [.box [.d .fz (.s a1_0.Name),.d .fz (.s a1_0.Left),.d m2 (.sl 1 (a1_0.Right.map A.D.s)),.d .fz (.b a1_0.Literal),.d m2 (.sl 9 (a1_0.Equations.map Equation.D)),.d m2 (.sl 16 (a1_0.Contributions.map Contribution.D))]] (.d .fz (.b r)) [.box [.d .fz (.s a1_0.Name),.d .fz (.s a1_0.Left),.d m2 (.sl 1 (a1_0.Right.map A.D.s)),.d .fz (.b a1_0.Literal),.d m2 (.sl 9 (a1_0.Equations.map Equation.D)),.d m2 (.sl 16 (a1_0.Contributions.map Contribution.D))]]:=by
 refine Ok.enter rfl Tryz.func46 rfl rfl rfl fun S hS=>?_
 unfold q4i at hr
 refine sr ?_
 refine N1 ?_
 refine sr ?_
 refine W2 ?_
 refine bdE hr fun y1 hy1 hr=>?_
 refine CB [(0,0)] [] (q8f (m:=m) (m2:=m2) hy1) ?_
 refine N2 ?_
 refine AW.ret ?_
 cases hr
 exact q0a [(0,0)] 1 hS
def q9Q (a0:Grammar):Nat→Symbol→Unit→Option (Unit ⊕ Int):=fun k1 xk1 _=>
 (q7B xk1).bind fun y1=>
 if y1=true then (
 grd (k1≤a0.Symbols.length) <|
 (q3Y (a0.Symbols.take k1) xk1).bind fun y2=>
 if y2=true then (
 some (.inr (k1:Int))
 ) else (
 some (.inl ())
 )
 ) else (
 some (.inr (k1:Int))
 )
def q9R (a0:Grammar):Nat→Rule→Unit→Option (Unit ⊕ Int):=fun k2 xk2 _=>
 (q8y xk2).bind fun y3=>
 if y3=true then (
 grd (k2≤a0.Rules.length) <|
 (q4i (a0.Rules.take k2) xk2).bind fun y4=>
 if y4=true then (
 some (.inr (k2:Int))
 ) else (
 some (.inl ())
 )
 ) else (
 some (.inr (k2:Int))
 )
def q9d (a0:Grammar):Option Int:=
 (findL (q9Q a0) 0 a0.Symbols ()).bind <| onr (fun r1=>some r1) fun _=>
 (findL (q9R a0) 0 a0.Rules ()).bind <| onr (fun r2=>some r2) fun _=>
 some (-1)
theorem z8o {m:Md}{a0:Grammar}{r:Int}(hr:q9d a0=some r):Ok Tryz.prog 112 [Grammar.x m a0] [] (.d .fz (.i .i64 r)) []:=by
 refine Ok.enter rfl Tryz.func112 rfl rfl rfl fun S hS=>?_
 unfold q9d at hr
 refine sr ?_
 refine BX 0 ?_
 refine N1 ?_
 refine ssr ?_
 refine W2 ?_
 refine LF ?_
 refine N1 ?_
 refine AW.block ?_
 refine AW.len (.ag 0 (.tmp 0 rfl) rfl) fun hl1=>?_
 refine bdE hr fun q1 hqq1 hr=>?_
 refine q0k hqq1 hl1 1 (fun k1 _=>[(1,.pb 0 0),(8,.d m (.sl 2 (a0.Symbols.map Symbol.D))),(9,.d .fz (.i .i64 (a0.Symbols.length:Int))),(10,.d .fz (.i .i64 (k1:Int)))]) (fun k1 _=>[]) (q0e hS 1) (fun k1 xk1 sk1 ok1 hxk1 hr hltk1 hik1=>?_) fun k1 sk1 ek1 hltk1=>?_
 refine sr ?_
 refine N1 ?_
 refine q0d (q0f rfl (dT hltk1) ?_)
 refine q0b ?_
 refine q0d (AW.block (q0d (q0c ?_)))
 refine W1 ?_
 refine IF (Int.natCast_nonneg _) hxk1 ?_
 refine W1 ?_
 refine NV 1 ?_
 refine W1 ?_
 refine SB ?_
 refine N0 ?_
 refine sr ?_
 refine W1 ?_
 refine bdE hr fun y1 hy1 hr=>?_
 refine CB [] [] (z5y (m:=m) hy1) ?_
 refine W1 ?_
 refine ifE hr (fun h1 hr=>?_) fun h1 hr=>?_
 refine VF rfl (bnF h1) ?_
 refine W3 ?_
 refine ggE hr fun g1 hr=>?_
 refine SLH (Int.natCast_nonneg _) g1 ?_
 refine W1 ?_
 refine bdE hr fun y2 hy2 hr=>?_
 refine CB [(0,1)] [] (q7q (m:=m) (m2:=m) hy2) ?_
 refine N1 ?_
 refine ifE hr (fun h2 hr=>?_) fun h2 hr=>?_
 refine q0f rfl h2 ?_
 refine sr ?_
 refine N2 ?_
 refine AW.ret ?_
 cases hr
 cases hik1 _ rfl
 rename_i hr
 cases hr
 exact q0a [] 0 hS
 refine q0g rfl (bF h2) ?_
 refine q0b ?_
 refine q0c ?_
 refine OB _ (q3B (p:=k1) (q:=1) (q3m hltk1 hl1)) ?_
 refine N1 ?_
 cases hr
 exact⟨_,rfl,q0e hS 1⟩
 refine VT rfl (bnT h1) ?_
 iterate 6 refine AL.off ?_
 refine N1 ?_
 refine q0f rfl rfl ?_
 refine sr ?_
 refine N2 ?_
 refine AW.ret ?_
 cases hr
 cases hik1 _ rfl
 rename_i hr
 cases hr
 exact q0a [] 0 hS
 subst ek1
 refine sr ?_
 refine N1 ?_
 refine q0d (q0g rfl (dF hltk1) ?_)
 refine q0i ?_
 refine ssr ?_
 refine W2 ?_
 refine LF ?_
 refine N1 ?_
 refine AW.block ?_
 refine AW.len (.tmp 29 rfl) fun hl2=>?_
 refine bdE hr fun q2 hqq2 hr=>?_
 refine q0k hqq2 hl2 1 (fun k2 _=>[(1,.pb 0 0),(29,.d m (.sl 6 (a0.Rules.map Rule.D))),(30,.d .fz (.i .i64 (a0.Rules.length:Int))),(31,.d .fz (.i .i64 (k2:Int)))]) (fun k2 _=>[]) (q0e hS 1) (fun k2 xk2 sk2 ok2 hxk2 hr hltk2 hik2=>?_) fun k2 sk2 ek2 hltk2=>?_
 refine sr ?_
 refine N1 ?_
 refine q0d (q0f rfl (dT hltk2) ?_)
 refine q0b ?_
 refine q0d (AW.block (q0d (q0c ?_)))
 refine W1 ?_
 refine IF (Int.natCast_nonneg _) hxk2 ?_
 refine W1 ?_
 refine NV 1 ?_
 refine W1 ?_
 refine SB ?_
 refine N0 ?_
 refine sr ?_
 refine W1 ?_
 refine bdE hr fun y3 hy3 hr=>?_
 refine CB [] [] (z7r (m:=m) hy3) ?_
 refine W1 ?_
 refine ifE hr (fun h3 hr=>?_) fun h3 hr=>?_
 refine VF rfl (bnF h3) ?_
 refine W3 ?_
 refine ggE hr fun g2 hr=>?_
 refine SLH (Int.natCast_nonneg _) g2 ?_
 refine W1 ?_
 refine bdE hr fun y4 hy4 hr=>?_
 refine CB [(0,1)] [] (q7K (m:=m) (m2:=m) hy4) ?_
 refine N1 ?_
 refine ifE hr (fun h4 hr=>?_) fun h4 hr=>?_
 refine q0f rfl h4 ?_
 refine sr ?_
 refine N2 ?_
 refine AW.ret ?_
 cases hr
 cases hik2 _ rfl
 rename_i hr
 cases hr
 exact q0a [] 0 hS
 refine q0g rfl (bF h4) ?_
 refine q0b ?_
 refine q0c ?_
 refine OB _ (q3B (p:=k2) (q:=1) (q3m hltk2 hl2)) ?_
 refine N1 ?_
 cases hr
 exact⟨_,rfl,q0e hS 1⟩
 refine VT rfl (bnT h3) ?_
 iterate 6 refine AL.off ?_
 refine N1 ?_
 refine q0f rfl rfl ?_
 refine sr ?_
 refine N2 ?_
 refine AW.ret ?_
 cases hr
 cases hik2 _ rfl
 rename_i hr
 cases hr
 exact q0a [] 0 hS
 subst ek2
 refine sr ?_
 refine N1 ?_
 refine q0d (q0g rfl (dF hltk2) ?_)
 refine q0i ?_
 refine sr ?_
 refine N1 ?_
 refine AW.ret ?_
 cases hr
 exact q0a [] 0 hS
def q9e (a0:Attribute):Option Bool:=
 some (decide (a0.Mode=1))
theorem z6k {a0:Attribute}{r:Bool}(hr:q9e a0=some r):Ok Tryz.prog 113 [Attribute.x .fz a0] [] (.d .fz (.b r)) []:=by
 refine Ok.enter rfl Tryz.func113 rfl rfl rfl fun S hS=>?_
 unfold q9e at hr
 refine sr ?_
 refine BX 0 ?_
 refine N1 ?_
 refine sr ?_
 refine N4 ?_
 refine AW.ret ?_
 cases hr
 exact q0a [] 0 hS
def q5q:Nat→Attribute→Unit→Option (Unit ⊕ Int):=fun k1 xk1 _=>
 (q9e xk1).bind fun y1=>
 if y1=true then (
 some (.inr (k1:Int))
 ) else (
 some (.inl ())
 )
def q3Z (a0:(List Attribute)):Option Int:=
 (findL q5q 0 a0 ()).bind <| onr (fun r1=>some r1) fun _=>
 some (-1)
theorem q7r {m:Md}{a0:(List Attribute)}{r:Int}(hr:q3Z a0=some r):Ok Tryz.prog 92 [.d m (.sl 4 (a0.map Attribute.D)),.fn 113 []] [] (.d .fz (.i .i64 r)) []:=by
 refine Ok.enter rfl Tryz.func92 rfl rfl rfl fun S hS=>?_
 unfold q3Z at hr
 refine sr ?_
 refine N1 ?_
 refine ssr ?_
 refine W1 ?_
 refine LF ?_
 refine N1 ?_
 refine AW.block ?_
 refine AW.len (.tmp 0 rfl) fun hl1=>?_
 refine bdE hr fun q1 hqq1 hr=>?_
 refine q0k hqq1 hl1 0 (fun k1 _=>[(0,.d m (.sl 4 (a0.map Attribute.D))),(1,.fn 113 []),(7,.d .fz (.i .i64 (a0.length:Int))),(8,.d .fz (.i .i64 (k1:Int)))]) (fun k1 _=>[]) (q0e hS 0) (fun k1 xk1 sk1 ok1 hxk1 hr hltk1 hik1=>?_) fun k1 sk1 ek1 hltk1=>?_
 refine sr ?_
 refine N1 ?_
 refine q0d (q0f rfl (dT hltk1) ?_)
 refine q0b ?_
 refine q0d (AW.block (q0d (q0c ?_)))
 refine N2 ?_
 refine sr ?_
 refine W3 ?_
 refine IF (Int.natCast_nonneg _) hxk1 ?_
 refine W1 ?_
 refine bdE hr fun y1 hy1 hr=>?_
 refine CB [] [] (z6k hy1) ?_
 refine N0 ?_
 refine ifE hr (fun h1 hr=>?_) fun h1 hr=>?_
 refine q0f rfl h1 ?_
 refine sr ?_
 refine N2 ?_
 refine AW.ret ?_
 cases hr
 cases hik1 _ rfl
 rename_i hr
 cases hr
 exact q0a [] 0 hS
 refine q0g rfl (bF h1) ?_
 refine q0b ?_
 refine q0c ?_
 refine OB _ (q3B (p:=k1) (q:=1) (q3m hltk1 hl1)) ?_
 refine N1 ?_
 cases hr
 exact⟨_,rfl,q0e hS 0⟩
 subst ek1
 refine sr ?_
 refine N1 ?_
 refine q0d (q0g rfl (dF hltk1) ?_)
 refine q0i ?_
 refine sr ?_
 refine N1 ?_
 refine AW.ret ?_
 cases hr
 exact q0a [] 0 hS
def q3Q (a0:(List Attribute)):Option Bool:=
 (q3Z a0).bind fun y1=>
 some (decide (0≤y1))
theorem q6P {m:Md}{a0:(List Attribute)}{r:Bool}(hr:q3Q a0=some r):Ok Tryz.prog 53 [.d m (.sl 4 (a0.map Attribute.D)),.fn 113 []] [] (.d .fz (.b r)) []:=by
 refine Ok.enter rfl Tryz.func53 rfl rfl rfl fun S hS=>?_
 unfold q3Q at hr
 refine sr ?_
 refine N1 ?_
 refine sr ?_
 refine W2 ?_
 refine bdE hr fun y1 hy1 hr=>?_
 refine CB [] [] (q7r (m:=m) hy1) ?_
 refine N2 ?_
 refine AW.ret ?_
 cases hr
 exact q0a [] 0 hS
def q7s (a0:Rule)(a1:Int):Option ByteArray:=
 if a1=0 then (
 some a0.Left
 ) else (
 (q4o a1 1 (a0.Right.length:Int)).bind fun y1=>
 if y1=true then (
 grd (I64 (a1 - 1)) <|
 grd (0≤(a1 - 1)) <|
 (a0.Right[(a1 - 1).toNat]?).bind fun x1=>
 some x1
 ) else (
 some (⟨#[]⟩:ByteArray)
 )
 )
theorem z1w {m:Md}{a0:Rule}{a1:Int}{r:ByteArray}(hr:q7s a0 a1=some r):Ok Tryz.prog 59 [Rule.x m a0,.d .fz (.i .i64 a1)] [] (.d .fz (.s r)) []:=by
 refine Ok.enter rfl Tryz.func59 rfl rfl rfl fun S hS=>?_
 unfold q7s at hr
 refine sr ?_
 refine BX 0 ?_
 refine N1 ?_
 refine q0d (AW.block (q0d (q0c ?_)))
 refine N3 ?_
 refine ifE hr (fun h1 hr=>?_) fun h1 hr=>?_
 refine q0f rfl (dT h1) ?_
 refine sr ?_
 refine N3 ?_
 refine AW.ret ?_
 cases hr
 exact q0a [] 0 hS
 refine q0g rfl (dF h1) ?_
 refine sr ?_
 refine W3 ?_
 refine LF ?_
 refine bdE hr fun y1 hy1 hr=>?_
 refine CB [] [] (q4V hy1) ?_
 refine N1 ?_
 refine ifE hr (fun h2 hr=>?_) fun h2 hr=>?_
 refine q0f rfl h2 ?_
 refine sr ?_
 refine W3 ?_
 refine ggE hr fun g1 hr=>?_
 refine OB _ (bSub g1) ?_
 refine ggE hr fun g2 hr=>?_
 refine bdE hr fun x1 hx1 hr=>?_
 refine IF g2 hx1 ?_
 refine N2 ?_
 refine AW.ret ?_
 cases hr
 exact q0a [] 0 hS
 refine q0g rfl (bF h2) ?_
 refine q0b ?_
 refine sr ?_
 refine N1 ?_
 refine AW.ret ?_
 cases hr
 exact q0a [] 0 hS
def q8z (a1:ByteArray):Nat→Symbol→Unit→Option (Unit ⊕ (Symbol × Bool)):=fun k1 xk1 _=>
 if xk1.Name=a1 then (
 some (.inr (xk1,true))
 ) else (
 some (.inl ())
 )
def q5d (a0:Grammar)(a1:ByteArray):Option (Symbol × Bool):=
 (findL (q8z a1) 0 a0.Symbols ()).bind <| onr (fun r1=>some r1) fun _=>
 some ((⟨(⟨#[]⟩:ByteArray),[]⟩:Symbol),false)
theorem q7H {m:Md}{a0:Grammar}{a1:ByteArray}{r:(Symbol × Bool)}(hr:q5d a0 a1=some r):Ok Tryz.prog 61 [Grammar.y m a0,.d .fz (.s a1)] [] (.tu [Symbol.x m r.1,.d .fz (.b r.2)]) []:=by
 refine Ok.enter rfl Tryz.func61 rfl rfl rfl fun S hS=>?_
 unfold q5d at hr
 refine sr ?_
 refine BX 0 ?_
 refine NV 1 ?_
 refine N1 ?_
 refine ssr ?_
 refine W2 ?_
 refine LF ?_
 refine N1 ?_
 refine AW.block ?_
 refine AW.len (.ag 0 (.tmp 0 rfl) rfl) fun hl1=>?_
 refine bdE hr fun q1 hqq1 hr=>?_
 refine q0k hqq1 hl1 2 (fun k1 _=>[(1,.d .fz (.s a1)),(4,.pb 1 0),(9,.d m (.sl 2 (a0.Symbols.map Symbol.D))),(10,.d .fz (.i .i64 (a0.Symbols.length:Int))),(11,.d .fz (.i .i64 (k1:Int)))]) (fun k1 _=>[]) (GH.trans (q0m (q:=0) [.d m (.sl 2 (a0.Symbols.map Symbol.D)),.u] (.cons .rfl (.cons .u .nil)) rfl) (q0e hS 2)) (fun k1 xk1 sk1 ok1 hxk1 hr hltk1 hik1=>?_) fun k1 sk1 ek1 hltk1=>?_
 refine sr ?_
 refine N1 ?_
 refine q0d (q0f rfl (dT hltk1) ?_)
 refine q0b ?_
 refine q0d (AW.block (q0d (q0c ?_)))
 refine IF (Int.natCast_nonneg _) hxk1 ?_
 refine W1 ?_
 refine NV 2 ?_
 refine SB ?_
 refine N0 ?_
 refine sr ?_
 refine N4 ?_
 refine ifE hr (fun h1 hr=>?_) fun h1 hr=>?_
 refine q0f rfl (dT h1) ?_
 refine sr ?_
 refine W1 ?_
 refine SB ?_
 refine N1 ?_
 refine AW.ret ?_
 cases hr
 cases hik1 _ rfl
 rename_i hr
 cases hr
 exact q0a [] 0 hS
 refine q0g rfl (dF h1) ?_
 refine q0b ?_
 refine q0c ?_
 refine OB _ (q3B (p:=k1) (q:=1) (q3m hltk1 hl1)) ?_
 refine N1 ?_
 cases hr
 exact⟨_,rfl,GH.trans (q0m (q:=0) [.d m (.sl 2 (a0.Symbols.map Symbol.D)),.u] (.cons .rfl (.cons .u .nil)) rfl) (q0e hS 2)⟩
 subst ek1
 refine sr ?_
 refine N1 ?_
 refine q0d (q0g rfl (dF hltk1) ?_)
 refine q0i ?_
 refine sr ?_
 refine W1 ?_
 refine SB ?_
 refine N1 ?_
 refine AW.ret ?_
 cases hr
 exact endA.ren [] 0 (.inr rfl) hS rfl rfl rfl (.tu (.cons (.ag (.cons .rfl (.cons .nld .nil))) (.cons .rfl .nil))) rfl rfl
def z7s (a0:Grammar)(a1:Rule):Nat→Unit→Option (Unit ⊕ Bool):=fun k1 _=>
 (q7s a1 (k1:Int)).bind fun y1=>
 (q5d a0 y1).bind fun (y2,y3)=>
 if y3=true then (
 some (.inl ())
 ) else (
 some (.inr true)
 )
def z2f (a0:Grammar)(a1:Rule):Option Bool:=
 grd (I64 ((a1.Right.length+1:Nat):Int)) <|
 (findN (z7s a0 a1) 0 (a1.Right.length+1) ()).bind <| onr (fun r1=>some r1) fun _=>
 some false
theorem j2s {m:Md}{a0:Grammar}{a1:Rule}{r:Bool}(hr:z2f a0 a1=some r):Ok Tryz.prog 114 [Grammar.y m a0,Rule.x m a1] [] (.d .fz (.b r)) []:=by
 refine Ok.enter rfl Tryz.func114 rfl rfl rfl fun S hS=>?_
 unfold z2f at hr
 refine sr ?_
 refine BX 0 ?_
 refine BX 1 ?_
 refine N1 ?_
 refine ssr ?_
 refine W2 ?_
 refine LF ?_
 refine ggE hr fun g1 hr=>?_
 refine OB _ (q3B (p:=a1.Right.length) (q:=1) g1) ?_
 refine N1 ?_
 refine AW.block ?_
 refine q0w (.tmp 11 rfl) fun hl1=>?_
 refine bdE hr fun q1 hqq1 hr=>?_
 refine q0D hqq1 2 (fun k1 _=>[(2,.pb 0 0),(3,.pb 1 0),(11,.d .fz (.i .i64 ((a1.Right.length+1:Nat):Int))),(12,.d .fz (.i .i64 (k1:Int)))]) (fun k1 _=>[]) (GH.trans (q0m (q:=0) [.d m (.sl 2 (a0.Symbols.map Symbol.D)),.u] (.cons .rfl (.cons .u .nil)) rfl) (q0e hS 2)) (fun k1 sk1 ok1 hr hltk1 hik1=>?_) fun sk1 ek1=>?_
 refine sr ?_
 refine N1 ?_
 refine q0d (q0f rfl (dT (ltN hltk1)) ?_)
 refine q0b ?_
 refine q0d (AW.block (q0d (q0c ?_)))
 refine N2 ?_
 refine q0d (q0j (h:=?_))
 refine W3 ?_
 refine bdE hr fun y1 hy1 hr=>?_
 refine CB [] [] (z1w (m:=m) hy1) ?_
 refine bdE hr fun q2 hq2 hr=>?_
 obtain⟨y2,y3⟩:=q2
 refine CB [] [] (q7H (m:=m) hq2) ?_
 refine W3 ?_
 refine NV 2 ?_
 refine SB ?_
 refine N1 ?_
 refine sr ?_
 refine N2 ?_
 refine ifE hr (fun h1 hr=>?_) fun h1 hr=>?_
 refine q0g rfl (bnF h1) ?_
 refine q0b ?_
 refine q0c ?_
 refine OB _ (q3B (p:=k1) (q:=1) (q3m (ltN hltk1) hl1.2)) ?_
 refine N1 ?_
 cases hr
 exact⟨_,rfl,GH.trans (q0m (q:=0) [.d m (.sl 2 (a0.Symbols.map Symbol.D)),.u] (.cons .rfl (.cons .u .nil)) rfl) (q0e hS 2)⟩
 refine q0f rfl (bnT h1) ?_
 refine sr ?_
 refine N1 ?_
 refine AW.ret ?_
 cases hr
 cases hik1 _ rfl
 rename_i hr
 cases hr
 exact q0a [] 0 hS
 subst ek1
 refine sr ?_
 refine N1 ?_
 refine q0d (q0g rfl (dF geN) ?_)
 refine q0i ?_
 refine sr ?_
 refine N1 ?_
 refine AW.ret ?_
 cases hr
 exact q0a [] 0 hS
def z3u (k1:Nat)(s2:Int):Nat→Attribute→((List Occurrence))→Option ((List Occurrence)):=fun k2 xk2 s3=>
 (
 if xk2.Mode=s2 then (
 grd (((s3.length:Int)+1)*24≤140737488355328∧(s3.length:Int)+1≤9223372036854775807) <|
 some (s3++[(⟨(k1:Int),xk2.Name⟩:Occurrence)])
 ) else (
 some s3
 )
 ).bind fun s4=>
 some s4
def z3v (a0:Grammar)(a1:Rule):Nat→((List Occurrence))→Option ((List Occurrence)):=fun k1 s1=>
 (
 if (k1:Int)=0 then (
 some 2
 ) else (
 some 1
 )
 ).bind fun s2=>
 (q7s a1 (k1:Int)).bind fun y1=>
 (q5d a0 y1).bind fun (y2,y3)=>
 (eachL (z3u k1 s2) 0 y2.Attributes s1).bind fun s3=>
 some s3
def q9F (a0:Grammar)(a1:Rule):Option (List Occurrence):=
 grd (I64 ((a1.Right.length+1:Nat):Int)) <|
 (eachN (z3v a0 a1) 0 (a1.Right.length+1) ([]:List Occurrence)).bind fun s1=>
 some s1
theorem z5T {m:Md}{a0:Grammar}{a1:Rule}{r:(List Occurrence)}(hr:q9F a0 a1=some r):Ok Tryz.prog 145 [Grammar.y m a0,Rule.x m a1] [] (.ref 0 none) [.row .fz 2 (r.map Occurrence.D)]:=by
 refine Ok.enter rfl Tryz.func145 rfl rfl rfl fun S hS=>?_
 unfold q9F at hr
 refine sr ?_
 refine BX 0 ?_
 refine BX 1 ?_
 refine N1 ?_
 refine sr ?_
 refine L0 2 Occurrence.D ?_
 refine N1 ?_
 refine ssr ?_
 refine W2 ?_
 refine LF ?_
 refine ggE hr fun g1 hr=>?_
 refine OB _ (q3B (p:=a1.Right.length) (q:=1) g1) ?_
 refine N1 ?_
 refine AW.block ?_
 refine q0w (.tmp 16 rfl) fun hl1=>?_
 refine bdE hr fun s1 hqq1 hr=>?_
 refine q0s hqq1 3 (fun k1 s1=>[(2,.pb 0 0),(3,.pb 1 0),(5,.ref 2 none),(16,.d .fz (.i .i64 ((a1.Right.length+1:Nat):Int))),(17,.d .fz (.i .i64 (k1:Int)))]) (fun k1 s1=>[(2,.row .fz 2 (s1.map Occurrence.D))]) (GH.trans (q0m (q:=0) [.d m (.sl 2 (a0.Symbols.map Symbol.D)),.u] (.cons .rfl (.cons .u .nil)) rfl) (q0e hS 3)) (fun k1 sk1 ok1 hr hltk1=>?_) ?_
 obtain⟨s1,rfl⟩:∃ y,y=sk1:=⟨_,rfl⟩
 refine sr ?_
 refine N1 ?_
 refine q0d (q0f rfl (dT (ltN hltk1)) ?_)
 refine q0b ?_
 refine q0d (AW.block (q0d (q0c ?_)))
 refine N2 ?_
 refine sr ?_
 refine N1 ?_
 refine ssr ?_
 refine N2 ?_
 refine bdE hr fun s2 hqq2 hr=>?_
 refine q0n 3 [(2,.pb 0 0),(3,.pb 1 0),(5,.ref 2 none),(6,.d .fz (.i .i64 (k1:Int))),(7,.d .fz (.i .i64 s2)),(16,.d .fz (.i .i64 ((a1.Right.length+1:Nat):Int))),(17,.d .fz (.i .i64 (k1:Int)))] [] ?_ ?_
 replace hr:=hqq2
 refine ifE hr (fun h1 hr=>?_) fun h1 hr=>?_
 refine q0f rfl (dT h1) ?_
 refine q0c ?_
 refine N1 ?_
 cases hr
 exact GH.trans (q0m (q:=0) [.d m (.sl 2 (a0.Symbols.map Symbol.D)),.u] (.cons .rfl (.cons .u .nil)) rfl) (q0e hS 3)
 refine q0g rfl (dF h1) ?_
 refine q0b ?_
 cases hr
 exact GH.trans (q0m (q:=0) [.d m (.sl 2 (a0.Symbols.map Symbol.D)),.u] (.cons .rfl (.cons .u .nil)) rfl) (q0e hS 3)
 refine q0d (q0j (h:=?_))
 refine W3 ?_
 refine bdE hr fun y1 hy1 hr=>?_
 refine CB [] [] (z1w (m:=m) hy1) ?_
 refine bdE hr fun q3 hq3 hr=>?_
 obtain⟨y2,y3⟩:=q3
 refine CB [] [] (q7H (m:=m) hq3) ?_
 refine W3 ?_
 refine NV 3 ?_
 refine SB ?_
 refine N1 ?_
 refine sr ?_
 refine W2 ?_
 refine LF ?_
 refine N1 ?_
 refine AW.block ?_
 refine AW.len (.ag 1 (.tu 0 (.tmp 22 rfl) rfl) rfl) fun hl2=>?_
 refine bdE hr fun s3 hqq4 hr=>?_
 refine q0o hqq4 hl2 4 (fun k2 s3=>[(2,.pb 0 0),(3,.pb 1 0),(5,.ref 2 none),(6,.d .fz (.i .i64 (k1:Int))),(7,.d .fz (.i .i64 s2)),(16,.d .fz (.i .i64 ((a1.Right.length+1:Nat):Int))),(17,.d .fz (.i .i64 (k1:Int))),(31,.d m (.sl 4 (y2.Attributes.map Attribute.D))),(32,.d .fz (.i .i64 (y2.Attributes.length:Int))),(33,.d .fz (.i .i64 (k2:Int)))]) (fun k2 s3=>[(2,.row .fz 2 (s3.map Occurrence.D))]) (GH.trans (q0m (q:=0) [.d m (.sl 2 (a0.Symbols.map Symbol.D)),.u] (.cons .rfl (.cons .u .nil)) rfl) (q0e hS 4)) (fun k2 xk2 sk2 ok2 hxk2 hr hltk2=>?_) fun k2 hltk2=>?_
 obtain⟨s3,rfl⟩:∃ y,y=sk2:=⟨_,rfl⟩
 refine sr ?_
 refine N1 ?_
 refine q0d (q0f rfl (dT hltk2) ?_)
 refine q0b ?_
 refine bdE hr fun s4 hqq5 hr=>?_
 refine q0d (q0n 4 [(2,.pb 0 0),(3,.pb 1 0),(5,.ref 2 none),(6,.d .fz (.i .i64 (k1:Int))),(7,.d .fz (.i .i64 s2)),(16,.d .fz (.i .i64 ((a1.Right.length+1:Nat):Int))),(17,.d .fz (.i .i64 (k1:Int))),(31,.d m (.sl 4 (y2.Attributes.map Attribute.D))),(32,.d .fz (.i .i64 (y2.Attributes.length:Int))),(33,.d .fz (.i .i64 (k2:Int)))] [(2,.row .fz 2 (s4.map Occurrence.D))] ?_ ?_)
 replace hr:=hqq5
 refine AW.block (q0d (q0c ?_))
 refine IF (Int.natCast_nonneg _) hxk2 ?_
 refine W1 ?_
 refine NV 4 ?_
 refine SB ?_
 refine N0 ?_
 refine sr ?_
 refine N4 ?_
 refine ifE hr (fun h2 hr=>?_) fun h2 hr=>?_
 refine q0f rfl (dT h2) ?_
 refine q0c ?_
 refine W5 ?_
 refine LIR 5 (m:=.fz) (f:=Occurrence.D) (xs:=[(⟨(k1:Int),xk2.Name⟩:Occurrence)]) ?_
 refine ggE hr fun g2 hr=>?_
 refine APf1 (f:=Occurrence.D) 6 (fun _=>rfl) 24 g2 ?_
 refine N1 ?_
 cases hr
 exact GH.trans (q0m (q:=0) [.d m (.sl 2 (a0.Symbols.map Symbol.D)),.u] (.cons .rfl (.cons .u .nil)) rfl) (q0l hS [(0,0),(1,1),(6,2),(3,3)] 4)
 refine q0g rfl (dF h2) ?_
 refine q0b ?_
 cases hr
 exact GH.trans (q0m (q:=0) [.d m (.sl 2 (a0.Symbols.map Symbol.D)),.u] (.cons .rfl (.cons .u .nil)) rfl) (q0e hS 4)
 refine q0c ?_
 refine OB _ (q3B (p:=k2) (q:=1) (q3m hltk2 hl2)) ?_
 refine N1 ?_
 cases hr
 exact GH.trans (q0m (q:=0) [.d m (.sl 2 (a0.Symbols.map Symbol.D)),.u] (.cons .rfl (.cons .u .nil)) rfl) (q0e hS 4)
 refine sr ?_
 refine N1 ?_
 refine q0d (q0g rfl (dF hltk2) ?_)
 refine q0i ?_
 refine q0c ?_
 refine OB _ (q3B (p:=k1) (q:=1) (q3m (ltN hltk1) hl1.2)) ?_
 refine N1 ?_
 cases hr
 exact GH.trans (q0m (q:=0) [.d m (.sl 2 (a0.Symbols.map Symbol.D)),.u] (.cons .rfl (.cons .u .nil)) rfl) (q0e hS 3)
 refine sr ?_
 refine N1 ?_
 refine q0d (q0g rfl (dF geN) ?_)
 refine q0i ?_
 refine sr ?_
 refine N2 ?_
 refine AW.ret ?_
 cases hr
 exact q0a [(2,0)] 1 hS
def q9S (a0:Equation)(a1:Occurrence):Option Bool:=
 some (decide (a0.At=a1))
theorem z7t {m:Md}{a0:Equation}{a1:Occurrence}{r:Bool}(hr:q9S a0 a1=some r):Ok Tryz.prog 148 [Equation.x m a0,.pb 0 0] [.box [.d .fz (.i .i64 a1.Pos),.d .fz (.s a1.Name)]] (.d .fz (.b r)) [.box [.d .fz (.i .i64 a1.Pos),.d .fz (.s a1.Name)]]:=by
 refine Ok.enter rfl Tryz.func148 rfl rfl rfl fun S hS=>?_
 unfold q9S at hr
 refine sr ?_
 refine BX 1 ?_
 refine N1 ?_
 refine sr ?_
 refine W3 ?_
 refine SQ rfl rfl rfl rfl (q5n a0.At a1) ?_
 refine N1 ?_
 refine AW.ret ?_
 cases hr
 exact q0a [(0,0)] 1 hS
def q5w (a1_0:Occurrence):Nat→Equation→Unit→Option (Unit ⊕ Int):=fun k1 xk1 _=>
 (q9S xk1 a1_0).bind fun y1=>
 if y1=true then (
 some (.inr (k1:Int))
 ) else (
 some (.inl ())
 )
def q4j (a0:(List Equation))(a1_0:Occurrence):Option Int:=
 (findL (q5w a1_0) 0 a0 ()).bind <| onr (fun r1=>some r1) fun _=>
 some (-1)
theorem q7L {m:Md}{a0:(List Equation)}{a1_0:Occurrence}{r:Int}(hr:q4j a0 a1_0=some r):Ok Tryz.prog 178 [.d m (.sl 9 (a0.map Equation.D)),.fn 148 [.pb 0 0]] [.box [.d .fz (.i .i64 a1_0.Pos),.d .fz (.s a1_0.Name)]] (.d .fz (.i .i64 r)) [.box [.d .fz (.i .i64 a1_0.Pos),.d .fz (.s a1_0.Name)]]:=by
 refine Ok.enter rfl Tryz.func178 rfl rfl rfl fun S hS=>?_
 unfold q4j at hr
 refine sr ?_
 refine N1 ?_
 refine ssr ?_
 refine W1 ?_
 refine LF ?_
 refine N1 ?_
 refine AW.block ?_
 refine AW.len (.tmp 0 rfl) fun hl1=>?_
 refine bdE hr fun q1 hqq1 hr=>?_
 refine q0k hqq1 hl1 1 (fun k1 _=>[(0,.d m (.sl 9 (a0.map Equation.D))),(1,.fn 148 [.pb 0 0]),(7,.d .fz (.i .i64 (a0.length:Int))),(8,.d .fz (.i .i64 (k1:Int)))]) (fun k1 _=>[]) (q0e hS 1) (fun k1 xk1 sk1 ok1 hxk1 hr hltk1 hik1=>?_) fun k1 sk1 ek1 hltk1=>?_
 refine sr ?_
 refine N1 ?_
 refine q0d (q0f rfl (dT hltk1) ?_)
 refine q0b ?_
 refine q0d (AW.block (q0d (q0c ?_)))
 refine N2 ?_
 refine sr ?_
 refine W3 ?_
 refine IF (Int.natCast_nonneg _) hxk1 ?_
 refine W1 ?_
 refine bdE hr fun y1 hy1 hr=>?_
 refine CB [(0,0)] [] (z7t (m:=m) hy1) ?_
 refine N0 ?_
 refine ifE hr (fun h1 hr=>?_) fun h1 hr=>?_
 refine q0f rfl h1 ?_
 refine sr ?_
 refine N2 ?_
 refine AW.ret ?_
 cases hr
 cases hik1 _ rfl
 rename_i hr
 cases hr
 exact q0a [(0,0)] 1 hS
 refine q0g rfl (bF h1) ?_
 refine q0b ?_
 refine q0c ?_
 refine OB _ (q3B (p:=k1) (q:=1) (q3m hltk1 hl1)) ?_
 refine N1 ?_
 cases hr
 exact⟨_,rfl,q0e hS 1⟩
 subst ek1
 refine sr ?_
 refine N1 ?_
 refine q0d (q0g rfl (dF hltk1) ?_)
 refine q0i ?_
 refine sr ?_
 refine N1 ?_
 refine AW.ret ?_
 cases hr
 exact q0a [(0,0)] 1 hS
def q3W (a0:(List Equation))(a1_0:Occurrence):Option Bool:=
 (q4j a0 a1_0).bind fun y1=>
 some (decide (0≤y1))
theorem q7d {m:Md}{a0:(List Equation)}{a1_0:Occurrence}{r:Bool}(hr:q3W a0 a1_0=some r):Ok Tryz.prog 147 [.d m (.sl 9 (a0.map Equation.D)),.fn 148 [.pb 0 0]] [.box [.d .fz (.i .i64 a1_0.Pos),.d .fz (.s a1_0.Name)]] (.d .fz (.b r)) [.box [.d .fz (.i .i64 a1_0.Pos),.d .fz (.s a1_0.Name)]]:=by
 refine Ok.enter rfl Tryz.func147 rfl rfl rfl fun S hS=>?_
 unfold q3W at hr
 refine sr ?_
 refine N1 ?_
 refine sr ?_
 refine W2 ?_
 refine bdE hr fun y1 hy1 hr=>?_
 refine CB [(0,0)] [] (q7L (m:=m) hy1) ?_
 refine N2 ?_
 refine AW.ret ?_
 cases hr
 exact q0a [(0,0)] 1 hS
def z1x (a0:Occurrence)(a1:Rule):Option Bool:=
 (q3W a1.Equations a0).bind fun y1=>
 some (!y1)
theorem z9G {m2:Md}{a0:Occurrence}{a1:Rule}{r:Bool}(hr:z1x a0 a1=some r):Ok Tryz.prog 146 [Occurrence.x .fz a0,.pb 0 0] [.box [.d .fz (.s a1.Name),.d .fz (.s a1.Left),.d m2 (.sl 1 (a1.Right.map A.D.s)),.d .fz (.b a1.Literal),.d m2 (.sl 9 (a1.Equations.map Equation.D)),.d m2 (.sl 16 (a1.Contributions.map Contribution.D))]] (.d .fz (.b r)) [.box [.d .fz (.s a1.Name),.d .fz (.s a1.Left),.d m2 (.sl 1 (a1.Right.map A.D.s)),.d .fz (.b a1.Literal),.d m2 (.sl 9 (a1.Equations.map Equation.D)),.d m2 (.sl 16 (a1.Contributions.map Contribution.D))]]:=by
 refine Ok.enter rfl Tryz.func146 rfl rfl rfl fun S hS=>?_
 unfold z1x at hr
 refine sr ?_
 refine BX 1 ?_
 refine N1 ?_
 refine sr ?_
 refine W3 ?_
 refine bdE hr fun y1 hy1 hr=>?_
 refine CB [(0,1)] [] (q7d (m:=m2) hy1) ?_
 refine N2 ?_
 refine AW.ret ?_
 cases hr
 exact q0a [(0,0)] 1 hS
def q5x (a1_0:Rule):Nat→Occurrence→Unit→Option (Unit ⊕ Int):=fun k1 xk1 _=>
 (z1x xk1 a1_0).bind fun y1=>
 if y1=true then (
 some (.inr (k1:Int))
 ) else (
 some (.inl ())
 )
def q4k (a0:(List Occurrence))(a1_0:Rule):Option Int:=
 (findL (q5x a1_0) 0 a0 ()).bind <| onr (fun r1=>some r1) fun _=>
 some (-1)
theorem q7M {m2:Md}{a0:(List Occurrence)}{a1_0:Rule}{r:Int}(hr:q4k a0 a1_0=some r):Ok Tryz.prog 57 [.ref 1 none,.fn 146 [.pb 0 0]] [.box [.d .fz (.s a1_0.Name),.d .fz (.s a1_0.Left),.d m2 (.sl 1 (a1_0.Right.map A.D.s)),.d .fz (.b a1_0.Literal),.d m2 (.sl 9 (a1_0.Equations.map Equation.D)),.d m2 (.sl 16 (a1_0.Contributions.map Contribution.D))],.row .fz 2 (a0.map Occurrence.D)] (.d .fz (.i .i64 r)) [.box [.d .fz (.s a1_0.Name),.d .fz (.s a1_0.Left),.d m2 (.sl 1 (a1_0.Right.map A.D.s)),.d .fz (.b a1_0.Literal),.d m2 (.sl 9 (a1_0.Equations.map Equation.D)),.d m2 (.sl 16 (a1_0.Contributions.map Contribution.D))],.row .fz 2 (a0.map Occurrence.D)]:=by
 refine Ok.enter rfl Tryz.func57 rfl rfl rfl fun S hS=>?_
 unfold q4k at hr
 refine sr ?_
 refine N1 ?_
 refine ssr ?_
 refine W1 ?_
 refine LE ?_
 refine N1 ?_
 refine AW.block ?_
 refine q0r 1 rfl fun hl1=>?_
 refine bdE hr fun q1 hqq1 hr=>?_
 refine q0k hqq1 hl1 2 (fun k1 _=>[(0,.ref 1 none),(1,.fn 146 [.pb 0 0]),(7,.d .fz (.i .i64 (a0.length:Int))),(8,.d .fz (.i .i64 (k1:Int)))]) (fun k1 _=>[]) (q0e hS 2) (fun k1 xk1 sk1 ok1 hxk1 hr hltk1 hik1=>?_) fun k1 sk1 ek1 hltk1=>?_
 refine sr ?_
 refine N1 ?_
 refine q0d (q0f rfl (dT hltk1) ?_)
 refine q0b ?_
 refine q0d (AW.block (q0d (q0c ?_)))
 refine N2 ?_
 refine sr ?_
 refine W3 ?_
 refine IE hxk1 (Int.natCast_nonneg _) ?_
 refine LPa hxk1 ?_
 refine bdE hr fun y1 hy1 hr=>?_
 refine CB [(0,0)] [] (z9G (m2:=m2) hy1) ?_
 refine N0 ?_
 refine ifE hr (fun h1 hr=>?_) fun h1 hr=>?_
 refine q0f rfl h1 ?_
 refine sr ?_
 refine N2 ?_
 refine AW.ret ?_
 cases hr
 cases hik1 _ rfl
 rename_i hr
 cases hr
 exact q0a [(0,0),(1,1)] 2 hS
 refine q0g rfl (bF h1) ?_
 refine q0b ?_
 refine q0c ?_
 refine OB _ (q3B (p:=k1) (q:=1) (q3m hltk1 hl1)) ?_
 refine N1 ?_
 cases hr
 exact⟨_,rfl,q0e hS 2⟩
 subst ek1
 refine sr ?_
 refine N1 ?_
 refine q0d (q0g rfl (dF hltk1) ?_)
 refine q0i ?_
 refine sr ?_
 refine N1 ?_
 refine AW.ret ?_
 cases hr
 exact q0a [(0,0),(1,1)] 2 hS
def q3X (a0:(List Occurrence))(a1_0:Rule):Option Bool:=
 (q4k a0 a1_0).bind fun y1=>
 some (decide (0≤y1))
theorem q7e {m2:Md}{a0:(List Occurrence)}{a1_0:Rule}{r:Bool}(hr:q3X a0 a1_0=some r):Ok Tryz.prog 66 [.ref 1 none,.fn 146 [.pb 0 0]] [.box [.d .fz (.s a1_0.Name),.d .fz (.s a1_0.Left),.d m2 (.sl 1 (a1_0.Right.map A.D.s)),.d .fz (.b a1_0.Literal),.d m2 (.sl 9 (a1_0.Equations.map Equation.D)),.d m2 (.sl 16 (a1_0.Contributions.map Contribution.D))],.row .fz 2 (a0.map Occurrence.D)] (.d .fz (.b r)) [.box [.d .fz (.s a1_0.Name),.d .fz (.s a1_0.Left),.d m2 (.sl 1 (a1_0.Right.map A.D.s)),.d .fz (.b a1_0.Literal),.d m2 (.sl 9 (a1_0.Equations.map Equation.D)),.d m2 (.sl 16 (a1_0.Contributions.map Contribution.D))],.row .fz 2 (a0.map Occurrence.D)]:=by
 refine Ok.enter rfl Tryz.func66 rfl rfl rfl fun S hS=>?_
 unfold q3X at hr
 refine sr ?_
 refine N1 ?_
 refine sr ?_
 refine W2 ?_
 refine bdE hr fun y1 hy1 hr=>?_
 refine CB [(0,0),(1,1)] [] (q7M (m2:=m2) hy1) ?_
 refine N2 ?_
 refine AW.ret ?_
 cases hr
 exact q0a [(0,0),(1,1)] 2 hS
def z2g (a0:Grammar)(a1:Rule):Option Bool:=
 (q9F a0 a1).bind fun y1=>
 (q3X y1 a1).bind fun y2=>
 some y2
theorem j2t {m:Md}{a0:Grammar}{a1:Rule}{r:Bool}(hr:z2g a0 a1=some r):Ok Tryz.prog 115 [Grammar.y m a0,Rule.x m a1] [] (.d .fz (.b r)) []:=by
 refine Ok.enter rfl Tryz.func115 rfl rfl rfl fun S hS=>?_
 unfold z2g at hr
 refine sr ?_
 refine BX 0 ?_
 refine BX 1 ?_
 refine N1 ?_
 refine sr ?_
 refine W2 ?_
 refine bdE hr fun y1 hy1 hr=>?_
 refine CB [(0,2)] [] (z5T (m:=m) hy1) ?_
 refine W1 ?_
 refine bdE hr fun y2 hy2 hr=>?_
 refine CB [(0,1),(1,2)] [] (q7e (m2:=m) hy2) ?_
 refine N1 ?_
 refine AW.ret ?_
 cases hr
 exact q0a [] 0 hS
def q5v (a1:Occurrence):Nat→Occurrence→Unit→Option (Unit ⊕ Int):=fun k1 xk1 _=>
 if a1=xk1 then (
 some (.inr (k1:Int))
 ) else (
 some (.inl ())
 )
def q4H (a0:(List Occurrence))(a1:Occurrence):Option Int:=
 (findL (q5v a1) 0 a0 ()).bind <| onr (fun r1=>some r1) fun _=>
 some (-1)
theorem z1r {m:Md}{a0:(List Occurrence)}{a1:Occurrence}{r:Int}(hr:q4H a0 a1=some r):Ok Tryz.prog 54 [.d m (.sl 2 (a0.map Occurrence.D)),Occurrence.x .fz a1] [] (.d .fz (.i .i64 r)) []:=by
 refine Ok.enter rfl Tryz.func54 rfl rfl rfl fun S hS=>?_
 unfold q4H at hr
 refine sr ?_
 refine BX 0 ?_
 refine N1 ?_
 refine ssr ?_
 refine W1 ?_
 refine LF ?_
 refine N1 ?_
 refine AW.block ?_
 refine AW.len (.tmp 0 rfl) fun hl1=>?_
 refine bdE hr fun q1 hqq1 hr=>?_
 refine q0k hqq1 hl1 1 (fun k1 _=>[(0,.d m (.sl 2 (a0.map Occurrence.D))),(3,.pb 0 0),(7,.d .fz (.i .i64 (a0.length:Int))),(8,.d .fz (.i .i64 (k1:Int)))]) (fun k1 _=>[]) (q0e hS 1) (fun k1 xk1 sk1 ok1 hxk1 hr hltk1 hik1=>?_) fun k1 sk1 ek1 hltk1=>?_
 refine sr ?_
 refine N1 ?_
 refine q0d (q0f rfl (dT hltk1) ?_)
 refine q0b ?_
 refine q0d (AW.block (q0d (q0c ?_)))
 refine N2 ?_
 refine q0d (q0j (h:=?_))
 refine W3 ?_
 refine IF (Int.natCast_nonneg _) hxk1 ?_
 refine W1 ?_
 refine SQ rfl rfl rfl rfl (q5n a1 xk1) ?_
 refine N0 ?_
 refine ifE hr (fun h1 hr=>?_) fun h1 hr=>?_
 refine q0f rfl (dT h1) ?_
 refine sr ?_
 refine N2 ?_
 refine AW.ret ?_
 cases hr
 cases hik1 _ rfl
 rename_i hr
 cases hr
 exact q0a [] 0 hS
 refine q0g rfl (dF h1) ?_
 refine q0b ?_
 refine q0c ?_
 refine OB _ (q3B (p:=k1) (q:=1) (q3m hltk1 hl1)) ?_
 refine N1 ?_
 cases hr
 exact⟨_,rfl,q0e hS 1⟩
 subst ek1
 refine sr ?_
 refine N1 ?_
 refine q0d (q0g rfl (dF hltk1) ?_)
 refine q0i ?_
 refine sr ?_
 refine N1 ?_
 refine AW.ret ?_
 cases hr
 exact q0a [] 0 hS
def q3D (a0:(List Occurrence))(a1:Occurrence):Option Bool:=
 (q4H a0 a1).bind fun y1=>
 some (decide (0≤y1))
theorem q5N {m:Md}{a0:(List Occurrence)}{a1:Occurrence}{r:Bool}(hr:q3D a0 a1=some r):Ok Tryz.prog 22 [.d m (.sl 2 (a0.map Occurrence.D)),Occurrence.x .fz a1] [] (.d .fz (.b r)) []:=by
 refine Ok.enter rfl Tryz.func22 rfl rfl rfl fun S hS=>?_
 unfold q3D at hr
 refine sr ?_
 refine BX 0 ?_
 refine N1 ?_
 refine sr ?_
 refine W2 ?_
 refine bdE hr fun y1 hy1 hr=>?_
 refine CB [] [] (z1r (m:=m) hy1) ?_
 refine N2 ?_
 refine AW.ret ?_
 cases hr
 exact q0a [] 0 hS
def z3Y (a0:Equation)(a1:Equation):Option Bool:=
 some (decide (a0.At=a1.At))
theorem j2u {m:Md}{m2:Md}{a0:Equation}{a1:Equation}{r:Bool}(hr:z3Y a0 a1=some r):Ok Tryz.prog 149 [Equation.x m a0,.pb 0 0] [.box [.d .fz (.i .i64 a1.At.Pos),.d .fz (.s a1.At.Name),.d .fz (.i .i64 a1.Expr.Kind),.d .fz (.i .i64 a1.Expr.N),.d .fz (.i .i64 a1.Expr.Pos),.d .fz (.i .i64 a1.Expr.Type_),.d .fz (.s a1.Expr.Symbol),.d .fz (.s a1.Expr.Name),.d m2 (.sl 7 (a1.Expr.Args.map Expr.D))]] (.d .fz (.b r)) [.box [.d .fz (.i .i64 a1.At.Pos),.d .fz (.s a1.At.Name),.d .fz (.i .i64 a1.Expr.Kind),.d .fz (.i .i64 a1.Expr.N),.d .fz (.i .i64 a1.Expr.Pos),.d .fz (.i .i64 a1.Expr.Type_),.d .fz (.s a1.Expr.Symbol),.d .fz (.s a1.Expr.Name),.d m2 (.sl 7 (a1.Expr.Args.map Expr.D))]]:=by
 refine Ok.enter rfl Tryz.func149 rfl rfl rfl fun S hS=>?_
 unfold z3Y at hr
 refine sr ?_
 refine BX 1 ?_
 refine N1 ?_
 refine sr ?_
 refine W4 ?_
 refine SQ rfl rfl rfl rfl (q5n a0.At a1.At) ?_
 refine N1 ?_
 refine AW.ret ?_
 cases hr
 exact q0a [(0,0)] 1 hS
def q5W (a1_0:Equation):Nat→Equation→Unit→Option (Unit ⊕ Int):=fun k1 xk1 _=>
 (z3Y xk1 a1_0).bind fun y1=>
 if y1=true then (
 some (.inr (k1:Int))
 ) else (
 some (.inl ())
 )
def q4A (a0:(List Equation))(a1_0:Equation):Option Int:=
 (findL (q5W a1_0) 0 a0 ()).bind <| onr (fun r1=>some r1) fun _=>
 some (-1)
theorem q8q {m:Md}{m2:Md}{a0:(List Equation)}{a1_0:Equation}{r:Int}(hr:q4A a0 a1_0=some r):Ok Tryz.prog 178 [.d m (.sl 9 (a0.map Equation.D)),.fn 149 [.pb 0 0]] [.box [.d .fz (.i .i64 a1_0.At.Pos),.d .fz (.s a1_0.At.Name),.d .fz (.i .i64 a1_0.Expr.Kind),.d .fz (.i .i64 a1_0.Expr.N),.d .fz (.i .i64 a1_0.Expr.Pos),.d .fz (.i .i64 a1_0.Expr.Type_),.d .fz (.s a1_0.Expr.Symbol),.d .fz (.s a1_0.Expr.Name),.d m2 (.sl 7 (a1_0.Expr.Args.map Expr.D))]] (.d .fz (.i .i64 r)) [.box [.d .fz (.i .i64 a1_0.At.Pos),.d .fz (.s a1_0.At.Name),.d .fz (.i .i64 a1_0.Expr.Kind),.d .fz (.i .i64 a1_0.Expr.N),.d .fz (.i .i64 a1_0.Expr.Pos),.d .fz (.i .i64 a1_0.Expr.Type_),.d .fz (.s a1_0.Expr.Symbol),.d .fz (.s a1_0.Expr.Name),.d m2 (.sl 7 (a1_0.Expr.Args.map Expr.D))]]:=by
 refine Ok.enter rfl Tryz.func178 rfl rfl rfl fun S hS=>?_
 unfold q4A at hr
 refine sr ?_
 refine N1 ?_
 refine ssr ?_
 refine W1 ?_
 refine LF ?_
 refine N1 ?_
 refine AW.block ?_
 refine AW.len (.tmp 0 rfl) fun hl1=>?_
 refine bdE hr fun q1 hqq1 hr=>?_
 refine q0k hqq1 hl1 1 (fun k1 _=>[(0,.d m (.sl 9 (a0.map Equation.D))),(1,.fn 149 [.pb 0 0]),(7,.d .fz (.i .i64 (a0.length:Int))),(8,.d .fz (.i .i64 (k1:Int)))]) (fun k1 _=>[]) (q0e hS 1) (fun k1 xk1 sk1 ok1 hxk1 hr hltk1 hik1=>?_) fun k1 sk1 ek1 hltk1=>?_
 refine sr ?_
 refine N1 ?_
 refine q0d (q0f rfl (dT hltk1) ?_)
 refine q0b ?_
 refine q0d (AW.block (q0d (q0c ?_)))
 refine N2 ?_
 refine sr ?_
 refine W3 ?_
 refine IF (Int.natCast_nonneg _) hxk1 ?_
 refine W1 ?_
 refine bdE hr fun y1 hy1 hr=>?_
 refine CB [(0,0)] [] (j2u (m:=m) (m2:=m2) hy1) ?_
 refine N0 ?_
 refine ifE hr (fun h1 hr=>?_) fun h1 hr=>?_
 refine q0f rfl h1 ?_
 refine sr ?_
 refine N2 ?_
 refine AW.ret ?_
 cases hr
 cases hik1 _ rfl
 rename_i hr
 cases hr
 exact q0a [(0,0)] 1 hS
 refine q0g rfl (bF h1) ?_
 refine q0b ?_
 refine q0c ?_
 refine OB _ (q3B (p:=k1) (q:=1) (q3m hltk1 hl1)) ?_
 refine N1 ?_
 cases hr
 exact⟨_,rfl,q0e hS 1⟩
 subst ek1
 refine sr ?_
 refine N1 ?_
 refine q0d (q0g rfl (dF hltk1) ?_)
 refine q0i ?_
 refine sr ?_
 refine N1 ?_
 refine AW.ret ?_
 cases hr
 exact q0a [(0,0)] 1 hS
def q4q (a0:(List Equation))(a1_0:Equation):Option Bool:=
 (q4A a0 a1_0).bind fun y1=>
 some (decide (0≤y1))
theorem q7R {m:Md}{m2:Md}{a0:(List Equation)}{a1_0:Equation}{r:Bool}(hr:q4q a0 a1_0=some r):Ok Tryz.prog 147 [.d m (.sl 9 (a0.map Equation.D)),.fn 149 [.pb 0 0]] [.box [.d .fz (.i .i64 a1_0.At.Pos),.d .fz (.s a1_0.At.Name),.d .fz (.i .i64 a1_0.Expr.Kind),.d .fz (.i .i64 a1_0.Expr.N),.d .fz (.i .i64 a1_0.Expr.Pos),.d .fz (.i .i64 a1_0.Expr.Type_),.d .fz (.s a1_0.Expr.Symbol),.d .fz (.s a1_0.Expr.Name),.d m2 (.sl 7 (a1_0.Expr.Args.map Expr.D))]] (.d .fz (.b r)) [.box [.d .fz (.i .i64 a1_0.At.Pos),.d .fz (.s a1_0.At.Name),.d .fz (.i .i64 a1_0.Expr.Kind),.d .fz (.i .i64 a1_0.Expr.N),.d .fz (.i .i64 a1_0.Expr.Pos),.d .fz (.i .i64 a1_0.Expr.Type_),.d .fz (.s a1_0.Expr.Symbol),.d .fz (.s a1_0.Expr.Name),.d m2 (.sl 7 (a1_0.Expr.Args.map Expr.D))]]:=by
 refine Ok.enter rfl Tryz.func147 rfl rfl rfl fun S hS=>?_
 unfold q4q at hr
 refine sr ?_
 refine N1 ?_
 refine sr ?_
 refine W2 ?_
 refine bdE hr fun y1 hy1 hr=>?_
 refine CB [(0,0)] [] (q8q (m:=m) (m2:=m2) hy1) ?_
 refine N2 ?_
 refine AW.ret ?_
 cases hr
 exact q0a [(0,0)] 1 hS
def z4X (a1:Rule)(y1:(List Occurrence)):Nat→Equation→Unit→Option (Unit ⊕ Bool):=fun k1 xk1 _=>
 (q3D y1 xk1.At).bind fun y2=>
 if y2=true then (
 grd (k1≤a1.Equations.length) <|
 (q4q (a1.Equations.take k1) xk1).bind fun y3=>
 if y3=true then (
 some (.inr true)
 ) else (
 some (.inl ())
 )
 ) else (
 some (.inr true)
 )
def z4Y (a0:Grammar)(a1:Rule):Option Bool:=
 (q9F a0 a1).bind fun y1=>
 (findL (z4X a1 y1) 0 a1.Equations ()).bind <| onr (fun r1=>some r1) fun _=>
 some false
theorem j5D {m:Md}{a0:Grammar}{a1:Rule}{r:Bool}(hr:z4Y a0 a1=some r):Ok Tryz.prog 116 [Grammar.y m a0,Rule.x m a1] [] (.d .fz (.b r)) []:=by
 refine Ok.enter rfl Tryz.func116 rfl rfl rfl fun S hS=>?_
 unfold z4Y at hr
 refine sr ?_
 refine BX 0 ?_
 refine BX 1 ?_
 refine N1 ?_
 refine sr ?_
 refine W2 ?_
 refine bdE hr fun y1 hy1 hr=>?_
 refine CB [(0,2)] [] (z5T (m:=m) hy1) ?_
 refine N1 ?_
 refine ssr ?_
 refine W2 ?_
 refine LF ?_
 refine N1 ?_
 refine AW.block ?_
 refine AW.len (.ag 4 (.tmp 1 rfl) rfl) fun hl1=>?_
 refine bdE hr fun q1 hqq1 hr=>?_
 refine q0k hqq1 hl1 3 (fun k1 _=>[(3,.pb 1 0),(5,.ref 2 none),(12,.d m (.sl 9 (a1.Equations.map Equation.D))),(13,.d .fz (.i .i64 (a1.Equations.length:Int))),(14,.d .fz (.i .i64 (k1:Int)))]) (fun k1 _=>[]) (GH.trans (q0m (q:=0) [.d m (.sl 2 (a0.Symbols.map Symbol.D)),.u] (.cons .rfl (.cons .u .nil)) rfl) (q0e hS 3)) (fun k1 xk1 sk1 ok1 hxk1 hr hltk1 hik1=>?_) fun k1 sk1 ek1 hltk1=>?_
 refine sr ?_
 refine N1 ?_
 refine q0d (q0f rfl (dT hltk1) ?_)
 refine q0b ?_
 refine q0d (AW.block (q0d (q0c ?_)))
 refine W1 ?_
 refine IF (Int.natCast_nonneg _) hxk1 ?_
 refine W1 ?_
 refine NV 3 ?_
 refine W1 ?_
 refine SB ?_
 refine N0 ?_
 refine sr ?_
 refine W3 ?_
 refine bdE hr fun y2 hy2 hr=>?_
 refine CB [] [2] (q5N (m:=.bo) hy2) ?_
 refine W1 ?_
 refine ifE hr (fun h1 hr=>?_) fun h1 hr=>?_
 refine VF rfl (bnF h1) ?_
 refine W3 ?_
 refine ggE hr fun g1 hr=>?_
 refine SLH (Int.natCast_nonneg _) g1 ?_
 refine W1 ?_
 refine bdE hr fun y3 hy3 hr=>?_
 refine CB [(0,3)] [] (q7R (m:=m) (m2:=m) hy3) ?_
 refine N1 ?_
 refine ifE hr (fun h2 hr=>?_) fun h2 hr=>?_
 refine q0f rfl h2 ?_
 refine sr ?_
 refine N1 ?_
 refine AW.ret ?_
 cases hr
 cases hik1 _ rfl
 rename_i hr
 cases hr
 exact q0a [] 0 hS
 refine q0g rfl (bF h2) ?_
 refine q0b ?_
 refine q0c ?_
 refine OB _ (q3B (p:=k1) (q:=1) (q3m hltk1 hl1)) ?_
 refine N1 ?_
 cases hr
 exact⟨_,rfl,GH.trans (q0m (q:=0) [.d m (.sl 2 (a0.Symbols.map Symbol.D)),.u] (.cons .rfl (.cons .u .nil)) rfl) (q0e hS 3)⟩
 refine VT rfl (bnT h1) ?_
 iterate 6 refine AL.off ?_
 refine N1 ?_
 refine q0f rfl rfl ?_
 refine sr ?_
 refine N1 ?_
 refine AW.ret ?_
 cases hr
 cases hik1 _ rfl
 rename_i hr
 cases hr
 exact q0a [] 0 hS
 subst ek1
 refine sr ?_
 refine N1 ?_
 refine q0d (q0g rfl (dF hltk1) ?_)
 refine q0i ?_
 refine sr ?_
 refine N1 ?_
 refine AW.ret ?_
 cases hr
 exact q0a [] 0 hS
def q9f:Nat→Equation→((List Expr))→Option ((List Expr)):=fun k1 xk1 s1=>
 grd (((s1.length:Int)+1)*88≤140737488355328∧(s1.length:Int)+1≤9223372036854775807) <|
 some (s1++[xk1.Expr])
def q9g:Nat→Contribution→((List Expr))→Option ((List Expr)):=fun k2 xk2 s2=>
 grd (((s2.length:Int)+([xk2.Target,xk2.Value].length:Int))*88≤140737488355328∧(s2.length:Int)+([xk2.Target,xk2.Value].length:Int)≤9223372036854775807) <|
 some (s2++[xk2.Target,xk2.Value])
def q7I (a0:Rule):Option (List Expr):=
 (eachL q9f 0 a0.Equations ([]:List Expr)).bind fun s1=>
 (eachL q9g 0 a0.Contributions s1).bind fun s2=>
 some s2
theorem z3w {m:Md}{a0:Rule}{r:(List Expr)}(hr:q7I a0=some r):Ok Tryz.prog 49 [Rule.x m a0] [] (.ref 0 none) [.row m 7 (r.map Expr.D)]:=by
 refine Ok.enter rfl Tryz.func49 rfl rfl rfl fun S hS=>?_
 unfold q7I at hr
 refine sr ?_
 refine BX 0 ?_
 refine N1 ?_
 refine sr ?_
 refine L0 1 Expr.D ?_
 refine N1 ?_
 refine ssr ?_
 refine W2 ?_
 refine LF ?_
 refine N1 ?_
 refine AW.block ?_
 refine AW.len (.ag 4 (.tmp 0 rfl) rfl) fun hl1=>?_
 refine bdE hr fun s1 hqq1 hr=>?_
 refine q0o hqq1 hl1 2 (fun k1 s1=>[(1,.pb 0 0),(3,.ref 1 none),(10,.d m (.sl 9 (a0.Equations.map Equation.D))),(11,.d .fz (.i .i64 (a0.Equations.length:Int))),(12,.d .fz (.i .i64 (k1:Int)))]) (fun k1 s1=>[(1,.row m 7 (s1.map Expr.D))]) (GH.trans (q3e (r:=1) m rfl) (q0e hS 2)) (fun k1 xk1 sk1 ok1 hxk1 hr hltk1=>?_) fun k1 hltk1=>?_
 obtain⟨s1,rfl⟩:∃ y,y=sk1:=⟨_,rfl⟩
 refine sr ?_
 refine N1 ?_
 refine q0d (q0f rfl (dT hltk1) ?_)
 refine q0b ?_
 refine q0d (AW.block (q0d (q0c ?_)))
 refine IF (Int.natCast_nonneg _) hxk1 ?_
 refine W1 ?_
 refine NV 2 ?_
 refine SB ?_
 refine N0 ?_
 refine q0c ?_
 refine W3 ?_
 refine LIRm 3 (m:=m) (f:=Expr.D) [xk1.Expr] (by simp only [List.map_cons,List.map_nil,Expr.D_eq]; rfl) ?_
 refine ggE hr fun g1 hr=>?_
 refine AP1 4 m 88 g1 ?_
 refine N1 ?_
 refine q0c ?_
 refine OB _ (q3B (p:=k1) (q:=1) (q3m hltk1 hl1)) ?_
 refine N1 ?_
 cases hr
 exact q0l hS [(0,0),(4,1)] 2
 refine sr ?_
 refine N1 ?_
 refine q0d (q0g rfl (dF hltk1) ?_)
 refine q0i ?_
 refine ssr ?_
 refine W2 ?_
 refine LF ?_
 refine N1 ?_
 refine AW.block ?_
 refine AW.len (.tmp 23 rfl) fun hl2=>?_
 refine bdE hr fun s2 hqq2 hr=>?_
 refine q0o hqq2 hl2 2 (fun k2 s2=>[(3,.ref 1 none),(23,.d m (.sl 16 (a0.Contributions.map Contribution.D))),(24,.d .fz (.i .i64 (a0.Contributions.length:Int))),(25,.d .fz (.i .i64 (k2:Int)))]) (fun k2 s2=>[(1,.row m 7 (s2.map Expr.D))]) (q0e hS 2) (fun k2 xk2 sk2 ok2 hxk2 hr hltk2=>?_) fun k2 hltk2=>?_
 obtain⟨s2,rfl⟩:∃ y,y=sk2:=⟨_,rfl⟩
 refine sr ?_
 refine N1 ?_
 refine q0d (q0f rfl (dT hltk2) ?_)
 refine q0b ?_
 refine q0d (AW.block (q0d (q0c ?_)))
 refine IF (Int.natCast_nonneg _) hxk2 ?_
 refine W1 ?_
 refine NV 2 ?_
 refine SB ?_
 refine N0 ?_
 refine q0c ?_
 refine W5 ?_
 refine LIRm 3 (m:=m) (f:=Expr.D) [xk2.Target,xk2.Value] (by simp only [List.map_cons,List.map_nil,Expr.D_eq]; rfl) ?_
 refine ggE hr fun g2 hr=>?_
 refine APB 4 m 88 g2 ?_
 refine N1 ?_
 refine q0c ?_
 refine OB _ (q3B (p:=k2) (q:=1) (q3m hltk2 hl2)) ?_
 refine N1 ?_
 cases hr
 exact q0l hS [(0,0),(4,1)] 2
 refine sr ?_
 refine N1 ?_
 refine q0d (q0g rfl (dF hltk2) ?_)
 refine q0i ?_
 refine sr ?_
 refine N2 ?_
 refine AW.ret ?_
 cases hr
 exact q0a [(1,0)] 1 hS
def q6I (a0:Expr)(o0:(List Occurrence)):Option (Bool × (List Occurrence)):=
 if a0.Kind=3 then (
 grd (((o0.length:Int)+1)*24≤140737488355328∧(o0.length:Int)+1≤9223372036854775807) <|
 some (true,(o0++[(⟨a0.Pos,a0.Name⟩:Occurrence)]))
 ) else (
 some (true,o0)
 )
theorem z4x {m:Md}{a0:Expr}{o0:(List Occurrence)}{r:(Bool × (List Occurrence))}(hr:q6I a0 o0=some r):Ok Tryz.prog 95 [Expr.x m a0,.pb 0 0] [.box [.ref 1 none],.row .fz 2 (o0.map Occurrence.D)] (.d .fz (.b r.1)) [.box [.ref 2 none],.dead,.row .fz 2 (r.2.map Occurrence.D)]:=by
 refine Ok.enter rfl Tryz.func95 rfl rfl rfl fun S hS=>?_
 unfold q6I at hr
 refine sr ?_
 refine BX 2 ?_
 refine N1 ?_
 refine ssr ?_
 refine N3 ?_
 refine ifE hr (fun h1 hr=>?_) fun h1 hr=>?_
 refine q0f rfl (dT h1) ?_
 refine q0c ?_
 refine W5 ?_
 refine W1 ?_
 refine LIR 3 (m:=.fz) (f:=Occurrence.D) (xs:=[(⟨a0.Pos,a0.Name⟩:Occurrence)]) ?_
 refine ggE hr fun g1 hr=>?_
 refine APf1 (f:=Occurrence.D) 4 (fun _=>rfl) 24 g1 ?_
 refine SB ?_
 refine N0 ?_
 refine sr ?_
 refine N1 ?_
 refine AW.ret ?_
 cases hr
 exact q0a [(0,0),(1,1),(4,2)] 3 hS
 refine q0g rfl (dF h1) ?_
 refine q0b ?_
 refine sr ?_
 refine N1 ?_
 refine AW.ret ?_
 refine endA.gh (q1i (i:=1) (j:=3) rfl rfl) ?_
 cases hr
 exact q0a [(0,0),(1,1),(3,2)] 3 hS
def q4W (rec_ieveryNode_iAttributeUses_1:Expr→(List Occurrence)→Option (Bool × (List Occurrence)))(a0:Expr)(o0:(List Occurrence)):Option (Bool × (List Occurrence)):=
 (rec_ieveryNode_iAttributeUses_1 a0 o0).bind fun (y1,z1)=>
 some (!y1,z1)
theorem q9C {rec_ieveryNode_iAttributeUses_1:Expr→(List Occurrence)→Option (Bool × (List Occurrence))}(ih_ieveryNode_iAttributeUses_1:∀ {m:Md} {a0:Expr} {o0:(List Occurrence)} {r:(Bool × (List Occurrence))},rec_ieveryNode_iAttributeUses_1 a0 o0=some r→Ok Tryz.prog 89 [Expr.x m a0,.fn 95 [.pb 0 0]] [.box [.ref 1 none],.row .fz 2 (o0.map Occurrence.D)] (.d .fz (.b r.1)) [.box [.ref 2 none],.dead,.row .fz 2 (r.2.map Occurrence.D)]){m:Md}{a0:Expr}{o0:(List Occurrence)}{r:(Bool × (List Occurrence))}(hr:q4W rec_ieveryNode_iAttributeUses_1 a0 o0=some r):Ok Tryz.prog 120 [Expr.x m a0,.pb 1 0] [.box [.ref 2 none],.box [.fn 95 [.pb 0 0]],.row .fz 2 (o0.map Occurrence.D)] (.d .fz (.b r.1)) [.box [.ref 3 none],.box [.fn 95 [.pb 0 0]],.dead,.row .fz 2 (r.2.map Occurrence.D)]:=by
 refine Ok.enter rfl Tryz.func120 rfl rfl rfl fun S hS=>?_
 unfold q4W at hr
 refine sr ?_
 refine BX 3 ?_
 refine N1 ?_
 refine sr ?_
 refine W2 ?_
 refine bdE hr fun q1 hq1 hr=>?_
 obtain⟨y1,z1⟩:=q1
 refine CB [(0,0),(1,2),(2,4)] [] (ih_ieveryNode_iAttributeUses_1 (m:=m) hq1) ?_
 refine N2 ?_
 refine AW.ret ?_
 cases hr
 exact q0a [(0,0),(1,1),(2,2),(4,3)] 4 hS
def q3V (rec_ieveryNode_iAttributeUses_1:Expr→(List Occurrence)→Option (Bool × (List Occurrence))):Nat→Expr→((List Occurrence))→Option (((List Occurrence)) ⊕ (Int × (List Occurrence))):=fun k1 xk1 s1=>
 (q4W rec_ieveryNode_iAttributeUses_1 xk1 s1).bind fun (y1,z1)=>
 if y1=true then (
 some (.inr ((k1:Int),z1))
 ) else (
 some (.inl z1)
 )
def q3E (rec_ieveryNode_iAttributeUses_1:Expr→(List Occurrence)→Option (Bool × (List Occurrence)))(a0:(List Expr))(o0:(List Occurrence)):Option (Int × (List Occurrence)):=
 (findL (q3V rec_ieveryNode_iAttributeUses_1) 0 a0 o0).bind <| onr (fun r1=>some r1) fun s1=>
 some ((-1),s1)
theorem q5X {rec_ieveryNode_iAttributeUses_1:Expr→(List Occurrence)→Option (Bool × (List Occurrence))}(ih_ieveryNode_iAttributeUses_1:∀ {m:Md} {a0:Expr} {o0:(List Occurrence)} {r:(Bool × (List Occurrence))},rec_ieveryNode_iAttributeUses_1 a0 o0=some r→Ok Tryz.prog 89 [Expr.x m a0,.fn 95 [.pb 0 0]] [.box [.ref 1 none],.row .fz 2 (o0.map Occurrence.D)] (.d .fz (.b r.1)) [.box [.ref 2 none],.dead,.row .fz 2 (r.2.map Occurrence.D)]){m:Md}{a0:(List Expr)}{o0:(List Occurrence)}{r:(Int × (List Occurrence))}(hr:q3E rec_ieveryNode_iAttributeUses_1 a0 o0=some r):Ok Tryz.prog 88 [.d m (.sl 7 (a0.map Expr.D)),.fn 120 [.pb 1 0]] [.box [.ref 2 none],.box [.fn 95 [.pb 0 0]],.row .fz 2 (o0.map Occurrence.D)] (.d .fz (.i .i64 r.1)) [.box [.ref 3 none],.box [.fn 95 [.pb 0 0]],.dead,.row .fz 2 (r.2.map Occurrence.D)]:=by
 refine Ok.enter rfl Tryz.func88 rfl rfl rfl fun S hS=>?_
 unfold q3E at hr
 refine sr ?_
 refine N1 ?_
 refine ssr ?_
 refine W1 ?_
 refine LF ?_
 refine N1 ?_
 refine AW.block ?_
 refine q2A 2 3 rfl ?_
 refine AW.len (.tmp 0 rfl) fun hl1=>?_
 refine bdE hr fun q1 hqq1 hr=>?_
 refine q0k hqq1 hl1 4 (fun k1 s1=>[(0,.d m (.sl 7 (a0.map Expr.D))),(1,.fn 120 [.pb 1 0]),(7,.d .fz (.i .i64 (a0.length:Int))),(8,.d .fz (.i .i64 (k1:Int)))]) (fun k1 s1=>[(3,.row .fz 2 (s1.map Occurrence.D))]) (q0e hS 4) (fun k1 xk1 sk1 ok1 hxk1 hr hltk1 hik1=>?_) fun k1 sk1 ek1 hltk1=>?_
 obtain⟨s1,rfl⟩:∃ y,y=sk1:=⟨_,rfl⟩
 refine sr ?_
 refine N1 ?_
 refine q0d (q0f rfl (dT hltk1) ?_)
 refine q0b ?_
 refine q0d (AW.block (q0d (q0c ?_)))
 refine N2 ?_
 refine sr ?_
 refine W3 ?_
 refine IFq (Int.natCast_nonneg _) hxk1 (Expr.D_cells xk1) ?_
 refine W1 ?_
 refine bdE hr fun q2 hq2 hr=>?_
 obtain⟨y1,z1⟩:=q2
 refine CB [(0,0),(1,1),(2,3),(3,4)] [] (q9C ih_ieveryNode_iAttributeUses_1 (m:=m) hq2) ?_
 refine N0 ?_
 refine ifE hr (fun h1 hr=>?_) fun h1 hr=>?_
 refine q0f rfl h1 ?_
 refine sr ?_
 refine N2 ?_
 refine AW.ret ?_
 cases hr
 cases hik1 _ rfl
 rename_i hr
 cases hr
 exact q0a [(0,0),(1,1),(2,2),(4,3)] 4 hS
 refine q0g rfl (bF h1) ?_
 refine q0b ?_
 refine q0c ?_
 refine OB _ (q3B (p:=k1) (q:=1) (q3m hltk1 hl1)) ?_
 refine N1 ?_
 cases hr
 exact⟨_,rfl,q0l hS [(0,0),(1,1),(2,2),(4,3)] 4⟩
 subst ek1
 obtain⟨s1,rfl⟩:∃ y,y=sk1:=⟨_,rfl⟩
 refine sr ?_
 refine N1 ?_
 refine q0d (q0g rfl (dF hltk1) ?_)
 refine q0i ?_
 refine sr ?_
 refine N1 ?_
 refine AW.ret ?_
 cases hr
 exact q0a [(0,0),(1,1),(2,2),(3,3)] 4 hS
end Go.Proofs.YtibagkppfnjgcaaGreat
