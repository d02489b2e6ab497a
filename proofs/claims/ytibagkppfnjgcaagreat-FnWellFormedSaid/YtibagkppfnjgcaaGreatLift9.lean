/- What some functions of the program compute, as partial functions on plain data, and that they do; each lemma bears its conditions in its statement. -/
import Derived.Test.YtibagkppfnjgcaaGreatLift8
set_option linter.unusedVariables false
set_option linter.unusedSimpArgs false
set_option linter.ambiguousOpen false
set_option linter.unusedSectionVars false
set_option linter.unnecessarySimpa false
set_option maxRecDepth 100000
set_option maxHeartbeats 40000000
noncomputable section
namespace Go.Proofs.YtibagkppfnjgcaaGreat
open Go Go.E Go.A
def q7u:Nat→Grammar→Rule→Expr→Option Int
  | 0,_,_,_=>none
  | n+1,a0,a1,a2=>q9j (q7u n) a0 a1 a2
def q9k (a0:Grammar)(a1:Rule)(a2:Expr):Option Int:=recO fun n=>q7u n a0 a1 a2
theorem z7w (n:Nat):∀ {m:Md} {a0:Grammar} {a1:Rule} {a2:Expr} {r:Int},q7u n a0 a1 a2=some r→Ok Tryz.prog 118 [Grammar.y m a0,Rule.x m a1,Expr.x m a2] [] (.d .fz (.i .i64 r)) []:=by
  induction n with
  | zero=>intro _ _ _ _ r hr; exact nomatch (show (none:Option Int)=some r from hr)
  | succ n ih=>intro _ _ _ _ r hr; exact z7v ih hr
theorem z1M {m:Md}{a0:Grammar}{a1:Rule}{a2:Expr}{r:Int}(hr:q9k a0 a1 a2=some r):Ok Tryz.prog 118 [Grammar.y m a0,Rule.x m a1,Expr.x m a2] [] (.d .fz (.i .i64 r)) []:=by
 obtain⟨n,hn⟩:=q5a hr
 exact z7w n hn
def z5U (a0:Grammar)(a1:Rule):Nat→Equation→Unit→Option (Unit ⊕ Bool):=fun k1 xk1 _=>
 (q5D a0 a1 xk1.At).bind fun (y1,y2)=>
 (q9k a0 a1 xk1.Expr).bind fun y3=>
 if y3=y1.Type_ then (
 some (.inl ())
 ) else (
 some (.inr true)
 )
def z5V (a0:Grammar)(a1:Rule):Nat→Contribution→Unit→Option (Unit ⊕ Bool):=fun k2 xk2 _=>
 (q5d a0 xk2.Symbol).bind fun (y4,y5)=>
 (q5e y4 xk2.Name).bind fun (y6,y7)=>
 (q9k a0 a1 xk2.Target).bind fun y8=>
 (
 if y8=4 then (
 (q9k a0 a1 xk2.Value).bind fun y9=>
 some (!(decide (y9=2)))
 ) else (
 some true
 )
 ).bind fun s1=>
 (
 if s1=true then (
 some true
 ) else (
 some (!(decide (y6.Mode=3)))
 )
 ).bind fun s2=>
 if s2=true then (
 some (.inr true)
 ) else (
 some (.inl ())
 )
def z1c (a0:Grammar)(a1:Rule):Option Bool:=
 (findL (z5U a0 a1) 0 a1.Equations ()).bind <| onr (fun r1=>some r1) fun _=>
 (findL (z5V a0 a1) 0 a1.Contributions ()).bind <| onr (fun r2=>some r2) fun _=>
 some false
theorem j1d {m:Md}{a0:Grammar}{a1:Rule}{r:Bool}(hr:z1c a0 a1=some r):Ok Tryz.prog 85 [Grammar.y m a0,Rule.x m a1] [] (.d .fz (.b r)) []:=by
 refine Ok.enter rfl Tryz.func85 rfl rfl rfl fun S hS=>?_
 unfold z1c at hr
 refine sr ?_
 refine BX 0 ?_
 refine BX 1 ?_
 refine N1 ?_
 refine ssr ?_
 refine W2 ?_
 refine LF ?_
 refine N1 ?_
 refine AW.block ?_
 refine AW.len (.ag 4 (.tmp 1 rfl) rfl) fun hl1=>?_
 refine bdE hr fun q1 hqq1 hr=>?_
 refine q0k hqq1 hl1 2 (fun k1 _=>[(2,.pb 0 0),(3,.pb 1 0),(16,.d m (.sl 9 (a1.Equations.map Equation.D))),(17,.d .fz (.i .i64 (a1.Equations.length:Int))),(18,.d .fz (.i .i64 (k1:Int)))]) (fun k1 _=>[]) (GH.trans (q0m (q:=0) [.d m (.sl 2 (a0.Symbols.map Symbol.D)),.u] (.cons .rfl (.cons .u .nil)) rfl) (q0e hS 2)) (fun k1 xk1 sk1 ok1 hxk1 hr hltk1 hik1=>?_) fun k1 sk1 ek1 hltk1=>?_
 refine sr ?_
 refine N1 ?_
 refine q0d (q0f rfl (dT hltk1) ?_)
 refine q0b ?_
 refine q0d (AW.block (q0d (q0c ?_)))
 refine IF (Int.natCast_nonneg _) hxk1 ?_
 refine W1 ?_
 refine NV 2 ?_
 refine SB ?_
 refine N0 ?_
 refine sr ?_
 refine W4 ?_
 refine bdE hr fun q2 hq2 hr=>?_
 obtain⟨y1,y2⟩:=q2
 refine CB [] [] (q9h (m:=m) hq2) ?_
 refine W3 ?_
 refine NV 3 ?_
 refine SB ?_
 refine N1 ?_
 refine q0d (q0j (h:=?_))
 refine W4 ?_
 refine bdE hr fun y3 hy3 hr=>?_
 refine CB [] [] (z1M (m:=m) hy3) ?_
 refine N3 ?_
 refine ifE hr (fun h1 hr=>?_) fun h1 hr=>?_
 refine q0g rfl (nF h1) ?_
 refine q0b ?_
 refine q0c ?_
 refine OB _ (q3B (p:=k1) (q:=1) (q3m hltk1 hl1)) ?_
 refine N1 ?_
 cases hr
 exact⟨_,rfl,GH.trans (q0m (q:=0) [.d m (.sl 2 (a0.Symbols.map Symbol.D)),.u] (.cons .rfl (.cons .u .nil)) rfl) (q0e hS 2)⟩
 refine q0f rfl (nT h1) ?_
 refine sr ?_
 refine N1 ?_
 refine AW.ret ?_
 cases hr
 cases hik1 _ rfl
 rename_i hr
 cases hr
 exact q0a [] 0 hS
 subst ek1
 refine sr ?_
 refine N1 ?_
 refine q0d (q0g rfl (dF hltk1) ?_)
 refine q0i ?_
 refine ssr ?_
 refine W2 ?_
 refine LF ?_
 refine N1 ?_
 refine AW.block ?_
 refine AW.len (.tmp 40 rfl) fun hl2=>?_
 refine bdE hr fun q3 hqq3 hr=>?_
 refine q0k hqq3 hl2 2 (fun k2 _=>[(2,.pb 0 0),(3,.pb 1 0),(40,.d m (.sl 16 (a1.Contributions.map Contribution.D))),(41,.d .fz (.i .i64 (a1.Contributions.length:Int))),(42,.d .fz (.i .i64 (k2:Int)))]) (fun k2 _=>[]) (GH.trans (q0m (q:=0) [.d m (.sl 2 (a0.Symbols.map Symbol.D)),.u] (.cons .rfl (.cons .u .nil)) rfl) (q0e hS 2)) (fun k2 xk2 sk2 ok2 hxk2 hr hltk2 hik2=>?_) fun k2 sk2 ek2 hltk2=>?_
 refine sr ?_
 refine N1 ?_
 refine q0d (q0f rfl (dT hltk2) ?_)
 refine q0b ?_
 refine q0d (AW.block (q0d (q0c ?_)))
 refine IF (Int.natCast_nonneg _) hxk2 ?_
 refine W1 ?_
 refine NV 2 ?_
 refine SB ?_
 refine N0 ?_
 refine sr ?_
 refine W3 ?_
 refine bdE hr fun q4 hq4 hr=>?_
 obtain⟨y4,y5⟩:=q4
 refine CB [] [] (q7H (m:=m) hq4) ?_
 refine W3 ?_
 refine NV 3 ?_
 refine SB ?_
 refine N1 ?_
 refine sr ?_
 refine W3 ?_
 refine bdE hr fun q5 hq5 hr=>?_
 obtain⟨y6,y7⟩:=q5
 refine CB [] [] (q9J (m:=m) hq5) ?_
 refine W3 ?_
 refine NV 4 ?_
 refine SB ?_
 refine N1 ?_
 refine sr ?_
 refine W4 ?_
 refine bdE hr fun y8 hy8 hr=>?_
 refine CB [] [] (z1M (m:=m) hy8) ?_
 refine W1 ?_
 refine bdE hr fun s1 hqq6 hr=>?_
 refine q0h 8 [(2,.pb 0 0),(3,.pb 1 0),(13,.pb 4 0),(40,.d m (.sl 16 (a1.Contributions.map Contribution.D))),(41,.d .fz (.i .i64 (a1.Contributions.length:Int))),(42,.d .fz (.i .i64 (k2:Int))),(73,.d .fz (.b s1))] ?_ ?_
 replace hr:=hqq6
 refine ifE hr (fun h2 hr=>?_) fun h2 hr=>?_
 refine VF rfl (nF h2) ?_
 refine W4 ?_
 refine bdE hr fun y9 hy9 hr=>?_
 refine CB [] [] (z1M (m:=m) hy9) ?_
 refine N2 ?_
 cases hr
 exact q3n
 refine VT rfl (nT h2) ?_
 iterate 6 refine AL.off ?_
 refine N1 ?_
 cases hr
 exact q3n
 refine bdE hr fun s2 hqq7 hr=>?_
 refine q0h 5 [(2,.pb 0 0),(3,.pb 1 0),(40,.d m (.sl 16 (a1.Contributions.map Contribution.D))),(41,.d .fz (.i .i64 (a1.Contributions.length:Int))),(42,.d .fz (.i .i64 (k2:Int))),(78,.d .fz (.b s2))] ?_ ?_
 replace hr:=hqq7
 refine ifE hr (fun h3 hr=>?_) fun h3 hr=>?_
 refine VT rfl h3 ?_
 iterate 3 refine AL.off ?_
 refine N1 ?_
 cases hr
 exact q3n
 refine VF rfl (bF h3) ?_
 refine N4 ?_
 cases hr
 exact q3n
 refine N0 ?_
 refine ifE hr (fun h4 hr=>?_) fun h4 hr=>?_
 refine q0f rfl h4 ?_
 refine sr ?_
 refine N1 ?_
 refine AW.ret ?_
 cases hr
 cases hik2 _ rfl
 rename_i hr
 cases hr
 exact q0a [] 0 hS
 refine q0g rfl (bF h4) ?_
 refine q0b ?_
 refine q0c ?_
 refine OB _ (q3B (p:=k2) (q:=1) (q3m hltk2 hl2)) ?_
 refine N1 ?_
 cases hr
 exact⟨_,rfl,GH.trans (q0m (q:=0) [.d m (.sl 2 (a0.Symbols.map Symbol.D)),.u] (.cons .rfl (.cons .u .nil)) rfl) (q0e hS 2)⟩
 subst ek2
 refine sr ?_
 refine N1 ?_
 refine q0d (q0g rfl (dF hltk2) ?_)
 refine q0i ?_
 refine sr ?_
 refine N1 ?_
 refine AW.ret ?_
 cases hr
 exact q0a [] 0 hS
def z4Z (a0:ByteArray)(a2:(List Int)):Nat→Symbol→Unit→Option (Unit ⊕ Int):=fun k1 xk1 _=>
 if xk1.Name=a0 then (
 (a2[k1]?).bind fun x1=>
 some (.inr x1)
 ) else (
 some (.inl ())
 )
def z0j (a0:ByteArray)(a1:Grammar)(a2:(List Int)):Option Int:=
 (findL (z4Z a0 a2) 0 a1.Symbols ()).bind <| onr (fun r1=>some r1) fun _=>
 some 0
theorem z9I {m2:Md}{a0:ByteArray}{a1:Grammar}{a2:(List Int)}{r:Int}(hr:z0j a0 a1 a2=some r):Ok Tryz.prog 119 [.d .fz (.s a0),.pb 0 0,.pb 1 0] [.box [.d m2 (.sl 2 (a1.Symbols.map Symbol.D)),.d m2 (.sl 6 (a1.Rules.map Rule.D))],.box [.ref 2 none],.row .fz 1 (a2.map (A.D.i .i64))] (.d .fz (.i .i64 r)) [.box [.d m2 (.sl 2 (a1.Symbols.map Symbol.D)),.d m2 (.sl 6 (a1.Rules.map Rule.D))],.box [.ref 2 none],.row .fz 1 (a2.map (A.D.i .i64))]:=by
 refine Ok.enter rfl Tryz.func119 rfl rfl rfl fun S hS=>?_
 unfold z0j at hr
 refine sr ?_
 refine N1 ?_
 refine ssr ?_
 refine W2 ?_
 refine LF ?_
 refine N1 ?_
 refine AW.block ?_
 refine AW.len (.tmp 8 rfl) fun hl1=>?_
 refine bdE hr fun q1 hqq1 hr=>?_
 refine q0k hqq1 hl1 3 (fun k1 _=>[(0,.d .fz (.s a0)),(2,.pb 1 0),(8,.d m2 (.sl 2 (a1.Symbols.map Symbol.D))),(9,.d .fz (.i .i64 (a1.Symbols.length:Int))),(10,.d .fz (.i .i64 (k1:Int)))]) (fun k1 _=>[]) (q0e hS 3) (fun k1 xk1 sk1 ok1 hxk1 hr hltk1 hik1=>?_) fun k1 sk1 ek1 hltk1=>?_
 refine sr ?_
 refine N1 ?_
 refine q0d (q0f rfl (dT hltk1) ?_)
 refine q0b ?_
 refine q0d (AW.block (q0d (q0c ?_)))
 refine W1 ?_
 refine IF (Int.natCast_nonneg _) hxk1 ?_
 refine W1 ?_
 refine NV 3 ?_
 refine W1 ?_
 refine SB ?_
 refine N0 ?_
 refine sr ?_
 refine N4 ?_
 refine ifE hr (fun h1 hr=>?_) fun h1 hr=>?_
 refine q0f rfl (dT h1) ?_
 refine sr ?_
 refine W2 ?_
 refine bdE hr fun x1 hx1 hr=>?_
 refine IE hx1 (Int.natCast_nonneg _) ?_
 refine LP hx1 ?_
 refine N1 ?_
 refine AW.ret ?_
 cases hr
 cases hik1 _ rfl
 rename_i hr
 cases hr
 exact q0a [(0,0),(1,1),(2,2)] 3 hS
 refine q0g rfl (dF h1) ?_
 refine q0b ?_
 refine q0c ?_
 refine OB _ (q3B (p:=k1) (q:=1) (q3m hltk1 hl1)) ?_
 refine N1 ?_
 cases hr
 exact⟨_,rfl,q0e hS 3⟩
 subst ek1
 refine sr ?_
 refine N1 ?_
 refine q0d (q0g rfl (dF hltk1) ?_)
 refine q0i ?_
 refine sr ?_
 refine N1 ?_
 refine AW.ret ?_
 cases hr
 exact q0a [(0,0),(1,1),(2,2)] 3 hS
def z4y (a0:Grammar)(s2:List Int):Nat→ByteArray→Bool→Option Bool:=fun k4 xk4 s8=>
 (
 if s8=true then (
 (z0j xk4 a0 s2).bind fun y1=>
 some (decide (0 < y1))
 ) else (
 some false
 )
 ).bind fun s9=>
 some s9
def z2A (a0:Grammar)(s3:Int)(s2:List Int)(k2:Nat)(xk2:Symbol):Nat→Rule→((List Int))→Option ((List Int)):=fun k3 xk3 s6=>
 (
 (eachL (z4y a0 s2) 0 xk3.Right (decide (xk3.Left=xk2.Name))).bind fun s8=>
 if s8=true then (
 (s6[k2]?).bind fun x2=>
 some (List.set s6 k2 s3)
 ) else (
 some s6
 )
 ).bind fun s7=>
 some s7
def z2B (a0:Grammar)(s3:Int)(s2:List Int):Nat→Symbol→((List Int))→Option ((List Int)):=fun k2 xk2 s4=>
 (
 (s2[k2]?).bind fun x1=>
 if 0 < x1 then (
 some s4
 ) else (
 (eachL (z2A a0 s3 s2 k2 xk2) 0 a0.Rules s4).bind fun s6=>
 some s6
 )
 ).bind fun s5=>
 some s5
def q9K (a0:Grammar):(Int × (List Int))→Option ((Int × (List Int)) ⊕ ((List Int))):=fun (s3,s2)=>
 if s3≤(a0.Symbols.length:Int) then (
 grd (0≤(s2.length:Int)∧(s2.length:Int)*8≤281474976710656∧(s2.length:Int)≤9223372036854775807) <|
 grd (s2.length=(List.replicate s2.length (0:Int)).length) <|
 (eachL (z2B a0 s3 s2) 0 a0.Symbols s2).bind fun s4=>
 grd (I64 (s3+1)) <|
 some (.inl ((s3+1),s4))
 ) else (
 some (.inr s2)
 )
def z0M (a0:Grammar):Option (List Int):=
 grd (0≤(a0.Symbols.length:Int)∧(a0.Symbols.length:Int)*8≤281474976710656∧(a0.Symbols.length:Int)≤9223372036854775807) <|
 (q5m (q9K a0) (1,(List.replicate a0.Symbols.length (0:Int)))).bind fun s1=>
 some s1
theorem j2w {m:Md}{a0:Grammar}{r:(List Int)}(hr:z0M a0=some r):Ok Tryz.prog 86 [Grammar.x m a0] [] (.ref 0 none) [.row .fz 1 (r.map (A.D.i .i64))]:=by
 refine Ok.enter rfl Tryz.func86 rfl rfl rfl fun S hS=>?_
 unfold z0M at hr
 refine sr ?_
 refine BX 0 ?_
 refine N1 ?_
 refine sr ?_
 refine W2 ?_
 refine LF ?_
 refine ggE hr fun g1 hr=>?_
 refine MKR 1 (f:=(A.D.i .i64)) (0:Int) g1.1 g1.2.1 g1.2.2 ?_
 refine NV 2 ?_
 refine SB ?_
 refine N0 ?_
 refine sr ?_
 refine N2 ?_
 refine ssr ?_
 refine N1 ?_
 refine bdE hr fun s1 hqq1 hr=>?_
 refine q0n 3 [(3,.pb 2 0)] [(1,.row .fz 1 (s1.map (A.D.i .i64)))] ?_ ?_
 refine AW.block (q0q hqq1 3 (fun (s3,s2)=>[(1,.pb 0 0),(3,.pb 2 0),(4,.fn 119 [.pb 0 0,.pb 2 0]),(5,.d .fz (.i .i64 s3))]) (fun (s3,s2)=>[(1,.row .fz 1 (s2.map (A.D.i .i64)))]) (q0e hS 3) fun sk1 ok1 hr hik1=>?_)
 obtain⟨s3,s2⟩:=sk1
 have hr:=hr
 refine ssr ?_
 refine W3 ?_
 refine LF ?_
 refine N1 ?_
 refine ifE hr (fun h1 hr=>?_) fun h1 hr=>?_
 refine q0f rfl (dT h1) ?_
 refine q0b ?_
 refine q0d (AW.block (q0d (q0c ?_)))
 refine W1 ?_
 refine LE ?_
 refine ggE hr fun g2 hr=>?_
 refine MKR 3 (f:=(A.D.i .i64)) (0:Int) g2.1 g2.2.1 g2.2.2 ?_
 refine N1 ?_
 refine sr ?_
 refine W2 ?_
 refine ggE hr fun g3 hr=>?_
 refine CPYr g3 ?_
 refine N0 ?_
 refine ssr ?_
 refine W2 ?_
 refine LF ?_
 refine N1 ?_
 refine AW.block ?_
 refine AW.len (.tmp 21 rfl) fun hl2=>?_
 refine bdE hr fun s4 hqq2 hr=>?_
 refine q0o hqq2 hl2 4 (fun k2 s4=>[(1,.pb 0 0),(3,.pb 2 0),(4,.fn 119 [.pb 0 0,.pb 2 0]),(5,.d .fz (.i .i64 s3)),(6,.ref 3 none),(33,.d m (.sl 2 (a0.Symbols.map Symbol.D))),(34,.d .fz (.i .i64 (a0.Symbols.length:Int))),(35,.d .fz (.i .i64 (k2:Int)))]) (fun k2 s4=>[(3,.row .fz 1 (s4.map (A.D.i .i64)))]) (q0e hS 4) (fun k2 xk2 sk2 ok2 hxk2 hr hltk2=>?_) fun k2 hltk2=>?_
 obtain⟨s4,rfl⟩:∃ y,y=sk2:=⟨_,rfl⟩
 refine sr ?_
 refine N1 ?_
 refine q0d (q0f rfl (dT hltk2) ?_)
 refine q0b ?_
 refine bdE hr fun s5 hqq3 hr=>?_
 refine q0d (q0n 4 [(1,.pb 0 0),(3,.pb 2 0),(4,.fn 119 [.pb 0 0,.pb 2 0]),(5,.d .fz (.i .i64 s3)),(6,.ref 3 none),(33,.d m (.sl 2 (a0.Symbols.map Symbol.D))),(34,.d .fz (.i .i64 (a0.Symbols.length:Int))),(35,.d .fz (.i .i64 (k2:Int)))] [(3,.row .fz 1 (s5.map (A.D.i .i64)))] ?_ ?_)
 replace hr:=hqq3
 refine AW.block (q0d (q0c ?_))
 refine W1 ?_
 refine IF (Int.natCast_nonneg _) hxk2 ?_
 refine W1 ?_
 refine NV 4 ?_
 refine W1 ?_
 refine SB ?_
 refine N0 ?_
 refine ssr ?_
 refine W2 ?_
 refine bdE hr fun x1 hx1 hr=>?_
 refine IE hx1 (Int.natCast_nonneg _) ?_
 refine LP hx1 ?_
 refine N1 ?_
 refine ifE hr (fun h2 hr=>?_) fun h2 hr=>?_
 refine q0f rfl (dT h2) ?_
 refine q0i ?_
 cases hr
 exact q0e hS 4
 refine q0g rfl (dF h2) ?_
 refine q0b ?_
 refine sr ?_
 refine W2 ?_
 refine LF ?_
 refine N1 ?_
 refine AW.block ?_
 refine AW.len (.tmp 46 rfl) fun hl3=>?_
 refine bdE hr fun s6 hqq4 hr=>?_
 refine q0o hqq4 hl3 5 (fun k3 s6=>[(1,.pb 0 0),(3,.pb 2 0),(4,.fn 119 [.pb 0 0,.pb 2 0]),(5,.d .fz (.i .i64 s3)),(6,.ref 3 none),(7,.d .fz (.i .i64 (k2:Int))),(8,.pb 4 0),(33,.d m (.sl 2 (a0.Symbols.map Symbol.D))),(34,.d .fz (.i .i64 (a0.Symbols.length:Int))),(35,.d .fz (.i .i64 (k2:Int))),(46,.d m (.sl 6 (a0.Rules.map Rule.D))),(47,.d .fz (.i .i64 (a0.Rules.length:Int))),(48,.d .fz (.i .i64 (k3:Int)))]) (fun k3 s6=>[(3,.row .fz 1 (s6.map (A.D.i .i64)))]) (q0e hS 5) (fun k3 xk3 sk3 ok3 hxk3 hr hltk3=>?_) fun k3 hltk3=>?_
 obtain⟨s6,rfl⟩:∃ y,y=sk3:=⟨_,rfl⟩
 refine sr ?_
 refine N1 ?_
 refine q0d (q0f rfl (dT hltk3) ?_)
 refine q0b ?_
 refine bdE hr fun s7 hqq5 hr=>?_
 refine q0d (q0n 5 [(1,.pb 0 0),(3,.pb 2 0),(4,.fn 119 [.pb 0 0,.pb 2 0]),(5,.d .fz (.i .i64 s3)),(6,.ref 3 none),(7,.d .fz (.i .i64 (k2:Int))),(8,.pb 4 0),(33,.d m (.sl 2 (a0.Symbols.map Symbol.D))),(34,.d .fz (.i .i64 (a0.Symbols.length:Int))),(35,.d .fz (.i .i64 (k2:Int))),(46,.d m (.sl 6 (a0.Rules.map Rule.D))),(47,.d .fz (.i .i64 (a0.Rules.length:Int))),(48,.d .fz (.i .i64 (k3:Int)))] [(3,.row .fz 1 (s7.map (A.D.i .i64)))] ?_ ?_)
 replace hr:=hqq5
 refine AW.block (q0d (q0c ?_))
 refine IF (Int.natCast_nonneg _) hxk3 ?_
 refine W1 ?_
 refine NV 5 ?_
 refine SB ?_
 refine N0 ?_
 refine sr ?_
 refine W5 ?_
 refine N1 ?_
 refine ssr ?_
 refine W2 ?_
 refine LF ?_
 refine N1 ?_
 refine AW.block ?_
 refine AW.len (.ag 2 (.tmp 51 rfl) rfl) fun hl4=>?_
 refine bdE hr fun s8 hqq6 hr=>?_
 refine q0o hqq6 hl4 6 (fun k4 s8=>[(1,.pb 0 0),(3,.pb 2 0),(4,.fn 119 [.pb 0 0,.pb 2 0]),(5,.d .fz (.i .i64 s3)),(6,.ref 3 none),(7,.d .fz (.i .i64 (k2:Int))),(8,.pb 4 0),(11,.d .fz (.b s8)),(33,.d m (.sl 2 (a0.Symbols.map Symbol.D))),(34,.d .fz (.i .i64 (a0.Symbols.length:Int))),(35,.d .fz (.i .i64 (k2:Int))),(46,.d m (.sl 6 (a0.Rules.map Rule.D))),(47,.d .fz (.i .i64 (a0.Rules.length:Int))),(48,.d .fz (.i .i64 (k3:Int))),(58,.d m (.sl 1 (xk3.Right.map A.D.s))),(59,.d .fz (.i .i64 (xk3.Right.length:Int))),(60,.d .fz (.i .i64 (k4:Int)))]) (fun k4 s8=>[]) (q0e hS 6) (fun k4 xk4 sk4 ok4 hxk4 hr hltk4=>?_) fun k4 hltk4=>?_
 obtain⟨s8,rfl⟩:∃ y,y=sk4:=⟨_,rfl⟩
 refine sr ?_
 refine N1 ?_
 refine q0d (q0f rfl (dT hltk4) ?_)
 refine q0b ?_
 refine bdE hr fun s9 hqq7 hr=>?_
 refine q0d (q0n 6 [(1,.pb 0 0),(3,.pb 2 0),(4,.fn 119 [.pb 0 0,.pb 2 0]),(5,.d .fz (.i .i64 s3)),(6,.ref 3 none),(7,.d .fz (.i .i64 (k2:Int))),(8,.pb 4 0),(11,.d .fz (.b s9)),(33,.d m (.sl 2 (a0.Symbols.map Symbol.D))),(34,.d .fz (.i .i64 (a0.Symbols.length:Int))),(35,.d .fz (.i .i64 (k2:Int))),(46,.d m (.sl 6 (a0.Rules.map Rule.D))),(47,.d .fz (.i .i64 (a0.Rules.length:Int))),(48,.d .fz (.i .i64 (k3:Int))),(58,.d m (.sl 1 (xk3.Right.map A.D.s))),(59,.d .fz (.i .i64 (xk3.Right.length:Int))),(60,.d .fz (.i .i64 (k4:Int)))] [] ?_ ?_)
 replace hr:=hqq7
 refine AW.block (q0d (q0c ?_))
 refine IF (Int.natCast_nonneg _) hxk4 ?_
 refine N2 ?_
 refine q0c ?_
 refine W1 ?_
 refine ifE hr (fun h3 hr=>?_) fun h3 hr=>?_
 refine VT rfl h3 ?_
 refine W2 ?_
 refine bdE hr fun y1 hy1 hr=>?_
 refine CB [(0,0),(1,2),(2,1)] [] (z9I (m2:=m) hy1) ?_
 refine N3 ?_
 cases hr
 exact q0e hS 6
 refine VF rfl (bF h3) ?_
 iterate 4 refine AL.off ?_
 refine N2 ?_
 cases hr
 exact q0e hS 6
 refine q0c ?_
 refine OB _ (q3B (p:=k4) (q:=1) (q3m hltk4 hl4)) ?_
 refine N1 ?_
 cases hr
 exact q0e hS 6
 refine sr ?_
 refine N1 ?_
 refine q0d (q0g rfl (dF hltk4) ?_)
 refine q0i ?_
 refine sr ?_
 refine N1 ?_
 refine ifE hr (fun h4 hr=>?_) fun h4 hr=>?_
 refine q0f rfl h4 ?_
 refine q0c ?_
 refine W3 ?_
 refine bdE hr fun x2 hx2 hr=>?_
 refine IE hx2 (Int.natCast_nonneg _) ?_
 refine SE s3 hx2 ?_
 refine N0 ?_
 cases hr
 exact q0e hS 5
 refine q0g rfl (bF h4) ?_
 refine q0b ?_
 cases hr
 exact q0e hS 5
 refine q0c ?_
 refine OB _ (q3B (p:=k3) (q:=1) (q3m hltk3 hl3)) ?_
 refine N1 ?_
 cases hr
 exact q0e hS 5
 refine sr ?_
 refine N1 ?_
 refine q0d (q0g rfl (dF hltk3) ?_)
 refine q0i ?_
 cases hr
 exact q0e hS 4
 refine q0c ?_
 refine OB _ (q3B (p:=k2) (q:=1) (q3m hltk2 hl2)) ?_
 refine N1 ?_
 cases hr
 exact q0e hS 4
 refine sr ?_
 refine N1 ?_
 refine q0d (q0g rfl (dF hltk2) ?_)
 refine q0i ?_
 refine q0c ?_
 refine W1 ?_
 refine SB ?_
 refine N0 ?_
 refine q0c ?_
 refine W1 ?_
 refine ggE hr fun g4 hr=>?_
 refine OB _ (bAdd g4) ?_
 refine N1 ?_
 cases hr
 exact⟨_,rfl,q0l hS [(0,0),(3,1),(2,2)] 3⟩
 refine q0g rfl (dF h1) ?_
 refine q0i ?_
 cases hr
 cases hik1 _ rfl
 exact q0e hS 3
 refine sr ?_
 refine N2 ?_
 refine AW.ret ?_
 cases hr
 exact q0a [(1,0)] 1 hS
def z2L (a0:Grammar):Nat→Rule→Unit→Option (Unit ⊕ (Int × Int)):=fun k1 xk1 _=>
 (z1c a0 xk1).bind fun y3=>
 if y3=true then (
 some (.inr (7,(k1:Int)))
 ) else (
 some (.inl ())
 )
def z2M:Nat→Int→Unit→Option (Unit ⊕ (Int × Int)):=fun k2 xk2 _=>
 if xk2=0 then (
 some (.inr (8,(k2:Int)))
 ) else (
 some (.inl ())
 )
def q7Z (a0:Grammar):Option (Int × Int):=
 (q9i a0).bind fun (y1,y2)=>
 if y1=0 then (
 (findL (z2L a0) 0 a0.Rules ()).bind <| onr (fun r1=>some r1) fun _=>
 (z0M a0).bind fun y4=>
 (findL z2M 0 y4 ()).bind <| onr (fun r2=>some r2) fun _=>
 some (0,0)
 ) else (
 some (y1,y2)
 )
theorem z6m {m:Md}{a0:Grammar}{r:(Int × Int)}(hr:q7Z a0=some r):Ok Tryz.prog 45 [Grammar.x m a0] [] (.tu [.d .fz (.i .i64 r.1),.d .fz (.i .i64 r.2)]) []:=by
 refine Ok.enter rfl Tryz.func45 rfl rfl rfl fun S hS=>?_
 unfold q7Z at hr
 refine sr ?_
 refine BX 0 ?_
 refine N2 ?_
 refine ssr ?_
 refine W1 ?_
 refine bdE hr fun q1 hq1 hr=>?_
 obtain⟨y1,y2⟩:=q1
 refine CB [] [] (z8p (m:=m) hq1) ?_
 refine N5 ?_
 refine sr ?_
 refine N2 ?_
 refine ifE hr (fun h1 hr=>?_) fun h1 hr=>?_
 refine q0g rfl (nF h1) ?_
 refine q0b ?_
 refine ssr ?_
 refine W2 ?_
 refine LF ?_
 refine N1 ?_
 refine AW.block ?_
 refine AW.len (.ag 1 (.tmp 0 rfl) rfl) fun hl1=>?_
 refine bdE hr fun q2 hqq2 hr=>?_
 refine q0k hqq2 hl1 1 (fun k1 _=>[(1,.pb 0 0),(20,.d m (.sl 6 (a0.Rules.map Rule.D))),(21,.d .fz (.i .i64 (a0.Rules.length:Int))),(22,.d .fz (.i .i64 (k1:Int)))]) (fun k1 _=>[]) (q0e hS 1) (fun k1 xk1 sk1 ok1 hxk1 hr hltk1 hik1=>?_) fun k1 sk1 ek1 hltk1=>?_
 refine sr ?_
 refine N1 ?_
 refine q0d (q0f rfl (dT hltk1) ?_)
 refine q0b ?_
 refine q0d (AW.block (q0d (q0c ?_)))
 refine W1 ?_
 refine IF (Int.natCast_nonneg _) hxk1 ?_
 refine W1 ?_
 refine NV 1 ?_
 refine W1 ?_
 refine SB ?_
 refine N0 ?_
 refine sr ?_
 refine W2 ?_
 refine bdE hr fun y3 hy3 hr=>?_
 refine CB [] [] (j1d (m:=m) hy3) ?_
 refine N0 ?_
 refine ifE hr (fun h2 hr=>?_) fun h2 hr=>?_
 refine q0f rfl h2 ?_
 refine sr ?_
 refine N3 ?_
 refine AW.ret ?_
 cases hr
 cases hik1 _ rfl
 rename_i hr
 cases hr
 exact q0a [] 0 hS
 refine q0g rfl (bF h2) ?_
 refine q0b ?_
 refine q0c ?_
 refine OB _ (q3B (p:=k1) (q:=1) (q3m hltk1 hl1)) ?_
 refine N1 ?_
 cases hr
 exact⟨_,rfl,q0e hS 1⟩
 subst ek1
 refine sr ?_
 refine N1 ?_
 refine q0d (q0g rfl (dF hltk1) ?_)
 refine q0i ?_
 refine ssr ?_
 refine W1 ?_
 refine bdE hr fun y4 hy4 hr=>?_
 refine CB [(0,1)] [] (j2w (m:=m) hy4) ?_
 refine LE ?_
 refine N1 ?_
 refine AW.block ?_
 refine q0r 1 rfl fun hl2=>?_
 refine bdE hr fun q3 hqq3 hr=>?_
 refine q0k hqq3 hl2 2 (fun k2 _=>[(33,.ref 1 none),(34,.d .fz (.i .i64 (y4.length:Int))),(35,.d .fz (.i .i64 (k2:Int)))]) (fun k2 _=>[]) (q0e hS 2) (fun k2 xk2 sk2 ok2 hxk2 hr hltk2 hik2=>?_) fun k2 sk2 ek2 hltk2=>?_
 refine sr ?_
 refine N1 ?_
 refine q0d (q0f rfl (dT hltk2) ?_)
 refine q0b ?_
 refine q0d (AW.block (q0d (q0c ?_)))
 refine W1 ?_
 refine IE hxk2 (Int.natCast_nonneg _) ?_
 refine LP hxk2 ?_
 refine N2 ?_
 refine sr ?_
 refine N2 ?_
 refine ifE hr (fun h3 hr=>?_) fun h3 hr=>?_
 refine q0f rfl (dT h3) ?_
 refine sr ?_
 refine N3 ?_
 refine AW.ret ?_
 cases hr
 cases hik2 _ rfl
 rename_i hr
 cases hr
 exact q0a [] 0 hS
 refine q0g rfl (dF h3) ?_
 refine q0b ?_
 refine q0c ?_
 refine OB _ (q3B (p:=k2) (q:=1) (q3m hltk2 hl2)) ?_
 refine N1 ?_
 cases hr
 exact⟨_,rfl,q0e hS 2⟩
 subst ek2
 refine sr ?_
 refine N1 ?_
 refine q0d (q0g rfl (dF hltk2) ?_)
 refine q0i ?_
 refine sr ?_
 refine N2 ?_
 refine AW.ret ?_
 cases hr
 exact q0a [] 0 hS
 refine q0f rfl (nT h1) ?_
 refine sr ?_
 refine N4 ?_
 refine AW.ret ?_
 cases hr
 exact q0a [] 0 hS
def z1d (a0:Grammar):Option Bool:=
 (q7Z a0).bind fun (y1,y2)=>
 some (decide (y1=0))
theorem j1e {m:Md}{a0:Grammar}{r:Bool}(hr:z1d a0=some r):Ok Tryz.prog 18 [Grammar.x m a0] [] (.d .fz (.b r)) []:=by
 refine Ok.enter rfl Tryz.func18 rfl rfl rfl fun S hS=>?_
 unfold z1d at hr
 refine sr ?_
 refine BX 0 ?_
 refine N1 ?_
 refine sr ?_
 refine W1 ?_
 refine bdE hr fun q1 hq1 hr=>?_
 obtain⟨y1,y2⟩:=q1
 refine CB [] [] (z6m (m:=m) hq1) ?_
 refine N5 ?_
 refine sr ?_
 refine N3 ?_
 refine AW.ret ?_
 cases hr
 exact q0a [] 0 hS
def q9W (a0:Expr):Option Bool:=
 some (!(decide (a0.Kind=8)))
theorem z7x {m:Md}{a0:Expr}{r:Bool}(hr:q9W a0=some r):Ok Tryz.prog 90 [Expr.x m a0] [] (.d .fz (.b r)) []:=by
 refine Ok.enter rfl Tryz.func90 rfl rfl rfl fun S hS=>?_
 unfold q9W at hr
 refine sr ?_
 refine BX 0 ?_
 refine N1 ?_
 refine sr ?_
 refine N4 ?_
 refine AW.ret ?_
 cases hr
 exact q0a [] 0 hS
def q5s (rec_ieveryNode_iHasRemote_1:Expr→Option Bool)(a0:Expr):Option Bool:=
 (rec_ieveryNode_iHasRemote_1 a0).bind fun y1=>
 some (!y1)
theorem z0E {rec_ieveryNode_iHasRemote_1:Expr→Option Bool}(ih_ieveryNode_iHasRemote_1:∀ {m:Md} {a0:Expr} {r:Bool},rec_ieveryNode_iHasRemote_1 a0=some r→Ok Tryz.prog 89 [Expr.x m a0,.fn 90 []] [] (.d .fz (.b r)) []){m:Md}{a0:Expr}{r:Bool}(hr:q5s rec_ieveryNode_iHasRemote_1 a0=some r):Ok Tryz.prog 120 [Expr.x m a0,.pb 0 0] [.box [.fn 90 []]] (.d .fz (.b r)) [.box [.fn 90 []]]:=by
 refine Ok.enter rfl Tryz.func120 rfl rfl rfl fun S hS=>?_
 unfold q5s at hr
 refine sr ?_
 refine BX 1 ?_
 refine N1 ?_
 refine sr ?_
 refine W2 ?_
 refine bdE hr fun y1 hy1 hr=>?_
 refine CB [] [] (ih_ieveryNode_iHasRemote_1 (m:=m) hy1) ?_
 refine N2 ?_
 refine AW.ret ?_
 cases hr
 exact q0a [(0,0)] 1 hS
def q4T (rec_ieveryNode_iHasRemote_1:Expr→Option Bool):Nat→Expr→Unit→Option (Unit ⊕ Int):=fun k1 xk1 _=>
 (q5s rec_ieveryNode_iHasRemote_1 xk1).bind fun y1=>
 if y1=true then (
 some (.inr (k1:Int))
 ) else (
 some (.inl ())
 )
def q3I (rec_ieveryNode_iHasRemote_1:Expr→Option Bool)(a0:(List Expr)):Option Int:=
 (findL (q4T rec_ieveryNode_iHasRemote_1) 0 a0 ()).bind <| onr (fun r1=>some r1) fun _=>
 some (-1)
theorem q6z {rec_ieveryNode_iHasRemote_1:Expr→Option Bool}(ih_ieveryNode_iHasRemote_1:∀ {m:Md} {a0:Expr} {r:Bool},rec_ieveryNode_iHasRemote_1 a0=some r→Ok Tryz.prog 89 [Expr.x m a0,.fn 90 []] [] (.d .fz (.b r)) []){m:Md}{a0:(List Expr)}{r:Int}(hr:q3I rec_ieveryNode_iHasRemote_1 a0=some r):Ok Tryz.prog 88 [.d m (.sl 7 (a0.map Expr.D)),.fn 120 [.pb 0 0]] [.box [.fn 90 []]] (.d .fz (.i .i64 r)) [.box [.fn 90 []]]:=by
 refine Ok.enter rfl Tryz.func88 rfl rfl rfl fun S hS=>?_
 unfold q3I at hr
 refine sr ?_
 refine N1 ?_
 refine ssr ?_
 refine W1 ?_
 refine LF ?_
 refine N1 ?_
 refine AW.block ?_
 refine AW.len (.tmp 0 rfl) fun hl1=>?_
 refine bdE hr fun q1 hqq1 hr=>?_
 refine q0k hqq1 hl1 1 (fun k1 _=>[(0,.d m (.sl 7 (a0.map Expr.D))),(1,.fn 120 [.pb 0 0]),(7,.d .fz (.i .i64 (a0.length:Int))),(8,.d .fz (.i .i64 (k1:Int)))]) (fun k1 _=>[]) (q0e hS 1) (fun k1 xk1 sk1 ok1 hxk1 hr hltk1 hik1=>?_) fun k1 sk1 ek1 hltk1=>?_
 refine sr ?_
 refine N1 ?_
 refine q0d (q0f rfl (dT hltk1) ?_)
 refine q0b ?_
 refine q0d (AW.block (q0d (q0c ?_)))
 refine N2 ?_
 refine sr ?_
 refine W3 ?_
 refine IFq (Int.natCast_nonneg _) hxk1 (Expr.D_cells xk1) ?_
 refine W1 ?_
 refine bdE hr fun y1 hy1 hr=>?_
 refine CB [(0,0)] [] (z0E ih_ieveryNode_iHasRemote_1 (m:=m) hy1) ?_
 refine N0 ?_
 refine ifE hr (fun h1 hr=>?_) fun h1 hr=>?_
 refine q0f rfl h1 ?_
 refine sr ?_
 refine N2 ?_
 refine AW.ret ?_
 cases hr
 cases hik1 _ rfl
 rename_i hr
 cases hr
 exact q0a [(0,0)] 1 hS
 refine q0g rfl (bF h1) ?_
 refine q0b ?_
 refine q0c ?_
 refine OB _ (q3B (p:=k1) (q:=1) (q3m hltk1 hl1)) ?_
 refine N1 ?_
 cases hr
 exact⟨_,rfl,q0e hS 1⟩
 subst ek1
 refine sr ?_
 refine N1 ?_
 refine q0d (q0g rfl (dF hltk1) ?_)
 refine q0i ?_
 refine sr ?_
 refine N1 ?_
 refine AW.ret ?_
 cases hr
 exact q0a [(0,0)] 1 hS
def q3F (rec_ieveryNode_iHasRemote_1:Expr→Option Bool)(a0:(List Expr)):Option Bool:=
 (q3I rec_ieveryNode_iHasRemote_1 a0).bind fun y1=>
 some (decide (0≤y1))
theorem q6e {rec_ieveryNode_iHasRemote_1:Expr→Option Bool}(ih_ieveryNode_iHasRemote_1:∀ {m:Md} {a0:Expr} {r:Bool},rec_ieveryNode_iHasRemote_1 a0=some r→Ok Tryz.prog 89 [Expr.x m a0,.fn 90 []] [] (.d .fz (.b r)) []){m:Md}{a0:(List Expr)}{r:Bool}(hr:q3F rec_ieveryNode_iHasRemote_1 a0=some r):Ok Tryz.prog 48 [.d m (.sl 7 (a0.map Expr.D)),.fn 120 [.pb 0 0]] [.box [.fn 90 []]] (.d .fz (.b r)) [.box [.fn 90 []]]:=by
 refine Ok.enter rfl Tryz.func48 rfl rfl rfl fun S hS=>?_
 unfold q3F at hr
 refine sr ?_
 refine N1 ?_
 refine sr ?_
 refine W2 ?_
 refine bdE hr fun y1 hy1 hr=>?_
 refine CB [(0,0)] [] (q6z ih_ieveryNode_iHasRemote_1 (m:=m) hy1) ?_
 refine N2 ?_
 refine AW.ret ?_
 cases hr
 exact q0a [(0,0)] 1 hS
def q5b (rec_ieveryNode_iHasRemote_1:Expr→Option Bool)(a0:Expr):Option Bool:=
 (q9W a0).bind fun y1=>
 if y1=true then (
 (q3F rec_ieveryNode_iHasRemote_1 a0.Args).bind fun y2=>
 some (!y2)
 ) else (
 some false
 )
theorem z1e {rec_ieveryNode_iHasRemote_1:Expr→Option Bool}(ih_ieveryNode_iHasRemote_1:∀ {m:Md} {a0:Expr} {r:Bool},rec_ieveryNode_iHasRemote_1 a0=some r→Ok Tryz.prog 89 [Expr.x m a0,.fn 90 []] [] (.d .fz (.b r)) []){m:Md}{a0:Expr}{r:Bool}(hr:q5b rec_ieveryNode_iHasRemote_1 a0=some r):Ok Tryz.prog 89 [Expr.x m a0,.fn 90 []] [] (.d .fz (.b r)) []:=by
 refine Ok.enter rfl Tryz.func89 rfl rfl rfl fun S hS=>?_
 unfold q5b at hr
 refine sr ?_
 refine BX 0 ?_
 refine BX 1 ?_
 refine N1 ?_
 refine sr ?_
 refine W2 ?_
 refine bdE hr fun y1 hy1 hr=>?_
 refine CB [] [] (z7x (m:=m) hy1) ?_
 refine ifE hr (fun h1 hr=>?_) fun h1 hr=>?_
 refine VT rfl h1 ?_
 refine W3 ?_
 refine bdE hr fun y2 hy2 hr=>?_
 refine CB [(0,1)] [] (q6e ih_ieveryNode_iHasRemote_1 (m:=m) hy2) ?_
 refine N3 ?_
 refine AW.ret ?_
 cases hr
 exact q0a [] 0 hS
 refine VF rfl (bF h1) ?_
 iterate 5 refine AL.off ?_
 refine N2 ?_
 refine AW.ret ?_
 cases hr
 exact q0a [] 0 hS
def q5c:Nat→Expr→Option Bool
  | 0,_=>none
  | n+1,a0=>q5b (q5c n) a0
def q6N (a0:Expr):Option Bool:=recO fun n=>q5c n a0
theorem z1f (n:Nat):∀ {m:Md} {a0:Expr} {r:Bool},q5c n a0=some r→Ok Tryz.prog 89 [Expr.x m a0,.fn 90 []] [] (.d .fz (.b r)) []:=by
  induction n with
  | zero=>intro _ _ r hr; exact nomatch (show (none:Option Bool)=some r from hr)
  | succ n ih=>intro _ _ r hr; exact z1e ih hr
theorem z1s {m:Md}{a0:Expr}{r:Bool}(hr:q6N a0=some r):Ok Tryz.prog 89 [Expr.x m a0,.fn 90 []] [] (.d .fz (.b r)) []:=by
 obtain⟨n,hn⟩:=q5a hr
 exact z1f n hn
def z0k (a0:Expr):Option Bool:=
 (q6N a0).bind fun y1=>
 some (!y1)
theorem z9J {m:Md}{a0:Expr}{r:Bool}(hr:z0k a0=some r):Ok Tryz.prog 50 [Expr.x m a0] [] (.d .fz (.b r)) []:=by
 refine Ok.enter rfl Tryz.func50 rfl rfl rfl fun S hS=>?_
 unfold z0k at hr
 refine sr ?_
 refine BX 0 ?_
 refine N1 ?_
 refine sr ?_
 refine W1 ?_
 refine bdE hr fun y1 hy1 hr=>?_
 refine CB [] [] (z1s (m:=m) hy1) ?_
 refine N2 ?_
 refine AW.ret ?_
 cases hr
 exact q0a [] 0 hS
def q6u:Nat→Expr→Unit→Option (Unit ⊕ Int):=fun k1 xk1 _=>
 (z0k xk1).bind fun y1=>
 if y1=true then (
 some (.inr (k1:Int))
 ) else (
 some (.inl ())
 )
def q4G (a0:(List Expr)):Option Int:=
 (findL q6u 0 a0 ()).bind <| onr (fun r1=>some r1) fun _=>
 some (-1)
theorem q8N {m:Md}{a0:(List Expr)}{r:Int}(hr:q4G a0=some r):Ok Tryz.prog 88 [.d m (.sl 7 (a0.map Expr.D)),.fn 50 []] [] (.d .fz (.i .i64 r)) []:=by
 refine Ok.enter rfl Tryz.func88 rfl rfl rfl fun S hS=>?_
 unfold q4G at hr
 refine sr ?_
 refine N1 ?_
 refine ssr ?_
 refine W1 ?_
 refine LF ?_
 refine N1 ?_
 refine AW.block ?_
 refine AW.len (.tmp 0 rfl) fun hl1=>?_
 refine bdE hr fun q1 hqq1 hr=>?_
 refine q0k hqq1 hl1 0 (fun k1 _=>[(0,.d m (.sl 7 (a0.map Expr.D))),(1,.fn 50 []),(7,.d .fz (.i .i64 (a0.length:Int))),(8,.d .fz (.i .i64 (k1:Int)))]) (fun k1 _=>[]) (q0e hS 0) (fun k1 xk1 sk1 ok1 hxk1 hr hltk1 hik1=>?_) fun k1 sk1 ek1 hltk1=>?_
 refine sr ?_
 refine N1 ?_
 refine q0d (q0f rfl (dT hltk1) ?_)
 refine q0b ?_
 refine q0d (AW.block (q0d (q0c ?_)))
 refine N2 ?_
 refine sr ?_
 refine W3 ?_
 refine IFq (Int.natCast_nonneg _) hxk1 (Expr.D_cells xk1) ?_
 refine W1 ?_
 refine bdE hr fun y1 hy1 hr=>?_
 refine CB [] [] (z9J (m:=m) hy1) ?_
 refine N0 ?_
 refine ifE hr (fun h1 hr=>?_) fun h1 hr=>?_
 refine q0f rfl h1 ?_
 refine sr ?_
 refine N2 ?_
 refine AW.ret ?_
 cases hr
 cases hik1 _ rfl
 rename_i hr
 cases hr
 exact q0a [] 0 hS
 refine q0g rfl (bF h1) ?_
 refine q0b ?_
 refine q0c ?_
 refine OB _ (q3B (p:=k1) (q:=1) (q3m hltk1 hl1)) ?_
 refine N1 ?_
 cases hr
 exact⟨_,rfl,q0e hS 0⟩
 subst ek1
 refine sr ?_
 refine N1 ?_
 refine q0d (q0g rfl (dF hltk1) ?_)
 refine q0i ?_
 refine sr ?_
 refine N1 ?_
 refine AW.ret ?_
 cases hr
 exact q0a [] 0 hS
def q4x (a0:(List Expr)):Option Bool:=
 (q4G a0).bind fun y1=>
 some (decide (0≤y1))
theorem q8h {m:Md}{a0:(List Expr)}{r:Bool}(hr:q4x a0=some r):Ok Tryz.prog 48 [.d m (.sl 7 (a0.map Expr.D)),.fn 50 []] [] (.d .fz (.b r)) []:=by
 refine Ok.enter rfl Tryz.func48 rfl rfl rfl fun S hS=>?_
 unfold q4x at hr
 refine sr ?_
 refine N1 ?_
 refine sr ?_
 refine W2 ?_
 refine bdE hr fun y1 hy1 hr=>?_
 refine CB [] [] (q8N (m:=m) hy1) ?_
 refine N2 ?_
 refine AW.ret ?_
 cases hr
 exact q0a [] 0 hS
def q9X (a0:Rule):Option Bool:=
 (q7I a0).bind fun y1=>
 (q4x y1).bind fun y2=>
 some y2
theorem z7y {m:Md}{a0:Rule}{r:Bool}(hr:q9X a0=some r):Ok Tryz.prog 47 [Rule.x m a0] [] (.d .fz (.b r)) []:=by
 refine Ok.enter rfl Tryz.func47 rfl rfl rfl fun S hS=>?_
 unfold q9X at hr
 refine sr ?_
 refine BX 0 ?_
 refine N1 ?_
 refine sr ?_
 refine W1 ?_
 refine bdE hr fun y1 hy1 hr=>?_
 refine CB [(0,1)] [] (z3w (m:=m) hy1) ?_
 refine bdE hr fun y2 hy2 hr=>?_
 refine CB [] [1] (q8h (m:=.bo) hy2) ?_
 refine N1 ?_
 refine AW.ret ?_
 cases hr
 exact q0a [] 0 hS
def q5Y:Nat→Rule→Unit→Option (Unit ⊕ Int):=fun k1 xk1 _=>
 (q9X xk1).bind fun y1=>
 if y1=true then (
 some (.inr (k1:Int))
 ) else (
 some (.inl ())
 )
def q4B (a0:(List Rule)):Option Int:=
 (findL q5Y 0 a0 ()).bind <| onr (fun r1=>some r1) fun _=>
 some (-1)
theorem q8r {m:Md}{a0:(List Rule)}{r:Int}(hr:q4B a0=some r):Ok Tryz.prog 87 [.d m (.sl 6 (a0.map Rule.D)),.fn 47 []] [] (.d .fz (.i .i64 r)) []:=by
 refine Ok.enter rfl Tryz.func87 rfl rfl rfl fun S hS=>?_
 unfold q4B at hr
 refine sr ?_
 refine N1 ?_
 refine ssr ?_
 refine W1 ?_
 refine LF ?_
 refine N1 ?_
 refine AW.block ?_
 refine AW.len (.tmp 0 rfl) fun hl1=>?_
 refine bdE hr fun q1 hqq1 hr=>?_
 refine q0k hqq1 hl1 0 (fun k1 _=>[(0,.d m (.sl 6 (a0.map Rule.D))),(1,.fn 47 []),(7,.d .fz (.i .i64 (a0.length:Int))),(8,.d .fz (.i .i64 (k1:Int)))]) (fun k1 _=>[]) (q0e hS 0) (fun k1 xk1 sk1 ok1 hxk1 hr hltk1 hik1=>?_) fun k1 sk1 ek1 hltk1=>?_
 refine sr ?_
 refine N1 ?_
 refine q0d (q0f rfl (dT hltk1) ?_)
 refine q0b ?_
 refine q0d (AW.block (q0d (q0c ?_)))
 refine N2 ?_
 refine sr ?_
 refine W3 ?_
 refine IF (Int.natCast_nonneg _) hxk1 ?_
 refine W1 ?_
 refine bdE hr fun y1 hy1 hr=>?_
 refine CB [] [] (z7y (m:=m) hy1) ?_
 refine N0 ?_
 refine ifE hr (fun h1 hr=>?_) fun h1 hr=>?_
 refine q0f rfl h1 ?_
 refine sr ?_
 refine N2 ?_
 refine AW.ret ?_
 cases hr
 cases hik1 _ rfl
 rename_i hr
 cases hr
 exact q0a [] 0 hS
 refine q0g rfl (bF h1) ?_
 refine q0b ?_
 refine q0c ?_
 refine OB _ (q3B (p:=k1) (q:=1) (q3m hltk1 hl1)) ?_
 refine N1 ?_
 cases hr
 exact⟨_,rfl,q0e hS 0⟩
 subst ek1
 refine sr ?_
 refine N1 ?_
 refine q0d (q0g rfl (dF hltk1) ?_)
 refine q0i ?_
 refine sr ?_
 refine N1 ?_
 refine AW.ret ?_
 cases hr
 exact q0a [] 0 hS
def q4r (a0:(List Rule)):Option Bool:=
 (q4B a0).bind fun y1=>
 some (decide (0≤y1))
theorem q7S {m:Md}{a0:(List Rule)}{r:Bool}(hr:q4r a0=some r):Ok Tryz.prog 46 [.d m (.sl 6 (a0.map Rule.D)),.fn 47 []] [] (.d .fz (.b r)) []:=by
 refine Ok.enter rfl Tryz.func46 rfl rfl rfl fun S hS=>?_
 unfold q4r at hr
 refine sr ?_
 refine N1 ?_
 refine sr ?_
 refine W2 ?_
 refine bdE hr fun y1 hy1 hr=>?_
 refine CB [] [] (q8r (m:=m) hy1) ?_
 refine N2 ?_
 refine AW.ret ?_
 cases hr
 exact q0a [] 0 hS
def z0l (a0:Grammar):Option Bool:=
 (q4r a0.Rules).bind fun y1=>
 some y1
theorem z9K {m:Md}{a0:Grammar}{r:Bool}(hr:z0l a0=some r):Ok Tryz.prog 19 [.ag [.u,.d m (.sl 6 (a0.Rules.map Rule.D))]] [] (.d .fz (.b r)) []:=by
 refine Ok.enter rfl Tryz.func19 rfl rfl rfl fun S hS=>?_
 unfold z0l at hr
 refine sr ?_
 refine BX 0 ?_
 refine N1 ?_
 refine sr ?_
 refine W2 ?_
 refine bdE hr fun y1 hy1 hr=>?_
 refine CB [] [] (q7S (m:=m) hy1) ?_
 refine N1 ?_
 refine AW.ret ?_
 cases hr
 exact q0a [] 0 hS
def q9Y (a0:Attribute):Option Bool:=
 some (decide (a0.Mode=3))
theorem z7z {a0:Attribute}{r:Bool}(hr:q9Y a0=some r):Ok Tryz.prog 21 [Attribute.x .fz a0] [] (.d .fz (.b r)) []:=by
 refine Ok.enter rfl Tryz.func21 rfl rfl rfl fun S hS=>?_
 unfold q9Y at hr
 refine sr ?_
 refine BX 0 ?_
 refine N1 ?_
 refine sr ?_
 refine N4 ?_
 refine AW.ret ?_
 cases hr
 exact q0a [] 0 hS
def q5t:Nat→Attribute→Unit→Option (Unit ⊕ Int):=fun k1 xk1 _=>
 (q9Y xk1).bind fun y1=>
 if y1=true then (
 some (.inr (k1:Int))
 ) else (
 some (.inl ())
 )
def q4c (a0:(List Attribute)):Option Int:=
 (findL q5t 0 a0 ()).bind <| onr (fun r1=>some r1) fun _=>
 some (-1)
theorem q7C {m:Md}{a0:(List Attribute)}{r:Int}(hr:q4c a0=some r):Ok Tryz.prog 92 [.d m (.sl 4 (a0.map Attribute.D)),.fn 21 []] [] (.d .fz (.i .i64 r)) []:=by
 refine Ok.enter rfl Tryz.func92 rfl rfl rfl fun S hS=>?_
 unfold q4c at hr
 refine sr ?_
 refine N1 ?_
 refine ssr ?_
 refine W1 ?_
 refine LF ?_
 refine N1 ?_
 refine AW.block ?_
 refine AW.len (.tmp 0 rfl) fun hl1=>?_
 refine bdE hr fun q1 hqq1 hr=>?_
 refine q0k hqq1 hl1 0 (fun k1 _=>[(0,.d m (.sl 4 (a0.map Attribute.D))),(1,.fn 21 []),(7,.d .fz (.i .i64 (a0.length:Int))),(8,.d .fz (.i .i64 (k1:Int)))]) (fun k1 _=>[]) (q0e hS 0) (fun k1 xk1 sk1 ok1 hxk1 hr hltk1 hik1=>?_) fun k1 sk1 ek1 hltk1=>?_
 refine sr ?_
 refine N1 ?_
 refine q0d (q0f rfl (dT hltk1) ?_)
 refine q0b ?_
 refine q0d (AW.block (q0d (q0c ?_)))
 refine N2 ?_
 refine sr ?_
 refine W3 ?_
 refine IF (Int.natCast_nonneg _) hxk1 ?_
 refine W1 ?_
 refine bdE hr fun y1 hy1 hr=>?_
 refine CB [] [] (z7z hy1) ?_
 refine N0 ?_
 refine ifE hr (fun h1 hr=>?_) fun h1 hr=>?_
 refine q0f rfl h1 ?_
 refine sr ?_
 refine N2 ?_
 refine AW.ret ?_
 cases hr
 cases hik1 _ rfl
 rename_i hr
 cases hr
 exact q0a [] 0 hS
 refine q0g rfl (bF h1) ?_
 refine q0b ?_
 refine q0c ?_
 refine OB _ (q3B (p:=k1) (q:=1) (q3m hltk1 hl1)) ?_
 refine N1 ?_
 cases hr
 exact⟨_,rfl,q0e hS 0⟩
 subst ek1
 refine sr ?_
 refine N1 ?_
 refine q0d (q0g rfl (dF hltk1) ?_)
 refine q0i ?_
 refine sr ?_
 refine N1 ?_
 refine AW.ret ?_
 cases hr
 exact q0a [] 0 hS
def q3T (a0:(List Attribute)):Option Bool:=
 (q4c a0).bind fun y1=>
 some (decide (0≤y1))
theorem q7a {m:Md}{a0:(List Attribute)}{r:Bool}(hr:q3T a0=some r):Ok Tryz.prog 53 [.d m (.sl 4 (a0.map Attribute.D)),.fn 21 []] [] (.d .fz (.b r)) []:=by
 refine Ok.enter rfl Tryz.func53 rfl rfl rfl fun S hS=>?_
 unfold q3T at hr
 refine sr ?_
 refine N1 ?_
 refine sr ?_
 refine W2 ?_
 refine bdE hr fun y1 hy1 hr=>?_
 refine CB [] [] (q7C (m:=m) hy1) ?_
 refine N2 ?_
 refine AW.ret ?_
 cases hr
 exact q0a [] 0 hS
def q4Z (a0:Symbol):Option Bool:=
 (q3T a0.Attributes).bind fun y1=>
 some y1
theorem q9L {m:Md}{a0:Symbol}{r:Bool}(hr:q4Z a0=some r):Ok Tryz.prog 52 [Symbol.x m a0,.pb 0 0] [.box [.fn 21 []]] (.d .fz (.b r)) [.box [.fn 21 []]]:=by
 refine Ok.enter rfl Tryz.func52 rfl rfl rfl fun S hS=>?_
 unfold q4Z at hr
 refine sr ?_
 refine BX 1 ?_
 refine N1 ?_
 refine sr ?_
 refine W3 ?_
 refine bdE hr fun y1 hy1 hr=>?_
 refine CB [] [] (q7a (m:=m) hy1) ?_
 refine N1 ?_
 refine AW.ret ?_
 cases hr
 exact q0a [(0,0)] 1 hS
def q4E:Nat→Symbol→Unit→Option (Unit ⊕ Int):=fun k1 xk1 _=>
 (q4Z xk1).bind fun y1=>
 if y1=true then (
 some (.inr (k1:Int))
 ) else (
 some (.inl ())
 )
def q3z (a0:(List Symbol)):Option Int:=
 (findL q4E 0 a0 ()).bind <| onr (fun r1=>some r1) fun _=>
 some (-1)
theorem q5P {m:Md}{a0:(List Symbol)}{r:Int}(hr:q3z a0=some r):Ok Tryz.prog 91 [.d m (.sl 2 (a0.map Symbol.D)),.fn 52 [.pb 0 0]] [.box [.fn 21 []]] (.d .fz (.i .i64 r)) [.box [.fn 21 []]]:=by
 refine Ok.enter rfl Tryz.func91 rfl rfl rfl fun S hS=>?_
 unfold q3z at hr
 refine sr ?_
 refine N1 ?_
 refine ssr ?_
 refine W1 ?_
 refine LF ?_
 refine N1 ?_
 refine AW.block ?_
 refine AW.len (.tmp 0 rfl) fun hl1=>?_
 refine bdE hr fun q1 hqq1 hr=>?_
 refine q0k hqq1 hl1 1 (fun k1 _=>[(0,.d m (.sl 2 (a0.map Symbol.D))),(1,.fn 52 [.pb 0 0]),(7,.d .fz (.i .i64 (a0.length:Int))),(8,.d .fz (.i .i64 (k1:Int)))]) (fun k1 _=>[]) (q0e hS 1) (fun k1 xk1 sk1 ok1 hxk1 hr hltk1 hik1=>?_) fun k1 sk1 ek1 hltk1=>?_
 refine sr ?_
 refine N1 ?_
 refine q0d (q0f rfl (dT hltk1) ?_)
 refine q0b ?_
 refine q0d (AW.block (q0d (q0c ?_)))
 refine N2 ?_
 refine sr ?_
 refine W3 ?_
 refine IF (Int.natCast_nonneg _) hxk1 ?_
 refine W1 ?_
 refine bdE hr fun y1 hy1 hr=>?_
 refine CB [(0,0)] [] (q9L (m:=m) hy1) ?_
 refine N0 ?_
 refine ifE hr (fun h1 hr=>?_) fun h1 hr=>?_
 refine q0f rfl h1 ?_
 refine sr ?_
 refine N2 ?_
 refine AW.ret ?_
 cases hr
 cases hik1 _ rfl
 rename_i hr
 cases hr
 exact q0a [(0,0)] 1 hS
 refine q0g rfl (bF h1) ?_
 refine q0b ?_
 refine q0c ?_
 refine OB _ (q3B (p:=k1) (q:=1) (q3m hltk1 hl1)) ?_
 refine N1 ?_
 cases hr
 exact⟨_,rfl,q0e hS 1⟩
 subst ek1
 refine sr ?_
 refine N1 ?_
 refine q0d (q0g rfl (dF hltk1) ?_)
 refine q0i ?_
 refine sr ?_
 refine N1 ?_
 refine AW.ret ?_
 cases hr
 exact q0a [(0,0)] 1 hS
def q3w (a0:(List Symbol)):Option Bool:=
 (q3z a0).bind fun y1=>
 some (decide (0≤y1))
theorem q5F {m:Md}{a0:(List Symbol)}{r:Bool}(hr:q3w a0=some r):Ok Tryz.prog 51 [.d m (.sl 2 (a0.map Symbol.D)),.fn 52 [.pb 0 0]] [.box [.fn 21 []]] (.d .fz (.b r)) [.box [.fn 21 []]]:=by
 refine Ok.enter rfl Tryz.func51 rfl rfl rfl fun S hS=>?_
 unfold q3w at hr
 refine sr ?_
 refine N1 ?_
 refine sr ?_
 refine W2 ?_
 refine bdE hr fun y1 hy1 hr=>?_
 refine CB [(0,0)] [] (q5P (m:=m) hy1) ?_
 refine N2 ?_
 refine AW.ret ?_
 cases hr
 exact q0a [(0,0)] 1 hS
def q4M (a0:Grammar):Option Bool:=
 (q3w a0.Symbols).bind fun y1=>
 some y1
theorem z0w {m:Md}{a0:Grammar}{r:Bool}(hr:q4M a0=some r):Ok Tryz.prog 20 [Grammar.y m a0,.fn 21 []] [] (.d .fz (.b r)) []:=by
 refine Ok.enter rfl Tryz.func20 rfl rfl rfl fun S hS=>?_
 unfold q4M at hr
 refine sr ?_
 refine BX 0 ?_
 refine BX 1 ?_
 refine N1 ?_
 refine sr ?_
 refine W3 ?_
 refine bdE hr fun y1 hy1 hr=>?_
 refine CB [(0,1)] [] (q5F (m:=m) hy1) ?_
 refine N1 ?_
 refine AW.ret ?_
 cases hr
 exact q0a [] 0 hS
def z1g:Nat→Attribute→((List Attribute))→Option ((List Attribute)):=fun k1 xk1 s1=>
 (
 if xk1.Mode=1 then (
 grd (((s1.length:Int)+1)*40≤140737488355328∧(s1.length:Int)+1≤9223372036854775807) <|
 some (s1++[xk1])
 ) else (
 if xk1.Mode=2 then (
 grd (((s1.length:Int)+1)*40≤140737488355328∧(s1.length:Int)+1≤9223372036854775807) <|
 some (s1++[xk1])
 ) else (
 some s1
 )
 )
 ).bind fun s2=>
 some s2
def q6J (a0:Grammar)(a1:ByteArray):Option (List Attribute):=
 (q5d a0 a1).bind fun (y1,y2)=>
 (eachL z1g 0 y1.Attributes ([]:List Attribute)).bind fun s1=>
 some s1
theorem z4z {m:Md}{a0:Grammar}{a1:ByteArray}{r:(List Attribute)}(hr:q6J a0 a1=some r):Ok Tryz.prog 58 [Grammar.y m a0,.d .fz (.s a1)] [] (.ref 0 none) [.row .fz 4 (r.map Attribute.D)]:=by
 refine Ok.enter rfl Tryz.func58 rfl rfl rfl fun S hS=>?_
 unfold q6J at hr
 refine sr ?_
 refine BX 0 ?_
 refine N1 ?_
 refine sr ?_
 refine L0 1 Attribute.D ?_
 refine N1 ?_
 refine sr ?_
 refine W2 ?_
 refine bdE hr fun q1 hq1 hr=>?_
 obtain⟨y1,y2⟩:=q1
 refine CB [] [] (q7H (m:=m) hq1) ?_
 refine W3 ?_
 refine NV 2 ?_
 refine SB ?_
 refine N1 ?_
 refine ssr ?_
 refine W2 ?_
 refine LF ?_
 refine N1 ?_
 refine AW.block ?_
 refine AW.len (.ag 1 (.tu 0 (.tmp 11 rfl) rfl) rfl) fun hl1=>?_
 refine bdE hr fun s1 hqq2 hr=>?_
 refine q0o hqq2 hl1 3 (fun k1 s1=>[(5,.ref 1 none),(18,.d m (.sl 4 (y1.Attributes.map Attribute.D))),(19,.d .fz (.i .i64 (y1.Attributes.length:Int))),(20,.d .fz (.i .i64 (k1:Int)))]) (fun k1 s1=>[(1,.row .fz 4 (s1.map Attribute.D))]) (GH.trans (q0m (q:=0) [.d m (.sl 2 (a0.Symbols.map Symbol.D)),.u] (.cons .rfl (.cons .u .nil)) rfl) (q0e hS 3)) (fun k1 xk1 sk1 ok1 hxk1 hr hltk1=>?_) fun k1 hltk1=>?_
 obtain⟨s1,rfl⟩:∃ y,y=sk1:=⟨_,rfl⟩
 refine sr ?_
 refine N1 ?_
 refine q0d (q0f rfl (dT hltk1) ?_)
 refine q0b ?_
 refine bdE hr fun s2 hqq3 hr=>?_
 refine q0d (q0n 3 [(5,.ref 1 none),(18,.d m (.sl 4 (y1.Attributes.map Attribute.D))),(19,.d .fz (.i .i64 (y1.Attributes.length:Int))),(20,.d .fz (.i .i64 (k1:Int)))] [(1,.row .fz 4 (s2.map Attribute.D))] ?_ ?_)
 replace hr:=hqq3
 refine AW.block (q0d (q0c ?_))
 refine IF (Int.natCast_nonneg _) hxk1 ?_
 refine W1 ?_
 refine NV 3 ?_
 refine SB ?_
 refine N0 ?_
 refine sr ?_
 refine W3 ?_
 refine ifE hr (fun h1 hr=>?_) fun h1 hr=>?_
 refine VT rfl (dT h1) ?_
 iterate 3 refine AL.off ?_
 refine N1 ?_
 refine q0f rfl rfl ?_
 refine q0c ?_
 refine W2 ?_
 refine LIR 4 (m:=.fz) (f:=Attribute.D) (xs:=[xk1]) ?_
 refine ggE hr fun g1 hr=>?_
 refine APf1 (f:=Attribute.D) 5 (fun _=>rfl) 40 g1 ?_
 refine N1 ?_
 cases hr
 exact GH.trans (q0m (q:=0) [.d m (.sl 2 (a0.Symbols.map Symbol.D)),.u] (.cons .rfl (.cons .u .nil)) rfl) (q0l hS [(0,0),(5,1),(2,2)] 3)
 refine VF rfl (dF h1) ?_
 refine N4 ?_
 refine ifE hr (fun h2 hr=>?_) fun h2 hr=>?_
 refine q0f rfl (dT h2) ?_
 refine q0c ?_
 refine W2 ?_
 refine LIR 4 (m:=.fz) (f:=Attribute.D) (xs:=[xk1]) ?_
 refine ggE hr fun g2 hr=>?_
 refine APf1 (f:=Attribute.D) 5 (fun _=>rfl) 40 g2 ?_
 refine N1 ?_
 cases hr
 exact GH.trans (q0m (q:=0) [.d m (.sl 2 (a0.Symbols.map Symbol.D)),.u] (.cons .rfl (.cons .u .nil)) rfl) (q0l hS [(0,0),(5,1),(2,2)] 3)
 refine q0g rfl (dF h2) ?_
 refine q0b ?_
 cases hr
 exact GH.trans (q0m (q:=0) [.d m (.sl 2 (a0.Symbols.map Symbol.D)),.u] (.cons .rfl (.cons .u .nil)) rfl) (q0e hS 3)
 refine q0c ?_
 refine OB _ (q3B (p:=k1) (q:=1) (q3m hltk1 hl1)) ?_
 refine N1 ?_
 cases hr
 exact GH.trans (q0m (q:=0) [.d m (.sl 2 (a0.Symbols.map Symbol.D)),.u] (.cons .rfl (.cons .u .nil)) rfl) (q0e hS 3)
 refine sr ?_
 refine N1 ?_
 refine q0d (q0g rfl (dF hltk1) ?_)
 refine q0i ?_
 refine sr ?_
 refine N2 ?_
 refine AW.ret ?_
 cases hr
 exact q0a [(1,0)] 1 hS
def q5k (k1:Nat):Nat→Attribute→((List Occurrence))→Option ((List Occurrence)):=fun k2 xk2 s2=>
 grd (((s2.length:Int)+1)*24≤140737488355328∧(s2.length:Int)+1≤9223372036854775807) <|
 some (s2++[(⟨(k1:Int),xk2.Name⟩:Occurrence)])
def q4X (a0:Grammar)(a1:Rule):Nat→((List Occurrence))→Option ((List Occurrence)):=fun k1 s1=>
 (q7s a1 (k1:Int)).bind fun y1=>
 (q6J a0 y1).bind fun y2=>
 (eachL (q5k k1) 0 y2 s1).bind fun s2=>
 some s2
def q5Q (a0:Grammar)(a1:Rule):Option (List Occurrence):=
 grd (I64 ((a1.Right.length+1:Nat):Int)) <|
 (eachN (q4X a0 a1) 0 (a1.Right.length+1) ([]:List Occurrence)).bind fun s1=>
 some s1
theorem z5z {m:Md}{a0:Grammar}{a1:Rule}{r:(List Occurrence)}(hr:q5Q a0 a1=some r):Ok Tryz.prog 26 [Grammar.y m a0,Rule.x m a1] [] (.ref 0 none) [.row .fz 2 (r.map Occurrence.D)]:=by
 refine Ok.enter rfl Tryz.func26 rfl rfl rfl fun S hS=>?_
 unfold q5Q at hr
 refine sr ?_
 refine BX 0 ?_
 refine BX 1 ?_
 refine N1 ?_
 refine sr ?_
 refine L0 2 Occurrence.D ?_
 refine N1 ?_
 refine ssr ?_
 refine W2 ?_
 refine LF ?_
 refine ggE hr fun g1 hr=>?_
 refine OB _ (q3B (p:=a1.Right.length) (q:=1) g1) ?_
 refine N1 ?_
 refine AW.block ?_
 refine q0w (.tmp 13 rfl) fun hl1=>?_
 refine bdE hr fun s1 hqq1 hr=>?_
 refine q0s hqq1 3 (fun k1 s1=>[(2,.pb 0 0),(3,.pb 1 0),(5,.ref 2 none),(13,.d .fz (.i .i64 ((a1.Right.length+1:Nat):Int))),(14,.d .fz (.i .i64 (k1:Int)))]) (fun k1 s1=>[(2,.row .fz 2 (s1.map Occurrence.D))]) (GH.trans (q0m (q:=0) [.d m (.sl 2 (a0.Symbols.map Symbol.D)),.u] (.cons .rfl (.cons .u .nil)) rfl) (q0e hS 3)) (fun k1 sk1 ok1 hr hltk1=>?_) ?_
 obtain⟨s1,rfl⟩:∃ y,y=sk1:=⟨_,rfl⟩
 refine sr ?_
 refine N1 ?_
 refine q0d (q0f rfl (dT (ltN hltk1)) ?_)
 refine q0b ?_
 refine q0d (AW.block (q0d (q0c ?_)))
 refine N2 ?_
 refine q0d (q0j (h:=?_))
 refine W3 ?_
 refine bdE hr fun y1 hy1 hr=>?_
 refine CB [] [] (z1w (m:=m) hy1) ?_
 refine bdE hr fun y2 hy2 hr=>?_
 refine CB [(0,3)] [] (z4z (m:=m) hy2) ?_
 refine LE ?_
 refine N1 ?_
 refine AW.block ?_
 refine q0r 3 rfl fun hl2=>?_
 refine bdE hr fun s2 hqq2 hr=>?_
 refine q0o hqq2 hl2 4 (fun k2 s2=>[(2,.pb 0 0),(3,.pb 1 0),(5,.ref 2 none),(6,.d .fz (.i .i64 (k1:Int))),(13,.d .fz (.i .i64 ((a1.Right.length+1:Nat):Int))),(14,.d .fz (.i .i64 (k1:Int))),(21,.ref 3 none),(22,.d .fz (.i .i64 (y2.length:Int))),(23,.d .fz (.i .i64 (k2:Int)))]) (fun k2 s2=>[(2,.row .fz 2 (s2.map Occurrence.D))]) (GH.trans (q0m (q:=0) [.d m (.sl 2 (a0.Symbols.map Symbol.D)),.u] (.cons .rfl (.cons .u .nil)) rfl) (q0e hS 4)) (fun k2 xk2 sk2 ok2 hxk2 hr hltk2=>?_) fun k2 hltk2=>?_
 obtain⟨s2,rfl⟩:∃ y,y=sk2:=⟨_,rfl⟩
 refine sr ?_
 refine N1 ?_
 refine q0d (q0f rfl (dT hltk2) ?_)
 refine q0b ?_
 refine q0d (AW.block (q0d (q0c ?_)))
 refine IE hxk2 (Int.natCast_nonneg _) ?_
 refine LPa hxk2 ?_
 refine NV 4 ?_
 refine SB ?_
 refine N0 ?_
 refine q0c ?_
 refine W5 ?_
 refine LIR 5 (m:=.fz) (f:=Occurrence.D) (xs:=[(⟨(k1:Int),xk2.Name⟩:Occurrence)]) ?_
 refine ggE hr fun g2 hr=>?_
 refine APf1 (f:=Occurrence.D) 6 (fun _=>rfl) 24 g2 ?_
 refine N1 ?_
 refine q0c ?_
 refine OB _ (q3B (p:=k2) (q:=1) (q3m hltk2 hl2)) ?_
 refine N1 ?_
 cases hr
 exact GH.trans (q0m (q:=0) [.d m (.sl 2 (a0.Symbols.map Symbol.D)),.u] (.cons .rfl (.cons .u .nil)) rfl) (q0l hS [(0,0),(1,1),(6,2),(3,3)] 4)
 refine sr ?_
 refine N1 ?_
 refine q0d (q0g rfl (dF hltk2) ?_)
 refine q0i ?_
 refine q0c ?_
 refine OB _ (q3B (p:=k1) (q:=1) (q3m (ltN hltk1) hl1.2)) ?_
 refine N1 ?_
 cases hr
 exact GH.trans (q0m (q:=0) [.d m (.sl 2 (a0.Symbols.map Symbol.D)),.u] (.cons .rfl (.cons .u .nil)) rfl) (q0e hS 3)
 refine sr ?_
 refine N1 ?_
 refine q0d (q0g rfl (dF geN) ?_)
 refine q0i ?_
 refine sr ?_
 refine N2 ?_
 refine AW.ret ?_
 cases hr
 exact q0a [(2,0)] 1 hS
def q3C (a0:Occurrence)(a1:Grammar)(a2:Rule):Option Bool:=
 (q5D a1 a2 a0).bind fun (y1,y2)=>
 some (!y1.Circular)
theorem q8A {m2:Md}{a0:Occurrence}{a1:Grammar}{a2:Rule}{r:Bool}(hr:q3C a0 a1 a2=some r):Ok Tryz.prog 27 [Occurrence.x .fz a0,.pb 0 0,.pb 1 0] [.box [.d m2 (.sl 2 (a1.Symbols.map Symbol.D)),.d m2 (.sl 6 (a1.Rules.map Rule.D))],.box [.d .fz (.s a2.Name),.d .fz (.s a2.Left),.d m2 (.sl 1 (a2.Right.map A.D.s)),.d .fz (.b a2.Literal),.d m2 (.sl 9 (a2.Equations.map Equation.D)),.d m2 (.sl 16 (a2.Contributions.map Contribution.D))]] (.d .fz (.b r)) [.box [.d m2 (.sl 2 (a1.Symbols.map Symbol.D)),.d m2 (.sl 6 (a1.Rules.map Rule.D))],.box [.d .fz (.s a2.Name),.d .fz (.s a2.Left),.d m2 (.sl 1 (a2.Right.map A.D.s)),.d .fz (.b a2.Literal),.d m2 (.sl 9 (a2.Equations.map Equation.D)),.d m2 (.sl 16 (a2.Contributions.map Contribution.D))]]:=by
 refine Ok.enter rfl Tryz.func27 rfl rfl rfl fun S hS=>?_
 unfold q3C at hr
 refine sr ?_
 refine BX 2 ?_
 refine N1 ?_
 refine sr ?_
 refine W3 ?_
 refine bdE hr fun q1 hq1 hr=>?_
 obtain⟨y1,y2⟩:=q1
 refine CB [] [] (q9h (m:=m2) hq1) ?_
 refine W3 ?_
 refine NV 3 ?_
 refine SB ?_
 refine N1 ?_
 refine sr ?_
 refine N4 ?_
 refine AW.ret ?_
 cases hr
 exact q0a [(0,0),(1,1)] 2 hS
end Go.Proofs.YtibagkppfnjgcaaGreat
