/- What some functions of the program compute, as partial functions on plain data, and that they do; each lemma bears its conditions in its statement. -/
import Derived.Test.YtibagkppfnjgcaaGreatLift9
set_option linter.unusedVariables false
set_option linter.unusedSimpArgs false
set_option linter.ambiguousOpen false
set_option linter.unusedSectionVars false
set_option linter.unnecessarySimpa false
set_option maxRecDepth 100000
set_option maxHeartbeats 40000000
noncomputable section
namespace Go.Proofs.YtibagkppfnjgcaaGreat
open Go Go.E Go.A
def q3p (a1_0:Grammar)(a1_1:Rule):Nat→Occurrence→Unit→Option (Unit ⊕ Int):=fun k1 xk1 _=>
 (q3C xk1 a1_0 a1_1).bind fun y1=>
 if y1=true then (
 some (.inr (k1:Int))
 ) else (
 some (.inl ())
 )
def q3r (a0:(List Occurrence))(a1_0:Grammar)(a1_1:Rule):Option Int:=
 (findL (q3p a1_0 a1_1) 0 a0 ()).bind <| onr (fun r1=>some r1) fun _=>
 some (-1)
theorem q6f {m2:Md}{a0:(List Occurrence)}{a1_0:Grammar}{a1_1:Rule}{r:Int}(hr:q3r a0 a1_0 a1_1=some r):Ok Tryz.prog 57 [.ref 2 none,.fn 27 [.pb 0 0,.pb 1 0]] [.box [.d m2 (.sl 2 (a1_0.Symbols.map Symbol.D)),.d m2 (.sl 6 (a1_0.Rules.map Rule.D))],.box [.d .fz (.s a1_1.Name),.d .fz (.s a1_1.Left),.d m2 (.sl 1 (a1_1.Right.map A.D.s)),.d .fz (.b a1_1.Literal),.d m2 (.sl 9 (a1_1.Equations.map Equation.D)),.d m2 (.sl 16 (a1_1.Contributions.map Contribution.D))],.row .fz 2 (a0.map Occurrence.D)] (.d .fz (.i .i64 r)) [.box [.d m2 (.sl 2 (a1_0.Symbols.map Symbol.D)),.d m2 (.sl 6 (a1_0.Rules.map Rule.D))],.box [.d .fz (.s a1_1.Name),.d .fz (.s a1_1.Left),.d m2 (.sl 1 (a1_1.Right.map A.D.s)),.d .fz (.b a1_1.Literal),.d m2 (.sl 9 (a1_1.Equations.map Equation.D)),.d m2 (.sl 16 (a1_1.Contributions.map Contribution.D))],.row .fz 2 (a0.map Occurrence.D)]:=by
 refine Ok.enter rfl Tryz.func57 rfl rfl rfl fun S hS=>?_
 unfold q3r at hr
 refine sr ?_
 refine N1 ?_
 refine ssr ?_
 refine W1 ?_
 refine LE ?_
 refine N1 ?_
 refine AW.block ?_
 refine q0r 2 rfl fun hl1=>?_
 refine bdE hr fun q1 hqq1 hr=>?_
 refine q0k hqq1 hl1 3 (fun k1 _=>[(0,.ref 2 none),(1,.fn 27 [.pb 0 0,.pb 1 0]),(7,.d .fz (.i .i64 (a0.length:Int))),(8,.d .fz (.i .i64 (k1:Int)))]) (fun k1 _=>[]) (q0e hS 3) (fun k1 xk1 sk1 ok1 hxk1 hr hltk1 hik1=>?_) fun k1 sk1 ek1 hltk1=>?_
 refine sr ?_
 refine N1 ?_
 refine q0d (q0f rfl (dT hltk1) ?_)
 refine q0b ?_
 refine q0d (AW.block (q0d (q0c ?_)))
 refine N2 ?_
 refine sr ?_
 refine W3 ?_
 refine IE hxk1 (Int.natCast_nonneg _) ?_
 refine LPa hxk1 ?_
 refine bdE hr fun y1 hy1 hr=>?_
 refine CB [(0,0),(1,1)] [] (q8A (m2:=m2) hy1) ?_
 refine N0 ?_
 refine ifE hr (fun h1 hr=>?_) fun h1 hr=>?_
 refine q0f rfl h1 ?_
 refine sr ?_
 refine N2 ?_
 refine AW.ret ?_
 cases hr
 cases hik1 _ rfl
 rename_i hr
 cases hr
 exact q0a [(0,0),(1,1),(2,2)] 3 hS
 refine q0g rfl (bF h1) ?_
 refine q0b ?_
 refine q0c ?_
 refine OB _ (q3B (p:=k1) (q:=1) (q3m hltk1 hl1)) ?_
 refine N1 ?_
 cases hr
 exact⟨_,rfl,q0e hS 3⟩
 subst ek1
 refine sr ?_
 refine N1 ?_
 refine q0d (q0g rfl (dF hltk1) ?_)
 refine q0i ?_
 refine sr ?_
 refine N1 ?_
 refine AW.ret ?_
 cases hr
 exact q0a [(0,0),(1,1),(2,2)] 3 hS
def q3t (o0:Grammar)(o1:Rule):((List Occurrence) × Int × Int)→Option (((List Occurrence) × Int × Int) ⊕ ((List Occurrence) × Int)):=fun (s3,s4,s5)=>
 if s5 < (s3.length:Int) then (
 (
 grd (0≤s5) <|
 (s3[s5.toNat]?).bind fun x1=>
 (q3C x1 o0 o1).bind fun y2=>
 if y2=true then (
 some (s4,s3)
 ) else (
 grd (0≤s4) <|
 (s3[s4.toNat]?).bind fun x2=>
 grd (I64 (s4+1)) <|
 some ((s4+1),(List.set s3 s4.toNat x1))
 )
 ).bind fun (s6,s7)=>
 grd (I64 (s5+1)) <|
 some (.inl (s7,s6,(s5+1)))
 ) else (
 some (.inr (s3,s4))
 )
def q3v (a0:(List Occurrence))(o0:Grammar)(o1:Rule):Option (List Occurrence):=
 (q3r a0 o0 o1).bind fun y1=>
 if y1=(-1) then (
 some a0
 ) else (
 grd (I64 (y1+1)) <|
 (q5m (q3t o0 o1) (a0,y1,(y1+1))).bind fun (s1,s2)=>
 grd (0≤s2) <|
 grd (s2.toNat≤s1.length) <|
 grd (0≤s2) <|
 grd (s2.toNat≤(s1.take s2.toNat++List.replicate (s1.length - s2.toNat) (⟨(0:Int),(⟨#[]⟩:ByteArray)⟩:Occurrence)).length) <|
 some ((s1.take s2.toNat++List.replicate (s1.length - s2.toNat) (⟨(0:Int),(⟨#[]⟩:ByteArray)⟩:Occurrence)).take s2.toNat)
 )
theorem q5Z {m2:Md}{a0:(List Occurrence)}{o0:Grammar}{o1:Rule}{r:(List Occurrence)}(hr:q3v a0 o0 o1=some r):Ok Tryz.prog 25 [.ref 2 none,.fn 27 [.pb 0 0,.pb 1 0]] [.box [.d m2 (.sl 2 (o0.Symbols.map Symbol.D)),.d m2 (.sl 6 (o0.Rules.map Rule.D))],.box [.d .fz (.s o1.Name),.d .fz (.s o1.Left),.d m2 (.sl 1 (o1.Right.map A.D.s)),.d .fz (.b o1.Literal),.d m2 (.sl 9 (o1.Equations.map Equation.D)),.d m2 (.sl 16 (o1.Contributions.map Contribution.D))],.row .fz 2 (a0.map Occurrence.D)] (.ref 3 none) [.box [.d m2 (.sl 2 (o0.Symbols.map Symbol.D)),.d m2 (.sl 6 (o0.Rules.map Rule.D))],.box [.d .fz (.s o1.Name),.d .fz (.s o1.Left),.d m2 (.sl 1 (o1.Right.map A.D.s)),.d .fz (.b o1.Literal),.d m2 (.sl 9 (o1.Equations.map Equation.D)),.d m2 (.sl 16 (o1.Contributions.map Contribution.D))],.dead,.row .fz 2 (r.map Occurrence.D)]:=by
 refine Ok.enter rfl Tryz.func25 rfl rfl rfl fun S hS=>?_
 unfold q3v at hr
 refine sr ?_
 refine N1 ?_
 refine sr ?_
 refine W2 ?_
 refine bdE hr fun y1 hy1 hr=>?_
 refine CB [(0,0),(1,1),(2,2)] [] (q6f (m2:=m2) hy1) ?_
 refine N1 ?_
 refine ssr ?_
 refine N2 ?_
 refine ifE hr (fun h1 hr=>?_) fun h1 hr=>?_
 refine q0f rfl (dT h1) ?_
 refine sr ?_
 refine N2 ?_
 refine AW.ret ?_
 refine endA.gh (q1i (i:=2) (j:=3) rfl rfl) ?_
 cases hr
 exact q0a [(0,0),(1,1),(2,2),(3,3)] 4 hS
 refine q0g rfl (dF h1) ?_
 refine q0b ?_
 refine ssr ?_
 refine W1 ?_
 refine ggE hr fun g1 hr=>?_
 refine OB _ (bAdd g1) ?_
 refine N1 ?_
 refine bdE hr fun q1 hqq1 hr=>?_
 obtain⟨s1,s2⟩:=q1
 refine q0n 3 [(0,.ref 2 none),(5,.d .fz (.i .i64 s2))] [(2,.row .fz 2 (s1.map Occurrence.D))] ?_ ?_
 refine AW.block (q0q hqq1 3 (fun (s3,s4,s5)=>[(0,.ref 2 none),(1,.fn 27 [.pb 0 0,.pb 1 0]),(5,.d .fz (.i .i64 s4)),(6,.d .fz (.i .i64 s5))]) (fun (s3,s4,s5)=>[(2,.row .fz 2 (s3.map Occurrence.D))]) (q0e hS 3) fun sk1 ok1 hr hik1=>?_)
 obtain⟨s3,s4,s5⟩:=sk1
 have hr:=hr
 refine ssr ?_
 refine W2 ?_
 refine LE ?_
 refine N1 ?_
 refine ifE hr (fun h2 hr=>?_) fun h2 hr=>?_
 refine q0f rfl (dT h2) ?_
 refine q0b ?_
 refine bdE hr fun q2 hqq2 hr=>?_
 obtain⟨s6,s7⟩:=q2
 refine q0d (q0n 3 [(0,.ref 2 none),(1,.fn 27 [.pb 0 0,.pb 1 0]),(5,.d .fz (.i .i64 s6)),(6,.d .fz (.i .i64 s5))] [(2,.row .fz 2 (s7.map Occurrence.D))] ?_ ?_)
 replace hr:=hqq2
 refine AW.block (q0d (q0c ?_))
 refine W2 ?_
 refine ggE hr fun g2 hr=>?_
 refine bdE hr fun x1 hx1 hr=>?_
 refine IE hx1 g2 ?_
 refine LPa hx1 ?_
 refine NV 3 ?_
 refine SB ?_
 refine N0 ?_
 refine sr ?_
 refine W2 ?_
 refine bdE hr fun y2 hy2 hr=>?_
 refine CB [(0,0),(1,1)] [] (q8A (m2:=m2) hy2) ?_
 refine N1 ?_
 refine ifE hr (fun h3 hr=>?_) fun h3 hr=>?_
 refine q0g rfl (bnF h3) ?_
 refine q0b ?_
 cases hr
 exact q0e hS 3
 refine q0f rfl (bnT h3) ?_
 refine sr ?_
 refine W3 ?_
 refine ggE hr fun g3 hr=>?_
 refine bdE hr fun x2 hx2 hr=>?_
 refine IE hx2 g3 ?_
 refine SE x1 hx2 ?_
 refine N0 ?_
 refine q0c ?_
 refine W1 ?_
 refine ggE hr fun g4 hr=>?_
 refine OB _ (bAdd g4) ?_
 refine N1 ?_
 cases hr
 exact q0e hS 3
 refine q0c ?_
 refine W1 ?_
 refine ggE hr fun g5 hr=>?_
 refine OB _ (bAdd g5) ?_
 refine N1 ?_
 cases hr
 exact⟨_,rfl,q0e hS 3⟩
 refine q0g rfl (dF h2) ?_
 refine q0i ?_
 cases hr
 cases hik1 _ rfl
 exact q0e hS 3
 refine sr ?_
 refine W2 ?_
 refine ggE hr fun g6 hr=>?_
 refine ggE hr fun g7 hr=>?_
 refine SVL g6 g7 ?_
 refine CLR (⟨(0:Int),(⟨#[]⟩:ByteArray)⟩:Occurrence) g7 ?_
 refine N0 ?_
 refine sr ?_
 refine W2 ?_
 refine ggE hr fun g8 hr=>?_
 refine ggE hr fun g9 hr=>?_
 refine CU 3 g8 g9 ?_
 refine N1 ?_
 refine AW.ret ?_
 cases hr
 exact q0a [(0,0),(1,1),(2,2),(3,3)] 4 hS
def q4L (a0:Grammar)(a1:Rule):Option (List Occurrence):=
 (q5Q a0 a1).bind fun y1=>
 (q3v y1 a0 a1).bind fun y2=>
 some y2
theorem q9l {m:Md}{a0:Grammar}{a1:Rule}{r:(List Occurrence)}(hr:q4L a0 a1=some r):Ok Tryz.prog 8 [Grammar.x m a0,Rule.x m a1] [] (.ref 0 none) [.row .fz 2 (r.map Occurrence.D)]:=by
 refine Ok.enter rfl Tryz.func8 rfl rfl rfl fun S hS=>?_
 unfold q4L at hr
 refine sr ?_
 refine BX 0 ?_
 refine BX 1 ?_
 refine N1 ?_
 refine sr ?_
 refine W2 ?_
 refine bdE hr fun y1 hy1 hr=>?_
 refine CB [(0,2)] [] (z5z (m:=m) hy1) ?_
 refine W1 ?_
 refine bdE hr fun y2 hy2 hr=>?_
 refine CB [(0,0),(1,1),(2,2),(3,3)] [] (q5Z (m2:=m) hy2) ?_
 refine N1 ?_
 refine AW.ret ?_
 cases hr
 exact q0a [(3,0)] 1 hS
def z0m (a0:Occurrence)(a1:(List Occurrence)):Option Bool:=
 (q3D a1 a0).bind fun y1=>
 some y1
theorem z9L {m2:Md}{a0:Occurrence}{a1:(List Occurrence)}{r:Bool}(hr:z0m a0 a1=some r):Ok Tryz.prog 68 [Occurrence.x .fz a0,.pb 0 0] [.box [.d m2 (.sl 2 (a1.map Occurrence.D))]] (.d .fz (.b r)) [.box [.d m2 (.sl 2 (a1.map Occurrence.D))]]:=by
 refine Ok.enter rfl Tryz.func68 rfl rfl rfl fun S hS=>?_
 unfold z0m at hr
 refine sr ?_
 refine BX 1 ?_
 refine N1 ?_
 refine sr ?_
 refine W2 ?_
 refine bdE hr fun y1 hy1 hr=>?_
 refine CB [] [] (q5N (m:=m2) hy1) ?_
 refine N1 ?_
 refine AW.ret ?_
 cases hr
 exact q0a [(0,0)] 1 hS
def q3x (a1_0:(List Occurrence)):Nat→Occurrence→Unit→Option (Unit ⊕ Int):=fun k1 xk1 _=>
 (z0m xk1 a1_0).bind fun y1=>
 if y1=true then (
 some (.inr (k1:Int))
 ) else (
 some (.inl ())
 )
def q4l (a0:(List Occurrence))(a1_0:(List Occurrence)):Option Int:=
 (findL (q3x a1_0) 0 a0 ()).bind <| onr (fun r1=>some r1) fun _=>
 some (-1)
theorem q7N {m2:Md}{a0:(List Occurrence)}{a1_0:(List Occurrence)}{r:Int}(hr:q4l a0 a1_0=some r):Ok Tryz.prog 57 [.ref 1 none,.fn 68 [.pb 0 0]] [.box [.d m2 (.sl 2 (a1_0.map Occurrence.D))],.row .fz 2 (a0.map Occurrence.D)] (.d .fz (.i .i64 r)) [.box [.d m2 (.sl 2 (a1_0.map Occurrence.D))],.row .fz 2 (a0.map Occurrence.D)]:=by
 refine Ok.enter rfl Tryz.func57 rfl rfl rfl fun S hS=>?_
 unfold q4l at hr
 refine sr ?_
 refine N1 ?_
 refine ssr ?_
 refine W1 ?_
 refine LE ?_
 refine N1 ?_
 refine AW.block ?_
 refine q0r 1 rfl fun hl1=>?_
 refine bdE hr fun q1 hqq1 hr=>?_
 refine q0k hqq1 hl1 2 (fun k1 _=>[(0,.ref 1 none),(1,.fn 68 [.pb 0 0]),(7,.d .fz (.i .i64 (a0.length:Int))),(8,.d .fz (.i .i64 (k1:Int)))]) (fun k1 _=>[]) (q0e hS 2) (fun k1 xk1 sk1 ok1 hxk1 hr hltk1 hik1=>?_) fun k1 sk1 ek1 hltk1=>?_
 refine sr ?_
 refine N1 ?_
 refine q0d (q0f rfl (dT hltk1) ?_)
 refine q0b ?_
 refine q0d (AW.block (q0d (q0c ?_)))
 refine N2 ?_
 refine sr ?_
 refine W3 ?_
 refine IE hxk1 (Int.natCast_nonneg _) ?_
 refine LPa hxk1 ?_
 refine bdE hr fun y1 hy1 hr=>?_
 refine CB [(0,0)] [] (z9L (m2:=m2) hy1) ?_
 refine N0 ?_
 refine ifE hr (fun h1 hr=>?_) fun h1 hr=>?_
 refine q0f rfl h1 ?_
 refine sr ?_
 refine N2 ?_
 refine AW.ret ?_
 cases hr
 cases hik1 _ rfl
 rename_i hr
 cases hr
 exact q0a [(0,0),(1,1)] 2 hS
 refine q0g rfl (bF h1) ?_
 refine q0b ?_
 refine q0c ?_
 refine OB _ (q3B (p:=k1) (q:=1) (q3m hltk1 hl1)) ?_
 refine N1 ?_
 cases hr
 exact⟨_,rfl,q0e hS 2⟩
 subst ek1
 refine sr ?_
 refine N1 ?_
 refine q0d (q0g rfl (dF hltk1) ?_)
 refine q0i ?_
 refine sr ?_
 refine N1 ?_
 refine AW.ret ?_
 cases hr
 exact q0a [(0,0),(1,1)] 2 hS
def q3H (a0:(List Occurrence))(a1_0:(List Occurrence)):Option Bool:=
 (q4l a0 a1_0).bind fun y1=>
 some (decide (0≤y1))
theorem q7f {m2:Md}{a0:(List Occurrence)}{a1_0:(List Occurrence)}{r:Bool}(hr:q3H a0 a1_0=some r):Ok Tryz.prog 66 [.ref 1 none,.fn 68 [.pb 0 0]] [.box [.d m2 (.sl 2 (a1_0.map Occurrence.D))],.row .fz 2 (a0.map Occurrence.D)] (.d .fz (.b r)) [.box [.d m2 (.sl 2 (a1_0.map Occurrence.D))],.row .fz 2 (a0.map Occurrence.D)]:=by
 refine Ok.enter rfl Tryz.func66 rfl rfl rfl fun S hS=>?_
 unfold q3H at hr
 refine sr ?_
 refine N1 ?_
 refine sr ?_
 refine W2 ?_
 refine bdE hr fun y1 hy1 hr=>?_
 refine CB [(0,0),(1,1)] [] (q7N (m2:=m2) hy1) ?_
 refine N2 ?_
 refine AW.ret ?_
 cases hr
 exact q0a [(0,0),(1,1)] 2 hS
def q8Q (a0:Expr)(a1:(List Occurrence)):Option Bool:=
 (q6D a0).bind fun y1=>
 (q3H y1 a1).bind fun y2=>
 some y2
theorem z2C {m:Md}{a0:Expr}{a1:(List Occurrence)}{r:Bool}(hr:q8Q a0 a1=some r):Ok Tryz.prog 34 [Expr.x m a0,.d m (.sl 2 (a1.map Occurrence.D))] [] (.d .fz (.b r)) []:=by
 refine Ok.enter rfl Tryz.func34 rfl rfl rfl fun S hS=>?_
 unfold q8Q at hr
 refine sr ?_
 refine BX 0 ?_
 refine BX 1 ?_
 refine N1 ?_
 refine sr ?_
 refine W1 ?_
 refine bdE hr fun y1 hy1 hr=>?_
 refine CB [(0,2)] [] (z2h (m:=m) hy1) ?_
 refine W1 ?_
 refine bdE hr fun y2 hy2 hr=>?_
 refine CB [(0,1),(1,2)] [] (q7f (m2:=m) hy2) ?_
 refine N1 ?_
 refine AW.ret ?_
 cases hr
 exact q0a [] 0 hS
def q9m (rec_iIsMonotone:Expr→(List Occurrence)→Option Bool)(a0:Expr)(a1:(List Occurrence)):Option Bool:=
 (q8Q a0 a1).bind fun y1=>
 (
 if y1=true then (
 some (decide (a0.Kind=3))
 ) else (
 some true
 )
 ).bind fun s1=>
 if s1=true then (
 some true
 ) else (
 (
 if a0.Kind=4 then (
 some (decide ((a0.Args.length:Int)=2))
 ) else (
 some false
 )
 ).bind fun s2=>
 if s2=true then (
 (
 if a0.N=6 then (
 some (decide (a0.N=6))
 ) else (
 some (decide (a0.N=7))
 )
 ).bind fun s3=>
 if s3=true then (
 (a0.Args[0]?).bind fun x1=>
 (rec_iIsMonotone x1 a1).bind fun y2=>
 (
 if y2=true then (
 (a0.Args[1]?).bind fun x2=>
 (rec_iIsMonotone x2 a1).bind fun y3=>
 some y3
 ) else (
 some false
 )
 ).bind fun s4=>
 some s4
 ) else (
 if a0.N=8 then (
 if a0.N=8 then (
 (a0.Args[0]?).bind fun x3=>
 (rec_iIsMonotone x3 a1).bind fun y4=>
 (
 if y4=true then (
 (a0.Args[1]?).bind fun x4=>
 (q8Q x4 a1).bind fun y5=>
 some (!y5)
 ) else (
 some false
 )
 ).bind fun s5=>
 some s5
 ) else (
 some false
 )
 ) else (
 if a0.N=12 then (
 (a0.Args[0]?).bind fun x5=>
 (rec_iIsMonotone x5 a1).bind fun y6=>
 if y6=true then (
 (a0.Args[1]?).bind fun x6=>
 (q8Q x6 a1).bind fun y7=>
 some (!y7)
 ) else (
 some false
 )
 ) else (
 some false
 )
 )
 )
 ) else (
 (
 if a0.Kind=5 then (
 some (decide ((a0.Args.length:Int)=3))
 ) else (
 some false
 )
 ).bind fun s6=>
 if s6=true then (
 (a0.Args[0]?).bind fun x7=>
 (q8Q x7 a1).bind fun y8=>
 (
 if y8=true then (
 some false
 ) else (
 (a0.Args[1]?).bind fun x8=>
 (rec_iIsMonotone x8 a1).bind fun y9=>
 some y9
 )
 ).bind fun s7=>
 (
 if s7=true then (
 (a0.Args[2]?).bind fun x9=>
 (rec_iIsMonotone x9 a1).bind fun y10=>
 some y10
 ) else (
 some false
 )
 ).bind fun s8=>
 some s8
 ) else (
 some false
 )
 )
 )
theorem z7A {rec_iIsMonotone:Expr→(List Occurrence)→Option Bool}(ih_iIsMonotone:∀ {m:Md} {a0:Expr} {a1:(List Occurrence)} {r:Bool},rec_iIsMonotone a0 a1=some r→Ok Tryz.prog 12 [Expr.x m a0,.d m (.sl 2 (a1.map Occurrence.D))] [] (.d .fz (.b r)) []){m:Md}{a0:Expr}{a1:(List Occurrence)}{r:Bool}(hr:q9m rec_iIsMonotone a0 a1=some r):Ok Tryz.prog 12 [Expr.x m a0,.d m (.sl 2 (a1.map Occurrence.D))] [] (.d .fz (.b r)) []:=by
 refine Ok.enter rfl Tryz.func12 rfl rfl rfl fun S hS=>?_
 unfold q9m at hr
 refine sr ?_
 refine BX 0 ?_
 refine N1 ?_
 refine ssr ?_
 refine W2 ?_
 refine bdE hr fun y1 hy1 hr=>?_
 refine CB [] [] (z2C (m:=m) hy1) ?_
 refine W1 ?_
 refine bdE hr fun s1 hqq1 hr=>?_
 refine q0h 5 [(1,.d m (.sl 2 (a1.map Occurrence.D))),(2,.pb 0 0),(13,.d .fz (.b s1))] ?_ ?_
 replace hr:=hqq1
 refine ifE hr (fun h1 hr=>?_) fun h1 hr=>?_
 refine VF rfl (bnF h1) ?_
 refine N4 ?_
 cases hr
 exact q3n
 refine VT rfl (bnT h1) ?_
 iterate 3 refine AL.off ?_
 refine N1 ?_
 cases hr
 exact q3n
 refine N0 ?_
 refine ifE hr (fun h2 hr=>?_) fun h2 hr=>?_
 refine q0f rfl h2 ?_
 refine sr ?_
 refine N1 ?_
 refine AW.ret ?_
 cases hr
 exact q0a [] 0 hS
 refine q0g rfl (bF h2) ?_
 refine q0b ?_
 refine q0d (AW.block (q0d (q0c ?_)))
 refine W3 ?_
 refine bdE hr fun s2 hqq2 hr=>?_
 refine q0h 6 [(1,.d m (.sl 2 (a1.map Occurrence.D))),(2,.pb 0 0),(23,.d .fz (.b s2))] ?_ ?_
 replace hr:=hqq2
 refine ifE hr (fun h3 hr=>?_) fun h3 hr=>?_
 refine VT rfl (dT h3) ?_
 refine W2 ?_
 refine LF ?_
 refine N2 ?_
 cases hr
 exact q3n
 refine VF rfl (dF h3) ?_
 iterate 4 refine AL.off ?_
 refine N1 ?_
 cases hr
 exact q3n
 refine N1 ?_
 refine ifE hr (fun h4 hr=>?_) fun h4 hr=>?_
 refine q0f rfl h4 ?_
 refine sr ?_
 refine N2 ?_
 refine AW.block (q0d (q0d (q0c ?_)))
 refine N2 ?_
 refine bdE hr fun s3 hqq3 hr=>?_
 refine q0n 1 [(1,.d m (.sl 2 (a1.map Occurrence.D))),(2,.pb 0 0),(25,.d .fz (.i .i64 a0.N)),(26,.d .fz (.b s3))] [] ?_ ?_
 replace hr:=hqq3
 refine ifE hr (fun h5 hr=>?_) fun h5 hr=>?_
 refine q0f rfl (dT h5) ?_
 refine q0b ?_
 cases hr
 exact q0e hS 1
 refine q0g rfl (dF h5) ?_
 refine q0c ?_
 refine N2 ?_
 cases hr
 exact q0e hS 1
 refine ifE hr (fun h6 hr=>?_) fun h6 hr=>?_
 refine q0f rfl h6 ?_
 refine sr ?_
 refine W2 ?_
 refine bdE hr fun x1 hx1 hr=>?_
 refine IFq (Int.natCast_nonneg _) hx1 (Expr.D_cells x1) ?_
 refine W2 ?_
 refine bdE hr fun y2 hy2 hr=>?_
 refine CB [] [] (ih_iIsMonotone (m:=m) hy2) ?_
 refine bdE hr fun s4 hqq4 hr=>?_
 refine q0h 8 [(42,.d .fz (.b s4))] ?_ ?_
 replace hr:=hqq4
 refine ifE hr (fun h7 hr=>?_) fun h7 hr=>?_
 refine VT rfl h7 ?_
 refine W2 ?_
 refine bdE hr fun x2 hx2 hr=>?_
 refine IFq (Int.natCast_nonneg _) hx2 (Expr.D_cells x2) ?_
 refine W2 ?_
 refine bdE hr fun y3 hy3 hr=>?_
 refine CB [] [] (ih_iIsMonotone (m:=m) hy3) ?_
 refine N1 ?_
 cases hr
 exact q3n
 refine VF rfl (bF h7) ?_
 iterate 6 refine AL.off ?_
 refine N1 ?_
 cases hr
 exact q3n
 refine N1 ?_
 refine AW.ret ?_
 cases hr
 exact q0a [] 0 hS
 refine q0g rfl (bF h6) ?_
 refine ssr ?_
 refine N2 ?_
 refine ifE hr (fun h8 hr=>?_) fun h8 hr=>?_
 refine q0f rfl (dT h8) ?_
 refine q0b ?_
 refine ifE hr (fun h9 hr=>?_) fun h9 hr=>?_
 refine q0f rfl (dT h9) ?_
 refine sr ?_
 refine W2 ?_
 refine bdE hr fun x3 hx3 hr=>?_
 refine IFq (Int.natCast_nonneg _) hx3 (Expr.D_cells x3) ?_
 refine W2 ?_
 refine bdE hr fun y4 hy4 hr=>?_
 refine CB [] [] (ih_iIsMonotone (m:=m) hy4) ?_
 refine bdE hr fun s5 hqq5 hr=>?_
 refine q0h 9 [(60,.d .fz (.b s5))] ?_ ?_
 replace hr:=hqq5
 refine ifE hr (fun h10 hr=>?_) fun h10 hr=>?_
 refine VT rfl h10 ?_
 refine W2 ?_
 refine bdE hr fun x4 hx4 hr=>?_
 refine IFq (Int.natCast_nonneg _) hx4 (Expr.D_cells x4) ?_
 refine W2 ?_
 refine bdE hr fun y5 hy5 hr=>?_
 refine CB [] [] (z2C (m:=m) hy5) ?_
 refine N2 ?_
 cases hr
 exact q3n
 refine VF rfl (bF h10) ?_
 iterate 7 refine AL.off ?_
 refine N1 ?_
 cases hr
 exact q3n
 refine N1 ?_
 refine AW.ret ?_
 cases hr
 exact q0a [] 0 hS
 refine q0g rfl (dF h9) ?_
 refine q0b ?_
 refine sr ?_
 refine N1 ?_
 refine AW.ret ?_
 cases hr
 exact q0a [] 0 hS
 refine q0g rfl (dF h8) ?_
 refine q0c ?_
 refine N2 ?_
 refine ifE hr (fun h11 hr=>?_) fun h11 hr=>?_
 refine q0f rfl (dT h11) ?_
 refine sr ?_
 refine W2 ?_
 refine bdE hr fun x5 hx5 hr=>?_
 refine IFq (Int.natCast_nonneg _) hx5 (Expr.D_cells x5) ?_
 refine W2 ?_
 refine bdE hr fun y6 hy6 hr=>?_
 refine CB [] [] (ih_iIsMonotone (m:=m) hy6) ?_
 refine ifE hr (fun h12 hr=>?_) fun h12 hr=>?_
 refine VT rfl h12 ?_
 refine W2 ?_
 refine bdE hr fun x6 hx6 hr=>?_
 refine IFq (Int.natCast_nonneg _) hx6 (Expr.D_cells x6) ?_
 refine W2 ?_
 refine bdE hr fun y7 hy7 hr=>?_
 refine CB [] [] (z2C (m:=m) hy7) ?_
 refine N3 ?_
 refine AW.ret ?_
 cases hr
 exact q0a [] 0 hS
 refine VF rfl (bF h12) ?_
 iterate 7 refine AL.off ?_
 refine N2 ?_
 refine AW.ret ?_
 cases hr
 exact q0a [] 0 hS
 refine q0g rfl (dF h11) ?_
 refine q0b ?_
 refine sr ?_
 refine N1 ?_
 refine AW.ret ?_
 cases hr
 exact q0a [] 0 hS
 refine q0g rfl (bF h4) ?_
 refine sr ?_
 refine W3 ?_
 refine bdE hr fun s6 hqq6 hr=>?_
 refine q0h 6 [(1,.d m (.sl 2 (a1.map Occurrence.D))),(2,.pb 0 0),(70,.d .fz (.b s6))] ?_ ?_
 replace hr:=hqq6
 refine ifE hr (fun h13 hr=>?_) fun h13 hr=>?_
 refine VT rfl (dT h13) ?_
 refine W2 ?_
 refine LF ?_
 refine N2 ?_
 cases hr
 exact q3n
 refine VF rfl (dF h13) ?_
 iterate 4 refine AL.off ?_
 refine N1 ?_
 cases hr
 exact q3n
 refine N1 ?_
 refine ifE hr (fun h14 hr=>?_) fun h14 hr=>?_
 refine q0f rfl h14 ?_
 refine sr ?_
 refine W2 ?_
 refine bdE hr fun x7 hx7 hr=>?_
 refine IFq (Int.natCast_nonneg _) hx7 (Expr.D_cells x7) ?_
 refine W2 ?_
 refine bdE hr fun y8 hy8 hr=>?_
 refine CB [] [] (z2C (m:=m) hy8) ?_
 refine W1 ?_
 refine bdE hr fun s7 hqq7 hr=>?_
 refine q0h 8 [(1,.d m (.sl 2 (a1.map Occurrence.D))),(2,.pb 0 0),(85,.d .fz (.b s7))] ?_ ?_
 replace hr:=hqq7
 refine ifE hr (fun h15 hr=>?_) fun h15 hr=>?_
 refine VF rfl (bnF h15) ?_
 iterate 6 refine AL.off ?_
 refine N1 ?_
 cases hr
 exact q3n
 refine VT rfl (bnT h15) ?_
 refine W2 ?_
 refine bdE hr fun x8 hx8 hr=>?_
 refine IFq (Int.natCast_nonneg _) hx8 (Expr.D_cells x8) ?_
 refine W2 ?_
 refine bdE hr fun y9 hy9 hr=>?_
 refine CB [] [] (ih_iIsMonotone (m:=m) hy9) ?_
 refine N1 ?_
 cases hr
 exact q3n
 refine bdE hr fun s8 hqq8 hr=>?_
 refine q0h 8 [(93,.d .fz (.b s8))] ?_ ?_
 replace hr:=hqq8
 refine ifE hr (fun h16 hr=>?_) fun h16 hr=>?_
 refine VT rfl h16 ?_
 refine W2 ?_
 refine bdE hr fun x9 hx9 hr=>?_
 refine IFq (Int.natCast_nonneg _) hx9 (Expr.D_cells x9) ?_
 refine W2 ?_
 refine bdE hr fun y10 hy10 hr=>?_
 refine CB [] [] (ih_iIsMonotone (m:=m) hy10) ?_
 refine N1 ?_
 cases hr
 exact q3n
 refine VF rfl (bF h16) ?_
 iterate 6 refine AL.off ?_
 refine N1 ?_
 cases hr
 exact q3n
 refine N1 ?_
 refine AW.ret ?_
 cases hr
 exact q0a [] 0 hS
 refine q0g rfl (bF h14) ?_
 refine q0b ?_
 refine sr ?_
 refine N1 ?_
 refine AW.ret ?_
 cases hr
 exact q0a [] 0 hS
def q8i:Nat→Expr→(List Occurrence)→Option Bool
  | 0,_,_=>none
  | n+1,a0,a1=>q9m (q8i n) a0 a1
def z0F (a0:Expr)(a1:(List Occurrence)):Option Bool:=recO fun n=>q8i n a0 a1
theorem z7B (n:Nat):∀ {m:Md} {a0:Expr} {a1:(List Occurrence)} {r:Bool},q8i n a0 a1=some r→Ok Tryz.prog 12 [Expr.x m a0,.d m (.sl 2 (a1.map Occurrence.D))] [] (.d .fz (.b r)) []:=by
  induction n with
  | zero=>intro _ _ _ r hr; exact nomatch (show (none:Option Bool)=some r from hr)
  | succ n ih=>intro _ _ _ r hr; exact z7A ih hr
theorem z4j {m:Md}{a0:Expr}{a1:(List Occurrence)}{r:Bool}(hr:z0F a0 a1=some r):Ok Tryz.prog 12 [Expr.x m a0,.d m (.sl 2 (a1.map Occurrence.D))] [] (.d .fz (.b r)) []:=by
 obtain⟨n,hn⟩:=q5a hr
 exact z7B n hn
def z2N (y4:(List Occurrence)):Nat→Equation→Unit→Option (Unit ⊕ Bool):=fun k2 xk2 _=>
 (q3D y4 xk2.At).bind fun y5=>
 if y5=true then (
 (z0F xk2.Expr y4).bind fun y6=>
 if y6=true then (
 some (.inl ())
 ) else (
 some (.inr false)
 )
 ) else (
 some (.inl ())
 )
def z2O (a0:Grammar):Nat→Rule→Unit→Option (Unit ⊕ Bool):=fun k1 xk1 _=>
 (q4L a0 xk1).bind fun y4=>
 (findL (z2N y4) 0 xk1.Equations ()).bind <| onr (fun r1=>some (.inr r1)) fun _=>
 some (.inl ())
def q8a (a0:Grammar):Option Bool:=
 (z1d a0).bind fun y1=>
 (
 if y1=true then (
 (z0l a0).bind fun y2=>
 some y2
 ) else (
 some true
 )
 ).bind fun s1=>
 (
 if s1=true then (
 some true
 ) else (
 (q4M a0).bind fun y3=>
 some y3
 )
 ).bind fun s2=>
 if s2=true then (
 some false
 ) else (
 (findL (z2O a0) 0 a0.Rules ()).bind <| onr (fun r2=>some r2) fun _=>
 some true
 )
theorem z6n {m:Md}{a0:Grammar}{r:Bool}(hr:q8a a0=some r):Ok Tryz.prog 6 [Grammar.x m a0] [] (.d .fz (.b r)) []:=by
 refine Ok.enter rfl Tryz.func6 rfl rfl rfl fun S hS=>?_
 unfold q8a at hr
 refine sr ?_
 refine BX 0 ?_
 refine N1 ?_
 refine ssr ?_
 refine W1 ?_
 refine bdE hr fun y1 hy1 hr=>?_
 refine CB [] [] (j1e (m:=m) hy1) ?_
 refine W1 ?_
 refine bdE hr fun s1 hqq1 hr=>?_
 refine q0h 4 [(1,.pb 0 0),(14,.d .fz (.b s1))] ?_ ?_
 replace hr:=hqq1
 refine ifE hr (fun h1 hr=>?_) fun h1 hr=>?_
 refine VF rfl (bnF h1) ?_
 refine W1 ?_
 refine bdE hr fun y2 hy2 hr=>?_
 refine CB [] [] (z9K (m:=m) hy2) ?_
 refine N1 ?_
 cases hr
 exact q3n
 refine VT rfl (bnT h1) ?_
 iterate 2 refine AL.off ?_
 refine N1 ?_
 cases hr
 exact q3n
 refine bdE hr fun s2 hqq2 hr=>?_
 refine q0h 4 [(1,.pb 0 0),(18,.d .fz (.b s2))] ?_ ?_
 replace hr:=hqq2
 refine ifE hr (fun h2 hr=>?_) fun h2 hr=>?_
 refine VT rfl h2 ?_
 iterate 2 refine AL.off ?_
 refine N1 ?_
 cases hr
 exact q3n
 refine VF rfl (bF h2) ?_
 refine W1 ?_
 refine bdE hr fun y3 hy3 hr=>?_
 refine CB [] [] (z0w (m:=m) hy3) ?_
 refine N1 ?_
 cases hr
 exact q3n
 refine N0 ?_
 refine ifE hr (fun h3 hr=>?_) fun h3 hr=>?_
 refine q0f rfl h3 ?_
 refine sr ?_
 refine N1 ?_
 refine AW.ret ?_
 cases hr
 exact q0a [] 0 hS
 refine q0g rfl (bF h3) ?_
 refine q0b ?_
 refine ssr ?_
 refine W2 ?_
 refine LF ?_
 refine N1 ?_
 refine AW.block ?_
 refine AW.len (.tmp 20 rfl) fun hl1=>?_
 refine bdE hr fun q3 hqq3 hr=>?_
 refine q0k hqq3 hl1 1 (fun k1 _=>[(1,.pb 0 0),(20,.d m (.sl 6 (a0.Rules.map Rule.D))),(21,.d .fz (.i .i64 (a0.Rules.length:Int))),(22,.d .fz (.i .i64 (k1:Int)))]) (fun k1 _=>[]) (q0e hS 1) (fun k1 xk1 sk1 ok1 hxk1 hr hltk1 hik1=>?_) fun k1 sk1 ek1 hltk1=>?_
 refine sr ?_
 refine N1 ?_
 refine q0d (q0f rfl (dT hltk1) ?_)
 refine q0b ?_
 refine q0d (AW.block (q0d (q0c ?_)))
 refine IF (Int.natCast_nonneg _) hxk1 ?_
 refine W1 ?_
 refine NV 1 ?_
 refine SB ?_
 refine N0 ?_
 refine sr ?_
 refine W2 ?_
 refine bdE hr fun y4 hy4 hr=>?_
 refine CB [(0,2)] [] (q9l (m:=m) hy4) ?_
 refine N1 ?_
 refine sr ?_
 refine W2 ?_
 refine LF ?_
 refine N1 ?_
 refine AW.block ?_
 refine AW.len (.ag 4 (.tmp 25 rfl) rfl) fun hl2=>?_
 refine bdE hr fun q4 hqq4 hr=>?_
 refine q0k hqq4 hl2 3 (fun k2 _=>[(1,.pb 0 0),(5,.ref 2 none),(20,.d m (.sl 6 (a0.Rules.map Rule.D))),(21,.d .fz (.i .i64 (a0.Rules.length:Int))),(22,.d .fz (.i .i64 (k1:Int))),(30,.d m (.sl 9 (xk1.Equations.map Equation.D))),(31,.d .fz (.i .i64 (xk1.Equations.length:Int))),(32,.d .fz (.i .i64 (k2:Int)))]) (fun k2 _=>[]) (q0e hS 3) (fun k2 xk2 sk2 ok2 hxk2 hr hltk2 hik2=>?_) fun k2 sk2 ek2 hltk2=>?_
 refine sr ?_
 refine N1 ?_
 refine q0d (q0f rfl (dT hltk2) ?_)
 refine q0b ?_
 refine q0d (AW.block (q0d (q0c ?_)))
 refine IF (Int.natCast_nonneg _) hxk2 ?_
 refine W1 ?_
 refine NV 3 ?_
 refine SB ?_
 refine N0 ?_
 refine sr ?_
 refine W3 ?_
 refine bdE hr fun y5 hy5 hr=>?_
 refine CB [] [2] (q5N (m:=.bo) hy5) ?_
 refine ifE hr (fun h4 hr=>?_) fun h4 hr=>?_
 refine VT rfl h4 ?_
 refine W3 ?_
 refine bdE hr fun y6 hy6 hr=>?_
 refine CB [] [2] (z4j (m:=.bo) hy6) ?_
 refine N2 ?_
 refine ifE hr (fun h5 hr=>?_) fun h5 hr=>?_
 refine q0g rfl (bnF h5) ?_
 refine q0b ?_
 refine q0c ?_
 refine OB _ (q3B (p:=k2) (q:=1) (q3m hltk2 hl2)) ?_
 refine N1 ?_
 cases hr
 exact⟨_,rfl,q0e hS 3⟩
 refine q0f rfl (bnT h5) ?_
 refine sr ?_
 refine N1 ?_
 refine AW.ret ?_
 cases hr
 cases hik2 _ rfl
 rename_i hr
 cases hr
 cases hik1 _ rfl
 rename_i hr
 cases hr
 exact q0a [] 0 hS
 refine VF rfl (bF h4) ?_
 iterate 5 refine AL.off ?_
 refine N1 ?_
 refine q0g rfl rfl ?_
 refine q0b ?_
 refine q0c ?_
 refine OB _ (q3B (p:=k2) (q:=1) (q3m hltk2 hl2)) ?_
 refine N1 ?_
 cases hr
 exact⟨_,rfl,q0e hS 3⟩
 subst ek2
 refine sr ?_
 refine N1 ?_
 refine q0d (q0g rfl (dF hltk2) ?_)
 refine q0i ?_
 refine q0c ?_
 refine OB _ (q3B (p:=k1) (q:=1) (q3m hltk1 hl1)) ?_
 refine N1 ?_
 cases hr
 exact⟨_,rfl,q0e hS 1⟩
 subst ek1
 refine sr ?_
 refine N1 ?_
 refine q0d (q0g rfl (dF hltk1) ?_)
 refine q0i ?_
 refine sr ?_
 refine N1 ?_
 refine AW.ret ?_
 cases hr
 exact q0a [] 0 hS
def z7C (rec_sUsesAny:Expr→(List Occurrence)→Option Bool)(a1:(List Occurrence)):Nat→Expr→Unit→Option (Unit ⊕ Bool):=fun k1 xk1 _=>
 (rec_sUsesAny xk1 a1).bind fun y2=>
 if y2=true then (
 some (.inr true)
 ) else (
 some (.inl ())
 )
def z7D (rec_sUsesAny:Expr→(List Occurrence)→Option Bool)(a1:(List Occurrence)):Nat→Expr→Unit→Option (Unit ⊕ Bool):=fun k2 xk2 _=>
 (rec_sUsesAny xk2 a1).bind fun y3=>
 if y3=true then (
 some (.inr true)
 ) else (
 some (.inl ())
 )
def q9M (rec_sUsesAny:Expr→(List Occurrence)→Option Bool)(a0:Expr)(a1:(List Occurrence)):Option Bool:=
 if a0.Kind=3 then (
 (q6p a1 (⟨a0.Pos,a0.Name⟩:Occurrence)).bind fun y1=>
 if y1=true then (
 some true
 ) else (
 (findL (z7C rec_sUsesAny a1) 0 a0.Args ()).bind <| onr (fun r1=>some r1) fun _=>
 some false
 )
 ) else (
 (findL (z7D rec_sUsesAny a1) 0 a0.Args ()).bind <| onr (fun r2=>some r2) fun _=>
 some false
 )
theorem j1f {rec_sUsesAny:Expr→(List Occurrence)→Option Bool}(ih_sUsesAny:∀ {m:Md} {a0:Expr} {a1:(List Occurrence)} {r:Bool},rec_sUsesAny a0 a1=some r→Ok Tryz.prog 93 [Expr.x m a0,.d m (.sl 2 (a1.map Occurrence.D))] [] (.d .fz (.b r)) []){m:Md}{a0:Expr}{a1:(List Occurrence)}{r:Bool}(hr:q9M rec_sUsesAny a0 a1=some r):Ok Tryz.prog 93 [Expr.x m a0,.d m (.sl 2 (a1.map Occurrence.D))] [] (.d .fz (.b r)) []:=by
 refine Ok.enter rfl Tryz.func93 rfl rfl rfl fun S hS=>?_
 unfold q9M at hr
 refine sr ?_
 refine BX 0 ?_
 refine N1 ?_
 refine ssr ?_
 refine W3 ?_
 refine ifE hr (fun h1 hr=>?_) fun h1 hr=>?_
 refine VT rfl (dT h1) ?_
 refine W5 ?_
 refine W1 ?_
 refine bdE hr fun y1 hy1 hr=>?_
 refine CB [] [] (z0f (m:=m) hy1) ?_
 refine N1 ?_
 refine ifE hr (fun h2 hr=>?_) fun h2 hr=>?_
 refine q0f rfl h2 ?_
 refine sr ?_
 refine N1 ?_
 refine AW.ret ?_
 cases hr
 exact q0a [] 0 hS
 refine q0g rfl (bF h2) ?_
 refine q0b ?_
 refine ssr ?_
 refine N1 ?_
 refine AW.block ?_
 refine AW.len (.ag 6 (.tmp 0 rfl) rfl) fun hl1=>?_
 refine bdE hr fun q1 hqq1 hr=>?_
 refine q0k hqq1 hl1 1 (fun k1 _=>[(1,.d m (.sl 2 (a1.map Occurrence.D))),(2,.pb 0 0),(5,.d .fz (.i .i64 (k1:Int)))]) (fun k1 _=>[]) (q0e hS 1) (fun k1 xk1 sk1 ok1 hxk1 hr hltk1 hik1=>?_) fun k1 sk1 ek1 hltk1=>?_
 refine ssr ?_
 refine W3 ?_
 refine LF ?_
 refine N1 ?_
 refine q0f rfl (dT hltk1) ?_
 refine q0b ?_
 refine q0d (AW.block (q0d (q0c ?_)))
 refine W3 ?_
 refine IFq (Int.natCast_nonneg _) hxk1 (Expr.D_cells xk1) ?_
 refine W2 ?_
 refine bdE hr fun y2 hy2 hr=>?_
 refine CB [] [] (ih_sUsesAny (m:=m) hy2) ?_
 refine N0 ?_
 refine ifE hr (fun h3 hr=>?_) fun h3 hr=>?_
 refine q0f rfl h3 ?_
 refine sr ?_
 refine N1 ?_
 refine AW.ret ?_
 cases hr
 cases hik1 _ rfl
 rename_i hr
 cases hr
 exact q0a [] 0 hS
 refine q0g rfl (bF h3) ?_
 refine q0b ?_
 refine q0c ?_
 refine W1 ?_
 refine OB _ (q3B (p:=k1) (q:=1) (q3m hltk1 hl1)) ?_
 refine N1 ?_
 cases hr
 exact⟨_,rfl,q0e hS 1⟩
 subst ek1
 refine ssr ?_
 refine W3 ?_
 refine LF ?_
 refine N1 ?_
 refine q0g rfl (dF hltk1) ?_
 refine q0i ?_
 refine sr ?_
 refine N1 ?_
 refine AW.ret ?_
 cases hr
 exact q0a [] 0 hS
 refine VF rfl (dF h1) ?_
 iterate 7 refine AL.off ?_
 refine N1 ?_
 refine q0g rfl rfl ?_
 refine q0b ?_
 refine ssr ?_
 refine N1 ?_
 refine AW.block ?_
 refine AW.len (.ag 6 (.tmp 0 rfl) rfl) fun hl2=>?_
 refine bdE hr fun q2 hqq2 hr=>?_
 refine q0k hqq2 hl2 1 (fun k2 _=>[(1,.d m (.sl 2 (a1.map Occurrence.D))),(2,.pb 0 0),(5,.d .fz (.i .i64 (k2:Int)))]) (fun k2 _=>[]) (q0e hS 1) (fun k2 xk2 sk2 ok2 hxk2 hr hltk2 hik2=>?_) fun k2 sk2 ek2 hltk2=>?_
 refine ssr ?_
 refine W3 ?_
 refine LF ?_
 refine N1 ?_
 refine q0f rfl (dT hltk2) ?_
 refine q0b ?_
 refine q0d (AW.block (q0d (q0c ?_)))
 refine W3 ?_
 refine IFq (Int.natCast_nonneg _) hxk2 (Expr.D_cells xk2) ?_
 refine W2 ?_
 refine bdE hr fun y3 hy3 hr=>?_
 refine CB [] [] (ih_sUsesAny (m:=m) hy3) ?_
 refine N0 ?_
 refine ifE hr (fun h4 hr=>?_) fun h4 hr=>?_
 refine q0f rfl h4 ?_
 refine sr ?_
 refine N1 ?_
 refine AW.ret ?_
 cases hr
 cases hik2 _ rfl
 rename_i hr
 cases hr
 exact q0a [] 0 hS
 refine q0g rfl (bF h4) ?_
 refine q0b ?_
 refine q0c ?_
 refine W1 ?_
 refine OB _ (q3B (p:=k2) (q:=1) (q3m hltk2 hl2)) ?_
 refine N1 ?_
 cases hr
 exact⟨_,rfl,q0e hS 1⟩
 subst ek2
 refine ssr ?_
 refine W3 ?_
 refine LF ?_
 refine N1 ?_
 refine q0g rfl (dF hltk2) ?_
 refine q0i ?_
 refine sr ?_
 refine N1 ?_
 refine AW.ret ?_
 cases hr
 exact q0a [] 0 hS
def q6E:Nat→Expr→(List Occurrence)→Option Bool
  | 0,_,_=>none
  | n+1,a0,a1=>q9M (q6E n) a0 a1
def z2j (a0:Expr)(a1:(List Occurrence)):Option Bool:=recO fun n=>q6E n a0 a1
theorem j1g (n:Nat):∀ {m:Md} {a0:Expr} {a1:(List Occurrence)} {r:Bool},q6E n a0 a1=some r→Ok Tryz.prog 93 [Expr.x m a0,.d m (.sl 2 (a1.map Occurrence.D))] [] (.d .fz (.b r)) []:=by
  induction n with
  | zero=>intro _ _ _ r hr; exact nomatch (show (none:Option Bool)=some r from hr)
  | succ n ih=>intro _ _ _ r hr; exact j1f ih hr
theorem z4A {m:Md}{a0:Expr}{a1:(List Occurrence)}{r:Bool}(hr:z2j a0 a1=some r):Ok Tryz.prog 93 [Expr.x m a0,.d m (.sl 2 (a1.map Occurrence.D))] [] (.d .fz (.b r)) []:=by
 obtain⟨n,hn⟩:=q5a hr
 exact j1g n hn
def q9n (rec_sIsMonotone:Expr→(List Occurrence)→Option Bool)(a0:Expr)(a1:(List Occurrence)):Option Bool:=
 (z2j a0 a1).bind fun y1=>
 (
 if y1=true then (
 some (decide (a0.Kind=3))
 ) else (
 some true
 )
 ).bind fun s1=>
 if s1=true then (
 some true
 ) else (
 (
 if a0.Kind=5 then (
 some (decide ((a0.Args.length:Int)=3))
 ) else (
 some false
 )
 ).bind fun s2=>
 if s2=true then (
 (a0.Args[0]?).bind fun x1=>
 (z2j x1 a1).bind fun y2=>
 (
 if y2=true then (
 some false
 ) else (
 (a0.Args[1]?).bind fun x2=>
 (rec_sIsMonotone x2 a1).bind fun y3=>
 some y3
 )
 ).bind fun s3=>
 (
 if s3=true then (
 (a0.Args[2]?).bind fun x3=>
 (rec_sIsMonotone x3 a1).bind fun y4=>
 some y4
 ) else (
 some false
 )
 ).bind fun s4=>
 some s4
 ) else (
 (
 if a0.Kind=4 then (
 some (!(decide ((a0.Args.length:Int)=2)))
 ) else (
 some true
 )
 ).bind fun s5=>
 if s5=true then (
 some false
 ) else (
 (
 if a0.N=6 then (
 some true
 ) else (
 some (decide (a0.N=7))
 )
 ).bind fun s6=>
 if s6=true then (
 (a0.Args[0]?).bind fun x4=>
 (rec_sIsMonotone x4 a1).bind fun y5=>
 (
 if y5=true then (
 (a0.Args[1]?).bind fun x5=>
 (rec_sIsMonotone x5 a1).bind fun y6=>
 some y6
 ) else (
 some false
 )
 ).bind fun s7=>
 some s7
 ) else (
 (
 if a0.N=8 then (
 some true
 ) else (
 some (decide (a0.N=12))
 )
 ).bind fun s8=>
 if s8=true then (
 (a0.Args[0]?).bind fun x6=>
 (rec_sIsMonotone x6 a1).bind fun y7=>
 (
 if y7=true then (
 (a0.Args[1]?).bind fun x7=>
 (z2j x7 a1).bind fun y8=>
 some (!y8)
 ) else (
 some false
 )
 ).bind fun s9=>
 some s9
 ) else (
 some false
 )
 )
 )
 )
 )
theorem z7E {rec_sIsMonotone:Expr→(List Occurrence)→Option Bool}(ih_sIsMonotone:∀ {m:Md} {a0:Expr} {a1:(List Occurrence)} {r:Bool},rec_sIsMonotone a0 a1=some r→Ok Tryz.prog 55 [Expr.x m a0,.d m (.sl 2 (a1.map Occurrence.D))] [] (.d .fz (.b r)) []){m:Md}{a0:Expr}{a1:(List Occurrence)}{r:Bool}(hr:q9n rec_sIsMonotone a0 a1=some r):Ok Tryz.prog 55 [Expr.x m a0,.d m (.sl 2 (a1.map Occurrence.D))] [] (.d .fz (.b r)) []:=by
 refine Ok.enter rfl Tryz.func55 rfl rfl rfl fun S hS=>?_
 unfold q9n at hr
 refine sr ?_
 refine BX 0 ?_
 refine N1 ?_
 refine ssr ?_
 refine W2 ?_
 refine bdE hr fun y1 hy1 hr=>?_
 refine CB [] [] (z4A (m:=m) hy1) ?_
 refine W1 ?_
 refine bdE hr fun s1 hqq1 hr=>?_
 refine q0h 5 [(1,.d m (.sl 2 (a1.map Occurrence.D))),(2,.pb 0 0),(13,.d .fz (.b s1))] ?_ ?_
 replace hr:=hqq1
 refine ifE hr (fun h1 hr=>?_) fun h1 hr=>?_
 refine VF rfl (bnF h1) ?_
 refine N4 ?_
 cases hr
 exact q3n
 refine VT rfl (bnT h1) ?_
 iterate 3 refine AL.off ?_
 refine N1 ?_
 cases hr
 exact q3n
 refine N0 ?_
 refine ifE hr (fun h2 hr=>?_) fun h2 hr=>?_
 refine q0f rfl h2 ?_
 refine sr ?_
 refine N1 ?_
 refine AW.ret ?_
 cases hr
 exact q0a [] 0 hS
 refine q0g rfl (bF h2) ?_
 refine q0b ?_
 refine q0d (AW.block (q0d (q0c ?_)))
 refine W3 ?_
 refine bdE hr fun s2 hqq2 hr=>?_
 refine q0h 6 [(1,.d m (.sl 2 (a1.map Occurrence.D))),(2,.pb 0 0),(23,.d .fz (.b s2))] ?_ ?_
 replace hr:=hqq2
 refine ifE hr (fun h3 hr=>?_) fun h3 hr=>?_
 refine VT rfl (dT h3) ?_
 refine W2 ?_
 refine LF ?_
 refine N2 ?_
 cases hr
 exact q3n
 refine VF rfl (dF h3) ?_
 iterate 4 refine AL.off ?_
 refine N1 ?_
 cases hr
 exact q3n
 refine N1 ?_
 refine ifE hr (fun h4 hr=>?_) fun h4 hr=>?_
 refine q0f rfl h4 ?_
 refine sr ?_
 refine W2 ?_
 refine bdE hr fun x1 hx1 hr=>?_
 refine IFq (Int.natCast_nonneg _) hx1 (Expr.D_cells x1) ?_
 refine W2 ?_
 refine bdE hr fun y2 hy2 hr=>?_
 refine CB [] [] (z4A (m:=m) hy2) ?_
 refine W1 ?_
 refine bdE hr fun s3 hqq3 hr=>?_
 refine q0h 8 [(1,.d m (.sl 2 (a1.map Occurrence.D))),(2,.pb 0 0),(38,.d .fz (.b s3))] ?_ ?_
 replace hr:=hqq3
 refine ifE hr (fun h5 hr=>?_) fun h5 hr=>?_
 refine VF rfl (bnF h5) ?_
 iterate 6 refine AL.off ?_
 refine N1 ?_
 cases hr
 exact q3n
 refine VT rfl (bnT h5) ?_
 refine W2 ?_
 refine bdE hr fun x2 hx2 hr=>?_
 refine IFq (Int.natCast_nonneg _) hx2 (Expr.D_cells x2) ?_
 refine W2 ?_
 refine bdE hr fun y3 hy3 hr=>?_
 refine CB [] [] (ih_sIsMonotone (m:=m) hy3) ?_
 refine N1 ?_
 cases hr
 exact q3n
 refine bdE hr fun s4 hqq4 hr=>?_
 refine q0h 8 [(46,.d .fz (.b s4))] ?_ ?_
 replace hr:=hqq4
 refine ifE hr (fun h6 hr=>?_) fun h6 hr=>?_
 refine VT rfl h6 ?_
 refine W2 ?_
 refine bdE hr fun x3 hx3 hr=>?_
 refine IFq (Int.natCast_nonneg _) hx3 (Expr.D_cells x3) ?_
 refine W2 ?_
 refine bdE hr fun y4 hy4 hr=>?_
 refine CB [] [] (ih_sIsMonotone (m:=m) hy4) ?_
 refine N1 ?_
 cases hr
 exact q3n
 refine VF rfl (bF h6) ?_
 iterate 6 refine AL.off ?_
 refine N1 ?_
 cases hr
 exact q3n
 refine N1 ?_
 refine AW.ret ?_
 cases hr
 exact q0a [] 0 hS
 refine q0g rfl (bF h4) ?_
 refine sr ?_
 refine W3 ?_
 refine bdE hr fun s5 hqq5 hr=>?_
 refine q0h 6 [(1,.d m (.sl 2 (a1.map Occurrence.D))),(2,.pb 0 0),(56,.d .fz (.b s5))] ?_ ?_
 replace hr:=hqq5
 refine ifE hr (fun h7 hr=>?_) fun h7 hr=>?_
 refine VF rfl (nF h7) ?_
 refine W2 ?_
 refine LF ?_
 refine N2 ?_
 cases hr
 exact q3n
 refine VT rfl (nT h7) ?_
 iterate 4 refine AL.off ?_
 refine N1 ?_
 cases hr
 exact q3n
 refine N1 ?_
 refine ifE hr (fun h8 hr=>?_) fun h8 hr=>?_
 refine q0f rfl h8 ?_
 refine sr ?_
 refine N1 ?_
 refine AW.ret ?_
 cases hr
 exact q0a [] 0 hS
 refine q0g rfl (bF h8) ?_
 refine sr ?_
 refine W3 ?_
 refine bdE hr fun s6 hqq6 hr=>?_
 refine q0h 5 [(1,.d m (.sl 2 (a1.map Occurrence.D))),(2,.pb 0 0),(65,.d .fz (.b s6))] ?_ ?_
 replace hr:=hqq6
 refine ifE hr (fun h9 hr=>?_) fun h9 hr=>?_
 refine VT rfl (dT h9) ?_
 iterate 3 refine AL.off ?_
 refine N1 ?_
 cases hr
 exact q3n
 refine VF rfl (dF h9) ?_
 refine N4 ?_
 cases hr
 exact q3n
 refine N1 ?_
 refine ifE hr (fun h10 hr=>?_) fun h10 hr=>?_
 refine q0f rfl h10 ?_
 refine sr ?_
 refine W2 ?_
 refine bdE hr fun x4 hx4 hr=>?_
 refine IFq (Int.natCast_nonneg _) hx4 (Expr.D_cells x4) ?_
 refine W2 ?_
 refine bdE hr fun y5 hy5 hr=>?_
 refine CB [] [] (ih_sIsMonotone (m:=m) hy5) ?_
 refine bdE hr fun s7 hqq7 hr=>?_
 refine q0h 8 [(79,.d .fz (.b s7))] ?_ ?_
 replace hr:=hqq7
 refine ifE hr (fun h11 hr=>?_) fun h11 hr=>?_
 refine VT rfl h11 ?_
 refine W2 ?_
 refine bdE hr fun x5 hx5 hr=>?_
 refine IFq (Int.natCast_nonneg _) hx5 (Expr.D_cells x5) ?_
 refine W2 ?_
 refine bdE hr fun y6 hy6 hr=>?_
 refine CB [] [] (ih_sIsMonotone (m:=m) hy6) ?_
 refine N1 ?_
 cases hr
 exact q3n
 refine VF rfl (bF h11) ?_
 iterate 6 refine AL.off ?_
 refine N1 ?_
 cases hr
 exact q3n
 refine N1 ?_
 refine AW.ret ?_
 cases hr
 exact q0a [] 0 hS
 refine q0g rfl (bF h10) ?_
 refine sr ?_
 refine W3 ?_
 refine bdE hr fun s8 hqq8 hr=>?_
 refine q0h 5 [(1,.d m (.sl 2 (a1.map Occurrence.D))),(2,.pb 0 0),(88,.d .fz (.b s8))] ?_ ?_
 replace hr:=hqq8
 refine ifE hr (fun h12 hr=>?_) fun h12 hr=>?_
 refine VT rfl (dT h12) ?_
 iterate 3 refine AL.off ?_
 refine N1 ?_
 cases hr
 exact q3n
 refine VF rfl (dF h12) ?_
 refine N4 ?_
 cases hr
 exact q3n
 refine N1 ?_
 refine ifE hr (fun h13 hr=>?_) fun h13 hr=>?_
 refine q0f rfl h13 ?_
 refine sr ?_
 refine W2 ?_
 refine bdE hr fun x6 hx6 hr=>?_
 refine IFq (Int.natCast_nonneg _) hx6 (Expr.D_cells x6) ?_
 refine W2 ?_
 refine bdE hr fun y7 hy7 hr=>?_
 refine CB [] [] (ih_sIsMonotone (m:=m) hy7) ?_
 refine bdE hr fun s9 hqq9 hr=>?_
 refine q0h 9 [(103,.d .fz (.b s9))] ?_ ?_
 replace hr:=hqq9
 refine ifE hr (fun h14 hr=>?_) fun h14 hr=>?_
 refine VT rfl h14 ?_
 refine W2 ?_
 refine bdE hr fun x7 hx7 hr=>?_
 refine IFq (Int.natCast_nonneg _) hx7 (Expr.D_cells x7) ?_
 refine W2 ?_
 refine bdE hr fun y8 hy8 hr=>?_
 refine CB [] [] (z4A (m:=m) hy8) ?_
 refine N2 ?_
 cases hr
 exact q3n
 refine VF rfl (bF h14) ?_
 iterate 7 refine AL.off ?_
 refine N1 ?_
 cases hr
 exact q3n
 refine N1 ?_
 refine AW.ret ?_
 cases hr
 exact q0a [] 0 hS
 refine q0g rfl (bF h13) ?_
 refine q0b ?_
 refine sr ?_
 refine N1 ?_
 refine AW.ret ?_
 cases hr
 exact q0a [] 0 hS
def q8j:Nat→Expr→(List Occurrence)→Option Bool
  | 0,_,_=>none
  | n+1,a0,a1=>q9n (q8j n) a0 a1
def z2D (a0:Expr)(a1:(List Occurrence)):Option Bool:=recO fun n=>q8j n a0 a1
theorem z7F (n:Nat):∀ {m:Md} {a0:Expr} {a1:(List Occurrence)} {r:Bool},q8j n a0 a1=some r→Ok Tryz.prog 55 [Expr.x m a0,.d m (.sl 2 (a1.map Occurrence.D))] [] (.d .fz (.b r)) []:=by
  induction n with
  | zero=>intro _ _ _ r hr; exact nomatch (show (none:Option Bool)=some r from hr)
  | succ n ih=>intro _ _ _ r hr; exact z7E ih hr
theorem z8q {m:Md}{a0:Expr}{a1:(List Occurrence)}{r:Bool}(hr:z2D a0 a1=some r):Ok Tryz.prog 55 [Expr.x m a0,.d m (.sl 2 (a1.map Occurrence.D))] [] (.d .fz (.b r)) []:=by
 obtain⟨n,hn⟩:=q5a hr
 exact z7F n hn
def z5a (rec_sHasRemote:Expr→Option Bool):Nat→Expr→Unit→Option (Unit ⊕ Bool):=fun k1 xk1 _=>
 (rec_sHasRemote xk1).bind fun y1=>
 if y1=true then (
 some (.inr true)
 ) else (
 some (.inl ())
 )
def z0n (rec_sHasRemote:Expr→Option Bool)(a0:Expr):Option Bool:=
 (findL (z5a rec_sHasRemote) 0 a0.Args ()).bind <| onr (fun r1=>some r1) fun _=>
 some (decide (a0.Kind=8))
theorem z8r {rec_sHasRemote:Expr→Option Bool}(ih_sHasRemote:∀ {m:Md} {a0:Expr} {r:Bool},rec_sHasRemote a0=some r→Ok Tryz.prog 94 [Expr.x m a0] [] (.d .fz (.b r)) []){m:Md}{a0:Expr}{r:Bool}(hr:z0n rec_sHasRemote a0=some r):Ok Tryz.prog 94 [Expr.x m a0] [] (.d .fz (.b r)) []:=by
 refine Ok.enter rfl Tryz.func94 rfl rfl rfl fun S hS=>?_
 unfold z0n at hr
 refine sr ?_
 refine BX 0 ?_
 refine N1 ?_
 refine ssr ?_
 refine N1 ?_
 refine AW.block ?_
 refine AW.len (.ag 6 (.tmp 0 rfl) rfl) fun hl1=>?_
 refine bdE hr fun q1 hqq1 hr=>?_
 refine q0k hqq1 hl1 1 (fun k1 _=>[(1,.pb 0 0),(3,.d .fz (.i .i64 (k1:Int)))]) (fun k1 _=>[]) (q0e hS 1) (fun k1 xk1 sk1 ok1 hxk1 hr hltk1 hik1=>?_) fun k1 sk1 ek1 hltk1=>?_
 refine ssr ?_
 refine W3 ?_
 refine LF ?_
 refine N1 ?_
 refine q0f rfl (dT hltk1) ?_
 refine q0b ?_
 refine q0d (AW.block (q0d (q0c ?_)))
 refine W3 ?_
 refine IFq (Int.natCast_nonneg _) hxk1 (Expr.D_cells xk1) ?_
 refine W1 ?_
 refine bdE hr fun y1 hy1 hr=>?_
 refine CB [] [] (ih_sHasRemote (m:=m) hy1) ?_
 refine N0 ?_
 refine ifE hr (fun h1 hr=>?_) fun h1 hr=>?_
 refine q0f rfl h1 ?_
 refine sr ?_
 refine N1 ?_
 refine AW.ret ?_
 cases hr
 cases hik1 _ rfl
 rename_i hr
 cases hr
 exact q0a [] 0 hS
 refine q0g rfl (bF h1) ?_
 refine q0b ?_
 refine q0c ?_
 refine W1 ?_
 refine OB _ (q3B (p:=k1) (q:=1) (q3m hltk1 hl1)) ?_
 refine N1 ?_
 cases hr
 exact⟨_,rfl,q0e hS 1⟩
 subst ek1
 refine ssr ?_
 refine W3 ?_
 refine LF ?_
 refine N1 ?_
 refine q0g rfl (dF hltk1) ?_
 refine q0i ?_
 refine sr ?_
 refine N4 ?_
 refine AW.ret ?_
 cases hr
 exact q0a [] 0 hS
def z0o:Nat→Expr→Option Bool
  | 0,_=>none
  | n+1,a0=>z0n (z0o n) a0
def z3y (a0:Expr):Option Bool:=recO fun n=>z0o n a0
theorem z8s (n:Nat):∀ {m:Md} {a0:Expr} {r:Bool},z0o n a0=some r→Ok Tryz.prog 94 [Expr.x m a0] [] (.d .fz (.b r)) []:=by
  induction n with
  | zero=>intro _ _ r hr; exact nomatch (show (none:Option Bool)=some r from hr)
  | succ n ih=>intro _ _ r hr; exact z8r ih hr
theorem z9M {m:Md}{a0:Expr}{r:Bool}(hr:z3y a0=some r):Ok Tryz.prog 94 [Expr.x m a0] [] (.d .fz (.b r)) []:=by
 obtain⟨n,hn⟩:=q5a hr
 exact z8s n hn
def z5b:Nat→Equation→Unit→Option (Unit ⊕ Bool):=fun k1 xk1 _=>
 (z3y xk1.Expr).bind fun y1=>
 if y1=true then (
 some (.inr true)
 ) else (
 some (.inl ())
 )
def z0p (a0:Rule):Option Bool:=
 (findL z5b 0 a0.Equations ()).bind <| onr (fun r1=>some r1) fun _=>
 some false
theorem z9N {m:Md}{a0:Rule}{r:Bool}(hr:z0p a0=some r):Ok Tryz.prog 56 [Rule.x m a0] [] (.d .fz (.b r)) []:=by
 refine Ok.enter rfl Tryz.func56 rfl rfl rfl fun S hS=>?_
 unfold z0p at hr
 refine sr ?_
 refine BX 0 ?_
 refine N1 ?_
 refine ssr ?_
 refine N1 ?_
 refine AW.block ?_
 refine AW.len (.ag 4 (.tmp 0 rfl) rfl) fun hl1=>?_
 refine bdE hr fun q1 hqq1 hr=>?_
 refine q0k hqq1 hl1 1 (fun k1 _=>[(1,.pb 0 0),(3,.d .fz (.i .i64 (k1:Int)))]) (fun k1 _=>[]) (q0e hS 1) (fun k1 xk1 sk1 ok1 hxk1 hr hltk1 hik1=>?_) fun k1 sk1 ek1 hltk1=>?_
 refine ssr ?_
 refine W3 ?_
 refine LF ?_
 refine N1 ?_
 refine q0f rfl (dT hltk1) ?_
 refine q0b ?_
 refine q0d (AW.block (q0d (q0c ?_)))
 refine W3 ?_
 refine IF (Int.natCast_nonneg _) hxk1 ?_
 refine W2 ?_
 refine bdE hr fun y1 hy1 hr=>?_
 refine CB [] [] (z9M (m:=m) hy1) ?_
 refine N0 ?_
 refine ifE hr (fun h1 hr=>?_) fun h1 hr=>?_
 refine q0f rfl h1 ?_
 refine sr ?_
 refine N1 ?_
 refine AW.ret ?_
 cases hr
 cases hik1 _ rfl
 rename_i hr
 cases hr
 exact q0a [] 0 hS
 refine q0g rfl (bF h1) ?_
 refine q0b ?_
 refine q0c ?_
 refine W1 ?_
 refine OB _ (q3B (p:=k1) (q:=1) (q3m hltk1 hl1)) ?_
 refine N1 ?_
 cases hr
 exact⟨_,rfl,q0e hS 1⟩
 subst ek1
 refine ssr ?_
 refine W3 ?_
 refine LF ?_
 refine N1 ?_
 refine q0g rfl (dF hltk1) ?_
 refine q0i ?_
 refine sr ?_
 refine N1 ?_
 refine AW.ret ?_
 cases hr
 exact q0a [] 0 hS
def z7G (y1:(List Occurrence)):Nat→Equation→Unit→Option (Unit ⊕ Bool):=fun k1 xk1 _=>
 (q6p y1 xk1.At).bind fun y2=>
 if y2=true then (
 (z2D xk1.Expr y1).bind fun y3=>
 if y3=true then (
 some (.inl ())
 ) else (
 some (.inr false)
 )
 ) else (
 some (.inl ())
 )
def z3Z (a0:Grammar)(a1:Rule):Option Bool:=
 (q4b a0 a1).bind fun y1=>
 (findL (z7G y1) 0 a1.Equations ()).bind <| onr (fun r1=>some r1) fun _=>
 (z0p a1).bind fun y4=>
 some (!y4)
theorem j2x {m:Md}{a0:Grammar}{a1:Rule}{r:Bool}(hr:z3Z a0 a1=some r):Ok Tryz.prog 23 [Grammar.y m a0,Rule.x m a1] [] (.d .fz (.b r)) []:=by
 refine Ok.enter rfl Tryz.func23 rfl rfl rfl fun S hS=>?_
 unfold z3Z at hr
 refine sr ?_
 refine BX 0 ?_
 refine BX 1 ?_
 refine N1 ?_
 refine sr ?_
 refine W2 ?_
 refine bdE hr fun y1 hy1 hr=>?_
 refine CB [(0,2)] [] (q7p (m:=m) hy1) ?_
 refine N1 ?_
 refine ssr ?_
 refine N1 ?_
 refine AW.block ?_
 refine AW.len (.ag 4 (.tmp 1 rfl) rfl) fun hl1=>?_
 refine bdE hr fun q1 hqq1 hr=>?_
 refine q0k hqq1 hl1 3 (fun k1 _=>[(3,.pb 1 0),(5,.ref 2 none),(6,.d .fz (.i .i64 (k1:Int)))]) (fun k1 _=>[]) (GH.trans (q0m (q:=0) [.d m (.sl 2 (a0.Symbols.map Symbol.D)),.u] (.cons .rfl (.cons .u .nil)) rfl) (q0e hS 3)) (fun k1 xk1 sk1 ok1 hxk1 hr hltk1 hik1=>?_) fun k1 sk1 ek1 hltk1=>?_
 refine ssr ?_
 refine W3 ?_
 refine LF ?_
 refine N1 ?_
 refine q0f rfl (dT hltk1) ?_
 refine q0b ?_
 refine q0d (AW.block (q0d (q0c ?_)))
 refine W4 ?_
 refine IF (Int.natCast_nonneg _) hxk1 ?_
 refine W2 ?_
 refine bdE hr fun y2 hy2 hr=>?_
 refine CB [] [2] (z0f (m:=.bo) hy2) ?_
 refine ifE hr (fun h1 hr=>?_) fun h1 hr=>?_
 refine VT rfl h1 ?_
 refine W3 ?_
 refine IF (Int.natCast_nonneg _) hxk1 ?_
 refine W3 ?_
 refine bdE hr fun y3 hy3 hr=>?_
 refine CB [] [2] (z8q (m:=.bo) hy3) ?_
 refine N2 ?_
 refine ifE hr (fun h2 hr=>?_) fun h2 hr=>?_
 refine q0g rfl (bnF h2) ?_
 refine q0b ?_
 refine q0c ?_
 refine W1 ?_
 refine OB _ (q3B (p:=k1) (q:=1) (q3m hltk1 hl1)) ?_
 refine N1 ?_
 cases hr
 exact⟨_,rfl,GH.trans (q0m (q:=0) [.d m (.sl 2 (a0.Symbols.map Symbol.D)),.u] (.cons .rfl (.cons .u .nil)) rfl) (q0e hS 3)⟩
 refine q0f rfl (bnT h2) ?_
 refine sr ?_
 refine N1 ?_
 refine AW.ret ?_
 cases hr
 cases hik1 _ rfl
 rename_i hr
 cases hr
 exact q0a [] 0 hS
 refine VF rfl (bF h1) ?_
 iterate 9 refine AL.off ?_
 refine N1 ?_
 refine q0g rfl rfl ?_
 refine q0b ?_
 refine q0c ?_
 refine W1 ?_
 refine OB _ (q3B (p:=k1) (q:=1) (q3m hltk1 hl1)) ?_
 refine N1 ?_
 cases hr
 exact⟨_,rfl,GH.trans (q0m (q:=0) [.d m (.sl 2 (a0.Symbols.map Symbol.D)),.u] (.cons .rfl (.cons .u .nil)) rfl) (q0e hS 3)⟩
 subst ek1
 refine ssr ?_
 refine W3 ?_
 refine LF ?_
 refine N1 ?_
 refine q0g rfl (dF hltk1) ?_
 refine q0i ?_
 refine sr ?_
 refine W1 ?_
 refine bdE hr fun y4 hy4 hr=>?_
 refine CB [] [] (z9N (m:=m) hy4) ?_
 refine N2 ?_
 refine AW.ret ?_
 cases hr
 exact q0a [] 0 hS
def q6v (a0:Attribute):Option Bool:=
 (q4t a0.Name).bind fun y1=>
 (
 if y1=true then (
 (q5H a0.Type_ 1 4).bind fun y2=>
 some (!y2)
 ) else (
 some true
 )
 ).bind fun s1=>
 (
 if s1=true then (
 some true
 ) else (
 (q5H a0.Mode 1 3).bind fun y3=>
 some (!y3)
 )
 ).bind fun s2=>
 if s2=true then (
 some false
 ) else (
 (
 if a0.Mode=3 then (
 (
 if a0.Type_=2 then (
 some a0.Circular
 ) else (
 some true
 )
 ).bind fun s4=>
 some s4
 ) else (
 some false
 )
 ).bind fun s3=>
 if s3=true then (
 some false
 ) else (
 (
 if a0.Circular=true then (
 some (decide (a0.Type_=2))
 ) else (
 some true
 )
 ).bind fun s5=>
 some s5
 )
 )
theorem z4g {a0:Attribute}{r:Bool}(hr:q6v a0=some r):Ok Tryz.prog 166 [Attribute.x .fz a0] [] (.d .fz (.b r)) []:=by
 refine Ok.enter rfl Tryz.func166 rfl rfl rfl fun S hS=>?_
 unfold q6v at hr
 refine sr ?_
 refine BX 0 ?_
 refine N1 ?_
 refine ssr ?_
 refine W2 ?_
 refine bdE hr fun y1 hy1 hr=>?_
 refine CB [] [] (q4Q hy1) ?_
 refine W1 ?_
 refine bdE hr fun s1 hqq1 hr=>?_
 refine q0h 6 [(1,.pb 0 0),(12,.d .fz (.b s1))] ?_ ?_
 replace hr:=hqq1
 refine ifE hr (fun h1 hr=>?_) fun h1 hr=>?_
 refine VF rfl (bnF h1) ?_
 refine W2 ?_
 refine bdE hr fun y2 hy2 hr=>?_
 refine CB [] [] (q6x hy2) ?_
 refine N2 ?_
 cases hr
 exact q3n
 refine VT rfl (bnT h1) ?_
 iterate 4 refine AL.off ?_
 refine N1 ?_
 cases hr
 exact q3n
 refine bdE hr fun s2 hqq2 hr=>?_
 refine q0h 6 [(1,.pb 0 0),(18,.d .fz (.b s2))] ?_ ?_
 replace hr:=hqq2
 refine ifE hr (fun h2 hr=>?_) fun h2 hr=>?_
 refine VT rfl h2 ?_
 iterate 4 refine AL.off ?_
 refine N1 ?_
 cases hr
 exact q3n
 refine VF rfl (bF h2) ?_
 refine W2 ?_
 refine bdE hr fun y3 hy3 hr=>?_
 refine CB [] [] (q6x hy3) ?_
 refine N2 ?_
 cases hr
 exact q3n
 refine N0 ?_
 refine ifE hr (fun h3 hr=>?_) fun h3 hr=>?_
 refine q0f rfl h3 ?_
 refine sr ?_
 refine N1 ?_
 refine AW.ret ?_
 cases hr
 exact q0a [] 0 hS
 refine q0g rfl (bF h3) ?_
 refine q0b ?_
 refine ssr ?_
 refine W3 ?_
 refine bdE hr fun s3 hqq3 hr=>?_
 refine q0h 9 [(1,.pb 0 0),(30,.d .fz (.b s3))] ?_ ?_
 replace hr:=hqq3
 refine ifE hr (fun h4 hr=>?_) fun h4 hr=>?_
 refine VT rfl (dT h4) ?_
 refine W3 ?_
 refine bdE hr fun s4 hqq4 hr=>?_
 refine q0h 4 [(1,.pb 0 0),(22,.d .fz (.b true)),(29,.d .fz (.b s4))] ?_ ?_
 replace hr:=hqq4
 refine ifE hr (fun h5 hr=>?_) fun h5 hr=>?_
 refine VF rfl (nF h5) ?_
 refine N3 ?_
 cases hr
 exact q3n
 refine VT rfl (nT h5) ?_
 iterate 2 refine AL.off ?_
 refine N1 ?_
 cases hr
 exact q3n
 refine N1 ?_
 cases hr
 exact q3n
 refine VF rfl (dF h4) ?_
 iterate 7 refine AL.off ?_
 refine N1 ?_
 cases hr
 exact q3n
 refine N0 ?_
 refine ifE hr (fun h6 hr=>?_) fun h6 hr=>?_
 refine q0f rfl h6 ?_
 refine sr ?_
 refine N1 ?_
 refine AW.ret ?_
 cases hr
 exact q0a [] 0 hS
 refine q0g rfl (bF h6) ?_
 refine q0b ?_
 refine sr ?_
 refine W3 ?_
 refine bdE hr fun s5 hqq5 hr=>?_
 refine q0h 5 [(38,.d .fz (.b s5))] ?_ ?_
 replace hr:=hqq5
 refine ifE hr (fun h7 hr=>?_) fun h7 hr=>?_
 refine VF rfl (bnF h7) ?_
 refine N4 ?_
 cases hr
 exact q3n
 refine VT rfl (bnT h7) ?_
 iterate 3 refine AL.off ?_
 refine N1 ?_
 cases hr
 exact q3n
 refine N1 ?_
 refine AW.ret ?_
 cases hr
 exact q0a [] 0 hS
end Go.Proofs.YtibagkppfnjgcaaGreat
