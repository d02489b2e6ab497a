/- What some functions of the program compute, as partial functions on plain data, and that they do; each lemma bears its conditions in its statement. -/
import Derived.Test.YtibagkppfnjgcaaGreatLift4
set_option linter.unusedVariables false
set_option linter.unusedSimpArgs false
set_option linter.ambiguousOpen false
set_option linter.unusedSectionVars false
set_option linter.unnecessarySimpa false
set_option maxRecDepth 100000
set_option maxHeartbeats 40000000
noncomputable section
namespace Go.Proofs.YtibagkppfnjgcaaGreat
open Go Go.E Go.A
def q6d (a0:Grammar)(a1:Rule):Nat→Occurrence→((List Occurrence))→Option ((List Occurrence)):=fun k1 xk1 s1=>
 (
 (q4P a1 xk1.Pos).bind fun y2=>
 (q4C a0 y2).bind fun (y3,y4)=>
 (q4m y3 xk1.Name).bind fun (y5,y6)=>
 if y5.Circular=true then (
 grd (((s1.length:Int)+1)*24≤140737488355328∧(s1.length:Int)+1≤9223372036854775807) <|
 some (s1++[xk1])
 ) else (
 some s1
 )
 ).bind fun s2=>
 some s2
def q4b (a0:Grammar)(a1:Rule):Option (List Occurrence):=
 (q7A a0 a1).bind fun y1=>
 (eachL (q6d a0 a1) 0 y1 ([]:List Occurrence)).bind fun s1=>
 some s1
theorem q7p {m:Md}{a0:Grammar}{a1:Rule}{r:(List Occurrence)}(hr:q4b a0 a1=some r):Ok Tryz.prog 10 [Grammar.y m a0,Rule.x m a1] [] (.ref 0 none) [.row .fz 2 (r.map Occurrence.D)]:=by
 refine Ok.enter rfl Tryz.func10 rfl rfl rfl fun S hS=>?_
 unfold q4b at hr
 refine sr ?_
 refine BX 0 ?_
 refine BX 1 ?_
 refine N1 ?_
 refine sr ?_
 refine L0 2 Occurrence.D ?_
 refine N1 ?_
 refine sr ?_
 refine W2 ?_
 refine bdE hr fun y1 hy1 hr=>?_
 refine CB [(0,3)] [] (z5x (m:=m) hy1) ?_
 refine N1 ?_
 refine ssr ?_
 refine N1 ?_
 refine AW.block ?_
 refine q0r 3 rfl fun hl1=>?_
 refine bdE hr fun s1 hqq1 hr=>?_
 refine q0o hqq1 hl1 4 (fun k1 s1=>[(2,.pb 0 0),(3,.pb 1 0),(5,.ref 2 none),(6,.ref 3 none),(7,.d .fz (.i .i64 (k1:Int)))]) (fun k1 s1=>[(2,.row .fz 2 (s1.map Occurrence.D))]) (GH.trans (q0m (q:=0) [.d m (.sl 2 (a0.Symbols.map Symbol.D)),.u] (.cons .rfl (.cons .u .nil)) rfl) (q0e hS 4)) (fun k1 xk1 sk1 ok1 hxk1 hr hltk1=>?_) fun k1 hltk1=>?_
 obtain⟨s1,rfl⟩:∃ y,y=sk1:=⟨_,rfl⟩
 refine ssr ?_
 refine W2 ?_
 refine LE ?_
 refine N1 ?_
 refine q0f rfl (dT hltk1) ?_
 refine q0b ?_
 refine bdE hr fun s2 hqq2 hr=>?_
 refine q0d (q0n 4 [(2,.pb 0 0),(3,.pb 1 0),(5,.ref 2 none),(6,.ref 3 none),(7,.d .fz (.i .i64 (k1:Int)))] [(2,.row .fz 2 (s2.map Occurrence.D))] ?_ ?_)
 replace hr:=hqq2
 refine AW.block (q0d (q0j (h:=?_)))
 refine W4 ?_
 refine IE hxk1 (Int.natCast_nonneg _) ?_
 refine W1 ?_
 refine LP hxk1 ?_
 refine bdE hr fun y2 hy2 hr=>?_
 refine CB [] [] (q6F (m:=m) hy2) ?_
 refine bdE hr fun q3 hq3 hr=>?_
 obtain⟨y3,y4⟩:=q3
 refine CB [(0,4)] [] (q5C (m:=m) hq3) ?_
 refine W3 ?_
 refine NV 5 ?_
 refine SB ?_
 refine N1 ?_
 refine q0d (q0j (h:=?_))
 refine W3 ?_
 refine IE hxk1 (Int.natCast_nonneg _) ?_
 refine W1 ?_
 refine LP hxk1 ?_
 refine bdE hr fun q4 hq4 hr=>?_
 obtain⟨y5,y6⟩:=q4
 refine CB [] [4] (q6U (m:=.bo) hq4) ?_
 refine W3 ?_
 refine NV 6 ?_
 refine SB ?_
 refine N1 ?_
 refine sr ?_
 refine N2 ?_
 refine ifE hr (fun h1 hr=>?_) fun h1 hr=>?_
 refine q0f rfl h1 ?_
 refine q0c ?_
 refine W3 ?_
 refine IE hxk1 (Int.natCast_nonneg _) ?_
 refine LPa hxk1 ?_
 refine LIR 7 (m:=.fz) (f:=Occurrence.D) (xs:=[xk1]) ?_
 refine ggE hr fun g1 hr=>?_
 refine APf1 (f:=Occurrence.D) 8 (fun _=>rfl) 24 g1 ?_
 refine N1 ?_
 cases hr
 exact GH.trans (q0m (q:=0) [.d m (.sl 2 (a0.Symbols.map Symbol.D)),.u] (.cons .rfl (.cons .u .nil)) rfl) (q0l hS [(0,0),(1,1),(8,2),(3,3)] 4)
 refine q0g rfl (bF h1) ?_
 refine q0b ?_
 cases hr
 exact GH.trans (q0m (q:=0) [.d m (.sl 2 (a0.Symbols.map Symbol.D)),.u] (.cons .rfl (.cons .u .nil)) rfl) (q0e hS 4)
 refine q0c ?_
 refine W1 ?_
 refine OB _ (q3B (p:=k1) (q:=1) (q3m hltk1 hl1)) ?_
 refine N1 ?_
 cases hr
 exact GH.trans (q0m (q:=0) [.d m (.sl 2 (a0.Symbols.map Symbol.D)),.u] (.cons .rfl (.cons .u .nil)) rfl) (q0e hS 4)
 refine ssr ?_
 refine W2 ?_
 refine LE ?_
 refine N1 ?_
 refine q0g rfl (dF hltk1) ?_
 refine q0i ?_
 refine sr ?_
 refine N2 ?_
 refine AW.ret ?_
 cases hr
 exact q0a [(2,0)] 1 hS
def z0e (a1:Occurrence):Nat→Occurrence→Unit→Option (Unit ⊕ Bool):=fun k1 xk1 _=>
 if xk1=a1 then (
 some (.inr true)
 ) else (
 some (.inl ())
 )
def q6p (a0:(List Occurrence))(a1:Occurrence):Option Bool:=
 (findL (z0e a1) 0 a0 ()).bind <| onr (fun r1=>some r1) fun _=>
 some false
theorem z0f {m:Md}{a0:(List Occurrence)}{a1:Occurrence}{r:Bool}(hr:q6p a0 a1=some r):Ok Tryz.prog 42 [.d m (.sl 2 (a0.map Occurrence.D)),Occurrence.x .fz a1] [] (.d .fz (.b r)) []:=by
 refine Ok.enter rfl Tryz.func42 rfl rfl rfl fun S hS=>?_
 unfold q6p at hr
 refine sr ?_
 refine BX 0 ?_
 refine N1 ?_
 refine ssr ?_
 refine N1 ?_
 refine AW.block ?_
 refine AW.len (.tmp 0 rfl) fun hl1=>?_
 refine bdE hr fun q1 hqq1 hr=>?_
 refine q0k hqq1 hl1 1 (fun k1 _=>[(0,.d m (.sl 2 (a0.map Occurrence.D))),(3,.pb 0 0),(5,.d .fz (.i .i64 (k1:Int)))]) (fun k1 _=>[]) (q0e hS 1) (fun k1 xk1 sk1 ok1 hxk1 hr hltk1 hik1=>?_) fun k1 sk1 ek1 hltk1=>?_
 refine ssr ?_
 refine W2 ?_
 refine LF ?_
 refine N1 ?_
 refine q0f rfl (dT hltk1) ?_
 refine q0b ?_
 refine q0d (AW.block (q0d (q0j (h:=?_))))
 refine W2 ?_
 refine IF (Int.natCast_nonneg _) hxk1 ?_
 refine W2 ?_
 refine SQ rfl rfl rfl rfl (q5n xk1 a1) ?_
 refine N0 ?_
 refine ifE hr (fun h1 hr=>?_) fun h1 hr=>?_
 refine q0f rfl (dT h1) ?_
 refine sr ?_
 refine N1 ?_
 refine AW.ret ?_
 cases hr
 cases hik1 _ rfl
 rename_i hr
 cases hr
 exact q0a [] 0 hS
 refine q0g rfl (dF h1) ?_
 refine q0b ?_
 refine q0c ?_
 refine W1 ?_
 refine OB _ (q3B (p:=k1) (q:=1) (q3m hltk1 hl1)) ?_
 refine N1 ?_
 cases hr
 exact⟨_,rfl,q0e hS 1⟩
 subst ek1
 refine ssr ?_
 refine W2 ?_
 refine LF ?_
 refine N1 ?_
 refine q0g rfl (dF hltk1) ?_
 refine q0i ?_
 refine sr ?_
 refine N1 ?_
 refine AW.ret ?_
 cases hr
 exact q0a [] 0 hS
def q6X (rec_sl32Set:(List Occurrence)→Int→l1Cur→Option (Expr × l1Cur))(a1:(List Occurrence))(a2:Int)(o0:l1Cur):Option (Expr × l1Cur):=
 if a2 < 2 then (
 (q5S 2 a1 o0).bind fun (y1,z1)=>
 some (y1,(⟨o0.b,z1.i,z1.h⟩:l1Cur))
 ) else (
 (q4g 3 o0).bind fun (y2,z2)=>
 if y2=true then (
 (q5S 2 a1 (⟨o0.b,z2.i,z2.h⟩:l1Cur)).bind fun (y3,z3)=>
 some (y3,(⟨o0.b,z3.i,z3.h⟩:l1Cur))
 ) else (
 grd (I64 (a2 - 1)) <|
 (rec_sl32Set a1 (a2 - 1) (⟨o0.b,z2.i,z2.h⟩:l1Cur)).bind fun (y4,z4)=>
 (q3q 6 (⟨o0.b,z4.i,z4.h⟩:l1Cur)).bind fun (y5,z5)=>
 if y5=0 then (
 grd (I64 (a2 - 1)) <|
 (rec_sl32Set a1 (a2 - 1) (⟨o0.b,z5.i,z5.h⟩:l1Cur)).bind fun (y6,z6)=>
 (q8L 7 y4 y6).bind fun y7=>
 some (y7,(⟨o0.b,z6.i,z6.h⟩:l1Cur))
 ) else (
 if y5=1 then (
 (q3q 64 (⟨o0.b,z5.i,z5.h⟩:l1Cur)).bind fun (y8,z7)=>
 (q5z y8 2).bind fun y9=>
 (q8L 8 y4 y9).bind fun y10=>
 some (y10,(⟨o0.b,z7.i,z7.h⟩:l1Cur))
 ) else (
 if y5=2 then (
 (q3q 9 (⟨o0.b,z5.i,z5.h⟩:l1Cur)).bind fun (y11,z8)=>
 (q5z y11 1).bind fun y12=>
 (q8L 12 y4 y12).bind fun y13=>
 some (y13,(⟨o0.b,z8.i,z8.h⟩:l1Cur))
 ) else (
 grd (I64 (a2 - 1)) <|
 (rec_sl32Set a1 (a2 - 1) (⟨o0.b,z5.i,z5.h⟩:l1Cur)).bind fun (y14,z9)=>
 (q8L 6 y4 y14).bind fun y15=>
 some (y15,(⟨o0.b,z9.i,z9.h⟩:l1Cur))
 )
 )
 )
 )
 )
theorem j2o {rec_sl32Set:(List Occurrence)→Int→l1Cur→Option (Expr × l1Cur)}(ih_sl32Set:∀ {m:Md} {a1:(List Occurrence)} {a2:Int} {o0:l1Cur} {r:(Expr × l1Cur)},rec_sl32Set a1 a2 o0=some r→Ok Tryz.prog 43 [.pb 0 0,.d m (.sl 2 (a1.map Occurrence.D)),.d .fz (.i .i64 a2)] [.box [.d .fz (.sl 1 (o0.b.map byD)),.d .fz (.i .i64 o0.i),.d .fz (.i .i64 o0.h)]] (.ag [.d .fz (.i .i64 r.1.Kind),.d .fz (.i .i64 r.1.N),.d .fz (.i .i64 r.1.Pos),.d .fz (.i .i64 r.1.Type_),.d .fz (.s r.1.Symbol),.d .fz (.s r.1.Name),.ref 1 none]) [.box [.d .fz (.sl 1 (o0.b.map byD)),.d .fz (.i .i64 r.2.i),.d .fz (.i .i64 r.2.h)],.row .fz 7 (r.1.Args.map Expr.D)]){m:Md}{a1:(List Occurrence)}{a2:Int}{o0:l1Cur}{r:(Expr × l1Cur)}(hr:q6X rec_sl32Set a1 a2 o0=some r):Ok Tryz.prog 43 [.pb 0 0,.d m (.sl 2 (a1.map Occurrence.D)),.d .fz (.i .i64 a2)] [.box [.d .fz (.sl 1 (o0.b.map byD)),.d .fz (.i .i64 o0.i),.d .fz (.i .i64 o0.h)]] (.ag [.d .fz (.i .i64 r.1.Kind),.d .fz (.i .i64 r.1.N),.d .fz (.i .i64 r.1.Pos),.d .fz (.i .i64 r.1.Type_),.d .fz (.s r.1.Symbol),.d .fz (.s r.1.Name),.ref 1 none]) [.box [.d .fz (.sl 1 (o0.b.map byD)),.d .fz (.i .i64 r.2.i),.d .fz (.i .i64 r.2.h)],.row .fz 7 (r.1.Args.map Expr.D)]:=by
 refine Ok.enter rfl Tryz.func43 rfl rfl rfl fun S hS=>?_
 unfold q6X at hr
 refine sr ?_
 refine NV 1 ?_
 refine N0 ?_
 refine ssr ?_
 refine W2 ?_
 refine ifE hr (fun h1 hr=>?_) fun h1 hr=>?_
 refine VT rfl (dT h1) ?_
 iterate 2 refine AL.off ?_
 refine N1 ?_
 refine q0f rfl rfl ?_
 refine sr ?_
 refine W2 ?_
 refine bdE hr fun q1 hq1 hr=>?_
 obtain⟨y1,z1⟩:=q1
 refine CB [(0,0),(1,2)] [] (q6V (m:=m) hq1) ?_
 refine SB ?_
 refine N0 ?_
 refine AW.ret ?_
 cases hr
 exact q0a [(0,0),(2,1)] 2 hS
 refine VF rfl (dF h1) ?_
 refine W1 ?_
 refine bdE hr fun q2 hq2 hr=>?_
 obtain⟨y2,z2⟩:=q2
 refine CB [(0,0)] [] (q4y hq2) ?_
 refine N1 ?_
 refine ifE hr (fun h2 hr=>?_) fun h2 hr=>?_
 refine q0f rfl h2 ?_
 refine sr ?_
 refine W2 ?_
 refine bdE hr fun q3 hq3 hr=>?_
 obtain⟨y3,z3⟩:=q3
 refine CB [(0,0),(1,2)] [] (q6V (m:=m) hq3) ?_
 refine SB ?_
 refine N0 ?_
 refine AW.ret ?_
 cases hr
 exact q0a [(0,0),(2,1)] 2 hS
 refine q0g rfl (bF h2) ?_
 refine q0b ?_
 refine sr ?_
 refine W3 ?_
 refine ggE hr fun g1 hr=>?_
 refine OB _ (bSub g1) ?_
 refine bdE hr fun q4 hq4 hr=>?_
 obtain⟨y4,z4⟩:=q4
 refine CB [(0,0),(1,2)] [] (ih_sl32Set (m:=m) hq4) ?_
 refine NV 3 ?_
 refine SB ?_
 refine N0 ?_
 refine ssr ?_
 refine W1 ?_
 refine bdE hr fun q5 hq5 hr=>?_
 obtain⟨y5,z5⟩:=q5
 refine CB [(0,0)] [] (q3s hq5) ?_
 refine N0 ?_
 refine AW.block (q0d (q0c ?_))
 refine N2 ?_
 refine ifE hr (fun h3 hr=>?_) fun h3 hr=>?_
 refine q0f rfl (dT h3) ?_
 refine AW.fz 2 rfl ?_
 refine q0d (q0j (h:=?_))
 refine W4 ?_
 refine ggE hr fun g2 hr=>?_
 refine OB _ (bSub g2) ?_
 refine bdE hr fun q6 hq6 hr=>?_
 obtain⟨y6,z6⟩:=q6
 refine CBz 4 [(0,0),(1,4)] [] (ih_sl32Set (m:=m) hq6) ?_
 refine bdE hr fun y7 hy7 hr=>?_
 refine CB [(0,5)] [] (q8G (m:=.fz) hy7) ?_
 refine SB ?_
 refine N0 ?_
 refine AW.ret ?_
 cases hr
 exact q0a [(0,0),(5,1)] 2 hS
 refine q0g rfl (dF h3) ?_
 refine sr ?_
 refine N2 ?_
 refine ifE hr (fun h4 hr=>?_) fun h4 hr=>?_
 refine q0f rfl (dT h4) ?_
 refine AW.fz 2 rfl ?_
 refine q0d (q0j (h:=?_))
 refine W2 ?_
 refine bdE hr fun q7 hq7 hr=>?_
 obtain⟨y8,z7⟩:=q7
 refine CB [(0,0)] [] (q3s hq7) ?_
 refine bdE hr fun y9 hy9 hr=>?_
 refine CBz 4 [(0,4)] [] (q7n hy9) ?_
 refine bdE hr fun y10 hy10 hr=>?_
 refine CB [(0,5)] [] (q8G (m:=.fz) hy10) ?_
 refine SB ?_
 refine N0 ?_
 refine AW.ret ?_
 cases hr
 exact q0a [(0,0),(5,1)] 2 hS
 refine q0g rfl (dF h4) ?_
 refine sr ?_
 refine N2 ?_
 refine ifE hr (fun h5 hr=>?_) fun h5 hr=>?_
 refine q0f rfl (dT h5) ?_
 refine AW.fz 2 rfl ?_
 refine q0d (q0j (h:=?_))
 refine W2 ?_
 refine bdE hr fun q8 hq8 hr=>?_
 obtain⟨y11,z8⟩:=q8
 refine CB [(0,0)] [] (q3s hq8) ?_
 refine bdE hr fun y12 hy12 hr=>?_
 refine CBz 4 [(0,4)] [] (q7n hy12) ?_
 refine bdE hr fun y13 hy13 hr=>?_
 refine CB [(0,5)] [] (q8G (m:=.fz) hy13) ?_
 refine SB ?_
 refine N0 ?_
 refine AW.ret ?_
 cases hr
 exact q0a [(0,0),(5,1)] 2 hS
 refine q0g rfl (dF h5) ?_
 refine q0b ?_
 refine AW.fz 2 rfl ?_
 refine q0d (q0j (h:=?_))
 refine W4 ?_
 refine ggE hr fun g3 hr=>?_
 refine OB _ (bSub g3) ?_
 refine bdE hr fun q9 hq9 hr=>?_
 obtain⟨y14,z9⟩:=q9
 refine CBz 4 [(0,0),(1,4)] [] (ih_sl32Set (m:=m) hq9) ?_
 refine bdE hr fun y15 hy15 hr=>?_
 refine CB [(0,5)] [] (q8G (m:=.fz) hy15) ?_
 refine SB ?_
 refine N0 ?_
 refine AW.ret ?_
 cases hr
 exact q0a [(0,0),(5,1)] 2 hS
def q6q:Nat→(List Occurrence)→Int→l1Cur→Option (Expr × l1Cur)
  | 0,_,_,_=>none
  | n+1,a1,a2,o0=>q6X (q6q n) a1 a2 o0
def z7k (a1:(List Occurrence))(a2:Int)(o0:l1Cur):Option (Expr × l1Cur):=recO fun n=>q6q n a1 a2 o0
theorem j2p (n:Nat):∀ {m:Md} {a1:(List Occurrence)} {a2:Int} {o0:l1Cur} {r:(Expr × l1Cur)},q6q n a1 a2 o0=some r→Ok Tryz.prog 43 [.pb 0 0,.d m (.sl 2 (a1.map Occurrence.D)),.d .fz (.i .i64 a2)] [.box [.d .fz (.sl 1 (o0.b.map byD)),.d .fz (.i .i64 o0.i),.d .fz (.i .i64 o0.h)]] (.ag [.d .fz (.i .i64 r.1.Kind),.d .fz (.i .i64 r.1.N),.d .fz (.i .i64 r.1.Pos),.d .fz (.i .i64 r.1.Type_),.d .fz (.s r.1.Symbol),.d .fz (.s r.1.Name),.ref 1 none]) [.box [.d .fz (.sl 1 (o0.b.map byD)),.d .fz (.i .i64 r.2.i),.d .fz (.i .i64 r.2.h)],.row .fz 7 (r.1.Args.map Expr.D)]:=by
  induction n with
  | zero=>intro _ _ _ _ r hr; exact nomatch (show (none:Option (Expr × l1Cur))=some r from hr)
  | succ n ih=>intro _ _ _ _ r hr; exact j2o ih hr
theorem j4x {m:Md}{a1:(List Occurrence)}{a2:Int}{o0:l1Cur}{r:(Expr × l1Cur)}(hr:z7k a1 a2 o0=some r):Ok Tryz.prog 43 [.pb 0 0,.d m (.sl 2 (a1.map Occurrence.D)),.d .fz (.i .i64 a2)] [.box [.d .fz (.sl 1 (o0.b.map byD)),.d .fz (.i .i64 o0.i),.d .fz (.i .i64 o0.h)]] (.ag [.d .fz (.i .i64 r.1.Kind),.d .fz (.i .i64 r.1.N),.d .fz (.i .i64 r.1.Pos),.d .fz (.i .i64 r.1.Type_),.d .fz (.s r.1.Symbol),.d .fz (.s r.1.Name),.ref 1 none]) [.box [.d .fz (.sl 1 (o0.b.map byD)),.d .fz (.i .i64 r.2.i),.d .fz (.i .i64 r.2.h)],.row .fz 7 (r.1.Args.map Expr.D)]:=by
 obtain⟨n,hn⟩:=q5a hr
 exact j2p n hn
def z4t (o0:l1Cur)(s4:Int):(Int × Int × Int × (List Symbol))→Option ((Int × Int × Int × (List Symbol)) ⊕ (Int × Int × (List Symbol))):=fun (s11,s12,s13,s14)=>
 grd (0≤s4) <|
 (s14[s4.toNat]?).bind fun x1=>
 if s11 < (x1.Attributes.length:Int) then (
 (
 grd (0≤s11) <|
 (x1.Attributes[s11.toNat]?).bind fun x2=>
 if x2.Type_=2 then (
 (q4g 4 (⟨o0.b,s12,s13⟩:l1Cur)).bind fun (y2,z2)=>
 if y2=true then (
 some (s14,z2.i,z2.h)
 ) else (
 some ((List.set s14 s4.toNat (⟨x1.Name,(List.set x1.Attributes s11.toNat (⟨x2.Name,x2.Type_,x2.Mode,true⟩:Attribute))⟩:Symbol)),z2.i,z2.h)
 )
 ) else (
 some (s14,s12,s13)
 )
 ).bind fun (s15,s16,s17)=>
 grd (I64 (s11+1)) <|
 some (.inl ((s11+1),s16,s17,s15))
 ) else (
 some (.inr (s12,s13,s14))
 )
def z7l (o0:l1Cur):(Int × Int × Int × (List Symbol))→Option ((Int × Int × Int × (List Symbol)) ⊕ (Int × Int × (List Symbol))):=fun (s4,s5,s6,s7)=>
 if s4 < (s7.length:Int) then (
 (q5m (z4t o0 s4) (0,s5,s6,s7)).bind fun (s8,s9,s10)=>
 grd (I64 (s4+1)) <|
 some (.inl ((s4+1),s8,s9,s10))
 ) else (
 some (.inr (s5,s6,s7))
 )
def z4u (o0:l1Cur)(s3:List Symbol)(s24:List Rule)(x3:Rule)(y3:(List Occurrence)):(Int × Int × Int × (List Equation))→Option ((Int × Int × Int × (List Equation)) ⊕ (Int × Int × (List Equation))):=fun (s28,s29,s30,s31)=>
 if s28 < (s31.length:Int) then (
 (
 grd (0≤s28) <|
 (s31[s28.toNat]?).bind fun x4=>
 (q6p y3 x4.At).bind fun y4=>
 if y4=true then (
 (q4g 16 (⟨o0.b,s29,s30⟩:l1Cur)).bind fun (y5,z3)=>
 if y5=true then (
 some (z3.i,z3.h,s31)
 ) else (
 (q8W (⟨s3,s24⟩:Grammar) (⟨x3.Name,x3.Left,x3.Right,x3.Literal,s31,x3.Contributions⟩:Rule) 2).bind fun y6=>
 (z7k y6 3 (⟨o0.b,z3.i,z3.h⟩:l1Cur)).bind fun (y7,z4)=>
 some (z4.i,z4.h,(List.set s31 s28.toNat (⟨x4.At,y7⟩:Equation)))
 )
 ) else (
 some (s29,s30,s31)
 )
 ).bind fun (s32,s33,s34)=>
 grd (I64 (s28+1)) <|
 some (.inl ((s28+1),s32,s33,s34))
 ) else (
 some (.inr (s29,s30,s31))
 )
def z7m (o0:l1Cur)(s3:List Symbol):(Int × Int × Int × (List Rule))→Option ((Int × Int × Int × (List Rule)) ⊕ (Int × Int × (List Rule))):=fun (s21,s22,s23,s24)=>
 if s21 < (s24.length:Int) then (
 grd (0≤s21) <|
 (s24[s21.toNat]?).bind fun x3=>
 (q4b (⟨s3,s24⟩:Grammar) x3).bind fun y3=>
 (q5m (z4u o0 s3 s24 x3 y3) (0,s22,s23,x3.Equations)).bind fun (s25,s26,s27)=>
 grd (I64 (s21+1)) <|
 some (.inl ((s21+1),s25,s26,(List.set s24 s21.toNat (⟨x3.Name,x3.Left,x3.Right,x3.Literal,s27,x3.Contributions⟩:Rule))))
 ) else (
 some (.inr (s22,s23,s24))
 )
def z2c (o0:l1Cur):Option (Grammar × l1Cur):=
 (z0K true o0).bind fun (y1,z1)=>
 (q5m (z7l o0) (0,z1.i,z1.h,y1.Symbols)).bind fun (s1,s2,s3)=>
 (q5m (z7m o0 s3) (0,s1,s2,y1.Rules)).bind fun (s18,s19,s20)=>
 some ((⟨s3,s20⟩:Grammar),(⟨o0.b,s18,s19⟩:l1Cur))
theorem j2q {o0:l1Cur}{r:(Grammar × l1Cur)}(hr:z2c o0=some r):Ok Tryz.prog 17 [.pb 0 0] [.box [.d .fz (.sl 1 (o0.b.map byD)),.d .fz (.i .i64 o0.i),.d .fz (.i .i64 o0.h)]] (.ag [.ref 1 none,.ref 2 none]) [.box [.d .fz (.sl 1 (o0.b.map byD)),.d .fz (.i .i64 r.2.i),.d .fz (.i .i64 r.2.h)],.deep .fz 2 (r.1.Symbols.map Symbol.O) [],.deep .fz 6 (r.1.Rules.map Rule.O) []]:=by
 refine Ok.enter rfl Tryz.func17 rfl rfl rfl fun S hS=>?_
 unfold z2c at hr
 refine sr ?_
 refine NV 1 ?_
 refine N0 ?_
 refine sr ?_
 refine W1 ?_
 refine bdE hr fun q1 hq1 hr=>?_
 obtain⟨y1,z1⟩:=q1
 refine CB [(0,0),(1,2),(2,3)] [] (z7j hq1) ?_
 refine NV 4 ?_
 refine SB ?_
 refine N0 ?_
 refine ssr ?_
 refine N1 ?_
 refine bdE hr fun q2 hqq2 hr=>?_
 obtain⟨s1,s2,s3⟩:=q2
 refine q0n 5 [(0,.pb 0 0),(2,.pb 1 0),(3,.pb 4 0)] [(0,.box [.d .fz (.sl 1 (o0.b.map byD)),.d .fz (.i .i64 s1),.d .fz (.i .i64 s2)]),(2,.deep .fz 2 (s3.map Symbol.O) [])] ?_ ?_
 refine AW.block (q0q hqq2 5 (fun (s4,s5,s6,s7)=>[(0,.pb 0 0),(2,.pb 1 0),(3,.pb 4 0),(4,.d .fz (.i .i64 s4))]) (fun (s4,s5,s6,s7)=>[(0,.box [.d .fz (.sl 1 (o0.b.map byD)),.d .fz (.i .i64 s5),.d .fz (.i .i64 s6)]),(2,.deep .fz 2 (s7.map Symbol.O) [])]) (q0e hS 5) fun sk1 ok1 hr hik1=>?_)
 obtain⟨s4,s5,s6,s7⟩:=sk1
 have hr:=hr
 refine ssr ?_
 refine W3 ?_
 refine LEd s7.length ?_
 refine N1 ?_
 refine ifE hr (fun h1 hr=>?_) fun h1 hr=>?_
 refine q0f rfl (dT h1) ?_
 refine q0b ?_
 refine q0d (AW.block (q0d (q0c ?_)))
 refine N1 ?_
 refine bdE hr fun q3 hqq3 hr=>?_
 obtain⟨s8,s9,s10⟩:=q3
 refine q0n 5 [(0,.pb 0 0),(2,.pb 1 0),(3,.pb 4 0),(4,.d .fz (.i .i64 s4))] [(0,.box [.d .fz (.sl 1 (o0.b.map byD)),.d .fz (.i .i64 s8),.d .fz (.i .i64 s9)]),(2,.deep .fz 2 (s10.map Symbol.O) [])] ?_ ?_
 refine AW.block (q0q hqq3 5 (fun (s11,s12,s13,s14)=>[(0,.pb 0 0),(2,.pb 1 0),(3,.pb 4 0),(4,.d .fz (.i .i64 s4)),(5,.d .fz (.i .i64 s11))]) (fun (s11,s12,s13,s14)=>[(0,.box [.d .fz (.sl 1 (o0.b.map byD)),.d .fz (.i .i64 s12),.d .fz (.i .i64 s13)]),(2,.deep .fz 2 (s14.map Symbol.O) [])]) (q0e hS 5) fun sk2 ok2 hr hik2=>?_)
 obtain⟨s11,s12,s13,s14⟩:=sk2
 have hr:=hr
 refine ssr ?_
 refine W4 ?_
 refine ggE hr fun g1 hr=>?_
 refine bdE hr fun x1 hx1 hr=>?_
 refine IEd g1 (q3A hx1) ?_
 refine W1 ?_
 refine AL.out 2 s4.toNat 1 5 (q3A hx1) ?_
 refine LPd [(1,5)] (q3u (q3A hx1)) ?_
 refine LE ?_
 refine N1 ?_
 refine ifE hr (fun h2 hr=>?_) fun h2 hr=>?_
 refine q0f rfl (dT h2) ?_
 refine q0b ?_
 refine q0d ?_
 refine q3h 2 s4.toNat 1 5 (q3u (q3A hx1)) ?_
 refine q3i 2 rfl (he:=j2c (f:=Symbol.O) hx1 (by first | rfl | (simp only [List.set_set]; rfl))) ?_
 refine bdE hr fun q4 hqq4 hr=>?_
 obtain⟨s15,s16,s17⟩:=q4
 refine q0n 6 [(0,.pb 0 0),(2,.pb 1 0),(3,.pb 4 0),(4,.d .fz (.i .i64 s4)),(5,.d .fz (.i .i64 s11))] [(0,.box [.d .fz (.sl 1 (o0.b.map byD)),.d .fz (.i .i64 s16),.d .fz (.i .i64 s17)]),(2,.deep .fz 2 (s15.map Symbol.O) []),(5,.none)] ?_ ?_
 replace hr:=hqq4
 refine AW.block (q0d (q0c ?_))
 refine W3 ?_
 refine IEd g1 (q3A hx1) ?_
 refine W1 ?_
 refine AL.out 2 s4.toNat 1 6 (q3A hx1) ?_
 refine LPd [(1,6)] (q3u (q3A hx1)) ?_
 refine W1 ?_
 refine ggE hr fun g2 hr=>?_
 refine bdE hr fun x2 hx2 hr=>?_
 refine IE hx2 g2 ?_
 refine W1 ?_
 refine LP hx2 ?_
 refine W1 ?_
 refine ifE hr (fun h3 hr=>?_) fun h3 hr=>?_
 refine VT rfl (dT h3) ?_
 refine W1 ?_
 refine bdE hr fun q5 hq5 hr=>?_
 obtain⟨y2,z2⟩:=q5
 refine CB [(0,0)] [] (q4y hq5) ?_
 refine N2 ?_
 refine ifE hr (fun h4 hr=>?_) fun h4 hr=>?_
 refine q0g rfl (bnF h4) ?_
 refine q0b ?_
 cases hr
 exact GH.trans (q0v 2 s4.toNat 1 6 (q3u (q3A hx1))) (GH.trans (q0u 2 (he:=j2c (f:=Symbol.O) hx1 (by first | rfl | (simp only [List.set_set]; rfl)))) (q0l hS [(0,0),(1,1),(2,2),(3,3),(4,4)] 6))
 refine q0f rfl (bnT h4) ?_
 refine q0c ?_
 refine W3 ?_
 refine IEd g1 (q3u (q3A hx1)) ?_
 refine W1 ?_
 refine LPd [(1,6)] (q3u (q3A hx1)) ?_
 refine W1 ?_
 refine IE hx2 g2 ?_
 refine W1 ?_
 refine SE (⟨x2.Name,x2.Type_,x2.Mode,true⟩:Attribute) hx2 ?_
 refine N0 ?_
 cases hr
 exact GH.trans (q0v 2 s4.toNat 1 6 (q3u (q3A hx1))) (GH.trans (q0u 2 (he:=eset (f:=Symbol.O) (x':=(⟨x1.Name,(List.set x1.Attributes s11.toNat (⟨x2.Name,x2.Type_,x2.Mode,true⟩:Attribute))⟩:Symbol)) (by first | rfl | (simp only [List.set_set]; rfl)))) (q0l hS [(0,0),(1,1),(2,2),(3,3),(4,4)] 6))
 refine VF rfl (dF h3) ?_
 iterate 3 refine AL.off ?_
 refine N1 ?_
 refine q0g rfl rfl ?_
 refine q0b ?_
 cases hr
 exact GH.trans (q0v 2 s4.toNat 1 6 (q3u (q3A hx1))) (GH.trans (q0u 2 (he:=j2c (f:=Symbol.O) hx1 (by first | rfl | (simp only [List.set_set]; rfl)))) (q0l hS [(0,0),(1,1),(2,2),(3,3),(4,4)] 6))
 refine q0c ?_
 refine W1 ?_
 refine ggE hr fun g3 hr=>?_
 refine OB _ (bAdd g3) ?_
 refine N1 ?_
 cases hr
 exact⟨_,rfl,q0e hS 5⟩
 refine q0g rfl (dF h2) ?_
 refine q0i ?_
 cases hr
 cases hik2 _ rfl
 exact GH.trans (q0v 2 s4.toNat 1 5 (q3u (q3A hx1))) (GH.trans (q0u 2 (he:=j2c (f:=Symbol.O) hx1 (by first | rfl | (simp only [List.set_set]; rfl)))) (q0e hS 5))
 refine q0c ?_
 refine W1 ?_
 refine ggE hr fun g4 hr=>?_
 refine OB _ (bAdd g4) ?_
 refine N1 ?_
 cases hr
 exact⟨_,rfl,q0e hS 5⟩
 refine q0g rfl (dF h1) ?_
 refine q0i ?_
 cases hr
 cases hik1 _ rfl
 exact q0e hS 5
 refine ssr ?_
 refine N1 ?_
 refine bdE hr fun q6 hqq6 hr=>?_
 obtain⟨s18,s19,s20⟩:=q6
 refine q0n 5 [(2,.pb 1 0),(3,.pb 4 0)] [(0,.box [.d .fz (.sl 1 (o0.b.map byD)),.d .fz (.i .i64 s18),.d .fz (.i .i64 s19)]),(3,.deep .fz 6 (s20.map Rule.O) [])] ?_ ?_
 refine AW.block (q0q hqq6 5 (fun (s21,s22,s23,s24)=>[(0,.pb 0 0),(2,.pb 1 0),(3,.pb 4 0),(6,.d .fz (.i .i64 s21))]) (fun (s21,s22,s23,s24)=>[(0,.box [.d .fz (.sl 1 (o0.b.map byD)),.d .fz (.i .i64 s22),.d .fz (.i .i64 s23)]),(3,.deep .fz 6 (s24.map Rule.O) [])]) (q0e hS 5) fun sk3 ok3 hr hik3=>?_)
 obtain⟨s21,s22,s23,s24⟩:=sk3
 have hr:=hr
 refine ssr ?_
 refine W3 ?_
 refine LEd s24.length ?_
 refine N1 ?_
 refine ifE hr (fun h5 hr=>?_) fun h5 hr=>?_
 refine q0f rfl (dT h5) ?_
 refine q0b ?_
 refine q0d (AW.block (q0d (q0c ?_)))
 refine W3 ?_
 refine ggE hr fun g5 hr=>?_
 refine bdE hr fun x3 hx3 hr=>?_
 refine IEd g5 (q3A hx3) ?_
 refine AL.out 3 s21.toNat 2 5 (q3A hx3) ?_
 refine AL.out 3 s21.toNat 4 6 (q3u (q3A hx3)) ?_
 refine AL.out 3 s21.toNat 5 7 (q3u (q3u (q3A hx3))) ?_
 refine LPad [(5,7),(4,6),(2,5)] (q3u (q3u (q3u (q3A hx3)))) ?_
 refine NV 8 ?_
 refine SB ?_
 refine N0 ?_
 refine sr ?_
 refine W2 ?_
 refine bdE hr fun y3 hy3 hr=>?_
 refine CB [(0,9)] [2,5,6,7] (q7p (m:=.bo) hy3) ?_
 refine N1 ?_
 refine sr ?_
 refine N1 ?_
 refine bdE hr fun q7 hqq7 hr=>?_
 obtain⟨s25,s26,s27⟩:=q7
 refine q0n 10 [(0,.pb 0 0),(2,.pb 1 0),(3,.pb 4 0),(6,.d .fz (.i .i64 s21))] [(0,.box [.d .fz (.sl 1 (o0.b.map byD)),.d .fz (.i .i64 s25),.d .fz (.i .i64 s26)]),(6,.row .fz 9 (s27.map Equation.D))] ?_ ?_
 refine AW.block (q0q hqq7 10 (fun (s28,s29,s30,s31)=>[(0,.pb 0 0),(2,.pb 1 0),(3,.pb 4 0),(6,.d .fz (.i .i64 s21)),(7,.pb 8 0),(8,.ref 9 none),(9,.d .fz (.i .i64 s28))]) (fun (s28,s29,s30,s31)=>[(0,.box [.d .fz (.sl 1 (o0.b.map byD)),.d .fz (.i .i64 s29),.d .fz (.i .i64 s30)]),(6,.row .fz 9 (s31.map Equation.D))]) (q0e hS 10) fun sk4 ok4 hr hik4=>?_)
 obtain⟨s28,s29,s30,s31⟩:=sk4
 have hr:=hr
 refine ssr ?_
 refine W3 ?_
 refine LE ?_
 refine N1 ?_
 refine ifE hr (fun h6 hr=>?_) fun h6 hr=>?_
 refine q0f rfl (dT h6) ?_
 refine q0b ?_
 refine bdE hr fun q8 hqq8 hr=>?_
 obtain⟨s32,s33,s34⟩:=q8
 refine q0d (q0n 10 [(0,.pb 0 0),(2,.pb 1 0),(3,.pb 4 0),(6,.d .fz (.i .i64 s21)),(7,.pb 8 0),(8,.ref 9 none),(9,.d .fz (.i .i64 s28))] [(0,.box [.d .fz (.sl 1 (o0.b.map byD)),.d .fz (.i .i64 s32),.d .fz (.i .i64 s33)]),(6,.row .fz 9 (s34.map Equation.D))] ?_ ?_)
 replace hr:=hqq8
 refine AW.block (q0d (q0c ?_))
 refine W4 ?_
 refine ggE hr fun g6 hr=>?_
 refine bdE hr fun x4 hx4 hr=>?_
 refine IE hx4 g6 ?_
 refine W1 ?_
 refine LPa hx4 ?_
 refine bdE hr fun y4 hy4 hr=>?_
 refine CB [] [9] (z0f (m:=.bo) hy4) ?_
 refine ifE hr (fun h7 hr=>?_) fun h7 hr=>?_
 refine VT rfl h7 ?_
 refine W1 ?_
 refine bdE hr fun q9 hq9 hr=>?_
 obtain⟨y5,z3⟩:=q9
 refine CB [(0,0)] [] (q4y hq9) ?_
 refine N2 ?_
 refine ifE hr (fun h8 hr=>?_) fun h8 hr=>?_
 refine q0g rfl (bnF h8) ?_
 refine q0b ?_
 cases hr
 exact q0e hS 10
 refine q0f rfl (bnT h8) ?_
 refine q0j (h:=?_)
 refine W3 ?_
 refine IEd g5 (q3u (q3u (q3u (q3A hx3)))) ?_
 refine W1 ?_
 refine LPd [(5,7),(4,6),(2,5)] (q3u (q3u (q3u (q3A hx3)))) ?_
 refine W4 ?_
 refine bdE hr fun y6 hy6 hr=>?_
 refine CB [(0,10)] [2,5,6,7] (z0U (m:=.bo) hy6) ?_
 refine bdE hr fun q10 hq10 hr=>?_
 obtain⟨y7,z4⟩:=q10
 refine CBz 11 [(0,0),(1,11)] [10] (j4x (m:=.bo) hq10) ?_
 refine IE hx4 g6 ?_
 refine W1 ?_
 refine SE (⟨x4.At,y7⟩:Equation) hx4 ?_
 refine N0 ?_
 cases hr
 exact q0e hS 10
 refine VF rfl (bF h7) ?_
 iterate 3 refine AL.off ?_
 refine N1 ?_
 refine q0g rfl rfl ?_
 refine q0b ?_
 cases hr
 exact q0e hS 10
 refine q0c ?_
 refine W1 ?_
 refine ggE hr fun g7 hr=>?_
 refine OB _ (bAdd g7) ?_
 refine N1 ?_
 cases hr
 exact⟨_,rfl,q0e hS 10⟩
 refine q0g rfl (dF h6) ?_
 refine q0i ?_
 cases hr
 cases hik4 _ rfl
 exact q0e hS 10
 refine q0c ?_
 refine W1 ?_
 refine ggE hr fun g8 hr=>?_
 refine OB _ (bAdd g8) ?_
 refine N1 ?_
 cases hr
 exact⟨_,rfl,GH.trans (q0v 3 s21.toNat 5 7 (q3u (q3u (q3u (q3A hx3))))) (GH.trans (q0v 3 s21.toNat 4 6 (q3u (q3u (q3u (q3u (q3A hx3)))))) (GH.trans (q0v 3 s21.toNat 2 5 (q3u (q3u (q3u (q3u (q3u (q3A hx3))))))) (GH.trans (q0u 3 (he:=eset (f:=Rule.O) (x':=(⟨x3.Name,x3.Left,x3.Right,x3.Literal,s27,x3.Contributions⟩:Rule)) (by first | rfl | (simp only [List.set_set]; rfl)))) (q0e hS 5))))⟩
 refine q0g rfl (dF h5) ?_
 refine q0i ?_
 cases hr
 cases hik3 _ rfl
 exact q0e hS 5
 refine sr ?_
 refine W1 ?_
 refine SB ?_
 refine N0 ?_
 refine AW.ret ?_
 cases hr
 exact q0a [(0,0),(2,1),(3,2)] 3 hS
def q6r (a0:(List UInt8)):Option Grammar:=
 (z3U a0).bind fun y1=>
 (q4g 4 y1).bind fun (y2,z1)=>
 if y2=true then (
 (z2a (⟨y1.b,z1.i,z1.h⟩:l1Cur)).bind fun (y3,z2)=>
 some y3
 ) else (
 (z2c (⟨y1.b,z1.i,z1.h⟩:l1Cur)).bind fun (y4,z3)=>
 some y4
 )
theorem z4e {a0:(List UInt8)}{r:Grammar}(hr:q6r a0=some r):Ok Tryz.prog 5 [.d .fz (.sl 1 (a0.map byD))] [] (.ag [.ref 0 none,.d .fz (.sl 6 (r.Rules.map Rule.D))]) [.deep .fz 2 (r.Symbols.map Symbol.O) []]:=by
 refine Ok.enter rfl Tryz.func5 rfl rfl rfl fun S hS=>?_
 unfold q6r at hr
 refine sr ?_
 refine NV 0 ?_
 refine N0 ?_
 refine sr ?_
 refine W1 ?_
 refine bdE hr fun y1 hy1 hr=>?_
 refine CB [(0,1)] [] (j5A hy1) ?_
 refine N1 ?_
 refine ssr ?_
 refine W1 ?_
 refine bdE hr fun q1 hq1 hr=>?_
 obtain⟨y2,z1⟩:=q1
 refine CB [(0,1)] [] (q4y hq1) ?_
 refine N0 ?_
 refine ifE hr (fun h1 hr=>?_) fun h1 hr=>?_
 refine q0f rfl h1 ?_
 refine sr ?_
 refine W1 ?_
 refine bdE hr fun q2 hq2 hr=>?_
 obtain⟨y3,z2⟩:=q2
 refine CB [(0,1),(1,2)] [] (j2n hq2) ?_
 refine SB ?_
 refine N0 ?_
 refine AW.ret ?_
 cases hr
 exact q0a [(2,0)] 1 hS
 refine q0g rfl (bF h1) ?_
 refine q0b ?_
 refine sr ?_
 refine W1 ?_
 refine bdE hr fun q3 hq3 hr=>?_
 obtain⟨y4,z3⟩:=q3
 refine CB [(0,1),(1,2),(2,3)] [] (j2q hq3) ?_
 refine SB ?_
 refine N0 ?_
 refine AW.ret ?_
 refine endA.gh (q0x 3 Rule.D (by exact fun _=>rfl) rfl) ?_
 cases hr
 exact q0a [(2,0)] 1 hS
def q4o (a0:Int)(a1:Int)(a2:Int):Option Bool:=
 if a1≤a0 then (
 some (decide (a0≤a2))
 ) else (
 some false
 )
theorem q4V {a0:Int}{a1:Int}{a2:Int}{r:Bool}(hr:q4o a0 a1 a2=some r):Ok Tryz.prog 60 [.d .fz (.i .i64 a0),.d .fz (.i .i64 a1),.d .fz (.i .i64 a2)] [] (.d .fz (.b r)) []:=by
 refine Ok.enter rfl Tryz.func60 rfl rfl rfl fun S hS=>?_
 unfold q4o at hr
 refine sr ?_
 refine N1 ?_
 refine sr ?_
 refine W3 ?_
 refine ifE hr (fun h1 hr=>?_) fun h1 hr=>?_
 refine VT rfl (dT h1) ?_
 refine N5 ?_
 refine AW.ret ?_
 cases hr
 exact q0a [] 0 hS
 refine VF rfl (dF h1) ?_
 iterate 3 refine AL.off ?_
 refine N2 ?_
 refine AW.ret ?_
 cases hr
 exact q0a [] 0 hS
def z0L (a0:UInt8):Option Bool:=
 if 97≤(a0.toNat:Int) then (
 some (decide ((a0.toNat:Int)≤122))
 ) else (
 some false
 )
theorem z7n {a0:UInt8}{r:Bool}(hr:z0L a0=some r):Ok Tryz.prog 191 [.d .fz (.i .u8 (a0.toNat:Int))] [] (.d .fz (.b r)) []:=by
 refine Ok.enter rfl Tryz.func191 rfl rfl rfl fun S hS=>?_
 unfold z0L at hr
 refine sr ?_
 refine N1 ?_
 refine sr ?_
 refine W2 ?_
 refine ifE hr (fun h1 hr=>?_) fun h1 hr=>?_
 refine VT rfl (dT h1) ?_
 refine N4 ?_
 refine AW.ret ?_
 cases hr
 exact q0a [] 0 hS
 refine VF rfl (dF h1) ?_
 iterate 2 refine AL.off ?_
 refine N2 ?_
 refine AW.ret ?_
 cases hr
 exact q0a [] 0 hS
def z2d (a0:UInt8):Option Bool:=
 if 48≤(a0.toNat:Int) then (
 some (decide ((a0.toNat:Int)≤57))
 ) else (
 some false
 )
theorem j2r {a0:UInt8}{r:Bool}(hr:z2d a0=some r):Ok Tryz.prog 192 [.d .fz (.i .u8 (a0.toNat:Int))] [] (.d .fz (.b r)) []:=by
 refine Ok.enter rfl Tryz.func192 rfl rfl rfl fun S hS=>?_
 unfold z2d at hr
 refine sr ?_
 refine N1 ?_
 refine sr ?_
 refine W2 ?_
 refine ifE hr (fun h1 hr=>?_) fun h1 hr=>?_
 refine VT rfl (dT h1) ?_
 refine N4 ?_
 refine AW.ret ?_
 cases hr
 exact q0a [] 0 hS
 refine VF rfl (dF h1) ?_
 iterate 2 refine AL.off ?_
 refine N2 ?_
 refine AW.ret ?_
 cases hr
 exact q0a [] 0 hS
def q8Z (a0:ByteArray):Option Bool:=
 if a0=(⟨#[105,102]⟩:ByteArray) then (
 if a0=(⟨#[105,102]⟩:ByteArray) then (
 some true
 ) else (
 some false
 )
 ) else (
 if a0=(⟨#[116,104,101,110]⟩:ByteArray) then (
 if a0=(⟨#[116,104,101,110]⟩:ByteArray) then (
 some true
 ) else (
 some false
 )
 ) else (
 if a0=(⟨#[101,108,115,101]⟩:ByteArray) then (
 if a0=(⟨#[101,108,115,101]⟩:ByteArray) then (
 some true
 ) else (
 some false
 )
 ) else (
 if a0=(⟨#[116,114,117,101]⟩:ByteArray) then (
 if a0=(⟨#[116,114,117,101]⟩:ByteArray) then (
 some true
 ) else (
 some false
 )
 ) else (
 if a0=(⟨#[102,97,108,115,101]⟩:ByteArray) then (
 if a0=(⟨#[102,97,108,115,101]⟩:ByteArray) then (
 some true
 ) else (
 some false
 )
 ) else (
 if a0=(⟨#[108,105,116]⟩:ByteArray) then (
 if a0=(⟨#[108,105,116]⟩:ByteArray) then (
 some true
 ) else (
 some false
 )
 ) else (
 if a0=(⟨#[110,111,110,101]⟩:ByteArray) then (
 if a0=(⟨#[110,111,110,101]⟩:ByteArray) then (
 some true
 ) else (
 some false
 )
 ) else (
 if a0=(⟨#[115,101,108,102]⟩:ByteArray) then (
 if a0=(⟨#[115,101,108,102]⟩:ByteArray) then (
 some true
 ) else (
 some false
 )
 ) else (
 if a0=(⟨#[111,102]⟩:ByteArray) then (
 if a0=(⟨#[111,102]⟩:ByteArray) then (
 some true
 ) else (
 some false
 )
 ) else (
 if a0=(⟨#[109,97,120]⟩:ByteArray) then (
 if a0=(⟨#[109,97,120]⟩:ByteArray) then (
 some true
 ) else (
 some false
 )
 ) else (
 if a0=(⟨#[109,105,110]⟩:ByteArray) then (
 if a0=(⟨#[109,105,110]⟩:ByteArray) then (
 some true
 ) else (
 some false
 )
 ) else (
 if a0=(⟨#[119,105,116,104]⟩:ByteArray) then (
 if a0=(⟨#[119,105,116,104]⟩:ByteArray) then (
 some true
 ) else (
 some false
 )
 ) else (
 if a0=(⟨#[104,97,115]⟩:ByteArray) then (
 some true
 ) else (
 some false
 )
 )
 )
 )
 )
 )
 )
 )
 )
 )
 )
 )
 )
theorem z8k {a0:ByteArray}{r:Bool}(hr:q8Z a0=some r):Ok Tryz.prog 193 [.d .fz (.s a0)] [] (.d .fz (.b r)) []:=by
 refine Ok.enter rfl Tryz.func193 rfl rfl rfl fun S hS=>?_
 unfold q8Z at hr
 refine sr ?_
 refine N1 ?_
 refine ssr ?_
 refine N1 ?_
 refine AW.block (q0d (q0d (q0c ?_)))
 refine N2 ?_
 refine ifE hr (fun h1 hr=>?_) fun h1 hr=>?_
 refine q0f rfl (dT h1) ?_
 refine q0b ?_
 refine ifE hr (fun h2 hr=>?_) fun h2 hr=>?_
 refine q0f rfl (dT h2) ?_
 refine sr ?_
 refine N1 ?_
 refine AW.ret ?_
 cases hr
 exact q0a [] 0 hS
 refine q0g rfl (dF h2) ?_
 refine q0b ?_
 refine sr ?_
 refine N1 ?_
 refine AW.ret ?_
 cases hr
 exact q0a [] 0 hS
 refine q0g rfl (dF h1) ?_
 refine sr ?_
 refine N2 ?_
 refine ifE hr (fun h3 hr=>?_) fun h3 hr=>?_
 refine q0f rfl (dT h3) ?_
 refine q0b ?_
 refine ifE hr (fun h4 hr=>?_) fun h4 hr=>?_
 refine q0f rfl (dT h4) ?_
 refine sr ?_
 refine N1 ?_
 refine AW.ret ?_
 cases hr
 exact q0a [] 0 hS
 refine q0g rfl (dF h4) ?_
 refine q0b ?_
 refine sr ?_
 refine N1 ?_
 refine AW.ret ?_
 cases hr
 exact q0a [] 0 hS
 refine q0g rfl (dF h3) ?_
 refine sr ?_
 refine N2 ?_
 refine ifE hr (fun h5 hr=>?_) fun h5 hr=>?_
 refine q0f rfl (dT h5) ?_
 refine q0b ?_
 refine ifE hr (fun h6 hr=>?_) fun h6 hr=>?_
 refine q0f rfl (dT h6) ?_
 refine sr ?_
 refine N1 ?_
 refine AW.ret ?_
 cases hr
 exact q0a [] 0 hS
 refine q0g rfl (dF h6) ?_
 refine q0b ?_
 refine sr ?_
 refine N1 ?_
 refine AW.ret ?_
 cases hr
 exact q0a [] 0 hS
 refine q0g rfl (dF h5) ?_
 refine sr ?_
 refine N2 ?_
 refine ifE hr (fun h7 hr=>?_) fun h7 hr=>?_
 refine q0f rfl (dT h7) ?_
 refine q0b ?_
 refine ifE hr (fun h8 hr=>?_) fun h8 hr=>?_
 refine q0f rfl (dT h8) ?_
 refine sr ?_
 refine N1 ?_
 refine AW.ret ?_
 cases hr
 exact q0a [] 0 hS
 refine q0g rfl (dF h8) ?_
 refine q0b ?_
 refine sr ?_
 refine N1 ?_
 refine AW.ret ?_
 cases hr
 exact q0a [] 0 hS
 refine q0g rfl (dF h7) ?_
 refine sr ?_
 refine N2 ?_
 refine ifE hr (fun h9 hr=>?_) fun h9 hr=>?_
 refine q0f rfl (dT h9) ?_
 refine q0b ?_
 refine ifE hr (fun h10 hr=>?_) fun h10 hr=>?_
 refine q0f rfl (dT h10) ?_
 refine sr ?_
 refine N1 ?_
 refine AW.ret ?_
 cases hr
 exact q0a [] 0 hS
 refine q0g rfl (dF h10) ?_
 refine q0b ?_
 refine sr ?_
 refine N1 ?_
 refine AW.ret ?_
 cases hr
 exact q0a [] 0 hS
 refine q0g rfl (dF h9) ?_
 refine sr ?_
 refine N2 ?_
 refine ifE hr (fun h11 hr=>?_) fun h11 hr=>?_
 refine q0f rfl (dT h11) ?_
 refine q0b ?_
 refine ifE hr (fun h12 hr=>?_) fun h12 hr=>?_
 refine q0f rfl (dT h12) ?_
 refine sr ?_
 refine N1 ?_
 refine AW.ret ?_
 cases hr
 exact q0a [] 0 hS
 refine q0g rfl (dF h12) ?_
 refine q0b ?_
 refine sr ?_
 refine N1 ?_
 refine AW.ret ?_
 cases hr
 exact q0a [] 0 hS
 refine q0g rfl (dF h11) ?_
 refine sr ?_
 refine N2 ?_
 refine ifE hr (fun h13 hr=>?_) fun h13 hr=>?_
 refine q0f rfl (dT h13) ?_
 refine q0b ?_
 refine ifE hr (fun h14 hr=>?_) fun h14 hr=>?_
 refine q0f rfl (dT h14) ?_
 refine sr ?_
 refine N1 ?_
 refine AW.ret ?_
 cases hr
 exact q0a [] 0 hS
 refine q0g rfl (dF h14) ?_
 refine q0b ?_
 refine sr ?_
 refine N1 ?_
 refine AW.ret ?_
 cases hr
 exact q0a [] 0 hS
 refine q0g rfl (dF h13) ?_
 refine sr ?_
 refine N2 ?_
 refine ifE hr (fun h15 hr=>?_) fun h15 hr=>?_
 refine q0f rfl (dT h15) ?_
 refine q0b ?_
 refine ifE hr (fun h16 hr=>?_) fun h16 hr=>?_
 refine q0f rfl (dT h16) ?_
 refine sr ?_
 refine N1 ?_
 refine AW.ret ?_
 cases hr
 exact q0a [] 0 hS
 refine q0g rfl (dF h16) ?_
 refine q0b ?_
 refine sr ?_
 refine N1 ?_
 refine AW.ret ?_
 cases hr
 exact q0a [] 0 hS
 refine q0g rfl (dF h15) ?_
 refine sr ?_
 refine N2 ?_
 refine ifE hr (fun h17 hr=>?_) fun h17 hr=>?_
 refine q0f rfl (dT h17) ?_
 refine q0b ?_
 refine ifE hr (fun h18 hr=>?_) fun h18 hr=>?_
 refine q0f rfl (dT h18) ?_
 refine sr ?_
 refine N1 ?_
 refine AW.ret ?_
 cases hr
 exact q0a [] 0 hS
 refine q0g rfl (dF h18) ?_
 refine q0b ?_
 refine sr ?_
 refine N1 ?_
 refine AW.ret ?_
 cases hr
 exact q0a [] 0 hS
 refine q0g rfl (dF h17) ?_
 refine sr ?_
 refine N2 ?_
 refine ifE hr (fun h19 hr=>?_) fun h19 hr=>?_
 refine q0f rfl (dT h19) ?_
 refine q0b ?_
 refine ifE hr (fun h20 hr=>?_) fun h20 hr=>?_
 refine q0f rfl (dT h20) ?_
 refine sr ?_
 refine N1 ?_
 refine AW.ret ?_
 cases hr
 exact q0a [] 0 hS
 refine q0g rfl (dF h20) ?_
 refine q0b ?_
 refine sr ?_
 refine N1 ?_
 refine AW.ret ?_
 cases hr
 exact q0a [] 0 hS
 refine q0g rfl (dF h19) ?_
 refine sr ?_
 refine N2 ?_
 refine ifE hr (fun h21 hr=>?_) fun h21 hr=>?_
 refine q0f rfl (dT h21) ?_
 refine q0b ?_
 refine ifE hr (fun h22 hr=>?_) fun h22 hr=>?_
 refine q0f rfl (dT h22) ?_
 refine sr ?_
 refine N1 ?_
 refine AW.ret ?_
 cases hr
 exact q0a [] 0 hS
 refine q0g rfl (dF h22) ?_
 refine q0b ?_
 refine sr ?_
 refine N1 ?_
 refine AW.ret ?_
 cases hr
 exact q0a [] 0 hS
 refine q0g rfl (dF h21) ?_
 refine sr ?_
 refine N2 ?_
 refine ifE hr (fun h23 hr=>?_) fun h23 hr=>?_
 refine q0f rfl (dT h23) ?_
 refine q0b ?_
 refine ifE hr (fun h24 hr=>?_) fun h24 hr=>?_
 refine q0f rfl (dT h24) ?_
 refine sr ?_
 refine N1 ?_
 refine AW.ret ?_
 cases hr
 exact q0a [] 0 hS
 refine q0g rfl (dF h24) ?_
 refine q0b ?_
 refine sr ?_
 refine N1 ?_
 refine AW.ret ?_
 cases hr
 exact q0a [] 0 hS
 refine q0g rfl (dF h23) ?_
 refine q0c ?_
 refine N2 ?_
 refine ifE hr (fun h25 hr=>?_) fun h25 hr=>?_
 refine q0f rfl (dT h25) ?_
 refine sr ?_
 refine N1 ?_
 refine AW.ret ?_
 cases hr
 exact q0a [] 0 hS
 refine q0g rfl (dF h25) ?_
 refine q0b ?_
 refine sr ?_
 refine N1 ?_
 refine AW.ret ?_
 cases hr
 exact q0a [] 0 hS
def z3m (a0:ByteArray):Nat→Unit→Option (Unit ⊕ Bool):=fun k1 _=>
 (a0.data[k1]?).bind fun x1=>
 (z0L x1).bind fun y1=>
 if y1=true then (
 some (.inl ())
 ) else (
 (z2d x1).bind fun y2=>
 if y2=true then (
 some (.inl ())
 ) else (
 some (.inr false)
 )
 )
def q4e (a0:ByteArray):Option Bool:=
 (findN (z3m a0) 0 a0.size ()).bind <| onr (fun r1=>some r1) fun _=>
 (q4o (a0.size:Int) 1 8).bind fun y3=>
 (
 if y3=true then (
 (a0.data[0]?).bind fun x2=>
 (z0L x2).bind fun y4=>
 some y4
 ) else (
 some false
 )
 ).bind fun s1=>
 (
 if s1=true then (
 (q8Z a0).bind fun y5=>
 some (!y5)
 ) else (
 some false
 )
 ).bind fun s2=>
 some s2
theorem q4R {a0:ByteArray}{r:Bool}(hr:q4e a0=some r):Ok Tryz.prog 176 [.d .fz (.s a0)] [] (.d .fz (.b r)) []:=by
 refine Ok.enter rfl Tryz.func176 rfl rfl rfl fun S hS=>?_
 unfold q4e at hr
 refine sr ?_
 refine N1 ?_
 refine ssr ?_
 refine W1 ?_
 refine LS ?_
 refine N1 ?_
 refine AW.block ?_
 refine q0w (.tmp 5 rfl) fun hl1=>?_
 refine bdE hr fun q1 hqq1 hr=>?_
 refine q0D hqq1 0 (fun k1 _=>[(0,.d .fz (.s a0)),(5,.d .fz (.i .i64 (a0.size:Int))),(6,.d .fz (.i .i64 (k1:Int)))]) (fun k1 _=>[]) (q0e hS 0) (fun k1 sk1 ok1 hr hltk1 hik1=>?_) fun sk1 ek1=>?_
 refine sr ?_
 refine N1 ?_
 refine q0d (q0f rfl (dT (ltN hltk1)) ?_)
 refine q0b ?_
 refine q0d (AW.block (q0d (q0c ?_)))
 refine N2 ?_
 refine sr ?_
 refine W2 ?_
 refine bdE hr fun x1 hx1 hr=>?_
 refine SI rfl rfl (Int.natCast_nonneg _) hx1 ?_
 refine bdE hr fun y1 hy1 hr=>?_
 refine CB [] [] (z7n hy1) ?_
 refine W1 ?_
 refine ifE hr (fun h1 hr=>?_) fun h1 hr=>?_
 refine VF rfl (bnF h1) ?_
 iterate 5 refine AL.off ?_
 refine N1 ?_
 refine q0g rfl rfl ?_
 refine q0b ?_
 refine q0c ?_
 refine OB _ (q3B (p:=k1) (q:=1) (q3m (ltN hltk1) hl1.2)) ?_
 refine N1 ?_
 cases hr
 exact⟨_,rfl,q0e hS 0⟩
 refine VT rfl (bnT h1) ?_
 refine W2 ?_
 refine SI rfl rfl (Int.natCast_nonneg _) hx1 ?_
 refine bdE hr fun y2 hy2 hr=>?_
 refine CB [] [] (j2r hy2) ?_
 refine N2 ?_
 refine ifE hr (fun h2 hr=>?_) fun h2 hr=>?_
 refine q0g rfl (bnF h2) ?_
 refine q0b ?_
 refine q0c ?_
 refine OB _ (q3B (p:=k1) (q:=1) (q3m (ltN hltk1) hl1.2)) ?_
 refine N1 ?_
 cases hr
 exact⟨_,rfl,q0e hS 0⟩
 refine q0f rfl (bnT h2) ?_
 refine sr ?_
 refine N1 ?_
 refine AW.ret ?_
 cases hr
 cases hik1 _ rfl
 rename_i hr
 cases hr
 exact q0a [] 0 hS
 subst ek1
 refine sr ?_
 refine N1 ?_
 refine q0d (q0g rfl (dF geN) ?_)
 refine q0i ?_
 refine sr ?_
 refine W1 ?_
 refine LS ?_
 refine bdE hr fun y3 hy3 hr=>?_
 refine CB [] [] (q4V hy3) ?_
 refine bdE hr fun s1 hqq2 hr=>?_
 refine q0h 5 [(0,.d .fz (.s a0)),(29,.d .fz (.b s1))] ?_ ?_
 replace hr:=hqq2
 refine ifE hr (fun h3 hr=>?_) fun h3 hr=>?_
 refine VT rfl h3 ?_
 refine W1 ?_
 refine bdE hr fun x2 hx2 hr=>?_
 refine SI rfl rfl (Int.natCast_nonneg _) hx2 ?_
 refine bdE hr fun y4 hy4 hr=>?_
 refine CB [] [] (z7n hy4) ?_
 refine N1 ?_
 cases hr
 exact q3n
 refine VF rfl (bF h3) ?_
 iterate 3 refine AL.off ?_
 refine N1 ?_
 cases hr
 exact q3n
 refine bdE hr fun s2 hqq3 hr=>?_
 refine q0h 5 [(34,.d .fz (.b s2))] ?_ ?_
 replace hr:=hqq3
 refine ifE hr (fun h4 hr=>?_) fun h4 hr=>?_
 refine VT rfl h4 ?_
 refine W1 ?_
 refine bdE hr fun y5 hy5 hr=>?_
 refine CB [] [] (z8k hy5) ?_
 refine N2 ?_
 cases hr
 exact q3n
 refine VF rfl (bF h4) ?_
 iterate 3 refine AL.off ?_
 refine N1 ?_
 cases hr
 exact q3n
 refine N1 ?_
 refine AW.ret ?_
 cases hr
 exact q0a [] 0 hS
def z2e (a0:Int):Option Bool:=
 (q4o a0 1 4).bind fun y1=>
 some y1
theorem z8W {a0:Int}{r:Bool}(hr:z2e a0=some r):Ok Tryz.prog 190 [.d .fz (.i .i64 a0)] [] (.d .fz (.b r)) []:=by
 refine Ok.enter rfl Tryz.func190 rfl rfl rfl fun S hS=>?_
 unfold z2e at hr
 refine sr ?_
 refine N1 ?_
 refine sr ?_
 refine W1 ?_
 refine bdE hr fun y1 hy1 hr=>?_
 refine CB [] [] (q4V hy1) ?_
 refine N1 ?_
 refine AW.ret ?_
 cases hr
 exact q0a [] 0 hS
def q6s (a0:Attribute):Option Bool:=
 (q4e a0.Name).bind fun y1=>
 (
 if y1=true then (
 (z2e a0.Type_).bind fun y2=>
 some (!y2)
 ) else (
 some true
 )
 ).bind fun s1=>
 (
 if s1=true then (
 some true
 ) else (
 (q4o a0.Mode 1 3).bind fun y3=>
 some (!y3)
 )
 ).bind fun s2=>
 if s2=true then (
 some false
 ) else (
 if a0.Mode=3 then (
 (
 if a0.Type_=2 then (
 some (!a0.Circular)
 ) else (
 some false
 )
 ).bind fun s3=>
 some s3
 ) else (
 (
 if a0.Circular=true then (
 some (decide (a0.Type_=2))
 ) else (
 some true
 )
 ).bind fun s4=>
 some s4
 )
 )
theorem z4f {a0:Attribute}{r:Bool}(hr:q6s a0=some r):Ok Tryz.prog 174 [Attribute.x .fz a0] [] (.d .fz (.b r)) []:=by
 refine Ok.enter rfl Tryz.func174 rfl rfl rfl fun S hS=>?_
 unfold q6s at hr
 refine sr ?_
 refine BX 0 ?_
 refine N1 ?_
 refine q0d (AW.block (q0d (q0c ?_)))
 refine W2 ?_
 refine bdE hr fun y1 hy1 hr=>?_
 refine CB [] [] (q4R hy1) ?_
 refine W1 ?_
 refine bdE hr fun s1 hqq1 hr=>?_
 refine q0h 6 [(1,.pb 0 0),(13,.d .fz (.b s1))] ?_ ?_
 replace hr:=hqq1
 refine ifE hr (fun h1 hr=>?_) fun h1 hr=>?_
 refine VF rfl (bnF h1) ?_
 refine W2 ?_
 refine bdE hr fun y2 hy2 hr=>?_
 refine CB [] [] (z8W hy2) ?_
 refine N2 ?_
 cases hr
 exact q3n
 refine VT rfl (bnT h1) ?_
 iterate 4 refine AL.off ?_
 refine N1 ?_
 cases hr
 exact q3n
 refine bdE hr fun s2 hqq2 hr=>?_
 refine q0h 6 [(1,.pb 0 0),(19,.d .fz (.b s2))] ?_ ?_
 replace hr:=hqq2
 refine ifE hr (fun h2 hr=>?_) fun h2 hr=>?_
 refine VT rfl h2 ?_
 iterate 4 refine AL.off ?_
 refine N1 ?_
 cases hr
 exact q3n
 refine VF rfl (bF h2) ?_
 refine W2 ?_
 refine bdE hr fun y3 hy3 hr=>?_
 refine CB [] [] (q4V hy3) ?_
 refine N2 ?_
 cases hr
 exact q3n
 refine N1 ?_
 refine ifE hr (fun h3 hr=>?_) fun h3 hr=>?_
 refine q0f rfl h3 ?_
 refine sr ?_
 refine N1 ?_
 refine AW.ret ?_
 cases hr
 exact q0a [] 0 hS
 refine q0g rfl (bF h3) ?_
 refine sr ?_
 refine N4 ?_
 refine ifE hr (fun h4 hr=>?_) fun h4 hr=>?_
 refine q0f rfl (dT h4) ?_
 refine sr ?_
 refine W3 ?_
 refine bdE hr fun s3 hqq3 hr=>?_
 refine q0h 5 [(31,.d .fz (.b s3))] ?_ ?_
 replace hr:=hqq3
 refine ifE hr (fun h5 hr=>?_) fun h5 hr=>?_
 refine VT rfl (dT h5) ?_
 refine N4 ?_
 cases hr
 exact q3n
 refine VF rfl (dF h5) ?_
 iterate 3 refine AL.off ?_
 refine N1 ?_
 cases hr
 exact q3n
 refine N1 ?_
 refine AW.ret ?_
 cases hr
 exact q0a [] 0 hS
 refine q0g rfl (dF h4) ?_
 refine q0b ?_
 refine sr ?_
 refine W3 ?_
 refine bdE hr fun s4 hqq4 hr=>?_
 refine q0h 5 [(39,.d .fz (.b s4))] ?_ ?_
 replace hr:=hqq4
 refine ifE hr (fun h6 hr=>?_) fun h6 hr=>?_
 refine VF rfl (bnF h6) ?_
 refine N4 ?_
 cases hr
 exact q3n
 refine VT rfl (bnT h6) ?_
 iterate 3 refine AL.off ?_
 refine N1 ?_
 cases hr
 exact q3n
 refine N1 ?_
 refine AW.ret ?_
 cases hr
 exact q0a [] 0 hS
def q7O (a0:Attribute)(a1:Attribute):Option Bool:=
 some (decide (a0.Name=a1.Name))
theorem z4v {a0:Attribute}{a1:Attribute}{r:Bool}(hr:q7O a0 a1=some r):Ok Tryz.prog 175 [Attribute.x .fz a0,.pb 0 0] [.box [.d .fz (.s a1.Name),.d .fz (.i .i64 a1.Type_),.d .fz (.i .i64 a1.Mode),.d .fz (.b a1.Circular)]] (.d .fz (.b r)) [.box [.d .fz (.s a1.Name),.d .fz (.i .i64 a1.Type_),.d .fz (.i .i64 a1.Mode),.d .fz (.b a1.Circular)]]:=by
 refine Ok.enter rfl Tryz.func175 rfl rfl rfl fun S hS=>?_
 unfold q7O at hr
 refine sr ?_
 refine BX 1 ?_
 refine N1 ?_
 refine sr ?_
 refine W5 ?_
 refine N1 ?_
 refine AW.ret ?_
 cases hr
 exact q0a [(0,0)] 1 hS
def q5f (a1_0:Attribute):Nat→Attribute→Unit→Option (Unit ⊕ Int):=fun k1 xk1 _=>
 (q7O xk1 a1_0).bind fun y1=>
 if y1=true then (
 some (.inr (k1:Int))
 ) else (
 some (.inl ())
 )
def q3P (a0:(List Attribute))(a1_0:Attribute):Option Int:=
 (findL (q5f a1_0) 0 a0 ()).bind <| onr (fun r1=>some r1) fun _=>
 some (-1)
theorem q6O {m:Md}{a0:(List Attribute)}{a1_0:Attribute}{r:Int}(hr:q3P a0 a1_0=some r):Ok Tryz.prog 92 [.d m (.sl 4 (a0.map Attribute.D)),.fn 175 [.pb 0 0]] [.box [.d .fz (.s a1_0.Name),.d .fz (.i .i64 a1_0.Type_),.d .fz (.i .i64 a1_0.Mode),.d .fz (.b a1_0.Circular)]] (.d .fz (.i .i64 r)) [.box [.d .fz (.s a1_0.Name),.d .fz (.i .i64 a1_0.Type_),.d .fz (.i .i64 a1_0.Mode),.d .fz (.b a1_0.Circular)]]:=by
 refine Ok.enter rfl Tryz.func92 rfl rfl rfl fun S hS=>?_
 unfold q3P at hr
 refine sr ?_
 refine N1 ?_
 refine ssr ?_
 refine W1 ?_
 refine LF ?_
 refine N1 ?_
 refine AW.block ?_
 refine AW.len (.tmp 0 rfl) fun hl1=>?_
 refine bdE hr fun q1 hqq1 hr=>?_
 refine q0k hqq1 hl1 1 (fun k1 _=>[(0,.d m (.sl 4 (a0.map Attribute.D))),(1,.fn 175 [.pb 0 0]),(7,.d .fz (.i .i64 (a0.length:Int))),(8,.d .fz (.i .i64 (k1:Int)))]) (fun k1 _=>[]) (q0e hS 1) (fun k1 xk1 sk1 ok1 hxk1 hr hltk1 hik1=>?_) fun k1 sk1 ek1 hltk1=>?_
 refine sr ?_
 refine N1 ?_
 refine q0d (q0f rfl (dT hltk1) ?_)
 refine q0b ?_
 refine q0d (AW.block (q0d (q0c ?_)))
 refine N2 ?_
 refine sr ?_
 refine W3 ?_
 refine IF (Int.natCast_nonneg _) hxk1 ?_
 refine W1 ?_
 refine bdE hr fun y1 hy1 hr=>?_
 refine CB [(0,0)] [] (z4v hy1) ?_
 refine N0 ?_
 refine ifE hr (fun h1 hr=>?_) fun h1 hr=>?_
 refine q0f rfl h1 ?_
 refine sr ?_
 refine N2 ?_
 refine AW.ret ?_
 cases hr
 cases hik1 _ rfl
 rename_i hr
 cases hr
 exact q0a [(0,0)] 1 hS
 refine q0g rfl (bF h1) ?_
 refine q0b ?_
 refine q0c ?_
 refine OB _ (q3B (p:=k1) (q:=1) (q3m hltk1 hl1)) ?_
 refine N1 ?_
 cases hr
 exact⟨_,rfl,q0e hS 1⟩
 subst ek1
 refine sr ?_
 refine N1 ?_
 refine q0d (q0g rfl (dF hltk1) ?_)
 refine q0i ?_
 refine sr ?_
 refine N1 ?_
 refine AW.ret ?_
 cases hr
 exact q0a [(0,0)] 1 hS
def q3J (a0:(List Attribute))(a1_0:Attribute):Option Bool:=
 (q3P a0 a1_0).bind fun y1=>
 some (decide (0≤y1))
theorem q6A {m:Md}{a0:(List Attribute)}{a1_0:Attribute}{r:Bool}(hr:q3J a0 a1_0=some r):Ok Tryz.prog 53 [.d m (.sl 4 (a0.map Attribute.D)),.fn 175 [.pb 0 0]] [.box [.d .fz (.s a1_0.Name),.d .fz (.i .i64 a1_0.Type_),.d .fz (.i .i64 a1_0.Mode),.d .fz (.b a1_0.Circular)]] (.d .fz (.b r)) [.box [.d .fz (.s a1_0.Name),.d .fz (.i .i64 a1_0.Type_),.d .fz (.i .i64 a1_0.Mode),.d .fz (.b a1_0.Circular)]]:=by
 refine Ok.enter rfl Tryz.func53 rfl rfl rfl fun S hS=>?_
 unfold q3J at hr
 refine sr ?_
 refine N1 ?_
 refine sr ?_
 refine W2 ?_
 refine bdE hr fun y1 hy1 hr=>?_
 refine CB [(0,0)] [] (q6O (m:=m) hy1) ?_
 refine N2 ?_
 refine AW.ret ?_
 cases hr
 exact q0a [(0,0)] 1 hS
def q8e (a0:Symbol):Nat→Attribute→Unit→Option (Unit ⊕ Bool):=fun k1 xk1 _=>
 (q6s xk1).bind fun y1=>
 if y1=true then (
 grd (k1≤a0.Attributes.length) <|
 (q3J (a0.Attributes.take k1) xk1).bind fun y2=>
 if y2=true then (
 some (.inr false)
 ) else (
 some (.inl ())
 )
 ) else (
 some (.inr false)
 )
def q7B (a0:Symbol):Option Bool:=
 (findL (q8e a0) 0 a0.Attributes ()).bind <| onr (fun r1=>some r1) fun _=>
 (q4e a0.Name).bind fun y3=>
 (
 if y3=true then (
 some (decide ((a0.Attributes.length:Int)≤4))
 ) else (
 some false
 )
 ).bind fun s1=>
 some s1
theorem z5y {m:Md}{a0:Symbol}{r:Bool}(hr:q7B a0=some r):Ok Tryz.prog 141 [Symbol.x m a0] [] (.d .fz (.b r)) []:=by
 refine Ok.enter rfl Tryz.func141 rfl rfl rfl fun S hS=>?_
 unfold q7B at hr
 refine sr ?_
 refine BX 0 ?_
 refine N1 ?_
 refine ssr ?_
 refine W2 ?_
 refine LF ?_
 refine N1 ?_
 refine AW.block ?_
 refine AW.len (.ag 1 (.tmp 0 rfl) rfl) fun hl1=>?_
 refine bdE hr fun q1 hqq1 hr=>?_
 refine q0k hqq1 hl1 1 (fun k1 _=>[(1,.pb 0 0),(6,.d m (.sl 4 (a0.Attributes.map Attribute.D))),(7,.d .fz (.i .i64 (a0.Attributes.length:Int))),(8,.d .fz (.i .i64 (k1:Int)))]) (fun k1 _=>[]) (q0e hS 1) (fun k1 xk1 sk1 ok1 hxk1 hr hltk1 hik1=>?_) fun k1 sk1 ek1 hltk1=>?_
 refine sr ?_
 refine N1 ?_
 refine q0d (q0f rfl (dT hltk1) ?_)
 refine q0b ?_
 refine q0d (AW.block (q0d (q0c ?_)))
 refine W1 ?_
 refine IF (Int.natCast_nonneg _) hxk1 ?_
 refine W1 ?_
 refine NV 1 ?_
 refine W1 ?_
 refine SB ?_
 refine N0 ?_
 refine sr ?_
 refine W1 ?_
 refine bdE hr fun y1 hy1 hr=>?_
 refine CB [] [] (z4f hy1) ?_
 refine W1 ?_
 refine ifE hr (fun h1 hr=>?_) fun h1 hr=>?_
 refine VF rfl (bnF h1) ?_
 refine W3 ?_
 refine ggE hr fun g1 hr=>?_
 refine SLH (Int.natCast_nonneg _) g1 ?_
 refine W1 ?_
 refine bdE hr fun y2 hy2 hr=>?_
 refine CB [(0,1)] [] (q6A (m:=m) hy2) ?_
 refine N1 ?_
 refine ifE hr (fun h2 hr=>?_) fun h2 hr=>?_
 refine q0f rfl h2 ?_
 refine sr ?_
 refine N1 ?_
 refine AW.ret ?_
 cases hr
 cases hik1 _ rfl
 rename_i hr
 cases hr
 exact q0a [] 0 hS
 refine q0g rfl (bF h2) ?_
 refine q0b ?_
 refine q0c ?_
 refine OB _ (q3B (p:=k1) (q:=1) (q3m hltk1 hl1)) ?_
 refine N1 ?_
 cases hr
 exact⟨_,rfl,q0e hS 1⟩
 refine VT rfl (bnT h1) ?_
 iterate 6 refine AL.off ?_
 refine N1 ?_
 refine q0f rfl rfl ?_
 refine sr ?_
 refine N1 ?_
 refine AW.ret ?_
 cases hr
 cases hik1 _ rfl
 rename_i hr
 cases hr
 exact q0a [] 0 hS
 subst ek1
 refine sr ?_
 refine N1 ?_
 refine q0d (q0g rfl (dF hltk1) ?_)
 refine q0i ?_
 refine sr ?_
 refine W2 ?_
 refine bdE hr fun y3 hy3 hr=>?_
 refine CB [] [] (q4R hy3) ?_
 refine bdE hr fun s1 hqq2 hr=>?_
 refine q0h 6 [(33,.d .fz (.b s1))] ?_ ?_
 replace hr:=hqq2
 refine ifE hr (fun h3 hr=>?_) fun h3 hr=>?_
 refine VT rfl h3 ?_
 refine W2 ?_
 refine LF ?_
 refine N2 ?_
 cases hr
 exact q3n
 refine VF rfl (bF h3) ?_
 iterate 4 refine AL.off ?_
 refine N1 ?_
 cases hr
 exact q3n
 refine N1 ?_
 refine AW.ret ?_
 cases hr
 exact q0a [] 0 hS
def q9a (a0:Symbol)(a1:Symbol):Option Bool:=
 some (decide (a0.Name=a1.Name))
theorem z6g {m:Md}{m2:Md}{a0:Symbol}{a1:Symbol}{r:Bool}(hr:q9a a0 a1=some r):Ok Tryz.prog 142 [Symbol.x m a0,.pb 0 0] [.box [.d .fz (.s a1.Name),.d m2 (.sl 4 (a1.Attributes.map Attribute.D))]] (.d .fz (.b r)) [.box [.d .fz (.s a1.Name),.d m2 (.sl 4 (a1.Attributes.map Attribute.D))]]:=by
 refine Ok.enter rfl Tryz.func142 rfl rfl rfl fun S hS=>?_
 unfold q9a at hr
 refine sr ?_
 refine BX 1 ?_
 refine N1 ?_
 refine sr ?_
 refine W5 ?_
 refine N1 ?_
 refine AW.ret ?_
 cases hr
 exact q0a [(0,0)] 1 hS
def q5B (a1_0:Symbol):Nat→Symbol→Unit→Option (Unit ⊕ Int):=fun k1 xk1 _=>
 (q9a xk1 a1_0).bind fun y1=>
 if y1=true then (
 some (.inr (k1:Int))
 ) else (
 some (.inl ())
 )
def q4p (a0:(List Symbol))(a1_0:Symbol):Option Int:=
 (findL (q5B a1_0) 0 a0 ()).bind <| onr (fun r1=>some r1) fun _=>
 some (-1)
theorem q7Q {m:Md}{m2:Md}{a0:(List Symbol)}{a1_0:Symbol}{r:Int}(hr:q4p a0 a1_0=some r):Ok Tryz.prog 91 [.d m (.sl 2 (a0.map Symbol.D)),.fn 142 [.pb 0 0]] [.box [.d .fz (.s a1_0.Name),.d m2 (.sl 4 (a1_0.Attributes.map Attribute.D))]] (.d .fz (.i .i64 r)) [.box [.d .fz (.s a1_0.Name),.d m2 (.sl 4 (a1_0.Attributes.map Attribute.D))]]:=by
 refine Ok.enter rfl Tryz.func91 rfl rfl rfl fun S hS=>?_
 unfold q4p at hr
 refine sr ?_
 refine N1 ?_
 refine ssr ?_
 refine W1 ?_
 refine LF ?_
 refine N1 ?_
 refine AW.block ?_
 refine AW.len (.tmp 0 rfl) fun hl1=>?_
 refine bdE hr fun q1 hqq1 hr=>?_
 refine q0k hqq1 hl1 1 (fun k1 _=>[(0,.d m (.sl 2 (a0.map Symbol.D))),(1,.fn 142 [.pb 0 0]),(7,.d .fz (.i .i64 (a0.length:Int))),(8,.d .fz (.i .i64 (k1:Int)))]) (fun k1 _=>[]) (q0e hS 1) (fun k1 xk1 sk1 ok1 hxk1 hr hltk1 hik1=>?_) fun k1 sk1 ek1 hltk1=>?_
 refine sr ?_
 refine N1 ?_
 refine q0d (q0f rfl (dT hltk1) ?_)
 refine q0b ?_
 refine q0d (AW.block (q0d (q0c ?_)))
 refine N2 ?_
 refine sr ?_
 refine W3 ?_
 refine IF (Int.natCast_nonneg _) hxk1 ?_
 refine W1 ?_
 refine bdE hr fun y1 hy1 hr=>?_
 refine CB [(0,0)] [] (z6g (m:=m) (m2:=m2) hy1) ?_
 refine N0 ?_
 refine ifE hr (fun h1 hr=>?_) fun h1 hr=>?_
 refine q0f rfl h1 ?_
 refine sr ?_
 refine N2 ?_
 refine AW.ret ?_
 cases hr
 cases hik1 _ rfl
 rename_i hr
 cases hr
 exact q0a [(0,0)] 1 hS
 refine q0g rfl (bF h1) ?_
 refine q0b ?_
 refine q0c ?_
 refine OB _ (q3B (p:=k1) (q:=1) (q3m hltk1 hl1)) ?_
 refine N1 ?_
 cases hr
 exact⟨_,rfl,q0e hS 1⟩
 subst ek1
 refine sr ?_
 refine N1 ?_
 refine q0d (q0g rfl (dF hltk1) ?_)
 refine q0i ?_
 refine sr ?_
 refine N1 ?_
 refine AW.ret ?_
 cases hr
 exact q0a [(0,0)] 1 hS
end Go.Proofs.YtibagkppfnjgcaaGreat
