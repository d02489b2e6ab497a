/- What some functions of the program compute, as partial functions on plain data, and that they do; each lemma bears its conditions in its statement. -/
import Derived.Test.YtiojgbiimbefiacGreatLift3
set_option linter.unusedVariables false
set_option linter.unusedSimpArgs false
set_option linter.ambiguousOpen false
set_option linter.unusedSectionVars false
set_option linter.unnecessarySimpa false
set_option maxRecDepth 100000
set_option maxHeartbeats 40000000
noncomputable section
namespace Go.Proofs.YtiojgbiimbefiacGreat
open Go Go.E Go.A
def q2q (k1:Nat):Nat→Attribute→((List Occurrence))→Option ((List Occurrence)):=fun k2 xk2 s2=>
 grd (((s2.length:Int)+1)*24≤140737488355328∧(s2.length:Int)+1≤9223372036854775807) <|
 some (s2++[(⟨(k1:Int),xk2.Name⟩:Occurrence)])
def q3r (a0:Grammar)(a1:Rule):Nat→((List Occurrence))→Option ((List Occurrence)):=fun k1 s1=>
 (q4g a1 (k1:Int)).bind fun y1=>
 (q2h a0 y1).bind fun y2=>
 (eachL (q2q k1) 0 y2 s1).bind fun s2=>
 some s2
def q2k (a0:Grammar)(a1:Rule):Option (List Occurrence):=
 grd (I64 ((a1.Right.length+1:Nat):Int)) <|
 (eachN (q3r a0 a1) 0 (a1.Right.length+1) ([]:List Occurrence)).bind fun s1=>
 some s1
theorem q5D {m:Md}{a0:Grammar}{a1:Rule}{r:(List Occurrence)}(hr:q2k a0 a1=some r):Ok Tryz.prog 7 [Grammar.y m a0,Rule.x m a1] [] (.ref 0 none) [.row .fz 2 (r.map Occurrence.D)]:=by
 refine Ok.enter rfl Tryz.func7 rfl rfl rfl fun S hS=>?_
 unfold q2k at hr
 refine AW.seq (AW.regL ?_)
 refine BX 0 ?_
 refine BX 1 ?_
 refine V rfl ?_
 refine AL.nil ?_
 refine AW.seq (AW.regL ?_)
 refine L0 2 Occurrence.D ?_
 refine V rfl ?_
 refine AL.nil ?_
 refine AW.seq (AW.seq (AW.regL ?_))
 iterate 2 refine V rfl ?_
 refine LF ?_
 refine ggE hr fun g1 hr=>?_
 refine OB _ (q2b (p:=a1.Right.length) (q:=1) g1) ?_
 refine V rfl ?_
 refine AL.nil ?_
 refine AW.block ?_
 refine AW.rng (.tmp 13 rfl) fun hl1=>?_
 refine bdE hr fun s1 hqq1 hr=>?_
 refine AW.eachN hqq1 3 (fun k1 s1=>[(2,.pb 0 0),(3,.pb 1 0),(5,.ref 2 none),(13,.d .fz (.i .i64 ((a1.Right.length+1:Nat):Int))),(14,.d .fz (.i .i64 (k1:Int)))]) (fun k1 s1=>[(2,.row .fz 2 (s1.map Occurrence.D))]) (GH.trans (GH.bw (q:=0) [.d m (.sl 2 (a0.Symbols.map Symbol.D)),.u] (.cons .rfl (.cons .u .nil)) rfl) (GH.renK hS [(0,0),(1,1),(2,2)] 3)) (fun k1 sk1 ok1 hr hltk1=>?_) ?_
 ·obtain⟨s1,rfl⟩:∃ y,y=sk1:=⟨_,rfl⟩
  refine AW.seq (AW.regL ?_)
  refine V rfl ?_
  refine AL.nil ?_
  refine AW.seq (AW.cT rfl (dT (ltN hltk1)) ?_)
  refine AW.skip ?_
  refine AW.seq (AW.block (AW.seq (AW.regL ?_)))
  iterate 2 refine V rfl ?_
  refine AL.nil ?_
  refine AW.seq (AW.drawL (h:=?_))
  iterate 3 refine V rfl ?_
  refine bdE hr fun y1 hy1 hr=>?_
  refine CB [] [] (z5k (m:=m) hy1) ?_
  refine bdE hr fun y2 hy2 hr=>?_
  refine CB [(0,3)] [] (q6G (m:=m) hy2) ?_
  refine LE ?_
  refine V rfl ?_
  refine AL.nil ?_
  refine AW.block ?_
  refine AW.lenR 3 rfl fun hl2=>?_
  refine bdE hr fun s2 hqq2 hr=>?_
  refine AW.eachL hqq2 hl2 4 (fun k2 s2=>[(2,.pb 0 0),(3,.pb 1 0),(5,.ref 2 none),(6,.d .fz (.i .i64 (k1:Int))),(13,.d .fz (.i .i64 ((a1.Right.length+1:Nat):Int))),(14,.d .fz (.i .i64 (k1:Int))),(21,.ref 3 none),(22,.d .fz (.i .i64 (y2.length:Int))),(23,.d .fz (.i .i64 (k2:Int)))]) (fun k2 s2=>[(2,.row .fz 2 (s2.map Occurrence.D))]) (GH.trans (GH.bw (q:=0) [.d m (.sl 2 (a0.Symbols.map Symbol.D)),.u] (.cons .rfl (.cons .u .nil)) rfl) (GH.renK hS [(0,0),(1,1),(2,2),(3,3)] 4)) (fun k2 xk2 sk2 ok2 hxk2 hr hltk2=>?_) fun k2 hltk2=>?_
  ·obtain⟨s2,rfl⟩:∃ y,y=sk2:=⟨_,rfl⟩
   refine AW.seq (AW.regL ?_)
   refine V rfl ?_
   refine AL.nil ?_
   refine AW.seq (AW.cT rfl (dT hltk2) ?_)
   refine AW.skip ?_
   refine AW.seq (AW.block (AW.seq (AW.regL ?_)))
   refine IE hxk2 (Int.natCast_nonneg _) ?_
   refine LPa hxk2 ?_
   refine NV 4 ?_
   refine SB ?_
   refine AL.nil ?_
   refine AW.regL ?_
   iterate 5 refine V rfl ?_
   refine LIR 5 (m:=.fz) (f:=Occurrence.D) (xs:=[(⟨(k1:Int),xk2.Name⟩:Occurrence)]) ?_
   refine ggE hr fun g2 hr=>?_
   refine APf1 (f:=Occurrence.D) 6 (fun _=>rfl) 24 g2 ?_
   refine V rfl ?_
   refine AL.nil ?_
   refine AW.regL ?_
   refine OB _ (q2b (p:=k2) (q:=1) (q1o hltk2 hl2)) ?_
   refine V rfl ?_
   refine AL.nil ?_
   cases hr
   exact GH.trans (GH.bw (q:=0) [.d m (.sl 2 (a0.Symbols.map Symbol.D)),.u] (.cons .rfl (.cons .u .nil)) rfl) (GH.renK hS [(0,0),(1,1),(6,2),(3,3)] 4)
  ·refine AW.seq (AW.regL ?_)
   refine V rfl ?_
   refine AL.nil ?_
   refine AW.seq (AW.cF rfl (dF hltk2) ?_)
   refine AW.exit ?_
   refine AW.regL ?_
   refine OB _ (q2b (p:=k1) (q:=1) (q1o (ltN hltk1) hl1.2)) ?_
   refine V rfl ?_
   refine AL.nil ?_
   cases hr
   exact GH.trans (GH.bw (q:=0) [.d m (.sl 2 (a0.Symbols.map Symbol.D)),.u] (.cons .rfl (.cons .u .nil)) rfl) (GH.renK hS [(0,0),(1,1),(2,2)] 3)
 ·refine AW.seq (AW.regL ?_)
  refine V rfl ?_
  refine AL.nil ?_
  refine AW.seq (AW.cF rfl (dF geN) ?_)
  refine AW.exit ?_
  refine AW.seq (AW.regL ?_)
  iterate 2 refine V rfl ?_
  refine AL.nil ?_
  refine AW.ret ?_
  cases hr
  exact endA.renK [(2,0)] 1 hS
def q4k (a0:Int):Option Relation:=
 (q3v a0 0 16).bind fun y1=>
 if y1=true then (
 grd (0≤a0∧a0*8≤281474976710656∧a0≤9223372036854775807) <|
 some (⟨a0,(List.replicate a0.toNat (0:Int))⟩:Relation)
 ) else (
 some (⟨0,[]⟩:Relation)
 )
theorem z0l {a0:Int}{r:Relation}(hr:q4k a0=some r):Ok Tryz.prog 21 [.d .fz (.i .i64 a0)] [] (.ag [.d .fz (.i .i64 r.N),.ref 0 none]) [.row .fz 1 (r.Rows.map (A.D.i .i64))]:=by
 refine Ok.enter rfl Tryz.func21 rfl rfl rfl fun S hS=>?_
 unfold q4k at hr
 refine AW.seq (AW.regL ?_)
 refine NV 0 ?_
 refine AL.nil ?_
 refine AW.seq (AW.seq (AW.regL ?_))
 refine V rfl ?_
 refine bdE hr fun y1 hy1 hr=>?_
 refine CB [] [] (q4W hy1) ?_
 refine V rfl ?_
 refine AL.nil ?_
 refine ifE hr (fun h1 hr=>?_) fun h1 hr=>?_
 ·refine AW.cF rfl (bnF h1) ?_
  refine AW.skip ?_
  refine AW.seq (AW.regL ?_)
  iterate 2 refine V rfl ?_
  refine ggE hr fun g1 hr=>?_
  refine MKR 1 (f:=(A.D.i .i64)) (0:Int) g1.1 g1.2.1 g1.2.2 ?_
  refine V rfl ?_
  refine SB ?_
  refine AL.nil ?_
  refine AW.ret ?_
  cases hr
  exact endA.renK [(1,0)] 1 hS
 ·refine AW.cT rfl (bnT h1) ?_
  refine AW.seq (AW.regL ?_)
  refine V rfl ?_
  refine SB ?_
  refine AL.nil ?_
  refine AW.ret ?_
  refine endA.gh (GH.nlB (q:=0) (c:=1) (r:=1) .fz 1 rfl rfl rfl) ?_
  cases hr
  exact endA.renK [(1,0)] 1 hS
def z5l (rec_icopyExpr:Expr→Option Expr):Nat→Expr→((List Expr))→Option ((List Expr)):=fun k1 xk1 s1=>
 (rec_icopyExpr xk1).bind fun y1=>
 grd (((s1.length:Int)+1)*88≤140737488355328∧(s1.length:Int)+1≤9223372036854775807) <|
 some (s1++[y1])
def q7P (rec_icopyExpr:Expr→Option Expr)(a0:Expr):Option Expr:=
 (eachL (z5l rec_icopyExpr) 0 a0.Args ([]:List Expr)).bind fun s1=>
 some (⟨a0.Kind,a0.N,a0.Pos,a0.Type_,a0.Symbol,a0.Name,s1⟩:Expr)
theorem z3R {rec_icopyExpr:Expr→Option Expr}(ih_icopyExpr:∀ {m:Md} {a0:Expr} {r:Expr},rec_icopyExpr a0=some r→Ok Tryz.prog 44 [Expr.x m a0] [] (.ag [.d .fz (.i .i64 r.Kind),.d .fz (.i .i64 r.N),.d .fz (.i .i64 r.Pos),.d .fz (.i .i64 r.Type_),.d .fz (.s r.Symbol),.d .fz (.s r.Name),.ref 0 none]) [.row .fz 7 (r.Args.map Expr.D)]){m:Md}{a0:Expr}{r:Expr}(hr:q7P rec_icopyExpr a0=some r):Ok Tryz.prog 44 [Expr.x m a0] [] (.ag [.d .fz (.i .i64 r.Kind),.d .fz (.i .i64 r.N),.d .fz (.i .i64 r.Pos),.d .fz (.i .i64 r.Type_),.d .fz (.s r.Symbol),.d .fz (.s r.Name),.ref 0 none]) [.row .fz 7 (r.Args.map Expr.D)]:=by
 refine Ok.enter rfl Tryz.func44 rfl rfl rfl fun S hS=>?_
 unfold q7P at hr
 refine AW.seq (AW.regL ?_)
 refine BX 0 ?_
 refine NV 1 ?_
 refine AL.nil ?_
 refine AW.seq (AW.regL ?_)
 refine V rfl ?_
 refine AL.nil ?_
 refine AW.seq (AW.seq (AW.regL ?_))
 iterate 2 refine V rfl ?_
 refine LF ?_
 refine V rfl ?_
 refine AL.nil ?_
 refine AW.block ?_
 refine AW.nlT 3 2 .fz 7 rfl ?_
 refine AW.len (.ag 6 (.tmp 0 rfl) rfl) fun hl1=>?_
 refine bdE hr fun s1 hqq1 hr=>?_
 refine AW.eachL hqq1 hl1 3 (fun k1 s1=>[(1,.pb 0 0),(2,.pb 1 0),(3,.ref 2 none),(7,.d m (.sl 7 (a0.Args.map Expr.D))),(8,.d .fz (.i .i64 (a0.Args.length:Int))),(9,.d .fz (.i .i64 (k1:Int)))]) (fun k1 s1=>[(2,.row .fz 7 (s1.map Expr.D))]) (GH.renK hS [(0,0),(1,1),(2,2)] 3) (fun k1 xk1 sk1 ok1 hxk1 hr hltk1=>?_) fun k1 hltk1=>?_
 ·obtain⟨s1,rfl⟩:∃ y,y=sk1:=⟨_,rfl⟩
  refine AW.seq (AW.regL ?_)
  refine V rfl ?_
  refine AL.nil ?_
  refine AW.seq (AW.cT rfl (dT hltk1) ?_)
  refine AW.skip ?_
  refine AW.seq (AW.block (AW.seq (AW.regL ?_)))
  refine IFq (Int.natCast_nonneg _) hxk1 (Expr.D_cells xk1) ?_
  refine V rfl ?_
  refine NV 3 ?_
  refine SB ?_
  refine AL.nil ?_
  refine AW.regL ?_
  iterate 2 refine V rfl ?_
  refine bdE hr fun y1 hy1 hr=>?_
  refine CB [(0,4)] [] (ih_icopyExpr (m:=m) hy1) ?_
  refine AL.fz 4 rfl ?_
  refine LIRq 5 (m:=.fz) (f:=Expr.D) [y1] (by simp only [List.map_cons,List.map_nil,Expr.D_eq]; rfl) ?_
  refine ggE hr fun g1 hr=>?_
  refine AP1 6 .fz 88 g1 ?_
  refine V rfl ?_
  refine AL.nil ?_
  refine AW.regL ?_
  refine OB _ (q2b (p:=k1) (q:=1) (q1o hltk1 hl1)) ?_
  refine V rfl ?_
  refine AL.nil ?_
  cases hr
  exact GH.renK hS [(0,0),(1,1),(6,2)] 3
 ·refine AW.seq (AW.regL ?_)
  refine V rfl ?_
  refine AL.nil ?_
  refine AW.seq (AW.cF rfl (dF hltk1) ?_)
  refine AW.exit ?_
  refine AW.seq (AW.regL ?_)
  iterate 2 refine V rfl ?_
  refine SB ?_
  refine AL.nil ?_
  refine AW.seq (AW.regL ?_)
  refine V rfl ?_
  refine SB ?_
  refine AL.nil ?_
  refine AW.ret ?_
  cases hr
  exact endA.renK [(2,0)] 1 hS
def q5E:Nat→Expr→Option Expr
  | 0,_=>none
  | n+1,a0=>q7P (q5E n) a0
def q9j (a0:Expr):Option Expr:=recO fun n=>q5E n a0
theorem z3S (n:Nat):∀ {m:Md} {a0:Expr} {r:Expr},q5E n a0=some r→Ok Tryz.prog 44 [Expr.x m a0] [] (.ag [.d .fz (.i .i64 r.Kind),.d .fz (.i .i64 r.N),.d .fz (.i .i64 r.Pos),.d .fz (.i .i64 r.Type_),.d .fz (.s r.Symbol),.d .fz (.s r.Name),.ref 0 none]) [.row .fz 7 (r.Args.map Expr.D)]:=by
  induction n with
  | zero=>intro _ _ r hr; exact nomatch (show (none:Option Expr)=some r from hr)
  | succ n ih=>intro _ _ r hr; exact z3R ih hr
theorem z5m {m:Md}{a0:Expr}{r:Expr}(hr:q9j a0=some r):Ok Tryz.prog 44 [Expr.x m a0] [] (.ag [.d .fz (.i .i64 r.Kind),.d .fz (.i .i64 r.N),.d .fz (.i .i64 r.Pos),.d .fz (.i .i64 r.Type_),.d .fz (.s r.Symbol),.d .fz (.s r.Name),.ref 0 none]) [.row .fz 7 (r.Args.map Expr.D)]:=by
  obtain⟨n,hn⟩:=q4v hr
  exact z3S n hn
def q6c (a1:Occurrence):Nat→Equation→Unit→Option (Unit ⊕ (Expr × Bool)):=fun k1 xk1 _=>
 if xk1.At=a1 then (
 (q9j xk1.Expr).bind fun y1=>
 some (.inr (y1,true))
 ) else (
 some (.inl ())
 )
def q3S (a0:Rule)(a1:Occurrence):Option (Expr × Bool):=
 (findL (q6c a1) 0 a0.Equations ()).bind <| onr (fun r1=>some r1) fun _=>
 some ((⟨0,0,0,0,(⟨#[]⟩:ByteArray),(⟨#[]⟩:ByteArray),[]⟩:Expr),false)
theorem z0W {m:Md}{a0:Rule}{a1:Occurrence}{r:(Expr × Bool)}(hr:q3S a0 a1=some r):Ok Tryz.prog 22 [Rule.x m a0,Occurrence.x .fz a1] [] (.tu [.ag [.d .fz (.i .i64 r.1.Kind),.d .fz (.i .i64 r.1.N),.d .fz (.i .i64 r.1.Pos),.d .fz (.i .i64 r.1.Type_),.d .fz (.s r.1.Symbol),.d .fz (.s r.1.Name),.ref 0 none],.d .fz (.b r.2)]) [.row .fz 7 (r.1.Args.map Expr.D)]:=by
 refine Ok.enter rfl Tryz.func22 rfl rfl rfl fun S hS=>?_
 unfold q3S at hr
 refine AW.seq (AW.regL ?_)
 refine BX 0 ?_
 refine BX 1 ?_
 refine NV 2 ?_
 refine V rfl ?_
 refine AL.nil ?_
 refine AW.seq (AW.seq (AW.regL ?_))
 iterate 2 refine V rfl ?_
 refine LF ?_
 refine V rfl ?_
 refine AL.nil ?_
 refine AW.block ?_
 refine AW.len (.ag 4 (.tmp 0 rfl) rfl) fun hl1=>?_
 refine bdE hr fun q1 hqq1 hr=>?_
 refine AW.findL hqq1 hl1 3 (fun k1 _=>[(3,.pb 1 0),(4,.pb 2 0),(9,.d m (.sl 9 (a0.Equations.map Equation.D))),(10,.d .fz (.i .i64 (a0.Equations.length:Int))),(11,.d .fz (.i .i64 (k1:Int)))]) (fun k1 _=>[]) (GH.renK hS [(0,0),(1,1),(2,2)] 3) (fun k1 xk1 sk1 ok1 hxk1 hr hltk1 hik1=>?_) fun k1 sk1 ek1 hltk1=>?_
 ·refine AW.seq (AW.regL ?_)
  refine V rfl ?_
  refine AL.nil ?_
  refine AW.seq (AW.cT rfl (dT hltk1) ?_)
  refine AW.skip ?_
  refine AW.seq (AW.block (AW.seq (AW.regL ?_)))
  refine IF (Int.natCast_nonneg _) hxk1 ?_
  refine V rfl ?_
  refine NV 3 ?_
  refine SB ?_
  refine AL.nil ?_
  refine AW.seq (AW.regL ?_)
  iterate 3 refine V rfl ?_
  refine SQ rfl rfl rfl rfl (q2T xk1.At a1) ?_
  refine AL.nil ?_
  refine ifE hr (fun h1 hr=>?_) fun h1 hr=>?_
  ·refine AW.cT rfl (dT h1) ?_
   refine AW.seq (AW.regL ?_)
   iterate 2 refine V rfl ?_
   refine bdE hr fun y1 hy1 hr=>?_
   refine CB [(0,4)] [] (z5m (m:=m) hy1) ?_
   refine SB ?_
   refine V rfl ?_
   refine AL.nil ?_
   refine AW.ret ?_
   cases hr
   cases hik1 _ rfl
   rename_i hr
   cases hr
   exact endA.renK [(4,0)] 1 hS
  ·refine AW.cF rfl (dF h1) ?_
   refine AW.skip ?_
   refine AW.regL ?_
   refine OB _ (q2b (p:=k1) (q:=1) (q1o hltk1 hl1)) ?_
   refine V rfl ?_
   refine AL.nil ?_
   cases hr
   exact⟨_,rfl,GH.renK hS [(0,0),(1,1),(2,2)] 3⟩
 ·subst ek1
  refine AW.seq (AW.regL ?_)
  refine V rfl ?_
  refine AL.nil ?_
  refine AW.seq (AW.cF rfl (dF hltk1) ?_)
  refine AW.exit ?_
  refine AW.seq (AW.regL ?_)
  refine V rfl ?_
  refine SB ?_
  refine V rfl ?_
  refine AL.nil ?_
  refine AW.ret ?_
  refine endA.gh (GH.nlB (q:=2) (c:=6) (r:=3) .fz 7 rfl rfl rfl) ?_
  cases hr
  exact endA.renK [(3,0)] 1 hS
def q3H (a0:Expr)(o0:(List Occurrence)):Option (Bool × (List Occurrence)):=
 if a0.Kind=3 then (
 grd (((o0.length:Int)+1)*24≤140737488355328∧(o0.length:Int)+1≤9223372036854775807) <|
 some (true,(o0++[(⟨a0.Pos,a0.Name⟩:Occurrence)]))
 ) else (
 some (true,o0)
 )
theorem q9k {m:Md}{a0:Expr}{o0:(List Occurrence)}{r:(Bool × (List Occurrence))}(hr:q3H a0 o0=some r):Ok Tryz.prog 46 [Expr.x m a0,.pb 0 0] [.box [.ref 1 none],.row .fz 2 (o0.map Occurrence.D)] (.d .fz (.b r.1)) [.box [.ref 2 none],.dead,.row .fz 2 (r.2.map Occurrence.D)]:=by
 refine Ok.enter rfl Tryz.func46 rfl rfl rfl fun S hS=>?_
 unfold q3H at hr
 refine AW.seq (AW.regL ?_)
 refine BX 2 ?_
 refine V rfl ?_
 refine AL.nil ?_
 refine AW.seq (AW.seq (AW.regL ?_))
 iterate 3 refine V rfl ?_
 refine AL.nil ?_
 refine ifE hr (fun h1 hr=>?_) fun h1 hr=>?_
 ·refine AW.cT rfl (dT h1) ?_
  refine AW.regL ?_
  iterate 6 refine V rfl ?_
  refine LIR 3 (m:=.fz) (f:=Occurrence.D) (xs:=[(⟨a0.Pos,a0.Name⟩:Occurrence)]) ?_
  refine ggE hr fun g1 hr=>?_
  refine APf1 (f:=Occurrence.D) 4 (fun _=>rfl) 24 g1 ?_
  refine SB ?_
  refine AL.nil ?_
  refine AW.seq (AW.regL ?_)
  refine V rfl ?_
  refine AL.nil ?_
  refine AW.ret ?_
  cases hr
  exact endA.renK [(0,0),(1,1),(4,2)] 3 hS
 ·refine AW.cF rfl (dF h1) ?_
  refine AW.skip ?_
  refine AW.seq (AW.regL ?_)
  refine V rfl ?_
  refine AL.nil ?_
  refine AW.ret ?_
  refine endA.gh (GH.mv (i:=1) (j:=3) rfl rfl) ?_
  cases hr
  exact endA.renK [(0,0),(1,1),(3,2)] 3 hS
def q2d (rec_ieveryNode_iAttributeUses_1:Expr→(List Occurrence)→Option (Bool × (List Occurrence)))(a0:Expr)(o0:(List Occurrence)):Option (Bool × (List Occurrence)):=
 (rec_ieveryNode_iAttributeUses_1 a0 o0).bind fun (y1,z1)=>
 some (!y1,z1)
theorem q5y {rec_ieveryNode_iAttributeUses_1:Expr→(List Occurrence)→Option (Bool × (List Occurrence))}(ih_ieveryNode_iAttributeUses_1:∀ {m:Md} {a0:Expr} {o0:(List Occurrence)} {r:(Bool × (List Occurrence))},rec_ieveryNode_iAttributeUses_1 a0 o0=some r→Ok Tryz.prog 45 [Expr.x m a0,.fn 46 [.pb 0 0]] [.box [.ref 1 none],.row .fz 2 (o0.map Occurrence.D)] (.d .fz (.b r.1)) [.box [.ref 2 none],.dead,.row .fz 2 (r.2.map Occurrence.D)]){m:Md}{a0:Expr}{o0:(List Occurrence)}{r:(Bool × (List Occurrence))}(hr:q2d rec_ieveryNode_iAttributeUses_1 a0 o0=some r):Ok Tryz.prog 69 [Expr.x m a0,.pb 1 0] [.box [.ref 2 none],.box [.fn 46 [.pb 0 0]],.row .fz 2 (o0.map Occurrence.D)] (.d .fz (.b r.1)) [.box [.ref 3 none],.box [.fn 46 [.pb 0 0]],.dead,.row .fz 2 (r.2.map Occurrence.D)]:=by
 refine Ok.enter rfl Tryz.func69 rfl rfl rfl fun S hS=>?_
 unfold q2d at hr
 refine AW.seq (AW.regL ?_)
 refine BX 3 ?_
 refine V rfl ?_
 refine AL.nil ?_
 refine AW.seq (AW.regL ?_)
 iterate 2 refine V rfl ?_
 refine bdE hr fun q1 hq1 hr=>?_
 obtain⟨y1,z1⟩:=q1
 refine CB [(0,0),(1,2),(2,4)] [] (ih_ieveryNode_iAttributeUses_1 (m:=m) hq1) ?_
 iterate 2 refine V rfl ?_
 refine AL.nil ?_
 refine AW.ret ?_
 cases hr
 exact endA.renK [(0,0),(1,1),(2,2),(4,3)] 4 hS
def q1B (rec_ieveryNode_iAttributeUses_1:Expr→(List Occurrence)→Option (Bool × (List Occurrence))):Nat→Expr→((List Occurrence))→Option (((List Occurrence)) ⊕ (Int × (List Occurrence))):=fun k1 xk1 s1=>
 (q2d rec_ieveryNode_iAttributeUses_1 xk1 s1).bind fun (y1,z1)=>
 if y1=true then (
 some (.inr ((k1:Int),z1))
 ) else (
 some (.inl z1)
 )
def q1t (rec_ieveryNode_iAttributeUses_1:Expr→(List Occurrence)→Option (Bool × (List Occurrence)))(a0:(List Expr))(o0:(List Occurrence)):Option (Int × (List Occurrence)):=
 (findL (q1B rec_ieveryNode_iAttributeUses_1) 0 a0 o0).bind <| onr (fun r1=>some r1) fun s1=>
 some ((-1),s1)
theorem q3g {rec_ieveryNode_iAttributeUses_1:Expr→(List Occurrence)→Option (Bool × (List Occurrence))}(ih_ieveryNode_iAttributeUses_1:∀ {m:Md} {a0:Expr} {o0:(List Occurrence)} {r:(Bool × (List Occurrence))},rec_ieveryNode_iAttributeUses_1 a0 o0=some r→Ok Tryz.prog 45 [Expr.x m a0,.fn 46 [.pb 0 0]] [.box [.ref 1 none],.row .fz 2 (o0.map Occurrence.D)] (.d .fz (.b r.1)) [.box [.ref 2 none],.dead,.row .fz 2 (r.2.map Occurrence.D)]){m:Md}{a0:(List Expr)}{o0:(List Occurrence)}{r:(Int × (List Occurrence))}(hr:q1t rec_ieveryNode_iAttributeUses_1 a0 o0=some r):Ok Tryz.prog 96 [.d m (.sl 7 (a0.map Expr.D)),.fn 69 [.pb 1 0]] [.box [.ref 2 none],.box [.fn 46 [.pb 0 0]],.row .fz 2 (o0.map Occurrence.D)] (.d .fz (.i .i64 r.1)) [.box [.ref 3 none],.box [.fn 46 [.pb 0 0]],.dead,.row .fz 2 (r.2.map Occurrence.D)]:=by
 refine Ok.enter rfl Tryz.func96 rfl rfl rfl fun S hS=>?_
 unfold q1t at hr
 refine AW.seq (AW.regL ?_)
 refine V rfl ?_
 refine AL.nil ?_
 refine AW.seq (AW.seq (AW.regL ?_))
 refine V rfl ?_
 refine LF ?_
 refine V rfl ?_
 refine AL.nil ?_
 refine AW.block ?_
 refine AW.mv 2 3 rfl ?_
 refine AW.len (.tmp 0 rfl) fun hl1=>?_
 refine bdE hr fun q1 hqq1 hr=>?_
 refine AW.findL hqq1 hl1 4 (fun k1 s1=>[(0,.d m (.sl 7 (a0.map Expr.D))),(1,.fn 69 [.pb 1 0]),(7,.d .fz (.i .i64 (a0.length:Int))),(8,.d .fz (.i .i64 (k1:Int)))]) (fun k1 s1=>[(3,.row .fz 2 (s1.map Occurrence.D))]) (GH.renK hS [(0,0),(1,1),(2,2),(3,3)] 4) (fun k1 xk1 sk1 ok1 hxk1 hr hltk1 hik1=>?_) fun k1 sk1 ek1 hltk1=>?_
 ·obtain⟨s1,rfl⟩:∃ y,y=sk1:=⟨_,rfl⟩
  refine AW.seq (AW.regL ?_)
  refine V rfl ?_
  refine AL.nil ?_
  refine AW.seq (AW.cT rfl (dT hltk1) ?_)
  refine AW.skip ?_
  refine AW.seq (AW.block (AW.seq (AW.regL ?_)))
  iterate 2 refine V rfl ?_
  refine AL.nil ?_
  refine AW.seq (AW.regL ?_)
  iterate 3 refine V rfl ?_
  refine IFq (Int.natCast_nonneg _) hxk1 (Expr.D_cells xk1) ?_
  refine V rfl ?_
  refine bdE hr fun q2 hq2 hr=>?_
  obtain⟨y1,z1⟩:=q2
  refine CB [(0,0),(1,1),(2,3),(3,4)] [] (q5y ih_ieveryNode_iAttributeUses_1 (m:=m) hq2) ?_
  refine AL.nil ?_
  refine ifE hr (fun h1 hr=>?_) fun h1 hr=>?_
  ·refine AW.cT rfl h1 ?_
   refine AW.seq (AW.regL ?_)
   iterate 2 refine V rfl ?_
   refine AL.nil ?_
   refine AW.ret ?_
   cases hr
   cases hik1 _ rfl
   rename_i hr
   cases hr
   exact endA.renK [(0,0),(1,1),(2,2),(4,3)] 4 hS
  ·refine AW.cF rfl (bF h1) ?_
   refine AW.skip ?_
   refine AW.regL ?_
   refine OB _ (q2b (p:=k1) (q:=1) (q1o hltk1 hl1)) ?_
   refine V rfl ?_
   refine AL.nil ?_
   cases hr
   exact⟨_,rfl,GH.renK hS [(0,0),(1,1),(2,2),(4,3)] 4⟩
 ·subst ek1
  obtain⟨s1,rfl⟩:∃ y,y=sk1:=⟨_,rfl⟩
  refine AW.seq (AW.regL ?_)
  refine V rfl ?_
  refine AL.nil ?_
  refine AW.seq (AW.cF rfl (dF hltk1) ?_)
  refine AW.exit ?_
  refine AW.seq (AW.regL ?_)
  refine V rfl ?_
  refine AL.nil ?_
  refine AW.ret ?_
  cases hr
  exact endA.renK [(0,0),(1,1),(2,2),(3,3)] 4 hS
def q1s (rec_ieveryNode_iAttributeUses_1:Expr→(List Occurrence)→Option (Bool × (List Occurrence)))(a0:(List Expr))(o0:(List Occurrence)):Option (Bool × (List Occurrence)):=
 (q1t rec_ieveryNode_iAttributeUses_1 a0 o0).bind fun (y1,z1)=>
 some (decide (0≤y1),z1)
theorem q2V {rec_ieveryNode_iAttributeUses_1:Expr→(List Occurrence)→Option (Bool × (List Occurrence))}(ih_ieveryNode_iAttributeUses_1:∀ {m:Md} {a0:Expr} {o0:(List Occurrence)} {r:(Bool × (List Occurrence))},rec_ieveryNode_iAttributeUses_1 a0 o0=some r→Ok Tryz.prog 45 [Expr.x m a0,.fn 46 [.pb 0 0]] [.box [.ref 1 none],.row .fz 2 (o0.map Occurrence.D)] (.d .fz (.b r.1)) [.box [.ref 2 none],.dead,.row .fz 2 (r.2.map Occurrence.D)]){m:Md}{a0:(List Expr)}{o0:(List Occurrence)}{r:(Bool × (List Occurrence))}(hr:q1s rec_ieveryNode_iAttributeUses_1 a0 o0=some r):Ok Tryz.prog 68 [.d m (.sl 7 (a0.map Expr.D)),.fn 69 [.pb 1 0]] [.box [.ref 2 none],.box [.fn 46 [.pb 0 0]],.row .fz 2 (o0.map Occurrence.D)] (.d .fz (.b r.1)) [.box [.ref 3 none],.box [.fn 46 [.pb 0 0]],.dead,.row .fz 2 (r.2.map Occurrence.D)]:=by
 refine Ok.enter rfl Tryz.func68 rfl rfl rfl fun S hS=>?_
 unfold q1s at hr
 refine AW.seq (AW.regL ?_)
 refine V rfl ?_
 refine AL.nil ?_
 refine AW.seq (AW.regL ?_)
 iterate 2 refine V rfl ?_
 refine bdE hr fun q1 hq1 hr=>?_
 obtain⟨y1,z1⟩:=q1
 refine CB [(0,0),(1,1),(2,2),(3,3)] [] (q3g ih_ieveryNode_iAttributeUses_1 (m:=m) hq1) ?_
 iterate 2 refine V rfl ?_
 refine AL.nil ?_
 refine AW.ret ?_
 cases hr
 exact endA.renK [(0,0),(1,1),(2,2),(3,3)] 4 hS
def q1N (rec_ieveryNode_iAttributeUses_1:Expr→(List Occurrence)→Option (Bool × (List Occurrence)))(a0:Expr)(o0:(List Occurrence)):Option (Bool × (List Occurrence)):=
 (q3H a0 o0).bind fun (y1,z1)=>
 if y1=true then (
 (q1s rec_ieveryNode_iAttributeUses_1 a0.Args z1).bind fun (y2,z2)=>
 some (!y2,z2)
 ) else (
 some (false,z1)
 )
theorem q5F {rec_ieveryNode_iAttributeUses_1:Expr→(List Occurrence)→Option (Bool × (List Occurrence))}(ih_ieveryNode_iAttributeUses_1:∀ {m:Md} {a0:Expr} {o0:(List Occurrence)} {r:(Bool × (List Occurrence))},rec_ieveryNode_iAttributeUses_1 a0 o0=some r→Ok Tryz.prog 45 [Expr.x m a0,.fn 46 [.pb 0 0]] [.box [.ref 1 none],.row .fz 2 (o0.map Occurrence.D)] (.d .fz (.b r.1)) [.box [.ref 2 none],.dead,.row .fz 2 (r.2.map Occurrence.D)]){m:Md}{a0:Expr}{o0:(List Occurrence)}{r:(Bool × (List Occurrence))}(hr:q1N rec_ieveryNode_iAttributeUses_1 a0 o0=some r):Ok Tryz.prog 45 [Expr.x m a0,.fn 46 [.pb 0 0]] [.box [.ref 1 none],.row .fz 2 (o0.map Occurrence.D)] (.d .fz (.b r.1)) [.box [.ref 2 none],.dead,.row .fz 2 (r.2.map Occurrence.D)]:=by
 refine Ok.enter rfl Tryz.func45 rfl rfl rfl fun S hS=>?_
 unfold q1N at hr
 refine AW.seq (AW.regL ?_)
 refine BX 2 ?_
 refine BX 3 ?_
 refine V rfl ?_
 refine AL.nil ?_
 refine AW.seq (AW.regL ?_)
 iterate 2 refine V rfl ?_
 refine bdE hr fun q1 hq1 hr=>?_
 obtain⟨y1,z1⟩:=q1
 refine CB [(0,0),(1,1),(2,4)] [] (q9k (m:=m) hq1) ?_
 refine ifE hr (fun h1 hr=>?_) fun h1 hr=>?_
 ·refine VT rfl h1 ?_
  iterate 3 refine V rfl ?_
  refine bdE hr fun q2 hq2 hr=>?_
  obtain⟨y2,z2⟩:=q2
  refine CB [(0,0),(1,3),(2,4),(3,5)] [] (q2V ih_ieveryNode_iAttributeUses_1 (m:=m) hq2) ?_
  iterate 3 refine V rfl ?_
  refine AL.nil ?_
  refine AW.ret ?_
  cases hr
  exact endA.renK [(0,0),(1,1),(5,2)] 3 hS
 ·refine VF rfl (bF h1) ?_
  refine AL.off ?_
  refine AL.off ?_
  refine AL.off ?_
  refine AL.off ?_
  refine AL.off ?_
  iterate 2 refine V rfl ?_
  refine AL.nil ?_
  refine AW.ret ?_
  cases hr
  exact endA.renK [(0,0),(1,1),(4,2)] 3 hS
def q1H:Nat→Expr→(List Occurrence)→Option (Bool × (List Occurrence))
  | 0,_,_=>none
  | n+1,a0,o0=>q1N (q1H n) a0 o0
def q3b (a0:Expr)(o0:(List Occurrence)):Option (Bool × (List Occurrence)):=recO fun n=>q1H n a0 o0
theorem q5G (n:Nat):∀ {m:Md} {a0:Expr} {o0:(List Occurrence)} {r:(Bool × (List Occurrence))},q1H n a0 o0=some r→Ok Tryz.prog 45 [Expr.x m a0,.fn 46 [.pb 0 0]] [.box [.ref 1 none],.row .fz 2 (o0.map Occurrence.D)] (.d .fz (.b r.1)) [.box [.ref 2 none],.dead,.row .fz 2 (r.2.map Occurrence.D)]:=by
  induction n with
  | zero=>intro _ _ _ r hr; exact nomatch (show (none:Option (Bool × (List Occurrence)))=some r from hr)
  | succ n ih=>intro _ _ _ r hr; exact q5F ih hr
theorem q5X {m:Md}{a0:Expr}{o0:(List Occurrence)}{r:(Bool × (List Occurrence))}(hr:q3b a0 o0=some r):Ok Tryz.prog 45 [Expr.x m a0,.fn 46 [.pb 0 0]] [.box [.ref 1 none],.row .fz 2 (o0.map Occurrence.D)] (.d .fz (.b r.1)) [.box [.ref 2 none],.dead,.row .fz 2 (r.2.map Occurrence.D)]:=by
  obtain⟨n,hn⟩:=q4v hr
  exact q5G n hn
def q2s (a0:(List Occurrence)):Option (List Occurrence):=
 grd (a0.length < 4611686018427387904) <|
 some (z5b a0)
theorem q6d {a0:(List Occurrence)}{r:(List Occurrence)}(hr:q2s a0=some r):Ok Tryz.prog 47 [.ref 0 none,.fn 48 []] [.row .fz 2 (a0.map Occurrence.D)] (.tu []) [.row .fz 2 (r.map Occurrence.D)]:=by
 unfold q2s at hr
 refine ggE hr fun g1 hr=>?_
 cases hr
 exact j1t g1
def q1y (s1:Int):((List Occurrence) × Int × Int)→Option (((List Occurrence) × Int × Int) ⊕ ((List Occurrence) × Int)):=fun (s4,s5,s6)=>
 if s6 < ((s4.drop s1.toNat).length:Int) then (
 (
 grd (0≤s6) <|
 (s4[(s1.toNat+s6.toNat)]?).bind fun x3=>
 grd (I64 (s6 - 1)) <|
 grd (0≤(s6 - 1)) <|
 (s4[(s1.toNat+((s6 - 1).toNat))]?).bind fun x4=>
 if x3=x4 then (
 some (s5,s4)
 ) else (
 grd (0≤s6) <|
 grd (0≤s5) <|
 (s4[s5.toNat]?).bind fun x5=>
 grd (I64 (s5+1)) <|
 some ((s5+1),(List.set s4 s5.toNat x3))
 )
 ).bind fun (s7,s8)=>
 grd (I64 (s6+1)) <|
 some (.inl (s8,s7,(s6+1)))
 ) else (
 some (.inr (s4,s5))
 )
def q1z (a0:(List Occurrence)):Int→Option (Int ⊕ (Unit ⊕ (List Occurrence))):=fun s1=>
 if s1 < (a0.length:Int) then (
 grd (0≤s1) <|
 (a0[s1.toNat]?).bind fun x1=>
 grd (I64 (s1 - 1)) <|
 grd (0≤(s1 - 1)) <|
 (a0[(s1 - 1).toNat]?).bind fun x2=>
 if x1=x2 then (
 grd (0≤s1) <|
 grd (s1.toNat≤a0.length) <|
 (q2t (q1y s1) (a0,s1,1)).bind fun (s2,s3)=>
 grd (0≤s3) <|
 grd (s3.toNat≤s2.length) <|
 grd (0≤s3) <|
 grd (s3.toNat≤(s2.take s3.toNat++List.replicate (s2.length - s3.toNat) (⟨(0:Int),(⟨#[]⟩:ByteArray)⟩:Occurrence)).length) <|
 some (.inr (.inr ((s2.take s3.toNat++List.replicate (s2.length - s3.toNat) (⟨(0:Int),(⟨#[]⟩:ByteArray)⟩:Occurrence)).take s3.toNat)))
 ) else (
 grd (I64 (s1+1)) <|
 some (.inl (s1+1))
 )
 ) else (
 some (.inr (.inl ()))
 )
def q1Z (a0:(List Occurrence)):Option (List Occurrence):=
 if (a0.length:Int) < 2 then (
 some a0
 ) else (
 (q2t (q1z a0) 1).bind <| onr (fun r1=>some r1) fun ()=>
 some a0
 )
theorem q6n {a0:(List Occurrence)}{r:(List Occurrence)}(hr:q1Z a0=some r):Ok Tryz.prog 49 [.ref 0 none] [.row .fz 2 (a0.map Occurrence.D)] (.ref 1 none) [.dead,.row .fz 2 (r.map Occurrence.D)]:=by
 refine Ok.enter rfl Tryz.func49 rfl rfl rfl fun S hS=>?_
 unfold q1Z at hr
 refine AW.seq (AW.regL ?_)
 refine V rfl ?_
 refine AL.nil ?_
 refine AW.seq (AW.seq (AW.regL ?_))
 refine V rfl ?_
 refine LE ?_
 refine V rfl ?_
 refine AL.nil ?_
 refine ifE hr (fun h1 hr=>?_) fun h1 hr=>?_
 ·refine AW.cT rfl (dT h1) ?_
  refine AW.seq (AW.regL ?_)
  iterate 2 refine V rfl ?_
  refine AL.nil ?_
  refine AW.ret ?_
  refine endA.gh (GH.mv (i:=0) (j:=1) rfl rfl) ?_
  cases hr
  exact endA.renK [(0,0),(1,1)] 2 hS
 ·refine AW.cF rfl (dF h1) ?_
  refine AW.skip ?_
  refine AW.seq (AW.seq (AW.regL ?_))
  refine V rfl ?_
  refine AL.nil ?_
  refine bdE hr fun q1 hqq1 hr=>?_
  refine AW.cut 1 (fun _=>[(0,.ref 0 none)]) (fun _=>[]) (M:=fun x=>q1 = .inl x) ?_ fun x hx=>?_
  ·refine AW.block (AW.iter hqq1 1 (fun s1=>[(0,.ref 0 none),(3,.d .fz (.i .i64 s1))]) (fun s1=>[]) (GH.renK hS [(0,0)] 1) fun sk1 ok1 hr hik1=>?_)
   obtain⟨s1,rfl⟩:∃ y,y=sk1:=⟨_,rfl⟩
   have hr:=hr
   refine AW.seq (AW.seq (AW.regL ?_))
   iterate 2 refine V rfl ?_
   refine LE ?_
   refine V rfl ?_
   refine AL.nil ?_
   refine ifE hr (fun h2 hr=>?_) fun h2 hr=>?_
   ·refine AW.cT rfl (dT h2) ?_
    refine AW.skip ?_
    refine AW.seq (AW.block (AW.seq (AW.drawL (h:=?_))))
    iterate 2 refine V rfl ?_
    refine ggE hr fun g1 hr=>?_
    refine bdE hr fun x1 hx1 hr=>?_
    refine IE hx1 g1 ?_
    refine LPa hx1 ?_
    iterate 2 refine V rfl ?_
    refine ggE hr fun g2 hr=>?_
    refine OB _ (bSub g2) ?_
    refine ggE hr fun g3 hr=>?_
    refine bdE hr fun x2 hx2 hr=>?_
    refine IE hx2 g3 ?_
    refine LPa hx2 ?_
    refine SQ rfl rfl rfl rfl (q2T x1 x2) ?_
    refine AL.nil ?_
    refine ifE hr (fun h3 hr=>?_) fun h3 hr=>?_
    ·refine AW.cT rfl (dT h3) ?_
     refine AW.seq (AW.regL ?_)
     iterate 2 refine V rfl ?_
     refine ggE hr fun g4 hr=>?_
     refine ggE hr fun g5 hr=>?_
     refine SVL g4 g5 ?_
     refine V rfl ?_
     refine AL.nil ?_
     refine AW.seq (AW.seq (AW.regL ?_))
     refine V rfl ?_
     refine AL.nil ?_
     refine bdE hr fun q2 hqq2 hr=>?_
     obtain⟨s2,s3⟩:=q2
     refine AW.cut1 1 [(0,.ref 0 none),(3,.d .fz (.i .i64 s3))] [(0,.row .fz 2 (s2.map Occurrence.D))] ?_ ?_
     ·refine AW.block (AW.iter hqq2 1 (fun (s4,s5,s6)=>[(0,.ref 0 none),(3,.d .fz (.i .i64 s5)),(4,.vs 0 none s1.toNat (s4.length - s1.toNat)),(5,.d .fz (.i .i64 s6))]) (fun (s4,s5,s6)=>[(0,.row .fz 2 (s4.map Occurrence.D))]) (GH.ren hS [(0,0)] 1 ⟨.rfl,.rfl,(.vn (by first | rfl | simp only [List.length_set])),.rfl,trivial⟩) fun sk2 ok2 hr hik2=>?_)
      obtain⟨s4,s5,s6⟩:=sk2
      have hr:=hr
      refine AW.seq (AW.seq (AW.regL ?_))
      iterate 2 refine V rfl ?_
      refine LV (s4.drop s1.toNat).length ?_
      refine V rfl ?_
      refine AL.nil ?_
      refine ifE hr (fun h4 hr=>?_) fun h4 hr=>?_
      ·refine AW.cT rfl (dT h4) ?_
       refine AW.skip ?_
       refine bdE hr fun q3 hqq3 hr=>?_
       obtain⟨s7,s8⟩:=q3
       refine AW.seq (AW.cut1 1 [(0,.ref 0 none),(3,.d .fz (.i .i64 s7)),(4,.vs 0 none s1.toNat (s8.length - s1.toNat)),(5,.d .fz (.i .i64 s6))] [(0,.row .fz 2 (s8.map Occurrence.D))] ?_ ?_)
       ·replace hr:=hqq3
        refine AW.block (AW.seq (AW.drawL (h:=?_)))
        iterate 2 refine V rfl ?_
        refine ggE hr fun g6 hr=>?_
        refine bdE hr fun x3 hx3 hr=>?_
        refine IV hx3 g6 (z0i hx3) ?_
        refine LPa hx3 ?_
        iterate 2 refine V rfl ?_
        refine ggE hr fun g7 hr=>?_
        refine OB _ (bSub g7) ?_
        refine ggE hr fun g8 hr=>?_
        refine bdE hr fun x4 hx4 hr=>?_
        refine IV hx4 g8 (z0i hx4) ?_
        refine LPa hx4 ?_
        refine SQn rfl rfl rfl rfl (q2T x3 x4) ?_
        refine AL.nil ?_
        refine ifE hr (fun h5 hr=>?_) fun h5 hr=>?_
        ·refine AW.cF rfl (nF h5) ?_
         refine AW.skip ?_
         cases hr
         exact GH.ren hS [(0,0)] 1 ⟨.rfl,.rfl,(.vn (by first | rfl | simp only [List.length_set])),.rfl,trivial⟩
        ·refine AW.cT rfl (nT h5) ?_
         refine AW.seq (AW.regL ?_)
         iterate 4 refine V rfl ?_
         refine ggE hr fun g9 hr=>?_
         refine IV hx3 g9 (z0i hx3) ?_
         refine LPa hx3 ?_
         refine ggE hr fun g10 hr=>?_
         refine bdE hr fun x5 hx5 hr=>?_
         refine IE hx5 g10 ?_
         refine SE x3 hx5 ?_
         refine AL.nil ?_
         refine AW.regL ?_
         refine V rfl ?_
         refine ggE hr fun g11 hr=>?_
         refine OB _ (bAdd g11) ?_
         refine V rfl ?_
         refine AL.nil ?_
         cases hr
         exact GH.ren hS [(0,0)] 1 ⟨.rfl,.rfl,(.vn (by first | rfl | simp only [List.length_set])),.rfl,trivial⟩
       ·refine AW.regL ?_
        refine V rfl ?_
        refine ggE hr fun g12 hr=>?_
        refine OB _ (bAdd g12) ?_
        refine V rfl ?_
        refine AL.nil ?_
        cases hr
        exact⟨_,rfl,GH.ren hS [(0,0)] 1 ⟨.rfl,.rfl,(.vn (by first | rfl | simp only [List.length_set])),.rfl,trivial⟩⟩
      ·refine AW.cF rfl (dF h4) ?_
       refine AW.exit ?_
       cases hr
       cases hik2 _ rfl
       exact GH.renK hS [(0,0)] 1
     ·refine AW.seq (AW.regL ?_)
      iterate 2 refine V rfl ?_
      refine ggE hr fun g13 hr=>?_
      refine ggE hr fun g14 hr=>?_
      refine SVL g13 g14 ?_
      refine CLR (⟨(0:Int),(⟨#[]⟩:ByteArray)⟩:Occurrence) g14 ?_
      refine AL.nil ?_
      refine AW.seq (AW.regL ?_)
      iterate 2 refine V rfl ?_
      refine ggE hr fun g15 hr=>?_
      refine ggE hr fun g16 hr=>?_
      refine CU 1 g15 g16 ?_
      refine V rfl ?_
      refine AL.nil ?_
      refine AW.ret ?_
      cases hr
      cases hik1 _ rfl
      rename_i hr
      cases hr
      exact endA.renK [(0,0),(1,1)] 2 hS
    ·refine AW.cF rfl (dF h3) ?_
     refine AW.skip ?_
     refine AW.regL ?_
     refine V rfl ?_
     refine ggE hr fun g17 hr=>?_
     refine OB _ (bAdd g17) ?_
     refine V rfl ?_
     refine AL.nil ?_
     cases hr
     exact⟨_,rfl,GH.renK hS [(0,0)] 1⟩
   ·refine AW.cF rfl (dF h2) ?_
    refine AW.exit ?_
    cases hr
    cases hik1 _ rfl
    exact⟨_,rfl,GH.renK hS [(0,0)] 1⟩
  ·subst hx
   refine AW.seq (AW.regL ?_)
   iterate 2 refine V rfl ?_
   refine AL.nil ?_
   refine AW.ret ?_
   refine endA.gh (GH.mv (i:=0) (j:=1) rfl rfl) ?_
   cases hr
   exact endA.renK [(0,0),(1,1)] 2 hS
def q3D (a0:Expr):Option (List Occurrence):=
 (q3b a0 []).bind fun (y1,z1)=>
 (q2s z1).bind fun z2=>
 (q1Z z2).bind fun y2=>
 some y2
theorem z0m {m:Md}{a0:Expr}{r:(List Occurrence)}(hr:q3D a0=some r):Ok Tryz.prog 23 [Expr.x m a0] [] (.ref 0 none) [.row .fz 2 (r.map Occurrence.D)]:=by
 refine Ok.enter rfl Tryz.func23 rfl rfl rfl fun S hS=>?_
 unfold q3D at hr
 refine AW.seq (AW.regL ?_)
 refine BX 0 ?_
 refine V rfl ?_
 refine AL.nil ?_
 refine AW.seq (AW.regL ?_)
 refine L0 1 Occurrence.D ?_
 refine NV 2 ?_
 refine SB ?_
 refine AL.nil ?_
 refine AW.seq (AW.regL ?_)
 iterate 2 refine V rfl ?_
 refine bdE hr fun q1 hq1 hr=>?_
 obtain⟨y1,z1⟩:=q1
 refine CB [(0,2),(1,1),(2,3)] [] (q5X (m:=m) hq1) ?_
 refine AL.nil ?_
 refine AW.seq (AW.regL ?_)
 refine V rfl ?_
 refine bdE hr fun z2 hz2 hr=>?_
 refine CB [(0,3)] [] (q6d hz2) ?_
 refine AL.nil ?_
 refine AW.seq (AW.regL ?_)
 refine V rfl ?_
 refine bdE hr fun y2 hy2 hr=>?_
 refine CB [(0,3),(1,4)] [] (q6n hy2) ?_
 refine V rfl ?_
 refine AL.nil ?_
 refine AW.ret ?_
 cases hr
 exact endA.renK [(4,0)] 1 hS
def q1x (a1:Occurrence):Nat→Occurrence→Unit→Option (Unit ⊕ Int):=fun k1 xk1 _=>
 if a1=xk1 then (
 some (.inr (k1:Int))
 ) else (
 some (.inl ())
 )
def q1v (a0:(List Occurrence))(a1:Occurrence):Option Int:=
 (findL (q1x a1) 0 a0 ()).bind <| onr (fun r1=>some r1) fun _=>
 some (-1)
theorem q6V {m:Md}{a0:(List Occurrence)}{a1:Occurrence}{r:Int}(hr:q1v a0 a1=some r):Ok Tryz.prog 51 [.d m (.sl 2 (a0.map Occurrence.D)),Occurrence.x .fz a1] [] (.d .fz (.i .i64 r)) []:=by
 refine Ok.enter rfl Tryz.func51 rfl rfl rfl fun S hS=>?_
 unfold q1v at hr
 refine AW.seq (AW.regL ?_)
 refine BX 0 ?_
 refine V rfl ?_
 refine AL.nil ?_
 refine AW.seq (AW.seq (AW.regL ?_))
 refine V rfl ?_
 refine LF ?_
 refine V rfl ?_
 refine AL.nil ?_
 refine AW.block ?_
 refine AW.len (.tmp 0 rfl) fun hl1=>?_
 refine bdE hr fun q1 hqq1 hr=>?_
 refine AW.findL hqq1 hl1 1 (fun k1 _=>[(0,.d m (.sl 2 (a0.map Occurrence.D))),(3,.pb 0 0),(7,.d .fz (.i .i64 (a0.length:Int))),(8,.d .fz (.i .i64 (k1:Int)))]) (fun k1 _=>[]) (GH.renK hS [(0,0)] 1) (fun k1 xk1 sk1 ok1 hxk1 hr hltk1 hik1=>?_) fun k1 sk1 ek1 hltk1=>?_
 ·refine AW.seq (AW.regL ?_)
  refine V rfl ?_
  refine AL.nil ?_
  refine AW.seq (AW.cT rfl (dT hltk1) ?_)
  refine AW.skip ?_
  refine AW.seq (AW.block (AW.seq (AW.regL ?_)))
  iterate 2 refine V rfl ?_
  refine AL.nil ?_
  refine AW.seq (AW.drawL (h:=?_))
  iterate 3 refine V rfl ?_
  refine IF (Int.natCast_nonneg _) hxk1 ?_
  refine V rfl ?_
  refine SQ rfl rfl rfl rfl (q2T a1 xk1) ?_
  refine AL.nil ?_
  refine ifE hr (fun h1 hr=>?_) fun h1 hr=>?_
  ·refine AW.cT rfl (dT h1) ?_
   refine AW.seq (AW.regL ?_)
   iterate 2 refine V rfl ?_
   refine AL.nil ?_
   refine AW.ret ?_
   cases hr
   cases hik1 _ rfl
   rename_i hr
   cases hr
   exact endA.renK [] 0 hS
  ·refine AW.cF rfl (dF h1) ?_
   refine AW.skip ?_
   refine AW.regL ?_
   refine OB _ (q2b (p:=k1) (q:=1) (q1o hltk1 hl1)) ?_
   refine V rfl ?_
   refine AL.nil ?_
   cases hr
   exact⟨_,rfl,GH.renK hS [(0,0)] 1⟩
 ·subst ek1
  refine AW.seq (AW.regL ?_)
  refine V rfl ?_
  refine AL.nil ?_
  refine AW.seq (AW.cF rfl (dF hltk1) ?_)
  refine AW.exit ?_
  refine AW.seq (AW.regL ?_)
  refine V rfl ?_
  refine AL.nil ?_
  refine AW.ret ?_
  cases hr
  exact endA.renK [] 0 hS
def q1V (a0:(List Occurrence))(a1:Occurrence):Option Int:=
 (q1v a0 a1).bind fun y1=>
 some y1
theorem q9l {m:Md}{a0:(List Occurrence)}{a1:Occurrence}{r:Int}(hr:q1V a0 a1=some r):Ok Tryz.prog 25 [.d m (.sl 2 (a0.map Occurrence.D)),Occurrence.x .fz a1] [] (.d .fz (.i .i64 r)) []:=by
 refine Ok.enter rfl Tryz.func25 rfl rfl rfl fun S hS=>?_
 unfold q1V at hr
 refine AW.seq (AW.regL ?_)
 refine BX 0 ?_
 refine V rfl ?_
 refine AL.nil ?_
 refine AW.seq (AW.regL ?_)
 iterate 2 refine V rfl ?_
 refine bdE hr fun y1 hy1 hr=>?_
 refine CB [] [] (q6V (m:=m) hy1) ?_
 refine V rfl ?_
 refine AL.nil ?_
 refine AW.ret ?_
 cases hr
 exact endA.renK [] 0 hS
def q4r (a0:(List Int)):Option (List Int):=
 grd (((([]:(List Int)).length:Int)+(a0.length:Int))*8≤140737488355328∧(([]:(List Int)).length:Int)+(a0.length:Int)≤9223372036854775807) <|
 some a0
theorem q9m {m:Md}{a0:(List Int)}{r:(List Int)}(hr:q4r a0=some r):Ok Tryz.prog 75 [.d m (.sl 1 (a0.map (A.D.i .i64)))] [] (.ref 0 none) [.row .fz 1 (r.map (A.D.i .i64))]:=by
 refine Ok.enter rfl Tryz.func75 rfl rfl rfl fun S hS=>?_
 unfold q4r at hr
 refine ggE hr fun g1 hr=>?_
 refine AW.seq (AW.regL ?_)
 refine V rfl ?_
 refine AL.nil ?_
 refine AW.seq (AW.seq (AW.nilq rfl fun q hq=>?_))
 cases q with
 | true=>
  refine AW.cT rfl rfl ?_
  refine AW.seq (AW.regL ?_)
  refine V rfl ?_
  refine AL.nil ?_
  refine AW.ret ?_
  have e0:a0=[]:=List.map_eq_nil_iff.1 (hq rfl)
  subst e0
  refine endA.gh (GH.nlT (t:=2) (r:=0) .fz 1 rfl rfl) ?_
  cases hr
  exact endA.renK [(0,0)] 1 hS
 | false=>
  refine AW.cF rfl rfl ?_
  refine AW.skip ?_
  refine AW.seq (AW.regL ?_)
  refine L0 0 (A.D.i .i64) ?_
  refine V rfl ?_
  refine APf 1 (fun _=>rfl) g1 ?_
  refine V rfl ?_
  refine AL.nil ?_
  refine AW.ret ?_
  cases hr
  exact endA.renK [(1,0)] 1 hS
def q4A (a0:Relation):Option Relation:=
 (q4r a0.Rows).bind fun y1=>
 some (⟨a0.N,y1⟩:Relation)
theorem z0X {m:Md}{a0:Relation}{r:Relation}(hr:q4A a0=some r):Ok Tryz.prog 50 [Relation.x m a0] [] (.ag [.d .fz (.i .i64 r.N),.ref 0 none]) [.row .fz 1 (r.Rows.map (A.D.i .i64))]:=by
 refine Ok.enter rfl Tryz.func50 rfl rfl rfl fun S hS=>?_
 unfold q4A at hr
 refine AW.seq (AW.regL ?_)
 refine BX 0 ?_
 refine NV 1 ?_
 refine AL.nil ?_
 refine AW.seq (AW.drawL (h:=?_))
 iterate 4 refine V rfl ?_
 refine bdE hr fun y1 hy1 hr=>?_
 refine CB [(0,2)] [] (q9m (m:=m) hy1) ?_
 refine V rfl ?_
 refine SB ?_
 refine AL.nil ?_
 refine AW.ret ?_
 cases hr
 exact endA.renK [(2,0)] 1 hS
def q3h (a0:Int)(a1:Relation):Option Bool:=
 grd (0≤a1.N) <|
 grd (0≤a1.N∧a1.N < 63) <|
 (q3v a0 0 (((2 ^ a1.N.toNat:Nat):Int) - 1)).bind fun y1=>
 some (!y1)
theorem q8r {m2:Md}{a0:Int}{a1:Relation}{r:Bool}(hr:q3h a0 a1=some r):Ok Tryz.prog 60 [.d .fz (.i .i64 a0),.pb 0 0] [.box [.d .fz (.i .i64 a1.N),.d m2 (.sl 1 (a1.Rows.map (A.D.i .i64)))]] (.d .fz (.b r)) [.box [.d .fz (.i .i64 a1.N),.d m2 (.sl 1 (a1.Rows.map (A.D.i .i64)))]]:=by
 refine Ok.enter rfl Tryz.func60 rfl rfl rfl fun S hS=>?_
 unfold q3h at hr
 refine AW.seq (AW.regL ?_)
 refine V rfl ?_
 refine AL.nil ?_
 refine AW.seq (AW.regL ?_)
 iterate 3 refine V rfl ?_
 refine ggE hr fun g1 hr=>?_
 refine CIU g1 rfl ?_
 refine ggE hr fun g2 hr=>?_
 refine OB _ (z8l g2) ?_
 refine OB _ (j4h (p:=(2 ^ a1.N.toNat)) (k:=1) (by decide)) ?_
 refine bdE hr fun y1 hy1 hr=>?_
 refine CB [] [] (q4W hy1) ?_
 iterate 2 refine V rfl ?_
 refine AL.nil ?_
 refine AW.ret ?_
 cases hr
 exact endA.renK [(0,0)] 1 hS
def q1O (a1_0:Relation):Nat→Int→Unit→Option (Unit ⊕ Int):=fun k1 xk1 _=>
 (q3h xk1 a1_0).bind fun y1=>
 if y1=true then (
 some (.inr (k1:Int))
 ) else (
 some (.inl ())
 )
def q1E (a0:(List Int))(a1_0:Relation):Option Int:=
 (findL (q1O a1_0) 0 a0 ()).bind <| onr (fun r1=>some r1) fun _=>
 some (-1)
theorem q4l {m:Md}{m2:Md}{a0:(List Int)}{a1_0:Relation}{r:Int}(hr:q1E a0 a1_0=some r):Ok Tryz.prog 84 [.d m (.sl 1 (a0.map (A.D.i .i64))),.fn 60 [.pb 0 0]] [.box [.d .fz (.i .i64 a1_0.N),.d m2 (.sl 1 (a1_0.Rows.map (A.D.i .i64)))]] (.d .fz (.i .i64 r)) [.box [.d .fz (.i .i64 a1_0.N),.d m2 (.sl 1 (a1_0.Rows.map (A.D.i .i64)))]]:=by
 refine Ok.enter rfl Tryz.func84 rfl rfl rfl fun S hS=>?_
 unfold q1E at hr
 refine AW.seq (AW.regL ?_)
 refine V rfl ?_
 refine AL.nil ?_
 refine AW.seq (AW.seq (AW.regL ?_))
 refine V rfl ?_
 refine LF ?_
 refine V rfl ?_
 refine AL.nil ?_
 refine AW.block ?_
 refine AW.len (.tmp 0 rfl) fun hl1=>?_
 refine bdE hr fun q1 hqq1 hr=>?_
 refine AW.findL hqq1 hl1 1 (fun k1 _=>[(0,.d m (.sl 1 (a0.map (A.D.i .i64)))),(1,.fn 60 [.pb 0 0]),(7,.d .fz (.i .i64 (a0.length:Int))),(8,.d .fz (.i .i64 (k1:Int)))]) (fun k1 _=>[]) (GH.renK hS [(0,0)] 1) (fun k1 xk1 sk1 ok1 hxk1 hr hltk1 hik1=>?_) fun k1 sk1 ek1 hltk1=>?_
 ·refine AW.seq (AW.regL ?_)
  refine V rfl ?_
  refine AL.nil ?_
  refine AW.seq (AW.cT rfl (dT hltk1) ?_)
  refine AW.skip ?_
  refine AW.seq (AW.block (AW.seq (AW.regL ?_)))
  iterate 2 refine V rfl ?_
  refine AL.nil ?_
  refine AW.seq (AW.regL ?_)
  iterate 3 refine V rfl ?_
  refine IF (Int.natCast_nonneg _) hxk1 ?_
  refine V rfl ?_
  refine bdE hr fun y1 hy1 hr=>?_
  refine CB [(0,0)] [] (q8r (m2:=m2) hy1) ?_
  refine AL.nil ?_
  refine ifE hr (fun h1 hr=>?_) fun h1 hr=>?_
  ·refine AW.cT rfl h1 ?_
   refine AW.seq (AW.regL ?_)
   iterate 2 refine V rfl ?_
   refine AL.nil ?_
   refine AW.ret ?_
   cases hr
   cases hik1 _ rfl
   rename_i hr
   cases hr
   exact endA.renK [(0,0)] 1 hS
  ·refine AW.cF rfl (bF h1) ?_
   refine AW.skip ?_
   refine AW.regL ?_
   refine OB _ (q2b (p:=k1) (q:=1) (q1o hltk1 hl1)) ?_
   refine V rfl ?_
   refine AL.nil ?_
   cases hr
   exact⟨_,rfl,GH.renK hS [(0,0)] 1⟩
 ·subst ek1
  refine AW.seq (AW.regL ?_)
  refine V rfl ?_
  refine AL.nil ?_
  refine AW.seq (AW.cF rfl (dF hltk1) ?_)
  refine AW.exit ?_
  refine AW.seq (AW.regL ?_)
  refine V rfl ?_
  refine AL.nil ?_
  refine AW.ret ?_
  cases hr
  exact endA.renK [(0,0)] 1 hS
def q1A (a0:(List Int))(a1_0:Relation):Option Bool:=
 (q1E a0 a1_0).bind fun y1=>
 some (decide (0≤y1))
theorem q3T {m:Md}{m2:Md}{a0:(List Int)}{a1_0:Relation}{r:Bool}(hr:q1A a0 a1_0=some r):Ok Tryz.prog 59 [.d m (.sl 1 (a0.map (A.D.i .i64))),.fn 60 [.pb 0 0]] [.box [.d .fz (.i .i64 a1_0.N),.d m2 (.sl 1 (a1_0.Rows.map (A.D.i .i64)))]] (.d .fz (.b r)) [.box [.d .fz (.i .i64 a1_0.N),.d m2 (.sl 1 (a1_0.Rows.map (A.D.i .i64)))]]:=by
 refine Ok.enter rfl Tryz.func59 rfl rfl rfl fun S hS=>?_
 unfold q1A at hr
 refine AW.seq (AW.regL ?_)
 refine V rfl ?_
 refine AL.nil ?_
 refine AW.seq (AW.regL ?_)
 iterate 2 refine V rfl ?_
 refine bdE hr fun y1 hy1 hr=>?_
 refine CB [(0,0)] [] (q4l (m:=m) (m2:=m2) hy1) ?_
 iterate 2 refine V rfl ?_
 refine AL.nil ?_
 refine AW.ret ?_
 cases hr
 exact endA.renK [(0,0)] 1 hS
def q2Y (a0:Relation):Option Bool:=
 (q3v a0.N 0 16).bind fun y1=>
 (
 if y1=true then (
 some (decide ((a0.Rows.length:Int)=a0.N))
 ) else (
 some false
 )
 ).bind fun s1=>
 (
 if s1=true then (
 (q1A a0.Rows a0).bind fun y2=>
 some (!y2)
 ) else (
 some false
 )
 ).bind fun s2=>
 some s2
theorem q6H {m:Md}{a0:Relation}{r:Bool}(hr:q2Y a0=some r):Ok Tryz.prog 37 [Relation.x m a0] [] (.d .fz (.b r)) []:=by
 refine Ok.enter rfl Tryz.func37 rfl rfl rfl fun S hS=>?_
 unfold q2Y at hr
 refine AW.seq (AW.regL ?_)
 refine BX 0 ?_
 refine V rfl ?_
 refine AL.nil ?_
 refine AW.seq (AW.regL ?_)
 iterate 2 refine V rfl ?_
 refine bdE hr fun y1 hy1 hr=>?_
 refine CB [] [] (q4W hy1) ?_
 refine bdE hr fun s1 hqq1 hr=>?_
 refine AL.meet1 8 [(1,.pb 0 0),(2,.d .fz (.b false)),(13,.d .fz (.b s1))] ?_ ?_
 ·replace hr:=hqq1
  refine ifE hr (fun h1 hr=>?_) fun h1 hr=>?_
  ·refine VT rfl h1 ?_
   iterate 2 refine V rfl ?_
   refine LF ?_
   iterate 4 refine V rfl ?_
   refine AL.nil ?_
   cases hr
   exact q1r
  ·refine VF rfl (bF h1) ?_
   refine AL.off ?_
   refine AL.off ?_
   refine AL.off ?_
   refine AL.off ?_
   refine AL.off ?_
   refine AL.off ?_
   refine V rfl ?_
   refine AL.nil ?_
   cases hr
   exact q1r
 ·refine bdE hr fun s2 hqq2 hr=>?_
  refine AL.meet1 7 [(2,.d .fz (.b false)),(20,.d .fz (.b s2))] ?_ ?_
  ·replace hr:=hqq2
   refine ifE hr (fun h2 hr=>?_) fun h2 hr=>?_
   ·refine VT rfl h2 ?_
    iterate 3 refine V rfl ?_
    refine bdE hr fun y2 hy2 hr=>?_
    refine CB [(0,0)] [] (q3T (m:=m) (m2:=m) hy2) ?_
    iterate 2 refine V rfl ?_
    refine AL.nil ?_
    cases hr
    exact q1r
   ·refine VF rfl (bF h2) ?_
    refine AL.off ?_
    refine AL.off ?_
    refine AL.off ?_
    refine AL.off ?_
    refine AL.off ?_
    refine V rfl ?_
    refine AL.nil ?_
    cases hr
    exact q1r
  ·refine V rfl ?_
   refine AL.nil ?_
   refine AW.ret ?_
   cases hr
   exact endA.renK [] 0 hS
def q7y (a0:Relation)(a1:Int)(a2:Int):Option Relation:=
 (q4A a0).bind fun y1=>
 (q2Y a0).bind fun y2=>
 (
 if y2=true then (
 grd (I64 (a0.N - 1)) <|
 (q3v a1 0 (a0.N - 1)).bind fun y3=>
 some y3
 ) else (
 some false
 )
 ).bind fun s1=>
 (
 if s1=true then (
 grd (I64 (a0.N - 1)) <|
 (q3v a2 0 (a0.N - 1)).bind fun y4=>
 some y4
 ) else (
 some false
 )
 ).bind fun s2=>
 if s2=true then (
 grd (0≤a1) <|
 (y1.Rows[a1.toNat]?).bind fun x1=>
 grd (0≤a2) <|
 grd (0≤a2∧a2 < 63) <|
 grd (0≤x1∧0≤((2 ^ a2.toNat:Nat):Int)) <|
 some (⟨y1.N,(List.set y1.Rows a1.toNat ((x1.toNat ||| ((2 ^ a2.toNat:Nat):Int).toNat:Nat):Int))⟩:Relation)
 ) else (
 some y1
 )
theorem z6x {m:Md}{a0:Relation}{a1:Int}{a2:Int}{r:Relation}(hr:q7y a0 a1 a2=some r):Ok Tryz.prog 24 [Relation.x m a0,.d .fz (.i .i64 a1),.d .fz (.i .i64 a2)] [] (.ag [.d .fz (.i .i64 r.N),.ref 0 none]) [.row .fz 1 (r.Rows.map (A.D.i .i64))]:=by
 refine Ok.enter rfl Tryz.func24 rfl rfl rfl fun S hS=>?_
 unfold q7y at hr
 refine AW.seq (AW.regL ?_)
 refine BX 0 ?_
 refine NV 1 ?_
 refine AL.nil ?_
 refine AW.seq (AW.regL ?_)
 refine V rfl ?_
 refine bdE hr fun y1 hy1 hr=>?_
 refine CB [(0,2)] [] (z0X (m:=m) hy1) ?_
 refine NV 3 ?_
 refine SB ?_
 refine AL.nil ?_
 refine AW.seq (AW.seq (AW.regL ?_))
 refine V rfl ?_
 refine bdE hr fun y2 hy2 hr=>?_
 refine CB [] [] (q6H (m:=m) hy2) ?_
 refine bdE hr fun s1 hqq1 hr=>?_
 refine AL.meet1 7 [(1,.d .fz (.i .i64 a1)),(2,.d .fz (.i .i64 a2)),(3,.pb 0 0),(6,.pb 1 0),(7,.pb 3 0),(18,.d .fz (.b s1))] ?_ ?_
 ·replace hr:=hqq1
  refine ifE hr (fun h1 hr=>?_) fun h1 hr=>?_
  ·refine VT rfl h1 ?_
   iterate 3 refine V rfl ?_
   refine ggE hr fun g1 hr=>?_
   refine OB _ (bSub g1) ?_
   refine bdE hr fun y3 hy3 hr=>?_
   refine CB [] [] (q4W hy3) ?_
   refine V rfl ?_
   refine AL.nil ?_
   cases hr
   exact q1r
  ·refine VF rfl (bF h1) ?_
   refine AL.off ?_
   refine AL.off ?_
   refine AL.off ?_
   refine AL.off ?_
   refine AL.off ?_
   refine V rfl ?_
   refine AL.nil ?_
   cases hr
   exact q1r
 ·refine bdE hr fun s2 hqq2 hr=>?_
  refine AL.meet1 7 [(1,.d .fz (.i .i64 a1)),(2,.d .fz (.i .i64 a2)),(6,.pb 1 0),(7,.pb 3 0),(25,.d .fz (.b s2))] ?_ ?_
  ·replace hr:=hqq2
   refine ifE hr (fun h2 hr=>?_) fun h2 hr=>?_
   ·refine VT rfl h2 ?_
    iterate 3 refine V rfl ?_
    refine ggE hr fun g2 hr=>?_
    refine OB _ (bSub g2) ?_
    refine bdE hr fun y4 hy4 hr=>?_
    refine CB [] [] (q4W hy4) ?_
    refine V rfl ?_
    refine AL.nil ?_
    cases hr
    exact q1r
   ·refine VF rfl (bF h2) ?_
    refine AL.off ?_
    refine AL.off ?_
    refine AL.off ?_
    refine AL.off ?_
    refine AL.off ?_
    refine V rfl ?_
    refine AL.nil ?_
    cases hr
    exact q1r
  ·refine AL.nil ?_
   refine ifE hr (fun h3 hr=>?_) fun h3 hr=>?_
   ·refine AW.cT rfl h3 ?_
    refine AW.regL ?_
    iterate 3 refine V rfl ?_
    refine ggE hr fun g3 hr=>?_
    refine bdE hr fun x1 hx1 hr=>?_
    refine IE hx1 g3 ?_
    refine LP hx1 ?_
    refine V rfl ?_
    refine ggE hr fun g4 hr=>?_
    refine CIU g4 rfl ?_
    refine ggE hr fun g5 hr=>?_
    refine OB _ (z8l g5) ?_
    refine ggE hr fun g6 hr=>?_
    refine OB _ (bOrI g6) ?_
    refine IE hx1 g3 ?_
    refine SE ((x1.toNat ||| ((2 ^ a2.toNat:Nat):Int).toNat:Nat):Int) hx1 ?_
    refine AL.nil ?_
    refine AW.seq (AW.regL ?_)
    refine V rfl ?_
    refine SB ?_
    refine AL.nil ?_
    refine AW.ret ?_
    cases hr
    exact endA.renK [(2,0)] 1 hS
   ·refine AW.cF rfl (bF h3) ?_
    refine AW.skip ?_
    refine AW.seq (AW.regL ?_)
    refine V rfl ?_
    refine SB ?_
    refine AL.nil ?_
    refine AW.ret ?_
    cases hr
    exact endA.renK [(2,0)] 1 hS
def q2N (y1:(List Occurrence))(k1:Nat):Nat→Occurrence→((List Int) × Int)→Option ((List Int) × Int):=fun k2 xk2 (s3,s4)=>
 (q1V y1 xk2).bind fun y6=>
 (q7y (⟨s4,s3⟩:Relation) y6 (k1:Int)).bind fun y7=>
 some (y7.Rows,y7.N)
def q2O (a1:Rule)(y1:(List Occurrence)):Nat→Occurrence→((List Int) × Int)→Option ((List Int) × Int):=fun k1 xk1 (s1,s2)=>
 (q3S a1 xk1).bind fun (y3,y4)=>
 (q3D y3).bind fun y5=>
 (eachL (q2N y1 k1) 0 y5 (s1,s2)).bind fun (s3,s4)=>
 some (s3,s4)
def q2E (a0:Grammar)(a1:Rule):Option Relation:=
 (q2k a0 a1).bind fun y1=>
 (q4k (y1.length:Int)).bind fun y2=>
 if 16 < (y1.length:Int) then (
 some (⟨0,[]⟩:Relation)
 ) else (
 (eachL (q2O a1 y1) 0 y1 (y2.Rows,y2.N)).bind fun (s1,s2)=>
 some (⟨s2,s1⟩:Relation)
 )
theorem z0n {m:Md}{a0:Grammar}{a1:Rule}{r:Relation}(hr:q2E a0 a1=some r):Ok Tryz.prog 6 [Grammar.y m a0,Rule.x m a1] [] (.ag [.d .fz (.i .i64 r.N),.ref 0 none]) [.row .fz 1 (r.Rows.map (A.D.i .i64))]:=by
 refine Ok.enter rfl Tryz.func6 rfl rfl rfl fun S hS=>?_
 unfold q2E at hr
 refine AW.seq (AW.regL ?_)
 refine BX 0 ?_
 refine BX 1 ?_
 refine NV 2 ?_
 refine AL.nil ?_
 refine AW.seq (AW.regL ?_)
 iterate 2 refine V rfl ?_
 refine bdE hr fun y1 hy1 hr=>?_
 refine CB [(0,3)] [] (q5D (m:=m) hy1) ?_
 refine V rfl ?_
 refine AL.nil ?_
 refine AW.seq (AW.regL ?_)
 refine V rfl ?_
 refine LE ?_
 refine bdE hr fun y2 hy2 hr=>?_
 refine CB [(0,4)] [] (z0l hy2) ?_
 refine NV 5 ?_
 refine SB ?_
 refine AL.nil ?_
 refine AW.seq (AW.seq (AW.regL ?_))
 refine V rfl ?_
 refine LE ?_
 refine V rfl ?_
 refine AL.nil ?_
 refine ifE hr (fun h1 hr=>?_) fun h1 hr=>?_
 ·refine AW.cT rfl (dT h1) ?_
  refine AW.seq (AW.regL ?_)
  refine V rfl ?_
  refine SB ?_
  refine AL.nil ?_
  refine AW.ret ?_
  refine endA.gh (GH.nlB (q:=2) (c:=1) (r:=6) .fz 1 rfl rfl rfl) ?_
  cases hr
  exact endA.renK [(6,0)] 1 hS
 ·refine AW.cF rfl (dF h1) ?_
  refine AW.skip ?_
  refine AW.seq (AW.seq (AW.regL ?_))
  refine V rfl ?_
  refine LE ?_
  refine V rfl ?_
  refine AL.nil ?_
  refine AW.block ?_
  refine AW.lenR 3 rfl fun hl1=>?_
  refine bdE hr fun q1 hqq1 hr=>?_
  obtain⟨s1,s2⟩:=q1
  refine AW.eachL hqq1 hl1 6 (fun k1 (s1,s2)=>[(3,.pb 1 0),(4,.pb 2 0),(5,.ref 3 none),(6,.pb 5 0),(23,.ref 3 none),(24,.d .fz (.i .i64 (y1.length:Int))),(25,.d .fz (.i .i64 (k1:Int)))]) (fun k1 (s1,s2)=>[(4,.row .fz 1 (s1.map (A.D.i .i64))),(5,.box [.d .fz (.i .i64 s2),.ref 4 none])]) (GH.trans (GH.bw (q:=0) [.d m (.sl 2 (a0.Symbols.map Symbol.D)),.u] (.cons .rfl (.cons .u .nil)) rfl) (GH.renK hS [(0,0),(1,1),(2,2),(3,3),(4,4),(5,5)] 6)) (fun k1 xk1 sk1 ok1 hxk1 hr hltk1=>?_) fun k1 hltk1=>?_
  ·obtain⟨s1,s2⟩:=sk1
   refine AW.seq (AW.regL ?_)
   refine V rfl ?_
   refine AL.nil ?_
   refine AW.seq (AW.cT rfl (dT hltk1) ?_)
   refine AW.skip ?_
   refine AW.seq (AW.block (AW.seq (AW.regL ?_)))
   refine V rfl ?_
   refine IE hxk1 (Int.natCast_nonneg _) ?_
   refine LPa hxk1 ?_
   refine NV 6 ?_
   refine V rfl ?_
   refine SB ?_
   refine AL.nil ?_
   refine AW.seq (AW.regL ?_)
   iterate 2 refine V rfl ?_
   refine bdE hr fun q2 hq2 hr=>?_
   obtain⟨y3,y4⟩:=q2
   refine CB [(0,7)] [] (z0W (m:=m) hq2) ?_
   iterate 3 refine V rfl ?_
   refine NV 8 ?_
   refine SB ?_
   refine V rfl ?_
   refine AL.nil ?_
   refine AW.seq (AW.regL ?_)
   refine V rfl ?_
   refine bdE hr fun y5 hy5 hr=>?_
   refine CB [(0,9)] [7] (z0m (m:=.bo) hy5) ?_
   refine LE ?_
   refine V rfl ?_
   refine AL.nil ?_
   refine AW.block ?_
   refine AW.lenR 9 rfl fun hl2=>?_
   refine bdE hr fun q3 hqq3 hr=>?_
   obtain⟨s3,s4⟩:=q3
   refine AW.eachL hqq3 hl2 10 (fun k2 (s3,s4)=>[(3,.pb 1 0),(4,.pb 2 0),(5,.ref 3 none),(6,.pb 5 0),(7,.d .fz (.i .i64 (k1:Int))),(23,.ref 3 none),(24,.d .fz (.i .i64 (y1.length:Int))),(25,.d .fz (.i .i64 (k1:Int))),(37,.ref 9 none),(38,.d .fz (.i .i64 (y5.length:Int))),(39,.d .fz (.i .i64 (k2:Int)))]) (fun k2 (s3,s4)=>[(4,.row .fz 1 (s3.map (A.D.i .i64))),(5,.box [.d .fz (.i .i64 s4),.ref 4 none])]) (GH.trans (GH.bw (q:=0) [.d m (.sl 2 (a0.Symbols.map Symbol.D)),.u] (.cons .rfl (.cons .u .nil)) rfl) (GH.renK hS [(0,0),(1,1),(2,2),(3,3),(4,4),(5,5),(6,6),(7,7),(8,8),(9,9)] 10)) (fun k2 xk2 sk2 ok2 hxk2 hr hltk2=>?_) fun k2 hltk2=>?_
   ·obtain⟨s3,s4⟩:=sk2
    refine AW.seq (AW.regL ?_)
    refine V rfl ?_
    refine AL.nil ?_
    refine AW.seq (AW.cT rfl (dT hltk2) ?_)
    refine AW.skip ?_
    refine AW.seq (AW.block (AW.seq (AW.regL ?_)))
    refine IE hxk2 (Int.natCast_nonneg _) ?_
    refine LPa hxk2 ?_
    refine NV 10 ?_
    refine SB ?_
    refine AL.nil ?_
    refine AW.drawL (h:=?_)
    iterate 3 refine V rfl ?_
    refine bdE hr fun y6 hy6 hr=>?_
    refine CB [] [3] (q9l (m:=.bo) hy6) ?_
    refine V rfl ?_
    refine bdE hr fun y7 hy7 hr=>?_
    refine CB [(0,11)] [4] (z6x (m:=.bo) hy7) ?_
    refine SB ?_
    refine AL.nil ?_
    refine AW.regL ?_
    refine OB _ (q2b (p:=k2) (q:=1) (q1o hltk2 hl2)) ?_
    refine V rfl ?_
    refine AL.nil ?_
    cases hr
    exact GH.trans (GH.bw (q:=0) [.d m (.sl 2 (a0.Symbols.map Symbol.D)),.u] (.cons .rfl (.cons .u .nil)) rfl) (GH.renK hS [(0,0),(1,1),(2,2),(3,3),(11,4),(5,5),(6,6),(7,7),(8,8),(9,9)] 10)
   ·refine AW.seq (AW.regL ?_)
    refine V rfl ?_
    refine AL.nil ?_
    refine AW.seq (AW.cF rfl (dF hltk2) ?_)
    refine AW.exit ?_
    refine AW.regL ?_
    refine OB _ (q2b (p:=k1) (q:=1) (q1o hltk1 hl1)) ?_
    refine V rfl ?_
    refine AL.nil ?_
    cases hr
    exact GH.trans (GH.bw (q:=0) [.d m (.sl 2 (a0.Symbols.map Symbol.D)),.u] (.cons .rfl (.cons .u .nil)) rfl) (GH.renK hS [(0,0),(1,1),(2,2),(3,3),(4,4),(5,5)] 6)
  ·refine AW.seq (AW.regL ?_)
   refine V rfl ?_
   refine AL.nil ?_
   refine AW.seq (AW.cF rfl (dF hltk1) ?_)
   refine AW.exit ?_
   refine AW.seq (AW.regL ?_)
   refine V rfl ?_
   refine SB ?_
   refine AL.nil ?_
   refine AW.ret ?_
   cases hr
   exact endA.renK [(4,0)] 1 hS
def q2m:Nat→Attribute→((List Attribute))→Option ((List Attribute)):=fun k1 xk1 s1=>
 (
 if xk1.Mode=1 then (
 grd (((s1.length:Int)+1)*40≤140737488355328∧(s1.length:Int)+1≤9223372036854775807) <|
 some (s1++[xk1])
 ) else (
 if xk1.Mode=2 then (
 grd (((s1.length:Int)+1)*40≤140737488355328∧(s1.length:Int)+1≤9223372036854775807) <|
 some (s1++[xk1])
 ) else (
 some s1
 )
 )
 ).bind fun s2=>
 some s2
def q2y (a0:Grammar)(a1:ByteArray):Option (List Attribute):=
 (q1U a0 a1).bind fun (y1,y2)=>
 (eachL q2m 0 y1.Attributes ([]:List Attribute)).bind fun s1=>
 some s1
theorem q9n {m:Md}{a0:Grammar}{a1:ByteArray}{r:(List Attribute)}(hr:q2y a0 a1=some r):Ok Tryz.prog 31 [Grammar.y m a0,.d .fz (.s a1)] [] (.ref 0 none) [.row .fz 4 (r.map Attribute.D)]:=by
 refine Ok.enter rfl Tryz.func31 rfl rfl rfl fun S hS=>?_
 unfold q2y at hr
 refine AW.seq (AW.regL ?_)
 refine BX 0 ?_
 refine V rfl ?_
 refine AL.nil ?_
 refine AW.seq (AW.regL ?_)
 refine L0 1 Attribute.D ?_
 refine V rfl ?_
 refine AL.nil ?_
 refine AW.seq (AW.regL ?_)
 iterate 2 refine V rfl ?_
 refine bdE hr fun q1 hq1 hr=>?_
 obtain⟨y1,y2⟩:=q1
 refine CB [(0,2)] [] (q3m (m:=m) hq1) ?_
 iterate 3 refine V rfl ?_
 refine NV 3 ?_
 refine SB ?_
 refine V rfl ?_
 refine AL.nil ?_
 refine AW.seq (AW.seq (AW.regL ?_))
 refine V rfl ?_
 refine AL.nil ?_
 refine AW.block ?_
 refine AW.lenR 2 rfl fun hl1=>?_
 refine bdE hr fun s1 hqq2 hr=>?_
 refine AW.eachL hqq2 hl1 4 (fun k1 s1=>[(5,.ref 1 none),(6,.pb 3 0),(8,.d .fz (.i .i64 (k1:Int)))]) (fun k1 s1=>[(1,.row .fz 4 (s1.map Attribute.D))]) (GH.trans (GH.bw (q:=0) [.d m (.sl 2 (a0.Symbols.map Symbol.D)),.u] (.cons .rfl (.cons .u .nil)) rfl) (GH.renK hS [(0,0),(1,1),(2,2),(3,3)] 4)) (fun k1 xk1 sk1 ok1 hxk1 hr hltk1=>?_) fun k1 hltk1=>?_
 ·obtain⟨s1,rfl⟩:∃ y,y=sk1:=⟨_,rfl⟩
  refine AW.seq (AW.seq (AW.regL ?_))
  iterate 3 refine V rfl ?_
  refine LE ?_
  refine V rfl ?_
  refine AL.nil ?_
  refine AW.cT rfl (dT hltk1) ?_
  refine AW.skip ?_
  refine bdE hr fun s2 hqq3 hr=>?_
  refine AW.seq (AW.cut1 4 [(5,.ref 1 none),(6,.pb 3 0),(8,.d .fz (.i .i64 (k1:Int)))] [(1,.row .fz 4 (s2.map Attribute.D))] ?_ ?_)
  ·replace hr:=hqq3
   refine AW.block (AW.seq (AW.regL ?_))
   iterate 3 refine V rfl ?_
   refine IE hxk1 (Int.natCast_nonneg _) ?_
   refine V rfl ?_
   refine LP hxk1 ?_
   refine V rfl ?_
   refine ifE hr (fun h1 hr=>?_) fun h1 hr=>?_
   ·refine VT rfl (dT h1) ?_
    refine AL.off ?_
    refine AL.off ?_
    refine AL.off ?_
    refine AL.off ?_
    refine AL.off ?_
    refine AL.off ?_
    refine AL.off ?_
    refine V rfl ?_
    refine AL.nil ?_
    refine AW.cT rfl rfl ?_
    refine AW.regL ?_
    iterate 4 refine V rfl ?_
    refine IE hxk1 (Int.natCast_nonneg _) ?_
    refine LPa hxk1 ?_
    refine LIR 4 (m:=.fz) (f:=Attribute.D) (xs:=[xk1]) ?_
    refine ggE hr fun g1 hr=>?_
    refine APf1 (f:=Attribute.D) 5 (fun _=>rfl) 40 g1 ?_
    refine V rfl ?_
    refine AL.nil ?_
    cases hr
    exact GH.trans (GH.bw (q:=0) [.d m (.sl 2 (a0.Symbols.map Symbol.D)),.u] (.cons .rfl (.cons .u .nil)) rfl) (GH.renK hS [(0,0),(5,1),(2,2),(3,3)] 4)
   ·refine VF rfl (dF h1) ?_
    iterate 3 refine V rfl ?_
    refine IE hxk1 (Int.natCast_nonneg _) ?_
    refine V rfl ?_
    refine LP hxk1 ?_
    iterate 2 refine V rfl ?_
    refine AL.nil ?_
    refine ifE hr (fun h2 hr=>?_) fun h2 hr=>?_
    ·refine AW.cT rfl (dT h2) ?_
     refine AW.regL ?_
     iterate 4 refine V rfl ?_
     refine IE hxk1 (Int.natCast_nonneg _) ?_
     refine LPa hxk1 ?_
     refine LIR 4 (m:=.fz) (f:=Attribute.D) (xs:=[xk1]) ?_
     refine ggE hr fun g2 hr=>?_
     refine APf1 (f:=Attribute.D) 5 (fun _=>rfl) 40 g2 ?_
     refine V rfl ?_
     refine AL.nil ?_
     cases hr
     exact GH.trans (GH.bw (q:=0) [.d m (.sl 2 (a0.Symbols.map Symbol.D)),.u] (.cons .rfl (.cons .u .nil)) rfl) (GH.renK hS [(0,0),(5,1),(2,2),(3,3)] 4)
    ·refine AW.cF rfl (dF h2) ?_
     refine AW.skip ?_
     cases hr
     exact GH.trans (GH.bw (q:=0) [.d m (.sl 2 (a0.Symbols.map Symbol.D)),.u] (.cons .rfl (.cons .u .nil)) rfl) (GH.renK hS [(0,0),(1,1),(2,2),(3,3)] 4)
  ·refine AW.regL ?_
   refine V rfl ?_
   refine OB _ (q2b (p:=k1) (q:=1) (q1o hltk1 hl1)) ?_
   refine V rfl ?_
   refine AL.nil ?_
   cases hr
   exact GH.trans (GH.bw (q:=0) [.d m (.sl 2 (a0.Symbols.map Symbol.D)),.u] (.cons .rfl (.cons .u .nil)) rfl) (GH.renK hS [(0,0),(1,1),(2,2),(3,3)] 4)
 ·refine AW.seq (AW.seq (AW.regL ?_))
  iterate 3 refine V rfl ?_
  refine LE ?_
  refine V rfl ?_
  refine AL.nil ?_
  refine AW.cF rfl (dF hltk1) ?_
  refine AW.exit ?_
  refine AW.seq (AW.regL ?_)
  iterate 2 refine V rfl ?_
  refine AL.nil ?_
  refine AW.ret ?_
  cases hr
  exact endA.renK [(1,0)] 1 hS
def q7z (s3:Int):Nat→Attribute→((List Occurrence))→Option ((List Occurrence)):=fun k2 xk2 s4=>
 grd (((s4.length:Int)+1)*24≤140737488355328∧(s4.length:Int)+1≤9223372036854775807) <|
 some (s4++[(⟨s3,xk2.Name⟩:Occurrence)])
def q1Q (a0:Grammar)(a1:Rule):((List Occurrence) × Int)→Option (((List Occurrence) × Int) ⊕ ((List Occurrence))):=fun (s2,s3)=>
 if s3≤(a1.Right.length:Int) then (
 (q1X a1 s3).bind fun y1=>
 (q2y a0 y1).bind fun y2=>
 (eachL (q7z s3) 0 y2 s2).bind fun s4=>
 grd (I64 (s3+1)) <|
 some (.inl (s4,(s3+1)))
 ) else (
 some (.inr s2)
 )
def q2F (a0:Grammar)(a1:Rule):Option (List Occurrence):=
 (q2t (q1Q a0 a1) (([]:List Occurrence),0)).bind fun s1=>
 some s1
theorem q7A {m:Md}{a0:Grammar}{a1:Rule}{r:(List Occurrence)}(hr:q2F a0 a1=some r):Ok Tryz.prog 11 [Grammar.y m a0,Rule.x m a1] [] (.ref 0 none) [.row .fz 2 (r.map Occurrence.D)]:=by
 refine Ok.enter rfl Tryz.func11 rfl rfl rfl fun S hS=>?_
 unfold q2F at hr
 refine AW.seq (AW.regL ?_)
 refine BX 0 ?_
 refine BX 1 ?_
 refine V rfl ?_
 refine AL.nil ?_
 refine AW.seq (AW.regL ?_)
 refine L0 2 Occurrence.D ?_
 refine V rfl ?_
 refine AL.nil ?_
 refine AW.seq (AW.seq (AW.regL ?_))
 refine V rfl ?_
 refine AL.nil ?_
 refine bdE hr fun s1 hqq1 hr=>?_
 refine AW.cut1 3 [(5,.ref 2 none)] [(2,.row .fz 2 (s1.map Occurrence.D))] ?_ ?_
 ·refine AW.block (AW.iter hqq1 3 (fun (s2,s3)=>[(2,.pb 0 0),(3,.pb 1 0),(5,.ref 2 none),(6,.d .fz (.i .i64 s3))]) (fun (s2,s3)=>[(2,.row .fz 2 (s2.map Occurrence.D))]) (GH.trans (GH.bw (q:=0) [.d m (.sl 2 (a0.Symbols.map Symbol.D)),.u] (.cons .rfl (.cons .u .nil)) rfl) (GH.renK hS [(0,0),(1,1),(2,2)] 3)) fun sk1 ok1 hr hik1=>?_)
  obtain⟨s2,s3⟩:=sk1
  have hr:=hr
  refine AW.seq (AW.seq (AW.regL ?_))
  iterate 3 refine V rfl ?_
  refine LF ?_
  refine V rfl ?_
  refine AL.nil ?_
  refine ifE hr (fun h1 hr=>?_) fun h1 hr=>?_
  ·refine AW.cT rfl (dT h1) ?_
   refine AW.skip ?_
   refine AW.seq (AW.block (AW.seq (AW.drawL (h:=?_))))
   iterate 3 refine V rfl ?_
   refine bdE hr fun y1 hy1 hr=>?_
   refine CB [] [] (q3F (m:=m) hy1) ?_
   refine bdE hr fun y2 hy2 hr=>?_
   refine CB [(0,3)] [] (q9n (m:=m) hy2) ?_
   refine V rfl ?_
   refine AL.nil ?_
   refine AW.seq (AW.regL ?_)
   refine V rfl ?_
   refine AL.nil ?_
   refine AW.block ?_
   refine AW.lenR 3 rfl fun hl2=>?_
   refine bdE hr fun s4 hqq2 hr=>?_
   refine AW.eachL hqq2 hl2 4 (fun k2 s4=>[(2,.pb 0 0),(3,.pb 1 0),(5,.ref 2 none),(6,.d .fz (.i .i64 s3)),(7,.ref 3 none),(8,.d .fz (.i .i64 (k2:Int)))]) (fun k2 s4=>[(2,.row .fz 2 (s4.map Occurrence.D))]) (GH.trans (GH.bw (q:=0) [.d m (.sl 2 (a0.Symbols.map Symbol.D)),.u] (.cons .rfl (.cons .u .nil)) rfl) (GH.renK hS [(0,0),(1,1),(2,2),(3,3)] 4)) (fun k2 xk2 sk2 ok2 hxk2 hr hltk2=>?_) fun k2 hltk2=>?_
   ·obtain⟨s4,rfl⟩:∃ y,y=sk2:=⟨_,rfl⟩
    refine AW.seq (AW.seq (AW.regL ?_))
    iterate 2 refine V rfl ?_
    refine LE ?_
    refine V rfl ?_
    refine AL.nil ?_
    refine AW.cT rfl (dT hltk2) ?_
    refine AW.skip ?_
    refine AW.seq (AW.block (AW.regL ?_))
    iterate 4 refine V rfl ?_
    refine IE hxk2 (Int.natCast_nonneg _) ?_
    refine V rfl ?_
    refine LP hxk2 ?_
    refine V rfl ?_
    refine LIR 4 (m:=.fz) (f:=Occurrence.D) (xs:=[(⟨s3,xk2.Name⟩:Occurrence)]) ?_
    refine ggE hr fun g1 hr=>?_
    refine APf1 (f:=Occurrence.D) 5 (fun _=>rfl) 24 g1 ?_
    refine V rfl ?_
    refine AL.nil ?_
    refine AW.regL ?_
    refine V rfl ?_
    refine OB _ (q2b (p:=k2) (q:=1) (q1o hltk2 hl2)) ?_
    refine V rfl ?_
    refine AL.nil ?_
    cases hr
    exact GH.trans (GH.bw (q:=0) [.d m (.sl 2 (a0.Symbols.map Symbol.D)),.u] (.cons .rfl (.cons .u .nil)) rfl) (GH.renK hS [(0,0),(1,1),(5,2),(3,3)] 4)
   ·refine AW.seq (AW.seq (AW.regL ?_))
    iterate 2 refine V rfl ?_
    refine LE ?_
    refine V rfl ?_
    refine AL.nil ?_
    refine AW.cF rfl (dF hltk2) ?_
    refine AW.exit ?_
    refine AW.regL ?_
    refine V rfl ?_
    refine ggE hr fun g2 hr=>?_
    refine OB _ (bAdd g2) ?_
    refine V rfl ?_
    refine AL.nil ?_
    cases hr
    exact⟨_,rfl,GH.trans (GH.bw (q:=0) [.d m (.sl 2 (a0.Symbols.map Symbol.D)),.u] (.cons .rfl (.cons .u .nil)) rfl) (GH.renK hS [(0,0),(1,1),(2,2)] 3)⟩
  ·refine AW.cF rfl (dF h1) ?_
   refine AW.exit ?_
   cases hr
   cases hik1 _ rfl
   exact GH.trans (GH.bw (q:=0) [.d m (.sl 2 (a0.Symbols.map Symbol.D)),.u] (.cons .rfl (.cons .u .nil)) rfl) (GH.renK hS [(0,0),(1,1),(2,2)] 3)
 ·refine AW.seq (AW.regL ?_)
  iterate 2 refine V rfl ?_
  refine AL.nil ?_
  refine AW.ret ?_
  cases hr
  exact endA.renK [(2,0)] 1 hS
def q2l (a0:Int):Option Relation:=
 (q2g a0 0 16).bind fun y1=>
 if y1=true then (
 grd (0≤a0∧a0*8≤281474976710656∧a0≤9223372036854775807) <|
 some (⟨a0,(List.replicate a0.toNat (0:Int))⟩:Relation)
 ) else (
 some (⟨0,[]⟩:Relation)
 )
theorem z0o {a0:Int}{r:Relation}(hr:q2l a0=some r):Ok Tryz.prog 28 [.d .fz (.i .i64 a0)] [] (.ag [.d .fz (.i .i64 r.N),.ref 0 none]) [.row .fz 1 (r.Rows.map (A.D.i .i64))]:=by
 refine Ok.enter rfl Tryz.func28 rfl rfl rfl fun S hS=>?_
 unfold q2l at hr
 refine AW.seq (AW.regL ?_)
 refine NV 0 ?_
 refine AL.nil ?_
 refine AW.seq (AW.seq (AW.regL ?_))
 refine V rfl ?_
 refine bdE hr fun y1 hy1 hr=>?_
 refine CB [] [] (q2w hy1) ?_
 refine V rfl ?_
 refine AL.nil ?_
 refine ifE hr (fun h1 hr=>?_) fun h1 hr=>?_
 ·refine AW.cF rfl (bnF h1) ?_
  refine AW.skip ?_
  refine AW.seq (AW.regL ?_)
  iterate 2 refine V rfl ?_
  refine ggE hr fun g1 hr=>?_
  refine MKR 1 (f:=(A.D.i .i64)) (0:Int) g1.1 g1.2.1 g1.2.2 ?_
  refine V rfl ?_
  refine SB ?_
  refine AL.nil ?_
  refine AW.ret ?_
  cases hr
  exact endA.renK [(1,0)] 1 hS
 ·refine AW.cT rfl (bnT h1) ?_
  refine AW.seq (AW.regL ?_)
  refine V rfl ?_
  refine SB ?_
  refine AL.nil ?_
  refine AW.ret ?_
  refine endA.gh (GH.nlB (q:=0) (c:=1) (r:=1) .fz 1 rfl rfl rfl) ?_
  cases hr
  exact endA.renK [(1,0)] 1 hS
def q6t (rec_sl4Copy:Expr→Option Expr):Nat→Expr→((List Expr))→Option ((List Expr)):=fun k1 xk1 s1=>
 (rec_sl4Copy xk1).bind fun y1=>
 grd (((s1.length:Int)+1)*88≤140737488355328∧(s1.length:Int)+1≤9223372036854775807) <|
 some (s1++[y1])
def q5k (rec_sl4Copy:Expr→Option Expr)(a0:Expr):Option Expr:=
 (eachL (q6t rec_sl4Copy) 0 a0.Args ([]:List Expr)).bind fun s1=>
 some (⟨a0.Kind,a0.N,a0.Pos,a0.Type_,a0.Symbol,a0.Name,s1⟩:Expr)
theorem z6y {rec_sl4Copy:Expr→Option Expr}(ih_sl4Copy:∀ {m:Md} {a0:Expr} {r:Expr},rec_sl4Copy a0=some r→Ok Tryz.prog 35 [Expr.x m a0] [] (.ag [.d .fz (.i .i64 r.Kind),.d .fz (.i .i64 r.N),.d .fz (.i .i64 r.Pos),.d .fz (.i .i64 r.Type_),.d .fz (.s r.Symbol),.d .fz (.s r.Name),.ref 0 none]) [.row .fz 7 (r.Args.map Expr.D)]){m:Md}{a0:Expr}{r:Expr}(hr:q5k rec_sl4Copy a0=some r):Ok Tryz.prog 35 [Expr.x m a0] [] (.ag [.d .fz (.i .i64 r.Kind),.d .fz (.i .i64 r.N),.d .fz (.i .i64 r.Pos),.d .fz (.i .i64 r.Type_),.d .fz (.s r.Symbol),.d .fz (.s r.Name),.ref 0 none]) [.row .fz 7 (r.Args.map Expr.D)]:=by
 refine Ok.enter rfl Tryz.func35 rfl rfl rfl fun S hS=>?_
 unfold q5k at hr
 refine AW.seq (AW.regL ?_)
 refine BX 0 ?_
 refine NV 1 ?_
 refine AL.nil ?_
 refine AW.seq (AW.regL ?_)
 refine L0 2 Expr.D ?_
 refine V rfl ?_
 refine AL.nil ?_
 refine AW.seq (AW.seq (AW.regL ?_))
 refine V rfl ?_
 refine AL.nil ?_
 refine AW.block ?_
 refine AW.len (.ag 6 (.tmp 0 rfl) rfl) fun hl1=>?_
 refine bdE hr fun s1 hqq1 hr=>?_
 refine AW.eachL hqq1 hl1 3 (fun k1 s1=>[(1,.pb 0 0),(2,.pb 1 0),(3,.ref 2 none),(4,.d .fz (.i .i64 (k1:Int)))]) (fun k1 s1=>[(2,.row .fz 7 (s1.map Expr.D))]) (GH.renK hS [(0,0),(1,1),(2,2)] 3) (fun k1 xk1 sk1 ok1 hxk1 hr hltk1=>?_) fun k1 hltk1=>?_
 ·obtain⟨s1,rfl⟩:∃ y,y=sk1:=⟨_,rfl⟩
  refine AW.seq (AW.seq (AW.regL ?_))
  iterate 3 refine V rfl ?_
  refine LF ?_
  refine V rfl ?_
  refine AL.nil ?_
  refine AW.cT rfl (dT hltk1) ?_
  refine AW.skip ?_
  refine AW.seq (AW.block (AW.regL ?_))
  iterate 4 refine V rfl ?_
  refine IFq (Int.natCast_nonneg _) hxk1 (Expr.D_cells xk1) ?_
  refine V rfl ?_
  refine bdE hr fun y1 hy1 hr=>?_
  refine CB [(0,3)] [] (ih_sl4Copy (m:=m) hy1) ?_
  refine AL.fz 3 rfl ?_
  refine LIRq 4 (m:=.fz) (f:=Expr.D) [y1] (by simp only [List.map_cons,List.map_nil,Expr.D_eq]; rfl) ?_
  refine ggE hr fun g1 hr=>?_
  refine AP1 5 .fz 88 g1 ?_
  refine V rfl ?_
  refine AL.nil ?_
  refine AW.regL ?_
  refine V rfl ?_
  refine OB _ (q2b (p:=k1) (q:=1) (q1o hltk1 hl1)) ?_
  refine V rfl ?_
  refine AL.nil ?_
  cases hr
  exact GH.renK hS [(0,0),(1,1),(5,2)] 3
 ·refine AW.seq (AW.seq (AW.regL ?_))
  iterate 3 refine V rfl ?_
  refine LF ?_
  refine V rfl ?_
  refine AL.nil ?_
  refine AW.cF rfl (dF hltk1) ?_
  refine AW.exit ?_
  refine AW.seq (AW.regL ?_)
  iterate 2 refine V rfl ?_
  refine SB ?_
  refine AL.nil ?_
  refine AW.seq (AW.regL ?_)
  refine V rfl ?_
  refine SB ?_
  refine AL.nil ?_
  refine AW.ret ?_
  cases hr
  exact endA.renK [(2,0)] 1 hS
def q3w:Nat→Expr→Option Expr
  | 0,_=>none
  | n+1,a0=>q5k (q3w n) a0
def q9O (a0:Expr):Option Expr:=recO fun n=>q3w n a0
theorem z6z (n:Nat):∀ {m:Md} {a0:Expr} {r:Expr},q3w n a0=some r→Ok Tryz.prog 35 [Expr.x m a0] [] (.ag [.d .fz (.i .i64 r.Kind),.d .fz (.i .i64 r.N),.d .fz (.i .i64 r.Pos),.d .fz (.i .i64 r.Type_),.d .fz (.s r.Symbol),.d .fz (.s r.Name),.ref 0 none]) [.row .fz 7 (r.Args.map Expr.D)]:=by
  induction n with
  | zero=>intro _ _ r hr; exact nomatch (show (none:Option Expr)=some r from hr)
  | succ n ih=>intro _ _ r hr; exact z6y ih hr
theorem z8C {m:Md}{a0:Expr}{r:Expr}(hr:q9O a0=some r):Ok Tryz.prog 35 [Expr.x m a0] [] (.ag [.d .fz (.i .i64 r.Kind),.d .fz (.i .i64 r.N),.d .fz (.i .i64 r.Pos),.d .fz (.i .i64 r.Type_),.d .fz (.s r.Symbol),.d .fz (.s r.Name),.ref 0 none]) [.row .fz 7 (r.Args.map Expr.D)]:=by
  obtain⟨n,hn⟩:=q4v hr
  exact z6z n hn
def q3E (a1:Occurrence):Nat→Equation→Unit→Option (Unit ⊕ (Expr × Bool)):=fun k1 xk1 _=>
 if xk1.At=a1 then (
 (q9O xk1.Expr).bind fun y1=>
 some (.inr (y1,true))
 ) else (
 some (.inl ())
 )
def q2a (a0:Rule)(a1:Occurrence):Option (Expr × Bool):=
 (findL (q3E a1) 0 a0.Equations ()).bind <| onr (fun r1=>some r1) fun _=>
 some ((⟨0,0,0,0,(⟨#[]⟩:ByteArray),(⟨#[]⟩:ByteArray),[]⟩:Expr),false)
theorem q6e {m:Md}{a0:Rule}{a1:Occurrence}{r:(Expr × Bool)}(hr:q2a a0 a1=some r):Ok Tryz.prog 16 [Rule.x m a0,Occurrence.x .fz a1] [] (.tu [.ag [.d .fz (.i .i64 r.1.Kind),.d .fz (.i .i64 r.1.N),.d .fz (.i .i64 r.1.Pos),.d .fz (.i .i64 r.1.Type_),.d .fz (.s r.1.Symbol),.d .fz (.s r.1.Name),.ref 0 none],.d .fz (.b r.2)]) [.row .fz 7 (r.1.Args.map Expr.D)]:=by
 refine Ok.enter rfl Tryz.func16 rfl rfl rfl fun S hS=>?_
 unfold q2a at hr
 refine AW.seq (AW.regL ?_)
 refine BX 0 ?_
 refine BX 1 ?_
 refine NV 2 ?_
 refine V rfl ?_
 refine AL.nil ?_
 refine AW.seq (AW.seq (AW.regL ?_))
 refine V rfl ?_
 refine AL.nil ?_
 refine AW.block ?_
 refine AW.len (.ag 4 (.tmp 0 rfl) rfl) fun hl1=>?_
 refine bdE hr fun q1 hqq1 hr=>?_
 refine AW.findL hqq1 hl1 3 (fun k1 _=>[(2,.pb 0 0),(3,.pb 1 0),(4,.pb 2 0),(6,.d .fz (.i .i64 (k1:Int)))]) (fun k1 _=>[]) (GH.renK hS [(0,0),(1,1),(2,2)] 3) (fun k1 xk1 sk1 ok1 hxk1 hr hltk1 hik1=>?_) fun k1 sk1 ek1 hltk1=>?_
 ·refine AW.seq (AW.seq (AW.regL ?_))
  iterate 3 refine V rfl ?_
  refine LF ?_
  refine V rfl ?_
  refine AL.nil ?_
  refine AW.cT rfl (dT hltk1) ?_
  refine AW.skip ?_
  refine AW.seq (AW.block (AW.seq (AW.drawL (h:=?_))))
  iterate 3 refine V rfl ?_
  refine IF (Int.natCast_nonneg _) hxk1 ?_
  iterate 3 refine V rfl ?_
  refine SQ rfl rfl rfl rfl (q2T xk1.At a1) ?_
  refine AL.nil ?_
  refine ifE hr (fun h1 hr=>?_) fun h1 hr=>?_
  ·refine AW.cT rfl (dT h1) ?_
   refine AW.seq (AW.regL ?_)
   iterate 3 refine V rfl ?_
   refine IF (Int.natCast_nonneg _) hxk1 ?_
   iterate 2 refine V rfl ?_
   refine bdE hr fun y1 hy1 hr=>?_
   refine CB [(0,3)] [] (z8C (m:=m) hy1) ?_
   refine SB ?_
   refine V rfl ?_
   refine AL.nil ?_
   refine AW.ret ?_
   cases hr
   cases hik1 _ rfl
   rename_i hr
   cases hr
   exact endA.renK [(3,0)] 1 hS
  ·refine AW.cF rfl (dF h1) ?_
   refine AW.skip ?_
   refine AW.regL ?_
   refine V rfl ?_
   refine OB _ (q2b (p:=k1) (q:=1) (q1o hltk1 hl1)) ?_
   refine V rfl ?_
   refine AL.nil ?_
   cases hr
   exact⟨_,rfl,GH.renK hS [(0,0),(1,1),(2,2)] 3⟩
 ·subst ek1
  refine AW.seq (AW.seq (AW.regL ?_))
  iterate 3 refine V rfl ?_
  refine LF ?_
  refine V rfl ?_
  refine AL.nil ?_
  refine AW.cF rfl (dF hltk1) ?_
  refine AW.exit ?_
  refine AW.seq (AW.regL ?_)
  refine V rfl ?_
  refine SB ?_
  refine V rfl ?_
  refine AL.nil ?_
  refine AW.ret ?_
  refine endA.gh (GH.nlB (q:=2) (c:=6) (r:=3) .fz 7 rfl rfl rfl) ?_
  cases hr
  exact endA.renK [(3,0)] 1 hS
def q6I (a0:Occurrence)(a1:Occurrence):Option Bool:=
 (
 if a0.Pos < a1.Pos then (
 some true
 ) else (
 (
 if a0.Pos=a1.Pos then (
 some (Op.bytesLess a0.Name.toList a1.Name.toList)
 ) else (
 some false
 )
 ).bind fun s2=>
 some s2
 )
 ).bind fun s1=>
 some s1
theorem z5n {a0:Occurrence}{a1:Occurrence}{r:Bool}(hr:q6I a0 a1=some r):Ok Tryz.prog 83 [Occurrence.x .fz a0,Occurrence.x .fz a1] [] (.d .fz (.b r)) []:=by
 refine Ok.enter rfl Tryz.func83 rfl rfl rfl fun S hS=>?_
 unfold q6I at hr
 refine AW.seq (AW.regL ?_)
 refine BX 0 ?_
 refine BX 1 ?_
 refine V rfl ?_
 refine AL.nil ?_
 refine AW.seq (AW.regL ?_)
 iterate 5 refine V rfl ?_
 refine bdE hr fun s1 hqq1 hr=>?_
 refine AL.meet1 14 [(4,.d .fz (.b false)),(23,.d .fz (.b s1))] ?_ ?_
 ·replace hr:=hqq1
  refine ifE hr (fun h1 hr=>?_) fun h1 hr=>?_
  ·refine VT rfl (dT h1) ?_
   refine AL.off ?_
   refine AL.off ?_
   refine AL.off ?_
   refine AL.off ?_
   refine AL.off ?_
   refine AL.off ?_
   refine AL.off ?_
   refine AL.off ?_
   refine AL.off ?_
   refine AL.off ?_
   refine AL.off ?_
   refine AL.off ?_
   refine V rfl ?_
   refine AL.nil ?_
   cases hr
   exact q1r
  ·refine VF rfl (dF h1) ?_
   iterate 5 refine V rfl ?_
   refine bdE hr fun s2 hqq2 hr=>?_
   refine AL.meet1 7 [(4,.d .fz (.b false)),(10,.d .fz (.b false)),(22,.d .fz (.b s2))] ?_ ?_
   ·replace hr:=hqq2
    refine ifE hr (fun h2 hr=>?_) fun h2 hr=>?_
    ·refine VT rfl (dT h2) ?_
     iterate 6 refine V rfl ?_
     refine AL.nil ?_
     cases hr
     exact q1r
    ·refine VF rfl (dF h2) ?_
     refine AL.off ?_
     refine AL.off ?_
     refine AL.off ?_
     refine AL.off ?_
     refine AL.off ?_
     refine V rfl ?_
     refine AL.nil ?_
     cases hr
     exact q1r
   ·refine V rfl ?_
    refine AL.nil ?_
    cases hr
    exact q1r
 ·refine V rfl ?_
  refine AL.nil ?_
  refine AW.ret ?_
  cases hr
  exact endA.renK [] 0 hS
def q6J (a0:(List Occurrence))(a1:Occurrence):Int→Option (Int ⊕ Int):=fun s2=>
 if s2 < (a0.length:Int) then (
 grd (0≤s2) <|
 (a0[s2.toNat]?).bind fun x1=>
 (q6I x1 a1).bind fun y1=>
 if y1=true then (
 grd (I64 (s2+1)) <|
 some (.inl (s2+1))
 ) else (
 some (.inr s2)
 )
 ) else (
 some (.inr s2)
 )
def q9P (a0:(List Occurrence))(a1:Occurrence):Option (List Occurrence):=
 (q2t (q6J a0 a1) 0).bind fun s1=>
 if s1 < (a0.length:Int) then (
 grd (0≤s1) <|
 (a0[s1.toNat]?).bind fun x2=>
 if x2=a1 then (
 some a0
 ) else (
 grd (0≤s1) <|
 grd (s1.toNat≤a0.length) <|
 grd (((([]:List Occurrence).length:Int)+((a0.take s1.toNat).length:Int))*24≤140737488355328∧(([]:List Occurrence).length:Int)+((a0.take s1.toNat).length:Int)≤9223372036854775807) <|
 grd ((((a0.take s1.toNat).length:Int)+1)*24≤140737488355328∧((a0.take s1.toNat).length:Int)+1≤9223372036854775807) <|
 grd (0≤s1) <|
 grd (s1.toNat≤a0.length) <|
 grd (((((a0.take s1.toNat)++[a1]).length:Int)+((a0.drop s1.toNat).length:Int))*24≤140737488355328∧(((a0.take s1.toNat)++[a1]).length:Int)+((a0.drop s1.toNat).length:Int)≤9223372036854775807) <|
 some (((a0.take s1.toNat)++[a1])++(a0.drop s1.toNat))
 )
 ) else (
 grd (0≤s1) <|
 grd (s1.toNat≤a0.length) <|
 grd (((([]:List Occurrence).length:Int)+((a0.take s1.toNat).length:Int))*24≤140737488355328∧(([]:List Occurrence).length:Int)+((a0.take s1.toNat).length:Int)≤9223372036854775807) <|
 grd ((((a0.take s1.toNat).length:Int)+1)*24≤140737488355328∧((a0.take s1.toNat).length:Int)+1≤9223372036854775807) <|
 grd (0≤s1) <|
 grd (s1.toNat≤a0.length) <|
 grd (((((a0.take s1.toNat)++[a1]).length:Int)+((a0.drop s1.toNat).length:Int))*24≤140737488355328∧(((a0.take s1.toNat)++[a1]).length:Int)+((a0.drop s1.toNat).length:Int)≤9223372036854775807) <|
 some (((a0.take s1.toNat)++[a1])++(a0.drop s1.toNat))
 )
theorem z9Q {m:Md}{a0:(List Occurrence)}{a1:Occurrence}{r:(List Occurrence)}(hr:q9P a0 a1=some r):Ok Tryz.prog 58 [.d m (.sl 2 (a0.map Occurrence.D)),Occurrence.x .fz a1] [] (.d m (.sl 2 (r.map Occurrence.D))) []:=by
 refine Ok.enter rfl Tryz.func58 rfl rfl rfl fun S hS=>?_
 unfold q9P at hr
 refine AW.seq (AW.regL ?_)
 refine BX 0 ?_
 refine V rfl ?_
 refine AL.nil ?_
 refine AW.seq (AW.regL ?_)
 refine V rfl ?_
 refine AL.nil ?_
 refine bdE hr fun s1 hqq1 hr=>?_
 refine AW.seq (AW.cut1 1 [(0,.d m (.sl 2 (a0.map Occurrence.D))),(3,.pb 0 0),(5,.d .fz (.i .i64 s1))] [] ?_ ?_)
 ·refine AW.block (AW.iter hqq1 1 (fun s2=>[(0,.d m (.sl 2 (a0.map Occurrence.D))),(3,.pb 0 0),(5,.d .fz (.i .i64 s2))]) (fun s2=>[]) (GH.renK hS [(0,0)] 1) fun sk1 ok1 hr hik1=>?_)
  obtain⟨s2,rfl⟩:∃ y,y=sk1:=⟨_,rfl⟩
  have hr:=hr
  refine AW.seq (AW.seq (AW.drawL (h:=?_)))
  iterate 2 refine V rfl ?_
  refine LF ?_
  refine V rfl ?_
  refine ifE hr (fun h1 hr=>?_) fun h1 hr=>?_
  ·refine VT rfl (dT h1) ?_
   iterate 2 refine V rfl ?_
   refine ggE hr fun g1 hr=>?_
   refine bdE hr fun x1 hx1 hr=>?_
   refine IF g1 hx1 ?_
   iterate 2 refine V rfl ?_
   refine bdE hr fun y1 hy1 hr=>?_
   refine CB [] [] (z5n hy1) ?_
   refine V rfl ?_
   refine AL.nil ?_
   refine ifE hr (fun h2 hr=>?_) fun h2 hr=>?_
   ·refine AW.cT rfl h2 ?_
    refine AW.skip ?_
    refine AW.block (AW.regL ?_)
    refine V rfl ?_
    refine ggE hr fun g2 hr=>?_
    refine OB _ (bAdd g2) ?_
    refine V rfl ?_
    refine AL.nil ?_
    cases hr
    exact⟨_,rfl,GH.renK hS [(0,0)] 1⟩
   ·refine AW.cF rfl (bF h2) ?_
    refine AW.exit ?_
    cases hr
    cases hik1 _ rfl
    exact GH.renK hS [(0,0)] 1
  ·refine VF rfl (dF h1) ?_
   refine AL.off ?_
   refine AL.off ?_
   refine AL.off ?_
   refine AL.off ?_
   refine AL.off ?_
   refine AL.off ?_
   refine V rfl ?_
   refine AL.nil ?_
   refine AW.cF rfl rfl ?_
   refine AW.exit ?_
   cases hr
   cases hik1 _ rfl
   exact GH.renK hS [(0,0)] 1
 ·refine AW.seq (AW.seq (AW.drawL (h:=?_)))
  iterate 2 refine V rfl ?_
  refine LF ?_
  refine V rfl ?_
  refine ifE hr (fun h3 hr=>?_) fun h3 hr=>?_
  ·refine VT rfl (dT h3) ?_
   iterate 2 refine V rfl ?_
   refine ggE hr fun g3 hr=>?_
   refine bdE hr fun x2 hx2 hr=>?_
   refine IF g3 hx2 ?_
   iterate 2 refine V rfl ?_
   refine SQ rfl rfl rfl rfl (q2T x2 a1) ?_
   refine V rfl ?_
   refine AL.nil ?_
   refine ifE hr (fun h4 hr=>?_) fun h4 hr=>?_
   ·refine AW.cT rfl (dT h4) ?_
    refine AW.seq (AW.regL ?_)
    iterate 2 refine V rfl ?_
    refine AL.nil ?_
    refine AW.ret ?_
    cases hr
    exact endA.renK [] 0 hS
   ·refine AW.cF rfl (dF h4) ?_
    refine AW.skip ?_
    refine AW.seq (AW.regL ?_)
    refine L0 1 Occurrence.D ?_
    iterate 2 refine V rfl ?_
    refine ggE hr fun g4 hr=>?_
    refine ggE hr fun g5 hr=>?_
    refine SLH g4 g5 ?_
    refine ggE hr fun g6 hr=>?_
    refine APfB (f:=Occurrence.D) 2 24 (fun _=>rfl) g6 ?_
    refine V rfl ?_
    refine AL.nil ?_
    refine AW.seq (AW.regL ?_)
    iterate 2 refine V rfl ?_
    refine LIR 3 (m:=.fz) (f:=Occurrence.D) (xs:=[a1]) ?_
    refine ggE hr fun g7 hr=>?_
    refine APf1 (f:=Occurrence.D) 4 (fun _=>rfl) 24 g7 ?_
    refine V rfl ?_
    refine AL.nil ?_
    refine AW.seq (AW.regL ?_)
    iterate 3 refine V rfl ?_
    refine ggE hr fun g8 hr=>?_
    refine ggE hr fun g9 hr=>?_
    refine SLL g8 g9 ?_
    refine ggE hr fun g10 hr=>?_
    refine APfB (f:=Occurrence.D) 5 24 (fun _=>rfl) g10 ?_
    refine V rfl ?_
    refine AL.nil ?_
    refine AW.ret ?_
    refine endA.gh (GH.freeze (r:=5) rfl) ?_
    cases hr
    exact endA.ren [] 0 (.inr rfl) hS rfl rfl rfl (.md rfl) rfl rfl
  ·refine VF rfl (dF h3) ?_
   refine AL.off ?_
   refine AL.off ?_
   refine AL.off ?_
   refine AL.off ?_
   refine AL.off ?_
   refine AL.off ?_
   refine V rfl ?_
   refine AL.nil ?_
   refine AW.cF rfl rfl ?_
   refine AW.skip ?_
   refine AW.seq (AW.regL ?_)
   refine L0 1 Occurrence.D ?_
   iterate 2 refine V rfl ?_
   refine ggE hr fun g11 hr=>?_
   refine ggE hr fun g12 hr=>?_
   refine SLH g11 g12 ?_
   refine ggE hr fun g13 hr=>?_
   refine APfB (f:=Occurrence.D) 2 24 (fun _=>rfl) g13 ?_
   refine V rfl ?_
   refine AL.nil ?_
   refine AW.seq (AW.regL ?_)
   iterate 2 refine V rfl ?_
   refine LIR 3 (m:=.fz) (f:=Occurrence.D) (xs:=[a1]) ?_
   refine ggE hr fun g14 hr=>?_
   refine APf1 (f:=Occurrence.D) 4 (fun _=>rfl) 24 g14 ?_
   refine V rfl ?_
   refine AL.nil ?_
   refine AW.seq (AW.regL ?_)
   iterate 3 refine V rfl ?_
   refine ggE hr fun g15 hr=>?_
   refine ggE hr fun g16 hr=>?_
   refine SLL g15 g16 ?_
   refine ggE hr fun g17 hr=>?_
   refine APfB (f:=Occurrence.D) 5 24 (fun _=>rfl) g17 ?_
   refine V rfl ?_
   refine AL.nil ?_
   refine AW.ret ?_
   refine endA.gh (GH.freeze (r:=5) rfl) ?_
   cases hr
   exact endA.ren [] 0 (.inr rfl) hS rfl rfl rfl (.md rfl) rfl rfl
end Go.Proofs.YtiojgbiimbefiacGreat
