/- What some functions of the program compute, as partial functions on plain data, and that they do; each lemma bears its conditions in its statement. -/
import Derived.Test.YtiojgbiimbefiaaGreatLift4
set_option linter.unusedVariables false
set_option linter.unusedSimpArgs false
set_option linter.ambiguousOpen false
set_option linter.unusedSectionVars false
set_option linter.unnecessarySimpa false
set_option maxRecDepth 100000
set_option maxHeartbeats 40000000
noncomputable section
namespace Go.Proofs.YtiojgbiimbefiaaGreat
open Go Go.E Go.A
def q4b (y1:(List Occurrence))(k1:Nat):Nat→Occurrence→((List Int) × Int)→Option ((List Int) × Int):=fun k2 xk2 (s3,s4)=>
 (q2o y1 xk2).bind fun y6=>
 (q5c (⟨s4,s3⟩:Relation) y6 (k1:Int)).bind fun y7=>
 some (y7.Rows,y7.N)
def q4c (a1:Rule)(y1:(List Occurrence)):Nat→Occurrence→((List Int) × Int)→Option ((List Int) × Int):=fun k1 xk1 (s1,s2)=>
 (q3u a1 xk1).bind fun (y3,y4)=>
 (q3M y3).bind fun y5=>
 (eachL (q4b y1 k1) 0 y5 (s1,s2)).bind fun (s3,s4)=>
 some (s3,s4)
def q2Y (a0:Grammar)(a1:Rule):Option Relation:=
 (q1Q a0 a1).bind fun y1=>
 (q2X (y1.length:Int)).bind fun y2=>
 if 16 < (y1.length:Int) then (
 some (⟨0,[]⟩:Relation)
 ) else (
 (eachL (q4c a1 y1) 0 y1 (y2.Rows,y2.N)).bind fun (s1,s2)=>
 some (⟨s2,s1⟩:Relation)
 )
theorem q9c {m:Md}{a0:Grammar}{a1:Rule}{r:Relation}(hr:q2Y a0 a1=some r):Ok Tryz.prog 20 [Grammar.y m a0,Rule.x m a1] [] (.ag [.d .fz (.i .i64 r.N),.ref 0 none]) [.row .fz 1 (r.Rows.map (A.D.i .i64))]:=by
 refine Ok.enter rfl Tryz.func20 rfl rfl rfl fun S hS=>?_
 unfold q2Y at hr
 refine AW.seq (AW.regL ?_)
 refine BX 0 ?_
 refine BX 1 ?_
 refine NV 2 ?_
 refine AL.nil ?_
 refine AW.seq (AW.regL ?_)
 iterate 2 refine V rfl ?_
 refine bdE hr fun y1 hy1 hr=>?_
 refine CB [(0,3)] [] (q4Y (m:=m) hy1) ?_
 refine V rfl ?_
 refine AL.nil ?_
 refine AW.seq (AW.regL ?_)
 refine V rfl ?_
 refine LE ?_
 refine bdE hr fun y2 hy2 hr=>?_
 refine CB [(0,4)] [] (q6D hy2) ?_
 refine NV 5 ?_
 refine SB ?_
 refine AL.nil ?_
 refine AW.seq (AW.seq (AW.regL ?_))
 refine V rfl ?_
 refine LE ?_
 refine V rfl ?_
 refine AL.nil ?_
 refine ifE hr (fun h1 hr=>?_) fun h1 hr=>?_
 ·refine AW.cT rfl (dT h1) ?_
  refine AW.seq (AW.regL ?_)
  refine V rfl ?_
  refine SB ?_
  refine AL.nil ?_
  refine AW.ret ?_
  refine endA.gh (GH.nlB (q:=2) (c:=1) (r:=6) .fz 1 rfl rfl rfl) ?_
  cases hr
  exact endA.renK [(6,0)] 1 hS
 ·refine AW.cF rfl (dF h1) ?_
  refine AW.skip ?_
  refine AW.seq (AW.seq (AW.regL ?_))
  refine V rfl ?_
  refine LE ?_
  refine V rfl ?_
  refine AL.nil ?_
  refine AW.block ?_
  refine AW.lenR 3 rfl fun hl1=>?_
  refine bdE hr fun q1 hqq1 hr=>?_
  obtain⟨s1,s2⟩:=q1
  refine AW.eachL hqq1 hl1 6 (fun k1 (s1,s2)=>[(3,.pb 1 0),(4,.pb 2 0),(5,.ref 3 none),(6,.pb 5 0),(23,.ref 3 none),(24,.d .fz (.i .i64 (y1.length:Int))),(25,.d .fz (.i .i64 (k1:Int)))]) (fun k1 (s1,s2)=>[(4,.row .fz 1 (s1.map (A.D.i .i64))),(5,.box [.d .fz (.i .i64 s2),.ref 4 none])]) (GH.trans (GH.bw (q:=0) [.d m (.sl 2 (a0.Symbols.map Symbol.D)),.u] (.cons .rfl (.cons .u .nil)) rfl) (GH.renK hS [(0,0),(1,1),(2,2),(3,3),(4,4),(5,5)] 6)) (fun k1 xk1 sk1 ok1 hxk1 hr hltk1=>?_) fun k1 hltk1=>?_
  ·obtain⟨s1,s2⟩:=sk1
   refine AW.seq (AW.regL ?_)
   refine V rfl ?_
   refine AL.nil ?_
   refine AW.seq (AW.cT rfl (dT hltk1) ?_)
   refine AW.skip ?_
   refine AW.seq (AW.block (AW.seq (AW.regL ?_)))
   refine V rfl ?_
   refine IE hxk1 (Int.natCast_nonneg _) ?_
   refine LPa hxk1 ?_
   refine NV 6 ?_
   refine V rfl ?_
   refine SB ?_
   refine AL.nil ?_
   refine AW.seq (AW.regL ?_)
   iterate 2 refine V rfl ?_
   refine bdE hr fun q2 hq2 hr=>?_
   obtain⟨y3,y4⟩:=q2
   refine CB [(0,7)] [] (q9H (m:=m) hq2) ?_
   iterate 3 refine V rfl ?_
   refine NV 8 ?_
   refine SB ?_
   refine V rfl ?_
   refine AL.nil ?_
   refine AW.seq (AW.regL ?_)
   refine V rfl ?_
   refine bdE hr fun y5 hy5 hr=>?_
   refine CB [(0,9)] [7] (q9b (m:=.bo) hy5) ?_
   refine LE ?_
   refine V rfl ?_
   refine AL.nil ?_
   refine AW.block ?_
   refine AW.lenR 9 rfl fun hl2=>?_
   refine bdE hr fun q3 hqq3 hr=>?_
   obtain⟨s3,s4⟩:=q3
   refine AW.eachL hqq3 hl2 10 (fun k2 (s3,s4)=>[(3,.pb 1 0),(4,.pb 2 0),(5,.ref 3 none),(6,.pb 5 0),(7,.d .fz (.i .i64 (k1:Int))),(23,.ref 3 none),(24,.d .fz (.i .i64 (y1.length:Int))),(25,.d .fz (.i .i64 (k1:Int))),(37,.ref 9 none),(38,.d .fz (.i .i64 (y5.length:Int))),(39,.d .fz (.i .i64 (k2:Int)))]) (fun k2 (s3,s4)=>[(4,.row .fz 1 (s3.map (A.D.i .i64))),(5,.box [.d .fz (.i .i64 s4),.ref 4 none])]) (GH.trans (GH.bw (q:=0) [.d m (.sl 2 (a0.Symbols.map Symbol.D)),.u] (.cons .rfl (.cons .u .nil)) rfl) (GH.renK hS [(0,0),(1,1),(2,2),(3,3),(4,4),(5,5),(6,6),(7,7),(8,8),(9,9)] 10)) (fun k2 xk2 sk2 ok2 hxk2 hr hltk2=>?_) fun k2 hltk2=>?_
   ·obtain⟨s3,s4⟩:=sk2
    refine AW.seq (AW.regL ?_)
    refine V rfl ?_
    refine AL.nil ?_
    refine AW.seq (AW.cT rfl (dT hltk2) ?_)
    refine AW.skip ?_
    refine AW.seq (AW.block (AW.seq (AW.regL ?_)))
    refine IE hxk2 (Int.natCast_nonneg _) ?_
    refine LPa hxk2 ?_
    refine NV 10 ?_
    refine SB ?_
    refine AL.nil ?_
    refine AW.drawL (h:=?_)
    iterate 3 refine V rfl ?_
    refine bdE hr fun y6 hy6 hr=>?_
    refine CB [] [3] (q8c (m:=.bo) hy6) ?_
    refine V rfl ?_
    refine bdE hr fun y7 hy7 hr=>?_
    refine CB [(0,11)] [4] (q8e (m:=.bo) hy7) ?_
    refine SB ?_
    refine AL.nil ?_
    refine AW.regL ?_
    refine OB _ (q2c (p:=k2) (q:=1) (q1n hltk2 hl2)) ?_
    refine V rfl ?_
    refine AL.nil ?_
    cases hr
    exact GH.trans (GH.bw (q:=0) [.d m (.sl 2 (a0.Symbols.map Symbol.D)),.u] (.cons .rfl (.cons .u .nil)) rfl) (GH.renK hS [(0,0),(1,1),(2,2),(3,3),(11,4),(5,5),(6,6),(7,7),(8,8),(9,9)] 10)
   ·refine AW.seq (AW.regL ?_)
    refine V rfl ?_
    refine AL.nil ?_
    refine AW.seq (AW.cF rfl (dF hltk2) ?_)
    refine AW.exit ?_
    refine AW.regL ?_
    refine OB _ (q2c (p:=k1) (q:=1) (q1n hltk1 hl1)) ?_
    refine V rfl ?_
    refine AL.nil ?_
    cases hr
    exact GH.trans (GH.bw (q:=0) [.d m (.sl 2 (a0.Symbols.map Symbol.D)),.u] (.cons .rfl (.cons .u .nil)) rfl) (GH.renK hS [(0,0),(1,1),(2,2),(3,3),(4,4),(5,5)] 6)
  ·refine AW.seq (AW.regL ?_)
   refine V rfl ?_
   refine AL.nil ?_
   refine AW.seq (AW.cF rfl (dF hltk1) ?_)
   refine AW.exit ?_
   refine AW.seq (AW.regL ?_)
   refine V rfl ?_
   refine SB ?_
   refine AL.nil ?_
   refine AW.ret ?_
   cases hr
   exact endA.renK [(4,0)] 1 hS
def q1P (a2:Int):Nat→Occurrence→((List Int))→Option ((List Int)):=fun k1 xk1 s1=>
 (
 if xk1.Pos=a2 then (
 grd (((s1.length:Int)+1)*8≤140737488355328∧(s1.length:Int)+1≤9223372036854775807) <|
 some (s1++[(k1:Int)])
 ) else (
 some s1
 )
 ).bind fun s2=>
 some s2
def q1M (a0:Grammar)(a1:Rule)(a2:Int):Option (List Int):=
 (q1Q a0 a1).bind fun y1=>
 (eachL (q1P a2) 0 y1 ([]:List Int)).bind fun s1=>
 some s1
theorem q5Y {m:Md}{a0:Grammar}{a1:Rule}{a2:Int}{r:(List Int)}(hr:q1M a0 a1 a2=some r):Ok Tryz.prog 32 [Grammar.y m a0,Rule.x m a1,.d .fz (.i .i64 a2)] [] (.ref 0 none) [.row .fz 1 (r.map (A.D.i .i64))]:=by
 refine Ok.enter rfl Tryz.func32 rfl rfl rfl fun S hS=>?_
 unfold q1M at hr
 refine AW.seq (AW.regL ?_)
 refine BX 0 ?_
 refine BX 1 ?_
 refine V rfl ?_
 refine AL.nil ?_
 refine AW.seq (AW.regL ?_)
 refine L0 2 (A.D.i .i64) ?_
 refine V rfl ?_
 refine AL.nil ?_
 refine AW.seq (AW.seq (AW.regL ?_))
 iterate 2 refine V rfl ?_
 refine bdE hr fun y1 hy1 hr=>?_
 refine CB [(0,3)] [] (q4Y (m:=m) hy1) ?_
 refine LE ?_
 refine V rfl ?_
 refine AL.nil ?_
 refine AW.block ?_
 refine AW.lenR 3 rfl fun hl1=>?_
 refine bdE hr fun s1 hqq1 hr=>?_
 refine AW.eachL hqq1 hl1 4 (fun k1 s1=>[(2,.d .fz (.i .i64 a2)),(7,.ref 2 none),(13,.ref 3 none),(14,.d .fz (.i .i64 (y1.length:Int))),(15,.d .fz (.i .i64 (k1:Int)))]) (fun k1 s1=>[(2,.row .fz 1 (s1.map (A.D.i .i64)))]) (GH.trans (GH.bw (q:=0) [.d m (.sl 2 (a0.Symbols.map Symbol.D)),.u] (.cons .rfl (.cons .u .nil)) rfl) (GH.renK hS [(0,0),(1,1),(2,2),(3,3)] 4)) (fun k1 xk1 sk1 ok1 hxk1 hr hltk1=>?_) fun k1 hltk1=>?_
 ·obtain⟨s1,rfl⟩:∃ y,y=sk1:=⟨_,rfl⟩
  refine AW.seq (AW.regL ?_)
  refine V rfl ?_
  refine AL.nil ?_
  refine AW.seq (AW.cT rfl (dT hltk1) ?_)
  refine AW.skip ?_
  refine bdE hr fun s2 hqq2 hr=>?_
  refine AW.seq (AW.cut1 4 [(2,.d .fz (.i .i64 a2)),(7,.ref 2 none),(13,.ref 3 none),(14,.d .fz (.i .i64 (y1.length:Int))),(15,.d .fz (.i .i64 (k1:Int)))] [(2,.row .fz 1 (s2.map (A.D.i .i64)))] ?_ ?_)
  ·replace hr:=hqq2
   refine AW.block (AW.seq (AW.regL ?_))
   refine V rfl ?_
   refine IE hxk1 (Int.natCast_nonneg _) ?_
   refine LPa hxk1 ?_
   refine NV 4 ?_
   refine V rfl ?_
   refine SB ?_
   refine AL.nil ?_
   refine AW.seq (AW.regL ?_)
   iterate 4 refine V rfl ?_
   refine AL.nil ?_
   refine ifE hr (fun h1 hr=>?_) fun h1 hr=>?_
   ·refine AW.cT rfl (dT h1) ?_
    refine AW.regL ?_
    iterate 2 refine V rfl ?_
    refine LIR 5 (m:=.fz) (f:=(A.D.i .i64)) (xs:=([(k1:Int)]:List Int)) ?_
    refine ggE hr fun g1 hr=>?_
    refine APf1 (f:=(A.D.i .i64)) 6 (fun _=>rfl) 8 g1 ?_
    refine V rfl ?_
    refine AL.nil ?_
    cases hr
    exact GH.trans (GH.bw (q:=0) [.d m (.sl 2 (a0.Symbols.map Symbol.D)),.u] (.cons .rfl (.cons .u .nil)) rfl) (GH.renK hS [(0,0),(1,1),(6,2),(3,3)] 4)
   ·refine AW.cF rfl (dF h1) ?_
    refine AW.skip ?_
    cases hr
    exact GH.trans (GH.bw (q:=0) [.d m (.sl 2 (a0.Symbols.map Symbol.D)),.u] (.cons .rfl (.cons .u .nil)) rfl) (GH.renK hS [(0,0),(1,1),(2,2),(3,3)] 4)
  ·refine AW.regL ?_
   refine OB _ (q2c (p:=k1) (q:=1) (q1n hltk1 hl1)) ?_
   refine V rfl ?_
   refine AL.nil ?_
   cases hr
   exact GH.trans (GH.bw (q:=0) [.d m (.sl 2 (a0.Symbols.map Symbol.D)),.u] (.cons .rfl (.cons .u .nil)) rfl) (GH.renK hS [(0,0),(1,1),(2,2),(3,3)] 4)
 ·refine AW.seq (AW.regL ?_)
  refine V rfl ?_
  refine AL.nil ?_
  refine AW.seq (AW.cF rfl (dF hltk1) ?_)
  refine AW.exit ?_
  refine AW.seq (AW.regL ?_)
  iterate 2 refine V rfl ?_
  refine AL.nil ?_
  refine AW.ret ?_
  cases hr
  exact endA.renK [(2,0)] 1 hS
def q5d (a0:Relation)(a1:Int)(a2:Int):Option Bool:=
 (q2p a0).bind fun y1=>
 (
 if y1=true then (
 grd (I64 (a0.N - 1)) <|
 (q3e a1 0 (a0.N - 1)).bind fun y2=>
 some y2
 ) else (
 some false
 )
 ).bind fun s1=>
 (
 if s1=true then (
 grd (I64 (a0.N - 1)) <|
 (q3e a2 0 (a0.N - 1)).bind fun y3=>
 some y3
 ) else (
 some false
 )
 ).bind fun s2=>
 (
 if s2=true then (
 grd (0≤a1) <|
 (a0.Rows[a1.toNat]?).bind fun x1=>
 grd (0≤a2) <|
 grd (0≤x1∧0≤a2∧a2 < 64) <|
 grd (0≤((x1.toNat >>> a2.toNat:Nat):Int)∧0≤(1:Int)) <|
 some (decide (((((x1.toNat >>> a2.toNat:Nat):Int).toNat &&& (1:Int).toNat:Nat):Int)=1))
 ) else (
 some false
 )
 ).bind fun s3=>
 some s3
theorem z0E {m:Md}{a0:Relation}{a1:Int}{a2:Int}{r:Bool}(hr:q5d a0 a1 a2=some r):Ok Tryz.prog 34 [Relation.x m a0,.d .fz (.i .i64 a1),.d .fz (.i .i64 a2)] [] (.d .fz (.b r)) []:=by
 refine Ok.enter rfl Tryz.func34 rfl rfl rfl fun S hS=>?_
 unfold q5d at hr
 refine AW.seq (AW.regL ?_)
 refine BX 0 ?_
 refine V rfl ?_
 refine AL.nil ?_
 refine AW.seq (AW.regL ?_)
 refine V rfl ?_
 refine bdE hr fun y1 hy1 hr=>?_
 refine CB [] [] (q4p (m:=m) hy1) ?_
 refine bdE hr fun s1 hqq1 hr=>?_
 refine AL.meet1 7 [(1,.d .fz (.i .i64 a1)),(2,.d .fz (.i .i64 a2)),(3,.pb 0 0),(6,.d .fz (.b false)),(15,.d .fz (.b s1))] ?_ ?_
 ·replace hr:=hqq1
  refine ifE hr (fun h1 hr=>?_) fun h1 hr=>?_
  ·refine VT rfl h1 ?_
   iterate 3 refine V rfl ?_
   refine ggE hr fun g1 hr=>?_
   refine OB _ (bSub g1) ?_
   refine bdE hr fun y2 hy2 hr=>?_
   refine CB [] [] (q4t hy2) ?_
   refine V rfl ?_
   refine AL.nil ?_
   cases hr
   exact q1u
  ·refine VF rfl (bF h1) ?_
   refine AL.off ?_
   refine AL.off ?_
   refine AL.off ?_
   refine AL.off ?_
   refine AL.off ?_
   refine V rfl ?_
   refine AL.nil ?_
   cases hr
   exact q1u
 ·refine bdE hr fun s2 hqq2 hr=>?_
  refine AL.meet1 7 [(1,.d .fz (.i .i64 a1)),(2,.d .fz (.i .i64 a2)),(3,.pb 0 0),(6,.d .fz (.b false)),(22,.d .fz (.b s2))] ?_ ?_
  ·replace hr:=hqq2
   refine ifE hr (fun h2 hr=>?_) fun h2 hr=>?_
   ·refine VT rfl h2 ?_
    iterate 3 refine V rfl ?_
    refine ggE hr fun g2 hr=>?_
    refine OB _ (bSub g2) ?_
    refine bdE hr fun y3 hy3 hr=>?_
    refine CB [] [] (q4t hy3) ?_
    refine V rfl ?_
    refine AL.nil ?_
    cases hr
    exact q1u
   ·refine VF rfl (bF h2) ?_
    refine AL.off ?_
    refine AL.off ?_
    refine AL.off ?_
    refine AL.off ?_
    refine AL.off ?_
    refine V rfl ?_
    refine AL.nil ?_
    cases hr
    exact q1u
  ·refine bdE hr fun s3 hqq3 hr=>?_
   refine AL.meet1 12 [(6,.d .fz (.b false)),(34,.d .fz (.b s3))] ?_ ?_
   ·replace hr:=hqq3
    refine ifE hr (fun h3 hr=>?_) fun h3 hr=>?_
    ·refine VT rfl h3 ?_
     iterate 3 refine V rfl ?_
     refine ggE hr fun g3 hr=>?_
     refine bdE hr fun x1 hx1 hr=>?_
     refine IF g3 hx1 ?_
     iterate 2 refine V rfl ?_
     refine ggE hr fun g4 hr=>?_
     refine CIU g4 rfl ?_
     refine ggE hr fun g5 hr=>?_
     refine OB _ (z8X g5) ?_
     refine ggE hr fun g6 hr=>?_
     refine OB _ (z8Y g6) ?_
     iterate 2 refine V rfl ?_
     refine AL.nil ?_
     cases hr
     exact q1u
    ·refine VF rfl (bF h3) ?_
     refine AL.off ?_
     refine AL.off ?_
     refine AL.off ?_
     refine AL.off ?_
     refine AL.off ?_
     refine AL.off ?_
     refine AL.off ?_
     refine AL.off ?_
     refine AL.off ?_
     refine AL.off ?_
     refine V rfl ?_
     refine AL.nil ?_
     cases hr
     exact q1u
   ·refine V rfl ?_
    refine AL.nil ?_
    refine AW.ret ?_
    cases hr
    exact endA.renK [] 0 hS
def q8C (a4:Relation)(k1:Nat)(xk1:Int):Nat→Int→(Int × (List Int))→Option (Int × (List Int)):=fun k2 xk2 (s3,s4)=>
 (
 (q5d a4 (k1:Int) (k2:Int)).bind fun y2=>
 if y2=true then (
 (q5c (⟨s3,s4⟩:Relation) xk1 xk2).bind fun y3=>
 some (y3.N,y3.Rows)
 ) else (
 some (s3,s4)
 )
 ).bind fun (s5,s6)=>
 some (s5,s6)
def q8D (a4:Relation)(y1:(List Int)):Nat→Int→(Int × (List Int))→Option (Int × (List Int)):=fun k1 xk1 (s1,s2)=>
 (eachL (q8C a4 k1 xk1) 0 y1 (s1,s2)).bind fun (s3,s4)=>
 some (s3,s4)
def q8E (a0:Grammar)(a1:Rule)(a2:Relation)(a3:Int)(a4:Relation):Option Relation:=
 (q1M a0 a1 a3).bind fun y1=>
 (eachL (q8D a4 y1) 0 y1 (a2.N,a2.Rows)).bind fun (s1,s2)=>
 some (⟨s1,s2⟩:Relation)
theorem z7J {m:Md}{a0:Grammar}{a1:Rule}{a2:Relation}{a3:Int}{a4:Relation}{r:Relation}(hr:q8E a0 a1 a2 a3 a4=some r):Ok Tryz.prog 22 [Grammar.y m a0,Rule.x m a1,Relation.x m a2,.d .fz (.i .i64 a3),Relation.x m a4] [] (Relation.x m r) []:=by
 refine Ok.enter rfl Tryz.func22 rfl rfl rfl fun S hS=>?_
 unfold q8E at hr
 refine AW.seq (AW.regL ?_)
 refine BX 0 ?_
 refine BX 1 ?_
 refine BX 2 ?_
 refine BX 3 ?_
 refine NV 4 ?_
 refine AL.nil ?_
 refine AW.seq (AW.regL ?_)
 iterate 3 refine V rfl ?_
 refine bdE hr fun y1 hy1 hr=>?_
 refine CB [(0,5)] [] (q5Y (m:=m) hy1) ?_
 refine V rfl ?_
 refine AL.nil ?_
 refine AW.seq (AW.seq (AW.regL ?_))
 refine V rfl ?_
 refine LE ?_
 refine V rfl ?_
 refine AL.nil ?_
 refine AW.block ?_
 refine AW.lenR 5 rfl fun hl1=>?_
 refine bdE hr fun q1 hqq1 hr=>?_
 obtain⟨s1,s2⟩:=q1
 refine AW.eachL hqq1 hl1 6 (fun k1 (s1,s2)=>[(7,.pb 2 0),(9,.pb 3 0),(10,.pb 4 0),(11,.ref 5 none),(20,.ref 5 none),(21,.d .fz (.i .i64 (y1.length:Int))),(22,.d .fz (.i .i64 (k1:Int)))]) (fun k1 (s1,s2)=>[(2,.box [.d .fz (.i .i64 s1),.d m (.sl 1 (s2.map (A.D.i .i64)))])]) (GH.trans (GH.bw (q:=0) [.d m (.sl 2 (a0.Symbols.map Symbol.D)),.u] (.cons .rfl (.cons .u .nil)) rfl) (GH.renK hS [(0,0),(1,1),(2,2),(3,3),(4,4),(5,5)] 6)) (fun k1 xk1 sk1 ok1 hxk1 hr hltk1=>?_) fun k1 hltk1=>?_
 ·obtain⟨s1,s2⟩:=sk1
  refine AW.seq (AW.regL ?_)
  refine V rfl ?_
  refine AL.nil ?_
  refine AW.seq (AW.cT rfl (dT hltk1) ?_)
  refine AW.skip ?_
  refine AW.seq (AW.block (AW.seq (AW.regL ?_)))
  refine V rfl ?_
  refine IE hxk1 (Int.natCast_nonneg _) ?_
  refine LP hxk1 ?_
  iterate 2 refine V rfl ?_
  refine AL.nil ?_
  refine AW.seq (AW.regL ?_)
  refine V rfl ?_
  refine LE ?_
  refine V rfl ?_
  refine AL.nil ?_
  refine AW.block ?_
  refine AW.lenR 5 rfl fun hl2=>?_
  refine bdE hr fun q2 hqq2 hr=>?_
  obtain⟨s3,s4⟩:=q2
  refine AW.eachL hqq2 hl2 6 (fun k2 (s3,s4)=>[(7,.pb 2 0),(9,.pb 3 0),(10,.pb 4 0),(11,.ref 5 none),(12,.d .fz (.i .i64 (k1:Int))),(13,.d .fz (.i .i64 xk1)),(20,.ref 5 none),(21,.d .fz (.i .i64 (y1.length:Int))),(22,.d .fz (.i .i64 (k1:Int))),(27,.ref 5 none),(28,.d .fz (.i .i64 (y1.length:Int))),(29,.d .fz (.i .i64 (k2:Int)))]) (fun k2 (s3,s4)=>[(2,.box [.d .fz (.i .i64 s3),.d m (.sl 1 (s4.map (A.D.i .i64)))])]) (GH.trans (GH.bw (q:=0) [.d m (.sl 2 (a0.Symbols.map Symbol.D)),.u] (.cons .rfl (.cons .u .nil)) rfl) (GH.renK hS [(0,0),(1,1),(2,2),(3,3),(4,4),(5,5)] 6)) (fun k2 xk2 sk2 ok2 hxk2 hr hltk2=>?_) fun k2 hltk2=>?_
  ·obtain⟨s3,s4⟩:=sk2
   refine AW.seq (AW.regL ?_)
   refine V rfl ?_
   refine AL.nil ?_
   refine AW.seq (AW.cT rfl (dT hltk2) ?_)
   refine AW.skip ?_
   refine bdE hr fun q3 hqq3 hr=>?_
   obtain⟨s5,s6⟩:=q3
   refine AW.seq (AW.cut1 6 [(7,.pb 2 0),(9,.pb 3 0),(10,.pb 4 0),(11,.ref 5 none),(12,.d .fz (.i .i64 (k1:Int))),(13,.d .fz (.i .i64 xk1)),(20,.ref 5 none),(21,.d .fz (.i .i64 (y1.length:Int))),(22,.d .fz (.i .i64 (k1:Int))),(27,.ref 5 none),(28,.d .fz (.i .i64 (y1.length:Int))),(29,.d .fz (.i .i64 (k2:Int)))] [(2,.box [.d .fz (.i .i64 s5),.d m (.sl 1 (s6.map (A.D.i .i64)))])] ?_ ?_)
   ·replace hr:=hqq3
    refine AW.block (AW.seq (AW.regL ?_))
    refine V rfl ?_
    refine IE hxk2 (Int.natCast_nonneg _) ?_
    refine LP hxk2 ?_
    iterate 2 refine V rfl ?_
    refine AL.nil ?_
    refine AW.seq (AW.regL ?_)
    iterate 3 refine V rfl ?_
    refine bdE hr fun y2 hy2 hr=>?_
    refine CB [] [] (z0E (m:=m) hy2) ?_
    refine AL.nil ?_
    refine ifE hr (fun h1 hr=>?_) fun h1 hr=>?_
    ·refine AW.cT rfl h1 ?_
     refine AW.regL ?_
     iterate 3 refine V rfl ?_
     refine bdE hr fun y3 hy3 hr=>?_
     refine CB [(0,6)] [] (q8e (m:=m) hy3) ?_
     refine SB ?_
     refine AL.nil ?_
     cases hr
     exact GH.trans (GH.freeze (r:=6) rfl) (GH.trans (GH.bw (q:=0) [.d m (.sl 2 (a0.Symbols.map Symbol.D)),.u] (.cons .rfl (.cons .u .nil)) rfl) (GH.trans (GH.bw (q:=2) [.d .fz (.i .i64 y3.N),.d m (.sl 1 (y3.Rows.map (A.D.i .i64)))] (.cons .rfl (.cons (.md rfl) .nil)) rfl) (GH.renK hS [(0,0),(1,1),(2,2),(3,3),(4,4),(5,5)] 6)))
    ·refine AW.cF rfl (bF h1) ?_
     refine AW.skip ?_
     cases hr
     exact GH.trans (GH.bw (q:=0) [.d m (.sl 2 (a0.Symbols.map Symbol.D)),.u] (.cons .rfl (.cons .u .nil)) rfl) (GH.renK hS [(0,0),(1,1),(2,2),(3,3),(4,4),(5,5)] 6)
   ·refine AW.regL ?_
    refine OB _ (q2c (p:=k2) (q:=1) (q1n hltk2 hl2)) ?_
    refine V rfl ?_
    refine AL.nil ?_
    cases hr
    exact GH.trans (GH.bw (q:=0) [.d m (.sl 2 (a0.Symbols.map Symbol.D)),.u] (.cons .rfl (.cons .u .nil)) rfl) (GH.renK hS [(0,0),(1,1),(2,2),(3,3),(4,4),(5,5)] 6)
  ·refine AW.seq (AW.regL ?_)
   refine V rfl ?_
   refine AL.nil ?_
   refine AW.seq (AW.cF rfl (dF hltk2) ?_)
   refine AW.exit ?_
   refine AW.regL ?_
   refine OB _ (q2c (p:=k1) (q:=1) (q1n hltk1 hl1)) ?_
   refine V rfl ?_
   refine AL.nil ?_
   cases hr
   exact GH.trans (GH.bw (q:=0) [.d m (.sl 2 (a0.Symbols.map Symbol.D)),.u] (.cons .rfl (.cons .u .nil)) rfl) (GH.renK hS [(0,0),(1,1),(2,2),(3,3),(4,4),(5,5)] 6)
 ·refine AW.seq (AW.regL ?_)
  refine V rfl ?_
  refine AL.nil ?_
  refine AW.seq (AW.cF rfl (dF hltk1) ?_)
  refine AW.exit ?_
  refine AW.seq (AW.regL ?_)
  refine V rfl ?_
  refine SB ?_
  refine AL.nil ?_
  refine AW.ret ?_
  cases hr
  exact endA.renK [] 0 hS
def q6E (k1:Nat):Nat→((List Int))→Option ((List Int)):=fun k2 s2=>
 (
 (s2[k2]?).bind fun x1=>
 grd (0≤x1∧0≤(k1:Int)∧(k1:Int) < 64) <|
 grd (0≤((x1.toNat >>> (k1:Int).toNat:Nat):Int)∧0≤(1:Int)) <|
 if ((((x1.toNat >>> (k1:Int).toNat:Nat):Int).toNat &&& (1:Int).toNat:Nat):Int)=1 then (
 (s2[k1]?).bind fun x2=>
 grd (0≤x1∧0≤x2) <|
 some (List.set s2 k2 ((x1.toNat ||| x2.toNat:Nat):Int))
 ) else (
 some s2
 )
 ).bind fun s3=>
 some s3
def q5e:Nat→((List Int))→Option ((List Int)):=fun k1 s1=>
 (eachN (q6E k1) 0 s1.length s1).bind fun s2=>
 some s2
def q3O (a0:Relation):Option Relation:=
 (q3v a0).bind fun y1=>
 (q2p a0).bind fun y2=>
 if y2=true then (
 (eachN q5e 0 y1.Rows.length y1.Rows).bind fun s1=>
 some (⟨y1.N,s1⟩:Relation)
 ) else (
 some y1
 )
theorem q9d {m:Md}{a0:Relation}{r:Relation}(hr:q3O a0=some r):Ok Tryz.prog 23 [Relation.x m a0] [] (.ag [.d .fz (.i .i64 r.N),.ref 0 none]) [.row .fz 1 (r.Rows.map (A.D.i .i64))]:=by
 refine Ok.enter rfl Tryz.func23 rfl rfl rfl fun S hS=>?_
 unfold q3O at hr
 refine AW.seq (AW.regL ?_)
 refine BX 0 ?_
 refine NV 1 ?_
 refine AL.nil ?_
 refine AW.seq (AW.regL ?_)
 refine V rfl ?_
 refine bdE hr fun y1 hy1 hr=>?_
 refine CB [(0,2)] [] (q7c (m:=m) hy1) ?_
 refine NV 3 ?_
 refine SB ?_
 refine AL.nil ?_
 refine AW.seq (AW.seq (AW.regL ?_))
 refine V rfl ?_
 refine bdE hr fun y2 hy2 hr=>?_
 refine CB [] [] (q4p (m:=m) hy2) ?_
 refine V rfl ?_
 refine AL.nil ?_
 refine ifE hr (fun h1 hr=>?_) fun h1 hr=>?_
 ·refine AW.cF rfl (bnF h1) ?_
  refine AW.skip ?_
  refine AW.seq (AW.seq (AW.regL ?_))
  iterate 2 refine V rfl ?_
  refine LE ?_
  refine V rfl ?_
  refine AL.nil ?_
  refine AW.block ?_
  refine AW.rng (.tmp 14 rfl) fun hl1=>?_
  refine bdE hr fun s1 hqq1 hr=>?_
  refine AW.eachN hqq1 4 (fun k1 s1=>[(2,.pb 1 0),(3,.pb 3 0),(14,.d .fz (.i .i64 (y1.Rows.length:Int))),(15,.d .fz (.i .i64 (k1:Int)))]) (fun k1 s1=>[(2,.row .fz 1 (s1.map (A.D.i .i64)))]) (GH.renK hS [(0,0),(1,1),(2,2),(3,3)] 4) (fun k1 sk1 ok1 hr hltk1=>?_) ?_
  ·obtain⟨s1,rfl⟩:∃ y,y=sk1:=⟨_,rfl⟩
   refine AW.seq (AW.regL ?_)
   refine V rfl ?_
   refine AL.nil ?_
   refine AW.seq (AW.cT rfl (dT (ltN hltk1)) ?_)
   refine AW.skip ?_
   refine AW.seq (AW.block (AW.seq (AW.regL ?_)))
   iterate 2 refine V rfl ?_
   refine AL.nil ?_
   refine AW.seq (AW.regL ?_)
   iterate 2 refine V rfl ?_
   refine LE ?_
   refine V rfl ?_
   refine AL.nil ?_
   refine AW.block ?_
   refine AW.rng (.tmp 20 rfl) fun hl2=>?_
   refine bdE hr fun s2 hqq2 hr=>?_
   refine AW.eachN hqq2 4 (fun k2 s2=>[(2,.pb 1 0),(3,.pb 3 0),(4,.d .fz (.i .i64 (k1:Int))),(14,.d .fz (.i .i64 (y1.Rows.length:Int))),(15,.d .fz (.i .i64 (k1:Int))),(20,.d .fz (.i .i64 (s1.length:Int))),(21,.d .fz (.i .i64 (k2:Int)))]) (fun k2 s2=>[(2,.row .fz 1 (s2.map (A.D.i .i64)))]) (GH.renK hS [(0,0),(1,1),(2,2),(3,3)] 4) (fun k2 sk2 ok2 hr hltk2=>?_) ?_
   ·obtain⟨s2,rfl⟩:∃ y,y=sk2:=⟨_,rfl⟩
    refine AW.seq (AW.regL ?_)
    refine V rfl ?_
    refine AL.nil ?_
    refine AW.seq (AW.cT rfl (dT (ltN hltk2)) ?_)
    refine AW.skip ?_
    refine bdE hr fun s3 hqq3 hr=>?_
    refine AW.seq (AW.cut1 4 [(2,.pb 1 0),(3,.pb 3 0),(4,.d .fz (.i .i64 (k1:Int))),(14,.d .fz (.i .i64 (y1.Rows.length:Int))),(15,.d .fz (.i .i64 (k1:Int))),(20,.d .fz (.i .i64 (s1.length:Int))),(21,.d .fz (.i .i64 (k2:Int)))] [(2,.row .fz 1 (s3.map (A.D.i .i64)))] ?_ ?_)
    ·replace hr:=hqq3
     refine AW.block (AW.seq (AW.regL ?_))
     iterate 2 refine V rfl ?_
     refine AL.nil ?_
     refine AW.seq (AW.regL ?_)
     iterate 3 refine V rfl ?_
     refine bdE hr fun x1 hx1 hr=>?_
     refine IE hx1 (Int.natCast_nonneg _) ?_
     refine LP hx1 ?_
     refine V rfl ?_
     refine CIU (Int.natCast_nonneg _) rfl ?_
     refine ggE hr fun g1 hr=>?_
     refine OB _ (z8X g1) ?_
     refine ggE hr fun g2 hr=>?_
     refine OB _ (z8Y g2) ?_
     refine V rfl ?_
     refine AL.nil ?_
     refine ifE hr (fun h2 hr=>?_) fun h2 hr=>?_
     ·refine AW.cT rfl (dT h2) ?_
      refine AW.drawL (h:=?_)
      iterate 3 refine V rfl ?_
      refine IE hx1 (Int.natCast_nonneg _) ?_
      refine LP hx1 ?_
      iterate 3 refine V rfl ?_
      refine bdE hr fun x2 hx2 hr=>?_
      refine IE hx2 (Int.natCast_nonneg _) ?_
      refine LP hx2 ?_
      refine ggE hr fun g3 hr=>?_
      refine OB _ (bOrI g3) ?_
      refine IE hx1 (Int.natCast_nonneg _) ?_
      refine SE ((x1.toNat ||| x2.toNat:Nat):Int) hx1 ?_
      refine AL.nil ?_
      cases hr
      exact GH.renK hS [(0,0),(1,1),(2,2),(3,3)] 4
     ·refine AW.cF rfl (dF h2) ?_
      refine AW.skip ?_
      cases hr
      exact GH.renK hS [(0,0),(1,1),(2,2),(3,3)] 4
    ·refine AW.regL ?_
     refine OB _ (q2c (p:=k2) (q:=1) (q1n (ltN hltk2) hl2.2)) ?_
     refine V rfl ?_
     refine AL.nil ?_
     cases hr
     exact GH.renK hS [(0,0),(1,1),(2,2),(3,3)] 4
   ·refine AW.seq (AW.regL ?_)
    refine V rfl ?_
    refine AL.nil ?_
    refine AW.seq (AW.cF rfl (dF geN) ?_)
    refine AW.exit ?_
    refine AW.regL ?_
    refine OB _ (q2c (p:=k1) (q:=1) (q1n (ltN hltk1) hl1.2)) ?_
    refine V rfl ?_
    refine AL.nil ?_
    cases hr
    exact GH.renK hS [(0,0),(1,1),(2,2),(3,3)] 4
  ·refine AW.seq (AW.regL ?_)
   refine V rfl ?_
   refine AL.nil ?_
   refine AW.seq (AW.cF rfl (dF geN) ?_)
   refine AW.exit ?_
   refine AW.seq (AW.regL ?_)
   refine V rfl ?_
   refine SB ?_
   refine AL.nil ?_
   refine AW.ret ?_
   cases hr
   exact endA.renK [(2,0)] 1 hS
 ·refine AW.cT rfl (bnT h1) ?_
  refine AW.seq (AW.regL ?_)
  refine V rfl ?_
  refine SB ?_
  refine AL.nil ?_
  refine AW.ret ?_
  cases hr
  exact endA.renK [(2,0)] 1 hS
def q4J (a0:Grammar)(a1:Rule):Nat→Relation→(Int × (List Int))→Option ((Int × (List Int)) ⊕ Relation):=fun k1 xk1 (s1,s2)=>
 (a1.Right[k1]?).bind fun x1=>
 (q1H a0 x1).bind fun y3=>
 if xk1.N=(y3.length:Int) then (
 (q8E a0 a1 (⟨s1,s2⟩:Relation) ((k1+1:Nat):Int) xk1).bind fun y4=>
 some (.inl (y4.N,y4.Rows))
 ) else (
 some (.inr (⟨0,[]⟩:Relation))
 )
def q2C (a0:Grammar)(a1:Rule)(a2:(List Relation)):Option Relation:=
 if (a2.length:Int)=(a1.Right.length:Int) then (
 (q1Q a0 a1).bind fun y1=>
 if 16 < (y1.length:Int) then (
 some (⟨0,[]⟩:Relation)
 ) else (
 (q2Y a0 a1).bind fun y2=>
 (findL (q4J a0 a1) 0 a2 (y2.N,y2.Rows)).bind <| onr (fun r1=>some r1) fun (s1,s2)=>
 (q3O (⟨s1,s2⟩:Relation)).bind fun y5=>
 some y5
 )
 ) else (
 some (⟨0,[]⟩:Relation)
 )
theorem q5Z {m:Md}{a0:Grammar}{a1:Rule}{a2:(List Relation)}{r:Relation}(hr:q2C a0 a1 a2=some r):Ok Tryz.prog 6 [Grammar.y m a0,Rule.x m a1,.d m (.sl 2 (a2.map Relation.D))] [] (.ag [.d .fz (.i .i64 r.N),.ref 0 none]) [.row .fz 1 (r.Rows.map (A.D.i .i64))]:=by
 refine Ok.enter rfl Tryz.func6 rfl rfl rfl fun S hS=>?_
 unfold q2C at hr
 refine AW.seq (AW.regL ?_)
 refine BX 0 ?_
 refine BX 1 ?_
 refine NV 2 ?_
 refine AL.nil ?_
 refine AW.seq (AW.seq (AW.regL ?_))
 refine V rfl ?_
 refine LF ?_
 iterate 2 refine V rfl ?_
 refine LF ?_
 refine V rfl ?_
 refine ifE hr (fun h1 hr=>?_) fun h1 hr=>?_
 ·refine VF rfl (nF h1) ?_
  iterate 2 refine V rfl ?_
  refine bdE hr fun y1 hy1 hr=>?_
  refine CB [(0,3)] [] (q4Y (m:=m) hy1) ?_
  refine LE ?_
  iterate 2 refine V rfl ?_
  refine AL.nil ?_
  refine ifE hr (fun h2 hr=>?_) fun h2 hr=>?_
  ·refine AW.cT rfl (dT h2) ?_
   refine AW.seq (AW.regL ?_)
   refine V rfl ?_
   refine SB ?_
   refine AL.nil ?_
   refine AW.ret ?_
   refine endA.gh (GH.nlB (q:=2) (c:=1) (r:=4) .fz 1 rfl rfl rfl) ?_
   cases hr
   exact endA.renK [(4,0)] 1 hS
  ·refine AW.cF rfl (dF h2) ?_
   refine AW.skip ?_
   refine AW.seq (AW.regL ?_)
   iterate 2 refine V rfl ?_
   refine bdE hr fun y2 hy2 hr=>?_
   refine CB [(0,4)] [] (q9c (m:=m) hy2) ?_
   refine NV 5 ?_
   refine SB ?_
   refine AL.nil ?_
   refine AW.seq (AW.seq (AW.regL ?_))
   refine V rfl ?_
   refine LF ?_
   refine V rfl ?_
   refine AL.nil ?_
   refine AW.block ?_
   refine AW.fz 4 rfl ?_
   refine AW.len (.tmp 2 rfl) fun hl1=>?_
   refine bdE hr fun q1 hqq1 hr=>?_
   refine AW.findL hqq1 hl1 6 (fun k1 (s1,s2)=>[(3,.pb 0 0),(4,.pb 1 0),(6,.pb 2 0),(7,.pb 5 0),(27,.d m (.sl 2 (a2.map Relation.D))),(28,.d .fz (.i .i64 (a2.length:Int))),(29,.d .fz (.i .i64 (k1:Int)))]) (fun k1 (s1,s2)=>[(4,.none),(5,.box [.d .fz (.i .i64 s1),.d m (.sl 1 (s2.map (A.D.i .i64)))])]) (GH.trans (GH.bw (q:=0) [.d m (.sl 2 (a0.Symbols.map Symbol.D)),.u] (.cons .rfl (.cons .u .nil)) rfl) (GH.trans (GH.bw (q:=5) [.d .fz (.i .i64 y2.N),.d m (.sl 1 (y2.Rows.map (A.D.i .i64)))] (.cons .rfl (.cons (.md rfl) .nil)) rfl) (GH.renK hS [(0,0),(1,1),(2,2),(3,3),(5,5)] 6))) (fun k1 xk1 sk1 ok1 hxk1 hr hltk1 hik1=>?_) fun k1 sk1 ek1 hltk1=>?_
   ·obtain⟨s1,s2⟩:=sk1
    refine AW.seq (AW.regL ?_)
    refine V rfl ?_
    refine AL.nil ?_
    refine AW.seq (AW.cT rfl (dT hltk1) ?_)
    refine AW.skip ?_
    refine AW.seq (AW.block (AW.seq (AW.regL ?_)))
    refine V rfl ?_
    refine IF (Int.natCast_nonneg _) hxk1 ?_
    refine V rfl ?_
    refine NV 6 ?_
    refine V rfl ?_
    refine SB ?_
    refine AL.nil ?_
    refine AW.seq (AW.seq (AW.drawL (h:=?_)))
    iterate 6 refine V rfl ?_
    refine bdE hr fun x1 hx1 hr=>?_
    refine IF (Int.natCast_nonneg _) hx1 ?_
    refine V rfl ?_
    refine bdE hr fun y3 hy3 hr=>?_
    refine CB [(0,7)] [] (q4o (m:=m) hy3) ?_
    refine LE ?_
    refine V rfl ?_
    refine AL.nil ?_
    refine ifE hr (fun h3 hr=>?_) fun h3 hr=>?_
    ·refine AW.cF rfl (nF h3) ?_
     refine AW.skip ?_
     refine AW.regL ?_
     iterate 4 refine V rfl ?_
     refine OB _ (q2c (p:=k1) (q:=1) (q1n hltk1 hl1)) ?_
     refine V rfl ?_
     refine bdE hr fun y4 hy4 hr=>?_
     refine CB [] [] (z7J (m:=m) hy4) ?_
     refine SB ?_
     refine AL.nil ?_
     refine AW.regL ?_
     refine OB _ (q2c (p:=k1) (q:=1) (q1n hltk1 hl1)) ?_
     refine V rfl ?_
     refine AL.nil ?_
     cases hr
     exact⟨_,rfl,GH.trans (GH.bw (q:=0) [.d m (.sl 2 (a0.Symbols.map Symbol.D)),.u] (.cons .rfl (.cons .u .nil)) rfl) (GH.renK hS [(0,0),(1,1),(2,2),(3,3),(5,5)] 6)⟩
    ·refine AW.cT rfl (nT h3) ?_
     refine AW.seq (AW.regL ?_)
     refine V rfl ?_
     refine SB ?_
     refine AL.nil ?_
     refine AW.ret ?_
     refine endA.gh (GH.nlB (q:=2) (c:=1) (r:=8) .fz 1 rfl rfl rfl) ?_
     cases hr
     cases hik1 _ rfl
     rename_i hr
     cases hr
     exact endA.renK [(8,0)] 1 hS
   ·subst ek1
    obtain⟨s1,s2⟩:=sk1
    refine AW.seq (AW.regL ?_)
    refine V rfl ?_
    refine AL.nil ?_
    refine AW.seq (AW.cF rfl (dF hltk1) ?_)
    refine AW.exit ?_
    refine AW.seq (AW.regL ?_)
    refine V rfl ?_
    refine bdE hr fun y5 hy5 hr=>?_
    refine CB [(0,6)] [] (q9d (m:=m) hy5) ?_
    refine SB ?_
    refine AL.nil ?_
    refine AW.ret ?_
    cases hr
    exact endA.renK [(6,0)] 1 hS
 ·refine VT rfl (nT h1) ?_
  refine AL.off ?_
  refine AL.off ?_
  refine AL.off ?_
  refine AL.off ?_
  refine AL.off ?_
  refine V rfl ?_
  refine AL.nil ?_
  refine AW.cT rfl rfl ?_
  refine AW.seq (AW.regL ?_)
  refine V rfl ?_
  refine SB ?_
  refine AL.nil ?_
  refine AW.ret ?_
  refine endA.gh (GH.nlB (q:=2) (c:=1) (r:=3) .fz 1 rfl rfl rfl) ?_
  cases hr
  exact endA.renK [(3,0)] 1 hS
def q6F (s3:Int):Nat→Attribute→((List Occurrence))→Option ((List Occurrence)):=fun k2 xk2 s4=>
 grd (((s4.length:Int)+1)*24≤140737488355328∧(s4.length:Int)+1≤9223372036854775807) <|
 some (s4++[(⟨s3,xk2.Name⟩:Occurrence)])
def q1V (a0:Grammar)(a1:Rule):((List Occurrence) × Int)→Option (((List Occurrence) × Int) ⊕ ((List Occurrence))):=fun (s2,s3)=>
 if s3≤(a1.Right.length:Int) then (
 (q2G a1 s3).bind fun y1=>
 (q1X a0 y1).bind fun y2=>
 (eachL (q6F s3) 0 y2 s2).bind fun s4=>
 grd (I64 (s3+1)) <|
 some (.inl (s4,(s3+1)))
 ) else (
 some (.inr s2)
 )
def q2f (a0:Grammar)(a1:Rule):Option (List Occurrence):=
 (q3j (q1V a0 a1) (([]:List Occurrence),0)).bind fun s1=>
 some s1
theorem q5f {m:Md}{a0:Grammar}{a1:Rule}{r:(List Occurrence)}(hr:q2f a0 a1=some r):Ok Tryz.prog 25 [Grammar.y m a0,Rule.x m a1] [] (.ref 0 none) [.row .fz 2 (r.map Occurrence.D)]:=by
 refine Ok.enter rfl Tryz.func25 rfl rfl rfl fun S hS=>?_
 unfold q2f at hr
 refine AW.seq (AW.regL ?_)
 refine BX 0 ?_
 refine BX 1 ?_
 refine V rfl ?_
 refine AL.nil ?_
 refine AW.seq (AW.regL ?_)
 refine L0 2 Occurrence.D ?_
 refine V rfl ?_
 refine AL.nil ?_
 refine AW.seq (AW.seq (AW.regL ?_))
 refine V rfl ?_
 refine AL.nil ?_
 refine bdE hr fun s1 hqq1 hr=>?_
 refine AW.cut1 3 [(5,.ref 2 none)] [(2,.row .fz 2 (s1.map Occurrence.D))] ?_ ?_
 ·refine AW.block (AW.iter hqq1 3 (fun (s2,s3)=>[(2,.pb 0 0),(3,.pb 1 0),(5,.ref 2 none),(6,.d .fz (.i .i64 s3))]) (fun (s2,s3)=>[(2,.row .fz 2 (s2.map Occurrence.D))]) (GH.trans (GH.bw (q:=0) [.d m (.sl 2 (a0.Symbols.map Symbol.D)),.u] (.cons .rfl (.cons .u .nil)) rfl) (GH.renK hS [(0,0),(1,1),(2,2)] 3)) fun sk1 ok1 hr hik1=>?_)
  obtain⟨s2,s3⟩:=sk1
  have hr:=hr
  refine AW.seq (AW.seq (AW.regL ?_))
  iterate 3 refine V rfl ?_
  refine LF ?_
  refine V rfl ?_
  refine AL.nil ?_
  refine ifE hr (fun h1 hr=>?_) fun h1 hr=>?_
  ·refine AW.cT rfl (dT h1) ?_
   refine AW.skip ?_
   refine AW.seq (AW.block (AW.seq (AW.drawL (h:=?_))))
   iterate 3 refine V rfl ?_
   refine bdE hr fun y1 hy1 hr=>?_
   refine CB [] [] (q6i (m:=m) hy1) ?_
   refine bdE hr fun y2 hy2 hr=>?_
   refine CB [(0,3)] [] (q4m (m:=m) hy2) ?_
   refine V rfl ?_
   refine AL.nil ?_
   refine AW.seq (AW.regL ?_)
   refine V rfl ?_
   refine AL.nil ?_
   refine AW.block ?_
   refine AW.lenR 3 rfl fun hl2=>?_
   refine bdE hr fun s4 hqq2 hr=>?_
   refine AW.eachL hqq2 hl2 4 (fun k2 s4=>[(2,.pb 0 0),(3,.pb 1 0),(5,.ref 2 none),(6,.d .fz (.i .i64 s3)),(7,.ref 3 none),(8,.d .fz (.i .i64 (k2:Int)))]) (fun k2 s4=>[(2,.row .fz 2 (s4.map Occurrence.D))]) (GH.trans (GH.bw (q:=0) [.d m (.sl 2 (a0.Symbols.map Symbol.D)),.u] (.cons .rfl (.cons .u .nil)) rfl) (GH.renK hS [(0,0),(1,1),(2,2),(3,3)] 4)) (fun k2 xk2 sk2 ok2 hxk2 hr hltk2=>?_) fun k2 hltk2=>?_
   ·obtain⟨s4,rfl⟩:∃ y,y=sk2:=⟨_,rfl⟩
    refine AW.seq (AW.seq (AW.regL ?_))
    iterate 2 refine V rfl ?_
    refine LE ?_
    refine V rfl ?_
    refine AL.nil ?_
    refine AW.cT rfl (dT hltk2) ?_
    refine AW.skip ?_
    refine AW.seq (AW.block (AW.regL ?_))
    iterate 4 refine V rfl ?_
    refine IE hxk2 (Int.natCast_nonneg _) ?_
    refine V rfl ?_
    refine LP hxk2 ?_
    refine V rfl ?_
    refine LIR 4 (m:=.fz) (f:=Occurrence.D) (xs:=[(⟨s3,xk2.Name⟩:Occurrence)]) ?_
    refine ggE hr fun g1 hr=>?_
    refine APf1 (f:=Occurrence.D) 5 (fun _=>rfl) 24 g1 ?_
    refine V rfl ?_
    refine AL.nil ?_
    refine AW.regL ?_
    refine V rfl ?_
    refine OB _ (q2c (p:=k2) (q:=1) (q1n hltk2 hl2)) ?_
    refine V rfl ?_
    refine AL.nil ?_
    cases hr
    exact GH.trans (GH.bw (q:=0) [.d m (.sl 2 (a0.Symbols.map Symbol.D)),.u] (.cons .rfl (.cons .u .nil)) rfl) (GH.renK hS [(0,0),(1,1),(5,2),(3,3)] 4)
   ·refine AW.seq (AW.seq (AW.regL ?_))
    iterate 2 refine V rfl ?_
    refine LE ?_
    refine V rfl ?_
    refine AL.nil ?_
    refine AW.cF rfl (dF hltk2) ?_
    refine AW.exit ?_
    refine AW.regL ?_
    refine V rfl ?_
    refine ggE hr fun g2 hr=>?_
    refine OB _ (bAdd g2) ?_
    refine V rfl ?_
    refine AL.nil ?_
    cases hr
    exact⟨_,rfl,GH.trans (GH.bw (q:=0) [.d m (.sl 2 (a0.Symbols.map Symbol.D)),.u] (.cons .rfl (.cons .u .nil)) rfl) (GH.renK hS [(0,0),(1,1),(2,2)] 3)⟩
  ·refine AW.cF rfl (dF h1) ?_
   refine AW.exit ?_
   cases hr
   cases hik1 _ rfl
   exact GH.trans (GH.bw (q:=0) [.d m (.sl 2 (a0.Symbols.map Symbol.D)),.u] (.cons .rfl (.cons .u .nil)) rfl) (GH.renK hS [(0,0),(1,1),(2,2)] 3)
 ·refine AW.seq (AW.regL ?_)
  iterate 2 refine V rfl ?_
  refine AL.nil ?_
  refine AW.ret ?_
  cases hr
  exact endA.renK [(2,0)] 1 hS
def q5G (rec_sl4Copy:Expr→Option Expr):Nat→Expr→((List Expr))→Option ((List Expr)):=fun k1 xk1 s1=>
 (rec_sl4Copy xk1).bind fun y1=>
 grd (((s1.length:Int)+1)*88≤140737488355328∧(s1.length:Int)+1≤9223372036854775807) <|
 some (s1++[y1])
def q4K (rec_sl4Copy:Expr→Option Expr)(a0:Expr):Option Expr:=
 (eachL (q5G rec_sl4Copy) 0 a0.Args ([]:List Expr)).bind fun s1=>
 some (⟨a0.Kind,a0.N,a0.Pos,a0.Type_,a0.Symbol,a0.Name,s1⟩:Expr)
theorem z4M {rec_sl4Copy:Expr→Option Expr}(ih_sl4Copy:∀ {m:Md} {a0:Expr} {r:Expr},rec_sl4Copy a0=some r→Ok Tryz.prog 55 [Expr.x m a0] [] (.ag [.d .fz (.i .i64 r.Kind),.d .fz (.i .i64 r.N),.d .fz (.i .i64 r.Pos),.d .fz (.i .i64 r.Type_),.d .fz (.s r.Symbol),.d .fz (.s r.Name),.ref 0 none]) [.row .fz 7 (r.Args.map Expr.D)]){m:Md}{a0:Expr}{r:Expr}(hr:q4K rec_sl4Copy a0=some r):Ok Tryz.prog 55 [Expr.x m a0] [] (.ag [.d .fz (.i .i64 r.Kind),.d .fz (.i .i64 r.N),.d .fz (.i .i64 r.Pos),.d .fz (.i .i64 r.Type_),.d .fz (.s r.Symbol),.d .fz (.s r.Name),.ref 0 none]) [.row .fz 7 (r.Args.map Expr.D)]:=by
 refine Ok.enter rfl Tryz.func55 rfl rfl rfl fun S hS=>?_
 unfold q4K at hr
 refine AW.seq (AW.regL ?_)
 refine BX 0 ?_
 refine NV 1 ?_
 refine AL.nil ?_
 refine AW.seq (AW.regL ?_)
 refine L0 2 Expr.D ?_
 refine V rfl ?_
 refine AL.nil ?_
 refine AW.seq (AW.seq (AW.regL ?_))
 refine V rfl ?_
 refine AL.nil ?_
 refine AW.block ?_
 refine AW.len (.ag 6 (.tmp 0 rfl) rfl) fun hl1=>?_
 refine bdE hr fun s1 hqq1 hr=>?_
 refine AW.eachL hqq1 hl1 3 (fun k1 s1=>[(1,.pb 0 0),(2,.pb 1 0),(3,.ref 2 none),(4,.d .fz (.i .i64 (k1:Int)))]) (fun k1 s1=>[(2,.row .fz 7 (s1.map Expr.D))]) (GH.renK hS [(0,0),(1,1),(2,2)] 3) (fun k1 xk1 sk1 ok1 hxk1 hr hltk1=>?_) fun k1 hltk1=>?_
 ·obtain⟨s1,rfl⟩:∃ y,y=sk1:=⟨_,rfl⟩
  refine AW.seq (AW.seq (AW.regL ?_))
  iterate 3 refine V rfl ?_
  refine LF ?_
  refine V rfl ?_
  refine AL.nil ?_
  refine AW.cT rfl (dT hltk1) ?_
  refine AW.skip ?_
  refine AW.seq (AW.block (AW.regL ?_))
  iterate 4 refine V rfl ?_
  refine IFq (Int.natCast_nonneg _) hxk1 (Expr.D_cells xk1) ?_
  refine V rfl ?_
  refine bdE hr fun y1 hy1 hr=>?_
  refine CB [(0,3)] [] (ih_sl4Copy (m:=m) hy1) ?_
  refine AL.fz 3 rfl ?_
  refine LIRq 4 (m:=.fz) (f:=Expr.D) [y1] (by simp only [List.map_cons,List.map_nil,Expr.D_eq]; rfl) ?_
  refine ggE hr fun g1 hr=>?_
  refine AP1 5 .fz 88 g1 ?_
  refine V rfl ?_
  refine AL.nil ?_
  refine AW.regL ?_
  refine V rfl ?_
  refine OB _ (q2c (p:=k1) (q:=1) (q1n hltk1 hl1)) ?_
  refine V rfl ?_
  refine AL.nil ?_
  cases hr
  exact GH.renK hS [(0,0),(1,1),(5,2)] 3
 ·refine AW.seq (AW.seq (AW.regL ?_))
  iterate 3 refine V rfl ?_
  refine LF ?_
  refine V rfl ?_
  refine AL.nil ?_
  refine AW.cF rfl (dF hltk1) ?_
  refine AW.exit ?_
  refine AW.seq (AW.regL ?_)
  iterate 2 refine V rfl ?_
  refine SB ?_
  refine AL.nil ?_
  refine AW.seq (AW.regL ?_)
  refine V rfl ?_
  refine SB ?_
  refine AL.nil ?_
  refine AW.ret ?_
  cases hr
  exact endA.renK [(2,0)] 1 hS
def q2S:Nat→Expr→Option Expr
  | 0,_=>none
  | n+1,a0=>q4K (q2S n) a0
def q8F (a0:Expr):Option Expr:=recO fun n=>q2S n a0
theorem z4N (n:Nat):∀ {m:Md} {a0:Expr} {r:Expr},q2S n a0=some r→Ok Tryz.prog 55 [Expr.x m a0] [] (.ag [.d .fz (.i .i64 r.Kind),.d .fz (.i .i64 r.N),.d .fz (.i .i64 r.Pos),.d .fz (.i .i64 r.Type_),.d .fz (.s r.Symbol),.d .fz (.s r.Name),.ref 0 none]) [.row .fz 7 (r.Args.map Expr.D)]:=by
  induction n with
  | zero=>intro _ _ r hr; exact nomatch (show (none:Option Expr)=some r from hr)
  | succ n ih=>intro _ _ r hr; exact z4M ih hr
theorem z6D {m:Md}{a0:Expr}{r:Expr}(hr:q8F a0=some r):Ok Tryz.prog 55 [Expr.x m a0] [] (.ag [.d .fz (.i .i64 r.Kind),.d .fz (.i .i64 r.N),.d .fz (.i .i64 r.Pos),.d .fz (.i .i64 r.Type_),.d .fz (.s r.Symbol),.d .fz (.s r.Name),.ref 0 none]) [.row .fz 7 (r.Args.map Expr.D)]:=by
  obtain⟨n,hn⟩:=q4g hr
  exact z4N n hn
def q2Z (a1:Occurrence):Nat→Equation→Unit→Option (Unit ⊕ (Expr × Bool)):=fun k1 xk1 _=>
 if xk1.At=a1 then (
 (q8F xk1.Expr).bind fun y1=>
 some (.inr (y1,true))
 ) else (
 some (.inl ())
 )
def q2q (a0:Rule)(a1:Occurrence):Option (Expr × Bool):=
 (findL (q2Z a1) 0 a0.Equations ()).bind <| onr (fun r1=>some r1) fun _=>
 some ((⟨0,0,0,0,(⟨#[]⟩:ByteArray),(⟨#[]⟩:ByteArray),[]⟩:Expr),false)
theorem q9I {m:Md}{a0:Rule}{a1:Occurrence}{r:(Expr × Bool)}(hr:q2q a0 a1=some r):Ok Tryz.prog 37 [Rule.x m a0,Occurrence.x .fz a1] [] (.tu [.ag [.d .fz (.i .i64 r.1.Kind),.d .fz (.i .i64 r.1.N),.d .fz (.i .i64 r.1.Pos),.d .fz (.i .i64 r.1.Type_),.d .fz (.s r.1.Symbol),.d .fz (.s r.1.Name),.ref 0 none],.d .fz (.b r.2)]) [.row .fz 7 (r.1.Args.map Expr.D)]:=by
 refine Ok.enter rfl Tryz.func37 rfl rfl rfl fun S hS=>?_
 unfold q2q at hr
 refine AW.seq (AW.regL ?_)
 refine BX 0 ?_
 refine BX 1 ?_
 refine NV 2 ?_
 refine V rfl ?_
 refine AL.nil ?_
 refine AW.seq (AW.seq (AW.regL ?_))
 refine V rfl ?_
 refine AL.nil ?_
 refine AW.block ?_
 refine AW.len (.ag 4 (.tmp 0 rfl) rfl) fun hl1=>?_
 refine bdE hr fun q1 hqq1 hr=>?_
 refine AW.findL hqq1 hl1 3 (fun k1 _=>[(2,.pb 0 0),(3,.pb 1 0),(4,.pb 2 0),(6,.d .fz (.i .i64 (k1:Int)))]) (fun k1 _=>[]) (GH.renK hS [(0,0),(1,1),(2,2)] 3) (fun k1 xk1 sk1 ok1 hxk1 hr hltk1 hik1=>?_) fun k1 sk1 ek1 hltk1=>?_
 ·refine AW.seq (AW.seq (AW.regL ?_))
  iterate 3 refine V rfl ?_
  refine LF ?_
  refine V rfl ?_
  refine AL.nil ?_
  refine AW.cT rfl (dT hltk1) ?_
  refine AW.skip ?_
  refine AW.seq (AW.block (AW.seq (AW.drawL (h:=?_))))
  iterate 3 refine V rfl ?_
  refine IF (Int.natCast_nonneg _) hxk1 ?_
  iterate 3 refine V rfl ?_
  refine SQ rfl rfl rfl rfl (q3k xk1.At a1) ?_
  refine AL.nil ?_
  refine ifE hr (fun h1 hr=>?_) fun h1 hr=>?_
  ·refine AW.cT rfl (dT h1) ?_
   refine AW.seq (AW.regL ?_)
   iterate 3 refine V rfl ?_
   refine IF (Int.natCast_nonneg _) hxk1 ?_
   iterate 2 refine V rfl ?_
   refine bdE hr fun y1 hy1 hr=>?_
   refine CB [(0,3)] [] (z6D (m:=m) hy1) ?_
   refine SB ?_
   refine V rfl ?_
   refine AL.nil ?_
   refine AW.ret ?_
   cases hr
   cases hik1 _ rfl
   rename_i hr
   cases hr
   exact endA.renK [(3,0)] 1 hS
  ·refine AW.cF rfl (dF h1) ?_
   refine AW.skip ?_
   refine AW.regL ?_
   refine V rfl ?_
   refine OB _ (q2c (p:=k1) (q:=1) (q1n hltk1 hl1)) ?_
   refine V rfl ?_
   refine AL.nil ?_
   cases hr
   exact⟨_,rfl,GH.renK hS [(0,0),(1,1),(2,2)] 3⟩
 ·subst ek1
  refine AW.seq (AW.seq (AW.regL ?_))
  iterate 3 refine V rfl ?_
  refine LF ?_
  refine V rfl ?_
  refine AL.nil ?_
  refine AW.cF rfl (dF hltk1) ?_
  refine AW.exit ?_
  refine AW.seq (AW.regL ?_)
  refine V rfl ?_
  refine SB ?_
  refine V rfl ?_
  refine AL.nil ?_
  refine AW.ret ?_
  refine endA.gh (GH.nlB (q:=2) (c:=6) (r:=3) .fz 7 rfl rfl rfl) ?_
  cases hr
  exact endA.renK [(3,0)] 1 hS
def q6a (a0:Occurrence)(a1:Occurrence):Option Bool:=
 (
 if a0.Pos < a1.Pos then (
 some true
 ) else (
 (
 if a0.Pos=a1.Pos then (
 some (Op.bytesLess a0.Name.toList a1.Name.toList)
 ) else (
 some false
 )
 ).bind fun s2=>
 some s2
 )
 ).bind fun s1=>
 some s1
theorem z3I {a0:Occurrence}{a1:Occurrence}{r:Bool}(hr:q6a a0 a1=some r):Ok Tryz.prog 95 [Occurrence.x .fz a0,Occurrence.x .fz a1] [] (.d .fz (.b r)) []:=by
 refine Ok.enter rfl Tryz.func95 rfl rfl rfl fun S hS=>?_
 unfold q6a at hr
 refine AW.seq (AW.regL ?_)
 refine BX 0 ?_
 refine BX 1 ?_
 refine V rfl ?_
 refine AL.nil ?_
 refine AW.seq (AW.regL ?_)
 iterate 5 refine V rfl ?_
 refine bdE hr fun s1 hqq1 hr=>?_
 refine AL.meet1 14 [(4,.d .fz (.b false)),(23,.d .fz (.b s1))] ?_ ?_
 ·replace hr:=hqq1
  refine ifE hr (fun h1 hr=>?_) fun h1 hr=>?_
  ·refine VT rfl (dT h1) ?_
   refine AL.off ?_
   refine AL.off ?_
   refine AL.off ?_
   refine AL.off ?_
   refine AL.off ?_
   refine AL.off ?_
   refine AL.off ?_
   refine AL.off ?_
   refine AL.off ?_
   refine AL.off ?_
   refine AL.off ?_
   refine AL.off ?_
   refine V rfl ?_
   refine AL.nil ?_
   cases hr
   exact q1u
  ·refine VF rfl (dF h1) ?_
   iterate 5 refine V rfl ?_
   refine bdE hr fun s2 hqq2 hr=>?_
   refine AL.meet1 7 [(4,.d .fz (.b false)),(10,.d .fz (.b false)),(22,.d .fz (.b s2))] ?_ ?_
   ·replace hr:=hqq2
    refine ifE hr (fun h2 hr=>?_) fun h2 hr=>?_
    ·refine VT rfl (dT h2) ?_
     iterate 6 refine V rfl ?_
     refine AL.nil ?_
     cases hr
     exact q1u
    ·refine VF rfl (dF h2) ?_
     refine AL.off ?_
     refine AL.off ?_
     refine AL.off ?_
     refine AL.off ?_
     refine AL.off ?_
     refine V rfl ?_
     refine AL.nil ?_
     cases hr
     exact q1u
   ·refine V rfl ?_
    refine AL.nil ?_
    cases hr
    exact q1u
 ·refine V rfl ?_
  refine AL.nil ?_
  refine AW.ret ?_
  cases hr
  exact endA.renK [] 0 hS
def q6b (a0:(List Occurrence))(a1:Occurrence):Int→Option (Int ⊕ Int):=fun s2=>
 if s2 < (a0.length:Int) then (
 grd (0≤s2) <|
 (a0[s2.toNat]?).bind fun x1=>
 (q6a x1 a1).bind fun y1=>
 if y1=true then (
 grd (I64 (s2+1)) <|
 some (.inl (s2+1))
 ) else (
 some (.inr s2)
 )
 ) else (
 some (.inr s2)
 )
def q8G (a0:(List Occurrence))(a1:Occurrence):Option (List Occurrence):=
 (q3j (q6b a0 a1) 0).bind fun s1=>
 if s1 < (a0.length:Int) then (
 grd (0≤s1) <|
 (a0[s1.toNat]?).bind fun x2=>
 if x2=a1 then (
 some a0
 ) else (
 grd (0≤s1) <|
 grd (s1.toNat≤a0.length) <|
 grd (((([]:List Occurrence).length:Int)+((a0.take s1.toNat).length:Int))*24≤140737488355328∧(([]:List Occurrence).length:Int)+((a0.take s1.toNat).length:Int)≤9223372036854775807) <|
 grd ((((a0.take s1.toNat).length:Int)+1)*24≤140737488355328∧((a0.take s1.toNat).length:Int)+1≤9223372036854775807) <|
 grd (0≤s1) <|
 grd (s1.toNat≤a0.length) <|
 grd (((((a0.take s1.toNat)++[a1]).length:Int)+((a0.drop s1.toNat).length:Int))*24≤140737488355328∧(((a0.take s1.toNat)++[a1]).length:Int)+((a0.drop s1.toNat).length:Int)≤9223372036854775807) <|
 some (((a0.take s1.toNat)++[a1])++(a0.drop s1.toNat))
 )
 ) else (
 grd (0≤s1) <|
 grd (s1.toNat≤a0.length) <|
 grd (((([]:List Occurrence).length:Int)+((a0.take s1.toNat).length:Int))*24≤140737488355328∧(([]:List Occurrence).length:Int)+((a0.take s1.toNat).length:Int)≤9223372036854775807) <|
 grd ((((a0.take s1.toNat).length:Int)+1)*24≤140737488355328∧((a0.take s1.toNat).length:Int)+1≤9223372036854775807) <|
 grd (0≤s1) <|
 grd (s1.toNat≤a0.length) <|
 grd (((((a0.take s1.toNat)++[a1]).length:Int)+((a0.drop s1.toNat).length:Int))*24≤140737488355328∧(((a0.take s1.toNat)++[a1]).length:Int)+((a0.drop s1.toNat).length:Int)≤9223372036854775807) <|
 some (((a0.take s1.toNat)++[a1])++(a0.drop s1.toNat))
 )
theorem z7K {m:Md}{a0:(List Occurrence)}{a1:Occurrence}{r:(List Occurrence)}(hr:q8G a0 a1=some r):Ok Tryz.prog 75 [.d m (.sl 2 (a0.map Occurrence.D)),Occurrence.x .fz a1] [] (.d m (.sl 2 (r.map Occurrence.D))) []:=by
 refine Ok.enter rfl Tryz.func75 rfl rfl rfl fun S hS=>?_
 unfold q8G at hr
 refine AW.seq (AW.regL ?_)
 refine BX 0 ?_
 refine V rfl ?_
 refine AL.nil ?_
 refine AW.seq (AW.regL ?_)
 refine V rfl ?_
 refine AL.nil ?_
 refine bdE hr fun s1 hqq1 hr=>?_
 refine AW.seq (AW.cut1 1 [(0,.d m (.sl 2 (a0.map Occurrence.D))),(3,.pb 0 0),(5,.d .fz (.i .i64 s1))] [] ?_ ?_)
 ·refine AW.block (AW.iter hqq1 1 (fun s2=>[(0,.d m (.sl 2 (a0.map Occurrence.D))),(3,.pb 0 0),(5,.d .fz (.i .i64 s2))]) (fun s2=>[]) (GH.renK hS [(0,0)] 1) fun sk1 ok1 hr hik1=>?_)
  obtain⟨s2,rfl⟩:∃ y,y=sk1:=⟨_,rfl⟩
  have hr:=hr
  refine AW.seq (AW.seq (AW.drawL (h:=?_)))
  iterate 2 refine V rfl ?_
  refine LF ?_
  refine V rfl ?_
  refine ifE hr (fun h1 hr=>?_) fun h1 hr=>?_
  ·refine VT rfl (dT h1) ?_
   iterate 2 refine V rfl ?_
   refine ggE hr fun g1 hr=>?_
   refine bdE hr fun x1 hx1 hr=>?_
   refine IF g1 hx1 ?_
   iterate 2 refine V rfl ?_
   refine bdE hr fun y1 hy1 hr=>?_
   refine CB [] [] (z3I hy1) ?_
   refine V rfl ?_
   refine AL.nil ?_
   refine ifE hr (fun h2 hr=>?_) fun h2 hr=>?_
   ·refine AW.cT rfl h2 ?_
    refine AW.skip ?_
    refine AW.block (AW.regL ?_)
    refine V rfl ?_
    refine ggE hr fun g2 hr=>?_
    refine OB _ (bAdd g2) ?_
    refine V rfl ?_
    refine AL.nil ?_
    cases hr
    exact⟨_,rfl,GH.renK hS [(0,0)] 1⟩
   ·refine AW.cF rfl (bF h2) ?_
    refine AW.exit ?_
    cases hr
    cases hik1 _ rfl
    exact GH.renK hS [(0,0)] 1
  ·refine VF rfl (dF h1) ?_
   refine AL.off ?_
   refine AL.off ?_
   refine AL.off ?_
   refine AL.off ?_
   refine AL.off ?_
   refine AL.off ?_
   refine V rfl ?_
   refine AL.nil ?_
   refine AW.cF rfl rfl ?_
   refine AW.exit ?_
   cases hr
   cases hik1 _ rfl
   exact GH.renK hS [(0,0)] 1
 ·refine AW.seq (AW.seq (AW.drawL (h:=?_)))
  iterate 2 refine V rfl ?_
  refine LF ?_
  refine V rfl ?_
  refine ifE hr (fun h3 hr=>?_) fun h3 hr=>?_
  ·refine VT rfl (dT h3) ?_
   iterate 2 refine V rfl ?_
   refine ggE hr fun g3 hr=>?_
   refine bdE hr fun x2 hx2 hr=>?_
   refine IF g3 hx2 ?_
   iterate 2 refine V rfl ?_
   refine SQ rfl rfl rfl rfl (q3k x2 a1) ?_
   refine V rfl ?_
   refine AL.nil ?_
   refine ifE hr (fun h4 hr=>?_) fun h4 hr=>?_
   ·refine AW.cT rfl (dT h4) ?_
    refine AW.seq (AW.regL ?_)
    iterate 2 refine V rfl ?_
    refine AL.nil ?_
    refine AW.ret ?_
    cases hr
    exact endA.renK [] 0 hS
   ·refine AW.cF rfl (dF h4) ?_
    refine AW.skip ?_
    refine AW.seq (AW.regL ?_)
    refine L0 1 Occurrence.D ?_
    iterate 2 refine V rfl ?_
    refine ggE hr fun g4 hr=>?_
    refine ggE hr fun g5 hr=>?_
    refine SLH g4 g5 ?_
    refine ggE hr fun g6 hr=>?_
    refine APfB (f:=Occurrence.D) 2 24 (fun _=>rfl) g6 ?_
    refine V rfl ?_
    refine AL.nil ?_
    refine AW.seq (AW.regL ?_)
    iterate 2 refine V rfl ?_
    refine LIR 3 (m:=.fz) (f:=Occurrence.D) (xs:=[a1]) ?_
    refine ggE hr fun g7 hr=>?_
    refine APf1 (f:=Occurrence.D) 4 (fun _=>rfl) 24 g7 ?_
    refine V rfl ?_
    refine AL.nil ?_
    refine AW.seq (AW.regL ?_)
    iterate 3 refine V rfl ?_
    refine ggE hr fun g8 hr=>?_
    refine ggE hr fun g9 hr=>?_
    refine SLL g8 g9 ?_
    refine ggE hr fun g10 hr=>?_
    refine APfB (f:=Occurrence.D) 5 24 (fun _=>rfl) g10 ?_
    refine V rfl ?_
    refine AL.nil ?_
    refine AW.ret ?_
    refine endA.gh (GH.freeze (r:=5) rfl) ?_
    cases hr
    exact endA.ren [] 0 (.inr rfl) hS rfl rfl rfl (.md rfl) rfl rfl
  ·refine VF rfl (dF h3) ?_
   refine AL.off ?_
   refine AL.off ?_
   refine AL.off ?_
   refine AL.off ?_
   refine AL.off ?_
   refine AL.off ?_
   refine V rfl ?_
   refine AL.nil ?_
   refine AW.cF rfl rfl ?_
   refine AW.skip ?_
   refine AW.seq (AW.regL ?_)
   refine L0 1 Occurrence.D ?_
   iterate 2 refine V rfl ?_
   refine ggE hr fun g11 hr=>?_
   refine ggE hr fun g12 hr=>?_
   refine SLH g11 g12 ?_
   refine ggE hr fun g13 hr=>?_
   refine APfB (f:=Occurrence.D) 2 24 (fun _=>rfl) g13 ?_
   refine V rfl ?_
   refine AL.nil ?_
   refine AW.seq (AW.regL ?_)
   iterate 2 refine V rfl ?_
   refine LIR 3 (m:=.fz) (f:=Occurrence.D) (xs:=[a1]) ?_
   refine ggE hr fun g14 hr=>?_
   refine APf1 (f:=Occurrence.D) 4 (fun _=>rfl) 24 g14 ?_
   refine V rfl ?_
   refine AL.nil ?_
   refine AW.seq (AW.regL ?_)
   iterate 3 refine V rfl ?_
   refine ggE hr fun g15 hr=>?_
   refine ggE hr fun g16 hr=>?_
   refine SLL g15 g16 ?_
   refine ggE hr fun g17 hr=>?_
   refine APfB (f:=Occurrence.D) 5 24 (fun _=>rfl) g17 ?_
   refine V rfl ?_
   refine AL.nil ?_
   refine AW.ret ?_
   refine endA.gh (GH.freeze (r:=5) rfl) ?_
   cases hr
   exact endA.ren [] 0 (.inr rfl) hS rfl rfl rfl (.md rfl) rfl rfl
def q5H (rec_sl4Uses:Expr→(List Occurrence)→Option (List Occurrence)):Nat→Expr→((List Occurrence))→Option ((List Occurrence)):=fun k1 xk1 s1=>
 (rec_sl4Uses xk1 s1).bind fun y2=>
 some y2
def q9e (rec_sl4Uses:Expr→(List Occurrence)→Option (List Occurrence)):Nat→Expr→((List Occurrence))→Option ((List Occurrence)):=fun k2 xk2 s2=>
 (rec_sl4Uses xk2 s2).bind fun y3=>
 some y3
def q5r (rec_sl4Uses:Expr→(List Occurrence)→Option (List Occurrence))(a0:Expr)(a1:(List Occurrence)):Option (List Occurrence):=
 if a0.Kind=3 then (
 (q8G a1 (⟨a0.Pos,a0.Name⟩:Occurrence)).bind fun y1=>
 (eachL (q5H rec_sl4Uses) 0 a0.Args y1).bind fun s1=>
 some s1
 ) else (
 (eachL (q9e rec_sl4Uses) 0 a0.Args a1).bind fun s2=>
 some s2
 )
theorem z4O {rec_sl4Uses:Expr→(List Occurrence)→Option (List Occurrence)}(ih_sl4Uses:∀ {m:Md} {a0:Expr} {a1:(List Occurrence)} {r:(List Occurrence)},rec_sl4Uses a0 a1=some r→Ok Tryz.prog 56 [Expr.x m a0,.d m (.sl 2 (a1.map Occurrence.D))] [] (.d m (.sl 2 (r.map Occurrence.D))) []){m:Md}{a0:Expr}{a1:(List Occurrence)}{r:(List Occurrence)}(hr:q5r rec_sl4Uses a0 a1=some r):Ok Tryz.prog 56 [Expr.x m a0,.d m (.sl 2 (a1.map Occurrence.D))] [] (.d m (.sl 2 (r.map Occurrence.D))) []:=by
 refine Ok.enter rfl Tryz.func56 rfl rfl rfl fun S hS=>?_
 unfold q5r at hr
 refine AW.seq (AW.regL ?_)
 refine BX 0 ?_
 refine V rfl ?_
 refine AL.nil ?_
 refine AW.seq (AW.seq (AW.regL ?_))
 iterate 3 refine V rfl ?_
 refine AL.nil ?_
 refine ifE hr (fun h1 hr=>?_) fun h1 hr=>?_
 ·refine AW.cT rfl (dT h1) ?_
  refine AW.regL ?_
  iterate 6 refine V rfl ?_
  refine bdE hr fun y1 hy1 hr=>?_
  refine CB [] [] (z7K (m:=m) hy1) ?_
  refine V rfl ?_
  refine AL.nil ?_
  refine AW.seq (AW.seq (AW.regL ?_))
  refine V rfl ?_
  refine AL.nil ?_
  refine AW.block ?_
  refine AW.len (.ag 6 (.tmp 0 rfl) rfl) fun hl1=>?_
  refine bdE hr fun s1 hqq1 hr=>?_
  refine AW.eachL hqq1 hl1 1 (fun k1 s1=>[(1,.d m (.sl 2 (s1.map Occurrence.D))),(2,.pb 0 0),(5,.d .fz (.i .i64 (k1:Int)))]) (fun k1 s1=>[]) (GH.renK hS [(0,0)] 1) (fun k1 xk1 sk1 ok1 hxk1 hr hltk1=>?_) fun k1 hltk1=>?_
  ·obtain⟨s1,rfl⟩:∃ y,y=sk1:=⟨_,rfl⟩
   refine AW.seq (AW.seq (AW.regL ?_))
   iterate 3 refine V rfl ?_
   refine LF ?_
   refine V rfl ?_
   refine AL.nil ?_
   refine AW.cT rfl (dT hltk1) ?_
   refine AW.skip ?_
   refine AW.seq (AW.block (AW.regL ?_))
   iterate 3 refine V rfl ?_
   refine IFq (Int.natCast_nonneg _) hxk1 (Expr.D_cells xk1) ?_
   iterate 2 refine V rfl ?_
   refine bdE hr fun y2 hy2 hr=>?_
   refine CB [] [] (ih_sl4Uses (m:=m) hy2) ?_
   refine V rfl ?_
   refine AL.nil ?_
   refine AW.regL ?_
   refine V rfl ?_
   refine OB _ (q2c (p:=k1) (q:=1) (q1n hltk1 hl1)) ?_
   refine V rfl ?_
   refine AL.nil ?_
   cases hr
   exact GH.renK hS [(0,0)] 1
  ·refine AW.seq (AW.seq (AW.regL ?_))
   iterate 3 refine V rfl ?_
   refine LF ?_
   refine V rfl ?_
   refine AL.nil ?_
   refine AW.cF rfl (dF hltk1) ?_
   refine AW.exit ?_
   refine AW.seq (AW.regL ?_)
   iterate 2 refine V rfl ?_
   refine AL.nil ?_
   refine AW.ret ?_
   cases hr
   exact endA.renK [] 0 hS
 ·refine AW.cF rfl (dF h1) ?_
  refine AW.skip ?_
  refine AW.seq (AW.seq (AW.regL ?_))
  refine V rfl ?_
  refine AL.nil ?_
  refine AW.block ?_
  refine AW.len (.ag 6 (.tmp 0 rfl) rfl) fun hl2=>?_
  refine bdE hr fun s2 hqq2 hr=>?_
  refine AW.eachL hqq2 hl2 1 (fun k2 s2=>[(1,.d m (.sl 2 (s2.map Occurrence.D))),(2,.pb 0 0),(5,.d .fz (.i .i64 (k2:Int)))]) (fun k2 s2=>[]) (GH.renK hS [(0,0)] 1) (fun k2 xk2 sk2 ok2 hxk2 hr hltk2=>?_) fun k2 hltk2=>?_
  ·obtain⟨s2,rfl⟩:∃ y,y=sk2:=⟨_,rfl⟩
   refine AW.seq (AW.seq (AW.regL ?_))
   iterate 3 refine V rfl ?_
   refine LF ?_
   refine V rfl ?_
   refine AL.nil ?_
   refine AW.cT rfl (dT hltk2) ?_
   refine AW.skip ?_
   refine AW.seq (AW.block (AW.regL ?_))
   iterate 3 refine V rfl ?_
   refine IFq (Int.natCast_nonneg _) hxk2 (Expr.D_cells xk2) ?_
   iterate 2 refine V rfl ?_
   refine bdE hr fun y3 hy3 hr=>?_
   refine CB [] [] (ih_sl4Uses (m:=m) hy3) ?_
   refine V rfl ?_
   refine AL.nil ?_
   refine AW.regL ?_
   refine V rfl ?_
   refine OB _ (q2c (p:=k2) (q:=1) (q1n hltk2 hl2)) ?_
   refine V rfl ?_
   refine AL.nil ?_
   cases hr
   exact GH.renK hS [(0,0)] 1
  ·refine AW.seq (AW.seq (AW.regL ?_))
   iterate 3 refine V rfl ?_
   refine LF ?_
   refine V rfl ?_
   refine AL.nil ?_
   refine AW.cF rfl (dF hltk2) ?_
   refine AW.exit ?_
   refine AW.seq (AW.regL ?_)
   iterate 2 refine V rfl ?_
   refine AL.nil ?_
   refine AW.ret ?_
   cases hr
   exact endA.renK [] 0 hS
def q3g:Nat→Expr→(List Occurrence)→Option (List Occurrence)
  | 0,_,_=>none
  | n+1,a0,a1=>q5r (q3g n) a0 a1
def z0F (a0:Expr)(a1:(List Occurrence)):Option (List Occurrence):=recO fun n=>q3g n a0 a1
theorem z4P (n:Nat):∀ {m:Md} {a0:Expr} {a1:(List Occurrence)} {r:(List Occurrence)},q3g n a0 a1=some r→Ok Tryz.prog 56 [Expr.x m a0,.d m (.sl 2 (a1.map Occurrence.D))] [] (.d m (.sl 2 (r.map Occurrence.D))) []:=by
  induction n with
  | zero=>intro _ _ _ r hr; exact nomatch (show (none:Option (List Occurrence))=some r from hr)
  | succ n ih=>intro _ _ _ r hr; exact z4O ih hr
theorem z6E {m:Md}{a0:Expr}{a1:(List Occurrence)}{r:(List Occurrence)}(hr:z0F a0 a1=some r):Ok Tryz.prog 56 [Expr.x m a0,.d m (.sl 2 (a1.map Occurrence.D))] [] (.d m (.sl 2 (r.map Occurrence.D))) []:=by
  obtain⟨n,hn⟩:=q4g hr
  exact z4P n hn
def q3a (a0:Expr):Option (List Occurrence):=
 (z0F a0 []).bind fun y1=>
 some y1
theorem q9f {m:Md}{a0:Expr}{r:(List Occurrence)}(hr:q3a a0=some r):Ok Tryz.prog 38 [Expr.x m a0] [] (.d m (.sl 2 (r.map Occurrence.D))) []:=by
 refine Ok.enter rfl Tryz.func38 rfl rfl rfl fun S hS=>?_
 unfold q3a at hr
 refine AW.seq (AW.regL ?_)
 refine BX 0 ?_
 refine V rfl ?_
 refine AL.nil ?_
 refine AW.seq (AW.regL ?_)
 refine V rfl ?_
 refine L0 1 Occurrence.D ?_
 refine AL.fz 1 rfl ?_
 refine bdE hr fun y1 hy1 hr=>?_
 refine CB [] [] (z6E (m:=m) hy1) ?_
 refine V rfl ?_
 refine AL.nil ?_
 refine AW.ret ?_
 cases hr
 exact endA.renK [] 0 hS
def q4q (a1:Occurrence):Nat→Occurrence→Unit→Option (Unit ⊕ Int):=fun k1 xk1 _=>
 if xk1=a1 then (
 some (.inr (k1:Int))
 ) else (
 some (.inl ())
 )
def q3h (a0:(List Occurrence))(a1:Occurrence):Option Int:=
 (findL (q4q a1) 0 a0 ()).bind <| onr (fun r1=>some r1) fun _=>
 some (-1)
theorem q8f {m:Md}{a0:(List Occurrence)}{a1:Occurrence}{r:Int}(hr:q3h a0 a1=some r):Ok Tryz.prog 39 [.d m (.sl 2 (a0.map Occurrence.D)),Occurrence.x .fz a1] [] (.d .fz (.i .i64 r)) []:=by
 refine Ok.enter rfl Tryz.func39 rfl rfl rfl fun S hS=>?_
 unfold q3h at hr
 refine AW.seq (AW.regL ?_)
 refine BX 0 ?_
 refine V rfl ?_
 refine AL.nil ?_
 refine AW.seq (AW.seq (AW.regL ?_))
 refine V rfl ?_
 refine AL.nil ?_
 refine AW.block ?_
 refine AW.len (.tmp 0 rfl) fun hl1=>?_
 refine bdE hr fun q1 hqq1 hr=>?_
 refine AW.findL hqq1 hl1 1 (fun k1 _=>[(0,.d m (.sl 2 (a0.map Occurrence.D))),(3,.pb 0 0),(5,.d .fz (.i .i64 (k1:Int)))]) (fun k1 _=>[]) (GH.renK hS [(0,0)] 1) (fun k1 xk1 sk1 ok1 hxk1 hr hltk1 hik1=>?_) fun k1 sk1 ek1 hltk1=>?_
 ·refine AW.seq (AW.seq (AW.regL ?_))
  iterate 2 refine V rfl ?_
  refine LF ?_
  refine V rfl ?_
  refine AL.nil ?_
  refine AW.cT rfl (dT hltk1) ?_
  refine AW.skip ?_
  refine AW.seq (AW.block (AW.seq (AW.drawL (h:=?_))))
  iterate 2 refine V rfl ?_
  refine IF (Int.natCast_nonneg _) hxk1 ?_
  iterate 2 refine V rfl ?_
  refine SQ rfl rfl rfl rfl (q3k xk1 a1) ?_
  refine AL.nil ?_
  refine ifE hr (fun h1 hr=>?_) fun h1 hr=>?_
  ·refine AW.cT rfl (dT h1) ?_
   refine AW.seq (AW.regL ?_)
   iterate 2 refine V rfl ?_
   refine AL.nil ?_
   refine AW.ret ?_
   cases hr
   cases hik1 _ rfl
   rename_i hr
   cases hr
   exact endA.renK [] 0 hS
  ·refine AW.cF rfl (dF h1) ?_
   refine AW.skip ?_
   refine AW.regL ?_
   refine V rfl ?_
   refine OB _ (q2c (p:=k1) (q:=1) (q1n hltk1 hl1)) ?_
   refine V rfl ?_
   refine AL.nil ?_
   cases hr
   exact⟨_,rfl,GH.renK hS [(0,0)] 1⟩
 ·subst ek1
  refine AW.seq (AW.seq (AW.regL ?_))
  iterate 2 refine V rfl ?_
  refine LF ?_
  refine V rfl ?_
  refine AL.nil ?_
  refine AW.cF rfl (dF hltk1) ?_
  refine AW.exit ?_
  refine AW.seq (AW.regL ?_)
  refine V rfl ?_
  refine AL.nil ?_
  refine AW.ret ?_
  cases hr
  exact endA.renK [] 0 hS
def q3x (y1:(List Occurrence))(s3:Int):Nat→Occurrence→((List Int) × Int)→Option ((List Int) × Int):=fun k2 xk2 (s8,s9)=>
 (q3h y1 xk2).bind fun y6=>
 (q2z (⟨s9,s8⟩:Relation) y6 s3).bind fun y7=>
 some (y7.Rows,y7.N)
def q1W (a1:Rule)(y1:(List Occurrence)):(Int × (List Int) × Int)→Option ((Int × (List Int) × Int) ⊕ ((List Int) × Int)):=fun (s3,s4,s5)=>
 if s3 < (y1.length:Int) then (
 if 0 < s5 then (
 (
 grd (0≤s3) <|
 (y1[s3.toNat]?).bind fun x1=>
 (q2q a1 x1).bind fun (y3,y4)=>
 if y4=true then (
 (q3a y3).bind fun y5=>
 (eachL (q3x y1 s3) 0 y5 (s4,s5)).bind fun (s8,s9)=>
 some (s8,s9)
 ) else (
 some (s4,s5)
 )
 ).bind fun (s6,s7)=>
 grd (I64 (s3+1)) <|
 some (.inl ((s3+1),s6,s7))
 ) else (
 some (.inr (s4,s5))
 )
 ) else (
 some (.inr (s4,s5))
 )
def q2t (a0:Grammar)(a1:Rule):Option Relation:=
 (q2f a0 a1).bind fun y1=>
 (q1x (y1.length:Int)).bind fun y2=>
 (q3j (q1W a1 y1) (0,y2.Rows,y2.N)).bind fun (s1,s2)=>
 some (⟨s2,s1⟩:Relation)
theorem q6G {m:Md}{a0:Grammar}{a1:Rule}{r:Relation}(hr:q2t a0 a1=some r):Ok Tryz.prog 12 [Grammar.y m a0,Rule.x m a1] [] (.ag [.d .fz (.i .i64 r.N),.ref 0 none]) [.row .fz 1 (r.Rows.map (A.D.i .i64))]:=by
 refine Ok.enter rfl Tryz.func12 rfl rfl rfl fun S hS=>?_
 unfold q2t at hr
 refine AW.seq (AW.regL ?_)
 refine BX 0 ?_
 refine BX 1 ?_
 refine NV 2 ?_
 refine AL.nil ?_
 refine AW.seq (AW.regL ?_)
 iterate 2 refine V rfl ?_
 refine bdE hr fun y1 hy1 hr=>?_
 refine CB [(0,3)] [] (q5f (m:=m) hy1) ?_
 refine V rfl ?_
 refine AL.nil ?_
 refine AW.seq (AW.regL ?_)
 refine V rfl ?_
 refine LE ?_
 refine bdE hr fun y2 hy2 hr=>?_
 refine CB [(0,4)] [] (q3t hy2) ?_
 refine NV 5 ?_
 refine SB ?_
 refine AL.nil ?_
 refine AW.seq (AW.seq (AW.regL ?_))
 refine V rfl ?_
 refine AL.nil ?_
 refine bdE hr fun q1 hqq1 hr=>?_
 obtain⟨s1,s2⟩:=q1
 refine AW.cut1 6 [(4,.pb 2 0),(6,.pb 5 0)] [(4,.row .fz 1 (s1.map (A.D.i .i64))),(5,.box [.d .fz (.i .i64 s2),.ref 4 none])] ?_ ?_
 ·refine AW.block (AW.iter hqq1 6 (fun (s3,s4,s5)=>[(3,.pb 1 0),(4,.pb 2 0),(5,.ref 3 none),(6,.pb 5 0),(7,.d .fz (.i .i64 s3))]) (fun (s3,s4,s5)=>[(4,.row .fz 1 (s4.map (A.D.i .i64))),(5,.box [.d .fz (.i .i64 s5),.ref 4 none])]) (GH.trans (GH.bw (q:=0) [.d m (.sl 2 (a0.Symbols.map Symbol.D)),.u] (.cons .rfl (.cons .u .nil)) rfl) (GH.renK hS [(0,0),(1,1),(2,2),(3,3),(4,4),(5,5)] 6)) fun sk1 ok1 hr hik1=>?_)
  obtain⟨s3,s4,s5⟩:=sk1
  have hr:=hr
  refine AW.seq (AW.seq (AW.regL ?_))
  iterate 2 refine V rfl ?_
  refine LE ?_
  refine V rfl ?_
  refine ifE hr (fun h1 hr=>?_) fun h1 hr=>?_
  ·refine VT rfl (dT h1) ?_
   iterate 4 refine V rfl ?_
   refine AL.nil ?_
   refine ifE hr (fun h2 hr=>?_) fun h2 hr=>?_
   ·refine AW.cT rfl (dT h2) ?_
    refine AW.skip ?_
    refine bdE hr fun q2 hqq2 hr=>?_
    obtain⟨s6,s7⟩:=q2
    refine AW.seq (AW.cut1 6 [(3,.pb 1 0),(4,.pb 2 0),(5,.ref 3 none),(6,.pb 5 0),(7,.d .fz (.i .i64 s3)),(23,.pb 5 0),(24,.d .fz (.i .i64 s5)),(25,.d .fz (.b (decide (0 < s5))))] [(4,.row .fz 1 (s6.map (A.D.i .i64))),(5,.box [.d .fz (.i .i64 s7),.ref 4 none])] ?_ ?_)
    ·replace hr:=hqq2
     refine AW.block (AW.seq (AW.drawL (h:=?_)))
     iterate 3 refine V rfl ?_
     refine ggE hr fun g1 hr=>?_
     refine bdE hr fun x1 hx1 hr=>?_
     refine IE hx1 g1 ?_
     refine LPa hx1 ?_
     refine bdE hr fun q3 hq3 hr=>?_
     obtain⟨y3,y4⟩:=q3
     refine CB [(0,6)] [] (q9I (m:=m) hq3) ?_
     iterate 3 refine V rfl ?_
     refine NV 7 ?_
     refine SB ?_
     refine V rfl ?_
     refine AL.nil ?_
     refine AW.seq (AW.seq (AW.regL ?_))
     iterate 2 refine V rfl ?_
     refine AL.nil ?_
     refine ifE hr (fun h3 hr=>?_) fun h3 hr=>?_
     ·refine AW.cF rfl (bnF h3) ?_
      refine AW.skip ?_
      refine AW.seq (AW.regL ?_)
      refine V rfl ?_
      refine AL.fz 6 rfl ?_
      refine bdE hr fun y5 hy5 hr=>?_
      refine CB [] [] (q9f (m:=.fz) hy5) ?_
      refine V rfl ?_
      refine AL.nil ?_
      refine AW.seq (AW.regL ?_)
      refine V rfl ?_
      refine AL.nil ?_
      refine AW.block ?_
      refine AW.len (.tmp 10 rfl) fun hl2=>?_
      refine bdE hr fun q4 hqq4 hr=>?_
      obtain⟨s8,s9⟩:=q4
      refine AW.eachL hqq4 hl2 8 (fun k2 (s8,s9)=>[(3,.pb 1 0),(4,.pb 2 0),(5,.ref 3 none),(6,.pb 5 0),(7,.d .fz (.i .i64 s3)),(10,.d .fz (.sl 2 (y5.map Occurrence.D))),(11,.d .fz (.i .i64 (k2:Int))),(23,.pb 5 0),(24,.d .fz (.i .i64 s5)),(25,.d .fz (.b (decide (0 < s5))))]) (fun k2 (s8,s9)=>[(4,.row .fz 1 (s8.map (A.D.i .i64))),(5,.box [.d .fz (.i .i64 s9),.ref 4 none]),(6,.none)]) (GH.trans (GH.bw (q:=0) [.d m (.sl 2 (a0.Symbols.map Symbol.D)),.u] (.cons .rfl (.cons .u .nil)) rfl) (GH.renK hS [(0,0),(1,1),(2,2),(3,3),(4,4),(5,5),(7,7)] 8)) (fun k2 xk2 sk2 ok2 hxk2 hr hltk2=>?_) fun k2 hltk2=>?_
      ·obtain⟨s8,s9⟩:=sk2
       refine AW.seq (AW.seq (AW.regL ?_))
       iterate 2 refine V rfl ?_
       refine LF ?_
       refine V rfl ?_
       refine AL.nil ?_
       refine AW.cT rfl (dT hltk2) ?_
       refine AW.skip ?_
       refine AW.seq (AW.block (AW.drawL (h:=?_)))
       iterate 4 refine V rfl ?_
       refine IF (Int.natCast_nonneg _) hxk2 ?_
       refine V rfl ?_
       refine bdE hr fun y6 hy6 hr=>?_
       refine CB [] [3] (q8f (m:=.bo) hy6) ?_
       refine V rfl ?_
       refine bdE hr fun y7 hy7 hr=>?_
       refine CB [(0,8)] [4] (q5V (m:=.bo) hy7) ?_
       refine SB ?_
       refine AL.nil ?_
       refine AW.regL ?_
       refine V rfl ?_
       refine OB _ (q2c (p:=k2) (q:=1) (q1n hltk2 hl2)) ?_
       refine V rfl ?_
       refine AL.nil ?_
       cases hr
       exact GH.trans (GH.bw (q:=0) [.d m (.sl 2 (a0.Symbols.map Symbol.D)),.u] (.cons .rfl (.cons .u .nil)) rfl) (GH.renK hS [(0,0),(1,1),(2,2),(3,3),(8,4),(5,5),(7,7)] 8)
      ·refine AW.seq (AW.seq (AW.regL ?_))
       iterate 2 refine V rfl ?_
       refine LF ?_
       refine V rfl ?_
       refine AL.nil ?_
       refine AW.cF rfl (dF hltk2) ?_
       refine AW.exit ?_
       cases hr
       exact GH.trans (GH.bw (q:=0) [.d m (.sl 2 (a0.Symbols.map Symbol.D)),.u] (.cons .rfl (.cons .u .nil)) rfl) (GH.renK hS [(0,0),(1,1),(2,2),(3,3),(4,4),(5,5)] 6)
     ·refine AW.cT rfl (bnT h3) ?_
      refine AW.exit ?_
      cases hr
      exact GH.trans (GH.bw (q:=0) [.d m (.sl 2 (a0.Symbols.map Symbol.D)),.u] (.cons .rfl (.cons .u .nil)) rfl) (GH.renK hS [(0,0),(1,1),(2,2),(3,3),(4,4),(5,5)] 6)
    ·refine AW.regL ?_
     refine V rfl ?_
     refine ggE hr fun g2 hr=>?_
     refine OB _ (bAdd g2) ?_
     refine V rfl ?_
     refine AL.nil ?_
     cases hr
     exact⟨_,rfl,GH.trans (GH.bw (q:=0) [.d m (.sl 2 (a0.Symbols.map Symbol.D)),.u] (.cons .rfl (.cons .u .nil)) rfl) (GH.renK hS [(0,0),(1,1),(2,2),(3,3),(4,4),(5,5)] 6)⟩
   ·refine AW.cF rfl (dF h2) ?_
    refine AW.exit ?_
    cases hr
    cases hik1 _ rfl
    exact GH.trans (GH.bw (q:=0) [.d m (.sl 2 (a0.Symbols.map Symbol.D)),.u] (.cons .rfl (.cons .u .nil)) rfl) (GH.renK hS [(0,0),(1,1),(2,2),(3,3),(4,4),(5,5)] 6)
  ·refine VF rfl (dF h1) ?_
   refine AL.off ?_
   refine AL.off ?_
   refine AL.off ?_
   refine V rfl ?_
   refine AL.nil ?_
   refine AW.cF rfl rfl ?_
   refine AW.exit ?_
   cases hr
   cases hik1 _ rfl
   exact GH.trans (GH.bw (q:=0) [.d m (.sl 2 (a0.Symbols.map Symbol.D)),.u] (.cons .rfl (.cons .u .nil)) rfl) (GH.renK hS [(0,0),(1,1),(2,2),(3,3),(4,4),(5,5)] 6)
 ·refine AW.seq (AW.regL ?_)
  refine V rfl ?_
  refine SB ?_
  refine AL.nil ?_
  refine AW.ret ?_
  cases hr
  exact endA.renK [(4,0)] 1 hS
def q2h (a2:Int):Nat→Occurrence→((List Int))→Option ((List Int)):=fun k1 xk1 s1=>
 (
 if xk1.Pos=a2 then (
 grd (((s1.length:Int)+1)*8≤140737488355328∧(s1.length:Int)+1≤9223372036854775807) <|
 some (s1++[(k1:Int)])
 ) else (
 some s1
 )
 ).bind fun s2=>
 some s2
def q2r (a0:Grammar)(a1:Rule)(a2:Int):Option (List Int):=
 (q2f a0 a1).bind fun y1=>
 (eachL (q2h a2) 0 y1 ([]:List Int)).bind fun s1=>
 some s1
theorem q8g {m:Md}{a0:Grammar}{a1:Rule}{a2:Int}{r:(List Int)}(hr:q2r a0 a1 a2=some r):Ok Tryz.prog 26 [Grammar.y m a0,Rule.x m a1,.d .fz (.i .i64 a2)] [] (.ref 0 none) [.row .fz 1 (r.map (A.D.i .i64))]:=by
 refine Ok.enter rfl Tryz.func26 rfl rfl rfl fun S hS=>?_
 unfold q2r at hr
 refine AW.seq (AW.regL ?_)
 refine BX 0 ?_
 refine BX 1 ?_
 refine V rfl ?_
 refine AL.nil ?_
 refine AW.seq (AW.regL ?_)
 refine L0 2 (A.D.i .i64) ?_
 refine V rfl ?_
 refine AL.nil ?_
 refine AW.seq (AW.regL ?_)
 iterate 2 refine V rfl ?_
 refine bdE hr fun y1 hy1 hr=>?_
 refine CB [(0,3)] [] (q5f (m:=m) hy1) ?_
 refine V rfl ?_
 refine AL.nil ?_
 refine AW.seq (AW.seq (AW.regL ?_))
 refine V rfl ?_
 refine AL.nil ?_
 refine AW.block ?_
 refine AW.lenR 3 rfl fun hl1=>?_
 refine bdE hr fun s1 hqq1 hr=>?_
 refine AW.eachL hqq1 hl1 4 (fun k1 s1=>[(2,.d .fz (.i .i64 a2)),(7,.ref 2 none),(8,.ref 3 none),(9,.d .fz (.i .i64 (k1:Int)))]) (fun k1 s1=>[(2,.row .fz 1 (s1.map (A.D.i .i64)))]) (GH.trans (GH.bw (q:=0) [.d m (.sl 2 (a0.Symbols.map Symbol.D)),.u] (.cons .rfl (.cons .u .nil)) rfl) (GH.renK hS [(0,0),(1,1),(2,2),(3,3)] 4)) (fun k1 xk1 sk1 ok1 hxk1 hr hltk1=>?_) fun k1 hltk1=>?_
 ·obtain⟨s1,rfl⟩:∃ y,y=sk1:=⟨_,rfl⟩
  refine AW.seq (AW.seq (AW.regL ?_))
  iterate 2 refine V rfl ?_
  refine LE ?_
  refine V rfl ?_
  refine AL.nil ?_
  refine AW.cT rfl (dT hltk1) ?_
  refine AW.skip ?_
  refine bdE hr fun s2 hqq2 hr=>?_
  refine AW.seq (AW.cut1 4 [(2,.d .fz (.i .i64 a2)),(7,.ref 2 none),(8,.ref 3 none),(9,.d .fz (.i .i64 (k1:Int)))] [(2,.row .fz 1 (s2.map (A.D.i .i64)))] ?_ ?_)
  ·replace hr:=hqq2
   refine AW.block (AW.seq (AW.regL ?_))
   iterate 2 refine V rfl ?_
   refine IE hxk1 (Int.natCast_nonneg _) ?_
   refine V rfl ?_
   refine LP hxk1 ?_
   iterate 2 refine V rfl ?_
   refine AL.nil ?_
   refine ifE hr (fun h1 hr=>?_) fun h1 hr=>?_
   ·refine AW.cT rfl (dT h1) ?_
    refine AW.regL ?_
    iterate 2 refine V rfl ?_
    refine LIR 4 (m:=.fz) (f:=(A.D.i .i64)) (xs:=([(k1:Int)]:List Int)) ?_
    refine ggE hr fun g1 hr=>?_
    refine APf1 (f:=(A.D.i .i64)) 5 (fun _=>rfl) 8 g1 ?_
    refine V rfl ?_
    refine AL.nil ?_
    cases hr
    exact GH.trans (GH.bw (q:=0) [.d m (.sl 2 (a0.Symbols.map Symbol.D)),.u] (.cons .rfl (.cons .u .nil)) rfl) (GH.renK hS [(0,0),(1,1),(5,2),(3,3)] 4)
   ·refine AW.cF rfl (dF h1) ?_
    refine AW.skip ?_
    cases hr
    exact GH.trans (GH.bw (q:=0) [.d m (.sl 2 (a0.Symbols.map Symbol.D)),.u] (.cons .rfl (.cons .u .nil)) rfl) (GH.renK hS [(0,0),(1,1),(2,2),(3,3)] 4)
  ·refine AW.regL ?_
   refine V rfl ?_
   refine OB _ (q2c (p:=k1) (q:=1) (q1n hltk1 hl1)) ?_
   refine V rfl ?_
   refine AL.nil ?_
   cases hr
   exact GH.trans (GH.bw (q:=0) [.d m (.sl 2 (a0.Symbols.map Symbol.D)),.u] (.cons .rfl (.cons .u .nil)) rfl) (GH.renK hS [(0,0),(1,1),(2,2),(3,3)] 4)
 ·refine AW.seq (AW.seq (AW.regL ?_))
  iterate 2 refine V rfl ?_
  refine LE ?_
  refine V rfl ?_
  refine AL.nil ?_
  refine AW.cF rfl (dF hltk1) ?_
  refine AW.exit ?_
  refine AW.seq (AW.regL ?_)
  iterate 2 refine V rfl ?_
  refine AL.nil ?_
  refine AW.ret ?_
  cases hr
  exact endA.renK [(2,0)] 1 hS
def q4u (a0:Relation)(a1:Int)(a2:Int):Option Bool:=
 (q1L a0).bind fun y1=>
 (
 if y1=true then (
 grd (I64 (a0.N - 1)) <|
 (q2F a1 0 (a0.N - 1)).bind fun y2=>
 some y2
 ) else (
 some false
 )
 ).bind fun s1=>
 (
 if s1=true then (
 grd (I64 (a0.N - 1)) <|
 (q2F a2 0 (a0.N - 1)).bind fun y3=>
 some y3
 ) else (
 some false
 )
 ).bind fun s2=>
 (
 if s2=true then (
 grd (0≤a1) <|
 (a0.Rows[a1.toNat]?).bind fun x1=>
 grd (0≤a2) <|
 grd (0≤x1∧0≤a2∧a2 < 64) <|
 grd (0≤((x1.toNat >>> a2.toNat:Nat):Int)∧0≤(1:Int)) <|
 some (decide (((((x1.toNat >>> a2.toNat:Nat):Int).toNat &&& (1:Int).toNat:Nat):Int)=1))
 ) else (
 some false
 )
 ).bind fun s3=>
 some s3
theorem z0G {m:Md}{a0:Relation}{a1:Int}{a2:Int}{r:Bool}(hr:q4u a0 a1 a2=some r):Ok Tryz.prog 28 [Relation.x m a0,.d .fz (.i .i64 a1),.d .fz (.i .i64 a2)] [] (.d .fz (.b r)) []:=by
 refine Ok.enter rfl Tryz.func28 rfl rfl rfl fun S hS=>?_
 unfold q4u at hr
 refine AW.seq (AW.regL ?_)
 refine BX 0 ?_
 refine V rfl ?_
 refine AL.nil ?_
 refine AW.seq (AW.regL ?_)
 refine V rfl ?_
 refine bdE hr fun y1 hy1 hr=>?_
 refine CB [] [] (q2y (m:=m) hy1) ?_
 refine bdE hr fun s1 hqq1 hr=>?_
 refine AL.meet1 7 [(1,.d .fz (.i .i64 a1)),(2,.d .fz (.i .i64 a2)),(3,.pb 0 0),(6,.d .fz (.b false)),(15,.d .fz (.b s1))] ?_ ?_
 ·replace hr:=hqq1
  refine ifE hr (fun h1 hr=>?_) fun h1 hr=>?_
  ·refine VT rfl h1 ?_
   iterate 3 refine V rfl ?_
   refine ggE hr fun g1 hr=>?_
   refine OB _ (bSub g1) ?_
   refine bdE hr fun y2 hy2 hr=>?_
   refine CB [] [] (q3b hy2) ?_
   refine V rfl ?_
   refine AL.nil ?_
   cases hr
   exact q1u
  ·refine VF rfl (bF h1) ?_
   refine AL.off ?_
   refine AL.off ?_
   refine AL.off ?_
   refine AL.off ?_
   refine AL.off ?_
   refine V rfl ?_
   refine AL.nil ?_
   cases hr
   exact q1u
 ·refine bdE hr fun s2 hqq2 hr=>?_
  refine AL.meet1 7 [(1,.d .fz (.i .i64 a1)),(2,.d .fz (.i .i64 a2)),(3,.pb 0 0),(6,.d .fz (.b false)),(22,.d .fz (.b s2))] ?_ ?_
  ·replace hr:=hqq2
   refine ifE hr (fun h2 hr=>?_) fun h2 hr=>?_
   ·refine VT rfl h2 ?_
    iterate 3 refine V rfl ?_
    refine ggE hr fun g2 hr=>?_
    refine OB _ (bSub g2) ?_
    refine bdE hr fun y3 hy3 hr=>?_
    refine CB [] [] (q3b hy3) ?_
    refine V rfl ?_
    refine AL.nil ?_
    cases hr
    exact q1u
   ·refine VF rfl (bF h2) ?_
    refine AL.off ?_
    refine AL.off ?_
    refine AL.off ?_
    refine AL.off ?_
    refine AL.off ?_
    refine V rfl ?_
    refine AL.nil ?_
    cases hr
    exact q1u
  ·refine bdE hr fun s3 hqq3 hr=>?_
   refine AL.meet1 12 [(6,.d .fz (.b false)),(34,.d .fz (.b s3))] ?_ ?_
   ·replace hr:=hqq3
    refine ifE hr (fun h3 hr=>?_) fun h3 hr=>?_
    ·refine VT rfl h3 ?_
     iterate 3 refine V rfl ?_
     refine ggE hr fun g3 hr=>?_
     refine bdE hr fun x1 hx1 hr=>?_
     refine IF g3 hx1 ?_
     iterate 2 refine V rfl ?_
     refine ggE hr fun g4 hr=>?_
     refine CIU g4 rfl ?_
     refine ggE hr fun g5 hr=>?_
     refine OB _ (z8X g5) ?_
     refine ggE hr fun g6 hr=>?_
     refine OB _ (z8Y g6) ?_
     iterate 2 refine V rfl ?_
     refine AL.nil ?_
     cases hr
     exact q1u
    ·refine VF rfl (bF h3) ?_
     refine AL.off ?_
     refine AL.off ?_
     refine AL.off ?_
     refine AL.off ?_
     refine AL.off ?_
     refine AL.off ?_
     refine AL.off ?_
     refine AL.off ?_
     refine AL.off ?_
     refine AL.off ?_
     refine V rfl ?_
     refine AL.nil ?_
     cases hr
     exact q1u
   ·refine V rfl ?_
    refine AL.nil ?_
    refine AW.ret ?_
    cases hr
    exact endA.renK [] 0 hS
def q3y (k1:Nat):Nat→((List Int))→Option ((List Int)):=fun k2 s2=>
 (
 (s2[k2]?).bind fun x1=>
 grd (0≤x1∧0≤(k1:Int)∧(k1:Int) < 64) <|
 grd (0≤((x1.toNat >>> (k1:Int).toNat:Nat):Int)∧0≤(1:Int)) <|
 if ((((x1.toNat >>> (k1:Int).toNat:Nat):Int).toNat &&& (1:Int).toNat:Nat):Int)=1 then (
 (s2[k1]?).bind fun x2=>
 grd (0≤x1∧0≤x2) <|
 some (List.set s2 k2 ((x1.toNat ||| x2.toNat:Nat):Int))
 ) else (
 some s2
 )
 ).bind fun s3=>
 some s3
def q5g (a0:Relation):Nat→((List Int))→Option ((List Int)):=fun k1 s1=>
 (eachN (q3y k1) 0 a0.N.toNat s1).bind fun s2=>
 some s2
def q3P (a0:Relation):Option Relation:=
 (q3R a0).bind fun y1=>
 (q1L a0).bind fun y2=>
 if y2=true then (
 (eachN (q5g a0) 0 a0.N.toNat y1.Rows).bind fun s1=>
 some (⟨y1.N,s1⟩:Relation)
 ) else (
 some y1
 )
theorem q9g {m:Md}{a0:Relation}{r:Relation}(hr:q3P a0=some r):Ok Tryz.prog 30 [Relation.x m a0] [] (.ag [.d .fz (.i .i64 r.N),.ref 0 none]) [.row .fz 1 (r.Rows.map (A.D.i .i64))]:=by
 refine Ok.enter rfl Tryz.func30 rfl rfl rfl fun S hS=>?_
 unfold q3P at hr
 refine AW.seq (AW.regL ?_)
 refine BX 0 ?_
 refine NV 1 ?_
 refine AL.nil ?_
 refine AW.seq (AW.regL ?_)
 refine V rfl ?_
 refine bdE hr fun y1 hy1 hr=>?_
 refine CB [(0,2)] [] (q7X (m:=m) hy1) ?_
 refine NV 3 ?_
 refine SB ?_
 refine AL.nil ?_
 refine AW.seq (AW.seq (AW.regL ?_))
 refine V rfl ?_
 refine bdE hr fun y2 hy2 hr=>?_
 refine CB [] [] (q2y (m:=m) hy2) ?_
 refine V rfl ?_
 refine AL.nil ?_
 refine ifE hr (fun h1 hr=>?_) fun h1 hr=>?_
 ·refine AW.cF rfl (bnF h1) ?_
  refine AW.skip ?_
  refine AW.seq (AW.seq (AW.regL ?_))
  refine V rfl ?_
  refine AL.nil ?_
  refine AW.block ?_
  refine AW.rng (.ag 0 (.tmp 0 rfl) rfl) fun hl1=>?_
  refine bdE hr fun s1 hqq1 hr=>?_
  refine AW.eachN hqq1 4 (fun k1 s1=>[(1,.pb 0 0),(2,.pb 1 0),(3,.pb 3 0),(4,.d .fz (.i .i64 (k1:Int)))]) (fun k1 s1=>[(2,.row .fz 1 (s1.map (A.D.i .i64)))]) (GH.renK hS [(0,0),(1,1),(2,2),(3,3)] 4) (fun k1 sk1 ok1 hr hltk1=>?_) ?_
  ·obtain⟨s1,rfl⟩:∃ y,y=sk1:=⟨_,rfl⟩
   refine AW.seq (AW.seq (AW.regL ?_))
   iterate 4 refine V rfl ?_
   refine AL.nil ?_
   refine AW.cT rfl (dT (ltI hltk1)) ?_
   refine AW.skip ?_
   refine AW.seq (AW.block (AW.seq (AW.regL ?_)))
   refine V rfl ?_
   refine AL.nil ?_
   refine AW.block ?_
   refine AW.rng (.tmp 14 rfl) fun hl2=>?_
   refine bdE hr fun s2 hqq2 hr=>?_
   refine AW.eachN hqq2 4 (fun k2 s2=>[(1,.pb 0 0),(2,.pb 1 0),(3,.pb 3 0),(4,.d .fz (.i .i64 (k1:Int))),(5,.d .fz (.i .i64 (k2:Int)))]) (fun k2 s2=>[(2,.row .fz 1 (s2.map (A.D.i .i64)))]) (GH.renK hS [(0,0),(1,1),(2,2),(3,3)] 4) (fun k2 sk2 ok2 hr hltk2=>?_) ?_
   ·obtain⟨s2,rfl⟩:∃ y,y=sk2:=⟨_,rfl⟩
    refine AW.seq (AW.seq (AW.regL ?_))
    iterate 4 refine V rfl ?_
    refine AL.nil ?_
    refine AW.cT rfl (dT (ltI hltk2)) ?_
    refine AW.skip ?_
    refine bdE hr fun s3 hqq3 hr=>?_
    refine AW.seq (AW.cut1 4 [(1,.pb 0 0),(2,.pb 1 0),(3,.pb 3 0),(4,.d .fz (.i .i64 (k1:Int))),(5,.d .fz (.i .i64 (k2:Int)))] [(2,.row .fz 1 (s3.map (A.D.i .i64)))] ?_ ?_)
    ·replace hr:=hqq3
     refine AW.block (AW.seq (AW.regL ?_))
     iterate 3 refine V rfl ?_
     refine bdE hr fun x1 hx1 hr=>?_
     refine IE hx1 (Int.natCast_nonneg _) ?_
     refine LP hx1 ?_
     refine V rfl ?_
     refine CIU (Int.natCast_nonneg _) rfl ?_
     refine ggE hr fun g1 hr=>?_
     refine OB _ (z8X g1) ?_
     refine ggE hr fun g2 hr=>?_
     refine OB _ (z8Y g2) ?_
     refine V rfl ?_
     refine AL.nil ?_
     refine ifE hr (fun h2 hr=>?_) fun h2 hr=>?_
     ·refine AW.cT rfl (dT h2) ?_
      refine AW.drawL (h:=?_)
      iterate 6 refine V rfl ?_
      refine IE hx1 (Int.natCast_nonneg _) ?_
      refine LP hx1 ?_
      iterate 3 refine V rfl ?_
      refine bdE hr fun x2 hx2 hr=>?_
      refine IE hx2 (Int.natCast_nonneg _) ?_
      refine LP hx2 ?_
      refine ggE hr fun g3 hr=>?_
      refine OB _ (bOrI g3) ?_
      refine IE hx1 (Int.natCast_nonneg _) ?_
      refine SE ((x1.toNat ||| x2.toNat:Nat):Int) hx1 ?_
      refine AL.nil ?_
      cases hr
      exact GH.renK hS [(0,0),(1,1),(2,2),(3,3)] 4
     ·refine AW.cF rfl (dF h2) ?_
      refine AW.skip ?_
      cases hr
      exact GH.renK hS [(0,0),(1,1),(2,2),(3,3)] 4
    ·refine AW.regL ?_
     refine V rfl ?_
     refine OB _ (q2c (p:=k2) (q:=1) (q1n (ltI hltk2) hl2.2)) ?_
     refine V rfl ?_
     refine AL.nil ?_
     cases hr
     exact GH.renK hS [(0,0),(1,1),(2,2),(3,3)] 4
   ·refine AW.seq (AW.seq (AW.regL ?_))
    iterate 4 refine V rfl ?_
    refine AL.nil ?_
    refine AW.cF rfl (dF geI) ?_
    refine AW.exit ?_
    refine AW.regL ?_
    refine V rfl ?_
    refine OB _ (q2c (p:=k1) (q:=1) (q1n (ltI hltk1) hl1.2)) ?_
    refine V rfl ?_
    refine AL.nil ?_
    cases hr
    exact GH.renK hS [(0,0),(1,1),(2,2),(3,3)] 4
  ·refine AW.seq (AW.seq (AW.regL ?_))
   iterate 4 refine V rfl ?_
   refine AL.nil ?_
   refine AW.cF rfl (dF geI) ?_
   refine AW.exit ?_
   refine AW.seq (AW.regL ?_)
   refine V rfl ?_
   refine SB ?_
   refine AL.nil ?_
   refine AW.ret ?_
   cases hr
   exact endA.renK [(2,0)] 1 hS
 ·refine AW.cT rfl (bnT h1) ?_
  refine AW.seq (AW.regL ?_)
  refine V rfl ?_
  refine SB ?_
  refine AL.nil ?_
  refine AW.ret ?_
  cases hr
  exact endA.renK [(2,0)] 1 hS
def q4L (xk1:Relation)(k2:Nat)(xk2:Int):Nat→Int→((List Int) × Int)→Option ((List Int) × Int):=fun k3 xk3 (s6,s7)=>
 (
 (q4u xk1 (k2:Int) (k3:Int)).bind fun y5=>
 if y5=true then (
 (q2z (⟨s7,s6⟩:Relation) xk2 xk3).bind fun y6=>
 some (y6.Rows,y6.N)
 ) else (
 some (s6,s7)
 )
 ).bind fun (s8,s9)=>
 some (s8,s9)
def q4M (xk1:Relation)(y3:(List Int)):Nat→Int→((List Int) × Int)→Option ((List Int) × Int):=fun k2 xk2 (s4,s5)=>
 (eachL (q4L xk1 k2 xk2) 0 y3 (s4,s5)).bind fun (s6,s7)=>
 some (s6,s7)
def q4N (a0:Grammar)(a1:Rule):Nat→Relation→((List Int) × Int)→Option (((List Int) × Int) ⊕ Relation):=fun k1 xk1 (s2,s3)=>
 (q2r a0 a1 ((k1+1:Nat):Int)).bind fun y3=>
 (q1L xk1).bind fun y4=>
 if y4=true then (
 if xk1.N=(y3.length:Int) then (
 (eachL (q4M xk1 y3) 0 y3 (s2,s3)).bind fun (s4,s5)=>
 some (.inl (s4,s5))
 ) else (
 some (.inr (⟨0,[]⟩:Relation))
 )
 ) else (
 some (.inr (⟨0,[]⟩:Relation))
 )
def q3n (a0:Grammar)(a1:Rule)(a2:(List Relation)):Option Relation:=
 (q2f a0 a1).bind fun y1=>
 (
 if (a2.length:Int)=(a1.Right.length:Int) then (
 some (decide (16 < (y1.length:Int)))
 ) else (
 some true
 )
 ).bind fun s1=>
 if s1=true then (
 some (⟨0,[]⟩:Relation)
 ) else (
 (q2t a0 a1).bind fun y2=>
 (findL (q4N a0 a1) 0 a2 (y2.Rows,y2.N)).bind <| onr (fun r1=>some r1) fun (s2,s3)=>
 (q3P (⟨s3,s2⟩:Relation)).bind fun y7=>
 some y7
 )
theorem z0H {m:Md}{a0:Grammar}{a1:Rule}{a2:(List Relation)}{r:Relation}(hr:q3n a0 a1 a2=some r):Ok Tryz.prog 8 [Grammar.y m a0,Rule.x m a1,.d m (.sl 2 (a2.map Relation.D))] [] (.ag [.d .fz (.i .i64 r.N),.ref 0 none]) [.row .fz 1 (r.Rows.map (A.D.i .i64))]:=by
 refine Ok.enter rfl Tryz.func8 rfl rfl rfl fun S hS=>?_
 unfold q3n at hr
 refine AW.seq (AW.regL ?_)
 refine BX 0 ?_
 refine BX 1 ?_
 refine NV 2 ?_
 refine AL.nil ?_
 refine AW.seq (AW.regL ?_)
 iterate 2 refine V rfl ?_
 refine bdE hr fun y1 hy1 hr=>?_
 refine CB [(0,3)] [] (q5f (m:=m) hy1) ?_
 refine V rfl ?_
 refine AL.nil ?_
 refine AW.seq (AW.seq (AW.regL ?_))
 refine V rfl ?_
 refine LF ?_
 iterate 2 refine V rfl ?_
 refine LF ?_
 refine V rfl ?_
 refine bdE hr fun s1 hqq1 hr=>?_
 refine AL.meet1 5 [(2,.d m (.sl 2 (a2.map Relation.D))),(3,.pb 0 0),(4,.pb 1 0),(6,.pb 2 0),(26,.d .fz (.b s1))] ?_ ?_
 ·replace hr:=hqq1
  refine ifE hr (fun h1 hr=>?_) fun h1 hr=>?_
  ·refine VF rfl (nF h1) ?_
   refine V rfl ?_
   refine LE ?_
   iterate 2 refine V rfl ?_
   refine AL.nil ?_
   cases hr
   exact q1u
  ·refine VT rfl (nT h1) ?_
   refine AL.off ?_
   refine AL.off ?_
   refine AL.off ?_
   refine V rfl ?_
   refine AL.nil ?_
   cases hr
   exact q1u
 ·refine AL.nil ?_
  refine ifE hr (fun h2 hr=>?_) fun h2 hr=>?_
  ·refine AW.cT rfl h2 ?_
   refine AW.seq (AW.regL ?_)
   refine V rfl ?_
   refine SB ?_
   refine AL.nil ?_
   refine AW.ret ?_
   refine endA.gh (GH.nlB (q:=2) (c:=1) (r:=4) .fz 1 rfl rfl rfl) ?_
   cases hr
   exact endA.renK [(4,0)] 1 hS
  ·refine AW.cF rfl (bF h2) ?_
   refine AW.skip ?_
   refine AW.seq (AW.regL ?_)
   iterate 2 refine V rfl ?_
   refine bdE hr fun y2 hy2 hr=>?_
   refine CB [(0,4)] [] (q6G (m:=m) hy2) ?_
   refine NV 5 ?_
   refine SB ?_
   refine AL.nil ?_
   refine AW.seq (AW.seq (AW.regL ?_))
   refine V rfl ?_
   refine AL.nil ?_
   refine AW.block ?_
   refine AW.len (.tmp 2 rfl) fun hl1=>?_
   refine bdE hr fun q2 hqq2 hr=>?_
   refine AW.findL hqq2 hl1 6 (fun k1 (s2,s3)=>[(2,.d m (.sl 2 (a2.map Relation.D))),(3,.pb 0 0),(4,.pb 1 0),(6,.pb 2 0),(8,.pb 5 0),(9,.d .fz (.i .i64 (k1:Int)))]) (fun k1 (s2,s3)=>[(4,.row .fz 1 (s2.map (A.D.i .i64))),(5,.box [.d .fz (.i .i64 s3),.ref 4 none])]) (GH.trans (GH.bw (q:=0) [.d m (.sl 2 (a0.Symbols.map Symbol.D)),.u] (.cons .rfl (.cons .u .nil)) rfl) (GH.renK hS [(0,0),(1,1),(2,2),(3,3),(4,4),(5,5)] 6)) (fun k1 xk1 sk1 ok1 hxk1 hr hltk1 hik1=>?_) fun k1 sk1 ek1 hltk1=>?_
   ·obtain⟨s2,s3⟩:=sk1
    refine AW.seq (AW.seq (AW.regL ?_))
    iterate 2 refine V rfl ?_
    refine LF ?_
    refine V rfl ?_
    refine AL.nil ?_
    refine AW.cT rfl (dT hltk1) ?_
    refine AW.skip ?_
    refine AW.seq (AW.block (AW.seq (AW.regL ?_)))
    iterate 3 refine V rfl ?_
    refine OB _ (q2c (p:=k1) (q:=1) (q1n hltk1 hl1)) ?_
    refine bdE hr fun y3 hy3 hr=>?_
    refine CB [(0,6)] [] (q8g (m:=m) hy3) ?_
    refine V rfl ?_
    refine AL.nil ?_
    refine AW.seq (AW.seq (AW.regL ?_))
    iterate 2 refine V rfl ?_
    refine IF (Int.natCast_nonneg _) hxk1 ?_
    refine V rfl ?_
    refine bdE hr fun y4 hy4 hr=>?_
    refine CB [] [] (q2y (m:=m) hy4) ?_
    refine V rfl ?_
    refine ifE hr (fun h3 hr=>?_) fun h3 hr=>?_
    ·refine VF rfl (bnF h3) ?_
     iterate 2 refine V rfl ?_
     refine IF (Int.natCast_nonneg _) hxk1 ?_
     iterate 3 refine V rfl ?_
     refine LE ?_
     iterate 2 refine V rfl ?_
     refine AL.nil ?_
     refine ifE hr (fun h4 hr=>?_) fun h4 hr=>?_
     ·refine AW.cF rfl (nF h4) ?_
      refine AW.skip ?_
      refine AW.seq (AW.regL ?_)
      refine V rfl ?_
      refine AL.nil ?_
      refine AW.block ?_
      refine AW.lenR 6 rfl fun hl2=>?_
      refine bdE hr fun q3 hqq3 hr=>?_
      obtain⟨s4,s5⟩:=q3
      refine AW.eachL hqq3 hl2 7 (fun k2 (s4,s5)=>[(2,.d m (.sl 2 (a2.map Relation.D))),(3,.pb 0 0),(4,.pb 1 0),(6,.pb 2 0),(8,.pb 5 0),(9,.d .fz (.i .i64 (k1:Int))),(10,.ref 6 none),(11,.d .fz (.i .i64 (k2:Int))),(49,.d m (.sl 2 (a2.map Relation.D))),(50,.d .fz (.i .i64 (k1:Int))),(51,.pf m (Relation.l xk1)),(52,.pf m (Relation.l xk1)),(53,.d .fz (.i .i64 xk1.N)),(54,.ref 6 none),(55,.d .fz (.i .i64 (y3.length:Int))),(56,.d .fz (.b (!(decide (xk1.N=(y3.length:Int))))))]) (fun k2 (s4,s5)=>[(4,.row .fz 1 (s4.map (A.D.i .i64))),(5,.box [.d .fz (.i .i64 s5),.ref 4 none])]) (GH.trans (GH.bw (q:=0) [.d m (.sl 2 (a0.Symbols.map Symbol.D)),.u] (.cons .rfl (.cons .u .nil)) rfl) (GH.renK hS [(0,0),(1,1),(2,2),(3,3),(4,4),(5,5),(6,6)] 7)) (fun k2 xk2 sk2 ok2 hxk2 hr hltk2=>?_) fun k2 hltk2=>?_
      ·obtain⟨s4,s5⟩:=sk2
       refine AW.seq (AW.seq (AW.regL ?_))
       iterate 2 refine V rfl ?_
       refine LE ?_
       refine V rfl ?_
       refine AL.nil ?_
       refine AW.cT rfl (dT hltk2) ?_
       refine AW.skip ?_
       refine AW.seq (AW.block (AW.seq (AW.regL ?_)))
       refine V rfl ?_
       refine AL.nil ?_
       refine AW.block ?_
       refine AW.lenR 6 rfl fun hl3=>?_
       refine bdE hr fun q4 hqq4 hr=>?_
       obtain⟨s6,s7⟩:=q4
       refine AW.eachL hqq4 hl3 7 (fun k3 (s6,s7)=>[(2,.d m (.sl 2 (a2.map Relation.D))),(3,.pb 0 0),(4,.pb 1 0),(6,.pb 2 0),(8,.pb 5 0),(9,.d .fz (.i .i64 (k1:Int))),(10,.ref 6 none),(11,.d .fz (.i .i64 (k2:Int))),(12,.d .fz (.i .i64 (k3:Int))),(49,.d m (.sl 2 (a2.map Relation.D))),(50,.d .fz (.i .i64 (k1:Int))),(51,.pf m (Relation.l xk1)),(52,.pf m (Relation.l xk1)),(53,.d .fz (.i .i64 xk1.N)),(54,.ref 6 none),(55,.d .fz (.i .i64 (y3.length:Int))),(56,.d .fz (.b (!(decide (xk1.N=(y3.length:Int))))))]) (fun k3 (s6,s7)=>[(4,.row .fz 1 (s6.map (A.D.i .i64))),(5,.box [.d .fz (.i .i64 s7),.ref 4 none])]) (GH.trans (GH.bw (q:=0) [.d m (.sl 2 (a0.Symbols.map Symbol.D)),.u] (.cons .rfl (.cons .u .nil)) rfl) (GH.renK hS [(0,0),(1,1),(2,2),(3,3),(4,4),(5,5),(6,6)] 7)) (fun k3 xk3 sk3 ok3 hxk3 hr hltk3=>?_) fun k3 hltk3=>?_
       ·obtain⟨s6,s7⟩:=sk3
        refine AW.seq (AW.seq (AW.regL ?_))
        iterate 2 refine V rfl ?_
        refine LE ?_
        refine V rfl ?_
        refine AL.nil ?_
        refine AW.cT rfl (dT hltk3) ?_
        refine AW.skip ?_
        refine bdE hr fun q5 hqq5 hr=>?_
        obtain⟨s8,s9⟩:=q5
        refine AW.seq (AW.cut1 7 [(2,.d m (.sl 2 (a2.map Relation.D))),(3,.pb 0 0),(4,.pb 1 0),(6,.pb 2 0),(8,.pb 5 0),(9,.d .fz (.i .i64 (k1:Int))),(10,.ref 6 none),(11,.d .fz (.i .i64 (k2:Int))),(12,.d .fz (.i .i64 (k3:Int))),(49,.d m (.sl 2 (a2.map Relation.D))),(50,.d .fz (.i .i64 (k1:Int))),(51,.pf m (Relation.l xk1)),(52,.pf m (Relation.l xk1)),(53,.d .fz (.i .i64 xk1.N)),(54,.ref 6 none),(55,.d .fz (.i .i64 (y3.length:Int))),(56,.d .fz (.b (!(decide (xk1.N=(y3.length:Int))))))] [(4,.row .fz 1 (s8.map (A.D.i .i64))),(5,.box [.d .fz (.i .i64 s9),.ref 4 none])] ?_ ?_)
        ·replace hr:=hqq5
         refine AW.block (AW.seq (AW.regL ?_))
         iterate 2 refine V rfl ?_
         refine IF (Int.natCast_nonneg _) hxk1 ?_
         iterate 3 refine V rfl ?_
         refine bdE hr fun y5 hy5 hr=>?_
         refine CB [] [] (z0G (m:=m) hy5) ?_
         refine AL.nil ?_
         refine ifE hr (fun h5 hr=>?_) fun h5 hr=>?_
         ·refine AW.cT rfl h5 ?_
          refine AW.drawL (h:=?_)
          iterate 3 refine V rfl ?_
          refine IE hxk2 (Int.natCast_nonneg _) ?_
          refine LP hxk2 ?_
          iterate 2 refine V rfl ?_
          refine IE hxk3 (Int.natCast_nonneg _) ?_
          refine LP hxk3 ?_
          refine bdE hr fun y6 hy6 hr=>?_
          refine CB [(0,7)] [4] (q5V (m:=.bo) hy6) ?_
          refine SB ?_
          refine AL.nil ?_
          cases hr
          exact GH.trans (GH.bw (q:=0) [.d m (.sl 2 (a0.Symbols.map Symbol.D)),.u] (.cons .rfl (.cons .u .nil)) rfl) (GH.renK hS [(0,0),(1,1),(2,2),(3,3),(7,4),(5,5),(6,6)] 7)
         ·refine AW.cF rfl (bF h5) ?_
          refine AW.skip ?_
          cases hr
          exact GH.trans (GH.bw (q:=0) [.d m (.sl 2 (a0.Symbols.map Symbol.D)),.u] (.cons .rfl (.cons .u .nil)) rfl) (GH.renK hS [(0,0),(1,1),(2,2),(3,3),(4,4),(5,5),(6,6)] 7)
        ·refine AW.regL ?_
         refine V rfl ?_
         refine OB _ (q2c (p:=k3) (q:=1) (q1n hltk3 hl3)) ?_
         refine V rfl ?_
         refine AL.nil ?_
         cases hr
         exact GH.trans (GH.bw (q:=0) [.d m (.sl 2 (a0.Symbols.map Symbol.D)),.u] (.cons .rfl (.cons .u .nil)) rfl) (GH.renK hS [(0,0),(1,1),(2,2),(3,3),(4,4),(5,5),(6,6)] 7)
       ·refine AW.seq (AW.seq (AW.regL ?_))
        iterate 2 refine V rfl ?_
        refine LE ?_
        refine V rfl ?_
        refine AL.nil ?_
        refine AW.cF rfl (dF hltk3) ?_
        refine AW.exit ?_
        refine AW.regL ?_
        refine V rfl ?_
        refine OB _ (q2c (p:=k2) (q:=1) (q1n hltk2 hl2)) ?_
        refine V rfl ?_
        refine AL.nil ?_
        cases hr
        exact GH.trans (GH.bw (q:=0) [.d m (.sl 2 (a0.Symbols.map Symbol.D)),.u] (.cons .rfl (.cons .u .nil)) rfl) (GH.renK hS [(0,0),(1,1),(2,2),(3,3),(4,4),(5,5),(6,6)] 7)
      ·refine AW.seq (AW.seq (AW.regL ?_))
       iterate 2 refine V rfl ?_
       refine LE ?_
       refine V rfl ?_
       refine AL.nil ?_
       refine AW.cF rfl (dF hltk2) ?_
       refine AW.exit ?_
       refine AW.regL ?_
       refine V rfl ?_
       refine OB _ (q2c (p:=k1) (q:=1) (q1n hltk1 hl1)) ?_
       refine V rfl ?_
       refine AL.nil ?_
       cases hr
       exact⟨_,rfl,GH.trans (GH.bw (q:=0) [.d m (.sl 2 (a0.Symbols.map Symbol.D)),.u] (.cons .rfl (.cons .u .nil)) rfl) (GH.renK hS [(0,0),(1,1),(2,2),(3,3),(4,4),(5,5)] 6)⟩
     ·refine AW.cT rfl (nT h4) ?_
      refine AW.seq (AW.regL ?_)
      refine V rfl ?_
      refine SB ?_
      refine AL.nil ?_
      refine AW.ret ?_
      refine endA.gh (GH.nlB (q:=2) (c:=1) (r:=7) .fz 1 rfl rfl rfl) ?_
      cases hr
      cases hik1 _ rfl
      rename_i hr
      cases hr
      exact endA.renK [(7,0)] 1 hS
    ·refine VT rfl (bnT h3) ?_
     refine AL.off ?_
     refine AL.off ?_
     refine AL.off ?_
     refine AL.off ?_
     refine AL.off ?_
     refine AL.off ?_
     refine AL.off ?_
     refine AL.off ?_
     refine V rfl ?_
     refine AL.nil ?_
     refine AW.cT rfl rfl ?_
     refine AW.seq (AW.regL ?_)
     refine V rfl ?_
     refine SB ?_
     refine AL.nil ?_
     refine AW.ret ?_
     refine endA.gh (GH.nlB (q:=2) (c:=1) (r:=7) .fz 1 rfl rfl rfl) ?_
     cases hr
     cases hik1 _ rfl
     rename_i hr
     cases hr
     exact endA.renK [(7,0)] 1 hS
   ·subst ek1
    obtain⟨s2,s3⟩:=sk1
    refine AW.seq (AW.seq (AW.regL ?_))
    iterate 2 refine V rfl ?_
    refine LF ?_
    refine V rfl ?_
    refine AL.nil ?_
    refine AW.cF rfl (dF hltk1) ?_
    refine AW.exit ?_
    refine AW.seq (AW.regL ?_)
    refine V rfl ?_
    refine bdE hr fun y7 hy7 hr=>?_
    refine CB [(0,6)] [4] (q9g (m:=.bo) hy7) ?_
    refine SB ?_
    refine AL.nil ?_
    refine AW.ret ?_
    cases hr
    exact endA.renK [(6,0)] 1 hS
end Go.Proofs.YtiojgbiimbefiaaGreat
