/- What some functions of the program compute, as partial functions on plain data, and that they do; each lemma bears its conditions in its statement. -/
import Derived.Test.YtiojgbiimbefiaaGreatLift3
set_option linter.unusedVariables false
set_option linter.unusedSimpArgs false
set_option linter.ambiguousOpen false
set_option linter.unusedSectionVars false
set_option linter.unnecessarySimpa false
set_option maxRecDepth 100000
set_option maxHeartbeats 40000000
noncomputable section
namespace Go.Proofs.YtiojgbiimbefiaaGreat
open Go Go.E Go.A
def q2z (a0:Relation)(a1:Int)(a2:Int):Option Relation:=
 (q3R a0).bind fun y1=>
 (q1L a0).bind fun y2=>
 (
 if y2=true then (
 grd (I64 (a0.N - 1)) <|
 (q2F a1 0 (a0.N - 1)).bind fun y3=>
 some y3
 ) else (
 some false
 )
 ).bind fun s1=>
 (
 if s1=true then (
 grd (I64 (a0.N - 1)) <|
 (q2F a2 0 (a0.N - 1)).bind fun y4=>
 some y4
 ) else (
 some false
 )
 ).bind fun s2=>
 if s2=true then (
 grd (0≤a1) <|
 (y1.Rows[a1.toNat]?).bind fun x1=>
 grd (0≤a2) <|
 grd (0≤a2∧a2 < 63) <|
 grd (0≤x1∧0≤((2 ^ a2.toNat:Nat):Int)) <|
 some (⟨y1.N,(List.set y1.Rows a1.toNat ((x1.toNat ||| ((2 ^ a2.toNat:Nat):Int).toNat:Nat):Int))⟩:Relation)
 ) else (
 some y1
 )
theorem q5V {m:Md}{a0:Relation}{a1:Int}{a2:Int}{r:Relation}(hr:q2z a0 a1 a2=some r):Ok Tryz.prog 29 [Relation.x m a0,.d .fz (.i .i64 a1),.d .fz (.i .i64 a2)] [] (.ag [.d .fz (.i .i64 r.N),.ref 0 none]) [.row .fz 1 (r.Rows.map (A.D.i .i64))]:=by
 refine Ok.enter rfl Tryz.func29 rfl rfl rfl fun S hS=>?_
 unfold q2z at hr
 refine AW.seq (AW.regL ?_)
 refine BX 0 ?_
 refine NV 1 ?_
 refine AL.nil ?_
 refine AW.seq (AW.regL ?_)
 refine V rfl ?_
 refine bdE hr fun y1 hy1 hr=>?_
 refine CB [(0,2)] [] (q7X (m:=m) hy1) ?_
 refine NV 3 ?_
 refine SB ?_
 refine AL.nil ?_
 refine AW.seq (AW.seq (AW.regL ?_))
 refine V rfl ?_
 refine bdE hr fun y2 hy2 hr=>?_
 refine CB [] [] (q2y (m:=m) hy2) ?_
 refine bdE hr fun s1 hqq1 hr=>?_
 refine AL.meet1 7 [(1,.d .fz (.i .i64 a1)),(2,.d .fz (.i .i64 a2)),(3,.pb 0 0),(6,.pb 1 0),(7,.pb 3 0),(18,.d .fz (.b s1))] ?_ ?_
 ·replace hr:=hqq1
  refine ifE hr (fun h1 hr=>?_) fun h1 hr=>?_
  ·refine VT rfl h1 ?_
   iterate 3 refine V rfl ?_
   refine ggE hr fun g1 hr=>?_
   refine OB _ (bSub g1) ?_
   refine bdE hr fun y3 hy3 hr=>?_
   refine CB [] [] (q3b hy3) ?_
   refine V rfl ?_
   refine AL.nil ?_
   cases hr
   exact q1u
  ·refine VF rfl (bF h1) ?_
   refine AL.off ?_
   refine AL.off ?_
   refine AL.off ?_
   refine AL.off ?_
   refine AL.off ?_
   refine V rfl ?_
   refine AL.nil ?_
   cases hr
   exact q1u
 ·refine bdE hr fun s2 hqq2 hr=>?_
  refine AL.meet1 7 [(1,.d .fz (.i .i64 a1)),(2,.d .fz (.i .i64 a2)),(6,.pb 1 0),(7,.pb 3 0),(25,.d .fz (.b s2))] ?_ ?_
  ·replace hr:=hqq2
   refine ifE hr (fun h2 hr=>?_) fun h2 hr=>?_
   ·refine VT rfl h2 ?_
    iterate 3 refine V rfl ?_
    refine ggE hr fun g2 hr=>?_
    refine OB _ (bSub g2) ?_
    refine bdE hr fun y4 hy4 hr=>?_
    refine CB [] [] (q3b hy4) ?_
    refine V rfl ?_
    refine AL.nil ?_
    cases hr
    exact q1u
   ·refine VF rfl (bF h2) ?_
    refine AL.off ?_
    refine AL.off ?_
    refine AL.off ?_
    refine AL.off ?_
    refine AL.off ?_
    refine V rfl ?_
    refine AL.nil ?_
    cases hr
    exact q1u
  ·refine AL.nil ?_
   refine ifE hr (fun h3 hr=>?_) fun h3 hr=>?_
   ·refine AW.cT rfl h3 ?_
    refine AW.drawL (h:=?_)
    iterate 6 refine V rfl ?_
    refine ggE hr fun g3 hr=>?_
    refine bdE hr fun x1 hx1 hr=>?_
    refine IE hx1 g3 ?_
    refine LP hx1 ?_
    refine V rfl ?_
    refine ggE hr fun g4 hr=>?_
    refine CIU g4 rfl ?_
    refine ggE hr fun g5 hr=>?_
    refine OB _ (z6l g5) ?_
    refine ggE hr fun g6 hr=>?_
    refine OB _ (bOrI g6) ?_
    refine IE hx1 g3 ?_
    refine SE ((x1.toNat ||| ((2 ^ a2.toNat:Nat):Int).toNat:Nat):Int) hx1 ?_
    refine AL.nil ?_
    refine AW.seq (AW.regL ?_)
    refine V rfl ?_
    refine SB ?_
    refine AL.nil ?_
    refine AW.ret ?_
    cases hr
    exact endA.renK [(2,0)] 1 hS
   ·refine AW.cF rfl (bF h3) ?_
    refine AW.skip ?_
    refine AW.seq (AW.regL ?_)
    refine V rfl ?_
    refine SB ?_
    refine AL.nil ?_
    refine AW.ret ?_
    cases hr
    exact endA.renK [(2,0)] 1 hS
def q7N (o0:l1Cur)(k1:Nat)(xk1:Attribute):Nat→Attribute→(Int × Int × (List Int) × Int)→Option (Int × Int × (List Int) × Int):=fun k2 xk2 (s5,s6,s7,s8)=>
 (
 (
 if xk1.Mode=1 then (
 some (decide (xk2.Mode=2))
 ) else (
 some false
 )
 ).bind fun s13=>
 (
 if s13=true then (
 (q1G 2 (⟨o0.b,s5,s6⟩:l1Cur)).bind fun (y3,z1)=>
 some (y3,z1.i,z1.h)
 ) else (
 some (false,s5,s6)
 )
 ).bind fun (s17,s18,s19)=>
 if s17=true then (
 (q2z (⟨s8,s7⟩:Relation) (k1:Int) (k2:Int)).bind fun y4=>
 some (y4.Rows,y4.N,s18,s19)
 ) else (
 some (s7,s8,s18,s19)
 )
 ).bind fun (s9,s10,s11,s12)=>
 some (s11,s12,s9,s10)
def q7O (o0:l1Cur)(y1:(List Attribute)):Nat→Attribute→(Int × Int × (List Int) × Int)→Option (Int × Int × (List Int) × Int):=fun k1 xk1 (s1,s2,s3,s4)=>
 (eachL (q7N o0 k1 xk1) 0 y1 (s1,s2,s3,s4)).bind fun (s5,s6,s7,s8)=>
 some (s5,s6,s7,s8)
def q4I (a1:Grammar)(a2:ByteArray)(o0:l1Cur):Option (Relation × l1Cur):=
 (q1X a1 a2).bind fun y1=>
 (q1x (y1.length:Int)).bind fun y2=>
 (eachL (q7O o0 y1) 0 y1 (o0.i,o0.h,y2.Rows,y2.N)).bind fun (s1,s2,s3,s4)=>
 some ((⟨s4,s3⟩:Relation),(⟨o0.b,s1,s2⟩:l1Cur))
theorem z1f {m:Md}{a1:Grammar}{a2:ByteArray}{o0:l1Cur}{r:(Relation × l1Cur)}(hr:q4I a1 a2 o0=some r):Ok Tryz.prog 16 [.pb 0 0,Grammar.y m a1,.d .fz (.s a2)] [.box [.d .fz (.sl 1 (o0.b.map byD)),.d .fz (.i .i64 o0.i),.d .fz (.i .i64 o0.h)]] (.ag [.d .fz (.i .i64 r.1.N),.ref 1 none]) [.box [.d .fz (.sl 1 (o0.b.map byD)),.d .fz (.i .i64 r.2.i),.d .fz (.i .i64 r.2.h)],.row .fz 1 (r.1.Rows.map (A.D.i .i64))]:=by
 refine Ok.enter rfl Tryz.func16 rfl rfl rfl fun S hS=>?_
 unfold q4I at hr
 refine AW.seq (AW.regL ?_)
 refine BX 1 ?_
 refine NV 2 ?_
 refine AL.nil ?_
 refine AW.seq (AW.regL ?_)
 iterate 2 refine V rfl ?_
 refine bdE hr fun y1 hy1 hr=>?_
 refine CB [(0,3)] [] (q4m (m:=m) hy1) ?_
 refine V rfl ?_
 refine AL.nil ?_
 refine AW.seq (AW.regL ?_)
 refine V rfl ?_
 refine LE ?_
 refine bdE hr fun y2 hy2 hr=>?_
 refine CB [(0,4)] [] (q3t hy2) ?_
 refine NV 5 ?_
 refine SB ?_
 refine AL.nil ?_
 refine AW.seq (AW.seq (AW.regL ?_))
 refine V rfl ?_
 refine AL.nil ?_
 refine AW.block ?_
 refine AW.lenR 3 rfl fun hl1=>?_
 refine bdE hr fun q1 hqq1 hr=>?_
 obtain⟨s1,s2,s3,s4⟩:=q1
 refine AW.eachL hqq1 hl1 6 (fun k1 (s1,s2,s3,s4)=>[(0,.pb 0 0),(6,.pb 2 0),(7,.ref 3 none),(8,.pb 5 0),(9,.d .fz (.i .i64 (k1:Int)))]) (fun k1 (s1,s2,s3,s4)=>[(0,.box [.d .fz (.sl 1 (o0.b.map byD)),.d .fz (.i .i64 s1),.d .fz (.i .i64 s2)]),(4,.row .fz 1 (s3.map (A.D.i .i64))),(5,.box [.d .fz (.i .i64 s4),.ref 4 none])]) (GH.trans (GH.bw (q:=1) [.d m (.sl 2 (a1.Symbols.map Symbol.D)),.u] (.cons .rfl (.cons .u .nil)) rfl) (GH.renK hS [(0,0),(1,1),(2,2),(3,3),(4,4),(5,5)] 6)) (fun k1 xk1 sk1 ok1 hxk1 hr hltk1=>?_) fun k1 hltk1=>?_
 ·obtain⟨s1,s2,s3,s4⟩:=sk1
  refine AW.seq (AW.seq (AW.regL ?_))
  iterate 2 refine V rfl ?_
  refine LE ?_
  refine V rfl ?_
  refine AL.nil ?_
  refine AW.cT rfl (dT hltk1) ?_
  refine AW.skip ?_
  refine AW.seq (AW.block (AW.seq (AW.regL ?_)))
  refine V rfl ?_
  refine AL.nil ?_
  refine AW.block ?_
  refine AW.lenR 3 rfl fun hl2=>?_
  refine bdE hr fun q2 hqq2 hr=>?_
  obtain⟨s5,s6,s7,s8⟩:=q2
  refine AW.eachL hqq2 hl2 6 (fun k2 (s5,s6,s7,s8)=>[(0,.pb 0 0),(6,.pb 2 0),(7,.ref 3 none),(8,.pb 5 0),(9,.d .fz (.i .i64 (k1:Int))),(10,.d .fz (.i .i64 (k2:Int)))]) (fun k2 (s5,s6,s7,s8)=>[(0,.box [.d .fz (.sl 1 (o0.b.map byD)),.d .fz (.i .i64 s5),.d .fz (.i .i64 s6)]),(4,.row .fz 1 (s7.map (A.D.i .i64))),(5,.box [.d .fz (.i .i64 s8),.ref 4 none])]) (GH.trans (GH.bw (q:=1) [.d m (.sl 2 (a1.Symbols.map Symbol.D)),.u] (.cons .rfl (.cons .u .nil)) rfl) (GH.renK hS [(0,0),(1,1),(2,2),(3,3),(4,4),(5,5)] 6)) (fun k2 xk2 sk2 ok2 hxk2 hr hltk2=>?_) fun k2 hltk2=>?_
  ·obtain⟨s5,s6,s7,s8⟩:=sk2
   refine AW.seq (AW.seq (AW.regL ?_))
   iterate 2 refine V rfl ?_
   refine LE ?_
   refine V rfl ?_
   refine AL.nil ?_
   refine AW.cT rfl (dT hltk2) ?_
   refine AW.skip ?_
   refine bdE hr fun q3 hqq3 hr=>?_
   obtain⟨s9,s10,s11,s12⟩:=q3
   refine AW.seq (AW.cut1 6 [(0,.pb 0 0),(6,.pb 2 0),(7,.ref 3 none),(8,.pb 5 0),(9,.d .fz (.i .i64 (k1:Int))),(10,.d .fz (.i .i64 (k2:Int)))] [(0,.box [.d .fz (.sl 1 (o0.b.map byD)),.d .fz (.i .i64 s11),.d .fz (.i .i64 s12)]),(4,.row .fz 1 (s9.map (A.D.i .i64))),(5,.box [.d .fz (.i .i64 s10),.ref 4 none])] ?_ ?_)
   ·replace hr:=hqq3
    refine AW.block (AW.seq (AW.regL ?_))
    iterate 2 refine V rfl ?_
    refine IE hxk1 (Int.natCast_nonneg _) ?_
    refine V rfl ?_
    refine LP hxk1 ?_
    refine V rfl ?_
    refine bdE hr fun s13 hqq4 hr=>?_
    refine AL.meet1 8 [(0,.pb 0 0),(6,.pb 2 0),(7,.ref 3 none),(8,.pb 5 0),(9,.d .fz (.i .i64 (k1:Int))),(10,.d .fz (.i .i64 (k2:Int))),(42,.d .fz (.b s13))] ?_ ?_
    ·replace hr:=hqq4
     refine ifE hr (fun h1 hr=>?_) fun h1 hr=>?_
     ·refine VT rfl (dT h1) ?_
      iterate 2 refine V rfl ?_
      refine IE hxk2 (Int.natCast_nonneg _) ?_
      refine V rfl ?_
      refine LP hxk2 ?_
      iterate 2 refine V rfl ?_
      refine AL.nil ?_
      cases hr
      exact q1u
     ·refine VF rfl (dF h1) ?_
      refine AL.off ?_
      refine AL.off ?_
      refine AL.off ?_
      refine AL.off ?_
      refine AL.off ?_
      refine AL.off ?_
      refine V rfl ?_
      refine AL.nil ?_
      cases hr
      exact q1u
    ·refine bdE hr fun q5 hqq5 hr=>?_
     obtain⟨s17,s18,s19⟩:=q5
     refine AL.meet2 4 6 [(0,.pb 0 0),(6,.pb 2 0),(7,.ref 3 none),(8,.pb 5 0),(9,.d .fz (.i .i64 (k1:Int))),(10,.d .fz (.i .i64 (k2:Int))),(46,.d .fz (.b s17))] [(0,.box [.d .fz (.sl 1 (o0.b.map byD)),.d .fz (.i .i64 s18),.d .fz (.i .i64 s19)])] ?_ ?_
     ·replace hr:=hqq5
      refine ifE hr (fun h2 hr=>?_) fun h2 hr=>?_
      ·refine VT rfl h2 ?_
       refine V rfl ?_
       refine bdE hr fun q6 hq6 hr=>?_
       obtain⟨y3,z1⟩:=q6
       refine CB [(0,0)] [] (q1N hq6) ?_
       refine V rfl ?_
       refine AL.nil ?_
       cases hr
       exact GH.trans (GH.bw (q:=1) [.d m (.sl 2 (a1.Symbols.map Symbol.D)),.u] (.cons .rfl (.cons .u .nil)) rfl) (GH.renK hS [(0,0),(1,1),(2,2),(3,3),(4,4),(5,5)] 6)
      ·refine VF rfl (bF h2) ?_
       refine AL.off ?_
       refine AL.off ?_
       refine V rfl ?_
       refine AL.nil ?_
       cases hr
       exact GH.trans (GH.bw (q:=1) [.d m (.sl 2 (a1.Symbols.map Symbol.D)),.u] (.cons .rfl (.cons .u .nil)) rfl) (GH.renK hS [(0,0),(1,1),(2,2),(3,3),(4,4),(5,5)] 6)
     ·refine AL.nil ?_
      refine ifE hr (fun h3 hr=>?_) fun h3 hr=>?_
      ·refine AW.cT rfl h3 ?_
       refine AW.regL ?_
       iterate 3 refine V rfl ?_
       refine bdE hr fun y4 hy4 hr=>?_
       refine CB [(0,6)] [4] (q5V (m:=.bo) hy4) ?_
       refine SB ?_
       refine AL.nil ?_
       cases hr
       exact GH.trans (GH.bw (q:=1) [.d m (.sl 2 (a1.Symbols.map Symbol.D)),.u] (.cons .rfl (.cons .u .nil)) rfl) (GH.renK hS [(0,0),(1,1),(2,2),(3,3),(6,4),(5,5)] 6)
      ·refine AW.cF rfl (bF h3) ?_
       refine AW.skip ?_
       cases hr
       exact GH.trans (GH.bw (q:=1) [.d m (.sl 2 (a1.Symbols.map Symbol.D)),.u] (.cons .rfl (.cons .u .nil)) rfl) (GH.renK hS [(0,0),(1,1),(2,2),(3,3),(4,4),(5,5)] 6)
   ·refine AW.regL ?_
    refine V rfl ?_
    refine OB _ (q2c (p:=k2) (q:=1) (q1n hltk2 hl2)) ?_
    refine V rfl ?_
    refine AL.nil ?_
    cases hr
    exact GH.trans (GH.bw (q:=1) [.d m (.sl 2 (a1.Symbols.map Symbol.D)),.u] (.cons .rfl (.cons .u .nil)) rfl) (GH.renK hS [(0,0),(1,1),(2,2),(3,3),(4,4),(5,5)] 6)
  ·refine AW.seq (AW.seq (AW.regL ?_))
   iterate 2 refine V rfl ?_
   refine LE ?_
   refine V rfl ?_
   refine AL.nil ?_
   refine AW.cF rfl (dF hltk2) ?_
   refine AW.exit ?_
   refine AW.regL ?_
   refine V rfl ?_
   refine OB _ (q2c (p:=k1) (q:=1) (q1n hltk1 hl1)) ?_
   refine V rfl ?_
   refine AL.nil ?_
   cases hr
   exact GH.trans (GH.bw (q:=1) [.d m (.sl 2 (a1.Symbols.map Symbol.D)),.u] (.cons .rfl (.cons .u .nil)) rfl) (GH.renK hS [(0,0),(1,1),(2,2),(3,3),(4,4),(5,5)] 6)
 ·refine AW.seq (AW.seq (AW.regL ?_))
  iterate 2 refine V rfl ?_
  refine LE ?_
  refine V rfl ?_
  refine AL.nil ?_
  refine AW.cF rfl (dF hltk1) ?_
  refine AW.exit ?_
  refine AW.seq (AW.regL ?_)
  refine V rfl ?_
  refine SB ?_
  refine AL.nil ?_
  refine AW.ret ?_
  cases hr
  exact endA.renK [(0,0),(4,1)] 2 hS
def q7Y (o0:l1Cur)(y1:Int):Nat→(Int × Int × (List Int) × Int)→Option (Int × Int × (List Int) × Int):=fun k1 (s2,s3,s1,s4)=>
 (q1o y1 (⟨o0.b,s2,s3⟩:l1Cur)).bind fun (y4,z3)=>
 (q1o y1 (⟨o0.b,z3.i,z3.h⟩:l1Cur)).bind fun (y5,z4)=>
 (q2z (⟨s4,s1⟩:Relation) y4 y5).bind fun y6=>
 some (z4.i,z4.h,y6.Rows,y6.N)
def q6C (o0:l1Cur):Option (Relation × l1Cur):=
 (q1J ([0,1,2,3,4,5,8,16]:List Int) o0).bind fun (y1,z1)=>
 (q1x y1).bind fun y2=>
 grd (I64 (2*y1)) <|
 grd (I64 ((2*y1)+1)) <|
 (q1o ((2*y1)+1) (⟨o0.b,z1.i,z1.h⟩:l1Cur)).bind fun (y3,z2)=>
 (eachN (q7Y o0 y1) 0 y3.toNat (z2.i,z2.h,y2.Rows,y2.N)).bind fun (s2,s3,s1,s4)=>
 (q1o 16 (⟨o0.b,s2,s3⟩:l1Cur)).bind fun (y7,z5)=>
 if y7=0 then (
 grd (I64 (s4+1)) <|
 some ((⟨(s4+1),s1⟩:Relation),(⟨o0.b,z5.i,z5.h⟩:l1Cur))
 ) else (
 if y7=1 then (
 grd (((s1.length:Int)+1)*8≤140737488355328∧(s1.length:Int)+1≤9223372036854775807) <|
 some ((⟨s4,(s1++[0])⟩:Relation),(⟨o0.b,z5.i,z5.h⟩:l1Cur))
 ) else (
 if y7=2 then (
 if 0 < y1 then (
 (q1J ([(-1),65536,1099511627776]:List Int) (⟨o0.b,z5.i,z5.h⟩:l1Cur)).bind fun (y8,z6)=>
 (s1[0]?).bind fun x1=>
 some ((⟨s4,(List.set s1 0 y8)⟩:Relation),(⟨o0.b,z6.i,z6.h⟩:l1Cur))
 ) else (
 some ((⟨s4,s1⟩:Relation),(⟨o0.b,z5.i,z5.h⟩:l1Cur))
 )
 ) else (
 some ((⟨s4,s1⟩:Relation),(⟨o0.b,z5.i,z5.h⟩:l1Cur))
 )
 )
 )
theorem z4L {o0:l1Cur}{r:(Relation × l1Cur)}(hr:q6C o0=some r):Ok Tryz.prog 18 [.pb 0 0] [.box [.d .fz (.sl 1 (o0.b.map byD)),.d .fz (.i .i64 o0.i),.d .fz (.i .i64 o0.h)]] (.ag [.d .fz (.i .i64 r.1.N),.ref 1 none]) [.box [.d .fz (.sl 1 (o0.b.map byD)),.d .fz (.i .i64 r.2.i),.d .fz (.i .i64 r.2.h)],.row .fz 1 (r.1.Rows.map (A.D.i .i64))]:=by
 refine Ok.enter rfl Tryz.func18 rfl rfl rfl fun S hS=>?_
 unfold q6C at hr
 refine AW.seq (AW.regL ?_)
 refine NV 1 ?_
 refine AL.nil ?_
 refine AW.seq (AW.regL ?_)
 refine V rfl ?_
 refine LIR 2 (m:=.fz) (f:=(A.D.i .i64)) (xs:=([0,1,2,3,4,5,8,16]:List Int)) ?_
 refine bdE hr fun q1 hq1 hr=>?_
 obtain⟨y1,z1⟩:=q1
 refine CB [(0,0)] [2] (q1Z (m:=.bo) hq1) ?_
 refine V rfl ?_
 refine AL.nil ?_
 refine AW.seq (AW.regL ?_)
 refine V rfl ?_
 refine bdE hr fun y2 hy2 hr=>?_
 refine CB [(0,3)] [] (q3t hy2) ?_
 refine NV 4 ?_
 refine SB ?_
 refine AL.nil ?_
 refine AW.seq (AW.regL ?_)
 iterate 2 refine V rfl ?_
 refine ggE hr fun g1 hr=>?_
 refine OB _ (bMul g1) ?_
 refine ggE hr fun g2 hr=>?_
 refine OB _ (bAdd g2) ?_
 refine bdE hr fun q2 hq2 hr=>?_
 obtain⟨y3,z2⟩:=q2
 refine CB [(0,0)] [] (q1p hq2) ?_
 refine V rfl ?_
 refine AL.nil ?_
 refine AW.seq (AW.seq (AW.regL ?_))
 refine V rfl ?_
 refine AL.nil ?_
 refine AW.block ?_
 refine AW.rng (.tmp 5 rfl) fun hl1=>?_
 refine bdE hr fun q3 hqq3 hr=>?_
 obtain⟨s2,s3,s1,s4⟩:=q3
 refine AW.eachN hqq3 5 (fun k1 (s2,s3,s1,s4)=>[(0,.pb 0 0),(2,.pb 1 0),(3,.d .fz (.i .i64 y1)),(4,.pb 4 0),(5,.d .fz (.i .i64 y3)),(6,.d .fz (.i .i64 (k1:Int)))]) (fun k1 (s2,s3,s1,s4)=>[(0,.box [.d .fz (.sl 1 (o0.b.map byD)),.d .fz (.i .i64 s2),.d .fz (.i .i64 s3)]),(3,.row .fz 1 (s1.map (A.D.i .i64))),(4,.box [.d .fz (.i .i64 s4),.ref 3 none])]) (GH.renK hS [(0,0),(1,1),(2,2),(3,3),(4,4)] 5) (fun k1 sk1 ok1 hr hltk1=>?_) ?_
 ·obtain⟨s2,s3,s1,s4⟩:=sk1
  refine AW.seq (AW.seq (AW.regL ?_))
  iterate 3 refine V rfl ?_
  refine AL.nil ?_
  refine AW.cT rfl (dT (ltI hltk1)) ?_
  refine AW.skip ?_
  refine AW.seq (AW.block (AW.drawL (h:=?_)))
  iterate 3 refine V rfl ?_
  refine bdE hr fun q4 hq4 hr=>?_
  obtain⟨y4,z3⟩:=q4
  refine CB [(0,0)] [] (q1p hq4) ?_
  iterate 2 refine V rfl ?_
  refine bdE hr fun q5 hq5 hr=>?_
  obtain⟨y5,z4⟩:=q5
  refine CB [(0,0)] [] (q1p hq5) ?_
  refine bdE hr fun y6 hy6 hr=>?_
  refine CB [(0,5)] [3] (q5V (m:=.bo) hy6) ?_
  refine SB ?_
  refine AL.nil ?_
  refine AW.regL ?_
  refine V rfl ?_
  refine OB _ (q2c (p:=k1) (q:=1) (q1n (ltI hltk1) hl1.2)) ?_
  refine V rfl ?_
  refine AL.nil ?_
  cases hr
  exact GH.renK hS [(0,0),(1,1),(2,2),(5,3),(4,4)] 5
 ·refine AW.seq (AW.seq (AW.regL ?_))
  iterate 3 refine V rfl ?_
  refine AL.nil ?_
  refine AW.cF rfl (dF geI) ?_
  refine AW.exit ?_
  refine AW.seq (AW.seq (AW.regL ?_))
  refine V rfl ?_
  refine bdE hr fun q6 hq6 hr=>?_
  obtain⟨y7,z5⟩:=q6
  refine CB [(0,0)] [] (q1p hq6) ?_
  refine AL.nil ?_
  refine AW.block (AW.seq (AW.regL ?_))
  iterate 2 refine V rfl ?_
  refine AL.nil ?_
  refine ifE hr (fun h1 hr=>?_) fun h1 hr=>?_
  ·refine AW.cT rfl (dT h1) ?_
   refine AW.regL ?_
   iterate 2 refine V rfl ?_
   refine ggE hr fun g3 hr=>?_
   refine OB _ (bAdd g3) ?_
   refine V rfl ?_
   refine SB ?_
   refine AL.nil ?_
   refine AW.seq (AW.regL ?_)
   refine V rfl ?_
   refine SB ?_
   refine AL.nil ?_
   refine AW.ret ?_
   cases hr
   exact endA.renK [(0,0),(3,1)] 2 hS
  ·refine AW.cF rfl (dF h1) ?_
   refine AW.seq (AW.regL ?_)
   iterate 2 refine V rfl ?_
   refine AL.nil ?_
   refine ifE hr (fun h2 hr=>?_) fun h2 hr=>?_
   ·refine AW.cT rfl (dT h2) ?_
    refine AW.regL ?_
    iterate 2 refine V rfl ?_
    refine LIR 5 (m:=.fz) (f:=(A.D.i .i64)) (xs:=([0]:List Int)) ?_
    refine ggE hr fun g4 hr=>?_
    refine APf1 (f:=(A.D.i .i64)) 6 (fun _=>rfl) 8 g4 ?_
    refine V rfl ?_
    refine SB ?_
    refine AL.nil ?_
    refine AW.seq (AW.regL ?_)
    refine V rfl ?_
    refine SB ?_
    refine AL.nil ?_
    refine AW.ret ?_
    cases hr
    exact endA.renK [(0,0),(6,1)] 2 hS
   ·refine AW.cF rfl (dF h2) ?_
    refine AW.seq (AW.regL ?_)
    iterate 2 refine V rfl ?_
    refine AL.nil ?_
    refine ifE hr (fun h3 hr=>?_) fun h3 hr=>?_
    ·refine AW.cT rfl (dT h3) ?_
     refine AW.seq (AW.regL ?_)
     iterate 2 refine V rfl ?_
     refine AL.nil ?_
     refine ifE hr (fun h4 hr=>?_) fun h4 hr=>?_
     ·refine AW.cT rfl (dT h4) ?_
      refine AW.drawL (h:=?_)
      iterate 3 refine V rfl ?_
      refine LIR 5 (m:=.fz) (f:=(A.D.i .i64)) (xs:=([(-1),65536,1099511627776]:List Int)) ?_
      refine bdE hr fun q7 hq7 hr=>?_
      obtain⟨y8,z6⟩:=q7
      refine CB [(0,0)] [5] (q1Z (m:=.bo) hq7) ?_
      refine bdE hr fun x1 hx1 hr=>?_
      refine IE hx1 (Int.natCast_nonneg _) ?_
      refine SE y8 hx1 ?_
      refine AL.nil ?_
      refine AW.seq (AW.regL ?_)
      refine V rfl ?_
      refine SB ?_
      refine AL.nil ?_
      refine AW.ret ?_
      cases hr
      exact endA.renK [(0,0),(3,1)] 2 hS
     ·refine AW.cF rfl (dF h4) ?_
      refine AW.skip ?_
      refine AW.seq (AW.regL ?_)
      refine V rfl ?_
      refine SB ?_
      refine AL.nil ?_
      refine AW.ret ?_
      cases hr
      exact endA.renK [(0,0),(3,1)] 2 hS
    ·refine AW.cF rfl (dF h3) ?_
     refine AW.skip ?_
     refine AW.seq (AW.regL ?_)
     refine V rfl ?_
     refine SB ?_
     refine AL.nil ?_
     refine AW.ret ?_
     cases hr
     exact endA.renK [(0,0),(3,1)] 2 hS
def q5W (y1:Grammar)(y3:l1Cur):Nat→ByteArray→((List Relation) × Int × Int)→Option ((List Relation) × Int × Int):=fun k1 xk1 (s1,s2,s3)=>
 (q4I y1 xk1 (⟨y3.b,s2,s3⟩:l1Cur)).bind fun (y4,z1)=>
 grd (((s1.length:Int)+1)*32≤140737488355328∧(s1.length:Int)+1≤9223372036854775807) <|
 some ((s1++[y4]),z1.i,z1.h)
def q3d (a0:(List UInt8)):Option (Grammar × Rule × (List Relation)):=
 (q6B a0).bind fun (y1,y2)=>
 (q6S a0).bind fun y3=>
 (eachL (q5W y1 y3) 0 y2.Right (([]:List Relation),y3.i,y3.h)).bind fun (s1,s2,s3)=>
 (q1G 12 (⟨y3.b,s2,s3⟩:l1Cur)).bind fun (y5,z2)=>
 if y5=true then (
 (q6C (⟨y3.b,z2.i,z2.h⟩:l1Cur)).bind fun (y6,z3)=>
 grd (((s1.length:Int)+1)*32≤140737488355328∧(s1.length:Int)+1≤9223372036854775807) <|
 some (y1,y2,(s1++[y6]))
 ) else (
 some (y1,y2,s1)
 )
theorem q7Z {a0:(List UInt8)}{r:(Grammar × Rule × (List Relation))}(hr:q3d a0=some r):Ok Tryz.prog 5 [.d .fz (.sl 1 (a0.map byD))] [] (.tu [.ag [.ref 0 none,.d .fz (.sl 6 (r.1.Rules.map Rule.D))],Rule.x .fz r.2.1,.ref 1 none]) [.deep .fz 2 (r.1.Symbols.map Symbol.O) [],.row .fz 2 (r.2.2.map Relation.D)]:=by
 refine Ok.enter rfl Tryz.func5 rfl rfl rfl fun S hS=>?_
 unfold q3d at hr
 refine AW.seq (AW.regL ?_)
 refine NV 0 ?_
 refine NV 1 ?_
 refine V rfl ?_
 refine AL.nil ?_
 refine AW.seq (AW.regL ?_)
 refine V rfl ?_
 refine bdE hr fun q1 hq1 hr=>?_
 obtain⟨y1,y2⟩:=q1
 refine CB [(0,2)] [] (z4K hq1) ?_
 iterate 3 refine V rfl ?_
 refine NV 3 ?_
 refine NV 4 ?_
 refine SB ?_
 refine SB ?_
 refine AL.nil ?_
 refine AW.seq (AW.regL ?_)
 refine V rfl ?_
 refine bdE hr fun y3 hy3 hr=>?_
 refine CB [(0,5)] [] (z3v hy3) ?_
 refine V rfl ?_
 refine AL.nil ?_
 refine AW.seq (AW.regL ?_)
 refine L0 6 Relation.D ?_
 refine V rfl ?_
 refine AL.nil ?_
 refine AW.seq (AW.seq (AW.regL ?_))
 refine V rfl ?_
 refine AL.nil ?_
 refine AW.block ?_
 refine AW.len (.ag 2 (.tu 1 (.tmp 10 rfl) rfl) rfl) fun hl1=>?_
 refine bdE hr fun q2 hqq2 hr=>?_
 obtain⟨s1,s2,s3⟩:=q2
 refine AW.eachL hqq2 hl1 7 (fun k1 (s1,s2,s3)=>[(2,.pb 0 0),(3,.pb 1 0),(5,.pb 3 0),(6,.pb 4 0),(7,.pb 5 0),(8,.ref 6 none),(9,.d .fz (.i .i64 (k1:Int)))]) (fun k1 (s1,s2,s3)=>[(5,.box [.d .fz (.sl 1 (y3.b.map byD)),.d .fz (.i .i64 s2),.d .fz (.i .i64 s3)]),(6,.row .fz 2 (s1.map Relation.D))]) (GH.renK hS [(0,0),(1,1),(2,2),(3,3),(4,4),(5,5),(6,6)] 7) (fun k1 xk1 sk1 ok1 hxk1 hr hltk1=>?_) fun k1 hltk1=>?_
 ·obtain⟨s1,s2,s3⟩:=sk1
  refine AW.seq (AW.seq (AW.regL ?_))
  iterate 3 refine V rfl ?_
  refine LF ?_
  refine V rfl ?_
  refine AL.nil ?_
  refine AW.cT rfl (dT hltk1) ?_
  refine AW.skip ?_
  refine AW.seq (AW.block (AW.drawL (h:=?_)))
  iterate 6 refine V rfl ?_
  refine IF (Int.natCast_nonneg _) hxk1 ?_
  refine V rfl ?_
  refine bdE hr fun q3 hq3 hr=>?_
  obtain⟨y4,z1⟩:=q3
  refine CBz 7 [(0,5),(1,7)] [2] (z1f (m:=.bo) hq3) ?_
  refine LIR 8 (m:=.fz) (f:=Relation.D) (xs:=[y4]) ?_
  refine ggE hr fun g1 hr=>?_
  refine AP1 9 .fz 32 g1 ?_
  refine AL.gh .refl ?_
  refine V rfl ?_
  refine AL.nil ?_
  refine AW.regL ?_
  refine V rfl ?_
  refine OB _ (q2c (p:=k1) (q:=1) (q1n hltk1 hl1)) ?_
  refine V rfl ?_
  refine AL.nil ?_
  cases hr
  exact GH.renK hS [(0,0),(1,1),(2,2),(3,3),(4,4),(5,5),(9,6)] 7
 ·refine AW.seq (AW.seq (AW.regL ?_))
  iterate 3 refine V rfl ?_
  refine LF ?_
  refine V rfl ?_
  refine AL.nil ?_
  refine AW.cF rfl (dF hltk1) ?_
  refine AW.exit ?_
  refine AW.seq (AW.seq (AW.regL ?_))
  refine V rfl ?_
  refine bdE hr fun q4 hq4 hr=>?_
  obtain⟨y5,z2⟩:=q4
  refine CB [(0,5)] [] (q1N hq4) ?_
  refine AL.nil ?_
  refine ifE hr (fun h1 hr=>?_) fun h1 hr=>?_
  ·refine AW.cT rfl h1 ?_
   refine AW.regL ?_
   iterate 2 refine V rfl ?_
   refine bdE hr fun q5 hq5 hr=>?_
   obtain⟨y6,z3⟩:=q5
   refine CB [(0,5),(1,7)] [] (z4L hq5) ?_
   refine AL.fz 7 rfl ?_
   refine LIR 8 (m:=.fz) (f:=Relation.D) (xs:=[y6]) ?_
   refine ggE hr fun g2 hr=>?_
   refine AP1 9 .fz 32 g2 ?_
   refine V rfl ?_
   refine AL.nil ?_
   refine AW.seq (AW.drawL (h:=?_))
   iterate 3 refine V rfl ?_
   refine SB ?_
   refine SB ?_
   refine V rfl ?_
   refine AL.nil ?_
   refine AW.ret ?_
   cases hr
   exact endA.renK [(2,0),(9,1)] 2 hS
  ·refine AW.cF rfl (bF h1) ?_
   refine AW.skip ?_
   refine AW.seq (AW.drawL (h:=?_))
   iterate 3 refine V rfl ?_
   refine SB ?_
   refine SB ?_
   refine V rfl ?_
   refine AL.nil ?_
   refine AW.ret ?_
   cases hr
   exact endA.renK [(2,0),(6,1)] 2 hS
def q3e (a0:Int)(a1:Int)(a2:Int):Option Bool:=
 if a1≤a0 then (
 some (decide (a0≤a2))
 ) else (
 some false
 )
theorem q4t {a0:Int}{a1:Int}{a2:Int}{r:Bool}(hr:q3e a0 a1 a2=some r):Ok Tryz.prog 54 [.d .fz (.i .i64 a0),.d .fz (.i .i64 a1),.d .fz (.i .i64 a2)] [] (.d .fz (.b r)) []:=by
 refine Ok.enter rfl Tryz.func54 rfl rfl rfl fun S hS=>?_
 unfold q3e at hr
 refine AW.seq (AW.regL ?_)
 refine V rfl ?_
 refine AL.nil ?_
 refine AW.seq (AW.regL ?_)
 iterate 3 refine V rfl ?_
 refine ifE hr (fun h1 hr=>?_) fun h1 hr=>?_
 ·refine VT rfl (dT h1) ?_
  iterate 5 refine V rfl ?_
  refine AL.nil ?_
  refine AW.ret ?_
  cases hr
  exact endA.renK [] 0 hS
 ·refine VF rfl (dF h1) ?_
  refine AL.off ?_
  refine AL.off ?_
  refine AL.off ?_
  iterate 2 refine V rfl ?_
  refine AL.nil ?_
  refine AW.ret ?_
  cases hr
  exact endA.renK [] 0 hS
def q3Y (a0:Rule)(a1:Int):Option ByteArray:=
 if a1=0 then (
 some a0.Left
 ) else (
 (q3e a1 1 (a0.Right.length:Int)).bind fun y1=>
 if y1=true then (
 grd (I64 (a1 - 1)) <|
 grd (0≤(a1 - 1)) <|
 (a0.Right[(a1 - 1).toNat]?).bind fun x1=>
 some x1
 ) else (
 some (⟨#[]⟩:ByteArray)
 )
 )
theorem z3F {m:Md}{a0:Rule}{a1:Int}{r:ByteArray}(hr:q3Y a0 a1=some r):Ok Tryz.prog 45 [Rule.x m a0,.d .fz (.i .i64 a1)] [] (.d .fz (.s r)) []:=by
 refine Ok.enter rfl Tryz.func45 rfl rfl rfl fun S hS=>?_
 unfold q3Y at hr
 refine AW.seq (AW.regL ?_)
 refine BX 0 ?_
 refine V rfl ?_
 refine AL.nil ?_
 refine AW.seq (AW.block (AW.seq (AW.regL ?_)))
 iterate 3 refine V rfl ?_
 refine AL.nil ?_
 refine ifE hr (fun h1 hr=>?_) fun h1 hr=>?_
 ·refine AW.cT rfl (dT h1) ?_
  refine AW.seq (AW.regL ?_)
  iterate 3 refine V rfl ?_
  refine AL.nil ?_
  refine AW.ret ?_
  cases hr
  exact endA.renK [] 0 hS
 ·refine AW.cF rfl (dF h1) ?_
  refine AW.seq (AW.regL ?_)
  iterate 3 refine V rfl ?_
  refine LF ?_
  refine bdE hr fun y1 hy1 hr=>?_
  refine CB [] [] (q4t hy1) ?_
  refine V rfl ?_
  refine AL.nil ?_
  refine ifE hr (fun h2 hr=>?_) fun h2 hr=>?_
  ·refine AW.cT rfl h2 ?_
   refine AW.seq (AW.regL ?_)
   iterate 3 refine V rfl ?_
   refine ggE hr fun g1 hr=>?_
   refine OB _ (bSub g1) ?_
   refine ggE hr fun g2 hr=>?_
   refine bdE hr fun x1 hx1 hr=>?_
   refine IF g2 hx1 ?_
   iterate 2 refine V rfl ?_
   refine AL.nil ?_
   refine AW.ret ?_
   cases hr
   exact endA.renK [] 0 hS
  ·refine AW.cF rfl (bF h2) ?_
   refine AW.skip ?_
   refine AW.seq (AW.regL ?_)
   refine V rfl ?_
   refine AL.nil ?_
   refine AW.ret ?_
   cases hr
   exact endA.renK [] 0 hS
def q4j (a1:ByteArray):Nat→Symbol→Unit→Option (Unit ⊕ (Symbol × Bool)):=fun k1 xk1 _=>
 if xk1.Name=a1 then (
 some (.inr (xk1,true))
 ) else (
 some (.inl ())
 )
def q3H (a0:Grammar)(a1:ByteArray):Option (Symbol × Bool):=
 (findL (q4j a1) 0 a0.Symbols ()).bind <| onr (fun r1=>some r1) fun _=>
 some ((⟨(⟨#[]⟩:ByteArray),[]⟩:Symbol),false)
theorem z1g {m:Md}{a0:Grammar}{a1:ByteArray}{r:(Symbol × Bool)}(hr:q3H a0 a1=some r):Ok Tryz.prog 49 [Grammar.y m a0,.d .fz (.s a1)] [] (.tu [Symbol.x m r.1,.d .fz (.b r.2)]) []:=by
 refine Ok.enter rfl Tryz.func49 rfl rfl rfl fun S hS=>?_
 unfold q3H at hr
 refine AW.seq (AW.regL ?_)
 refine BX 0 ?_
 refine NV 1 ?_
 refine V rfl ?_
 refine AL.nil ?_
 refine AW.seq (AW.seq (AW.regL ?_))
 iterate 2 refine V rfl ?_
 refine LF ?_
 refine V rfl ?_
 refine AL.nil ?_
 refine AW.block ?_
 refine AW.len (.ag 0 (.tmp 0 rfl) rfl) fun hl1=>?_
 refine bdE hr fun q1 hqq1 hr=>?_
 refine AW.findL hqq1 hl1 2 (fun k1 _=>[(1,.d .fz (.s a1)),(4,.pb 1 0),(9,.d m (.sl 2 (a0.Symbols.map Symbol.D))),(10,.d .fz (.i .i64 (a0.Symbols.length:Int))),(11,.d .fz (.i .i64 (k1:Int)))]) (fun k1 _=>[]) (GH.trans (GH.bw (q:=0) [.d m (.sl 2 (a0.Symbols.map Symbol.D)),.u] (.cons .rfl (.cons .u .nil)) rfl) (GH.renK hS [(0,0),(1,1)] 2)) (fun k1 xk1 sk1 ok1 hxk1 hr hltk1 hik1=>?_) fun k1 sk1 ek1 hltk1=>?_
 ·refine AW.seq (AW.regL ?_)
  refine V rfl ?_
  refine AL.nil ?_
  refine AW.seq (AW.cT rfl (dT hltk1) ?_)
  refine AW.skip ?_
  refine AW.seq (AW.block (AW.seq (AW.regL ?_)))
  refine IF (Int.natCast_nonneg _) hxk1 ?_
  refine V rfl ?_
  refine NV 2 ?_
  refine SB ?_
  refine AL.nil ?_
  refine AW.seq (AW.regL ?_)
  iterate 4 refine V rfl ?_
  refine AL.nil ?_
  refine ifE hr (fun h1 hr=>?_) fun h1 hr=>?_
  ·refine AW.cT rfl (dT h1) ?_
   refine AW.seq (AW.regL ?_)
   refine V rfl ?_
   refine SB ?_
   refine V rfl ?_
   refine AL.nil ?_
   refine AW.ret ?_
   cases hr
   cases hik1 _ rfl
   rename_i hr
   cases hr
   exact endA.renK [] 0 hS
  ·refine AW.cF rfl (dF h1) ?_
   refine AW.skip ?_
   refine AW.regL ?_
   refine OB _ (q2c (p:=k1) (q:=1) (q1n hltk1 hl1)) ?_
   refine V rfl ?_
   refine AL.nil ?_
   cases hr
   exact⟨_,rfl,GH.trans (GH.bw (q:=0) [.d m (.sl 2 (a0.Symbols.map Symbol.D)),.u] (.cons .rfl (.cons .u .nil)) rfl) (GH.renK hS [(0,0),(1,1)] 2)⟩
 ·subst ek1
  refine AW.seq (AW.regL ?_)
  refine V rfl ?_
  refine AL.nil ?_
  refine AW.seq (AW.cF rfl (dF hltk1) ?_)
  refine AW.exit ?_
  refine AW.seq (AW.regL ?_)
  refine V rfl ?_
  refine SB ?_
  refine V rfl ?_
  refine AL.nil ?_
  refine AW.ret ?_
  cases hr
  exact endA.ren [] 0 (.inr rfl) hS rfl rfl rfl (.tu (.cons (.ag (.cons .rfl (.cons .nld .nil))) (.cons .rfl .nil))) rfl rfl
def q5X:Nat→Attribute→((List Attribute))→Option ((List Attribute)):=fun k1 xk1 s1=>
 (
 if xk1.Mode=1 then (
 grd (((s1.length:Int)+1)*40≤140737488355328∧(s1.length:Int)+1≤9223372036854775807) <|
 some (s1++[xk1])
 ) else (
 if xk1.Mode=2 then (
 grd (((s1.length:Int)+1)*40≤140737488355328∧(s1.length:Int)+1≤9223372036854775807) <|
 some (s1++[xk1])
 ) else (
 some s1
 )
 )
 ).bind fun s2=>
 some s2
def q1H (a0:Grammar)(a1:ByteArray):Option (List Attribute):=
 (q3H a0 a1).bind fun (y1,y2)=>
 (eachL q5X 0 y1.Attributes ([]:List Attribute)).bind fun s1=>
 some s1
theorem q4o {m:Md}{a0:Grammar}{a1:ByteArray}{r:(List Attribute)}(hr:q1H a0 a1=some r):Ok Tryz.prog 21 [Grammar.y m a0,.d .fz (.s a1)] [] (.ref 0 none) [.row .fz 4 (r.map Attribute.D)]:=by
 refine Ok.enter rfl Tryz.func21 rfl rfl rfl fun S hS=>?_
 unfold q1H at hr
 refine AW.seq (AW.regL ?_)
 refine BX 0 ?_
 refine V rfl ?_
 refine AL.nil ?_
 refine AW.seq (AW.regL ?_)
 refine L0 1 Attribute.D ?_
 refine V rfl ?_
 refine AL.nil ?_
 refine AW.seq (AW.regL ?_)
 iterate 2 refine V rfl ?_
 refine bdE hr fun q1 hq1 hr=>?_
 obtain⟨y1,y2⟩:=q1
 refine CB [] [] (z1g (m:=m) hq1) ?_
 iterate 3 refine V rfl ?_
 refine NV 2 ?_
 refine SB ?_
 refine V rfl ?_
 refine AL.nil ?_
 refine AW.seq (AW.seq (AW.regL ?_))
 iterate 2 refine V rfl ?_
 refine LF ?_
 refine V rfl ?_
 refine AL.nil ?_
 refine AW.block ?_
 refine AW.len (.ag 1 (.tu 0 (.tmp 11 rfl) rfl) rfl) fun hl1=>?_
 refine bdE hr fun s1 hqq2 hr=>?_
 refine AW.eachL hqq2 hl1 3 (fun k1 s1=>[(5,.ref 1 none),(18,.d m (.sl 4 (y1.Attributes.map Attribute.D))),(19,.d .fz (.i .i64 (y1.Attributes.length:Int))),(20,.d .fz (.i .i64 (k1:Int)))]) (fun k1 s1=>[(1,.row .fz 4 (s1.map Attribute.D))]) (GH.trans (GH.bw (q:=0) [.d m (.sl 2 (a0.Symbols.map Symbol.D)),.u] (.cons .rfl (.cons .u .nil)) rfl) (GH.renK hS [(0,0),(1,1),(2,2)] 3)) (fun k1 xk1 sk1 ok1 hxk1 hr hltk1=>?_) fun k1 hltk1=>?_
 ·obtain⟨s1,rfl⟩:∃ y,y=sk1:=⟨_,rfl⟩
  refine AW.seq (AW.regL ?_)
  refine V rfl ?_
  refine AL.nil ?_
  refine AW.seq (AW.cT rfl (dT hltk1) ?_)
  refine AW.skip ?_
  refine bdE hr fun s2 hqq3 hr=>?_
  refine AW.seq (AW.cut1 3 [(5,.ref 1 none),(18,.d m (.sl 4 (y1.Attributes.map Attribute.D))),(19,.d .fz (.i .i64 (y1.Attributes.length:Int))),(20,.d .fz (.i .i64 (k1:Int)))] [(1,.row .fz 4 (s2.map Attribute.D))] ?_ ?_)
  ·replace hr:=hqq3
   refine AW.block (AW.seq (AW.regL ?_))
   refine IF (Int.natCast_nonneg _) hxk1 ?_
   refine V rfl ?_
   refine NV 3 ?_
   refine SB ?_
   refine AL.nil ?_
   refine AW.seq (AW.regL ?_)
   iterate 3 refine V rfl ?_
   refine ifE hr (fun h1 hr=>?_) fun h1 hr=>?_
   ·refine VT rfl (dT h1) ?_
    refine AL.off ?_
    refine AL.off ?_
    refine AL.off ?_
    refine V rfl ?_
    refine AL.nil ?_
    refine AW.cT rfl rfl ?_
    refine AW.regL ?_
    iterate 2 refine V rfl ?_
    refine LIR 4 (m:=.fz) (f:=Attribute.D) (xs:=[xk1]) ?_
    refine ggE hr fun g1 hr=>?_
    refine APf1 (f:=Attribute.D) 5 (fun _=>rfl) 40 g1 ?_
    refine V rfl ?_
    refine AL.nil ?_
    cases hr
    exact GH.trans (GH.bw (q:=0) [.d m (.sl 2 (a0.Symbols.map Symbol.D)),.u] (.cons .rfl (.cons .u .nil)) rfl) (GH.renK hS [(0,0),(5,1),(2,2)] 3)
   ·refine VF rfl (dF h1) ?_
    iterate 4 refine V rfl ?_
    refine AL.nil ?_
    refine ifE hr (fun h2 hr=>?_) fun h2 hr=>?_
    ·refine AW.cT rfl (dT h2) ?_
     refine AW.regL ?_
     iterate 2 refine V rfl ?_
     refine LIR 4 (m:=.fz) (f:=Attribute.D) (xs:=[xk1]) ?_
     refine ggE hr fun g2 hr=>?_
     refine APf1 (f:=Attribute.D) 5 (fun _=>rfl) 40 g2 ?_
     refine V rfl ?_
     refine AL.nil ?_
     cases hr
     exact GH.trans (GH.bw (q:=0) [.d m (.sl 2 (a0.Symbols.map Symbol.D)),.u] (.cons .rfl (.cons .u .nil)) rfl) (GH.renK hS [(0,0),(5,1),(2,2)] 3)
    ·refine AW.cF rfl (dF h2) ?_
     refine AW.skip ?_
     cases hr
     exact GH.trans (GH.bw (q:=0) [.d m (.sl 2 (a0.Symbols.map Symbol.D)),.u] (.cons .rfl (.cons .u .nil)) rfl) (GH.renK hS [(0,0),(1,1),(2,2)] 3)
  ·refine AW.regL ?_
   refine OB _ (q2c (p:=k1) (q:=1) (q1n hltk1 hl1)) ?_
   refine V rfl ?_
   refine AL.nil ?_
   cases hr
   exact GH.trans (GH.bw (q:=0) [.d m (.sl 2 (a0.Symbols.map Symbol.D)),.u] (.cons .rfl (.cons .u .nil)) rfl) (GH.renK hS [(0,0),(1,1),(2,2)] 3)
 ·refine AW.seq (AW.regL ?_)
  refine V rfl ?_
  refine AL.nil ?_
  refine AW.seq (AW.cF rfl (dF hltk1) ?_)
  refine AW.exit ?_
  refine AW.seq (AW.regL ?_)
  iterate 2 refine V rfl ?_
  refine AL.nil ?_
  refine AW.ret ?_
  cases hr
  exact endA.renK [(1,0)] 1 hS
def q2k (k1:Nat):Nat→Attribute→((List Occurrence))→Option ((List Occurrence)):=fun k2 xk2 s2=>
 grd (((s2.length:Int)+1)*24≤140737488355328∧(s2.length:Int)+1≤9223372036854775807) <|
 some (s2++[(⟨(k1:Int),xk2.Name⟩:Occurrence)])
def q1B (a0:Grammar)(a1:Rule):Nat→((List Occurrence))→Option ((List Occurrence)):=fun k1 s1=>
 (q3Y a1 (k1:Int)).bind fun y1=>
 (q1H a0 y1).bind fun y2=>
 (eachL (q2k k1) 0 y2 s1).bind fun s2=>
 some s2
def q1Q (a0:Grammar)(a1:Rule):Option (List Occurrence):=
 grd (I64 ((a1.Right.length+1:Nat):Int)) <|
 (eachN (q1B a0 a1) 0 (a1.Right.length+1) ([]:List Occurrence)).bind fun s1=>
 some s1
theorem q4Y {m:Md}{a0:Grammar}{a1:Rule}{r:(List Occurrence)}(hr:q1Q a0 a1=some r):Ok Tryz.prog 19 [Grammar.y m a0,Rule.x m a1] [] (.ref 0 none) [.row .fz 2 (r.map Occurrence.D)]:=by
 refine Ok.enter rfl Tryz.func19 rfl rfl rfl fun S hS=>?_
 unfold q1Q at hr
 refine AW.seq (AW.regL ?_)
 refine BX 0 ?_
 refine BX 1 ?_
 refine V rfl ?_
 refine AL.nil ?_
 refine AW.seq (AW.regL ?_)
 refine L0 2 Occurrence.D ?_
 refine V rfl ?_
 refine AL.nil ?_
 refine AW.seq (AW.seq (AW.regL ?_))
 iterate 2 refine V rfl ?_
 refine LF ?_
 refine ggE hr fun g1 hr=>?_
 refine OB _ (q2c (p:=a1.Right.length) (q:=1) g1) ?_
 refine V rfl ?_
 refine AL.nil ?_
 refine AW.block ?_
 refine AW.rng (.tmp 13 rfl) fun hl1=>?_
 refine bdE hr fun s1 hqq1 hr=>?_
 refine AW.eachN hqq1 3 (fun k1 s1=>[(2,.pb 0 0),(3,.pb 1 0),(5,.ref 2 none),(13,.d .fz (.i .i64 ((a1.Right.length+1:Nat):Int))),(14,.d .fz (.i .i64 (k1:Int)))]) (fun k1 s1=>[(2,.row .fz 2 (s1.map Occurrence.D))]) (GH.trans (GH.bw (q:=0) [.d m (.sl 2 (a0.Symbols.map Symbol.D)),.u] (.cons .rfl (.cons .u .nil)) rfl) (GH.renK hS [(0,0),(1,1),(2,2)] 3)) (fun k1 sk1 ok1 hr hltk1=>?_) ?_
 ·obtain⟨s1,rfl⟩:∃ y,y=sk1:=⟨_,rfl⟩
  refine AW.seq (AW.regL ?_)
  refine V rfl ?_
  refine AL.nil ?_
  refine AW.seq (AW.cT rfl (dT (ltN hltk1)) ?_)
  refine AW.skip ?_
  refine AW.seq (AW.block (AW.seq (AW.regL ?_)))
  iterate 2 refine V rfl ?_
  refine AL.nil ?_
  refine AW.seq (AW.drawL (h:=?_))
  iterate 3 refine V rfl ?_
  refine bdE hr fun y1 hy1 hr=>?_
  refine CB [] [] (z3F (m:=m) hy1) ?_
  refine bdE hr fun y2 hy2 hr=>?_
  refine CB [(0,3)] [] (q4o (m:=m) hy2) ?_
  refine LE ?_
  refine V rfl ?_
  refine AL.nil ?_
  refine AW.block ?_
  refine AW.lenR 3 rfl fun hl2=>?_
  refine bdE hr fun s2 hqq2 hr=>?_
  refine AW.eachL hqq2 hl2 4 (fun k2 s2=>[(2,.pb 0 0),(3,.pb 1 0),(5,.ref 2 none),(6,.d .fz (.i .i64 (k1:Int))),(13,.d .fz (.i .i64 ((a1.Right.length+1:Nat):Int))),(14,.d .fz (.i .i64 (k1:Int))),(21,.ref 3 none),(22,.d .fz (.i .i64 (y2.length:Int))),(23,.d .fz (.i .i64 (k2:Int)))]) (fun k2 s2=>[(2,.row .fz 2 (s2.map Occurrence.D))]) (GH.trans (GH.bw (q:=0) [.d m (.sl 2 (a0.Symbols.map Symbol.D)),.u] (.cons .rfl (.cons .u .nil)) rfl) (GH.renK hS [(0,0),(1,1),(2,2),(3,3)] 4)) (fun k2 xk2 sk2 ok2 hxk2 hr hltk2=>?_) fun k2 hltk2=>?_
  ·obtain⟨s2,rfl⟩:∃ y,y=sk2:=⟨_,rfl⟩
   refine AW.seq (AW.regL ?_)
   refine V rfl ?_
   refine AL.nil ?_
   refine AW.seq (AW.cT rfl (dT hltk2) ?_)
   refine AW.skip ?_
   refine AW.seq (AW.block (AW.seq (AW.regL ?_)))
   refine IE hxk2 (Int.natCast_nonneg _) ?_
   refine LPa hxk2 ?_
   refine NV 4 ?_
   refine SB ?_
   refine AL.nil ?_
   refine AW.regL ?_
   iterate 5 refine V rfl ?_
   refine LIR 5 (m:=.fz) (f:=Occurrence.D) (xs:=[(⟨(k1:Int),xk2.Name⟩:Occurrence)]) ?_
   refine ggE hr fun g2 hr=>?_
   refine APf1 (f:=Occurrence.D) 6 (fun _=>rfl) 24 g2 ?_
   refine V rfl ?_
   refine AL.nil ?_
   refine AW.regL ?_
   refine OB _ (q2c (p:=k2) (q:=1) (q1n hltk2 hl2)) ?_
   refine V rfl ?_
   refine AL.nil ?_
   cases hr
   exact GH.trans (GH.bw (q:=0) [.d m (.sl 2 (a0.Symbols.map Symbol.D)),.u] (.cons .rfl (.cons .u .nil)) rfl) (GH.renK hS [(0,0),(1,1),(6,2),(3,3)] 4)
  ·refine AW.seq (AW.regL ?_)
   refine V rfl ?_
   refine AL.nil ?_
   refine AW.seq (AW.cF rfl (dF hltk2) ?_)
   refine AW.exit ?_
   refine AW.regL ?_
   refine OB _ (q2c (p:=k1) (q:=1) (q1n (ltN hltk1) hl1.2)) ?_
   refine V rfl ?_
   refine AL.nil ?_
   cases hr
   exact GH.trans (GH.bw (q:=0) [.d m (.sl 2 (a0.Symbols.map Symbol.D)),.u] (.cons .rfl (.cons .u .nil)) rfl) (GH.renK hS [(0,0),(1,1),(2,2)] 3)
 ·refine AW.seq (AW.regL ?_)
  refine V rfl ?_
  refine AL.nil ?_
  refine AW.seq (AW.cF rfl (dF geN) ?_)
  refine AW.exit ?_
  refine AW.seq (AW.regL ?_)
  iterate 2 refine V rfl ?_
  refine AL.nil ?_
  refine AW.ret ?_
  cases hr
  exact endA.renK [(2,0)] 1 hS
def q2X (a0:Int):Option Relation:=
 (q3e a0 0 16).bind fun y1=>
 if y1=true then (
 grd (0≤a0∧a0*8≤281474976710656∧a0≤9223372036854775807) <|
 some (⟨a0,(List.replicate a0.toNat (0:Int))⟩:Relation)
 ) else (
 some (⟨0,[]⟩:Relation)
 )
theorem q6D {a0:Int}{r:Relation}(hr:q2X a0=some r):Ok Tryz.prog 33 [.d .fz (.i .i64 a0)] [] (.ag [.d .fz (.i .i64 r.N),.ref 0 none]) [.row .fz 1 (r.Rows.map (A.D.i .i64))]:=by
 refine Ok.enter rfl Tryz.func33 rfl rfl rfl fun S hS=>?_
 unfold q2X at hr
 refine AW.seq (AW.regL ?_)
 refine NV 0 ?_
 refine AL.nil ?_
 refine AW.seq (AW.seq (AW.regL ?_))
 refine V rfl ?_
 refine bdE hr fun y1 hy1 hr=>?_
 refine CB [] [] (q4t hy1) ?_
 refine V rfl ?_
 refine AL.nil ?_
 refine ifE hr (fun h1 hr=>?_) fun h1 hr=>?_
 ·refine AW.cF rfl (bnF h1) ?_
  refine AW.skip ?_
  refine AW.seq (AW.regL ?_)
  iterate 2 refine V rfl ?_
  refine ggE hr fun g1 hr=>?_
  refine MKR 1 (f:=(A.D.i .i64)) (0:Int) g1.1 g1.2.1 g1.2.2 ?_
  refine V rfl ?_
  refine SB ?_
  refine AL.nil ?_
  refine AW.ret ?_
  cases hr
  exact endA.renK [(1,0)] 1 hS
 ·refine AW.cT rfl (bnT h1) ?_
  refine AW.seq (AW.regL ?_)
  refine V rfl ?_
  refine SB ?_
  refine AL.nil ?_
  refine AW.ret ?_
  refine endA.gh (GH.nlB (q:=0) (c:=1) (r:=1) .fz 1 rfl rfl rfl) ?_
  cases hr
  exact endA.renK [(1,0)] 1 hS
def z3G (rec_icopyExpr:Expr→Option Expr):Nat→Expr→((List Expr))→Option ((List Expr)):=fun k1 xk1 s1=>
 (rec_icopyExpr xk1).bind fun y1=>
 grd (((s1.length:Int)+1)*88≤140737488355328∧(s1.length:Int)+1≤9223372036854775807) <|
 some (s1++[y1])
def q6U (rec_icopyExpr:Expr→Option Expr)(a0:Expr):Option Expr:=
 (eachL (z3G rec_icopyExpr) 0 a0.Args ([]:List Expr)).bind fun s1=>
 some (⟨a0.Kind,a0.N,a0.Pos,a0.Type_,a0.Symbol,a0.Name,s1⟩:Expr)
theorem z2v {rec_icopyExpr:Expr→Option Expr}(ih_icopyExpr:∀ {m:Md} {a0:Expr} {r:Expr},rec_icopyExpr a0=some r→Ok Tryz.prog 65 [Expr.x m a0] [] (.ag [.d .fz (.i .i64 r.Kind),.d .fz (.i .i64 r.N),.d .fz (.i .i64 r.Pos),.d .fz (.i .i64 r.Type_),.d .fz (.s r.Symbol),.d .fz (.s r.Name),.ref 0 none]) [.row .fz 7 (r.Args.map Expr.D)]){m:Md}{a0:Expr}{r:Expr}(hr:q6U rec_icopyExpr a0=some r):Ok Tryz.prog 65 [Expr.x m a0] [] (.ag [.d .fz (.i .i64 r.Kind),.d .fz (.i .i64 r.N),.d .fz (.i .i64 r.Pos),.d .fz (.i .i64 r.Type_),.d .fz (.s r.Symbol),.d .fz (.s r.Name),.ref 0 none]) [.row .fz 7 (r.Args.map Expr.D)]:=by
 refine Ok.enter rfl Tryz.func65 rfl rfl rfl fun S hS=>?_
 unfold q6U at hr
 refine AW.seq (AW.regL ?_)
 refine BX 0 ?_
 refine NV 1 ?_
 refine AL.nil ?_
 refine AW.seq (AW.regL ?_)
 refine V rfl ?_
 refine AL.nil ?_
 refine AW.seq (AW.seq (AW.regL ?_))
 iterate 2 refine V rfl ?_
 refine LF ?_
 refine V rfl ?_
 refine AL.nil ?_
 refine AW.block ?_
 refine AW.nlT 3 2 .fz 7 rfl ?_
 refine AW.len (.ag 6 (.tmp 0 rfl) rfl) fun hl1=>?_
 refine bdE hr fun s1 hqq1 hr=>?_
 refine AW.eachL hqq1 hl1 3 (fun k1 s1=>[(1,.pb 0 0),(2,.pb 1 0),(3,.ref 2 none),(7,.d m (.sl 7 (a0.Args.map Expr.D))),(8,.d .fz (.i .i64 (a0.Args.length:Int))),(9,.d .fz (.i .i64 (k1:Int)))]) (fun k1 s1=>[(2,.row .fz 7 (s1.map Expr.D))]) (GH.renK hS [(0,0),(1,1),(2,2)] 3) (fun k1 xk1 sk1 ok1 hxk1 hr hltk1=>?_) fun k1 hltk1=>?_
 ·obtain⟨s1,rfl⟩:∃ y,y=sk1:=⟨_,rfl⟩
  refine AW.seq (AW.regL ?_)
  refine V rfl ?_
  refine AL.nil ?_
  refine AW.seq (AW.cT rfl (dT hltk1) ?_)
  refine AW.skip ?_
  refine AW.seq (AW.block (AW.seq (AW.regL ?_)))
  refine IFq (Int.natCast_nonneg _) hxk1 (Expr.D_cells xk1) ?_
  refine V rfl ?_
  refine NV 3 ?_
  refine SB ?_
  refine AL.nil ?_
  refine AW.regL ?_
  iterate 2 refine V rfl ?_
  refine bdE hr fun y1 hy1 hr=>?_
  refine CB [(0,4)] [] (ih_icopyExpr (m:=m) hy1) ?_
  refine AL.fz 4 rfl ?_
  refine LIRq 5 (m:=.fz) (f:=Expr.D) [y1] (by simp only [List.map_cons,List.map_nil,Expr.D_eq]; rfl) ?_
  refine ggE hr fun g1 hr=>?_
  refine AP1 6 .fz 88 g1 ?_
  refine V rfl ?_
  refine AL.nil ?_
  refine AW.regL ?_
  refine OB _ (q2c (p:=k1) (q:=1) (q1n hltk1 hl1)) ?_
  refine V rfl ?_
  refine AL.nil ?_
  cases hr
  exact GH.renK hS [(0,0),(1,1),(6,2)] 3
 ·refine AW.seq (AW.regL ?_)
  refine V rfl ?_
  refine AL.nil ?_
  refine AW.seq (AW.cF rfl (dF hltk1) ?_)
  refine AW.exit ?_
  refine AW.seq (AW.regL ?_)
  iterate 2 refine V rfl ?_
  refine SB ?_
  refine AL.nil ?_
  refine AW.seq (AW.regL ?_)
  refine V rfl ?_
  refine SB ?_
  refine AL.nil ?_
  refine AW.ret ?_
  cases hr
  exact endA.renK [(2,0)] 1 hS
def q4Z:Nat→Expr→Option Expr
  | 0,_=>none
  | n+1,a0=>q6U (q4Z n) a0
def q8a (a0:Expr):Option Expr:=recO fun n=>q4Z n a0
theorem z2w (n:Nat):∀ {m:Md} {a0:Expr} {r:Expr},q4Z n a0=some r→Ok Tryz.prog 65 [Expr.x m a0] [] (.ag [.d .fz (.i .i64 r.Kind),.d .fz (.i .i64 r.N),.d .fz (.i .i64 r.Pos),.d .fz (.i .i64 r.Type_),.d .fz (.s r.Symbol),.d .fz (.s r.Name),.ref 0 none]) [.row .fz 7 (r.Args.map Expr.D)]:=by
  induction n with
  | zero=>intro _ _ r hr; exact nomatch (show (none:Option Expr)=some r from hr)
  | succ n ih=>intro _ _ r hr; exact z2v ih hr
theorem z3H {m:Md}{a0:Expr}{r:Expr}(hr:q8a a0=some r):Ok Tryz.prog 65 [Expr.x m a0] [] (.ag [.d .fz (.i .i64 r.Kind),.d .fz (.i .i64 r.N),.d .fz (.i .i64 r.Pos),.d .fz (.i .i64 r.Type_),.d .fz (.s r.Symbol),.d .fz (.s r.Name),.ref 0 none]) [.row .fz 7 (r.Args.map Expr.D)]:=by
  obtain⟨n,hn⟩:=q4g hr
  exact z2w n hn
def q5t (a1:Occurrence):Nat→Equation→Unit→Option (Unit ⊕ (Expr × Bool)):=fun k1 xk1 _=>
 if xk1.At=a1 then (
 (q8a xk1.Expr).bind fun y1=>
 some (.inr (y1,true))
 ) else (
 some (.inl ())
 )
def q3u (a0:Rule)(a1:Occurrence):Option (Expr × Bool):=
 (findL (q5t a1) 0 a0.Equations ()).bind <| onr (fun r1=>some r1) fun _=>
 some ((⟨0,0,0,0,(⟨#[]⟩:ByteArray),(⟨#[]⟩:ByteArray),[]⟩:Expr),false)
theorem q9H {m:Md}{a0:Rule}{a1:Occurrence}{r:(Expr × Bool)}(hr:q3u a0 a1=some r):Ok Tryz.prog 46 [Rule.x m a0,Occurrence.x .fz a1] [] (.tu [.ag [.d .fz (.i .i64 r.1.Kind),.d .fz (.i .i64 r.1.N),.d .fz (.i .i64 r.1.Pos),.d .fz (.i .i64 r.1.Type_),.d .fz (.s r.1.Symbol),.d .fz (.s r.1.Name),.ref 0 none],.d .fz (.b r.2)]) [.row .fz 7 (r.1.Args.map Expr.D)]:=by
 refine Ok.enter rfl Tryz.func46 rfl rfl rfl fun S hS=>?_
 unfold q3u at hr
 refine AW.seq (AW.regL ?_)
 refine BX 0 ?_
 refine BX 1 ?_
 refine NV 2 ?_
 refine V rfl ?_
 refine AL.nil ?_
 refine AW.seq (AW.seq (AW.regL ?_))
 iterate 2 refine V rfl ?_
 refine LF ?_
 refine V rfl ?_
 refine AL.nil ?_
 refine AW.block ?_
 refine AW.len (.ag 4 (.tmp 0 rfl) rfl) fun hl1=>?_
 refine bdE hr fun q1 hqq1 hr=>?_
 refine AW.findL hqq1 hl1 3 (fun k1 _=>[(3,.pb 1 0),(4,.pb 2 0),(9,.d m (.sl 9 (a0.Equations.map Equation.D))),(10,.d .fz (.i .i64 (a0.Equations.length:Int))),(11,.d .fz (.i .i64 (k1:Int)))]) (fun k1 _=>[]) (GH.renK hS [(0,0),(1,1),(2,2)] 3) (fun k1 xk1 sk1 ok1 hxk1 hr hltk1 hik1=>?_) fun k1 sk1 ek1 hltk1=>?_
 ·refine AW.seq (AW.regL ?_)
  refine V rfl ?_
  refine AL.nil ?_
  refine AW.seq (AW.cT rfl (dT hltk1) ?_)
  refine AW.skip ?_
  refine AW.seq (AW.block (AW.seq (AW.regL ?_)))
  refine IF (Int.natCast_nonneg _) hxk1 ?_
  refine V rfl ?_
  refine NV 3 ?_
  refine SB ?_
  refine AL.nil ?_
  refine AW.seq (AW.regL ?_)
  iterate 3 refine V rfl ?_
  refine SQ rfl rfl rfl rfl (q3k xk1.At a1) ?_
  refine AL.nil ?_
  refine ifE hr (fun h1 hr=>?_) fun h1 hr=>?_
  ·refine AW.cT rfl (dT h1) ?_
   refine AW.seq (AW.regL ?_)
   iterate 2 refine V rfl ?_
   refine bdE hr fun y1 hy1 hr=>?_
   refine CB [(0,4)] [] (z3H (m:=m) hy1) ?_
   refine SB ?_
   refine V rfl ?_
   refine AL.nil ?_
   refine AW.ret ?_
   cases hr
   cases hik1 _ rfl
   rename_i hr
   cases hr
   exact endA.renK [(4,0)] 1 hS
  ·refine AW.cF rfl (dF h1) ?_
   refine AW.skip ?_
   refine AW.regL ?_
   refine OB _ (q2c (p:=k1) (q:=1) (q1n hltk1 hl1)) ?_
   refine V rfl ?_
   refine AL.nil ?_
   cases hr
   exact⟨_,rfl,GH.renK hS [(0,0),(1,1),(2,2)] 3⟩
 ·subst ek1
  refine AW.seq (AW.regL ?_)
  refine V rfl ?_
  refine AL.nil ?_
  refine AW.seq (AW.cF rfl (dF hltk1) ?_)
  refine AW.exit ?_
  refine AW.seq (AW.regL ?_)
  refine V rfl ?_
  refine SB ?_
  refine V rfl ?_
  refine AL.nil ?_
  refine AW.ret ?_
  refine endA.gh (GH.nlB (q:=2) (c:=6) (r:=3) .fz 7 rfl rfl rfl) ?_
  cases hr
  exact endA.renK [(3,0)] 1 hS
def q3f (a0:Expr)(o0:(List Occurrence)):Option (Bool × (List Occurrence)):=
 if a0.Kind=3 then (
 grd (((o0.length:Int)+1)*24≤140737488355328∧(o0.length:Int)+1≤9223372036854775807) <|
 some (true,(o0++[(⟨a0.Pos,a0.Name⟩:Occurrence)]))
 ) else (
 some (true,o0)
 )
theorem q8b {m:Md}{a0:Expr}{o0:(List Occurrence)}{r:(Bool × (List Occurrence))}(hr:q3f a0 o0=some r):Ok Tryz.prog 67 [Expr.x m a0,.pb 0 0] [.box [.ref 1 none],.row .fz 2 (o0.map Occurrence.D)] (.d .fz (.b r.1)) [.box [.ref 2 none],.dead,.row .fz 2 (r.2.map Occurrence.D)]:=by
 refine Ok.enter rfl Tryz.func67 rfl rfl rfl fun S hS=>?_
 unfold q3f at hr
 refine AW.seq (AW.regL ?_)
 refine BX 2 ?_
 refine V rfl ?_
 refine AL.nil ?_
 refine AW.seq (AW.seq (AW.regL ?_))
 iterate 3 refine V rfl ?_
 refine AL.nil ?_
 refine ifE hr (fun h1 hr=>?_) fun h1 hr=>?_
 ·refine AW.cT rfl (dT h1) ?_
  refine AW.regL ?_
  iterate 6 refine V rfl ?_
  refine LIR 3 (m:=.fz) (f:=Occurrence.D) (xs:=[(⟨a0.Pos,a0.Name⟩:Occurrence)]) ?_
  refine ggE hr fun g1 hr=>?_
  refine APf1 (f:=Occurrence.D) 4 (fun _=>rfl) 24 g1 ?_
  refine SB ?_
  refine AL.nil ?_
  refine AW.seq (AW.regL ?_)
  refine V rfl ?_
  refine AL.nil ?_
  refine AW.ret ?_
  cases hr
  exact endA.renK [(0,0),(1,1),(4,2)] 3 hS
 ·refine AW.cF rfl (dF h1) ?_
  refine AW.skip ?_
  refine AW.seq (AW.regL ?_)
  refine V rfl ?_
  refine AL.nil ?_
  refine AW.ret ?_
  refine endA.gh (GH.mv (i:=1) (j:=3) rfl rfl) ?_
  cases hr
  exact endA.renK [(0,0),(1,1),(3,2)] 3 hS
def q2a (rec_ieveryNode_iAttributeUses_1:Expr→(List Occurrence)→Option (Bool × (List Occurrence)))(a0:Expr)(o0:(List Occurrence)):Option (Bool × (List Occurrence)):=
 (rec_ieveryNode_iAttributeUses_1 a0 o0).bind fun (y1,z1)=>
 some (!y1,z1)
theorem q4Q {rec_ieveryNode_iAttributeUses_1:Expr→(List Occurrence)→Option (Bool × (List Occurrence))}(ih_ieveryNode_iAttributeUses_1:∀ {m:Md} {a0:Expr} {o0:(List Occurrence)} {r:(Bool × (List Occurrence))},rec_ieveryNode_iAttributeUses_1 a0 o0=some r→Ok Tryz.prog 66 [Expr.x m a0,.fn 67 [.pb 0 0]] [.box [.ref 1 none],.row .fz 2 (o0.map Occurrence.D)] (.d .fz (.b r.1)) [.box [.ref 2 none],.dead,.row .fz 2 (r.2.map Occurrence.D)]){m:Md}{a0:Expr}{o0:(List Occurrence)}{r:(Bool × (List Occurrence))}(hr:q2a rec_ieveryNode_iAttributeUses_1 a0 o0=some r):Ok Tryz.prog 88 [Expr.x m a0,.pb 1 0] [.box [.ref 2 none],.box [.fn 67 [.pb 0 0]],.row .fz 2 (o0.map Occurrence.D)] (.d .fz (.b r.1)) [.box [.ref 3 none],.box [.fn 67 [.pb 0 0]],.dead,.row .fz 2 (r.2.map Occurrence.D)]:=by
 refine Ok.enter rfl Tryz.func88 rfl rfl rfl fun S hS=>?_
 unfold q2a at hr
 refine AW.seq (AW.regL ?_)
 refine BX 3 ?_
 refine V rfl ?_
 refine AL.nil ?_
 refine AW.seq (AW.regL ?_)
 iterate 2 refine V rfl ?_
 refine bdE hr fun q1 hq1 hr=>?_
 obtain⟨y1,z1⟩:=q1
 refine CB [(0,0),(1,2),(2,4)] [] (ih_ieveryNode_iAttributeUses_1 (m:=m) hq1) ?_
 iterate 2 refine V rfl ?_
 refine AL.nil ?_
 refine AW.ret ?_
 cases hr
 exact endA.renK [(0,0),(1,1),(2,2),(4,3)] 4 hS
def q1z (rec_ieveryNode_iAttributeUses_1:Expr→(List Occurrence)→Option (Bool × (List Occurrence))):Nat→Expr→((List Occurrence))→Option (((List Occurrence)) ⊕ (Int × (List Occurrence))):=fun k1 xk1 s1=>
 (q2a rec_ieveryNode_iAttributeUses_1 xk1 s1).bind fun (y1,z1)=>
 if y1=true then (
 some (.inr ((k1:Int),z1))
 ) else (
 some (.inl z1)
 )
def q1r (rec_ieveryNode_iAttributeUses_1:Expr→(List Occurrence)→Option (Bool × (List Occurrence)))(a0:(List Expr))(o0:(List Occurrence)):Option (Int × (List Occurrence)):=
 (findL (q1z rec_ieveryNode_iAttributeUses_1) 0 a0 o0).bind <| onr (fun r1=>some r1) fun s1=>
 some ((-1),s1)
theorem q2L {rec_ieveryNode_iAttributeUses_1:Expr→(List Occurrence)→Option (Bool × (List Occurrence))}(ih_ieveryNode_iAttributeUses_1:∀ {m:Md} {a0:Expr} {o0:(List Occurrence)} {r:(Bool × (List Occurrence))},rec_ieveryNode_iAttributeUses_1 a0 o0=some r→Ok Tryz.prog 66 [Expr.x m a0,.fn 67 [.pb 0 0]] [.box [.ref 1 none],.row .fz 2 (o0.map Occurrence.D)] (.d .fz (.b r.1)) [.box [.ref 2 none],.dead,.row .fz 2 (r.2.map Occurrence.D)]){m:Md}{a0:(List Expr)}{o0:(List Occurrence)}{r:(Int × (List Occurrence))}(hr:q1r rec_ieveryNode_iAttributeUses_1 a0 o0=some r):Ok Tryz.prog 105 [.d m (.sl 7 (a0.map Expr.D)),.fn 88 [.pb 1 0]] [.box [.ref 2 none],.box [.fn 67 [.pb 0 0]],.row .fz 2 (o0.map Occurrence.D)] (.d .fz (.i .i64 r.1)) [.box [.ref 3 none],.box [.fn 67 [.pb 0 0]],.dead,.row .fz 2 (r.2.map Occurrence.D)]:=by
 refine Ok.enter rfl Tryz.func105 rfl rfl rfl fun S hS=>?_
 unfold q1r at hr
 refine AW.seq (AW.regL ?_)
 refine V rfl ?_
 refine AL.nil ?_
 refine AW.seq (AW.seq (AW.regL ?_))
 refine V rfl ?_
 refine LF ?_
 refine V rfl ?_
 refine AL.nil ?_
 refine AW.block ?_
 refine AW.mv 2 3 rfl ?_
 refine AW.len (.tmp 0 rfl) fun hl1=>?_
 refine bdE hr fun q1 hqq1 hr=>?_
 refine AW.findL hqq1 hl1 4 (fun k1 s1=>[(0,.d m (.sl 7 (a0.map Expr.D))),(1,.fn 88 [.pb 1 0]),(7,.d .fz (.i .i64 (a0.length:Int))),(8,.d .fz (.i .i64 (k1:Int)))]) (fun k1 s1=>[(3,.row .fz 2 (s1.map Occurrence.D))]) (GH.renK hS [(0,0),(1,1),(2,2),(3,3)] 4) (fun k1 xk1 sk1 ok1 hxk1 hr hltk1 hik1=>?_) fun k1 sk1 ek1 hltk1=>?_
 ·obtain⟨s1,rfl⟩:∃ y,y=sk1:=⟨_,rfl⟩
  refine AW.seq (AW.regL ?_)
  refine V rfl ?_
  refine AL.nil ?_
  refine AW.seq (AW.cT rfl (dT hltk1) ?_)
  refine AW.skip ?_
  refine AW.seq (AW.block (AW.seq (AW.regL ?_)))
  iterate 2 refine V rfl ?_
  refine AL.nil ?_
  refine AW.seq (AW.regL ?_)
  iterate 3 refine V rfl ?_
  refine IFq (Int.natCast_nonneg _) hxk1 (Expr.D_cells xk1) ?_
  refine V rfl ?_
  refine bdE hr fun q2 hq2 hr=>?_
  obtain⟨y1,z1⟩:=q2
  refine CB [(0,0),(1,1),(2,3),(3,4)] [] (q4Q ih_ieveryNode_iAttributeUses_1 (m:=m) hq2) ?_
  refine AL.nil ?_
  refine ifE hr (fun h1 hr=>?_) fun h1 hr=>?_
  ·refine AW.cT rfl h1 ?_
   refine AW.seq (AW.regL ?_)
   iterate 2 refine V rfl ?_
   refine AL.nil ?_
   refine AW.ret ?_
   cases hr
   cases hik1 _ rfl
   rename_i hr
   cases hr
   exact endA.renK [(0,0),(1,1),(2,2),(4,3)] 4 hS
  ·refine AW.cF rfl (bF h1) ?_
   refine AW.skip ?_
   refine AW.regL ?_
   refine OB _ (q2c (p:=k1) (q:=1) (q1n hltk1 hl1)) ?_
   refine V rfl ?_
   refine AL.nil ?_
   cases hr
   exact⟨_,rfl,GH.renK hS [(0,0),(1,1),(2,2),(4,3)] 4⟩
 ·subst ek1
  obtain⟨s1,rfl⟩:∃ y,y=sk1:=⟨_,rfl⟩
  refine AW.seq (AW.regL ?_)
  refine V rfl ?_
  refine AL.nil ?_
  refine AW.seq (AW.cF rfl (dF hltk1) ?_)
  refine AW.exit ?_
  refine AW.seq (AW.regL ?_)
  refine V rfl ?_
  refine AL.nil ?_
  refine AW.ret ?_
  cases hr
  exact endA.renK [(0,0),(1,1),(2,2),(3,3)] 4 hS
def q1q (rec_ieveryNode_iAttributeUses_1:Expr→(List Occurrence)→Option (Bool × (List Occurrence)))(a0:(List Expr))(o0:(List Occurrence)):Option (Bool × (List Occurrence)):=
 (q1r rec_ieveryNode_iAttributeUses_1 a0 o0).bind fun (y1,z1)=>
 some (decide (0≤y1),z1)
theorem q2D {rec_ieveryNode_iAttributeUses_1:Expr→(List Occurrence)→Option (Bool × (List Occurrence))}(ih_ieveryNode_iAttributeUses_1:∀ {m:Md} {a0:Expr} {o0:(List Occurrence)} {r:(Bool × (List Occurrence))},rec_ieveryNode_iAttributeUses_1 a0 o0=some r→Ok Tryz.prog 66 [Expr.x m a0,.fn 67 [.pb 0 0]] [.box [.ref 1 none],.row .fz 2 (o0.map Occurrence.D)] (.d .fz (.b r.1)) [.box [.ref 2 none],.dead,.row .fz 2 (r.2.map Occurrence.D)]){m:Md}{a0:(List Expr)}{o0:(List Occurrence)}{r:(Bool × (List Occurrence))}(hr:q1q rec_ieveryNode_iAttributeUses_1 a0 o0=some r):Ok Tryz.prog 87 [.d m (.sl 7 (a0.map Expr.D)),.fn 88 [.pb 1 0]] [.box [.ref 2 none],.box [.fn 67 [.pb 0 0]],.row .fz 2 (o0.map Occurrence.D)] (.d .fz (.b r.1)) [.box [.ref 3 none],.box [.fn 67 [.pb 0 0]],.dead,.row .fz 2 (r.2.map Occurrence.D)]:=by
 refine Ok.enter rfl Tryz.func87 rfl rfl rfl fun S hS=>?_
 unfold q1q at hr
 refine AW.seq (AW.regL ?_)
 refine V rfl ?_
 refine AL.nil ?_
 refine AW.seq (AW.regL ?_)
 iterate 2 refine V rfl ?_
 refine bdE hr fun q1 hq1 hr=>?_
 obtain⟨y1,z1⟩:=q1
 refine CB [(0,0),(1,1),(2,2),(3,3)] [] (q2L ih_ieveryNode_iAttributeUses_1 (m:=m) hq1) ?_
 iterate 2 refine V rfl ?_
 refine AL.nil ?_
 refine AW.ret ?_
 cases hr
 exact endA.renK [(0,0),(1,1),(2,2),(3,3)] 4 hS
def q1R (rec_ieveryNode_iAttributeUses_1:Expr→(List Occurrence)→Option (Bool × (List Occurrence)))(a0:Expr)(o0:(List Occurrence)):Option (Bool × (List Occurrence)):=
 (q3f a0 o0).bind fun (y1,z1)=>
 if y1=true then (
 (q1q rec_ieveryNode_iAttributeUses_1 a0.Args z1).bind fun (y2,z2)=>
 some (!y2,z2)
 ) else (
 some (false,z1)
 )
theorem q5a {rec_ieveryNode_iAttributeUses_1:Expr→(List Occurrence)→Option (Bool × (List Occurrence))}(ih_ieveryNode_iAttributeUses_1:∀ {m:Md} {a0:Expr} {o0:(List Occurrence)} {r:(Bool × (List Occurrence))},rec_ieveryNode_iAttributeUses_1 a0 o0=some r→Ok Tryz.prog 66 [Expr.x m a0,.fn 67 [.pb 0 0]] [.box [.ref 1 none],.row .fz 2 (o0.map Occurrence.D)] (.d .fz (.b r.1)) [.box [.ref 2 none],.dead,.row .fz 2 (r.2.map Occurrence.D)]){m:Md}{a0:Expr}{o0:(List Occurrence)}{r:(Bool × (List Occurrence))}(hr:q1R rec_ieveryNode_iAttributeUses_1 a0 o0=some r):Ok Tryz.prog 66 [Expr.x m a0,.fn 67 [.pb 0 0]] [.box [.ref 1 none],.row .fz 2 (o0.map Occurrence.D)] (.d .fz (.b r.1)) [.box [.ref 2 none],.dead,.row .fz 2 (r.2.map Occurrence.D)]:=by
 refine Ok.enter rfl Tryz.func66 rfl rfl rfl fun S hS=>?_
 unfold q1R at hr
 refine AW.seq (AW.regL ?_)
 refine BX 2 ?_
 refine BX 3 ?_
 refine V rfl ?_
 refine AL.nil ?_
 refine AW.seq (AW.regL ?_)
 iterate 2 refine V rfl ?_
 refine bdE hr fun q1 hq1 hr=>?_
 obtain⟨y1,z1⟩:=q1
 refine CB [(0,0),(1,1),(2,4)] [] (q8b (m:=m) hq1) ?_
 refine ifE hr (fun h1 hr=>?_) fun h1 hr=>?_
 ·refine VT rfl h1 ?_
  iterate 3 refine V rfl ?_
  refine bdE hr fun q2 hq2 hr=>?_
  obtain⟨y2,z2⟩:=q2
  refine CB [(0,0),(1,3),(2,4),(3,5)] [] (q2D ih_ieveryNode_iAttributeUses_1 (m:=m) hq2) ?_
  iterate 3 refine V rfl ?_
  refine AL.nil ?_
  refine AW.ret ?_
  cases hr
  exact endA.renK [(0,0),(1,1),(5,2)] 3 hS
 ·refine VF rfl (bF h1) ?_
  refine AL.off ?_
  refine AL.off ?_
  refine AL.off ?_
  refine AL.off ?_
  refine AL.off ?_
  iterate 2 refine V rfl ?_
  refine AL.nil ?_
  refine AW.ret ?_
  cases hr
  exact endA.renK [(0,0),(1,1),(4,2)] 3 hS
def q1F:Nat→Expr→(List Occurrence)→Option (Bool × (List Occurrence))
  | 0,_,_=>none
  | n+1,a0,o0=>q1R (q1F n) a0 o0
def q2H (a0:Expr)(o0:(List Occurrence)):Option (Bool × (List Occurrence)):=recO fun n=>q1F n a0 o0
theorem q5b (n:Nat):∀ {m:Md} {a0:Expr} {o0:(List Occurrence)} {r:(Bool × (List Occurrence))},q1F n a0 o0=some r→Ok Tryz.prog 66 [Expr.x m a0,.fn 67 [.pb 0 0]] [.box [.ref 1 none],.row .fz 2 (o0.map Occurrence.D)] (.d .fz (.b r.1)) [.box [.ref 2 none],.dead,.row .fz 2 (r.2.map Occurrence.D)]:=by
  induction n with
  | zero=>intro _ _ _ r hr; exact nomatch (show (none:Option (Bool × (List Occurrence)))=some r from hr)
  | succ n ih=>intro _ _ _ r hr; exact q5a ih hr
theorem q5q {m:Md}{a0:Expr}{o0:(List Occurrence)}{r:(Bool × (List Occurrence))}(hr:q2H a0 o0=some r):Ok Tryz.prog 66 [Expr.x m a0,.fn 67 [.pb 0 0]] [.box [.ref 1 none],.row .fz 2 (o0.map Occurrence.D)] (.d .fz (.b r.1)) [.box [.ref 2 none],.dead,.row .fz 2 (r.2.map Occurrence.D)]:=by
  obtain⟨n,hn⟩:=q4g hr
  exact q5b n hn
def q2l (a0:(List Occurrence)):Option (List Occurrence):=
 grd (a0.length < 4611686018427387904) <|
 some (z3u a0)
theorem q5u {a0:(List Occurrence)}{r:(List Occurrence)}(hr:q2l a0=some r):Ok Tryz.prog 68 [.ref 0 none,.fn 69 []] [.row .fz 2 (a0.map Occurrence.D)] (.tu []) [.row .fz 2 (r.map Occurrence.D)]:=by
 unfold q2l at hr
 refine ggE hr fun g1 hr=>?_
 cases hr
 exact z9h g1
def q1v (s1:Int):((List Occurrence) × Int × Int)→Option (((List Occurrence) × Int × Int) ⊕ ((List Occurrence) × Int)):=fun (s4,s5,s6)=>
 if s6 < ((s4.drop s1.toNat).length:Int) then (
 (
 grd (0≤s6) <|
 (s4[(s1.toNat+s6.toNat)]?).bind fun x3=>
 grd (I64 (s6 - 1)) <|
 grd (0≤(s6 - 1)) <|
 (s4[(s1.toNat+((s6 - 1).toNat))]?).bind fun x4=>
 if x3=x4 then (
 some (s5,s4)
 ) else (
 grd (0≤s6) <|
 grd (0≤s5) <|
 (s4[s5.toNat]?).bind fun x5=>
 grd (I64 (s5+1)) <|
 some ((s5+1),(List.set s4 s5.toNat x3))
 )
 ).bind fun (s7,s8)=>
 grd (I64 (s6+1)) <|
 some (.inl (s8,s7,(s6+1)))
 ) else (
 some (.inr (s4,s5))
 )
def q1w (a0:(List Occurrence)):Int→Option (Int ⊕ (Unit ⊕ (List Occurrence))):=fun s1=>
 if s1 < (a0.length:Int) then (
 grd (0≤s1) <|
 (a0[s1.toNat]?).bind fun x1=>
 grd (I64 (s1 - 1)) <|
 grd (0≤(s1 - 1)) <|
 (a0[(s1 - 1).toNat]?).bind fun x2=>
 if x1=x2 then (
 grd (0≤s1) <|
 grd (s1.toNat≤a0.length) <|
 (q3j (q1v s1) (a0,s1,1)).bind fun (s2,s3)=>
 grd (0≤s3) <|
 grd (s3.toNat≤s2.length) <|
 grd (0≤s3) <|
 grd (s3.toNat≤(s2.take s3.toNat++List.replicate (s2.length - s3.toNat) (⟨(0:Int),(⟨#[]⟩:ByteArray)⟩:Occurrence)).length) <|
 some (.inr (.inr ((s2.take s3.toNat++List.replicate (s2.length - s3.toNat) (⟨(0:Int),(⟨#[]⟩:ByteArray)⟩:Occurrence)).take s3.toNat)))
 ) else (
 grd (I64 (s1+1)) <|
 some (.inl (s1+1))
 )
 ) else (
 some (.inr (.inl ()))
 )
def q1Y (a0:(List Occurrence)):Option (List Occurrence):=
 if (a0.length:Int) < 2 then (
 some a0
 ) else (
 (q3j (q1w a0) 1).bind <| onr (fun r1=>some r1) fun ()=>
 some a0
 )
theorem q5A {a0:(List Occurrence)}{r:(List Occurrence)}(hr:q1Y a0=some r):Ok Tryz.prog 70 [.ref 0 none] [.row .fz 2 (a0.map Occurrence.D)] (.ref 1 none) [.dead,.row .fz 2 (r.map Occurrence.D)]:=by
 refine Ok.enter rfl Tryz.func70 rfl rfl rfl fun S hS=>?_
 unfold q1Y at hr
 refine AW.seq (AW.regL ?_)
 refine V rfl ?_
 refine AL.nil ?_
 refine AW.seq (AW.seq (AW.regL ?_))
 refine V rfl ?_
 refine LE ?_
 refine V rfl ?_
 refine AL.nil ?_
 refine ifE hr (fun h1 hr=>?_) fun h1 hr=>?_
 ·refine AW.cT rfl (dT h1) ?_
  refine AW.seq (AW.regL ?_)
  iterate 2 refine V rfl ?_
  refine AL.nil ?_
  refine AW.ret ?_
  refine endA.gh (GH.mv (i:=0) (j:=1) rfl rfl) ?_
  cases hr
  exact endA.renK [(0,0),(1,1)] 2 hS
 ·refine AW.cF rfl (dF h1) ?_
  refine AW.skip ?_
  refine AW.seq (AW.seq (AW.regL ?_))
  refine V rfl ?_
  refine AL.nil ?_
  refine bdE hr fun q1 hqq1 hr=>?_
  refine AW.cut 1 (fun _=>[(0,.ref 0 none)]) (fun _=>[]) (M:=fun x=>q1 = .inl x) ?_ fun x hx=>?_
  ·refine AW.block (AW.iter hqq1 1 (fun s1=>[(0,.ref 0 none),(3,.d .fz (.i .i64 s1))]) (fun s1=>[]) (GH.renK hS [(0,0)] 1) fun sk1 ok1 hr hik1=>?_)
   obtain⟨s1,rfl⟩:∃ y,y=sk1:=⟨_,rfl⟩
   have hr:=hr
   refine AW.seq (AW.seq (AW.regL ?_))
   iterate 2 refine V rfl ?_
   refine LE ?_
   refine V rfl ?_
   refine AL.nil ?_
   refine ifE hr (fun h2 hr=>?_) fun h2 hr=>?_
   ·refine AW.cT rfl (dT h2) ?_
    refine AW.skip ?_
    refine AW.seq (AW.block (AW.seq (AW.drawL (h:=?_))))
    iterate 2 refine V rfl ?_
    refine ggE hr fun g1 hr=>?_
    refine bdE hr fun x1 hx1 hr=>?_
    refine IE hx1 g1 ?_
    refine LPa hx1 ?_
    iterate 2 refine V rfl ?_
    refine ggE hr fun g2 hr=>?_
    refine OB _ (bSub g2) ?_
    refine ggE hr fun g3 hr=>?_
    refine bdE hr fun x2 hx2 hr=>?_
    refine IE hx2 g3 ?_
    refine LPa hx2 ?_
    refine SQ rfl rfl rfl rfl (q3k x1 x2) ?_
    refine AL.nil ?_
    refine ifE hr (fun h3 hr=>?_) fun h3 hr=>?_
    ·refine AW.cT rfl (dT h3) ?_
     refine AW.seq (AW.regL ?_)
     iterate 2 refine V rfl ?_
     refine ggE hr fun g4 hr=>?_
     refine ggE hr fun g5 hr=>?_
     refine SVL g4 g5 ?_
     refine V rfl ?_
     refine AL.nil ?_
     refine AW.seq (AW.seq (AW.regL ?_))
     refine V rfl ?_
     refine AL.nil ?_
     refine bdE hr fun q2 hqq2 hr=>?_
     obtain⟨s2,s3⟩:=q2
     refine AW.cut1 1 [(0,.ref 0 none),(3,.d .fz (.i .i64 s3))] [(0,.row .fz 2 (s2.map Occurrence.D))] ?_ ?_
     ·refine AW.block (AW.iter hqq2 1 (fun (s4,s5,s6)=>[(0,.ref 0 none),(3,.d .fz (.i .i64 s5)),(4,.vs 0 none s1.toNat (s4.length - s1.toNat)),(5,.d .fz (.i .i64 s6))]) (fun (s4,s5,s6)=>[(0,.row .fz 2 (s4.map Occurrence.D))]) (GH.ren hS [(0,0)] 1 ⟨.rfl,.rfl,(.vn (by first | rfl | simp only [List.length_set])),.rfl,trivial⟩) fun sk2 ok2 hr hik2=>?_)
      obtain⟨s4,s5,s6⟩:=sk2
      have hr:=hr
      refine AW.seq (AW.seq (AW.regL ?_))
      iterate 2 refine V rfl ?_
      refine LV (s4.drop s1.toNat).length ?_
      refine V rfl ?_
      refine AL.nil ?_
      refine ifE hr (fun h4 hr=>?_) fun h4 hr=>?_
      ·refine AW.cT rfl (dT h4) ?_
       refine AW.skip ?_
       refine bdE hr fun q3 hqq3 hr=>?_
       obtain⟨s7,s8⟩:=q3
       refine AW.seq (AW.cut1 1 [(0,.ref 0 none),(3,.d .fz (.i .i64 s7)),(4,.vs 0 none s1.toNat (s8.length - s1.toNat)),(5,.d .fz (.i .i64 s6))] [(0,.row .fz 2 (s8.map Occurrence.D))] ?_ ?_)
       ·replace hr:=hqq3
        refine AW.block (AW.seq (AW.drawL (h:=?_)))
        iterate 2 refine V rfl ?_
        refine ggE hr fun g6 hr=>?_
        refine bdE hr fun x3 hx3 hr=>?_
        refine IV hx3 g6 (q8X hx3) ?_
        refine LPa hx3 ?_
        iterate 2 refine V rfl ?_
        refine ggE hr fun g7 hr=>?_
        refine OB _ (bSub g7) ?_
        refine ggE hr fun g8 hr=>?_
        refine bdE hr fun x4 hx4 hr=>?_
        refine IV hx4 g8 (q8X hx4) ?_
        refine LPa hx4 ?_
        refine SQn rfl rfl rfl rfl (q3k x3 x4) ?_
        refine AL.nil ?_
        refine ifE hr (fun h5 hr=>?_) fun h5 hr=>?_
        ·refine AW.cF rfl (nF h5) ?_
         refine AW.skip ?_
         cases hr
         exact GH.ren hS [(0,0)] 1 ⟨.rfl,.rfl,(.vn (by first | rfl | simp only [List.length_set])),.rfl,trivial⟩
        ·refine AW.cT rfl (nT h5) ?_
         refine AW.seq (AW.regL ?_)
         iterate 4 refine V rfl ?_
         refine ggE hr fun g9 hr=>?_
         refine IV hx3 g9 (q8X hx3) ?_
         refine LPa hx3 ?_
         refine ggE hr fun g10 hr=>?_
         refine bdE hr fun x5 hx5 hr=>?_
         refine IE hx5 g10 ?_
         refine SE x3 hx5 ?_
         refine AL.nil ?_
         refine AW.regL ?_
         refine V rfl ?_
         refine ggE hr fun g11 hr=>?_
         refine OB _ (bAdd g11) ?_
         refine V rfl ?_
         refine AL.nil ?_
         cases hr
         exact GH.ren hS [(0,0)] 1 ⟨.rfl,.rfl,(.vn (by first | rfl | simp only [List.length_set])),.rfl,trivial⟩
       ·refine AW.regL ?_
        refine V rfl ?_
        refine ggE hr fun g12 hr=>?_
        refine OB _ (bAdd g12) ?_
        refine V rfl ?_
        refine AL.nil ?_
        cases hr
        exact⟨_,rfl,GH.ren hS [(0,0)] 1 ⟨.rfl,.rfl,(.vn (by first | rfl | simp only [List.length_set])),.rfl,trivial⟩⟩
      ·refine AW.cF rfl (dF h4) ?_
       refine AW.exit ?_
       cases hr
       cases hik2 _ rfl
       exact GH.renK hS [(0,0)] 1
     ·refine AW.seq (AW.regL ?_)
      iterate 2 refine V rfl ?_
      refine ggE hr fun g13 hr=>?_
      refine ggE hr fun g14 hr=>?_
      refine SVL g13 g14 ?_
      refine CLR (⟨(0:Int),(⟨#[]⟩:ByteArray)⟩:Occurrence) g14 ?_
      refine AL.nil ?_
      refine AW.seq (AW.regL ?_)
      iterate 2 refine V rfl ?_
      refine ggE hr fun g15 hr=>?_
      refine ggE hr fun g16 hr=>?_
      refine CU 1 g15 g16 ?_
      refine V rfl ?_
      refine AL.nil ?_
      refine AW.ret ?_
      cases hr
      cases hik1 _ rfl
      rename_i hr
      cases hr
      exact endA.renK [(0,0),(1,1)] 2 hS
    ·refine AW.cF rfl (dF h3) ?_
     refine AW.skip ?_
     refine AW.regL ?_
     refine V rfl ?_
     refine ggE hr fun g17 hr=>?_
     refine OB _ (bAdd g17) ?_
     refine V rfl ?_
     refine AL.nil ?_
     cases hr
     exact⟨_,rfl,GH.renK hS [(0,0)] 1⟩
   ·refine AW.cF rfl (dF h2) ?_
    refine AW.exit ?_
    cases hr
    cases hik1 _ rfl
    exact⟨_,rfl,GH.renK hS [(0,0)] 1⟩
  ·subst hx
   refine AW.seq (AW.regL ?_)
   iterate 2 refine V rfl ?_
   refine AL.nil ?_
   refine AW.ret ?_
   refine endA.gh (GH.mv (i:=0) (j:=1) rfl rfl) ?_
   cases hr
   exact endA.renK [(0,0),(1,1)] 2 hS
def q3M (a0:Expr):Option (List Occurrence):=
 (q2H a0 []).bind fun (y1,z1)=>
 (q2l z1).bind fun z2=>
 (q1Y z2).bind fun y2=>
 some y2
theorem q9b {m:Md}{a0:Expr}{r:(List Occurrence)}(hr:q3M a0=some r):Ok Tryz.prog 47 [Expr.x m a0] [] (.ref 0 none) [.row .fz 2 (r.map Occurrence.D)]:=by
 refine Ok.enter rfl Tryz.func47 rfl rfl rfl fun S hS=>?_
 unfold q3M at hr
 refine AW.seq (AW.regL ?_)
 refine BX 0 ?_
 refine V rfl ?_
 refine AL.nil ?_
 refine AW.seq (AW.regL ?_)
 refine L0 1 Occurrence.D ?_
 refine NV 2 ?_
 refine SB ?_
 refine AL.nil ?_
 refine AW.seq (AW.regL ?_)
 iterate 2 refine V rfl ?_
 refine bdE hr fun q1 hq1 hr=>?_
 obtain⟨y1,z1⟩:=q1
 refine CB [(0,2),(1,1),(2,3)] [] (q5q (m:=m) hq1) ?_
 refine AL.nil ?_
 refine AW.seq (AW.regL ?_)
 refine V rfl ?_
 refine bdE hr fun z2 hz2 hr=>?_
 refine CB [(0,3)] [] (q5u hz2) ?_
 refine AL.nil ?_
 refine AW.seq (AW.regL ?_)
 refine V rfl ?_
 refine bdE hr fun y2 hy2 hr=>?_
 refine CB [(0,3),(1,4)] [] (q5A hy2) ?_
 refine V rfl ?_
 refine AL.nil ?_
 refine AW.ret ?_
 cases hr
 exact endA.renK [(4,0)] 1 hS
def q1O (a1:Occurrence):Nat→Occurrence→Unit→Option (Unit ⊕ Int):=fun k1 xk1 _=>
 if a1=xk1 then (
 some (.inr (k1:Int))
 ) else (
 some (.inl ())
 )
def q1U (a0:(List Occurrence))(a1:Occurrence):Option Int:=
 (findL (q1O a1) 0 a0 ()).bind <| onr (fun r1=>some r1) fun _=>
 some (-1)
theorem q6g {m:Md}{a0:(List Occurrence)}{a1:Occurrence}{r:Int}(hr:q1U a0 a1=some r):Ok Tryz.prog 71 [.d m (.sl 2 (a0.map Occurrence.D)),Occurrence.x .fz a1] [] (.d .fz (.i .i64 r)) []:=by
 refine Ok.enter rfl Tryz.func71 rfl rfl rfl fun S hS=>?_
 unfold q1U at hr
 refine AW.seq (AW.regL ?_)
 refine BX 0 ?_
 refine V rfl ?_
 refine AL.nil ?_
 refine AW.seq (AW.seq (AW.regL ?_))
 refine V rfl ?_
 refine LF ?_
 refine V rfl ?_
 refine AL.nil ?_
 refine AW.block ?_
 refine AW.len (.tmp 0 rfl) fun hl1=>?_
 refine bdE hr fun q1 hqq1 hr=>?_
 refine AW.findL hqq1 hl1 1 (fun k1 _=>[(0,.d m (.sl 2 (a0.map Occurrence.D))),(3,.pb 0 0),(7,.d .fz (.i .i64 (a0.length:Int))),(8,.d .fz (.i .i64 (k1:Int)))]) (fun k1 _=>[]) (GH.renK hS [(0,0)] 1) (fun k1 xk1 sk1 ok1 hxk1 hr hltk1 hik1=>?_) fun k1 sk1 ek1 hltk1=>?_
 ·refine AW.seq (AW.regL ?_)
  refine V rfl ?_
  refine AL.nil ?_
  refine AW.seq (AW.cT rfl (dT hltk1) ?_)
  refine AW.skip ?_
  refine AW.seq (AW.block (AW.seq (AW.regL ?_)))
  iterate 2 refine V rfl ?_
  refine AL.nil ?_
  refine AW.seq (AW.drawL (h:=?_))
  iterate 3 refine V rfl ?_
  refine IF (Int.natCast_nonneg _) hxk1 ?_
  refine V rfl ?_
  refine SQ rfl rfl rfl rfl (q3k a1 xk1) ?_
  refine AL.nil ?_
  refine ifE hr (fun h1 hr=>?_) fun h1 hr=>?_
  ·refine AW.cT rfl (dT h1) ?_
   refine AW.seq (AW.regL ?_)
   iterate 2 refine V rfl ?_
   refine AL.nil ?_
   refine AW.ret ?_
   cases hr
   cases hik1 _ rfl
   rename_i hr
   cases hr
   exact endA.renK [] 0 hS
  ·refine AW.cF rfl (dF h1) ?_
   refine AW.skip ?_
   refine AW.regL ?_
   refine OB _ (q2c (p:=k1) (q:=1) (q1n hltk1 hl1)) ?_
   refine V rfl ?_
   refine AL.nil ?_
   cases hr
   exact⟨_,rfl,GH.renK hS [(0,0)] 1⟩
 ·subst ek1
  refine AW.seq (AW.regL ?_)
  refine V rfl ?_
  refine AL.nil ?_
  refine AW.seq (AW.cF rfl (dF hltk1) ?_)
  refine AW.exit ?_
  refine AW.seq (AW.regL ?_)
  refine V rfl ?_
  refine AL.nil ?_
  refine AW.ret ?_
  cases hr
  exact endA.renK [] 0 hS
def q2o (a0:(List Occurrence))(a1:Occurrence):Option Int:=
 (q1U a0 a1).bind fun y1=>
 some y1
theorem q8c {m:Md}{a0:(List Occurrence)}{a1:Occurrence}{r:Int}(hr:q2o a0 a1=some r):Ok Tryz.prog 48 [.d m (.sl 2 (a0.map Occurrence.D)),Occurrence.x .fz a1] [] (.d .fz (.i .i64 r)) []:=by
 refine Ok.enter rfl Tryz.func48 rfl rfl rfl fun S hS=>?_
 unfold q2o at hr
 refine AW.seq (AW.regL ?_)
 refine BX 0 ?_
 refine V rfl ?_
 refine AL.nil ?_
 refine AW.seq (AW.regL ?_)
 iterate 2 refine V rfl ?_
 refine bdE hr fun y1 hy1 hr=>?_
 refine CB [] [] (q6g (m:=m) hy1) ?_
 refine V rfl ?_
 refine AL.nil ?_
 refine AW.ret ?_
 cases hr
 exact endA.renK [] 0 hS
def q3T (a0:(List Int)):Option (List Int):=
 grd (((([]:(List Int)).length:Int)+(a0.length:Int))*8≤140737488355328∧(([]:(List Int)).length:Int)+(a0.length:Int)≤9223372036854775807) <|
 some a0
theorem q8d {m:Md}{a0:(List Int)}{r:(List Int)}(hr:q3T a0=some r):Ok Tryz.prog 72 [.d m (.sl 1 (a0.map (A.D.i .i64)))] [] (.ref 0 none) [.row .fz 1 (r.map (A.D.i .i64))]:=by
 refine Ok.enter rfl Tryz.func72 rfl rfl rfl fun S hS=>?_
 unfold q3T at hr
 refine ggE hr fun g1 hr=>?_
 refine AW.seq (AW.regL ?_)
 refine V rfl ?_
 refine AL.nil ?_
 refine AW.seq (AW.seq (AW.nilq rfl fun q hq=>?_))
 cases q with
 | true=>
  refine AW.cT rfl rfl ?_
  refine AW.seq (AW.regL ?_)
  refine V rfl ?_
  refine AL.nil ?_
  refine AW.ret ?_
  have e0:a0=[]:=List.map_eq_nil_iff.1 (hq rfl)
  subst e0
  refine endA.gh (GH.nlT (t:=2) (r:=0) .fz 1 rfl rfl) ?_
  cases hr
  exact endA.renK [(0,0)] 1 hS
 | false=>
  refine AW.cF rfl rfl ?_
  refine AW.skip ?_
  refine AW.seq (AW.regL ?_)
  refine L0 0 (A.D.i .i64) ?_
  refine V rfl ?_
  refine APf 1 (fun _=>rfl) g1 ?_
  refine V rfl ?_
  refine AL.nil ?_
  refine AW.ret ?_
  cases hr
  exact endA.renK [(1,0)] 1 hS
def q3v (a0:Relation):Option Relation:=
 (q3T a0.Rows).bind fun y1=>
 some (⟨a0.N,y1⟩:Relation)
theorem q7c {m:Md}{a0:Relation}{r:Relation}(hr:q3v a0=some r):Ok Tryz.prog 50 [Relation.x m a0] [] (.ag [.d .fz (.i .i64 r.N),.ref 0 none]) [.row .fz 1 (r.Rows.map (A.D.i .i64))]:=by
 refine Ok.enter rfl Tryz.func50 rfl rfl rfl fun S hS=>?_
 unfold q3v at hr
 refine AW.seq (AW.regL ?_)
 refine BX 0 ?_
 refine NV 1 ?_
 refine AL.nil ?_
 refine AW.seq (AW.drawL (h:=?_))
 iterate 4 refine V rfl ?_
 refine bdE hr fun y1 hy1 hr=>?_
 refine CB [(0,2)] [] (q8d (m:=m) hy1) ?_
 refine V rfl ?_
 refine SB ?_
 refine AL.nil ?_
 refine AW.ret ?_
 cases hr
 exact endA.renK [(2,0)] 1 hS
def q2M (a0:Int)(a1:Relation):Option Bool:=
 grd (0≤a1.N) <|
 grd (0≤a1.N∧a1.N < 63) <|
 (q3e a0 0 (((2 ^ a1.N.toNat:Nat):Int) - 1)).bind fun y1=>
 some (!y1)
theorem q7t {m2:Md}{a0:Int}{a1:Relation}{r:Bool}(hr:q2M a0 a1=some r):Ok Tryz.prog 74 [.d .fz (.i .i64 a0),.pb 0 0] [.box [.d .fz (.i .i64 a1.N),.d m2 (.sl 1 (a1.Rows.map (A.D.i .i64)))]] (.d .fz (.b r)) [.box [.d .fz (.i .i64 a1.N),.d m2 (.sl 1 (a1.Rows.map (A.D.i .i64)))]]:=by
 refine Ok.enter rfl Tryz.func74 rfl rfl rfl fun S hS=>?_
 unfold q2M at hr
 refine AW.seq (AW.regL ?_)
 refine V rfl ?_
 refine AL.nil ?_
 refine AW.seq (AW.regL ?_)
 iterate 3 refine V rfl ?_
 refine ggE hr fun g1 hr=>?_
 refine CIU g1 rfl ?_
 refine ggE hr fun g2 hr=>?_
 refine OB _ (z6l g2) ?_
 refine OB _ (j1O (p:=(2 ^ a1.N.toNat)) (k:=1) (by decide)) ?_
 refine bdE hr fun y1 hy1 hr=>?_
 refine CB [] [] (q4t hy1) ?_
 iterate 2 refine V rfl ?_
 refine AL.nil ?_
 refine AW.ret ?_
 cases hr
 exact endA.renK [(0,0)] 1 hS
def q1S (a1_0:Relation):Nat→Int→Unit→Option (Unit ⊕ Int):=fun k1 xk1 _=>
 (q2M xk1 a1_0).bind fun y1=>
 if y1=true then (
 some (.inr (k1:Int))
 ) else (
 some (.inl ())
 )
def q1D (a0:(List Int))(a1_0:Relation):Option Int:=
 (findL (q1S a1_0) 0 a0 ()).bind <| onr (fun r1=>some r1) fun _=>
 some (-1)
theorem q3N {m:Md}{m2:Md}{a0:(List Int)}{a1_0:Relation}{r:Int}(hr:q1D a0 a1_0=some r):Ok Tryz.prog 94 [.d m (.sl 1 (a0.map (A.D.i .i64))),.fn 74 [.pb 0 0]] [.box [.d .fz (.i .i64 a1_0.N),.d m2 (.sl 1 (a1_0.Rows.map (A.D.i .i64)))]] (.d .fz (.i .i64 r)) [.box [.d .fz (.i .i64 a1_0.N),.d m2 (.sl 1 (a1_0.Rows.map (A.D.i .i64)))]]:=by
 refine Ok.enter rfl Tryz.func94 rfl rfl rfl fun S hS=>?_
 unfold q1D at hr
 refine AW.seq (AW.regL ?_)
 refine V rfl ?_
 refine AL.nil ?_
 refine AW.seq (AW.seq (AW.regL ?_))
 refine V rfl ?_
 refine LF ?_
 refine V rfl ?_
 refine AL.nil ?_
 refine AW.block ?_
 refine AW.len (.tmp 0 rfl) fun hl1=>?_
 refine bdE hr fun q1 hqq1 hr=>?_
 refine AW.findL hqq1 hl1 1 (fun k1 _=>[(0,.d m (.sl 1 (a0.map (A.D.i .i64)))),(1,.fn 74 [.pb 0 0]),(7,.d .fz (.i .i64 (a0.length:Int))),(8,.d .fz (.i .i64 (k1:Int)))]) (fun k1 _=>[]) (GH.renK hS [(0,0)] 1) (fun k1 xk1 sk1 ok1 hxk1 hr hltk1 hik1=>?_) fun k1 sk1 ek1 hltk1=>?_
 ·refine AW.seq (AW.regL ?_)
  refine V rfl ?_
  refine AL.nil ?_
  refine AW.seq (AW.cT rfl (dT hltk1) ?_)
  refine AW.skip ?_
  refine AW.seq (AW.block (AW.seq (AW.regL ?_)))
  iterate 2 refine V rfl ?_
  refine AL.nil ?_
  refine AW.seq (AW.regL ?_)
  iterate 3 refine V rfl ?_
  refine IF (Int.natCast_nonneg _) hxk1 ?_
  refine V rfl ?_
  refine bdE hr fun y1 hy1 hr=>?_
  refine CB [(0,0)] [] (q7t (m2:=m2) hy1) ?_
  refine AL.nil ?_
  refine ifE hr (fun h1 hr=>?_) fun h1 hr=>?_
  ·refine AW.cT rfl h1 ?_
   refine AW.seq (AW.regL ?_)
   iterate 2 refine V rfl ?_
   refine AL.nil ?_
   refine AW.ret ?_
   cases hr
   cases hik1 _ rfl
   rename_i hr
   cases hr
   exact endA.renK [(0,0)] 1 hS
  ·refine AW.cF rfl (bF h1) ?_
   refine AW.skip ?_
   refine AW.regL ?_
   refine OB _ (q2c (p:=k1) (q:=1) (q1n hltk1 hl1)) ?_
   refine V rfl ?_
   refine AL.nil ?_
   cases hr
   exact⟨_,rfl,GH.renK hS [(0,0)] 1⟩
 ·subst ek1
  refine AW.seq (AW.regL ?_)
  refine V rfl ?_
  refine AL.nil ?_
  refine AW.seq (AW.cF rfl (dF hltk1) ?_)
  refine AW.exit ?_
  refine AW.seq (AW.regL ?_)
  refine V rfl ?_
  refine AL.nil ?_
  refine AW.ret ?_
  cases hr
  exact endA.renK [(0,0)] 1 hS
def q1y (a0:(List Int))(a1_0:Relation):Option Bool:=
 (q1D a0 a1_0).bind fun y1=>
 some (decide (0≤y1))
theorem q3w {m:Md}{m2:Md}{a0:(List Int)}{a1_0:Relation}{r:Bool}(hr:q1y a0 a1_0=some r):Ok Tryz.prog 73 [.d m (.sl 1 (a0.map (A.D.i .i64))),.fn 74 [.pb 0 0]] [.box [.d .fz (.i .i64 a1_0.N),.d m2 (.sl 1 (a1_0.Rows.map (A.D.i .i64)))]] (.d .fz (.b r)) [.box [.d .fz (.i .i64 a1_0.N),.d m2 (.sl 1 (a1_0.Rows.map (A.D.i .i64)))]]:=by
 refine Ok.enter rfl Tryz.func73 rfl rfl rfl fun S hS=>?_
 unfold q1y at hr
 refine AW.seq (AW.regL ?_)
 refine V rfl ?_
 refine AL.nil ?_
 refine AW.seq (AW.regL ?_)
 iterate 2 refine V rfl ?_
 refine bdE hr fun y1 hy1 hr=>?_
 refine CB [(0,0)] [] (q3N (m:=m) (m2:=m2) hy1) ?_
 iterate 2 refine V rfl ?_
 refine AL.nil ?_
 refine AW.ret ?_
 cases hr
 exact endA.renK [(0,0)] 1 hS
def q2p (a0:Relation):Option Bool:=
 (q3e a0.N 0 16).bind fun y1=>
 (
 if y1=true then (
 some (decide ((a0.Rows.length:Int)=a0.N))
 ) else (
 some false
 )
 ).bind fun s1=>
 (
 if s1=true then (
 (q1y a0.Rows a0).bind fun y2=>
 some (!y2)
 ) else (
 some false
 )
 ).bind fun s2=>
 some s2
theorem q4p {m:Md}{a0:Relation}{r:Bool}(hr:q2p a0=some r):Ok Tryz.prog 51 [Relation.x m a0] [] (.d .fz (.b r)) []:=by
 refine Ok.enter rfl Tryz.func51 rfl rfl rfl fun S hS=>?_
 unfold q2p at hr
 refine AW.seq (AW.regL ?_)
 refine BX 0 ?_
 refine V rfl ?_
 refine AL.nil ?_
 refine AW.seq (AW.regL ?_)
 iterate 2 refine V rfl ?_
 refine bdE hr fun y1 hy1 hr=>?_
 refine CB [] [] (q4t hy1) ?_
 refine bdE hr fun s1 hqq1 hr=>?_
 refine AL.meet1 8 [(1,.pb 0 0),(2,.d .fz (.b false)),(13,.d .fz (.b s1))] ?_ ?_
 ·replace hr:=hqq1
  refine ifE hr (fun h1 hr=>?_) fun h1 hr=>?_
  ·refine VT rfl h1 ?_
   iterate 2 refine V rfl ?_
   refine LF ?_
   iterate 4 refine V rfl ?_
   refine AL.nil ?_
   cases hr
   exact q1u
  ·refine VF rfl (bF h1) ?_
   refine AL.off ?_
   refine AL.off ?_
   refine AL.off ?_
   refine AL.off ?_
   refine AL.off ?_
   refine AL.off ?_
   refine V rfl ?_
   refine AL.nil ?_
   cases hr
   exact q1u
 ·refine bdE hr fun s2 hqq2 hr=>?_
  refine AL.meet1 7 [(2,.d .fz (.b false)),(20,.d .fz (.b s2))] ?_ ?_
  ·replace hr:=hqq2
   refine ifE hr (fun h2 hr=>?_) fun h2 hr=>?_
   ·refine VT rfl h2 ?_
    iterate 3 refine V rfl ?_
    refine bdE hr fun y2 hy2 hr=>?_
    refine CB [(0,0)] [] (q3w (m:=m) (m2:=m) hy2) ?_
    iterate 2 refine V rfl ?_
    refine AL.nil ?_
    cases hr
    exact q1u
   ·refine VF rfl (bF h2) ?_
    refine AL.off ?_
    refine AL.off ?_
    refine AL.off ?_
    refine AL.off ?_
    refine AL.off ?_
    refine V rfl ?_
    refine AL.nil ?_
    cases hr
    exact q1u
  ·refine V rfl ?_
   refine AL.nil ?_
   refine AW.ret ?_
   cases hr
   exact endA.renK [] 0 hS
def q5c (a0:Relation)(a1:Int)(a2:Int):Option Relation:=
 (q3v a0).bind fun y1=>
 (q2p a0).bind fun y2=>
 (
 if y2=true then (
 grd (I64 (a0.N - 1)) <|
 (q3e a1 0 (a0.N - 1)).bind fun y3=>
 some y3
 ) else (
 some false
 )
 ).bind fun s1=>
 (
 if s1=true then (
 grd (I64 (a0.N - 1)) <|
 (q3e a2 0 (a0.N - 1)).bind fun y4=>
 some y4
 ) else (
 some false
 )
 ).bind fun s2=>
 if s2=true then (
 grd (0≤a1) <|
 (y1.Rows[a1.toNat]?).bind fun x1=>
 grd (0≤a2) <|
 grd (0≤a2∧a2 < 63) <|
 grd (0≤x1∧0≤((2 ^ a2.toNat:Nat):Int)) <|
 some (⟨y1.N,(List.set y1.Rows a1.toNat ((x1.toNat ||| ((2 ^ a2.toNat:Nat):Int).toNat:Nat):Int))⟩:Relation)
 ) else (
 some y1
 )
theorem q8e {m:Md}{a0:Relation}{a1:Int}{a2:Int}{r:Relation}(hr:q5c a0 a1 a2=some r):Ok Tryz.prog 35 [Relation.x m a0,.d .fz (.i .i64 a1),.d .fz (.i .i64 a2)] [] (.ag [.d .fz (.i .i64 r.N),.ref 0 none]) [.row .fz 1 (r.Rows.map (A.D.i .i64))]:=by
 refine Ok.enter rfl Tryz.func35 rfl rfl rfl fun S hS=>?_
 unfold q5c at hr
 refine AW.seq (AW.regL ?_)
 refine BX 0 ?_
 refine NV 1 ?_
 refine AL.nil ?_
 refine AW.seq (AW.regL ?_)
 refine V rfl ?_
 refine bdE hr fun y1 hy1 hr=>?_
 refine CB [(0,2)] [] (q7c (m:=m) hy1) ?_
 refine NV 3 ?_
 refine SB ?_
 refine AL.nil ?_
 refine AW.seq (AW.seq (AW.regL ?_))
 refine V rfl ?_
 refine bdE hr fun y2 hy2 hr=>?_
 refine CB [] [] (q4p (m:=m) hy2) ?_
 refine bdE hr fun s1 hqq1 hr=>?_
 refine AL.meet1 7 [(1,.d .fz (.i .i64 a1)),(2,.d .fz (.i .i64 a2)),(3,.pb 0 0),(6,.pb 1 0),(7,.pb 3 0),(18,.d .fz (.b s1))] ?_ ?_
 ·replace hr:=hqq1
  refine ifE hr (fun h1 hr=>?_) fun h1 hr=>?_
  ·refine VT rfl h1 ?_
   iterate 3 refine V rfl ?_
   refine ggE hr fun g1 hr=>?_
   refine OB _ (bSub g1) ?_
   refine bdE hr fun y3 hy3 hr=>?_
   refine CB [] [] (q4t hy3) ?_
   refine V rfl ?_
   refine AL.nil ?_
   cases hr
   exact q1u
  ·refine VF rfl (bF h1) ?_
   refine AL.off ?_
   refine AL.off ?_
   refine AL.off ?_
   refine AL.off ?_
   refine AL.off ?_
   refine V rfl ?_
   refine AL.nil ?_
   cases hr
   exact q1u
 ·refine bdE hr fun s2 hqq2 hr=>?_
  refine AL.meet1 7 [(1,.d .fz (.i .i64 a1)),(2,.d .fz (.i .i64 a2)),(6,.pb 1 0),(7,.pb 3 0),(25,.d .fz (.b s2))] ?_ ?_
  ·replace hr:=hqq2
   refine ifE hr (fun h2 hr=>?_) fun h2 hr=>?_
   ·refine VT rfl h2 ?_
    iterate 3 refine V rfl ?_
    refine ggE hr fun g2 hr=>?_
    refine OB _ (bSub g2) ?_
    refine bdE hr fun y4 hy4 hr=>?_
    refine CB [] [] (q4t hy4) ?_
    refine V rfl ?_
    refine AL.nil ?_
    cases hr
    exact q1u
   ·refine VF rfl (bF h2) ?_
    refine AL.off ?_
    refine AL.off ?_
    refine AL.off ?_
    refine AL.off ?_
    refine AL.off ?_
    refine V rfl ?_
    refine AL.nil ?_
    cases hr
    exact q1u
  ·refine AL.nil ?_
   refine ifE hr (fun h3 hr=>?_) fun h3 hr=>?_
   ·refine AW.cT rfl h3 ?_
    refine AW.regL ?_
    iterate 3 refine V rfl ?_
    refine ggE hr fun g3 hr=>?_
    refine bdE hr fun x1 hx1 hr=>?_
    refine IE hx1 g3 ?_
    refine LP hx1 ?_
    refine V rfl ?_
    refine ggE hr fun g4 hr=>?_
    refine CIU g4 rfl ?_
    refine ggE hr fun g5 hr=>?_
    refine OB _ (z6l g5) ?_
    refine ggE hr fun g6 hr=>?_
    refine OB _ (bOrI g6) ?_
    refine IE hx1 g3 ?_
    refine SE ((x1.toNat ||| ((2 ^ a2.toNat:Nat):Int).toNat:Nat):Int) hx1 ?_
    refine AL.nil ?_
    refine AW.seq (AW.regL ?_)
    refine V rfl ?_
    refine SB ?_
    refine AL.nil ?_
    refine AW.ret ?_
    cases hr
    exact endA.renK [(2,0)] 1 hS
   ·refine AW.cF rfl (bF h3) ?_
    refine AW.skip ?_
    refine AW.seq (AW.regL ?_)
    refine V rfl ?_
    refine SB ?_
    refine AL.nil ?_
    refine AW.ret ?_
    cases hr
    exact endA.renK [(2,0)] 1 hS
end Go.Proofs.YtiojgbiimbefiaaGreat
