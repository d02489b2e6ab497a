/- What some functions of the program compute, as partial functions on plain data, and that they do; each lemma bears its conditions in its statement. -/
import Derived.Test.YtcegfmageiicaaaGreatLift6
set_option linter.unusedVariables false
set_option linter.unusedSimpArgs false
set_option linter.ambiguousOpen false
set_option linter.unusedSectionVars false
set_option linter.unnecessarySimpa false
set_option maxRecDepth 100000
set_option maxHeartbeats 40000000
noncomputable section
namespace Go.Proofs.YtcegfmageiicaaaGreat
open Go Go.E Go.A
def q4N (a0:Relation):Option Bool:=
 (q3Z a0.N 0 16).bind fun y1=>
 (
 if y1=true then (
 some (decide ((a0.Rows.length:Int)=a0.N))
 ) else (
 some false
 )
 ).bind fun s1=>
 (
 if s1=true then (
 (q4k a0.Rows a0).bind fun y2=>
 some (!y2)
 ) else (
 some false
 )
 ).bind fun s2=>
 some s2
theorem q5T {m:Md}{a0:Relation}{r:Bool}(hr:q4N a0=some r):Ok Tryz.prog 115 [Relation.x m a0] [] (dB r) []:=by
 refine OE Tryz.func115 fun S hS=>?_
 unfold q4N at hr
 refine J g<|J (BX' 0)<|bdE hr fun y1 hy1 hr=>J g<|J (CB' [] [] (q4A hy1))<|bdE hr fun s1 hqq1 hr=>q0a 8 [(1,.pb 0 0),(2,dB false),(13,dB s1)] ?_ ?_
 replace hr:=hqq1
 refine ifE hr ?_ ?_<;>intro h1 hr
 exact e
 exact e
 refine bdE hr fun s2 hqq2 hr=>q0a 7 [(2,dB false),(20,dB s2)] ?_ ?_
 replace hr:=hqq2
 refine ifE hr ?_ ?_<;>intro h2 hr
 refine bdE hr fun y2 hy2 hr=>J g<|J (CB' [(0,0)] [] (q8x (m:=m) (m2:=m) hy2))<|e
 exact e
 exact e
def z2I (a0:Relation)(a1:Int)(a2:Int):Option Relation:=
 (q7K a0).bind fun y1=>
 (q4N a0).bind fun y2=>
 (
 if y2=true then (
 grd (I64 (a0.N - 1)) <|
 (q3Z a1 0 (a0.N - 1)).bind fun y3=>
 some y3
 ) else (
 some false
 )
 ).bind fun s1=>
 (
 if s1=true then (
 grd (I64 (a0.N - 1)) <|
 (q3Z a2 0 (a0.N - 1)).bind fun y4=>
 some y4
 ) else (
 some false
 )
 ).bind fun s2=>
 if s2=true then (
 grd (0≤a1) <|
 (y1.Rows[a1.toNat]?).bind fun x1=>
 grd (0≤a2) <|
 grd (0≤a2∧a2 < 63) <|
 grd (0≤x1∧0≤((2 ^ a2.toNat:Nat):Int)) <|
 some (⟨y1.N,(List.set y1.Rows a1.toNat ((x1.toNat ||| ((2 ^ a2.toNat:Nat):Int).toNat:Nat):Int))⟩:Relation)
 ) else (
 some y1
 )
theorem j0c {m:Md}{a0:Relation}{a1:Int}{a2:Int}{r:Relation}(hr:z2I a0 a1 a2=some r):Ok Tryz.prog 116 [Relation.x m a0,dI a1,dI a2] [] (.ag [dI r.N,.ref 0 none]) [.row .fz 1 (r.Rows.map (A.D.i .i64))]:=by
 refine OE Tryz.func116 fun S hS=>?_
 unfold z2I at hr
 refine J g<|J (BX' 0)<|J (NV' 1)<|bdE hr fun y1 hy1 hr=>J g<|J (CB' [(0,2)] [] (z3M (m:=m) hy1))<|J (NV' 3)<|bdE hr fun y2 hy2 hr=>J g<|J (CB' [] [] (q5T (m:=m) hy2))<|bdE hr fun s1 hqq1 hr=>q0a 7 [(1,dI a1),(2,dI a2),(3,.pb 0 0),(6,.pb 1 0),(7,.pb 3 0),(18,dB s1)] ?_ ?_
 replace hr:=hqq1
 refine ifE hr ?_ ?_<;>intro h1 hr
 refine ggE hr fun g1 hr=>bdE hr fun y3 hy3 hr=>J g<|J (CB' [] [] (q4A hy3))<|e
 exact e
 refine bdE hr fun s2 hqq2 hr=>q0a 7 [(1,dI a1),(2,dI a2),(6,.pb 1 0),(7,.pb 3 0),(25,dB s2)] ?_ ?_
 replace hr:=hqq2
 refine ifE hr ?_ ?_<;>intro h2 hr
 refine ggE hr fun g2 hr=>bdE hr fun y4 hy4 hr=>J g<|J (CB' [] [] (q4A hy4))<|e
 exact e
 refine J (gn 1)<|ifE hr ?_ ?_<;>intro h3 hr
 refine ggE hr fun g3 hr=>bdE hr fun x1 hx1 hr=>ggE hr fun g4 hr=>J g ?_
 refine J (CIU' g4 rfl)<|ggE hr fun g5 hr=>J (OB' _ (k2s g5))<|ggE hr fun g6 hr=>J (OB' _ (bOrI g6))<|J g<|J (SE' ((x1.toNat ||| ((2 ^ a2.toNat:Nat):Int).toNat:Nat):Int) hx1)<|J g<|E
 exact e
def q6B (y1:(List Occurrence))(k1:Nat):Nat→Occurrence→((List Int) × Int)→Option ((List Int) × Int):=fun k2 xk2 (s3,s4)=>
 (q5q y1 xk2).bind fun y6=>
 (z2I (⟨s4,s3⟩:Relation) y6 (k1:Int)).bind fun y7=>
 some (y7.Rows,y7.N)
def q6C (a1:Rule)(y1:(List Occurrence)):Nat→Occurrence→((List Int) × Int)→Option ((List Int) × Int):=fun k1 xk1 (s1,s2)=>
 (q8w a1 xk1).bind fun (y3,y4)=>
 (q7X y3).bind fun y5=>
 (eachL (q6B y1 k1) 0 y5 (s1,s2)).bind fun (s3,s4)=>
 some (s3,s4)
def q6o (a0:Grammar)(a1:Rule):Option Relation:=
 (q5f a0 a1).bind fun y1=>
 (q6n (y1.length:Int)).bind fun y2=>
 if 16 < (y1.length:Int) then (
 some (⟨0,[]⟩:Relation)
 ) else (
 (eachL (q6C a1 y1) 0 y1 (y2.Rows,y2.N)).bind fun (s1,s2)=>
 some (⟨s2,s1⟩:Relation)
 )
theorem z6x {m:Md}{a0:Grammar}{a1:Rule}{r:Relation}(hr:q6o a0 a1=some r):Ok Tryz.prog 70 [Grammar.y m a0,Rule.x m a1] [] (.ag [dI r.N,.ref 0 none]) [.row .fz 1 (r.Rows.map (A.D.i .i64))]:=by
 refine OE Tryz.func70 fun S hS=>?_
 unfold q6o at hr
 refine J g<|J (BX' 0)<|J (BX' 1)<|J (NV' 2)<|bdE hr fun y1 hy1 hr=>J g<|J (CB' [(0,3)] [] (z2G (m:=m) hy1))<|bdE hr fun y2 hy2 hr=>J g<|J (CB' [(0,4)] [] (z0d hy2))<|J (NV' 5)<|J (gn 9)<|ifE hr ?_ ?_<;>intro h1 hr
 refine J (gn 7) ?_
 refine J (q0g (q0m (q:=2) (c:=1) (r:=6) .fz 1 rfl rfl rfl))<|J g<|E
 refine J (gn 10)<|J (lenR 3)<|fun hl1=>bdP hr fun s1 s2 hqq1 hr=>q0c hqq1 hl1 6 (fun k1 (s1,s2)=>[(3,.pb 1 0),(4,.pb 2 0),(5,.ref 3 none),(6,.pb 5 0),(23,.ref 3 none),(24,dI (y1.length:Int)),(25,dI (k1:Int))]) (fun k1 (s1,s2)=>[(4,.row .fz 1 (s1.map (A.D.i .i64))),(5,.box [dI s2,.ref 4 none])]) I (fun k1 xk1 sk1 ok1 hxk1 hr hltk1=>?_) fun k1 hltk1=>?_
 obtain⟨s1,s2⟩:=sk1
 refine J g<|J (NV' 6)<|bdP hr fun y3 y4 hq2 hr=>J g<|J (CB' [(0,7)] [] (j2V (m:=m) hq2))<|J g<|J (NV' 8)<|bdE hr fun y5 hy5 hr=>J g<|J (CB' [(0,9)] [7] (z6v (m:=.bo) hy5))<|J (gn 4)<|J (lenR 9)<|fun hl2=>bdP hr fun s3 s4 hqq3 hr=>q0c hqq3 hl2 10 (fun k2 (s3,s4)=>[(3,.pb 1 0),(4,.pb 2 0),(5,.ref 3 none),(6,.pb 5 0),(7,dI (k1:Int)),(23,.ref 3 none),(24,dI (y1.length:Int)),(25,dI (k1:Int)),(37,.ref 9 none),(38,dI (y5.length:Int)),(39,dI (k2:Int))]) (fun k2 (s3,s4)=>[(4,.row .fz 1 (s3.map (A.D.i .i64))),(5,.box [dI s4,.ref 4 none])]) I (fun k2 xk2 sk2 ok2 hxk2 hr hltk2=>?_) fun k2 hltk2=>?_
 obtain⟨s3,s4⟩:=sk2
 refine J g<|J (NV' 10)<|bdE hr fun y6 hy6 hr=>J g<|J (CB' [] [3] (j0a (m:=.bo) hy6))<|bdE hr fun y7 hy7 hr=>J g<|J (CB' [(0,11)] [4] (j0c (m:=.bo) hy7))<|e
 exact e
 exact e
def q5d (a2:Int):Nat→Occurrence→((List Int))→Option ((List Int)):=fun k1 xk1 s1=>
 (
 if xk1.Pos=a2 then (
 grd (((s1.length:Int)+1)*8≤140737488355328∧(s1.length:Int)+1≤9223372036854775807) <|
 some (s1++[(k1:Int)])
 ) else (
 some s1
 )
 ).bind fun s2=>
 some s2
def q4O (a0:Grammar)(a1:Rule)(a2:Int):Option (List Int):=
 (q5f a0 a1).bind fun y1=>
 (eachL (q5d a2) 0 y1 ([]:List Int)).bind fun s1=>
 some s1
theorem z0U {m:Md}{a0:Grammar}{a1:Rule}{a2:Int}{r:(List Int)}(hr:q4O a0 a1 a2=some r):Ok Tryz.prog 75 [Grammar.y m a0,Rule.x m a1,dI a2] [] (.ref 0 none) [.row .fz 1 (r.map (A.D.i .i64))]:=by
 refine OE Tryz.func75 fun S hS=>?_
 unfold q4O at hr
 refine J g<|J (BX' 0)<|J (BX' 1)<|J g<|J (L0' 2 (A.D.i .i64))<|bdE hr fun y1 hy1 hr=>J g<|J (CB' [(0,3)] [] (z2G (m:=m) hy1))<|J (gn 4)<|J (lenR 3)<|fun hl1=>bdE hr fun s1 hqq1 hr=>q0c hqq1 hl1 4 (fun k1 s1=>[(2,dI a2),(7,.ref 2 none),(13,.ref 3 none),(14,dI (y1.length:Int)),(15,dI (k1:Int))]) (fun k1 s1=>[(2,.row .fz 1 (s1.map (A.D.i .i64)))]) I (fun k1 xk1 sk1 ok1 hxk1 hr hltk1=>?_) fun k1 hltk1=>?_
 obtain⟨s1,rfl⟩:∃ y,y=sk1:=⟨_,rfl⟩
 refine bdE hr fun s2 hqq2 hr=>J (gn 8)<|q0d 4 [(2,dI a2),(7,.ref 2 none),(13,.ref 3 none),(14,dI (y1.length:Int)),(15,dI (k1:Int))] [(2,.row .fz 1 (s2.map (A.D.i .i64)))] ?_ ?_
 replace hr:=hqq2
 refine J g<|J (NV' 4)<|J (gn 10)<|ifE hr ?_ ?_<;>intro h1 hr
 refine J g<|J (LIR' 5 (m:=.fz) (f:=(A.D.i .i64)) (xs:=([(k1:Int)]:List Int)))<|ggE hr fun g1 hr=>J (z4z (f:=(A.D.i .i64)) 6 (fun _=>rfl) 8 g1)<|e
 exact e
 exact e
 exact e
def q9m (a0:Relation)(a1:Int)(a2:Int):Option Bool:=
 (q4N a0).bind fun y1=>
 (
 if y1=true then (
 grd (I64 (a0.N - 1)) <|
 (q3Z a1 0 (a0.N - 1)).bind fun y2=>
 some y2
 ) else (
 some false
 )
 ).bind fun s1=>
 (
 if s1=true then (
 grd (I64 (a0.N - 1)) <|
 (q3Z a2 0 (a0.N - 1)).bind fun y3=>
 some y3
 ) else (
 some false
 )
 ).bind fun s2=>
 (
 if s2=true then (
 grd (0≤a1) <|
 (a0.Rows[a1.toNat]?).bind fun x1=>
 grd (0≤a2) <|
 grd (0≤x1∧0≤a2∧a2 < 64) <|
 grd (0≤((x1.toNat >>> a2.toNat:Nat):Int)∧0≤(1:Int)) <|
 some (decide (((((x1.toNat >>> a2.toNat:Nat):Int).toNat &&& (1:Int).toNat:Nat):Int)=1))
 ) else (
 some false
 )
 ).bind fun s3=>
 some s3
theorem z4S {m:Md}{a0:Relation}{a1:Int}{a2:Int}{r:Bool}(hr:q9m a0 a1 a2=some r):Ok Tryz.prog 98 [Relation.x m a0,dI a1,dI a2] [] (dB r) []:=by
 refine OE Tryz.func98 fun S hS=>?_
 unfold q9m at hr
 refine J g<|J (BX' 0)<|bdE hr fun y1 hy1 hr=>J g<|J (CB' [] [] (q5T (m:=m) hy1))<|bdE hr fun s1 hqq1 hr=>q0a 7 [(1,dI a1),(2,dI a2),(3,.pb 0 0),(6,dB false),(15,dB s1)] ?_ ?_
 replace hr:=hqq1
 refine ifE hr ?_ ?_<;>intro h1 hr
 refine ggE hr fun g1 hr=>bdE hr fun y2 hy2 hr=>J g<|J (CB' [] [] (q4A hy2))<|e
 exact e
 refine bdE hr fun s2 hqq2 hr=>q0a 7 [(1,dI a1),(2,dI a2),(3,.pb 0 0),(6,dB false),(22,dB s2)] ?_ ?_
 replace hr:=hqq2
 refine ifE hr ?_ ?_<;>intro h2 hr
 refine ggE hr fun g2 hr=>bdE hr fun y3 hy3 hr=>J g<|J (CB' [] [] (q4A hy3))<|e
 exact e
 refine bdE hr fun s3 hqq3 hr=>q0a 12 [(6,dB false),(34,dB s3)] ?_ ?_
 replace hr:=hqq3
 refine ifE hr ?_ ?_<;>intro h3 hr
 refine ggE hr fun g3 hr=>bdE hr fun x1 hx1 hr=>ggE hr fun g4 hr=>J g ?_
 refine J (CIU' g4 rfl)<|ggE hr fun g5 hr=>J (OB' _ (k6h g5))<|ggE hr fun g6 hr=>J (OB' _ (k6i g6))<|J g<|E
 exact e
 exact e
def j0S (a4:Relation)(k1:Nat)(xk1:Int):Nat→Int→(Int × (List Int))→Option (Int × (List Int)):=fun k2 xk2 (s3,s4)=>
 (
 (q9m a4 (k1:Int) (k2:Int)).bind fun y2=>
 if y2=true then (
 (z2I (⟨s3,s4⟩:Relation) xk1 xk2).bind fun y3=>
 some (y3.N,y3.Rows)
 ) else (
 some (s3,s4)
 )
 ).bind fun (s6,s5)=>
 some (s6,s5)
def j0T (a4:Relation)(y1:(List Int)):Nat→Int→(Int × (List Int))→Option (Int × (List Int)):=fun k1 xk1 (s1,s2)=>
 (eachL (j0S a4 k1 xk1) 0 y1 (s1,s2)).bind fun (s3,s4)=>
 some (s3,s4)
def z9o (a0:Grammar)(a1:Rule)(a2:Relation)(a3:Int)(a4:Relation):Option Relation:=
 (q4O a0 a1 a3).bind fun y1=>
 (eachL (j0T a4 y1) 0 y1 (a2.N,a2.Rows)).bind fun (s1,s2)=>
 some (⟨s1,s2⟩:Relation)
theorem j8N {m:Md}{a0:Grammar}{a1:Rule}{a2:Relation}{a3:Int}{a4:Relation}{r:Relation}(hr:z9o a0 a1 a2 a3 a4=some r):Ok Tryz.prog 71 [Grammar.y m a0,Rule.x m a1,.ag [dI a2.N,.ref 0 none],dI a3,Relation.x m a4] [.row .fz 1 (a2.Rows.map (A.D.i .i64))] (.ag [dI r.N,.ref 1 none]) [.dead,.row .fz 1 (r.Rows.map (A.D.i .i64))]:=by
 refine OE Tryz.func71 fun S hS=>?_
 unfold z9o at hr
 refine J g<|J (BX' 1)<|J (BX' 2)<|J (BX' 3)<|J (BX' 4)<|J (NV' 5)<|bdE hr fun y1 hy1 hr=>J g<|J (CB' [(0,6)] [] (z0U (m:=m) hy1))<|J (gn 10) ?_
 refine J (q2j 0 7 rfl)<|J (lenR 6)<|fun hl1=>bdP hr fun s1 s2 hqq1 hr=>q0c hqq1 hl1 8 (fun k1 (s1,s2)=>[(7,.pb 3 0),(9,.pb 4 0),(10,.pb 5 0),(11,.ref 6 none),(20,.ref 6 none),(21,dI (y1.length:Int)),(22,dI (k1:Int))]) (fun k1 (s1,s2)=>[(3,.box [dI s1,.ref 7 none]),(7,.row .fz 1 (s2.map (A.D.i .i64)))]) I (fun k1 xk1 sk1 ok1 hxk1 hr hltk1=>?_) fun k1 hltk1=>?_
 obtain⟨s1,s2⟩:=sk1
 refine J (gn 24)<|J (lenR 6)<|fun hl2=>bdP hr fun s3 s4 hqq2 hr=>q0c hqq2 hl2 8 (fun k2 (s3,s4)=>[(7,.pb 3 0),(9,.pb 4 0),(10,.pb 5 0),(11,.ref 6 none),(12,dI (k1:Int)),(13,dI xk1),(20,.ref 6 none),(21,dI (y1.length:Int)),(22,dI (k1:Int)),(27,.ref 6 none),(28,dI (y1.length:Int)),(29,dI (k2:Int))]) (fun k2 (s3,s4)=>[(3,.box [dI s3,.ref 7 none]),(7,.row .fz 1 (s4.map (A.D.i .i64)))]) I (fun k2 xk2 sk2 ok2 hxk2 hr hltk2=>?_) fun k2 hltk2=>?_
 obtain⟨s3,s4⟩:=sk2
 refine bdP hr fun s6 s5 hqq3 hr=>J (gn 8)<|q0d 8 [(7,.pb 3 0),(9,.pb 4 0),(10,.pb 5 0),(11,.ref 6 none),(12,dI (k1:Int)),(13,dI xk1),(20,.ref 6 none),(21,dI (y1.length:Int)),(22,dI (k1:Int)),(27,.ref 6 none),(28,dI (y1.length:Int)),(29,dI (k2:Int))] [(3,.box [dI s6,.ref 7 none]),(7,.row .fz 1 (s5.map (A.D.i .i64)))] ?_ ?_
 replace hr:=hqq3
 refine bdE hr fun y2 hy2 hr=>J g<|J (CB' [] [] (z4S (m:=m) hy2))<|J (gn 1)<|ifE hr ?_ ?_<;>intro h1 hr
 refine bdE hr fun y3 hy3 hr=>J g<|J (CB' [(0,8)] [7] (j0c (m:=.bo) hy3))<|e
 exact e
 exact e
 exact e
 exact e
def z6y (k1:Nat):Nat→((List Int))→Option ((List Int)):=fun k2 s2=>
 (
 (s2[k2]?).bind fun x1=>
 grd (0≤x1∧0≤(k1:Int)∧(k1:Int) < 64) <|
 grd (0≤((x1.toNat >>> (k1:Int).toNat:Nat):Int)∧0≤(1:Int)) <|
 if ((((x1.toNat >>> (k1:Int).toNat:Nat):Int).toNat &&& (1:Int).toNat:Nat):Int)=1 then (
 (s2[k1]?).bind fun x2=>
 grd (0≤x1∧0≤x2) <|
 some (List.set s2 k2 ((x1.toNat ||| x2.toNat:Nat):Int))
 ) else (
 some s2
 )
 ).bind fun s3=>
 some s3
def z2J:Nat→((List Int))→Option ((List Int)):=fun k1 s1=>
 (eachN (z6y k1) 0 s1.length s1).bind fun s2=>
 some s2
def q7a (a0:Relation):Option Relation:=
 (q7K a0).bind fun y1=>
 (q4N a0).bind fun y2=>
 if y2=true then (
 (eachN z2J 0 y1.Rows.length y1.Rows).bind fun s1=>
 some (⟨y1.N,s1⟩:Relation)
 ) else (
 some y1
 )
theorem z2K {m:Md}{a0:Relation}{r:Relation}(hr:q7a a0=some r):Ok Tryz.prog 73 [Relation.x m a0] [] (.ag [dI r.N,.ref 0 none]) [.row .fz 1 (r.Rows.map (A.D.i .i64))]:=by
 refine OE Tryz.func73 fun S hS=>?_
 unfold q7a at hr
 refine J g<|J (BX' 0)<|J (NV' 1)<|bdE hr fun y1 hy1 hr=>J g<|J (CB' [(0,2)] [] (z3M (m:=m) hy1))<|J (NV' 3)<|bdE hr fun y2 hy2 hr=>J g<|J (CB' [] [] (q5T (m:=m) hy2))<|J (gn 2)<|ifE hr ?_ ?_<;>intro h1 hr
 refine J (gn 11)<|J (rngT 14)<|fun hl1=>bdE hr fun s1 hqq1 hr=>q0k hqq1 4 (fun k1 s1=>[(2,.pb 1 0),(3,.pb 3 0),(14,dI (y1.Rows.length:Int)),(15,dI (k1:Int))]) (fun k1 s1=>[(2,.row .fz 1 (s1.map (A.D.i .i64)))]) I (fun k1 sk1 ok1 hr hltk1=>?_) ?_
 obtain⟨s1,rfl⟩:∃ y,y=sk1:=⟨_,rfl⟩
 refine J (gn 22)<|J (rngT 20)<|fun hl2=>bdE hr fun s2 hqq2 hr=>q0k hqq2 4 (fun k2 s2=>[(2,.pb 1 0),(3,.pb 3 0),(4,dI (k1:Int)),(14,dI (y1.Rows.length:Int)),(15,dI (k1:Int)),(20,dI (s1.length:Int)),(21,dI (k2:Int))]) (fun k2 s2=>[(2,.row .fz 1 (s2.map (A.D.i .i64)))]) I (fun k2 sk2 ok2 hr hltk2=>?_) ?_
 obtain⟨s2,rfl⟩:∃ y,y=sk2:=⟨_,rfl⟩
 refine bdE hr fun s3 hqq3 hr=>J (gn 8)<|q0d 4 [(2,.pb 1 0),(3,.pb 3 0),(4,dI (k1:Int)),(14,dI (y1.Rows.length:Int)),(15,dI (k1:Int)),(20,dI (s1.length:Int)),(21,dI (k2:Int))] [(2,.row .fz 1 (s3.map (A.D.i .i64)))] ?_ ?_
 replace hr:=hqq3
 refine bdE hr fun x1 hx1 hr=>J g ?_
 refine J (CIU' (Int.natCast_nonneg _) rfl)<|ggE hr fun g1 hr=>J (OB' _ (k6h g1))<|ggE hr fun g2 hr=>J (OB' _ (k6i g2))<|J (gn 2)<|ifE hr ?_ ?_<;>intro h2 hr
 refine bdE hr fun x2 hx2 hr=>ggE hr fun g3 hr=>J g<|J (OB' _ (bOrI g3))<|J g<|J (SE' ((x1.toNat ||| x2.toNat:Nat):Int) hx1)<|e
 exact e
 exact e
 exact e
 exact e
 exact e
def z1U (a0:Grammar)(a1:Rule):Nat→Relation→((List Int) × Int)→Option (((List Int) × Int) ⊕ Relation):=fun k1 xk1 (s1,s2)=>
 (a1.Right[k1]?).bind fun x1=>
 (q4g a0 x1).bind fun y3=>
 if xk1.N=(y3.length:Int) then (
 (z9o a0 a1 (⟨s2,s1⟩:Relation) ((k1+1:Nat):Int) xk1).bind fun y4=>
 some (.inl (y4.Rows,y4.N))
 ) else (
 some (.inr (⟨0,[]⟩:Relation))
 )
def z0I (a0:Grammar)(a1:Rule)(a2:(List Relation)):Option Relation:=
 if (a2.length:Int)=(a1.Right.length:Int) then (
 (q5f a0 a1).bind fun y1=>
 if 16 < (y1.length:Int) then (
 some (⟨0,[]⟩:Relation)
 ) else (
 (q6o a0 a1).bind fun y2=>
 (findL (z1U a0 a1) 0 a2 (y2.Rows,y2.N)).bind <| onr (fun r1=>some r1) fun (s1,s2)=>
 (q7a (⟨s2,s1⟩:Relation)).bind fun y5=>
 some y5
 )
 ) else (
 some (⟨0,[]⟩:Relation)
 )
theorem j4B {m:Md}{a0:Grammar}{a1:Rule}{a2:(List Relation)}{r:Relation}(hr:z0I a0 a1 a2=some r):Ok Tryz.prog 99 [Grammar.y m a0,Rule.x m a1,.d m (.sl 2 (a2.map Relation.D))] [] (.ag [dI r.N,.ref 0 none]) [.row .fz 1 (r.Rows.map (A.D.i .i64))]:=by
 refine OE Tryz.func99 fun S hS=>?_
 unfold z0I at hr
 refine J g<|J (BX' 0)<|J (BX' 1)<|J (NV' 2)<|J (gn 10)<|ifE hr ?_ ?_<;>intro h1 hr
 refine bdE hr fun y1 hy1 hr=>J g<|J (CB' [(0,3)] [] (z2G (m:=m) hy1))<|J (gn 4)<|ifE hr ?_ ?_<;>intro h2 hr
 refine J (gn 7) ?_
 refine J (q0g (q0m (q:=2) (c:=1) (r:=4) .fz 1 rfl rfl rfl))<|J g<|E
 refine bdE hr fun y2 hy2 hr=>J g<|J (CB' [(0,4)] [] (z6x (m:=m) hy2))<|J (NV' 5)<|J (gn 10)<|J (lenT 2)<|fun hl1=>bdE hr fun q1 hqq1 hr=>q0b hqq1 hl1 6 (fun k1 (s1,s2)=>[(3,.pb 0 0),(4,.pb 1 0),(6,.pb 2 0),(7,.pb 5 0),(27,.d m (.sl 2 (a2.map Relation.D))),(28,dI (a2.length:Int)),(29,dI (k1:Int))]) (fun k1 (s1,s2)=>[(4,.row .fz 1 (s1.map (A.D.i .i64))),(5,.box [dI s2,.ref 4 none])]) I (fun k1 xk1 sk1 ok1 hxk1 hr hltk1 hik1=>?_) fun k1 sk1 ek1 hltk1=>?_
 obtain⟨s1,s2⟩:=sk1
 refine J g<|J (NV' 6)<|bdE hr fun x1 hx1 hr=>bdE hr fun y3 hy3 hr=>J g<|J (CB' [(0,7)] [] (q7J (m:=m) hy3))<|J (gn 3)<|ifE hr ?_ ?_<;>intro h3 hr
 refine bdE hr fun y4 hy4 hr=>J g<|J (CB' [(0,4),(1,8)] [] (j8N (m:=m) hy4))<|e
 refine J (gn 7) ?_
 refine J (q0g (q0m (q:=2) (c:=1) (r:=8) .fz 1 rfl rfl rfl))<|J g<|E
 subst ek1
 obtain⟨s1,s2⟩:=sk1
 refine bdE hr fun y5 hy5 hr=>J g<|J (CB' [(0,6)] [4] (z2K (m:=.bo) hy5))<|e
 refine J (gn 15) ?_
 refine J (q0g (q0m (q:=2) (c:=1) (r:=3) .fz 1 rfl rfl rfl))<|J g<|E
def z7P (a0:Grammar)(a2:(List Relation)):Nat→ByteArray→((List Relation))→Option ((List Relation)):=fun k1 xk1 s1=>
 (q7q a0 xk1).bind fun y1=>
 grd (0≤y1) <|
 (a2[y1.toNat]?).bind fun x1=>
 grd (((s1.length:Int)+1)*32≤140737488355328∧(s1.length:Int)+1≤9223372036854775807) <|
 some (s1++[x1])
def q8y (a0:Grammar)(a1:Rule)(a2:(List Relation)):Option Relation:=
 (eachL (z7P a0 a2) 0 a1.Right ([]:List Relation)).bind fun s1=>
 (z0I a0 a1 s1).bind fun y2=>
 some y2
theorem z7Q {m:Md}{a0:Grammar}{a1:Rule}{a2:(List Relation)}{r:Relation}(hr:q8y a0 a1 a2=some r):Ok Tryz.prog 42 [Grammar.y m a0,Rule.x m a1,.d m (.sl 2 (a2.map Relation.D))] [] (.ag [dI r.N,.ref 0 none]) [.row .fz 1 (r.Rows.map (A.D.i .i64))]:=by
 refine OE Tryz.func42 fun S hS=>?_
 unfold q8y at hr
 refine J g<|J (BX' 0)<|J (BX' 1)<|J (NV' 2)<|J g<|J (L0' 3 Relation.D)<|J (gn 11)<|J (lenA 2 1)<|fun hl1=>bdE hr fun s1 hqq1 hr=>?_
 refine q0c hqq1 hl1 4 (fun k1 s1=>[(2,.d m (.sl 2 (a2.map Relation.D))),(3,.pb 0 0),(4,.pb 1 0),(6,.pb 2 0),(7,.ref 3 none),(12,.d m (.sl 1 (a1.Right.map A.D.s))),(13,dI (a1.Right.length:Int)),(14,dI (k1:Int))]) (fun k1 s1=>[(3,.row m 2 (s1.map Relation.D))]) (GH.trans (q1A (r:=3) m rfl) I) (fun k1 xk1 sk1 ok1 hxk1 hr hltk1=>?_) fun k1 hltk1=>?_
 obtain⟨s1,rfl⟩:∃ y,y=sk1:=⟨_,rfl⟩
 refine bdE hr fun y1 hy1 hr=>J g<|J (CB' [] [] (z1T (m:=m) hy1))<|ggE hr fun g1 hr=>bdE hr fun x1 hx1 hr=>J g ?_
 refine J (k6l 4 (m:=m) (f:=Relation.D) [x1] rfl)<|ggE hr fun g2 hr=>J (AP1' 5 m 32 g2)<|J g<|E
 refine bdE hr fun y2 hy2 hr=>J g<|J (CB' [(0,4)] [3] (j4B (m:=.bo) hy2))<|e
def z3Z (a2:Relation)(y2:(List Int))(k1:Nat)(xk1:Attribute):Nat→Attribute→((List Int) × Int)→Option ((List Int) × Int):=fun k2 xk2 (s3,s4)=>
 (
 if xk1.Mode=1 then (
 if xk2.Mode=2 then (
 (y2[k1]?).bind fun x1=>
 (y2[k2]?).bind fun x2=>
 (q9m a2 x1 x2).bind fun y4=>
 if y4=true then (
 (z2I (⟨s4,s3⟩:Relation) (k1:Int) (k2:Int)).bind fun y5=>
 some (y5.Rows,y5.N)
 ) else (
 some (s3,s4)
 )
 ) else (
 some (s3,s4)
 )
 ) else (
 some (s3,s4)
 )
 ).bind fun (s5,s6)=>
 some (s5,s6)
def z7o (a2:Relation)(y1:(List Attribute))(y2:(List Int)):Nat→Attribute→((List Int) × Int)→Option ((List Int) × Int):=fun k1 xk1 (s1,s2)=>
 (eachL (z3Z a2 y2 k1 xk1) 0 y1 (s1,s2)).bind fun (s3,s4)=>
 some (s3,s4)
def z1f (a0:Grammar)(a1:Rule)(a2:Relation):Option Relation:=
 (q4g a0 a1.Left).bind fun y1=>
 (q4O a0 a1 0).bind fun y2=>
 (q6n (y1.length:Int)).bind fun y3=>
 (eachL (z7o a2 y1 y2) 0 y1 (y3.Rows,y3.N)).bind fun (s1,s2)=>
 some (⟨s2,s1⟩:Relation)
theorem j7k {m:Md}{a0:Grammar}{a1:Rule}{a2:Relation}{r:Relation}(hr:z1f a0 a1 a2=some r):Ok Tryz.prog 59 [Grammar.y m a0,Rule.x m a1,Relation.x m a2] [] (.ag [dI r.N,.ref 0 none]) [.row .fz 1 (r.Rows.map (A.D.i .i64))]:=by
 refine OE Tryz.func59 fun S hS=>?_
 unfold z1f at hr
 refine J g<|J (BX' 0)<|J (BX' 1)<|J (BX' 2)<|J (NV' 3)<|bdE hr fun y1 hy1 hr=>J g<|J (CB' [(0,4)] [] (q7J (m:=m) hy1))<|bdE hr fun y2 hy2 hr=>J g<|J (CB' [(0,5)] [] (z0U (m:=m) hy2))<|bdE hr fun y3 hy3 hr=>J g<|J (CB' [(0,6)] [] (z0d hy3))<|J (NV' 7)<|J (gn 10)<|J (lenR 4)<|fun hl1=>bdP hr fun s1 s2 hqq1 hr=>q0c hqq1 hl1 8 (fun k1 (s1,s2)=>[(5,.pb 2 0),(6,.pb 3 0),(7,.ref 4 none),(8,.ref 5 none),(9,.pb 7 0),(24,.ref 4 none),(25,dI (y1.length:Int)),(26,dI (k1:Int))]) (fun k1 (s1,s2)=>[(6,.row .fz 1 (s1.map (A.D.i .i64))),(7,.box [dI s2,.ref 6 none])]) I (fun k1 xk1 sk1 ok1 hxk1 hr hltk1=>?_) fun k1 hltk1=>?_
 obtain⟨s1,s2⟩:=sk1
 refine J g<|J (NV' 8)<|J (gn 10)<|J (lenR 4)<|fun hl2=>bdP hr fun s3 s4 hqq2 hr=>q0c hqq2 hl2 9 (fun k2 (s3,s4)=>[(5,.pb 2 0),(6,.pb 3 0),(7,.ref 4 none),(8,.ref 5 none),(9,.pb 7 0),(10,dI (k1:Int)),(11,.pb 8 0),(24,.ref 4 none),(25,dI (y1.length:Int)),(26,dI (k1:Int)),(31,.ref 4 none),(32,dI (y1.length:Int)),(33,dI (k2:Int))]) (fun k2 (s3,s4)=>[(6,.row .fz 1 (s3.map (A.D.i .i64))),(7,.box [dI s4,.ref 6 none])]) I (fun k2 xk2 sk2 ok2 hxk2 hr hltk2=>?_) fun k2 hltk2=>?_
 obtain⟨s3,s4⟩:=sk2
 refine bdP hr fun s5 s6 hqq3 hr=>J (gn 8)<|q0d 9 [(5,.pb 2 0),(6,.pb 3 0),(7,.ref 4 none),(8,.ref 5 none),(9,.pb 7 0),(10,dI (k1:Int)),(11,.pb 8 0),(24,.ref 4 none),(25,dI (y1.length:Int)),(26,dI (k1:Int)),(31,.ref 4 none),(32,dI (y1.length:Int)),(33,dI (k2:Int))] [(6,.row .fz 1 (s5.map (A.D.i .i64))),(7,.box [dI s6,.ref 6 none])] ?_ ?_
 replace hr:=hqq3
 refine J g<|J (NV' 9)<|J (gn 8)<|ifE hr ?_ ?_<;>intro h1 hr
 refine J (gn 5)<|ifE hr ?_ ?_<;>intro h2 hr
 refine bdE hr fun x1 hx1 hr=>bdE hr fun x2 hx2 hr=>bdE hr fun y4 hy4 hr=>J g<|J (CB' [] [] (z4S (m:=m) hy4))<|J (gn 2)<|ifE hr ?_ ?_<;>intro h3 hr
 refine bdE hr fun y5 hy5 hr=>J g<|J (CB' [(0,10)] [6] (j0c (m:=.bo) hy5))<|e
 exact e
 exact e
 exact e
 exact e
 exact e
 exact e
def z6z (a1:Relation):Nat→((List Int))→Option ((List Int)):=fun k1 s3=>
 (s3[k1]?).bind fun x1=>
 (a1.Rows[k1]?).bind fun x2=>
 grd (0≤x1∧0≤x2) <|
 some (List.set s3 k1 ((x1.toNat ||| x2.toNat:Nat):Int))
def q7Y (a0:Relation)(a1:Relation):Option Relation:=
 (q7K a0).bind fun y1=>
 (q4N a0).bind fun y2=>
 (
 if y2=true then (
 (q4N a1).bind fun y3=>
 some y3
 ) else (
 some false
 )
 ).bind fun s1=>
 (
 if s1=true then (
 some (decide (a0.N=a1.N))
 ) else (
 some false
 )
 ).bind fun s2=>
 if s2=true then (
 (eachN (z6z a1) 0 y1.Rows.length y1.Rows).bind fun s3=>
 some (⟨y1.N,s3⟩:Relation)
 ) else (
 some y1
 )
theorem z6A {m:Md}{a0:Relation}{a1:Relation}{r:Relation}(hr:q7Y a0 a1=some r):Ok Tryz.prog 58 [Relation.x m a0,Relation.x m a1] [] (.ag [dI r.N,.ref 0 none]) [.row .fz 1 (r.Rows.map (A.D.i .i64))]:=by
 refine OE Tryz.func58 fun S hS=>?_
 unfold q7Y at hr
 refine J g<|J (BX' 0)<|J (BX' 1)<|J (NV' 2)<|bdE hr fun y1 hy1 hr=>J g<|J (CB' [(0,3)] [] (z3M (m:=m) hy1))<|J (NV' 4)<|bdE hr fun y2 hy2 hr=>J g<|J (CB' [] [] (q5T (m:=m) hy2))<|bdE hr fun s1 hqq1 hr=>q0a 4 [(2,.pb 0 0),(3,.pb 1 0),(4,.pb 2 0),(5,.pb 4 0),(14,dB s1)] ?_ ?_
 replace hr:=hqq1
 refine ifE hr ?_ ?_<;>intro h1 hr
 refine bdE hr fun y3 hy3 hr=>J g<|J (CB' [] [] (q5T (m:=m) hy3))<|e
 exact e
 refine bdE hr fun s2 hqq2 hr=>q0a 7 [(3,.pb 1 0),(4,.pb 2 0),(5,.pb 4 0),(21,dB s2)] ?_ ?_
 replace hr:=hqq2
 refine ifE hr ?_ ?_<;>intro h2 hr
 exact e
 exact e
 refine J (gn 1)<|ifE hr ?_ ?_<;>intro h3 hr
 refine J (gn 9)<|J (rngT 24)<|fun hl1=>bdE hr fun s3 hqq3 hr=>q0k hqq3 5 (fun k1 s3=>[(3,.pb 1 0),(4,.pb 2 0),(5,.pb 4 0),(24,dI (y1.Rows.length:Int)),(25,dI (k1:Int))]) (fun k1 s3=>[(3,.row .fz 1 (s3.map (A.D.i .i64)))]) I (fun k1 sk1 ok1 hr hltk1=>?_) ?_
 obtain⟨s3,rfl⟩:∃ y,y=sk1:=⟨_,rfl⟩
 refine bdE hr fun x1 hx1 hr=>bdE hr fun x2 hx2 hr=>ggE hr fun g1 hr=>J g<|J (OB' _ (bOrI g1))<|J g<|J (SE' ((x1.toNat ||| x2.toNat:Nat):Int) hx1)<|e
 exact e
 exact e
def j0d (a1:(List Int)):Nat→Int→Unit→Option (Unit ⊕ Bool):=fun k1 xk1 _=>
 (a1[k1]?).bind fun x1=>
 if xk1=x1 then (
 some (.inl ())
 ) else (
 some (.inr false)
 )
def z1V (a0:(List Int))(a1:(List Int)):Option Bool:=
 if (a0.length:Int)=(a1.length:Int) then (
 (findL (j0d a1) 0 a0 ()).bind <| onr (fun r1=>some r1) fun _=>
 some true
 ) else (
 some false
 )
theorem j0e {m:Md}{a0:(List Int)}{a1:(List Int)}{r:Bool}(hr:z1V a0 a1=some r):Ok Tryz.prog 117 [.d m (.sl 1 (a0.map (A.D.i .i64))),.d m (.sl 1 (a1.map (A.D.i .i64)))] [] (dB r) []:=by
 refine OE Tryz.func117 fun S hS=>?_
 unfold z1V at hr
 refine J (gn 13)<|ifE hr ?_ ?_<;>intro h1 hr
 refine J (gn 10)<|J (lenT 0)<|fun hl1=>bdE hr fun q1 hqq1 hr=>q0b hqq1 hl1 0 (fun k1 _=>[(0,.d m (.sl 1 (a0.map (A.D.i .i64)))),(1,.d m (.sl 1 (a1.map (A.D.i .i64)))),(12,dI (a0.length:Int)),(13,dI (k1:Int))]) (fun k1 _=>[]) I (fun k1 xk1 sk1 ok1 hxk1 hr hltk1 hik1=>?_) fun k1 sk1 ek1 hltk1=>?_
 refine bdE hr fun x1 hx1 hr=>J (gn 26)<|ifE hr ?_ ?_<;>intro h2 hr
 exact e
 exact e
 subst ek1
 exact e
 exact e
def q9b (a0:Relation)(a1:Relation):Option Bool:=
 if a0.N=a1.N then (
 (z1V a0.Rows a1.Rows).bind fun y1=>
 some y1
 ) else (
 some false
 )
theorem z6B {m:Md}{a0:Relation}{a1:Relation}{r:Bool}(hr:q9b a0 a1=some r):Ok Tryz.prog 60 [Relation.x m a0,Relation.x m a1] [] (dB r) []:=by
 refine OE Tryz.func60 fun S hS=>?_
 unfold q9b at hr
 refine J g<|J (BX' 0)<|J (BX' 1)<|J (gn 9)<|ifE hr ?_ ?_<;>intro h1 hr
 refine bdE hr fun y1 hy1 hr=>J g<|J (CB' [] [] (j0e (m:=m) hy1))<|e
 exact e
def q9C (a0:Grammar):Nat→Rule→(Bool × (List Relation))→Option (Bool × (List Relation)):=fun k2 xk2 (s4,s5)=>
 (
 (q7q a0 xk2.Left).bind fun y3=>
 grd (0≤y3) <|
 (s5[y3.toNat]?).bind fun x1=>
 (q8y a0 xk2 s5).bind fun y4=>
 (z1f a0 xk2 y4).bind fun y5=>
 (q7Y x1 y5).bind fun y6=>
 if s4=true then (
 some (true,(List.set s5 y3.toNat y6))
 ) else (
 (q9b y6 x1).bind fun y7=>
 some (!y7,(List.set s5 y3.toNat y6))
 )
 ).bind fun (s6,s7)=>
 some (s6,s7)
def q4w (a0:Grammar):((List Relation) × Bool)→Option (((List Relation) × Bool) ⊕ ((List Relation))):=fun (s2,s3)=>
 if s3=true then (
 (eachL (q9C a0) 0 a0.Rules (false,s2)).bind fun (s4,s5)=>
 some (.inl (s5,s4))
 ) else (
 some (.inr s2)
 )
def q6D (a0:Grammar):Option ((List Relation) × Bool):=
 (z2F a0).bind fun y1=>
 if y1=true then (
 (q7y a0).bind fun y2=>
 (q4i (q4w a0) (y2,true)).bind fun s1=>
 some (s1,true)
 ) else (
 some ([],false)
 )
theorem z1W {m:Md}{a0:Grammar}{r:((List Relation) × Bool)}(hr:q6D a0=some r):Ok Tryz.prog 18 [Grammar.x m a0] [] (.tu [.ref 0 none,dB r.2]) [.deep .fz 2 (r.1.map Relation.W) []]:=by
 refine OE Tryz.func18 fun S hS=>?_
 unfold q6D at hr
 refine J g<|J (BX' 0)<|bdE hr fun y1 hy1 hr=>J g<|J (CB' [] [] (j2p (m:=m) hy1))<|J (gn 2)<|ifE hr ?_ ?_<;>intro h1 hr
 refine bdE hr fun y2 hy2 hr=>J g<|J (CB' [(0,1)] [] (z5F (m:=m) hy2))<|bdE hr fun s1 hqq1 hr=>J (gn 7)<|q0d 2 [(4,.ref 1 none)] [(1,.deep .fz 2 (s1.map Relation.W) [])] ?_ ?_
 refine J g<|q0h hqq1 2 (fun (s2,s3)=>[(1,.pb 0 0),(4,.ref 1 none),(5,dB s3)]) (fun (s2,s3)=>[(1,.deep .fz 2 (s2.map Relation.W) [])]) I fun sk1 ok1 hr hik1=>?_
 obtain⟨s2,s3⟩:=sk1
 have hr:=hr
 refine J (gn 5)<|ifE hr ?_ ?_<;>intro h2 hr
 refine J (gn 15)<|J (lenT 17)<|fun hl2=>bdP hr fun s4 s5 hqq2 hr=>q0c hqq2 hl2 2 (fun k2 (s4,s5)=>[(1,.pb 0 0),(4,.ref 1 none),(5,dB s4),(17,.d m (.sl 6 (a0.Rules.map Rule.D))),(18,dI (a0.Rules.length:Int)),(19,dI (k2:Int))]) (fun k2 (s4,s5)=>[(1,.deep .fz 2 (s5.map Relation.W) [])]) I (fun k2 xk2 sk2 ok2 hxk2 hr hltk2=>?_) fun k2 hltk2=>?_
 obtain⟨s4,s5⟩:=sk2
 refine bdP hr fun s6 s7 hqq3 hr=>J (gn 8)<|q0d 2 [(1,.pb 0 0),(4,.ref 1 none),(5,dB s6),(17,.d m (.sl 6 (a0.Rules.map Rule.D))),(18,dI (a0.Rules.length:Int)),(19,dI (k2:Int))] [(1,.deep .fz 2 (s7.map Relation.W) [])] ?_ ?_
 replace hr:=hqq3
 refine J g<|J (NV' 2)<|bdE hr fun y3 hy3 hr=>J g<|J (CB' [] [] (z1T (m:=m) hy3))<|ggE hr fun g1 hr=>bdE hr fun x1 hx1 hr=>J (gn 2)<|J (q0N 1 y3.toNat 1 3 (q3D hx1))<|J g<|J (IEd' g1 (q3C (q3D hx1)))<|J (k3U [(1,3)] (q3C (q3D hx1)))<|bdE hr fun y4 hy4 hr=>J g<|J (CB' [(0,4)] [1,3] (z7Q (m:=.bo) hy4))<|bdE hr fun y5 hy5 hr=>J (CB' [(0,5)] [4] (j7k (m:=.bo) hy5))<|bdE hr fun y6 hy6 hr=>J (CB' [(0,6)] [3,5] (z6A (m:=.bo) hy6))<|J (NV' 7)<|J (gn 5)<|ifE hr ?_ ?_<;>intro h3 hr
 refine J (gn 9)<|J (q0o .refl)<|J g<|J (IEd' g1 (q3C (q3D hx1)))<|J (SD' [.d .fz (.i .i64 y6.N),.w 1 (y6.Rows.map (A.D.i .i64))] [6] (q3C (q3D hx1)))<|J (gn 1) ?_
 cases hr
 exact GH.trans (q0j 1 (he:=eset (f:=Relation.W) (x':=y6) (by first | rfl | (simp only [List.set_set]; rfl)))) (q0e hS 2)
 refine J g<|J (IEd' g1 (q3C (q3D hx1)))<|J (k3U [(1,3)] (q3C (q3D hx1)))<|bdE hr fun y7 hy7 hr=>J (CB' [] [6,3] (z6B (m:=.bo) hy7))<|J (gn 2)<|J (q0o .refl)<|J g<|J (IEd' g1 (q3C (q3D hx1)))<|J (SD' [.d .fz (.i .i64 y6.N),.w 1 (y6.Rows.map (A.D.i .i64))] [6] (q3C (q3D hx1)))<|J (gn 1) ?_
 cases hr
 exact GH.trans (q0j 1 (he:=eset (f:=Relation.W) (x':=y6) (by first | rfl | (simp only [List.set_set]; rfl)))) (q0e hS 2)
 exact e
 exact e
 refine J (gn 2) ?_
 cases hr
 cases hik1 _ rfl
 exact q0e hS 2
 exact e
 refine J (gn 7) ?_
 refine J (q0g (q0s (t:=2) (r:=1) .fz 2 rfl rfl))<|J (q0g (q0L 1 Relation.W))<|J g<|E
def z4T (y1:Relation):Nat→Int→Unit→Option (Unit ⊕ Bool):=fun k1 xk1 _=>
 (q9m y1 (k1:Int) (k1:Int)).bind fun y2=>
 if y2=true then (
 some (.inr true)
 ) else (
 some (.inl ())
 )
def z0e (a0:Relation):Option Bool:=
 (q7a a0).bind fun y1=>
 (findL (z4T y1) 0 y1.Rows ()).bind <| onr (fun r1=>some r1) fun _=>
 some false
theorem j0f {m:Md}{a0:Relation}{r:Bool}(hr:z0e a0=some r):Ok Tryz.prog 41 [Relation.x m a0] [] (dB r) []:=by
 refine OE Tryz.func41 fun S hS=>?_
 unfold z0e at hr
 refine J g<|J (BX' 0)<|bdE hr fun y1 hy1 hr=>J g<|J (CB' [(0,1)] [] (z2K (m:=m) hy1))<|J (NV' 2)<|J (gn 11)<|J (lenR 1)<|fun hl1=>bdE hr fun q1 hqq1 hr=>q0b hqq1 hl1 3 (fun k1 _=>[(3,.pb 2 0),(9,dI (y1.Rows.length:Int)),(10,dI (k1:Int))]) (fun k1 _=>[]) I (fun k1 xk1 sk1 ok1 hxk1 hr hltk1 hik1=>?_) fun k1 sk1 ek1 hltk1=>?_
 refine bdE hr fun y2 hy2 hr=>J g<|J (CB' [] [1] (z4S (m:=.bo) hy2))<|J (gn 1)<|ifE hr ?_ ?_<;>intro h1 hr
 exact e
 exact e
 subst ek1
 exact e
def z6C (a0:Grammar)(y1:(List Relation)):Nat→Rule→((List ByteArray))→Option ((List ByteArray)):=fun k1 xk1 s1=>
 (
 (q8y a0 xk1 y1).bind fun y3=>
 (z0e y3).bind fun y4=>
 if y4=true then (
 grd (((s1.length:Int)+1)*16≤140737488355328∧(s1.length:Int)+1≤9223372036854775807) <|
 some (s1++[xk1.Name])
 ) else (
 some s1
 )
 ).bind fun s2=>
 some s2
def q7Z (a0:Grammar):Option (List ByteArray):=
 (q6D a0).bind fun (y1,y2)=>
 if y2=true then (
 (eachL (z6C a0 y1) 0 a0.Rules ([]:List ByteArray)).bind fun s1=>
 some s1
 ) else (
 some []
 )
theorem z6D {m:Md}{a0:Grammar}{r:(List ByteArray)}(hr:q7Z a0=some r):Ok Tryz.prog 11 [Grammar.x m a0] [] (.ref 0 none) [.row .fz 1 (r.map A.D.s)]:=by
 refine OE Tryz.func11 fun S hS=>?_
 unfold q7Z at hr
 refine J g<|J (BX' 0)<|J g<|J (L0' 1 A.D.s)<|bdP hr fun y1 y2 hq1 hr=>J g<|J (CB' [(0,2)] [] (z1W (m:=m) hq1))<|J (gn 12)<|ifE hr ?_ ?_<;>intro h1 hr
 refine J (gn 11)<|J (lenA 1 0)<|fun hl1=>bdE hr fun s1 hqq2 hr=>q0c hqq2 hl1 3 (fun k1 s1=>[(1,.pb 0 0),(3,.ref 1 none),(4,.ref 2 none),(18,.d m (.sl 6 (a0.Rules.map Rule.D))),(19,dI (a0.Rules.length:Int)),(20,dI (k1:Int))]) (fun k1 s1=>[(1,.row .fz 1 (s1.map A.D.s))]) I (fun k1 xk1 sk1 ok1 hxk1 hr hltk1=>?_) fun k1 hltk1=>?_
 obtain⟨s1,rfl⟩:∃ y,y=sk1:=⟨_,rfl⟩
 refine bdE hr fun s2 hqq3 hr=>J (gn 8)<|q0d 3 [(1,.pb 0 0),(3,.ref 1 none),(4,.ref 2 none),(18,.d m (.sl 6 (a0.Rules.map Rule.D))),(19,dI (a0.Rules.length:Int)),(20,dI (k1:Int))] [(1,.row .fz 1 (s2.map A.D.s))] ?_ ?_
 replace hr:=hqq3
 refine J g<|J (NV' 3)<|bdE hr fun y3 hy3 hr=>J g<|J (CB' [(0,4)] [2] (z7Q (m:=.bo) hy3))<|bdE hr fun y4 hy4 hr=>J (CB' [] [4] (j0f (m:=.bo) hy4))<|J (gn 1)<|ifE hr ?_ ?_<;>intro h2 hr
 refine J g<|J (LIR' 5 (m:=.fz) (f:=A.D.s) (xs:=[xk1.Name]))<|ggE hr fun g1 hr=>J (z4z (f:=A.D.s) 6 (fun _=>rfl) 16 g1)<|e
 exact e
 exact e
 exact e
 exact e
def z7p (a1:(List ByteArray)):Nat→ByteArray→Unit→Option (Unit ⊕ Bool):=fun k1 xk1 _=>
 (a1[k1]?).bind fun x1=>
 if xk1=x1 then (
 some (.inl ())
 ) else (
 some (.inr false)
 )
def q8e (a0:(List ByteArray))(a1:(List ByteArray)):Option Bool:=
 if (a0.length:Int)=(a1.length:Int) then (
 (findL (z7p a1) 0 a0 ()).bind <| onr (fun r1=>some r1) fun _=>
 some true
 ) else (
 some false
 )
theorem z0f {m:Md}{a0:(List ByteArray)}{a1:(List ByteArray)}{r:Bool}(hr:q8e a0 a1=some r):Ok Tryz.prog 12 [.d m (.sl 1 (a0.map A.D.s)),.d m (.sl 1 (a1.map A.D.s))] [] (dB r) []:=by
 refine OE Tryz.func12 fun S hS=>?_
 unfold q8e at hr
 refine J (gn 13)<|ifE hr ?_ ?_<;>intro h1 hr
 refine J (gn 8)<|J (lenT 0)<|fun hl1=>bdE hr fun q1 hqq1 hr=>q0b hqq1 hl1 0 (fun k1 _=>[(0,.d m (.sl 1 (a0.map A.D.s))),(1,.d m (.sl 1 (a1.map A.D.s))),(5,dI (k1:Int))]) (fun k1 _=>[]) I (fun k1 xk1 sk1 ok1 hxk1 hr hltk1 hik1=>?_) fun k1 sk1 ek1 hltk1=>?_
 refine bdE hr fun x1 hx1 hr=>J (gn 24)<|ifE hr ?_ ?_<;>intro h2 hr
 exact e
 exact e
 subst ek1
 exact e
 exact e
def q9n (a0:Attribute)(a1:Attribute):Option Bool:=
 if a0.Name=a1.Name then (
 if a0.Type_=a1.Type_ then (
 if a0.Mode=a1.Mode then (
 if a0.Circular=a1.Circular then (
 some true
 ) else (
 some false
 )
 ) else (
 some false
 )
 ) else (
 some false
 )
 ) else (
 some false
 )
theorem j4C {a0:Attribute}{a1:Attribute}{r:Bool}(hr:q9n a0 a1=some r):Ok Tryz.prog 212 [Attribute.x .fz a0,Attribute.x .fz a1] [] (dB r) []:=by
 refine OE Tryz.func212 fun S hS=>?_
 unfold q9n at hr
 refine J g<|J (BX' 0)<|J (BX' 1)<|J (gn 11)<|ifE hr ?_ ?_<;>intro h1 hr
 refine J (gn 11)<|ifE hr ?_ ?_<;>intro h2 hr
 refine J (gn 11)<|ifE hr ?_ ?_<;>intro h3 hr
 refine J g ?_
 refine J (BQn' rfl rfl)<|J (gn 1)<|ifE hr ?_ ?_<;>intro h4 hr
 exact e
 exact e
 exact e
 exact e
 exact e
def z7R (a1:(List Attribute)):Nat→Attribute→Unit→Option (Unit ⊕ Bool):=fun k1 xk1 _=>
 (a1[k1]?).bind fun x1=>
 (q9n xk1 x1).bind fun y1=>
 if y1=true then (
 some (.inl ())
 ) else (
 some (.inr false)
 )
def z1X (a0:(List Attribute))(a1:(List Attribute)):Option Bool:=
 if (a0.length:Int)=(a1.length:Int) then (
 (findL (z7R a1) 0 a0 ()).bind <| onr (fun r1=>some r1) fun _=>
 some true
 ) else (
 some false
 )
theorem j2W {m:Md}{a0:(List Attribute)}{a1:(List Attribute)}{r:Bool}(hr:z1X a0 a1=some r):Ok Tryz.prog 159 [.d m (.sl 4 (a0.map Attribute.D)),.d m (.sl 4 (a1.map Attribute.D))] [] (dB r) []:=by
 refine OE Tryz.func159 fun S hS=>?_
 unfold z1X at hr
 refine J (gn 13)<|ifE hr ?_ ?_<;>intro h1 hr
 refine J (gn 8)<|J (lenT 0)<|fun hl1=>bdE hr fun q1 hqq1 hr=>q0b hqq1 hl1 0 (fun k1 _=>[(0,.d m (.sl 4 (a0.map Attribute.D))),(1,.d m (.sl 4 (a1.map Attribute.D))),(5,dI (k1:Int))]) (fun k1 _=>[]) I (fun k1 xk1 sk1 ok1 hxk1 hr hltk1 hik1=>?_) fun k1 sk1 ek1 hltk1=>?_
 refine bdE hr fun x1 hx1 hr=>bdE hr fun y1 hy1 hr=>J g<|J (CB' [] [] (j4C hy1))<|J (gn 2)<|ifE hr ?_ ?_<;>intro h2 hr
 exact e
 exact e
 subst ek1
 exact e
 exact e
def z2L (a0:Symbol)(a1:Symbol):Option Bool:=
 if a0.Name=a1.Name then (
 (z1X a0.Attributes a1.Attributes).bind fun y1=>
 if y1=true then (
 some true
 ) else (
 some false
 )
 ) else (
 some false
 )
theorem j8O {m:Md}{a0:Symbol}{a1:Symbol}{r:Bool}(hr:z2L a0 a1=some r):Ok Tryz.prog 100 [Symbol.x m a0,Symbol.x m a1] [] (dB r) []:=by
 refine OE Tryz.func100 fun S hS=>?_
 unfold z2L at hr
 refine J g<|J (BX' 0)<|J (BX' 1)<|J (gn 11)<|ifE hr ?_ ?_<;>intro h1 hr
 refine bdE hr fun y1 hy1 hr=>J g<|J (CB' [] [] (j2W (m:=m) hy1))<|J (gn 2)<|ifE hr ?_ ?_<;>intro h2 hr
 exact e
 exact e
 exact e
def j0U (a1:(List Symbol)):Nat→Symbol→Unit→Option (Unit ⊕ Bool):=fun k1 xk1 _=>
 (a1[k1]?).bind fun x1=>
 (z2L xk1 x1).bind fun y1=>
 if y1=true then (
 some (.inl ())
 ) else (
 some (.inr false)
 )
def z5G (a0:(List Symbol))(a1:(List Symbol)):Option Bool:=
 if (a0.length:Int)=(a1.length:Int) then (
 (findL (j0U a1) 0 a0 ()).bind <| onr (fun r1=>some r1) fun _=>
 some true
 ) else (
 some false
 )
theorem j7l {m:Md}{a0:(List Symbol)}{a1:(List Symbol)}{r:Bool}(hr:z5G a0 a1=some r):Ok Tryz.prog 43 [.d m (.sl 2 (a0.map Symbol.D)),.d m (.sl 2 (a1.map Symbol.D))] [] (dB r) []:=by
 refine OE Tryz.func43 fun S hS=>?_
 unfold z5G at hr
 refine J (gn 13)<|ifE hr ?_ ?_<;>intro h1 hr
 refine J (gn 8)<|J (lenT 0)<|fun hl1=>bdE hr fun q1 hqq1 hr=>q0b hqq1 hl1 0 (fun k1 _=>[(0,.d m (.sl 2 (a0.map Symbol.D))),(1,.d m (.sl 2 (a1.map Symbol.D))),(5,dI (k1:Int))]) (fun k1 _=>[]) I (fun k1 xk1 sk1 ok1 hxk1 hr hltk1 hik1=>?_) fun k1 sk1 ek1 hltk1=>?_
 refine bdE hr fun x1 hx1 hr=>bdE hr fun y1 hy1 hr=>J g<|J (CB' [] [] (j8O (m:=m) hy1))<|J (gn 2)<|ifE hr ?_ ?_<;>intro h2 hr
 exact e
 exact e
 subst ek1
 exact e
 exact e
def q9U (a0:Occurrence)(a1:Occurrence):Option Bool:=
 if a0.Pos=a1.Pos then (
 if a0.Name=a1.Name then (
 some true
 ) else (
 some false
 )
 ) else (
 some false
 )
theorem j2X {a0:Occurrence}{a1:Occurrence}{r:Bool}(hr:q9U a0 a1=some r):Ok Tryz.prog 250 [Occurrence.x .fz a0,Occurrence.x .fz a1] [] (dB r) []:=by
 refine OE Tryz.func250 fun S hS=>?_
 unfold q9U at hr
 refine J g<|J (BX' 0)<|J (BX' 1)<|J (gn 11)<|ifE hr ?_ ?_<;>intro h1 hr
 refine J (gn 11)<|ifE hr ?_ ?_<;>intro h2 hr
 exact e
 exact e
 exact e
def j4D (rec_weqExpr:Expr→Expr→Option Bool)(a1:(List Expr)):Nat→Expr→Unit→Option (Unit ⊕ Bool):=fun k1 xk1 _=>
 (a1[k1]?).bind fun x1=>
 (rec_weqExpr xk1 x1).bind fun y1=>
 if y1=true then (
 some (.inl ())
 ) else (
 some (.inr false)
 )
def z9p (rec_weqExpr:Expr→Expr→Option Bool)(a0:(List Expr))(a1:(List Expr)):Option Bool:=
 if (a0.length:Int)=(a1.length:Int) then (
 (findL (j4D rec_weqExpr a1) 0 a0 ()).bind <| onr (fun r1=>some r1) fun _=>
 some true
 ) else (
 some false
 )
theorem k0o {rec_weqExpr:Expr→Expr→Option Bool}(ih_weqExpr:∀ {m:Md} {a0:Expr} {a1:Expr} {r:Bool},rec_weqExpr a0 a1=some r→Ok Tryz.prog 251 [Expr.x m a0,Expr.x m a1] [] (dB r) []){m:Md}{a0:(List Expr)}{a1:(List Expr)}{r:Bool}(hr:z9p rec_weqExpr a0 a1=some r):Ok Tryz.prog 289 [.d m (.sl 7 (a0.map Expr.D)),.d m (.sl 7 (a1.map Expr.D))] [] (dB r) []:=by
 refine OE Tryz.func289 fun S hS=>?_
 unfold z9p at hr
 refine J (gn 13)<|ifE hr ?_ ?_<;>intro h1 hr
 refine J (gn 8)<|J (lenT 0)<|fun hl1=>bdE hr fun q1 hqq1 hr=>q0b hqq1 hl1 0 (fun k1 _=>[(0,.d m (.sl 7 (a0.map Expr.D))),(1,.d m (.sl 7 (a1.map Expr.D))),(5,dI (k1:Int))]) (fun k1 _=>[]) I (fun k1 xk1 sk1 ok1 hxk1 hr hltk1 hik1=>?_) fun k1 sk1 ek1 hltk1=>?_
 refine bdE hr fun x1 hx1 hr=>bdE hr fun y1 hy1 hr=>J g<|J (CB' [] [] (ih_weqExpr (m:=m) hy1))<|J (gn 2)<|ifE hr ?_ ?_<;>intro h2 hr
 exact e
 exact e
 subst ek1
 exact e
 exact e
def z8K (rec_weqExpr:Expr→Expr→Option Bool)(a0:Expr)(a1:Expr):Option Bool:=
 if a0.Kind=a1.Kind then (
 if a0.N=a1.N then (
 if a0.Pos=a1.Pos then (
 if a0.Type_=a1.Type_ then (
 if a0.Symbol=a1.Symbol then (
 if a0.Name=a1.Name then (
 (z9p rec_weqExpr a0.Args a1.Args).bind fun y1=>
 if y1=true then (
 some true
 ) else (
 some false
 )
 ) else (
 some false
 )
 ) else (
 some false
 )
 ) else (
 some false
 )
 ) else (
 some false
 )
 ) else (
 some false
 )
 ) else (
 some false
 )
theorem k0p {rec_weqExpr:Expr→Expr→Option Bool}(ih_weqExpr:∀ {m:Md} {a0:Expr} {a1:Expr} {r:Bool},rec_weqExpr a0 a1=some r→Ok Tryz.prog 251 [Expr.x m a0,Expr.x m a1] [] (dB r) []){m:Md}{a0:Expr}{a1:Expr}{r:Bool}(hr:z8K rec_weqExpr a0 a1=some r):Ok Tryz.prog 251 [Expr.x m a0,Expr.x m a1] [] (dB r) []:=by
 refine OE Tryz.func251 fun S hS=>?_
 unfold z8K at hr
 refine J g<|J (BX' 0)<|J (BX' 1)<|J (gn 11)<|ifE hr ?_ ?_<;>intro h1 hr
 refine J (gn 11)<|ifE hr ?_ ?_<;>intro h2 hr
 refine J (gn 11)<|ifE hr ?_ ?_<;>intro h3 hr
 refine J (gn 11)<|ifE hr ?_ ?_<;>intro h4 hr
 refine J (gn 11)<|ifE hr ?_ ?_<;>intro h5 hr
 refine J (gn 11)<|ifE hr ?_ ?_<;>intro h6 hr
 refine bdE hr fun y1 hy1 hr=>J g<|J (CB' [] [] (k0o ih_weqExpr (m:=m) hy1))<|J (gn 2)<|ifE hr ?_ ?_<;>intro h7 hr
 exact e
 exact e
 exact e
 exact e
 exact e
 exact e
 exact e
 exact e
def z3v:Nat→Expr→Expr→Option Bool
  | 0,_,_=>none
  | n+1,a0,a1=>z8K (z3v n) a0 a1
def z8L (a0:Expr)(a1:Expr):Option Bool:=recO fun n=>z3v n a0 a1
theorem k0q (n:Nat):∀ {m:Md} {a0:Expr} {a1:Expr} {r:Bool},z3v n a0 a1=some r→Ok Tryz.prog 251 [Expr.x m a0,Expr.x m a1] [] (dB r) []:=by
  induction n with
  | zero=>intro _ _ _ r hr; exact nomatch (show (none:Option Bool)=some r from hr)
  | succ n ih=>intro _ _ _ r hr; exact k0p ih hr
theorem j1I {m:Md}{a0:Expr}{a1:Expr}{r:Bool}(hr:z8L a0 a1=some r):Ok Tryz.prog 251 [Expr.x m a0,Expr.x m a1] [] (dB r) []:=by
 obtain⟨n,hn⟩:=q5V hr
 exact k0q n hn
def z0g (a0:Equation)(a1:Equation):Option Bool:=
 (q9U a0.At a1.At).bind fun y1=>
 if y1=true then (
 (z8L a0.Expr a1.Expr).bind fun y2=>
 if y2=true then (
 some true
 ) else (
 some false
 )
 ) else (
 some false
 )
theorem j5B {m:Md}{a0:Equation}{a1:Equation}{r:Bool}(hr:z0g a0 a1=some r):Ok Tryz.prog 213 [Equation.x m a0,Equation.x m a1] [] (dB r) []:=by
 refine OE Tryz.func213 fun S hS=>?_
 unfold z0g at hr
 refine J g<|J (BX' 0)<|J (BX' 1)<|bdE hr fun y1 hy1 hr=>J g<|J (CB' [] [] (j2X hy1))<|J (gn 2)<|ifE hr ?_ ?_<;>intro h1 hr
 refine bdE hr fun y2 hy2 hr=>J g<|J (CB' [] [] (j1I (m:=m) hy2))<|J (gn 2)<|ifE hr ?_ ?_<;>intro h2 hr
 exact e
 exact e
 exact e
def z8M (a1:(List Equation)):Nat→Equation→Unit→Option (Unit ⊕ Bool):=fun k1 xk1 _=>
 (a1[k1]?).bind fun x1=>
 (z0g xk1 x1).bind fun y1=>
 if y1=true then (
 some (.inl ())
 ) else (
 some (.inr false)
 )
def z3g (a0:(List Equation))(a1:(List Equation)):Option Bool:=
 if (a0.length:Int)=(a1.length:Int) then (
 (findL (z8M a1) 0 a0 ()).bind <| onr (fun r1=>some r1) fun _=>
 some true
 ) else (
 some false
 )
theorem j4E {m:Md}{a0:(List Equation)}{a1:(List Equation)}{r:Bool}(hr:z3g a0 a1=some r):Ok Tryz.prog 160 [.d m (.sl 9 (a0.map Equation.D)),.d m (.sl 9 (a1.map Equation.D))] [] (dB r) []:=by
 refine OE Tryz.func160 fun S hS=>?_
 unfold z3g at hr
 refine J (gn 13)<|ifE hr ?_ ?_<;>intro h1 hr
 refine J (gn 8)<|J (lenT 0)<|fun hl1=>bdE hr fun q1 hqq1 hr=>q0b hqq1 hl1 0 (fun k1 _=>[(0,.d m (.sl 9 (a0.map Equation.D))),(1,.d m (.sl 9 (a1.map Equation.D))),(5,dI (k1:Int))]) (fun k1 _=>[]) I (fun k1 xk1 sk1 ok1 hxk1 hr hltk1 hik1=>?_) fun k1 sk1 ek1 hltk1=>?_
 refine bdE hr fun x1 hx1 hr=>bdE hr fun y1 hy1 hr=>J g<|J (CB' [] [] (j5B (m:=m) hy1))<|J (gn 2)<|ifE hr ?_ ?_<;>intro h2 hr
 exact e
 exact e
 subst ek1
 exact e
 exact e
def q7z (a0:Contribution)(a1:Contribution):Option Bool:=
 if a0.Symbol=a1.Symbol then (
 if a0.Name=a1.Name then (
 (z8L a0.Target a1.Target).bind fun y1=>
 if y1=true then (
 (z8L a0.Value a1.Value).bind fun y2=>
 if y2=true then (
 some true
 ) else (
 some false
 )
 ) else (
 some false
 )
 ) else (
 some false
 )
 ) else (
 some false
 )
theorem j0V {m:Md}{a0:Contribution}{a1:Contribution}{r:Bool}(hr:q7z a0 a1=some r):Ok Tryz.prog 214 [Contribution.x m a0,Contribution.x m a1] [] (dB r) []:=by
 refine OE Tryz.func214 fun S hS=>?_
 unfold q7z at hr
 refine J g<|J (BX' 0)<|J (BX' 1)<|J (gn 11)<|ifE hr ?_ ?_<;>intro h1 hr
 refine J (gn 11)<|ifE hr ?_ ?_<;>intro h2 hr
 refine bdE hr fun y1 hy1 hr=>J g<|J (CB' [] [] (j1I (m:=m) hy1))<|J (gn 2)<|ifE hr ?_ ?_<;>intro h3 hr
 refine bdE hr fun y2 hy2 hr=>J g<|J (CB' [] [] (j1I (m:=m) hy2))<|J (gn 2)<|ifE hr ?_ ?_<;>intro h4 hr
 exact e
 exact e
 exact e
 exact e
 exact e
def z4U (a1:(List Contribution)):Nat→Contribution→Unit→Option (Unit ⊕ Bool):=fun k1 xk1 _=>
 (a1[k1]?).bind fun x1=>
 (q7z xk1 x1).bind fun y1=>
 if y1=true then (
 some (.inl ())
 ) else (
 some (.inr false)
 )
def q9D (a0:(List Contribution))(a1:(List Contribution)):Option Bool:=
 if (a0.length:Int)=(a1.length:Int) then (
 (findL (z4U a1) 0 a0 ()).bind <| onr (fun r1=>some r1) fun _=>
 some true
 ) else (
 some false
 )
theorem j0g {m:Md}{a0:(List Contribution)}{a1:(List Contribution)}{r:Bool}(hr:q9D a0 a1=some r):Ok Tryz.prog 161 [.d m (.sl 16 (a0.map Contribution.D)),.d m (.sl 16 (a1.map Contribution.D))] [] (dB r) []:=by
 refine OE Tryz.func161 fun S hS=>?_
 unfold q9D at hr
 refine J (gn 13)<|ifE hr ?_ ?_<;>intro h1 hr
 refine J (gn 8)<|J (lenT 0)<|fun hl1=>bdE hr fun q1 hqq1 hr=>q0b hqq1 hl1 0 (fun k1 _=>[(0,.d m (.sl 16 (a0.map Contribution.D))),(1,.d m (.sl 16 (a1.map Contribution.D))),(5,dI (k1:Int))]) (fun k1 _=>[]) I (fun k1 xk1 sk1 ok1 hxk1 hr hltk1 hik1=>?_) fun k1 sk1 ek1 hltk1=>?_
 refine bdE hr fun x1 hx1 hr=>bdE hr fun y1 hy1 hr=>J g<|J (CB' [] [] (j0V (m:=m) hy1))<|J (gn 2)<|ifE hr ?_ ?_<;>intro h2 hr
 exact e
 exact e
 subst ek1
 exact e
 exact e
def z6E (a0:Rule)(a1:Rule):Option Bool:=
 if a0.Name=a1.Name then (
 if a0.Left=a1.Left then (
 (q8e a0.Right a1.Right).bind fun y1=>
 if y1=true then (
 if a0.Literal=a1.Literal then (
 (z3g a0.Equations a1.Equations).bind fun y2=>
 if y2=true then (
 (q9D a0.Contributions a1.Contributions).bind fun y3=>
 if y3=true then (
 some true
 ) else (
 some false
 )
 ) else (
 some false
 )
 ) else (
 some false
 )
 ) else (
 some false
 )
 ) else (
 some false
 )
 ) else (
 some false
 )
theorem k2O {m:Md}{a0:Rule}{a1:Rule}{r:Bool}(hr:z6E a0 a1=some r):Ok Tryz.prog 101 [Rule.x m a0,Rule.x m a1] [] (dB r) []:=by
 refine OE Tryz.func101 fun S hS=>?_
 unfold z6E at hr
 refine J g<|J (BX' 0)<|J (BX' 1)<|J (gn 11)<|ifE hr ?_ ?_<;>intro h1 hr
 refine J (gn 11)<|ifE hr ?_ ?_<;>intro h2 hr
 refine bdE hr fun y1 hy1 hr=>J g<|J (CB' [] [] (z0f (m:=m) hy1))<|J (gn 2)<|ifE hr ?_ ?_<;>intro h3 hr
 refine J g ?_
 refine J (BQn' rfl rfl)<|J (gn 1)<|ifE hr ?_ ?_<;>intro h4 hr
 refine bdE hr fun y2 hy2 hr=>J g<|J (CB' [] [] (j4E (m:=m) hy2))<|J (gn 2)<|ifE hr ?_ ?_<;>intro h5 hr
 refine bdE hr fun y3 hy3 hr=>J g<|J (CB' [] [] (j0g (m:=m) hy3))<|J (gn 2)<|ifE hr ?_ ?_<;>intro h6 hr
 exact e
 exact e
 exact e
 exact e
 exact e
 exact e
 exact e
def j4F (a1:(List Rule)):Nat→Rule→Unit→Option (Unit ⊕ Bool):=fun k1 xk1 _=>
 (a1[k1]?).bind fun x1=>
 (z6E xk1 x1).bind fun y1=>
 if y1=true then (
 some (.inl ())
 ) else (
 some (.inr false)
 )
def z9q (a0:(List Rule))(a1:(List Rule)):Option Bool:=
 if (a0.length:Int)=(a1.length:Int) then (
 (findL (j4F a1) 0 a0 ()).bind <| onr (fun r1=>some r1) fun _=>
 some true
 ) else (
 some false
 )
theorem k0r {m:Md}{a0:(List Rule)}{a1:(List Rule)}{r:Bool}(hr:z9q a0 a1=some r):Ok Tryz.prog 44 [.d m (.sl 6 (a0.map Rule.D)),.d m (.sl 6 (a1.map Rule.D))] [] (dB r) []:=by
 refine OE Tryz.func44 fun S hS=>?_
 unfold z9q at hr
 refine J (gn 13)<|ifE hr ?_ ?_<;>intro h1 hr
 refine J (gn 8)<|J (lenT 0)<|fun hl1=>bdE hr fun q1 hqq1 hr=>q0b hqq1 hl1 0 (fun k1 _=>[(0,.d m (.sl 6 (a0.map Rule.D))),(1,.d m (.sl 6 (a1.map Rule.D))),(5,dI (k1:Int))]) (fun k1 _=>[]) I (fun k1 xk1 sk1 ok1 hxk1 hr hltk1 hik1=>?_) fun k1 sk1 ek1 hltk1=>?_
 refine bdE hr fun x1 hx1 hr=>bdE hr fun y1 hy1 hr=>J g<|J (CB' [] [] (k2O (m:=m) hy1))<|J (gn 2)<|ifE hr ?_ ?_<;>intro h2 hr
 exact e
 exact e
 subst ek1
 exact e
 exact e
def q8K (a0:Grammar)(a1:Grammar):Option Bool:=
 (z5G a0.Symbols a1.Symbols).bind fun y1=>
 if y1=true then (
 (z9q a0.Rules a1.Rules).bind fun y2=>
 if y2=true then (
 some true
 ) else (
 some false
 )
 ) else (
 some false
 )
theorem z4a {m:Md}{a0:Grammar}{a1:Grammar}{r:Bool}(hr:q8K a0 a1=some r):Ok Tryz.prog 13 [Grammar.x m a0,Grammar.x m a1] [] (dB r) []:=by
 refine OE Tryz.func13 fun S hS=>?_
 unfold q8K at hr
 refine J g<|J (BX' 0)<|J (BX' 1)<|bdE hr fun y1 hy1 hr=>J g<|J (CB' [] [] (j7l (m:=m) hy1))<|J (gn 2)<|ifE hr ?_ ?_<;>intro h1 hr
 refine bdE hr fun y2 hy2 hr=>J g<|J (CB' [] [] (k0r (m:=m) hy2))<|J (gn 2)<|ifE hr ?_ ?_<;>intro h2 hr
 exact e
 exact e
 exact e
def z5H:(Int × ByteArray)→Option ((Int × ByteArray) ⊕ ByteArray):=fun (s2,s3)=>
 if 0 < s2 then (
 grd (I64 (48+(s2.tmod 10))) <|
 grd ((⟨#[(UInt8.ofNat ((48+(s2.tmod 10)) % 256).toNat)]⟩:ByteArray).size+s3.size≤9223372036854775807) <|
 grd (I64 (s2.tdiv 10)) <|
 some (.inl ((s2.tdiv 10),((⟨#[(UInt8.ofNat ((48+(s2.tmod 10)) % 256).toNat)]⟩:ByteArray)++s3)))
 ) else (
 some (.inr s3)
 )
def q4I (a0:Int):Option ByteArray:=
 if a0≤0 then (
 some (⟨#[109,48]⟩:ByteArray)
 ) else (
 (q4i z5H (a0,(⟨#[]⟩:ByteArray))).bind fun s1=>
 grd ((⟨#[109]⟩:ByteArray).size+s1.size≤9223372036854775807) <|
 some ((⟨#[109]⟩:ByteArray)++s1)
 )
theorem q5a {a0:Int}{r:ByteArray}(hr:q4I a0=some r):Ok Tryz.prog 47 [dI a0] [] (dS r) []:=by
 refine OE Tryz.func47 fun S hS=>?_
 unfold q4I at hr
 refine J (gn 10)<|ifE hr ?_ ?_<;>intro h1 hr
 exact e
 refine bdE hr fun s1 hqq1 hr=>J (gn 7)<|q0d 0 [(3,dS s1)] [] ?_ ?_
 refine J g<|q0h hqq1 0 (fun (s2,s3)=>[(0,dI s2),(3,dS s3)]) (fun (s2,s3)=>[]) I fun sk1 ok1 hr hik1=>?_
 obtain⟨s2,s3⟩:=sk1
 have hr:=hr
 refine J (gn 6)<|ifE hr ?_ ?_<;>intro h2 hr
 refine J g<|J (OB' _ (bRem (b:=10) (by decide)))<|ggE hr fun g1 hr=>J g ?_
 refine J (CIB' rfl)<|J (LIR' 0 (m:=.fz) (f:=byD) (xs:=([(UInt8.ofNat ((48+(s2.tmod 10)) % 256).toNat)]:List UInt8))) ?_
 refine J (TS' rfl rfl)<|ggE hr fun g2 hr=>J g<|J (OB' _ (k9Q g2))<|ggE hr fun g3 hr=>J g<|J (OB' _ (bQuo (b:=10) (by decide) g3))<|J g<|E
 refine J (gn 2) ?_
 cases hr
 cases hik1 _ rfl
 exact q0e hS 0
 refine ggE hr fun g4 hr=>J g<|J (OB' _ (k9Q g4))<|e
def q9E:(Int × Int × (List Attribute))→Option ((Int × Int × (List Attribute)) ⊕ (Int × (List Attribute))):=fun (s3,s4,s5)=>
 if s4 < (s5.length:Int) then (
 (q4I s3).bind fun y1=>
 grd (0≤s4) <|
 (s5[s4.toNat]?).bind fun x1=>
 grd (I64 (s3+1)) <|
 grd (0≤s4) <|
 ((List.set s5 s4.toNat (⟨y1,x1.Type_,x1.Mode,x1.Circular⟩:Attribute))[s4.toNat]?).bind fun x2=>
 grd (I64 ((s3+1)+1)) <|
 grd (0≤s4) <|
 ((List.set (List.set s5 s4.toNat (⟨y1,x1.Type_,x1.Mode,x1.Circular⟩:Attribute)) s4.toNat (⟨x2.Name,(s3+1),x2.Mode,x2.Circular⟩:Attribute))[s4.toNat]?).bind fun x3=>
 grd (I64 (((s3+1)+1)+1)) <|
 grd (0≤s4) <|
 ((List.set (List.set (List.set s5 s4.toNat (⟨y1,x1.Type_,x1.Mode,x1.Circular⟩:Attribute)) s4.toNat (⟨x2.Name,(s3+1),x2.Mode,x2.Circular⟩:Attribute)) s4.toNat (⟨x3.Name,x3.Type_,((s3+1)+1),x3.Circular⟩:Attribute))[s4.toNat]?).bind fun x4=>
 grd (I64 ((((s3+1)+1)+1)+1)) <|
 grd (I64 (s4+1)) <|
 some (.inl (((((s3+1)+1)+1)+1),(s4+1),(List.set (List.set (List.set (List.set s5 s4.toNat (⟨y1,x1.Type_,x1.Mode,x1.Circular⟩:Attribute)) s4.toNat (⟨x2.Name,(s3+1),x2.Mode,x2.Circular⟩:Attribute)) s4.toNat (⟨x3.Name,x3.Type_,((s3+1)+1),x3.Circular⟩:Attribute)) s4.toNat (⟨x4.Name,x4.Type_,x4.Mode,decide (((((s3+1)+1)+1).tmod 3)=0)⟩:Attribute))))
 ) else (
 some (.inr (s3,s5))
 )
end Go.Proofs.YtcegfmageiicaaaGreat
