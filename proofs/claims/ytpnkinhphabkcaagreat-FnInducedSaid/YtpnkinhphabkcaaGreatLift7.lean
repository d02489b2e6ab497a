/- What some functions of the program compute, as partial functions on plain data, and that they do; each lemma bears its conditions in its statement. -/
import Derived.Test.YtpnkinhphabkcaaGreatLift6
set_option linter.unusedVariables false
set_option linter.unusedSimpArgs false
set_option linter.ambiguousOpen false
set_option linter.unusedSectionVars false
set_option linter.unnecessarySimpa false
set_option maxRecDepth 100000
set_option maxHeartbeats 40000000
noncomputable section
namespace Go.Proofs.YtpnkinhphabkcaaGreat
open Go Go.E Go.A
def z4W (k1:Nat):Nat→((List Int))→Option ((List Int)):=fun k2 s2=>
 (
 (s2[k2]?).bind fun x1=>
 grd (0≤x1∧0≤(k1:Int)∧(k1:Int) < 64) <|
 grd (0≤((x1.toNat >>> (k1:Int).toNat:Nat):Int)∧0≤(1:Int)) <|
 if ((((x1.toNat >>> (k1:Int).toNat:Nat):Int).toNat &&& (1:Int).toNat:Nat):Int)=1 then (
 (s2[k1]?).bind fun x2=>
 grd (0≤x1∧0≤x2) <|
 some (List.set s2 k2 ((x1.toNat ||| x2.toNat:Nat):Int))
 ) else (
 some s2
 )
 ).bind fun s3=>
 some s3
def z1T:Nat→((List Int))→Option ((List Int)):=fun k1 s1=>
 (eachN (z4W k1) 0 s1.length s1).bind fun s2=>
 some s2
def q7h (a0:Relation):Option Relation:=
 (q7K a0).bind fun y1=>
 (q4Q a0).bind fun y2=>
 if y2=true then (
 (eachN z1T 0 y1.Rows.length y1.Rows).bind fun s1=>
 some (⟨y1.N,s1⟩:Relation)
 ) else (
 some y1
 )
theorem z4X {m:Md}{a0:Relation}{r:Relation}(hr:q7h a0=some r):Ok Tryz.prog 20 [Relation.x m a0] [] (.ag [dI r.N,.ref 0 none]) [.row .fz 1 (r.Rows.map (A.D.i .i64))]:=by
 refine OE Tryz.func20 fun S hS=>?_
 unfold q7h at hr
 refine J g<|J (BX' 0)<|J (NV' 1)<|bdE hr fun y1 hy1 hr=>J g<|J (CB' [(0,2)] [] (z2T (m:=m) hy1))<|J (NV' 3)<|bdE hr fun y2 hy2 hr=>J g<|J (CB' [] [] (q6c (m:=m) hy2))<|J (gn 2)<|ifE hr ?_ ?_<;>intro h1 hr
 refine J (gn 11)<|J (rngT 14)<|fun hl1=>bdE hr fun s1 hqq1 hr=>q0i hqq1 4 (fun k1 s1=>[(2,.pb 1 0),(3,.pb 3 0),(14,dI (y1.Rows.length:Int)),(15,dI (k1:Int))]) (fun k1 s1=>[(2,.row .fz 1 (s1.map (A.D.i .i64)))]) I (fun k1 sk1 ok1 hr hltk1=>?_) ?_
 obtain⟨s1,rfl⟩:∃ y,y=sk1:=⟨_,rfl⟩
 refine J (gn 22)<|J (rngT 20)<|fun hl2=>bdE hr fun s2 hqq2 hr=>q0i hqq2 4 (fun k2 s2=>[(2,.pb 1 0),(3,.pb 3 0),(4,dI (k1:Int)),(14,dI (y1.Rows.length:Int)),(15,dI (k1:Int)),(20,dI (s1.length:Int)),(21,dI (k2:Int))]) (fun k2 s2=>[(2,.row .fz 1 (s2.map (A.D.i .i64)))]) I (fun k2 sk2 ok2 hr hltk2=>?_) ?_
 obtain⟨s2,rfl⟩:∃ y,y=sk2:=⟨_,rfl⟩
 refine bdE hr fun s3 hqq3 hr=>J (gn 8)<|q0e 4 [(2,.pb 1 0),(3,.pb 3 0),(4,dI (k1:Int)),(14,dI (y1.Rows.length:Int)),(15,dI (k1:Int)),(20,dI (s1.length:Int)),(21,dI (k2:Int))] [(2,.row .fz 1 (s3.map (A.D.i .i64)))] ?_ ?_
 replace hr:=hqq3
 refine bdE hr fun x1 hx1 hr=>J g ?_
 refine J (CIU' (Int.natCast_nonneg _) rfl)<|ggE hr fun g1 hr=>J (OB' _ (k2T g1))<|ggE hr fun g2 hr=>J (OB' _ (k2U g2))<|J (gn 2)<|ifE hr ?_ ?_<;>intro h2 hr
 refine bdE hr fun x2 hx2 hr=>ggE hr fun g3 hr=>J g<|J (OB' _ (bOrI g3))<|J g<|J (SE' ((x1.toNat ||| x2.toNat:Nat):Int) hx1)<|e
 exact e
 exact e
 exact e
 exact e
 exact e
def z3O (y1:Relation):Nat→Int→Unit→Option (Unit ⊕ Bool):=fun k1 xk1 _=>
 (q9g y1 (k1:Int) (k1:Int)).bind fun y2=>
 if y2=true then (
 some (.inr true)
 ) else (
 some (.inl ())
 )
def z1U (a0:Relation):Option Bool:=
 (q7h a0).bind fun y1=>
 (findL (z3O y1) 0 y1.Rows ()).bind <| onr (fun r1=>some r1) fun _=>
 some false
theorem j1F {m:Md}{a0:Relation}{r:Bool}(hr:z1U a0=some r):Ok Tryz.prog 21 [Relation.x m a0] [] (dB r) []:=by
 refine OE Tryz.func21 fun S hS=>?_
 unfold z1U at hr
 refine J g<|J (BX' 0)<|bdE hr fun y1 hy1 hr=>J g<|J (CB' [(0,1)] [] (z4X (m:=m) hy1))<|J (NV' 2)<|J (gn 11)<|J (lenR 1)<|fun hl1=>bdE hr fun q1 hqq1 hr=>q0b hqq1 hl1 3 (fun k1 _=>[(3,.pb 2 0),(9,dI (y1.Rows.length:Int)),(10,dI (k1:Int))]) (fun k1 _=>[]) I (fun k1 xk1 sk1 ok1 hxk1 hr hltk1 hik1=>?_) fun k1 sk1 ek1 hltk1=>?_
 refine bdE hr fun y2 hy2 hr=>J g<|J (CB' [] [1] (z5F (m:=.bo) hy2))<|J (gn 1)<|ifE hr ?_ ?_<;>intro h1 hr
 exact e
 exact e
 subst ek1
 exact e
def z0E (a0:Relation)(k1:Nat)(xk1:Int):Nat→Int→((List Int))→Option ((List Int)):=fun k2 xk2 s2=>
 (
 (q9g a0 xk1 xk2).bind fun y3=>
 if y3=true then (
 (s2[k1]?).bind fun x1=>
 grd (0≤(k2:Int)∧(k2:Int) < 63) <|
 grd (0≤x1∧0≤((2 ^ (k2:Int).toNat:Nat):Int)) <|
 some (List.set s2 k1 ((x1.toNat ||| ((2 ^ (k2:Int).toNat:Nat):Int).toNat:Nat):Int))
 ) else (
 some s2
 )
 ).bind fun s3=>
 some s3
def z0F (a0:Relation)(a1:(List Int)):Nat→Int→((List Int))→Option ((List Int)):=fun k1 xk1 s1=>
 (eachL (z0E a0 k1 xk1) 0 a1 s1).bind fun s2=>
 some s2
def q8e (a0:Relation)(a1:(List Int)):Option Relation:=
 (q4Q a0).bind fun y1=>
 if y1=true then (
 if 16 < (a1.length:Int) then (
 some (⟨0,[]⟩:Relation)
 ) else (
 (q6z (a1.length:Int)).bind fun y2=>
 (eachL (z0F a0 a1) 0 a1 y2.Rows).bind fun s1=>
 some (⟨y2.N,s1⟩:Relation)
 )
 ) else (
 some (⟨0,[]⟩:Relation)
 )
theorem z7S {m:Md}{a0:Relation}{a1:(List Int)}{r:Relation}(hr:q8e a0 a1=some r):Ok Tryz.prog 23 [Relation.x m a0,.d m (.sl 1 (a1.map (A.D.i .i64)))] [] (.ag [dI r.N,.ref 0 none]) [.row .fz 1 (r.Rows.map (A.D.i .i64))]:=by
 refine OE Tryz.func23 fun S hS=>?_
 unfold q8e at hr
 refine J g<|J (BX' 0)<|J (NV' 1)<|bdE hr fun y1 hy1 hr=>J g<|J (CB' [] [] (q6c (m:=m) hy1))<|J (gn 1)<|ifE hr ?_ ?_<;>intro h1 hr
 refine J (gn 6)<|ifE hr ?_ ?_<;>intro h2 hr
 refine J (gn 7) ?_
 refine J (q0c (q0j (q:=1) (c:=1) (r:=2) .fz 1 rfl rfl rfl))<|J g<|E
 refine bdE hr fun y2 hy2 hr=>J g<|J (CB' [(0,2)] [] (z1Q hy2))<|J (NV' 3)<|J (gn 10)<|J (lenT 1)<|fun hl1=>bdE hr fun s1 hqq1 hr=>q0d hqq1 hl1 4 (fun k1 s1=>[(1,.d m (.sl 1 (a1.map (A.D.i .i64)))),(2,.pb 0 0),(4,.pb 1 0),(5,.pb 3 0),(22,.d m (.sl 1 (a1.map (A.D.i .i64)))),(23,dI (a1.length:Int)),(24,dI (k1:Int))]) (fun k1 s1=>[(2,.row .fz 1 (s1.map (A.D.i .i64)))]) I (fun k1 xk1 sk1 ok1 hxk1 hr hltk1=>?_) fun k1 hltk1=>?_
 obtain⟨s1,rfl⟩:∃ y,y=sk1:=⟨_,rfl⟩
 refine J (gn 24)<|J (lenT 1)<|fun hl2=>bdE hr fun s2 hqq2 hr=>q0d hqq2 hl2 4 (fun k2 s2=>[(1,.d m (.sl 1 (a1.map (A.D.i .i64)))),(2,.pb 0 0),(4,.pb 1 0),(5,.pb 3 0),(6,dI (k1:Int)),(7,dI xk1),(22,.d m (.sl 1 (a1.map (A.D.i .i64)))),(23,dI (a1.length:Int)),(24,dI (k1:Int)),(29,.d m (.sl 1 (a1.map (A.D.i .i64)))),(30,dI (a1.length:Int)),(31,dI (k2:Int))]) (fun k2 s2=>[(2,.row .fz 1 (s2.map (A.D.i .i64)))]) I (fun k2 xk2 sk2 ok2 hxk2 hr hltk2=>?_) fun k2 hltk2=>?_
 obtain⟨s2,rfl⟩:∃ y,y=sk2:=⟨_,rfl⟩
 refine bdE hr fun s3 hqq3 hr=>J (gn 8)<|q0e 4 [(1,.d m (.sl 1 (a1.map (A.D.i .i64)))),(2,.pb 0 0),(4,.pb 1 0),(5,.pb 3 0),(6,dI (k1:Int)),(7,dI xk1),(22,.d m (.sl 1 (a1.map (A.D.i .i64)))),(23,dI (a1.length:Int)),(24,dI (k1:Int)),(29,.d m (.sl 1 (a1.map (A.D.i .i64)))),(30,dI (a1.length:Int)),(31,dI (k2:Int))] [(2,.row .fz 1 (s3.map (A.D.i .i64)))] ?_ ?_
 replace hr:=hqq3
 refine bdE hr fun y3 hy3 hr=>J g<|J (CB' [] [] (z5F (m:=m) hy3))<|J (gn 1)<|ifE hr ?_ ?_<;>intro h3 hr
 refine bdE hr fun x1 hx1 hr=>J g ?_
 refine J (CIU' (Int.natCast_nonneg _) rfl)<|ggE hr fun g1 hr=>J (OB' _ (j5y g1))<|ggE hr fun g2 hr=>J (OB' _ (bOrI g2))<|J g<|J (SE' ((x1.toNat ||| ((2 ^ (k2:Int).toNat:Nat):Int).toNat:Nat):Int) hx1)<|J g<|E
 exact e
 exact e
 exact e
 exact e
 refine J (gn 13) ?_
 refine J (q0c (q0j (q:=1) (c:=1) (r:=2) .fz 1 rfl rfl rfl))<|J g<|E
def z4Y (a1:Relation):Nat→((List Int))→Option ((List Int)):=fun k1 s3=>
 (s3[k1]?).bind fun x1=>
 (a1.Rows[k1]?).bind fun x2=>
 grd (0≤x1∧0≤x2) <|
 some (List.set s3 k1 ((x1.toNat ||| x2.toNat:Nat):Int))
def q9a (a0:Relation)(a1:Relation):Option Relation:=
 (q7K a0).bind fun y1=>
 (q4Q a0).bind fun y2=>
 (
 if y2=true then (
 (q4Q a1).bind fun y3=>
 some y3
 ) else (
 some false
 )
 ).bind fun s1=>
 (
 if s1=true then (
 some (decide (a0.N=a1.N))
 ) else (
 some false
 )
 ).bind fun s2=>
 if s2=true then (
 (eachN (z4Y a1) 0 y1.Rows.length y1.Rows).bind fun s3=>
 some (⟨y1.N,s3⟩:Relation)
 ) else (
 some y1
 )
theorem z9n {m:Md}{a0:Relation}{a1:Relation}{r:Relation}(hr:q9a a0 a1=some r):Ok Tryz.prog 22 [Relation.x m a0,Relation.x m a1] [] (.ag [dI r.N,.ref 0 none]) [.row .fz 1 (r.Rows.map (A.D.i .i64))]:=by
 refine OE Tryz.func22 fun S hS=>?_
 unfold q9a at hr
 refine J g<|J (BX' 0)<|J (BX' 1)<|J (NV' 2)<|bdE hr fun y1 hy1 hr=>J g<|J (CB' [(0,3)] [] (z2T (m:=m) hy1))<|J (NV' 4)<|bdE hr fun y2 hy2 hr=>J g<|J (CB' [] [] (q6c (m:=m) hy2))<|bdE hr fun s1 hqq1 hr=>q0a 4 [(2,.pb 0 0),(3,.pb 1 0),(4,.pb 2 0),(5,.pb 4 0),(14,dB s1)] ?_ ?_
 replace hr:=hqq1
 refine ifE hr ?_ ?_<;>intro h1 hr
 refine bdE hr fun y3 hy3 hr=>J g<|J (CB' [] [] (q6c (m:=m) hy3))<|e
 exact e
 refine bdE hr fun s2 hqq2 hr=>q0a 7 [(3,.pb 1 0),(4,.pb 2 0),(5,.pb 4 0),(21,dB s2)] ?_ ?_
 replace hr:=hqq2
 refine ifE hr ?_ ?_<;>intro h2 hr
 exact e
 exact e
 refine J (gn 1)<|ifE hr ?_ ?_<;>intro h3 hr
 refine J (gn 9)<|J (rngT 24)<|fun hl1=>bdE hr fun s3 hqq3 hr=>q0i hqq3 5 (fun k1 s3=>[(3,.pb 1 0),(4,.pb 2 0),(5,.pb 4 0),(24,dI (y1.Rows.length:Int)),(25,dI (k1:Int))]) (fun k1 s3=>[(3,.row .fz 1 (s3.map (A.D.i .i64)))]) I (fun k1 sk1 ok1 hr hltk1=>?_) ?_
 obtain⟨s3,rfl⟩:∃ y,y=sk1:=⟨_,rfl⟩
 refine bdE hr fun x1 hx1 hr=>bdE hr fun x2 hx2 hr=>ggE hr fun g1 hr=>J g<|J (OB' _ (bOrI g1))<|J g<|J (SE' ((x1.toNat ||| x2.toNat:Nat):Int) hx1)<|e
 exact e
 exact e
def z7T (a1:(List Int)):Nat→Int→Unit→Option (Unit ⊕ Bool):=fun k1 xk1 _=>
 (a1[k1]?).bind fun x1=>
 if xk1=x1 then (
 some (.inl ())
 ) else (
 some (.inr false)
 )
def z1k (a0:(List Int))(a1:(List Int)):Option Bool:=
 if (a0.length:Int)=(a1.length:Int) then (
 (findL (z7T a1) 0 a0 ()).bind <| onr (fun r1=>some r1) fun _=>
 some true
 ) else (
 some false
 )
theorem z7U {m:Md}{a0:(List Int)}{a1:(List Int)}{r:Bool}(hr:z1k a0 a1=some r):Ok Tryz.prog 65 [.d m (.sl 1 (a0.map (A.D.i .i64))),.d m (.sl 1 (a1.map (A.D.i .i64)))] [] (dB r) []:=by
 refine OE Tryz.func65 fun S hS=>?_
 unfold z1k at hr
 refine J (gn 13)<|ifE hr ?_ ?_<;>intro h1 hr
 refine J (gn 10)<|J (lenT 0)<|fun hl1=>bdE hr fun q1 hqq1 hr=>q0b hqq1 hl1 0 (fun k1 _=>[(0,.d m (.sl 1 (a0.map (A.D.i .i64)))),(1,.d m (.sl 1 (a1.map (A.D.i .i64)))),(12,dI (a0.length:Int)),(13,dI (k1:Int))]) (fun k1 _=>[]) I (fun k1 xk1 sk1 ok1 hxk1 hr hltk1 hik1=>?_) fun k1 sk1 ek1 hltk1=>?_
 refine bdE hr fun x1 hx1 hr=>J (gn 26)<|ifE hr ?_ ?_<;>intro h2 hr
 exact e
 exact e
 subst ek1
 exact e
 exact e
def z0u (a0:Relation)(a1:Relation):Option Bool:=
 if a0.N=a1.N then (
 (z1k a0.Rows a1.Rows).bind fun y1=>
 some y1
 ) else (
 some false
 )
theorem z9o {m:Md}{a0:Relation}{a1:Relation}{r:Bool}(hr:z0u a0 a1=some r):Ok Tryz.prog 25 [Relation.x m a0,Relation.x m a1] [] (dB r) []:=by
 refine OE Tryz.func25 fun S hS=>?_
 unfold z0u at hr
 refine J g<|J (BX' 0)<|J (BX' 1)<|J (gn 9)<|ifE hr ?_ ?_<;>intro h1 hr
 refine bdE hr fun y1 hy1 hr=>J g<|J (CB' [] [] (z7U (m:=m) hy1))<|e
 exact e
def q8p (a0:Grammar)(s4:List Relation)(xk2:Rule):Nat→(Int × (List Int))→Option (Int × (List Int)):=fun k3 (s6,s7)=>
 (q6L xk2 (k3:Int)).bind fun y4=>
 (q9f a0 y4).bind fun y5=>
 grd (0≤y5) <|
 (s4[y5.toNat]?).bind fun x1=>
 (z7q a0 xk2 (⟨s6,s7⟩:Relation) (k3:Int) x1).bind fun y6=>
 some (y6.N,y6.Rows)
def q8q (a0:Grammar)(xk2:Rule)(y7:Relation):Nat→((List Relation) × Bool)→Option ((List Relation) × Bool):=fun k4 (s8,s9)=>
 (
 (q6L xk2 (k4:Int)).bind fun y9=>
 (q9f a0 y9).bind fun y10=>
 grd (0≤y10) <|
 (s8[y10.toNat]?).bind fun x2=>
 (q4R a0 xk2 (k4:Int)).bind fun y11=>
 (q8e y7 y11).bind fun y12=>
 (q9a x2 y12).bind fun y13=>
 if s9=true then (
 some (true,(List.set s8 y10.toNat y13))
 ) else (
 (z0u y13 x2).bind fun y14=>
 some (!y14,(List.set s8 y10.toNat y13))
 )
 ).bind fun (s10,s11)=>
 some (s11,s10)
def q5P (a0:Grammar):Nat→Rule→((List Relation) × Bool)→Option (((List Relation) × Bool) ⊕ ((List Relation) × Bool)):=fun k2 xk2 (s4,s5)=>
 (q6A a0 xk2).bind fun y3=>
 grd (I64 ((xk2.Right.length+1:Nat):Int)) <|
 (eachN (q8p a0 s4 xk2) 0 (xk2.Right.length+1) (y3.N,y3.Rows)).bind fun (s6,s7)=>
 (q7h (⟨s6,s7⟩:Relation)).bind fun y7=>
 (z1U y7).bind fun y8=>
 if y8=true then (
 some (.inr ([],false))
 ) else (
 grd (I64 ((xk2.Right.length+1:Nat):Int)) <|
 (eachN (q8q a0 xk2 y7) 0 (xk2.Right.length+1) (s4,s5)).bind fun (s8,s9)=>
 some (.inl (s8,s9))
 )
def q3L (a0:Grammar):((List Relation) × Bool)→Option (((List Relation) × Bool) ⊕ (((List Relation)) ⊕ ((List Relation) × Bool))):=fun (s2,s3)=>
 if s3=true then (
 (findL (q5P a0) 0 a0.Rules (s2,false)).bind <| onr (fun r1=>some (.inr (.inr r1))) fun (s4,s5)=>
 some (.inl (s4,s5))
 ) else (
 some (.inr (.inl s2))
 )
def q6d (a0:Grammar):Option ((List Relation) × Bool):=
 (z3L a0).bind fun y1=>
 if y1=true then (
 (q8x a0).bind fun y2=>
 (q4L (q3L a0) (y2,true)).bind <| onr (fun r2=>some r2) fun s1=>
 some (s1,true)
 ) else (
 some ([],false)
 )
theorem z2W {m:Md}{a0:Grammar}{r:((List Relation) × Bool)}(hr:q6d a0=some r):Ok Tryz.prog 6 [Grammar.x m a0] [] (.tu [.ref 0 none,dB r.2]) [.row .fz 2 (r.1.map Relation.D)]:=by
 refine OE Tryz.func6 fun S hS=>?_
 unfold q6d at hr
 refine J g<|J (BX' 0)<|bdE hr fun y1 hy1 hr=>J g<|J (CB' [] [] (j5T (m:=m) hy1))<|J (gn 2)<|ifE hr ?_ ?_<;>intro h1 hr
 refine bdE hr fun y2 hy2 hr=>J g<|J (CB' [(0,1)] [] (z8z (m:=m) hy2))<|bdE hr fun q1 hqq1 hr=>J (gn 7)<|AW.cut 2 (fun s1=>[(4,.ref 1 none)]) (fun s1=>[(1,.row .fz 2 (s1.map Relation.D))]) (M:=fun x=>q1 = .inl x) ?_ fun x hx=>?_
 refine J g<|q0h hqq1 2 (fun (s2,s3)=>[(1,.pb 0 0),(4,.ref 1 none),(5,dB s3)]) (fun (s2,s3)=>[(1,.row .fz 2 (s2.map Relation.D))]) I fun sk1 ok1 hr hik1=>?_
 obtain⟨s2,s3⟩:=sk1
 have hr:=hr
 refine J (gn 5)<|ifE hr ?_ ?_<;>intro h2 hr
 refine J (gn 15)<|J (lenT 20)<|fun hl2=>bdE hr fun q2 hqq2 hr=>q0b hqq2 hl2 2 (fun k2 (s4,s5)=>[(1,.pb 0 0),(4,.ref 1 none),(5,dB s5),(20,.d m (.sl 6 (a0.Rules.map Rule.D))),(21,dI (a0.Rules.length:Int)),(22,dI (k2:Int))]) (fun k2 (s4,s5)=>[(1,.row .fz 2 (s4.map Relation.D))]) I (fun k2 xk2 sk2 ok2 hxk2 hr hltk2 hik2=>?_) fun k2 sk2 ek2 hltk2=>?_
 obtain⟨s4,s5⟩:=sk2
 unfold q5P at hr
 dsimp only at hr
 refine J g<|J (NV' 2)<|bdE hr fun y3 hy3 hr=>J g<|J (CB' [(0,3)] [] (z9l (m:=m) hy3))<|J (NV' 4)<|ggE hr fun g1 hr=>J (gn 12) ?_
 refine J (q0X 3 rfl)<|J (rngT 32)<|fun hl3=>bdP hr fun s6 s7 hqq3 hr=>?_
 refine q0i hqq3 5 (fun k3 (s6,s7)=>[(1,.pb 0 0),(4,.ref 1 none),(5,dB s5),(7,.pb 2 0),(8,.pb 4 0),(20,.d m (.sl 6 (a0.Rules.map Rule.D))),(21,dI (a0.Rules.length:Int)),(22,dI (k2:Int)),(32,dI ((xk2.Right.length+1:Nat):Int)),(33,dI (k3:Int))]) (fun k3 (s6,s7)=>[(3,.none),(4,.box [dI s6,.d m (.sl 1 (s7.map (A.D.i .i64)))])]) (GH.trans (q0y (q:=4) [dI y3.N,.d m (.sl 1 (y3.Rows.map (A.D.i .i64)))] (.cons .rfl (.cons (.md rfl) .nil)) rfl) I) (fun k3 sk3 ok3 hr hltk3=>?_) ?_
 obtain⟨s6,s7⟩:=sk3
 refine bdE hr fun y4 hy4 hr=>J g<|J (CB' [] [] (z0N (m:=m) hy4))<|bdE hr fun y5 hy5 hr=>J (CB' [] [] (z6K (m:=m) hy5))<|ggE hr fun g2 hr=>bdE hr fun x1 hx1 hr=>bdE hr fun y6 hy6 hr=>J g<|J (CB' [] [] (k1b (m:=m) hy6))<|e
 refine bdE hr fun y7 hy7 hr=>J g<|J (CB' [(0,5)] [] (z4X (m:=m) hy7))<|bdE hr fun y8 hy8 hr=>J g<|J (CB' [] [5] (j1F (m:=.bo) hy8))<|J (gn 1)<|ifE hr ?_ ?_<;>intro h3 hr
 refine J (gn 7) ?_
 refine J (q0c (q0p (t:=2) (r:=6) .fz 2 rfl rfl))<|J g<|E
 refine ggE hr fun g3 hr=>J (gn 11)<|J (rngT 32)<|fun hl4=>bdP hr fun s8 s9 hqq4 hr=>q0i hqq4 6 (fun k4 (s8,s9)=>[(1,.pb 0 0),(4,.ref 1 none),(5,dB s9),(7,.pb 2 0),(8,.pb 4 0),(20,.d m (.sl 6 (a0.Rules.map Rule.D))),(21,dI (a0.Rules.length:Int)),(22,dI (k2:Int)),(57,dI ((xk2.Right.length+1:Nat):Int)),(58,dI (k4:Int))]) (fun k4 (s8,s9)=>[(1,.row .fz 2 (s8.map Relation.D))]) I (fun k4 sk4 ok4 hr hltk4=>?_) ?_
 obtain⟨s8,s9⟩:=sk4
 refine bdP hr fun s10 s11 hqq5 hr=>J (gn 8)<|q0e 6 [(1,.pb 0 0),(4,.ref 1 none),(5,dB s10),(7,.pb 2 0),(8,.pb 4 0),(20,.d m (.sl 6 (a0.Rules.map Rule.D))),(21,dI (a0.Rules.length:Int)),(22,dI (k2:Int)),(57,dI ((xk2.Right.length+1:Nat):Int)),(58,dI (k4:Int))] [(1,.row .fz 2 (s11.map Relation.D))] ?_ ?_
 replace hr:=hqq5
 refine bdE hr fun y9 hy9 hr=>J g<|J (CB' [] [] (z0N (m:=m) hy9))<|bdE hr fun y10 hy10 hr=>J (CB' [] [] (z6K (m:=m) hy10))<|ggE hr fun g4 hr=>bdE hr fun x2 hx2 hr=>bdE hr fun y11 hy11 hr=>J g<|J (CB' [(0,6)] [] (z3N (m:=m) hy11))<|bdE hr fun y12 hy12 hr=>J (CB' [(0,7)] [5,6] (z7S (m:=.bo) hy12))<|bdE hr fun y13 hy13 hr=>J (CB' [(0,8)] [7] (z9n (m:=.bo) hy13))<|J (NV' 9)<|J (gn 5)<|ifE hr ?_ ?_<;>intro h4 hr
 refine J (gn 9)<|J (q0o .refl)<|J (gn 7) ?_
 refine J (q0k 8 rfl)<|J (SE' y13 hx2)<|J g<|E
 refine bdE hr fun y14 hy14 hr=>J g<|J (CB' [] [8] (z9o (m:=.bo) hy14))<|J (gn 2)<|J (q0o .refl)<|J (gn 7) ?_
 refine J (q0k 8 rfl)<|J (SE' y13 hx2)<|J g<|E
 exact e
 exact e
 subst ek2
 obtain⟨s4,s5⟩:=sk2
 exact e
 refine J (gn 2) ?_
 cases hr
 cases hik1 _ rfl
 exact⟨_,rfl,q0g hS 2⟩
 subst hx
 obtain⟨s1,rfl⟩:∃ y,y=x:=⟨_,rfl⟩
 exact e
 refine J (gn 7) ?_
 refine J (q0c (q0p (t:=2) (r:=1) .fz 2 rfl rfl))<|J g<|E
def z8C (rec_sHasRemote:Expr→Option Bool):Nat→Expr→Unit→Option (Unit ⊕ Bool):=fun k1 xk1 _=>
 (rec_sHasRemote xk1).bind fun y1=>
 if y1=true then (
 some (.inr true)
 ) else (
 some (.inl ())
 )
def z2F (rec_sHasRemote:Expr→Option Bool)(a0:Expr):Option Bool:=
 (findL (z8C rec_sHasRemote) 0 a0.Args ()).bind <| onr (fun r1=>some r1) fun _=>
 some (decide (a0.Kind=8))
theorem j2G {rec_sHasRemote:Expr→Option Bool}(ih_sHasRemote:∀ {m:Md} {a0:Expr} {r:Bool},rec_sHasRemote a0=some r→Ok Tryz.prog 110 [Expr.x m a0] [] (dB r) []){m:Md}{a0:Expr}{r:Bool}(hr:z2F rec_sHasRemote a0=some r):Ok Tryz.prog 110 [Expr.x m a0] [] (dB r) []:=by
 refine OE Tryz.func110 fun S hS=>?_
 unfold z2F at hr
 refine J g<|J (BX' 0)<|J (gn 8)<|J (lenA 6 0)<|fun hl1=>bdE hr fun q1 hqq1 hr=>q0b hqq1 hl1 1 (fun k1 _=>[(1,.pb 0 0),(3,dI (k1:Int))]) (fun k1 _=>[]) I (fun k1 xk1 sk1 ok1 hxk1 hr hltk1 hik1=>?_) fun k1 sk1 ek1 hltk1=>?_
 refine bdE hr fun y1 hy1 hr=>J g<|J (CB' [] [] (ih_sHasRemote (m:=m) hy1))<|J (gn 1)<|ifE hr ?_ ?_<;>intro h1 hr
 exact e
 exact e
 subst ek1
 exact e
def z2G:Nat→Expr→Option Bool
  | 0,_=>none
  | n+1,a0=>z2F (z2G n) a0
def z6L (a0:Expr):Option Bool:=recO fun n=>z2G n a0
theorem j2H (n:Nat):∀ {m:Md} {a0:Expr} {r:Bool},z2G n a0=some r→Ok Tryz.prog 110 [Expr.x m a0] [] (dB r) []:=by
  induction n with
  | zero=>intro _ _ r hr; exact nomatch (show (none:Option Bool)=some r from hr)
  | succ n ih=>intro _ _ r hr; exact j2G ih hr
theorem j4m {m:Md}{a0:Expr}{r:Bool}(hr:z6L a0=some r):Ok Tryz.prog 110 [Expr.x m a0] [] (dB r) []:=by
 obtain⟨n,hn⟩:=q6D hr
 exact j2H n hn
def z8D:Nat→Equation→Unit→Option (Unit ⊕ Bool):=fun k1 xk1 _=>
 (z6L xk1.Expr).bind fun y1=>
 if y1=true then (
 some (.inr true)
 ) else (
 some (.inl ())
 )
def z2H (a0:Rule):Option Bool:=
 (findL z8D 0 a0.Equations ()).bind <| onr (fun r1=>some r1) fun _=>
 some false
theorem j4n {m:Md}{a0:Rule}{r:Bool}(hr:z2H a0=some r):Ok Tryz.prog 66 [Rule.x m a0] [] (dB r) []:=by
 refine OE Tryz.func66 fun S hS=>?_
 unfold z2H at hr
 refine J g<|J (BX' 0)<|J (gn 8)<|J (lenA 4 0)<|fun hl1=>bdE hr fun q1 hqq1 hr=>q0b hqq1 hl1 1 (fun k1 _=>[(1,.pb 0 0),(3,dI (k1:Int))]) (fun k1 _=>[]) I (fun k1 xk1 sk1 ok1 hxk1 hr hltk1 hik1=>?_) fun k1 sk1 ek1 hltk1=>?_
 refine bdE hr fun y1 hy1 hr=>J g<|J (CB' [] [] (j4m (m:=m) hy1))<|J (gn 1)<|ifE hr ?_ ?_<;>intro h1 hr
 exact e
 exact e
 subst ek1
 exact e
def q7L (a0:Attribute):Option Bool:=
 (q4T a0.Name).bind fun y1=>
 (
 if y1=true then (
 (q5O a0.Type_ 1 4).bind fun y2=>
 some (!y2)
 ) else (
 some true
 )
 ).bind fun s1=>
 (
 if s1=true then (
 some true
 ) else (
 (q5O a0.Mode 1 3).bind fun y3=>
 some (!y3)
 )
 ).bind fun s2=>
 if s2=true then (
 some false
 ) else (
 (
 if a0.Mode=3 then (
 (
 if a0.Type_=2 then (
 some a0.Circular
 ) else (
 some true
 )
 ).bind fun s4=>
 some s4
 ) else (
 some false
 )
 ).bind fun s3=>
 if s3=true then (
 some false
 ) else (
 (
 if a0.Circular=true then (
 some (decide (a0.Type_=2))
 ) else (
 some true
 )
 ).bind fun s5=>
 some s5
 )
 )
theorem z7w {a0:Attribute}{r:Bool}(hr:q7L a0=some r):Ok Tryz.prog 215 [Attribute.x .fz a0] [] (dB r) []:=by
 refine OE Tryz.func215 fun S hS=>?_
 unfold q7L at hr
 refine J g<|J (BX' 0)<|bdE hr fun y1 hy1 hr=>J g<|J (CB' [] [] (q5D hy1))<|bdE hr fun s1 hqq1 hr=>J (gn 1)<|q0a 6 [(1,.pb 0 0),(12,dB s1)] ?_ ?_
 replace hr:=hqq1
 refine ifE hr ?_ ?_<;>intro h1 hr
 refine bdE hr fun y2 hy2 hr=>J g<|J (CB' [] [] (q5W hy2))<|e
 exact e
 refine bdE hr fun s2 hqq2 hr=>q0a 6 [(1,.pb 0 0),(18,dB s2)] ?_ ?_
 replace hr:=hqq2
 refine ifE hr ?_ ?_<;>intro h2 hr
 exact e
 refine bdE hr fun y3 hy3 hr=>J g<|J (CB' [] [] (q5W hy3))<|e
 refine J (gn 1)<|ifE hr ?_ ?_<;>intro h3 hr
 exact e
 refine bdE hr fun s3 hqq3 hr=>J (gn 8)<|q0a 9 [(1,.pb 0 0),(30,dB s3)] ?_ ?_
 replace hr:=hqq3
 refine ifE hr ?_ ?_<;>intro h4 hr
 refine bdE hr fun s4 hqq4 hr=>J (gn 4)<|q0a 4 [(1,.pb 0 0),(22,dB true),(29,dB s4)] ?_ ?_
 replace hr:=hqq4
 refine ifE hr ?_ ?_<;>intro h5 hr
 exact e
 exact e
 exact e
 exact e
 refine J (gn 1)<|ifE hr ?_ ?_<;>intro h6 hr
 exact e
 refine bdE hr fun s5 hqq5 hr=>J (gn 7)<|q0a 5 [(38,dB s5)] ?_ ?_
 replace hr:=hqq5
 refine ifE hr ?_ ?_<;>intro h7 hr
 exact e
 exact e
 exact e
def z1l (a0:(List ByteArray)):Nat→ByteArray→Unit→Option (Unit ⊕ Bool):=fun k1 xk1 _=>
 grd (k1≤a0.length) <|
 (z2j (a0.take k1) xk1).bind fun y1=>
 if y1=true then (
 some (.inr false)
 ) else (
 some (.inl ())
 )
def z0o (a0:(List ByteArray)):Option Bool:=
 (findL (z1l a0) 0 a0 ()).bind <| onr (fun r1=>some r1) fun _=>
 some true
theorem j1G {m:Md}{a0:(List ByteArray)}{r:Bool}(hr:z0o a0=some r):Ok Tryz.prog 217 [.d m (.sl 1 (a0.map A.D.s))] [] (dB r) []:=by
 refine OE Tryz.func217 fun S hS=>?_
 unfold z0o at hr
 refine J (gn 10)<|J (lenT 0)<|fun hl1=>bdE hr fun q1 hqq1 hr=>q0b hqq1 hl1 0 (fun k1 _=>[(0,.d m (.sl 1 (a0.map A.D.s))),(3,dI (k1:Int))]) (fun k1 _=>[]) I (fun k1 xk1 sk1 ok1 hxk1 hr hltk1 hik1=>?_) fun k1 sk1 ek1 hltk1=>?_
 refine ggE hr fun g1 hr=>J g<|J (SLH' (Int.natCast_nonneg _) g1)<|bdE hr fun y1 hy1 hr=>J g<|J (CB' [] [] (z8r (m:=m) hy1))<|J (gn 1)<|ifE hr ?_ ?_<;>intro h1 hr
 exact e
 exact e
 subst ek1
 exact e
def q9O:Nat→Attribute→((List ByteArray))→Option (((List ByteArray)) ⊕ Bool):=fun k1 xk1 s1=>
 (q7L xk1).bind fun y1=>
 if y1=true then (
 grd (((s1.length:Int)+1)*16≤140737488355328∧(s1.length:Int)+1≤9223372036854775807) <|
 some (.inl (s1++[xk1.Name]))
 ) else (
 some (.inr false)
 )
def q9b (a0:Symbol):Option Bool:=
 (findL q9O 0 a0.Attributes ([]:List ByteArray)).bind <| onr (fun r1=>some r1) fun s1=>
 (q4T a0.Name).bind fun y2=>
 (
 if y2=true then (
 some (decide ((s1.length:Int)≤4))
 ) else (
 some false
 )
 ).bind fun s2=>
 (
 if s2=true then (
 (z0o s1).bind fun y3=>
 some y3
 ) else (
 some false
 )
 ).bind fun s3=>
 some s3
theorem z9p {m:Md}{a0:Symbol}{r:Bool}(hr:q9b a0=some r):Ok Tryz.prog 182 [Symbol.x m a0] [] (dB r) []:=by
 refine OE Tryz.func182 fun S hS=>?_
 unfold q9b at hr
 refine J g<|J (BX' 0)<|J g<|J (L0' 1 A.D.s)<|J (gn 8)<|J (lenA 1 0)<|fun hl1=>bdE hr fun q1 hqq1 hr=>q0b hqq1 hl1 2 (fun k1 s1=>[(1,.pb 0 0),(3,.ref 1 none),(4,dI (k1:Int))]) (fun k1 s1=>[(1,.row .fz 1 (s1.map A.D.s))]) I (fun k1 xk1 sk1 ok1 hxk1 hr hltk1 hik1=>?_) fun k1 sk1 ek1 hltk1=>?_
 obtain⟨s1,rfl⟩:∃ y,y=sk1:=⟨_,rfl⟩
 refine bdE hr fun y1 hy1 hr=>J g<|J (CB' [] [] (z7w hy1))<|J (gn 2)<|ifE hr ?_ ?_<;>intro h1 hr
 refine J g<|J (LIR' 2 (m:=.fz) (f:=A.D.s) (xs:=[xk1.Name]))<|ggE hr fun g1 hr=>J (q9Z (f:=A.D.s) 3 (fun _=>rfl) 16 g1)<|e
 exact e
 subst ek1
 obtain⟨s1,rfl⟩:∃ y,y=sk1:=⟨_,rfl⟩
 refine bdE hr fun y2 hy2 hr=>J g<|J (CB' [] [] (q5D hy2))<|bdE hr fun s2 hqq2 hr=>q0a 5 [(3,.ref 1 none),(36,dB s2)] ?_ ?_
 replace hr:=hqq2
 refine ifE hr ?_ ?_<;>intro h2 hr
 exact e
 exact e
 refine bdE hr fun s3 hqq3 hr=>q0a 4 [(40,dB s3)] ?_ ?_
 replace hr:=hqq3
 refine ifE hr ?_ ?_<;>intro h3 hr
 refine bdE hr fun y3 hy3 hr=>J g<|J (CB' [] [1] (j1G (m:=.bo) hy3))<|e
 exact e
 exact e
def z6M:Nat→ByteArray→Unit→Option (Unit ⊕ Bool):=fun k1 xk1 _=>
 (q4T xk1).bind fun y3=>
 if y3=true then (
 some (.inl ())
 ) else (
 some (.inr false)
 )
def z6N (a0:Rule):Nat→Equation→Unit→Option (Unit ⊕ Bool):=fun k2 xk2 _=>
 (q4T xk2.At.Name).bind fun y4=>
 (
 if y4=true then (
 (q5O xk2.At.Pos 0 (a0.Right.length:Int)).bind fun y5=>
 some (!y5)
 ) else (
 some true
 )
 ).bind fun s4=>
 (
 if s4=true then (
 some true
 ) else (
 (z0j xk2.Expr (a0.Right.length:Int)).bind fun y6=>
 some (!y6)
 )
 ).bind fun s5=>
 if s5=true then (
 some (.inr false)
 ) else (
 some (.inl ())
 )
def z6O (a0:Rule):Nat→Contribution→Unit→Option (Unit ⊕ Bool):=fun k3 xk3 _=>
 (q4T xk3.Symbol).bind fun y7=>
 (
 if y7=true then (
 (q4T xk3.Name).bind fun y8=>
 some (!y8)
 ) else (
 some true
 )
 ).bind fun s6=>
 (
 if s6=true then (
 some true
 ) else (
 (z0j xk3.Target (a0.Right.length:Int)).bind fun y9=>
 some (!y9)
 )
 ).bind fun s7=>
 (
 if s7=true then (
 some true
 ) else (
 (z0j xk3.Value (a0.Right.length:Int)).bind fun y10=>
 some (!y10)
 )
 ).bind fun s8=>
 if s8=true then (
 some (.inr false)
 ) else (
 some (.inl ())
 )
def z0p (a0:Rule):Option Bool:=
 (q4T a0.Name).bind fun y1=>
 (
 if y1=true then (
 (q4T a0.Left).bind fun y2=>
 some (!y2)
 ) else (
 some true
 )
 ).bind fun s1=>
 (
 if s1=true then (
 some true
 ) else (
 some (decide (3 < (a0.Right.length:Int)))
 )
 ).bind fun s2=>
 (
 if s2=true then (
 some true
 ) else (
 some (decide (2 < (a0.Contributions.length:Int)))
 )
 ).bind fun s3=>
 if s3=true then (
 some false
 ) else (
 (findL z6M 0 a0.Right ()).bind <| onr (fun r1=>some r1) fun _=>
 (findL (z6N a0) 0 a0.Equations ()).bind <| onr (fun r2=>some r2) fun _=>
 (findL (z6O a0) 0 a0.Contributions ()).bind <| onr (fun r3=>some r3) fun _=>
 some true
 )
theorem j1H {m:Md}{a0:Rule}{r:Bool}(hr:z0p a0=some r):Ok Tryz.prog 184 [Rule.x m a0] [] (dB r) []:=by
 refine OE Tryz.func184 fun S hS=>?_
 unfold z0p at hr
 refine J g<|J (BX' 0)<|bdE hr fun y1 hy1 hr=>J g<|J (CB' [] [] (q5D hy1))<|bdE hr fun s1 hqq1 hr=>J (gn 1)<|q0a 6 [(1,.pb 0 0),(3,dI (a0.Right.length:Int)),(21,dB s1)] ?_ ?_
 replace hr:=hqq1
 refine ifE hr ?_ ?_<;>intro h1 hr
 refine bdE hr fun y2 hy2 hr=>J g<|J (CB' [] [] (q5D hy2))<|e
 exact e
 refine bdE hr fun s2 hqq2 hr=>q0a 4 [(1,.pb 0 0),(3,dI (a0.Right.length:Int)),(25,dB s2)] ?_ ?_
 replace hr:=hqq2
 refine ifE hr ?_ ?_<;>intro h2 hr
 exact e
 exact e
 refine bdE hr fun s3 hqq3 hr=>q0a 6 [(1,.pb 0 0),(3,dI (a0.Right.length:Int)),(31,dB s3)] ?_ ?_
 replace hr:=hqq3
 refine ifE hr ?_ ?_<;>intro h3 hr
 exact e
 exact e
 refine J (gn 1)<|ifE hr ?_ ?_<;>intro h4 hr
 exact e
 refine J (gn 8) ?_
 refine AW.len (.box 0 2 rfl rfl) fun hl1=>?_
 refine bdE hr fun q4 hqq4 hr=>q0b hqq4 hl1 1 (fun k1 _=>[(1,.pb 0 0),(3,dI (a0.Right.length:Int)),(4,dI (k1:Int))]) (fun k1 _=>[]) I (fun k1 xk1 sk1 ok1 hxk1 hr hltk1 hik1=>?_) fun k1 sk1 ek1 hltk1=>?_
 refine bdE hr fun y3 hy3 hr=>J g<|J (CB' [] [] (q5D hy3))<|J (gn 2)<|ifE hr ?_ ?_<;>intro h5 hr
 exact e
 exact e
 subst ek1
 refine J (gn 15) ?_
 refine AW.len (.box 0 4 rfl rfl) fun hl2=>?_
 refine bdE hr fun q5 hqq5 hr=>q0b hqq5 hl2 1 (fun k2 _=>[(1,.pb 0 0),(3,dI (a0.Right.length:Int)),(5,dI (k2:Int))]) (fun k2 _=>[]) I (fun k2 xk2 sk2 ok2 hxk2 hr hltk2 hik2=>?_) fun k2 sk2 ek2 hltk2=>?_
 refine J g<|J (NV' 1)<|bdE hr fun y4 hy4 hr=>J g<|J (CB' [] [] (q5D hy4))<|bdE hr fun s4 hqq6 hr=>J (gn 1)<|q0a 8 [(1,.pb 0 0),(3,dI (a0.Right.length:Int)),(5,dI (k2:Int)),(6,.pb 1 0),(68,dB s4)] ?_ ?_
 replace hr:=hqq6
 refine ifE hr ?_ ?_<;>intro h6 hr
 refine bdE hr fun y5 hy5 hr=>J g<|J (CB' [] [] (q5W hy5))<|e
 exact e
 refine bdE hr fun s5 hqq7 hr=>q0a 7 [(1,.pb 0 0),(3,dI (a0.Right.length:Int)),(5,dI (k2:Int)),(75,dB s5)] ?_ ?_
 replace hr:=hqq7
 refine ifE hr ?_ ?_<;>intro h7 hr
 exact e
 refine bdE hr fun y6 hy6 hr=>J g<|J (CB' [] [] (z7o (m:=m) hy6))<|e
 refine J (gn 1)<|ifE hr ?_ ?_<;>intro h8 hr
 exact e
 exact e
 subst ek2
 refine J (gn 17) ?_
 refine AW.len (.box 0 5 rfl rfl) fun hl3=>?_
 refine bdE hr fun q8 hqq8 hr=>q0b hqq8 hl3 1 (fun k3 _=>[(1,.pb 0 0),(3,dI (a0.Right.length:Int)),(7,dI (k3:Int))]) (fun k3 _=>[]) I (fun k3 xk3 sk3 ok3 hxk3 hr hltk3 hik3=>?_) fun k3 sk3 ek3 hltk3=>?_
 refine J g<|J (NV' 1)<|bdE hr fun y7 hy7 hr=>J g<|J (CB' [] [] (q5D hy7))<|bdE hr fun s6 hqq9 hr=>J (gn 1)<|q0a 6 [(1,.pb 0 0),(3,dI (a0.Right.length:Int)),(7,dI (k3:Int)),(8,.pb 1 0),(97,dB s6)] ?_ ?_
 replace hr:=hqq9
 refine ifE hr ?_ ?_<;>intro h9 hr
 refine bdE hr fun y8 hy8 hr=>J g<|J (CB' [] [] (q5D hy8))<|e
 exact e
 refine bdE hr fun s7 hqq10 hr=>q0a 7 [(1,.pb 0 0),(3,dI (a0.Right.length:Int)),(7,dI (k3:Int)),(8,.pb 1 0),(104,dB s7)] ?_ ?_
 replace hr:=hqq10
 refine ifE hr ?_ ?_<;>intro h10 hr
 exact e
 refine bdE hr fun y9 hy9 hr=>J g<|J (CB' [] [] (z7o (m:=m) hy9))<|e
 refine bdE hr fun s8 hqq11 hr=>q0a 7 [(1,.pb 0 0),(3,dI (a0.Right.length:Int)),(7,dI (k3:Int)),(111,dB s8)] ?_ ?_
 replace hr:=hqq11
 refine ifE hr ?_ ?_<;>intro h11 hr
 exact e
 refine bdE hr fun y10 hy10 hr=>J g<|J (CB' [] [] (z7o (m:=m) hy10))<|e
 refine J (gn 1)<|ifE hr ?_ ?_<;>intro h12 hr
 exact e
 exact e
 subst ek3
 exact e
def z7r:Nat→Symbol→((List ByteArray))→Option (((List ByteArray)) ⊕ Int):=fun k1 xk1 s1=>
 (q9b xk1).bind fun y1=>
 if y1=true then (
 (z2j s1 xk1.Name).bind fun y2=>
 if y2=true then (
 some (.inr (k1:Int))
 ) else (
 grd (((s1.length:Int)+1)*16≤140737488355328∧(s1.length:Int)+1≤9223372036854775807) <|
 some (.inl (s1++[xk1.Name]))
 )
 ) else (
 some (.inr (k1:Int))
 )
def z7s:Nat→Rule→((List ByteArray))→Option (((List ByteArray)) ⊕ Int):=fun k2 xk2 s2=>
 (z0p xk2).bind fun y3=>
 if y3=true then (
 (z2j s2 xk2.Name).bind fun y4=>
 if y4=true then (
 some (.inr (k2:Int))
 ) else (
 grd (((s2.length:Int)+1)*16≤140737488355328∧(s2.length:Int)+1≤9223372036854775807) <|
 some (.inl (s2++[xk2.Name]))
 )
 ) else (
 some (.inr (k2:Int))
 )
def z6P (a0:Grammar):Option Int:=
 (findL z7r 0 a0.Symbols ([]:List ByteArray)).bind <| onr (fun r1=>some r1) fun s1=>
 (findL z7s 0 a0.Rules ([]:List ByteArray)).bind <| onr (fun r2=>some r2) fun s2=>
 some (-1)
theorem j9L {m:Md}{a0:Grammar}{r:Int}(hr:z6P a0=some r):Ok Tryz.prog 146 [Grammar.x m a0] [] (dI r) []:=by
 refine OE Tryz.func146 fun S hS=>?_
 unfold z6P at hr
 refine J g<|J (BX' 0)<|J g<|J (L0' 1 A.D.s)<|J (gn 8)<|J (lenA 0 0)<|fun hl1=>bdE hr fun q1 hqq1 hr=>q0b hqq1 hl1 2 (fun k1 s1=>[(1,.pb 0 0),(3,.ref 1 none),(4,dI (k1:Int))]) (fun k1 s1=>[(1,.row .fz 1 (s1.map A.D.s))]) I (fun k1 xk1 sk1 ok1 hxk1 hr hltk1 hik1=>?_) fun k1 sk1 ek1 hltk1=>?_
 obtain⟨s1,rfl⟩:∃ y,y=sk1:=⟨_,rfl⟩
 refine bdE hr fun y1 hy1 hr=>J g<|J (CB' [] [] (z9p (m:=m) hy1))<|J (gn 1)<|ifE hr ?_ ?_<;>intro h1 hr
 refine bdE hr fun y2 hy2 hr=>J g<|J (CB' [] [1] (z8r (m:=.bo) hy2))<|J (gn 2)<|ifE hr ?_ ?_<;>intro h2 hr
 exact e
 refine J g<|J (LIR' 2 (m:=.fz) (f:=A.D.s) (xs:=[xk1.Name]))<|ggE hr fun g1 hr=>J (q9Z (f:=A.D.s) 3 (fun _=>rfl) 16 g1)<|e
 exact e
 subst ek1
 obtain⟨s1,rfl⟩:∃ y,y=sk1:=⟨_,rfl⟩
 refine J g<|J (L0' 2 A.D.s)<|J (gn 8) ?_
 refine AW.len (.box 0 1 rfl rfl) fun hl2=>?_
 refine bdE hr fun q2 hqq2 hr=>q0b hqq2 hl2 3 (fun k2 s2=>[(1,.pb 0 0),(3,.ref 2 none),(5,dI (k2:Int))]) (fun k2 s2=>[(2,.row .fz 1 (s2.map A.D.s))]) I (fun k2 xk2 sk2 ok2 hxk2 hr hltk2 hik2=>?_) fun k2 sk2 ek2 hltk2=>?_
 obtain⟨s2,rfl⟩:∃ y,y=sk2:=⟨_,rfl⟩
 refine bdE hr fun y3 hy3 hr=>J g<|J (CB' [] [] (j1H (m:=m) hy3))<|J (gn 1)<|ifE hr ?_ ?_<;>intro h3 hr
 refine bdE hr fun y4 hy4 hr=>J g<|J (CB' [] [2] (z8r (m:=.bo) hy4))<|J (gn 2)<|ifE hr ?_ ?_<;>intro h4 hr
 exact e
 refine J g<|J (LIR' 3 (m:=.fz) (f:=A.D.s) (xs:=[xk2.Name]))<|ggE hr fun g2 hr=>J (q9Z (f:=A.D.s) 4 (fun _=>rfl) 16 g2)<|e
 exact e
 subst ek2
 obtain⟨s2,rfl⟩:∃ y,y=sk2:=⟨_,rfl⟩
 exact e
def z0q (a0:Grammar)(a1:Rule):Int→Option (Int ⊕ (Unit ⊕ Bool)):=fun s1=>
 if s1≤(a1.Right.length:Int) then (
 (q5s a1 s1).bind fun y1=>
 (q5u a0 y1).bind fun (y2,y3)=>
 if y3=true then (
 grd (I64 (s1+1)) <|
 some (.inl (s1+1))
 ) else (
 some (.inr (.inr false))
 )
 ) else (
 some (.inr (.inl ()))
 )
def z1m (a0:Grammar)(a1:Rule):Option Bool:=
 (q4L (z0q a0 a1) 0).bind <| onr (fun r1=>some r1) fun ()=>
 some true
theorem j2I {m:Md}{a0:Grammar}{a1:Rule}{r:Bool}(hr:z1m a0 a1=some r):Ok Tryz.prog 185 [Grammar.y m a0,Rule.x m a1] [] (dB r) []:=by
 refine OE Tryz.func185 fun S hS=>?_
 unfold z1m at hr
 refine J g<|J (BX' 0)<|J (BX' 1)<|bdE hr fun q1 hqq1 hr=>J (gn 7)<|AW.cut 2 (fun _=>[]) (fun _=>[]) (M:=fun x=>q1 = .inl x) ?_ fun x hx=>?_
 refine J g<|q0h hqq1 2 (fun s1=>[(2,.pb 0 0),(3,.pb 1 0),(5,dI s1)]) (fun s1=>[]) I fun sk1 ok1 hr hik1=>?_
 obtain⟨s1,rfl⟩:∃ y,y=sk1:=⟨_,rfl⟩
 have hr:=hr
 refine J (gn 9)<|ifE hr ?_ ?_<;>intro h1 hr
 refine bdE hr fun y1 hy1 hr=>J g<|J (CB' [] [] (q7v (m:=m) hy1))<|bdP hr fun y2 y3 hq2 hr=>J (CB' [(0,2)] [] (q7w (m:=m) hq2))<|J g<|J (NV' 3)<|J (gn 8)<|ifE hr ?_ ?_<;>intro h2 hr
 refine ggE hr fun g1 hr=>e
 exact e
 refine J (gn 2) ?_
 cases hr
 cases hik1 _ rfl
 exact⟨_,rfl,GH.trans (q0y (q:=0) [.d m (.sl 2 (a0.Symbols.map Symbol.D)),.u] (.cons .rfl (.cons .u .nil)) rfl) (q0g hS 2)⟩
 subst hx
 exact e
def z3p (rec_sl4Copy:Expr→Option Expr):Nat→Expr→((List Expr))→Option ((List Expr)):=fun k1 xk1 s1=>
 (rec_sl4Copy xk1).bind fun y1=>
 grd (((s1.length:Int)+1)*88≤140737488355328∧(s1.length:Int)+1≤9223372036854775807) <|
 some (s1++[y1])
def z1n (rec_sl4Copy:Expr→Option Expr)(a0:Expr):Option Expr:=
 (eachL (z3p rec_sl4Copy) 0 a0.Args ([]:List Expr)).bind fun s1=>
 some (⟨a0.Kind,a0.N,a0.Pos,a0.Type_,a0.Symbol,a0.Name,s1⟩:Expr)
theorem j7s {rec_sl4Copy:Expr→Option Expr}(ih_sl4Copy:∀ {m:Md} {a0:Expr} {r:Expr},rec_sl4Copy a0=some r→Ok Tryz.prog 144 [Expr.x m a0] [] (.ag [dI r.Kind,dI r.N,dI r.Pos,dI r.Type_,dS r.Symbol,dS r.Name,.ref 0 none]) [.row .fz 7 (r.Args.map Expr.D)]){m:Md}{a0:Expr}{r:Expr}(hr:z1n rec_sl4Copy a0=some r):Ok Tryz.prog 144 [Expr.x m a0] [] (.ag [dI r.Kind,dI r.N,dI r.Pos,dI r.Type_,dS r.Symbol,dS r.Name,.ref 0 none]) [.row .fz 7 (r.Args.map Expr.D)]:=by
 refine OE Tryz.func144 fun S hS=>?_
 unfold z1n at hr
 refine J g<|J (BX' 0)<|J (NV' 1)<|J g<|J (L0' 2 Expr.D)<|J (gn 8)<|J (lenA 6 0)<|fun hl1=>bdE hr fun s1 hqq1 hr=>q0d hqq1 hl1 3 (fun k1 s1=>[(1,.pb 0 0),(2,.pb 1 0),(3,.ref 2 none),(4,dI (k1:Int))]) (fun k1 s1=>[(2,.row .fz 7 (s1.map Expr.D))]) I (fun k1 xk1 sk1 ok1 hxk1 hr hltk1=>?_) fun k1 hltk1=>?_
 obtain⟨s1,rfl⟩:∃ y,y=sk1:=⟨_,rfl⟩
 refine bdE hr fun y1 hy1 hr=>J g<|J (CB' [(0,3)] [] (ih_sl4Copy (m:=m) hy1)) ?_
 refine J (q0k 3 rfl) ?_
 refine J (j5E 4 (m:=.fz) (f:=Expr.D) [y1] (by simp only [List.map_cons,List.map_nil,Expr.D_eq]; rfl))<|ggE hr fun g1 hr=>J (AP1' 5 .fz 88 g1)<|J g<|E
 exact e
def q7M:Nat→Expr→Option Expr
  | 0,_=>none
  | n+1,a0=>z1n (q7M n) a0
def z8E (a0:Expr):Option Expr:=recO fun n=>q7M n a0
theorem j7t (n:Nat):∀ {m:Md} {a0:Expr} {r:Expr},q7M n a0=some r→Ok Tryz.prog 144 [Expr.x m a0] [] (.ag [dI r.Kind,dI r.N,dI r.Pos,dI r.Type_,dS r.Symbol,dS r.Name,.ref 0 none]) [.row .fz 7 (r.Args.map Expr.D)]:=by
  induction n with
  | zero=>intro _ _ r hr; exact nomatch (show (none:Option Expr)=some r from hr)
  | succ n ih=>intro _ _ r hr; exact j7s ih hr
theorem j9M {m:Md}{a0:Expr}{r:Expr}(hr:z8E a0=some r):Ok Tryz.prog 144 [Expr.x m a0] [] (.ag [dI r.Kind,dI r.N,dI r.Pos,dI r.Type_,dS r.Symbol,dS r.Name,.ref 0 none]) [.row .fz 7 (r.Args.map Expr.D)]:=by
 obtain⟨n,hn⟩:=q6D hr
 exact j7t n hn
def q8a (a1:Occurrence):Nat→Equation→Unit→Option (Unit ⊕ (Expr × Bool)):=fun k1 xk1 _=>
 if xk1.At=a1 then (
 (z8E xk1.Expr).bind fun y1=>
 some (.inr (y1,true))
 ) else (
 some (.inl ())
 )
def q5V (a0:Rule)(a1:Occurrence):Option (Expr × Bool):=
 (findL (q8a a1) 0 a0.Equations ()).bind <| onr (fun r1=>some r1) fun _=>
 some ((⟨0,0,0,0,(⟨#[]⟩:ByteArray),(⟨#[]⟩:ByteArray),[]⟩:Expr),false)
theorem z5Z {m:Md}{a0:Rule}{a1:Occurrence}{r:(Expr × Bool)}(hr:q5V a0 a1=some r):Ok Tryz.prog 112 [Rule.x m a0,Occurrence.x .fz a1] [] (.tu [.ag [dI r.1.Kind,dI r.1.N,dI r.1.Pos,dI r.1.Type_,dS r.1.Symbol,dS r.1.Name,.ref 0 none],dB r.2]) [.row .fz 7 (r.1.Args.map Expr.D)]:=by
 refine OE Tryz.func112 fun S hS=>?_
 unfold q5V at hr
 refine J g<|J (BX' 0)<|J (BX' 1)<|J (NV' 2)<|J (gn 8)<|J (lenA 4 0)<|fun hl1=>bdE hr fun q1 hqq1 hr=>q0b hqq1 hl1 3 (fun k1 _=>[(2,.pb 0 0),(3,.pb 1 0),(4,.pb 2 0),(6,dI (k1:Int))]) (fun k1 _=>[]) I (fun k1 xk1 sk1 ok1 hxk1 hr hltk1 hik1=>?_) fun k1 sk1 ek1 hltk1=>?_
 refine J g ?_
 refine J (SQ' rfl rfl rfl rfl (q6o xk1.At a1))<|J (gn 1)<|ifE hr ?_ ?_<;>intro h1 hr
 refine bdE hr fun y1 hy1 hr=>J g<|J (CB' [(0,3)] [] (j9M (m:=m) hy1))<|e
 exact e
 subst ek1
 refine J (gn 18) ?_
 refine J (q0c (q0j (q:=2) (c:=6) (r:=3) .fz 7 rfl rfl rfl))<|J g<|E
def z7B (a1:Rule):Nat→Occurrence→Unit→Option (Unit ⊕ Bool):=fun k1 xk1 _=>
 (q5V a1 xk1).bind fun (y2,y3)=>
 if y3=true then (
 some (.inl ())
 ) else (
 some (.inr true)
 )
def z1o (a0:Grammar)(a1:Rule):Option Bool:=
 (q5t a0 a1).bind fun y1=>
 (findL (z7B a1) 0 y1 ()).bind <| onr (fun r1=>some r1) fun _=>
 some false
theorem j2J {m:Md}{a0:Grammar}{a1:Rule}{r:Bool}(hr:z1o a0 a1=some r):Ok Tryz.prog 186 [Grammar.y m a0,Rule.x m a1] [] (dB r) []:=by
 refine OE Tryz.func186 fun S hS=>?_
 unfold z1o at hr
 refine J g<|J (BX' 0)<|J (BX' 1)<|bdE hr fun y1 hy1 hr=>J g<|J (CB' [(0,2)] [] (q8N (m:=m) hy1))<|J (gn 8)<|J (lenR 2)<|fun hl1=>bdE hr fun q1 hqq1 hr=>q0b hqq1 hl1 3 (fun k1 _=>[(3,.pb 1 0),(5,.ref 2 none),(6,dI (k1:Int))]) (fun k1 _=>[]) I (fun k1 xk1 sk1 ok1 hxk1 hr hltk1 hik1=>?_) fun k1 sk1 ek1 hltk1=>?_
 refine bdP hr fun y2 y3 hq2 hr=>J g<|J (CB' [(0,3)] [] (z5Z (m:=m) hq2))<|J g<|J (NV' 4)<|J (gn 8)<|ifE hr ?_ ?_<;>intro h1 hr
 exact e
 exact e
 subst ek1
 exact e
def z9Q (a1:Occurrence):Nat→Occurrence→Unit→Option (Unit ⊕ Bool):=fun k1 xk1 _=>
 if xk1=a1 then (
 some (.inr true)
 ) else (
 some (.inl ())
 )
def z1V (a0:(List Occurrence))(a1:Occurrence):Option Bool:=
 (findL (z9Q a1) 0 a0 ()).bind <| onr (fun r1=>some r1) fun _=>
 some false
theorem z9R {m:Md}{a0:(List Occurrence)}{a1:Occurrence}{r:Bool}(hr:z1V a0 a1=some r):Ok Tryz.prog 218 [.d m (.sl 2 (a0.map Occurrence.D)),Occurrence.x .fz a1] [] (dB r) []:=by
 refine OE Tryz.func218 fun S hS=>?_
 unfold z1V at hr
 refine J g<|J (BX' 0)<|J (gn 8)<|J (lenT 0)<|fun hl1=>bdE hr fun q1 hqq1 hr=>q0b hqq1 hl1 1 (fun k1 _=>[(0,.d m (.sl 2 (a0.map Occurrence.D))),(3,.pb 0 0),(5,dI (k1:Int))]) (fun k1 _=>[]) I (fun k1 xk1 sk1 ok1 hxk1 hr hltk1 hik1=>?_) fun k1 sk1 ek1 hltk1=>?_
 refine J g ?_
 refine J (SQ' rfl rfl rfl rfl (q6o xk1 a1))<|J (gn 1)<|ifE hr ?_ ?_<;>intro h1 hr
 exact e
 exact e
 subst ek1
 exact e
def z4j (y1:(List Occurrence)):Nat→Equation→((List Occurrence))→Option (((List Occurrence)) ⊕ Bool):=fun k1 xk1 s1=>
 (z1V y1 xk1.At).bind fun y2=>
 if y2=true then (
 (z1V s1 xk1.At).bind fun y3=>
 if y3=true then (
 some (.inr true)
 ) else (
 grd (((s1.length:Int)+1)*24≤140737488355328∧(s1.length:Int)+1≤9223372036854775807) <|
 some (.inl (s1++[xk1.At]))
 )
 ) else (
 some (.inr true)
 )
def z3P (a0:Grammar)(a1:Rule):Option Bool:=
 (q5t a0 a1).bind fun y1=>
 (findL (z4j y1) 0 a1.Equations ([]:List Occurrence)).bind <| onr (fun r1=>some r1) fun s1=>
 some false
theorem j5W {m:Md}{a0:Grammar}{a1:Rule}{r:Bool}(hr:z3P a0 a1=some r):Ok Tryz.prog 187 [Grammar.y m a0,Rule.x m a1] [] (dB r) []:=by
 refine OE Tryz.func187 fun S hS=>?_
 unfold z3P at hr
 refine J g<|J (BX' 0)<|J (BX' 1)<|bdE hr fun y1 hy1 hr=>J g<|J (CB' [(0,2)] [] (q8N (m:=m) hy1))<|J g<|J (L0' 3 Occurrence.D)<|J (gn 8)<|J (lenA 4 1)<|fun hl1=>bdE hr fun q1 hqq1 hr=>q0b hqq1 hl1 4 (fun k1 s1=>[(3,.pb 1 0),(5,.ref 2 none),(6,.ref 3 none),(7,dI (k1:Int))]) (fun k1 s1=>[(3,.row .fz 2 (s1.map Occurrence.D))]) I (fun k1 xk1 sk1 ok1 hxk1 hr hltk1 hik1=>?_) fun k1 sk1 ek1 hltk1=>?_
 obtain⟨s1,rfl⟩:∃ y,y=sk1:=⟨_,rfl⟩
 refine J g<|J (NV' 4)<|bdE hr fun y2 hy2 hr=>J g<|J (CB' [] [2] (z9R (m:=.bo) hy2))<|J (gn 1)<|ifE hr ?_ ?_<;>intro h1 hr
 refine bdE hr fun y3 hy3 hr=>J g<|J (CB' [] [3] (z9R (m:=.bo) hy3))<|J (gn 2)<|ifE hr ?_ ?_<;>intro h2 hr
 exact e
 refine J g<|J (LIR' 5 (m:=.fz) (f:=Occurrence.D) (xs:=[xk1.At]))<|ggE hr fun g1 hr=>J (q9Z (f:=Occurrence.D) 6 (fun _=>rfl) 24 g1)<|e
 exact e
 subst ek1
 obtain⟨s1,rfl⟩:∃ y,y=sk1:=⟨_,rfl⟩
 exact e
def z3Q (a0:Occurrence)(a1:Occurrence):Option Bool:=
 (
 if a0.Pos < a1.Pos then (
 some true
 ) else (
 (
 if a0.Pos=a1.Pos then (
 some (Op.bytesLess a0.Name.toList a1.Name.toList)
 ) else (
 some false
 )
 ).bind fun s2=>
 some s2
 )
 ).bind fun s1=>
 some s1
theorem j5X {a0:Occurrence}{a1:Occurrence}{r:Bool}(hr:z3Q a0 a1=some r):Ok Tryz.prog 214 [Occurrence.x .fz a0,Occurrence.x .fz a1] [] (dB r) []:=by
 refine OE Tryz.func214 fun S hS=>?_
 unfold z3Q at hr
 refine J g<|J (BX' 0)<|J (BX' 1)<|bdE hr fun s1 hqq1 hr=>J (gn 9)<|q0a 14 [(4,dB false),(23,dB s1)] ?_ ?_
 replace hr:=hqq1
 refine ifE hr ?_ ?_<;>intro h1 hr
 exact e
 refine bdE hr fun s2 hqq2 hr=>J (gn 6)<|q0a 7 [(4,dB false),(10,dB false),(22,dB s2)] ?_ ?_
 replace hr:=hqq2
 refine ifE hr ?_ ?_<;>intro h2 hr
 exact e
 exact e
 exact e
 exact e
def z3R (a0:(List Occurrence))(a1:Occurrence):Int→Option (Int ⊕ Int):=fun s2=>
 if s2 < (a0.length:Int) then (
 grd (0≤s2) <|
 (a0[s2.toNat]?).bind fun x1=>
 (z3Q x1 a1).bind fun y1=>
 if y1=true then (
 grd (I64 (s2+1)) <|
 some (.inl (s2+1))
 ) else (
 some (.inr s2)
 )
 ) else (
 some (.inr s2)
 )
def z8F (a0:(List Occurrence))(a1:Occurrence):Option (List Occurrence):=
 (q4L (z3R a0 a1) 0).bind fun s1=>
 if s1 < (a0.length:Int) then (
 grd (0≤s1) <|
 (a0[s1.toNat]?).bind fun x2=>
 if x2=a1 then (
 some a0
 ) else (
 grd (0≤s1) <|
 grd (s1.toNat≤a0.length) <|
 grd (((([]:List Occurrence).length:Int)+((a0.take s1.toNat).length:Int))*24≤140737488355328∧(([]:List Occurrence).length:Int)+((a0.take s1.toNat).length:Int)≤9223372036854775807) <|
 grd ((((a0.take s1.toNat).length:Int)+1)*24≤140737488355328∧((a0.take s1.toNat).length:Int)+1≤9223372036854775807) <|
 grd (0≤s1) <|
 grd (s1.toNat≤a0.length) <|
 grd (((((a0.take s1.toNat)++[a1]).length:Int)+((a0.drop s1.toNat).length:Int))*24≤140737488355328∧(((a0.take s1.toNat)++[a1]).length:Int)+((a0.drop s1.toNat).length:Int)≤9223372036854775807) <|
 some (((a0.take s1.toNat)++[a1])++(a0.drop s1.toNat))
 )
 ) else (
 grd (0≤s1) <|
 grd (s1.toNat≤a0.length) <|
 grd (((([]:List Occurrence).length:Int)+((a0.take s1.toNat).length:Int))*24≤140737488355328∧(([]:List Occurrence).length:Int)+((a0.take s1.toNat).length:Int)≤9223372036854775807) <|
 grd ((((a0.take s1.toNat).length:Int)+1)*24≤140737488355328∧((a0.take s1.toNat).length:Int)+1≤9223372036854775807) <|
 grd (0≤s1) <|
 grd (s1.toNat≤a0.length) <|
 grd (((((a0.take s1.toNat)++[a1]).length:Int)+((a0.drop s1.toNat).length:Int))*24≤140737488355328∧(((a0.take s1.toNat)++[a1]).length:Int)+((a0.drop s1.toNat).length:Int)≤9223372036854775807) <|
 some (((a0.take s1.toNat)++[a1])++(a0.drop s1.toNat))
 )
theorem k1c {m:Md}{a0:(List Occurrence)}{a1:Occurrence}{r:(List Occurrence)}(hr:z8F a0 a1=some r):Ok Tryz.prog 181 [.d m (.sl 2 (a0.map Occurrence.D)),Occurrence.x .fz a1] [] (.d m (.sl 2 (r.map Occurrence.D))) []:=by
 refine OE Tryz.func181 fun S hS=>?_
 unfold z8F at hr
 refine J g<|J (BX' 0)<|bdE hr fun s1 hqq1 hr=>J (gn 7)<|q0e 1 [(0,.d m (.sl 2 (a0.map Occurrence.D))),(3,.pb 0 0),(5,dI s1)] [] ?_ ?_
 refine J g<|q0h hqq1 1 (fun s2=>[(0,.d m (.sl 2 (a0.map Occurrence.D))),(3,.pb 0 0),(5,dI s2)]) (fun s2=>[]) I fun sk1 ok1 hr hik1=>?_
 obtain⟨s2,rfl⟩:∃ y,y=sk1:=⟨_,rfl⟩
 have hr:=hr
 refine J (gn 7)<|ifE hr ?_ ?_<;>intro h1 hr
 refine ggE hr fun g1 hr=>bdE hr fun x1 hx1 hr=>bdE hr fun y1 hy1 hr=>J g<|J (CB' [] [] (j5X hy1))<|J (gn 2)<|ifE hr ?_ ?_<;>intro h2 hr
 refine ggE hr fun g2 hr=>e
 refine J (gn 2) ?_
 cases hr
 cases hik1 _ rfl
 exact q0g hS 1
 refine J (gn 11) ?_
 cases hr
 cases hik1 _ rfl
 exact q0g hS 1
 refine J (gn 7)<|ifE hr ?_ ?_<;>intro h3 hr
 refine ggE hr fun g3 hr=>bdE hr fun x2 hx2 hr=>J g ?_
 refine J (SQ' rfl rfl rfl rfl (q6o x2 a1))<|J (gn 2)<|ifE hr ?_ ?_<;>intro h4 hr
 exact e
 refine J g<|J (L0' 1 Occurrence.D)<|ggE hr fun g4 hr=>ggE hr fun g5 hr=>J g<|J (SLH' g4 g5)<|ggE hr fun g6 hr=>J (j5F (f:=Occurrence.D) 2 24 (fun _=>rfl) g6)<|J g<|J (LIR' 3 (m:=.fz) (f:=Occurrence.D) (xs:=[a1]))<|ggE hr fun g7 hr=>J (q9Z (f:=Occurrence.D) 4 (fun _=>rfl) 24 g7)<|ggE hr fun g8 hr=>ggE hr fun g9 hr=>J g<|J (SLL' g8 g9)<|ggE hr fun g10 hr=>J (j5F (f:=Occurrence.D) 5 24 (fun _=>rfl) g10)<|J (gn 3) ?_
 refine J (q0c (q0l (r:=5) rfl)) ?_
 cases hr
 exact endA.ren [] 0 (.inr rfl) hS rfl rfl rfl (.md rfl) rfl rfl
 refine J g<|J (L0' 1 Occurrence.D)<|ggE hr fun g11 hr=>ggE hr fun g12 hr=>J g<|J (SLH' g11 g12)<|ggE hr fun g13 hr=>J (j5F (f:=Occurrence.D) 2 24 (fun _=>rfl) g13)<|J g<|J (LIR' 3 (m:=.fz) (f:=Occurrence.D) (xs:=[a1]))<|ggE hr fun g14 hr=>J (q9Z (f:=Occurrence.D) 4 (fun _=>rfl) 24 g14)<|ggE hr fun g15 hr=>ggE hr fun g16 hr=>J g<|J (SLL' g15 g16)<|ggE hr fun g17 hr=>J (j5F (f:=Occurrence.D) 5 24 (fun _=>rfl) g17)<|J (gn 3) ?_
 refine J (q0c (q0l (r:=5) rfl)) ?_
 cases hr
 exact endA.ren [] 0 (.inr rfl) hS rfl rfl rfl (.md rfl) rfl rfl
def z3q (rec_sl4Uses:Expr→(List Occurrence)→Option (List Occurrence)):Nat→Expr→((List Occurrence))→Option ((List Occurrence)):=fun k1 xk1 s1=>
 (rec_sl4Uses xk1 s1).bind fun y2=>
 some y2
def z9q (rec_sl4Uses:Expr→(List Occurrence)→Option (List Occurrence)):Nat→Expr→((List Occurrence))→Option ((List Occurrence)):=fun k2 xk2 s2=>
 (rec_sl4Uses xk2 s2).bind fun y3=>
 some y3
def z2I (rec_sl4Uses:Expr→(List Occurrence)→Option (List Occurrence))(a0:Expr)(a1:(List Occurrence)):Option (List Occurrence):=
 if a0.Kind=3 then (
 (z8F a1 (⟨a0.Pos,a0.Name⟩:Occurrence)).bind fun y1=>
 (eachL (z3q rec_sl4Uses) 0 a0.Args y1).bind fun s1=>
 some s1
 ) else (
 (eachL (z9q rec_sl4Uses) 0 a0.Args a1).bind fun s2=>
 some s2
 )
theorem j7u {rec_sl4Uses:Expr→(List Occurrence)→Option (List Occurrence)}(ih_sl4Uses:∀ {m:Md} {a0:Expr} {a1:(List Occurrence)} {r:(List Occurrence)},rec_sl4Uses a0 a1=some r→Ok Tryz.prog 145 [Expr.x m a0,.d m (.sl 2 (a1.map Occurrence.D))] [] (.d m (.sl 2 (r.map Occurrence.D))) []){m:Md}{a0:Expr}{a1:(List Occurrence)}{r:(List Occurrence)}(hr:z2I rec_sl4Uses a0 a1=some r):Ok Tryz.prog 145 [Expr.x m a0,.d m (.sl 2 (a1.map Occurrence.D))] [] (.d m (.sl 2 (r.map Occurrence.D))) []:=by
 refine OE Tryz.func145 fun S hS=>?_
 unfold z2I at hr
 refine J g<|J (BX' 0)<|J (gn 9)<|ifE hr ?_ ?_<;>intro h1 hr
 refine bdE hr fun y1 hy1 hr=>J g<|J (CB' [] [] (k1c (m:=m) hy1))<|J (gn 8)<|J (lenA 6 0)<|fun hl1=>bdE hr fun s1 hqq1 hr=>q0d hqq1 hl1 1 (fun k1 s1=>[(1,.d m (.sl 2 (s1.map Occurrence.D))),(2,.pb 0 0),(5,dI (k1:Int))]) (fun k1 s1=>[]) I (fun k1 xk1 sk1 ok1 hxk1 hr hltk1=>?_) fun k1 hltk1=>?_
 obtain⟨s1,rfl⟩:∃ y,y=sk1:=⟨_,rfl⟩
 refine bdE hr fun y2 hy2 hr=>J g<|J (CB' [] [] (ih_sl4Uses (m:=m) hy2))<|e
 exact e
 refine J (gn 8)<|J (lenA 6 0)<|fun hl2=>bdE hr fun s2 hqq2 hr=>q0d hqq2 hl2 1 (fun k2 s2=>[(1,.d m (.sl 2 (s2.map Occurrence.D))),(2,.pb 0 0),(5,dI (k2:Int))]) (fun k2 s2=>[]) I (fun k2 xk2 sk2 ok2 hxk2 hr hltk2=>?_) fun k2 hltk2=>?_
 obtain⟨s2,rfl⟩:∃ y,y=sk2:=⟨_,rfl⟩
 refine bdE hr fun y3 hy3 hr=>J g<|J (CB' [] [] (ih_sl4Uses (m:=m) hy3))<|e
 exact e
def q8f:Nat→Expr→(List Occurrence)→Option (List Occurrence)
  | 0,_,_=>none
  | n+1,a0,a1=>z2I (q8f n) a0 a1
def j1I (a0:Expr)(a1:(List Occurrence)):Option (List Occurrence):=recO fun n=>q8f n a0 a1
theorem j7v (n:Nat):∀ {m:Md} {a0:Expr} {a1:(List Occurrence)} {r:(List Occurrence)},q8f n a0 a1=some r→Ok Tryz.prog 145 [Expr.x m a0,.d m (.sl 2 (a1.map Occurrence.D))] [] (.d m (.sl 2 (r.map Occurrence.D))) []:=by
  induction n with
  | zero=>intro _ _ _ r hr; exact nomatch (show (none:Option (List Occurrence))=some r from hr)
  | succ n ih=>intro _ _ _ r hr; exact j7u ih hr
theorem j9N {m:Md}{a0:Expr}{a1:(List Occurrence)}{r:(List Occurrence)}(hr:j1I a0 a1=some r):Ok Tryz.prog 145 [Expr.x m a0,.d m (.sl 2 (a1.map Occurrence.D))] [] (.d m (.sl 2 (r.map Occurrence.D))) []:=by
 obtain⟨n,hn⟩:=q6D hr
 exact j7v n hn
def q7i (a0:Expr):Option (List Occurrence):=
 (j1I a0 []).bind fun y1=>
 some y1
theorem z4Z {m:Md}{a0:Expr}{r:(List Occurrence)}(hr:q7i a0=some r):Ok Tryz.prog 113 [Expr.x m a0] [] (.d m (.sl 2 (r.map Occurrence.D))) []:=by
 refine OE Tryz.func113 fun S hS=>?_
 unfold q7i at hr
 refine J g<|J (BX' 0)<|J g<|J (L0' 1 Occurrence.D) ?_
 refine J (q0k 1 rfl)<|bdE hr fun y1 hy1 hr=>J (CB' [] [] (j9N (m:=m) hy1))<|J g<|E
def z6Q (a0:Grammar)(a1:Rule)(a2:Occurrence):Option Bool:=
 (q5O a2.Pos 0 (a1.Right.length:Int)).bind fun y1=>
 if y1=true then (
 (q5s a1 a2.Pos).bind fun y2=>
 (q5u a0 y2).bind fun (y3,y4)=>
 (q5X y3 a2.Name).bind fun (y5,y6)=>
 if a2.Pos=0 then (
 (
 if y6=true then (
 some (decide (y5.Mode=1))
 ) else (
 some false
 )
 ).bind fun s1=>
 some s1
 ) else (
 (
 if y6=true then (
 some (decide (y5.Mode=2))
 ) else (
 some false
 )
 ).bind fun s2=>
 some s2
 )
 ) else (
 some false
 )
theorem j9O {m:Md}{a0:Grammar}{a1:Rule}{a2:Occurrence}{r:Bool}(hr:z6Q a0 a1 a2=some r):Ok Tryz.prog 232 [Grammar.y m a0,Rule.x m a1,Occurrence.x .fz a2] [] (dB r) []:=by
 refine OE Tryz.func232 fun S hS=>?_
 unfold z6Q at hr
 refine J g<|J (BX' 0)<|J (BX' 1)<|J (BX' 2)<|bdE hr fun y1 hy1 hr=>J g<|J (CB' [] [] (q5W hy1))<|J (gn 2)<|ifE hr ?_ ?_<;>intro h1 hr
 refine bdE hr fun y2 hy2 hr=>J g<|J (CB' [] [] (q7v (m:=m) hy2))<|bdP hr fun y3 y4 hq1 hr=>J (CB' [(0,3)] [] (q7w (m:=m) hq1))<|J g<|J (NV' 4)<|bdP hr fun y5 y6 hq2 hr=>J g<|J (CB' [] [3] (q9I (m:=.bo) hq2))<|J g<|J (NV' 5)<|J (gn 10)<|ifE hr ?_ ?_<;>intro h2 hr
 refine bdE hr fun s1 hqq3 hr=>J (gn 4)<|q0a 5 [(6,dB false),(42,dB s1)] ?_ ?_
 replace hr:=hqq3
 refine ifE hr ?_ ?_<;>intro h3 hr
 exact e
 exact e
 exact e
 refine bdE hr fun s2 hqq4 hr=>J (gn 5)<|q0a 5 [(6,dB false),(48,dB s2)] ?_ ?_
 replace hr:=hqq4
 refine ifE hr ?_ ?_<;>intro h4 hr
 exact e
 exact e
 exact e
 exact e
end Go.Proofs.YtpnkinhphabkcaaGreat
