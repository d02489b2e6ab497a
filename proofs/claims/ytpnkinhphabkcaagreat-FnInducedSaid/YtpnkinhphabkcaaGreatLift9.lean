/- What some functions of the program compute, as partial functions on plain data, and that they do; each lemma bears its conditions in its statement. -/
import Derived.Test.YtpnkinhphabkcaaGreatLift8
set_option linter.unusedVariables false
set_option linter.unusedSimpArgs false
set_option linter.ambiguousOpen false
set_option linter.unusedSectionVars false
set_option linter.unnecessarySimpa false
set_option maxRecDepth 100000
set_option maxHeartbeats 40000000
noncomputable section
namespace Go.Proofs.YtpnkinhphabkcaaGreat
open Go Go.E Go.A
def z2c (y2:Relation):Nat→Unit→Option (Unit ⊕ Bool):=fun k1 _=>
 (q7B y2 (k1:Int) (k1:Int)).bind fun y3=>
 if y3=true then (
 some (.inr true)
 ) else (
 some (.inl ())
 )
def q9Q (a0:Relation):Option Bool:=
 (q4k a0).bind fun y1=>
 if y1=true then (
 (q7j a0).bind fun y2=>
 (findN (z2c y2) 0 a0.N.toNat ()).bind <| onr (fun r1=>some r1) fun _=>
 some false
 ) else (
 some false
 )
theorem j1O {m:Md}{a0:Relation}{r:Bool}(hr:q9Q a0=some r):Ok Tryz.prog 30 [Relation.x m a0] [] (dB r) []:=by
 refine OE Tryz.func30 fun S hS=>?_
 unfold q9Q at hr
 refine J g<|J (BX' 0)<|bdE hr fun y1 hy1 hr=>J g<|J (CB' [] [] (q5H (m:=m) hy1))<|J (gn 2)<|ifE hr ?_ ?_<;>intro h1 hr
 refine bdE hr fun y2 hy2 hr=>J g<|J (CB' [(0,1)] [] (z2a (m:=m) hy2))<|J (NV' 2)<|J (gn 8) ?_
 refine q0F (.ag 0 (.tmp 0 rfl) rfl) fun hl1=>?_
 refine bdE hr fun q1 hqq1 hr=>q0q hqq1 3 (fun k1 _=>[(1,.pb 0 0),(3,.pb 2 0),(4,dI (k1:Int))]) (fun k1 _=>[]) I (fun k1 sk1 ok1 hr hltk1 hik1=>?_) fun sk1 ek1=>?_
 refine bdE hr fun y3 hy3 hr=>J g<|J (CB' [] [1] (z3T (m:=.bo) hy3))<|J (gn 1)<|ifE hr ?_ ?_<;>intro h2 hr
 exact e
 exact e
 subst ek1
 exact e
 exact e
def q8T (a0:Relation)(k1:Nat)(xk1:Int):Nat→Int→((List Int))→Option ((List Int)):=fun k2 xk2 s2=>
 (
 (q7B a0 xk1 xk2).bind fun y3=>
 if y3=true then (
 (s2[k1]?).bind fun x1=>
 grd (0≤(k2:Int)∧(k2:Int) < 63) <|
 grd (0≤x1∧0≤((2 ^ (k2:Int).toNat:Nat):Int)) <|
 some (List.set s2 k1 ((x1.toNat ||| ((2 ^ (k2:Int).toNat:Nat):Int).toNat:Nat):Int))
 ) else (
 some s2
 )
 ).bind fun s3=>
 some s3
def q6O (a0:Relation)(a1:(List Int)):Nat→Int→((List Int))→Option ((List Int)):=fun k1 xk1 s1=>
 (eachL (q8T a0 k1 xk1) 0 a1 s1).bind fun s2=>
 some s2
def q5z (a0:Relation)(a1:(List Int)):Option Relation:=
 (q4k a0).bind fun y1=>
 if y1=true then (
 if 16 < (a1.length:Int) then (
 some (⟨0,[]⟩:Relation)
 ) else (
 (q4l (a1.length:Int)).bind fun y2=>
 (eachL (q6O a0 a1) 0 a1 y2.Rows).bind fun s1=>
 some (⟨y2.N,s1⟩:Relation)
 )
 ) else (
 some (⟨0,[]⟩:Relation)
 )
theorem z7Z {m:Md}{a0:Relation}{a1:(List Int)}{r:Relation}(hr:q5z a0 a1=some r):Ok Tryz.prog 34 [Relation.x m a0,.d m (.sl 1 (a1.map (A.D.i .i64)))] [] (.ag [dI r.N,.ref 0 none]) [.row .fz 1 (r.Rows.map (A.D.i .i64))]:=by
 refine OE Tryz.func34 fun S hS=>?_
 unfold q5z at hr
 refine J g<|J (BX' 0)<|J (NV' 1)<|bdE hr fun y1 hy1 hr=>J g<|J (CB' [] [] (q5H (m:=m) hy1))<|J (gn 1)<|ifE hr ?_ ?_<;>intro h1 hr
 refine J (gn 6)<|ifE hr ?_ ?_<;>intro h2 hr
 refine J (gn 7) ?_
 refine J (q0c (q0j (q:=1) (c:=1) (r:=2) .fz 1 rfl rfl rfl))<|J g<|E
 refine bdE hr fun y2 hy2 hr=>J g<|J (CB' [(0,2)] [] (q8A hy2))<|J (NV' 3)<|J (gn 8)<|J (lenT 1)<|fun hl1=>bdE hr fun s1 hqq1 hr=>q0d hqq1 hl1 4 (fun k1 s1=>[(1,.d m (.sl 1 (a1.map (A.D.i .i64)))),(2,.pb 0 0),(4,.pb 1 0),(5,.pb 3 0),(6,dI (k1:Int))]) (fun k1 s1=>[(2,.row .fz 1 (s1.map (A.D.i .i64)))]) I (fun k1 xk1 sk1 ok1 hxk1 hr hltk1=>?_) fun k1 hltk1=>?_
 obtain⟨s1,rfl⟩:∃ y,y=sk1:=⟨_,rfl⟩
 refine J (gn 17)<|J (lenT 1)<|fun hl2=>bdE hr fun s2 hqq2 hr=>q0d hqq2 hl2 4 (fun k2 s2=>[(1,.d m (.sl 1 (a1.map (A.D.i .i64)))),(2,.pb 0 0),(4,.pb 1 0),(5,.pb 3 0),(6,dI (k1:Int)),(7,dI (k2:Int))]) (fun k2 s2=>[(2,.row .fz 1 (s2.map (A.D.i .i64)))]) I (fun k2 xk2 sk2 ok2 hxk2 hr hltk2=>?_) fun k2 hltk2=>?_
 obtain⟨s2,rfl⟩:∃ y,y=sk2:=⟨_,rfl⟩
 refine bdE hr fun s3 hqq3 hr=>J (gn 11)<|q0e 4 [(1,.d m (.sl 1 (a1.map (A.D.i .i64)))),(2,.pb 0 0),(4,.pb 1 0),(5,.pb 3 0),(6,dI (k1:Int)),(7,dI (k2:Int))] [(2,.row .fz 1 (s3.map (A.D.i .i64)))] ?_ ?_
 replace hr:=hqq3
 refine bdE hr fun y3 hy3 hr=>J g<|J (CB' [] [] (z3T (m:=m) hy3))<|J (gn 1)<|ifE hr ?_ ?_<;>intro h3 hr
 refine bdE hr fun x1 hx1 hr=>J g ?_
 refine J (CIU' (Int.natCast_nonneg _) rfl)<|ggE hr fun g1 hr=>J (OB' _ (j5y g1))<|ggE hr fun g2 hr=>J (OB' _ (bOrI g2))<|J g<|J (SE' ((x1.toNat ||| ((2 ^ (k2:Int).toNat:Nat):Int).toNat:Nat):Int) hx1)<|J g<|E
 exact e
 exact e
 exact e
 exact e
 refine J (gn 13) ?_
 refine J (q0c (q0j (q:=1) (c:=1) (r:=2) .fz 1 rfl rfl rfl))<|J g<|E
def q7C (a1:Relation):Nat→((List Int))→Option ((List Int)):=fun k1 s3=>
 (s3[k1]?).bind fun x1=>
 (a1.Rows[k1]?).bind fun x2=>
 grd (0≤x1∧0≤x2) <|
 some (List.set s3 k1 ((x1.toNat ||| x2.toNat:Nat):Int))
def q7k (a0:Relation)(a1:Relation):Option Relation:=
 (q9i a0).bind fun y1=>
 (q4k a0).bind fun y2=>
 (
 if y2=true then (
 (q4k a1).bind fun y3=>
 some (!y3)
 ) else (
 some true
 )
 ).bind fun s1=>
 (
 if s1=true then (
 some true
 ) else (
 some (!(decide (a0.N=a1.N)))
 )
 ).bind fun s2=>
 if s2=true then (
 some y1
 ) else (
 (eachN (q7C a1) 0 a0.N.toNat y1.Rows).bind fun s3=>
 some (⟨y1.N,s3⟩:Relation)
 )
theorem z2d {m:Md}{a0:Relation}{a1:Relation}{r:Relation}(hr:q7k a0 a1=some r):Ok Tryz.prog 33 [Relation.x m a0,Relation.x m a1] [] (.ag [dI r.N,.ref 0 none]) [.row .fz 1 (r.Rows.map (A.D.i .i64))]:=by
 refine OE Tryz.func33 fun S hS=>?_
 unfold q7k at hr
 refine J g<|J (BX' 0)<|J (BX' 1)<|J (NV' 2)<|bdE hr fun y1 hy1 hr=>J g<|J (CB' [(0,3)] [] (z7Y (m:=m) hy1))<|J (NV' 4)<|bdE hr fun y2 hy2 hr=>J g<|J (CB' [] [] (q5H (m:=m) hy2))<|bdE hr fun s1 hqq1 hr=>J (gn 1)<|q0a 5 [(2,.pb 0 0),(3,.pb 1 0),(4,.pb 2 0),(5,.pb 4 0),(16,dB s1)] ?_ ?_
 replace hr:=hqq1
 refine ifE hr ?_ ?_<;>intro h1 hr
 refine bdE hr fun y3 hy3 hr=>J g<|J (CB' [] [] (q5H (m:=m) hy3))<|e
 exact e
 refine bdE hr fun s2 hqq2 hr=>q0a 7 [(2,.pb 0 0),(3,.pb 1 0),(4,.pb 2 0),(5,.pb 4 0),(23,dB s2)] ?_ ?_
 replace hr:=hqq2
 refine ifE hr ?_ ?_<;>intro h2 hr
 exact e
 exact e
 refine J (gn 1)<|ifE hr ?_ ?_<;>intro h3 hr
 exact e
 refine J (gn 8) ?_
 refine q0F (.box 0 0 rfl rfl) fun hl1=>?_
 refine bdE hr fun s3 hqq3 hr=>q0i hqq3 5 (fun k1 s3=>[(2,.pb 0 0),(3,.pb 1 0),(4,.pb 2 0),(5,.pb 4 0),(6,dI (k1:Int))]) (fun k1 s3=>[(3,.row .fz 1 (s3.map (A.D.i .i64)))]) I (fun k1 sk1 ok1 hr hltk1=>?_) ?_
 obtain⟨s3,rfl⟩:∃ y,y=sk1:=⟨_,rfl⟩
 refine bdE hr fun x1 hx1 hr=>bdE hr fun x2 hx2 hr=>ggE hr fun g1 hr=>J g<|J (OB' _ (bOrI g1))<|J g<|J (SE' ((x1.toNat ||| x2.toNat:Nat):Int) hx1)<|e
 exact e
def j9P (a1:(List Int)):Nat→Int→Unit→Option (Unit ⊕ Bool):=fun k1 xk1 _=>
 (a1[k1]?).bind fun x1=>
 if xk1=x1 then (
 some (.inl ())
 ) else (
 some (.inr false)
 )
def z6R (a0:(List Int))(a1:(List Int)):Option Bool:=
 if (a0.length:Int)=(a1.length:Int) then (
 (findL (j9P a1) 0 a0 ()).bind <| onr (fun r1=>some r1) fun _=>
 some true
 ) else (
 some false
 )
theorem j9Q {m:Md}{a0:(List Int)}{a1:(List Int)}{r:Bool}(hr:z6R a0 a1=some r):Ok Tryz.prog 42 [.d m (.sl 1 (a0.map (A.D.i .i64))),.d m (.sl 1 (a1.map (A.D.i .i64)))] [] (dB r) []:=by
 refine OE Tryz.func42 fun S hS=>?_
 unfold z6R at hr
 refine J (gn 13)<|ifE hr ?_ ?_<;>intro h1 hr
 refine J (gn 8)<|J (lenT 0)<|fun hl1=>bdE hr fun q1 hqq1 hr=>q0b hqq1 hl1 0 (fun k1 _=>[(0,.d m (.sl 1 (a0.map (A.D.i .i64)))),(1,.d m (.sl 1 (a1.map (A.D.i .i64)))),(5,dI (k1:Int))]) (fun k1 _=>[]) I (fun k1 xk1 sk1 ok1 hxk1 hr hltk1 hik1=>?_) fun k1 sk1 ek1 hltk1=>?_
 refine bdE hr fun x1 hx1 hr=>J (gn 24)<|ifE hr ?_ ?_<;>intro h2 hr
 exact e
 exact e
 subst ek1
 exact e
 exact e
def q5I (a0:Relation)(a1:Relation):Option Bool:=
 if a0.N=a1.N then (
 (z6R a0.Rows a1.Rows).bind fun y1=>
 some y1
 ) else (
 some false
 )
theorem q9R {m:Md}{a0:Relation}{a1:Relation}{r:Bool}(hr:q5I a0 a1=some r):Ok Tryz.prog 10 [Relation.x m a0,Relation.x m a1] [] (dB r) []:=by
 refine OE Tryz.func10 fun S hS=>?_
 unfold q5I at hr
 refine J g<|J (BX' 0)<|J (BX' 1)<|J (gn 9)<|ifE hr ?_ ?_<;>intro h1 hr
 refine bdE hr fun y1 hy1 hr=>J g<|J (CB' [] [] (j9Q (m:=m) hy1))<|e
 exact e
def z0d (a0:Grammar):Nat→Symbol→((List Relation))→Option ((List Relation)):=fun k1 xk1 s1=>
 (q5e a0 xk1.Name).bind fun y2=>
 (q4l (y2.length:Int)).bind fun y3=>
 grd (((s1.length:Int)+1)*32≤140737488355328∧(s1.length:Int)+1≤9223372036854775807) <|
 some (s1++[y3])
def q6w (a0:Grammar)(xk3:Rule)(y4:Relation):((List Relation) × Bool × Int)→Option (((List Relation) × Bool × Int) ⊕ ((List Relation) × Bool)):=fun (s7,s8,s9)=>
 if s9≤(xk3.Right.length:Int) then (
 (
 (q5s xk3 s9).bind fun y6=>
 (z2v a0 y6).bind fun y7=>
 grd (0≤y7) <|
 (s7[y7.toNat]?).bind fun x1=>
 (q5y a0 xk3 s9).bind fun y8=>
 (q5z y4 y8).bind fun y9=>
 (q7k x1 y9).bind fun y10=>
 if s8=true then (
 some (true,(List.set s7 y7.toNat y10))
 ) else (
 (q5I y10 x1).bind fun y11=>
 some (!y11,(List.set s7 y7.toNat y10))
 )
 ).bind fun (s10,s11)=>
 grd (I64 (s9+1)) <|
 some (.inl (s11,s10,(s9+1)))
 ) else (
 some (.inr (s7,s8))
 )
def q6x (a0:Grammar):Nat→Rule→((List Relation) × Bool)→Option (((List Relation) × Bool) ⊕ ((List Relation) × Bool)):=fun k3 xk3 (s3,s4)=>
 (z5e a0 xk3 s3).bind fun y4=>
 (q9Q y4).bind fun y5=>
 if y5=true then (
 some (.inr ([],false))
 ) else (
 (q4L (q6w a0 xk3 y4) (s3,s4,0)).bind fun (s5,s6)=>
 some (.inl (s5,s6))
 )
def q4Z (a0:Grammar):(List Relation)→Option ((List Relation) ⊕ ((List Relation) × Bool)):=fun s2=>
 (findL (q6x a0) 0 a0.Rules (s2,false)).bind <| onr (fun r2=>some (.inr r2)) fun (s3,s4)=>
 if s4=true then (
 some (.inl s3)
 ) else (
 some (.inr (s3,true))
 )
def q7O (a0:Grammar):Option ((List Relation) × Bool):=
 (z3S a0).bind fun y1=>
 if y1=true then (
 (eachL (z0d a0) 0 a0.Symbols ([]:List Relation)).bind fun s1=>
 (q4L (q4Z a0) s1).bind fun r1=>some r1
 ) else (
 some ([],false)
 )
theorem z7x {m:Md}{a0:Grammar}{r:((List Relation) × Bool)}(hr:q7O a0=some r):Ok Tryz.prog 7 [Grammar.x m a0] [] (.tu [.ref 0 none,dB r.2]) [.row .fz 2 (r.1.map Relation.D)]:=by
 refine OE Tryz.func7 fun S hS=>?_
 unfold q7O at hr
 refine J g<|J (BX' 0)<|bdE hr fun y1 hy1 hr=>J g<|J (CB' [] [] (j5Z (m:=m) hy1))<|J (gn 2)<|ifE hr ?_ ?_<;>intro h1 hr
 refine J g<|J (L0' 1 Relation.D)<|J (gn 8)<|J (lenA 0 0)<|fun hl1=>bdE hr fun s1 hqq1 hr=>q0d hqq1 hl1 2 (fun k1 s1=>[(1,.pb 0 0),(4,.ref 1 none),(5,dI (k1:Int))]) (fun k1 s1=>[(1,.row .fz 2 (s1.map Relation.D))]) I (fun k1 xk1 sk1 ok1 hxk1 hr hltk1=>?_) fun k1 hltk1=>?_
 obtain⟨s1,rfl⟩:∃ y,y=sk1:=⟨_,rfl⟩
 refine bdE hr fun y2 hy2 hr=>J g<|J (CB' [(0,2)] [] (q8S (m:=m) hy2))<|bdE hr fun y3 hy3 hr=>J g<|J (CBz' 3 [(0,3)] [] (q8A hy3))<|J (LIR' 4 (m:=.fz) (f:=Relation.D) (xs:=[y3]))<|ggE hr fun g1 hr=>J (AP1' 5 .fz 32 g1)<|J (q0o .refl)<|e
 refine bdE hr fun q2 hqq2 hr=>J g<|q0h hqq2 2 (fun s2=>[(1,.pb 0 0),(4,.ref 1 none)]) (fun s2=>[(1,.row .fz 2 (s2.map Relation.D))]) I fun sk2 ok2 hr hik2=>?_
 obtain⟨s2,rfl⟩:∃ y,y=sk2:=⟨_,rfl⟩
 refine J (gn 11) ?_
 refine AW.len (.box 0 1 rfl rfl) fun hl3=>?_
 refine bdE hr fun q3 hqq3 hr=>q0b hqq3 hl3 2 (fun k3 (s3,s4)=>[(1,.pb 0 0),(4,.ref 1 none),(6,dB s4),(7,dI (k3:Int))]) (fun k3 (s3,s4)=>[(1,.row .fz 2 (s3.map Relation.D))]) I (fun k3 xk3 sk3 ok3 hxk3 hr hltk3 hik3=>?_) fun k3 sk3 ek3 hltk3=>?_
 obtain⟨s3,s4⟩:=sk3
 refine J g<|J (NV' 2)<|bdE hr fun y4 hy4 hr=>J g<|J (CB' [(0,3)] [1] (j7x (m:=.bo) hy4))<|J (NV' 4)<|bdE hr fun y5 hy5 hr=>J g<|J (CB' [] [3] (j1O (m:=.bo) hy5))<|J (gn 1)<|ifE hr ?_ ?_<;>intro h2 hr
 refine J g<|J (L0' 5 Relation.D)<|e
 refine bdP hr fun s5 s6 hqq4 hr=>J (gn 6)<|q0e 5 [(1,.pb 0 0),(4,.ref 1 none),(6,dB s6),(7,dI (k3:Int))] [(1,.row .fz 2 (s5.map Relation.D))] ?_ ?_
 refine J g<|q0h hqq4 5 (fun (s7,s8,s9)=>[(1,.pb 0 0),(4,.ref 1 none),(6,dB s8),(7,dI (k3:Int)),(8,.pb 2 0),(9,.pb 4 0),(10,dI s9)]) (fun (s7,s8,s9)=>[(1,.row .fz 2 (s7.map Relation.D))]) I fun sk4 ok4 hr hik4=>?_
 obtain⟨s7,s8,s9⟩:=sk4
 have hr:=hr
 refine J (gn 9)<|ifE hr ?_ ?_<;>intro h3 hr
 refine bdP hr fun s10 s11 hqq5 hr=>J (gn 3)<|q0e 5 [(1,.pb 0 0),(4,.ref 1 none),(6,dB s10),(7,dI (k3:Int)),(8,.pb 2 0),(9,.pb 4 0),(10,dI s9)] [(1,.row .fz 2 (s11.map Relation.D))] ?_ ?_
 replace hr:=hqq5
 refine bdE hr fun y6 hy6 hr=>J g<|J (CB' [] [] (q7v (m:=m) hy6))<|bdE hr fun y7 hy7 hr=>J (CB' [] [] (z5b (m:=m) hy7))<|ggE hr fun g2 hr=>bdE hr fun x1 hx1 hr=>bdE hr fun y8 hy8 hr=>J g<|J (CB' [(0,5)] [] (z0I (m:=m) hy8))<|bdE hr fun y9 hy9 hr=>J (CB' [(0,6)] [3,5] (z7Z (m:=.bo) hy9))<|bdE hr fun y10 hy10 hr=>J (CB' [(0,7)] [6] (z2d (m:=.bo) hy10))<|J (NV' 8)<|J (gn 5)<|ifE hr ?_ ?_<;>intro h4 hr
 refine J (gn 9)<|J (q0o .refl)<|J (gn 7) ?_
 refine J (q0k 7 rfl)<|J (SE' y10 hx1)<|J g<|E
 refine bdE hr fun y11 hy11 hr=>J g<|J (CB' [] [7] (q9R (m:=.bo) hy11))<|J (gn 2)<|J (q0o .refl)<|J (gn 7) ?_
 refine J (q0k 7 rfl)<|J (SE' y10 hx1)<|J g<|E
 refine ggE hr fun g3 hr=>e
 refine J (gn 2) ?_
 cases hr
 cases hik4 _ rfl
 exact q0g hS 5
 exact e
 subst ek3
 obtain⟨s3,s4⟩:=sk3
 refine J (gn 16)<|ifE hr ?_ ?_<;>intro h5 hr
 exact e
 exact e
 refine J g<|J (L0' 1 Relation.D)<|e
def z0e (a1:Bool):Nat→Bool→Unit→Option (Unit ⊕ Int):=fun k1 xk1 _=>
 if a1=xk1 then (
 some (.inr (k1:Int))
 ) else (
 some (.inl ())
 )
def q7P (a0:(List Bool))(a1:Bool):Option Int:=
 (findL (z0e a1) 0 a0 ()).bind <| onr (fun r1=>some r1) fun _=>
 some (-1)
theorem z7y {m:Md}{a0:(List Bool)}{a1:Bool}{r:Int}(hr:q7P a0 a1=some r):Ok Tryz.prog 115 [.d m (.sl 1 (a0.map A.D.b)),dB a1] [] (dI r) []:=by
 refine OE Tryz.func115 fun S hS=>?_
 unfold q7P at hr
 refine J (gn 12)<|J (lenT 0)<|fun hl1=>bdE hr fun q1 hqq1 hr=>q0b hqq1 hl1 0 (fun k1 _=>[(0,.d m (.sl 1 (a0.map A.D.b))),(1,dB a1),(7,dI (a0.length:Int)),(8,dI (k1:Int))]) (fun k1 _=>[]) I (fun k1 xk1 sk1 ok1 hxk1 hr hltk1 hik1=>?_) fun k1 sk1 ek1 hltk1=>?_
 refine J g ?_
 refine J (BQ' rfl rfl)<|J (gn 1)<|ifE hr ?_ ?_<;>intro h1 hr
 exact e
 exact e
 subst ek1
 exact e
def q5S (a0:(List Bool))(a1:Bool):Option Bool:=
 (q7P a0 a1).bind fun y1=>
 some (decide (0≤y1))
theorem z5J {m:Md}{a0:(List Bool)}{a1:Bool}{r:Bool}(hr:q5S a0 a1=some r):Ok Tryz.prog 79 [.d m (.sl 1 (a0.map A.D.b)),dB a1] [] (dB r) []:=by
 refine OE Tryz.func79 fun S hS=>?_
 unfold q5S at hr
 refine bdE hr fun y1 hy1 hr=>J g<|J (CB' [] [] (z7y (m:=m) hy1))<|e
def z4A (a0:Int)(a2:Relation)(a3:(List Bool)):Nat→Attribute→Unit→Option (Unit ⊕ Bool):=fun k1 xk1 _=>
 (q9g a2 (k1:Int) a0).bind fun y1=>
 if y1=true then (
 (a3[k1]?).bind fun x1=>
 if x1=true then (
 some (.inl ())
 ) else (
 some (.inr false)
 )
 ) else (
 some (.inl ())
 )
def q9S (a0:Int)(a1:(List Attribute))(a2:Relation)(a3:(List Bool)):Option Bool:=
 (findL (z4A a0 a2 a3) 0 a1 ()).bind <| onr (fun r1=>some r1) fun _=>
 some true
theorem j2N {m2:Md}{a0:Int}{a1:(List Attribute)}{a2:Relation}{a3:(List Bool)}{r:Bool}(hr:q9S a0 a1 a2 a3=some r):Ok Tryz.prog 77 [dI a0,.pb 0 0,.pb 1 0,.pb 2 0] [.box [.d m2 (.sl 4 (a1.map Attribute.D))],.box [dI a2.N,.d m2 (.sl 1 (a2.Rows.map (A.D.i .i64)))],.box [.ref 3 none],.row .fz 1 (a3.map A.D.b)] (dB r) [.box [.d m2 (.sl 4 (a1.map Attribute.D))],.box [dI a2.N,.d m2 (.sl 1 (a2.Rows.map (A.D.i .i64)))],.box [.ref 3 none],.row .fz 1 (a3.map A.D.b)]:=by
 refine OE Tryz.func77 fun S hS=>?_
 unfold q9S at hr
 refine J (gn 12)<|J (lenT 7)<|fun hl1=>bdE hr fun q1 hqq1 hr=>q0b hqq1 hl1 4 (fun k1 _=>[(0,dI a0),(2,.pb 1 0),(3,.pb 2 0),(8,dI (a1.length:Int)),(9,dI (k1:Int))]) (fun k1 _=>[]) I (fun k1 xk1 sk1 ok1 hxk1 hr hltk1 hik1=>?_) fun k1 sk1 ek1 hltk1=>?_
 refine bdE hr fun y1 hy1 hr=>J g<|J (CB' [] [] (z5F (m:=m2) hy1))<|ifE hr ?_ ?_<;>intro h1 hr
 refine bdE hr fun x1 hx1 hr=>J (gn 8)<|ifE hr ?_ ?_<;>intro h2 hr
 exact e
 exact e
 exact e
 subst ek1
 exact e
def q3K (a0:Int)(o0:(List Attribute))(o1:Relation):((List ByteArray) × Int × (List Bool))→Option (((List ByteArray) × Int × (List Bool)) ⊕ ((List ByteArray) × (List Bool))):=fun (s3,s4,s5)=>
 if s4 < (o0.length:Int) then (
 (
 grd (0≤s4) <|
 (o0[s4.toNat]?).bind fun x1=>
 (
 if x1.Mode=a0 then (
 grd (0≤s4) <|
 (s5[s4.toNat]?).bind fun x2=>
 some (!x2)
 ) else (
 some false
 )
 ).bind fun s9=>
 (
 if s9=true then (
 (q9S s4 o0 o1 s5).bind fun y1=>
 some y1
 ) else (
 some false
 )
 ).bind fun s10=>
 if s10=true then (
 grd (((s3.length:Int)+1)*16≤140737488355328∧(s3.length:Int)+1≤9223372036854775807) <|
 grd (0≤s4) <|
 (s5[s4.toNat]?).bind fun x3=>
 some ((s3++[x1.Name]),(-1),(List.set s5 s4.toNat true))
 ) else (
 some (s3,s4,s5)
 )
 ).bind fun (s6,s7,s8)=>
 grd (I64 (s7+1)) <|
 some (.inl (s6,(s7+1),s8))
 ) else (
 some (.inr (s3,s5))
 )
def q4u (a0:Int)(o0:(List Attribute))(o1:Relation)(o2:(List Bool)):Option ((List ByteArray) × (List Bool)):=
 (q4L (q3K a0 o0 o1) (([]:List ByteArray),0,o2)).bind fun (s1,s2)=>
 some (s1,s2)
theorem q9X {m2:Md}{a0:Int}{o0:(List Attribute)}{o1:Relation}{o2:(List Bool)}{r:((List ByteArray) × (List Bool))}(hr:q4u a0 o0 o1 o2=some r):Ok Tryz.prog 78 [dI a0,.pb 0 0,.pb 2 0,.pb 3 0] [.box [.d m2 (.sl 4 (o0.map Attribute.D))],.box [dI o1.N,.d m2 (.sl 1 (o1.Rows.map (A.D.i .i64)))],.box [.ref 4 none],.box [.fn 77 [.pb 0 0,.pb 1 0,.pb 2 0]],.row .fz 1 (o2.map A.D.b)] (.ref 5 none) [.box [.d m2 (.sl 4 (o0.map Attribute.D))],.box [dI o1.N,.d m2 (.sl 1 (o1.Rows.map (A.D.i .i64)))],.box [.ref 4 none],.box [.fn 77 [.pb 0 0,.pb 1 0,.pb 2 0]],.row .fz 1 (r.2.map A.D.b),.row .fz 1 (r.1.map A.D.s)]:=by
 refine OE Tryz.func78 fun S hS=>?_
 unfold q4u at hr
 refine J g<|J (L0' 5 A.D.s)<|bdP hr fun s1 s2 hqq1 hr=>J (gn 7)<|q0e 6 [(6,.ref 5 none)] [(4,.row .fz 1 (s2.map A.D.b)),(5,.row .fz 1 (s1.map A.D.s))] ?_ ?_
 refine J g<|q0h hqq1 6 (fun (s3,s4,s5)=>[(0,dI a0),(1,.pb 0 0),(2,.pb 2 0),(3,.pb 3 0),(6,.ref 5 none),(7,dI s4)]) (fun (s3,s4,s5)=>[(4,.row .fz 1 (s5.map A.D.b)),(5,.row .fz 1 (s3.map A.D.s))]) I fun sk1 ok1 hr hik1=>?_
 obtain⟨s3,s4,s5⟩:=sk1
 have hr:=hr
 refine J (gn 8)<|ifE hr ?_ ?_<;>intro h1 hr
 refine bdT hr fun s6 s7 s8 hqq2 hr=>J (gn 3)<|q0e 6 [(0,dI a0),(1,.pb 0 0),(2,.pb 2 0),(3,.pb 3 0),(6,.ref 5 none),(7,dI s7)] [(4,.row .fz 1 (s8.map A.D.b)),(5,.row .fz 1 (s6.map A.D.s))] ?_ ?_
 replace hr:=hqq2
 refine ggE hr fun g1 hr=>bdE hr fun x1 hx1 hr=>bdE hr fun s9 hqq3 hr=>J (gn 10)<|q0a 7 [(0,dI a0),(1,.pb 0 0),(2,.pb 2 0),(3,.pb 3 0),(6,.ref 5 none),(7,dI s4),(28,dB s9)] ?_ ?_
 replace hr:=hqq3
 refine ifE hr ?_ ?_<;>intro h2 hr
 refine ggE hr fun g2 hr=>bdE hr fun x2 hx2 hr=>e
 exact e
 refine bdE hr fun s10 hqq4 hr=>q0a 5 [(0,dI a0),(1,.pb 0 0),(2,.pb 2 0),(3,.pb 3 0),(6,.ref 5 none),(7,dI s4),(33,dB s10)] ?_ ?_
 replace hr:=hqq4
 refine ifE hr ?_ ?_<;>intro h3 hr
 refine bdE hr fun y1 hy1 hr=>J g<|J (CB' [(0,0),(1,1),(2,2),(3,4)] [] (j2N (m2:=m2) hy1))<|e
 exact e
 refine J (gn 1)<|ifE hr ?_ ?_<;>intro h4 hr
 refine J g<|J (LIR' 6 (m:=.fz) (f:=A.D.s) (xs:=[x1.Name]))<|ggE hr fun g3 hr=>J (q9Z (f:=A.D.s) 7 (fun _=>rfl) 16 g3)<|ggE hr fun g4 hr=>bdE hr fun x3 hx3 hr=>J g<|J (SE' true hx3)<|e
 exact e
 refine ggE hr fun g5 hr=>e
 refine J (gn 2) ?_
 cases hr
 cases hik1 _ rfl
 exact q0g hS 6
 exact e
def z0O (a0:(List Attribute))(a1:Relation):((List Phase) × (List Bool))→Option (((List Phase) × (List Bool)) ⊕ (((List Phase) × (List Bool)) ⊕ ((List Phase) × Bool))):=fun (s5,s6)=>
 (
 if (s5.length:Int)=0 then (
 some true
 ) else (
 (q5S s6 false).bind fun y3=>
 some y3
 )
 ).bind fun s7=>
 if s7=true then (
 (q4u 1 a0 a1 s6).bind fun (y4,z1)=>
 (q4u 2 a0 a1 z1).bind fun (y5,z2)=>
 (
 if 0 < (a0.length:Int) then (
 grd (I64 ((y4.length+y5.length:Nat):Int)) <|
 some (decide (((y4.length+y5.length:Nat):Int)=0))
 ) else (
 some false
 )
 ).bind fun s8=>
 if s8=true then (
 some (.inr (.inr ([],false)))
 ) else (
 grd (((s5.length:Int)+1)*48≤140737488355328∧(s5.length:Int)+1≤9223372036854775807) <|
 some (.inl ((s5++[(⟨y4,y5⟩:Phase)]),z2))
 )
 ) else (
 some (.inr (.inl (s5,s6)))
 )
def z3U (a0:(List Attribute))(a1:Relation):Option ((List Phase) × Bool):=
 (q4Q a1).bind fun y1=>
 (
 if y1=true then (
 some (!(decide (a1.N=(a0.length:Int))))
 ) else (
 some true
 )
 ).bind fun s1=>
 (
 if s1=true then (
 some true
 ) else (
 (z1U a1).bind fun y2=>
 some y2
 )
 ).bind fun s2=>
 if s2=true then (
 some ([],false)
 ) else (
 grd (0≤(a0.length:Int)∧(a0.length:Int)*1≤281474976710656∧(a0.length:Int)≤9223372036854775807) <|
 (q4L (z0O a0 a1) (([]:List Phase),(List.replicate a0.length false))).bind <| onr (fun r1=>some r1) fun (s3,s4)=>
 some (s3,true)
 )
theorem j6a {m:Md}{a0:(List Attribute)}{a1:Relation}{r:((List Phase) × Bool)}(hr:z3U a0 a1=some r):Ok Tryz.prog 36 [.d m (.sl 4 (a0.map Attribute.D)),Relation.x m a1] [] (.tu [.ref 0 none,dB r.2]) [.row .fz 2 (r.1.map Phase.D)]:=by
 refine OE Tryz.func36 fun S hS=>?_
 unfold z3U at hr
 refine J g<|J (BX' 0)<|J (BX' 1)<|bdE hr fun y1 hy1 hr=>J g<|J (CB' [] [] (q6c (m:=m) hy1))<|bdE hr fun s1 hqq1 hr=>J (gn 1)<|q0a 7 [(2,.pb 0 0),(3,.pb 1 0),(20,dB s1)] ?_ ?_
 replace hr:=hqq1
 refine ifE hr ?_ ?_<;>intro h1 hr
 exact e
 exact e
 refine bdE hr fun s2 hqq2 hr=>q0a 4 [(2,.pb 0 0),(3,.pb 1 0),(24,dB s2)] ?_ ?_
 replace hr:=hqq2
 refine ifE hr ?_ ?_<;>intro h2 hr
 exact e
 refine bdE hr fun y2 hy2 hr=>J g<|J (CB' [] [] (j1F (m:=m) hy2))<|e
 refine J (gn 1)<|ifE hr ?_ ?_<;>intro h3 hr
 refine J (gn 7) ?_
 refine J (q0c (q0p (t:=4) (r:=2) .fz 2 rfl rfl))<|J g<|E
 refine J g<|J (L0' 2 Phase.D)<|ggE hr fun g1 hr=>J g<|J (MKR' 3 (f:=A.D.b) false g1.1 g1.2.1 g1.2.2)<|J (NV' 4)<|J g<|J (NV' 5)<|bdE hr fun q3 hqq3 hr=>J (gn 8)<|AW.cut 6 (fun (s3,s4)=>[(6,.ref 2 none)]) (fun (s3,s4)=>[(2,.row .fz 2 (s3.map Phase.D)),(3,.row .fz 1 (s4.map A.D.b))]) (M:=fun x=>q3 = .inl x) ?_ fun x hx=>?_
 refine J g<|q0h hqq3 6 (fun (s5,s6)=>[(2,.pb 0 0),(6,.ref 2 none),(7,.pb 4 0),(9,.fn 78 [.pb 0 0,.pb 4 0,.pb 5 0])]) (fun (s5,s6)=>[(2,.row .fz 2 (s5.map Phase.D)),(3,.row .fz 1 (s6.map A.D.b))]) I fun sk1 ok1 hr hik1=>?_
 obtain⟨s5,s6⟩:=sk1
 have hr:=hr
 refine bdE hr fun s7 hqq4 hr=>J (gn 6)<|q0a 4 [(2,.pb 0 0),(6,.ref 2 none),(7,.pb 4 0),(9,.fn 78 [.pb 0 0,.pb 4 0,.pb 5 0]),(37,dB s7)] ?_ ?_
 replace hr:=hqq4
 refine ifE hr ?_ ?_<;>intro h4 hr
 exact e
 refine bdE hr fun y3 hy3 hr=>J g<|J (CB' [] [3] (z5J (m:=.bo) hy3))<|e
 refine J (gn 1)<|ifE hr ?_ ?_<;>intro h5 hr
 refine bdP hr fun y4 z1 hq5 hr=>J g<|J (CB' [(0,0),(1,1),(2,4),(3,5),(4,3),(5,6)] [] (q9X (m2:=m) hq5))<|J g<|J (NV' 7)<|bdP hr fun y5 z2 hq6 hr=>J g<|J (CB' [(0,0),(1,1),(2,4),(3,5),(4,3),(5,8)] [] (q9X (m2:=m) hq6))<|bdE hr fun s8 hqq7 hr=>J (gn 9)<|q0a 10 [(2,.pb 0 0),(6,.ref 2 none),(7,.pb 4 0),(9,.fn 78 [.pb 0 0,.pb 4 0,.pb 5 0]),(10,.pb 7 0),(56,dB s8)] ?_ ?_
 replace hr:=hqq7
 refine ifE hr ?_ ?_<;>intro h6 hr
 refine ggE hr fun g2 hr=>J g<|J (OB' _ (z8o (p:=y4.length) (q:=y5.length) g2))<|e
 exact e
 refine J (gn 1)<|ifE hr ?_ ?_<;>intro h7 hr
 refine J (gn 7) ?_
 refine J (q0c (q0p (t:=4) (r:=9) .fz 2 rfl rfl))<|J g<|E
 refine J (gn 5) ?_
 refine J (q0k 6 rfl) ?_
 refine J (q0k 8 rfl)<|J (LIR' 9 (m:=.fz) (f:=Phase.D) (xs:=[(⟨y4,y5⟩:Phase)]))<|ggE hr fun g3 hr=>J (AP1' 10 .fz 48 g3)<|J g<|E
 refine J (gn 2) ?_
 cases hr
 cases hik1 _ rfl
 exact⟨_,rfl,q0g hS 6⟩
 subst hx
 obtain⟨s3,s4⟩:=x
 exact e
def q9c (a0:Grammar)(y1:(List Relation)):Nat→Symbol→((List (List Phase)))→Option (((List (List Phase))) ⊕ ((List (List Phase)) × Bool)):=fun k1 xk1 s1=>
 (q4j a0 xk1.Name).bind fun y3=>
 (y1[k1]?).bind fun x1=>
 (z3U y3 x1).bind fun (y4,y5)=>
 if y5=true then (
 grd (((s1.length:Int)+1)*24≤140737488355328∧(s1.length:Int)+1≤9223372036854775807) <|
 some (.inl (s1++[y4]))
 ) else (
 some (.inr ([],false))
 )
def q9E (a0:Grammar):Option ((List (List Phase)) × Bool):=
 (q6d a0).bind fun (y1,y2)=>
 if y2=true then (
 (findL (q9c a0 y1) 0 a0.Symbols ([]:List (List Phase))).bind <| onr (fun r1=>some r1) fun s1=>
 some (s1,true)
 ) else (
 some ([],false)
 )
theorem j0p {m:Md}{a0:Grammar}{r:((List (List Phase)) × Bool)}(hr:q9E a0=some r):Ok Tryz.prog 8 [Grammar.x m a0] [] (.tu [.ref 0 none,dB r.2]) [.row .fz 1 (r.1.map (fun (l:List Phase)=>A.D.sl 2 (l.map Phase.D)))]:=by
 refine OE Tryz.func8 fun S hS=>?_
 unfold q9E at hr
 refine J g<|J (BX' 0)<|bdP hr fun y1 y2 hq1 hr=>J g<|J (CB' [(0,1)] [] (z2W (m:=m) hq1))<|J (gn 12)<|ifE hr ?_ ?_<;>intro h1 hr
 refine J g<|J (L0' 2 (fun (l:List Phase)=>A.D.sl 2 (l.map Phase.D)))<|J (gn 11)<|J (lenA 0 0)<|fun hl1=>bdE hr fun q2 hqq2 hr=>q0b hqq2 hl1 3 (fun k1 s1=>[(1,.pb 0 0),(4,.ref 1 none),(6,.ref 2 none),(20,.d m (.sl 2 (a0.Symbols.map Symbol.D))),(21,dI (a0.Symbols.length:Int)),(22,dI (k1:Int))]) (fun k1 s1=>[(2,.row .fz 1 (s1.map (fun (l:List Phase)=>A.D.sl 2 (l.map Phase.D))))]) I (fun k1 xk1 sk1 ok1 hxk1 hr hltk1 hik1=>?_) fun k1 sk1 ek1 hltk1=>?_
 obtain⟨s1,rfl⟩:∃ y,y=sk1:=⟨_,rfl⟩
 refine J g<|J (NV' 3)<|bdE hr fun y3 hy3 hr=>J g<|J (CB' [(0,4)] [] (z0D (m:=m) hy3))<|bdE hr fun x1 hx1 hr=>bdP hr fun y4 y5 hq3 hr=>J g<|J (CB' [(0,5)] [4] (j6a (m:=.bo) hq3))<|J (gn 12)<|ifE hr ?_ ?_<;>intro h2 hr
 refine J (gn 5) ?_
 refine J (q0k 5 rfl)<|J (LIR' 6 (m:=.fz) (f:=(fun (l:List Phase)=>A.D.sl 2 (l.map Phase.D))) (xs:=[y4]))<|ggE hr fun g1 hr=>J (AP1' 7 .fz 24 g1)<|J g<|E
 refine J (gn 7) ?_
 refine J (q0c (q0p (t:=2) (r:=6) .fz 1 rfl rfl))<|J g<|E
 subst ek1
 obtain⟨s1,rfl⟩:∃ y,y=sk1:=⟨_,rfl⟩
 exact e
 refine J (gn 7) ?_
 refine J (q0c (q0p (t:=2) (r:=2) .fz 1 rfl rfl))<|J g<|E
def j1P (a0:Grammar)(a2:(List Relation)):Nat→ByteArray→((List Relation))→Option ((List Relation)):=fun k1 xk1 s1=>
 (z2v a0 xk1).bind fun y1=>
 (z0r 0 y1).bind fun y2=>
 grd (0≤y2) <|
 (a2[y2.toNat]?).bind fun x1=>
 grd (((s1.length:Int)+1)*32≤140737488355328∧(s1.length:Int)+1≤9223372036854775807) <|
 some (s1++[x1])
def z3r (a0:Grammar)(a1:Rule)(a2:(List Relation)):Option (List Relation):=
 (eachL (j1P a0 a2) 0 a1.Right ([]:List Relation)).bind fun s1=>
 some s1
theorem j1Q {m:Md}{m2:Md}{a0:Grammar}{a1:Rule}{a2:(List Relation)}{r:(List Relation)}(hr:z3r a0 a1 a2=some r):Ok Tryz.prog 41 [Grammar.y m a0,Rule.x m a1,.ref 0 none] [.row m2 2 (a2.map Relation.D)] (.ref 1 none) [.row m2 2 (a2.map Relation.D),.row m2 2 (r.map Relation.D)]:=by
 refine OE Tryz.func41 fun S hS=>?_
 unfold z3r at hr
 refine J g<|J (BX' 1)<|J (BX' 2)<|J g<|J (L0' 3 Relation.D)<|J (gn 8)<|J (lenA 2 1)<|fun hl1=>bdE hr fun s1 hqq1 hr=>?_
 refine q0d hqq1 hl1 4 (fun k1 s1=>[(2,.ref 0 none),(3,.pb 1 0),(4,.pb 2 0),(7,.ref 3 none),(8,dI (k1:Int))]) (fun k1 s1=>[(3,.row m2 2 (s1.map Relation.D))]) (GH.trans (q2c (r:=3) m2 rfl) I) (fun k1 xk1 sk1 ok1 hxk1 hr hltk1=>?_) fun k1 hltk1=>?_
 obtain⟨s1,rfl⟩:∃ y,y=sk1:=⟨_,rfl⟩
 refine bdE hr fun y1 hy1 hr=>J g<|J (CB' [] [] (z5b (m:=m) hy1))<|bdE hr fun y2 hy2 hr=>J (CB' [] [] (z6o hy2))<|ggE hr fun g1 hr=>bdE hr fun x1 hx1 hr=>J g ?_
 refine J (k3e 4 (m:=m2) (f:=Relation.D) [x1] rfl)<|ggE hr fun g2 hr=>J (AP1' 5 m2 32 g2)<|J (q0o .refl)<|J g<|E
 exact e
def z1u (xk1:Relation)(k2:Nat)(xk2:Int):Nat→Int→((List Int) × Int)→Option ((List Int) × Int):=fun k3 xk3 (s6,s7)=>
 (
 (q7B xk1 (k2:Int) (k3:Int)).bind fun y5=>
 if y5=true then (
 (q6Y (⟨s7,s6⟩:Relation) xk2 xk3).bind fun y6=>
 some (y6.Rows,y6.N)
 ) else (
 some (s6,s7)
 )
 ).bind fun (s8,s9)=>
 some (s8,s9)
def z1v (xk1:Relation)(y3:(List Int)):Nat→Int→((List Int) × Int)→Option ((List Int) × Int):=fun k2 xk2 (s4,s5)=>
 (eachL (z1u xk1 k2 xk2) 0 y3 (s4,s5)).bind fun (s6,s7)=>
 some (s6,s7)
def z1w (a0:Grammar)(a1:Rule):Nat→Relation→((List Int) × Int)→Option (((List Int) × Int) ⊕ Relation):=fun k1 xk1 (s2,s3)=>
 (q5y a0 a1 ((k1+1:Nat):Int)).bind fun y3=>
 (q4k xk1).bind fun y4=>
 if y4=true then (
 if xk1.N=(y3.length:Int) then (
 (eachL (z1v xk1 y3) 0 y3 (s2,s3)).bind fun (s4,s5)=>
 some (.inl (s4,s5))
 ) else (
 some (.inr (⟨0,[]⟩:Relation))
 )
 ) else (
 some (.inr (⟨0,[]⟩:Relation))
 )
def q9j (a0:Grammar)(a1:Rule)(a2:(List Relation)):Option Relation:=
 (q6a a0 a1).bind fun y1=>
 (
 if (a2.length:Int)=(a1.Right.length:Int) then (
 some (decide (16 < (y1.length:Int)))
 ) else (
 some true
 )
 ).bind fun s1=>
 if s1=true then (
 some (⟨0,[]⟩:Relation)
 ) else (
 (q6B a0 a1).bind fun y2=>
 (findL (z1w a0 a1) 0 a2 (y2.Rows,y2.N)).bind <| onr (fun r1=>some r1) fun (s2,s3)=>
 (q7j (⟨s3,s2⟩:Relation)).bind fun y7=>
 some y7
 )
theorem z6S {m:Md}{a0:Grammar}{a1:Rule}{a2:(List Relation)}{r:Relation}(hr:q9j a0 a1 a2=some r):Ok Tryz.prog 40 [Grammar.y m a0,Rule.x m a1,.d m (.sl 2 (a2.map Relation.D))] [] (.ag [dI r.N,.ref 0 none]) [.row .fz 1 (r.Rows.map (A.D.i .i64))]:=by
 refine OE Tryz.func40 fun S hS=>?_
 unfold q9j at hr
 refine J g<|J (BX' 0)<|J (BX' 1)<|J (NV' 2)<|bdE hr fun y1 hy1 hr=>J g<|J (CB' [(0,3)] [] (z1Y (m:=m) hy1))<|bdE hr fun s1 hqq1 hr=>J (gn 11)<|q0a 5 [(2,.d m (.sl 2 (a2.map Relation.D))),(3,.pb 0 0),(4,.pb 1 0),(6,.pb 2 0),(26,dB s1)] ?_ ?_
 replace hr:=hqq1
 refine ifE hr ?_ ?_<;>intro h1 hr
 exact e
 exact e
 refine J (gn 1)<|ifE hr ?_ ?_<;>intro h2 hr
 refine J (gn 7) ?_
 refine J (q0c (q0j (q:=2) (c:=1) (r:=4) .fz 1 rfl rfl rfl))<|J g<|E
 refine bdE hr fun y2 hy2 hr=>J g<|J (CB' [(0,4)] [] (z5d (m:=m) hy2))<|J (NV' 5)<|J (gn 8)<|J (lenT 2)<|fun hl1=>bdE hr fun q2 hqq2 hr=>q0b hqq2 hl1 6 (fun k1 (s2,s3)=>[(2,.d m (.sl 2 (a2.map Relation.D))),(3,.pb 0 0),(4,.pb 1 0),(6,.pb 2 0),(8,.pb 5 0),(9,dI (k1:Int))]) (fun k1 (s2,s3)=>[(4,.row .fz 1 (s2.map (A.D.i .i64))),(5,.box [dI s3,.ref 4 none])]) I (fun k1 xk1 sk1 ok1 hxk1 hr hltk1 hik1=>?_) fun k1 sk1 ek1 hltk1=>?_
 obtain⟨s2,s3⟩:=sk1
 refine bdE hr fun y3 hy3 hr=>J g<|J (CB' [(0,6)] [] (z0I (m:=m) hy3))<|bdE hr fun y4 hy4 hr=>J g<|J (CB' [] [] (q5H (m:=m) hy4))<|J (gn 1)<|ifE hr ?_ ?_<;>intro h3 hr
 refine J (gn 11)<|ifE hr ?_ ?_<;>intro h4 hr
 refine J (gn 7)<|J (lenR 6)<|fun hl2=>bdP hr fun s4 s5 hqq3 hr=>q0d hqq3 hl2 7 (fun k2 (s4,s5)=>[(2,.d m (.sl 2 (a2.map Relation.D))),(3,.pb 0 0),(4,.pb 1 0),(6,.pb 2 0),(8,.pb 5 0),(9,dI (k1:Int)),(10,.ref 6 none),(11,dI (k2:Int)),(49,.d m (.sl 2 (a2.map Relation.D))),(50,dI (k1:Int)),(51,.pf m (Relation.l xk1)),(52,.pf m (Relation.l xk1)),(53,dI xk1.N),(54,.ref 6 none),(55,dI (y3.length:Int)),(56,dB (!(decide (xk1.N=(y3.length:Int)))))]) (fun k2 (s4,s5)=>[(4,.row .fz 1 (s4.map (A.D.i .i64))),(5,.box [dI s5,.ref 4 none])]) I (fun k2 xk2 sk2 ok2 hxk2 hr hltk2=>?_) fun k2 hltk2=>?_
 obtain⟨s4,s5⟩:=sk2
 refine J (gn 17)<|J (lenR 6)<|fun hl3=>bdP hr fun s6 s7 hqq4 hr=>q0d hqq4 hl3 7 (fun k3 (s6,s7)=>[(2,.d m (.sl 2 (a2.map Relation.D))),(3,.pb 0 0),(4,.pb 1 0),(6,.pb 2 0),(8,.pb 5 0),(9,dI (k1:Int)),(10,.ref 6 none),(11,dI (k2:Int)),(12,dI (k3:Int)),(49,.d m (.sl 2 (a2.map Relation.D))),(50,dI (k1:Int)),(51,.pf m (Relation.l xk1)),(52,.pf m (Relation.l xk1)),(53,dI xk1.N),(54,.ref 6 none),(55,dI (y3.length:Int)),(56,dB (!(decide (xk1.N=(y3.length:Int)))))]) (fun k3 (s6,s7)=>[(4,.row .fz 1 (s6.map (A.D.i .i64))),(5,.box [dI s7,.ref 4 none])]) I (fun k3 xk3 sk3 ok3 hxk3 hr hltk3=>?_) fun k3 hltk3=>?_
 obtain⟨s6,s7⟩:=sk3
 refine bdP hr fun s8 s9 hqq5 hr=>J (gn 11)<|q0e 7 [(2,.d m (.sl 2 (a2.map Relation.D))),(3,.pb 0 0),(4,.pb 1 0),(6,.pb 2 0),(8,.pb 5 0),(9,dI (k1:Int)),(10,.ref 6 none),(11,dI (k2:Int)),(12,dI (k3:Int)),(49,.d m (.sl 2 (a2.map Relation.D))),(50,dI (k1:Int)),(51,.pf m (Relation.l xk1)),(52,.pf m (Relation.l xk1)),(53,dI xk1.N),(54,.ref 6 none),(55,dI (y3.length:Int)),(56,dB (!(decide (xk1.N=(y3.length:Int)))))] [(4,.row .fz 1 (s8.map (A.D.i .i64))),(5,.box [dI s9,.ref 4 none])] ?_ ?_
 replace hr:=hqq5
 refine bdE hr fun y5 hy5 hr=>J g<|J (CB' [] [] (z3T (m:=m) hy5))<|J (gn 1)<|ifE hr ?_ ?_<;>intro h5 hr
 refine bdE hr fun y6 hy6 hr=>J g<|J (CB' [(0,7)] [4] (z5G (m:=.bo) hy6))<|e
 exact e
 exact e
 exact e
 exact e
 refine J (gn 7) ?_
 refine J (q0c (q0j (q:=2) (c:=1) (r:=7) .fz 1 rfl rfl rfl))<|J g<|E
 refine J (gn 18) ?_
 refine J (q0c (q0j (q:=2) (c:=1) (r:=7) .fz 1 rfl rfl rfl))<|J g<|E
 subst ek1
 obtain⟨s2,s3⟩:=sk1
 refine bdE hr fun y7 hy7 hr=>J g<|J (CB' [(0,6)] [4] (z2a (m:=.bo) hy7))<|e
def q9T (a2:Relation)(k1:Nat)(xk1:Attribute):Nat→Attribute→((List Int) × Int)→Option ((List Int) × Int):=fun k2 xk2 (s3,s4)=>
 (
 (
 if xk1.Mode=1 then (
 some (decide (xk2.Mode=2))
 ) else (
 some false
 )
 ).bind fun s7=>
 (
 if s7=true then (
 (q7B a2 (k1:Int) (k2:Int)).bind fun y3=>
 some y3
 ) else (
 some false
 )
 ).bind fun s8=>
 if s8=true then (
 (q6Y (⟨s4,s3⟩:Relation) (k1:Int) (k2:Int)).bind fun y4=>
 some (y4.Rows,y4.N)
 ) else (
 some (s3,s4)
 )
 ).bind fun (s5,s6)=>
 some (s5,s6)
def z1x (a2:Relation)(y1:(List Attribute)):Nat→Attribute→((List Int) × Int)→Option ((List Int) × Int):=fun k1 xk1 (s1,s2)=>
 (eachL (q9T a2 k1 xk1) 0 y1 (s1,s2)).bind fun (s3,s4)=>
 some (s3,s4)
def q8h (a0:Grammar)(a1:Rule)(a2:Relation):Option Relation:=
 (q5e a0 a1.Left).bind fun y1=>
 (q4l (y1.length:Int)).bind fun y2=>
 (eachL (z1x a2 y1) 0 y1 (y2.Rows,y2.N)).bind fun (s1,s2)=>
 some (⟨s2,s1⟩:Relation)
theorem j4r {m:Md}{a0:Grammar}{a1:Rule}{a2:Relation}{r:Relation}(hr:q8h a0 a1 a2=some r):Ok Tryz.prog 39 [Grammar.y m a0,Rule.x m a1,Relation.x m a2] [] (.ag [dI r.N,.ref 0 none]) [.row .fz 1 (r.Rows.map (A.D.i .i64))]:=by
 refine OE Tryz.func39 fun S hS=>?_
 unfold q8h at hr
 refine J g<|J (BX' 0)<|J (BX' 1)<|J (BX' 2)<|J (NV' 3)<|bdE hr fun y1 hy1 hr=>J g<|J (CB' [(0,4)] [] (q8S (m:=m) hy1))<|bdE hr fun y2 hy2 hr=>J g<|J (CB' [(0,5)] [] (q8A hy2))<|J (NV' 6)<|J (gn 8)<|J (lenR 4)<|fun hl1=>bdP hr fun s1 s2 hqq1 hr=>q0d hqq1 hl1 7 (fun k1 (s1,s2)=>[(5,.pb 2 0),(6,.pb 3 0),(7,.ref 4 none),(8,.pb 6 0),(9,dI (k1:Int))]) (fun k1 (s1,s2)=>[(5,.row .fz 1 (s1.map (A.D.i .i64))),(6,.box [dI s2,.ref 5 none])]) I (fun k1 xk1 sk1 ok1 hxk1 hr hltk1=>?_) fun k1 hltk1=>?_
 obtain⟨s1,s2⟩:=sk1
 refine J (gn 17)<|J (lenR 4)<|fun hl2=>bdP hr fun s3 s4 hqq2 hr=>q0d hqq2 hl2 7 (fun k2 (s3,s4)=>[(5,.pb 2 0),(6,.pb 3 0),(7,.ref 4 none),(8,.pb 6 0),(9,dI (k1:Int)),(10,dI (k2:Int))]) (fun k2 (s3,s4)=>[(5,.row .fz 1 (s3.map (A.D.i .i64))),(6,.box [dI s4,.ref 5 none])]) I (fun k2 xk2 sk2 ok2 hxk2 hr hltk2=>?_) fun k2 hltk2=>?_
 obtain⟨s3,s4⟩:=sk2
 refine bdP hr fun s5 s6 hqq3 hr=>J (gn 11)<|q0e 7 [(5,.pb 2 0),(6,.pb 3 0),(7,.ref 4 none),(8,.pb 6 0),(9,dI (k1:Int)),(10,dI (k2:Int))] [(5,.row .fz 1 (s5.map (A.D.i .i64))),(6,.box [dI s6,.ref 5 none])] ?_ ?_
 replace hr:=hqq3
 refine bdE hr fun s7 hqq4 hr=>J (gn 9)<|q0a 8 [(5,.pb 2 0),(6,.pb 3 0),(7,.ref 4 none),(8,.pb 6 0),(9,dI (k1:Int)),(10,dI (k2:Int)),(43,dB s7)] ?_ ?_
 replace hr:=hqq4
 refine ifE hr ?_ ?_<;>intro h1 hr
 exact e
 exact e
 refine bdE hr fun s8 hqq5 hr=>q0a 6 [(5,.pb 2 0),(6,.pb 3 0),(7,.ref 4 none),(8,.pb 6 0),(9,dI (k1:Int)),(10,dI (k2:Int)),(49,dB s8)] ?_ ?_
 replace hr:=hqq5
 refine ifE hr ?_ ?_<;>intro h2 hr
 refine bdE hr fun y3 hy3 hr=>J g<|J (CB' [] [] (z3T (m:=m) hy3))<|e
 exact e
 refine J (gn 1)<|ifE hr ?_ ?_<;>intro h3 hr
 refine bdE hr fun y4 hy4 hr=>J g<|J (CB' [(0,7)] [5] (z5G (m:=.bo) hy4))<|e
 exact e
 exact e
 exact e
 exact e
def z1y (a0:Grammar):Nat→Symbol→((List Relation))→Option ((List Relation)):=fun k1 xk1 s1=>
 (q5e a0 xk1.Name).bind fun y2=>
 (q4l (y2.length:Int)).bind fun y3=>
 grd (((s1.length:Int)+1)*32≤140737488355328∧(s1.length:Int)+1≤9223372036854775807) <|
 some (s1++[y3])
def q9s (a0:Grammar):Nat→Rule→(Bool × (List Relation))→Option (Bool × (List Relation)):=fun k3 xk3 (s3,s4)=>
 (
 (z2v a0 xk3.Left).bind fun y4=>
 grd (0≤y4) <|
 (s4[y4.toNat]?).bind fun x1=>
 (z3r a0 xk3 s4).bind fun y5=>
 (q9j a0 xk3 y5).bind fun y6=>
 (q8h a0 xk3 y6).bind fun y7=>
 (q7k x1 y7).bind fun y8=>
 if s3=true then (
 some (true,(List.set s4 y4.toNat y8))
 ) else (
 (q5I y8 x1).bind fun y9=>
 some (!y9,(List.set s4 y4.toNat y8))
 )
 ).bind fun (s5,s6)=>
 some (s5,s6)
def q6Z (a0:Grammar):(List Relation)→Option ((List Relation) ⊕ ((List Relation) × Bool)):=fun s2=>
 (eachL (q9s a0) 0 a0.Rules (false,s2)).bind fun (s3,s4)=>
 if s3=true then (
 some (.inl s4)
 ) else (
 some (.inr (s4,true))
 )
def q6P (a0:Grammar):Option ((List Relation) × Bool):=
 (z1X a0).bind fun y1=>
 if y1=true then (
 (eachL (z1y a0) 0 a0.Symbols ([]:List Relation)).bind fun s1=>
 (q4L (q6Z a0) s1).bind fun r1=>some r1
 ) else (
 some ([],false)
 )
theorem z4l {m:Md}{a0:Grammar}{r:((List Relation) × Bool)}(hr:q6P a0=some r):Ok Tryz.prog 9 [Grammar.x m a0] [] (.tu [.ref 0 none,dB r.2]) [.row .fz 2 (r.1.map Relation.D)]:=by
 refine OE Tryz.func9 fun S hS=>?_
 unfold q6P at hr
 refine J g<|J (BX' 0)<|bdE hr fun y1 hy1 hr=>J g<|J (CB' [] [] (z7W (m:=m) hy1))<|J (gn 2)<|ifE hr ?_ ?_<;>intro h1 hr
 refine J g<|J (L0' 1 Relation.D)<|J (gn 8)<|J (lenA 0 0)<|fun hl1=>bdE hr fun s1 hqq1 hr=>q0d hqq1 hl1 2 (fun k1 s1=>[(1,.pb 0 0),(4,.ref 1 none),(5,dI (k1:Int))]) (fun k1 s1=>[(1,.row .fz 2 (s1.map Relation.D))]) I (fun k1 xk1 sk1 ok1 hxk1 hr hltk1=>?_) fun k1 hltk1=>?_
 obtain⟨s1,rfl⟩:∃ y,y=sk1:=⟨_,rfl⟩
 refine bdE hr fun y2 hy2 hr=>J g<|J (CB' [(0,2)] [] (q8S (m:=m) hy2))<|bdE hr fun y3 hy3 hr=>J g<|J (CBz' 3 [(0,3)] [] (q8A hy3))<|J (LIR' 4 (m:=.fz) (f:=Relation.D) (xs:=[y3]))<|ggE hr fun g1 hr=>J (AP1' 5 .fz 32 g1)<|J (q0o .refl)<|e
 refine bdE hr fun q2 hqq2 hr=>J g<|q0h hqq2 2 (fun s2=>[(1,.pb 0 0),(4,.ref 1 none)]) (fun s2=>[(1,.row .fz 2 (s2.map Relation.D))]) I fun sk2 ok2 hr hik2=>?_
 obtain⟨s2,rfl⟩:∃ y,y=sk2:=⟨_,rfl⟩
 refine J (gn 11) ?_
 refine AW.len (.box 0 1 rfl rfl) fun hl3=>?_
 refine bdP hr fun s3 s4 hqq3 hr=>q0d hqq3 hl3 2 (fun k3 (s3,s4)=>[(1,.pb 0 0),(4,.ref 1 none),(6,dB s3),(7,dI (k3:Int))]) (fun k3 (s3,s4)=>[(1,.row .fz 2 (s4.map Relation.D))]) I (fun k3 xk3 sk3 ok3 hxk3 hr hltk3=>?_) fun k3 hltk3=>?_
 obtain⟨s3,s4⟩:=sk3
 refine bdP hr fun s5 s6 hqq4 hr=>J (gn 12)<|q0e 2 [(1,.pb 0 0),(4,.ref 1 none),(6,dB s5),(7,dI (k3:Int))] [(1,.row .fz 2 (s6.map Relation.D))] ?_ ?_
 replace hr:=hqq4
 refine J g<|J (NV' 2)<|bdE hr fun y4 hy4 hr=>J g<|J (CB' [] [] (z5b (m:=m) hy4))<|ggE hr fun g2 hr=>bdE hr fun x1 hx1 hr=>bdE hr fun y5 hy5 hr=>J g<|J (CBk' 0 1 [(1,3)] [] (j1Q (m:=m) (m2:=.fz) hy5))<|bdE hr fun y6 hy6 hr=>J (CB' [(0,4)] [3] (z6S (m:=.bo) hy6))<|bdE hr fun y7 hy7 hr=>J (CB' [(0,5)] [4] (j4r (m:=.bo) hy7))<|bdE hr fun y8 hy8 hr=>J (CB' [(0,6)] [5] (z2d (m:=.bo) hy8))<|J (NV' 7)<|J (gn 5)<|ifE hr ?_ ?_<;>intro h2 hr
 refine J (gn 9)<|J (q0o .refl)<|J (gn 7) ?_
 refine J (q0k 6 rfl)<|J (SE' y8 hx1)<|J g<|E
 refine bdE hr fun y9 hy9 hr=>J g<|J (CB' [] [6] (q9R (m:=.bo) hy9))<|J (gn 2)<|J (q0o .refl)<|J (gn 7) ?_
 refine J (q0k 6 rfl)<|J (SE' y8 hx1)<|J g<|E
 exact e
 refine J (gn 16)<|ifE hr ?_ ?_<;>intro h3 hr
 exact e
 exact e
 refine J g<|J (L0' 1 Relation.D)<|e
def z6T (a0:Relation)(a1:Relation):Option Bool:=
 (q7k a1 a0).bind fun y1=>
 (q5I y1 a1).bind fun y2=>
 some y2
theorem j9R {m:Md}{a0:Relation}{a1:Relation}{r:Bool}(hr:z6T a0 a1=some r):Ok Tryz.prog 11 [Relation.x m a0,Relation.x m a1] [] (dB r) []:=by
 refine OE Tryz.func11 fun S hS=>?_
 unfold z6T at hr
 refine J g<|J (BX' 0)<|J (BX' 1)<|bdE hr fun y1 hy1 hr=>J g<|J (CB' [(0,2)] [] (z2d (m:=m) hy1))<|bdE hr fun y2 hy2 hr=>J g<|J (CB' [] [2] (q9R (m:=.bo) hy2))<|e
def q8D (a0:Grammar)(y1:(List Relation))(y2:Bool):((List ByteArray) × Int)→Option (((List ByteArray) × Int) ⊕ ((List ByteArray))):=fun (s2,s3)=>
 if s3 < (a0.Rules.length:Int) then (
 if y2=true then (
 (
 grd (0≤s3) <|
 (a0.Rules[s3.toNat]?).bind fun x1=>
 (z3r a0 x1 y1).bind fun y3=>
 (q9j a0 x1 y3).bind fun y4=>
 (q9Q y4).bind fun y5=>
 if y5=true then (
 grd (((s2.length:Int)+1)*16≤140737488355328∧(s2.length:Int)+1≤9223372036854775807) <|
 some (s2++[x1.Name])
 ) else (
 some s2
 )
 ).bind fun s4=>
 grd (I64 (s3+1)) <|
 some (.inl (s4,(s3+1)))
 ) else (
 some (.inr s2)
 )
 ) else (
 some (.inr s2)
 )
def z0w (a0:Grammar):Option (List ByteArray):=
 (q6P a0).bind fun (y1,y2)=>
 (q4L (q8D a0 y1 y2) (([]:List ByteArray),0)).bind fun s1=>
 some s1
theorem z9r {m:Md}{a0:Grammar}{r:(List ByteArray)}(hr:z0w a0=some r):Ok Tryz.prog 43 [Grammar.x m a0] [] (.ref 0 none) [.row .fz 1 (r.map A.D.s)]:=by
 refine OE Tryz.func43 fun S hS=>?_
 unfold z0w at hr
 refine J g<|J (BX' 0)<|J g<|J (L0' 1 A.D.s)<|bdP hr fun y1 y2 hq1 hr=>J g<|J (CB' [(0,2)] [] (z4l (m:=m) hq1))<|bdE hr fun s1 hqq2 hr=>J (gn 11)<|q0e 3 [(3,.ref 1 none)] [(1,.row .fz 1 (s1.map A.D.s))] ?_ ?_
 refine J g<|q0h hqq2 3 (fun (s2,s3)=>[(1,.pb 0 0),(3,.ref 1 none),(4,.ref 2 none),(5,dB y2),(6,dI s3)]) (fun (s2,s3)=>[(1,.row .fz 1 (s2.map A.D.s))]) I fun sk1 ok1 hr hik1=>?_
 obtain⟨s2,s3⟩:=sk1
 have hr:=hr
 refine J (gn 8)<|ifE hr ?_ ?_<;>intro h1 hr
 refine J (gn 4)<|ifE hr ?_ ?_<;>intro h2 hr
 refine bdE hr fun s4 hqq3 hr=>J (gn 3)<|q0e 3 [(1,.pb 0 0),(3,.ref 1 none),(4,.ref 2 none),(5,dB y2),(6,dI s3),(19,dB y2)] [(1,.row .fz 1 (s4.map A.D.s))] ?_ ?_
 replace hr:=hqq3
 refine ggE hr fun g1 hr=>bdE hr fun x1 hx1 hr=>bdE hr fun y3 hy3 hr=>J g<|J (CBk' 0 2 [(1,3)] [] (j1Q (m:=m) (m2:=.fz) hy3))<|bdE hr fun y4 hy4 hr=>J (CB' [(0,4)] [3] (z6S (m:=.bo) hy4))<|bdE hr fun y5 hy5 hr=>J (CB' [] [4] (j1O (m:=.bo) hy5))<|J (gn 1)<|ifE hr ?_ ?_<;>intro h3 hr
 refine J g<|J (LIR' 5 (m:=.fz) (f:=A.D.s) (xs:=[x1.Name]))<|ggE hr fun g2 hr=>J (q9Z (f:=A.D.s) 6 (fun _=>rfl) 16 g2)<|e
 exact e
 refine ggE hr fun g3 hr=>e
 refine J (gn 2) ?_
 cases hr
 cases hik1 _ rfl
 exact q0g hS 3
 refine J (gn 6) ?_
 cases hr
 cases hik1 _ rfl
 exact q0g hS 3
 exact e
def q6I (a0:Grammar):Option Bool:=
 (z1X a0).bind fun y1=>
 if y1=true then (
 (z0w a0).bind fun y2=>
 some (decide ((y2.length:Int)=0))
 ) else (
 some false
 )
theorem z5K {m:Md}{a0:Grammar}{r:Bool}(hr:q6I a0=some r):Ok Tryz.prog 12 [Grammar.x m a0] [] (dB r) []:=by
 refine OE Tryz.func12 fun S hS=>?_
 unfold q6I at hr
 refine J g<|J (BX' 0)<|bdE hr fun y1 hy1 hr=>J g<|J (CB' [] [] (z7W (m:=m) hy1))<|ifE hr ?_ ?_<;>intro h1 hr
 refine bdE hr fun y2 hy2 hr=>J g<|J (CB' [(0,1)] [] (z9r (m:=m) hy2))<|e
 exact e
def z5L (y5:(List Relation))(y9:(List Relation)):Nat→Relation→Unit→Option (Unit ⊕ Bool):=fun k1 xk1 _=>
 (y5[k1]?).bind fun x1=>
 (q5I xk1 x1).bind fun y11=>
 if y11=true then (
 (y9[k1]?).bind fun x2=>
 (z6T x2 xk1).bind fun y12=>
 if y12=true then (
 some (.inl ())
 ) else (
 some (.inr false)
 )
 ) else (
 some (.inr false)
 )
def z4m (a0:(List UInt8)):Option Bool:=
 (j8C a0).bind fun y1=>
 if y1=true then (
 some true
 ) else (
 (q6r a0).bind fun y2=>
 (q6d y2).bind fun (y3,y4)=>
 (q7O y2).bind fun (y5,y6)=>
 (
 if y4=y6 then (
 some (!(decide ((y3.length:Int)=(y5.length:Int))))
 ) else (
 some true
 )
 ).bind fun s1=>
 if s1=true then (
 some false
 ) else (
 (q9E y2).bind fun (y7,y8)=>
 (
 if y8=true then (
 (
 if y4=true then (
 some (!(decide ((y7.length:Int)=(y2.Symbols.length:Int))))
 ) else (
 some true
 )
 ).bind fun s3=>
 some s3
 ) else (
 some false
 )
 ).bind fun s2=>
 if s2=true then (
 some false
 ) else (
 (q6P y2).bind fun (y9,y10)=>
 (findL (z5L y5 y9) 0 y3 ()).bind <| onr (fun r1=>some r1) fun _=>
 (
 if y4=true then (
 (q6I y2).bind fun y13=>
 some y13
 ) else (
 some true
 )
 ).bind fun s4=>
 some s4
 )
 )
 )
theorem j4s {a0:(List UInt8)}{r:Bool}(hr:z4m a0=some r):Ok Tryz.prog 3 [.d .fz (.sl 1 (a0.map byD))] [] (dB r) []:=by
 refine OE Tryz.func3 fun S hS=>?_
 unfold z4m at hr
 refine bdE hr fun y1 hy1 hr=>J g<|J (CB' [] [] (k5n hy1))<|J (gn 1)<|ifE hr ?_ ?_<;>intro h1 hr
 exact e
 refine bdE hr fun y2 hy2 hr=>J g<|J (CB' [(0,0)] [] (z4O hy2))<|J (NV' 1)<|bdP hr fun y3 y4 hq1 hr=>J g<|J (CB' [(0,2)] [0] (z2W (m:=.bo) hq1))<|bdP hr fun y5 y6 hq2 hr=>J g<|J (CB' [(0,3)] [0] (z7x (m:=.bo) hq2))<|J g ?_
 refine J (BQn' rfl rfl)<|bdE hr fun s1 hqq3 hr=>q0a 7 [(3,.pb 1 0),(4,.ref 2 none),(5,dB y4),(6,.ref 3 none),(36,dB s1)] ?_ ?_
 replace hr:=hqq3
 refine ifE hr ?_ ?_<;>intro h2 hr
 exact e
 exact e
 refine J (gn 1)<|ifE hr ?_ ?_<;>intro h3 hr
 exact e
 refine bdP hr fun y7 y8 hq4 hr=>J g<|J (CB' [(0,4)] [0] (j0p (m:=.bo) hq4))<|bdE hr fun s2 hqq5 hr=>J (gn 10)<|q0a 12 [(3,.pb 1 0),(4,.ref 2 none),(5,dB y4),(6,.ref 3 none),(54,dB s2)] ?_ ?_
 replace hr:=hqq5
 refine ifE hr ?_ ?_<;>intro h4 hr
 refine bdE hr fun s3 hqq6 hr=>J (gn 3)<|q0a 8 [(3,.pb 1 0),(4,.ref 2 none),(5,dB y4),(6,.ref 3 none),(43,dB true),(53,dB s3)] ?_ ?_
 replace hr:=hqq6
 refine ifE hr ?_ ?_<;>intro h5 hr
 refine J g<|J (LEd' y2.Symbols.length)<|e
 exact e
 exact e
 exact e
 refine J (gn 1)<|ifE hr ?_ ?_<;>intro h6 hr
 exact e
 refine bdP hr fun y9 y10 hq7 hr=>J g<|J (CB' [(0,5)] [0] (z4l (m:=.bo) hq7))<|J (gn 12)<|J (lenR 2)<|fun hl1=>bdE hr fun q8 hqq8 hr=>q0b hqq8 hl1 6 (fun k1 _=>[(3,.pb 1 0),(4,.ref 2 none),(5,dB y4),(6,.ref 3 none),(10,.ref 5 none),(12,dI (k1:Int))]) (fun k1 _=>[]) I (fun k1 xk1 sk1 ok1 hxk1 hr hltk1 hik1=>?_) fun k1 sk1 ek1 hltk1=>?_
 refine bdE hr fun x1 hx1 hr=>bdE hr fun y11 hy11 hr=>J g<|J (CB' [] [] (q9R (m:=.fz) hy11))<|J (gn 1)<|ifE hr ?_ ?_<;>intro h7 hr
 refine bdE hr fun x2 hx2 hr=>bdE hr fun y12 hy12 hr=>J g<|J (CB' [] [] (j9R (m:=.fz) hy12))<|J (gn 3)<|ifE hr ?_ ?_<;>intro h8 hr
 exact e
 exact e
 exact e
 subst ek1
 refine bdE hr fun s4 hqq9 hr=>J (gn 14)<|q0a 4 [(93,dB s4)] ?_ ?_
 replace hr:=hqq9
 refine ifE hr ?_ ?_<;>intro h9 hr
 refine bdE hr fun y13 hy13 hr=>J g<|J (CB' [] [0] (z5K (m:=.bo) hy13))<|e
 exact e
 exact e
end Go.Proofs.YtpnkinhphabkcaaGreat
