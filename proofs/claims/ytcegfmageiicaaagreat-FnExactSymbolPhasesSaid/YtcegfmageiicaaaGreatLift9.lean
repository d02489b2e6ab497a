/- What some functions of the program compute, as partial functions on plain data, and that they do; each lemma bears its conditions in its statement. -/
import Derived.Test.YtcegfmageiicaaaGreatLift8
set_option linter.unusedVariables false
set_option linter.unusedSimpArgs false
set_option linter.ambiguousOpen false
set_option linter.unusedSectionVars false
set_option linter.unnecessarySimpa false
set_option maxRecDepth 100000
set_option maxHeartbeats 40000000
noncomputable section
namespace Go.Proofs.YtcegfmageiicaaaGreat
open Go Go.E Go.A
def q8T (a0:Relation)(k1:Nat)(xk1:Int):Nat→Int→((List Int))→Option ((List Int)):=fun k2 xk2 s2=>
 (
 (q7v a0 xk1 xk2).bind fun y3=>
 if y3=true then (
 (s2[k1]?).bind fun x1=>
 grd (0≤(k2:Int)∧(k2:Int) < 63) <|
 grd (0≤x1∧0≤((2 ^ (k2:Int).toNat:Nat):Int)) <|
 some (List.set s2 k1 ((x1.toNat ||| ((2 ^ (k2:Int).toNat:Nat):Int).toNat:Nat):Int))
 ) else (
 some s2
 )
 ).bind fun s3=>
 some s3
def q6E (a0:Relation)(a1:(List Int)):Nat→Int→((List Int))→Option ((List Int)):=fun k1 xk1 s1=>
 (eachL (q8T a0 k1 xk1) 0 a1 s1).bind fun s2=>
 some s2
def q5r (a0:Relation)(a1:(List Int)):Option Relation:=
 (q4c a0).bind fun y1=>
 if y1=true then (
 if 16 < (a1.length:Int) then (
 some (⟨0,[]⟩:Relation)
 ) else (
 (q4h (a1.length:Int)).bind fun y2=>
 (eachL (q6E a0 a1) 0 a1 y2.Rows).bind fun s1=>
 some (⟨y2.N,s1⟩:Relation)
 )
 ) else (
 some (⟨0,[]⟩:Relation)
 )
theorem j0h {m:Md}{a0:Relation}{a1:(List Int)}{r:Relation}(hr:q5r a0 a1=some r):Ok Tryz.prog 67 [Relation.x m a0,.d m (.sl 1 (a1.map (A.D.i .i64)))] [] (.ag [dI r.N,.ref 0 none]) [.row .fz 1 (r.Rows.map (A.D.i .i64))]:=by
 refine OE Tryz.func67 fun S hS=>?_
 unfold q5r at hr
 refine J g<|J (BX' 0)<|J (NV' 1)<|bdE hr fun y1 hy1 hr=>J g<|J (CB' [] [] (q5c (m:=m) hy1))<|J (gn 1)<|ifE hr ?_ ?_<;>intro h1 hr
 refine J (gn 6)<|ifE hr ?_ ?_<;>intro h2 hr
 refine J (gn 7) ?_
 refine J (q0g (q0m (q:=1) (c:=1) (r:=2) .fz 1 rfl rfl rfl))<|J g<|E
 refine bdE hr fun y2 hy2 hr=>J g<|J (CB' [(0,2)] [] (q8r hy2))<|J (NV' 3)<|J (gn 8)<|J (lenT 1)<|fun hl1=>bdE hr fun s1 hqq1 hr=>q0c hqq1 hl1 4 (fun k1 s1=>[(1,.d m (.sl 1 (a1.map (A.D.i .i64)))),(2,.pb 0 0),(4,.pb 1 0),(5,.pb 3 0),(6,dI (k1:Int))]) (fun k1 s1=>[(2,.row .fz 1 (s1.map (A.D.i .i64)))]) I (fun k1 xk1 sk1 ok1 hxk1 hr hltk1=>?_) fun k1 hltk1=>?_
 obtain⟨s1,rfl⟩:∃ y,y=sk1:=⟨_,rfl⟩
 refine J (gn 17)<|J (lenT 1)<|fun hl2=>bdE hr fun s2 hqq2 hr=>q0c hqq2 hl2 4 (fun k2 s2=>[(1,.d m (.sl 1 (a1.map (A.D.i .i64)))),(2,.pb 0 0),(4,.pb 1 0),(5,.pb 3 0),(6,dI (k1:Int)),(7,dI (k2:Int))]) (fun k2 s2=>[(2,.row .fz 1 (s2.map (A.D.i .i64)))]) I (fun k2 xk2 sk2 ok2 hxk2 hr hltk2=>?_) fun k2 hltk2=>?_
 obtain⟨s2,rfl⟩:∃ y,y=sk2:=⟨_,rfl⟩
 refine bdE hr fun s3 hqq3 hr=>J (gn 11)<|q0d 4 [(1,.d m (.sl 1 (a1.map (A.D.i .i64)))),(2,.pb 0 0),(4,.pb 1 0),(5,.pb 3 0),(6,dI (k1:Int)),(7,dI (k2:Int))] [(2,.row .fz 1 (s3.map (A.D.i .i64)))] ?_ ?_
 replace hr:=hqq3
 refine bdE hr fun y3 hy3 hr=>J g<|J (CB' [] [] (z2v (m:=m) hy3))<|J (gn 1)<|ifE hr ?_ ?_<;>intro h3 hr
 refine bdE hr fun x1 hx1 hr=>J g ?_
 refine J (CIU' (Int.natCast_nonneg _) rfl)<|ggE hr fun g1 hr=>J (OB' _ (k2s g1))<|ggE hr fun g2 hr=>J (OB' _ (bOrI g2))<|J g<|J (SE' ((x1.toNat ||| ((2 ^ (k2:Int).toNat:Nat):Int).toNat:Nat):Int) hx1)<|J g<|E
 exact e
 exact e
 exact e
 exact e
 refine J (gn 13) ?_
 refine J (q0g (q0m (q:=1) (c:=1) (r:=2) .fz 1 rfl rfl rfl))<|J g<|E
def z0t (a0:Grammar):Nat→Symbol→((List Relation))→Option ((List Relation)):=fun k1 xk1 s1=>
 (q4K a0 xk1.Name).bind fun y2=>
 (q4h (y2.length:Int)).bind fun y3=>
 grd (((s1.length:Int)+1)*32≤140737488355328∧(s1.length:Int)+1≤9223372036854775807) <|
 some (s1++[y3])
def q6k (a0:Grammar)(xk3:Rule)(y4:Relation):((List Relation) × Bool × Int)→Option (((List Relation) × Bool × Int) ⊕ ((List Relation) × Bool)):=fun (s7,s8,s9)=>
 if s9≤(xk3.Right.length:Int) then (
 (
 (q5C xk3 s9).bind fun y6=>
 (z2Y a0 y6).bind fun y7=>
 grd (0≤y7) <|
 (s7[y7.toNat]?).bind fun x1=>
 (q5o a0 xk3 s9).bind fun y8=>
 (q5r y4 y8).bind fun y9=>
 (q7V x1 y9).bind fun y10=>
 if s8=true then (
 some (true,(List.set s7 y7.toNat y10))
 ) else (
 (q7W y10 x1).bind fun y11=>
 some (!y11,(List.set s7 y7.toNat y10))
 )
 ).bind fun (s10,s11)=>
 grd (I64 (s9+1)) <|
 some (.inl (s11,s10,(s9+1)))
 ) else (
 some (.inr (s7,s8))
 )
def q6l (a0:Grammar):Nat→Rule→((List Relation) × Bool)→Option (((List Relation) × Bool) ⊕ ((List Relation) × Bool)):=fun k3 xk3 (s3,s4)=>
 (z6I a0 xk3 s3).bind fun y4=>
 (q9j y4).bind fun y5=>
 if y5=true then (
 some (.inr ([],false))
 ) else (
 (q4i (q6k a0 xk3 y4) (s3,s4,0)).bind fun (s5,s6)=>
 some (.inl (s5,s6))
 )
def q4W (a0:Grammar):(List Relation)→Option ((List Relation) ⊕ ((List Relation) × Bool)):=fun s2=>
 (findL (q6l a0) 0 a0.Rules (s2,false)).bind <| onr (fun r2=>some (.inr r2)) fun (s3,s4)=>
 if s4=true then (
 some (.inl s3)
 ) else (
 some (.inr (s3,true))
 )
def q6F (a0:Grammar):Option ((List Relation) × Bool):=
 (z4W a0).bind fun y1=>
 if y1=true then (
 (eachL (z0t a0) 0 a0.Symbols ([]:List Relation)).bind fun s1=>
 (q4i (q4W a0) s1).bind fun r1=>some r1
 ) else (
 some ([],false)
 )
theorem z3P {m:Md}{a0:Grammar}{r:((List Relation) × Bool)}(hr:q6F a0=some r):Ok Tryz.prog 22 [Grammar.x m a0] [] (.tu [.ref 0 none,dB r.2]) [.row .fz 2 (r.1.map Relation.D)]:=by
 refine OE Tryz.func22 fun S hS=>?_
 unfold q6F at hr
 refine J g<|J (BX' 0)<|bdE hr fun y1 hy1 hr=>J g<|J (CB' [] [] (j8R (m:=m) hy1))<|J (gn 2)<|ifE hr ?_ ?_<;>intro h1 hr
 refine J g<|J (L0' 1 Relation.D)<|J (gn 8)<|J (lenA 0 0)<|fun hl1=>bdE hr fun s1 hqq1 hr=>q0c hqq1 hl1 2 (fun k1 s1=>[(1,.pb 0 0),(4,.ref 1 none),(5,dI (k1:Int))]) (fun k1 s1=>[(1,.row .fz 2 (s1.map Relation.D))]) I (fun k1 xk1 sk1 ok1 hxk1 hr hltk1=>?_) fun k1 hltk1=>?_
 obtain⟨s1,rfl⟩:∃ y,y=sk1:=⟨_,rfl⟩
 refine bdE hr fun y2 hy2 hr=>J g<|J (CB' [(0,2)] [] (q7G (m:=m) hy2))<|bdE hr fun y3 hy3 hr=>J g<|J (CBz' 3 [(0,3)] [] (q8r hy3))<|J (LIR' 4 (m:=.fz) (f:=Relation.D) (xs:=[y3]))<|ggE hr fun g1 hr=>J (AP1' 5 .fz 32 g1)<|J (q0o .refl)<|e
 refine bdE hr fun q2 hqq2 hr=>J g<|q0h hqq2 2 (fun s2=>[(1,.pb 0 0),(4,.ref 1 none)]) (fun s2=>[(1,.row .fz 2 (s2.map Relation.D))]) I fun sk2 ok2 hr hik2=>?_
 obtain⟨s2,rfl⟩:∃ y,y=sk2:=⟨_,rfl⟩
 refine J (gn 11) ?_
 refine AW.len (.box 0 1 rfl rfl) fun hl3=>?_
 refine bdE hr fun q3 hqq3 hr=>q0b hqq3 hl3 2 (fun k3 (s3,s4)=>[(1,.pb 0 0),(4,.ref 1 none),(6,dB s4),(7,dI (k3:Int))]) (fun k3 (s3,s4)=>[(1,.row .fz 2 (s3.map Relation.D))]) I (fun k3 xk3 sk3 ok3 hxk3 hr hltk3 hik3=>?_) fun k3 sk3 ek3 hltk3=>?_
 obtain⟨s3,s4⟩:=sk3
 refine J g<|J (NV' 2)<|bdE hr fun y4 hy4 hr=>J g<|J (CB' [(0,3)] [1] (k0s (m:=.bo) hy4))<|J (NV' 4)<|bdE hr fun y5 hy5 hr=>J g<|J (CB' [] [3] (z9U (m:=.bo) hy5))<|J (gn 1)<|ifE hr ?_ ?_<;>intro h2 hr
 refine J g<|J (L0' 5 Relation.D)<|e
 refine bdP hr fun s5 s6 hqq4 hr=>J (gn 6)<|q0d 5 [(1,.pb 0 0),(4,.ref 1 none),(6,dB s6),(7,dI (k3:Int))] [(1,.row .fz 2 (s5.map Relation.D))] ?_ ?_
 refine J g<|q0h hqq4 5 (fun (s7,s8,s9)=>[(1,.pb 0 0),(4,.ref 1 none),(6,dB s8),(7,dI (k3:Int)),(8,.pb 2 0),(9,.pb 4 0),(10,dI s9)]) (fun (s7,s8,s9)=>[(1,.row .fz 2 (s7.map Relation.D))]) I fun sk4 ok4 hr hik4=>?_
 obtain⟨s7,s8,s9⟩:=sk4
 have hr:=hr
 refine J (gn 9)<|ifE hr ?_ ?_<;>intro h3 hr
 refine bdP hr fun s10 s11 hqq5 hr=>J (gn 3)<|q0d 5 [(1,.pb 0 0),(4,.ref 1 none),(6,dB s10),(7,dI (k3:Int)),(8,.pb 2 0),(9,.pb 4 0),(10,dI s9)] [(1,.row .fz 2 (s11.map Relation.D))] ?_ ?_
 replace hr:=hqq5
 refine bdE hr fun y6 hy6 hr=>J g<|J (CB' [] [] (q8I (m:=m) hy6))<|bdE hr fun y7 hy7 hr=>J (CB' [] [] (z6m (m:=m) hy7))<|ggE hr fun g2 hr=>bdE hr fun x1 hx1 hr=>bdE hr fun y8 hy8 hr=>J g<|J (CB' [(0,5)] [] (z0S (m:=m) hy8))<|bdE hr fun y9 hy9 hr=>J (CB' [(0,6)] [3,5] (j0h (m:=.bo) hy9))<|bdE hr fun y10 hy10 hr=>J (CB' [(0,7)] [6] (z6p (m:=.bo) hy10))<|J (NV' 8)<|J (gn 5)<|ifE hr ?_ ?_<;>intro h4 hr
 refine J (gn 9)<|J (q0o .refl)<|J (gn 7) ?_
 refine J (q0p 7 rfl)<|J (SE' y10 hx1)<|J g<|E
 refine bdE hr fun y11 hy11 hr=>J g<|J (CB' [] [7] (z6q (m:=.bo) hy11))<|J (gn 2)<|J (q0o .refl)<|J (gn 7) ?_
 refine J (q0p 7 rfl)<|J (SE' y10 hx1)<|J g<|E
 refine ggE hr fun g3 hr=>e
 refine J (gn 2) ?_
 cases hr
 cases hik4 _ rfl
 exact q0e hS 5
 exact e
 subst ek3
 obtain⟨s3,s4⟩:=sk3
 refine J (gn 16)<|ifE hr ?_ ?_<;>intro h5 hr
 exact e
 exact e
 refine J g<|J (L0' 1 Relation.D)<|e
def z3i (a0:Expr):Option Bool:=
 some (!(decide (a0.Kind=8)))
theorem j4H {m:Md}{a0:Expr}{r:Bool}(hr:z3i a0=some r):Ok Tryz.prog 234 [Expr.x m a0] [] (dB r) []:=by
 refine OE Tryz.func234 fun S hS=>?_
 unfold z3i at hr
 refine J g<|J (BX' 0)<|e
def q6i (rec_ieveryNode_iHasRemote_1:Expr→Option Bool)(a0:Expr):Option Bool:=
 (rec_ieveryNode_iHasRemote_1 a0).bind fun y1=>
 some (!y1)
theorem z4c {rec_ieveryNode_iHasRemote_1:Expr→Option Bool}(ih_ieveryNode_iHasRemote_1:∀ {m:Md} {a0:Expr} {r:Bool},rec_ieveryNode_iHasRemote_1 a0=some r→Ok Tryz.prog 183 [Expr.x m a0,.fn 234 []] [] (dB r) []){m:Md}{a0:Expr}{r:Bool}(hr:q6i rec_ieveryNode_iHasRemote_1 a0=some r):Ok Tryz.prog 236 [Expr.x m a0,.pb 0 0] [.box [.fn 234 []]] (dB r) [.box [.fn 234 []]]:=by
 refine OE Tryz.func236 fun S hS=>?_
 unfold q6i at hr
 refine J g<|J (BX' 1)<|bdE hr fun y1 hy1 hr=>J g<|J (CB' [] [] (ih_ieveryNode_iHasRemote_1 (m:=m) hy1))<|e
def q5y (rec_ieveryNode_iHasRemote_1:Expr→Option Bool):Nat→Expr→Unit→Option (Unit ⊕ Int):=fun k1 xk1 _=>
 (q6i rec_ieveryNode_iHasRemote_1 xk1).bind fun y1=>
 if y1=true then (
 some (.inr (k1:Int))
 ) else (
 some (.inl ())
 )
def q3T (rec_ieveryNode_iHasRemote_1:Expr→Option Bool)(a0:(List Expr)):Option Int:=
 (findL (q5y rec_ieveryNode_iHasRemote_1) 0 a0 ()).bind <| onr (fun r1=>some r1) fun _=>
 some (-1)
theorem q7P {rec_ieveryNode_iHasRemote_1:Expr→Option Bool}(ih_ieveryNode_iHasRemote_1:∀ {m:Md} {a0:Expr} {r:Bool},rec_ieveryNode_iHasRemote_1 a0=some r→Ok Tryz.prog 183 [Expr.x m a0,.fn 234 []] [] (dB r) []){m:Md}{a0:(List Expr)}{r:Int}(hr:q3T rec_ieveryNode_iHasRemote_1 a0=some r):Ok Tryz.prog 233 [.d m (.sl 7 (a0.map Expr.D)),.fn 236 [.pb 0 0]] [.box [.fn 234 []]] (dI r) [.box [.fn 234 []]]:=by
 refine OE Tryz.func233 fun S hS=>?_
 unfold q3T at hr
 refine J (gn 12)<|J (lenT 0)<|fun hl1=>bdE hr fun q1 hqq1 hr=>q0b hqq1 hl1 1 (fun k1 _=>[(0,.d m (.sl 7 (a0.map Expr.D))),(1,.fn 236 [.pb 0 0]),(7,dI (a0.length:Int)),(8,dI (k1:Int))]) (fun k1 _=>[]) I (fun k1 xk1 sk1 ok1 hxk1 hr hltk1 hik1=>?_) fun k1 sk1 ek1 hltk1=>?_
 refine bdE hr fun y1 hy1 hr=>J g<|J (CB' [(0,0)] [] (z4c ih_ieveryNode_iHasRemote_1 (m:=m) hy1))<|J (gn 1)<|ifE hr ?_ ?_<;>intro h1 hr
 exact e
 exact e
 subst ek1
 exact e
def q3O (rec_ieveryNode_iHasRemote_1:Expr→Option Bool)(a0:(List Expr)):Option Bool:=
 (q3T rec_ieveryNode_iHasRemote_1 a0).bind fun y1=>
 some (decide (0≤y1))
theorem q7m {rec_ieveryNode_iHasRemote_1:Expr→Option Bool}(ih_ieveryNode_iHasRemote_1:∀ {m:Md} {a0:Expr} {r:Bool},rec_ieveryNode_iHasRemote_1 a0=some r→Ok Tryz.prog 183 [Expr.x m a0,.fn 234 []] [] (dB r) []){m:Md}{a0:(List Expr)}{r:Bool}(hr:q3O rec_ieveryNode_iHasRemote_1 a0=some r):Ok Tryz.prog 176 [.d m (.sl 7 (a0.map Expr.D)),.fn 236 [.pb 0 0]] [.box [.fn 234 []]] (dB r) [.box [.fn 234 []]]:=by
 refine OE Tryz.func176 fun S hS=>?_
 unfold q3O at hr
 refine bdE hr fun y1 hy1 hr=>J g<|J (CB' [(0,0)] [] (q7P ih_ieveryNode_iHasRemote_1 (m:=m) hy1))<|e
def q5I (rec_ieveryNode_iHasRemote_1:Expr→Option Bool)(a0:Expr):Option Bool:=
 (z3i a0).bind fun y1=>
 if y1=true then (
 (q3O rec_ieveryNode_iHasRemote_1 a0.Args).bind fun y2=>
 some (!y2)
 ) else (
 some false
 )
theorem z4X {rec_ieveryNode_iHasRemote_1:Expr→Option Bool}(ih_ieveryNode_iHasRemote_1:∀ {m:Md} {a0:Expr} {r:Bool},rec_ieveryNode_iHasRemote_1 a0=some r→Ok Tryz.prog 183 [Expr.x m a0,.fn 234 []] [] (dB r) []){m:Md}{a0:Expr}{r:Bool}(hr:q5I rec_ieveryNode_iHasRemote_1 a0=some r):Ok Tryz.prog 183 [Expr.x m a0,.fn 234 []] [] (dB r) []:=by
 refine OE Tryz.func183 fun S hS=>?_
 unfold q5I at hr
 refine J g<|J (BX' 0)<|J (BX' 1)<|bdE hr fun y1 hy1 hr=>J g<|J (CB' [] [] (j4H (m:=m) hy1))<|ifE hr ?_ ?_<;>intro h1 hr
 refine bdE hr fun y2 hy2 hr=>J g<|J (CB' [(0,1)] [] (q7m ih_ieveryNode_iHasRemote_1 (m:=m) hy2))<|e
 exact e
def q5J:Nat→Expr→Option Bool
  | 0,_=>none
  | n+1,a0=>q5I (q5J n) a0
def q8i (a0:Expr):Option Bool:=recO fun n=>q5J n a0
theorem z4Y (n:Nat):∀ {m:Md} {a0:Expr} {r:Bool},q5J n a0=some r→Ok Tryz.prog 183 [Expr.x m a0,.fn 234 []] [] (dB r) []:=by
  induction n with
  | zero=>intro _ _ r hr; exact nomatch (show (none:Option Bool)=some r from hr)
  | succ n ih=>intro _ _ r hr; exact z4X ih hr
theorem z5o {m:Md}{a0:Expr}{r:Bool}(hr:q8i a0=some r):Ok Tryz.prog 183 [Expr.x m a0,.fn 234 []] [] (dB r) []:=by
 obtain⟨n,hn⟩:=q5V hr
 exact z4Y n hn
def z3C (a0:Expr):Option Bool:=
 (q8i a0).bind fun y1=>
 some (!y1)
theorem j7p {m:Md}{a0:Expr}{r:Bool}(hr:z3C a0=some r):Ok Tryz.prog 178 [Expr.x m a0] [] (dB r) []:=by
 refine OE Tryz.func178 fun S hS=>?_
 unfold z3C at hr
 refine J g<|J (BX' 0)<|bdE hr fun y1 hy1 hr=>J g<|J (CB' [] [] (z5o (m:=m) hy1))<|e
def q7L:Nat→Expr→Unit→Option (Unit ⊕ Int):=fun k1 xk1 _=>
 (z3C xk1).bind fun y1=>
 if y1=true then (
 some (.inr (k1:Int))
 ) else (
 some (.inl ())
 )
def q5j (a0:(List Expr)):Option Int:=
 (findL q7L 0 a0 ()).bind <| onr (fun r1=>some r1) fun _=>
 some (-1)
theorem z0V {m:Md}{a0:(List Expr)}{r:Int}(hr:q5j a0=some r):Ok Tryz.prog 233 [.d m (.sl 7 (a0.map Expr.D)),.fn 178 []] [] (dI r) []:=by
 refine OE Tryz.func233 fun S hS=>?_
 unfold q5j at hr
 refine J (gn 12)<|J (lenT 0)<|fun hl1=>bdE hr fun q1 hqq1 hr=>q0b hqq1 hl1 0 (fun k1 _=>[(0,.d m (.sl 7 (a0.map Expr.D))),(1,.fn 178 []),(7,dI (a0.length:Int)),(8,dI (k1:Int))]) (fun k1 _=>[]) I (fun k1 xk1 sk1 ok1 hxk1 hr hltk1 hik1=>?_) fun k1 sk1 ek1 hltk1=>?_
 refine bdE hr fun y1 hy1 hr=>J g<|J (CB' [] [] (j7p (m:=m) hy1))<|J (gn 1)<|ifE hr ?_ ?_<;>intro h1 hr
 exact e
 exact e
 subst ek1
 exact e
def q4X (a0:(List Expr)):Option Bool:=
 (q5j a0).bind fun y1=>
 some (decide (0≤y1))
theorem z0m {m:Md}{a0:(List Expr)}{r:Bool}(hr:q4X a0=some r):Ok Tryz.prog 176 [.d m (.sl 7 (a0.map Expr.D)),.fn 178 []] [] (dB r) []:=by
 refine OE Tryz.func176 fun S hS=>?_
 unfold q4X at hr
 refine bdE hr fun y1 hy1 hr=>J g<|J (CB' [] [] (z0V (m:=m) hy1))<|e
def z3j (a0:Rule):Option Bool:=
 (q9l a0).bind fun y1=>
 (q4X y1).bind fun y2=>
 some y2
theorem j4I {m:Md}{a0:Rule}{r:Bool}(hr:z3j a0=some r):Ok Tryz.prog 175 [Rule.x m a0] [] (dB r) []:=by
 refine OE Tryz.func175 fun S hS=>?_
 unfold z3j at hr
 refine J g<|J (BX' 0)<|bdE hr fun y1 hy1 hr=>J g<|J (CB' [(0,1)] [] (z8H (m:=m) hy1))<|bdE hr fun y2 hy2 hr=>J (CB' [] [1] (z0m (m:=.bo) hy2))<|e
def q7i:Nat→Rule→Unit→Option (Unit ⊕ Int):=fun k1 xk1 _=>
 (z3j xk1).bind fun y1=>
 if y1=true then (
 some (.inr (k1:Int))
 ) else (
 some (.inl ())
 )
def q4Z (a0:(List Rule)):Option Int:=
 (findL q7i 0 a0 ()).bind <| onr (fun r1=>some r1) fun _=>
 some (-1)
theorem z0u {m:Md}{a0:(List Rule)}{r:Int}(hr:q4Z a0=some r):Ok Tryz.prog 232 [.d m (.sl 6 (a0.map Rule.D)),.fn 175 []] [] (dI r) []:=by
 refine OE Tryz.func232 fun S hS=>?_
 unfold q4Z at hr
 refine J (gn 12)<|J (lenT 0)<|fun hl1=>bdE hr fun q1 hqq1 hr=>q0b hqq1 hl1 0 (fun k1 _=>[(0,.d m (.sl 6 (a0.map Rule.D))),(1,.fn 175 []),(7,dI (a0.length:Int)),(8,dI (k1:Int))]) (fun k1 _=>[]) I (fun k1 xk1 sk1 ok1 hxk1 hr hltk1 hik1=>?_) fun k1 sk1 ek1 hltk1=>?_
 refine bdE hr fun y1 hy1 hr=>J g<|J (CB' [] [] (j4I (m:=m) hy1))<|J (gn 1)<|ifE hr ?_ ?_<;>intro h1 hr
 exact e
 exact e
 subst ek1
 exact e
def q4P (a0:(List Rule)):Option Bool:=
 (q4Z a0).bind fun y1=>
 some (decide (0≤y1))
theorem q9J {m:Md}{a0:(List Rule)}{r:Bool}(hr:q4P a0=some r):Ok Tryz.prog 174 [.d m (.sl 6 (a0.map Rule.D)),.fn 175 []] [] (dB r) []:=by
 refine OE Tryz.func174 fun S hS=>?_
 unfold q4P at hr
 refine bdE hr fun y1 hy1 hr=>J g<|J (CB' [] [] (z0u (m:=m) hy1))<|e
def z3D (a0:Grammar):Option Bool:=
 (q4P a0.Rules).bind fun y1=>
 some y1
theorem j7q {m:Md}{a0:Grammar}{r:Bool}(hr:z3D a0=some r):Ok Tryz.prog 120 [.ag [.u,.d m (.sl 6 (a0.Rules.map Rule.D))]] [] (dB r) []:=by
 refine OE Tryz.func120 fun S hS=>?_
 unfold z3D at hr
 refine J g<|J (BX' 0)<|bdE hr fun y1 hy1 hr=>J g<|J (CB' [] [] (q9J (m:=m) hy1))<|e
def z3k (a0:Attribute):Option Bool:=
 some (decide (a0.Mode=3))
theorem j4J {a0:Attribute}{r:Bool}(hr:z3k a0=some r):Ok Tryz.prog 122 [Attribute.x .fz a0] [] (dB r) []:=by
 refine OE Tryz.func122 fun S hS=>?_
 unfold z3k at hr
 refine J g<|J (BX' 0)<|e
def q6q:Nat→Attribute→Unit→Option (Unit ⊕ Int):=fun k1 xk1 _=>
 (z3k xk1).bind fun y1=>
 if y1=true then (
 some (.inr (k1:Int))
 ) else (
 some (.inl ())
 )
def q4y (a0:(List Attribute)):Option Int:=
 (findL q6q 0 a0 ()).bind <| onr (fun r1=>some r1) fun _=>
 some (-1)
theorem q9d {m:Md}{a0:(List Attribute)}{r:Int}(hr:q4y a0=some r):Ok Tryz.prog 235 [.d m (.sl 4 (a0.map Attribute.D)),.fn 122 []] [] (dI r) []:=by
 refine OE Tryz.func235 fun S hS=>?_
 unfold q4y at hr
 refine J (gn 12)<|J (lenT 0)<|fun hl1=>bdE hr fun q1 hqq1 hr=>q0b hqq1 hl1 0 (fun k1 _=>[(0,.d m (.sl 4 (a0.map Attribute.D))),(1,.fn 122 []),(7,dI (a0.length:Int)),(8,dI (k1:Int))]) (fun k1 _=>[]) I (fun k1 xk1 sk1 ok1 hxk1 hr hltk1 hik1=>?_) fun k1 sk1 ek1 hltk1=>?_
 refine bdE hr fun y1 hy1 hr=>J g<|J (CB' [] [] (j4J hy1))<|J (gn 1)<|ifE hr ?_ ?_<;>intro h1 hr
 exact e
 exact e
 subst ek1
 exact e
def q4l (a0:(List Attribute)):Option Bool:=
 (q4y a0).bind fun y1=>
 some (decide (0≤y1))
theorem q8C {m:Md}{a0:(List Attribute)}{r:Bool}(hr:q4l a0=some r):Ok Tryz.prog 181 [.d m (.sl 4 (a0.map Attribute.D)),.fn 122 []] [] (dB r) []:=by
 refine OE Tryz.func181 fun S hS=>?_
 unfold q4l at hr
 refine bdE hr fun y1 hy1 hr=>J g<|J (CB' [] [] (q9d (m:=m) hy1))<|e
def q5E (a0:Symbol):Option Bool:=
 (q4l a0.Attributes).bind fun y1=>
 some y1
theorem z2N {m:Md}{a0:Symbol}{r:Bool}(hr:q5E a0=some r):Ok Tryz.prog 180 [Symbol.x m a0,.pb 0 0] [.box [.fn 122 []]] (dB r) [.box [.fn 122 []]]:=by
 refine OE Tryz.func180 fun S hS=>?_
 unfold q5E at hr
 refine J g<|J (BX' 1)<|bdE hr fun y1 hy1 hr=>J g<|J (CB' [] [] (q8C (m:=m) hy1))<|e
def q5h:Nat→Symbol→Unit→Option (Unit ⊕ Int):=fun k1 xk1 _=>
 (q5E xk1).bind fun y1=>
 if y1=true then (
 some (.inr (k1:Int))
 ) else (
 some (.inl ())
 )
def q3K (a0:(List Symbol)):Option Int:=
 (findL q5h 0 a0 ()).bind <| onr (fun r1=>some r1) fun _=>
 some (-1)
theorem q7b {m:Md}{a0:(List Symbol)}{r:Int}(hr:q3K a0=some r):Ok Tryz.prog 112 [.d m (.sl 2 (a0.map Symbol.D)),.fn 180 [.pb 0 0]] [.box [.fn 122 []]] (dI r) [.box [.fn 122 []]]:=by
 refine OE Tryz.func112 fun S hS=>?_
 unfold q3K at hr
 refine J (gn 12)<|J (lenT 0)<|fun hl1=>bdE hr fun q1 hqq1 hr=>q0b hqq1 hl1 1 (fun k1 _=>[(0,.d m (.sl 2 (a0.map Symbol.D))),(1,.fn 180 [.pb 0 0]),(7,dI (a0.length:Int)),(8,dI (k1:Int))]) (fun k1 _=>[]) I (fun k1 xk1 sk1 ok1 hxk1 hr hltk1 hik1=>?_) fun k1 sk1 ek1 hltk1=>?_
 refine bdE hr fun y1 hy1 hr=>J g<|J (CB' [(0,0)] [] (z2N (m:=m) hy1))<|J (gn 1)<|ifE hr ?_ ?_<;>intro h1 hr
 exact e
 exact e
 subst ek1
 exact e
def q3H (a0:(List Symbol)):Option Bool:=
 (q3K a0).bind fun y1=>
 some (decide (0≤y1))
theorem q6L {m:Md}{a0:(List Symbol)}{r:Bool}(hr:q3H a0=some r):Ok Tryz.prog 179 [.d m (.sl 2 (a0.map Symbol.D)),.fn 180 [.pb 0 0]] [.box [.fn 122 []]] (dB r) [.box [.fn 122 []]]:=by
 refine OE Tryz.func179 fun S hS=>?_
 unfold q3H at hr
 refine bdE hr fun y1 hy1 hr=>J g<|J (CB' [(0,0)] [] (q7b (m:=m) hy1))<|e
def q5s (a0:Grammar):Option Bool:=
 (q3H a0.Symbols).bind fun y1=>
 some y1
theorem z3N {m:Md}{a0:Grammar}{r:Bool}(hr:q5s a0=some r):Ok Tryz.prog 121 [Grammar.y m a0,.fn 122 []] [] (dB r) []:=by
 refine OE Tryz.func121 fun S hS=>?_
 unfold q5s at hr
 refine J g<|J (BX' 0)<|J (BX' 1)<|bdE hr fun y1 hy1 hr=>J g<|J (CB' [(0,1)] [] (q6L (m:=m) hy1))<|e
def z4d (a0:Attribute):Option Bool:=
 some a0.Circular
theorem j5H {a0:Attribute}{r:Bool}(hr:z4d a0=some r):Ok Tryz.prog 123 [Attribute.x .fz a0] [] (dB r) []:=by
 refine OE Tryz.func123 fun S hS=>?_
 unfold z4d at hr
 refine J g<|J (BX' 0)<|e
def q6w:Nat→Attribute→Unit→Option (Unit ⊕ Int):=fun k1 xk1 _=>
 (z4d xk1).bind fun y1=>
 if y1=true then (
 some (.inr (k1:Int))
 ) else (
 some (.inl ())
 )
def q4H (a0:(List Attribute)):Option Int:=
 (findL q6w 0 a0 ()).bind <| onr (fun r1=>some r1) fun _=>
 some (-1)
theorem q9u {m:Md}{a0:(List Attribute)}{r:Int}(hr:q4H a0=some r):Ok Tryz.prog 235 [.d m (.sl 4 (a0.map Attribute.D)),.fn 123 []] [] (dI r) []:=by
 refine OE Tryz.func235 fun S hS=>?_
 unfold q4H at hr
 refine J (gn 12)<|J (lenT 0)<|fun hl1=>bdE hr fun q1 hqq1 hr=>q0b hqq1 hl1 0 (fun k1 _=>[(0,.d m (.sl 4 (a0.map Attribute.D))),(1,.fn 123 []),(7,dI (a0.length:Int)),(8,dI (k1:Int))]) (fun k1 _=>[]) I (fun k1 xk1 sk1 ok1 hxk1 hr hltk1 hik1=>?_) fun k1 sk1 ek1 hltk1=>?_
 refine bdE hr fun y1 hy1 hr=>J g<|J (CB' [] [] (j5H hy1))<|J (gn 1)<|ifE hr ?_ ?_<;>intro h1 hr
 exact e
 exact e
 subst ek1
 exact e
def q4q (a0:(List Attribute)):Option Bool:=
 (q4H a0).bind fun y1=>
 some (decide (0≤y1))
theorem q8H {m:Md}{a0:(List Attribute)}{r:Bool}(hr:q4q a0=some r):Ok Tryz.prog 181 [.d m (.sl 4 (a0.map Attribute.D)),.fn 123 []] [] (dB r) []:=by
 refine OE Tryz.func181 fun S hS=>?_
 unfold q4q at hr
 refine bdE hr fun y1 hy1 hr=>J g<|J (CB' [] [] (q9u (m:=m) hy1))<|e
def q5P (a0:Symbol):Option Bool:=
 (q4q a0.Attributes).bind fun y1=>
 some y1
theorem z3E {m:Md}{a0:Symbol}{r:Bool}(hr:q5P a0=some r):Ok Tryz.prog 180 [Symbol.x m a0,.pb 0 0] [.box [.fn 123 []]] (dB r) [.box [.fn 123 []]]:=by
 refine OE Tryz.func180 fun S hS=>?_
 unfold q5P at hr
 refine J g<|J (BX' 1)<|bdE hr fun y1 hy1 hr=>J g<|J (CB' [] [] (q8H (m:=m) hy1))<|e
def q5n:Nat→Symbol→Unit→Option (Unit ⊕ Int):=fun k1 xk1 _=>
 (q5P xk1).bind fun y1=>
 if y1=true then (
 some (.inr (k1:Int))
 ) else (
 some (.inl ())
 )
def q3N (a0:(List Symbol)):Option Int:=
 (findL q5n 0 a0 ()).bind <| onr (fun r1=>some r1) fun _=>
 some (-1)
theorem q7j {m:Md}{a0:(List Symbol)}{r:Int}(hr:q3N a0=some r):Ok Tryz.prog 112 [.d m (.sl 2 (a0.map Symbol.D)),.fn 180 [.pb 0 0]] [.box [.fn 123 []]] (dI r) [.box [.fn 123 []]]:=by
 refine OE Tryz.func112 fun S hS=>?_
 unfold q3N at hr
 refine J (gn 12)<|J (lenT 0)<|fun hl1=>bdE hr fun q1 hqq1 hr=>q0b hqq1 hl1 1 (fun k1 _=>[(0,.d m (.sl 2 (a0.map Symbol.D))),(1,.fn 180 [.pb 0 0]),(7,dI (a0.length:Int)),(8,dI (k1:Int))]) (fun k1 _=>[]) I (fun k1 xk1 sk1 ok1 hxk1 hr hltk1 hik1=>?_) fun k1 sk1 ek1 hltk1=>?_
 refine bdE hr fun y1 hy1 hr=>J g<|J (CB' [(0,0)] [] (z3E (m:=m) hy1))<|J (gn 1)<|ifE hr ?_ ?_<;>intro h1 hr
 exact e
 exact e
 subst ek1
 exact e
def q3J (a0:(List Symbol)):Option Bool:=
 (q3N a0).bind fun y1=>
 some (decide (0≤y1))
theorem q6O {m:Md}{a0:(List Symbol)}{r:Bool}(hr:q3J a0=some r):Ok Tryz.prog 179 [.d m (.sl 2 (a0.map Symbol.D)),.fn 180 [.pb 0 0]] [.box [.fn 123 []]] (dB r) [.box [.fn 123 []]]:=by
 refine OE Tryz.func179 fun S hS=>?_
 unfold q3J at hr
 refine bdE hr fun y1 hy1 hr=>J g<|J (CB' [(0,0)] [] (q7j (m:=m) hy1))<|e
def q5x (a0:Grammar):Option Bool:=
 (q3J a0.Symbols).bind fun y1=>
 some y1
theorem z4e {m:Md}{a0:Grammar}{r:Bool}(hr:q5x a0=some r):Ok Tryz.prog 121 [Grammar.y m a0,.fn 123 []] [] (dB r) []:=by
 refine OE Tryz.func121 fun S hS=>?_
 unfold q5x at hr
 refine J g<|J (BX' 0)<|J (BX' 1)<|bdE hr fun y1 hy1 hr=>J g<|J (CB' [(0,1)] [] (q6O (m:=m) hy1))<|e
def z4Z (a0:Grammar):Option Bool:=
 (z2F a0).bind fun y1=>
 (
 if y1=true then (
 (z3D a0).bind fun y2=>
 some (!y2)
 ) else (
 some false
 )
 ).bind fun s1=>
 (
 if s1=true then (
 (q5s a0).bind fun y3=>
 some (!y3)
 ) else (
 some false
 )
 ).bind fun s2=>
 (
 if s2=true then (
 (q5x a0).bind fun y4=>
 some (!y4)
 ) else (
 some false
 )
 ).bind fun s3=>
 some s3
theorem j8S {m:Md}{a0:Grammar}{r:Bool}(hr:z4Z a0=some r):Ok Tryz.prog 69 [Grammar.x m a0] [] (dB r) []:=by
 refine OE Tryz.func69 fun S hS=>?_
 unfold z4Z at hr
 refine J g<|J (BX' 0)<|bdE hr fun y1 hy1 hr=>J g<|J (CB' [] [] (j2p (m:=m) hy1))<|bdE hr fun s1 hqq1 hr=>q0a 5 [(1,.pb 0 0),(2,dB false),(9,dB s1)] ?_ ?_
 replace hr:=hqq1
 refine ifE hr ?_ ?_<;>intro h1 hr
 refine bdE hr fun y2 hy2 hr=>J g<|J (CB' [] [] (j7q (m:=m) hy2))<|e
 exact e
 refine bdE hr fun s2 hqq2 hr=>q0a 5 [(1,.pb 0 0),(2,dB false),(14,dB s2)] ?_ ?_
 replace hr:=hqq2
 refine ifE hr ?_ ?_<;>intro h2 hr
 refine bdE hr fun y3 hy3 hr=>J g<|J (CB' [] [] (z3N (m:=m) hy3))<|e
 exact e
 refine bdE hr fun s3 hqq3 hr=>q0a 5 [(2,dB false),(19,dB s3)] ?_ ?_
 replace hr:=hqq3
 refine ifE hr ?_ ?_<;>intro h3 hr
 refine bdE hr fun y4 hy4 hr=>J g<|J (CB' [] [] (z4e (m:=m) hy4))<|e
 exact e
 exact e
def z0W (a0:Relation)(k1:Nat)(xk1:Int):Nat→Int→((List Int))→Option ((List Int)):=fun k2 xk2 s2=>
 (
 (q9m a0 xk1 xk2).bind fun y3=>
 if y3=true then (
 (s2[k1]?).bind fun x1=>
 grd (0≤(k2:Int)∧(k2:Int) < 63) <|
 grd (0≤x1∧0≤((2 ^ (k2:Int).toNat:Nat):Int)) <|
 some (List.set s2 k1 ((x1.toNat ||| ((2 ^ (k2:Int).toNat:Nat):Int).toNat:Nat):Int))
 ) else (
 some s2
 )
 ).bind fun s3=>
 some s3
def z0X (a0:Relation)(a1:(List Int)):Nat→Int→((List Int))→Option ((List Int)):=fun k1 xk1 s1=>
 (eachL (z0W a0 k1 xk1) 0 a1 s1).bind fun s2=>
 some s2
def q8g (a0:Relation)(a1:(List Int)):Option Relation:=
 (q4N a0).bind fun y1=>
 if y1=true then (
 if 16 < (a1.length:Int) then (
 some (⟨0,[]⟩:Relation)
 ) else (
 (q6n (a1.length:Int)).bind fun y2=>
 (eachL (z0X a0 a1) 0 a1 y2.Rows).bind fun s1=>
 some (⟨y2.N,s1⟩:Relation)
 )
 ) else (
 some (⟨0,[]⟩:Relation)
 )
theorem j0i {m:Md}{a0:Relation}{a1:(List Int)}{r:Relation}(hr:q8g a0 a1=some r):Ok Tryz.prog 74 [Relation.x m a0,.d m (.sl 1 (a1.map (A.D.i .i64)))] [] (.ag [dI r.N,.ref 0 none]) [.row .fz 1 (r.Rows.map (A.D.i .i64))]:=by
 refine OE Tryz.func74 fun S hS=>?_
 unfold q8g at hr
 refine J g<|J (BX' 0)<|J (NV' 1)<|bdE hr fun y1 hy1 hr=>J g<|J (CB' [] [] (q5T (m:=m) hy1))<|J (gn 1)<|ifE hr ?_ ?_<;>intro h1 hr
 refine J (gn 6)<|ifE hr ?_ ?_<;>intro h2 hr
 refine J (gn 7) ?_
 refine J (q0g (q0m (q:=1) (c:=1) (r:=2) .fz 1 rfl rfl rfl))<|J g<|E
 refine bdE hr fun y2 hy2 hr=>J g<|J (CB' [(0,2)] [] (z0d hy2))<|J (NV' 3)<|J (gn 10)<|J (lenT 1)<|fun hl1=>bdE hr fun s1 hqq1 hr=>q0c hqq1 hl1 4 (fun k1 s1=>[(1,.d m (.sl 1 (a1.map (A.D.i .i64)))),(2,.pb 0 0),(4,.pb 1 0),(5,.pb 3 0),(22,.d m (.sl 1 (a1.map (A.D.i .i64)))),(23,dI (a1.length:Int)),(24,dI (k1:Int))]) (fun k1 s1=>[(2,.row .fz 1 (s1.map (A.D.i .i64)))]) I (fun k1 xk1 sk1 ok1 hxk1 hr hltk1=>?_) fun k1 hltk1=>?_
 obtain⟨s1,rfl⟩:∃ y,y=sk1:=⟨_,rfl⟩
 refine J (gn 24)<|J (lenT 1)<|fun hl2=>bdE hr fun s2 hqq2 hr=>q0c hqq2 hl2 4 (fun k2 s2=>[(1,.d m (.sl 1 (a1.map (A.D.i .i64)))),(2,.pb 0 0),(4,.pb 1 0),(5,.pb 3 0),(6,dI (k1:Int)),(7,dI xk1),(22,.d m (.sl 1 (a1.map (A.D.i .i64)))),(23,dI (a1.length:Int)),(24,dI (k1:Int)),(29,.d m (.sl 1 (a1.map (A.D.i .i64)))),(30,dI (a1.length:Int)),(31,dI (k2:Int))]) (fun k2 s2=>[(2,.row .fz 1 (s2.map (A.D.i .i64)))]) I (fun k2 xk2 sk2 ok2 hxk2 hr hltk2=>?_) fun k2 hltk2=>?_
 obtain⟨s2,rfl⟩:∃ y,y=sk2:=⟨_,rfl⟩
 refine bdE hr fun s3 hqq3 hr=>J (gn 8)<|q0d 4 [(1,.d m (.sl 1 (a1.map (A.D.i .i64)))),(2,.pb 0 0),(4,.pb 1 0),(5,.pb 3 0),(6,dI (k1:Int)),(7,dI xk1),(22,.d m (.sl 1 (a1.map (A.D.i .i64)))),(23,dI (a1.length:Int)),(24,dI (k1:Int)),(29,.d m (.sl 1 (a1.map (A.D.i .i64)))),(30,dI (a1.length:Int)),(31,dI (k2:Int))] [(2,.row .fz 1 (s3.map (A.D.i .i64)))] ?_ ?_
 replace hr:=hqq3
 refine bdE hr fun y3 hy3 hr=>J g<|J (CB' [] [] (z4S (m:=m) hy3))<|J (gn 1)<|ifE hr ?_ ?_<;>intro h3 hr
 refine bdE hr fun x1 hx1 hr=>J g ?_
 refine J (CIU' (Int.natCast_nonneg _) rfl)<|ggE hr fun g1 hr=>J (OB' _ (k2s g1))<|ggE hr fun g2 hr=>J (OB' _ (bOrI g2))<|J g<|J (SE' ((x1.toNat ||| ((2 ^ (k2:Int).toNat:Nat):Int).toNat:Nat):Int) hx1)<|J g<|E
 exact e
 exact e
 exact e
 exact e
 refine J (gn 13) ?_
 refine J (q0g (q0m (q:=1) (c:=1) (r:=2) .fz 1 rfl rfl rfl))<|J g<|E
def q8p (a0:Grammar)(s4:List Relation)(xk2:Rule):Nat→((List Int) × Int)→Option ((List Int) × Int):=fun k3 (s6,s7)=>
 (q6A xk2 (k3:Int)).bind fun y4=>
 (q7q a0 y4).bind fun y5=>
 grd (0≤y5) <|
 (s4[y5.toNat]?).bind fun x1=>
 (z9o a0 xk2 (⟨s7,s6⟩:Relation) (k3:Int) x1).bind fun y6=>
 some (y6.Rows,y6.N)
def q8q (a0:Grammar)(xk2:Rule)(y7:Relation):Nat→((List Relation) × Bool)→Option ((List Relation) × Bool):=fun k4 (s8,s9)=>
 (
 (q6A xk2 (k4:Int)).bind fun y9=>
 (q7q a0 y9).bind fun y10=>
 grd (0≤y10) <|
 (s8[y10.toNat]?).bind fun x2=>
 (q4O a0 xk2 (k4:Int)).bind fun y11=>
 (q8g y7 y11).bind fun y12=>
 (q7Y x2 y12).bind fun y13=>
 if s9=true then (
 some (true,(List.set s8 y10.toNat y13))
 ) else (
 (q9b y13 x2).bind fun y14=>
 some (!y14,(List.set s8 y10.toNat y13))
 )
 ).bind fun (s10,s11)=>
 some (s11,s10)
def q5D (a0:Grammar):Nat→Rule→((List Relation) × Bool)→Option (((List Relation) × Bool) ⊕ ((List Relation) × Bool)):=fun k2 xk2 (s4,s5)=>
 (q6o a0 xk2).bind fun y3=>
 grd (I64 ((xk2.Right.length+1:Nat):Int)) <|
 (eachN (q8p a0 s4 xk2) 0 (xk2.Right.length+1) (y3.Rows,y3.N)).bind fun (s6,s7)=>
 (q7a (⟨s7,s6⟩:Relation)).bind fun y7=>
 (z0e y7).bind fun y8=>
 if y8=true then (
 some (.inr ([],false))
 ) else (
 grd (I64 ((xk2.Right.length+1:Nat):Int)) <|
 (eachN (q8q a0 xk2 y7) 0 (xk2.Right.length+1) (s4,s5)).bind fun (s8,s9)=>
 some (.inl (s8,s9))
 )
def q3G (a0:Grammar):((List Relation) × Bool)→Option (((List Relation) × Bool) ⊕ (((List Relation)) ⊕ ((List Relation) × Bool))):=fun (s2,s3)=>
 if s3=true then (
 (findL (q5D a0) 0 a0.Rules (s2,false)).bind <| onr (fun r1=>some (.inr (.inr r1))) fun (s4,s5)=>
 some (.inl (s4,s5))
 ) else (
 some (.inr (.inl s2))
 )
def q5U (a0:Grammar):Option ((List Relation) × Bool):=
 (z4Z a0).bind fun y1=>
 if y1=true then (
 (q7y a0).bind fun y2=>
 (q4i (q3G a0) (y2,true)).bind <| onr (fun r2=>some r2) fun s1=>
 some (s1,true)
 ) else (
 some ([],false)
 )
theorem z0v {m:Md}{a0:Grammar}{r:((List Relation) × Bool)}(hr:q5U a0=some r):Ok Tryz.prog 23 [Grammar.x m a0] [] (.tu [.ref 0 none,dB r.2]) [.deep .fz 2 (r.1.map Relation.W) []]:=by
 refine OE Tryz.func23 fun S hS=>?_
 unfold q5U at hr
 refine J g<|J (BX' 0)<|bdE hr fun y1 hy1 hr=>J g<|J (CB' [] [] (j8S (m:=m) hy1))<|J (gn 2)<|ifE hr ?_ ?_<;>intro h1 hr
 refine bdE hr fun y2 hy2 hr=>J g<|J (CB' [(0,1)] [] (z5F (m:=m) hy2))<|bdE hr fun q1 hqq1 hr=>J (gn 7)<|AW.cut 2 (fun s1=>[(4,.ref 1 none)]) (fun s1=>[(1,.deep .fz 2 (s1.map Relation.W) [])]) (M:=fun x=>q1 = .inl x) ?_ fun x hx=>?_
 refine J g<|q0h hqq1 2 (fun (s2,s3)=>[(1,.pb 0 0),(4,.ref 1 none),(5,dB s3)]) (fun (s2,s3)=>[(1,.deep .fz 2 (s2.map Relation.W) [])]) I fun sk1 ok1 hr hik1=>?_
 obtain⟨s2,s3⟩:=sk1
 have hr:=hr
 refine J (gn 5)<|ifE hr ?_ ?_<;>intro h2 hr
 refine J (gn 15)<|J (lenT 20)<|fun hl2=>bdE hr fun q2 hqq2 hr=>q0b hqq2 hl2 2 (fun k2 (s4,s5)=>[(1,.pb 0 0),(4,.ref 1 none),(5,dB s5),(20,.d m (.sl 6 (a0.Rules.map Rule.D))),(21,dI (a0.Rules.length:Int)),(22,dI (k2:Int))]) (fun k2 (s4,s5)=>[(1,.deep .fz 2 (s4.map Relation.W) [])]) I (fun k2 xk2 sk2 ok2 hxk2 hr hltk2 hik2=>?_) fun k2 sk2 ek2 hltk2=>?_
 obtain⟨s4,s5⟩:=sk2
 unfold q5D at hr
 dsimp only at hr
 refine J g<|J (NV' 2)<|bdE hr fun y3 hy3 hr=>J g<|J (CB' [(0,3)] [] (z6x (m:=m) hy3))<|J (NV' 4)<|ggE hr fun g1 hr=>J (gn 12)<|J (rngT 32)<|fun hl3=>bdP hr fun s6 s7 hqq3 hr=>q0k hqq3 5 (fun k3 (s6,s7)=>[(1,.pb 0 0),(4,.ref 1 none),(5,dB s5),(7,.pb 2 0),(8,.pb 4 0),(20,.d m (.sl 6 (a0.Rules.map Rule.D))),(21,dI (a0.Rules.length:Int)),(22,dI (k2:Int)),(32,dI ((xk2.Right.length+1:Nat):Int)),(33,dI (k3:Int))]) (fun k3 (s6,s7)=>[(3,.row .fz 1 (s6.map (A.D.i .i64))),(4,.box [dI s7,.ref 3 none])]) I (fun k3 sk3 ok3 hr hltk3=>?_) ?_
 obtain⟨s6,s7⟩:=sk3
 refine bdE hr fun y4 hy4 hr=>bdE hr fun y5 hy5 hr=>ggE hr fun g2 hr=>bdE hr fun x1 hx1 hr=>J (gn 14)<|J (q0N 1 y5.toNat 1 5 (q3D hx1))<|J g<|J (CB' [] [] (z1e (m:=m) hy4))<|J (CB' [] [] (z1T (m:=m) hy5))<|J (IEd' g2 (q3C (q3D hx1)))<|J (k3U [(1,5)] (q3C (q3D hx1)))<|bdE hr fun y6 hy6 hr=>J (CB' [(0,3),(1,6)] [5] (j8N (m:=.bo) hy6))<|J (gn 6) ?_
 cases hr
 exact GH.trans (q0i 1 y5.toNat 1 5 (q3C (q3D hx1)) (hx:=.flatM (fun _=>rfl))) (GH.trans (q0j 1 (he:=k8t (f:=Relation.W) hx1 (by first | rfl | (simp only [List.set_set]; rfl)))) (q0M hS [(0,0),(1,1),(2,2),(6,3),(4,4)] 5))
 refine bdE hr fun y7 hy7 hr=>J g<|J (CB' [(0,5)] [3] (z2K (m:=.bo) hy7))<|bdE hr fun y8 hy8 hr=>J g<|J (CB' [] [5] (j0f (m:=.bo) hy8))<|J (gn 1)<|ifE hr ?_ ?_<;>intro h3 hr
 refine J (gn 7) ?_
 refine J (q0g (q0s (t:=2) (r:=6) .fz 2 rfl rfl))<|J (q0g (q0L 6 Relation.W))<|J g<|E
 refine ggE hr fun g3 hr=>J (gn 11)<|J (rngT 32)<|fun hl4=>bdP hr fun s8 s9 hqq4 hr=>q0k hqq4 6 (fun k4 (s8,s9)=>[(1,.pb 0 0),(4,.ref 1 none),(5,dB s9),(7,.pb 2 0),(8,.pb 4 0),(20,.d m (.sl 6 (a0.Rules.map Rule.D))),(21,dI (a0.Rules.length:Int)),(22,dI (k2:Int)),(57,dI ((xk2.Right.length+1:Nat):Int)),(58,dI (k4:Int))]) (fun k4 (s8,s9)=>[(1,.deep .fz 2 (s8.map Relation.W) [])]) I (fun k4 sk4 ok4 hr hltk4=>?_) ?_
 obtain⟨s8,s9⟩:=sk4
 refine bdP hr fun s10 s11 hqq5 hr=>J (gn 8)<|q0d 6 [(1,.pb 0 0),(4,.ref 1 none),(5,dB s10),(7,.pb 2 0),(8,.pb 4 0),(20,.d m (.sl 6 (a0.Rules.map Rule.D))),(21,dI (a0.Rules.length:Int)),(22,dI (k2:Int)),(57,dI ((xk2.Right.length+1:Nat):Int)),(58,dI (k4:Int))] [(1,.deep .fz 2 (s11.map Relation.W) [])] ?_ ?_
 replace hr:=hqq5
 refine bdE hr fun y9 hy9 hr=>J g<|J (CB' [] [] (z1e (m:=m) hy9))<|bdE hr fun y10 hy10 hr=>J (CB' [] [] (z1T (m:=m) hy10))<|ggE hr fun g4 hr=>bdE hr fun x2 hx2 hr=>J (gn 2)<|J (q0N 1 y10.toNat 1 6 (q3D hx2))<|J g<|J (IEd' g4 (q3C (q3D hx2)))<|J (k3U [(1,6)] (q3C (q3D hx2)))<|bdE hr fun y11 hy11 hr=>J g<|J (CB' [(0,7)] [] (z0U (m:=m) hy11))<|bdE hr fun y12 hy12 hr=>J (CB' [(0,8)] [5,7] (j0i (m:=.bo) hy12))<|bdE hr fun y13 hy13 hr=>J (CB' [(0,9)] [6,8] (z6A (m:=.bo) hy13))<|J (NV' 10)<|J (gn 5)<|ifE hr ?_ ?_<;>intro h4 hr
 refine J (gn 9)<|J (q0o .refl)<|J g<|J (IEd' g4 (q3C (q3D hx2)))<|J (SD' [.d .fz (.i .i64 y13.N),.w 1 (y13.Rows.map (A.D.i .i64))] [9] (q3C (q3D hx2)))<|J (gn 1) ?_
 cases hr
 exact GH.trans (q0j 1 (he:=eset (f:=Relation.W) (x':=y13) (by first | rfl | (simp only [List.set_set]; rfl)))) (q0e hS 6)
 refine J g<|J (IEd' g4 (q3C (q3D hx2)))<|J (k3U [(1,6)] (q3C (q3D hx2)))<|bdE hr fun y14 hy14 hr=>J (CB' [] [9,6] (z6B (m:=.bo) hy14))<|J (gn 2)<|J (q0o .refl)<|J g<|J (IEd' g4 (q3C (q3D hx2)))<|J (SD' [.d .fz (.i .i64 y13.N),.w 1 (y13.Rows.map (A.D.i .i64))] [9] (q3C (q3D hx2)))<|J (gn 1) ?_
 cases hr
 exact GH.trans (q0j 1 (he:=eset (f:=Relation.W) (x':=y13) (by first | rfl | (simp only [List.set_set]; rfl)))) (q0e hS 6)
 exact e
 exact e
 subst ek2
 obtain⟨s4,s5⟩:=sk2
 exact e
 refine J (gn 2) ?_
 cases hr
 cases hik1 _ rfl
 exact⟨_,rfl,q0e hS 2⟩
 subst hx
 obtain⟨s1,rfl⟩:∃ y,y=x:=⟨_,rfl⟩
 exact e
 refine J (gn 7) ?_
 refine J (q0g (q0s (t:=2) (r:=1) .fz 2 rfl rfl))<|J (q0g (q0L 1 Relation.W))<|J g<|E
def q6s (a0:Grammar):Option Bool:=
 (q9M a0 1048576).bind fun y1=>
 if y1 < 0 then (
 some true
 ) else (
 (q4z a0).bind fun y2=>
 (q6F y2).bind fun (y3,y4)=>
 (q4z a0).bind fun y5=>
 (q5U y5).bind fun (y6,y7)=>
 (q6K y6 y3).bind fun y8=>
 (
 if y8=true then (
 some (!(decide (y7=y4)))
 ) else (
 some true
 )
 ).bind fun s1=>
 if s1=true then (
 some false
 ) else (
 (q4z a0).bind fun y9=>
 (q8K y5 y9).bind fun y10=>
 if y10=true then (
 (q7s y5 1).bind fun (y11,z1,z2)=>
 (
 if y11 < 0 then (
 some true
 ) else (
 (q6K y6 y3).bind fun y12=>
 some (!y12)
 )
 ).bind fun s2=>
 (
 if s2=true then (
 some true
 ) else (
 some (!(decide (y7=y4)))
 )
 ).bind fun s3=>
 if s3=true then (
 some false
 ) else (
 (q9c y6 1).bind fun (y13,z3)=>
 (q6p z3 1).bind fun y14=>
 if y14 < 0 then (
 some false
 ) else (
 if y14=y13 then (
 (q4z a0).bind fun y15=>
 (q5U y15).bind fun (y16,y17)=>
 (q6K y16 y3).bind fun y18=>
 (
 if y18=true then (
 some (!(decide (y17=y4)))
 ) else (
 some true
 )
 ).bind fun s4=>
 if s4=true then (
 some false
 ) else (
 (q6p z3 1).bind fun y19=>
 if y19 < 0 then (
 some false
 ) else (
 if y19=y13 then (
 some true
 ) else (
 some false
 )
 )
 )
 ) else (
 some false
 )
 )
 )
 ) else (
 some false
 )
 )
 )
theorem z5a {m:Md}{a0:Grammar}{r:Bool}(hr:q6s a0=some r):Ok Tryz.prog 5 [Grammar.x m a0] [] (dB r) []:=by
 refine OE Tryz.func5 fun S hS=>?_
 unfold q6s at hr
 refine J g<|J (BX' 0)<|bdE hr fun y1 hy1 hr=>J g<|J (CB' [] [] (z3U (m:=m) hy1))<|J (gn 8)<|ifE hr ?_ ?_<;>intro h1 hr
 exact e
 refine bdE hr fun y2 hy2 hr=>J g<|J (CB' [(0,1),(1,2)] [] (q4T (m:=m) hy2))<|bdP hr fun y3 y4 hq1 hr=>J (CB' [(0,3)] [1,2] (z3P (m:=.bo) hq1))<|bdE hr fun y5 hy5 hr=>J g<|J (CB' [(0,4),(1,5)] [] (q4T (m:=m) hy5))<|J (NV' 6)<|bdP hr fun y6 y7 hq2 hr=>J g<|J (CB' [(0,7)] [4,5] (z0v (m:=.bo) hq2))<|bdE hr fun y8 hy8 hr=>J g<|J (CB' [] [7,3] (q8B (m:=.bo) hy8))<|bdE hr fun s1 hqq3 hr=>J (gn 1)<|q0a 5 [(1,.pb 0 0),(4,.ref 3 none),(5,dB y4),(6,.pb 6 0),(7,.ref 7 none),(8,dB y7),(40,dB s1)] ?_ ?_
 replace hr:=hqq3
 refine ifE hr ?_ ?_<;>intro h2 hr
 refine J g ?_
 refine J (BQn' rfl rfl)<|J g<|E
 exact e
 refine J (gn 1)<|ifE hr ?_ ?_<;>intro h3 hr
 exact e
 refine bdE hr fun y9 hy9 hr=>J g<|J (CB' [(0,8),(1,9)] [] (q4T (m:=m) hy9))<|bdE hr fun y10 hy10 hr=>J (CB' [] [4,5,8,9] (z4a (m:=.bo) hy10))<|J (gn 2)<|ifE hr ?_ ?_<;>intro h4 hr
 refine bdT hr fun y11 z1 z2 hq4 hr=>J g<|J (CB' [(0,4),(1,5)] [] (z2b hq4))<|bdE hr fun s2 hqq5 hr=>J (gn 7)<|q0a 6 [(1,.pb 0 0),(4,.ref 3 none),(5,dB y4),(7,.ref 7 none),(8,dB y7),(56,dB s2)] ?_ ?_
 replace hr:=hqq5
 refine ifE hr ?_ ?_<;>intro h5 hr
 exact e
 refine bdE hr fun y12 hy12 hr=>J g<|J (CB' [] [7,3] (q8B (m:=.bo) hy12))<|e
 refine bdE hr fun s3 hqq6 hr=>q0a 5 [(1,.pb 0 0),(4,.ref 3 none),(5,dB y4),(7,.ref 7 none),(61,dB s3)] ?_ ?_
 replace hr:=hqq6
 refine ifE hr ?_ ?_<;>intro h6 hr
 exact e
 refine J g ?_
 refine J (BQn' rfl rfl)<|J g<|E
 refine J (gn 1)<|ifE hr ?_ ?_<;>intro h7 hr
 exact e
 refine bdP hr fun y13 z3 hq7 hr=>J g<|J (CB' [(0,7)] [] (z6G hq7))<|bdE hr fun y14 hy14 hr=>J g<|J (CB' [] [7] (z0l (m:=.bo) hy14))<|J (gn 8)<|ifE hr ?_ ?_<;>intro h8 hr
 exact e
 refine J (gn 9)<|ifE hr ?_ ?_<;>intro h9 hr
 refine bdE hr fun y15 hy15 hr=>J g<|J (CB' [(0,10),(1,11)] [] (q4T (m:=m) hy15))<|bdP hr fun y16 y17 hq8 hr=>J (CB' [(0,12)] [10,11] (z0v (m:=.bo) hq8))<|bdE hr fun y18 hy18 hr=>J g<|J (CB' [] [12,3] (q8B (m:=.bo) hy18))<|bdE hr fun s4 hqq9 hr=>J (gn 1)<|q0a 5 [(7,.ref 7 none),(10,dI y13),(87,dB s4)] ?_ ?_
 replace hr:=hqq9
 refine ifE hr ?_ ?_<;>intro h10 hr
 refine J g ?_
 refine J (BQn' rfl rfl)<|J g<|E
 exact e
 refine J (gn 1)<|ifE hr ?_ ?_<;>intro h11 hr
 exact e
 refine bdE hr fun y19 hy19 hr=>J g<|J (CB' [] [7] (z0l (m:=.bo) hy19))<|J (gn 8)<|ifE hr ?_ ?_<;>intro h12 hr
 exact e
 refine J (gn 9)<|ifE hr ?_ ?_<;>intro h13 hr
 exact e
 exact e
 exact e
 exact e
def z8Q (a0:Relation)(a1:(List Bool))(a2:Int):Nat→Unit→Option (Unit ⊕ Bool):=fun k1 _=>
 (q7v a0 (k1:Int) a2).bind fun y1=>
 if y1=true then (
 (a1[k1]?).bind fun x1=>
 if x1=true then (
 some (.inl ())
 ) else (
 some (.inr false)
 )
 ) else (
 some (.inl ())
 )
def z2O (a0:Relation)(a1:(List Bool))(a2:Int):Option Bool:=
 (findN (z8Q a0 a1 a2) 0 a0.N.toNat ()).bind <| onr (fun r1=>some r1) fun _=>
 some true
theorem j8T {m:Md}{a0:Relation}{a1:(List Bool)}{a2:Int}{r:Bool}(hr:z2O a0 a1 a2=some r):Ok Tryz.prog 189 [Relation.x m a0,.d m (.sl 1 (a1.map A.D.b)),dI a2] [] (dB r) []:=by
 refine OE Tryz.func189 fun S hS=>?_
 unfold z2O at hr
 refine J g<|J (BX' 0)<|J (gn 8) ?_
 refine q0y (.ag 0 (.tmp 0 rfl) rfl) fun hl1=>?_
 refine bdE hr fun q1 hqq1 hr=>q0q hqq1 1 (fun k1 _=>[(1,.d m (.sl 1 (a1.map A.D.b))),(2,dI a2),(3,.pb 0 0),(7,dI (k1:Int))]) (fun k1 _=>[]) I (fun k1 sk1 ok1 hr hltk1 hik1=>?_) fun sk1 ek1=>?_
 refine bdE hr fun y1 hy1 hr=>J g<|J (CB' [] [] (z2v (m:=m) hy1))<|ifE hr ?_ ?_<;>intro h1 hr
 refine bdE hr fun x1 hx1 hr=>J (gn 8)<|ifE hr ?_ ?_<;>intro h2 hr
 exact e
 exact e
 exact e
 subst ek1
 exact e
def z0Y (a0:(List Attribute))(a1:Relation)(a3:Int)(s2:List Bool):(Int × Int)→Option ((Int × Int) ⊕ Int):=fun (s4,s5)=>
 if 0≤s5 then (
 (
 grd (0≤s5) <|
 (a0[s5.toNat]?).bind fun x1=>
 (
 if x1.Mode=a3 then (
 grd (0≤s5) <|
 (s2[s5.toNat]?).bind fun x2=>
 some (!x2)
 ) else (
 some false
 )
 ).bind fun s7=>
 (
 if s7=true then (
 (z2O a1 s2 s5).bind fun y1=>
 some y1
 ) else (
 some false
 )
 ).bind fun s8=>
 if s8=true then (
 some s5
 ) else (
 some s4
 )
 ).bind fun s6=>
 grd (I64 (s5 - 1)) <|
 some (.inl (s6,(s5 - 1)))
 ) else (
 some (.inr s4)
 )
def z2P (a0:(List Attribute))(a1:Relation)(a3:Int):((List ByteArray) × (List Bool))→Option (((List ByteArray) × (List Bool)) ⊕ ((List ByteArray) × (List Bool))):=fun (s1,s2)=>
 (q4i (z0Y a0 a1 a3 s2) ((-1),((a0.length:Int) - 1))).bind fun s3=>
 if s3 < 0 then (
 some (.inr (s1,s2))
 ) else (
 grd (0≤s3) <|
 (s2[s3.toNat]?).bind fun x3=>
 grd (0≤s3) <|
 (a0[s3.toNat]?).bind fun x4=>
 grd (((s1.length:Int)+1)*16≤140737488355328∧(s1.length:Int)+1≤9223372036854775807) <|
 some (.inl ((s1++[x4.Name]),(List.set s2 s3.toNat true)))
 )
def z1g (a0:(List Attribute))(a1:Relation)(a2:(List Bool))(a3:Int):Option ((List ByteArray) × (List Bool)):=
 (q4i (z2P a0 a1 a3) (([]:List ByteArray),a2)).bind fun r1=>some r1
theorem j4K {m:Md}{a0:(List Attribute)}{a1:Relation}{a2:(List Bool)}{a3:Int}{r:((List ByteArray) × (List Bool))}(hr:z1g a0 a1 a2 a3=some r):Ok Tryz.prog 129 [.d m (.sl 4 (a0.map Attribute.D)),Relation.x m a1,.ref 0 none,dI a3] [.row .fz 1 (a2.map A.D.b)] (.ref 1 none) [.row .fz 1 (r.2.map A.D.b),.row .fz 1 (r.1.map A.D.s)]:=by
 refine OE Tryz.func129 fun S hS=>?_
 unfold z1g at hr
 refine J g<|J (BX' 1)<|J g<|J (L0' 2 A.D.s)<|bdE hr fun q1 hqq1 hr=>J g<|q0h hqq1 3 (fun (s1,s2)=>[(0,.d m (.sl 4 (a0.map Attribute.D))),(2,.ref 0 none),(3,dI a3),(5,.pb 1 0),(9,.ref 2 none)]) (fun (s1,s2)=>[(0,.row .fz 1 (s2.map A.D.b)),(2,.row .fz 1 (s1.map A.D.s))]) I fun sk1 ok1 hr hik1=>?_
 obtain⟨s1,s2⟩:=sk1
 refine J g<|J (OB' _ (k8s (p:=a0.length) (k:=1) (by decide)))<|bdE hr fun s3 hqq2 hr=>J (gn 2)<|q0d 3 [(0,.d m (.sl 4 (a0.map Attribute.D))),(2,.ref 0 none),(3,dI a3),(5,.pb 1 0),(9,.ref 2 none),(10,dI s3)] [] ?_ ?_
 refine J g<|q0h hqq2 3 (fun (s4,s5)=>[(0,.d m (.sl 4 (a0.map Attribute.D))),(2,.ref 0 none),(3,dI a3),(5,.pb 1 0),(9,.ref 2 none),(10,dI s4),(11,dI s5)]) (fun (s4,s5)=>[]) I fun sk2 ok2 hr hik2=>?_
 obtain⟨s4,s5⟩:=sk2
 have hr:=hr
 refine J (gn 6)<|ifE hr ?_ ?_<;>intro h1 hr
 refine bdE hr fun s6 hqq3 hr=>J (gn 3)<|q0d 3 [(0,.d m (.sl 4 (a0.map Attribute.D))),(2,.ref 0 none),(3,dI a3),(5,.pb 1 0),(9,.ref 2 none),(10,dI s6),(11,dI s5)] [] ?_ ?_
 replace hr:=hqq3
 refine ggE hr fun g1 hr=>bdE hr fun x1 hx1 hr=>bdE hr fun s7 hqq4 hr=>J (gn 10)<|q0a 7 [(0,.d m (.sl 4 (a0.map Attribute.D))),(2,.ref 0 none),(3,dI a3),(5,.pb 1 0),(9,.ref 2 none),(10,dI s4),(11,dI s5),(33,dB s7)] ?_ ?_
 replace hr:=hqq4
 refine ifE hr ?_ ?_<;>intro h2 hr
 refine ggE hr fun g2 hr=>bdE hr fun x2 hx2 hr=>e
 exact e
 refine bdE hr fun s8 hqq5 hr=>q0a 6 [(0,.d m (.sl 4 (a0.map Attribute.D))),(2,.ref 0 none),(3,dI a3),(5,.pb 1 0),(9,.ref 2 none),(10,dI s4),(11,dI s5),(39,dB s8)] ?_ ?_
 replace hr:=hqq5
 refine ifE hr ?_ ?_<;>intro h3 hr
 refine bdE hr fun y1 hy1 hr=>J g<|J (CB' [] [0] (j8T (m:=.bo) hy1))<|e
 exact e
 refine J (gn 1)<|ifE hr ?_ ?_<;>intro h4 hr
 exact e
 exact e
 refine ggE hr fun g3 hr=>e
 refine J (gn 2) ?_
 cases hr
 cases hik2 _ rfl
 exact q0e hS 3
 refine J (gn 6)<|ifE hr ?_ ?_<;>intro h5 hr
 exact e
 refine ggE hr fun g4 hr=>bdE hr fun x3 hx3 hr=>J g<|J (SE' true hx3)<|ggE hr fun g5 hr=>bdE hr fun x4 hx4 hr=>J g<|J (LIR' 3 (m:=.fz) (f:=A.D.s) (xs:=[x4.Name]))<|ggE hr fun g6 hr=>J (z4z (f:=A.D.s) 4 (fun _=>rfl) 16 g6)<|e
def z1h (a0:(List Attribute))(a1:Relation):((List Phase) × (List Bool) × Int)→Option (((List Phase) × (List Bool) × Int) ⊕ (((List Phase) × (List Bool)) ⊕ ((List Phase) × Bool))):=fun (s5,s6,s7)=>
 (
 if 0 < s7 then (
 some true
 ) else (
 some (decide ((s5.length:Int)=0))
 )
 ).bind fun s8=>
 if s8=true then (
 (z1g a0 a1 s6 1).bind fun (y3,z1)=>
 (z1g a0 a1 z1 2).bind fun (y4,z2)=>
 grd (I64 ((y3.length+y4.length:Nat):Int)) <|
 (
 if ((y3.length+y4.length:Nat):Int)=0 then (
 some (decide (0 < s7))
 ) else (
 some false
 )
 ).bind fun s9=>
 if s9=true then (
 some (.inr (.inr ([],false)))
 ) else (
 grd (I64 (s7 - ((y3.length+y4.length:Nat):Int))) <|
 grd (((s5.length:Int)+1)*48≤140737488355328∧(s5.length:Int)+1≤9223372036854775807) <|
 some (.inl ((s5++[(⟨y3,y4⟩:Phase)]),z2,(s7 - ((y3.length+y4.length:Nat):Int))))
 )
 ) else (
 some (.inr (.inl (s5,s6)))
 )
def z5b (a0:(List Attribute))(a1:Relation):Option ((List Phase) × Bool):=
 (q4c a1).bind fun y1=>
 (
 if y1=true then (
 some (!(decide (a1.N=(a0.length:Int))))
 ) else (
 some true
 )
 ).bind fun s1=>
 (
 if s1=true then (
 some true
 ) else (
 (q9j a1).bind fun y2=>
 some y2
 )
 ).bind fun s2=>
 if s2=true then (
 some ([],false)
 ) else (
 grd (0≤(a0.length:Int)∧(a0.length:Int)*1≤281474976710656∧(a0.length:Int)≤9223372036854775807) <|
 (q4i (z1h a0 a1) (([]:List Phase),(List.replicate a0.length false),(a0.length:Int))).bind <| onr (fun r1=>some r1) fun (s3,s4)=>
 some (s3,true)
 )
theorem j8U {m:Md}{a0:(List Attribute)}{a1:Relation}{r:((List Phase) × Bool)}(hr:z5b a0 a1=some r):Ok Tryz.prog 76 [.d m (.sl 4 (a0.map Attribute.D)),Relation.x m a1] [] (.tu [.ref 0 none,dB r.2]) [.row .fz 2 (r.1.map Phase.D)]:=by
 refine OE Tryz.func76 fun S hS=>?_
 unfold z5b at hr
 refine J g<|J (BX' 0)<|bdE hr fun y1 hy1 hr=>J g<|J (CB' [] [] (q5c (m:=m) hy1))<|bdE hr fun s1 hqq1 hr=>J (gn 1)<|q0a 7 [(0,.d m (.sl 4 (a0.map Attribute.D))),(3,.pb 0 0),(20,dB s1)] ?_ ?_
 replace hr:=hqq1
 refine ifE hr ?_ ?_<;>intro h1 hr
 exact e
 exact e
 refine bdE hr fun s2 hqq2 hr=>q0a 4 [(0,.d m (.sl 4 (a0.map Attribute.D))),(3,.pb 0 0),(24,dB s2)] ?_ ?_
 replace hr:=hqq2
 refine ifE hr ?_ ?_<;>intro h2 hr
 exact e
 refine bdE hr fun y2 hy2 hr=>J g<|J (CB' [] [] (z9U (m:=m) hy2))<|e
 refine J (gn 1)<|ifE hr ?_ ?_<;>intro h3 hr
 refine J g<|J (L0' 1 Phase.D)<|e
 refine J g<|J (L0' 1 Phase.D)<|ggE hr fun g1 hr=>J g<|J (MKR' 2 (f:=A.D.b) false g1.1 g1.2.1 g1.2.2)<|bdE hr fun q3 hqq3 hr=>J (gn 9)<|AW.cut 3 (fun (s3,s4)=>[(6,.ref 1 none)]) (fun (s3,s4)=>[(1,.row .fz 2 (s3.map Phase.D)),(2,.row .fz 1 (s4.map A.D.b))]) (M:=fun x=>q3 = .inl x) ?_ fun x hx=>?_
 refine J g<|q0h hqq3 3 (fun (s5,s6,s7)=>[(0,.d m (.sl 4 (a0.map Attribute.D))),(3,.pb 0 0),(6,.ref 1 none),(7,.ref 2 none),(8,dI s7)]) (fun (s5,s6,s7)=>[(1,.row .fz 2 (s5.map Phase.D)),(2,.row .fz 1 (s6.map A.D.b))]) I fun sk1 ok1 hr hik1=>?_
 obtain⟨s5,s6,s7⟩:=sk1
 have hr:=hr
 refine bdE hr fun s8 hqq4 hr=>J (gn 5)<|q0a 5 [(0,.d m (.sl 4 (a0.map Attribute.D))),(3,.pb 0 0),(6,.ref 1 none),(7,.ref 2 none),(8,dI s7),(38,dB s8)] ?_ ?_
 replace hr:=hqq4
 refine ifE hr ?_ ?_<;>intro h4 hr
 exact e
 exact e
 refine J (gn 1)<|ifE hr ?_ ?_<;>intro h5 hr
 refine bdP hr fun y3 z1 hq5 hr=>J g<|J (CB' [(0,2),(1,3)] [] (j4K (m:=m) hq5))<|J g<|J (NV' 4)<|bdP hr fun y4 z2 hq6 hr=>J g<|J (CB' [(0,2),(1,5)] [] (j4K (m:=m) hq6))<|ggE hr fun g2 hr=>J g<|J (OB' _ (z9v (p:=y3.length) (q:=y4.length) g2))<|bdE hr fun s9 hqq7 hr=>J (gn 7)<|q0a 4 [(0,.d m (.sl 4 (a0.map Attribute.D))),(3,.pb 0 0),(6,.ref 1 none),(7,.ref 2 none),(8,dI s7),(9,.pb 4 0),(10,dI ((y3.length+y4.length:Nat):Int)),(61,dB s9)] ?_ ?_
 replace hr:=hqq7
 refine ifE hr ?_ ?_<;>intro h6 hr
 exact e
 exact e
 refine J (gn 1)<|ifE hr ?_ ?_<;>intro h7 hr
 refine J g<|J (L0' 6 Phase.D)<|e
 refine ggE hr fun g3 hr=>J (gn 12) ?_
 refine J (q0p 3 rfl) ?_
 refine J (q0p 5 rfl)<|J (LIR' 6 (m:=.fz) (f:=Phase.D) (xs:=[(⟨y3,y4⟩:Phase)]))<|ggE hr fun g4 hr=>J (AP1' 7 .fz 48 g4)<|J g<|E
 refine J (gn 2) ?_
 cases hr
 cases hik1 _ rfl
 exact⟨_,rfl,q0e hS 3⟩
 subst hx
 obtain⟨s3,s4⟩:=x
 exact e
end Go.Proofs.YtcegfmageiicaaaGreat
