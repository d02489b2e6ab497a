/- What some functions of the program compute, as partial functions on plain data, and that they do; each lemma bears its conditions in its statement. -/
import Derived.Test.YtcegfmageiicaaaGreatLift3
set_option linter.unusedVariables false
set_option linter.unusedSimpArgs false
set_option linter.ambiguousOpen false
set_option linter.unusedSectionVars false
set_option linter.unnecessarySimpa false
set_option maxRecDepth 100000
set_option maxHeartbeats 40000000
noncomputable section
namespace Go.Proofs.YtcegfmageiicaaaGreat
open Go Go.E Go.A
def k2J (a1:(List Int)):Nat→Int→Unit→Option (Unit ⊕ Bool):=fun k1 xk1 _=>
 (a1[k1]?).bind fun x1=>
 if xk1=x1 then (
 some (.inl ())
 ) else (
 some (.inr false)
 )
def j0N (a0:(List Int))(a1:(List Int)):Option Bool:=
 if (a0.length:Int)=(a1.length:Int) then (
 (findL (k2J a1) 0 a0 ()).bind <| onr (fun r1=>some r1) fun _=>
 some true
 ) else (
 some false
 )
theorem k2K {m:Md}{a0:(List Int)}{a1:(List Int)}{r:Bool}(hr:j0N a0 a1=some r):Ok Tryz.prog 109 [.d m (.sl 1 (a0.map (A.D.i .i64))),.d m (.sl 1 (a1.map (A.D.i .i64)))] [] (dB r) []:=by
 refine OE Tryz.func109 fun S hS=>?_
 unfold j0N at hr
 refine J (gn 13)<|ifE hr ?_ ?_<;>intro h1 hr
 refine J (gn 8)<|J (lenT 0)<|fun hl1=>bdE hr fun q1 hqq1 hr=>q0b hqq1 hl1 0 (fun k1 _=>[(0,.d m (.sl 1 (a0.map (A.D.i .i64)))),(1,.d m (.sl 1 (a1.map (A.D.i .i64)))),(5,dI (k1:Int))]) (fun k1 _=>[]) I (fun k1 xk1 sk1 ok1 hxk1 hr hltk1 hik1=>?_) fun k1 sk1 ek1 hltk1=>?_
 refine bdE hr fun x1 hx1 hr=>J (gn 24)<|ifE hr ?_ ?_<;>intro h2 hr
 exact e
 exact e
 subst ek1
 exact e
 exact e
def q7W (a0:Relation)(a1:Relation):Option Bool:=
 if a0.N=a1.N then (
 (j0N a0.Rows a1.Rows).bind fun y1=>
 some y1
 ) else (
 some false
 )
theorem z6q {m:Md}{a0:Relation}{a1:Relation}{r:Bool}(hr:q7W a0 a1=some r):Ok Tryz.prog 54 [Relation.x m a0,Relation.x m a1] [] (dB r) []:=by
 refine OE Tryz.func54 fun S hS=>?_
 unfold q7W at hr
 refine J g<|J (BX' 0)<|J (BX' 1)<|J (gn 9)<|ifE hr ?_ ?_<;>intro h1 hr
 refine bdE hr fun y1 hy1 hr=>J g<|J (CB' [] [] (k2K (m:=m) hy1))<|e
 exact e
def z1H (a0:Grammar):Nat→Symbol→((List Relation))→Option ((List Relation)):=fun k1 xk1 s1=>
 (q4K a0 xk1.Name).bind fun y2=>
 (q4h (y2.length:Int)).bind fun y3=>
 grd (((s1.length:Int)+1)*32≤140737488355328∧(s1.length:Int)+1≤9223372036854775807) <|
 some (s1++[y3])
def q9z (a0:Grammar):Nat→Rule→(Bool × (List Relation))→Option (Bool × (List Relation)):=fun k3 xk3 (s3,s4)=>
 (
 (z2Y a0 xk3.Left).bind fun y4=>
 grd (0≤y4) <|
 (s4[y4.toNat]?).bind fun x1=>
 (z4p a0 xk3 s4).bind fun y5=>
 (q9i a0 xk3 y5).bind fun y6=>
 (q9R a0 xk3 y6).bind fun y7=>
 (q7V x1 y7).bind fun y8=>
 if s3=true then (
 some (true,(List.set s4 y4.toNat y8))
 ) else (
 (q7W y8 x1).bind fun y9=>
 some (!y9,(List.set s4 y4.toNat y8))
 )
 ).bind fun (s5,s6)=>
 some (s5,s6)
def q6Q (a0:Grammar):(List Relation)→Option ((List Relation) ⊕ ((List Relation) × Bool)):=fun s2=>
 (eachL (q9z a0) 0 a0.Rules (false,s2)).bind fun (s3,s4)=>
 if s3=true then (
 some (.inl s4)
 ) else (
 some (.inr (s4,true))
 )
def q6y (a0:Grammar):Option ((List Relation) × Bool):=
 (z4o a0).bind fun y1=>
 if y1=true then (
 (eachL (z1H a0) 0 a0.Symbols ([]:List Relation)).bind fun s1=>
 (q4i (q6Q a0) s1).bind fun r1=>some r1
 ) else (
 some ([],false)
 )
theorem z5C {m:Md}{a0:Grammar}{r:((List Relation) × Bool)}(hr:q6y a0=some r):Ok Tryz.prog 17 [Grammar.x m a0] [] (.tu [.ref 0 none,dB r.2]) [.row .fz 2 (r.1.map Relation.D)]:=by
 refine OE Tryz.func17 fun S hS=>?_
 unfold q6y at hr
 refine J g<|J (BX' 0)<|bdE hr fun y1 hy1 hr=>J g<|J (CB' [] [] (j4o (m:=m) hy1))<|J (gn 2)<|ifE hr ?_ ?_<;>intro h1 hr
 refine J g<|J (L0' 1 Relation.D)<|J (gn 8)<|J (lenA 0 0)<|fun hl1=>bdE hr fun s1 hqq1 hr=>q0c hqq1 hl1 2 (fun k1 s1=>[(1,.pb 0 0),(4,.ref 1 none),(5,dI (k1:Int))]) (fun k1 s1=>[(1,.row .fz 2 (s1.map Relation.D))]) I (fun k1 xk1 sk1 ok1 hxk1 hr hltk1=>?_) fun k1 hltk1=>?_
 obtain⟨s1,rfl⟩:∃ y,y=sk1:=⟨_,rfl⟩
 refine bdE hr fun y2 hy2 hr=>J g<|J (CB' [(0,2)] [] (q7G (m:=m) hy2))<|bdE hr fun y3 hy3 hr=>J g<|J (CBz' 3 [(0,3)] [] (q8r hy3))<|J (LIR' 4 (m:=.fz) (f:=Relation.D) (xs:=[y3]))<|ggE hr fun g1 hr=>J (AP1' 5 .fz 32 g1)<|J (q0o .refl)<|e
 refine bdE hr fun q2 hqq2 hr=>J g<|q0h hqq2 2 (fun s2=>[(1,.pb 0 0),(4,.ref 1 none)]) (fun s2=>[(1,.row .fz 2 (s2.map Relation.D))]) I fun sk2 ok2 hr hik2=>?_
 obtain⟨s2,rfl⟩:∃ y,y=sk2:=⟨_,rfl⟩
 refine J (gn 11) ?_
 refine AW.len (.box 0 1 rfl rfl) fun hl3=>?_
 refine bdP hr fun s3 s4 hqq3 hr=>q0c hqq3 hl3 2 (fun k3 (s3,s4)=>[(1,.pb 0 0),(4,.ref 1 none),(6,dB s3),(7,dI (k3:Int))]) (fun k3 (s3,s4)=>[(1,.row .fz 2 (s4.map Relation.D))]) I (fun k3 xk3 sk3 ok3 hxk3 hr hltk3=>?_) fun k3 hltk3=>?_
 obtain⟨s3,s4⟩:=sk3
 refine bdP hr fun s5 s6 hqq4 hr=>J (gn 12)<|q0d 2 [(1,.pb 0 0),(4,.ref 1 none),(6,dB s5),(7,dI (k3:Int))] [(1,.row .fz 2 (s6.map Relation.D))] ?_ ?_
 replace hr:=hqq4
 refine J g<|J (NV' 2)<|bdE hr fun y4 hy4 hr=>J g<|J (CB' [] [] (z6m (m:=m) hy4))<|ggE hr fun g2 hr=>bdE hr fun x1 hx1 hr=>bdE hr fun y5 hy5 hr=>J g<|J (CBk' 0 1 [(1,3)] [] (j4q (m:=m) (m2:=.fz) hy5))<|bdE hr fun y6 hy6 hr=>J (CB' [(0,4)] [3] (z8w (m:=.bo) hy6))<|bdE hr fun y7 hy7 hr=>J (CB' [(0,5)] [4] (j7c (m:=.bo) hy7))<|bdE hr fun y8 hy8 hr=>J (CB' [(0,6)] [5] (z6p (m:=.bo) hy8))<|J (NV' 7)<|J (gn 5)<|ifE hr ?_ ?_<;>intro h2 hr
 refine J (gn 9)<|J (q0o .refl)<|J (gn 7) ?_
 refine J (q0p 6 rfl)<|J (SE' y8 hx1)<|J g<|E
 refine bdE hr fun y9 hy9 hr=>J g<|J (CB' [] [6] (z6q (m:=.bo) hy9))<|J (gn 2)<|J (q0o .refl)<|J (gn 7) ?_
 refine J (q0p 6 rfl)<|J (SE' y8 hx1)<|J g<|E
 exact e
 refine J (gn 16)<|ifE hr ?_ ?_<;>intro h3 hr
 exact e
 exact e
 refine J g<|J (L0' 1 Relation.D)<|e
def z2y (y2:Relation):Nat→Unit→Option (Unit ⊕ Bool):=fun k1 _=>
 (q7v y2 (k1:Int) (k1:Int)).bind fun y3=>
 if y3=true then (
 some (.inr true)
 ) else (
 some (.inl ())
 )
def q9j (a0:Relation):Option Bool:=
 (q4c a0).bind fun y1=>
 if y1=true then (
 (q6W a0).bind fun y2=>
 (findN (z2y y2) 0 a0.N.toNat ()).bind <| onr (fun r1=>some r1) fun _=>
 some false
 ) else (
 some false
 )
theorem z9U {m:Md}{a0:Relation}{r:Bool}(hr:q9j a0=some r):Ok Tryz.prog 36 [Relation.x m a0] [] (dB r) []:=by
 refine OE Tryz.func36 fun S hS=>?_
 unfold q9j at hr
 refine J g<|J (BX' 0)<|bdE hr fun y1 hy1 hr=>J g<|J (CB' [] [] (q5c (m:=m) hy1))<|J (gn 2)<|ifE hr ?_ ?_<;>intro h1 hr
 refine bdE hr fun y2 hy2 hr=>J g<|J (CB' [(0,1)] [] (z2x (m:=m) hy2))<|J (NV' 2)<|J (gn 8) ?_
 refine q0y (.ag 0 (.tmp 0 rfl) rfl) fun hl1=>?_
 refine bdE hr fun q1 hqq1 hr=>q0q hqq1 3 (fun k1 _=>[(1,.pb 0 0),(3,.pb 2 0),(4,dI (k1:Int))]) (fun k1 _=>[]) I (fun k1 sk1 ok1 hr hltk1 hik1=>?_) fun sk1 ek1=>?_
 refine bdE hr fun y3 hy3 hr=>J g<|J (CB' [] [1] (z2v (m:=.bo) hy3))<|J (gn 1)<|ifE hr ?_ ?_<;>intro h2 hr
 exact e
 exact e
 subst ek1
 exact e
 exact e
def q6z (a0:Grammar)(y1:(List Relation))(y2:Bool):((List ByteArray) × Int)→Option (((List ByteArray) × Int) ⊕ ((List ByteArray))):=fun (s2,s3)=>
 if s3 < (a0.Rules.length:Int) then (
 if y2=true then (
 (
 grd (0≤s3) <|
 (a0.Rules[s3.toNat]?).bind fun x1=>
 (z4p a0 x1 y1).bind fun y3=>
 (q9i a0 x1 y3).bind fun y4=>
 (q9j y4).bind fun y5=>
 if y5=true then (
 grd (((s2.length:Int)+1)*16≤140737488355328∧(s2.length:Int)+1≤9223372036854775807) <|
 some (s2++[x1.Name])
 ) else (
 some s2
 )
 ).bind fun s4=>
 grd (I64 (s3+1)) <|
 some (.inl (s4,(s3+1)))
 ) else (
 some (.inr s2)
 )
 ) else (
 some (.inr s2)
 )
def q8Y (a0:Grammar):Option (List ByteArray):=
 (q6y a0).bind fun (y1,y2)=>
 (q4i (q6z a0 y1 y2) (([]:List ByteArray),0)).bind fun s1=>
 some s1
theorem j1F {m:Md}{a0:Grammar}{r:(List ByteArray)}(hr:q8Y a0=some r):Ok Tryz.prog 9 [Grammar.x m a0] [] (.ref 0 none) [.row .fz 1 (r.map A.D.s)]:=by
 refine OE Tryz.func9 fun S hS=>?_
 unfold q8Y at hr
 refine J g<|J (BX' 0)<|J g<|J (L0' 1 A.D.s)<|bdP hr fun y1 y2 hq1 hr=>J g<|J (CB' [(0,2)] [] (z5C (m:=m) hq1))<|bdE hr fun s1 hqq2 hr=>J (gn 11)<|q0d 3 [(3,.ref 1 none)] [(1,.row .fz 1 (s1.map A.D.s))] ?_ ?_
 refine J g<|q0h hqq2 3 (fun (s2,s3)=>[(1,.pb 0 0),(3,.ref 1 none),(4,.ref 2 none),(5,dB y2),(6,dI s3)]) (fun (s2,s3)=>[(1,.row .fz 1 (s2.map A.D.s))]) I fun sk1 ok1 hr hik1=>?_
 obtain⟨s2,s3⟩:=sk1
 have hr:=hr
 refine J (gn 8)<|ifE hr ?_ ?_<;>intro h1 hr
 refine J (gn 4)<|ifE hr ?_ ?_<;>intro h2 hr
 refine bdE hr fun s4 hqq3 hr=>J (gn 3)<|q0d 3 [(1,.pb 0 0),(3,.ref 1 none),(4,.ref 2 none),(5,dB y2),(6,dI s3),(19,dB y2)] [(1,.row .fz 1 (s4.map A.D.s))] ?_ ?_
 replace hr:=hqq3
 refine ggE hr fun g1 hr=>bdE hr fun x1 hx1 hr=>bdE hr fun y3 hy3 hr=>J g<|J (CBk' 0 2 [(1,3)] [] (j4q (m:=m) (m2:=.fz) hy3))<|bdE hr fun y4 hy4 hr=>J (CB' [(0,4)] [3] (z8w (m:=.bo) hy4))<|bdE hr fun y5 hy5 hr=>J (CB' [] [4] (z9U (m:=.bo) hy5))<|J (gn 1)<|ifE hr ?_ ?_<;>intro h3 hr
 refine J g<|J (LIR' 5 (m:=.fz) (f:=A.D.s) (xs:=[x1.Name]))<|ggE hr fun g2 hr=>J (z4z (f:=A.D.s) 6 (fun _=>rfl) 16 g2)<|e
 exact e
 refine ggE hr fun g3 hr=>e
 refine J (gn 2) ?_
 cases hr
 cases hik1 _ rfl
 exact q0e hS 3
 refine J (gn 6) ?_
 cases hr
 cases hik1 _ rfl
 exact q0e hS 3
 exact e
def q3Z (a0:Int)(a1:Int)(a2:Int):Option Bool:=
 if a1≤a0 then (
 some (decide (a0≤a2))
 ) else (
 some false
 )
theorem q4A {a0:Int}{a1:Int}{a2:Int}{r:Bool}(hr:q3Z a0 a1 a2=some r):Ok Tryz.prog 128 [dI a0,dI a1,dI a2] [] (dB r) []:=by
 refine OE Tryz.func128 fun S hS=>?_
 unfold q3Z at hr
 refine J (gn 9)<|ifE hr ?_ ?_<;>intro h1 hr
 exact e
 exact e
def z4q (a0:UInt8):Option Bool:=
 if 97≤(a0.toNat:Int) then (
 some (decide ((a0.toNat:Int)≤122))
 ) else (
 some false
 )
theorem j4r {a0:UInt8}{r:Bool}(hr:z4q a0=some r):Ok Tryz.prog 313 [.d .fz (.i .u8 (a0.toNat:Int))] [] (dB r) []:=by
 refine OE Tryz.func313 fun S hS=>?_
 unfold z4q at hr
 refine J (gn 8)<|ifE hr ?_ ?_<;>intro h1 hr
 exact e
 exact e
def z6r (a0:UInt8):Option Bool:=
 if 48≤(a0.toNat:Int) then (
 some (decide ((a0.toNat:Int)≤57))
 ) else (
 some false
 )
theorem k0i {a0:UInt8}{r:Bool}(hr:z6r a0=some r):Ok Tryz.prog 314 [.d .fz (.i .u8 (a0.toNat:Int))] [] (dB r) []:=by
 refine OE Tryz.func314 fun S hS=>?_
 unfold z6r at hr
 refine J (gn 8)<|ifE hr ?_ ?_<;>intro h1 hr
 exact e
 exact e
def z1I (a0:ByteArray):Option Bool:=
 if a0=(⟨#[105,102]⟩:ByteArray) then (
 if a0=(⟨#[105,102]⟩:ByteArray) then (
 some true
 ) else (
 some false
 )
 ) else (
 if a0=(⟨#[116,104,101,110]⟩:ByteArray) then (
 if a0=(⟨#[116,104,101,110]⟩:ByteArray) then (
 some true
 ) else (
 some false
 )
 ) else (
 if a0=(⟨#[101,108,115,101]⟩:ByteArray) then (
 if a0=(⟨#[101,108,115,101]⟩:ByteArray) then (
 some true
 ) else (
 some false
 )
 ) else (
 if a0=(⟨#[116,114,117,101]⟩:ByteArray) then (
 if a0=(⟨#[116,114,117,101]⟩:ByteArray) then (
 some true
 ) else (
 some false
 )
 ) else (
 if a0=(⟨#[102,97,108,115,101]⟩:ByteArray) then (
 if a0=(⟨#[102,97,108,115,101]⟩:ByteArray) then (
 some true
 ) else (
 some false
 )
 ) else (
 if a0=(⟨#[108,105,116]⟩:ByteArray) then (
 if a0=(⟨#[108,105,116]⟩:ByteArray) then (
 some true
 ) else (
 some false
 )
 ) else (
 if a0=(⟨#[110,111,110,101]⟩:ByteArray) then (
 if a0=(⟨#[110,111,110,101]⟩:ByteArray) then (
 some true
 ) else (
 some false
 )
 ) else (
 if a0=(⟨#[115,101,108,102]⟩:ByteArray) then (
 if a0=(⟨#[115,101,108,102]⟩:ByteArray) then (
 some true
 ) else (
 some false
 )
 ) else (
 if a0=(⟨#[111,102]⟩:ByteArray) then (
 if a0=(⟨#[111,102]⟩:ByteArray) then (
 some true
 ) else (
 some false
 )
 ) else (
 if a0=(⟨#[109,97,120]⟩:ByteArray) then (
 if a0=(⟨#[109,97,120]⟩:ByteArray) then (
 some true
 ) else (
 some false
 )
 ) else (
 if a0=(⟨#[109,105,110]⟩:ByteArray) then (
 if a0=(⟨#[109,105,110]⟩:ByteArray) then (
 some true
 ) else (
 some false
 )
 ) else (
 if a0=(⟨#[119,105,116,104]⟩:ByteArray) then (
 if a0=(⟨#[119,105,116,104]⟩:ByteArray) then (
 some true
 ) else (
 some false
 )
 ) else (
 if a0=(⟨#[104,97,115]⟩:ByteArray) then (
 some true
 ) else (
 some false
 )
 )
 )
 )
 )
 )
 )
 )
 )
 )
 )
 )
 )
theorem j5v {a0:ByteArray}{r:Bool}(hr:z1I a0=some r):Ok Tryz.prog 315 [dS a0] [] (dB r) []:=by
 refine OE Tryz.func315 fun S hS=>?_
 unfold z1I at hr
 refine J (gn 16)<|ifE hr ?_ ?_<;>intro h1 hr
 refine J (gn 2)<|ifE hr ?_ ?_<;>intro h2 hr
 exact e
 exact e
 refine J (gn 6)<|ifE hr ?_ ?_<;>intro h3 hr
 refine J (gn 2)<|ifE hr ?_ ?_<;>intro h4 hr
 exact e
 exact e
 refine J (gn 6)<|ifE hr ?_ ?_<;>intro h5 hr
 refine J (gn 2)<|ifE hr ?_ ?_<;>intro h6 hr
 exact e
 exact e
 refine J (gn 6)<|ifE hr ?_ ?_<;>intro h7 hr
 refine J (gn 2)<|ifE hr ?_ ?_<;>intro h8 hr
 exact e
 exact e
 refine J (gn 6)<|ifE hr ?_ ?_<;>intro h9 hr
 refine J (gn 2)<|ifE hr ?_ ?_<;>intro h10 hr
 exact e
 exact e
 refine J (gn 6)<|ifE hr ?_ ?_<;>intro h11 hr
 refine J (gn 2)<|ifE hr ?_ ?_<;>intro h12 hr
 exact e
 exact e
 refine J (gn 6)<|ifE hr ?_ ?_<;>intro h13 hr
 refine J (gn 2)<|ifE hr ?_ ?_<;>intro h14 hr
 exact e
 exact e
 refine J (gn 6)<|ifE hr ?_ ?_<;>intro h15 hr
 refine J (gn 2)<|ifE hr ?_ ?_<;>intro h16 hr
 exact e
 exact e
 refine J (gn 6)<|ifE hr ?_ ?_<;>intro h17 hr
 refine J (gn 2)<|ifE hr ?_ ?_<;>intro h18 hr
 exact e
 exact e
 refine J (gn 6)<|ifE hr ?_ ?_<;>intro h19 hr
 refine J (gn 2)<|ifE hr ?_ ?_<;>intro h20 hr
 exact e
 exact e
 refine J (gn 6)<|ifE hr ?_ ?_<;>intro h21 hr
 refine J (gn 2)<|ifE hr ?_ ?_<;>intro h22 hr
 exact e
 exact e
 refine J (gn 6)<|ifE hr ?_ ?_<;>intro h23 hr
 refine J (gn 2)<|ifE hr ?_ ?_<;>intro h24 hr
 exact e
 exact e
 refine J (gn 5)<|ifE hr ?_ ?_<;>intro h25 hr
 exact e
 exact e
def z8x (a0:ByteArray):Nat→Unit→Option (Unit ⊕ Bool):=fun k1 _=>
 (a0.data[k1]?).bind fun x1=>
 (z4q x1).bind fun y1=>
 if y1=true then (
 some (.inl ())
 ) else (
 (z6r x1).bind fun y2=>
 if y2=true then (
 some (.inl ())
 ) else (
 some (.inr false)
 )
 )
def q4C (a0:ByteArray):Option Bool:=
 (findN (z8x a0) 0 a0.size ()).bind <| onr (fun r1=>some r1) fun _=>
 (q3Z (a0.size:Int) 1 8).bind fun y3=>
 (
 if y3=true then (
 (a0.data[0]?).bind fun x2=>
 (z4q x2).bind fun y4=>
 some y4
 ) else (
 some false
 )
 ).bind fun s1=>
 (
 if s1=true then (
 (z1I a0).bind fun y5=>
 some (!y5)
 ) else (
 some false
 )
 ).bind fun s2=>
 some s2
theorem q5v {a0:ByteArray}{r:Bool}(hr:q4C a0=some r):Ok Tryz.prog 299 [dS a0] [] (dB r) []:=by
 refine OE Tryz.func299 fun S hS=>?_
 unfold q4C at hr
 refine J g<|J LS'<|J (gn 3)<|J (rngT 5)<|fun hl1=>bdE hr fun q1 hqq1 hr=>q0q hqq1 0 (fun k1 _=>[(0,dS a0),(5,dI (a0.size:Int)),(6,dI (k1:Int))]) (fun k1 _=>[]) I (fun k1 sk1 ok1 hr hltk1 hik1=>?_) fun sk1 ek1=>?_
 refine bdE hr fun x1 hx1 hr=>J g ?_
 refine J (SI' rfl rfl (Int.natCast_nonneg _) hx1)<|bdE hr fun y1 hy1 hr=>J (CB' [] [] (j4r hy1))<|J (gn 1)<|ifE hr ?_ ?_<;>intro h1 hr
 exact e
 refine J g ?_
 refine J (SI' rfl rfl (Int.natCast_nonneg _) hx1)<|bdE hr fun y2 hy2 hr=>J (CB' [] [] (k0i hy2))<|J (gn 3)<|ifE hr ?_ ?_<;>intro h2 hr
 exact e
 exact e
 subst ek1
 refine J g<|J LS'<|bdE hr fun y3 hy3 hr=>J (CB' [] [] (q4A hy3))<|bdE hr fun s1 hqq2 hr=>q0a 5 [(0,dS a0),(29,dB s1)] ?_ ?_
 replace hr:=hqq2
 refine ifE hr ?_ ?_<;>intro h3 hr
 refine bdE hr fun x2 hx2 hr=>J g ?_
 refine J (SI' rfl rfl (Int.natCast_nonneg _) hx2)<|bdE hr fun y4 hy4 hr=>J (CB' [] [] (j4r hy4))<|J g<|E
 exact e
 refine bdE hr fun s2 hqq3 hr=>q0a 5 [(34,dB s2)] ?_ ?_
 replace hr:=hqq3
 refine ifE hr ?_ ?_<;>intro h4 hr
 refine bdE hr fun y5 hy5 hr=>J g<|J (CB' [] [] (j5v hy5))<|e
 exact e
 exact e
def z6s (a0:Int):Option Bool:=
 (q3Z a0 1 4).bind fun y1=>
 some y1
theorem j6c {a0:Int}{r:Bool}(hr:z6s a0=some r):Ok Tryz.prog 312 [dI a0] [] (dB r) []:=by
 refine OE Tryz.func312 fun S hS=>?_
 unfold z6s at hr
 refine bdE hr fun y1 hy1 hr=>J g<|J (CB' [] [] (q4A hy1))<|e
def q7H (a0:Attribute):Option Bool:=
 (q4C a0.Name).bind fun y1=>
 (
 if y1=true then (
 (z6s a0.Type_).bind fun y2=>
 some (!y2)
 ) else (
 some true
 )
 ).bind fun s1=>
 (
 if s1=true then (
 some true
 ) else (
 (q3Z a0.Mode 1 3).bind fun y3=>
 some (!y3)
 )
 ).bind fun s2=>
 if s2=true then (
 some false
 ) else (
 if a0.Mode=3 then (
 (
 if a0.Type_=2 then (
 some (!a0.Circular)
 ) else (
 some false
 )
 ).bind fun s3=>
 some s3
 ) else (
 (
 if a0.Circular=true then (
 some (decide (a0.Type_=2))
 ) else (
 some true
 )
 ).bind fun s4=>
 some s4
 )
 )
theorem z9x {a0:Attribute}{r:Bool}(hr:q7H a0=some r):Ok Tryz.prog 297 [Attribute.x .fz a0] [] (dB r) []:=by
 refine OE Tryz.func297 fun S hS=>?_
 unfold q7H at hr
 refine J g<|J (BX' 0)<|bdE hr fun y1 hy1 hr=>J g<|J (CB' [] [] (q5v hy1))<|bdE hr fun s1 hqq1 hr=>J (gn 1)<|q0a 6 [(1,.pb 0 0),(13,dB s1)] ?_ ?_
 replace hr:=hqq1
 refine ifE hr ?_ ?_<;>intro h1 hr
 refine bdE hr fun y2 hy2 hr=>J g<|J (CB' [] [] (j6c hy2))<|e
 exact e
 refine bdE hr fun s2 hqq2 hr=>q0a 6 [(1,.pb 0 0),(19,dB s2)] ?_ ?_
 replace hr:=hqq2
 refine ifE hr ?_ ?_<;>intro h2 hr
 exact e
 refine bdE hr fun y3 hy3 hr=>J g<|J (CB' [] [] (q4A hy3))<|e
 refine J (gn 2)<|ifE hr ?_ ?_<;>intro h3 hr
 exact e
 refine J (gn 8)<|ifE hr ?_ ?_<;>intro h4 hr
 refine bdE hr fun s3 hqq3 hr=>J (gn 6)<|q0a 5 [(31,dB s3)] ?_ ?_
 replace hr:=hqq3
 refine ifE hr ?_ ?_<;>intro h5 hr
 exact e
 exact e
 exact e
 refine bdE hr fun s4 hqq4 hr=>J (gn 7)<|q0a 5 [(39,dB s4)] ?_ ?_
 replace hr:=hqq4
 refine ifE hr ?_ ?_<;>intro h6 hr
 exact e
 exact e
 exact e
def q9A (a0:Attribute)(a1:Attribute):Option Bool:=
 some (decide (a0.Name=a1.Name))
theorem z9V {a0:Attribute}{a1:Attribute}{r:Bool}(hr:q9A a0 a1=some r):Ok Tryz.prog 298 [Attribute.x .fz a0,.pb 0 0] [.box [dS a1.Name,dI a1.Type_,dI a1.Mode,dB a1.Circular]] (dB r) [.box [dS a1.Name,dI a1.Type_,dI a1.Mode,dB a1.Circular]]:=by
 refine OE Tryz.func298 fun S hS=>?_
 unfold q9A at hr
 refine J g<|J (BX' 1)<|e
def q5Q (a1_0:Attribute):Nat→Attribute→Unit→Option (Unit ⊕ Int):=fun k1 xk1 _=>
 (q9A xk1 a1_0).bind fun y1=>
 if y1=true then (
 some (.inr (k1:Int))
 ) else (
 some (.inl ())
 )
def q4d (a0:(List Attribute))(a1_0:Attribute):Option Int:=
 (findL (q5Q a1_0) 0 a0 ()).bind <| onr (fun r1=>some r1) fun _=>
 some (-1)
theorem q8l {m:Md}{a0:(List Attribute)}{a1_0:Attribute}{r:Int}(hr:q4d a0 a1_0=some r):Ok Tryz.prog 235 [.d m (.sl 4 (a0.map Attribute.D)),.fn 298 [.pb 0 0]] [.box [dS a1_0.Name,dI a1_0.Type_,dI a1_0.Mode,dB a1_0.Circular]] (dI r) [.box [dS a1_0.Name,dI a1_0.Type_,dI a1_0.Mode,dB a1_0.Circular]]:=by
 refine OE Tryz.func235 fun S hS=>?_
 unfold q4d at hr
 refine J (gn 12)<|J (lenT 0)<|fun hl1=>bdE hr fun q1 hqq1 hr=>q0b hqq1 hl1 1 (fun k1 _=>[(0,.d m (.sl 4 (a0.map Attribute.D))),(1,.fn 298 [.pb 0 0]),(7,dI (a0.length:Int)),(8,dI (k1:Int))]) (fun k1 _=>[]) I (fun k1 xk1 sk1 ok1 hxk1 hr hltk1 hik1=>?_) fun k1 sk1 ek1 hltk1=>?_
 refine bdE hr fun y1 hy1 hr=>J g<|J (CB' [(0,0)] [] (z9V hy1))<|J (gn 1)<|ifE hr ?_ ?_<;>intro h1 hr
 exact e
 exact e
 subst ek1
 exact e
def q3U (a0:(List Attribute))(a1_0:Attribute):Option Bool:=
 (q4d a0 a1_0).bind fun y1=>
 some (decide (0≤y1))
theorem q7Q {m:Md}{a0:(List Attribute)}{a1_0:Attribute}{r:Bool}(hr:q3U a0 a1_0=some r):Ok Tryz.prog 181 [.d m (.sl 4 (a0.map Attribute.D)),.fn 298 [.pb 0 0]] [.box [dS a1_0.Name,dI a1_0.Type_,dI a1_0.Mode,dB a1_0.Circular]] (dB r) [.box [dS a1_0.Name,dI a1_0.Type_,dI a1_0.Mode,dB a1_0.Circular]]:=by
 refine OE Tryz.func181 fun S hS=>?_
 unfold q3U at hr
 refine bdE hr fun y1 hy1 hr=>J g<|J (CB' [(0,0)] [] (q8l (m:=m) hy1))<|e
def z0a (a0:Symbol):Nat→Attribute→Unit→Option (Unit ⊕ Bool):=fun k1 xk1 _=>
 (q7H xk1).bind fun y1=>
 if y1=true then (
 grd (k1≤a0.Attributes.length) <|
 (q3U (a0.Attributes.take k1) xk1).bind fun y2=>
 if y2=true then (
 some (.inr false)
 ) else (
 some (.inl ())
 )
 ) else (
 some (.inr false)
 )
def q8Z (a0:Symbol):Option Bool:=
 (findL (z0a a0) 0 a0.Attributes ()).bind <| onr (fun r1=>some r1) fun _=>
 (q4C a0.Name).bind fun y3=>
 (
 if y3=true then (
 some (decide ((a0.Attributes.length:Int)≤4))
 ) else (
 some false
 )
 ).bind fun s1=>
 some s1
theorem j1G {m:Md}{a0:Symbol}{r:Bool}(hr:q8Z a0=some r):Ok Tryz.prog 262 [Symbol.x m a0] [] (dB r) []:=by
 refine OE Tryz.func262 fun S hS=>?_
 unfold q8Z at hr
 refine J g<|J (BX' 0)<|J (gn 11)<|J (lenA 1 0)<|fun hl1=>bdE hr fun q1 hqq1 hr=>q0b hqq1 hl1 1 (fun k1 _=>[(1,.pb 0 0),(6,.d m (.sl 4 (a0.Attributes.map Attribute.D))),(7,dI (a0.Attributes.length:Int)),(8,dI (k1:Int))]) (fun k1 _=>[]) I (fun k1 xk1 sk1 ok1 hxk1 hr hltk1 hik1=>?_) fun k1 sk1 ek1 hltk1=>?_
 refine J g<|J (NV' 1)<|bdE hr fun y1 hy1 hr=>J g<|J (CB' [] [] (z9x hy1))<|J (gn 1)<|ifE hr ?_ ?_<;>intro h1 hr
 refine ggE hr fun g1 hr=>J g<|J (SLH' (Int.natCast_nonneg _) g1)<|bdE hr fun y2 hy2 hr=>J g<|J (CB' [(0,1)] [] (q7Q (m:=m) hy2))<|J (gn 2)<|ifE hr ?_ ?_<;>intro h2 hr
 exact e
 exact e
 exact e
 subst ek1
 refine bdE hr fun y3 hy3 hr=>J g<|J (CB' [] [] (q5v hy3))<|bdE hr fun s1 hqq2 hr=>q0a 6 [(33,dB s1)] ?_ ?_
 replace hr:=hqq2
 refine ifE hr ?_ ?_<;>intro h3 hr
 exact e
 exact e
 exact e
def z1J (a0:Symbol)(a1:Symbol):Option Bool:=
 some (decide (a0.Name=a1.Name))
theorem j2O {m:Md}{m2:Md}{a0:Symbol}{a1:Symbol}{r:Bool}(hr:z1J a0 a1=some r):Ok Tryz.prog 263 [Symbol.x m a0,.pb 0 0] [.box [dS a1.Name,.d m2 (.sl 4 (a1.Attributes.map Attribute.D))]] (dB r) [.box [dS a1.Name,.d m2 (.sl 4 (a1.Attributes.map Attribute.D))]]:=by
 refine OE Tryz.func263 fun S hS=>?_
 unfold z1J at hr
 refine J g<|J (BX' 1)<|e
def q6H (a1_0:Symbol):Nat→Symbol→Unit→Option (Unit ⊕ Int):=fun k1 xk1 _=>
 (z1J xk1 a1_0).bind fun y1=>
 if y1=true then (
 some (.inr (k1:Int))
 ) else (
 some (.inl ())
 )
def q4L (a0:(List Symbol))(a1_0:Symbol):Option Int:=
 (findL (q6H a1_0) 0 a0 ()).bind <| onr (fun r1=>some r1) fun _=>
 some (-1)
theorem q9H {m:Md}{m2:Md}{a0:(List Symbol)}{a1_0:Symbol}{r:Int}(hr:q4L a0 a1_0=some r):Ok Tryz.prog 112 [.d m (.sl 2 (a0.map Symbol.D)),.fn 263 [.pb 0 0]] [.box [dS a1_0.Name,.d m2 (.sl 4 (a1_0.Attributes.map Attribute.D))]] (dI r) [.box [dS a1_0.Name,.d m2 (.sl 4 (a1_0.Attributes.map Attribute.D))]]:=by
 refine OE Tryz.func112 fun S hS=>?_
 unfold q4L at hr
 refine J (gn 12)<|J (lenT 0)<|fun hl1=>bdE hr fun q1 hqq1 hr=>q0b hqq1 hl1 1 (fun k1 _=>[(0,.d m (.sl 2 (a0.map Symbol.D))),(1,.fn 263 [.pb 0 0]),(7,dI (a0.length:Int)),(8,dI (k1:Int))]) (fun k1 _=>[]) I (fun k1 xk1 sk1 ok1 hxk1 hr hltk1 hik1=>?_) fun k1 sk1 ek1 hltk1=>?_
 refine bdE hr fun y1 hy1 hr=>J g<|J (CB' [(0,0)] [] (j2O (m:=m) (m2:=m2) hy1))<|J (gn 1)<|ifE hr ?_ ?_<;>intro h1 hr
 exact e
 exact e
 subst ek1
 exact e
def q4t (a0:(List Symbol))(a1_0:Symbol):Option Bool:=
 (q4L a0 a1_0).bind fun y1=>
 some (decide (0≤y1))
theorem q8P {m:Md}{m2:Md}{a0:(List Symbol)}{a1_0:Symbol}{r:Bool}(hr:q4t a0 a1_0=some r):Ok Tryz.prog 179 [.d m (.sl 2 (a0.map Symbol.D)),.fn 263 [.pb 0 0]] [.box [dS a1_0.Name,.d m2 (.sl 4 (a1_0.Attributes.map Attribute.D))]] (dB r) [.box [dS a1_0.Name,.d m2 (.sl 4 (a1_0.Attributes.map Attribute.D))]]:=by
 refine OE Tryz.func179 fun S hS=>?_
 unfold q4t at hr
 refine bdE hr fun y1 hy1 hr=>J g<|J (CB' [(0,0)] [] (q9H (m:=m) (m2:=m2) hy1))<|e
def z3X (rec_iCountExpr:Expr→Option Int):Nat→Expr→Int→Option Int:=fun k1 xk1 s1=>
 (rec_iCountExpr xk1).bind fun y1=>
 grd (I64 (s1+y1)) <|
 some (s1+y1)
def z3r (rec_iCountExpr:Expr→Option Int)(a0:Expr):Option Int:=
 (eachL (z3X rec_iCountExpr) 0 a0.Args 1).bind fun s1=>
 some s1
theorem j5w {rec_iCountExpr:Expr→Option Int}(ih_iCountExpr:∀ {m:Md} {a0:Expr} {r:Int},rec_iCountExpr a0=some r→Ok Tryz.prog 323 [Expr.x m a0] [] (dI r) []){m:Md}{a0:Expr}{r:Int}(hr:z3r rec_iCountExpr a0=some r):Ok Tryz.prog 323 [Expr.x m a0] [] (dI r) []:=by
 refine OE Tryz.func323 fun S hS=>?_
 unfold z3r at hr
 refine J g<|J (BX' 0)<|J (gn 15)<|J (lenA 6 0)<|fun hl1=>bdE hr fun s1 hqq1 hr=>q0c hqq1 hl1 1 (fun k1 s1=>[(3,dI s1),(7,.d m (.sl 7 (a0.Args.map Expr.D))),(8,dI (a0.Args.length:Int)),(9,dI (k1:Int))]) (fun k1 s1=>[]) I (fun k1 xk1 sk1 ok1 hxk1 hr hltk1=>?_) fun k1 hltk1=>?_
 obtain⟨s1,rfl⟩:∃ y,y=sk1:=⟨_,rfl⟩
 refine J g<|J (NV' 1)<|bdE hr fun y1 hy1 hr=>J g<|J (CB' [] [] (ih_iCountExpr (m:=m) hy1))<|ggE hr fun g1 hr=>e
 exact e
def z1d:Nat→Expr→Option Int
  | 0,_=>none
  | n+1,a0=>z3r (z1d n) a0
def z8y (a0:Expr):Option Int:=recO fun n=>z1d n a0
theorem j5x (n:Nat):∀ {m:Md} {a0:Expr} {r:Int},z1d n a0=some r→Ok Tryz.prog 323 [Expr.x m a0] [] (dI r) []:=by
  induction n with
  | zero=>intro _ _ r hr; exact nomatch (show (none:Option Int)=some r from hr)
  | succ n ih=>intro _ _ r hr; exact j5w ih hr
theorem j7d {m:Md}{a0:Expr}{r:Int}(hr:z8y a0=some r):Ok Tryz.prog 323 [Expr.x m a0] [] (dI r) []:=by
 obtain⟨n,hn⟩:=q5V hr
 exact j5x n hn
def z8z (rec_iDepthOfExpr:Expr→Option Int):Nat→Expr→Int→Option Int:=fun k1 xk1 s1=>
 (rec_iDepthOfExpr xk1).bind fun y1=>
 some (if y1 > s1 then y1 else s1)
def z0E (rec_iDepthOfExpr:Expr→Option Int)(a0:Expr):Option Int:=
 (eachL (z8z rec_iDepthOfExpr) 0 a0.Args 0).bind fun s1=>
 grd (I64 (s1+1)) <|
 some (s1+1)
theorem j2P {rec_iDepthOfExpr:Expr→Option Int}(ih_iDepthOfExpr:∀ {m:Md} {a0:Expr} {r:Int},rec_iDepthOfExpr a0=some r→Ok Tryz.prog 324 [Expr.x m a0] [] (dI r) []){m:Md}{a0:Expr}{r:Int}(hr:z0E rec_iDepthOfExpr a0=some r):Ok Tryz.prog 324 [Expr.x m a0] [] (dI r) []:=by
 refine OE Tryz.func324 fun S hS=>?_
 unfold z0E at hr
 refine J g<|J (BX' 0)<|J (gn 15)<|J (lenA 6 0)<|fun hl1=>bdE hr fun s1 hqq1 hr=>q0c hqq1 hl1 1 (fun k1 s1=>[(3,dI s1),(7,.d m (.sl 7 (a0.Args.map Expr.D))),(8,dI (a0.Args.length:Int)),(9,dI (k1:Int))]) (fun k1 s1=>[]) I (fun k1 xk1 sk1 ok1 hxk1 hr hltk1=>?_) fun k1 hltk1=>?_
 obtain⟨s1,rfl⟩:∃ y,y=sk1:=⟨_,rfl⟩
 refine J g<|J (NV' 1)<|bdE hr fun y1 hy1 hr=>J g<|J (CB' [] [] (ih_iDepthOfExpr (m:=m) hy1)) ?_
 refine J (MXI' rfl rfl)<|J g<|E
 refine ggE hr fun g1 hr=>e
def q7p:Nat→Expr→Option Int
  | 0,_=>none
  | n+1,a0=>z0E (q7p n) a0
def z5T (a0:Expr):Option Int:=recO fun n=>q7p n a0
theorem j2Q (n:Nat):∀ {m:Md} {a0:Expr} {r:Int},q7p n a0=some r→Ok Tryz.prog 324 [Expr.x m a0] [] (dI r) []:=by
  induction n with
  | zero=>intro _ _ r hr; exact nomatch (show (none:Option Int)=some r from hr)
  | succ n ih=>intro _ _ r hr; exact j2P ih hr
theorem j4s {m:Md}{a0:Expr}{r:Int}(hr:z5T a0=some r):Ok Tryz.prog 324 [Expr.x m a0] [] (dI r) []:=by
 obtain⟨n,hn⟩:=q5V hr
 exact j2Q n hn
def z7j (a0:Int):Option Int:=
 some (if ((-1000000):Int) > (if (1000000:Int) < a0 then (1000000:Int) else a0) then ((-1000000):Int) else (if (1000000:Int) < a0 then (1000000:Int) else a0))
theorem j8I {a0:Int}{r:Int}(hr:z7j a0=some r):Ok Tryz.prog 333 [dI a0] [] (dI r) []:=by
 refine OE Tryz.func333 fun S hS=>?_
 unfold z7j at hr
 refine J g ?_
 refine J (MNI' rfl rfl) ?_
 refine J (MXI' rfl rfl)<|J g<|E
def j4t (a0:Bool):Option Int:=
 if a0=true then (
 some 1
 ) else (
 some 0
 )
theorem k6s {a0:Bool}{r:Int}(hr:j4t a0=some r):Ok Tryz.prog 334 [dB a0] [] (dI r) []:=by
 refine OE Tryz.func334 fun S hS=>?_
 unfold j4t at hr
 refine J (gn 9)<|ifE hr ?_ ?_<;>intro h1 hr
 exact e
 exact e
def z8A (a0:Int)(a1:Int):Option Int:=
 if a1=1 then (
 (z7j a0).bind fun y1=>
 some y1
 ) else (
 if a1=2 then (
 some (k2l a0 4095)
 ) else (
 if a1=3 then (
 (j4t (!(decide (a0=0)))).bind fun y2=>
 some y2
 ) else (
 if a1=4 then (
 (q3Z a0 0 999).bind fun y3=>
 if y3=true then (
 some a0
 ) else (
 some 0
 )
 ) else (
 some 0
 )
 )
 )
 )
theorem k2L {a0:Int}{a1:Int}{r:Int}(hr:z8A a0 a1=some r):Ok Tryz.prog 331 [dI a0,dI a1] [] (dI r) []:=by
 refine OE Tryz.func331 fun S hS=>?_
 unfold z8A at hr
 refine J (gn 12)<|ifE hr ?_ ?_<;>intro h1 hr
 refine bdE hr fun y1 hy1 hr=>J g<|J (CB' [] [] (j8I hy1))<|e
 refine J (gn 7)<|ifE hr ?_ ?_<;>intro h2 hr
 refine J g<|J (OB' _ k9P)<|e
 refine J (gn 7)<|ifE hr ?_ ?_<;>intro h3 hr
 refine bdE hr fun y2 hy2 hr=>J g<|J (CB' [] [] (k6s hy2))<|e
 refine J (gn 5)<|ifE hr ?_ ?_<;>intro h4 hr
 refine bdE hr fun y3 hy3 hr=>J g<|J (CB' [] [] (q4A hy3))<|J (gn 3)<|ifE hr ?_ ?_<;>intro h5 hr
 exact e
 exact e
 exact e
def z4N (a0:Int)(a1:Int):Option Bool:=
 (z6s a1).bind fun y1=>
 if y1=true then (
 (z8A a0 a1).bind fun y2=>
 some (decide (y2=a0))
 ) else (
 some false
 )
theorem j8J {a0:Int}{a1:Int}{r:Bool}(hr:z4N a0 a1=some r):Ok Tryz.prog 327 [dI a0,dI a1] [] (dB r) []:=by
 refine OE Tryz.func327 fun S hS=>?_
 unfold z4N at hr
 refine bdE hr fun y1 hy1 hr=>J g<|J (CB' [] [] (j6c hy1))<|ifE hr ?_ ?_<;>intro h1 hr
 refine bdE hr fun y2 hy2 hr=>J g<|J (CB' [] [] (k2L hy2))<|e
 exact e
def q6X (a0:Expr)(a1:Expr):Option Bool:=
 (
 if a0.Kind=a1.Kind then (
 some (decide (a0.N=a1.N))
 ) else (
 some false
 )
 ).bind fun s1=>
 (
 if s1=true then (
 some (decide (a0.Pos=a1.Pos))
 ) else (
 some false
 )
 ).bind fun s2=>
 (
 if s2=true then (
 some (decide (a0.Type_=a1.Type_))
 ) else (
 some false
 )
 ).bind fun s3=>
 (
 if s3=true then (
 some (decide (a0.Symbol=a1.Symbol))
 ) else (
 some false
 )
 ).bind fun s4=>
 (
 if s4=true then (
 some (decide (a0.Name=a1.Name))
 ) else (
 some false
 )
 ).bind fun s5=>
 some s5
theorem q8J {m:Md}{a0:Expr}{a1:Expr}{r:Bool}(hr:q6X a0 a1=some r):Ok Tryz.prog 328 [Expr.x m a0,Expr.x m a1] [] (dB r) []:=by
 refine OE Tryz.func328 fun S hS=>?_
 unfold q6X at hr
 refine J g<|J (BX' 0)<|J (BX' 1)<|bdE hr fun s1 hqq1 hr=>J (gn 9)<|q0a 7 [(2,.pb 0 0),(3,.pb 1 0),(4,dB false),(16,dB s1)] ?_ ?_
 replace hr:=hqq1
 refine ifE hr ?_ ?_<;>intro h1 hr
 exact e
 exact e
 refine bdE hr fun s2 hqq2 hr=>q0a 7 [(2,.pb 0 0),(3,.pb 1 0),(4,dB false),(23,dB s2)] ?_ ?_
 replace hr:=hqq2
 refine ifE hr ?_ ?_<;>intro h2 hr
 exact e
 exact e
 refine bdE hr fun s3 hqq3 hr=>q0a 7 [(2,.pb 0 0),(3,.pb 1 0),(4,dB false),(30,dB s3)] ?_ ?_
 replace hr:=hqq3
 refine ifE hr ?_ ?_<;>intro h3 hr
 exact e
 exact e
 refine bdE hr fun s4 hqq4 hr=>q0a 7 [(2,.pb 0 0),(3,.pb 1 0),(4,dB false),(37,dB s4)] ?_ ?_
 replace hr:=hqq4
 refine ifE hr ?_ ?_<;>intro h4 hr
 exact e
 exact e
 refine bdE hr fun s5 hqq5 hr=>q0a 7 [(4,dB false),(44,dB s5)] ?_ ?_
 replace hr:=hqq5
 refine ifE hr ?_ ?_<;>intro h5 hr
 exact e
 exact e
 exact e
def z1K (a0:Expr):Option Bool:=
 if a0.Kind=1 then (
 (
 if a0.Type_=4 then (
 some true
 ) else (
 (z4N a0.N a0.Type_).bind fun y1=>
 some (!y1)
 )
 ).bind fun s1=>
 (
 if s1=true then (
 some true
 ) else (
 some (decide (a0.N < 0))
 )
 ).bind fun s2=>
 if s2=true then (
 some false
 ) else (
 (
 if (a0.Args.length:Int)=0 then (
 (q3Z a0.Pos 0 3).bind fun y2=>
 some y2
 ) else (
 some false
 )
 ).bind fun s3=>
 (
 if s3=true then (
 (q6X a0 (⟨a0.Kind,a0.N,0,a0.Type_,(⟨#[]⟩:ByteArray),(⟨#[]⟩:ByteArray),a0.Args⟩:Expr)).bind fun y3=>
 some y3
 ) else (
 some false
 )
 ).bind fun s4=>
 some s4
 )
 ) else (
 if a0.Kind=3 then (
 (q4C a0.Name).bind fun y4=>
 if y4=true then (
 (
 if (a0.Args.length:Int)=0 then (
 (q3Z a0.Pos 0 3).bind fun y5=>
 some y5
 ) else (
 some false
 )
 ).bind fun s5=>
 (
 if s5=true then (
 (q6X a0 (⟨a0.Kind,0,a0.Pos,0,(⟨#[]⟩:ByteArray),a0.Name,a0.Args⟩:Expr)).bind fun y6=>
 some y6
 ) else (
 some false
 )
 ).bind fun s6=>
 some s6
 ) else (
 some false
 )
 ) else (
 if a0.Kind=4 then (
 (q3Z a0.N 1 12).bind fun y7=>
 if y7=true then (
 (
 if (a0.Args.length:Int)=2 then (
 (q3Z a0.Pos 0 3).bind fun y8=>
 some y8
 ) else (
 some false
 )
 ).bind fun s7=>
 (
 if s7=true then (
 (q6X a0 (⟨a0.Kind,a0.N,0,0,(⟨#[]⟩:ByteArray),(⟨#[]⟩:ByteArray),a0.Args⟩:Expr)).bind fun y9=>
 some y9
 ) else (
 some false
 )
 ).bind fun s8=>
 some s8
 ) else (
 some false
 )
 ) else (
 if a0.Kind=5 then (
 (
 if (a0.Args.length:Int)=3 then (
 (q3Z a0.Pos 0 3).bind fun y10=>
 some y10
 ) else (
 some false
 )
 ).bind fun s9=>
 (
 if s9=true then (
 (q6X a0 (⟨a0.Kind,0,0,0,(⟨#[]⟩:ByteArray),(⟨#[]⟩:ByteArray),a0.Args⟩:Expr)).bind fun y11=>
 some y11
 ) else (
 some false
 )
 ).bind fun s10=>
 some s10
 ) else (
 if a0.Kind=6 then (
 (
 if (a0.Args.length:Int)=0 then (
 (q3Z a0.Pos 0 3).bind fun y12=>
 some y12
 ) else (
 some false
 )
 ).bind fun s11=>
 (
 if s11=true then (
 (q6X a0 (⟨a0.Kind,0,a0.Pos,0,(⟨#[]⟩:ByteArray),(⟨#[]⟩:ByteArray),a0.Args⟩:Expr)).bind fun y13=>
 some y13
 ) else (
 some false
 )
 ).bind fun s12=>
 some s12
 ) else (
 if a0.Kind=8 then (
 (q4C a0.Symbol).bind fun y14=>
 (
 if y14=true then (
 (q4C a0.Name).bind fun y15=>
 some (!y15)
 ) else (
 some true
 )
 ).bind fun s13=>
 if s13=true then (
 some false
 ) else (
 (
 if (a0.Args.length:Int)=1 then (
 (q3Z a0.Pos 0 3).bind fun y16=>
 some y16
 ) else (
 some false
 )
 ).bind fun s14=>
 (
 if s14=true then (
 (q6X a0 (⟨a0.Kind,0,0,0,a0.Symbol,a0.Name,a0.Args⟩:Expr)).bind fun y17=>
 some y17
 ) else (
 some false
 )
 ).bind fun s15=>
 some s15
 )
 ) else (
 if a0.Kind=2 then (
 if a0.Kind=2 then (
 (
 if (a0.Args.length:Int)=0 then (
 (q3Z a0.Pos 0 3).bind fun y18=>
 some y18
 ) else (
 some false
 )
 ).bind fun s16=>
 (
 if s16=true then (
 (q6X a0 (⟨a0.Kind,0,0,0,(⟨#[]⟩:ByteArray),(⟨#[]⟩:ByteArray),a0.Args⟩:Expr)).bind fun y19=>
 some y19
 ) else (
 some false
 )
 ).bind fun s17=>
 some s17
 ) else (
 some false
 )
 ) else (
 if a0.Kind=7 then (
 (
 if (a0.Args.length:Int)=0 then (
 (q3Z a0.Pos 0 3).bind fun y20=>
 some y20
 ) else (
 some false
 )
 ).bind fun s18=>
 (
 if s18=true then (
 (q6X a0 (⟨a0.Kind,0,0,0,(⟨#[]⟩:ByteArray),(⟨#[]⟩:ByteArray),a0.Args⟩:Expr)).bind fun y21=>
 some y21
 ) else (
 some false
 )
 ).bind fun s19=>
 some s19
 ) else (
 some false
 )
 )
 )
 )
 )
 )
 )
 )
theorem j5y {m:Md}{a0:Expr}{r:Bool}(hr:z1K a0=some r):Ok Tryz.prog 325 [Expr.x m a0] [] (dB r) []:=by
 refine OE Tryz.func325 fun S hS=>?_
 unfold z1K at hr
 refine J g<|J (BX' 0)<|J g<|J (NV' 1)<|J (gn 18)<|ifE hr ?_ ?_<;>intro h1 hr
 refine bdE hr fun s1 hqq1 hr=>J (gn 17)<|q0a 8 [(1,.pb 0 0),(3,.pb 1 0),(4,dI 0),(30,dB s1)] ?_ ?_
 replace hr:=hqq1
 refine ifE hr ?_ ?_<;>intro h2 hr
 exact e
 refine bdE hr fun y1 hy1 hr=>J g<|J (CB' [] [] (j8J hy1))<|e
 refine bdE hr fun s2 hqq2 hr=>q0a 5 [(1,.pb 0 0),(3,.pb 1 0),(4,dI 0),(35,dB s2)] ?_ ?_
 replace hr:=hqq2
 refine ifE hr ?_ ?_<;>intro h3 hr
 exact e
 exact e
 refine J (gn 1)<|ifE hr ?_ ?_<;>intro h4 hr
 exact e
 refine bdE hr fun s3 hqq3 hr=>J (gn 9)<|q0a 5 [(1,.pb 0 0),(3,.pb 1 0),(94,dB s3)] ?_ ?_
 replace hr:=hqq3
 refine ifE hr ?_ ?_<;>intro h5 hr
 refine bdE hr fun y2 hy2 hr=>J g<|J (CB' [] [] (q4A hy2))<|e
 exact e
 refine bdE hr fun s4 hqq4 hr=>q0a 5 [(99,dB s4)] ?_ ?_
 replace hr:=hqq4
 refine ifE hr ?_ ?_<;>intro h6 hr
 refine bdE hr fun y3 hy3 hr=>J g<|J (CB' [] [] (q8J (m:=m) hy3))<|e
 exact e
 exact e
 refine J (gn 6)<|ifE hr ?_ ?_<;>intro h7 hr
 refine bdE hr fun y4 hy4 hr=>J g<|J (CB' [] [] (q5v hy4))<|J (gn 2)<|ifE hr ?_ ?_<;>intro h8 hr
 refine bdE hr fun s5 hqq5 hr=>J (gn 9)<|q0a 5 [(1,.pb 0 0),(2,dB false),(3,.pb 1 0),(94,dB s5)] ?_ ?_
 replace hr:=hqq5
 refine ifE hr ?_ ?_<;>intro h9 hr
 refine bdE hr fun y5 hy5 hr=>J g<|J (CB' [] [] (q4A hy5))<|e
 exact e
 refine bdE hr fun s6 hqq6 hr=>q0a 5 [(2,dB false),(99,dB s6)] ?_ ?_
 replace hr:=hqq6
 refine ifE hr ?_ ?_<;>intro h10 hr
 refine bdE hr fun y6 hy6 hr=>J g<|J (CB' [] [] (q8J (m:=m) hy6))<|e
 exact e
 exact e
 exact e
 refine J (gn 6)<|ifE hr ?_ ?_<;>intro h11 hr
 refine bdE hr fun y7 hy7 hr=>J g<|J (CB' [] [] (q4A hy7))<|J (gn 2)<|ifE hr ?_ ?_<;>intro h12 hr
 refine bdE hr fun s7 hqq7 hr=>J (gn 9)<|q0a 5 [(1,.pb 0 0),(2,dB false),(3,.pb 1 0),(94,dB s7)] ?_ ?_
 replace hr:=hqq7
 refine ifE hr ?_ ?_<;>intro h13 hr
 refine bdE hr fun y8 hy8 hr=>J g<|J (CB' [] [] (q4A hy8))<|e
 exact e
 refine bdE hr fun s8 hqq8 hr=>q0a 5 [(2,dB false),(99,dB s8)] ?_ ?_
 replace hr:=hqq8
 refine ifE hr ?_ ?_<;>intro h14 hr
 refine bdE hr fun y9 hy9 hr=>J g<|J (CB' [] [] (q8J (m:=m) hy9))<|e
 exact e
 exact e
 exact e
 refine J (gn 6)<|ifE hr ?_ ?_<;>intro h15 hr
 refine bdE hr fun s9 hqq9 hr=>J (gn 11)<|q0a 5 [(1,.pb 0 0),(2,dB false),(3,.pb 1 0),(94,dB s9)] ?_ ?_
 replace hr:=hqq9
 refine ifE hr ?_ ?_<;>intro h16 hr
 refine bdE hr fun y10 hy10 hr=>J g<|J (CB' [] [] (q4A hy10))<|e
 exact e
 refine bdE hr fun s10 hqq10 hr=>q0a 5 [(2,dB false),(99,dB s10)] ?_ ?_
 replace hr:=hqq10
 refine ifE hr ?_ ?_<;>intro h17 hr
 refine bdE hr fun y11 hy11 hr=>J g<|J (CB' [] [] (q8J (m:=m) hy11))<|e
 exact e
 exact e
 refine J (gn 6)<|ifE hr ?_ ?_<;>intro h18 hr
 refine bdE hr fun s11 hqq11 hr=>J (gn 14)<|q0a 5 [(1,.pb 0 0),(2,dB false),(3,.pb 1 0),(94,dB s11)] ?_ ?_
 replace hr:=hqq11
 refine ifE hr ?_ ?_<;>intro h19 hr
 refine bdE hr fun y12 hy12 hr=>J g<|J (CB' [] [] (q4A hy12))<|e
 exact e
 refine bdE hr fun s12 hqq12 hr=>q0a 5 [(2,dB false),(99,dB s12)] ?_ ?_
 replace hr:=hqq12
 refine ifE hr ?_ ?_<;>intro h20 hr
 refine bdE hr fun y13 hy13 hr=>J g<|J (CB' [] [] (q8J (m:=m) hy13))<|e
 exact e
 exact e
 refine J (gn 6)<|ifE hr ?_ ?_<;>intro h21 hr
 refine bdE hr fun y14 hy14 hr=>J g<|J (CB' [] [] (q5v hy14))<|bdE hr fun s13 hqq13 hr=>J (gn 1)<|q0a 6 [(1,.pb 0 0),(3,.pb 1 0),(4,dI 1),(81,dB s13)] ?_ ?_
 replace hr:=hqq13
 refine ifE hr ?_ ?_<;>intro h22 hr
 refine bdE hr fun y15 hy15 hr=>J g<|J (CB' [] [] (q5v hy15))<|e
 exact e
 refine J (gn 1)<|ifE hr ?_ ?_<;>intro h23 hr
 exact e
 refine bdE hr fun s14 hqq14 hr=>J (gn 9)<|q0a 5 [(1,.pb 0 0),(3,.pb 1 0),(94,dB s14)] ?_ ?_
 replace hr:=hqq14
 refine ifE hr ?_ ?_<;>intro h24 hr
 refine bdE hr fun y16 hy16 hr=>J g<|J (CB' [] [] (q4A hy16))<|e
 exact e
 refine bdE hr fun s15 hqq15 hr=>q0a 5 [(99,dB s15)] ?_ ?_
 replace hr:=hqq15
 refine ifE hr ?_ ?_<;>intro h25 hr
 refine bdE hr fun y17 hy17 hr=>J g<|J (CB' [] [] (q8J (m:=m) hy17))<|e
 exact e
 exact e
 refine J (gn 7)<|ifE hr ?_ ?_<;>intro h26 hr
 refine J (gn 2)<|ifE hr ?_ ?_<;>intro h27 hr
 refine bdE hr fun s16 hqq16 hr=>J (gn 9)<|q0a 5 [(1,.pb 0 0),(2,dB false),(3,.pb 1 0),(94,dB s16)] ?_ ?_
 replace hr:=hqq16
 refine ifE hr ?_ ?_<;>intro h28 hr
 refine bdE hr fun y18 hy18 hr=>J g<|J (CB' [] [] (q4A hy18))<|e
 exact e
 refine bdE hr fun s17 hqq17 hr=>q0a 5 [(2,dB false),(99,dB s17)] ?_ ?_
 replace hr:=hqq17
 refine ifE hr ?_ ?_<;>intro h29 hr
 refine bdE hr fun y19 hy19 hr=>J g<|J (CB' [] [] (q8J (m:=m) hy19))<|e
 exact e
 exact e
 exact e
 refine J (gn 5)<|ifE hr ?_ ?_<;>intro h30 hr
 refine bdE hr fun s18 hqq18 hr=>J (gn 9)<|q0a 5 [(1,.pb 0 0),(2,dB false),(3,.pb 1 0),(94,dB s18)] ?_ ?_
 replace hr:=hqq18
 refine ifE hr ?_ ?_<;>intro h31 hr
 refine bdE hr fun y20 hy20 hr=>J g<|J (CB' [] [] (q4A hy20))<|e
 exact e
 refine bdE hr fun s19 hqq19 hr=>q0a 5 [(2,dB false),(99,dB s19)] ?_ ?_
 replace hr:=hqq19
 refine ifE hr ?_ ?_<;>intro h32 hr
 refine bdE hr fun y21 hy21 hr=>J g<|J (CB' [] [] (q8J (m:=m) hy21))<|e
 exact e
 exact e
 exact e
def q6r (rec_ieveryNode_iexprNodeOk:Expr→Option Bool)(a0:Expr):Option Bool:=
 (rec_ieveryNode_iexprNodeOk a0).bind fun y1=>
 some (!y1)
theorem z4O {rec_ieveryNode_iexprNodeOk:Expr→Option Bool}(ih_ieveryNode_iexprNodeOk:∀ {m:Md} {a0:Expr} {r:Bool},rec_ieveryNode_iexprNodeOk a0=some r→Ok Tryz.prog 183 [Expr.x m a0,.fn 325 []] [] (dB r) []){m:Md}{a0:Expr}{r:Bool}(hr:q6r rec_ieveryNode_iexprNodeOk a0=some r):Ok Tryz.prog 236 [Expr.x m a0,.pb 0 0] [.box [.fn 325 []]] (dB r) [.box [.fn 325 []]]:=by
 refine OE Tryz.func236 fun S hS=>?_
 unfold q6r at hr
 refine J g<|J (BX' 1)<|bdE hr fun y1 hy1 hr=>J g<|J (CB' [] [] (ih_ieveryNode_iexprNodeOk (m:=m) hy1))<|e
def q5A (rec_ieveryNode_iexprNodeOk:Expr→Option Bool):Nat→Expr→Unit→Option (Unit ⊕ Int):=fun k1 xk1 _=>
 (q6r rec_ieveryNode_iexprNodeOk xk1).bind fun y1=>
 if y1=true then (
 some (.inr (k1:Int))
 ) else (
 some (.inl ())
 )
def q3V (rec_ieveryNode_iexprNodeOk:Expr→Option Bool)(a0:(List Expr)):Option Int:=
 (findL (q5A rec_ieveryNode_iexprNodeOk) 0 a0 ()).bind <| onr (fun r1=>some r1) fun _=>
 some (-1)
theorem q7R {rec_ieveryNode_iexprNodeOk:Expr→Option Bool}(ih_ieveryNode_iexprNodeOk:∀ {m:Md} {a0:Expr} {r:Bool},rec_ieveryNode_iexprNodeOk a0=some r→Ok Tryz.prog 183 [Expr.x m a0,.fn 325 []] [] (dB r) []){m:Md}{a0:(List Expr)}{r:Int}(hr:q3V rec_ieveryNode_iexprNodeOk a0=some r):Ok Tryz.prog 233 [.d m (.sl 7 (a0.map Expr.D)),.fn 236 [.pb 0 0]] [.box [.fn 325 []]] (dI r) [.box [.fn 325 []]]:=by
 refine OE Tryz.func233 fun S hS=>?_
 unfold q3V at hr
 refine J (gn 12)<|J (lenT 0)<|fun hl1=>bdE hr fun q1 hqq1 hr=>q0b hqq1 hl1 1 (fun k1 _=>[(0,.d m (.sl 7 (a0.map Expr.D))),(1,.fn 236 [.pb 0 0]),(7,dI (a0.length:Int)),(8,dI (k1:Int))]) (fun k1 _=>[]) I (fun k1 xk1 sk1 ok1 hxk1 hr hltk1 hik1=>?_) fun k1 sk1 ek1 hltk1=>?_
 refine bdE hr fun y1 hy1 hr=>J g<|J (CB' [(0,0)] [] (z4O ih_ieveryNode_iexprNodeOk (m:=m) hy1))<|J (gn 1)<|ifE hr ?_ ?_<;>intro h1 hr
 exact e
 exact e
 subst ek1
 exact e
def q3Q (rec_ieveryNode_iexprNodeOk:Expr→Option Bool)(a0:(List Expr)):Option Bool:=
 (q3V rec_ieveryNode_iexprNodeOk a0).bind fun y1=>
 some (decide (0≤y1))
theorem q7x {rec_ieveryNode_iexprNodeOk:Expr→Option Bool}(ih_ieveryNode_iexprNodeOk:∀ {m:Md} {a0:Expr} {r:Bool},rec_ieveryNode_iexprNodeOk a0=some r→Ok Tryz.prog 183 [Expr.x m a0,.fn 325 []] [] (dB r) []){m:Md}{a0:(List Expr)}{r:Bool}(hr:q3Q rec_ieveryNode_iexprNodeOk a0=some r):Ok Tryz.prog 176 [.d m (.sl 7 (a0.map Expr.D)),.fn 236 [.pb 0 0]] [.box [.fn 325 []]] (dB r) [.box [.fn 325 []]]:=by
 refine OE Tryz.func176 fun S hS=>?_
 unfold q3Q at hr
 refine bdE hr fun y1 hy1 hr=>J g<|J (CB' [(0,0)] [] (q7R ih_ieveryNode_iexprNodeOk (m:=m) hy1))<|e
def q5W (rec_ieveryNode_iexprNodeOk:Expr→Option Bool)(a0:Expr):Option Bool:=
 (z1K a0).bind fun y1=>
 if y1=true then (
 (q3Q rec_ieveryNode_iexprNodeOk a0.Args).bind fun y2=>
 some (!y2)
 ) else (
 some false
 )
theorem z5m {rec_ieveryNode_iexprNodeOk:Expr→Option Bool}(ih_ieveryNode_iexprNodeOk:∀ {m:Md} {a0:Expr} {r:Bool},rec_ieveryNode_iexprNodeOk a0=some r→Ok Tryz.prog 183 [Expr.x m a0,.fn 325 []] [] (dB r) []){m:Md}{a0:Expr}{r:Bool}(hr:q5W rec_ieveryNode_iexprNodeOk a0=some r):Ok Tryz.prog 183 [Expr.x m a0,.fn 325 []] [] (dB r) []:=by
 refine OE Tryz.func183 fun S hS=>?_
 unfold q5W at hr
 refine J g<|J (BX' 0)<|J (BX' 1)<|bdE hr fun y1 hy1 hr=>J g<|J (CB' [] [] (j5y (m:=m) hy1))<|ifE hr ?_ ?_<;>intro h1 hr
 refine bdE hr fun y2 hy2 hr=>J g<|J (CB' [(0,1)] [] (q7x ih_ieveryNode_iexprNodeOk (m:=m) hy2))<|e
 exact e
def q5X:Nat→Expr→Option Bool
  | 0,_=>none
  | n+1,a0=>q5W (q5X n) a0
def q8u (a0:Expr):Option Bool:=recO fun n=>q5X n a0
theorem z5n (n:Nat):∀ {m:Md} {a0:Expr} {r:Bool},q5X n a0=some r→Ok Tryz.prog 183 [Expr.x m a0,.fn 325 []] [] (dB r) []:=by
  induction n with
  | zero=>intro _ _ r hr; exact nomatch (show (none:Option Bool)=some r from hr)
  | succ n ih=>intro _ _ r hr; exact z5m ih hr
theorem z5U {m:Md}{a0:Expr}{r:Bool}(hr:q8u a0=some r):Ok Tryz.prog 183 [Expr.x m a0,.fn 325 []] [] (dB r) []:=by
 obtain⟨n,hn⟩:=q5V hr
 exact z5n n hn
def z0F (a0:Expr):Option Bool:=
 (z8y a0).bind fun y1=>
 (
 if y1≤24 then (
 (z5T a0).bind fun y2=>
 some (decide (y2≤6))
 ) else (
 some false
 )
 ).bind fun s1=>
 (
 if s1=true then (
 (q8u a0).bind fun y3=>
 some y3
 ) else (
 some false
 )
 ).bind fun s2=>
 some s2
theorem j4u {m:Md}{a0:Expr}{r:Bool}(hr:z0F a0=some r):Ok Tryz.prog 316 [Expr.x m a0] [] (dB r) []:=by
 refine OE Tryz.func316 fun S hS=>?_
 unfold z0F at hr
 refine J g<|J (BX' 0)<|bdE hr fun y1 hy1 hr=>J g<|J (CB' [] [] (j7d (m:=m) hy1))<|bdE hr fun s1 hqq1 hr=>J (gn 1)<|q0a 5 [(1,.pb 0 0),(2,dB false),(10,dB s1)] ?_ ?_
 replace hr:=hqq1
 refine ifE hr ?_ ?_<;>intro h1 hr
 refine bdE hr fun y2 hy2 hr=>J g<|J (CB' [] [] (j4s (m:=m) hy2))<|e
 exact e
 refine bdE hr fun s2 hqq2 hr=>q0a 4 [(2,dB false),(14,dB s2)] ?_ ?_
 replace hr:=hqq2
 refine ifE hr ?_ ?_<;>intro h2 hr
 refine bdE hr fun y3 hy3 hr=>J g<|J (CB' [] [] (z5U (m:=m) hy3))<|e
 exact e
 exact e
def j0O (a0:Expr)(a1:Int):Option Bool:=
 some (decide (a0.Pos≤a1))
theorem k2M {m:Md}{a0:Expr}{a1:Int}{r:Bool}(hr:j0O a0 a1=some r):Ok Tryz.prog 317 [Expr.x m a0,.pb 0 0] [.box [dI a1]] (dB r) [.box [dI a1]]:=by
 refine OE Tryz.func317 fun S hS=>?_
 unfold j0O at hr
 refine J g<|J (BX' 1)<|e
def q7N (rec_ieveryNode_ifits_1:Expr→Int→Option Bool)(a0:Expr)(a1_0:Int):Option Bool:=
 (rec_ieveryNode_ifits_1 a0 a1_0).bind fun y1=>
 some (!y1)
theorem z7k {rec_ieveryNode_ifits_1:Expr→Int→Option Bool}(ih_ieveryNode_ifits_1:∀ {m:Md} {a0:Expr} {a1_0:Int} {r:Bool},rec_ieveryNode_ifits_1 a0 a1_0=some r→Ok Tryz.prog 183 [Expr.x m a0,.fn 317 [.pb 0 0]] [.box [dI a1_0]] (dB r) [.box [dI a1_0]]){m:Md}{a0:Expr}{a1_0:Int}{r:Bool}(hr:q7N rec_ieveryNode_ifits_1 a0 a1_0=some r):Ok Tryz.prog 236 [Expr.x m a0,.pb 1 0] [.box [dI a1_0],.box [.fn 317 [.pb 0 0]]] (dB r) [.box [dI a1_0],.box [.fn 317 [.pb 0 0]]]:=by
 refine OE Tryz.func236 fun S hS=>?_
 unfold q7N at hr
 refine J g<|J (BX' 2)<|bdE hr fun y1 hy1 hr=>J g<|J (CB' [(0,0)] [] (ih_ieveryNode_ifits_1 (m:=m) hy1))<|e
def q5Y (rec_ieveryNode_ifits_1:Expr→Int→Option Bool)(a1_0_0:Int):Nat→Expr→Unit→Option (Unit ⊕ Int):=fun k1 xk1 _=>
 (q7N rec_ieveryNode_ifits_1 xk1 a1_0_0).bind fun y1=>
 if y1=true then (
 some (.inr (k1:Int))
 ) else (
 some (.inl ())
 )
def q4j (rec_ieveryNode_ifits_1:Expr→Int→Option Bool)(a0:(List Expr))(a1_0_0:Int):Option Int:=
 (findL (q5Y rec_ieveryNode_ifits_1 a1_0_0) 0 a0 ()).bind <| onr (fun r1=>some r1) fun _=>
 some (-1)
theorem q8v {rec_ieveryNode_ifits_1:Expr→Int→Option Bool}(ih_ieveryNode_ifits_1:∀ {m:Md} {a0:Expr} {a1_0:Int} {r:Bool},rec_ieveryNode_ifits_1 a0 a1_0=some r→Ok Tryz.prog 183 [Expr.x m a0,.fn 317 [.pb 0 0]] [.box [dI a1_0]] (dB r) [.box [dI a1_0]]){m:Md}{a0:(List Expr)}{a1_0_0:Int}{r:Int}(hr:q4j rec_ieveryNode_ifits_1 a0 a1_0_0=some r):Ok Tryz.prog 233 [.d m (.sl 7 (a0.map Expr.D)),.fn 236 [.pb 1 0]] [.box [dI a1_0_0],.box [.fn 317 [.pb 0 0]]] (dI r) [.box [dI a1_0_0],.box [.fn 317 [.pb 0 0]]]:=by
 refine OE Tryz.func233 fun S hS=>?_
 unfold q4j at hr
 refine J (gn 12)<|J (lenT 0)<|fun hl1=>bdE hr fun q1 hqq1 hr=>q0b hqq1 hl1 2 (fun k1 _=>[(0,.d m (.sl 7 (a0.map Expr.D))),(1,.fn 236 [.pb 1 0]),(7,dI (a0.length:Int)),(8,dI (k1:Int))]) (fun k1 _=>[]) I (fun k1 xk1 sk1 ok1 hxk1 hr hltk1 hik1=>?_) fun k1 sk1 ek1 hltk1=>?_
 refine bdE hr fun y1 hy1 hr=>J g<|J (CB' [(0,0),(1,1)] [] (z7k ih_ieveryNode_ifits_1 (m:=m) hy1))<|J (gn 1)<|ifE hr ?_ ?_<;>intro h1 hr
 exact e
 exact e
 subst ek1
 exact e
def q4a (rec_ieveryNode_ifits_1:Expr→Int→Option Bool)(a0:(List Expr))(a1_0_0:Int):Option Bool:=
 (q4j rec_ieveryNode_ifits_1 a0 a1_0_0).bind fun y1=>
 some (decide (0≤y1))
theorem q8c {rec_ieveryNode_ifits_1:Expr→Int→Option Bool}(ih_ieveryNode_ifits_1:∀ {m:Md} {a0:Expr} {a1_0:Int} {r:Bool},rec_ieveryNode_ifits_1 a0 a1_0=some r→Ok Tryz.prog 183 [Expr.x m a0,.fn 317 [.pb 0 0]] [.box [dI a1_0]] (dB r) [.box [dI a1_0]]){m:Md}{a0:(List Expr)}{a1_0_0:Int}{r:Bool}(hr:q4a rec_ieveryNode_ifits_1 a0 a1_0_0=some r):Ok Tryz.prog 176 [.d m (.sl 7 (a0.map Expr.D)),.fn 236 [.pb 1 0]] [.box [dI a1_0_0],.box [.fn 317 [.pb 0 0]]] (dB r) [.box [dI a1_0_0],.box [.fn 317 [.pb 0 0]]]:=by
 refine OE Tryz.func176 fun S hS=>?_
 unfold q4a at hr
 refine bdE hr fun y1 hy1 hr=>J g<|J (CB' [(0,0),(1,1)] [] (q8v ih_ieveryNode_ifits_1 (m:=m) hy1))<|e
def q7d (rec_ieveryNode_ifits_1:Expr→Int→Option Bool)(a0:Expr)(a1_0:Int):Option Bool:=
 (j0O a0 a1_0).bind fun y1=>
 if y1=true then (
 (q4a rec_ieveryNode_ifits_1 a0.Args a1_0).bind fun y2=>
 some (!y2)
 ) else (
 some false
 )
theorem z7W {rec_ieveryNode_ifits_1:Expr→Int→Option Bool}(ih_ieveryNode_ifits_1:∀ {m:Md} {a0:Expr} {a1_0:Int} {r:Bool},rec_ieveryNode_ifits_1 a0 a1_0=some r→Ok Tryz.prog 183 [Expr.x m a0,.fn 317 [.pb 0 0]] [.box [dI a1_0]] (dB r) [.box [dI a1_0]]){m:Md}{a0:Expr}{a1_0:Int}{r:Bool}(hr:q7d rec_ieveryNode_ifits_1 a0 a1_0=some r):Ok Tryz.prog 183 [Expr.x m a0,.fn 317 [.pb 0 0]] [.box [dI a1_0]] (dB r) [.box [dI a1_0]]:=by
 refine OE Tryz.func183 fun S hS=>?_
 unfold q7d at hr
 refine J g<|J (BX' 1)<|J (BX' 2)<|bdE hr fun y1 hy1 hr=>J g<|J (CB' [(0,0)] [] (k2M (m:=m) hy1))<|ifE hr ?_ ?_<;>intro h1 hr
 refine bdE hr fun y2 hy2 hr=>J g<|J (CB' [(0,0),(1,2)] [] (q8c ih_ieveryNode_ifits_1 (m:=m) hy2))<|e
 exact e
def q7e:Nat→Expr→Int→Option Bool
  | 0,_,_=>none
  | n+1,a0,a1_0=>q7d (q7e n) a0 a1_0
end Go.Proofs.YtcegfmageiicaaaGreat
