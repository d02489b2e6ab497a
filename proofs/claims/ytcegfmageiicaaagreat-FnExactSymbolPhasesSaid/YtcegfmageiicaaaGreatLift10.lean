/- What some functions of the program compute, as partial functions on plain data, and that they do; each lemma bears its conditions in its statement. -/
import Derived.Test.YtcegfmageiicaaaGreatLift9
set_option linter.unusedVariables false
set_option linter.unusedSimpArgs false
set_option linter.ambiguousOpen false
set_option linter.unusedSectionVars false
set_option linter.unnecessarySimpa false
set_option maxRecDepth 100000
set_option maxHeartbeats 40000000
noncomputable section
namespace Go.Proofs.YtcegfmageiicaaaGreat
open Go Go.E Go.A
def q7c (a0:Grammar)(y1:(List Relation))(y2:Bool):((List (List Phase)) × Int)→Option (((List (List Phase)) × Int) ⊕ (((List (List Phase))) ⊕ ((List (List Phase)) × Bool))):=fun (s2,s3)=>
 if s3 < (a0.Symbols.length:Int) then (
 if y2=true then (
 grd (0≤s3) <|
 (a0.Symbols[s3.toNat]?).bind fun x1=>
 (q4K a0 x1.Name).bind fun y3=>
 grd (0≤s3) <|
 (y1[s3.toNat]?).bind fun x2=>
 (z5b y3 x2).bind fun (y4,y5)=>
 if y5=true then (
 grd (((s2.length:Int)+1)*24≤140737488355328∧(s2.length:Int)+1≤9223372036854775807) <|
 grd (I64 (s3+1)) <|
 some (.inl ((s2++[y4]),(s3+1)))
 ) else (
 some (.inr (.inr ([],false)))
 )
 ) else (
 some (.inr (.inl s2))
 )
 ) else (
 some (.inr (.inl s2))
 )
def q9V (a0:Grammar):Option ((List (List Phase)) × Bool):=
 (q6F a0).bind fun (y1,y2)=>
 (q4i (q7c a0 y1 y2) (([]:List (List Phase)),0)).bind <| onr (fun r1=>some r1) fun s1=>
 some (s1,y2)
theorem j2Y {m:Md}{a0:Grammar}{r:((List (List Phase)) × Bool)}(hr:q9V a0=some r):Ok Tryz.prog 24 [Grammar.x m a0] [] (.tu [.ref 0 none,dB r.2]) [.row .fz 1 (r.1.map (fun (l:List Phase)=>A.D.sl 2 (l.map Phase.D)))]:=by
 refine OE Tryz.func24 fun S hS=>?_
 unfold q9V at hr
 refine J g<|J (BX' 0)<|bdP hr fun y1 y2 hq1 hr=>J g<|J (CB' [(0,1)] [] (z3P (m:=m) hq1))<|J g<|J (L0' 2 (fun (l:List Phase)=>A.D.sl 2 (l.map Phase.D)))<|bdE hr fun q2 hqq2 hr=>J (gn 7)<|AW.cut 3 (fun s1=>[(5,dB y2),(6,.ref 2 none)]) (fun s1=>[(2,.row .fz 1 (s1.map (fun (l:List Phase)=>A.D.sl 2 (l.map Phase.D))))]) (M:=fun x=>q2 = .inl x) ?_ fun x hx=>?_
 refine J g<|q0h hqq2 3 (fun (s2,s3)=>[(1,.pb 0 0),(4,.ref 1 none),(5,dB y2),(6,.ref 2 none),(7,dI s3)]) (fun (s2,s3)=>[(2,.row .fz 1 (s2.map (fun (l:List Phase)=>A.D.sl 2 (l.map Phase.D))))]) I fun sk1 ok1 hr hik1=>?_
 obtain⟨s2,s3⟩:=sk1
 have hr:=hr
 refine J (gn 8)<|ifE hr ?_ ?_<;>intro h1 hr
 refine J (gn 4)<|ifE hr ?_ ?_<;>intro h2 hr
 refine ggE hr fun g1 hr=>bdE hr fun x1 hx1 hr=>bdE hr fun y3 hy3 hr=>J g<|J (CB' [(0,3)] [] (q7G (m:=m) hy3))<|ggE hr fun g2 hr=>bdE hr fun x2 hx2 hr=>bdP hr fun y4 y5 hq3 hr=>J g<|J (CB' [(0,4)] [3] (j8U (m:=.bo) hq3))<|J (gn 12)<|ifE hr ?_ ?_<;>intro h3 hr
 refine J (gn 5) ?_
 refine J (q0p 4 rfl)<|J (LIR' 5 (m:=.fz) (f:=(fun (l:List Phase)=>A.D.sl 2 (l.map Phase.D))) (xs:=[y4]))<|ggE hr fun g3 hr=>J (AP1' 6 .fz 24 g3)<|ggE hr fun g4 hr=>J g<|E
 refine J g<|J (L0' 5 (fun (l:List Phase)=>A.D.sl 2 (l.map Phase.D)))<|e
 refine J (gn 2) ?_
 cases hr
 cases hik1 _ rfl
 exact⟨_,rfl,q0e hS 3⟩
 refine J (gn 6) ?_
 cases hr
 cases hik1 _ rfl
 exact⟨_,rfl,q0e hS 3⟩
 subst hx
 obtain⟨s1,rfl⟩:∃ y,y=x:=⟨_,rfl⟩
 exact e
def z0w (a1:Bool):Nat→Bool→Unit→Option (Unit ⊕ Int):=fun k1 xk1 _=>
 if a1=xk1 then (
 some (.inr (k1:Int))
 ) else (
 some (.inl ())
 )
def q7M (a0:(List Bool))(a1:Bool):Option Int:=
 (findL (z0w a1) 0 a0 ()).bind <| onr (fun r1=>some r1) fun _=>
 some (-1)
theorem z9y {m:Md}{a0:(List Bool)}{a1:Bool}{r:Int}(hr:q7M a0 a1=some r):Ok Tryz.prog 190 [.d m (.sl 1 (a0.map A.D.b)),dB a1] [] (dI r) []:=by
 refine OE Tryz.func190 fun S hS=>?_
 unfold q7M at hr
 refine J (gn 12)<|J (lenT 0)<|fun hl1=>bdE hr fun q1 hqq1 hr=>q0b hqq1 hl1 0 (fun k1 _=>[(0,.d m (.sl 1 (a0.map A.D.b))),(1,dB a1),(7,dI (a0.length:Int)),(8,dI (k1:Int))]) (fun k1 _=>[]) I (fun k1 xk1 sk1 ok1 hxk1 hr hltk1 hik1=>?_) fun k1 sk1 ek1 hltk1=>?_
 refine J g ?_
 refine J (BQ' rfl rfl)<|J (gn 1)<|ifE hr ?_ ?_<;>intro h1 hr
 exact e
 exact e
 subst ek1
 exact e
def q5G (a0:(List Bool))(a1:Bool):Option Bool:=
 (q7M a0 a1).bind fun y1=>
 some (decide (0≤y1))
theorem z7u {m:Md}{a0:(List Bool)}{a1:Bool}{r:Bool}(hr:q5G a0 a1=some r):Ok Tryz.prog 132 [.d m (.sl 1 (a0.map A.D.b)),dB a1] [] (dB r) []:=by
 refine OE Tryz.func132 fun S hS=>?_
 unfold q5G at hr
 refine bdE hr fun y1 hy1 hr=>J g<|J (CB' [] [] (z9y (m:=m) hy1))<|e
def z5X (a0:Int)(a2:Relation)(a3:(List Bool)):Nat→Attribute→Unit→Option (Unit ⊕ Bool):=fun k1 xk1 _=>
 (q9m a2 (k1:Int) a0).bind fun y1=>
 if y1=true then (
 (a3[k1]?).bind fun x1=>
 if x1=true then (
 some (.inl ())
 ) else (
 some (.inr false)
 )
 ) else (
 some (.inl ())
 )
def z0n (a0:Int)(a1:(List Attribute))(a2:Relation)(a3:(List Bool)):Option Bool:=
 (findL (z5X a0 a2 a3) 0 a1 ()).bind <| onr (fun r1=>some r1) fun _=>
 some true
theorem j5I {m2:Md}{a0:Int}{a1:(List Attribute)}{a2:Relation}{a3:(List Bool)}{r:Bool}(hr:z0n a0 a1 a2 a3=some r):Ok Tryz.prog 130 [dI a0,.pb 0 0,.pb 1 0,.pb 2 0] [.box [.d m2 (.sl 4 (a1.map Attribute.D))],.box [dI a2.N,.d m2 (.sl 1 (a2.Rows.map (A.D.i .i64)))],.box [.ref 3 none],.row .fz 1 (a3.map A.D.b)] (dB r) [.box [.d m2 (.sl 4 (a1.map Attribute.D))],.box [dI a2.N,.d m2 (.sl 1 (a2.Rows.map (A.D.i .i64)))],.box [.ref 3 none],.row .fz 1 (a3.map A.D.b)]:=by
 refine OE Tryz.func130 fun S hS=>?_
 unfold z0n at hr
 refine J (gn 12)<|J (lenT 7)<|fun hl1=>bdE hr fun q1 hqq1 hr=>q0b hqq1 hl1 4 (fun k1 _=>[(0,dI a0),(2,.pb 1 0),(3,.pb 2 0),(8,dI (a1.length:Int)),(9,dI (k1:Int))]) (fun k1 _=>[]) I (fun k1 xk1 sk1 ok1 hxk1 hr hltk1 hik1=>?_) fun k1 sk1 ek1 hltk1=>?_
 refine bdE hr fun y1 hy1 hr=>J g<|J (CB' [] [] (z4S (m:=m2) hy1))<|ifE hr ?_ ?_<;>intro h1 hr
 refine bdE hr fun x1 hx1 hr=>J (gn 8)<|ifE hr ?_ ?_<;>intro h2 hr
 exact e
 exact e
 exact e
 subst ek1
 exact e
def q3F (a0:Int)(o0:(List Attribute))(o1:Relation):((List ByteArray) × Int × (List Bool))→Option (((List ByteArray) × Int × (List Bool)) ⊕ ((List ByteArray) × (List Bool))):=fun (s3,s4,s5)=>
 if s4 < (o0.length:Int) then (
 (
 grd (0≤s4) <|
 (o0[s4.toNat]?).bind fun x1=>
 (
 if x1.Mode=a0 then (
 grd (0≤s4) <|
 (s5[s4.toNat]?).bind fun x2=>
 some (!x2)
 ) else (
 some false
 )
 ).bind fun s9=>
 (
 if s9=true then (
 (z0n s4 o0 o1 s5).bind fun y1=>
 some y1
 ) else (
 some false
 )
 ).bind fun s10=>
 if s10=true then (
 grd (((s3.length:Int)+1)*16≤140737488355328∧(s3.length:Int)+1≤9223372036854775807) <|
 grd (0≤s4) <|
 (s5[s4.toNat]?).bind fun x3=>
 some ((s3++[x1.Name]),(-1),(List.set s5 s4.toNat true))
 ) else (
 some (s3,s4,s5)
 )
 ).bind fun (s6,s7,s8)=>
 grd (I64 (s7+1)) <|
 some (.inl (s6,(s7+1),s8))
 ) else (
 some (.inr (s3,s5))
 )
def q4r (a0:Int)(o0:(List Attribute))(o1:Relation)(o2:(List Bool)):Option ((List ByteArray) × (List Bool)):=
 (q4i (q3F a0 o0 o1) (([]:List ByteArray),0,o2)).bind fun (s1,s2)=>
 some (s1,s2)
theorem z0q {m2:Md}{a0:Int}{o0:(List Attribute)}{o1:Relation}{o2:(List Bool)}{r:((List ByteArray) × (List Bool))}(hr:q4r a0 o0 o1 o2=some r):Ok Tryz.prog 131 [dI a0,.pb 0 0,.pb 2 0,.pb 3 0] [.box [.d m2 (.sl 4 (o0.map Attribute.D))],.box [dI o1.N,.d m2 (.sl 1 (o1.Rows.map (A.D.i .i64)))],.box [.ref 4 none],.box [.fn 130 [.pb 0 0,.pb 1 0,.pb 2 0]],.row .fz 1 (o2.map A.D.b)] (.ref 5 none) [.box [.d m2 (.sl 4 (o0.map Attribute.D))],.box [dI o1.N,.d m2 (.sl 1 (o1.Rows.map (A.D.i .i64)))],.box [.ref 4 none],.box [.fn 130 [.pb 0 0,.pb 1 0,.pb 2 0]],.row .fz 1 (r.2.map A.D.b),.row .fz 1 (r.1.map A.D.s)]:=by
 refine OE Tryz.func131 fun S hS=>?_
 unfold q4r at hr
 refine J g<|J (L0' 5 A.D.s)<|bdP hr fun s1 s2 hqq1 hr=>J (gn 7)<|q0d 6 [(6,.ref 5 none)] [(4,.row .fz 1 (s2.map A.D.b)),(5,.row .fz 1 (s1.map A.D.s))] ?_ ?_
 refine J g<|q0h hqq1 6 (fun (s3,s4,s5)=>[(0,dI a0),(1,.pb 0 0),(2,.pb 2 0),(3,.pb 3 0),(6,.ref 5 none),(7,dI s4)]) (fun (s3,s4,s5)=>[(4,.row .fz 1 (s5.map A.D.b)),(5,.row .fz 1 (s3.map A.D.s))]) I fun sk1 ok1 hr hik1=>?_
 obtain⟨s3,s4,s5⟩:=sk1
 have hr:=hr
 refine J (gn 8)<|ifE hr ?_ ?_<;>intro h1 hr
 refine bdT hr fun s6 s7 s8 hqq2 hr=>J (gn 3)<|q0d 6 [(0,dI a0),(1,.pb 0 0),(2,.pb 2 0),(3,.pb 3 0),(6,.ref 5 none),(7,dI s7)] [(4,.row .fz 1 (s8.map A.D.b)),(5,.row .fz 1 (s6.map A.D.s))] ?_ ?_
 replace hr:=hqq2
 refine ggE hr fun g1 hr=>bdE hr fun x1 hx1 hr=>bdE hr fun s9 hqq3 hr=>J (gn 10)<|q0a 7 [(0,dI a0),(1,.pb 0 0),(2,.pb 2 0),(3,.pb 3 0),(6,.ref 5 none),(7,dI s4),(28,dB s9)] ?_ ?_
 replace hr:=hqq3
 refine ifE hr ?_ ?_<;>intro h2 hr
 refine ggE hr fun g2 hr=>bdE hr fun x2 hx2 hr=>e
 exact e
 refine bdE hr fun s10 hqq4 hr=>q0a 5 [(0,dI a0),(1,.pb 0 0),(2,.pb 2 0),(3,.pb 3 0),(6,.ref 5 none),(7,dI s4),(33,dB s10)] ?_ ?_
 replace hr:=hqq4
 refine ifE hr ?_ ?_<;>intro h3 hr
 refine bdE hr fun y1 hy1 hr=>J g<|J (CB' [(0,0),(1,1),(2,2),(3,4)] [] (j5I (m2:=m2) hy1))<|e
 exact e
 refine J (gn 1)<|ifE hr ?_ ?_<;>intro h4 hr
 refine J g<|J (LIR' 6 (m:=.fz) (f:=A.D.s) (xs:=[x1.Name]))<|ggE hr fun g3 hr=>J (z4z (f:=A.D.s) 7 (fun _=>rfl) 16 g3)<|ggE hr fun g4 hr=>bdE hr fun x3 hx3 hr=>J g<|J (SE' true hx3)<|e
 exact e
 refine ggE hr fun g5 hr=>e
 refine J (gn 2) ?_
 cases hr
 cases hik1 _ rfl
 exact q0e hS 6
 exact e
def z1i (a0:(List Attribute))(a1:Relation):((List Phase) × (List Bool))→Option (((List Phase) × (List Bool)) ⊕ (((List Phase) × (List Bool)) ⊕ ((List Phase) × Bool))):=fun (s5,s6)=>
 (
 if (s5.length:Int)=0 then (
 some true
 ) else (
 (q5G s6 false).bind fun y3=>
 some y3
 )
 ).bind fun s7=>
 if s7=true then (
 (q4r 1 a0 a1 s6).bind fun (y4,z1)=>
 (q4r 2 a0 a1 z1).bind fun (y5,z2)=>
 (
 if 0 < (a0.length:Int) then (
 grd (I64 ((y4.length+y5.length:Nat):Int)) <|
 some (decide (((y4.length+y5.length:Nat):Int)=0))
 ) else (
 some false
 )
 ).bind fun s8=>
 if s8=true then (
 some (.inr (.inr ([],false)))
 ) else (
 grd (((s5.length:Int)+1)*48≤140737488355328∧(s5.length:Int)+1≤9223372036854775807) <|
 some (.inl ((s5++[(⟨y4,y5⟩:Phase)]),z2))
 )
 ) else (
 some (.inr (.inl (s5,s6)))
 )
def z5c (a0:(List Attribute))(a1:Relation):Option ((List Phase) × Bool):=
 (q4N a1).bind fun y1=>
 (
 if y1=true then (
 some (!(decide (a1.N=(a0.length:Int))))
 ) else (
 some true
 )
 ).bind fun s1=>
 (
 if s1=true then (
 some true
 ) else (
 (z0e a1).bind fun y2=>
 some y2
 )
 ).bind fun s2=>
 if s2=true then (
 some ([],false)
 ) else (
 grd (0≤(a0.length:Int)∧(a0.length:Int)*1≤281474976710656∧(a0.length:Int)≤9223372036854775807) <|
 (q4i (z1i a0 a1) (([]:List Phase),(List.replicate a0.length false))).bind <| onr (fun r1=>some r1) fun (s3,s4)=>
 some (s3,true)
 )
theorem j8V {m:Md}{a0:(List Attribute)}{a1:Relation}{r:((List Phase) × Bool)}(hr:z5c a0 a1=some r):Ok Tryz.prog 77 [.d m (.sl 4 (a0.map Attribute.D)),Relation.x m a1] [] (.tu [.ref 0 none,dB r.2]) [.deep .fz 2 (r.1.map Phase.W) []]:=by
 refine OE Tryz.func77 fun S hS=>?_
 unfold z5c at hr
 refine J g<|J (BX' 0)<|J (BX' 1)<|bdE hr fun y1 hy1 hr=>J g<|J (CB' [] [] (q5T (m:=m) hy1))<|bdE hr fun s1 hqq1 hr=>J (gn 1)<|q0a 7 [(2,.pb 0 0),(3,.pb 1 0),(20,dB s1)] ?_ ?_
 replace hr:=hqq1
 refine ifE hr ?_ ?_<;>intro h1 hr
 exact e
 exact e
 refine bdE hr fun s2 hqq2 hr=>q0a 4 [(2,.pb 0 0),(3,.pb 1 0),(24,dB s2)] ?_ ?_
 replace hr:=hqq2
 refine ifE hr ?_ ?_<;>intro h2 hr
 exact e
 refine bdE hr fun y2 hy2 hr=>J g<|J (CB' [] [] (j0f (m:=m) hy2))<|e
 refine J (gn 1)<|ifE hr ?_ ?_<;>intro h3 hr
 refine J (gn 7) ?_
 refine J (q0g (q0s (t:=4) (r:=2) .fz 2 rfl rfl))<|J (q0g (q0L 2 Phase.W))<|J g<|E
 refine J g<|J (L0' 2 Phase.D)<|ggE hr fun g1 hr=>J g<|J (MKR' 3 (f:=A.D.b) false g1.1 g1.2.1 g1.2.2)<|J (NV' 4)<|J (gn 3)<|J (q3z 2 Phase.W)<|J g<|J (NV' 5)<|bdE hr fun q3 hqq3 hr=>J (gn 8)<|AW.cut 6 (fun (s3,s4)=>[(6,.ref 2 none)]) (fun (s3,s4)=>[(2,.deep .fz 2 (s3.map Phase.W) []),(3,.row .fz 1 (s4.map A.D.b))]) (M:=fun x=>q3 = .inl x) ?_ fun x hx=>?_
 refine J g<|q0h hqq3 6 (fun (s5,s6)=>[(2,.pb 0 0),(6,.ref 2 none),(7,.pb 4 0),(9,.fn 131 [.pb 0 0,.pb 4 0,.pb 5 0])]) (fun (s5,s6)=>[(2,.deep .fz 2 (s5.map Phase.W) []),(3,.row .fz 1 (s6.map A.D.b))]) I fun sk1 ok1 hr hik1=>?_
 obtain⟨s5,s6⟩:=sk1
 have hr:=hr
 refine J g<|J (LEd' s5.length)<|bdE hr fun s7 hqq4 hr=>J (gn 1)<|q0a 4 [(2,.pb 0 0),(6,.ref 2 none),(7,.pb 4 0),(9,.fn 131 [.pb 0 0,.pb 4 0,.pb 5 0]),(37,dB s7)] ?_ ?_
 replace hr:=hqq4
 refine ifE hr ?_ ?_<;>intro h4 hr
 exact e
 refine bdE hr fun y3 hy3 hr=>J g<|J (CB' [] [3] (z7u (m:=.bo) hy3))<|e
 refine J (gn 1)<|ifE hr ?_ ?_<;>intro h5 hr
 refine bdP hr fun y4 z1 hq5 hr=>J g<|J (CB' [(0,0),(1,1),(2,4),(3,5),(4,3),(5,6)] [] (z0q (m2:=m) hq5))<|J g<|J (NV' 7)<|bdP hr fun y5 z2 hq6 hr=>J g<|J (CB' [(0,0),(1,1),(2,4),(3,5),(4,3),(5,8)] [] (z0q (m2:=m) hq6))<|bdE hr fun s8 hqq7 hr=>J (gn 9)<|q0a 10 [(2,.pb 0 0),(6,.ref 2 none),(7,.pb 4 0),(9,.fn 131 [.pb 0 0,.pb 4 0,.pb 5 0]),(10,.pb 7 0),(56,dB s8)] ?_ ?_
 replace hr:=hqq7
 refine ifE hr ?_ ?_<;>intro h6 hr
 refine ggE hr fun g2 hr=>J g<|J (OB' _ (z9v (p:=y4.length) (q:=y5.length) g2))<|e
 exact e
 refine J (gn 1)<|ifE hr ?_ ?_<;>intro h7 hr
 refine J (gn 7) ?_
 refine J (q0g (q0s (t:=4) (r:=9) .fz 2 rfl rfl))<|J (q0g (q0L 9 Phase.W))<|J g<|E
 refine J g<|J (LID' (f:=Phase.W) 9 (⟨y4,y5⟩:Phase) [6,8])<|ggE hr fun g3 hr=>J (k9V 10 48 g3)<|e
 refine J (gn 2) ?_
 cases hr
 cases hik1 _ rfl
 exact⟨_,rfl,q0e hS 6⟩
 subst hx
 obtain⟨s3,s4⟩:=x
 exact e
def q9e (a0:Grammar)(y1:(List Relation)):Nat→Symbol→((List (List Phase)))→Option (((List (List Phase))) ⊕ ((List (List Phase)) × Bool)):=fun k1 xk1 s1=>
 (q4g a0 xk1.Name).bind fun y3=>
 (y1[k1]?).bind fun x1=>
 (z5c y3 x1).bind fun (y4,y5)=>
 if y5=true then (
 grd (((s1.length:Int)+1)*24≤140737488355328∧(s1.length:Int)+1≤9223372036854775807) <|
 some (.inl (s1++[y4]))
 ) else (
 some (.inr ([],false))
 )
def q8D (a0:Grammar):Option ((List (List Phase)) × Bool):=
 (q5U a0).bind fun (y1,y2)=>
 if y2=true then (
 (findL (q9e a0 y1) 0 a0.Symbols ([]:List (List Phase))).bind <| onr (fun r1=>some r1) fun s1=>
 some (s1,true)
 ) else (
 some ([],false)
 )
theorem z7S {m:Md}{a0:Grammar}{r:((List (List Phase)) × Bool)}(hr:q8D a0=some r):Ok Tryz.prog 25 [Grammar.x m a0] [] (.tu [.ref 0 none,dB r.2]) [.deep .fz 1 (r.1.map (fun (l:List Phase)=>[Cell.w 2 (l.map Phase.D)])) []]:=by
 refine Ok.enter rfl Tryz.func25 rfl rfl rfl fun S hS=>?_
 unfold q8D at hr
 refine sr ?_
 refine BX 0 ?_
 refine N2 ?_
 refine sr ?_
 refine W1 ?_
 refine bdE hr fun q1 hq1 hr=>?_
 obtain⟨y1,y2⟩:=q1
 refine CB [(0,1)] [] (z0v (m:=m) hq1) ?_
 refine N5 ?_
 refine ssr ?_
 refine N2 ?_
 refine ifE hr (fun h1 hr=>?_) fun h1 hr=>?_
 refine q2b rfl (bnF h1) ?_
 refine q0I ?_
 refine sr ?_
 refine L0 2 (fun (l:List Phase)=>A.D.sl 2 (l.map Phase.D)) ?_
 refine q3x 2 (fun (l:List Phase)=>[Cell.w 2 (l.map Phase.D)]) ?_
 refine N1 ?_
 refine ssr ?_
 refine W2 ?_
 refine LF ?_
 refine N1 ?_
 refine AW.block ?_
 refine AW.len (.ag 0 (.tmp 0 rfl) rfl) fun hl1=>?_
 refine bdE hr fun q2 hqq2 hr=>?_
 refine q0b hqq2 hl1 3 (fun k1 s1=>[(1,.pb 0 0),(4,.ref 1 none),(6,.ref 2 none),(20,.d m (.sl 2 (a0.Symbols.map Symbol.D))),(21,dI (a0.Symbols.length:Int)),(22,dI (k1:Int))]) (fun k1 s1=>[(2,.deep .fz 1 (s1.map (fun (l:List Phase)=>[Cell.w 2 (l.map Phase.D)])) [])]) (q0e hS 3) (fun k1 xk1 sk1 ok1 hxk1 hr hltk1 hik1=>?_) fun k1 sk1 ek1 hltk1=>?_
 obtain⟨s1,rfl⟩:∃ y,y=sk1:=⟨_,rfl⟩
 refine sr ?_
 refine N1 ?_
 refine q0r (q2a rfl (dT hltk1) ?_)
 refine q0I ?_
 refine q0r (AW.block (q0r (q0x ?_)))
 refine W1 ?_
 refine IF (Int.natCast_nonneg _) hxk1 ?_
 refine W1 ?_
 refine NV 3 ?_
 refine W1 ?_
 refine SB ?_
 refine N0 ?_
 refine bdE hr fun y3 hy3 hr=>?_
 refine bdE hr fun x1 hx1 hr=>?_
 refine AW.out 1 k1 1 5 (q3D hx1) ?_
 refine q0r (q0Q (h:=?_))
 refine W3 ?_
 refine CB [(0,4)] [] (q7J (m:=m) hy3) ?_
 refine W2 ?_
 refine IEd (Int.natCast_nonneg _) (q3C (q3D hx1)) ?_
 refine LPad [(1,5)] (q3C (q3D hx1)) ?_
 refine bdE hr fun q3 hq3 hr=>?_
 obtain⟨y4,y5⟩:=q3
 refine CB [(0,6)] [4,5] (j8V (m:=.bo) hq3) ?_
 refine N5 ?_
 refine ssr ?_
 refine N2 ?_
 refine ifE hr (fun h2 hr=>?_) fun h2 hr=>?_
 refine q2b rfl (bnF h2) ?_
 refine q0I ?_
 refine q0x ?_
 refine W2 ?_
 refine LID (f:=(fun (l:List Phase)=>[Cell.w 2 (l.map Phase.D)])) 7 y4 [6] ?_
 refine ggE hr fun g1 hr=>?_
 refine APD1 8 24 g1 ?_
 refine N1 ?_
 refine q0x ?_
 refine OB _ (z9v (p:=k1) (q:=1) (q7t hltk1 hl1)) ?_
 refine N1 ?_
 cases hr
 exact⟨_,rfl,GH.trans (q0i 1 k1 1 5 (q3C (q3D hx1)) (hx:=.flatM (fun _=>rfl))) (GH.trans (q0j 1 (he:=k8t (f:=Relation.W) hx1 (by first | rfl | (simp only [List.set_set]; rfl)))) (q0M hS [(0,0),(1,1),(8,2)] 3))⟩
 refine q2a rfl (bnT h2) ?_
 refine sr ?_
 refine N2 ?_
 refine q1n ?_
 refine endA.gh (q0i 1 k1 1 5 (q3C (q3D hx1)) (hx:=.flatM (fun _=>rfl))) ?_
 refine endA.gh (q0j 1 (he:=k8t (f:=Relation.W) hx1 (by first | rfl | (simp only [List.set_set]; rfl)))) ?_
 refine endA.gh (q0s (t:=2) (r:=7) .fz 1 rfl rfl) ?_
 refine endA.gh (q0L 7 (fun (l:List Phase)=>[Cell.w 2 (l.map Phase.D)])) ?_
 cases hr
 cases hik1 _ rfl
 rename_i hr
 cases hr
 exact q0t [(7,0)] 1 hS
 subst ek1
 obtain⟨s1,rfl⟩:∃ y,y=sk1:=⟨_,rfl⟩
 refine sr ?_
 refine N1 ?_
 refine q0r (q2b rfl (dF hltk1) ?_)
 refine q2C ?_
 refine sr ?_
 refine N3 ?_
 refine q1n ?_
 cases hr
 exact q0t [(2,0)] 1 hS
 refine q2a rfl (bnT h1) ?_
 refine sr ?_
 refine N2 ?_
 refine q1n ?_
 refine endA.gh (q0s (t:=2) (r:=2) .fz 1 rfl rfl) ?_
 refine endA.gh (q0L 2 (fun (l:List Phase)=>[Cell.w 2 (l.map Phase.D)])) ?_
 cases hr
 exact q0t [(2,0)] 1 hS
def z4s (a0:Phase)(a1:Phase):Option Bool:=
 (q8e a0.Inherited a1.Inherited).bind fun y1=>
 if y1=true then (
 (q8e a0.Synthesized a1.Synthesized).bind fun y2=>
 if y2=true then (
 some true
 ) else (
 some false
 )
 ) else (
 some false
 )
theorem k0t {m:Md}{a0:Phase}{a1:Phase}{r:Bool}(hr:z4s a0 a1=some r):Ok Tryz.prog 134 [Phase.x m a0,Phase.x m a1] [] (dB r) []:=by
 refine OE Tryz.func134 fun S hS=>?_
 unfold z4s at hr
 refine J g<|J (BX' 0)<|J (BX' 1)<|bdE hr fun y1 hy1 hr=>J g<|J (CB' [] [] (z0f (m:=m) hy1))<|J (gn 2)<|ifE hr ?_ ?_<;>intro h1 hr
 refine bdE hr fun y2 hy2 hr=>J g<|J (CB' [] [] (z0f (m:=m) hy2))<|J (gn 2)<|ifE hr ?_ ?_<;>intro h2 hr
 exact e
 exact e
 exact e
def j2u (a1:(List Phase)):Nat→Phase→Unit→Option (Unit ⊕ Bool):=fun k1 xk1 _=>
 (a1[k1]?).bind fun x1=>
 (z4s xk1 x1).bind fun y1=>
 if y1=true then (
 some (.inl ())
 ) else (
 some (.inr false)
 )
def z5d (a0:(List Phase))(a1:(List Phase)):Option Bool:=
 if (a0.length:Int)=(a1.length:Int) then (
 (findL (j2u a1) 0 a0 ()).bind <| onr (fun r1=>some r1) fun _=>
 some true
 ) else (
 some false
 )
theorem j8W {m:Md}{a0:(List Phase)}{a1:(List Phase)}{r:Bool}(hr:z5d a0 a1=some r):Ok Tryz.prog 79 [.d m (.sl 2 (a0.map Phase.D)),.d m (.sl 2 (a1.map Phase.D))] [] (dB r) []:=by
 refine OE Tryz.func79 fun S hS=>?_
 unfold z5d at hr
 refine J (gn 13)<|ifE hr ?_ ?_<;>intro h1 hr
 refine J (gn 8)<|J (lenT 0)<|fun hl1=>bdE hr fun q1 hqq1 hr=>q0b hqq1 hl1 0 (fun k1 _=>[(0,.d m (.sl 2 (a0.map Phase.D))),(1,.d m (.sl 2 (a1.map Phase.D))),(5,dI (k1:Int))]) (fun k1 _=>[]) I (fun k1 xk1 sk1 ok1 hxk1 hr hltk1 hik1=>?_) fun k1 sk1 ek1 hltk1=>?_
 refine bdE hr fun x1 hx1 hr=>bdE hr fun y1 hy1 hr=>J g<|J (CB' [] [] (k0t (m:=m) hy1))<|J (gn 2)<|ifE hr ?_ ?_<;>intro h2 hr
 exact e
 exact e
 subst ek1
 exact e
 exact e
def j1a (a1:(List (List Phase))):Nat→(List Phase)→Unit→Option (Unit ⊕ Bool):=fun k1 xk1 _=>
 (a1[k1]?).bind fun x1=>
 (z5d xk1 x1).bind fun y1=>
 if y1=true then (
 some (.inl ())
 ) else (
 some (.inr false)
 )
def z1j (a0:(List (List Phase)))(a1:(List (List Phase))):Option Bool:=
 if (a0.length:Int)=(a1.length:Int) then (
 (findL (j1a a1) 0 a0 ()).bind <| onr (fun r1=>some r1) fun _=>
 some true
 ) else (
 some false
 )
theorem z7v {m:Md}{a0:(List (List Phase))}{a1:(List (List Phase))}{r:Bool}(hr:z1j a0 a1=some r):Ok Tryz.prog 26 [.d m (.sl 1 (a0.map (fun (l:List Phase)=>A.D.sl 2 (l.map Phase.D)))),.d m (.sl 1 (a1.map (fun (l:List Phase)=>A.D.sl 2 (l.map Phase.D))))] [] (dB r) []:=by
 refine OE Tryz.func26 fun S hS=>?_
 unfold z1j at hr
 refine J (gn 13)<|ifE hr ?_ ?_<;>intro h1 hr
 refine J (gn 8)<|J (lenT 0)<|fun hl1=>bdE hr fun q1 hqq1 hr=>q0b hqq1 hl1 0 (fun k1 _=>[(0,.d m (.sl 1 (a0.map (fun (l:List Phase)=>A.D.sl 2 (l.map Phase.D))))),(1,.d m (.sl 1 (a1.map (fun (l:List Phase)=>A.D.sl 2 (l.map Phase.D))))),(5,dI (k1:Int))]) (fun k1 _=>[]) I (fun k1 xk1 sk1 ok1 hxk1 hr hltk1 hik1=>?_) fun k1 sk1 ek1 hltk1=>?_
 refine bdE hr fun x1 hx1 hr=>bdE hr fun y1 hy1 hr=>J g<|J (CB' [] [] (j8W (m:=m) hy1))<|J (gn 2)<|ifE hr ?_ ?_<;>intro h2 hr
 exact e
 exact e
 subst ek1
 exact e
 exact e
def z3l:(Int × Int × (List Phase))→Option ((Int × Int × (List Phase)) ⊕ (Int × (List Phase))):=fun (s3,s4,s5)=>
 if s4 < (s5.length:Int) then (
 grd (0≤s4) <|
 (s5[s4.toNat]?).bind fun x1=>
 (q7r x1.Inherited s3).bind fun (y1,z1)=>
 (q7r x1.Synthesized y1).bind fun (y2,z2)=>
 grd (I64 (s4+1)) <|
 some (.inl (y2,(s4+1),(List.set s5 s4.toNat (⟨z1,z2⟩:Phase))))
 ) else (
 some (.inr (s3,s5))
 )
def z4f (a0:(List Phase))(a1:Int):Option (Int × (List Phase)):=
 (q4i z3l (a1,0,a0)).bind fun (s1,s2)=>
 some (s1,s2)
theorem j5J {a0:(List Phase)}{a1:Int}{r:(Int × (List Phase))}(hr:z4f a0 a1=some r):Ok Tryz.prog 80 [.ref 0 none,dI a1] [.deep .fz 2 (a0.map Phase.W) []] (dI r.1) [.deep .fz 2 (r.2.map Phase.W) []]:=by
 refine OE Tryz.func80 fun S hS=>?_
 unfold z4f at hr
 refine bdP hr fun s1 s2 hqq1 hr=>J (gn 9)<|q0d 1 [(1,dI s1)] [(0,.deep .fz 2 (s2.map Phase.W) [])] ?_ ?_
 refine J g<|q0h hqq1 1 (fun (s3,s4,s5)=>[(0,.ref 0 none),(1,dI s3),(5,dI s4)]) (fun (s3,s4,s5)=>[(0,.deep .fz 2 (s5.map Phase.W) [])]) I fun sk1 ok1 hr hik1=>?_
 obtain⟨s3,s4,s5⟩:=sk1
 have hr:=hr
 refine J g<|J (LEd' s5.length)<|J (gn 2)<|ifE hr ?_ ?_<;>intro h1 hr
 refine ggE hr fun g1 hr=>bdE hr fun x1 hx1 hr=>J g<|J (IEd' g1 (q3D hx1))<|J (gn 1)<|J (q0l 0 s4.toNat 0 1 (q3D hx1))<|J (LPd' [(0,1)] (q3C (q3D hx1)))<|bdP hr fun y1 z1 hq2 hr=>J g<|J (CB' [(0,1)] [] (z1Z hq2))<|J g<|J (IEd' g1 (q3C (q3D hx1)))<|J (gn 1)<|J (q0l 0 s4.toNat 1 2 (q3C (q3D hx1)))<|J (LPd' [(1,2),(0,1)] (q3C (q3C (q3D hx1))))<|bdP hr fun y2 z2 hq3 hr=>J g<|J (CB' [(0,2)] [] (z1Z hq3))<|ggE hr fun g2 hr=>J (gn 7) ?_
 cases hr
 exact⟨_,rfl,GH.trans (q0i 0 s4.toNat 1 2 (q3C (q3C (q3D hx1))) (hx:=.flatM (fun _=>rfl))) (GH.trans (q0i 0 s4.toNat 0 1 (q3C (q3C (q3C (q3D hx1)))) (hx:=.flatM (fun _=>rfl))) (GH.trans (q0j 0 (he:=eset (f:=Phase.W) (x':=(⟨z1,z2⟩:Phase)) (by first | rfl | (simp only [List.set_set]; rfl)))) (q0e hS 1)))⟩
 refine J (gn 2) ?_
 cases hr
 cases hik1 _ rfl
 exact q0e hS 1
 exact e
def z2d:(Int × Int × (List (List Phase)))→Option ((Int × Int × (List (List Phase))) ⊕ (Int × (List (List Phase)))):=fun (s3,s4,s5)=>
 if s4 < (s5.length:Int) then (
 grd (0≤s4) <|
 (s5[s4.toNat]?).bind fun x1=>
 (z4f x1 s3).bind fun (y1,z1)=>
 grd (I64 (s4+1)) <|
 some (.inl (y1,(s4+1),(List.set s5 s4.toNat z1)))
 ) else (
 some (.inr (s3,s5))
 )
def z3m (a0:(List (List Phase)))(a1:Int):Option (Int × (List (List Phase))):=
 (q4i z2d (a1,0,a0)).bind fun (s1,s2)=>
 some (s1,s2)
theorem j4L {a0:(List (List Phase))}{a1:Int}{r:(Int × (List (List Phase)))}(hr:z3m a0 a1=some r):Ok Tryz.prog 27 [.ref 0 none,dI a1] [.deep .fz 1 (a0.map (fun (l:List Phase)=>[Cell.w 2 (l.map Phase.D)])) []] (dI r.1) [.deep .fz 1 (r.2.map (fun (l:List Phase)=>[Cell.w 2 (l.map Phase.D)])) []]:=by
 refine OE Tryz.func27 fun S hS=>?_
 unfold z3m at hr
 refine bdP hr fun s1 s2 hqq1 hr=>J (gn 9)<|q0d 1 [(1,dI s1)] [(0,.deep .fz 1 (s2.map (fun (l:List Phase)=>[Cell.w 2 (l.map Phase.D)])) [])] ?_ ?_
 refine J g<|q0h hqq1 1 (fun (s3,s4,s5)=>[(0,.ref 0 none),(1,dI s3),(5,dI s4)]) (fun (s3,s4,s5)=>[(0,.deep .fz 1 (s5.map (fun (l:List Phase)=>[Cell.w 2 (l.map Phase.D)])) [])]) I fun sk1 ok1 hr hik1=>?_
 obtain⟨s3,s4,s5⟩:=sk1
 have hr:=hr
 refine J g<|J (LEd' s5.length)<|J (gn 2)<|ifE hr ?_ ?_<;>intro h1 hr
 refine ggE hr fun g1 hr=>bdE hr fun x1 hx1 hr=>J g<|J (IEd' g1 (q3D hx1))<|J (q0l 0 s4.toNat 0 1 (q3D hx1))<|J (LPd' [(0,1)] (q3C (q3D hx1)))<|bdP hr fun y1 z1 hq2 hr=>J g<|J (CB' [(0,1)] [] (j5J hq2))<|ggE hr fun g2 hr=>J (gn 7) ?_
 cases hr
 exact⟨_,rfl,GH.trans (q0i 0 s4.toNat 0 1 (q3C (q3D hx1)) (hx:=.ownM (f:=Phase.D))) (GH.trans (q0j 0 (he:=eset (f:=(fun (l:List Phase)=>[Cell.w 2 (l.map Phase.D)])) (x':=z1) (by first | rfl | (simp only [List.set_set]; rfl)))) (q0e hS 1))⟩
 refine J (gn 2) ?_
 cases hr
 cases hik1 _ rfl
 exact q0e hS 1
 exact e
def z9E:Nat→Phase→Int→Option (Int ⊕ Int):=fun k1 xk1 s1=>
 (q6e xk1.Inherited s1).bind fun y1=>
 if y1 < 0 then (
 some (.inr (-1))
 ) else (
 (q6e xk1.Synthesized y1).bind fun y2=>
 if y2 < 0 then (
 some (.inr (-1))
 ) else (
 some (.inl y2)
 )
 )
def z2e (a0:(List Phase))(a1:Int):Option Int:=
 (findL z9E 0 a0 a1).bind <| onr (fun r1=>some r1) fun s1=>
 some s1
theorem j5K {m:Md}{a0:(List Phase)}{a1:Int}{r:Int}(hr:z2e a0 a1=some r):Ok Tryz.prog 81 [.d m (.sl 2 (a0.map Phase.D)),dI a1] [] (dI r) []:=by
 refine OE Tryz.func81 fun S hS=>?_
 unfold z2e at hr
 refine J (gn 10)<|J (lenT 0)<|fun hl1=>bdE hr fun q1 hqq1 hr=>q0b hqq1 hl1 0 (fun k1 s1=>[(0,.d m (.sl 2 (a0.map Phase.D))),(1,dI s1),(5,dI (k1:Int))]) (fun k1 s1=>[]) I (fun k1 xk1 sk1 ok1 hxk1 hr hltk1 hik1=>?_) fun k1 sk1 ek1 hltk1=>?_
 obtain⟨s1,rfl⟩:∃ y,y=sk1:=⟨_,rfl⟩
 refine bdE hr fun y1 hy1 hr=>J g<|J (CB' [] [] (z2c (m:=m) hy1))<|J (gn 8)<|ifE hr ?_ ?_<;>intro h1 hr
 exact e
 refine bdE hr fun y2 hy2 hr=>J g<|J (CB' [] [] (z2c (m:=m) hy2))<|J (gn 7)<|ifE hr ?_ ?_<;>intro h2 hr
 exact e
 exact e
 subst ek1
 obtain⟨s1,rfl⟩:∃ y,y=sk1:=⟨_,rfl⟩
 exact e
def z8R:Nat→(List Phase)→Int→Option (Int ⊕ Int):=fun k1 xk1 s1=>
 (z2e xk1 s1).bind fun y1=>
 if y1 < 0 then (
 some (.inr (-1))
 ) else (
 some (.inl y1)
 )
def q9o (a0:(List (List Phase)))(a1:Int):Option Int:=
 (findL z8R 0 a0 a1).bind <| onr (fun r1=>some r1) fun s1=>
 some s1
theorem z8S {m:Md}{a0:(List (List Phase))}{a1:Int}{r:Int}(hr:q9o a0 a1=some r):Ok Tryz.prog 28 [.d m (.sl 1 (a0.map (fun (l:List Phase)=>A.D.sl 2 (l.map Phase.D)))),dI a1] [] (dI r) []:=by
 refine OE Tryz.func28 fun S hS=>?_
 unfold q9o at hr
 refine J (gn 10)<|J (lenT 0)<|fun hl1=>bdE hr fun q1 hqq1 hr=>q0b hqq1 hl1 0 (fun k1 s1=>[(0,.d m (.sl 1 (a0.map (fun (l:List Phase)=>A.D.sl 2 (l.map Phase.D))))),(1,dI s1),(5,dI (k1:Int))]) (fun k1 s1=>[]) I (fun k1 xk1 sk1 ok1 hxk1 hr hltk1 hik1=>?_) fun k1 sk1 ek1 hltk1=>?_
 obtain⟨s1,rfl⟩:∃ y,y=sk1:=⟨_,rfl⟩
 refine bdE hr fun y1 hy1 hr=>J g<|J (CB' [] [] (j5K (m:=m) hy1))<|J (gn 7)<|ifE hr ?_ ?_<;>intro h1 hr
 exact e
 exact e
 subst ek1
 obtain⟨s1,rfl⟩:∃ y,y=sk1:=⟨_,rfl⟩
 exact e
def q7O (a0:Grammar):Option Bool:=
 (q9M a0 1048576).bind fun y1=>
 if y1 < 0 then (
 some true
 ) else (
 (q4z a0).bind fun y2=>
 (q9V y2).bind fun (y3,y4)=>
 (q4z a0).bind fun y5=>
 (q8D y5).bind fun (y6,y7)=>
 (z1j y6 y3).bind fun y8=>
 (
 if y8=true then (
 some (!(decide (y7=y4)))
 ) else (
 some true
 )
 ).bind fun s1=>
 if s1=true then (
 some false
 ) else (
 (q4z a0).bind fun y9=>
 (q8K y5 y9).bind fun y10=>
 if y10=true then (
 (q7s y5 1).bind fun (y11,z1,z2)=>
 (
 if y11 < 0 then (
 some true
 ) else (
 (z1j y6 y3).bind fun y12=>
 some (!y12)
 )
 ).bind fun s2=>
 (
 if s2=true then (
 some true
 ) else (
 some (!(decide (y7=y4)))
 )
 ).bind fun s3=>
 if s3=true then (
 some false
 ) else (
 (z3m y6 1).bind fun (y13,z3)=>
 (q9o z3 1).bind fun y14=>
 if y14 < 0 then (
 some false
 ) else (
 if y14=y13 then (
 (q4z a0).bind fun y15=>
 (q8D y15).bind fun (y16,y17)=>
 (z1j y16 y3).bind fun y18=>
 (
 if y18=true then (
 some (!(decide (y17=y4)))
 ) else (
 some true
 )
 ).bind fun s4=>
 if s4=true then (
 some false
 ) else (
 (q9o z3 1).bind fun y19=>
 if y19 < 0 then (
 some false
 ) else (
 if y19=y13 then (
 some true
 ) else (
 some false
 )
 )
 )
 ) else (
 some false
 )
 )
 )
 ) else (
 some false
 )
 )
 )
theorem z7w {m:Md}{a0:Grammar}{r:Bool}(hr:q7O a0=some r):Ok Tryz.prog 6 [Grammar.x m a0] [] (dB r) []:=by
 refine OE Tryz.func6 fun S hS=>?_
 unfold q7O at hr
 refine J g<|J (BX' 0)<|bdE hr fun y1 hy1 hr=>J g<|J (CB' [] [] (z3U (m:=m) hy1))<|J (gn 8)<|ifE hr ?_ ?_<;>intro h1 hr
 exact e
 refine bdE hr fun y2 hy2 hr=>J g<|J (CB' [(0,1),(1,2)] [] (q4T (m:=m) hy2))<|bdP hr fun y3 y4 hq1 hr=>J (CB' [(0,3)] [1,2] (j2Y (m:=.bo) hq1))<|bdE hr fun y5 hy5 hr=>J g<|J (CB' [(0,4),(1,5)] [] (q4T (m:=m) hy5))<|J (NV' 6)<|bdP hr fun y6 y7 hq2 hr=>J g<|J (CB' [(0,7)] [4,5] (z7S (m:=.bo) hq2))<|bdE hr fun y8 hy8 hr=>J g<|J (CB' [] [7,3] (z7v (m:=.bo) hy8))<|bdE hr fun s1 hqq3 hr=>J (gn 1)<|q0a 5 [(1,.pb 0 0),(4,.ref 3 none),(5,dB y4),(6,.pb 6 0),(7,.ref 7 none),(8,dB y7),(40,dB s1)] ?_ ?_
 replace hr:=hqq3
 refine ifE hr ?_ ?_<;>intro h2 hr
 refine J g ?_
 refine J (BQn' rfl rfl)<|J g<|E
 exact e
 refine J (gn 1)<|ifE hr ?_ ?_<;>intro h3 hr
 exact e
 refine bdE hr fun y9 hy9 hr=>J g<|J (CB' [(0,8),(1,9)] [] (q4T (m:=m) hy9))<|bdE hr fun y10 hy10 hr=>J (CB' [] [4,5,8,9] (z4a (m:=.bo) hy10))<|J (gn 2)<|ifE hr ?_ ?_<;>intro h4 hr
 refine bdT hr fun y11 z1 z2 hq4 hr=>J g<|J (CB' [(0,4),(1,5)] [] (z2b hq4))<|bdE hr fun s2 hqq5 hr=>J (gn 7)<|q0a 6 [(1,.pb 0 0),(4,.ref 3 none),(5,dB y4),(7,.ref 7 none),(8,dB y7),(56,dB s2)] ?_ ?_
 replace hr:=hqq5
 refine ifE hr ?_ ?_<;>intro h5 hr
 exact e
 refine bdE hr fun y12 hy12 hr=>J g<|J (CB' [] [7,3] (z7v (m:=.bo) hy12))<|e
 refine bdE hr fun s3 hqq6 hr=>q0a 5 [(1,.pb 0 0),(4,.ref 3 none),(5,dB y4),(7,.ref 7 none),(61,dB s3)] ?_ ?_
 replace hr:=hqq6
 refine ifE hr ?_ ?_<;>intro h6 hr
 exact e
 refine J g ?_
 refine J (BQn' rfl rfl)<|J g<|E
 refine J (gn 1)<|ifE hr ?_ ?_<;>intro h7 hr
 exact e
 refine bdP hr fun y13 z3 hq7 hr=>J g<|J (CB' [(0,7)] [] (j4L hq7))<|bdE hr fun y14 hy14 hr=>J g<|J (CB' [] [7] (z8S (m:=.bo) hy14))<|J (gn 8)<|ifE hr ?_ ?_<;>intro h8 hr
 exact e
 refine J (gn 9)<|ifE hr ?_ ?_<;>intro h9 hr
 refine bdE hr fun y15 hy15 hr=>J g<|J (CB' [(0,10),(1,11)] [] (q4T (m:=m) hy15))<|bdP hr fun y16 y17 hq8 hr=>J (CB' [(0,12)] [10,11] (z7S (m:=.bo) hq8))<|bdE hr fun y18 hy18 hr=>J g<|J (CB' [] [12,3] (z7v (m:=.bo) hy18))<|bdE hr fun s4 hqq9 hr=>J (gn 1)<|q0a 5 [(7,.ref 7 none),(10,dI y13),(87,dB s4)] ?_ ?_
 replace hr:=hqq9
 refine ifE hr ?_ ?_<;>intro h10 hr
 refine J g ?_
 refine J (BQn' rfl rfl)<|J g<|E
 exact e
 refine J (gn 1)<|ifE hr ?_ ?_<;>intro h11 hr
 exact e
 refine bdE hr fun y19 hy19 hr=>J g<|J (CB' [] [7] (z8S (m:=.bo) hy19))<|J (gn 8)<|ifE hr ?_ ?_<;>intro h12 hr
 exact e
 refine J (gn 9)<|ifE hr ?_ ?_<;>intro h13 hr
 exact e
 exact e
 exact e
 exact e
end Go.Proofs.YtcegfmageiicaaaGreat
