/- What some functions of the program compute, as partial functions on plain data, and that they do; each lemma bears its conditions in its statement. -/
import Derived.Test.YtgkepiefcpfimaaGreatDoorLane0a
set_option linter.unusedVariables false
set_option linter.unusedSimpArgs false
set_option linter.ambiguousOpen false
set_option linter.unusedSectionVars false
set_option linter.unnecessarySimpa false
set_option maxRecDepth 100000
set_option maxHeartbeats 40000000
noncomputable section
open List renaming set_set→Dqz,map_cons→Blz,map_nil→Ddz
open Int renaming natCast_nonneg→Dpz
namespace Go.Proofs.YtgkepiefcpfimaaGreatDoor
open Go Go.E Go.A
theorem j3g {a1:Bool}{o0:L1_}{r:(Gm_×L1_)}(hr:z4e a1 o0=some r):Okp 28 [.pb 0 0,dB a1] [cuB o0.b o0.i o0.h] (.ag [.ref 1 none,.ref 2 none]) [cuB o0.b r.2.i r.2.h,.deep .fz 2 (r.1.ss_.map Symbol.O) [],.deep .fz 6 (r.1.rs_.map Rule.O) []]:=by
 refine OE Tryz.func28 fun S hS=>?_
 unfold z4e at hr
 refine J g<|J (NV' 1)<|J g<|J (NV' 2)<|bdP hr fun y1 z1 hq1 hr=>J g<|J (CB' [(0,0)] [] (q3T hq1))<|ggE hr fun g1 hr=>J g<|J (LIR' 3 (m:=.fz) (f:=A.D.s) (xs:=[(⟨#[115]⟩:BA_),(⟨#[116]⟩:BA_),(⟨#[117]⟩:BA_)]))<|ggE hr fun g2 hr=>ggE hr fun g3 hr=>J g<|J (CU' 4 g2 g3)<|J (gn 8) ?_
 refine J (q0F 2 0 5 .fz 2 rfl rfl)<|J (q2t 5 Symbol.O)<|J (rngT 6)<|fun hl1=>bdT hr fun s2 s3 s1 hqq2 hr=>q0l hqq2 6 (fun k1 (s2,s3,s1)=>[(0,.pb 0 0),(1,dB a1),(4,.pb 1 0),(5,.pb 2 0),(6,dI (1+y1)),(7,.ref 4 none),(8,dI (k1:Int))]) (fun k1 (s2,s3,s1)=>[(0,(cuB o0.b s2 s3)),(3,.none),(5,.deep .fz 2 (s1.map Symbol.O) [])]) I (fun k1 sk1 ok1 hr hltk1=>?_) ?_
 obtain⟨s2,s3,s1⟩:=sk1
 refine bdE hr fun x1 hx1 hr=>bdP hr fun y2 z2 hq3 hr=>J g<|J (CB' [(0,0),(1,6)] [] (j5b hq3))<|J (LID' (f:=Symbol.O) 7 y2 [6])<|ggE hr fun g4 hr=>J (k7G 8 40 g4)<|e
 refine J (gn 15) ?_
 refine J (q0F 2 1 6 .fz 6 rfl rfl)<|J (q2t 6 Rule.O)<|J (rngT 6)<|fun hl2=>bdT hr fun s5 s6 s4 hqq4 hr=>q0l hqq4 7 (fun k2 (s5,s6,s4)=>[(0,.pb 0 0),(1,dB a1),(4,.pb 1 0),(5,.pb 2 0),(6,dI (1+y1)),(7,.ref 4 none),(9,dI (k2:Int))]) (fun k2 (s5,s6,s4)=>[(0,(cuB o0.b s5 s6)),(6,.deep .fz 6 (s4.map Rule.O) [])]) I (fun k2 sk2 ok2 hr hltk2=>?_) ?_
 obtain⟨s5,s6,s4⟩:=sk2
 refine bdE hr fun x2 hx2 hr=>ggE hr fun g5 hr=>J g<|J (OB' _ (z5I g5))<|bdP hr fun y3 z3 hq5 hr=>J g<|J (CB' [(0,0)] [] (q5S hq5))<|J g<|J (LID' (f:=Rule.O) 7 (⟨((⟨#[108,101,97,102]⟩:BA_)++x2),x2,[],!y3,[],[]⟩:Rule) [])<|ggE hr fun g6 hr=>J (k7G 8 112 g6)<|bdP hr fun y4 z4 hq6 hr=>J g<|J (CB' [(0,0)] [] (q3T hq6))<|ggE hr fun g7 hr=>J (gn 8)<|J (rngT 10)<|fun hl3=>bdT hr fun s8 s9 s7 hqq7 hr=>q0l hqq7 9 (fun k3 (s8,s9,s7)=>[(0,.pb 0 0),(1,dB a1),(4,.pb 1 0),(5,.pb 2 0),(6,dI (1+y1)),(7,.ref 4 none),(9,dI (k2:Int)),(10,dI (1+y4)),(11,dI (k3:Int))]) (fun k3 (s8,s9,s7)=>[(0,(cuB o0.b s8 s9)),(6,.none),(7,.none),(8,.deep .fz 6 (s7.map Rule.O) [])]) I (fun k3 sk3 ok3 hr hltk3=>?_) ?_
 obtain⟨s8,s9,s7⟩:=sk3
 refine ggE hr fun g8 hr=>J g<|J (OB' _ (z5I g8))<|bdE hr fun y5 hy5 hr=>J g<|J (CB' [] [] (z2i hy5))<|ggE hr fun g9 hr=>J (OB' _ (z5I g9))<|bdP hr fun y6 z5 hq8 hr=>J g<|J (CB' [(0,0)] [] (q5S hq8))<|J g<|J (NV' 9)<|bdP hr fun y7 z6 hq9 hr=>J g<|J (CB' [(0,0)] [] (q3T hq9))<|ggE hr fun g10 hr=>J (gn 9) ?_
 refine J (q0F 9 2 10 .fz 1 rfl rfl)<|J (rngT 13)<|fun hl4=>bdT hr fun s11 s12 s10 hqq10 hr=>q0l hqq10 11 (fun k4 (s11,s12,s10)=>[(0,.pb 0 0),(1,dB a1),(4,.pb 1 0),(5,.pb 2 0),(6,dI (1+y1)),(7,.ref 4 none),(9,dI (k2:Int)),(10,dI (1+y4)),(11,dI (k3:Int)),(12,.pb 9 0),(13,dI (1+y7)),(14,dI (k4:Int))]) (fun k4 (s11,s12,s10)=>[(0,(cuB o0.b s11 s12)),(10,.row .fz 1 (s10.map A.D.s))]) I (fun k4 sk4 ok4 hr hltk4=>?_) ?_
 obtain⟨s11,s12,s10⟩:=sk4
 refine bdP hr fun y8 z7 hq11 hr=>J g<|J (CB' [(0,0)] [4] (q9i (m:=.bo) hq11))<|J (LIR' 11 (m:=.fz) (f:=A.D.s) (xs:=[y8]))<|ggE hr fun g11 hr=>J (z1D (f:=A.D.s) 12 (fun _=>rfl) 16 g11)<|e
 refine J g<|J (LID' (f:=Rule.O) 11 (⟨(((⟨#[112]⟩:BA_)++x2)++y5),x2,s10,y6,[],[]⟩:Rule) [10])<|ggE hr fun g12 hr=>J (k7G 12 112 g12)<|e
 exact e
 refine J g<|J (LEd' s4.length)<|bdE hr fun s13 hqq12 hr=>J (gn 2)<|q0d 7 [(0,.pb 0 0),(1,dB a1),(4,.pb 1 0),(5,.pb 2 0)] [(6,.deep .fz 6 (s13.map Rule.O) [])] ?_ ?_
 replace hr:=hqq12
 refine ifE hr ?_ ?_<;>intro h1 hr
 refine ggE hr fun g13 hr=>J g<|J (CUd' (xs:=s4) (b:=8) 7 (by decide) g13)<|e
 exact e
 refine bdT hr fun s14 s15 s16 hqq13 hr=>J (gn 5)<|q0d 7 [(4,.pb 1 0),(5,.pb 2 0)] [(0,(cuB o0.b s14 s15)),(6,.deep .fz 6 (s16.map Rule.O) [])] ?_ ?_
 refine J g<|q0i hqq13 7 (fun (s17,s18,s19,s20)=>[(0,.pb 0 0),(1,dB a1),(4,.pb 1 0),(5,.pb 2 0),(15,dI s17)]) (fun (s17,s18,s19,s20)=>[(0,(cuB o0.b s18 s19)),(6,.deep .fz 6 (s20.map Rule.O) [])]) I fun sk5 ok5 hr hik5=>?_
 obtain⟨s17,s18,s19,s20⟩:=sk5
 have hr:=hr
 refine J g<|J (LEd' s20.length)<|fE 2 hr ?_ ?_<;>intro h2 hr
 refine bdT hr fun s21 s22 s23 hqq14 hr=>J (gn 3)<|q0d 7 [(0,.pb 0 0),(1,dB a1),(4,.pb 1 0),(5,.pb 2 0),(15,dI s17)] [(0,(cuB o0.b s21 s22)),(6,.deep .fz 6 (s23.map Rule.O) [])] ?_ ?_
 replace hr:=hqq14
 refine ggE hr fun g14 hr=>bdE hr fun x3 hx3 hr=>J (q0A 6 s17.toNat 2 7 (q4z hx3))<|J (q0A 6 s17.toNat 4 8 (q4m (q4z hx3)))<|J (q0A 6 s17.toNat 5 9 (q4m (q4m (q4z hx3))))<|J g<|J (IEd' g14 (q4m (q4m (q4m (q4z hx3)))))<|J (k9c [(5,9),(4,8),(2,7)] (q4m (q4m (q4m (q4z hx3)))))<|bdP hr fun y9 z8 hq15 hr=>J g<|J (CB' [(0,0),(1,7),(2,8),(3,9),(4,10)] [5] (j9b (m:=.bo) (m2:=.fz) hq15))<|J (IEd' g14 (q4m (q4m (q4m (q4z hx3)))))<|J (SD' [.d .fz (.s y9.Name),.d .fz (.s y9.Left),.o .fz 1 (y9.rt_.map A.D.s),.d .fz (.b y9.ll_),.o .fz 9 (y9.es_.map Eqn.D),.o .fz 16 (y9.cs_.map Cn.D)] [7,10,9] (q4m (q4m (q4m (q4z hx3)))))<|fE 6 hr ?_ ?_<;>intro h3 hr
 refine J (gn 2) ?_
 cases hr
 exact GH.trans (q0w 6 (he:=eset (f:=Rule.O) (x':=y9) (by first|rfl|(simp only[Dqz];rfl)))) (q0j hS [(0,0),(1,1),(2,2),(4,4),(5,5),(6,6)] 7)
 refine J (gn 1)<|J (q0A 6 s17.toNat 2 11 (q4m (q4m (q4m (q4m (q4z hx3))))))<|J (q0A 6 s17.toNat 4 12 (q4m (q4m (q4m (q4m (q4m (q4z hx3)))))))<|J (q0A 6 s17.toNat 5 13 (q4m (q4m (q4m (q4m (q4m (q4m (q4z hx3))))))))<|J g<|J (IEd' g14 (q4m (q4m (q4m (q4m (q4m (q4m (q4m (q4z hx3)))))))))<|J (k9c [(5,13),(4,12),(2,11)] (q4m (q4m (q4m (q4m (q4m (q4m (q4m (q4z hx3)))))))))<|bdP hr fun y10 z9 hq16 hr=>J (CB' [(0,0),(1,11),(2,12),(3,13),(4,14)] [5] (k1B (m:=.bo) (m2:=.fz) hq16))<|J (IEd' g14 (q4m (q4m (q4m (q4m (q4m (q4m (q4m (q4z hx3)))))))))<|J (SD' [.d .fz (.s y10.Name),.d .fz (.s y10.Left),.o .fz 1 (y10.rt_.map A.D.s),.d .fz (.b y10.ll_),.o .fz 9 (y10.es_.map Eqn.D),.o .fz 16 (y10.cs_.map Cn.D)] [11,12,14] (q4m (q4m (q4m (q4m (q4m (q4m (q4m (q4z hx3)))))))))<|J (gn 1) ?_
 cases hr
 exact GH.trans (q0w 6 (he:=eset (f:=Rule.O) (x':=y10) (by first|rfl|(simp only[Dqz];rfl)))) (q0j hS [(0,0),(1,1),(2,2),(4,4),(5,5),(6,6)] 7)
 refine ggE hr fun g15 hr=>e
 refine J (gn 2) ?_
 cases hr
 cases hik5 _ rfl
 exact q0j hS [(0,0),(1,1),(2,2),(4,4),(5,5),(6,6)] 7
 exact e
theorem z8v {o0:L1_}{r:(BA_×L1_)}(hr:z1L o0=some r):Okp 150 [.pb 0 0] [cuB o0.b o0.i o0.h] (dS r.1) [cuB o0.b r.2.i r.2.h]:=by
 refine OE Tryz.func150 fun S hS=>?_
 unfold z1L at hr
 refine J g<|J (LIR' 1 (m:=.fz) (f:=A.D.s) (xs:=[(⟨#[97]⟩:BA_),(⟨#[98]⟩:BA_),(⟨#[99]⟩:BA_),(⟨#[100]⟩:BA_),(⟨#[120]⟩:BA_),(⟨#[121]⟩:BA_),(⟨#[116]⟩:BA_),(⟨#[117]⟩:BA_)]))<|bdP hr fun y1 z1 hq1 hr=>J (CB' [(0,0)] [1] (q9i (m:=.bo) hq1))<|e
theorem j9c {Rc4:Int→L1_→Option (Expr×L1_)}(Ic4:∀ {a1:Int} {o0:L1_} {r:(Expr×L1_)},Rc4 a1 o0=some r→Okp 114 [.pb 0 0,dI a1] [cuB o0.b o0.i o0.h] (.ag [dI r.1.Kind,dI r.1.N,dI r.1.Pos,dI r.1.t__,dS r.1.Symbol,dS r.1.Name,.ref 1 none]) [cuB o0.b r.2.i r.2.h,.row .fz 7 (r.1.Args.map Expr.D)]){a1:Int}{o0:L1_}{r:(Expr×L1_)}(hr:q8Y Rc4 a1 o0=some r):Okp 114 [.pb 0 0,dI a1] [cuB o0.b o0.i o0.h] (.ag [dI r.1.Kind,dI r.1.N,dI r.1.Pos,dI r.1.t__,dS r.1.Symbol,dS r.1.Name,.ref 1 none]) [cuB o0.b r.2.i r.2.h,.row .fz 7 (r.1.Args.map Expr.D)]:=by
 refine OE Tryz.func114 fun S hS=>?_
 unfold q8Y at hr
 refine J g<|J (NV' 1)<|fE 6 hr ?_ ?_<;>intro h1 hr
 refine bdP hr fun y1 z1 hq1 hr=>J g<|J (CB' [(0,0)] [] (q5S hq1))<|fE 1 hr ?_ ?_<;>intro h2 hr
 refine J (gn 7) ?_
 refine J (q0c (q0n (q:=1) (c:=6) (r:=2) .fz 7 rfl rfl rfl))<|J g<|E
 refine bdP hr fun y2 z2 hq2 hr=>J g<|J (CB' [(0,0)] [] (q5S hq2))<|fE 1 hr ?_ ?_<;>intro h3 hr
 refine bdP hr fun y3 z3 hq3 hr=>J g<|J (CB' [(0,0)] [] (q3T hq3))<|J (gn 4) ?_
 refine J (q0c (q0n (q:=1) (c:=6) (r:=2) .fz 7 rfl rfl rfl))<|J g<|E
 refine bdP hr fun y4 z4 hq4 hr=>J g<|J (CB' [(0,0)] [] (q3T hq4))<|ggE hr fun g1 hr=>bdP hr fun y5 z5 hq5 hr=>J g<|J (CB' [(0,0)] [] (q3T hq5))<|bdP hr fun y6 z6 hq6 hr=>J g<|J (CB' [(0,0)] [] (z8v hq6))<|J g<|J (LIR' 2 (m:=.fz) (f:=Oc.D) (xs:=[(⟨y5,y6⟩:Oc)]))<|bdP hr fun y7 z7 hq7 hr=>J (CB' [(0,0),(1,3)] [2] (z0D (m:=.bo) hq7))<|e
 refine bdP hr fun y8 z8 hq8 hr=>J g<|J (CB' [(0,0)] [] (q5S hq8))<|fE 2 hr ?_ ?_<;>intro h4 hr
 refine bdP hr fun y9 z9 hq9 hr=>J g<|J (CB' [(0,0)] [] (q5S hq9))<|fE 1 hr ?_ ?_<;>intro h5 hr
 refine J (gn 7) ?_
 refine J (q0c (q0n (q:=1) (c:=6) (r:=2) .fz 7 rfl rfl rfl))<|J g<|E
 refine bdP hr fun y10 z10 hq10 hr=>J g<|J (CB' [(0,0)] [] (q5S hq10))<|fE 1 hr ?_ ?_<;>intro h6 hr
 refine bdP hr fun y11 z11 hq11 hr=>J g<|J (CB' [(0,0)] [] (q3T hq11))<|J (gn 4) ?_
 refine J (q0c (q0n (q:=1) (c:=6) (r:=2) .fz 7 rfl rfl rfl))<|J g<|E
 refine bdP hr fun y12 z12 hq12 hr=>J g<|J (CB' [(0,0)] [] (q3T hq12))<|ggE hr fun g2 hr=>bdP hr fun y13 z13 hq13 hr=>J g<|J (CB' [(0,0)] [] (q3T hq13))<|bdP hr fun y14 z14 hq14 hr=>J g<|J (CB' [(0,0)] [] (z8v hq14))<|J g<|J (LIR' 2 (m:=.fz) (f:=Oc.D) (xs:=[(⟨y13,y14⟩:Oc)]))<|bdP hr fun y15 z15 hq15 hr=>J (CB' [(0,0),(1,3)] [2] (z0D (m:=.bo) hq15))<|e
 refine bdP hr fun y16 z16 hq16 hr=>J g<|J (CB' [(0,0)] [] (q3T hq16))<|fE 7 hr ?_ ?_<;>intro h7 hr
 refine ggE hr fun g3 hr=>bdP hr fun y17 z17 hq17 hr=>J g<|J (CB' [(0,0),(1,2)] [] (Ic4 hq17))<|ggE hr fun g4 hr=>bdP hr fun y18 z18 hq18 hr=>J g<|J (CB' [(0,0),(1,3)] [] (Ic4 hq18))<|ggE hr fun g5 hr=>bdP hr fun y19 z19 hq19 hr=>J g<|J (CB' [(0,0),(1,4)] [] (Ic4 hq19)) ?_
 refine J (q0p 2 rfl) ?_
 refine J (q0p 3 rfl) ?_
 refine J (q0p 4 rfl) ?_
 refine J (j7u 5 (m:=.fz) (f:=Expr.D) [y17,y18,y19] (by simp only[Blz,Ddz,Expr.D_eq];rfl))<|J g<|E
 refine fE 6 hr ?_ ?_<;>intro h8 hr
 refine J g<|J (LIR' 2 (m:=.fz) (f:=A.D.s) (xs:=[(⟨#[115]⟩:BA_),(⟨#[116]⟩:BA_)]))<|bdP hr fun y20 z20 hq20 hr=>J (CB' [(0,0)] [2] (q9i (m:=.bo) hq20))<|bdP hr fun y21 z21 hq21 hr=>J g<|J (CB' [(0,0)] [] (z8v hq21))<|ggE hr fun g6 hr=>bdP hr fun y22 z22 hq22 hr=>J g<|J (CB' [(0,0),(1,3)] [] (Ic4 hq22)) ?_
 refine J (q0p 3 rfl) ?_
 refine J (j7u 4 (m:=.fz) (f:=Expr.D) [y22] (by simp only[Blz,Ddz,Expr.D_eq];rfl))<|J g<|E
 refine bdP hr fun y23 z23 hq23 hr=>J g<|J (CB' [(0,0)] [] (q3T hq23))<|ggE hr fun g7 hr=>ggE hr fun g8 hr=>bdP hr fun y24 z24 hq24 hr=>J g<|J (CB' [(0,0),(1,2)] [] (Ic4 hq24))<|ggE hr fun g9 hr=>bdP hr fun y25 z25 hq25 hr=>J g<|J (CB' [(0,0),(1,3)] [] (Ic4 hq25)) ?_
 refine J (q0p 2 rfl) ?_
 refine J (q0p 3 rfl)<|bdE hr fun y26 hy26 hr=>J (CB' [(0,4)] [] (z5n (m:=.fz) hy26))<|J g<|E
theorem j9d (n:Nat):∀ {a1:Int} {o0:L1_} {r:(Expr×L1_)},q7D n a1 o0=some r→Okp 114 [.pb 0 0,dI a1] [cuB o0.b o0.i o0.h] (.ag [dI r.1.Kind,dI r.1.N,dI r.1.Pos,dI r.1.t__,dS r.1.Symbol,dS r.1.Name,.ref 1 none]) [cuB o0.b r.2.i r.2.h,.row .fz 7 (r.1.Args.map Expr.D)]:=by
  induction n with
  | zero=>intro _ _ r hr;exact nomatch (show (none:Option (Expr×L1_))=some r from hr)
  | succ n ih=>intro _ _ r hr;exact j9c ih hr
theorem j5c {a1:Int}{o0:L1_}{r:(Expr×L1_)}(hr:z9K a1 o0=some r):Okp 114 [.pb 0 0,dI a1] [cuB o0.b o0.i o0.h] (.ag [dI r.1.Kind,dI r.1.N,dI r.1.Pos,dI r.1.t__,dS r.1.Symbol,dS r.1.Name,.ref 1 none]) [cuB o0.b r.2.i r.2.h,.row .fz 7 (r.1.Args.map Expr.D)]:=by
 obtain⟨n,hn⟩:=q6R hr
 exact j9d n hn
theorem j5W {Rc5:Expr→Int→Option Bool}(Ic5:∀ {m:Md} {a0:Expr} {a1:Int} {r:Bool},Rc5 a0 a1=some r→Okp 183 [Expr.x m a0,dI a1] [] (dB r) []){m:Md}{a0:Expr}{a1:Int}{r:Bool}(hr:z0m Rc5 a0 a1=some r):Okp 183 [Expr.x m a0,dI a1] [] (dB r) []:=by
 refine OE Tryz.func183 fun S hS=>?_
 unfold z0m at hr
 refine J g<|J (BX' 0)<|J (gn 8)<|J (lenA 6 0)<|fun hl1=>bdE hr fun q1 hqq1 hr=>q0b hqq1 hl1 1 (fun k1 _=>[(1,dI a1),(2,.pb 0 0),(5,dI (k1:Int))]) (fun k1 _=>[]) I (fun k1 xk1 sk1 ok1 hxk1 hr hltk1 hik1=>?_) fun k1 sk1 ek1 hltk1=>?_
 refine bdE hr fun y1 hy1 hr=>J g<|J (CB' [] [] (Ic5 (m:=m) hy1))<|fE 2 hr ?_ ?_<;>intro h1 hr
 exact e
 exact e
 subst ek1
 exact e
theorem j5X (n:Nat):∀ {m:Md} {a0:Expr} {a1:Int} {r:Bool},q8d n a0 a1=some r→Okp 183 [Expr.x m a0,dI a1] [] (dB r) []:=by
  induction n with
  | zero=>intro _ _ _ r hr;exact nomatch (show (none:Option Bool)=some r from hr)
  | succ n ih=>intro _ _ _ r hr;exact j5W ih hr
theorem j7I {m:Md}{a0:Expr}{a1:Int}{r:Bool}(hr:z6y a0 a1=some r):Okp 183 [Expr.x m a0,dI a1] [] (dB r) []:=by
 obtain⟨n,hn⟩:=q6R hr
 exact j5X n hn
theorem z8w {m:Md}{a0:Expr}{a1:Int}{r:Bool}(hr:z0U a0 a1=some r):Okp 149 [Expr.x m a0,dI a1] [] (dB r) []:=by
 refine OE Tryz.func149 fun S hS=>?_
 unfold z0U at hr
 refine J g<|J (BX' 0)<|bdE hr fun y1 hy1 hr=>J g<|J (CB' [] [] (z4M (m:=m) hy1))<|ifE hr ?_ ?_<;>intro h1 hr
 refine bdE hr fun y2 hy2 hr=>J g<|J (CB' [] [] (j7I (m:=m) hy2))<|e
 exact e
theorem k1C {o0:L1_}{r:(Rule×L1_)}(hr:z7s o0=some r):Okp 112 [.pb 0 0] [cuB o0.b o0.i o0.h] (.ag [dS r.1.Name,dS r.1.Left,.ref 1 none,dB r.1.ll_,.ref 2 none,.ref 3 none]) [cuB o0.b r.2.i r.2.h,.row .fz 1 (r.1.rt_.map A.D.s),.row .fz 9 (r.1.es_.map Eqn.D),.row .fz 16 (r.1.cs_.map Cn.D)]:=by
 refine OE Tryz.func112 fun S hS=>?_
 unfold z7s at hr
 refine J g<|J (NV' 1)<|J g<|J (LIR' 2 (m:=.fz) (f:=A.D.s) (xs:=[(⟨#[112]⟩:BA_),(⟨#[113]⟩:BA_),(⟨#[108,101,97,102]⟩:BA_)]))<|bdP hr fun y1 z1 hq1 hr=>J (CB' [(0,0)] [2] (q9i (m:=.bo) hq1))<|J g<|J (LIR' 3 (m:=.fz) (f:=A.D.s) (xs:=[(⟨#[115]⟩:BA_),(⟨#[116]⟩:BA_)]))<|bdP hr fun y2 z2 hq2 hr=>J (CB' [(0,0)] [3] (q9i (m:=.bo) hq2))<|bdP hr fun y3 z3 hq3 hr=>J g<|J (CB' [(0,0)] [] (q5S hq3))<|J g<|J (NV' 4)<|bdP hr fun y4 z4 hq4 hr=>J g<|J (CB' [(0,0)] [] (q3T hq4))<|J (gn 8) ?_
 refine J (q0F 4 2 5 .fz 1 rfl rfl)<|J (rngT 4)<|fun hl1=>bdT hr fun s2 s3 s1 hqq5 hr=>q0l hqq5 6 (fun k1 (s2,s3,s1)=>[(0,.pb 0 0),(2,.pb 1 0),(3,.pb 4 0),(4,dI y4),(5,dI (k1:Int))]) (fun k1 (s2,s3,s1)=>[(0,(cuB o0.b s2 s3)),(5,.row .fz 1 (s1.map A.D.s))]) I (fun k1 sk1 ok1 hr hltk1=>?_) ?_
 obtain⟨s2,s3,s1⟩:=sk1
 refine J g<|J (LIR' 6 (m:=.fz) (f:=A.D.s) (xs:=[(⟨#[115]⟩:BA_),(⟨#[116]⟩:BA_),(⟨#[117]⟩:BA_)]))<|bdP hr fun y5 z5 hq6 hr=>J (CB' [(0,0)] [6] (q9i (m:=.bo) hq6))<|J (LIR' 7 (m:=.fz) (f:=A.D.s) (xs:=[y5]))<|ggE hr fun g1 hr=>J (z1D (f:=A.D.s) 8 (fun _=>rfl) 16 g1)<|e
 refine bdP hr fun y6 z6 hq7 hr=>J g<|J (CB' [(0,0)] [] (q3T hq7))<|J (gn 8) ?_
 refine J (q0F 4 4 6 .fz 9 rfl rfl)<|J (rngT 6)<|fun hl2=>bdT hr fun s4 s5 s6 hqq8 hr=>q0l hqq8 7 (fun k2 (s4,s5,s6)=>[(0,.pb 0 0),(2,.pb 1 0),(3,.pb 4 0),(4,dI y4),(6,dI y6),(7,dI (k2:Int))]) (fun k2 (s4,s5,s6)=>[(0,(cuB o0.b s4 s5)),(6,.row .fz 9 (s6.map Eqn.D))]) I (fun k2 sk2 ok2 hr hltk2=>?_) ?_
 obtain⟨s4,s5,s6⟩:=sk2
 refine bdT hr fun s8 s9 s7 hqq9 hr=>J (gn 10)<|q0d 7 [(0,.pb 0 0),(2,.pb 1 0),(3,.pb 4 0),(4,dI y4),(6,dI y6),(7,dI (k2:Int))] [(0,(cuB o0.b s8 s9)),(6,.row .fz 9 (s7.map Eqn.D))] ?_ ?_
 replace hr:=hqq9
 refine bdP hr fun y7 z7 hq10 hr=>J g<|J (CB' [(0,0)] [] (q3T hq10))<|ggE hr fun g2 hr=>bdP hr fun y8 z8 hq11 hr=>J g<|J (CB' [(0,0),(1,7)] [] (j5c hq11))<|J (NV' 8)<|bdE hr fun y9 hy9 hr=>J g<|J (CB' [] [7] (z8w (m:=.bo) hy9))<|fE 1 hr ?_ ?_<;>intro h1 hr
 refine J (gn 1) ?_
 refine J (q3N 7 rfl)<|ggE hr fun g3 hr=>bdP hr fun y10 z9 hq12 hr=>J g<|J (CB' [(0,0)] [] (q3T hq12))<|bdP hr fun y11 z10 hq13 hr=>J g<|J (CB' [(0,0)] [] (z8v hq13))<|J g<|J (LIR' 9 (m:=.fz) (f:=Eqn.D) (xs:=[(⟨(⟨y10,y11⟩:Oc),y8⟩:Eqn)]))<|ggE hr fun g4 hr=>J (AP1' 10 .fz 112 g4)<|J g<|E
 exact e
 exact e
 refine bdP hr fun y12 z11 hq14 hr=>J g<|J (CB' [(0,0)] [] (q5S hq14))<|fE 1 hr ?_ ?_<;>intro h2 hr
 refine bdP hr fun y13 z12 hq15 hr=>J g<|J (CB' [(0,0)] [] (q3T hq15))<|bdE hr fun y14 hy14 hr=>J (CBz' 7 [(0,7)] [] (z1p hy14))<|J g<|J (LIR' 8 (m:=.fz) (f:=Cn.D) (xs:=[(⟨(⟨#[115]⟩:BA_),(⟨#[99]⟩:BA_),(⟨6,0,0,0,(⟨#[]⟩:BA_),(⟨#[]⟩:BA_),[]⟩:Expr),y14⟩:Cn)])) ?_
 refine J (q3j 65 9 .fz 16 rfl)<|ggE hr fun g5 hr=>J (AP1' 10 .fz 208 g5)<|J g<|E
 refine J (gn 8) ?_
 refine J (q0c (q0n (q:=1) (c:=5) (r:=7) .fz 16 rfl rfl rfl))<|J g<|E
theorem j5d {o0:L1_}{r:(Expr×L1_)}(hr:z5N o0=some r):Okp 62 [.pb 0 0] [cuB o0.b o0.i o0.h] (.ag [dI r.1.Kind,dI r.1.N,dI r.1.Pos,dI r.1.t__,dS r.1.Symbol,dS r.1.Name,.ref 1 none]) [cuB o0.b r.2.i r.2.h,.row .fz 7 (r.1.Args.map Expr.D)]:=by
 refine OE Tryz.func62 fun S hS=>?_
 unfold z5N at hr
 refine J g<|J (NV' 1)<|bdP hr fun y1 z1 hq1 hr=>J g<|J (CB' [(0,0)] [] (q3T hq1))<|ggE hr fun g1 hr=>bdP hr fun y2 z2 hq2 hr=>J g<|J (CB' [(0,0),(1,2)] [] (j5c hq2))<|J (NV' 3)<|bdE hr fun y3 hy3 hr=>J g<|J (CB' [] [2] (z4M (m:=.bo) hy3))<|fE 2 hr ?_ ?_<;>intro h1 hr
 exact e
 refine J (gn 7) ?_
 refine J (q0c (q0n (q:=1) (c:=6) (r:=4) .fz 7 rfl rfl rfl))<|J g<|E
theorem k1D {o0:L1_}{r:(Expr×L1_)}(hr:z7t o0=some r):Okp 113 [.pb 0 0] [cuB o0.b o0.i o0.h] (.ag [dI r.1.Kind,dI r.1.N,dI r.1.Pos,dI r.1.t__,dS r.1.Symbol,dS r.1.Name,.ref 1 none]) [cuB o0.b r.2.i r.2.h,.row .fz 7 (r.1.Args.map Expr.D)]:=by
 refine OE Tryz.func113 fun S hS=>?_
 unfold z7t at hr
 refine J g<|J (NV' 1)<|bdP hr fun y1 z1 hq1 hr=>J g<|J (CB' [(0,0),(1,2)] [] (j5d hq1))<|J (NV' 3)<|bdP hr fun y2 z2 hq2 hr=>J g<|J (CB' [(0,0)] [] (q3T hq2))<|fE 7 hr ?_ ?_<;>intro h1 hr
 refine bdP hr fun y3 z3 hq3 hr=>J g<|J (CB' [(0,0)] [] (q3T hq3))<|e
 refine fE 6 hr ?_ ?_<;>intro h2 hr
 refine J g ?_
 refine J (j7u 4 (m:=.fz) (f:=Expr.D) [(⟨7,0,0,0,(⟨#[]⟩:BA_),(⟨#[]⟩:BA_),[]⟩:Expr)] (by simp only[Blz,Ddz,Expr.D_eq];rfl))<|ggE hr fun g1 hr=>J (AP1' 5 .fz 88 g1)<|J g<|E
 refine fE 6 hr ?_ ?_<;>intro h3 hr
 refine J g<|J (LIR' 4 (m:=.fz) (f:=(A.D.i .i64)) (xs:=([(-1),13,4096,1000001]:List Int)))<|bdP hr fun y4 z4 hq4 hr=>J (CB' [(0,0)] [4] (q6H (m:=.bo) hq4))<|e
 refine fE 6 hr ?_ ?_<;>intro h4 hr
 refine J g<|J (LIR' 4 (m:=.fz) (f:=(A.D.i .i64)) (xs:=([(-1),4,1]:List Int)))<|bdP hr fun y5 z5 hq5 hr=>J (CB' [(0,0)] [4] (q6H (m:=.bo) hq5))<|e
 refine fE 6 hr ?_ ?_<;>intro h5 hr
 refine J g<|J (LIR' 4 (m:=.fz) (f:=A.D.s) (xs:=[(⟨#[105,102]⟩:BA_),(⟨#[]⟩:BA_),(⟨#[120]⟩:BA_)]))<|bdP hr fun y6 z6 hq6 hr=>J (CB' [(0,0)] [4] (q9i (m:=.bo) hq6))<|e
 refine fE 6 hr ?_ ?_<;>intro h6 hr
 refine J g ?_
 have hl1:rngI .i64 5:=⟨by decide,by decide⟩
 refine bdE hr fun q7 hqq7 hr=>?_
 obtain⟨s1,s2,s3,s4,s5,s6,s7⟩:=q7
 refine q0l hqq7 4 (fun k1 (s1,s2,s3,s4,s5,s6,s7)=>[(2,.pb 1 0),(3,.pb 3 0),(4,dI (k1:Int))]) (fun k1 (s1,s2,s3,s4,s5,s6,s7)=>[(2,.row .fz 7 (s1.map Expr.D)),(3,.box [dI s2,dI s3,dI s4,dI s5,dS s6,dS s7,.ref 2 none])]) I (fun k1 sk1 ok1 hr hltk1=>?_) ?_
 obtain⟨s1,s2,s3,s4,s5,s6,s7⟩:=sk1
 unfold j0H at hr
 dsimp only at hr
 refine J (gn 13) ?_
 refine J (q0p 2 rfl)<|bdE hr fun y7 hy7 hr=>J (CB' [(0,4)] [] (z5n (m:=.fz) hy7))<|J g<|E
 exact e
 exact e
theorem k1E {o0:L1_}{r:(Rule×L1_)}(hr:z7u o0=some r):Okp 59 [.pb 0 0] [cuB o0.b o0.i o0.h] (.ag [dS r.1.Name,dS r.1.Left,.ref 1 none,dB r.1.ll_,.ref 2 none,.ref 3 none]) [cuB o0.b r.2.i r.2.h,.row .fz 1 (r.1.rt_.map A.D.s),.row .fz 9 (r.1.es_.map Eqn.D),.row .fz 16 (r.1.cs_.map Cn.D)]:=by
 refine OE Tryz.func59 fun S hS=>?_
 unfold z7u at hr
 refine J g<|J (NV' 1)<|bdP hr fun y1 z1 hq1 hr=>J g<|J (CB' [(0,0),(1,2),(2,3),(3,4)] [] (k1C hq1))<|J (NV' 5)<|bdP hr fun y2 z2 hq2 hr=>J g<|J (CB' [(0,0)] [] (q3T hq2))<|fE 7 hr ?_ ?_<;>intro h1 hr
 refine J g<|J (LIR' 6 (m:=.fz) (f:=A.D.s) (xs:=[(⟨#[105,102]⟩:BA_),(⟨#[]⟩:BA_),(⟨#[111,102]⟩:BA_)]))<|bdP hr fun y3 z3 hq3 hr=>J (CB' [(0,0)] [6] (q9i (m:=.bo) hq3))<|e
 refine fE 6 hr ?_ ?_<;>intro h2 hr
 refine J g<|J (LIR' 6 (m:=.fz) (f:=A.D.s) (xs:=[(⟨#[115]⟩:BA_),(⟨#[115]⟩:BA_)]))<|ggE hr fun g1 hr=>J (j7v (f:=A.D.s) 7 16 (fun _=>rfl) g1)<|e
 refine fE 6 hr ?_ ?_<;>intro h3 hr
 refine bdP hr fun y4 z4 hq4 hr=>J g<|J (CB' [(0,0)] [] (q3T hq4))<|ggE hr fun g2 hr=>bdP hr fun y5 z5 hq5 hr=>J g<|J (CBz' 6 [(0,0),(1,6)] [] (k1D hq5))<|J g<|J (LIR' 7 (m:=.fz) (f:=Eqn.D) (xs:=[(⟨(⟨(y4-1),(⟨#[97]⟩:BA_)⟩:Oc),y5⟩:Eqn)]))<|ggE hr fun g3 hr=>J (AP1' 8 .fz 112 g3)<|e
 refine fE 6 hr ?_ ?_<;>intro h4 hr
 exact e
 refine fE 6 hr ?_ ?_<;>intro h5 hr
 refine ggE hr fun g4 hr=>bdP hr fun y6 z6 hq6 hr=>J g<|J (CB' [(0,0)] [] (q3T hq6))<|ggE hr fun g5 hr=>ggE hr fun g6 hr=>J (CU' 6 g5 g6)<|e
 exact e
theorem k1F {o0:L1_}{r:(Symbol×L1_)}(hr:z7v o0=some r):Okp 60 [.pb 0 0] [cuB o0.b o0.i o0.h] (.ag [dS r.1.Name,.ref 1 none]) [cuB o0.b r.2.i r.2.h,.row .fz 4 (r.1.as_.map At_.D)]:=by
 refine OE Tryz.func60 fun S hS=>?_
 unfold z7v at hr
 refine J g<|J (NV' 1)<|J g<|J (LIR' 2 (m:=.fz) (f:=A.D.s) (xs:=[(⟨#[115]⟩:BA_),(⟨#[116]⟩:BA_),(⟨#[105,102]⟩:BA_),(⟨#[108,105,115,116,49]⟩:BA_)]))<|bdP hr fun y1 z1 hq1 hr=>J (CB' [(0,0)] [2] (q9i (m:=.bo) hq1))<|bdP hr fun y2 z2 hq2 hr=>J (CB' [(0,0),(1,3)] [] (j5b hq2))<|J (NV' 4)<|bdP hr fun y3 z3 hq3 hr=>J g<|J (CB' [(0,0)] [] (q3T hq3))<|fE 7 hr ?_ ?_<;>intro h1 hr
 refine bdE hr fun x1 hx1 hr=>J g<|J (SE' (⟨x1.Name,x1.t__,x1.Mode,true⟩:At_) hx1)<|e
 refine fE 6 hr ?_ ?_<;>intro h2 hr
 refine bdP hr fun y4 z4 hq4 hr=>J g<|J (CB' [(0,0)] [] (q3T hq4))<|bdE hr fun x2 hx2 hr=>J g<|J (SE' (⟨x2.Name,x2.t__,y4,x2.Circular⟩:At_) hx2)<|e
 refine fE 6 hr ?_ ?_<;>intro h3 hr
 refine bdP hr fun y5 z5 hq5 hr=>J g<|J (CB' [(0,0)] [] (q3T hq5))<|bdE hr fun x3 hx3 hr=>J g<|J (SE' (⟨x3.Name,y5,x3.Mode,x3.Circular⟩:At_) hx3)<|e
 refine fE 6 hr ?_ ?_<;>intro h4 hr
 refine J g<|J (LIR' 5 (m:=.fz) (f:=A.D.s) (xs:=[(⟨#[98]⟩:BA_),(⟨#[111,102]⟩:BA_),(⟨#[]⟩:BA_)]))<|bdP hr fun y6 z6 hq6 hr=>J (CB' [(0,0)] [5] (q9i (m:=.bo) hq6))<|bdE hr fun x4 hx4 hr=>J g<|J (SE' (⟨y6,x4.t__,x4.Mode,x4.Circular⟩:At_) hx4)<|e
 refine fE 6 hr ?_ ?_<;>intro h5 hr
 refine bdE hr fun s1 hqq7 hr=>J (gn 1)<|q0d 5 [(2,.pb 1 0),(3,.pb 4 0)] [(3,.row .fz 4 (s1.map At_.D))] ?_ ?_
 refine J g<|q0i hqq7 5 (fun s2=>[(2,.pb 1 0),(3,.pb 4 0)]) (fun s2=>[(3,.row .fz 4 (s2.map At_.D))]) I fun sk1 ok1 hr hik1=>?_
 obtain⟨s2,rfl⟩:∃ y,y=sk1:=⟨_,rfl⟩
 have hr:=hr
 refine fE 8 hr ?_ ?_<;>intro h6 hr
 refine J g<|J (LIR' 5 (m:=.fz) (f:=A.D.s) (xs:=[(⟨#[101]⟩:BA_),(⟨#[102]⟩:BA_),(⟨#[103]⟩:BA_),(⟨#[104]⟩:BA_),(⟨#[105]⟩:BA_)]))<|bdE hr fun x5 hx5 hr=>J g<|J (LIR' 6 (m:=.fz) (f:=At_.D) (xs:=[(⟨x5,1,2,false⟩:At_)]))<|ggE hr fun g1 hr=>J (z1D (f:=At_.D) 7 (fun _=>rfl) 40 g1)<|e
 refine J (gn 2) ?_
 cases hr
 cases hik1 _ rfl
 exact q0g hS 5
 exact e
 exact e
theorem j9e {o0:L1_}{r:(Gm_×L1_)}(hr:z5O o0=some r):Okp 27 [.pb 0 0] [cuB o0.b o0.i o0.h] (.ag [.ref 1 none,rw5 .fz r.1.rs_]) [cuB o0.b r.2.i r.2.h,.deep .fz 2 (r.1.ss_.map Symbol.O) []]:=by
 refine OE Tryz.func27 fun S hS=>?_
 unfold z5O at hr
 refine J g<|J (NV' 1)<|bdP hr fun y1 z1 hq1 hr=>J g<|J (CB' [(0,0)] [] (q5S hq1))<|bdP hr fun y2 z2 hq2 hr=>J (CB' [(0,0),(1,2),(2,3)] [] (j3g hq2))<|J (NV' 4)<|J g<|J (LEd' y2.rs_.length)<|bdP hr fun y3 z3 hq3 hr=>J (CB' [(0,0)] [] (q3T hq3))<|bdP hr fun y4 z4 hq4 hr=>J g<|J (CB' [(0,0)] [] (q3T hq4))<|fE 7 hr ?_ ?_<;>intro h1 hr
 refine bdP hr fun y5 z5 hq5 hr=>J g<|J (CB' [(0,0),(1,5),(2,6),(3,7)] [] (k1E hq5))<|ggE hr fun g1 hr=>bdE hr fun x1 hx1 hr=>J (IEd' g1 (q4z hx1))<|J (SD' [.d .fz (.s y5.Name),.d .fz (.s y5.Left),.o .fz 1 (y5.rt_.map A.D.s),.d .fz (.b y5.ll_),.o .fz 9 (y5.es_.map Eqn.D),.o .fz 16 (y5.cs_.map Cn.D)] [5,6,7] (q4z hx1))<|J (gn 7) ?_
 refine J (q0c (q0w 3 (he:=eset (f:=Rule.O) (x':=y5) (by first|rfl|(simp only[Dqz];rfl))))) ?_
 refine J (q0c (q0x 3 Rule.D (by exact fun _=>rfl) rfl))<|J g<|E
 refine fE 6 hr ?_ ?_<;>intro h2 hr
 refine bdP hr fun y6 z6 hq6 hr=>J g<|J (CB' [(0,0),(1,5)] [] (k1F hq6))<|bdE hr fun x2 hx2 hr=>J (IEd' (Dpz _) (q4z hx2))<|J (SD' [.d .fz (.s y6.Name),.o .fz 4 (y6.as_.map At_.D)] [5] (q4z hx2))<|J (gn 7) ?_
 refine J (q0c (q0w 2 (he:=eset (f:=Symbol.O) (x':=y6) (by first|rfl|(simp only[Dqz];rfl))))) ?_
 refine J (q0c (q0x 3 Rule.D (by exact fun _=>rfl) rfl))<|J g<|E
 refine fE 6 hr ?_ ?_<;>intro h3 hr
 refine bdE hr fun x3 hx3 hr=>J g<|J (IEd' (Dpz _) (q4z hx3))<|J g<|J (LPd' [] (q4z hx3))<|ggE hr fun g2 hr=>bdE hr fun x4 hx4 hr=>J (IEd' g2 (q4z hx4))<|J g<|J (SD' [.d .fz (.s x3.Name)] [] (q4z hx4))<|J (gn 7) ?_
 refine J (q0c (q0w 3 (he:=eset (f:=Rule.O) (x':=(⟨x3.Name,x4.Left,x4.rt_,x4.ll_,x4.es_,x4.cs_⟩:Rule)) (by first|rfl|(simp only[Dqz];rfl))))) ?_
 refine J (q0c (q0x 3 Rule.D (by exact fun _=>rfl) rfl))<|J g<|E
 refine fE 6 hr ?_ ?_<;>intro h4 hr
 refine ggE hr fun g3 hr=>bdE hr fun x5 hx5 hr=>J g<|J (IEd' g3 (q4z hx5))<|J (gn 1)<|J (q1b 3 y3.toNat 4 5 (q4z hx5))<|J (LPd' [(4,5)] (q4m (q4z hx5)))<|fE 3 hr ?_ ?_<;>intro h5 hr
 refine J g<|J (IEd' g3 (q4m (q4z hx5)))<|J g<|J (LPd' [(4,5)] (q4m (q4z hx5)))<|ggE hr fun g4 hr=>J (SVL' (xs:=x5.es_) (a:=1) (by decide) g4)<|J (IEd' g3 (q4m (q4z hx5)))<|J (gn 1) ?_
 refine J (q0p 5 rfl)<|J (q3l 62 (.d .fz (.sl 9 ((x5.es_.drop 1).map Eqn.D))) (congrArg (fun l=>X.d .fz (.sl 9 l)) k7E))<|J (SD' [.d .fz (.sl 9 ((x5.es_.drop 1).map Eqn.D))] [] (q4m (q4z hx5)))<|J (q2m (f:=Rule.O) 3 Rule.D (⟨x5.Name,x5.Left,x5.rt_,x5.ll_,(x5.es_.drop 1),x5.cs_⟩:Rule) (by exact fun _=>rfl) hx5)<|J g<|E
 refine J (gn 8)<|J (q0c (q0J 3 y3.toNat 4 5 (q4m (q4z hx5)))) ?_
 refine J (q0c (q0w 3 (he:=k7D (f:=Rule.O) hx5 (by first|rfl|(simp only[Dqz];rfl))))) ?_
 refine J (q0c (q0x 3 Rule.D (by exact fun _=>rfl) rfl))<|J g<|E
 refine fE 6 hr ?_ ?_<;>intro h6 hr
 refine ggE hr fun g5 hr=>bdE hr fun x6 hx6 hr=>J g<|J (IEd' g5 (q4z hx6))<|J (gn 1)<|J (q1b 3 y3.toNat 4 5 (q4z hx6))<|J (LPd' [(4,5)] (q4m (q4z hx6)))<|fE 3 hr ?_ ?_<;>intro h7 hr
 refine J g<|J (IEd' g5 (q4m (q4z hx6)))<|J g<|J (LPd' [(4,5)] (q4m (q4z hx6)))<|J g<|J (IEd' g5 (q4m (q4z hx6)))<|J g<|J (LPd' [(4,5)] (q4m (q4z hx6)))<|bdE hr fun x7 hx7 hr=>J g<|J (LIR' 6 (m:=.fz) (f:=Eqn.D) (xs:=[x7]))<|ggE hr fun g6 hr=>J (AP1' 7 .fz 112 g6)<|J (IEd' g5 (q4m (q4z hx6)))<|J g<|J (SD' [.o .fz 9 ((x6.es_++[x7]).map Eqn.D)] [7] (q4m (q4z hx6)))<|J (gn 7) ?_
 refine J (q0c (q0w 3 (he:=eset (f:=Rule.O) (x':=(⟨x6.Name,x6.Left,x6.rt_,x6.ll_,(x6.es_++[x7]),x6.cs_⟩:Rule)) (by first|rfl|(simp only[Dqz];rfl))))) ?_
 refine J (q0c (q0x 3 Rule.D (by exact fun _=>rfl) rfl))<|J g<|E
 refine J (gn 8)<|J (q0c (q0J 3 y3.toNat 4 5 (q4m (q4z hx6)))) ?_
 refine J (q0c (q0w 3 (he:=k7D (f:=Rule.O) hx6 (by first|rfl|(simp only[Dqz];rfl))))) ?_
 refine J (q0c (q0x 3 Rule.D (by exact fun _=>rfl) rfl))<|J g<|E
 refine fE 6 hr ?_ ?_<;>intro h8 hr
 refine J g<|J (LIR' 5 (m:=.fz) (f:=A.D.s) (xs:=[(⟨#[115]⟩:BA_),(⟨#[122]⟩:BA_)]))<|bdP hr fun y7 z7 hq7 hr=>J (CB' [(0,0)] [5] (q9i (m:=.bo) hq7))<|ggE hr fun g7 hr=>bdE hr fun x8 hx8 hr=>J (IEd' g7 (q4z hx8))<|J g<|J (SD' [.d .fz (.s y7)] [] (q4z hx8))<|J (gn 7) ?_
 refine J (q0c (q0w 3 (he:=eset (f:=Rule.O) (x':=(⟨x8.Name,y7,x8.rt_,x8.ll_,x8.es_,x8.cs_⟩:Rule)) (by first|rfl|(simp only[Dqz];rfl))))) ?_
 refine J (q0c (q0x 3 Rule.D (by exact fun _=>rfl) rfl))<|J g<|E
 refine fE 6 hr ?_ ?_<;>intro h9 hr
 refine ggE hr fun g8 hr=>bdE hr fun x9 hx9 hr=>J g<|J (IEd' g8 (q4z hx9))<|J (gn 1)<|J (q1b 3 y3.toNat 4 5 (q4z hx9))<|J (LPd' [(4,5)] (q4m (q4z hx9)))<|fE 3 hr ?_ ?_<;>intro h10 hr
 refine J g<|J (IEd' g8 (q4m (q4z hx9)))<|J g<|J (LPd' [(4,5)] (q4m (q4z hx9)))<|bdP hr fun y8 z8 hq8 hr=>J g<|J (CBz' 6 [(0,0),(1,6)] [] (j5d hq8))<|bdE hr fun x10 hx10 hr=>J g<|J (SE' (⟨x10.At,y8⟩:Eqn) hx10)<|J (gn 7)<|J (q0c (q0J 3 y3.toNat 4 5 (q4m (q4z hx9)))) ?_
 refine J (q0c (q0w 3 (he:=eset (f:=Rule.O) (x':=(⟨x9.Name,x9.Left,x9.rt_,x9.ll_,(List.set x9.es_ 0 (⟨x10.At,y8⟩:Eqn)),x9.cs_⟩:Rule)) (by first|rfl|(simp only[Dqz];rfl))))) ?_
 refine J (q0c (q0x 3 Rule.D (by exact fun _=>rfl) rfl))<|J g<|E
 refine J (gn 8)<|J (q0c (q0J 3 y3.toNat 4 5 (q4m (q4z hx9)))) ?_
 refine J (q0c (q0w 3 (he:=k7D (f:=Rule.O) hx9 (by first|rfl|(simp only[Dqz];rfl))))) ?_
 refine J (q0c (q0x 3 Rule.D (by exact fun _=>rfl) rfl))<|J g<|E
 refine J (gn 8) ?_
 refine J (q0c (q0x 3 Rule.D (by exact fun _=>rfl) rfl))<|J g<|E
theorem j0J {a0:List UInt8}{r:Gm_}(hr:z1c a0=some r):Okp 13 [rw0 .fz a0] [] (.ag [.ref 0 none,rw5 .fz r.rs_]) [.deep .fz 2 (r.ss_.map Symbol.O) []]:=by
 refine OE Tryz.func13 fun S hS=>?_
 unfold z1c at hr
 refine J g<|J (NV' 0)<|bdE hr fun y1 hy1 hr=>J g<|J (CB' [(0,1)] [] (k3d hy1))<|bdP hr fun y2 z1 hq1 hr=>J g<|J (CB' [(0,1)] [] (q5S hq1))<|fE 1 hr ?_ ?_<;>intro h1 hr
 refine bdP hr fun y3 z2 hq2 hr=>J g<|J (CB' [(0,1),(1,2)] [] (j9e hq2))<|e
 refine bdP hr fun y4 z3 hq3 hr=>J g<|J (CB' [(0,1),(1,2),(2,3)] [] (j3g hq3))<|J (gn 3) ?_
 refine J (q0c (q0x 3 Rule.D (by exact fun _=>rfl) rfl))<|J g<|E
theorem j0K {a0:List UInt8}{r:Gm_}(hr:q9L a0=some r):Okp 5 [rw0 .fz a0] [] (.ag [.ref 0 none,rw5 .fz r.rs_]) [.deep .fz 2 (r.ss_.map Symbol.O) []]:=by
 refine OE Tryz.func5 fun S hS=>?_
 unfold q9L at hr
 refine J g<|J (NV' 0)<|bdE hr fun y1 hy1 hr=>J g<|J (CB' [(0,1)] [] (j0J hy1))<|e
theorem j4p {Rc14:Expr→Option Bool}(Ic14:∀ {m:Md} {a0:Expr} {r:Bool},Rc14 a0=some r→Okp 145 [Expr.x m a0] [] (dB r) []){m:Md}{a0:Expr}{r:Bool}(hr:z3t Rc14 a0=some r):Okp 145 [Expr.x m a0] [] (dB r) []:=by
 refine OE Tryz.func145 fun S hS=>?_
 unfold z3t at hr
 refine J g<|J (BX' 0)<|J (gn 8)<|J (lenA 6 0)<|fun hl1=>bdE hr fun q1 hqq1 hr=>q0b hqq1 hl1 1 (fun k1 _=>[(1,.pb 0 0),(3,dI (k1:Int))]) (fun k1 _=>[]) I (fun k1 xk1 sk1 ok1 hxk1 hr hltk1 hik1=>?_) fun k1 sk1 ek1 hltk1=>?_
 refine bdE hr fun y1 hy1 hr=>J g<|J (CB' [] [] (Ic14 (m:=m) hy1))<|fE 1 hr ?_ ?_<;>intro h1 hr
 exact e
 exact e
 subst ek1
 exact e
theorem j4q (n:Nat):∀ {m:Md} {a0:Expr} {r:Bool},z3u n a0=some r→Okp 145 [Expr.x m a0] [] (dB r) []:=by
  induction n with
  | zero=>intro _ _ r hr;exact nomatch (show (none:Option Bool)=some r from hr)
  | succ n ih=>intro _ _ r hr;exact j4p ih hr
theorem j5Y {m:Md}{a0:Expr}{r:Bool}(hr:z7H a0=some r):Okp 145 [Expr.x m a0] [] (dB r) []:=by
 obtain⟨n,hn⟩:=q6R hr
 exact j4q n hn
theorem j5Z {m:Md}{a0:Rule}{r:Bool}(hr:z3v a0=some r):Okp 98 [Rule.x m a0] [] (dB r) []:=by
 refine OE Tryz.func98 fun S hS=>?_
 unfold z3v at hr
 refine J g<|J (BX' 0)<|J (gn 8)<|J (lenA 4 0)<|fun hl1=>bdE hr fun q1 hqq1 hr=>q0b hqq1 hl1 1 (fun k1 _=>[(1,.pb 0 0),(3,dI (k1:Int))]) (fun k1 _=>[]) I (fun k1 xk1 sk1 ok1 hxk1 hr hltk1 hik1=>?_) fun k1 sk1 ek1 hltk1=>?_
 refine bdE hr fun y1 hy1 hr=>J g<|J (CB' [] [] (j5Y (m:=m) hy1))<|fE 1 hr ?_ ?_<;>intro h1 hr
 exact e
 exact e
 subst ek1
 exact e
theorem z8C {a0:At_}{r:Bool}(hr:q8l a0=some r):Okp 266 [At_.x .fz a0] [] (dB r) []:=by
 refine OE Tryz.func266 fun S hS=>?_
 unfold q8l at hr
 refine J g<|J (BX' 0)<|bdE hr fun y1 hy1 hr=>J g<|J (CB' [] [] (q5W hy1))<|bdE hr fun s1 hqq1 hr=>J (gn 1)<|q0a 6 [(1,.pb 0 0),(12,dB s1)] ?_ ?_
 replace hr:=hqq1
 refine ifE hr ?_ ?_<;>intro h1 hr
 refine bdE hr fun y2 hy2 hr=>J g<|J (CB' [] [] (q6h hy2))<|e
 exact e
 refine bdE hr fun s2 hqq2 hr=>q0a 6 [(1,.pb 0 0),(18,dB s2)] ?_ ?_
 replace hr:=hqq2
 refine ifE hr ?_ ?_<;>intro h2 hr
 exact e
 refine bdE hr fun y3 hy3 hr=>J g<|J (CB' [] [] (q6h hy3))<|e
 refine fE 1 hr ?_ ?_<;>intro h3 hr
 exact e
 refine bdE hr fun s3 hqq3 hr=>J (gn 8)<|q0a 9 [(1,.pb 0 0),(30,dB s3)] ?_ ?_
 replace hr:=hqq3
 refine ifE hr ?_ ?_<;>intro h4 hr
 refine bdE hr fun s4 hqq4 hr=>J (gn 4)<|q0a 4 [(1,.pb 0 0),(22,dB true),(29,dB s4)] ?_ ?_
 replace hr:=hqq4
 refine ifE hr ?_ ?_<;>intro h5 hr
 exact e
 exact e
 exact e
 exact e
 refine fE 1 hr ?_ ?_<;>intro h6 hr
 exact e
 refine bdE hr fun s5 hqq5 hr=>J (gn 7)<|q0a 5 [(38,dB s5)] ?_ ?_
 replace hr:=hqq5
 refine ifE hr ?_ ?_<;>intro h7 hr
 exact e
 exact e
 exact e
theorem j3h {m:Md}{a0:List BA_}{r:Bool}(hr:z0Z a0=some r):Okp 267 [rw2 m a0] [] (dB r) []:=by
 refine OE Tryz.func267 fun S hS=>?_
 unfold z0Z at hr
 refine J (gn 10)<|J (lenT 0)<|fun hl1=>bdE hr fun q1 hqq1 hr=>q0b hqq1 hl1 0 (fun k1 _=>[(0,rw2 m a0),(3,dI (k1:Int))]) (fun k1 _=>[]) I (fun k1 xk1 sk1 ok1 hxk1 hr hltk1 hik1=>?_) fun k1 sk1 ek1 hltk1=>?_
 refine ggE hr fun g1 hr=>J g<|J (SLH' (Dpz _) g1)<|bdE hr fun y1 hy1 hr=>J g<|J (CB' [] [] (j0d (m:=m) hy1))<|fE 1 hr ?_ ?_<;>intro h1 hr
 exact e
 exact e
 subst ek1
 exact e
theorem j0L {m:Md}{a0:Symbol}{r:Bool}(hr:q9P a0=some r):Okp 234 [Symbol.x m a0] [] (dB r) []:=by
 refine OE Tryz.func234 fun S hS=>?_
 unfold q9P at hr
 refine J g<|J (BX' 0)<|J g<|J (L0' 1 A.D.s)<|J (gn 8)<|J (lenA 1 0)<|fun hl1=>bdE hr fun q1 hqq1 hr=>q0b hqq1 hl1 2 (fun k1 s1=>[(1,.pb 0 0),(3,.ref 1 none),(4,dI (k1:Int))]) (fun k1 s1=>[(1,.row .fz 1 (s1.map A.D.s))]) I (fun k1 xk1 sk1 ok1 hxk1 hr hltk1 hik1=>?_) fun k1 sk1 ek1 hltk1=>?_
 obtain⟨s1,rfl⟩:∃ y,y=sk1:=⟨_,rfl⟩
 refine bdE hr fun y1 hy1 hr=>J g<|J (CB' [] [] (z8C hy1))<|fE 2 hr ?_ ?_<;>intro h1 hr
 refine J g<|J (LIR' 2 (m:=.fz) (f:=A.D.s) (xs:=[xk1.Name]))<|ggE hr fun g1 hr=>J (z1D (f:=A.D.s) 3 (fun _=>rfl) 16 g1)<|e
 exact e
 subst ek1
 obtain⟨s1,rfl⟩:∃ y,y=sk1:=⟨_,rfl⟩
 refine bdE hr fun y2 hy2 hr=>J g<|J (CB' [] [] (q5W hy2))<|bdE hr fun s2 hqq2 hr=>q0a 5 [(3,.ref 1 none),(36,dB s2)] ?_ ?_
 replace hr:=hqq2
 refine ifE hr ?_ ?_<;>intro h2 hr
 exact e
 exact e
 refine bdE hr fun s3 hqq3 hr=>q0a 4 [(40,dB s3)] ?_ ?_
 replace hr:=hqq3
 refine ifE hr ?_ ?_<;>intro h3 hr
 refine bdE hr fun y3 hy3 hr=>J g<|J (CB' [] [1] (j3h (m:=.bo) hy3))<|e
 exact e
 exact e
theorem j3i {m:Md}{a0:Rule}{r:Bool}(hr:z1a a0=some r):Okp 236 [Rule.x m a0] [] (dB r) []:=by
 refine OE Tryz.func236 fun S hS=>?_
 unfold z1a at hr
 refine J g<|J (BX' 0)<|bdE hr fun y1 hy1 hr=>J g<|J (CB' [] [] (q5W hy1))<|bdE hr fun s1 hqq1 hr=>J (gn 1)<|q0a 6 [(1,.pb 0 0),(3,dI (a0.rt_.length:Int)),(21,dB s1)] ?_ ?_
 replace hr:=hqq1
 refine ifE hr ?_ ?_<;>intro h1 hr
 refine bdE hr fun y2 hy2 hr=>J g<|J (CB' [] [] (q5W hy2))<|e
 exact e
 refine bdE hr fun s2 hqq2 hr=>q0a 4 [(1,.pb 0 0),(3,dI (a0.rt_.length:Int)),(25,dB s2)] ?_ ?_
 replace hr:=hqq2
 refine ifE hr ?_ ?_<;>intro h2 hr
 exact e
 exact e
 refine bdE hr fun s3 hqq3 hr=>q0a 6 [(1,.pb 0 0),(3,dI (a0.rt_.length:Int)),(31,dB s3)] ?_ ?_
 replace hr:=hqq3
 refine ifE hr ?_ ?_<;>intro h3 hr
 exact e
 exact e
 refine fE 1 hr ?_ ?_<;>intro h4 hr
 exact e
 refine J (gn 8) ?_
 refine AW.len (.box 0 2 rfl rfl) fun hl1=>?_
 refine bdE hr fun q4 hqq4 hr=>q0b hqq4 hl1 1 (fun k1 _=>[(1,.pb 0 0),(3,dI (a0.rt_.length:Int)),(4,dI (k1:Int))]) (fun k1 _=>[]) I (fun k1 xk1 sk1 ok1 hxk1 hr hltk1 hik1=>?_) fun k1 sk1 ek1 hltk1=>?_
 refine bdE hr fun y3 hy3 hr=>J g<|J (CB' [] [] (q5W hy3))<|fE 2 hr ?_ ?_<;>intro h5 hr
 exact e
 exact e
 subst ek1
 refine J (gn 15) ?_
 refine AW.len (.box 0 4 rfl rfl) fun hl2=>?_
 refine bdE hr fun q5 hqq5 hr=>q0b hqq5 hl2 1 (fun k2 _=>[(1,.pb 0 0),(3,dI (a0.rt_.length:Int)),(5,dI (k2:Int))]) (fun k2 _=>[]) I (fun k2 xk2 sk2 ok2 hxk2 hr hltk2 hik2=>?_) fun k2 sk2 ek2 hltk2=>?_
 refine J g<|J (NV' 1)<|bdE hr fun y4 hy4 hr=>J g<|J (CB' [] [] (q5W hy4))<|bdE hr fun s4 hqq6 hr=>J (gn 1)<|q0a 8 [(1,.pb 0 0),(3,dI (a0.rt_.length:Int)),(5,dI (k2:Int)),(6,.pb 1 0),(68,dB s4)] ?_ ?_
 replace hr:=hqq6
 refine ifE hr ?_ ?_<;>intro h6 hr
 refine bdE hr fun y5 hy5 hr=>J g<|J (CB' [] [] (q6h hy5))<|e
 exact e
 refine bdE hr fun s5 hqq7 hr=>q0a 7 [(1,.pb 0 0),(3,dI (a0.rt_.length:Int)),(5,dI (k2:Int)),(75,dB s5)] ?_ ?_
 replace hr:=hqq7
 refine ifE hr ?_ ?_<;>intro h7 hr
 exact e
 refine bdE hr fun y6 hy6 hr=>J g<|J (CB' [] [] (z8w (m:=m) hy6))<|e
 refine fE 1 hr ?_ ?_<;>intro h8 hr
 exact e
 exact e
 subst ek2
 refine J (gn 17) ?_
 refine AW.len (.box 0 5 rfl rfl) fun hl3=>?_
 refine bdE hr fun q8 hqq8 hr=>q0b hqq8 hl3 1 (fun k3 _=>[(1,.pb 0 0),(3,dI (a0.rt_.length:Int)),(7,dI (k3:Int))]) (fun k3 _=>[]) I (fun k3 xk3 sk3 ok3 hxk3 hr hltk3 hik3=>?_) fun k3 sk3 ek3 hltk3=>?_
 refine J g<|J (NV' 1)<|bdE hr fun y7 hy7 hr=>J g<|J (CB' [] [] (q5W hy7))<|bdE hr fun s6 hqq9 hr=>J (gn 1)<|q0a 6 [(1,.pb 0 0),(3,dI (a0.rt_.length:Int)),(7,dI (k3:Int)),(8,.pb 1 0),(97,dB s6)] ?_ ?_
 replace hr:=hqq9
 refine ifE hr ?_ ?_<;>intro h9 hr
 refine bdE hr fun y8 hy8 hr=>J g<|J (CB' [] [] (q5W hy8))<|e
 exact e
 refine bdE hr fun s7 hqq10 hr=>q0a 7 [(1,.pb 0 0),(3,dI (a0.rt_.length:Int)),(7,dI (k3:Int)),(8,.pb 1 0),(104,dB s7)] ?_ ?_
 replace hr:=hqq10
 refine ifE hr ?_ ?_<;>intro h10 hr
 exact e
 refine bdE hr fun y9 hy9 hr=>J g<|J (CB' [] [] (z8w (m:=m) hy9))<|e
 refine bdE hr fun s8 hqq11 hr=>q0a 7 [(1,.pb 0 0),(3,dI (a0.rt_.length:Int)),(7,dI (k3:Int)),(111,dB s8)] ?_ ?_
 replace hr:=hqq11
 refine ifE hr ?_ ?_<;>intro h11 hr
 exact e
 refine bdE hr fun y10 hy10 hr=>J g<|J (CB' [] [] (z8w (m:=m) hy10))<|e
 refine fE 1 hr ?_ ?_<;>intro h12 hr
 exact e
 exact e
 subst ek3
 exact e
theorem k1G {m:Md}{a0:Gm_}{r:Int}(hr:z7L a0=some r):Okp 199 [Gm_.x m a0] [] (dI r) []:=by
 refine OE Tryz.func199 fun S hS=>?_
 unfold z7L at hr
 refine J g<|J (BX' 0)<|J g<|J (L0' 1 A.D.s)<|J (gn 8)<|J (lenA 0 0)<|fun hl1=>bdE hr fun q1 hqq1 hr=>q0b hqq1 hl1 2 (fun k1 s1=>[(1,.pb 0 0),(3,.ref 1 none),(4,dI (k1:Int))]) (fun k1 s1=>[(1,.row .fz 1 (s1.map A.D.s))]) I (fun k1 xk1 sk1 ok1 hxk1 hr hltk1 hik1=>?_) fun k1 sk1 ek1 hltk1=>?_
 obtain⟨s1,rfl⟩:∃ y,y=sk1:=⟨_,rfl⟩
 refine bdE hr fun y1 hy1 hr=>J g<|J (CB' [] [] (j0L (m:=m) hy1))<|fE 1 hr ?_ ?_<;>intro h1 hr
 refine bdE hr fun y2 hy2 hr=>J g<|J (CB' [] [1] (j0d (m:=.bo) hy2))<|fE 2 hr ?_ ?_<;>intro h2 hr
 exact e
 refine J g<|J (LIR' 2 (m:=.fz) (f:=A.D.s) (xs:=[xk1.Name]))<|ggE hr fun g1 hr=>J (z1D (f:=A.D.s) 3 (fun _=>rfl) 16 g1)<|e
 exact e
 subst ek1
 obtain⟨s1,rfl⟩:∃ y,y=sk1:=⟨_,rfl⟩
 refine J g<|J (L0' 2 A.D.s)<|J (gn 8) ?_
 refine AW.len (.box 0 1 rfl rfl) fun hl2=>?_
 refine bdE hr fun q2 hqq2 hr=>q0b hqq2 hl2 3 (fun k2 s2=>[(1,.pb 0 0),(3,.ref 2 none),(5,dI (k2:Int))]) (fun k2 s2=>[(2,.row .fz 1 (s2.map A.D.s))]) I (fun k2 xk2 sk2 ok2 hxk2 hr hltk2 hik2=>?_) fun k2 sk2 ek2 hltk2=>?_
 obtain⟨s2,rfl⟩:∃ y,y=sk2:=⟨_,rfl⟩
 refine bdE hr fun y3 hy3 hr=>J g<|J (CB' [] [] (j3i (m:=m) hy3))<|fE 1 hr ?_ ?_<;>intro h3 hr
 refine bdE hr fun y4 hy4 hr=>J g<|J (CB' [] [2] (j0d (m:=.bo) hy4))<|fE 2 hr ?_ ?_<;>intro h4 hr
 exact e
 refine J g<|J (LIR' 3 (m:=.fz) (f:=A.D.s) (xs:=[xk2.Name]))<|ggE hr fun g2 hr=>J (z1D (f:=A.D.s) 4 (fun _=>rfl) 16 g2)<|e
 exact e
 subst ek2
 obtain⟨s2,rfl⟩:∃ y,y=sk2:=⟨_,rfl⟩
 exact e
theorem j4r {m:Md}{a0:Gm_}{a1:Rule}{r:Bool}(hr:z2a a0 a1=some r):Okp 237 [Gm_.y m a0,Rule.x m a1] [] (dB r) []:=by
 refine OE Tryz.func237 fun S hS=>?_
 unfold z2a at hr
 refine J g<|J (BX' 0)<|J (BX' 1)<|bdE hr fun q1 hqq1 hr=>J (gn 7)<|AW.cut 2 (fun _=>[]) (fun _=>[]) (M:=fun x=>q1=.inl x) ?_ fun x hx=>?_
 refine J g<|q0i hqq1 2 (fun s1=>[(2,.pb 0 0),(3,.pb 1 0),(5,dI s1)]) (fun s1=>[]) I fun sk1 ok1 hr hik1=>?_
 obtain⟨s1,rfl⟩:∃ y,y=sk1:=⟨_,rfl⟩
 have hr:=hr
 refine fE 9 hr ?_ ?_<;>intro h1 hr
 refine bdE hr fun y1 hy1 hr=>J g<|J (CB' [] [] (q7S (m:=m) hy1))<|bdP hr fun y2 y3 hq2 hr=>J (CB' [(0,2)] [] (q7T (m:=m) hq2))<|J g<|J (NV' 3)<|fE 8 hr ?_ ?_<;>intro h2 hr
 refine ggE hr fun g1 hr=>e
 exact e
 refine J (gn 2) ?_
 cases hr
 cases hik1 _ rfl
 exact⟨_,rfl,GH.trans (q0D (q:=0) [rw3 m a0.ss_,.u] (.cons .rfl (.cons .u .nil)) rfl) (q0g hS 2)⟩
 subst hx
 exact e
theorem j9f {Rc15:Expr→Option Expr}(Ic15:∀ {m:Md} {a0 r:Expr},Rc15 a0=some r→Okp 174 [Expr.x m a0] [] (.ag [dI r.Kind,dI r.N,dI r.Pos,dI r.t__,dS r.Symbol,dS r.Name,.ref 0 none]) [.row .fz 7 (r.Args.map Expr.D)]){m:Md}{a0 r:Expr}(hr:z2b Rc15 a0=some r):Okp 174 [Expr.x m a0] [] (.ag [dI r.Kind,dI r.N,dI r.Pos,dI r.t__,dS r.Symbol,dS r.Name,.ref 0 none]) [.row .fz 7 (r.Args.map Expr.D)]:=by
 refine OE Tryz.func174 fun S hS=>?_
 unfold z2b at hr
 refine J g<|J (BX' 0)<|J (NV' 1)<|J g<|J (L0' 2 Expr.D)<|J (gn 8)<|J (lenA 6 0)<|fun hl1=>bdE hr fun s1 hqq1 hr=>q0e hqq1 hl1 3 (fun k1 s1=>[(1,.pb 0 0),(2,.pb 1 0),(3,.ref 2 none),(4,dI (k1:Int))]) (fun k1 s1=>[(2,.row .fz 7 (s1.map Expr.D))]) I (fun k1 xk1 sk1 ok1 hxk1 hr hltk1=>?_) fun k1 hltk1=>?_
 obtain⟨s1,rfl⟩:∃ y,y=sk1:=⟨_,rfl⟩
 refine bdE hr fun y1 hy1 hr=>J g<|J (CB' [(0,3)] [] (Ic15 (m:=m) hy1)) ?_
 refine J (q0p 3 rfl) ?_
 refine J (j7u 4 (m:=.fz) (f:=Expr.D) [y1] (by simp only[Blz,Ddz,Expr.D_eq];rfl))<|ggE hr fun g1 hr=>J (AP1' 5 .fz 88 g1)<|J g<|E
 exact e
theorem j9g (n:Nat):∀ {m:Md} {a0 r:Expr},q8m n a0=some r→Okp 174 [Expr.x m a0] [] (.ag [dI r.Kind,dI r.N,dI r.Pos,dI r.t__,dS r.Symbol,dS r.Name,.ref 0 none]) [.row .fz 7 (r.Args.map Expr.D)]:=by
  induction n with
  | zero=>intro _ _ r hr;exact nomatch (show (none:Option Expr)=some r from hr)
  | succ n ih=>intro _ _ r hr;exact j9f ih hr
theorem k1H {m:Md}{a0 r:Expr}(hr:z9U a0=some r):Okp 174 [Expr.x m a0] [] (.ag [dI r.Kind,dI r.N,dI r.Pos,dI r.t__,dS r.Symbol,dS r.Name,.ref 0 none]) [.row .fz 7 (r.Args.map Expr.D)]:=by
 obtain⟨n,hn⟩:=q6R hr
 exact j9g n hn
theorem z3J {m:Md}{a0:Rule}{a1:Oc}{r:(Expr×Bool)}(hr:q5V a0 a1=some r):Okp 143 [Rule.x m a0,Oc.x .fz a1] [] (.tu [.ag [dI r.1.Kind,dI r.1.N,dI r.1.Pos,dI r.1.t__,dS r.1.Symbol,dS r.1.Name,.ref 0 none],dB r.2]) [.row .fz 7 (r.1.Args.map Expr.D)]:=by
 refine OE Tryz.func143 fun S hS=>?_
 unfold q5V at hr
 refine J g<|J (BX' 0)<|J (BX' 1)<|J (NV' 2)<|J (gn 8)<|J (lenA 4 0)<|fun hl1=>bdE hr fun q1 hqq1 hr=>q0b hqq1 hl1 3 (fun k1 _=>[(2,.pb 0 0),(3,.pb 1 0),(4,.pb 2 0),(6,dI (k1:Int))]) (fun k1 _=>[]) I (fun k1 xk1 sk1 ok1 hxk1 hr hltk1 hik1=>?_) fun k1 sk1 ek1 hltk1=>?_
 refine J g ?_
 refine J (SQ' rfl rfl rfl rfl (q6B xk1.At a1))<|fE 1 hr ?_ ?_<;>intro h1 hr
 refine bdE hr fun y1 hy1 hr=>J g<|J (CB' [(0,3)] [] (k1H (m:=m) hy1))<|e
 exact e
 subst ek1
 refine J (gn 18) ?_
 refine J (q0c (q0n (q:=2) (c:=6) (r:=3) .fz 7 rfl rfl rfl))<|J g<|E
theorem j4s {m:Md}{a0:Gm_}{a1:Rule}{r:Bool}(hr:z2c a0 a1=some r):Okp 238 [Gm_.y m a0,Rule.x m a1] [] (dB r) []:=by
 refine OE Tryz.func238 fun S hS=>?_
 unfold z2c at hr
 refine J g<|J (BX' 0)<|J (BX' 1)<|bdE hr fun y1 hy1 hr=>J g<|J (CB' [(0,2)] [] (q6I (m:=m) hy1))<|J (gn 8)<|J (lenR 2)<|fun hl1=>bdE hr fun q1 hqq1 hr=>q0b hqq1 hl1 3 (fun k1 _=>[(3,.pb 1 0),(5,.ref 2 none),(6,dI (k1:Int))]) (fun k1 _=>[]) I (fun k1 xk1 sk1 ok1 hxk1 hr hltk1 hik1=>?_) fun k1 sk1 ek1 hltk1=>?_
 refine bdP hr fun y2 y3 hq2 hr=>J g<|J (CB' [(0,3)] [] (z3J (m:=m) hq2))<|J g<|J (NV' 4)<|fE 8 hr ?_ ?_<;>intro h1 hr
 exact e
 exact e
 subst ek1
 exact e
theorem z1B {m:Md}{a0:List Oc}{a1:Oc}{r:Bool}(hr:q7x a0 a1=some r):Okp 96 [rw4 m a0,Oc.x .fz a1] [] (dB r) []:=by
 refine OE Tryz.func96 fun S hS=>?_
 unfold q7x at hr
 refine J g<|J (BX' 0)<|J (gn 8)<|J (lenT 0)<|fun hl1=>bdE hr fun q1 hqq1 hr=>q0b hqq1 hl1 1 (fun k1 _=>[(0,rw4 m a0),(3,.pb 0 0),(5,dI (k1:Int))]) (fun k1 _=>[]) I (fun k1 xk1 sk1 ok1 hxk1 hr hltk1 hik1=>?_) fun k1 sk1 ek1 hltk1=>?_
 refine J g ?_
 refine J (SQ' rfl rfl rfl rfl (q6B xk1 a1))<|fE 1 hr ?_ ?_<;>intro h1 hr
 exact e
 exact e
 subst ek1
 exact e
theorem j7J {m:Md}{a0:Gm_}{a1:Rule}{r:Bool}(hr:z4G a0 a1=some r):Okp 239 [Gm_.y m a0,Rule.x m a1] [] (dB r) []:=by
 refine OE Tryz.func239 fun S hS=>?_
 unfold z4G at hr
 refine J g<|J (BX' 0)<|J (BX' 1)<|bdE hr fun y1 hy1 hr=>J g<|J (CB' [(0,2)] [] (q6I (m:=m) hy1))<|J g<|J (L0' 3 Oc.D)<|J (gn 8)<|J (lenA 4 1)<|fun hl1=>bdE hr fun q1 hqq1 hr=>q0b hqq1 hl1 4 (fun k1 s1=>[(3,.pb 1 0),(5,.ref 2 none),(6,.ref 3 none),(7,dI (k1:Int))]) (fun k1 s1=>[(3,.row .fz 2 (s1.map Oc.D))]) I (fun k1 xk1 sk1 ok1 hxk1 hr hltk1 hik1=>?_) fun k1 sk1 ek1 hltk1=>?_
 obtain⟨s1,rfl⟩:∃ y,y=sk1:=⟨_,rfl⟩
 refine J g<|J (NV' 4)<|bdE hr fun y2 hy2 hr=>J g<|J (CB' [] [2] (z1B (m:=.bo) hy2))<|fE 1 hr ?_ ?_<;>intro h1 hr
 refine bdE hr fun y3 hy3 hr=>J g<|J (CB' [] [3] (z1B (m:=.bo) hy3))<|fE 2 hr ?_ ?_<;>intro h2 hr
 exact e
 refine J g<|J (LIR' 5 (m:=.fz) (f:=Oc.D) (xs:=[xk1.At]))<|ggE hr fun g1 hr=>J (z1D (f:=Oc.D) 6 (fun _=>rfl) 24 g1)<|e
 exact e
 subst ek1
 obtain⟨s1,rfl⟩:∃ y,y=sk1:=⟨_,rfl⟩
 exact e
theorem j7K {a0 a1:Oc}{r:Bool}(hr:z4H a0 a1=some r):Okp 233 [Oc.x .fz a0,Oc.x .fz a1] [] (dB r) []:=by
 refine OE Tryz.func233 fun S hS=>?_
 unfold z4H at hr
 refine J g<|J (BX' 0)<|J (BX' 1)<|bdE hr fun s1 hqq1 hr=>J (gn 9)<|q0a 14 [(4,dB false),(23,dB s1)] ?_ ?_
 replace hr:=hqq1
 refine ifE hr ?_ ?_<;>intro h1 hr
 exact e
 refine bdE hr fun s2 hqq2 hr=>J (gn 6)<|q0a 7 [(4,dB false),(10,dB false),(22,dB s2)] ?_ ?_
 replace hr:=hqq2
 refine ifE hr ?_ ?_<;>intro h2 hr
 exact e
 exact e
 exact e
 exact e
theorem k3g {m:Md}{a0:List Oc}{a1:Oc}{r:List Oc}(hr:z9V a0 a1=some r):Okp 198 [rw4 m a0,Oc.x .fz a1] [] (rw4 m r) []:=by
 refine OE Tryz.func198 fun S hS=>?_
 unfold z9V at hr
 refine J g<|J (BX' 0)<|bdE hr fun s1 hqq1 hr=>J (gn 7)<|q0d 1 [(0,rw4 m a0),(3,.pb 0 0),(5,dI s1)] [] ?_ ?_
 refine J g<|q0i hqq1 1 (fun s2=>[(0,rw4 m a0),(3,.pb 0 0),(5,dI s2)]) (fun s2=>[]) I fun sk1 ok1 hr hik1=>?_
 obtain⟨s2,rfl⟩:∃ y,y=sk1:=⟨_,rfl⟩
 have hr:=hr
 refine fE 7 hr ?_ ?_<;>intro h1 hr
 refine ggE hr fun g1 hr=>bdE hr fun x1 hx1 hr=>bdE hr fun y1 hy1 hr=>J g<|J (CB' [] [] (j7K hy1))<|fE 2 hr ?_ ?_<;>intro h2 hr
 refine ggE hr fun g2 hr=>e
 refine J (gn 2) ?_
 cases hr
 cases hik1 _ rfl
 exact q0g hS 1
 refine J (gn 11) ?_
 cases hr
 cases hik1 _ rfl
 exact q0g hS 1
 refine fE 7 hr ?_ ?_<;>intro h3 hr
 refine ggE hr fun g3 hr=>bdE hr fun x2 hx2 hr=>J g ?_
 refine J (SQ' rfl rfl rfl rfl (q6B x2 a1))<|fE 2 hr ?_ ?_<;>intro h4 hr
 exact e
 refine J g<|J (L0' 1 Oc.D)<|ggE hr fun g4 hr=>ggE hr fun g5 hr=>J g<|J (SLH' g4 g5)<|ggE hr fun g6 hr=>J (j7v (f:=Oc.D) 2 24 (fun _=>rfl) g6)<|J g<|J (LIR' 3 (m:=.fz) (f:=Oc.D) (xs:=[a1]))<|ggE hr fun g7 hr=>J (z1D (f:=Oc.D) 4 (fun _=>rfl) 24 g7)<|ggE hr fun g8 hr=>ggE hr fun g9 hr=>J g<|J (SLL' g8 g9)<|ggE hr fun g10 hr=>J (j7v (f:=Oc.D) 5 24 (fun _=>rfl) g10)<|J (gn 3) ?_
 refine J (q0c (q0r (r:=5) rfl)) ?_
 cases hr
 exact endA.ren [] 0 (.inr rfl) hS rfl rfl rfl (.md rfl) rfl rfl
 refine J g<|J (L0' 1 Oc.D)<|ggE hr fun g11 hr=>ggE hr fun g12 hr=>J g<|J (SLH' g11 g12)<|ggE hr fun g13 hr=>J (j7v (f:=Oc.D) 2 24 (fun _=>rfl) g13)<|J g<|J (LIR' 3 (m:=.fz) (f:=Oc.D) (xs:=[a1]))<|ggE hr fun g14 hr=>J (z1D (f:=Oc.D) 4 (fun _=>rfl) 24 g14)<|ggE hr fun g15 hr=>ggE hr fun g16 hr=>J g<|J (SLL' g15 g16)<|ggE hr fun g17 hr=>J (j7v (f:=Oc.D) 5 24 (fun _=>rfl) g17)<|J (gn 3) ?_
 refine J (q0c (q0r (r:=5) rfl)) ?_
 cases hr
 exact endA.ren [] 0 (.inr rfl) hS rfl rfl rfl (.md rfl) rfl rfl
theorem j9h {Rc16:Expr→(List Oc)→Option (List Oc)}(Ic16:∀ {m:Md} {a0:Expr} {a1 r:List Oc},Rc16 a0 a1=some r→Okp 175 [Expr.x m a0,rw4 m a1] [] (rw4 m r) []){m:Md}{a0:Expr}{a1 r:List Oc}(hr:z3w Rc16 a0 a1=some r):Okp 175 [Expr.x m a0,rw4 m a1] [] (rw4 m r) []:=by
 refine OE Tryz.func175 fun S hS=>?_
 unfold z3w at hr
 refine J g<|J (BX' 0)<|fE 9 hr ?_ ?_<;>intro h1 hr
 refine bdE hr fun y1 hy1 hr=>J g<|J (CB' [] [] (k3g (m:=m) hy1))<|J (gn 8)<|J (lenA 6 0)<|fun hl1=>bdE hr fun s1 hqq1 hr=>q0e hqq1 hl1 1 (fun k1 s1=>[(1,rw4 m s1),(2,.pb 0 0),(5,dI (k1:Int))]) (fun k1 s1=>[]) I (fun k1 xk1 sk1 ok1 hxk1 hr hltk1=>?_) fun k1 hltk1=>?_
 obtain⟨s1,rfl⟩:∃ y,y=sk1:=⟨_,rfl⟩
 refine bdE hr fun y2 hy2 hr=>J g<|J (CB' [] [] (Ic16 (m:=m) hy2))<|e
 exact e
 refine J (gn 8)<|J (lenA 6 0)<|fun hl2=>bdE hr fun s2 hqq2 hr=>q0e hqq2 hl2 1 (fun k2 s2=>[(1,rw4 m s2),(2,.pb 0 0),(5,dI (k2:Int))]) (fun k2 s2=>[]) I (fun k2 xk2 sk2 ok2 hxk2 hr hltk2=>?_) fun k2 hltk2=>?_
 obtain⟨s2,rfl⟩:∃ y,y=sk2:=⟨_,rfl⟩
 refine bdE hr fun y3 hy3 hr=>J g<|J (CB' [] [] (Ic16 (m:=m) hy3))<|e
 exact e
theorem j9i (n:Nat):∀ {m:Md} {a0:Expr} {a1 r:List Oc},q8I n a0 a1=some r→Okp 175 [Expr.x m a0,rw4 m a1] [] (rw4 m r) []:=by
  induction n with
  | zero=>intro _ _ _ r hr;exact nomatch (show (none:Option (List Oc))=some r from hr)
  | succ n ih=>intro _ _ _ r hr;exact j9h ih hr
theorem k1I {m:Md}{a0:Expr}{a1 r:List Oc}(hr:j2Z a0 a1=some r):Okp 175 [Expr.x m a0,rw4 m a1] [] (rw4 m r) []:=by
 obtain⟨n,hn⟩:=q6R hr
 exact j9i n hn
theorem z2I {m:Md}{a0:Expr}{r:List Oc}(hr:q6O a0=some r):Okp 144 [Expr.x m a0] [] (rw4 m r) []:=by
 refine OE Tryz.func144 fun S hS=>?_
 unfold q6O at hr
 refine J g<|J (BX' 0)<|J g<|J (L0' 1 Oc.D) ?_
 refine J (q0p 1 rfl)<|bdE hr fun y1 hy1 hr=>J (CB' [] [] (k1I (m:=m) hy1))<|J g<|E
theorem k1J {m:Md}{a0:Gm_}{a1:Rule}{a2:Oc}{r:Bool}(hr:z7M a0 a1 a2=some r):Okp 279 [Gm_.y m a0,Rule.x m a1,Oc.x .fz a2] [] (dB r) []:=by
 refine OE Tryz.func279 fun S hS=>?_
 unfold z7M at hr
 refine J g<|J (BX' 0)<|J (BX' 1)<|J (BX' 2)<|bdE hr fun y1 hy1 hr=>J g<|J (CB' [] [] (q6h hy1))<|fE 2 hr ?_ ?_<;>intro h1 hr
 refine bdE hr fun y2 hy2 hr=>J g<|J (CB' [] [] (q7S (m:=m) hy2))<|bdP hr fun y3 y4 hq1 hr=>J (CB' [(0,3)] [] (q7T (m:=m) hq1))<|J g<|J (NV' 4)<|bdP hr fun y5 y6 hq2 hr=>J g<|J (CB' [] [3] (z0C (m:=.bo) hq2))<|J g<|J (NV' 5)<|fE 10 hr ?_ ?_<;>intro h2 hr
 refine bdE hr fun s1 hqq3 hr=>J (gn 4)<|q0a 5 [(6,dB false),(42,dB s1)] ?_ ?_
 replace hr:=hqq3
 refine ifE hr ?_ ?_<;>intro h3 hr
 exact e
 exact e
 exact e
 refine bdE hr fun s2 hqq4 hr=>J (gn 5)<|q0a 5 [(6,dB false),(48,dB s2)] ?_ ?_
 replace hr:=hqq4
 refine ifE hr ?_ ?_<;>intro h4 hr
 exact e
 exact e
 exact e
 exact e
theorem z9c {m:Md}{a0:Gm_}{a1:Rule}{a2:Expr}{r:Bool}(hr:z2x a0 a1 a2=some r):Okp 268 [Gm_.y m a0,Rule.x m a1,Expr.x m a2] [] (dB r) []:=by
 refine OE Tryz.func268 fun S hS=>?_
 unfold z2x at hr
 refine J g<|J (BX' 0)<|J (BX' 1)<|J (BX' 2)<|bdE hr fun y1 hy1 hr=>J g<|J (CB' [] [] (z2I (m:=m) hy1))<|J (gn 8)<|J (lenT 7)<|fun hl1=>bdE hr fun q1 hqq1 hr=>q0b hqq1 hl1 3 (fun k1 _=>[(3,.pb 0 0),(4,.pb 1 0),(7,rw4 m y1),(8,dI (k1:Int))]) (fun k1 _=>[]) I (fun k1 xk1 sk1 ok1 hxk1 hr hltk1 hik1=>?_) fun k1 sk1 ek1 hltk1=>?_
 refine bdE hr fun y2 hy2 hr=>J g<|J (CB' [] [] (k1J (m:=m) hy2))<|fE 2 hr ?_ ?_<;>intro h1 hr
 exact e
 exact e
 subst ek1
 exact e
theorem j6a {m:Md}{a0:Gm_}{a1:Rule}{r:Bool}(hr:z3x a0 a1=some r):Okp 240 [Gm_.y m a0,Rule.x m a1] [] (dB r) []:=by
 refine OE Tryz.func240 fun S hS=>?_
 unfold z3x at hr
 refine J g<|J (BX' 0)<|J (BX' 1)<|J (gn 8)<|J (lenA 4 1)<|fun hl1=>bdE hr fun q1 hqq1 hr=>q0b hqq1 hl1 2 (fun k1 _=>[(2,.pb 0 0),(3,.pb 1 0),(5,dI (k1:Int))]) (fun k1 _=>[]) I (fun k1 xk1 sk1 ok1 hxk1 hr hltk1 hik1=>?_) fun k1 sk1 ek1 hltk1=>?_
 refine bdE hr fun y1 hy1 hr=>J g<|J (CB' [] [] (z9c (m:=m) hy1))<|fE 2 hr ?_ ?_<;>intro h1 hr
 exact e
 exact e
 subst ek1
 refine J (gn 17) ?_
 refine AW.len (.box 1 5 rfl rfl) fun hl2=>?_
 refine bdE hr fun q2 hqq2 hr=>q0b hqq2 hl2 2 (fun k2 _=>[(2,.pb 0 0),(3,.pb 1 0),(6,dI (k2:Int))]) (fun k2 _=>[]) I (fun k2 xk2 sk2 ok2 hxk2 hr hltk2 hik2=>?_) fun k2 sk2 ek2 hltk2=>?_
 refine bdE hr fun y2 hy2 hr=>J g<|J (CB' [] [] (z9c (m:=m) hy2))<|fE 1 hr ?_ ?_<;>intro h2 hr
 refine bdE hr fun y3 hy3 hr=>J g<|J (CB' [] [] (z9c (m:=m) hy3))<|fE 3 hr ?_ ?_<;>intro h3 hr
 exact e
 exact e
 exact e
 subst ek2
 exact e
theorem j6b {m:Md}{a0:Gm_}{a1:Rule}{a2:Int}{r:Bool}(hr:z3y a0 a1 a2=some r):Okp 200 [Gm_.y m a0,Rule.x m a1,dI a2] [] (dB r) []:=by
 refine OE Tryz.func200 fun S hS=>?_
 unfold z3y at hr
 refine J g<|J (BX' 0)<|J (BX' 1)<|fE 13 hr ?_ ?_<;>intro h1 hr
 refine bdE hr fun y1 hy1 hr=>J g<|J (CB' [] [] (j4r (m:=m) hy1))<|e
 refine fE 6 hr ?_ ?_<;>intro h2 hr
 refine bdE hr fun y2 hy2 hr=>J g<|J (CB' [] [] (j4s (m:=m) hy2))<|e
 refine fE 6 hr ?_ ?_<;>intro h3 hr
 refine bdE hr fun y3 hy3 hr=>J g<|J (CB' [] [] (j7J (m:=m) hy3))<|e
 refine bdE hr fun y4 hy4 hr=>J g<|J (CB' [] [] (j6a (m:=m) hy4))<|e
theorem j4t {m:Md}{a0:Gm_}{r:(Int×Int)}(hr:z2d a0=some r):Okp 176 [Gm_.x m a0] [] (.tu [dI r.1,dI r.2]) []:=by
 refine OE Tryz.func176 fun S hS=>?_
 unfold z2d at hr
 refine J g<|J (BX' 0)<|bdE hr fun y1 hy1 hr=>J g<|J (CB' [] [] (q6h hy1))<|fE 1 hr ?_ ?_<;>intro h1 hr
 refine bdE hr fun y2 hy2 hr=>J g<|J (CB' [] [] (q6h hy2))<|fE 3 hr ?_ ?_<;>intro h2 hr
 refine bdE hr fun y3 hy3 hr=>J g<|J (CB' [] [] (k1G (m:=m) hy3))<|fE 8 hr ?_ ?_<;>intro h3 hr
 exact e
 refine bdE hr fun x1 hx1 hr=>J (gn 8) ?_
 refine AW.len (.el 1 (.ag 0 (.tmp 0 rfl) rfl) hx1 rfl) fun hl1=>?_
 refine bdE hr fun q1 hqq1 hr=>q0b hqq1 hl1 1 (fun k1 _=>[(1,.pb 0 0),(5,dI (k1:Int))]) (fun k1 _=>[]) I (fun k1 xk1 sk1 ok1 hxk1 hr hltk1 hik1=>?_) fun k1 sk1 ek1 hltk1=>?_
 refine fE 29 hr ?_ ?_<;>intro h4 hr
 exact e
 exact e
 subst ek1
 refine bdE hr fun q2 hqq2 hr=>J (gn 19)<|AW.cut 1 (fun _=>[]) (fun _=>[]) (M:=fun x=>q2=.inl x) ?_ fun x hx=>?_
 refine J g<|q0i hqq2 1 (fun s1=>[(1,.pb 0 0),(6,dI s1)]) (fun s1=>[]) I fun sk2 ok2 hr hik2=>?_
 obtain⟨s1,rfl⟩:∃ y,y=sk2:=⟨_,rfl⟩
 have hr:=hr
 refine fE 6 hr ?_ ?_<;>intro h5 hr
 refine J (gn 9) ?_
 refine AW.len (.box 0 1 rfl rfl) fun hl3=>?_
 refine bdE hr fun q3 hqq3 hr=>q0b hqq3 hl3 1 (fun k3 _=>[(1,.pb 0 0),(6,dI s1),(7,dI (k3:Int))]) (fun k3 _=>[]) I (fun k3 xk3 sk3 ok3 hxk3 hr hltk3 hik3=>?_) fun k3 sk3 ek3 hltk3=>?_
 refine bdE hr fun y4 hy4 hr=>J g<|J (CB' [] [] (j6b (m:=m) hy4))<|fE 1 hr ?_ ?_<;>intro h6 hr
 exact e
 exact e
 subst ek3
 refine ggE hr fun g1 hr=>e
 refine J (gn 2) ?_
 cases hr
 cases hik2 _ rfl
 exact⟨_,rfl,q0g hS 1⟩
 subst hx
 exact e
 exact e
 exact e
end Go.Proofs.YtgkepiefcpfimaaGreatDoor
