/- What some functions of the program compute, as partial functions on plain data, and that they do; each lemma bears its conditions in its statement. -/
import Derived.Test.YtmblndlpkpaobabGreatLiftA
set_option linter.unusedVariables false
set_option linter.unusedSimpArgs false
set_option linter.ambiguousOpen false
set_option linter.unusedSectionVars false
set_option linter.unnecessarySimpa false
set_option linter.unusedVariables false
set_option linter.unusedSimpArgs false
set_option maxRecDepth 100000
set_option maxHeartbeats 4000000
noncomputable section
namespace Go.Proofs.YtmblndlpkpaobabGreat
open Go Go.E
open Go.E.Rep (rd)
open Go.E.Sep (own)
open Go.E.Sz (szd)
variable {F0:Nat→Prop}{w0:World}{M:List Nat}
def q8K (x1:Relation)(k2:Nat)(x2:Int):Nat→Int→((List Int) × Int)→Option ((List Int) × Int):=fun k3 x3 (s6,s7)=>( (q8y x1 (k2:Int) (k3:Int)).bind fun y5=>if y5=true then (q5U (⟨s7,s6⟩:Relation) x2 x3).bind fun y6=>some (y6.Rows,y6.N) else some (s6,s7) ).bind fun (s8,s9)=>some (s8,s9)
def q8L (x1:Relation)(y3:(List Int)):Nat→Int→((List Int) × Int)→Option ((List Int) × Int):=fun k2 x2 (s4,s5)=>(q2G (q8K x1 k2 x2) 0 y3 (s4,s5)).bind fun (s6,s7)=>some (s6,s7)
def q8M (a0:Grammar)(a1:Rule):Nat→Relation→((List Int) × Int)→Option (((List Int) × Int) ⊕ Relation):=fun k1 x1 (s2,s3)=>(q5q a0 a1 ((k1+1:Nat):Int)).bind fun y3=>(q3w x1).bind fun y4=>if y4=true then if x1.N=(y3.length:Int) then (q2G (q8L x1 y3) 0 y3 (s2,s3)).bind fun (s4,s5)=>some (.inl (s4,s5)) else some (.inr (⟨0,[]⟩:Relation)) else some (.inr (⟨0,[]⟩:Relation))
def q8a (a0:Grammar)(a1:Rule)(a2:(List Relation)):Option Relation:=(q4V a0 a1).bind fun y1=>( if (a2.length:Int)=(a1.Right.length:Int) then some (decide (16 < (y1.length:Int))) else some true ).bind fun s1=>if s1=true then some (⟨0,[]⟩:Relation) else (q5V a0 a1).bind fun y2=>(q2I (q8M a0 a1) 0 a2 (y2.Rows,y2.N)).bind <| onr (fun r1=>some r1) fun (s2,s3)=>(q6W (⟨s3,s2⟩:Relation)).bind fun y7=>some y7
theorem q3D {a0}{a1}{a2}{r}(hr:q8a a0 a1 a2=some r){ca0}(ha0:rd F0 w0 a0 ca0){ca1}(ha1:rd F0 w0 a1 ca1){z2}(ha2:rdS F0 w0 a2 z2):RT 24 #[ag ca0,ag ca1,z2] w0 fun v w=>∃ A0 n0 c0,v = .agg #[.int .i64 r.N,(.slice A0 n0 c0)]∧I64 r.N∧HL F0 [] w0 w [] [.O 3 r.Rows (.slice A0 n0 c0)]:=by
 obtain⟨A2',n2',c2',rfl⟩:=ha2.form3
 let d13:Pr:=.S a2 (.slice A2' n2' c2')
 have H:=(((HL.start F0 w0).argR ha0).argR ha1).argS ha2
 obtain⟨A1,n1,c1,A2,n2,c2,rfl,H⟩:=q2C H 0
 let d10:Pr:=.S a0.Rules (.slice A2 n2 c2)
 let d9:Pr:=.S a0.Symbols (.slice A1 n1 c1)
 let d2:List Value:=[.slice A1 n1 c1,.slice A2 n2 c2]
 obtain⟨A3,n3,c3,A4,n4,c4,A5,n5,c5,rfl,hS1,hS2,H⟩:=q2U H 1
 let d11:Pr:=.S a1.Right (.slice A3 n3 c3)
 let d7:Pr:=.S a1.Equations (.slice A4 n4 c4)
 let d6:Pr:=.S a1.Contributions (.slice A5 n5 c5)
 let d1:=q3C a1 A3 n3 c3 A4 n4 c4 A5 n5 c5
 let d4:List Pr:=[.R a0 d2,.R a1 d1,d13,d9,d10,d11,d7,d6]
 refine (En Tryz.func24) ?_
 refine R ((BX H) fun b1 w1 H=>(BX H) fun b2 w2 H=>(AH ze60 H) fun b3 w3 H=>Z (R ((LB H 0) ((LB H 1) ?_))))
 let d16:It:=.B b1 31 d2
 let d3:It:=.B b3 60 [.int .i64 0,.slice none 0 0]
 refine bb hr fun y1 hy1 hr=>?_
 refine (CA ok50 (q9r hy1 ⟨_,_,rfl,(rs H 3),(rs H 4)⟩ ⟨_,_,_,rfl,hS1,hS2,(rs H 5),(rs H 6),(rs H 7)⟩)) ?_
 rintro _ w4 hE ⟨A6,n6,c6,rfl,H'⟩
 let d8:It:=.O 122 y1 (.slice A6 n6 c6)
 have H:=H.callA H' tv
 refine (A) (Z (Y (R ((V) ((NI H 2) fun hl1=>(D 2) ((L H 1) ((NI H 5) fun hl2=>(B) ?_)))))))
 refine bb hr fun q1 hm1 hr=>?_
 refine cu H 5 [(2,.slice A2' n2' c2'),(3,pB b1),(4,pB b2),(6,pB b3),(26,.bool q1)] d4 [d16,.B b2 65 d1,d3,d8] ?_ fun σ w5 H=>?_
 ·refine jN hm1 (fun _ hm1=>?_) fun _ hm1=>?_
  ·exact OF hm1
  refine (G) ((V) ((G) ?_))
  have hl3:=(H.rO (i:=3) rfl).I
  exact (NN (ro H 3)) ((G) ((B) ((U) (Z (C1 hm1)))))
 refine Z (iB hr (fun _ hr=>?_) fun _ hr=>?_)
 ·refine R ?_
  refine q0b rfl rfl (Ev.build rfl pl60 ze60 rfl rfl rfl rfl) ((SB H 2) fun w6 H=>Z (CR ?_))
  have H:=H.nil (α:=Int) 3
  obtain rfl:=sm hr
  exact⟨_,resC rfl ag60 sz60 rfl rfl (ab H 2) rfl,H.ext0,_,_,_,rfl,dI,H.outM (fr':=[]) [false,false,false,false,true] tw⟩
 refine K (R ((LB H 0) ((LB H 1) ?_)))
 refine bb hr fun y2 hy2 hr=>?_
 refine (CA ok51 (z6G hy2 ⟨_,_,rfl,(rs H 3),(rs H 4)⟩ ⟨_,_,_,rfl,hS1,hS2,(rs H 5),(rs H 6),(rs H 7)⟩)) ?_
 rintro _ w7 hE ⟨A7,n7,c7,rfl,hI1,H'⟩
 have H:=H.callA H' tv
 refine (AH ze60 H) fun b4 w8 H=>(SB H 5) fun w9 H=>Z (Y (R ((AZ) ?_)))
 refine bb hr fun q2 hq1 hr=>?_
 refine (lF hq1 (fun k1 ⟨s2,s3⟩ v1=>[(2,.slice A2' n2' c2'),(3,pB b1),(4,pB b2),(6,pB b3),(8,pB b4),(9,zN k1)]) (fun ⟨s2,s3⟩ v1 w=>I64 s3∧HL F0 [] w0 w d4 [d16,.B b2 65 d1,d3,d8,.O 3 s2 v1,.B b4 60 [.int .i64 s3,v1]]) (.slice A7 n7 c7)) ?_
 rintro k1 ⟨s2,s3⟩ v1 σ w10 hk1 hq1 ⟨hI2,H⟩
 obtain⟨A8,n8,c8,rfl⟩:=(fo H 4)
 refine Y (R ((V) ((V) ((NN (rs H 2)) ((BZ) ?_)))))
 refine (iF hq1 hr (fun hk2 x1 z1 hx1 hb1 hs1 ht1=>?_) fun hr=>?_)
 ·refine K (Y ?_)
  refine Bk (R ((LB H 0) ((LB H 1) ((V) ((AN hk2 hl1) ?_)))))
  refine bb hb1 fun y3 hy3 hb1=>?_
  refine (CA ok52 (z5h hy3 ⟨_,_,rfl,(rs H 3),(rs H 4)⟩ ⟨_,_,_,rfl,hS1,hS2,(rs H 5),(rs H 6),(rs H 7)⟩ (z2m hk2 hl1.2))) ?_
  rintro _ w11 hE ⟨A9,n9,c9,rfl,H'⟩
  let d15:It:=.O 3 y3 (.slice A9 n9 c9)
  let d12:List It:=[d16,.B b2 65 d1,d3,d8,.O 3 s2 (.slice A8 n8 c8),.B b4 60 [.int .i64 s3,.slice A8 n8 c8],d15]
  have H:=H.callA H' tv
  refine (A) (Z (Y (R ((V) ((V) ?_)))))
  obtain⟨b5,ob5,cb5,A10,n10,c10,hvb5,hI3,H⟩:=z3I H 2 hx1
  let d14:Pr:=.S x1.Rows (.slice A10 n10 c10)
  let d5:=q2D x1 A10 n10 c10
  refine (J 2 hvb5 hx1) ((LA H 8) ?_)
  refine bb hb1 fun y4 hy4 hb1=>?_
  refine (CA ok47 (q4x hy4 ⟨_,rfl,hI3,(rs H 10)⟩)) (cE H fun w12 H=>(N) (jM hb1 (fun _ hb1=>?_) fun _ hb1=>?_))
  ·refine (O) ((O) ((O) ((O) ((O) ((O) ((O) ((O) ((T) (Z ((cT) (R ?_)))))))))))
   refine q0b rfl rfl (Ev.build rfl pl60 ze60 rfl rfl rfl rfl) ((SB H 2) fun w13 H=>Z (CR ?_))
   have H:=H.nil (α:=Int) 3
   obtain rfl:=sm hb1
   obtain rfl:=ht1 _ rfl
   obtain rfl:=sm hr
   exact⟨_,resC rfl ag60 sz60 rfl rfl (ab H 2) rfl,H.ext0,_,_,_,rfl,dI,H.outM (fr':=[]) [false,false,false,false,false,false,false,true] tw⟩
  refine (G) ((V) ((G) ((V) ((G) ((J 2 hvb5 hx1) ((G) ((D 0) ((G) ((LC H 8) ((G) ((V) ((G) ?_))))))))))))
  have hl4:=(H.rO (i:=6) rfl).I
  refine (NN (ro H 6)) ((G) ((B) ((U) (Z (iN hb1 (fun _ hb1=>?_) fun _ hb1=>?_)))))
  ·refine Y ?_
   refine q0e [(6,pB b3)] ⟨rfl,trivial⟩ fun σ=>?_
   have H:HL F0 [] w0 w12 [.R a0 d2,.R a1 d1,d13,d9,d10,d11,d7,d6,.A b5 (ob5+k1*2) d5,.R x1 d5,d14] d12:=H
   refine X ?_
   refine q0b rfl rfl (Ev.build rfl pl60 ze60 rfl rfl rfl rfl) ((SB H 2) fun w14 H=>Z (CR ?_))
   have H:=H.nil (α:=Int) 3
   obtain rfl:=sm hb1
   obtain rfl:=ht1 _ rfl
   obtain rfl:=sm hr
   exact⟨_,resC rfl ag60 sz60 rfl rfl (ab H 2) rfl,H.ext0,_,_,_,rfl,dI,H.outM (fr':=[]) [false,false,false,false,false,false,false,true] tw⟩
  refine K (Y ?_)
  refine q0e [(2,.slice A2' n2' c2'),(3,pB b1),(4,pB b2),(6,pB b3),(8,pB b4),(9,zN k1),(10,.slice A9 n9 c9),(49,.slice A2' n2' c2'),(50,zN k1),(51,.pointer (some ⟨b5,ob5+k1*2,none⟩)),(52,.pointer (some ⟨b5,ob5+k1*2+0,none⟩)),(53,.int .i64 x1.N),(54,.slice A9 n9 c9),(55,zN y3.length),(56,.bool (!(decide (x1.N=(y3.length:Int)))))] ⟨rfl,rfl,rfl,rfl,rfl,rfl,rfl,rfl,rfl,rfl,rfl,rfl,rfl,rfl,rfl,trivial⟩ fun σ=>?_
  have H:HL F0 [] w0 w12 [.R a0 d2,.R a1 d1,d13,d9,d10,d11,d7,d6,.A b5 (ob5+k1*2) d5,.R x1 d5,d14] d12:=H
  refine X ((AZ) ?_)
  refine bb hb1 fun q3 hq2 hb1=>?_
  refine (lE hq2 (fun k2 ⟨s4,s5⟩ v2=>[(2,.slice A2' n2' c2'),(3,pB b1),(4,pB b2),(6,pB b3),(8,pB b4),(9,zN k1),(10,.slice A9 n9 c9),(11,zN k2),(49,.slice A2' n2' c2'),(50,zN k1),(51,.pointer (some ⟨b5,ob5+k1*2,none⟩)),(52,.pointer (some ⟨b5,ob5+k1*2+0,none⟩)),(53,.int .i64 x1.N),(54,.slice A9 n9 c9),(55,zN y3.length),(56,.bool (!(decide (x1.N=(y3.length:Int)))))]) (fun ⟨s4,s5⟩ v2 w=>I64 s5∧HL F0 [] w0 w [.R a0 d2,.R a1 d1,d13,d9,d10,d11,d7,d6,.A b5 (ob5+k1*2) d5,.R x1 d5,d14] [d16,.B b2 65 d1,d3,d8,.O 3 s4 v2,.B b4 60 [.int .i64 s5,v2],d15]) (.slice A8 n8 c8)) ?_
  rintro k2 ⟨s4,s5⟩ v2 σ w15 hk3 hq2 ⟨hI4,H⟩
  obtain⟨A11,n11,c11,rfl⟩:=(fo H 4)
  refine Y (R ((V) ((V) ((NN (ro H 6)) ((BZ) ?_)))))
  refine (iE hq2 (fun hk4 x2 z2 hx2 hb2 hq2=>?_) fun e=>?_)
  ·refine K (Y ?_)
   refine Bk (R ((AZ) ?_))
   refine bb hb2 fun q4 hq3 hb2=>?_
   refine (lE hq3 (fun k3 ⟨s6,s7⟩ v3=>[(2,.slice A2' n2' c2'),(3,pB b1),(4,pB b2),(6,pB b3),(8,pB b4),(9,zN k1),(10,.slice A9 n9 c9),(11,zN k2),(12,zN k3),(49,.slice A2' n2' c2'),(50,zN k1),(51,.pointer (some ⟨b5,ob5+k1*2,none⟩)),(52,.pointer (some ⟨b5,ob5+k1*2+0,none⟩)),(53,.int .i64 x1.N),(54,.slice A9 n9 c9),(55,zN y3.length),(56,.bool (!(decide (x1.N=(y3.length:Int)))))]) (fun ⟨s6,s7⟩ v3 w=>I64 s7∧HL F0 [] w0 w [.R a0 d2,.R a1 d1,d13,d9,d10,d11,d7,d6,.A b5 (ob5+k1*2) d5,.R x1 d5,d14] [d16,.B b2 65 d1,d3,d8,.O 3 s6 v3,.B b4 60 [.int .i64 s7,v3],d15]) (.slice A11 n11 c11)) ?_
   rintro k3 ⟨s6,s7⟩ v3 σ w16 hk5 hq3 ⟨hI5,H⟩
   obtain⟨A12,n12,c12,rfl⟩:=(fo H 4)
   refine Y (R ((V) ((V) ((NN (ro H 6)) ((BZ) ?_)))))
   refine (iE hq3 (fun hk6 x3 z3 hx3 hb3 hq3=>?_) fun e=>?_)
   ·refine K ?_
    refine bb hb3 fun q5 hm2 hb3=>Y ?_
    refine q0o (fun ρ' w=>∃ (s8:List Int) (s9:Int) (v4:Value),q5=(s8,s9)∧q4z ρ' [(2,.slice A2' n2' c2'),(3,pB b1),(4,pB b2),(6,pB b3),(8,pB b4),(9,zN k1),(10,.slice A9 n9 c9),(11,zN k2),(12,zN k3),(49,.slice A2' n2' c2'),(50,zN k1),(51,.pointer (some ⟨b5,ob5+k1*2,none⟩)),(52,.pointer (some ⟨b5,ob5+k1*2+0,none⟩)),(53,.int .i64 x1.N),(54,.slice A9 n9 c9),(55,zN y3.length),(56,.bool (!(decide (x1.N=(y3.length:Int)))))]∧I64 s9∧HL F0 [] w0 w [.R a0 d2,.R a1 d1,d13,d9,d10,d11,d7,d6,.A b5 (ob5+k1*2) d5,.R x1 d5,d14] [d16,.B b2 65 d1,d3,d8,.O 3 s8 v4,.B b4 60 [.int .i64 s9,v4],d15]) ?_ ?_
    ·refine Bk (R ((V) ((V) ((J 2 hvb5 hx1) ((LA H 8) ((V) ((V) ?_)))))))
     refine bb hm2 fun y5 hy5 hm2=>?_
     refine (CA ok49 (z5i hy5 ⟨_,rfl,hI3,(rs H 10)⟩ (q5v hk4 hl4) (q5v hk6 hl4))) (cE H fun w17 H=>Z (iB hm2 (fun _ hm2=>?_) fun _ hm2=>?_))
     ·refine q0t 9 hmix (by kernel_rfl) ?_
      refine (qLB H 5) ((qV) ((qV) ?_))
      obtain⟨b6,cb6,hvb6,hbb6⟩:=po H 6 hx2
      refine (qJ 1 hvb6 hx2) ?_
      obtain⟨hA1,hI7,H⟩:=q5f H 6 hx2 hbb6
      refine q0k rfl rfl (fun _ hq=>q0l rfl ag3 rfl ((hA1.ext hq).cell0 rfl)) ?_
      refine (qV) ((qV) ?_)
      obtain⟨b7,cb7,hvb7,hbb7⟩:=po H 6 hx3
      refine (qJ 1 hvb7 hx3) ?_
      obtain⟨hA2,hI8,H⟩:=q5f H 6 hx3 hbb7
      refine q0k rfl rfl (fun _ hq=>q0l rfl ag3 rfl ((hA2.ext hq).cell0 rfl)) (QL.nil (fun w18 hE=>?_))
      have H:=H.ext hE
      refine bb hm2 fun y6 hy6 hm2=>?_
      refine (CA ok53 (z5g hy6 ⟨_,rfl,hI5,(ro H 4)⟩ hI7 hI8)) ?_
      rintro _ w19 hE ⟨A13,n13,c13,rfl,hI9,H'⟩
      have H:=H.callA H' tv
      refine (SB H 5) fun w20 H=>Z ?_
      have H:=H.swap 4 7
      exact C1 hm2
     exact K (C1 hm2)
    rintro ρ' w21 ⟨s8,s9,v4,rfl,hag,hI6,H⟩
    obtain⟨σ,rfl⟩:=q4g hag
    obtain⟨A14,n14,c14,rfl⟩:=(fo H 4)
    exact X ((V) ((AN hk6 hl4) ((A) (Z (I1 hb3 ⟨k3+1,⟨s8,s9⟩,(.slice A14 n14 c14)⟩)))))
   obtain rfl:=e
   exact CE (X ((V) ((AN hk4 hl4) ((A) (Z (I1 hb2 ⟨k2+1,⟨s6,s7⟩,(.slice A12 n12 c12)⟩))))))
  obtain rfl:=e
  exact CE (X ((V) ((AN hk2 hl1) ((A) (Z (I2 hb1 hs1 ⟨k1+1,⟨s4,s5⟩,(.slice A11 n11 c11)⟩))))))
 refine CE (R ((LB H 5) ?_))
 refine bb hr fun y7 hy7 hr=>?_
 refine (CA ok48 (z2u hy7 ⟨_,rfl,hI2,(ro H 4)⟩)) ?_
 rintro _ w22 hE ⟨A15,n15,c15,rfl,hI10,H'⟩
 have H:=H.callA H' tv
 refine (SB H 2) fun w23 H=>Z (CR ?_)
 obtain rfl:=sm hr
 exact⟨_,resC rfl ag60 sz60 rfl rfl (ab H 2) rfl,H.ext0,_,_,_,rfl,hI10,H.outM (fr':=[]) [false,false,false,false,false,false,true] tw⟩
def z1Z (a0:Grammar)(a2:(List Relation)):Nat→ByteArray→(List Relation)→Option (List Relation):=fun k1 x1 s1=>(z2Y a0 x1).bind fun y1=>(z0w 0 y1).bind fun y2=>grd (0≤y2) <| (a2[y2.toNat]?).bind fun x2=>grd (((s1.length:Int)+1)*32≤140737488355328∧(s1.length:Int)+1≤9223372036854775807) <| some (s1++[x2])
def q8N (a0:Grammar)(a1:Rule)(a2:(List Relation)):Option (List Relation):=(q2G (z1Z a0 a2) 0 a1.Right ([]:List Relation)).bind fun s1=>some s1
theorem q7e {a0}{a1}{a2 r}(hr:q8N a0 a1 a2=some r){Aa0_0:Option Addr}{na0_0 ca0_0:Nat}{Aa0_1:Option Addr}{na0_1 ca0_1:Nat}{Aa1_2:Option Addr}{na1_2 ca1_2:Nat}{Aa1_4:Option Addr}{na1_4 ca1_4:Nat}{Aa1_5:Option Addr}{na1_5 ca1_5:Nat}{Aa2:Option Addr}{na2 ca2:Nat}(hIa1_0:a1.Name.size≤9223372036854775807)(hIa1_1:a1.Left.size≤9223372036854775807)(H:HL F0 M w0 w0 [.S a0.Symbols (.slice Aa0_0 na0_0 ca0_0),.S a0.Rules (.slice Aa0_1 na0_1 ca0_1),.S a1.Right (.slice Aa1_2 na1_2 ca1_2),.S a1.Equations (.slice Aa1_4 na1_4 ca1_4),.S a1.Contributions (.slice Aa1_5 na1_5 ca1_5)] [.G 60 a2 (.slice Aa2 na2 ca2)]):RM 25 #[.agg #[.slice Aa0_0 na0_0 ca0_0,.slice Aa0_1 na0_1 ca0_1],.agg #[.string a1.Name,.string a1.Left,.slice Aa1_2 na1_2 ca1_2,.bool a1.Literal,.slice Aa1_4 na1_4 ca1_4,.slice Aa1_5 na1_5 ca1_5],.slice Aa2 na2 ca2] M w0 fun v w=>∃ A0 n0 c0,v=(.slice A0 n0 c0)∧HL F0 M w0 w [] [.G 60 a2 (.slice Aa2 na2 ca2),.G 60 r (.slice A0 n0 c0)]:=by
 let d6:It:=.G 60 a2 (.slice Aa2 na2 ca2)
 let d5:Pr:=.S a0.Symbols (.slice Aa0_0 na0_0 ca0_0)
 let d4:Pr:=.S a1.Equations (.slice Aa1_4 na1_4 ca1_4)
 let d3:Pr:=.S a1.Contributions (.slice Aa1_5 na1_5 ca1_5)
 refine (En Tryz.func25) ?_
 refine R ((BX H) fun b1 w1 H=>(BX H) fun b2 w2 H=>(AZ) (R ?_))
 let d2:It:=.B b1 31 [.slice Aa0_0 na0_0 ca0_0,.slice Aa0_1 na0_1 ca0_1]
 let d1:It:=.B b2 65 (q3C a1 Aa1_2 na1_2 ca1_2 Aa1_4 na1_4 ca1_4 Aa1_5 na1_5 ca1_5)
 refine q0h (α:=Relation) rfl rfl rfl el54 sz60 H fun A1 n1 c1 w3 H=>?_
 have H:=H.toG (i:=3) rfl
 refine (A) (Z (Y (R ((AZ) ?_))))
 refine bb hr fun q1 hq1 hr=>?_
 refine Bk (CW.loop (α:=Nat × (List Relation) × Value) (fun ⟨k1,s1,v1⟩=>[(2,.slice Aa2 na2 ca2),(3,pB b1),(4,pB b2),(7,v1),(8,zN k1)]) (fun ⟨k1,s1,v1⟩ w=>k1≤a1.Right.length∧q2G (z1Z a0 a2) k1 (a1.Right.drop k1) s1=some q1∧HL F0 M w0 w [d5,.S a0.Rules (.slice Aa0_1 na0_1 ca0_1),.S a1.Right (.slice Aa1_2 na1_2 ca1_2),d4,d3] [d6,d2,d1,.G 60 s1 v1]) (fun ⟨k1,s1,v1⟩=>a1.Right.length - k1) ⟨0,([]:List Relation),(.slice A1 n1 c1)⟩ ⟨rfl,rfl,rfl,rfl,rfl,trivial⟩ ⟨Nat.zero_le _,hq1,H.keep 5 4⟩ ?_)
 rintro⟨k1,s1,v1⟩ σ w4 ⟨hk1,hq1,H⟩
 obtain⟨A2,n2,c2,rfl⟩:=(H.rG (i:=3) rfl).form3
 refine Y (R ((V) ((D 2) ((L H 2) ((NI H 2) fun hl1=>(BZ) ?_)))))
 refine (iE hq1 (fun hk2 x1 z1 hx1 hb1 hq1=>?_) fun e=>?_)
 ·refine K ?_
  obtain⟨b3,ob3,cb3,hvb3,hS1,H⟩:=q8q H 2 hx1
  refine Y ?_
  refine CW.block ?_
  refine q0A (fun w=>∃ o3_:It,HL F0 M w0 w [d5,.S a0.Rules (.slice Aa0_1 na0_1 ca0_1),.S a1.Right (.slice Aa1_2 na1_2 ca1_2),d4,d3,.A b3 (ob3+k1*1) [.string x1],.R x1 [.string x1]] [d6,d2,d1,o3_]) hmix (fun w5 hE=>?_)
  have H:HL F0 M w0 w5 [d5,.S a0.Rules (.slice Aa0_1 na0_1 ca0_1),.S a1.Right (.slice Aa1_2 na1_2 ca1_2),d4,d3,.A b3 (ob3+k1*1) [.string x1],.R x1 [.string x1]] [d6,d2,d1,.G 60 s1 (.slice A2 n2 c2)]:=H.ext hE
  refine HW.take 0 ⟨_,H.keep 7 4⟩ rfl (by kernel_rfl) rfl rfl (fun _ _=>q0r rfl rfl) ?_
  refine HW.take 1 ⟨_,H.keep 7 4⟩ rfl (by kernel_rfl) rfl rfl (fun _ _=>q0r rfl rfl) ?_
  refine HW.take 2 ⟨_,H.keep 7 4⟩ rfl (by kernel_rfl) rfl rfl (fun _ ⟨_,hq⟩=>q0c rfl ag31 sz31 rfl (At.blk (hq.rB (i:=1) rfl)) rfl) ?_
  refine HW.take 3 ⟨_,H.keep 7 4⟩ rfl (by kernel_rfl) rfl rfl (fun _ _=>q0v rfl j9h rfl) ?_
  refine HW.take 4 ⟨_,H.keep 7 4⟩ rfl (by kernel_rfl) rfl rfl (fun _ ⟨_,hq⟩=>q0l rfl ag37 rfl ((hq.rB (i:=2) rfl).cell rfl)) ?_
  refine HW.take 5 ⟨_,H.keep 7 4⟩ rfl (by kernel_rfl) rfl rfl (fun _ _=>q0r rfl rfl) ?_
  refine HW.take 6 ⟨_,H.keep 7 4⟩ rfl (by kernel_rfl) rfl rfl (fun _ _=>q0U rfl el37 sz9 rfl hvb3 rfl (q4X hx1)) ?_
  refine HW.take 7 ⟨_,H.keep 7 4⟩ rfl (by kernel_rfl) rfl rfl (fun _ ⟨_,hq⟩=>q0l rfl ag9 rfl ((hq.rA (i:=5) rfl).cell0 rfl)) ?_
  refine q0f 8 rfl (by kernel_rfl) ?_
  refine bb hb1 fun y1 hy1 hb1=>?_
  refine (CA ok43 (z3M hy1 ⟨_,_,rfl,(rs H 0),(rs H 1)⟩ hS1)) (cF' H fun w6 hI1 H=>?_)
  refine q0a ⟨_,H.keep 7 4⟩ ?_
  refine q0f 9 rfl (by kernel_rfl) ?_
  refine bb hb1 fun y2 hy2 hb1=>?_
  refine (CA ok54 (z5T hy2 (F0:=nF) dI hI1)) (cF' H fun w7 hI2 H=>?_)
  refine q0a ⟨_,H.keep 7 4⟩ ?_
  refine gg hb1 fun hg1 hb1=>?_
  refine bb hb1 fun x2 hx2 hb1=>?_
  obtain⟨b4,cb4,hvb4,hbb4⟩:=H.ptG (i:=0) rfl hx2
  refine HW.take 10 ⟨_,H.keep 7 4⟩ rfl (by kernel_rfl) rfl rfl (fun _ _=>q0p rfl el54 sz60 rfl hvb4 rfl hg1 (q4X hx2)) ?_
  refine q0f 11 rfl (by kernel_rfl) ?_
  obtain⟨A3,n3,c3,hA1,hI3,H⟩:=q3o H (i:=0) rfl hx2 hbb4
  refine q0b rfl rfl (q0c rfl ag60 sz60 rfl hA1 rfl) ?_
  refine q0a ⟨_,H.keep 7 4⟩ ?_
  refine q0f 12 rfl (by kernel_rfl) ?_
  refine q0n rfl rfl rfl el54 sz60 ze60 rfl rfl rfl rfl rfl rfl fun b5 w8 hE hb hB=>?_
  have H:=H.newB hE hb hB
  refine q0a ⟨_,H.keep 7 4⟩ ?_
  refine q0f 13 rfl (by kernel_rfl) ?_
  refine gg hb1 fun hg2 hb1=>?_
  refine q0M (i:=3) (ys:=[x2]) rfl rfl rfl el54 sz60 by60 ze60 rfl rfl rfl H rfl (fun F hF=>rdL.single ⟨_,rfl,hI3,(hF.get (i:=8) rfl)⟩) (.inr ⟨_,_,rfl,At.blk (rb H 4)⟩) hg2 fun A4 n4 c4 w9 H=>?_
  refine q0a ⟨_,H.keep 7 4⟩ ?_
  refine HW.take 14 ⟨_,H.keep 7 4⟩ rfl (by kernel_rfl) rfl rfl (fun _ _=>q0Z rfl rfl) ?_
  refine q0i (by kernel_rfl) (X ((V) ((AN hk2 hl1) ((AZ) ?_))))
  obtain rfl:=sm hb1
  exact⟨⟨k1+1,(s1++[x2]),(.slice A4 n4 c4)⟩,⟨rfl,rfl,rfl,rfl,rfl,trivial⟩,⟨hk2,hq1,H.keep 5 4⟩,Nat.sub_lt_sub_left hk2 (Nat.lt_succ_self _)⟩
 obtain rfl:=e
 refine CE (R ((V) ((AZ) (CR ?_))))
 obtain rfl:=sm hr
 exact⟨_,res1 rfl rfl rfl,H.chg,_,_,_,rfl,H.outM (fr':=[]) [true,false,false,true] tw⟩
def z0D (a2:Relation)(k1:Nat)(x1:Attribute):Nat→Attribute→((List Int) × Int)→Option ((List Int) × Int):=fun k2 x2 (s3,s4)=>( ( if x1.Mode=1 then some (decide (x2.Mode=2)) else some false ).bind fun s7=>( if s7=true then (q8y a2 (k1:Int) (k2:Int)).bind fun y3=>some y3 else some false ).bind fun s8=>if s8=true then (q5U (⟨s4,s3⟩:Relation) (k1:Int) (k2:Int)).bind fun y4=>some (y4.Rows,y4.N) else some (s3,s4) ).bind fun (s5,s6)=>some (s5,s6)
def z2Z (a2:Relation)(y1:(List Attribute)):Nat→Attribute→((List Int) × Int)→Option ((List Int) × Int):=fun k1 x1 (s1,s2)=>(q2G (z0D a2 k1 x1) 0 y1 (s1,s2)).bind fun (s3,s4)=>some (s3,s4)
def q8z (a0:Grammar)(a1:Rule)(a2:Relation):Option Relation:=(q4l a0 a1.Left).bind fun y1=>(q3p (y1.length:Int)).bind fun y2=>(q2G (z2Z a2 y1) 0 y1 (y2.Rows,y2.N)).bind fun (s1,s2)=>some (⟨s2,s1⟩:Relation)
theorem q2V {a0}{a1}{a2 r}(hr:q8z a0 a1 a2=some r){ca0}(ha0:rd F0 w0 a0 ca0){ca1}(ha1:rd F0 w0 a1 ca1){ca2}(ha2:rd F0 w0 a2 ca2):RT 45 #[ag ca0,ag ca1,ag ca2] w0 fun v w=>∃ A0 n0 c0,v = .agg #[.int .i64 r.N,(.slice A0 n0 c0)]∧I64 r.N∧HL F0 [] w0 w [] [.O 3 r.Rows (.slice A0 n0 c0)]:=by
 have H:=(((HL.start F0 w0).argR ha0).argR ha1).argR ha2
 obtain⟨A1,n1,c1,A2,n2,c2,rfl,H⟩:=q2C H 0
 let d5:List Value:=[.slice A1 n1 c1,.slice A2 n2 c2]
 obtain⟨A3,n3,c3,A4,n4,c4,A5,n5,c5,rfl,hS1,hS2,H⟩:=q2U H 1
 let d9:Pr:=.S a1.Contributions (.slice A5 n5 c5)
 let d4:=q3C a1 A3 n3 c3 A4 n4 c4 A5 n5 c5
 obtain⟨A6,n6,c6,rfl,hI1,H⟩:=q2O H 2
 let d7:=q2D a2 A6 n6 c6
 let d1:List Pr:=[.R a0 d5,.R a1 d4,.R a2 d7,.S a0.Symbols (.slice A1 n1 c1),.S a0.Rules (.slice A2 n2 c2),.S a1.Right (.slice A3 n3 c3),.S a1.Equations (.slice A4 n4 c4),d9,.S a2.Rows (.slice A6 n6 c6)]
 refine (En Tryz.func45) ?_
 refine R ((BX H) fun b1 w1 H=>(BX H) fun b2 w2 H=>(BX H) fun b3 w3 H=>(AH ze60 H) fun b4 w4 H=>Z (R ((LB H 0) ((D 1) ((L H 1) ?_)))))
 let d6:It:=.B b4 60 [.int .i64 0,.slice none 0 0]
 refine bb hr fun y1 hy1 hr=>?_
 refine (CA ok42 (q8s hy1 ⟨_,_,rfl,(rs H 3),(rs H 4)⟩ hS2)) ?_
 rintro _ w5 hE ⟨A7,n7,c7,rfl,H'⟩
 let d8:It:=.O 120 y1 (.slice A7 n7 c7)
 have H:=H.callA H' tv
 refine (A) (Z (R ((V) ?_)))
 have hl1:=(H.rO (i:=4) rfl).I
 refine (NN (ro H 4)) ?_
 refine bb hr fun y2 hy2 hr=>?_
 refine (CA ok41 (q9q hy2 (F0:=nF) hl1)) ?_
 rintro _ w6 hE ⟨A8,n8,c8,rfl,hI2,H'⟩
 have H:=H.callA H' tv
 refine (AH ze60 H) fun b5 w7 H=>(SB H 6) fun w8 H=>Z (Y (R ((AZ) ?_)))
 refine bb hr fun q1 hq1 hr=>?_
 refine (lE hq1 (fun k1 ⟨s1,s2⟩ v1=>[(5,pB b3),(6,pB b4),(7,.slice A7 n7 c7),(8,pB b5),(9,zN k1)]) (fun ⟨s1,s2⟩ v1 w=>I64 s2∧HL F0 [] w0 w d1 [.B b1 31 d5,.B b2 65 d4,.B b3 60 d7,d6,d8,.O 3 s1 v1,.B b5 60 [.int .i64 s2,v1]]) (.slice A8 n8 c8)) ?_
 rintro k1 ⟨s1,s2⟩ v1 σ w9 hk1 hq1 ⟨hI3,H⟩
 obtain⟨A9,n9,c9,rfl⟩:=(fo H 5)
 refine Y (R ((V) ((V) ((NN (ro H 4)) ((BZ) ?_)))))
 refine (iE hq1 (fun hk2 x1 z1 hx1 hb1 hq1=>?_) fun e=>?_)
 ·let d2:List Pr:=[.R a0 d5,.R a1 d4,.R a2 d7,.S a0.Symbols (.slice A1 n1 c1),.S a0.Rules (.slice A2 n2 c2),.S a1.Right (.slice A3 n3 c3),.S a1.Equations (.slice A4 n4 c4),d9,.S a2.Rows (.slice A6 n6 c6),.R x1 (q3k x1)]
  refine K (Y ?_)
  refine Bk (R ((AZ) ?_))
  refine bb hb1 fun q2 hq2 hb1=>?_
  refine (lE hq2 (fun k2 ⟨s3,s4⟩ v2=>[(5,pB b3),(6,pB b4),(7,.slice A7 n7 c7),(8,pB b5),(9,zN k1),(10,zN k2)]) (fun ⟨s3,s4⟩ v2 w=>I64 s4∧HL F0 [] w0 w d1 [.B b1 31 d5,.B b2 65 d4,.B b3 60 d7,d6,d8,.O 3 s3 v2,.B b5 60 [.int .i64 s4,v2]]) (.slice A9 n9 c9)) ?_
  rintro k2 ⟨s3,s4⟩ v2 σ w10 hk3 hq2 ⟨hI4,H⟩
  obtain⟨A10,n10,c10,rfl⟩:=(fo H 5)
  let d3:List It:=[.B b1 31 d5,.B b2 65 d4,.B b3 60 d7,d6,d8,.O 3 s3 (.slice A10 n10 c10),.B b5 60 [.int .i64 s4,.slice A10 n10 c10]]
  refine Y (R ((V) ((V) ((NN (ro H 4)) ((BZ) ?_)))))
  refine (iE hq2 (fun hk4 x2 z2 hx2 hb2 hq2=>?_) fun e=>?_)
  ·refine K ?_
   refine bb hb2 fun q3 hm1 hb2=>Y ?_
   refine q0o (fun ρ' w=>∃ (s5:List Int) (s6:Int) (v3:Value),q3=(s5,s6)∧q4z ρ' [(5,pB b3),(6,pB b4),(7,.slice A7 n7 c7),(8,pB b5),(9,zN k1),(10,zN k2)]∧I64 s6∧HL F0 [] w0 w d1 [.B b1 31 d5,.B b2 65 d4,.B b3 60 d7,d6,d8,.O 3 s5 v3,.B b5 60 [.int .i64 s6,v3]]) ?_ ?_
   ·refine Bk (R ((V) ((V) ?_)))
    obtain⟨b6,cb6,hvb6,hbb6⟩:=po H 4 hx1
    refine (J 4 hvb6 hx1) ((D 2) ?_)
    obtain⟨hA1,hS3,hI6,hI7,H⟩:=q3O H 4 hx1 hbb6
    refine (LT hA1) ((B) ?_)
    refine bb hm1 fun q4 hm2 hm1=>?_
    refine cu H 8 [(5,pB b3),(6,pB b4),(7,.slice A7 n7 c7),(8,pB b5),(9,zN k1),(10,zN k2),(43,.bool q4)] d2 d3 ?_ fun σ w11 H=>?_
    ·refine jD hm2 (fun _ hm2=>?_) fun _ hm2=>?_
     ·refine (G) ((V) ((G) ((V) ((G) ?_))))
      obtain⟨b7,cb7,hvb7,hbb7⟩:=po H 4 hx2
      refine (J 4 hvb7 hx2) ((G) ((D 2) ((G) ?_)))
      obtain⟨hA2,hS4,hI8,hI9,H⟩:=q3O H 4 hx2 hbb7
      exact (LT hA2) ((G) ((B) ((T) (Z (C1 hm2)))))
     exact OF hm2
    refine bb hm1 fun q5 hm3 hm1=>?_
    refine cu H 6 [(5,pB b3),(6,pB b4),(7,.slice A7 n7 c7),(8,pB b5),(9,zN k1),(10,zN k2),(49,.bool q5)] d2 d3 ?_ fun σ w13 H=>?_
    ·refine jB hm3 (fun _ hm3=>?_) fun _ hm3=>?_
     ·refine (G) ((LB H 2) ((G) ((V) ((G) ((V) ((G) ?_))))))
      refine bb hm3 fun y3 hy3 hm3=>?_
      exact (CA ok49 (z5i hy3 ⟨_,rfl,hI1,(rs H 8)⟩ (q5v hk2 hl1) (q5v hk4 hl1))) (cE H fun w12 H=>(T) (Z (C1 hm3)))
     exact OF hm3
    refine Z (iB hm1 (fun _ hm1=>?_) fun _ hm1=>?_)
    ·refine X ((LB H 6) ((V) ((V) ?_)))
     refine bb hm1 fun y4 hy4 hm1=>?_
     refine (CA ok53 (z5g hy4 ⟨_,rfl,hI4,(ro H 5)⟩ (q5v hk2 hl1) (q5v hk4 hl1))) ?_
     rintro _ w14 hE ⟨A11,n11,c11,rfl,hI10,H'⟩
     have H:=H.callA H' tv
     refine (SB H 6) fun w15 H=>Z ?_
     have H:=H.swap 5 7
     exact C1 hm1
    exact K (C1 hm1)
   rintro ρ' w16 ⟨s5,s6,v3,rfl,hag,hI5,H⟩
   obtain⟨σ,rfl⟩:=q4g hag
   obtain⟨A12,n12,c12,rfl⟩:=(fo H 5)
   exact X ((V) ((AN hk4 hl1) ((A) (Z (I1 hb2 ⟨k2+1,⟨s5,s6⟩,(.slice A12 n12 c12)⟩)))))
  obtain rfl:=e
  exact CE (X ((V) ((AN hk2 hl1) ((A) (Z (I1 hb1 ⟨k1+1,⟨s3,s4⟩,(.slice A10 n10 c10)⟩))))))
 obtain rfl:=e
 refine CE (R ((LB H 6) ((SB H 3) fun w17 H=>Z (CR ?_))))
 obtain rfl:=sm hr
 exact⟨_,resC rfl ag60 sz60 rfl rfl (ab H 3) rfl,H.ext0,_,_,_,rfl,hI3,H.outM (fr':=[]) [false,false,false,false,false,true,false] tw⟩
def q5F (a1:Relation):Nat→(List Int)→Option (List Int):=fun k1 s3=>(s3[k1]?).bind fun x1=>(a1.Rows[k1]?).bind fun x2=>grd (0≤x1∧0≤x2) <| some (List.set s3 k1 ((x1.toNat ||| x2.toNat:Nat):Int))
def q8i (a0 a1:Relation):Option Relation:=(q7J a0).bind fun y1=>(q3w a0).bind fun y2=>( if y2=true then (q3w a1).bind fun y3=>some (!y3) else some true ).bind fun s1=>( if s1=true then some true else some (!(decide (a0.N=a1.N))) ).bind fun s2=>if s2=true then some y1 else (q7u (q5F a1) 0 (a0.N.toNat) y1.Rows).bind fun s3=>some (⟨y1.N,s3⟩:Relation)
theorem q2H {a0 a1 r}(hr:q8i a0 a1=some r){ca0}(ha0:rd F0 w0 a0 ca0){ca1}(ha1:rd F0 w0 a1 ca1):RT 44 #[ag ca0,ag ca1] w0 fun v w=>∃ A0 n0 c0,v = .agg #[.int .i64 r.N,(.slice A0 n0 c0)]∧I64 r.N∧HL F0 [] w0 w [] [.O 3 r.Rows (.slice A0 n0 c0)]:=by
 have H:=((HL.start F0 w0).argR ha0).argR ha1
 obtain⟨A1,n1,c1,rfl,hI1,H⟩:=q2O H 0
 let d3:=q2D a0 A1 n1 c1
 obtain⟨A2,n2,c2,rfl,hI2,H⟩:=q2O H 1
 let d4:=q2D a1 A2 n2 c2
 let d1:List Pr:=[.R a0 d3,.R a1 d4,.S a0.Rows (.slice A1 n1 c1),.S a1.Rows (.slice A2 n2 c2)]
 refine (En Tryz.func44) ?_
 refine R ((BX H) fun b1 w1 H=>(BX H) fun b2 w2 H=>(AH ze60 H) fun b3 w3 H=>Z (R ((LB H 0) ?_)))
 let d5:It:=.B b3 60 [.int .i64 0,.slice none 0 0]
 refine bb hr fun y1 hy1 hr=>?_
 refine (CA ok86 (z5f hy1 ⟨_,rfl,hI1,(rs H 2)⟩)) ?_
 rintro _ w4 hE ⟨A3,n3,c3,rfl,hI3,H'⟩
 have H:=H.callA H' tv
 refine (AH ze60 H) fun b4 w5 H=>(SB H 4) fun w6 H=>Z (Y (R ((LB H 0) ?_)))
 let d2:List It:=[.B b1 60 d3,.B b2 60 d4,d5,.O 3 y1.Rows (.slice A3 n3 c3),.B b4 60 (q2D y1 A3 n3 c3)]
 refine bb hr fun y2 hy2 hr=>?_
 refine (CA ok47 (q4x hy2 ⟨_,rfl,hI1,(rs H 2)⟩)) (cE H fun w7 H=>(N) ?_)
 refine bb hr fun q1 hm1 hr=>?_
 refine cu H 5 [(2,pB b1),(3,pB b2),(4,pB b3),(5,pB b4),(16,.bool q1)] d1 d2 ?_ fun σ w9 H=>?_
 ·refine jM hm1 (fun _ hm1=>?_) fun _ hm1=>?_
  ·exact OF hm1
  refine (G) ((LB H 1) ((G) ?_))
  refine bb hm1 fun y3 hy3 hm1=>?_
  exact (CA ok47 (q4x hy3 ⟨_,rfl,hI2,(rs H 3)⟩)) (cE H fun w8 H=>(G) ((N) ((U) (Z (C1 hm1)))))
 refine bb hr fun q2 hm2 hr=>?_
 refine cu H 7 [(2,pB b1),(3,pB b2),(4,pB b3),(5,pB b4),(23,.bool q2)] d1 d2 ?_ fun σ w10 H=>?_
 ·refine jB hm2 (fun _ hm2=>?_) fun _ hm2=>?_
  ·exact OF hm2
  exact (G) ((D 0) ((G) ((L H 0) ((G) ((D 0) ((G) ((L H 1) ((G) ((B) ((U) (Z (C1 hm2))))))))))))
 refine Z (iB hr (fun _ hr=>?_) fun _ hr=>?_)
 ·refine R ((LB H 4) ((SB H 2) fun w11 H=>Z (CR ?_)))
  obtain rfl:=sm hr
  exact⟨_,resC rfl ag60 sz60 rfl rfl (ab H 2) rfl,H.ext0,_,_,_,rfl,hI3,H.outM (fr':=[]) [false,false,false,true,false] tw⟩
 refine K (Y (R ((AZ) ?_)))
 refine bb hr fun q3 hq1 hr=>?_
 refine (lN hq1 (fun k1 s3 _=>[(2,pB b1),(3,pB b2),(4,pB b3),(5,pB b4),(6,zN k1)]) (fun s3 _ w=>HL F0 [] w0 w d1 [.B b1 60 d3,.B b2 60 d4,d5,.O 3 s3 (.slice A3 n3 c3),.B b4 60 (q2D y1 A3 n3 c3)]) ()) ?_
 rintro k1 s3 _ σ w12 hk1 hq1 H
 refine Y (R ((V) ((D 0) ((L H 0) ((BZ) ?_)))))
 refine q0d rfl (fun h4=>?_) (fun h4=>?_)
 ·have hk2:=z5M h4
  obtain⟨z1,hb1,hq1⟩:=z1I hq1 hk2
  refine K (Y ?_)
  refine CW.block ?_
  refine q0t 15 hmix (by kernel_rfl) ?_
  refine (qD 1) ((qL H 4) ((qV) ((qD 1) ((qL H 4) ((qV) ?_)))))
  refine bb hb1 fun x1 hx1 hb1=>?_
  obtain⟨b5,cb5,hvb5,hbb5⟩:=po H 3 hx1
  refine (qJ 1 hvb5 hx1) ?_
  obtain⟨hA1,hI4,H⟩:=q5f H 3 hx1 hbb5
  refine q0k rfl rfl (fun _ hq=>q0l rfl ag3 rfl ((hA1.ext hq).cell0 rfl)) ?_
  refine (qD 1) ((qL H 1) ((qV) ?_))
  refine bb hb1 fun x2 hx2 hb1=>?_
  obtain⟨b6,ob6,cb6,hvb6,hI5,H⟩:=z0k H 3 hx2
  refine (qJ 1 hvb6 hx2) ((qL0 H 5) ?_)
  refine gg hb1 fun hg1 hb1=>?_
  refine (qBN (q0T hg1.1 hI4.2 hg1.2 hI5.2)) ?_
  obtain⟨b7,cb7,hvb7,hbb7⟩:=po H 3 hx1
  refine (qJ 1 hvb7 hx1) ?_
  refine QL.nil (fun w13 hE=>?_)
  have H:=H.ext hE
  refine q0F (i:=3) (z:=((x1.toNat ||| x2.toNat:Nat):Int)) rfl rfl rfl sz3 rfl rfl rfl (fun _=>⟨rfl,rfl,(z9X hg1 hI4 hI5)⟩) H rfl hbb7 (by simpa using q4X hx1) fun w14 H=>?_
  exact Z (X ((V) ((BN (q0x (a:=k1) (b:=1) rfl (z2n h4 hI1.2))) ((A) (Z (I1 hb1 ⟨k1+1,(List.set s3 k1 ((x1.toNat ||| x2.toNat:Nat):Int)),()⟩))))))
 obtain rfl:=q9Y hq1 (q9Z h4)
 refine CE (R ((LB H 4) ((SB H 2) fun w15 H=>Z (CR ?_))))
 obtain rfl:=sm hr
 exact⟨_,resC rfl ag60 sz60 rfl rfl (ab H 2) rfl,H.ext0,_,_,_,rfl,hI3,H.outM (fr':=[]) [false,false,false,true,false] tw⟩
def j4Q (a1:(List Int)):Nat→Int→Unit→Option (Unit ⊕ Bool):=fun k1 x1 _=>(a1[k1]?).bind fun x2=>if x1=x2 then some (.inl ()) else some (.inr false)
def z8E (a0 a1:(List Int)):Option Bool:=if (a0.length:Int)=(a1.length:Int) then (q2I (j4Q a1) 0 a0 ()).bind <| onr (fun r1=>some r1) fun _=>some true else some false
theorem j4R {a0 a1}{r}(hr:z8E a0 a1=some r){z0}(ha0:rdS F0 w0 a0 z0){z1}(ha1:rdS F0 w0 a1 z1):RB 87 #[z0,z1] w0 r:=by
 obtain⟨A0',n0',c0',rfl⟩:=ha0.form3
 obtain⟨A1',n1',c1',rfl⟩:=ha1.form3
 have H:=((HL.start F0 w0).argS ha0).argS ha1
 refine (En Tryz.func87) ?_
 refine R ((A) (Z (Y (R ((V) ((NI H 0) fun hl1=>(V) ((NI H 1) fun hl2=>(BZ) (iN hr (fun _ hr=>?_) fun _ hr=>?_))))))))
 ·exact R ((AZ) (W1 hr))
 refine K (Y (R ((AZ) ?_)))
 refine bb hr fun q1 hq1 hr=>?_
 refine (lF hq1 (fun k1 _ _=>[(0,.slice A0' n0' c0'),(1,.slice A1' n1' c1'),(5,zN k1)]) (fun _ _ w=>HL F0 [] w0 w [.S a0 (.slice A0' n0' c0'),.S a1 (.slice A1' n1' c1')] []) ()) ?_
 rintro k1 _ _ σ w1 hk1 hq1 H
 refine Y (R ((V) ((V) ((NN (rs H 0)) ((BZ) ?_)))))
 refine (iF hq1 hr (fun hk2 x1 z1 hx1 hb1 hs1 ht1=>?_) fun hr=>?_)
 ·refine K (Y ?_)
  refine Bk (Y ?_)
  refine q0g hmix (by kernel_rfl) ?_
  refine (qV) ((qV) ?_)
  obtain⟨b1,ob1,cb1,hvb1,hI1,H⟩:=z0k H 0 hx1
  refine (qJ 1 hvb1 hx1) ((qL0 H 2) ((qV) ((qV) ?_)))
  refine bb hb1 fun x2 hx2 hb1=>?_
  obtain⟨b2,ob2,cb2,hvb2,hI2,H⟩:=z0k H 1 hx2
  refine (qJ 1 hvb2 hx2) ((qL0 H 4) ((qB) ?_))
  refine QL.nil (fun w2 hE=>?_)
  have H:=H.ext hE
  refine iN hb1 (fun _ hb1=>?_) fun _ hb1=>?_
  ·exact R ((AZ) (W2 hb1 ht1 hr))
  exact K (X ((V) ((AN hk2 hl1) ((A) (Z (I2 hb1 hs1 ⟨k1+1,(),()⟩))))))
 exact CE (R ((AZ) (W1 hr)))
def q8j (a0 a1:Relation):Option Bool:=if a0.N=a1.N then (z8E a0.Rows a1.Rows).bind fun y1=>some y1 else some false
theorem z6H {a0 a1}{r}(hr:q8j a0 a1=some r){ca0}(ha0:rd F0 w0 a0 ca0){ca1}(ha1:rd F0 w0 a1 ca1):RB 46 #[ag ca0,ag ca1] w0 r:=by
 have H:=((HL.start F0 w0).argR ha0).argR ha1
 obtain⟨A1,n1,c1,rfl,hI1,H⟩:=q2O H 0
 obtain⟨A2,n2,c2,rfl,hI2,H⟩:=q2O H 1
 refine (En Tryz.func46) ?_
 refine R ((BX H) fun b1 w1 H=>(BX H) fun b2 w2 H=>(A) (Z (R ((D 0) ((L H 0) ((D 0) ((L H 1) ((B) (jD hr (fun _ hr=>?_) fun _ hr=>?_)))))))))
 ·refine (G) ((D 1) ((G) ((L H 0) ((G) ((D 1) ((G) ((L H 1) ((G) ?_))))))))
  refine bb hr fun y1 hy1 hr=>?_
  exact (CA ok87 (j4R hy1 (rs H 2) (rs H 3))) (cE H fun w3 H=>(T) ((AZ) (W1 hr)))
 exact (O) ((O) ((O) ((O) ((O) ((U) ((AZ) (W1 hr)))))))
def q7q (a0:Grammar):Nat→Symbol→(List Relation)→Option (List Relation):=fun k1 x1 s1=>(q4l a0 x1.Name).bind fun y2=>(q3p (y2.length:Int)).bind fun y3=>grd (((s1.length:Int)+1)*32≤140737488355328∧(s1.length:Int)+1≤9223372036854775807) <| some (s1++[y3])
def q6a (a0:Grammar):Nat→Rule→(Bool × (List Relation))→Option (Bool × (List Relation)):=fun k2 x2 (s3,s4)=>( (z2Y a0 x2.Left).bind fun y4=>( grd (0≤y4) <| (s4[y4.toNat]?).bind fun x3=>(q8N a0 x2 s4).bind fun y5=>(q8a a0 x2 y5).bind fun y6=>(q8z a0 x2 y6).bind fun y7=>(q8i x3 y7).bind fun y8=>some y8 ).bind fun s7=>if s3=true then grd (0≤y4) <| (s4[y4.toNat]?).bind fun x4=>some (true,(List.set s4 y4.toNat s7)) else grd (0≤y4) <| (s4[y4.toNat]?).bind fun x5=>(q8j s7 x5).bind fun y9=>some (!y9,(List.set s4 y4.toNat s7)) ).bind fun (s5,s6)=>some (s5,s6)
def q4P (a0:Grammar):(List Relation)→Option ((List Relation) ⊕ ((List Relation) × Bool)):=fun s2=>(q2G (q6a a0) 0 a0.Rules (false,s2)).bind fun (s3,s4)=>if s3=true then some (.inl s4) else some (.inr (s4,true))
def q6s (a0:Grammar):Option ((List Relation) × Bool):=(z2s a0).bind fun y1=>if y1=true then (q2G (q7q a0) 0 a0.Symbols ([]:List Relation)).bind fun s1=>(q5u (q4P a0) s1).bind fun r1=>some r1 else some ([],false)
theorem z6d {a0}{r}(hr:q6s a0=some r){ca0}(ha0:rd F0 w0 a0 ca0):RT 22 #[ag ca0] w0 fun v w=>∃ A0 n0 c0,v = .tuple #[(.slice A0 n0 c0),.bool r.2]∧HL F0 [] w0 w [] [.G 60 r.1 (.slice A0 n0 c0)]:=by
 have H:=(HL.start F0 w0).argR ha0
 obtain⟨A1,n1,c1,A2,n2,c2,rfl,H⟩:=q2C H 0
 let d6:Pr:=.R a0 [.slice A1 n1 c1,.slice A2 n2 c2]
 let d4:List Pr:=[d6,.S a0.Symbols (.slice A1 n1 c1),.S a0.Rules (.slice A2 n2 c2)]
 refine (En Tryz.func22) ?_
 refine R ((BX H) fun b1 w1 H=>(A) ((A) (Z (Y (R ((LB H 0) ?_))))))
 let d2:It:=.B b1 31 [.slice A1 n1 c1,.slice A2 n2 c2]
 refine bb hr fun y1 hy1 hr=>?_
 refine (CA ok11 (z8D hy1 ⟨_,_,rfl,(rs H 1),(rs H 2)⟩)) (cE H fun w2 H=>(N) (Z (iM hr (fun _ hr=>?_) fun _ hr=>?_)))
 ·refine R ?_
  refine q0h (α:=Relation) rfl rfl rfl el54 sz60 H fun A3 n3 c3 w3 H=>?_
  have H:=H.toG (i:=1) rfl
  refine (A) ((AZ) (CR ?_))
  obtain rfl:=sm hr
  exact⟨_,res2 rfl rfl rfl rfl rfl,H.ext0,_,_,_,rfl,H.outM (fr':=[]) [false,true] tw⟩
 refine K (R ?_)
 refine q0h (α:=Relation) rfl rfl rfl el54 sz60 H fun A4 n4 c4 w4 H=>?_
 have H:=H.toG (i:=1) rfl
 refine (A) (Z (Y (R ((AZ) ?_))))
 refine bb hr fun q1 hq1 hr=>?_
 refine Bk (CW.loop (α:=Nat × (List Relation) × Value) (fun ⟨k1,s1,v1⟩=>[(1,pB b1),(4,v1),(5,zN k1)]) (fun ⟨k1,s1,v1⟩ w=>k1≤a0.Symbols.length∧q2G (q7q a0) k1 (a0.Symbols.drop k1) s1=some q1∧HL F0 [] w0 w d4 [d2,.G 60 s1 v1]) (fun ⟨k1,s1,v1⟩=>a0.Symbols.length - k1) ⟨0,([]:List Relation),(.slice A4 n4 c4)⟩ ⟨rfl,rfl,rfl,trivial⟩ ⟨Nat.zero_le _,hq1,H.keep 3 2⟩ ?_)
 rintro⟨k1,s1,v1⟩ σ w5 ⟨hk1,hq1,H⟩
 obtain⟨A5,n5,c5,rfl⟩:=(H.rG (i:=1) rfl).form3
 refine Y (R ((V) ((D 0) ((L H 0) ((NI H 1) fun hl1=>(BZ) ?_)))))
 refine (iE hq1 (fun hk2 x1 z1 hx1 hb1 hq1=>?_) fun e=>?_)
 ·refine K ?_
  obtain⟨b2,ob2,cb2,A6,n6,c6,hvb2,hS1,H⟩:=q4B H 1 hx1
  let d7:=q3W x1 A6 n6 c6
  refine Y ?_
  refine CW.block ?_
  refine q0A (fun w=>∃ o1_:It,HL F0 [] w0 w [d6,.S a0.Symbols (.slice A1 n1 c1),.S a0.Rules (.slice A2 n2 c2),.A b2 (ob2+k1*2) d7,.R x1 d7,.S x1.Attributes (.slice A6 n6 c6)] [d2,o1_]) hmix (fun w6 hE=>?_)
  have H:HL F0 [] w0 w6 [d6,.S a0.Symbols (.slice A1 n1 c1),.S a0.Rules (.slice A2 n2 c2),.A b2 (ob2+k1*2) d7,.R x1 d7,.S x1.Attributes (.slice A6 n6 c6)] [d2,.G 60 s1 (.slice A5 n5 c5)]:=H.ext hE
  refine HW.take 0 ⟨_,H.keep 6 2⟩ rfl (by kernel_rfl) rfl rfl (fun _ _=>q0r rfl rfl) ?_
  refine HW.take 1 ⟨_,H.keep 6 2⟩ rfl (by kernel_rfl) rfl rfl (fun _ ⟨_,hq⟩=>q0c rfl ag31 sz31 rfl (At.blk (hq.rB (i:=0) rfl)) rfl) ?_
  refine HW.take 2 ⟨_,H.keep 6 2⟩ rfl (by kernel_rfl) rfl rfl (fun _ _=>q0v rfl k0X rfl) ?_
  refine HW.take 3 ⟨_,H.keep 6 2⟩ rfl (by kernel_rfl) rfl rfl (fun _ ⟨_,hq⟩=>q0l rfl ag28 rfl ((hq.rB (i:=0) rfl).cell rfl)) ?_
  refine HW.take 4 ⟨_,H.keep 6 2⟩ rfl (by kernel_rfl) rfl rfl (fun _ _=>q0r rfl rfl) ?_
  refine HW.take 5 ⟨_,H.keep 6 2⟩ rfl (by kernel_rfl) rfl rfl (fun _ _=>q0U rfl el28 sz69 rfl hvb2 rfl (q4X hx1)) ?_
  refine HW.take 6 ⟨_,H.keep 6 2⟩ rfl (by kernel_rfl) rfl rfl (fun _ _=>q0v rfl j9i rfl) ?_
  refine HW.take 7 ⟨_,H.keep 6 2⟩ rfl (by kernel_rfl) rfl rfl (fun _ ⟨_,hq⟩=>q0l rfl ag9 rfl ((hq.rA (i:=3) rfl).cell rfl)) ?_
  refine q0f 8 rfl (by kernel_rfl) ?_
  refine bb hb1 fun y2 hy2 hb1=>?_
  refine (CA ok42 (q8s hy2 ⟨_,_,rfl,(rs H 1),(rs H 2)⟩ hS1)) ?_
  rintro _ w7 hE ⟨A7,n7,c7,rfl,H'⟩
  have H:=H.callA H' tv
  refine q0a ⟨_,H.keep 6 2⟩ ?_
  have hl2:=(H.rO (i:=2) rfl).I
  refine HW.take 9 ⟨_,H.keep 6 2⟩ rfl (by kernel_rfl) rfl rfl (fun _ _=>q0J rfl el67 rfl (ro H 2)) ?_
  refine q0f 10 rfl (by kernel_rfl) ?_
  refine bb hb1 fun y3 hy3 hb1=>?_
  refine (CA ok41 (q9q hy3 (F0:=nF) hl2)) ?_
  rintro _ w8 hE ⟨A8,n8,c8,rfl,hI1,H'⟩
  have H:=H.callA H' tv
  refine q0a ⟨_,H.keep 6 2⟩ ?_
  refine q0f 11 rfl (by kernel_rfl) ?_
  refine q0n rfl rfl rfl el54 sz60 ze60 rfl rfl rfl rfl rfl rfl fun b3 w9 hE hb hB=>?_
  have H:=H.newB hE hb hB
  refine q0a ⟨_,H.keep 6 2⟩ ?_
  refine q0f 12 rfl (by kernel_rfl) ?_
  have H:=H.frzO (i:=3) rfl
  refine gg hb1 fun hg1 hb1=>?_
  refine q0M (i:=1) (ys:=[y3]) rfl rfl rfl el54 sz60 by60 ze60 rfl rfl rfl H rfl (fun F hF=>rdL.single ⟨_,rfl,hI1,(hF.get (i:=6) rfl)⟩) (.inr ⟨_,_,rfl,At.blk (rb H 4)⟩) hg1 fun A9 n9 c9 w10 H=>?_
  refine q0a ⟨_,H.keep 6 2⟩ ?_
  refine HW.take 13 ⟨_,H.keep 6 2⟩ rfl (by kernel_rfl) rfl rfl (fun _ _=>q0Z rfl rfl) ?_
  refine q0i (by kernel_rfl) (X ((V) ((AN hk2 hl1) ((AZ) ?_))))
  obtain rfl:=sm hb1
  exact⟨⟨k1+1,(s1++[y3]),(.slice A9 n9 c9)⟩,⟨rfl,rfl,rfl,trivial⟩,⟨hk2,hq1,H.keep 3 2⟩,Nat.sub_lt_sub_left hk2 (Nat.lt_succ_self _)⟩
 obtain rfl:=e
 refine CE ?_
 refine bb hr fun q2 hm1 hr=>?_
 obtain⟨m1,hq2⟩:=q4o.1 hm1
 refine Bk (CW.loop (α:=Nat × (List Relation)) (fun ⟨m1,s2⟩=>[(1,pB b1),(4,.slice A5 n5 c5)]) (fun ⟨m1,s2⟩ w=>z3B (q4P a0) m1 s2=some q2∧HL F0 [] w0 w d4 [d2,.G 60 s2 (.slice A5 n5 c5)]) (fun ⟨m1,s2⟩=>m1) ⟨m1,s1⟩ ⟨rfl,rfl,trivial⟩ ⟨hq2,H.keep 3 2⟩ ?_)
 rintro⟨m1,s2⟩ σ w11 ⟨hq2,H⟩
 obtain⟨m2,z2,rfl,hb2,hs1,ht1⟩:=q6H hq2
 refine Bk (R ((A) (Z (Y (R ((AZ) ?_))))))
 refine bb hb2 fun q3 hq3 hb2=>?_
 refine Bk (CW.loop (α:=Nat × Bool × (List Relation)) (fun ⟨k2,s3,s4⟩=>[(1,pB b1),(4,.slice A5 n5 c5),(6,.bool s3),(7,zN k2)]) (fun ⟨k2,s3,s4⟩ w=>k2≤a0.Rules.length∧q2G (q6a a0) k2 (a0.Rules.drop k2) (s3,s4)=some q3∧HL F0 [] w0 w d4 [d2,.G 60 s4 (.slice A5 n5 c5)]) (fun ⟨k2,s3,s4⟩=>a0.Rules.length - k2) ⟨0,false,s2⟩ ⟨rfl,rfl,rfl,rfl,trivial⟩ ⟨Nat.zero_le _,hq3,H.keep 3 2⟩ ?_)
 rintro⟨k2,s3,s4⟩ σ w12 ⟨hk3,hq3,H⟩
 refine Y (R ((V) ((D 1) ((L H 0) ((NI H 2) fun hl3=>(BZ) ?_)))))
 refine (iE hq3 (fun hk4 x2 z3 hx2 hb3 hq3=>?_) fun e=>?_)
 ·refine K ?_
  refine bb hb3 fun q4 hm2 hb3=>Y ?_
  refine q0o (fun ρ' w=>∃ (s5:Bool) (s6:List Relation),q4=(s5,s6)∧q4z ρ' [(1,pB b1),(4,.slice A5 n5 c5),(6,.bool s5),(7,zN k2)]∧HL F0 [] w0 w d4 [d2,.G 60 s6 (.slice A5 n5 c5)]) ?_ ?_
  ·refine Bk (R ((D 1) ((L H 0) ((V) ?_))))
   obtain⟨b4,ob4,cb4,A10,n10,c10,A11,n11,c11,A12,n12,c12,hvb4,hS2,hS3,H⟩:=q6k H 2 hx2
   let d5:=q3C x2 A10 n10 c10 A11 n11 c11 A12 n12 c12
   let d3:List Pr:=[.S a0.Symbols (.slice A1 n1 c1),.S a0.Rules (.slice A2 n2 c2),.S x2.Right (.slice A10 n10 c10),.S x2.Equations (.slice A11 n11 c11),.S x2.Contributions (.slice A12 n12 c12)]
   refine (J 6 hvb4 hx2) ((LA H 3) ((AH ze65 H) fun b5 w13 H=>(SB H 2) fun w14 H=>Z (R ((LB H 0) ((D 1) ((L H 2) ?_))))))
   let d1:It:=.B b5 65 d5
   refine bb hm2 fun y4 hy4 hm2=>?_
   refine (CA ok43 (z3M hy4 ⟨_,_,rfl,(rs H 1),(rs H 2)⟩ hS3)) (cF' H fun w15 hI2 H=>(AZ) ?_)
   refine bb hm2 fun q5 hm3 hm2=>Y ?_
   refine q0o (fun ρ' w=>∃ (s7:Relation) (b6:Nat) (v2:Value),s7=q5∧q4z ρ' [(1,pB b1),(4,.slice A5 n5 c5),(6,.bool s3),(7,zN k2),(9,.int .i64 y4),(10,pB b6)]∧I64 s7.N∧HL F0 [] w0 w [d6,.S a0.Symbols (.slice A1 n1 c1),.S a0.Rules (.slice A2 n2 c2),.A b4 (ob4+k2*6) d5,.R x2 d5,.S x2.Right (.slice A10 n10 c10),.S x2.Equations (.slice A11 n11 c11),.S x2.Contributions (.slice A12 n12 c12),.S s7.Rows v2] [d2,.G 60 s4 (.slice A5 n5 c5),d1,.B b6 60 [.int .i64 s7.N,v2]]) ?_ ?_
   ·refine gg hm3 fun hg2 hm3=>?_
    refine bb hm3 fun x3 hx3 hm3=>?_
    obtain⟨b7,cb7,hvb7,hbb7⟩:=H.ptG (i:=1) rfl hx3
    refine q0A (fun w=>HL F0 [] w0 w [d6,.S a0.Symbols (.slice A1 n1 c1),.S a0.Rules (.slice A2 n2 c2),.A b4 (ob4+k2*6) d5,.R x2 d5,.S x2.Right (.slice A10 n10 c10),.S x2.Equations (.slice A11 n11 c11),.S x2.Contributions (.slice A12 n12 c12)] [d2,.G 60 s4 (.slice A5 n5 c5),d1]) hmix (fun w16 hE=>?_)
    have H:HL F0 [] w0 w16 [d6,.S a0.Symbols (.slice A1 n1 c1),.S a0.Rules (.slice A2 n2 c2),.A b4 (ob4+k2*6) d5,.R x2 d5,.S x2.Right (.slice A10 n10 c10),.S x2.Equations (.slice A11 n11 c11),.S x2.Contributions (.slice A12 n12 c12)] [d2,.G 60 s4 (.slice A5 n5 c5),d1]:=H.ext hE
    refine HW.take 0 (H.keep 8 3) rfl (by kernel_rfl) rfl rfl (fun _ _=>q0r rfl rfl) ?_
    refine HW.take 1 (H.keep 8 3) rfl (by kernel_rfl) rfl rfl (fun _ _=>q0r rfl rfl) ?_
    refine HW.take 2 (H.keep 8 3) rfl (by kernel_rfl) rfl rfl (fun _ _=>q0p rfl el54 sz60 rfl hvb7 rfl hg2 (q4X hx3)) ?_
    refine HW.take 4 (H.keep 8 3) rfl (by kernel_rfl) rfl rfl (fun _ hq=>q0c rfl ag31 sz31 rfl (At.blk (hq.rB (i:=0) rfl)) rfl) ?_
    refine HW.take 5 (H.keep 8 3) rfl (by kernel_rfl) rfl rfl (fun _ hq=>q0c rfl ag65 sz65 rfl (At.blk (hq.rB (i:=2) rfl)) rfl) ?_
    refine HW.take 6 (H.keep 8 3) rfl (by kernel_rfl) rfl rfl (fun _ hq=>q0c rfl ag31 sz31 rfl (At.blk (hq.rB (i:=0) rfl)) rfl) ?_
    refine HW.take 7 (H.keep 8 3) rfl (by kernel_rfl) rfl rfl (fun _ hq=>q0c rfl ag65 sz65 rfl (At.blk (hq.rB (i:=2) rfl)) rfl) ?_
    refine HW.take 8 (H.keep 8 3) rfl (by kernel_rfl) rfl rfl (fun _ hq=>q0c rfl ag31 sz31 rfl (At.blk (hq.rB (i:=0) rfl)) rfl) ?_
    refine HW.take 9 (H.keep 8 3) rfl (by kernel_rfl) rfl rfl (fun _ hq=>q0c rfl ag65 sz65 rfl (At.blk (hq.rB (i:=2) rfl)) rfl) ?_
    refine HW.take 10 (H.keep 8 3) rfl (by kernel_rfl) rfl rfl (fun _ _=>q0r rfl rfl) ?_
    refine q0s [3,11,15] (by kernel_rfl) rfl ⟨q0j rfl ?_,q0j rfl ?_,q0j rfl ?_,trivial⟩
    ·obtain⟨A13,n13,c13,hA1,hI4,H⟩:=q3o H (i:=1) rfl hx3 hbb7
     refine q0b rfl rfl (q0c rfl ag60 sz60 rfl hA1 rfl) ?_
     refine q0a (H.keep 8 3) ?_
     refine q0s [11,15] (by kernel_rfl) rfl ⟨q0j rfl ?_,q0j rfl ?_,trivial⟩
     ·refine bb hm3 fun y5 hy5 hm3=>?_
      obtain⟨F',M',hfF,hcM⟩:=H.callW [false,true,false] ⟨noG,trivial⟩
      obtain⟨H',hcN⟩:=hcM (ps:=d3) ⟨hfF.get (i:=1) rfl,hfF.get (i:=2) rfl,hfF.get (i:=5) rfl,hfF.get (i:=6) rfl,hfF.get (i:=7) rfl,trivial⟩
      refine (CA ok25 (q7e hy5 hS2 hS3 H')) ?_
      rintro _ w17 hE ⟨A14,n14,c14,rfl,H'⟩
      have H:=hcN 1 H' rfl
      refine q0a (H.keep 8 3) ?_
      refine q0s [12,15] (by kernel_rfl) rfl ⟨q0j rfl ?_,q0j rfl ?_,trivial⟩
      ·refine bb hm3 fun y6 hy6 hm3=>?_
       refine (CA ok24 (q3D hy6 ⟨_,_,rfl,(rs H 1),(rs H 2)⟩ ⟨_,_,_,rfl,hS2,hS3,(rs H 5),(rs H 6),(rs H 7)⟩ (H.rG (i:=3) rfl))) ?_
       rintro _ w18 hE ⟨A15,n15,c15,rfl,hI5,H'⟩
       have H:=H.callA H' tv
       refine q0a (H.keep 8 3) ?_
       refine q0s [13,15] (by kernel_rfl) rfl ⟨q0j rfl ?_,q0j rfl ?_,trivial⟩
       ·refine bb hm3 fun y7 hy7 hm3=>?_
        refine (CA ok45 (q2V hy7 ⟨_,_,rfl,(rs H 1),(rs H 2)⟩ ⟨_,_,_,rfl,hS2,hS3,(rs H 5),(rs H 6),(rs H 7)⟩ ⟨_,rfl,hI5,(ro H 4)⟩)) ?_
        rintro _ w19 hE ⟨A16,n16,c16,rfl,hI6,H'⟩
        have H:=H.callA H' tv
        refine q0a (H.keep 8 3) ?_
        refine q0s [14,15] (by kernel_rfl) rfl ⟨q0j rfl ?_,q0j rfl ?_,trivial⟩
        ·refine bb hm3 fun y8 hy8 hm3=>?_
         refine (CA ok44 (q2H hy8 ⟨_,rfl,hI4,(rs H 9)⟩ ⟨_,rfl,hI6,(ro H 5)⟩)) ?_
         rintro _ w20 hE ⟨A17,n17,c17,rfl,hI7,H'⟩
         have H:=H.callA H' tv
         refine q0a (H.keep 8 3) ?_
         refine q0f 15 rfl (by kernel_rfl) ((AH ze60 H) fun b8 w21 H=>?_)
         refine q0a (H.keep 8 3) ?_
         refine q0f 16 rfl (by kernel_rfl) ((SB H 7) fun w22 H=>?_)
         refine q0a (H.keep 8 3) ?_
         refine q0i (by kernel_rfl) ?_
         have H:=H.swap 3 7
         have H:=H.frzO (i:=6) rfl
         obtain rfl:=sm hm3
         exact⟨y8,_,_,rfl,⟨rfl,rfl,rfl,rfl,rfl,rfl,trivial⟩,hI7,H.out (fun _ h=>(h.keep 8).app ⟨h.get (i:=10) rfl,trivial⟩) (List.take_sublist 4 [d2,It.G 60 s4 (.slice A5 n5 c5),d1,It.B b8 60 (q2D y8 A17 n17 c17),It.O 3 y6.Rows (.slice A15 n15 c15),It.O 3 y7.Rows (.slice A16 n16 c16),It.emp,It.G 60 y5 (.slice A14 n14 c14)])⟩
        refine bb hm3 fun y8 hy8 hm3=>(AH ze60 H) fun b8 w21 H=>?_
        refine q0a (H.keep 8 3) ?_
        refine q0f 14 rfl (by kernel_rfl) ?_
        refine (CA ok44 (q2H hy8 ⟨_,rfl,hI4,(rs H 9)⟩ ⟨_,rfl,hI6,(ro H 5)⟩)) ?_
        rintro _ w20 hE ⟨A17,n17,c17,rfl,hI7,H'⟩
        have H:=H.callA H' tv
        refine q0a (H.keep 8 3) ?_
        refine q0f 16 rfl (by kernel_rfl) ((SB H 6) fun w22 H=>?_)
        refine q0a (H.keep 8 3) ?_
        refine q0i (by kernel_rfl) ?_
        have H:=H.swap 3 6
        have H:=H.frzO (i:=7) rfl
        obtain rfl:=sm hm3
        exact⟨y8,_,_,rfl,⟨rfl,rfl,rfl,rfl,rfl,rfl,trivial⟩,hI7,H.out (fun _ h=>(h.keep 8).app ⟨h.get (i:=10) rfl,trivial⟩) (List.take_sublist 4 [d2,It.G 60 s4 (.slice A5 n5 c5),d1,It.B b8 60 (q2D y8 A17 n17 c17),It.O 3 y6.Rows (.slice A15 n15 c15),It.O 3 y7.Rows (.slice A16 n16 c16),It.G 60 y5 (.slice A14 n14 c14),It.emp])⟩
       refine bb hm3 fun y7 hy7 hm3=>?_
       refine bb hm3 fun y8 hy8 hm3=>(AH ze60 H) fun b8 w21 H=>?_
       refine q0a (H.keep 8 3) ?_
       refine q0f 13 rfl (by kernel_rfl) ?_
       refine (CA ok45 (q2V hy7 ⟨_,_,rfl,(rs H 1),(rs H 2)⟩ ⟨_,_,_,rfl,hS2,hS3,(rs H 5),(rs H 6),(rs H 7)⟩ ⟨_,rfl,hI5,(ro H 4)⟩)) ?_
       rintro _ w19 hE ⟨A16,n16,c16,rfl,hI6,H'⟩
       have H:=H.callA H' tv
       refine q0a (H.keep 8 3) ?_
       refine q0f 14 rfl (by kernel_rfl) ?_
       refine (CA ok44 (q2H hy8 ⟨_,rfl,hI4,(rs H 9)⟩ ⟨_,rfl,hI6,(ro H 6)⟩)) ?_
       rintro _ w20 hE ⟨A17,n17,c17,rfl,hI7,H'⟩
       have H:=H.callA H' tv
       refine q0a (H.keep 8 3) ?_
       refine q0f 16 rfl (by kernel_rfl) ((SB H 5) fun w22 H=>?_)
       refine q0a (H.keep 8 3) ?_
       refine q0i (by kernel_rfl) ?_
       have H:=H.swap 3 5
       have H:=H.frzO (i:=7) rfl
       obtain rfl:=sm hm3
       exact⟨y8,_,_,rfl,⟨rfl,rfl,rfl,rfl,rfl,rfl,trivial⟩,hI7,H.out (fun _ h=>(h.keep 8).app ⟨h.get (i:=10) rfl,trivial⟩) (List.take_sublist 4 [d2,It.G 60 s4 (.slice A5 n5 c5),d1,It.B b8 60 (q2D y8 A17 n17 c17),It.O 3 y6.Rows (.slice A15 n15 c15),It.G 60 y5 (.slice A14 n14 c14),It.O 3 y7.Rows (.slice A16 n16 c16),It.emp])⟩
      refine bb hm3 fun y6 hy6 hm3=>?_
      refine bb hm3 fun y7 hy7 hm3=>?_
      refine bb hm3 fun y8 hy8 hm3=>(AH ze60 H) fun b8 w21 H=>?_
      refine q0a (H.keep 8 3) ?_
      refine q0f 12 rfl (by kernel_rfl) ?_
      refine (CA ok24 (q3D hy6 ⟨_,_,rfl,(rs H 1),(rs H 2)⟩ ⟨_,_,_,rfl,hS2,hS3,(rs H 5),(rs H 6),(rs H 7)⟩ (H.rG (i:=3) rfl))) ?_
      rintro _ w18 hE ⟨A15,n15,c15,rfl,hI5,H'⟩
      have H:=H.callA H' tv
      refine q0a (H.keep 8 3) ?_
      refine q0f 13 rfl (by kernel_rfl) ?_
      refine (CA ok45 (q2V hy7 ⟨_,_,rfl,(rs H 1),(rs H 2)⟩ ⟨_,_,_,rfl,hS2,hS3,(rs H 5),(rs H 6),(rs H 7)⟩ ⟨_,rfl,hI5,(ro H 5)⟩)) ?_
      rintro _ w19 hE ⟨A16,n16,c16,rfl,hI6,H'⟩
      have H:=H.callA H' tv
      refine q0a (H.keep 8 3) ?_
      refine q0f 14 rfl (by kernel_rfl) ?_
      refine (CA ok44 (q2H hy8 ⟨_,rfl,hI4,(rs H 9)⟩ ⟨_,rfl,hI6,(ro H 6)⟩)) ?_
      rintro _ w20 hE ⟨A17,n17,c17,rfl,hI7,H'⟩
      have H:=H.callA H' tv
      refine q0a (H.keep 8 3) ?_
      refine q0f 16 rfl (by kernel_rfl) ((SB H 4) fun w22 H=>?_)
      refine q0a (H.keep 8 3) ?_
      refine q0i (by kernel_rfl) ?_
      have H:=H.swap 3 4
      have H:=H.frzO (i:=7) rfl
      obtain rfl:=sm hm3
      exact⟨y8,_,_,rfl,⟨rfl,rfl,rfl,rfl,rfl,rfl,trivial⟩,hI7,H.out (fun _ h=>(h.keep 8).app ⟨h.get (i:=10) rfl,trivial⟩) (List.take_sublist 4 [d2,It.G 60 s4 (.slice A5 n5 c5),d1,It.B b8 60 (q2D y8 A17 n17 c17),It.G 60 y5 (.slice A14 n14 c14),It.O 3 y6.Rows (.slice A15 n15 c15),It.O 3 y7.Rows (.slice A16 n16 c16),It.emp])⟩
     refine bb hm3 fun y5 hy5 hm3=>?_
     refine bb hm3 fun y6 hy6 hm3=>?_
     refine bb hm3 fun y7 hy7 hm3=>?_
     refine bb hm3 fun y8 hy8 hm3=>(AH ze60 H) fun b8 w21 H=>?_
     refine q0a (H.keep 8 3) ?_
     refine q0f 11 rfl (by kernel_rfl) ?_
     obtain⟨F',M',hfF,hcM⟩:=H.callW [false,true,false,false] ⟨noG,trivial⟩
     obtain⟨H',hcN⟩:=hcM (ps:=d3) ⟨hfF.get (i:=1) rfl,hfF.get (i:=2) rfl,hfF.get (i:=5) rfl,hfF.get (i:=6) rfl,hfF.get (i:=7) rfl,trivial⟩
     refine (CA ok25 (q7e hy5 hS2 hS3 H')) ?_
     rintro _ w17 hE ⟨A14,n14,c14,rfl,H'⟩
     have H:=hcN 1 H' rfl
     refine q0a (H.keep 8 3) ?_
     refine q0f 12 rfl (by kernel_rfl) ?_
     refine (CA ok24 (q3D hy6 ⟨_,_,rfl,(rs H 1),(rs H 2)⟩ ⟨_,_,_,rfl,hS2,hS3,(rs H 5),(rs H 6),(rs H 7)⟩ (H.rG (i:=4) rfl))) ?_
     rintro _ w18 hE ⟨A15,n15,c15,rfl,hI5,H'⟩
     have H:=H.callA H' tv
     refine q0a (H.keep 8 3) ?_
     refine q0f 13 rfl (by kernel_rfl) ?_
     refine (CA ok45 (q2V hy7 ⟨_,_,rfl,(rs H 1),(rs H 2)⟩ ⟨_,_,_,rfl,hS2,hS3,(rs H 5),(rs H 6),(rs H 7)⟩ ⟨_,rfl,hI5,(ro H 5)⟩)) ?_
     rintro _ w19 hE ⟨A16,n16,c16,rfl,hI6,H'⟩
     have H:=H.callA H' tv
     refine q0a (H.keep 8 3) ?_
     refine q0f 14 rfl (by kernel_rfl) ?_
     refine (CA ok44 (q2H hy8 ⟨_,rfl,hI4,(rs H 9)⟩ ⟨_,rfl,hI6,(ro H 6)⟩)) ?_
     rintro _ w20 hE ⟨A17,n17,c17,rfl,hI7,H'⟩
     have H:=H.callA H' tv
     refine q0a (H.keep 8 3) ?_
     refine q0f 16 rfl (by kernel_rfl) ((SB H 3) fun w22 H=>?_)
     refine q0a (H.keep 8 3) ?_
     refine q0i (by kernel_rfl) ?_
     have H:=H.frzO (i:=7) rfl
     obtain rfl:=sm hm3
     exact⟨y8,_,_,rfl,⟨rfl,rfl,rfl,rfl,rfl,rfl,trivial⟩,hI7,H.out (fun _ h=>(h.keep 8).app ⟨h.get (i:=10) rfl,trivial⟩) (List.take_sublist 4 [d2,It.G 60 s4 (.slice A5 n5 c5),d1,It.B b8 60 (q2D y8 A17 n17 c17),It.G 60 y5 (.slice A14 n14 c14),It.O 3 y6.Rows (.slice A15 n15 c15),It.O 3 y7.Rows (.slice A16 n16 c16),It.emp])⟩
    ·refine bb hm3 fun y5 hy5 hm3=>?_
     refine bb hm3 fun y6 hy6 hm3=>?_
     refine bb hm3 fun y7 hy7 hm3=>?_
     refine bb hm3 fun y8 hy8 hm3=>?_
     obtain⟨F',M',hfF,hcM⟩:=H.callW [false,true,false] ⟨noG,trivial⟩
     obtain⟨H',hcN⟩:=hcM (ps:=d3) ⟨hfF.get (i:=1) rfl,hfF.get (i:=2) rfl,hfF.get (i:=5) rfl,hfF.get (i:=6) rfl,hfF.get (i:=7) rfl,trivial⟩
     refine (CA ok25 (q7e hy5 hS2 hS3 H')) ?_
     rintro _ w17 hE ⟨A14,n14,c14,rfl,H'⟩
     have H:=hcN 1 H' rfl
     refine q0a (H.keep 8 3) ?_
     refine q0s [3,12,15] (by kernel_rfl) rfl ⟨q0j rfl ?_,q0j rfl ?_,q0j rfl ?_,trivial⟩
     ·obtain⟨A13,n13,c13,hA1,hI4,H⟩:=q3o H (i:=1) rfl hx3 hbb7
      refine q0b rfl rfl (q0c rfl ag60 sz60 rfl hA1 rfl) ?_
      refine q0a (H.keep 8 3) ?_
      refine q0s [12,15] (by kernel_rfl) rfl ⟨q0j rfl ?_,q0j rfl ?_,trivial⟩
      ·refine (CA ok24 (q3D hy6 ⟨_,_,rfl,(rs H 1),(rs H 2)⟩ ⟨_,_,_,rfl,hS2,hS3,(rs H 5),(rs H 6),(rs H 7)⟩ (H.rG (i:=3) rfl))) ?_
       rintro _ w18 hE ⟨A15,n15,c15,rfl,hI5,H'⟩
       have H:=H.callA H' tv
       refine q0a (H.keep 8 3) ?_
       refine q0s [13,15] (by kernel_rfl) rfl ⟨q0j rfl ?_,q0j rfl ?_,trivial⟩
       ·refine (CA ok45 (q2V hy7 ⟨_,_,rfl,(rs H 1),(rs H 2)⟩ ⟨_,_,_,rfl,hS2,hS3,(rs H 5),(rs H 6),(rs H 7)⟩ ⟨_,rfl,hI5,(ro H 4)⟩)) ?_
        rintro _ w19 hE ⟨A16,n16,c16,rfl,hI6,H'⟩
        have H:=H.callA H' tv
        refine q0a (H.keep 8 3) ?_
        refine q0s [14,15] (by kernel_rfl) rfl ⟨q0j rfl ?_,q0j rfl ?_,trivial⟩
        ·refine (CA ok44 (q2H hy8 ⟨_,rfl,hI4,(rs H 9)⟩ ⟨_,rfl,hI6,(ro H 5)⟩)) ?_
         rintro _ w20 hE ⟨A17,n17,c17,rfl,hI7,H'⟩
         have H:=H.callA H' tv
         refine q0a (H.keep 8 3) ?_
         refine q0f 15 rfl (by kernel_rfl) ((AH ze60 H) fun b8 w21 H=>?_)
         refine q0a (H.keep 8 3) ?_
         refine q0f 16 rfl (by kernel_rfl) ((SB H 7) fun w22 H=>?_)
         refine q0a (H.keep 8 3) ?_
         refine q0i (by kernel_rfl) ?_
         have H:=H.swap 3 7
         have H:=H.frzO (i:=6) rfl
         obtain rfl:=sm hm3
         exact⟨y8,_,_,rfl,⟨rfl,rfl,rfl,rfl,rfl,rfl,trivial⟩,hI7,H.out (fun _ h=>(h.keep 8).app ⟨h.get (i:=10) rfl,trivial⟩) (List.take_sublist 4 [d2,It.G 60 s4 (.slice A5 n5 c5),d1,It.B b8 60 (q2D y8 A17 n17 c17),It.O 3 y6.Rows (.slice A15 n15 c15),It.O 3 y7.Rows (.slice A16 n16 c16),It.emp,It.G 60 y5 (.slice A14 n14 c14)])⟩
        refine (AH ze60 H) fun b8 w21 H=>?_
        refine q0a (H.keep 8 3) ?_
        refine q0f 14 rfl (by kernel_rfl) ?_
        refine (CA ok44 (q2H hy8 ⟨_,rfl,hI4,(rs H 9)⟩ ⟨_,rfl,hI6,(ro H 5)⟩)) ?_
        rintro _ w20 hE ⟨A17,n17,c17,rfl,hI7,H'⟩
        have H:=H.callA H' tv
        refine q0a (H.keep 8 3) ?_
        refine q0f 16 rfl (by kernel_rfl) ((SB H 6) fun w22 H=>?_)
        refine q0a (H.keep 8 3) ?_
        refine q0i (by kernel_rfl) ?_
        have H:=H.swap 3 6
        have H:=H.frzO (i:=7) rfl
        obtain rfl:=sm hm3
        exact⟨y8,_,_,rfl,⟨rfl,rfl,rfl,rfl,rfl,rfl,trivial⟩,hI7,H.out (fun _ h=>(h.keep 8).app ⟨h.get (i:=10) rfl,trivial⟩) (List.take_sublist 4 [d2,It.G 60 s4 (.slice A5 n5 c5),d1,It.B b8 60 (q2D y8 A17 n17 c17),It.O 3 y6.Rows (.slice A15 n15 c15),It.O 3 y7.Rows (.slice A16 n16 c16),It.G 60 y5 (.slice A14 n14 c14),It.emp])⟩
       refine (AH ze60 H) fun b8 w21 H=>?_
       refine q0a (H.keep 8 3) ?_
       refine q0f 13 rfl (by kernel_rfl) ?_
       refine (CA ok45 (q2V hy7 ⟨_,_,rfl,(rs H 1),(rs H 2)⟩ ⟨_,_,_,rfl,hS2,hS3,(rs H 5),(rs H 6),(rs H 7)⟩ ⟨_,rfl,hI5,(ro H 4)⟩)) ?_
       rintro _ w19 hE ⟨A16,n16,c16,rfl,hI6,H'⟩
       have H:=H.callA H' tv
       refine q0a (H.keep 8 3) ?_
       refine q0f 14 rfl (by kernel_rfl) ?_
       refine (CA ok44 (q2H hy8 ⟨_,rfl,hI4,(rs H 9)⟩ ⟨_,rfl,hI6,(ro H 6)⟩)) ?_
       rintro _ w20 hE ⟨A17,n17,c17,rfl,hI7,H'⟩
       have H:=H.callA H' tv
       refine q0a (H.keep 8 3) ?_
       refine q0f 16 rfl (by kernel_rfl) ((SB H 5) fun w22 H=>?_)
       refine q0a (H.keep 8 3) ?_
       refine q0i (by kernel_rfl) ?_
       have H:=H.swap 3 5
       have H:=H.frzO (i:=7) rfl
       obtain rfl:=sm hm3
       exact⟨y8,_,_,rfl,⟨rfl,rfl,rfl,rfl,rfl,rfl,trivial⟩,hI7,H.out (fun _ h=>(h.keep 8).app ⟨h.get (i:=10) rfl,trivial⟩) (List.take_sublist 4 [d2,It.G 60 s4 (.slice A5 n5 c5),d1,It.B b8 60 (q2D y8 A17 n17 c17),It.O 3 y6.Rows (.slice A15 n15 c15),It.G 60 y5 (.slice A14 n14 c14),It.O 3 y7.Rows (.slice A16 n16 c16),It.emp])⟩
      refine (AH ze60 H) fun b8 w21 H=>?_
      refine q0a (H.keep 8 3) ?_
      refine q0f 12 rfl (by kernel_rfl) ?_
      refine (CA ok24 (q3D hy6 ⟨_,_,rfl,(rs H 1),(rs H 2)⟩ ⟨_,_,_,rfl,hS2,hS3,(rs H 5),(rs H 6),(rs H 7)⟩ (H.rG (i:=3) rfl))) ?_
      rintro _ w18 hE ⟨A15,n15,c15,rfl,hI5,H'⟩
      have H:=H.callA H' tv
      refine q0a (H.keep 8 3) ?_
      refine q0f 13 rfl (by kernel_rfl) ?_
      refine (CA ok45 (q2V hy7 ⟨_,_,rfl,(rs H 1),(rs H 2)⟩ ⟨_,_,_,rfl,hS2,hS3,(rs H 5),(rs H 6),(rs H 7)⟩ ⟨_,rfl,hI5,(ro H 5)⟩)) ?_
      rintro _ w19 hE ⟨A16,n16,c16,rfl,hI6,H'⟩
      have H:=H.callA H' tv
      refine q0a (H.keep 8 3) ?_
      refine q0f 14 rfl (by kernel_rfl) ?_
      refine (CA ok44 (q2H hy8 ⟨_,rfl,hI4,(rs H 9)⟩ ⟨_,rfl,hI6,(ro H 6)⟩)) ?_
      rintro _ w20 hE ⟨A17,n17,c17,rfl,hI7,H'⟩
      have H:=H.callA H' tv
      refine q0a (H.keep 8 3) ?_
      refine q0f 16 rfl (by kernel_rfl) ((SB H 4) fun w22 H=>?_)
      refine q0a (H.keep 8 3) ?_
      refine q0i (by kernel_rfl) ?_
      have H:=H.swap 3 4
      have H:=H.frzO (i:=7) rfl
      obtain rfl:=sm hm3
      exact⟨y8,_,_,rfl,⟨rfl,rfl,rfl,rfl,rfl,rfl,trivial⟩,hI7,H.out (fun _ h=>(h.keep 8).app ⟨h.get (i:=10) rfl,trivial⟩) (List.take_sublist 4 [d2,It.G 60 s4 (.slice A5 n5 c5),d1,It.B b8 60 (q2D y8 A17 n17 c17),It.G 60 y5 (.slice A14 n14 c14),It.O 3 y6.Rows (.slice A15 n15 c15),It.O 3 y7.Rows (.slice A16 n16 c16),It.emp])⟩
     ·refine (CA ok24 (q3D hy6 ⟨_,_,rfl,(rs H 1),(rs H 2)⟩ ⟨_,_,_,rfl,hS2,hS3,(rs H 5),(rs H 6),(rs H 7)⟩ (H.rG (i:=3) rfl))) ?_
      rintro _ w18 hE ⟨A15,n15,c15,rfl,hI5,H'⟩
      have H:=H.callA H' tv
      refine q0a (H.keep 8 3) ?_
      refine q0s [3,13,15] (by kernel_rfl) rfl ⟨q0j rfl ?_,q0j rfl ?_,q0j rfl ?_,trivial⟩
      ·obtain⟨A13,n13,c13,hA1,hI4,H⟩:=q3o H (i:=1) rfl hx3 hbb7
       refine q0b rfl rfl (q0c rfl ag60 sz60 rfl hA1 rfl) ?_
       refine q0a (H.keep 8 3) ?_
       refine q0s [13,15] (by kernel_rfl) rfl ⟨q0j rfl ?_,q0j rfl ?_,trivial⟩
       ·refine (CA ok45 (q2V hy7 ⟨_,_,rfl,(rs H 1),(rs H 2)⟩ ⟨_,_,_,rfl,hS2,hS3,(rs H 5),(rs H 6),(rs H 7)⟩ ⟨_,rfl,hI5,(ro H 4)⟩)) ?_
        rintro _ w19 hE ⟨A16,n16,c16,rfl,hI6,H'⟩
        have H:=H.callA H' tv
        refine q0a (H.keep 8 3) ?_
        refine q0s [14,15] (by kernel_rfl) rfl ⟨q0j rfl ?_,q0j rfl ?_,trivial⟩
        ·refine (CA ok44 (q2H hy8 ⟨_,rfl,hI4,(rs H 9)⟩ ⟨_,rfl,hI6,(ro H 5)⟩)) ?_
         rintro _ w20 hE ⟨A17,n17,c17,rfl,hI7,H'⟩
         have H:=H.callA H' tv
         refine q0a (H.keep 8 3) ?_
         refine q0f 15 rfl (by kernel_rfl) ((AH ze60 H) fun b8 w21 H=>?_)
         refine q0a (H.keep 8 3) ?_
         refine q0f 16 rfl (by kernel_rfl) ((SB H 7) fun w22 H=>?_)
         refine q0a (H.keep 8 3) ?_
         refine q0i (by kernel_rfl) ?_
         have H:=H.swap 3 7
         have H:=H.frzO (i:=6) rfl
         obtain rfl:=sm hm3
         exact⟨y8,_,_,rfl,⟨rfl,rfl,rfl,rfl,rfl,rfl,trivial⟩,hI7,H.out (fun _ h=>(h.keep 8).app ⟨h.get (i:=10) rfl,trivial⟩) (List.take_sublist 4 [d2,It.G 60 s4 (.slice A5 n5 c5),d1,It.B b8 60 (q2D y8 A17 n17 c17),It.O 3 y6.Rows (.slice A15 n15 c15),It.O 3 y7.Rows (.slice A16 n16 c16),It.emp,It.G 60 y5 (.slice A14 n14 c14)])⟩
        refine (AH ze60 H) fun b8 w21 H=>?_
        refine q0a (H.keep 8 3) ?_
        refine q0f 14 rfl (by kernel_rfl) ?_
        refine (CA ok44 (q2H hy8 ⟨_,rfl,hI4,(rs H 9)⟩ ⟨_,rfl,hI6,(ro H 5)⟩)) ?_
        rintro _ w20 hE ⟨A17,n17,c17,rfl,hI7,H'⟩
        have H:=H.callA H' tv
        refine q0a (H.keep 8 3) ?_
        refine q0f 16 rfl (by kernel_rfl) ((SB H 6) fun w22 H=>?_)
        refine q0a (H.keep 8 3) ?_
        refine q0i (by kernel_rfl) ?_
        have H:=H.swap 3 6
        have H:=H.frzO (i:=7) rfl
        obtain rfl:=sm hm3
        exact⟨y8,_,_,rfl,⟨rfl,rfl,rfl,rfl,rfl,rfl,trivial⟩,hI7,H.out (fun _ h=>(h.keep 8).app ⟨h.get (i:=10) rfl,trivial⟩) (List.take_sublist 4 [d2,It.G 60 s4 (.slice A5 n5 c5),d1,It.B b8 60 (q2D y8 A17 n17 c17),It.O 3 y6.Rows (.slice A15 n15 c15),It.O 3 y7.Rows (.slice A16 n16 c16),It.G 60 y5 (.slice A14 n14 c14),It.emp])⟩
       refine (AH ze60 H) fun b8 w21 H=>?_
       refine q0a (H.keep 8 3) ?_
       refine q0f 13 rfl (by kernel_rfl) ?_
       refine (CA ok45 (q2V hy7 ⟨_,_,rfl,(rs H 1),(rs H 2)⟩ ⟨_,_,_,rfl,hS2,hS3,(rs H 5),(rs H 6),(rs H 7)⟩ ⟨_,rfl,hI5,(ro H 4)⟩)) ?_
       rintro _ w19 hE ⟨A16,n16,c16,rfl,hI6,H'⟩
       have H:=H.callA H' tv
       refine q0a (H.keep 8 3) ?_
       refine q0f 14 rfl (by kernel_rfl) ?_
       refine (CA ok44 (q2H hy8 ⟨_,rfl,hI4,(rs H 9)⟩ ⟨_,rfl,hI6,(ro H 6)⟩)) ?_
       rintro _ w20 hE ⟨A17,n17,c17,rfl,hI7,H'⟩
       have H:=H.callA H' tv
       refine q0a (H.keep 8 3) ?_
       refine q0f 16 rfl (by kernel_rfl) ((SB H 5) fun w22 H=>?_)
       refine q0a (H.keep 8 3) ?_
       refine q0i (by kernel_rfl) ?_
       have H:=H.swap 3 5
       have H:=H.frzO (i:=7) rfl
       obtain rfl:=sm hm3
       exact⟨y8,_,_,rfl,⟨rfl,rfl,rfl,rfl,rfl,rfl,trivial⟩,hI7,H.out (fun _ h=>(h.keep 8).app ⟨h.get (i:=10) rfl,trivial⟩) (List.take_sublist 4 [d2,It.G 60 s4 (.slice A5 n5 c5),d1,It.B b8 60 (q2D y8 A17 n17 c17),It.O 3 y6.Rows (.slice A15 n15 c15),It.G 60 y5 (.slice A14 n14 c14),It.O 3 y7.Rows (.slice A16 n16 c16),It.emp])⟩
      ·refine (CA ok45 (q2V hy7 ⟨_,_,rfl,(rs H 1),(rs H 2)⟩ ⟨_,_,_,rfl,hS2,hS3,(rs H 5),(rs H 6),(rs H 7)⟩ ⟨_,rfl,hI5,(ro H 4)⟩)) ?_
       rintro _ w19 hE ⟨A16,n16,c16,rfl,hI6,H'⟩
       have H:=H.callA H' tv
       refine q0a (H.keep 8 3) ?_
       refine q0s [3,15] (by kernel_rfl) rfl ⟨q0j rfl ?_,q0j rfl ?_,trivial⟩
       ·obtain⟨A13,n13,c13,hA1,hI4,H⟩:=q3o H (i:=1) rfl hx3 hbb7
        refine q0b rfl rfl (q0c rfl ag60 sz60 rfl hA1 rfl) ?_
        refine q0a (H.keep 8 3) ?_
        refine q0s [14,15] (by kernel_rfl) rfl ⟨q0j rfl ?_,q0j rfl ?_,trivial⟩
        ·refine (CA ok44 (q2H hy8 ⟨_,rfl,hI4,(rs H 9)⟩ ⟨_,rfl,hI6,(ro H 5)⟩)) ?_
         rintro _ w20 hE ⟨A17,n17,c17,rfl,hI7,H'⟩
         have H:=H.callA H' tv
         refine q0a (H.keep 8 3) ?_
         refine q0f 15 rfl (by kernel_rfl) ((AH ze60 H) fun b8 w21 H=>?_)
         refine q0a (H.keep 8 3) ?_
         refine q0f 16 rfl (by kernel_rfl) ((SB H 7) fun w22 H=>?_)
         refine q0a (H.keep 8 3) ?_
         refine q0i (by kernel_rfl) ?_
         have H:=H.swap 3 7
         have H:=H.frzO (i:=6) rfl
         obtain rfl:=sm hm3
         exact⟨y8,_,_,rfl,⟨rfl,rfl,rfl,rfl,rfl,rfl,trivial⟩,hI7,H.out (fun _ h=>(h.keep 8).app ⟨h.get (i:=10) rfl,trivial⟩) (List.take_sublist 4 [d2,It.G 60 s4 (.slice A5 n5 c5),d1,It.B b8 60 (q2D y8 A17 n17 c17),It.O 3 y6.Rows (.slice A15 n15 c15),It.O 3 y7.Rows (.slice A16 n16 c16),It.emp,It.G 60 y5 (.slice A14 n14 c14)])⟩
        refine (AH ze60 H) fun b8 w21 H=>?_
        refine q0a (H.keep 8 3) ?_
        refine q0f 14 rfl (by kernel_rfl) ?_
        refine (CA ok44 (q2H hy8 ⟨_,rfl,hI4,(rs H 9)⟩ ⟨_,rfl,hI6,(ro H 5)⟩)) ?_
        rintro _ w20 hE ⟨A17,n17,c17,rfl,hI7,H'⟩
        have H:=H.callA H' tv
        refine q0a (H.keep 8 3) ?_
        refine q0f 16 rfl (by kernel_rfl) ((SB H 6) fun w22 H=>?_)
        refine q0a (H.keep 8 3) ?_
        refine q0i (by kernel_rfl) ?_
        have H:=H.swap 3 6
        have H:=H.frzO (i:=7) rfl
        obtain rfl:=sm hm3
        exact⟨y8,_,_,rfl,⟨rfl,rfl,rfl,rfl,rfl,rfl,trivial⟩,hI7,H.out (fun _ h=>(h.keep 8).app ⟨h.get (i:=10) rfl,trivial⟩) (List.take_sublist 4 [d2,It.G 60 s4 (.slice A5 n5 c5),d1,It.B b8 60 (q2D y8 A17 n17 c17),It.O 3 y6.Rows (.slice A15 n15 c15),It.O 3 y7.Rows (.slice A16 n16 c16),It.G 60 y5 (.slice A14 n14 c14),It.emp])⟩
       refine (AH ze60 H) fun b8 w21 H=>?_
       refine q0a (H.keep 8 3) ?_
       refine q0f 3 rfl (by kernel_rfl) ?_
       obtain⟨A13,n13,c13,hA1,hI4,H⟩:=q3o H (i:=1) rfl hx3 hbb7
       refine q0b rfl rfl (q0c rfl ag60 sz60 rfl hA1 rfl) ?_
       refine q0a (H.keep 8 3) ?_
       refine q0f 14 rfl (by kernel_rfl) ?_
       refine (CA ok44 (q2H hy8 ⟨_,rfl,hI4,(rs H 9)⟩ ⟨_,rfl,hI6,(ro H 5)⟩)) ?_
       rintro _ w20 hE ⟨A17,n17,c17,rfl,hI7,H'⟩
       have H:=H.callA H' tv
       refine q0a (H.keep 8 3) ?_
       refine q0f 16 rfl (by kernel_rfl) ((SB H 6) fun w22 H=>?_)
       refine q0a (H.keep 8 3) ?_
       refine q0i (by kernel_rfl) ?_
       have H:=H.swap 3 6
       have H:=H.frzO (i:=7) rfl
       obtain rfl:=sm hm3
       exact⟨y8,_,_,rfl,⟨rfl,rfl,rfl,rfl,rfl,rfl,trivial⟩,hI7,H.out (fun _ h=>(h.keep 8).app ⟨h.get (i:=10) rfl,trivial⟩) (List.take_sublist 4 [d2,It.G 60 s4 (.slice A5 n5 c5),d1,It.B b8 60 (q2D y8 A17 n17 c17),It.O 3 y6.Rows (.slice A15 n15 c15),It.O 3 y7.Rows (.slice A16 n16 c16),It.G 60 y5 (.slice A14 n14 c14),It.emp])⟩
      refine (AH ze60 H) fun b8 w21 H=>?_
      refine q0a (H.keep 8 3) ?_
      refine q0s [3,13] (by kernel_rfl) rfl ⟨q0j rfl ?_,q0j rfl ?_,trivial⟩
      ·obtain⟨A13,n13,c13,hA1,hI4,H⟩:=q3o H (i:=1) rfl hx3 hbb7
       refine q0b rfl rfl (q0c rfl ag60 sz60 rfl hA1 rfl) ?_
       refine q0a (H.keep 8 3) ?_
       refine q0f 13 rfl (by kernel_rfl) ?_
       refine (CA ok45 (q2V hy7 ⟨_,_,rfl,(rs H 1),(rs H 2)⟩ ⟨_,_,_,rfl,hS2,hS3,(rs H 5),(rs H 6),(rs H 7)⟩ ⟨_,rfl,hI5,(ro H 4)⟩)) ?_
       rintro _ w19 hE ⟨A16,n16,c16,rfl,hI6,H'⟩
       have H:=H.callA H' tv
       refine q0a (H.keep 8 3) ?_
       refine q0f 14 rfl (by kernel_rfl) ?_
       refine (CA ok44 (q2H hy8 ⟨_,rfl,hI4,(rs H 9)⟩ ⟨_,rfl,hI6,(ro H 6)⟩)) ?_
       rintro _ w20 hE ⟨A17,n17,c17,rfl,hI7,H'⟩
       have H:=H.callA H' tv
       refine q0a (H.keep 8 3) ?_
       refine q0f 16 rfl (by kernel_rfl) ((SB H 5) fun w22 H=>?_)
       refine q0a (H.keep 8 3) ?_
       refine q0i (by kernel_rfl) ?_
       have H:=H.swap 3 5
       have H:=H.frzO (i:=7) rfl
       obtain rfl:=sm hm3
       exact⟨y8,_,_,rfl,⟨rfl,rfl,rfl,rfl,rfl,rfl,trivial⟩,hI7,H.out (fun _ h=>(h.keep 8).app ⟨h.get (i:=10) rfl,trivial⟩) (List.take_sublist 4 [d2,It.G 60 s4 (.slice A5 n5 c5),d1,It.B b8 60 (q2D y8 A17 n17 c17),It.O 3 y6.Rows (.slice A15 n15 c15),It.G 60 y5 (.slice A14 n14 c14),It.O 3 y7.Rows (.slice A16 n16 c16),It.emp])⟩
      refine (CA ok45 (q2V hy7 ⟨_,_,rfl,(rs H 1),(rs H 2)⟩ ⟨_,_,_,rfl,hS2,hS3,(rs H 5),(rs H 6),(rs H 7)⟩ ⟨_,rfl,hI5,(ro H 4)⟩)) ?_
      rintro _ w19 hE ⟨A16,n16,c16,rfl,hI6,H'⟩
      have H:=H.callA H' tv
      refine q0a (H.keep 8 3) ?_
      refine q0f 3 rfl (by kernel_rfl) ?_
      obtain⟨A13,n13,c13,hA1,hI4,H⟩:=q3o H (i:=1) rfl hx3 hbb7
      refine q0b rfl rfl (q0c rfl ag60 sz60 rfl hA1 rfl) ?_
      refine q0a (H.keep 8 3) ?_
      refine q0f 14 rfl (by kernel_rfl) ?_
      refine (CA ok44 (q2H hy8 ⟨_,rfl,hI4,(rs H 9)⟩ ⟨_,rfl,hI6,(ro H 6)⟩)) ?_
      rintro _ w20 hE ⟨A17,n17,c17,rfl,hI7,H'⟩
      have H:=H.callA H' tv
      refine q0a (H.keep 8 3) ?_
      refine q0f 16 rfl (by kernel_rfl) ((SB H 5) fun w22 H=>?_)
      refine q0a (H.keep 8 3) ?_
      refine q0i (by kernel_rfl) ?_
      have H:=H.swap 3 5
      have H:=H.frzO (i:=7) rfl
      obtain rfl:=sm hm3
      exact⟨y8,_,_,rfl,⟨rfl,rfl,rfl,rfl,rfl,rfl,trivial⟩,hI7,H.out (fun _ h=>(h.keep 8).app ⟨h.get (i:=10) rfl,trivial⟩) (List.take_sublist 4 [d2,It.G 60 s4 (.slice A5 n5 c5),d1,It.B b8 60 (q2D y8 A17 n17 c17),It.O 3 y6.Rows (.slice A15 n15 c15),It.G 60 y5 (.slice A14 n14 c14),It.O 3 y7.Rows (.slice A16 n16 c16),It.emp])⟩
     refine (AH ze60 H) fun b8 w21 H=>?_
     refine q0a (H.keep 8 3) ?_
     refine q0s [3,12] (by kernel_rfl) rfl ⟨q0j rfl ?_,q0j rfl ?_,trivial⟩
     ·obtain⟨A13,n13,c13,hA1,hI4,H⟩:=q3o H (i:=1) rfl hx3 hbb7
      refine q0b rfl rfl (q0c rfl ag60 sz60 rfl hA1 rfl) ?_
      refine q0a (H.keep 8 3) ?_
      refine q0f 12 rfl (by kernel_rfl) ?_
      refine (CA ok24 (q3D hy6 ⟨_,_,rfl,(rs H 1),(rs H 2)⟩ ⟨_,_,_,rfl,hS2,hS3,(rs H 5),(rs H 6),(rs H 7)⟩ (H.rG (i:=3) rfl))) ?_
      rintro _ w18 hE ⟨A15,n15,c15,rfl,hI5,H'⟩
      have H:=H.callA H' tv
      refine q0a (H.keep 8 3) ?_
      refine q0f 13 rfl (by kernel_rfl) ?_
      refine (CA ok45 (q2V hy7 ⟨_,_,rfl,(rs H 1),(rs H 2)⟩ ⟨_,_,_,rfl,hS2,hS3,(rs H 5),(rs H 6),(rs H 7)⟩ ⟨_,rfl,hI5,(ro H 5)⟩)) ?_
      rintro _ w19 hE ⟨A16,n16,c16,rfl,hI6,H'⟩
      have H:=H.callA H' tv
      refine q0a (H.keep 8 3) ?_
      refine q0f 14 rfl (by kernel_rfl) ?_
      refine (CA ok44 (q2H hy8 ⟨_,rfl,hI4,(rs H 9)⟩ ⟨_,rfl,hI6,(ro H 6)⟩)) ?_
      rintro _ w20 hE ⟨A17,n17,c17,rfl,hI7,H'⟩
      have H:=H.callA H' tv
      refine q0a (H.keep 8 3) ?_
      refine q0f 16 rfl (by kernel_rfl) ((SB H 4) fun w22 H=>?_)
      refine q0a (H.keep 8 3) ?_
      refine q0i (by kernel_rfl) ?_
      have H:=H.swap 3 4
      have H:=H.frzO (i:=7) rfl
      obtain rfl:=sm hm3
      exact⟨y8,_,_,rfl,⟨rfl,rfl,rfl,rfl,rfl,rfl,trivial⟩,hI7,H.out (fun _ h=>(h.keep 8).app ⟨h.get (i:=10) rfl,trivial⟩) (List.take_sublist 4 [d2,It.G 60 s4 (.slice A5 n5 c5),d1,It.B b8 60 (q2D y8 A17 n17 c17),It.G 60 y5 (.slice A14 n14 c14),It.O 3 y6.Rows (.slice A15 n15 c15),It.O 3 y7.Rows (.slice A16 n16 c16),It.emp])⟩
     refine (CA ok24 (q3D hy6 ⟨_,_,rfl,(rs H 1),(rs H 2)⟩ ⟨_,_,_,rfl,hS2,hS3,(rs H 5),(rs H 6),(rs H 7)⟩ (H.rG (i:=3) rfl))) ?_
     rintro _ w18 hE ⟨A15,n15,c15,rfl,hI5,H'⟩
     have H:=H.callA H' tv
     refine q0a (H.keep 8 3) ?_
     refine q0s [3,13] (by kernel_rfl) rfl ⟨q0j rfl ?_,q0j rfl ?_,trivial⟩
     ·obtain⟨A13,n13,c13,hA1,hI4,H⟩:=q3o H (i:=1) rfl hx3 hbb7
      refine q0b rfl rfl (q0c rfl ag60 sz60 rfl hA1 rfl) ?_
      refine q0a (H.keep 8 3) ?_
      refine q0f 13 rfl (by kernel_rfl) ?_
      refine (CA ok45 (q2V hy7 ⟨_,_,rfl,(rs H 1),(rs H 2)⟩ ⟨_,_,_,rfl,hS2,hS3,(rs H 5),(rs H 6),(rs H 7)⟩ ⟨_,rfl,hI5,(ro H 5)⟩)) ?_
      rintro _ w19 hE ⟨A16,n16,c16,rfl,hI6,H'⟩
      have H:=H.callA H' tv
      refine q0a (H.keep 8 3) ?_
      refine q0f 14 rfl (by kernel_rfl) ?_
      refine (CA ok44 (q2H hy8 ⟨_,rfl,hI4,(rs H 9)⟩ ⟨_,rfl,hI6,(ro H 6)⟩)) ?_
      rintro _ w20 hE ⟨A17,n17,c17,rfl,hI7,H'⟩
      have H:=H.callA H' tv
      refine q0a (H.keep 8 3) ?_
      refine q0f 16 rfl (by kernel_rfl) ((SB H 4) fun w22 H=>?_)
      refine q0a (H.keep 8 3) ?_
      refine q0i (by kernel_rfl) ?_
      have H:=H.swap 3 4
      have H:=H.frzO (i:=7) rfl
      obtain rfl:=sm hm3
      exact⟨y8,_,_,rfl,⟨rfl,rfl,rfl,rfl,rfl,rfl,trivial⟩,hI7,H.out (fun _ h=>(h.keep 8).app ⟨h.get (i:=10) rfl,trivial⟩) (List.take_sublist 4 [d2,It.G 60 s4 (.slice A5 n5 c5),d1,It.B b8 60 (q2D y8 A17 n17 c17),It.G 60 y5 (.slice A14 n14 c14),It.O 3 y6.Rows (.slice A15 n15 c15),It.O 3 y7.Rows (.slice A16 n16 c16),It.emp])⟩
     refine (CA ok45 (q2V hy7 ⟨_,_,rfl,(rs H 1),(rs H 2)⟩ ⟨_,_,_,rfl,hS2,hS3,(rs H 5),(rs H 6),(rs H 7)⟩ ⟨_,rfl,hI5,(ro H 5)⟩)) ?_
     rintro _ w19 hE ⟨A16,n16,c16,rfl,hI6,H'⟩
     have H:=H.callA H' tv
     refine q0a (H.keep 8 3) ?_
     refine q0f 3 rfl (by kernel_rfl) ?_
     obtain⟨A13,n13,c13,hA1,hI4,H⟩:=q3o H (i:=1) rfl hx3 hbb7
     refine q0b rfl rfl (q0c rfl ag60 sz60 rfl hA1 rfl) ?_
     refine q0a (H.keep 8 3) ?_
     refine q0f 14 rfl (by kernel_rfl) ?_
     refine (CA ok44 (q2H hy8 ⟨_,rfl,hI4,(rs H 9)⟩ ⟨_,rfl,hI6,(ro H 6)⟩)) ?_
     rintro _ w20 hE ⟨A17,n17,c17,rfl,hI7,H'⟩
     have H:=H.callA H' tv
     refine q0a (H.keep 8 3) ?_
     refine q0f 16 rfl (by kernel_rfl) ((SB H 4) fun w22 H=>?_)
     refine q0a (H.keep 8 3) ?_
     refine q0i (by kernel_rfl) ?_
     have H:=H.swap 3 4
     have H:=H.frzO (i:=7) rfl
     obtain rfl:=sm hm3
     exact⟨y8,_,_,rfl,⟨rfl,rfl,rfl,rfl,rfl,rfl,trivial⟩,hI7,H.out (fun _ h=>(h.keep 8).app ⟨h.get (i:=10) rfl,trivial⟩) (List.take_sublist 4 [d2,It.G 60 s4 (.slice A5 n5 c5),d1,It.B b8 60 (q2D y8 A17 n17 c17),It.G 60 y5 (.slice A14 n14 c14),It.O 3 y6.Rows (.slice A15 n15 c15),It.O 3 y7.Rows (.slice A16 n16 c16),It.emp])⟩
    refine bb hm3 fun y5 hy5 hm3=>?_
    refine bb hm3 fun y6 hy6 hm3=>?_
    refine bb hm3 fun y7 hy7 hm3=>?_
    refine bb hm3 fun y8 hy8 hm3=>(AH ze60 H) fun b8 w21 H=>?_
    refine q0a (H.keep 8 3) ?_
    refine q0s [3,11] (by kernel_rfl) rfl ⟨q0j rfl ?_,q0j rfl ?_,trivial⟩
    ·obtain⟨A13,n13,c13,hA1,hI4,H⟩:=q3o H (i:=1) rfl hx3 hbb7
     refine q0b rfl rfl (q0c rfl ag60 sz60 rfl hA1 rfl) ?_
     refine q0a (H.keep 8 3) ?_
     refine q0f 11 rfl (by kernel_rfl) ?_
     obtain⟨F',M',hfF,hcM⟩:=H.callW [false,true,false,false] ⟨noG,trivial⟩
     obtain⟨H',hcN⟩:=hcM (ps:=d3) ⟨hfF.get (i:=1) rfl,hfF.get (i:=2) rfl,hfF.get (i:=5) rfl,hfF.get (i:=6) rfl,hfF.get (i:=7) rfl,trivial⟩
     refine (CA ok25 (q7e hy5 hS2 hS3 H')) ?_
     rintro _ w17 hE ⟨A14,n14,c14,rfl,H'⟩
     have H:=hcN 1 H' rfl
     refine q0a (H.keep 8 3) ?_
     refine q0f 12 rfl (by kernel_rfl) ?_
     refine (CA ok24 (q3D hy6 ⟨_,_,rfl,(rs H 1),(rs H 2)⟩ ⟨_,_,_,rfl,hS2,hS3,(rs H 5),(rs H 6),(rs H 7)⟩ (H.rG (i:=4) rfl))) ?_
     rintro _ w18 hE ⟨A15,n15,c15,rfl,hI5,H'⟩
     have H:=H.callA H' tv
     refine q0a (H.keep 8 3) ?_
     refine q0f 13 rfl (by kernel_rfl) ?_
     refine (CA ok45 (q2V hy7 ⟨_,_,rfl,(rs H 1),(rs H 2)⟩ ⟨_,_,_,rfl,hS2,hS3,(rs H 5),(rs H 6),(rs H 7)⟩ ⟨_,rfl,hI5,(ro H 5)⟩)) ?_
     rintro _ w19 hE ⟨A16,n16,c16,rfl,hI6,H'⟩
     have H:=H.callA H' tv
     refine q0a (H.keep 8 3) ?_
     refine q0f 14 rfl (by kernel_rfl) ?_
     refine (CA ok44 (q2H hy8 ⟨_,rfl,hI4,(rs H 9)⟩ ⟨_,rfl,hI6,(ro H 6)⟩)) ?_
     rintro _ w20 hE ⟨A17,n17,c17,rfl,hI7,H'⟩
     have H:=H.callA H' tv
     refine q0a (H.keep 8 3) ?_
     refine q0f 16 rfl (by kernel_rfl) ((SB H 3) fun w22 H=>?_)
     refine q0a (H.keep 8 3) ?_
     refine q0i (by kernel_rfl) ?_
     have H:=H.frzO (i:=7) rfl
     obtain rfl:=sm hm3
     exact⟨y8,_,_,rfl,⟨rfl,rfl,rfl,rfl,rfl,rfl,trivial⟩,hI7,H.out (fun _ h=>(h.keep 8).app ⟨h.get (i:=10) rfl,trivial⟩) (List.take_sublist 4 [d2,It.G 60 s4 (.slice A5 n5 c5),d1,It.B b8 60 (q2D y8 A17 n17 c17),It.G 60 y5 (.slice A14 n14 c14),It.O 3 y6.Rows (.slice A15 n15 c15),It.O 3 y7.Rows (.slice A16 n16 c16),It.emp])⟩
    obtain⟨F',M',hfF,hcM⟩:=H.callW [false,true,false,false] ⟨noG,trivial⟩
    obtain⟨H',hcN⟩:=hcM (ps:=d3) ⟨hfF.get (i:=1) rfl,hfF.get (i:=2) rfl,hfF.get (i:=5) rfl,hfF.get (i:=6) rfl,hfF.get (i:=7) rfl,trivial⟩
    refine (CA ok25 (q7e hy5 hS2 hS3 H')) ?_
    rintro _ w17 hE ⟨A14,n14,c14,rfl,H'⟩
    have H:=hcN 1 H' rfl
    refine q0a (H.keep 8 3) ?_
    refine q0s [3,12] (by kernel_rfl) rfl ⟨q0j rfl ?_,q0j rfl ?_,trivial⟩
    ·obtain⟨A13,n13,c13,hA1,hI4,H⟩:=q3o H (i:=1) rfl hx3 hbb7
     refine q0b rfl rfl (q0c rfl ag60 sz60 rfl hA1 rfl) ?_
     refine q0a (H.keep 8 3) ?_
     refine q0f 12 rfl (by kernel_rfl) ?_
     refine (CA ok24 (q3D hy6 ⟨_,_,rfl,(rs H 1),(rs H 2)⟩ ⟨_,_,_,rfl,hS2,hS3,(rs H 5),(rs H 6),(rs H 7)⟩ (H.rG (i:=4) rfl))) ?_
     rintro _ w18 hE ⟨A15,n15,c15,rfl,hI5,H'⟩
     have H:=H.callA H' tv
     refine q0a (H.keep 8 3) ?_
     refine q0f 13 rfl (by kernel_rfl) ?_
     refine (CA ok45 (q2V hy7 ⟨_,_,rfl,(rs H 1),(rs H 2)⟩ ⟨_,_,_,rfl,hS2,hS3,(rs H 5),(rs H 6),(rs H 7)⟩ ⟨_,rfl,hI5,(ro H 5)⟩)) ?_
     rintro _ w19 hE ⟨A16,n16,c16,rfl,hI6,H'⟩
     have H:=H.callA H' tv
     refine q0a (H.keep 8 3) ?_
     refine q0f 14 rfl (by kernel_rfl) ?_
     refine (CA ok44 (q2H hy8 ⟨_,rfl,hI4,(rs H 9)⟩ ⟨_,rfl,hI6,(ro H 6)⟩)) ?_
     rintro _ w20 hE ⟨A17,n17,c17,rfl,hI7,H'⟩
     have H:=H.callA H' tv
     refine q0a (H.keep 8 3) ?_
     refine q0f 16 rfl (by kernel_rfl) ((SB H 3) fun w22 H=>?_)
     refine q0a (H.keep 8 3) ?_
     refine q0i (by kernel_rfl) ?_
     have H:=H.frzO (i:=7) rfl
     obtain rfl:=sm hm3
     exact⟨y8,_,_,rfl,⟨rfl,rfl,rfl,rfl,rfl,rfl,trivial⟩,hI7,H.out (fun _ h=>(h.keep 8).app ⟨h.get (i:=10) rfl,trivial⟩) (List.take_sublist 4 [d2,It.G 60 s4 (.slice A5 n5 c5),d1,It.B b8 60 (q2D y8 A17 n17 c17),It.G 60 y5 (.slice A14 n14 c14),It.O 3 y6.Rows (.slice A15 n15 c15),It.O 3 y7.Rows (.slice A16 n16 c16),It.emp])⟩
    refine (CA ok24 (q3D hy6 ⟨_,_,rfl,(rs H 1),(rs H 2)⟩ ⟨_,_,_,rfl,hS2,hS3,(rs H 5),(rs H 6),(rs H 7)⟩ (H.rG (i:=4) rfl))) ?_
    rintro _ w18 hE ⟨A15,n15,c15,rfl,hI5,H'⟩
    have H:=H.callA H' tv
    refine q0a (H.keep 8 3) ?_
    refine q0s [3,13] (by kernel_rfl) rfl ⟨q0j rfl ?_,q0j rfl ?_,trivial⟩
    ·obtain⟨A13,n13,c13,hA1,hI4,H⟩:=q3o H (i:=1) rfl hx3 hbb7
     refine q0b rfl rfl (q0c rfl ag60 sz60 rfl hA1 rfl) ?_
     refine q0a (H.keep 8 3) ?_
     refine q0f 13 rfl (by kernel_rfl) ?_
     refine (CA ok45 (q2V hy7 ⟨_,_,rfl,(rs H 1),(rs H 2)⟩ ⟨_,_,_,rfl,hS2,hS3,(rs H 5),(rs H 6),(rs H 7)⟩ ⟨_,rfl,hI5,(ro H 5)⟩)) ?_
     rintro _ w19 hE ⟨A16,n16,c16,rfl,hI6,H'⟩
     have H:=H.callA H' tv
     refine q0a (H.keep 8 3) ?_
     refine q0f 14 rfl (by kernel_rfl) ?_
     refine (CA ok44 (q2H hy8 ⟨_,rfl,hI4,(rs H 9)⟩ ⟨_,rfl,hI6,(ro H 6)⟩)) ?_
     rintro _ w20 hE ⟨A17,n17,c17,rfl,hI7,H'⟩
     have H:=H.callA H' tv
     refine q0a (H.keep 8 3) ?_
     refine q0f 16 rfl (by kernel_rfl) ((SB H 3) fun w22 H=>?_)
     refine q0a (H.keep 8 3) ?_
     refine q0i (by kernel_rfl) ?_
     have H:=H.frzO (i:=7) rfl
     obtain rfl:=sm hm3
     exact⟨y8,_,_,rfl,⟨rfl,rfl,rfl,rfl,rfl,rfl,trivial⟩,hI7,H.out (fun _ h=>(h.keep 8).app ⟨h.get (i:=10) rfl,trivial⟩) (List.take_sublist 4 [d2,It.G 60 s4 (.slice A5 n5 c5),d1,It.B b8 60 (q2D y8 A17 n17 c17),It.G 60 y5 (.slice A14 n14 c14),It.O 3 y6.Rows (.slice A15 n15 c15),It.O 3 y7.Rows (.slice A16 n16 c16),It.emp])⟩
    refine (CA ok45 (q2V hy7 ⟨_,_,rfl,(rs H 1),(rs H 2)⟩ ⟨_,_,_,rfl,hS2,hS3,(rs H 5),(rs H 6),(rs H 7)⟩ ⟨_,rfl,hI5,(ro H 5)⟩)) ?_
    rintro _ w19 hE ⟨A16,n16,c16,rfl,hI6,H'⟩
    have H:=H.callA H' tv
    refine q0a (H.keep 8 3) ?_
    refine q0f 3 rfl (by kernel_rfl) ?_
    obtain⟨A13,n13,c13,hA1,hI4,H⟩:=q3o H (i:=1) rfl hx3 hbb7
    refine q0b rfl rfl (q0c rfl ag60 sz60 rfl hA1 rfl) ?_
    refine q0a (H.keep 8 3) ?_
    refine q0f 14 rfl (by kernel_rfl) ?_
    refine (CA ok44 (q2H hy8 ⟨_,rfl,hI4,(rs H 9)⟩ ⟨_,rfl,hI6,(ro H 6)⟩)) ?_
    rintro _ w20 hE ⟨A17,n17,c17,rfl,hI7,H'⟩
    have H:=H.callA H' tv
    refine q0a (H.keep 8 3) ?_
    refine q0f 16 rfl (by kernel_rfl) ((SB H 3) fun w22 H=>?_)
    refine q0a (H.keep 8 3) ?_
    refine q0i (by kernel_rfl) ?_
    have H:=H.frzO (i:=7) rfl
    obtain rfl:=sm hm3
    exact⟨y8,_,_,rfl,⟨rfl,rfl,rfl,rfl,rfl,rfl,trivial⟩,hI7,H.out (fun _ h=>(h.keep 8).app ⟨h.get (i:=10) rfl,trivial⟩) (List.take_sublist 4 [d2,It.G 60 s4 (.slice A5 n5 c5),d1,It.B b8 60 (q2D y8 A17 n17 c17),It.G 60 y5 (.slice A14 n14 c14),It.O 3 y6.Rows (.slice A15 n15 c15),It.O 3 y7.Rows (.slice A16 n16 c16),It.emp])⟩
   rintro ρ' w23 ⟨s7,b6,v2,rfl,hag,hI3,H⟩
   obtain⟨σ,rfl⟩:=q4g hag
   obtain⟨A18,n18,c18,rfl⟩:=(H.rS (i:=8) rfl).form3
   refine Y ?_
   refine q0t 10 hmix (by kernel_rfl) ?_
   refine (qV) ?_
   refine kB hm2 (fun _ hm2=>?_) fun _ hm2=>?_
   ·refine (qO) ((qO) ((qO) ((qO) ((qO) ((qO) ((qO) ((qT) ?_)))))))
    refine QL.nil (fun w24 hE=>?_)
    have H:=H.ext hE
    refine (A) (Z (X ((V) ((V) ((LB H 3) ?_)))))
    refine gg hm2 fun hg3 hm2=>?_
    refine bb hm2 fun x4 hx4 hm2=>?_
    obtain⟨b9,cb9,hvb9,hbb9⟩:=H.ptG (i:=1) rfl hx4
    refine q0b rfl rfl (q0p rfl el54 sz60 rfl hvb9 rfl hg3 (q4X hx4)) ?_
    refine q0S (i:=1) (z:=s7) rfl rfl rfl sz60 rfl rfl rfl (fun F hF=>⟨_,rfl,hI3,(hF.get (i:=8) rfl)⟩) H rfl hbb9 (by simpa using q4X hx4) fun w25 H=>Z ?_
    obtain rfl:=sm hm2
    exact⟨true,(List.set s4 y4.toNat s7),rfl,⟨rfl,rfl,rfl,rfl,trivial⟩,H.keep 3 2⟩
   refine (qG) ((qLB H 3) ((qG) ((qV) ((qG) ((qV) ((qG) ?_))))))
   refine gg hm2 fun hg4 hm2=>?_
   refine bb hm2 fun x5 hx5 hm2=>?_
   obtain⟨b10,cb10,hvb10,hbb10⟩:=H.ptG (i:=1) rfl hx5
   refine q0k rfl rfl (fun _ _=>q0p rfl el54 sz60 rfl hvb10 rfl hg4 (q4X hx5)) ?_
   refine (qG) ?_
   obtain⟨A19,n19,c19,hA2,hI8,H⟩:=q3o H (i:=1) rfl hx5 hbb10
   refine q0k rfl rfl (fun _ hq=>q0c rfl ag60 sz60 rfl (hA2.ext hq) rfl) ?_
   refine (qG) ?_
   refine bb hm2 fun y9 hy9 hm2=>?_
   refine (qC ok46 (fun _ hq=>z6H hy9 ⟨_,rfl,hI3,(rs (H.ext hq) 8)⟩ ⟨_,rfl,hI8,(rs (H.ext hq) 10)⟩)) ?_
   refine (qG) ((qN) ((qU) ?_))
   refine QL.nil (fun w26 hE=>?_)
   have H:=H.ext hE
   refine (A) (Z (X ((V) ((V) ((LB H 3) ?_)))))
   obtain⟨b11,cb11,hvb11,hbb11⟩:=H.ptG (i:=1) rfl hx5
   refine q0b rfl rfl (q0p rfl el54 sz60 rfl hvb11 rfl hg4 (q4X hx5)) ?_
   refine q0S (i:=1) (z:=s7) rfl rfl rfl sz60 rfl rfl rfl (fun F hF=>⟨_,rfl,hI3,(hF.get (i:=8) rfl)⟩) H rfl hbb11 (by simpa using q4X hx5) fun w27 H=>Z ?_
   obtain rfl:=sm hm2
   exact⟨(!y9),(List.set s4 y4.toNat s7),rfl,⟨rfl,rfl,rfl,rfl,trivial⟩,H.keep 3 2⟩
  rintro ρ' w28 ⟨s5,s6,rfl,hag,H⟩
  obtain⟨σ,rfl⟩:=q4g hag
  refine X ((V) ((AN hk4 hl3) ((AZ) ?_)))
  obtain rfl:=sm hb3
  exact⟨⟨k2+1,s5,s6⟩,⟨rfl,rfl,rfl,rfl,trivial⟩,⟨hk4,hq3,H.keep 3 2⟩,Nat.sub_lt_sub_left hk4 (Nat.lt_succ_self _)⟩
 obtain rfl:=e
 refine CE (R ((V) ((N) (Z (iM hb2 (fun _ hb2=>?_) fun _ hb2=>?_)))))
 ·refine R ((V) ((A) ((AZ) (CR ?_))))
  obtain rfl:=sm hb2
  obtain rfl:=ht1 _ rfl
  obtain rfl:=sm hr
  exact⟨_,res2 rfl rfl rfl rfl rfl,H.ext0,_,_,_,rfl,H.outM (fr':=[]) [false,true] tw⟩
 refine K ?_
 obtain rfl:=sm hb2
 exact⟨⟨m2,s4⟩,⟨rfl,rfl,trivial⟩,⟨hs1 _ rfl,H.keep 3 2⟩,Nat.lt_succ_self _⟩
def z8F (y2:Relation):Nat→Unit→Option (Unit ⊕ Bool):=fun k1 _=>(q8y y2 (k1:Int) (k1:Int)).bind fun y3=>if y3=true then some (.inr true) else some (.inl ())
def z2v (a0:Relation):Option Bool:=(q3w a0).bind fun y1=>if y1=true then (q6W a0).bind fun y2=>(z1D (z8F y2) 0 (a0.N.toNat) ()).bind <| onr (fun r1=>some r1) fun _=>some false else some false
theorem j2P {a0}{r}(hr:z2v a0=some r){ca0}(ha0:rd F0 w0 a0 ca0):RB 23 #[ag ca0] w0 r:=by
 have H:=(HL.start F0 w0).argR ha0
 obtain⟨A1,n1,c1,rfl,hI1,H⟩:=q2O H 0
 refine (En Tryz.func23) ?_
 refine R ((BX H) fun b1 w1 H=>(A) (Z (Y (R ((LB H 0) ?_)))))
 refine bb hr fun y1 hy1 hr=>?_
 refine (CA ok47 (q4x hy1 ⟨_,rfl,hI1,(rs H 1)⟩)) (cE H fun w2 H=>(N) (Z (iM hr (fun _ hr=>?_) fun _ hr=>?_)))
 ·exact R ((AZ) (W1 hr))
 refine K (R ((LB H 0) ?_))
 refine bb hr fun y2 hy2 hr=>?_
 refine (CA ok48 (z2u hy2 ⟨_,rfl,hI1,(rs H 1)⟩)) ?_
 rintro _ w3 hE ⟨A2,n2,c2,rfl,hI2,H'⟩
 have H:=H.callA H' tv
 refine (AH ze60 H) fun b2 w4 H=>(SB H 2) fun w5 H=>Z (Y (R ((AZ) ?_)))
 refine bb hr fun q1 hq1 hr=>?_
 refine (lM hq1 (fun k1 _ _=>[(1,pB b1),(3,pB b2),(4,zN k1)]) (fun _ _ w=>HL F0 [] w0 w [.R a0 (q2D a0 A1 n1 c1),.S a0.Rows (.slice A1 n1 c1)] [.B b1 60 (q2D a0 A1 n1 c1),.O 3 y2.Rows (.slice A2 n2 c2),.B b2 60 (q2D y2 A2 n2 c2)]) ()) ?_
 rintro k1 _ _ σ w6 hk1 hq1 H
 refine Y (R ((V) ((D 0) ((L H 0) ((BZ) ?_)))))
 refine q0d rfl (fun h2=>?_) (fun h2=>?_)
 ·have hk2:=z5M h2
  obtain⟨z1,hb1,hs1,ht1⟩:=z5L hq1 hk2
  refine K (Y ?_)
  refine Bk (R ((LB H 2) ((V) ((V) ?_))))
  refine bb hb1 fun y3 hy3 hb1=>?_
  refine (CA ok49 (z5i hy3 ⟨_,rfl,hI2,(ro H 1)⟩ (j0w h2 hI1) (j0w h2 hI1))) (cE H fun w7 H=>Z (iB hb1 (fun _ hb1=>?_) fun _ hb1=>?_))
  ·exact R ((AZ) (W2 hb1 ht1 hr))
  exact K (X ((V) ((BN (q0x (a:=k1) (b:=1) rfl (z2n h2 hI1.2))) ((A) (Z (I2 hb1 hs1 ⟨k1+1,(),()⟩))))))
 obtain rfl:=z3C hq1 (q9Z h2)
 have hr:=(q3q _ _ _).symm.trans hr
 exact CE (R ((AZ) (W1 hr)))
def q5h (a0:Grammar)(y1:(List Relation))(y2:Bool):((List ByteArray) × Int)→Option (((List ByteArray) × Int) ⊕ (List ByteArray)):=fun (s2,s3)=>if s3 < (a0.Rules.length:Int) then if y2=true then ( grd (0≤s3) <| (a0.Rules[s3.toNat]?).bind fun x1=>(q8N a0 x1 y1).bind fun y3=>(q8a a0 x1 y3).bind fun y4=>(z2v y4).bind fun y5=>if y5=true then grd (((s2.length:Int)+1)*16≤140737488355328∧(s2.length:Int)+1≤9223372036854775807) <| some (s2++[x1.Name]) else some s2 ).bind fun s4=>grd (I64 (s3+1)) <| some (.inl (s4,(s3+1))) else some (.inr s2) else some (.inr s2)
def q8k (a0:Grammar):Option (List ByteArray):=(q6s a0).bind fun (y1,y2)=>( q5u (q5h a0 y1 y2) (([]:List ByteArray),0) ).bind fun s1=>some s1
theorem z6I {a0}{r}(hr:q8k a0=some r){ca0}(ha0:rd F0 w0 a0 ca0):RT 12 #[ag ca0] w0 fun v w=>∃ A0 n0 c0,v=(.slice A0 n0 c0)∧HL F0 [] w0 w [] [.O 9 r (.slice A0 n0 c0)]:=by
 have H:=(HL.start F0 w0).argR ha0
 obtain⟨A1,n1,c1,A2,n2,c2,rfl,H⟩:=q2C H 0
 let d5:Pr:=.S a0.Symbols (.slice A1 n1 c1)
 let d2:List Value:=[.slice A1 n1 c1,.slice A2 n2 c2]
 let d3:List Pr:=[.R a0 d2,d5,.S a0.Rules (.slice A2 n2 c2)]
 refine (En Tryz.func12) ?_
 refine R ((BX H) fun b1 w1 H=>(AZ) (R ?_))
 let d6:It:=.B b1 31 d2
 refine q0h (α:=ByteArray) rfl rfl rfl el37 sz9 H fun A3 n3 c3 w2 H=>(A) (Z (R ((LB H 0) ?_)))
 obtain⟨⟨y1,y2⟩,hy1,hr⟩:=bd hr
 obtain⟨F,hF,hcl⟩:=H.call
 refine (CA ok22 (z6d hy1 ⟨_,_,rfl,(hF.get (i:=1) rfl),(hF.get (i:=2) rfl)⟩)) ?_
 rintro _ w3 hE ⟨A4,n4,c4,rfl,H'⟩
 let d4:It:=.G 60 y1 (.slice A4 n4 c4)
 have H:HL F0 [] w0 w3 d3 [d6,.O 9 ([]:List ByteArray) (.slice A3 n3 c3),d4]:=hcl H'
 refine (V) ((EX) ((EX) ((A) ((A) (Z (Y (R ((AZ) ?_))))))))
 refine bb hr fun q1 hm1 hr=>?_
 refine q0o (fun ρ' w=>∃ (s1:List ByteArray) (v1:Value),s1=q1∧q4z ρ' [(3,v1)]∧HL F0 [] w0 w d3 [d6,.O 9 s1 v1,d4]) ?_ ?_
 ·obtain⟨m1,hq1⟩:=q4o.1 hm1
  refine (lI hq1 (fun m1 ⟨s2,s3⟩ v2=>[(1,pB b1),(3,v2),(4,.slice A4 n4 c4),(5,.bool y2),(6,.int .i64 s3)]) (fun ⟨s2,s3⟩ v2 w=>I64 s3∧HL F0 [] w0 w d3 [d6,.O 9 s2 v2,d4]) (.slice A3 n3 c3)) ?_
  rintro m1 ⟨s2,s3⟩ v2 σ w4 hq1 ⟨hI1,H⟩
  obtain⟨A5,n5,c5,rfl⟩:=(fo H 1)
  obtain⟨m2,z1,rfl,hb1,hs1,ht1⟩:=q6H hq1
  refine Y (R ((V) ((D 1) ((L H 0) ((NI H 2) fun hl1=>(B) (jD hb1 (fun _ hb1=>?_) fun _ hb1=>?_))))))
  ·refine (G) ((V) ((T) (Z (iB hb1 (fun _ hb1=>?_) fun _ hb1=>?_))))
   ·refine K ?_
    refine bb hb1 fun q2 hm2 hb1=>Y ?_
    refine q0o (fun ρ' w=>∃ (s4:List ByteArray) (v3:Value),s4=q2∧q4z ρ' [(1,pB b1),(3,v3),(4,.slice A4 n4 c4),(5,.bool y2),(6,.int .i64 s3),(19,.bool y2)]∧HL F0 [] w0 w d3 [d6,.O 9 s4 v3,d4]) ?_ ?_
    ·refine gg hm2 fun hg1 hm2=>?_
     refine bb hm2 fun x1 hx1 hm2=>?_
     obtain⟨b2,ob2,cb2,A6,n6,c6,A7,n7,c7,A8,n8,c8,hvb2,hS1,hS2,H⟩:=q6k H 2 hx1
     let d7:=q3C x1 A6 n6 c6 A7 n7 c7 A8 n8 c8
     let d1:List Pr:=[.R a0 d2,d5,.S a0.Rules (.slice A2 n2 c2),.A b2 (ob2+s3.toNat*6) d7,.R x1 d7,.S x1.Right (.slice A6 n6 c6),.S x1.Equations (.slice A7 n7 c7),.S x1.Contributions (.slice A8 n8 c8)]
     refine Bk (Y ?_)
     refine q0A (fun w=>HL F0 [] w0 w d1 [d6,.O 9 s2 (.slice A5 n5 c5),d4]) hmix (fun w5 hE=>?_)
     have H:HL F0 [] w0 w5 d1 [d6,.O 9 s2 (.slice A5 n5 c5),d4]:=H.ext hE
     refine HW.take 0 (H.keep 8 3) rfl (by kernel_rfl) rfl rfl (fun _ hq=>q0c rfl ag31 sz31 rfl (At.blk (hq.rB (i:=0) rfl)) rfl) ?_
     refine HW.take 1 (H.keep 8 3) rfl (by kernel_rfl) rfl rfl (fun _ _=>q0v rfl j9f rfl) ?_
     refine HW.take 2 (H.keep 8 3) rfl (by kernel_rfl) rfl rfl (fun _ hq=>q0l rfl ag29 rfl ((hq.rB (i:=0) rfl).cell rfl)) ?_
     refine HW.take 3 (H.keep 8 3) rfl (by kernel_rfl) rfl rfl (fun _ _=>q0r rfl rfl) ?_
     refine HW.take 4 (H.keep 8 3) rfl (by kernel_rfl) rfl rfl (fun _ _=>q0p rfl el29 sz65 rfl hvb2 rfl hg1 (q4X hx1)) ?_
     refine HW.take 5 (H.keep 8 3) rfl (by kernel_rfl) rfl rfl (fun _ hq=>q0c rfl ag65 sz65 rfl (hq.rA (i:=3) rfl) rfl) ?_
     refine HW.take 6 (H.keep 8 3) rfl (by kernel_rfl) rfl rfl (fun _ hq=>q0c rfl ag31 sz31 rfl (At.blk (hq.rB (i:=0) rfl)) rfl) ?_
     refine HW.take 7 (H.keep 8 3) rfl (by kernel_rfl) rfl rfl (fun _ _=>q0v rfl j9f rfl) ?_
     refine HW.take 8 (H.keep 8 3) rfl (by kernel_rfl) rfl rfl (fun _ hq=>q0l rfl ag29 rfl ((hq.rB (i:=0) rfl).cell rfl)) ?_
     refine HW.take 9 (H.keep 8 3) rfl (by kernel_rfl) rfl rfl (fun _ _=>q0r rfl rfl) ?_
     refine HW.take 10 (H.keep 8 3) rfl (by kernel_rfl) rfl rfl (fun _ _=>q0p rfl el29 sz65 rfl hvb2 rfl hg1 (q4X hx1)) ?_
     refine HW.take 11 (H.keep 8 3) rfl (by kernel_rfl) rfl rfl (fun _ hq=>q0c rfl ag65 sz65 rfl (hq.rA (i:=3) rfl) rfl) ?_
     refine HW.take 12 (H.keep 8 3) rfl (by kernel_rfl) rfl rfl (fun _ _=>q0r rfl rfl) ?_
     refine q0f 13 rfl (by kernel_rfl) ?_
     refine bb hm2 fun y3 hy2 hm2=>?_
     obtain⟨F',M',hfF,hcM⟩:=H.callW [false,false,true] ⟨noG,trivial⟩
     obtain⟨H',hcN⟩:=hcM (ps:=[d5,.S a0.Rules (.slice A2 n2 c2),.S x1.Right (.slice A6 n6 c6),.S x1.Equations (.slice A7 n7 c7),.S x1.Contributions (.slice A8 n8 c8)]) ⟨hfF.get (i:=1) rfl,hfF.get (i:=2) rfl,hfF.get (i:=5) rfl,hfF.get (i:=6) rfl,hfF.get (i:=7) rfl,trivial⟩
     refine (CA ok25 (q7e hy2 hS1 hS2 H')) ?_
     rintro _ w6 hE ⟨A9,n9,c9,rfl,H'⟩
     have H:=hcN 1 H' rfl
     refine q0a (H.keep 8 3) ?_
     refine q0f 14 rfl (by kernel_rfl) ?_
     refine bb hm2 fun y4 hy3 hm2=>?_
     refine (CA ok24 (q3D hy3 ⟨_,_,rfl,(rs H 1),(rs H 2)⟩ ⟨_,_,_,rfl,hS1,hS2,(rs H 5),(rs H 6),(rs H 7)⟩ (H.rG (i:=3) rfl))) ?_
     rintro _ w7 hE ⟨A10,n10,c10,rfl,hI2,H'⟩
     have H:=H.callA H' tv
     refine q0a (H.keep 8 3) ?_
     refine q0f 15 rfl (by kernel_rfl) ?_
     refine bb hm2 fun y5 hy4 hm2=>?_
     refine (CA ok23 (j2P hy4 ⟨_,rfl,hI2,(ro H 4)⟩)) (cE H fun w8 H=>?_)
     refine q0a (H.keep 8 3) ?_
     refine q0i (by kernel_rfl) (iB hm2 (fun _ hm2=>?_) fun _ hm2=>?_)
     ·refine q0e [(1,pB b1),(3,.slice A5 n5 c5),(4,.slice A4 n4 c4),(5,.bool y2),(6,.int .i64 s3),(19,.bool y2)] ⟨rfl,rfl,rfl,rfl,rfl,rfl,trivial⟩ fun σ=>?_
      have H:HL F0 [] w0 w8 d1 [d6,.O 9 s2 (.slice A5 n5 c5),d4,.G 60 y3 (.slice A9 n9 c9),.O 3 y4.Rows (.slice A10 n10 c10)]:=H
      refine X ((V) ((D 1) ((L H 0) ((V) ?_))))
      refine q0b rfl rfl (q0p rfl el29 sz65 rfl hvb2 rfl hg1 (q4X hx1)) ((D 0) ((LC H 3) ?_))
      refine q0n rfl rfl rfl el37 sz9 ze9 rfl rfl rfl rfl rfl rfl fun b3 w9 hE hb hB=>?_
      have H:=H.newB hE hb hB
      refine gg hm2 fun hg2 hm2=>?_
      exact q0q (i:=1) (ys:=[x1.Name]) rfl rfl rfl el37 sz9 by9 ze9 rfl rfl rfl H rfl (fun _=>ownL.single ⟨rfl,rfl,hS1⟩) (.inr ⟨_,_,rfl,At.blk (rb H 5)⟩) hg2 fun A11 n11 c11 w10 H=>(AZ) (C1 hm2)
     exact K (C1 hm2)
    rintro ρ' w11 ⟨s4,v3,rfl,hag,H⟩
    obtain⟨σ,rfl⟩:=q4g hag
    obtain⟨A12,n12,c12,rfl⟩:=(fo H 1)
    refine X ((V) ?_)
    exact gg hb1 fun hg3 hb1=>(BN (Bin.add hg3)) ((A) (Z (I2 hb1 hs1 ⟨m2,⟨s4,(s3+1)⟩,(.slice A12 n12 c12)⟩)))
   exact CE (C2 hb1 ht1)
  exact (O) ((U) (Z ((cF) (CE (C2 hb1 ht1)))))
 rintro ρ' w12 ⟨s1,v1,rfl,hag,H⟩
 obtain⟨σ,rfl⟩:=q4g hag
 obtain⟨A13,n13,c13,rfl⟩:=(fo H 1)
 exact R ((V) ((AZ) (W1 hr)))
def q5M (a0:Grammar):Option Bool:=(z2s a0).bind fun y1=>if y1=true then (q8k a0).bind fun y2=>some (decide ((y2.length:Int)=0)) else some false
theorem z3a {a0}{r}(hr:q5M a0=some r){ca0}(ha0:rd F0 w0 a0 ca0):RB 5 #[ag ca0] w0 r:=by
 have H:=(HL.start F0 w0).argR ha0
 obtain⟨A1,n1,c1,A2,n2,c2,rfl,H⟩:=q2C H 0
 refine (En Tryz.func5) ?_
 refine R ((BX H) fun b1 w1 H=>(A) (Z (R ((LB H 0) ?_))))
 refine bb hr fun y1 hy1 hr=>?_
 refine (CA ok11 (z8D hy1 ⟨_,_,rfl,(rs H 1),(rs H 2)⟩)) (cE H fun w2 H=>jB hr (fun _ hr=>?_) fun _ hr=>?_)
 ·refine (G) ((LB H 0) ((G) ?_))
  refine bb hr fun y2 hy2 hr=>?_
  refine (CA ok12 (z6I hy2 ⟨_,_,rfl,(rs H 1),(rs H 2)⟩)) ?_
  rintro _ w3 hE ⟨A3,n3,c3,rfl,H'⟩
  have H:=H.callA H' tv
  refine (G) ?_
  have hl1:=(H.rO (i:=1) rfl).I
  exact (NN (ro H 1)) ((G) ((B) ((T) ((AZ) (W1 hr)))))
 exact (O) ((O) ((O) ((O) ((U) ((AZ) (W1 hr))))))
def q2P (a0 a1 a2:Int):Option Bool:=if a1≤a0 then some (decide (a0≤a2)) else some false
theorem q3c {a0 a1 a2}{r}(hr:q2P a0 a1 a2=some r){F0:Nat→Prop}(ha0:I64 a0)(ha1:I64 a1)(ha2:I64 a2):RB 94 #[.int .i64 a0,.int .i64 a1,.int .i64 a2] w0 r:=by
 have H:=HL.start F0 w0
 refine (En Tryz.func94) ?_
 refine R ((A) (Z (R ((V) ((V) ((B) (jD hr (fun _ hr=>?_) fun _ hr=>?_)))))))
 ·exact (G) ((V) ((G) ((V) ((G) ((B) ((T) ((AZ) (W1 hr))))))))
 exact (O) ((O) ((O) ((U) ((AZ) (W1 hr)))))
def z2w (a0:UInt8):Option Bool:=if 97≤(a0.toNat:Int) then some (decide ((a0.toNat:Int)≤122)) else some false
theorem z8G {a0}{r}(hr:z2w a0=some r){F0:Nat→Prop}:RB 204 #[.int .u8 (a0.toNat:Int)] w0 r:=by
 have H:=HL.start F0 w0
 refine (En Tryz.func204) ?_
 refine R ((A) (Z (R ((V) ((B) (jD hr (fun _ hr=>?_) fun _ hr=>?_))))))
 ·exact (G) ((V) ((G) ((B) ((T) ((AZ) (W1 hr))))))
 exact (O) ((O) ((U) ((AZ) (W1 hr))))
def z4E (a0:UInt8):Option Bool:=if 48≤(a0.toNat:Int) then some (decide ((a0.toNat:Int)≤57)) else some false
theorem j2Q {a0}{r}(hr:z4E a0=some r){F0:Nat→Prop}:RB 205 #[.int .u8 (a0.toNat:Int)] w0 r:=by
 have H:=HL.start F0 w0
 refine (En Tryz.func205) ?_
 refine R ((A) (Z (R ((V) ((B) (jD hr (fun _ hr=>?_) fun _ hr=>?_))))))
 ·exact (G) ((V) ((G) ((B) ((T) ((AZ) (W1 hr))))))
 exact (O) ((O) ((U) ((AZ) (W1 hr))))
def z0E (a0:ByteArray):Option Bool:=if a0=(⟨#[105,102]⟩:ByteArray) then if a0=(⟨#[105,102]⟩:ByteArray) then some true else some false else if a0=(⟨#[116,104,101,110]⟩:ByteArray) then if a0=(⟨#[116,104,101,110]⟩:ByteArray) then some true else some false else if a0=(⟨#[101,108,115,101]⟩:ByteArray) then if a0=(⟨#[101,108,115,101]⟩:ByteArray) then some true else some false else if a0=(⟨#[116,114,117,101]⟩:ByteArray) then if a0=(⟨#[116,114,117,101]⟩:ByteArray) then some true else some false else if a0=(⟨#[102,97,108,115,101]⟩:ByteArray) then if a0=(⟨#[102,97,108,115,101]⟩:ByteArray) then some true else some false else if a0=(⟨#[108,105,116]⟩:ByteArray) then if a0=(⟨#[108,105,116]⟩:ByteArray) then some true else some false else if a0=(⟨#[110,111,110,101]⟩:ByteArray) then if a0=(⟨#[110,111,110,101]⟩:ByteArray) then some true else some false else if a0=(⟨#[115,101,108,102]⟩:ByteArray) then if a0=(⟨#[115,101,108,102]⟩:ByteArray) then some true else some false else if a0=(⟨#[111,102]⟩:ByteArray) then if a0=(⟨#[111,102]⟩:ByteArray) then some true else some false else if a0=(⟨#[109,97,120]⟩:ByteArray) then if a0=(⟨#[109,97,120]⟩:ByteArray) then some true else some false else if a0=(⟨#[109,105,110]⟩:ByteArray) then if a0=(⟨#[109,105,110]⟩:ByteArray) then some true else some false else if a0=(⟨#[119,105,116,104]⟩:ByteArray) then if a0=(⟨#[119,105,116,104]⟩:ByteArray) then some true else some false else if a0=(⟨#[104,97,115]⟩:ByteArray) then some true else some false
theorem z9J {a0}{r}(hr:z0E a0=some r){F0:Nat→Prop}(ha0:a0.size≤9223372036854775807):RB 206 #[.string a0] w0 r:=by
 have H:=HL.start F0 w0
 refine (En Tryz.func206) ?_
 refine R ((A) (Z (Y (R ((V) (Z ?_))))))
 refine Bk (Y (R ((B) ((AZ) (iD hr (fun _ hr=>?_) fun _ hr=>?_)))))
 ·refine K (iD hr (fun _ hr=>?_) fun _ hr=>?_)
  ·exact R ((AZ) (W1 hr))
  exact K (R ((AZ) (W1 hr)))
 refine R ((B) ((AZ) (iD hr (fun _ hr=>?_) fun _ hr=>?_)))
 ·refine K (iD hr (fun _ hr=>?_) fun _ hr=>?_)
  ·exact R ((AZ) (W1 hr))
  exact K (R ((AZ) (W1 hr)))
 refine R ((B) ((AZ) (iD hr (fun _ hr=>?_) fun _ hr=>?_)))
 ·refine K (iD hr (fun _ hr=>?_) fun _ hr=>?_)
  ·exact R ((AZ) (W1 hr))
  exact K (R ((AZ) (W1 hr)))
 refine R ((B) ((AZ) (iD hr (fun _ hr=>?_) fun _ hr=>?_)))
 ·refine K (iD hr (fun _ hr=>?_) fun _ hr=>?_)
  ·exact R ((AZ) (W1 hr))
  exact K (R ((AZ) (W1 hr)))
 refine R ((B) ((AZ) (iD hr (fun _ hr=>?_) fun _ hr=>?_)))
 ·refine K (iD hr (fun _ hr=>?_) fun _ hr=>?_)
  ·exact R ((AZ) (W1 hr))
  exact K (R ((AZ) (W1 hr)))
 refine R ((B) ((AZ) (iD hr (fun _ hr=>?_) fun _ hr=>?_)))
 ·refine K (iD hr (fun _ hr=>?_) fun _ hr=>?_)
  ·exact R ((AZ) (W1 hr))
  exact K (R ((AZ) (W1 hr)))
 refine R ((B) ((AZ) (iD hr (fun _ hr=>?_) fun _ hr=>?_)))
 ·refine K (iD hr (fun _ hr=>?_) fun _ hr=>?_)
  ·exact R ((AZ) (W1 hr))
  exact K (R ((AZ) (W1 hr)))
 refine R ((B) ((AZ) (iD hr (fun _ hr=>?_) fun _ hr=>?_)))
 ·refine K (iD hr (fun _ hr=>?_) fun _ hr=>?_)
  ·exact R ((AZ) (W1 hr))
  exact K (R ((AZ) (W1 hr)))
 refine R ((B) ((AZ) (iD hr (fun _ hr=>?_) fun _ hr=>?_)))
 ·refine K (iD hr (fun _ hr=>?_) fun _ hr=>?_)
  ·exact R ((AZ) (W1 hr))
  exact K (R ((AZ) (W1 hr)))
 refine R ((B) ((AZ) (iD hr (fun _ hr=>?_) fun _ hr=>?_)))
 ·refine K (iD hr (fun _ hr=>?_) fun _ hr=>?_)
  ·refine Y ?_
   refine q0e [] trivial fun σ=>?_
   have H:HL F0 [] w0 w0 [] []:=H
   exact X ((AZ) (W1 hr))
  refine K (Y ?_)
  refine q0e [] trivial fun σ=>?_
  have H:HL F0 [] w0 w0 [] []:=H
  exact X ((AZ) (W1 hr))
 refine Y ?_
 refine q0e [(3,.string a0)] ⟨rfl,trivial⟩ fun σ=>?_
 have H:HL F0 [] w0 w0 [] []:=H
 refine X ((B) ((AZ) (iD hr (fun _ hr=>?_) fun _ hr=>?_)))
 ·refine K (iD hr (fun _ hr=>?_) fun _ hr=>?_)
  ·exact R ((AZ) (W1 hr))
  exact K (R ((AZ) (W1 hr)))
 refine R ((B) ((AZ) (iD hr (fun _ hr=>?_) fun _ hr=>?_)))
 ·refine K (iD hr (fun _ hr=>?_) fun _ hr=>?_)
  ·exact R ((AZ) (W1 hr))
  exact K (R ((AZ) (W1 hr)))
 refine X ((B) ((AZ) (iD hr (fun _ hr=>?_) fun _ hr=>?_)))
 ·exact R ((AZ) (W1 hr))
 exact K (R ((AZ) (W1 hr)))
def z3O (a0:ByteArray):Nat→Unit→Option (Unit ⊕ Bool):=fun k1 _=>(a0.data[k1]?).bind fun x1=>(z2w x1).bind fun y1=>if y1=true then some (.inl ()) else (z4E x1).bind fun y2=>if y2=true then some (.inl ()) else some (.inr false)
def q3l (a0:ByteArray):Option Bool:=(z1D (z3O a0) 0 (a0.size) ()).bind <| onr (fun r1=>some r1) fun _=>(q2P (a0.size:Int) 1 8).bind fun y3=>( if y3=true then (a0.data[0]?).bind fun x2=>(z2w x2).bind fun y4=>some y4 else some false ).bind fun s1=>( if s1=true then (z0E a0).bind fun y5=>some (!y5) else some false ).bind fun s2=>some s2
theorem q4a {a0}{r}(hr:q3l a0=some r){F0:Nat→Prop}(ha0:a0.size≤9223372036854775807):RB 182 #[.string a0] w0 r:=by
 have H:=HL.start F0 w0
 refine (En Tryz.func182) ?_
 refine R ((A) (Z (Y (R ((V) ?_)))))
 refine q0b rfl rfl (q0y rfl Tryz.underlying9 rfl) ((V) (Z ?_))
 refine bb hr fun q1 hq1 hr=>?_
 refine (lM hq1 (fun k1 _ _=>[(0,.string a0),(5,.int .i64 (a0.size:Int)),(6,zN k1)]) (fun _ _ w=>HL F0 [] w0 w [] []) ()) ?_
 rintro k1 _ _ σ w1 hk1 hq1 H
 refine R ((BZ) (Y ?_))
 refine q0d rfl (fun h1=>?_) (fun h1=>?_)
 ·have hk2:=q2L h1
  obtain⟨z1,hb1,hs1,ht1⟩:=z5L hq1 hk2
  refine K (Y ?_)
  refine Bk (R ((V) ((A) (Z (R ((V) ((V) ?_)))))))
  refine bb hb1 fun x1 hx1 hb1=>?_
  refine q0b rfl rfl (q1c rfl Tryz.underlying9 rfl rfl hx1) ?_
  refine bb hb1 fun y1 hy1 hb1=>?_
  refine (CA k1q (z8G hy1 (F0:=nF))) (cE H fun w2 H=>(N) (jM hb1 (fun _ hb1=>?_) fun _ hb1=>?_))
  ·refine (G) ((V) ((G) ((V) ((G) ?_))))
   refine q0b rfl rfl (q1c rfl Tryz.underlying9 rfl rfl hx1) ((G) ?_)
   refine bb hb1 fun y2 hy2 hb1=>?_
   refine (CA k3a (j2Q hy2 (F0:=nF))) (cE H fun w3 H=>(G) ((N) ((T) (Z (iM hb1 (fun _ hb1=>?_) fun _ hb1=>?_)))))
   ·exact R ((AZ) (W2 hb1 ht1 hr))
   exact K (X ((BN (q0x (a:=k1) (b:=1) rfl (z2m hk2 (z7X ha0).2))) ((V) (Z (I2 hb1 hs1 ⟨k1+1,(),()⟩)))))
  exact (O) ((O) ((O) ((O) ((O) ((U) (Z ((cF) (K (X ((BN (q0x (a:=k1) (b:=1) rfl (z2m hk2 (z7X ha0).2))) ((V) (Z (I2 hb1 hs1 ⟨k1+1,(),()⟩)))))))))))))
 obtain rfl:=z3C hq1 (q2E h1)
 have hr:=(q3q _ _ _).symm.trans hr
 refine CE (R ((V) ?_))
 refine q0b rfl rfl (q0y rfl Tryz.underlying9 rfl) ?_
 refine bb hr fun y3 hy3 hr=>?_
 refine (CA ok94 (q3c hy3 (F0:=nF) (z7X ha0) dI dI)) (cE H fun w4 H=>?_)
 refine bb hr fun q2 hm1 hr=>?_
 refine cu H 5 [(0,.string a0),(29,.bool q2)] [] [] ?_ fun σ w6 H=>?_
 ·refine jB hm1 (fun _ hm1=>?_) fun _ hm1=>?_
  ·refine (G) ((V) ((G) ?_))
   refine bb hm1 fun x2 hx2 hm1=>?_
   refine q0b rfl rfl (q1c rfl Tryz.underlying9 rfl rfl hx2) ((G) ?_)
   refine bb hm1 fun y4 hy4 hm1=>?_
   exact (CA k1q (z8G hy4 (F0:=nF))) (cE H fun w5 H=>(T) (Z (C1 hm1)))
  exact OF hm1
 refine bb hr fun q3 hm2 hr=>?_
 refine cu H 5 [(34,.bool q3)] [] [] ?_ fun σ w8 H=>?_
 ·refine jB hm2 (fun _ hm2=>?_) fun _ hm2=>?_
  ·refine (G) ((V) ((G) ?_))
   refine bb hm2 fun y5 hy5 hm2=>?_
   exact (CA k3b (z9J hy5 (F0:=nF) ha0)) (cE H fun w7 H=>(G) ((N) ((T) (Z (C1 hm2)))))
  exact OF hm2
 exact (AZ) (W1 hr)
def z3P (a0:Int):Option Bool:=(q2P a0 1 4).bind fun y1=>some y1
theorem j0c {a0}{r}(hr:z3P a0=some r){F0:Nat→Prop}(ha0:I64 a0):RB 203 #[.int .i64 a0] w0 r:=by
 have H:=HL.start F0 w0
 refine (En Tryz.func203) ?_
 refine R ((A) (Z (R ((V) ?_))))
 refine bb hr fun y1 hy1 hr=>?_
 exact (CA ok94 (q3c hy1 (F0:=nF) ha0 dI dI)) (cE H fun w1 H=>(AZ) (W1 hr))
def q6L (a0:Attribute):Option Bool:=(q3l a0.Name).bind fun y1=>( if y1=true then (z3P a0.Type_).bind fun y2=>some (!y2) else some true ).bind fun s1=>( if s1=true then some true else (q2P a0.Mode 1 3).bind fun y3=>some (!y3) ).bind fun s2=>if s2=true then some false else if a0.Mode=3 then ( if a0.Type_=2 then some (!a0.Circular) else some false ).bind fun s3=>some s3 else ( if a0.Circular=true then some (decide (a0.Type_=2)) else some true ).bind fun s4=>some s4
theorem z4M {a0}{r}(hr:q6L a0=some r){ca0}(ha0:rd F0 w0 a0 ca0):RB 180 #[ag ca0] w0 r:=by
 let d1:=q3k a0
 have H:=(HL.start F0 w0).argR ha0
 obtain⟨rfl,hS1,hI1,hI2,H⟩:=q5Y H 0
 refine (En Tryz.func180) ?_
 refine R ((BX H) fun b1 w1 H=>(AZ) (Y ?_))
 refine Bk (R ((D 0) ((L H 0) ?_)))
 refine bb hr fun y1 hy1 hr=>?_
 refine (CA z8q (q4a hy1 (F0:=nF) hS1)) (cE H fun w2 H=>(N) ?_)
 refine bb hr fun q1 hm1 hr=>?_
 refine cu H 6 [(1,pB b1),(13,.bool q1)] [.R a0 d1] [.B b1 120 d1] ?_ fun σ w4 H=>?_
 ·refine jM hm1 (fun _ hm1=>?_) fun _ hm1=>?_
  ·exact OF hm1
  refine (G) ((D 1) ((G) ((L H 0) ((G) ?_))))
  refine bb hm1 fun y2 hy2 hm1=>?_
  exact (CA k1p (j0c hy2 (F0:=nF) hI1)) (cE H fun w3 H=>(G) ((N) ((U) (Z (C1 hm1)))))
 refine bb hr fun q2 hm2 hr=>?_
 refine cu H 6 [(1,pB b1),(19,.bool q2)] [.R a0 d1] [.B b1 120 d1] ?_ fun σ w6 H=>?_
 ·refine jB hm2 (fun _ hm2=>?_) fun _ hm2=>?_
  ·exact OF hm2
  refine (G) ((D 2) ((G) ((L H 0) ((G) ?_))))
  refine bb hm2 fun y3 hy3 hm2=>?_
  exact (CA ok94 (q3c hy3 (F0:=nF) hI2 dI dI)) (cE H fun w5 H=>(G) ((N) ((U) (Z (C1 hm2)))))
 refine (AZ) (iB hr (fun _ hr=>?_) fun _ hr=>?_)
 ·exact R ((AZ) (W1 hr))
 refine R ((D 2) ((L H 0) ((B) ((AZ) (iD hr (fun _ hr=>?_) fun _ hr=>?_)))))
 ·refine R ((D 1) ((L H 0) ((B) ?_)))
  refine bb hr fun q3 hm3 hr=>?_
  refine cu H 5 [(31,.bool q3)] [.R a0 d1] [.B b1 120 d1] ?_ fun σ w7 H=>?_
  ·refine jD hm3 (fun _ hm3=>?_) fun _ hm3=>?_
   ·exact (G) ((D 3) ((G) ((L H 0) ((G) ((N) ((T) (Z (C1 hm3))))))))
   exact OF hm3
  exact (AZ) (W1 hr)
 refine K (R ((D 3) ((L H 0) ((N) ?_))))
 refine bb hr fun q4 hm4 hr=>?_
 refine cu H 5 [(39,.bool q4)] [.R a0 d1] [.B b1 120 d1] ?_ fun σ w8 H=>?_
 ·refine jM hm4 (fun _ hm4=>?_) fun _ hm4=>?_
  ·exact OF hm4
  exact (G) ((D 1) ((G) ((L H 0) ((G) ((B) ((U) (Z (C1 hm4))))))))
 exact (AZ) (W1 hr)
def q7r (a0 a1:Attribute):Option Bool:=some (decide (a0.Name=a1.Name))
theorem z5j {a0 a1}{r}(hr:q7r a0 a1=some r){ca0}(ha0:rd F0 w0 a0 ca0){b1p:Nat}(ha1:CapP F0 w0 b1p a1):RB 181 #[ag ca0,pB b1p] w0 r:=by
 have H:=(HL.start F0 w0).argR ha0
 obtain⟨rfl,hS1,hI1,hI2,H⟩:=q5Y H 0
 obtain⟨cpa1,H⟩:=H.argP ha1
 obtain⟨rfl,hS2,hI3,hI4,H⟩:=q5Y H 2
 refine (En Tryz.func181) ?_
 exact R ((BX H) fun b1 w1 H=>(A) (Z (R ((D 0) ((L H 0) ((D 0) ((LC H 1) ((B) ((AZ) (W1 hr))))))))))
def q4v (a1_0:Attribute):Nat→Attribute→Unit→Option (Unit ⊕ Int):=fun k1 x1 _=>(q7r x1 a1_0).bind fun y1=>if y1=true then some (.inr (k1:Int)) else some (.inl ())
def q3s (a0:(List Attribute))(a1_0:Attribute):Option Int:=(q2I (q4v a1_0) 0 a0 ()).bind <| onr (fun r1=>some r1) fun _=>some (-1)
theorem q6h {a0}{a1_0}{r}(hr:q3s a0 a1_0=some r){z0}(ha0:rdS F0 w0 a0 z0){b1_0p:Nat}(ha1_0:CapP F0 w0 b1_0p a1_0):RT 145 #[z0,.func (.func 181) #[] #[pB b1_0p]] w0 fun v w=>v = .int .i64 r∧I64 r:=by
 exact ixFu (gm:=fun x=>q7r x a1_0) (caps:=[pB b1_0p]) Tryz.func145 hr ha0 k2P fun w1 hE x cs y hy hx=>z5j hy hx (CapP.lt ha1_0 hE)
def q3f (a0:(List Attribute))(a1_0:Attribute):Option Bool:=(q3s a0 a1_0).bind fun y1=>some (decide (0≤y1))
theorem q5O {a0}{a1_0}{r}(hr:q3f a0 a1_0=some r){z0}(ha0:rdS F0 w0 a0 z0){b1_0p:Nat}(ha1_0:CapP F0 w0 b1_0p a1_0):RB 96 #[z0,.func (.func 181) #[] #[pB b1_0p]] w0 r:=by
 exact coF Tryz.func96 hr k1d fun hy=>q6h hy ha0 ha1_0
def q7K (a0:Symbol):Nat→Attribute→Unit→Option (Unit ⊕ Bool):=fun k1 x1 _=>(q6L x1).bind fun y1=>if y1=true then grd (k1≤a0.Attributes.length) <| (q3f (a0.Attributes.take k1) x1).bind fun y2=>if y2=true then some (.inr false) else some (.inl ()) else some (.inr false)
def q8l (a0:Symbol):Option Bool:=(q2I (q7K a0) 0 a0.Attributes ()).bind <| onr (fun r1=>some r1) fun _=>(q3l a0.Name).bind fun y3=>( if y3=true then some (decide ((a0.Attributes.length:Int)≤4)) else some false ).bind fun s1=>some s1
theorem z6J {a0}{r}(hr:q8l a0=some r){ca0}(ha0:rd F0 w0 a0 ca0):RB 139 #[ag ca0] w0 r:=by
 have H:=(HL.start F0 w0).argR ha0
 obtain⟨A1,n1,c1,rfl,hS1,H⟩:=q6T H 0
 let d1:=q3W a0 A1 n1 c1
 let d2:List Pr:=[.R a0 d1,.S a0.Attributes (.slice A1 n1 c1)]
 refine (En Tryz.func139) ?_
 refine R ((BX H) fun b1 w1 H=>(A) (Z (Y (R ((D 1) ((L H 0) ((NI H 1) fun hl1=>(V) (Z ?_))))))))
 refine bb hr fun q1 hq1 hr=>?_
 refine (lF hq1 (fun k1 _ _=>[(1,pB b1),(6,.slice A1 n1 c1),(7,zN a0.Attributes.length),(8,zN k1)]) (fun _ _ w=>HL F0 [] w0 w d2 [.B b1 69 d1]) ()) ?_
 rintro k1 _ _ σ w2 hk1 hq1 H
 refine R ((BZ) (Y ?_))
 refine q0d rfl (fun h1=>?_) (fun h1=>?_)
 ·have hk2:=q2L h1
  obtain⟨x1,z1,hx1,hb1,hs1,ht1⟩:=q4f hq1 hk2
  refine K (Y ?_)
  refine Bk (R ((V) ?_))
  obtain⟨b2,ob2,cb2,hvb2,hS2,hI1,hI2,H⟩:=q4L H 1 hx1
  refine (J 4 hvb2 hx1) ((LA H 2) ((AH q7T H) fun b3 w3 H=>(A) ((SB H 1) fun w4 H=>Z (R ((LB H 1) ?_)))))
  refine bb hb1 fun y1 hy1 hb1=>?_
  refine (CA k2O (z4M hy1 (F0:=nF) ⟨rfl,hS2,hI1,hI2⟩)) (cE H fun w5 H=>(N) (jM hb1 (fun _ hb1=>?_) fun _ hb1=>?_))
  ·exact (O) ((O) ((O) ((O) ((O) ((O) ((T) (Z ((cT) (R ((AZ) (W2 hb1 ht1 hr)))))))))))
  refine (G) ((D 1) ((G) ((L H 0) ((G) ((V) ((G) ?_))))))
  refine gg hb1 fun hg1 hb1=>?_
  obtain⟨A2,n2,c2,e1,hc1,H⟩:=H.slH (i:=1) rfl hg1
  refine q0b rfl rfl (q0L rfl el67 q9m rfl rfl rfl hc1 e1) ((G) ?_)
  refine q0b rfl rfl (q0w rfl rfl rfl) ((G) ?_)
  refine bb hb1 fun y2 hy2 hb1=>?_
  refine (CA ok96 (q5O hy2 (F0:=fun q=>q < _) (rs H 4) ⟨(rb H 1).lt,_,At.blk (rb H 1),⟨rfl,hS2,hI1,hI2⟩⟩)) (cE H fun w6 H=>(U) (Z (iB hb1 (fun _ hb1=>?_) fun _ hb1=>?_)))
  ·exact R ((AZ) (W2 hb1 ht1 hr))
  exact K (X ((AN hk2 hl1) ((V) (Z (I2 hb1 hs1 ⟨k1+1,(),()⟩)))))
 obtain rfl:=q3r hq1 (q2E h1)
 have hr:=(q3q _ _ _).symm.trans hr
 refine CE (R ((D 0) ((L H 0) ?_)))
 refine bb hr fun y3 hy3 hr=>?_
 refine (CA z8q (q4a hy3 (F0:=nF) hS1)) (cE H fun w7 H=>?_)
 refine bb hr fun q2 hm1 hr=>?_
 refine cu H 6 [(33,.bool q2)] d2 [.B b1 69 d1] ?_ fun σ w8 H=>?_
 ·refine jB hm1 (fun _ hm1=>?_) fun _ hm1=>?_
  ·exact (G) ((D 1) ((G) ((L H 0) ((G) ((NN (rs H 1)) ((G) ((B) ((T) (Z (C1 hm1))))))))))
  exact OF hm1
 exact (AZ) (W1 hr)
def q8O (a0 a1:Symbol):Option Bool:=some (decide (a0.Name=a1.Name))
theorem z7G {a0 a1}{r}(hr:q8O a0 a1=some r){ca0}(ha0:rd F0 w0 a0 ca0){b1p:Nat}(ha1:CapP F0 w0 b1p a1):RB 141 #[ag ca0,pB b1p] w0 r:=by
 have H:=(HL.start F0 w0).argR ha0
 obtain⟨A1,n1,c1,rfl,hS1,H⟩:=q6T H 0
 obtain⟨cpa1,H⟩:=H.argP ha1
 obtain⟨A2,n2,c2,rfl,hS2,H⟩:=q6T H 3
 refine (En Tryz.func141) ?_
 exact R ((BX H) fun b1 w1 H=>(A) (Z (R ((D 0) ((L H 0) ((D 0) ((LC H 2) ((B) ((AZ) (W1 hr))))))))))
def q5j (a1_0:Symbol):Nat→Symbol→Unit→Option (Unit ⊕ Int):=fun k1 x1 _=>(q8O x1 a1_0).bind fun y1=>if y1=true then some (.inr (k1:Int)) else some (.inl ())
def q4b (a0:(List Symbol))(a1_0:Symbol):Option Int:=(q2I (q5j a1_0) 0 a0 ()).bind <| onr (fun r1=>some r1) fun _=>some (-1)
theorem q7v {a0}{a1_0}{r}(hr:q4b a0 a1_0=some r){z0}(ha0:rdS F0 w0 a0 z0){b1_0p:Nat}(ha1_0:CapP F0 w0 b1_0p a1_0):RT 109 #[z0,.func (.func 141) #[] #[pB b1_0p]] w0 fun v w=>v = .int .i64 r∧I64 r:=by
 exact ixFu (gm:=fun x=>q8O x a1_0) (caps:=[pB b1_0p]) Tryz.func109 hr ha0 k2r fun w1 hE x cs y hy hx=>z7G hy hx (CapP.lt ha1_0 hE)
def q3E (a0:(List Symbol))(a1_0:Symbol):Option Bool:=(q4b a0 a1_0).bind fun y1=>some (decide (0≤y1))
theorem q6M {a0}{a1_0}{r}(hr:q3E a0 a1_0=some r){z0}(ha0:rdS F0 w0 a0 z0){b1_0p:Nat}(ha1_0:CapP F0 w0 b1_0p a1_0):RB 140 #[z0,.func (.func 141) #[] #[pB b1_0p]] w0 r:=by
 exact coF Tryz.func140 hr k1a fun hy=>q7v hy ha0 ha1_0
def z0F (rec_iCountExpr:Expr→Option Int):Nat→Expr→Int→Option Int:=fun k1 x1 s1=>(rec_iCountExpr x1).bind fun y1=>grd (I64 (s1+y1)) <| some (s1+y1)
def z1O (rec_iCountExpr:Expr→Option Int)(a0:Expr):Option Int:=(q2G (z0F rec_iCountExpr) 0 a0.Args 1).bind fun s1=>some s1
theorem z9K {rec_iCountExpr:Expr→Option Int}(ih_iCountExpr:∀ {a0:Expr} {r:Int},rec_iCountExpr a0=some r→∀ {F0:Nat→Prop} {w0:World} {ca0} (ha0:rd F0 w0 a0 ca0),RT 219 #[ag ca0] w0 fun v w=>v = .int .i64 r∧I64 r){a0}{r}(hr:z1O rec_iCountExpr a0=some r){ca0}(ha0:rd F0 w0 a0 ca0):RT 219 #[ag ca0] w0 fun v w=>v = .int .i64 r∧I64 r:=by
 have H:=(HL.start F0 w0).argR ha0
 obtain⟨A1,n1,c1,rfl,hI1,hI2,hI3,hI4,hS1,hS2,H⟩:=q3X H 0
 refine (En Tryz.func219) ?_
 refine R ((BX H) fun b1 w1 H=>(A) (Z (R ((A) (Z (Y (R ((D 6) ((L H 0) ((NI H 1) fun hl1=>(V) (Z ?_)))))))))))
 refine bb hr fun q1 hq1 hr=>?_
 refine (lE hq1 (fun k1 s1 _=>[(3,.int .i64 s1),(7,.slice A1 n1 c1),(8,zN a0.Args.length),(9,zN k1)]) (fun s1 _ w=>I64 s1∧HL F0 [] w0 w [.R a0 (q2T a0 A1 n1 c1),.S a0.Args (.slice A1 n1 c1)] [.B b1 125 (q2T a0 A1 n1 c1)]) ()) ?_
 rintro k1 s1 _ σ w2 hk1 hq1 ⟨hI5,H⟩
 refine R ((BZ) (Y ?_))
 refine q0d rfl (fun h1=>?_) (fun h1=>?_)
 ·have hk2:=q2L h1
  obtain⟨x1,z1,hx1,hb1,hq1⟩:=q4F hq1 hk2
  refine K (Y ?_)
  refine Bk (R ?_)
  obtain⟨b2,ob2,cb2,A2,n2,c2,hvb2,hI6,hI7,hI8,hI9,hS3,hS4,H⟩:=q4G H 1 hx1
  refine (J 7 hvb2 hx1) ((LA H 2) ((AH z0a H) fun b3 w3 H=>(SB H 1) fun w4 H=>Z (X ((V) ((LB H 1) ?_)))))
  refine bb hb1 fun y1 hy1 hb1=>?_
  refine (CA k1u (ih_iCountExpr hy1 (q2F.2 ⟨_,rfl,hI6,hI7,hI8,hI9,hS3,hS4,(rs H 4)⟩))) (cF' H fun w5 hI10 H=>?_)
  exact gg hb1 fun hg1 hb1=>(BN (Bin.add hg1)) ((A) (Z (X ((AN hk2 hl1) ((V) (Z (I1 hb1 ⟨k1+1,(s1+y1),()⟩)))))))
 obtain rfl:=q3N hq1 (q2E h1)
 exact CE (R ((V) ((AZ) (W1 hr))))
def q8A:Nat→Expr→Option Int
  | 0,_=>none
  | n+1,a0=>z1O (q8A n) a0
def z3Q (a0:Expr):Option Int:=recO fun n=>q8A n a0
theorem z9L (n:Nat):∀ {a0:Expr} {r:Int},q8A n a0=some r→∀ {F0:Nat→Prop} {w0:World} {ca0} (ha0:rd F0 w0 a0 ca0),RT 219 #[ag ca0] w0 fun v w=>v = .int .i64 r∧I64 r:=by
 induction n with
 | zero=>intro a0 r hr; exact nomatch (show (none:Option Int)=some r from hr)
 | succ n ih=>intro a0 r hr; exact z9K ih hr
theorem j0N {a0}{r}(hr:z3Q a0=some r){ca0}(ha0:rd F0 w0 a0 ca0):RT 219 #[ag ca0] w0 fun v w=>v = .int .i64 r∧I64 r:=by
 obtain⟨n,hn⟩:=q5m hr
 exact z9L n hn ha0
def z1g (rec_iDepthOfExpr:Expr→Option Int):Nat→Expr→Int→Option Int:=fun k1 x1 s1=>(rec_iDepthOfExpr x1).bind fun y1=>some (if y1 > s1 then y1 else s1)
def q9N (rec_iDepthOfExpr:Expr→Option Int)(a0:Expr):Option Int:=(q2G (z1g rec_iDepthOfExpr) 0 a0.Args 0).bind fun s1=>grd (I64 (s1+1)) <| some (s1+1)
theorem z7H {rec_iDepthOfExpr:Expr→Option Int}(ih_iDepthOfExpr:∀ {a0:Expr} {r:Int},rec_iDepthOfExpr a0=some r→∀ {F0:Nat→Prop} {w0:World} {ca0} (ha0:rd F0 w0 a0 ca0),RT 220 #[ag ca0] w0 fun v w=>v = .int .i64 r∧I64 r){a0}{r}(hr:q9N rec_iDepthOfExpr a0=some r){ca0}(ha0:rd F0 w0 a0 ca0):RT 220 #[ag ca0] w0 fun v w=>v = .int .i64 r∧I64 r:=by
 have H:=(HL.start F0 w0).argR ha0
 obtain⟨A1,n1,c1,rfl,hI1,hI2,hI3,hI4,hS1,hS2,H⟩:=q3X H 0
 refine (En Tryz.func220) ?_
 refine R ((BX H) fun b1 w1 H=>(A) (Z (R ((A) (Z (Y (R ((D 6) ((L H 0) ((NI H 1) fun hl1=>(V) (Z ?_)))))))))))
 refine bb hr fun q1 hq1 hr=>?_
 refine Bk (CW.loop (α:=Nat × Int) (fun ⟨k1,s1⟩=>[(3,.int .i64 s1),(7,.slice A1 n1 c1),(8,zN a0.Args.length),(9,zN k1)]) (fun ⟨k1,s1⟩ w=>k1≤a0.Args.length∧q2G (z1g rec_iDepthOfExpr) k1 (a0.Args.drop k1) s1=some q1∧I64 s1∧HL F0 [] w0 w [.R a0 (q2T a0 A1 n1 c1),.S a0.Args (.slice A1 n1 c1)] [.B b1 125 (q2T a0 A1 n1 c1)]) (fun ⟨k1,s1⟩=>a0.Args.length - k1) ⟨0,0⟩ ⟨rfl,rfl,rfl,rfl,trivial⟩ ⟨Nat.zero_le _,hq1,dI,H.keep 2 1⟩ ?_)
 rintro⟨k1,s1⟩ σ w2 ⟨hk1,hq1,hI5,H⟩
 refine R ((BZ) (Y ?_))
 refine q0d rfl (fun h1=>?_) (fun h1=>?_)
 ·have hk2:=q2L h1
  obtain⟨x1,z1,hx1,hb1,hq1⟩:=q4F hq1 hk2
  refine K (Y ?_)
  refine Bk (R ?_)
  obtain⟨b2,ob2,cb2,A2,n2,c2,hvb2,hI6,hI7,hI8,hI9,hS3,hS4,H⟩:=q4G H 1 hx1
  refine (J 7 hvb2 hx1) ((LA H 2) ((AH z0a H) fun b3 w3 H=>(SB H 1) fun w4 H=>Z (X ((V) ((LB H 1) ?_)))))
  refine bb hb1 fun y1 hy1 hb1=>?_
  refine (CA k1v (ih_iDepthOfExpr hy1 (q2F.2 ⟨_,rfl,hI6,hI7,hI8,hI9,hS3,hS4,(rs H 4)⟩))) (cF' H fun w5 hI10 H=>?_)
  refine q0b rfl rfl (q1L rfl rfl rfl) ((A) (Z (X ((AN hk2 hl1) ((V) (Z ?_))))))
  obtain rfl:=sm hb1
  exact⟨⟨k1+1,(if y1 > s1 then y1 else s1)⟩,⟨rfl,rfl,rfl,rfl,trivial⟩,⟨hk2,hq1,(j2C hI5 hI10),H.keep 2 1⟩,Nat.sub_lt_sub_left hk2 (Nat.lt_succ_self _)⟩
 obtain rfl:=q3N hq1 (q2E h1)
 refine CE (R ((V) ?_))
 exact gg hr fun hg1 hr=>(BN (Bin.add hg1)) ((AZ) (W1 hr))
def q5D:Nat→Expr→Option Int
  | 0,_=>none
  | n+1,a0=>q9N (q5D n) a0
def z2a (a0:Expr):Option Int:=recO fun n=>q5D n a0
theorem z7I (n:Nat):∀ {a0:Expr} {r:Int},q5D n a0=some r→∀ {F0:Nat→Prop} {w0:World} {ca0} (ha0:rd F0 w0 a0 ca0),RT 220 #[ag ca0] w0 fun v w=>v = .int .i64 r∧I64 r:=by
 induction n with
 | zero=>intro a0 r hr; exact nomatch (show (none:Option Int)=some r from hr)
 | succ n ih=>intro a0 r hr; exact z7H ih hr
theorem z8H {a0}{r}(hr:z2a a0=some r){ca0}(ha0:rd F0 w0 a0 ca0):RT 220 #[ag ca0] w0 fun v w=>v = .int .i64 r∧I64 r:=by
 obtain⟨n,hn⟩:=q5m hr
 exact z7I n hn ha0
def z5k (a0:Int):Option Int:=some (if ((-1000000):Int) > (if (1000000:Int) < a0 then (1000000:Int) else a0) then ((-1000000):Int) else (if (1000000:Int) < a0 then (1000000:Int) else a0))
theorem j1U {a0 r}(hr:z5k a0=some r){F0:Nat→Prop}(ha0:I64 a0):RT 247 #[.int .i64 a0] w0 fun v w=>v = .int .i64 r∧I64 r:=by
 have H:=HL.start F0 w0
 refine (En Tryz.func247) ?_
 refine R ((A) (Z (R ((V) ?_))))
 refine q0b rfl rfl (q2k rfl rfl rfl) ?_
 refine q0b rfl rfl (q1L rfl rfl rfl) ((AZ) (CR ?_))
 obtain rfl:=sm hr
 exact⟨_,res1 rfl rfl rfl,H.ext0,rfl,(j2C (j2C ha0 dI) (by decide:I64 (-1000000)))⟩
def j0O (a0:Bool):Option Int:=if a0=true then some 1 else some 0
theorem j7L {a0}{r}(hr:j0O a0=some r){F0:Nat→Prop}:RT 248 #[.bool a0] w0 fun v w=>v = .int .i64 r∧I64 r:=by
 have H:=HL.start F0 w0
 refine (En Tryz.func248) ?_
 refine R ((A) (Z (Y (R ((V) (Z (iB hr (fun _ hr=>?_) fun _ hr=>?_)))))))
 ·exact R ((AZ) (W1 hr))
 exact K (R ((AZ) (W1 hr)))
def z6e (a0 a1:Int):Option Int:=if a1=1 then (z5k a0).bind fun y1=>some y1 else if a1=2 then some (j7t a0 4095) else if a1=3 then (j0O (!(decide (a0=0)))).bind fun y2=>some y2 else if a1=4 then (q2P a0 0 999).bind fun y3=>if y3=true then some a0 else some 0 else some 0
theorem j4S {a0 a1 r}(hr:z6e a0 a1=some r){F0:Nat→Prop}(ha0:I64 a0)(ha1:I64 a1):RT 244 #[.int .i64 a0,.int .i64 a1] w0 fun v w=>v = .int .i64 r∧I64 r:=by
 have H:=HL.start F0 w0
 refine (En Tryz.func244) ?_
 refine R ((AZ) (Y ?_))
 refine Bk (R ((V) ((B) ((AZ) (iD hr (fun _ hr=>?_) fun _ hr=>?_)))))
 ·refine R ((V) ?_)
  refine bb hr fun y1 hy1 hr=>?_
  exact (CA k3m (j1U hy1 (F0:=nF) ha0)) (cF' H fun w1 hI1 H=>(AZ) (W1 hr))
 refine R ((V) ((B) ((AZ) (iD hr (fun _ hr=>?_) fun _ hr=>?_))))
 ·refine R ((V) ((B) ((AZ) (CR ?_))))
  obtain rfl:=sm hr
  exact⟨_,res1 rfl rfl rfl,H.ext0,rfl,(j3L _)⟩
 refine R ((V) ((B) ((AZ) (iD hr (fun _ hr=>?_) fun _ hr=>?_))))
 ·refine R ((V) ((B) ?_))
  refine bb hr fun y2 hy2 hr=>?_
  exact (CA k3n (j7L hy2 (F0:=nF))) (cF' H fun w2 hI2 H=>(AZ) (W1 hr))
 refine R ((V) ((B) (jD hr (fun _ hr=>?_) fun _ hr=>?_)))
 ·refine (G) ((V) ((G) ?_))
  refine bb hr fun y3 hy3 hr=>?_
  refine (CA ok94 (q3c hy3 (F0:=nF) ha0 dI dI)) (cE H fun w3 H=>(T) ((AZ) (iB hr (fun _ hr=>?_) fun _ hr=>?_)))
  ·exact R ((V) ((AZ) (W1 hr)))
  exact K (R ((AZ) (W1 hr)))
 exact (O) ((O) ((U) ((A) (Z ((cF) (K (R ((AZ) (W1 hr)))))))))
def z3b (a0 a1:Int):Option Bool:=(z3P a1).bind fun y1=>if y1=true then (z6e a0 a1).bind fun y2=>some (decide (y2=a0)) else some false
theorem j1V {a0 a1}{r}(hr:z3b a0 a1=some r){F0:Nat→Prop}(ha0:I64 a0)(ha1:I64 a1):RB 235 #[.int .i64 a0,.int .i64 a1] w0 r:=by
 have H:=HL.start F0 w0
 refine (En Tryz.func235) ?_
 refine R ((A) (Z (R ((V) ?_))))
 refine bb hr fun y1 hy1 hr=>?_
 refine (CA k1p (j0c hy1 (F0:=nF) ha1)) (cE H fun w1 H=>jB hr (fun _ hr=>?_) fun _ hr=>?_)
 ·refine (G) ((V) ((G) ((V) ((G) ?_))))
  refine bb hr fun y2 hy2 hr=>?_
  exact (CA k3k (j4S hy2 (F0:=nF) ha0 ha1)) (cF' H fun w2 hI1 H=>(G) ((V) ((G) ((B) ((T) ((AZ) (W1 hr)))))))
 exact (O) ((O) ((O) ((O) ((O) ((U) ((AZ) (W1 hr)))))))
def q5J (a0 a1:Expr):Option Bool:=( if a0.Kind=a1.Kind then some (decide (a0.N=a1.N)) else some false ).bind fun s1=>( if s1=true then some (decide (a0.Pos=a1.Pos)) else some false ).bind fun s2=>( if s2=true then some (decide (a0.Type_=a1.Type_)) else some false ).bind fun s3=>( if s3=true then some (decide (a0.Symbol=a1.Symbol)) else some false ).bind fun s4=>( if s4=true then some (decide (a0.Name=a1.Name)) else some false ).bind fun s5=>some s5
theorem q6C {a0 a1}{r}(hr:q5J a0 a1=some r){ca0}(ha0:rd F0 w0 a0 ca0){ca1}(ha1:rd F0 w0 a1 ca1):RB 236 #[ag ca0,ag ca1] w0 r:=by
 have H:=((HL.start F0 w0).argR ha0).argR ha1
 obtain⟨A1,n1,c1,rfl,hI1,hI2,hI3,hI4,hS1,hS2,H⟩:=q3X H 0
 obtain⟨A2,n2,c2,rfl,hI5,hI6,hI7,hI8,hS3,hS4,H⟩:=q3X H 1
 let d1:List Pr:=[.R a0 (q2T a0 A1 n1 c1),.R a1 (q2T a1 A2 n2 c2),.S a0.Args (.slice A1 n1 c1),.S a1.Args (.slice A2 n2 c2)]
 refine (En Tryz.func236) ?_
 refine R ((BX H) fun b1 w1 H=>(BX H) fun b2 w2 H=>(A) (Z (R ((D 0) ((L H 0) ((D 0) ((L H 1) ((B) ?_))))))))
 let d2:List It:=[.B b1 125 (q2T a0 A1 n1 c1),.B b2 125 (q2T a1 A2 n2 c2)]
 refine bb hr fun q1 hm1 hr=>?_
 refine cu H 7 [(2,pB b1),(3,pB b2),(4,.bool false),(16,.bool q1)] d1 d2 ?_ fun σ w3 H=>?_
 ·refine jD hm1 (fun _ hm1=>?_) fun _ hm1=>?_
  ·exact (G) ((D 1) ((G) ((L H 0) ((G) ((D 1) ((G) ((L H 1) ((G) ((B) ((T) (Z (C1 hm1))))))))))))
  exact OF hm1
 refine bb hr fun q2 hm2 hr=>?_
 refine cu H 7 [(2,pB b1),(3,pB b2),(4,.bool false),(23,.bool q2)] d1 d2 ?_ fun σ w4 H=>?_
 ·refine jB hm2 (fun _ hm2=>?_) fun _ hm2=>?_
  ·exact (G) ((D 2) ((G) ((L H 0) ((G) ((D 2) ((G) ((L H 1) ((G) ((B) ((T) (Z (C1 hm2))))))))))))
  exact OF hm2
 refine bb hr fun q3 hm3 hr=>?_
 refine cu H 7 [(2,pB b1),(3,pB b2),(4,.bool false),(30,.bool q3)] d1 d2 ?_ fun σ w5 H=>?_
 ·refine jB hm3 (fun _ hm3=>?_) fun _ hm3=>?_
  ·exact (G) ((D 3) ((G) ((L H 0) ((G) ((D 3) ((G) ((L H 1) ((G) ((B) ((T) (Z (C1 hm3))))))))))))
  exact OF hm3
 refine bb hr fun q4 hm4 hr=>?_
 refine cu H 7 [(2,pB b1),(3,pB b2),(4,.bool false),(37,.bool q4)] d1 d2 ?_ fun σ w6 H=>?_
 ·refine jB hm4 (fun _ hm4=>?_) fun _ hm4=>?_
  ·exact (G) ((D 4) ((G) ((L H 0) ((G) ((D 4) ((G) ((L H 1) ((G) ((B) ((T) (Z (C1 hm4))))))))))))
  exact OF hm4
 refine bb hr fun q5 hm5 hr=>?_
 refine cu H 7 [(4,.bool false),(44,.bool q5)] d1 d2 ?_ fun σ w7 H=>?_
 ·refine jB hm5 (fun _ hm5=>?_) fun _ hm5=>?_
  ·exact (G) ((D 5) ((G) ((L H 0) ((G) ((D 5) ((G) ((L H 1) ((G) ((B) ((T) (Z (C1 hm5))))))))))))
  exact OF hm5
 exact (AZ) (W1 hr)
def z0G (a0:Expr):Option Bool:=if a0.Kind=1 then ( if a0.Type_=4 then some true else (z3b a0.N a0.Type_).bind fun y1=>some (!y1) ).bind fun s1=>( if s1=true then some true else some (decide (a0.N < 0)) ).bind fun s2=>if s2=true then some false else ( if (a0.Args.length:Int)=0 then (q2P a0.Pos 0 3).bind fun y2=>some y2 else some false ).bind fun s3=>( if s3=true then (q5J a0 (⟨a0.Kind,a0.N,0,a0.Type_,(⟨#[]⟩:ByteArray),(⟨#[]⟩:ByteArray),a0.Args⟩:Expr)).bind fun y3=>some y3 else some false ).bind fun s4=>some s4 else if a0.Kind=3 then (q3l a0.Name).bind fun y4=>if y4=true then ( if (a0.Args.length:Int)=0 then (q2P a0.Pos 0 3).bind fun y5=>some y5 else some false ).bind fun s5=>( if s5=true then (q5J a0 (⟨a0.Kind,0,a0.Pos,0,(⟨#[]⟩:ByteArray),a0.Name,a0.Args⟩:Expr)).bind fun y6=>some y6 else some false ).bind fun s6=>some s6 else some false else if a0.Kind=4 then (q2P a0.N 1 12).bind fun y7=>if y7=true then ( if (a0.Args.length:Int)=2 then (q2P a0.Pos 0 3).bind fun y8=>some y8 else some false ).bind fun s7=>( if s7=true then (q5J a0 (⟨a0.Kind,a0.N,0,0,(⟨#[]⟩:ByteArray),(⟨#[]⟩:ByteArray),a0.Args⟩:Expr)).bind fun y9=>some y9 else some false ).bind fun s8=>some s8 else some false else if a0.Kind=5 then ( if (a0.Args.length:Int)=3 then (q2P a0.Pos 0 3).bind fun y10=>some y10 else some false ).bind fun s9=>( if s9=true then (q5J a0 (⟨a0.Kind,0,0,0,(⟨#[]⟩:ByteArray),(⟨#[]⟩:ByteArray),a0.Args⟩:Expr)).bind fun y11=>some y11 else some false ).bind fun s10=>some s10 else if a0.Kind=6 then ( if (a0.Args.length:Int)=0 then (q2P a0.Pos 0 3).bind fun y12=>some y12 else some false ).bind fun s11=>( if s11=true then (q5J a0 (⟨a0.Kind,0,a0.Pos,0,(⟨#[]⟩:ByteArray),(⟨#[]⟩:ByteArray),a0.Args⟩:Expr)).bind fun y13=>some y13 else some false ).bind fun s12=>some s12 else if a0.Kind=8 then (q3l a0.Symbol).bind fun y14=>( if y14=true then (q3l a0.Name).bind fun y15=>some (!y15) else some true ).bind fun s13=>if s13=true then some false else ( if (a0.Args.length:Int)=1 then (q2P a0.Pos 0 3).bind fun y16=>some y16 else some false ).bind fun s14=>( if s14=true then (q5J a0 (⟨a0.Kind,0,0,0,a0.Symbol,a0.Name,a0.Args⟩:Expr)).bind fun y17=>some y17 else some false ).bind fun s15=>some s15 else if a0.Kind=2 then if a0.Kind=2 then ( if (a0.Args.length:Int)=0 then (q2P a0.Pos 0 3).bind fun y18=>some y18 else some false ).bind fun s16=>( if s16=true then (q5J a0 (⟨a0.Kind,0,0,0,(⟨#[]⟩:ByteArray),(⟨#[]⟩:ByteArray),a0.Args⟩:Expr)).bind fun y19=>some y19 else some false ).bind fun s17=>some s17 else some false else if a0.Kind=7 then ( if (a0.Args.length:Int)=0 then (q2P a0.Pos 0 3).bind fun y20=>some y20 else some false ).bind fun s18=>( if s18=true then (q5J a0 (⟨a0.Kind,0,0,0,(⟨#[]⟩:ByteArray),(⟨#[]⟩:ByteArray),a0.Args⟩:Expr)).bind fun y21=>some y21 else some false ).bind fun s19=>some s19 else some false
theorem z9M {a0}{r}(hr:z0G a0=some r){ca0}(ha0:rd F0 w0 a0 ca0):RB 221 #[ag ca0] w0 r:=by
 have H:=(HL.start F0 w0).argR ha0
 obtain⟨A1,n1,c1,rfl,hI1,hI2,hI3,hI4,hS1,hS2,H⟩:=q3X H 0
 let d8:List Value:=[.int .i64 a0.Kind,.int .i64 0,.int .i64 a0.Pos,.int .i64 0,.string eB,.string eB,.slice A1 n1 c1]
 let d7:List Value:=[.int .i64 a0.Kind,.int .i64 0,.int .i64 0,.int .i64 0,.string a0.Symbol,.string a0.Name,.slice A1 n1 c1]
 let d6:List Value:=[.int .i64 a0.Kind,.int .i64 0,.int .i64 a0.Pos,.int .i64 0,.string eB,.string a0.Name,.slice A1 n1 c1]
 let d5:List Value:=[.int .i64 a0.Kind,.int .i64 a0.N,.int .i64 0,.int .i64 0,.string eB,.string eB,.slice A1 n1 c1]
 let d2:List Pr:=[.R a0 (q2T a0 A1 n1 c1),.S a0.Args (.slice A1 n1 c1)]
 refine (En Tryz.func221) ?_
 refine R ((BX H) fun b1 w1 H=>(A) (Z (R ((D 0) ((L H 0) ((D 6) ((L H 0) ?_)))))))
 let d4:It:=.B b1 125 (q2T a0 A1 n1 c1)
 refine q0b rfl rfl (Ev.build rfl j9H z0a rfl rfl rfl rfl) ((AH z0a H) fun b2 w2 H=>(SB H 1) fun w3 H=>Z (R ((A) (Z (Y (R ((D 0) ((L H 0) (Z ?_)))))))))
 let d3:List It:=[d4,.B b2 125 [.int .i64 a0.Kind,.int .i64 a0.N,.int .i64 0,.int .i64 a0.Type_,.string eB,.string eB,.slice A1 n1 c1]]
 let d1:List It:=[d4,.B b2 125 [.int .i64 a0.Kind,.int .i64 0,.int .i64 0,.int .i64 0,.string eB,.string eB,.slice A1 n1 c1]]
 refine Bk (R ((B) ((AZ) (iD hr (fun _ hr=>?_) fun _ hr=>?_))))
 ·refine Y ?_
  refine q0A (fun w=>∃ v1_1_:Value,∃ v1_3_:Value,HL F0 [] w0 w d2 [d4,.B b2 125 [.int .i64 a0.Kind,v1_1_,.int .i64 0,v1_3_,.string eB,.string eB,.slice A1 n1 c1]]) hmix (fun w4 hE=>?_)
  have H:HL F0 [] w0 w4 d2 d1:=H.ext hE
  refine HW.take 0 ⟨_,_,H.keep 2 2⟩ rfl (by kernel_rfl) rfl rfl (fun _ _=>q0v rfl j5O rfl) ?_
  refine HW.take 1 ⟨_,_,H.keep 2 2⟩ rfl (by kernel_rfl) rfl rfl (fun _ ⟨_,_,hq⟩=>q0l rfl ag3 rfl ((hq.rB (i:=0) rfl).cell rfl)) ?_
  refine HW.take 2 ⟨_,_,H.keep 2 2⟩ rfl (by kernel_rfl) rfl rfl (fun _ _=>q0v rfl j5Q rfl) ?_
  refine HW.take 3 ⟨_,_,H.keep 2 2⟩ rfl (by kernel_rfl) rfl rfl (fun _ ⟨_,_,hq⟩=>q0l rfl ag3 rfl ((hq.rB (i:=0) rfl).cell rfl)) ?_
  refine HW.take 4 ⟨_,_,H.keep 2 2⟩ rfl (by kernel_rfl) rfl rfl (fun _ _=>q0v rfl j5O rfl) ?_
  refine q0f 5 rfl (by kernel_rfl) ((SB H 1) fun w5 H=>?_)
  refine q0a ⟨_,_,H.keep 2 2⟩ ?_
  refine HW.take 6 ⟨_,_,H.keep 2 2⟩ rfl (by kernel_rfl) rfl rfl (fun _ _=>q0v rfl j5Q rfl) ?_
  refine q0f 7 rfl (by kernel_rfl) ((SB H 1) fun w6 H=>?_)
  refine q0a ⟨_,_,H.keep 2 2⟩ ?_
  refine q0i (by kernel_rfl) (R ((D 3) ((L H 0) ((B) ?_))))
  refine bb hr fun q1 hm1 hr=>?_
  refine cu H 8 [(1,pB b1),(3,pB b2),(4,.int .i64 0),(30,.bool q1)] d2 d3 ?_ fun σ w8 H=>?_
  ·refine jD hm1 (fun _ hm1=>?_) fun _ hm1=>?_
   ·exact OF hm1
   refine (G) ((D 1) ((G) ((L H 0) ((G) ((D 3) ((G) ((L H 0) ((G) ?_))))))))
   refine bb hm1 fun y1 hy1 hm1=>?_
   exact (CA k3h (j1V hy1 (F0:=nF) hI2 hI4)) (cE H fun w7 H=>(G) ((N) ((U) (Z (C1 hm1)))))
  refine bb hr fun q2 hm2 hr=>?_
  refine cu H 5 [(1,pB b1),(3,pB b2),(4,.int .i64 0),(35,.bool q2)] d2 d3 ?_ fun σ w9 H=>?_
  ·refine jB hm2 (fun _ hm2=>?_) fun _ hm2=>?_
   ·exact OF hm2
   exact (G) ((D 1) ((G) ((L H 0) ((G) ((B) ((U) (Z (C1 hm2))))))))
  refine Z (iB hr (fun _ hr=>?_) fun _ hr=>?_)
  ·exact R ((AZ) (W1 hr))
  refine K (R ((D 6) ((L H 0) ((NI H 1) fun hl1=>(V) ((B) ?_)))))
  refine bb hr fun q3 hm3 hr=>?_
  refine cu H 5 [(1,pB b1),(3,pB b2),(94,.bool q3)] d2 d3 ?_ fun σ w11 H=>?_
  ·refine jD hm3 (fun _ hm3=>?_) fun _ hm3=>?_
   ·refine (G) ((D 2) ((G) ((L H 0) ((G) ?_))))
    refine bb hm3 fun y2 hy2 hm3=>?_
    exact (CA ok94 (q3c hy2 (F0:=nF) hI3 dI dI)) (cE H fun w10 H=>(T) (Z (C1 hm3)))
   exact OF hm3
  refine bb hr fun q4 hm4 hr=>?_
  refine cu H 5 [(99,.bool q4)] d2 d3 ?_ fun σ w13 H=>?_
  ·refine jB hm4 (fun _ hm4=>?_) fun _ hm4=>?_
   ·refine (G) ((LB H 0) ((G) ((LB H 1) ((G) ?_))))
    refine bb hm4 fun y3 hy3 hm4=>?_
    exact (CA j1M (q6C hy3 (q2F.2 ⟨_,rfl,hI1,hI2,hI3,hI4,hS1,hS2,(rs H 1)⟩) (q2F.2 ⟨_,rfl,hI1,hI2,dI,hI4,dI,dI,(rs H 1)⟩))) (cE H fun w12 H=>(T) (Z (C1 hm4)))
   exact OF hm4
  exact (AZ) (W1 hr)
 refine R ((B) ((AZ) (iD hr (fun _ hr=>?_) fun _ hr=>?_)))
 ·refine Y ?_
  refine q0A (fun w=>∃ v1_2_:Value,∃ v1_5_:Value,HL F0 [] w0 w d2 [d4,.B b2 125 [.int .i64 a0.Kind,.int .i64 0,v1_2_,.int .i64 0,.string eB,v1_5_,.slice A1 n1 c1]]) hmix (fun w14 hE=>?_)
  have H:HL F0 [] w0 w14 d2 d1:=H.ext hE
  refine HW.take 0 ⟨_,_,H.keep 2 2⟩ rfl (by kernel_rfl) rfl rfl (fun _ _=>q0v rfl j5P rfl) ?_
  refine HW.take 1 ⟨_,_,H.keep 2 2⟩ rfl (by kernel_rfl) rfl rfl (fun _ ⟨_,_,hq⟩=>q0l rfl ag3 rfl ((hq.rB (i:=0) rfl).cell rfl)) ?_
  refine HW.take 2 ⟨_,_,H.keep 2 2⟩ rfl (by kernel_rfl) rfl rfl (fun _ _=>q0v rfl j0D rfl) ?_
  refine HW.take 3 ⟨_,_,H.keep 2 2⟩ rfl (by kernel_rfl) rfl rfl (fun _ ⟨_,_,hq⟩=>q0l rfl ag9 rfl ((hq.rB (i:=0) rfl).cell rfl)) ?_
  refine HW.take 4 ⟨_,_,H.keep 2 2⟩ rfl (by kernel_rfl) rfl rfl (fun _ _=>q0v rfl j5P rfl) ?_
  refine q0f 5 rfl (by kernel_rfl) ((SB H 1) fun w15 H=>?_)
  refine q0a ⟨_,_,H.keep 2 2⟩ ?_
  refine HW.take 6 ⟨_,_,H.keep 2 2⟩ rfl (by kernel_rfl) rfl rfl (fun _ _=>q0v rfl j0D rfl) ?_
  refine q0f 7 rfl (by kernel_rfl) ((SB H 1) fun w16 H=>?_)
  refine q0a ⟨_,_,H.keep 2 2⟩ ?_
  refine q0i (by kernel_rfl) (Y ?_)
  refine q0e [(1,pB b1),(3,pB b2),(4,.int .i64 0)] ⟨rfl,rfl,rfl,trivial⟩ fun σ=>?_
  have H:HL F0 [] w0 w16 d2 [d4,.B b2 125 d6]:=H
  refine X ((D 5) ((L H 0) ?_))
  refine bb hr fun y4 hy4 hr=>?_
  refine (CA z8q (q4a hy4 (F0:=nF) hS2)) (cE H fun w17 H=>(N) (Z (iM hr (fun _ hr=>?_) fun _ hr=>?_)))
  ·exact R ((AZ) (W1 hr))
  refine K (R ((D 6) ((L H 0) ((NI H 1) fun hl2=>(V) ((B) ?_)))))
  refine bb hr fun q5 hm5 hr=>?_
  refine cu H 5 [(1,pB b1),(3,pB b2),(94,.bool q5)] d2 [d4,.B b2 125 d6] ?_ fun σ w19 H=>?_
  ·refine jD hm5 (fun _ hm5=>?_) fun _ hm5=>?_
   ·refine (G) ((D 2) ((G) ((L H 0) ((G) ?_))))
    refine bb hm5 fun y5 hy5 hm5=>?_
    exact (CA ok94 (q3c hy5 (F0:=nF) hI3 dI dI)) (cE H fun w18 H=>(T) (Z (C1 hm5)))
   exact OF hm5
  refine bb hr fun q6 hm6 hr=>?_
  refine cu H 5 [(99,.bool q6)] d2 [d4,.B b2 125 d6] ?_ fun σ w21 H=>?_
  ·refine jB hm6 (fun _ hm6=>?_) fun _ hm6=>?_
   ·refine (G) ((LB H 0) ((G) ((LB H 1) ((G) ?_))))
    refine bb hm6 fun y6 hy6 hm6=>?_
    exact (CA j1M (q6C hy6 (q2F.2 ⟨_,rfl,hI1,hI2,hI3,hI4,hS1,hS2,(rs H 1)⟩) (q2F.2 ⟨_,rfl,hI1,dI,hI3,dI,dI,hS2,(rs H 1)⟩))) (cE H fun w20 H=>(T) (Z (C1 hm6)))
   exact OF hm6
  exact (AZ) (W1 hr)
 refine R ((B) ((AZ) (iD hr (fun _ hr=>?_) fun _ hr=>?_)))
 ·refine R ((D 1) ((L H 0) ((D 1) ((SB H 1) fun w22 H=>(AZ) (Y ?_)))))
  refine q0e [(1,pB b1),(3,pB b2),(4,.int .i64 2)] ⟨rfl,rfl,rfl,trivial⟩ fun σ=>?_
  have H:HL F0 [] w0 w22 d2 [d4,.B b2 125 d5]:=H
  refine X ((D 1) ((L H 0) ?_))
  refine bb hr fun y7 hy7 hr=>?_
  refine (CA ok94 (q3c hy7 (F0:=nF) hI2 dI dI)) (cE H fun w23 H=>(N) (Z (iM hr (fun _ hr=>?_) fun _ hr=>?_)))
  ·exact R ((AZ) (W1 hr))
  refine K (R ((D 6) ((L H 0) ((NI H 1) fun hl3=>(V) ((B) ?_)))))
  refine bb hr fun q7 hm7 hr=>?_
  refine cu H 5 [(1,pB b1),(3,pB b2),(94,.bool q7)] d2 [d4,.B b2 125 d5] ?_ fun σ w25 H=>?_
  ·refine jD hm7 (fun _ hm7=>?_) fun _ hm7=>?_
   ·refine (G) ((D 2) ((G) ((L H 0) ((G) ?_))))
    refine bb hm7 fun y8 hy8 hm7=>?_
    exact (CA ok94 (q3c hy8 (F0:=nF) hI3 dI dI)) (cE H fun w24 H=>(T) (Z (C1 hm7)))
   exact OF hm7
  refine bb hr fun q8 hm8 hr=>?_
  refine cu H 5 [(99,.bool q8)] d2 [d4,.B b2 125 d5] ?_ fun σ w27 H=>?_
  ·refine jB hm8 (fun _ hm8=>?_) fun _ hm8=>?_
   ·refine (G) ((LB H 0) ((G) ((LB H 1) ((G) ?_))))
    refine bb hm8 fun y9 hy9 hm8=>?_
    exact (CA j1M (q6C hy9 (q2F.2 ⟨_,rfl,hI1,hI2,hI3,hI4,hS1,hS2,(rs H 1)⟩) (q2F.2 ⟨_,rfl,hI1,hI2,dI,dI,dI,dI,(rs H 1)⟩))) (cE H fun w26 H=>(T) (Z (C1 hm8)))
   exact OF hm8
  exact (AZ) (W1 hr)
 refine R ((B) ((AZ) (iD hr (fun _ hr=>?_) fun _ hr=>?_)))
 ·refine X ((A) (Z (R ((D 6) ((L H 0) ((NI H 1) fun hl4=>(V) ((B) ?_)))))))
  refine bb hr fun q9 hm9 hr=>?_
  refine cu H 5 [(1,pB b1),(2,.bool false),(3,pB b2),(94,.bool q9)] d2 d1 ?_ fun σ w29 H=>?_
  ·refine jD hm9 (fun _ hm9=>?_) fun _ hm9=>?_
   ·refine (G) ((D 2) ((G) ((L H 0) ((G) ?_))))
    refine bb hm9 fun y10 hy10 hm9=>?_
    exact (CA ok94 (q3c hy10 (F0:=nF) hI3 dI dI)) (cE H fun w28 H=>(T) (Z (C1 hm9)))
   exact OF hm9
  refine bb hr fun q10 hm10 hr=>?_
  refine cu H 5 [(2,.bool false),(99,.bool q10)] d2 d1 ?_ fun σ w31 H=>?_
  ·refine jB hm10 (fun _ hm10=>?_) fun _ hm10=>?_
   ·refine (G) ((LB H 0) ((G) ((LB H 1) ((G) ?_))))
    refine bb hm10 fun y11 hy11 hm10=>?_
    exact (CA j1M (q6C hy11 (q2F.2 ⟨_,rfl,hI1,hI2,hI3,hI4,hS1,hS2,(rs H 1)⟩) (q2F.2 ⟨_,rfl,hI1,dI,dI,dI,dI,dI,(rs H 1)⟩))) (cE H fun w30 H=>(T) (Z (C1 hm10)))
   exact OF hm10
  exact (AZ) (W1 hr)
 refine R ((B) ((AZ) (iD hr (fun _ hr=>?_) fun _ hr=>?_)))
 ·refine q0e [(1,pB b1),(3,pB b2),(4,.int .i64 0)] ⟨rfl,rfl,rfl,trivial⟩ fun σ=>?_
  have H:HL F0 [] w0 w3 d2 d1:=H
  refine X ((D 2) ((L H 0) ((D 2) ((SB H 1) fun w32 H=>Z (R ((D 6) ((L H 0) ((NI H 1) fun hl5=>(V) ((B) ?_)))))))))
  refine bb hr fun q11 hm11 hr=>?_
  refine cu H 5 [(1,pB b1),(3,pB b2),(94,.bool q11)] d2 [d4,.B b2 125 d8] ?_ fun σ w34 H=>?_
  ·refine jD hm11 (fun _ hm11=>?_) fun _ hm11=>?_
   ·refine (G) ((D 2) ((G) ((L H 0) ((G) ?_))))
    refine bb hm11 fun y12 hy12 hm11=>?_
    exact (CA ok94 (q3c hy12 (F0:=nF) hI3 dI dI)) (cE H fun w33 H=>(T) (Z (C1 hm11)))
   exact OF hm11
  refine bb hr fun q12 hm12 hr=>?_
  refine cu H 5 [(99,.bool q12)] d2 [d4,.B b2 125 d8] ?_ fun σ w36 H=>?_
  ·refine jB hm12 (fun _ hm12=>?_) fun _ hm12=>?_
   ·refine (G) ((LB H 0) ((G) ((LB H 1) ((G) ?_))))
    refine bb hm12 fun y13 hy13 hm12=>?_
    exact (CA j1M (q6C hy13 (q2F.2 ⟨_,rfl,hI1,hI2,hI3,hI4,hS1,hS2,(rs H 1)⟩) (q2F.2 ⟨_,rfl,hI1,dI,hI3,dI,dI,dI,(rs H 1)⟩))) (cE H fun w35 H=>(T) (Z (C1 hm12)))
   exact OF hm12
  exact (AZ) (W1 hr)
 refine Y ?_
 refine q0e [(1,pB b1),(3,pB b2),(4,.int .i64 0),(11,.int .i64 a0.Kind)] ⟨rfl,rfl,rfl,rfl,trivial⟩ fun σ=>?_
 have H:HL F0 [] w0 w3 d2 d1:=H
 refine X ((B) ((AZ) (iD hr (fun _ hr=>?_) fun _ hr=>?_)))
 ·refine Y ?_
  refine q0A (fun w=>∃ v1_4_:Value,∃ v1_5_:Value,HL F0 [] w0 w d2 [d4,.B b2 125 [.int .i64 a0.Kind,.int .i64 0,.int .i64 0,.int .i64 0,v1_4_,v1_5_,.slice A1 n1 c1]]) hmix (fun w37 hE=>?_)
  have H:HL F0 [] w0 w37 d2 d1:=H.ext hE
  refine HW.take 0 ⟨_,_,H.keep 2 2⟩ rfl (by kernel_rfl) rfl rfl (fun _ _=>q0v rfl j5R rfl) ?_
  refine HW.take 1 ⟨_,_,H.keep 2 2⟩ rfl (by kernel_rfl) rfl rfl (fun _ ⟨_,_,hq⟩=>q0l rfl ag9 rfl ((hq.rB (i:=0) rfl).cell rfl)) ?_
  refine HW.take 2 ⟨_,_,H.keep 2 2⟩ rfl (by kernel_rfl) rfl rfl (fun _ _=>q0v rfl j0D rfl) ?_
  refine HW.take 3 ⟨_,_,H.keep 2 2⟩ rfl (by kernel_rfl) rfl rfl (fun _ ⟨_,_,hq⟩=>q0l rfl ag9 rfl ((hq.rB (i:=0) rfl).cell rfl)) ?_
  refine HW.take 4 ⟨_,_,H.keep 2 2⟩ rfl (by kernel_rfl) rfl rfl (fun _ _=>q0v rfl j5R rfl) ?_
  refine q0f 5 rfl (by kernel_rfl) ((SB H 1) fun w38 H=>?_)
  refine q0a ⟨_,_,H.keep 2 2⟩ ?_
  refine HW.take 6 ⟨_,_,H.keep 2 2⟩ rfl (by kernel_rfl) rfl rfl (fun _ _=>q0v rfl j0D rfl) ?_
  refine q0f 7 rfl (by kernel_rfl) ((SB H 1) fun w39 H=>?_)
  refine q0a ⟨_,_,H.keep 2 2⟩ ?_
  refine HW.take 8 ⟨_,_,H.keep 2 2⟩ rfl (by kernel_rfl) rfl rfl (fun _ _=>q0Z rfl rfl) ?_
  refine q0i (by kernel_rfl) (R ((D 4) ((L H 0) ?_)))
  refine bb hr fun y14 hy14 hr=>?_
  refine (CA z8q (q4a hy14 (F0:=nF) hS1)) (cE H fun w40 H=>(N) ?_)
  refine bb hr fun q13 hm13 hr=>?_
  refine cu H 6 [(1,pB b1),(3,pB b2),(4,.int .i64 1),(81,.bool q13)] d2 [d4,.B b2 125 d7] ?_ fun σ w42 H=>?_
  ·refine jM hm13 (fun _ hm13=>?_) fun _ hm13=>?_
   ·exact OF hm13
   refine (G) ((D 5) ((G) ((L H 0) ((G) ?_))))
   refine bb hm13 fun y15 hy15 hm13=>?_
   exact (CA z8q (q4a hy15 (F0:=nF) hS2)) (cE H fun w41 H=>(G) ((N) ((U) (Z (C1 hm13)))))
  refine Z (iB hr (fun _ hr=>?_) fun _ hr=>?_)
  ·exact R ((AZ) (W1 hr))
  refine K (R ((D 6) ((L H 0) ((NI H 1) fun hl6=>(V) ((B) ?_)))))
  refine bb hr fun q14 hm14 hr=>?_
  refine cu H 5 [(1,pB b1),(3,pB b2),(94,.bool q14)] d2 [d4,.B b2 125 d7] ?_ fun σ w44 H=>?_
  ·refine jD hm14 (fun _ hm14=>?_) fun _ hm14=>?_
   ·refine (G) ((D 2) ((G) ((L H 0) ((G) ?_))))
    refine bb hm14 fun y16 hy16 hm14=>?_
    exact (CA ok94 (q3c hy16 (F0:=nF) hI3 dI dI)) (cE H fun w43 H=>(T) (Z (C1 hm14)))
   exact OF hm14
  refine bb hr fun q15 hm15 hr=>?_
  refine cu H 5 [(99,.bool q15)] d2 [d4,.B b2 125 d7] ?_ fun σ w46 H=>?_
  ·refine jB hm15 (fun _ hm15=>?_) fun _ hm15=>?_
   ·refine (G) ((LB H 0) ((G) ((LB H 1) ((G) ?_))))
    refine bb hm15 fun y17 hy17 hm15=>?_
    exact (CA j1M (q6C hy17 (q2F.2 ⟨_,rfl,hI1,hI2,hI3,hI4,hS1,hS2,(rs H 1)⟩) (q2F.2 ⟨_,rfl,hI1,dI,dI,dI,hS1,hS2,(rs H 1)⟩))) (cE H fun w45 H=>(T) (Z (C1 hm15)))
   exact OF hm15
  exact (AZ) (W1 hr)
 refine Y (R ((B) ((AZ) (iD hr (fun _ hr=>?_) fun _ hr=>?_))))
 ·refine K (iD hr (fun _ hr=>?_) fun _ hr=>?_)
  ·refine K (R ((D 6) ((L H 0) ((NI H 1) fun hl7=>(V) ((B) ?_)))))
   refine bb hr fun q16 hm16 hr=>?_
   refine cu H 5 [(1,pB b1),(3,pB b2),(94,.bool q16)] d2 d1 ?_ fun σ w48 H=>?_
   ·refine jD hm16 (fun _ hm16=>?_) fun _ hm16=>?_
    ·refine (G) ((D 2) ((G) ((L H 0) ((G) ?_))))
     refine bb hm16 fun y18 hy18 hm16=>?_
     exact (CA ok94 (q3c hy18 (F0:=nF) hI3 dI dI)) (cE H fun w47 H=>(T) (Z (C1 hm16)))
    exact OF hm16
   refine bb hr fun q17 hm17 hr=>?_
   refine cu H 5 [(99,.bool q17)] d2 d1 ?_ fun σ w50 H=>?_
   ·refine jB hm17 (fun _ hm17=>?_) fun _ hm17=>?_
    ·refine (G) ((LB H 0) ((G) ((LB H 1) ((G) ?_))))
     refine bb hm17 fun y19 hy19 hm17=>?_
     exact (CA j1M (q6C hy19 (q2F.2 ⟨_,rfl,hI1,hI2,hI3,hI4,hS1,hS2,(rs H 1)⟩) (q2F.2 ⟨_,rfl,hI1,dI,dI,dI,dI,dI,(rs H 1)⟩))) (cE H fun w49 H=>(T) (Z (C1 hm17)))
    exact OF hm17
   exact (AZ) (W1 hr)
  exact R ((AZ) (W1 hr))
 refine X ((B) ((AZ) (iD hr (fun _ hr=>?_) fun _ hr=>?_)))
 ·refine K (R ((D 6) ((L H 0) ((NI H 1) fun hl8=>(V) ((B) ?_)))))
  refine bb hr fun q18 hm18 hr=>?_
  refine cu H 5 [(1,pB b1),(3,pB b2),(94,.bool q18)] d2 d1 ?_ fun σ w52 H=>?_
  ·refine jD hm18 (fun _ hm18=>?_) fun _ hm18=>?_
   ·refine (G) ((D 2) ((G) ((L H 0) ((G) ?_))))
    refine bb hm18 fun y20 hy20 hm18=>?_
    exact (CA ok94 (q3c hy20 (F0:=nF) hI3 dI dI)) (cE H fun w51 H=>(T) (Z (C1 hm18)))
   exact OF hm18
  refine bb hr fun q19 hm19 hr=>?_
  refine cu H 5 [(99,.bool q19)] d2 d1 ?_ fun σ w54 H=>?_
  ·refine jB hm19 (fun _ hm19=>?_) fun _ hm19=>?_
   ·refine (G) ((LB H 0) ((G) ((LB H 1) ((G) ?_))))
    refine bb hm19 fun y21 hy21 hm19=>?_
    exact (CA j1M (q6C hy21 (q2F.2 ⟨_,rfl,hI1,hI2,hI3,hI4,hS1,hS2,(rs H 1)⟩) (q2F.2 ⟨_,rfl,hI1,dI,dI,dI,dI,dI,(rs H 1)⟩))) (cE H fun w53 H=>(T) (Z (C1 hm19)))
   exact OF hm19
  exact (AZ) (W1 hr)
 exact R ((AZ) (W1 hr))
def q5P (rec_ieveryNode_iexprNodeOk:Expr→Option Bool)(a0:Expr):Option Bool:=(rec_ieveryNode_iexprNodeOk a0).bind fun y1=>some (!y1)
theorem z1h {rec_ieveryNode_iexprNodeOk:Expr→Option Bool}(ih_ieveryNode_iexprNodeOk:∀ {a0:Expr} {r:Bool},rec_ieveryNode_iexprNodeOk a0=some r→∀ {F0:Nat→Prop} {w0:World} {ca0} (ha0:rd F0 w0 a0 ca0),RB 189 #[ag ca0,.func (.func 221) #[] #[]] w0 r){a0}{r}(hr:q5P rec_ieveryNode_iexprNodeOk a0=some r){ca0}(ha0:rd F0 w0 a0 ca0){b1p:Nat}(ha1:F0 b1p∧At w0 b1p 0 [.func (.func 221) #[] #[]]):RB 209 #[ag ca0,pB b1p] w0 r:=by
 have H:=(HL.start F0 w0).argR ha0
 obtain⟨A1,n1,c1,rfl,hI1,hI2,hI3,hI4,hS1,hS2,H⟩:=q3X H 0
 have H:=H.argA ha1
 refine (En Tryz.func209) ?_
 refine R ((BX H) fun b1 w1 H=>(A) (Z (R ((LB H 0) ((L0 H 2) ?_)))))
 refine bb hr fun y1 hy1 hr=>?_
 exact (CA j4F (ih_ieveryNode_iexprNodeOk hy1 (F0:=fun q=>q < _) (q2F.2 ⟨_,rfl,hI1,hI2,hI3,hI4,hS1,hS2,(rs H 1)⟩))) (cE H fun w2 H=>(N) ((AZ) (W1 hr)))
def q4h (rec_ieveryNode_iexprNodeOk:Expr→Option Bool):Nat→Expr→Unit→Option (Unit ⊕ Int):=fun k1 x1 _=>(q5P rec_ieveryNode_iexprNodeOk x1).bind fun y1=>if y1=true then some (.inr (k1:Int)) else some (.inl ())
def q3g (rec_ieveryNode_iexprNodeOk:Expr→Option Bool)(a0:(List Expr)):Option Int:=(q2I (q4h rec_ieveryNode_iexprNodeOk) 0 a0 ()).bind <| onr (fun r1=>some r1) fun _=>some (-1)
theorem q5Q {rec_ieveryNode_iexprNodeOk:Expr→Option Bool}(ih_ieveryNode_iexprNodeOk:∀ {a0:Expr} {r:Bool},rec_ieveryNode_iexprNodeOk a0=some r→∀ {F0:Nat→Prop} {w0:World} {ca0} (ha0:rd F0 w0 a0 ca0),RB 189 #[ag ca0,.func (.func 221) #[] #[]] w0 r){a0}{r}(hr:q3g rec_ieveryNode_iexprNodeOk a0=some r){z0}(ha0:rdS F0 w0 a0 z0){b1_0p:Nat}(ha1_0:F0 b1_0p∧At w0 b1_0p 0 [.func (.func 221) #[] #[]]):RT 188 #[z0,.func (.func 209) #[] #[pB b1_0p]] w0 fun v w=>v = .int .i64 r∧I64 r:=by
 obtain⟨A0',n0',c0',rfl⟩:=ha0.form3
 have H:=(HL.start F0 w0).argS ha0
 have H:=H.argA ha1_0
 refine (En Tryz.func188) ?_
 refine R ((A) (Z (Y (R ((V) ((NI H 0) fun hl1=>(V) (Z ?_)))))))
 refine bb hr fun q1 hq1 hr=>?_
 refine (lF hq1 (fun k1 _ _=>[(0,.slice A0' n0' c0'),(1,.func (.func 209) #[] #[pB b1_0p]),(7,zN a0.length),(8,zN k1)]) (fun _ _ w=>HL F0 [] w0 w [.S a0 (.slice A0' n0' c0'),.A b1_0p 0 [.func (.func 221) #[] #[]]] []) ()) ?_
 rintro k1 _ _ σ w1 hk1 hq1 H
 refine R ((BZ) (Y ?_))
 refine q0d rfl (fun h1=>?_) (fun h1=>?_)
 ·have hk2:=q2L h1
  obtain⟨x1,z1,hx1,hb1,hs1,ht1⟩:=q4f hq1 hk2
  refine K (Y ?_)
  refine Bk (R ((V) ((A) (Z (R ((V) ((V) ((V) ?_))))))))
  obtain⟨b1,ob1,cb1,A1,n1,c1,hvb1,hI1,hI2,hI3,hI4,hS1,hS2,H⟩:=q4G H 0 hx1
  refine (J 7 hvb1 hx1) ((LA H 2) ?_)
  refine bb hb1 fun y1 hy1 hb1=>?_
  refine (CA j9S (z1h ih_ieveryNode_iexprNodeOk hy1 (F0:=fun q=>q < _) (q2F.2 ⟨_,rfl,hI1,hI2,hI3,hI4,hS1,hS2,(rs H 4)⟩) ⟨H.rAl (i:=1) rfl,H.rA (i:=1) rfl⟩)) (cE H fun w2 H=>Z (iB hb1 (fun _ hb1=>?_) fun _ hb1=>?_))
  ·exact R ((V) ((AZ) (W2 hb1 ht1 hr)))
  exact K (X ((AN hk2 hl1) ((V) (Z (I2 hb1 hs1 ⟨k1+1,(),()⟩)))))
 obtain rfl:=q3r hq1 (q2E h1)
 have hr:=(q3q _ _ _).symm.trans hr
 exact CE (R ((AZ) (W1 hr)))
def q3b (rec_ieveryNode_iexprNodeOk:Expr→Option Bool)(a0:(List Expr)):Option Bool:=(q3g rec_ieveryNode_iexprNodeOk a0).bind fun y1=>some (decide (0≤y1))
theorem q5G {rec_ieveryNode_iexprNodeOk:Expr→Option Bool}(ih_ieveryNode_iexprNodeOk:∀ {a0:Expr} {r:Bool},rec_ieveryNode_iexprNodeOk a0=some r→∀ {F0:Nat→Prop} {w0:World} {ca0} (ha0:rd F0 w0 a0 ca0),RB 189 #[ag ca0,.func (.func 221) #[] #[]] w0 r){a0}{r}(hr:q3b rec_ieveryNode_iexprNodeOk a0=some r){z0}(ha0:rdS F0 w0 a0 z0){b1_0p:Nat}(ha1_0:F0 b1_0p∧At w0 b1_0p 0 [.func (.func 221) #[] #[]]):RB 154 #[z0,.func (.func 209) #[] #[pB b1_0p]] w0 r:=by
 obtain⟨A0',n0',c0',rfl⟩:=ha0.form3
 have H:=(HL.start F0 w0).argS ha0
 have H:=H.argA ha1_0
 refine (En Tryz.func154) ?_
 refine R ((A) (Z (R ((V) ((V) ?_)))))
 refine bb hr fun y1 hy1 hr=>?_
 exact (CA j7K (q5Q ih_ieveryNode_iexprNodeOk hy1 (F0:=fun q=>q < _) (rs H 0) ⟨H.rAl (i:=1) rfl,H.rA (i:=1) rfl⟩)) (cF' H fun w1 hI1 H=>(B) ((AZ) (W1 hr)))
def q5r (rec_ieveryNode_iexprNodeOk:Expr→Option Bool)(a0:Expr):Option Bool:=(z0G a0).bind fun y1=>if y1=true then (q3b rec_ieveryNode_iexprNodeOk a0.Args).bind fun y2=>some (!y2) else some false
theorem z1E {rec_ieveryNode_iexprNodeOk:Expr→Option Bool}(ih_ieveryNode_iexprNodeOk:∀ {a0:Expr} {r:Bool},rec_ieveryNode_iexprNodeOk a0=some r→∀ {F0:Nat→Prop} {w0:World} {ca0} (ha0:rd F0 w0 a0 ca0),RB 189 #[ag ca0,.func (.func 221) #[] #[]] w0 r){a0}{r}(hr:q5r rec_ieveryNode_iexprNodeOk a0=some r){ca0}(ha0:rd F0 w0 a0 ca0):RB 189 #[ag ca0,.func (.func 221) #[] #[]] w0 r:=by
 have H:=(HL.start F0 w0).argR ha0
 obtain⟨A1,n1,c1,rfl,hI1,hI2,hI3,hI4,hS1,hS2,H⟩:=q3X H 0
 refine (En Tryz.func189) ?_
 refine R ((BX H) fun b1 w1 H=>(BX H) fun b2 w2 H=>(A) (Z (R ((L H 1) ((LB H 0) ?_)))))
 refine bb hr fun y1 hy1 hr=>?_
 refine (CA k3f (z9M hy1 (q2F.2 ⟨_,rfl,hI1,hI2,hI3,hI4,hS1,hS2,(rs H 1)⟩))) (cE H fun w3 H=>jB hr (fun _ hr=>?_) fun _ hr=>?_)
 ·refine (G) ((D 6) ((G) ((L H 0) ((G) ?_))))
  refine q0b rfl rfl (q0w rfl rfl rfl) ((G) ?_)
  refine bb hr fun y2 hy2 hr=>?_
  exact (CA j7J (q5G ih_ieveryNode_iexprNodeOk hy2 (F0:=fun q=>q < _) (rs H 1) ⟨(rb H 1).lt,At.blk (rb H 1)⟩)) (cE H fun w4 H=>(G) ((N) ((T) ((AZ) (W1 hr)))))
 exact (O) ((O) ((O) ((O) ((O) ((U) ((AZ) (W1 hr)))))))
def q4C:Nat→Expr→Option Bool
  | 0,_=>none
  | n+1,a0=>q5r (q4C n) a0
def q6t (a0:Expr):Option Bool:=recO fun n=>q4C n a0
theorem z1F (n:Nat):∀ {a0:Expr} {r:Bool},q4C n a0=some r→∀ {F0:Nat→Prop} {w0:World} {ca0} (ha0:rd F0 w0 a0 ca0),RB 189 #[ag ca0,.func (.func 221) #[] #[]] w0 r:=by
 induction n with
 | zero=>intro a0 r hr; exact nomatch (show (none:Option Bool)=some r from hr)
 | succ n ih=>intro a0 r hr; exact z1E ih hr
theorem z2b {a0}{r}(hr:q6t a0=some r){ca0}(ha0:rd F0 w0 a0 ca0):RB 189 #[ag ca0,.func (.func 221) #[] #[]] w0 r:=by
 obtain⟨n,hn⟩:=q5m hr
 exact z1F n hn ha0
def q9O (a0:Expr):Option Bool:=(z3Q a0).bind fun y1=>( if y1≤24 then (z2a a0).bind fun y2=>some (decide (y2≤6)) else some false ).bind fun s1=>( if s1=true then (q6t a0).bind fun y3=>some y3 else some false ).bind fun s2=>some s2
theorem z8I {a0}{r}(hr:q9O a0=some r){ca0}(ha0:rd F0 w0 a0 ca0):RB 207 #[ag ca0] w0 r:=by
 have H:=(HL.start F0 w0).argR ha0
 obtain⟨A1,n1,c1,rfl,hI1,hI2,hI3,hI4,hS1,hS2,H⟩:=q3X H 0
 let d1:=q2T a0 A1 n1 c1
 let d2:List Pr:=[.R a0 d1,.S a0.Args (.slice A1 n1 c1)]
 refine (En Tryz.func207) ?_
 refine R ((BX H) fun b1 w1 H=>(A) (Z (R ((LB H 0) ?_))))
 refine bb hr fun y1 hy1 hr=>?_
 refine (CA k1u (j0N hy1 (q2F.2 ⟨_,rfl,hI1,hI2,hI3,hI4,hS1,hS2,(rs H 1)⟩))) (cF' H fun w2 hI5 H=>(B) ?_)
 refine bb hr fun q1 hm1 hr=>?_
 refine cu H 5 [(1,pB b1),(2,.bool false),(10,.bool q1)] d2 [.B b1 125 d1] ?_ fun σ w4 H=>?_
 ·refine jD hm1 (fun _ hm1=>?_) fun _ hm1=>?_
  ·refine (G) ((LB H 0) ((G) ?_))
   refine bb hm1 fun y2 hy2 hm1=>?_
   exact (CA k1v (z8H hy2 (q2F.2 ⟨_,rfl,hI1,hI2,hI3,hI4,hS1,hS2,(rs H 1)⟩))) (cF' H fun w3 hI6 H=>(G) ((B) ((T) (Z (C1 hm1)))))
  exact OF hm1
 refine bb hr fun q2 hm2 hr=>?_
 refine cu H 4 [(2,.bool false),(14,.bool q2)] d2 [.B b1 125 d1] ?_ fun σ w6 H=>?_
 ·refine jB hm2 (fun _ hm2=>?_) fun _ hm2=>?_
  ·refine (G) ((LB H 0) ((G) ?_))
   refine bb hm2 fun y3 hy3 hm2=>?_
   exact (CA j4F (z2b hy3 (F0:=fun q=>q < _) (q2F.2 ⟨_,rfl,hI1,hI2,hI3,hI4,hS1,hS2,(rs H 1)⟩))) (cE H fun w5 H=>(T) (Z (C1 hm2)))
  exact OF hm2
 exact (AZ) (W1 hr)
def z8J (a0:Expr)(a1:Int):Option Bool:=some (decide (a0.Pos≤a1))
theorem j4T {a0}{a1}{r}(hr:z8J a0 a1=some r){ca0}(ha0:rd F0 w0 a0 ca0){b1p:Nat}(ha1:CapP F0 w0 b1p a1):RB 208 #[ag ca0,pB b1p] w0 r:=by
 have H:=(HL.start F0 w0).argR ha0
 obtain⟨A1,n1,c1,rfl,hI1,hI2,hI3,hI4,hS1,hS2,H⟩:=q3X H 0
 obtain⟨cpa1,H⟩:=H.argP ha1
 obtain⟨rfl,hI5,H⟩:=j1I H 3
 refine (En Tryz.func208) ?_
 exact R ((BX H) fun b1 w1 H=>(A) (Z (R ((D 2) ((L H 0) ((L0 H 2) ((B) ((AZ) (W1 hr)))))))))
def q7i (rec_ieveryNode_ifits_1:Expr→Int→Option Bool)(a0:Expr)(a1_0:Int):Option Bool:=(rec_ieveryNode_ifits_1 a0 a1_0).bind fun y1=>some (!y1)
theorem z3c {rec_ieveryNode_ifits_1:Expr→Int→Option Bool}(ih_ieveryNode_ifits_1:∀ {a0:Expr} {a1_0:Int} {r:Bool},rec_ieveryNode_ifits_1 a0 a1_0=some r→∀ {F0:Nat→Prop} {w0:World} {ca0} (ha0:rd F0 w0 a0 ca0) {b1_0p:Nat} (ha1_0:CapP F0 w0 b1_0p a1_0),RB 189 #[ag ca0,.func (.func 208) #[] #[pB b1_0p]] w0 r){a0}{a1_0}{r}(hr:q7i rec_ieveryNode_ifits_1 a0 a1_0=some r){ca0}(ha0:rd F0 w0 a0 ca0){b1_0p:Nat}(ha1_0:CapP F0 w0 b1_0p a1_0){b1p:Nat}(ha1:F0 b1p∧At w0 b1p 0 [.func (.func 208) #[] #[pB b1_0p]]):RB 209 #[ag ca0,pB b1p] w0 r:=by
 have H:=(HL.start F0 w0).argR ha0
 obtain⟨A1,n1,c1,rfl,hI1,hI2,hI3,hI4,hS1,hS2,H⟩:=q3X H 0
 obtain⟨cpa1_0,H⟩:=H.argP ha1_0
 obtain⟨rfl,hI5,H⟩:=j1I H 3
 have H:=H.argA ha1
 refine (En Tryz.func209) ?_
 refine R ((BX H) fun b1 w1 H=>(A) (Z (R ((LB H 0) ((L0 H 4) ?_)))))
 refine bb hr fun y1 hy1 hr=>?_
 exact (CA j4F (ih_ieveryNode_ifits_1 hy1 (F0:=fun q=>q < _) (q2F.2 ⟨_,rfl,hI1,hI2,hI3,hI4,hS1,hS2,(rs H 1)⟩) ⟨H.rAl (i:=2) rfl,_,H.rA (i:=2) rfl,⟨rfl,hI5⟩⟩)) (cE H fun w2 H=>(N) ((AZ) (W1 hr)))
def q4D (rec_ieveryNode_ifits_1:Expr→Int→Option Bool)(a1_0_0:Int):Nat→Expr→Unit→Option (Unit ⊕ Int):=fun k1 x1 _=>(q7i rec_ieveryNode_ifits_1 x1 a1_0_0).bind fun y1=>if y1=true then some (.inr (k1:Int)) else some (.inl ())
def q3x (rec_ieveryNode_ifits_1:Expr→Int→Option Bool)(a0:(List Expr))(a1_0_0:Int):Option Int:=(q2I (q4D rec_ieveryNode_ifits_1 a1_0_0) 0 a0 ()).bind <| onr (fun r1=>some r1) fun _=>some (-1)
theorem q6u {rec_ieveryNode_ifits_1:Expr→Int→Option Bool}(ih_ieveryNode_ifits_1:∀ {a0:Expr} {a1_0:Int} {r:Bool},rec_ieveryNode_ifits_1 a0 a1_0=some r→∀ {F0:Nat→Prop} {w0:World} {ca0} (ha0:rd F0 w0 a0 ca0) {b1_0p:Nat} (ha1_0:CapP F0 w0 b1_0p a1_0),RB 189 #[ag ca0,.func (.func 208) #[] #[pB b1_0p]] w0 r){a0}{a1_0_0 r}(hr:q3x rec_ieveryNode_ifits_1 a0 a1_0_0=some r){z0}(ha0:rdS F0 w0 a0 z0){b1_0_0p:Nat}(ha1_0_0:CapP F0 w0 b1_0_0p a1_0_0){b1_0p:Nat}(ha1_0:F0 b1_0p∧At w0 b1_0p 0 [.func (.func 208) #[] #[pB b1_0_0p]]):RT 188 #[z0,.func (.func 209) #[] #[pB b1_0p]] w0 fun v w=>v = .int .i64 r∧I64 r:=by
 obtain⟨A0',n0',c0',rfl⟩:=ha0.form3
 have H:=(HL.start F0 w0).argS ha0
 obtain⟨cpa1_0_0,H⟩:=H.argP ha1_0_0
 obtain⟨rfl,hI1,H⟩:=j1I H 2
 have H:=H.argA ha1_0
 refine (En Tryz.func188) ?_
 refine R ((A) (Z (Y (R ((V) ((NI H 0) fun hl1=>(V) (Z ?_)))))))
 refine bb hr fun q1 hq1 hr=>?_
 refine (lF hq1 (fun k1 _ _=>[(0,.slice A0' n0' c0'),(1,.func (.func 209) #[] #[pB b1_0p]),(7,zN a0.length),(8,zN k1)]) (fun _ _ w=>HL F0 [] w0 w [.S a0 (.slice A0' n0' c0'),.A b1_0_0p 0 [.int .i64 a1_0_0],.R a1_0_0 [.int .i64 a1_0_0],.A b1_0p 0 [.func (.func 208) #[] #[pB b1_0_0p]]] []) ()) ?_
 rintro k1 _ _ σ w1 hk1 hq1 H
 refine R ((BZ) (Y ?_))
 refine q0d rfl (fun h1=>?_) (fun h1=>?_)
 ·have hk2:=q2L h1
  obtain⟨x1,z1,hx1,hb1,hs1,ht1⟩:=q4f hq1 hk2
  refine K (Y ?_)
  refine Bk (R ((V) ((A) (Z (R ((V) ((V) ((V) ?_))))))))
  obtain⟨b1,ob1,cb1,A1,n1,c1,hvb1,hI2,hI3,hI4,hI5,hS1,hS2,H⟩:=q4G H 0 hx1
  refine (J 7 hvb1 hx1) ((LA H 4) ?_)
  refine bb hb1 fun y1 hy1 hb1=>?_
  refine (CA j9S (z3c ih_ieveryNode_ifits_1 hy1 (F0:=fun q=>q < _) (q2F.2 ⟨_,rfl,hI2,hI3,hI4,hI5,hS1,hS2,(rs H 6)⟩) ⟨H.rAl (i:=1) rfl,_,H.rA (i:=1) rfl,⟨rfl,hI1⟩⟩ ⟨H.rAl (i:=3) rfl,H.rA (i:=3) rfl⟩)) (cE H fun w2 H=>Z (iB hb1 (fun _ hb1=>?_) fun _ hb1=>?_))
  ·exact R ((V) ((AZ) (W2 hb1 ht1 hr)))
  exact K (X ((AN hk2 hl1) ((V) (Z (I2 hb1 hs1 ⟨k1+1,(),()⟩)))))
 obtain rfl:=q3r hq1 (q2E h1)
 have hr:=(q3q _ _ _).symm.trans hr
 exact CE (R ((AZ) (W1 hr)))
def q3m (rec_ieveryNode_ifits_1:Expr→Int→Option Bool)(a0:(List Expr))(a1_0_0:Int):Option Bool:=(q3x rec_ieveryNode_ifits_1 a0 a1_0_0).bind fun y1=>some (decide (0≤y1))
theorem q6b {rec_ieveryNode_ifits_1:Expr→Int→Option Bool}(ih_ieveryNode_ifits_1:∀ {a0:Expr} {a1_0:Int} {r:Bool},rec_ieveryNode_ifits_1 a0 a1_0=some r→∀ {F0:Nat→Prop} {w0:World} {ca0} (ha0:rd F0 w0 a0 ca0) {b1_0p:Nat} (ha1_0:CapP F0 w0 b1_0p a1_0),RB 189 #[ag ca0,.func (.func 208) #[] #[pB b1_0p]] w0 r){a0}{a1_0_0}{r}(hr:q3m rec_ieveryNode_ifits_1 a0 a1_0_0=some r){z0}(ha0:rdS F0 w0 a0 z0){b1_0_0p:Nat}(ha1_0_0:CapP F0 w0 b1_0_0p a1_0_0){b1_0p:Nat}(ha1_0:F0 b1_0p∧At w0 b1_0p 0 [.func (.func 208) #[] #[pB b1_0_0p]]):RB 154 #[z0,.func (.func 209) #[] #[pB b1_0p]] w0 r:=by
 obtain⟨A0',n0',c0',rfl⟩:=ha0.form3
 have H:=(HL.start F0 w0).argS ha0
 obtain⟨cpa1_0_0,H⟩:=H.argP ha1_0_0
 obtain⟨rfl,hI1,H⟩:=j1I H 2
 have H:=H.argA ha1_0
 refine (En Tryz.func154) ?_
 refine R ((A) (Z (R ((V) ((V) ?_)))))
 refine bb hr fun y1 hy1 hr=>?_
 exact (CA j7K (q6u ih_ieveryNode_ifits_1 hy1 (F0:=fun q=>q < _) (rs H 0) ⟨H.rAl (i:=1) rfl,_,H.rA (i:=1) rfl,⟨rfl,hI1⟩⟩ ⟨H.rAl (i:=3) rfl,H.rA (i:=3) rfl⟩)) (cF' H fun w1 hI2 H=>(B) ((AZ) (W1 hr)))
def q6l (rec_ieveryNode_ifits_1:Expr→Int→Option Bool)(a0:Expr)(a1_0:Int):Option Bool:=(z8J a0 a1_0).bind fun y1=>if y1=true then (q3m rec_ieveryNode_ifits_1 a0.Args a1_0).bind fun y2=>some (!y2) else some false
theorem z3y {rec_ieveryNode_ifits_1:Expr→Int→Option Bool}(ih_ieveryNode_ifits_1:∀ {a0:Expr} {a1_0:Int} {r:Bool},rec_ieveryNode_ifits_1 a0 a1_0=some r→∀ {F0:Nat→Prop} {w0:World} {ca0} (ha0:rd F0 w0 a0 ca0) {b1_0p:Nat} (ha1_0:CapP F0 w0 b1_0p a1_0),RB 189 #[ag ca0,.func (.func 208) #[] #[pB b1_0p]] w0 r){a0}{a1_0}{r}(hr:q6l rec_ieveryNode_ifits_1 a0 a1_0=some r){ca0}(ha0:rd F0 w0 a0 ca0){b1_0p:Nat}(ha1_0:CapP F0 w0 b1_0p a1_0):RB 189 #[ag ca0,.func (.func 208) #[] #[pB b1_0p]] w0 r:=by
 have H:=(HL.start F0 w0).argR ha0
 obtain⟨A1,n1,c1,rfl,hI1,hI2,hI3,hI4,hS1,hS2,H⟩:=q3X H 0
 obtain⟨cpa1_0,H⟩:=H.argP ha1_0
 obtain⟨rfl,hI5,H⟩:=j1I H 3
 refine (En Tryz.func189) ?_
 refine R ((BX H) fun b1 w1 H=>(BX H) fun b2 w2 H=>(A) (Z (R ((L H 1) ((LB H 0) ?_)))))
 refine bb hr fun y1 hy1 hr=>?_
 refine (CA k3d (j4T hy1 (F0:=fun q=>q < _) (q2F.2 ⟨_,rfl,hI1,hI2,hI3,hI4,hS1,hS2,(rs H 1)⟩) ⟨H.rAl (i:=2) rfl,_,H.rA (i:=2) rfl,⟨rfl,hI5⟩⟩)) (cE H fun w3 H=>jB hr (fun _ hr=>?_) fun _ hr=>?_)
 ·refine (G) ((D 6) ((G) ((L H 0) ((G) ?_))))
  refine q0b rfl rfl (q0w rfl rfl rfl) ((G) ?_)
  refine bb hr fun y2 hy2 hr=>?_
  exact (CA j7J (q6b ih_ieveryNode_ifits_1 hy2 (F0:=fun q=>q < _) (rs H 1) ⟨H.rAl (i:=2) rfl,_,H.rA (i:=2) rfl,⟨rfl,hI5⟩⟩ ⟨(rb H 1).lt,At.blk (rb H 1)⟩)) (cE H fun w4 H=>(G) ((N) ((T) ((AZ) (W1 hr)))))
 exact (O) ((O) ((O) ((O) ((O) ((U) ((AZ) (W1 hr)))))))
def q5y:Nat→Expr→Int→Option Bool
  | 0,_,_=>none
  | n+1,a0,a1_0=>q6l (q5y n) a0 a1_0
def q7U (a0:Expr)(a1_0:Int):Option Bool:=recO fun n=>q5y n a0 a1_0
theorem z3z (n:Nat):∀ {a0:Expr} {a1_0:Int} {r:Bool},q5y n a0 a1_0=some r→∀ {F0:Nat→Prop} {w0:World} {ca0} (ha0:rd F0 w0 a0 ca0) {b1_0p:Nat} (ha1_0:CapP F0 w0 b1_0p a1_0),RB 189 #[ag ca0,.func (.func 208) #[] #[pB b1_0p]] w0 r:=by
 induction n with
 | zero=>intro a0 a1_0 r hr; exact nomatch (show (none:Option Bool)=some r from hr)
 | succ n ih=>intro a0 a1_0 r hr; exact z3y ih hr
theorem z3R {a0}{a1_0}{r}(hr:q7U a0 a1_0=some r){ca0}(ha0:rd F0 w0 a0 ca0){b1_0p:Nat}(ha1_0:CapP F0 w0 b1_0p a1_0):RB 189 #[ag ca0,.func (.func 208) #[] #[pB b1_0p]] w0 r:=by
 obtain⟨n,hn⟩:=q5m hr
 exact z3z n hn ha0 ha1_0
def z6K (a0:Expr)(a1:Int):Option Bool:=(q9O a0).bind fun y1=>if y1=true then (q7U a0 a1).bind fun y2=>some y2 else some false
theorem j0P {a0}{a1}{r}(hr:z6K a0 a1=some r){ca0}(ha0:rd F0 w0 a0 ca0)(ha1:I64 a1):RB 183 #[ag ca0,.int .i64 a1] w0 r:=by
 have H:=(HL.start F0 w0).argR ha0
 obtain⟨A1,n1,c1,rfl,hI1,hI2,hI3,hI4,hS1,hS2,H⟩:=q3X H 0
 refine (En Tryz.func183) ?_
 refine R ((BX H) fun b1 w1 H=>(BX H) fun b2 w2 H=>(A) (Z (R ((LB H 0) ?_))))
 refine bb hr fun y1 hy1 hr=>?_
 refine (CA k3c (z8I hy1 (q2F.2 ⟨_,rfl,hI1,hI2,hI3,hI4,hS1,hS2,(rs H 1)⟩))) (cE H fun w3 H=>jB hr (fun _ hr=>?_) fun _ hr=>?_)
 ·refine (G) ((LB H 0) ((G) ?_))
  refine q0b rfl rfl (q0w rfl rfl rfl) ((G) ?_)
  refine bb hr fun y2 hy2 hr=>?_
  exact (CA j4F (z3R hy2 (F0:=fun q=>q < _) (q2F.2 ⟨_,rfl,hI1,hI2,hI3,hI4,hS1,hS2,(rs H 1)⟩) ⟨(rb H 1).lt,_,At.blk (rb H 1),⟨rfl,ha1⟩⟩)) (cE H fun w4 H=>(T) ((AZ) (W1 hr)))
 exact (O) ((O) ((O) ((U) ((AZ) (W1 hr)))))
def z3S:Nat→ByteArray→Unit→Option (Unit ⊕ Bool):=fun k1 x1 _=>(q3l x1).bind fun y3=>if y3=true then some (.inl ()) else some (.inr false)
def z3T (a0:Rule):Nat→Equation→Unit→Option (Unit ⊕ Bool):=fun k2 x2 _=>(z6K x2.Expr (a0.Right.length:Int)).bind fun y4=>( if y4=true then (q3l x2.At.Name).bind fun y5=>some (!y5) else some true ).bind fun s4=>( if s4=true then some true else (q2P x2.At.Pos 0 (a0.Right.length:Int)).bind fun y6=>some (!y6) ).bind fun s5=>if s5=true then some (.inr false) else some (.inl ())
def z3U (a0:Rule):Nat→Contribution→Unit→Option (Unit ⊕ Bool):=fun k3 x3 _=>(z6K x3.Target (a0.Right.length:Int)).bind fun y7=>( if y7=true then (z6K x3.Value (a0.Right.length:Int)).bind fun y8=>some (!y8) else some true ).bind fun s6=>( if s6=true then some true else (q3l x3.Symbol).bind fun y9=>some (!y9) ).bind fun s7=>( if s7=true then some true else (q3l x3.Name).bind fun y10=>some (!y10) ).bind fun s8=>if s8=true then some (.inr false) else some (.inl ())
def q9P (a0:Rule):Option Bool:=(q3l a0.Name).bind fun y1=>( if y1=true then (q3l a0.Left).bind fun y2=>some (!y2) else some true ).bind fun s1=>( if s1=true then some true else some (decide (3 < (a0.Right.length:Int))) ).bind fun s2=>( if s2=true then some true else some (decide (2 < (a0.Contributions.length:Int))) ).bind fun s3=>if s3=true then some false else (q2I z3S 0 a0.Right ()).bind <| onr (fun r1=>some r1) fun _=>(q2I (z3T a0) 0 a0.Equations ()).bind <| onr (fun r2=>some r2) fun _=>(q2I (z3U a0) 0 a0.Contributions ()).bind <| onr (fun r3=>some r3) fun _=>some true
theorem z8K {a0}{r}(hr:q9P a0=some r){ca0}(ha0:rd F0 w0 a0 ca0):RB 142 #[ag ca0] w0 r:=by
 have H:=(HL.start F0 w0).argR ha0
 obtain⟨A1,n1,c1,A2,n2,c2,A3,n3,c3,rfl,hS1,hS2,H⟩:=q2U H 0
 let d6:Pr:=.S a0.Right (.slice A1 n1 c1)
 let d5:Pr:=.S a0.Equations (.slice A2 n2 c2)
 let d4:Pr:=.S a0.Contributions (.slice A3 n3 c3)
 let d2:=q3C a0 A1 n1 c1 A2 n2 c2 A3 n3 c3
 let d1:List Pr:=[.R a0 d2,d6,d5,d4]
 refine (En Tryz.func142) ?_
 refine R ((BX H) fun b1 w1 H=>(A) (Z (R ((D 2) ((L H 0) ((NI H 1) fun hl1=>(A) (Z (Y (R ((D 0) ((L H 0) ?_)))))))))))
 let d8:It:=.B b1 65 d2
 refine bb hr fun y1 hy1 hr=>?_
 refine (CA z8q (q4a hy1 (F0:=nF) hS1)) (cE H fun w2 H=>(N) ?_)
 refine bb hr fun q1 hm1 hr=>?_
 refine cu H 6 [(1,pB b1),(3,zN a0.Right.length),(22,.bool q1)] d1 [d8] ?_ fun σ w4 H=>?_
 ·refine jM hm1 (fun _ hm1=>?_) fun _ hm1=>?_
  ·exact OF hm1
  refine (G) ((D 1) ((G) ((L H 0) ((G) ?_))))
  refine bb hm1 fun y2 hy2 hm1=>?_
  exact (CA z8q (q4a hy2 (F0:=nF) hS2)) (cE H fun w3 H=>(G) ((N) ((U) (Z (C1 hm1)))))
 refine bb hr fun q2 hm2 hr=>?_
 refine cu H 4 [(1,pB b1),(3,zN a0.Right.length),(26,.bool q2)] d1 [d8] ?_ fun σ w5 H=>?_
 ·refine jB hm2 (fun _ hm2=>?_) fun _ hm2=>?_
  ·exact OF hm2
  exact (G) ((V) ((G) ((B) ((U) (Z (C1 hm2))))))
 refine bb hr fun q3 hm3 hr=>?_
 refine cu H 6 [(1,pB b1),(3,zN a0.Right.length),(32,.bool q3)] d1 [d8] ?_ fun σ w6 H=>?_
 ·refine jB hm3 (fun _ hm3=>?_) fun _ hm3=>?_
  ·exact OF hm3
  exact (G) ((D 5) ((G) ((L H 0) ((G) ((NI H 3) fun hl2=>(G) ((B) ((U) (Z (C1 hm3)))))))))
 refine Z (iB hr (fun _ hr=>?_) fun _ hr=>?_)
 ·exact R ((AZ) (W1 hr))
 refine K (Y (R ((D 2) ((L H 0) ((NN (rs H 1)) ((V) (Z ?_)))))))
 refine bb hr fun q4 hq1 hr=>?_
 refine (lF hq1 (fun k1 _ _=>[(1,pB b1),(3,zN a0.Right.length),(34,.slice A1 n1 c1),(35,zN a0.Right.length),(36,zN k1)]) (fun _ _ w=>HL F0 [] w0 w d1 [d8]) ()) ?_
 rintro k1 _ _ σ w7 hk1 hq1 H
 refine R ((BZ) (Y ?_))
 refine q0d rfl (fun h5=>?_) (fun h5=>?_)
 ·have hk2:=q2L h5
  obtain⟨x1,z1,hx1,hb1,hs1,ht1⟩:=q4f hq1 hk2
  refine K (Y ?_)
  refine Bk (R ?_)
  obtain⟨b2,ob2,cb2,hvb2,hS3,H⟩:=q8q H 1 hx1
  refine (J 1 hvb2 hx1) ((L0 H 4) ((A) (Z (R ((V) ?_)))))
  refine bb hb1 fun y3 hy3 hb1=>?_
  refine (CA z8q (q4a hy3 (F0:=nF) hS3)) (cE H fun w8 H=>(N) (Z (iM hb1 (fun _ hb1=>?_) fun _ hb1=>?_)))
  ·exact R ((AZ) (W2 hb1 ht1 hr))
  exact K (X ((AN hk2 hl1) ((V) (Z (I2 hb1 hs1 ⟨k1+1,(),()⟩)))))
 obtain rfl:=q3r hq1 (q2E h5)
 have hr:=(q3q _ _ _).symm.trans hr
 refine CE (Y (R ((D 4) ((L H 0) ((NI H 2) fun hl3=>(V) (Z ?_))))))
 refine bb hr fun q5 hq2 hr=>?_
 refine (lF hq2 (fun k2 _ _=>[(1,pB b1),(3,zN a0.Right.length),(45,.slice A2 n2 c2),(46,zN a0.Equations.length),(47,zN k2)]) (fun _ _ w=>HL F0 [] w0 w d1 [d8]) ()) ?_
 rintro k2 _ _ σ w9 hk3 hq2 H
 refine R ((BZ) (Y ?_))
 refine q0d rfl (fun h7=>?_) (fun h7=>?_)
 ·have hk4:=q2L h7
  obtain⟨x2,z2,hx2,hb2,hs2,ht2⟩:=q4f hq2 hk4
  refine K (Y ?_)
  refine Bk (R ?_)
  obtain⟨b3,ob3,cb3,A4,n4,c4,hvb3,hI1,hS4,hI2,hI3,hI4,hI5,hS5,hS6,H⟩:=q4k H 2 hx2
  let d7:=q5R x2 A4 n4 c4
  refine (J 9 hvb3 hx2) ((LA H 4) ((AH z9A H) fun b4 w10 H=>(SB H 1) fun w11 H=>Z (R ((D 2) ?_))))
  refine q0b rfl rfl (q0c rfl q7S q5E rfl (Blk.part (rb H 1) 2 7) rfl) ((V) ?_)
  refine bb hb2 fun y4 hy4 hb2=>?_
  refine (CA j9R (j0P hy4 (q2F.2 ⟨_,rfl,hI2,hI3,hI4,hI5,hS5,hS6,(rs H 6)⟩) hl1)) (cE H fun w12 H=>(N) ?_)
  refine bb hb2 fun q6 hm4 hb2=>?_
  refine cu H 7 [(1,pB b1),(3,zN a0.Right.length),(7,pB b4),(45,.slice A2 n2 c2),(46,zN a0.Equations.length),(47,zN k2),(62,.bool q6)] [.R a0 d2,d6,d5,d4,.A b3 (ob3+k2*9) d7,.R x2 d7,.S x2.Expr.Args (.slice A4 n4 c4)] [d8,.B b4 127 d7] ?_ fun σ w14 H=>?_
  ·refine jM hm4 (fun _ hm4=>?_) fun _ hm4=>?_
   ·exact OF hm4
   refine (G) ((D 0) ((G) ((D 1) ((G) ((L H 1) ((G) ?_))))))
   refine bb hm4 fun y5 hy5 hm4=>?_
   exact (CA z8q (q4a hy5 (F0:=nF) hS4)) (cE H fun w13 H=>(G) ((N) ((U) (Z (C1 hm4)))))
  refine bb hb2 fun q7 hm5 hb2=>?_
  refine cu H 8 [(1,pB b1),(3,zN a0.Right.length),(45,.slice A2 n2 c2),(46,zN a0.Equations.length),(47,zN k2),(70,.bool q7)] [.R a0 d2,d6,d5,d4,.A b3 (ob3+k2*9) d7,.R x2 d7,.S x2.Expr.Args (.slice A4 n4 c4)] [d8,.B b4 127 d7] ?_ fun σ w16 H=>?_
  ·refine jB hm5 (fun _ hm5=>?_) fun _ hm5=>?_
   ·exact OF hm5
   refine (G) ((D 0) ((G) ((D 0) ((G) ((L H 1) ((G) ((V) ((G) ?_))))))))
   refine bb hm5 fun y6 hy6 hm5=>?_
   exact (CA ok94 (q3c hy6 (F0:=nF) hI1 dI hl1)) (cE H fun w15 H=>(G) ((N) ((U) (Z (C1 hm5)))))
  refine Z (iB hb2 (fun _ hb2=>?_) fun _ hb2=>?_)
  ·exact R ((AZ) (W2 hb2 ht2 hr))
  exact K (X ((AN hk4 hl3) ((V) (Z (I2 hb2 hs2 ⟨k2+1,(),()⟩)))))
 obtain rfl:=q3r hq2 (q2E h7)
 have hr:=(q3q _ _ _).symm.trans hr
 refine CE (Y (R ((D 5) ((L H 0) ((NI H 3) fun hl4=>(V) (Z ?_))))))
 refine bb hr fun q8 hq3 hr=>?_
 refine (lF hq3 (fun k3 _ _=>[(3,zN a0.Right.length),(73,.slice A3 n3 c3),(74,zN a0.Contributions.length),(75,zN k3)]) (fun _ _ w=>HL F0 [] w0 w d1 [d8]) ()) ?_
 rintro k3 _ _ σ w17 hk5 hq3 H
 refine R ((BZ) (Y ?_))
 refine q0d rfl (fun h11=>?_) (fun h11=>?_)
 ·have hk6:=q2L h11
  obtain⟨x3,z3,hx3,hb3,hs3,ht3⟩:=q4f hq3 hk6
  refine K (Y ?_)
  refine Bk (R ?_)
  obtain⟨b5,ob5,cb5,A5,n5,c5,A6,n6,c6,hvb5,hS7,hS8,hI6,hI7,hI8,hI9,hS9,hS10,hI10,hI11,hI12,hI13,hS11,hS12,H⟩:=q4d H 3 hx3
  let d10:Pr:=.S x3.Value.Args (.slice A6 n6 c6)
  let d9:Pr:=.S x3.Target.Args (.slice A5 n5 c5)
  let d3:=q4K x3 A5 n5 c5 A6 n6 c6
  refine (J 16 hvb5 hx3) ((LA H 4) ((AH j1J H) fun b6 w18 H=>(SB H 1) fun w19 H=>Z (R ((D 2) ?_))))
  refine q0b rfl rfl (q0c rfl q7S q5E rfl (Blk.part (rb H 1) 2 7) rfl) ((V) ?_)
  refine bb hb3 fun y7 hy7 hb3=>?_
  refine (CA j9R (j0P hy7 (q2F.2 ⟨_,rfl,hI6,hI7,hI8,hI9,hS9,hS10,(rs H 6)⟩) hl1)) (cE H fun w20 H=>(N) ?_)
  refine bb hb3 fun q9 hm6 hb3=>?_
  refine cu H 7 [(3,zN a0.Right.length),(9,pB b6),(73,.slice A3 n3 c3),(74,zN a0.Contributions.length),(75,zN k3),(90,.bool q9)] [.R a0 d2,d6,d5,d4,.A b5 (ob5+k3*16) d3,.R x3 d3,d9,d10] [d8,.B b6 132 d3] ?_ fun σ w22 H=>?_
  ·refine jM hm6 (fun _ hm6=>?_) fun _ hm6=>?_
   ·exact OF hm6
   refine (G) ((D 9) ((G) ?_))
   refine q0b rfl rfl (q0c rfl q7S q5E rfl (Blk.part (rb H 1) 9 7) rfl) ((G) ((V) ((G) ?_)))
   refine bb hm6 fun y8 hy8 hm6=>?_
   exact (CA j9R (j0P hy8 (q2F.2 ⟨_,rfl,hI10,hI11,hI12,hI13,hS11,hS12,(rs H 7)⟩) hl1)) (cE H fun w21 H=>(G) ((N) ((U) (Z (C1 hm6)))))
  refine bb hb3 fun q10 hm7 hb3=>?_
  refine cu H 6 [(3,zN a0.Right.length),(9,pB b6),(73,.slice A3 n3 c3),(74,zN a0.Contributions.length),(75,zN k3),(96,.bool q10)] [.R a0 d2,d6,d5,d4,.A b5 (ob5+k3*16) d3,.R x3 d3,d9,d10] [d8,.B b6 132 d3] ?_ fun σ w24 H=>?_
  ·refine jB hm7 (fun _ hm7=>?_) fun _ hm7=>?_
   ·exact OF hm7
   refine (G) ((D 0) ((G) ((L H 1) ((G) ?_))))
   refine bb hm7 fun y9 hy9 hm7=>?_
   exact (CA z8q (q4a hy9 (F0:=nF) hS7)) (cE H fun w23 H=>(G) ((N) ((U) (Z (C1 hm7)))))
  refine bb hb3 fun q11 hm8 hb3=>?_
  refine cu H 6 [(3,zN a0.Right.length),(73,.slice A3 n3 c3),(74,zN a0.Contributions.length),(75,zN k3),(102,.bool q11)] [.R a0 d2,d6,d5,d4,.A b5 (ob5+k3*16) d3,.R x3 d3,d9,d10] [d8,.B b6 132 d3] ?_ fun σ w26 H=>?_
  ·refine jB hm8 (fun _ hm8=>?_) fun _ hm8=>?_
   ·exact OF hm8
   refine (G) ((D 1) ((G) ((L H 1) ((G) ?_))))
   refine bb hm8 fun y10 hy10 hm8=>?_
   exact (CA z8q (q4a hy10 (F0:=nF) hS8)) (cE H fun w25 H=>(G) ((N) ((U) (Z (C1 hm8)))))
  refine Z (iB hb3 (fun _ hb3=>?_) fun _ hb3=>?_)
  ·exact R ((AZ) (W2 hb3 ht3 hr))
  exact K (X ((AN hk6 hl4) ((V) (Z (I2 hb3 hs3 ⟨k3+1,(),()⟩)))))
 obtain rfl:=q3r hq3 (q2E h11)
 have hr:=(q3q _ _ _).symm.trans hr
 exact CE (R ((AZ) (W1 hr)))
def q8P (a0 a1:Rule):Option Bool:=some (decide (a0.Name=a1.Name))
theorem z7J {a0 a1}{r}(hr:q8P a0 a1=some r){ca0}(ha0:rd F0 w0 a0 ca0){b1p:Nat}(ha1:CapP F0 w0 b1p a1):RB 144 #[ag ca0,pB b1p] w0 r:=by
 have H:=(HL.start F0 w0).argR ha0
 obtain⟨A1,n1,c1,A2,n2,c2,A3,n3,c3,rfl,hS1,hS2,H⟩:=q2U H 0
 obtain⟨cpa1,H⟩:=H.argP ha1
 obtain⟨A4,n4,c4,A5,n5,c5,A6,n6,c6,rfl,hS3,hS4,H⟩:=q2U H 5
 refine (En Tryz.func144) ?_
 exact R ((BX H) fun b1 w1 H=>(A) (Z (R ((D 0) ((L H 0) ((D 0) ((LC H 4) ((B) ((AZ) (W1 hr))))))))))
def q5s (a1_0:Rule):Nat→Rule→Unit→Option (Unit ⊕ Int):=fun k1 x1 _=>(q8P x1 a1_0).bind fun y1=>if y1=true then some (.inr (k1:Int)) else some (.inl ())
def q4i (a0:(List Rule))(a1_0:Rule):Option Int:=(q2I (q5s a1_0) 0 a0 ()).bind <| onr (fun r1=>some r1) fun _=>some (-1)
theorem q7L {a0}{a1_0}{r}(hr:q4i a0 a1_0=some r){z0}(ha0:rdS F0 w0 a0 z0){b1_0p:Nat}(ha1_0:CapP F0 w0 b1_0p a1_0):RT 184 #[z0,.func (.func 144) #[] #[pB b1_0p]] w0 fun v w=>v = .int .i64 r∧I64 r:=by
 exact ixFu (gm:=fun x=>q8P x a1_0) (caps:=[pB b1_0p]) Tryz.func184 hr ha0 k2u fun w1 hE x cs y hy hx=>z7J hy hx (CapP.lt ha1_0 hE)
def q3Q (a0:(List Rule))(a1_0:Rule):Option Bool:=(q4i a0 a1_0).bind fun y1=>some (decide (0≤y1))
theorem q7j {a0}{a1_0}{r}(hr:q3Q a0 a1_0=some r){z0}(ha0:rdS F0 w0 a0 z0){b1_0p:Nat}(ha1_0:CapP F0 w0 b1_0p a1_0):RB 143 #[z0,.func (.func 144) #[] #[pB b1_0p]] w0 r:=by
 exact coF Tryz.func143 hr k2Q fun hy=>q7L hy ha0 ha1_0
def q9Q (a0:Grammar):Nat→Symbol→Unit→Option (Unit ⊕ Int):=fun k1 x1 _=>(q8l x1).bind fun y1=>if y1=true then grd (k1≤a0.Symbols.length) <| (q3E (a0.Symbols.take k1) x1).bind fun y2=>if y2=true then some (.inr (k1:Int)) else some (.inl ()) else some (.inr (k1:Int))
def q9R (a0:Grammar):Nat→Rule→Unit→Option (Unit ⊕ Int):=fun k2 x2 _=>(q9P x2).bind fun y3=>if y3=true then grd (k2≤a0.Rules.length) <| (q3Q (a0.Rules.take k2) x2).bind fun y4=>if y4=true then some (.inr (k2:Int)) else some (.inl ()) else some (.inr (k2:Int))
def z0H (a0:Grammar):Option Int:=(q2I (q9Q a0) 0 a0.Symbols ()).bind <| onr (fun r1=>some r1) fun _=>(q2I (q9R a0) 0 a0.Rules ()).bind <| onr (fun r2=>some r2) fun _=>some (-1)
theorem z9N {a0}{r}(hr:z0H a0=some r){ca0}(ha0:rd F0 w0 a0 ca0):RT 95 #[ag ca0] w0 fun v w=>v = .int .i64 r∧I64 r:=by
 have H:=(HL.start F0 w0).argR ha0
 obtain⟨A1,n1,c1,A2,n2,c2,rfl,H⟩:=q2C H 0
 let d2:List Value:=[.slice A1 n1 c1,.slice A2 n2 c2]
 let d1:List Pr:=[.R a0 d2,.S a0.Symbols (.slice A1 n1 c1),.S a0.Rules (.slice A2 n2 c2)]
 refine (En Tryz.func95) ?_
 refine R ((BX H) fun b1 w1 H=>(A) (Z (Y (R ((D 0) ((L H 0) ((NI H 1) fun hl1=>(V) (Z ?_))))))))
 refine bb hr fun q1 hq1 hr=>?_
 refine (lF hq1 (fun k1 _ _=>[(1,pB b1),(8,.slice A1 n1 c1),(9,zN a0.Symbols.length),(10,zN k1)]) (fun _ _ w=>HL F0 [] w0 w d1 [.B b1 31 d2]) ()) ?_
 rintro k1 _ _ σ w2 hk1 hq1 H
 refine R ((BZ) (Y ?_))
 refine q0d rfl (fun h1=>?_) (fun h1=>?_)
 ·have hk2:=q2L h1
  obtain⟨x1,z1,hx1,hb1,hs1,ht1⟩:=q4f hq1 hk2
  refine K (Y ?_)
  refine Bk (R ((V) ?_))
  obtain⟨b2,ob2,cb2,A3,n3,c3,hvb2,hS1,H⟩:=q4B H 1 hx1
  refine (J 2 hvb2 hx1) ((LA H 3) ((AH ze69 H) fun b3 w3 H=>(A) ((SB H 1) fun w4 H=>Z (R ((LB H 1) ?_)))))
  refine bb hb1 fun y1 hy1 hb1=>?_
  refine (CA k2p (z6J hy1 ⟨_,rfl,hS1,(rs H 5)⟩)) (cE H fun w5 H=>(N) (jM hb1 (fun _ hb1=>?_) fun _ hb1=>?_))
  ·exact (O) ((O) ((O) ((O) ((O) ((O) ((T) (Z ((cT) (R ((V) ((AZ) (W2 hb1 ht1 hr))))))))))))
  refine (G) ((D 0) ((G) ((L H 0) ((G) ((V) ((G) ?_))))))
  refine gg hb1 fun hg1 hb1=>?_
  obtain⟨A4,n4,c4,e1,hc1,H⟩:=H.slH (i:=1) rfl hg1
  refine q0b rfl rfl (q0L rfl el28 sz69 rfl rfl rfl hc1 e1) ((G) ?_)
  refine q0b rfl rfl (q0w rfl rfl rfl) ((G) ?_)
  refine bb hb1 fun y2 hy2 hb1=>?_
  refine (CA k2q (q6M hy2 (F0:=fun q=>q < _) (rs H 6) ⟨(rb H 1).lt,_,At.blk (rb H 1),⟨_,rfl,hS1,(rs H 5)⟩⟩)) (cE H fun w6 H=>(U) (Z (iB hb1 (fun _ hb1=>?_) fun _ hb1=>?_)))
  ·exact R ((V) ((AZ) (W2 hb1 ht1 hr)))
  exact K (X ((AN hk2 hl1) ((V) (Z (I2 hb1 hs1 ⟨k1+1,(),()⟩)))))
 obtain rfl:=q3r hq1 (q2E h1)
 have hr:=(q3q _ _ _).symm.trans hr
 refine CE (Y (R ((D 1) ((L H 0) ((NI H 2) fun hl2=>(V) (Z ?_))))))
 refine bb hr fun q2 hq2 hr=>?_
 refine (lF hq2 (fun k2 _ _=>[(1,pB b1),(29,.slice A2 n2 c2),(30,zN a0.Rules.length),(31,zN k2)]) (fun _ _ w=>HL F0 [] w0 w d1 [.B b1 31 d2]) ()) ?_
 rintro k2 _ _ σ w7 hk3 hq2 H
 refine R ((BZ) (Y ?_))
 refine q0d rfl (fun h4=>?_) (fun h4=>?_)
 ·have hk4:=q2L h4
  obtain⟨x2,z2,hx2,hb2,hs2,ht2⟩:=q4f hq2 hk4
  refine K (Y ?_)
  refine Bk (R ((V) ?_))
  obtain⟨b4,ob4,cb4,A5,n5,c5,A6,n6,c6,A7,n7,c7,hvb4,hS2,hS3,H⟩:=q6k H 2 hx2
  refine (J 6 hvb4 hx2) ((LA H 3) ((AH ze65 H) fun b5 w8 H=>(A) ((SB H 1) fun w9 H=>Z (R ((LB H 1) ?_)))))
  refine bb hb2 fun y3 hy3 hb2=>?_
  refine (CA k2s (z8K hy3 ⟨_,_,_,rfl,hS2,hS3,(rs H 5),(rs H 6),(rs H 7)⟩)) (cE H fun w10 H=>(N) (jM hb2 (fun _ hb2=>?_) fun _ hb2=>?_))
  ·exact (O) ((O) ((O) ((O) ((O) ((O) ((T) (Z ((cT) (R ((V) ((AZ) (W2 hb2 ht2 hr))))))))))))
  refine (G) ((D 1) ((G) ((L H 0) ((G) ((V) ((G) ?_))))))
  refine gg hb2 fun hg2 hb2=>?_
  obtain⟨A8,n8,c8,e2,hc2,H⟩:=H.slH (i:=2) rfl hg2
  refine q0b rfl rfl (q0L rfl el29 sz65 rfl rfl rfl hc2 e2) ((G) ?_)
  refine q0b rfl rfl (q0w rfl rfl rfl) ((G) ?_)
  refine bb hb2 fun y4 hy4 hb2=>?_
  refine (CA k2t (q7j hy4 (F0:=fun q=>q < _) (rs H 8) ⟨(rb H 1).lt,_,At.blk (rb H 1),⟨_,_,_,rfl,hS2,hS3,(rs H 5),(rs H 6),(rs H 7)⟩⟩)) (cE H fun w11 H=>(U) (Z (iB hb2 (fun _ hb2=>?_) fun _ hb2=>?_)))
  ·exact R ((V) ((AZ) (W2 hb2 ht2 hr)))
  exact K (X ((AN hk4 hl2) ((V) (Z (I2 hb2 hs2 ⟨k2+1,(),()⟩)))))
 obtain rfl:=q3r hq2 (q2E h4)
 have hr:=(q3q _ _ _).symm.trans hr
 exact CE (R ((AZ) (W1 hr)))
def q8Q (a0:Attribute):Option Bool:=some (decide (a0.Mode=1))
theorem z7K {a0}{r}(hr:q8Q a0=some r){ca0}(ha0:rd F0 w0 a0 ca0):RB 97 #[ag ca0] w0 r:=by
 have H:=(HL.start F0 w0).argR ha0
 obtain⟨rfl,hS1,hI1,hI2,H⟩:=q5Y H 0
 refine (En Tryz.func97) ?_
 exact R ((BX H) fun b1 w1 H=>(A) (Z (R ((D 2) ((L H 0) ((B) ((AZ) (W1 hr))))))))
def q4Q:Nat→Attribute→Unit→Option (Unit ⊕ Int):=fun k1 x1 _=>(q8Q x1).bind fun y1=>if y1=true then some (.inr (k1:Int)) else some (.inl ())
def q3F (a0:(List Attribute)):Option Int:=(q2I q4Q 0 a0 ()).bind <| onr (fun r1=>some r1) fun _=>some (-1)
theorem q6N {a0}{r}(hr:q3F a0=some r){z0}(ha0:rdS F0 w0 a0 z0):RT 145 #[z0,.func (.func 97) #[] #[]] w0 fun v w=>v = .int .i64 r∧I64 r:=by
 exact ixFu (gm:=fun x=>q8Q x) (caps:=[]) Tryz.func145 hr ha0 ok97 fun w1 hE x cs y hy hx=>z7K hy hx
def q3t (a0:(List Attribute)):Option Bool:=(q3F a0).bind fun y1=>some (decide (0≤y1))
theorem q6i {a0}{r}(hr:q3t a0=some r){z0}(ha0:rdS F0 w0 a0 z0):RB 96 #[z0,.func (.func 97) #[] #[]] w0 r:=by
 exact coF Tryz.func96 hr k1d fun hy=>q6N hy ha0
def q6f (a0:Rule)(a1:Int):Option ByteArray:=if a1=0 then some a0.Left else (q2P a1 1 (a0.Right.length:Int)).bind fun y1=>if y1=true then grd (I64 (a1 - 1)) <| grd (0≤(a1 - 1)) <| (a0.Right[(a1 - 1).toNat]?).bind fun x1=>some x1 else some (⟨#[]⟩:ByteArray)
theorem q7z {a0}{a1}{r}(hr:q6f a0 a1=some r){ca0}(ha0:rd F0 w0 a0 ca0)(ha1:I64 a1):RT 146 #[ag ca0,.int .i64 a1] w0 fun v w=>v = .string r∧r.size≤9223372036854775807:=by
 have H:=(HL.start F0 w0).argR ha0
 obtain⟨A1,n1,c1,A2,n2,c2,A3,n3,c3,rfl,hS1,hS2,H⟩:=q2U H 0
 refine (En Tryz.func146) ?_
 refine R ((BX H) fun b1 w1 H=>(AZ) (Y ?_))
 refine Bk (R ((V) ((B) ((AZ) (iD hr (fun _ hr=>?_) fun _ hr=>?_)))))
 ·exact R ((D 1) ((L H 0) ((AZ) (W1 hr))))
 refine R ((V) ((D 2) ((L H 0) ((NI H 1) fun hl1=>?_))))
 refine bb hr fun y1 hy1 hr=>?_
 refine (CA ok94 (q3c hy1 (F0:=nF) ha1 dI hl1)) (cE H fun w2 H=>(AZ) (iB hr (fun _ hr=>?_) fun _ hr=>?_))
 ·refine R ((D 2) ((L H 0) ((V) ?_)))
  refine gg hr fun hg1 hr=>(BN (Bin.sub hg1)) ?_
  refine gg hr fun hg2 hr=>?_
  refine bb hr fun x1 hx1 hr=>?_
  obtain⟨b2,ob2,cb2,hvb2,hS3,H⟩:=q8q H 1 hx1
  exact q0b rfl rfl (q0p rfl el37 sz9 rfl hvb2 rfl hg2 (q4X hx1)) ((L0 H 4) ((AZ) (W1 hr)))
 exact K (R ((AZ) (W1 hr)))
def q8b (a1:ByteArray):Nat→Symbol→Unit→Option (Unit ⊕ (Symbol × Bool)):=fun k1 x1 _=>if x1.Name=a1 then some (.inr (x1,true)) else some (.inl ())
def q4R (a0:Grammar)(a1:ByteArray):Option (Symbol × Bool):=(q2I (q8b a1) 0 a0.Symbols ()).bind <| onr (fun r1=>some r1) fun _=>some ((⟨(⟨#[]⟩:ByteArray),[]⟩:Symbol),false)
theorem q7f {a0}{a1}{r}(hr:q4R a0 a1=some r){ca0}(ha0:rd F0 w0 a0 ca0)(ha1:a1.size≤9223372036854775807):RT 104 #[ag ca0,.string a1] w0 fun v w=>∃ A0 n0 c0,v = .tuple #[.agg #[.string r.1.Name,(.slice A0 n0 c0)],.bool r.2]∧r.1.Name.size≤9223372036854775807∧HL F0 [] w0 w [.S r.1.Attributes (.slice A0 n0 c0)] []:=by
 have H:=(HL.start F0 w0).argR ha0
 obtain⟨A1,n1,c1,A2,n2,c2,rfl,H⟩:=q2C H 0
 refine (En Tryz.func104) ?_
 refine R ((BX H) fun b1 w1 H=>(AH ze69 H) fun b2 w2 H=>(A) (Z (Y (R ((D 0) ((L H 0) ((NI H 1) fun hl1=>(V) (Z ?_))))))))
 refine bb hr fun q1 hq1 hr=>?_
 refine (lF hq1 (fun k1 _ _=>[(1,.string a1),(4,pB b2),(9,.slice A1 n1 c1),(10,zN a0.Symbols.length),(11,zN k1)]) (fun _ _ w=>HL F0 [] w0 w [.R a0 [.slice A1 n1 c1,.slice A2 n2 c2],.S a0.Symbols (.slice A1 n1 c1),.S a0.Rules (.slice A2 n2 c2)] [.B b1 31 [.slice A1 n1 c1,.slice A2 n2 c2],.B b2 69 [.string eB,.slice none 0 0]]) ()) ?_
 rintro k1 _ _ σ w3 hk1 hq1 H
 refine R ((BZ) (Y ?_))
 refine q0d rfl (fun h1=>?_) (fun h1=>?_)
 ·have hk2:=q2L h1
  obtain⟨x1,z1,hx1,hb1,hs1,ht1⟩:=q4f hq1 hk2
  refine K (Y ?_)
  refine Bk (R ?_)
  obtain⟨b3,ob3,cb3,A3,n3,c3,hvb3,hS1,H⟩:=q4B H 1 hx1
  refine (J 2 hvb3 hx1) ((LA H 3) ((AH ze69 H) fun b4 w4 H=>(SB H 2) fun w5 H=>Z (R ((D 0) ((L H 2) ((V) ((BZ) (iD hb1 (fun _ hb1=>?_) fun _ hb1=>?_))))))))
  ·refine R ((LB H 2) ((SB H 1) fun w6 H=>(AZ) (CR ?_)))
   obtain rfl:=sm hb1
   obtain rfl:=ht1 _ rfl
   obtain rfl:=sm hr
   exact⟨_,z5J rfl ag69 sz69 rfl rfl rfl rfl (ab H 1) rfl,H.ext0,_,_,_,rfl,hS1,H.outM (fr':=[.S x1.Attributes (.slice A3 n3 c3)]) [false,false,false] fun _ h=>⟨h.get (i:=5) rfl,trivial⟩⟩
  exact K (X ((AN hk2 hl1) ((V) (Z (I2 hb1 hs1 ⟨k1+1,(),()⟩)))))
 obtain rfl:=q3r hq1 (q2E h1)
 have hr:=(q3q _ _ _).symm.trans hr
 refine CE (R ?_)
 refine q0b rfl rfl (Ev.build rfl pl69 ze69 rfl rfl rfl rfl) ((SB H 1) fun w7 H=>(AZ) (CR ?_))
 have H:=H.nilS (α:=Attribute)
 obtain rfl:=sm hr
 exact⟨_,z5J rfl ag69 sz69 rfl rfl rfl rfl (ab H 1) rfl,H.ext0,_,_,_,rfl,dI,H.outM (fr':=[.S ([]:List Attribute) (.slice none 0 0)]) [false,false] fun _ h=>⟨h.get (i:=3) rfl,trivial⟩⟩
def z8L (a0:Grammar)(a1:Rule):Nat→Unit→Option (Unit ⊕ Bool):=fun k1 _=>(q6f a1 (k1:Int)).bind fun y1=>(q4R a0 y1).bind fun (y2,y3)=>if y3=true then some (.inl ()) else some (.inr true)
def z4F (a0:Grammar)(a1:Rule):Option Bool:=grd (I64 ((a1.Right.length+1:Nat):Int)) <| (z1D (z8L a0 a1) 0 ((a1.Right.length+1)) ()).bind <| onr (fun r1=>some r1) fun _=>some false
theorem j2R {a0}{a1}{r}(hr:z4F a0 a1=some r){ca0}(ha0:rd F0 w0 a0 ca0){ca1}(ha1:rd F0 w0 a1 ca1):RB 98 #[ag ca0,ag ca1] w0 r:=by
 have H:=((HL.start F0 w0).argR ha0).argR ha1
 obtain⟨A1,n1,c1,A2,n2,c2,rfl,H⟩:=q2C H 0
 obtain⟨A3,n3,c3,A4,n4,c4,A5,n5,c5,rfl,hS1,hS2,H⟩:=q2U H 1
 let d1:=q3C a1 A3 n3 c3 A4 n4 c4 A5 n5 c5
 refine (En Tryz.func98) ?_
 refine R ((BX H) fun b1 w1 H=>(BX H) fun b2 w2 H=>(A) (Z (Y (R ((D 2) ((L H 1) ((NI H 4) fun hl1=>?_)))))))
 refine gg hr fun hg1 hr=>?_
 refine (BN (q0x (a:=a1.Right.length) (b:=1) rfl hg1)) ((V) (Z ?_))
 refine bb hr fun q1 hq1 hr=>?_
 refine (lM hq1 (fun k1 _ _=>[(2,pB b1),(3,pB b2),(11,.int .i64 ((a1.Right.length+1:Nat):Int)),(12,zN k1)]) (fun _ _ w=>HL F0 [] w0 w [.R a0 [.slice A1 n1 c1,.slice A2 n2 c2],.R a1 d1,.S a0.Symbols (.slice A1 n1 c1),.S a0.Rules (.slice A2 n2 c2),.S a1.Right (.slice A3 n3 c3),.S a1.Equations (.slice A4 n4 c4),.S a1.Contributions (.slice A5 n5 c5)] [.B b1 31 [.slice A1 n1 c1,.slice A2 n2 c2],.B b2 65 d1]) ()) ?_
 rintro k1 _ _ σ w3 hk1 hq1 H
 refine R ((BZ) (Y ?_))
 refine q0d rfl (fun h1=>?_) (fun h1=>?_)
 ·have hk2:=q2L h1
  obtain⟨z1,hb1,hs1,ht1⟩:=z5L hq1 hk2
  refine K (Y ?_)
  refine Bk (R ((V) ((AZ) ?_)))
  refine bb hb1 fun y1 hy1 hb1=>?_
  obtain⟨_,_,_,hS3⟩:=(q7z hy1 ⟨_,_,_,rfl,hS1,hS2,(rs H 4),(rs H 5),(rs H 6)⟩ (q5v hk2 hg1)).get
  obtain⟨⟨y2,y3⟩,hy2,hb1⟩:=bd hb1
  obtain⟨F_G1,hFl_G1,hF_G1,hcl_G1⟩:=H.callL
  refine Y ?_
  refine q0H 10 (fun ρ=>[.fix (.agg #[.slice A1 n1 c1,.slice A2 n2 c2]),.fix (.agg #[.string a1.Name,.string a1.Left,.slice A3 n3 c3,.bool a1.Literal,.slice A4 n4 c4,.slice A5 n5 c5]),.fix (zN k1),.fix (.string y1),.free (fun S v w=>∃ A6:Option Addr,∃ n6:Nat,∃ c6:Nat,v = .tuple #[.agg #[.string y2.Name,.slice A6 n6 c6],.bool y3]∧y2.Name.size≤9223372036854775807∧NewV F_G1 w3 S w [.S y2.Attributes (.slice A6 n6 c6)] []),.dep 20 id,.dep 15 (z2R 0),.dep 15 (z2R 1),.free (VarB 69 2),.wr 6 21 (WrB 69)]) [[],[],[],[],[],[20],[15],[15],[],[6,21]] NoM (fun _ _=>True) [] [none,none,none,none,none,none,none,none,none,some 8] (noM _) hmix (by kernel_rfl) rfl ⟨trivial,trivial,trivial,trivial,fun _ _ _ _ _ ⟨A6,n6,c6,hv,h0,hh⟩ hc hS hT=>⟨A6,n6,c6,hv,h0,hh.chgT hc hS hT hFl_G1⟩,trivial,trivial,trivial,fun _ _ _ _ _ h hc hS _=>h.chgT hc hS,fun _ _ _ _ _ _ h hc hS _=>h.chgT hc hS,trivial⟩ trivial (fun _ _ _ _ _ _ _=>trivial) ?_
  refine q0m rfl rfl rfl rfl rfl (fun _ hq hK=>q0c rfl ag31 sz31 rfl (At.blk ((H.ext hq).rB (i:=0) rfl)) rfl) ?_
  refine q0m rfl rfl rfl rfl rfl (fun _ hq hK=>q0c rfl ag65 sz65 rfl (At.blk ((H.ext hq).rB (i:=1) rfl)) rfl) ?_
  refine q0m rfl rfl rfl rfl rfl (fun _ hq hK=>q0r rfl rfl) ?_
  refine q0G rfl rfl rfl rfl (fun _ hq hK=>OpX.call rfl rfl rfl rfl j7I rfl (q7z hy1 ⟨_,_,_,rfl,hS1,hS2,(rs (H.ext hq) 4),(rs (H.ext hq) 5),(rs (H.ext hq) 6)⟩ (q5v hk2 hg1)) fun _ _ hE h=>⟨hE,h.1⟩) ?_
  refine LL2.free rfl rfl rfl rfl (fun wq hq hK=>?_) (fun v_G1_4 S_G1_4=>?_)
  ·have hF:=hF_G1.ext hq
   refine OpX.call rfl rfl rfl rfl j4E rfl (q7f hy2 ⟨_,_,rfl,(hF.get (i:=2) rfl),(hF.get (i:=3) rfl)⟩ hS3) ?_
   rintro _ w hE ⟨A6,n6,c6,rfl,h0,hh⟩
   exact⟨hE,A6,n6,c6,rfl,h0,NewV.of hFl_G1 hq hh⟩
  refine q0V rfl rfl rfl rfl rfl (.inl rfl) rfl ?_
  refine q0C rfl rfl rfl rfl rfl rfl rfl (fun wq hq hK=>?_) ?_
  ·have hK:∀ j' (_:(q2K _).contains j'=true),_:=hK 5 rfl
   obtain⟨A6,n6,c6,rfl,_,_⟩:=hK 4 rfl
   exact⟨_,_,rfl,rfl⟩
  refine q0C rfl rfl rfl rfl rfl rfl rfl (fun wq hq hK=>?_) ?_
  ·have hK:∀ j' (_:(q2K _).contains j'=true),_:=hK 5 rfl
   obtain⟨A6,n6,c6,rfl,_,_⟩:=hK 4 rfl
   exact⟨_,_,rfl,rfl⟩
  refine LL2.free rfl rfl rfl rfl (fun wq hq hK=>q0z rfl rfl ze69 rfl) (fun v_G1_8 S_G1_8=>?_)
  refine LL2.st (k:=2) rfl rfl rfl (by decide) rfl rfl rfl rfl sz69 rfl rfl (fun wq hq hK=>hK 8 rfl) (fun wq hq hK=>?_) ?_
  ·obtain⟨A6,n6,c6,rfl,_,_⟩:=hK 4 rfl
   exact⟨_,rfl,rfl,(all1 rfl (all1 rfl all0))⟩
  intro w4 hE _ hK hap hbd
  have hE:=z0W hE
  obtain⟨A6,n6,c6,rfl,hS4,hN1⟩:=hK 4 (by decide)
  obtain⟨b3,rfl,hN2⟩:=j1x (cells:=(q3W y2 A6 n6 c6)) (hK 8 (by decide)) (hK 9 (by decide)) rfl
  have H:=hcl_G1 (q1d (hN1.app (hN2.V tv) fun q h1 h2=>absurd (hap 4 8 q h1 h2) (by decide)) hE fun q hq=>hq.elim (fun h=>(hbd 4 q h).1) fun h=>(hbd 8 q h).1)
  refine (A) (Z (R ((V) ((N) (Z (iM hb1 (fun _ hb1=>?_) fun _ hb1=>?_))))))
  ·exact R ((AZ) (W2 hb1 ht1 hr))
  exact K (X ((AN hk2 hg1) ((V) (Z (I2 hb1 hs1 ⟨k1+1,(),()⟩)))))
 obtain rfl:=z3C hq1 (q2E h1)
 have hr:=(q3q _ _ _).symm.trans hr
 exact CE (R ((AZ) (W1 hr)))
def z3V (k1:Nat)(s2:Int):Nat→Attribute→(List Occurrence)→Option (List Occurrence):=fun k2 x1 s3=>( if x1.Mode=s2 then grd (((s3.length:Int)+1)*24≤140737488355328∧(s3.length:Int)+1≤9223372036854775807) <| some (s3++[(⟨(k1:Int),x1.Name⟩:Occurrence)]) else some s3 ).bind fun s4=>some s4
def z3W (a0:Grammar)(a1:Rule):Nat→(List Occurrence)→Option (List Occurrence):=fun k1 s1=>( if (k1:Int)=0 then some 2 else some 1 ).bind fun s2=>(q6f a1 (k1:Int)).bind fun y1=>(q4R a0 y1).bind fun (y2,y3)=>(q2G (z3V k1 s2) 0 y2.Attributes s1).bind fun s3=>some s3
def z1i (a0:Grammar)(a1:Rule):Option (List Occurrence):=grd (I64 ((a1.Right.length+1:Nat):Int)) <| (q7u (z3W a0 a1) 0 ((a1.Right.length+1)) ([]:List Occurrence)).bind fun s1=>some s1
theorem z7p {a0}{a1}{r}(hr:z1i a0 a1=some r){ca0}(ha0:rd F0 w0 a0 ca0){ca1}(ha1:rd F0 w0 a1 ca1):RT 148 #[ag ca0,ag ca1] w0 fun v w=>∃ A0 n0 c0,v=(.slice A0 n0 c0)∧HL F0 [] w0 w [] [.O 122 r (.slice A0 n0 c0)]:=by
 have H:=((HL.start F0 w0).argR ha0).argR ha1
 obtain⟨A1,n1,c1,A2,n2,c2,rfl,H⟩:=q2C H 0
 let d4:List Value:=[.slice A1 n1 c1,.slice A2 n2 c2]
 obtain⟨A3,n3,c3,A4,n4,c4,A5,n5,c5,rfl,hS1,hS2,H⟩:=q2U H 1
 let d6:Pr:=.S a1.Contributions (.slice A5 n5 c5)
 let d3:=q3C a1 A3 n3 c3 A4 n4 c4 A5 n5 c5
 let d2:List Pr:=[.R a0 d4,.R a1 d3,.S a0.Symbols (.slice A1 n1 c1),.S a0.Rules (.slice A2 n2 c2),.S a1.Right (.slice A3 n3 c3),.S a1.Equations (.slice A4 n4 c4),d6]
 refine (En Tryz.func148) ?_
 refine R ((BX H) fun b1 w1 H=>(BX H) fun b2 w2 H=>(AZ) (R ?_))
 refine q0h (α:=Occurrence) rfl rfl rfl el88 q3Y H fun A6 n6 c6 w3 H=>(A) (Z (Y (R ((D 2) ((L H 1) ((NI H 4) fun hl1=>?_))))))
 refine gg hr fun hg1 hr=>?_
 refine (BN (q0x (a:=a1.Right.length) (b:=1) rfl hg1)) ((V) (Z ?_))
 refine bb hr fun q1 hq1 hr=>?_
 refine (lN hq1 (fun k1 s1 v1=>[(2,pB b1),(3,pB b2),(5,v1),(16,.int .i64 ((a1.Right.length+1:Nat):Int)),(17,zN k1)]) (fun s1 v1 w=>HL F0 [] w0 w d2 [.B b1 31 d4,.B b2 65 d3,.O 122 s1 v1]) (.slice A6 n6 c6)) ?_
 rintro k1 s1 v1 σ w4 hk1 hq1 H
 obtain⟨A7,n7,c7,rfl⟩:=(fo H 2)
 refine R ((BZ) (Y ?_))
 refine q0d rfl (fun h1=>?_) (fun h1=>?_)
 ·have hk2:=q2L h1
  obtain⟨z1,hb1,hq1⟩:=z1I hq1 hk2
  refine K (Y ?_)
  refine Bk (R ((V) ((A) (Z (R ((A) (Z (Y (R ((V) ((BZ) ?_)))))))))))
  refine bb hb1 fun q2 hm1 hb1=>?_
  refine q0o (fun ρ' w=>∃ (s2:Int),s2=q2∧q4z ρ' [(2,pB b1),(3,pB b2),(5,.slice A7 n7 c7),(6,zN k1),(7,.int .i64 s2),(16,.int .i64 ((a1.Right.length+1:Nat):Int)),(17,zN k1)]∧I64 s2∧HL F0 [] w0 w d2 [.B b1 31 d4,.B b2 65 d3,.O 122 s1 (.slice A7 n7 c7)]) ?_ ?_
  ·refine iD hm1 (fun _ hm1=>?_) fun _ hm1=>?_
   ·exact X ((AZ) (C1 hm1))
   exact K (C1 hm1)
  rintro ρ' w5 ⟨s2,rfl,hag,hI1,H⟩
  obtain⟨σ,rfl⟩:=q4g hag
  refine bb hb1 fun y1 hy1 hb1=>?_
  obtain⟨_,_,_,hS3⟩:=(q7z hy1 ⟨_,_,_,rfl,hS1,hS2,(rs H 4),(rs H 5),(rs H 6)⟩ (q5v hk2 hg1)).get
  obtain⟨⟨y2,y3⟩,hy2,hb1⟩:=bd hb1
  obtain⟨F_G1,hFl_G1,hF_G1,hcl_G1⟩:=H.callL
  refine Y ?_
  refine q0H 10 (fun ρ=>[.fix (.agg #[.slice A1 n1 c1,.slice A2 n2 c2]),.fix (.agg #[.string a1.Name,.string a1.Left,.slice A3 n3 c3,.bool a1.Literal,.slice A4 n4 c4,.slice A5 n5 c5]),.fix (zN k1),.fix (.string y1),.free (fun S v w=>∃ A8:Option Addr,∃ n8:Nat,∃ c8:Nat,v = .tuple #[.agg #[.string y2.Name,.slice A8 n8 c8],.bool y3]∧y2.Name.size≤9223372036854775807∧NewV F_G1 w5 S w [.S y2.Attributes (.slice A8 n8 c8)] []),.dep 27 id,.dep 22 (z2R 0),.dep 22 (z2R 1),.free (VarB 69 2),.wr 8 28 (WrB 69)]) [[],[],[],[],[],[27],[22],[22],[],[8,28]] NoM (fun _ _=>True) [] [none,none,none,none,none,none,none,none,none,some 8] (noM _) hmix (by kernel_rfl) rfl ⟨trivial,trivial,trivial,trivial,fun _ _ _ _ _ ⟨A8,n8,c8,hv,h0,hh⟩ hc hS hT=>⟨A8,n8,c8,hv,h0,hh.chgT hc hS hT hFl_G1⟩,trivial,trivial,trivial,fun _ _ _ _ _ h hc hS _=>h.chgT hc hS,fun _ _ _ _ _ _ h hc hS _=>h.chgT hc hS,trivial⟩ trivial (fun _ _ _ _ _ _ _=>trivial) ?_
  refine q0m rfl rfl rfl rfl rfl (fun _ hq hK=>q0c rfl ag31 sz31 rfl (At.blk ((H.ext hq).rB (i:=0) rfl)) rfl) ?_
  refine q0m rfl rfl rfl rfl rfl (fun _ hq hK=>q0c rfl ag65 sz65 rfl (At.blk ((H.ext hq).rB (i:=1) rfl)) rfl) ?_
  refine q0m rfl rfl rfl rfl rfl (fun _ hq hK=>q0r rfl rfl) ?_
  refine q0G rfl rfl rfl rfl (fun _ hq hK=>OpX.call rfl rfl rfl rfl j7I rfl (q7z hy1 ⟨_,_,_,rfl,hS1,hS2,(rs (H.ext hq) 4),(rs (H.ext hq) 5),(rs (H.ext hq) 6)⟩ (q5v hk2 hg1)) fun _ _ hE h=>⟨hE,h.1⟩) ?_
  refine LL2.free rfl rfl rfl rfl (fun wq hq hK=>?_) (fun v_G1_4 S_G1_4=>?_)
  ·have hF:=hF_G1.ext hq
   refine OpX.call rfl rfl rfl rfl j4E rfl (q7f hy2 ⟨_,_,rfl,(hF.get (i:=2) rfl),(hF.get (i:=3) rfl)⟩ hS3) ?_
   rintro _ w hE ⟨A8,n8,c8,rfl,h0,hh⟩
   exact⟨hE,A8,n8,c8,rfl,h0,NewV.of hFl_G1 hq hh⟩
  refine q0V rfl rfl rfl rfl rfl (.inl rfl) rfl ?_
  refine q0C rfl rfl rfl rfl rfl rfl rfl (fun wq hq hK=>?_) ?_
  ·have hK:∀ j' (_:(q2K _).contains j'=true),_:=hK 5 rfl
   obtain⟨A8,n8,c8,rfl,_,_⟩:=hK 4 rfl
   exact⟨_,_,rfl,rfl⟩
  refine q0C rfl rfl rfl rfl rfl rfl rfl (fun wq hq hK=>?_) ?_
  ·have hK:∀ j' (_:(q2K _).contains j'=true),_:=hK 5 rfl
   obtain⟨A8,n8,c8,rfl,_,_⟩:=hK 4 rfl
   exact⟨_,_,rfl,rfl⟩
  refine LL2.free rfl rfl rfl rfl (fun wq hq hK=>q0z rfl rfl ze69 rfl) (fun v_G1_8 S_G1_8=>?_)
  refine LL2.st (k:=2) rfl rfl rfl (by decide) rfl rfl rfl rfl sz69 rfl rfl (fun wq hq hK=>hK 8 rfl) (fun wq hq hK=>?_) ?_
  ·obtain⟨A8,n8,c8,rfl,_,_⟩:=hK 4 rfl
   exact⟨_,rfl,rfl,(all1 rfl (all1 rfl all0))⟩
  intro w6 hE _ hK hap hbd
  have hE:=z0W hE
  obtain⟨A8,n8,c8,rfl,hS4,hN1⟩:=hK 4 (by decide)
  let d5:=q3W y2 A8 n8 c8
  let d1:List Pr:=[.R a0 d4,.R a1 d3,.S a0.Symbols (.slice A1 n1 c1),.S a0.Rules (.slice A2 n2 c2),.S a1.Right (.slice A3 n3 c3),.S a1.Equations (.slice A4 n4 c4),d6,.S y2.Attributes (.slice A8 n8 c8)]
  obtain⟨b3,rfl,hN2⟩:=j1x (cells:=d5) (hK 8 (by decide)) (hK 9 (by decide)) rfl
  have H:=hcl_G1 (q1d (hN1.app (hN2.V tv) fun q h1 h2=>absurd (hap 4 8 q h1 h2) (by decide)) hE fun q hq=>hq.elim (fun h=>(hbd 4 q h).1) fun h=>(hbd 8 q h).1)
  refine (A) (Z (R ((D 1) ((L H 3) ((NI H 7) fun hl2=>(V) (Z ?_))))))
  refine bb hb1 fun q3 hq2 hb1=>?_
  refine (lE hq2 (fun k2 s3 v2=>[(2,pB b1),(3,pB b2),(5,v2),(6,zN k1),(7,.int .i64 s2),(16,.int .i64 ((a1.Right.length+1:Nat):Int)),(17,zN k1),(31,.slice A8 n8 c8),(32,zN y2.Attributes.length),(33,zN k2)]) (fun s3 v2 w=>HL F0 [] w0 w d1 [.B b1 31 d4,.B b2 65 d3,.O 122 s3 v2,.B b3 69 d5]) (.slice A7 n7 c7)) ?_
  rintro k2 s3 v2 σ w7 hk3 hq2 H
  obtain⟨A9,n9,c9,rfl⟩:=(fo H 2)
  refine R ((BZ) (Y ?_))
  refine q0d rfl (fun h3=>?_) (fun h3=>?_)
  ·have hk4:=q2L h3
   obtain⟨x1,z2,hx1,hb2,hq2⟩:=q4F hq2 hk4
   refine K ?_
   refine bb hb2 fun q4 hm2 hb2=>Y ?_
   refine q0o (fun ρ' w=>∃ (s4:List Occurrence) (v3:Value),s4=q4∧q4z ρ' [(2,pB b1),(3,pB b2),(5,v3),(6,zN k1),(7,.int .i64 s2),(16,.int .i64 ((a1.Right.length+1:Nat):Int)),(17,zN k1),(31,.slice A8 n8 c8),(32,zN y2.Attributes.length),(33,zN k2)]∧HL F0 [] w0 w d1 [.B b1 31 d4,.B b2 65 d3,.O 122 s4 v3,.B b3 69 d5]) ?_ ?_
   ·refine Bk (R ?_)
    obtain⟨b4,ob4,cb4,hvb4,hS5,hI2,hI3,H⟩:=q4L H 7 hx1
    refine (J 4 hvb4 hx1) ((LA H 8) ((AH q7T H) fun b5 w8 H=>(SB H 4) fun w9 H=>Z (R ((D 2) ((L H 4) ((V) ((BZ) (iD hm2 (fun _ hm2=>?_) fun _ hm2=>?_))))))))
    ·refine X ((V) ((V) ((D 0) ((L H 4) ?_))))
     refine q0b rfl rfl (Ev.build rfl j1L q7h rfl rfl rfl rfl) ?_
     refine q0n rfl rfl rfl el88 q3Y q7h rfl rfl rfl rfl rfl rfl fun b6 w10 hE hb hB=>?_
     have H:=H.newB hE hb hB
     refine gg hm2 fun hg2 hm2=>?_
     exact q0q (i:=2) (ys:=[(⟨(k1:Int),x1.Name⟩:Occurrence)]) rfl rfl rfl el88 q3Y z6B q7h rfl rfl rfl H rfl (fun _=>ownL.single ⟨rfl,(q5v hk2 hg1),hS5,rfl⟩) (.inr ⟨_,_,rfl,At.blk (rb H 5)⟩) hg2 fun A10 n10 c10 w11 H=>(AZ) (C1 hm2)
    exact K (C1 hm2)
   rintro ρ' w12 ⟨s4,v3,rfl,hag,H⟩
   obtain⟨σ,rfl⟩:=q4g hag
   obtain⟨A11,n11,c11,rfl⟩:=(fo H 2)
   exact X ((AN hk4 hl2) ((V) (Z (I1 hb2 ⟨k2+1,s4,(.slice A11 n11 c11)⟩))))
  obtain rfl:=q3N hq2 (q2E h3)
  exact CE (X ((AN hk2 hg1) ((V) (Z (I1 hb1 ⟨k1+1,s3,(.slice A9 n9 c9)⟩)))))
 obtain rfl:=q9Y hq1 (q2E h1)
 exact CE (R ((V) ((AZ) (W1 hr))))
def q9S (a0:Equation)(a1:Occurrence):Option Bool:=some (decide (a0.At=a1))
theorem z8M {a0}{a1}{r}(hr:q9S a0 a1=some r){ca0}(ha0:rd F0 w0 a0 ca0){b1p:Nat}(ha1:CapP F0 w0 b1p a1):RB 151 #[ag ca0,pB b1p] w0 r:=by
 have H:=(HL.start F0 w0).argR ha0
 obtain⟨A1,n1,c1,rfl,hI1,hS1,hI2,hI3,hI4,hI5,hS2,hS3,H⟩:=q8r H 0
 obtain⟨cpa1,H⟩:=H.argP ha1
 obtain⟨rfl,hI6,hS4,H⟩:=q2R H 3
 refine (En Tryz.func151) ?_
 refine R ((BX H) fun b1 w1 H=>(A) (Z (R ((D 0) ?_))))
 exact q0b rfl rfl (q0c rfl z1W q3Y rfl (Blk.part (rb H 0) 0 2) rfl) ((LA H 2) ((BN (q0D z9B (q4J a0.At a1))) ((AZ) (W1 hr))))
def q4Z (a1_0:Occurrence):Nat→Equation→Unit→Option (Unit ⊕ Int):=fun k1 x1 _=>(q9S x1 a1_0).bind fun y1=>if y1=true then some (.inr (k1:Int)) else some (.inl ())
def q3R (a0:(List Equation))(a1_0:Occurrence):Option Int:=(q2I (q4Z a1_0) 0 a0 ()).bind <| onr (fun r1=>some r1) fun _=>some (-1)
theorem q7k {a0}{a1_0}{r}(hr:q3R a0 a1_0=some r){z0}(ha0:rdS F0 w0 a0 z0){b1_0p:Nat}(ha1_0:CapP F0 w0 b1_0p a1_0):RT 186 #[z0,.func (.func 151) #[] #[pB b1_0p]] w0 fun v w=>v = .int .i64 r∧I64 r:=by
 exact ixFu (gm:=fun x=>q9S x a1_0) (caps:=[pB b1_0p]) Tryz.func186 hr ha0 k2w fun w1 hE x cs y hy hx=>z8M hy hx (CapP.lt ha1_0 hE)
def q3z (a0:(List Equation))(a1_0:Occurrence):Option Bool:=(q3R a0 a1_0).bind fun y1=>some (decide (0≤y1))
theorem q6A {a0}{a1_0}{r}(hr:q3z a0 a1_0=some r){z0}(ha0:rdS F0 w0 a0 z0){b1_0p:Nat}(ha1_0:CapP F0 w0 b1_0p a1_0):RB 150 #[z0,.func (.func 151) #[] #[pB b1_0p]] w0 r:=by
 exact coF Tryz.func150 hr k1l fun hy=>q7k hy ha0 ha1_0
def z1P (a0:Occurrence)(a1:Rule):Option Bool:=(q3z a1.Equations a0).bind fun y1=>some (!y1)
theorem j0Q {a0}{a1}{r}(hr:z1P a0 a1=some r){ca0}(ha0:rd F0 w0 a0 ca0){b1p:Nat}(ha1:CapP F0 w0 b1p a1):RB 149 #[ag ca0,pB b1p] w0 r:=by
 have H:=(HL.start F0 w0).argR ha0
 obtain⟨rfl,hI1,hS1,H⟩:=q2R H 0
 obtain⟨cpa1,H⟩:=H.argP ha1
 obtain⟨A1,n1,c1,A2,n2,c2,A3,n3,c3,rfl,hS2,hS3,H⟩:=q2U H 2
 refine (En Tryz.func149) ?_
 refine R ((BX H) fun b1 w1 H=>(A) (Z (R ((D 4) ((LC H 1) ?_)))))
 refine q0b rfl rfl (q0w rfl rfl rfl) ?_
 refine bb hr fun y1 hy1 hr=>?_
 exact (CA k1g (q6A hy1 (F0:=fun q=>q < _) (rs H 4) ⟨(rb H 0).lt,_,At.blk (rb H 0),⟨rfl,hI1,hS1⟩⟩)) (cE H fun w2 H=>(N) ((AZ) (W1 hr)))
def q5a (a1_0:Rule):Nat→Occurrence→Unit→Option (Unit ⊕ Int):=fun k1 x1 _=>(z1P x1 a1_0).bind fun y1=>if y1=true then some (.inr (k1:Int)) else some (.inl ())
def q3S (a0:(List Occurrence))(a1_0:Rule):Option Int:=(q2I (q5a a1_0) 0 a0 ()).bind <| onr (fun r1=>some r1) fun _=>some (-1)
theorem q7l {a0}{a1_0}{r}(hr:q3S a0 a1_0=some r){z0}(ha0:rdS F0 w0 a0 z0){b1_0p:Nat}(ha1_0:CapP F0 w0 b1_0p a1_0):RT 185 #[z0,.func (.func 149) #[] #[pB b1_0p]] w0 fun v w=>v = .int .i64 r∧I64 r:=by
 exact ixFu (gm:=fun x=>z1P x a1_0) (caps:=[pB b1_0p]) Tryz.func185 hr ha0 k2v fun w1 hE x cs y hy hx=>j0Q hy hx (CapP.lt ha1_0 hE)
def q3A (a0:(List Occurrence))(a1_0:Rule):Option Bool:=(q3S a0 a1_0).bind fun y1=>some (decide (0≤y1))
theorem q6B {a0}{a1_0}{r}(hr:q3A a0 a1_0=some r){z0}(ha0:rdS F0 w0 a0 z0){b1_0p:Nat}(ha1_0:CapP F0 w0 b1_0p a1_0):RB 147 #[z0,.func (.func 149) #[] #[pB b1_0p]] w0 r:=by
 exact coF Tryz.func147 hr k1k fun hy=>q7l hy ha0 ha1_0
def z4G (a0:Grammar)(a1:Rule):Option Bool:=(z1i a0 a1).bind fun y1=>(q3A y1 a1).bind fun y2=>some y2
theorem j2S {a0}{a1}{r}(hr:z4G a0 a1=some r){ca0}(ha0:rd F0 w0 a0 ca0){ca1}(ha1:rd F0 w0 a1 ca1):RB 99 #[ag ca0,ag ca1] w0 r:=by
 have H:=((HL.start F0 w0).argR ha0).argR ha1
 obtain⟨A1,n1,c1,A2,n2,c2,rfl,H⟩:=q2C H 0
 obtain⟨A3,n3,c3,A4,n4,c4,A5,n5,c5,rfl,hS1,hS2,H⟩:=q2U H 1
 refine (En Tryz.func99) ?_
 refine R ((BX H) fun b1 w1 H=>(BX H) fun b2 w2 H=>(A) (Z (R ((LB H 0) ((LB H 1) ?_)))))
 refine bb hr fun y1 hy1 hr=>?_
 refine (CA k1f (z7p hy1 ⟨_,_,rfl,(rs H 2),(rs H 3)⟩ ⟨_,_,_,rfl,hS1,hS2,(rs H 4),(rs H 5),(rs H 6)⟩)) ?_
 rintro _ w3 hE ⟨A6,n6,c6,rfl,H'⟩
 have H:=H.callA H' tv
 refine q0b rfl rfl (q0w rfl rfl rfl) ?_
 refine bb hr fun y2 hy2 hr=>?_
 exact (CA k1e (q6B hy2 (F0:=fun q=>q < _) (ro H 2) ⟨(rb H 1).lt,_,At.blk (rb H 1),⟨_,_,_,rfl,hS1,hS2,(rs H 4),(rs H 5),(rs H 6)⟩⟩)) (cE H fun w4 H=>(AZ) (W1 hr))
def q3d (a1:Occurrence):Nat→Occurrence→Unit→Option (Unit ⊕ Int):=fun k1 x1 _=>if a1=x1 then some (.inr (k1:Int)) else some (.inl ())
def q3n (a0:(List Occurrence))(a1:Occurrence):Option Int:=(q2I (q3d a1) 0 a0 ()).bind <| onr (fun r1=>some r1) fun _=>some (-1)
theorem q7R {a0}{a1}{r}(hr:q3n a0 a1=some r){z0}(ha0:rdS F0 w0 a0 z0){ca1}(ha1:rd F0 w0 a1 ca1):RT 187 #[z0,ag ca1] w0 fun v w=>v = .int .i64 r∧I64 r:=by
 obtain⟨A0',n0',c0',rfl⟩:=ha0.form3
 have H:=((HL.start F0 w0).argS ha0).argR ha1
 obtain⟨rfl,hI1,hS1,H⟩:=q2R H 1
 refine (En Tryz.func187) ?_
 refine R ((BX H) fun b1 w1 H=>(A) (Z (Y (R ((V) ((NI H 0) fun hl1=>(V) (Z ?_)))))))
 refine bb hr fun q1 hq1 hr=>?_
 refine (lF hq1 (fun k1 _ _=>[(0,.slice A0' n0' c0'),(3,pB b1),(7,zN a0.length),(8,zN k1)]) (fun _ _ w=>HL F0 [] w0 w [.S a0 (.slice A0' n0' c0'),.R a1 (q2J a1)] [.B b1 122 (q2J a1)]) ()) ?_
 rintro k1 _ _ σ w2 hk1 hq1 H
 refine R ((BZ) (Y ?_))
 refine q0d rfl (fun h1=>?_) (fun h1=>?_)
 ·have hk2:=q2L h1
  obtain⟨x1,z1,hx1,hb1,hs1,ht1⟩:=q4f hq1 hk2
  refine K (Y ?_)
  refine Bk (R ((V) ((AZ) (Y ?_))))
  refine q0g hmix (by kernel_rfl) ?_
  refine (qLB H 0) ((qV) ((qV) ?_))
  obtain⟨b2,ob2,cb2,hvb2,hI2,hS2,H⟩:=q6e H 0 hx1
  refine (qJ 2 hvb2 hx1) ((qLA H 2) ((qBN (q0D z9B (q4J a1 x1))) ?_))
  refine QL.nil (fun w3 hE=>?_)
  have H:=H.ext hE
  refine iD hb1 (fun _ hb1=>?_) fun _ hb1=>?_
  ·exact R ((V) ((AZ) (W2 hb1 ht1 hr)))
  exact K (X ((AN hk2 hl1) ((V) (Z (I2 hb1 hs1 ⟨k1+1,(),()⟩)))))
 obtain rfl:=q3r hq1 (q2E h1)
 have hr:=(q3q _ _ _).symm.trans hr
 exact CE (R ((AZ) (W1 hr)))
def q4H (a0:(List Occurrence))(a1:Occurrence):Option Bool:=(q3n a0 a1).bind fun y1=>some (decide (0≤y1))
theorem z0l {a0}{a1}{r}(hr:q4H a0 a1=some r){z0}(ha0:rdS F0 w0 a0 z0){ca1}(ha1:rd F0 w0 a1 ca1):RB 152 #[z0,ag ca1] w0 r:=by
 obtain⟨A0',n0',c0',rfl⟩:=ha0.form3
 have H:=((HL.start F0 w0).argS ha0).argR ha1
 obtain⟨rfl,hI1,hS1,H⟩:=q2R H 1
 refine (En Tryz.func152) ?_
 refine R ((BX H) fun b1 w1 H=>(A) (Z (R ((V) ((LB H 0) ?_)))))
 refine bb hr fun y1 hy1 hr=>?_
 exact (CA k1m (q7R hy1 (rs H 0) ⟨rfl,hI1,hS1⟩)) (cF' H fun w2 hI2 H=>(B) ((AZ) (W1 hr)))
def z4H (a0 a1:Equation):Option Bool:=some (decide (a0.At=a1.At))
theorem j2T {a0 a1}{r}(hr:z4H a0 a1=some r){ca0}(ha0:rd F0 w0 a0 ca0){b1p:Nat}(ha1:CapP F0 w0 b1p a1):RB 153 #[ag ca0,pB b1p] w0 r:=by
 have H:=(HL.start F0 w0).argR ha0
 obtain⟨A1,n1,c1,rfl,hI1,hS1,hI2,hI3,hI4,hI5,hS2,hS3,H⟩:=q8r H 0
 obtain⟨cpa1,H⟩:=H.argP ha1
 obtain⟨A2,n2,c2,rfl,hI6,hS4,hI7,hI8,hI9,hI10,hS5,hS6,H⟩:=q8r H 3
 refine (En Tryz.func153) ?_
 refine R ((BX H) fun b1 w1 H=>(A) (Z (R ((D 0) ?_))))
 refine q0b rfl rfl (q0c rfl z1W q3Y rfl (Blk.part (rb H 0) 0 2) rfl) ((D 0) ?_)
 exact q0b rfl rfl (q0c rfl z1W q3Y rfl ((ra H 2).part 0 2) rfl) ((BN (q0D z9B (q4J a0.At a1.At))) ((AZ) (W1 hr)))
def q5z (a1_0:Equation):Nat→Equation→Unit→Option (Unit ⊕ Int):=fun k1 x1 _=>(z4H x1 a1_0).bind fun y1=>if y1=true then some (.inr (k1:Int)) else some (.inl ())
def q4s (a0:(List Equation))(a1_0:Equation):Option Int:=(q2I (q5z a1_0) 0 a0 ()).bind <| onr (fun r1=>some r1) fun _=>some (-1)
theorem q7V {a0}{a1_0}{r}(hr:q4s a0 a1_0=some r){z0}(ha0:rdS F0 w0 a0 z0){b1_0p:Nat}(ha1_0:CapP F0 w0 b1_0p a1_0):RT 186 #[z0,.func (.func 153) #[] #[pB b1_0p]] w0 fun v w=>v = .int .i64 r∧I64 r:=by
 exact ixFu (gm:=fun x=>z4H x a1_0) (caps:=[pB b1_0p]) Tryz.func186 hr ha0 k2y fun w1 hE x cs y hy hx=>j2T hy hx (CapP.lt ha1_0 hE)
def q4c (a0:(List Equation))(a1_0:Equation):Option Bool:=(q4s a0 a1_0).bind fun y1=>some (decide (0≤y1))
theorem q7w {a0}{a1_0}{r}(hr:q4c a0 a1_0=some r){z0}(ha0:rdS F0 w0 a0 z0){b1_0p:Nat}(ha1_0:CapP F0 w0 b1_0p a1_0):RB 150 #[z0,.func (.func 153) #[] #[pB b1_0p]] w0 r:=by
 exact coF Tryz.func150 hr k1l fun hy=>q7V hy ha0 ha1_0
def z6f (a1:Rule)(y1:(List Occurrence)):Nat→Equation→Unit→Option (Unit ⊕ Bool):=fun k1 x1 _=>(q4H y1 x1.At).bind fun y2=>if y2=true then grd (k1≤a1.Equations.length) <| (q4c (a1.Equations.take k1) x1).bind fun y3=>if y3=true then some (.inr true) else some (.inl ()) else some (.inr true)
def z8c (a0:Grammar)(a1:Rule):Option Bool:=(z1i a0 a1).bind fun y1=>(q2I (z6f a1 y1) 0 a1.Equations ()).bind <| onr (fun r1=>some r1) fun _=>some false
theorem j5Y {a0}{a1}{r}(hr:z8c a0 a1=some r){ca0}(ha0:rd F0 w0 a0 ca0){ca1}(ha1:rd F0 w0 a1 ca1):RB 100 #[ag ca0,ag ca1] w0 r:=by
 have H:=((HL.start F0 w0).argR ha0).argR ha1
 obtain⟨A1,n1,c1,A2,n2,c2,rfl,H⟩:=q2C H 0
 obtain⟨A3,n3,c3,A4,n4,c4,A5,n5,c5,rfl,hS1,hS2,H⟩:=q2U H 1
 let d1:=q3C a1 A3 n3 c3 A4 n4 c4 A5 n5 c5
 refine (En Tryz.func100) ?_
 refine R ((BX H) fun b1 w1 H=>(BX H) fun b2 w2 H=>(A) (Z (R ((LB H 0) ((LB H 1) ?_)))))
 refine bb hr fun y1 hy1 hr=>?_
 refine (CA k1f (z7p hy1 ⟨_,_,rfl,(rs H 2),(rs H 3)⟩ ⟨_,_,_,rfl,hS1,hS2,(rs H 4),(rs H 5),(rs H 6)⟩)) ?_
 rintro _ w3 hE ⟨A6,n6,c6,rfl,H'⟩
 have H:=H.callA H' tv
 refine (A) (Z (Y (R ((D 4) ((L H 1) ((NI H 5) fun hl1=>(V) (Z ?_)))))))
 refine bb hr fun q1 hq1 hr=>?_
 refine (lF hq1 (fun k1 _ _=>[(3,pB b2),(5,.slice A6 n6 c6),(12,.slice A4 n4 c4),(13,zN a1.Equations.length),(14,zN k1)]) (fun _ _ w=>HL F0 [] w0 w [.R a0 [.slice A1 n1 c1,.slice A2 n2 c2],.R a1 d1,.S a0.Symbols (.slice A1 n1 c1),.S a0.Rules (.slice A2 n2 c2),.S a1.Right (.slice A3 n3 c3),.S a1.Equations (.slice A4 n4 c4),.S a1.Contributions (.slice A5 n5 c5)] [.B b1 31 [.slice A1 n1 c1,.slice A2 n2 c2],.B b2 65 d1,.O 122 y1 (.slice A6 n6 c6)]) ()) ?_
 rintro k1 _ _ σ w4 hk1 hq1 H
 refine R ((BZ) (Y ?_))
 refine q0d rfl (fun h1=>?_) (fun h1=>?_)
 ·have hk2:=q2L h1
  obtain⟨x1,z1,hx1,hb1,hs1,ht1⟩:=q4f hq1 hk2
  refine K (Y ?_)
  refine Bk (R ((V) ?_))
  obtain⟨b3,ob3,cb3,A7,n7,c7,hvb3,hI1,hS3,hI2,hI3,hI4,hI5,hS4,hS5,H⟩:=q4k H 5 hx1
  refine (J 9 hvb3 hx1) ((LA H 7) ((AH z9A H) fun b4 w5 H=>(A) ((SB H 3) fun w6 H=>Z (R ((V) ((D 0) ?_))))))
  refine q0b rfl rfl (q0c rfl z1W q3Y rfl (Blk.part (rb H 3) 0 2) rfl) ?_
  refine bb hb1 fun y2 hy2 hb1=>?_
  refine (CA k2x (z0l hy2 (ro H 2) ⟨rfl,hI1,hS3⟩)) (cE H fun w7 H=>(N) (jM hb1 (fun _ hb1=>?_) fun _ hb1=>?_))
  ·exact (O) ((O) ((O) ((O) ((O) ((O) ((T) (Z ((cT) (R ((AZ) (W2 hb1 ht1 hr)))))))))))
  refine (G) ((D 4) ((G) ((L H 1) ((G) ((V) ((G) ?_))))))
  refine gg hb1 fun hg1 hb1=>?_
  obtain⟨A8,n8,c8,e1,hc1,H⟩:=H.slH (i:=5) rfl hg1
  refine q0b rfl rfl (q0L rfl el62 j7E rfl rfl rfl hc1 e1) ((G) ?_)
  refine q0b rfl rfl (q0w rfl rfl rfl) ((G) ?_)
  refine bb hb1 fun y3 hy3 hb1=>?_
  refine (CA k1g (q7w hy3 (F0:=fun q=>q < _) (rs H 10) ⟨(rb H 3).lt,_,At.blk (rb H 3),⟨_,rfl,hI1,hS3,hI2,hI3,hI4,hI5,hS4,hS5,(rs H 9)⟩⟩)) (cE H fun w8 H=>(U) (Z (iB hb1 (fun _ hb1=>?_) fun _ hb1=>?_)))
  ·exact R ((AZ) (W2 hb1 ht1 hr))
  exact K (X ((AN hk2 hl1) ((V) (Z (I2 hb1 hs1 ⟨k1+1,(),()⟩)))))
 obtain rfl:=q3r hq1 (q2E h1)
 have hr:=(q3q _ _ _).symm.trans hr
 exact CE (R ((AZ) (W1 hr)))
def q7A:Nat→Equation→(List Expr)→Option (List Expr):=fun k1 x1 s1=>grd (((s1.length:Int)+1)*88≤140737488355328∧(s1.length:Int)+1≤9223372036854775807) <| some (s1++[x1.Expr])
def q7B:Nat→Contribution→(List Expr)→Option (List Expr):=fun k2 x2 s2=>grd (((s2.length:Int)+([x2.Target,x2.Value].length:Int))*88≤140737488355328∧(s2.length:Int)+([x2.Target,x2.Value].length:Int)≤9223372036854775807) <| some (s2++[x2.Target,x2.Value])
def q9T (a0:Rule):Option (List Expr):=(q2G q7A 0 a0.Equations ([]:List Expr)).bind fun s1=>(q2G q7B 0 a0.Contributions s1).bind fun s2=>some s2
theorem z8N {a0}{r}(hr:q9T a0=some r){ca0}(ha0:rd F0 w0 a0 ca0):RT 155 #[ag ca0] w0 fun v w=>∃ A0 n0 c0,v=(.slice A0 n0 c0)∧HL F0 [] w0 w [] [.G 125 r (.slice A0 n0 c0)]:=by
 have H:=(HL.start F0 w0).argR ha0
 obtain⟨A1,n1,c1,A2,n2,c2,A3,n3,c3,rfl,hS1,hS2,H⟩:=q2U H 0
 let d2:=q3C a0 A1 n1 c1 A2 n2 c2 A3 n3 c3
 let d1:List Pr:=[.R a0 d2,.S a0.Right (.slice A1 n1 c1),.S a0.Equations (.slice A2 n2 c2),.S a0.Contributions (.slice A3 n3 c3)]
 refine (En Tryz.func155) ?_
 refine R ((BX H) fun b1 w1 H=>(AZ) (R ?_))
 refine q0h (α:=Expr) rfl rfl rfl z7A q5E H fun A4 n4 c4 w2 H=>?_
 have H:=H.toG (i:=1) rfl
 refine (A) (Z (Y (R ((D 4) ((L H 0) ((NI H 2) fun hl1=>(V) (Z ?_)))))))
 refine bb hr fun q1 hq1 hr=>?_
 refine Bk (CW.loop (α:=Nat × (List Expr) × Value) (fun ⟨k1,s1,v1⟩=>[(1,pB b1),(3,v1),(10,.slice A2 n2 c2),(11,zN a0.Equations.length),(12,zN k1)]) (fun ⟨k1,s1,v1⟩ w=>k1≤a0.Equations.length∧q2G q7A k1 (a0.Equations.drop k1) s1=some q1∧HL F0 [] w0 w d1 [.B b1 65 d2,.G 125 s1 v1]) (fun ⟨k1,s1,v1⟩=>a0.Equations.length - k1) ⟨0,([]:List Expr),(.slice A4 n4 c4)⟩ ⟨rfl,rfl,rfl,rfl,rfl,trivial⟩ ⟨Nat.zero_le _,hq1,H.keep 4 2⟩ ?_)
 rintro⟨k1,s1,v1⟩ σ w3 ⟨hk1,hq1,H⟩
 obtain⟨A5,n5,c5,rfl⟩:=(H.rG (i:=1) rfl).form3
 refine R ((BZ) (Y ?_))
 refine q0d rfl (fun h1=>?_) (fun h1=>?_)
 ·have hk2:=q2L h1
  obtain⟨x1,z1,hx1,hb1,hq1⟩:=q4F hq1 hk2
  refine K (Y ?_)
  refine Bk (R ?_)
  obtain⟨b2,ob2,cb2,A6,n6,c6,hvb2,hI1,hS3,hI2,hI3,hI4,hI5,hS4,hS5,H⟩:=q4k H 2 hx1
  refine (J 9 hvb2 hx1) ((LA H 4) ((AH z9A H) fun b3 w4 H=>(SB H 2) fun w5 H=>Z (X ((V) ((D 2) ?_)))))
  refine q0b rfl rfl (q0c rfl q7S q5E rfl (Blk.part (rb H 2) 2 7) rfl) ?_
  refine q0n rfl rfl rfl z7A q5E z0a rfl rfl rfl rfl rfl rfl fun b4 w6 hE hb hB=>?_
  have H:=H.newB hE hb hB
  refine gg hb1 fun hg1 hb1=>?_
  refine q0M (i:=1) (ys:=[x1.Expr]) rfl rfl rfl z7A q5E j5M z0a rfl rfl rfl H rfl (fun F hF=>rdL.single (q2F.2 ⟨_,rfl,hI2,hI3,hI4,hI5,hS4,hS5,(hF.get (i:=6) rfl)⟩)) (.inr ⟨_,_,rfl,At.blk (rb H 3)⟩) hg1 fun A7 n7 c7 w7 H=>(A) (Z (X ((AN hk2 hl1) ((V) (Z ?_)))))
  obtain rfl:=sm hb1
  exact⟨⟨k1+1,(s1++[x1.Expr]),(.slice A7 n7 c7)⟩,⟨rfl,rfl,rfl,rfl,rfl,trivial⟩,⟨hk2,hq1,H.keep 4 2⟩,Nat.sub_lt_sub_left hk2 (Nat.lt_succ_self _)⟩
 obtain rfl:=q3N hq1 (q2E h1)
 refine CE (Y (R ((D 5) ((L H 0) ((NI H 3) fun hl2=>(V) (Z ?_))))))
 refine bb hr fun q2 hq2 hr=>?_
 refine Bk (CW.loop (α:=Nat × (List Expr) × Value) (fun ⟨k2,s2,v2⟩=>[(3,v2),(23,.slice A3 n3 c3),(24,zN a0.Contributions.length),(25,zN k2)]) (fun ⟨k2,s2,v2⟩ w=>k2≤a0.Contributions.length∧q2G q7B k2 (a0.Contributions.drop k2) s2=some q2∧HL F0 [] w0 w d1 [.B b1 65 d2,.G 125 s2 v2]) (fun ⟨k2,s2,v2⟩=>a0.Contributions.length - k2) ⟨0,s1,(.slice A5 n5 c5)⟩ ⟨rfl,rfl,rfl,rfl,trivial⟩ ⟨Nat.zero_le _,hq2,H.keep 4 2⟩ ?_)
 rintro⟨k2,s2,v2⟩ σ w8 ⟨hk3,hq2,H⟩
 obtain⟨A8,n8,c8,rfl⟩:=(H.rG (i:=1) rfl).form3
 refine R ((BZ) (Y ?_))
 refine q0d rfl (fun h2=>?_) (fun h2=>?_)
 ·have hk4:=q2L h2
  obtain⟨x2,z2,hx2,hb2,hq2⟩:=q4F hq2 hk4
  refine K (Y ?_)
  refine Bk (R ?_)
  obtain⟨b5,ob5,cb5,A9,n9,c9,A10,n10,c10,hvb5,hS6,hS7,hI6,hI7,hI8,hI9,hS8,hS9,hI10,hI11,hI12,hI13,hS10,hS11,H⟩:=q4d H 3 hx2
  refine (J 16 hvb5 hx2) ((LA H 4) ((AH j1J H) fun b6 w9 H=>(SB H 2) fun w10 H=>Z (X ((V) ((D 2) ?_)))))
  refine q0b rfl rfl (q0c rfl q7S q5E rfl (Blk.part (rb H 2) 2 7) rfl) ((D 9) ?_)
  refine q0b rfl rfl (q0c rfl q7S q5E rfl (Blk.part (rb H 2) 9 7) rfl) ?_
  refine q2l (xs:=[x2.Target,x2.Value]) (vs:=[.agg #[.int .i64 x2.Target.Kind,.int .i64 x2.Target.N,.int .i64 x2.Target.Pos,.int .i64 x2.Target.Type_,.string x2.Target.Symbol,.string x2.Target.Name,.slice A9 n9 c9],.agg #[.int .i64 x2.Value.Kind,.int .i64 x2.Value.N,.int .i64 x2.Value.Pos,.int .i64 x2.Value.Type_,.string x2.Value.Symbol,.string x2.Value.Name,.slice A10 n10 c10]]) (css:=[(q2T x2.Target A9 n9 c9),(q2T x2.Value A10 n10 c10)]) rfl rfl rfl z7A q5E z0a rfl rfl ⟨rfl,rfl,⟨rfl,rfl,trivial⟩⟩ rfl rfl rfl rfl (fun F hF=>(rdL.consK (α:=Expr) (q2F.2 ⟨_,rfl,hI6,hI7,hI8,hI9,hS8,hS9,(hF.get (i:=6) rfl)⟩) (rdL.consK (α:=Expr) (q2F.2 ⟨_,rfl,hI10,hI11,hI12,hI13,hS10,hS11,(hF.get (i:=7) rfl)⟩) rfl))) rfl rfl H fun A11 n11 c11 w11 H=>?_
  have H:=H.frzG (i:=3) rfl
  refine gg hb2 fun hg2 hb2=>?_
  refine q1S (i:=1) (j:=8) rfl rfl rfl z7A q5E j5M z0a rfl rfl rfl H rfl rfl hg2 fun A12 n12 c12 w12 H=>(A) (Z (X ((AN hk4 hl2) ((V) (Z ?_)))))
  obtain rfl:=sm hb2
  exact⟨⟨k2+1,(s2++[x2.Target,x2.Value]),(.slice A12 n12 c12)⟩,⟨rfl,rfl,rfl,rfl,trivial⟩,⟨hk4,hq2,H.keep 4 2⟩,Nat.sub_lt_sub_left hk4 (Nat.lt_succ_self _)⟩
 obtain rfl:=q3N hq2 (q2E h2)
 refine CE (R ((V) ((AZ) (CR ?_))))
 obtain rfl:=sm hr
 exact⟨_,res1 rfl rfl rfl,H.ext0,_,_,_,rfl,H.outM (fr':=[]) [false,true] tw⟩
def q7s (a0:Expr)(o1:(List Occurrence)):Option (Bool × (List Occurrence)):=if a0.Kind=3 then grd (((o1.length:Int)+1)*24≤140737488355328∧(o1.length:Int)+1≤9223372036854775807) <| some (true,(o1++[(⟨a0.Pos,a0.Name⟩:Occurrence)])) else some (true,o1)
theorem z5l {a0}{o1}{r}(hr:q7s a0 o1=some r){bo1:Nat}{Aa0_6:Option Addr}{na0_6 ca0_6:Nat}{Ao1_0:Option Addr}{no1_0 co1_0:Nat}(hIa0_0:I64 a0.Kind)(hIa0_1:I64 a0.N)(hIa0_2:I64 a0.Pos)(hIa0_3:I64 a0.Type_)(hIa0_4:a0.Symbol.size≤9223372036854775807)(hIa0_5:a0.Name.size≤9223372036854775807)(H:HL F0 M w0 w0 [.S a0.Args (.slice Aa0_6 na0_6 ca0_6)] [.O 122 o1 (.slice Ao1_0 no1_0 co1_0),.B bo1 88 [.slice Ao1_0 no1_0 co1_0]]):RM 190 #[.agg #[.int .i64 a0.Kind,.int .i64 a0.N,.int .i64 a0.Pos,.int .i64 a0.Type_,.string a0.Symbol,.string a0.Name,.slice Aa0_6 na0_6 ca0_6],pB bo1] M w0 fun v w=>∃ A0 n0 c0,v = .bool r.1∧HL F0 M w0 w [] [.O 122 r.2 (.slice A0 n0 c0),.B bo1 88 [(.slice A0 n0 c0)]]:=by
 refine (En Tryz.func190) ?_
 refine R ((BX H) fun b1 w1 H=>(A) (Z (Y (R ((D 0) ((L H 2) ((BZ) (iD hr (fun _ hr=>?_) fun _ hr=>?_))))))))
 ·refine X ((L H 1) ((D 2) ((L H 2) ((D 5) ((L H 2) ?_)))))
  refine q0b rfl rfl (Ev.build rfl j1L q7h rfl rfl rfl rfl) ?_
  refine q0n rfl rfl rfl el88 q3Y q7h rfl rfl rfl rfl rfl rfl fun b2 w2 hE hb hB=>?_
  have H:=H.newB hE hb hB
  refine gg hr fun hg1 hr=>?_
  exact q0q (i:=0) (ys:=[(⟨a0.Pos,a0.Name⟩:Occurrence)]) rfl rfl rfl el88 q3Y z6B q7h rfl rfl rfl H rfl (fun _=>ownL.single ⟨rfl,hIa0_2,hIa0_5,rfl⟩) (.inr ⟨_,_,rfl,At.blk (rb H 3)⟩) hg1 fun A1 n1 c1 w3 H=>(SB H 1) fun w4 H=>Z (R ((AZ) (W1 hr)))
 exact K (R ((AZ) (W1 hr)))
def q5i (rec_ieveryNode_iAttributeUses_1:Expr→(List Occurrence)→Option (Bool × (List Occurrence)))(a0:Expr)(o1:(List Occurrence)):Option (Bool × (List Occurrence)):=(rec_ieveryNode_iAttributeUses_1 a0 o1).bind fun (y1,z1)=>some (!y1,z1)
theorem q9h {rec_ieveryNode_iAttributeUses_1:Expr→(List Occurrence)→Option (Bool × (List Occurrence))}(ih_ieveryNode_iAttributeUses_1:∀ {a0:Expr} {o1:(List Occurrence)} {r:(Bool × (List Occurrence))},rec_ieveryNode_iAttributeUses_1 a0 o1=some r→∀ {F0:Nat→Prop} {M:List Nat} {w0:World} {bo1:Nat} {Aa0_6:Option Addr} {na0_6 ca0_6:Nat} {Ao1_0:Option Addr} {no1_0 co1_0:Nat} (hIa0_0:I64 a0.Kind) (hIa0_1:I64 a0.N) (hIa0_2:I64 a0.Pos) (hIa0_3:I64 a0.Type_) (hIa0_4:a0.Symbol.size≤9223372036854775807) (hIa0_5:a0.Name.size≤9223372036854775807) (H:HL F0 M w0 w0 [.S a0.Args (.slice Aa0_6 na0_6 ca0_6)] [.O 122 o1 (.slice Ao1_0 no1_0 co1_0),.B bo1 88 [.slice Ao1_0 no1_0 co1_0]]),RM 189 #[.agg #[.int .i64 a0.Kind,.int .i64 a0.N,.int .i64 a0.Pos,.int .i64 a0.Type_,.string a0.Symbol,.string a0.Name,.slice Aa0_6 na0_6 ca0_6],.func (.func 190) #[] #[pB bo1]] M w0 fun v w=>∃ A0 n0 c0,v = .bool r.1∧HL F0 M w0 w [] [.O 122 r.2 (.slice A0 n0 c0),.B bo1 88 [(.slice A0 n0 c0)]]){a0}{o1}{r}(hr:q5i rec_ieveryNode_iAttributeUses_1 a0 o1=some r){bo1 bo2:Nat}{Aa0_6:Option Addr}{na0_6 ca0_6:Nat}{Ao1_0:Option Addr}{no1_0 co1_0:Nat}(hIa0_0:I64 a0.Kind)(hIa0_1:I64 a0.N)(hIa0_2:I64 a0.Pos)(hIa0_3:I64 a0.Type_)(hIa0_4:a0.Symbol.size≤9223372036854775807)(hIa0_5:a0.Name.size≤9223372036854775807)(H:HL F0 M w0 w0 [.S a0.Args (.slice Aa0_6 na0_6 ca0_6)] [.O 122 o1 (.slice Ao1_0 no1_0 co1_0),.B bo1 88 [.slice Ao1_0 no1_0 co1_0],.B bo2 176 [.func (.func 190) #[] #[pB bo1]]]):RM 209 #[.agg #[.int .i64 a0.Kind,.int .i64 a0.N,.int .i64 a0.Pos,.int .i64 a0.Type_,.string a0.Symbol,.string a0.Name,.slice Aa0_6 na0_6 ca0_6],pB bo2] M w0 fun v w=>∃ A0 n0 c0,v = .bool r.1∧HL F0 M w0 w [] [.O 122 r.2 (.slice A0 n0 c0),.B bo1 88 [(.slice A0 n0 c0)],.B bo2 176 [.func (.func 190) #[] #[pB bo1]]]:=by
 refine (En Tryz.func209) ?_
 refine R ((BX H) fun b1 w1 H=>(A) (Z (R ((LB H 3) ((L H 2) ?_)))))
 obtain⟨⟨y1,z1⟩,hy1,hr⟩:=bd hr
 obtain⟨F',M',hfF,hoF,hcM⟩:=H.callN [true,true,false,false] ⟨noO,noB,trivial⟩
 obtain⟨H',hcN⟩:=hcM (ps:=[.S a0.Args (.slice Aa0_6 na0_6 ca0_6)]) ⟨hfF.get (i:=0) rfl,trivial⟩
 refine (CA j4F (ih_ieveryNode_iAttributeUses_1 hy1 hIa0_0 hIa0_1 hIa0_2 hIa0_3 hIa0_4 hIa0_5 H')) ?_
 rintro _ w2 hE ⟨A1,n1,c1,rfl,H'⟩
 have H:=hcN 2 H' rfl ⟨fun _ _ _ _ _ h=>h,tv⟩
 exact (N) ((AZ) (W1 hr))
def q2S (rec_ieveryNode_iAttributeUses_1:Expr→(List Occurrence)→Option (Bool × (List Occurrence))):Nat→Expr→(List Occurrence)→Option (((List Occurrence)) ⊕ (Int × (List Occurrence))):=fun k1 x1 s1=>(q5i rec_ieveryNode_iAttributeUses_1 x1 s1).bind fun (y1,z2)=>if y1=true then some (.inr ((k1:Int),z2)) else some (.inl z2)
def q2W (rec_ieveryNode_iAttributeUses_1:Expr→(List Occurrence)→Option (Bool × (List Occurrence)))(a0:(List Expr))(o1:(List Occurrence)):Option (Int × (List Occurrence)):=(q2I (q2S rec_ieveryNode_iAttributeUses_1) 0 a0 o1).bind <| onr (fun r1=>some r1) fun s1=>some ((-1),s1)
theorem q5A {rec_ieveryNode_iAttributeUses_1:Expr→(List Occurrence)→Option (Bool × (List Occurrence))}(ih_ieveryNode_iAttributeUses_1:∀ {a0:Expr} {o1:(List Occurrence)} {r:(Bool × (List Occurrence))},rec_ieveryNode_iAttributeUses_1 a0 o1=some r→∀ {F0:Nat→Prop} {M:List Nat} {w0:World} {bo1:Nat} {Aa0_6:Option Addr} {na0_6 ca0_6:Nat} {Ao1_0:Option Addr} {no1_0 co1_0:Nat} (hIa0_0:I64 a0.Kind) (hIa0_1:I64 a0.N) (hIa0_2:I64 a0.Pos) (hIa0_3:I64 a0.Type_) (hIa0_4:a0.Symbol.size≤9223372036854775807) (hIa0_5:a0.Name.size≤9223372036854775807) (H:HL F0 M w0 w0 [.S a0.Args (.slice Aa0_6 na0_6 ca0_6)] [.O 122 o1 (.slice Ao1_0 no1_0 co1_0),.B bo1 88 [.slice Ao1_0 no1_0 co1_0]]),RM 189 #[.agg #[.int .i64 a0.Kind,.int .i64 a0.N,.int .i64 a0.Pos,.int .i64 a0.Type_,.string a0.Symbol,.string a0.Name,.slice Aa0_6 na0_6 ca0_6],.func (.func 190) #[] #[pB bo1]] M w0 fun v w=>∃ A0 n0 c0,v = .bool r.1∧HL F0 M w0 w [] [.O 122 r.2 (.slice A0 n0 c0),.B bo1 88 [(.slice A0 n0 c0)]]){a0}{o1}{r}(hr:q2W rec_ieveryNode_iAttributeUses_1 a0 o1=some r){bo1 bo2:Nat}{Aa0:Option Addr}{na0 ca0:Nat}{Ao1_0:Option Addr}{no1_0 co1_0:Nat}(H:HL F0 M w0 w0 [.S a0 (.slice Aa0 na0 ca0)] [.O 122 o1 (.slice Ao1_0 no1_0 co1_0),.B bo1 88 [.slice Ao1_0 no1_0 co1_0],.B bo2 176 [.func (.func 190) #[] #[pB bo1]]]):RM 188 #[.slice Aa0 na0 ca0,.func (.func 209) #[] #[pB bo2]] M w0 fun v w=>∃ A0 n0 c0,v = .int .i64 r.1∧I64 r.1∧HL F0 M w0 w [] [.O 122 r.2 (.slice A0 n0 c0),.B bo1 88 [(.slice A0 n0 c0)],.B bo2 176 [.func (.func 190) #[] #[pB bo1]]]:=by
 refine (En Tryz.func188) ?_
 refine R ((A) (Z (Y (R ((V) ((NI H 0) fun hl1=>(V) (Z ?_)))))))
 refine bb hr fun q1 hq1 hr=>?_
 refine (lF hq1 (fun k1 s1 v1=>[(0,.slice Aa0 na0 ca0),(1,.func (.func 209) #[] #[pB bo2]),(7,zN a0.length),(8,zN k1)]) (fun s1 v1 w=>HL F0 M w0 w [.S a0 (.slice Aa0 na0 ca0)] [.O 122 s1 v1,.B bo1 88 [v1],.B bo2 176 [.func (.func 190) #[] #[pB bo1]]]) (.slice Ao1_0 no1_0 co1_0)) ?_
 rintro k1 s1 v1 σ w1 hk1 hq1 H
 obtain⟨A1,n1,c1,rfl⟩:=(fo H 0)
 refine R ((BZ) (Y ?_))
 refine q0d rfl (fun h1=>?_) (fun h1=>?_)
 ·have hk2:=q2L h1
  obtain⟨x1,z1,hx1,hb1,hs1,ht1⟩:=q4f hq1 hk2
  refine K (Y ?_)
  refine Bk (R ((V) ((A) (Z (R ((V) ((V) ((V) ?_))))))))
  obtain⟨b1,ob1,cb1,A2,n2,c2,hvb1,hI1,hI2,hI3,hI4,hS1,hS2,H⟩:=q4G H 0 hx1
  refine (J 7 hvb1 hx1) ((LA H 1) ?_)
  obtain⟨⟨y1,z2⟩,hy1,hb1⟩:=bd hb1
  obtain⟨F',M',hfF,hoF,hcM⟩:=H.callN [true,true,true] ⟨noO,noB,noB,trivial⟩
  obtain⟨H',hcN⟩:=hcM (ps:=[.S x1.Args (.slice A2 n2 c2)]) ⟨hfF.get (i:=3) rfl,trivial⟩
  refine (CA j9S (q9h ih_ieveryNode_iAttributeUses_1 hy1 hI1 hI2 hI3 hI4 hS1 hS2 H')) ?_
  rintro _ w2 hE ⟨A3,n3,c3,rfl,H'⟩
  have H:=hcN 3 H' rfl ⟨fun _ _ _ _ _ h=>h,⟨fun _ _ _ _ _ h=>h,tv⟩⟩
  refine Z (iB hb1 (fun _ hb1=>?_) fun _ hb1=>?_)
  ·exact R ((V) ((AZ) (W2 hb1 ht1 hr)))
  exact K (X ((AN hk2 hl1) ((V) (Z (I2 hb1 hs1 ⟨k1+1,z2,(.slice A3 n3 c3)⟩)))))
 obtain rfl:=q3r hq1 (q2E h1)
 have hr:=(q3q _ _ _).symm.trans hr
 exact CE (R ((AZ) (W1 hr)))
def q2Q (rec_ieveryNode_iAttributeUses_1:Expr→(List Occurrence)→Option (Bool × (List Occurrence)))(a0:(List Expr))(o1:(List Occurrence)):Option (Bool × (List Occurrence)):=(q2W rec_ieveryNode_iAttributeUses_1 a0 o1).bind fun (y1,z1)=>some (decide (0≤y1),z1)
theorem q5n {rec_ieveryNode_iAttributeUses_1:Expr→(List Occurrence)→Option (Bool × (List Occurrence))}(ih_ieveryNode_iAttributeUses_1:∀ {a0:Expr} {o1:(List Occurrence)} {r:(Bool × (List Occurrence))},rec_ieveryNode_iAttributeUses_1 a0 o1=some r→∀ {F0:Nat→Prop} {M:List Nat} {w0:World} {bo1:Nat} {Aa0_6:Option Addr} {na0_6 ca0_6:Nat} {Ao1_0:Option Addr} {no1_0 co1_0:Nat} (hIa0_0:I64 a0.Kind) (hIa0_1:I64 a0.N) (hIa0_2:I64 a0.Pos) (hIa0_3:I64 a0.Type_) (hIa0_4:a0.Symbol.size≤9223372036854775807) (hIa0_5:a0.Name.size≤9223372036854775807) (H:HL F0 M w0 w0 [.S a0.Args (.slice Aa0_6 na0_6 ca0_6)] [.O 122 o1 (.slice Ao1_0 no1_0 co1_0),.B bo1 88 [.slice Ao1_0 no1_0 co1_0]]),RM 189 #[.agg #[.int .i64 a0.Kind,.int .i64 a0.N,.int .i64 a0.Pos,.int .i64 a0.Type_,.string a0.Symbol,.string a0.Name,.slice Aa0_6 na0_6 ca0_6],.func (.func 190) #[] #[pB bo1]] M w0 fun v w=>∃ A0 n0 c0,v = .bool r.1∧HL F0 M w0 w [] [.O 122 r.2 (.slice A0 n0 c0),.B bo1 88 [(.slice A0 n0 c0)]]){a0}{o1}{r}(hr:q2Q rec_ieveryNode_iAttributeUses_1 a0 o1=some r){bo1 bo2:Nat}{Aa0:Option Addr}{na0 ca0:Nat}{Ao1_0:Option Addr}{no1_0 co1_0:Nat}(H:HL F0 M w0 w0 [.S a0 (.slice Aa0 na0 ca0)] [.O 122 o1 (.slice Ao1_0 no1_0 co1_0),.B bo1 88 [.slice Ao1_0 no1_0 co1_0],.B bo2 176 [.func (.func 190) #[] #[pB bo1]]]):RM 154 #[.slice Aa0 na0 ca0,.func (.func 209) #[] #[pB bo2]] M w0 fun v w=>∃ A0 n0 c0,v = .bool r.1∧HL F0 M w0 w [] [.O 122 r.2 (.slice A0 n0 c0),.B bo1 88 [(.slice A0 n0 c0)],.B bo2 176 [.func (.func 190) #[] #[pB bo1]]]:=by
 refine (En Tryz.func154) ?_
 refine R ((A) (Z (R ((V) ((V) ?_)))))
 obtain⟨⟨y1,z1⟩,hy1,hr⟩:=bd hr
 obtain⟨F',M',hfF,hoF,hcM⟩:=H.callN [true,true,true] ⟨noO,noB,noB,trivial⟩
 obtain⟨H',hcN⟩:=hcM (ps:=[.S a0 (.slice Aa0 na0 ca0)]) ⟨hfF.get (i:=0) rfl,trivial⟩
 refine (CA j7K (q5A ih_ieveryNode_iAttributeUses_1 hy1 H')) ?_
 rintro _ w1 hE ⟨A1,n1,c1,rfl,hI1,H'⟩
 have H:=hcN 3 H' rfl ⟨fun _ _ _ _ _ h=>h,⟨fun _ _ _ _ _ h=>h,tv⟩⟩
 exact (B) ((AZ) (W1 hr))
def q4u (rec_ieveryNode_iAttributeUses_1:Expr→(List Occurrence)→Option (Bool × (List Occurrence)))(a0:Expr)(o1:(List Occurrence)):Option (Bool × (List Occurrence)):=(q7s a0 o1).bind fun (y1,z1)=>if y1=true then (q2Q rec_ieveryNode_iAttributeUses_1 a0.Args z1).bind fun (y2,z2)=>some (!y2,z2) else some (false,z1)
theorem q9t {rec_ieveryNode_iAttributeUses_1:Expr→(List Occurrence)→Option (Bool × (List Occurrence))}(ih_ieveryNode_iAttributeUses_1:∀ {a0:Expr} {o1:(List Occurrence)} {r:(Bool × (List Occurrence))},rec_ieveryNode_iAttributeUses_1 a0 o1=some r→∀ {F0:Nat→Prop} {M:List Nat} {w0:World} {bo1:Nat} {Aa0_6:Option Addr} {na0_6 ca0_6:Nat} {Ao1_0:Option Addr} {no1_0 co1_0:Nat} (hIa0_0:I64 a0.Kind) (hIa0_1:I64 a0.N) (hIa0_2:I64 a0.Pos) (hIa0_3:I64 a0.Type_) (hIa0_4:a0.Symbol.size≤9223372036854775807) (hIa0_5:a0.Name.size≤9223372036854775807) (H:HL F0 M w0 w0 [.S a0.Args (.slice Aa0_6 na0_6 ca0_6)] [.O 122 o1 (.slice Ao1_0 no1_0 co1_0),.B bo1 88 [.slice Ao1_0 no1_0 co1_0]]),RM 189 #[.agg #[.int .i64 a0.Kind,.int .i64 a0.N,.int .i64 a0.Pos,.int .i64 a0.Type_,.string a0.Symbol,.string a0.Name,.slice Aa0_6 na0_6 ca0_6],.func (.func 190) #[] #[pB bo1]] M w0 fun v w=>∃ A0 n0 c0,v = .bool r.1∧HL F0 M w0 w [] [.O 122 r.2 (.slice A0 n0 c0),.B bo1 88 [(.slice A0 n0 c0)]]){a0}{o1}{r}(hr:q4u rec_ieveryNode_iAttributeUses_1 a0 o1=some r){bo1:Nat}{Aa0_6:Option Addr}{na0_6 ca0_6:Nat}{Ao1_0:Option Addr}{no1_0 co1_0:Nat}(hIa0_0:I64 a0.Kind)(hIa0_1:I64 a0.N)(hIa0_2:I64 a0.Pos)(hIa0_3:I64 a0.Type_)(hIa0_4:a0.Symbol.size≤9223372036854775807)(hIa0_5:a0.Name.size≤9223372036854775807)(H:HL F0 M w0 w0 [.S a0.Args (.slice Aa0_6 na0_6 ca0_6)] [.O 122 o1 (.slice Ao1_0 no1_0 co1_0),.B bo1 88 [.slice Ao1_0 no1_0 co1_0]]):RM 189 #[.agg #[.int .i64 a0.Kind,.int .i64 a0.N,.int .i64 a0.Pos,.int .i64 a0.Type_,.string a0.Symbol,.string a0.Name,.slice Aa0_6 na0_6 ca0_6],.func (.func 190) #[] #[pB bo1]] M w0 fun v w=>∃ A0 n0 c0,v = .bool r.1∧HL F0 M w0 w [] [.O 122 r.2 (.slice A0 n0 c0),.B bo1 88 [(.slice A0 n0 c0)]]:=by
 let d1:Pr:=.S a0.Args (.slice Aa0_6 na0_6 ca0_6)
 refine (En Tryz.func189) ?_
 refine R ((BX H) fun b1 w1 H=>(BX H) fun b2 w2 H=>(A) (Z (R ((L H 3) ((LB H 2) ?_)))))
 obtain⟨⟨y1,z1⟩,hy1,hr⟩:=bd hr
 obtain⟨F',M',hfF,hoF,hcM⟩:=H.callN [true,true,false,false] ⟨noO,noB,trivial⟩
 obtain⟨H',hcN⟩:=hcM (ps:=[d1]) ⟨hfF.get (i:=0) rfl,trivial⟩
 refine (CA k2R (z5l hy1 hIa0_0 hIa0_1 hIa0_2 hIa0_3 hIa0_4 hIa0_5 H')) ?_
 rintro _ w3 hE ⟨A1,n1,c1,rfl,H'⟩
 have H:=hcN 2 H' rfl ⟨fun _ _ _ _ _ h=>h,tv⟩
 refine jB hr (fun _ hr=>?_) fun _ hr=>?_
 ·refine (G) ((D 6) ((G) ((L H 2) ((G) ?_))))
  refine q0b rfl rfl (q0w rfl rfl rfl) ((G) ?_)
  obtain⟨⟨y2,z2⟩,hy2,hr⟩:=bd hr
  obtain⟨F',M',hfF,hoF,hcM⟩:=H.callN [true,true,false,true] ⟨noO,noB,noB,trivial⟩
  obtain⟨H',hcN⟩:=hcM (ps:=[d1]) ⟨hfF.get (i:=0) rfl,trivial⟩
  refine (CA j7J (q5n ih_ieveryNode_iAttributeUses_1 hy2 H')) ?_
  rintro _ w4 hE ⟨A2,n2,c2,rfl,H'⟩
  have H:=hcN 3 H' rfl ⟨fun _ _ _ _ _ h=>h,⟨fun _ _ _ _ _ h=>h,tv⟩⟩
  exact (G) ((N) ((T) ((AZ) (W1 hr))))
 exact (O) ((O) ((O) ((O) ((O) ((U) ((AZ) (W1 hr)))))))
def q3e:Nat→Expr→(List Occurrence)→Option (Bool × (List Occurrence))
  | 0,_,_=>none
  | n+1,a0,o1=>q4u (q3e n) a0 o1
def q5w (a0:Expr)(o1:(List Occurrence)):Option (Bool × (List Occurrence)):=recO fun n=>q3e n a0 o1
theorem q9u (n:Nat):∀ {a0:Expr} {o1:(List Occurrence)} {r:(Bool × (List Occurrence))},q3e n a0 o1=some r→∀ {F0:Nat→Prop} {M:List Nat} {w0:World} {bo1:Nat} {Aa0_6:Option Addr} {na0_6 ca0_6:Nat} {Ao1_0:Option Addr} {no1_0 co1_0:Nat} (hIa0_0:I64 a0.Kind) (hIa0_1:I64 a0.N) (hIa0_2:I64 a0.Pos) (hIa0_3:I64 a0.Type_) (hIa0_4:a0.Symbol.size≤9223372036854775807) (hIa0_5:a0.Name.size≤9223372036854775807) (H:HL F0 M w0 w0 [.S a0.Args (.slice Aa0_6 na0_6 ca0_6)] [.O 122 o1 (.slice Ao1_0 no1_0 co1_0),.B bo1 88 [.slice Ao1_0 no1_0 co1_0]]),RM 189 #[.agg #[.int .i64 a0.Kind,.int .i64 a0.N,.int .i64 a0.Pos,.int .i64 a0.Type_,.string a0.Symbol,.string a0.Name,.slice Aa0_6 na0_6 ca0_6],.func (.func 190) #[] #[pB bo1]] M w0 fun v w=>∃ A0 n0 c0,v = .bool r.1∧HL F0 M w0 w [] [.O 122 r.2 (.slice A0 n0 c0),.B bo1 88 [(.slice A0 n0 c0)]]:=by
 induction n with
 | zero=>intro a0 o1 r hr; exact nomatch (show (none:Option (Bool × (List Occurrence)))=some r from hr)
 | succ n ih=>intro a0 o1 r hr; exact q9t ih hr
theorem z0c {a0}{o1}{r}(hr:q5w a0 o1=some r){bo1:Nat}{Aa0_6:Option Addr}{na0_6 ca0_6:Nat}{Ao1_0:Option Addr}{no1_0 co1_0:Nat}(hIa0_0:I64 a0.Kind)(hIa0_1:I64 a0.N)(hIa0_2:I64 a0.Pos)(hIa0_3:I64 a0.Type_)(hIa0_4:a0.Symbol.size≤9223372036854775807)(hIa0_5:a0.Name.size≤9223372036854775807)(H:HL F0 M w0 w0 [.S a0.Args (.slice Aa0_6 na0_6 ca0_6)] [.O 122 o1 (.slice Ao1_0 no1_0 co1_0),.B bo1 88 [.slice Ao1_0 no1_0 co1_0]]):RM 189 #[.agg #[.int .i64 a0.Kind,.int .i64 a0.N,.int .i64 a0.Pos,.int .i64 a0.Type_,.string a0.Symbol,.string a0.Name,.slice Aa0_6 na0_6 ca0_6],.func (.func 190) #[] #[pB bo1]] M w0 fun v w=>∃ A0 n0 c0,v = .bool r.1∧HL F0 M w0 w [] [.O 122 r.2 (.slice A0 n0 c0),.B bo1 88 [(.slice A0 n0 c0)]]:=by
 obtain⟨n,hn⟩:=q5m hr
 exact q9u n hn hIa0_0 hIa0_1 hIa0_2 hIa0_3 hIa0_4 hIa0_5 H
def q5B (a0:(List Occurrence)):Option (List Occurrence):=grd (a0.length < 4611686018427387904) <| some (z8o a0)
theorem z0m {a0 r}(hr:q5B a0=some r){A0:Option Addr}{n0 c0:Nat}(H:HL F0 M w0 w0 [] [.O 122 a0 (.slice A0 n0 c0)]):RM 191 #[.slice A0 n0 c0,.func (.func 192) #[] #[]] M w0 fun v w=>v = .tuple #[]∧HL F0 M w0 w [] [.O 122 r (.slice A0 n0 c0)]:=by
 refine gg hr fun hg hr=>?_
 obtain rfl:=sm hr
 exact j7D hg H
def q2M (s1:Int):((List Occurrence) × Int × Int)→Option (((List Occurrence) × Int × Int) ⊕ ((List Occurrence) × Int)):=fun (s4,s5,s6)=>if s6 < ((s4.drop s1.toNat).length:Int) then ( grd (0≤s6) <| (s4[(s1.toNat+s6.toNat)]?).bind fun x3=>grd (I64 (s6 - 1)) <| grd (0≤(s6 - 1)) <| (s4[(s1.toNat+((s6 - 1).toNat))]?).bind fun x4=>if x3=x4 then some (s5,s4) else grd (0≤s6) <| grd (0≤s5) <| (s4[s5.toNat]?).bind fun x5=>grd (I64 (s5+1)) <| some ((s5+1),(List.set s4 s5.toNat x3)) ).bind fun (s7,s8)=>grd (I64 (s6+1)) <| some (.inl (s8,s7,(s6+1))) else some (.inr (s4,s5))
def q2N (a0:(List Occurrence)):Int→Option (Int ⊕ (Unit ⊕ (List Occurrence))):=fun s1=>if s1 < (a0.length:Int) then grd (0≤s1) <| (a0[s1.toNat]?).bind fun x1=>grd (I64 (s1 - 1)) <| grd (0≤(s1 - 1)) <| (a0[(s1 - 1).toNat]?).bind fun x2=>if x1=x2 then grd (0≤s1) <| grd (s1.toNat≤a0.length) <| ( q5u (q2M s1) (a0,s1,1) ).bind fun (s2,s3)=>grd (0≤s3) <| grd (s3.toNat≤s2.length) <| grd (0≤s3) <| grd (s3.toNat≤(s2.take s3.toNat++List.replicate (s2.length - s3.toNat) (⟨(0:Int),(⟨#[]⟩:ByteArray)⟩:Occurrence)).length) <| some (.inr (.inr ((s2.take s3.toNat++List.replicate (s2.length - s3.toNat) (⟨(0:Int),(⟨#[]⟩:ByteArray)⟩:Occurrence)).take s3.toNat))) else grd (I64 (s1+1)) <| some (.inl (s1+1)) else some (.inr (.inl ()))
def q4S (a0:(List Occurrence)):Option (List Occurrence):=if (a0.length:Int) < 2 then some a0 else ( q5u (q2N a0) 1 ).bind <| onr (fun r1=>some r1) fun ()=>some a0
theorem z0I {a0 r}(hr:q4S a0=some r){Aa0:Option Addr}{na0 ca0:Nat}(H:HL F0 M w0 w0 [] [.O 122 a0 (.slice Aa0 na0 ca0)]):RM 193 #[.slice Aa0 na0 ca0] M w0 fun v w=>∃ A0 n0 c0,v=(.slice A0 n0 c0)∧HL F0 M w0 w [] [.O 122 r (.slice A0 n0 c0)]:=by
 refine (En Tryz.func193) ?_
 refine R ((A) (Z (Y (R ((V) ?_)))))
 have hl1:=(H.rO (i:=0) rfl).I
 refine (NN (ro H 0)) ((BZ) (iD hr (fun _ hr=>?_) fun _ hr=>?_))
 ·exact R ((V) ((AZ) (W1 hr)))
 refine K (Y (R ((AZ) ?_)))
 refine bb hr fun q1 hm1 hr=>?_
 refine q0o (fun ρ' w=>q1 = .inl ()∧q4z ρ' [(0,.slice Aa0 na0 ca0)]∧HL F0 M w0 w [] [.O 122 a0 (.slice Aa0 na0 ca0)]) ?_ ?_
 ·obtain⟨m1,hq1⟩:=q4o.1 hm1
  refine (lI hq1 (fun m1 s1 _=>[(0,.slice Aa0 na0 ca0),(3,.int .i64 s1)]) (fun s1 _ w=>I64 s1∧HL F0 M w0 w [] [.O 122 a0 (.slice Aa0 na0 ca0)]) ()) ?_
  rintro m1 s1 _ σ w1 hq1 ⟨hI1,H⟩
  obtain⟨m2,z1,rfl,hb1,hs1,ht1⟩:=q6H hq1
  refine Y (R ((V) ((V) ((NN (ro H 0)) ((BZ) (iD hb1 (fun _ hb1=>?_) fun _ hb1=>?_))))))
  ·refine K (Y ?_)
   refine Bk (Y ?_)
   refine q0g hmix (by kernel_rfl) ?_
   refine (qV) ((qV) ?_)
   refine gg hb1 fun hg1 hb1=>?_
   refine bb hb1 fun x1 hx1 hb1=>?_
   obtain⟨b1,cb1,hvb1,hbb1⟩:=po H 0 hx1
   refine q0k rfl rfl (fun _ _=>q0p rfl el88 q3Y rfl hvb1 rfl hg1 (q4X hx1)) ?_
   obtain⟨hA1,hI2,hS1,H⟩:=q4q H 0 hx1 hbb1
   refine q0k rfl rfl (fun _ hq=>q0c rfl z1W q3Y rfl (hA1.ext hq) rfl) ?_
   refine (qV) ((qV) ?_)
   refine gg hb1 fun hg2 hb1=>?_
   refine (qBN (Bin.sub hg2)) ?_
   refine gg hb1 fun hg3 hb1=>?_
   refine bb hb1 fun x2 hx2 hb1=>?_
   let d1:List Pr:=[.R x1 (q2J x1),.R x2 (q2J x2)]
   obtain⟨b2,cb2,hvb2,hbb2⟩:=po H 0 hx2
   refine q0k rfl rfl (fun _ _=>q0p rfl el88 q3Y rfl hvb2 rfl hg3 (q4X hx2)) ?_
   obtain⟨hA2,hI3,hS2,H⟩:=q4q H 0 hx2 hbb2
   refine q0k rfl rfl (fun _ hq=>q0c rfl z1W q3Y rfl (hA2.ext hq) rfl) ?_
   refine (qBN (q0D z9B (q4J x1 x2))) ?_
   refine QL.nil (fun w2 hE=>?_)
   have H:=H.ext hE
   refine iD hb1 (fun _ hb1=>?_) fun _ hb1=>?_
   ·refine R ((V) ((V) ?_))
    refine gg hb1 fun hg4 hb1=>?_
    refine gg hb1 fun hg5 hb1=>?_
    obtain⟨A1,n1,c1,e2,hc1⟩:=H.subO (i:=0) rfl hg5
    refine q0b rfl rfl (q1i rfl el88 q3Y rfl rfl ((Int.toNat_of_nonneg hg4).symm) hc1 e2) ((A) (Z (Y (R ((AZ) ?_)))))
    refine bb hb1 fun q2 hm2 hb1=>?_
    refine q0o (fun ρ' w=>∃ (s2:List Occurrence) (s3:Int),q2=(s2,s3)∧q4z ρ' [(0,.slice Aa0 na0 ca0),(3,.int .i64 s3)]∧I64 s3∧HL F0 M w0 w d1 [.O 122 s2 (.slice Aa0 na0 ca0)]) ?_ ?_
    ·obtain⟨m3,hq2⟩:=q4o.1 hm2
     refine (lI hq2 (fun m3 ⟨s4,s5,s6⟩ _=>[(0,.slice Aa0 na0 ca0),(3,.int .i64 s5),(4,.slice A1 n1 c1),(5,.int .i64 s6)]) (fun ⟨s4,s5,s6⟩ _ w=>I64 s5∧I64 s6∧HL F0 M w0 w d1 [.O 122 s4 (.slice Aa0 na0 ca0)]) ()) ?_
     rintro m3 ⟨s4,s5,s6⟩ _ σ w3 hq2 ⟨hI5,hI6,H⟩
     obtain⟨m4,z2,rfl,hb2,hs2,ht2⟩:=q6H hq2
     refine Y (R ((V) ((V) ?_)))
     have hl2:=((H.rO (i:=0) rfl).dropV hc1 e2).I
     refine q0b rfl rfl (q0J rfl el88 rfl ((H.rO (i:=0) rfl).dropV hc1 e2)) ((BZ) (iD hb2 (fun _ hb2=>?_) fun _ hb2=>?_))
     ·refine K ?_
      refine bb hb2 fun q3 hm3 hb2=>Y ?_
      refine q0o (fun ρ' w=>∃ (s7:Int) (s8:List Occurrence),q3=(s7,s8)∧q4z ρ' [(0,.slice Aa0 na0 ca0),(3,.int .i64 s7),(4,.slice A1 n1 c1),(5,.int .i64 s6)]∧I64 s7∧HL F0 M w0 w d1 [.O 122 s8 (.slice Aa0 na0 ca0)]) ?_ ?_
      ·refine Bk (Y ?_)
       refine q0g hmix (by kernel_rfl) ?_
       refine (qV) ((qV) ?_)
       refine gg hm3 fun hg6 hm3=>?_
       refine bb hm3 fun x3 hx3 hm3=>?_
       obtain⟨b3,mb3,cb3,hvb3,hmb3,hbb3⟩:=H.ptSub (i:=0) rfl e2 hx3
       refine q0k rfl rfl (fun _ _=>q1l rfl el88 q3Y rfl hvb3 rfl hg6 hmb3) ?_
       obtain⟨hA3,hI8,hS3,H⟩:=q4q H 0 hx3 hbb3
       refine q0k rfl rfl (fun _ hq=>q0c rfl z1W q3Y rfl (hA3.ext hq) rfl) ?_
       refine (qV) ((qV) ?_)
       refine gg hm3 fun hg7 hm3=>?_
       refine (qBN (Bin.sub hg7)) ?_
       refine gg hm3 fun hg8 hm3=>?_
       refine bb hm3 fun x4 hx4 hm3=>?_
       obtain⟨b4,mb4,cb4,hvb4,hmb4,hbb4⟩:=H.ptSub (i:=0) rfl e2 hx4
       refine q0k rfl rfl (fun _ _=>q1l rfl el88 q3Y rfl hvb4 rfl hg8 hmb4) ?_
       obtain⟨hA4,hI9,hS4,H⟩:=q4q H 0 hx4 hbb4
       refine q0k rfl rfl (fun _ hq=>q0c rfl z1W q3Y rfl (hA4.ext hq) rfl) ?_
       refine (qBN (q1O z9B (q4J x3 x4))) ?_
       refine QL.nil (fun w4 hE=>?_)
       have H:=H.ext hE
       refine iN hm3 (fun _ hm3=>?_) fun _ hm3=>?_
       ·refine R ((V) ((V) ((V) ((V) ?_))))
        refine gg hm3 fun hg9 hm3=>?_
        obtain⟨b5,mb5,cb5,hvb5,hmb5,hbb5⟩:=H.ptSub (i:=0) rfl e2 hx3
        refine q0b rfl rfl (q1l rfl el88 q3Y rfl hvb5 rfl hg9 hmb5) ?_
        obtain⟨hA5,hI10,hS5,H⟩:=q4q H 0 hx3 hbb5
        refine q0b rfl rfl (q0c rfl z1W q3Y rfl hA5 rfl) ?_
        refine gg hm3 fun hg10 hm3=>?_
        refine bb hm3 fun x5 hx5 hm3=>?_
        obtain⟨b6,cb6,hvb6,hbb6⟩:=po H 0 hx5
        refine q0b rfl rfl (q0p rfl el88 q3Y rfl hvb6 rfl hg10 (q4X hx5)) ?_
        refine q0F (i:=0) (z:=x3) rfl rfl rfl q3Y rfl rfl rfl (fun _=>⟨rfl,hI10,hS5,rfl⟩) H rfl hbb6 (by simpa using q4X hx5) fun w5 H=>Z ?_
        refine q0e [(0,.slice Aa0 na0 ca0),(3,.int .i64 s5),(4,.slice A1 n1 c1),(5,.int .i64 s6)] ⟨rfl,rfl,rfl,rfl,trivial⟩ fun σ=>?_
        have H:HL F0 M w0 w5 [.R x1 (q2J x1),.R x2 (q2J x2),.R x3 (q2J x3),.R x4 (q2J x4),.R x3 (q2J x3)] [.O 122 (List.set s4 s5.toNat x3) (.slice Aa0 na0 ca0)]:=H
        refine X ((V) ?_)
        exact gg hm3 fun hg11 hm3=>(BN (Bin.add hg11)) ((AZ) (C1 hm3))
       exact K (C1 hm3)
      rintro ρ' w6 ⟨s7,s8,rfl,hag,hI7,H⟩
      obtain⟨σ,rfl⟩:=q4g hag
      refine X ((V) ?_)
      exact gg hb2 fun hg12 hb2=>(BN (Bin.add hg12)) ((A) (Z (I2 hb2 hs2 ⟨m4,⟨s8,s7,(s6+1)⟩,()⟩)))
     exact CE (C2 hb2 ht2)
    rintro ρ' w7 ⟨s2,s3,rfl,hag,hI4,H⟩
    obtain⟨σ,rfl⟩:=q4g hag
    refine R ((V) ((V) ?_))
    refine gg hb1 fun hg13 hb1=>?_
    refine gg hb1 fun hg14 hb1=>?_
    obtain⟨A2,n2,c2,e4,hc2⟩:=H.subO (i:=0) rfl hg14
    refine q0b rfl rfl (q1i rfl el88 q3Y rfl rfl ((Int.toNat_of_nonneg hg13).symm) hc2 e4) ?_
    refine q2i (i:=0) (x0:=(⟨(0:Int),eB⟩:Occurrence)) rfl rfl rfl el88 q3Y q7h (fun _=>⟨rfl,dI,dI,rfl⟩) rfl H rfl hc2 e4 fun w8 H=>Z (R ((V) ((V) ?_)))
    refine gg hb1 fun hg15 hb1=>?_
    refine gg hb1 fun hg16 hb1=>?_
    obtain⟨A3,n3,c3,e5,hc3,H⟩:=H.cutO (i:=0) rfl hg16
    exact q0b rfl rfl (q0L rfl el88 q3Y rfl rfl ((Int.toNat_of_nonneg hg15).symm) hc3 e5) ((AZ) (W2 hb1 ht1 hr))
   refine K (X ((V) ?_))
   exact gg hb1 fun hg17 hb1=>(BN (Bin.add hg17)) ((A) (Z (I2 hb1 hs1 ⟨m2,(s1+1),()⟩)))
  exact CE (C2 hb1 ht1)
 rintro ρ' w9 ⟨rfl,hag,H⟩
 obtain⟨σ,rfl⟩:=q4g hag
 exact R ((V) ((AZ) (W1 hr)))
def q6X (a0:Expr):Option (List Occurrence):=(q5w a0 []).bind fun (y1,z1)=>(q5B z1).bind fun z2=>(q4S z2).bind fun y2=>some y2
theorem z2x {a0}{r}(hr:q6X a0=some r){ca0}(ha0:rd F0 w0 a0 ca0):RT 157 #[ag ca0] w0 fun v w=>∃ A0 n0 c0,v=(.slice A0 n0 c0)∧HL F0 [] w0 w [] [.O 122 r (.slice A0 n0 c0)]:=by
 have H:=(HL.start F0 w0).argR ha0
 obtain⟨A1,n1,c1,rfl,hI1,hI2,hI3,hI4,hS1,hS2,H⟩:=q3X H 0
 refine (En Tryz.func157) ?_
 refine R ((BX H) fun b1 w1 H=>(AZ) (R ?_))
 refine q0h (α:=Occurrence) rfl rfl rfl el88 q3Y H fun A2 n2 c2 w2 H=>(AH ze88 H) fun b2 w3 H=>(SB H 2) fun w4 H=>Z (R ((LB H 0) ?_))
 refine q0b rfl rfl (q0w rfl rfl rfl) ?_
 obtain⟨⟨y1,z1⟩,hy1,hr⟩:=bd hr
 obtain⟨F',M',hfF,hoF,hcM⟩:=H.callN [false,true,true] ⟨noO,noB,trivial⟩
 obtain⟨H',hcN⟩:=hcM (ps:=[.S a0.Args (.slice A1 n1 c1)]) ⟨hfF.get (i:=1) rfl,trivial⟩
 refine (CA j4F (z0c hy1 hI1 hI2 hI3 hI4 hS1 hS2 H')) ?_
 rintro _ w5 hE ⟨A3,n3,c3,rfl,H'⟩
 have H:=hcN 2 H' rfl ⟨fun _ _ _ _ _ h=>h,tv⟩
 refine Z (R ((L H 2) ?_))
 refine bb hr fun z2 hy2 hr=>?_
 obtain⟨F',M',hfF,hoF,hcM⟩:=H.callN [false,true,false] ⟨noO,trivial⟩
 obtain⟨H',hcN⟩:=hcM (ps:=[]) trivial
 refine (CA k2S (z0m hy2 H')) ?_
 rintro _ w6 hE ⟨rfl,H'⟩
 have H:=hcN 1 H' rfl tv
 refine Z (R ((L H 2) ?_))
 refine bb hr fun y2 hy3 hr=>?_
 obtain⟨F',M',hfF,hoF,hcM⟩:=H.callN [false,true,false] ⟨noO,trivial⟩
 obtain⟨H',hcN⟩:=hcM (ps:=[]) trivial
 refine (CA k2T (z0I hy3 H')) ?_
 rintro _ w7 hE ⟨A4,n4,c4,rfl,H'⟩
 have H:=hcN 1 H' rfl tv
 exact (AZ) (W1 hr)
def q9v (a1:ByteArray):Nat→Attribute→Unit→Option (Unit ⊕ (Attribute × Bool)):=fun k1 x1 _=>if x1.Name=a1 then some (.inr (x1,true)) else some (.inl ())
def q5W (a0:Symbol)(a1:ByteArray):Option (Attribute × Bool):=(q2I (q9v a1) 0 a0.Attributes ()).bind <| onr (fun r1=>some r1) fun _=>some ((⟨(⟨#[]⟩:ByteArray),0,0,false⟩:Attribute),false)
theorem q9w {a0}{a1}{r}(hr:q5W a0 a1=some r){ca0}(ha0:rd F0 w0 a0 ca0)(ha1:a1.size≤9223372036854775807):RT 105 #[ag ca0,.string a1] w0 fun v w=>v = .tuple #[.agg #[.string r.1.Name,.int .i64 r.1.Type_,.int .i64 r.1.Mode,.bool r.1.Circular],.bool r.2]∧r.1.Name.size≤9223372036854775807∧I64 r.1.Type_∧I64 r.1.Mode:=by
 have H:=(HL.start F0 w0).argR ha0
 obtain⟨A1,n1,c1,rfl,hS1,H⟩:=q6T H 0
 refine (En Tryz.func105) ?_
 refine R ((BX H) fun b1 w1 H=>(AH q7T H) fun b2 w2 H=>(A) (Z (Y (R ((D 1) ((L H 0) ((NI H 1) fun hl1=>(V) (Z ?_))))))))
 refine bb hr fun q1 hq1 hr=>?_
 refine (lF hq1 (fun k1 _ _=>[(1,.string a1),(4,pB b2),(9,.slice A1 n1 c1),(10,zN a0.Attributes.length),(11,zN k1)]) (fun _ _ w=>HL F0 [] w0 w [.R a0 (q3W a0 A1 n1 c1),.S a0.Attributes (.slice A1 n1 c1)] [.B b1 69 (q3W a0 A1 n1 c1),.B b2 120 [.string eB,.int .i64 0,.int .i64 0,.bool false]]) ()) ?_
 rintro k1 _ _ σ w3 hk1 hq1 H
 refine R ((BZ) (Y ?_))
 refine q0d rfl (fun h1=>?_) (fun h1=>?_)
 ·have hk2:=q2L h1
  obtain⟨x1,z1,hx1,hb1,hs1,ht1⟩:=q4f hq1 hk2
  refine K (Y ?_)
  refine Bk (R ?_)
  obtain⟨b3,ob3,cb3,hvb3,hS2,hI1,hI2,H⟩:=q4L H 1 hx1
  refine (J 4 hvb3 hx1) ((LA H 2) ((AH q7T H) fun b4 w4 H=>(SB H 2) fun w5 H=>Z (R ((D 0) ((L H 2) ((V) ((BZ) (iD hb1 (fun _ hb1=>?_) fun _ hb1=>?_))))))))
  ·refine R ((LB H 2) ((SB H 1) fun w6 H=>(AZ) (CR ?_)))
   obtain rfl:=sm hb1
   obtain rfl:=ht1 _ rfl
   obtain rfl:=sm hr
   exact⟨_,z5J rfl z7z q9m rfl rfl rfl rfl (ab H 1) rfl,H.ext0,rfl,hS2,hI1,hI2⟩
  exact K (X ((AN hk2 hl1) ((V) (Z (I2 hb1 hs1 ⟨k1+1,(),()⟩)))))
 obtain rfl:=q3r hq1 (q2E h1)
 have hr:=(q3q _ _ _).symm.trans hr
 refine CE (R ?_)
 refine q0b rfl rfl (Ev.build rfl j9G q7T rfl rfl rfl rfl) ((SB H 1) fun w7 H=>(AZ) (CR ?_))
 obtain rfl:=sm hr
 exact⟨_,z5J rfl z7z q9m rfl rfl rfl rfl (ab H 1) rfl,H.ext0,rfl,dI,dI,dI⟩
def q7g (a0:Grammar)(a1:Rule)(a2:Occurrence):Option (Attribute × Bool):=(q2P a2.Pos 0 (a1.Right.length:Int)).bind fun y1=>if y1=true then (q6f a1 a2.Pos).bind fun y2=>(q4R a0 y2).bind fun (y3,y4)=>(q5W y3 a2.Name).bind fun (y5,y6)=>some (y5,y6) else some ((⟨(⟨#[]⟩:ByteArray),0,0,false⟩:Attribute),false)
theorem z1j {a0}{a1}{a2}{r}(hr:q7g a0 a1 a2=some r){ca0}(ha0:rd F0 w0 a0 ca0){ca1}(ha1:rd F0 w0 a1 ca1){ca2}(ha2:rd F0 w0 a2 ca2):RT 102 #[ag ca0,ag ca1,ag ca2] w0 fun v w=>v = .tuple #[.agg #[.string r.1.Name,.int .i64 r.1.Type_,.int .i64 r.1.Mode,.bool r.1.Circular],.bool r.2]∧r.1.Name.size≤9223372036854775807∧I64 r.1.Type_∧I64 r.1.Mode:=by
 have H:=(((HL.start F0 w0).argR ha0).argR ha1).argR ha2
 obtain⟨A1,n1,c1,A2,n2,c2,rfl,H⟩:=q2C H 0
 obtain⟨A3,n3,c3,A4,n4,c4,A5,n5,c5,rfl,hS1,hS2,H⟩:=q2U H 1
 let d1:=q3C a1 A3 n3 c3 A4 n4 c4 A5 n5 c5
 obtain⟨rfl,hI1,hS3,H⟩:=q2R H 2
 refine (En Tryz.func102) ?_
 refine R ((BX H) fun b1 w1 H=>(BX H) fun b2 w2 H=>(BX H) fun b3 w3 H=>(AH q7T H) fun b4 w4 H=>(A) (Z (Y (R ((D 0) ((L H 2) ((D 2) ((L H 1) ((NI H 5) fun hl1=>?_)))))))))
 refine bb hr fun y1 hy1 hr=>?_
 refine (CA ok94 (q3c hy1 (F0:=nF) hI1 dI hl1)) (cE H fun w5 H=>(N) (Z (iM hr (fun _ hr=>?_) fun h1 hr=>?_)))
 ·refine R ?_
  refine q0b rfl rfl (Ev.build rfl j9G q7T rfl rfl rfl rfl) ((SB H 3) fun w6 H=>(AZ) (CR ?_))
  obtain rfl:=sm hr
  exact⟨_,z5J rfl z7z q9m rfl rfl rfl rfl (ab H 3) rfl,H.ext0,rfl,dI,dI,dI⟩
 refine K ?_
 refine bb hr fun y2 hy2 hr=>?_
 obtain⟨_,_,_,hS4⟩:=(q7z hy2 ⟨_,_,_,rfl,hS1,hS2,(rs H 5),(rs H 6),(rs H 7)⟩ hI1).get
 obtain⟨⟨y3,y4⟩,hy3,hr⟩:=bd hr
 obtain⟨F_G1,hFl_G1,hF_G1,hcl_G1⟩:=H.callL
 refine Y ?_
 refine q0H 11 (fun ρ=>[.fix (.agg #[.slice A1 n1 c1,.slice A2 n2 c2]),.fix (.agg #[.string a1.Name,.string a1.Left,.slice A3 n3 c3,.bool a1.Literal,.slice A4 n4 c4,.slice A5 n5 c5]),.fix (.pointer (some ⟨b3,0+0,none⟩)),.fix (.int .i64 a2.Pos),.fix (.string y2),.free (fun S v w=>∃ A6:Option Addr,∃ n6:Nat,∃ c6:Nat,v = .tuple #[.agg #[.string y3.Name,.slice A6 n6 c6],.bool y4]∧y3.Name.size≤9223372036854775807∧NewV F_G1 w5 S w [.S y3.Attributes (.slice A6 n6 c6)] []),.dep 24 id,.dep 18 (z2R 0),.dep 18 (z2R 1),.free (VarB 69 2),.wr 8 25 (WrB 69)]) [[],[],[],[],[],[],[24],[18],[18],[],[8,25]] NoM (fun _ _=>True) [] [none,none,none,none,none,none,none,none,none,none,some 9] (noM _) hmix (by kernel_rfl) rfl ⟨trivial,trivial,trivial,trivial,trivial,fun _ _ _ _ _ ⟨A6,n6,c6,hv,h0,hh⟩ hc hS hT=>⟨A6,n6,c6,hv,h0,hh.chgT hc hS hT hFl_G1⟩,trivial,trivial,trivial,fun _ _ _ _ _ h hc hS _=>h.chgT hc hS,fun _ _ _ _ _ _ h hc hS _=>h.chgT hc hS,trivial⟩ trivial (fun _ _ _ _ _ _ _=>trivial) ?_
 refine q0m rfl rfl rfl rfl rfl (fun _ hq hK=>q0c rfl ag31 sz31 rfl (At.blk ((H.ext hq).rB (i:=0) rfl)) rfl) ?_
 refine q0m rfl rfl rfl rfl rfl (fun _ hq hK=>q0c rfl ag65 sz65 rfl (At.blk ((H.ext hq).rB (i:=1) rfl)) rfl) ?_
 refine q0m rfl rfl rfl rfl rfl (fun _ hq hK=>q0v rfl j0A rfl) ?_
 refine q0m rfl rfl rfl rfl rfl (fun _ hq hK=>q0l rfl ag3 rfl (((H.ext hq).rB (i:=2) rfl).cell rfl)) ?_
 refine q0G rfl rfl rfl rfl (fun _ hq hK=>OpX.call rfl rfl rfl rfl j7I rfl (q7z hy2 ⟨_,_,_,rfl,hS1,hS2,(rs (H.ext hq) 5),(rs (H.ext hq) 6),(rs (H.ext hq) 7)⟩ hI1) fun _ _ hE h=>⟨hE,h.1⟩) ?_
 refine LL2.free rfl rfl rfl rfl (fun wq hq hK=>?_) (fun v_G1_5 S_G1_5=>?_)
 ·have hF:=hF_G1.ext hq
  refine OpX.call rfl rfl rfl rfl j4E rfl (q7f hy3 ⟨_,_,rfl,(hF.get (i:=3) rfl),(hF.get (i:=4) rfl)⟩ hS4) ?_
  rintro _ w hE ⟨A6,n6,c6,rfl,h0,hh⟩
  exact⟨hE,A6,n6,c6,rfl,h0,NewV.of hFl_G1 hq hh⟩
 refine q0V rfl rfl rfl rfl rfl (.inl rfl) rfl ?_
 refine q0C rfl rfl rfl rfl rfl rfl rfl (fun wq hq hK=>?_) ?_
 ·have hK:∀ j' (_:(q2K _).contains j'=true),_:=hK 6 rfl
  obtain⟨A6,n6,c6,rfl,_,_⟩:=hK 5 rfl
  exact⟨_,_,rfl,rfl⟩
 refine q0C rfl rfl rfl rfl rfl rfl rfl (fun wq hq hK=>?_) ?_
 ·have hK:∀ j' (_:(q2K _).contains j'=true),_:=hK 6 rfl
  obtain⟨A6,n6,c6,rfl,_,_⟩:=hK 5 rfl
  exact⟨_,_,rfl,rfl⟩
 refine LL2.free rfl rfl rfl rfl (fun wq hq hK=>q0z rfl rfl ze69 rfl) (fun v_G1_9 S_G1_9=>?_)
 refine LL2.st (k:=2) rfl rfl rfl (by decide) rfl rfl rfl rfl sz69 rfl rfl (fun wq hq hK=>hK 9 rfl) (fun wq hq hK=>?_) ?_
 ·obtain⟨A6,n6,c6,rfl,_,_⟩:=hK 5 rfl
  exact⟨_,rfl,rfl,(all1 rfl (all1 rfl all0))⟩
 intro w7 hE _ hK hap hbd
 have hE:=z0W hE
 obtain⟨A6,n6,c6,rfl,hS5,hN1⟩:=hK 5 (by decide)
 obtain⟨b5,rfl,hN2⟩:=j1x (cells:=(q3W y3 A6 n6 c6)) (hK 9 (by decide)) (hK 10 (by decide)) rfl
 have H:=hcl_G1 (q1d (hN1.app (hN2.V tv) fun q h1 h2=>absurd (hap 5 9 q h1 h2) (by decide)) hE fun q hq=>hq.elim (fun h=>(hbd 5 q h).1) fun h=>(hbd 9 q h).1)
 refine (AZ) (Y ?_)
 refine q0e [(5,pB b3),(6,pB b4),(8,pB b5)] ⟨rfl,rfl,rfl,trivial⟩ fun σ=>?_
 have H:HL F0 [] w0 w7 [.R a0 [.slice A1 n1 c1,.slice A2 n2 c2],.R a1 d1,.R a2 (q2J a2),.S a0.Symbols (.slice A1 n1 c1),.S a0.Rules (.slice A2 n2 c2),.S a1.Right (.slice A3 n3 c3),.S a1.Equations (.slice A4 n4 c4),.S a1.Contributions (.slice A5 n5 c5),.S y3.Attributes (.slice A6 n6 c6)] [.B b1 31 [.slice A1 n1 c1,.slice A2 n2 c2],.B b2 65 d1,.B b3 122 (q2J a2),.B b4 120 [.string eB,.int .i64 0,.int .i64 0,.bool false],.B b5 69 (q3W y3 A6 n6 c6)]:=H
 refine X ((LB H 4) ((D 1) ((L H 2) ?_)))
 obtain⟨⟨y5,y6⟩,hy4,hr⟩:=bd hr
 refine (CA j9J (q9w hy4 ⟨_,rfl,hS5,(rs H 8)⟩ hS3)) ?_
 rintro _ w8 hE ⟨rfl,hS6,hI2,hI3⟩
 have H:=H.ext hE
 refine (EX) ((EX) ((SB H 3) fun w9 H=>(AZ) (CR ?_)))
 obtain rfl:=sm hr
 exact⟨_,z5J rfl z7z q9m rfl rfl rfl rfl (ab H 3) rfl,H.ext0,rfl,hS6,hI2,hI3⟩
def z6g (a0:Grammar)(a1:Rule)(a2:Occurrence):Option Bool:=(q7g a0 a1 a2).bind fun (y1,y2)=>if a2.Pos=0 then ( if y2=true then some (decide (y1.Mode=1)) else some false ).bind fun s1=>some s1 else ( if y2=true then some (decide (y1.Mode=2)) else some false ).bind fun s2=>some s2
theorem j4U {a0}{a1}{a2}{r}(hr:z6g a0 a1 a2=some r){ca0}(ha0:rd F0 w0 a0 ca0){ca1}(ha1:rd F0 w0 a1 ca1){ca2}(ha2:rd F0 w0 a2 ca2):RB 159 #[ag ca0,ag ca1,ag ca2] w0 r:=by
 let d4:=q2J a2
 have H:=(((HL.start F0 w0).argR ha0).argR ha1).argR ha2
 obtain⟨A1,n1,c1,A2,n2,c2,rfl,H⟩:=q2C H 0
 let d3:List Value:=[.slice A1 n1 c1,.slice A2 n2 c2]
 obtain⟨A3,n3,c3,A4,n4,c4,A5,n5,c5,rfl,hS1,hS2,H⟩:=q2U H 1
 let d2:=q3C a1 A3 n3 c3 A4 n4 c4 A5 n5 c5
 let d1:List Pr:=[.R a0 d3,.R a1 d2,.R a2 d4,.S a0.Symbols (.slice A1 n1 c1),.S a0.Rules (.slice A2 n2 c2),.S a1.Right (.slice A3 n3 c3),.S a1.Equations (.slice A4 n4 c4),.S a1.Contributions (.slice A5 n5 c5)]
 obtain⟨rfl,hI1,hS3,H⟩:=q2R H 2
 refine (En Tryz.func159) ?_
 refine R ((BX H) fun b1 w1 H=>(BX H) fun b2 w2 H=>(BX H) fun b3 w3 H=>(A) (Z (R ((LB H 0) ((LB H 1) ((LB H 2) ?_))))))
 obtain⟨⟨y1,y2⟩,hy1,hr⟩:=bd hr
 refine (CA j9I (z1j hy1 ⟨_,_,rfl,(rs H 3),(rs H 4)⟩ ⟨_,_,_,rfl,hS1,hS2,(rs H 5),(rs H 6),(rs H 7)⟩ ⟨rfl,hI1,hS3⟩)) ?_
 rintro _ w4 hE ⟨rfl,hS4,hI2,hI3⟩
 have H:=H.ext hE
 refine (V) ((EX) ((EX) ((AH q7T H) fun b4 w5 H=>(SB H 3) fun w6 H=>(A) (Z (Y (R ((D 0) ((L H 2) ((BZ) (iD hr (fun _ hr=>?_) fun _ hr=>?_))))))))))
 ·refine R ((V) ?_)
  refine bb hr fun q1 hm1 hr=>?_
  refine cu H 5 [(6,.bool false),(24,.bool q1)] d1 [.B b1 31 d3,.B b2 65 d2,.B b3 122 d4,.B b4 120 (q3k y1)] ?_ fun σ w7 H=>?_
  ·refine jB hm1 (fun _ hm1=>?_) fun _ hm1=>?_
   ·exact (G) ((D 2) ((G) ((L H 3) ((G) ((B) ((T) (Z (C1 hm1))))))))
   exact OF hm1
  exact (AZ) (W1 hr)
 refine K (R ((V) ?_))
 refine bb hr fun q2 hm2 hr=>?_
 refine cu H 5 [(6,.bool false),(30,.bool q2)] d1 [.B b1 31 d3,.B b2 65 d2,.B b3 122 d4,.B b4 120 (q3k y1)] ?_ fun σ w8 H=>?_
 ·refine jB hm2 (fun _ hm2=>?_) fun _ hm2=>?_
  ·exact (G) ((D 2) ((G) ((L H 3) ((G) ((B) ((T) (Z (C1 hm2))))))))
  exact OF hm2
 exact (AZ) (W1 hr)
def q9U (a0:Occurrence)(a1:Grammar)(a2:Rule):Option Bool:=(z6g a1 a2 a0).bind fun y1=>some (!y1)
end Go.Proofs.YtmblndlpkpaobabGreat

