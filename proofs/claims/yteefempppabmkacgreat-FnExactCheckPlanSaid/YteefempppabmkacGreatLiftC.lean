/- What some functions of the program compute, as partial functions on plain data, and that they do; each lemma bears its conditions in its statement. -/
import Derived.Test.YteefempppabmkacGreatLiftB
set_option linter.unusedVariables false
set_option linter.unusedSimpArgs false
set_option linter.ambiguousOpen false
set_option linter.unusedSectionVars false
set_option linter.unnecessarySimpa false
set_option linter.unusedVariables false
set_option linter.unusedSimpArgs false
set_option maxRecDepth 100000
set_option maxHeartbeats 4000000
noncomputable section
namespace Go.Proofs.YteefempppabmkacGreat
open Go Go.E
open Go.E.Rep (rd)
open Go.E.Sep (own)
open Go.E.Sz (szd)
variable {F0:Nat→Prop}{w0:World}{M:List Nat}
theorem z4e {a0}{r}(hr:q8f a0=some r){ca0}(ha0:rd F0 w0 a0 ca0):RT 85 #[ag ca0] w0 fun v w=>∃ A0 n0 c0,v=(.slice A0 n0 c0)∧HL F0 [] w0 w [] [.G 136 r (.slice A0 n0 c0)]:=by
 have H:=(HL.start F0 w0).argR ha0
 obtain⟨A1,n1,c1,A2,n2,c2,A3,n3,c3,rfl,hS1,hS2,H⟩:=q3j H 0
 let d2:=q4o a0 A1 n1 c1 A2 n2 c2 A3 n3 c3
 let d1:List Pr:=[.R a0 d2,.S a0.Right (.slice A1 n1 c1),.S a0.Equations (.slice A2 n2 c2),.S a0.Contributions (.slice A3 n3 c3)]
 refine (En Tryz.func85) ?_
 refine R ((BX H) fun b1 w1 H=>(AZ) (R ?_))
 refine q0s (α:=Expr) rfl rfl rfl z7L q5u H fun A4 n4 c4 w2 H=>?_
 have H:=H.toG (i:=1) rfl
 refine (A) (Z (Y (R ((D 4) ((L H 0) ((NI H 2) fun hl1=>(V) (Z ?_)))))))
 refine bb hr fun q1 hq1 hr=>?_
 refine Bk (CW.loop (α:=Nat × (List Expr) × Value) (fun ⟨k1,s1,v1⟩=>[(1,pB b1),(3,v1),(10,.slice A2 n2 c2),(11,zN a0.Equations.length),(12,zN k1)]) (fun ⟨k1,s1,v1⟩ w=>k1≤a0.Equations.length∧q2J q7G k1 (a0.Equations.drop k1) s1=some q1∧HL F0 [] w0 w d1 [.B b1 62 d2,.G 136 s1 v1]) (fun ⟨k1,s1,v1⟩=>a0.Equations.length - k1) ⟨0,([]:List Expr),(.slice A4 n4 c4)⟩ ⟨rfl,rfl,rfl,rfl,rfl,trivial⟩ ⟨Nat.zero_le _,hq1,H.keep 4 2⟩ ?_)
 rintro⟨k1,s1,v1⟩ σ w3 ⟨hk1,hq1,H⟩
 obtain⟨A5,n5,c5,rfl⟩:=(H.rG (i:=1) rfl).form3
 refine R ((BZ) (Y ?_))
 refine q0e rfl (fun h1=>?_) (fun h1=>?_)
 ·have hk2:=q2G h1
  obtain⟨x1,z1,hx1,hb1,hq1⟩:=q8k hq1 hk2
  refine K (Y ?_)
  refine Bk (R ?_)
  obtain⟨b2,ob2,cb2,A6,n6,c6,hvb2,hI1,hS3,hI2,hI3,hI4,hI5,hS4,hS5,H⟩:=q3P H 2 hx1
  refine (J 9 hvb2 hx1) ((LA H 4) ((AH z9P H) fun b3 w4 H=>(SB H 2) fun w5 H=>Z (X ((V) ((D 2) ?_)))))
  refine q0b rfl rfl (q0c rfl q7L q5u rfl (Blk.part (rb H 2) 2 7) rfl) ?_
  refine q0p rfl rfl rfl z7L q5u q9V rfl rfl rfl rfl rfl rfl fun b4 w6 hE hb hB=>?_
  have H:=H.newB hE hb hB
  refine gg hb1 fun hg1 hb1=>?_
  refine q1k (i:=1) (ys:=[x1.Expr]) rfl rfl rfl z7L q5u j6c q9V rfl rfl rfl H rfl (fun F hF=>rdL.single (q2r.2 ⟨_,rfl,hI2,hI3,hI4,hI5,hS4,hS5,(hF.get (i:=6) rfl)⟩)) (.inr ⟨_,_,rfl,At.blk (rb H 3)⟩) hg1 fun A7 n7 c7 w7 H=>(A) (Z (X ((AN hk2 hl1) ((V) (Z ?_)))))
  obtain rfl:=sm hb1
  exact⟨⟨k1+1,(s1++[x1.Expr]),(.slice A7 n7 c7)⟩,⟨rfl,rfl,rfl,rfl,rfl,trivial⟩,⟨hk2,hq1,H.keep 4 2⟩,Nat.sub_lt_sub_left hk2 (Nat.lt_succ_self _)⟩
 obtain rfl:=q6Z hq1 (q2t h1)
 refine CE (Y (R ((D 5) ((L H 0) ((NI H 3) fun hl2=>(V) (Z ?_))))))
 refine bb hr fun q2 hq2 hr=>?_
 refine Bk (CW.loop (α:=Nat × (List Expr) × Value) (fun ⟨k2,s2,v2⟩=>[(3,v2),(23,.slice A3 n3 c3),(24,zN a0.Contributions.length),(25,zN k2)]) (fun ⟨k2,s2,v2⟩ w=>k2≤a0.Contributions.length∧q2J q7H k2 (a0.Contributions.drop k2) s2=some q2∧HL F0 [] w0 w d1 [.B b1 62 d2,.G 136 s2 v2]) (fun ⟨k2,s2,v2⟩=>a0.Contributions.length - k2) ⟨0,s1,(.slice A5 n5 c5)⟩ ⟨rfl,rfl,rfl,rfl,trivial⟩ ⟨Nat.zero_le _,hq2,H.keep 4 2⟩ ?_)
 rintro⟨k2,s2,v2⟩ σ w8 ⟨hk3,hq2,H⟩
 obtain⟨A8,n8,c8,rfl⟩:=(H.rG (i:=1) rfl).form3
 refine R ((BZ) (Y ?_))
 refine q0e rfl (fun h2=>?_) (fun h2=>?_)
 ·have hk4:=q2G h2
  obtain⟨x2,z2,hx2,hb2,hq2⟩:=q8k hq2 hk4
  refine K (Y ?_)
  refine Bk (R ?_)
  obtain⟨b5,ob5,cb5,A9,n9,c9,A10,n10,c10,hvb5,hS6,hS7,hI6,hI7,hI8,hI9,hS8,hS9,hI10,hI11,hI12,hI13,hS10,hS11,H⟩:=q3V H 3 hx2
  refine (J 16 hvb5 hx2) ((LA H 4) ((AH j1Y H) fun b6 w9 H=>(SB H 2) fun w10 H=>Z (X ((V) ((D 2) ?_)))))
  refine q0b rfl rfl (q0c rfl q7L q5u rfl (Blk.part (rb H 2) 2 7) rfl) ((D 9) ?_)
  refine q0b rfl rfl (q0c rfl q7L q5u rfl (Blk.part (rb H 2) 9 7) rfl) ?_
  refine q2c (xs:=[x2.Target,x2.Value]) (vs:=[.agg #[.int .i64 x2.Target.Kind,.int .i64 x2.Target.N,.int .i64 x2.Target.Pos,.int .i64 x2.Target.Type_,.string x2.Target.Symbol,.string x2.Target.Name,.slice A9 n9 c9],.agg #[.int .i64 x2.Value.Kind,.int .i64 x2.Value.N,.int .i64 x2.Value.Pos,.int .i64 x2.Value.Type_,.string x2.Value.Symbol,.string x2.Value.Name,.slice A10 n10 c10]]) (css:=[(q2D x2.Target A9 n9 c9),(q2D x2.Value A10 n10 c10)]) rfl rfl rfl z7L q5u q9V rfl rfl ⟨rfl,rfl,⟨rfl,rfl,trivial⟩⟩ rfl rfl rfl rfl (fun F hF=>(rdL.consK (α:=Expr) (q2r.2 ⟨_,rfl,hI6,hI7,hI8,hI9,hS8,hS9,(hF.get (i:=6) rfl)⟩) (rdL.consK (α:=Expr) (q2r.2 ⟨_,rfl,hI10,hI11,hI12,hI13,hS10,hS11,(hF.get (i:=7) rfl)⟩) rfl))) rfl rfl H fun A11 n11 c11 w11 H=>?_
  have H:=H.frzG (i:=3) rfl
  refine gg hb2 fun hg2 hb2=>?_
  refine q1M (i:=1) (j:=8) rfl rfl rfl z7L q5u j6c q9V rfl rfl rfl H rfl rfl hg2 fun A12 n12 c12 w12 H=>(A) (Z (X ((AN hk4 hl2) ((V) (Z ?_)))))
  obtain rfl:=sm hb2
  exact⟨⟨k2+1,(s2++[x2.Target,x2.Value]),(.slice A12 n12 c12)⟩,⟨rfl,rfl,rfl,rfl,trivial⟩,⟨hk4,hq2,H.keep 4 2⟩,Nat.sub_lt_sub_left hk4 (Nat.lt_succ_self _)⟩
 obtain rfl:=q6Z hq2 (q2t h2)
 refine CE (R ((V) ((AZ) (CR ?_))))
 obtain rfl:=sm hr
 exact⟨_,res1 rfl rfl rfl,H.ext0,_,_,_,rfl,H.outM (fr':=[]) [false,true] tw⟩
def q7x (a0:Expr)(o1:(List Occurrence)):Option (Bool × (List Occurrence)):=if a0.Kind=3 then grd (((o1.length:Int)+1)*24≤140737488355328∧(o1.length:Int)+1≤9223372036854775807) <| some (true,(o1++[(⟨a0.Pos,a0.Name⟩:Occurrence)])) else some (true,o1)
theorem z5u {a0}{o1}{r}(hr:q7x a0 o1=some r){bo1:Nat}{Aa0_6:Option Addr}{na0_6 ca0_6:Nat}{Ao1_0:Option Addr}{no1_0 co1_0:Nat}(hIa0_0:I64 a0.Kind)(hIa0_1:I64 a0.N)(hIa0_2:I64 a0.Pos)(hIa0_3:I64 a0.Type_)(hIa0_4:a0.Symbol.size≤9223372036854775807)(hIa0_5:a0.Name.size≤9223372036854775807)(H:HL F0 M w0 w0 [.S a0.Args (.slice Aa0_6 na0_6 ca0_6)] [.O 133 o1 (.slice Ao1_0 no1_0 co1_0),.B bo1 95 [.slice Ao1_0 no1_0 co1_0]]):RM 165 #[.agg #[.int .i64 a0.Kind,.int .i64 a0.N,.int .i64 a0.Pos,.int .i64 a0.Type_,.string a0.Symbol,.string a0.Name,.slice Aa0_6 na0_6 ca0_6],pB bo1] M w0 fun v w=>∃ A0 n0 c0,v = .bool r.1∧HL F0 M w0 w [] [.O 133 r.2 (.slice A0 n0 c0),.B bo1 95 [(.slice A0 n0 c0)]]:=by
 refine (En Tryz.func165) ?_
 refine R ((BX H) fun b1 w1 H=>(A) (Z (Y (R ((D 0) ((L H 2) ((BZ) (iD hr (fun _ hr=>?_) fun _ hr=>?_))))))))
 ·refine X ((L H 1) ((D 2) ((L H 2) ((D 5) ((L H 2) ?_)))))
  refine q0b rfl rfl (Ev.build rfl z7M q5v rfl rfl rfl rfl) ?_
  refine q0p rfl rfl rfl el95 q3n q5v rfl rfl rfl rfl rfl rfl fun b2 w2 hE hb hB=>?_
  have H:=H.newB hE hb hB
  refine gg hr fun hg1 hr=>?_
  exact q0t (i:=0) (ys:=[(⟨a0.Pos,a0.Name⟩:Occurrence)]) rfl rfl rfl el95 q3n z3v q5v rfl rfl rfl H rfl (fun _=>ownL.single ⟨rfl,hIa0_2,hIa0_5,rfl⟩) (.inr ⟨_,_,rfl,At.blk (rb H 3)⟩) hg1 fun A1 n1 c1 w3 H=>(SB H 1) fun w4 H=>Z (R ((AZ) (W1 hr)))
 exact K (R ((AZ) (W1 hr)))
def q4P (rec_ieveryNode_iAttributeUses_1:Expr→(List Occurrence)→Option (Bool × (List Occurrence)))(a0:Expr)(o1:(List Occurrence)):Option (Bool × (List Occurrence)):=(rec_ieveryNode_iAttributeUses_1 a0 o1).bind fun (y1,z1)=>some (!y1,z1)
theorem q9g {rec_ieveryNode_iAttributeUses_1:Expr→(List Occurrence)→Option (Bool × (List Occurrence))}(ih_ieveryNode_iAttributeUses_1:∀ {a0:Expr} {o1:(List Occurrence)} {r:(Bool × (List Occurrence))},rec_ieveryNode_iAttributeUses_1 a0 o1=some r→∀ {F0:Nat→Prop} {M:List Nat} {w0:World} {bo1:Nat} {Aa0_6:Option Addr} {na0_6 ca0_6:Nat} {Ao1_0:Option Addr} {no1_0 co1_0:Nat} (hIa0_0:I64 a0.Kind) (hIa0_1:I64 a0.N) (hIa0_2:I64 a0.Pos) (hIa0_3:I64 a0.Type_) (hIa0_4:a0.Symbol.size≤9223372036854775807) (hIa0_5:a0.Name.size≤9223372036854775807) (H:HL F0 M w0 w0 [.S a0.Args (.slice Aa0_6 na0_6 ca0_6)] [.O 133 o1 (.slice Ao1_0 no1_0 co1_0),.B bo1 95 [.slice Ao1_0 no1_0 co1_0]]),RM 124 #[.agg #[.int .i64 a0.Kind,.int .i64 a0.N,.int .i64 a0.Pos,.int .i64 a0.Type_,.string a0.Symbol,.string a0.Name,.slice Aa0_6 na0_6 ca0_6],.func (.func 165) #[] #[pB bo1]] M w0 fun v w=>∃ A0 n0 c0,v = .bool r.1∧HL F0 M w0 w [] [.O 133 r.2 (.slice A0 n0 c0),.B bo1 95 [(.slice A0 n0 c0)]]){a0}{o1}{r}(hr:q4P rec_ieveryNode_iAttributeUses_1 a0 o1=some r){bo1 bo2:Nat}{Aa0_6:Option Addr}{na0_6 ca0_6:Nat}{Ao1_0:Option Addr}{no1_0 co1_0:Nat}(hIa0_0:I64 a0.Kind)(hIa0_1:I64 a0.N)(hIa0_2:I64 a0.Pos)(hIa0_3:I64 a0.Type_)(hIa0_4:a0.Symbol.size≤9223372036854775807)(hIa0_5:a0.Name.size≤9223372036854775807)(H:HL F0 M w0 w0 [.S a0.Args (.slice Aa0_6 na0_6 ca0_6)] [.O 133 o1 (.slice Ao1_0 no1_0 co1_0),.B bo1 95 [.slice Ao1_0 no1_0 co1_0],.B bo2 131 [.func (.func 165) #[] #[pB bo1]]]):RM 163 #[.agg #[.int .i64 a0.Kind,.int .i64 a0.N,.int .i64 a0.Pos,.int .i64 a0.Type_,.string a0.Symbol,.string a0.Name,.slice Aa0_6 na0_6 ca0_6],pB bo2] M w0 fun v w=>∃ A0 n0 c0,v = .bool r.1∧HL F0 M w0 w [] [.O 133 r.2 (.slice A0 n0 c0),.B bo1 95 [(.slice A0 n0 c0)],.B bo2 131 [.func (.func 165) #[] #[pB bo1]]]:=by
 refine (En Tryz.func163) ?_
 refine R ((BX H) fun b1 w1 H=>(A) (Z (R ((LB H 3) ((L H 2) ?_)))))
 obtain⟨⟨y1,z1⟩,hy1,hr⟩:=bd hr
 obtain⟨F',M',hfF,hoF,hcM⟩:=H.callN [true,true,false,false] ⟨noO,noB,trivial⟩
 obtain⟨H',hcN⟩:=hcM (ps:=[.S a0.Args (.slice Aa0_6 na0_6 ca0_6)]) ⟨hfF.get (i:=0) rfl,trivial⟩
 refine (CA j1Z (ih_ieveryNode_iAttributeUses_1 hy1 hIa0_0 hIa0_1 hIa0_2 hIa0_3 hIa0_4 hIa0_5 H')) ?_
 rintro _ w2 hE ⟨A1,n1,c1,rfl,H'⟩
 have H:=hcN 2 H' rfl ⟨fun _ _ _ _ _ h=>h,tv⟩
 exact (N) ((AZ) (W1 hr))
def q2H (rec_ieveryNode_iAttributeUses_1:Expr→(List Occurrence)→Option (Bool × (List Occurrence))):Nat→Expr→(List Occurrence)→Option (((List Occurrence)) ⊕ (Int × (List Occurrence))):=fun k1 x1 s1=>(q4P rec_ieveryNode_iAttributeUses_1 x1 s1).bind fun (y1,z2)=>if y1=true then some (.inr ((k1:Int),z2)) else some (.inl z2)
def q2K (rec_ieveryNode_iAttributeUses_1:Expr→(List Occurrence)→Option (Bool × (List Occurrence)))(a0:(List Expr))(o1:(List Occurrence)):Option (Int × (List Occurrence)):=(q2u (q2H rec_ieveryNode_iAttributeUses_1) 0 a0 o1).bind <| onr (fun r1=>some r1) fun s1=>some ((-1),s1)
theorem q5y {rec_ieveryNode_iAttributeUses_1:Expr→(List Occurrence)→Option (Bool × (List Occurrence))}(ih_ieveryNode_iAttributeUses_1:∀ {a0:Expr} {o1:(List Occurrence)} {r:(Bool × (List Occurrence))},rec_ieveryNode_iAttributeUses_1 a0 o1=some r→∀ {F0:Nat→Prop} {M:List Nat} {w0:World} {bo1:Nat} {Aa0_6:Option Addr} {na0_6 ca0_6:Nat} {Ao1_0:Option Addr} {no1_0 co1_0:Nat} (hIa0_0:I64 a0.Kind) (hIa0_1:I64 a0.N) (hIa0_2:I64 a0.Pos) (hIa0_3:I64 a0.Type_) (hIa0_4:a0.Symbol.size≤9223372036854775807) (hIa0_5:a0.Name.size≤9223372036854775807) (H:HL F0 M w0 w0 [.S a0.Args (.slice Aa0_6 na0_6 ca0_6)] [.O 133 o1 (.slice Ao1_0 no1_0 co1_0),.B bo1 95 [.slice Ao1_0 no1_0 co1_0]]),RM 124 #[.agg #[.int .i64 a0.Kind,.int .i64 a0.N,.int .i64 a0.Pos,.int .i64 a0.Type_,.string a0.Symbol,.string a0.Name,.slice Aa0_6 na0_6 ca0_6],.func (.func 165) #[] #[pB bo1]] M w0 fun v w=>∃ A0 n0 c0,v = .bool r.1∧HL F0 M w0 w [] [.O 133 r.2 (.slice A0 n0 c0),.B bo1 95 [(.slice A0 n0 c0)]]){a0}{o1}{r}(hr:q2K rec_ieveryNode_iAttributeUses_1 a0 o1=some r){bo1 bo2:Nat}{Aa0:Option Addr}{na0 ca0:Nat}{Ao1_0:Option Addr}{no1_0 co1_0:Nat}(H:HL F0 M w0 w0 [.S a0 (.slice Aa0 na0 ca0)] [.O 133 o1 (.slice Ao1_0 no1_0 co1_0),.B bo1 95 [.slice Ao1_0 no1_0 co1_0],.B bo2 131 [.func (.func 165) #[] #[pB bo1]]]):RM 123 #[.slice Aa0 na0 ca0,.func (.func 163) #[] #[pB bo2]] M w0 fun v w=>∃ A0 n0 c0,v = .int .i64 r.1∧I64 r.1∧HL F0 M w0 w [] [.O 133 r.2 (.slice A0 n0 c0),.B bo1 95 [(.slice A0 n0 c0)],.B bo2 131 [.func (.func 165) #[] #[pB bo1]]]:=by
 refine (En Tryz.func123) ?_
 refine R ((A) (Z (Y (R ((V) ((NI H 0) fun hl1=>(V) (Z ?_)))))))
 refine bb hr fun q1 hq1 hr=>?_
 refine (lF hq1 (fun k1 s1 v1=>[(0,.slice Aa0 na0 ca0),(1,.func (.func 163) #[] #[pB bo2]),(7,zN a0.length),(8,zN k1)]) (fun s1 v1 w=>HL F0 M w0 w [.S a0 (.slice Aa0 na0 ca0)] [.O 133 s1 v1,.B bo1 95 [v1],.B bo2 131 [.func (.func 165) #[] #[pB bo1]]]) (.slice Ao1_0 no1_0 co1_0)) ?_
 rintro k1 s1 v1 σ w1 hk1 hq1 H
 obtain⟨A1,n1,c1,rfl⟩:=(fo H 0)
 refine R ((BZ) (Y ?_))
 refine q0e rfl (fun h1=>?_) (fun h1=>?_)
 ·have hk2:=q2G h1
  obtain⟨x1,z1,hx1,hb1,hs1,ht1⟩:=q3o hq1 hk2
  refine K (Y ?_)
  refine Bk (R ((V) ((A) (Z (R ((V) ((V) ((V) ?_))))))))
  obtain⟨b1,ob1,cb1,A2,n2,c2,hvb1,hI1,hI2,hI3,hI4,hS1,hS2,H⟩:=q4f H 0 hx1
  refine (J 7 hvb1 hx1) ((LA H 1) ?_)
  obtain⟨⟨y1,z2⟩,hy1,hb1⟩:=bd hb1
  obtain⟨F',M',hfF,hoF,hcM⟩:=H.callN [true,true,true] ⟨noO,noB,noB,trivial⟩
  obtain⟨H',hcN⟩:=hcM (ps:=[.S x1.Args (.slice A2 n2 c2)]) ⟨hfF.get (i:=3) rfl,trivial⟩
  refine (CA j8i (q9g ih_ieveryNode_iAttributeUses_1 hy1 hI1 hI2 hI3 hI4 hS1 hS2 H')) ?_
  rintro _ w2 hE ⟨A3,n3,c3,rfl,H'⟩
  have H:=hcN 3 H' rfl ⟨fun _ _ _ _ _ h=>h,⟨fun _ _ _ _ _ h=>h,tv⟩⟩
  refine Z (iB hb1 (fun _ hb1=>?_) fun _ hb1=>?_)
  ·exact R ((V) ((AZ) (W2 hb1 ht1 hr)))
  exact K (X ((AN hk2 hl1) ((V) (Z (I2 hb1 hs1 ⟨k1+1,z2,(.slice A3 n3 c3)⟩)))))
 obtain rfl:=q2M hq1 (q2t h1)
 have hr:=(q2S _ _ _).symm.trans hr
 exact CE (R ((AZ) (W1 hr)))
def q2E (rec_ieveryNode_iAttributeUses_1:Expr→(List Occurrence)→Option (Bool × (List Occurrence)))(a0:(List Expr))(o1:(List Occurrence)):Option (Bool × (List Occurrence)):=(q2K rec_ieveryNode_iAttributeUses_1 a0 o1).bind fun (y1,z1)=>some (decide (0≤y1),z1)
theorem q5b {rec_ieveryNode_iAttributeUses_1:Expr→(List Occurrence)→Option (Bool × (List Occurrence))}(ih_ieveryNode_iAttributeUses_1:∀ {a0:Expr} {o1:(List Occurrence)} {r:(Bool × (List Occurrence))},rec_ieveryNode_iAttributeUses_1 a0 o1=some r→∀ {F0:Nat→Prop} {M:List Nat} {w0:World} {bo1:Nat} {Aa0_6:Option Addr} {na0_6 ca0_6:Nat} {Ao1_0:Option Addr} {no1_0 co1_0:Nat} (hIa0_0:I64 a0.Kind) (hIa0_1:I64 a0.N) (hIa0_2:I64 a0.Pos) (hIa0_3:I64 a0.Type_) (hIa0_4:a0.Symbol.size≤9223372036854775807) (hIa0_5:a0.Name.size≤9223372036854775807) (H:HL F0 M w0 w0 [.S a0.Args (.slice Aa0_6 na0_6 ca0_6)] [.O 133 o1 (.slice Ao1_0 no1_0 co1_0),.B bo1 95 [.slice Ao1_0 no1_0 co1_0]]),RM 124 #[.agg #[.int .i64 a0.Kind,.int .i64 a0.N,.int .i64 a0.Pos,.int .i64 a0.Type_,.string a0.Symbol,.string a0.Name,.slice Aa0_6 na0_6 ca0_6],.func (.func 165) #[] #[pB bo1]] M w0 fun v w=>∃ A0 n0 c0,v = .bool r.1∧HL F0 M w0 w [] [.O 133 r.2 (.slice A0 n0 c0),.B bo1 95 [(.slice A0 n0 c0)]]){a0}{o1}{r}(hr:q2E rec_ieveryNode_iAttributeUses_1 a0 o1=some r){bo1 bo2:Nat}{Aa0:Option Addr}{na0 ca0:Nat}{Ao1_0:Option Addr}{no1_0 co1_0:Nat}(H:HL F0 M w0 w0 [.S a0 (.slice Aa0 na0 ca0)] [.O 133 o1 (.slice Ao1_0 no1_0 co1_0),.B bo1 95 [.slice Ao1_0 no1_0 co1_0],.B bo2 131 [.func (.func 165) #[] #[pB bo1]]]):RM 84 #[.slice Aa0 na0 ca0,.func (.func 163) #[] #[pB bo2]] M w0 fun v w=>∃ A0 n0 c0,v = .bool r.1∧HL F0 M w0 w [] [.O 133 r.2 (.slice A0 n0 c0),.B bo1 95 [(.slice A0 n0 c0)],.B bo2 131 [.func (.func 165) #[] #[pB bo1]]]:=by
 refine (En Tryz.func84) ?_
 refine R ((A) (Z (R ((V) ((V) ?_)))))
 obtain⟨⟨y1,z1⟩,hy1,hr⟩:=bd hr
 obtain⟨F',M',hfF,hoF,hcM⟩:=H.callN [true,true,true] ⟨noO,noB,noB,trivial⟩
 obtain⟨H',hcN⟩:=hcM (ps:=[.S a0 (.slice Aa0 na0 ca0)]) ⟨hfF.get (i:=0) rfl,trivial⟩
 refine (CA j4Y (q5y ih_ieveryNode_iAttributeUses_1 hy1 H')) ?_
 rintro _ w1 hE ⟨A1,n1,c1,rfl,hI1,H'⟩
 have H:=hcN 3 H' rfl ⟨fun _ _ _ _ _ h=>h,⟨fun _ _ _ _ _ h=>h,tv⟩⟩
 exact (B) ((AZ) (W1 hr))
def q4l (rec_ieveryNode_iAttributeUses_1:Expr→(List Occurrence)→Option (Bool × (List Occurrence)))(a0:Expr)(o1:(List Occurrence)):Option (Bool × (List Occurrence)):=(q7x a0 o1).bind fun (y1,z1)=>if y1=true then (q2E rec_ieveryNode_iAttributeUses_1 a0.Args z1).bind fun (y2,z2)=>some (!y2,z2) else some (false,z1)
theorem q9r {rec_ieveryNode_iAttributeUses_1:Expr→(List Occurrence)→Option (Bool × (List Occurrence))}(ih_ieveryNode_iAttributeUses_1:∀ {a0:Expr} {o1:(List Occurrence)} {r:(Bool × (List Occurrence))},rec_ieveryNode_iAttributeUses_1 a0 o1=some r→∀ {F0:Nat→Prop} {M:List Nat} {w0:World} {bo1:Nat} {Aa0_6:Option Addr} {na0_6 ca0_6:Nat} {Ao1_0:Option Addr} {no1_0 co1_0:Nat} (hIa0_0:I64 a0.Kind) (hIa0_1:I64 a0.N) (hIa0_2:I64 a0.Pos) (hIa0_3:I64 a0.Type_) (hIa0_4:a0.Symbol.size≤9223372036854775807) (hIa0_5:a0.Name.size≤9223372036854775807) (H:HL F0 M w0 w0 [.S a0.Args (.slice Aa0_6 na0_6 ca0_6)] [.O 133 o1 (.slice Ao1_0 no1_0 co1_0),.B bo1 95 [.slice Ao1_0 no1_0 co1_0]]),RM 124 #[.agg #[.int .i64 a0.Kind,.int .i64 a0.N,.int .i64 a0.Pos,.int .i64 a0.Type_,.string a0.Symbol,.string a0.Name,.slice Aa0_6 na0_6 ca0_6],.func (.func 165) #[] #[pB bo1]] M w0 fun v w=>∃ A0 n0 c0,v = .bool r.1∧HL F0 M w0 w [] [.O 133 r.2 (.slice A0 n0 c0),.B bo1 95 [(.slice A0 n0 c0)]]){a0}{o1}{r}(hr:q4l rec_ieveryNode_iAttributeUses_1 a0 o1=some r){bo1:Nat}{Aa0_6:Option Addr}{na0_6 ca0_6:Nat}{Ao1_0:Option Addr}{no1_0 co1_0:Nat}(hIa0_0:I64 a0.Kind)(hIa0_1:I64 a0.N)(hIa0_2:I64 a0.Pos)(hIa0_3:I64 a0.Type_)(hIa0_4:a0.Symbol.size≤9223372036854775807)(hIa0_5:a0.Name.size≤9223372036854775807)(H:HL F0 M w0 w0 [.S a0.Args (.slice Aa0_6 na0_6 ca0_6)] [.O 133 o1 (.slice Ao1_0 no1_0 co1_0),.B bo1 95 [.slice Ao1_0 no1_0 co1_0]]):RM 124 #[.agg #[.int .i64 a0.Kind,.int .i64 a0.N,.int .i64 a0.Pos,.int .i64 a0.Type_,.string a0.Symbol,.string a0.Name,.slice Aa0_6 na0_6 ca0_6],.func (.func 165) #[] #[pB bo1]] M w0 fun v w=>∃ A0 n0 c0,v = .bool r.1∧HL F0 M w0 w [] [.O 133 r.2 (.slice A0 n0 c0),.B bo1 95 [(.slice A0 n0 c0)]]:=by
 let d1:Pr:=.S a0.Args (.slice Aa0_6 na0_6 ca0_6)
 refine (En Tryz.func124) ?_
 refine R ((BX H) fun b1 w1 H=>(BX H) fun b2 w2 H=>(A) (Z (R ((L H 3) ((LB H 2) ?_)))))
 obtain⟨⟨y1,z1⟩,hy1,hr⟩:=bd hr
 obtain⟨F',M',hfF,hoF,hcM⟩:=H.callN [true,true,false,false] ⟨noO,noB,trivial⟩
 obtain⟨H',hcN⟩:=hcM (ps:=[d1]) ⟨hfF.get (i:=0) rfl,trivial⟩
 refine (CA k3d (z5u hy1 hIa0_0 hIa0_1 hIa0_2 hIa0_3 hIa0_4 hIa0_5 H')) ?_
 rintro _ w3 hE ⟨A1,n1,c1,rfl,H'⟩
 have H:=hcN 2 H' rfl ⟨fun _ _ _ _ _ h=>h,tv⟩
 refine jB hr (fun _ hr=>?_) fun _ hr=>?_
 ·refine (G) ((D 6) ((G) ((L H 2) ((G) ?_))))
  refine q0b rfl rfl (q0q rfl rfl rfl) ((G) ?_)
  obtain⟨⟨y2,z2⟩,hy2,hr⟩:=bd hr
  obtain⟨F',M',hfF,hoF,hcM⟩:=H.callN [true,true,false,true] ⟨noO,noB,noB,trivial⟩
  obtain⟨H',hcN⟩:=hcM (ps:=[d1]) ⟨hfF.get (i:=0) rfl,trivial⟩
  refine (CA ok84 (q5b ih_ieveryNode_iAttributeUses_1 hy2 H')) ?_
  rintro _ w4 hE ⟨A2,n2,c2,rfl,H'⟩
  have H:=hcN 3 H' rfl ⟨fun _ _ _ _ _ h=>h,⟨fun _ _ _ _ _ h=>h,tv⟩⟩
  exact (G) ((N) ((T) ((AZ) (W1 hr))))
 exact (O) ((O) ((O) ((O) ((O) ((U) ((AZ) (W1 hr)))))))
def q2X:Nat→Expr→(List Occurrence)→Option (Bool × (List Occurrence))
  | 0,_,_=>none
  | n+1,a0,o1=>q4l (q2X n) a0 o1
def q5r (a0:Expr)(o1:(List Occurrence)):Option (Bool × (List Occurrence)):=recO fun n=>q2X n a0 o1
theorem q9s (n:Nat):∀ {a0:Expr} {o1:(List Occurrence)} {r:(Bool × (List Occurrence))},q2X n a0 o1=some r→∀ {F0:Nat→Prop} {M:List Nat} {w0:World} {bo1:Nat} {Aa0_6:Option Addr} {na0_6 ca0_6:Nat} {Ao1_0:Option Addr} {no1_0 co1_0:Nat} (hIa0_0:I64 a0.Kind) (hIa0_1:I64 a0.N) (hIa0_2:I64 a0.Pos) (hIa0_3:I64 a0.Type_) (hIa0_4:a0.Symbol.size≤9223372036854775807) (hIa0_5:a0.Name.size≤9223372036854775807) (H:HL F0 M w0 w0 [.S a0.Args (.slice Aa0_6 na0_6 ca0_6)] [.O 133 o1 (.slice Ao1_0 no1_0 co1_0),.B bo1 95 [.slice Ao1_0 no1_0 co1_0]]),RM 124 #[.agg #[.int .i64 a0.Kind,.int .i64 a0.N,.int .i64 a0.Pos,.int .i64 a0.Type_,.string a0.Symbol,.string a0.Name,.slice Aa0_6 na0_6 ca0_6],.func (.func 165) #[] #[pB bo1]] M w0 fun v w=>∃ A0 n0 c0,v = .bool r.1∧HL F0 M w0 w [] [.O 133 r.2 (.slice A0 n0 c0),.B bo1 95 [(.slice A0 n0 c0)]]:=by
 induction n with
 | zero=>intro a0 o1 r hr; exact nomatch (show (none:Option (Bool × (List Occurrence)))=some r from hr)
 | succ n ih=>intro a0 o1 r hr; exact q9r ih hr
theorem z0d {a0}{o1}{r}(hr:q5r a0 o1=some r){bo1:Nat}{Aa0_6:Option Addr}{na0_6 ca0_6:Nat}{Ao1_0:Option Addr}{no1_0 co1_0:Nat}(hIa0_0:I64 a0.Kind)(hIa0_1:I64 a0.N)(hIa0_2:I64 a0.Pos)(hIa0_3:I64 a0.Type_)(hIa0_4:a0.Symbol.size≤9223372036854775807)(hIa0_5:a0.Name.size≤9223372036854775807)(H:HL F0 M w0 w0 [.S a0.Args (.slice Aa0_6 na0_6 ca0_6)] [.O 133 o1 (.slice Ao1_0 no1_0 co1_0),.B bo1 95 [.slice Ao1_0 no1_0 co1_0]]):RM 124 #[.agg #[.int .i64 a0.Kind,.int .i64 a0.N,.int .i64 a0.Pos,.int .i64 a0.Type_,.string a0.Symbol,.string a0.Name,.slice Aa0_6 na0_6 ca0_6],.func (.func 165) #[] #[pB bo1]] M w0 fun v w=>∃ A0 n0 c0,v = .bool r.1∧HL F0 M w0 w [] [.O 133 r.2 (.slice A0 n0 c0),.B bo1 95 [(.slice A0 n0 c0)]]:=by
 obtain⟨n,hn⟩:=q4v hr
 exact q9s n hn hIa0_0 hIa0_1 hIa0_2 hIa0_3 hIa0_4 hIa0_5 H
def q5C (a0:(List Occurrence)):Option (List Occurrence):=grd (a0.length < 4611686018427387904) <| some (z9O a0)
theorem z0m {a0 r}(hr:q5C a0=some r){A0:Option Addr}{n0 c0:Nat}(H:HL F0 M w0 w0 [] [.O 133 a0 (.slice A0 n0 c0)]):RM 166 #[.slice A0 n0 c0,.func (.func 167) #[] #[]] M w0 fun v w=>v = .tuple #[]∧HL F0 M w0 w [] [.O 133 r (.slice A0 n0 c0)]:=by
 refine gg hr fun hg hr=>?_
 obtain rfl:=sm hr
 exact j8a hg H
def q2A (s1:Int):((List Occurrence) × Int × Int)→Option (((List Occurrence) × Int × Int) ⊕ ((List Occurrence) × Int)):=fun (s4,s5,s6)=>if s6 < ((s4.drop s1.toNat).length:Int) then ( grd (0≤s6) <| (s4[(s1.toNat+s6.toNat)]?).bind fun x3=>grd (I64 (s6 - 1)) <| grd (0≤(s6 - 1)) <| (s4[(s1.toNat+((s6 - 1).toNat))]?).bind fun x4=>if x3=x4 then some (s5,s4) else grd (0≤s6) <| grd (0≤s5) <| (s4[s5.toNat]?).bind fun x5=>grd (I64 (s5+1)) <| some ((s5+1),(List.set s4 s5.toNat x3)) ).bind fun (s7,s8)=>grd (I64 (s6+1)) <| some (.inl (s8,s7,(s6+1))) else some (.inr (s4,s5))
def q2B (a0:(List Occurrence)):Int→Option (Int ⊕ (Unit ⊕ (List Occurrence))):=fun s1=>if s1 < (a0.length:Int) then grd (0≤s1) <| (a0[s1.toNat]?).bind fun x1=>grd (I64 (s1 - 1)) <| grd (0≤(s1 - 1)) <| (a0[(s1 - 1).toNat]?).bind fun x2=>if x1=x2 then grd (0≤s1) <| grd (s1.toNat≤a0.length) <| ( q7k (q2A s1) (a0,s1,1) ).bind fun (s2,s3)=>grd (0≤s3) <| grd (s3.toNat≤s2.length) <| grd (0≤s3) <| grd (s3.toNat≤(s2.take s3.toNat++List.replicate (s2.length - s3.toNat) (⟨(0:Int),(⟨#[]⟩:ByteArray)⟩:Occurrence)).length) <| some (.inr (.inr ((s2.take s3.toNat++List.replicate (s2.length - s3.toNat) (⟨(0:Int),(⟨#[]⟩:ByteArray)⟩:Occurrence)).take s3.toNat))) else grd (I64 (s1+1)) <| some (.inl (s1+1)) else some (.inr (.inl ()))
def q4A (a0:(List Occurrence)):Option (List Occurrence):=if (a0.length:Int) < 2 then some a0 else ( q7k (q2B a0) 1 ).bind <| onr (fun r1=>some r1) fun ()=>some a0
theorem z0E {a0 r}(hr:q4A a0=some r){Aa0:Option Addr}{na0 ca0:Nat}(H:HL F0 M w0 w0 [] [.O 133 a0 (.slice Aa0 na0 ca0)]):RM 168 #[.slice Aa0 na0 ca0] M w0 fun v w=>∃ A0 n0 c0,v=(.slice A0 n0 c0)∧HL F0 M w0 w [] [.O 133 r (.slice A0 n0 c0)]:=by
 refine (En Tryz.func168) ?_
 refine R ((A) (Z (Y (R ((V) ?_)))))
 have hl1:=(H.rO (i:=0) rfl).I
 refine (NN (ro H 0)) ((BZ) (iD hr (fun _ hr=>?_) fun _ hr=>?_))
 ·exact R ((V) ((AZ) (W1 hr)))
 refine K (Y (R ((AZ) ?_)))
 refine bb hr fun q1 hm1 hr=>?_
 refine q0u (fun ρ' w=>q1 = .inl ()∧q4R ρ' [(0,.slice Aa0 na0 ca0)]∧HL F0 M w0 w [] [.O 133 a0 (.slice Aa0 na0 ca0)]) ?_ ?_
 ·obtain⟨m1,hq1⟩:=q5g.1 hm1
  refine (lI hq1 (fun m1 s1 _=>[(0,.slice Aa0 na0 ca0),(3,.int .i64 s1)]) (fun s1 _ w=>I64 s1∧HL F0 M w0 w [] [.O 133 a0 (.slice Aa0 na0 ca0)]) ()) ?_
  rintro m1 s1 _ σ w1 hq1 ⟨hI1,H⟩
  obtain⟨m2,z1,rfl,hb1,hs1,ht1⟩:=q8B hq1
  refine Y (R ((V) ((V) ((NN (ro H 0)) ((BZ) (iD hb1 (fun _ hb1=>?_) fun _ hb1=>?_))))))
  ·refine K (Y ?_)
   refine Bk (Y ?_)
   refine q0d hmix (by kernel_rfl) ?_
   refine (qV) ((qV) ?_)
   refine gg hb1 fun hg1 hb1=>?_
   refine bb hb1 fun x1 hx1 hb1=>?_
   let d2:Pr:=.R x1 [.int .i64 x1.Pos,.string x1.Name]
   obtain⟨b1,cb1,hvb1,hbb1⟩:=po H 0 hx1
   refine q0i rfl rfl (fun _ _=>q0l rfl el95 q3n rfl hvb1 rfl hg1 (q4G hx1)) ?_
   obtain⟨hA1,hI2,hS1,H⟩:=q6o H 0 hx1 hbb1
   refine q0i rfl rfl (fun _ hq=>q0c rfl z0l q3n rfl (hA1.ext hq) rfl) ?_
   refine (qV) ((qV) ?_)
   refine gg hb1 fun hg2 hb1=>?_
   refine (qBN (Bin.sub hg2)) ?_
   refine gg hb1 fun hg3 hb1=>?_
   refine bb hb1 fun x2 hx2 hb1=>?_
   let d1:List Pr:=[d2,.R x2 [.int .i64 x2.Pos,.string x2.Name]]
   obtain⟨b2,cb2,hvb2,hbb2⟩:=po H 0 hx2
   refine q0i rfl rfl (fun _ _=>q0l rfl el95 q3n rfl hvb2 rfl hg3 (q4G hx2)) ?_
   obtain⟨hA2,hI3,hS2,H⟩:=q6o H 0 hx2 hbb2
   refine q0i rfl rfl (fun _ hq=>q0c rfl z0l q3n rfl (hA2.ext hq) rfl) ?_
   refine (qBN (q0D j0R (q4T x1 x2))) ?_
   refine QL.nil (fun w2 hE=>?_)
   have H:=H.ext hE
   refine iD hb1 (fun _ hb1=>?_) fun _ hb1=>?_
   ·refine R ((V) ((V) ?_))
    refine gg hb1 fun hg4 hb1=>?_
    refine gg hb1 fun hg5 hb1=>?_
    obtain⟨A1,n1,c1,e2,hc1⟩:=H.subO (i:=0) rfl hg5
    refine q0b rfl rfl (q1g rfl el95 q3n rfl rfl ((Int.toNat_of_nonneg hg4).symm) hc1 e2) ((A) (Z (Y (R ((AZ) ?_)))))
    refine bb hb1 fun q2 hm2 hb1=>?_
    refine q0u (fun ρ' w=>∃ (s2:List Occurrence) (s3:Int),q2=(s2,s3)∧q4R ρ' [(0,.slice Aa0 na0 ca0),(3,.int .i64 s3)]∧I64 s3∧HL F0 M w0 w d1 [.O 133 s2 (.slice Aa0 na0 ca0)]) ?_ ?_
    ·obtain⟨m3,hq2⟩:=q5g.1 hm2
     refine (lI hq2 (fun m3 ⟨s4,s5,s6⟩ _=>[(0,.slice Aa0 na0 ca0),(3,.int .i64 s5),(4,.slice A1 n1 c1),(5,.int .i64 s6)]) (fun ⟨s4,s5,s6⟩ _ w=>I64 s5∧I64 s6∧HL F0 M w0 w d1 [.O 133 s4 (.slice Aa0 na0 ca0)]) ()) ?_
     rintro m3 ⟨s4,s5,s6⟩ _ σ w3 hq2 ⟨hI5,hI6,H⟩
     obtain⟨m4,z2,rfl,hb2,hs2,ht2⟩:=q8B hq2
     refine Y (R ((V) ((V) ?_)))
     have hl2:=((H.rO (i:=0) rfl).dropV hc1 e2).I
     refine q0b rfl rfl (q0H rfl el95 rfl ((H.rO (i:=0) rfl).dropV hc1 e2)) ((BZ) (iD hb2 (fun _ hb2=>?_) fun _ hb2=>?_))
     ·refine K ?_
      refine bb hb2 fun q3 hm3 hb2=>Y ?_
      refine q0u (fun ρ' w=>∃ (s7:Int) (s8:List Occurrence),q3=(s7,s8)∧q4R ρ' [(0,.slice Aa0 na0 ca0),(3,.int .i64 s7),(4,.slice A1 n1 c1),(5,.int .i64 s6)]∧I64 s7∧HL F0 M w0 w d1 [.O 133 s8 (.slice Aa0 na0 ca0)]) ?_ ?_
      ·refine Bk (Y ?_)
       refine q0d hmix (by kernel_rfl) ?_
       refine (qV) ((qV) ?_)
       refine gg hm3 fun hg6 hm3=>?_
       refine bb hm3 fun x3 hx3 hm3=>?_
       obtain⟨b3,mb3,cb3,hvb3,hmb3,hbb3⟩:=H.ptSub (i:=0) rfl e2 hx3
       refine q0i rfl rfl (fun _ _=>q1j rfl el95 q3n rfl hvb3 rfl hg6 hmb3) ?_
       obtain⟨hA3,hI8,hS3,H⟩:=q6o H 0 hx3 hbb3
       refine q0i rfl rfl (fun _ hq=>q0c rfl z0l q3n rfl (hA3.ext hq) rfl) ?_
       refine (qV) ((qV) ?_)
       refine gg hm3 fun hg7 hm3=>?_
       refine (qBN (Bin.sub hg7)) ?_
       refine gg hm3 fun hg8 hm3=>?_
       refine bb hm3 fun x4 hx4 hm3=>?_
       obtain⟨b4,mb4,cb4,hvb4,hmb4,hbb4⟩:=H.ptSub (i:=0) rfl e2 hx4
       refine q0i rfl rfl (fun _ _=>q1j rfl el95 q3n rfl hvb4 rfl hg8 hmb4) ?_
       obtain⟨hA4,hI9,hS4,H⟩:=q6o H 0 hx4 hbb4
       refine q0i rfl rfl (fun _ hq=>q0c rfl z0l q3n rfl (hA4.ext hq) rfl) ?_
       refine (qBN (q1J j0R (q4T x3 x4))) ?_
       refine QL.nil (fun w4 hE=>?_)
       have H:=H.ext hE
       refine iN hm3 (fun _ hm3=>?_) fun _ hm3=>?_
       ·refine R ((V) ((V) ((V) ((V) ?_))))
        refine gg hm3 fun hg9 hm3=>?_
        obtain⟨b5,mb5,cb5,hvb5,hmb5,hbb5⟩:=H.ptSub (i:=0) rfl e2 hx3
        refine q0b rfl rfl (q1j rfl el95 q3n rfl hvb5 rfl hg9 hmb5) ?_
        obtain⟨hA5,hI10,hS5,H⟩:=q6o H 0 hx3 hbb5
        refine q0b rfl rfl (q0c rfl z0l q3n rfl hA5 rfl) ?_
        refine gg hm3 fun hg10 hm3=>?_
        refine bb hm3 fun x5 hx5 hm3=>?_
        obtain⟨b6,cb6,hvb6,hbb6⟩:=po H 0 hx5
        refine q0b rfl rfl (q0l rfl el95 q3n rfl hvb6 rfl hg10 (q4G hx5)) ?_
        refine q0G (i:=0) (z:=x3) rfl rfl rfl q3n rfl rfl rfl (fun _=>⟨rfl,hI10,hS5,rfl⟩) H rfl hbb6 (by simpa using q4G hx5) fun w5 H=>Z ?_
        refine q0a [(0,.slice Aa0 na0 ca0),(3,.int .i64 s5),(4,.slice A1 n1 c1),(5,.int .i64 s6)] ⟨rfl,rfl,rfl,rfl,trivial⟩ fun σ=>?_
        have H:HL F0 M w0 w5 [d2,.R x2 [.int .i64 x2.Pos,.string x2.Name],.R x3 [.int .i64 x3.Pos,.string x3.Name],.R x4 [.int .i64 x4.Pos,.string x4.Name],.R x3 [.int .i64 x3.Pos,.string x3.Name]] [.O 133 (List.set s4 s5.toNat x3) (.slice Aa0 na0 ca0)]:=H
        refine X ((V) ?_)
        exact gg hm3 fun hg11 hm3=>(BN (Bin.add hg11)) ((AZ) (C1 hm3))
       exact K (C1 hm3)
      rintro ρ' w6 ⟨s7,s8,rfl,hag,hI7,H⟩
      obtain⟨σ,rfl⟩:=q4H hag
      refine X ((V) ?_)
      exact gg hb2 fun hg12 hb2=>(BN (Bin.add hg12)) ((A) (Z (I2 hb2 hs2 ⟨m4,⟨s8,s7,(s6+1)⟩,()⟩)))
     exact CE (C2 hb2 ht2)
    rintro ρ' w7 ⟨s2,s3,rfl,hag,hI4,H⟩
    obtain⟨σ,rfl⟩:=q4H hag
    refine R ((V) ((V) ?_))
    refine gg hb1 fun hg13 hb1=>?_
    refine gg hb1 fun hg14 hb1=>?_
    obtain⟨A2,n2,c2,e4,hc2⟩:=H.subO (i:=0) rfl hg14
    refine q0b rfl rfl (q1g rfl el95 q3n rfl rfl ((Int.toNat_of_nonneg hg13).symm) hc2 e4) ?_
    refine q1Z (i:=0) (x0:=(⟨(0:Int),eB⟩:Occurrence)) rfl rfl rfl el95 q3n q5v (fun _=>⟨rfl,dI,dI,rfl⟩) rfl H rfl hc2 e4 fun w8 H=>Z (R ((V) ((V) ?_)))
    refine gg hb1 fun hg15 hb1=>?_
    refine gg hb1 fun hg16 hb1=>?_
    obtain⟨A3,n3,c3,e5,hc3,H⟩:=H.cutO (i:=0) rfl hg16
    exact q0b rfl rfl (q0L rfl el95 q3n rfl rfl ((Int.toNat_of_nonneg hg15).symm) hc3 e5) ((AZ) (W2 hb1 ht1 hr))
   refine K (X ((V) ?_))
   exact gg hb1 fun hg17 hb1=>(BN (Bin.add hg17)) ((A) (Z (I2 hb1 hs1 ⟨m2,(s1+1),()⟩)))
  exact CE (C2 hb1 ht1)
 rintro ρ' w9 ⟨rfl,hag,H⟩
 obtain⟨σ,rfl⟩:=q4H hag
 exact R ((V) ((AZ) (W1 hr)))
def q7d (a0:Expr):Option (List Occurrence):=(q5r a0 []).bind fun (y1,z1)=>(q5C z1).bind fun z2=>(q4A z2).bind fun y2=>some y2
theorem z2r {a0}{r}(hr:q7d a0=some r){ca0}(ha0:rd F0 w0 a0 ca0):RT 131 #[ag ca0] w0 fun v w=>∃ A0 n0 c0,v=(.slice A0 n0 c0)∧HL F0 [] w0 w [] [.O 133 r (.slice A0 n0 c0)]:=by
 have H:=(HL.start F0 w0).argR ha0
 obtain⟨A1,n1,c1,rfl,hI1,hI2,hI3,hI4,hS1,hS2,H⟩:=q3q H 0
 refine (En Tryz.func131) ?_
 refine R ((BX H) fun b1 w1 H=>(AZ) (R ?_))
 refine q0s (α:=Occurrence) rfl rfl rfl el95 q3n H fun A2 n2 c2 w2 H=>(AH ze95 H) fun b2 w3 H=>(SB H 2) fun w4 H=>Z (R ((LB H 0) ?_))
 refine q0b rfl rfl (q0q rfl rfl rfl) ?_
 obtain⟨⟨y1,z1⟩,hy1,hr⟩:=bd hr
 obtain⟨F',M',hfF,hoF,hcM⟩:=H.callN [false,true,true] ⟨noO,noB,trivial⟩
 obtain⟨H',hcN⟩:=hcM (ps:=[.S a0.Args (.slice A1 n1 c1)]) ⟨hfF.get (i:=1) rfl,trivial⟩
 refine (CA j1Z (z0d hy1 hI1 hI2 hI3 hI4 hS1 hS2 H')) ?_
 rintro _ w5 hE ⟨A3,n3,c3,rfl,H'⟩
 have H:=hcN 2 H' rfl ⟨fun _ _ _ _ _ h=>h,tv⟩
 refine Z (R ((L H 2) ?_))
 refine bb hr fun z2 hy2 hr=>?_
 obtain⟨F',M',hfF,hoF,hcM⟩:=H.callN [false,true,false] ⟨noO,trivial⟩
 obtain⟨H',hcN⟩:=hcM (ps:=[]) trivial
 refine (CA k3e (z0m hy2 H')) ?_
 rintro _ w6 hE ⟨rfl,H'⟩
 have H:=hcN 1 H' rfl tv
 refine Z (R ((L H 2) ?_))
 refine bb hr fun y2 hy3 hr=>?_
 obtain⟨F',M',hfF,hoF,hcM⟩:=H.callN [false,true,false] ⟨noO,trivial⟩
 obtain⟨H',hcN⟩:=hcM (ps:=[]) trivial
 refine (CA k3f (z0E hy3 H')) ?_
 rintro _ w7 hE ⟨A4,n4,c4,rfl,H'⟩
 have H:=hcN 1 H' rfl tv
 exact (AZ) (W1 hr)
def q9t (a1:ByteArray):Nat→Attribute→Unit→Option (Unit ⊕ (Attribute × Bool)):=fun k1 x1 _=>if x1.Name=a1 then some (.inr (x1,true)) else some (.inl ())
def q6c (a0:Symbol)(a1:ByteArray):Option (Attribute × Bool):=(q2u (q9t a1) 0 a0.Attributes ()).bind <| onr (fun r1=>some r1) fun _=>some ((⟨(⟨#[]⟩:ByteArray),0,0,false⟩:Attribute),false)
theorem q9u {a0}{a1}{r}(hr:q6c a0 a1=some r){ca0}(ha0:rd F0 w0 a0 ca0)(ha1:a1.size≤9223372036854775807):RT 161 #[ag ca0,.string a1] w0 fun v w=>v = .tuple #[.agg #[.string r.1.Name,.int .i64 r.1.Type_,.int .i64 r.1.Mode,.bool r.1.Circular],.bool r.2]∧r.1.Name.size≤9223372036854775807∧I64 r.1.Type_∧I64 r.1.Mode:=by
 have H:=(HL.start F0 w0).argR ha0
 obtain⟨A1,n1,c1,rfl,hS1,H⟩:=q6e H 0
 refine (En Tryz.func161) ?_
 refine R ((BX H) fun b1 w1 H=>(AH ze91 H) fun b2 w2 H=>(A) (Z (Y (R ((D 1) ((L H 0) ((NI H 1) fun hl1=>(V) (Z ?_))))))))
 refine bb hr fun q1 hq1 hr=>?_
 refine (lF hq1 (fun k1 _ _=>[(1,.string a1),(4,pB b2),(9,.slice A1 n1 c1),(10,zN a0.Attributes.length),(11,zN k1)]) (fun _ _ w=>HL F0 [] w0 w [.R a0 [.string a0.Name,.slice A1 n1 c1],.S a0.Attributes (.slice A1 n1 c1)] [.B b1 89 [.string a0.Name,.slice A1 n1 c1],.B b2 91 [.string eB,.int .i64 0,.int .i64 0,.bool false]]) ()) ?_
 rintro k1 _ _ σ w3 hk1 hq1 H
 refine R ((BZ) (Y ?_))
 refine q0e rfl (fun h1=>?_) (fun h1=>?_)
 ·have hk2:=q2G h1
  obtain⟨x1,z1,hx1,hb1,hs1,ht1⟩:=q3o hq1 hk2
  refine K (Y ?_)
  refine Bk (R ?_)
  obtain⟨b3,ob3,cb3,hvb3,hS2,hI1,hI2,H⟩:=q4w H 1 hx1
  refine (J 4 hvb3 hx1) ((LA H 2) ((AH ze91 H) fun b4 w4 H=>(SB H 2) fun w5 H=>Z (R ((D 0) ((L H 2) ((V) ((BZ) (iD hb1 (fun _ hb1=>?_) fun _ hb1=>?_))))))))
  ·refine R ((LB H 2) ((SB H 1) fun w6 H=>(AZ) (CR ?_)))
   obtain rfl:=sm hb1
   obtain rfl:=ht1 _ rfl
   obtain rfl:=sm hr
   exact⟨_,z5I rfl ag91 sz91 rfl rfl rfl rfl (ab H 1) rfl,H.ext0,rfl,hS2,hI1,hI2⟩
  exact K (X ((AN hk2 hl1) ((V) (Z (I2 hb1 hs1 ⟨k1+1,(),()⟩)))))
 obtain rfl:=q2M hq1 (q2t h1)
 have hr:=(q2S _ _ _).symm.trans hr
 refine CE (R ?_)
 refine q0b rfl rfl (Ev.build rfl pl91 ze91 rfl rfl rfl rfl) ((SB H 1) fun w7 H=>(AZ) (CR ?_))
 obtain rfl:=sm hr
 exact⟨_,z5I rfl ag91 sz91 rfl rfl rfl rfl (ab H 1) rfl,H.ext0,rfl,dI,dI,dI⟩
def q7j (a0:Grammar)(a1:Rule)(a2:Occurrence):Option (Attribute × Bool):=(q2Y a2.Pos 0 (a1.Right.length:Int)).bind fun y1=>if y1=true then (q6U a1 a2.Pos).bind fun y2=>(q6k a0 y2).bind fun (y3,y4)=>(q6c y3 a2.Name).bind fun (y5,y6)=>some (y5,y6) else some ((⟨(⟨#[]⟩:ByteArray),0,0,false⟩:Attribute),false)
theorem z1g {a0}{a1}{a2}{r}(hr:q7j a0 a1 a2=some r){ca0}(ha0:rd F0 w0 a0 ca0){ca1}(ha1:rd F0 w0 a1 ca1){ca2}(ha2:rd F0 w0 a2 ca2):RT 159 #[ag ca0,ag ca1,ag ca2] w0 fun v w=>v = .tuple #[.agg #[.string r.1.Name,.int .i64 r.1.Type_,.int .i64 r.1.Mode,.bool r.1.Circular],.bool r.2]∧r.1.Name.size≤9223372036854775807∧I64 r.1.Type_∧I64 r.1.Mode:=by
 have H:=(((HL.start F0 w0).argR ha0).argR ha1).argR ha2
 obtain⟨A1,n1,c1,A2,n2,c2,rfl,H⟩:=q2s H 0
 obtain⟨A3,n3,c3,A4,n4,c4,A5,n5,c5,rfl,hS1,hS2,H⟩:=q3j H 1
 let d1:=q4o a1 A3 n3 c3 A4 n4 c4 A5 n5 c5
 obtain⟨rfl,hI1,hS3,H⟩:=q2z H 2
 refine (En Tryz.func159) ?_
 refine R ((BX H) fun b1 w1 H=>(BX H) fun b2 w2 H=>(BX H) fun b3 w3 H=>(AH ze91 H) fun b4 w4 H=>(A) (Z (Y (R ((D 0) ((L H 2) ((D 2) ((L H 1) ((NI H 5) fun hl1=>?_)))))))))
 refine bb hr fun y1 hy1 hr=>?_
 refine (CA ok93 (q3u hy1 (F0:=nF) hI1 dI hl1)) (cE H fun w5 H=>(N) (Z (iM hr (fun _ hr=>?_) fun h1 hr=>?_)))
 ·refine R ?_
  refine q0b rfl rfl (Ev.build rfl pl91 ze91 rfl rfl rfl rfl) ((SB H 3) fun w6 H=>(AZ) (CR ?_))
  obtain rfl:=sm hr
  exact⟨_,z5I rfl ag91 sz91 rfl rfl rfl rfl (ab H 3) rfl,H.ext0,rfl,dI,dI,dI⟩
 refine K ?_
 refine bb hr fun y2 hy2 hr=>?_
 obtain⟨_,_,_,hS4⟩:=(q5I hy2 ⟨_,_,_,rfl,hS1,hS2,(rs H 5),(rs H 6),(rs H 7)⟩ hI1).get
 obtain⟨⟨y3,y4⟩,hy3,hr⟩:=bd hr
 obtain⟨F_G1,hFl_G1,hF_G1,hcl_G1⟩:=H.callL
 refine Y ?_
 refine q0E 11 (fun ρ=>[.fix (.agg #[.slice A1 n1 c1,.slice A2 n2 c2]),.fix (.agg #[.string a1.Name,.string a1.Left,.slice A3 n3 c3,.bool a1.Literal,.slice A4 n4 c4,.slice A5 n5 c5]),.fix (.pointer (some ⟨b3,0+0,none⟩)),.fix (.int .i64 a2.Pos),.fix (.string y2),.free (fun S v w=>∃ A6:Option Addr,∃ n6:Nat,∃ c6:Nat,v = .tuple #[.agg #[.string y3.Name,.slice A6 n6 c6],.bool y4]∧y3.Name.size≤9223372036854775807∧NewV F_G1 w5 S w [.S y3.Attributes (.slice A6 n6 c6)] []),.dep 24 id,.dep 18 (z1P 0),.dep 18 (z1P 1),.free (VarB 89 2),.wr 8 25 (WrB 89)]) [[],[],[],[],[],[],[24],[18],[18],[],[8,25]] NoM (fun _ _=>True) [] [none,none,none,none,none,none,none,none,none,none,some 9] (noM _) hmix (by kernel_rfl) rfl ⟨trivial,trivial,trivial,trivial,trivial,fun _ _ _ _ _ ⟨A6,n6,c6,hv,h0,hh⟩ hc hS hT=>⟨A6,n6,c6,hv,h0,hh.chgT hc hS hT hFl_G1⟩,trivial,trivial,trivial,fun _ _ _ _ _ h hc hS _=>h.chgT hc hS,fun _ _ _ _ _ _ h hc hS _=>h.chgT hc hS,trivial⟩ trivial (fun _ _ _ _ _ _ _=>trivial) ?_
 refine q0g rfl rfl rfl rfl rfl (fun _ hq hK=>q0c rfl ag35 sz35 rfl (At.blk ((H.ext hq).rB (i:=0) rfl)) rfl) ?_
 refine q0g rfl rfl rfl rfl rfl (fun _ hq hK=>q0c rfl ag62 sz62 rfl (At.blk ((H.ext hq).rB (i:=1) rfl)) rfl) ?_
 refine q0g rfl rfl rfl rfl rfl (fun _ hq hK=>q0m rfl j0O rfl) ?_
 refine q0g rfl rfl rfl rfl rfl (fun _ hq hK=>q0h rfl ag3 rfl (((H.ext hq).rB (i:=2) rfl).cell rfl)) ?_
 refine q0F rfl rfl rfl rfl (fun _ hq hK=>OpX.call rfl rfl rfl rfl ok92 rfl (q5I hy2 ⟨_,_,_,rfl,hS1,hS2,(rs (H.ext hq) 5),(rs (H.ext hq) 6),(rs (H.ext hq) 7)⟩ hI1) fun _ _ hE h=>⟨hE,h.1⟩) ?_
 refine LL2.free rfl rfl rfl rfl (fun wq hq hK=>?_) (fun v_G1_5 S_G1_5=>?_)
 ·have hF:=hF_G1.ext hq
  refine OpX.call rfl rfl rfl rfl j6o rfl (q8e hy3 ⟨_,_,rfl,(hF.get (i:=3) rfl),(hF.get (i:=4) rfl)⟩ hS4) ?_
  rintro _ w hE ⟨A6,n6,c6,rfl,h0,hh⟩
  exact⟨hE,A6,n6,c6,rfl,h0,NewV.of hFl_G1 hq hh⟩
 refine q0T rfl rfl rfl rfl rfl (.inl rfl) rfl ?_
 refine q0z rfl rfl rfl rfl rfl rfl rfl (fun wq hq hK=>?_) ?_
 ·have hK:∀ j' (_:(q2v _).contains j'=true),_:=hK 6 rfl
  obtain⟨A6,n6,c6,rfl,_,_⟩:=hK 5 rfl
  exact⟨_,_,rfl,rfl⟩
 refine q0z rfl rfl rfl rfl rfl rfl rfl (fun wq hq hK=>?_) ?_
 ·have hK:∀ j' (_:(q2v _).contains j'=true),_:=hK 6 rfl
  obtain⟨A6,n6,c6,rfl,_,_⟩:=hK 5 rfl
  exact⟨_,_,rfl,rfl⟩
 refine LL2.free rfl rfl rfl rfl (fun wq hq hK=>q0x rfl rfl ze89 rfl) (fun v_G1_9 S_G1_9=>?_)
 refine LL2.st (k:=2) rfl rfl rfl (by decide) rfl rfl rfl rfl sz89 rfl rfl (fun wq hq hK=>hK 9 rfl) (fun wq hq hK=>?_) ?_
 ·obtain⟨A6,n6,c6,rfl,_,_⟩:=hK 5 rfl
  exact⟨_,rfl,rfl,(all1 rfl (all1 rfl all0))⟩
 intro w7 hE _ hK hap hbd
 have hE:=z0q hE
 obtain⟨A6,n6,c6,rfl,hS5,hN1⟩:=hK 5 (by decide)
 obtain⟨b5,rfl,hN2⟩:=j0L (cells:=[.string y3.Name,.slice A6 n6 c6]) (hK 9 (by decide)) (hK 10 (by decide)) rfl
 have H:=hcl_G1 (q0X (hN1.app (hN2.V tv) fun q h1 h2=>absurd (hap 5 9 q h1 h2) (by decide)) hE fun q hq=>hq.elim (fun h=>(hbd 5 q h).1) fun h=>(hbd 9 q h).1)
 refine (AZ) (Y ?_)
 refine q0a [(5,pB b3),(6,pB b4),(8,pB b5)] ⟨rfl,rfl,rfl,trivial⟩ fun σ=>?_
 have H:HL F0 [] w0 w7 [.R a0 [.slice A1 n1 c1,.slice A2 n2 c2],.R a1 d1,.R a2 [.int .i64 a2.Pos,.string a2.Name],.S a0.Symbols (.slice A1 n1 c1),.S a0.Rules (.slice A2 n2 c2),.S a1.Right (.slice A3 n3 c3),.S a1.Equations (.slice A4 n4 c4),.S a1.Contributions (.slice A5 n5 c5),.S y3.Attributes (.slice A6 n6 c6)] [.B b1 35 [.slice A1 n1 c1,.slice A2 n2 c2],.B b2 62 d1,.B b3 133 [.int .i64 a2.Pos,.string a2.Name],.B b4 91 [.string eB,.int .i64 0,.int .i64 0,.bool false],.B b5 89 [.string y3.Name,.slice A6 n6 c6]]:=H
 refine X ((LB H 4) ((D 1) ((L H 2) ?_)))
 obtain⟨⟨y5,y6⟩,hy4,hr⟩:=bd hr
 refine (CA k0h (q9u hy4 ⟨_,rfl,hS5,(rs H 8)⟩ hS3)) ?_
 rintro _ w8 hE ⟨rfl,hS6,hI2,hI3⟩
 have H:=H.ext hE
 refine (EX) ((EX) ((SB H 3) fun w9 H=>(AZ) (CR ?_)))
 obtain rfl:=sm hr
 exact⟨_,z5I rfl ag91 sz91 rfl rfl rfl rfl (ab H 3) rfl,H.ext0,rfl,hS6,hI2,hI3⟩
def z6r (a0:Grammar)(a1:Rule)(a2:Occurrence):Option Bool:=(q7j a0 a1 a2).bind fun (y1,y2)=>if a2.Pos=0 then ( if y2=true then some (decide (y1.Mode=1)) else some false ).bind fun s1=>some s1 else ( if y2=true then some (decide (y1.Mode=2)) else some false ).bind fun s2=>some s2
theorem j5p {a0}{a1}{a2}{r}(hr:z6r a0 a1 a2=some r){ca0}(ha0:rd F0 w0 a0 ca0){ca1}(ha1:rd F0 w0 a1 ca1){ca2}(ha2:rd F0 w0 a2 ca2):RB 195 #[ag ca0,ag ca1,ag ca2] w0 r:=by
 let d3:List Value:=[.int .i64 a2.Pos,.string a2.Name]
 have H:=(((HL.start F0 w0).argR ha0).argR ha1).argR ha2
 obtain⟨A1,n1,c1,A2,n2,c2,rfl,H⟩:=q2s H 0
 let d4:List Value:=[.slice A1 n1 c1,.slice A2 n2 c2]
 obtain⟨A3,n3,c3,A4,n4,c4,A5,n5,c5,rfl,hS1,hS2,H⟩:=q3j H 1
 let d2:=q4o a1 A3 n3 c3 A4 n4 c4 A5 n5 c5
 let d1:List Pr:=[.R a0 d4,.R a1 d2,.R a2 d3,.S a0.Symbols (.slice A1 n1 c1),.S a0.Rules (.slice A2 n2 c2),.S a1.Right (.slice A3 n3 c3),.S a1.Equations (.slice A4 n4 c4),.S a1.Contributions (.slice A5 n5 c5)]
 obtain⟨rfl,hI1,hS3,H⟩:=q2z H 2
 refine (En Tryz.func195) ?_
 refine R ((BX H) fun b1 w1 H=>(BX H) fun b2 w2 H=>(BX H) fun b3 w3 H=>(A) (Z (R ((LB H 0) ((LB H 1) ((LB H 2) ?_))))))
 obtain⟨⟨y1,y2⟩,hy1,hr⟩:=bd hr
 refine (CA k0g (z1g hy1 ⟨_,_,rfl,(rs H 3),(rs H 4)⟩ ⟨_,_,_,rfl,hS1,hS2,(rs H 5),(rs H 6),(rs H 7)⟩ ⟨rfl,hI1,hS3⟩)) ?_
 rintro _ w4 hE ⟨rfl,hS4,hI2,hI3⟩
 have H:=H.ext hE
 refine (V) ((EX) ((EX) ((AH ze91 H) fun b4 w5 H=>(SB H 3) fun w6 H=>(A) (Z (Y (R ((D 0) ((L H 2) ((BZ) (iD hr (fun _ hr=>?_) fun _ hr=>?_))))))))))
 ·refine R ((V) ?_)
  refine bb hr fun q1 hm1 hr=>?_
  refine cu H 5 [(6,.bool false),(24,.bool q1)] d1 [.B b1 35 d4,.B b2 62 d2,.B b3 133 d3,.B b4 91 (q3Z y1)] ?_ fun σ w7 H=>?_
  ·refine jB hm1 (fun _ hm1=>?_) fun _ hm1=>?_
   ·exact (G) ((D 2) ((G) ((L H 3) ((G) ((B) ((T) (Z (C1 hm1))))))))
   exact OF hm1
  exact (AZ) (W1 hr)
 refine K (R ((V) ?_))
 refine bb hr fun q2 hm2 hr=>?_
 refine cu H 5 [(6,.bool false),(30,.bool q2)] d1 [.B b1 35 d4,.B b2 62 d2,.B b3 133 d3,.B b4 91 (q3Z y1)] ?_ fun σ w8 H=>?_
 ·refine jB hm2 (fun _ hm2=>?_) fun _ hm2=>?_
  ·exact (G) ((D 2) ((G) ((L H 3) ((G) ((B) ((T) (Z (C1 hm2))))))))
  exact OF hm2
 exact (AZ) (W1 hr)
def q9Q (a0:Occurrence)(a1:Grammar)(a2:Rule):Option Bool:=(z6r a1 a2 a0).bind fun y1=>some (!y1)
theorem z9l {a0}{a1}{a2}{r}(hr:q9Q a0 a1 a2=some r){ca0}(ha0:rd F0 w0 a0 ca0){b1p:Nat}(ha1:CapP F0 w0 b1p a1){b2p:Nat}(ha2:CapP F0 w0 b2p a2):RB 194 #[ag ca0,pB b1p,pB b2p] w0 r:=by
 have H:=(HL.start F0 w0).argR ha0
 obtain⟨rfl,hI1,hS1,H⟩:=q2z H 0
 obtain⟨cpa1,H⟩:=H.argP ha1
 obtain⟨A1,n1,c1,A2,n2,c2,rfl,H⟩:=q2s H 2
 obtain⟨cpa2,H⟩:=H.argP ha2
 obtain⟨A3,n3,c3,A4,n4,c4,A5,n5,c5,rfl,hS2,hS3,H⟩:=q3j H 6
 refine (En Tryz.func194) ?_
 refine R ((BX H) fun b1 w1 H=>(A) (Z (R ((LA H 1) ((LA H 5) ((LB H 0) ?_))))))
 refine bb hr fun y1 hy1 hr=>?_
 exact (CA k3D (j5p hy1 ⟨_,_,rfl,(rs H 3),(rs H 4)⟩ ⟨_,_,_,rfl,hS2,hS3,(rs H 7),(rs H 8),(rs H 9)⟩ ⟨rfl,hI1,hS1⟩)) (cE H fun w2 H=>(N) ((AZ) (W1 hr)))
def q4B (a1_0:Grammar)(a1_1:Rule):Nat→Occurrence→Unit→Option (Unit ⊕ Int):=fun k1 x1 _=>(q9Q x1 a1_0 a1_1).bind fun y1=>if y1=true then some (.inr (k1:Int)) else some (.inl ())
def q3A (a0:(List Occurrence))(a1_0:Grammar)(a1_1:Rule):Option Int:=(q2u (q4B a1_0 a1_1) 0 a0 ()).bind <| onr (fun r1=>some r1) fun _=>some (-1)
theorem q6V {a0}{a1_0}{a1_1}{r}(hr:q3A a0 a1_0 a1_1=some r){z0}(ha0:rdS F0 w0 a0 z0){b1_0p:Nat}(ha1_0:CapP F0 w0 b1_0p a1_0){b1_1p:Nat}(ha1_1:CapP F0 w0 b1_1p a1_1):RT 135 #[z0,.func (.func 194) #[] #[pB b1_0p,pB b1_1p]] w0 fun v w=>v = .int .i64 r∧I64 r:=by
 exact ixFu (gm:=fun x=>q9Q x a1_0 a1_1) (caps:=[pB b1_0p,pB b1_1p]) Tryz.func135 hr ha0 k3C fun w1 hE x cs y hy hx=>z9l hy hx (CapP.lt ha1_0 hE) (CapP.lt ha1_1 hE)
def q3m (a0:(List Occurrence))(a1_0:Grammar)(a1_1:Rule):Option Bool:=(q3A a0 a1_0 a1_1).bind fun y1=>some (decide (0≤y1))
theorem q6s {a0}{a1_0}{a1_1}{r}(hr:q3m a0 a1_0 a1_1=some r){z0}(ha0:rdS F0 w0 a0 z0){b1_0p:Nat}(ha1_0:CapP F0 w0 b1_0p a1_0){b1_1p:Nat}(ha1_1:CapP F0 w0 b1_1p a1_1):RB 98 #[z0,.func (.func 194) #[] #[pB b1_0p,pB b1_1p]] w0 r:=by
 exact coF Tryz.func98 hr j8e fun hy=>q6V hy ha0 ha1_0 ha1_1
def z0e (a0:Expr)(a1:Grammar)(a2:Rule):Option Bool:=(q7d a0).bind fun y1=>(q3m y1 a1 a2).bind fun y2=>some y2
theorem j1r {a0}{a1}{a2}{r}(hr:z0e a0 a1 a2=some r){ca0}(ha0:rd F0 w0 a0 ca0){b1p:Nat}(ha1:CapP F0 w0 b1p a1){b2p:Nat}(ha2:CapP F0 w0 b2p a2):RB 193 #[ag ca0,pB b1p,pB b2p] w0 r:=by
 have H:=(HL.start F0 w0).argR ha0
 obtain⟨A1,n1,c1,rfl,hI1,hI2,hI3,hI4,hS1,hS2,H⟩:=q3q H 0
 obtain⟨cpa1,H⟩:=H.argP ha1
 obtain⟨A2,n2,c2,A3,n3,c3,rfl,H⟩:=q2s H 3
 obtain⟨cpa2,H⟩:=H.argP ha2
 obtain⟨A4,n4,c4,A5,n5,c5,A6,n6,c6,rfl,hS3,hS4,H⟩:=q3j H 7
 refine (En Tryz.func193) ?_
 refine R ((BX H) fun b1 w1 H=>(A) (Z (R ((LB H 0) ?_))))
 refine bb hr fun y1 hy1 hr=>?_
 refine (CA k1s (z2r hy1 (q2r.2 ⟨_,rfl,hI1,hI2,hI3,hI4,hS1,hS2,(rs H 1)⟩))) ?_
 rintro _ w2 hE ⟨A7,n7,c7,rfl,H'⟩
 have H:=H.callA H' tv
 refine q0b rfl rfl (q0q rfl rfl rfl) ?_
 refine bb hr fun y2 hy2 hr=>?_
 exact (CA ok98 (q6s hy2 (F0:=fun q=>q < _) (ro H 1) ⟨H.rAl (i:=2) rfl,_,H.rA (i:=2) rfl,⟨_,_,rfl,(rs H 4),(rs H 5)⟩⟩ ⟨H.rAl (i:=6) rfl,_,H.rA (i:=6) rfl,⟨_,_,_,rfl,hS3,hS4,(rs H 8),(rs H 9),(rs H 10)⟩⟩)) (cE H fun w3 H=>(AZ) (W1 hr))
def q5P (a1_0:Grammar)(a1_1:Rule):Nat→Expr→Unit→Option (Unit ⊕ Int):=fun k1 x1 _=>(z0e x1 a1_0 a1_1).bind fun y1=>if y1=true then some (.inr (k1:Int)) else some (.inl ())
def q4s (a0:(List Expr))(a1_0:Grammar)(a1_1:Rule):Option Int:=(q2u (q5P a1_0 a1_1) 0 a0 ()).bind <| onr (fun r1=>some r1) fun _=>some (-1)
theorem q8s {a0}{a1_0}{a1_1}{r}(hr:q4s a0 a1_0 a1_1=some r){z0}(ha0:rdS F0 w0 a0 z0){b1_0p:Nat}(ha1_0:CapP F0 w0 b1_0p a1_0){b1_1p:Nat}(ha1_1:CapP F0 w0 b1_1p a1_1):RT 123 #[z0,.func (.func 193) #[] #[pB b1_0p,pB b1_1p]] w0 fun v w=>v = .int .i64 r∧I64 r:=by
 exact ixFu (gm:=fun x=>z0e x a1_0 a1_1) (caps:=[pB b1_0p,pB b1_1p]) Tryz.func123 hr ha0 k3B fun w1 hE x cs y hy hx=>j1r hy hx (CapP.lt ha1_0 hE) (CapP.lt ha1_1 hE)
def q4c (a0:(List Expr))(a1_0:Grammar)(a1_1:Rule):Option Bool:=(q4s a0 a1_0 a1_1).bind fun y1=>some (decide (0≤y1))
theorem q7Q {a0}{a1_0}{a1_1}{r}(hr:q4c a0 a1_0 a1_1=some r){z0}(ha0:rdS F0 w0 a0 z0){b1_0p:Nat}(ha1_0:CapP F0 w0 b1_0p a1_0){b1_1p:Nat}(ha1_1:CapP F0 w0 b1_1p a1_1):RB 84 #[z0,.func (.func 193) #[] #[pB b1_0p,pB b1_1p]] w0 r:=by
 exact coF Tryz.func84 hr j4Y fun hy=>q8s hy ha0 ha1_0 ha1_1
def z4L (a0:Grammar)(a1:Rule):Option Bool:=(q8f a1).bind fun y1=>(q4c y1 a0 a1).bind fun y2=>some y2
theorem j3H {a0}{a1}{r}(hr:z4L a0 a1=some r){ca0}(ha0:rd F0 w0 a0 ca0){ca1}(ha1:rd F0 w0 a1 ca1):RB 158 #[ag ca0,ag ca1] w0 r:=by
 have H:=((HL.start F0 w0).argR ha0).argR ha1
 obtain⟨A1,n1,c1,A2,n2,c2,rfl,H⟩:=q2s H 0
 obtain⟨A3,n3,c3,A4,n4,c4,A5,n5,c5,rfl,hS1,hS2,H⟩:=q3j H 1
 let d1:=q4o a1 A3 n3 c3 A4 n4 c4 A5 n5 c5
 refine (En Tryz.func158) ?_
 refine R ((BX H) fun b1 w1 H=>(BX H) fun b2 w2 H=>(A) (Z (R ((LB H 1) ?_))))
 refine bb hr fun y1 hy1 hr=>?_
 obtain⟨F,hF,hcl⟩:=H.call
 refine (CA ok85 (z4e hy1 ⟨_,_,_,rfl,hS1,hS2,(hF.get (i:=4) rfl),(hF.get (i:=5) rfl),(hF.get (i:=6) rfl)⟩)) ?_
 rintro _ w3 hE ⟨A6,n6,c6,rfl,H'⟩
 have H:HL F0 [] w0 w3 [.R a0 [.slice A1 n1 c1,.slice A2 n2 c2],.R a1 d1,.S a0.Symbols (.slice A1 n1 c1),.S a0.Rules (.slice A2 n2 c2),.S a1.Right (.slice A3 n3 c3),.S a1.Equations (.slice A4 n4 c4),.S a1.Contributions (.slice A5 n5 c5)] [.B b1 35 [.slice A1 n1 c1,.slice A2 n2 c2],.B b2 62 d1,.G 136 y1 (.slice A6 n6 c6)]:=hcl H'
 refine q0b rfl rfl (q0q rfl rfl rfl) ?_
 refine bb hr fun y2 hy2 hr=>?_
 exact (CA ok84 (q7Q hy2 (F0:=fun q=>q < _) (H.rG (i:=2) rfl) ⟨(rb H 0).lt,_,At.blk (rb H 0),⟨_,_,rfl,(rs H 2),(rs H 3)⟩⟩ ⟨(rb H 1).lt,_,At.blk (rb H 1),⟨_,_,_,rfl,hS1,hS2,(rs H 4),(rs H 5),(rs H 6)⟩⟩)) (cE H fun w4 H=>(AZ) (W1 hr))
def q9R (a0:Grammar)(s1:Int):Nat→Rule→Unit→Option (Unit ⊕ (Int × Int)):=fun k1 x2 _=>if s1=3 then (z4I a0 x2).bind fun y5=>if y5=true then some (.inr (s1,(k1:Int))) else some (.inl ()) else if s1=4 then (z4J a0 x2).bind fun y6=>if y6=true then some (.inr (s1,(k1:Int))) else some (.inl ()) else if s1=5 then (z8r a0 x2).bind fun y7=>if y7=true then some (.inr (s1,(k1:Int))) else some (.inl ()) else (z4L a0 x2).bind fun y8=>if y8=true then some (.inr (s1,(k1:Int))) else some (.inl ())
def q4V (a0:Grammar):Int→Option (Int ⊕ (Unit ⊕ (Int × Int))):=fun s1=>if s1≤6 then (q2u (q9R a0 s1) 0 a0.Rules ()).bind <| onr (fun r1=>some (.inr (.inr r1))) fun _=>grd (I64 (s1+1)) <| some (.inl (s1+1)) else some (.inr (.inl ()))
def z0F (a0:Grammar):Option (Int × Int):=(q2Y (a0.Symbols.length:Int) 1 4).bind fun y1=>if y1=true then (q2Y (a0.Rules.length:Int) 1 8).bind fun y2=>if y2=true then (z0D a0).bind fun y3=>if 0≤y3 then some (1,y3) else (a0.Symbols[0]?).bind fun x1=>(q3l x1.Attributes).bind fun y4=>if y4=true then some (2,0) else ( q7k (q4V a0) 3 ).bind <| onr (fun r2=>some r2) fun ()=>some (0,0) else some (1,0) else some (1,0)
theorem j0i {a0}{r}(hr:z0F a0=some r){ca0}(ha0:rd F0 w0 a0 ca0):RT 119 #[ag ca0] w0 fun v w=>v = .tuple #[.int .i64 r.1,.int .i64 r.2]∧I64 r.1∧I64 r.2:=by
 have H:=(HL.start F0 w0).argR ha0
 obtain⟨A1,n1,c1,A2,n2,c2,rfl,H⟩:=q2s H 0
 refine (En Tryz.func119) ?_
 refine R ((BX H) fun b1 w1 H=>(A) ((A) (Z (Y (R ((D 0) ((L H 0) ((NI H 1) fun hl1=>?_))))))))
 let d2:List It:=[.B b1 35 [.slice A1 n1 c1,.slice A2 n2 c2]]
 refine bb hr fun y1 hy1 hr=>?_
 refine (CA ok93 (q3u hy1 (F0:=nF) hl1 dI dI)) (cE H fun w2 H=>(N) (jM hr (fun _ hr=>?_) fun _ hr=>?_))
 ·exact (O) ((O) ((O) ((O) ((O) ((T) (Z ((cT) (R ((A) ((AZ) (W1 hr)))))))))))
 refine (G) ((D 1) ((G) ((L H 0) ((G) ((NI H 2) fun hl2=>(G) ?_)))))
 refine bb hr fun y2 hy2 hr=>?_
 refine (CA ok93 (q3u hy2 (F0:=nF) hl2 dI dI)) (cE H fun w3 H=>(G) ((N) ((U) (Z (iM hr (fun _ hr=>?_) fun _ hr=>?_)))))
 ·exact R ((A) ((AZ) (W1 hr)))
 refine K (Y (R ((LB H 0) ?_)))
 refine bb hr fun y3 hy3 hr=>?_
 refine (CA k2W (j0h hy3 ⟨_,_,rfl,(rs H 1),(rs H 2)⟩)) (cF' H fun w4 hI1 H=>(A) (Z (R ((V) ((BZ) (iD hr (fun _ hr=>?_) fun _ hr=>?_))))))
 ·exact R ((V) ((A) ((AZ) (W1 hr))))
 refine K (Y (R ((D 0) ((L H 0) ?_))))
 refine bb hr fun x1 hx1 hr=>?_
 obtain⟨b2,ob2,cb2,A3,n3,c3,hvb2,hS1,H⟩:=q4g H 1 hx1
 let d1:List Pr:=[.R a0 [.slice A1 n1 c1,.slice A2 n2 c2],.S a0.Symbols (.slice A1 n1 c1),.S a0.Rules (.slice A2 n2 c2),.A b2 (ob2+0*2) [.string x1.Name,.slice A3 n3 c3],.R x1 [.string x1.Name,.slice A3 n3 c3],.S x1.Attributes (.slice A3 n3 c3)]
 refine (J 2 hvb2 hx1) ((D 1) ((LC H 3) ?_))
 refine bb hr fun y4 hy4 hr=>?_
 refine (CA ok89 (q6r hy4 (F0:=fun q=>q < _) (rs H 5))) (cE H fun w5 H=>Z (iB hr (fun _ hr=>?_) fun _ hr=>?_))
 ·refine Y ?_
  refine q0a [] trivial fun σ=>?_
  have H:HL F0 [] w0 w5 d1 d2:=H
  exact X ((A) ((AZ) (W1 hr)))
 refine K (Y (Y ?_))
 refine q0a [(1,pB b1)] ⟨rfl,trivial⟩ fun σ=>?_
 have H:HL F0 [] w0 w5 d1 d2:=H
 refine X ((AZ) ?_)
 refine bb hr fun q1 hm1 hr=>?_
 refine q0u (fun ρ' w=>q1 = .inl ()∧q4R ρ' []∧HL F0 [] w0 w d1 d2) ?_ ?_
 ·obtain⟨m1,hq1⟩:=q5g.1 hm1
  refine (lI hq1 (fun m1 s1 _=>[(1,pB b1),(5,.int .i64 s1)]) (fun s1 _ w=>I64 s1∧HL F0 [] w0 w d1 d2) ()) ?_
  rintro m1 s1 _ σ w6 hq1 ⟨hI2,H⟩
  obtain⟨m2,z1,rfl,hb1,hs1,ht1⟩:=q8B hq1
  refine Y (R ((V) ((BZ) (iD hb1 (fun _ hb1=>?_) fun _ hb1=>?_))))
  ·refine K (Y ?_)
   refine Bk (R ((D 1) ((L H 0) ((NN (rs H 2)) ((V) (Z ?_))))))
   refine bb hb1 fun q2 hq2 hb1=>?_
   refine (lF hq2 (fun k1 _ _=>[(1,pB b1),(5,.int .i64 s1),(37,.slice A2 n2 c2),(38,zN a0.Rules.length),(39,zN k1)]) (fun _ _ w=>HL F0 [] w0 w d1 d2) ()) ?_
   rintro k1 _ _ σ w7 hk1 hq2 H
   refine R ((BZ) (Y ?_))
   refine q0e rfl (fun h6=>?_) (fun h6=>?_)
   ·have hk2:=q2G h6
    obtain⟨x2,z2,hx2,hb2,hs2,ht2⟩:=q3o hq2 hk2
    refine K (Y ?_)
    refine Bk (R ((V) ?_))
    obtain⟨b3,ob3,cb3,A4,n4,c4,A5,n5,c5,A6,n6,c6,hvb3,hS2,hS3,H⟩:=q6N H 2 hx2
    refine (J 6 hvb3 hx2) ((LA H 6) ((AH ze62 H) fun b4 w8 H=>(A) ((SB H 1) fun w9 H=>Z (R ((A) (Z (Y (R ((V) (Z ?_))))))))))
    refine Bk (R ((B) ((AZ) (iD hb2 (fun _ hb2=>?_) fun _ hb2=>?_))))
    ·refine X ((LB H 0) ((LB H 1) ?_))
     refine bb hb2 fun y5 hy5 hb2=>?_
     refine (CA k2Y (j3E hy5 ⟨_,_,rfl,(rs H 1),(rs H 2)⟩ ⟨_,_,_,rfl,hS2,hS3,(rs H 8),(rs H 9),(rs H 10)⟩)) (cE H fun w10 H=>(A) (Z (R ((V) (Z (iB hb2 (fun _ hb2=>?_) fun _ hb2=>?_))))))
     ·exact R ((V) ((V) ((A) ((AZ) (W3 hb2 ht2 hb1 ht1 hr)))))
     exact K (X ((AN hk2 hl2) ((V) (Z (I2 hb2 hs2 ⟨k1+1,(),()⟩)))))
    refine R ((B) ((AZ) (iD hb2 (fun _ hb2=>?_) fun _ hb2=>?_)))
    ·refine X ((LB H 0) ((LB H 1) ?_))
     refine bb hb2 fun y6 hy6 hb2=>?_
     refine (CA k2Z (j3F hy6 ⟨_,_,rfl,(rs H 1),(rs H 2)⟩ ⟨_,_,_,rfl,hS2,hS3,(rs H 8),(rs H 9),(rs H 10)⟩)) (cE H fun w11 H=>(A) (Z (R ((V) (Z (iB hb2 (fun _ hb2=>?_) fun _ hb2=>?_))))))
     ·exact R ((V) ((V) ((A) ((AZ) (W3 hb2 ht2 hb1 ht1 hr)))))
     exact K (X ((AN hk2 hl2) ((V) (Z (I2 hb2 hs2 ⟨k1+1,(),()⟩)))))
    refine R ((B) ((AZ) (iD hb2 (fun _ hb2=>?_) fun _ hb2=>?_)))
    ·refine X ((LB H 0) ((LB H 1) ?_))
     refine bb hb2 fun y7 hy7 hb2=>?_
     refine (CA k3a (j6u hy7 ⟨_,_,rfl,(rs H 1),(rs H 2)⟩ ⟨_,_,_,rfl,hS2,hS3,(rs H 8),(rs H 9),(rs H 10)⟩)) (cE H fun w12 H=>(A) (Z (R ((V) (Z (iB hb2 (fun _ hb2=>?_) fun _ hb2=>?_))))))
     ·exact R ((V) ((V) ((A) ((AZ) (W3 hb2 ht2 hb1 ht1 hr)))))
     exact K (X ((AN hk2 hl2) ((V) (Z (I2 hb2 hs2 ⟨k1+1,(),()⟩)))))
    refine X ((LB H 0) ((LB H 1) ?_))
    refine bb hb2 fun y8 hy8 hb2=>?_
    refine (CA k3b (j3H hy8 ⟨_,_,rfl,(rs H 1),(rs H 2)⟩ ⟨_,_,_,rfl,hS2,hS3,(rs H 8),(rs H 9),(rs H 10)⟩)) (cE H fun w13 H=>(A) (Z (R ((V) (Z (iB hb2 (fun _ hb2=>?_) fun _ hb2=>?_))))))
    ·exact R ((V) ((V) ((A) ((AZ) (W3 hb2 ht2 hb1 ht1 hr)))))
    exact K (X ((AN hk2 hl2) ((V) (Z (I2 hb2 hs2 ⟨k1+1,(),()⟩)))))
   obtain rfl:=q2M hq2 (q2t h6)
   have hb1:=(q2S _ _ _).symm.trans hb1
   refine CE (X ((V) ?_))
   exact gg hb1 fun hg1 hb1=>(BN (Bin.add hg1)) ((A) (Z (I2 hb1 hs1 ⟨m2,(s1+1),()⟩)))
  exact CE (C2 hb1 ht1)
 rintro ρ' w14 ⟨rfl,hag,H⟩
 obtain⟨σ,rfl⟩:=q4H hag
 exact R ((A) ((AZ) (W1 hr)))
def q8P (a0:Int):Option (Int × Int × Int):=( if a0=1 then some (decide (a0=1)) else if a0=2 then some (decide (a0=2)) else if a0=3 then some (decide (a0=3)) else if a0=4 then some (decide (a0=4)) else some (decide (a0=5)) ).bind fun s1=>if s1=true then some (1,1,1) else ( if a0=6 then some (decide (a0=6)) else if a0=7 then some (decide (a0=7)) else some (decide (a0=8)) ).bind fun s2=>if s2=true then some (2,2,2) else if a0=9 then if a0=9 then some (1,1,3) else if a0=11 then some (2,1,3) else if a0=12 then some (2,1,2) else some (0,0,0) else if a0=10 then some (1,1,3) else if a0=11 then some (2,1,3) else if a0=12 then some (2,1,2) else some (0,0,0)
theorem z8c {a0}{r}(hr:q8P a0=some r){F0:Nat→Prop}(ha0:I64 a0):RT 196 #[.int .i64 a0] w0 fun v w=>v = .tuple #[.int .i64 r.1,.int .i64 r.2.1,.int .i64 r.2.2]∧I64 r.1∧I64 r.2.1∧I64 r.2.2:=by
 have H:=HL.start F0 w0
 refine (En Tryz.func196) ?_
 refine R ((A) ((A) ((A) (Z (Y (R ((V) (Z ?_))))))))
 refine Bk (Y (R ((B) ((AZ) ?_))))
 refine bb hr fun q1 hm1 hr=>?_
 refine cm H [(5,.int .i64 a0),(6,.bool q1)] [] [] ?_ fun σ w1 H=>?_
 ·refine iD hm1 (fun _ hm1=>?_) fun _ hm1=>?_
  ·exact K (C1 hm1)
  refine R ((B) ((AZ) (iD hm1 (fun _ hm1=>?_) fun _ hm1=>?_)))
  ·exact K (C1 hm1)
  refine R ((B) ((AZ) (iD hm1 (fun _ hm1=>?_) fun _ hm1=>?_)))
  ·exact K (C1 hm1)
  refine R ((B) ((AZ) (iD hm1 (fun _ hm1=>?_) fun _ hm1=>?_)))
  ·exact K (C1 hm1)
  exact X ((B) ((AZ) (C1 hm1)))
 refine iB hr (fun _ hr=>?_) fun _ hr=>?_
 ·exact R ((A) ((A) ((AZ) (W1 hr))))
 refine Y (R ((B) ((AZ) ?_)))
 refine bb hr fun q2 hm2 hr=>?_
 refine cm H [(5,.int .i64 a0),(12,.bool q2)] [] [] ?_ fun σ w2 H=>?_
 ·refine iD hm2 (fun _ hm2=>?_) fun _ hm2=>?_
  ·exact K (C1 hm2)
  refine R ((B) ((AZ) (iD hm2 (fun _ hm2=>?_) fun _ hm2=>?_)))
  ·exact K (C1 hm2)
  exact X ((B) ((AZ) (C1 hm2)))
 refine iB hr (fun _ hr=>?_) fun _ hr=>?_
 ·exact R ((A) ((A) ((AZ) (W1 hr))))
 refine Y (R ((B) ((AZ) (iD hr (fun _ hr=>?_) fun _ hr=>?_))))
 ·refine K (iD hr (fun _ hr=>?_) fun _ hr=>?_)
  ·exact R ((A) ((A) ((AZ) (W1 hr))))
  refine R ((B) ((AZ) (iD hr (fun _ hr=>?_) fun _ hr=>?_)))
  ·exact R ((A) ((A) ((AZ) (W1 hr))))
  refine R ((B) ((AZ) (iD hr (fun _ hr=>?_) fun _ hr=>?_)))
  ·exact R ((A) ((A) ((AZ) (W1 hr))))
  exact K (R ((A) ((A) ((AZ) (W1 hr)))))
 refine X ((B) ((AZ) (iD hr (fun _ hr=>?_) fun _ hr=>?_)))
 ·exact R ((A) ((A) ((AZ) (W1 hr))))
 refine R ((B) ((AZ) (iD hr (fun _ hr=>?_) fun _ hr=>?_)))
 ·exact R ((A) ((A) ((AZ) (W1 hr))))
 refine R ((B) ((AZ) (iD hr (fun _ hr=>?_) fun _ hr=>?_)))
 ·exact R ((A) ((A) ((AZ) (W1 hr))))
 exact K (R ((A) ((A) ((AZ) (W1 hr)))))
def q8g (rec_iTypeOfExpr:Grammar→Rule→Expr→Option Int)(a0:Grammar)(a1:Rule):Nat→Expr→(List Int)→Option (List Int):=fun k1 x1 s1=>(rec_iTypeOfExpr a0 a1 x1).bind fun y1=>grd (((s1.length:Int)+1)*8≤140737488355328∧(s1.length:Int)+1≤9223372036854775807) <| some (s1++[y1])
def z0G (rec_iTypeOfExpr:Grammar→Rule→Expr→Option Int)(a0:Grammar)(a1:Rule)(a2:Expr):Option Int:=(q2J (q8g rec_iTypeOfExpr a0 a1) 0 a2.Args ([]:List Int)).bind fun s1=>if a2.Kind=1 then some a2.Type_ else ( if a2.Kind=2 then some a1.Literal else some false ).bind fun s2=>if s2=true then some 1 else if a2.Kind=3 then (q7j a0 a1 (⟨a2.Pos,a2.Name⟩:Occurrence)).bind fun (y2,y3)=>some y2.Type_ else ( if a2.Kind=4 then some (decide ((s1.length:Int)=2)) else some false ).bind fun s3=>if s3=true then (q8P a2.N).bind fun (y4,y5,y6)=>(s1[0]?).bind fun x2=>( if x2=y4 then (s1[1]?).bind fun x3=>some (decide (x3=y5)) else some false ).bind fun s4=>if s4=true then some y6 else some 0 else ( if a2.Kind=5 then some (decide ((s1.length:Int)=3)) else some false ).bind fun s5=>if s5=true then (s1[0]?).bind fun x4=>if x4=3 then (s1[1]?).bind fun x5=>(s1[2]?).bind fun x6=>if x5=x6 then some x5 else some 0 else some 0 else ( if a2.Kind=6 then (q2Y a2.Pos 0 (a1.Right.length:Int)).bind fun y7=>some y7 else some false ).bind fun s6=>( if s6=true then some s6 else some (decide (a2.Kind=7)) ).bind fun s7=>if s7=true then some 4 else ( if a2.Kind=8 then some (decide ((s1.length:Int)=1)) else some false ).bind fun s8=>( if s8=true then (s1[0]?).bind fun x7=>some (decide (x7=4)) else some false ).bind fun s9=>if s9=true then (q6k a0 a2.Symbol).bind fun (y8,y9)=>(q6c y8 a2.Name).bind fun (y10,y11)=>some y10.Type_ else some 0
theorem z9m {rec_iTypeOfExpr:Grammar→Rule→Expr→Option Int}(ih_iTypeOfExpr:∀ {a0:Grammar} {a1:Rule} {a2:Expr} {r:Int},rec_iTypeOfExpr a0 a1 a2=some r→∀ {F0:Nat→Prop} {w0:World} {ca0} (ha0:rd F0 w0 a0 ca0) {ca1} (ha1:rd F0 w0 a1 ca1) {ca2} (ha2:rd F0 w0 a2 ca2),RT 160 #[ag ca0,ag ca1,ag ca2] w0 fun v w=>v = .int .i64 r∧I64 r){a0}{a1}{a2}{r}(hr:z0G rec_iTypeOfExpr a0 a1 a2=some r){ca0}(ha0:rd F0 w0 a0 ca0){ca1}(ha1:rd F0 w0 a1 ca1){ca2}(ha2:rd F0 w0 a2 ca2):RT 160 #[ag ca0,ag ca1,ag ca2] w0 fun v w=>v = .int .i64 r∧I64 r:=by
 have H:=(((HL.start F0 w0).argR ha0).argR ha1).argR ha2
 obtain⟨A1,n1,c1,A2,n2,c2,rfl,H⟩:=q2s H 0
 let d9:Pr:=.S a0.Rules (.slice A2 n2 c2)
 let d8:Pr:=.S a0.Symbols (.slice A1 n1 c1)
 let d4:List Value:=[.slice A1 n1 c1,.slice A2 n2 c2]
 obtain⟨A3,n3,c3,A4,n4,c4,A5,n5,c5,rfl,hS1,hS2,H⟩:=q3j H 1
 let d10:Pr:=.S a1.Right (.slice A3 n3 c3)
 let d7:Pr:=.S a1.Equations (.slice A4 n4 c4)
 let d6:Pr:=.S a1.Contributions (.slice A5 n5 c5)
 let d3:=q4o a1 A3 n3 c3 A4 n4 c4 A5 n5 c5
 obtain⟨A6,n6,c6,rfl,hI1,hI2,hI3,hI4,hS3,hS4,H⟩:=q3q H 2
 let d11:Pr:=.S a2.Args (.slice A6 n6 c6)
 let d5:=q2D a2 A6 n6 c6
 let d1:List Pr:=[.R a0 d4,.R a1 d3,.R a2 d5,d8,d9,d10,d7,d6,d11]
 refine (En Tryz.func160) ?_
 refine R ((BX H) fun b1 w1 H=>(BX H) fun b2 w2 H=>(BX H) fun b3 w3 H=>(AZ) (R ?_))
 refine q0s (α:=Int) rfl rfl rfl el94 sz3 H fun A7 n7 c7 w4 H=>(A) (Z (Y (R ((D 6) ((L H 2) ((NI H 8) fun hl1=>(V) (Z ?_)))))))
 refine bb hr fun q1 hq1 hr=>?_
 refine Bk (CW.loop (α:=Nat × (List Int) × Value) (fun ⟨k1,s1,v1⟩=>[(3,pB b1),(4,pB b2),(5,pB b3),(7,v1),(21,.slice A6 n6 c6),(22,zN a2.Args.length),(23,zN k1)]) (fun ⟨k1,s1,v1⟩ w=>k1≤a2.Args.length∧q2J (q8g rec_iTypeOfExpr a0 a1) k1 (a2.Args.drop k1) s1=some q1∧HL F0 [] w0 w d1 [.B b1 35 d4,.B b2 62 d3,.B b3 136 d5,.O 3 s1 v1]) (fun ⟨k1,s1,v1⟩=>a2.Args.length - k1) ⟨0,([]:List Int),(.slice A7 n7 c7)⟩ ⟨rfl,rfl,rfl,rfl,rfl,rfl,rfl,trivial⟩ ⟨Nat.zero_le _,hq1,H.keep 9 4⟩ ?_)
 rintro⟨k1,s1,v1⟩ σ w5 ⟨hk1,hq1,H⟩
 obtain⟨A8,n8,c8,rfl⟩:=(fo H 3)
 let d2:List It:=[.B b1 35 d4,.B b2 62 d3,.B b3 136 d5,.O 3 s1 (.slice A8 n8 c8)]
 refine R ((BZ) (Y ?_))
 refine q0e rfl (fun h1=>?_) (fun h1=>?_)
 ·have hk2:=q2G h1
  obtain⟨x1,z1,hx1,hb1,hq1⟩:=q8k hq1 hk2
  refine K (Y ?_)
  refine Bk (R ?_)
  obtain⟨b4,ob4,cb4,A9,n9,c9,hvb4,hI5,hI6,hI7,hI8,hS5,hS6,H⟩:=q4f H 8 hx1
  refine (J 7 hvb4 hx1) ((LA H 9) ((AH q9V H) fun b5 w6 H=>(SB H 4) fun w7 H=>Z (X ((V) ((LB H 0) ((LB H 1) ((LB H 4) ?_)))))))
  refine bb hb1 fun y1 hy1 hb1=>?_
  refine (CA j8h (ih_iTypeOfExpr hy1 ⟨_,_,rfl,(rs H 3),(rs H 4)⟩ ⟨_,_,_,rfl,hS1,hS2,(rs H 5),(rs H 6),(rs H 7)⟩ (q2r.2 ⟨_,rfl,hI5,hI6,hI7,hI8,hS5,hS6,(rs H 11)⟩))) (cF' H fun w8 hI9 H=>?_)
  refine q0p rfl rfl rfl el94 sz3 ze3 rfl rfl rfl rfl rfl rfl fun b6 w9 hE hb hB=>?_
  have H:=H.newB hE hb hB
  refine gg hb1 fun hg1 hb1=>?_
  refine q0t (i:=3) (ys:=[y1]) rfl rfl rfl el94 sz3 by3 ze3 rfl rfl rfl H rfl (fun _=>ownL.single ⟨rfl,rfl,hI9⟩) (.inr ⟨_,_,rfl,At.blk (rb H 5)⟩) hg1 fun A10 n10 c10 w10 H=>(A) (Z (X ((AN hk2 hl1) ((V) (Z ?_)))))
  obtain rfl:=sm hb1
  exact⟨⟨k1+1,(s1++[y1]),(.slice A10 n10 c10)⟩,⟨rfl,rfl,rfl,rfl,rfl,rfl,rfl,trivial⟩,⟨hk2,hq1,H.keep 9 4⟩,Nat.sub_lt_sub_left hk2 (Nat.lt_succ_self _)⟩
 obtain rfl:=q6Z hq1 (q2t h1)
 refine CE (Y ?_)
 refine Bk (R ((D 0) ((L H 2) ((B) ((AZ) (iD hr (fun _ hr=>?_) fun _ hr=>?_))))))
 ·refine R ((D 3) ((L H 2) ((AZ) (CR ?_))))
  obtain rfl:=sm hr
  exact⟨_,res1 rfl rfl rfl,H.ext0,rfl,hI4⟩
 refine R ((D 0) ((L H 2) ((B) ?_)))
 refine bb hr fun q2 hm1 hr=>?_
 refine WL.cut 4 (fun ρ' w=>∃ (s2:Bool),s2=q2∧q4R ρ' [(3,pB b1),(4,pB b2),(5,pB b3),(7,.slice A8 n8 c8),(48,.bool s2)]∧HL F0 [] w0 w d1 d2) ?_ ?_
 ·refine jD hm1 (fun _ hm1=>?_) fun _ hm1=>?_
  ·refine (G) ((D 3) ((G) ((L H 1) ((T) (Z ?_)))))
   obtain rfl:=sm hm1
   exact⟨a1.Literal,rfl,⟨rfl,rfl,rfl,rfl,rfl,trivial⟩,H.keep 9 4⟩
  refine (O) ((O) ((U) (Z ?_)))
  obtain rfl:=sm hm1
  exact⟨false,rfl,⟨rfl,rfl,rfl,rfl,rfl,trivial⟩,H.keep 9 4⟩
 rintro ρ' w11 ⟨s2,rfl,hag,H⟩
 obtain⟨σ,rfl⟩:=q4H hag
 refine (AZ) (iB hr (fun _ hr=>?_) fun _ hr=>?_)
 ·refine R ((AZ) (CR ?_))
  obtain rfl:=sm hr
  exact⟨_,res1 rfl rfl rfl,H.ext0,rfl,dI⟩
 refine R ((D 0) ((L H 2) ((B) ((AZ) (iD hr (fun _ hr=>?_) fun _ hr=>?_)))))
 ·refine R ((LB H 0) ((LB H 1) ((D 2) ((L H 2) ((D 5) ((L H 2) ?_))))))
  refine q0b rfl rfl (Ev.build rfl z7M q5v rfl rfl rfl rfl) ?_
  obtain⟨⟨y2,y3⟩,hy2,hr⟩:=bd hr
  refine (CA k0g (z1g hy2 ⟨_,_,rfl,(rs H 3),(rs H 4)⟩ ⟨_,_,_,rfl,hS1,hS2,(rs H 5),(rs H 6),(rs H 7)⟩ ⟨rfl,hI3,hS4⟩)) ?_
  rintro _ w12 hE ⟨rfl,hS7,hI10,hI11⟩
  have H:=H.ext hE
  refine (V) ((EX) ((EX) ((AH ze91 H) fun b7 w13 H=>(SB H 4) fun w14 H=>(A) (Z (R ((D 1) ((L H 4) ((AZ) (CR ?_)))))))))
  obtain rfl:=sm hr
  exact⟨_,res1 rfl rfl rfl,H.ext0,rfl,hI10⟩
 refine R ((D 0) ((L H 2) ((B) ?_)))
 refine bb hr fun q3 hm2 hr=>?_
 refine WL.cut 5 (fun ρ' w=>∃ (s3:Bool),s3=q3∧q4R ρ' [(3,pB b1),(4,pB b2),(5,pB b3),(7,.slice A8 n8 c8),(74,.bool s3)]∧HL F0 [] w0 w d1 d2) ?_ ?_
 ·refine jD hm2 (fun _ hm2=>?_) fun _ hm2=>?_
  ·refine (G) ((V) ((G) ?_))
   have hl2:=(H.rO (i:=3) rfl).I
   refine (NN (ro H 3)) ((G) ((B) ((T) (Z ?_))))
   obtain rfl:=sm hm2
   exact⟨(decide ((s1.length:Int)=2)),rfl,⟨rfl,rfl,rfl,rfl,rfl,trivial⟩,H.keep 9 4⟩
  refine (O) ((O) ((O) ((U) (Z ?_))))
  obtain rfl:=sm hm2
  exact⟨false,rfl,⟨rfl,rfl,rfl,rfl,rfl,trivial⟩,H.keep 9 4⟩
 rintro ρ' w15 ⟨s3,rfl,hag,H⟩
 obtain⟨σ,rfl⟩:=q4H hag
 refine (AZ) (iB hr (fun _ hr=>?_) fun _ hr=>?_)
 ·refine R ((D 1) ((L H 2) ?_))
  obtain⟨⟨y4,y5,y6⟩,hy3,hr⟩:=bd hr
  refine (CA k3E (z8c hy3 (F0:=nF) hI2)) ?_
  rintro _ w16 hE ⟨rfl,hI12,hI13,hI14⟩
  have H:=H.ext hE
  refine (V) ((EX) ((EX) ((EX) ((A) ((A) ((A) (Z (R ((V) ?_)))))))))
  refine bb hr fun x2 hx2 hr=>?_
  obtain⟨b8,cb8,hvb8,hbb8⟩:=po H 3 hx2
  refine (J 1 hvb8 hx2) ?_
  obtain⟨hA1,hI15,H⟩:=q5p H 3 hx2 hbb8
  refine q0b rfl rfl (q0h rfl ag3 rfl (hA1.cell0 rfl)) ((V) ((B) ?_))
  refine bb hr fun q4 hm3 hr=>?_
  refine WL.cut 7 (fun ρ' w=>∃ (s4:Bool),s4=q4∧q4R ρ' [(14,.int .i64 y6),(93,.bool s4)]∧HL F0 [] w0 w [.R a0 d4,.R a1 d3,.R a2 d5,d8,d9,d10,d7,d6,d11,.R x2 [.int .i64 x2]] d2) ?_ ?_
  ·refine jD hm3 (fun _ hm3=>?_) fun _ hm3=>?_
   ·refine (G) ((V) ((G) ?_))
    refine bb hm3 fun x3 hx3 hm3=>?_
    obtain⟨b9,cb9,hvb9,hbb9⟩:=po H 3 hx3
    refine (J 1 hvb9 hx3) ((G) ?_)
    obtain⟨hA2,hI16,H⟩:=q5p H 3 hx3 hbb9
    refine q0b rfl rfl (q0h rfl ag3 rfl (hA2.cell0 rfl)) ((G) ((V) ((G) ((B) ((T) (Z ?_))))))
    obtain rfl:=sm hm3
    exact⟨(decide (x3=y5)),rfl,⟨rfl,rfl,trivial⟩,H.keep 10 4⟩
   refine (O) ((O) ((O) ((O) ((O) ((U) (Z ?_))))))
   obtain rfl:=sm hm3
   exact⟨false,rfl,⟨rfl,rfl,trivial⟩,H.keep 10 4⟩
  rintro ρ' w17 ⟨s4,rfl,hag,H⟩
  obtain⟨σ,rfl⟩:=q4H hag
  refine Z (iB hr (fun _ hr=>?_) fun _ hr=>?_)
  ·refine R ((V) ((AZ) (CR ?_)))
   obtain rfl:=sm hr
   exact⟨_,res1 rfl rfl rfl,H.ext0,rfl,hI14⟩
  refine K (R ((AZ) (CR ?_)))
  obtain rfl:=sm hr
  exact⟨_,res1 rfl rfl rfl,H.ext0,rfl,dI⟩
 refine R ((D 0) ((L H 2) ((B) ?_)))
 refine bb hr fun q5 hm4 hr=>?_
 refine WL.cut 5 (fun ρ' w=>∃ (s5:Bool),s5=q5∧q4R ρ' [(3,pB b1),(4,pB b2),(5,pB b3),(7,.slice A8 n8 c8),(103,.bool s5)]∧HL F0 [] w0 w d1 d2) ?_ ?_
 ·refine jD hm4 (fun _ hm4=>?_) fun _ hm4=>?_
  ·refine (G) ((V) ((G) ?_))
   have hl3:=(H.rO (i:=3) rfl).I
   refine (NN (ro H 3)) ((G) ((B) ((T) (Z ?_))))
   obtain rfl:=sm hm4
   exact⟨(decide ((s1.length:Int)=3)),rfl,⟨rfl,rfl,rfl,rfl,rfl,trivial⟩,H.keep 9 4⟩
  refine (O) ((O) ((O) ((U) (Z ?_))))
  obtain rfl:=sm hm4
  exact⟨false,rfl,⟨rfl,rfl,rfl,rfl,rfl,trivial⟩,H.keep 9 4⟩
 rintro ρ' w18 ⟨s5,rfl,hag,H⟩
 obtain⟨σ,rfl⟩:=q4H hag
 refine (AZ) (iB hr (fun _ hr=>?_) fun _ hr=>?_)
 ·refine Y ?_
  refine q0d hmix (by kernel_rfl) ?_
  refine (qV) ?_
  refine bb hr fun x4 hx4 hr=>?_
  obtain⟨b10,cb10,hvb10,hbb10⟩:=po H 3 hx4
  refine (qJ 1 hvb10 hx4) ?_
  obtain⟨hA3,hI17,H⟩:=q5p H 3 hx4 hbb10
  refine q0i rfl rfl (fun _ hq=>q0h rfl ag3 rfl ((hA3.ext hq).cell0 rfl)) ?_
  refine (qB) ?_
  refine kD hr (fun _ hr=>?_) fun _ hr=>?_
  ·refine (qG) ((qV) ((qG) ?_))
   refine bb hr fun x5 hx5 hr=>?_
   obtain⟨b11,cb11,hvb11,hbb11⟩:=po H 3 hx5
   refine (qJ 1 hvb11 hx5) ((qG) ?_)
   obtain⟨hA4,hI18,H⟩:=q5p H 3 hx5 hbb11
   refine q0i rfl rfl (fun _ hq=>q0h rfl ag3 rfl ((hA4.ext hq).cell0 rfl)) ?_
   refine (qG) ((qV) ((qG) ?_))
   refine bb hr fun x6 hx6 hr=>?_
   obtain⟨b12,cb12,hvb12,hbb12⟩:=po H 3 hx6
   refine (qJ 1 hvb12 hx6) ((qG) ?_)
   obtain⟨hA5,hI19,H⟩:=q5p H 3 hx6 hbb12
   refine q0i rfl rfl (fun _ hq=>q0h rfl ag3 rfl ((hA5.ext hq).cell0 rfl)) ?_
   refine (qG) ((qB) ((qT) ?_))
   refine QL.nil (fun w19 hE=>?_)
   have H:=H.ext hE
   refine iD hr (fun _ hr=>?_) fun _ hr=>?_
   ·refine R ((V) ?_)
    obtain⟨b13,cb13,hvb13,hbb13⟩:=po H 3 hx5
    refine (J 1 hvb13 hx5) ?_
    obtain⟨hA6,hI20,H⟩:=q5p H 3 hx5 hbb13
    refine q0b rfl rfl (q0h rfl ag3 rfl (hA6.cell0 rfl)) ((AZ) (CR ?_))
    obtain rfl:=sm hr
    exact⟨_,res1 rfl rfl rfl,H.ext0,rfl,hI20⟩
   refine K (R ((AZ) (CR ?_)))
   obtain rfl:=sm hr
   exact⟨_,res1 rfl rfl rfl,H.ext0,rfl,dI⟩
  refine (qO) ((qO) ((qO) ((qO) ((qO) ((qO) ((qO) ((qU) ?_)))))))
  refine QL.nil (fun w20 hE=>?_)
  have H:=H.ext hE
  refine (cF) (K (R ((AZ) (CR ?_))))
  obtain rfl:=sm hr
  exact⟨_,res1 rfl rfl rfl,H.ext0,rfl,dI⟩
 refine Y (R ((D 0) ((L H 2) ((B) ?_))))
 refine bb hr fun q6 hm5 hr=>?_
 refine WL.cut 8 (fun ρ' w=>∃ (s6:Bool),s6=q6∧q4R ρ' [(3,pB b1),(5,pB b3),(7,.slice A8 n8 c8),(131,.bool s6)]∧HL F0 [] w0 w d1 d2) ?_ ?_
 ·refine jD hm5 (fun _ hm5=>?_) fun _ hm5=>?_
  ·refine (G) ((D 2) ((G) ((L H 2) ((G) ((D 2) ((G) ((L H 1) ((G) ((NI H 5) fun hl4=>(G) ?_)))))))))
   refine bb hm5 fun y7 hy4 hm5=>?_
   refine (CA ok93 (q3u hy4 (F0:=nF) hI3 dI hl4)) (cE H fun w21 H=>(T) (Z ?_))
   obtain rfl:=sm hm5
   exact⟨y7,rfl,⟨rfl,rfl,rfl,rfl,trivial⟩,H.keep 9 4⟩
  refine (O) ((O) ((O) ((O) ((O) ((O) ((U) (Z ?_)))))))
  obtain rfl:=sm hm5
  exact⟨false,rfl,⟨rfl,rfl,rfl,rfl,trivial⟩,H.keep 9 4⟩
 rintro ρ' w22 ⟨s6,rfl,hag,H⟩
 obtain⟨σ,rfl⟩:=q4H hag
 refine (AZ) ?_
 refine bb hr fun q7 hm6 hr=>?_
 refine q0u (fun ρ' w=>∃ (s7:Bool),s7=q7∧q4R ρ' [(3,pB b1),(5,pB b3),(7,.slice A8 n8 c8),(120,.bool s7)]∧HL F0 [] w0 w d1 d2) ?_ ?_
 ·refine iB hm6 (fun _ hm6=>?_) fun _ hm6=>?_
  ·refine K ?_
   obtain rfl:=sm hm6
   exact⟨s6,rfl,⟨rfl,rfl,rfl,rfl,trivial⟩,H.keep 9 4⟩
  refine X ((D 0) ((L H 2) ((B) ((AZ) ?_))))
  obtain rfl:=sm hm6
  exact⟨(decide (a2.Kind=7)),rfl,⟨rfl,rfl,rfl,rfl,trivial⟩,H.keep 9 4⟩
 rintro ρ' w23 ⟨s7,rfl,hag,H⟩
 obtain⟨σ,rfl⟩:=q4H hag
 refine iB hr (fun _ hr=>?_) fun _ hr=>?_
 ·refine R ((AZ) (CR ?_))
  obtain rfl:=sm hr
  exact⟨_,res1 rfl rfl rfl,H.ext0,rfl,dI⟩
 refine R ((D 0) ((L H 2) ((B) ?_)))
 refine bb hr fun q8 hm7 hr=>?_
 refine WL.cut 5 (fun ρ' w=>∃ (s8:Bool),s8=q8∧q4R ρ' [(3,pB b1),(5,pB b3),(7,.slice A8 n8 c8),(143,.bool s8)]∧HL F0 [] w0 w d1 d2) ?_ ?_
 ·refine jD hm7 (fun _ hm7=>?_) fun _ hm7=>?_
  ·refine (G) ((V) ((G) ?_))
   have hl5:=(H.rO (i:=3) rfl).I
   refine (NN (ro H 3)) ((G) ((B) ((T) (Z ?_))))
   obtain rfl:=sm hm7
   exact⟨(decide ((s1.length:Int)=1)),rfl,⟨rfl,rfl,rfl,rfl,trivial⟩,H.keep 9 4⟩
  refine (O) ((O) ((O) ((U) (Z ?_))))
  obtain rfl:=sm hm7
  exact⟨false,rfl,⟨rfl,rfl,rfl,rfl,trivial⟩,H.keep 9 4⟩
 rintro ρ' w24 ⟨s8,rfl,hag,H⟩
 obtain⟨σ,rfl⟩:=q4H hag
 refine bb hr fun q9 hm8 hr=>?_
 refine WL.cut 6 (fun ρ' w=>∃ (s9:Bool),s9=q9∧q4R ρ' [(3,pB b1),(5,pB b3),(149,.bool s9)]∧HL F0 [] w0 w d1 d2) ?_ ?_
 ·refine jB hm8 (fun _ hm8=>?_) fun _ hm8=>?_
  ·refine (G) ((V) ((G) ?_))
   refine bb hm8 fun x7 hx7 hm8=>?_
   obtain⟨b14,cb14,hvb14,hbb14⟩:=po H 3 hx7
   refine (J 1 hvb14 hx7) ((G) ?_)
   obtain⟨hA7,hI21,H⟩:=q5p H 3 hx7 hbb14
   refine q0b rfl rfl (q0h rfl ag3 rfl (hA7.cell0 rfl)) ((G) ((B) ((T) (Z ?_))))
   obtain rfl:=sm hm8
   exact⟨(decide (x7=4)),rfl,⟨rfl,rfl,rfl,trivial⟩,H.keep 9 4⟩
  refine (O) ((O) ((O) ((O) ((U) (Z ?_)))))
  obtain rfl:=sm hm8
  exact⟨false,rfl,⟨rfl,rfl,rfl,trivial⟩,H.keep 9 4⟩
 rintro ρ' w25 ⟨s9,rfl,hag,H⟩
 obtain⟨σ,rfl⟩:=q4H hag
 refine (AZ) (iB hr (fun _ hr=>?_) fun _ hr=>?_)
 ·refine R ((LB H 0) ((D 4) ((L H 2) ?_)))
  obtain⟨⟨y8,y9⟩,hy5,hr⟩:=bd hr
  obtain⟨F,hF,hcl⟩:=H.call
  refine (CA j6o (q8e hy5 ⟨_,_,rfl,(hF.get (i:=3) rfl),(hF.get (i:=4) rfl)⟩ hS3)) ?_
  rintro _ w26 hE ⟨A11,n11,c11,rfl,hS8,H'⟩
  have H:HL F0 [] w0 w26 [.R a0 d4,.R a1 d3,.R a2 d5,d8,d9,d10,d7,d6,d11,.S y8.Attributes (.slice A11 n11 c11)] d2:=hcl H'
  refine (V) ((EX) ((EX) ((AH ze89 H) fun b15 w27 H=>(SB H 4) fun w28 H=>(A) (Z (R ((LB H 4) ((D 5) ((L H 2) ?_))))))))
  obtain⟨⟨y10,y11⟩,hy6,hr⟩:=bd hr
  refine (CA k0h (q9u hy6 ⟨_,rfl,hS8,(rs H 9)⟩ hS4)) ?_
  rintro _ w29 hE ⟨rfl,hS9,hI22,hI23⟩
  have H:=H.ext hE
  refine (V) ((EX) ((EX) ((AH ze91 H) fun b16 w30 H=>(SB H 5) fun w31 H=>(A) (Z (R ((D 1) ((L H 5) ((AZ) (CR ?_)))))))))
  obtain rfl:=sm hr
  exact⟨_,res1 rfl rfl rfl,H.ext0,rfl,hI22⟩
 refine K (R ((AZ) (CR ?_)))
 obtain rfl:=sm hr
 exact⟨_,res1 rfl rfl rfl,H.ext0,rfl,dI⟩
def q6W:Nat→Grammar→Rule→Expr→Option Int
  | 0,_,_,_=>none
  | n+1,a0,a1,a2=>z0G (q6W n) a0 a1 a2
def q8Q (a0:Grammar)(a1:Rule)(a2:Expr):Option Int:=recO fun n=>q6W n a0 a1 a2
theorem z9n (n:Nat):∀ {a0:Grammar} {a1:Rule} {a2:Expr} {r:Int},q6W n a0 a1 a2=some r→∀ {F0:Nat→Prop} {w0:World} {ca0} (ha0:rd F0 w0 a0 ca0) {ca1} (ha1:rd F0 w0 a1 ca1) {ca2} (ha2:rd F0 w0 a2 ca2),RT 160 #[ag ca0,ag ca1,ag ca2] w0 fun v w=>v = .int .i64 r∧I64 r:=by
 induction n with
 | zero=>intro a0 a1 a2 r hr; exact nomatch (show (none:Option Int)=some r from hr)
 | succ n ih=>intro a0 a1 a2 r hr; exact z9m ih hr
theorem q9S {a0}{a1}{a2}{r}(hr:q8Q a0 a1 a2=some r){ca0}(ha0:rd F0 w0 a0 ca0){ca1}(ha1:rd F0 w0 a1 ca1){ca2}(ha2:rd F0 w0 a2 ca2):RT 160 #[ag ca0,ag ca1,ag ca2] w0 fun v w=>v = .int .i64 r∧I64 r:=by
 obtain⟨n,hn⟩:=q4v hr
 exact z9n n hn ha0 ha1 ha2
def z7E (a0:Grammar)(a1:Rule):Nat→Equation→Unit→Option (Unit ⊕ Bool):=fun k1 x1 _=>(q7j a0 a1 x1.At).bind fun (y1,y2)=>(q8Q a0 a1 x1.Expr).bind fun y3=>if y3=y1.Type_ then some (.inl ()) else some (.inr true)
def z7F (a0:Grammar)(a1:Rule):Nat→Contribution→Unit→Option (Unit ⊕ Bool):=fun k2 x2 _=>(q6k a0 x2.Symbol).bind fun (y4,y5)=>(q6c y4 x2.Name).bind fun (y6,y7)=>(q8Q a0 a1 x2.Target).bind fun y8=>( if y8=4 then (q8Q a0 a1 x2.Value).bind fun y9=>some (!(decide (y9=2))) else some true ).bind fun s1=>( if s1=true then some true else some (!(decide (y6.Mode=3))) ).bind fun s2=>if s2=true then some (.inr true) else some (.inl ())
def z2W (a0:Grammar)(a1:Rule):Option Bool:=(q2u (z7E a0 a1) 0 a1.Equations ()).bind <| onr (fun r1=>some r1) fun _=>(q2u (z7F a0 a1) 0 a1.Contributions ()).bind <| onr (fun r2=>some r2) fun _=>some false
theorem j2r {a0}{a1}{r}(hr:z2W a0 a1=some r){ca0}(ha0:rd F0 w0 a0 ca0){ca1}(ha1:rd F0 w0 a1 ca1):RB 120 #[ag ca0,ag ca1] w0 r:=by
 have H:=((HL.start F0 w0).argR ha0).argR ha1
 obtain⟨A1,n1,c1,A2,n2,c2,rfl,H⟩:=q2s H 0
 let d8:Pr:=.S a0.Rules (.slice A2 n2 c2)
 let d7:Pr:=.S a0.Symbols (.slice A1 n1 c1)
 let d2:List Value:=[.slice A1 n1 c1,.slice A2 n2 c2]
 obtain⟨A3,n3,c3,A4,n4,c4,A5,n5,c5,rfl,hS1,hS2,H⟩:=q3j H 1
 let d9:Pr:=.S a1.Right (.slice A3 n3 c3)
 let d6:Pr:=.S a1.Equations (.slice A4 n4 c4)
 let d4:Pr:=.S a1.Contributions (.slice A5 n5 c5)
 let d1:=q4o a1 A3 n3 c3 A4 n4 c4 A5 n5 c5
 let d16:List Pr:=[.R a0 d2,.R a1 d1,d7,d8,d9,d6,d4]
 refine (En Tryz.func120) ?_
 refine R ((BX H) fun b1 w1 H=>(BX H) fun b2 w2 H=>(A) (Z (Y (R ((D 4) ((L H 1) ((NI H 5) fun hl1=>(V) (Z ?_))))))))
 let d15:It:=.B b1 35 d2
 refine bb hr fun q1 hq1 hr=>?_
 refine (lF hq1 (fun k1 _ _=>[(2,pB b1),(3,pB b2),(16,.slice A4 n4 c4),(17,zN a1.Equations.length),(18,zN k1)]) (fun _ _ w=>HL F0 [] w0 w d16 [d15,.B b2 62 d1]) ()) ?_
 rintro k1 _ _ σ w3 hk1 hq1 H
 refine R ((BZ) (Y ?_))
 refine q0e rfl (fun h1=>?_) (fun h1=>?_)
 ·have hk2:=q2G h1
  obtain⟨x1,z1,hx1,hb1,hs1,ht1⟩:=q3o hq1 hk2
  refine K (Y ?_)
  refine Bk (R ?_)
  obtain⟨b3,ob3,cb3,A6,n6,c6,hvb3,hI1,hS3,hI2,hI3,hI4,hI5,hS4,hS5,H⟩:=q3P H 5 hx1
  let d10:=q5Z x1 A6 n6 c6
  refine (J 9 hvb3 hx1) ((LA H 7) ((AH z9P H) fun b4 w4 H=>(SB H 2) fun w5 H=>Z (R ((LB H 0) ((LB H 1) ((D 0) ?_))))))
  refine q0b rfl rfl (q0c rfl z0l q3n rfl (Blk.part (rb H 2) 0 2) rfl) ?_
  obtain⟨⟨y1,y2⟩,hy1,hb1⟩:=bd hb1
  refine (CA k0g (z1g hy1 ⟨_,_,rfl,(rs H 2),(rs H 3)⟩ ⟨_,_,_,rfl,hS1,hS2,(rs H 4),(rs H 5),(rs H 6)⟩ ⟨rfl,hI1,hS3⟩)) ?_
  rintro _ w6 hE ⟨rfl,hS6,hI6,hI7⟩
  have H:=H.ext hE
  refine (V) ((EX) ((EX) ((AH ze91 H) fun b5 w7 H=>(SB H 3) fun w8 H=>(AZ) (Y ?_))))
  let d14:List It:=[d15,.B b2 62 d1,.B b4 138 d10,.B b5 91 (q3Z y1)]
  refine q0d hmix (by kernel_rfl) ?_
  refine (qLB H 0) ((qLB H 1) ((qD 2) ?_))
  refine q0i rfl rfl (fun _ hq=>q0c rfl q7L q5u rfl (Blk.part ((H.ext hq).rB (i:=2) rfl) 2 7) rfl) ?_
  refine bb hb1 fun y3 hy2 hb1=>?_
  refine (qC j8h (fun _ hq=>(q9S hy2 ⟨_,_,rfl,(rs (H.ext hq) 2),(rs (H.ext hq) 3)⟩ ⟨_,_,_,rfl,hS1,hS2,(rs (H.ext hq) 4),(rs (H.ext hq) 5),(rs (H.ext hq) 6)⟩ (q2r.2 ⟨_,rfl,hI2,hI3,hI4,hI5,hS4,hS5,(rs (H.ext hq) 9)⟩)).mono fun _ _ _ h=>h.1)) ?_
  obtain⟨_,_,_,hI8⟩:=(q9S hy2 ⟨_,_,rfl,(rs H 2),(rs H 3)⟩ ⟨_,_,_,rfl,hS1,hS2,(rs H 4),(rs H 5),(rs H 6)⟩ (q2r.2 ⟨_,rfl,hI2,hI3,hI4,hI5,hS4,hS5,(rs H 9)⟩)).get
  refine (qD 1) ((qL H 3) ((qB) ?_))
  refine QL.nil (fun w9 hE=>?_)
  have H:=H.ext hE
  refine iN hb1 (fun _ hb1=>?_) fun _ hb1=>?_
  ·refine Y ?_
   refine q0a [] trivial fun σ=>?_
   have H:HL F0 [] w0 w9 [.R a0 d2,.R a1 d1,d7,d8,d9,d6,d4,.A b3 (ob3+k1*9) d10,.R x1 d10,.S x1.Expr.Args (.slice A6 n6 c6)] d14:=H
   exact X ((AZ) (W2 hb1 ht1 hr))
  refine K ?_
  refine q0a [(2,pB b1),(3,pB b2),(16,.slice A4 n4 c4),(17,zN a1.Equations.length),(18,zN k1)] ⟨rfl,rfl,rfl,rfl,rfl,trivial⟩ fun σ=>?_
  have H:HL F0 [] w0 w9 [.R a0 d2,.R a1 d1,d7,d8,d9,d6,d4,.A b3 (ob3+k1*9) d10,.R x1 d10,.S x1.Expr.Args (.slice A6 n6 c6)] d14:=H
  exact X ((AN hk2 hl1) ((V) (Z (I2 hb1 hs1 ⟨k1+1,(),()⟩))))
 obtain rfl:=q2M hq1 (q2t h1)
 have hr:=(q2S _ _ _).symm.trans hr
 refine CE (Y (R ((D 5) ((L H 1) ((NI H 6) fun hl2=>(V) (Z ?_))))))
 refine bb hr fun q2 hq2 hr=>?_
 refine (lF hq2 (fun k2 _ _=>[(2,pB b1),(3,pB b2),(40,.slice A5 n5 c5),(41,zN a1.Contributions.length),(42,zN k2)]) (fun _ _ w=>HL F0 [] w0 w d16 [d15,.B b2 62 d1]) ()) ?_
 rintro k2 _ _ σ w10 hk3 hq2 H
 refine R ((BZ) (Y ?_))
 refine q0e rfl (fun h3=>?_) (fun h3=>?_)
 ·have hk4:=q2G h3
  obtain⟨x2,z2,hx2,hb2,hs2,ht2⟩:=q3o hq2 hk4
  refine K (Y ?_)
  refine Bk (R ?_)
  obtain⟨b6,ob6,cb6,A7,n7,c7,A8,n8,c8,hvb6,hS7,hS8,hI9,hI10,hI11,hI12,hS9,hS10,hI13,hI14,hI15,hI16,hS11,hS12,H⟩:=q3V H 6 hx2
  let d12:Pr:=.S x2.Value.Args (.slice A8 n8 c8)
  let d11:Pr:=.S x2.Target.Args (.slice A7 n7 c7)
  let d3:=q4u x2 A7 n7 c7 A8 n8 c8
  refine (J 16 hvb6 hx2) ((LA H 7) ((AH j1Y H) fun b7 w11 H=>(SB H 2) fun w12 H=>Z (R ((LB H 0) ((D 0) ((L H 2) ?_))))))
  obtain⟨⟨y4,y5⟩,hy3,hb2⟩:=bd hb2
  obtain⟨F,hF,hcl⟩:=H.call
  refine (CA j6o (q8e hy3 ⟨_,_,rfl,(hF.get (i:=2) rfl),(hF.get (i:=3) rfl)⟩ hS7)) ?_
  rintro _ w13 hE ⟨A9,n9,c9,rfl,hS13,H'⟩
  let d13:Pr:=.S y4.Attributes (.slice A9 n9 c9)
  have H:HL F0 [] w0 w13 [.R a0 d2,.R a1 d1,d7,d8,d9,d6,d4,.A b6 (ob6+k2*16) d3,.R x2 d3,d11,d12,d13] [d15,.B b2 62 d1,.B b7 190 d3]:=hcl H'
  refine (V) ((EX) ((EX) ((AH ze89 H) fun b8 w14 H=>(SB H 3) fun w15 H=>(A) (Z (R ((LB H 3) ((D 1) ((L H 2) ?_))))))))
  obtain⟨⟨y6,y7⟩,hy4,hb2⟩:=bd hb2
  refine (CA k0h (q9u hy4 ⟨_,rfl,hS13,(rs H 11)⟩ hS8)) ?_
  rintro _ w16 hE ⟨rfl,hS14,hI17,hI18⟩
  have H:=H.ext hE
  refine (V) ((EX) ((EX) ((AH ze91 H) fun b9 w17 H=>(SB H 4) fun w18 H=>(AZ) (Y ?_))))
  let d5:List It:=[d15,.B b2 62 d1,.B b7 190 d3,.B b8 89 [.string y4.Name,.slice A9 n9 c9],.B b9 91 (q3Z y6)]
  refine q0a [(2,pB b1),(3,pB b2),(10,pB b7),(13,pB b9),(40,.slice A5 n5 c5),(41,zN a1.Contributions.length),(42,zN k2)] ⟨rfl,rfl,rfl,rfl,rfl,rfl,rfl,trivial⟩ fun σ=>?_
  have H:HL F0 [] w0 w18 [.R a0 d2,.R a1 d1,d7,d8,d9,d6,d4,.A b6 (ob6+k2*16) d3,.R x2 d3,d11,d12,d13] d5:=H
  refine X ((LB H 0) ((LB H 1) ((D 2) ?_)))
  refine q0b rfl rfl (q0c rfl q7L q5u rfl (Blk.part (rb H 2) 2 7) rfl) ?_
  refine bb hb2 fun y8 hy5 hb2=>?_
  refine (CA j8h (q9S hy5 ⟨_,_,rfl,(rs H 2),(rs H 3)⟩ ⟨_,_,_,rfl,hS1,hS2,(rs H 4),(rs H 5),(rs H 6)⟩ (q2r.2 ⟨_,rfl,hI9,hI10,hI11,hI12,hS9,hS10,(rs H 9)⟩))) (cF' H fun w19 hI19 H=>(B) ?_)
  refine bb hb2 fun q3 hm1 hb2=>?_
  refine cu H 8 [(2,pB b1),(3,pB b2),(13,pB b9),(40,.slice A5 n5 c5),(41,zN a1.Contributions.length),(42,zN k2),(73,.bool q3)] [.R a0 d2,.R a1 d1,d7,d8,d9,d6,d4,.A b6 (ob6+k2*16) d3,.R x2 d3,d11,d12,d13] d5 ?_ fun σ w21 H=>?_
  ·refine jN hm1 (fun _ hm1=>?_) fun _ hm1=>?_
   ·exact OF hm1
   refine (G) ((LB H 0) ((G) ((LB H 1) ((G) ((D 9) ((G) ?_))))))
   refine q0b rfl rfl (q0c rfl q7L q5u rfl (Blk.part (rb H 2) 9 7) rfl) ((G) ?_)
   refine bb hm1 fun y9 hy6 hm1=>?_
   exact (CA j8h (q9S hy6 ⟨_,_,rfl,(rs H 2),(rs H 3)⟩ ⟨_,_,_,rfl,hS1,hS2,(rs H 4),(rs H 5),(rs H 6)⟩ (q2r.2 ⟨_,rfl,hI13,hI14,hI15,hI16,hS11,hS12,(rs H 10)⟩))) (cF' H fun w20 hI20 H=>(G) ((B) ((U) (Z (C1 hm1)))))
  refine bb hb2 fun q4 hm2 hb2=>?_
  refine cu H 5 [(2,pB b1),(3,pB b2),(40,.slice A5 n5 c5),(41,zN a1.Contributions.length),(42,zN k2),(78,.bool q4)] [.R a0 d2,.R a1 d1,d7,d8,d9,d6,d4,.A b6 (ob6+k2*16) d3,.R x2 d3,d11,d12,d13] d5 ?_ fun σ w22 H=>?_
  ·refine jB hm2 (fun _ hm2=>?_) fun _ hm2=>?_
   ·exact OF hm2
   exact (G) ((D 2) ((G) ((L H 4) ((G) ((B) ((U) (Z (C1 hm2))))))))
  refine Z (iB hb2 (fun _ hb2=>?_) fun _ hb2=>?_)
  ·exact R ((AZ) (W2 hb2 ht2 hr))
  exact K (X ((AN hk4 hl2) ((V) (Z (I2 hb2 hs2 ⟨k2+1,(),()⟩)))))
 obtain rfl:=q2M hq2 (q2t h3)
 have hr:=(q2S _ _ _).symm.trans hr
 exact CE (R ((AZ) (W1 hr)))
def z6s (a0:ByteArray)(a2:(List Int)):Nat→Symbol→Unit→Option (Unit ⊕ Int):=fun k1 x1 _=>if x1.Name=a0 then (a2[k1]?).bind fun x2=>some (.inr x2) else some (.inl ())
def z1K (a0:ByteArray)(a1:Grammar)(a2:(List Int)):Option Int:=(q2u (z6s a0 a2) 0 a1.Symbols ()).bind <| onr (fun r1=>some r1) fun _=>some 0
theorem j1s {a0}{a1}{a2}{r}(hr:z1K a0 a1 a2=some r)(ha0:a0.size≤9223372036854775807){b1p:Nat}(ha1:CapP F0 w0 b1p a1){b2p:Nat}(ha2:CapP F0 w0 b2p a2):RT 162 #[.string a0,pB b1p,pB b2p] w0 fun v w=>v = .int .i64 r∧I64 r:=by
 have H:=HL.start F0 w0
 obtain⟨cpa1,H⟩:=H.argP ha1
 obtain⟨A1,n1,c1,A2,n2,c2,rfl,H⟩:=q2s H 1
 obtain⟨cpa2,H⟩:=H.argP ha2
 obtain⟨A3,n3,c3,rfl,H⟩:=k2c H 5
 refine (En Tryz.func162) ?_
 refine R ((A) (Z (Y (R ((D 0) ((LC H 0) ((NI H 2) fun hl1=>(V) (Z ?_))))))))
 refine bb hr fun q1 hq1 hr=>?_
 refine (lF hq1 (fun k1 _ _=>[(0,.string a0),(2,pB b2p),(8,.slice A1 n1 c1),(9,zN a1.Symbols.length),(10,zN k1)]) (fun _ _ w=>HL F0 [] w0 w [.A b1p 0 [.slice A1 n1 c1,.slice A2 n2 c2],.R a1 [.slice A1 n1 c1,.slice A2 n2 c2],.S a1.Symbols (.slice A1 n1 c1),.S a1.Rules (.slice A2 n2 c2),.A b2p 0 [.slice A3 n3 c3],.R a2 [.slice A3 n3 c3],.S a2 (.slice A3 n3 c3)] []) ()) ?_
 rintro k1 _ _ σ w1 hk1 hq1 H
 refine R ((BZ) (Y ?_))
 refine q0e rfl (fun h1=>?_) (fun h1=>?_)
 ·have hk2:=q2G h1
  obtain⟨x1,z1,hx1,hb1,hs1,ht1⟩:=q3o hq1 hk2
  refine K (Y ?_)
  refine Bk (R ((V) ?_))
  obtain⟨b1,ob1,cb1,A4,n4,c4,hvb1,hS1,H⟩:=q4g H 2 hx1
  refine (J 2 hvb1 hx1) ((LA H 7) ((AH ze89 H) fun b2 w2 H=>(A) ((SB H 0) fun w3 H=>Z (R ((D 0) ((L H 0) ((V) ((BZ) (iD hb1 (fun _ hb1=>?_) fun _ hb1=>?_)))))))))
  ·refine R ((L0 H 4) ((V) ?_))
   refine bb hb1 fun x2 hx2 hb1=>?_
   obtain⟨b3,ob3,cb3,hvb3,hI1,H⟩:=z6M H 6 hx2
   exact (J 1 hvb3 hx2) ((L0 H 10) ((AZ) (W2 hb1 ht1 hr)))
  exact K (X ((AN hk2 hl1) ((V) (Z (I2 hb1 hs1 ⟨k1+1,(),()⟩)))))
 obtain rfl:=q2M hq1 (q2t h1)
 have hr:=(q2S _ _ _).symm.trans hr
 exact CE (R ((AZ) (W1 hr)))
def z5v (a0:Grammar)(s2:List Int):Nat→ByteArray→Bool→Option Bool:=fun k3 x4 s8=>( if s8=true then (z1K x4 a0 s2).bind fun y1=>some (decide (0 < y1)) else some false ).bind fun s9=>some s9
def z2X (a0:Grammar)(s2:List Int)(s3:Int)(k1:Nat)(x1:Symbol):Nat→Rule→(List Int)→Option (List Int):=fun k2 x3 s6=>( (q2J (z5v a0 s2) 0 x3.Right (decide (x3.Left=x1.Name))).bind fun s8=>if s8=true then (s6[k1]?).bind fun x5=>some (List.set s6 k1 s3) else some s6 ).bind fun s7=>some s7
def z2Y (a0:Grammar)(s2:List Int)(s3:Int):Nat→Symbol→(List Int)→Option (List Int):=fun k1 x1 s4=>( (s2[k1]?).bind fun x2=>if 0 < x2 then some s4 else (q2J (z2X a0 s2 s3 k1 x1) 0 a0.Rules s4).bind fun s6=>some s6 ).bind fun s5=>some s5
def q9v (a0:Grammar):((List Int) × Int)→Option (((List Int) × Int) ⊕ (List Int)):=fun (s2,s3)=>if s3≤(a0.Symbols.length:Int) then grd (0≤(s2.length:Int)∧(s2.length:Int)*8≤281474976710656∧(s2.length:Int)≤9223372036854775807) <| grd (s2.length=(List.replicate s2.length (0:Int)).length) <| (q2J (z2Y a0 s2 s3) 0 a0.Symbols s2).bind fun s4=>grd (I64 (s3+1)) <| some (.inl (s4,(s3+1))) else some (.inr s2)
def z2s (a0:Grammar):Option (List Int):=grd (0≤(a0.Symbols.length:Int)∧(a0.Symbols.length:Int)*8≤281474976710656∧(a0.Symbols.length:Int)≤9223372036854775807) <| ( q7k (q9v a0) ((List.replicate a0.Symbols.length (0:Int)),1) ).bind fun s1=>some s1
theorem j3I {a0}{r}(hr:z2s a0=some r){ca0}(ha0:rd F0 w0 a0 ca0):RT 121 #[ag ca0] w0 fun v w=>∃ A0 n0 c0,v=(.slice A0 n0 c0)∧HL F0 [] w0 w [] [.O 3 r (.slice A0 n0 c0)]:=by
 have H:=(HL.start F0 w0).argR ha0
 obtain⟨A1,n1,c1,A2,n2,c2,rfl,H⟩:=q2s H 0
 let d8:Pr:=.S a0.Rules (.slice A2 n2 c2)
 let d6:Pr:=.S a0.Symbols (.slice A1 n1 c1)
 let d1:List Value:=[.slice A1 n1 c1,.slice A2 n2 c2]
 let d3:List Pr:=[.R a0 d1,d6,d8]
 refine (En Tryz.func121) ?_
 refine R ((BX H) fun b1 w1 H=>(A) (Z (R ((D 0) ((L H 0) ((NI H 1) fun hl1=>?_))))))
 let d10:It:=.B b1 35 d1
 refine gg hr fun hg1 hr=>?_
 refine q0B (x:=(0:Int)) rfl rfl rfl el94 sz3 by3 ze3 (fun _=>⟨rfl,rfl,dI⟩) rfl rfl hg1 H fun A3 n3 c3 w2 H=>(AH ze94 H) fun b2 w3 H=>(SB H 2) fun w4 H=>Z (R ?_)
 refine q0b rfl rfl (q0q rfl rfl rfl) ((A) (Z (Y (R ((AZ) ?_)))))
 refine bb hr fun q1 hm1 hr=>?_
 refine q0u (fun ρ' w=>∃ (s1:List Int) (v1:Value),s1=q1∧q4R ρ' [(3,pB b2)]∧HL F0 [] w0 w d3 [d10,.O 3 s1 v1,.B b2 94 [v1]]) ?_ ?_
 ·obtain⟨m1,hq1⟩:=q5g.1 hm1
  refine (lI hq1 (fun m1 ⟨s2,s3⟩ v2=>[(1,pB b1),(3,pB b2),(4,.func (.func 162) #[] #[pB b1,pB b2]),(5,.int .i64 s3)]) (fun ⟨s2,s3⟩ v2 w=>I64 s3∧HL F0 [] w0 w d3 [d10,.O 3 s2 v2,.B b2 94 [v2]]) (.slice A3 n3 c3)) ?_
  rintro m1 ⟨s2,s3⟩ v2 σ w5 hq1 ⟨hI1,H⟩
  obtain⟨A4,n4,c4,rfl⟩:=(fo H 1)
  let d7:It:=.O 3 s2 (.slice A4 n4 c4)
  let d5:It:=.B b2 94 [.slice A4 n4 c4]
  obtain⟨m2,z1,rfl,hb1,hs1,ht1⟩:=q8B hq1
  refine Y (R ((V) ((D 0) ((L H 0) ((NN (rs H 1)) ((BZ) (iD hb1 (fun _ hb1=>?_) fun _ hb1=>?_)))))))
  ·refine K (Y ?_)
   refine Bk (R ((L H 2) ?_))
   have hl2:=(H.rO (i:=1) rfl).I
   refine (NN (ro H 1)) ?_
   refine gg hb1 fun hg2 hb1=>?_
   refine q0B (x:=(0:Int)) rfl rfl rfl el94 sz3 by3 ze3 (fun _=>⟨rfl,rfl,dI⟩) rfl rfl hg2 H fun A5 n5 c5 w6 H=>(A) (Z (R ((V) ((L H 2) ?_))))
   refine gg hb1 fun hg3 hb1=>?_
   refine q2o (i:=3) rfl rfl rfl el94 sz3 rfl rfl H rfl (ro H 1) hg3 fun w7 H=>Z (Y (R ((D 0) ((L H 0) ((NN (rs H 1)) ((V) (Z ?_)))))))
   refine bb hb1 fun q2 hq2 hb1=>?_
   refine (lE hq2 (fun k1 s4 _=>[(1,pB b1),(3,pB b2),(4,.func (.func 162) #[] #[pB b1,pB b2]),(5,.int .i64 s3),(6,.slice A5 n5 c5),(33,.slice A1 n1 c1),(34,zN a0.Symbols.length),(35,zN k1)]) (fun s4 _ w=>HL F0 [] w0 w d3 [d10,d7,d5,.O 3 s4 (.slice A5 n5 c5)]) ()) ?_
   rintro k1 s4 _ σ w8 hk1 hq2 H
   refine R ((BZ) (Y ?_))
   refine q0e rfl (fun h2=>?_) (fun h2=>?_)
   ·have hk2:=q2G h2
    obtain⟨x1,z2,hx1,hb2,hq2⟩:=q8k hq2 hk2
    refine K ?_
    refine bb hb2 fun q3 hm2 hb2=>?_
    refine CW.seq (cm H [(1,pB b1),(3,pB b2),(4,.func (.func 162) #[] #[pB b1,pB b2]),(5,.int .i64 s3),(6,.slice A5 n5 c5),(33,.slice A1 n1 c1),(34,zN a0.Symbols.length),(35,zN k1)] d3 [d10,d7,d5,.O 3 q3 (.slice A5 n5 c5)] ?_ fun σ w19 H=>?_)
    ·refine Bk (R ((V) ?_))
     obtain⟨b3,ob3,cb3,A6,n6,c6,hvb3,hS1,H⟩:=q4g H 1 hx1
     let d9:Pr:=.S x1.Attributes (.slice A6 n6 c6)
     let d2:List Value:=[.string x1.Name,.slice A6 n6 c6]
     refine (J 2 hvb3 hx1) ((LA H 3) ((AH ze89 H) fun b4 w9 H=>(A) ((SB H 4) fun w10 H=>Z (Y (R ((L H 2) ((V) ?_)))))))
     refine bb hm2 fun x2 hx2 hm2=>?_
     let d11:Pr:=.R x2 [.int .i64 x2]
     obtain⟨b5,cb5,hvb5,hbb5⟩:=po H 1 hx2
     refine (J 1 hvb5 hx2) ?_
     obtain⟨hA1,hI2,H⟩:=q5p H 1 hx2 hbb5
     refine q0b rfl rfl (q0h rfl ag3 rfl (hA1.cell0 rfl)) ((BZ) (iD hm2 (fun _ hm2=>?_) fun _ hm2=>?_))
     ·exact CE (C1 hm2)
     refine K (R ((D 1) ((L H 0) ((NI H 2) fun hl3=>(V) (Z ?_)))))
     refine bb hm2 fun q4 hq3 hm2=>?_
     refine (lE hq3 (fun k2 s6 _=>[(1,pB b1),(3,pB b2),(4,.func (.func 162) #[] #[pB b1,pB b2]),(5,.int .i64 s3),(6,.slice A5 n5 c5),(7,zN k1),(8,pB b4),(33,.slice A1 n1 c1),(34,zN a0.Symbols.length),(35,zN k1),(46,.slice A2 n2 c2),(47,zN a0.Rules.length),(48,zN k2)]) (fun s6 _ w=>HL F0 [] w0 w [.R a0 d1,d6,d8,.A b3 (ob3+k1*2) d2,.R x1 d2,d9,d11] [d10,d7,d5,.O 3 s6 (.slice A5 n5 c5),.B b4 89 d2]) ()) ?_
     rintro k2 s6 _ σ w11 hk3 hq3 H
     refine R ((BZ) (Y ?_))
     refine q0e rfl (fun h4=>?_) (fun h4=>?_)
     ·have hk4:=q2G h4
      obtain⟨x3,z3,hx3,hb3,hq3⟩:=q8k hq3 hk4
      refine K ?_
      refine bb hb3 fun q5 hm3 hb3=>?_
      refine CW.seq (cm H [(1,pB b1),(3,pB b2),(4,.func (.func 162) #[] #[pB b1,pB b2]),(5,.int .i64 s3),(6,.slice A5 n5 c5),(7,zN k1),(8,pB b4),(33,.slice A1 n1 c1),(34,zN a0.Symbols.length),(35,zN k1),(46,.slice A2 n2 c2),(47,zN a0.Rules.length),(48,zN k2)] [.R a0 d1,d6,d8,.A b3 (ob3+k1*2) d2,.R x1 d2,d9,d11] [d10,d7,d5,.O 3 q5 (.slice A5 n5 c5),.B b4 89 d2] ?_ fun σ w18 H=>?_)
      ·refine Bk (R ?_)
       obtain⟨b6,ob6,cb6,A7,n7,c7,A8,n8,c8,A9,n9,c9,hvb6,hS2,hS3,H⟩:=q6N H 2 hx3
       let d4:=q4o x3 A7 n7 c7 A8 n8 c8 A9 n9 c9
       refine (J 6 hvb6 hx3) ((LA H 7) ((AH ze62 H) fun b7 w12 H=>(SB H 5) fun w13 H=>Z (R ((D 1) ((L H 5) ((D 0) ((L H 4) ((B) ((A) (Z (Y (R ((D 2) ((L H 5) ((NI H 9) fun hl4=>(V) (Z ?_))))))))))))))))
       refine bb hm3 fun q6 hq4 hm3=>?_
       refine (lE hq4 (fun k3 s8 _=>[(1,pB b1),(3,pB b2),(4,.func (.func 162) #[] #[pB b1,pB b2]),(5,.int .i64 s3),(6,.slice A5 n5 c5),(7,zN k1),(8,pB b4),(11,.bool s8),(33,.slice A1 n1 c1),(34,zN a0.Symbols.length),(35,zN k1),(46,.slice A2 n2 c2),(47,zN a0.Rules.length),(48,zN k2),(58,.slice A7 n7 c7),(59,zN x3.Right.length),(60,zN k3)]) (fun s8 _ w=>HL F0 [] w0 w [.R a0 d1,d6,d8,.A b3 (ob3+k1*2) d2,.R x1 d2,d9,d11,.A b6 (ob6+k2*6) d4,.R x3 d4,.S x3.Right (.slice A7 n7 c7),.S x3.Equations (.slice A8 n8 c8),.S x3.Contributions (.slice A9 n9 c9)] [d10,d7,d5,.O 3 s6 (.slice A5 n5 c5),.B b4 89 d2,.B b7 62 d4]) ()) ?_
       rintro k3 s8 _ σ w14 hk5 hq4 H
       refine R ((BZ) (Y ?_))
       refine q0e rfl (fun h5=>?_) (fun h5=>?_)
       ·have hk6:=q2G h5
        obtain⟨x4,z4,hx4,hb4,hq4⟩:=q8k hq4 hk6
        refine K ?_
        refine bb hb4 fun q7 hm4 hb4=>?_
        refine CW.seq (cm H [(1,pB b1),(3,pB b2),(4,.func (.func 162) #[] #[pB b1,pB b2]),(5,.int .i64 s3),(6,.slice A5 n5 c5),(7,zN k1),(8,pB b4),(11,.bool q7),(33,.slice A1 n1 c1),(34,zN a0.Symbols.length),(35,zN k1),(46,.slice A2 n2 c2),(47,zN a0.Rules.length),(48,zN k2),(58,.slice A7 n7 c7),(59,zN x3.Right.length),(60,zN k3)] [.R a0 d1,d6,d8,.A b3 (ob3+k1*2) d2,.R x1 d2,d9,d11,.A b6 (ob6+k2*6) d4,.R x3 d4,.S x3.Right (.slice A7 n7 c7),.S x3.Equations (.slice A8 n8 c8),.S x3.Contributions (.slice A9 n9 c9)] [d10,d7,d5,.O 3 s6 (.slice A5 n5 c5),.B b4 89 d2,.B b7 62 d4] ?_ fun σ w16 H=>?_)
        ·refine Bk (R ?_)
         obtain⟨b8,ob8,cb8,hvb8,hS4,H⟩:=q7l H 9 hx4
         refine (J 1 hvb8 hx4) ((L0 H 12) ((A) (Z (X ((V) (jB hm4 (fun _ hm4=>?_) fun _ hm4=>?_))))))
         ·refine (G) ((V) ((G) ((V) ((G) ?_))))
          refine bb hm4 fun y1 hy1 hm4=>?_
          exact (CA k3c (j1s hy1 (F0:=fun q=>q < _) hS4 ⟨(rb H 0).lt,_,At.blk (rb H 0),⟨_,_,rfl,(rs H 1),(rs H 2)⟩⟩ ⟨(rb H 2).lt,_,At.blk (rb H 2),⟨_,rfl,(ro H 1)⟩⟩)) (cF' H fun w15 hI3 H=>(G) ((B) ((T) ((AZ) (C1 hm4)))))
         exact (O) ((O) ((O) ((O) ((U) ((AZ) (C1 hm4))))))
        exact X ((AN hk6 hl4) ((V) (Z (I1 hb4 ⟨k3+1,q7,()⟩))))
       obtain rfl:=q6Z hq4 (q2t h5)
       refine CE (R ((V) (Z (iB hm3 (fun _ hm3=>?_) fun _ hm3=>?_))))
       ·refine X ((V) ((V) ((V) ?_)))
        refine bb hm3 fun x5 hx5 hm3=>?_
        obtain⟨b9,cb9,hvb9,hbb9⟩:=po H 3 hx5
        refine (J 1 hvb9 hx5) ?_
        exact q0G (i:=3) (z:=s3) rfl rfl rfl sz3 rfl rfl rfl (fun _=>⟨rfl,rfl,hI1⟩) H rfl hbb9 (by simpa using q4G hx5) fun w17 H=>Z (C1 hm3)
       exact K (C1 hm3)
      exact X ((AN hk4 hl3) ((V) (Z (I1 hb3 ⟨k2+1,q5,()⟩))))
     obtain rfl:=q6Z hq3 (q2t h4)
     exact CE (C1 hm2)
    exact X ((AN hk2 hl1) ((V) (Z (I1 hb2 ⟨k1+1,q3,()⟩))))
   obtain rfl:=q6Z hq2 (q2t h2)
   refine CE (X ((V) ((SB H 2) fun w20 H=>Z (X ((V) ?_)))))
   refine gg hb1 fun hg4 hb1=>(BN (Bin.add hg4)) ((AZ) ?_)
   have H:=H.swap 1 3
   exact I2 hb1 hs1 ⟨m2,⟨s4,(s3+1)⟩,(.slice A5 n5 c5)⟩
  exact CE (C2 hb1 ht1)
 rintro ρ' w21 ⟨s1,v1,rfl,hag,H⟩
 obtain⟨σ,rfl⟩:=q4H hag
 obtain⟨A10,n10,c10,rfl⟩:=(fo H 1)
 exact R ((L H 2) ((AZ) (W1 hr)))
def z3m (a0:Grammar):Nat→Rule→Unit→Option (Unit ⊕ (Int × Int)):=fun k1 x1 _=>(z2W a0 x1).bind fun y3=>if y3=true then some (.inr (7,(k1:Int))) else some (.inl ())
def z3n:Nat→Int→Unit→Option (Unit ⊕ (Int × Int)):=fun k2 x2 _=>if x2=0 then some (.inr (8,(k2:Int))) else some (.inl ())
def q8R (a0:Grammar):Option (Int × Int):=(z0F a0).bind fun (y1,y2)=>if y1=0 then (q2u (z3m a0) 0 a0.Rules ()).bind <| onr (fun r1=>some r1) fun _=>(z2s a0).bind fun y4=>(q2u z3n 0 y4 ()).bind <| onr (fun r2=>some r2) fun _=>some (0,0) else some (y1,y2)
theorem z8d {a0}{r}(hr:q8R a0=some r){ca0}(ha0:rd F0 w0 a0 ca0):RT 81 #[ag ca0] w0 fun v w=>v = .tuple #[.int .i64 r.1,.int .i64 r.2]∧I64 r.1∧I64 r.2:=by
 have H:=(HL.start F0 w0).argR ha0
 obtain⟨A1,n1,c1,A2,n2,c2,rfl,H⟩:=q2s H 0
 let d2:List Value:=[.slice A1 n1 c1,.slice A2 n2 c2]
 let d1:List Pr:=[.R a0 d2,.S a0.Symbols (.slice A1 n1 c1),.S a0.Rules (.slice A2 n2 c2)]
 refine (En Tryz.func81) ?_
 refine R ((BX H) fun b1 w1 H=>(A) ((A) (Z (Y (R ((LB H 0) ?_))))))
 obtain⟨⟨y1,y2⟩,hy1,hr⟩:=bd hr
 refine (CA k2D (j0i hy1 ⟨_,_,rfl,(rs H 1),(rs H 2)⟩)) ?_
 rintro _ w2 hE ⟨rfl,hI1,hI2⟩
 have H:=H.ext hE
 refine (V) ((EX) ((EX) ((A) ((A) (Z (R ((V) ((BZ) (iN hr (fun _ hr=>?_) fun _ hr=>?_)))))))))
 ·exact R ((V) ((V) ((A) ((AZ) (W1 hr)))))
 refine K (Y (R ((D 1) ((L H 0) ((NI H 2) fun hl1=>(V) (Z ?_))))))
 refine bb hr fun q1 hq1 hr=>?_
 refine (lF hq1 (fun k1 _ _=>[(1,pB b1),(20,.slice A2 n2 c2),(21,zN a0.Rules.length),(22,zN k1)]) (fun _ _ w=>HL F0 [] w0 w d1 [.B b1 35 d2]) ()) ?_
 rintro k1 _ _ σ w3 hk1 hq1 H
 refine R ((BZ) (Y ?_))
 refine q0e rfl (fun h2=>?_) (fun h2=>?_)
 ·have hk2:=q2G h2
  obtain⟨x1,z1,hx1,hb1,hs1,ht1⟩:=q3o hq1 hk2
  refine K (Y ?_)
  refine Bk (R ((V) ?_))
  obtain⟨b2,ob2,cb2,A3,n3,c3,A4,n4,c4,A5,n5,c5,hvb2,hS1,hS2,H⟩:=q6N H 2 hx1
  refine (J 6 hvb2 hx1) ((LA H 3) ((AH ze62 H) fun b3 w4 H=>(A) ((SB H 1) fun w5 H=>Z (R ((LB H 0) ((LB H 1) ?_))))))
  refine bb hb1 fun y3 hy2 hb1=>?_
  refine (CA k2E (j2r hy2 ⟨_,_,rfl,(rs H 1),(rs H 2)⟩ ⟨_,_,_,rfl,hS1,hS2,(rs H 5),(rs H 6),(rs H 7)⟩)) (cE H fun w6 H=>Z (iB hb1 (fun _ hb1=>?_) fun _ hb1=>?_))
  ·exact R ((V) ((A) ((AZ) (W2 hb1 ht1 hr))))
  exact K (X ((AN hk2 hl1) ((V) (Z (I2 hb1 hs1 ⟨k1+1,(),()⟩)))))
 obtain rfl:=q2M hq1 (q2t h2)
 have hr:=(q2S _ _ _).symm.trans hr
 refine CE (Y (R ((LB H 0) ?_)))
 refine bb hr fun y4 hy3 hr=>?_
 refine (CA k2F (j3I hy3 ⟨_,_,rfl,(rs H 1),(rs H 2)⟩)) ?_
 rintro _ w7 hE ⟨A6,n6,c6,rfl,H'⟩
 have H:=H.callA H' tv
 have hl2:=(H.rO (i:=1) rfl).I
 refine (NN (ro H 1)) ((V) (Z ?_))
 refine bb hr fun q2 hq2 hr=>?_
 refine (lF hq2 (fun k2 _ _=>[(33,.slice A6 n6 c6),(34,zN y4.length),(35,zN k2)]) (fun _ _ w=>HL F0 [] w0 w d1 [.B b1 35 d2,.O 3 y4 (.slice A6 n6 c6)]) ()) ?_
 rintro k2 _ _ σ w8 hk3 hq2 H
 refine R ((BZ) (Y ?_))
 refine q0e rfl (fun h4=>?_) (fun h4=>?_)
 ·have hk4:=q2G h4
  obtain⟨x2,z2,hx2,hb2,hs2,ht2⟩:=q3o hq2 hk4
  refine K (Y ?_)
  refine Bk (R ((V) ?_))
  obtain⟨b4,cb4,hvb4,hbb4⟩:=po H 1 hx2
  refine (J 1 hvb4 hx2) ?_
  obtain⟨hA1,hI3,H⟩:=q5p H 1 hx2 hbb4
  refine q0b rfl rfl (q0h rfl ag3 rfl (hA1.cell0 rfl)) ((A) ((A) (Z (R ((V) ((BZ) (iD hb2 (fun _ hb2=>?_) fun _ hb2=>?_)))))))
  ·exact R ((V) ((A) ((AZ) (W2 hb2 ht2 hr))))
  exact K (X ((AN hk4 hl2) ((V) (Z (I2 hb2 hs2 ⟨k2+1,(),()⟩)))))
 obtain rfl:=q2M hq2 (q2t h4)
 have hr:=(q2S _ _ _).symm.trans hr
 exact CE (R ((A) ((AZ) (W1 hr))))
def z2Z (a0:Grammar):Option Bool:=(q8R a0).bind fun (y1,y2)=>some (decide (y1=0))
theorem j2s {a0}{r}(hr:z2Z a0=some r){ca0}(ha0:rd F0 w0 a0 ca0):RB 49 #[ag ca0] w0 r:=by
 have H:=(HL.start F0 w0).argR ha0
 obtain⟨A1,n1,c1,A2,n2,c2,rfl,H⟩:=q2s H 0
 refine (En Tryz.func49) ?_
 refine R ((BX H) fun b1 w1 H=>(A) (Z (R ((LB H 0) ?_))))
 obtain⟨⟨y1,y2⟩,hy1,hr⟩:=bd hr
 refine (CA ok81 (z8d hy1 ⟨_,_,rfl,(rs H 1),(rs H 2)⟩)) ?_
 rintro _ w2 hE ⟨rfl,hI1,hI2⟩
 have H:=H.ext hE
 exact (V) ((EX) ((EX) ((A) ((A) (Z (R ((V) ((B) ((AZ) (W1 hr))))))))))
def z2c (a0:Expr):Option Bool:=some (!(decide (a0.Kind=8)))
theorem z9o {a0}{r}(hr:z2c a0=some r){ca0}(ha0:rd F0 w0 a0 ca0):RB 125 #[ag ca0] w0 r:=by
 have H:=(HL.start F0 w0).argR ha0
 obtain⟨A1,n1,c1,rfl,hI1,hI2,hI3,hI4,hS1,hS2,H⟩:=q3q H 0
 refine (En Tryz.func125) ?_
 exact R ((BX H) fun b1 w1 H=>(A) (Z (R ((D 0) ((L H 0) ((B) ((AZ) (W1 hr))))))))
def q5Q (rec_ieveryNode_iHasRemote_1:Expr→Option Bool)(a0:Expr):Option Bool:=(rec_ieveryNode_iHasRemote_1 a0).bind fun y1=>some (!y1)
theorem z0H {rec_ieveryNode_iHasRemote_1:Expr→Option Bool}(ih_ieveryNode_iHasRemote_1:∀ {a0:Expr} {r:Bool},rec_ieveryNode_iHasRemote_1 a0=some r→∀ {F0:Nat→Prop} {w0:World} {ca0} (ha0:rd F0 w0 a0 ca0),RB 124 #[ag ca0,.func (.func 125) #[] #[]] w0 r){a0}{r}(hr:q5Q rec_ieveryNode_iHasRemote_1 a0=some r){ca0}(ha0:rd F0 w0 a0 ca0){b1p:Nat}(ha1:F0 b1p∧At w0 b1p 0 [.func (.func 125) #[] #[]]):RB 163 #[ag ca0,pB b1p] w0 r:=by
 have H:=(HL.start F0 w0).argR ha0
 obtain⟨A1,n1,c1,rfl,hI1,hI2,hI3,hI4,hS1,hS2,H⟩:=q3q H 0
 have H:=H.argA ha1
 refine (En Tryz.func163) ?_
 refine R ((BX H) fun b1 w1 H=>(A) (Z (R ((LB H 0) ((L0 H 2) ?_)))))
 refine bb hr fun y1 hy1 hr=>?_
 exact (CA j1Z (ih_ieveryNode_iHasRemote_1 hy1 (F0:=fun q=>q < _) (q2r.2 ⟨_,rfl,hI1,hI2,hI3,hI4,hS1,hS2,(rs H 1)⟩))) (cE H fun w2 H=>(N) ((AZ) (W1 hr)))
def q3W (rec_ieveryNode_iHasRemote_1:Expr→Option Bool):Nat→Expr→Unit→Option (Unit ⊕ Int):=fun k1 x1 _=>(q5Q rec_ieveryNode_iHasRemote_1 x1).bind fun y1=>if y1=true then some (.inr (k1:Int)) else some (.inl ())
def q2U (rec_ieveryNode_iHasRemote_1:Expr→Option Bool)(a0:(List Expr)):Option Int:=(q2u (q3W rec_ieveryNode_iHasRemote_1) 0 a0 ()).bind <| onr (fun r1=>some r1) fun _=>some (-1)
theorem q5U {rec_ieveryNode_iHasRemote_1:Expr→Option Bool}(ih_ieveryNode_iHasRemote_1:∀ {a0:Expr} {r:Bool},rec_ieveryNode_iHasRemote_1 a0=some r→∀ {F0:Nat→Prop} {w0:World} {ca0} (ha0:rd F0 w0 a0 ca0),RB 124 #[ag ca0,.func (.func 125) #[] #[]] w0 r){a0}{r}(hr:q2U rec_ieveryNode_iHasRemote_1 a0=some r){z0}(ha0:rdS F0 w0 a0 z0){b1_0p:Nat}(ha1_0:F0 b1_0p∧At w0 b1_0p 0 [.func (.func 125) #[] #[]]):RT 123 #[z0,.func (.func 163) #[] #[pB b1_0p]] w0 fun v w=>v = .int .i64 r∧I64 r:=by
 obtain⟨A0',n0',c0',rfl⟩:=ha0.form3
 have H:=(HL.start F0 w0).argS ha0
 have H:=H.argA ha1_0
 refine (En Tryz.func123) ?_
 refine R ((A) (Z (Y (R ((V) ((NI H 0) fun hl1=>(V) (Z ?_)))))))
 refine bb hr fun q1 hq1 hr=>?_
 refine (lF hq1 (fun k1 _ _=>[(0,.slice A0' n0' c0'),(1,.func (.func 163) #[] #[pB b1_0p]),(7,zN a0.length),(8,zN k1)]) (fun _ _ w=>HL F0 [] w0 w [.S a0 (.slice A0' n0' c0'),.A b1_0p 0 [.func (.func 125) #[] #[]]] []) ()) ?_
 rintro k1 _ _ σ w1 hk1 hq1 H
 refine R ((BZ) (Y ?_))
 refine q0e rfl (fun h1=>?_) (fun h1=>?_)
 ·have hk2:=q2G h1
  obtain⟨x1,z1,hx1,hb1,hs1,ht1⟩:=q3o hq1 hk2
  refine K (Y ?_)
  refine Bk (R ((V) ((A) (Z (R ((V) ((V) ((V) ?_))))))))
  obtain⟨b1,ob1,cb1,A1,n1,c1,hvb1,hI1,hI2,hI3,hI4,hS1,hS2,H⟩:=q4f H 0 hx1
  refine (J 7 hvb1 hx1) ((LA H 2) ?_)
  refine bb hb1 fun y1 hy1 hb1=>?_
  refine (CA j8i (z0H ih_ieveryNode_iHasRemote_1 hy1 (F0:=fun q=>q < _) (q2r.2 ⟨_,rfl,hI1,hI2,hI3,hI4,hS1,hS2,(rs H 4)⟩) ⟨H.rAl (i:=1) rfl,H.rA (i:=1) rfl⟩)) (cE H fun w2 H=>Z (iB hb1 (fun _ hb1=>?_) fun _ hb1=>?_))
  ·exact R ((V) ((AZ) (W2 hb1 ht1 hr)))
  exact K (X ((AN hk2 hl1) ((V) (Z (I2 hb1 hs1 ⟨k1+1,(),()⟩)))))
 obtain rfl:=q2M hq1 (q2t h1)
 have hr:=(q2S _ _ _).symm.trans hr
 exact CE (R ((AZ) (W1 hr)))
def q2O (rec_ieveryNode_iHasRemote_1:Expr→Option Bool)(a0:(List Expr)):Option Bool:=(q2U rec_ieveryNode_iHasRemote_1 a0).bind fun y1=>some (decide (0≤y1))
theorem q5D {rec_ieveryNode_iHasRemote_1:Expr→Option Bool}(ih_ieveryNode_iHasRemote_1:∀ {a0:Expr} {r:Bool},rec_ieveryNode_iHasRemote_1 a0=some r→∀ {F0:Nat→Prop} {w0:World} {ca0} (ha0:rd F0 w0 a0 ca0),RB 124 #[ag ca0,.func (.func 125) #[] #[]] w0 r){a0}{r}(hr:q2O rec_ieveryNode_iHasRemote_1 a0=some r){z0}(ha0:rdS F0 w0 a0 z0){b1_0p:Nat}(ha1_0:F0 b1_0p∧At w0 b1_0p 0 [.func (.func 125) #[] #[]]):RB 84 #[z0,.func (.func 163) #[] #[pB b1_0p]] w0 r:=by
 obtain⟨A0',n0',c0',rfl⟩:=ha0.form3
 have H:=(HL.start F0 w0).argS ha0
 have H:=H.argA ha1_0
 refine (En Tryz.func84) ?_
 refine R ((A) (Z (R ((V) ((V) ?_)))))
 refine bb hr fun y1 hy1 hr=>?_
 exact (CA j4Y (q5U ih_ieveryNode_iHasRemote_1 hy1 (F0:=fun q=>q < _) (rs H 0) ⟨H.rAl (i:=1) rfl,H.rA (i:=1) rfl⟩)) (cF' H fun w1 hI1 H=>(B) ((AZ) (W1 hr)))
def q4W (rec_ieveryNode_iHasRemote_1:Expr→Option Bool)(a0:Expr):Option Bool:=(z2c a0).bind fun y1=>if y1=true then (q2O rec_ieveryNode_iHasRemote_1 a0.Args).bind fun y2=>some (!y2) else some false
theorem z1h {rec_ieveryNode_iHasRemote_1:Expr→Option Bool}(ih_ieveryNode_iHasRemote_1:∀ {a0:Expr} {r:Bool},rec_ieveryNode_iHasRemote_1 a0=some r→∀ {F0:Nat→Prop} {w0:World} {ca0} (ha0:rd F0 w0 a0 ca0),RB 124 #[ag ca0,.func (.func 125) #[] #[]] w0 r){a0}{r}(hr:q4W rec_ieveryNode_iHasRemote_1 a0=some r){ca0}(ha0:rd F0 w0 a0 ca0):RB 124 #[ag ca0,.func (.func 125) #[] #[]] w0 r:=by
 have H:=(HL.start F0 w0).argR ha0
 obtain⟨A1,n1,c1,rfl,hI1,hI2,hI3,hI4,hS1,hS2,H⟩:=q3q H 0
 refine (En Tryz.func124) ?_
 refine R ((BX H) fun b1 w1 H=>(BX H) fun b2 w2 H=>(A) (Z (R ((L H 1) ((LB H 0) ?_)))))
 refine bb hr fun y1 hy1 hr=>?_
 refine (CA k2G (z9o hy1 (q2r.2 ⟨_,rfl,hI1,hI2,hI3,hI4,hS1,hS2,(rs H 1)⟩))) (cE H fun w3 H=>jB hr (fun _ hr=>?_) fun _ hr=>?_)
 ·refine (G) ((D 6) ((G) ((L H 0) ((G) ?_))))
  refine q0b rfl rfl (q0q rfl rfl rfl) ((G) ?_)
  refine bb hr fun y2 hy2 hr=>?_
  exact (CA ok84 (q5D ih_ieveryNode_iHasRemote_1 hy2 (F0:=fun q=>q < _) (rs H 1) ⟨(rb H 1).lt,At.blk (rb H 1)⟩)) (cE H fun w4 H=>(G) ((N) ((T) ((AZ) (W1 hr)))))
 exact (O) ((O) ((O) ((O) ((O) ((U) ((AZ) (W1 hr)))))))
def q4j:Nat→Expr→Option Bool
  | 0,_=>none
  | n+1,a0=>q4W (q4j n) a0
def q6p (a0:Expr):Option Bool:=recO fun n=>q4j n a0
theorem z1i (n:Nat):∀ {a0:Expr} {r:Bool},q4j n a0=some r→∀ {F0:Nat→Prop} {w0:World} {ca0} (ha0:rd F0 w0 a0 ca0),RB 124 #[ag ca0,.func (.func 125) #[] #[]] w0 r:=by
 induction n with
 | zero=>intro a0 r hr; exact nomatch (show (none:Option Bool)=some r from hr)
 | succ n ih=>intro a0 r hr; exact z1h ih hr
theorem z1t {a0}{r}(hr:q6p a0=some r){ca0}(ha0:rd F0 w0 a0 ca0):RB 124 #[ag ca0,.func (.func 125) #[] #[]] w0 r:=by
 obtain⟨n,hn⟩:=q4v hr
 exact z1i n hn ha0
def z0f (a0:Expr):Option Bool:=(q6p a0).bind fun y1=>some (!y1)
theorem j1t {a0}{r}(hr:z0f a0=some r){ca0}(ha0:rd F0 w0 a0 ca0):RB 86 #[ag ca0] w0 r:=by
 have H:=(HL.start F0 w0).argR ha0
 obtain⟨A1,n1,c1,rfl,hI1,hI2,hI3,hI4,hS1,hS2,H⟩:=q3q H 0
 refine (En Tryz.func86) ?_
 refine R ((BX H) fun b1 w1 H=>(A) (Z (R ((LB H 0) ?_))))
 refine bb hr fun y1 hy1 hr=>?_
 exact (CA j1Z (z1t hy1 (F0:=fun q=>q < _) (q2r.2 ⟨_,rfl,hI1,hI2,hI3,hI4,hS1,hS2,(rs H 1)⟩))) (cE H fun w2 H=>(N) ((AZ) (W1 hr)))
def q5R:Nat→Expr→Unit→Option (Unit ⊕ Int):=fun k1 x1 _=>(z0f x1).bind fun y1=>if y1=true then some (.inr (k1:Int)) else some (.inl ())
def q4t (a0:(List Expr)):Option Int:=(q2u q5R 0 a0 ()).bind <| onr (fun r1=>some r1) fun _=>some (-1)
theorem q8t {a0}{r}(hr:q4t a0=some r){z0}(ha0:rdS F0 w0 a0 z0):RT 123 #[z0,.func (.func 86) #[] #[]] w0 fun v w=>v = .int .i64 r∧I64 r:=by
 exact ixFu (gm:=fun x=>z0f x) (caps:=[]) Tryz.func123 hr ha0 ok86 fun w1 hE x cs y hy hx=>j1t hy hx
def q4d (a0:(List Expr)):Option Bool:=(q4t a0).bind fun y1=>some (decide (0≤y1))
theorem q7R {a0}{r}(hr:q4d a0=some r){z0}(ha0:rdS F0 w0 a0 z0):RB 84 #[z0,.func (.func 86) #[] #[]] w0 r:=by
 exact coF Tryz.func84 hr j4Y fun hy=>q8t hy ha0
def q9T (a0:Rule):Option Bool:=(q8f a0).bind fun y1=>(q4d y1).bind fun y2=>some y2
theorem z9p {a0}{r}(hr:q9T a0=some r){ca0}(ha0:rd F0 w0 a0 ca0):RB 83 #[ag ca0] w0 r:=by
 have H:=(HL.start F0 w0).argR ha0
 obtain⟨A1,n1,c1,A2,n2,c2,A3,n3,c3,rfl,hS1,hS2,H⟩:=q3j H 0
 let d1:=q4o a0 A1 n1 c1 A2 n2 c2 A3 n3 c3
 refine (En Tryz.func83) ?_
 refine R ((BX H) fun b1 w1 H=>(A) (Z (R ((LB H 0) ?_))))
 refine bb hr fun y1 hy1 hr=>?_
 obtain⟨F,hF,hcl⟩:=H.call
 refine (CA ok85 (z4e hy1 ⟨_,_,_,rfl,hS1,hS2,(hF.get (i:=1) rfl),(hF.get (i:=2) rfl),(hF.get (i:=3) rfl)⟩)) ?_
 rintro _ w2 hE ⟨A4,n4,c4,rfl,H'⟩
 have H:HL F0 [] w0 w2 [.R a0 d1,.S a0.Right (.slice A1 n1 c1),.S a0.Equations (.slice A2 n2 c2),.S a0.Contributions (.slice A3 n3 c3)] [.B b1 62 d1,.G 136 y1 (.slice A4 n4 c4)]:=hcl H'
 refine bb hr fun y2 hy2 hr=>?_
 exact (CA ok84 (q7R hy2 (F0:=fun q=>q < _) (H.rG (i:=1) rfl))) (cE H fun w3 H=>(AZ) (W1 hr))
def q5z:Nat→Rule→Unit→Option (Unit ⊕ Int):=fun k1 x1 _=>(q9T x1).bind fun y1=>if y1=true then some (.inr (k1:Int)) else some (.inl ())
def q4k (a0:(List Rule)):Option Int:=(q2u q5z 0 a0 ()).bind <| onr (fun r1=>some r1) fun _=>some (-1)
theorem q7Y {a0}{r}(hr:q4k a0=some r){z0}(ha0:rdS F0 w0 a0 z0):RT 122 #[z0,.func (.func 83) #[] #[]] w0 fun v w=>v = .int .i64 r∧I64 r:=by
 exact ixFu (gm:=fun x=>q9T x) (caps:=[]) Tryz.func122 hr ha0 ok83 fun w1 hE x cs y hy hx=>z9p hy hx
def q3U (a0:(List Rule)):Option Bool:=(q4k a0).bind fun y1=>some (decide (0≤y1))
theorem q7C {a0}{r}(hr:q3U a0=some r){z0}(ha0:rdS F0 w0 a0 z0):RB 82 #[z0,.func (.func 83) #[] #[]] w0 r:=by
 exact coF Tryz.func82 hr k1r fun hy=>q7Y hy ha0
def z1L (a0:Grammar):Option Bool:=(q3U a0.Rules).bind fun y1=>some y1
theorem j1u {a0}{r}(hr:z1L a0=some r){ca0}(ha0:rd F0 w0 a0 ca0):RB 50 #[ag ca0] w0 r:=by
 have H:=(HL.start F0 w0).argR ha0
 obtain⟨A1,n1,c1,A2,n2,c2,rfl,H⟩:=q2s H 0
 refine (En Tryz.func50) ?_
 refine R ((BX H) fun b1 w1 H=>(A) (Z (R ((D 1) ((L H 0) ?_)))))
 refine bb hr fun y1 hy1 hr=>?_
 exact (CA ok82 (q7C hy1 (F0:=fun q=>q < _) (rs H 2))) (cE H fun w2 H=>(AZ) (W1 hr))
def q9U (a0:Attribute):Option Bool:=some (decide (a0.Mode=3))
theorem z9q {a0}{r}(hr:q9U a0=some r){ca0}(ha0:rd F0 w0 a0 ca0):RB 52 #[ag ca0] w0 r:=by
 have H:=(HL.start F0 w0).argR ha0
 obtain⟨rfl,hS1,hI1,hI2,H⟩:=q4Z H 0
 refine (En Tryz.func52) ?_
 exact R ((BX H) fun b1 w1 H=>(A) (Z (R ((D 2) ((L H 0) ((B) ((AZ) (W1 hr))))))))
def q4D:Nat→Attribute→Unit→Option (Unit ⊕ Int):=fun k1 x1 _=>(q9U x1).bind fun y1=>if y1=true then some (.inr (k1:Int)) else some (.inl ())
def q3E (a0:(List Attribute)):Option Int:=(q2u q4D 0 a0 ()).bind <| onr (fun r1=>some r1) fun _=>some (-1)
theorem q7e {a0}{r}(hr:q3E a0=some r){z0}(ha0:rdS F0 w0 a0 z0):RT 127 #[z0,.func (.func 52) #[] #[]] w0 fun v w=>v = .int .i64 r∧I64 r:=by
 exact ixFu (gm:=fun x=>q9U x) (caps:=[]) Tryz.func127 hr ha0 ok52 fun w1 hE x cs y hy hx=>z9q hy hx
def q3s (a0:(List Attribute)):Option Bool:=(q3E a0).bind fun y1=>some (decide (0≤y1))
theorem q6B {a0}{r}(hr:q3s a0=some r){z0}(ha0:rdS F0 w0 a0 z0):RB 89 #[z0,.func (.func 52) #[] #[]] w0 r:=by
 exact coF Tryz.func89 hr j8d fun hy=>q7e hy ha0
def q5c (a0:Symbol):Option Bool:=(q3s a0.Attributes).bind fun y1=>some y1
theorem q9w {a0}{r}(hr:q5c a0=some r){ca0}(ha0:rd F0 w0 a0 ca0){b1p:Nat}(ha1:F0 b1p∧At w0 b1p 0 [.func (.func 52) #[] #[]]):RB 88 #[ag ca0,pB b1p] w0 r:=by
 have H:=(HL.start F0 w0).argR ha0
 obtain⟨A1,n1,c1,rfl,hS1,H⟩:=q6e H 0
 have H:=H.argA ha1
 refine (En Tryz.func88) ?_
 refine R ((BX H) fun b1 w1 H=>(A) (Z (R ((D 1) ((L H 0) ((L0 H 2) ?_))))))
 refine bb hr fun y1 hy1 hr=>?_
 exact (CA ok89 (q6B hy1 (F0:=fun q=>q < _) (rs H 1))) (cE H fun w2 H=>(AZ) (W1 hr))
def q3B:Nat→Symbol→Unit→Option (Unit ⊕ Int):=fun k1 x1 _=>(q5c x1).bind fun y1=>if y1=true then some (.inr (k1:Int)) else some (.inl ())
def q2I (a0:(List Symbol)):Option Int:=(q2u q3B 0 a0 ()).bind <| onr (fun r1=>some r1) fun _=>some (-1)
theorem q5s {a0}{r}(hr:q2I a0=some r){z0}(ha0:rdS F0 w0 a0 z0){b1_0p:Nat}(ha1_0:F0 b1_0p∧At w0 b1_0p 0 [.func (.func 52) #[] #[]]):RT 126 #[z0,.func (.func 88) #[] #[pB b1_0p]] w0 fun v w=>v = .int .i64 r∧I64 r:=by
 obtain⟨A0',n0',c0',rfl⟩:=ha0.form3
 have H:=(HL.start F0 w0).argS ha0
 have H:=H.argA ha1_0
 refine (En Tryz.func126) ?_
 refine R ((A) (Z (Y (R ((V) ((NI H 0) fun hl1=>(V) (Z ?_)))))))
 refine bb hr fun q1 hq1 hr=>?_
 refine (lF hq1 (fun k1 _ _=>[(0,.slice A0' n0' c0'),(1,.func (.func 88) #[] #[pB b1_0p]),(7,zN a0.length),(8,zN k1)]) (fun _ _ w=>HL F0 [] w0 w [.S a0 (.slice A0' n0' c0'),.A b1_0p 0 [.func (.func 52) #[] #[]]] []) ()) ?_
 rintro k1 _ _ σ w1 hk1 hq1 H
 refine R ((BZ) (Y ?_))
 refine q0e rfl (fun h1=>?_) (fun h1=>?_)
 ·have hk2:=q2G h1
  obtain⟨x1,z1,hx1,hb1,hs1,ht1⟩:=q3o hq1 hk2
  refine K (Y ?_)
  refine Bk (R ((V) ((A) (Z (R ((V) ((V) ((V) ?_))))))))
  obtain⟨b1,ob1,cb1,A1,n1,c1,hvb1,hS1,H⟩:=q4g H 0 hx1
  refine (J 2 hvb1 hx1) ((LA H 2) ?_)
  refine bb hb1 fun y1 hy1 hb1=>?_
  refine (CA ok88 (q9w hy1 (F0:=fun q=>q < _) ⟨_,rfl,hS1,(rs H 4)⟩ ⟨H.rAl (i:=1) rfl,H.rA (i:=1) rfl⟩)) (cE H fun w2 H=>Z (iB hb1 (fun _ hb1=>?_) fun _ hb1=>?_))
  ·exact R ((V) ((AZ) (W2 hb1 ht1 hr)))
  exact K (X ((AN hk2 hl1) ((V) (Z (I2 hb1 hs1 ⟨k1+1,(),()⟩)))))
 obtain rfl:=q2M hq1 (q2t h1)
 have hr:=(q2S _ _ _).symm.trans hr
 exact CE (R ((AZ) (W1 hr)))
def q2C (a0:(List Symbol)):Option Bool:=(q2I a0).bind fun y1=>some (decide (0≤y1))
theorem q4X {a0}{r}(hr:q2C a0=some r){z0}(ha0:rdS F0 w0 a0 z0){b1_0p:Nat}(ha1_0:F0 b1_0p∧At w0 b1_0p 0 [.func (.func 52) #[] #[]]):RB 87 #[z0,.func (.func 88) #[] #[pB b1_0p]] w0 r:=by
 obtain⟨A0',n0',c0',rfl⟩:=ha0.form3
 have H:=(HL.start F0 w0).argS ha0
 have H:=H.argA ha1_0
 refine (En Tryz.func87) ?_
 refine R ((A) (Z (R ((V) ((V) ?_)))))
 refine bb hr fun y1 hy1 hr=>?_
 exact (CA j8c (q5s hy1 (F0:=fun q=>q < _) (rs H 0) ⟨H.rAl (i:=1) rfl,H.rA (i:=1) rfl⟩)) (cF' H fun w1 hI1 H=>(B) ((AZ) (W1 hr)))
def q4r (a0:Grammar):Option Bool:=(q2C a0.Symbols).bind fun y1=>some y1
theorem z0n {a0}{r}(hr:q4r a0=some r){ca0}(ha0:rd F0 w0 a0 ca0):RB 51 #[ag ca0,.func (.func 52) #[] #[]] w0 r:=by
 have H:=(HL.start F0 w0).argR ha0
 obtain⟨A1,n1,c1,A2,n2,c2,rfl,H⟩:=q2s H 0
 refine (En Tryz.func51) ?_
 refine R ((BX H) fun b1 w1 H=>(BX H) fun b2 w2 H=>(A) (Z (R ((D 0) ((L H 0) ?_)))))
 refine q0b rfl rfl (q0q rfl rfl rfl) ?_
 refine bb hr fun y1 hy1 hr=>?_
 exact (CA ok87 (q4X hy1 (F0:=fun q=>q < _) (rs H 1) ⟨(rb H 1).lt,At.blk (rb H 1)⟩)) (cE H fun w3 H=>(AZ) (W1 hr))
def z0I (a0:Attribute):Option Bool:=some a0.Circular
theorem j0j {a0}{r}(hr:z0I a0=some r){ca0}(ha0:rd F0 w0 a0 ca0):RB 53 #[ag ca0] w0 r:=by
 have H:=(HL.start F0 w0).argR ha0
 obtain⟨rfl,hS1,hI1,hI2,H⟩:=q4Z H 0
 refine (En Tryz.func53) ?_
 exact R ((BX H) fun b1 w1 H=>(A) (Z (R ((D 3) ((L H 0) ((AZ) (W1 hr)))))))
def q4K:Nat→Attribute→Unit→Option (Unit ⊕ Int):=fun k1 x1 _=>(z0I x1).bind fun y1=>if y1=true then some (.inr (k1:Int)) else some (.inl ())
def q3L (a0:(List Attribute)):Option Int:=(q2u q4K 0 a0 ()).bind <| onr (fun r1=>some r1) fun _=>some (-1)
theorem q7q {a0}{r}(hr:q3L a0=some r){z0}(ha0:rdS F0 w0 a0 z0):RT 127 #[z0,.func (.func 53) #[] #[]] w0 fun v w=>v = .int .i64 r∧I64 r:=by
 exact ixFu (gm:=fun x=>z0I x) (caps:=[]) Tryz.func127 hr ha0 ok53 fun w1 hE x cs y hy hx=>j0j hy hx
def q3x (a0:(List Attribute)):Option Bool:=(q3L a0).bind fun y1=>some (decide (0≤y1))
theorem q6I {a0}{r}(hr:q3x a0=some r){z0}(ha0:rdS F0 w0 a0 z0):RB 89 #[z0,.func (.func 53) #[] #[]] w0 r:=by
 exact coF Tryz.func89 hr j8d fun hy=>q7q hy ha0
def q5t (a0:Symbol):Option Bool:=(q3x a0.Attributes).bind fun y1=>some y1
theorem z0g {a0}{r}(hr:q5t a0=some r){ca0}(ha0:rd F0 w0 a0 ca0){b1p:Nat}(ha1:F0 b1p∧At w0 b1p 0 [.func (.func 53) #[] #[]]):RB 88 #[ag ca0,pB b1p] w0 r:=by
 have H:=(HL.start F0 w0).argR ha0
 obtain⟨A1,n1,c1,rfl,hS1,H⟩:=q6e H 0
 have H:=H.argA ha1
 refine (En Tryz.func88) ?_
 refine R ((BX H) fun b1 w1 H=>(A) (Z (R ((D 1) ((L H 0) ((L0 H 2) ?_))))))
 refine bb hr fun y1 hy1 hr=>?_
 exact (CA ok89 (q6I hy1 (F0:=fun q=>q < _) (rs H 1))) (cE H fun w2 H=>(AZ) (W1 hr))
def q3D:Nat→Symbol→Unit→Option (Unit ⊕ Int):=fun k1 x1 _=>(q5t x1).bind fun y1=>if y1=true then some (.inr (k1:Int)) else some (.inl ())
def q2L (a0:(List Symbol)):Option Int:=(q2u q3D 0 a0 ()).bind <| onr (fun r1=>some r1) fun _=>some (-1)
theorem q5A {a0}{r}(hr:q2L a0=some r){z0}(ha0:rdS F0 w0 a0 z0){b1_0p:Nat}(ha1_0:F0 b1_0p∧At w0 b1_0p 0 [.func (.func 53) #[] #[]]):RT 126 #[z0,.func (.func 88) #[] #[pB b1_0p]] w0 fun v w=>v = .int .i64 r∧I64 r:=by
 obtain⟨A0',n0',c0',rfl⟩:=ha0.form3
 have H:=(HL.start F0 w0).argS ha0
 have H:=H.argA ha1_0
 refine (En Tryz.func126) ?_
 refine R ((A) (Z (Y (R ((V) ((NI H 0) fun hl1=>(V) (Z ?_)))))))
 refine bb hr fun q1 hq1 hr=>?_
 refine (lF hq1 (fun k1 _ _=>[(0,.slice A0' n0' c0'),(1,.func (.func 88) #[] #[pB b1_0p]),(7,zN a0.length),(8,zN k1)]) (fun _ _ w=>HL F0 [] w0 w [.S a0 (.slice A0' n0' c0'),.A b1_0p 0 [.func (.func 53) #[] #[]]] []) ()) ?_
 rintro k1 _ _ σ w1 hk1 hq1 H
 refine R ((BZ) (Y ?_))
 refine q0e rfl (fun h1=>?_) (fun h1=>?_)
 ·have hk2:=q2G h1
  obtain⟨x1,z1,hx1,hb1,hs1,ht1⟩:=q3o hq1 hk2
  refine K (Y ?_)
  refine Bk (R ((V) ((A) (Z (R ((V) ((V) ((V) ?_))))))))
  obtain⟨b1,ob1,cb1,A1,n1,c1,hvb1,hS1,H⟩:=q4g H 0 hx1
  refine (J 2 hvb1 hx1) ((LA H 2) ?_)
  refine bb hb1 fun y1 hy1 hb1=>?_
  refine (CA ok88 (z0g hy1 (F0:=fun q=>q < _) ⟨_,rfl,hS1,(rs H 4)⟩ ⟨H.rAl (i:=1) rfl,H.rA (i:=1) rfl⟩)) (cE H fun w2 H=>Z (iB hb1 (fun _ hb1=>?_) fun _ hb1=>?_))
  ·exact R ((V) ((AZ) (W2 hb1 ht1 hr)))
  exact K (X ((AN hk2 hl1) ((V) (Z (I2 hb1 hs1 ⟨k1+1,(),()⟩)))))
 obtain rfl:=q2M hq1 (q2t h1)
 have hr:=(q2S _ _ _).symm.trans hr
 exact CE (R ((AZ) (W1 hr)))
def q2F (a0:(List Symbol)):Option Bool:=(q2L a0).bind fun y1=>some (decide (0≤y1))
theorem q5d {a0}{r}(hr:q2F a0=some r){z0}(ha0:rdS F0 w0 a0 z0){b1_0p:Nat}(ha1_0:F0 b1_0p∧At w0 b1_0p 0 [.func (.func 53) #[] #[]]):RB 87 #[z0,.func (.func 88) #[] #[pB b1_0p]] w0 r:=by
 obtain⟨A0',n0',c0',rfl⟩:=ha0.form3
 have H:=(HL.start F0 w0).argS ha0
 have H:=H.argA ha1_0
 refine (En Tryz.func87) ?_
 refine R ((A) (Z (R ((V) ((V) ?_)))))
 refine bb hr fun y1 hy1 hr=>?_
 exact (CA j8c (q5A hy1 (F0:=fun q=>q < _) (rs H 0) ⟨H.rAl (i:=1) rfl,H.rA (i:=1) rfl⟩)) (cF' H fun w1 hI1 H=>(B) ((AZ) (W1 hr)))
def q4C (a0:Grammar):Option Bool:=(q2F a0.Symbols).bind fun y1=>some y1
theorem z0J {a0}{r}(hr:q4C a0=some r){ca0}(ha0:rd F0 w0 a0 ca0):RB 51 #[ag ca0,.func (.func 53) #[] #[]] w0 r:=by
 have H:=(HL.start F0 w0).argR ha0
 obtain⟨A1,n1,c1,A2,n2,c2,rfl,H⟩:=q2s H 0
 refine (En Tryz.func51) ?_
 refine R ((BX H) fun b1 w1 H=>(BX H) fun b2 w2 H=>(A) (Z (R ((D 0) ((L H 0) ?_)))))
 refine q0b rfl rfl (q0q rfl rfl rfl) ?_
 refine bb hr fun y1 hy1 hr=>?_
 exact (CA ok87 (q5d hy1 (F0:=fun q=>q < _) (rs H 1) ⟨(rb H 1).lt,At.blk (rb H 1)⟩)) (cE H fun w3 H=>(AZ) (W1 hr))
def z3a (a0:Grammar):Option Bool:=(z2Z a0).bind fun y1=>( if y1=true then (z1L a0).bind fun y2=>some (!y2) else some false ).bind fun s1=>( if s1=true then (q4r a0).bind fun y3=>some (!y3) else some false ).bind fun s2=>( if s2=true then (q4C a0).bind fun y4=>some (!y4) else some false ).bind fun s3=>some s3
theorem j2t {a0}{r}(hr:z3a a0=some r){ca0}(ha0:rd F0 w0 a0 ca0):RB 25 #[ag ca0] w0 r:=by
 have H:=(HL.start F0 w0).argR ha0
 obtain⟨A1,n1,c1,A2,n2,c2,rfl,H⟩:=q2s H 0
 let d2:List Value:=[.slice A1 n1 c1,.slice A2 n2 c2]
 let d1:List Pr:=[.R a0 d2,.S a0.Symbols (.slice A1 n1 c1),.S a0.Rules (.slice A2 n2 c2)]
 refine (En Tryz.func25) ?_
 refine R ((BX H) fun b1 w1 H=>(A) (Z (R ((LB H 0) ?_))))
 refine bb hr fun y1 hy1 hr=>?_
 refine (CA ok49 (j2s hy1 ⟨_,_,rfl,(rs H 1),(rs H 2)⟩)) (cE H fun w2 H=>?_)
 refine bb hr fun q1 hm1 hr=>?_
 refine cu H 5 [(1,pB b1),(2,.bool false),(9,.bool q1)] d1 [.B b1 35 d2] ?_ fun σ w4 H=>?_
 ·refine jB hm1 (fun _ hm1=>?_) fun _ hm1=>?_
  ·refine (G) ((LB H 0) ((G) ?_))
   refine bb hm1 fun y2 hy2 hm1=>?_
   exact (CA ok50 (j1u hy2 ⟨_,_,rfl,(rs H 1),(rs H 2)⟩)) (cE H fun w3 H=>(G) ((N) ((T) (Z (C1 hm1)))))
  exact OF hm1
 refine bb hr fun q2 hm2 hr=>?_
 refine cu H 5 [(1,pB b1),(2,.bool false),(14,.bool q2)] d1 [.B b1 35 d2] ?_ fun σ w6 H=>?_
 ·refine jB hm2 (fun _ hm2=>?_) fun _ hm2=>?_
  ·refine (G) ((LB H 0) ((G) ?_))
   refine bb hm2 fun y3 hy3 hm2=>?_
   exact (CA ok51 (z0n hy3 (F0:=fun q=>q < _) ⟨_,_,rfl,(rs H 1),(rs H 2)⟩)) (cE H fun w5 H=>(G) ((N) ((T) (Z (C1 hm2)))))
  exact OF hm2
 refine bb hr fun q3 hm3 hr=>?_
 refine cu H 5 [(2,.bool false),(19,.bool q3)] d1 [.B b1 35 d2] ?_ fun σ w8 H=>?_
 ·refine jB hm3 (fun _ hm3=>?_) fun _ hm3=>?_
  ·refine (G) ((LB H 0) ((G) ?_))
   refine bb hm3 fun y4 hy4 hm3=>?_
   exact (CA ok51 (z0J hy4 (F0:=fun q=>q < _) ⟨_,_,rfl,(rs H 1),(rs H 2)⟩)) (cE H fun w7 H=>(G) ((N) ((T) (Z (C1 hm3)))))
  exact OF hm3
 exact (AZ) (W1 hr)
def z2d (a0:(List Phase)):Option Bool:=some (decide ((a0.length:Int)=0))
theorem z9r {a0}{r}(hr:z2d a0=some r){z0}(ha0:rdS F0 w0 a0 z0):RB 27 #[z0] w0 r:=by
 obtain⟨A0',n0',c0',rfl⟩:=ha0.form3
 have H:=(HL.start F0 w0).argS ha0
 refine (En Tryz.func27) ?_
 exact R ((A) (Z (R ((V) ((NI H 0) fun hl1=>(B) ((AZ) (W1 hr)))))))
def q5m:Nat→(List Phase)→Unit→Option (Unit ⊕ Int):=fun k1 x1 _=>(z2d x1).bind fun y1=>if y1=true then some (.inr (k1:Int)) else some (.inl ())
def q4e (a0:(List (List Phase))):Option Int:=(q2u q5m 0 a0 ()).bind <| onr (fun r1=>some r1) fun _=>some (-1)
theorem q7S {a0}{r}(hr:q4e a0=some r){z0}(ha0:rdS F0 w0 a0 z0):RT 54 #[z0,.func (.func 27) #[] #[]] w0 fun v w=>v = .int .i64 r∧I64 r:=by
 obtain⟨A0',n0',c0',rfl⟩:=ha0.form3
 have H:=(HL.start F0 w0).argS ha0
 refine (En Tryz.func54) ?_
 refine R ((A) (Z (Y (R ((V) ((NI H 0) fun hl1=>(V) (Z ?_)))))))
 refine bb hr fun q1 hq1 hr=>?_
 refine (lF hq1 (fun k1 _ _=>[(0,.slice A0' n0' c0'),(1,.func (.func 27) #[] #[]),(7,zN a0.length),(8,zN k1)]) (fun _ _ w=>HL F0 [] w0 w [.S a0 (.slice A0' n0' c0')] []) ()) ?_
 rintro k1 _ _ σ w1 hk1 hq1 H
 refine R ((BZ) (Y ?_))
 refine q0e rfl (fun h1=>?_) (fun h1=>?_)
 ·have hk2:=q2G h1
  obtain⟨x1,z1,hx1,hb1,hs1,ht1⟩:=q3o hq1 hk2
  refine K (Y ?_)
  refine Bk (R ((V) ((A) (Z (R ((V) ((V) ((V) ?_))))))))
  obtain⟨b1,ob1,cb1,A1,n1,c1,hvb1,H⟩:=z5O H 0 hx1
  refine (J 1 hvb1 hx1) ((L0 H 1) ?_)
  refine bb hb1 fun y1 hy1 hb1=>?_
  refine (CA ok27 (z9r hy1 (rs H 3))) (cE H fun w2 H=>Z (iB hb1 (fun _ hb1=>?_) fun _ hb1=>?_))
  ·exact R ((V) ((AZ) (W2 hb1 ht1 hr)))
  exact K (X ((AN hk2 hl1) ((V) (Z (I2 hb1 hs1 ⟨k1+1,(),()⟩)))))
 obtain rfl:=q2M hq1 (q2t h1)
 have hr:=(q2S _ _ _).symm.trans hr
 exact CE (R ((AZ) (W1 hr)))
def q3M (a0:(List (List Phase))):Option Bool:=(q4e a0).bind fun y1=>some (decide (0≤y1))
theorem q7r {a0}{r}(hr:q3M a0=some r){z0}(ha0:rdS F0 w0 a0 z0):RB 26 #[z0,.func (.func 27) #[] #[]] w0 r:=by
 exact coF Tryz.func26 hr ok54 fun hy=>q7S hy ha0
def z5w (a0:Grammar)(a1:(List (List Phase)))(a2:Rule):Option visits:=(q8r a0 a2).bind fun y1=>grd (I64 ((a2.Right.length+1:Nat):Int)) <| grd (0≤((a2.Right.length+1:Nat):Int)∧((a2.Right.length+1:Nat):Int)*8≤281474976710656∧((a2.Right.length+1:Nat):Int)≤9223372036854775807) <| some (⟨a0,a1,a2,y1,[],(List.replicate (a2.Right.length+1) (0:Int))⟩:visits)
theorem j2u {a0}{a1}{a2}{r}(hr:z5w a0 a1 a2=some r){ca0}(ha0:rd F0 w0 a0 ca0){z1}(ha1:rdS F0 w0 a1 z1){ca2}(ha2:rd F0 w0 a2 ca2):RT 55 #[ag ca0,z1,ag ca2] w0 fun v w=>∃ bp0:Nat,∃ A0 n0 c0 A1 n1 c1,∃ A2 n2 c2 A3 n3 c3,∃ A4 n4 c4 A5 n5 c5,∃ A6 n6 c6 A7 n7 c7,∃ A8 n8 c8,v=pB bp0∧r.r.Name.size≤9223372036854775807∧r.r.Left.size≤9223372036854775807∧HL F0 [] w0 w [.S r.g.Symbols (.slice A0 n0 c0),.S r.g.Rules (.slice A1 n1 c1),.S r.phases (.slice A2 n2 c2),.S r.r.Right (.slice A3 n3 c3),.S r.r.Equations (.slice A4 n4 c4),.S r.r.Contributions (.slice A5 n5 c5)] [.O 133 r.due (.slice A6 n6 c6),.O 3 r.next (.slice A8 n8 c8),.B bp0 119 [(.slice A0 n0 c0),(.slice A1 n1 c1),(.slice A2 n2 c2),.string r.r.Name,.string r.r.Left,(.slice A3 n3 c3),.bool r.r.Literal,(.slice A4 n4 c4),(.slice A5 n5 c5),(.slice A6 n6 c6),(.slice A7 n7 c7),(.slice A8 n8 c8)],.O 133 r.known (.slice A7 n7 c7)]:=by
 obtain⟨A1',n1',c1',rfl⟩:=ha1.form3
 have H:=(((HL.start F0 w0).argR ha0).argS ha1).argR ha2
 obtain⟨A1,n1,c1,A2,n2,c2,rfl,H⟩:=q2s H 0
 obtain⟨A3,n3,c3,A4,n4,c4,A5,n5,c5,rfl,hS1,hS2,H⟩:=q3j H 2
 refine (En Tryz.func55) ?_
 refine R ((BX H) fun b1 w1 H=>(BX H) fun b2 w2 H=>(AZ) ?_)
 refine bb hr fun y1 hy1 hr=>?_
 have hl1:=(H.rS (i:=5) rfl).I
 refine gg hr fun hg1 hr=>?_
 refine gg hr fun hg2 hr=>Y ?_
 refine q0E 11 (fun ρ=>[.fix (.agg #[.slice A1 n1 c1,.slice A2 n2 c2]),.fix (.slice A1' n1' c1'),.fix (.agg #[.string a2.Name,.string a2.Left,.slice A3 n3 c3,.bool a2.Literal,.slice A4 n4 c4,.slice A5 n5 c5]),.fix (.agg #[.slice A1 n1 c1,.slice A2 n2 c2]),.fix (.agg #[.string a2.Name,.string a2.Left,.slice A3 n3 c3,.bool a2.Literal,.slice A4 n4 c4,.slice A5 n5 c5]),.free (fun S v w=>∃ A6:Option Addr,∃ n6:Nat,∃ c6:Nat,v = .slice A6 n6 c6∧NewI S w [.O 133 y1 (.slice A6 n6 c6)]),.fix (.pointer (some ⟨b2,0+2,none⟩)),.fix (.slice A3 n3 c3),.fix (zN a2.Right.length),.fix (.int .i64 ((a2.Right.length+1:Nat):Int)),.free (fun S v w=>∃ A m c,v = .slice A m c∧NewI S w [.O 3 (List.replicate (a2.Right.length+1) (0:Int)) (.slice A m c)])]) [[],[],[],[],[],[],[],[],[],[],[]] NoM (fun _ _=>True) [] [] (noM _) hmix (by kernel_rfl) rfl ⟨trivial,trivial,trivial,trivial,trivial,fun _ _ _ _ _ ⟨A6,n6,c6,hv,hh⟩ hc hS hT=>⟨A6,n6,c6,hv,hh.chgT hc hS⟩,trivial,trivial,trivial,trivial,fun _ _ _ _ _ ⟨A,m,c,h1,h2⟩ hc hS _=>⟨A,m,c,h1,h2.chgT hc hS⟩,trivial⟩ trivial (fun _ _ _ _ _ _ _=>trivial) ?_
 refine q0g rfl rfl rfl rfl rfl (fun _ hq hK=>q0c rfl ag35 sz35 rfl (At.blk ((H.ext hq).rB (i:=0) rfl)) rfl) ?_
 refine q0g rfl rfl rfl rfl rfl (fun _ hq hK=>q0j rfl rfl) ?_
 refine q0g rfl rfl rfl rfl rfl (fun _ hq hK=>q0c rfl ag62 sz62 rfl (At.blk ((H.ext hq).rB (i:=1) rfl)) rfl) ?_
 refine q0g rfl rfl rfl rfl rfl (fun _ hq hK=>q0c rfl ag35 sz35 rfl (At.blk ((H.ext hq).rB (i:=0) rfl)) rfl) ?_
 refine q0g rfl rfl rfl rfl rfl (fun _ hq hK=>q0c rfl ag62 sz62 rfl (At.blk ((H.ext hq).rB (i:=1) rfl)) rfl) ?_
 refine LL2.free rfl rfl rfl rfl (fun wq hq hK=>?_) (fun v_G1_5 S_G1_5=>?_)
 ·refine OpX.call rfl rfl rfl rfl ok90 rfl (z4d hy1 ⟨_,_,rfl,(rs (H.ext hq) 3),(rs (H.ext hq) 4)⟩ ⟨_,_,_,rfl,hS1,hS2,(rs (H.ext hq) 5),(rs (H.ext hq) 6),(rs (H.ext hq) 7)⟩) ?_
  rintro _ w hE ⟨A6,n6,c6,rfl,hh⟩
  exact⟨hE,A6,n6,c6,rfl,NewI.of hh tv⟩
 refine q0g rfl rfl rfl rfl rfl (fun _ hq hK=>q0m rfl j6e rfl) ?_
 refine q0g rfl rfl rfl rfl rfl (fun _ hq hK=>q0h rfl ag58 rfl (((H.ext hq).rB (i:=1) rfl).cell rfl)) ?_
 refine q0g rfl rfl rfl rfl rfl (fun _ hq hK=>q0H rfl el58 rfl (rs H 5)) ?_
 refine q0g rfl rfl rfl rfl rfl (fun _ hq hK=>q0J rfl rfl rfl (q0I (a:=a2.Right.length) (b:=1) rfl hg1)) ?_
 refine LL2.free rfl rfl rfl rfl (fun wq hq hK=>q1X (x:=(0:Int)) rfl rfl el94 sz3 by3 ze3 (fun _=>⟨rfl,rfl,dI⟩) rfl rfl hg2 fun A m c w hE h=>⟨hE,A,m,c,rfl,h⟩) (fun v_G1_10 S_G1_10=>?_)
 intro w3 hE _ hK hap hbd
 have hE:=z0q hE
 obtain⟨A6,n6,c6,rfl,hN1⟩:=hK 5 (by decide)
 obtain⟨A7,n7,c7,rfl,hN2⟩:=hK 10 (by decide)
 have H:=H.add hE (hN1.app hN2 fun q h1 h2=>absurd (hap 5 10 q h1 h2) (by decide)) ⟨fun _ _ _ _ _ h=>h,tv⟩ (fun q hq=>hq.elim (fun h=>(hbd 5 q h).1) fun h=>(hbd 10 q h).1)
 refine q0b rfl rfl (Ev.build rfl k2p k2o rfl rfl rfl rfl) ((BX H) fun b3 w4 H=>(AZ) (CR ?_))
 have H:=H.nil (α:=Occurrence) 133
 obtain rfl:=sm hr
 exact⟨_,res1 rfl rfl rfl,H.ext0,_,_,_,_,_,_,_,_,_,_,_,_,_,_,_,_,_,_,_,_,_,_,_,_,_,_,_,_,rfl,hS1,hS2,H.outM (fr':=[.S a0.Symbols (.slice A1 n1 c1),.S a0.Rules (.slice A2 n2 c2),.S a1 (.slice A1' n1' c1'),.S a2.Right (.slice A3 n3 c3),.S a2.Equations (.slice A4 n4 c4),.S a2.Contributions (.slice A5 n5 c5)]) [false,false,true,true,true,true] fun _ h=>⟨h.get (i:=3) rfl,h.get (i:=4) rfl,h.get (i:=1) rfl,h.get (i:=5) rfl,h.get (i:=6) rfl,h.get (i:=7) rfl,trivial⟩⟩
def q8o (a0:Symbol)(a1:ByteArray):Option Bool:=some (decide (a0.Name=a1))
theorem z7d {a0}{a1}{r}(hr:q8o a0 a1=some r){ca0}(ha0:rd F0 w0 a0 ca0){b1p:Nat}(ha1:CapP F0 w0 b1p a1):RB 129 #[ag ca0,pB b1p] w0 r:=by
 have H:=(HL.start F0 w0).argR ha0
 obtain⟨A1,n1,c1,rfl,hS1,H⟩:=q6e H 0
 obtain⟨cpa1,H⟩:=H.argP ha1
 obtain⟨rfl,hS2,H⟩:=k1h H 3
 refine (En Tryz.func129) ?_
 exact R ((BX H) fun b1 w1 H=>(A) (Z (R ((D 0) ((L H 0) ((L0 H 2) ((B) ((AZ) (W1 hr)))))))))
def q3F (a1_0:ByteArray):Nat→Symbol→Unit→Option (Unit ⊕ Int):=fun k1 x1 _=>(q8o x1 a1_0).bind fun y1=>if y1=true then some (.inr (k1:Int)) else some (.inl ())
def q3N (a0:(List Symbol))(a1_0:ByteArray):Option Int:=(q2u (q3F a1_0) 0 a0 ()).bind <| onr (fun r1=>some r1) fun _=>some (-1)
theorem q7s {a0}{a1_0}{r}(hr:q3N a0 a1_0=some r){z0}(ha0:rdS F0 w0 a0 z0){b1_0p:Nat}(ha1_0:CapP F0 w0 b1_0p a1_0):RT 126 #[z0,.func (.func 129) #[] #[pB b1_0p]] w0 fun v w=>v = .int .i64 r∧I64 r:=by
 exact ixFu (gm:=fun x=>q8o x a1_0) (caps:=[pB b1_0p]) Tryz.func126 hr ha0 k2H fun w1 hE x cs y hy hx=>z7d hy hx (CapP.lt ha1_0 hE)
def q8h (a0:Grammar)(a1:ByteArray):Option Int:=(q3N a0.Symbols a1).bind fun y1=>some y1
theorem q8S {a0}{a1}{r}(hr:q8h a0 a1=some r){ca0}(ha0:rd F0 w0 a0 ca0)(ha1:a1.size≤9223372036854775807):RT 91 #[ag ca0,.string a1] w0 fun v w=>v = .int .i64 r∧I64 r:=by
 have H:=(HL.start F0 w0).argR ha0
 obtain⟨A1,n1,c1,A2,n2,c2,rfl,H⟩:=q2s H 0
 refine (En Tryz.func91) ?_
 refine R ((BX H) fun b1 w1 H=>(BX H) fun b2 w2 H=>(A) (Z (R ((D 0) ((L H 0) ?_)))))
 refine q0b rfl rfl (q0q rfl rfl rfl) ?_
 refine bb hr fun y1 hy1 hr=>?_
 exact (CA j8c (q7s hy1 (F0:=fun q=>q < _) (rs H 1) ⟨(rb H 1).lt,_,At.blk (rb H 1),⟨rfl,ha1⟩⟩)) (cF' H fun w3 hI1 H=>(AZ) (W1 hr))
def q5n (a0:visits)(a1:Int):Option (List Phase):=(q6U a0.r a1).bind fun y1=>(q8h a0.g y1).bind fun y2=>(q2Y y2 0 ((a0.phases.length:Int) - 1)).bind fun y3=>if y3=true then grd (0≤y2) <| (a0.phases[y2.toNat]?).bind fun x1=>some x1 else some []
theorem z1j {a0}{a1}{r}(hr:q5n a0 a1=some r){b0p:Nat}(ha0:CapP F0 w0 b0p a0)(ha1:I64 a1):RT 56 #[pB b0p,.int .i64 a1] w0 fun v w=>∃ A0 n0 c0,v=(.slice A0 n0 c0)∧HL F0 [] w0 w [.S r (.slice A0 n0 c0)] []:=by
 have H:=HL.start F0 w0
 obtain⟨cpa0,H⟩:=H.argP ha0
 obtain⟨A1,n1,c1,A2,n2,c2,A3,n3,c3,A4,n4,c4,A5,n5,c5,A6,n6,c6,A7,n7,c7,A8,n8,c8,A9,n9,c9,rfl,hS1,hS2,H⟩:=q6f H 1
 let d2:List Value:=[.slice A1 n1 c1,.slice A2 n2 c2,.slice A3 n3 c3,.string a0.r.Name,.string a0.r.Left,.slice A4 n4 c4,.bool a0.r.Literal,.slice A5 n5 c5,.slice A6 n6 c6,.slice A7 n7 c7,.slice A8 n8 c8,.slice A9 n9 c9]
 let d1:List Pr:=[.A b0p 0 d2,.R a0 d2,.S a0.g.Symbols (.slice A1 n1 c1),.S a0.g.Rules (.slice A2 n2 c2),.S a0.phases (.slice A3 n3 c3),.S a0.r.Right (.slice A4 n4 c4),.S a0.r.Equations (.slice A5 n5 c5),.S a0.r.Contributions (.slice A6 n6 c6),.S a0.due (.slice A7 n7 c7),.S a0.known (.slice A8 n8 c8),.S a0.next (.slice A9 n9 c9)]
 refine (En Tryz.func56) ?_
 refine R ((AZ) (Y ?_))
 refine q0d hmix (by kernel_rfl) ?_
 refine (qV) ((qNC) ((qD 0) ?_))
 refine q0i rfl rfl (fun _ hq=>q0c rfl ag35 sz35 rfl (((H.ext hq).rA (i:=0) rfl).part 0 2) rfl) ?_
 refine (qV) ((qNC) ((qD 3) ?_))
 refine q0i rfl rfl (fun _ hq=>q0c rfl ag62 sz62 rfl (((H.ext hq).rA (i:=0) rfl).part 3 6) rfl) ?_
 refine (qV) ?_
 refine bb hr fun y1 hy1 hr=>?_
 refine (qC ok92 (fun _ hq=>(q5I hy1 ⟨_,_,_,rfl,hS1,hS2,(rs (H.ext hq) 5),(rs (H.ext hq) 6),(rs (H.ext hq) 7)⟩ ha1).mono fun _ _ _ h=>h.1)) ?_
 obtain⟨_,_,_,hS3⟩:=(q5I hy1 ⟨_,_,_,rfl,hS1,hS2,(rs H 5),(rs H 6),(rs H 7)⟩ ha1).get
 refine bb hr fun y2 hy2 hr=>?_
 refine (qC ok91 (fun _ hq=>(q8S hy2 ⟨_,_,rfl,(rs (H.ext hq) 2),(rs (H.ext hq) 3)⟩ hS3).mono fun _ _ _ h=>h.1)) ?_
 obtain⟨_,_,_,hI1⟩:=(q8S hy2 ⟨_,_,rfl,(rs H 2),(rs H 3)⟩ hS3).get
 refine (qA) ?_
 refine QL.nil (fun w1 hE=>?_)
 have H:=H.ext hE
 refine Y (R ((V) ((V) ((NC) ((D 2) ((LC H 0) ((NI H 4) fun hl1=>(BN (Bin.sub (z5e (k:=1) hl1 (by decide)))) ?_)))))))
 refine bb hr fun y3 hy3 hr=>?_
 refine (CA ok93 (q3u hy3 (F0:=nF) hI1 dI (z5e (k:=1) hl1 (by decide)))) (cE H fun w2 H=>(N) (Z (iM hr (fun _ hr=>?_) fun _ hr=>?_)))
 ·refine Y ?_
  refine q0a [] trivial fun σ=>?_
  have H:HL F0 [] w0 w2 d1 []:=H
  refine X ((AZ) (CR ?_))
  have H:=H.nilS (α:=Phase)
  obtain rfl:=sm hr
  exact⟨_,res1 rfl rfl rfl,H.ext0,_,_,_,rfl,H.outM (fr':=[.S ([]:List Phase) (.slice none 0 0)]) [] fun _ h=>⟨h.get (i:=11) rfl,trivial⟩⟩
 refine K (Y ?_)
 refine q0a [(0,pB b0p),(5,.int .i64 y2)] ⟨rfl,rfl,trivial⟩ fun σ=>?_
 have H:HL F0 [] w0 w2 d1 []:=H
 refine X ((V) ((NC) ((D 2) ((LC H 0) ((V) ?_)))))
 refine gg hr fun hg1 hr=>?_
 refine bb hr fun x1 hx1 hr=>?_
 obtain⟨b1,ob1,cb1,A10,n10,c10,hvb1,H⟩:=z5O H 4 hx1
 refine q0b rfl rfl (q0l rfl el37 sz54 rfl hvb1 rfl hg1 (q4G hx1)) ((L0 H 11) ((AZ) (CR ?_)))
 obtain rfl:=sm hr
 exact⟨_,res1 rfl rfl rfl,H.ext0,_,_,_,rfl,H.outM (fr':=[.S x1 (.slice A10 n10 c10)]) [] fun _ h=>⟨h.get (i:=13) rfl,trivial⟩⟩
def q5e (a1:Int)(o2:visits):Option (List Phase):=(q6U o2.r a1).bind fun y1=>(q8h o2.g y1).bind fun y2=>(q2Y y2 0 ((o2.phases.length:Int) - 1)).bind fun y3=>if y3=true then grd (0≤y2) <| (o2.phases[y2.toNat]?).bind fun x1=>some x1 else some []
theorem q4L {a1}{o2}{r}(hr:q5e a1 o2=some r){bo2:Nat}{Ao2_0:Option Addr}{no2_0 co2_0:Nat}{Ao2_1:Option Addr}{no2_1 co2_1:Nat}{Ao2_2:Option Addr}{no2_2 co2_2:Nat}{Ao2_5:Option Addr}{no2_5 co2_5:Nat}{Ao2_7:Option Addr}{no2_7 co2_7:Nat}{Ao2_8:Option Addr}{no2_8 co2_8:Nat}{Ao2_9:Option Addr}{no2_9 co2_9:Nat}{Ao2_10:Option Addr}{no2_10 co2_10:Nat}{Ao2_11:Option Addr}{no2_11 co2_11:Nat}(hIa1:I64 a1)(hIo2_3:o2.r.Name.size≤9223372036854775807)(hIo2_4:o2.r.Left.size≤9223372036854775807)(H:HL F0 M w0 w0 [.S o2.g.Symbols (.slice Ao2_0 no2_0 co2_0),.S o2.g.Rules (.slice Ao2_1 no2_1 co2_1),.S o2.phases (.slice Ao2_2 no2_2 co2_2),.S o2.r.Right (.slice Ao2_5 no2_5 co2_5),.S o2.r.Equations (.slice Ao2_7 no2_7 co2_7),.S o2.r.Contributions (.slice Ao2_8 no2_8 co2_8)] [.O 133 o2.due (.slice Ao2_9 no2_9 co2_9),.O 3 o2.next (.slice Ao2_11 no2_11 co2_11),.B bo2 119 [.slice Ao2_0 no2_0 co2_0,.slice Ao2_1 no2_1 co2_1,.slice Ao2_2 no2_2 co2_2,.string o2.r.Name,.string o2.r.Left,.slice Ao2_5 no2_5 co2_5,.bool o2.r.Literal,.slice Ao2_7 no2_7 co2_7,.slice Ao2_8 no2_8 co2_8,.slice Ao2_9 no2_9 co2_9,.slice Ao2_10 no2_10 co2_10,.slice Ao2_11 no2_11 co2_11],.O 133 o2.known (.slice Ao2_10 no2_10 co2_10)]):RM 56 #[pB bo2,.int .i64 a1] M w0 fun v w=>∃ A0 n0 c0,v=(.slice A0 n0 c0)∧HL F0 M w0 w [.S r (.slice A0 n0 c0)] [.O 133 o2.due (.slice Ao2_9 no2_9 co2_9),.O 3 o2.next (.slice Ao2_11 no2_11 co2_11),.B bo2 119 [.slice Ao2_0 no2_0 co2_0,.slice Ao2_1 no2_1 co2_1,.slice Ao2_2 no2_2 co2_2,.string o2.r.Name,.string o2.r.Left,.slice Ao2_5 no2_5 co2_5,.bool o2.r.Literal,.slice Ao2_7 no2_7 co2_7,.slice Ao2_8 no2_8 co2_8,.slice Ao2_9 no2_9 co2_9,.slice Ao2_10 no2_10 co2_10,.slice Ao2_11 no2_11 co2_11],.O 133 o2.known (.slice Ao2_10 no2_10 co2_10)]:=by
 let d2:List Pr:=[.S o2.g.Symbols (.slice Ao2_0 no2_0 co2_0),.S o2.g.Rules (.slice Ao2_1 no2_1 co2_1),.S o2.phases (.slice Ao2_2 no2_2 co2_2),.S o2.r.Right (.slice Ao2_5 no2_5 co2_5),.S o2.r.Equations (.slice Ao2_7 no2_7 co2_7),.S o2.r.Contributions (.slice Ao2_8 no2_8 co2_8)]
 let d1:List It:=[.O 133 o2.due (.slice Ao2_9 no2_9 co2_9),.O 3 o2.next (.slice Ao2_11 no2_11 co2_11),.B bo2 119 [.slice Ao2_0 no2_0 co2_0,.slice Ao2_1 no2_1 co2_1,.slice Ao2_2 no2_2 co2_2,.string o2.r.Name,.string o2.r.Left,.slice Ao2_5 no2_5 co2_5,.bool o2.r.Literal,.slice Ao2_7 no2_7 co2_7,.slice Ao2_8 no2_8 co2_8,.slice Ao2_9 no2_9 co2_9,.slice Ao2_10 no2_10 co2_10,.slice Ao2_11 no2_11 co2_11],.O 133 o2.known (.slice Ao2_10 no2_10 co2_10)]
 refine (En Tryz.func56) ?_
 refine R ((AZ) (Y ?_))
 refine q0d hmix (by kernel_rfl) ?_
 refine (qV) ((qNC) ((qD 0) ?_))
 refine q0i rfl rfl (fun _ hq=>q0c rfl ag35 sz35 rfl (Blk.part ((H.ext hq).rB (i:=2) rfl) 0 2) rfl) ?_
 refine (qV) ((qNC) ((qD 3) ?_))
 refine q0i rfl rfl (fun _ hq=>q0c rfl ag62 sz62 rfl (Blk.part ((H.ext hq).rB (i:=2) rfl) 3 6) rfl) ?_
 refine (qV) ?_
 refine bb hr fun y1 hy1 hr=>?_
 refine (qC ok92 (fun _ hq=>(q5I hy1 ⟨_,_,_,rfl,hIo2_3,hIo2_4,(rs (H.ext hq) 3),(rs (H.ext hq) 4),(rs (H.ext hq) 5)⟩ hIa1).mono fun _ _ _ h=>h.1)) ?_
 obtain⟨_,_,_,hS1⟩:=(q5I hy1 ⟨_,_,_,rfl,hIo2_3,hIo2_4,(rs H 3),(rs H 4),(rs H 5)⟩ hIa1).get
 refine bb hr fun y2 hy2 hr=>?_
 refine (qC ok91 (fun _ hq=>(q8S hy2 ⟨_,_,rfl,(rs (H.ext hq) 0),(rs (H.ext hq) 1)⟩ hS1).mono fun _ _ _ h=>h.1)) ?_
 obtain⟨_,_,_,hI1⟩:=(q8S hy2 ⟨_,_,rfl,(rs H 0),(rs H 1)⟩ hS1).get
 refine (qA) ?_
 refine QL.nil (fun w1 hE=>?_)
 have H:=H.ext hE
 refine Y (R ((V) ((V) ((NC) ((D 2) ((L H 2) ((NI H 2) fun hl1=>(BN (Bin.sub (z5e (k:=1) hl1 (by decide)))) ?_)))))))
 refine bb hr fun y3 hy3 hr=>?_
 refine (CA ok93 (q3u hy3 (F0:=nF) hI1 dI (z5e (k:=1) hl1 (by decide)))) (cE H fun w2 H=>(N) (Z (iM hr (fun _ hr=>?_) fun _ hr=>?_)))
 ·refine Y ?_
  refine q0a [] trivial fun σ=>?_
  have H:HL F0 M w0 w2 d2 d1:=H
  refine X ((AZ) (CR ?_))
  have H:=H.nilS (α:=Phase)
  obtain rfl:=sm hr
  exact⟨_,res1 rfl rfl rfl,H.chg,_,_,_,rfl,H.outM (fr':=[.S ([]:List Phase) (.slice none 0 0)]) [true,true,true,true] fun _ h=>⟨h.get (i:=6) rfl,trivial⟩⟩
 refine K (Y ?_)
 refine q0a [(0,pB bo2),(5,.int .i64 y2)] ⟨rfl,rfl,trivial⟩ fun σ=>?_
 have H:HL F0 M w0 w2 d2 d1:=H
 refine X ((V) ((NC) ((D 2) ((L H 2) ((V) ?_)))))
 refine gg hr fun hg1 hr=>?_
 refine bb hr fun x1 hx1 hr=>?_
 obtain⟨b1,ob1,cb1,A1,n1,c1,hvb1,H⟩:=z5O H 2 hx1
 refine q0b rfl rfl (q0l rfl el37 sz54 rfl hvb1 rfl hg1 (q4G hx1)) ((L0 H 6) ((AZ) (CR ?_)))
 obtain rfl:=sm hr
 exact⟨_,res1 rfl rfl rfl,H.chg,_,_,_,rfl,H.outM (fr':=[.S x1 (.slice A1 n1 c1)]) [true,true,true,true] fun _ h=>⟨h.get (i:=8) rfl,trivial⟩⟩
def z3o (a1:Int):Nat→ByteArray→(List Occurrence)→Option (List Occurrence):=fun k1 x1 s1=>grd (((s1.length:Int)+1)*24≤140737488355328∧(s1.length:Int)+1≤9223372036854775807) <| some (s1++[(⟨a1,x1⟩:Occurrence)])
def q6C (a1:Int)(a2:(List ByteArray))(o2:visits):Option visits:=(q2J (z3o a1) 0 a2 o2.known).bind fun s1=>some (⟨o2.g,o2.phases,o2.r,o2.due,s1,o2.next⟩:visits)
theorem q7f {a1}{a2}{o2 r}(hr:q6C a1 a2 o2=some r){bo2:Nat}{Aa2:Option Addr}{na2 ca2:Nat}{Ao2_0:Option Addr}{no2_0 co2_0:Nat}{Ao2_1:Option Addr}{no2_1 co2_1:Nat}{Ao2_2:Option Addr}{no2_2 co2_2:Nat}{Ao2_5:Option Addr}{no2_5 co2_5:Nat}{Ao2_7:Option Addr}{no2_7 co2_7:Nat}{Ao2_8:Option Addr}{no2_8 co2_8:Nat}{Ao2_9:Option Addr}{no2_9 co2_9:Nat}{Ao2_10:Option Addr}{no2_10 co2_10:Nat}{Ao2_11:Option Addr}{no2_11 co2_11:Nat}(hIa1:I64 a1)(hIo2_3:o2.r.Name.size≤9223372036854775807)(hIo2_4:o2.r.Left.size≤9223372036854775807)(H:HL F0 M w0 w0 [.S a2 (.slice Aa2 na2 ca2),.S o2.g.Symbols (.slice Ao2_0 no2_0 co2_0),.S o2.g.Rules (.slice Ao2_1 no2_1 co2_1),.S o2.phases (.slice Ao2_2 no2_2 co2_2),.S o2.r.Right (.slice Ao2_5 no2_5 co2_5),.S o2.r.Equations (.slice Ao2_7 no2_7 co2_7),.S o2.r.Contributions (.slice Ao2_8 no2_8 co2_8)] [.O 133 o2.due (.slice Ao2_9 no2_9 co2_9),.O 3 o2.next (.slice Ao2_11 no2_11 co2_11),.B bo2 119 [.slice Ao2_0 no2_0 co2_0,.slice Ao2_1 no2_1 co2_1,.slice Ao2_2 no2_2 co2_2,.string o2.r.Name,.string o2.r.Left,.slice Ao2_5 no2_5 co2_5,.bool o2.r.Literal,.slice Ao2_7 no2_7 co2_7,.slice Ao2_8 no2_8 co2_8,.slice Ao2_9 no2_9 co2_9,.slice Ao2_10 no2_10 co2_10,.slice Ao2_11 no2_11 co2_11],.O 133 o2.known (.slice Ao2_10 no2_10 co2_10)]):RM 57 #[pB bo2,.int .i64 a1,.slice Aa2 na2 ca2] M w0 fun v w=>∃ A0 n0 c0 A1 n1 c1,∃ A2 n2 c2,v = .tuple #[]∧r.r.Name.size≤9223372036854775807∧r.r.Left.size≤9223372036854775807∧HL F0 M w0 w [] [.O 133 r.due (.slice A0 n0 c0),.O 3 r.next (.slice A2 n2 c2),.B bo2 119 [.slice Ao2_0 no2_0 co2_0,.slice Ao2_1 no2_1 co2_1,.slice Ao2_2 no2_2 co2_2,.string r.r.Name,.string r.r.Left,.slice Ao2_5 no2_5 co2_5,.bool r.r.Literal,.slice Ao2_7 no2_7 co2_7,.slice Ao2_8 no2_8 co2_8,(.slice A0 n0 c0),(.slice A1 n1 c1),(.slice A2 n2 c2)],.O 133 r.known (.slice A1 n1 c1)]:=by
 refine (En Tryz.func57) ?_
 refine R ((V) ((NI H 0) fun hl1=>(V) (Z ?_)))
 refine bb hr fun q1 hq1 hr=>?_
 refine (lE hq1 (fun k1 s1 v1=>[(0,pB bo2),(1,.int .i64 a1),(8,.slice Aa2 na2 ca2),(9,zN a2.length),(10,zN k1)]) (fun s1 v1 w=>HL F0 M w0 w [.S a2 (.slice Aa2 na2 ca2),.S o2.g.Symbols (.slice Ao2_0 no2_0 co2_0),.S o2.g.Rules (.slice Ao2_1 no2_1 co2_1),.S o2.phases (.slice Ao2_2 no2_2 co2_2),.S o2.r.Right (.slice Ao2_5 no2_5 co2_5),.S o2.r.Equations (.slice Ao2_7 no2_7 co2_7),.S o2.r.Contributions (.slice Ao2_8 no2_8 co2_8)] [.O 133 o2.due (.slice Ao2_9 no2_9 co2_9),.O 3 o2.next (.slice Ao2_11 no2_11 co2_11),.B bo2 119 [.slice Ao2_0 no2_0 co2_0,.slice Ao2_1 no2_1 co2_1,.slice Ao2_2 no2_2 co2_2,.string o2.r.Name,.string o2.r.Left,.slice Ao2_5 no2_5 co2_5,.bool o2.r.Literal,.slice Ao2_7 no2_7 co2_7,.slice Ao2_8 no2_8 co2_8,.slice Ao2_9 no2_9 co2_9,v1,.slice Ao2_11 no2_11 co2_11],.O 133 s1 v1]) (.slice Ao2_10 no2_10 co2_10)) ?_
 rintro k1 s1 v1 σ w1 hk1 hq1 H
 obtain⟨A1,n1,c1,rfl⟩:=(fo H 3)
 refine R ((BZ) (Y ?_))
 refine q0e rfl (fun h1=>?_) (fun h1=>?_)
 ·have hk2:=q2G h1
  obtain⟨x1,z1,hx1,hb1,hq1⟩:=q8k hq1 hk2
  refine K (Y ?_)
  refine Bk (R ?_)
  obtain⟨b1,ob1,cb1,hvb1,hS1,H⟩:=q7l H 0 hx1
  refine (J 1 hvb1 hx1) ((L0 H 7) ((A) (Z (X ((V) ((V) ((NC) ((D 10) ((L H 2) ((V) ((V) ?_)))))))))))
  refine q0b rfl rfl (Ev.build rfl z7M q5v rfl rfl rfl rfl) ?_
  refine q0p rfl rfl rfl el95 q3n q5v rfl rfl rfl rfl rfl rfl fun b2 w2 hE hb hB=>?_
  have H:=H.newB hE hb hB
  refine gg hb1 fun hg1 hb1=>?_
  exact q0t (i:=3) (ys:=[(⟨a1,x1⟩:Occurrence)]) rfl rfl rfl el95 q3n z3v q5v rfl rfl rfl H rfl (fun _=>ownL.single ⟨rfl,hIa1,hS1,rfl⟩) (.inr ⟨_,_,rfl,At.blk (rb H 4)⟩) hg1 fun A2 n2 c2 w3 H=>(NC) ((D 10) ((SB H 2) fun w4 H=>Z (X ((AN hk2 hl1) ((V) (Z (I1 hb1 ⟨k1+1,(s1++[(⟨a1,x1⟩:Occurrence)]),(.slice A2 n2 c2)⟩)))))))
 obtain rfl:=q6Z hq1 (q2t h1)
 refine CE ?_
 obtain rfl:=sm hr
 exact⟨_,res0 rfl,H.chg,_,_,_,_,_,_,_,_,_,rfl,hIo2_3,hIo2_4,H.outM (fr':=[]) [true,true,true,true] tw⟩
def z7G (rec_icopyExpr:Expr→Option Expr):Nat→Expr→(List Expr)→Option (List Expr):=fun k1 x1 s1=>(rec_icopyExpr x1).bind fun y1=>grd (((s1.length:Int)+1)*88≤140737488355328∧(s1.length:Int)+1≤9223372036854775807) <| some (s1++[y1])
def z5x (rec_icopyExpr:Expr→Option Expr)(a0:Expr):Option Expr:=(q2J (z7G rec_icopyExpr) 0 a0.Args ([]:List Expr)).bind fun s1=>some (⟨a0.Kind,a0.N,a0.Pos,a0.Type_,a0.Symbol,a0.Name,s1⟩:Expr)
theorem j1v {rec_icopyExpr:Expr→Option Expr}(ih_icopyExpr:∀ {a0 r:Expr},rec_icopyExpr a0=some r→∀ {F0:Nat→Prop} {w0:World} {ca0} (ha0:rd F0 w0 a0 ca0),RT 164 #[ag ca0] w0 fun v w=>∃ A0 n0 c0,v = .agg #[.int .i64 r.Kind,.int .i64 r.N,.int .i64 r.Pos,.int .i64 r.Type_,.string r.Symbol,.string r.Name,(.slice A0 n0 c0)]∧I64 r.Kind∧I64 r.N∧I64 r.Pos∧I64 r.Type_∧r.Symbol.size≤9223372036854775807∧r.Name.size≤9223372036854775807∧HL F0 [] w0 w [] [.G 136 r.Args (.slice A0 n0 c0)]){a0 r}(hr:z5x rec_icopyExpr a0=some r){ca0}(ha0:rd F0 w0 a0 ca0):RT 164 #[ag ca0] w0 fun v w=>∃ A0 n0 c0,v = .agg #[.int .i64 r.Kind,.int .i64 r.N,.int .i64 r.Pos,.int .i64 r.Type_,.string r.Symbol,.string r.Name,(.slice A0 n0 c0)]∧I64 r.Kind∧I64 r.N∧I64 r.Pos∧I64 r.Type_∧r.Symbol.size≤9223372036854775807∧r.Name.size≤9223372036854775807∧HL F0 [] w0 w [] [.G 136 r.Args (.slice A0 n0 c0)]:=by
 have H:=(HL.start F0 w0).argR ha0
 obtain⟨A1,n1,c1,rfl,hI1,hI2,hI3,hI4,hS1,hS2,H⟩:=q3q H 0
 let d2:=q2D a0 A1 n1 c1
 refine (En Tryz.func164) ?_
 refine R ((BX H) fun b1 w1 H=>(AH q9V H) fun b2 w2 H=>Z (R ((A) (Z (Y (R ((D 6) ((L H 0) ((NI H 1) fun hl1=>(V) (Z ?_))))))))))
 let d1:It:=.B b2 136 [.int .i64 0,.int .i64 0,.int .i64 0,.int .i64 0,.string eB,.string eB,.slice none 0 0]
 have H:=H.nilG (α:=Expr) 136
 refine bb hr fun q1 hq1 hr=>?_
 refine Bk (CW.loop (α:=Nat × (List Expr) × Value) (fun ⟨k1,s1,v1⟩=>[(1,pB b1),(2,pB b2),(3,v1),(7,.slice A1 n1 c1),(8,zN a0.Args.length),(9,zN k1)]) (fun ⟨k1,s1,v1⟩ w=>k1≤a0.Args.length∧q2J (z7G rec_icopyExpr) k1 (a0.Args.drop k1) s1=some q1∧HL F0 [] w0 w [.R a0 d2,.S a0.Args (.slice A1 n1 c1)] [.B b1 136 d2,d1,.G 136 s1 v1]) (fun ⟨k1,s1,v1⟩=>a0.Args.length - k1) ⟨0,([]:List Expr),(.slice none 0 0)⟩ ⟨rfl,rfl,rfl,rfl,rfl,rfl,trivial⟩ ⟨Nat.zero_le _,hq1,H.keep 2 3⟩ ?_)
 rintro⟨k1,s1,v1⟩ σ w3 ⟨hk1,hq1,H⟩
 obtain⟨A2,n2,c2,rfl⟩:=(H.rG (i:=2) rfl).form3
 refine R ((BZ) (Y ?_))
 refine q0e rfl (fun h1=>?_) (fun h1=>?_)
 ·have hk2:=q2G h1
  obtain⟨x1,z1,hx1,hb1,hq1⟩:=q8k hq1 hk2
  refine K (Y ?_)
  refine Bk (R ?_)
  obtain⟨b3,ob3,cb3,A3,n3,c3,hvb3,hI5,hI6,hI7,hI8,hS3,hS4,H⟩:=q4f H 1 hx1
  let d3:=q2D x1 A3 n3 c3
  refine (J 7 hvb3 hx1) ((LA H 2) ((AH q9V H) fun b4 w4 H=>(SB H 3) fun w5 H=>Z (X ((V) ((LB H 3) ?_)))))
  refine bb hb1 fun y1 hy1 hb1=>?_
  obtain⟨F,hF,hcl⟩:=H.call
  refine (CA k1u (ih_icopyExpr hy1 (q2r.2 ⟨_,rfl,hI5,hI6,hI7,hI8,hS3,hS4,(hF.get (i:=4) rfl)⟩))) ?_
  rintro _ w6 hE ⟨A4,n4,c4,rfl,hI9,hI10,hI11,hI12,hS5,hS6,H'⟩
  have H:HL F0 [] w0 w6 [.R a0 d2,.S a0.Args (.slice A1 n1 c1),.A b3 (ob3+k1*7) d3,.R x1 d3,.S x1.Args (.slice A3 n3 c3)] [.B b1 136 d2,d1,.G 136 s1 (.slice A2 n2 c2),.B b4 136 d3,.G 136 y1.Args (.slice A4 n4 c4)]:=hcl H'
  refine q0p rfl rfl rfl z7L q5u q9V rfl rfl rfl rfl rfl rfl fun b5 w7 hE hb hB=>?_
  have H:=H.newB hE hb hB
  have H:=H.frzG (i:=4) rfl
  refine gg hb1 fun hg1 hb1=>?_
  refine q1k (i:=2) (ys:=[y1]) rfl rfl rfl z7L q5u j6c q9V rfl rfl rfl H rfl (fun F hF=>rdL.single (q2r.2 ⟨_,rfl,hI9,hI10,hI11,hI12,hS5,hS6,(hF.get (i:=5) rfl)⟩)) (.inr ⟨_,_,rfl,At.blk (rb H 5)⟩) hg1 fun A5 n5 c5 w8 H=>(A) (Z (X ((AN hk2 hl1) ((V) (Z ?_)))))
  obtain rfl:=sm hb1
  exact⟨⟨k1+1,(s1++[y1]),(.slice A5 n5 c5)⟩,⟨rfl,rfl,rfl,rfl,rfl,rfl,trivial⟩,⟨hk2,hq1,H.keep 2 3⟩,Nat.sub_lt_sub_left hk2 (Nat.lt_succ_self _)⟩
 obtain rfl:=q6Z hq1 (q2t h1)
 refine CE (R ((V) ((D 6) ((SB H 0) fun w9 H=>Z (R ((LB H 0) ((SB H 1) fun w10 H=>Z (CR ?_))))))))
 obtain rfl:=sm hr
 exact⟨_,resC rfl q7L q5u rfl rfl (ab H 1) rfl,H.ext0,_,_,_,rfl,hI1,hI2,hI3,hI4,hS1,hS2,H.outM (fr':=[]) [false,false,true] tw⟩
def q9x:Nat→Expr→Option Expr
  | 0,_=>none
  | n+1,a0=>z5x (q9x n) a0
def z5y (a0:Expr):Option Expr:=recO fun n=>q9x n a0
theorem j1w (n:Nat):∀ {a0 r:Expr},q9x n a0=some r→∀ {F0:Nat→Prop} {w0:World} {ca0} (ha0:rd F0 w0 a0 ca0),RT 164 #[ag ca0] w0 fun v w=>∃ A0 n0 c0,v = .agg #[.int .i64 r.Kind,.int .i64 r.N,.int .i64 r.Pos,.int .i64 r.Type_,.string r.Symbol,.string r.Name,(.slice A0 n0 c0)]∧I64 r.Kind∧I64 r.N∧I64 r.Pos∧I64 r.Type_∧r.Symbol.size≤9223372036854775807∧r.Name.size≤9223372036854775807∧HL F0 [] w0 w [] [.G 136 r.Args (.slice A0 n0 c0)]:=by
 induction n with
 | zero=>intro a0 r hr; exact nomatch (show (none:Option Expr)=some r from hr)
 | succ n ih=>intro a0 r hr; exact j1v ih hr
theorem j2v {a0 r}(hr:z5y a0=some r){ca0}(ha0:rd F0 w0 a0 ca0):RT 164 #[ag ca0] w0 fun v w=>∃ A0 n0 c0,v = .agg #[.int .i64 r.Kind,.int .i64 r.N,.int .i64 r.Pos,.int .i64 r.Type_,.string r.Symbol,.string r.Name,(.slice A0 n0 c0)]∧I64 r.Kind∧I64 r.N∧I64 r.Pos∧I64 r.Type_∧r.Symbol.size≤9223372036854775807∧r.Name.size≤9223372036854775807∧HL F0 [] w0 w [] [.G 136 r.Args (.slice A0 n0 c0)]:=by
 obtain⟨n,hn⟩:=q4v hr
 exact j1w n hn ha0
def z0o (a1:Occurrence):Nat→Equation→Unit→Option (Unit ⊕ (Expr × Bool)):=fun k1 x1 _=>if x1.At=a1 then (z5y x1.Expr).bind fun y1=>some (.inr (y1,true)) else some (.inl ())
def q7I (a0:Rule)(a1:Occurrence):Option (Expr × Bool):=(q2u (z0o a1) 0 a0.Equations ()).bind <| onr (fun r1=>some r1) fun _=>some ((⟨0,0,0,0,(⟨#[]⟩:ByteArray),(⟨#[]⟩:ByteArray),[]⟩:Expr),false)
theorem z8e {a0}{a1}{r}(hr:q7I a0 a1=some r){ca0}(ha0:rd F0 w0 a0 ca0){ca1}(ha1:rd F0 w0 a1 ca1):RT 130 #[ag ca0,ag ca1] w0 fun v w=>∃ A0 n0 c0,v = .tuple #[.agg #[.int .i64 r.1.Kind,.int .i64 r.1.N,.int .i64 r.1.Pos,.int .i64 r.1.Type_,.string r.1.Symbol,.string r.1.Name,(.slice A0 n0 c0)],.bool r.2]∧I64 r.1.Kind∧I64 r.1.N∧I64 r.1.Pos∧I64 r.1.Type_∧r.1.Symbol.size≤9223372036854775807∧r.1.Name.size≤9223372036854775807∧HL F0 [] w0 w [] [.G 136 r.1.Args (.slice A0 n0 c0)]:=by
 let d3:List Value:=[.int .i64 a1.Pos,.string a1.Name]
 have H:=((HL.start F0 w0).argR ha0).argR ha1
 obtain⟨A1,n1,c1,A2,n2,c2,A3,n3,c3,rfl,hS1,hS2,H⟩:=q3j H 0
 let d5:Pr:=.S a0.Contributions (.slice A3 n3 c3)
 let d2:=q4o a0 A1 n1 c1 A2 n2 c2 A3 n3 c3
 obtain⟨rfl,hI1,hS3,H⟩:=q2z H 1
 refine (En Tryz.func130) ?_
 refine R ((BX H) fun b1 w1 H=>(BX H) fun b2 w2 H=>(AH q9V H) fun b3 w3 H=>(A) (Z (Y (R ((D 4) ((L H 0) ((NI H 3) fun hl1=>(V) (Z ?_))))))))
 let d1:It:=.B b3 136 [.int .i64 0,.int .i64 0,.int .i64 0,.int .i64 0,.string eB,.string eB,.slice none 0 0]
 refine bb hr fun q1 hq1 hr=>?_
 refine (lF hq1 (fun k1 _ _=>[(3,pB b2),(4,pB b3),(9,.slice A2 n2 c2),(10,zN a0.Equations.length),(11,zN k1)]) (fun _ _ w=>HL F0 [] w0 w [.R a0 d2,.R a1 d3,.S a0.Right (.slice A1 n1 c1),.S a0.Equations (.slice A2 n2 c2),d5] [.B b1 62 d2,.B b2 133 d3,d1]) ()) ?_
 rintro k1 _ _ σ w4 hk1 hq1 H
 refine R ((BZ) (Y ?_))
 refine q0e rfl (fun h1=>?_) (fun h1=>?_)
 ·have hk2:=q2G h1
  obtain⟨x1,z1,hx1,hb1,hs1,ht1⟩:=q3o hq1 hk2
  refine K (Y ?_)
  refine Bk (R ?_)
  obtain⟨b4,ob4,cb4,A4,n4,c4,hvb4,hI2,hS4,hI3,hI4,hI5,hI6,hS5,hS6,H⟩:=q3P H 3 hx1
  let d4:=q5Z x1 A4 n4 c4
  refine (J 9 hvb4 hx1) ((LA H 5) ((AH z9P H) fun b5 w5 H=>(SB H 3) fun w6 H=>Z (R ((D 0) ?_))))
  refine q0b rfl rfl (q0c rfl z0l q3n rfl (Blk.part (rb H 3) 0 2) rfl) ((LB H 1) ((BN (q0D j0R (q4T x1.At a1))) (Z (iD hb1 (fun _ hb1=>?_) fun _ hb1=>?_))))
  ·refine R ((D 2) ?_)
   refine q0b rfl rfl (q0c rfl q7L q5u rfl (Blk.part (rb H 3) 2 7) rfl) ?_
   refine bb hb1 fun y1 hy1 hb1=>?_
   obtain⟨F,hF,hcl⟩:=H.call
   refine (CA k1u (j2v hy1 (q2r.2 ⟨_,rfl,hI3,hI4,hI5,hI6,hS5,hS6,(hF.get (i:=7) rfl)⟩))) ?_
   rintro _ w7 hE ⟨A5,n5,c5,rfl,hI7,hI8,hI9,hI10,hS7,hS8,H'⟩
   have H:HL F0 [] w0 w7 [.R a0 d2,.R a1 d3,.S a0.Right (.slice A1 n1 c1),.S a0.Equations (.slice A2 n2 c2),d5,.A b4 (ob4+k1*9) d4,.R x1 d4,.S x1.Expr.Args (.slice A4 n4 c4)] [.B b1 62 d2,.B b2 133 d3,d1,.B b5 138 d4,.G 136 y1.Args (.slice A5 n5 c5)]:=hcl H'
   refine (SB H 2) fun w8 H=>(AZ) (CR ?_)
   obtain rfl:=sm hb1
   obtain rfl:=ht1 _ rfl
   obtain rfl:=sm hr
   exact⟨_,z5I rfl q7L q5u rfl rfl rfl rfl (ab H 2) rfl,H.ext0,_,_,_,rfl,hI7,hI8,hI9,hI10,hS7,hS8,H.outM (fr':=[]) [false,false,false,false,true] tw⟩
  exact K (X ((AN hk2 hl1) ((V) (Z (I2 hb1 hs1 ⟨k1+1,(),()⟩)))))
 obtain rfl:=q2M hq1 (q2t h1)
 have hr:=(q2S _ _ _).symm.trans hr
 refine CE (R ?_)
 refine q0b rfl rfl (Ev.build rfl k0a q9V rfl rfl rfl rfl) ((SB H 2) fun w9 H=>(AZ) (CR ?_))
 have H:=H.nilG (α:=Expr) 136
 obtain rfl:=sm hr
 exact⟨_,z5I rfl q7L q5u rfl rfl rfl rfl (ab H 2) rfl,H.ext0,_,_,_,rfl,dI,dI,dI,dI,dI,dI,H.outM (fr':=[]) [false,false,false,true] tw⟩
def q8u (a0:Occurrence)(a1_0:visits):Option Bool:=(q2w a1_0.known a0).bind fun y1=>some (!y1)
theorem z4T {a0}{a1_0}{r}(hr:q8u a0 a1_0=some r){ca0}(ha0:rd F0 w0 a0 ca0){b1_0p:Nat}(ha1_0:CapP F0 w0 b1_0p a1_0){b1p:Nat}(ha1:F0 b1p∧At w0 b1p 0 [pB b1_0p]):RB 132 #[ag ca0,pB b1p] w0 r:=by
 have H:=(HL.start F0 w0).argR ha0
 obtain⟨rfl,hI1,hS1,H⟩:=q2z H 0
 obtain⟨cpa1_0,H⟩:=H.argP ha1_0
 obtain⟨A1,n1,c1,A2,n2,c2,A3,n3,c3,A4,n4,c4,A5,n5,c5,A6,n6,c6,A7,n7,c7,A8,n8,c8,A9,n9,c9,rfl,hS2,hS3,H⟩:=q6f H 2
 have H:=H.argA ha1
 refine (En Tryz.func132) ?_
 refine R ((BX H) fun b1 w1 H=>(AZ) (Y ?_))
 refine q0d hmix (by kernel_rfl) ?_
 refine (qL0 H 12) ((qNC) ((qD 10) ((qLC H 1) ((qLB H 0) ?_))))
 refine bb hr fun y1 hy1 hr=>?_
 refine (qC j4X (fun _ hq=>q2W hy1 (rs (H.ext hq) 10) ⟨rfl,hI1,hS1⟩)) ?_
 refine (qN) ((qA) ?_)
 refine QL.nil (fun w2 hE=>?_)
 have H:=H.ext hE
 exact W1 hr
def q3b (a1_0_0:visits):Nat→Occurrence→Unit→Option (Unit ⊕ Int):=fun k1 x1 _=>(q8u x1 a1_0_0).bind fun y1=>if y1=true then some (.inr (k1:Int)) else some (.inl ())
def q3i (a0:(List Occurrence))(a1_0_0:visits):Option Int:=(q2u (q3b a1_0_0) 0 a0 ()).bind <| onr (fun r1=>some r1) fun _=>some (-1)
theorem q6l {a0}{a1_0_0}{r}(hr:q3i a0 a1_0_0=some r){z0}(ha0:rdS F0 w0 a0 z0){b1_0_0p:Nat}(ha1_0_0:CapP F0 w0 b1_0_0p a1_0_0){b1_0p:Nat}(ha1_0:F0 b1_0p∧At w0 b1_0p 0 [pB b1_0_0p]):RT 135 #[z0,.func (.func 132) #[] #[pB b1_0p]] w0 fun v w=>v = .int .i64 r∧I64 r:=by
 obtain⟨A0',n0',c0',rfl⟩:=ha0.form3
 have H:=(HL.start F0 w0).argS ha0
 obtain⟨cpa1_0_0,H⟩:=H.argP ha1_0_0
 obtain⟨A1,n1,c1,A2,n2,c2,A3,n3,c3,A4,n4,c4,A5,n5,c5,A6,n6,c6,A7,n7,c7,A8,n8,c8,A9,n9,c9,rfl,hS1,hS2,H⟩:=q6f H 2
 let d1:List Value:=[.slice A1 n1 c1,.slice A2 n2 c2,.slice A3 n3 c3,.string a1_0_0.r.Name,.string a1_0_0.r.Left,.slice A4 n4 c4,.bool a1_0_0.r.Literal,.slice A5 n5 c5,.slice A6 n6 c6,.slice A7 n7 c7,.slice A8 n8 c8,.slice A9 n9 c9]
 have H:=H.argA ha1_0
 refine (En Tryz.func135) ?_
 refine R ((A) (Z (Y (R ((V) ((NI H 0) fun hl1=>(V) (Z ?_)))))))
 refine bb hr fun q1 hq1 hr=>?_
 refine (lF hq1 (fun k1 _ _=>[(0,.slice A0' n0' c0'),(1,.func (.func 132) #[] #[pB b1_0p]),(7,zN a0.length),(8,zN k1)]) (fun _ _ w=>HL F0 [] w0 w [.S a0 (.slice A0' n0' c0'),.A b1_0_0p 0 d1,.R a1_0_0 d1,.S a1_0_0.g.Symbols (.slice A1 n1 c1),.S a1_0_0.g.Rules (.slice A2 n2 c2),.S a1_0_0.phases (.slice A3 n3 c3),.S a1_0_0.r.Right (.slice A4 n4 c4),.S a1_0_0.r.Equations (.slice A5 n5 c5),.S a1_0_0.r.Contributions (.slice A6 n6 c6),.S a1_0_0.due (.slice A7 n7 c7),.S a1_0_0.known (.slice A8 n8 c8),.S a1_0_0.next (.slice A9 n9 c9),.A b1_0p 0 [pB b1_0_0p]] []) ()) ?_
 rintro k1 _ _ σ w1 hk1 hq1 H
 refine R ((BZ) (Y ?_))
 refine q0e rfl (fun h1=>?_) (fun h1=>?_)
 ·have hk2:=q2G h1
  obtain⟨x1,z1,hx1,hb1,hs1,ht1⟩:=q3o hq1 hk2
  refine K (Y ?_)
  refine Bk (R ((V) ((A) (Z (R ((V) ((V) ((V) ?_))))))))
  obtain⟨b1,ob1,cb1,hvb1,hI1,hS3,H⟩:=q5E H 0 hx1
  refine (J 2 hvb1 hx1) ((LA H 13) ?_)
  refine bb hb1 fun y1 hy1 hb1=>?_
  refine (CA k2J (z4T hy1 (F0:=fun q=>q < _) ⟨rfl,hI1,hS3⟩ ⟨H.rAl (i:=1) rfl,_,H.rA (i:=1) rfl,⟨_,_,_,_,_,_,_,_,_,rfl,hS1,hS2,(rs H 3),(rs H 4),(rs H 5),(rs H 6),(rs H 7),(rs H 8),(rs H 9),(rs H 10),(rs H 11)⟩⟩ ⟨H.rAl (i:=12) rfl,H.rA (i:=12) rfl⟩)) (cE H fun w2 H=>Z (iB hb1 (fun _ hb1=>?_) fun _ hb1=>?_))
  ·exact R ((V) ((AZ) (W2 hb1 ht1 hr)))
  exact K (X ((AN hk2 hl1) ((V) (Z (I2 hb1 hs1 ⟨k1+1,(),()⟩)))))
 obtain rfl:=q2M hq1 (q2t h1)
 have hr:=(q2S _ _ _).symm.trans hr
 exact CE (R ((AZ) (W1 hr)))
def q2T (a0:(List Occurrence))(a1_0_0:visits):Option Bool:=(q3i a0 a1_0_0).bind fun y1=>some (decide (0≤y1))
theorem q5S {a0}{a1_0_0}{r}(hr:q2T a0 a1_0_0=some r){z0}(ha0:rdS F0 w0 a0 z0){b1_0_0p:Nat}(ha1_0_0:CapP F0 w0 b1_0_0p a1_0_0){b1_0p:Nat}(ha1_0:F0 b1_0p∧At w0 b1_0p 0 [pB b1_0_0p]):RB 98 #[z0,.func (.func 132) #[] #[pB b1_0p]] w0 r:=by
 obtain⟨A0',n0',c0',rfl⟩:=ha0.form3
 have H:=(HL.start F0 w0).argS ha0
 obtain⟨cpa1_0_0,H⟩:=H.argP ha1_0_0
 obtain⟨A1,n1,c1,A2,n2,c2,A3,n3,c3,A4,n4,c4,A5,n5,c5,A6,n6,c6,A7,n7,c7,A8,n8,c8,A9,n9,c9,rfl,hS1,hS2,H⟩:=q6f H 2
 have H:=H.argA ha1_0
 refine (En Tryz.func98) ?_
 refine R ((A) (Z (R ((V) ((V) ?_)))))
 refine bb hr fun y1 hy1 hr=>?_
 exact (CA j8e (q6l hy1 (F0:=fun q=>q < _) (rs H 0) ⟨H.rAl (i:=1) rfl,_,H.rA (i:=1) rfl,⟨_,_,_,_,_,_,_,_,_,rfl,hS1,hS2,(rs H 3),(rs H 4),(rs H 5),(rs H 6),(rs H 7),(rs H 8),(rs H 9),(rs H 10),(rs H 11)⟩⟩ ⟨H.rAl (i:=12) rfl,H.rA (i:=12) rfl⟩)) (cF' H fun w1 hI1 H=>(B) ((AZ) (W1 hr)))
def q7T (a0:visits)(a1:Occurrence):Option Bool:=(q2w a0.due a1).bind fun y1=>if y1=true then (q2w a0.known a1).bind fun y2=>if y2=true then some false else (q7I a0.r a1).bind fun (y3,y4)=>if y4=true then (q7d y3).bind fun y5=>(q2T y5 a0).bind fun y6=>some (!y6) else some false else some false
theorem z6t {a0}{a1}{r}(hr:q7T a0 a1=some r){b0p:Nat}(ha0:CapP F0 w0 b0p a0){ca1}(ha1:rd F0 w0 a1 ca1):RB 94 #[pB b0p,ag ca1] w0 r:=by
 have H:=(HL.start F0 w0).argR ha1
 obtain⟨rfl,hI1,hS1,H⟩:=q2z H 0
 obtain⟨cpa0,H⟩:=H.argP ha0
 obtain⟨A1,n1,c1,A2,n2,c2,A3,n3,c3,A4,n4,c4,A5,n5,c5,A6,n6,c6,A7,n7,c7,A8,n8,c8,A9,n9,c9,rfl,hS2,hS3,H⟩:=q6f H 2
 let d1:List Value:=[.slice A1 n1 c1,.slice A2 n2 c2,.slice A3 n3 c3,.string a0.r.Name,.string a0.r.Left,.slice A4 n4 c4,.bool a0.r.Literal,.slice A5 n5 c5,.slice A6 n6 c6,.slice A7 n7 c7,.slice A8 n8 c8,.slice A9 n9 c9]
 refine (En Tryz.func94) ?_
 refine R ((BX H) fun b1 w1 H=>(BX H) fun b2 w2 H=>(AZ) (Y (Y ?_)))
 refine q0d hmix (by kernel_rfl) ?_
 refine (qL H 0) ((qNC) ((qD 9) ((qLC H 1) ((qLB H 1) ?_))))
 refine bb hr fun y1 hy1 hr=>?_
 refine (qC j4X (fun _ hq=>q2W hy1 (rs (H.ext hq) 9) ⟨rfl,hI1,hS1⟩)) ?_
 refine (qN) ?_
 refine kM hr (fun _ hr=>?_) fun h1 hr=>?_
 ·refine (qO) ((qO) ((qO) ((qO) ((qO) ((qO) ((qT) ?_))))))
  refine QL.nil (fun w3 hE=>?_)
  have H:=H.ext hE
  exact (cT) (R ((AZ) (W1 hr)))
 refine (qG) ((qL H 0) ((qG) ((qNC) ((qG) ((qD 10) ((qG) ((qLC H 1) ((qG) ((qLB H 1) ((qG) ?_))))))))))
 refine bb hr fun y2 hy2 hr=>?_
 refine (qC j4X (fun _ hq=>q2W hy2 (rs (H.ext hq) 10) ⟨rfl,hI1,hS1⟩)) ?_
 refine (qU) ?_
 refine QL.nil (fun w4 hE=>?_)
 have H:=H.ext hE
 refine iB hr (fun _ hr=>?_) fun h2 hr=>?_
 ·exact R ((AZ) (W1 hr))
 refine K ?_
 obtain⟨⟨y3,y4⟩,hy3,hr⟩:=bd hr
 obtain⟨F_G1,hFl_G1,hF_G1,hcl_G1⟩:=H.callL
 refine Y ?_
 refine q0E 11 (fun ρ=>[.fix (pB b0p),.fix (pB b0p),.fix (.pointer (some ⟨b0p,0+3,none⟩)),.fix (.agg #[.string a0.r.Name,.string a0.r.Left,.slice A4 n4 c4,.bool a0.r.Literal,.slice A5 n5 c5,.slice A6 n6 c6]),.fix (.agg #[.int .i64 a1.Pos,.string a1.Name]),.free (fun S v w=>∃ A10:Option Addr,∃ n10:Nat,∃ c10:Nat,v = .tuple #[.agg #[.int .i64 y3.Kind,.int .i64 y3.N,.int .i64 y3.Pos,.int .i64 y3.Type_,.string y3.Symbol,.string y3.Name,.slice A10 n10 c10],.bool y4]∧I64 y3.Kind∧I64 y3.N∧I64 y3.Pos∧I64 y3.Type_∧y3.Symbol.size≤9223372036854775807∧y3.Name.size≤9223372036854775807∧NewV F_G1 w4 S w [] [.G 136 y3.Args (.slice A10 n10 c10)]),.dep 28 id,.dep 22 (z1P 0),.dep 22 (z1P 1),.free (VarB 136 7),.wr 5 29 (WrB 136)]) [[],[],[],[],[],[],[28],[22],[22],[],[5,29]] NoM (fun _ _=>True) [] [none,none,none,none,none,none,none,none,none,none,some 9] (noM _) hmix (by kernel_rfl) rfl ⟨trivial,trivial,trivial,trivial,trivial,fun _ _ _ _ _ ⟨A10,n10,c10,hv,h0,h1,h2,h3,h4,h5,hh⟩ hc hS hT=>⟨A10,n10,c10,hv,h0,h1,h2,h3,h4,h5,hh.chgT hc hS hT hFl_G1⟩,trivial,trivial,trivial,fun _ _ _ _ _ h hc hS _=>h.chgT hc hS,fun _ _ _ _ _ _ h hc hS _=>h.chgT hc hS,trivial⟩ trivial (fun _ _ _ _ _ _ _=>trivial) ?_
 refine q0g rfl rfl rfl rfl rfl (fun _ hq hK=>q0h rfl j9W rfl (((H.ext hq).rB (i:=0) rfl).cell rfl)) ?_
 refine q0g rfl rfl rfl rfl rfl (fun _ hq hK=>q0o rfl rfl) ?_
 refine q0g rfl rfl rfl rfl rfl (fun _ hq hK=>q0m rfl k0b rfl) ?_
 refine q0g rfl rfl rfl rfl rfl (fun _ hq hK=>q0c rfl ag62 sz62 rfl (((H.ext hq).rA (i:=1) rfl).part 3 6) rfl) ?_
 refine q0g rfl rfl rfl rfl rfl (fun _ hq hK=>q0c rfl z0l q3n rfl (At.blk ((H.ext hq).rB (i:=1) rfl)) rfl) ?_
 refine LL2.free rfl rfl rfl rfl (fun wq hq hK=>?_) (fun v_G1_5 S_G1_5=>?_)
 ·have hF:=hF_G1.ext hq
  refine OpX.call rfl rfl rfl rfl k2I rfl (z8e hy3 ⟨_,_,_,rfl,hS2,hS3,(hF.get (i:=6) rfl),(hF.get (i:=7) rfl),(hF.get (i:=8) rfl)⟩ ⟨rfl,hI1,hS1⟩) ?_
  rintro _ w hE ⟨A10,n10,c10,rfl,h0,h1,h2,h3,h4,h5,hh⟩
  exact⟨hE,A10,n10,c10,rfl,h0,h1,h2,h3,h4,h5,NewV.of hFl_G1 hq hh⟩
 refine q0T rfl rfl rfl rfl rfl (.inl rfl) rfl ?_
 refine q0z rfl rfl rfl rfl rfl rfl rfl (fun wq hq hK=>?_) ?_
 ·have hK:∀ j' (_:(q2v _).contains j'=true),_:=hK 6 rfl
  obtain⟨A10,n10,c10,rfl,_,_,_,_,_,_,_⟩:=hK 5 rfl
  exact⟨_,_,rfl,rfl⟩
 refine q0z rfl rfl rfl rfl rfl rfl rfl (fun wq hq hK=>?_) ?_
 ·have hK:∀ j' (_:(q2v _).contains j'=true),_:=hK 6 rfl
  obtain⟨A10,n10,c10,rfl,_,_,_,_,_,_,_⟩:=hK 5 rfl
  exact⟨_,_,rfl,rfl⟩
 refine LL2.free rfl rfl rfl rfl (fun wq hq hK=>q0x rfl rfl q9V rfl) (fun v_G1_9 S_G1_9=>?_)
 refine LL2.st (k:=7) rfl rfl rfl (by decide) rfl rfl rfl rfl q5u rfl rfl (fun wq hq hK=>hK 9 rfl) (fun wq hq hK=>?_) ?_
 ·obtain⟨A10,n10,c10,rfl,_,_,_,_,_,_,_⟩:=hK 5 rfl
  exact⟨_,rfl,rfl,(all1 rfl (all1 rfl (all1 rfl (all1 rfl (all1 rfl (all1 rfl (all1 rfl all0)))))))⟩
 intro w5 hE _ hK hap hbd
 have hE:=z0q hE
 obtain⟨A10,n10,c10,rfl,hI2,hI3,hI4,hI5,hS4,hS5,hN1⟩:=hK 5 (by decide)
 obtain⟨b3,rfl,hN2⟩:=j0L (cells:=(q2D y3 A10 n10 c10)) (hK 9 (by decide)) (hK 10 (by decide)) rfl
 have H:=hcl_G1 (q0X (hN1.app (hN2.V tv) fun q h1 h2=>absurd (hap 5 9 q h1 h2) (by decide)) hE fun q hq=>hq.elim (fun h=>(hbd 5 q h).1) fun h=>(hbd 9 q h).1)
 refine (AZ) (Y ?_)
 refine q0a [(2,pB b1),(5,pB b3),(6,.bool y4)] ⟨rfl,rfl,rfl,trivial⟩ fun σ=>?_
 have H:HL F0 [] w0 w5 [.R a1 [.int .i64 a1.Pos,.string a1.Name],.A b0p 0 d1,.R a0 d1,.S a0.g.Symbols (.slice A1 n1 c1),.S a0.g.Rules (.slice A2 n2 c2),.S a0.phases (.slice A3 n3 c3),.S a0.r.Right (.slice A4 n4 c4),.S a0.r.Equations (.slice A5 n5 c5),.S a0.r.Contributions (.slice A6 n6 c6),.S a0.due (.slice A7 n7 c7),.S a0.known (.slice A8 n8 c8),.S a0.next (.slice A9 n9 c9)] [.B b1 113 [pB b0p],.B b2 133 [.int .i64 a1.Pos,.string a1.Name],.G 136 y3.Args (.slice A10 n10 c10),.B b3 136 (q2D y3 A10 n10 c10)]:=H
 refine X ((V) (jB hr (fun _ hr=>?_) fun _ hr=>?_))
 ·refine (G) ((LB H 3) ((G) ?_))
  refine bb hr fun y5 hy4 hr=>?_
  refine (CA k1s (z2r hy4 (q2r.2 ⟨_,rfl,hI2,hI3,hI4,hI5,hS4,hS5,(H.rG (i:=2) rfl)⟩))) ?_
  rintro _ w6 hE ⟨A11,n11,c11,rfl,H'⟩
  have H:=H.callA H' tv
  refine (G) ?_
  refine q0b rfl rfl (q0q rfl rfl rfl) ((G) ?_)
  refine bb hr fun y6 hy5 hr=>?_
  exact (CA ok98 (q5S hy5 (F0:=fun q=>q < _) (ro H 4) ⟨H.rAl (i:=1) rfl,_,H.rA (i:=1) rfl,⟨_,_,_,_,_,_,_,_,_,rfl,hS2,hS3,(rs H 3),(rs H 4),(rs H 5),(rs H 6),(rs H 7),(rs H 8),(rs H 9),(rs H 10),(rs H 11)⟩⟩ ⟨(rb H 0).lt,At.blk (rb H 0)⟩)) (cE H fun w7 H=>(G) ((N) ((T) ((AZ) (W1 hr)))))
 exact (O) ((O) ((O) ((O) ((O) ((U) ((AZ) (W1 hr)))))))
def q9y (a0:ByteArray)(a1_0:visits)(a2:Int):Option Bool:=(q2w a1_0.known (⟨a2,a0⟩:Occurrence)).bind fun y1=>some (!y1)
theorem z6u {a0}{a1_0}{a2}{r}(hr:q9y a0 a1_0 a2=some r)(ha0:a0.size≤9223372036854775807){b1_0p:Nat}(ha1_0:CapP F0 w0 b1_0p a1_0){b1p:Nat}(ha1:F0 b1p∧At w0 b1p 0 [pB b1_0p]){b2p:Nat}(ha2:CapP F0 w0 b2p a2):RB 134 #[.string a0,pB b1p,pB b2p] w0 r:=by
 have H:=HL.start F0 w0
 obtain⟨cpa1_0,H⟩:=H.argP ha1_0
 obtain⟨A1,n1,c1,A2,n2,c2,A3,n3,c3,A4,n4,c4,A5,n5,c5,A6,n6,c6,A7,n7,c7,A8,n8,c8,A9,n9,c9,rfl,hS1,hS2,H⟩:=q6f H 1
 have H:=H.argA ha1
 obtain⟨cpa2,H⟩:=H.argP ha2
 obtain⟨rfl,hI1,H⟩:=z7u H 13
 refine (En Tryz.func134) ?_
 refine R ((AZ) (Y ?_))
 refine q0d hmix (by kernel_rfl) ?_
 refine (qL0 H 11) ((qNC) ((qD 10) ((qLC H 0) ((qL0 H 12) ((qV) ?_)))))
 refine q0i rfl rfl (fun _ _=>Ev.build rfl z7M q5v rfl rfl rfl rfl) ?_
 refine bb hr fun y1 hy1 hr=>?_
 refine (qC j4X (fun _ hq=>q2W hy1 (rs (H.ext hq) 9) ⟨rfl,hI1,ha0⟩)) ?_
 refine (qN) ((qA) ?_)
 refine QL.nil (fun w1 hE=>?_)
 have H:=H.ext hE
 exact W1 hr
def q3C (a1_0_0:visits)(a1_1:Int):Nat→ByteArray→Unit→Option (Unit ⊕ Int):=fun k1 x1 _=>(q9y x1 a1_0_0 a1_1).bind fun y1=>if y1=true then some (.inr (k1:Int)) else some (.inl ())
def q3G (a0:(List ByteArray))(a1_0_0:visits)(a1_1:Int):Option Int:=(q2u (q3C a1_0_0 a1_1) 0 a0 ()).bind <| onr (fun r1=>some r1) fun _=>some (-1)
theorem q7g {a0}{a1_0_0}{a1_1 r}(hr:q3G a0 a1_0_0 a1_1=some r){z0}(ha0:rdS F0 w0 a0 z0){b1_0_0p:Nat}(ha1_0_0:CapP F0 w0 b1_0_0p a1_0_0){b1_0p:Nat}(ha1_0:F0 b1_0p∧At w0 b1_0p 0 [pB b1_0_0p]){b1_1p:Nat}(ha1_1:CapP F0 w0 b1_1p a1_1):RT 169 #[z0,.func (.func 134) #[] #[pB b1_0p,pB b1_1p]] w0 fun v w=>v = .int .i64 r∧I64 r:=by
 obtain⟨A0',n0',c0',rfl⟩:=ha0.form3
 have H:=(HL.start F0 w0).argS ha0
 obtain⟨cpa1_0_0,H⟩:=H.argP ha1_0_0
 obtain⟨A1,n1,c1,A2,n2,c2,A3,n3,c3,A4,n4,c4,A5,n5,c5,A6,n6,c6,A7,n7,c7,A8,n8,c8,A9,n9,c9,rfl,hS1,hS2,H⟩:=q6f H 2
 let d1:List Value:=[.slice A1 n1 c1,.slice A2 n2 c2,.slice A3 n3 c3,.string a1_0_0.r.Name,.string a1_0_0.r.Left,.slice A4 n4 c4,.bool a1_0_0.r.Literal,.slice A5 n5 c5,.slice A6 n6 c6,.slice A7 n7 c7,.slice A8 n8 c8,.slice A9 n9 c9]
 have H:=H.argA ha1_0
 obtain⟨cpa1_1,H⟩:=H.argP ha1_1
 obtain⟨rfl,hI1,H⟩:=z7u H 14
 refine (En Tryz.func169) ?_
 refine R ((A) (Z (Y (R ((V) ((NI H 0) fun hl1=>(V) (Z ?_)))))))
 refine bb hr fun q1 hq1 hr=>?_
 refine (lF hq1 (fun k1 _ _=>[(0,.slice A0' n0' c0'),(1,.func (.func 134) #[] #[pB b1_0p,pB b1_1p]),(7,zN a0.length),(8,zN k1)]) (fun _ _ w=>HL F0 [] w0 w [.S a0 (.slice A0' n0' c0'),.A b1_0_0p 0 d1,.R a1_0_0 d1,.S a1_0_0.g.Symbols (.slice A1 n1 c1),.S a1_0_0.g.Rules (.slice A2 n2 c2),.S a1_0_0.phases (.slice A3 n3 c3),.S a1_0_0.r.Right (.slice A4 n4 c4),.S a1_0_0.r.Equations (.slice A5 n5 c5),.S a1_0_0.r.Contributions (.slice A6 n6 c6),.S a1_0_0.due (.slice A7 n7 c7),.S a1_0_0.known (.slice A8 n8 c8),.S a1_0_0.next (.slice A9 n9 c9),.A b1_0p 0 [pB b1_0_0p],.A b1_1p 0 [.int .i64 a1_1],.R a1_1 [.int .i64 a1_1]] []) ()) ?_
 rintro k1 _ _ σ w1 hk1 hq1 H
 refine R ((BZ) (Y ?_))
 refine q0e rfl (fun h1=>?_) (fun h1=>?_)
 ·have hk2:=q2G h1
  obtain⟨x1,z1,hx1,hb1,hs1,ht1⟩:=q3o hq1 hk2
  refine K (Y ?_)
  refine Bk (R ((V) ((A) (Z (R ((V) ((V) ((V) ?_))))))))
  obtain⟨b1,ob1,cb1,hvb1,hS3,H⟩:=q7l H 0 hx1
  refine (J 1 hvb1 hx1) ((L0 H 15) ?_)
  refine bb hb1 fun y1 hy1 hb1=>?_
  refine (CA k2L (z6u hy1 (F0:=fun q=>q < _) hS3 ⟨H.rAl (i:=1) rfl,_,H.rA (i:=1) rfl,⟨_,_,_,_,_,_,_,_,_,rfl,hS1,hS2,(rs H 3),(rs H 4),(rs H 5),(rs H 6),(rs H 7),(rs H 8),(rs H 9),(rs H 10),(rs H 11)⟩⟩ ⟨H.rAl (i:=12) rfl,H.rA (i:=12) rfl⟩ ⟨H.rAl (i:=13) rfl,_,H.rA (i:=13) rfl,⟨rfl,hI1⟩⟩)) (cE H fun w2 H=>Z (iB hb1 (fun _ hb1=>?_) fun _ hb1=>?_))
  ·exact R ((V) ((AZ) (W2 hb1 ht1 hr)))
  exact K (X ((AN hk2 hl1) ((V) (Z (I2 hb1 hs1 ⟨k1+1,(),()⟩)))))
 obtain rfl:=q2M hq1 (q2t h1)
 have hr:=(q2S _ _ _).symm.trans hr
 exact CE (R ((AZ) (W1 hr)))
def q3t (a0:(List ByteArray))(a1_0_0:visits)(a1_1:Int):Option Bool:=(q3G a0 a1_0_0 a1_1).bind fun y1=>some (decide (0≤y1))
theorem q6D {a0}{a1_0_0}{a1_1}{r}(hr:q3t a0 a1_0_0 a1_1=some r){z0}(ha0:rdS F0 w0 a0 z0){b1_0_0p:Nat}(ha1_0_0:CapP F0 w0 b1_0_0p a1_0_0){b1_0p:Nat}(ha1_0:F0 b1_0p∧At w0 b1_0p 0 [pB b1_0_0p]){b1_1p:Nat}(ha1_1:CapP F0 w0 b1_1p a1_1):RB 133 #[z0,.func (.func 134) #[] #[pB b1_0p,pB b1_1p]] w0 r:=by
 obtain⟨A0',n0',c0',rfl⟩:=ha0.form3
 have H:=(HL.start F0 w0).argS ha0
 obtain⟨cpa1_0_0,H⟩:=H.argP ha1_0_0
 obtain⟨A1,n1,c1,A2,n2,c2,A3,n3,c3,A4,n4,c4,A5,n5,c5,A6,n6,c6,A7,n7,c7,A8,n8,c8,A9,n9,c9,rfl,hS1,hS2,H⟩:=q6f H 2
 have H:=H.argA ha1_0
 obtain⟨cpa1_1,H⟩:=H.argP ha1_1
 obtain⟨rfl,hI1,H⟩:=z7u H 14
 refine (En Tryz.func133) ?_
 refine R ((A) (Z (R ((V) ((V) ?_)))))
 refine bb hr fun y1 hy1 hr=>?_
 exact (CA k3g (q7g hy1 (F0:=fun q=>q < _) (rs H 0) ⟨H.rAl (i:=1) rfl,_,H.rA (i:=1) rfl,⟨_,_,_,_,_,_,_,_,_,rfl,hS1,hS2,(rs H 3),(rs H 4),(rs H 5),(rs H 6),(rs H 7),(rs H 8),(rs H 9),(rs H 10),(rs H 11)⟩⟩ ⟨H.rAl (i:=12) rfl,H.rA (i:=12) rfl⟩ ⟨H.rAl (i:=13) rfl,_,H.rA (i:=13) rfl,⟨rfl,hI1⟩⟩)) (cF' H fun w1 hI2 H=>(B) ((AZ) (W1 hr)))
def q7J (a0:visits)(a1:Int)(a2:(List ByteArray)):Option Bool:=(q3t a2 a0 a1).bind fun y1=>some (!y1)
theorem z3p {a0}{a1}{a2}{r}(hr:q7J a0 a1 a2=some r){b0p:Nat}(ha0:CapP F0 w0 b0p a0)(ha1:I64 a1){z2}(ha2:rdS F0 w0 a2 z2):RB 97 #[pB b0p,.int .i64 a1,z2] w0 r:=by
 obtain⟨A2',n2',c2',rfl⟩:=ha2.form3
 have H:=(HL.start F0 w0).argS ha2
 obtain⟨cpa0,H⟩:=H.argP ha0
 obtain⟨A1,n1,c1,A2,n2,c2,A3,n3,c3,A4,n4,c4,A5,n5,c5,A6,n6,c6,A7,n7,c7,A8,n8,c8,A9,n9,c9,rfl,hS1,hS2,H⟩:=q6f H 2
 refine (En Tryz.func97) ?_
 refine R ((BX H) fun b1 w1 H=>(BX H) fun b2 w2 H=>(A) (Z (R ((V) ?_))))
 refine q0b rfl rfl (q0q rfl rfl rfl) ?_
 refine bb hr fun y1 hy1 hr=>?_
 exact (CA k2K (q6D hy1 (F0:=fun q=>q < _) (rs H 0) ⟨H.rAl (i:=1) rfl,_,H.rA (i:=1) rfl,⟨_,_,_,_,_,_,_,_,_,rfl,hS1,hS2,(rs H 3),(rs H 4),(rs H 5),(rs H 6),(rs H 7),(rs H 8),(rs H 9),(rs H 10),(rs H 11)⟩⟩ ⟨(rb H 0).lt,At.blk (rb H 0)⟩ ⟨(rb H 1).lt,_,At.blk (rb H 1),⟨rfl,ha1⟩⟩)) (cE H fun w3 H=>(N) ((AZ) (W1 hr)))
def q7y (a0:visits)(a1:Int):Option Bool:=(q5n a0 a1).bind fun y1=>(q2Y a1 1 (a0.r.Right.length:Int)).bind fun y2=>( if y2=true then grd (0≤a1) <| (a0.next[a1.toNat]?).bind fun x1=>some (decide (x1 < (y1.length:Int))) else some false ).bind fun s1=>( if s1=true then grd (0≤a1) <| (a0.next[a1.toNat]?).bind fun x2=>grd (0≤x2) <| (y1[x2.toNat]?).bind fun x3=>(q7J a0 a1 x3.Inherited).bind fun y3=>some y3 else some false ).bind fun s2=>some s2
theorem z5z {a0}{a1}{r}(hr:q7y a0 a1=some r){b0p:Nat}(ha0:CapP F0 w0 b0p a0)(ha1:I64 a1):RB 95 #[pB b0p,.int .i64 a1] w0 r:=by
 have H:=HL.start F0 w0
 obtain⟨cpa0,H⟩:=H.argP ha0
 obtain⟨A1,n1,c1,A2,n2,c2,A3,n3,c3,A4,n4,c4,A5,n5,c5,A6,n6,c6,A7,n7,c7,A8,n8,c8,A9,n9,c9,rfl,hS1,hS2,H⟩:=q6f H 1
 let d2:List Value:=[.slice A1 n1 c1,.slice A2 n2 c2,.slice A3 n3 c3,.string a0.r.Name,.string a0.r.Left,.slice A4 n4 c4,.bool a0.r.Literal,.slice A5 n5 c5,.slice A6 n6 c6,.slice A7 n7 c7,.slice A8 n8 c8,.slice A9 n9 c9]
 refine (En Tryz.func95) ?_
 refine R ((A) (Z (R ((V) ((V) ?_)))))
 refine bb hr fun y1 hy1 hr=>?_
 obtain⟨F,hF,hcl⟩:=H.call
 refine (CA ok56 (z1j hy1 ⟨(hF.get (i:=0) rfl).1,_,(hF.get (i:=0) rfl).2,⟨_,_,_,_,_,_,_,_,_,rfl,hS1,hS2,(hF.get (i:=2) rfl),(hF.get (i:=3) rfl),(hF.get (i:=4) rfl),(hF.get (i:=5) rfl),(hF.get (i:=6) rfl),(hF.get (i:=7) rfl),(hF.get (i:=8) rfl),(hF.get (i:=9) rfl),(hF.get (i:=10) rfl)⟩⟩ ha1)) ?_
 rintro _ w1 hE ⟨A10,n10,c10,rfl,H'⟩
 let d1:List Pr:=[.A b0p 0 d2,.R a0 d2,.S a0.g.Symbols (.slice A1 n1 c1),.S a0.g.Rules (.slice A2 n2 c2),.S a0.phases (.slice A3 n3 c3),.S a0.r.Right (.slice A4 n4 c4),.S a0.r.Equations (.slice A5 n5 c5),.S a0.r.Contributions (.slice A6 n6 c6),.S a0.due (.slice A7 n7 c7),.S a0.known (.slice A8 n8 c8),.S a0.next (.slice A9 n9 c9),.S y1 (.slice A10 n10 c10)]
 have H:HL F0 [] w0 w1 d1 []:=hcl H'
 refine (A) (Z (R ((V) ((V) ((NC) ((D 3) ((D 2) ?_)))))))
 refine q0b rfl rfl (q0h rfl ag58 rfl ((ra H 0).cellK (k:=5) rfl rfl)) ((NI H 5) fun hl1=>?_)
 refine bb hr fun y2 hy2 hr=>?_
 refine (CA ok93 (q3u hy2 (F0:=nF) ha1 dI hl1)) (cE H fun w2 H=>?_)
 refine bb hr fun q1 hm1 hr=>?_
 refine cu H 12 [(0,pB b0p),(1,.int .i64 a1),(4,.bool false),(5,.slice A10 n10 c10),(28,.bool q1)] d1 [] ?_ fun σ w3 H=>?_
 ·refine jB hm1 (fun _ hm1=>?_) fun _ hm1=>?_
  ·refine (G) ((V) ((G) ((NC) ((G) ((D 11) ((G) ((LC H 0) ((G) ((V) ((G) ?_))))))))))
   refine gg hm1 fun hg1 hm1=>?_
   refine bb hm1 fun x1 hx1 hm1=>?_
   obtain⟨b1,ob1,cb1,hvb1,hI1,H⟩:=z6M H 10 hx1
   exact q0b rfl rfl (q0l rfl el94 sz3 rfl hvb1 rfl hg1 (q4G hx1)) ((G) ((L0 H 12) ((G) ((V) ((G) ((NI H 11) fun hl2=>(G) ((B) ((T) (Z (C1 hm1))))))))))
  exact OF hm1
 refine bb hr fun q2 hm2 hr=>?_
 refine cu H 16 [(4,.bool false),(44,.bool q2)] d1 [] ?_ fun σ w5 H=>?_
 ·refine jB hm2 (fun _ hm2=>?_) fun _ hm2=>?_
  ·refine (G) ((V) ((G) ((V) ((G) ((V) ((G) ((V) ((G) ((NC) ((G) ((D 11) ((G) ((LC H 0) ((G) ((V) ((G) ?_))))))))))))))))
   refine gg hm2 fun hg2 hm2=>?_
   refine bb hm2 fun x2 hx2 hm2=>?_
   obtain⟨b2,ob2,cb2,hvb2,hI2,H⟩:=z6M H 10 hx2
   refine q0b rfl rfl (q0l rfl el94 sz3 rfl hvb2 rfl hg2 (q4G hx2)) ((G) ((L0 H 12) ((G) ?_)))
   refine gg hm2 fun hg3 hm2=>?_
   refine bb hm2 fun x3 hx3 hm2=>?_
   obtain⟨b3,ob3,cb3,A11,n11,c11,A12,n12,c12,hvb3,H⟩:=q5M H 11 hx3
   refine q0b rfl rfl (q0l rfl el54 z5P rfl hvb3 rfl hg3 (q4G hx3)) ((G) ((D 0) ((G) ((LC H 14) ((G) ?_)))))
   refine bb hm2 fun y3 hy3 hm2=>?_
   exact (CA ok97 (z3p hy3 (F0:=fun q=>q < _) ⟨H.rAl (i:=0) rfl,_,H.rA (i:=0) rfl,⟨_,_,_,_,_,_,_,_,_,rfl,hS1,hS2,(rs H 2),(rs H 3),(rs H 4),(rs H 5),(rs H 6),(rs H 7),(rs H 8),(rs H 9),(rs H 10)⟩⟩ ha1 (rs H 16))) (cE H fun w4 H=>(T) (Z (C1 hm2)))
  exact OF hm2
 exact (AZ) (W1 hr)
def q8T (a1:Int)(o2:visits):Option visits:=( (q5e a1 o2).bind fun y1=>grd (0≤a1) <| (o2.next[a1.toNat]?).bind fun x1=>grd (0≤x1) <| (y1[x1.toNat]?).bind fun x2=>(q6C a1 x2.Synthesized o2).bind fun z1=>some (z1.due,z1.next,z1.r.Name,z1.r.Left,z1.r.Literal,z1.known) ).bind fun (s1,s2,s3,s4,s5,s6)=>grd (0≤a1) <| (s2[a1.toNat]?).bind fun x3=>grd (I64 (x3+1)) <| some (⟨o2.g,o2.phases,(⟨s3,s4,o2.r.Right,s5,o2.r.Equations,o2.r.Contributions⟩:Rule),s1,s6,(List.set s2 a1.toNat (x3+1))⟩:visits)
theorem z8f {a1}{o2 r}(hr:q8T a1 o2=some r){bo2:Nat}{Ao2_0:Option Addr}{no2_0 co2_0:Nat}{Ao2_1:Option Addr}{no2_1 co2_1:Nat}{Ao2_2:Option Addr}{no2_2 co2_2:Nat}{Ao2_5:Option Addr}{no2_5 co2_5:Nat}{Ao2_7:Option Addr}{no2_7 co2_7:Nat}{Ao2_8:Option Addr}{no2_8 co2_8:Nat}{Ao2_9:Option Addr}{no2_9 co2_9:Nat}{Ao2_10:Option Addr}{no2_10 co2_10:Nat}{Ao2_11:Option Addr}{no2_11 co2_11:Nat}(hIa1:I64 a1)(hIo2_3:o2.r.Name.size≤9223372036854775807)(hIo2_4:o2.r.Left.size≤9223372036854775807)(H:HL F0 M w0 w0 [.S o2.g.Symbols (.slice Ao2_0 no2_0 co2_0),.S o2.g.Rules (.slice Ao2_1 no2_1 co2_1),.S o2.phases (.slice Ao2_2 no2_2 co2_2),.S o2.r.Right (.slice Ao2_5 no2_5 co2_5),.S o2.r.Equations (.slice Ao2_7 no2_7 co2_7),.S o2.r.Contributions (.slice Ao2_8 no2_8 co2_8)] [.O 133 o2.due (.slice Ao2_9 no2_9 co2_9),.O 3 o2.next (.slice Ao2_11 no2_11 co2_11),.B bo2 119 [.slice Ao2_0 no2_0 co2_0,.slice Ao2_1 no2_1 co2_1,.slice Ao2_2 no2_2 co2_2,.string o2.r.Name,.string o2.r.Left,.slice Ao2_5 no2_5 co2_5,.bool o2.r.Literal,.slice Ao2_7 no2_7 co2_7,.slice Ao2_8 no2_8 co2_8,.slice Ao2_9 no2_9 co2_9,.slice Ao2_10 no2_10 co2_10,.slice Ao2_11 no2_11 co2_11],.O 133 o2.known (.slice Ao2_10 no2_10 co2_10)]):RM 96 #[pB bo2,.int .i64 a1] M w0 fun v w=>∃ A0 n0 c0 A1 n1 c1,∃ A2 n2 c2,v = .tuple #[]∧r.r.Name.size≤9223372036854775807∧r.r.Left.size≤9223372036854775807∧HL F0 M w0 w [] [.O 133 r.due (.slice A0 n0 c0),.O 3 r.next (.slice A2 n2 c2),.B bo2 119 [.slice Ao2_0 no2_0 co2_0,.slice Ao2_1 no2_1 co2_1,.slice Ao2_2 no2_2 co2_2,.string r.r.Name,.string r.r.Left,.slice Ao2_5 no2_5 co2_5,.bool r.r.Literal,.slice Ao2_7 no2_7 co2_7,.slice Ao2_8 no2_8 co2_8,(.slice A0 n0 c0),(.slice A1 n1 c1),(.slice A2 n2 c2)],.O 133 r.known (.slice A1 n1 c1)]:=by
 let d7:Pr:=.S o2.phases (.slice Ao2_2 no2_2 co2_2)
 let d6:Pr:=.S o2.r.Right (.slice Ao2_5 no2_5 co2_5)
 let d5:Pr:=.S o2.g.Rules (.slice Ao2_1 no2_1 co2_1)
 let d4:Pr:=.S o2.g.Symbols (.slice Ao2_0 no2_0 co2_0)
 let d3:Pr:=.S o2.r.Equations (.slice Ao2_7 no2_7 co2_7)
 let d2:Pr:=.S o2.r.Contributions (.slice Ao2_8 no2_8 co2_8)
 let d1:List Pr:=[d4,.S o2.g.Rules (.slice Ao2_1 no2_1 co2_1),.S o2.phases (.slice Ao2_2 no2_2 co2_2),.S o2.r.Right (.slice Ao2_5 no2_5 co2_5),d3,d2]
 refine (En Tryz.func96) ?_
 refine bb hr fun q1 hm1 hr=>Y ?_
 refine q0u (fun ρ' w=>∃ (s1:List Occurrence) (s2:List Int) (s3:ByteArray) (s4:ByteArray) (s5:Bool) (s6:List Occurrence) (v1:Value) (v2:Value) (v3:Value),q1=(s1,s2,s3,s4,s5,s6)∧q4R ρ' [(0,pB bo2),(1,.int .i64 a1)]∧s3.size≤9223372036854775807∧s4.size≤9223372036854775807∧HL F0 M w0 w d1 [.O 133 s1 v1,.O 3 s2 v2,.B bo2 119 [.slice Ao2_0 no2_0 co2_0,.slice Ao2_1 no2_1 co2_1,.slice Ao2_2 no2_2 co2_2,.string s3,.string s4,.slice Ao2_5 no2_5 co2_5,.bool s5,.slice Ao2_7 no2_7 co2_7,.slice Ao2_8 no2_8 co2_8,v1,v3,v2],.O 133 s6 v3]) ?_ ?_
 ·refine q0y (fun w=>∃ o0_:It,∃ o1_:It,∃ v2_3_:Value,∃ v2_4_:Value,∃ v2_6_:Value,∃ v2_9_:Value,∃ v2_10_:Value,∃ v2_11_:Value,∃ o3_:It,HL F0 M w0 w d1 [o0_,o1_,.B bo2 119 [.slice Ao2_0 no2_0 co2_0,.slice Ao2_1 no2_1 co2_1,.slice Ao2_2 no2_2 co2_2,v2_3_,v2_4_,.slice Ao2_5 no2_5 co2_5,v2_6_,.slice Ao2_7 no2_7 co2_7,.slice Ao2_8 no2_8 co2_8,v2_9_,v2_10_,v2_11_],o3_]) hmix (fun w1 hE=>?_)
  have H:HL F0 M w0 w1 d1 [.O 133 o2.due (.slice Ao2_9 no2_9 co2_9),.O 3 o2.next (.slice Ao2_11 no2_11 co2_11),.B bo2 119 [.slice Ao2_0 no2_0 co2_0,.slice Ao2_1 no2_1 co2_1,.slice Ao2_2 no2_2 co2_2,.string o2.r.Name,.string o2.r.Left,.slice Ao2_5 no2_5 co2_5,.bool o2.r.Literal,.slice Ao2_7 no2_7 co2_7,.slice Ao2_8 no2_8 co2_8,.slice Ao2_9 no2_9 co2_9,.slice Ao2_10 no2_10 co2_10,.slice Ao2_11 no2_11 co2_11],.O 133 o2.known (.slice Ao2_10 no2_10 co2_10)]:=H.ext hE
  refine HW.take 0 ⟨_,_,_,_,_,_,_,_,_,H.keep 6 4⟩ rfl (by kernel_rfl) rfl rfl (fun _ _=>q0j rfl rfl) ?_
  refine HW.take 1 ⟨_,_,_,_,_,_,_,_,_,H.keep 6 4⟩ rfl (by kernel_rfl) rfl rfl (fun _ _=>q0j rfl rfl) ?_
  refine HW.take 2 ⟨_,_,_,_,_,_,_,_,_,H.keep 6 4⟩ rfl (by kernel_rfl) rfl rfl (fun _ _=>q0j rfl rfl) ?_
  refine HW.take 3 ⟨_,_,_,_,_,_,_,_,_,H.keep 6 4⟩ rfl (by kernel_rfl) rfl rfl (fun _ _=>q0j rfl rfl) ?_
  refine HW.take 5 ⟨_,_,_,_,_,_,_,_,_,H.keep 6 4⟩ rfl (by kernel_rfl) rfl rfl (fun _ _=>q0j rfl rfl) ?_
  refine HW.take 6 ⟨_,_,_,_,_,_,_,_,_,H.keep 6 4⟩ rfl (by kernel_rfl) rfl rfl (fun _ _=>q0o rfl rfl) ?_
  refine HW.take 7 ⟨_,_,_,_,_,_,_,_,_,H.keep 6 4⟩ rfl (by kernel_rfl) rfl rfl (fun _ _=>q0m rfl j6h rfl) ?_
  refine HW.take 9 ⟨_,_,_,_,_,_,_,_,_,H.keep 6 4⟩ rfl (by kernel_rfl) rfl rfl (fun _ _=>q0j rfl rfl) ?_
  refine q1b [4,8] (by kernel_rfl) rfl ⟨q0M rfl ?_,q0M rfl ?_,trivial⟩
  ·refine bb hm1 fun y1 hy1 hm1=>?_
   obtain⟨F',M',hfF,hcM⟩:=H.callW [true,true,true,true] ⟨noO,noO,noB,noO,trivial⟩
   obtain⟨H',hcN⟩:=hcM (ps:=d1) ⟨hfF.get (i:=0) rfl,hfF.get (i:=1) rfl,hfF.get (i:=2) rfl,hfF.get (i:=3) rfl,hfF.get (i:=4) rfl,hfF.get (i:=5) rfl,trivial⟩
   refine (CA ok56 (q4L hy1 hIa1 hIo2_3 hIo2_4 H')) ?_
   rintro _ w2 hE ⟨A1,n1,c1,rfl,H'⟩
   have H:=hcN 4 H' rfl
   refine HW.next ⟨_,_,_,_,_,_,_,_,_,H.keep 6 4⟩ ?_
   refine q0f 8 rfl (by kernel_rfl) ((L H 2) ?_)
   refine HW.next ⟨_,_,_,_,_,_,_,_,_,H.keep 6 4⟩ ?_
   refine gg hm1 fun hg1 hm1=>?_
   refine bb hm1 fun x1 hx1 hm1=>?_
   obtain⟨b1,cb1,hvb1,hbb1⟩:=po H 1 hx1
   refine HW.take 10 ⟨_,_,_,_,_,_,_,_,_,H.keep 6 4⟩ rfl (by kernel_rfl) rfl rfl (fun _ _=>q0l rfl el94 sz3 rfl hvb1 rfl hg1 (q4G hx1)) ?_
   refine q0f 11 rfl (by kernel_rfl) ?_
   obtain⟨hA1,hI1,H⟩:=q5p H 1 hx1 hbb1
   refine q0b rfl rfl (q0h rfl ag3 rfl (hA1.cell0 rfl)) ?_
   refine HW.next ⟨_,_,_,_,_,_,_,_,_,H.keep 6 4⟩ ?_
   refine gg hm1 fun hg2 hm1=>?_
   refine bb hm1 fun x2 hx2 hm1=>?_
   obtain⟨b2,ob2,cb2,A2,n2,c2,A3,n3,c3,hvb2,H⟩:=q5M H 6 hx2
   refine HW.take 12 ⟨_,_,_,_,_,_,_,_,_,H.keep 6 4⟩ rfl (by kernel_rfl) rfl rfl (fun _ _=>q0l rfl el54 z5P rfl hvb2 rfl hg2 (q4G hx2)) ?_
   refine HW.take 13 ⟨_,_,_,_,_,_,_,_,_,H.keep 6 4⟩ rfl (by kernel_rfl) rfl rfl (fun _ _=>q0m rfl j3b rfl) ?_
   refine q0f 14 rfl (by kernel_rfl) ((LC H 8) ?_)
   refine HW.next ⟨_,_,_,_,_,_,_,_,_,H.keep 6 4⟩ ?_
   refine q0f 15 rfl (by kernel_rfl) ?_
   refine bb hm1 fun z1 hy2 hm1=>?_
   obtain⟨F',M',hfF,hoF,hcM⟩:=H.callN [true,true,true,true] ⟨noO,noO,noB,noO,trivial⟩
   obtain⟨H',hcN⟩:=hcM (ps:=[.S x2.Synthesized (.slice A3 n3 c3),d4,d5,d7,d6,d3,d2]) ⟨hfF.get (i:=11) rfl,hfF.get (i:=0) rfl,hfF.get (i:=1) rfl,hfF.get (i:=2) rfl,hfF.get (i:=3) rfl,hfF.get (i:=4) rfl,hfF.get (i:=5) rfl,trivial⟩
   refine (CA ok57 (q7f hy2 hIa1 hIo2_3 hIo2_4 H')) ?_
   rintro _ w3 hE ⟨A4,n4,c4,A5,n5,c5,A6,n6,c6,rfl,hS3,hS4,H'⟩
   have H:=hcN 4 H' rfl ⟨fun _ _ _ _ _ h=>h,⟨fun _ _ _ _ _ h=>h,⟨fun _ _ _ _ _ h=>h,tv⟩⟩⟩
   refine HW.next ⟨_,_,_,_,_,_,_,_,_,H.keep 6 4⟩ ?_
   exact q0r (by kernel_rfl) (C1 hm1)
  refine bb hm1 fun y1 hy1 hm1=>?_
  refine gg hm1 fun hg1 hm1=>?_
  refine bb hm1 fun x1 hx1 hm1=>?_
  refine gg hm1 fun hg2 hm1=>?_
  refine bb hm1 fun x2 hx2 hm1=>?_
  refine bb hm1 fun z1 hy2 hm1=>(L H 2) ?_
  refine HW.next ⟨_,_,_,_,_,_,_,_,_,H.keep 6 4⟩ ?_
  obtain⟨b1,cb1,hvb1,hbb1⟩:=po H 1 hx1
  refine HW.take 10 ⟨_,_,_,_,_,_,_,_,_,H.keep 6 4⟩ rfl (by kernel_rfl) rfl rfl (fun _ _=>q0l rfl el94 sz3 rfl hvb1 rfl hg1 (q4G hx1)) ?_
  refine q1b [4,11] (by kernel_rfl) rfl ⟨q0M rfl ?_,q0M rfl ?_,trivial⟩
  ·obtain⟨F',M',hfF,hcM⟩:=H.callW [true,true,true,true] ⟨noO,noO,noB,noO,trivial⟩
   obtain⟨H',hcN⟩:=hcM (ps:=d1) ⟨hfF.get (i:=0) rfl,hfF.get (i:=1) rfl,hfF.get (i:=2) rfl,hfF.get (i:=3) rfl,hfF.get (i:=4) rfl,hfF.get (i:=5) rfl,trivial⟩
   refine (CA ok56 (q4L hy1 hIa1 hIo2_3 hIo2_4 H')) ?_
   rintro _ w2 hE ⟨A1,n1,c1,rfl,H'⟩
   have H:=hcN 4 H' rfl
   refine HW.next ⟨_,_,_,_,_,_,_,_,_,H.keep 6 4⟩ ?_
   refine q0f 11 rfl (by kernel_rfl) ?_
   obtain⟨hA1,hI1,H⟩:=q5p H 1 hx1 hbb1
   refine q0b rfl rfl (q0h rfl ag3 rfl (hA1.cell0 rfl)) ?_
   refine HW.next ⟨_,_,_,_,_,_,_,_,_,H.keep 6 4⟩ ?_
   obtain⟨b2,ob2,cb2,A2,n2,c2,A3,n3,c3,hvb2,H⟩:=q5M H 6 hx2
   refine HW.take 12 ⟨_,_,_,_,_,_,_,_,_,H.keep 6 4⟩ rfl (by kernel_rfl) rfl rfl (fun _ _=>q0l rfl el54 z5P rfl hvb2 rfl hg2 (q4G hx2)) ?_
   refine HW.take 13 ⟨_,_,_,_,_,_,_,_,_,H.keep 6 4⟩ rfl (by kernel_rfl) rfl rfl (fun _ _=>q0m rfl j3b rfl) ?_
   refine q0f 14 rfl (by kernel_rfl) ((LC H 8) ?_)
   refine HW.next ⟨_,_,_,_,_,_,_,_,_,H.keep 6 4⟩ ?_
   refine q0f 15 rfl (by kernel_rfl) ?_
   obtain⟨F',M',hfF,hoF,hcM⟩:=H.callN [true,true,true,true] ⟨noO,noO,noB,noO,trivial⟩
   obtain⟨H',hcN⟩:=hcM (ps:=[.S x2.Synthesized (.slice A3 n3 c3),d4,d5,d7,d6,d3,d2]) ⟨hfF.get (i:=11) rfl,hfF.get (i:=0) rfl,hfF.get (i:=1) rfl,hfF.get (i:=2) rfl,hfF.get (i:=3) rfl,hfF.get (i:=4) rfl,hfF.get (i:=5) rfl,trivial⟩
   refine (CA ok57 (q7f hy2 hIa1 hIo2_3 hIo2_4 H')) ?_
   rintro _ w3 hE ⟨A4,n4,c4,A5,n5,c5,A6,n6,c6,rfl,hS3,hS4,H'⟩
   have H:=hcN 4 H' rfl ⟨fun _ _ _ _ _ h=>h,⟨fun _ _ _ _ _ h=>h,⟨fun _ _ _ _ _ h=>h,tv⟩⟩⟩
   refine HW.next ⟨_,_,_,_,_,_,_,_,_,H.keep 6 4⟩ ?_
   exact q0r (by kernel_rfl) (C1 hm1)
  obtain⟨hA1,hI1,H⟩:=q5p H 1 hx1 hbb1
  refine q0b rfl rfl (q0h rfl ag3 rfl (hA1.cell0 rfl)) ?_
  refine HW.next ⟨_,_,_,_,_,_,_,_,_,H.keep 6 4⟩ ?_
  refine q0f 4 rfl (by kernel_rfl) ?_
  obtain⟨F',M',hfF,hcM⟩:=H.callW [true,true,true,true] ⟨noO,noO,noB,noO,trivial⟩
  obtain⟨H',hcN⟩:=hcM (ps:=d1) ⟨hfF.get (i:=0) rfl,hfF.get (i:=1) rfl,hfF.get (i:=2) rfl,hfF.get (i:=3) rfl,hfF.get (i:=4) rfl,hfF.get (i:=5) rfl,trivial⟩
  refine (CA ok56 (q4L hy1 hIa1 hIo2_3 hIo2_4 H')) ?_
  rintro _ w2 hE ⟨A1,n1,c1,rfl,H'⟩
  have H:=hcN 4 H' rfl
  refine HW.next ⟨_,_,_,_,_,_,_,_,_,H.keep 6 4⟩ ?_
  obtain⟨b2,ob2,cb2,A2,n2,c2,A3,n3,c3,hvb2,H⟩:=q5M H 7 hx2
  refine HW.take 12 ⟨_,_,_,_,_,_,_,_,_,H.keep 6 4⟩ rfl (by kernel_rfl) rfl rfl (fun _ _=>q0l rfl el54 z5P rfl hvb2 rfl hg2 (q4G hx2)) ?_
  refine HW.take 13 ⟨_,_,_,_,_,_,_,_,_,H.keep 6 4⟩ rfl (by kernel_rfl) rfl rfl (fun _ _=>q0m rfl j3b rfl) ?_
  refine q0f 14 rfl (by kernel_rfl) ((LC H 8) ?_)
  refine HW.next ⟨_,_,_,_,_,_,_,_,_,H.keep 6 4⟩ ?_
  refine q0f 15 rfl (by kernel_rfl) ?_
  obtain⟨F',M',hfF,hoF,hcM⟩:=H.callN [true,true,true,true] ⟨noO,noO,noB,noO,trivial⟩
  obtain⟨H',hcN⟩:=hcM (ps:=[.S x2.Synthesized (.slice A3 n3 c3),d4,d5,d7,d6,d3,d2]) ⟨hfF.get (i:=11) rfl,hfF.get (i:=0) rfl,hfF.get (i:=1) rfl,hfF.get (i:=2) rfl,hfF.get (i:=3) rfl,hfF.get (i:=4) rfl,hfF.get (i:=5) rfl,trivial⟩
  refine (CA ok57 (q7f hy2 hIa1 hIo2_3 hIo2_4 H')) ?_
  rintro _ w3 hE ⟨A4,n4,c4,A5,n5,c5,A6,n6,c6,rfl,hS3,hS4,H'⟩
  have H:=hcN 4 H' rfl ⟨fun _ _ _ _ _ h=>h,⟨fun _ _ _ _ _ h=>h,⟨fun _ _ _ _ _ h=>h,tv⟩⟩⟩
  refine HW.next ⟨_,_,_,_,_,_,_,_,_,H.keep 6 4⟩ ?_
  exact q0r (by kernel_rfl) (C1 hm1)
 rintro ρ' w4 ⟨s1,s2,s3,s4,s5,s6,v1,v2,v3,rfl,hag,hS1,hS2,H⟩
 obtain⟨σ,rfl⟩:=q4H hag
 obtain⟨A7,n7,c7,rfl⟩:=(fo H 0)
 obtain⟨A8,n8,c8,rfl⟩:=(fo H 1)
 obtain⟨A9,n9,c9,rfl⟩:=(fo H 3)
 refine X ((V) ((NC) ((D 11) ((L H 2) ((V) ?_)))))
 refine gg hr fun hg3 hr=>?_
 refine bb hr fun x3 hx3 hr=>?_
 obtain⟨b3,cb3,hvb3,hbb3⟩:=po H 1 hx3
 refine q0b rfl rfl (q0l rfl el94 sz3 rfl hvb3 rfl hg3 (q4G hx3)) ?_
 obtain⟨hA2,hI2,H⟩:=q5p H 1 hx3 hbb3
 refine q0b rfl rfl (q0h rfl ag3 rfl (hA2.cell0 rfl)) ?_
 refine gg hr fun hg4 hr=>(BN (Bin.add hg4)) ?_
 obtain⟨b4,cb4,hvb4,hbb4⟩:=po H 1 hx3
 refine q0b rfl rfl (q0l rfl el94 sz3 rfl hvb4 rfl hg3 (q4G hx3)) ?_
 refine q0G (i:=1) (z:=(x3+1)) rfl rfl rfl sz3 rfl rfl rfl (fun _=>⟨rfl,rfl,hg4⟩) H rfl hbb4 (by simpa using q4G hx3) fun w5 H=>Z ?_
 obtain rfl:=sm hr
 exact⟨_,res0 rfl,H.chg,_,_,_,_,_,_,_,_,_,rfl,hS1,hS2,H.outM (fr':=[]) [true,true,true,true] tw⟩
def q7U (a1:Step)(o2:visits):Option (Bool × visits):=if a1.Kind=1 then if a1.Visit=0 then (q7T o2 (⟨a1.Pos,a1.Name⟩:Occurrence)).bind fun y1=>if y1=true then ( grd (((o2.known.length:Int)+1)*24≤140737488355328∧(o2.known.length:Int)+1≤9223372036854775807) <| some (o2.known++[(⟨a1.Pos,a1.Name⟩:Occurrence)]) ).bind fun s1=>some (true,(⟨o2.g,o2.phases,o2.r,o2.due,s1,o2.next⟩:visits)) else some (false,o2) else some (false,o2) else if a1.Kind=2 then if a1.Name=(⟨#[]⟩:ByteArray) then (q7y o2 a1.Pos).bind fun y2=>if y2=true then grd (0≤a1.Pos) <| (o2.next[a1.Pos.toNat]?).bind fun x1=>grd (I64 (x1+1)) <| if a1.Visit=(x1+1) then (q8T a1.Pos o2).bind fun z1=>some (true,(⟨o2.g,o2.phases,(⟨z1.r.Name,z1.r.Left,o2.r.Right,z1.r.Literal,o2.r.Equations,o2.r.Contributions⟩:Rule),z1.due,z1.known,z1.next⟩:visits)) else some (false,o2) else some (false,o2) else some (false,o2) else if a1.Kind=3 then (q5e 0 o2).bind fun y3=>if a1.Pos=0 then if a1.Name=(⟨#[]⟩:ByteArray) then (o2.next[0]?).bind fun x2=>if (y3.length:Int)≤x2 then some (false,o2) else grd (I64 (x2+1)) <| if a1.Visit=(x2+1) then grd (0≤x2) <| (y3[x2.toNat]?).bind fun x3=>(q7J o2 0 x3.Synthesized).bind fun y4=>if y4=true then grd (I64 (x2+1)) <| ((List.set o2.next 0 (x2+1))[0]?).bind fun x4=>if x4 < (y3.length:Int) then grd (0≤x4) <| (y3[x4.toNat]?).bind fun x5=>(q6C 0 x5.Inherited (⟨o2.g,o2.phases,o2.r,o2.due,o2.known,(List.set o2.next 0 (x2+1))⟩:visits)).bind fun z2=>some (true,(⟨o2.g,o2.phases,(⟨z2.r.Name,z2.r.Left,o2.r.Right,z2.r.Literal,o2.r.Equations,o2.r.Contributions⟩:Rule),z2.due,z2.known,z2.next⟩:visits)) else some (true,(⟨o2.g,o2.phases,o2.r,o2.due,o2.known,(List.set o2.next 0 (x2+1))⟩:visits)) else some (false,o2) else some (false,o2) else some (false,o2) else some (false,o2) else some (false,o2)
theorem z6v {a1}{o2}{r}(hr:q7U a1 o2=some r){bo2:Nat}{Ao2_0:Option Addr}{no2_0 co2_0:Nat}{Ao2_1:Option Addr}{no2_1 co2_1:Nat}{Ao2_2:Option Addr}{no2_2 co2_2:Nat}{Ao2_5:Option Addr}{no2_5 co2_5:Nat}{Ao2_7:Option Addr}{no2_7 co2_7:Nat}{Ao2_8:Option Addr}{no2_8 co2_8:Nat}{Ao2_9:Option Addr}{no2_9 co2_9:Nat}{Ao2_10:Option Addr}{no2_10 co2_10:Nat}{Ao2_11:Option Addr}{no2_11 co2_11:Nat}(hIa1_0:I64 a1.Kind)(hIa1_1:I64 a1.Pos)(hIa1_2:I64 a1.Visit)(hIa1_3:a1.Name.size≤9223372036854775807)(hIo2_3:o2.r.Name.size≤9223372036854775807)(hIo2_4:o2.r.Left.size≤9223372036854775807)(H:HL F0 M w0 w0 [.S o2.g.Symbols (.slice Ao2_0 no2_0 co2_0),.S o2.g.Rules (.slice Ao2_1 no2_1 co2_1),.S o2.phases (.slice Ao2_2 no2_2 co2_2),.S o2.r.Right (.slice Ao2_5 no2_5 co2_5),.S o2.r.Equations (.slice Ao2_7 no2_7 co2_7),.S o2.r.Contributions (.slice Ao2_8 no2_8 co2_8)] [.O 133 o2.due (.slice Ao2_9 no2_9 co2_9),.O 3 o2.next (.slice Ao2_11 no2_11 co2_11),.B bo2 119 [.slice Ao2_0 no2_0 co2_0,.slice Ao2_1 no2_1 co2_1,.slice Ao2_2 no2_2 co2_2,.string o2.r.Name,.string o2.r.Left,.slice Ao2_5 no2_5 co2_5,.bool o2.r.Literal,.slice Ao2_7 no2_7 co2_7,.slice Ao2_8 no2_8 co2_8,.slice Ao2_9 no2_9 co2_9,.slice Ao2_10 no2_10 co2_10,.slice Ao2_11 no2_11 co2_11],.O 133 o2.known (.slice Ao2_10 no2_10 co2_10)]):RM 58 #[pB bo2,.agg #[.int .i64 a1.Kind,.int .i64 a1.Pos,.int .i64 a1.Visit,.string a1.Name]] M w0 fun v w=>∃ A0 n0 c0 A1 n1 c1,∃ A2 n2 c2,v = .bool r.1∧r.2.r.Name.size≤9223372036854775807∧r.2.r.Left.size≤9223372036854775807∧HL F0 M w0 w [] [.O 133 r.2.due (.slice A0 n0 c0),.O 3 r.2.next (.slice A2 n2 c2),.B bo2 119 [.slice Ao2_0 no2_0 co2_0,.slice Ao2_1 no2_1 co2_1,.slice Ao2_2 no2_2 co2_2,.string r.2.r.Name,.string r.2.r.Left,.slice Ao2_5 no2_5 co2_5,.bool r.2.r.Literal,.slice Ao2_7 no2_7 co2_7,.slice Ao2_8 no2_8 co2_8,(.slice A0 n0 c0),(.slice A1 n1 c1),(.slice A2 n2 c2)],.O 133 r.2.known (.slice A1 n1 c1)]:=by
 let d13:List Value:=[.int .i64 a1.Pos,.string a1.Name]
 let d10:It:=.O 133 o2.due (.slice Ao2_9 no2_9 co2_9)
 let d9:It:=.O 3 o2.next (.slice Ao2_11 no2_11 co2_11)
 let d8:It:=.B bo2 119 [.slice Ao2_0 no2_0 co2_0,.slice Ao2_1 no2_1 co2_1,.slice Ao2_2 no2_2 co2_2,.string o2.r.Name,.string o2.r.Left,.slice Ao2_5 no2_5 co2_5,.bool o2.r.Literal,.slice Ao2_7 no2_7 co2_7,.slice Ao2_8 no2_8 co2_8,.slice Ao2_9 no2_9 co2_9,.slice Ao2_10 no2_10 co2_10,.slice Ao2_11 no2_11 co2_11]
 let d7:Pr:=.S o2.g.Symbols (.slice Ao2_0 no2_0 co2_0)
 let d6:Pr:=.S o2.r.Equations (.slice Ao2_7 no2_7 co2_7)
 let d5:Pr:=.S o2.r.Contributions (.slice Ao2_8 no2_8 co2_8)
 let d2:List Pr:=[d7,.S o2.g.Rules (.slice Ao2_1 no2_1 co2_1),.S o2.phases (.slice Ao2_2 no2_2 co2_2),.S o2.r.Right (.slice Ao2_5 no2_5 co2_5),d6,d5]
 refine (En Tryz.func58) ?_
 refine R ((BX H) fun b1 w1 H=>(A) (Z (Y (R ((D 0) ((L H 4) (Z ?_)))))))
 let d1:List It:=[d10,d9,d8,.O 133 o2.known (.slice Ao2_10 no2_10 co2_10),.B b1 102 (q5i a1)]
 refine Bk (R ((B) ((AZ) (iD hr (fun _ hr=>?_) fun _ hr=>?_))))
 ·refine R ((D 1) ((L H 4) ((D 3) ((L H 4) ?_))))
  refine q0b rfl rfl (Ev.build rfl z7M q5v rfl rfl rfl rfl) ((AH q5v H) fun b2 w2 H=>(SB H 5) fun w3 H=>Z (Y (R ((D 2) ((L H 4) ((B) (jN hr (fun _ hr=>?_) fun _ hr=>?_)))))))
  ·exact (O) ((O) ((O) ((O) ((T) (Z ((cT) (R ((AZ) (W1 hr)))))))))
  let d3:List It:=[d10,d9,d8,.O 133 o2.known (.slice Ao2_10 no2_10 co2_10),.B b1 102 (q5i a1),.B b2 133 d13]
  refine (G) ((V) ((G) ((LB H 5) ((G) ?_))))
  refine bb hr fun y1 hy1 hr=>?_
  refine (CA ok94 (z6t hy1 (F0:=fun q=>q < _) ⟨(rb H 2).lt,_,At.blk (rb H 2),⟨_,_,_,_,_,_,_,_,_,rfl,hIo2_3,hIo2_4,(rs H 0),(rs H 1),(rs H 2),(rs H 3),(rs H 4),(rs H 5),(ro H 0),(ro H 3),(ro H 1)⟩⟩ ⟨rfl,hIa1_1,hIa1_3⟩)) (cE H fun w4 H=>(G) ((N) ((U) (Z (iM hr (fun _ hr=>?_) fun _ hr=>?_)))))
  ·refine Y ?_
   refine q0a [] trivial fun σ=>?_
   have H:HL F0 M w0 w4 d2 d3:=H
   exact X ((AZ) (W1 hr))
  refine K (Y ?_)
  refine q0a [(0,pB bo2),(5,pB b2)] ⟨rfl,rfl,trivial⟩ fun σ=>?_
  have H:HL F0 M w0 w4 d2 d3:=H
  refine bb hr fun q1 hm1 hr=>?_
  refine q0u (fun ρ' w=>∃ (s1:List Occurrence) (v1:Value),s1=q1∧q4R ρ' []∧HL F0 M w0 w d2 [d10,d9,.B bo2 119 [.slice Ao2_0 no2_0 co2_0,.slice Ao2_1 no2_1 co2_1,.slice Ao2_2 no2_2 co2_2,.string o2.r.Name,.string o2.r.Left,.slice Ao2_5 no2_5 co2_5,.bool o2.r.Literal,.slice Ao2_7 no2_7 co2_7,.slice Ao2_8 no2_8 co2_8,.slice Ao2_9 no2_9 co2_9,v1,.slice Ao2_11 no2_11 co2_11],.O 133 s1 v1,.B b1 102 (q5i a1),.B b2 133 d13]) ?_ ?_
  ·refine q0y (fun w=>∃ v2_10_:Value,∃ o3_:It,HL F0 M w0 w d2 [d10,d9,.B bo2 119 [.slice Ao2_0 no2_0 co2_0,.slice Ao2_1 no2_1 co2_1,.slice Ao2_2 no2_2 co2_2,.string o2.r.Name,.string o2.r.Left,.slice Ao2_5 no2_5 co2_5,.bool o2.r.Literal,.slice Ao2_7 no2_7 co2_7,.slice Ao2_8 no2_8 co2_8,.slice Ao2_9 no2_9 co2_9,v2_10_,.slice Ao2_11 no2_11 co2_11],o3_,.B b1 102 (q5i a1),.B b2 133 d13]) hmix (fun w5 hE=>?_)
   have H:HL F0 M w0 w5 d2 d3:=H.ext hE
   refine HW.take 0 ⟨_,_,H.keep 6 6⟩ rfl (by kernel_rfl) rfl rfl (fun _ _=>q0j rfl rfl) ?_
   refine HW.take 1 ⟨_,_,H.keep 6 6⟩ rfl (by kernel_rfl) rfl rfl (fun _ _=>q0j rfl rfl) ?_
   refine HW.take 2 ⟨_,_,H.keep 6 6⟩ rfl (by kernel_rfl) rfl rfl (fun _ _=>q0o rfl rfl) ?_
   refine HW.take 3 ⟨_,_,H.keep 6 6⟩ rfl (by kernel_rfl) rfl rfl (fun _ _=>q0m rfl j3c rfl) ?_
   refine HW.take 5 ⟨_,_,H.keep 6 6⟩ rfl (by kernel_rfl) rfl rfl (fun _ ⟨_,_,hq⟩=>q0c rfl z0l q3n rfl (At.blk (hq.rB (i:=5) rfl)) rfl) ?_
   refine q1b [4,6] (by kernel_rfl) rfl ⟨q0M rfl ?_,q0M rfl ?_,trivial⟩
   ·refine (L H 2) ?_
    refine HW.next ⟨_,_,H.keep 6 6⟩ ?_
    refine q0f 6 rfl (by kernel_rfl) ?_
    refine q0p rfl rfl rfl el95 q3n q5v rfl rfl rfl rfl rfl rfl fun b3 w6 hE hb hB=>?_
    have H:=H.newB hE hb hB
    refine HW.next ⟨_,_,H.keep 6 6⟩ ?_
    refine q0f 7 rfl (by kernel_rfl) ?_
    refine gg hm1 fun hg1 hm1=>?_
    refine q0t (i:=3) (ys:=[(⟨a1.Pos,a1.Name⟩:Occurrence)]) rfl rfl rfl el95 q3n z3v q5v rfl rfl rfl H rfl (fun _=>ownL.single ⟨rfl,hIa1_1,hIa1_3,rfl⟩) (.inr ⟨_,_,rfl,At.blk (rb H 6)⟩) hg1 fun A1 n1 c1 w7 H=>?_
    refine HW.next ⟨_,_,H.keep 6 6⟩ ?_
    refine HW.take 8 ⟨_,_,H.keep 6 6⟩ rfl (by kernel_rfl) rfl rfl (fun _ _=>q0o rfl rfl) ?_
    refine HW.take 9 ⟨_,_,H.keep 6 6⟩ rfl (by kernel_rfl) rfl rfl (fun _ _=>q0m rfl j3c rfl) ?_
    refine q0f 10 rfl (by kernel_rfl) ((SB H 2) fun w8 H=>?_)
    refine HW.next ⟨_,_,H.keep 6 6⟩ ?_
    exact q0r (by kernel_rfl) (C1 hm1)
   refine gg hm1 fun hg1 hm1=>?_
   refine q0p rfl rfl rfl el95 q3n q5v rfl rfl rfl rfl rfl rfl fun b3 w6 hE hb hB=>?_
   have H:=H.newB hE hb hB
   refine HW.next ⟨_,_,H.keep 6 6⟩ ?_
   refine q0f 4 rfl (by kernel_rfl) ((L H 2) ?_)
   refine HW.next ⟨_,_,H.keep 6 6⟩ ?_
   refine q0f 7 rfl (by kernel_rfl) ?_
   refine q0t (i:=3) (ys:=[(⟨a1.Pos,a1.Name⟩:Occurrence)]) rfl rfl rfl el95 q3n z3v q5v rfl rfl rfl H rfl (fun _=>ownL.single ⟨rfl,hIa1_1,hIa1_3,rfl⟩) (.inr ⟨_,_,rfl,At.blk (rb H 6)⟩) hg1 fun A1 n1 c1 w7 H=>?_
   refine HW.next ⟨_,_,H.keep 6 6⟩ ?_
   refine HW.take 8 ⟨_,_,H.keep 6 6⟩ rfl (by kernel_rfl) rfl rfl (fun _ _=>q0o rfl rfl) ?_
   refine HW.take 9 ⟨_,_,H.keep 6 6⟩ rfl (by kernel_rfl) rfl rfl (fun _ _=>q0m rfl j3c rfl) ?_
   refine q0f 10 rfl (by kernel_rfl) ((SB H 2) fun w8 H=>?_)
   refine HW.next ⟨_,_,H.keep 6 6⟩ ?_
   exact q0r (by kernel_rfl) (C1 hm1)
  rintro ρ' w9 ⟨s1,v1,rfl,hag,H⟩
  obtain⟨σ,rfl⟩:=q4H hag
  obtain⟨A2,n2,c2,rfl⟩:=(fo H 3)
  exact R ((AZ) (W1 hr))
 refine R ((B) ((AZ) (iD hr (fun _ hr=>?_) fun _ hr=>?_)))
 ·refine Y (Y ?_)
  refine q0d hmix (by kernel_rfl) ?_
  refine (qD 3) ((qL H 4) ((qB) ?_))
  refine kN hr (fun _ hr=>?_) fun _ hr=>?_
  ·refine (qO) ((qO) ((qO) ((qO) ((qO) ((qT) ((qV) ((qO) ((qO) ((qO) ((qO) ((qO) ((qO) ((qO) ((qO) ((qO) ((qO) ((qO) ((qO) ((qT) ?_)))))))))))))))))))
   refine QL.nil (fun w10 hE=>?_)
   have H:=H.ext hE
   exact (cT) (R ((AZ) (W1 hr)))
  refine (qG) ((qV) ((qG) ((qD 1) ((qG) ((qL H 4) ((qG) ?_))))))
  refine bb hr fun y2 hy2 hr=>?_
  refine (qC ok95 (fun _ hq=>z5z hy2 (F0:=fun q=>q < _) ⟨((H.ext hq).rB (i:=2) rfl).lt,_,At.blk ((H.ext hq).rB (i:=2) rfl),⟨_,_,_,_,_,_,_,_,_,rfl,hIo2_3,hIo2_4,(rs (H.ext hq) 0),(rs (H.ext hq) 1),(rs (H.ext hq) 2),(rs (H.ext hq) 3),(rs (H.ext hq) 4),(rs (H.ext hq) 5),(ro (H.ext hq) 0),(ro (H.ext hq) 3),(ro (H.ext hq) 1)⟩⟩ hIa1_1)) ?_
  refine (qG) ((qN) ((qU) ?_))
  refine kM hr (fun _ hr=>?_) fun _ hr=>?_
  ·refine (qO) ((qO) ((qO) ((qO) ((qO) ((qO) ((qO) ((qO) ((qO) ((qO) ((qO) ((qO) ((qT) ?_))))))))))))
   refine QL.nil (fun w11 hE=>?_)
   have H:=H.ext hE
   exact (cT) (R ((AZ) (W1 hr)))
  refine (qG) ((qD 2) ((qG) ((qL H 4) ((qG) ((qV) ((qG) ((qNC) ((qG) ((qD 11) ((qG) ((qL H 2) ((qG) ((qD 1) ((qG) ((qL H 4) ((qG) ?_))))))))))))))))
  refine gg hr fun hg2 hr=>?_
  refine bb hr fun x1 hx1 hr=>?_
  obtain⟨b4,cb4,hvb4,hbb4⟩:=po H 1 hx1
  refine q0i rfl rfl (fun _ _=>q0l rfl el94 sz3 rfl hvb4 rfl hg2 (q4G hx1)) ?_
  refine (qG) ?_
  obtain⟨hA1,hI1,H⟩:=q5p H 1 hx1 hbb4
  refine q0i rfl rfl (fun _ hq=>q0h rfl ag3 rfl ((hA1.ext hq).cell0 rfl)) ?_
  refine (qG) ?_
  refine gg hr fun hg3 hr=>?_
  refine (qBN (Bin.add hg3)) ((qG) ((qB) ((qU) ?_)))
  refine QL.nil (fun w12 hE=>?_)
  have H:=H.ext hE
  refine iN hr (fun _ hr=>?_) fun _ hr=>?_
  ·refine Y ?_
   refine q0a [] trivial fun σ=>?_
   have H:HL F0 M w0 w12 [d7,.S o2.g.Rules (.slice Ao2_1 no2_1 co2_1),.S o2.phases (.slice Ao2_2 no2_2 co2_2),.S o2.r.Right (.slice Ao2_5 no2_5 co2_5),d6,d5,.R x1 [.int .i64 x1]] d1:=H
   exact X ((AZ) (W1 hr))
  refine K (Y ?_)
  refine q0a [(0,pB bo2),(3,pB b1)] ⟨rfl,rfl,trivial⟩ fun σ=>?_
  have H:HL F0 M w0 w12 [d7,.S o2.g.Rules (.slice Ao2_1 no2_1 co2_1),.S o2.phases (.slice Ao2_2 no2_2 co2_2),.S o2.r.Right (.slice Ao2_5 no2_5 co2_5),d6,d5,.R x1 [.int .i64 x1]] d1:=H
  refine X ((V) ((D 1) ((L H 4) ?_)))
  refine bb hr fun z1 hy3 hr=>?_
  obtain⟨F',M',hfF,hoF,hcM⟩:=H.callN [true,true,true,true,false] ⟨noO,noO,noB,noO,trivial⟩
  obtain⟨H',hcN⟩:=hcM (ps:=d2) ⟨hfF.get (i:=0) rfl,hfF.get (i:=1) rfl,hfF.get (i:=2) rfl,hfF.get (i:=3) rfl,hfF.get (i:=4) rfl,hfF.get (i:=5) rfl,trivial⟩
  refine (CA ok96 (z8f hy3 hIa1_1 hIo2_3 hIo2_4 H')) ?_
  rintro _ w13 hE ⟨A3,n3,c3,A4,n4,c4,A5,n5,c5,rfl,hS1,hS2,H'⟩
  have H:=hcN 4 H' rfl ⟨fun _ _ _ _ _ h=>h,⟨fun _ _ _ _ _ h=>h,⟨fun _ _ _ _ _ h=>h,tv⟩⟩⟩
  exact Z (R ((AZ) (W1 hr)))
 refine R ((B) ((AZ) (iD hr (fun _ hr=>?_) fun _ hr=>?_)))
 ·refine R ((V) ?_)
  refine bb hr fun y3 hy4 hr=>?_
  obtain⟨F',M',hfF,hcM⟩:=H.callW [true,true,true,true,false] ⟨noO,noO,noB,noO,trivial⟩
  obtain⟨H',hcN⟩:=hcM (ps:=d2) ⟨hfF.get (i:=0) rfl,hfF.get (i:=1) rfl,hfF.get (i:=2) rfl,hfF.get (i:=3) rfl,hfF.get (i:=4) rfl,hfF.get (i:=5) rfl,trivial⟩
  refine (CA ok56 (q4L hy4 dI hIo2_3 hIo2_4 H')) ?_
  rintro _ w14 hE ⟨A6,n6,c6,rfl,H'⟩
  have H:=hcN 4 H' rfl
  refine (AZ) (Y (Y ?_))
  refine q0d hmix (by kernel_rfl) ?_
  refine (qD 1) ((qL H 4) ((qB) ?_))
  refine kN hr (fun _ hr=>?_) fun _ hr=>?_
  ·refine (qO) ((qO) ((qO) ((qT) ((qV) ((qO) ((qO) ((qO) ((qO) ((qO) ((qO) ((qO) ((qO) ((qO) ((qT) ((qV) ((qO) ((qO) ((qO) ((qO) ((qO) ((qO) ((qO) ((qO) ((qO) ((qO) ((qT) ((qV) ((qO) ((qO) ((qO) ((qO) ((qO) ((qO) ((qO) ((qO) ((qO) ((qO) ((qO) ((qO) ((qO) ((qT) ?_)))))))))))))))))))))))))))))))))))))))))
   refine QL.nil (fun w15 hE=>?_)
   have H:=H.ext hE
   refine (cT) (Y ?_)
   refine q0a [] trivial fun σ=>?_
   have H:HL F0 M w0 w15 [d7,.S o2.g.Rules (.slice Ao2_1 no2_1 co2_1),.S o2.phases (.slice Ao2_2 no2_2 co2_2),.S o2.r.Right (.slice Ao2_5 no2_5 co2_5),d6,d5,.S y3 (.slice A6 n6 c6)] d1:=H
   exact X ((AZ) (W1 hr))
  refine (qG) ((qD 3) ((qG) ((qL H 4) ((qG) ((qB) ((qU) ?_))))))
  refine kN hr (fun _ hr=>?_) fun _ hr=>?_
  ·refine (qO) ((qO) ((qO) ((qO) ((qO) ((qO) ((qO) ((qO) ((qO) ((qT) ((qV) ((qO) ((qO) ((qO) ((qO) ((qO) ((qO) ((qO) ((qO) ((qO) ((qO) ((qT) ((qV) ((qO) ((qO) ((qO) ((qO) ((qO) ((qO) ((qO) ((qO) ((qO) ((qO) ((qO) ((qO) ((qO) ((qT) ?_))))))))))))))))))))))))))))))))))))
   refine QL.nil (fun w16 hE=>?_)
   have H:=H.ext hE
   refine (cT) (Y ?_)
   refine q0a [] trivial fun σ=>?_
   have H:HL F0 M w0 w16 [d7,.S o2.g.Rules (.slice Ao2_1 no2_1 co2_1),.S o2.phases (.slice Ao2_2 no2_2 co2_2),.S o2.r.Right (.slice Ao2_5 no2_5 co2_5),d6,d5,.S y3 (.slice A6 n6 c6)] d1:=H
   exact X ((AZ) (W1 hr))
  refine (qG) ((qV) ((qG) ((qNC) ((qG) ((qD 11) ((qG) ((qL H 2) ((qG) ?_))))))))
  refine bb hr fun x2 hx2 hr=>?_
  let d11:List Value:=[.int .i64 x2]
  obtain⟨b5,cb5,hvb5,hbb5⟩:=po H 1 hx2
  refine (qJ 1 hvb5 hx2) ((qG) ?_)
  obtain⟨hA2,hI2,H⟩:=q5p H 1 hx2 hbb5
  refine q0i rfl rfl (fun _ hq=>q0h rfl ag3 rfl ((hA2.ext hq).cell0 rfl)) ?_
  refine (qG) ((qV) ((qG) ?_))
  have hl1:=(H.rS (i:=6) rfl).I
  refine (qNN (rs H 6)) ((qG) ((qB) ((qU) ?_)))
  refine kD hr (fun _ hr=>?_) fun _ hr=>?_
  ·refine (qO) ((qO) ((qO) ((qO) ((qO) ((qO) ((qO) ((qO) ((qO) ((qO) ((qT) ((qV) ((qO) ((qO) ((qO) ((qO) ((qO) ((qO) ((qO) ((qO) ((qO) ((qO) ((qO) ((qO) ((qO) ((qT) ?_)))))))))))))))))))))))))
   refine QL.nil (fun w17 hE=>?_)
   have H:=H.ext hE
   refine (cT) (Y ?_)
   refine q0a [] trivial fun σ=>?_
   have H:HL F0 M w0 w17 [d7,.S o2.g.Rules (.slice Ao2_1 no2_1 co2_1),.S o2.phases (.slice Ao2_2 no2_2 co2_2),.S o2.r.Right (.slice Ao2_5 no2_5 co2_5),d6,d5,.S y3 (.slice A6 n6 c6),.R x2 d11] d1:=H
   exact X ((AZ) (W1 hr))
  refine (qG) ((qD 2) ((qG) ((qL H 4) ((qG) ((qV) ((qG) ((qNC) ((qG) ((qD 11) ((qG) ((qL H 2) ((qG) ?_))))))))))))
  obtain⟨b6,cb6,hvb6,hbb6⟩:=po H 1 hx2
  refine (qJ 1 hvb6 hx2) ((qG) ?_)
  obtain⟨hA3,hI3,H⟩:=q5p H 1 hx2 hbb6
  refine q0i rfl rfl (fun _ hq=>q0h rfl ag3 rfl ((hA3.ext hq).cell0 rfl)) ?_
  refine (qG) ?_
  refine gg hr fun hg4 hr=>?_
  refine (qBN (Bin.add hg4)) ((qG) ((qB) ((qU) ?_)))
  refine kN hr (fun _ hr=>?_) fun _ hr=>?_
  ·refine (qO) ((qO) ((qO) ((qO) ((qO) ((qO) ((qO) ((qO) ((qO) ((qO) ((qO) ((qO) ((qO) ((qT) ?_)))))))))))))
   refine QL.nil (fun w18 hE=>?_)
   have H:=H.ext hE
   refine (cT) (Y ?_)
   refine q0a [] trivial fun σ=>?_
   have H:HL F0 M w0 w18 [d7,.S o2.g.Rules (.slice Ao2_1 no2_1 co2_1),.S o2.phases (.slice Ao2_2 no2_2 co2_2),.S o2.r.Right (.slice Ao2_5 no2_5 co2_5),d6,d5,.S y3 (.slice A6 n6 c6),.R x2 d11,.R x2 d11] d1:=H
   exact X ((AZ) (W1 hr))
  refine (qG) ((qV) ((qG) ((qV) ((qG) ((qV) ((qG) ((qNC) ((qG) ((qD 11) ((qG) ((qL H 2) ((qG) ?_))))))))))))
  obtain⟨b7,cb7,hvb7,hbb7⟩:=po H 1 hx2
  refine (qJ 1 hvb7 hx2) ((qG) ?_)
  obtain⟨hA4,hI4,H⟩:=q5p H 1 hx2 hbb7
  refine q0i rfl rfl (fun _ hq=>q0h rfl ag3 rfl ((hA4.ext hq).cell0 rfl)) ?_
  refine (qG) ?_
  refine gg hr fun hg5 hr=>?_
  refine bb hr fun x3 hx3 hr=>?_
  obtain⟨b8,ob8,cb8,A7,n7,c7,A8,n8,c8,hvb8,H⟩:=q5M H 6 hx3
  let d12:List Value:=[.slice A7 n7 c7,.slice A8 n8 c8]
  let d4:List Pr:=[d7,.S o2.g.Rules (.slice Ao2_1 no2_1 co2_1),.S o2.phases (.slice Ao2_2 no2_2 co2_2),.S o2.r.Right (.slice Ao2_5 no2_5 co2_5),d6,d5,.S y3 (.slice A6 n6 c6),.R x2 d11,.R x2 d11,.R x2 d11,.A b8 (ob8+x2.toNat*2) d12,.R x3 d12,.S x3.Inherited (.slice A7 n7 c7),.S x3.Synthesized (.slice A8 n8 c8)]
  refine q0i rfl rfl (fun _ _=>q0l rfl el54 z5P rfl hvb8 rfl hg5 (q4G hx3)) ?_
  refine (qG) ((qD 1) ((qG) ((qLC H 10) ((qG) ?_))))
  refine bb hr fun y4 hy5 hr=>?_
  refine (qC ok97 (fun _ hq=>z3p hy5 (F0:=fun q=>q < _) ⟨((H.ext hq).rB (i:=2) rfl).lt,_,At.blk ((H.ext hq).rB (i:=2) rfl),⟨_,_,_,_,_,_,_,_,_,rfl,hIo2_3,hIo2_4,(rs (H.ext hq) 0),(rs (H.ext hq) 1),(rs (H.ext hq) 2),(rs (H.ext hq) 3),(rs (H.ext hq) 4),(rs (H.ext hq) 5),(ro (H.ext hq) 0),(ro (H.ext hq) 3),(ro (H.ext hq) 1)⟩⟩ dI (rs (H.ext hq) 13))) ?_
  refine (qG) ((qN) ((qU) ?_))
  refine QL.nil (fun w19 hE=>?_)
  have H:=H.ext hE
  refine iM hr (fun _ hr=>?_) fun _ hr=>?_
  ·refine Y ?_
   refine q0a [] trivial fun σ=>?_
   have H:HL F0 M w0 w19 d4 d1:=H
   exact X ((AZ) (W1 hr))
  refine K (Y ?_)
  refine q0a [(0,pB bo2),(6,.slice A6 n6 c6)] ⟨rfl,rfl,trivial⟩ fun σ=>?_
  have H:HL F0 M w0 w19 d4 d1:=H
  refine X ((V) ((NC) ((D 11) ((L H 2) ?_))))
  obtain⟨b9,cb9,hvb9,hbb9⟩:=po H 1 hx2
  refine (J 1 hvb9 hx2) ?_
  obtain⟨hA5,hI5,H⟩:=q5p H 1 hx2 hbb9
  refine q0b rfl rfl (q0h rfl ag3 rfl (hA5.cell0 rfl)) ?_
  refine gg hr fun hg6 hr=>(BN (Bin.add hg6)) ?_
  obtain⟨b10,cb10,hvb10,hbb10⟩:=po H 1 hx2
  refine (J 1 hvb10 hx2) ?_
  refine q0G (i:=1) (z:=(x2+1)) rfl rfl rfl sz3 rfl rfl rfl (fun _=>⟨rfl,rfl,hg6⟩) H rfl hbb10 (by simpa using q4G hx2) fun w20 H=>Z (Y (R ((V) ((NC) ((D 11) ((L H 2) ?_))))))
  refine bb hr fun x4 hx4 hr=>?_
  obtain⟨b11,cb11,hvb11,hbb11⟩:=po H 1 hx4
  refine (J 1 hvb11 hx4) ?_
  obtain⟨hA6,hI6,H⟩:=q5p H 1 hx4 hbb11
  refine q0b rfl rfl (q0h rfl ag3 rfl (hA6.cell0 rfl)) ((V) ((NN (rs H 6)) ((BZ) (iD hr (fun _ hr=>?_) fun _ hr=>?_))))
  ·refine X ((V) ((V) ((V) ((NC) ((D 11) ((L H 2) ?_))))))
   obtain⟨b12,cb12,hvb12,hbb12⟩:=po H 1 hx4
   refine (J 1 hvb12 hx4) ?_
   obtain⟨hA7,hI7,H⟩:=q5p H 1 hx4 hbb12
   refine q0b rfl rfl (q0h rfl ag3 rfl (hA7.cell0 rfl)) ?_
   refine gg hr fun hg7 hr=>?_
   refine bb hr fun x5 hx5 hr=>?_
   obtain⟨b13,ob13,cb13,A9,n9,c9,A10,n10,c10,hvb13,H⟩:=q5M H 6 hx5
   refine q0b rfl rfl (q0l rfl el54 z5P rfl hvb13 rfl hg7 (q4G hx5)) ((D 0) ((LC H 17) ?_))
   refine bb hr fun z2 hy6 hr=>?_
   obtain⟨F',M',hfF,hoF,hcM⟩:=H.callN [true,true,true,true,false] ⟨noO,noO,noB,noO,trivial⟩
   obtain⟨H',hcN⟩:=hcM (ps:=[.S x5.Inherited (.slice A9 n9 c9),d7,.S o2.g.Rules (.slice Ao2_1 no2_1 co2_1),.S o2.phases (.slice Ao2_2 no2_2 co2_2),.S o2.r.Right (.slice Ao2_5 no2_5 co2_5),d6,d5]) ⟨hfF.get (i:=19) rfl,hfF.get (i:=0) rfl,hfF.get (i:=1) rfl,hfF.get (i:=2) rfl,hfF.get (i:=3) rfl,hfF.get (i:=4) rfl,hfF.get (i:=5) rfl,trivial⟩
   refine (CA ok57 (q7f hy6 dI hIo2_3 hIo2_4 H')) ?_
   rintro _ w21 hE ⟨A11,n11,c11,A12,n12,c12,A13,n13,c13,rfl,hS3,hS4,H'⟩
   have H:=hcN 4 H' rfl ⟨fun _ _ _ _ _ h=>h,⟨fun _ _ _ _ _ h=>h,⟨fun _ _ _ _ _ h=>h,tv⟩⟩⟩
   refine Z (Y ?_)
   refine q0a [] trivial fun σ=>?_
   have H:HL F0 M w0 w21 [d7,.S o2.g.Rules (.slice Ao2_1 no2_1 co2_1),.S o2.phases (.slice Ao2_2 no2_2 co2_2),.S o2.r.Right (.slice Ao2_5 no2_5 co2_5),d6,d5,.S y3 (.slice A6 n6 c6),.R x2 d11,.R x2 d11,.R x2 d11,.A b8 (ob8+x2.toNat*2) d12,.R x3 d12,.S x3.Inherited (.slice A7 n7 c7),.S x3.Synthesized (.slice A8 n8 c8),.R x2 d11,.R x4 [.int .i64 x4],.R x4 [.int .i64 x4],.A b13 (ob13+x4.toNat*2) [.slice A9 n9 c9,.slice A10 n10 c10],.R x5 [.slice A9 n9 c9,.slice A10 n10 c10],.S x5.Inherited (.slice A9 n9 c9),.S x5.Synthesized (.slice A10 n10 c10)] [.O 133 z2.due (.slice A11 n11 c11),.O 3 z2.next (.slice A13 n13 c13),.B bo2 119 [.slice Ao2_0 no2_0 co2_0,.slice Ao2_1 no2_1 co2_1,.slice Ao2_2 no2_2 co2_2,.string z2.r.Name,.string z2.r.Left,.slice Ao2_5 no2_5 co2_5,.bool z2.r.Literal,.slice Ao2_7 no2_7 co2_7,.slice Ao2_8 no2_8 co2_8,.slice A11 n11 c11,.slice A12 n12 c12,.slice A13 n13 c13],.O 133 z2.known (.slice A12 n12 c12),.B b1 102 (q5i a1)]:=H
   exact X ((AZ) (W1 hr))
  exact K (R ((AZ) (W1 hr)))
 exact K (R ((AZ) (W1 hr)))
def q7Z (a0:Occurrence)(a1_0:visits):Option Bool:=(q2w a1_0.known a0).bind fun y1=>some (!y1)
theorem z4f {a0}{a1_0}{r}(hr:q7Z a0 a1_0=some r){ca0}(ha0:rd F0 w0 a0 ca0){b1_0p:Nat}(ha1_0:CapP F0 w0 b1_0p a1_0){b1p:Nat}(ha1:F0 b1p∧At w0 b1p 0 [pB b1_0p]):RB 99 #[ag ca0,pB b1p] w0 r:=by
 have H:=(HL.start F0 w0).argR ha0
 obtain⟨rfl,hI1,hS1,H⟩:=q2z H 0
 obtain⟨cpa1_0,H⟩:=H.argP ha1_0
 obtain⟨A1,n1,c1,A2,n2,c2,A3,n3,c3,A4,n4,c4,A5,n5,c5,A6,n6,c6,A7,n7,c7,A8,n8,c8,A9,n9,c9,rfl,hS2,hS3,H⟩:=q6f H 2
 have H:=H.argA ha1
 refine (En Tryz.func99) ?_
 refine R ((BX H) fun b1 w1 H=>(AZ) (Y ?_))
 refine q0d hmix (by kernel_rfl) ?_
 refine (qL0 H 12) ((qNC) ((qD 10) ((qLC H 1) ((qLB H 0) ?_))))
 refine bb hr fun y1 hy1 hr=>?_
 refine (qC j4X (fun _ hq=>q2W hy1 (rs (H.ext hq) 10) ⟨rfl,hI1,hS1⟩)) ?_
 refine (qN) ((qA) ?_)
 refine QL.nil (fun w2 hE=>?_)
 have H:=H.ext hE
 exact W1 hr
def q2V (a1_0_0:visits):Nat→Occurrence→Unit→Option (Unit ⊕ Int):=fun k1 x1 _=>(q7Z x1 a1_0_0).bind fun y1=>if y1=true then some (.inr (k1:Int)) else some (.inl ())
def q3c (a0:(List Occurrence))(a1_0_0:visits):Option Int:=(q2u (q2V a1_0_0) 0 a0 ()).bind <| onr (fun r1=>some r1) fun _=>some (-1)
theorem q5Y {a0}{a1_0_0}{r}(hr:q3c a0 a1_0_0=some r){z0}(ha0:rdS F0 w0 a0 z0){b1_0_0p:Nat}(ha1_0_0:CapP F0 w0 b1_0_0p a1_0_0){b1_0p:Nat}(ha1_0:F0 b1_0p∧At w0 b1_0p 0 [pB b1_0_0p]):RT 135 #[z0,.func (.func 99) #[] #[pB b1_0p]] w0 fun v w=>v = .int .i64 r∧I64 r:=by
 obtain⟨A0',n0',c0',rfl⟩:=ha0.form3
 have H:=(HL.start F0 w0).argS ha0
 obtain⟨cpa1_0_0,H⟩:=H.argP ha1_0_0
 obtain⟨A1,n1,c1,A2,n2,c2,A3,n3,c3,A4,n4,c4,A5,n5,c5,A6,n6,c6,A7,n7,c7,A8,n8,c8,A9,n9,c9,rfl,hS1,hS2,H⟩:=q6f H 2
 let d1:List Value:=[.slice A1 n1 c1,.slice A2 n2 c2,.slice A3 n3 c3,.string a1_0_0.r.Name,.string a1_0_0.r.Left,.slice A4 n4 c4,.bool a1_0_0.r.Literal,.slice A5 n5 c5,.slice A6 n6 c6,.slice A7 n7 c7,.slice A8 n8 c8,.slice A9 n9 c9]
 have H:=H.argA ha1_0
 refine (En Tryz.func135) ?_
 refine R ((A) (Z (Y (R ((V) ((NI H 0) fun hl1=>(V) (Z ?_)))))))
 refine bb hr fun q1 hq1 hr=>?_
 refine (lF hq1 (fun k1 _ _=>[(0,.slice A0' n0' c0'),(1,.func (.func 99) #[] #[pB b1_0p]),(7,zN a0.length),(8,zN k1)]) (fun _ _ w=>HL F0 [] w0 w [.S a0 (.slice A0' n0' c0'),.A b1_0_0p 0 d1,.R a1_0_0 d1,.S a1_0_0.g.Symbols (.slice A1 n1 c1),.S a1_0_0.g.Rules (.slice A2 n2 c2),.S a1_0_0.phases (.slice A3 n3 c3),.S a1_0_0.r.Right (.slice A4 n4 c4),.S a1_0_0.r.Equations (.slice A5 n5 c5),.S a1_0_0.r.Contributions (.slice A6 n6 c6),.S a1_0_0.due (.slice A7 n7 c7),.S a1_0_0.known (.slice A8 n8 c8),.S a1_0_0.next (.slice A9 n9 c9),.A b1_0p 0 [pB b1_0_0p]] []) ()) ?_
 rintro k1 _ _ σ w1 hk1 hq1 H
 refine R ((BZ) (Y ?_))
 refine q0e rfl (fun h1=>?_) (fun h1=>?_)
 ·have hk2:=q2G h1
  obtain⟨x1,z1,hx1,hb1,hs1,ht1⟩:=q3o hq1 hk2
  refine K (Y ?_)
  refine Bk (R ((V) ((A) (Z (R ((V) ((V) ((V) ?_))))))))
  obtain⟨b1,ob1,cb1,hvb1,hI1,hS3,H⟩:=q5E H 0 hx1
  refine (J 2 hvb1 hx1) ((LA H 13) ?_)
  refine bb hb1 fun y1 hy1 hb1=>?_
  refine (CA ok99 (z4f hy1 (F0:=fun q=>q < _) ⟨rfl,hI1,hS3⟩ ⟨H.rAl (i:=1) rfl,_,H.rA (i:=1) rfl,⟨_,_,_,_,_,_,_,_,_,rfl,hS1,hS2,(rs H 3),(rs H 4),(rs H 5),(rs H 6),(rs H 7),(rs H 8),(rs H 9),(rs H 10),(rs H 11)⟩⟩ ⟨H.rAl (i:=12) rfl,H.rA (i:=12) rfl⟩)) (cE H fun w2 H=>Z (iB hb1 (fun _ hb1=>?_) fun _ hb1=>?_))
  ·exact R ((V) ((AZ) (W2 hb1 ht1 hr)))
  exact K (X ((AN hk2 hl1) ((V) (Z (I2 hb1 hs1 ⟨k1+1,(),()⟩)))))
 obtain rfl:=q2M hq1 (q2t h1)
 have hr:=(q2S _ _ _).symm.trans hr
 exact CE (R ((AZ) (W1 hr)))
def q2x (a0:(List Occurrence))(a1_0_0:visits):Option Bool:=(q3c a0 a1_0_0).bind fun y1=>some (decide (0≤y1))
theorem q5K {a0}{a1_0_0}{r}(hr:q2x a0 a1_0_0=some r){z0}(ha0:rdS F0 w0 a0 z0){b1_0_0p:Nat}(ha1_0_0:CapP F0 w0 b1_0_0p a1_0_0){b1_0p:Nat}(ha1_0:F0 b1_0p∧At w0 b1_0p 0 [pB b1_0_0p]):RB 98 #[z0,.func (.func 99) #[] #[pB b1_0p]] w0 r:=by
 obtain⟨A0',n0',c0',rfl⟩:=ha0.form3
 have H:=(HL.start F0 w0).argS ha0
 obtain⟨cpa1_0_0,H⟩:=H.argP ha1_0_0
 obtain⟨A1,n1,c1,A2,n2,c2,A3,n3,c3,A4,n4,c4,A5,n5,c5,A6,n6,c6,A7,n7,c7,A8,n8,c8,A9,n9,c9,rfl,hS1,hS2,H⟩:=q6f H 2
 have H:=H.argA ha1_0
 refine (En Tryz.func98) ?_
 refine R ((A) (Z (R ((V) ((V) ?_)))))
 refine bb hr fun y1 hy1 hr=>?_
 exact (CA j8e (q5Y hy1 (F0:=fun q=>q < _) (rs H 0) ⟨H.rAl (i:=1) rfl,_,H.rA (i:=1) rfl,⟨_,_,_,_,_,_,_,_,_,rfl,hS1,hS2,(rs H 3),(rs H 4),(rs H 5),(rs H 6),(rs H 7),(rs H 8),(rs H 9),(rs H 10),(rs H 11)⟩⟩ ⟨H.rAl (i:=12) rfl,H.rA (i:=12) rfl⟩)) (cF' H fun w1 hI1 H=>(B) ((AZ) (W1 hr)))
def q5T (a0:visits):Int→Option (Int ⊕ (Unit ⊕ Bool)):=fun s1=>if s1≤(a0.r.Right.length:Int) then grd (0≤s1) <| (a0.next[s1.toNat]?).bind fun x1=>(q5n a0 s1).bind fun y1=>if x1 < (y1.length:Int) then some (.inr (.inr false)) else grd (I64 (s1+1)) <| some (.inl (s1+1)) else some (.inr (.inl ()))
def q6m (a0:visits):Option Bool:=( q7k (q5T a0) 1 ).bind <| onr (fun r1=>some r1) fun ()=>(q2x a0.due a0).bind fun y2=>some (!y2)
theorem z5A {a0}{r}(hr:q6m a0=some r){b0p:Nat}(ha0:CapP F0 w0 b0p a0):RB 59 #[pB b0p] w0 r:=by
 have H:=HL.start F0 w0
 obtain⟨cpa0,H⟩:=H.argP ha0
 obtain⟨A1,n1,c1,A2,n2,c2,A3,n3,c3,A4,n4,c4,A5,n5,c5,A6,n6,c6,A7,n7,c7,A8,n8,c8,A9,n9,c9,rfl,hS1,hS2,H⟩:=q6f H 1
 let d13:Pr:=.S a0.due (.slice A7 n7 c7)
 let d12:Pr:=.S a0.next (.slice A9 n9 c9)
 let d11:Pr:=.S a0.known (.slice A8 n8 c8)
 let d10:Pr:=.S a0.phases (.slice A3 n3 c3)
 let d9:Pr:=.S a0.r.Right (.slice A4 n4 c4)
 let d8:Pr:=.S a0.g.Rules (.slice A2 n2 c2)
 let d7:Pr:=.S a0.g.Symbols (.slice A1 n1 c1)
 let d6:Pr:=.S a0.r.Equations (.slice A5 n5 c5)
 let d4:Pr:=.S a0.r.Contributions (.slice A6 n6 c6)
 let d1:List Value:=[.slice A1 n1 c1,.slice A2 n2 c2,.slice A3 n3 c3,.string a0.r.Name,.string a0.r.Left,.slice A4 n4 c4,.bool a0.r.Literal,.slice A5 n5 c5,.slice A6 n6 c6,.slice A7 n7 c7,.slice A8 n8 c8,.slice A9 n9 c9]
 let d3:List Pr:=[.A b0p 0 d1,.R a0 d1,d7,d8,d10,d9,d6,d4,d13,d11,d12]
 refine (En Tryz.func59) ?_
 refine R ((BX H) fun b1 w1 H=>(A) (Z (Y (R ((AZ) ?_)))))
 let d5:List It:=[.B b1 113 [pB b0p]]
 refine bb hr fun q1 hm1 hr=>?_
 refine q0u (fun ρ' w=>q1 = .inl ()∧q4R ρ' [(1,pB b1)]∧HL F0 [] w0 w d3 d5) ?_ ?_
 ·obtain⟨m1,hq1⟩:=q5g.1 hm1
  refine (lI hq1 (fun m1 s1 _=>[(1,pB b1),(3,.int .i64 s1)]) (fun s1 _ w=>I64 s1∧HL F0 [] w0 w d3 d5) ()) ?_
  rintro m1 s1 _ σ w2 hq1 ⟨hI1,H⟩
  obtain⟨m2,z1,rfl,hb1,hs1,ht1⟩:=q8B hq1
  refine Y (R ((V) ((L H 0) ((NC) ((D 3) ((D 2) ?_))))))
  refine q0b rfl rfl (q0h rfl ag58 rfl ((ra H 0).cellK (k:=5) rfl rfl)) ((NI H 5) fun hl1=>(BZ) (iD hb1 (fun _ hb1=>?_) fun _ hb1=>?_))
  ·refine K ?_
   refine gg hb1 fun hg1 hb1=>?_
   refine bb hb1 fun x1 hx1 hb1=>?_
   obtain⟨b2,ob2,cb2,hvb2,hI2,H⟩:=z6M H 10 hx1
   let d14:Pr:=.A b2 (ob2+s1.toNat*1) [.int .i64 x1]
   let d2:List Pr:=[.A b0p 0 d1,.R a0 d1,d7,d8,d10,d9,d6,d4,d13,d11,d12,d14,.R x1 [.int .i64 x1]]
   refine Y ?_
   refine Bk (Y ?_)
   refine q0y (fun w=>HL F0 [] w0 w d2 d5) hmix (fun w3 hE=>?_)
   have H:HL F0 [] w0 w3 d2 d5:=H.ext hE
   refine HW.take 0 (H.keep 13 1) rfl (by kernel_rfl) rfl rfl (fun _ hq=>q0h rfl j9W rfl ((hq.rB (i:=0) rfl).cell rfl)) ?_
   refine HW.take 1 (H.keep 13 1) rfl (by kernel_rfl) rfl rfl (fun _ _=>q0o rfl rfl) ?_
   refine HW.take 2 (H.keep 13 1) rfl (by kernel_rfl) rfl rfl (fun _ _=>q0m rfl j6h rfl) ?_
   refine HW.take 3 (H.keep 13 1) rfl (by kernel_rfl) rfl rfl (fun _ hq=>q0h rfl ag94 rfl ((hq.rA (i:=0) rfl).cell rfl)) ?_
   refine HW.take 4 (H.keep 13 1) rfl (by kernel_rfl) rfl rfl (fun _ _=>q0j rfl rfl) ?_
   refine HW.take 5 (H.keep 13 1) rfl (by kernel_rfl) rfl rfl (fun _ _=>q0l rfl el94 sz3 rfl hvb2 rfl hg1 (q4G hx1)) ?_
   refine HW.take 6 (H.keep 13 1) rfl (by kernel_rfl) rfl rfl (fun _ hq=>q0h rfl ag3 rfl ((hq.rA (i:=11) rfl).cell0 rfl)) ?_
   refine HW.take 7 (H.keep 13 1) rfl (by kernel_rfl) rfl rfl (fun _ hq=>q0h rfl j9W rfl ((hq.rB (i:=0) rfl).cell rfl)) ?_
   refine HW.take 8 (H.keep 13 1) rfl (by kernel_rfl) rfl rfl (fun _ _=>q0j rfl rfl) ?_
   refine q0f 9 rfl (by kernel_rfl) ?_
   refine bb hb1 fun y1 hy1 hb1=>?_
   obtain⟨F,hF,hcl⟩:=H.call
   refine (CA ok56 (z1j hy1 ⟨(hF.get (i:=0) rfl).1,_,(hF.get (i:=0) rfl).2,⟨_,_,_,_,_,_,_,_,_,rfl,hS1,hS2,(hF.get (i:=2) rfl),(hF.get (i:=3) rfl),(hF.get (i:=4) rfl),(hF.get (i:=5) rfl),(hF.get (i:=6) rfl),(hF.get (i:=7) rfl),(hF.get (i:=8) rfl),(hF.get (i:=9) rfl),(hF.get (i:=10) rfl)⟩⟩ hI1)) ?_
   rintro _ w4 hE ⟨A10,n10,c10,rfl,H'⟩
   have H:HL F0 [] w0 w4 [.A b0p 0 d1,.R a0 d1,d7,d8,d10,d9,d6,d4,d13,d11,d12,d14,.R x1 [.int .i64 x1],.S y1 (.slice A10 n10 c10)] d5:=hcl H'
   refine HW.next (H.keep 13 1) ?_
   have hl2:=(H.rS (i:=13) rfl).I
   refine HW.take 10 (H.keep 13 1) rfl (by kernel_rfl) rfl rfl (fun _ _=>q0H rfl el54 rfl (rs H 13)) ?_
   refine HW.take 11 (H.keep 13 1) rfl (by kernel_rfl) rfl rfl (fun _ _=>q0J rfl rfl rfl q1c) ?_
   refine q0r (by kernel_rfl) (iD hb1 (fun _ hb1=>?_) fun _ hb1=>?_)
   ·exact R ((AZ) (W2 hb1 ht1 hr))
   refine K (X ((V) ?_))
   exact gg hb1 fun hg2 hb1=>(BN (Bin.add hg2)) ((A) (Z (I2 hb1 hs1 ⟨m2,(s1+1),()⟩)))
  exact CE (C2 hb1 ht1)
 rintro ρ' w5 ⟨rfl,hag,H⟩
 obtain⟨σ,rfl⟩:=q4H hag
 refine R ((L H 0) ((NC) ((D 9) ((LC H 0) ?_))))
 refine q0b rfl rfl (q0q rfl rfl rfl) ?_
 refine bb hr fun y2 hy2 hr=>?_
 exact (CA ok98 (q5K hy2 (F0:=fun q=>q < _) (rs H 8) ⟨H.rAl (i:=0) rfl,_,H.rA (i:=0) rfl,⟨_,_,_,_,_,_,_,_,_,rfl,hS1,hS2,(rs H 2),(rs H 3),(rs H 4),(rs H 5),(rs H 6),(rs H 7),(rs H 8),(rs H 9),(rs H 10)⟩⟩ ⟨(rb H 0).lt,At.blk (rb H 0)⟩)) (cE H fun w6 H=>(N) ((AZ) (W1 hr)))
def q6E (a3:(List Step))(y1:visits)(y2:(List Phase)):Nat→Step→((List Occurrence) × (List Int) × ByteArray × ByteArray × Bool × (List Occurrence))→Option (((List Occurrence) × (List Int) × ByteArray × ByteArray × Bool × (List Occurrence)) ⊕ Bool):=fun k1 x2 (s2,s3,s4,s5,s6,s7)=>(q7U x2 (⟨y1.g,y1.phases,(⟨s4,s5,y1.r.Right,s6,y1.r.Equations,y1.r.Contributions⟩:Rule),s2,s7,s3⟩:visits)).bind fun (y3,z3)=>( if y3=true then (z3.next[0]?).bind fun x3=>( if x3=(y2.length:Int) then some (true,decide ((k1:Int) < ((a3.length:Int) - 1))) else some (false,false) ).bind fun (s9,s10)=>some s10 else some true ).bind fun s8=>if s8=true then some (.inr false) else some (.inl (z3.due,z3.next,z3.r.Name,z3.r.Left,z3.r.Literal,z3.known))
def q7h (a0:Grammar)(a1:(List (List Phase)))(a2:Rule)(a3:(List Step)):Option Bool:=(z5w a0 a1 a2).bind fun y1=>(q5e 0 y1).bind fun y2=>( if (y2.length:Int)=0 then some true else some (decide ((a3.length:Int)=0)) ).bind fun s1=>if s1=true then some false else (y2[0]?).bind fun x1=>(q6C 0 x1.Inherited y1).bind fun z1=>(q2u (q6E a3 y1 y2) 0 a3 (z1.due,z1.next,z1.r.Name,z1.r.Left,z1.r.Literal,z1.known)).bind <| onr (fun r1=>some r1) fun (s2,s3,s4,s5,s6,s7)=>(s3[0]?).bind fun x4=>( if x4=(y2.length:Int) then (q6m (⟨y1.g,y1.phases,(⟨s4,s5,y1.r.Right,s6,y1.r.Equations,y1.r.Contributions⟩:Rule),s2,s7,s3⟩:visits)).bind fun y4=>some y4 else some false ).bind fun s11=>some s11
theorem z7e {a0}{a1}{a2}{a3}{r}(hr:q7h a0 a1 a2 a3=some r){ca0}(ha0:rd F0 w0 a0 ca0){z1}(ha1:rdS F0 w0 a1 z1){ca2}(ha2:rd F0 w0 a2 ca2){z3}(ha3:rdS F0 w0 a3 z3):RB 28 #[ag ca0,z1,ag ca2,z3] w0 r:=by
 obtain⟨A1',n1',c1',rfl⟩:=ha1.form3
 let d17:Pr:=.S a1 (.slice A1' n1' c1')
 obtain⟨A3',n3',c3',rfl⟩:=ha3.form3
 let d18:Pr:=.S a3 (.slice A3' n3' c3')
 have H:=((((HL.start F0 w0).argR ha0).argS ha1).argR ha2).argS ha3
 obtain⟨A1,n1,c1,A2,n2,c2,rfl,H⟩:=q2s H 0
 let d14:Pr:=.S a0.Rules (.slice A2 n2 c2)
 let d13:Pr:=.S a0.Symbols (.slice A1 n1 c1)
 let d4:List Value:=[.slice A1 n1 c1,.slice A2 n2 c2]
 obtain⟨A3,n3,c3,A4,n4,c4,A5,n5,c5,rfl,hS1,hS2,H⟩:=q3j H 2
 let d15:Pr:=.S a2.Right (.slice A3 n3 c3)
 let d12:Pr:=.S a2.Equations (.slice A4 n4 c4)
 let d8:Pr:=.S a2.Contributions (.slice A5 n5 c5)
 let d2:=q4o a2 A3 n3 c3 A4 n4 c4 A5 n5 c5
 refine (En Tryz.func28) ?_
 refine R ((BX H) fun b1 w1 H=>(BX H) fun b2 w2 H=>(A) (Z (R ((LB H 0) ((V) ((LB H 1) ?_))))))
 let d22:It:=.B b1 35 d4
 refine bb hr fun y1 hy1 hr=>?_
 obtain⟨F,hF,hcl⟩:=H.call
 refine (CA ok55 (j2u hy1 ⟨_,_,rfl,(hF.get (i:=4) rfl),(hF.get (i:=5) rfl)⟩ (hF.get (i:=1) rfl) ⟨_,_,_,rfl,hS1,hS2,(hF.get (i:=6) rfl),(hF.get (i:=7) rfl),(hF.get (i:=8) rfl)⟩)) ?_
 rintro _ w3 hE ⟨b3,A6,n6,c6,A7,n7,c7,A8,n8,c8,A9,n9,c9,A10,n10,c10,A11,n11,c11,A12,n12,c12,A13,n13,c13,A14,n14,c14,rfl,hS3,hS4,H'⟩
 let d11:Pr:=.S y1.phases (.slice A8 n8 c8)
 let d10:Pr:=.S y1.r.Right (.slice A9 n9 c9)
 let d9:Pr:=.S y1.g.Rules (.slice A7 n7 c7)
 let d6:Pr:=.S y1.g.Symbols (.slice A6 n6 c6)
 let d5:Pr:=.S y1.r.Equations (.slice A10 n10 c10)
 let d3:Pr:=.S y1.r.Contributions (.slice A11 n11 c11)
 let d1:List It:=[d22,.B b2 62 d2,.O 133 y1.due (.slice A12 n12 c12),.O 3 y1.next (.slice A14 n14 c14),.B b3 119 [.slice A6 n6 c6,.slice A7 n7 c7,.slice A8 n8 c8,.string y1.r.Name,.string y1.r.Left,.slice A9 n9 c9,.bool y1.r.Literal,.slice A10 n10 c10,.slice A11 n11 c11,.slice A12 n12 c12,.slice A13 n13 c13,.slice A14 n14 c14],.O 133 y1.known (.slice A13 n13 c13)]
 have H:HL F0 [] w0 w3 [.R a0 d4,d17,.R a2 d2,d18,d13,d14,d15,d12,d8,d6,d9,d11,d10,d5,d3] d1:=hcl H'
 refine (A) (Z (R ((V) ?_)))
 refine bb hr fun y2 hy2 hr=>?_
 obtain⟨F',M',hfF,hcM⟩:=H.callW [false,false,true,true,true,true] ⟨noO,noO,noB,noO,trivial⟩
 obtain⟨H',hcN⟩:=hcM (ps:=[d6,.S y1.g.Rules (.slice A7 n7 c7),.S y1.phases (.slice A8 n8 c8),.S y1.r.Right (.slice A9 n9 c9),d5,d3]) ⟨hfF.get (i:=9) rfl,hfF.get (i:=10) rfl,hfF.get (i:=11) rfl,hfF.get (i:=12) rfl,hfF.get (i:=13) rfl,hfF.get (i:=14) rfl,trivial⟩
 refine (CA ok56 (q4L hy2 dI hS3 hS4 H')) ?_
 rintro _ w4 hE ⟨A15,n15,c15,rfl,H'⟩
 let d20:Pr:=.S y2 (.slice A15 n15 c15)
 have H:=hcN 4 H' rfl
 refine (A) (Z (Y (R ((V) ((NI H 15) fun hl1=>(B) ?_)))))
 refine bb hr fun q1 hm1 hr=>?_
 refine cu H 5 [(3,.slice A3' n3' c3'),(9,pB b3),(10,.slice A15 n15 c15),(26,.bool q1)] [.R a0 d4,d17,.R a2 d2,d18,d13,d14,d15,d12,d8,d6,d9,d11,d10,d5,d3,d20] d1 ?_ fun σ w5 H=>?_
 ·refine jD hm1 (fun _ hm1=>?_) fun _ hm1=>?_
  ·exact OF hm1
  exact (G) ((V) ((G) ((NI H 3) fun hl2=>(G) ((B) ((U) (Z (C1 hm1)))))))
 refine Z (iB hr (fun _ hr=>?_) fun _ hr=>?_)
 ·exact R ((AZ) (W1 hr))
 refine K (R ((V) ((V) ?_)))
 refine bb hr fun x1 hx1 hr=>?_
 obtain⟨b4,ob4,cb4,A16,n16,c16,A17,n17,c17,hvb4,H⟩:=q5M H 15 hx1
 let d19:Pr:=.S x1.Synthesized (.slice A17 n17 c17)
 let d16:Pr:=.S x1.Inherited (.slice A16 n16 c16)
 let d7:List Value:=[.slice A16 n16 c16,.slice A17 n17 c17]
 let d21:Pr:=.A b4 (ob4+0*2) d7
 refine (J 2 hvb4 hx1) ((D 0) ((LC H 16) ?_))
 refine bb hr fun z1 hy3 hr=>?_
 obtain⟨F',M',hfF,hoF,hcM⟩:=H.callN [false,false,true,true,true,true] ⟨noO,noO,noB,noO,trivial⟩
 obtain⟨H',hcN⟩:=hcM (ps:=[d16,d6,d9,d11,d10,d5,d3]) ⟨hfF.get (i:=18) rfl,hfF.get (i:=9) rfl,hfF.get (i:=10) rfl,hfF.get (i:=11) rfl,hfF.get (i:=12) rfl,hfF.get (i:=13) rfl,hfF.get (i:=14) rfl,trivial⟩
 refine (CA ok57 (q7f hy3 dI hS3 hS4 H')) ?_
 rintro _ w6 hE ⟨A18,n18,c18,A19,n19,c19,A20,n20,c20,rfl,hS5,hS6,H'⟩
 have H:=hcN 4 H' rfl ⟨fun _ _ _ _ _ h=>h,⟨fun _ _ _ _ _ h=>h,⟨fun _ _ _ _ _ h=>h,tv⟩⟩⟩
 refine Z (Y (R ((V) ((NI H 3) fun hl3=>(V) (Z ?_)))))
 refine bb hr fun q2 hq1 hr=>?_
 refine (lF (β:=Value × Value × Value) hq1 (fun k1 ⟨s2,s3,s4,s5,s6,s7⟩ ⟨v1,v2,v3⟩=>[(3,.slice A3' n3' c3'),(9,pB b3),(10,.slice A15 n15 c15),(33,.slice A3' n3' c3'),(34,zN a3.length),(35,zN k1)]) (fun ⟨s2,s3,s4,s5,s6,s7⟩ ⟨v1,v2,v3⟩ w=>s4.size≤9223372036854775807∧s5.size≤9223372036854775807∧HL F0 [] w0 w [.R a0 d4,d17,.R a2 d2,d18,d13,d14,d15,d12,d8,d6,d9,d11,d10,d5,d3,d20,d21,.R x1 d7,d16,d19] [d22,.B b2 62 d2,.O 133 s2 v1,.O 3 s3 v2,.B b3 119 [.slice A6 n6 c6,.slice A7 n7 c7,.slice A8 n8 c8,.string s4,.string s5,.slice A9 n9 c9,.bool s6,.slice A10 n10 c10,.slice A11 n11 c11,v1,v3,v2],.O 133 s7 v3]) ⟨(.slice A18 n18 c18),(.slice A20 n20 c20),(.slice A19 n19 c19)⟩) ?_
 rintro k1 ⟨s2,s3,s4,s5,s6,s7⟩ ⟨v1,v2,v3⟩ σ w7 hk1 hq1 ⟨hS7,hS8,H⟩
 obtain⟨A21,n21,c21,rfl⟩:=(fo H 2)
 obtain⟨A22,n22,c22,rfl⟩:=(fo H 3)
 obtain⟨A23,n23,c23,rfl⟩:=(fo H 5)
 refine R ((BZ) (Y ?_))
 refine q0e rfl (fun h3=>?_) (fun h3=>?_)
 ·have hk2:=q2G h3
  obtain⟨x2,z2,hx2,hb1,hs1,ht1⟩:=q3o hq1 hk2
  unfold q6E at hb1
  dsimp only at hb1
  refine K (Y ?_)
  refine Bk (R ((V) ?_))
  obtain⟨b5,ob5,cb5,hvb5,hI1,hI2,hI3,hS9,H⟩:=z4z H 3 hx2
  refine (J 4 hvb5 hx2) ((LA H 20) ((AH j6d H) fun b6 w8 H=>(A) ((SB H 6) fun w9 H=>Z (R ((V) ((LB H 6) ?_))))))
  obtain⟨⟨y3,z3⟩,hy4,hb1⟩:=bd hb1
  obtain⟨F',M',hfF,hoF,hcM⟩:=H.callN [false,false,true,true,true,true,false] ⟨noO,noO,noB,noO,trivial⟩
  obtain⟨H',hcN⟩:=hcM (ps:=[d6,.S y1.g.Rules (.slice A7 n7 c7),.S y1.phases (.slice A8 n8 c8),.S y1.r.Right (.slice A9 n9 c9),d5,d3]) ⟨hfF.get (i:=9) rfl,hfF.get (i:=10) rfl,hfF.get (i:=11) rfl,hfF.get (i:=12) rfl,hfF.get (i:=13) rfl,hfF.get (i:=14) rfl,trivial⟩
  refine (CA ok58 (z6v hy4 hI1 hI2 hI3 hS9 hS7 hS8 H')) ?_
  rintro _ w10 hE ⟨A24,n24,c24,A25,n25,c25,A26,n26,c26,rfl,hS10,hS11,H'⟩
  have H:=hcN 4 H' rfl ⟨fun _ _ _ _ _ h=>h,⟨fun _ _ _ _ _ h=>h,⟨fun _ _ _ _ _ h=>h,tv⟩⟩⟩
  refine (N) ?_
  refine bb hb1 fun q3 hm2 hb1=>?_
  refine cu H 18 [(3,.slice A3' n3' c3'),(9,pB b3),(10,.slice A15 n15 c15),(33,.slice A3' n3' c3'),(34,zN a3.length),(35,zN k1),(61,.bool q3)] [.R a0 d4,d17,.R a2 d2,d18,d13,d14,d15,d12,d8,d6,d9,d11,d10,d5,d3,d20,d21,.R x1 d7,d16,d19,.A b5 (ob5+k1*4) (q5i x2),.R x2 (q5i x2)] [d22,.B b2 62 d2,.O 133 z3.due (.slice A24 n24 c24),.O 3 z3.next (.slice A26 n26 c26),.B b3 119 [.slice A6 n6 c6,.slice A7 n7 c7,.slice A8 n8 c8,.string z3.r.Name,.string z3.r.Left,.slice A9 n9 c9,.bool z3.r.Literal,.slice A10 n10 c10,.slice A11 n11 c11,.slice A24 n24 c24,.slice A25 n25 c25,.slice A26 n26 c26],.O 133 z3.known (.slice A25 n25 c25),.B b6 102 (q5i x2)] ?_ fun σ w12 H=>?_
  ·refine jM hm2 (fun _ hm2=>?_) fun _ hm2=>?_
   ·exact OF hm2
   refine (G) ((V) ((G) ((NC) ((G) ((D 11) ((G) ((L H 4) ((G) ?_))))))))
   refine bb hm2 fun x3 hx3 hm2=>?_
   obtain⟨b7,cb7,hvb7,hbb7⟩:=po H 3 hx3
   refine (J 1 hvb7 hx3) ((G) ?_)
   obtain⟨hA1,hI4,H⟩:=q5p H 3 hx3 hbb7
   refine q0b rfl rfl (q0h rfl ag3 rfl (hA1.cell0 rfl)) ((G) ((V) ((G) ((NN (rs H 15)) ((G) ((B) ((G) ?_)))))))
   refine bb hm2 fun q4 hm3 hm2=>?_
   refine WL.cut 7 (fun ρ' w=>∃ (s9:Bool) (s10:Bool),q4=(s9,s10)∧q4R ρ' [(3,.slice A3' n3' c3'),(9,pB b3),(10,.slice A15 n15 c15),(33,.slice A3' n3' c3'),(34,zN a3.length),(35,zN k1),(44,.bool false),(45,pB b3),(46,pB b3),(47,.pointer (some ⟨b3,0+11,none⟩)),(48,.slice A26 n26 c26),(49,.pointer (some ⟨b7,0+0*1,none⟩)),(50,.int .i64 x3),(51,.slice A15 n15 c15),(52,zN y2.length),(53,.bool (decide (x3=(y2.length:Int)))),(54,.bool s9),(60,.bool s10)]∧HL F0 [] w0 w [.R a0 d4,d17,.R a2 d2,d18,d13,d14,d15,d12,d8,d6,d9,d11,d10,d5,d3,d20,d21,.R x1 d7,d16,d19,.A b5 (ob5+k1*4) (q5i x2),.R x2 (q5i x2),.R x3 [.int .i64 x3]] [d22,.B b2 62 d2,.O 133 z3.due (.slice A24 n24 c24),.O 3 z3.next (.slice A26 n26 c26),.B b3 119 [.slice A6 n6 c6,.slice A7 n7 c7,.slice A8 n8 c8,.string z3.r.Name,.string z3.r.Left,.slice A9 n9 c9,.bool z3.r.Literal,.slice A10 n10 c10,.slice A11 n11 c11,.slice A24 n24 c24,.slice A25 n25 c25,.slice A26 n26 c26],.O 133 z3.known (.slice A25 n25 c25),.B b6 102 (q5i x2)]) ?_ ?_
   ·refine (G) (jD hm3 (fun _ hm3=>?_) fun _ hm3=>?_)
    ·exact (G) ((V) ((G) ((V) ((G) ((NN (rs H 3)) ((G) ((BN (Bin.sub (z5e (k:=1) hl3 (by decide)))) ((G) ((B) ((G) ((T) (Z (C1 hm3)))))))))))))
    exact (O) ((O) ((O) ((O) ((O) ((G) ((U) (Z (C1 hm3))))))))
   rintro ρ' w11 ⟨s9,s10,rfl,hag,H⟩
   obtain⟨σ,rfl⟩:=q4H hag
   exact (U) (Z (C1 hm2))
  refine Z (iB hb1 (fun _ hb1=>?_) fun _ hb1=>?_)
  ·exact R ((AZ) (W2 hb1 ht1 hr))
  exact K (X ((AN hk2 hl3) ((V) (Z (I2 hb1 hs1 ⟨k1+1,⟨z3.due,z3.next,z3.r.Name,z3.r.Left,z3.r.Literal,z3.known⟩,⟨(.slice A24 n24 c24),(.slice A26 n26 c26),(.slice A25 n25 c25)⟩⟩)))))
 obtain rfl:=q2M hq1 (q2t h3)
 have hr:=(q2S _ _ _).symm.trans hr
 refine CE (R ((V) ((NC) ((D 11) ((L H 4) ?_)))))
 refine bb hr fun x4 hx4 hr=>?_
 obtain⟨b8,cb8,hvb8,hbb8⟩:=po H 3 hx4
 refine (J 1 hvb8 hx4) ?_
 obtain⟨hA2,hI5,H⟩:=q5p H 3 hx4 hbb8
 refine q0b rfl rfl (q0h rfl ag3 rfl (hA2.cell0 rfl)) ((V) ((NN (rs H 15)) ((B) ?_)))
 refine bb hr fun q5 hm4 hr=>?_
 refine cu H 4 [(75,.bool q5)] [.R a0 d4,d17,.R a2 d2,d18,d13,d14,d15,d12,d8,d6,d9,d11,d10,d5,d3,d20,d21,.R x1 d7,d16,d19,.R x4 [.int .i64 x4]] [d22,.B b2 62 d2,.O 133 s2 (.slice A21 n21 c21),.O 3 s3 (.slice A22 n22 c22),.B b3 119 [.slice A6 n6 c6,.slice A7 n7 c7,.slice A8 n8 c8,.string s4,.string s5,.slice A9 n9 c9,.bool s6,.slice A10 n10 c10,.slice A11 n11 c11,.slice A21 n21 c21,.slice A23 n23 c23,.slice A22 n22 c22],.O 133 s7 (.slice A23 n23 c23)] ?_ fun σ w14 H=>?_
 ·refine jD hm4 (fun _ hm4=>?_) fun _ hm4=>?_
  ·refine (G) ((V) ((G) ?_))
   refine bb hm4 fun y4 hy5 hm4=>?_
   exact (CA ok59 (z5A hy5 (F0:=fun q=>q < _) ⟨(rb H 4).lt,_,At.blk (rb H 4),⟨_,_,_,_,_,_,_,_,_,rfl,hS7,hS8,(rs H 9),(rs H 10),(rs H 11),(rs H 12),(rs H 13),(rs H 14),(ro H 2),(ro H 5),(ro H 3)⟩⟩)) (cE H fun w13 H=>(T) (Z (C1 hm4)))
  exact OF hm4
 exact (AZ) (W1 hr)
def z6w (a0:Grammar)(a1:(List (List Phase)))(a2:(List RulePlan)):Nat→Rule→Unit→Option (Unit ⊕ Bool):=fun k1 x1 _=>(a2[k1]?).bind fun x2=>if x2.Rule=x1.Name then (q7h a0 a1 x1 x2.Steps).bind fun y3=>if y3=true then some (.inl ()) else some (.inr false) else some (.inr false)
def z0h (a0:Grammar)(a1:(List (List Phase)))(a2:(List RulePlan)):Option Bool:=(z3a a0).bind fun y1=>( if y1=true then some (!(decide ((a1.length:Int)=(a0.Symbols.length:Int)))) else some true ).bind fun s1=>( if s1=true then some true else some (!(decide ((a2.length:Int)=(a0.Rules.length:Int)))) ).bind fun s2=>( if s2=true then some true else (q3M a1).bind fun y2=>some y2 ).bind fun s3=>if s3=true then some false else (q2u (z6w a0 a1 a2) 0 a0.Rules ()).bind <| onr (fun r1=>some r1) fun _=>some true
theorem j1x {a0}{a1}{a2}{r}(hr:z0h a0 a1 a2=some r){ca0}(ha0:rd F0 w0 a0 ca0){z1}(ha1:rdS F0 w0 a1 z1){z2}(ha2:rdS F0 w0 a2 z2):RB 11 #[ag ca0,z1,z2] w0 r:=by
 obtain⟨A1',n1',c1',rfl⟩:=ha1.form3
 let d7:Pr:=.S a1 (.slice A1' n1' c1')
 obtain⟨A2',n2',c2',rfl⟩:=ha2.form3
 let d8:Pr:=.S a2 (.slice A2' n2' c2')
 have H:=(((HL.start F0 w0).argR ha0).argS ha1).argS ha2
 obtain⟨A1,n1,c1,A2,n2,c2,rfl,H⟩:=q2s H 0
 let d6:Pr:=.S a0.Rules (.slice A2 n2 c2)
 let d5:Pr:=.S a0.Symbols (.slice A1 n1 c1)
 let d2:List Value:=[.slice A1 n1 c1,.slice A2 n2 c2]
 let d1:List Pr:=[.R a0 d2,d7,d8,d5,d6]
 refine (En Tryz.func11) ?_
 refine R ((BX H) fun b1 w1 H=>(A) (Z (Y (R ((LB H 0) ?_)))))
 let d9:It:=.B b1 35 d2
 refine bb hr fun y1 hy1 hr=>?_
 refine (CA ok25 (j2t hy1 ⟨_,_,rfl,(rs H 3),(rs H 4)⟩)) (cE H fun w2 H=>(N) ?_)
 refine bb hr fun q1 hm1 hr=>?_
 refine cu H 8 [(1,.slice A1' n1' c1'),(2,.slice A2' n2' c2'),(3,pB b1),(19,.bool q1)] d1 [d9] ?_ fun σ w3 H=>?_
 ·refine jM hm1 (fun _ hm1=>?_) fun _ hm1=>?_
  ·exact OF hm1
  exact (G) ((V) ((G) ((NI H 1) fun hl1=>(G) ((D 0) ((G) ((L H 0) ((G) ((NI H 3) fun hl2=>(G) ((B) ((U) (Z (C1 hm1))))))))))))
 refine bb hr fun q2 hm2 hr=>?_
 refine cu H 8 [(1,.slice A1' n1' c1'),(2,.slice A2' n2' c2'),(3,pB b1),(27,.bool q2)] d1 [d9] ?_ fun σ w4 H=>?_
 ·refine jB hm2 (fun _ hm2=>?_) fun _ hm2=>?_
  ·exact OF hm2
  exact (G) ((V) ((G) ((NI H 2) fun hl3=>(G) ((D 1) ((G) ((L H 0) ((G) ((NI H 4) fun hl4=>(G) ((B) ((U) (Z (C1 hm2))))))))))))
 refine bb hr fun q3 hm3 hr=>?_
 refine cu H 4 [(1,.slice A1' n1' c1'),(2,.slice A2' n2' c2'),(3,pB b1),(31,.bool q3)] d1 [d9] ?_ fun σ w6 H=>?_
 ·refine jB hm3 (fun _ hm3=>?_) fun _ hm3=>?_
  ·exact OF hm3
  refine (G) ((V) ((G) ?_))
  refine bb hm3 fun y2 hy2 hm3=>?_
  exact (CA ok26 (q7r hy2 (F0:=fun q=>q < _) (rs H 1))) (cE H fun w5 H=>(U) (Z (C1 hm3)))
 refine Z (iB hr (fun _ hr=>?_) fun _ hr=>?_)
 ·exact R ((AZ) (W1 hr))
 refine K (Y (R ((D 1) ((L H 0) ((NI H 4) fun hl5=>(V) (Z ?_))))))
 refine bb hr fun q4 hq1 hr=>?_
 refine (lF hq1 (fun k1 _ _=>[(1,.slice A1' n1' c1'),(2,.slice A2' n2' c2'),(3,pB b1),(33,.slice A2 n2 c2),(34,zN a0.Rules.length),(35,zN k1)]) (fun _ _ w=>HL F0 [] w0 w d1 [d9]) ()) ?_
 rintro k1 _ _ σ w7 hk1 hq1 H
 refine R ((BZ) (Y ?_))
 refine q0e rfl (fun h5=>?_) (fun h5=>?_)
 ·have hk2:=q2G h5
  obtain⟨x1,z1,hx1,hb1,hs1,ht1⟩:=q3o hq1 hk2
  refine K (Y ?_)
  refine Bk (R ((V) ?_))
  obtain⟨b2,ob2,cb2,A3,n3,c3,A4,n4,c4,A5,n5,c5,hvb2,hS1,hS2,H⟩:=q6N H 4 hx1
  let d3:=q4o x1 A3 n3 c3 A4 n4 c4 A5 n5 c5
  refine (J 6 hvb2 hx1) ((LA H 5) ((AH ze62 H) fun b3 w8 H=>(A) ((SB H 1) fun w9 H=>Z (Y ?_))))
  refine q0d hmix (by kernel_rfl) ?_
  refine (qV) ((qV) ?_)
  refine bb hb1 fun x2 hx2 hb1=>?_
  obtain⟨b4,ob4,cb4,A6,n6,c6,hvb4,hS3,H⟩:=q8x H 2 hx2
  let d4:=j0u x2 A6 n6 c6
  refine (qJ 2 hvb4 hx2) ((qD 0) ((qLC H 10) ((qD 0) ((qL H 1) ((qB) ?_)))))
  refine kN hb1 (fun _ hb1=>?_) fun _ hb1=>?_
  ·refine (qO) ((qO) ((qO) ((qO) ((qO) ((qO) ((qO) ((qO) ((qO) ((qO) ((qT) ?_))))))))))
   refine QL.nil (fun w10 hE=>?_)
   have H:=H.ext hE
   exact (cT) (R ((AZ) (W2 hb1 ht1 hr)))
  refine (qG) ((qLB H 0) ((qG) ((qV) ((qG) ((qLB H 1) ((qG) ((qV) ((qG) ((qV) ((qG) ((qJ 2 hvb4 hx2) ((qG) ((qD 1) ((qG) ((qLC H 10) ((qG) ?_))))))))))))))))
  refine bb hb1 fun y3 hy3 hb1=>?_
  refine (qC ok28 (fun _ hq=>z7e hy3 ⟨_,_,rfl,(rs (H.ext hq) 3),(rs (H.ext hq) 4)⟩ (rs (H.ext hq) 1) ⟨_,_,_,rfl,hS1,hS2,(rs (H.ext hq) 7),(rs (H.ext hq) 8),(rs (H.ext hq) 9)⟩ (rs (H.ext hq) 12))) ?_
  refine (qG) ((qN) ((qU) ?_))
  refine QL.nil (fun w11 hE=>?_)
  have H:=H.ext hE
  refine iM hb1 (fun _ hb1=>?_) fun _ hb1=>?_
  ·refine Y ?_
   refine q0a [] trivial fun σ=>?_
   have H:HL F0 [] w0 w11 [.R a0 d2,d7,d8,d5,d6,.A b2 (ob2+k1*6) d3,.R x1 d3,.S x1.Right (.slice A3 n3 c3),.S x1.Equations (.slice A4 n4 c4),.S x1.Contributions (.slice A5 n5 c5),.A b4 (ob4+k1*2) d4,.R x2 d4,.S x2.Steps (.slice A6 n6 c6)] [d9,.B b3 62 d3]:=H
   exact X ((AZ) (W2 hb1 ht1 hr))
  refine K ?_
  refine q0a [(1,.slice A1' n1' c1'),(2,.slice A2' n2' c2'),(3,pB b1),(33,.slice A2 n2 c2),(34,zN a0.Rules.length),(35,zN k1),(49,.agg #[.slice A1 n1 c1,.slice A2 n2 c2]),(50,.slice A1' n1' c1'),(51,.agg #[.string x1.Name,.string x1.Left,.slice A3 n3 c3,.bool x1.Literal,.slice A4 n4 c4,.slice A5 n5 c5]),(52,.slice A2' n2' c2'),(53,zN k1),(54,.pointer (some ⟨b4,ob4+k1*2,none⟩)),(55,.pointer (some ⟨b4,ob4+k1*2+1,none⟩)),(56,.slice A6 n6 c6),(57,.bool y3),(58,.bool (!y3))] ⟨rfl,rfl,rfl,rfl,rfl,rfl,rfl,rfl,rfl,rfl,rfl,rfl,rfl,rfl,rfl,rfl,trivial⟩ fun σ=>?_
  have H:HL F0 [] w0 w11 [.R a0 d2,d7,d8,d5,d6,.A b2 (ob2+k1*6) d3,.R x1 d3,.S x1.Right (.slice A3 n3 c3),.S x1.Equations (.slice A4 n4 c4),.S x1.Contributions (.slice A5 n5 c5),.A b4 (ob4+k1*2) d4,.R x2 d4,.S x2.Steps (.slice A6 n6 c6)] [d9,.B b3 62 d3]:=H
  exact X ((AN hk2 hl5) ((V) (Z (I2 hb1 hs1 ⟨k1+1,(),()⟩))))
 obtain rfl:=q2M hq1 (q2t h5)
 have hr:=(q2S _ _ _).symm.trans hr
 exact CE (R ((AZ) (W1 hr)))
def q8i (a0 a1:Attribute):Option Bool:=if a0.Name=a1.Name then if a0.Type_=a1.Type_ then if a0.Mode=a1.Mode then if a0.Circular=a1.Circular then some true else some false else some false else some false else some false
theorem z9s {a0 a1}{r}(hr:q8i a0 a1=some r){ca0}(ha0:rd F0 w0 a0 ca0){ca1}(ha1:rd F0 w0 a1 ca1):RB 137 #[ag ca0,ag ca1] w0 r:=by
 let d2:List Pr:=[.R a0 (q3Z a0),.R a1 (q3Z a1)]
 have H:=((HL.start F0 w0).argR ha0).argR ha1
 obtain⟨rfl,hS1,hI1,hI2,H⟩:=q4Z H 0
 obtain⟨rfl,hS2,hI3,hI4,H⟩:=q4Z H 1
 refine (En Tryz.func137) ?_
 refine R ((BX H) fun b1 w1 H=>(BX H) fun b2 w2 H=>(A) (Z (Y (R ((D 0) ((L H 0) ((D 0) ((L H 1) ((BZ) (iN hr (fun _ hr=>?_) fun _ hr=>?_))))))))))
 ·exact R ((AZ) (W1 hr))
 let d1:List It:=[.B b1 91 (q3Z a0),.B b2 91 (q3Z a1)]
 refine K (Y (R ((D 1) ((L H 0) ((D 1) ((L H 1) ((BZ) (iN hr (fun _ hr=>?_) fun _ hr=>?_))))))))
 ·exact R ((AZ) (W1 hr))
 refine K (Y (R ((D 2) ((L H 0) ((D 2) ((L H 1) ((BZ) (iN hr (fun _ hr=>?_) fun _ hr=>?_))))))))
 ·exact R ((AZ) (W1 hr))
 refine K (Y (R ((D 3) ((L H 0) ((D 3) ((L H 1) ((BN (q0Z Tryz.underlying4)) (Z (iN hr (fun _ hr=>?_) fun _ hr=>?_)))))))))
 ·refine Y ?_
  refine q0a [] trivial fun σ=>?_
  have H:HL F0 [] w0 w2 d2 d1:=H
  exact X ((AZ) (W1 hr))
 refine K (Y ?_)
 refine q0a [] trivial fun σ=>?_
 have H:HL F0 [] w0 w2 d2 d1:=H
 exact X ((AZ) (W1 hr))
def z3q (a1:(List Attribute)):Nat→Attribute→Unit→Option (Unit ⊕ Bool):=fun k1 x1 _=>(a1[k1]?).bind fun x2=>(q8i x1 x2).bind fun y1=>if y1=true then some (.inl ()) else some (.inr false)
def z1k (a0 a1:(List Attribute)):Option Bool:=if (a0.length:Int)=(a1.length:Int) then (q2u (z3q a1) 0 a0 ()).bind <| onr (fun r1=>some r1) fun _=>some true else some false
theorem z8g {a0 a1}{r}(hr:z1k a0 a1=some r){z0}(ha0:rdS F0 w0 a0 z0){z1}(ha1:rdS F0 w0 a1 z1):RB 101 #[z0,z1] w0 r:=by
 obtain⟨A0',n0',c0',rfl⟩:=ha0.form3
 obtain⟨A1',n1',c1',rfl⟩:=ha1.form3
 have H:=((HL.start F0 w0).argS ha0).argS ha1
 refine (En Tryz.func101) ?_
 refine R ((A) (Z (Y (R ((V) ((NI H 0) fun hl1=>(V) ((NI H 1) fun hl2=>(BZ) (iN hr (fun _ hr=>?_) fun _ hr=>?_))))))))
 ·exact R ((AZ) (W1 hr))
 refine K (Y (R ((AZ) ?_)))
 refine bb hr fun q1 hq1 hr=>?_
 refine (lF hq1 (fun k1 _ _=>[(0,.slice A0' n0' c0'),(1,.slice A1' n1' c1'),(5,zN k1)]) (fun _ _ w=>HL F0 [] w0 w [.S a0 (.slice A0' n0' c0'),.S a1 (.slice A1' n1' c1')] []) ()) ?_
 rintro k1 _ _ σ w1 hk1 hq1 H
 refine Y (R ((V) ((V) ((NN (rs H 0)) ((BZ) ?_)))))
 refine (iF hq1 hr (fun hk2 x1 z1 hx1 hb1 hs1 ht1=>?_) fun hr=>?_)
 ·refine K (Y ?_)
  refine Bk (Y ?_)
  refine q0d hmix (by kernel_rfl) ?_
  refine (qV) ((qV) ?_)
  obtain⟨b1,ob1,cb1,hvb1,hS1,hI1,hI2,H⟩:=q4w H 0 hx1
  refine (qJ 4 hvb1 hx1) ((qLA H 2) ((qV) ((qV) ?_)))
  refine bb hb1 fun x2 hx2 hb1=>?_
  obtain⟨b2,ob2,cb2,hvb2,hS2,hI3,hI4,H⟩:=q4w H 1 hx2
  refine (qJ 4 hvb2 hx2) ((qLA H 4) ?_)
  refine bb hb1 fun y1 hy1 hb1=>?_
  refine (qC k2N (fun _ hq=>z9s hy1 (F0:=nF) ⟨rfl,hS1,hI1,hI2⟩ ⟨rfl,hS2,hI3,hI4⟩)) ?_
  refine (qN) ?_
  refine QL.nil (fun w2 hE=>?_)
  have H:=H.ext hE
  refine iM hb1 (fun _ hb1=>?_) fun _ hb1=>?_
  ·exact R ((AZ) (W2 hb1 ht1 hr))
  exact K (X ((V) ((AN hk2 hl1) ((A) (Z (I2 hb1 hs1 ⟨k1+1,(),()⟩))))))
 exact CE (R ((AZ) (W1 hr)))
def z1l (a0 a1:Symbol):Option Bool:=if a0.Name=a1.Name then (z1k a0.Attributes a1.Attributes).bind fun y1=>if y1=true then some true else some false else some false
theorem j2w {a0 a1}{r}(hr:z1l a0 a1=some r){ca0}(ha0:rd F0 w0 a0 ca0){ca1}(ha1:rd F0 w0 a1 ca1):RB 60 #[ag ca0,ag ca1] w0 r:=by
 have H:=((HL.start F0 w0).argR ha0).argR ha1
 obtain⟨A1,n1,c1,rfl,hS1,H⟩:=q6e H 0
 obtain⟨A2,n2,c2,rfl,hS2,H⟩:=q6e H 1
 refine (En Tryz.func60) ?_
 refine R ((BX H) fun b1 w1 H=>(BX H) fun b2 w2 H=>(A) (Z (Y (R ((D 0) ((L H 0) ((D 0) ((L H 1) ((BZ) (iN hr (fun _ hr=>?_) fun _ hr=>?_))))))))))
 ·exact R ((AZ) (W1 hr))
 refine K (Y (R ((D 1) ((L H 0) ((D 1) ((L H 1) ?_))))))
 refine bb hr fun y1 hy1 hr=>?_
 refine (CA k2q (z8g hy1 (rs H 2) (rs H 3))) (cE H fun w3 H=>(N) (Z (iM hr (fun _ hr=>?_) fun _ hr=>?_)))
 ·exact R ((AZ) (W1 hr))
 exact K (R ((AZ) (W1 hr)))
def z6x (a1:(List Symbol)):Nat→Symbol→Unit→Option (Unit ⊕ Bool):=fun k1 x1 _=>(a1[k1]?).bind fun x2=>(z1l x1 x2).bind fun y1=>if y1=true then some (.inl ()) else some (.inr false)
def z4g (a0 a1:(List Symbol)):Option Bool:=if (a0.length:Int)=(a1.length:Int) then (q2u (z6x a1) 0 a0 ()).bind <| onr (fun r1=>some r1) fun _=>some true else some false
theorem j1y {a0 a1}{r}(hr:z4g a0 a1=some r){z0}(ha0:rdS F0 w0 a0 z0){z1}(ha1:rdS F0 w0 a1 z1):RB 29 #[z0,z1] w0 r:=by
 obtain⟨A0',n0',c0',rfl⟩:=ha0.form3
 obtain⟨A1',n1',c1',rfl⟩:=ha1.form3
 have H:=((HL.start F0 w0).argS ha0).argS ha1
 refine (En Tryz.func29) ?_
 refine R ((A) (Z (Y (R ((V) ((NI H 0) fun hl1=>(V) ((NI H 1) fun hl2=>(BZ) (iN hr (fun _ hr=>?_) fun _ hr=>?_))))))))
 ·exact R ((AZ) (W1 hr))
 refine K (Y (R ((AZ) ?_)))
 refine bb hr fun q1 hq1 hr=>?_
 refine (lF hq1 (fun k1 _ _=>[(0,.slice A0' n0' c0'),(1,.slice A1' n1' c1'),(5,zN k1)]) (fun _ _ w=>HL F0 [] w0 w [.S a0 (.slice A0' n0' c0'),.S a1 (.slice A1' n1' c1')] []) ()) ?_
 rintro k1 _ _ σ w1 hk1 hq1 H
 refine Y (R ((V) ((V) ((NN (rs H 0)) ((BZ) ?_)))))
 refine (iF hq1 hr (fun hk2 x1 z1 hx1 hb1 hs1 ht1=>?_) fun hr=>?_)
 ·refine K (Y ?_)
  refine Bk (Y ?_)
  refine q0d hmix (by kernel_rfl) ?_
  refine (qV) ((qV) ?_)
  obtain⟨b1,ob1,cb1,A1,n1,c1,hvb1,hS1,H⟩:=q4g H 0 hx1
  refine (qJ 2 hvb1 hx1) ((qLA H 2) ((qV) ((qV) ?_)))
  refine bb hb1 fun x2 hx2 hb1=>?_
  obtain⟨b2,ob2,cb2,A2,n2,c2,hvb2,hS2,H⟩:=q4g H 1 hx2
  refine (qJ 2 hvb2 hx2) ((qLA H 5) ?_)
  refine bb hb1 fun y1 hy1 hb1=>?_
  refine (qC ok60 (fun _ hq=>j2w hy1 ⟨_,rfl,hS1,(rs (H.ext hq) 4)⟩ ⟨_,rfl,hS2,(rs (H.ext hq) 7)⟩)) ?_
  refine (qN) ?_
  refine QL.nil (fun w2 hE=>?_)
  have H:=H.ext hE
  refine iM hb1 (fun _ hb1=>?_) fun _ hb1=>?_
  ·exact R ((AZ) (W2 hb1 ht1 hr))
  exact K (X ((V) ((AN hk2 hl1) ((A) (Z (I2 hb1 hs1 ⟨k1+1,(),()⟩))))))
 exact CE (R ((AZ) (W1 hr)))
def z3b (a1:(List ByteArray)):Nat→ByteArray→Unit→Option (Unit ⊕ Bool):=fun k1 x1 _=>(a1[k1]?).bind fun x2=>if x1=x2 then some (.inl ()) else some (.inr false)
def z0i (a0 a1:(List ByteArray)):Option Bool:=if (a0.length:Int)=(a1.length:Int) then (q2u (z3b a1) 0 a0 ()).bind <| onr (fun r1=>some r1) fun _=>some true else some false
theorem z3c {a0 a1}{r}(hr:z0i a0 a1=some r){z0}(ha0:rdS F0 w0 a0 z0){z1}(ha1:rdS F0 w0 a1 z1):RB 102 #[z0,z1] w0 r:=by
 obtain⟨A0',n0',c0',rfl⟩:=ha0.form3
 obtain⟨A1',n1',c1',rfl⟩:=ha1.form3
 have H:=((HL.start F0 w0).argS ha0).argS ha1
 refine (En Tryz.func102) ?_
 refine R ((A) (Z (Y (R ((V) ((NI H 0) fun hl1=>(V) ((NI H 1) fun hl2=>(BZ) (iN hr (fun _ hr=>?_) fun _ hr=>?_))))))))
 ·exact R ((AZ) (W1 hr))
 refine K (Y (R ((AZ) ?_)))
 refine bb hr fun q1 hq1 hr=>?_
 refine (lF hq1 (fun k1 _ _=>[(0,.slice A0' n0' c0'),(1,.slice A1' n1' c1'),(5,zN k1)]) (fun _ _ w=>HL F0 [] w0 w [.S a0 (.slice A0' n0' c0'),.S a1 (.slice A1' n1' c1')] []) ()) ?_
 rintro k1 _ _ σ w1 hk1 hq1 H
 refine Y (R ((V) ((V) ((NN (rs H 0)) ((BZ) ?_)))))
 refine (iF hq1 hr (fun hk2 x1 z1 hx1 hb1 hs1 ht1=>?_) fun hr=>?_)
 ·refine K (Y ?_)
  refine Bk (Y ?_)
  refine q0d hmix (by kernel_rfl) ?_
  refine (qV) ((qV) ?_)
  obtain⟨b1,ob1,cb1,hvb1,hS1,H⟩:=q7l H 0 hx1
  refine (qJ 1 hvb1 hx1) ((qL0 H 2) ((qV) ((qV) ?_)))
  refine bb hb1 fun x2 hx2 hb1=>?_
  obtain⟨b2,ob2,cb2,hvb2,hS2,H⟩:=q7l H 1 hx2
  refine (qJ 1 hvb2 hx2) ((qL0 H 4) ((qB) ?_))
  refine QL.nil (fun w2 hE=>?_)
  have H:=H.ext hE
  refine iN hb1 (fun _ hb1=>?_) fun _ hb1=>?_
  ·exact R ((AZ) (W2 hb1 ht1 hr))
  exact K (X ((V) ((AN hk2 hl1) ((A) (Z (I2 hb1 hs1 ⟨k1+1,(),()⟩))))))
 exact CE (R ((AZ) (W1 hr)))
end Go.Proofs.YteefempppabmkacGreat

