/- What some functions of the program compute, as partial functions on plain data, and that they do; each lemma bears its conditions in its statement. -/
import Derived.Test.YtmblndlpkpaobaaGreatLiftA
set_option linter.unusedVariables false
set_option linter.unusedSimpArgs false
set_option linter.ambiguousOpen false
set_option linter.unusedSectionVars false
set_option linter.unnecessarySimpa false
set_option linter.unusedVariables false
set_option linter.unusedSimpArgs false
set_option maxRecDepth 100000
set_option maxHeartbeats 4000000
noncomputable section
namespace Go.Proofs.YtmblndlpkpaobaaGreat
open Go Go.E
open Go.E.Rep (rd)
open Go.E.Sep (own)
open Go.E.Sz (szd)
variable {F0:Nat→Prop}{w0:World}{M:List Nat}
theorem z5H {a0}{a1}{r}(hr:q9j a0 a1=some r){ca0}(ha0:rd F0 w0 a0 ca0){ca1}(ha1:rd F0 w0 a1 ca1):RT 61 #[.agg ca0.toArray,.agg ca1.toArray] w0 fun v w=>v = .bool r:=by
 have H:=((HL.start F0 w0).argR ha0).argR ha1
 obtain⟨A1,n1,c1,A2,n2,c2,rfl,H⟩:=q0e H (i:=0) rfl
 obtain⟨A3,n3,c3,A4,n4,c4,A5,n5,c5,rfl,hS1,hS2,H⟩:=q0z H (i:=1) rfl
 refine (En Tryz.func61) ?_
 refine R ((BX H) fun b1 w1 H=>(BX H) fun b2 w2 H=>(A) (Z (Y (R ((A) (Z ?_))))))
 refine (bb hr fun q1 hq1 hr=>?_)
 let d2:List Value:=[.string a1.Name,.string a1.Left,.slice A3 n3 c3,.bool a1.Literal,.slice A4 n4 c4,.slice A5 n5 c5]
 let d6:List Value:=[.slice A1 n1 c1,.slice A2 n2 c2]
 let d7:Pr:=Pr.S a1.Contributions (.slice A5 n5 c5)
 let d8:Pr:=Pr.S a1.Equations (.slice A4 n4 c4)
 let d9:Pr:=Pr.S a0.Symbols (.slice A1 n1 c1)
 let d10:Pr:=Pr.S a0.Rules (.slice A2 n2 c2)
 let d11:Pr:=Pr.S a1.Right (.slice A3 n3 c3)
 refine (lF hq1 (fun k1 _ _=>[(2,pB b1),(3,pB b2),(5,zN k1)]) (fun _ _ w=>HL F0 [] w0 w [Pr.R a0 d6,Pr.R a1 d2,d9,d10,d11,d8,d7] [It.B b1 31 d6,It.B b2 47 d2]) ()) ?_
 rintro k1 _ _ σ w3 hk1 hq1 H
 refine Y (R ((V) ((D 4) ((L H 1) ((NI H 5) fun hl1=>(B) (Z ?_))))))
 refine (iF hq1 hr (fun hk2 x1 z1 hx1 hb1 hs1 ht1=>?_) fun hr=>?_)
 ·refine K (Y ?_)
  refine CW.block (R ((D 4) ((L H 1) ((V) ?_))))
  obtain⟨b3,ob3,cb3,A6,n6,c6,hvb3,hI1,hS3,hI2,hI3,hI4,hI5,hS4,hS5,H⟩:=q1B H (i:=5) rfl hx1
  refine (J 9 hvb3 hx1) ((LA H 7) ((AH ze60 H) fun b4 w4 H=>(SB H 2) fun w5 H=>Z (Y ?_)))
  refine CW.quiet hmix (by kernel_rfl) ?_
  refine (qLB H 0) ((qLB H 1) ((qD 2) ?_))
  refine QL.ev rfl rfl (fun _ hq=>Ev.lda rfl ag58 sz58 rfl (Blk.part ((H.ext hq).rB (i:=2) rfl) 2 7) rfl) ?_
  refine (bb hb1 fun y1 hy1 hb1=>?_)
  refine (qC ok97 (fun _ hq=>(q5W hy1 ⟨_,_,rfl,(rs (H.ext hq) 2),(rs (H.ext hq) 3)⟩ ⟨_,_,_,rfl,hS1,hS2,(rs (H.ext hq) 4),(rs (H.ext hq) 5),(rs (H.ext hq) 6)⟩ (q0b.2 ⟨_,rfl,hI2,hI3,hI4,hI5,hS4,hS5,(rs (H.ext hq) 9)⟩)).mono fun _ _ _ h=>h.1)) ?_
  obtain⟨_,_,_,hI6⟩:=(q5W hy1 ⟨_,_,rfl,(rs H 2),(rs H 3)⟩ ⟨_,_,_,rfl,hS1,hS2,(rs H 4),(rs H 5),(rs H 6)⟩ (q0b.2 ⟨_,rfl,hI2,hI3,hI4,hI5,hS4,hS5,(rs H 9)⟩)).get
  refine (qLB H 0) ((qLB H 1) ((qD 0) ((qD 0) ((qL H 2) ?_))))
  refine (bb hb1 fun y2 hy2 hb1=>?_)
  refine (qC ok56 (fun _ hq=>(q1C hy2 ⟨_,_,_,rfl,hS1,hS2,(rs (H.ext hq) 4),(rs (H.ext hq) 5),(rs (H.ext hq) 6)⟩ hI1).mono fun _ _ _ h=>h.1)) ?_
  obtain⟨_,_,_,hS6⟩:=(q1C hy2 ⟨_,_,_,rfl,hS1,hS2,(rs H 4),(rs H 5),(rs H 6)⟩ hI1).get
  refine (qD 0) ((qD 1) ((qL H 2) ?_))
  refine (bb hb1 fun y3 hy3 hb1=>?_)
  refine (qC ok98 (fun _ hq=>(q3V hy3 ⟨_,_,rfl,(rs (H.ext hq) 2),(rs (H.ext hq) 3)⟩ hS6 hS3).mono fun _ _ _ h=>h.1)) ?_
  obtain⟨_,_,_,hI7⟩:=(q3V hy3 ⟨_,_,rfl,(rs H 2),(rs H 3)⟩ hS6 hS3).get
  refine (qB) ?_
  refine QL.nil (fun w6 hE=>?_)
  have H:=H.ext hE
  refine iN hb1 (fun _ hb1=>?_) fun _ hb1=>?_
  ·refine Y ?_
   refine CW.fresh [] trivial fun σ=>?_
   let d4:List Value:=[.int .i64 x1.At.Pos,.string x1.At.Name,.int .i64 x1.Expr.Kind,.int .i64 x1.Expr.N,.int .i64 x1.Expr.Pos,.int .i64 x1.Expr.Type_,.string x1.Expr.Symbol,.string x1.Expr.Name,.slice A6 n6 c6]
   have H:HL F0 [] w0 w6 [Pr.R a0 d6,Pr.R a1 d2,d9,d10,d11,d8,d7,Pr.A b3 (ob3+k1*9) d4,Pr.R x1 d4,Pr.S x1.Expr.Args (.slice A6 n6 c6)] [It.B b1 31 d6,It.B b2 47 d2,It.B b4 60 d4]:=H
   exact X ((A) (Z (W2 hb1 ht1 hr)))
  ·refine K ?_
   refine CW.fresh [(2,pB b1),(3,pB b2),(5,zN k1)] ⟨rfl,rfl,rfl,trivial⟩ fun σ=>?_
   let d5:List Value:=[.int .i64 x1.At.Pos,.string x1.At.Name,.int .i64 x1.Expr.Kind,.int .i64 x1.Expr.N,.int .i64 x1.Expr.Pos,.int .i64 x1.Expr.Type_,.string x1.Expr.Symbol,.string x1.Expr.Name,.slice A6 n6 c6]
   have H:HL F0 [] w0 w6 [Pr.R a0 d6,Pr.R a1 d2,d9,d10,d11,d8,d7,Pr.A b3 (ob3+k1*9) d5,Pr.R x1 d5,Pr.S x1.Expr.Args (.slice A6 n6 c6)] [It.B b1 31 d6,It.B b2 47 d2,It.B b4 60 d5]:=H
   exact X ((V) ((AN hk2 hl1) ((A) (Z (I2 hb1 hs1 ⟨k1+1,(),()⟩)))))
 ·refine CE (Y (R ((A) (Z ?_))))
  refine (bb hr fun q2 hq2 hr=>?_)
  refine (lF hq2 (fun k2 _ _=>[(2,pB b1),(3,pB b2),(7,zN k2)]) (fun _ _ w=>HL F0 [] w0 w [Pr.R a0 d6,Pr.R a1 d2,d9,d10,d11,d8,d7] [It.B b1 31 d6,It.B b2 47 d2]) ()) ?_
  rintro k2 _ _ σ w7 hk3 hq2 H
  refine Y (R ((V) ((D 5) ((L H 1) ((NI H 6) fun hl2=>(B) (Z ?_))))))
  refine (iF hq2 hr (fun hk4 x2 z2 hx2 hb2 hs2 ht2=>?_) fun hr=>?_)
  ·refine K (Y ?_)
   refine CW.block (R ((D 5) ((L H 1) ((V) ?_))))
   obtain⟨b5,ob5,cb5,A7,n7,c7,A8,n8,c8,hvb5,hS7,hS8,hI8,hI9,hI10,hI11,hS9,hS10,hI12,hI13,hI14,hI15,hS11,hS12,H⟩:=q3i H (i:=6) rfl hx2
   refine (J 16 hvb5 hx2) ((LA H 7) ((AH ze111 H) fun b6 w8 H=>(SB H 2) fun w9 H=>Z (R ((LB H 0) ((D 0) ((L H 2) ?_))))))
   obtain⟨⟨y4,y5⟩,hy4,hb2⟩:=bd hb2
   refine (CA ok55 (q3p hy4 ⟨_,_,rfl,(rs H 2),(rs H 3)⟩ hS7)) ?_
   rintro _ w10 hE ⟨A9,n9,c9,rfl,hS13,H'⟩
   have H:=H.callA H' ⟨fun _ _ _ _ _ h=>h,trivial⟩
   refine (V) ((EX) ((EX) ((AH ze39 H) fun b7 w11 H=>(SB H 4) fun w12 H=>(A) (Z (R ((LB H 4) ((D 1) ((L H 2) ?_))))))))
   obtain⟨⟨y6,y7⟩,hy5,hb2⟩:=bd hb2
   refine (CA ok57 (q3x hy5 ⟨_,rfl,hS13,(ro H 3)⟩ hS8)) ?_
   rintro _ w13 hE ⟨rfl,hS14,hI16,hI17⟩
   have H:=H.ext hE
   refine (V) ((EX) ((EX) ((AH ze41 H) fun b8 w14 H=>(SB H 5) fun w15 H=>(A) (Z (Y ?_)))))
   refine CW.fresh [(2,pB b1),(3,pB b2),(7,zN k2),(8,pB b6),(11,pB b8),(12,.bool y7)] ⟨rfl,rfl,rfl,rfl,rfl,rfl,trivial⟩ fun σ=>?_
   let d1:List Value:=[.string x2.Symbol,.string x2.Name,.int .i64 x2.Target.Kind,.int .i64 x2.Target.N,.int .i64 x2.Target.Pos,.int .i64 x2.Target.Type_,.string x2.Target.Symbol,.string x2.Target.Name,.slice A7 n7 c7,.int .i64 x2.Value.Kind,.int .i64 x2.Value.N,.int .i64 x2.Value.Pos,.int .i64 x2.Value.Type_,.string x2.Value.Symbol,.string x2.Value.Name,.slice A8 n8 c8]
   let d3:List It:=[It.B b1 31 d6,It.B b2 47 d2,It.B b6 111 d1,It.O 41 y4.Attributes (.slice A9 n9 c9),It.B b7 39 [.string y4.Name,.slice A9 n9 c9],It.B b8 41 [.string y6.Name,.int .i64 y6.Type_,.int .i64 y6.Mode,.bool y6.Circular]]
   let d12:Pr:=Pr.S x2.Target.Args (.slice A7 n7 c7)
   let d13:Pr:=Pr.S x2.Value.Args (.slice A8 n8 c8)
   have H:HL F0 [] w0 w15 [Pr.R a0 d6,Pr.R a1 d2,d9,d10,d11,d8,d7,Pr.A b5 (ob5+k2*16) d1,Pr.R x2 d1,d12,d13] d3:=H
   refine X ((V) ((N) ?_))
   refine (bb hb2 fun q3 hm1 hb2=>?_)
   refine cu H 5 [(2,pB b1),(3,pB b2),(7,zN k2),(8,pB b6),(73,.bool q3)] [Pr.R a0 d6,Pr.R a1 d2,d9,d10,d11,d8,d7,Pr.A b5 (ob5+k2*16) d1,Pr.R x2 d1,d12,d13] d3 ?_ fun σ w16 H=>?_
   ·refine jM hm1 (fun _ hm1=>?_) fun _ hm1=>?_
    ·exact (O) ((O) ((O) ((T) (Z (C1 hm1)))))
    ·exact (G) ((D 2) ((G) ((L H 5) ((G) ((B) ((U) (Z (C1 hm1))))))))
   ·refine (bb hb2 fun q4 hm2 hb2=>?_)
    refine cu H 8 [(2,pB b1),(3,pB b2),(7,zN k2),(8,pB b6),(81,.bool q4)] [Pr.R a0 d6,Pr.R a1 d2,d9,d10,d11,d8,d7,Pr.A b5 (ob5+k2*16) d1,Pr.R x2 d1,d12,d13] d3 ?_ fun σ w18 H=>?_
    ·refine jB hm2 (fun _ hm2=>?_) fun _ hm2=>?_
     ·exact (O) ((O) ((O) ((O) ((O) ((O) ((T) (Z (C1 hm2))))))))
     ·refine (G) ((LB H 0) ((G) ((LB H 1) ((G) ((D 2) ((G) ?_))))))
      refine WL.ev rfl rfl (Ev.lda rfl ag58 sz58 rfl (Blk.part (H.rB (i:=2) rfl) 2 7) rfl) ((G) ?_)
      refine (bb hm2 fun y8 hy6 hm2=>?_)
      exact (CA ok97 (q5W hy6 ⟨_,_,rfl,(rs H 2),(rs H 3)⟩ ⟨_,_,_,rfl,hS1,hS2,(rs H 4),(rs H 5),(rs H 6)⟩ (q0b.2 ⟨_,rfl,hI8,hI9,hI10,hI11,hS9,hS10,(rs H 9)⟩))) (cF' H fun w17 hI18 H=>(G) ((B) ((U) (Z (C1 hm2)))))
    ·refine (bb hb2 fun q5 hm3 hb2=>?_)
     refine cu H 8 [(2,pB b1),(3,pB b2),(7,zN k2),(89,.bool q5)] [Pr.R a0 d6,Pr.R a1 d2,d9,d10,d11,d8,d7,Pr.A b5 (ob5+k2*16) d1,Pr.R x2 d1,d12,d13] d3 ?_ fun σ w20 H=>?_
     ·refine jB hm3 (fun _ hm3=>?_) fun _ hm3=>?_
      ·exact (O) ((O) ((O) ((O) ((O) ((O) ((T) (Z (C1 hm3))))))))
      ·refine (G) ((LB H 0) ((G) ((LB H 1) ((G) ((D 9) ((G) ?_))))))
       refine WL.ev rfl rfl (Ev.lda rfl ag58 sz58 rfl (Blk.part (H.rB (i:=2) rfl) 9 7) rfl) ((G) ?_)
       refine (bb hm3 fun y9 hy7 hm3=>?_)
       exact (CA ok97 (q5W hy7 ⟨_,_,rfl,(rs H 2),(rs H 3)⟩ ⟨_,_,_,rfl,hS1,hS2,(rs H 4),(rs H 5),(rs H 6)⟩ (q0b.2 ⟨_,rfl,hI12,hI13,hI14,hI15,hS11,hS12,(rs H 10)⟩))) (cF' H fun w19 hI19 H=>(G) ((B) ((U) (Z (C1 hm3)))))
     ·refine Z (iB hb2 (fun _ hb2=>?_) fun _ hb2=>?_)
      ·exact R ((A) (Z (W2 hb2 ht2 hr)))
      ·exact K (X ((V) ((AN hk4 hl2) ((A) (Z (I2 hb2 hs2 ⟨k2+1,(),()⟩))))))
  ·exact CE (R ((A) (Z (W1 hr))))
def z4P (a1:ByteArray):Nat→Symbol→Unit→Option (Unit ⊕ Int):=fun k1 x1 _=>if x1.Name=a1 then some (.inr (k1:Int)) else some (.inl ())
def z0q (a0:Grammar)(a1:ByteArray):Option Int:=(findL (z4P a1) 0 a0.Symbols ()).bind <| onr (fun r1=>some r1) fun _=>some (-1)
theorem z2s {a0}{a1}{r}(hr:z0q a0 a1=some r){ca0}(ha0:rd F0 w0 a0 ca0)(ha1:a1.size≤9223372036854775807):RT 130 #[.agg ca0.toArray,.string a1] w0 fun v w=>v = .int .i64 r∧I64 r:=by
 have H:=(HL.start F0 w0).argR ha0
 obtain⟨A1,n1,c1,A2,n2,c2,rfl,H⟩:=q0e H (i:=0) rfl
 refine (En Tryz.func130) ?_
 refine R ((BX H) fun b1 w1 H=>(A) (Z (Y (R ((A) (Z ?_))))))
 refine (bb hr fun q1 hq1 hr=>?_)
 refine (lF hq1 (fun k1 _ _=>[(1,.string a1),(2,pB b1),(5,zN k1)]) (fun _ _ w=>HL F0 [] w0 w [Pr.R a0 [.slice A1 n1 c1,.slice A2 n2 c2],Pr.S a0.Symbols (.slice A1 n1 c1),Pr.S a0.Rules (.slice A2 n2 c2)] [It.B b1 31 [.slice A1 n1 c1,.slice A2 n2 c2]]) ()) ?_
 rintro k1 _ _ σ w2 hk1 hq1 H
 refine Y (R ((V) ((D 0) ((L H 0) ((NI H 1) fun hl1=>(B) (Z ?_))))))
 refine (iF hq1 hr (fun hk2 x1 z1 hx1 hb1 hs1 ht1=>?_) fun hr=>?_)
 ·refine K (Y ?_)
  refine CW.block (R ((D 0) ((L H 0) ((V) ?_))))
  obtain⟨b2,ob2,cb2,A3,n3,c3,hvb2,hS1,H⟩:=q2w H (i:=1) rfl hx1
  refine (J 2 hvb2 hx1) ((D 0) ((LC H 3) ((V) ((B) (Z (iD hb1 (fun _ hb1=>?_) fun _ hb1=>?_))))))
  ·exact R ((V) ((A) (Z (W2 hb1 ht1 hr))))
  ·exact K (X ((V) ((AN hk2 hl1) ((A) (Z (I2 hb1 hs1 ⟨k1+1,(),()⟩))))))
 ·exact CE (R ((A) (Z (W1 hr))))
def q7x (a0:Grammar)(a2:(List Int)):Nat→ByteArray→Bool→Option Bool:=fun k2 x2 s1=>(z0q a0 x2).bind fun y1=>( if s1=true then some (decide (0≤y1)) else some false ).bind fun s2=>( if s2=true then (q8a y1 0).bind fun y2=>grd (0≤y2) <| (a2[y2.toNat]?).bind fun x3=>some (decide (0 < x3)) else some false ).bind fun s3=>some s3
def q9z (a0:Grammar)(a1:ByteArray)(a2:(List Int)):Nat→Rule→Unit→Option (Unit ⊕ Bool):=fun k1 x1 _=>(eachL (q7x a0 a2) 0 x1.Right (decide (x1.Left=a1))).bind fun s1=>if s1=true then some (.inr true) else some (.inl ())
def q6t (a0:Grammar)(a1:ByteArray)(a2:(List Int)):Option Bool:=(findL (q9z a0 a1 a2) 0 a0.Rules ()).bind <| onr (fun r1=>some r1) fun _=>some false
theorem z3e {a0}{a1}{a2}{r}(hr:q6t a0 a1 a2=some r){ca0}(ha0:rd F0 w0 a0 ca0)(ha1:a1.size≤9223372036854775807){z2}(ha2:rdS F0 w0 a2 z2):RT 163 #[.agg ca0.toArray,.string a1,z2] w0 fun v w=>v = .bool r:=by
 obtain⟨A2',n2',c2',rfl⟩:=ha2.form3
 have H:=((HL.start F0 w0).argR ha0).argS ha2
 obtain⟨A1,n1,c1,A2,n2,c2,rfl,H⟩:=q0e H (i:=0) rfl
 refine (En Tryz.func163) ?_
 refine R ((BX H) fun b1 w1 H=>(A) (Z (Y (R ((A) (Z ?_))))))
 refine (bb hr fun q1 hq1 hr=>?_)
 let d2:List Value:=[.slice A1 n1 c1,.slice A2 n2 c2]
 let d3:Pr:=Pr.S a0.Symbols (.slice A1 n1 c1)
 let d4:Pr:=Pr.S a0.Rules (.slice A2 n2 c2)
 let d5:Pr:=Pr.S a2 (.slice A2' n2' c2')
 refine (lF hq1 (fun k1 _ _=>[(1,.string a1),(2,.slice A2' n2' c2'),(3,pB b1),(7,zN k1)]) (fun _ _ w=>HL F0 [] w0 w [Pr.R a0 d2,d5,d3,d4] [It.B b1 31 d2]) ()) ?_
 rintro k1 _ _ σ w2 hk1 hq1 H
 refine Y (R ((V) ((D 1) ((L H 0) ((NI H 3) fun hl1=>(B) (Z ?_))))))
 refine (iF hq1 hr (fun hk2 x1 z1 hx1 hb1 hs1 ht1=>?_) fun hr=>?_)
 ·refine K (Y ?_)
  refine CW.block (R ((D 1) ((L H 0) ((V) ?_))))
  obtain⟨b2,ob2,cb2,A3,n3,c3,A4,n4,c4,A5,n5,c5,hvb2,hS1,hS2,H⟩:=q4W H (i:=3) rfl hx1
  refine (J 6 hvb2 hx1) ((LA H 4) ((AH ze47 H) fun b3 w3 H=>(SB H 1) fun w4 H=>Z (R ((D 1) ((L H 1) ((V) ((B) ((A) (Z (Y (R ((A) (Z ?_)))))))))))))
  refine (bb hb1 fun q2 hq2 hb1=>?_)
  let d1:List Value:=[.string x1.Name,.string x1.Left,.slice A3 n3 c3,.bool x1.Literal,.slice A4 n4 c4,.slice A5 n5 c5]
  let d6:Pr:=Pr.S x1.Contributions (.slice A5 n5 c5)
  let d7:Pr:=Pr.S x1.Equations (.slice A4 n4 c4)
  let d8:Pr:=Pr.S x1.Right (.slice A3 n3 c3)
  let d9:List It:=[It.B b1 31 d2,It.B b3 47 d1]
  refine (lE hq2 (fun k2 s1 _=>[(1,.string a1),(2,.slice A2' n2' c2'),(3,pB b1),(7,zN k1),(8,pB b3),(9,.bool s1),(10,zN k2)]) (fun s1 _ w=>HL F0 [] w0 w [Pr.R a0 d2,d5,d3,d4,Pr.A b2 (ob2+k1*6) d1,Pr.R x1 d1,d8,d7,d6] d9) ()) ?_
  rintro k2 s1 _ σ w5 hk3 hq2 H
  refine Y (R ((V) ((D 2) ((L H 1) ((NI H 6) fun hl2=>(B) (Z ?_))))))
  refine (iE hq2 (fun hk4 x2 z2 hx2 hb2 hq2=>?_) fun e=>?_)
  ·refine K (Y ?_)
   refine CW.block (Y ?_)
   refine CW.quiet hmix (by kernel_rfl) ?_
   refine (qLB H 0) ((qD 2) ((qL H 1) ((qV) ?_)))
   obtain⟨b4,ob4,cb4,hvb4,hS3,H⟩:=q8G H (i:=6) rfl hx2
   refine (qJ 1 hvb4 hx2) ((qL0 H 9) ?_)
   refine (bb hb2 fun y1 hy1 hb2=>?_)
   refine (qC ok130 (fun _ hq=>(z2s hy1 ⟨_,_,rfl,(rs (H.ext hq) 2),(rs (H.ext hq) 3)⟩ hS3).mono fun _ _ _ h=>h.1)) ?_
   obtain⟨_,_,_,hI1⟩:=(z2s hy1 ⟨_,_,rfl,(rs H 2),(rs H 3)⟩ hS3).get
   refine (qA) ?_
   refine QL.nil (fun w6 hE=>?_)
   have H:=H.ext hE
   refine X ((V) ?_)
   refine (bb hb2 fun q3 hm1 hb2=>?_)
   refine cu H 4 [(1,.string a1),(2,.slice A2' n2' c2'),(3,pB b1),(7,zN k1),(8,pB b3),(9,.bool s1),(10,zN k2),(11,.int .i64 y1),(46,.bool q3)] [Pr.R a0 d2,d5,d3,d4,Pr.A b2 (ob2+k1*6) d1,Pr.R x1 d1,d8,d7,d6,Pr.A b4 (ob4+k2*1) [.string x2],Pr.R x2 [.string x2]] d9 ?_ fun σ w7 H=>?_
   ·refine jB hm1 (fun _ hm1=>?_) fun _ hm1=>?_
    ·exact (G) ((V) ((G) ((B) ((T) (Z (C1 hm1))))))
    ·exact (O) ((O) ((U) (Z (C1 hm1))))
   ·refine (bb hb2 fun q4 hm2 hb2=>?_)
    refine cu H 8 [(1,.string a1),(2,.slice A2' n2' c2'),(3,pB b1),(7,zN k1),(8,pB b3),(9,.bool s1),(10,zN k2),(54,.bool q4)] [Pr.R a0 d2,d5,d3,d4,Pr.A b2 (ob2+k1*6) d1,Pr.R x1 d1,d8,d7,d6,Pr.A b4 (ob4+k2*1) [.string x2],Pr.R x2 [.string x2]] d9 ?_ fun σ w9 H=>?_
    ·refine jB hm2 (fun _ hm2=>?_) fun _ hm2=>?_
     ·refine (G) ((V) ((G) ((V) ((G) ?_))))
      refine (bb hm2 fun y2 hy2 hm2=>?_)
      refine (CA ok190 (z2h hy2 (F0:=fun _=>False) hI1 (by decide:I64 0))) (cF' H fun w8 hI2 H=>(G) ?_)
      refine (gg hm2 fun hg1 hm2=>?_)
      refine (bb hm2 fun x3 hx3 hm2=>?_)
      obtain⟨b5,ob5,cb5,hvb5,hI3,H⟩:=z7L H (i:=1) rfl hx3
      exact WL.ev rfl rfl (Ev.ixV rfl el106 sz3 rfl hvb5 rfl hg1 (lt_of hx3)) ((G) ((L0 H 11) ((G) ((B) ((T) (Z (C1 hm2)))))))
     ·exact (O) ((O) ((O) ((O) ((O) ((O) ((U) (Z (C1 hm2))))))))
    ·exact (A) (Z (X ((V) ((AN hk4 hl2) ((A) (Z (I1 hb2 ⟨k2+1,q4,()⟩)))))))
  ·obtain rfl:=e
   refine CE (R ((V) (Z (iB hb1 (fun _ hb1=>?_) fun _ hb1=>?_))))
   ·exact R ((A) (Z (W2 hb1 ht1 hr)))
   ·exact K (X ((V) ((AN hk2 hl1) ((A) (Z (I2 hb1 hs1 ⟨k1+1,(),()⟩))))))
 ·exact CE (R ((A) (Z (W1 hr))))
def q5X (a0:Grammar)(s2:List Int)(s3:Int):Nat→Symbol→(List Int)→Option (List Int):=fun k1 x1 s4=>( (s2[k1]?).bind fun x2=>if x2=0 then (q6t a0 x1.Name s2).bind fun y1=>if y1=true then (s4[k1]?).bind fun x3=>some (List.set s4 k1 s3) else some s4 else some s4 ).bind fun s5=>some s5
def q3Y (a0:Grammar):((List Int) × Int)→Option (((List Int) × Int) ⊕ (List Int)):=fun (s2,s3)=>if s3≤(a0.Symbols.length:Int) then grd (((([]:List Int).length:Int)+(s2.length:Int))*8≤140737488355328∧(([]:List Int).length:Int)+(s2.length:Int)≤9223372036854775807) <| (eachL (q5X a0 s2 s3) 0 a0.Symbols s2).bind fun s4=>grd (I64 (s3+1)) <| some (.inl (s4,(s3+1))) else some (.inr s2)
def q6u (a0:Grammar):Option (List Int):=grd (0≤(a0.Symbols.length:Int)∧(a0.Symbols.length:Int)*8≤281474976710656∧(a0.Symbols.length:Int)≤9223372036854775807) <| ( iterO (q3Y a0) ((List.replicate a0.Symbols.length (0:Int)),1) ).bind fun s1=>some s1
theorem z3f {a0}{r}(hr:q6u a0=some r){ca0}(ha0:rd F0 w0 a0 ca0):RT 131 #[.agg ca0.toArray] w0 fun v w=>∃ A0 n0 c0,v=(.slice A0 n0 c0)∧HL F0 [] w0 w [] [It.O 3 r (.slice A0 n0 c0)]:=by
 have H:=(HL.start F0 w0).argR ha0
 obtain⟨A1,n1,c1,A2,n2,c2,rfl,H⟩:=q0e H (i:=0) rfl
 refine (En Tryz.func131) ?_
 refine R ((BX H) fun b1 w1 H=>(A) (Z (R ((D 0) ((L H 0) ((NI H 1) fun hl1=>?_))))))
 refine (gg hr fun hg1 hr=>?_)
 refine WL.mkH (x:=(0:Int)) rfl rfl rfl el106 sz3 by3 ze3 (fun _=>⟨rfl,rfl,(by decide:I64 0)⟩) rfl rfl hg1 H fun A3 n3 c3 w2 H=>(A) (Z (Y (R ((A) (Z ?_)))))
 refine (bb hr fun q1 hm1 hr=>?_)
 let d2:List Value:=[.slice A1 n1 c1,.slice A2 n2 c2]
 let d1:List Pr:=[Pr.R a0 d2,Pr.S a0.Symbols (.slice A1 n1 c1),Pr.S a0.Rules (.slice A2 n2 c2)]
 refine CW.mid (fun ρ' w=>∃ (s1:List Int) (v1:Value),s1=q1∧agree ρ' [(3,v1)]∧HL F0 [] w0 w d1 [It.B b1 31 d2,It.O 3 s1 v1]) ?_ ?_
 ·obtain⟨m1,hq1⟩:=q2m.1 hm1
  refine (lI hq1 (fun m1 ⟨s2,s3⟩ v2=>[(1,pB b1),(3,v2),(4,.int .i64 s3)]) (fun ⟨s2,s3⟩ v2 w=>I64 s3∧HL F0 [] w0 w d1 [It.B b1 31 d2,It.O 3 s2 v2]) (.slice A3 n3 c3)) ?_
  rintro m1 ⟨s2,s3⟩ v2 σ w3 hq1 ⟨hI1,H⟩
  obtain⟨A4,n4,c4,rfl⟩:=(H.rO (i:=1) rfl).form3
  obtain⟨m2,z1,rfl,hb1,hs1,ht1⟩:=q4S hq1
  refine Y (R ((V) ((D 0) ((L H 0) ((NN (rs H 1)) ((B) (Z (iD hb1 (fun _ hb1=>?_) fun _ hb1=>?_))))))))
  ·refine K (Y ?_)
   refine CW.block (R ?_)
   refine WL.lit0H (α:=Int) rfl rfl rfl el106 sz3 H fun A5 n5 c5 w4 H=>(V) ?_
   refine (gg hb1 fun hg2 hb1=>?_)
   refine WL.appS (i:=2) rfl rfl rfl el106 sz3 by3 ze3 rfl rfl rfl H rfl (ro H 1) hg2 fun A6 n6 c6 w5 H=>(A) (Z (Y (R ((A) (Z ?_)))))
   refine (bb hb1 fun q2 hq2 hb1=>?_)
   let d3:It:=It.O 3 s2 (.slice A4 n4 c4)
   refine (lE hq2 (fun k1 s4 _=>[(1,pB b1),(3,.slice A4 n4 c4),(4,.int .i64 s3),(5,.slice A6 n6 c6),(6,zN k1)]) (fun s4 _ w=>HL F0 [] w0 w d1 [It.B b1 31 d2,d3,It.O 3 s4 (.slice A6 n6 c6)]) ()) ?_
   rintro k1 s4 _ σ w6 hk1 hq2 H
   refine Y (R ((V) ((D 0) ((L H 0) ((NN (rs H 1)) ((B) (Z ?_)))))))
   refine (iE hq2 (fun hk2 x1 z2 hx1 hb2 hq2=>?_) fun e=>?_)
   ·refine K ?_
    refine (bb hb2 fun q3 hm2 hb2=>?_)
    refine CW.seq (cm H [(1,pB b1),(3,.slice A4 n4 c4),(4,.int .i64 s3),(5,.slice A6 n6 c6),(6,zN k1)] d1 [It.B b1 31 d2,d3,It.O 3 q3 (.slice A6 n6 c6)] ?_ fun σ w10 H=>?_)
    ·refine CW.block (Y ?_)
     refine CW.quiet hmix (by kernel_rfl) ?_
     refine (qV) ((qV) ?_)
     refine (bb hm2 fun x2 hx2 hm2=>?_)
     obtain⟨b2,cb2,hvb2,hbb2⟩:=H.ptO (i:=1) rfl hx2
     refine (qJ 1 hvb2 hx2) ?_
     obtain⟨hA1,hI2,H⟩:=q6J H (i:=1) rfl hx2 hbb2
     refine QL.ev rfl rfl (fun _ hq=>Ev.ld rfl ag3 rfl ((hA1.ext hq).cell0 rfl)) ?_
     refine (qB) ?_
     refine kD hm2 (fun _ hm2=>?_) fun _ hm2=>?_
     ·refine (qG) ((qLB H 0) ((qG) ((qD 0) ((qG) ((qL H 0) ((qG) ((qV) ((qG) ?_))))))))
      obtain⟨b3,ob3,cb3,A7,n7,c7,hvb3,hS1,H⟩:=q2w H (i:=1) rfl hx1
      refine (qJ 2 hvb3 hx1) ((qG) ((qD 0) ((qG) ((qLC H 4) ((qG) ((qV) ((qG) ?_)))))))
      refine (bb hm2 fun y1 hy1 hm2=>?_)
      refine (qC ok163 (fun _ hq=>z3e hy1 ⟨_,_,rfl,(rs (H.ext hq) 1),(rs (H.ext hq) 2)⟩ hS1 (ro (H.ext hq) 1))) ?_
      refine (qT) ?_
      refine QL.nil (fun w7 hE=>?_)
      have H:=H.ext hE
      refine iB hm2 (fun _ hm2=>?_) fun _ hm2=>?_
      ·refine CW.fresh [(1,pB b1),(3,.slice A4 n4 c4),(4,.int .i64 s3),(5,.slice A6 n6 c6),(6,zN k1),(34,.agg #[.slice A1 n1 c1,.slice A2 n2 c2]),(35,.pointer (some ⟨b1,0+0,none⟩)),(36,.slice A1 n1 c1),(37,zN k1),(38,.pointer (some ⟨b3,ob3+k1*2,none⟩)),(39,.pointer (some ⟨b3,ob3+k1*2+0,none⟩)),(40,.string x1.Name),(41,.slice A4 n4 c4),(42,.bool y1)] ⟨rfl,rfl,rfl,rfl,rfl,rfl,rfl,rfl,rfl,rfl,rfl,rfl,rfl,rfl,trivial⟩ fun σ=>?_
       have H:HL F0 [] w0 w7 [Pr.R a0 d2,Pr.S a0.Symbols (.slice A1 n1 c1),Pr.S a0.Rules (.slice A2 n2 c2),Pr.R x2 [.int .i64 x2],Pr.A b3 (ob3+k1*2) [.string x1.Name,.slice A7 n7 c7],Pr.R x1 [.string x1.Name,.slice A7 n7 c7],Pr.S x1.Attributes (.slice A7 n7 c7)] [It.B b1 31 d2,d3,It.O 3 s4 (.slice A6 n6 c6)]:=H
       refine X ((V) ((V) ((V) ?_)))
       refine (bb hm2 fun x3 hx3 hm2=>?_)
       obtain⟨b4,cb4,hvb4,hbb4⟩:=H.ptO (i:=2) rfl hx3
       refine (J 1 hvb4 hx3) ?_
       exact WL.stOf (i:=2) (z:=s3) rfl rfl rfl sz3 rfl rfl rfl (fun _=>⟨rfl,rfl,hI1⟩) H rfl hbb4 (by simpa using lt_of hx3) fun w8 H=>Z (C1 hm2)
      ·exact K (C1 hm2)
     ·refine (qO) ((qO) ((qO) ((qO) ((qO) ((qO) ((qO) ((qO) ((qO) ((qU) ?_)))))))))
      refine QL.nil (fun w9 hE=>?_)
      have H:=H.ext hE
      exact (cF) (K (C1 hm2))
    ·exact X ((V) ((AN hk2 hl1) ((A) (Z (I1 hb2 ⟨k1+1,q3,()⟩)))))
   ·obtain rfl:=e
    refine CE (X ((V) ((A) (Z (X ((V) ?_))))))
    refine (gg hb1 fun hg3 hb1=>(BN (Bin.add hg3)) ((A) (Z ?_)))
    have H:=H.swap 1 2
    exact I2 hb1 hs1 ⟨m2,⟨s4,(s3+1)⟩,(.slice A6 n6 c6)⟩
  ·exact CE (C2 hb1 ht1)
 ·rintro ρ' w11 ⟨s1,v1,rfl,hag,H⟩
  obtain⟨σ,rfl⟩:=ofL_ex hag
  obtain⟨A8,n8,c8,rfl⟩:=(H.rO (i:=1) rfl).form3
  exact R ((V) ((A) (Z (W1 hr))))
def q8L (a0:Grammar)(a1:ByteArray):Option Int:=(z0q a0 a1).bind fun y1=>if y1 < 0 then some 0 else (q6u a0).bind fun y2=>grd (0≤y1) <| (y2[y1.toNat]?).bind fun x1=>some x1
theorem z3Y {a0}{a1}{r}(hr:q8L a0 a1=some r){ca0}(ha0:rd F0 w0 a0 ca0)(ha1:a1.size≤9223372036854775807):RT 99 #[.agg ca0.toArray,.string a1] w0 fun v w=>v = .int .i64 r∧I64 r:=by
 have H:=(HL.start F0 w0).argR ha0
 obtain⟨A1,n1,c1,A2,n2,c2,rfl,H⟩:=q0e H (i:=0) rfl
 refine (En Tryz.func99) ?_
 refine R ((BX H) fun b1 w1 H=>(A) (Z (R ((LB H 0) ((V) ?_)))))
 refine (bb hr fun y1 hy1 hr=>?_)
 refine (CA ok130 (z2s hy1 ⟨_,_,rfl,(rs H 1),(rs H 2)⟩ ha1)) (cF' H fun w2 hI1 H=>(A) (Z (Y (R ((V) ((B) (Z (iD hr (fun _ hr=>?_) fun _ hr=>?_))))))))
 ·exact R ((A) (Z (W1 hr)))
 ·refine K (R ((LB H 0) ?_))
  refine (bb hr fun y2 hy2 hr=>?_)
  refine (CA ok131 (z3f hy2 ⟨_,_,rfl,(rs H 1),(rs H 2)⟩)) ?_
  rintro _ w3 hE ⟨A3,n3,c3,rfl,H'⟩
  have H:=H.callA H' ⟨fun _ _ _ _ _ h=>h,trivial⟩
  refine (V) ?_
  refine (gg hr fun hg1 hr=>?_)
  refine (bb hr fun x1 hx1 hr=>?_)
  obtain⟨b2,cb2,hvb2,hbb2⟩:=H.ptO (i:=1) rfl hx1
  refine WL.ev rfl rfl (Ev.ixV rfl el106 sz3 rfl hvb2 rfl hg1 (lt_of hx1)) ?_
  obtain⟨hA1,hI2,H⟩:=q6J H (i:=1) rfl hx1 hbb2
  exact WL.ev rfl rfl (Ev.ld rfl ag3 rfl (hA1.cell0 rfl)) ((A) (Z (W1 hr)))
def q5r (a0:Grammar)(a1:ByteArray):Option Bool:=(q8L a0 a1).bind fun y1=>some (decide (0 < y1))
theorem z1u {a0}{a1}{r}(hr:q5r a0 a1=some r){ca0}(ha0:rd F0 w0 a0 ca0)(ha1:a1.size≤9223372036854775807):RT 62 #[.agg ca0.toArray,.string a1] w0 fun v w=>v = .bool r:=by
 have H:=(HL.start F0 w0).argR ha0
 obtain⟨A1,n1,c1,A2,n2,c2,rfl,H⟩:=q0e H (i:=0) rfl
 refine (En Tryz.func62) ?_
 refine R ((BX H) fun b1 w1 H=>(A) (Z (R ((LB H 0) ((V) ?_)))))
 refine (bb hr fun y1 hy1 hr=>?_)
 exact (CA ok99 (z3Y hy1 ⟨_,_,rfl,(rs H 1),(rs H 2)⟩ ha1)) (cF' H fun w2 hI1 H=>(B) ((A) (Z (W1 hr))))
def q8s (a0:Grammar):Nat→Rule→Unit→Option (Unit ⊕ (Int × Int)):=fun k1 x1 _=>(q9j a0 x1).bind fun y3=>if y3=true then some (.inl ()) else some (.inr (7,(k1:Int)))
def q5b (a0:Grammar):Nat→Symbol→Unit→Option (Unit ⊕ (Int × Int)):=fun k2 x2 _=>(q5r a0 x2.Name).bind fun y4=>if y4=true then some (.inl ()) else some (.inr (8,(k2:Int)))
def q5s (a0:Grammar):Option (Int × Int):=(q6r a0).bind fun (y1,y2)=>if y1=0 then (findL (q8s a0) 0 a0.Rules ()).bind <| onr (fun r1=>some r1) fun _=>(findL (q5b a0) 0 a0.Symbols ()).bind <| onr (fun r2=>some r2) fun _=>some (0,0) else some (y1,y2)
theorem z1v {a0}{r}(hr:q5s a0=some r){ca0}(ha0:rd F0 w0 a0 ca0):RT 30 #[.agg ca0.toArray] w0 fun v w=>v = .tuple #[.int .i64 r.1,.int .i64 r.2]∧I64 r.1∧I64 r.2:=by
 have H:=(HL.start F0 w0).argR ha0
 obtain⟨A1,n1,c1,A2,n2,c2,rfl,H⟩:=q0e H (i:=0) rfl
 refine (En Tryz.func30) ?_
 refine R ((BX H) fun b1 w1 H=>(A) ((A) (Z (R ((LB H 0) ?_)))))
 obtain⟨⟨y1,y2⟩,hy1,hr⟩:=bd hr
 refine (CA ok60 (z3d hy1 ⟨_,_,rfl,(rs H 1),(rs H 2)⟩)) ?_
 rintro _ w2 hE ⟨rfl,hI1,hI2⟩
 have H:=H.ext hE
 refine (V) ((EX) ((EX) ((A) ((A) (Z (Y (R ((V) ((B) (Z (iN hr (fun _ hr=>?_) fun _ hr=>?_)))))))))))
 ·exact R ((V) ((V) ((A) ((A) (Z (W1 hr))))))
 ·refine K (Y (R ((A) (Z ?_))))
  refine (bb hr fun q1 hq1 hr=>?_)
  let d2:List Value:=[.slice A1 n1 c1,.slice A2 n2 c2]
  let d1:List Pr:=[Pr.R a0 d2,Pr.S a0.Symbols (.slice A1 n1 c1),Pr.S a0.Rules (.slice A2 n2 c2)]
  refine (lF hq1 (fun k1 _ _=>[(1,pB b1),(6,zN k1)]) (fun _ _ w=>HL F0 [] w0 w d1 [It.B b1 31 d2]) ()) ?_
  rintro k1 _ _ σ w3 hk1 hq1 H
  refine Y (R ((V) ((D 1) ((L H 0) ((NI H 2) fun hl1=>(B) (Z ?_))))))
  refine (iF hq1 hr (fun hk2 x1 z1 hx1 hb1 hs1 ht1=>?_) fun hr=>?_)
  ·refine K (Y ?_)
   refine CW.block (Y ?_)
   refine CW.quiet hmix (by kernel_rfl) ?_
   refine (qLB H 0) ((qD 1) ((qL H 0) ((qV) ?_)))
   obtain⟨b2,ob2,cb2,A3,n3,c3,A4,n4,c4,A5,n5,c5,hvb2,hS1,hS2,H⟩:=q4W H (i:=2) rfl hx1
   refine (qJ 6 hvb2 hx1) ((qLA H 3) ?_)
   refine (bb hb1 fun y3 hy2 hb1=>?_)
   refine (qC ok61 (fun _ hq=>z5H hy2 ⟨_,_,rfl,(rs (H.ext hq) 1),(rs (H.ext hq) 2)⟩ ⟨_,_,_,rfl,hS1,hS2,(rs (H.ext hq) 5),(rs (H.ext hq) 6),(rs (H.ext hq) 7)⟩)) ?_
   refine (qN) ?_
   refine QL.nil (fun w4 hE=>?_)
   have H:=H.ext hE
   refine iM hb1 (fun _ hb1=>?_) fun _ hb1=>?_
   ·exact R ((V) ((A) ((A) (Z (W2 hb1 ht1 hr)))))
   ·exact K (X ((V) ((AN hk2 hl1) ((A) (Z (I2 hb1 hs1 ⟨k1+1,(),()⟩))))))
  ·refine CE (Y (R ((A) (Z ?_))))
   refine (bb hr fun q2 hq2 hr=>?_)
   refine (lF hq2 (fun k2 _ _=>[(1,pB b1),(7,zN k2)]) (fun _ _ w=>HL F0 [] w0 w d1 [It.B b1 31 d2]) ()) ?_
   rintro k2 _ _ σ w5 hk3 hq2 H
   refine Y (R ((V) ((D 0) ((L H 0) ((NI H 1) fun hl2=>(B) (Z ?_))))))
   refine (iF hq2 hr (fun hk4 x2 z2 hx2 hb2 hs2 ht2=>?_) fun hr=>?_)
   ·refine K (Y ?_)
    refine CW.block (Y ?_)
    refine CW.quiet hmix (by kernel_rfl) ?_
    refine (qLB H 0) ((qD 0) ((qL H 0) ((qV) ?_)))
    obtain⟨b3,ob3,cb3,A6,n6,c6,hvb3,hS3,H⟩:=q2w H (i:=1) rfl hx2
    refine (qJ 2 hvb3 hx2) ((qD 0) ((qLC H 3) ?_))
    refine (bb hb2 fun y4 hy3 hb2=>?_)
    refine (qC ok62 (fun _ hq=>z1u hy3 ⟨_,_,rfl,(rs (H.ext hq) 1),(rs (H.ext hq) 2)⟩ hS3)) ?_
    refine (qN) ?_
    refine QL.nil (fun w6 hE=>?_)
    have H:=H.ext hE
    refine iM hb2 (fun _ hb2=>?_) fun _ hb2=>?_
    ·exact R ((V) ((A) ((A) (Z (W2 hb2 ht2 hr)))))
    ·exact K (X ((V) ((AN hk4 hl2) ((A) (Z (I2 hb2 hs2 ⟨k2+1,(),()⟩))))))
   ·exact CE (R ((A) ((A) (Z (W1 hr)))))
def q9k (a0:Grammar):Option Bool:=(q5s a0).bind fun (y1,y2)=>some (decide (y1=0))
theorem z5I {a0}{r}(hr:q9k a0=some r){ca0}(ha0:rd F0 w0 a0 ca0):RT 12 #[.agg ca0.toArray] w0 fun v w=>v = .bool r:=by
 have H:=(HL.start F0 w0).argR ha0
 obtain⟨A1,n1,c1,A2,n2,c2,rfl,H⟩:=q0e H (i:=0) rfl
 refine (En Tryz.func12) ?_
 refine R ((BX H) fun b1 w1 H=>(A) (Z (R ((LB H 0) ?_))))
 obtain⟨⟨y1,y2⟩,hy1,hr⟩:=bd hr
 refine (CA ok30 (z1v hy1 ⟨_,_,rfl,(rs H 1),(rs H 2)⟩)) ?_
 rintro _ w2 hE ⟨rfl,hI1,hI2⟩
 have H:=H.ext hE
 exact (V) ((EX) ((EX) ((A) ((A) (Z (R ((V) ((B) ((A) (Z (W1 hr)))))))))))
def q8t:Nat→Attribute→Unit→Option (Unit ⊕ Bool):=fun k2 x2 _=>if x2.Mode=3 then some (.inr false) else some (.inl ())
def q8u:Nat→Symbol→Unit→Option (Unit ⊕ Bool):=fun k1 x1 _=>(findL q8t 0 x1.Attributes ()).bind <| onr (fun r1=>some (.inr r1)) fun _=>some (.inl ())
def q8v (a0:Grammar):Nat→Rule→Unit→Option (Unit ⊕ Bool):=fun k3 x3 _=>(z0M a0 x3).bind fun y1=>if y1=true then some (.inl ()) else some (.inr false)
def q0Q (a0:Grammar):Option Bool:=(findL q8u 0 a0.Symbols ()).bind <| onr (fun r2=>some r2) fun _=>(findL (q8v a0) 0 a0.Rules ()).bind <| onr (fun r3=>some r3) fun _=>(q9k a0).bind fun y2=>some y2
theorem z1w {a0}{r}(hr:q0Q a0=some r){ca0}(ha0:rd F0 w0 a0 ca0):RT 5 #[.agg ca0.toArray] w0 fun v w=>v = .bool r:=by
 have H:=(HL.start F0 w0).argR ha0
 obtain⟨A1,n1,c1,A2,n2,c2,rfl,H⟩:=q0e H (i:=0) rfl
 refine (En Tryz.func5) ?_
 refine R ((BX H) fun b1 w1 H=>(A) (Z (Y (R ((A) (Z ?_))))))
 refine (bb hr fun q1 hq1 hr=>?_)
 let d2:List Value:=[.slice A1 n1 c1,.slice A2 n2 c2]
 let d1:List Pr:=[Pr.R a0 d2,Pr.S a0.Symbols (.slice A1 n1 c1),Pr.S a0.Rules (.slice A2 n2 c2)]
 refine (lF hq1 (fun k1 _ _=>[(1,pB b1),(3,zN k1)]) (fun _ _ w=>HL F0 [] w0 w d1 [It.B b1 31 d2]) ()) ?_
 rintro k1 _ _ σ w2 hk1 hq1 H
 refine Y (R ((V) ((D 0) ((L H 0) ((NI H 1) fun hl1=>(B) (Z ?_))))))
 refine (iF hq1 hr (fun hk2 x1 z1 hx1 hb1 hs1 ht1=>?_) fun hr=>?_)
 ·refine K (Y ?_)
  refine CW.block (R ((A) (Z ?_)))
  refine (bb hb1 fun q2 hq2 hb1=>?_)
  refine (lF hq2 (fun k2 _ _=>[(1,pB b1),(3,zN k1),(4,zN k2)]) (fun _ _ w=>HL F0 [] w0 w d1 [It.B b1 31 d2]) ()) ?_
  rintro k2 _ _ σ w3 hk3 hq2 H
  refine Y (R ((V) ((D 0) ((L H 0) ((V) ?_)))))
  obtain⟨b2,ob2,cb2,A3,n3,c3,hvb2,hS1,H⟩:=q2w H (i:=1) rfl hx1
  refine (J 2 hvb2 hx1) ((D 1) ((LC H 3) ((NI H 5) fun hl2=>(B) (Z ?_))))
  refine (iF hq2 hb1 (fun hk4 x2 z2 hx2 hb2 hs2 ht2=>?_) fun hb1=>?_)
  ·refine K (Y ?_)
   refine CW.block (R ((D 0) ((L H 0) ((V) ((J 2 hvb2 hx1) ((D 1) ((LC H 3) ((V) ?_))))))))
   obtain⟨b3,ob3,cb3,hvb3,hS2,hI1,hI2,H⟩:=q1U H (i:=5) rfl hx2
   refine (J 4 hvb3 hx2) ((D 2) ((LC H 6) ((B) (Z (iD hb2 (fun _ hb2=>?_) fun _ hb2=>?_)))))
   ·exact R ((A) (Z (W3 hb2 ht2 hb1 ht1 hr)))
   ·exact K (X ((V) ((AN hk4 hl2) ((A) (Z (I2 hb2 hs2 ⟨k2+1,(),()⟩))))))
  ·exact CE (X ((V) ((AN hk2 hl1) ((A) (Z (I2 hb1 hs1 ⟨k1+1,(),()⟩))))))
 ·refine CE (Y (R ((A) (Z ?_))))
  refine (bb hr fun q3 hq3 hr=>?_)
  refine (lF hq3 (fun k3 _ _=>[(1,pB b1),(5,zN k3)]) (fun _ _ w=>HL F0 [] w0 w d1 [It.B b1 31 d2]) ()) ?_
  rintro k3 _ _ σ w4 hk5 hq3 H
  refine Y (R ((V) ((D 1) ((L H 0) ((NI H 2) fun hl3=>(B) (Z ?_))))))
  refine (iF hq3 hr (fun hk6 x3 z3 hx3 hb3 hs3 ht3=>?_) fun hr=>?_)
  ·refine K (Y ?_)
   refine CW.block (Y ?_)
   refine CW.quiet hmix (by kernel_rfl) ?_
   refine (qLB H 0) ((qD 1) ((qL H 0) ((qV) ?_)))
   obtain⟨b4,ob4,cb4,A4,n4,c4,A5,n5,c5,A6,n6,c6,hvb4,hS3,hS4,H⟩:=q4W H (i:=2) rfl hx3
   refine (qJ 6 hvb4 hx3) ((qLA H 3) ?_)
   refine (bb hb3 fun y1 hy1 hb3=>?_)
   refine (qC ok11 (fun _ hq=>z5y hy1 ⟨_,_,rfl,(rs (H.ext hq) 1),(rs (H.ext hq) 2)⟩ ⟨_,_,_,rfl,hS3,hS4,(rs (H.ext hq) 5),(rs (H.ext hq) 6),(rs (H.ext hq) 7)⟩)) ?_
   refine (qN) ?_
   refine QL.nil (fun w5 hE=>?_)
   have H:=H.ext hE
   refine iM hb3 (fun _ hb3=>?_) fun _ hb3=>?_
   ·exact R ((A) (Z (W2 hb3 ht3 hr)))
   ·exact K (X ((V) ((AN hk6 hl3) ((A) (Z (I2 hb3 hs3 ⟨k3+1,(),()⟩))))))
  ·refine CE (R ((LB H 0) ?_))
   refine (bb hr fun y2 hy2 hr=>?_)
   exact (CA ok12 (z5I hy2 ⟨_,_,rfl,(rs H 1),(rs H 2)⟩)) (cE H fun w6 H=>(A) (Z (W1 hr)))
def q0P (a0 a1 a2:Int):Option Bool:=if a1≤a0 then some (decide (a0≤a2)) else some false
theorem q1u {a0 a1 a2}{r}(hr:q0P a0 a1 a2=some r){F0:Nat→Prop}(ha0:I64 a0)(ha1:I64 a1)(ha2:I64 a2):RT 79 #[.int .i64 a0,.int .i64 a1,.int .i64 a2] w0 fun v w=>v = .bool r:=by
 have H:=HL.start F0 w0
 refine (En Tryz.func79) ?_
 refine R ((A) (Z (R ((V) ((V) ((B) (jD hr (fun _ hr=>?_) fun _ hr=>?_)))))))
 ·exact (G) ((V) ((G) ((V) ((G) ((B) ((T) ((A) (Z (W1 hr)))))))))
 ·exact (O) ((O) ((O) ((U) ((A) (Z (W1 hr))))))
def q7K (a0:UInt8):Option Bool:=if 97≤(a0.toNat:Int) then some (decide ((a0.toNat:Int)≤122)) else some false
theorem z2t {a0}{r}(hr:q7K a0=some r){F0:Nat→Prop}:RT 192 #[.int .u8 (a0.toNat:Int)] w0 fun v w=>v = .bool r:=by
 have H:=HL.start F0 w0
 refine (En Tryz.func192) ?_
 refine R ((A) (Z (R ((V) ((B) (jD hr (fun _ hr=>?_) fun _ hr=>?_))))))
 ·exact (G) ((V) ((G) ((B) ((T) ((A) (Z (W1 hr)))))))
 ·exact (O) ((O) ((U) ((A) (Z (W1 hr)))))
def q9l (a0:UInt8):Option Bool:=if 48≤(a0.toNat:Int) then some (decide ((a0.toNat:Int)≤57)) else some false
theorem z5J {a0}{r}(hr:q9l a0=some r){F0:Nat→Prop}:RT 193 #[.int .u8 (a0.toNat:Int)] w0 fun v w=>v = .bool r:=by
 have H:=HL.start F0 w0
 refine (En Tryz.func193) ?_
 refine R ((A) (Z (R ((V) ((B) (jD hr (fun _ hr=>?_) fun _ hr=>?_))))))
 ·exact (G) ((V) ((G) ((B) ((T) ((A) (Z (W1 hr)))))))
 ·exact (O) ((O) ((U) ((A) (Z (W1 hr)))))
def q6v (a0:ByteArray):Option Bool:=if a0=(⟨#[105,102]⟩:ByteArray) then if a0=(⟨#[105,102]⟩:ByteArray) then some true else some false else if a0=(⟨#[116,104,101,110]⟩:ByteArray) then if a0=(⟨#[116,104,101,110]⟩:ByteArray) then some true else some false else if a0=(⟨#[101,108,115,101]⟩:ByteArray) then if a0=(⟨#[101,108,115,101]⟩:ByteArray) then some true else some false else if a0=(⟨#[116,114,117,101]⟩:ByteArray) then if a0=(⟨#[116,114,117,101]⟩:ByteArray) then some true else some false else if a0=(⟨#[102,97,108,115,101]⟩:ByteArray) then if a0=(⟨#[102,97,108,115,101]⟩:ByteArray) then some true else some false else if a0=(⟨#[108,105,116]⟩:ByteArray) then if a0=(⟨#[108,105,116]⟩:ByteArray) then some true else some false else if a0=(⟨#[110,111,110,101]⟩:ByteArray) then if a0=(⟨#[110,111,110,101]⟩:ByteArray) then some true else some false else if a0=(⟨#[115,101,108,102]⟩:ByteArray) then if a0=(⟨#[115,101,108,102]⟩:ByteArray) then some true else some false else if a0=(⟨#[111,102]⟩:ByteArray) then if a0=(⟨#[111,102]⟩:ByteArray) then some true else some false else if a0=(⟨#[109,97,120]⟩:ByteArray) then if a0=(⟨#[109,97,120]⟩:ByteArray) then some true else some false else if a0=(⟨#[109,105,110]⟩:ByteArray) then if a0=(⟨#[109,105,110]⟩:ByteArray) then some true else some false else if a0=(⟨#[119,105,116,104]⟩:ByteArray) then if a0=(⟨#[119,105,116,104]⟩:ByteArray) then some true else some false else if a0=(⟨#[104,97,115]⟩:ByteArray) then some true else some false
theorem z3g {a0}{r}(hr:q6v a0=some r){F0:Nat→Prop}(ha0:a0.size≤9223372036854775807):RT 194 #[.string a0] w0 fun v w=>v = .bool r:=by
 have H:=HL.start F0 w0
 refine (En Tryz.func194) ?_
 refine R ((A) (Z (Y (R ((V) (Z ?_))))))
 refine CW.block (Y (R ((B) ((A) (Z (iD hr (fun _ hr=>?_) fun _ hr=>?_))))))
 ·refine K (iD hr (fun _ hr=>?_) fun _ hr=>?_)
  ·exact R ((A) (Z (W1 hr)))
  ·exact K (R ((A) (Z (W1 hr))))
 ·refine R ((B) ((A) (Z (iD hr (fun _ hr=>?_) fun _ hr=>?_))))
  ·refine K (iD hr (fun _ hr=>?_) fun _ hr=>?_)
   ·exact R ((A) (Z (W1 hr)))
   ·exact K (R ((A) (Z (W1 hr))))
  ·refine R ((B) ((A) (Z (iD hr (fun _ hr=>?_) fun _ hr=>?_))))
   ·refine K (iD hr (fun _ hr=>?_) fun _ hr=>?_)
    ·exact R ((A) (Z (W1 hr)))
    ·exact K (R ((A) (Z (W1 hr))))
   ·refine R ((B) ((A) (Z (iD hr (fun _ hr=>?_) fun _ hr=>?_))))
    ·refine K (iD hr (fun _ hr=>?_) fun _ hr=>?_)
     ·exact R ((A) (Z (W1 hr)))
     ·exact K (R ((A) (Z (W1 hr))))
    ·refine R ((B) ((A) (Z (iD hr (fun _ hr=>?_) fun _ hr=>?_))))
     ·refine K (iD hr (fun _ hr=>?_) fun _ hr=>?_)
      ·exact R ((A) (Z (W1 hr)))
      ·exact K (R ((A) (Z (W1 hr))))
     ·refine R ((B) ((A) (Z (iD hr (fun _ hr=>?_) fun _ hr=>?_))))
      ·refine K (iD hr (fun _ hr=>?_) fun _ hr=>?_)
       ·exact R ((A) (Z (W1 hr)))
       ·exact K (R ((A) (Z (W1 hr))))
      ·refine R ((B) ((A) (Z (iD hr (fun _ hr=>?_) fun _ hr=>?_))))
       ·refine K (iD hr (fun _ hr=>?_) fun _ hr=>?_)
        ·exact R ((A) (Z (W1 hr)))
        ·exact K (R ((A) (Z (W1 hr))))
       ·refine R ((B) ((A) (Z (iD hr (fun _ hr=>?_) fun _ hr=>?_))))
        ·refine K (iD hr (fun _ hr=>?_) fun _ hr=>?_)
         ·exact R ((A) (Z (W1 hr)))
         ·exact K (R ((A) (Z (W1 hr))))
        ·refine R ((B) ((A) (Z (iD hr (fun _ hr=>?_) fun _ hr=>?_))))
         ·refine K (iD hr (fun _ hr=>?_) fun _ hr=>?_)
          ·exact R ((A) (Z (W1 hr)))
          ·exact K (R ((A) (Z (W1 hr))))
         ·refine R ((B) ((A) (Z (iD hr (fun _ hr=>?_) fun _ hr=>?_))))
          ·refine K (iD hr (fun _ hr=>?_) fun _ hr=>?_)
           ·refine Y ?_
            refine CW.fresh [] trivial fun σ=>?_
            have H:HL F0 [] w0 w0 [] []:=H
            exact X ((A) (Z (W1 hr)))
           ·refine K (Y ?_)
            refine CW.fresh [] trivial fun σ=>?_
            have H:HL F0 [] w0 w0 [] []:=H
            exact X ((A) (Z (W1 hr)))
          ·refine Y ?_
           refine CW.fresh [(3,.string a0)] ⟨rfl,trivial⟩ fun σ=>?_
           have H:HL F0 [] w0 w0 [] []:=H
           refine X ((B) ((A) (Z (iD hr (fun _ hr=>?_) fun _ hr=>?_))))
           ·refine K (iD hr (fun _ hr=>?_) fun _ hr=>?_)
            ·exact R ((A) (Z (W1 hr)))
            ·exact K (R ((A) (Z (W1 hr))))
           ·refine R ((B) ((A) (Z (iD hr (fun _ hr=>?_) fun _ hr=>?_))))
            ·refine K (iD hr (fun _ hr=>?_) fun _ hr=>?_)
             ·exact R ((A) (Z (W1 hr)))
             ·exact K (R ((A) (Z (W1 hr))))
            ·refine X ((B) ((A) (Z (iD hr (fun _ hr=>?_) fun _ hr=>?_))))
             ·exact R ((A) (Z (W1 hr)))
             ·exact K (R ((A) (Z (W1 hr))))
def q8M (a0:ByteArray):Nat→Unit→Option (Unit ⊕ Bool):=fun k1 _=>(a0.data[k1]?).bind fun x1=>(q7K x1).bind fun y1=>if y1=true then some (.inl ()) else (q9l x1).bind fun y2=>if y2=true then some (.inl ()) else some (.inr false)
def q0M (a0:ByteArray):Option Bool:=(findN (q8M a0) 0 (a0.size) ()).bind <| onr (fun r1=>some r1) fun _=>(q0P (a0.size:Int) 1 8).bind fun y3=>( if y3=true then (a0.data[0]?).bind fun x2=>(q7K x2).bind fun y4=>some y4 else some false ).bind fun s1=>( if s1=true then (q6v a0).bind fun y5=>some (!y5) else some false ).bind fun s2=>some s2
theorem q1o {a0}{r}(hr:q0M a0=some r){F0:Nat→Prop}(ha0:a0.size≤9223372036854775807):RT 167 #[.string a0] w0 fun v w=>v = .bool r:=by
 have H:=HL.start F0 w0
 refine (En Tryz.func167) ?_
 refine R ((A) (Z (Y (R ((V) ?_)))))
 refine WL.ev rfl rfl (Ev.lenB rfl Tryz.underlying9 rfl) ((V) (Z ?_))
 refine (bb hr fun q1 hq1 hr=>?_)
 refine (lM hq1 (fun k1 _ _=>[(0,.string a0),(5,.int .i64 (a0.size:Int)),(6,zN k1)]) (fun _ _ w=>HL F0 [] w0 w [] []) ()) ?_
 rintro k1 _ _ σ w1 hk1 hq1 H
 refine R ((B) (Z (Y ?_)))
 refine CW.condD rfl (fun h1=>?_) (fun h1=>?_)
 ·have hk2:=q0m h1
  obtain⟨z1,hb1,hs1,ht1⟩:=z3H hq1 hk2
  refine K (Y ?_)
  refine CW.block (R ((V) ((A) (Z (R ((V) ((V) ?_)))))))
  refine (bb hb1 fun x1 hx1 hb1=>?_)
  refine WL.ev rfl rfl (Ev.sIx rfl Tryz.underlying9 rfl rfl hx1) ?_
  refine (bb hb1 fun y1 hy1 hb1=>?_)
  refine (CA ok192 (z2t hy1 (F0:=fun _=>False))) (cE H fun w2 H=>(N) (jM hb1 (fun _ hb1=>?_) fun _ hb1=>?_))
  ·refine (G) ((V) ((G) ((V) ((G) ?_))))
   refine WL.ev rfl rfl (Ev.sIx rfl Tryz.underlying9 rfl rfl hx1) ((G) ?_)
   refine (bb hb1 fun y2 hy2 hb1=>?_)
   refine (CA ok193 (z5J hy2 (F0:=fun _=>False))) (cE H fun w3 H=>(G) ((N) ((T) (Z (iM hb1 (fun _ hb1=>?_) fun _ hb1=>?_)))))
   ·exact R ((A) (Z (W2 hb1 ht1 hr)))
   ·exact K (X ((BN (Bin.addN (a:=k1) (b:=1) rfl (q9Z hk2 (z1M ha0).2))) ((V) (Z (I2 hb1 hs1 ⟨k1+1,(),()⟩)))))
  ·exact (O) ((O) ((O) ((O) ((O) ((U) (Z ((cF) (K (X ((BN (Bin.addN (a:=k1) (b:=1) rfl (q9Z hk2 (z1M ha0).2))) ((V) (Z (I2 hb1 hs1 ⟨k1+1,(),()⟩)))))))))))))
 ·obtain rfl:=z1U hq1 (q0c h1)
  have hr:=(q0s _ _ _).symm.trans hr
  refine CE (R ((V) ?_))
  refine WL.ev rfl rfl (Ev.lenB rfl Tryz.underlying9 rfl) ?_
  refine (bb hr fun y3 hy3 hr=>?_)
  refine (CA ok79 (q1u hy3 (F0:=fun _=>False) (z1M ha0) (by decide:I64 1) (by decide:I64 8))) (cE H fun w4 H=>?_)
  refine (bb hr fun q2 hm1 hr=>?_)
  refine cu H 5 [(0,.string a0),(29,.bool q2)] [] [] ?_ fun σ w6 H=>?_
  ·refine jB hm1 (fun _ hm1=>?_) fun _ hm1=>?_
   ·refine (G) ((V) ((G) ?_))
    refine (bb hm1 fun x2 hx2 hm1=>?_)
    refine WL.ev rfl rfl (Ev.sIx rfl Tryz.underlying9 rfl rfl hx2) ((G) ?_)
    refine (bb hm1 fun y4 hy4 hm1=>?_)
    exact (CA ok192 (z2t hy4 (F0:=fun _=>False))) (cE H fun w5 H=>(T) (Z (C1 hm1)))
   ·exact (O) ((O) ((O) ((U) (Z (C1 hm1)))))
  ·refine (bb hr fun q3 hm2 hr=>?_)
   refine cu H 5 [(34,.bool q3)] [] [] ?_ fun σ w8 H=>?_
   ·refine jB hm2 (fun _ hm2=>?_) fun _ hm2=>?_
    ·refine (G) ((V) ((G) ?_))
     refine (bb hm2 fun y5 hy5 hm2=>?_)
     exact (CA ok194 (z3g hy5 (F0:=fun _=>False) ha0)) (cE H fun w7 H=>(G) ((N) ((T) (Z (C1 hm2)))))
    ·exact (O) ((O) ((O) ((U) (Z (C1 hm2)))))
   ·exact (A) (Z (W1 hr))
def q8N (a0:Int):Option Bool:=(q0P a0 1 4).bind fun y1=>some y1
theorem z3A {a0}{r}(hr:q8N a0=some r){F0:Nat→Prop}(ha0:I64 a0):RT 191 #[.int .i64 a0] w0 fun v w=>v = .bool r:=by
 have H:=HL.start F0 w0
 refine (En Tryz.func191) ?_
 refine R ((A) (Z (R ((V) ?_))))
 refine (bb hr fun y1 hy1 hr=>?_)
 exact (CA ok79 (q1u hy1 (F0:=fun _=>False) ha0 (by decide:I64 1) (by decide:I64 4))) (cE H fun w1 H=>(A) (Z (W1 hr)))
def q3P (a0:Attribute):Option Bool:=(q0M a0.Name).bind fun y1=>( if y1=true then (q8N a0.Type_).bind fun y2=>some (!y2) else some true ).bind fun s1=>( if s1=true then some true else (q0P a0.Mode 1 3).bind fun y3=>some (!y3) ).bind fun s2=>if s2=true then some false else if a0.Mode=3 then ( if a0.Type_=2 then some (!a0.Circular) else some false ).bind fun s3=>some s3 else ( if a0.Circular=true then some (decide (a0.Type_=2)) else some true ).bind fun s4=>some s4
theorem q9s {a0}{r}(hr:q3P a0=some r){ca0}(ha0:rd F0 w0 a0 ca0):RT 165 #[.agg ca0.toArray] w0 fun v w=>v = .bool r:=by
 have H:=(HL.start F0 w0).argR ha0
 obtain⟨rfl,hS1,hI1,hI2,H⟩:=q3G H (i:=0) rfl
 refine (En Tryz.func165) ?_
 refine R ((BX H) fun b1 w1 H=>(A) (Z (Y ?_)))
 refine CW.block (R ((D 0) ((L H 0) ?_)))
 refine (bb hr fun y1 hy1 hr=>?_)
 refine (CA ok167 (q1o hy1 (F0:=fun _=>False) hS1)) (cE H fun w2 H=>(N) ?_)
 refine (bb hr fun q1 hm1 hr=>?_)
 let d1:List Value:=[.string a0.Name,.int .i64 a0.Type_,.int .i64 a0.Mode,.bool a0.Circular]
 refine cu H 6 [(1,pB b1),(13,.bool q1)] [Pr.R a0 d1] [It.B b1 41 d1] ?_ fun σ w4 H=>?_
 ·refine jM hm1 (fun _ hm1=>?_) fun _ hm1=>?_
  ·exact (O) ((O) ((O) ((O) ((T) (Z (C1 hm1))))))
  ·refine (G) ((D 1) ((G) ((L H 0) ((G) ?_))))
   refine (bb hm1 fun y2 hy2 hm1=>?_)
   exact (CA ok191 (z3A hy2 (F0:=fun _=>False) hI1)) (cE H fun w3 H=>(G) ((N) ((U) (Z (C1 hm1)))))
 ·refine (bb hr fun q2 hm2 hr=>?_)
  refine cu H 6 [(1,pB b1),(19,.bool q2)] [Pr.R a0 d1] [It.B b1 41 d1] ?_ fun σ w6 H=>?_
  ·refine jB hm2 (fun _ hm2=>?_) fun _ hm2=>?_
   ·exact (O) ((O) ((O) ((O) ((T) (Z (C1 hm2))))))
   ·refine (G) ((D 2) ((G) ((L H 0) ((G) ?_))))
    refine (bb hm2 fun y3 hy3 hm2=>?_)
    exact (CA ok79 (q1u hy3 (F0:=fun _=>False) hI2 (by decide:I64 1) (by decide:I64 3))) (cE H fun w5 H=>(G) ((N) ((U) (Z (C1 hm2)))))
  ·refine (A) (Z (iB hr (fun _ hr=>?_) fun _ hr=>?_))
   ·exact R ((A) (Z (W1 hr)))
   ·refine R ((D 2) ((L H 0) ((B) ((A) (Z (iD hr (fun _ hr=>?_) fun _ hr=>?_))))))
    ·refine R ((D 1) ((L H 0) ((B) ?_)))
     refine (bb hr fun q3 hm3 hr=>?_)
     refine cu H 5 [(31,.bool q3)] [Pr.R a0 d1] [It.B b1 41 d1] ?_ fun σ w7 H=>?_
     ·refine jD hm3 (fun _ hm3=>?_) fun _ hm3=>?_
      ·exact (G) ((D 3) ((G) ((L H 0) ((G) ((N) ((T) (Z (C1 hm3))))))))
      ·exact (O) ((O) ((O) ((U) (Z (C1 hm3)))))
     ·exact (A) (Z (W1 hr))
    ·refine K (R ((D 3) ((L H 0) ((N) ?_))))
     refine (bb hr fun q4 hm4 hr=>?_)
     refine cu H 5 [(39,.bool q4)] [Pr.R a0 d1] [It.B b1 41 d1] ?_ fun σ w8 H=>?_
     ·refine jM hm4 (fun _ hm4=>?_) fun _ hm4=>?_
      ·exact (O) ((O) ((O) ((T) (Z (C1 hm4)))))
      ·exact (G) ((D 1) ((G) ((L H 0) ((G) ((B) ((U) (Z (C1 hm4))))))))
     ·exact (A) (Z (W1 hr))
def q5t (a0 a1:Attribute):Option Bool:=some (decide (a0.Name=a1.Name))
theorem q9I {a0 a1}{r}(hr:q5t a0 a1=some r){ca0}(ha0:rd F0 w0 a0 ca0){b1p:Nat}(ha1:CapP F0 w0 b1p a1):RT 166 #[.agg ca0.toArray,pB b1p] w0 fun v w=>v = .bool r:=by
 have H:=(HL.start F0 w0).argR ha0
 obtain⟨rfl,hS1,hI1,hI2,H⟩:=q3G H (i:=0) rfl
 obtain⟨cpa1,H⟩:=H.argP ha1
 obtain⟨rfl,hS2,hI3,hI4,H⟩:=q3G H (i:=2) rfl
 refine (En Tryz.func166) ?_
 exact R ((BX H) fun b1 w1 H=>(A) (Z (R ((D 0) ((L H 0) ((D 0) ((LC H 1) ((B) ((A) (Z (W1 hr)))))))))))
def q1L (a1_0:Attribute):Nat→Attribute→Unit→Option (Unit ⊕ Int):=fun k1 x1 _=>(q5t x1 a1_0).bind fun y1=>if y1=true then some (.inr (k1:Int)) else some (.inl ())
def q0R (a0:(List Attribute))(a1_0:Attribute):Option Int:=(findL (q1L a1_0) 0 a0 ()).bind <| onr (fun r1=>some r1) fun _=>some (-1)
theorem q3r {a0}{a1_0}{r}(hr:q0R a0 a1_0=some r){z0}(ha0:rdS F0 w0 a0 z0){b1_0p:Nat}(ha1_0:CapP F0 w0 b1_0p a1_0):RT 75 #[z0,.func (.func 166) #[] #[pB b1_0p]] w0 fun v w=>v = .int .i64 r∧I64 r:=by
 obtain⟨A0',n0',c0',rfl⟩:=ha0.form3
 have H:=(HL.start F0 w0).argS ha0
 obtain⟨cpa1_0,H⟩:=H.argP ha1_0
 obtain⟨rfl,hS1,hI1,hI2,H⟩:=q3G H (i:=2) rfl
 refine (En Tryz.func75) ?_
 refine R ((A) (Z (Y (R ((V) ((NI H 0) fun hl1=>(V) (Z ?_)))))))
 refine (bb hr fun q1 hq1 hr=>?_)
 let d1:List Value:=[.string a1_0.Name,.int .i64 a1_0.Type_,.int .i64 a1_0.Mode,.bool a1_0.Circular]
 refine (lF hq1 (fun k1 _ _=>[(0,.slice A0' n0' c0'),(1,.func (.func 166) #[] #[pB b1_0p]),(7,zN a0.length),(8,zN k1)]) (fun _ _ w=>HL F0 [] w0 w [Pr.S a0 (.slice A0' n0' c0'),Pr.A b1_0p 0 d1,Pr.R a1_0 d1] []) ()) ?_
 rintro k1 _ _ σ w1 hk1 hq1 H
 refine R ((B) (Z (Y ?_)))
 refine CW.condD rfl (fun h1=>?_) (fun h1=>?_)
 ·have hk2:=q0m h1
  obtain⟨x1,z1,hx1,hb1,hs1,ht1⟩:=q0y hq1 hk2
  refine K (Y ?_)
  refine CW.block (R ((V) ((A) (Z (R ((V) ((V) ((V) ?_))))))))
  obtain⟨b1,ob1,cb1,hvb1,hS2,hI3,hI4,H⟩:=q1U H (i:=0) rfl hx1
  refine (J 4 hvb1 hx1) ((LA H 3) ?_)
  refine (bb hb1 fun y1 hy1 hb1=>?_)
  refine (CA ok166 (q9I hy1 (F0:=fun q=>q < _) ⟨rfl,hS2,hI3,hI4⟩ ⟨H.rAl (i:=1) rfl,_,H.rA (i:=1) rfl,⟨rfl,hS1,hI1,hI2⟩⟩)) (cE H fun w2 H=>Z (iB hb1 (fun _ hb1=>?_) fun _ hb1=>?_))
  ·exact R ((V) ((A) (Z (W2 hb1 ht1 hr))))
  ·exact K (X ((AN hk2 hl1) ((V) (Z (I2 hb1 hs1 ⟨k1+1,(),()⟩)))))
 ·obtain rfl:=q0l hq1 (q0c h1)
  have hr:=(q0s _ _ _).symm.trans hr
  exact CE (R ((A) (Z (W1 hr))))
def q0I (a0:(List Attribute))(a1_0:Attribute):Option Bool:=(q0R a0 a1_0).bind fun y1=>some (decide (0≤y1))
theorem q3f {a0}{a1_0}{r}(hr:q0I a0 a1_0=some r){z0}(ha0:rdS F0 w0 a0 z0){b1_0p:Nat}(ha1_0:CapP F0 w0 b1_0p a1_0):RT 41 #[z0,.func (.func 166) #[] #[pB b1_0p]] w0 fun v w=>v = .bool r:=by
 obtain⟨A0',n0',c0',rfl⟩:=ha0.form3
 have H:=(HL.start F0 w0).argS ha0
 obtain⟨cpa1_0,H⟩:=H.argP ha1_0
 obtain⟨rfl,hS1,hI1,hI2,H⟩:=q3G H (i:=2) rfl
 refine (En Tryz.func41) ?_
 refine R ((A) (Z (R ((V) ((V) ?_)))))
 refine (bb hr fun y1 hy1 hr=>?_)
 exact (CA ok75 (q3r hy1 (F0:=fun q=>q < _) (rs H 0) ⟨H.rAl (i:=1) rfl,_,H.rA (i:=1) rfl,⟨rfl,hS1,hI1,hI2⟩⟩)) (cF' H fun w1 hI3 H=>(B) ((A) (Z (W1 hr))))
def q4A (a0:Symbol):Nat→Attribute→Unit→Option (Unit ⊕ Bool):=fun k1 x1 _=>(q3P x1).bind fun y1=>if y1=true then grd (k1≤a0.Attributes.length) <| (q0I (a0.Attributes.take k1) x1).bind fun y2=>if y2=true then some (.inr false) else some (.inl ()) else some (.inr false)
def q5c (a0:Symbol):Option Bool:=(findL (q4A a0) 0 a0.Attributes ()).bind <| onr (fun r1=>some r1) fun _=>(q0M a0.Name).bind fun y3=>( if y3=true then some (decide ((a0.Attributes.length:Int)≤4)) else some false ).bind fun s1=>some s1
theorem z0R {a0}{r}(hr:q5c a0=some r){ca0}(ha0:rd F0 w0 a0 ca0):RT 134 #[.agg ca0.toArray] w0 fun v w=>v = .bool r:=by
 have H:=(HL.start F0 w0).argR ha0
 obtain⟨A1,n1,c1,rfl,hS1,H⟩:=q4L H (i:=0) rfl
 refine (En Tryz.func134) ?_
 refine R ((BX H) fun b1 w1 H=>(A) (Z (Y (R ((D 1) ((L H 0) ((NI H 1) fun hl1=>(V) (Z ?_))))))))
 refine (bb hr fun q1 hq1 hr=>?_)
 let d1:List Value:=[.string a0.Name,.slice A1 n1 c1]
 let d2:List Pr:=[Pr.R a0 d1,Pr.S a0.Attributes (.slice A1 n1 c1)]
 refine (lF hq1 (fun k1 _ _=>[(1,pB b1),(6,.slice A1 n1 c1),(7,zN a0.Attributes.length),(8,zN k1)]) (fun _ _ w=>HL F0 [] w0 w d2 [It.B b1 39 d1]) ()) ?_
 rintro k1 _ _ σ w2 hk1 hq1 H
 refine R ((B) (Z (Y ?_)))
 refine CW.condD rfl (fun h1=>?_) (fun h1=>?_)
 ·have hk2:=q0m h1
  obtain⟨x1,z1,hx1,hb1,hs1,ht1⟩:=q0y hq1 hk2
  refine K (Y ?_)
  refine CW.block (R ((V) ?_))
  obtain⟨b2,ob2,cb2,hvb2,hS2,hI1,hI2,H⟩:=q1U H (i:=1) rfl hx1
  refine (J 4 hvb2 hx1) ((LA H 2) ((AH ze41 H) fun b3 w3 H=>(A) ((SB H 1) fun w4 H=>Z (R ((LB H 1) ?_)))))
  refine (bb hb1 fun y1 hy1 hb1=>?_)
  refine (CA ok165 (q9s hy1 (F0:=fun _=>False) ⟨rfl,hS2,hI1,hI2⟩)) (cE H fun w5 H=>(N) (jM hb1 (fun _ hb1=>?_) fun _ hb1=>?_))
  ·exact (O) ((O) ((O) ((O) ((O) ((O) ((T) (Z ((cT) (R ((A) (Z (W2 hb1 ht1 hr))))))))))))
  ·refine (G) ((D 1) ((G) ((L H 0) ((G) ((V) ((G) ?_))))))
   refine (gg hb1 fun hg1 hb1=>?_)
   obtain⟨A2,n2,c2,e1,hc1,H⟩:=H.slH (i:=1) rfl hg1
   refine WL.ev rfl rfl (Ev.slHV rfl el37 sz41 rfl rfl rfl hc1 e1) ((G) ?_)
   refine WL.ev rfl rfl (Ev.mkfL rfl rfl rfl) ((G) ?_)
   refine (bb hb1 fun y2 hy2 hb1=>?_)
   refine (CA ok41 (q3f hy2 (F0:=fun q=>q < _) (rs H 4) ⟨(H.rB (i:=1) rfl).lt,_,At.blk (H.rB (i:=1) rfl),⟨rfl,hS2,hI1,hI2⟩⟩)) (cE H fun w6 H=>(U) (Z (iB hb1 (fun _ hb1=>?_) fun _ hb1=>?_)))
   ·exact R ((A) (Z (W2 hb1 ht1 hr)))
   ·exact K (X ((AN hk2 hl1) ((V) (Z (I2 hb1 hs1 ⟨k1+1,(),()⟩)))))
 ·obtain rfl:=q0l hq1 (q0c h1)
  have hr:=(q0s _ _ _).symm.trans hr
  refine CE (R ((D 0) ((L H 0) ?_)))
  refine (bb hr fun y3 hy3 hr=>?_)
  refine (CA ok167 (q1o hy3 (F0:=fun _=>False) hS1)) (cE H fun w7 H=>?_)
  refine (bb hr fun q2 hm1 hr=>?_)
  refine cu H 6 [(33,.bool q2)] d2 [It.B b1 39 d1] ?_ fun σ w8 H=>?_
  ·refine jB hm1 (fun _ hm1=>?_) fun _ hm1=>?_
   ·exact (G) ((D 1) ((G) ((L H 0) ((G) ((NN (rs H 1)) ((G) ((B) ((T) (Z (C1 hm1))))))))))
   ·exact (O) ((O) ((O) ((O) ((U) (Z (C1 hm1))))))
  ·exact (A) (Z (W1 hr))
def q6R (a0 a1:Symbol):Option Bool:=some (decide (a0.Name=a1.Name))
theorem z1x {a0 a1}{r}(hr:q6R a0 a1=some r){ca0}(ha0:rd F0 w0 a0 ca0){b1p:Nat}(ha1:CapP F0 w0 b1p a1):RT 135 #[.agg ca0.toArray,pB b1p] w0 fun v w=>v = .bool r:=by
 have H:=(HL.start F0 w0).argR ha0
 obtain⟨A1,n1,c1,rfl,hS1,H⟩:=q4L H (i:=0) rfl
 obtain⟨cpa1,H⟩:=H.argP ha1
 obtain⟨A2,n2,c2,rfl,hS2,H⟩:=q4L H (i:=3) rfl
 refine (En Tryz.func135) ?_
 exact R ((BX H) fun b1 w1 H=>(A) (Z (R ((D 0) ((L H 0) ((D 0) ((LC H 2) ((B) ((A) (Z (W1 hr)))))))))))
def q2o (a1_0:Symbol):Nat→Symbol→Unit→Option (Unit ⊕ Int):=fun k1 x1 _=>(q6R x1 a1_0).bind fun y1=>if y1=true then some (.inr (k1:Int)) else some (.inl ())
def q1p (a0:(List Symbol))(a1_0:Symbol):Option Int:=(findL (q2o a1_0) 0 a0 ()).bind <| onr (fun r1=>some r1) fun _=>some (-1)
theorem q4j {a0}{a1_0}{r}(hr:q1p a0 a1_0=some r){z0}(ha0:rdS F0 w0 a0 z0){b1_0p:Nat}(ha1_0:CapP F0 w0 b1_0p a1_0):RT 74 #[z0,.func (.func 135) #[] #[pB b1_0p]] w0 fun v w=>v = .int .i64 r∧I64 r:=by
 obtain⟨A0',n0',c0',rfl⟩:=ha0.form3
 have H:=(HL.start F0 w0).argS ha0
 obtain⟨cpa1_0,H⟩:=H.argP ha1_0
 obtain⟨A1,n1,c1,rfl,hS1,H⟩:=q4L H (i:=2) rfl
 refine (En Tryz.func74) ?_
 refine R ((A) (Z (Y (R ((V) ((NI H 0) fun hl1=>(V) (Z ?_)))))))
 refine (bb hr fun q1 hq1 hr=>?_)
 refine (lF hq1 (fun k1 _ _=>[(0,.slice A0' n0' c0'),(1,.func (.func 135) #[] #[pB b1_0p]),(7,zN a0.length),(8,zN k1)]) (fun _ _ w=>HL F0 [] w0 w [Pr.S a0 (.slice A0' n0' c0'),Pr.A b1_0p 0 [.string a1_0.Name,.slice A1 n1 c1],Pr.R a1_0 [.string a1_0.Name,.slice A1 n1 c1],Pr.S a1_0.Attributes (.slice A1 n1 c1)] []) ()) ?_
 rintro k1 _ _ σ w1 hk1 hq1 H
 refine R ((B) (Z (Y ?_)))
 refine CW.condD rfl (fun h1=>?_) (fun h1=>?_)
 ·have hk2:=q0m h1
  obtain⟨x1,z1,hx1,hb1,hs1,ht1⟩:=q0y hq1 hk2
  refine K (Y ?_)
  refine CW.block (R ((V) ((A) (Z (R ((V) ((V) ((V) ?_))))))))
  obtain⟨b1,ob1,cb1,A2,n2,c2,hvb1,hS2,H⟩:=q2w H (i:=0) rfl hx1
  refine (J 2 hvb1 hx1) ((LA H 4) ?_)
  refine (bb hb1 fun y1 hy1 hb1=>?_)
  refine (CA ok135 (z1x hy1 (F0:=fun q=>q < _) ⟨_,rfl,hS2,(rs H 6)⟩ ⟨H.rAl (i:=1) rfl,_,H.rA (i:=1) rfl,⟨_,rfl,hS1,(rs H 3)⟩⟩)) (cE H fun w2 H=>Z (iB hb1 (fun _ hb1=>?_) fun _ hb1=>?_))
  ·exact R ((V) ((A) (Z (W2 hb1 ht1 hr))))
  ·exact K (X ((AN hk2 hl1) ((V) (Z (I2 hb1 hs1 ⟨k1+1,(),()⟩)))))
 ·obtain rfl:=q0l hq1 (q0c h1)
  have hr:=(q0s _ _ _).symm.trans hr
  exact CE (R ((A) (Z (W1 hr))))
def q1a (a0:(List Symbol))(a1_0:Symbol):Option Bool:=(q1p a0 a1_0).bind fun y1=>some (decide (0≤y1))
theorem q3Q {a0}{a1_0}{r}(hr:q1a a0 a1_0=some r){z0}(ha0:rdS F0 w0 a0 z0){b1_0p:Nat}(ha1_0:CapP F0 w0 b1_0p a1_0):RT 39 #[z0,.func (.func 135) #[] #[pB b1_0p]] w0 fun v w=>v = .bool r:=by
 obtain⟨A0',n0',c0',rfl⟩:=ha0.form3
 have H:=(HL.start F0 w0).argS ha0
 obtain⟨cpa1_0,H⟩:=H.argP ha1_0
 obtain⟨A1,n1,c1,rfl,hS1,H⟩:=q4L H (i:=2) rfl
 refine (En Tryz.func39) ?_
 refine R ((A) (Z (R ((V) ((V) ?_)))))
 refine (bb hr fun y1 hy1 hr=>?_)
 exact (CA ok74 (q4j hy1 (F0:=fun q=>q < _) (rs H 0) ⟨H.rAl (i:=1) rfl,_,H.rA (i:=1) rfl,⟨_,rfl,hS1,(rs H 3)⟩⟩)) (cF' H fun w1 hI1 H=>(B) ((A) (Z (W1 hr))))
def q6w (rec_iCountExpr:Expr→Option Int):Nat→Expr→Int→Option Int:=fun k1 x1 s1=>(rec_iCountExpr x1).bind fun y1=>grd (I64 (s1+y1)) <| some (s1+y1)
def q7m (rec_iCountExpr:Expr→Option Int)(a0:Expr):Option Int:=(eachL (q6w rec_iCountExpr) 0 a0.Args 1).bind fun s1=>some s1
theorem z3h {rec_iCountExpr:Expr→Option Int}(ih_iCountExpr:∀ {a0:Expr}{r:Int},rec_iCountExpr a0=some r→∀ {F0:Nat→Prop}{w0:World}{ca0}(ha0:rd F0 w0 a0 ca0),RT 207 #[.agg ca0.toArray] w0 fun v w=>v = .int .i64 r∧I64 r){a0}{r}(hr:q7m rec_iCountExpr a0=some r){ca0}(ha0:rd F0 w0 a0 ca0):RT 207 #[.agg ca0.toArray] w0 fun v w=>v = .int .i64 r∧I64 r:=by
 have H:=(HL.start F0 w0).argR ha0
 obtain⟨A1,n1,c1,rfl,hI1,hI2,hI3,hI4,hS1,hS2,H⟩:=q0X H (i:=0) rfl
 refine (En Tryz.func207) ?_
 refine R ((BX H) fun b1 w1 H=>(A) (Z (R ((A) (Z (Y (R ((D 6) ((L H 0) ((NI H 1) fun hl1=>(V) (Z ?_)))))))))))
 refine (bb hr fun q1 hq1 hr=>?_)
 let d1:List Value:=[.int .i64 a0.Kind,.int .i64 a0.N,.int .i64 a0.Pos,.int .i64 a0.Type_,.string a0.Symbol,.string a0.Name,.slice A1 n1 c1]
 refine (lE hq1 (fun k1 s1 _=>[(3,.int .i64 s1),(7,.slice A1 n1 c1),(8,zN a0.Args.length),(9,zN k1)]) (fun s1 _ w=>I64 s1∧HL F0 [] w0 w [Pr.R a0 d1,Pr.S a0.Args (.slice A1 n1 c1)] [It.B b1 58 d1]) ()) ?_
 rintro k1 s1 _ σ w2 hk1 hq1 ⟨hI5,H⟩
 refine R ((B) (Z (Y ?_)))
 refine CW.condD rfl (fun h1=>?_) (fun h1=>?_)
 ·have hk2:=q0m h1
  obtain⟨x1,z1,hx1,hb1,hq1⟩:=q4w hq1 hk2
  refine K (Y ?_)
  refine CW.block (R ?_)
  obtain⟨b2,ob2,cb2,A2,n2,c2,hvb2,hI6,hI7,hI8,hI9,hS3,hS4,H⟩:=q0u H (i:=1) rfl hx1
  refine (J 7 hvb2 hx1) ((LA H 2) ((AH ze58 H) fun b3 w3 H=>(SB H 1) fun w4 H=>Z (X ((V) ((LB H 1) ?_)))))
  refine (bb hb1 fun y1 hy1 hb1=>?_)
  refine (CA ok207 (ih_iCountExpr hy1 (q0b.2 ⟨_,rfl,hI6,hI7,hI8,hI9,hS3,hS4,(rs H 4)⟩))) (cF' H fun w5 hI10 H=>?_)
  exact (gg hb1 fun hg1 hb1=>(BN (Bin.add hg1)) ((A) (Z (X ((AN hk2 hl1) ((V) (Z (I1 hb1 ⟨k1+1,(s1+y1),()⟩))))))))
 ·obtain rfl:=q3w hq1 (q0c h1)
  exact CE (R ((V) ((A) (Z (W1 hr)))))
def q5j:Nat→Expr→Option Int
  | 0,_=>none
  | n+1,a0=>q7m (q5j n) a0
def q8O (a0:Expr):Option Int:=recO fun n=>q5j n a0
theorem z3i (n:Nat):∀ {a0:Expr}{r:Int},q5j n a0=some r→∀ {F0:Nat→Prop}{w0:World}{ca0}(ha0:rd F0 w0 a0 ca0),RT 207 #[.agg ca0.toArray] w0 fun v w=>v = .int .i64 r∧I64 r:=by
 induction n with
 | zero=>intro a0 r hr; exact nomatch (show (none:Option Int)=some r from hr)
 | succ n ih=>intro a0 r hr; exact z3h ih hr
theorem z3Z {a0}{r}(hr:q8O a0=some r){ca0}(ha0:rd F0 w0 a0 ca0):RT 207 #[.agg ca0.toArray] w0 fun v w=>v = .int .i64 r∧I64 r:=by
 obtain⟨n,hn⟩:=q2f hr
 exact z3i n hn ha0
def q6S (rec_iDepthOfExpr:Expr→Option Int):Nat→Expr→Int→Option Int:=fun k1 x1 s1=>(rec_iDepthOfExpr x1).bind fun y1=>some (if y1 > s1 then y1 else s1)
def q5Y (rec_iDepthOfExpr:Expr→Option Int)(a0:Expr):Option Int:=(eachL (q6S rec_iDepthOfExpr) 0 a0.Args 0).bind fun s1=>grd (I64 (s1+1)) <| some (s1+1)
theorem z1y {rec_iDepthOfExpr:Expr→Option Int}(ih_iDepthOfExpr:∀ {a0:Expr}{r:Int},rec_iDepthOfExpr a0=some r→∀ {F0:Nat→Prop}{w0:World}{ca0}(ha0:rd F0 w0 a0 ca0),RT 208 #[.agg ca0.toArray] w0 fun v w=>v = .int .i64 r∧I64 r){a0}{r}(hr:q5Y rec_iDepthOfExpr a0=some r){ca0}(ha0:rd F0 w0 a0 ca0):RT 208 #[.agg ca0.toArray] w0 fun v w=>v = .int .i64 r∧I64 r:=by
 have H:=(HL.start F0 w0).argR ha0
 obtain⟨A1,n1,c1,rfl,hI1,hI2,hI3,hI4,hS1,hS2,H⟩:=q0X H (i:=0) rfl
 refine (En Tryz.func208) ?_
 refine R ((BX H) fun b1 w1 H=>(A) (Z (R ((A) (Z (Y (R ((D 6) ((L H 0) ((NI H 1) fun hl1=>(V) (Z ?_)))))))))))
 refine (bb hr fun q1 hq1 hr=>?_)
 let d1:List Value:=[.int .i64 a0.Kind,.int .i64 a0.N,.int .i64 a0.Pos,.int .i64 a0.Type_,.string a0.Symbol,.string a0.Name,.slice A1 n1 c1]
 refine CW.block (CW.loop (α:=Nat × Int) (fun ⟨k1,s1⟩=>[(3,.int .i64 s1),(7,.slice A1 n1 c1),(8,zN a0.Args.length),(9,zN k1)]) (fun ⟨k1,s1⟩ w=>k1≤a0.Args.length∧eachL (q6S rec_iDepthOfExpr) k1 (a0.Args.drop k1) s1=some q1∧I64 s1∧HL F0 [] w0 w [Pr.R a0 d1,Pr.S a0.Args (.slice A1 n1 c1)] [It.B b1 58 d1]) (fun ⟨k1,s1⟩=>a0.Args.length - k1) ⟨0,0⟩ ⟨rfl,rfl,rfl,rfl,trivial⟩ ⟨Nat.zero_le _,hq1,(by decide:I64 0),H.keep 2 1⟩ ?_)
 rintro⟨k1,s1⟩ σ w2 ⟨hk1,hq1,hI5,H⟩
 refine R ((B) (Z (Y ?_)))
 refine CW.condD rfl (fun h1=>?_) (fun h1=>?_)
 ·have hk2:=q0m h1
  obtain⟨x1,z1,hx1,hb1,hq1⟩:=q4w hq1 hk2
  refine K (Y ?_)
  refine CW.block (R ?_)
  obtain⟨b2,ob2,cb2,A2,n2,c2,hvb2,hI6,hI7,hI8,hI9,hS3,hS4,H⟩:=q0u H (i:=1) rfl hx1
  refine (J 7 hvb2 hx1) ((LA H 2) ((AH ze58 H) fun b3 w3 H=>(SB H 1) fun w4 H=>Z (X ((V) ((LB H 1) ?_)))))
  refine (bb hb1 fun y1 hy1 hb1=>?_)
  refine (CA ok208 (ih_iDepthOfExpr hy1 (q0b.2 ⟨_,rfl,hI6,hI7,hI8,hI9,hS3,hS4,(rs H 4)⟩))) (cF' H fun w5 hI10 H=>?_)
  refine WL.ev rfl rfl (Ev.maxI rfl rfl rfl) ((A) (Z (X ((AN hk2 hl1) ((V) (Z ?_))))))
  obtain rfl:=sm hb1
  exact⟨⟨k1+1,(if y1 > s1 then y1 else s1)⟩,⟨rfl,rfl,rfl,rfl,trivial⟩,⟨hk2,hq1,(z5v hI5 hI10),H.keep 2 1⟩,Nat.sub_lt_sub_left hk2 (Nat.lt_succ_self _)⟩
 ·obtain rfl:=q3w hq1 (q0c h1)
  refine CE (R ((V) ?_))
  exact (gg hr fun hg1 hr=>(BN (Bin.add hg1)) ((A) (Z (W1 hr))))
def q2S:Nat→Expr→Option Int
  | 0,_=>none
  | n+1,a0=>q5Y (q2S n) a0
def q7y (a0:Expr):Option Int:=recO fun n=>q2S n a0
theorem z1z (n:Nat):∀ {a0:Expr}{r:Int},q2S n a0=some r→∀ {F0:Nat→Prop}{w0:World}{ca0}(ha0:rd F0 w0 a0 ca0),RT 208 #[.agg ca0.toArray] w0 fun v w=>v = .int .i64 r∧I64 r:=by
 induction n with
 | zero=>intro a0 r hr; exact nomatch (show (none:Option Int)=some r from hr)
 | succ n ih=>intro a0 r hr; exact z1y ih hr
theorem z2u {a0}{r}(hr:q7y a0=some r){ca0}(ha0:rd F0 w0 a0 ca0):RT 208 #[.agg ca0.toArray] w0 fun v w=>v = .int .i64 r∧I64 r:=by
 obtain⟨n,hn⟩:=q2f hr
 exact z1z n hn ha0
def q9J (a0:Int):Option Int:=some (if ((-1000000):Int) > (if (1000000:Int) < a0 then (1000000:Int) else a0) then ((-1000000):Int) else (if (1000000:Int) < a0 then (1000000:Int) else a0))
theorem z4Q {a0 r}(hr:q9J a0=some r){F0:Nat→Prop}(ha0:I64 a0):RT 220 #[.int .i64 a0] w0 fun v w=>v = .int .i64 r∧I64 r:=by
 have H:=HL.start F0 w0
 refine (En Tryz.func220) ?_
 refine R ((A) (Z (R ((V) ?_))))
 refine WL.ev rfl rfl (Ev.minI rfl rfl rfl) ?_
 refine WL.ev rfl rfl (Ev.maxI rfl rfl rfl) ((A) (Z (CR ?_)))
 obtain rfl:=sm hr
 exact⟨_,res1 rfl rfl rfl,H.ext0,rfl,(z5v (z5v ha0 (by decide:I64 1000000)) (by decide:I64 (-1000000)))⟩
def z4a (a0:Bool):Option Int:=if a0=true then some 1 else some 0
theorem z8P {a0}{r}(hr:z4a a0=some r){F0:Nat→Prop}:RT 221 #[.bool a0] w0 fun v w=>v = .int .i64 r∧I64 r:=by
 have H:=HL.start F0 w0
 refine (En Tryz.func221) ?_
 refine R ((A) (Z (Y (R ((V) (Z (iB hr (fun _ hr=>?_) fun _ hr=>?_)))))))
 ·exact R ((A) (Z (W1 hr)))
 ·exact K (R ((A) (Z (W1 hr))))
def z0r (a0 a1:Int):Option Int:=if a1=1 then (q9J a0).bind fun y1=>some y1 else if a1=2 then some (goAnd a0 4095) else if a1=3 then (z4a (!(decide (a0=0)))).bind fun y2=>some y2 else if a1=4 then (q0P a0 0 999).bind fun y3=>if y3=true then some a0 else some 0 else some 0
theorem z7h {a0 a1 r}(hr:z0r a0 a1=some r){F0:Nat→Prop}(ha0:I64 a0)(ha1:I64 a1):RT 218 #[.int .i64 a0,.int .i64 a1] w0 fun v w=>v = .int .i64 r∧I64 r:=by
 have H:=HL.start F0 w0
 refine (En Tryz.func218) ?_
 refine R ((A) (Z (Y ?_)))
 refine CW.block (R ((V) ((B) ((A) (Z (iD hr (fun _ hr=>?_) fun _ hr=>?_))))))
 ·refine R ((V) ?_)
  refine (bb hr fun y1 hy1 hr=>?_)
  exact (CA ok220 (z4Q hy1 (F0:=fun _=>False) ha0)) (cF' H fun w1 hI1 H=>(A) (Z (W1 hr)))
 ·refine R ((V) ((B) ((A) (Z (iD hr (fun _ hr=>?_) fun _ hr=>?_)))))
  ·refine R ((V) ((B) ((A) (Z (CR ?_)))))
   obtain rfl:=sm hr
   exact⟨_,res1 rfl rfl rfl,H.ext0,rfl,(z6t _)⟩
  ·refine R ((V) ((B) ((A) (Z (iD hr (fun _ hr=>?_) fun _ hr=>?_)))))
   ·refine R ((V) ((B) ?_))
    refine (bb hr fun y2 hy2 hr=>?_)
    exact (CA ok221 (z8P hy2 (F0:=fun _=>False))) (cF' H fun w2 hI2 H=>(A) (Z (W1 hr)))
   ·refine R ((V) ((B) (jD hr (fun _ hr=>?_) fun _ hr=>?_)))
    ·refine (G) ((V) ((G) ?_))
     refine (bb hr fun y3 hy3 hr=>?_)
     refine (CA ok79 (q1u hy3 (F0:=fun _=>False) ha0 (by decide:I64 0) (by decide:I64 999))) (cE H fun w3 H=>(T) ((A) (Z (iB hr (fun _ hr=>?_) fun _ hr=>?_))))
     ·exact R ((V) ((A) (Z (W1 hr))))
     ·exact K (R ((A) (Z (W1 hr))))
    ·exact (O) ((O) ((U) ((A) (Z ((cF) (K (R ((A) (Z (W1 hr))))))))))
def q8g (a0 a1:Int):Option Bool:=(q8N a1).bind fun y1=>if y1=true then (z0r a0 a1).bind fun y2=>some (decide (y2=a0)) else some false
theorem z4R {a0 a1}{r}(hr:q8g a0 a1=some r){F0:Nat→Prop}(ha0:I64 a0)(ha1:I64 a1):RT 213 #[.int .i64 a0,.int .i64 a1] w0 fun v w=>v = .bool r:=by
 have H:=HL.start F0 w0
 refine (En Tryz.func213) ?_
 refine R ((A) (Z (R ((V) ?_))))
 refine (bb hr fun y1 hy1 hr=>?_)
 refine (CA ok191 (z3A hy1 (F0:=fun _=>False) ha1)) (cE H fun w1 H=>jB hr (fun _ hr=>?_) fun _ hr=>?_)
 ·refine (G) ((V) ((G) ((V) ((G) ?_))))
  refine (bb hr fun y2 hy2 hr=>?_)
  exact (CA ok218 (z7h hy2 (F0:=fun _=>False) ha0 ha1)) (cF' H fun w2 hI1 H=>(G) ((V) ((G) ((B) ((T) ((A) (Z (W1 hr))))))))
 ·exact (O) ((O) ((O) ((O) ((O) ((U) ((A) (Z (W1 hr))))))))
def q2Y (a0 a1:Expr):Option Bool:=( if a0.Kind=a1.Kind then some (decide (a0.N=a1.N)) else some false ).bind fun s1=>( if s1=true then some (decide (a0.Pos=a1.Pos)) else some false ).bind fun s2=>( if s2=true then some (decide (a0.Type_=a1.Type_)) else some false ).bind fun s3=>( if s3=true then some (decide (a0.Symbol=a1.Symbol)) else some false ).bind fun s4=>( if s4=true then some (decide (a0.Name=a1.Name)) else some false ).bind fun s5=>some s5
theorem q3H {a0 a1}{r}(hr:q2Y a0 a1=some r){ca0}(ha0:rd F0 w0 a0 ca0){ca1}(ha1:rd F0 w0 a1 ca1):RT 214 #[.agg ca0.toArray,.agg ca1.toArray] w0 fun v w=>v = .bool r:=by
 have H:=((HL.start F0 w0).argR ha0).argR ha1
 obtain⟨A1,n1,c1,rfl,hI1,hI2,hI3,hI4,hS1,hS2,H⟩:=q0X H (i:=0) rfl
 obtain⟨A2,n2,c2,rfl,hI5,hI6,hI7,hI8,hS3,hS4,H⟩:=q0X H (i:=1) rfl
 refine (En Tryz.func214) ?_
 refine R ((BX H) fun b1 w1 H=>(BX H) fun b2 w2 H=>(A) (Z (R ((D 0) ((L H 0) ((D 0) ((L H 1) ((B) ?_))))))))
 refine (bb hr fun q1 hm1 hr=>?_)
 let d3:List Value:=[.int .i64 a0.Kind,.int .i64 a0.N,.int .i64 a0.Pos,.int .i64 a0.Type_,.string a0.Symbol,.string a0.Name,.slice A1 n1 c1]
 let d4:List Value:=[.int .i64 a1.Kind,.int .i64 a1.N,.int .i64 a1.Pos,.int .i64 a1.Type_,.string a1.Symbol,.string a1.Name,.slice A2 n2 c2]
 let d1:List Pr:=[Pr.R a0 d3,Pr.R a1 d4,Pr.S a0.Args (.slice A1 n1 c1),Pr.S a1.Args (.slice A2 n2 c2)]
 let d2:List It:=[It.B b1 58 d3,It.B b2 58 d4]
 refine cu H 7 [(2,pB b1),(3,pB b2),(4,.bool false),(16,.bool q1)] d1 d2 ?_ fun σ w3 H=>?_
 ·refine jD hm1 (fun _ hm1=>?_) fun _ hm1=>?_
  ·exact (G) ((D 1) ((G) ((L H 0) ((G) ((D 1) ((G) ((L H 1) ((G) ((B) ((T) (Z (C1 hm1))))))))))))
  ·exact (O) ((O) ((O) ((O) ((O) ((U) (Z (C1 hm1)))))))
 ·refine (bb hr fun q2 hm2 hr=>?_)
  refine cu H 7 [(2,pB b1),(3,pB b2),(4,.bool false),(23,.bool q2)] d1 d2 ?_ fun σ w4 H=>?_
  ·refine jB hm2 (fun _ hm2=>?_) fun _ hm2=>?_
   ·exact (G) ((D 2) ((G) ((L H 0) ((G) ((D 2) ((G) ((L H 1) ((G) ((B) ((T) (Z (C1 hm2))))))))))))
   ·exact (O) ((O) ((O) ((O) ((O) ((U) (Z (C1 hm2)))))))
  ·refine (bb hr fun q3 hm3 hr=>?_)
   refine cu H 7 [(2,pB b1),(3,pB b2),(4,.bool false),(30,.bool q3)] d1 d2 ?_ fun σ w5 H=>?_
   ·refine jB hm3 (fun _ hm3=>?_) fun _ hm3=>?_
    ·exact (G) ((D 3) ((G) ((L H 0) ((G) ((D 3) ((G) ((L H 1) ((G) ((B) ((T) (Z (C1 hm3))))))))))))
    ·exact (O) ((O) ((O) ((O) ((O) ((U) (Z (C1 hm3)))))))
   ·refine (bb hr fun q4 hm4 hr=>?_)
    refine cu H 7 [(2,pB b1),(3,pB b2),(4,.bool false),(37,.bool q4)] d1 d2 ?_ fun σ w6 H=>?_
    ·refine jB hm4 (fun _ hm4=>?_) fun _ hm4=>?_
     ·exact (G) ((D 4) ((G) ((L H 0) ((G) ((D 4) ((G) ((L H 1) ((G) ((B) ((T) (Z (C1 hm4))))))))))))
     ·exact (O) ((O) ((O) ((O) ((O) ((U) (Z (C1 hm4)))))))
    ·refine (bb hr fun q5 hm5 hr=>?_)
     refine cu H 7 [(4,.bool false),(44,.bool q5)] d1 d2 ?_ fun σ w7 H=>?_
     ·refine jB hm5 (fun _ hm5=>?_) fun _ hm5=>?_
      ·exact (G) ((D 5) ((G) ((L H 0) ((G) ((D 5) ((G) ((L H 1) ((G) ((B) ((T) (Z (C1 hm5))))))))))))
      ·exact (O) ((O) ((O) ((O) ((O) ((U) (Z (C1 hm5)))))))
     ·exact (A) (Z (W1 hr))
def q6x (a0:Expr):Option Bool:=if a0.Kind=1 then ( if a0.Type_=4 then some true else (q8g a0.N a0.Type_).bind fun y1=>some (!y1) ).bind fun s1=>( if s1=true then some true else some (decide (a0.N < 0)) ).bind fun s2=>if s2=true then some false else ( if (a0.Args.length:Int)=0 then (q0P a0.Pos 0 3).bind fun y2=>some y2 else some false ).bind fun s3=>( if s3=true then (q2Y a0 (⟨a0.Kind,a0.N,0,a0.Type_,(⟨#[]⟩:ByteArray),(⟨#[]⟩:ByteArray),a0.Args⟩:Expr)).bind fun y3=>some y3 else some false ).bind fun s4=>some s4 else if a0.Kind=3 then (q0M a0.Name).bind fun y4=>if y4=true then ( if (a0.Args.length:Int)=0 then (q0P a0.Pos 0 3).bind fun y5=>some y5 else some false ).bind fun s5=>( if s5=true then (q2Y a0 (⟨a0.Kind,0,a0.Pos,0,(⟨#[]⟩:ByteArray),a0.Name,a0.Args⟩:Expr)).bind fun y6=>some y6 else some false ).bind fun s6=>some s6 else some false else if a0.Kind=4 then (q0P a0.N 1 12).bind fun y7=>if y7=true then ( if (a0.Args.length:Int)=2 then (q0P a0.Pos 0 3).bind fun y8=>some y8 else some false ).bind fun s7=>( if s7=true then (q2Y a0 (⟨a0.Kind,a0.N,0,0,(⟨#[]⟩:ByteArray),(⟨#[]⟩:ByteArray),a0.Args⟩:Expr)).bind fun y9=>some y9 else some false ).bind fun s8=>some s8 else some false else if a0.Kind=5 then ( if (a0.Args.length:Int)=3 then (q0P a0.Pos 0 3).bind fun y10=>some y10 else some false ).bind fun s9=>( if s9=true then (q2Y a0 (⟨a0.Kind,0,0,0,(⟨#[]⟩:ByteArray),(⟨#[]⟩:ByteArray),a0.Args⟩:Expr)).bind fun y11=>some y11 else some false ).bind fun s10=>some s10 else if a0.Kind=6 then ( if (a0.Args.length:Int)=0 then (q0P a0.Pos 0 3).bind fun y12=>some y12 else some false ).bind fun s11=>( if s11=true then (q2Y a0 (⟨a0.Kind,0,a0.Pos,0,(⟨#[]⟩:ByteArray),(⟨#[]⟩:ByteArray),a0.Args⟩:Expr)).bind fun y13=>some y13 else some false ).bind fun s12=>some s12 else if a0.Kind=8 then (q0M a0.Symbol).bind fun y14=>( if y14=true then (q0M a0.Name).bind fun y15=>some (!y15) else some true ).bind fun s13=>if s13=true then some false else ( if (a0.Args.length:Int)=1 then (q0P a0.Pos 0 3).bind fun y16=>some y16 else some false ).bind fun s14=>( if s14=true then (q2Y a0 (⟨a0.Kind,0,0,0,a0.Symbol,a0.Name,a0.Args⟩:Expr)).bind fun y17=>some y17 else some false ).bind fun s15=>some s15 else if a0.Kind=2 then if a0.Kind=2 then ( if (a0.Args.length:Int)=0 then (q0P a0.Pos 0 3).bind fun y18=>some y18 else some false ).bind fun s16=>( if s16=true then (q2Y a0 (⟨a0.Kind,0,0,0,(⟨#[]⟩:ByteArray),(⟨#[]⟩:ByteArray),a0.Args⟩:Expr)).bind fun y19=>some y19 else some false ).bind fun s17=>some s17 else some false else if a0.Kind=7 then ( if (a0.Args.length:Int)=0 then (q0P a0.Pos 0 3).bind fun y20=>some y20 else some false ).bind fun s18=>( if s18=true then (q2Y a0 (⟨a0.Kind,0,0,0,(⟨#[]⟩:ByteArray),(⟨#[]⟩:ByteArray),a0.Args⟩:Expr)).bind fun y21=>some y21 else some false ).bind fun s19=>some s19 else some false
theorem z3j {a0}{r}(hr:q6x a0=some r){ca0}(ha0:rd F0 w0 a0 ca0):RT 209 #[.agg ca0.toArray] w0 fun v w=>v = .bool r:=by
 have H:=(HL.start F0 w0).argR ha0
 obtain⟨A1,n1,c1,rfl,hI1,hI2,hI3,hI4,hS1,hS2,H⟩:=q0X H (i:=0) rfl
 refine (En Tryz.func209) ?_
 refine R ((BX H) fun b1 w1 H=>(A) (Z (R ((D 0) ((L H 0) ((D 6) ((L H 0) ?_)))))))
 refine WL.ev rfl rfl (Ev.build rfl pl58 ze58 rfl rfl rfl rfl) ((AH ze58 H) fun b2 w2 H=>(SB H 1) fun w3 H=>Z (R ((A) (Z (Y (R ((D 0) ((L H 0) (Z ?_)))))))))
 refine CW.block (R ((B) ((A) (Z (iD hr (fun _ hr=>?_) fun _ hr=>?_)))))
 ·refine Y ?_
  let d2:List Value:=[.int .i64 a0.Kind,.int .i64 a0.N,.int .i64 a0.Pos,.int .i64 a0.Type_,.string a0.Symbol,.string a0.Name,.slice A1 n1 c1]
  let d13:List Pr:=[Pr.R a0 d2,Pr.S a0.Args (.slice A1 n1 c1)]
  refine CW.held (fun w=>∃ v1_1_:Value,∃ v1_3_:Value,HL F0 [] w0 w d13 [It.B b1 58 d2,It.B b2 58 [.int .i64 a0.Kind,v1_1_,.int .i64 0,v1_3_,.string (⟨#[]⟩:ByteArray),.string (⟨#[]⟩:ByteArray),.slice A1 n1 c1]]) hmix (fun w4 hE=>?_)
  have H:HL F0 [] w0 w4 d13 [It.B b1 58 d2,It.B b2 58 [.int .i64 a0.Kind,.int .i64 0,.int .i64 0,.int .i64 0,.string (⟨#[]⟩:ByteArray),.string (⟨#[]⟩:ByteArray),.slice A1 n1 c1]]:=H.ext hE
  refine HW.take 0 ⟨_,_,H.keep 2 2⟩ rfl (by kernel_rfl) rfl rfl (fun _ _=>Ev.fa rfl fo58_1 rfl) ?_
  refine HW.take 1 ⟨_,_,H.keep 2 2⟩ rfl (by kernel_rfl) rfl rfl (fun _ ⟨_,_,hq⟩=>Ev.ld rfl ag3 rfl ((hq.rB (i:=0) rfl).cell rfl)) ?_
  refine HW.take 2 ⟨_,_,H.keep 2 2⟩ rfl (by kernel_rfl) rfl rfl (fun _ _=>Ev.fa rfl fo58_3 rfl) ?_
  refine HW.take 3 ⟨_,_,H.keep 2 2⟩ rfl (by kernel_rfl) rfl rfl (fun _ ⟨_,_,hq⟩=>Ev.ld rfl ag3 rfl ((hq.rB (i:=0) rfl).cell rfl)) ?_
  refine HW.take 4 ⟨_,_,H.keep 2 2⟩ rfl (by kernel_rfl) rfl rfl (fun _ _=>Ev.fa rfl fo58_1 rfl) ?_
  refine HW.eff 5 rfl (by kernel_rfl) ((SB H 1) fun w5 H=>?_)
  refine HW.next ⟨_,_,H.keep 2 2⟩ ?_
  refine HW.take 6 ⟨_,_,H.keep 2 2⟩ rfl (by kernel_rfl) rfl rfl (fun _ _=>Ev.fa rfl fo58_3 rfl) ?_
  refine HW.eff 7 rfl (by kernel_rfl) ((SB H 1) fun w6 H=>?_)
  refine HW.next ⟨_,_,H.keep 2 2⟩ ?_
  refine HW.done (by kernel_rfl) (R ((D 3) ((L H 0) ((B) ?_))))
  refine (bb hr fun q1 hm1 hr=>?_)
  let d7:List It:=[It.B b1 58 d2,It.B b2 58 [.int .i64 a0.Kind,.int .i64 a0.N,.int .i64 0,.int .i64 a0.Type_,.string (⟨#[]⟩:ByteArray),.string (⟨#[]⟩:ByteArray),.slice A1 n1 c1]]
  refine cu H 8 [(1,pB b1),(3,pB b2),(4,.int .i64 0),(30,.bool q1)] d13 d7 ?_ fun σ w8 H=>?_
  ·refine jD hm1 (fun _ hm1=>?_) fun _ hm1=>?_
   ·exact (O) ((O) ((O) ((O) ((O) ((O) ((T) (Z (C1 hm1))))))))
   ·refine (G) ((D 1) ((G) ((L H 0) ((G) ((D 3) ((G) ((L H 0) ((G) ?_))))))))
    refine (bb hm1 fun y1 hy1 hm1=>?_)
    exact (CA ok213 (z4R hy1 (F0:=fun _=>False) hI2 hI4)) (cE H fun w7 H=>(G) ((N) ((U) (Z (C1 hm1)))))
  ·refine (bb hr fun q2 hm2 hr=>?_)
   refine cu H 5 [(1,pB b1),(3,pB b2),(4,.int .i64 0),(35,.bool q2)] d13 d7 ?_ fun σ w9 H=>?_
   ·refine jB hm2 (fun _ hm2=>?_) fun _ hm2=>?_
    ·exact (O) ((O) ((O) ((T) (Z (C1 hm2)))))
    ·exact (G) ((D 1) ((G) ((L H 0) ((G) ((B) ((U) (Z (C1 hm2))))))))
   ·refine Z (iB hr (fun _ hr=>?_) fun _ hr=>?_)
    ·exact R ((A) (Z (W1 hr)))
    ·refine K (R ((D 6) ((L H 0) ((NI H 1) fun hl1=>(V) ((B) ?_)))))
     refine (bb hr fun q3 hm3 hr=>?_)
     refine cu H 5 [(1,pB b1),(3,pB b2),(94,.bool q3)] d13 d7 ?_ fun σ w11 H=>?_
     ·refine jD hm3 (fun _ hm3=>?_) fun _ hm3=>?_
      ·refine (G) ((D 2) ((G) ((L H 0) ((G) ?_))))
       refine (bb hm3 fun y2 hy2 hm3=>?_)
       exact (CA ok79 (q1u hy2 (F0:=fun _=>False) hI3 (by decide:I64 0) (by decide:I64 3))) (cE H fun w10 H=>(T) (Z (C1 hm3)))
      ·exact (O) ((O) ((O) ((U) (Z (C1 hm3)))))
     ·refine (bb hr fun q4 hm4 hr=>?_)
      refine cu H 5 [(99,.bool q4)] d13 d7 ?_ fun σ w13 H=>?_
      ·refine jB hm4 (fun _ hm4=>?_) fun _ hm4=>?_
       ·refine (G) ((LB H 0) ((G) ((LB H 1) ((G) ?_))))
        refine (bb hm4 fun y3 hy3 hm4=>?_)
        exact (CA ok214 (q3H hy3 (q0b.2 ⟨_,rfl,hI1,hI2,hI3,hI4,hS1,hS2,(rs H 1)⟩) (q0b.2 ⟨_,rfl,hI1,hI2,(by decide:I64 0),hI4,(by decide:(⟨#[]⟩:ByteArray).size≤9223372036854775807),(by decide:(⟨#[]⟩:ByteArray).size≤9223372036854775807),(rs H 1)⟩))) (cE H fun w12 H=>(T) (Z (C1 hm4)))
       ·exact (O) ((O) ((O) ((U) (Z (C1 hm4)))))
      ·exact (A) (Z (W1 hr))
 ·refine R ((B) ((A) (Z (iD hr (fun _ hr=>?_) fun _ hr=>?_))))
  ·refine Y ?_
   let d3:List Value:=[.int .i64 a0.Kind,.int .i64 a0.N,.int .i64 a0.Pos,.int .i64 a0.Type_,.string a0.Symbol,.string a0.Name,.slice A1 n1 c1]
   let d15:List Pr:=[Pr.R a0 d3,Pr.S a0.Args (.slice A1 n1 c1)]
   refine CW.held (fun w=>∃ v1_2_:Value,∃ v1_5_:Value,HL F0 [] w0 w d15 [It.B b1 58 d3,It.B b2 58 [.int .i64 a0.Kind,.int .i64 0,v1_2_,.int .i64 0,.string (⟨#[]⟩:ByteArray),v1_5_,.slice A1 n1 c1]]) hmix (fun w14 hE=>?_)
   have H:HL F0 [] w0 w14 d15 [It.B b1 58 d3,It.B b2 58 [.int .i64 a0.Kind,.int .i64 0,.int .i64 0,.int .i64 0,.string (⟨#[]⟩:ByteArray),.string (⟨#[]⟩:ByteArray),.slice A1 n1 c1]]:=H.ext hE
   refine HW.take 0 ⟨_,_,H.keep 2 2⟩ rfl (by kernel_rfl) rfl rfl (fun _ _=>Ev.fa rfl fo58_2 rfl) ?_
   refine HW.take 1 ⟨_,_,H.keep 2 2⟩ rfl (by kernel_rfl) rfl rfl (fun _ ⟨_,_,hq⟩=>Ev.ld rfl ag3 rfl ((hq.rB (i:=0) rfl).cell rfl)) ?_
   refine HW.take 2 ⟨_,_,H.keep 2 2⟩ rfl (by kernel_rfl) rfl rfl (fun _ _=>Ev.fa rfl fo58_5 rfl) ?_
   refine HW.take 3 ⟨_,_,H.keep 2 2⟩ rfl (by kernel_rfl) rfl rfl (fun _ ⟨_,_,hq⟩=>Ev.ld rfl ag9 rfl ((hq.rB (i:=0) rfl).cell rfl)) ?_
   refine HW.take 4 ⟨_,_,H.keep 2 2⟩ rfl (by kernel_rfl) rfl rfl (fun _ _=>Ev.fa rfl fo58_2 rfl) ?_
   refine HW.eff 5 rfl (by kernel_rfl) ((SB H 1) fun w15 H=>?_)
   refine HW.next ⟨_,_,H.keep 2 2⟩ ?_
   refine HW.take 6 ⟨_,_,H.keep 2 2⟩ rfl (by kernel_rfl) rfl rfl (fun _ _=>Ev.fa rfl fo58_5 rfl) ?_
   refine HW.eff 7 rfl (by kernel_rfl) ((SB H 1) fun w16 H=>?_)
   refine HW.next ⟨_,_,H.keep 2 2⟩ ?_
   refine HW.done (by kernel_rfl) (Y ?_)
   refine CW.fresh [(1,pB b1),(3,pB b2),(4,.int .i64 0)] ⟨rfl,rfl,rfl,trivial⟩ fun σ=>?_
   let d11:List It:=[It.B b1 58 d3,It.B b2 58 [.int .i64 a0.Kind,.int .i64 0,.int .i64 a0.Pos,.int .i64 0,.string (⟨#[]⟩:ByteArray),.string a0.Name,.slice A1 n1 c1]]
   have H:HL F0 [] w0 w16 d15 d11:=H
   refine X ((D 5) ((L H 0) ?_))
   refine (bb hr fun y4 hy4 hr=>?_)
   refine (CA ok167 (q1o hy4 (F0:=fun _=>False) hS2)) (cE H fun w17 H=>(N) (Z (iM hr (fun _ hr=>?_) fun _ hr=>?_)))
   ·exact R ((A) (Z (W1 hr)))
   ·refine K (R ((D 6) ((L H 0) ((NI H 1) fun hl2=>(V) ((B) ?_)))))
    refine (bb hr fun q5 hm5 hr=>?_)
    refine cu H 5 [(1,pB b1),(3,pB b2),(94,.bool q5)] d15 d11 ?_ fun σ w19 H=>?_
    ·refine jD hm5 (fun _ hm5=>?_) fun _ hm5=>?_
     ·refine (G) ((D 2) ((G) ((L H 0) ((G) ?_))))
      refine (bb hm5 fun y5 hy5 hm5=>?_)
      exact (CA ok79 (q1u hy5 (F0:=fun _=>False) hI3 (by decide:I64 0) (by decide:I64 3))) (cE H fun w18 H=>(T) (Z (C1 hm5)))
     ·exact (O) ((O) ((O) ((U) (Z (C1 hm5)))))
    ·refine (bb hr fun q6 hm6 hr=>?_)
     refine cu H 5 [(99,.bool q6)] d15 d11 ?_ fun σ w21 H=>?_
     ·refine jB hm6 (fun _ hm6=>?_) fun _ hm6=>?_
      ·refine (G) ((LB H 0) ((G) ((LB H 1) ((G) ?_))))
       refine (bb hm6 fun y6 hy6 hm6=>?_)
       exact (CA ok214 (q3H hy6 (q0b.2 ⟨_,rfl,hI1,hI2,hI3,hI4,hS1,hS2,(rs H 1)⟩) (q0b.2 ⟨_,rfl,hI1,(by decide:I64 0),hI3,(by decide:I64 0),(by decide:(⟨#[]⟩:ByteArray).size≤9223372036854775807),hS2,(rs H 1)⟩))) (cE H fun w20 H=>(T) (Z (C1 hm6)))
      ·exact (O) ((O) ((O) ((U) (Z (C1 hm6)))))
     ·exact (A) (Z (W1 hr))
  ·refine R ((B) ((A) (Z (iD hr (fun _ hr=>?_) fun _ hr=>?_))))
   ·refine R ((D 1) ((L H 0) ((D 1) ((SB H 1) fun w22 H=>(A) (Z (Y ?_))))))
    refine CW.fresh [(1,pB b1),(3,pB b2),(4,.int .i64 2)] ⟨rfl,rfl,rfl,trivial⟩ fun σ=>?_
    let d5:List Value:=[.int .i64 a0.Kind,.int .i64 a0.N,.int .i64 a0.Pos,.int .i64 a0.Type_,.string a0.Symbol,.string a0.Name,.slice A1 n1 c1]
    let d10:List It:=[It.B b1 58 d5,It.B b2 58 [.int .i64 a0.Kind,.int .i64 a0.N,.int .i64 0,.int .i64 0,.string (⟨#[]⟩:ByteArray),.string (⟨#[]⟩:ByteArray),.slice A1 n1 c1]]
    let d17:List Pr:=[Pr.R a0 d5,Pr.S a0.Args (.slice A1 n1 c1)]
    have H:HL F0 [] w0 w22 d17 d10:=H
    refine X ((D 1) ((L H 0) ?_))
    refine (bb hr fun y7 hy7 hr=>?_)
    refine (CA ok79 (q1u hy7 (F0:=fun _=>False) hI2 (by decide:I64 1) (by decide:I64 12))) (cE H fun w23 H=>(N) (Z (iM hr (fun _ hr=>?_) fun _ hr=>?_)))
    ·exact R ((A) (Z (W1 hr)))
    ·refine K (R ((D 6) ((L H 0) ((NI H 1) fun hl3=>(V) ((B) ?_)))))
     refine (bb hr fun q7 hm7 hr=>?_)
     refine cu H 5 [(1,pB b1),(3,pB b2),(94,.bool q7)] d17 d10 ?_ fun σ w25 H=>?_
     ·refine jD hm7 (fun _ hm7=>?_) fun _ hm7=>?_
      ·refine (G) ((D 2) ((G) ((L H 0) ((G) ?_))))
       refine (bb hm7 fun y8 hy8 hm7=>?_)
       exact (CA ok79 (q1u hy8 (F0:=fun _=>False) hI3 (by decide:I64 0) (by decide:I64 3))) (cE H fun w24 H=>(T) (Z (C1 hm7)))
      ·exact (O) ((O) ((O) ((U) (Z (C1 hm7)))))
     ·refine (bb hr fun q8 hm8 hr=>?_)
      refine cu H 5 [(99,.bool q8)] d17 d10 ?_ fun σ w27 H=>?_
      ·refine jB hm8 (fun _ hm8=>?_) fun _ hm8=>?_
       ·refine (G) ((LB H 0) ((G) ((LB H 1) ((G) ?_))))
        refine (bb hm8 fun y9 hy9 hm8=>?_)
        exact (CA ok214 (q3H hy9 (q0b.2 ⟨_,rfl,hI1,hI2,hI3,hI4,hS1,hS2,(rs H 1)⟩) (q0b.2 ⟨_,rfl,hI1,hI2,(by decide:I64 0),(by decide:I64 0),(by decide:(⟨#[]⟩:ByteArray).size≤9223372036854775807),(by decide:(⟨#[]⟩:ByteArray).size≤9223372036854775807),(rs H 1)⟩))) (cE H fun w26 H=>(T) (Z (C1 hm8)))
       ·exact (O) ((O) ((O) ((U) (Z (C1 hm8)))))
      ·exact (A) (Z (W1 hr))
   ·refine R ((B) ((A) (Z (iD hr (fun _ hr=>?_) fun _ hr=>?_))))
    ·refine X ((A) (Z (R ((D 6) ((L H 0) ((NI H 1) fun hl4=>(V) ((B) ?_)))))))
     refine (bb hr fun q9 hm9 hr=>?_)
     let d9:List Value:=[.int .i64 a0.Kind,.int .i64 a0.N,.int .i64 a0.Pos,.int .i64 a0.Type_,.string a0.Symbol,.string a0.Name,.slice A1 n1 c1]
     let d16:List It:=[It.B b1 58 d9,It.B b2 58 [.int .i64 a0.Kind,.int .i64 0,.int .i64 0,.int .i64 0,.string (⟨#[]⟩:ByteArray),.string (⟨#[]⟩:ByteArray),.slice A1 n1 c1]]
     refine cu H 5 [(1,pB b1),(2,.bool false),(3,pB b2),(94,.bool q9)] [Pr.R a0 d9,Pr.S a0.Args (.slice A1 n1 c1)] d16 ?_ fun σ w29 H=>?_
     ·refine jD hm9 (fun _ hm9=>?_) fun _ hm9=>?_
      ·refine (G) ((D 2) ((G) ((L H 0) ((G) ?_))))
       refine (bb hm9 fun y10 hy10 hm9=>?_)
       exact (CA ok79 (q1u hy10 (F0:=fun _=>False) hI3 (by decide:I64 0) (by decide:I64 3))) (cE H fun w28 H=>(T) (Z (C1 hm9)))
      ·exact (O) ((O) ((O) ((U) (Z (C1 hm9)))))
     ·refine (bb hr fun q10 hm10 hr=>?_)
      refine cu H 5 [(2,.bool false),(99,.bool q10)] [Pr.R a0 d9,Pr.S a0.Args (.slice A1 n1 c1)] d16 ?_ fun σ w31 H=>?_
      ·refine jB hm10 (fun _ hm10=>?_) fun _ hm10=>?_
       ·refine (G) ((LB H 0) ((G) ((LB H 1) ((G) ?_))))
        refine (bb hm10 fun y11 hy11 hm10=>?_)
        exact (CA ok214 (q3H hy11 (q0b.2 ⟨_,rfl,hI1,hI2,hI3,hI4,hS1,hS2,(rs H 1)⟩) (q0b.2 ⟨_,rfl,hI1,(by decide:I64 0),(by decide:I64 0),(by decide:I64 0),(by decide:(⟨#[]⟩:ByteArray).size≤9223372036854775807),(by decide:(⟨#[]⟩:ByteArray).size≤9223372036854775807),(rs H 1)⟩))) (cE H fun w30 H=>(T) (Z (C1 hm10)))
       ·exact (O) ((O) ((O) ((U) (Z (C1 hm10)))))
      ·exact (A) (Z (W1 hr))
    ·refine R ((B) ((A) (Z (iD hr (fun _ hr=>?_) fun _ hr=>?_))))
     ·refine CW.fresh [(1,pB b1),(3,pB b2),(4,.int .i64 0)] ⟨rfl,rfl,rfl,trivial⟩ fun σ=>?_
      let d6:List Value:=[.int .i64 a0.Kind,.int .i64 a0.N,.int .i64 a0.Pos,.int .i64 a0.Type_,.string a0.Symbol,.string a0.Name,.slice A1 n1 c1]
      let d18:List Pr:=[Pr.R a0 d6,Pr.S a0.Args (.slice A1 n1 c1)]
      have H:HL F0 [] w0 w3 d18 [It.B b1 58 d6,It.B b2 58 [.int .i64 a0.Kind,.int .i64 0,.int .i64 0,.int .i64 0,.string (⟨#[]⟩:ByteArray),.string (⟨#[]⟩:ByteArray),.slice A1 n1 c1]]:=H
      refine X ((D 2) ((L H 0) ((D 2) ((SB H 1) fun w32 H=>Z (R ((D 6) ((L H 0) ((NI H 1) fun hl5=>(V) ((B) ?_)))))))))
      refine (bb hr fun q11 hm11 hr=>?_)
      let d14:List It:=[It.B b1 58 d6,It.B b2 58 [.int .i64 a0.Kind,.int .i64 0,.int .i64 a0.Pos,.int .i64 0,.string (⟨#[]⟩:ByteArray),.string (⟨#[]⟩:ByteArray),.slice A1 n1 c1]]
      refine cu H 5 [(1,pB b1),(3,pB b2),(94,.bool q11)] d18 d14 ?_ fun σ w34 H=>?_
      ·refine jD hm11 (fun _ hm11=>?_) fun _ hm11=>?_
       ·refine (G) ((D 2) ((G) ((L H 0) ((G) ?_))))
        refine (bb hm11 fun y12 hy12 hm11=>?_)
        exact (CA ok79 (q1u hy12 (F0:=fun _=>False) hI3 (by decide:I64 0) (by decide:I64 3))) (cE H fun w33 H=>(T) (Z (C1 hm11)))
       ·exact (O) ((O) ((O) ((U) (Z (C1 hm11)))))
      ·refine (bb hr fun q12 hm12 hr=>?_)
       refine cu H 5 [(99,.bool q12)] d18 d14 ?_ fun σ w36 H=>?_
       ·refine jB hm12 (fun _ hm12=>?_) fun _ hm12=>?_
        ·refine (G) ((LB H 0) ((G) ((LB H 1) ((G) ?_))))
         refine (bb hm12 fun y13 hy13 hm12=>?_)
         exact (CA ok214 (q3H hy13 (q0b.2 ⟨_,rfl,hI1,hI2,hI3,hI4,hS1,hS2,(rs H 1)⟩) (q0b.2 ⟨_,rfl,hI1,(by decide:I64 0),hI3,(by decide:I64 0),(by decide:(⟨#[]⟩:ByteArray).size≤9223372036854775807),(by decide:(⟨#[]⟩:ByteArray).size≤9223372036854775807),(rs H 1)⟩))) (cE H fun w35 H=>(T) (Z (C1 hm12)))
        ·exact (O) ((O) ((O) ((U) (Z (C1 hm12)))))
       ·exact (A) (Z (W1 hr))
     ·refine Y ?_
      refine CW.fresh [(1,pB b1),(3,pB b2),(4,.int .i64 0),(11,.int .i64 a0.Kind)] ⟨rfl,rfl,rfl,rfl,trivial⟩ fun σ=>?_
      let d1:List Value:=[.int .i64 a0.Kind,.int .i64 a0.N,.int .i64 a0.Pos,.int .i64 a0.Type_,.string a0.Symbol,.string a0.Name,.slice A1 n1 c1]
      let d4:List It:=[It.B b1 58 d1,It.B b2 58 [.int .i64 a0.Kind,.int .i64 0,.int .i64 0,.int .i64 0,.string (⟨#[]⟩:ByteArray),.string (⟨#[]⟩:ByteArray),.slice A1 n1 c1]]
      let d8:List Pr:=[Pr.R a0 d1,Pr.S a0.Args (.slice A1 n1 c1)]
      have H:HL F0 [] w0 w3 d8 d4:=H
      refine X ((B) ((A) (Z (iD hr (fun _ hr=>?_) fun _ hr=>?_))))
      ·refine Y ?_
       refine CW.held (fun w=>∃ v1_4_:Value,∃ v1_5_:Value,HL F0 [] w0 w d8 [It.B b1 58 d1,It.B b2 58 [.int .i64 a0.Kind,.int .i64 0,.int .i64 0,.int .i64 0,v1_4_,v1_5_,.slice A1 n1 c1]]) hmix (fun w37 hE=>?_)
       have H:HL F0 [] w0 w37 d8 d4:=H.ext hE
       refine HW.take 0 ⟨_,_,H.keep 2 2⟩ rfl (by kernel_rfl) rfl rfl (fun _ _=>Ev.fa rfl fo58_4 rfl) ?_
       refine HW.take 1 ⟨_,_,H.keep 2 2⟩ rfl (by kernel_rfl) rfl rfl (fun _ ⟨_,_,hq⟩=>Ev.ld rfl ag9 rfl ((hq.rB (i:=0) rfl).cell rfl)) ?_
       refine HW.take 2 ⟨_,_,H.keep 2 2⟩ rfl (by kernel_rfl) rfl rfl (fun _ _=>Ev.fa rfl fo58_5 rfl) ?_
       refine HW.take 3 ⟨_,_,H.keep 2 2⟩ rfl (by kernel_rfl) rfl rfl (fun _ ⟨_,_,hq⟩=>Ev.ld rfl ag9 rfl ((hq.rB (i:=0) rfl).cell rfl)) ?_
       refine HW.take 4 ⟨_,_,H.keep 2 2⟩ rfl (by kernel_rfl) rfl rfl (fun _ _=>Ev.fa rfl fo58_4 rfl) ?_
       refine HW.eff 5 rfl (by kernel_rfl) ((SB H 1) fun w38 H=>?_)
       refine HW.next ⟨_,_,H.keep 2 2⟩ ?_
       refine HW.take 6 ⟨_,_,H.keep 2 2⟩ rfl (by kernel_rfl) rfl rfl (fun _ _=>Ev.fa rfl fo58_5 rfl) ?_
       refine HW.eff 7 rfl (by kernel_rfl) ((SB H 1) fun w39 H=>?_)
       refine HW.next ⟨_,_,H.keep 2 2⟩ ?_
       refine HW.take 8 ⟨_,_,H.keep 2 2⟩ rfl (by kernel_rfl) rfl rfl (fun _ _=>Ev.as rfl rfl) ?_
       refine HW.done (by kernel_rfl) (R ((D 4) ((L H 0) ?_)))
       refine (bb hr fun y14 hy14 hr=>?_)
       refine (CA ok167 (q1o hy14 (F0:=fun _=>False) hS1)) (cE H fun w40 H=>(N) ?_)
       refine (bb hr fun q13 hm13 hr=>?_)
       let d12:List It:=[It.B b1 58 d1,It.B b2 58 [.int .i64 a0.Kind,.int .i64 0,.int .i64 0,.int .i64 0,.string a0.Symbol,.string a0.Name,.slice A1 n1 c1]]
       refine cu H 6 [(1,pB b1),(3,pB b2),(4,.int .i64 1),(81,.bool q13)] d8 d12 ?_ fun σ w42 H=>?_
       ·refine jM hm13 (fun _ hm13=>?_) fun _ hm13=>?_
        ·exact (O) ((O) ((O) ((O) ((T) (Z (C1 hm13))))))
        ·refine (G) ((D 5) ((G) ((L H 0) ((G) ?_))))
         refine (bb hm13 fun y15 hy15 hm13=>?_)
         exact (CA ok167 (q1o hy15 (F0:=fun _=>False) hS2)) (cE H fun w41 H=>(G) ((N) ((U) (Z (C1 hm13)))))
       ·refine Z (iB hr (fun _ hr=>?_) fun _ hr=>?_)
        ·exact R ((A) (Z (W1 hr)))
        ·refine K (R ((D 6) ((L H 0) ((NI H 1) fun hl6=>(V) ((B) ?_)))))
         refine (bb hr fun q14 hm14 hr=>?_)
         refine cu H 5 [(1,pB b1),(3,pB b2),(94,.bool q14)] d8 d12 ?_ fun σ w44 H=>?_
         ·refine jD hm14 (fun _ hm14=>?_) fun _ hm14=>?_
          ·refine (G) ((D 2) ((G) ((L H 0) ((G) ?_))))
           refine (bb hm14 fun y16 hy16 hm14=>?_)
           exact (CA ok79 (q1u hy16 (F0:=fun _=>False) hI3 (by decide:I64 0) (by decide:I64 3))) (cE H fun w43 H=>(T) (Z (C1 hm14)))
          ·exact (O) ((O) ((O) ((U) (Z (C1 hm14)))))
         ·refine (bb hr fun q15 hm15 hr=>?_)
          refine cu H 5 [(99,.bool q15)] d8 d12 ?_ fun σ w46 H=>?_
          ·refine jB hm15 (fun _ hm15=>?_) fun _ hm15=>?_
           ·refine (G) ((LB H 0) ((G) ((LB H 1) ((G) ?_))))
            refine (bb hm15 fun y17 hy17 hm15=>?_)
            exact (CA ok214 (q3H hy17 (q0b.2 ⟨_,rfl,hI1,hI2,hI3,hI4,hS1,hS2,(rs H 1)⟩) (q0b.2 ⟨_,rfl,hI1,(by decide:I64 0),(by decide:I64 0),(by decide:I64 0),hS1,hS2,(rs H 1)⟩))) (cE H fun w45 H=>(T) (Z (C1 hm15)))
           ·exact (O) ((O) ((O) ((U) (Z (C1 hm15)))))
          ·exact (A) (Z (W1 hr))
      ·refine Y (R ((B) ((A) (Z (iD hr (fun _ hr=>?_) fun _ hr=>?_)))))
       ·refine K (iD hr (fun _ hr=>?_) fun _ hr=>?_)
        ·refine K (R ((D 6) ((L H 0) ((NI H 1) fun hl7=>(V) ((B) ?_)))))
         refine (bb hr fun q16 hm16 hr=>?_)
         refine cu H 5 [(1,pB b1),(3,pB b2),(94,.bool q16)] d8 d4 ?_ fun σ w48 H=>?_
         ·refine jD hm16 (fun _ hm16=>?_) fun _ hm16=>?_
          ·refine (G) ((D 2) ((G) ((L H 0) ((G) ?_))))
           refine (bb hm16 fun y18 hy18 hm16=>?_)
           exact (CA ok79 (q1u hy18 (F0:=fun _=>False) hI3 (by decide:I64 0) (by decide:I64 3))) (cE H fun w47 H=>(T) (Z (C1 hm16)))
          ·exact (O) ((O) ((O) ((U) (Z (C1 hm16)))))
         ·refine (bb hr fun q17 hm17 hr=>?_)
          refine cu H 5 [(99,.bool q17)] d8 d4 ?_ fun σ w50 H=>?_
          ·refine jB hm17 (fun _ hm17=>?_) fun _ hm17=>?_
           ·refine (G) ((LB H 0) ((G) ((LB H 1) ((G) ?_))))
            refine (bb hm17 fun y19 hy19 hm17=>?_)
            exact (CA ok214 (q3H hy19 (q0b.2 ⟨_,rfl,hI1,hI2,hI3,hI4,hS1,hS2,(rs H 1)⟩) (q0b.2 ⟨_,rfl,hI1,(by decide:I64 0),(by decide:I64 0),(by decide:I64 0),(by decide:(⟨#[]⟩:ByteArray).size≤9223372036854775807),(by decide:(⟨#[]⟩:ByteArray).size≤9223372036854775807),(rs H 1)⟩))) (cE H fun w49 H=>(T) (Z (C1 hm17)))
           ·exact (O) ((O) ((O) ((U) (Z (C1 hm17)))))
          ·exact (A) (Z (W1 hr))
        ·exact R ((A) (Z (W1 hr)))
       ·refine X ((B) ((A) (Z (iD hr (fun _ hr=>?_) fun _ hr=>?_))))
        ·refine K (R ((D 6) ((L H 0) ((NI H 1) fun hl8=>(V) ((B) ?_)))))
         refine (bb hr fun q18 hm18 hr=>?_)
         refine cu H 5 [(1,pB b1),(3,pB b2),(94,.bool q18)] d8 d4 ?_ fun σ w52 H=>?_
         ·refine jD hm18 (fun _ hm18=>?_) fun _ hm18=>?_
          ·refine (G) ((D 2) ((G) ((L H 0) ((G) ?_))))
           refine (bb hm18 fun y20 hy20 hm18=>?_)
           exact (CA ok79 (q1u hy20 (F0:=fun _=>False) hI3 (by decide:I64 0) (by decide:I64 3))) (cE H fun w51 H=>(T) (Z (C1 hm18)))
          ·exact (O) ((O) ((O) ((U) (Z (C1 hm18)))))
         ·refine (bb hr fun q19 hm19 hr=>?_)
          refine cu H 5 [(99,.bool q19)] d8 d4 ?_ fun σ w54 H=>?_
          ·refine jB hm19 (fun _ hm19=>?_) fun _ hm19=>?_
           ·refine (G) ((LB H 0) ((G) ((LB H 1) ((G) ?_))))
            refine (bb hm19 fun y21 hy21 hm19=>?_)
            exact (CA ok214 (q3H hy21 (q0b.2 ⟨_,rfl,hI1,hI2,hI3,hI4,hS1,hS2,(rs H 1)⟩) (q0b.2 ⟨_,rfl,hI1,(by decide:I64 0),(by decide:I64 0),(by decide:I64 0),(by decide:(⟨#[]⟩:ByteArray).size≤9223372036854775807),(by decide:(⟨#[]⟩:ByteArray).size≤9223372036854775807),(rs H 1)⟩))) (cE H fun w53 H=>(T) (Z (C1 hm19)))
           ·exact (O) ((O) ((O) ((U) (Z (C1 hm19)))))
          ·exact (A) (Z (W1 hr))
        ·exact R ((A) (Z (W1 hr)))
def q3g (rec_ieveryNode_iexprNodeOk:Expr→Option Bool)(a0:Expr):Option Bool:=(rec_ieveryNode_iexprNodeOk a0).bind fun y1=>some (!y1)
theorem q6T {rec_ieveryNode_iexprNodeOk:Expr→Option Bool}(ih_ieveryNode_iexprNodeOk:∀ {a0:Expr}{r:Bool},rec_ieveryNode_iexprNodeOk a0=some r→∀ {F0:Nat→Prop}{w0:World}{ca0}(ha0:rd F0 w0 a0 ca0),RT 72 #[.agg ca0.toArray,.func (.func 209) #[] #[]] w0 fun v w=>v = .bool r){a0}{r}(hr:q3g rec_ieveryNode_iexprNodeOk a0=some r){ca0}(ha0:rd F0 w0 a0 ca0){b1p:Nat}(ha1:F0 b1p∧At w0 b1p 0 [.func (.func 209) #[] #[]]):RT 111 #[.agg ca0.toArray,pB b1p] w0 fun v w=>v = .bool r:=by
 have H:=(HL.start F0 w0).argR ha0
 obtain⟨A1,n1,c1,rfl,hI1,hI2,hI3,hI4,hS1,hS2,H⟩:=q0X H (i:=0) rfl
 have H:=H.argA ha1
 refine (En Tryz.func111) ?_
 refine R ((BX H) fun b1 w1 H=>(A) (Z (R ((LB H 0) ((L0 H 2) ?_)))))
 refine (bb hr fun y1 hy1 hr=>?_)
 exact (CA ok72 (ih_ieveryNode_iexprNodeOk hy1 (F0:=fun q=>q < _) (q0b.2 ⟨_,rfl,hI1,hI2,hI3,hI4,hS1,hS2,(rs H 1)⟩))) (cE H fun w2 H=>(N) ((A) (Z (W1 hr))))
def q1w (rec_ieveryNode_iexprNodeOk:Expr→Option Bool):Nat→Expr→Unit→Option (Unit ⊕ Int):=fun k1 x1 _=>(q3g rec_ieveryNode_iexprNodeOk x1).bind fun y1=>if y1=true then some (.inr (k1:Int)) else some (.inl ())
def q0J (rec_ieveryNode_iexprNodeOk:Expr→Option Bool)(a0:(List Expr)):Option Int:=(findL (q1w rec_ieveryNode_iexprNodeOk) 0 a0 ()).bind <| onr (fun r1=>some r1) fun _=>some (-1)
theorem q3h {rec_ieveryNode_iexprNodeOk:Expr→Option Bool}(ih_ieveryNode_iexprNodeOk:∀ {a0:Expr}{r:Bool},rec_ieveryNode_iexprNodeOk a0=some r→∀ {F0:Nat→Prop}{w0:World}{ca0}(ha0:rd F0 w0 a0 ca0),RT 72 #[.agg ca0.toArray,.func (.func 209) #[] #[]] w0 fun v w=>v = .bool r){a0}{r}(hr:q0J rec_ieveryNode_iexprNodeOk a0=some r){z0}(ha0:rdS F0 w0 a0 z0){b1_0p:Nat}(ha1_0:F0 b1_0p∧At w0 b1_0p 0 [.func (.func 209) #[] #[]]):RT 71 #[z0,.func (.func 111) #[] #[pB b1_0p]] w0 fun v w=>v = .int .i64 r∧I64 r:=by
 obtain⟨A0',n0',c0',rfl⟩:=ha0.form3
 have H:=(HL.start F0 w0).argS ha0
 have H:=H.argA ha1_0
 refine (En Tryz.func71) ?_
 refine R ((A) (Z (Y (R ((V) ((NI H 0) fun hl1=>(V) (Z ?_)))))))
 refine (bb hr fun q1 hq1 hr=>?_)
 refine (lF hq1 (fun k1 _ _=>[(0,.slice A0' n0' c0'),(1,.func (.func 111) #[] #[pB b1_0p]),(7,zN a0.length),(8,zN k1)]) (fun _ _ w=>HL F0 [] w0 w [Pr.S a0 (.slice A0' n0' c0'),Pr.A b1_0p 0 [.func (.func 209) #[] #[]]] []) ()) ?_
 rintro k1 _ _ σ w1 hk1 hq1 H
 refine R ((B) (Z (Y ?_)))
 refine CW.condD rfl (fun h1=>?_) (fun h1=>?_)
 ·have hk2:=q0m h1
  obtain⟨x1,z1,hx1,hb1,hs1,ht1⟩:=q0y hq1 hk2
  refine K (Y ?_)
  refine CW.block (R ((V) ((A) (Z (R ((V) ((V) ((V) ?_))))))))
  obtain⟨b1,ob1,cb1,A1,n1,c1,hvb1,hI1,hI2,hI3,hI4,hS1,hS2,H⟩:=q0u H (i:=0) rfl hx1
  refine (J 7 hvb1 hx1) ((LA H 2) ?_)
  refine (bb hb1 fun y1 hy1 hb1=>?_)
  refine (CA ok111 (q6T ih_ieveryNode_iexprNodeOk hy1 (F0:=fun q=>q < _) (q0b.2 ⟨_,rfl,hI1,hI2,hI3,hI4,hS1,hS2,(rs H 4)⟩) ⟨H.rAl (i:=1) rfl,H.rA (i:=1) rfl⟩)) (cE H fun w2 H=>Z (iB hb1 (fun _ hb1=>?_) fun _ hb1=>?_))
  ·exact R ((V) ((A) (Z (W2 hb1 ht1 hr))))
  ·exact K (X ((AN hk2 hl1) ((V) (Z (I2 hb1 hs1 ⟨k1+1,(),()⟩)))))
 ·obtain rfl:=q0l hq1 (q0c h1)
  have hr:=(q0s _ _ _).symm.trans hr
  exact CE (R ((A) (Z (W1 hr))))
def q0D (rec_ieveryNode_iexprNodeOk:Expr→Option Bool)(a0:(List Expr)):Option Bool:=(q0J rec_ieveryNode_iexprNodeOk a0).bind fun y1=>some (decide (0≤y1))
theorem q2W {rec_ieveryNode_iexprNodeOk:Expr→Option Bool}(ih_ieveryNode_iexprNodeOk:∀ {a0:Expr}{r:Bool},rec_ieveryNode_iexprNodeOk a0=some r→∀ {F0:Nat→Prop}{w0:World}{ca0}(ha0:rd F0 w0 a0 ca0),RT 72 #[.agg ca0.toArray,.func (.func 209) #[] #[]] w0 fun v w=>v = .bool r){a0}{r}(hr:q0D rec_ieveryNode_iexprNodeOk a0=some r){z0}(ha0:rdS F0 w0 a0 z0){b1_0p:Nat}(ha1_0:F0 b1_0p∧At w0 b1_0p 0 [.func (.func 209) #[] #[]]):RT 36 #[z0,.func (.func 111) #[] #[pB b1_0p]] w0 fun v w=>v = .bool r:=by
 obtain⟨A0',n0',c0',rfl⟩:=ha0.form3
 have H:=(HL.start F0 w0).argS ha0
 have H:=H.argA ha1_0
 refine (En Tryz.func36) ?_
 refine R ((A) (Z (R ((V) ((V) ?_)))))
 refine (bb hr fun y1 hy1 hr=>?_)
 exact (CA ok71 (q3h ih_ieveryNode_iexprNodeOk hy1 (F0:=fun q=>q < _) (rs H 0) ⟨H.rAl (i:=1) rfl,H.rA (i:=1) rfl⟩)) (cF' H fun w1 hI1 H=>(B) ((A) (Z (W1 hr))))
def q2x (rec_ieveryNode_iexprNodeOk:Expr→Option Bool)(a0:Expr):Option Bool:=(q6x a0).bind fun y1=>if y1=true then (q0D rec_ieveryNode_iexprNodeOk a0.Args).bind fun y2=>some (!y2) else some false
theorem q7a {rec_ieveryNode_iexprNodeOk:Expr→Option Bool}(ih_ieveryNode_iexprNodeOk:∀ {a0:Expr}{r:Bool},rec_ieveryNode_iexprNodeOk a0=some r→∀ {F0:Nat→Prop}{w0:World}{ca0}(ha0:rd F0 w0 a0 ca0),RT 72 #[.agg ca0.toArray,.func (.func 209) #[] #[]] w0 fun v w=>v = .bool r){a0}{r}(hr:q2x rec_ieveryNode_iexprNodeOk a0=some r){ca0}(ha0:rd F0 w0 a0 ca0):RT 72 #[.agg ca0.toArray,.func (.func 209) #[] #[]] w0 fun v w=>v = .bool r:=by
 have H:=(HL.start F0 w0).argR ha0
 obtain⟨A1,n1,c1,rfl,hI1,hI2,hI3,hI4,hS1,hS2,H⟩:=q0X H (i:=0) rfl
 refine (En Tryz.func72) ?_
 refine R ((BX H) fun b1 w1 H=>(BX H) fun b2 w2 H=>(A) (Z (R ((L H 1) ((LB H 0) ?_)))))
 refine (bb hr fun y1 hy1 hr=>?_)
 refine (CA ok209 (z3j hy1 (q0b.2 ⟨_,rfl,hI1,hI2,hI3,hI4,hS1,hS2,(rs H 1)⟩))) (cE H fun w3 H=>jB hr (fun _ hr=>?_) fun _ hr=>?_)
 ·refine (G) ((D 6) ((G) ((L H 0) ((G) ?_))))
  refine WL.ev rfl rfl (Ev.mkfL rfl rfl rfl) ((G) ?_)
  refine (bb hr fun y2 hy2 hr=>?_)
  exact (CA ok36 (q2W ih_ieveryNode_iexprNodeOk hy2 (F0:=fun q=>q < _) (rs H 1) ⟨(H.rB (i:=1) rfl).lt,At.blk (H.rB (i:=1) rfl)⟩)) (cE H fun w4 H=>(G) ((N) ((T) ((A) (Z (W1 hr))))))
 ·exact (O) ((O) ((O) ((O) ((O) ((U) ((A) (Z (W1 hr))))))))
def q1M:Nat→Expr→Option Bool
  | 0,_=>none
  | n+1,a0=>q2x (q1M n) a0
def q3z (a0:Expr):Option Bool:=recO fun n=>q1M n a0
theorem q7b (n:Nat):∀ {a0:Expr}{r:Bool},q1M n a0=some r→∀ {F0:Nat→Prop}{w0:World}{ca0}(ha0:rd F0 w0 a0 ca0),RT 72 #[.agg ca0.toArray,.func (.func 209) #[] #[]] w0 fun v w=>v = .bool r:=by
 induction n with
 | zero=>intro a0 r hr; exact nomatch (show (none:Option Bool)=some r from hr)
 | succ n ih=>intro a0 r hr; exact q7a ih hr
theorem q7z {a0}{r}(hr:q3z a0=some r){ca0}(ha0:rd F0 w0 a0 ca0):RT 72 #[.agg ca0.toArray,.func (.func 209) #[] #[]] w0 fun v w=>v = .bool r:=by
 obtain⟨n,hn⟩:=q2f hr
 exact q7b n hn ha0
def q5Z (a0:Expr):Option Bool:=(q8O a0).bind fun y1=>( if y1≤24 then (q7y a0).bind fun y2=>some (decide (y2≤6)) else some false ).bind fun s1=>( if s1=true then (q3z a0).bind fun y3=>some y3 else some false ).bind fun s2=>some s2
theorem z2v {a0}{r}(hr:q5Z a0=some r){ca0}(ha0:rd F0 w0 a0 ca0):RT 195 #[.agg ca0.toArray] w0 fun v w=>v = .bool r:=by
 have H:=(HL.start F0 w0).argR ha0
 obtain⟨A1,n1,c1,rfl,hI1,hI2,hI3,hI4,hS1,hS2,H⟩:=q0X H (i:=0) rfl
 refine (En Tryz.func195) ?_
 refine R ((BX H) fun b1 w1 H=>(A) (Z (R ((LB H 0) ?_))))
 refine (bb hr fun y1 hy1 hr=>?_)
 refine (CA ok207 (z3Z hy1 (q0b.2 ⟨_,rfl,hI1,hI2,hI3,hI4,hS1,hS2,(rs H 1)⟩))) (cF' H fun w2 hI5 H=>(B) ?_)
 refine (bb hr fun q1 hm1 hr=>?_)
 let d1:List Value:=[.int .i64 a0.Kind,.int .i64 a0.N,.int .i64 a0.Pos,.int .i64 a0.Type_,.string a0.Symbol,.string a0.Name,.slice A1 n1 c1]
 refine cu H 5 [(1,pB b1),(2,.bool false),(10,.bool q1)] [Pr.R a0 d1,Pr.S a0.Args (.slice A1 n1 c1)] [It.B b1 58 d1] ?_ fun σ w4 H=>?_
 ·refine jD hm1 (fun _ hm1=>?_) fun _ hm1=>?_
  ·refine (G) ((LB H 0) ((G) ?_))
   refine (bb hm1 fun y2 hy2 hm1=>?_)
   exact (CA ok208 (z2u hy2 (q0b.2 ⟨_,rfl,hI1,hI2,hI3,hI4,hS1,hS2,(rs H 1)⟩))) (cF' H fun w3 hI6 H=>(G) ((B) ((T) (Z (C1 hm1)))))
  ·exact (O) ((O) ((O) ((U) (Z (C1 hm1)))))
 ·refine (bb hr fun q2 hm2 hr=>?_)
  refine cu H 4 [(2,.bool false),(14,.bool q2)] [Pr.R a0 d1,Pr.S a0.Args (.slice A1 n1 c1)] [It.B b1 58 d1] ?_ fun σ w6 H=>?_
  ·refine jB hm2 (fun _ hm2=>?_) fun _ hm2=>?_
   ·refine (G) ((LB H 0) ((G) ?_))
    refine (bb hm2 fun y3 hy3 hm2=>?_)
    exact (CA ok72 (q7z hy3 (F0:=fun q=>q < _) (q0b.2 ⟨_,rfl,hI1,hI2,hI3,hI4,hS1,hS2,(rs H 1)⟩))) (cE H fun w5 H=>(T) (Z (C1 hm2)))
   ·exact (O) ((O) ((U) (Z (C1 hm2))))
  ·exact (A) (Z (W1 hr))
def z2w (a0:Expr)(a1:Int):Option Bool:=some (decide (a0.Pos≤a1))
theorem z7i {a0}{a1}{r}(hr:z2w a0 a1=some r){ca0}(ha0:rd F0 w0 a0 ca0){b1p:Nat}(ha1:CapP F0 w0 b1p a1):RT 196 #[.agg ca0.toArray,pB b1p] w0 fun v w=>v = .bool r:=by
 have H:=(HL.start F0 w0).argR ha0
 obtain⟨A1,n1,c1,rfl,hI1,hI2,hI3,hI4,hS1,hS2,H⟩:=q0X H (i:=0) rfl
 obtain⟨cpa1,H⟩:=H.argP ha1
 obtain⟨rfl,hI5,H⟩:=op_Int H (i:=3) rfl
 refine (En Tryz.func196) ?_
 exact R ((BX H) fun b1 w1 H=>(A) (Z (R ((D 2) ((L H 0) ((L0 H 2) ((B) ((A) (Z (W1 hr))))))))))
def q4a (rec_ieveryNode_ifits_1:Expr→Int→Option Bool)(a0:Expr)(a1_0:Int):Option Bool:=(rec_ieveryNode_ifits_1 a0 a1_0).bind fun y1=>some (!y1)
theorem q8h {rec_ieveryNode_ifits_1:Expr→Int→Option Bool}(ih_ieveryNode_ifits_1:∀ {a0:Expr}{a1_0:Int}{r:Bool},rec_ieveryNode_ifits_1 a0 a1_0=some r→∀ {F0:Nat→Prop}{w0:World}{ca0}(ha0:rd F0 w0 a0 ca0){b1_0p:Nat}(ha1_0:CapP F0 w0 b1_0p a1_0),RT 72 #[.agg ca0.toArray,.func (.func 196) #[] #[pB b1_0p]] w0 fun v w=>v = .bool r){a0}{a1_0}{r}(hr:q4a rec_ieveryNode_ifits_1 a0 a1_0=some r){ca0}(ha0:rd F0 w0 a0 ca0){b1_0p:Nat}(ha1_0:CapP F0 w0 b1_0p a1_0){b1p:Nat}(ha1:F0 b1p∧At w0 b1p 0 [.func (.func 196) #[] #[pB b1_0p]]):RT 111 #[.agg ca0.toArray,pB b1p] w0 fun v w=>v = .bool r:=by
 have H:=(HL.start F0 w0).argR ha0
 obtain⟨A1,n1,c1,rfl,hI1,hI2,hI3,hI4,hS1,hS2,H⟩:=q0X H (i:=0) rfl
 obtain⟨cpa1_0,H⟩:=H.argP ha1_0
 obtain⟨rfl,hI5,H⟩:=op_Int H (i:=3) rfl
 have H:=H.argA ha1
 refine (En Tryz.func111) ?_
 refine R ((BX H) fun b1 w1 H=>(A) (Z (R ((LB H 0) ((L0 H 4) ?_)))))
 refine (bb hr fun y1 hy1 hr=>?_)
 exact (CA ok72 (ih_ieveryNode_ifits_1 hy1 (F0:=fun q=>q < _) (q0b.2 ⟨_,rfl,hI1,hI2,hI3,hI4,hS1,hS2,(rs H 1)⟩) ⟨H.rAl (i:=2) rfl,_,H.rA (i:=2) rfl,⟨rfl,hI5⟩⟩)) (cE H fun w2 H=>(N) ((A) (Z (W1 hr))))
def q1N (rec_ieveryNode_ifits_1:Expr→Int→Option Bool)(a1_0_0:Int):Nat→Expr→Unit→Option (Unit ⊕ Int):=fun k1 x1 _=>(q4a rec_ieveryNode_ifits_1 x1 a1_0_0).bind fun y1=>if y1=true then some (.inr (k1:Int)) else some (.inl ())
def q0V (rec_ieveryNode_ifits_1:Expr→Int→Option Bool)(a0:(List Expr))(a1_0_0:Int):Option Int:=(findL (q1N rec_ieveryNode_ifits_1 a1_0_0) 0 a0 ()).bind <| onr (fun r1=>some r1) fun _=>some (-1)
theorem q3A {rec_ieveryNode_ifits_1:Expr→Int→Option Bool}(ih_ieveryNode_ifits_1:∀ {a0:Expr}{a1_0:Int}{r:Bool},rec_ieveryNode_ifits_1 a0 a1_0=some r→∀ {F0:Nat→Prop}{w0:World}{ca0}(ha0:rd F0 w0 a0 ca0){b1_0p:Nat}(ha1_0:CapP F0 w0 b1_0p a1_0),RT 72 #[.agg ca0.toArray,.func (.func 196) #[] #[pB b1_0p]] w0 fun v w=>v = .bool r){a0}{a1_0_0 r}(hr:q0V rec_ieveryNode_ifits_1 a0 a1_0_0=some r){z0}(ha0:rdS F0 w0 a0 z0){b1_0_0p:Nat}(ha1_0_0:CapP F0 w0 b1_0_0p a1_0_0){b1_0p:Nat}(ha1_0:F0 b1_0p∧At w0 b1_0p 0 [.func (.func 196) #[] #[pB b1_0_0p]]):RT 71 #[z0,.func (.func 111) #[] #[pB b1_0p]] w0 fun v w=>v = .int .i64 r∧I64 r:=by
 obtain⟨A0',n0',c0',rfl⟩:=ha0.form3
 have H:=(HL.start F0 w0).argS ha0
 obtain⟨cpa1_0_0,H⟩:=H.argP ha1_0_0
 obtain⟨rfl,hI1,H⟩:=op_Int H (i:=2) rfl
 have H:=H.argA ha1_0
 refine (En Tryz.func71) ?_
 refine R ((A) (Z (Y (R ((V) ((NI H 0) fun hl1=>(V) (Z ?_)))))))
 refine (bb hr fun q1 hq1 hr=>?_)
 refine (lF hq1 (fun k1 _ _=>[(0,.slice A0' n0' c0'),(1,.func (.func 111) #[] #[pB b1_0p]),(7,zN a0.length),(8,zN k1)]) (fun _ _ w=>HL F0 [] w0 w [Pr.S a0 (.slice A0' n0' c0'),Pr.A b1_0_0p 0 [.int .i64 a1_0_0],Pr.R a1_0_0 [.int .i64 a1_0_0],Pr.A b1_0p 0 [.func (.func 196) #[] #[pB b1_0_0p]]] []) ()) ?_
 rintro k1 _ _ σ w1 hk1 hq1 H
 refine R ((B) (Z (Y ?_)))
 refine CW.condD rfl (fun h1=>?_) (fun h1=>?_)
 ·have hk2:=q0m h1
  obtain⟨x1,z1,hx1,hb1,hs1,ht1⟩:=q0y hq1 hk2
  refine K (Y ?_)
  refine CW.block (R ((V) ((A) (Z (R ((V) ((V) ((V) ?_))))))))
  obtain⟨b1,ob1,cb1,A1,n1,c1,hvb1,hI2,hI3,hI4,hI5,hS1,hS2,H⟩:=q0u H (i:=0) rfl hx1
  refine (J 7 hvb1 hx1) ((LA H 4) ?_)
  refine (bb hb1 fun y1 hy1 hb1=>?_)
  refine (CA ok111 (q8h ih_ieveryNode_ifits_1 hy1 (F0:=fun q=>q < _) (q0b.2 ⟨_,rfl,hI2,hI3,hI4,hI5,hS1,hS2,(rs H 6)⟩) ⟨H.rAl (i:=1) rfl,_,H.rA (i:=1) rfl,⟨rfl,hI1⟩⟩ ⟨H.rAl (i:=3) rfl,H.rA (i:=3) rfl⟩)) (cE H fun w2 H=>Z (iB hb1 (fun _ hb1=>?_) fun _ hb1=>?_))
  ·exact R ((V) ((A) (Z (W2 hb1 ht1 hr))))
  ·exact K (X ((AN hk2 hl1) ((V) (Z (I2 hb1 hs1 ⟨k1+1,(),()⟩)))))
 ·obtain rfl:=q0l hq1 (q0c h1)
  have hr:=(q0s _ _ _).symm.trans hr
  exact CE (R ((A) (Z (W1 hr))))
def q0N (rec_ieveryNode_ifits_1:Expr→Int→Option Bool)(a0:(List Expr))(a1_0_0:Int):Option Bool:=(q0V rec_ieveryNode_ifits_1 a0 a1_0_0).bind fun y1=>some (decide (0≤y1))
theorem q3n {rec_ieveryNode_ifits_1:Expr→Int→Option Bool}(ih_ieveryNode_ifits_1:∀ {a0:Expr}{a1_0:Int}{r:Bool},rec_ieveryNode_ifits_1 a0 a1_0=some r→∀ {F0:Nat→Prop}{w0:World}{ca0}(ha0:rd F0 w0 a0 ca0){b1_0p:Nat}(ha1_0:CapP F0 w0 b1_0p a1_0),RT 72 #[.agg ca0.toArray,.func (.func 196) #[] #[pB b1_0p]] w0 fun v w=>v = .bool r){a0}{a1_0_0}{r}(hr:q0N rec_ieveryNode_ifits_1 a0 a1_0_0=some r){z0}(ha0:rdS F0 w0 a0 z0){b1_0_0p:Nat}(ha1_0_0:CapP F0 w0 b1_0_0p a1_0_0){b1_0p:Nat}(ha1_0:F0 b1_0p∧At w0 b1_0p 0 [.func (.func 196) #[] #[pB b1_0_0p]]):RT 36 #[z0,.func (.func 111) #[] #[pB b1_0p]] w0 fun v w=>v = .bool r:=by
 obtain⟨A0',n0',c0',rfl⟩:=ha0.form3
 have H:=(HL.start F0 w0).argS ha0
 obtain⟨cpa1_0_0,H⟩:=H.argP ha1_0_0
 obtain⟨rfl,hI1,H⟩:=op_Int H (i:=2) rfl
 have H:=H.argA ha1_0
 refine (En Tryz.func36) ?_
 refine R ((A) (Z (R ((V) ((V) ?_)))))
 refine (bb hr fun y1 hy1 hr=>?_)
 exact (CA ok71 (q3A ih_ieveryNode_ifits_1 hy1 (F0:=fun q=>q < _) (rs H 0) ⟨H.rAl (i:=1) rfl,_,H.rA (i:=1) rfl,⟨rfl,hI1⟩⟩ ⟨H.rAl (i:=3) rfl,H.rA (i:=3) rfl⟩)) (cF' H fun w1 hI2 H=>(B) ((A) (Z (W1 hr))))
def q3v (rec_ieveryNode_ifits_1:Expr→Int→Option Bool)(a0:Expr)(a1_0:Int):Option Bool:=(z2w a0 a1_0).bind fun y1=>if y1=true then (q0N rec_ieveryNode_ifits_1 a0.Args a1_0).bind fun y2=>some (!y2) else some false
theorem q8A {rec_ieveryNode_ifits_1:Expr→Int→Option Bool}(ih_ieveryNode_ifits_1:∀ {a0:Expr}{a1_0:Int}{r:Bool},rec_ieveryNode_ifits_1 a0 a1_0=some r→∀ {F0:Nat→Prop}{w0:World}{ca0}(ha0:rd F0 w0 a0 ca0){b1_0p:Nat}(ha1_0:CapP F0 w0 b1_0p a1_0),RT 72 #[.agg ca0.toArray,.func (.func 196) #[] #[pB b1_0p]] w0 fun v w=>v = .bool r){a0}{a1_0}{r}(hr:q3v rec_ieveryNode_ifits_1 a0 a1_0=some r){ca0}(ha0:rd F0 w0 a0 ca0){b1_0p:Nat}(ha1_0:CapP F0 w0 b1_0p a1_0):RT 72 #[.agg ca0.toArray,.func (.func 196) #[] #[pB b1_0p]] w0 fun v w=>v = .bool r:=by
 have H:=(HL.start F0 w0).argR ha0
 obtain⟨A1,n1,c1,rfl,hI1,hI2,hI3,hI4,hS1,hS2,H⟩:=q0X H (i:=0) rfl
 obtain⟨cpa1_0,H⟩:=H.argP ha1_0
 obtain⟨rfl,hI5,H⟩:=op_Int H (i:=3) rfl
 refine (En Tryz.func72) ?_
 refine R ((BX H) fun b1 w1 H=>(BX H) fun b2 w2 H=>(A) (Z (R ((L H 1) ((LB H 0) ?_)))))
 refine (bb hr fun y1 hy1 hr=>?_)
 refine (CA ok196 (z7i hy1 (F0:=fun q=>q < _) (q0b.2 ⟨_,rfl,hI1,hI2,hI3,hI4,hS1,hS2,(rs H 1)⟩) ⟨H.rAl (i:=2) rfl,_,H.rA (i:=2) rfl,⟨rfl,hI5⟩⟩)) (cE H fun w3 H=>jB hr (fun _ hr=>?_) fun _ hr=>?_)
 ·refine (G) ((D 6) ((G) ((L H 0) ((G) ?_))))
  refine WL.ev rfl rfl (Ev.mkfL rfl rfl rfl) ((G) ?_)
  refine (bb hr fun y2 hy2 hr=>?_)
  exact (CA ok36 (q3n ih_ieveryNode_ifits_1 hy2 (F0:=fun q=>q < _) (rs H 1) ⟨H.rAl (i:=2) rfl,_,H.rA (i:=2) rfl,⟨rfl,hI5⟩⟩ ⟨(H.rB (i:=1) rfl).lt,At.blk (H.rB (i:=1) rfl)⟩)) (cE H fun w4 H=>(G) ((N) ((T) ((A) (Z (W1 hr))))))
 ·exact (O) ((O) ((O) ((O) ((O) ((U) ((A) (Z (W1 hr))))))))
def q2D:Nat→Expr→Int→Option Bool
  | 0,_,_=>none
  | n+1,a0,a1_0=>q3v (q2D n) a0 a1_0
def q4G (a0:Expr)(a1_0:Int):Option Bool:=recO fun n=>q2D n a0 a1_0
theorem q8B (n:Nat):∀ {a0:Expr}{a1_0:Int}{r:Bool},q2D n a0 a1_0=some r→∀ {F0:Nat→Prop}{w0:World}{ca0}(ha0:rd F0 w0 a0 ca0){b1_0p:Nat}(ha1_0:CapP F0 w0 b1_0p a1_0),RT 72 #[.agg ca0.toArray,.func (.func 196) #[] #[pB b1_0p]] w0 fun v w=>v = .bool r:=by
 induction n with
 | zero=>intro a0 a1_0 r hr; exact nomatch (show (none:Option Bool)=some r from hr)
 | succ n ih=>intro a0 a1_0 r hr; exact q8A ih hr
theorem q8P {a0}{a1_0}{r}(hr:q4G a0 a1_0=some r){ca0}(ha0:rd F0 w0 a0 ca0){b1_0p:Nat}(ha1_0:CapP F0 w0 b1_0p a1_0):RT 72 #[.agg ca0.toArray,.func (.func 196) #[] #[pB b1_0p]] w0 fun v w=>v = .bool r:=by
 obtain⟨n,hn⟩:=q2f hr
 exact q8B n hn ha0 ha1_0
def z0S (a0:Expr)(a1:Int):Option Bool:=(q5Z a0).bind fun y1=>if y1=true then (q4G a0 a1).bind fun y2=>some y2 else some false
theorem z4b {a0}{a1}{r}(hr:z0S a0 a1=some r){ca0}(ha0:rd F0 w0 a0 ca0)(ha1:I64 a1):RT 168 #[.agg ca0.toArray,.int .i64 a1] w0 fun v w=>v = .bool r:=by
 have H:=(HL.start F0 w0).argR ha0
 obtain⟨A1,n1,c1,rfl,hI1,hI2,hI3,hI4,hS1,hS2,H⟩:=q0X H (i:=0) rfl
 refine (En Tryz.func168) ?_
 refine R ((BX H) fun b1 w1 H=>(BX H) fun b2 w2 H=>(A) (Z (R ((LB H 0) ?_))))
 refine (bb hr fun y1 hy1 hr=>?_)
 refine (CA ok195 (z2v hy1 (q0b.2 ⟨_,rfl,hI1,hI2,hI3,hI4,hS1,hS2,(rs H 1)⟩))) (cE H fun w3 H=>jB hr (fun _ hr=>?_) fun _ hr=>?_)
 ·refine (G) ((LB H 0) ((G) ?_))
  refine WL.ev rfl rfl (Ev.mkfL rfl rfl rfl) ((G) ?_)
  refine (bb hr fun y2 hy2 hr=>?_)
  exact (CA ok72 (q8P hy2 (F0:=fun q=>q < _) (q0b.2 ⟨_,rfl,hI1,hI2,hI3,hI4,hS1,hS2,(rs H 1)⟩) ⟨(H.rB (i:=1) rfl).lt,_,At.blk (H.rB (i:=1) rfl),⟨rfl,ha1⟩⟩)) (cE H fun w4 H=>(T) ((A) (Z (W1 hr))))
 ·exact (O) ((O) ((O) ((U) ((A) (Z (W1 hr))))))
def q8Q:Nat→ByteArray→Unit→Option (Unit ⊕ Bool):=fun k1 x1 _=>(q0M x1).bind fun y3=>if y3=true then some (.inl ()) else some (.inr false)
def q8R (a0:Rule):Nat→Equation→Unit→Option (Unit ⊕ Bool):=fun k2 x2 _=>(z0S x2.Expr (a0.Right.length:Int)).bind fun y4=>( if y4=true then (q0M x2.At.Name).bind fun y5=>some (!y5) else some true ).bind fun s4=>( if s4=true then some true else (q0P x2.At.Pos 0 (a0.Right.length:Int)).bind fun y6=>some (!y6) ).bind fun s5=>if s5=true then some (.inr false) else some (.inl ())
def q8S (a0:Rule):Nat→Contribution→Unit→Option (Unit ⊕ Bool):=fun k3 x3 _=>(z0S x3.Target (a0.Right.length:Int)).bind fun y7=>( if y7=true then (z0S x3.Value (a0.Right.length:Int)).bind fun y8=>some (!y8) else some true ).bind fun s6=>( if s6=true then some true else (q0M x3.Symbol).bind fun y9=>some (!y9) ).bind fun s7=>( if s7=true then some true else (q0M x3.Name).bind fun y10=>some (!y10) ).bind fun s8=>if s8=true then some (.inr false) else some (.inl ())
def q6a (a0:Rule):Option Bool:=(q0M a0.Name).bind fun y1=>( if y1=true then (q0M a0.Left).bind fun y2=>some (!y2) else some true ).bind fun s1=>( if s1=true then some true else some (decide (3 < (a0.Right.length:Int))) ).bind fun s2=>( if s2=true then some true else some (decide (2 < (a0.Contributions.length:Int))) ).bind fun s3=>if s3=true then some false else (findL q8Q 0 a0.Right ()).bind <| onr (fun r1=>some r1) fun _=>(findL (q8R a0) 0 a0.Equations ()).bind <| onr (fun r2=>some r2) fun _=>(findL (q8S a0) 0 a0.Contributions ()).bind <| onr (fun r3=>some r3) fun _=>some true
theorem z2x {a0}{r}(hr:q6a a0=some r){ca0}(ha0:rd F0 w0 a0 ca0):RT 136 #[.agg ca0.toArray] w0 fun v w=>v = .bool r:=by
 have H:=(HL.start F0 w0).argR ha0
 obtain⟨A1,n1,c1,A2,n2,c2,A3,n3,c3,rfl,hS1,hS2,H⟩:=q0z H (i:=0) rfl
 refine (En Tryz.func136) ?_
 refine R ((BX H) fun b1 w1 H=>(A) (Z (R ((D 2) ((L H 0) ((NI H 1) fun hl1=>(A) (Z (Y (R ((D 0) ((L H 0) ?_)))))))))))
 refine (bb hr fun y1 hy1 hr=>?_)
 refine (CA ok167 (q1o hy1 (F0:=fun _=>False) hS1)) (cE H fun w2 H=>(N) ?_)
 refine (bb hr fun q1 hm1 hr=>?_)
 let d2:List Value:=[.string a0.Name,.string a0.Left,.slice A1 n1 c1,.bool a0.Literal,.slice A2 n2 c2,.slice A3 n3 c3]
 let d5:Pr:=Pr.S a0.Contributions (.slice A3 n3 c3)
 let d6:Pr:=Pr.S a0.Equations (.slice A2 n2 c2)
 let d7:Pr:=Pr.S a0.Right (.slice A1 n1 c1)
 let d4:List Pr:=[Pr.R a0 d2,d7,d6,d5]
 refine cu H 6 [(1,pB b1),(3,zN a0.Right.length),(22,.bool q1)] d4 [It.B b1 47 d2] ?_ fun σ w4 H=>?_
 ·refine jM hm1 (fun _ hm1=>?_) fun _ hm1=>?_
  ·exact (O) ((O) ((O) ((O) ((T) (Z (C1 hm1))))))
  ·refine (G) ((D 1) ((G) ((L H 0) ((G) ?_))))
   refine (bb hm1 fun y2 hy2 hm1=>?_)
   exact (CA ok167 (q1o hy2 (F0:=fun _=>False) hS2)) (cE H fun w3 H=>(G) ((N) ((U) (Z (C1 hm1)))))
 ·refine (bb hr fun q2 hm2 hr=>?_)
  refine cu H 4 [(1,pB b1),(3,zN a0.Right.length),(26,.bool q2)] d4 [It.B b1 47 d2] ?_ fun σ w5 H=>?_
  ·refine jB hm2 (fun _ hm2=>?_) fun _ hm2=>?_
   ·exact (O) ((O) ((T) (Z (C1 hm2))))
   ·exact (G) ((V) ((G) ((B) ((U) (Z (C1 hm2))))))
  ·refine (bb hr fun q3 hm3 hr=>?_)
   refine cu H 6 [(1,pB b1),(3,zN a0.Right.length),(32,.bool q3)] d4 [It.B b1 47 d2] ?_ fun σ w6 H=>?_
   ·refine jB hm3 (fun _ hm3=>?_) fun _ hm3=>?_
    ·exact (O) ((O) ((O) ((O) ((T) (Z (C1 hm3))))))
    ·exact (G) ((D 5) ((G) ((L H 0) ((G) ((NI H 3) fun hl2=>(G) ((B) ((U) (Z (C1 hm3)))))))))
   ·refine Z (iB hr (fun _ hr=>?_) fun _ hr=>?_)
    ·exact R ((A) (Z (W1 hr)))
    ·refine K (Y (R ((D 2) ((L H 0) ((NN (rs H 1)) ((V) (Z ?_)))))))
     refine (bb hr fun q4 hq1 hr=>?_)
     refine (lF hq1 (fun k1 _ _=>[(1,pB b1),(3,zN a0.Right.length),(34,.slice A1 n1 c1),(35,zN a0.Right.length),(36,zN k1)]) (fun _ _ w=>HL F0 [] w0 w d4 [It.B b1 47 d2]) ()) ?_
     rintro k1 _ _ σ w7 hk1 hq1 H
     refine R ((B) (Z (Y ?_)))
     refine CW.condD rfl (fun h5=>?_) (fun h5=>?_)
     ·have hk2:=q0m h5
      obtain⟨x1,z1,hx1,hb1,hs1,ht1⟩:=q0y hq1 hk2
      refine K (Y ?_)
      refine CW.block (R ?_)
      obtain⟨b2,ob2,cb2,hvb2,hS3,H⟩:=q8G H (i:=1) rfl hx1
      refine (J 1 hvb2 hx1) ((L0 H 4) ((A) (Z (R ((V) ?_)))))
      refine (bb hb1 fun y3 hy3 hb1=>?_)
      refine (CA ok167 (q1o hy3 (F0:=fun _=>False) hS3)) (cE H fun w8 H=>(N) (Z (iM hb1 (fun _ hb1=>?_) fun _ hb1=>?_)))
      ·exact R ((A) (Z (W2 hb1 ht1 hr)))
      ·exact K (X ((AN hk2 hl1) ((V) (Z (I2 hb1 hs1 ⟨k1+1,(),()⟩)))))
     ·obtain rfl:=q0l hq1 (q0c h5)
      have hr:=(q0s _ _ _).symm.trans hr
      refine CE (Y (R ((D 4) ((L H 0) ((NI H 2) fun hl3=>(V) (Z ?_))))))
      refine (bb hr fun q5 hq2 hr=>?_)
      refine (lF hq2 (fun k2 _ _=>[(1,pB b1),(3,zN a0.Right.length),(45,.slice A2 n2 c2),(46,zN a0.Equations.length),(47,zN k2)]) (fun _ _ w=>HL F0 [] w0 w d4 [It.B b1 47 d2]) ()) ?_
      rintro k2 _ _ σ w9 hk3 hq2 H
      refine R ((B) (Z (Y ?_)))
      refine CW.condD rfl (fun h7=>?_) (fun h7=>?_)
      ·have hk4:=q0m h7
       obtain⟨x2,z2,hx2,hb2,hs2,ht2⟩:=q0y hq2 hk4
       refine K (Y ?_)
       refine CW.block (R ?_)
       obtain⟨b3,ob3,cb3,A4,n4,c4,hvb3,hI1,hS4,hI2,hI3,hI4,hI5,hS5,hS6,H⟩:=q1B H (i:=2) rfl hx2
       refine (J 9 hvb3 hx2) ((LA H 4) ((AH ze60 H) fun b4 w10 H=>(SB H 1) fun w11 H=>Z (R ((D 2) ?_))))
       refine WL.ev rfl rfl (Ev.lda rfl ag58 sz58 rfl (Blk.part (H.rB (i:=1) rfl) 2 7) rfl) ((V) ?_)
       refine (bb hb2 fun y4 hy4 hb2=>?_)
       refine (CA ok168 (z4b hy4 (q0b.2 ⟨_,rfl,hI2,hI3,hI4,hI5,hS5,hS6,(rs H 6)⟩) hl1)) (cE H fun w12 H=>(N) ?_)
       refine (bb hb2 fun q6 hm4 hb2=>?_)
       let d3:List Value:=[.int .i64 x2.At.Pos,.string x2.At.Name,.int .i64 x2.Expr.Kind,.int .i64 x2.Expr.N,.int .i64 x2.Expr.Pos,.int .i64 x2.Expr.Type_,.string x2.Expr.Symbol,.string x2.Expr.Name,.slice A4 n4 c4]
       refine cu H 7 [(1,pB b1),(3,zN a0.Right.length),(7,pB b4),(45,.slice A2 n2 c2),(46,zN a0.Equations.length),(47,zN k2),(62,.bool q6)] [Pr.R a0 d2,d7,d6,d5,Pr.A b3 (ob3+k2*9) d3,Pr.R x2 d3,Pr.S x2.Expr.Args (.slice A4 n4 c4)] [It.B b1 47 d2,It.B b4 60 d3] ?_ fun σ w14 H=>?_
       ·refine jM hm4 (fun _ hm4=>?_) fun _ hm4=>?_
        ·exact (O) ((O) ((O) ((O) ((O) ((T) (Z (C1 hm4)))))))
        ·refine (G) ((D 0) ((G) ((D 1) ((G) ((L H 1) ((G) ?_))))))
         refine (bb hm4 fun y5 hy5 hm4=>?_)
         exact (CA ok167 (q1o hy5 (F0:=fun _=>False) hS4)) (cE H fun w13 H=>(G) ((N) ((U) (Z (C1 hm4)))))
       ·refine (bb hb2 fun q7 hm5 hb2=>?_)
        refine cu H 8 [(1,pB b1),(3,zN a0.Right.length),(45,.slice A2 n2 c2),(46,zN a0.Equations.length),(47,zN k2),(70,.bool q7)] [Pr.R a0 d2,d7,d6,d5,Pr.A b3 (ob3+k2*9) d3,Pr.R x2 d3,Pr.S x2.Expr.Args (.slice A4 n4 c4)] [It.B b1 47 d2,It.B b4 60 d3] ?_ fun σ w16 H=>?_
        ·refine jB hm5 (fun _ hm5=>?_) fun _ hm5=>?_
         ·exact (O) ((O) ((O) ((O) ((O) ((O) ((T) (Z (C1 hm5))))))))
         ·refine (G) ((D 0) ((G) ((D 0) ((G) ((L H 1) ((G) ((V) ((G) ?_))))))))
          refine (bb hm5 fun y6 hy6 hm5=>?_)
          exact (CA ok79 (q1u hy6 (F0:=fun _=>False) hI1 (by decide:I64 0) hl1)) (cE H fun w15 H=>(G) ((N) ((U) (Z (C1 hm5)))))
        ·refine Z (iB hb2 (fun _ hb2=>?_) fun _ hb2=>?_)
         ·exact R ((A) (Z (W2 hb2 ht2 hr)))
         ·exact K (X ((AN hk4 hl3) ((V) (Z (I2 hb2 hs2 ⟨k2+1,(),()⟩)))))
      ·obtain rfl:=q0l hq2 (q0c h7)
       have hr:=(q0s _ _ _).symm.trans hr
       refine CE (Y (R ((D 5) ((L H 0) ((NI H 3) fun hl4=>(V) (Z ?_))))))
       refine (bb hr fun q8 hq3 hr=>?_)
       refine (lF hq3 (fun k3 _ _=>[(3,zN a0.Right.length),(73,.slice A3 n3 c3),(74,zN a0.Contributions.length),(75,zN k3)]) (fun _ _ w=>HL F0 [] w0 w d4 [It.B b1 47 d2]) ()) ?_
       rintro k3 _ _ σ w17 hk5 hq3 H
       refine R ((B) (Z (Y ?_)))
       refine CW.condD rfl (fun h11=>?_) (fun h11=>?_)
       ·have hk6:=q0m h11
        obtain⟨x3,z3,hx3,hb3,hs3,ht3⟩:=q0y hq3 hk6
        refine K (Y ?_)
        refine CW.block (R ?_)
        obtain⟨b5,ob5,cb5,A5,n5,c5,A6,n6,c6,hvb5,hS7,hS8,hI6,hI7,hI8,hI9,hS9,hS10,hI10,hI11,hI12,hI13,hS11,hS12,H⟩:=q3i H (i:=3) rfl hx3
        refine (J 16 hvb5 hx3) ((LA H 4) ((AH ze111 H) fun b6 w18 H=>(SB H 1) fun w19 H=>Z (R ((D 2) ?_))))
        refine WL.ev rfl rfl (Ev.lda rfl ag58 sz58 rfl (Blk.part (H.rB (i:=1) rfl) 2 7) rfl) ((V) ?_)
        refine (bb hb3 fun y7 hy7 hb3=>?_)
        refine (CA ok168 (z4b hy7 (q0b.2 ⟨_,rfl,hI6,hI7,hI8,hI9,hS9,hS10,(rs H 6)⟩) hl1)) (cE H fun w20 H=>(N) ?_)
        refine (bb hb3 fun q9 hm6 hb3=>?_)
        let d1:List Value:=[.string x3.Symbol,.string x3.Name,.int .i64 x3.Target.Kind,.int .i64 x3.Target.N,.int .i64 x3.Target.Pos,.int .i64 x3.Target.Type_,.string x3.Target.Symbol,.string x3.Target.Name,.slice A5 n5 c5,.int .i64 x3.Value.Kind,.int .i64 x3.Value.N,.int .i64 x3.Value.Pos,.int .i64 x3.Value.Type_,.string x3.Value.Symbol,.string x3.Value.Name,.slice A6 n6 c6]
        let d8:Pr:=Pr.S x3.Target.Args (.slice A5 n5 c5)
        let d9:Pr:=Pr.S x3.Value.Args (.slice A6 n6 c6)
        refine cu H 7 [(3,zN a0.Right.length),(9,pB b6),(73,.slice A3 n3 c3),(74,zN a0.Contributions.length),(75,zN k3),(90,.bool q9)] [Pr.R a0 d2,d7,d6,d5,Pr.A b5 (ob5+k3*16) d1,Pr.R x3 d1,d8,d9] [It.B b1 47 d2,It.B b6 111 d1] ?_ fun σ w22 H=>?_
        ·refine jM hm6 (fun _ hm6=>?_) fun _ hm6=>?_
         ·exact (O) ((O) ((O) ((O) ((O) ((T) (Z (C1 hm6)))))))
         ·refine (G) ((D 9) ((G) ?_))
          refine WL.ev rfl rfl (Ev.lda rfl ag58 sz58 rfl (Blk.part (H.rB (i:=1) rfl) 9 7) rfl) ((G) ((V) ((G) ?_)))
          refine (bb hm6 fun y8 hy8 hm6=>?_)
          exact (CA ok168 (z4b hy8 (q0b.2 ⟨_,rfl,hI10,hI11,hI12,hI13,hS11,hS12,(rs H 7)⟩) hl1)) (cE H fun w21 H=>(G) ((N) ((U) (Z (C1 hm6)))))
        ·refine (bb hb3 fun q10 hm7 hb3=>?_)
         refine cu H 6 [(3,zN a0.Right.length),(9,pB b6),(73,.slice A3 n3 c3),(74,zN a0.Contributions.length),(75,zN k3),(96,.bool q10)] [Pr.R a0 d2,d7,d6,d5,Pr.A b5 (ob5+k3*16) d1,Pr.R x3 d1,d8,d9] [It.B b1 47 d2,It.B b6 111 d1] ?_ fun σ w24 H=>?_
         ·refine jB hm7 (fun _ hm7=>?_) fun _ hm7=>?_
          ·exact (O) ((O) ((O) ((O) ((T) (Z (C1 hm7))))))
          ·refine (G) ((D 0) ((G) ((L H 1) ((G) ?_))))
           refine (bb hm7 fun y9 hy9 hm7=>?_)
           exact (CA ok167 (q1o hy9 (F0:=fun _=>False) hS7)) (cE H fun w23 H=>(G) ((N) ((U) (Z (C1 hm7)))))
         ·refine (bb hb3 fun q11 hm8 hb3=>?_)
          refine cu H 6 [(3,zN a0.Right.length),(73,.slice A3 n3 c3),(74,zN a0.Contributions.length),(75,zN k3),(102,.bool q11)] [Pr.R a0 d2,d7,d6,d5,Pr.A b5 (ob5+k3*16) d1,Pr.R x3 d1,d8,d9] [It.B b1 47 d2,It.B b6 111 d1] ?_ fun σ w26 H=>?_
          ·refine jB hm8 (fun _ hm8=>?_) fun _ hm8=>?_
           ·exact (O) ((O) ((O) ((O) ((T) (Z (C1 hm8))))))
           ·refine (G) ((D 1) ((G) ((L H 1) ((G) ?_))))
            refine (bb hm8 fun y10 hy10 hm8=>?_)
            exact (CA ok167 (q1o hy10 (F0:=fun _=>False) hS8)) (cE H fun w25 H=>(G) ((N) ((U) (Z (C1 hm8)))))
          ·refine Z (iB hb3 (fun _ hb3=>?_) fun _ hb3=>?_)
           ·exact R ((A) (Z (W2 hb3 ht3 hr)))
           ·exact K (X ((AN hk6 hl4) ((V) (Z (I2 hb3 hs3 ⟨k3+1,(),()⟩)))))
       ·obtain rfl:=q0l hq3 (q0c h11)
        have hr:=(q0s _ _ _).symm.trans hr
        exact CE (R ((A) (Z (W1 hr))))
def q6U (a0 a1:Rule):Option Bool:=some (decide (a0.Name=a1.Name))
theorem z1A {a0 a1}{r}(hr:q6U a0 a1=some r){ca0}(ha0:rd F0 w0 a0 ca0){b1p:Nat}(ha1:CapP F0 w0 b1p a1):RT 137 #[.agg ca0.toArray,pB b1p] w0 fun v w=>v = .bool r:=by
 have H:=(HL.start F0 w0).argR ha0
 obtain⟨A1,n1,c1,A2,n2,c2,A3,n3,c3,rfl,hS1,hS2,H⟩:=q0z H (i:=0) rfl
 obtain⟨cpa1,H⟩:=H.argP ha1
 obtain⟨A4,n4,c4,A5,n5,c5,A6,n6,c6,rfl,hS3,hS4,H⟩:=q0z H (i:=5) rfl
 refine (En Tryz.func137) ?_
 exact R ((BX H) fun b1 w1 H=>(A) (Z (R ((D 0) ((L H 0) ((D 0) ((LC H 4) ((B) ((A) (Z (W1 hr)))))))))))
def q2y (a1_0:Rule):Nat→Rule→Unit→Option (Unit ⊕ Int):=fun k1 x1 _=>(q6U x1 a1_0).bind fun y1=>if y1=true then some (.inr (k1:Int)) else some (.inl ())
def q1x (a0:(List Rule))(a1_0:Rule):Option Int:=(findL (q2y a1_0) 0 a0 ()).bind <| onr (fun r1=>some r1) fun _=>some (-1)
theorem q4B {a0}{a1_0}{r}(hr:q1x a0 a1_0=some r){z0}(ha0:rdS F0 w0 a0 z0){b1_0p:Nat}(ha1_0:CapP F0 w0 b1_0p a1_0):RT 70 #[z0,.func (.func 137) #[] #[pB b1_0p]] w0 fun v w=>v = .int .i64 r∧I64 r:=by
 obtain⟨A0',n0',c0',rfl⟩:=ha0.form3
 have H:=(HL.start F0 w0).argS ha0
 obtain⟨cpa1_0,H⟩:=H.argP ha1_0
 obtain⟨A1,n1,c1,A2,n2,c2,A3,n3,c3,rfl,hS1,hS2,H⟩:=q0z H (i:=2) rfl
 refine (En Tryz.func70) ?_
 refine R ((A) (Z (Y (R ((V) ((NI H 0) fun hl1=>(V) (Z ?_)))))))
 refine (bb hr fun q1 hq1 hr=>?_)
 let d1:List Value:=[.string a1_0.Name,.string a1_0.Left,.slice A1 n1 c1,.bool a1_0.Literal,.slice A2 n2 c2,.slice A3 n3 c3]
 refine (lF hq1 (fun k1 _ _=>[(0,.slice A0' n0' c0'),(1,.func (.func 137) #[] #[pB b1_0p]),(7,zN a0.length),(8,zN k1)]) (fun _ _ w=>HL F0 [] w0 w [Pr.S a0 (.slice A0' n0' c0'),Pr.A b1_0p 0 d1,Pr.R a1_0 d1,Pr.S a1_0.Right (.slice A1 n1 c1),Pr.S a1_0.Equations (.slice A2 n2 c2),Pr.S a1_0.Contributions (.slice A3 n3 c3)] []) ()) ?_
 rintro k1 _ _ σ w1 hk1 hq1 H
 refine R ((B) (Z (Y ?_)))
 refine CW.condD rfl (fun h1=>?_) (fun h1=>?_)
 ·have hk2:=q0m h1
  obtain⟨x1,z1,hx1,hb1,hs1,ht1⟩:=q0y hq1 hk2
  refine K (Y ?_)
  refine CW.block (R ((V) ((A) (Z (R ((V) ((V) ((V) ?_))))))))
  obtain⟨b1,ob1,cb1,A4,n4,c4,A5,n5,c5,A6,n6,c6,hvb1,hS3,hS4,H⟩:=q4W H (i:=0) rfl hx1
  refine (J 6 hvb1 hx1) ((LA H 6) ?_)
  refine (bb hb1 fun y1 hy1 hb1=>?_)
  refine (CA ok137 (z1A hy1 (F0:=fun q=>q < _) ⟨_,_,_,rfl,hS3,hS4,(rs H 8),(rs H 9),(rs H 10)⟩ ⟨H.rAl (i:=1) rfl,_,H.rA (i:=1) rfl,⟨_,_,_,rfl,hS1,hS2,(rs H 3),(rs H 4),(rs H 5)⟩⟩)) (cE H fun w2 H=>Z (iB hb1 (fun _ hb1=>?_) fun _ hb1=>?_))
  ·exact R ((V) ((A) (Z (W2 hb1 ht1 hr))))
  ·exact K (X ((AN hk2 hl1) ((V) (Z (I2 hb1 hs1 ⟨k1+1,(),()⟩)))))
 ·obtain rfl:=q0l hq1 (q0c h1)
  have hr:=(q0s _ _ _).symm.trans hr
  exact CE (R ((A) (Z (W1 hr))))
def q1i (a0:(List Rule))(a1_0:Rule):Option Bool:=(q1x a0 a1_0).bind fun y1=>some (decide (0≤y1))
theorem q4b {a0}{a1_0}{r}(hr:q1i a0 a1_0=some r){z0}(ha0:rdS F0 w0 a0 z0){b1_0p:Nat}(ha1_0:CapP F0 w0 b1_0p a1_0):RT 34 #[z0,.func (.func 137) #[] #[pB b1_0p]] w0 fun v w=>v = .bool r:=by
 obtain⟨A0',n0',c0',rfl⟩:=ha0.form3
 have H:=(HL.start F0 w0).argS ha0
 obtain⟨cpa1_0,H⟩:=H.argP ha1_0
 obtain⟨A1,n1,c1,A2,n2,c2,A3,n3,c3,rfl,hS1,hS2,H⟩:=q0z H (i:=2) rfl
 refine (En Tryz.func34) ?_
 refine R ((A) (Z (R ((V) ((V) ?_)))))
 refine (bb hr fun y1 hy1 hr=>?_)
 exact (CA ok70 (q4B hy1 (F0:=fun q=>q < _) (rs H 0) ⟨H.rAl (i:=1) rfl,_,H.rA (i:=1) rfl,⟨_,_,_,rfl,hS1,hS2,(rs H 3),(rs H 4),(rs H 5)⟩⟩)) (cF' H fun w1 hI1 H=>(B) ((A) (Z (W1 hr))))
def q6b (a0:Grammar):Nat→Symbol→Unit→Option (Unit ⊕ Int):=fun k1 x1 _=>(q5c x1).bind fun y1=>if y1=true then grd (k1≤a0.Symbols.length) <| (q1a (a0.Symbols.take k1) x1).bind fun y2=>if y2=true then some (.inr (k1:Int)) else some (.inl ()) else some (.inr (k1:Int))
def q6c (a0:Grammar):Nat→Rule→Unit→Option (Unit ⊕ Int):=fun k2 x2 _=>(q6a x2).bind fun y3=>if y3=true then grd (k2≤a0.Rules.length) <| (q1i (a0.Rules.take k2) x2).bind fun y4=>if y4=true then some (.inr (k2:Int)) else some (.inl ()) else some (.inr (k2:Int))
def q6y (a0:Grammar):Option Int:=(findL (q6b a0) 0 a0.Symbols ()).bind <| onr (fun r1=>some r1) fun _=>(findL (q6c a0) 0 a0.Rules ()).bind <| onr (fun r2=>some r2) fun _=>some (-1)
theorem z3k {a0}{r}(hr:q6y a0=some r){ca0}(ha0:rd F0 w0 a0 ca0):RT 103 #[.agg ca0.toArray] w0 fun v w=>v = .int .i64 r∧I64 r:=by
 have H:=(HL.start F0 w0).argR ha0
 obtain⟨A1,n1,c1,A2,n2,c2,rfl,H⟩:=q0e H (i:=0) rfl
 refine (En Tryz.func103) ?_
 refine R ((BX H) fun b1 w1 H=>(A) (Z (Y (R ((D 0) ((L H 0) ((NI H 1) fun hl1=>(V) (Z ?_))))))))
 refine (bb hr fun q1 hq1 hr=>?_)
 let d2:List Value:=[.slice A1 n1 c1,.slice A2 n2 c2]
 let d1:List Pr:=[Pr.R a0 d2,Pr.S a0.Symbols (.slice A1 n1 c1),Pr.S a0.Rules (.slice A2 n2 c2)]
 refine (lF hq1 (fun k1 _ _=>[(1,pB b1),(8,.slice A1 n1 c1),(9,zN a0.Symbols.length),(10,zN k1)]) (fun _ _ w=>HL F0 [] w0 w d1 [It.B b1 31 d2]) ()) ?_
 rintro k1 _ _ σ w2 hk1 hq1 H
 refine R ((B) (Z (Y ?_)))
 refine CW.condD rfl (fun h1=>?_) (fun h1=>?_)
 ·have hk2:=q0m h1
  obtain⟨x1,z1,hx1,hb1,hs1,ht1⟩:=q0y hq1 hk2
  refine K (Y ?_)
  refine CW.block (R ((V) ?_))
  obtain⟨b2,ob2,cb2,A3,n3,c3,hvb2,hS1,H⟩:=q2w H (i:=1) rfl hx1
  refine (J 2 hvb2 hx1) ((LA H 3) ((AH ze39 H) fun b3 w3 H=>(A) ((SB H 1) fun w4 H=>Z (R ((LB H 1) ?_)))))
  refine (bb hb1 fun y1 hy1 hb1=>?_)
  refine (CA ok134 (z0R hy1 ⟨_,rfl,hS1,(rs H 5)⟩)) (cE H fun w5 H=>(N) (jM hb1 (fun _ hb1=>?_) fun _ hb1=>?_))
  ·exact (O) ((O) ((O) ((O) ((O) ((O) ((T) (Z ((cT) (R ((V) ((A) (Z (W2 hb1 ht1 hr)))))))))))))
  ·refine (G) ((D 0) ((G) ((L H 0) ((G) ((V) ((G) ?_))))))
   refine (gg hb1 fun hg1 hb1=>?_)
   obtain⟨A4,n4,c4,e1,hc1,H⟩:=H.slH (i:=1) rfl hg1
   refine WL.ev rfl rfl (Ev.slHV rfl el28 sz39 rfl rfl rfl hc1 e1) ((G) ?_)
   refine WL.ev rfl rfl (Ev.mkfL rfl rfl rfl) ((G) ?_)
   refine (bb hb1 fun y2 hy2 hb1=>?_)
   refine (CA ok39 (q3Q hy2 (F0:=fun q=>q < _) (rs H 6) ⟨(H.rB (i:=1) rfl).lt,_,At.blk (H.rB (i:=1) rfl),⟨_,rfl,hS1,(rs H 5)⟩⟩)) (cE H fun w6 H=>(U) (Z (iB hb1 (fun _ hb1=>?_) fun _ hb1=>?_)))
   ·exact R ((V) ((A) (Z (W2 hb1 ht1 hr))))
   ·exact K (X ((AN hk2 hl1) ((V) (Z (I2 hb1 hs1 ⟨k1+1,(),()⟩)))))
 ·obtain rfl:=q0l hq1 (q0c h1)
  have hr:=(q0s _ _ _).symm.trans hr
  refine CE (Y (R ((D 1) ((L H 0) ((NI H 2) fun hl2=>(V) (Z ?_))))))
  refine (bb hr fun q2 hq2 hr=>?_)
  refine (lF hq2 (fun k2 _ _=>[(1,pB b1),(29,.slice A2 n2 c2),(30,zN a0.Rules.length),(31,zN k2)]) (fun _ _ w=>HL F0 [] w0 w d1 [It.B b1 31 d2]) ()) ?_
  rintro k2 _ _ σ w7 hk3 hq2 H
  refine R ((B) (Z (Y ?_)))
  refine CW.condD rfl (fun h4=>?_) (fun h4=>?_)
  ·have hk4:=q0m h4
   obtain⟨x2,z2,hx2,hb2,hs2,ht2⟩:=q0y hq2 hk4
   refine K (Y ?_)
   refine CW.block (R ((V) ?_))
   obtain⟨b4,ob4,cb4,A5,n5,c5,A6,n6,c6,A7,n7,c7,hvb4,hS2,hS3,H⟩:=q4W H (i:=2) rfl hx2
   refine (J 6 hvb4 hx2) ((LA H 3) ((AH ze47 H) fun b5 w8 H=>(A) ((SB H 1) fun w9 H=>Z (R ((LB H 1) ?_)))))
   refine (bb hb2 fun y3 hy3 hb2=>?_)
   refine (CA ok136 (z2x hy3 ⟨_,_,_,rfl,hS2,hS3,(rs H 5),(rs H 6),(rs H 7)⟩)) (cE H fun w10 H=>(N) (jM hb2 (fun _ hb2=>?_) fun _ hb2=>?_))
   ·exact (O) ((O) ((O) ((O) ((O) ((O) ((T) (Z ((cT) (R ((V) ((A) (Z (W2 hb2 ht2 hr)))))))))))))
   ·refine (G) ((D 1) ((G) ((L H 0) ((G) ((V) ((G) ?_))))))
    refine (gg hb2 fun hg2 hb2=>?_)
    obtain⟨A8,n8,c8,e2,hc2,H⟩:=H.slH (i:=2) rfl hg2
    refine WL.ev rfl rfl (Ev.slHV rfl el29 sz47 rfl rfl rfl hc2 e2) ((G) ?_)
    refine WL.ev rfl rfl (Ev.mkfL rfl rfl rfl) ((G) ?_)
    refine (bb hb2 fun y4 hy4 hb2=>?_)
    refine (CA ok34 (q4b hy4 (F0:=fun q=>q < _) (rs H 8) ⟨(H.rB (i:=1) rfl).lt,_,At.blk (H.rB (i:=1) rfl),⟨_,_,_,rfl,hS2,hS3,(rs H 5),(rs H 6),(rs H 7)⟩⟩)) (cE H fun w11 H=>(U) (Z (iB hb2 (fun _ hb2=>?_) fun _ hb2=>?_)))
    ·exact R ((V) ((A) (Z (W2 hb2 ht2 hr))))
    ·exact K (X ((AN hk4 hl2) ((V) (Z (I2 hb2 hs2 ⟨k2+1,(),()⟩)))))
  ·obtain rfl:=q0l hq2 (q0c h4)
   have hr:=(q0s _ _ _).symm.trans hr
   exact CE (R ((A) (Z (W1 hr))))
def q6V (a0:Attribute):Option Bool:=some (decide (a0.Mode=1))
theorem z1B {a0}{r}(hr:q6V a0=some r){ca0}(ha0:rd F0 w0 a0 ca0):RT 104 #[.agg ca0.toArray] w0 fun v w=>v = .bool r:=by
 have H:=(HL.start F0 w0).argR ha0
 obtain⟨rfl,hS1,hI1,hI2,H⟩:=q3G H (i:=0) rfl
 refine (En Tryz.func104) ?_
 exact R ((BX H) fun b1 w1 H=>(A) (Z (R ((D 2) ((L H 0) ((B) ((A) (Z (W1 hr)))))))))
def q1X:Nat→Attribute→Unit→Option (Unit ⊕ Int):=fun k1 x1 _=>(q6V x1).bind fun y1=>if y1=true then some (.inr (k1:Int)) else some (.inl ())
def q1b (a0:(List Attribute)):Option Int:=(findL q1X 0 a0 ()).bind <| onr (fun r1=>some r1) fun _=>some (-1)
theorem q3R {a0}{r}(hr:q1b a0=some r){z0}(ha0:rdS F0 w0 a0 z0):RT 75 #[z0,.func (.func 104) #[] #[]] w0 fun v w=>v = .int .i64 r∧I64 r:=by
 obtain⟨A0',n0',c0',rfl⟩:=ha0.form3
 have H:=(HL.start F0 w0).argS ha0
 refine (En Tryz.func75) ?_
 refine R ((A) (Z (Y (R ((V) ((NI H 0) fun hl1=>(V) (Z ?_)))))))
 refine (bb hr fun q1 hq1 hr=>?_)
 refine (lF hq1 (fun k1 _ _=>[(0,.slice A0' n0' c0'),(1,.func (.func 104) #[] #[]),(7,zN a0.length),(8,zN k1)]) (fun _ _ w=>HL F0 [] w0 w [Pr.S a0 (.slice A0' n0' c0')] []) ()) ?_
 rintro k1 _ _ σ w1 hk1 hq1 H
 refine R ((B) (Z (Y ?_)))
 refine CW.condD rfl (fun h1=>?_) (fun h1=>?_)
 ·have hk2:=q0m h1
  obtain⟨x1,z1,hx1,hb1,hs1,ht1⟩:=q0y hq1 hk2
  refine K (Y ?_)
  refine CW.block (R ((V) ((A) (Z (R ((V) ((V) ((V) ?_))))))))
  obtain⟨b1,ob1,cb1,hvb1,hS1,hI1,hI2,H⟩:=q1U H (i:=0) rfl hx1
  refine (J 4 hvb1 hx1) ((LA H 1) ?_)
  refine (bb hb1 fun y1 hy1 hb1=>?_)
  refine (CA ok104 (z1B hy1 (F0:=fun _=>False) ⟨rfl,hS1,hI1,hI2⟩)) (cE H fun w2 H=>Z (iB hb1 (fun _ hb1=>?_) fun _ hb1=>?_))
  ·exact R ((V) ((A) (Z (W2 hb1 ht1 hr))))
  ·exact K (X ((AN hk2 hl1) ((V) (Z (I2 hb1 hs1 ⟨k1+1,(),()⟩)))))
 ·obtain rfl:=q0l hq1 (q0c h1)
  have hr:=(q0s _ _ _).symm.trans hr
  exact CE (R ((A) (Z (W1 hr))))
def q0S (a0:(List Attribute)):Option Bool:=(q1b a0).bind fun y1=>some (decide (0≤y1))
theorem q3s {a0}{r}(hr:q0S a0=some r){z0}(ha0:rdS F0 w0 a0 z0):RT 41 #[z0,.func (.func 104) #[] #[]] w0 fun v w=>v = .bool r:=by
 obtain⟨A0',n0',c0',rfl⟩:=ha0.form3
 have H:=(HL.start F0 w0).argS ha0
 refine (En Tryz.func41) ?_
 refine R ((A) (Z (R ((V) ((V) ?_)))))
 refine (bb hr fun y1 hy1 hr=>?_)
 exact (CA ok75 (q3R hy1 (F0:=fun q=>q < _) (rs H 0))) (cF' H fun w1 hI1 H=>(B) ((A) (Z (W1 hr))))
def q4r (a0:Rule)(a1:Int):Option ByteArray:=if a1=0 then some a0.Left else (q0P a1 1 (a0.Right.length:Int)).bind fun y1=>if y1=true then grd (I64 (a1 - 1)) <| grd (0≤(a1 - 1)) <| (a0.Right[(a1 - 1).toNat]?).bind fun x1=>some x1 else some (⟨#[]⟩:ByteArray)
theorem q4s {a0}{a1}{r}(hr:q4r a0 a1=some r){ca0}(ha0:rd F0 w0 a0 ca0)(ha1:I64 a1):RT 78 #[.agg ca0.toArray,.int .i64 a1] w0 fun v w=>v = .string r∧r.size≤9223372036854775807:=by
 have H:=(HL.start F0 w0).argR ha0
 obtain⟨A1,n1,c1,A2,n2,c2,A3,n3,c3,rfl,hS1,hS2,H⟩:=q0z H (i:=0) rfl
 refine (En Tryz.func78) ?_
 refine R ((BX H) fun b1 w1 H=>(A) (Z (Y ?_)))
 refine CW.block (R ((V) ((B) ((A) (Z (iD hr (fun _ hr=>?_) fun _ hr=>?_))))))
 ·exact R ((D 1) ((L H 0) ((A) (Z (W1 hr)))))
 ·refine R ((V) ((D 2) ((L H 0) ((NI H 1) fun hl1=>?_))))
  refine (bb hr fun y1 hy1 hr=>?_)
  refine (CA ok79 (q1u hy1 (F0:=fun _=>False) ha1 (by decide:I64 1) hl1)) (cE H fun w2 H=>(A) (Z (iB hr (fun _ hr=>?_) fun _ hr=>?_)))
  ·refine R ((D 2) ((L H 0) ((V) ?_)))
   refine (gg hr fun hg1 hr=>(BN (Bin.sub hg1)) ?_)
   refine (gg hr fun hg2 hr=>?_)
   refine (bb hr fun x1 hx1 hr=>?_)
   obtain⟨b2,ob2,cb2,hvb2,hS3,H⟩:=q8G H (i:=1) rfl hx1
   exact WL.ev rfl rfl (Ev.ixV rfl el43 sz9 rfl hvb2 rfl hg2 (lt_of hx1)) ((L0 H 4) ((A) (Z (W1 hr))))
  ·exact K (R ((A) (Z (W1 hr))))
def q4O (a1:ByteArray):Nat→Symbol→Unit→Option (Unit ⊕ (Symbol × Bool)):=fun k1 x1 _=>if x1.Name=a1 then some (.inr (x1,true)) else some (.inl ())
def q1Y (a0:Grammar)(a1:ByteArray):Option (Symbol × Bool):=(findL (q4O a1) 0 a0.Symbols ()).bind <| onr (fun r1=>some r1) fun _=>some ((⟨(⟨#[]⟩:ByteArray),[]⟩:Symbol),false)
theorem q3Z {a0}{a1}{r}(hr:q1Y a0 a1=some r){ca0}(ha0:rd F0 w0 a0 ca0)(ha1:a1.size≤9223372036854775807):RT 80 #[.agg ca0.toArray,.string a1] w0 fun v w=>∃ A0 n0 c0,v = .tuple #[.agg #[.string r.1.Name,(.slice A0 n0 c0)],.bool r.2]∧r.1.Name.size≤9223372036854775807∧HL F0 [] w0 w [Pr.S r.1.Attributes (.slice A0 n0 c0)] []:=by
 have H:=(HL.start F0 w0).argR ha0
 obtain⟨A1,n1,c1,A2,n2,c2,rfl,H⟩:=q0e H (i:=0) rfl
 refine (En Tryz.func80) ?_
 refine R ((BX H) fun b1 w1 H=>(AH ze39 H) fun b2 w2 H=>(A) (Z (Y (R ((D 0) ((L H 0) ((NI H 1) fun hl1=>(V) (Z ?_))))))))
 refine (bb hr fun q1 hq1 hr=>?_)
 refine (lF hq1 (fun k1 _ _=>[(1,.string a1),(4,pB b2),(9,.slice A1 n1 c1),(10,zN a0.Symbols.length),(11,zN k1)]) (fun _ _ w=>HL F0 [] w0 w [Pr.R a0 [.slice A1 n1 c1,.slice A2 n2 c2],Pr.S a0.Symbols (.slice A1 n1 c1),Pr.S a0.Rules (.slice A2 n2 c2)] [It.B b1 31 [.slice A1 n1 c1,.slice A2 n2 c2],It.B b2 39 [.string (⟨#[]⟩:ByteArray),.slice none 0 0]]) ()) ?_
 rintro k1 _ _ σ w3 hk1 hq1 H
 refine R ((B) (Z (Y ?_)))
 refine CW.condD rfl (fun h1=>?_) (fun h1=>?_)
 ·have hk2:=q0m h1
  obtain⟨x1,z1,hx1,hb1,hs1,ht1⟩:=q0y hq1 hk2
  refine K (Y ?_)
  refine CW.block (R ?_)
  obtain⟨b3,ob3,cb3,A3,n3,c3,hvb3,hS1,H⟩:=q2w H (i:=1) rfl hx1
  refine (J 2 hvb3 hx1) ((LA H 3) ((AH ze39 H) fun b4 w4 H=>(SB H 2) fun w5 H=>Z (R ((D 0) ((L H 2) ((V) ((B) (Z (iD hb1 (fun _ hb1=>?_) fun _ hb1=>?_)))))))))
  ·refine R ((LB H 2) ((SB H 1) fun w6 H=>(A) (Z (CR ?_))))
   obtain rfl:=sm hb1
   obtain rfl:=ht1 _ rfl
   obtain rfl:=sm hr
   exact⟨_,resC1 rfl ag39 sz39 rfl rfl rfl rfl (At.blk (H.rB (i:=1) rfl)) rfl,H.ext0,_,_,_,rfl,hS1,H.outM (fr':=[Pr.S x1.Attributes (.slice A3 n3 c3)]) [false,false,false] fun _ h=>⟨h.get (i:=5) rfl,trivial⟩⟩
  ·exact K (X ((AN hk2 hl1) ((V) (Z (I2 hb1 hs1 ⟨k1+1,(),()⟩)))))
 ·obtain rfl:=q0l hq1 (q0c h1)
  have hr:=(q0s _ _ _).symm.trans hr
  refine CE (R ?_)
  refine WL.ev rfl rfl (Ev.build rfl pl39 ze39 rfl rfl rfl rfl) ((SB H 1) fun w7 H=>(A) (Z (CR ?_)))
  have H:=H.nilS (α:=Attribute)
  obtain rfl:=sm hr
  exact⟨_,resC1 rfl ag39 sz39 rfl rfl rfl rfl (At.blk (H.rB (i:=1) rfl)) rfl,H.ext0,_,_,_,rfl,(by decide:(⟨#[]⟩:ByteArray).size≤9223372036854775807),H.outM (fr':=[Pr.S ([]:List Attribute) (.slice none 0 0)]) [false,false] fun _ h=>⟨h.get (i:=3) rfl,trivial⟩⟩
def z2y (a0:Grammar)(a1:Rule):Nat→Unit→Option (Unit ⊕ Bool):=fun k1 _=>(q4r a1 (k1:Int)).bind fun y1=>(q1Y a0 y1).bind fun (y2,y3)=>if y3=true then some (.inl ()) else some (.inr true)
def q9m (a0:Grammar)(a1:Rule):Option Bool:=grd (I64 ((a1.Right.length+1:Nat):Int)) <| (findN (z2y a0 a1) 0 ((a1.Right.length+1)) ()).bind <| onr (fun r1=>some r1) fun _=>some false
theorem z5K {a0}{a1}{r}(hr:q9m a0 a1=some r){ca0}(ha0:rd F0 w0 a0 ca0){ca1}(ha1:rd F0 w0 a1 ca1):RT 105 #[.agg ca0.toArray,.agg ca1.toArray] w0 fun v w=>v = .bool r:=by
 have H:=((HL.start F0 w0).argR ha0).argR ha1
 obtain⟨A1,n1,c1,A2,n2,c2,rfl,H⟩:=q0e H (i:=0) rfl
 obtain⟨A3,n3,c3,A4,n4,c4,A5,n5,c5,rfl,hS1,hS2,H⟩:=q0z H (i:=1) rfl
 refine (En Tryz.func105) ?_
 refine R ((BX H) fun b1 w1 H=>(BX H) fun b2 w2 H=>(A) (Z (Y (R ((D 2) ((L H 1) ((NI H 4) fun hl1=>?_)))))))
 refine (gg hr fun hg1 hr=>?_)
 refine (BN (Bin.addN (a:=a1.Right.length) (b:=1) rfl hg1)) ((V) (Z ?_))
 refine (bb hr fun q1 hq1 hr=>?_)
 let d1:List Value:=[.string a1.Name,.string a1.Left,.slice A3 n3 c3,.bool a1.Literal,.slice A4 n4 c4,.slice A5 n5 c5]
 refine (lM hq1 (fun k1 _ _=>[(2,pB b1),(3,pB b2),(11,.int .i64 ((a1.Right.length+1:Nat):Int)),(12,zN k1)]) (fun _ _ w=>HL F0 [] w0 w [Pr.R a0 [.slice A1 n1 c1,.slice A2 n2 c2],Pr.R a1 d1,Pr.S a0.Symbols (.slice A1 n1 c1),Pr.S a0.Rules (.slice A2 n2 c2),Pr.S a1.Right (.slice A3 n3 c3),Pr.S a1.Equations (.slice A4 n4 c4),Pr.S a1.Contributions (.slice A5 n5 c5)] [It.B b1 31 [.slice A1 n1 c1,.slice A2 n2 c2],It.B b2 47 d1]) ()) ?_
 rintro k1 _ _ σ w3 hk1 hq1 H
 refine R ((B) (Z (Y ?_)))
 refine CW.condD rfl (fun h1=>?_) (fun h1=>?_)
 ·have hk2:=q0m h1
  obtain⟨z1,hb1,hs1,ht1⟩:=z3H hq1 hk2
  refine K (Y ?_)
  refine CW.block (R ((V) ((A) (Z ?_))))
  refine (bb hb1 fun y1 hy1 hb1=>?_)
  obtain⟨_,_,_,hS3⟩:=(q4s hy1 ⟨_,_,_,rfl,hS1,hS2,(rs H 4),(rs H 5),(rs H 6)⟩ (q7R hk2 hg1)).get
  obtain⟨⟨y2,y3⟩,hy2,hb1⟩:=bd hb1
  obtain⟨F_G1,hFl_G1,hF_G1,hcl_G1⟩:=H.callL
  refine Y ?_
  refine CW.any2 10 (fun ρ=>[.fix (.agg #[.slice A1 n1 c1,.slice A2 n2 c2]),.fix (.agg #[.string a1.Name,.string a1.Left,.slice A3 n3 c3,.bool a1.Literal,.slice A4 n4 c4,.slice A5 n5 c5]),.fix (zN k1),.fix (.string y1),.free (fun S v w=>∃ A6:Option Addr,∃ n6:Nat,∃ c6:Nat,v = .tuple #[.agg #[.string y2.Name,.slice A6 n6 c6],.bool y3]∧y2.Name.size≤9223372036854775807∧NewV F_G1 w3 S w [Pr.S y2.Attributes (.slice A6 n6 c6)] []),.dep 20 id,.dep 15 (tupAt 0),.dep 15 (tupAt 1),.free (VarB 39 2),.wr 6 21 (WrB 39)]) [[],[],[],[],[],[20],[15],[15],[],[6,21]] NoM (fun _ _=>True) [] [none,none,none,none,none,none,none,none,none,some 8] (noM _) hmix (by kernel_rfl) rfl ⟨trivial,trivial,trivial,trivial,fun _ _ _ _ _ ⟨A6,n6,c6,hv,h0,hh⟩ hc hS hT=>⟨A6,n6,c6,hv,h0,hh.chgT hc hS hT hFl_G1⟩,trivial,trivial,trivial,fun _ _ _ _ _ h hc hS _=>h.chgT hc hS,fun _ _ _ _ _ _ h hc hS _=>h.chgT hc hS,trivial⟩ trivial (fun _ _ _ _ _ _ _=>trivial) ?_
  refine LL2.fx rfl rfl rfl rfl rfl (fun _ hq hK=>Ev.lda rfl ag31 sz31 rfl (At.blk ((H.ext hq).rB (i:=0) rfl)) rfl) ?_
  refine LL2.fx rfl rfl rfl rfl rfl (fun _ hq hK=>Ev.lda rfl ag47 sz47 rfl (At.blk ((H.ext hq).rB (i:=1) rfl)) rfl) ?_
  refine LL2.fx rfl rfl rfl rfl rfl (fun _ hq hK=>Ev.mv rfl rfl) ?_
  refine LL2.fixed rfl rfl rfl rfl (fun _ hq hK=>OpX.call rfl rfl rfl rfl ok78 rfl (q4s hy1 ⟨_,_,_,rfl,hS1,hS2,(rs (H.ext hq) 4),(rs (H.ext hq) 5),(rs (H.ext hq) 6)⟩ (q7R hk2 hg1)) fun _ _ hE h=>⟨hE,h.1⟩) ?_
  refine LL2.free rfl rfl rfl rfl (fun wq hq hK=>?_) (fun v_G1_4 S_G1_4=>?_)
  ·have hF:=hF_G1.ext hq
   refine OpX.call rfl rfl rfl rfl ok80 rfl (q3Z hy2 ⟨_,_,rfl,(hF.get (i:=2) rfl),(hF.get (i:=3) rfl)⟩ hS3) ?_
   rintro _ w hE ⟨A6,n6,c6,rfl,h0,hh⟩
   exact⟨hE,A6,n6,c6,rfl,h0,NewV.of hFl_G1 hq hh⟩
  refine LL2.mv rfl rfl rfl rfl rfl (.inl rfl) rfl ?_
  refine LL2.ex rfl rfl rfl rfl rfl rfl rfl (fun wq hq hK=>?_) ?_
  ·have hK:∀ j' (_:(q0g _).contains j'=true),_:=hK 5 rfl
   obtain⟨A6,n6,c6,rfl,_,_⟩:=hK 4 rfl
   exact⟨_,_,rfl,rfl⟩
  refine LL2.ex rfl rfl rfl rfl rfl rfl rfl (fun wq hq hK=>?_) ?_
  ·have hK:∀ j' (_:(q0g _).contains j'=true),_:=hK 5 rfl
   obtain⟨A6,n6,c6,rfl,_,_⟩:=hK 4 rfl
   exact⟨_,_,rfl,rfl⟩
  refine LL2.free rfl rfl rfl rfl (fun wq hq hK=>OpX.allocV rfl rfl ze39 rfl) (fun v_G1_8 S_G1_8=>?_)
  refine LL2.st (k:=2) rfl rfl rfl (by decide) rfl rfl rfl rfl sz39 rfl rfl (fun wq hq hK=>hK 8 rfl) (fun wq hq hK=>?_) ?_
  ·obtain⟨A6,n6,c6,rfl,_,_⟩:=hK 4 rfl
   exact⟨_,rfl,rfl,(all1 rfl (all1 rfl all0))⟩
  intro w4 hE _ hK hap hbd
  have hE:=chgNew hE
  obtain⟨A6,n6,c6,rfl,hS4,hN1⟩:=hK 4 (by decide)
  obtain⟨b3,rfl,hN2⟩:=wrNew (cells:=[.string y2.Name,.slice A6 n6 c6]) (hK 8 (by decide)) (hK 9 (by decide)) rfl
  have H:=hcl_G1 (NewV.hl (hN1.app (hN2.V ⟨fun _ _ _ _ _ h=>h,trivial⟩) fun q h1 h2=>absurd (hap 4 8 q h1 h2) (by decide)) hE fun q hq=>hq.elim (fun h=>(hbd 4 q h).1) fun h=>(hbd 8 q h).1)
  refine (A) (Z (R ((V) ((N) (Z (iM hb1 (fun _ hb1=>?_) fun _ hb1=>?_))))))
  ·exact R ((A) (Z (W2 hb1 ht1 hr)))
  ·exact K (X ((AN hk2 hg1) ((V) (Z (I2 hb1 hs1 ⟨k1+1,(),()⟩)))))
 ·obtain rfl:=z1U hq1 (q0c h1)
  have hr:=(q0s _ _ _).symm.trans hr
  exact CE (R ((A) (Z (W1 hr))))
def q8T (k1:Nat)(s2:Int):Nat→Attribute→(List Occurrence)→Option (List Occurrence):=fun k2 x1 s3=>( if x1.Mode=s2 then grd (((s3.length:Int)+1)*24≤140737488355328∧(s3.length:Int)+1≤9223372036854775807) <| some (s3++[(⟨(k1:Int),x1.Name⟩:Occurrence)]) else some s3 ).bind fun s4=>some s4
def q8U (a0:Grammar)(a1:Rule):Nat→(List Occurrence)→Option (List Occurrence):=fun k1 s1=>( if (k1:Int)=0 then some 2 else some 1 ).bind fun s2=>(q4r a1 (k1:Int)).bind fun y1=>(q1Y a0 y1).bind fun (y2,y3)=>(eachL (q8T k1 s2) 0 y2.Attributes s1).bind fun s3=>some s3
def q6W (a0:Grammar)(a1:Rule):Option (List Occurrence):=grd (I64 ((a1.Right.length+1:Nat):Int)) <| (eachN (q8U a0 a1) 0 ((a1.Right.length+1)) ([]:List Occurrence)).bind fun s1=>some s1
theorem z1m {a0}{a1}{r}(hr:q6W a0 a1=some r){ca0}(ha0:rd F0 w0 a0 ca0){ca1}(ha1:rd F0 w0 a1 ca1):RT 138 #[.agg ca0.toArray,.agg ca1.toArray] w0 fun v w=>∃ A0 n0 c0,v=(.slice A0 n0 c0)∧HL F0 [] w0 w [] [It.O 55 r (.slice A0 n0 c0)]:=by
 have H:=((HL.start F0 w0).argR ha0).argR ha1
 obtain⟨A1,n1,c1,A2,n2,c2,rfl,H⟩:=q0e H (i:=0) rfl
 obtain⟨A3,n3,c3,A4,n4,c4,A5,n5,c5,rfl,hS1,hS2,H⟩:=q0z H (i:=1) rfl
 refine (En Tryz.func138) ?_
 refine R ((BX H) fun b1 w1 H=>(BX H) fun b2 w2 H=>(A) (Z (R ?_)))
 refine WL.lit0H (α:=Occurrence) rfl rfl rfl el52 sz55 H fun A6 n6 c6 w3 H=>(A) (Z (Y (R ((D 2) ((L H 1) ((NI H 4) fun hl1=>?_))))))
 refine (gg hr fun hg1 hr=>?_)
 refine (BN (Bin.addN (a:=a1.Right.length) (b:=1) rfl hg1)) ((V) (Z ?_))
 refine (bb hr fun q1 hq1 hr=>?_)
 let d1:List Value:=[.string a1.Name,.string a1.Left,.slice A3 n3 c3,.bool a1.Literal,.slice A4 n4 c4,.slice A5 n5 c5]
 let d4:List Value:=[.slice A1 n1 c1,.slice A2 n2 c2]
 let d3:List Pr:=[Pr.R a0 d4,Pr.R a1 d1,Pr.S a0.Symbols (.slice A1 n1 c1),Pr.S a0.Rules (.slice A2 n2 c2),Pr.S a1.Right (.slice A3 n3 c3),Pr.S a1.Equations (.slice A4 n4 c4),Pr.S a1.Contributions (.slice A5 n5 c5)]
 refine (lN hq1 (fun k1 s1 v1=>[(2,pB b1),(3,pB b2),(5,v1),(16,.int .i64 ((a1.Right.length+1:Nat):Int)),(17,zN k1)]) (fun s1 v1 w=>HL F0 [] w0 w d3 [It.B b1 31 d4,It.B b2 47 d1,It.O 55 s1 v1]) (.slice A6 n6 c6)) ?_
 rintro k1 s1 v1 σ w4 hk1 hq1 H
 obtain⟨A7,n7,c7,rfl⟩:=(H.rO (i:=2) rfl).form3
 refine R ((B) (Z (Y ?_)))
 refine CW.condD rfl (fun h1=>?_) (fun h1=>?_)
 ·have hk2:=q0m h1
  obtain⟨z1,hb1,hq1⟩:=z6r hq1 hk2
  refine K (Y ?_)
  refine CW.block (R ((V) ((A) (Z (R ((A) (Z (Y (R ((V) ((B) (Z ?_))))))))))))
  refine (bb hb1 fun q2 hm1 hb1=>?_)
  refine CW.mid (fun ρ' w=>∃ (s2:Int),s2=q2∧agree ρ' [(2,pB b1),(3,pB b2),(5,.slice A7 n7 c7),(6,zN k1),(7,.int .i64 s2),(16,.int .i64 ((a1.Right.length+1:Nat):Int)),(17,zN k1)]∧I64 s2∧HL F0 [] w0 w d3 [It.B b1 31 d4,It.B b2 47 d1,It.O 55 s1 (.slice A7 n7 c7)]) ?_ ?_
  ·refine iD hm1 (fun _ hm1=>?_) fun _ hm1=>?_
   ·exact X ((A) (Z (C1 hm1)))
   ·exact K (C1 hm1)
  ·rintro ρ' w5 ⟨s2,rfl,hag,hI1,H⟩
   obtain⟨σ,rfl⟩:=ofL_ex hag
   refine (bb hb1 fun y1 hy1 hb1=>?_)
   obtain⟨_,_,_,hS3⟩:=(q4s hy1 ⟨_,_,_,rfl,hS1,hS2,(rs H 4),(rs H 5),(rs H 6)⟩ (q7R hk2 hg1)).get
   obtain⟨⟨y2,y3⟩,hy2,hb1⟩:=bd hb1
   obtain⟨F_G1,hFl_G1,hF_G1,hcl_G1⟩:=H.callL
   refine Y ?_
   refine CW.any2 10 (fun ρ=>[.fix (.agg #[.slice A1 n1 c1,.slice A2 n2 c2]),.fix (.agg #[.string a1.Name,.string a1.Left,.slice A3 n3 c3,.bool a1.Literal,.slice A4 n4 c4,.slice A5 n5 c5]),.fix (zN k1),.fix (.string y1),.free (fun S v w=>∃ A8:Option Addr,∃ n8:Nat,∃ c8:Nat,v = .tuple #[.agg #[.string y2.Name,.slice A8 n8 c8],.bool y3]∧y2.Name.size≤9223372036854775807∧NewV F_G1 w5 S w [Pr.S y2.Attributes (.slice A8 n8 c8)] []),.dep 27 id,.dep 22 (tupAt 0),.dep 22 (tupAt 1),.free (VarB 39 2),.wr 8 28 (WrB 39)]) [[],[],[],[],[],[27],[22],[22],[],[8,28]] NoM (fun _ _=>True) [] [none,none,none,none,none,none,none,none,none,some 8] (noM _) hmix (by kernel_rfl) rfl ⟨trivial,trivial,trivial,trivial,fun _ _ _ _ _ ⟨A8,n8,c8,hv,h0,hh⟩ hc hS hT=>⟨A8,n8,c8,hv,h0,hh.chgT hc hS hT hFl_G1⟩,trivial,trivial,trivial,fun _ _ _ _ _ h hc hS _=>h.chgT hc hS,fun _ _ _ _ _ _ h hc hS _=>h.chgT hc hS,trivial⟩ trivial (fun _ _ _ _ _ _ _=>trivial) ?_
   refine LL2.fx rfl rfl rfl rfl rfl (fun _ hq hK=>Ev.lda rfl ag31 sz31 rfl (At.blk ((H.ext hq).rB (i:=0) rfl)) rfl) ?_
   refine LL2.fx rfl rfl rfl rfl rfl (fun _ hq hK=>Ev.lda rfl ag47 sz47 rfl (At.blk ((H.ext hq).rB (i:=1) rfl)) rfl) ?_
   refine LL2.fx rfl rfl rfl rfl rfl (fun _ hq hK=>Ev.mv rfl rfl) ?_
   refine LL2.fixed rfl rfl rfl rfl (fun _ hq hK=>OpX.call rfl rfl rfl rfl ok78 rfl (q4s hy1 ⟨_,_,_,rfl,hS1,hS2,(rs (H.ext hq) 4),(rs (H.ext hq) 5),(rs (H.ext hq) 6)⟩ (q7R hk2 hg1)) fun _ _ hE h=>⟨hE,h.1⟩) ?_
   refine LL2.free rfl rfl rfl rfl (fun wq hq hK=>?_) (fun v_G1_4 S_G1_4=>?_)
   ·have hF:=hF_G1.ext hq
    refine OpX.call rfl rfl rfl rfl ok80 rfl (q3Z hy2 ⟨_,_,rfl,(hF.get (i:=2) rfl),(hF.get (i:=3) rfl)⟩ hS3) ?_
    rintro _ w hE ⟨A8,n8,c8,rfl,h0,hh⟩
    exact⟨hE,A8,n8,c8,rfl,h0,NewV.of hFl_G1 hq hh⟩
   refine LL2.mv rfl rfl rfl rfl rfl (.inl rfl) rfl ?_
   refine LL2.ex rfl rfl rfl rfl rfl rfl rfl (fun wq hq hK=>?_) ?_
   ·have hK:∀ j' (_:(q0g _).contains j'=true),_:=hK 5 rfl
    obtain⟨A8,n8,c8,rfl,_,_⟩:=hK 4 rfl
    exact⟨_,_,rfl,rfl⟩
   refine LL2.ex rfl rfl rfl rfl rfl rfl rfl (fun wq hq hK=>?_) ?_
   ·have hK:∀ j' (_:(q0g _).contains j'=true),_:=hK 5 rfl
    obtain⟨A8,n8,c8,rfl,_,_⟩:=hK 4 rfl
    exact⟨_,_,rfl,rfl⟩
   refine LL2.free rfl rfl rfl rfl (fun wq hq hK=>OpX.allocV rfl rfl ze39 rfl) (fun v_G1_8 S_G1_8=>?_)
   refine LL2.st (k:=2) rfl rfl rfl (by decide) rfl rfl rfl rfl sz39 rfl rfl (fun wq hq hK=>hK 8 rfl) (fun wq hq hK=>?_) ?_
   ·obtain⟨A8,n8,c8,rfl,_,_⟩:=hK 4 rfl
    exact⟨_,rfl,rfl,(all1 rfl (all1 rfl all0))⟩
   intro w6 hE _ hK hap hbd
   have hE:=chgNew hE
   obtain⟨A8,n8,c8,rfl,hS4,hN1⟩:=hK 4 (by decide)
   let d5:List Value:=[.string y2.Name,.slice A8 n8 c8]
   obtain⟨b3,rfl,hN2⟩:=wrNew (cells:=d5) (hK 8 (by decide)) (hK 9 (by decide)) rfl
   have H:=hcl_G1 (NewV.hl (hN1.app (hN2.V ⟨fun _ _ _ _ _ h=>h,trivial⟩) fun q h1 h2=>absurd (hap 4 8 q h1 h2) (by decide)) hE fun q hq=>hq.elim (fun h=>(hbd 4 q h).1) fun h=>(hbd 8 q h).1)
   refine (A) (Z (R ((D 1) ((L H 3) ((NI H 7) fun hl2=>(V) (Z ?_))))))
   refine (bb hb1 fun q3 hq2 hb1=>?_)
   let d2:List Pr:=[Pr.R a0 d4,Pr.R a1 d1,Pr.S a0.Symbols (.slice A1 n1 c1),Pr.S a0.Rules (.slice A2 n2 c2),Pr.S a1.Right (.slice A3 n3 c3),Pr.S a1.Equations (.slice A4 n4 c4),Pr.S a1.Contributions (.slice A5 n5 c5),Pr.S y2.Attributes (.slice A8 n8 c8)]
   refine (lE hq2 (fun k2 s3 v2=>[(2,pB b1),(3,pB b2),(5,v2),(6,zN k1),(7,.int .i64 s2),(16,.int .i64 ((a1.Right.length+1:Nat):Int)),(17,zN k1),(31,.slice A8 n8 c8),(32,zN y2.Attributes.length),(33,zN k2)]) (fun s3 v2 w=>HL F0 [] w0 w d2 [It.B b1 31 d4,It.B b2 47 d1,It.O 55 s3 v2,It.B b3 39 d5]) (.slice A7 n7 c7)) ?_
   rintro k2 s3 v2 σ w7 hk3 hq2 H
   obtain⟨A9,n9,c9,rfl⟩:=(H.rO (i:=2) rfl).form3
   refine R ((B) (Z (Y ?_)))
   refine CW.condD rfl (fun h3=>?_) (fun h3=>?_)
   ·have hk4:=q0m h3
    obtain⟨x1,z2,hx1,hb2,hq2⟩:=q4w hq2 hk4
    refine K ?_
    refine (bb hb2 fun q4 hm2 hb2=>Y ?_)
    refine CW.mid (fun ρ' w=>∃ (s4:List Occurrence) (v3:Value),s4=q4∧agree ρ' [(2,pB b1),(3,pB b2),(5,v3),(6,zN k1),(7,.int .i64 s2),(16,.int .i64 ((a1.Right.length+1:Nat):Int)),(17,zN k1),(31,.slice A8 n8 c8),(32,zN y2.Attributes.length),(33,zN k2)]∧HL F0 [] w0 w d2 [It.B b1 31 d4,It.B b2 47 d1,It.O 55 s4 v3,It.B b3 39 d5]) ?_ ?_
    ·refine CW.block (R ?_)
     obtain⟨b4,ob4,cb4,hvb4,hS5,hI2,hI3,H⟩:=q1U H (i:=7) rfl hx1
     refine (J 4 hvb4 hx1) ((LA H 8) ((AH ze41 H) fun b5 w8 H=>(SB H 4) fun w9 H=>Z (R ((D 2) ((L H 4) ((V) ((B) (Z (iD hm2 (fun _ hm2=>?_) fun _ hm2=>?_)))))))))
     ·refine X ((V) ((V) ((D 0) ((L H 4) ?_))))
      refine WL.ev rfl rfl (Ev.build rfl pl55 ze55 rfl rfl rfl rfl) ?_
      refine WL.lit1 rfl rfl rfl el52 sz55 ze55 rfl rfl rfl rfl rfl rfl fun b6 w10 hE hb hB=>?_
      have H:=H.newB hE hb hB
      refine (gg hm2 fun hg2 hm2=>?_)
      exact WL.appO (i:=2) (ys:=[(⟨(k1:Int),x1.Name⟩:Occurrence)]) rfl rfl rfl el52 sz55 by55 ze55 rfl rfl rfl H rfl (fun _=>ownL.single ⟨rfl,(q7R hk2 hg1),hS5,rfl⟩) (.inr ⟨_,_,rfl,At.blk (H.rB (i:=5) rfl)⟩) hg2 fun A10 n10 c10 w11 H=>(A) (Z (C1 hm2))
     ·exact K (C1 hm2)
    ·rintro ρ' w12 ⟨s4,v3,rfl,hag,H⟩
     obtain⟨σ,rfl⟩:=ofL_ex hag
     obtain⟨A11,n11,c11,rfl⟩:=(H.rO (i:=2) rfl).form3
     exact X ((AN hk4 hl2) ((V) (Z (I1 hb2 ⟨k2+1,s4,(.slice A11 n11 c11)⟩))))
   ·obtain rfl:=q3w hq2 (q0c h3)
    exact CE (X ((AN hk2 hg1) ((V) (Z (I1 hb1 ⟨k1+1,s3,(.slice A9 n9 c9)⟩)))))
 ·obtain rfl:=z4w hq1 (q0c h1)
  exact CE (R ((V) ((A) (Z (W1 hr)))))
def q7A (a0:Equation)(a1:Occurrence):Option Bool:=some (decide (a0.At=a1))
theorem z2z {a0}{a1}{r}(hr:q7A a0 a1=some r){ca0}(ha0:rd F0 w0 a0 ca0){b1p:Nat}(ha1:CapP F0 w0 b1p a1):RT 141 #[.agg ca0.toArray,pB b1p] w0 fun v w=>v = .bool r:=by
 have H:=(HL.start F0 w0).argR ha0
 obtain⟨A1,n1,c1,rfl,hI1,hS1,hI2,hI3,hI4,hI5,hS2,hS3,H⟩:=q6K H (i:=0) rfl
 obtain⟨cpa1,H⟩:=H.argP ha1
 obtain⟨rfl,hI6,hS4,H⟩:=q0H H (i:=3) rfl
 refine (En Tryz.func141) ?_
 refine R ((BX H) fun b1 w1 H=>(A) (Z (R ((D 0) ?_))))
 exact WL.ev rfl rfl (Ev.lda rfl ag55 sz55 rfl (Blk.part (H.rB (i:=0) rfl) 0 2) rfl) ((LA H 2) ((BN (Bin.eqlF fl55 (q2Q a0.At a1))) ((A) (Z (W1 hr)))))
def q2h (a1_0:Occurrence):Nat→Equation→Unit→Option (Unit ⊕ Int):=fun k1 x1 _=>(q7A x1 a1_0).bind fun y1=>if y1=true then some (.inr (k1:Int)) else some (.inl ())
def q1j (a0:(List Equation))(a1_0:Occurrence):Option Int:=(findL (q2h a1_0) 0 a0 ()).bind <| onr (fun r1=>some r1) fun _=>some (-1)
theorem q4c {a0}{a1_0}{r}(hr:q1j a0 a1_0=some r){z0}(ha0:rdS F0 w0 a0 z0){b1_0p:Nat}(ha1_0:CapP F0 w0 b1_0p a1_0):RT 169 #[z0,.func (.func 141) #[] #[pB b1_0p]] w0 fun v w=>v = .int .i64 r∧I64 r:=by
 obtain⟨A0',n0',c0',rfl⟩:=ha0.form3
 have H:=(HL.start F0 w0).argS ha0
 obtain⟨cpa1_0,H⟩:=H.argP ha1_0
 obtain⟨rfl,hI1,hS1,H⟩:=q0H H (i:=2) rfl
 refine (En Tryz.func169) ?_
 refine R ((A) (Z (Y (R ((V) ((NI H 0) fun hl1=>(V) (Z ?_)))))))
 refine (bb hr fun q1 hq1 hr=>?_)
 refine (lF hq1 (fun k1 _ _=>[(0,.slice A0' n0' c0'),(1,.func (.func 141) #[] #[pB b1_0p]),(7,zN a0.length),(8,zN k1)]) (fun _ _ w=>HL F0 [] w0 w [Pr.S a0 (.slice A0' n0' c0'),Pr.A b1_0p 0 [.int .i64 a1_0.Pos,.string a1_0.Name],Pr.R a1_0 [.int .i64 a1_0.Pos,.string a1_0.Name]] []) ()) ?_
 rintro k1 _ _ σ w1 hk1 hq1 H
 refine R ((B) (Z (Y ?_)))
 refine CW.condD rfl (fun h1=>?_) (fun h1=>?_)
 ·have hk2:=q0m h1
  obtain⟨x1,z1,hx1,hb1,hs1,ht1⟩:=q0y hq1 hk2
  refine K (Y ?_)
  refine CW.block (R ((V) ((A) (Z (R ((V) ((V) ((V) ?_))))))))
  obtain⟨b1,ob1,cb1,A1,n1,c1,hvb1,hI2,hS2,hI3,hI4,hI5,hI6,hS3,hS4,H⟩:=q1B H (i:=0) rfl hx1
  refine (J 9 hvb1 hx1) ((LA H 3) ?_)
  refine (bb hb1 fun y1 hy1 hb1=>?_)
  refine (CA ok141 (z2z hy1 (F0:=fun q=>q < _) ⟨_,rfl,hI2,hS2,hI3,hI4,hI5,hI6,hS3,hS4,(rs H 5)⟩ ⟨H.rAl (i:=1) rfl,_,H.rA (i:=1) rfl,⟨rfl,hI1,hS1⟩⟩)) (cE H fun w2 H=>Z (iB hb1 (fun _ hb1=>?_) fun _ hb1=>?_))
  ·exact R ((V) ((A) (Z (W2 hb1 ht1 hr))))
  ·exact K (X ((AN hk2 hl1) ((V) (Z (I2 hb1 hs1 ⟨k1+1,(),()⟩)))))
 ·obtain rfl:=q0l hq1 (q0c h1)
  have hr:=(q0s _ _ _).symm.trans hr
  exact CE (R ((A) (Z (W1 hr))))
def q0Y (a0:(List Equation))(a1_0:Occurrence):Option Bool:=(q1j a0 a1_0).bind fun y1=>some (decide (0≤y1))
theorem q3C {a0}{a1_0}{r}(hr:q0Y a0 a1_0=some r){z0}(ha0:rdS F0 w0 a0 z0){b1_0p:Nat}(ha1_0:CapP F0 w0 b1_0p a1_0):RT 140 #[z0,.func (.func 141) #[] #[pB b1_0p]] w0 fun v w=>v = .bool r:=by
 obtain⟨A0',n0',c0',rfl⟩:=ha0.form3
 have H:=(HL.start F0 w0).argS ha0
 obtain⟨cpa1_0,H⟩:=H.argP ha1_0
 obtain⟨rfl,hI1,hS1,H⟩:=q0H H (i:=2) rfl
 refine (En Tryz.func140) ?_
 refine R ((A) (Z (R ((V) ((V) ?_)))))
 refine (bb hr fun y1 hy1 hr=>?_)
 exact (CA ok169 (q4c hy1 (F0:=fun q=>q < _) (rs H 0) ⟨H.rAl (i:=1) rfl,_,H.rA (i:=1) rfl,⟨rfl,hI1,hS1⟩⟩)) (cF' H fun w1 hI2 H=>(B) ((A) (Z (W1 hr))))
def q8V (a0:Occurrence)(a1:Rule):Option Bool:=(q0Y a1.Equations a0).bind fun y1=>some (!y1)
theorem z4c {a0}{a1}{r}(hr:q8V a0 a1=some r){ca0}(ha0:rd F0 w0 a0 ca0){b1p:Nat}(ha1:CapP F0 w0 b1p a1):RT 139 #[.agg ca0.toArray,pB b1p] w0 fun v w=>v = .bool r:=by
 have H:=(HL.start F0 w0).argR ha0
 obtain⟨rfl,hI1,hS1,H⟩:=q0H H (i:=0) rfl
 obtain⟨cpa1,H⟩:=H.argP ha1
 obtain⟨A1,n1,c1,A2,n2,c2,A3,n3,c3,rfl,hS2,hS3,H⟩:=q0z H (i:=2) rfl
 refine (En Tryz.func139) ?_
 refine R ((BX H) fun b1 w1 H=>(A) (Z (R ((D 4) ((LC H 1) ?_)))))
 refine WL.ev rfl rfl (Ev.mkfL rfl rfl rfl) ?_
 refine (bb hr fun y1 hy1 hr=>?_)
 exact (CA ok140 (q3C hy1 (F0:=fun q=>q < _) (rs H 4) ⟨(H.rB (i:=0) rfl).lt,_,At.blk (H.rB (i:=0) rfl),⟨rfl,hI1,hS1⟩⟩)) (cE H fun w2 H=>(N) ((A) (Z (W1 hr))))
def q2i (a1_0:Rule):Nat→Occurrence→Unit→Option (Unit ⊕ Int):=fun k1 x1 _=>(q8V x1 a1_0).bind fun y1=>if y1=true then some (.inr (k1:Int)) else some (.inl ())
def q1k (a0:(List Occurrence))(a1_0:Rule):Option Int:=(findL (q2i a1_0) 0 a0 ()).bind <| onr (fun r1=>some r1) fun _=>some (-1)
theorem q4d {a0}{a1_0}{r}(hr:q1k a0 a1_0=some r){z0}(ha0:rdS F0 w0 a0 z0){b1_0p:Nat}(ha1_0:CapP F0 w0 b1_0p a1_0):RT 76 #[z0,.func (.func 139) #[] #[pB b1_0p]] w0 fun v w=>v = .int .i64 r∧I64 r:=by
 obtain⟨A0',n0',c0',rfl⟩:=ha0.form3
 have H:=(HL.start F0 w0).argS ha0
 obtain⟨cpa1_0,H⟩:=H.argP ha1_0
 obtain⟨A1,n1,c1,A2,n2,c2,A3,n3,c3,rfl,hS1,hS2,H⟩:=q0z H (i:=2) rfl
 refine (En Tryz.func76) ?_
 refine R ((A) (Z (Y (R ((V) ((NI H 0) fun hl1=>(V) (Z ?_)))))))
 refine (bb hr fun q1 hq1 hr=>?_)
 let d1:List Value:=[.string a1_0.Name,.string a1_0.Left,.slice A1 n1 c1,.bool a1_0.Literal,.slice A2 n2 c2,.slice A3 n3 c3]
 refine (lF hq1 (fun k1 _ _=>[(0,.slice A0' n0' c0'),(1,.func (.func 139) #[] #[pB b1_0p]),(7,zN a0.length),(8,zN k1)]) (fun _ _ w=>HL F0 [] w0 w [Pr.S a0 (.slice A0' n0' c0'),Pr.A b1_0p 0 d1,Pr.R a1_0 d1,Pr.S a1_0.Right (.slice A1 n1 c1),Pr.S a1_0.Equations (.slice A2 n2 c2),Pr.S a1_0.Contributions (.slice A3 n3 c3)] []) ()) ?_
 rintro k1 _ _ σ w1 hk1 hq1 H
 refine R ((B) (Z (Y ?_)))
 refine CW.condD rfl (fun h1=>?_) (fun h1=>?_)
 ·have hk2:=q0m h1
  obtain⟨x1,z1,hx1,hb1,hs1,ht1⟩:=q0y hq1 hk2
  refine K (Y ?_)
  refine CW.block (R ((V) ((A) (Z (R ((V) ((V) ((V) ?_))))))))
  obtain⟨b1,ob1,cb1,hvb1,hI1,hS3,H⟩:=q2q H (i:=0) rfl hx1
  refine (J 2 hvb1 hx1) ((LA H 6) ?_)
  refine (bb hb1 fun y1 hy1 hb1=>?_)
  refine (CA ok139 (z4c hy1 (F0:=fun q=>q < _) ⟨rfl,hI1,hS3⟩ ⟨H.rAl (i:=1) rfl,_,H.rA (i:=1) rfl,⟨_,_,_,rfl,hS1,hS2,(rs H 3),(rs H 4),(rs H 5)⟩⟩)) (cE H fun w2 H=>Z (iB hb1 (fun _ hb1=>?_) fun _ hb1=>?_))
  ·exact R ((V) ((A) (Z (W2 hb1 ht1 hr))))
  ·exact K (X ((AN hk2 hl1) ((V) (Z (I2 hb1 hs1 ⟨k1+1,(),()⟩)))))
 ·obtain rfl:=q0l hq1 (q0c h1)
  have hr:=(q0s _ _ _).symm.trans hr
  exact CE (R ((A) (Z (W1 hr))))
def q0Z (a0:(List Occurrence))(a1_0:Rule):Option Bool:=(q1k a0 a1_0).bind fun y1=>some (decide (0≤y1))
theorem q3D {a0}{a1_0}{r}(hr:q0Z a0 a1_0=some r){z0}(ha0:rdS F0 w0 a0 z0){b1_0p:Nat}(ha1_0:CapP F0 w0 b1_0p a1_0):RT 82 #[z0,.func (.func 139) #[] #[pB b1_0p]] w0 fun v w=>v = .bool r:=by
 obtain⟨A0',n0',c0',rfl⟩:=ha0.form3
 have H:=(HL.start F0 w0).argS ha0
 obtain⟨cpa1_0,H⟩:=H.argP ha1_0
 obtain⟨A1,n1,c1,A2,n2,c2,A3,n3,c3,rfl,hS1,hS2,H⟩:=q0z H (i:=2) rfl
 refine (En Tryz.func82) ?_
 refine R ((A) (Z (R ((V) ((V) ?_)))))
 refine (bb hr fun y1 hy1 hr=>?_)
 exact (CA ok76 (q4d hy1 (F0:=fun q=>q < _) (rs H 0) ⟨H.rAl (i:=1) rfl,_,H.rA (i:=1) rfl,⟨_,_,_,rfl,hS1,hS2,(rs H 3),(rs H 4),(rs H 5)⟩⟩)) (cF' H fun w1 hI1 H=>(B) ((A) (Z (W1 hr))))
def q9n (a0:Grammar)(a1:Rule):Option Bool:=(q6W a0 a1).bind fun y1=>(q0Z y1 a1).bind fun y2=>some y2
theorem z5L {a0}{a1}{r}(hr:q9n a0 a1=some r){ca0}(ha0:rd F0 w0 a0 ca0){ca1}(ha1:rd F0 w0 a1 ca1):RT 106 #[.agg ca0.toArray,.agg ca1.toArray] w0 fun v w=>v = .bool r:=by
 have H:=((HL.start F0 w0).argR ha0).argR ha1
 obtain⟨A1,n1,c1,A2,n2,c2,rfl,H⟩:=q0e H (i:=0) rfl
 obtain⟨A3,n3,c3,A4,n4,c4,A5,n5,c5,rfl,hS1,hS2,H⟩:=q0z H (i:=1) rfl
 refine (En Tryz.func106) ?_
 refine R ((BX H) fun b1 w1 H=>(BX H) fun b2 w2 H=>(A) (Z (R ((LB H 0) ((LB H 1) ?_)))))
 refine (bb hr fun y1 hy1 hr=>?_)
 refine (CA ok138 (z1m hy1 ⟨_,_,rfl,(rs H 2),(rs H 3)⟩ ⟨_,_,_,rfl,hS1,hS2,(rs H 4),(rs H 5),(rs H 6)⟩)) ?_
 rintro _ w3 hE ⟨A6,n6,c6,rfl,H'⟩
 have H:=H.callA H' ⟨fun _ _ _ _ _ h=>h,trivial⟩
 refine WL.ev rfl rfl (Ev.mkfL rfl rfl rfl) ?_
 refine (bb hr fun y2 hy2 hr=>?_)
 exact (CA ok82 (q3D hy2 (F0:=fun q=>q < _) (ro H 2) ⟨(H.rB (i:=1) rfl).lt,_,At.blk (H.rB (i:=1) rfl),⟨_,_,_,rfl,hS1,hS2,(rs H 4),(rs H 5),(rs H 6)⟩⟩)) (cE H fun w4 H=>(A) (Z (W1 hr)))
def q2e (a1:Occurrence):Nat→Occurrence→Unit→Option (Unit ⊕ Int):=fun k1 x1 _=>if a1=x1 then some (.inr (k1:Int)) else some (.inl ())
def q1E (a0:(List Occurrence))(a1:Occurrence):Option Int:=(findL (q2e a1) 0 a0 ()).bind <| onr (fun r1=>some r1) fun _=>some (-1)
theorem q7c {a0}{a1}{r}(hr:q1E a0 a1=some r){z0}(ha0:rdS F0 w0 a0 z0){ca1}(ha1:rd F0 w0 a1 ca1):RT 46 #[z0,.agg ca1.toArray] w0 fun v w=>v = .int .i64 r∧I64 r:=by
 obtain⟨A0',n0',c0',rfl⟩:=ha0.form3
 have H:=((HL.start F0 w0).argS ha0).argR ha1
 obtain⟨rfl,hI1,hS1,H⟩:=q0H H (i:=1) rfl
 refine (En Tryz.func46) ?_
 refine R ((BX H) fun b1 w1 H=>(A) (Z (Y (R ((V) ((NI H 0) fun hl1=>(V) (Z ?_)))))))
 refine (bb hr fun q1 hq1 hr=>?_)
 refine (lF hq1 (fun k1 _ _=>[(0,.slice A0' n0' c0'),(3,pB b1),(7,zN a0.length),(8,zN k1)]) (fun _ _ w=>HL F0 [] w0 w [Pr.S a0 (.slice A0' n0' c0'),Pr.R a1 [.int .i64 a1.Pos,.string a1.Name]] [It.B b1 55 [.int .i64 a1.Pos,.string a1.Name]]) ()) ?_
 rintro k1 _ _ σ w2 hk1 hq1 H
 refine R ((B) (Z (Y ?_)))
 refine CW.condD rfl (fun h1=>?_) (fun h1=>?_)
 ·have hk2:=q0m h1
  obtain⟨x1,z1,hx1,hb1,hs1,ht1⟩:=q0y hq1 hk2
  refine K (Y ?_)
  refine CW.block (R ((V) ((A) (Z (Y ?_)))))
  refine CW.quiet hmix (by kernel_rfl) ?_
  refine (qLB H 0) ((qV) ((qV) ?_))
  obtain⟨b2,ob2,cb2,hvb2,hI2,hS2,H⟩:=q2q H (i:=0) rfl hx1
  refine (qJ 2 hvb2 hx1) ((qLA H 2) ((qBN (Bin.eqlF fl55 (q2Q a1 x1))) ?_))
  refine QL.nil (fun w3 hE=>?_)
  have H:=H.ext hE
  refine iD hb1 (fun _ hb1=>?_) fun _ hb1=>?_
  ·exact R ((V) ((A) (Z (W2 hb1 ht1 hr))))
  ·exact K (X ((AN hk2 hl1) ((V) (Z (I2 hb1 hs1 ⟨k1+1,(),()⟩)))))
 ·obtain rfl:=q0l hq1 (q0c h1)
  have hr:=(q0s _ _ _).symm.trans hr
  exact CE (R ((A) (Z (W1 hr))))
def q0o (a0:(List Occurrence))(a1:Occurrence):Option Bool:=(q1E a0 a1).bind fun y1=>some (decide (0≤y1))
theorem q2A {a0}{a1}{r}(hr:q0o a0 a1=some r){z0}(ha0:rdS F0 w0 a0 z0){ca1}(ha1:rd F0 w0 a1 ca1):RT 20 #[z0,.agg ca1.toArray] w0 fun v w=>v = .bool r:=by
 obtain⟨A0',n0',c0',rfl⟩:=ha0.form3
 have H:=((HL.start F0 w0).argS ha0).argR ha1
 obtain⟨rfl,hI1,hS1,H⟩:=q0H H (i:=1) rfl
 refine (En Tryz.func20) ?_
 refine R ((BX H) fun b1 w1 H=>(A) (Z (R ((V) ((LB H 0) ?_)))))
 refine (bb hr fun y1 hy1 hr=>?_)
 exact (CA ok46 (q7c hy1 (rs H 0) ⟨rfl,hI1,hS1⟩)) (cF' H fun w2 hI2 H=>(B) ((A) (Z (W1 hr))))
def z0T (a0 a1:Equation):Option Bool:=some (decide (a0.At=a1.At))
theorem z5M {a0 a1}{r}(hr:z0T a0 a1=some r){ca0}(ha0:rd F0 w0 a0 ca0){b1p:Nat}(ha1:CapP F0 w0 b1p a1):RT 142 #[.agg ca0.toArray,pB b1p] w0 fun v w=>v = .bool r:=by
 have H:=(HL.start F0 w0).argR ha0
 obtain⟨A1,n1,c1,rfl,hI1,hS1,hI2,hI3,hI4,hI5,hS2,hS3,H⟩:=q6K H (i:=0) rfl
 obtain⟨cpa1,H⟩:=H.argP ha1
 obtain⟨A2,n2,c2,rfl,hI6,hS4,hI7,hI8,hI9,hI10,hS5,hS6,H⟩:=q6K H (i:=3) rfl
 refine (En Tryz.func142) ?_
 refine R ((BX H) fun b1 w1 H=>(A) (Z (R ((D 0) ?_))))
 refine WL.ev rfl rfl (Ev.lda rfl ag55 sz55 rfl (Blk.part (H.rB (i:=0) rfl) 0 2) rfl) ((D 0) ?_)
 exact WL.ev rfl rfl (Ev.lda rfl ag55 sz55 rfl ((H.rA (i:=2) rfl).part 0 2) rfl) ((BN (Bin.eqlF fl55 (q2Q a0.At a1.At))) ((A) (Z (W1 hr))))
def q2E (a1_0:Equation):Nat→Equation→Unit→Option (Unit ⊕ Int):=fun k1 x1 _=>(z0T x1 a1_0).bind fun y1=>if y1=true then some (.inr (k1:Int)) else some (.inl ())
def q1F (a0:(List Equation))(a1_0:Equation):Option Int:=(findL (q2E a1_0) 0 a0 ()).bind <| onr (fun r1=>some r1) fun _=>some (-1)
theorem q4H {a0}{a1_0}{r}(hr:q1F a0 a1_0=some r){z0}(ha0:rdS F0 w0 a0 z0){b1_0p:Nat}(ha1_0:CapP F0 w0 b1_0p a1_0):RT 169 #[z0,.func (.func 142) #[] #[pB b1_0p]] w0 fun v w=>v = .int .i64 r∧I64 r:=by
 obtain⟨A0',n0',c0',rfl⟩:=ha0.form3
 have H:=(HL.start F0 w0).argS ha0
 obtain⟨cpa1_0,H⟩:=H.argP ha1_0
 obtain⟨A1,n1,c1,rfl,hI1,hS1,hI2,hI3,hI4,hI5,hS2,hS3,H⟩:=q6K H (i:=2) rfl
 refine (En Tryz.func169) ?_
 refine R ((A) (Z (Y (R ((V) ((NI H 0) fun hl1=>(V) (Z ?_)))))))
 refine (bb hr fun q1 hq1 hr=>?_)
 let d1:List Value:=[.int .i64 a1_0.At.Pos,.string a1_0.At.Name,.int .i64 a1_0.Expr.Kind,.int .i64 a1_0.Expr.N,.int .i64 a1_0.Expr.Pos,.int .i64 a1_0.Expr.Type_,.string a1_0.Expr.Symbol,.string a1_0.Expr.Name,.slice A1 n1 c1]
 refine (lF hq1 (fun k1 _ _=>[(0,.slice A0' n0' c0'),(1,.func (.func 142) #[] #[pB b1_0p]),(7,zN a0.length),(8,zN k1)]) (fun _ _ w=>HL F0 [] w0 w [Pr.S a0 (.slice A0' n0' c0'),Pr.A b1_0p 0 d1,Pr.R a1_0 d1,Pr.S a1_0.Expr.Args (.slice A1 n1 c1)] []) ()) ?_
 rintro k1 _ _ σ w1 hk1 hq1 H
 refine R ((B) (Z (Y ?_)))
 refine CW.condD rfl (fun h1=>?_) (fun h1=>?_)
 ·have hk2:=q0m h1
  obtain⟨x1,z1,hx1,hb1,hs1,ht1⟩:=q0y hq1 hk2
  refine K (Y ?_)
  refine CW.block (R ((V) ((A) (Z (R ((V) ((V) ((V) ?_))))))))
  obtain⟨b1,ob1,cb1,A2,n2,c2,hvb1,hI6,hS4,hI7,hI8,hI9,hI10,hS5,hS6,H⟩:=q1B H (i:=0) rfl hx1
  refine (J 9 hvb1 hx1) ((LA H 4) ?_)
  refine (bb hb1 fun y1 hy1 hb1=>?_)
  refine (CA ok142 (z5M hy1 (F0:=fun q=>q < _) ⟨_,rfl,hI6,hS4,hI7,hI8,hI9,hI10,hS5,hS6,(rs H 6)⟩ ⟨H.rAl (i:=1) rfl,_,H.rA (i:=1) rfl,⟨_,rfl,hI1,hS1,hI2,hI3,hI4,hI5,hS2,hS3,(rs H 3)⟩⟩)) (cE H fun w2 H=>Z (iB hb1 (fun _ hb1=>?_) fun _ hb1=>?_))
  ·exact R ((V) ((A) (Z (W2 hb1 ht1 hr))))
  ·exact K (X ((AN hk2 hl1) ((V) (Z (I2 hb1 hs1 ⟨k1+1,(),()⟩)))))
 ·obtain rfl:=q0l hq1 (q0c h1)
  have hr:=(q0s _ _ _).symm.trans hr
  exact CE (R ((A) (Z (W1 hr))))
def q1q (a0:(List Equation))(a1_0:Equation):Option Bool:=(q1F a0 a1_0).bind fun y1=>some (decide (0≤y1))
theorem q4k {a0}{a1_0}{r}(hr:q1q a0 a1_0=some r){z0}(ha0:rdS F0 w0 a0 z0){b1_0p:Nat}(ha1_0:CapP F0 w0 b1_0p a1_0):RT 140 #[z0,.func (.func 142) #[] #[pB b1_0p]] w0 fun v w=>v = .bool r:=by
 obtain⟨A0',n0',c0',rfl⟩:=ha0.form3
 have H:=(HL.start F0 w0).argS ha0
 obtain⟨cpa1_0,H⟩:=H.argP ha1_0
 obtain⟨A1,n1,c1,rfl,hI1,hS1,hI2,hI3,hI4,hI5,hS2,hS3,H⟩:=q6K H (i:=2) rfl
 refine (En Tryz.func140) ?_
 refine R ((A) (Z (R ((V) ((V) ?_)))))
 refine (bb hr fun y1 hy1 hr=>?_)
 exact (CA ok169 (q4H hy1 (F0:=fun q=>q < _) (rs H 0) ⟨H.rAl (i:=1) rfl,_,H.rA (i:=1) rfl,⟨_,rfl,hI1,hS1,hI2,hI3,hI4,hI5,hS2,hS3,(rs H 3)⟩⟩)) (cF' H fun w1 hI6 H=>(B) ((A) (Z (W1 hr))))
def z0s (a1:Rule)(y1:(List Occurrence)):Nat→Equation→Unit→Option (Unit ⊕ Bool):=fun k1 x1 _=>(q0o y1 x1.At).bind fun y2=>if y2=true then grd (k1≤a1.Equations.length) <| (q1q (a1.Equations.take k1) x1).bind fun y3=>if y3=true then some (.inr true) else some (.inl ()) else some (.inr true)
def z1R (a0:Grammar)(a1:Rule):Option Bool:=(q6W a0 a1).bind fun y1=>(findL (z0s a1 y1) 0 a1.Equations ()).bind <| onr (fun r1=>some r1) fun _=>some false
theorem z7S {a0}{a1}{r}(hr:z1R a0 a1=some r){ca0}(ha0:rd F0 w0 a0 ca0){ca1}(ha1:rd F0 w0 a1 ca1):RT 107 #[.agg ca0.toArray,.agg ca1.toArray] w0 fun v w=>v = .bool r:=by
 have H:=((HL.start F0 w0).argR ha0).argR ha1
 obtain⟨A1,n1,c1,A2,n2,c2,rfl,H⟩:=q0e H (i:=0) rfl
 obtain⟨A3,n3,c3,A4,n4,c4,A5,n5,c5,rfl,hS1,hS2,H⟩:=q0z H (i:=1) rfl
 refine (En Tryz.func107) ?_
 refine R ((BX H) fun b1 w1 H=>(BX H) fun b2 w2 H=>(A) (Z (R ((LB H 0) ((LB H 1) ?_)))))
 refine (bb hr fun y1 hy1 hr=>?_)
 refine (CA ok138 (z1m hy1 ⟨_,_,rfl,(rs H 2),(rs H 3)⟩ ⟨_,_,_,rfl,hS1,hS2,(rs H 4),(rs H 5),(rs H 6)⟩)) ?_
 rintro _ w3 hE ⟨A6,n6,c6,rfl,H'⟩
 have H:=H.callA H' ⟨fun _ _ _ _ _ h=>h,trivial⟩
 refine (A) (Z (Y (R ((D 4) ((L H 1) ((NI H 5) fun hl1=>(V) (Z ?_)))))))
 refine (bb hr fun q1 hq1 hr=>?_)
 let d1:List Value:=[.string a1.Name,.string a1.Left,.slice A3 n3 c3,.bool a1.Literal,.slice A4 n4 c4,.slice A5 n5 c5]
 refine (lF hq1 (fun k1 _ _=>[(3,pB b2),(5,.slice A6 n6 c6),(12,.slice A4 n4 c4),(13,zN a1.Equations.length),(14,zN k1)]) (fun _ _ w=>HL F0 [] w0 w [Pr.R a0 [.slice A1 n1 c1,.slice A2 n2 c2],Pr.R a1 d1,Pr.S a0.Symbols (.slice A1 n1 c1),Pr.S a0.Rules (.slice A2 n2 c2),Pr.S a1.Right (.slice A3 n3 c3),Pr.S a1.Equations (.slice A4 n4 c4),Pr.S a1.Contributions (.slice A5 n5 c5)] [It.B b1 31 [.slice A1 n1 c1,.slice A2 n2 c2],It.B b2 47 d1,It.O 55 y1 (.slice A6 n6 c6)]) ()) ?_
 rintro k1 _ _ σ w4 hk1 hq1 H
 refine R ((B) (Z (Y ?_)))
 refine CW.condD rfl (fun h1=>?_) (fun h1=>?_)
 ·have hk2:=q0m h1
  obtain⟨x1,z1,hx1,hb1,hs1,ht1⟩:=q0y hq1 hk2
  refine K (Y ?_)
  refine CW.block (R ((V) ?_))
  obtain⟨b3,ob3,cb3,A7,n7,c7,hvb3,hI1,hS3,hI2,hI3,hI4,hI5,hS4,hS5,H⟩:=q1B H (i:=5) rfl hx1
  refine (J 9 hvb3 hx1) ((LA H 7) ((AH ze60 H) fun b4 w5 H=>(A) ((SB H 3) fun w6 H=>Z (R ((V) ((D 0) ?_))))))
  refine WL.ev rfl rfl (Ev.lda rfl ag55 sz55 rfl (Blk.part (H.rB (i:=3) rfl) 0 2) rfl) ?_
  refine (bb hb1 fun y2 hy2 hb1=>?_)
  refine (CA ok20 (q2A hy2 (ro H 2) ⟨rfl,hI1,hS3⟩)) (cE H fun w7 H=>(N) (jM hb1 (fun _ hb1=>?_) fun _ hb1=>?_))
  ·exact (O) ((O) ((O) ((O) ((O) ((O) ((T) (Z ((cT) (R ((A) (Z (W2 hb1 ht1 hr))))))))))))
  ·refine (G) ((D 4) ((G) ((L H 1) ((G) ((V) ((G) ?_))))))
   refine (gg hb1 fun hg1 hb1=>?_)
   obtain⟨A8,n8,c8,e1,hc1,H⟩:=H.slH (i:=5) rfl hg1
   refine WL.ev rfl rfl (Ev.slHV rfl el44 sz60 rfl rfl rfl hc1 e1) ((G) ?_)
   refine WL.ev rfl rfl (Ev.mkfL rfl rfl rfl) ((G) ?_)
   refine (bb hb1 fun y3 hy3 hb1=>?_)
   refine (CA ok140 (q4k hy3 (F0:=fun q=>q < _) (rs H 10) ⟨(H.rB (i:=3) rfl).lt,_,At.blk (H.rB (i:=3) rfl),⟨_,rfl,hI1,hS3,hI2,hI3,hI4,hI5,hS4,hS5,(rs H 9)⟩⟩)) (cE H fun w8 H=>(U) (Z (iB hb1 (fun _ hb1=>?_) fun _ hb1=>?_)))
   ·exact R ((A) (Z (W2 hb1 ht1 hr)))
   ·exact K (X ((AN hk2 hl1) ((V) (Z (I2 hb1 hs1 ⟨k1+1,(),()⟩)))))
 ·obtain rfl:=q0l hq1 (q0c h1)
  have hr:=(q0s _ _ _).symm.trans hr
  exact CE (R ((A) (Z (W1 hr))))
def q5u:Nat→Equation→(List Expr)→Option (List Expr):=fun k1 x1 s1=>grd (((s1.length:Int)+1)*88≤140737488355328∧(s1.length:Int)+1≤9223372036854775807) <| some (s1++[x1.Expr])
def q5v:Nat→Contribution→(List Expr)→Option (List Expr):=fun k2 x2 s2=>grd (((s2.length:Int)+([x2.Target,x2.Value].length:Int))*88≤140737488355328∧(s2.length:Int)+([x2.Target,x2.Value].length:Int)≤9223372036854775807) <| some (s2++[x2.Target,x2.Value])
def q4P (a0:Rule):Option (List Expr):=(eachL q5u 0 a0.Equations ([]:List Expr)).bind fun s1=>(eachL q5v 0 a0.Contributions s1).bind fun s2=>some s2
theorem q8W {a0}{r}(hr:q4P a0=some r){ca0}(ha0:rd F0 w0 a0 ca0):RT 37 #[.agg ca0.toArray] w0 fun v w=>∃ A0 n0 c0,v=(.slice A0 n0 c0)∧HL F0 [] w0 w [] [It.G 58 r (.slice A0 n0 c0)]:=by
 have H:=(HL.start F0 w0).argR ha0
 obtain⟨A1,n1,c1,A2,n2,c2,A3,n3,c3,rfl,hS1,hS2,H⟩:=q0z H (i:=0) rfl
 refine (En Tryz.func37) ?_
 refine R ((BX H) fun b1 w1 H=>(A) (Z (R ?_)))
 refine WL.lit0H (α:=Expr) rfl rfl rfl el56 sz58 H fun A4 n4 c4 w2 H=>?_
 have H:=H.toG (i:=1) rfl
 refine (A) (Z (Y (R ((D 4) ((L H 0) ((NI H 2) fun hl1=>(V) (Z ?_)))))))
 refine (bb hr fun q1 hq1 hr=>?_)
 let d1:List Value:=[.string a0.Name,.string a0.Left,.slice A1 n1 c1,.bool a0.Literal,.slice A2 n2 c2,.slice A3 n3 c3]
 let d2:List Pr:=[Pr.R a0 d1,Pr.S a0.Right (.slice A1 n1 c1),Pr.S a0.Equations (.slice A2 n2 c2),Pr.S a0.Contributions (.slice A3 n3 c3)]
 refine (lE hq1 (fun k1 s1 v1=>[(1,pB b1),(3,v1),(10,.slice A2 n2 c2),(11,zN a0.Equations.length),(12,zN k1)]) (fun s1 v1 w=>HL F0 [] w0 w d2 [It.B b1 47 d1,It.G 58 s1 v1]) (.slice A4 n4 c4)) ?_
 rintro k1 s1 v1 σ w3 hk1 hq1 H
 obtain⟨A5,n5,c5,rfl⟩:=(H.rG (i:=1) rfl).form3
 refine R ((B) (Z (Y ?_)))
 refine CW.condD rfl (fun h1=>?_) (fun h1=>?_)
 ·have hk2:=q0m h1
  obtain⟨x1,z1,hx1,hb1,hq1⟩:=q4w hq1 hk2
  refine K (Y ?_)
  refine CW.block (R ?_)
  obtain⟨b2,ob2,cb2,A6,n6,c6,hvb2,hI1,hS3,hI2,hI3,hI4,hI5,hS4,hS5,H⟩:=q1B H (i:=2) rfl hx1
  refine (J 9 hvb2 hx1) ((LA H 4) ((AH ze60 H) fun b3 w4 H=>(SB H 2) fun w5 H=>Z (X ((V) ((D 2) ?_)))))
  refine WL.ev rfl rfl (Ev.lda rfl ag58 sz58 rfl (Blk.part (H.rB (i:=2) rfl) 2 7) rfl) ?_
  refine WL.lit1 rfl rfl rfl el56 sz58 ze58 rfl rfl rfl rfl rfl rfl fun b4 w6 hE hb hB=>?_
  have H:=H.newB hE hb hB
  refine (gg hb1 fun hg1 hb1=>?_)
  exact WL.appG (i:=1) (ys:=[x1.Expr]) rfl rfl rfl el56 sz58 by58 ze58 rfl rfl rfl H rfl (fun F hF=>rdL.single (q0b.2 ⟨_,rfl,hI2,hI3,hI4,hI5,hS4,hS5,(hF.get (i:=6) rfl)⟩)) (.inr ⟨_,_,rfl,At.blk (H.rB (i:=3) rfl)⟩) hg1 fun A7 n7 c7 w7 H=>(A) (Z (X ((AN hk2 hl1) ((V) (Z (I1 hb1 ⟨k1+1,(s1++[x1.Expr]),(.slice A7 n7 c7)⟩))))))
 ·obtain rfl:=q3w hq1 (q0c h1)
  refine CE (Y (R ((D 5) ((L H 0) ((NI H 3) fun hl2=>(V) (Z ?_))))))
  refine (bb hr fun q2 hq2 hr=>?_)
  refine (lE hq2 (fun k2 s2 v2=>[(3,v2),(23,.slice A3 n3 c3),(24,zN a0.Contributions.length),(25,zN k2)]) (fun s2 v2 w=>HL F0 [] w0 w d2 [It.B b1 47 d1,It.G 58 s2 v2]) (.slice A5 n5 c5)) ?_
  rintro k2 s2 v2 σ w8 hk3 hq2 H
  obtain⟨A8,n8,c8,rfl⟩:=(H.rG (i:=1) rfl).form3
  refine R ((B) (Z (Y ?_)))
  refine CW.condD rfl (fun h2=>?_) (fun h2=>?_)
  ·have hk4:=q0m h2
   obtain⟨x2,z2,hx2,hb2,hq2⟩:=q4w hq2 hk4
   refine K (Y ?_)
   refine CW.block (R ?_)
   obtain⟨b5,ob5,cb5,A9,n9,c9,A10,n10,c10,hvb5,hS6,hS7,hI6,hI7,hI8,hI9,hS8,hS9,hI10,hI11,hI12,hI13,hS10,hS11,H⟩:=q3i H (i:=3) rfl hx2
   refine (J 16 hvb5 hx2) ((LA H 4) ((AH ze111 H) fun b6 w9 H=>(SB H 2) fun w10 H=>Z (X ((V) ((D 2) ?_)))))
   refine WL.ev rfl rfl (Ev.lda rfl ag58 sz58 rfl (Blk.part (H.rB (i:=2) rfl) 2 7) rfl) ((D 9) ?_)
   refine WL.ev rfl rfl (Ev.lda rfl ag58 sz58 rfl (Blk.part (H.rB (i:=2) rfl) 9 7) rfl) ?_
   refine WL.litG (xs:=[x2.Target,x2.Value]) (vs:=[.agg #[.int .i64 x2.Target.Kind,.int .i64 x2.Target.N,.int .i64 x2.Target.Pos,.int .i64 x2.Target.Type_,.string x2.Target.Symbol,.string x2.Target.Name,.slice A9 n9 c9],.agg #[.int .i64 x2.Value.Kind,.int .i64 x2.Value.N,.int .i64 x2.Value.Pos,.int .i64 x2.Value.Type_,.string x2.Value.Symbol,.string x2.Value.Name,.slice A10 n10 c10]]) (css:=[[.int .i64 x2.Target.Kind,.int .i64 x2.Target.N,.int .i64 x2.Target.Pos,.int .i64 x2.Target.Type_,.string x2.Target.Symbol,.string x2.Target.Name,.slice A9 n9 c9],[.int .i64 x2.Value.Kind,.int .i64 x2.Value.N,.int .i64 x2.Value.Pos,.int .i64 x2.Value.Type_,.string x2.Value.Symbol,.string x2.Value.Name,.slice A10 n10 c10]]) rfl rfl rfl el56 sz58 ze58 rfl rfl ⟨rfl,rfl,⟨rfl,rfl,trivial⟩⟩ rfl rfl rfl rfl (fun F hF=>(rdL.consK (α:=Expr) (q0b.2 ⟨_,rfl,hI6,hI7,hI8,hI9,hS8,hS9,(hF.get (i:=6) rfl)⟩) (rdL.consK (α:=Expr) (q0b.2 ⟨_,rfl,hI10,hI11,hI12,hI13,hS10,hS11,(hF.get (i:=7) rfl)⟩) rfl))) rfl rfl H fun A11 n11 c11 w11 H=>?_
   have H:=H.frzG (i:=3) rfl
   refine (gg hb2 fun hg2 hb2=>?_)
   exact WL.appGS (i:=1) (j:=8) rfl rfl rfl el56 sz58 by58 ze58 rfl rfl rfl H rfl rfl hg2 fun A12 n12 c12 w12 H=>(A) (Z (X ((AN hk4 hl2) ((V) (Z (I1 hb2 ⟨k2+1,(s2++[x2.Target,x2.Value]),(.slice A12 n12 c12)⟩))))))
  ·obtain rfl:=q3w hq2 (q0c h2)
   exact CE (R ((V) ((A) (Z (W1 hr)))))
def q4g (a0:Expr)(o1:(List Occurrence)):Option (Bool × (List Occurrence)):=if a0.Kind=3 then grd (((o1.length:Int)+1)*24≤140737488355328∧(o1.length:Int)+1≤9223372036854775807) <| some (true,(o1++[(⟨a0.Pos,a0.Name⟩:Occurrence)])) else some (true,o1)
theorem q9K {a0}{o1}{r}(hr:q4g a0 o1=some r){bo1:Nat}{Aa0_6:Option Addr}{na0_6 ca0_6:Nat}{Ao1_0:Option Addr}{no1_0 co1_0:Nat}(hIa0_0:I64 a0.Kind)(hIa0_1:I64 a0.N)(hIa0_2:I64 a0.Pos)(hIa0_3:I64 a0.Type_)(hIa0_4:a0.Symbol.size≤9223372036854775807)(hIa0_5:a0.Name.size≤9223372036854775807)(H:HL F0 M w0 w0 [Pr.S a0.Args (.slice Aa0_6 na0_6 ca0_6)] [It.O 55 o1 (.slice Ao1_0 no1_0 co1_0),It.B bo1 52 [.slice Ao1_0 no1_0 co1_0]]):RM 112 #[.agg #[.int .i64 a0.Kind,.int .i64 a0.N,.int .i64 a0.Pos,.int .i64 a0.Type_,.string a0.Symbol,.string a0.Name,.slice Aa0_6 na0_6 ca0_6],pB bo1] M w0 fun v w=>∃ A0 n0 c0,v = .bool r.1∧HL F0 M w0 w [] [It.O 55 r.2 (.slice A0 n0 c0),It.B bo1 52 [(.slice A0 n0 c0)]]:=by
 refine (En Tryz.func112) ?_
 refine R ((BX H) fun b1 w1 H=>(A) (Z (Y (R ((D 0) ((L H 2) ((B) (Z (iD hr (fun _ hr=>?_) fun _ hr=>?_)))))))))
 ·refine X ((L H 1) ((D 2) ((L H 2) ((D 5) ((L H 2) ?_)))))
  refine WL.ev rfl rfl (Ev.build rfl pl55 ze55 rfl rfl rfl rfl) ?_
  refine WL.lit1 rfl rfl rfl el52 sz55 ze55 rfl rfl rfl rfl rfl rfl fun b2 w2 hE hb hB=>?_
  have H:=H.newB hE hb hB
  refine (gg hr fun hg1 hr=>?_)
  exact WL.appO (i:=0) (ys:=[(⟨a0.Pos,a0.Name⟩:Occurrence)]) rfl rfl rfl el52 sz55 by55 ze55 rfl rfl rfl H rfl (fun _=>ownL.single ⟨rfl,hIa0_2,hIa0_5,rfl⟩) (.inr ⟨_,_,rfl,At.blk (H.rB (i:=3) rfl)⟩) hg1 fun A1 n1 c1 w3 H=>(SB H 1) fun w4 H=>Z (R ((A) (Z (W1 hr))))
 ·exact K (R ((A) (Z (W1 hr))))
def q2n (rec_ieveryNode_iAttributeUses_1:Expr→(List Occurrence)→Option (Bool × (List Occurrence)))(a0:Expr)(o1:(List Occurrence)):Option (Bool × (List Occurrence)):=(rec_ieveryNode_iAttributeUses_1 a0 o1).bind fun (y1,z1)=>some (!y1,z1)
theorem q5B {rec_ieveryNode_iAttributeUses_1:Expr→(List Occurrence)→Option (Bool × (List Occurrence))}(ih_ieveryNode_iAttributeUses_1:∀ {a0:Expr}{o1:(List Occurrence)}{r:(Bool × (List Occurrence))},rec_ieveryNode_iAttributeUses_1 a0 o1=some r→∀ {F0:Nat→Prop}{M:List Nat}{w0:World}{bo1:Nat}{Aa0_6:Option Addr}{na0_6 ca0_6:Nat}{Ao1_0:Option Addr}{no1_0 co1_0:Nat}(hIa0_0:I64 a0.Kind)(hIa0_1:I64 a0.N)(hIa0_2:I64 a0.Pos)(hIa0_3:I64 a0.Type_)(hIa0_4:a0.Symbol.size≤9223372036854775807)(hIa0_5:a0.Name.size≤9223372036854775807)(H:HL F0 M w0 w0 [Pr.S a0.Args (.slice Aa0_6 na0_6 ca0_6)] [It.O 55 o1 (.slice Ao1_0 no1_0 co1_0),It.B bo1 52 [.slice Ao1_0 no1_0 co1_0]]),RM 72 #[.agg #[.int .i64 a0.Kind,.int .i64 a0.N,.int .i64 a0.Pos,.int .i64 a0.Type_,.string a0.Symbol,.string a0.Name,.slice Aa0_6 na0_6 ca0_6],.func (.func 112) #[] #[pB bo1]] M w0 fun v w=>∃ A0 n0 c0,v = .bool r.1∧HL F0 M w0 w [] [It.O 55 r.2 (.slice A0 n0 c0),It.B bo1 52 [(.slice A0 n0 c0)]]){a0}{o1}{r}(hr:q2n rec_ieveryNode_iAttributeUses_1 a0 o1=some r){bo1 bo2:Nat}{Aa0_6:Option Addr}{na0_6 ca0_6:Nat}{Ao1_0:Option Addr}{no1_0 co1_0:Nat}(hIa0_0:I64 a0.Kind)(hIa0_1:I64 a0.N)(hIa0_2:I64 a0.Pos)(hIa0_3:I64 a0.Type_)(hIa0_4:a0.Symbol.size≤9223372036854775807)(hIa0_5:a0.Name.size≤9223372036854775807)(H:HL F0 M w0 w0 [Pr.S a0.Args (.slice Aa0_6 na0_6 ca0_6)] [It.O 55 o1 (.slice Ao1_0 no1_0 co1_0),It.B bo1 52 [.slice Ao1_0 no1_0 co1_0],It.B bo2 82 [.func (.func 112) #[] #[pB bo1]]]):RM 111 #[.agg #[.int .i64 a0.Kind,.int .i64 a0.N,.int .i64 a0.Pos,.int .i64 a0.Type_,.string a0.Symbol,.string a0.Name,.slice Aa0_6 na0_6 ca0_6],pB bo2] M w0 fun v w=>∃ A0 n0 c0,v = .bool r.1∧HL F0 M w0 w [] [It.O 55 r.2 (.slice A0 n0 c0),It.B bo1 52 [(.slice A0 n0 c0)],It.B bo2 82 [.func (.func 112) #[] #[pB bo1]]]:=by
 refine (En Tryz.func111) ?_
 refine R ((BX H) fun b1 w1 H=>(A) (Z (R ((LB H 3) ((L H 2) ?_)))))
 obtain⟨⟨y1,z1⟩,hy1,hr⟩:=bd hr
 obtain⟨F',M',hfF,hoF,hcM⟩:=H.callN [true,true,false,false] ⟨noO,noB,trivial⟩
 obtain⟨H',hcN⟩:=hcM (ps:=[Pr.S a0.Args (.slice Aa0_6 na0_6 ca0_6)]) ⟨hfF.get (i:=0) rfl,trivial⟩
 refine (CA ok72 (ih_ieveryNode_iAttributeUses_1 hy1 hIa0_0 hIa0_1 hIa0_2 hIa0_3 hIa0_4 hIa0_5 H')) ?_
 rintro _ w2 hE ⟨A1,n1,c1,rfl,H'⟩
 have H:=hcN 2 H' rfl ⟨fun _ _ _ _ _ h=>h,⟨fun _ _ _ _ _ h=>h,trivial⟩⟩
 exact (N) ((A) (Z (W1 hr)))
def q0w (rec_ieveryNode_iAttributeUses_1:Expr→(List Occurrence)→Option (Bool × (List Occurrence))):Nat→Expr→(List Occurrence)→Option (((List Occurrence)) ⊕ (Int × (List Occurrence))):=fun k1 x1 s1=>(q2n rec_ieveryNode_iAttributeUses_1 x1 s1).bind fun (y1,z2)=>if y1=true then some (.inr ((k1:Int),z2)) else some (.inl z2)
def q0A (rec_ieveryNode_iAttributeUses_1:Expr→(List Occurrence)→Option (Bool × (List Occurrence)))(a0:(List Expr))(o1:(List Occurrence)):Option (Int × (List Occurrence)):=(findL (q0w rec_ieveryNode_iAttributeUses_1) 0 a0 o1).bind <| onr (fun r1=>some r1) fun s1=>some ((-1),s1)
theorem q2F {rec_ieveryNode_iAttributeUses_1:Expr→(List Occurrence)→Option (Bool × (List Occurrence))}(ih_ieveryNode_iAttributeUses_1:∀ {a0:Expr}{o1:(List Occurrence)}{r:(Bool × (List Occurrence))},rec_ieveryNode_iAttributeUses_1 a0 o1=some r→∀ {F0:Nat→Prop}{M:List Nat}{w0:World}{bo1:Nat}{Aa0_6:Option Addr}{na0_6 ca0_6:Nat}{Ao1_0:Option Addr}{no1_0 co1_0:Nat}(hIa0_0:I64 a0.Kind)(hIa0_1:I64 a0.N)(hIa0_2:I64 a0.Pos)(hIa0_3:I64 a0.Type_)(hIa0_4:a0.Symbol.size≤9223372036854775807)(hIa0_5:a0.Name.size≤9223372036854775807)(H:HL F0 M w0 w0 [Pr.S a0.Args (.slice Aa0_6 na0_6 ca0_6)] [It.O 55 o1 (.slice Ao1_0 no1_0 co1_0),It.B bo1 52 [.slice Ao1_0 no1_0 co1_0]]),RM 72 #[.agg #[.int .i64 a0.Kind,.int .i64 a0.N,.int .i64 a0.Pos,.int .i64 a0.Type_,.string a0.Symbol,.string a0.Name,.slice Aa0_6 na0_6 ca0_6],.func (.func 112) #[] #[pB bo1]] M w0 fun v w=>∃ A0 n0 c0,v = .bool r.1∧HL F0 M w0 w [] [It.O 55 r.2 (.slice A0 n0 c0),It.B bo1 52 [(.slice A0 n0 c0)]]){a0}{o1}{r}(hr:q0A rec_ieveryNode_iAttributeUses_1 a0 o1=some r){bo1 bo2:Nat}{Aa0:Option Addr}{na0 ca0:Nat}{Ao1_0:Option Addr}{no1_0 co1_0:Nat}(H:HL F0 M w0 w0 [Pr.S a0 (.slice Aa0 na0 ca0)] [It.O 55 o1 (.slice Ao1_0 no1_0 co1_0),It.B bo1 52 [.slice Ao1_0 no1_0 co1_0],It.B bo2 82 [.func (.func 112) #[] #[pB bo1]]]):RM 71 #[.slice Aa0 na0 ca0,.func (.func 111) #[] #[pB bo2]] M w0 fun v w=>∃ A0 n0 c0,v = .int .i64 r.1∧I64 r.1∧HL F0 M w0 w [] [It.O 55 r.2 (.slice A0 n0 c0),It.B bo1 52 [(.slice A0 n0 c0)],It.B bo2 82 [.func (.func 112) #[] #[pB bo1]]]:=by
 refine (En Tryz.func71) ?_
 refine R ((A) (Z (Y (R ((V) ((NI H 0) fun hl1=>(V) (Z ?_)))))))
 refine (bb hr fun q1 hq1 hr=>?_)
 refine (lF hq1 (fun k1 s1 v1=>[(0,.slice Aa0 na0 ca0),(1,.func (.func 111) #[] #[pB bo2]),(7,zN a0.length),(8,zN k1)]) (fun s1 v1 w=>HL F0 M w0 w [Pr.S a0 (.slice Aa0 na0 ca0)] [It.O 55 s1 v1,It.B bo1 52 [v1],It.B bo2 82 [.func (.func 112) #[] #[pB bo1]]]) (.slice Ao1_0 no1_0 co1_0)) ?_
 rintro k1 s1 v1 σ w1 hk1 hq1 H
 obtain⟨A1,n1,c1,rfl⟩:=(H.rO (i:=0) rfl).form3
 refine R ((B) (Z (Y ?_)))
 refine CW.condD rfl (fun h1=>?_) (fun h1=>?_)
 ·have hk2:=q0m h1
  obtain⟨x1,z1,hx1,hb1,hs1,ht1⟩:=q0y hq1 hk2
  refine K (Y ?_)
  refine CW.block (R ((V) ((A) (Z (R ((V) ((V) ((V) ?_))))))))
  obtain⟨b1,ob1,cb1,A2,n2,c2,hvb1,hI1,hI2,hI3,hI4,hS1,hS2,H⟩:=q0u H (i:=0) rfl hx1
  refine (J 7 hvb1 hx1) ((LA H 1) ?_)
  obtain⟨⟨y1,z2⟩,hy1,hb1⟩:=bd hb1
  obtain⟨F',M',hfF,hoF,hcM⟩:=H.callN [true,true,true] ⟨noO,noB,noB,trivial⟩
  obtain⟨H',hcN⟩:=hcM (ps:=[Pr.S x1.Args (.slice A2 n2 c2)]) ⟨hfF.get (i:=3) rfl,trivial⟩
  refine (CA ok111 (q5B ih_ieveryNode_iAttributeUses_1 hy1 hI1 hI2 hI3 hI4 hS1 hS2 H')) ?_
  rintro _ w2 hE ⟨A3,n3,c3,rfl,H'⟩
  have H:=hcN 3 H' rfl ⟨fun _ _ _ _ _ h=>h,⟨fun _ _ _ _ _ h=>h,⟨fun _ _ _ _ _ h=>h,trivial⟩⟩⟩
  refine Z (iB hb1 (fun _ hb1=>?_) fun _ hb1=>?_)
  ·exact R ((V) ((A) (Z (W2 hb1 ht1 hr))))
  ·exact K (X ((AN hk2 hl1) ((V) (Z (I2 hb1 hs1 ⟨k1+1,z2,(.slice A3 n3 c3)⟩)))))
 ·obtain rfl:=q0l hq1 (q0c h1)
  have hr:=(q0s _ _ _).symm.trans hr
  exact CE (R ((A) (Z (W1 hr))))
def q0t (rec_ieveryNode_iAttributeUses_1:Expr→(List Occurrence)→Option (Bool × (List Occurrence)))(a0:(List Expr))(o1:(List Occurrence)):Option (Bool × (List Occurrence)):=(q0A rec_ieveryNode_iAttributeUses_1 a0 o1).bind fun (y1,z1)=>some (decide (0≤y1),z1)
theorem q2u {rec_ieveryNode_iAttributeUses_1:Expr→(List Occurrence)→Option (Bool × (List Occurrence))}(ih_ieveryNode_iAttributeUses_1:∀ {a0:Expr}{o1:(List Occurrence)}{r:(Bool × (List Occurrence))},rec_ieveryNode_iAttributeUses_1 a0 o1=some r→∀ {F0:Nat→Prop}{M:List Nat}{w0:World}{bo1:Nat}{Aa0_6:Option Addr}{na0_6 ca0_6:Nat}{Ao1_0:Option Addr}{no1_0 co1_0:Nat}(hIa0_0:I64 a0.Kind)(hIa0_1:I64 a0.N)(hIa0_2:I64 a0.Pos)(hIa0_3:I64 a0.Type_)(hIa0_4:a0.Symbol.size≤9223372036854775807)(hIa0_5:a0.Name.size≤9223372036854775807)(H:HL F0 M w0 w0 [Pr.S a0.Args (.slice Aa0_6 na0_6 ca0_6)] [It.O 55 o1 (.slice Ao1_0 no1_0 co1_0),It.B bo1 52 [.slice Ao1_0 no1_0 co1_0]]),RM 72 #[.agg #[.int .i64 a0.Kind,.int .i64 a0.N,.int .i64 a0.Pos,.int .i64 a0.Type_,.string a0.Symbol,.string a0.Name,.slice Aa0_6 na0_6 ca0_6],.func (.func 112) #[] #[pB bo1]] M w0 fun v w=>∃ A0 n0 c0,v = .bool r.1∧HL F0 M w0 w [] [It.O 55 r.2 (.slice A0 n0 c0),It.B bo1 52 [(.slice A0 n0 c0)]]){a0}{o1}{r}(hr:q0t rec_ieveryNode_iAttributeUses_1 a0 o1=some r){bo1 bo2:Nat}{Aa0:Option Addr}{na0 ca0:Nat}{Ao1_0:Option Addr}{no1_0 co1_0:Nat}(H:HL F0 M w0 w0 [Pr.S a0 (.slice Aa0 na0 ca0)] [It.O 55 o1 (.slice Ao1_0 no1_0 co1_0),It.B bo1 52 [.slice Ao1_0 no1_0 co1_0],It.B bo2 82 [.func (.func 112) #[] #[pB bo1]]]):RM 36 #[.slice Aa0 na0 ca0,.func (.func 111) #[] #[pB bo2]] M w0 fun v w=>∃ A0 n0 c0,v = .bool r.1∧HL F0 M w0 w [] [It.O 55 r.2 (.slice A0 n0 c0),It.B bo1 52 [(.slice A0 n0 c0)],It.B bo2 82 [.func (.func 112) #[] #[pB bo1]]]:=by
 refine (En Tryz.func36) ?_
 refine R ((A) (Z (R ((V) ((V) ?_)))))
 obtain⟨⟨y1,z1⟩,hy1,hr⟩:=bd hr
 obtain⟨F',M',hfF,hoF,hcM⟩:=H.callN [true,true,true] ⟨noO,noB,noB,trivial⟩
 obtain⟨H',hcN⟩:=hcM (ps:=[Pr.S a0 (.slice Aa0 na0 ca0)]) ⟨hfF.get (i:=0) rfl,trivial⟩
 refine (CA ok71 (q2F ih_ieveryNode_iAttributeUses_1 hy1 H')) ?_
 rintro _ w1 hE ⟨A1,n1,c1,rfl,hI1,H'⟩
 have H:=hcN 3 H' rfl ⟨fun _ _ _ _ _ h=>h,⟨fun _ _ _ _ _ h=>h,⟨fun _ _ _ _ _ h=>h,trivial⟩⟩⟩
 exact (B) ((A) (Z (W1 hr)))
def q1K (rec_ieveryNode_iAttributeUses_1:Expr→(List Occurrence)→Option (Bool × (List Occurrence)))(a0:Expr)(o1:(List Occurrence)):Option (Bool × (List Occurrence)):=(q4g a0 o1).bind fun (y1,z1)=>if y1=true then (q0t rec_ieveryNode_iAttributeUses_1 a0.Args z1).bind fun (y2,z2)=>some (!y2,z2) else some (false,z1)
theorem q5G {rec_ieveryNode_iAttributeUses_1:Expr→(List Occurrence)→Option (Bool × (List Occurrence))}(ih_ieveryNode_iAttributeUses_1:∀ {a0:Expr}{o1:(List Occurrence)}{r:(Bool × (List Occurrence))},rec_ieveryNode_iAttributeUses_1 a0 o1=some r→∀ {F0:Nat→Prop}{M:List Nat}{w0:World}{bo1:Nat}{Aa0_6:Option Addr}{na0_6 ca0_6:Nat}{Ao1_0:Option Addr}{no1_0 co1_0:Nat}(hIa0_0:I64 a0.Kind)(hIa0_1:I64 a0.N)(hIa0_2:I64 a0.Pos)(hIa0_3:I64 a0.Type_)(hIa0_4:a0.Symbol.size≤9223372036854775807)(hIa0_5:a0.Name.size≤9223372036854775807)(H:HL F0 M w0 w0 [Pr.S a0.Args (.slice Aa0_6 na0_6 ca0_6)] [It.O 55 o1 (.slice Ao1_0 no1_0 co1_0),It.B bo1 52 [.slice Ao1_0 no1_0 co1_0]]),RM 72 #[.agg #[.int .i64 a0.Kind,.int .i64 a0.N,.int .i64 a0.Pos,.int .i64 a0.Type_,.string a0.Symbol,.string a0.Name,.slice Aa0_6 na0_6 ca0_6],.func (.func 112) #[] #[pB bo1]] M w0 fun v w=>∃ A0 n0 c0,v = .bool r.1∧HL F0 M w0 w [] [It.O 55 r.2 (.slice A0 n0 c0),It.B bo1 52 [(.slice A0 n0 c0)]]){a0}{o1}{r}(hr:q1K rec_ieveryNode_iAttributeUses_1 a0 o1=some r){bo1:Nat}{Aa0_6:Option Addr}{na0_6 ca0_6:Nat}{Ao1_0:Option Addr}{no1_0 co1_0:Nat}(hIa0_0:I64 a0.Kind)(hIa0_1:I64 a0.N)(hIa0_2:I64 a0.Pos)(hIa0_3:I64 a0.Type_)(hIa0_4:a0.Symbol.size≤9223372036854775807)(hIa0_5:a0.Name.size≤9223372036854775807)(H:HL F0 M w0 w0 [Pr.S a0.Args (.slice Aa0_6 na0_6 ca0_6)] [It.O 55 o1 (.slice Ao1_0 no1_0 co1_0),It.B bo1 52 [.slice Ao1_0 no1_0 co1_0]]):RM 72 #[.agg #[.int .i64 a0.Kind,.int .i64 a0.N,.int .i64 a0.Pos,.int .i64 a0.Type_,.string a0.Symbol,.string a0.Name,.slice Aa0_6 na0_6 ca0_6],.func (.func 112) #[] #[pB bo1]] M w0 fun v w=>∃ A0 n0 c0,v = .bool r.1∧HL F0 M w0 w [] [It.O 55 r.2 (.slice A0 n0 c0),It.B bo1 52 [(.slice A0 n0 c0)]]:=by
 refine (En Tryz.func72) ?_
 refine R ((BX H) fun b1 w1 H=>(BX H) fun b2 w2 H=>(A) (Z (R ((L H 3) ((LB H 2) ?_)))))
 obtain⟨⟨y1,z1⟩,hy1,hr⟩:=bd hr
 obtain⟨F',M',hfF,hoF,hcM⟩:=H.callN [true,true,false,false] ⟨noO,noB,trivial⟩
 obtain⟨H',hcN⟩:=hcM (ps:=[Pr.S a0.Args (.slice Aa0_6 na0_6 ca0_6)]) ⟨hfF.get (i:=0) rfl,trivial⟩
 refine (CA ok112 (q9K hy1 hIa0_0 hIa0_1 hIa0_2 hIa0_3 hIa0_4 hIa0_5 H')) ?_
 rintro _ w3 hE ⟨A1,n1,c1,rfl,H'⟩
 have H:=hcN 2 H' rfl ⟨fun _ _ _ _ _ h=>h,⟨fun _ _ _ _ _ h=>h,trivial⟩⟩
 refine jB hr (fun _ hr=>?_) fun _ hr=>?_
 ·refine (G) ((D 6) ((G) ((L H 2) ((G) ?_))))
  refine WL.ev rfl rfl (Ev.mkfL rfl rfl rfl) ((G) ?_)
  obtain⟨⟨y2,z2⟩,hy2,hr⟩:=bd hr
  obtain⟨F',M',hfF,hoF,hcM⟩:=H.callN [true,true,false,true] ⟨noO,noB,noB,trivial⟩
  obtain⟨H',hcN⟩:=hcM (ps:=[Pr.S a0.Args (.slice Aa0_6 na0_6 ca0_6)]) ⟨hfF.get (i:=0) rfl,trivial⟩
  refine (CA ok36 (q2u ih_ieveryNode_iAttributeUses_1 hy2 H')) ?_
  rintro _ w4 hE ⟨A2,n2,c2,rfl,H'⟩
  have H:=hcN 3 H' rfl ⟨fun _ _ _ _ _ h=>h,⟨fun _ _ _ _ _ h=>h,⟨fun _ _ _ _ _ h=>h,trivial⟩⟩⟩
  exact (G) ((N) ((T) ((A) (Z (W1 hr)))))
 ·exact (O) ((O) ((O) ((O) ((O) ((U) ((A) (Z (W1 hr))))))))
def q0G:Nat→Expr→(List Occurrence)→Option (Bool × (List Occurrence))
  | 0,_,_=>none
  | n+1,a0,o1=>q1K (q0G n) a0 o1
def q2B (a0:Expr)(o1:(List Occurrence)):Option (Bool × (List Occurrence)):=recO fun n=>q0G n a0 o1
theorem q5H (n:Nat):∀ {a0:Expr}{o1:(List Occurrence)}{r:(Bool × (List Occurrence))},q0G n a0 o1=some r→∀ {F0:Nat→Prop}{M:List Nat}{w0:World}{bo1:Nat}{Aa0_6:Option Addr}{na0_6 ca0_6:Nat}{Ao1_0:Option Addr}{no1_0 co1_0:Nat}(hIa0_0:I64 a0.Kind)(hIa0_1:I64 a0.N)(hIa0_2:I64 a0.Pos)(hIa0_3:I64 a0.Type_)(hIa0_4:a0.Symbol.size≤9223372036854775807)(hIa0_5:a0.Name.size≤9223372036854775807)(H:HL F0 M w0 w0 [Pr.S a0.Args (.slice Aa0_6 na0_6 ca0_6)] [It.O 55 o1 (.slice Ao1_0 no1_0 co1_0),It.B bo1 52 [.slice Ao1_0 no1_0 co1_0]]),RM 72 #[.agg #[.int .i64 a0.Kind,.int .i64 a0.N,.int .i64 a0.Pos,.int .i64 a0.Type_,.string a0.Symbol,.string a0.Name,.slice Aa0_6 na0_6 ca0_6],.func (.func 112) #[] #[pB bo1]] M w0 fun v w=>∃ A0 n0 c0,v = .bool r.1∧HL F0 M w0 w [] [It.O 55 r.2 (.slice A0 n0 c0),It.B bo1 52 [(.slice A0 n0 c0)]]:=by
 induction n with
 | zero=>intro a0 o1 r hr; exact nomatch (show (none:Option (Bool × (List Occurrence)))=some r from hr)
 | succ n ih=>intro a0 o1 r hr; exact q5G ih hr
theorem q6h {a0}{o1}{r}(hr:q2B a0 o1=some r){bo1:Nat}{Aa0_6:Option Addr}{na0_6 ca0_6:Nat}{Ao1_0:Option Addr}{no1_0 co1_0:Nat}(hIa0_0:I64 a0.Kind)(hIa0_1:I64 a0.N)(hIa0_2:I64 a0.Pos)(hIa0_3:I64 a0.Type_)(hIa0_4:a0.Symbol.size≤9223372036854775807)(hIa0_5:a0.Name.size≤9223372036854775807)(H:HL F0 M w0 w0 [Pr.S a0.Args (.slice Aa0_6 na0_6 ca0_6)] [It.O 55 o1 (.slice Ao1_0 no1_0 co1_0),It.B bo1 52 [.slice Ao1_0 no1_0 co1_0]]):RM 72 #[.agg #[.int .i64 a0.Kind,.int .i64 a0.N,.int .i64 a0.Pos,.int .i64 a0.Type_,.string a0.Symbol,.string a0.Name,.slice Aa0_6 na0_6 ca0_6],.func (.func 112) #[] #[pB bo1]] M w0 fun v w=>∃ A0 n0 c0,v = .bool r.1∧HL F0 M w0 w [] [It.O 55 r.2 (.slice A0 n0 c0),It.B bo1 52 [(.slice A0 n0 c0)]]:=by
 obtain⟨n,hn⟩:=q2f hr
 exact q5H n hn hIa0_0 hIa0_1 hIa0_2 hIa0_3 hIa0_4 hIa0_5 H
def q2N (a0:(List Occurrence)):Option (List Occurrence):=grd (a0.length < 4611686018427387904) <| some (sortO a0)
theorem q6i {a0 r}(hr:q2N a0=some r){A0:Option Addr}{n0 c0:Nat}(H:HL F0 M w0 w0 [] [It.O 55 a0 (.slice A0 n0 c0)]):RM 113 #[.slice A0 n0 c0,.func (.func 114) #[] #[]] M w0 fun v w=>v = .tuple #[]∧HL F0 M w0 w [] [It.O 55 r (.slice A0 n0 c0)]:=by
 refine (gg hr fun hg hr=>?_)
 obtain rfl:=sm hr
 exact z8O hg H
def q0p (s1:Int):((List Occurrence) × Int × Int)→Option (((List Occurrence) × Int × Int) ⊕ ((List Occurrence) × Int)):=fun (s4,s5,s6)=>if s6 < ((s4.drop s1.toNat).length:Int) then ( grd (0≤s6) <| (s4[(s1.toNat+s6.toNat)]?).bind fun x3=>grd (I64 (s6 - 1)) <| grd (0≤(s6 - 1)) <| (s4[(s1.toNat+((s6 - 1).toNat))]?).bind fun x4=>if x3=x4 then some (s5,s4) else grd (0≤s6) <| grd (0≤s5) <| (s4[s5.toNat]?).bind fun x5=>grd (I64 (s5+1)) <| some ((s5+1),(List.set s4 s5.toNat x3)) ).bind fun (s7,s8)=>grd (I64 (s6+1)) <| some (.inl (s8,s7,(s6+1))) else some (.inr (s4,s5))
def q0q (a0:(List Occurrence)):Int→Option (Int ⊕ (Unit ⊕ (List Occurrence))):=fun s1=>if s1 < (a0.length:Int) then grd (0≤s1) <| (a0[s1.toNat]?).bind fun x1=>grd (I64 (s1 - 1)) <| grd (0≤(s1 - 1)) <| (a0[(s1 - 1).toNat]?).bind fun x2=>if x1=x2 then grd (0≤s1) <| grd (s1.toNat≤a0.length) <| ( iterO (q0p s1) (a0,s1,1) ).bind fun (s2,s3)=>grd (0≤s3) <| grd (s3.toNat≤s2.length) <| grd (0≤s3) <| grd (s3.toNat≤(s2.take s3.toNat++List.replicate (s2.length - s3.toNat) (⟨(0:Int),(⟨#[]⟩:ByteArray)⟩:Occurrence)).length) <| some (.inr (.inr ((s2.take s3.toNat++List.replicate (s2.length - s3.toNat) (⟨(0:Int),(⟨#[]⟩:ByteArray)⟩:Occurrence)).take s3.toNat))) else grd (I64 (s1+1)) <| some (.inl (s1+1)) else some (.inr (.inl ()))
def q1Z (a0:(List Occurrence)):Option (List Occurrence):=if (a0.length:Int) < 2 then some a0 else ( iterO (q0q a0) 1 ).bind <| onr (fun r1=>some r1) fun ()=>some a0
theorem q6z {a0 r}(hr:q1Z a0=some r){Aa0:Option Addr}{na0 ca0:Nat}(H:HL F0 M w0 w0 [] [It.O 55 a0 (.slice Aa0 na0 ca0)]):RM 115 #[.slice Aa0 na0 ca0] M w0 fun v w=>∃ A0 n0 c0,v=(.slice A0 n0 c0)∧HL F0 M w0 w [] [It.O 55 r (.slice A0 n0 c0)]:=by
 refine (En Tryz.func115) ?_
 refine R ((A) (Z (Y (R ((V) ?_)))))
 have hl1:=(H.rO (i:=0) rfl).I
 refine (NN (ro H 0)) ((B) (Z (iD hr (fun _ hr=>?_) fun _ hr=>?_)))
 ·exact R ((V) ((A) (Z (W1 hr))))
 ·refine K (Y (R ((A) (Z ?_))))
  refine (bb hr fun q1 hm1 hr=>?_)
  refine CW.mid (fun ρ' w=>q1 = .inl ()∧agree ρ' [(0,.slice Aa0 na0 ca0)]∧HL F0 M w0 w [] [It.O 55 a0 (.slice Aa0 na0 ca0)]) ?_ ?_
  ·obtain⟨m1,hq1⟩:=q2m.1 hm1
   refine (lI hq1 (fun m1 s1 _=>[(0,.slice Aa0 na0 ca0),(3,.int .i64 s1)]) (fun s1 _ w=>I64 s1∧HL F0 M w0 w [] [It.O 55 a0 (.slice Aa0 na0 ca0)]) ()) ?_
   rintro m1 s1 _ σ w1 hq1 ⟨hI1,H⟩
   obtain⟨m2,z1,rfl,hb1,hs1,ht1⟩:=q4S hq1
   refine Y (R ((V) ((V) ((NN (ro H 0)) ((B) (Z (iD hb1 (fun _ hb1=>?_) fun _ hb1=>?_)))))))
   ·refine K (Y ?_)
    refine CW.block (Y ?_)
    refine CW.quiet hmix (by kernel_rfl) ?_
    refine (qV) ((qV) ?_)
    refine (gg hb1 fun hg1 hb1=>?_)
    refine (bb hb1 fun x1 hx1 hb1=>?_)
    obtain⟨b1,cb1,hvb1,hbb1⟩:=H.ptO (i:=0) rfl hx1
    refine QL.ev rfl rfl (fun _ _=>Ev.ixV rfl el52 sz55 rfl hvb1 rfl hg1 (lt_of hx1)) ?_
    obtain⟨hA1,hI2,hS1,H⟩:=q1S H (i:=0) rfl hx1 hbb1
    refine QL.ev rfl rfl (fun _ hq=>Ev.lda rfl ag55 sz55 rfl (hA1.ext hq) rfl) ?_
    refine (qV) ((qV) ?_)
    refine (gg hb1 fun hg2 hb1=>?_)
    refine (qBN (Bin.sub hg2)) ?_
    refine (gg hb1 fun hg3 hb1=>?_)
    refine (bb hb1 fun x2 hx2 hb1=>?_)
    obtain⟨b2,cb2,hvb2,hbb2⟩:=H.ptO (i:=0) rfl hx2
    refine QL.ev rfl rfl (fun _ _=>Ev.ixV rfl el52 sz55 rfl hvb2 rfl hg3 (lt_of hx2)) ?_
    obtain⟨hA2,hI3,hS2,H⟩:=q1S H (i:=0) rfl hx2 hbb2
    refine QL.ev rfl rfl (fun _ hq=>Ev.lda rfl ag55 sz55 rfl (hA2.ext hq) rfl) ?_
    refine (qBN (Bin.eqlF fl55 (q2Q x1 x2))) ?_
    refine QL.nil (fun w2 hE=>?_)
    have H:=H.ext hE
    refine iD hb1 (fun _ hb1=>?_) fun _ hb1=>?_
    ·refine R ((V) ((V) ?_))
     refine (gg hb1 fun hg4 hb1=>?_)
     refine (gg hb1 fun hg5 hb1=>?_)
     obtain⟨A1,n1,c1,e2,hc1⟩:=H.subO (i:=0) rfl hg5
     refine WL.ev rfl rfl (Ev.slLV rfl el52 sz55 rfl rfl ((Int.toNat_of_nonneg hg4).symm) hc1 e2) ((A) (Z (Y (R ((A) (Z ?_))))))
     refine (bb hb1 fun q2 hm2 hb1=>?_)
     let d1:List Pr:=[Pr.R x1 [.int .i64 x1.Pos,.string x1.Name],Pr.R x2 [.int .i64 x2.Pos,.string x2.Name]]
     refine CW.mid (fun ρ' w=>∃ (s2:List Occurrence) (s3:Int),q2=(s2,s3)∧agree ρ' [(0,.slice Aa0 na0 ca0),(3,.int .i64 s3)]∧I64 s3∧HL F0 M w0 w d1 [It.O 55 s2 (.slice Aa0 na0 ca0)]) ?_ ?_
     ·obtain⟨m3,hq2⟩:=q2m.1 hm2
      refine (lI hq2 (fun m3 ⟨s4,s5,s6⟩ _=>[(0,.slice Aa0 na0 ca0),(3,.int .i64 s5),(4,.slice A1 n1 c1),(5,.int .i64 s6)]) (fun ⟨s4,s5,s6⟩ _ w=>I64 s5∧I64 s6∧HL F0 M w0 w d1 [It.O 55 s4 (.slice Aa0 na0 ca0)]) ()) ?_
      rintro m3 ⟨s4,s5,s6⟩ _ σ w3 hq2 ⟨hI5,hI6,H⟩
      obtain⟨m4,z2,rfl,hb2,hs2,ht2⟩:=q4S hq2
      refine Y (R ((V) ((V) ?_)))
      have hl2:=((H.rO (i:=0) rfl).dropV hc1 e2).I
      refine WL.ev rfl rfl (Ev.lenV rfl el52 rfl ((H.rO (i:=0) rfl).dropV hc1 e2)) ((B) (Z (iD hb2 (fun _ hb2=>?_) fun _ hb2=>?_)))
      ·refine K ?_
       refine (bb hb2 fun q3 hm3 hb2=>Y ?_)
       refine CW.mid (fun ρ' w=>∃ (s7:Int) (s8:List Occurrence),q3=(s7,s8)∧agree ρ' [(0,.slice Aa0 na0 ca0),(3,.int .i64 s7),(4,.slice A1 n1 c1),(5,.int .i64 s6)]∧I64 s7∧HL F0 M w0 w d1 [It.O 55 s8 (.slice Aa0 na0 ca0)]) ?_ ?_
       ·refine CW.block (Y ?_)
        refine CW.quiet hmix (by kernel_rfl) ?_
        refine (qV) ((qV) ?_)
        refine (gg hm3 fun hg6 hm3=>?_)
        refine (bb hm3 fun x3 hx3 hm3=>?_)
        obtain⟨b3,mb3,cb3,hvb3,hmb3,hbb3⟩:=H.ptSub (i:=0) rfl e2 hx3
        refine QL.ev rfl rfl (fun _ _=>Ev.ixSub rfl el52 sz55 rfl hvb3 rfl hg6 hmb3) ?_
        obtain⟨hA3,hI8,hS3,H⟩:=q1S H (i:=0) rfl hx3 hbb3
        refine QL.ev rfl rfl (fun _ hq=>Ev.lda rfl ag55 sz55 rfl (hA3.ext hq) rfl) ?_
        refine (qV) ((qV) ?_)
        refine (gg hm3 fun hg7 hm3=>?_)
        refine (qBN (Bin.sub hg7)) ?_
        refine (gg hm3 fun hg8 hm3=>?_)
        refine (bb hm3 fun x4 hx4 hm3=>?_)
        obtain⟨b4,mb4,cb4,hvb4,hmb4,hbb4⟩:=H.ptSub (i:=0) rfl e2 hx4
        refine QL.ev rfl rfl (fun _ _=>Ev.ixSub rfl el52 sz55 rfl hvb4 rfl hg8 hmb4) ?_
        obtain⟨hA4,hI9,hS4,H⟩:=q1S H (i:=0) rfl hx4 hbb4
        refine QL.ev rfl rfl (fun _ hq=>Ev.lda rfl ag55 sz55 rfl (hA4.ext hq) rfl) ?_
        refine (qBN (Bin.neqF fl55 (q2Q x3 x4))) ?_
        refine QL.nil (fun w4 hE=>?_)
        have H:=H.ext hE
        refine iN hm3 (fun _ hm3=>?_) fun _ hm3=>?_
        ·refine R ((V) ((V) ((V) ((V) ?_))))
         refine (gg hm3 fun hg9 hm3=>?_)
         obtain⟨b5,mb5,cb5,hvb5,hmb5,hbb5⟩:=H.ptSub (i:=0) rfl e2 hx3
         refine WL.ev rfl rfl (Ev.ixSub rfl el52 sz55 rfl hvb5 rfl hg9 hmb5) ?_
         obtain⟨hA5,hI10,hS5,H⟩:=q1S H (i:=0) rfl hx3 hbb5
         refine WL.ev rfl rfl (Ev.lda rfl ag55 sz55 rfl hA5 rfl) ?_
         refine (gg hm3 fun hg10 hm3=>?_)
         refine (bb hm3 fun x5 hx5 hm3=>?_)
         obtain⟨b6,cb6,hvb6,hbb6⟩:=H.ptO (i:=0) rfl hx5
         refine WL.ev rfl rfl (Ev.ixV rfl el52 sz55 rfl hvb6 rfl hg10 (lt_of hx5)) ?_
         refine WL.stOf (i:=0) (z:=x3) rfl rfl rfl sz55 rfl rfl rfl (fun _=>⟨rfl,hI10,hS5,rfl⟩) H rfl hbb6 (by simpa using lt_of hx5) fun w5 H=>Z ?_
         refine CW.fresh [(0,.slice Aa0 na0 ca0),(3,.int .i64 s5),(4,.slice A1 n1 c1),(5,.int .i64 s6)] ⟨rfl,rfl,rfl,rfl,trivial⟩ fun σ=>?_
         have H:HL F0 M w0 w5 [Pr.R x1 [.int .i64 x1.Pos,.string x1.Name],Pr.R x2 [.int .i64 x2.Pos,.string x2.Name],Pr.R x3 [.int .i64 x3.Pos,.string x3.Name],Pr.R x4 [.int .i64 x4.Pos,.string x4.Name],Pr.R x3 [.int .i64 x3.Pos,.string x3.Name]] [It.O 55 (List.set s4 s5.toNat x3) (.slice Aa0 na0 ca0)]:=H
         refine X ((V) ?_)
         exact (gg hm3 fun hg11 hm3=>(BN (Bin.add hg11)) ((A) (Z (C1 hm3))))
        ·exact K (C1 hm3)
       ·rintro ρ' w6 ⟨s7,s8,rfl,hag,hI7,H⟩
        obtain⟨σ,rfl⟩:=ofL_ex hag
        refine X ((V) ?_)
        exact (gg hb2 fun hg12 hb2=>(BN (Bin.add hg12)) ((A) (Z (I2 hb2 hs2 ⟨m4,⟨s8,s7,(s6+1)⟩,()⟩))))
      ·exact CE (C2 hb2 ht2)
     ·rintro ρ' w7 ⟨s2,s3,rfl,hag,hI4,H⟩
      obtain⟨σ,rfl⟩:=ofL_ex hag
      refine R ((V) ((V) ?_))
      refine (gg hb1 fun hg13 hb1=>?_)
      refine (gg hb1 fun hg14 hb1=>?_)
      obtain⟨A2,n2,c2,e4,hc2⟩:=H.subO (i:=0) rfl hg14
      refine WL.ev rfl rfl (Ev.slLV rfl el52 sz55 rfl rfl ((Int.toNat_of_nonneg hg13).symm) hc2 e4) ?_
      refine WL.clrO (i:=0) (x0:=(⟨(0:Int),(⟨#[]⟩:ByteArray)⟩:Occurrence)) rfl rfl rfl el52 sz55 ze55 (fun _=>⟨rfl,(by decide:I64 0),(by decide:(⟨#[]⟩:ByteArray).size≤9223372036854775807),rfl⟩) rfl H rfl hc2 e4 fun w8 H=>Z (R ((V) ((V) ?_)))
      refine (gg hb1 fun hg15 hb1=>?_)
      refine (gg hb1 fun hg16 hb1=>?_)
      obtain⟨A3,n3,c3,e5,hc3,H⟩:=H.cutO (i:=0) rfl hg16
      exact WL.ev rfl rfl (Ev.slHV rfl el52 sz55 rfl rfl ((Int.toNat_of_nonneg hg15).symm) hc3 e5) ((A) (Z (W2 hb1 ht1 hr)))
    ·refine K (X ((V) ?_))
     exact (gg hb1 fun hg17 hb1=>(BN (Bin.add hg17)) ((A) (Z (I2 hb1 hs1 ⟨m2,(s1+1),()⟩))))
   ·exact CE (C2 hb1 ht1)
  ·rintro ρ' w9 ⟨rfl,hag,H⟩
   obtain⟨σ,rfl⟩:=ofL_ex hag
   exact R ((V) ((A) (Z (W1 hr))))
def q3W (a0:Expr):Option (List Occurrence):=(q2B a0 []).bind fun (y1,z1)=>(q2N z1).bind fun z2=>(q1Z z2).bind fun y2=>some y2
theorem q7L {a0}{r}(hr:q3W a0=some r){ca0}(ha0:rd F0 w0 a0 ca0):RT 83 #[.agg ca0.toArray] w0 fun v w=>∃ A0 n0 c0,v=(.slice A0 n0 c0)∧HL F0 [] w0 w [] [It.O 55 r (.slice A0 n0 c0)]:=by
 have H:=(HL.start F0 w0).argR ha0
 obtain⟨A1,n1,c1,rfl,hI1,hI2,hI3,hI4,hS1,hS2,H⟩:=q0X H (i:=0) rfl
 refine (En Tryz.func83) ?_
 refine R ((BX H) fun b1 w1 H=>(A) (Z (R ?_)))
 refine WL.lit0H (α:=Occurrence) rfl rfl rfl el52 sz55 H fun A2 n2 c2 w2 H=>(AH ze52 H) fun b2 w3 H=>(SB H 2) fun w4 H=>Z (R ((LB H 0) ?_))
 refine WL.ev rfl rfl (Ev.mkfL rfl rfl rfl) ?_
 obtain⟨⟨y1,z1⟩,hy1,hr⟩:=bd hr
 obtain⟨F',M',hfF,hoF,hcM⟩:=H.callN [false,true,true] ⟨noO,noB,trivial⟩
 obtain⟨H',hcN⟩:=hcM (ps:=[Pr.S a0.Args (.slice A1 n1 c1)]) ⟨hfF.get (i:=1) rfl,trivial⟩
 refine (CA ok72 (q6h hy1 hI1 hI2 hI3 hI4 hS1 hS2 H')) ?_
 rintro _ w5 hE ⟨A3,n3,c3,rfl,H'⟩
 have H:=hcN 2 H' rfl ⟨fun _ _ _ _ _ h=>h,⟨fun _ _ _ _ _ h=>h,trivial⟩⟩
 refine Z (R ((L H 2) ?_))
 refine (bb hr fun z2 hy2 hr=>?_)
 obtain⟨F',M',hfF,hoF,hcM⟩:=H.callN [false,true,false] ⟨noO,trivial⟩
 obtain⟨H',hcN⟩:=hcM (ps:=[]) trivial
 refine (CA ok113 (q6i hy2 H')) ?_
 rintro _ w6 hE ⟨rfl,H'⟩
 have H:=hcN 1 H' rfl ⟨fun _ _ _ _ _ h=>h,trivial⟩
 refine Z (R ((L H 2) ?_))
 refine (bb hr fun y2 hy3 hr=>?_)
 obtain⟨F',M',hfF,hoF,hcM⟩:=H.callN [false,true,false] ⟨noO,trivial⟩
 obtain⟨H',hcN⟩:=hcM (ps:=[]) trivial
 refine (CA ok115 (q6z hy3 H')) ?_
 rintro _ w7 hE ⟨A4,n4,c4,rfl,H'⟩
 have H:=hcN 1 H' rfl ⟨fun _ _ _ _ _ h=>h,trivial⟩
 exact (A) (Z (W1 hr))
def q5I (a1:ByteArray):Nat→Attribute→Unit→Option (Unit ⊕ (Attribute × Bool)):=fun k1 x1 _=>if x1.Name=a1 then some (.inr (x1,true)) else some (.inl ())
def q2c (a0:Symbol)(a1:ByteArray):Option (Attribute × Bool):=(findL (q5I a1) 0 a0.Attributes ()).bind <| onr (fun r1=>some r1) fun _=>some ((⟨(⟨#[]⟩:ByteArray),0,0,false⟩:Attribute),false)
theorem q5J {a0}{a1}{r}(hr:q2c a0 a1=some r){ca0}(ha0:rd F0 w0 a0 ca0)(ha1:a1.size≤9223372036854775807):RT 81 #[.agg ca0.toArray,.string a1] w0 fun v w=>v = .tuple #[.agg #[.string r.1.Name,.int .i64 r.1.Type_,.int .i64 r.1.Mode,.bool r.1.Circular],.bool r.2]∧r.1.Name.size≤9223372036854775807∧I64 r.1.Type_∧I64 r.1.Mode:=by
 have H:=(HL.start F0 w0).argR ha0
 obtain⟨A1,n1,c1,rfl,hS1,H⟩:=q4L H (i:=0) rfl
 refine (En Tryz.func81) ?_
 refine R ((BX H) fun b1 w1 H=>(AH ze41 H) fun b2 w2 H=>(A) (Z (Y (R ((D 1) ((L H 0) ((NI H 1) fun hl1=>(V) (Z ?_))))))))
 refine (bb hr fun q1 hq1 hr=>?_)
 refine (lF hq1 (fun k1 _ _=>[(1,.string a1),(4,pB b2),(9,.slice A1 n1 c1),(10,zN a0.Attributes.length),(11,zN k1)]) (fun _ _ w=>HL F0 [] w0 w [Pr.R a0 [.string a0.Name,.slice A1 n1 c1],Pr.S a0.Attributes (.slice A1 n1 c1)] [It.B b1 39 [.string a0.Name,.slice A1 n1 c1],It.B b2 41 [.string (⟨#[]⟩:ByteArray),.int .i64 0,.int .i64 0,.bool false]]) ()) ?_
 rintro k1 _ _ σ w3 hk1 hq1 H
 refine R ((B) (Z (Y ?_)))
 refine CW.condD rfl (fun h1=>?_) (fun h1=>?_)
 ·have hk2:=q0m h1
  obtain⟨x1,z1,hx1,hb1,hs1,ht1⟩:=q0y hq1 hk2
  refine K (Y ?_)
  refine CW.block (R ?_)
  obtain⟨b3,ob3,cb3,hvb3,hS2,hI1,hI2,H⟩:=q1U H (i:=1) rfl hx1
  refine (J 4 hvb3 hx1) ((LA H 2) ((AH ze41 H) fun b4 w4 H=>(SB H 2) fun w5 H=>Z (R ((D 0) ((L H 2) ((V) ((B) (Z (iD hb1 (fun _ hb1=>?_) fun _ hb1=>?_)))))))))
  ·refine R ((LB H 2) ((SB H 1) fun w6 H=>(A) (Z (CR ?_))))
   obtain rfl:=sm hb1
   obtain rfl:=ht1 _ rfl
   obtain rfl:=sm hr
   exact⟨_,resC1 rfl ag41 sz41 rfl rfl rfl rfl (At.blk (H.rB (i:=1) rfl)) rfl,H.ext0,rfl,hS2,hI1,hI2⟩
  ·exact K (X ((AN hk2 hl1) ((V) (Z (I2 hb1 hs1 ⟨k1+1,(),()⟩)))))
 ·obtain rfl:=q0l hq1 (q0c h1)
  have hr:=(q0s _ _ _).symm.trans hr
  refine CE (R ?_)
  refine WL.ev rfl rfl (Ev.build rfl pl41 ze41 rfl rfl rfl rfl) ((SB H 1) fun w7 H=>(A) (Z (CR ?_)))
  obtain rfl:=sm hr
  exact⟨_,resC1 rfl ag41 sz41 rfl rfl rfl rfl (At.blk (H.rB (i:=1) rfl)) rfl,H.ext0,rfl,(by decide:(⟨#[]⟩:ByteArray).size≤9223372036854775807),(by decide:I64 0),(by decide:I64 0)⟩
def q2T (a0:Grammar)(a1:Rule)(a2:Occurrence):Option (Attribute × Bool):=(q0P a2.Pos 0 (a1.Right.length:Int)).bind fun y1=>if y1=true then (q4r a1 a2.Pos).bind fun y2=>(q1Y a0 y2).bind fun (y3,y4)=>(q2c y3 a2.Name).bind fun (y5,y6)=>some (y5,y6) else some ((⟨(⟨#[]⟩:ByteArray),0,0,false⟩:Attribute),false)
theorem q5w {a0}{a1}{a2}{r}(hr:q2T a0 a1 a2=some r){ca0}(ha0:rd F0 w0 a0 ca0){ca1}(ha1:rd F0 w0 a1 ca1){ca2}(ha2:rd F0 w0 a2 ca2):RT 45 #[.agg ca0.toArray,.agg ca1.toArray,.agg ca2.toArray] w0 fun v w=>v = .tuple #[.agg #[.string r.1.Name,.int .i64 r.1.Type_,.int .i64 r.1.Mode,.bool r.1.Circular],.bool r.2]∧r.1.Name.size≤9223372036854775807∧I64 r.1.Type_∧I64 r.1.Mode:=by
 have H:=(((HL.start F0 w0).argR ha0).argR ha1).argR ha2
 obtain⟨A1,n1,c1,A2,n2,c2,rfl,H⟩:=q0e H (i:=0) rfl
 obtain⟨A3,n3,c3,A4,n4,c4,A5,n5,c5,rfl,hS1,hS2,H⟩:=q0z H (i:=1) rfl
 obtain⟨rfl,hI1,hS3,H⟩:=q0H H (i:=2) rfl
 refine (En Tryz.func45) ?_
 refine R ((BX H) fun b1 w1 H=>(BX H) fun b2 w2 H=>(BX H) fun b3 w3 H=>(AH ze41 H) fun b4 w4 H=>(A) (Z (Y (R ((D 0) ((L H 2) ((D 2) ((L H 1) ((NI H 5) fun hl1=>?_)))))))))
 refine (bb hr fun y1 hy1 hr=>?_)
 refine (CA ok79 (q1u hy1 (F0:=fun _=>False) hI1 (by decide:I64 0) hl1)) (cE H fun w5 H=>(N) (Z (iM hr (fun _ hr=>?_) fun h1 hr=>?_)))
 ·refine R ?_
  refine WL.ev rfl rfl (Ev.build rfl pl41 ze41 rfl rfl rfl rfl) ((SB H 3) fun w6 H=>(A) (Z (CR ?_)))
  obtain rfl:=sm hr
  exact⟨_,resC1 rfl ag41 sz41 rfl rfl rfl rfl (At.blk (H.rB (i:=3) rfl)) rfl,H.ext0,rfl,(by decide:(⟨#[]⟩:ByteArray).size≤9223372036854775807),(by decide:I64 0),(by decide:I64 0)⟩
 ·refine K ?_
  refine (bb hr fun y2 hy2 hr=>?_)
  obtain⟨_,_,_,hS4⟩:=(q4s hy2 ⟨_,_,_,rfl,hS1,hS2,(rs H 5),(rs H 6),(rs H 7)⟩ hI1).get
  obtain⟨⟨y3,y4⟩,hy3,hr⟩:=bd hr
  obtain⟨F_G1,hFl_G1,hF_G1,hcl_G1⟩:=H.callL
  refine Y ?_
  refine CW.any2 11 (fun ρ=>[.fix (.agg #[.slice A1 n1 c1,.slice A2 n2 c2]),.fix (.agg #[.string a1.Name,.string a1.Left,.slice A3 n3 c3,.bool a1.Literal,.slice A4 n4 c4,.slice A5 n5 c5]),.fix (.pointer (some ⟨b3,0+0,none⟩)),.fix (.int .i64 a2.Pos),.fix (.string y2),.free (fun S v w=>∃ A6:Option Addr,∃ n6:Nat,∃ c6:Nat,v = .tuple #[.agg #[.string y3.Name,.slice A6 n6 c6],.bool y4]∧y3.Name.size≤9223372036854775807∧NewV F_G1 w5 S w [Pr.S y3.Attributes (.slice A6 n6 c6)] []),.dep 24 id,.dep 18 (tupAt 0),.dep 18 (tupAt 1),.free (VarB 39 2),.wr 8 25 (WrB 39)]) [[],[],[],[],[],[],[24],[18],[18],[],[8,25]] NoM (fun _ _=>True) [] [none,none,none,none,none,none,none,none,none,none,some 9] (noM _) hmix (by kernel_rfl) rfl ⟨trivial,trivial,trivial,trivial,trivial,fun _ _ _ _ _ ⟨A6,n6,c6,hv,h0,hh⟩ hc hS hT=>⟨A6,n6,c6,hv,h0,hh.chgT hc hS hT hFl_G1⟩,trivial,trivial,trivial,fun _ _ _ _ _ h hc hS _=>h.chgT hc hS,fun _ _ _ _ _ _ h hc hS _=>h.chgT hc hS,trivial⟩ trivial (fun _ _ _ _ _ _ _=>trivial) ?_
  refine LL2.fx rfl rfl rfl rfl rfl (fun _ hq hK=>Ev.lda rfl ag31 sz31 rfl (At.blk ((H.ext hq).rB (i:=0) rfl)) rfl) ?_
  refine LL2.fx rfl rfl rfl rfl rfl (fun _ hq hK=>Ev.lda rfl ag47 sz47 rfl (At.blk ((H.ext hq).rB (i:=1) rfl)) rfl) ?_
  refine LL2.fx rfl rfl rfl rfl rfl (fun _ hq hK=>Ev.fa rfl fo55_0 rfl) ?_
  refine LL2.fx rfl rfl rfl rfl rfl (fun _ hq hK=>Ev.ld rfl ag3 rfl (((H.ext hq).rB (i:=2) rfl).cell rfl)) ?_
  refine LL2.fixed rfl rfl rfl rfl (fun _ hq hK=>OpX.call rfl rfl rfl rfl ok78 rfl (q4s hy2 ⟨_,_,_,rfl,hS1,hS2,(rs (H.ext hq) 5),(rs (H.ext hq) 6),(rs (H.ext hq) 7)⟩ hI1) fun _ _ hE h=>⟨hE,h.1⟩) ?_
  refine LL2.free rfl rfl rfl rfl (fun wq hq hK=>?_) (fun v_G1_5 S_G1_5=>?_)
  ·have hF:=hF_G1.ext hq
   refine OpX.call rfl rfl rfl rfl ok80 rfl (q3Z hy3 ⟨_,_,rfl,(hF.get (i:=3) rfl),(hF.get (i:=4) rfl)⟩ hS4) ?_
   rintro _ w hE ⟨A6,n6,c6,rfl,h0,hh⟩
   exact⟨hE,A6,n6,c6,rfl,h0,NewV.of hFl_G1 hq hh⟩
  refine LL2.mv rfl rfl rfl rfl rfl (.inl rfl) rfl ?_
  refine LL2.ex rfl rfl rfl rfl rfl rfl rfl (fun wq hq hK=>?_) ?_
  ·have hK:∀ j' (_:(q0g _).contains j'=true),_:=hK 6 rfl
   obtain⟨A6,n6,c6,rfl,_,_⟩:=hK 5 rfl
   exact⟨_,_,rfl,rfl⟩
  refine LL2.ex rfl rfl rfl rfl rfl rfl rfl (fun wq hq hK=>?_) ?_
  ·have hK:∀ j' (_:(q0g _).contains j'=true),_:=hK 6 rfl
   obtain⟨A6,n6,c6,rfl,_,_⟩:=hK 5 rfl
   exact⟨_,_,rfl,rfl⟩
  refine LL2.free rfl rfl rfl rfl (fun wq hq hK=>OpX.allocV rfl rfl ze39 rfl) (fun v_G1_9 S_G1_9=>?_)
  refine LL2.st (k:=2) rfl rfl rfl (by decide) rfl rfl rfl rfl sz39 rfl rfl (fun wq hq hK=>hK 9 rfl) (fun wq hq hK=>?_) ?_
  ·obtain⟨A6,n6,c6,rfl,_,_⟩:=hK 5 rfl
   exact⟨_,rfl,rfl,(all1 rfl (all1 rfl all0))⟩
  intro w7 hE _ hK hap hbd
  have hE:=chgNew hE
  obtain⟨A6,n6,c6,rfl,hS5,hN1⟩:=hK 5 (by decide)
  obtain⟨b5,rfl,hN2⟩:=wrNew (cells:=[.string y3.Name,.slice A6 n6 c6]) (hK 9 (by decide)) (hK 10 (by decide)) rfl
  have H:=hcl_G1 (NewV.hl (hN1.app (hN2.V ⟨fun _ _ _ _ _ h=>h,trivial⟩) fun q h1 h2=>absurd (hap 5 9 q h1 h2) (by decide)) hE fun q hq=>hq.elim (fun h=>(hbd 5 q h).1) fun h=>(hbd 9 q h).1)
  refine (A) (Z (Y ?_))
  refine CW.fresh [(5,pB b3),(6,pB b4),(8,pB b5)] ⟨rfl,rfl,rfl,trivial⟩ fun σ=>?_
  let d1:List Value:=[.string a1.Name,.string a1.Left,.slice A3 n3 c3,.bool a1.Literal,.slice A4 n4 c4,.slice A5 n5 c5]
  have H:HL F0 [] w0 w7 [Pr.R a0 [.slice A1 n1 c1,.slice A2 n2 c2],Pr.R a1 d1,Pr.R a2 [.int .i64 a2.Pos,.string a2.Name],Pr.S a0.Symbols (.slice A1 n1 c1),Pr.S a0.Rules (.slice A2 n2 c2),Pr.S a1.Right (.slice A3 n3 c3),Pr.S a1.Equations (.slice A4 n4 c4),Pr.S a1.Contributions (.slice A5 n5 c5),Pr.S y3.Attributes (.slice A6 n6 c6)] [It.B b1 31 [.slice A1 n1 c1,.slice A2 n2 c2],It.B b2 47 d1,It.B b3 55 [.int .i64 a2.Pos,.string a2.Name],It.B b4 41 [.string (⟨#[]⟩:ByteArray),.int .i64 0,.int .i64 0,.bool false],It.B b5 39 [.string y3.Name,.slice A6 n6 c6]]:=H
  refine X ((LB H 4) ((D 1) ((L H 2) ?_)))
  obtain⟨⟨y5,y6⟩,hy4,hr⟩:=bd hr
  refine (CA ok81 (q5J hy4 ⟨_,rfl,hS5,(rs H 8)⟩ hS3)) ?_
  rintro _ w8 hE ⟨rfl,hS6,hI2,hI3⟩
  have H:=H.ext hE
  refine (EX) ((EX) ((SB H 3) fun w9 H=>(A) (Z (CR ?_))))
  obtain rfl:=sm hr
  exact⟨_,resC1 rfl ag41 sz41 rfl rfl rfl rfl (At.blk (H.rB (i:=3) rfl)) rfl,H.ext0,rfl,hS6,hI2,hI3⟩
def z0t (a0:Grammar)(a1:Rule)(a2:Occurrence):Option Bool:=(q2T a0 a1 a2).bind fun (y1,y2)=>if a2.Pos=0 then ( if y2=true then some (decide (y1.Mode=1)) else some false ).bind fun s1=>some s1 else ( if y2=true then some (decide (y1.Mode=2)) else some false ).bind fun s2=>some s2
theorem z7j {a0}{a1}{a2}{r}(hr:z0t a0 a1 a2=some r){ca0}(ha0:rd F0 w0 a0 ca0){ca1}(ha1:rd F0 w0 a1 ca1){ca2}(ha2:rd F0 w0 a2 ca2):RT 145 #[.agg ca0.toArray,.agg ca1.toArray,.agg ca2.toArray] w0 fun v w=>v = .bool r:=by
 have H:=(((HL.start F0 w0).argR ha0).argR ha1).argR ha2
 obtain⟨A1,n1,c1,A2,n2,c2,rfl,H⟩:=q0e H (i:=0) rfl
 obtain⟨A3,n3,c3,A4,n4,c4,A5,n5,c5,rfl,hS1,hS2,H⟩:=q0z H (i:=1) rfl
 obtain⟨rfl,hI1,hS3,H⟩:=q0H H (i:=2) rfl
 refine (En Tryz.func145) ?_
 refine R ((BX H) fun b1 w1 H=>(BX H) fun b2 w2 H=>(BX H) fun b3 w3 H=>(A) (Z (R ((LB H 0) ((LB H 1) ((LB H 2) ?_))))))
 obtain⟨⟨y1,y2⟩,hy1,hr⟩:=bd hr
 refine (CA ok45 (q5w hy1 ⟨_,_,rfl,(rs H 3),(rs H 4)⟩ ⟨_,_,_,rfl,hS1,hS2,(rs H 5),(rs H 6),(rs H 7)⟩ ⟨rfl,hI1,hS3⟩)) ?_
 rintro _ w4 hE ⟨rfl,hS4,hI2,hI3⟩
 have H:=H.ext hE
 refine (V) ((EX) ((EX) ((AH ze41 H) fun b4 w5 H=>(SB H 3) fun w6 H=>(A) (Z (Y (R ((D 0) ((L H 2) ((B) (Z (iD hr (fun _ hr=>?_) fun _ hr=>?_)))))))))))
 ·refine R ((V) ?_)
  refine (bb hr fun q1 hm1 hr=>?_)
  let d1:List Value:=[.string a1.Name,.string a1.Left,.slice A3 n3 c3,.bool a1.Literal,.slice A4 n4 c4,.slice A5 n5 c5]
  refine cu H 5 [(6,.bool false),(24,.bool q1)] [Pr.R a0 [.slice A1 n1 c1,.slice A2 n2 c2],Pr.R a1 d1,Pr.R a2 [.int .i64 a2.Pos,.string a2.Name],Pr.S a0.Symbols (.slice A1 n1 c1),Pr.S a0.Rules (.slice A2 n2 c2),Pr.S a1.Right (.slice A3 n3 c3),Pr.S a1.Equations (.slice A4 n4 c4),Pr.S a1.Contributions (.slice A5 n5 c5)] [It.B b1 31 [.slice A1 n1 c1,.slice A2 n2 c2],It.B b2 47 d1,It.B b3 55 [.int .i64 a2.Pos,.string a2.Name],It.B b4 41 [.string y1.Name,.int .i64 y1.Type_,.int .i64 y1.Mode,.bool y1.Circular]] ?_ fun σ w7 H=>?_
  ·refine jB hm1 (fun _ hm1=>?_) fun _ hm1=>?_
   ·exact (G) ((D 2) ((G) ((L H 3) ((G) ((B) ((T) (Z (C1 hm1))))))))
   ·exact (O) ((O) ((O) ((U) (Z (C1 hm1)))))
  ·exact (A) (Z (W1 hr))
 ·refine K (R ((V) ?_))
  refine (bb hr fun q2 hm2 hr=>?_)
  let d2:List Value:=[.string a1.Name,.string a1.Left,.slice A3 n3 c3,.bool a1.Literal,.slice A4 n4 c4,.slice A5 n5 c5]
  refine cu H 5 [(6,.bool false),(30,.bool q2)] [Pr.R a0 [.slice A1 n1 c1,.slice A2 n2 c2],Pr.R a1 d2,Pr.R a2 [.int .i64 a2.Pos,.string a2.Name],Pr.S a0.Symbols (.slice A1 n1 c1),Pr.S a0.Rules (.slice A2 n2 c2),Pr.S a1.Right (.slice A3 n3 c3),Pr.S a1.Equations (.slice A4 n4 c4),Pr.S a1.Contributions (.slice A5 n5 c5)] [It.B b1 31 [.slice A1 n1 c1,.slice A2 n2 c2],It.B b2 47 d2,It.B b3 55 [.int .i64 a2.Pos,.string a2.Name],It.B b4 41 [.string y1.Name,.int .i64 y1.Type_,.int .i64 y1.Mode,.bool y1.Circular]] ?_ fun σ w8 H=>?_
  ·refine jB hm2 (fun _ hm2=>?_) fun _ hm2=>?_
   ·exact (G) ((D 2) ((G) ((L H 3) ((G) ((B) ((T) (Z (C1 hm2))))))))
   ·exact (O) ((O) ((O) ((U) (Z (C1 hm2)))))
  ·exact (A) (Z (W1 hr))
def q7B (a0:Occurrence)(a1:Grammar)(a2:Rule):Option Bool:=(z0t a1 a2 a0).bind fun y1=>some (!y1)
theorem z2A {a0}{a1}{a2}{r}(hr:q7B a0 a1 a2=some r){ca0}(ha0:rd F0 w0 a0 ca0){b1p:Nat}(ha1:CapP F0 w0 b1p a1){b2p:Nat}(ha2:CapP F0 w0 b2p a2):RT 144 #[.agg ca0.toArray,pB b1p,pB b2p] w0 fun v w=>v = .bool r:=by
 have H:=(HL.start F0 w0).argR ha0
 obtain⟨rfl,hI1,hS1,H⟩:=q0H H (i:=0) rfl
 obtain⟨cpa1,H⟩:=H.argP ha1
 obtain⟨A1,n1,c1,A2,n2,c2,rfl,H⟩:=q0e H (i:=2) rfl
 obtain⟨cpa2,H⟩:=H.argP ha2
 obtain⟨A3,n3,c3,A4,n4,c4,A5,n5,c5,rfl,hS2,hS3,H⟩:=q0z H (i:=6) rfl
 refine (En Tryz.func144) ?_
 refine R ((BX H) fun b1 w1 H=>(A) (Z (R ((LA H 1) ((LA H 5) ((LB H 0) ?_))))))
 refine (bb hr fun y1 hy1 hr=>?_)
 exact (CA ok145 (z7j hy1 ⟨_,_,rfl,(rs H 3),(rs H 4)⟩ ⟨_,_,_,rfl,hS2,hS3,(rs H 7),(rs H 8),(rs H 9)⟩ ⟨rfl,hI1,hS1⟩)) (cE H fun w2 H=>(N) ((A) (Z (W1 hr))))
def q2a (a1_0:Grammar)(a1_1:Rule):Nat→Occurrence→Unit→Option (Unit ⊕ Int):=fun k1 x1 _=>(q7B x1 a1_0 a1_1).bind fun y1=>if y1=true then some (.inr (k1:Int)) else some (.inl ())
def q1c (a0:(List Occurrence))(a1_0:Grammar)(a1_1:Rule):Option Int:=(findL (q2a a1_0 a1_1) 0 a0 ()).bind <| onr (fun r1=>some r1) fun _=>some (-1)
theorem q3S {a0}{a1_0}{a1_1}{r}(hr:q1c a0 a1_0 a1_1=some r){z0}(ha0:rdS F0 w0 a0 z0){b1_0p:Nat}(ha1_0:CapP F0 w0 b1_0p a1_0){b1_1p:Nat}(ha1_1:CapP F0 w0 b1_1p a1_1):RT 76 #[z0,.func (.func 144) #[] #[pB b1_0p,pB b1_1p]] w0 fun v w=>v = .int .i64 r∧I64 r:=by
 obtain⟨A0',n0',c0',rfl⟩:=ha0.form3
 have H:=(HL.start F0 w0).argS ha0
 obtain⟨cpa1_0,H⟩:=H.argP ha1_0
 obtain⟨A1,n1,c1,A2,n2,c2,rfl,H⟩:=q0e H (i:=2) rfl
 obtain⟨cpa1_1,H⟩:=H.argP ha1_1
 obtain⟨A3,n3,c3,A4,n4,c4,A5,n5,c5,rfl,hS1,hS2,H⟩:=q0z H (i:=6) rfl
 refine (En Tryz.func76) ?_
 refine R ((A) (Z (Y (R ((V) ((NI H 0) fun hl1=>(V) (Z ?_)))))))
 refine (bb hr fun q1 hq1 hr=>?_)
 let d1:List Value:=[.string a1_1.Name,.string a1_1.Left,.slice A3 n3 c3,.bool a1_1.Literal,.slice A4 n4 c4,.slice A5 n5 c5]
 refine (lF hq1 (fun k1 _ _=>[(0,.slice A0' n0' c0'),(1,.func (.func 144) #[] #[pB b1_0p,pB b1_1p]),(7,zN a0.length),(8,zN k1)]) (fun _ _ w=>HL F0 [] w0 w [Pr.S a0 (.slice A0' n0' c0'),Pr.A b1_0p 0 [.slice A1 n1 c1,.slice A2 n2 c2],Pr.R a1_0 [.slice A1 n1 c1,.slice A2 n2 c2],Pr.S a1_0.Symbols (.slice A1 n1 c1),Pr.S a1_0.Rules (.slice A2 n2 c2),Pr.A b1_1p 0 d1,Pr.R a1_1 d1,Pr.S a1_1.Right (.slice A3 n3 c3),Pr.S a1_1.Equations (.slice A4 n4 c4),Pr.S a1_1.Contributions (.slice A5 n5 c5)] []) ()) ?_
 rintro k1 _ _ σ w1 hk1 hq1 H
 refine R ((B) (Z (Y ?_)))
 refine CW.condD rfl (fun h1=>?_) (fun h1=>?_)
 ·have hk2:=q0m h1
  obtain⟨x1,z1,hx1,hb1,hs1,ht1⟩:=q0y hq1 hk2
  refine K (Y ?_)
  refine CW.block (R ((V) ((A) (Z (R ((V) ((V) ((V) ?_))))))))
  obtain⟨b1,ob1,cb1,hvb1,hI1,hS3,H⟩:=q2q H (i:=0) rfl hx1
  refine (J 2 hvb1 hx1) ((LA H 10) ?_)
  refine (bb hb1 fun y1 hy1 hb1=>?_)
  refine (CA ok144 (z2A hy1 (F0:=fun q=>q < _) ⟨rfl,hI1,hS3⟩ ⟨H.rAl (i:=1) rfl,_,H.rA (i:=1) rfl,⟨_,_,rfl,(rs H 3),(rs H 4)⟩⟩ ⟨H.rAl (i:=5) rfl,_,H.rA (i:=5) rfl,⟨_,_,_,rfl,hS1,hS2,(rs H 7),(rs H 8),(rs H 9)⟩⟩)) (cE H fun w2 H=>Z (iB hb1 (fun _ hb1=>?_) fun _ hb1=>?_))
  ·exact R ((V) ((A) (Z (W2 hb1 ht1 hr))))
  ·exact K (X ((AN hk2 hl1) ((V) (Z (I2 hb1 hs1 ⟨k1+1,(),()⟩)))))
 ·obtain rfl:=q0l hq1 (q0c h1)
  have hr:=(q0s _ _ _).symm.trans hr
  exact CE (R ((A) (Z (W1 hr))))
def q0T (a0:(List Occurrence))(a1_0:Grammar)(a1_1:Rule):Option Bool:=(q1c a0 a1_0 a1_1).bind fun y1=>some (decide (0≤y1))
theorem q3t {a0}{a1_0}{a1_1}{r}(hr:q0T a0 a1_0 a1_1=some r){z0}(ha0:rdS F0 w0 a0 z0){b1_0p:Nat}(ha1_0:CapP F0 w0 b1_0p a1_0){b1_1p:Nat}(ha1_1:CapP F0 w0 b1_1p a1_1):RT 82 #[z0,.func (.func 144) #[] #[pB b1_0p,pB b1_1p]] w0 fun v w=>v = .bool r:=by
 obtain⟨A0',n0',c0',rfl⟩:=ha0.form3
 have H:=(HL.start F0 w0).argS ha0
 obtain⟨cpa1_0,H⟩:=H.argP ha1_0
 obtain⟨A1,n1,c1,A2,n2,c2,rfl,H⟩:=q0e H (i:=2) rfl
 obtain⟨cpa1_1,H⟩:=H.argP ha1_1
 obtain⟨A3,n3,c3,A4,n4,c4,A5,n5,c5,rfl,hS1,hS2,H⟩:=q0z H (i:=6) rfl
 refine (En Tryz.func82) ?_
 refine R ((A) (Z (R ((V) ((V) ?_)))))
 refine (bb hr fun y1 hy1 hr=>?_)
 exact (CA ok76 (q3S hy1 (F0:=fun q=>q < _) (rs H 0) ⟨H.rAl (i:=1) rfl,_,H.rA (i:=1) rfl,⟨_,_,rfl,(rs H 3),(rs H 4)⟩⟩ ⟨H.rAl (i:=5) rfl,_,H.rA (i:=5) rfl,⟨_,_,_,rfl,hS1,hS2,(rs H 7),(rs H 8),(rs H 9)⟩⟩)) (cF' H fun w1 hI1 H=>(B) ((A) (Z (W1 hr))))
def q7n (a0:Expr)(a1:Grammar)(a2:Rule):Option Bool:=(q3W a0).bind fun y1=>(q0T y1 a1 a2).bind fun y2=>some y2
theorem z4d {a0}{a1}{a2}{r}(hr:q7n a0 a1 a2=some r){ca0}(ha0:rd F0 w0 a0 ca0){b1p:Nat}(ha1:CapP F0 w0 b1p a1){b2p:Nat}(ha2:CapP F0 w0 b2p a2):RT 143 #[.agg ca0.toArray,pB b1p,pB b2p] w0 fun v w=>v = .bool r:=by
 have H:=(HL.start F0 w0).argR ha0
 obtain⟨A1,n1,c1,rfl,hI1,hI2,hI3,hI4,hS1,hS2,H⟩:=q0X H (i:=0) rfl
 obtain⟨cpa1,H⟩:=H.argP ha1
 obtain⟨A2,n2,c2,A3,n3,c3,rfl,H⟩:=q0e H (i:=3) rfl
 obtain⟨cpa2,H⟩:=H.argP ha2
 obtain⟨A4,n4,c4,A5,n5,c5,A6,n6,c6,rfl,hS3,hS4,H⟩:=q0z H (i:=7) rfl
 refine (En Tryz.func143) ?_
 refine R ((BX H) fun b1 w1 H=>(A) (Z (R ((LB H 0) ?_))))
 refine (bb hr fun y1 hy1 hr=>?_)
 refine (CA ok83 (q7L hy1 (q0b.2 ⟨_,rfl,hI1,hI2,hI3,hI4,hS1,hS2,(rs H 1)⟩))) ?_
 rintro _ w2 hE ⟨A7,n7,c7,rfl,H'⟩
 have H:=H.callA H' ⟨fun _ _ _ _ _ h=>h,trivial⟩
 refine WL.ev rfl rfl (Ev.mkfL rfl rfl rfl) ?_
 refine (bb hr fun y2 hy2 hr=>?_)
 exact (CA ok82 (q3t hy2 (F0:=fun q=>q < _) (ro H 1) ⟨H.rAl (i:=2) rfl,_,H.rA (i:=2) rfl,⟨_,_,rfl,(rs H 4),(rs H 5)⟩⟩ ⟨H.rAl (i:=6) rfl,_,H.rA (i:=6) rfl,⟨_,_,_,rfl,hS3,hS4,(rs H 8),(rs H 9),(rs H 10)⟩⟩)) (cE H fun w3 H=>(A) (Z (W1 hr)))
def q2Z (a1_0:Grammar)(a1_1:Rule):Nat→Expr→Unit→Option (Unit ⊕ Int):=fun k1 x1 _=>(q7n x1 a1_0 a1_1).bind fun y1=>if y1=true then some (.inr (k1:Int)) else some (.inl ())
def q1Q (a0:(List Expr))(a1_0:Grammar)(a1_1:Rule):Option Int:=(findL (q2Z a1_0 a1_1) 0 a0 ()).bind <| onr (fun r1=>some r1) fun _=>some (-1)
theorem q5f {a0}{a1_0}{a1_1}{r}(hr:q1Q a0 a1_0 a1_1=some r){z0}(ha0:rdS F0 w0 a0 z0){b1_0p:Nat}(ha1_0:CapP F0 w0 b1_0p a1_0){b1_1p:Nat}(ha1_1:CapP F0 w0 b1_1p a1_1):RT 71 #[z0,.func (.func 143) #[] #[pB b1_0p,pB b1_1p]] w0 fun v w=>v = .int .i64 r∧I64 r:=by
 obtain⟨A0',n0',c0',rfl⟩:=ha0.form3
 have H:=(HL.start F0 w0).argS ha0
 obtain⟨cpa1_0,H⟩:=H.argP ha1_0
 obtain⟨A1,n1,c1,A2,n2,c2,rfl,H⟩:=q0e H (i:=2) rfl
 obtain⟨cpa1_1,H⟩:=H.argP ha1_1
 obtain⟨A3,n3,c3,A4,n4,c4,A5,n5,c5,rfl,hS1,hS2,H⟩:=q0z H (i:=6) rfl
 refine (En Tryz.func71) ?_
 refine R ((A) (Z (Y (R ((V) ((NI H 0) fun hl1=>(V) (Z ?_)))))))
 refine (bb hr fun q1 hq1 hr=>?_)
 let d1:List Value:=[.string a1_1.Name,.string a1_1.Left,.slice A3 n3 c3,.bool a1_1.Literal,.slice A4 n4 c4,.slice A5 n5 c5]
 refine (lF hq1 (fun k1 _ _=>[(0,.slice A0' n0' c0'),(1,.func (.func 143) #[] #[pB b1_0p,pB b1_1p]),(7,zN a0.length),(8,zN k1)]) (fun _ _ w=>HL F0 [] w0 w [Pr.S a0 (.slice A0' n0' c0'),Pr.A b1_0p 0 [.slice A1 n1 c1,.slice A2 n2 c2],Pr.R a1_0 [.slice A1 n1 c1,.slice A2 n2 c2],Pr.S a1_0.Symbols (.slice A1 n1 c1),Pr.S a1_0.Rules (.slice A2 n2 c2),Pr.A b1_1p 0 d1,Pr.R a1_1 d1,Pr.S a1_1.Right (.slice A3 n3 c3),Pr.S a1_1.Equations (.slice A4 n4 c4),Pr.S a1_1.Contributions (.slice A5 n5 c5)] []) ()) ?_
 rintro k1 _ _ σ w1 hk1 hq1 H
 refine R ((B) (Z (Y ?_)))
 refine CW.condD rfl (fun h1=>?_) (fun h1=>?_)
 ·have hk2:=q0m h1
  obtain⟨x1,z1,hx1,hb1,hs1,ht1⟩:=q0y hq1 hk2
  refine K (Y ?_)
  refine CW.block (R ((V) ((A) (Z (R ((V) ((V) ((V) ?_))))))))
  obtain⟨b1,ob1,cb1,A6,n6,c6,hvb1,hI1,hI2,hI3,hI4,hS3,hS4,H⟩:=q0u H (i:=0) rfl hx1
  refine (J 7 hvb1 hx1) ((LA H 10) ?_)
  refine (bb hb1 fun y1 hy1 hb1=>?_)
  refine (CA ok143 (z4d hy1 (F0:=fun q=>q < _) (q0b.2 ⟨_,rfl,hI1,hI2,hI3,hI4,hS3,hS4,(rs H 12)⟩) ⟨H.rAl (i:=1) rfl,_,H.rA (i:=1) rfl,⟨_,_,rfl,(rs H 3),(rs H 4)⟩⟩ ⟨H.rAl (i:=5) rfl,_,H.rA (i:=5) rfl,⟨_,_,_,rfl,hS1,hS2,(rs H 7),(rs H 8),(rs H 9)⟩⟩)) (cE H fun w2 H=>Z (iB hb1 (fun _ hb1=>?_) fun _ hb1=>?_))
  ·exact R ((V) ((A) (Z (W2 hb1 ht1 hr))))
  ·exact K (X ((AN hk2 hl1) ((V) (Z (I2 hb1 hs1 ⟨k1+1,(),()⟩)))))
 ·obtain rfl:=q0l hq1 (q0c h1)
  have hr:=(q0s _ _ _).symm.trans hr
  exact CE (R ((A) (Z (W1 hr))))
def q1y (a0:(List Expr))(a1_0:Grammar)(a1_1:Rule):Option Bool:=(q1Q a0 a1_0 a1_1).bind fun y1=>some (decide (0≤y1))
theorem q4C {a0}{a1_0}{a1_1}{r}(hr:q1y a0 a1_0 a1_1=some r){z0}(ha0:rdS F0 w0 a0 z0){b1_0p:Nat}(ha1_0:CapP F0 w0 b1_0p a1_0){b1_1p:Nat}(ha1_1:CapP F0 w0 b1_1p a1_1):RT 36 #[z0,.func (.func 143) #[] #[pB b1_0p,pB b1_1p]] w0 fun v w=>v = .bool r:=by
 obtain⟨A0',n0',c0',rfl⟩:=ha0.form3
 have H:=(HL.start F0 w0).argS ha0
 obtain⟨cpa1_0,H⟩:=H.argP ha1_0
 obtain⟨A1,n1,c1,A2,n2,c2,rfl,H⟩:=q0e H (i:=2) rfl
 obtain⟨cpa1_1,H⟩:=H.argP ha1_1
 obtain⟨A3,n3,c3,A4,n4,c4,A5,n5,c5,rfl,hS1,hS2,H⟩:=q0z H (i:=6) rfl
 refine (En Tryz.func36) ?_
 refine R ((A) (Z (R ((V) ((V) ?_)))))
 refine (bb hr fun y1 hy1 hr=>?_)
 exact (CA ok71 (q5f hy1 (F0:=fun q=>q < _) (rs H 0) ⟨H.rAl (i:=1) rfl,_,H.rA (i:=1) rfl,⟨_,_,rfl,(rs H 3),(rs H 4)⟩⟩ ⟨H.rAl (i:=5) rfl,_,H.rA (i:=5) rfl,⟨_,_,_,rfl,hS1,hS2,(rs H 7),(rs H 8),(rs H 9)⟩⟩)) (cF' H fun w1 hI1 H=>(B) ((A) (Z (W1 hr))))
def q9o (a0:Grammar)(a1:Rule):Option Bool:=(q4P a1).bind fun y1=>(q1y y1 a0 a1).bind fun y2=>some y2
theorem z5N {a0}{a1}{r}(hr:q9o a0 a1=some r){ca0}(ha0:rd F0 w0 a0 ca0){ca1}(ha1:rd F0 w0 a1 ca1):RT 108 #[.agg ca0.toArray,.agg ca1.toArray] w0 fun v w=>v = .bool r:=by
 have H:=((HL.start F0 w0).argR ha0).argR ha1
 obtain⟨A1,n1,c1,A2,n2,c2,rfl,H⟩:=q0e H (i:=0) rfl
 obtain⟨A3,n3,c3,A4,n4,c4,A5,n5,c5,rfl,hS1,hS2,H⟩:=q0z H (i:=1) rfl
 refine (En Tryz.func108) ?_
 refine R ((BX H) fun b1 w1 H=>(BX H) fun b2 w2 H=>(A) (Z (R ((LB H 1) ?_))))
 refine (bb hr fun y1 hy1 hr=>?_)
 obtain⟨F,hF,hcl⟩:=H.call
 refine (CA ok37 (q8W hy1 ⟨_,_,_,rfl,hS1,hS2,(hF.get (i:=4) rfl),(hF.get (i:=5) rfl),(hF.get (i:=6) rfl)⟩)) ?_
 rintro _ w3 hE ⟨A6,n6,c6,rfl,H'⟩
 let d1:List Value:=[.string a1.Name,.string a1.Left,.slice A3 n3 c3,.bool a1.Literal,.slice A4 n4 c4,.slice A5 n5 c5]
 have H:HL F0 [] w0 w3 [Pr.R a0 [.slice A1 n1 c1,.slice A2 n2 c2],Pr.R a1 d1,Pr.S a0.Symbols (.slice A1 n1 c1),Pr.S a0.Rules (.slice A2 n2 c2),Pr.S a1.Right (.slice A3 n3 c3),Pr.S a1.Equations (.slice A4 n4 c4),Pr.S a1.Contributions (.slice A5 n5 c5)] [It.B b1 31 [.slice A1 n1 c1,.slice A2 n2 c2],It.B b2 47 d1,It.G 58 y1 (.slice A6 n6 c6)]:=hcl H'
 refine WL.ev rfl rfl (Ev.mkfL rfl rfl rfl) ?_
 refine (bb hr fun y2 hy2 hr=>?_)
 exact (CA ok36 (q4C hy2 (F0:=fun q=>q < _) (H.rG (i:=2) rfl) ⟨(H.rB (i:=0) rfl).lt,_,At.blk (H.rB (i:=0) rfl),⟨_,_,rfl,(rs H 2),(rs H 3)⟩⟩ ⟨(H.rB (i:=1) rfl).lt,_,At.blk (H.rB (i:=1) rfl),⟨_,_,_,rfl,hS1,hS2,(rs H 4),(rs H 5),(rs H 6)⟩⟩)) (cE H fun w4 H=>(A) (Z (W1 hr)))
def q6d (a0:Grammar)(s1:Int):Nat→Rule→Unit→Option (Unit ⊕ (Int × Int)):=fun k1 x2 _=>if s1=3 then (q9m a0 x2).bind fun y5=>if y5=true then some (.inr (s1,(k1:Int))) else some (.inl ()) else if s1=4 then (q9n a0 x2).bind fun y6=>if y6=true then some (.inr (s1,(k1:Int))) else some (.inl ()) else if s1=5 then (z1R a0 x2).bind fun y7=>if y7=true then some (.inr (s1,(k1:Int))) else some (.inl ()) else (q9o a0 x2).bind fun y8=>if y8=true then some (.inr (s1,(k1:Int))) else some (.inl ())
def q2r (a0:Grammar):Int→Option (Int ⊕ (Unit ⊕ (Int × Int))):=fun s1=>if s1≤6 then (findL (q6d a0 s1) 0 a0.Rules ()).bind <| onr (fun r1=>some (.inr (.inr r1))) fun _=>grd (I64 (s1+1)) <| some (.inl (s1+1)) else some (.inr (.inl ()))
def q6A (a0:Grammar):Option (Int × Int):=(q0P (a0.Symbols.length:Int) 1 4).bind fun y1=>if y1=true then (q0P (a0.Rules.length:Int) 1 8).bind fun y2=>if y2=true then (q6y a0).bind fun y3=>if 0≤y3 then some (1,y3) else (a0.Symbols[0]?).bind fun x1=>(q0S x1.Attributes).bind fun y4=>if y4=true then some (2,0) else ( iterO (q2r a0) 3 ).bind <| onr (fun r2=>some r2) fun ()=>some (0,0) else some (1,0) else some (1,0)
theorem z3l {a0}{r}(hr:q6A a0=some r){ca0}(ha0:rd F0 w0 a0 ca0):RT 67 #[.agg ca0.toArray] w0 fun v w=>v = .tuple #[.int .i64 r.1,.int .i64 r.2]∧I64 r.1∧I64 r.2:=by
 have H:=(HL.start F0 w0).argR ha0
 obtain⟨A1,n1,c1,A2,n2,c2,rfl,H⟩:=q0e H (i:=0) rfl
 refine (En Tryz.func67) ?_
 refine R ((BX H) fun b1 w1 H=>(A) ((A) (Z (Y (R ((D 0) ((L H 0) ((NI H 1) fun hl1=>?_))))))))
 refine (bb hr fun y1 hy1 hr=>?_)
 refine (CA ok79 (q1u hy1 (F0:=fun _=>False) hl1 (by decide:I64 1) (by decide:I64 4))) (cE H fun w2 H=>(N) (jM hr (fun _ hr=>?_) fun _ hr=>?_))
 ·exact (O) ((O) ((O) ((O) ((O) ((T) (Z ((cT) (R ((A) ((A) (Z (W1 hr))))))))))))
 ·refine (G) ((D 1) ((G) ((L H 0) ((G) ((NI H 2) fun hl2=>(G) ?_)))))
  refine (bb hr fun y2 hy2 hr=>?_)
  refine (CA ok79 (q1u hy2 (F0:=fun _=>False) hl2 (by decide:I64 1) (by decide:I64 8))) (cE H fun w3 H=>(G) ((N) ((U) (Z (iM hr (fun _ hr=>?_) fun _ hr=>?_)))))
  ·exact R ((A) ((A) (Z (W1 hr))))
  ·refine K (Y (R ((LB H 0) ?_)))
   refine (bb hr fun y3 hy3 hr=>?_)
   refine (CA ok103 (z3k hy3 ⟨_,_,rfl,(rs H 1),(rs H 2)⟩)) (cF' H fun w4 hI1 H=>(A) (Z (R ((V) ((B) (Z (iD hr (fun _ hr=>?_) fun _ hr=>?_)))))))
   ·exact R ((V) ((A) ((A) (Z (W1 hr)))))
   ·refine K (Y (R ((D 0) ((L H 0) ?_))))
    refine (bb hr fun x1 hx1 hr=>?_)
    obtain⟨b2,ob2,cb2,A3,n3,c3,hvb2,hS1,H⟩:=q2w H (i:=1) rfl hx1
    refine (J 2 hvb2 hx1) ((D 1) ((LC H 3) ?_))
    refine (bb hr fun y4 hy4 hr=>?_)
    refine (CA ok41 (q3s hy4 (F0:=fun q=>q < _) (rs H 5))) (cE H fun w5 H=>Z (iB hr (fun _ hr=>?_) fun _ hr=>?_))
    ·refine Y ?_
     refine CW.fresh [] trivial fun σ=>?_
     have H:HL F0 [] w0 w5 [Pr.R a0 [.slice A1 n1 c1,.slice A2 n2 c2],Pr.S a0.Symbols (.slice A1 n1 c1),Pr.S a0.Rules (.slice A2 n2 c2),Pr.A b2 (ob2+0*2) [.string x1.Name,.slice A3 n3 c3],Pr.R x1 [.string x1.Name,.slice A3 n3 c3],Pr.S x1.Attributes (.slice A3 n3 c3)] [It.B b1 31 [.slice A1 n1 c1,.slice A2 n2 c2]]:=H
     exact X ((A) ((A) (Z (W1 hr))))
    ·refine K (Y (Y ?_))
     refine CW.fresh [(1,pB b1)] ⟨rfl,trivial⟩ fun σ=>?_
     let d1:List Pr:=[Pr.R a0 [.slice A1 n1 c1,.slice A2 n2 c2],Pr.S a0.Symbols (.slice A1 n1 c1),Pr.S a0.Rules (.slice A2 n2 c2),Pr.A b2 (ob2+0*2) [.string x1.Name,.slice A3 n3 c3],Pr.R x1 [.string x1.Name,.slice A3 n3 c3],Pr.S x1.Attributes (.slice A3 n3 c3)]
     let d2:List It:=[It.B b1 31 [.slice A1 n1 c1,.slice A2 n2 c2]]
     have H:HL F0 [] w0 w5 d1 d2:=H
     refine X ((A) (Z ?_))
     refine (bb hr fun q1 hm1 hr=>?_)
     refine CW.mid (fun ρ' w=>q1 = .inl ()∧agree ρ' []∧HL F0 [] w0 w d1 d2) ?_ ?_
     ·obtain⟨m1,hq1⟩:=q2m.1 hm1
      refine (lI hq1 (fun m1 s1 _=>[(1,pB b1),(5,.int .i64 s1)]) (fun s1 _ w=>I64 s1∧HL F0 [] w0 w d1 d2) ()) ?_
      rintro m1 s1 _ σ w6 hq1 ⟨hI2,H⟩
      obtain⟨m2,z1,rfl,hb1,hs1,ht1⟩:=q4S hq1
      refine Y (R ((V) ((B) (Z (iD hb1 (fun _ hb1=>?_) fun _ hb1=>?_)))))
      ·refine K (Y ?_)
       refine CW.block (R ((D 1) ((L H 0) ((NN (rs H 2)) ((V) (Z ?_))))))
       refine (bb hb1 fun q2 hq2 hb1=>?_)
       refine (lF hq2 (fun k1 _ _=>[(1,pB b1),(5,.int .i64 s1),(37,.slice A2 n2 c2),(38,zN a0.Rules.length),(39,zN k1)]) (fun _ _ w=>HL F0 [] w0 w d1 d2) ()) ?_
       rintro k1 _ _ σ w7 hk1 hq2 H
       refine R ((B) (Z (Y ?_)))
       refine CW.condD rfl (fun h6=>?_) (fun h6=>?_)
       ·have hk2:=q0m h6
        obtain⟨x2,z2,hx2,hb2,hs2,ht2⟩:=q0y hq2 hk2
        refine K (Y ?_)
        refine CW.block (R ((V) ?_))
        obtain⟨b3,ob3,cb3,A4,n4,c4,A5,n5,c5,A6,n6,c6,hvb3,hS2,hS3,H⟩:=q4W H (i:=2) rfl hx2
        refine (J 6 hvb3 hx2) ((LA H 6) ((AH ze47 H) fun b4 w8 H=>(A) ((SB H 1) fun w9 H=>Z (R ((A) (Z (Y (R ((V) (Z ?_))))))))))
        refine CW.block (R ((B) ((A) (Z (iD hb2 (fun _ hb2=>?_) fun _ hb2=>?_)))))
        ·refine X ((LB H 0) ((LB H 1) ?_))
         refine (bb hb2 fun y5 hy5 hb2=>?_)
         refine (CA ok105 (z5K hy5 ⟨_,_,rfl,(rs H 1),(rs H 2)⟩ ⟨_,_,_,rfl,hS2,hS3,(rs H 8),(rs H 9),(rs H 10)⟩)) (cE H fun w10 H=>(A) (Z (R ((V) (Z (iB hb2 (fun _ hb2=>?_) fun _ hb2=>?_))))))
         ·exact R ((V) ((V) ((A) ((A) (Z (W3 hb2 ht2 hb1 ht1 hr))))))
         ·exact K (X ((AN hk2 hl2) ((V) (Z (I2 hb2 hs2 ⟨k1+1,(),()⟩)))))
        ·refine R ((B) ((A) (Z (iD hb2 (fun _ hb2=>?_) fun _ hb2=>?_))))
         ·refine X ((LB H 0) ((LB H 1) ?_))
          refine (bb hb2 fun y6 hy6 hb2=>?_)
          refine (CA ok106 (z5L hy6 ⟨_,_,rfl,(rs H 1),(rs H 2)⟩ ⟨_,_,_,rfl,hS2,hS3,(rs H 8),(rs H 9),(rs H 10)⟩)) (cE H fun w11 H=>(A) (Z (R ((V) (Z (iB hb2 (fun _ hb2=>?_) fun _ hb2=>?_))))))
          ·exact R ((V) ((V) ((A) ((A) (Z (W3 hb2 ht2 hb1 ht1 hr))))))
          ·exact K (X ((AN hk2 hl2) ((V) (Z (I2 hb2 hs2 ⟨k1+1,(),()⟩)))))
         ·refine R ((B) ((A) (Z (iD hb2 (fun _ hb2=>?_) fun _ hb2=>?_))))
          ·refine X ((LB H 0) ((LB H 1) ?_))
           refine (bb hb2 fun y7 hy7 hb2=>?_)
           refine (CA ok107 (z7S hy7 ⟨_,_,rfl,(rs H 1),(rs H 2)⟩ ⟨_,_,_,rfl,hS2,hS3,(rs H 8),(rs H 9),(rs H 10)⟩)) (cE H fun w12 H=>(A) (Z (R ((V) (Z (iB hb2 (fun _ hb2=>?_) fun _ hb2=>?_))))))
           ·exact R ((V) ((V) ((A) ((A) (Z (W3 hb2 ht2 hb1 ht1 hr))))))
           ·exact K (X ((AN hk2 hl2) ((V) (Z (I2 hb2 hs2 ⟨k1+1,(),()⟩)))))
          ·refine X ((LB H 0) ((LB H 1) ?_))
           refine (bb hb2 fun y8 hy8 hb2=>?_)
           refine (CA ok108 (z5N hy8 ⟨_,_,rfl,(rs H 1),(rs H 2)⟩ ⟨_,_,_,rfl,hS2,hS3,(rs H 8),(rs H 9),(rs H 10)⟩)) (cE H fun w13 H=>(A) (Z (R ((V) (Z (iB hb2 (fun _ hb2=>?_) fun _ hb2=>?_))))))
           ·exact R ((V) ((V) ((A) ((A) (Z (W3 hb2 ht2 hb1 ht1 hr))))))
           ·exact K (X ((AN hk2 hl2) ((V) (Z (I2 hb2 hs2 ⟨k1+1,(),()⟩)))))
       ·obtain rfl:=q0l hq2 (q0c h6)
        have hb1:=(q0s _ _ _).symm.trans hb1
        refine CE (X ((V) ?_))
        exact (gg hb1 fun hg1 hb1=>(BN (Bin.add hg1)) ((A) (Z (I2 hb1 hs1 ⟨m2,(s1+1),()⟩))))
      ·exact CE (C2 hb1 ht1)
     ·rintro ρ' w14 ⟨rfl,hag,H⟩
      obtain⟨σ,rfl⟩:=ofL_ex hag
      exact R ((A) ((A) (Z (W1 hr))))
def q5x (a0:Int):Option (Int × Int × Int):=( if a0=1 then some (decide (a0=1)) else if a0=2 then some (decide (a0=2)) else if a0=3 then some (decide (a0=3)) else if a0=4 then some (decide (a0=4)) else some (decide (a0=5)) ).bind fun s1=>if s1=true then some (1,1,1) else ( if a0=6 then some (decide (a0=6)) else if a0=7 then some (decide (a0=7)) else some (decide (a0=8)) ).bind fun s2=>if s2=true then some (2,2,2) else if a0=9 then if a0=9 then some (1,1,3) else if a0=11 then some (2,1,3) else if a0=12 then some (2,1,2) else some (0,0,0) else if a0=10 then some (1,1,3) else if a0=11 then some (2,1,3) else if a0=12 then some (2,1,2) else some (0,0,0)
theorem z1C {a0}{r}(hr:q5x a0=some r){F0:Nat→Prop}(ha0:I64 a0):RT 146 #[.int .i64 a0] w0 fun v w=>v = .tuple #[.int .i64 r.1,.int .i64 r.2.1,.int .i64 r.2.2]∧I64 r.1∧I64 r.2.1∧I64 r.2.2:=by
 have H:=HL.start F0 w0
 refine (En Tryz.func146) ?_
 refine R ((A) ((A) ((A) (Z (Y (R ((V) (Z ?_))))))))
 refine CW.block (Y (R ((B) ((A) (Z ?_)))))
 refine (bb hr fun q1 hm1 hr=>?_)
 refine cm H [(5,.int .i64 a0),(6,.bool q1)] [] [] ?_ fun σ w1 H=>?_
 ·refine iD hm1 (fun _ hm1=>?_) fun _ hm1=>?_
  ·exact K (C1 hm1)
  ·refine R ((B) ((A) (Z (iD hm1 (fun _ hm1=>?_) fun _ hm1=>?_))))
   ·exact K (C1 hm1)
   ·refine R ((B) ((A) (Z (iD hm1 (fun _ hm1=>?_) fun _ hm1=>?_))))
    ·exact K (C1 hm1)
    ·refine R ((B) ((A) (Z (iD hm1 (fun _ hm1=>?_) fun _ hm1=>?_))))
     ·exact K (C1 hm1)
     ·exact X ((B) ((A) (Z (C1 hm1))))
 ·refine iB hr (fun _ hr=>?_) fun _ hr=>?_
  ·exact R ((A) ((A) ((A) (Z (W1 hr)))))
  ·refine Y (R ((B) ((A) (Z ?_))))
   refine (bb hr fun q2 hm2 hr=>?_)
   refine cm H [(5,.int .i64 a0),(12,.bool q2)] [] [] ?_ fun σ w2 H=>?_
   ·refine iD hm2 (fun _ hm2=>?_) fun _ hm2=>?_
    ·exact K (C1 hm2)
    ·refine R ((B) ((A) (Z (iD hm2 (fun _ hm2=>?_) fun _ hm2=>?_))))
     ·exact K (C1 hm2)
     ·exact X ((B) ((A) (Z (C1 hm2))))
   ·refine iB hr (fun _ hr=>?_) fun _ hr=>?_
    ·exact R ((A) ((A) ((A) (Z (W1 hr)))))
    ·refine Y (R ((B) ((A) (Z (iD hr (fun _ hr=>?_) fun _ hr=>?_)))))
     ·refine K (iD hr (fun _ hr=>?_) fun _ hr=>?_)
      ·exact R ((A) ((A) ((A) (Z (W1 hr)))))
      ·refine R ((B) ((A) (Z (iD hr (fun _ hr=>?_) fun _ hr=>?_))))
       ·exact R ((A) ((A) ((A) (Z (W1 hr)))))
       ·refine R ((B) ((A) (Z (iD hr (fun _ hr=>?_) fun _ hr=>?_))))
        ·exact R ((A) ((A) ((A) (Z (W1 hr)))))
        ·exact K (R ((A) ((A) ((A) (Z (W1 hr))))))
     ·refine X ((B) ((A) (Z (iD hr (fun _ hr=>?_) fun _ hr=>?_))))
      ·exact R ((A) ((A) ((A) (Z (W1 hr)))))
      ·refine R ((B) ((A) (Z (iD hr (fun _ hr=>?_) fun _ hr=>?_))))
       ·exact R ((A) ((A) ((A) (Z (W1 hr)))))
       ·refine R ((B) ((A) (Z (iD hr (fun _ hr=>?_) fun _ hr=>?_))))
        ·exact R ((A) ((A) ((A) (Z (W1 hr)))))
        ·exact K (R ((A) ((A) ((A) (Z (W1 hr))))))
def q4Q (rec_iTypeOfExpr:Grammar→Rule→Expr→Option Int)(a0:Grammar)(a1:Rule):Nat→Expr→(List Int)→Option (List Int):=fun k1 x1 s1=>(rec_iTypeOfExpr a0 a1 x1).bind fun y1=>grd (((s1.length:Int)+1)*8≤140737488355328∧(s1.length:Int)+1≤9223372036854775807) <| some (s1++[y1])
def q6B (rec_iTypeOfExpr:Grammar→Rule→Expr→Option Int)(a0:Grammar)(a1:Rule)(a2:Expr):Option Int:=(eachL (q4Q rec_iTypeOfExpr a0 a1) 0 a2.Args ([]:List Int)).bind fun s1=>if a2.Kind=1 then some a2.Type_ else ( if a2.Kind=2 then some a1.Literal else some false ).bind fun s2=>if s2=true then some 1 else if a2.Kind=3 then (q2T a0 a1 (⟨a2.Pos,a2.Name⟩:Occurrence)).bind fun (y2,y3)=>some y2.Type_ else ( if a2.Kind=4 then some (decide ((s1.length:Int)=2)) else some false ).bind fun s3=>if s3=true then (q5x a2.N).bind fun (y4,y5,y6)=>(s1[0]?).bind fun x2=>( if x2=y4 then (s1[1]?).bind fun x3=>some (decide (x3=y5)) else some false ).bind fun s4=>if s4=true then some y6 else some 0 else ( if a2.Kind=5 then some (decide ((s1.length:Int)=3)) else some false ).bind fun s5=>if s5=true then (s1[0]?).bind fun x4=>if x4=3 then (s1[1]?).bind fun x5=>(s1[2]?).bind fun x6=>if x5=x6 then some x5 else some 0 else some 0 else ( if a2.Kind=6 then (q0P a2.Pos 0 (a1.Right.length:Int)).bind fun y7=>some y7 else some false ).bind fun s6=>( if s6=true then some s6 else some (decide (a2.Kind=7)) ).bind fun s7=>if s7=true then some 4 else ( if a2.Kind=8 then some (decide ((s1.length:Int)=1)) else some false ).bind fun s8=>( if s8=true then (s1[0]?).bind fun x7=>some (decide (x7=4)) else some false ).bind fun s9=>if s9=true then (q1Y a0 a2.Symbol).bind fun (y8,y9)=>(q2c y8 a2.Name).bind fun (y10,y11)=>some y10.Type_ else some 0
end Go.Proofs.YtmblndlpkpaobaaGreat

