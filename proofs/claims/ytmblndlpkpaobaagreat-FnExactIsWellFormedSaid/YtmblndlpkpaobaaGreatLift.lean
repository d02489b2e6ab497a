/- What some functions of the program compute, as partial functions on plain data, and that they do; each lemma bears its conditions in its statement. -/
import Derived.Test.YtmblndlpkpaobaaGreatLiftB
set_option linter.unusedVariables false
set_option linter.unusedSimpArgs false
set_option linter.ambiguousOpen false
set_option linter.unusedSectionVars false
set_option linter.unnecessarySimpa false
set_option linter.unusedVariables false
set_option linter.unusedSimpArgs false
set_option maxRecDepth 100000
set_option maxHeartbeats 4000000
noncomputable section
namespace Go.Proofs.YtmblndlpkpaobaaGreat
open Go Go.E
open Go.E.Rep (rd)
open Go.E.Sep (own)
open Go.E.Sz (szd)
variable {F0:Nat→Prop}{w0:World}{M:List Nat}
theorem z2B {rec_iTypeOfExpr:Grammar→Rule→Expr→Option Int}(ih_iTypeOfExpr:∀ {a0:Grammar}{a1:Rule}{a2:Expr}{r:Int},rec_iTypeOfExpr a0 a1 a2=some r→∀ {F0:Nat→Prop}{w0:World}{ca0}(ha0:rd F0 w0 a0 ca0){ca1}(ha1:rd F0 w0 a1 ca1){ca2}(ha2:rd F0 w0 a2 ca2),RT 109 #[.agg ca0.toArray,.agg ca1.toArray,.agg ca2.toArray] w0 fun v w=>v = .int .i64 r∧I64 r){a0}{a1}{a2}{r}(hr:q6B rec_iTypeOfExpr a0 a1 a2=some r){ca0}(ha0:rd F0 w0 a0 ca0){ca1}(ha1:rd F0 w0 a1 ca1){ca2}(ha2:rd F0 w0 a2 ca2):RT 109 #[.agg ca0.toArray,.agg ca1.toArray,.agg ca2.toArray] w0 fun v w=>v = .int .i64 r∧I64 r:=by
 have H:=(((HL.start F0 w0).argR ha0).argR ha1).argR ha2
 obtain⟨A1,n1,c1,A2,n2,c2,rfl,H⟩:=q0e H (i:=0) rfl
 obtain⟨A3,n3,c3,A4,n4,c4,A5,n5,c5,rfl,hS1,hS2,H⟩:=q0z H (i:=1) rfl
 obtain⟨A6,n6,c6,rfl,hI1,hI2,hI3,hI4,hS3,hS4,H⟩:=q0X H (i:=2) rfl
 refine (En Tryz.func109) ?_
 refine R ((BX H) fun b1 w1 H=>(BX H) fun b2 w2 H=>(BX H) fun b3 w3 H=>(A) (Z (R ?_)))
 refine WL.lit0H (α:=Int) rfl rfl rfl el106 sz3 H fun A7 n7 c7 w4 H=>(A) (Z (Y (R ((D 6) ((L H 2) ((NI H 8) fun hl1=>(V) (Z ?_)))))))
 refine (bb hr fun q1 hq1 hr=>?_)
 let d3:List Value:=[.int .i64 a2.Kind,.int .i64 a2.N,.int .i64 a2.Pos,.int .i64 a2.Type_,.string a2.Symbol,.string a2.Name,.slice A6 n6 c6]
 let d4:List Value:=[.string a1.Name,.string a1.Left,.slice A3 n3 c3,.bool a1.Literal,.slice A4 n4 c4,.slice A5 n5 c5]
 let d5:List Value:=[.slice A1 n1 c1,.slice A2 n2 c2]
 let d6:Pr:=Pr.S a1.Contributions (.slice A5 n5 c5)
 let d7:Pr:=Pr.S a1.Equations (.slice A4 n4 c4)
 let d8:Pr:=Pr.S a0.Symbols (.slice A1 n1 c1)
 let d9:Pr:=Pr.S a0.Rules (.slice A2 n2 c2)
 let d10:Pr:=Pr.S a1.Right (.slice A3 n3 c3)
 let d11:Pr:=Pr.S a2.Args (.slice A6 n6 c6)
 let d1:List Pr:=[Pr.R a0 d5,Pr.R a1 d4,Pr.R a2 d3,d8,d9,d10,d7,d6,d11]
 refine CW.block (CW.loop (α:=Nat × (List Int) × Value) (fun ⟨k1,s1,v1⟩=>[(3,pB b1),(4,pB b2),(5,pB b3),(7,v1),(21,.slice A6 n6 c6),(22,zN a2.Args.length),(23,zN k1)]) (fun ⟨k1,s1,v1⟩ w=>k1≤a2.Args.length∧eachL (q4Q rec_iTypeOfExpr a0 a1) k1 (a2.Args.drop k1) s1=some q1∧HL F0 [] w0 w d1 [It.B b1 31 d5,It.B b2 47 d4,It.B b3 58 d3,It.O 3 s1 v1]) (fun ⟨k1,s1,v1⟩=>a2.Args.length - k1) ⟨0,([]:List Int),(.slice A7 n7 c7)⟩ ⟨rfl,rfl,rfl,rfl,rfl,rfl,rfl,trivial⟩ ⟨Nat.zero_le _,hq1,H.keep 9 4⟩ ?_)
 rintro⟨k1,s1,v1⟩ σ w5 ⟨hk1,hq1,H⟩
 obtain⟨A8,n8,c8,rfl⟩:=(H.rO (i:=3) rfl).form3
 refine R ((B) (Z (Y ?_)))
 refine CW.condD rfl (fun h1=>?_) (fun h1=>?_)
 ·have hk2:=q0m h1
  obtain⟨x1,z1,hx1,hb1,hq1⟩:=q4w hq1 hk2
  refine K (Y ?_)
  refine CW.block (R ?_)
  obtain⟨b4,ob4,cb4,A9,n9,c9,hvb4,hI5,hI6,hI7,hI8,hS5,hS6,H⟩:=q0u H (i:=8) rfl hx1
  refine (J 7 hvb4 hx1) ((LA H 9) ((AH ze58 H) fun b5 w6 H=>(SB H 4) fun w7 H=>Z (X ((V) ((LB H 0) ((LB H 1) ((LB H 4) ?_)))))))
  refine (bb hb1 fun y1 hy1 hb1=>?_)
  refine (CA ok109 (ih_iTypeOfExpr hy1 ⟨_,_,rfl,(rs H 3),(rs H 4)⟩ ⟨_,_,_,rfl,hS1,hS2,(rs H 5),(rs H 6),(rs H 7)⟩ (q0b.2 ⟨_,rfl,hI5,hI6,hI7,hI8,hS5,hS6,(rs H 11)⟩))) (cF' H fun w8 hI9 H=>?_)
  refine WL.lit1 rfl rfl rfl el106 sz3 ze3 rfl rfl rfl rfl rfl rfl fun b6 w9 hE hb hB=>?_
  have H:=H.newB hE hb hB
  refine (gg hb1 fun hg1 hb1=>?_)
  refine WL.appO (i:=3) (ys:=[y1]) rfl rfl rfl el106 sz3 by3 ze3 rfl rfl rfl H rfl (fun _=>ownL.single ⟨rfl,rfl,hI9⟩) (.inr ⟨_,_,rfl,At.blk (H.rB (i:=5) rfl)⟩) hg1 fun A10 n10 c10 w10 H=>(A) (Z (X ((AN hk2 hl1) ((V) (Z ?_)))))
  obtain rfl:=sm hb1
  exact⟨⟨k1+1,(s1++[y1]),(.slice A10 n10 c10)⟩,⟨rfl,rfl,rfl,rfl,rfl,rfl,rfl,trivial⟩,⟨hk2,hq1,H.keep 9 4⟩,Nat.sub_lt_sub_left hk2 (Nat.lt_succ_self _)⟩
 ·obtain rfl:=q3w hq1 (q0c h1)
  refine CE (Y ?_)
  refine CW.block (R ((D 0) ((L H 2) ((B) ((A) (Z (iD hr (fun _ hr=>?_) fun _ hr=>?_)))))))
  ·refine R ((D 3) ((L H 2) ((A) (Z (CR ?_)))))
   obtain rfl:=sm hr
   exact⟨_,res1 rfl rfl rfl,H.ext0,rfl,hI4⟩
  ·refine R ((D 0) ((L H 2) ((B) ?_)))
   refine (bb hr fun q2 hm1 hr=>?_)
   let d2:List It:=[It.B b1 31 d5,It.B b2 47 d4,It.B b3 58 d3,It.O 3 s1 (.slice A8 n8 c8)]
   refine WL.cut 4 (fun ρ' w=>∃ (s2:Bool),s2=q2∧agree ρ' [(3,pB b1),(4,pB b2),(5,pB b3),(7,.slice A8 n8 c8),(48,.bool s2)]∧HL F0 [] w0 w d1 d2) ?_ ?_
   ·refine jD hm1 (fun _ hm1=>?_) fun _ hm1=>?_
    ·refine (G) ((D 3) ((G) ((L H 1) ((T) (Z ?_)))))
     obtain rfl:=sm hm1
     exact⟨a1.Literal,rfl,⟨rfl,rfl,rfl,rfl,rfl,trivial⟩,H.keep 9 4⟩
    ·refine (O) ((O) ((U) (Z ?_)))
     obtain rfl:=sm hm1
     exact⟨false,rfl,⟨rfl,rfl,rfl,rfl,rfl,trivial⟩,H.keep 9 4⟩
   ·rintro ρ' w11 ⟨s2,rfl,hag,H⟩
    obtain⟨σ,rfl⟩:=ofL_ex hag
    refine (A) (Z (iB hr (fun _ hr=>?_) fun _ hr=>?_))
    ·refine R ((A) (Z (CR ?_)))
     obtain rfl:=sm hr
     exact⟨_,res1 rfl rfl rfl,H.ext0,rfl,(by decide:I64 1)⟩
    ·refine R ((D 0) ((L H 2) ((B) ((A) (Z (iD hr (fun _ hr=>?_) fun _ hr=>?_))))))
     ·refine R ((LB H 0) ((LB H 1) ((D 2) ((L H 2) ((D 5) ((L H 2) ?_))))))
      refine WL.ev rfl rfl (Ev.build rfl pl55 ze55 rfl rfl rfl rfl) ?_
      obtain⟨⟨y2,y3⟩,hy2,hr⟩:=bd hr
      refine (CA ok45 (q5w hy2 ⟨_,_,rfl,(rs H 3),(rs H 4)⟩ ⟨_,_,_,rfl,hS1,hS2,(rs H 5),(rs H 6),(rs H 7)⟩ ⟨rfl,hI3,hS4⟩)) ?_
      rintro _ w12 hE ⟨rfl,hS7,hI10,hI11⟩
      have H:=H.ext hE
      refine (V) ((EX) ((EX) ((AH ze41 H) fun b7 w13 H=>(SB H 4) fun w14 H=>(A) (Z (R ((D 1) ((L H 4) ((A) (Z (CR ?_))))))))))
      obtain rfl:=sm hr
      exact⟨_,res1 rfl rfl rfl,H.ext0,rfl,hI10⟩
     ·refine R ((D 0) ((L H 2) ((B) ?_)))
      refine (bb hr fun q3 hm2 hr=>?_)
      refine WL.cut 5 (fun ρ' w=>∃ (s3:Bool),s3=q3∧agree ρ' [(3,pB b1),(4,pB b2),(5,pB b3),(7,.slice A8 n8 c8),(74,.bool s3)]∧HL F0 [] w0 w d1 d2) ?_ ?_
      ·refine jD hm2 (fun _ hm2=>?_) fun _ hm2=>?_
       ·refine (G) ((V) ((G) ?_))
        have hl2:=(H.rO (i:=3) rfl).I
        refine (NN (ro H 3)) ((G) ((B) ((T) (Z ?_))))
        obtain rfl:=sm hm2
        exact⟨(decide ((s1.length:Int)=2)),rfl,⟨rfl,rfl,rfl,rfl,rfl,trivial⟩,H.keep 9 4⟩
       ·refine (O) ((O) ((O) ((U) (Z ?_))))
        obtain rfl:=sm hm2
        exact⟨false,rfl,⟨rfl,rfl,rfl,rfl,rfl,trivial⟩,H.keep 9 4⟩
      ·rintro ρ' w15 ⟨s3,rfl,hag,H⟩
       obtain⟨σ,rfl⟩:=ofL_ex hag
       refine (A) (Z (iB hr (fun _ hr=>?_) fun _ hr=>?_))
       ·refine R ((D 1) ((L H 2) ?_))
        obtain⟨⟨y4,y5,y6⟩,hy3,hr⟩:=bd hr
        refine (CA ok146 (z1C hy3 (F0:=fun _=>False) hI2)) ?_
        rintro _ w16 hE ⟨rfl,hI12,hI13,hI14⟩
        have H:=H.ext hE
        refine (V) ((EX) ((EX) ((EX) ((A) ((A) ((A) (Z (R ((V) ?_)))))))))
        refine (bb hr fun x2 hx2 hr=>?_)
        obtain⟨b8,cb8,hvb8,hbb8⟩:=H.ptO (i:=3) rfl hx2
        refine (J 1 hvb8 hx2) ?_
        obtain⟨hA1,hI15,H⟩:=q6J H (i:=3) rfl hx2 hbb8
        refine WL.ev rfl rfl (Ev.ld rfl ag3 rfl (hA1.cell0 rfl)) ((V) ((B) ?_))
        refine (bb hr fun q4 hm3 hr=>?_)
        refine WL.cut 7 (fun ρ' w=>∃ (s4:Bool),s4=q4∧agree ρ' [(14,.int .i64 y6),(93,.bool s4)]∧HL F0 [] w0 w [Pr.R a0 d5,Pr.R a1 d4,Pr.R a2 d3,d8,d9,d10,d7,d6,d11,Pr.R x2 [.int .i64 x2]] d2) ?_ ?_
        ·refine jD hm3 (fun _ hm3=>?_) fun _ hm3=>?_
         ·refine (G) ((V) ((G) ?_))
          refine (bb hm3 fun x3 hx3 hm3=>?_)
          obtain⟨b9,cb9,hvb9,hbb9⟩:=H.ptO (i:=3) rfl hx3
          refine (J 1 hvb9 hx3) ((G) ?_)
          obtain⟨hA2,hI16,H⟩:=q6J H (i:=3) rfl hx3 hbb9
          refine WL.ev rfl rfl (Ev.ld rfl ag3 rfl (hA2.cell0 rfl)) ((G) ((V) ((G) ((B) ((T) (Z ?_))))))
          obtain rfl:=sm hm3
          exact⟨(decide (x3=y5)),rfl,⟨rfl,rfl,trivial⟩,H.keep 10 4⟩
         ·refine (O) ((O) ((O) ((O) ((O) ((U) (Z ?_))))))
          obtain rfl:=sm hm3
          exact⟨false,rfl,⟨rfl,rfl,trivial⟩,H.keep 10 4⟩
        ·rintro ρ' w17 ⟨s4,rfl,hag,H⟩
         obtain⟨σ,rfl⟩:=ofL_ex hag
         refine Z (iB hr (fun _ hr=>?_) fun _ hr=>?_)
         ·refine R ((V) ((A) (Z (CR ?_))))
          obtain rfl:=sm hr
          exact⟨_,res1 rfl rfl rfl,H.ext0,rfl,hI14⟩
         ·refine K (R ((A) (Z (CR ?_))))
          obtain rfl:=sm hr
          exact⟨_,res1 rfl rfl rfl,H.ext0,rfl,(by decide:I64 0)⟩
       ·refine R ((D 0) ((L H 2) ((B) ?_)))
        refine (bb hr fun q5 hm4 hr=>?_)
        refine WL.cut 5 (fun ρ' w=>∃ (s5:Bool),s5=q5∧agree ρ' [(3,pB b1),(4,pB b2),(5,pB b3),(7,.slice A8 n8 c8),(103,.bool s5)]∧HL F0 [] w0 w d1 d2) ?_ ?_
        ·refine jD hm4 (fun _ hm4=>?_) fun _ hm4=>?_
         ·refine (G) ((V) ((G) ?_))
          have hl3:=(H.rO (i:=3) rfl).I
          refine (NN (ro H 3)) ((G) ((B) ((T) (Z ?_))))
          obtain rfl:=sm hm4
          exact⟨(decide ((s1.length:Int)=3)),rfl,⟨rfl,rfl,rfl,rfl,rfl,trivial⟩,H.keep 9 4⟩
         ·refine (O) ((O) ((O) ((U) (Z ?_))))
          obtain rfl:=sm hm4
          exact⟨false,rfl,⟨rfl,rfl,rfl,rfl,rfl,trivial⟩,H.keep 9 4⟩
        ·rintro ρ' w18 ⟨s5,rfl,hag,H⟩
         obtain⟨σ,rfl⟩:=ofL_ex hag
         refine (A) (Z (iB hr (fun _ hr=>?_) fun _ hr=>?_))
         ·refine Y ?_
          refine CW.quiet hmix (by kernel_rfl) ?_
          refine (qV) ?_
          refine (bb hr fun x4 hx4 hr=>?_)
          obtain⟨b10,cb10,hvb10,hbb10⟩:=H.ptO (i:=3) rfl hx4
          refine (qJ 1 hvb10 hx4) ?_
          obtain⟨hA3,hI17,H⟩:=q6J H (i:=3) rfl hx4 hbb10
          refine QL.ev rfl rfl (fun _ hq=>Ev.ld rfl ag3 rfl ((hA3.ext hq).cell0 rfl)) ?_
          refine (qB) ?_
          refine kD hr (fun _ hr=>?_) fun _ hr=>?_
          ·refine (qG) ((qV) ((qG) ?_))
           refine (bb hr fun x5 hx5 hr=>?_)
           obtain⟨b11,cb11,hvb11,hbb11⟩:=H.ptO (i:=3) rfl hx5
           refine (qJ 1 hvb11 hx5) ((qG) ?_)
           obtain⟨hA4,hI18,H⟩:=q6J H (i:=3) rfl hx5 hbb11
           refine QL.ev rfl rfl (fun _ hq=>Ev.ld rfl ag3 rfl ((hA4.ext hq).cell0 rfl)) ?_
           refine (qG) ((qV) ((qG) ?_))
           refine (bb hr fun x6 hx6 hr=>?_)
           obtain⟨b12,cb12,hvb12,hbb12⟩:=H.ptO (i:=3) rfl hx6
           refine (qJ 1 hvb12 hx6) ((qG) ?_)
           obtain⟨hA5,hI19,H⟩:=q6J H (i:=3) rfl hx6 hbb12
           refine QL.ev rfl rfl (fun _ hq=>Ev.ld rfl ag3 rfl ((hA5.ext hq).cell0 rfl)) ?_
           refine (qG) ((qB) ((qT) ?_))
           refine QL.nil (fun w19 hE=>?_)
           have H:=H.ext hE
           refine iD hr (fun _ hr=>?_) fun _ hr=>?_
           ·refine R ((V) ?_)
            obtain⟨b13,cb13,hvb13,hbb13⟩:=H.ptO (i:=3) rfl hx5
            refine (J 1 hvb13 hx5) ?_
            obtain⟨hA6,hI20,H⟩:=q6J H (i:=3) rfl hx5 hbb13
            refine WL.ev rfl rfl (Ev.ld rfl ag3 rfl (hA6.cell0 rfl)) ((A) (Z (CR ?_)))
            obtain rfl:=sm hr
            exact⟨_,res1 rfl rfl rfl,H.ext0,rfl,hI20⟩
           ·refine K (R ((A) (Z (CR ?_))))
            obtain rfl:=sm hr
            exact⟨_,res1 rfl rfl rfl,H.ext0,rfl,(by decide:I64 0)⟩
          ·refine (qO) ((qO) ((qO) ((qO) ((qO) ((qO) ((qO) ((qU) ?_)))))))
           refine QL.nil (fun w20 hE=>?_)
           have H:=H.ext hE
           refine (cF) (K (R ((A) (Z (CR ?_)))))
           obtain rfl:=sm hr
           exact⟨_,res1 rfl rfl rfl,H.ext0,rfl,(by decide:I64 0)⟩
         ·refine Y (R ((D 0) ((L H 2) ((B) ?_))))
          refine (bb hr fun q6 hm5 hr=>?_)
          refine WL.cut 8 (fun ρ' w=>∃ (s6:Bool),s6=q6∧agree ρ' [(3,pB b1),(5,pB b3),(7,.slice A8 n8 c8),(131,.bool s6)]∧HL F0 [] w0 w d1 d2) ?_ ?_
          ·refine jD hm5 (fun _ hm5=>?_) fun _ hm5=>?_
           ·refine (G) ((D 2) ((G) ((L H 2) ((G) ((D 2) ((G) ((L H 1) ((G) ((NI H 5) fun hl4=>(G) ?_)))))))))
            refine (bb hm5 fun y7 hy4 hm5=>?_)
            refine (CA ok79 (q1u hy4 (F0:=fun _=>False) hI3 (by decide:I64 0) hl4)) (cE H fun w21 H=>(T) (Z ?_))
            obtain rfl:=sm hm5
            exact⟨y7,rfl,⟨rfl,rfl,rfl,rfl,trivial⟩,H.keep 9 4⟩
           ·refine (O) ((O) ((O) ((O) ((O) ((O) ((U) (Z ?_)))))))
            obtain rfl:=sm hm5
            exact⟨false,rfl,⟨rfl,rfl,rfl,rfl,trivial⟩,H.keep 9 4⟩
          ·rintro ρ' w22 ⟨s6,rfl,hag,H⟩
           obtain⟨σ,rfl⟩:=ofL_ex hag
           refine (A) (Z ?_)
           refine (bb hr fun q7 hm6 hr=>?_)
           refine CW.mid (fun ρ' w=>∃ (s7:Bool),s7=q7∧agree ρ' [(3,pB b1),(5,pB b3),(7,.slice A8 n8 c8),(120,.bool s7)]∧HL F0 [] w0 w d1 d2) ?_ ?_
           ·refine iB hm6 (fun _ hm6=>?_) fun _ hm6=>?_
            ·refine K ?_
             obtain rfl:=sm hm6
             exact⟨s6,rfl,⟨rfl,rfl,rfl,rfl,trivial⟩,H.keep 9 4⟩
            ·refine X ((D 0) ((L H 2) ((B) ((A) (Z ?_)))))
             obtain rfl:=sm hm6
             exact⟨(decide (a2.Kind=7)),rfl,⟨rfl,rfl,rfl,rfl,trivial⟩,H.keep 9 4⟩
           ·rintro ρ' w23 ⟨s7,rfl,hag,H⟩
            obtain⟨σ,rfl⟩:=ofL_ex hag
            refine iB hr (fun _ hr=>?_) fun _ hr=>?_
            ·refine R ((A) (Z (CR ?_)))
             obtain rfl:=sm hr
             exact⟨_,res1 rfl rfl rfl,H.ext0,rfl,(by decide:I64 4)⟩
            ·refine R ((D 0) ((L H 2) ((B) ?_)))
             refine (bb hr fun q8 hm7 hr=>?_)
             refine WL.cut 5 (fun ρ' w=>∃ (s8:Bool),s8=q8∧agree ρ' [(3,pB b1),(5,pB b3),(7,.slice A8 n8 c8),(143,.bool s8)]∧HL F0 [] w0 w d1 d2) ?_ ?_
             ·refine jD hm7 (fun _ hm7=>?_) fun _ hm7=>?_
              ·refine (G) ((V) ((G) ?_))
               have hl5:=(H.rO (i:=3) rfl).I
               refine (NN (ro H 3)) ((G) ((B) ((T) (Z ?_))))
               obtain rfl:=sm hm7
               exact⟨(decide ((s1.length:Int)=1)),rfl,⟨rfl,rfl,rfl,rfl,trivial⟩,H.keep 9 4⟩
              ·refine (O) ((O) ((O) ((U) (Z ?_))))
               obtain rfl:=sm hm7
               exact⟨false,rfl,⟨rfl,rfl,rfl,rfl,trivial⟩,H.keep 9 4⟩
             ·rintro ρ' w24 ⟨s8,rfl,hag,H⟩
              obtain⟨σ,rfl⟩:=ofL_ex hag
              refine (bb hr fun q9 hm8 hr=>?_)
              refine WL.cut 6 (fun ρ' w=>∃ (s9:Bool),s9=q9∧agree ρ' [(3,pB b1),(5,pB b3),(149,.bool s9)]∧HL F0 [] w0 w d1 d2) ?_ ?_
              ·refine jB hm8 (fun _ hm8=>?_) fun _ hm8=>?_
               ·refine (G) ((V) ((G) ?_))
                refine (bb hm8 fun x7 hx7 hm8=>?_)
                obtain⟨b14,cb14,hvb14,hbb14⟩:=H.ptO (i:=3) rfl hx7
                refine (J 1 hvb14 hx7) ((G) ?_)
                obtain⟨hA7,hI21,H⟩:=q6J H (i:=3) rfl hx7 hbb14
                refine WL.ev rfl rfl (Ev.ld rfl ag3 rfl (hA7.cell0 rfl)) ((G) ((B) ((T) (Z ?_))))
                obtain rfl:=sm hm8
                exact⟨(decide (x7=4)),rfl,⟨rfl,rfl,rfl,trivial⟩,H.keep 9 4⟩
               ·refine (O) ((O) ((O) ((O) ((U) (Z ?_)))))
                obtain rfl:=sm hm8
                exact⟨false,rfl,⟨rfl,rfl,rfl,trivial⟩,H.keep 9 4⟩
              ·rintro ρ' w25 ⟨s9,rfl,hag,H⟩
               obtain⟨σ,rfl⟩:=ofL_ex hag
               refine (A) (Z (iB hr (fun _ hr=>?_) fun _ hr=>?_))
               ·refine R ((LB H 0) ((D 4) ((L H 2) ?_)))
                obtain⟨⟨y8,y9⟩,hy5,hr⟩:=bd hr
                obtain⟨F,hF,hcl⟩:=H.call
                refine (CA ok80 (q3Z hy5 ⟨_,_,rfl,(hF.get (i:=3) rfl),(hF.get (i:=4) rfl)⟩ hS3)) ?_
                rintro _ w26 hE ⟨A11,n11,c11,rfl,hS8,H'⟩
                have H:HL F0 [] w0 w26 [Pr.R a0 d5,Pr.R a1 d4,Pr.R a2 d3,d8,d9,d10,d7,d6,d11,Pr.S y8.Attributes (.slice A11 n11 c11)] d2:=hcl H'
                refine (V) ((EX) ((EX) ((AH ze39 H) fun b15 w27 H=>(SB H 4) fun w28 H=>(A) (Z (R ((LB H 4) ((D 5) ((L H 2) ?_))))))))
                obtain⟨⟨y10,y11⟩,hy6,hr⟩:=bd hr
                refine (CA ok81 (q5J hy6 ⟨_,rfl,hS8,(rs H 9)⟩ hS4)) ?_
                rintro _ w29 hE ⟨rfl,hS9,hI22,hI23⟩
                have H:=H.ext hE
                refine (V) ((EX) ((EX) ((AH ze41 H) fun b16 w30 H=>(SB H 5) fun w31 H=>(A) (Z (R ((D 1) ((L H 5) ((A) (Z (CR ?_))))))))))
                obtain rfl:=sm hr
                exact⟨_,res1 rfl rfl rfl,H.ext0,rfl,hI22⟩
               ·refine K (R ((A) (Z (CR ?_))))
                obtain rfl:=sm hr
                exact⟨_,res1 rfl rfl rfl,H.ext0,rfl,(by decide:I64 0)⟩
def q3T:Nat→Grammar→Rule→Expr→Option Int
  | 0,_,_,_=>none
  | n+1,a0,a1,a2=>q6B (q3T n) a0 a1 a2
def q5y (a0:Grammar)(a1:Rule)(a2:Expr):Option Int:=recO fun n=>q3T n a0 a1 a2
theorem z2C (n:Nat):∀ {a0:Grammar}{a1:Rule}{a2:Expr}{r:Int},q3T n a0 a1 a2=some r→∀ {F0:Nat→Prop}{w0:World}{ca0}(ha0:rd F0 w0 a0 ca0){ca1}(ha1:rd F0 w0 a1 ca1){ca2}(ha2:rd F0 w0 a2 ca2),RT 109 #[.agg ca0.toArray,.agg ca1.toArray,.agg ca2.toArray] w0 fun v w=>v = .int .i64 r∧I64 r:=by
 induction n with
 | zero=>intro a0 a1 a2 r hr; exact nomatch (show (none:Option Int)=some r from hr)
 | succ n ih=>intro a0 a1 a2 r hr; exact z2B ih hr
theorem q6e {a0}{a1}{a2}{r}(hr:q5y a0 a1 a2=some r){ca0}(ha0:rd F0 w0 a0 ca0){ca1}(ha1:rd F0 w0 a1 ca1){ca2}(ha2:rd F0 w0 a2 ca2):RT 109 #[.agg ca0.toArray,.agg ca1.toArray,.agg ca2.toArray] w0 fun v w=>v = .int .i64 r∧I64 r:=by
 obtain⟨n,hn⟩:=q2f hr
 exact z2C n hn ha0 ha1 ha2
def z1n (a0:Grammar)(a1:Rule):Nat→Equation→Unit→Option (Unit ⊕ Bool):=fun k1 x1 _=>(q2T a0 a1 x1.At).bind fun (y1,y2)=>(q5y a0 a1 x1.Expr).bind fun y3=>if y3=y1.Type_ then some (.inl ()) else some (.inr true)
def z1o (a0:Grammar)(a1:Rule):Nat→Contribution→Unit→Option (Unit ⊕ Bool):=fun k2 x2 _=>(q1Y a0 x2.Symbol).bind fun (y4,y5)=>(q2c y4 x2.Name).bind fun (y6,y7)=>(q5y a0 a1 x2.Target).bind fun y8=>( if y8=4 then (q5y a0 a1 x2.Value).bind fun y9=>some (!(decide (y9=2))) else some true ).bind fun s1=>( if s1=true then some true else some (!(decide (y6.Mode=3))) ).bind fun s2=>if s2=true then some (.inr true) else some (.inl ())
def q8i (a0:Grammar)(a1:Rule):Option Bool:=(findL (z1n a0 a1) 0 a1.Equations ()).bind <| onr (fun r1=>some r1) fun _=>(findL (z1o a0 a1) 0 a1.Contributions ()).bind <| onr (fun r2=>some r2) fun _=>some false
theorem z4S {a0}{a1}{r}(hr:q8i a0 a1=some r){ca0}(ha0:rd F0 w0 a0 ca0){ca1}(ha1:rd F0 w0 a1 ca1):RT 68 #[.agg ca0.toArray,.agg ca1.toArray] w0 fun v w=>v = .bool r:=by
 have H:=((HL.start F0 w0).argR ha0).argR ha1
 obtain⟨A1,n1,c1,A2,n2,c2,rfl,H⟩:=q0e H (i:=0) rfl
 obtain⟨A3,n3,c3,A4,n4,c4,A5,n5,c5,rfl,hS1,hS2,H⟩:=q0z H (i:=1) rfl
 refine (En Tryz.func68) ?_
 refine R ((BX H) fun b1 w1 H=>(BX H) fun b2 w2 H=>(A) (Z (Y (R ((D 4) ((L H 1) ((NI H 5) fun hl1=>(V) (Z ?_))))))))
 refine (bb hr fun q1 hq1 hr=>?_)
 let d2:List Value:=[.string a1.Name,.string a1.Left,.slice A3 n3 c3,.bool a1.Literal,.slice A4 n4 c4,.slice A5 n5 c5]
 let d3:List Value:=[.slice A1 n1 c1,.slice A2 n2 c2]
 let d7:Pr:=Pr.S a1.Contributions (.slice A5 n5 c5)
 let d8:Pr:=Pr.S a1.Equations (.slice A4 n4 c4)
 let d9:Pr:=Pr.S a0.Symbols (.slice A1 n1 c1)
 let d10:Pr:=Pr.S a0.Rules (.slice A2 n2 c2)
 let d11:Pr:=Pr.S a1.Right (.slice A3 n3 c3)
 refine (lF hq1 (fun k1 _ _=>[(2,pB b1),(3,pB b2),(16,.slice A4 n4 c4),(17,zN a1.Equations.length),(18,zN k1)]) (fun _ _ w=>HL F0 [] w0 w [Pr.R a0 d3,Pr.R a1 d2,d9,d10,d11,d8,d7] [It.B b1 31 d3,It.B b2 47 d2]) ()) ?_
 rintro k1 _ _ σ w3 hk1 hq1 H
 refine R ((B) (Z (Y ?_)))
 refine CW.condD rfl (fun h1=>?_) (fun h1=>?_)
 ·have hk2:=q0m h1
  obtain⟨x1,z1,hx1,hb1,hs1,ht1⟩:=q0y hq1 hk2
  refine K (Y ?_)
  refine CW.block (R ?_)
  obtain⟨b3,ob3,cb3,A6,n6,c6,hvb3,hI1,hS3,hI2,hI3,hI4,hI5,hS4,hS5,H⟩:=q1B H (i:=5) rfl hx1
  refine (J 9 hvb3 hx1) ((LA H 7) ((AH ze60 H) fun b4 w4 H=>(SB H 2) fun w5 H=>Z (R ((LB H 0) ((LB H 1) ((D 0) ?_))))))
  refine WL.ev rfl rfl (Ev.lda rfl ag55 sz55 rfl (Blk.part (H.rB (i:=2) rfl) 0 2) rfl) ?_
  obtain⟨⟨y1,y2⟩,hy1,hb1⟩:=bd hb1
  refine (CA ok45 (q5w hy1 ⟨_,_,rfl,(rs H 2),(rs H 3)⟩ ⟨_,_,_,rfl,hS1,hS2,(rs H 4),(rs H 5),(rs H 6)⟩ ⟨rfl,hI1,hS3⟩)) ?_
  rintro _ w6 hE ⟨rfl,hS6,hI6,hI7⟩
  have H:=H.ext hE
  refine (V) ((EX) ((EX) ((AH ze41 H) fun b5 w7 H=>(SB H 3) fun w8 H=>(A) (Z (Y ?_)))))
  refine CW.quiet hmix (by kernel_rfl) ?_
  refine (qLB H 0) ((qLB H 1) ((qD 2) ?_))
  refine QL.ev rfl rfl (fun _ hq=>Ev.lda rfl ag58 sz58 rfl (Blk.part ((H.ext hq).rB (i:=2) rfl) 2 7) rfl) ?_
  refine (bb hb1 fun y3 hy2 hb1=>?_)
  refine (qC ok109 (fun _ hq=>(q6e hy2 ⟨_,_,rfl,(rs (H.ext hq) 2),(rs (H.ext hq) 3)⟩ ⟨_,_,_,rfl,hS1,hS2,(rs (H.ext hq) 4),(rs (H.ext hq) 5),(rs (H.ext hq) 6)⟩ (q0b.2 ⟨_,rfl,hI2,hI3,hI4,hI5,hS4,hS5,(rs (H.ext hq) 9)⟩)).mono fun _ _ _ h=>h.1)) ?_
  obtain⟨_,_,_,hI8⟩:=(q6e hy2 ⟨_,_,rfl,(rs H 2),(rs H 3)⟩ ⟨_,_,_,rfl,hS1,hS2,(rs H 4),(rs H 5),(rs H 6)⟩ (q0b.2 ⟨_,rfl,hI2,hI3,hI4,hI5,hS4,hS5,(rs H 9)⟩)).get
  refine (qD 1) ((qL H 3) ((qB) ?_))
  refine QL.nil (fun w9 hE=>?_)
  have H:=H.ext hE
  refine iN hb1 (fun _ hb1=>?_) fun _ hb1=>?_
  ·refine Y ?_
   refine CW.fresh [] trivial fun σ=>?_
   let d4:List Value:=[.int .i64 x1.At.Pos,.string x1.At.Name,.int .i64 x1.Expr.Kind,.int .i64 x1.Expr.N,.int .i64 x1.Expr.Pos,.int .i64 x1.Expr.Type_,.string x1.Expr.Symbol,.string x1.Expr.Name,.slice A6 n6 c6]
   have H:HL F0 [] w0 w9 [Pr.R a0 d3,Pr.R a1 d2,d9,d10,d11,d8,d7,Pr.A b3 (ob3+k1*9) d4,Pr.R x1 d4,Pr.S x1.Expr.Args (.slice A6 n6 c6)] [It.B b1 31 d3,It.B b2 47 d2,It.B b4 60 d4,It.B b5 41 [.string y1.Name,.int .i64 y1.Type_,.int .i64 y1.Mode,.bool y1.Circular]]:=H
   exact X ((A) (Z (W2 hb1 ht1 hr)))
  ·refine K ?_
   refine CW.fresh [(2,pB b1),(3,pB b2),(16,.slice A4 n4 c4),(17,zN a1.Equations.length),(18,zN k1)] ⟨rfl,rfl,rfl,rfl,rfl,trivial⟩ fun σ=>?_
   let d5:List Value:=[.int .i64 x1.At.Pos,.string x1.At.Name,.int .i64 x1.Expr.Kind,.int .i64 x1.Expr.N,.int .i64 x1.Expr.Pos,.int .i64 x1.Expr.Type_,.string x1.Expr.Symbol,.string x1.Expr.Name,.slice A6 n6 c6]
   have H:HL F0 [] w0 w9 [Pr.R a0 d3,Pr.R a1 d2,d9,d10,d11,d8,d7,Pr.A b3 (ob3+k1*9) d5,Pr.R x1 d5,Pr.S x1.Expr.Args (.slice A6 n6 c6)] [It.B b1 31 d3,It.B b2 47 d2,It.B b4 60 d5,It.B b5 41 [.string y1.Name,.int .i64 y1.Type_,.int .i64 y1.Mode,.bool y1.Circular]]:=H
   exact X ((AN hk2 hl1) ((V) (Z (I2 hb1 hs1 ⟨k1+1,(),()⟩))))
 ·obtain rfl:=q0l hq1 (q0c h1)
  have hr:=(q0s _ _ _).symm.trans hr
  refine CE (Y (R ((D 5) ((L H 1) ((NI H 6) fun hl2=>(V) (Z ?_))))))
  refine (bb hr fun q2 hq2 hr=>?_)
  refine (lF hq2 (fun k2 _ _=>[(2,pB b1),(3,pB b2),(40,.slice A5 n5 c5),(41,zN a1.Contributions.length),(42,zN k2)]) (fun _ _ w=>HL F0 [] w0 w [Pr.R a0 d3,Pr.R a1 d2,d9,d10,d11,d8,d7] [It.B b1 31 d3,It.B b2 47 d2]) ()) ?_
  rintro k2 _ _ σ w10 hk3 hq2 H
  refine R ((B) (Z (Y ?_)))
  refine CW.condD rfl (fun h3=>?_) (fun h3=>?_)
  ·have hk4:=q0m h3
   obtain⟨x2,z2,hx2,hb2,hs2,ht2⟩:=q0y hq2 hk4
   refine K (Y ?_)
   refine CW.block (R ?_)
   obtain⟨b6,ob6,cb6,A7,n7,c7,A8,n8,c8,hvb6,hS7,hS8,hI9,hI10,hI11,hI12,hS9,hS10,hI13,hI14,hI15,hI16,hS11,hS12,H⟩:=q3i H (i:=6) rfl hx2
   refine (J 16 hvb6 hx2) ((LA H 7) ((AH ze111 H) fun b7 w11 H=>(SB H 2) fun w12 H=>Z (R ((LB H 0) ((D 0) ((L H 2) ?_))))))
   obtain⟨⟨y4,y5⟩,hy3,hb2⟩:=bd hb2
   obtain⟨F,hF,hcl⟩:=H.call
   refine (CA ok80 (q3Z hy3 ⟨_,_,rfl,(hF.get (i:=2) rfl),(hF.get (i:=3) rfl)⟩ hS7)) ?_
   rintro _ w13 hE ⟨A9,n9,c9,rfl,hS13,H'⟩
   let d1:List Value:=[.string x2.Symbol,.string x2.Name,.int .i64 x2.Target.Kind,.int .i64 x2.Target.N,.int .i64 x2.Target.Pos,.int .i64 x2.Target.Type_,.string x2.Target.Symbol,.string x2.Target.Name,.slice A7 n7 c7,.int .i64 x2.Value.Kind,.int .i64 x2.Value.N,.int .i64 x2.Value.Pos,.int .i64 x2.Value.Type_,.string x2.Value.Symbol,.string x2.Value.Name,.slice A8 n8 c8]
   let d12:Pr:=Pr.S x2.Target.Args (.slice A7 n7 c7)
   let d13:Pr:=Pr.S x2.Value.Args (.slice A8 n8 c8)
   let d14:Pr:=Pr.S y4.Attributes (.slice A9 n9 c9)
   have H:HL F0 [] w0 w13 [Pr.R a0 d3,Pr.R a1 d2,d9,d10,d11,d8,d7,Pr.A b6 (ob6+k2*16) d1,Pr.R x2 d1,d12,d13,d14] [It.B b1 31 d3,It.B b2 47 d2,It.B b7 111 d1]:=hcl H'
   refine (V) ((EX) ((EX) ((AH ze39 H) fun b8 w14 H=>(SB H 3) fun w15 H=>(A) (Z (R ((LB H 3) ((D 1) ((L H 2) ?_))))))))
   obtain⟨⟨y6,y7⟩,hy4,hb2⟩:=bd hb2
   refine (CA ok81 (q5J hy4 ⟨_,rfl,hS13,(rs H 11)⟩ hS8)) ?_
   rintro _ w16 hE ⟨rfl,hS14,hI17,hI18⟩
   have H:=H.ext hE
   refine (V) ((EX) ((EX) ((AH ze41 H) fun b9 w17 H=>(SB H 4) fun w18 H=>(A) (Z (Y ?_)))))
   refine CW.fresh [(2,pB b1),(3,pB b2),(10,pB b7),(13,pB b9),(40,.slice A5 n5 c5),(41,zN a1.Contributions.length),(42,zN k2)] ⟨rfl,rfl,rfl,rfl,rfl,rfl,rfl,trivial⟩ fun σ=>?_
   let d6:List It:=[It.B b1 31 d3,It.B b2 47 d2,It.B b7 111 d1,It.B b8 39 [.string y4.Name,.slice A9 n9 c9],It.B b9 41 [.string y6.Name,.int .i64 y6.Type_,.int .i64 y6.Mode,.bool y6.Circular]]
   have H:HL F0 [] w0 w18 [Pr.R a0 d3,Pr.R a1 d2,d9,d10,d11,d8,d7,Pr.A b6 (ob6+k2*16) d1,Pr.R x2 d1,d12,d13,d14] d6:=H
   refine X ((LB H 0) ((LB H 1) ((D 2) ?_)))
   refine WL.ev rfl rfl (Ev.lda rfl ag58 sz58 rfl (Blk.part (H.rB (i:=2) rfl) 2 7) rfl) ?_
   refine (bb hb2 fun y8 hy5 hb2=>?_)
   refine (CA ok109 (q6e hy5 ⟨_,_,rfl,(rs H 2),(rs H 3)⟩ ⟨_,_,_,rfl,hS1,hS2,(rs H 4),(rs H 5),(rs H 6)⟩ (q0b.2 ⟨_,rfl,hI9,hI10,hI11,hI12,hS9,hS10,(rs H 9)⟩))) (cF' H fun w19 hI19 H=>(B) ?_)
   refine (bb hb2 fun q3 hm1 hb2=>?_)
   refine cu H 8 [(2,pB b1),(3,pB b2),(13,pB b9),(40,.slice A5 n5 c5),(41,zN a1.Contributions.length),(42,zN k2),(73,.bool q3)] [Pr.R a0 d3,Pr.R a1 d2,d9,d10,d11,d8,d7,Pr.A b6 (ob6+k2*16) d1,Pr.R x2 d1,d12,d13,d14] d6 ?_ fun σ w21 H=>?_
   ·refine jN hm1 (fun _ hm1=>?_) fun _ hm1=>?_
    ·exact (O) ((O) ((O) ((O) ((O) ((O) ((T) (Z (C1 hm1))))))))
    ·refine (G) ((LB H 0) ((G) ((LB H 1) ((G) ((D 9) ((G) ?_))))))
     refine WL.ev rfl rfl (Ev.lda rfl ag58 sz58 rfl (Blk.part (H.rB (i:=2) rfl) 9 7) rfl) ((G) ?_)
     refine (bb hm1 fun y9 hy6 hm1=>?_)
     exact (CA ok109 (q6e hy6 ⟨_,_,rfl,(rs H 2),(rs H 3)⟩ ⟨_,_,_,rfl,hS1,hS2,(rs H 4),(rs H 5),(rs H 6)⟩ (q0b.2 ⟨_,rfl,hI13,hI14,hI15,hI16,hS11,hS12,(rs H 10)⟩))) (cF' H fun w20 hI20 H=>(G) ((B) ((U) (Z (C1 hm1)))))
   ·refine (bb hb2 fun q4 hm2 hb2=>?_)
    refine cu H 5 [(2,pB b1),(3,pB b2),(40,.slice A5 n5 c5),(41,zN a1.Contributions.length),(42,zN k2),(78,.bool q4)] [Pr.R a0 d3,Pr.R a1 d2,d9,d10,d11,d8,d7,Pr.A b6 (ob6+k2*16) d1,Pr.R x2 d1,d12,d13,d14] d6 ?_ fun σ w22 H=>?_
    ·refine jB hm2 (fun _ hm2=>?_) fun _ hm2=>?_
     ·exact (O) ((O) ((O) ((T) (Z (C1 hm2)))))
     ·exact (G) ((D 2) ((G) ((L H 4) ((G) ((B) ((U) (Z (C1 hm2))))))))
    ·refine Z (iB hb2 (fun _ hb2=>?_) fun _ hb2=>?_)
     ·exact R ((A) (Z (W2 hb2 ht2 hr)))
     ·exact K (X ((AN hk4 hl2) ((V) (Z (I2 hb2 hs2 ⟨k2+1,(),()⟩)))))
  ·obtain rfl:=q0l hq2 (q0c h3)
   have hr:=(q0s _ _ _).symm.trans hr
   exact CE (R ((A) (Z (W1 hr))))
def z0u (a0:ByteArray)(a2:(List Int)):Nat→Symbol→Unit→Option (Unit ⊕ Int):=fun k1 x1 _=>if x1.Name=a0 then (a2[k1]?).bind fun x2=>some (.inr x2) else some (.inl ())
def q7o (a0:ByteArray)(a1:Grammar)(a2:(List Int)):Option Int:=(findL (z0u a0 a2) 0 a1.Symbols ()).bind <| onr (fun r1=>some r1) fun _=>some 0
theorem z4e {a0}{a1}{a2}{r}(hr:q7o a0 a1 a2=some r)(ha0:a0.size≤9223372036854775807){b1p:Nat}(ha1:CapP F0 w0 b1p a1){b2p:Nat}(ha2:CapP F0 w0 b2p a2):RT 110 #[.string a0,pB b1p,pB b2p] w0 fun v w=>v = .int .i64 r∧I64 r:=by
 have H:=HL.start F0 w0
 obtain⟨cpa1,H⟩:=H.argP ha1
 obtain⟨A1,n1,c1,A2,n2,c2,rfl,H⟩:=q0e H (i:=1) rfl
 obtain⟨cpa2,H⟩:=H.argP ha2
 obtain⟨A3,n3,c3,rfl,H⟩:=op_Sl H (i:=5) rfl
 refine (En Tryz.func110) ?_
 refine R ((A) (Z (Y (R ((D 0) ((LC H 0) ((NI H 2) fun hl1=>(V) (Z ?_))))))))
 refine (bb hr fun q1 hq1 hr=>?_)
 refine (lF hq1 (fun k1 _ _=>[(0,.string a0),(2,pB b2p),(8,.slice A1 n1 c1),(9,zN a1.Symbols.length),(10,zN k1)]) (fun _ _ w=>HL F0 [] w0 w [Pr.A b1p 0 [.slice A1 n1 c1,.slice A2 n2 c2],Pr.R a1 [.slice A1 n1 c1,.slice A2 n2 c2],Pr.S a1.Symbols (.slice A1 n1 c1),Pr.S a1.Rules (.slice A2 n2 c2),Pr.A b2p 0 [.slice A3 n3 c3],Pr.R a2 [.slice A3 n3 c3],Pr.S a2 (.slice A3 n3 c3)] []) ()) ?_
 rintro k1 _ _ σ w1 hk1 hq1 H
 refine R ((B) (Z (Y ?_)))
 refine CW.condD rfl (fun h1=>?_) (fun h1=>?_)
 ·have hk2:=q0m h1
  obtain⟨x1,z1,hx1,hb1,hs1,ht1⟩:=q0y hq1 hk2
  refine K (Y ?_)
  refine CW.block (R ((V) ?_))
  obtain⟨b1,ob1,cb1,A4,n4,c4,hvb1,hS1,H⟩:=q2w H (i:=2) rfl hx1
  refine (J 2 hvb1 hx1) ((LA H 7) ((AH ze39 H) fun b2 w2 H=>(A) ((SB H 0) fun w3 H=>Z (R ((D 0) ((L H 0) ((V) ((B) (Z (iD hb1 (fun _ hb1=>?_) fun _ hb1=>?_))))))))))
  ·refine R ((L0 H 4) ((V) ?_))
   refine (bb hb1 fun x2 hx2 hb1=>?_)
   obtain⟨b3,ob3,cb3,hvb3,hI1,H⟩:=z7L H (i:=6) rfl hx2
   exact (J 1 hvb3 hx2) ((L0 H 10) ((A) (Z (W2 hb1 ht1 hr))))
  ·exact K (X ((AN hk2 hl1) ((V) (Z (I2 hb1 hs1 ⟨k1+1,(),()⟩)))))
 ·obtain rfl:=q0l hq1 (q0c h1)
  have hr:=(q0s _ _ _).symm.trans hr
  exact CE (R ((A) (Z (W1 hr))))
def q9L (a0:Grammar)(s2:List Int):Nat→ByteArray→Bool→Option Bool:=fun k3 x4 s8=>( if s8=true then (q7o x4 a0 s2).bind fun y1=>some (decide (0 < y1)) else some false ).bind fun s9=>some s9
def q8j (a0:Grammar)(s2:List Int)(s3:Int)(k1:Nat)(x1:Symbol):Nat→Rule→(List Int)→Option (List Int):=fun k2 x3 s6=>( (eachL (q9L a0 s2) 0 x3.Right (decide (x3.Left=x1.Name))).bind fun s8=>if s8=true then (s6[k1]?).bind fun x5=>some (List.set s6 k1 s3) else some s6 ).bind fun s7=>some s7
def q8k (a0:Grammar)(s2:List Int)(s3:Int):Nat→Symbol→(List Int)→Option (List Int):=fun k1 x1 s4=>( (s2[k1]?).bind fun x2=>if 0 < x2 then some s4 else (eachL (q8j a0 s2 s3 k1 x1) 0 a0.Rules s4).bind fun s6=>some s6 ).bind fun s5=>some s5
def q5K (a0:Grammar):((List Int) × Int)→Option (((List Int) × Int) ⊕ (List Int)):=fun (s2,s3)=>if s3≤(a0.Symbols.length:Int) then grd (0≤(s2.length:Int)∧(s2.length:Int)*8≤281474976710656∧(s2.length:Int)≤9223372036854775807) <| grd (s2.length=(List.replicate s2.length (0:Int)).length) <| (eachL (q8k a0 s2 s3) 0 a0.Symbols s2).bind fun s4=>grd (I64 (s3+1)) <| some (.inl (s4,(s3+1))) else some (.inr s2)
def q7M (a0:Grammar):Option (List Int):=grd (0≤(a0.Symbols.length:Int)∧(a0.Symbols.length:Int)*8≤281474976710656∧(a0.Symbols.length:Int)≤9223372036854775807) <| ( iterO (q5K a0) ((List.replicate a0.Symbols.length (0:Int)),1) ).bind fun s1=>some s1
theorem z5O {a0}{r}(hr:q7M a0=some r){ca0}(ha0:rd F0 w0 a0 ca0):RT 69 #[.agg ca0.toArray] w0 fun v w=>∃ A0 n0 c0,v=(.slice A0 n0 c0)∧HL F0 [] w0 w [] [It.O 3 r (.slice A0 n0 c0)]:=by
 have H:=(HL.start F0 w0).argR ha0
 obtain⟨A1,n1,c1,A2,n2,c2,rfl,H⟩:=q0e H (i:=0) rfl
 refine (En Tryz.func69) ?_
 refine R ((BX H) fun b1 w1 H=>(A) (Z (R ((D 0) ((L H 0) ((NI H 1) fun hl1=>?_))))))
 refine (gg hr fun hg1 hr=>?_)
 refine WL.mkH (x:=(0:Int)) rfl rfl rfl el106 sz3 by3 ze3 (fun _=>⟨rfl,rfl,(by decide:I64 0)⟩) rfl rfl hg1 H fun A3 n3 c3 w2 H=>(AH ze106 H) fun b2 w3 H=>(SB H 2) fun w4 H=>Z (R ?_)
 refine WL.ev rfl rfl (Ev.mkfL rfl rfl rfl) ((A) (Z (Y (R ((A) (Z ?_))))))
 refine (bb hr fun q1 hm1 hr=>?_)
 let d2:List Value:=[.slice A1 n1 c1,.slice A2 n2 c2]
 let d6:Pr:=Pr.S a0.Symbols (.slice A1 n1 c1)
 let d8:Pr:=Pr.S a0.Rules (.slice A2 n2 c2)
 let d4:List Pr:=[Pr.R a0 d2,d6,d8]
 refine CW.mid (fun ρ' w=>∃ (s1:List Int) (v1:Value),s1=q1∧agree ρ' [(3,pB b2)]∧HL F0 [] w0 w d4 [It.B b1 31 d2,It.O 3 s1 v1,It.B b2 106 [v1]]) ?_ ?_
 ·obtain⟨m1,hq1⟩:=q2m.1 hm1
  refine (lI hq1 (fun m1 ⟨s2,s3⟩ v2=>[(1,pB b1),(3,pB b2),(4,.func (.func 110) #[] #[pB b1,pB b2]),(5,.int .i64 s3)]) (fun ⟨s2,s3⟩ v2 w=>I64 s3∧HL F0 [] w0 w d4 [It.B b1 31 d2,It.O 3 s2 v2,It.B b2 106 [v2]]) (.slice A3 n3 c3)) ?_
  rintro m1 ⟨s2,s3⟩ v2 σ w5 hq1 ⟨hI1,H⟩
  obtain⟨A4,n4,c4,rfl⟩:=(H.rO (i:=1) rfl).form3
  obtain⟨m2,z1,rfl,hb1,hs1,ht1⟩:=q4S hq1
  refine Y (R ((V) ((D 0) ((L H 0) ((NN (rs H 1)) ((B) (Z (iD hb1 (fun _ hb1=>?_) fun _ hb1=>?_))))))))
  ·refine K (Y ?_)
   refine CW.block (R ((L H 2) ?_))
   have hl2:=(H.rO (i:=1) rfl).I
   refine (NN (ro H 1)) ?_
   refine (gg hb1 fun hg2 hb1=>?_)
   refine WL.mkH (x:=(0:Int)) rfl rfl rfl el106 sz3 by3 ze3 (fun _=>⟨rfl,rfl,(by decide:I64 0)⟩) rfl rfl hg2 H fun A5 n5 c5 w6 H=>(A) (Z (R ((V) ((L H 2) ?_))))
   refine (gg hb1 fun hg3 hb1=>?_)
   refine WL.cpO (i:=3) rfl rfl rfl el106 sz3 rfl rfl H rfl (ro H 1) hg3 fun w7 H=>Z (Y (R ((D 0) ((L H 0) ((NN (rs H 1)) ((V) (Z ?_)))))))
   refine (bb hb1 fun q2 hq2 hb1=>?_)
   let d5:It:=It.B b2 106 [.slice A4 n4 c4]
   let d7:It:=It.O 3 s2 (.slice A4 n4 c4)
   refine (lE hq2 (fun k1 s4 _=>[(1,pB b1),(3,pB b2),(4,.func (.func 110) #[] #[pB b1,pB b2]),(5,.int .i64 s3),(6,.slice A5 n5 c5),(33,.slice A1 n1 c1),(34,zN a0.Symbols.length),(35,zN k1)]) (fun s4 _ w=>HL F0 [] w0 w d4 [It.B b1 31 d2,d7,d5,It.O 3 s4 (.slice A5 n5 c5)]) ()) ?_
   rintro k1 s4 _ σ w8 hk1 hq2 H
   refine R ((B) (Z (Y ?_)))
   refine CW.condD rfl (fun h2=>?_) (fun h2=>?_)
   ·have hk2:=q0m h2
    obtain⟨x1,z2,hx1,hb2,hq2⟩:=q4w hq2 hk2
    refine K ?_
    refine (bb hb2 fun q3 hm2 hb2=>?_)
    refine CW.seq (cm H [(1,pB b1),(3,pB b2),(4,.func (.func 110) #[] #[pB b1,pB b2]),(5,.int .i64 s3),(6,.slice A5 n5 c5),(33,.slice A1 n1 c1),(34,zN a0.Symbols.length),(35,zN k1)] d4 [It.B b1 31 d2,d7,d5,It.O 3 q3 (.slice A5 n5 c5)] ?_ fun σ w19 H=>?_)
    ·refine CW.block (R ((V) ?_))
     obtain⟨b3,ob3,cb3,A6,n6,c6,hvb3,hS1,H⟩:=q2w H (i:=1) rfl hx1
     refine (J 2 hvb3 hx1) ((LA H 3) ((AH ze39 H) fun b4 w9 H=>(A) ((SB H 4) fun w10 H=>Z (Y (R ((L H 2) ((V) ?_)))))))
     refine (bb hm2 fun x2 hx2 hm2=>?_)
     obtain⟨b5,cb5,hvb5,hbb5⟩:=H.ptO (i:=1) rfl hx2
     refine (J 1 hvb5 hx2) ?_
     obtain⟨hA1,hI2,H⟩:=q6J H (i:=1) rfl hx2 hbb5
     refine WL.ev rfl rfl (Ev.ld rfl ag3 rfl (hA1.cell0 rfl)) ((B) (Z (iD hm2 (fun _ hm2=>?_) fun _ hm2=>?_)))
     ·exact CE (C1 hm2)
     ·refine K (R ((D 1) ((L H 0) ((NI H 2) fun hl3=>(V) (Z ?_)))))
      refine (bb hm2 fun q4 hq3 hm2=>?_)
      let d3:List Value:=[.string x1.Name,.slice A6 n6 c6]
      let d9:Pr:=Pr.S x1.Attributes (.slice A6 n6 c6)
      let d11:Pr:=Pr.R x2 [.int .i64 x2]
      refine (lE hq3 (fun k2 s6 _=>[(1,pB b1),(3,pB b2),(4,.func (.func 110) #[] #[pB b1,pB b2]),(5,.int .i64 s3),(6,.slice A5 n5 c5),(7,zN k1),(8,pB b4),(33,.slice A1 n1 c1),(34,zN a0.Symbols.length),(35,zN k1),(46,.slice A2 n2 c2),(47,zN a0.Rules.length),(48,zN k2)]) (fun s6 _ w=>HL F0 [] w0 w [Pr.R a0 d2,d6,d8,Pr.A b3 (ob3+k1*2) d3,Pr.R x1 d3,d9,d11] [It.B b1 31 d2,d7,d5,It.O 3 s6 (.slice A5 n5 c5),It.B b4 39 d3]) ()) ?_
      rintro k2 s6 _ σ w11 hk3 hq3 H
      refine R ((B) (Z (Y ?_)))
      refine CW.condD rfl (fun h4=>?_) (fun h4=>?_)
      ·have hk4:=q0m h4
       obtain⟨x3,z3,hx3,hb3,hq3⟩:=q4w hq3 hk4
       refine K ?_
       refine (bb hb3 fun q5 hm3 hb3=>?_)
       refine CW.seq (cm H [(1,pB b1),(3,pB b2),(4,.func (.func 110) #[] #[pB b1,pB b2]),(5,.int .i64 s3),(6,.slice A5 n5 c5),(7,zN k1),(8,pB b4),(33,.slice A1 n1 c1),(34,zN a0.Symbols.length),(35,zN k1),(46,.slice A2 n2 c2),(47,zN a0.Rules.length),(48,zN k2)] [Pr.R a0 d2,d6,d8,Pr.A b3 (ob3+k1*2) d3,Pr.R x1 d3,d9,d11] [It.B b1 31 d2,d7,d5,It.O 3 q5 (.slice A5 n5 c5),It.B b4 39 d3] ?_ fun σ w18 H=>?_)
       ·refine CW.block (R ?_)
        obtain⟨b6,ob6,cb6,A7,n7,c7,A8,n8,c8,A9,n9,c9,hvb6,hS2,hS3,H⟩:=q4W H (i:=2) rfl hx3
        refine (J 6 hvb6 hx3) ((LA H 7) ((AH ze47 H) fun b7 w12 H=>(SB H 5) fun w13 H=>Z (R ((D 1) ((L H 5) ((D 0) ((L H 4) ((B) ((A) (Z (Y (R ((D 2) ((L H 5) ((NI H 9) fun hl4=>(V) (Z ?_))))))))))))))))
        refine (bb hm3 fun q6 hq4 hm3=>?_)
        let d1:List Value:=[.string x3.Name,.string x3.Left,.slice A7 n7 c7,.bool x3.Literal,.slice A8 n8 c8,.slice A9 n9 c9]
        let d10:List It:=[It.B b1 31 d2,d7,d5,It.O 3 s6 (.slice A5 n5 c5),It.B b4 39 d3,It.B b7 47 d1]
        refine (lE hq4 (fun k3 s8 _=>[(1,pB b1),(3,pB b2),(4,.func (.func 110) #[] #[pB b1,pB b2]),(5,.int .i64 s3),(6,.slice A5 n5 c5),(7,zN k1),(8,pB b4),(11,.bool s8),(33,.slice A1 n1 c1),(34,zN a0.Symbols.length),(35,zN k1),(46,.slice A2 n2 c2),(47,zN a0.Rules.length),(48,zN k2),(58,.slice A7 n7 c7),(59,zN x3.Right.length),(60,zN k3)]) (fun s8 _ w=>HL F0 [] w0 w [Pr.R a0 d2,d6,d8,Pr.A b3 (ob3+k1*2) d3,Pr.R x1 d3,d9,d11,Pr.A b6 (ob6+k2*6) d1,Pr.R x3 d1,Pr.S x3.Right (.slice A7 n7 c7),Pr.S x3.Equations (.slice A8 n8 c8),Pr.S x3.Contributions (.slice A9 n9 c9)] d10) ()) ?_
        rintro k3 s8 _ σ w14 hk5 hq4 H
        refine R ((B) (Z (Y ?_)))
        refine CW.condD rfl (fun h5=>?_) (fun h5=>?_)
        ·have hk6:=q0m h5
         obtain⟨x4,z4,hx4,hb4,hq4⟩:=q4w hq4 hk6
         refine K ?_
         refine (bb hb4 fun q7 hm4 hb4=>?_)
         refine CW.seq (cm H [(1,pB b1),(3,pB b2),(4,.func (.func 110) #[] #[pB b1,pB b2]),(5,.int .i64 s3),(6,.slice A5 n5 c5),(7,zN k1),(8,pB b4),(11,.bool q7),(33,.slice A1 n1 c1),(34,zN a0.Symbols.length),(35,zN k1),(46,.slice A2 n2 c2),(47,zN a0.Rules.length),(48,zN k2),(58,.slice A7 n7 c7),(59,zN x3.Right.length),(60,zN k3)] [Pr.R a0 d2,d6,d8,Pr.A b3 (ob3+k1*2) d3,Pr.R x1 d3,d9,d11,Pr.A b6 (ob6+k2*6) d1,Pr.R x3 d1,Pr.S x3.Right (.slice A7 n7 c7),Pr.S x3.Equations (.slice A8 n8 c8),Pr.S x3.Contributions (.slice A9 n9 c9)] d10 ?_ fun σ w16 H=>?_)
         ·refine CW.block (R ?_)
          obtain⟨b8,ob8,cb8,hvb8,hS4,H⟩:=q8G H (i:=9) rfl hx4
          refine (J 1 hvb8 hx4) ((L0 H 12) ((A) (Z (X ((V) (jB hm4 (fun _ hm4=>?_) fun _ hm4=>?_))))))
          ·refine (G) ((V) ((G) ((V) ((G) ?_))))
           refine (bb hm4 fun y1 hy1 hm4=>?_)
           exact (CA ok110 (z4e hy1 (F0:=fun q=>q < _) hS4 ⟨(H.rB (i:=0) rfl).lt,_,At.blk (H.rB (i:=0) rfl),⟨_,_,rfl,(rs H 1),(rs H 2)⟩⟩ ⟨(H.rB (i:=2) rfl).lt,_,At.blk (H.rB (i:=2) rfl),⟨_,rfl,(ro H 1)⟩⟩)) (cF' H fun w15 hI3 H=>(G) ((B) ((T) ((A) (Z (C1 hm4))))))
          ·exact (O) ((O) ((O) ((O) ((U) ((A) (Z (C1 hm4)))))))
         ·exact X ((AN hk6 hl4) ((V) (Z (I1 hb4 ⟨k3+1,q7,()⟩))))
        ·obtain rfl:=q3w hq4 (q0c h5)
         refine CE (R ((V) (Z (iB hm3 (fun _ hm3=>?_) fun _ hm3=>?_))))
         ·refine X ((V) ((V) ((V) ?_)))
          refine (bb hm3 fun x5 hx5 hm3=>?_)
          obtain⟨b9,cb9,hvb9,hbb9⟩:=H.ptO (i:=3) rfl hx5
          refine (J 1 hvb9 hx5) ?_
          exact WL.stOf (i:=3) (z:=s3) rfl rfl rfl sz3 rfl rfl rfl (fun _=>⟨rfl,rfl,hI1⟩) H rfl hbb9 (by simpa using lt_of hx5) fun w17 H=>Z (C1 hm3)
         ·exact K (C1 hm3)
       ·exact X ((AN hk4 hl3) ((V) (Z (I1 hb3 ⟨k2+1,q5,()⟩))))
      ·obtain rfl:=q3w hq3 (q0c h4)
       exact CE (C1 hm2)
    ·exact X ((AN hk2 hl1) ((V) (Z (I1 hb2 ⟨k1+1,q3,()⟩))))
   ·obtain rfl:=q3w hq2 (q0c h2)
    refine CE (X ((V) ((SB H 2) fun w20 H=>Z (X ((V) ?_)))))
    refine (gg hb1 fun hg4 hb1=>(BN (Bin.add hg4)) ((A) (Z ?_)))
    have H:=H.swap 1 3
    exact I2 hb1 hs1 ⟨m2,⟨s4,(s3+1)⟩,(.slice A5 n5 c5)⟩
  ·exact CE (C2 hb1 ht1)
 ·rintro ρ' w21 ⟨s1,v1,rfl,hag,H⟩
  obtain⟨σ,rfl⟩:=ofL_ex hag
  obtain⟨A10,n10,c10,rfl⟩:=(H.rO (i:=1) rfl).form3
  exact R ((L H 2) ((A) (Z (W1 hr))))
def q8w (a0:Grammar):Nat→Rule→Unit→Option (Unit ⊕ (Int × Int)):=fun k1 x1 _=>(q8i a0 x1).bind fun y3=>if y3=true then some (.inr (7,(k1:Int))) else some (.inl ())
def q8x:Nat→Int→Unit→Option (Unit ⊕ (Int × Int)):=fun k2 x2 _=>if x2=0 then some (.inr (8,(k2:Int))) else some (.inl ())
def q5z (a0:Grammar):Option (Int × Int):=(q6A a0).bind fun (y1,y2)=>if y1=0 then (findL (q8w a0) 0 a0.Rules ()).bind <| onr (fun r1=>some r1) fun _=>(q7M a0).bind fun y4=>(findL q8x 0 y4 ()).bind <| onr (fun r2=>some r2) fun _=>some (0,0) else some (y1,y2)
theorem z1D {a0}{r}(hr:q5z a0=some r){ca0}(ha0:rd F0 w0 a0 ca0):RT 33 #[.agg ca0.toArray] w0 fun v w=>v = .tuple #[.int .i64 r.1,.int .i64 r.2]∧I64 r.1∧I64 r.2:=by
 have H:=(HL.start F0 w0).argR ha0
 obtain⟨A1,n1,c1,A2,n2,c2,rfl,H⟩:=q0e H (i:=0) rfl
 refine (En Tryz.func33) ?_
 refine R ((BX H) fun b1 w1 H=>(A) ((A) (Z (Y (R ((LB H 0) ?_))))))
 obtain⟨⟨y1,y2⟩,hy1,hr⟩:=bd hr
 refine (CA ok67 (z3l hy1 ⟨_,_,rfl,(rs H 1),(rs H 2)⟩)) ?_
 rintro _ w2 hE ⟨rfl,hI1,hI2⟩
 have H:=H.ext hE
 refine (V) ((EX) ((EX) ((A) ((A) (Z (R ((V) ((B) (Z (iN hr (fun _ hr=>?_) fun _ hr=>?_))))))))))
 ·exact R ((V) ((V) ((A) ((A) (Z (W1 hr))))))
 ·refine K (Y (R ((D 1) ((L H 0) ((NI H 2) fun hl1=>(V) (Z ?_))))))
  refine (bb hr fun q1 hq1 hr=>?_)
  let d2:List Value:=[.slice A1 n1 c1,.slice A2 n2 c2]
  let d1:List Pr:=[Pr.R a0 d2,Pr.S a0.Symbols (.slice A1 n1 c1),Pr.S a0.Rules (.slice A2 n2 c2)]
  refine (lF hq1 (fun k1 _ _=>[(1,pB b1),(20,.slice A2 n2 c2),(21,zN a0.Rules.length),(22,zN k1)]) (fun _ _ w=>HL F0 [] w0 w d1 [It.B b1 31 d2]) ()) ?_
  rintro k1 _ _ σ w3 hk1 hq1 H
  refine R ((B) (Z (Y ?_)))
  refine CW.condD rfl (fun h2=>?_) (fun h2=>?_)
  ·have hk2:=q0m h2
   obtain⟨x1,z1,hx1,hb1,hs1,ht1⟩:=q0y hq1 hk2
   refine K (Y ?_)
   refine CW.block (R ((V) ?_))
   obtain⟨b2,ob2,cb2,A3,n3,c3,A4,n4,c4,A5,n5,c5,hvb2,hS1,hS2,H⟩:=q4W H (i:=2) rfl hx1
   refine (J 6 hvb2 hx1) ((LA H 3) ((AH ze47 H) fun b3 w4 H=>(A) ((SB H 1) fun w5 H=>Z (R ((LB H 0) ((LB H 1) ?_))))))
   refine (bb hb1 fun y3 hy2 hb1=>?_)
   refine (CA ok68 (z4S hy2 ⟨_,_,rfl,(rs H 1),(rs H 2)⟩ ⟨_,_,_,rfl,hS1,hS2,(rs H 5),(rs H 6),(rs H 7)⟩)) (cE H fun w6 H=>Z (iB hb1 (fun _ hb1=>?_) fun _ hb1=>?_))
   ·exact R ((V) ((A) ((A) (Z (W2 hb1 ht1 hr)))))
   ·exact K (X ((AN hk2 hl1) ((V) (Z (I2 hb1 hs1 ⟨k1+1,(),()⟩)))))
  ·obtain rfl:=q0l hq1 (q0c h2)
   have hr:=(q0s _ _ _).symm.trans hr
   refine CE (Y (R ((LB H 0) ?_)))
   refine (bb hr fun y4 hy3 hr=>?_)
   refine (CA ok69 (z5O hy3 ⟨_,_,rfl,(rs H 1),(rs H 2)⟩)) ?_
   rintro _ w7 hE ⟨A6,n6,c6,rfl,H'⟩
   have H:=H.callA H' ⟨fun _ _ _ _ _ h=>h,trivial⟩
   have hl2:=(H.rO (i:=1) rfl).I
   refine (NN (ro H 1)) ((V) (Z ?_))
   refine (bb hr fun q2 hq2 hr=>?_)
   refine (lF hq2 (fun k2 _ _=>[(33,.slice A6 n6 c6),(34,zN y4.length),(35,zN k2)]) (fun _ _ w=>HL F0 [] w0 w d1 [It.B b1 31 d2,It.O 3 y4 (.slice A6 n6 c6)]) ()) ?_
   rintro k2 _ _ σ w8 hk3 hq2 H
   refine R ((B) (Z (Y ?_)))
   refine CW.condD rfl (fun h4=>?_) (fun h4=>?_)
   ·have hk4:=q0m h4
    obtain⟨x2,z2,hx2,hb2,hs2,ht2⟩:=q0y hq2 hk4
    refine K (Y ?_)
    refine CW.block (R ((V) ?_))
    obtain⟨b4,cb4,hvb4,hbb4⟩:=H.ptO (i:=1) rfl hx2
    refine (J 1 hvb4 hx2) ?_
    obtain⟨hA1,hI3,H⟩:=q6J H (i:=1) rfl hx2 hbb4
    refine WL.ev rfl rfl (Ev.ld rfl ag3 rfl (hA1.cell0 rfl)) ((A) ((A) (Z (R ((V) ((B) (Z (iD hb2 (fun _ hb2=>?_) fun _ hb2=>?_))))))))
    ·exact R ((V) ((A) ((A) (Z (W2 hb2 ht2 hr)))))
    ·exact K (X ((AN hk4 hl2) ((V) (Z (I2 hb2 hs2 ⟨k2+1,(),()⟩)))))
   ·obtain rfl:=q0l hq2 (q0c h4)
    have hr:=(q0s _ _ _).symm.trans hr
    exact CE (R ((A) ((A) (Z (W1 hr)))))
def q8l (a0:Grammar):Option Bool:=(q5z a0).bind fun (y1,y2)=>some (decide (y1=0))
theorem z4T {a0}{r}(hr:q8l a0=some r){ca0}(ha0:rd F0 w0 a0 ca0):RT 15 #[.agg ca0.toArray] w0 fun v w=>v = .bool r:=by
 have H:=(HL.start F0 w0).argR ha0
 obtain⟨A1,n1,c1,A2,n2,c2,rfl,H⟩:=q0e H (i:=0) rfl
 refine (En Tryz.func15) ?_
 refine R ((BX H) fun b1 w1 H=>(A) (Z (R ((LB H 0) ?_))))
 obtain⟨⟨y1,y2⟩,hy1,hr⟩:=bd hr
 refine (CA ok33 (z1D hy1 ⟨_,_,rfl,(rs H 1),(rs H 2)⟩)) ?_
 rintro _ w2 hE ⟨rfl,hI1,hI2⟩
 have H:=H.ext hE
 exact (V) ((EX) ((EX) ((A) ((A) (Z (R ((V) ((B) ((A) (Z (W1 hr)))))))))))
def q7C (a0:Expr):Option Bool:=some (!(decide (a0.Kind=8)))
theorem z2D {a0}{r}(hr:q7C a0=some r){ca0}(ha0:rd F0 w0 a0 ca0):RT 73 #[.agg ca0.toArray] w0 fun v w=>v = .bool r:=by
 have H:=(HL.start F0 w0).argR ha0
 obtain⟨A1,n1,c1,rfl,hI1,hI2,hI3,hI4,hS1,hS2,H⟩:=q0X H (i:=0) rfl
 refine (En Tryz.func73) ?_
 exact R ((BX H) fun b1 w1 H=>(A) (Z (R ((D 0) ((L H 0) ((B) ((A) (Z (W1 hr)))))))))
def q3a (rec_ieveryNode_iHasRemote_1:Expr→Option Bool)(a0:Expr):Option Bool:=(rec_ieveryNode_iHasRemote_1 a0).bind fun y1=>some (!y1)
theorem q6C {rec_ieveryNode_iHasRemote_1:Expr→Option Bool}(ih_ieveryNode_iHasRemote_1:∀ {a0:Expr}{r:Bool},rec_ieveryNode_iHasRemote_1 a0=some r→∀ {F0:Nat→Prop}{w0:World}{ca0}(ha0:rd F0 w0 a0 ca0),RT 72 #[.agg ca0.toArray,.func (.func 73) #[] #[]] w0 fun v w=>v = .bool r){a0}{r}(hr:q3a rec_ieveryNode_iHasRemote_1 a0=some r){ca0}(ha0:rd F0 w0 a0 ca0){b1p:Nat}(ha1:F0 b1p∧At w0 b1p 0 [.func (.func 73) #[] #[]]):RT 111 #[.agg ca0.toArray,pB b1p] w0 fun v w=>v = .bool r:=by
 have H:=(HL.start F0 w0).argR ha0
 obtain⟨A1,n1,c1,rfl,hI1,hI2,hI3,hI4,hS1,hS2,H⟩:=q0X H (i:=0) rfl
 have H:=H.argA ha1
 refine (En Tryz.func111) ?_
 refine R ((BX H) fun b1 w1 H=>(A) (Z (R ((LB H 0) ((L0 H 2) ?_)))))
 refine (bb hr fun y1 hy1 hr=>?_)
 exact (CA ok72 (ih_ieveryNode_iHasRemote_1 hy1 (F0:=fun q=>q < _) (q0b.2 ⟨_,rfl,hI1,hI2,hI3,hI4,hS1,hS2,(rs H 1)⟩))) (cE H fun w2 H=>(N) ((A) (Z (W1 hr))))
def q1s (rec_ieveryNode_iHasRemote_1:Expr→Option Bool):Nat→Expr→Unit→Option (Unit ⊕ Int):=fun k1 x1 _=>(q3a rec_ieveryNode_iHasRemote_1 x1).bind fun y1=>if y1=true then some (.inr (k1:Int)) else some (.inl ())
def q0F (rec_ieveryNode_iHasRemote_1:Expr→Option Bool)(a0:(List Expr)):Option Int:=(findL (q1s rec_ieveryNode_iHasRemote_1) 0 a0 ()).bind <| onr (fun r1=>some r1) fun _=>some (-1)
theorem q3e {rec_ieveryNode_iHasRemote_1:Expr→Option Bool}(ih_ieveryNode_iHasRemote_1:∀ {a0:Expr}{r:Bool},rec_ieveryNode_iHasRemote_1 a0=some r→∀ {F0:Nat→Prop}{w0:World}{ca0}(ha0:rd F0 w0 a0 ca0),RT 72 #[.agg ca0.toArray,.func (.func 73) #[] #[]] w0 fun v w=>v = .bool r){a0}{r}(hr:q0F rec_ieveryNode_iHasRemote_1 a0=some r){z0}(ha0:rdS F0 w0 a0 z0){b1_0p:Nat}(ha1_0:F0 b1_0p∧At w0 b1_0p 0 [.func (.func 73) #[] #[]]):RT 71 #[z0,.func (.func 111) #[] #[pB b1_0p]] w0 fun v w=>v = .int .i64 r∧I64 r:=by
 obtain⟨A0',n0',c0',rfl⟩:=ha0.form3
 have H:=(HL.start F0 w0).argS ha0
 have H:=H.argA ha1_0
 refine (En Tryz.func71) ?_
 refine R ((A) (Z (Y (R ((V) ((NI H 0) fun hl1=>(V) (Z ?_)))))))
 refine (bb hr fun q1 hq1 hr=>?_)
 refine (lF hq1 (fun k1 _ _=>[(0,.slice A0' n0' c0'),(1,.func (.func 111) #[] #[pB b1_0p]),(7,zN a0.length),(8,zN k1)]) (fun _ _ w=>HL F0 [] w0 w [Pr.S a0 (.slice A0' n0' c0'),Pr.A b1_0p 0 [.func (.func 73) #[] #[]]] []) ()) ?_
 rintro k1 _ _ σ w1 hk1 hq1 H
 refine R ((B) (Z (Y ?_)))
 refine CW.condD rfl (fun h1=>?_) (fun h1=>?_)
 ·have hk2:=q0m h1
  obtain⟨x1,z1,hx1,hb1,hs1,ht1⟩:=q0y hq1 hk2
  refine K (Y ?_)
  refine CW.block (R ((V) ((A) (Z (R ((V) ((V) ((V) ?_))))))))
  obtain⟨b1,ob1,cb1,A1,n1,c1,hvb1,hI1,hI2,hI3,hI4,hS1,hS2,H⟩:=q0u H (i:=0) rfl hx1
  refine (J 7 hvb1 hx1) ((LA H 2) ?_)
  refine (bb hb1 fun y1 hy1 hb1=>?_)
  refine (CA ok111 (q6C ih_ieveryNode_iHasRemote_1 hy1 (F0:=fun q=>q < _) (q0b.2 ⟨_,rfl,hI1,hI2,hI3,hI4,hS1,hS2,(rs H 4)⟩) ⟨H.rAl (i:=1) rfl,H.rA (i:=1) rfl⟩)) (cE H fun w2 H=>Z (iB hb1 (fun _ hb1=>?_) fun _ hb1=>?_))
  ·exact R ((V) ((A) (Z (W2 hb1 ht1 hr))))
  ·exact K (X ((AN hk2 hl1) ((V) (Z (I2 hb1 hs1 ⟨k1+1,(),()⟩)))))
 ·obtain rfl:=q0l hq1 (q0c h1)
  have hr:=(q0s _ _ _).symm.trans hr
  exact CE (R ((A) (Z (W1 hr))))
def q0C (rec_ieveryNode_iHasRemote_1:Expr→Option Bool)(a0:(List Expr)):Option Bool:=(q0F rec_ieveryNode_iHasRemote_1 a0).bind fun y1=>some (decide (0≤y1))
theorem q2O {rec_ieveryNode_iHasRemote_1:Expr→Option Bool}(ih_ieveryNode_iHasRemote_1:∀ {a0:Expr}{r:Bool},rec_ieveryNode_iHasRemote_1 a0=some r→∀ {F0:Nat→Prop}{w0:World}{ca0}(ha0:rd F0 w0 a0 ca0),RT 72 #[.agg ca0.toArray,.func (.func 73) #[] #[]] w0 fun v w=>v = .bool r){a0}{r}(hr:q0C rec_ieveryNode_iHasRemote_1 a0=some r){z0}(ha0:rdS F0 w0 a0 z0){b1_0p:Nat}(ha1_0:F0 b1_0p∧At w0 b1_0p 0 [.func (.func 73) #[] #[]]):RT 36 #[z0,.func (.func 111) #[] #[pB b1_0p]] w0 fun v w=>v = .bool r:=by
 obtain⟨A0',n0',c0',rfl⟩:=ha0.form3
 have H:=(HL.start F0 w0).argS ha0
 have H:=H.argA ha1_0
 refine (En Tryz.func36) ?_
 refine R ((A) (Z (R ((V) ((V) ?_)))))
 refine (bb hr fun y1 hy1 hr=>?_)
 exact (CA ok71 (q3e ih_ieveryNode_iHasRemote_1 hy1 (F0:=fun q=>q < _) (rs H 0) ⟨H.rAl (i:=1) rfl,H.rA (i:=1) rfl⟩)) (cF' H fun w1 hI1 H=>(B) ((A) (Z (W1 hr))))
def q2s (rec_ieveryNode_iHasRemote_1:Expr→Option Bool)(a0:Expr):Option Bool:=(q7C a0).bind fun y1=>if y1=true then (q0C rec_ieveryNode_iHasRemote_1 a0.Args).bind fun y2=>some (!y2) else some false
theorem q6X {rec_ieveryNode_iHasRemote_1:Expr→Option Bool}(ih_ieveryNode_iHasRemote_1:∀ {a0:Expr}{r:Bool},rec_ieveryNode_iHasRemote_1 a0=some r→∀ {F0:Nat→Prop}{w0:World}{ca0}(ha0:rd F0 w0 a0 ca0),RT 72 #[.agg ca0.toArray,.func (.func 73) #[] #[]] w0 fun v w=>v = .bool r){a0}{r}(hr:q2s rec_ieveryNode_iHasRemote_1 a0=some r){ca0}(ha0:rd F0 w0 a0 ca0):RT 72 #[.agg ca0.toArray,.func (.func 73) #[] #[]] w0 fun v w=>v = .bool r:=by
 have H:=(HL.start F0 w0).argR ha0
 obtain⟨A1,n1,c1,rfl,hI1,hI2,hI3,hI4,hS1,hS2,H⟩:=q0X H (i:=0) rfl
 refine (En Tryz.func72) ?_
 refine R ((BX H) fun b1 w1 H=>(BX H) fun b2 w2 H=>(A) (Z (R ((L H 1) ((LB H 0) ?_)))))
 refine (bb hr fun y1 hy1 hr=>?_)
 refine (CA ok73 (z2D hy1 (q0b.2 ⟨_,rfl,hI1,hI2,hI3,hI4,hS1,hS2,(rs H 1)⟩))) (cE H fun w3 H=>jB hr (fun _ hr=>?_) fun _ hr=>?_)
 ·refine (G) ((D 6) ((G) ((L H 0) ((G) ?_))))
  refine WL.ev rfl rfl (Ev.mkfL rfl rfl rfl) ((G) ?_)
  refine (bb hr fun y2 hy2 hr=>?_)
  exact (CA ok36 (q2O ih_ieveryNode_iHasRemote_1 hy2 (F0:=fun q=>q < _) (rs H 1) ⟨(H.rB (i:=1) rfl).lt,At.blk (H.rB (i:=1) rfl)⟩)) (cE H fun w4 H=>(G) ((N) ((T) ((A) (Z (W1 hr))))))
 ·exact (O) ((O) ((O) ((O) ((O) ((U) ((A) (Z (W1 hr))))))))
def q1G:Nat→Expr→Option Bool
  | 0,_=>none
  | n+1,a0=>q2s (q1G n) a0
def q3q (a0:Expr):Option Bool:=recO fun n=>q1G n a0
theorem q6Y (n:Nat):∀ {a0:Expr}{r:Bool},q1G n a0=some r→∀ {F0:Nat→Prop}{w0:World}{ca0}(ha0:rd F0 w0 a0 ca0),RT 72 #[.agg ca0.toArray,.func (.func 73) #[] #[]] w0 fun v w=>v = .bool r:=by
 induction n with
 | zero=>intro a0 r hr; exact nomatch (show (none:Option Bool)=some r from hr)
 | succ n ih=>intro a0 r hr; exact q6X ih hr
theorem q7d {a0}{r}(hr:q3q a0=some r){ca0}(ha0:rd F0 w0 a0 ca0):RT 72 #[.agg ca0.toArray,.func (.func 73) #[] #[]] w0 fun v w=>v = .bool r:=by
 obtain⟨n,hn⟩:=q2f hr
 exact q6Y n hn ha0
def q7p (a0:Expr):Option Bool:=(q3q a0).bind fun y1=>some (!y1)
theorem z4f {a0}{r}(hr:q7p a0=some r){ca0}(ha0:rd F0 w0 a0 ca0):RT 38 #[.agg ca0.toArray] w0 fun v w=>v = .bool r:=by
 have H:=(HL.start F0 w0).argR ha0
 obtain⟨A1,n1,c1,rfl,hI1,hI2,hI3,hI4,hS1,hS2,H⟩:=q0X H (i:=0) rfl
 refine (En Tryz.func38) ?_
 refine R ((BX H) fun b1 w1 H=>(A) (Z (R ((LB H 0) ?_))))
 refine (bb hr fun y1 hy1 hr=>?_)
 exact (CA ok72 (q7d hy1 (F0:=fun q=>q < _) (q0b.2 ⟨_,rfl,hI1,hI2,hI3,hI4,hS1,hS2,(rs H 1)⟩))) (cE H fun w2 H=>(N) ((A) (Z (W1 hr))))
def q3b:Nat→Expr→Unit→Option (Unit ⊕ Int):=fun k1 x1 _=>(q7p x1).bind fun y1=>if y1=true then some (.inr (k1:Int)) else some (.inl ())
def q1R (a0:(List Expr)):Option Int:=(findL q3b 0 a0 ()).bind <| onr (fun r1=>some r1) fun _=>some (-1)
theorem q5g {a0}{r}(hr:q1R a0=some r){z0}(ha0:rdS F0 w0 a0 z0):RT 71 #[z0,.func (.func 38) #[] #[]] w0 fun v w=>v = .int .i64 r∧I64 r:=by
 obtain⟨A0',n0',c0',rfl⟩:=ha0.form3
 have H:=(HL.start F0 w0).argS ha0
 refine (En Tryz.func71) ?_
 refine R ((A) (Z (Y (R ((V) ((NI H 0) fun hl1=>(V) (Z ?_)))))))
 refine (bb hr fun q1 hq1 hr=>?_)
 refine (lF hq1 (fun k1 _ _=>[(0,.slice A0' n0' c0'),(1,.func (.func 38) #[] #[]),(7,zN a0.length),(8,zN k1)]) (fun _ _ w=>HL F0 [] w0 w [Pr.S a0 (.slice A0' n0' c0')] []) ()) ?_
 rintro k1 _ _ σ w1 hk1 hq1 H
 refine R ((B) (Z (Y ?_)))
 refine CW.condD rfl (fun h1=>?_) (fun h1=>?_)
 ·have hk2:=q0m h1
  obtain⟨x1,z1,hx1,hb1,hs1,ht1⟩:=q0y hq1 hk2
  refine K (Y ?_)
  refine CW.block (R ((V) ((A) (Z (R ((V) ((V) ((V) ?_))))))))
  obtain⟨b1,ob1,cb1,A1,n1,c1,hvb1,hI1,hI2,hI3,hI4,hS1,hS2,H⟩:=q0u H (i:=0) rfl hx1
  refine (J 7 hvb1 hx1) ((LA H 1) ?_)
  refine (bb hb1 fun y1 hy1 hb1=>?_)
  refine (CA ok38 (z4f hy1 (q0b.2 ⟨_,rfl,hI1,hI2,hI3,hI4,hS1,hS2,(rs H 3)⟩))) (cE H fun w2 H=>Z (iB hb1 (fun _ hb1=>?_) fun _ hb1=>?_))
  ·exact R ((V) ((A) (Z (W2 hb1 ht1 hr))))
  ·exact K (X ((AN hk2 hl1) ((V) (Z (I2 hb1 hs1 ⟨k1+1,(),()⟩)))))
 ·obtain rfl:=q0l hq1 (q0c h1)
  have hr:=(q0s _ _ _).symm.trans hr
  exact CE (R ((A) (Z (W1 hr))))
def q1z (a0:(List Expr)):Option Bool:=(q1R a0).bind fun y1=>some (decide (0≤y1))
theorem q4D {a0}{r}(hr:q1z a0=some r){z0}(ha0:rdS F0 w0 a0 z0):RT 36 #[z0,.func (.func 38) #[] #[]] w0 fun v w=>v = .bool r:=by
 obtain⟨A0',n0',c0',rfl⟩:=ha0.form3
 have H:=(HL.start F0 w0).argS ha0
 refine (En Tryz.func36) ?_
 refine R ((A) (Z (R ((V) ((V) ?_)))))
 refine (bb hr fun y1 hy1 hr=>?_)
 exact (CA ok71 (q5g hy1 (F0:=fun q=>q < _) (rs H 0))) (cF' H fun w1 hI1 H=>(B) ((A) (Z (W1 hr))))
def q7D (a0:Rule):Option Bool:=(q4P a0).bind fun y1=>(q1z y1).bind fun y2=>some y2
theorem z2E {a0}{r}(hr:q7D a0=some r){ca0}(ha0:rd F0 w0 a0 ca0):RT 35 #[.agg ca0.toArray] w0 fun v w=>v = .bool r:=by
 have H:=(HL.start F0 w0).argR ha0
 obtain⟨A1,n1,c1,A2,n2,c2,A3,n3,c3,rfl,hS1,hS2,H⟩:=q0z H (i:=0) rfl
 refine (En Tryz.func35) ?_
 refine R ((BX H) fun b1 w1 H=>(A) (Z (R ((LB H 0) ?_))))
 refine (bb hr fun y1 hy1 hr=>?_)
 obtain⟨F,hF,hcl⟩:=H.call
 refine (CA ok37 (q8W hy1 ⟨_,_,_,rfl,hS1,hS2,(hF.get (i:=1) rfl),(hF.get (i:=2) rfl),(hF.get (i:=3) rfl)⟩)) ?_
 rintro _ w2 hE ⟨A4,n4,c4,rfl,H'⟩
 let d1:List Value:=[.string a0.Name,.string a0.Left,.slice A1 n1 c1,.bool a0.Literal,.slice A2 n2 c2,.slice A3 n3 c3]
 have H:HL F0 [] w0 w2 [Pr.R a0 d1,Pr.S a0.Right (.slice A1 n1 c1),Pr.S a0.Equations (.slice A2 n2 c2),Pr.S a0.Contributions (.slice A3 n3 c3)] [It.B b1 47 d1,It.G 58 y1 (.slice A4 n4 c4)]:=hcl H'
 refine (bb hr fun y2 hy2 hr=>?_)
 exact (CA ok36 (q4D hy2 (F0:=fun q=>q < _) (H.rG (i:=1) rfl))) (cE H fun w3 H=>(A) (Z (W1 hr)))
def q2G:Nat→Rule→Unit→Option (Unit ⊕ Int):=fun k1 x1 _=>(q7D x1).bind fun y1=>if y1=true then some (.inr (k1:Int)) else some (.inl ())
def q1H (a0:(List Rule)):Option Int:=(findL q2G 0 a0 ()).bind <| onr (fun r1=>some r1) fun _=>some (-1)
theorem q4I {a0}{r}(hr:q1H a0=some r){z0}(ha0:rdS F0 w0 a0 z0):RT 70 #[z0,.func (.func 35) #[] #[]] w0 fun v w=>v = .int .i64 r∧I64 r:=by
 obtain⟨A0',n0',c0',rfl⟩:=ha0.form3
 have H:=(HL.start F0 w0).argS ha0
 refine (En Tryz.func70) ?_
 refine R ((A) (Z (Y (R ((V) ((NI H 0) fun hl1=>(V) (Z ?_)))))))
 refine (bb hr fun q1 hq1 hr=>?_)
 refine (lF hq1 (fun k1 _ _=>[(0,.slice A0' n0' c0'),(1,.func (.func 35) #[] #[]),(7,zN a0.length),(8,zN k1)]) (fun _ _ w=>HL F0 [] w0 w [Pr.S a0 (.slice A0' n0' c0')] []) ()) ?_
 rintro k1 _ _ σ w1 hk1 hq1 H
 refine R ((B) (Z (Y ?_)))
 refine CW.condD rfl (fun h1=>?_) (fun h1=>?_)
 ·have hk2:=q0m h1
  obtain⟨x1,z1,hx1,hb1,hs1,ht1⟩:=q0y hq1 hk2
  refine K (Y ?_)
  refine CW.block (R ((V) ((A) (Z (R ((V) ((V) ((V) ?_))))))))
  obtain⟨b1,ob1,cb1,A1,n1,c1,A2,n2,c2,A3,n3,c3,hvb1,hS1,hS2,H⟩:=q4W H (i:=0) rfl hx1
  refine (J 6 hvb1 hx1) ((LA H 1) ?_)
  refine (bb hb1 fun y1 hy1 hb1=>?_)
  refine (CA ok35 (z2E hy1 ⟨_,_,_,rfl,hS1,hS2,(rs H 3),(rs H 4),(rs H 5)⟩)) (cE H fun w2 H=>Z (iB hb1 (fun _ hb1=>?_) fun _ hb1=>?_))
  ·exact R ((V) ((A) (Z (W2 hb1 ht1 hr))))
  ·exact K (X ((AN hk2 hl1) ((V) (Z (I2 hb1 hs1 ⟨k1+1,(),()⟩)))))
 ·obtain rfl:=q0l hq1 (q0c h1)
  have hr:=(q0s _ _ _).symm.trans hr
  exact CE (R ((A) (Z (W1 hr))))
def q1r (a0:(List Rule)):Option Bool:=(q1H a0).bind fun y1=>some (decide (0≤y1))
theorem q4l {a0}{r}(hr:q1r a0=some r){z0}(ha0:rdS F0 w0 a0 z0):RT 34 #[z0,.func (.func 35) #[] #[]] w0 fun v w=>v = .bool r:=by
 obtain⟨A0',n0',c0',rfl⟩:=ha0.form3
 have H:=(HL.start F0 w0).argS ha0
 refine (En Tryz.func34) ?_
 refine R ((A) (Z (R ((V) ((V) ?_)))))
 refine (bb hr fun y1 hy1 hr=>?_)
 exact (CA ok70 (q4I hy1 (F0:=fun q=>q < _) (rs H 0))) (cF' H fun w1 hI1 H=>(B) ((A) (Z (W1 hr))))
def q7q (a0:Grammar):Option Bool:=(q1r a0.Rules).bind fun y1=>some y1
theorem z4g {a0}{r}(hr:q7q a0=some r){ca0}(ha0:rd F0 w0 a0 ca0):RT 16 #[.agg ca0.toArray] w0 fun v w=>v = .bool r:=by
 have H:=(HL.start F0 w0).argR ha0
 obtain⟨A1,n1,c1,A2,n2,c2,rfl,H⟩:=q0e H (i:=0) rfl
 refine (En Tryz.func16) ?_
 refine R ((BX H) fun b1 w1 H=>(A) (Z (R ((D 1) ((L H 0) ?_)))))
 refine (bb hr fun y1 hy1 hr=>?_)
 exact (CA ok34 (q4l hy1 (F0:=fun q=>q < _) (rs H 2))) (cE H fun w2 H=>(A) (Z (W1 hr)))
def q7E (a0:Attribute):Option Bool:=some (decide (a0.Mode=3))
theorem z2F {a0}{r}(hr:q7E a0=some r){ca0}(ha0:rd F0 w0 a0 ca0):RT 18 #[.agg ca0.toArray] w0 fun v w=>v = .bool r:=by
 have H:=(HL.start F0 w0).argR ha0
 obtain⟨rfl,hS1,hI1,hI2,H⟩:=q3G H (i:=0) rfl
 refine (En Tryz.func18) ?_
 exact R ((BX H) fun b1 w1 H=>(A) (Z (R ((D 2) ((L H 0) ((B) ((A) (Z (W1 hr)))))))))
def q2d:Nat→Attribute→Unit→Option (Unit ⊕ Int):=fun k1 x1 _=>(q7E x1).bind fun y1=>if y1=true then some (.inr (k1:Int)) else some (.inl ())
def q1f (a0:(List Attribute)):Option Int:=(findL q2d 0 a0 ()).bind <| onr (fun r1=>some r1) fun _=>some (-1)
theorem q3X {a0}{r}(hr:q1f a0=some r){z0}(ha0:rdS F0 w0 a0 z0):RT 75 #[z0,.func (.func 18) #[] #[]] w0 fun v w=>v = .int .i64 r∧I64 r:=by
 obtain⟨A0',n0',c0',rfl⟩:=ha0.form3
 have H:=(HL.start F0 w0).argS ha0
 refine (En Tryz.func75) ?_
 refine R ((A) (Z (Y (R ((V) ((NI H 0) fun hl1=>(V) (Z ?_)))))))
 refine (bb hr fun q1 hq1 hr=>?_)
 refine (lF hq1 (fun k1 _ _=>[(0,.slice A0' n0' c0'),(1,.func (.func 18) #[] #[]),(7,zN a0.length),(8,zN k1)]) (fun _ _ w=>HL F0 [] w0 w [Pr.S a0 (.slice A0' n0' c0')] []) ()) ?_
 rintro k1 _ _ σ w1 hk1 hq1 H
 refine R ((B) (Z (Y ?_)))
 refine CW.condD rfl (fun h1=>?_) (fun h1=>?_)
 ·have hk2:=q0m h1
  obtain⟨x1,z1,hx1,hb1,hs1,ht1⟩:=q0y hq1 hk2
  refine K (Y ?_)
  refine CW.block (R ((V) ((A) (Z (R ((V) ((V) ((V) ?_))))))))
  obtain⟨b1,ob1,cb1,hvb1,hS1,hI1,hI2,H⟩:=q1U H (i:=0) rfl hx1
  refine (J 4 hvb1 hx1) ((LA H 1) ?_)
  refine (bb hb1 fun y1 hy1 hb1=>?_)
  refine (CA ok18 (z2F hy1 (F0:=fun _=>False) ⟨rfl,hS1,hI1,hI2⟩)) (cE H fun w2 H=>Z (iB hb1 (fun _ hb1=>?_) fun _ hb1=>?_))
  ·exact R ((V) ((A) (Z (W2 hb1 ht1 hr))))
  ·exact K (X ((AN hk2 hl1) ((V) (Z (I2 hb1 hs1 ⟨k1+1,(),()⟩)))))
 ·obtain rfl:=q0l hq1 (q0c h1)
  have hr:=(q0s _ _ _).symm.trans hr
  exact CE (R ((A) (Z (W1 hr))))
def q0W (a0:(List Attribute)):Option Bool:=(q1f a0).bind fun y1=>some (decide (0≤y1))
theorem q3B {a0}{r}(hr:q0W a0=some r){z0}(ha0:rdS F0 w0 a0 z0):RT 41 #[z0,.func (.func 18) #[] #[]] w0 fun v w=>v = .bool r:=by
 obtain⟨A0',n0',c0',rfl⟩:=ha0.form3
 have H:=(HL.start F0 w0).argS ha0
 refine (En Tryz.func41) ?_
 refine R ((A) (Z (R ((V) ((V) ?_)))))
 refine (bb hr fun y1 hy1 hr=>?_)
 exact (CA ok75 (q3X hy1 (F0:=fun q=>q < _) (rs H 0))) (cF' H fun w1 hI1 H=>(B) ((A) (Z (W1 hr))))
def q2v (a0:Symbol):Option Bool:=(q0W a0.Attributes).bind fun y1=>some y1
theorem q5L {a0}{r}(hr:q2v a0=some r){ca0}(ha0:rd F0 w0 a0 ca0){b1p:Nat}(ha1:F0 b1p∧At w0 b1p 0 [.func (.func 18) #[] #[]]):RT 40 #[.agg ca0.toArray,pB b1p] w0 fun v w=>v = .bool r:=by
 have H:=(HL.start F0 w0).argR ha0
 obtain⟨A1,n1,c1,rfl,hS1,H⟩:=q4L H (i:=0) rfl
 have H:=H.argA ha1
 refine (En Tryz.func40) ?_
 refine R ((BX H) fun b1 w1 H=>(A) (Z (R ((D 1) ((L H 0) ((L0 H 2) ?_))))))
 refine (bb hr fun y1 hy1 hr=>?_)
 exact (CA ok41 (q3B hy1 (F0:=fun q=>q < _) (rs H 1))) (cE H fun w2 H=>(A) (Z (W1 hr)))
def q1d:Nat→Symbol→Unit→Option (Unit ⊕ Int):=fun k1 x1 _=>(q2v x1).bind fun y1=>if y1=true then some (.inr (k1:Int)) else some (.inl ())
def q0x (a0:(List Symbol)):Option Int:=(findL q1d 0 a0 ()).bind <| onr (fun r1=>some r1) fun _=>some (-1)
theorem q2C {a0}{r}(hr:q0x a0=some r){z0}(ha0:rdS F0 w0 a0 z0){b1_0p:Nat}(ha1_0:F0 b1_0p∧At w0 b1_0p 0 [.func (.func 18) #[] #[]]):RT 74 #[z0,.func (.func 40) #[] #[pB b1_0p]] w0 fun v w=>v = .int .i64 r∧I64 r:=by
 obtain⟨A0',n0',c0',rfl⟩:=ha0.form3
 have H:=(HL.start F0 w0).argS ha0
 have H:=H.argA ha1_0
 refine (En Tryz.func74) ?_
 refine R ((A) (Z (Y (R ((V) ((NI H 0) fun hl1=>(V) (Z ?_)))))))
 refine (bb hr fun q1 hq1 hr=>?_)
 refine (lF hq1 (fun k1 _ _=>[(0,.slice A0' n0' c0'),(1,.func (.func 40) #[] #[pB b1_0p]),(7,zN a0.length),(8,zN k1)]) (fun _ _ w=>HL F0 [] w0 w [Pr.S a0 (.slice A0' n0' c0'),Pr.A b1_0p 0 [.func (.func 18) #[] #[]]] []) ()) ?_
 rintro k1 _ _ σ w1 hk1 hq1 H
 refine R ((B) (Z (Y ?_)))
 refine CW.condD rfl (fun h1=>?_) (fun h1=>?_)
 ·have hk2:=q0m h1
  obtain⟨x1,z1,hx1,hb1,hs1,ht1⟩:=q0y hq1 hk2
  refine K (Y ?_)
  refine CW.block (R ((V) ((A) (Z (R ((V) ((V) ((V) ?_))))))))
  obtain⟨b1,ob1,cb1,A1,n1,c1,hvb1,hS1,H⟩:=q2w H (i:=0) rfl hx1
  refine (J 2 hvb1 hx1) ((LA H 2) ?_)
  refine (bb hb1 fun y1 hy1 hb1=>?_)
  refine (CA ok40 (q5L hy1 (F0:=fun q=>q < _) ⟨_,rfl,hS1,(rs H 4)⟩ ⟨H.rAl (i:=1) rfl,H.rA (i:=1) rfl⟩)) (cE H fun w2 H=>Z (iB hb1 (fun _ hb1=>?_) fun _ hb1=>?_))
  ·exact R ((V) ((A) (Z (W2 hb1 ht1 hr))))
  ·exact K (X ((AN hk2 hl1) ((V) (Z (I2 hb1 hs1 ⟨k1+1,(),()⟩)))))
 ·obtain rfl:=q0l hq1 (q0c h1)
  have hr:=(q0s _ _ _).symm.trans hr
  exact CE (R ((A) (Z (W1 hr))))
def q0r (a0:(List Symbol)):Option Bool:=(q0x a0).bind fun y1=>some (decide (0≤y1))
theorem q2t {a0}{r}(hr:q0r a0=some r){z0}(ha0:rdS F0 w0 a0 z0){b1_0p:Nat}(ha1_0:F0 b1_0p∧At w0 b1_0p 0 [.func (.func 18) #[] #[]]):RT 39 #[z0,.func (.func 40) #[] #[pB b1_0p]] w0 fun v w=>v = .bool r:=by
 obtain⟨A0',n0',c0',rfl⟩:=ha0.form3
 have H:=(HL.start F0 w0).argS ha0
 have H:=H.argA ha1_0
 refine (En Tryz.func39) ?_
 refine R ((A) (Z (R ((V) ((V) ?_)))))
 refine (bb hr fun y1 hy1 hr=>?_)
 exact (CA ok74 (q2C hy1 (F0:=fun q=>q < _) (rs H 0) ⟨H.rAl (i:=1) rfl,H.rA (i:=1) rfl⟩)) (cF' H fun w1 hI1 H=>(B) ((A) (Z (W1 hr))))
def q1P (a0:Grammar):Option Bool:=(q0r a0.Symbols).bind fun y1=>some y1
theorem q6j {a0}{r}(hr:q1P a0=some r){ca0}(ha0:rd F0 w0 a0 ca0):RT 17 #[.agg ca0.toArray,.func (.func 18) #[] #[]] w0 fun v w=>v = .bool r:=by
 have H:=(HL.start F0 w0).argR ha0
 obtain⟨A1,n1,c1,A2,n2,c2,rfl,H⟩:=q0e H (i:=0) rfl
 refine (En Tryz.func17) ?_
 refine R ((BX H) fun b1 w1 H=>(BX H) fun b2 w2 H=>(A) (Z (R ((D 0) ((L H 0) ?_)))))
 refine WL.ev rfl rfl (Ev.mkfL rfl rfl rfl) ?_
 refine (bb hr fun y1 hy1 hr=>?_)
 exact (CA ok39 (q2t hy1 (F0:=fun q=>q < _) (rs H 1) ⟨(H.rB (i:=1) rfl).lt,At.blk (H.rB (i:=1) rfl)⟩)) (cE H fun w3 H=>(A) (Z (W1 hr)))
def q6Z:Nat→Attribute→(List Attribute)→Option (List Attribute):=fun k1 x1 s1=>( if x1.Mode=1 then grd (((s1.length:Int)+1)*40≤140737488355328∧(s1.length:Int)+1≤9223372036854775807) <| some (s1++[x1]) else if x1.Mode=2 then grd (((s1.length:Int)+1)*40≤140737488355328∧(s1.length:Int)+1≤9223372036854775807) <| some (s1++[x1]) else some s1 ).bind fun s2=>some s2
def q4h (a0:Grammar)(a1:ByteArray):Option (List Attribute):=(q1Y a0 a1).bind fun (y1,y2)=>(eachL q6Z 0 y1.Attributes ([]:List Attribute)).bind fun s1=>some s1
theorem q9M {a0}{a1}{r}(hr:q4h a0 a1=some r){ca0}(ha0:rd F0 w0 a0 ca0)(ha1:a1.size≤9223372036854775807):RT 77 #[.agg ca0.toArray,.string a1] w0 fun v w=>∃ A0 n0 c0,v=(.slice A0 n0 c0)∧HL F0 [] w0 w [] [It.O 41 r (.slice A0 n0 c0)]:=by
 have H:=(HL.start F0 w0).argR ha0
 obtain⟨A1,n1,c1,A2,n2,c2,rfl,H⟩:=q0e H (i:=0) rfl
 refine (En Tryz.func77) ?_
 refine R ((BX H) fun b1 w1 H=>(A) (Z (R ?_)))
 refine WL.lit0H (α:=Attribute) rfl rfl rfl el37 sz41 H fun A3 n3 c3 w2 H=>(A) (Z (R ((LB H 0) ((V) ?_))))
 obtain⟨⟨y1,y2⟩,hy1,hr⟩:=bd hr
 obtain⟨F,hF,hcl⟩:=H.call
 refine (CA ok80 (q3Z hy1 ⟨_,_,rfl,(hF.get (i:=1) rfl),(hF.get (i:=2) rfl)⟩ ha1)) ?_
 rintro _ w3 hE ⟨A4,n4,c4,rfl,hS1,H'⟩
 let d2:List Value:=[.slice A1 n1 c1,.slice A2 n2 c2]
 let d1:List Pr:=[Pr.R a0 d2,Pr.S a0.Symbols (.slice A1 n1 c1),Pr.S a0.Rules (.slice A2 n2 c2),Pr.S y1.Attributes (.slice A4 n4 c4)]
 have H:HL F0 [] w0 w3 d1 [It.B b1 31 d2,It.O 41 ([]:List Attribute) (.slice A3 n3 c3)]:=hcl H'
 refine (V) ((EX) ((EX) ((AH ze39 H) fun b2 w4 H=>(SB H 2) fun w5 H=>(A) (Z (Y (R ((D 1) ((L H 2) ((NI H 3) fun hl1=>(V) (Z ?_))))))))))
 refine (bb hr fun q1 hq1 hr=>?_)
 let d3:It:=It.B b2 39 [.string y1.Name,.slice A4 n4 c4]
 refine (lE hq1 (fun k1 s1 v1=>[(5,v1),(18,.slice A4 n4 c4),(19,zN y1.Attributes.length),(20,zN k1)]) (fun s1 v1 w=>HL F0 [] w0 w d1 [It.B b1 31 d2,It.O 41 s1 v1,d3]) (.slice A3 n3 c3)) ?_
 rintro k1 s1 v1 σ w6 hk1 hq1 H
 obtain⟨A5,n5,c5,rfl⟩:=(H.rO (i:=1) rfl).form3
 refine R ((B) (Z (Y ?_)))
 refine CW.condD rfl (fun h1=>?_) (fun h1=>?_)
 ·have hk2:=q0m h1
  obtain⟨x1,z1,hx1,hb1,hq1⟩:=q4w hq1 hk2
  refine K ?_
  refine (bb hb1 fun q2 hm1 hb1=>Y ?_)
  refine CW.mid (fun ρ' w=>∃ (s2:List Attribute) (v2:Value),s2=q2∧agree ρ' [(5,v2),(18,.slice A4 n4 c4),(19,zN y1.Attributes.length),(20,zN k1)]∧HL F0 [] w0 w d1 [It.B b1 31 d2,It.O 41 s2 v2,d3]) ?_ ?_
  ·refine CW.block (R ?_)
   obtain⟨b3,ob3,cb3,hvb3,hS2,hI1,hI2,H⟩:=q1U H (i:=3) rfl hx1
   refine (J 4 hvb3 hx1) ((LA H 4) ((AH ze41 H) fun b4 w7 H=>(SB H 3) fun w8 H=>Z (R ((D 2) ((L H 3) ((B) (jD hm1 (fun _ hm1=>?_) fun _ hm1=>?_)))))))
   ·refine (O) ((O) ((O) ((T) (Z ((cT) (X ((V) ((LB H 3) ?_))))))))
    refine WL.lit1 rfl rfl rfl el37 sz41 ze41 rfl rfl rfl rfl rfl rfl fun b5 w9 hE hb hB=>?_
    have H:=H.newB hE hb hB
    refine (gg hm1 fun hg1 hm1=>?_)
    exact WL.appO (i:=1) (ys:=[x1]) rfl rfl rfl el37 sz41 by41 ze41 rfl rfl rfl H rfl (fun _=>ownL.single ⟨rfl,hS2,hI1,hI2,rfl⟩) (.inr ⟨_,_,rfl,At.blk (H.rB (i:=4) rfl)⟩) hg1 fun A6 n6 c6 w10 H=>(A) (Z (C1 hm1))
   ·refine (G) ((D 2) ((G) ((L H 3) ((G) ((B) ((U) (Z (iD hm1 (fun _ hm1=>?_) fun _ hm1=>?_))))))))
    ·refine X ((V) ((LB H 3) ?_))
     refine WL.lit1 rfl rfl rfl el37 sz41 ze41 rfl rfl rfl rfl rfl rfl fun b6 w11 hE hb hB=>?_
     have H:=H.newB hE hb hB
     refine (gg hm1 fun hg2 hm1=>?_)
     exact WL.appO (i:=1) (ys:=[x1]) rfl rfl rfl el37 sz41 by41 ze41 rfl rfl rfl H rfl (fun _=>ownL.single ⟨rfl,hS2,hI1,hI2,rfl⟩) (.inr ⟨_,_,rfl,At.blk (H.rB (i:=4) rfl)⟩) hg2 fun A7 n7 c7 w12 H=>(A) (Z (C1 hm1))
    ·exact K (C1 hm1)
  ·rintro ρ' w13 ⟨s2,v2,rfl,hag,H⟩
   obtain⟨σ,rfl⟩:=ofL_ex hag
   obtain⟨A8,n8,c8,rfl⟩:=(H.rO (i:=1) rfl).form3
   exact X ((AN hk2 hl1) ((V) (Z (I1 hb1 ⟨k1+1,s2,(.slice A8 n8 c8)⟩))))
 ·obtain rfl:=q3w hq1 (q0c h1)
  exact CE (R ((V) ((A) (Z (W1 hr)))))
def q1O (k1:Nat):Nat→Attribute→(List Occurrence)→Option (List Occurrence):=fun k2 x1 s2=>grd (((s2.length:Int)+1)*24≤140737488355328∧(s2.length:Int)+1≤9223372036854775807) <| some (s2++[(⟨(k1:Int),x1.Name⟩:Occurrence)])
def q1v (a0:Grammar)(a1:Rule):Nat→(List Occurrence)→Option (List Occurrence):=fun k1 s1=>(q4r a1 (k1:Int)).bind fun y1=>(q4h a0 y1).bind fun y2=>(eachL (q1O k1) 0 y2 s1).bind fun s2=>some s2
def q3k (a0:Grammar)(a1:Rule):Option (List Occurrence):=grd (I64 ((a1.Right.length+1:Nat):Int)) <| (eachN (q1v a0 a1) 0 ((a1.Right.length+1)) ([]:List Occurrence)).bind fun s1=>some s1
theorem z0U {a0}{a1}{r}(hr:q3k a0 a1=some r){ca0}(ha0:rd F0 w0 a0 ca0){ca1}(ha1:rd F0 w0 a1 ca1):RT 43 #[.agg ca0.toArray,.agg ca1.toArray] w0 fun v w=>∃ A0 n0 c0,v=(.slice A0 n0 c0)∧HL F0 [] w0 w [] [It.O 55 r (.slice A0 n0 c0)]:=by
 have H:=((HL.start F0 w0).argR ha0).argR ha1
 obtain⟨A1,n1,c1,A2,n2,c2,rfl,H⟩:=q0e H (i:=0) rfl
 obtain⟨A3,n3,c3,A4,n4,c4,A5,n5,c5,rfl,hS1,hS2,H⟩:=q0z H (i:=1) rfl
 refine (En Tryz.func43) ?_
 refine R ((BX H) fun b1 w1 H=>(BX H) fun b2 w2 H=>(A) (Z (R ?_)))
 refine WL.lit0H (α:=Occurrence) rfl rfl rfl el52 sz55 H fun A6 n6 c6 w3 H=>(A) (Z (Y (R ((D 2) ((L H 1) ((NI H 4) fun hl1=>?_))))))
 refine (gg hr fun hg1 hr=>?_)
 refine (BN (Bin.addN (a:=a1.Right.length) (b:=1) rfl hg1)) ((V) (Z ?_))
 refine (bb hr fun q1 hq1 hr=>?_)
 let d2:List Value:=[.string a1.Name,.string a1.Left,.slice A3 n3 c3,.bool a1.Literal,.slice A4 n4 c4,.slice A5 n5 c5]
 let d1:List Pr:=[Pr.R a0 [.slice A1 n1 c1,.slice A2 n2 c2],Pr.R a1 d2,Pr.S a0.Symbols (.slice A1 n1 c1),Pr.S a0.Rules (.slice A2 n2 c2),Pr.S a1.Right (.slice A3 n3 c3),Pr.S a1.Equations (.slice A4 n4 c4),Pr.S a1.Contributions (.slice A5 n5 c5)]
 let d3:It:=It.B b1 31 [.slice A1 n1 c1,.slice A2 n2 c2]
 refine (lN hq1 (fun k1 s1 v1=>[(2,pB b1),(3,pB b2),(5,v1),(13,.int .i64 ((a1.Right.length+1:Nat):Int)),(14,zN k1)]) (fun s1 v1 w=>HL F0 [] w0 w d1 [d3,It.B b2 47 d2,It.O 55 s1 v1]) (.slice A6 n6 c6)) ?_
 rintro k1 s1 v1 σ w4 hk1 hq1 H
 obtain⟨A7,n7,c7,rfl⟩:=(H.rO (i:=2) rfl).form3
 refine R ((B) (Z (Y ?_)))
 refine CW.condD rfl (fun h1=>?_) (fun h1=>?_)
 ·have hk2:=q0m h1
  obtain⟨z1,hb1,hq1⟩:=z6r hq1 hk2
  refine K (Y ?_)
  refine CW.block (R ((V) ((A) (Z (Y ?_)))))
  refine CW.held (fun w=>HL F0 [] w0 w d1 [d3,It.B b2 47 d2,It.O 55 s1 (.slice A7 n7 c7)]) hmix (fun w5 hE=>?_)
  have H:HL F0 [] w0 w5 d1 [d3,It.B b2 47 d2,It.O 55 s1 (.slice A7 n7 c7)]:=H.ext hE
  refine HW.take 0 (H.keep 7 3) rfl (by kernel_rfl) rfl rfl (fun _ hq=>Ev.lda rfl ag31 sz31 rfl (At.blk (hq.rB (i:=0) rfl)) rfl) ?_
  refine HW.take 1 (H.keep 7 3) rfl (by kernel_rfl) rfl rfl (fun _ hq=>Ev.lda rfl ag47 sz47 rfl (At.blk (hq.rB (i:=1) rfl)) rfl) ?_
  refine HW.take 2 (H.keep 7 3) rfl (by kernel_rfl) rfl rfl (fun _ _=>Ev.mv rfl rfl) ?_
  refine HW.take 6 (H.keep 7 3) rfl (by kernel_rfl) rfl rfl (fun _ _=>Ev.mv rfl rfl) ?_
  refine HW.eff 3 rfl (by kernel_rfl) ?_
  refine (bb hb1 fun y1 hy1 hb1=>?_)
  refine (CA ok78 (q4s hy1 ⟨_,_,_,rfl,hS1,hS2,(rs H 4),(rs H 5),(rs H 6)⟩ (q7R hk2 hg1))) (cF' H fun w6 hS3 H=>?_)
  refine HW.next (H.keep 7 3) ?_
  refine HW.eff 4 rfl (by kernel_rfl) ?_
  refine (bb hb1 fun y2 hy2 hb1=>?_)
  refine (CA ok77 (q9M hy2 ⟨_,_,rfl,(rs H 2),(rs H 3)⟩ hS3)) ?_
  rintro _ w7 hE ⟨A8,n8,c8,rfl,H'⟩
  have H:=H.callA H' ⟨fun _ _ _ _ _ h=>h,trivial⟩
  refine HW.next (H.keep 7 3) ?_
  have hl2:=(H.rO (i:=3) rfl).I
  refine HW.take 5 (H.keep 7 3) rfl (by kernel_rfl) rfl rfl (fun _ _=>Ev.lenV rfl el37 rfl (ro H 3)) ?_
  refine HW.done (by kernel_rfl) ?_
  refine (bb hb1 fun q2 hq2 hb1=>?_)
  refine (lE hq2 (fun k2 s2 v2=>[(2,pB b1),(3,pB b2),(5,v2),(6,zN k1),(13,.int .i64 ((a1.Right.length+1:Nat):Int)),(14,zN k1),(21,.slice A8 n8 c8),(22,zN y2.length),(23,zN k2)]) (fun s2 v2 w=>HL F0 [] w0 w d1 [d3,It.B b2 47 d2,It.O 55 s2 v2,It.O 41 y2 (.slice A8 n8 c8)]) (.slice A7 n7 c7)) ?_
  rintro k2 s2 v2 σ w8 hk3 hq2 H
  obtain⟨A9,n9,c9,rfl⟩:=(H.rO (i:=2) rfl).form3
  refine R ((B) (Z (Y ?_)))
  refine CW.condD rfl (fun h2=>?_) (fun h2=>?_)
  ·have hk4:=q0m h2
   obtain⟨x1,z2,hx1,hb2,hq2⟩:=q4w hq2 hk4
   refine K (Y ?_)
   refine CW.block (R ?_)
   obtain⟨b3,cb3,hvb3,hbb3⟩:=H.ptO (i:=3) rfl hx1
   refine (J 4 hvb3 hx1) ?_
   obtain⟨hA1,hS4,hI1,hI2,H⟩:=q2p H (i:=3) rfl hx1 hbb3
   refine WL.ev rfl rfl (Ev.lda rfl ag41 sz41 rfl hA1 rfl) ((AH ze41 H) fun b4 w9 H=>(SB H 4) fun w10 H=>Z (X ((V) ((V) ((D 0) ((L H 4) ?_))))))
   refine WL.ev rfl rfl (Ev.build rfl pl55 ze55 rfl rfl rfl rfl) ?_
   refine WL.lit1 rfl rfl rfl el52 sz55 ze55 rfl rfl rfl rfl rfl rfl fun b5 w11 hE hb hB=>?_
   have H:=H.newB hE hb hB
   refine (gg hb2 fun hg2 hb2=>?_)
   exact WL.appO (i:=2) (ys:=[(⟨(k1:Int),x1.Name⟩:Occurrence)]) rfl rfl rfl el52 sz55 by55 ze55 rfl rfl rfl H rfl (fun _=>ownL.single ⟨rfl,(q7R hk2 hg1),hS4,rfl⟩) (.inr ⟨_,_,rfl,At.blk (H.rB (i:=5) rfl)⟩) hg2 fun A10 n10 c10 w12 H=>(A) (Z (X ((AN hk4 hl2) ((V) (Z (I1 hb2 ⟨k2+1,(s2++[(⟨(k1:Int),x1.Name⟩:Occurrence)]),(.slice A10 n10 c10)⟩))))))
  ·obtain rfl:=q3w hq2 (q0c h2)
   exact CE (X ((AN hk2 hg1) ((V) (Z (I1 hb1 ⟨k1+1,s2,(.slice A9 n9 c9)⟩)))))
 ·obtain rfl:=z4w hq1 (q0c h1)
  exact CE (R ((V) ((A) (Z (W1 hr)))))
def q0n (a0:Occurrence)(a1:Grammar)(a2:Rule):Option Bool:=(q2T a1 a2 a0).bind fun (y1,y2)=>some (!y1.Circular)
theorem q4R {a0}{a1}{a2}{r}(hr:q0n a0 a1 a2=some r){ca0}(ha0:rd F0 w0 a0 ca0){b1p:Nat}(ha1:CapP F0 w0 b1p a1){b2p:Nat}(ha2:CapP F0 w0 b2p a2):RT 44 #[.agg ca0.toArray,pB b1p,pB b2p] w0 fun v w=>v = .bool r:=by
 have H:=(HL.start F0 w0).argR ha0
 obtain⟨rfl,hI1,hS1,H⟩:=q0H H (i:=0) rfl
 obtain⟨cpa1,H⟩:=H.argP ha1
 obtain⟨A1,n1,c1,A2,n2,c2,rfl,H⟩:=q0e H (i:=2) rfl
 obtain⟨cpa2,H⟩:=H.argP ha2
 obtain⟨A3,n3,c3,A4,n4,c4,A5,n5,c5,rfl,hS2,hS3,H⟩:=q0z H (i:=6) rfl
 refine (En Tryz.func44) ?_
 refine R ((BX H) fun b1 w1 H=>(A) (Z (R ((LA H 1) ((LA H 5) ((LB H 0) ?_))))))
 obtain⟨⟨y1,y2⟩,hy1,hr⟩:=bd hr
 refine (CA ok45 (q5w hy1 ⟨_,_,rfl,(rs H 3),(rs H 4)⟩ ⟨_,_,_,rfl,hS2,hS3,(rs H 7),(rs H 8),(rs H 9)⟩ ⟨rfl,hI1,hS1⟩)) ?_
 rintro _ w2 hE ⟨rfl,hS4,hI2,hI3⟩
 have H:=H.ext hE
 exact (V) ((EX) ((EX) ((AH ze41 H) fun b2 w3 H=>(SB H 1) fun w4 H=>(A) (Z (R ((D 3) ((L H 1) ((N) ((A) (Z (W1 hr)))))))))))
def q0f (a1_0:Grammar)(a1_1:Rule):Nat→Occurrence→Unit→Option (Unit ⊕ Int):=fun k1 x1 _=>(q0n x1 a1_0 a1_1).bind fun y1=>if y1=true then some (.inr (k1:Int)) else some (.inl ())
def q0i (a0:(List Occurrence))(a1_0:Grammar)(a1_1:Rule):Option Int:=(findL (q0f a1_0 a1_1) 0 a0 ()).bind <| onr (fun r1=>some r1) fun _=>some (-1)
theorem q2P {a0}{a1_0}{a1_1}{r}(hr:q0i a0 a1_0 a1_1=some r){z0}(ha0:rdS F0 w0 a0 z0){b1_0p:Nat}(ha1_0:CapP F0 w0 b1_0p a1_0){b1_1p:Nat}(ha1_1:CapP F0 w0 b1_1p a1_1):RT 76 #[z0,.func (.func 44) #[] #[pB b1_0p,pB b1_1p]] w0 fun v w=>v = .int .i64 r∧I64 r:=by
 obtain⟨A0',n0',c0',rfl⟩:=ha0.form3
 have H:=(HL.start F0 w0).argS ha0
 obtain⟨cpa1_0,H⟩:=H.argP ha1_0
 obtain⟨A1,n1,c1,A2,n2,c2,rfl,H⟩:=q0e H (i:=2) rfl
 obtain⟨cpa1_1,H⟩:=H.argP ha1_1
 obtain⟨A3,n3,c3,A4,n4,c4,A5,n5,c5,rfl,hS1,hS2,H⟩:=q0z H (i:=6) rfl
 refine (En Tryz.func76) ?_
 refine R ((A) (Z (Y (R ((V) ((NI H 0) fun hl1=>(V) (Z ?_)))))))
 refine (bb hr fun q1 hq1 hr=>?_)
 let d1:List Value:=[.string a1_1.Name,.string a1_1.Left,.slice A3 n3 c3,.bool a1_1.Literal,.slice A4 n4 c4,.slice A5 n5 c5]
 refine (lF hq1 (fun k1 _ _=>[(0,.slice A0' n0' c0'),(1,.func (.func 44) #[] #[pB b1_0p,pB b1_1p]),(7,zN a0.length),(8,zN k1)]) (fun _ _ w=>HL F0 [] w0 w [Pr.S a0 (.slice A0' n0' c0'),Pr.A b1_0p 0 [.slice A1 n1 c1,.slice A2 n2 c2],Pr.R a1_0 [.slice A1 n1 c1,.slice A2 n2 c2],Pr.S a1_0.Symbols (.slice A1 n1 c1),Pr.S a1_0.Rules (.slice A2 n2 c2),Pr.A b1_1p 0 d1,Pr.R a1_1 d1,Pr.S a1_1.Right (.slice A3 n3 c3),Pr.S a1_1.Equations (.slice A4 n4 c4),Pr.S a1_1.Contributions (.slice A5 n5 c5)] []) ()) ?_
 rintro k1 _ _ σ w1 hk1 hq1 H
 refine R ((B) (Z (Y ?_)))
 refine CW.condD rfl (fun h1=>?_) (fun h1=>?_)
 ·have hk2:=q0m h1
  obtain⟨x1,z1,hx1,hb1,hs1,ht1⟩:=q0y hq1 hk2
  refine K (Y ?_)
  refine CW.block (R ((V) ((A) (Z (R ((V) ((V) ((V) ?_))))))))
  obtain⟨b1,ob1,cb1,hvb1,hI1,hS3,H⟩:=q2q H (i:=0) rfl hx1
  refine (J 2 hvb1 hx1) ((LA H 10) ?_)
  refine (bb hb1 fun y1 hy1 hb1=>?_)
  refine (CA ok44 (q4R hy1 (F0:=fun q=>q < _) ⟨rfl,hI1,hS3⟩ ⟨H.rAl (i:=1) rfl,_,H.rA (i:=1) rfl,⟨_,_,rfl,(rs H 3),(rs H 4)⟩⟩ ⟨H.rAl (i:=5) rfl,_,H.rA (i:=5) rfl,⟨_,_,_,rfl,hS1,hS2,(rs H 7),(rs H 8),(rs H 9)⟩⟩)) (cE H fun w2 H=>Z (iB hb1 (fun _ hb1=>?_) fun _ hb1=>?_))
  ·exact R ((V) ((A) (Z (W2 hb1 ht1 hr))))
  ·exact K (X ((AN hk2 hl1) ((V) (Z (I2 hb1 hs1 ⟨k1+1,(),()⟩)))))
 ·obtain rfl:=q0l hq1 (q0c h1)
  have hr:=(q0s _ _ _).symm.trans hr
  exact CE (R ((A) (Z (W1 hr))))
def q0h (o0:Grammar)(o1:Rule):((List Occurrence) × Int × Int)→Option (((List Occurrence) × Int × Int) ⊕ ((List Occurrence) × Int)):=fun (s3,s4,s5)=>if s5 < (s3.length:Int) then ( grd (0≤s5) <| (s3[s5.toNat]?).bind fun x1=>(q0n x1 o0 o1).bind fun y2=>if y2=true then some (s4,s3) else grd (0≤s4) <| (s3[s4.toNat]?).bind fun x2=>grd (I64 (s4+1)) <| some ((s4+1),(List.set s3 s4.toNat x1)) ).bind fun (s6,s7)=>grd (I64 (s5+1)) <| some (.inl (s7,s6,(s5+1))) else some (.inr (s3,s4))
def q0k (a0:(List Occurrence))(o0:Grammar)(o1:Rule):Option (List Occurrence):=(q0i a0 o0 o1).bind fun y1=>if y1=(-1) then some a0 else grd (I64 (y1+1)) <| ( iterO (q0h o0 o1) (a0,y1,(y1+1)) ).bind fun (s1,s2)=>grd (0≤s2) <| grd (s2.toNat≤s1.length) <| grd (0≤s2) <| grd (s2.toNat≤(s1.take s2.toNat++List.replicate (s1.length - s2.toNat) (⟨(0:Int),(⟨#[]⟩:ByteArray)⟩:Occurrence)).length) <| some ((s1.take s2.toNat++List.replicate (s1.length - s2.toNat) (⟨(0:Int),(⟨#[]⟩:ByteArray)⟩:Occurrence)).take s2.toNat)
theorem q2H {a0}{o0}{o1}{r}(hr:q0k a0 o0 o1=some r){bo0 bo1:Nat}{Aa0:Option Addr}{na0 ca0:Nat}{Ao0_0:Option Addr}{no0_0 co0_0:Nat}{Ao0_1:Option Addr}{no0_1 co0_1:Nat}{Ao1_2:Option Addr}{no1_2 co1_2:Nat}{Ao1_4:Option Addr}{no1_4 co1_4:Nat}{Ao1_5:Option Addr}{no1_5 co1_5:Nat}(hIo1_0:o1.Name.size≤9223372036854775807)(hIo1_1:o1.Left.size≤9223372036854775807)(H:HL F0 M w0 w0 [Pr.S o0.Symbols (.slice Ao0_0 no0_0 co0_0),Pr.S o0.Rules (.slice Ao0_1 no0_1 co0_1),Pr.S o1.Right (.slice Ao1_2 no1_2 co1_2),Pr.S o1.Equations (.slice Ao1_4 no1_4 co1_4),Pr.S o1.Contributions (.slice Ao1_5 no1_5 co1_5)] [It.B bo0 31 [.slice Ao0_0 no0_0 co0_0,.slice Ao0_1 no0_1 co0_1],It.B bo1 47 [.string o1.Name,.string o1.Left,.slice Ao1_2 no1_2 co1_2,.bool o1.Literal,.slice Ao1_4 no1_4 co1_4,.slice Ao1_5 no1_5 co1_5],It.O 55 a0 (.slice Aa0 na0 ca0)]):RM 42 #[.slice Aa0 na0 ca0,.func (.func 44) #[] #[pB bo0,pB bo1]] M w0 fun v w=>∃ A0 n0 c0,v=(.slice A0 n0 c0)∧HL F0 M w0 w [] [It.B bo0 31 [.slice Ao0_0 no0_0 co0_0,.slice Ao0_1 no0_1 co0_1],It.B bo1 47 [.string o1.Name,.string o1.Left,.slice Ao1_2 no1_2 co1_2,.bool o1.Literal,.slice Ao1_4 no1_4 co1_4,.slice Ao1_5 no1_5 co1_5],It.O 55 r (.slice A0 n0 c0)]:=by
 refine (En Tryz.func42) ?_
 refine R ((A) (Z (R ((V) ((V) ?_)))))
 refine (bb hr fun y1 hy1 hr=>?_)
 refine (CA ok76 (q2P hy1 (F0:=fun q=>q < _) (ro H 2) ⟨(H.rB (i:=0) rfl).lt,_,At.blk (H.rB (i:=0) rfl),⟨_,_,rfl,(rs H 0),(rs H 1)⟩⟩ ⟨(H.rB (i:=1) rfl).lt,_,At.blk (H.rB (i:=1) rfl),⟨_,_,_,rfl,hIo1_0,hIo1_1,(rs H 2),(rs H 3),(rs H 4)⟩⟩)) (cF' H fun w1 hI1 H=>(A) (Z (Y (R ((V) ((B) (Z (iD hr (fun _ hr=>?_) fun _ hr=>?_))))))))
 ·exact R ((V) ((A) (Z (W1 hr))))
 ·refine K (Y (R ((V) ?_)))
  refine (gg hr fun hg1 hr=>(BN (Bin.add hg1)) ((A) (Z ?_)))
  refine (bb hr fun q1 hm1 hr=>?_)
  let d1:List Pr:=[Pr.S o0.Symbols (.slice Ao0_0 no0_0 co0_0),Pr.S o0.Rules (.slice Ao0_1 no0_1 co0_1),Pr.S o1.Right (.slice Ao1_2 no1_2 co1_2),Pr.S o1.Equations (.slice Ao1_4 no1_4 co1_4),Pr.S o1.Contributions (.slice Ao1_5 no1_5 co1_5)]
  let d2:It:=It.B bo1 47 [.string o1.Name,.string o1.Left,.slice Ao1_2 no1_2 co1_2,.bool o1.Literal,.slice Ao1_4 no1_4 co1_4,.slice Ao1_5 no1_5 co1_5]
  let d3:It:=It.B bo0 31 [.slice Ao0_0 no0_0 co0_0,.slice Ao0_1 no0_1 co0_1]
  refine CW.mid (fun ρ' w=>∃ (s1:List Occurrence) (s2:Int),q1=(s1,s2)∧agree ρ' [(0,.slice Aa0 na0 ca0),(5,.int .i64 s2)]∧I64 s2∧HL F0 M w0 w d1 [d3,d2,It.O 55 s1 (.slice Aa0 na0 ca0)]) ?_ ?_
  ·obtain⟨m1,hq1⟩:=q2m.1 hm1
   refine (lI hq1 (fun m1 ⟨s3,s4,s5⟩ _=>[(0,.slice Aa0 na0 ca0),(1,.func (.func 44) #[] #[pB bo0,pB bo1]),(5,.int .i64 s4),(6,.int .i64 s5)]) (fun ⟨s3,s4,s5⟩ _ w=>I64 s4∧I64 s5∧HL F0 M w0 w d1 [d3,d2,It.O 55 s3 (.slice Aa0 na0 ca0)]) ()) ?_
   rintro m1 ⟨s3,s4,s5⟩ _ σ w2 hq1 ⟨hI3,hI4,H⟩
   obtain⟨m2,z1,rfl,hb1,hs1,ht1⟩:=q4S hq1
   refine Y (R ((V) ((V) ?_)))
   have hl1:=(H.rO (i:=2) rfl).I
   refine (NN (ro H 2)) ((B) (Z (iD hb1 (fun _ hb1=>?_) fun _ hb1=>?_)))
   ·refine K ?_
    refine (bb hb1 fun q2 hm2 hb1=>Y ?_)
    refine CW.mid (fun ρ' w=>∃ (s6:Int) (s7:List Occurrence),q2=(s6,s7)∧agree ρ' [(0,.slice Aa0 na0 ca0),(1,.func (.func 44) #[] #[pB bo0,pB bo1]),(5,.int .i64 s6),(6,.int .i64 s5)]∧I64 s6∧HL F0 M w0 w d1 [d3,d2,It.O 55 s7 (.slice Aa0 na0 ca0)]) ?_ ?_
    ·refine CW.block (R ((V) ((V) ?_)))
     refine (gg hm2 fun hg2 hm2=>?_)
     refine (bb hm2 fun x1 hx1 hm2=>?_)
     obtain⟨b1,cb1,hvb1,hbb1⟩:=H.ptO (i:=2) rfl hx1
     refine WL.ev rfl rfl (Ev.ixV rfl el52 sz55 rfl hvb1 rfl hg2 (lt_of hx1)) ?_
     obtain⟨hA1,hI6,hS1,H⟩:=q1S H (i:=2) rfl hx1 hbb1
     refine WL.ev rfl rfl (Ev.lda rfl ag55 sz55 rfl hA1 rfl) ((AH ze55 H) fun b2 w3 H=>(SB H 3) fun w4 H=>Z (R ((V) ((LB H 3) ?_))))
     refine (bb hm2 fun y2 hy2 hm2=>?_)
     refine (CA ok44 (q4R hy2 (F0:=fun q=>q < _) ⟨rfl,hI6,hS1⟩ ⟨(H.rB (i:=0) rfl).lt,_,At.blk (H.rB (i:=0) rfl),⟨_,_,rfl,(rs H 0),(rs H 1)⟩⟩ ⟨(H.rB (i:=1) rfl).lt,_,At.blk (H.rB (i:=1) rfl),⟨_,_,_,rfl,hIo1_0,hIo1_1,(rs H 2),(rs H 3),(rs H 4)⟩⟩)) (cE H fun w5 H=>(N) (Z (iM hm2 (fun _ hm2=>?_) fun _ hm2=>?_)))
     ·refine R ((V) ((V) ((LB H 3) ?_)))
      refine (gg hm2 fun hg3 hm2=>?_)
      refine (bb hm2 fun x2 hx2 hm2=>?_)
      obtain⟨b3,cb3,hvb3,hbb3⟩:=H.ptO (i:=2) rfl hx2
      refine WL.ev rfl rfl (Ev.ixV rfl el52 sz55 rfl hvb3 rfl hg3 (lt_of hx2)) ?_
      refine WL.stOf (i:=2) (z:=x1) rfl rfl rfl sz55 rfl rfl rfl (fun _=>⟨rfl,hI6,hS1,rfl⟩) H rfl hbb3 (by simpa using lt_of hx2) fun w6 H=>Z (X ((V) ?_))
      exact (gg hm2 fun hg4 hm2=>(BN (Bin.add hg4)) ((A) (Z (C1 hm2))))
     ·exact K (C1 hm2)
    ·rintro ρ' w7 ⟨s6,s7,rfl,hag,hI5,H⟩
     obtain⟨σ,rfl⟩:=ofL_ex hag
     refine X ((V) ?_)
     exact (gg hb1 fun hg5 hb1=>(BN (Bin.add hg5)) ((A) (Z (I2 hb1 hs1 ⟨m2,⟨s7,s6,(s5+1)⟩,()⟩))))
   ·exact CE (C2 hb1 ht1)
  ·rintro ρ' w8 ⟨s1,s2,rfl,hag,hI2,H⟩
   obtain⟨σ,rfl⟩:=ofL_ex hag
   refine R ((V) ((V) ?_))
   refine (gg hr fun hg6 hr=>?_)
   refine (gg hr fun hg7 hr=>?_)
   obtain⟨A1,n1,c1,e2,hc1⟩:=H.subO (i:=2) rfl hg7
   refine WL.ev rfl rfl (Ev.slLV rfl el52 sz55 rfl rfl ((Int.toNat_of_nonneg hg6).symm) hc1 e2) ?_
   refine WL.clrO (i:=2) (x0:=(⟨(0:Int),(⟨#[]⟩:ByteArray)⟩:Occurrence)) rfl rfl rfl el52 sz55 ze55 (fun _=>⟨rfl,(by decide:I64 0),(by decide:(⟨#[]⟩:ByteArray).size≤9223372036854775807),rfl⟩) rfl H rfl hc1 e2 fun w9 H=>Z (R ((V) ((V) ?_)))
   refine (gg hr fun hg8 hr=>?_)
   refine (gg hr fun hg9 hr=>?_)
   obtain⟨A2,n2,c2,e3,hc2,H⟩:=H.cutO (i:=2) rfl hg9
   exact WL.ev rfl rfl (Ev.slHV rfl el52 sz55 rfl rfl ((Int.toNat_of_nonneg hg8).symm) hc2 e3) ((A) (Z (W1 hr)))
def q2j (a0:Grammar)(a1:Rule):Option (List Occurrence):=(q3k a0 a1).bind fun y1=>(q0k y1 a0 a1).bind fun y2=>some y2
theorem q8m {a0}{a1}{r}(hr:q2j a0 a1=some r){ca0}(ha0:rd F0 w0 a0 ca0){ca1}(ha1:rd F0 w0 a1 ca1):RT 19 #[.agg ca0.toArray,.agg ca1.toArray] w0 fun v w=>∃ A0 n0 c0,v=(.slice A0 n0 c0)∧HL F0 [] w0 w [] [It.O 55 r (.slice A0 n0 c0)]:=by
 have H:=((HL.start F0 w0).argR ha0).argR ha1
 obtain⟨A1,n1,c1,A2,n2,c2,rfl,H⟩:=q0e H (i:=0) rfl
 obtain⟨A3,n3,c3,A4,n4,c4,A5,n5,c5,rfl,hS1,hS2,H⟩:=q0z H (i:=1) rfl
 refine (En Tryz.func19) ?_
 refine R ((BX H) fun b1 w1 H=>(BX H) fun b2 w2 H=>(A) (Z (R ((LB H 0) ((LB H 1) ?_)))))
 refine (bb hr fun y1 hy1 hr=>?_)
 refine (CA ok43 (z0U hy1 ⟨_,_,rfl,(rs H 2),(rs H 3)⟩ ⟨_,_,_,rfl,hS1,hS2,(rs H 4),(rs H 5),(rs H 6)⟩)) ?_
 rintro _ w3 hE ⟨A6,n6,c6,rfl,H'⟩
 have H:=H.callA H' ⟨fun _ _ _ _ _ h=>h,trivial⟩
 refine WL.ev rfl rfl (Ev.mkfL rfl rfl rfl) ?_
 refine (bb hr fun y2 hy2 hr=>?_)
 obtain⟨F',M',hfF,hoF,hcM⟩:=H.callN [true,true,true] ⟨noB,noB,noO,trivial⟩
 obtain⟨H',hcN⟩:=hcM (ps:=[Pr.S a0.Symbols (.slice A1 n1 c1),Pr.S a0.Rules (.slice A2 n2 c2),Pr.S a1.Right (.slice A3 n3 c3),Pr.S a1.Equations (.slice A4 n4 c4),Pr.S a1.Contributions (.slice A5 n5 c5)]) ⟨hfF.get (i:=2) rfl,hfF.get (i:=3) rfl,hfF.get (i:=4) rfl,hfF.get (i:=5) rfl,hfF.get (i:=6) rfl,trivial⟩
 refine (CA ok42 (q2H hy2 hS1 hS2 H')) ?_
 rintro _ w4 hE ⟨A7,n7,c7,rfl,H'⟩
 have H:=hcN 3 H' rfl ⟨fun _ _ _ _ _ h=>h,⟨fun _ _ _ _ _ h=>h,⟨fun _ _ _ _ _ h=>h,trivial⟩⟩⟩
 exact (A) (Z (W1 hr))
def q7r (a0:Occurrence)(a1:(List Occurrence)):Option Bool:=(q0o a1 a0).bind fun y1=>some y1
theorem z4h {a0}{a1}{r}(hr:q7r a0 a1=some r){ca0}(ha0:rd F0 w0 a0 ca0){b1p:Nat}(ha1:CapP F0 w0 b1p a1):RT 84 #[.agg ca0.toArray,pB b1p] w0 fun v w=>v = .bool r:=by
 have H:=(HL.start F0 w0).argR ha0
 obtain⟨rfl,hI1,hS1,H⟩:=q0H H (i:=0) rfl
 obtain⟨cpa1,H⟩:=H.argP ha1
 obtain⟨A1,n1,c1,rfl,H⟩:=op_Sl H (i:=2) rfl
 refine (En Tryz.func84) ?_
 refine R ((BX H) fun b1 w1 H=>(A) (Z (R ((L0 H 1) ((LB H 0) ?_)))))
 refine (bb hr fun y1 hy1 hr=>?_)
 exact (CA ok20 (q2A hy1 (rs H 3) ⟨rfl,hI1,hS1⟩)) (cE H fun w2 H=>(A) (Z (W1 hr)))
def q0j (a1_0:(List Occurrence)):Nat→Occurrence→Unit→Option (Unit ⊕ Int):=fun k1 x1 _=>(q7r x1 a1_0).bind fun y1=>if y1=true then some (.inr (k1:Int)) else some (.inl ())
def q1l (a0 a1_0:(List Occurrence)):Option Int:=(findL (q0j a1_0) 0 a0 ()).bind <| onr (fun r1=>some r1) fun _=>some (-1)
theorem q4e {a0 a1_0}{r}(hr:q1l a0 a1_0=some r){z0}(ha0:rdS F0 w0 a0 z0){b1_0p:Nat}(ha1_0:CapP F0 w0 b1_0p a1_0):RT 76 #[z0,.func (.func 84) #[] #[pB b1_0p]] w0 fun v w=>v = .int .i64 r∧I64 r:=by
 obtain⟨A0',n0',c0',rfl⟩:=ha0.form3
 have H:=(HL.start F0 w0).argS ha0
 obtain⟨cpa1_0,H⟩:=H.argP ha1_0
 obtain⟨A1,n1,c1,rfl,H⟩:=op_Sl H (i:=2) rfl
 refine (En Tryz.func76) ?_
 refine R ((A) (Z (Y (R ((V) ((NI H 0) fun hl1=>(V) (Z ?_)))))))
 refine (bb hr fun q1 hq1 hr=>?_)
 refine (lF hq1 (fun k1 _ _=>[(0,.slice A0' n0' c0'),(1,.func (.func 84) #[] #[pB b1_0p]),(7,zN a0.length),(8,zN k1)]) (fun _ _ w=>HL F0 [] w0 w [Pr.S a0 (.slice A0' n0' c0'),Pr.A b1_0p 0 [.slice A1 n1 c1],Pr.R a1_0 [.slice A1 n1 c1],Pr.S a1_0 (.slice A1 n1 c1)] []) ()) ?_
 rintro k1 _ _ σ w1 hk1 hq1 H
 refine R ((B) (Z (Y ?_)))
 refine CW.condD rfl (fun h1=>?_) (fun h1=>?_)
 ·have hk2:=q0m h1
  obtain⟨x1,z1,hx1,hb1,hs1,ht1⟩:=q0y hq1 hk2
  refine K (Y ?_)
  refine CW.block (R ((V) ((A) (Z (R ((V) ((V) ((V) ?_))))))))
  obtain⟨b1,ob1,cb1,hvb1,hI1,hS1,H⟩:=q2q H (i:=0) rfl hx1
  refine (J 2 hvb1 hx1) ((LA H 4) ?_)
  refine (bb hb1 fun y1 hy1 hb1=>?_)
  refine (CA ok84 (z4h hy1 (F0:=fun q=>q < _) ⟨rfl,hI1,hS1⟩ ⟨H.rAl (i:=1) rfl,_,H.rA (i:=1) rfl,⟨_,rfl,(rs H 3)⟩⟩)) (cE H fun w2 H=>Z (iB hb1 (fun _ hb1=>?_) fun _ hb1=>?_))
  ·exact R ((V) ((A) (Z (W2 hb1 ht1 hr))))
  ·exact K (X ((AN hk2 hl1) ((V) (Z (I2 hb1 hs1 ⟨k1+1,(),()⟩)))))
 ·obtain rfl:=q0l hq1 (q0c h1)
  have hr:=(q0s _ _ _).symm.trans hr
  exact CE (R ((A) (Z (W1 hr))))
def q0B (a0 a1_0:(List Occurrence)):Option Bool:=(q1l a0 a1_0).bind fun y1=>some (decide (0≤y1))
theorem q3E {a0 a1_0}{r}(hr:q0B a0 a1_0=some r){z0}(ha0:rdS F0 w0 a0 z0){b1_0p:Nat}(ha1_0:CapP F0 w0 b1_0p a1_0):RT 82 #[z0,.func (.func 84) #[] #[pB b1_0p]] w0 fun v w=>v = .bool r:=by
 obtain⟨A0',n0',c0',rfl⟩:=ha0.form3
 have H:=(HL.start F0 w0).argS ha0
 obtain⟨cpa1_0,H⟩:=H.argP ha1_0
 obtain⟨A1,n1,c1,rfl,H⟩:=op_Sl H (i:=2) rfl
 refine (En Tryz.func82) ?_
 refine R ((A) (Z (R ((V) ((V) ?_)))))
 refine (bb hr fun y1 hy1 hr=>?_)
 exact (CA ok76 (q4e hy1 (F0:=fun q=>q < _) (rs H 0) ⟨H.rAl (i:=1) rfl,_,H.rA (i:=1) rfl,⟨_,rfl,(rs H 3)⟩⟩)) (cF' H fun w1 hI1 H=>(B) ((A) (Z (W1 hr))))
def q5M (a0:Expr)(a1:(List Occurrence)):Option Bool:=(q3W a0).bind fun y1=>(q0B y1 a1).bind fun y2=>some y2
theorem q8n {a0}{a1}{r}(hr:q5M a0 a1=some r){ca0}(ha0:rd F0 w0 a0 ca0){z1}(ha1:rdS F0 w0 a1 z1):RT 47 #[.agg ca0.toArray,z1] w0 fun v w=>v = .bool r:=by
 obtain⟨A1',n1',c1',rfl⟩:=ha1.form3
 have H:=((HL.start F0 w0).argR ha0).argS ha1
 obtain⟨A1,n1,c1,rfl,hI1,hI2,hI3,hI4,hS1,hS2,H⟩:=q0X H (i:=0) rfl
 refine (En Tryz.func47) ?_
 refine R ((BX H) fun b1 w1 H=>(BX H) fun b2 w2 H=>(A) (Z (R ((LB H 0) ?_))))
 refine (bb hr fun y1 hy1 hr=>?_)
 refine (CA ok83 (q7L hy1 (q0b.2 ⟨_,rfl,hI1,hI2,hI3,hI4,hS1,hS2,(rs H 2)⟩))) ?_
 rintro _ w3 hE ⟨A2,n2,c2,rfl,H'⟩
 have H:=H.callA H' ⟨fun _ _ _ _ _ h=>h,trivial⟩
 refine WL.ev rfl rfl (Ev.mkfL rfl rfl rfl) ?_
 refine (bb hr fun y2 hy2 hr=>?_)
 exact (CA ok82 (q3E hy2 (F0:=fun q=>q < _) (ro H 2) ⟨(H.rB (i:=1) rfl).lt,_,At.blk (H.rB (i:=1) rfl),⟨_,rfl,(rs H 1)⟩⟩)) (cE H fun w4 H=>(A) (Z (W1 hr)))
def q6D (rec_iIsMonotone:Expr→(List Occurrence)→Option Bool)(a0:Expr)(a1:(List Occurrence)):Option Bool:=(q5M a0 a1).bind fun y1=>( if y1=true then some (decide (a0.Kind=3)) else some true ).bind fun s1=>if s1=true then some true else ( if a0.Kind=4 then some (decide ((a0.Args.length:Int)=2)) else some false ).bind fun s2=>if s2=true then ( if a0.N=6 then some (decide (a0.N=6)) else some (decide (a0.N=7)) ).bind fun s3=>if s3=true then (a0.Args[0]?).bind fun x1=>(rec_iIsMonotone x1 a1).bind fun y2=>( if y2=true then (a0.Args[1]?).bind fun x2=>(rec_iIsMonotone x2 a1).bind fun y3=>some y3 else some false ).bind fun s4=>some s4 else if a0.N=8 then if a0.N=8 then (a0.Args[0]?).bind fun x3=>(rec_iIsMonotone x3 a1).bind fun y4=>( if y4=true then (a0.Args[1]?).bind fun x4=>(q5M x4 a1).bind fun y5=>some (!y5) else some false ).bind fun s5=>some s5 else some false else if a0.N=12 then (a0.Args[0]?).bind fun x5=>(rec_iIsMonotone x5 a1).bind fun y6=>if y6=true then (a0.Args[1]?).bind fun x6=>(q5M x6 a1).bind fun y7=>some (!y7) else some false else some false else ( if a0.Kind=5 then some (decide ((a0.Args.length:Int)=3)) else some false ).bind fun s6=>if s6=true then (a0.Args[0]?).bind fun x7=>(q5M x7 a1).bind fun y8=>( if y8=true then some false else (a0.Args[1]?).bind fun x8=>(rec_iIsMonotone x8 a1).bind fun y9=>some y9 ).bind fun s7=>( if s7=true then (a0.Args[2]?).bind fun x9=>(rec_iIsMonotone x9 a1).bind fun y10=>some y10 else some false ).bind fun s8=>some s8 else some false
theorem z2G {rec_iIsMonotone:Expr→(List Occurrence)→Option Bool}(ih_iIsMonotone:∀ {a0:Expr}{a1:(List Occurrence)}{r:Bool},rec_iIsMonotone a0 a1=some r→∀ {F0:Nat→Prop}{w0:World}{ca0}(ha0:rd F0 w0 a0 ca0){z1}(ha1:rdS F0 w0 a1 z1),RT 21 #[.agg ca0.toArray,z1] w0 fun v w=>v = .bool r){a0}{a1}{r}(hr:q6D rec_iIsMonotone a0 a1=some r){ca0}(ha0:rd F0 w0 a0 ca0){z1}(ha1:rdS F0 w0 a1 z1):RT 21 #[.agg ca0.toArray,z1] w0 fun v w=>v = .bool r:=by
 obtain⟨A1',n1',c1',rfl⟩:=ha1.form3
 have H:=((HL.start F0 w0).argR ha0).argS ha1
 obtain⟨A1,n1,c1,rfl,hI1,hI2,hI3,hI4,hS1,hS2,H⟩:=q0X H (i:=0) rfl
 refine (En Tryz.func21) ?_
 refine R ((BX H) fun b1 w1 H=>(A) (Z (Y (R ((LB H 0) ((V) ?_))))))
 refine (bb hr fun y1 hy1 hr=>?_)
 refine (CA ok47 (q8n hy1 (q0b.2 ⟨_,rfl,hI1,hI2,hI3,hI4,hS1,hS2,(rs H 2)⟩) (rs H 1))) (cE H fun w2 H=>(N) ?_)
 refine (bb hr fun q1 hm1 hr=>?_)
 let d1:List Value:=[.int .i64 a0.Kind,.int .i64 a0.N,.int .i64 a0.Pos,.int .i64 a0.Type_,.string a0.Symbol,.string a0.Name,.slice A1 n1 c1]
 let d7:Pr:=Pr.S a0.Args (.slice A1 n1 c1)
 let d8:Pr:=Pr.S a1 (.slice A1' n1' c1')
 let d3:List Pr:=[Pr.R a0 d1,d8,d7]
 refine cu H 5 [(1,.slice A1' n1' c1'),(2,pB b1),(13,.bool q1)] d3 [It.B b1 58 d1] ?_ fun σ w3 H=>?_
 ·refine jM hm1 (fun _ hm1=>?_) fun _ hm1=>?_
  ·exact (O) ((O) ((O) ((T) (Z (C1 hm1)))))
  ·exact (G) ((D 0) ((G) ((L H 0) ((G) ((B) ((U) (Z (C1 hm1))))))))
 ·refine Z (iB hr (fun _ hr=>?_) fun _ hr=>?_)
  ·exact R ((A) (Z (W1 hr)))
  ·refine K (Y ?_)
   refine CW.block (R ((D 0) ((L H 0) ((B) ?_))))
   refine (bb hr fun q2 hm2 hr=>?_)
   refine cu H 6 [(1,.slice A1' n1' c1'),(2,pB b1),(23,.bool q2)] d3 [It.B b1 58 d1] ?_ fun σ w4 H=>?_
   ·refine jD hm2 (fun _ hm2=>?_) fun _ hm2=>?_
    ·exact (G) ((D 6) ((G) ((L H 0) ((G) ((NI H 2) fun hl1=>(G) ((B) ((T) (Z (C1 hm2)))))))))
    ·exact (O) ((O) ((O) ((O) ((U) (Z (C1 hm2))))))
   ·refine (A) (Z (iB hr (fun _ hr=>?_) fun _ hr=>?_))
    ·refine R ((D 1) ((L H 0) (Z ?_)))
     refine CW.block (Y (R ((B) ((A) (Z ?_)))))
     refine (bb hr fun q3 hm3 hr=>?_)
     refine cm H [(1,.slice A1' n1' c1'),(2,pB b1),(25,.int .i64 a0.N),(26,.bool q3)] d3 [It.B b1 58 d1] ?_ fun σ w5 H=>?_
     ·refine iD hm3 (fun _ hm3=>?_) fun _ hm3=>?_
      ·exact K (C1 hm3)
      ·exact X ((B) ((A) (Z (C1 hm3))))
     ·refine iB hr (fun _ hr=>?_) fun _ hr=>?_
      ·refine R ((D 6) ((L H 0) ?_))
       refine (bb hr fun x1 hx1 hr=>?_)
       obtain⟨b2,ob2,cb2,A2,n2,c2,hvb2,hI5,hI6,hI7,hI8,hS3,hS4,H⟩:=q0u H (i:=2) rfl hx1
       refine (J 7 hvb2 hx1) ((LA H 3) ((V) ?_))
       refine (bb hr fun y2 hy2 hr=>?_)
       refine (CA ok21 (ih_iIsMonotone hy2 (q0b.2 ⟨_,rfl,hI5,hI6,hI7,hI8,hS3,hS4,(rs H 5)⟩) (rs H 1))) (cE H fun w6 H=>?_)
       refine (bb hr fun q4 hm4 hr=>?_)
       let d4:List Value:=[.int .i64 x1.Kind,.int .i64 x1.N,.int .i64 x1.Pos,.int .i64 x1.Type_,.string x1.Symbol,.string x1.Name,.slice A2 n2 c2]
       refine cu H 8 [(42,.bool q4)] [Pr.R a0 d1,d8,d7,Pr.A b2 (ob2+0*7) d4,Pr.R x1 d4,Pr.S x1.Args (.slice A2 n2 c2)] [It.B b1 58 d1] ?_ fun σ w8 H=>?_
       ·refine jB hm4 (fun _ hm4=>?_) fun _ hm4=>?_
        ·refine (G) ((D 6) ((G) ((L H 0) ((G) ?_))))
         refine (bb hm4 fun x2 hx2 hm4=>?_)
         obtain⟨b3,ob3,cb3,A3,n3,c3,hvb3,hI9,hI10,hI11,hI12,hS5,hS6,H⟩:=q0u H (i:=2) rfl hx2
         refine (J 7 hvb3 hx2) ((G) ((LA H 6) ((G) ((V) ((G) ?_)))))
         refine (bb hm4 fun y3 hy3 hm4=>?_)
         exact (CA ok21 (ih_iIsMonotone hy3 (q0b.2 ⟨_,rfl,hI9,hI10,hI11,hI12,hS5,hS6,(rs H 8)⟩) (rs H 1))) (cE H fun w7 H=>(T) (Z (C1 hm4)))
        ·exact (O) ((O) ((O) ((O) ((O) ((O) ((U) (Z (C1 hm4))))))))
       ·exact (A) (Z (W1 hr))
      ·refine Y (R ((B) ((A) (Z (iD hr (fun _ hr=>?_) fun _ hr=>?_)))))
       ·refine K (iD hr (fun _ hr=>?_) fun _ hr=>?_)
        ·refine R ((D 6) ((L H 0) ?_))
         refine (bb hr fun x3 hx3 hr=>?_)
         obtain⟨b4,ob4,cb4,A4,n4,c4,hvb4,hI13,hI14,hI15,hI16,hS7,hS8,H⟩:=q0u H (i:=2) rfl hx3
         refine (J 7 hvb4 hx3) ((LA H 3) ((V) ?_))
         refine (bb hr fun y4 hy4 hr=>?_)
         refine (CA ok21 (ih_iIsMonotone hy4 (q0b.2 ⟨_,rfl,hI13,hI14,hI15,hI16,hS7,hS8,(rs H 5)⟩) (rs H 1))) (cE H fun w9 H=>?_)
         refine (bb hr fun q5 hm5 hr=>?_)
         let d6:List Value:=[.int .i64 x3.Kind,.int .i64 x3.N,.int .i64 x3.Pos,.int .i64 x3.Type_,.string x3.Symbol,.string x3.Name,.slice A4 n4 c4]
         refine cu H 9 [(60,.bool q5)] [Pr.R a0 d1,d8,d7,Pr.A b4 (ob4+0*7) d6,Pr.R x3 d6,Pr.S x3.Args (.slice A4 n4 c4)] [It.B b1 58 d1] ?_ fun σ w11 H=>?_
         ·refine jB hm5 (fun _ hm5=>?_) fun _ hm5=>?_
          ·refine (G) ((D 6) ((G) ((L H 0) ((G) ?_))))
           refine (bb hm5 fun x4 hx4 hm5=>?_)
           obtain⟨b5,ob5,cb5,A5,n5,c5,hvb5,hI17,hI18,hI19,hI20,hS9,hS10,H⟩:=q0u H (i:=2) rfl hx4
           refine (J 7 hvb5 hx4) ((G) ((LA H 6) ((G) ((V) ((G) ?_)))))
           refine (bb hm5 fun y5 hy5 hm5=>?_)
           exact (CA ok47 (q8n hy5 (q0b.2 ⟨_,rfl,hI17,hI18,hI19,hI20,hS9,hS10,(rs H 8)⟩) (rs H 1))) (cE H fun w10 H=>(G) ((N) ((T) (Z (C1 hm5)))))
          ·exact (O) ((O) ((O) ((O) ((O) ((O) ((O) ((U) (Z (C1 hm5)))))))))
         ·exact (A) (Z (W1 hr))
        ·exact K (R ((A) (Z (W1 hr))))
       ·refine X ((B) ((A) (Z (iD hr (fun _ hr=>?_) fun _ hr=>?_))))
        ·refine R ((D 6) ((L H 0) ?_))
         refine (bb hr fun x5 hx5 hr=>?_)
         obtain⟨b6,ob6,cb6,A6,n6,c6,hvb6,hI21,hI22,hI23,hI24,hS11,hS12,H⟩:=q0u H (i:=2) rfl hx5
         refine (J 7 hvb6 hx5) ((LA H 3) ((V) ?_))
         refine (bb hr fun y6 hy6 hr=>?_)
         refine (CA ok21 (ih_iIsMonotone hy6 (q0b.2 ⟨_,rfl,hI21,hI22,hI23,hI24,hS11,hS12,(rs H 5)⟩) (rs H 1))) (cE H fun w12 H=>jB hr (fun _ hr=>?_) fun _ hr=>?_)
         ·refine (G) ((D 6) ((G) ((L H 0) ((G) ?_))))
          refine (bb hr fun x6 hx6 hr=>?_)
          obtain⟨b7,ob7,cb7,A7,n7,c7,hvb7,hI25,hI26,hI27,hI28,hS13,hS14,H⟩:=q0u H (i:=2) rfl hx6
          refine (J 7 hvb7 hx6) ((G) ((LA H 6) ((G) ((V) ((G) ?_)))))
          refine (bb hr fun y7 hy7 hr=>?_)
          exact (CA ok47 (q8n hy7 (q0b.2 ⟨_,rfl,hI25,hI26,hI27,hI28,hS13,hS14,(rs H 8)⟩) (rs H 1))) (cE H fun w13 H=>(G) ((N) ((T) ((A) (Z (W1 hr))))))
         ·exact (O) ((O) ((O) ((O) ((O) ((O) ((O) ((U) ((A) (Z (W1 hr))))))))))
        ·exact K (R ((A) (Z (W1 hr))))
    ·refine R ((D 0) ((L H 0) ((B) ?_)))
     refine (bb hr fun q6 hm6 hr=>?_)
     refine cu H 6 [(1,.slice A1' n1' c1'),(2,pB b1),(70,.bool q6)] d3 [It.B b1 58 d1] ?_ fun σ w14 H=>?_
     ·refine jD hm6 (fun _ hm6=>?_) fun _ hm6=>?_
      ·exact (G) ((D 6) ((G) ((L H 0) ((G) ((NI H 2) fun hl2=>(G) ((B) ((T) (Z (C1 hm6)))))))))
      ·exact (O) ((O) ((O) ((O) ((U) (Z (C1 hm6))))))
     ·refine (A) (Z (iB hr (fun _ hr=>?_) fun _ hr=>?_))
      ·refine R ((D 6) ((L H 0) ?_))
       refine (bb hr fun x7 hx7 hr=>?_)
       obtain⟨b8,ob8,cb8,A8,n8,c8,hvb8,hI29,hI30,hI31,hI32,hS15,hS16,H⟩:=q0u H (i:=2) rfl hx7
       refine (J 7 hvb8 hx7) ((LA H 3) ((V) ?_))
       refine (bb hr fun y8 hy8 hr=>?_)
       refine (CA ok47 (q8n hy8 (q0b.2 ⟨_,rfl,hI29,hI30,hI31,hI32,hS15,hS16,(rs H 5)⟩) (rs H 1))) (cE H fun w15 H=>(N) ?_)
       refine (bb hr fun q7 hm7 hr=>?_)
       let d5:List Value:=[.int .i64 x7.Kind,.int .i64 x7.N,.int .i64 x7.Pos,.int .i64 x7.Type_,.string x7.Symbol,.string x7.Name,.slice A8 n8 c8]
       let d2:List Pr:=[Pr.R a0 d1,d8,d7,Pr.A b8 (ob8+0*7) d5,Pr.R x7 d5,Pr.S x7.Args (.slice A8 n8 c8)]
       refine cu H 8 [(1,.slice A1' n1' c1'),(2,pB b1),(85,.bool q7)] d2 [It.B b1 58 d1] ?_ fun σ w17 H=>?_
       ·refine jM hm7 (fun _ hm7=>?_) fun _ hm7=>?_
        ·refine (G) ((D 6) ((G) ((L H 0) ((G) ?_))))
         refine (bb hm7 fun x8 hx8 hm7=>?_)
         obtain⟨b9,ob9,cb9,A9,n9,c9,hvb9,hI33,hI34,hI35,hI36,hS17,hS18,H⟩:=q0u H (i:=2) rfl hx8
         refine (J 7 hvb9 hx8) ((G) ((LA H 6) ((G) ((V) ((G) ?_)))))
         refine (bb hm7 fun y9 hy9 hm7=>?_)
         exact (CA ok21 (ih_iIsMonotone hy9 (q0b.2 ⟨_,rfl,hI33,hI34,hI35,hI36,hS17,hS18,(rs H 8)⟩) (rs H 1))) (cE H fun w16 H=>(T) (Z (C1 hm7)))
        ·exact (O) ((O) ((O) ((O) ((O) ((O) ((U) (Z (C1 hm7))))))))
       ·refine (bb hr fun q8 hm8 hr=>?_)
        refine cu H 8 [(93,.bool q8)] d2 [It.B b1 58 d1] ?_ fun σ w19 H=>?_
        ·refine jB hm8 (fun _ hm8=>?_) fun _ hm8=>?_
         ·refine (G) ((D 6) ((G) ((L H 0) ((G) ?_))))
          refine (bb hm8 fun x9 hx9 hm8=>?_)
          obtain⟨b10,ob10,cb10,A10,n10,c10,hvb10,hI37,hI38,hI39,hI40,hS19,hS20,H⟩:=q0u H (i:=2) rfl hx9
          refine (J 7 hvb10 hx9) ((G) ((LA H 6) ((G) ((V) ((G) ?_)))))
          refine (bb hm8 fun y10 hy10 hm8=>?_)
          exact (CA ok21 (ih_iIsMonotone hy10 (q0b.2 ⟨_,rfl,hI37,hI38,hI39,hI40,hS19,hS20,(rs H 8)⟩) (rs H 1))) (cE H fun w18 H=>(T) (Z (C1 hm8)))
         ·exact (O) ((O) ((O) ((O) ((O) ((O) ((U) (Z (C1 hm8))))))))
        ·exact (A) (Z (W1 hr))
      ·exact K (R ((A) (Z (W1 hr))))
def q4E:Nat→Expr→(List Occurrence)→Option Bool
  | 0,_,_=>none
  | n+1,a0,a1=>q6D (q4E n) a0 a1
def q8o (a0:Expr)(a1:(List Occurrence)):Option Bool:=recO fun n=>q4E n a0 a1
theorem z2H (n:Nat):∀ {a0:Expr}{a1:(List Occurrence)}{r:Bool},q4E n a0 a1=some r→∀ {F0:Nat→Prop}{w0:World}{ca0}(ha0:rd F0 w0 a0 ca0){z1}(ha1:rdS F0 w0 a1 z1),RT 21 #[.agg ca0.toArray,z1] w0 fun v w=>v = .bool r:=by
 induction n with
 | zero=>intro a0 a1 r hr; exact nomatch (show (none:Option Bool)=some r from hr)
 | succ n ih=>intro a0 a1 r hr; exact z2G ih hr
theorem z3m {a0}{a1}{r}(hr:q8o a0 a1=some r){ca0}(ha0:rd F0 w0 a0 ca0){z1}(ha1:rdS F0 w0 a1 z1):RT 21 #[.agg ca0.toArray,z1] w0 fun v w=>v = .bool r:=by
 obtain⟨n,hn⟩:=q2f hr
 exact z2H n hn ha0 ha1
def q8y (y4:(List Occurrence)):Nat→Equation→Unit→Option (Unit ⊕ Bool):=fun k2 x2 _=>(q0o y4 x2.At).bind fun y5=>if y5=true then (q8o x2.Expr y4).bind fun y6=>if y6=true then some (.inl ()) else some (.inr false) else some (.inl ())
def q8z (a0:Grammar):Nat→Rule→Unit→Option (Unit ⊕ Bool):=fun k1 x1 _=>(q2j a0 x1).bind fun y4=>(findL (q8y y4) 0 x1.Equations ()).bind <| onr (fun r1=>some (.inr r1)) fun _=>some (.inl ())
def q4t (a0:Grammar):Option Bool:=(q8l a0).bind fun y1=>( if y1=true then (q7q a0).bind fun y2=>some y2 else some true ).bind fun s1=>( if s1=true then some true else (q1P a0).bind fun y3=>some y3 ).bind fun s2=>if s2=true then some false else (findL (q8z a0) 0 a0.Rules ()).bind <| onr (fun r2=>some r2) fun _=>some true
theorem z1E {a0}{r}(hr:q4t a0=some r){ca0}(ha0:rd F0 w0 a0 ca0):RT 7 #[.agg ca0.toArray] w0 fun v w=>v = .bool r:=by
 have H:=(HL.start F0 w0).argR ha0
 obtain⟨A1,n1,c1,A2,n2,c2,rfl,H⟩:=q0e H (i:=0) rfl
 refine (En Tryz.func7) ?_
 refine R ((BX H) fun b1 w1 H=>(A) (Z (Y (R ((LB H 0) ?_)))))
 refine (bb hr fun y1 hy1 hr=>?_)
 refine (CA ok15 (z4T hy1 ⟨_,_,rfl,(rs H 1),(rs H 2)⟩)) (cE H fun w2 H=>(N) ?_)
 refine (bb hr fun q1 hm1 hr=>?_)
 let d3:List Value:=[.slice A1 n1 c1,.slice A2 n2 c2]
 let d1:List Pr:=[Pr.R a0 d3,Pr.S a0.Symbols (.slice A1 n1 c1),Pr.S a0.Rules (.slice A2 n2 c2)]
 refine cu H 4 [(1,pB b1),(14,.bool q1)] d1 [It.B b1 31 d3] ?_ fun σ w4 H=>?_
 ·refine jM hm1 (fun _ hm1=>?_) fun _ hm1=>?_
  ·exact (O) ((O) ((T) (Z (C1 hm1))))
  ·refine (G) ((LB H 0) ((G) ?_))
   refine (bb hm1 fun y2 hy2 hm1=>?_)
   exact (CA ok16 (z4g hy2 ⟨_,_,rfl,(rs H 1),(rs H 2)⟩)) (cE H fun w3 H=>(U) (Z (C1 hm1)))
 ·refine (bb hr fun q2 hm2 hr=>?_)
  refine cu H 4 [(1,pB b1),(18,.bool q2)] d1 [It.B b1 31 d3] ?_ fun σ w6 H=>?_
  ·refine jB hm2 (fun _ hm2=>?_) fun _ hm2=>?_
   ·exact (O) ((O) ((T) (Z (C1 hm2))))
   ·refine (G) ((LB H 0) ((G) ?_))
    refine (bb hm2 fun y3 hy3 hm2=>?_)
    exact (CA ok17 (q6j hy3 (F0:=fun q=>q < _) ⟨_,_,rfl,(rs H 1),(rs H 2)⟩)) (cE H fun w5 H=>(U) (Z (C1 hm2)))
  ·refine Z (iB hr (fun _ hr=>?_) fun _ hr=>?_)
   ·exact R ((A) (Z (W1 hr)))
   ·refine K (Y (R ((D 1) ((L H 0) ((NI H 2) fun hl1=>(V) (Z ?_))))))
    refine (bb hr fun q3 hq1 hr=>?_)
    refine (lF hq1 (fun k1 _ _=>[(1,pB b1),(20,.slice A2 n2 c2),(21,zN a0.Rules.length),(22,zN k1)]) (fun _ _ w=>HL F0 [] w0 w d1 [It.B b1 31 d3]) ()) ?_
    rintro k1 _ _ σ w7 hk1 hq1 H
    refine R ((B) (Z (Y ?_)))
    refine CW.condD rfl (fun h4=>?_) (fun h4=>?_)
    ·have hk2:=q0m h4
     obtain⟨x1,z1,hx1,hb1,hs1,ht1⟩:=q0y hq1 hk2
     refine K (Y ?_)
     refine CW.block (R ?_)
     obtain⟨b2,ob2,cb2,A3,n3,c3,A4,n4,c4,A5,n5,c5,hvb2,hS1,hS2,H⟩:=q4W H (i:=2) rfl hx1
     refine (J 6 hvb2 hx1) ((LA H 3) ((AH ze47 H) fun b3 w8 H=>(SB H 1) fun w9 H=>Z (R ((LB H 0) ((LB H 1) ?_)))))
     refine (bb hb1 fun y4 hy4 hb1=>?_)
     refine (CA ok19 (q8m hy4 ⟨_,_,rfl,(rs H 1),(rs H 2)⟩ ⟨_,_,_,rfl,hS1,hS2,(rs H 5),(rs H 6),(rs H 7)⟩)) ?_
     rintro _ w10 hE ⟨A6,n6,c6,rfl,H'⟩
     have H:=H.callA H' ⟨fun _ _ _ _ _ h=>h,trivial⟩
     refine (A) (Z (R ((D 4) ((L H 1) ((NI H 6) fun hl2=>(V) (Z ?_))))))
     refine (bb hb1 fun q4 hq2 hb1=>?_)
     let d2:List Value:=[.string x1.Name,.string x1.Left,.slice A3 n3 c3,.bool x1.Literal,.slice A4 n4 c4,.slice A5 n5 c5]
     refine (lF hq2 (fun k2 _ _=>[(1,pB b1),(5,.slice A6 n6 c6),(20,.slice A2 n2 c2),(21,zN a0.Rules.length),(22,zN k1),(30,.slice A4 n4 c4),(31,zN x1.Equations.length),(32,zN k2)]) (fun _ _ w=>HL F0 [] w0 w [Pr.R a0 d3,Pr.S a0.Symbols (.slice A1 n1 c1),Pr.S a0.Rules (.slice A2 n2 c2),Pr.A b2 (ob2+k1*6) d2,Pr.R x1 d2,Pr.S x1.Right (.slice A3 n3 c3),Pr.S x1.Equations (.slice A4 n4 c4),Pr.S x1.Contributions (.slice A5 n5 c5)] [It.B b1 31 d3,It.B b3 47 d2,It.O 55 y4 (.slice A6 n6 c6)]) ()) ?_
     rintro k2 _ _ σ w11 hk3 hq2 H
     refine R ((B) (Z (Y ?_)))
     refine CW.condD rfl (fun h5=>?_) (fun h5=>?_)
     ·have hk4:=q0m h5
      obtain⟨x2,z2,hx2,hb2,hs2,ht2⟩:=q0y hq2 hk4
      refine K (Y ?_)
      refine CW.block (R ?_)
      obtain⟨b4,ob4,cb4,A7,n7,c7,hvb4,hI1,hS3,hI2,hI3,hI4,hI5,hS4,hS5,H⟩:=q1B H (i:=6) rfl hx2
      refine (J 9 hvb4 hx2) ((LA H 8) ((AH ze60 H) fun b5 w12 H=>(SB H 3) fun w13 H=>Z (R ((V) ((D 0) ?_)))))
      refine WL.ev rfl rfl (Ev.lda rfl ag55 sz55 rfl (Blk.part (H.rB (i:=3) rfl) 0 2) rfl) ?_
      refine (bb hb2 fun y5 hy5 hb2=>?_)
      refine (CA ok20 (q2A hy5 (ro H 2) ⟨rfl,hI1,hS3⟩)) (cE H fun w14 H=>jB hb2 (fun _ hb2=>?_) fun _ hb2=>?_)
      ·refine (G) ((D 2) ((G) ?_))
       refine WL.ev rfl rfl (Ev.lda rfl ag58 sz58 rfl (Blk.part (H.rB (i:=3) rfl) 2 7) rfl) ((G) ((V) ((G) ?_)))
       refine (bb hb2 fun y6 hy6 hb2=>?_)
       refine (CA ok21 (z3m hy6 (q0b.2 ⟨_,rfl,hI2,hI3,hI4,hI5,hS4,hS5,(rs H 10)⟩) (ro H 2))) (cE H fun w15 H=>(G) ((N) ((T) (Z (iM hb2 (fun _ hb2=>?_) fun _ hb2=>?_)))))
       ·exact R ((A) (Z (W3 hb2 ht2 hb1 ht1 hr)))
       ·exact K (X ((AN hk4 hl2) ((V) (Z (I2 hb2 hs2 ⟨k2+1,(),()⟩)))))
      ·exact (O) ((O) ((O) ((O) ((O) ((U) (Z ((cF) (K (X ((AN hk4 hl2) ((V) (Z (I2 hb2 hs2 ⟨k2+1,(),()⟩)))))))))))))
     ·obtain rfl:=q0l hq2 (q0c h5)
      have hb1:=(q0s _ _ _).symm.trans hb1
      exact CE (X ((AN hk2 hl1) ((V) (Z (I2 hb1 hs1 ⟨k1+1,(),()⟩)))))
    ·obtain rfl:=q0l hq1 (q0c h4)
     have hr:=(q0s _ _ _).symm.trans hr
     exact CE (R ((A) (Z (W1 hr))))
end Go.Proofs.YtmblndlpkpaobaaGreat

