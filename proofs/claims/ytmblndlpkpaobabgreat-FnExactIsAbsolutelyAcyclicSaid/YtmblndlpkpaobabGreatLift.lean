/- What some functions of the program compute, as partial functions on plain data, and that they do; each lemma bears its conditions in its statement. -/
import Derived.Test.YtmblndlpkpaobabGreatLiftB
set_option linter.unusedVariables false
set_option linter.unusedSimpArgs false
set_option linter.ambiguousOpen false
set_option linter.unusedSectionVars false
set_option linter.unnecessarySimpa false
set_option linter.unusedVariables false
set_option linter.unusedSimpArgs false
set_option maxRecDepth 100000
set_option maxHeartbeats 4000000
noncomputable section
namespace Go.Proofs.YtmblndlpkpaobabGreat
open Go Go.E
open Go.E.Rep (rd)
open Go.E.Sep (own)
open Go.E.Sz (szd)
variable {F0:Nat→Prop}{w0:World}{M:List Nat}
theorem z8O {a0}{a1}{a2}{r}(hr:q9U a0 a1 a2=some r){ca0}(ha0:rd F0 w0 a0 ca0){b1p:Nat}(ha1:CapP F0 w0 b1p a1){b2p:Nat}(ha2:CapP F0 w0 b2p a2):RB 158 #[ag ca0,pB b1p,pB b2p] w0 r:=by
 have H:=(HL.start F0 w0).argR ha0
 obtain⟨rfl,hI1,hS1,H⟩:=q2R H 0
 obtain⟨cpa1,H⟩:=H.argP ha1
 obtain⟨A1,n1,c1,A2,n2,c2,rfl,H⟩:=q2C H 2
 obtain⟨cpa2,H⟩:=H.argP ha2
 obtain⟨A3,n3,c3,A4,n4,c4,A5,n5,c5,rfl,hS2,hS3,H⟩:=q2U H 6
 refine (En Tryz.func158) ?_
 refine R ((BX H) fun b1 w1 H=>(A) (Z (R ((LA H 1) ((LA H 5) ((LB H 0) ?_))))))
 refine bb hr fun y1 hy1 hr=>?_
 exact (CA k2C (j4U hy1 ⟨_,_,rfl,(rs H 3),(rs H 4)⟩ ⟨_,_,_,rfl,hS2,hS3,(rs H 7),(rs H 8),(rs H 9)⟩ ⟨rfl,hI1,hS1⟩)) (cE H fun w2 H=>(N) ((AZ) (W1 hr)))
def q4T (a1_0:Grammar)(a1_1:Rule):Nat→Occurrence→Unit→Option (Unit ⊕ Int):=fun k1 x1 _=>(q9U x1 a1_0 a1_1).bind fun y1=>if y1=true then some (.inr (k1:Int)) else some (.inl ())
def q3G (a0:(List Occurrence))(a1_0:Grammar)(a1_1:Rule):Option Int:=(q2I (q4T a1_0 a1_1) 0 a0 ()).bind <| onr (fun r1=>some r1) fun _=>some (-1)
theorem q6O {a0}{a1_0}{a1_1}{r}(hr:q3G a0 a1_0 a1_1=some r){z0}(ha0:rdS F0 w0 a0 z0){b1_0p:Nat}(ha1_0:CapP F0 w0 b1_0p a1_0){b1_1p:Nat}(ha1_1:CapP F0 w0 b1_1p a1_1):RT 185 #[z0,.func (.func 158) #[] #[pB b1_0p,pB b1_1p]] w0 fun v w=>v = .int .i64 r∧I64 r:=by
 exact ixFu (gm:=fun x=>q9U x a1_0 a1_1) (caps:=[pB b1_0p,pB b1_1p]) Tryz.func185 hr ha0 k2B fun w1 hE x cs y hy hx=>z8O hy hx (CapP.lt ha1_0 hE) (CapP.lt ha1_1 hE)
def q3u (a0:(List Occurrence))(a1_0:Grammar)(a1_1:Rule):Option Bool:=(q3G a0 a1_0 a1_1).bind fun y1=>some (decide (0≤y1))
theorem q6j {a0}{a1_0}{a1_1}{r}(hr:q3u a0 a1_0 a1_1=some r){z0}(ha0:rdS F0 w0 a0 z0){b1_0p:Nat}(ha1_0:CapP F0 w0 b1_0p a1_0){b1_1p:Nat}(ha1_1:CapP F0 w0 b1_1p a1_1):RB 147 #[z0,.func (.func 158) #[] #[pB b1_0p,pB b1_1p]] w0 r:=by
 exact coF Tryz.func147 hr k1k fun hy=>q6O hy ha0 ha1_0 ha1_1
def z0d (a0:Expr)(a1:Grammar)(a2:Rule):Option Bool:=(q6X a0).bind fun y1=>(q3u y1 a1 a2).bind fun y2=>some y2
theorem j0R {a0}{a1}{a2}{r}(hr:z0d a0 a1 a2=some r){ca0}(ha0:rd F0 w0 a0 ca0){b1p:Nat}(ha1:CapP F0 w0 b1p a1){b2p:Nat}(ha2:CapP F0 w0 b2p a2):RB 156 #[ag ca0,pB b1p,pB b2p] w0 r:=by
 have H:=(HL.start F0 w0).argR ha0
 obtain⟨A1,n1,c1,rfl,hI1,hI2,hI3,hI4,hS1,hS2,H⟩:=q3X H 0
 obtain⟨cpa1,H⟩:=H.argP ha1
 obtain⟨A2,n2,c2,A3,n3,c3,rfl,H⟩:=q2C H 3
 obtain⟨cpa2,H⟩:=H.argP ha2
 obtain⟨A4,n4,c4,A5,n5,c5,A6,n6,c6,rfl,hS3,hS4,H⟩:=q2U H 7
 refine (En Tryz.func156) ?_
 refine R ((BX H) fun b1 w1 H=>(A) (Z (R ((LB H 0) ?_))))
 refine bb hr fun y1 hy1 hr=>?_
 refine (CA k1h (z2x hy1 (q2F.2 ⟨_,rfl,hI1,hI2,hI3,hI4,hS1,hS2,(rs H 1)⟩))) ?_
 rintro _ w2 hE ⟨A7,n7,c7,rfl,H'⟩
 have H:=H.callA H' tv
 refine q0b rfl rfl (q0w rfl rfl rfl) ?_
 refine bb hr fun y2 hy2 hr=>?_
 exact (CA k1e (q6j hy2 (F0:=fun q=>q < _) (ro H 1) ⟨H.rAl (i:=2) rfl,_,H.rA (i:=2) rfl,⟨_,_,rfl,(rs H 4),(rs H 5)⟩⟩ ⟨H.rAl (i:=6) rfl,_,H.rA (i:=6) rfl,⟨_,_,_,rfl,hS3,hS4,(rs H 8),(rs H 9),(rs H 10)⟩⟩)) (cE H fun w3 H=>(AZ) (W1 hr))
def q5K (a1_0:Grammar)(a1_1:Rule):Nat→Expr→Unit→Option (Unit ⊕ Int):=fun k1 x1 _=>(z0d x1 a1_0 a1_1).bind fun y1=>if y1=true then some (.inr (k1:Int)) else some (.inl ())
def q4I (a0:(List Expr))(a1_0:Grammar)(a1_1:Rule):Option Int:=(q2I (q5K a1_0 a1_1) 0 a0 ()).bind <| onr (fun r1=>some r1) fun _=>some (-1)
theorem q8v {a0}{a1_0}{a1_1}{r}(hr:q4I a0 a1_0 a1_1=some r){z0}(ha0:rdS F0 w0 a0 z0){b1_0p:Nat}(ha1_0:CapP F0 w0 b1_0p a1_0){b1_1p:Nat}(ha1_1:CapP F0 w0 b1_1p a1_1):RT 188 #[z0,.func (.func 156) #[] #[pB b1_0p,pB b1_1p]] w0 fun v w=>v = .int .i64 r∧I64 r:=by
 exact ixFu (gm:=fun x=>z0d x a1_0 a1_1) (caps:=[pB b1_0p,pB b1_1p]) Tryz.func188 hr ha0 k2A fun w1 hE x cs y hy hx=>j0R hy hx (CapP.lt ha1_0 hE) (CapP.lt ha1_1 hE)
def q4j (a0:(List Expr))(a1_0:Grammar)(a1_1:Rule):Option Bool:=(q4I a0 a1_0 a1_1).bind fun y1=>some (decide (0≤y1))
theorem q7M {a0}{a1_0}{a1_1}{r}(hr:q4j a0 a1_0 a1_1=some r){z0}(ha0:rdS F0 w0 a0 z0){b1_0p:Nat}(ha1_0:CapP F0 w0 b1_0p a1_0){b1_1p:Nat}(ha1_1:CapP F0 w0 b1_1p a1_1):RB 154 #[z0,.func (.func 156) #[] #[pB b1_0p,pB b1_1p]] w0 r:=by
 exact coF Tryz.func154 hr j7K fun hy=>q8v hy ha0 ha1_0 ha1_1
def z4I (a0:Grammar)(a1:Rule):Option Bool:=(q9T a1).bind fun y1=>(q4j y1 a0 a1).bind fun y2=>some y2
theorem j2U {a0}{a1}{r}(hr:z4I a0 a1=some r){ca0}(ha0:rd F0 w0 a0 ca0){ca1}(ha1:rd F0 w0 a1 ca1):RB 101 #[ag ca0,ag ca1] w0 r:=by
 have H:=((HL.start F0 w0).argR ha0).argR ha1
 obtain⟨A1,n1,c1,A2,n2,c2,rfl,H⟩:=q2C H 0
 obtain⟨A3,n3,c3,A4,n4,c4,A5,n5,c5,rfl,hS1,hS2,H⟩:=q2U H 1
 let d1:=q3C a1 A3 n3 c3 A4 n4 c4 A5 n5 c5
 refine (En Tryz.func101) ?_
 refine R ((BX H) fun b1 w1 H=>(BX H) fun b2 w2 H=>(A) (Z (R ((LB H 1) ?_))))
 refine bb hr fun y1 hy1 hr=>?_
 obtain⟨F,hF,hcl⟩:=H.call
 refine (CA k2z (z8N hy1 ⟨_,_,_,rfl,hS1,hS2,(hF.get (i:=4) rfl),(hF.get (i:=5) rfl),(hF.get (i:=6) rfl)⟩)) ?_
 rintro _ w3 hE ⟨A6,n6,c6,rfl,H'⟩
 have H:HL F0 [] w0 w3 [.R a0 [.slice A1 n1 c1,.slice A2 n2 c2],.R a1 d1,.S a0.Symbols (.slice A1 n1 c1),.S a0.Rules (.slice A2 n2 c2),.S a1.Right (.slice A3 n3 c3),.S a1.Equations (.slice A4 n4 c4),.S a1.Contributions (.slice A5 n5 c5)] [.B b1 31 [.slice A1 n1 c1,.slice A2 n2 c2],.B b2 65 d1,.G 125 y1 (.slice A6 n6 c6)]:=hcl H'
 refine q0b rfl rfl (q0w rfl rfl rfl) ?_
 refine bb hr fun y2 hy2 hr=>?_
 exact (CA j7J (q7M hy2 (F0:=fun q=>q < _) (H.rG (i:=2) rfl) ⟨(rb H 0).lt,_,At.blk (rb H 0),⟨_,_,rfl,(rs H 2),(rs H 3)⟩⟩ ⟨(rb H 1).lt,_,At.blk (rb H 1),⟨_,_,_,rfl,hS1,hS2,(rs H 4),(rs H 5),(rs H 6)⟩⟩)) (cE H fun w4 H=>(AZ) (W1 hr))
def q9V (a0:Grammar)(s1:Int):Nat→Rule→Unit→Option (Unit ⊕ (Int × Int)):=fun k1 x2 _=>if s1=3 then (z4F a0 x2).bind fun y5=>if y5=true then some (.inr (s1,(k1:Int))) else some (.inl ()) else if s1=4 then (z4G a0 x2).bind fun y6=>if y6=true then some (.inr (s1,(k1:Int))) else some (.inl ()) else if s1=5 then (z8c a0 x2).bind fun y7=>if y7=true then some (.inr (s1,(k1:Int))) else some (.inl ()) else (z4I a0 x2).bind fun y8=>if y8=true then some (.inr (s1,(k1:Int))) else some (.inl ())
def q5l (a0:Grammar):Int→Option (Int ⊕ (Unit ⊕ (Int × Int))):=fun s1=>if s1≤6 then (q2I (q9V a0 s1) 0 a0.Rules ()).bind <| onr (fun r1=>some (.inr (.inr r1))) fun _=>grd (I64 (s1+1)) <| some (.inl (s1+1)) else some (.inr (.inl ()))
def z0J (a0:Grammar):Option (Int × Int):=(q2P (a0.Symbols.length:Int) 1 4).bind fun y1=>if y1=true then (q2P (a0.Rules.length:Int) 1 8).bind fun y2=>if y2=true then (z0H a0).bind fun y3=>if 0≤y3 then some (1,y3) else (a0.Symbols[0]?).bind fun x1=>(q3t x1.Attributes).bind fun y4=>if y4=true then some (2,0) else ( q5u (q5l a0) 3 ).bind <| onr (fun r2=>some r2) fun ()=>some (0,0) else some (1,0) else some (1,0)
theorem z9O {a0}{r}(hr:z0J a0=some r){ca0}(ha0:rd F0 w0 a0 ca0):RT 59 #[ag ca0] w0 fun v w=>v = .tuple #[.int .i64 r.1,.int .i64 r.2]∧I64 r.1∧I64 r.2:=by
 have H:=(HL.start F0 w0).argR ha0
 obtain⟨A1,n1,c1,A2,n2,c2,rfl,H⟩:=q2C H 0
 refine (En Tryz.func59) ?_
 refine R ((BX H) fun b1 w1 H=>(A) ((A) (Z (Y (R ((D 0) ((L H 0) ((NI H 1) fun hl1=>?_))))))))
 let d2:List It:=[.B b1 31 [.slice A1 n1 c1,.slice A2 n2 c2]]
 refine bb hr fun y1 hy1 hr=>?_
 refine (CA ok94 (q3c hy1 (F0:=nF) hl1 dI dI)) (cE H fun w2 H=>(N) (jM hr (fun _ hr=>?_) fun _ hr=>?_))
 ·exact (O) ((O) ((O) ((O) ((O) ((T) (Z ((cT) (R ((A) ((AZ) (W1 hr)))))))))))
 refine (G) ((D 1) ((G) ((L H 0) ((G) ((NI H 2) fun hl2=>(G) ?_)))))
 refine bb hr fun y2 hy2 hr=>?_
 refine (CA ok94 (q3c hy2 (F0:=nF) hl2 dI dI)) (cE H fun w3 H=>(G) ((N) ((U) (Z (iM hr (fun _ hr=>?_) fun _ hr=>?_)))))
 ·exact R ((A) ((AZ) (W1 hr)))
 refine K (Y (R ((LB H 0) ?_)))
 refine bb hr fun y3 hy3 hr=>?_
 refine (CA ok95 (z9N hy3 ⟨_,_,rfl,(rs H 1),(rs H 2)⟩)) (cF' H fun w4 hI1 H=>(A) (Z (R ((V) ((BZ) (iD hr (fun _ hr=>?_) fun _ hr=>?_))))))
 ·exact R ((V) ((A) ((AZ) (W1 hr))))
 refine K (Y (R ((D 0) ((L H 0) ?_))))
 refine bb hr fun x1 hx1 hr=>?_
 obtain⟨b2,ob2,cb2,A3,n3,c3,hvb2,hS1,H⟩:=q4B H 1 hx1
 let d1:List Pr:=[.R a0 [.slice A1 n1 c1,.slice A2 n2 c2],.S a0.Symbols (.slice A1 n1 c1),.S a0.Rules (.slice A2 n2 c2),.A b2 (ob2+0*2) (q3W x1 A3 n3 c3),.R x1 (q3W x1 A3 n3 c3),.S x1.Attributes (.slice A3 n3 c3)]
 refine (J 2 hvb2 hx1) ((D 1) ((LC H 3) ?_))
 refine bb hr fun y4 hy4 hr=>?_
 refine (CA ok96 (q6i hy4 (F0:=fun q=>q < _) (rs H 5))) (cE H fun w5 H=>Z (iB hr (fun _ hr=>?_) fun _ hr=>?_))
 ·refine Y ?_
  refine q0e [] trivial fun σ=>?_
  have H:HL F0 [] w0 w5 d1 d2:=H
  exact X ((A) ((AZ) (W1 hr)))
 refine K (Y (Y ?_))
 refine q0e [(1,pB b1)] ⟨rfl,trivial⟩ fun σ=>?_
 have H:HL F0 [] w0 w5 d1 d2:=H
 refine X ((AZ) ?_)
 refine bb hr fun q1 hm1 hr=>?_
 refine q0o (fun ρ' w=>q1 = .inl ()∧q4z ρ' []∧HL F0 [] w0 w d1 d2) ?_ ?_
 ·obtain⟨m1,hq1⟩:=q4o.1 hm1
  refine (lI hq1 (fun m1 s1 _=>[(1,pB b1),(5,.int .i64 s1)]) (fun s1 _ w=>I64 s1∧HL F0 [] w0 w d1 d2) ()) ?_
  rintro m1 s1 _ σ w6 hq1 ⟨hI2,H⟩
  obtain⟨m2,z1,rfl,hb1,hs1,ht1⟩:=q6H hq1
  refine Y (R ((V) ((BZ) (iD hb1 (fun _ hb1=>?_) fun _ hb1=>?_))))
  ·refine K (Y ?_)
   refine Bk (R ((D 1) ((L H 0) ((NN (rs H 2)) ((V) (Z ?_))))))
   refine bb hb1 fun q2 hq2 hb1=>?_
   refine (lF hq2 (fun k1 _ _=>[(1,pB b1),(5,.int .i64 s1),(37,.slice A2 n2 c2),(38,zN a0.Rules.length),(39,zN k1)]) (fun _ _ w=>HL F0 [] w0 w d1 d2) ()) ?_
   rintro k1 _ _ σ w7 hk1 hq2 H
   refine R ((BZ) (Y ?_))
   refine q0d rfl (fun h6=>?_) (fun h6=>?_)
   ·have hk2:=q2L h6
    obtain⟨x2,z2,hx2,hb2,hs2,ht2⟩:=q4f hq2 hk2
    refine K (Y ?_)
    refine Bk (R ((V) ?_))
    obtain⟨b3,ob3,cb3,A4,n4,c4,A5,n5,c5,A6,n6,c6,hvb3,hS2,hS3,H⟩:=q6k H 2 hx2
    refine (J 6 hvb3 hx2) ((LA H 6) ((AH ze65 H) fun b4 w8 H=>(A) ((SB H 1) fun w9 H=>Z (R ((A) (Z (Y (R ((V) (Z ?_))))))))))
    refine Bk (R ((B) ((AZ) (iD hb2 (fun _ hb2=>?_) fun _ hb2=>?_))))
    ·refine X ((LB H 0) ((LB H 1) ?_))
     refine bb hb2 fun y5 hy5 hb2=>?_
     refine (CA ok98 (j2R hy5 ⟨_,_,rfl,(rs H 1),(rs H 2)⟩ ⟨_,_,_,rfl,hS2,hS3,(rs H 8),(rs H 9),(rs H 10)⟩)) (cE H fun w10 H=>(A) (Z (R ((V) (Z (iB hb2 (fun _ hb2=>?_) fun _ hb2=>?_))))))
     ·exact R ((V) ((V) ((A) ((AZ) (W3 hb2 ht2 hb1 ht1 hr)))))
     exact K (X ((AN hk2 hl2) ((V) (Z (I2 hb2 hs2 ⟨k1+1,(),()⟩)))))
    refine R ((B) ((AZ) (iD hb2 (fun _ hb2=>?_) fun _ hb2=>?_)))
    ·refine X ((LB H 0) ((LB H 1) ?_))
     refine bb hb2 fun y6 hy6 hb2=>?_
     refine (CA ok99 (j2S hy6 ⟨_,_,rfl,(rs H 1),(rs H 2)⟩ ⟨_,_,_,rfl,hS2,hS3,(rs H 8),(rs H 9),(rs H 10)⟩)) (cE H fun w11 H=>(A) (Z (R ((V) (Z (iB hb2 (fun _ hb2=>?_) fun _ hb2=>?_))))))
     ·exact R ((V) ((V) ((A) ((AZ) (W3 hb2 ht2 hb1 ht1 hr)))))
     exact K (X ((AN hk2 hl2) ((V) (Z (I2 hb2 hs2 ⟨k1+1,(),()⟩)))))
    refine R ((B) ((AZ) (iD hb2 (fun _ hb2=>?_) fun _ hb2=>?_)))
    ·refine X ((LB H 0) ((LB H 1) ?_))
     refine bb hb2 fun y7 hy7 hb2=>?_
     refine (CA k1Y (j5Y hy7 ⟨_,_,rfl,(rs H 1),(rs H 2)⟩ ⟨_,_,_,rfl,hS2,hS3,(rs H 8),(rs H 9),(rs H 10)⟩)) (cE H fun w12 H=>(A) (Z (R ((V) (Z (iB hb2 (fun _ hb2=>?_) fun _ hb2=>?_))))))
     ·exact R ((V) ((V) ((A) ((AZ) (W3 hb2 ht2 hb1 ht1 hr)))))
     exact K (X ((AN hk2 hl2) ((V) (Z (I2 hb2 hs2 ⟨k1+1,(),()⟩)))))
    refine X ((LB H 0) ((LB H 1) ?_))
    refine bb hb2 fun y8 hy8 hb2=>?_
    refine (CA k1Z (j2U hy8 ⟨_,_,rfl,(rs H 1),(rs H 2)⟩ ⟨_,_,_,rfl,hS2,hS3,(rs H 8),(rs H 9),(rs H 10)⟩)) (cE H fun w13 H=>(A) (Z (R ((V) (Z (iB hb2 (fun _ hb2=>?_) fun _ hb2=>?_))))))
    ·exact R ((V) ((V) ((A) ((AZ) (W3 hb2 ht2 hb1 ht1 hr)))))
    exact K (X ((AN hk2 hl2) ((V) (Z (I2 hb2 hs2 ⟨k1+1,(),()⟩)))))
   obtain rfl:=q3r hq2 (q2E h6)
   have hb1:=(q3q _ _ _).symm.trans hb1
   refine CE (X ((V) ?_))
   exact gg hb1 fun hg1 hb1=>(BN (Bin.add hg1)) ((A) (Z (I2 hb1 hs1 ⟨m2,(s1+1),()⟩)))
  exact CE (C2 hb1 ht1)
 rintro ρ' w14 ⟨rfl,hag,H⟩
 obtain⟨σ,rfl⟩:=q4g hag
 exact R ((A) ((AZ) (W1 hr)))
def q8R (a0:Int):Option (Int × Int × Int):=( if a0=1 then some (decide (a0=1)) else if a0=2 then some (decide (a0=2)) else if a0=3 then some (decide (a0=3)) else if a0=4 then some (decide (a0=4)) else some (decide (a0=5)) ).bind fun s1=>if s1=true then some (1,1,1) else ( if a0=6 then some (decide (a0=6)) else if a0=7 then some (decide (a0=7)) else some (decide (a0=8)) ).bind fun s2=>if s2=true then some (2,2,2) else if a0=9 then if a0=9 then some (1,1,3) else if a0=11 then some (2,1,3) else if a0=12 then some (2,1,2) else some (0,0,0) else if a0=10 then some (1,1,3) else if a0=11 then some (2,1,3) else if a0=12 then some (2,1,2) else some (0,0,0)
theorem z7L {a0}{r}(hr:q8R a0=some r){F0:Nat→Prop}(ha0:I64 a0):RT 160 #[.int .i64 a0] w0 fun v w=>v = .tuple #[.int .i64 r.1,.int .i64 r.2.1,.int .i64 r.2.2]∧I64 r.1∧I64 r.2.1∧I64 r.2.2:=by
 have H:=HL.start F0 w0
 refine (En Tryz.func160) ?_
 refine R ((A) ((A) ((A) (Z (Y (R ((V) (Z ?_))))))))
 refine Bk (Y (R ((B) ((AZ) ?_))))
 refine bb hr fun q1 hm1 hr=>?_
 refine cm H [(5,.int .i64 a0),(6,.bool q1)] [] [] ?_ fun σ w1 H=>?_
 ·refine iD hm1 (fun _ hm1=>?_) fun _ hm1=>?_
  ·exact K (C1 hm1)
  refine R ((B) ((AZ) (iD hm1 (fun _ hm1=>?_) fun _ hm1=>?_)))
  ·exact K (C1 hm1)
  refine R ((B) ((AZ) (iD hm1 (fun _ hm1=>?_) fun _ hm1=>?_)))
  ·exact K (C1 hm1)
  refine R ((B) ((AZ) (iD hm1 (fun _ hm1=>?_) fun _ hm1=>?_)))
  ·exact K (C1 hm1)
  exact X ((B) ((AZ) (C1 hm1)))
 refine iB hr (fun _ hr=>?_) fun _ hr=>?_
 ·exact R ((A) ((A) ((AZ) (W1 hr))))
 refine Y (R ((B) ((AZ) ?_)))
 refine bb hr fun q2 hm2 hr=>?_
 refine cm H [(5,.int .i64 a0),(12,.bool q2)] [] [] ?_ fun σ w2 H=>?_
 ·refine iD hm2 (fun _ hm2=>?_) fun _ hm2=>?_
  ·exact K (C1 hm2)
  refine R ((B) ((AZ) (iD hm2 (fun _ hm2=>?_) fun _ hm2=>?_)))
  ·exact K (C1 hm2)
  exact X ((B) ((AZ) (C1 hm2)))
 refine iB hr (fun _ hr=>?_) fun _ hr=>?_
 ·exact R ((A) ((A) ((AZ) (W1 hr))))
 refine Y (R ((B) ((AZ) (iD hr (fun _ hr=>?_) fun _ hr=>?_))))
 ·refine K (iD hr (fun _ hr=>?_) fun _ hr=>?_)
  ·exact R ((A) ((A) ((AZ) (W1 hr))))
  refine R ((B) ((AZ) (iD hr (fun _ hr=>?_) fun _ hr=>?_)))
  ·exact R ((A) ((A) ((AZ) (W1 hr))))
  refine R ((B) ((AZ) (iD hr (fun _ hr=>?_) fun _ hr=>?_)))
  ·exact R ((A) ((A) ((AZ) (W1 hr))))
  exact K (R ((A) ((A) ((AZ) (W1 hr)))))
 refine X ((B) ((AZ) (iD hr (fun _ hr=>?_) fun _ hr=>?_)))
 ·exact R ((A) ((A) ((AZ) (W1 hr))))
 refine R ((B) ((AZ) (iD hr (fun _ hr=>?_) fun _ hr=>?_)))
 ·exact R ((A) ((A) ((AZ) (W1 hr))))
 refine R ((B) ((AZ) (iD hr (fun _ hr=>?_) fun _ hr=>?_)))
 ·exact R ((A) ((A) ((AZ) (W1 hr))))
 exact K (R ((A) ((A) ((AZ) (W1 hr)))))
def q8c (rec_iTypeOfExpr:Grammar→Rule→Expr→Option Int)(a0:Grammar)(a1:Rule):Nat→Expr→(List Int)→Option (List Int):=fun k1 x1 s1=>(rec_iTypeOfExpr a0 a1 x1).bind fun y1=>grd (((s1.length:Int)+1)*8≤140737488355328∧(s1.length:Int)+1≤9223372036854775807) <| some (s1++[y1])
def z0K (rec_iTypeOfExpr:Grammar→Rule→Expr→Option Int)(a0:Grammar)(a1:Rule)(a2:Expr):Option Int:=(q2G (q8c rec_iTypeOfExpr a0 a1) 0 a2.Args ([]:List Int)).bind fun s1=>if a2.Kind=1 then some a2.Type_ else ( if a2.Kind=2 then some a1.Literal else some false ).bind fun s2=>if s2=true then some 1 else if a2.Kind=3 then (q7g a0 a1 (⟨a2.Pos,a2.Name⟩:Occurrence)).bind fun (y2,y3)=>some y2.Type_ else ( if a2.Kind=4 then some (decide ((s1.length:Int)=2)) else some false ).bind fun s3=>if s3=true then (q8R a2.N).bind fun (y4,y5,y6)=>(s1[0]?).bind fun x2=>( if x2=y4 then (s1[1]?).bind fun x3=>some (decide (x3=y5)) else some false ).bind fun s4=>if s4=true then some y6 else some 0 else ( if a2.Kind=5 then some (decide ((s1.length:Int)=3)) else some false ).bind fun s5=>if s5=true then (s1[0]?).bind fun x4=>if x4=3 then (s1[1]?).bind fun x5=>(s1[2]?).bind fun x6=>if x5=x6 then some x5 else some 0 else some 0 else ( if a2.Kind=6 then (q2P a2.Pos 0 (a1.Right.length:Int)).bind fun y7=>some y7 else some false ).bind fun s6=>( if s6=true then some s6 else some (decide (a2.Kind=7)) ).bind fun s7=>if s7=true then some 4 else ( if a2.Kind=8 then some (decide ((s1.length:Int)=1)) else some false ).bind fun s8=>( if s8=true then (s1[0]?).bind fun x7=>some (decide (x7=4)) else some false ).bind fun s9=>if s9=true then (q4R a0 a2.Symbol).bind fun (y8,y9)=>(q5W y8 a2.Name).bind fun (y10,y11)=>some y10.Type_ else some 0
theorem z8P {rec_iTypeOfExpr:Grammar→Rule→Expr→Option Int}(ih_iTypeOfExpr:∀ {a0:Grammar} {a1:Rule} {a2:Expr} {r:Int},rec_iTypeOfExpr a0 a1 a2=some r→∀ {F0:Nat→Prop} {w0:World} {ca0} (ha0:rd F0 w0 a0 ca0) {ca1} (ha1:rd F0 w0 a1 ca1) {ca2} (ha2:rd F0 w0 a2 ca2),RT 103 #[ag ca0,ag ca1,ag ca2] w0 fun v w=>v = .int .i64 r∧I64 r){a0}{a1}{a2}{r}(hr:z0K rec_iTypeOfExpr a0 a1 a2=some r){ca0}(ha0:rd F0 w0 a0 ca0){ca1}(ha1:rd F0 w0 a1 ca1){ca2}(ha2:rd F0 w0 a2 ca2):RT 103 #[ag ca0,ag ca1,ag ca2] w0 fun v w=>v = .int .i64 r∧I64 r:=by
 have H:=(((HL.start F0 w0).argR ha0).argR ha1).argR ha2
 obtain⟨A1,n1,c1,A2,n2,c2,rfl,H⟩:=q2C H 0
 let d9:Pr:=.S a0.Rules (.slice A2 n2 c2)
 let d8:Pr:=.S a0.Symbols (.slice A1 n1 c1)
 let d4:List Value:=[.slice A1 n1 c1,.slice A2 n2 c2]
 obtain⟨A3,n3,c3,A4,n4,c4,A5,n5,c5,rfl,hS1,hS2,H⟩:=q2U H 1
 let d10:Pr:=.S a1.Right (.slice A3 n3 c3)
 let d7:Pr:=.S a1.Equations (.slice A4 n4 c4)
 let d6:Pr:=.S a1.Contributions (.slice A5 n5 c5)
 let d3:=q3C a1 A3 n3 c3 A4 n4 c4 A5 n5 c5
 obtain⟨A6,n6,c6,rfl,hI1,hI2,hI3,hI4,hS3,hS4,H⟩:=q3X H 2
 let d11:Pr:=.S a2.Args (.slice A6 n6 c6)
 let d5:=q2T a2 A6 n6 c6
 let d1:List Pr:=[.R a0 d4,.R a1 d3,.R a2 d5,d8,d9,d10,d7,d6,d11]
 refine (En Tryz.func103) ?_
 refine R ((BX H) fun b1 w1 H=>(BX H) fun b2 w2 H=>(BX H) fun b3 w3 H=>(AZ) (R ?_))
 refine q0h (α:=Int) rfl rfl rfl el58 sz3 H fun A7 n7 c7 w4 H=>(A) (Z (Y (R ((D 6) ((L H 2) ((NI H 8) fun hl1=>(V) (Z ?_)))))))
 refine bb hr fun q1 hq1 hr=>?_
 refine Bk (CW.loop (α:=Nat × (List Int) × Value) (fun ⟨k1,s1,v1⟩=>[(3,pB b1),(4,pB b2),(5,pB b3),(7,v1),(21,.slice A6 n6 c6),(22,zN a2.Args.length),(23,zN k1)]) (fun ⟨k1,s1,v1⟩ w=>k1≤a2.Args.length∧q2G (q8c rec_iTypeOfExpr a0 a1) k1 (a2.Args.drop k1) s1=some q1∧HL F0 [] w0 w d1 [.B b1 31 d4,.B b2 65 d3,.B b3 125 d5,.O 3 s1 v1]) (fun ⟨k1,s1,v1⟩=>a2.Args.length - k1) ⟨0,([]:List Int),(.slice A7 n7 c7)⟩ ⟨rfl,rfl,rfl,rfl,rfl,rfl,rfl,trivial⟩ ⟨Nat.zero_le _,hq1,H.keep 9 4⟩ ?_)
 rintro⟨k1,s1,v1⟩ σ w5 ⟨hk1,hq1,H⟩
 obtain⟨A8,n8,c8,rfl⟩:=(fo H 3)
 let d2:List It:=[.B b1 31 d4,.B b2 65 d3,.B b3 125 d5,.O 3 s1 (.slice A8 n8 c8)]
 refine R ((BZ) (Y ?_))
 refine q0d rfl (fun h1=>?_) (fun h1=>?_)
 ·have hk2:=q2L h1
  obtain⟨x1,z1,hx1,hb1,hq1⟩:=q4F hq1 hk2
  refine K (Y ?_)
  refine Bk (R ?_)
  obtain⟨b4,ob4,cb4,A9,n9,c9,hvb4,hI5,hI6,hI7,hI8,hS5,hS6,H⟩:=q4G H 8 hx1
  refine (J 7 hvb4 hx1) ((LA H 9) ((AH z0a H) fun b5 w6 H=>(SB H 4) fun w7 H=>Z (X ((V) ((LB H 0) ((LB H 1) ((LB H 4) ?_)))))))
  refine bb hb1 fun y1 hy1 hb1=>?_
  refine (CA j7F (ih_iTypeOfExpr hy1 ⟨_,_,rfl,(rs H 3),(rs H 4)⟩ ⟨_,_,_,rfl,hS1,hS2,(rs H 5),(rs H 6),(rs H 7)⟩ (q2F.2 ⟨_,rfl,hI5,hI6,hI7,hI8,hS5,hS6,(rs H 11)⟩))) (cF' H fun w8 hI9 H=>?_)
  refine q0n rfl rfl rfl el58 sz3 ze3 rfl rfl rfl rfl rfl rfl fun b6 w9 hE hb hB=>?_
  have H:=H.newB hE hb hB
  refine gg hb1 fun hg1 hb1=>?_
  refine q0q (i:=3) (ys:=[y1]) rfl rfl rfl el58 sz3 by3 ze3 rfl rfl rfl H rfl (fun _=>ownL.single ⟨rfl,rfl,hI9⟩) (.inr ⟨_,_,rfl,At.blk (rb H 5)⟩) hg1 fun A10 n10 c10 w10 H=>(A) (Z (X ((AN hk2 hl1) ((V) (Z ?_)))))
  obtain rfl:=sm hb1
  exact⟨⟨k1+1,(s1++[y1]),(.slice A10 n10 c10)⟩,⟨rfl,rfl,rfl,rfl,rfl,rfl,rfl,trivial⟩,⟨hk2,hq1,H.keep 9 4⟩,Nat.sub_lt_sub_left hk2 (Nat.lt_succ_self _)⟩
 obtain rfl:=q3N hq1 (q2E h1)
 refine CE (Y ?_)
 refine Bk (R ((D 0) ((L H 2) ((B) ((AZ) (iD hr (fun _ hr=>?_) fun _ hr=>?_))))))
 ·refine R ((D 3) ((L H 2) ((AZ) (CR ?_))))
  obtain rfl:=sm hr
  exact⟨_,res1 rfl rfl rfl,H.ext0,rfl,hI4⟩
 refine R ((D 0) ((L H 2) ((B) ?_)))
 refine bb hr fun q2 hm1 hr=>?_
 refine WL.cut 4 (fun ρ' w=>∃ (s2:Bool),s2=q2∧q4z ρ' [(3,pB b1),(4,pB b2),(5,pB b3),(7,.slice A8 n8 c8),(48,.bool s2)]∧HL F0 [] w0 w d1 d2) ?_ ?_
 ·refine jD hm1 (fun _ hm1=>?_) fun _ hm1=>?_
  ·refine (G) ((D 3) ((G) ((L H 1) ((T) (Z ?_)))))
   obtain rfl:=sm hm1
   exact⟨a1.Literal,rfl,⟨rfl,rfl,rfl,rfl,rfl,trivial⟩,H.keep 9 4⟩
  refine (O) ((O) ((U) (Z ?_)))
  obtain rfl:=sm hm1
  exact⟨false,rfl,⟨rfl,rfl,rfl,rfl,rfl,trivial⟩,H.keep 9 4⟩
 rintro ρ' w11 ⟨s2,rfl,hag,H⟩
 obtain⟨σ,rfl⟩:=q4g hag
 refine (AZ) (iB hr (fun _ hr=>?_) fun _ hr=>?_)
 ·refine R ((AZ) (CR ?_))
  obtain rfl:=sm hr
  exact⟨_,res1 rfl rfl rfl,H.ext0,rfl,dI⟩
 refine R ((D 0) ((L H 2) ((B) ((AZ) (iD hr (fun _ hr=>?_) fun _ hr=>?_)))))
 ·refine R ((LB H 0) ((LB H 1) ((D 2) ((L H 2) ((D 5) ((L H 2) ?_))))))
  refine q0b rfl rfl (Ev.build rfl j1L q7h rfl rfl rfl rfl) ?_
  obtain⟨⟨y2,y3⟩,hy2,hr⟩:=bd hr
  refine (CA j9I (z1j hy2 ⟨_,_,rfl,(rs H 3),(rs H 4)⟩ ⟨_,_,_,rfl,hS1,hS2,(rs H 5),(rs H 6),(rs H 7)⟩ ⟨rfl,hI3,hS4⟩)) ?_
  rintro _ w12 hE ⟨rfl,hS7,hI10,hI11⟩
  have H:=H.ext hE
  refine (V) ((EX) ((EX) ((AH q7T H) fun b7 w13 H=>(SB H 4) fun w14 H=>(A) (Z (R ((D 1) ((L H 4) ((AZ) (CR ?_)))))))))
  obtain rfl:=sm hr
  exact⟨_,res1 rfl rfl rfl,H.ext0,rfl,hI10⟩
 refine R ((D 0) ((L H 2) ((B) ?_)))
 refine bb hr fun q3 hm2 hr=>?_
 refine WL.cut 5 (fun ρ' w=>∃ (s3:Bool),s3=q3∧q4z ρ' [(3,pB b1),(4,pB b2),(5,pB b3),(7,.slice A8 n8 c8),(74,.bool s3)]∧HL F0 [] w0 w d1 d2) ?_ ?_
 ·refine jD hm2 (fun _ hm2=>?_) fun _ hm2=>?_
  ·refine (G) ((V) ((G) ?_))
   have hl2:=(H.rO (i:=3) rfl).I
   refine (NN (ro H 3)) ((G) ((B) ((T) (Z ?_))))
   obtain rfl:=sm hm2
   exact⟨(decide ((s1.length:Int)=2)),rfl,⟨rfl,rfl,rfl,rfl,rfl,trivial⟩,H.keep 9 4⟩
  refine (O) ((O) ((O) ((U) (Z ?_))))
  obtain rfl:=sm hm2
  exact⟨false,rfl,⟨rfl,rfl,rfl,rfl,rfl,trivial⟩,H.keep 9 4⟩
 rintro ρ' w15 ⟨s3,rfl,hag,H⟩
 obtain⟨σ,rfl⟩:=q4g hag
 refine (AZ) (iB hr (fun _ hr=>?_) fun _ hr=>?_)
 ·refine R ((D 1) ((L H 2) ?_))
  obtain⟨⟨y4,y5,y6⟩,hy3,hr⟩:=bd hr
  refine (CA k2D (z7L hy3 (F0:=nF) hI2)) ?_
  rintro _ w16 hE ⟨rfl,hI12,hI13,hI14⟩
  have H:=H.ext hE
  refine (V) ((EX) ((EX) ((EX) ((A) ((A) ((A) (Z (R ((V) ?_)))))))))
  refine bb hr fun x2 hx2 hr=>?_
  obtain⟨b8,cb8,hvb8,hbb8⟩:=po H 3 hx2
  refine (J 1 hvb8 hx2) ?_
  obtain⟨hA1,hI15,H⟩:=q5f H 3 hx2 hbb8
  refine q0b rfl rfl (q0l rfl ag3 rfl (hA1.cell0 rfl)) ((V) ((B) ?_))
  refine bb hr fun q4 hm3 hr=>?_
  refine WL.cut 7 (fun ρ' w=>∃ (s4:Bool),s4=q4∧q4z ρ' [(14,.int .i64 y6),(93,.bool s4)]∧HL F0 [] w0 w [.R a0 d4,.R a1 d3,.R a2 d5,d8,d9,d10,d7,d6,d11,.R x2 [.int .i64 x2]] d2) ?_ ?_
  ·refine jD hm3 (fun _ hm3=>?_) fun _ hm3=>?_
   ·refine (G) ((V) ((G) ?_))
    refine bb hm3 fun x3 hx3 hm3=>?_
    obtain⟨b9,cb9,hvb9,hbb9⟩:=po H 3 hx3
    refine (J 1 hvb9 hx3) ((G) ?_)
    obtain⟨hA2,hI16,H⟩:=q5f H 3 hx3 hbb9
    refine q0b rfl rfl (q0l rfl ag3 rfl (hA2.cell0 rfl)) ((G) ((V) ((G) ((B) ((T) (Z ?_))))))
    obtain rfl:=sm hm3
    exact⟨(decide (x3=y5)),rfl,⟨rfl,rfl,trivial⟩,H.keep 10 4⟩
   refine (O) ((O) ((O) ((O) ((O) ((U) (Z ?_))))))
   obtain rfl:=sm hm3
   exact⟨false,rfl,⟨rfl,rfl,trivial⟩,H.keep 10 4⟩
  rintro ρ' w17 ⟨s4,rfl,hag,H⟩
  obtain⟨σ,rfl⟩:=q4g hag
  refine Z (iB hr (fun _ hr=>?_) fun _ hr=>?_)
  ·refine R ((V) ((AZ) (CR ?_)))
   obtain rfl:=sm hr
   exact⟨_,res1 rfl rfl rfl,H.ext0,rfl,hI14⟩
  refine K (R ((AZ) (CR ?_)))
  obtain rfl:=sm hr
  exact⟨_,res1 rfl rfl rfl,H.ext0,rfl,dI⟩
 refine R ((D 0) ((L H 2) ((B) ?_)))
 refine bb hr fun q5 hm4 hr=>?_
 refine WL.cut 5 (fun ρ' w=>∃ (s5:Bool),s5=q5∧q4z ρ' [(3,pB b1),(4,pB b2),(5,pB b3),(7,.slice A8 n8 c8),(103,.bool s5)]∧HL F0 [] w0 w d1 d2) ?_ ?_
 ·refine jD hm4 (fun _ hm4=>?_) fun _ hm4=>?_
  ·refine (G) ((V) ((G) ?_))
   have hl3:=(H.rO (i:=3) rfl).I
   refine (NN (ro H 3)) ((G) ((B) ((T) (Z ?_))))
   obtain rfl:=sm hm4
   exact⟨(decide ((s1.length:Int)=3)),rfl,⟨rfl,rfl,rfl,rfl,rfl,trivial⟩,H.keep 9 4⟩
  refine (O) ((O) ((O) ((U) (Z ?_))))
  obtain rfl:=sm hm4
  exact⟨false,rfl,⟨rfl,rfl,rfl,rfl,rfl,trivial⟩,H.keep 9 4⟩
 rintro ρ' w18 ⟨s5,rfl,hag,H⟩
 obtain⟨σ,rfl⟩:=q4g hag
 refine (AZ) (iB hr (fun _ hr=>?_) fun _ hr=>?_)
 ·refine Y ?_
  refine q0g hmix (by kernel_rfl) ?_
  refine (qV) ?_
  refine bb hr fun x4 hx4 hr=>?_
  obtain⟨b10,cb10,hvb10,hbb10⟩:=po H 3 hx4
  refine (qJ 1 hvb10 hx4) ?_
  obtain⟨hA3,hI17,H⟩:=q5f H 3 hx4 hbb10
  refine q0k rfl rfl (fun _ hq=>q0l rfl ag3 rfl ((hA3.ext hq).cell0 rfl)) ?_
  refine (qB) ?_
  refine kD hr (fun _ hr=>?_) fun _ hr=>?_
  ·refine (qG) ((qV) ((qG) ?_))
   refine bb hr fun x5 hx5 hr=>?_
   obtain⟨b11,cb11,hvb11,hbb11⟩:=po H 3 hx5
   refine (qJ 1 hvb11 hx5) ((qG) ?_)
   obtain⟨hA4,hI18,H⟩:=q5f H 3 hx5 hbb11
   refine q0k rfl rfl (fun _ hq=>q0l rfl ag3 rfl ((hA4.ext hq).cell0 rfl)) ?_
   refine (qG) ((qV) ((qG) ?_))
   refine bb hr fun x6 hx6 hr=>?_
   obtain⟨b12,cb12,hvb12,hbb12⟩:=po H 3 hx6
   refine (qJ 1 hvb12 hx6) ((qG) ?_)
   obtain⟨hA5,hI19,H⟩:=q5f H 3 hx6 hbb12
   refine q0k rfl rfl (fun _ hq=>q0l rfl ag3 rfl ((hA5.ext hq).cell0 rfl)) ?_
   refine (qG) ((qB) ((qT) ?_))
   refine QL.nil (fun w19 hE=>?_)
   have H:=H.ext hE
   refine iD hr (fun _ hr=>?_) fun _ hr=>?_
   ·refine R ((V) ?_)
    obtain⟨b13,cb13,hvb13,hbb13⟩:=po H 3 hx5
    refine (J 1 hvb13 hx5) ?_
    obtain⟨hA6,hI20,H⟩:=q5f H 3 hx5 hbb13
    refine q0b rfl rfl (q0l rfl ag3 rfl (hA6.cell0 rfl)) ((AZ) (CR ?_))
    obtain rfl:=sm hr
    exact⟨_,res1 rfl rfl rfl,H.ext0,rfl,hI20⟩
   refine K (R ((AZ) (CR ?_)))
   obtain rfl:=sm hr
   exact⟨_,res1 rfl rfl rfl,H.ext0,rfl,dI⟩
  refine (qO) ((qO) ((qO) ((qO) ((qO) ((qO) ((qO) ((qU) ?_)))))))
  refine QL.nil (fun w20 hE=>?_)
  have H:=H.ext hE
  refine (cF) (K (R ((AZ) (CR ?_))))
  obtain rfl:=sm hr
  exact⟨_,res1 rfl rfl rfl,H.ext0,rfl,dI⟩
 refine Y (R ((D 0) ((L H 2) ((B) ?_))))
 refine bb hr fun q6 hm5 hr=>?_
 refine WL.cut 8 (fun ρ' w=>∃ (s6:Bool),s6=q6∧q4z ρ' [(3,pB b1),(5,pB b3),(7,.slice A8 n8 c8),(131,.bool s6)]∧HL F0 [] w0 w d1 d2) ?_ ?_
 ·refine jD hm5 (fun _ hm5=>?_) fun _ hm5=>?_
  ·refine (G) ((D 2) ((G) ((L H 2) ((G) ((D 2) ((G) ((L H 1) ((G) ((NI H 5) fun hl4=>(G) ?_)))))))))
   refine bb hm5 fun y7 hy4 hm5=>?_
   refine (CA ok94 (q3c hy4 (F0:=nF) hI3 dI hl4)) (cE H fun w21 H=>(T) (Z ?_))
   obtain rfl:=sm hm5
   exact⟨y7,rfl,⟨rfl,rfl,rfl,rfl,trivial⟩,H.keep 9 4⟩
  refine (O) ((O) ((O) ((O) ((O) ((O) ((U) (Z ?_)))))))
  obtain rfl:=sm hm5
  exact⟨false,rfl,⟨rfl,rfl,rfl,rfl,trivial⟩,H.keep 9 4⟩
 rintro ρ' w22 ⟨s6,rfl,hag,H⟩
 obtain⟨σ,rfl⟩:=q4g hag
 refine (AZ) ?_
 refine bb hr fun q7 hm6 hr=>?_
 refine q0o (fun ρ' w=>∃ (s7:Bool),s7=q7∧q4z ρ' [(3,pB b1),(5,pB b3),(7,.slice A8 n8 c8),(120,.bool s7)]∧HL F0 [] w0 w d1 d2) ?_ ?_
 ·refine iB hm6 (fun _ hm6=>?_) fun _ hm6=>?_
  ·refine K ?_
   obtain rfl:=sm hm6
   exact⟨s6,rfl,⟨rfl,rfl,rfl,rfl,trivial⟩,H.keep 9 4⟩
  refine X ((D 0) ((L H 2) ((B) ((AZ) ?_))))
  obtain rfl:=sm hm6
  exact⟨(decide (a2.Kind=7)),rfl,⟨rfl,rfl,rfl,rfl,trivial⟩,H.keep 9 4⟩
 rintro ρ' w23 ⟨s7,rfl,hag,H⟩
 obtain⟨σ,rfl⟩:=q4g hag
 refine iB hr (fun _ hr=>?_) fun _ hr=>?_
 ·refine R ((AZ) (CR ?_))
  obtain rfl:=sm hr
  exact⟨_,res1 rfl rfl rfl,H.ext0,rfl,dI⟩
 refine R ((D 0) ((L H 2) ((B) ?_)))
 refine bb hr fun q8 hm7 hr=>?_
 refine WL.cut 5 (fun ρ' w=>∃ (s8:Bool),s8=q8∧q4z ρ' [(3,pB b1),(5,pB b3),(7,.slice A8 n8 c8),(143,.bool s8)]∧HL F0 [] w0 w d1 d2) ?_ ?_
 ·refine jD hm7 (fun _ hm7=>?_) fun _ hm7=>?_
  ·refine (G) ((V) ((G) ?_))
   have hl5:=(H.rO (i:=3) rfl).I
   refine (NN (ro H 3)) ((G) ((B) ((T) (Z ?_))))
   obtain rfl:=sm hm7
   exact⟨(decide ((s1.length:Int)=1)),rfl,⟨rfl,rfl,rfl,rfl,trivial⟩,H.keep 9 4⟩
  refine (O) ((O) ((O) ((U) (Z ?_))))
  obtain rfl:=sm hm7
  exact⟨false,rfl,⟨rfl,rfl,rfl,rfl,trivial⟩,H.keep 9 4⟩
 rintro ρ' w24 ⟨s8,rfl,hag,H⟩
 obtain⟨σ,rfl⟩:=q4g hag
 refine bb hr fun q9 hm8 hr=>?_
 refine WL.cut 6 (fun ρ' w=>∃ (s9:Bool),s9=q9∧q4z ρ' [(3,pB b1),(5,pB b3),(149,.bool s9)]∧HL F0 [] w0 w d1 d2) ?_ ?_
 ·refine jB hm8 (fun _ hm8=>?_) fun _ hm8=>?_
  ·refine (G) ((V) ((G) ?_))
   refine bb hm8 fun x7 hx7 hm8=>?_
   obtain⟨b14,cb14,hvb14,hbb14⟩:=po H 3 hx7
   refine (J 1 hvb14 hx7) ((G) ?_)
   obtain⟨hA7,hI21,H⟩:=q5f H 3 hx7 hbb14
   refine q0b rfl rfl (q0l rfl ag3 rfl (hA7.cell0 rfl)) ((G) ((B) ((T) (Z ?_))))
   obtain rfl:=sm hm8
   exact⟨(decide (x7=4)),rfl,⟨rfl,rfl,rfl,trivial⟩,H.keep 9 4⟩
  refine (O) ((O) ((O) ((O) ((U) (Z ?_)))))
  obtain rfl:=sm hm8
  exact⟨false,rfl,⟨rfl,rfl,rfl,trivial⟩,H.keep 9 4⟩
 rintro ρ' w25 ⟨s9,rfl,hag,H⟩
 obtain⟨σ,rfl⟩:=q4g hag
 refine (AZ) (iB hr (fun _ hr=>?_) fun _ hr=>?_)
 ·refine R ((LB H 0) ((D 4) ((L H 2) ?_)))
  obtain⟨⟨y8,y9⟩,hy5,hr⟩:=bd hr
  obtain⟨F,hF,hcl⟩:=H.call
  refine (CA j4E (q7f hy5 ⟨_,_,rfl,(hF.get (i:=3) rfl),(hF.get (i:=4) rfl)⟩ hS3)) ?_
  rintro _ w26 hE ⟨A11,n11,c11,rfl,hS8,H'⟩
  have H:HL F0 [] w0 w26 [.R a0 d4,.R a1 d3,.R a2 d5,d8,d9,d10,d7,d6,d11,.S y8.Attributes (.slice A11 n11 c11)] d2:=hcl H'
  refine (V) ((EX) ((EX) ((AH ze69 H) fun b15 w27 H=>(SB H 4) fun w28 H=>(A) (Z (R ((LB H 4) ((D 5) ((L H 2) ?_))))))))
  obtain⟨⟨y10,y11⟩,hy6,hr⟩:=bd hr
  refine (CA j9J (q9w hy6 ⟨_,rfl,hS8,(rs H 9)⟩ hS4)) ?_
  rintro _ w29 hE ⟨rfl,hS9,hI22,hI23⟩
  have H:=H.ext hE
  refine (V) ((EX) ((EX) ((AH q7T H) fun b16 w30 H=>(SB H 5) fun w31 H=>(A) (Z (R ((D 1) ((L H 5) ((AZ) (CR ?_)))))))))
  obtain rfl:=sm hr
  exact⟨_,res1 rfl rfl rfl,H.ext0,rfl,hI22⟩
 refine K (R ((AZ) (CR ?_)))
 obtain rfl:=sm hr
 exact⟨_,res1 rfl rfl rfl,H.ext0,rfl,dI⟩
def q6P:Nat→Grammar→Rule→Expr→Option Int
  | 0,_,_,_=>none
  | n+1,a0,a1,a2=>z0K (q6P n) a0 a1 a2
def q8S (a0:Grammar)(a1:Rule)(a2:Expr):Option Int:=recO fun n=>q6P n a0 a1 a2
theorem z8Q (n:Nat):∀ {a0:Grammar} {a1:Rule} {a2:Expr} {r:Int},q6P n a0 a1 a2=some r→∀ {F0:Nat→Prop} {w0:World} {ca0} (ha0:rd F0 w0 a0 ca0) {ca1} (ha1:rd F0 w0 a1 ca1) {ca2} (ha2:rd F0 w0 a2 ca2),RT 103 #[ag ca0,ag ca1,ag ca2] w0 fun v w=>v = .int .i64 r∧I64 r:=by
 induction n with
 | zero=>intro a0 a1 a2 r hr; exact nomatch (show (none:Option Int)=some r from hr)
 | succ n ih=>intro a0 a1 a2 r hr; exact z8P ih hr
theorem q9W {a0}{a1}{a2}{r}(hr:q8S a0 a1 a2=some r){ca0}(ha0:rd F0 w0 a0 ca0){ca1}(ha1:rd F0 w0 a1 ca1){ca2}(ha2:rd F0 w0 a2 ca2):RT 103 #[ag ca0,ag ca1,ag ca2] w0 fun v w=>v = .int .i64 r∧I64 r:=by
 obtain⟨n,hn⟩:=q5m hr
 exact z8Q n hn ha0 ha1 ha2
def z7q (a0:Grammar)(a1:Rule):Nat→Equation→Unit→Option (Unit ⊕ Bool):=fun k1 x1 _=>(q7g a0 a1 x1.At).bind fun (y1,y2)=>(q8S a0 a1 x1.Expr).bind fun y3=>if y3=y1.Type_ then some (.inl ()) else some (.inr true)
def z7r (a0:Grammar)(a1:Rule):Nat→Contribution→Unit→Option (Unit ⊕ Bool):=fun k2 x2 _=>(q4R a0 x2.Symbol).bind fun (y4,y5)=>(q5W y4 x2.Name).bind fun (y6,y7)=>(q8S a0 a1 x2.Target).bind fun y8=>( if y8=4 then (q8S a0 a1 x2.Value).bind fun y9=>some (!(decide (y9=2))) else some true ).bind fun s1=>( if s1=true then some true else some (!(decide (y6.Mode=3))) ).bind fun s2=>if s2=true then some (.inr true) else some (.inl ())
def z3d (a0:Grammar)(a1:Rule):Option Bool:=(q2I (z7q a0 a1) 0 a1.Equations ()).bind <| onr (fun r1=>some r1) fun _=>(q2I (z7r a0 a1) 0 a1.Contributions ()).bind <| onr (fun r2=>some r2) fun _=>some false
theorem j1W {a0}{a1}{r}(hr:z3d a0 a1=some r){ca0}(ha0:rd F0 w0 a0 ca0){ca1}(ha1:rd F0 w0 a1 ca1):RB 60 #[ag ca0,ag ca1] w0 r:=by
 have H:=((HL.start F0 w0).argR ha0).argR ha1
 obtain⟨A1,n1,c1,A2,n2,c2,rfl,H⟩:=q2C H 0
 let d8:Pr:=.S a0.Rules (.slice A2 n2 c2)
 let d6:Pr:=.S a0.Symbols (.slice A1 n1 c1)
 let d2:List Value:=[.slice A1 n1 c1,.slice A2 n2 c2]
 obtain⟨A3,n3,c3,A4,n4,c4,A5,n5,c5,rfl,hS1,hS2,H⟩:=q2U H 1
 let d9:Pr:=.S a1.Right (.slice A3 n3 c3)
 let d5:Pr:=.S a1.Equations (.slice A4 n4 c4)
 let d4:Pr:=.S a1.Contributions (.slice A5 n5 c5)
 let d1:=q3C a1 A3 n3 c3 A4 n4 c4 A5 n5 c5
 let d16:List Pr:=[.R a0 d2,.R a1 d1,d6,d8,d9,d5,d4]
 refine (En Tryz.func60) ?_
 refine R ((BX H) fun b1 w1 H=>(BX H) fun b2 w2 H=>(A) (Z (Y (R ((D 4) ((L H 1) ((NI H 5) fun hl1=>(V) (Z ?_))))))))
 let d15:It:=.B b1 31 d2
 refine bb hr fun q1 hq1 hr=>?_
 refine (lF hq1 (fun k1 _ _=>[(2,pB b1),(3,pB b2),(16,.slice A4 n4 c4),(17,zN a1.Equations.length),(18,zN k1)]) (fun _ _ w=>HL F0 [] w0 w d16 [d15,.B b2 65 d1]) ()) ?_
 rintro k1 _ _ σ w3 hk1 hq1 H
 refine R ((BZ) (Y ?_))
 refine q0d rfl (fun h1=>?_) (fun h1=>?_)
 ·have hk2:=q2L h1
  obtain⟨x1,z1,hx1,hb1,hs1,ht1⟩:=q4f hq1 hk2
  refine K (Y ?_)
  refine Bk (R ?_)
  obtain⟨b3,ob3,cb3,A6,n6,c6,hvb3,hI1,hS3,hI2,hI3,hI4,hI5,hS4,hS5,H⟩:=q4k H 5 hx1
  let d10:=q5R x1 A6 n6 c6
  refine (J 9 hvb3 hx1) ((LA H 7) ((AH z9A H) fun b4 w4 H=>(SB H 2) fun w5 H=>Z (R ((LB H 0) ((LB H 1) ((D 0) ?_))))))
  refine q0b rfl rfl (q0c rfl z1W q3Y rfl (Blk.part (rb H 2) 0 2) rfl) ?_
  obtain⟨⟨y1,y2⟩,hy1,hb1⟩:=bd hb1
  refine (CA j9I (z1j hy1 ⟨_,_,rfl,(rs H 2),(rs H 3)⟩ ⟨_,_,_,rfl,hS1,hS2,(rs H 4),(rs H 5),(rs H 6)⟩ ⟨rfl,hI1,hS3⟩)) ?_
  rintro _ w6 hE ⟨rfl,hS6,hI6,hI7⟩
  have H:=H.ext hE
  refine (V) ((EX) ((EX) ((AH q7T H) fun b5 w7 H=>(SB H 3) fun w8 H=>(AZ) (Y ?_))))
  let d14:List It:=[d15,.B b2 65 d1,.B b4 127 d10,.B b5 120 (q3k y1)]
  refine q0g hmix (by kernel_rfl) ?_
  refine (qLB H 0) ((qLB H 1) ((qD 2) ?_))
  refine q0k rfl rfl (fun _ hq=>q0c rfl q7S q5E rfl (Blk.part ((H.ext hq).rB (i:=2) rfl) 2 7) rfl) ?_
  refine bb hb1 fun y3 hy2 hb1=>?_
  refine (qC j7F (fun _ hq=>(q9W hy2 ⟨_,_,rfl,(rs (H.ext hq) 2),(rs (H.ext hq) 3)⟩ ⟨_,_,_,rfl,hS1,hS2,(rs (H.ext hq) 4),(rs (H.ext hq) 5),(rs (H.ext hq) 6)⟩ (q2F.2 ⟨_,rfl,hI2,hI3,hI4,hI5,hS4,hS5,(rs (H.ext hq) 9)⟩)).mono fun _ _ _ h=>h.1)) ?_
  obtain⟨_,_,_,hI8⟩:=(q9W hy2 ⟨_,_,rfl,(rs H 2),(rs H 3)⟩ ⟨_,_,_,rfl,hS1,hS2,(rs H 4),(rs H 5),(rs H 6)⟩ (q2F.2 ⟨_,rfl,hI2,hI3,hI4,hI5,hS4,hS5,(rs H 9)⟩)).get
  refine (qD 1) ((qL H 3) ((qB) ?_))
  refine QL.nil (fun w9 hE=>?_)
  have H:=H.ext hE
  refine iN hb1 (fun _ hb1=>?_) fun _ hb1=>?_
  ·refine Y ?_
   refine q0e [] trivial fun σ=>?_
   have H:HL F0 [] w0 w9 [.R a0 d2,.R a1 d1,d6,d8,d9,d5,d4,.A b3 (ob3+k1*9) d10,.R x1 d10,.S x1.Expr.Args (.slice A6 n6 c6)] d14:=H
   exact X ((AZ) (W2 hb1 ht1 hr))
  refine K ?_
  refine q0e [(2,pB b1),(3,pB b2),(16,.slice A4 n4 c4),(17,zN a1.Equations.length),(18,zN k1)] ⟨rfl,rfl,rfl,rfl,rfl,trivial⟩ fun σ=>?_
  have H:HL F0 [] w0 w9 [.R a0 d2,.R a1 d1,d6,d8,d9,d5,d4,.A b3 (ob3+k1*9) d10,.R x1 d10,.S x1.Expr.Args (.slice A6 n6 c6)] d14:=H
  exact X ((AN hk2 hl1) ((V) (Z (I2 hb1 hs1 ⟨k1+1,(),()⟩))))
 obtain rfl:=q3r hq1 (q2E h1)
 have hr:=(q3q _ _ _).symm.trans hr
 refine CE (Y (R ((D 5) ((L H 1) ((NI H 6) fun hl2=>(V) (Z ?_))))))
 refine bb hr fun q2 hq2 hr=>?_
 refine (lF hq2 (fun k2 _ _=>[(2,pB b1),(3,pB b2),(40,.slice A5 n5 c5),(41,zN a1.Contributions.length),(42,zN k2)]) (fun _ _ w=>HL F0 [] w0 w d16 [d15,.B b2 65 d1]) ()) ?_
 rintro k2 _ _ σ w10 hk3 hq2 H
 refine R ((BZ) (Y ?_))
 refine q0d rfl (fun h3=>?_) (fun h3=>?_)
 ·have hk4:=q2L h3
  obtain⟨x2,z2,hx2,hb2,hs2,ht2⟩:=q4f hq2 hk4
  refine K (Y ?_)
  refine Bk (R ?_)
  obtain⟨b6,ob6,cb6,A7,n7,c7,A8,n8,c8,hvb6,hS7,hS8,hI9,hI10,hI11,hI12,hS9,hS10,hI13,hI14,hI15,hI16,hS11,hS12,H⟩:=q4d H 6 hx2
  let d12:Pr:=.S x2.Value.Args (.slice A8 n8 c8)
  let d11:Pr:=.S x2.Target.Args (.slice A7 n7 c7)
  let d3:=q4K x2 A7 n7 c7 A8 n8 c8
  refine (J 16 hvb6 hx2) ((LA H 7) ((AH j1J H) fun b7 w11 H=>(SB H 2) fun w12 H=>Z (R ((LB H 0) ((D 0) ((L H 2) ?_))))))
  obtain⟨⟨y4,y5⟩,hy3,hb2⟩:=bd hb2
  obtain⟨F,hF,hcl⟩:=H.call
  refine (CA j4E (q7f hy3 ⟨_,_,rfl,(hF.get (i:=2) rfl),(hF.get (i:=3) rfl)⟩ hS7)) ?_
  rintro _ w13 hE ⟨A9,n9,c9,rfl,hS13,H'⟩
  let d13:Pr:=.S y4.Attributes (.slice A9 n9 c9)
  have H:HL F0 [] w0 w13 [.R a0 d2,.R a1 d1,d6,d8,d9,d5,d4,.A b6 (ob6+k2*16) d3,.R x2 d3,d11,d12,d13] [d15,.B b2 65 d1,.B b7 132 d3]:=hcl H'
  refine (V) ((EX) ((EX) ((AH ze69 H) fun b8 w14 H=>(SB H 3) fun w15 H=>(A) (Z (R ((LB H 3) ((D 1) ((L H 2) ?_))))))))
  obtain⟨⟨y6,y7⟩,hy4,hb2⟩:=bd hb2
  refine (CA j9J (q9w hy4 ⟨_,rfl,hS13,(rs H 11)⟩ hS8)) ?_
  rintro _ w16 hE ⟨rfl,hS14,hI17,hI18⟩
  have H:=H.ext hE
  refine (V) ((EX) ((EX) ((AH q7T H) fun b9 w17 H=>(SB H 4) fun w18 H=>(AZ) (Y ?_))))
  let d7:List It:=[d15,.B b2 65 d1,.B b7 132 d3,.B b8 69 (q3W y4 A9 n9 c9),.B b9 120 (q3k y6)]
  refine q0e [(2,pB b1),(3,pB b2),(10,pB b7),(13,pB b9),(40,.slice A5 n5 c5),(41,zN a1.Contributions.length),(42,zN k2)] ⟨rfl,rfl,rfl,rfl,rfl,rfl,rfl,trivial⟩ fun σ=>?_
  have H:HL F0 [] w0 w18 [.R a0 d2,.R a1 d1,d6,d8,d9,d5,d4,.A b6 (ob6+k2*16) d3,.R x2 d3,d11,d12,d13] d7:=H
  refine X ((LB H 0) ((LB H 1) ((D 2) ?_)))
  refine q0b rfl rfl (q0c rfl q7S q5E rfl (Blk.part (rb H 2) 2 7) rfl) ?_
  refine bb hb2 fun y8 hy5 hb2=>?_
  refine (CA j7F (q9W hy5 ⟨_,_,rfl,(rs H 2),(rs H 3)⟩ ⟨_,_,_,rfl,hS1,hS2,(rs H 4),(rs H 5),(rs H 6)⟩ (q2F.2 ⟨_,rfl,hI9,hI10,hI11,hI12,hS9,hS10,(rs H 9)⟩))) (cF' H fun w19 hI19 H=>(B) ?_)
  refine bb hb2 fun q3 hm1 hb2=>?_
  refine cu H 8 [(2,pB b1),(3,pB b2),(13,pB b9),(40,.slice A5 n5 c5),(41,zN a1.Contributions.length),(42,zN k2),(73,.bool q3)] [.R a0 d2,.R a1 d1,d6,d8,d9,d5,d4,.A b6 (ob6+k2*16) d3,.R x2 d3,d11,d12,d13] d7 ?_ fun σ w21 H=>?_
  ·refine jN hm1 (fun _ hm1=>?_) fun _ hm1=>?_
   ·exact OF hm1
   refine (G) ((LB H 0) ((G) ((LB H 1) ((G) ((D 9) ((G) ?_))))))
   refine q0b rfl rfl (q0c rfl q7S q5E rfl (Blk.part (rb H 2) 9 7) rfl) ((G) ?_)
   refine bb hm1 fun y9 hy6 hm1=>?_
   exact (CA j7F (q9W hy6 ⟨_,_,rfl,(rs H 2),(rs H 3)⟩ ⟨_,_,_,rfl,hS1,hS2,(rs H 4),(rs H 5),(rs H 6)⟩ (q2F.2 ⟨_,rfl,hI13,hI14,hI15,hI16,hS11,hS12,(rs H 10)⟩))) (cF' H fun w20 hI20 H=>(G) ((B) ((U) (Z (C1 hm1)))))
  refine bb hb2 fun q4 hm2 hb2=>?_
  refine cu H 5 [(2,pB b1),(3,pB b2),(40,.slice A5 n5 c5),(41,zN a1.Contributions.length),(42,zN k2),(78,.bool q4)] [.R a0 d2,.R a1 d1,d6,d8,d9,d5,d4,.A b6 (ob6+k2*16) d3,.R x2 d3,d11,d12,d13] d7 ?_ fun σ w22 H=>?_
  ·refine jB hm2 (fun _ hm2=>?_) fun _ hm2=>?_
   ·exact OF hm2
   exact (G) ((D 2) ((G) ((L H 4) ((G) ((B) ((U) (Z (C1 hm2))))))))
  refine Z (iB hb2 (fun _ hb2=>?_) fun _ hb2=>?_)
  ·exact R ((AZ) (W2 hb2 ht2 hr))
  exact K (X ((AN hk4 hl2) ((V) (Z (I2 hb2 hs2 ⟨k2+1,(),()⟩)))))
 obtain rfl:=q3r hq2 (q2E h3)
 have hr:=(q3q _ _ _).symm.trans hr
 exact CE (R ((AZ) (W1 hr)))
def z6h (a0:ByteArray)(a2:(List Int)):Nat→Symbol→Unit→Option (Unit ⊕ Int):=fun k1 x1 _=>if x1.Name=a0 then (a2[k1]?).bind fun x2=>some (.inr x2) else some (.inl ())
def z1Q (a0:ByteArray)(a1:Grammar)(a2:(List Int)):Option Int:=(q2I (z6h a0 a2) 0 a1.Symbols ()).bind <| onr (fun r1=>some r1) fun _=>some 0
theorem j0S {a0}{a1}{a2}{r}(hr:z1Q a0 a1 a2=some r)(ha0:a0.size≤9223372036854775807){b1p:Nat}(ha1:CapP F0 w0 b1p a1){b2p:Nat}(ha2:CapP F0 w0 b2p a2):RT 106 #[.string a0,pB b1p,pB b2p] w0 fun v w=>v = .int .i64 r∧I64 r:=by
 have H:=HL.start F0 w0
 obtain⟨cpa1,H⟩:=H.argP ha1
 obtain⟨A1,n1,c1,A2,n2,c2,rfl,H⟩:=q2C H 1
 obtain⟨cpa2,H⟩:=H.argP ha2
 obtain⟨A3,n3,c3,rfl,H⟩:=k1S H 5
 refine (En Tryz.func106) ?_
 refine R ((A) (Z (Y (R ((D 0) ((LC H 0) ((NI H 2) fun hl1=>(V) (Z ?_))))))))
 refine bb hr fun q1 hq1 hr=>?_
 refine (lF hq1 (fun k1 _ _=>[(0,.string a0),(2,pB b2p),(8,.slice A1 n1 c1),(9,zN a1.Symbols.length),(10,zN k1)]) (fun _ _ w=>HL F0 [] w0 w [.A b1p 0 [.slice A1 n1 c1,.slice A2 n2 c2],.R a1 [.slice A1 n1 c1,.slice A2 n2 c2],.S a1.Symbols (.slice A1 n1 c1),.S a1.Rules (.slice A2 n2 c2),.A b2p 0 [.slice A3 n3 c3],.R a2 [.slice A3 n3 c3],.S a2 (.slice A3 n3 c3)] []) ()) ?_
 rintro k1 _ _ σ w1 hk1 hq1 H
 refine R ((BZ) (Y ?_))
 refine q0d rfl (fun h1=>?_) (fun h1=>?_)
 ·have hk2:=q2L h1
  obtain⟨x1,z1,hx1,hb1,hs1,ht1⟩:=q4f hq1 hk2
  refine K (Y ?_)
  refine Bk (R ((V) ?_))
  obtain⟨b1,ob1,cb1,A4,n4,c4,hvb1,hS1,H⟩:=q4B H 2 hx1
  refine (J 2 hvb1 hx1) ((LA H 7) ((AH ze69 H) fun b2 w2 H=>(A) ((SB H 0) fun w3 H=>Z (R ((D 0) ((L H 0) ((V) ((BZ) (iD hb1 (fun _ hb1=>?_) fun _ hb1=>?_)))))))))
  ·refine R ((L0 H 4) ((V) ?_))
   refine bb hb1 fun x2 hx2 hb1=>?_
   obtain⟨b3,ob3,cb3,hvb3,hI1,H⟩:=z0k H 6 hx2
   exact (J 1 hvb3 hx2) ((L0 H 10) ((AZ) (W2 hb1 ht1 hr)))
  exact K (X ((AN hk2 hl1) ((V) (Z (I2 hb1 hs1 ⟨k1+1,(),()⟩)))))
 obtain rfl:=q3r hq1 (q2E h1)
 have hr:=(q3q _ _ _).symm.trans hr
 exact CE (R ((AZ) (W1 hr)))
def z5m (a0:Grammar)(s2:List Int):Nat→ByteArray→Bool→Option Bool:=fun k3 x4 s8=>( if s8=true then (z1Q x4 a0 s2).bind fun y1=>some (decide (0 < y1)) else some false ).bind fun s9=>some s9
def z3e (a0:Grammar)(s2:List Int)(s3:Int)(k1:Nat)(x1:Symbol):Nat→Rule→(List Int)→Option (List Int):=fun k2 x3 s6=>( (q2G (z5m a0 s2) 0 x3.Right (decide (x3.Left=x1.Name))).bind fun s8=>if s8=true then (s6[k1]?).bind fun x5=>some (List.set s6 k1 s3) else some s6 ).bind fun s7=>some s7
def z3f (a0:Grammar)(s2:List Int)(s3:Int):Nat→Symbol→(List Int)→Option (List Int):=fun k1 x1 s4=>( (s2[k1]?).bind fun x2=>if 0 < x2 then some s4 else (q2G (z3e a0 s2 s3 k1 x1) 0 a0.Rules s4).bind fun s6=>some s6 ).bind fun s5=>some s5
def q9x (a0:Grammar):((List Int) × Int)→Option (((List Int) × Int) ⊕ (List Int)):=fun (s2,s3)=>if s3≤(a0.Symbols.length:Int) then grd (0≤(s2.length:Int)∧(s2.length:Int)*8≤281474976710656∧(s2.length:Int)≤9223372036854775807) <| grd (s2.length=(List.replicate s2.length (0:Int)).length) <| (q2G (z3f a0 s2 s3) 0 a0.Symbols s2).bind fun s4=>grd (I64 (s3+1)) <| some (.inl (s4,(s3+1))) else some (.inr s2)
def z2y (a0:Grammar):Option (List Int):=grd (0≤(a0.Symbols.length:Int)∧(a0.Symbols.length:Int)*8≤281474976710656∧(a0.Symbols.length:Int)≤9223372036854775807) <| ( q5u (q9x a0) ((List.replicate a0.Symbols.length (0:Int)),1) ).bind fun s1=>some s1
theorem j2V {a0}{r}(hr:z2y a0=some r){ca0}(ha0:rd F0 w0 a0 ca0):RT 61 #[ag ca0] w0 fun v w=>∃ A0 n0 c0,v=(.slice A0 n0 c0)∧HL F0 [] w0 w [] [.O 3 r (.slice A0 n0 c0)]:=by
 have H:=(HL.start F0 w0).argR ha0
 obtain⟨A1,n1,c1,A2,n2,c2,rfl,H⟩:=q2C H 0
 let d8:Pr:=.S a0.Rules (.slice A2 n2 c2)
 let d6:Pr:=.S a0.Symbols (.slice A1 n1 c1)
 let d1:List Value:=[.slice A1 n1 c1,.slice A2 n2 c2]
 let d2:List Pr:=[.R a0 d1,d6,d8]
 refine (En Tryz.func61) ?_
 refine R ((BX H) fun b1 w1 H=>(A) (Z (R ((D 0) ((L H 0) ((NI H 1) fun hl1=>?_))))))
 let d10:It:=.B b1 31 d1
 refine gg hr fun hg1 hr=>?_
 refine q0I (x:=(0:Int)) rfl rfl rfl el58 sz3 by3 ze3 (fun _=>⟨rfl,rfl,dI⟩) rfl rfl hg1 H fun A3 n3 c3 w2 H=>(AH ze58 H) fun b2 w3 H=>(SB H 2) fun w4 H=>Z (R ?_)
 refine q0b rfl rfl (q0w rfl rfl rfl) ((A) (Z (Y (R ((AZ) ?_)))))
 refine bb hr fun q1 hm1 hr=>?_
 refine q0o (fun ρ' w=>∃ (s1:List Int) (v1:Value),s1=q1∧q4z ρ' [(3,pB b2)]∧HL F0 [] w0 w d2 [d10,.O 3 s1 v1,.B b2 58 [v1]]) ?_ ?_
 ·obtain⟨m1,hq1⟩:=q4o.1 hm1
  refine (lI hq1 (fun m1 ⟨s2,s3⟩ v2=>[(1,pB b1),(3,pB b2),(4,.func (.func 106) #[] #[pB b1,pB b2]),(5,.int .i64 s3)]) (fun ⟨s2,s3⟩ v2 w=>I64 s3∧HL F0 [] w0 w d2 [d10,.O 3 s2 v2,.B b2 58 [v2]]) (.slice A3 n3 c3)) ?_
  rintro m1 ⟨s2,s3⟩ v2 σ w5 hq1 ⟨hI1,H⟩
  obtain⟨A4,n4,c4,rfl⟩:=(fo H 1)
  let d7:It:=.O 3 s2 (.slice A4 n4 c4)
  let d5:It:=.B b2 58 [.slice A4 n4 c4]
  obtain⟨m2,z1,rfl,hb1,hs1,ht1⟩:=q6H hq1
  refine Y (R ((V) ((D 0) ((L H 0) ((NN (rs H 1)) ((BZ) (iD hb1 (fun _ hb1=>?_) fun _ hb1=>?_)))))))
  ·refine K (Y ?_)
   refine Bk (R ((L H 2) ?_))
   have hl2:=(H.rO (i:=1) rfl).I
   refine (NN (ro H 1)) ?_
   refine gg hb1 fun hg2 hb1=>?_
   refine q0I (x:=(0:Int)) rfl rfl rfl el58 sz3 by3 ze3 (fun _=>⟨rfl,rfl,dI⟩) rfl rfl hg2 H fun A5 n5 c5 w6 H=>(A) (Z (R ((V) ((L H 2) ?_))))
   refine gg hb1 fun hg3 hb1=>?_
   refine q2z (i:=3) rfl rfl rfl el58 sz3 rfl rfl H rfl (ro H 1) hg3 fun w7 H=>Z (Y (R ((D 0) ((L H 0) ((NN (rs H 1)) ((V) (Z ?_)))))))
   refine bb hb1 fun q2 hq2 hb1=>?_
   refine (lE hq2 (fun k1 s4 _=>[(1,pB b1),(3,pB b2),(4,.func (.func 106) #[] #[pB b1,pB b2]),(5,.int .i64 s3),(6,.slice A5 n5 c5),(33,.slice A1 n1 c1),(34,zN a0.Symbols.length),(35,zN k1)]) (fun s4 _ w=>HL F0 [] w0 w d2 [d10,d7,d5,.O 3 s4 (.slice A5 n5 c5)]) ()) ?_
   rintro k1 s4 _ σ w8 hk1 hq2 H
   refine R ((BZ) (Y ?_))
   refine q0d rfl (fun h2=>?_) (fun h2=>?_)
   ·have hk2:=q2L h2
    obtain⟨x1,z2,hx1,hb2,hq2⟩:=q4F hq2 hk2
    refine K ?_
    refine bb hb2 fun q3 hm2 hb2=>?_
    refine CW.seq (cm H [(1,pB b1),(3,pB b2),(4,.func (.func 106) #[] #[pB b1,pB b2]),(5,.int .i64 s3),(6,.slice A5 n5 c5),(33,.slice A1 n1 c1),(34,zN a0.Symbols.length),(35,zN k1)] d2 [d10,d7,d5,.O 3 q3 (.slice A5 n5 c5)] ?_ fun σ w19 H=>?_)
    ·refine Bk (R ((V) ?_))
     obtain⟨b3,ob3,cb3,A6,n6,c6,hvb3,hS1,H⟩:=q4B H 1 hx1
     let d9:Pr:=.S x1.Attributes (.slice A6 n6 c6)
     let d3:=q3W x1 A6 n6 c6
     refine (J 2 hvb3 hx1) ((LA H 3) ((AH ze69 H) fun b4 w9 H=>(A) ((SB H 4) fun w10 H=>Z (Y (R ((L H 2) ((V) ?_)))))))
     refine bb hm2 fun x2 hx2 hm2=>?_
     let d11:Pr:=.R x2 [.int .i64 x2]
     obtain⟨b5,cb5,hvb5,hbb5⟩:=po H 1 hx2
     refine (J 1 hvb5 hx2) ?_
     obtain⟨hA1,hI2,H⟩:=q5f H 1 hx2 hbb5
     refine q0b rfl rfl (q0l rfl ag3 rfl (hA1.cell0 rfl)) ((BZ) (iD hm2 (fun _ hm2=>?_) fun _ hm2=>?_))
     ·exact CE (C1 hm2)
     refine K (R ((D 1) ((L H 0) ((NI H 2) fun hl3=>(V) (Z ?_)))))
     refine bb hm2 fun q4 hq3 hm2=>?_
     refine (lE hq3 (fun k2 s6 _=>[(1,pB b1),(3,pB b2),(4,.func (.func 106) #[] #[pB b1,pB b2]),(5,.int .i64 s3),(6,.slice A5 n5 c5),(7,zN k1),(8,pB b4),(33,.slice A1 n1 c1),(34,zN a0.Symbols.length),(35,zN k1),(46,.slice A2 n2 c2),(47,zN a0.Rules.length),(48,zN k2)]) (fun s6 _ w=>HL F0 [] w0 w [.R a0 d1,d6,d8,.A b3 (ob3+k1*2) d3,.R x1 d3,d9,d11] [d10,d7,d5,.O 3 s6 (.slice A5 n5 c5),.B b4 69 d3]) ()) ?_
     rintro k2 s6 _ σ w11 hk3 hq3 H
     refine R ((BZ) (Y ?_))
     refine q0d rfl (fun h4=>?_) (fun h4=>?_)
     ·have hk4:=q2L h4
      obtain⟨x3,z3,hx3,hb3,hq3⟩:=q4F hq3 hk4
      refine K ?_
      refine bb hb3 fun q5 hm3 hb3=>?_
      refine CW.seq (cm H [(1,pB b1),(3,pB b2),(4,.func (.func 106) #[] #[pB b1,pB b2]),(5,.int .i64 s3),(6,.slice A5 n5 c5),(7,zN k1),(8,pB b4),(33,.slice A1 n1 c1),(34,zN a0.Symbols.length),(35,zN k1),(46,.slice A2 n2 c2),(47,zN a0.Rules.length),(48,zN k2)] [.R a0 d1,d6,d8,.A b3 (ob3+k1*2) d3,.R x1 d3,d9,d11] [d10,d7,d5,.O 3 q5 (.slice A5 n5 c5),.B b4 69 d3] ?_ fun σ w18 H=>?_)
      ·refine Bk (R ?_)
       obtain⟨b6,ob6,cb6,A7,n7,c7,A8,n8,c8,A9,n9,c9,hvb6,hS2,hS3,H⟩:=q6k H 2 hx3
       let d4:=q3C x3 A7 n7 c7 A8 n8 c8 A9 n9 c9
       refine (J 6 hvb6 hx3) ((LA H 7) ((AH ze65 H) fun b7 w12 H=>(SB H 5) fun w13 H=>Z (R ((D 1) ((L H 5) ((D 0) ((L H 4) ((B) ((A) (Z (Y (R ((D 2) ((L H 5) ((NI H 9) fun hl4=>(V) (Z ?_))))))))))))))))
       refine bb hm3 fun q6 hq4 hm3=>?_
       refine (lE hq4 (fun k3 s8 _=>[(1,pB b1),(3,pB b2),(4,.func (.func 106) #[] #[pB b1,pB b2]),(5,.int .i64 s3),(6,.slice A5 n5 c5),(7,zN k1),(8,pB b4),(11,.bool s8),(33,.slice A1 n1 c1),(34,zN a0.Symbols.length),(35,zN k1),(46,.slice A2 n2 c2),(47,zN a0.Rules.length),(48,zN k2),(58,.slice A7 n7 c7),(59,zN x3.Right.length),(60,zN k3)]) (fun s8 _ w=>HL F0 [] w0 w [.R a0 d1,d6,d8,.A b3 (ob3+k1*2) d3,.R x1 d3,d9,d11,.A b6 (ob6+k2*6) d4,.R x3 d4,.S x3.Right (.slice A7 n7 c7),.S x3.Equations (.slice A8 n8 c8),.S x3.Contributions (.slice A9 n9 c9)] [d10,d7,d5,.O 3 s6 (.slice A5 n5 c5),.B b4 69 d3,.B b7 65 d4]) ()) ?_
       rintro k3 s8 _ σ w14 hk5 hq4 H
       refine R ((BZ) (Y ?_))
       refine q0d rfl (fun h5=>?_) (fun h5=>?_)
       ·have hk6:=q2L h5
        obtain⟨x4,z4,hx4,hb4,hq4⟩:=q4F hq4 hk6
        refine K ?_
        refine bb hb4 fun q7 hm4 hb4=>?_
        refine CW.seq (cm H [(1,pB b1),(3,pB b2),(4,.func (.func 106) #[] #[pB b1,pB b2]),(5,.int .i64 s3),(6,.slice A5 n5 c5),(7,zN k1),(8,pB b4),(11,.bool q7),(33,.slice A1 n1 c1),(34,zN a0.Symbols.length),(35,zN k1),(46,.slice A2 n2 c2),(47,zN a0.Rules.length),(48,zN k2),(58,.slice A7 n7 c7),(59,zN x3.Right.length),(60,zN k3)] [.R a0 d1,d6,d8,.A b3 (ob3+k1*2) d3,.R x1 d3,d9,d11,.A b6 (ob6+k2*6) d4,.R x3 d4,.S x3.Right (.slice A7 n7 c7),.S x3.Equations (.slice A8 n8 c8),.S x3.Contributions (.slice A9 n9 c9)] [d10,d7,d5,.O 3 s6 (.slice A5 n5 c5),.B b4 69 d3,.B b7 65 d4] ?_ fun σ w16 H=>?_)
        ·refine Bk (R ?_)
         obtain⟨b8,ob8,cb8,hvb8,hS4,H⟩:=q8q H 9 hx4
         refine (J 1 hvb8 hx4) ((L0 H 12) ((A) (Z (X ((V) (jB hm4 (fun _ hm4=>?_) fun _ hm4=>?_))))))
         ·refine (G) ((V) ((G) ((V) ((G) ?_))))
          refine bb hm4 fun y1 hy1 hm4=>?_
          exact (CA k2a (j0S hy1 (F0:=fun q=>q < _) hS4 ⟨(rb H 0).lt,_,At.blk (rb H 0),⟨_,_,rfl,(rs H 1),(rs H 2)⟩⟩ ⟨(rb H 2).lt,_,At.blk (rb H 2),⟨_,rfl,(ro H 1)⟩⟩)) (cF' H fun w15 hI3 H=>(G) ((B) ((T) ((AZ) (C1 hm4)))))
         exact (O) ((O) ((O) ((O) ((U) ((AZ) (C1 hm4))))))
        exact X ((AN hk6 hl4) ((V) (Z (I1 hb4 ⟨k3+1,q7,()⟩))))
       obtain rfl:=q3N hq4 (q2E h5)
       refine CE (R ((V) (Z (iB hm3 (fun _ hm3=>?_) fun _ hm3=>?_))))
       ·refine X ((V) ((V) ((V) ?_)))
        refine bb hm3 fun x5 hx5 hm3=>?_
        obtain⟨b9,cb9,hvb9,hbb9⟩:=po H 3 hx5
        refine (J 1 hvb9 hx5) ?_
        exact q0F (i:=3) (z:=s3) rfl rfl rfl sz3 rfl rfl rfl (fun _=>⟨rfl,rfl,hI1⟩) H rfl hbb9 (by simpa using q4X hx5) fun w17 H=>Z (C1 hm3)
       exact K (C1 hm3)
      exact X ((AN hk4 hl3) ((V) (Z (I1 hb3 ⟨k2+1,q5,()⟩))))
     obtain rfl:=q3N hq3 (q2E h4)
     exact CE (C1 hm2)
    exact X ((AN hk2 hl1) ((V) (Z (I1 hb2 ⟨k1+1,q3,()⟩))))
   obtain rfl:=q3N hq2 (q2E h2)
   refine CE (X ((V) ((SB H 2) fun w20 H=>Z (X ((V) ?_)))))
   refine gg hb1 fun hg4 hb1=>(BN (Bin.add hg4)) ((AZ) ?_)
   have H:=H.swap 1 3
   exact I2 hb1 hs1 ⟨m2,⟨s4,(s3+1)⟩,(.slice A5 n5 c5)⟩
  exact CE (C2 hb1 ht1)
 rintro ρ' w21 ⟨s1,v1,rfl,hag,H⟩
 obtain⟨σ,rfl⟩:=q4g hag
 obtain⟨A10,n10,c10,rfl⟩:=(fo H 1)
 exact R ((L H 2) ((AZ) (W1 hr)))
def z3s (a0:Grammar):Nat→Rule→Unit→Option (Unit ⊕ (Int × Int)):=fun k1 x1 _=>(z3d a0 x1).bind fun y3=>if y3=true then some (.inr (7,(k1:Int))) else some (.inl ())
def z3t:Nat→Int→Unit→Option (Unit ⊕ (Int × Int)):=fun k2 x2 _=>if x2=0 then some (.inr (8,(k2:Int))) else some (.inl ())
def q8T (a0:Grammar):Option (Int × Int):=(z0J a0).bind fun (y1,y2)=>if y1=0 then (q2I (z3s a0) 0 a0.Rules ()).bind <| onr (fun r1=>some r1) fun _=>(z2y a0).bind fun y4=>(q2I z3t 0 y4 ()).bind <| onr (fun r2=>some r2) fun _=>some (0,0) else some (y1,y2)
theorem z7M {a0}{r}(hr:q8T a0=some r){ca0}(ha0:rd F0 w0 a0 ca0):RT 28 #[ag ca0] w0 fun v w=>v = .tuple #[.int .i64 r.1,.int .i64 r.2]∧I64 r.1∧I64 r.2:=by
 have H:=(HL.start F0 w0).argR ha0
 obtain⟨A1,n1,c1,A2,n2,c2,rfl,H⟩:=q2C H 0
 let d2:List Value:=[.slice A1 n1 c1,.slice A2 n2 c2]
 let d1:List Pr:=[.R a0 d2,.S a0.Symbols (.slice A1 n1 c1),.S a0.Rules (.slice A2 n2 c2)]
 refine (En Tryz.func28) ?_
 refine R ((BX H) fun b1 w1 H=>(A) ((A) (Z (Y (R ((LB H 0) ?_))))))
 obtain⟨⟨y1,y2⟩,hy1,hr⟩:=bd hr
 refine (CA ok59 (z9O hy1 ⟨_,_,rfl,(rs H 1),(rs H 2)⟩)) ?_
 rintro _ w2 hE ⟨rfl,hI1,hI2⟩
 have H:=H.ext hE
 refine (V) ((EX) ((EX) ((A) ((A) (Z (R ((V) ((BZ) (iN hr (fun _ hr=>?_) fun _ hr=>?_)))))))))
 ·exact R ((V) ((V) ((A) ((AZ) (W1 hr)))))
 refine K (Y (R ((D 1) ((L H 0) ((NI H 2) fun hl1=>(V) (Z ?_))))))
 refine bb hr fun q1 hq1 hr=>?_
 refine (lF hq1 (fun k1 _ _=>[(1,pB b1),(20,.slice A2 n2 c2),(21,zN a0.Rules.length),(22,zN k1)]) (fun _ _ w=>HL F0 [] w0 w d1 [.B b1 31 d2]) ()) ?_
 rintro k1 _ _ σ w3 hk1 hq1 H
 refine R ((BZ) (Y ?_))
 refine q0d rfl (fun h2=>?_) (fun h2=>?_)
 ·have hk2:=q2L h2
  obtain⟨x1,z1,hx1,hb1,hs1,ht1⟩:=q4f hq1 hk2
  refine K (Y ?_)
  refine Bk (R ((V) ?_))
  obtain⟨b2,ob2,cb2,A3,n3,c3,A4,n4,c4,A5,n5,c5,hvb2,hS1,hS2,H⟩:=q6k H 2 hx1
  refine (J 6 hvb2 hx1) ((LA H 3) ((AH ze65 H) fun b3 w4 H=>(A) ((SB H 1) fun w5 H=>Z (R ((LB H 0) ((LB H 1) ?_))))))
  refine bb hb1 fun y3 hy2 hb1=>?_
  refine (CA ok60 (j1W hy2 ⟨_,_,rfl,(rs H 1),(rs H 2)⟩ ⟨_,_,_,rfl,hS1,hS2,(rs H 5),(rs H 6),(rs H 7)⟩)) (cE H fun w6 H=>Z (iB hb1 (fun _ hb1=>?_) fun _ hb1=>?_))
  ·exact R ((V) ((A) ((AZ) (W2 hb1 ht1 hr))))
  exact K (X ((AN hk2 hl1) ((V) (Z (I2 hb1 hs1 ⟨k1+1,(),()⟩)))))
 obtain rfl:=q3r hq1 (q2E h2)
 have hr:=(q3q _ _ _).symm.trans hr
 refine CE (Y (R ((LB H 0) ?_)))
 refine bb hr fun y4 hy3 hr=>?_
 refine (CA ok61 (j2V hy3 ⟨_,_,rfl,(rs H 1),(rs H 2)⟩)) ?_
 rintro _ w7 hE ⟨A6,n6,c6,rfl,H'⟩
 have H:=H.callA H' tv
 have hl2:=(H.rO (i:=1) rfl).I
 refine (NN (ro H 1)) ((V) (Z ?_))
 refine bb hr fun q2 hq2 hr=>?_
 refine (lF hq2 (fun k2 _ _=>[(33,.slice A6 n6 c6),(34,zN y4.length),(35,zN k2)]) (fun _ _ w=>HL F0 [] w0 w d1 [.B b1 31 d2,.O 3 y4 (.slice A6 n6 c6)]) ()) ?_
 rintro k2 _ _ σ w8 hk3 hq2 H
 refine R ((BZ) (Y ?_))
 refine q0d rfl (fun h4=>?_) (fun h4=>?_)
 ·have hk4:=q2L h4
  obtain⟨x2,z2,hx2,hb2,hs2,ht2⟩:=q4f hq2 hk4
  refine K (Y ?_)
  refine Bk (R ((V) ?_))
  obtain⟨b4,cb4,hvb4,hbb4⟩:=po H 1 hx2
  refine (J 1 hvb4 hx2) ?_
  obtain⟨hA1,hI3,H⟩:=q5f H 1 hx2 hbb4
  refine q0b rfl rfl (q0l rfl ag3 rfl (hA1.cell0 rfl)) ((A) ((A) (Z (R ((V) ((BZ) (iD hb2 (fun _ hb2=>?_) fun _ hb2=>?_)))))))
  ·exact R ((V) ((A) ((AZ) (W2 hb2 ht2 hr))))
  exact K (X ((AN hk4 hl2) ((V) (Z (I2 hb2 hs2 ⟨k2+1,(),()⟩)))))
 obtain rfl:=q3r hq2 (q2E h4)
 have hr:=(q3q _ _ _).symm.trans hr
 exact CE (R ((A) ((AZ) (W1 hr))))
def z1k (a0:Grammar):Option Bool:=(q8T a0).bind fun (y1,y2)=>some (decide (y1=0))
theorem z7s {a0}{r}(hr:z1k a0=some r){ca0}(ha0:rd F0 w0 a0 ca0):RB 15 #[ag ca0] w0 r:=by
 have H:=(HL.start F0 w0).argR ha0
 obtain⟨A1,n1,c1,A2,n2,c2,rfl,H⟩:=q2C H 0
 refine (En Tryz.func15) ?_
 refine R ((BX H) fun b1 w1 H=>(A) (Z (R ((LB H 0) ?_))))
 obtain⟨⟨y1,y2⟩,hy1,hr⟩:=bd hr
 refine (CA ok28 (z7M hy1 ⟨_,_,rfl,(rs H 1),(rs H 2)⟩)) ?_
 rintro _ w2 hE ⟨rfl,hI1,hI2⟩
 have H:=H.ext hE
 exact (V) ((EX) ((EX) ((A) ((A) (Z (R ((V) ((B) ((AZ) (W1 hr))))))))))
def z1l:Nat→Attribute→(List Attribute)→Option (List Attribute):=fun k1 x1 s1=>( if x1.Mode=1 then grd (((s1.length:Int)+1)*40≤140737488355328∧(s1.length:Int)+1≤9223372036854775807) <| some (s1++[x1]) else if x1.Mode=2 then grd (((s1.length:Int)+1)*40≤140737488355328∧(s1.length:Int)+1≤9223372036854775807) <| some (s1++[x1]) else some s1 ).bind fun s2=>some s2
def q3h (a0:Grammar)(a1:ByteArray):Option (List Attribute):=(q4R a0 a1).bind fun (y1,y2)=>(q2G z1l 0 y1.Attributes ([]:List Attribute)).bind fun s1=>some s1
theorem q6Q {a0}{a1}{r}(hr:q3h a0 a1=some r){ca0}(ha0:rd F0 w0 a0 ca0)(ha1:a1.size≤9223372036854775807):RT 108 #[ag ca0,.string a1] w0 fun v w=>∃ A0 n0 c0,v=(.slice A0 n0 c0)∧HL F0 [] w0 w [] [.O 120 r (.slice A0 n0 c0)]:=by
 have H:=(HL.start F0 w0).argR ha0
 obtain⟨A1,n1,c1,A2,n2,c2,rfl,H⟩:=q2C H 0
 let d2:List Value:=[.slice A1 n1 c1,.slice A2 n2 c2]
 refine (En Tryz.func108) ?_
 refine R ((BX H) fun b1 w1 H=>(AZ) (R ?_))
 refine q0h (α:=Attribute) rfl rfl rfl el67 q9m H fun A3 n3 c3 w2 H=>(A) (Z (R ((LB H 0) ((V) ?_))))
 obtain⟨⟨y1,y2⟩,hy1,hr⟩:=bd hr
 obtain⟨F,hF,hcl⟩:=H.call
 refine (CA j4E (q7f hy1 ⟨_,_,rfl,(hF.get (i:=1) rfl),(hF.get (i:=2) rfl)⟩ ha1)) ?_
 rintro _ w3 hE ⟨A4,n4,c4,rfl,hS1,H'⟩
 let d1:List Pr:=[.R a0 d2,.S a0.Symbols (.slice A1 n1 c1),.S a0.Rules (.slice A2 n2 c2),.S y1.Attributes (.slice A4 n4 c4)]
 have H:HL F0 [] w0 w3 d1 [.B b1 31 d2,.O 120 ([]:List Attribute) (.slice A3 n3 c3)]:=hcl H'
 refine (V) ((EX) ((EX) ((AH ze69 H) fun b2 w4 H=>(SB H 2) fun w5 H=>(A) (Z (Y (R ((D 1) ((L H 2) ((NI H 3) fun hl1=>(V) (Z ?_))))))))))
 refine bb hr fun q1 hq1 hr=>?_
 refine (lE hq1 (fun k1 s1 v1=>[(5,v1),(18,.slice A4 n4 c4),(19,zN y1.Attributes.length),(20,zN k1)]) (fun s1 v1 w=>HL F0 [] w0 w d1 [.B b1 31 d2,.O 120 s1 v1,.B b2 69 (q3W y1 A4 n4 c4)]) (.slice A3 n3 c3)) ?_
 rintro k1 s1 v1 σ w6 hk1 hq1 H
 obtain⟨A5,n5,c5,rfl⟩:=(fo H 1)
 refine R ((BZ) (Y ?_))
 refine q0d rfl (fun h1=>?_) (fun h1=>?_)
 ·have hk2:=q2L h1
  obtain⟨x1,z1,hx1,hb1,hq1⟩:=q4F hq1 hk2
  refine K ?_
  refine bb hb1 fun q2 hm1 hb1=>Y ?_
  refine q0o (fun ρ' w=>∃ (s2:List Attribute) (v2:Value),s2=q2∧q4z ρ' [(5,v2),(18,.slice A4 n4 c4),(19,zN y1.Attributes.length),(20,zN k1)]∧HL F0 [] w0 w d1 [.B b1 31 d2,.O 120 s2 v2,.B b2 69 (q3W y1 A4 n4 c4)]) ?_ ?_
  ·refine Bk (R ?_)
   obtain⟨b3,ob3,cb3,hvb3,hS2,hI1,hI2,H⟩:=q4L H 3 hx1
   refine (J 4 hvb3 hx1) ((LA H 4) ((AH q7T H) fun b4 w7 H=>(SB H 3) fun w8 H=>Z (R ((D 2) ((L H 3) ((B) (jD hm1 (fun _ hm1=>?_) fun _ hm1=>?_)))))))
   ·refine (O) ((O) ((O) ((T) (Z ((cT) (X ((V) ((LB H 3) ?_))))))))
    refine q0n rfl rfl rfl el67 q9m q7T rfl rfl rfl rfl rfl rfl fun b5 w9 hE hb hB=>?_
    have H:=H.newB hE hb hB
    refine gg hm1 fun hg1 hm1=>?_
    exact q0q (i:=1) (ys:=[x1]) rfl rfl rfl el67 q9m j4D q7T rfl rfl rfl H rfl (fun _=>ownL.single ⟨rfl,hS2,hI1,hI2,rfl⟩) (.inr ⟨_,_,rfl,At.blk (rb H 4)⟩) hg1 fun A6 n6 c6 w10 H=>(AZ) (C1 hm1)
   refine (G) ((D 2) ((G) ((L H 3) ((G) ((B) ((U) (Z (iD hm1 (fun _ hm1=>?_) fun _ hm1=>?_))))))))
   ·refine X ((V) ((LB H 3) ?_))
    refine q0n rfl rfl rfl el67 q9m q7T rfl rfl rfl rfl rfl rfl fun b6 w11 hE hb hB=>?_
    have H:=H.newB hE hb hB
    refine gg hm1 fun hg2 hm1=>?_
    exact q0q (i:=1) (ys:=[x1]) rfl rfl rfl el67 q9m j4D q7T rfl rfl rfl H rfl (fun _=>ownL.single ⟨rfl,hS2,hI1,hI2,rfl⟩) (.inr ⟨_,_,rfl,At.blk (rb H 4)⟩) hg2 fun A7 n7 c7 w12 H=>(AZ) (C1 hm1)
   exact K (C1 hm1)
  rintro ρ' w13 ⟨s2,v2,rfl,hag,H⟩
  obtain⟨σ,rfl⟩:=q4g hag
  obtain⟨A8,n8,c8,rfl⟩:=(fo H 1)
  exact X ((AN hk2 hl1) ((V) (Z (I1 hb1 ⟨k1+1,s2,(.slice A8 n8 c8)⟩))))
 obtain rfl:=q3N hq1 (q2E h1)
 exact CE (R ((V) ((AZ) (W1 hr))))
def q5X (a0:Int):Option Relation:=(q2P a0 0 16).bind fun y1=>if y1=true then grd (0≤a0∧a0*8≤281474976710656∧a0≤9223372036854775807) <| some (⟨a0,(List.replicate a0.toNat (0:Int))⟩:Relation) else some (⟨0,[]⟩:Relation)
theorem q9y {a0}{r}(hr:q5X a0=some r)(ha0:I64 a0):RT 107 #[.int .i64 a0] w0 fun v w=>∃ A0 n0 c0,v = .agg #[.int .i64 r.N,(.slice A0 n0 c0)]∧I64 r.N∧HL F0 [] w0 w [] [.O 3 r.Rows (.slice A0 n0 c0)]:=by
 have H:=HL.start F0 w0
 refine (En Tryz.func107) ?_
 refine R ((AH ze60 H) fun b1 w1 H=>Z (Y (R ((V) ?_))))
 refine bb hr fun y1 hy1 hr=>?_
 refine (CA ok94 (q3c hy1 (F0:=nF) ha0 dI dI)) (cE H fun w2 H=>(N) (Z (iM hr (fun _ hr=>?_) fun _ hr=>?_)))
 ·refine R ?_
  refine q0b rfl rfl (Ev.build rfl pl60 ze60 rfl rfl rfl rfl) ((SB H 0) fun w3 H=>Z (CR ?_))
  have H:=H.nil (α:=Int) 3
  obtain rfl:=sm hr
  exact⟨_,resC rfl ag60 sz60 rfl rfl (ab H 0) rfl,H.ext0,_,_,_,rfl,dI,H.outM (fr':=[]) [false,true] tw⟩
 refine K (R ((V) ((V) ?_)))
 refine gg hr fun hg1 hr=>?_
 refine q0I (x:=(0:Int)) rfl rfl rfl el58 sz3 by3 ze3 (fun _=>⟨rfl,rfl,dI⟩) rfl rfl hg1 H fun A1 n1 c1 w4 H=>?_
 refine q0b rfl rfl (Ev.build rfl pl60 ze60 rfl rfl rfl rfl) ((SB H 0) fun w5 H=>Z (CR ?_))
 obtain rfl:=sm hr
 exact⟨_,resC rfl ag60 sz60 rfl rfl (ab H 0) rfl,H.ext0,_,_,_,rfl,ha0,H.outM (fr':=[]) [false,true] tw⟩
def q8U (a0:Grammar):Nat→Symbol→(List Relation)→Option (List Relation):=fun k1 x1 s1=>(q3h a0 x1.Name).bind fun y1=>(q5X (y1.length:Int)).bind fun y2=>grd (((s1.length:Int)+1)*32≤140737488355328∧(s1.length:Int)+1≤9223372036854775807) <| some (s1++[y2])
def q7N (a0:Grammar):Option (List Relation):=(q2G (q8U a0) 0 a0.Symbols ([]:List Relation)).bind fun s1=>some s1
theorem z6i {a0}{r}(hr:q7N a0=some r){ca0}(ha0:rd F0 w0 a0 ca0):RT 62 #[ag ca0] w0 fun v w=>∃ A0 n0 c0,v=(.slice A0 n0 c0)∧HL F0 [] w0 w [] [.G 60 r (.slice A0 n0 c0)]:=by
 have H:=(HL.start F0 w0).argR ha0
 obtain⟨A1,n1,c1,A2,n2,c2,rfl,H⟩:=q2C H 0
 refine (En Tryz.func62) ?_
 refine R ((BX H) fun b1 w1 H=>(AZ) (R ?_))
 refine q0h (α:=Relation) rfl rfl rfl el54 sz60 H fun A3 n3 c3 w2 H=>?_
 have H:=H.toG (i:=1) rfl
 refine (A) (Z (Y (R ((D 0) ((L H 0) ((NI H 1) fun hl1=>(V) (Z ?_)))))))
 refine bb hr fun q1 hq1 hr=>?_
 refine Bk (CW.loop (α:=Nat × (List Relation) × Value) (fun ⟨k1,s1,v1⟩=>[(1,pB b1),(3,v1),(8,.slice A1 n1 c1),(9,zN a0.Symbols.length),(10,zN k1)]) (fun ⟨k1,s1,v1⟩ w=>k1≤a0.Symbols.length∧q2G (q8U a0) k1 (a0.Symbols.drop k1) s1=some q1∧HL F0 [] w0 w [.R a0 [.slice A1 n1 c1,.slice A2 n2 c2],.S a0.Symbols (.slice A1 n1 c1),.S a0.Rules (.slice A2 n2 c2)] [.B b1 31 [.slice A1 n1 c1,.slice A2 n2 c2],.G 60 s1 v1]) (fun ⟨k1,s1,v1⟩=>a0.Symbols.length - k1) ⟨0,([]:List Relation),(.slice A3 n3 c3)⟩ ⟨rfl,rfl,rfl,rfl,rfl,trivial⟩ ⟨Nat.zero_le _,hq1,H.keep 3 2⟩ ?_)
 rintro⟨k1,s1,v1⟩ σ w3 ⟨hk1,hq1,H⟩
 obtain⟨A4,n4,c4,rfl⟩:=(H.rG (i:=1) rfl).form3
 refine R ((BZ) (Y ?_))
 refine q0d rfl (fun h1=>?_) (fun h1=>?_)
 ·have hk2:=q2L h1
  obtain⟨x1,z1,hx1,hb1,hq1⟩:=q4F hq1 hk2
  refine K (Y ?_)
  refine Bk (R ?_)
  obtain⟨b2,ob2,cb2,A5,n5,c5,hvb2,hS1,H⟩:=q4B H 1 hx1
  refine (J 2 hvb2 hx1) ((LA H 3) ((AH ze69 H) fun b3 w4 H=>(SB H 2) fun w5 H=>Z (X ((V) ((LB H 0) ((D 0) ((L H 2) ?_)))))))
  refine bb hb1 fun y1 hy1 hb1=>?_
  refine (CA j7G (q6Q hy1 ⟨_,_,rfl,(rs H 1),(rs H 2)⟩ hS1)) ?_
  rintro _ w6 hE ⟨A6,n6,c6,rfl,H'⟩
  have H:=H.callA H' tv
  have hl2:=(H.rO (i:=3) rfl).I
  refine (NN (ro H 3)) ?_
  refine bb hb1 fun y2 hy2 hb1=>?_
  refine (CA j9K (q9y hy2 (F0:=nF) hl2)) ?_
  rintro _ w7 hE ⟨A7,n7,c7,rfl,hI1,H'⟩
  have H:=H.callA H' tv
  refine q0n rfl rfl rfl el54 sz60 ze60 rfl rfl rfl rfl rfl rfl fun b4 w8 hE hb hB=>?_
  have H:=H.newB hE hb hB
  have H:=H.frzO (i:=4) rfl
  refine gg hb1 fun hg1 hb1=>?_
  refine q0M (i:=1) (ys:=[y2]) rfl rfl rfl el54 sz60 by60 ze60 rfl rfl rfl H rfl (fun F hF=>rdL.single ⟨_,rfl,hI1,(hF.get (i:=6) rfl)⟩) (.inr ⟨_,_,rfl,At.blk (rb H 5)⟩) hg1 fun A8 n8 c8 w9 H=>(A) (Z (X ((AN hk2 hl1) ((V) (Z ?_)))))
  obtain rfl:=sm hb1
  exact⟨⟨k1+1,(s1++[y2]),(.slice A8 n8 c8)⟩,⟨rfl,rfl,rfl,rfl,rfl,trivial⟩,⟨hk2,hq1,H.keep 3 2⟩,Nat.sub_lt_sub_left hk2 (Nat.lt_succ_self _)⟩
 obtain rfl:=q3N hq1 (q2E h1)
 refine CE (R ((V) ((AZ) (CR ?_))))
 obtain rfl:=sm hr
 exact⟨_,res1 rfl rfl rfl,H.ext0,_,_,_,rfl,H.outM (fr':=[]) [false,true] tw⟩
def q8m (a0:Symbol)(a1:ByteArray):Option Bool:=some (decide (a0.Name=a1))
theorem z6L {a0}{a1}{r}(hr:q8m a0 a1=some r){ca0}(ha0:rd F0 w0 a0 ca0){b1p:Nat}(ha1:CapP F0 w0 b1p a1):RB 110 #[ag ca0,pB b1p] w0 r:=by
 have H:=(HL.start F0 w0).argR ha0
 obtain⟨A1,n1,c1,rfl,hS1,H⟩:=q6T H 0
 obtain⟨cpa1,H⟩:=H.argP ha1
 obtain⟨rfl,hS2,H⟩:=k0V H 3
 refine (En Tryz.func110) ?_
 exact R ((BX H) fun b1 w1 H=>(A) (Z (R ((D 0) ((L H 0) ((L0 H 2) ((B) ((AZ) (W1 hr)))))))))
def q5b (a1_0:ByteArray):Nat→Symbol→Unit→Option (Unit ⊕ Int):=fun k1 x1 _=>(q8m x1 a1_0).bind fun y1=>if y1=true then some (.inr (k1:Int)) else some (.inl ())
def q3T (a0:(List Symbol))(a1_0:ByteArray):Option Int:=(q2I (q5b a1_0) 0 a0 ()).bind <| onr (fun r1=>some r1) fun _=>some (-1)
theorem q7m {a0}{a1_0}{r}(hr:q3T a0 a1_0=some r){z0}(ha0:rdS F0 w0 a0 z0){b1_0p:Nat}(ha1_0:CapP F0 w0 b1_0p a1_0):RT 109 #[z0,.func (.func 110) #[] #[pB b1_0p]] w0 fun v w=>v = .int .i64 r∧I64 r:=by
 exact ixFu (gm:=fun x=>q8m x a1_0) (caps:=[pB b1_0p]) Tryz.func109 hr ha0 k2b fun w1 hE x cs y hy hx=>z6L hy hx (CapP.lt ha1_0 hE)
def q8d (a0:Grammar)(a1:ByteArray):Option Int:=(q3T a0.Symbols a1).bind fun y1=>some y1
theorem z3X {a0}{a1}{r}(hr:q8d a0 a1=some r){ca0}(ha0:rd F0 w0 a0 ca0)(ha1:a1.size≤9223372036854775807):RT 63 #[ag ca0,.string a1] w0 fun v w=>v = .int .i64 r∧I64 r:=by
 have H:=(HL.start F0 w0).argR ha0
 obtain⟨A1,n1,c1,A2,n2,c2,rfl,H⟩:=q2C H 0
 refine (En Tryz.func63) ?_
 refine R ((BX H) fun b1 w1 H=>(BX H) fun b2 w2 H=>(A) (Z (R ((D 0) ((L H 0) ?_)))))
 refine q0b rfl rfl (q0w rfl rfl rfl) ?_
 refine bb hr fun y1 hy1 hr=>?_
 exact (CA k1a (q7m hy1 (F0:=fun q=>q < _) (rs H 1) ⟨(rb H 1).lt,_,At.blk (rb H 1),⟨rfl,ha1⟩⟩)) (cF' H fun w3 hI1 H=>(AZ) (W1 hr))
def q4E (k1:Nat):Nat→Attribute→(List Occurrence)→Option (List Occurrence):=fun k2 x1 s2=>grd (((s2.length:Int)+1)*24≤140737488355328∧(s2.length:Int)+1≤9223372036854775807) <| some (s2++[(⟨(k1:Int),x1.Name⟩:Occurrence)])
def q2Z (a0:Grammar)(a1:Rule):Nat→(List Occurrence)→Option (List Occurrence):=fun k1 s1=>(q6f a1 (k1:Int)).bind fun y1=>(q3h a0 y1).bind fun y2=>(q2G (q4E k1) 0 y2 s1).bind fun s2=>some s2
def q4e (a0:Grammar)(a1:Rule):Option (List Occurrence):=grd (I64 ((a1.Right.length+1:Nat):Int)) <| (q7u (q2Z a0 a1) 0 ((a1.Right.length+1)) ([]:List Occurrence)).bind fun s1=>some s1
theorem q9z {a0}{a1}{r}(hr:q4e a0 a1=some r){ca0}(ha0:rd F0 w0 a0 ca0){ca1}(ha1:rd F0 w0 a1 ca1):RT 116 #[ag ca0,ag ca1] w0 fun v w=>∃ A0 n0 c0,v=(.slice A0 n0 c0)∧HL F0 [] w0 w [] [.O 122 r (.slice A0 n0 c0)]:=by
 have H:=((HL.start F0 w0).argR ha0).argR ha1
 obtain⟨A1,n1,c1,A2,n2,c2,rfl,H⟩:=q2C H 0
 obtain⟨A3,n3,c3,A4,n4,c4,A5,n5,c5,rfl,hS1,hS2,H⟩:=q2U H 1
 let d2:=q3C a1 A3 n3 c3 A4 n4 c4 A5 n5 c5
 let d1:List Pr:=[.R a0 [.slice A1 n1 c1,.slice A2 n2 c2],.R a1 d2,.S a0.Symbols (.slice A1 n1 c1),.S a0.Rules (.slice A2 n2 c2),.S a1.Right (.slice A3 n3 c3),.S a1.Equations (.slice A4 n4 c4),.S a1.Contributions (.slice A5 n5 c5)]
 refine (En Tryz.func116) ?_
 refine R ((BX H) fun b1 w1 H=>(BX H) fun b2 w2 H=>(AZ) (R ?_))
 let d3:It:=.B b1 31 [.slice A1 n1 c1,.slice A2 n2 c2]
 refine q0h (α:=Occurrence) rfl rfl rfl el88 q3Y H fun A6 n6 c6 w3 H=>(A) (Z (Y (R ((D 2) ((L H 1) ((NI H 4) fun hl1=>?_))))))
 refine gg hr fun hg1 hr=>?_
 refine (BN (q0x (a:=a1.Right.length) (b:=1) rfl hg1)) ((V) (Z ?_))
 refine bb hr fun q1 hq1 hr=>?_
 refine (lN hq1 (fun k1 s1 v1=>[(2,pB b1),(3,pB b2),(5,v1),(13,.int .i64 ((a1.Right.length+1:Nat):Int)),(14,zN k1)]) (fun s1 v1 w=>HL F0 [] w0 w d1 [d3,.B b2 65 d2,.O 122 s1 v1]) (.slice A6 n6 c6)) ?_
 rintro k1 s1 v1 σ w4 hk1 hq1 H
 obtain⟨A7,n7,c7,rfl⟩:=(fo H 2)
 refine R ((BZ) (Y ?_))
 refine q0d rfl (fun h1=>?_) (fun h1=>?_)
 ·have hk2:=q2L h1
  obtain⟨z1,hb1,hq1⟩:=z1I hq1 hk2
  refine K (Y ?_)
  refine Bk (R ((V) ((AZ) (Y ?_))))
  refine q0A (fun w=>HL F0 [] w0 w d1 [d3,.B b2 65 d2,.O 122 s1 (.slice A7 n7 c7)]) hmix (fun w5 hE=>?_)
  have H:HL F0 [] w0 w5 d1 [d3,.B b2 65 d2,.O 122 s1 (.slice A7 n7 c7)]:=H.ext hE
  refine HW.take 0 (H.keep 7 3) rfl (by kernel_rfl) rfl rfl (fun _ hq=>q0c rfl ag31 sz31 rfl (At.blk (hq.rB (i:=0) rfl)) rfl) ?_
  refine HW.take 1 (H.keep 7 3) rfl (by kernel_rfl) rfl rfl (fun _ hq=>q0c rfl ag65 sz65 rfl (At.blk (hq.rB (i:=1) rfl)) rfl) ?_
  refine HW.take 2 (H.keep 7 3) rfl (by kernel_rfl) rfl rfl (fun _ _=>q0r rfl rfl) ?_
  refine HW.take 6 (H.keep 7 3) rfl (by kernel_rfl) rfl rfl (fun _ _=>q0r rfl rfl) ?_
  refine q0f 3 rfl (by kernel_rfl) ?_
  refine bb hb1 fun y1 hy1 hb1=>?_
  refine (CA j7I (q7z hy1 ⟨_,_,_,rfl,hS1,hS2,(rs H 4),(rs H 5),(rs H 6)⟩ (q5v hk2 hg1))) (cF' H fun w6 hS3 H=>?_)
  refine q0a (H.keep 7 3) ?_
  refine q0f 4 rfl (by kernel_rfl) ?_
  refine bb hb1 fun y2 hy2 hb1=>?_
  refine (CA j7G (q6Q hy2 ⟨_,_,rfl,(rs H 2),(rs H 3)⟩ hS3)) ?_
  rintro _ w7 hE ⟨A8,n8,c8,rfl,H'⟩
  have H:=H.callA H' tv
  refine q0a (H.keep 7 3) ?_
  have hl2:=(H.rO (i:=3) rfl).I
  refine HW.take 5 (H.keep 7 3) rfl (by kernel_rfl) rfl rfl (fun _ _=>q0J rfl el67 rfl (ro H 3)) ?_
  refine q0i (by kernel_rfl) ?_
  refine bb hb1 fun q2 hq2 hb1=>?_
  refine (lE hq2 (fun k2 s2 v2=>[(2,pB b1),(3,pB b2),(5,v2),(6,zN k1),(13,.int .i64 ((a1.Right.length+1:Nat):Int)),(14,zN k1),(21,.slice A8 n8 c8),(22,zN y2.length),(23,zN k2)]) (fun s2 v2 w=>HL F0 [] w0 w d1 [d3,.B b2 65 d2,.O 122 s2 v2,.O 120 y2 (.slice A8 n8 c8)]) (.slice A7 n7 c7)) ?_
  rintro k2 s2 v2 σ w8 hk3 hq2 H
  obtain⟨A9,n9,c9,rfl⟩:=(fo H 2)
  refine R ((BZ) (Y ?_))
  refine q0d rfl (fun h2=>?_) (fun h2=>?_)
  ·have hk4:=q2L h2
   obtain⟨x1,z2,hx1,hb2,hq2⟩:=q4F hq2 hk4
   refine K (Y ?_)
   refine Bk (R ?_)
   obtain⟨b3,cb3,hvb3,hbb3⟩:=po H 3 hx1
   refine (J 4 hvb3 hx1) ?_
   obtain⟨hA1,hS4,hI1,hI2,H⟩:=q3O H 3 hx1 hbb3
   refine q0b rfl rfl (q0c rfl z7z q9m rfl hA1 rfl) ((AH q7T H) fun b4 w9 H=>(SB H 4) fun w10 H=>Z (X ((V) ((V) ((D 0) ((L H 4) ?_))))))
   refine q0b rfl rfl (Ev.build rfl j1L q7h rfl rfl rfl rfl) ?_
   refine q0n rfl rfl rfl el88 q3Y q7h rfl rfl rfl rfl rfl rfl fun b5 w11 hE hb hB=>?_
   have H:=H.newB hE hb hB
   refine gg hb2 fun hg2 hb2=>?_
   exact q0q (i:=2) (ys:=[(⟨(k1:Int),x1.Name⟩:Occurrence)]) rfl rfl rfl el88 q3Y z6B q7h rfl rfl rfl H rfl (fun _=>ownL.single ⟨rfl,(q5v hk2 hg1),hS4,rfl⟩) (.inr ⟨_,_,rfl,At.blk (rb H 5)⟩) hg2 fun A10 n10 c10 w12 H=>(A) (Z (X ((AN hk4 hl2) ((V) (Z (I1 hb2 ⟨k2+1,(s2++[(⟨(k1:Int),x1.Name⟩:Occurrence)]),(.slice A10 n10 c10)⟩))))))
  obtain rfl:=q3N hq2 (q2E h2)
  exact CE (X ((AN hk2 hg1) ((V) (Z (I1 hb1 ⟨k1+1,s2,(.slice A9 n9 c9)⟩)))))
 obtain rfl:=q9Y hq1 (q2E h1)
 exact CE (R ((V) ((AZ) (W1 hr))))
def z7t (rec_icopyExpr:Expr→Option Expr):Nat→Expr→(List Expr)→Option (List Expr):=fun k1 x1 s1=>(rec_icopyExpr x1).bind fun y1=>grd (((s1.length:Int)+1)*88≤140737488355328∧(s1.length:Int)+1≤9223372036854775807) <| some (s1++[y1])
def z5n (rec_icopyExpr:Expr→Option Expr)(a0:Expr):Option Expr:=(q2G (z7t rec_icopyExpr) 0 a0.Args ([]:List Expr)).bind fun s1=>some (⟨a0.Kind,a0.N,a0.Pos,a0.Type_,a0.Symbol,a0.Name,s1⟩:Expr)
theorem j0T {rec_icopyExpr:Expr→Option Expr}(ih_icopyExpr:∀ {a0 r:Expr},rec_icopyExpr a0=some r→∀ {F0:Nat→Prop} {w0:World} {ca0} (ha0:rd F0 w0 a0 ca0),RT 195 #[ag ca0] w0 fun v w=>∃ A0 n0 c0,v = .agg #[.int .i64 r.Kind,.int .i64 r.N,.int .i64 r.Pos,.int .i64 r.Type_,.string r.Symbol,.string r.Name,(.slice A0 n0 c0)]∧I64 r.Kind∧I64 r.N∧I64 r.Pos∧I64 r.Type_∧r.Symbol.size≤9223372036854775807∧r.Name.size≤9223372036854775807∧HL F0 [] w0 w [] [.G 125 r.Args (.slice A0 n0 c0)]){a0 r}(hr:z5n rec_icopyExpr a0=some r){ca0}(ha0:rd F0 w0 a0 ca0):RT 195 #[ag ca0] w0 fun v w=>∃ A0 n0 c0,v = .agg #[.int .i64 r.Kind,.int .i64 r.N,.int .i64 r.Pos,.int .i64 r.Type_,.string r.Symbol,.string r.Name,(.slice A0 n0 c0)]∧I64 r.Kind∧I64 r.N∧I64 r.Pos∧I64 r.Type_∧r.Symbol.size≤9223372036854775807∧r.Name.size≤9223372036854775807∧HL F0 [] w0 w [] [.G 125 r.Args (.slice A0 n0 c0)]:=by
 have H:=(HL.start F0 w0).argR ha0
 obtain⟨A1,n1,c1,rfl,hI1,hI2,hI3,hI4,hS1,hS2,H⟩:=q3X H 0
 let d2:=q2T a0 A1 n1 c1
 refine (En Tryz.func195) ?_
 refine R ((BX H) fun b1 w1 H=>(AH z0a H) fun b2 w2 H=>Z (R ((A) (Z (Y (R ((D 6) ((L H 0) ((NI H 1) fun hl1=>(V) (Z ?_))))))))))
 let d1:It:=.B b2 125 [.int .i64 0,.int .i64 0,.int .i64 0,.int .i64 0,.string eB,.string eB,.slice none 0 0]
 have H:=H.nilG (α:=Expr) 125
 refine bb hr fun q1 hq1 hr=>?_
 refine Bk (CW.loop (α:=Nat × (List Expr) × Value) (fun ⟨k1,s1,v1⟩=>[(1,pB b1),(2,pB b2),(3,v1),(7,.slice A1 n1 c1),(8,zN a0.Args.length),(9,zN k1)]) (fun ⟨k1,s1,v1⟩ w=>k1≤a0.Args.length∧q2G (z7t rec_icopyExpr) k1 (a0.Args.drop k1) s1=some q1∧HL F0 [] w0 w [.R a0 d2,.S a0.Args (.slice A1 n1 c1)] [.B b1 125 d2,d1,.G 125 s1 v1]) (fun ⟨k1,s1,v1⟩=>a0.Args.length - k1) ⟨0,([]:List Expr),(.slice none 0 0)⟩ ⟨rfl,rfl,rfl,rfl,rfl,rfl,trivial⟩ ⟨Nat.zero_le _,hq1,H.keep 2 3⟩ ?_)
 rintro⟨k1,s1,v1⟩ σ w3 ⟨hk1,hq1,H⟩
 obtain⟨A2,n2,c2,rfl⟩:=(H.rG (i:=2) rfl).form3
 refine R ((BZ) (Y ?_))
 refine q0d rfl (fun h1=>?_) (fun h1=>?_)
 ·have hk2:=q2L h1
  obtain⟨x1,z1,hx1,hb1,hq1⟩:=q4F hq1 hk2
  refine K (Y ?_)
  refine Bk (R ?_)
  obtain⟨b3,ob3,cb3,A3,n3,c3,hvb3,hI5,hI6,hI7,hI8,hS3,hS4,H⟩:=q4G H 1 hx1
  let d3:=q2T x1 A3 n3 c3
  refine (J 7 hvb3 hx1) ((LA H 2) ((AH z0a H) fun b4 w4 H=>(SB H 3) fun w5 H=>Z (X ((V) ((LB H 3) ?_)))))
  refine bb hb1 fun y1 hy1 hb1=>?_
  obtain⟨F,hF,hcl⟩:=H.call
  refine (CA k1n (ih_icopyExpr hy1 (q2F.2 ⟨_,rfl,hI5,hI6,hI7,hI8,hS3,hS4,(hF.get (i:=4) rfl)⟩))) ?_
  rintro _ w6 hE ⟨A4,n4,c4,rfl,hI9,hI10,hI11,hI12,hS5,hS6,H'⟩
  have H:HL F0 [] w0 w6 [.R a0 d2,.S a0.Args (.slice A1 n1 c1),.A b3 (ob3+k1*7) d3,.R x1 d3,.S x1.Args (.slice A3 n3 c3)] [.B b1 125 d2,d1,.G 125 s1 (.slice A2 n2 c2),.B b4 125 d3,.G 125 y1.Args (.slice A4 n4 c4)]:=hcl H'
  refine q0n rfl rfl rfl z7A q5E z0a rfl rfl rfl rfl rfl rfl fun b5 w7 hE hb hB=>?_
  have H:=H.newB hE hb hB
  have H:=H.frzG (i:=4) rfl
  refine gg hb1 fun hg1 hb1=>?_
  refine q0M (i:=2) (ys:=[y1]) rfl rfl rfl z7A q5E j5M z0a rfl rfl rfl H rfl (fun F hF=>rdL.single (q2F.2 ⟨_,rfl,hI9,hI10,hI11,hI12,hS5,hS6,(hF.get (i:=5) rfl)⟩)) (.inr ⟨_,_,rfl,At.blk (rb H 5)⟩) hg1 fun A5 n5 c5 w8 H=>(A) (Z (X ((AN hk2 hl1) ((V) (Z ?_)))))
  obtain rfl:=sm hb1
  exact⟨⟨k1+1,(s1++[y1]),(.slice A5 n5 c5)⟩,⟨rfl,rfl,rfl,rfl,rfl,rfl,trivial⟩,⟨hk2,hq1,H.keep 2 3⟩,Nat.sub_lt_sub_left hk2 (Nat.lt_succ_self _)⟩
 obtain rfl:=q3N hq1 (q2E h1)
 refine CE (R ((V) ((D 6) ((SB H 0) fun w9 H=>Z (R ((LB H 0) ((SB H 1) fun w10 H=>Z (CR ?_))))))))
 obtain rfl:=sm hr
 exact⟨_,resC rfl q7S q5E rfl rfl (ab H 1) rfl,H.ext0,_,_,_,rfl,hI1,hI2,hI3,hI4,hS1,hS2,H.outM (fr':=[]) [false,false,true] tw⟩
def q9A:Nat→Expr→Option Expr
  | 0,_=>none
  | n+1,a0=>z5n (q9A n) a0
def z5o (a0:Expr):Option Expr:=recO fun n=>q9A n a0
theorem j0U (n:Nat):∀ {a0 r:Expr},q9A n a0=some r→∀ {F0:Nat→Prop} {w0:World} {ca0} (ha0:rd F0 w0 a0 ca0),RT 195 #[ag ca0] w0 fun v w=>∃ A0 n0 c0,v = .agg #[.int .i64 r.Kind,.int .i64 r.N,.int .i64 r.Pos,.int .i64 r.Type_,.string r.Symbol,.string r.Name,(.slice A0 n0 c0)]∧I64 r.Kind∧I64 r.N∧I64 r.Pos∧I64 r.Type_∧r.Symbol.size≤9223372036854775807∧r.Name.size≤9223372036854775807∧HL F0 [] w0 w [] [.G 125 r.Args (.slice A0 n0 c0)]:=by
 induction n with
 | zero=>intro a0 r hr; exact nomatch (show (none:Option Expr)=some r from hr)
 | succ n ih=>intro a0 r hr; exact j0T ih hr
theorem j1X {a0 r}(hr:z5o a0=some r){ca0}(ha0:rd F0 w0 a0 ca0):RT 195 #[ag ca0] w0 fun v w=>∃ A0 n0 c0,v = .agg #[.int .i64 r.Kind,.int .i64 r.N,.int .i64 r.Pos,.int .i64 r.Type_,.string r.Symbol,.string r.Name,(.slice A0 n0 c0)]∧I64 r.Kind∧I64 r.N∧I64 r.Pos∧I64 r.Type_∧r.Symbol.size≤9223372036854775807∧r.Name.size≤9223372036854775807∧HL F0 [] w0 w [] [.G 125 r.Args (.slice A0 n0 c0)]:=by
 obtain⟨n,hn⟩:=q5m hr
 exact j0U n hn ha0
def z0n (a1:Occurrence):Nat→Equation→Unit→Option (Unit ⊕ (Expr × Bool)):=fun k1 x1 _=>if x1.At=a1 then (z5o x1.Expr).bind fun y1=>some (.inr (y1,true)) else some (.inl ())
def q7C (a0:Rule)(a1:Occurrence):Option (Expr × Bool):=(q2I (z0n a1) 0 a0.Equations ()).bind <| onr (fun r1=>some r1) fun _=>some ((⟨0,0,0,0,(⟨#[]⟩:ByteArray),(⟨#[]⟩:ByteArray),[]⟩:Expr),false)
theorem z7N {a0}{a1}{r}(hr:q7C a0 a1=some r){ca0}(ha0:rd F0 w0 a0 ca0){ca1}(ha1:rd F0 w0 a1 ca1):RT 164 #[ag ca0,ag ca1] w0 fun v w=>∃ A0 n0 c0,v = .tuple #[.agg #[.int .i64 r.1.Kind,.int .i64 r.1.N,.int .i64 r.1.Pos,.int .i64 r.1.Type_,.string r.1.Symbol,.string r.1.Name,(.slice A0 n0 c0)],.bool r.2]∧I64 r.1.Kind∧I64 r.1.N∧I64 r.1.Pos∧I64 r.1.Type_∧r.1.Symbol.size≤9223372036854775807∧r.1.Name.size≤9223372036854775807∧HL F0 [] w0 w [] [.G 125 r.1.Args (.slice A0 n0 c0)]:=by
 let d3:=q2J a1
 have H:=((HL.start F0 w0).argR ha0).argR ha1
 obtain⟨A1,n1,c1,A2,n2,c2,A3,n3,c3,rfl,hS1,hS2,H⟩:=q2U H 0
 let d5:Pr:=.S a0.Contributions (.slice A3 n3 c3)
 let d2:=q3C a0 A1 n1 c1 A2 n2 c2 A3 n3 c3
 obtain⟨rfl,hI1,hS3,H⟩:=q2R H 1
 refine (En Tryz.func164) ?_
 refine R ((BX H) fun b1 w1 H=>(BX H) fun b2 w2 H=>(AH z0a H) fun b3 w3 H=>(A) (Z (Y (R ((D 4) ((L H 0) ((NI H 3) fun hl1=>(V) (Z ?_))))))))
 let d1:It:=.B b3 125 [.int .i64 0,.int .i64 0,.int .i64 0,.int .i64 0,.string eB,.string eB,.slice none 0 0]
 refine bb hr fun q1 hq1 hr=>?_
 refine (lF hq1 (fun k1 _ _=>[(3,pB b2),(4,pB b3),(9,.slice A2 n2 c2),(10,zN a0.Equations.length),(11,zN k1)]) (fun _ _ w=>HL F0 [] w0 w [.R a0 d2,.R a1 d3,.S a0.Right (.slice A1 n1 c1),.S a0.Equations (.slice A2 n2 c2),d5] [.B b1 65 d2,.B b2 122 d3,d1]) ()) ?_
 rintro k1 _ _ σ w4 hk1 hq1 H
 refine R ((BZ) (Y ?_))
 refine q0d rfl (fun h1=>?_) (fun h1=>?_)
 ·have hk2:=q2L h1
  obtain⟨x1,z1,hx1,hb1,hs1,ht1⟩:=q4f hq1 hk2
  refine K (Y ?_)
  refine Bk (R ?_)
  obtain⟨b4,ob4,cb4,A4,n4,c4,hvb4,hI2,hS4,hI3,hI4,hI5,hI6,hS5,hS6,H⟩:=q4k H 3 hx1
  let d4:=q5R x1 A4 n4 c4
  refine (J 9 hvb4 hx1) ((LA H 5) ((AH z9A H) fun b5 w5 H=>(SB H 3) fun w6 H=>Z (R ((D 0) ?_))))
  refine q0b rfl rfl (q0c rfl z1W q3Y rfl (Blk.part (rb H 3) 0 2) rfl) ((LB H 1) ((BN (q0D z9B (q4J x1.At a1))) (Z (iD hb1 (fun _ hb1=>?_) fun _ hb1=>?_))))
  ·refine R ((D 2) ?_)
   refine q0b rfl rfl (q0c rfl q7S q5E rfl (Blk.part (rb H 3) 2 7) rfl) ?_
   refine bb hb1 fun y1 hy1 hb1=>?_
   obtain⟨F,hF,hcl⟩:=H.call
   refine (CA k1n (j1X hy1 (q2F.2 ⟨_,rfl,hI3,hI4,hI5,hI6,hS5,hS6,(hF.get (i:=7) rfl)⟩))) ?_
   rintro _ w7 hE ⟨A5,n5,c5,rfl,hI7,hI8,hI9,hI10,hS7,hS8,H'⟩
   have H:HL F0 [] w0 w7 [.R a0 d2,.R a1 d3,.S a0.Right (.slice A1 n1 c1),.S a0.Equations (.slice A2 n2 c2),d5,.A b4 (ob4+k1*9) d4,.R x1 d4,.S x1.Expr.Args (.slice A4 n4 c4)] [.B b1 65 d2,.B b2 122 d3,d1,.B b5 127 d4,.G 125 y1.Args (.slice A5 n5 c5)]:=hcl H'
   refine (SB H 2) fun w8 H=>(AZ) (CR ?_)
   obtain rfl:=sm hb1
   obtain rfl:=ht1 _ rfl
   obtain rfl:=sm hr
   exact⟨_,z5J rfl q7S q5E rfl rfl rfl rfl (ab H 2) rfl,H.ext0,_,_,_,rfl,hI7,hI8,hI9,hI10,hS7,hS8,H.outM (fr':=[]) [false,false,false,false,true] tw⟩
  exact K (X ((AN hk2 hl1) ((V) (Z (I2 hb1 hs1 ⟨k1+1,(),()⟩)))))
 obtain rfl:=q3r hq1 (q2E h1)
 have hr:=(q3q _ _ _).symm.trans hr
 refine CE (R ?_)
 refine q0b rfl rfl (Ev.build rfl j9H z0a rfl rfl rfl rfl) ((SB H 2) fun w9 H=>(AZ) (CR ?_))
 have H:=H.nilG (α:=Expr) 125
 obtain rfl:=sm hr
 exact⟨_,z5J rfl q7S q5E rfl rfl rfl rfl (ab H 2) rfl,H.ext0,_,_,_,rfl,dI,dI,dI,dI,dI,dI,H.outM (fr':=[]) [false,false,false,true] tw⟩
def q5t (a0:(List Occurrence))(a1:Occurrence):Option Int:=(q3n a0 a1).bind fun y1=>some y1
theorem z1m {a0}{a1}{r}(hr:q5t a0 a1=some r){z0}(ha0:rdS F0 w0 a0 z0){ca1}(ha1:rd F0 w0 a1 ca1):RT 165 #[z0,ag ca1] w0 fun v w=>v = .int .i64 r∧I64 r:=by
 obtain⟨A0',n0',c0',rfl⟩:=ha0.form3
 have H:=((HL.start F0 w0).argS ha0).argR ha1
 obtain⟨rfl,hI1,hS1,H⟩:=q2R H 1
 refine (En Tryz.func165) ?_
 refine R ((BX H) fun b1 w1 H=>(A) (Z (R ((V) ((LB H 0) ?_)))))
 refine bb hr fun y1 hy1 hr=>?_
 exact (CA k1m (q7R hy1 (rs H 0) ⟨rfl,hI1,hS1⟩)) (cF' H fun w2 hI2 H=>(AZ) (W1 hr))
def q8V (a0:(List Int)):Option (List Int):=grd (((([]:(List Int)).length:Int)+(a0.length:Int))*8≤140737488355328∧(([]:(List Int)).length:Int)+(a0.length:Int)≤9223372036854775807) <| some a0
theorem z5p {a0 r}(hr:q8V a0=some r){z0}(ha0:rdS F0 w0 a0 z0):RT 161 #[z0] w0 fun v w=>∃ A0 n0 c0,v=(.slice A0 n0 c0)∧HL F0 [] w0 w [] [.O 3 r (.slice A0 n0 c0)]:=by
 obtain⟨A0',n0',c0',rfl⟩:=ha0.form3
 have H:=(HL.start F0 w0).argS ha0
 refine gg hr fun hg1 hr=>?_
 obtain rfl:=sm hr
 refine (En Tryz.func161) ?_
 refine R ((A) (Z (Y (R ((V) ((BN (q1x el58)) (Z ?_)))))))
 refine (q0d rfl (fun h1=>?_) (fun h1=>?_))
 ·refine R ((AZ) (CR ?_))
  have e0:a0=[]:=rdS.nil_of ha0 h1
  subst e0
  have H:=H.nil (α:=Int) 3
  exact⟨_,res1 rfl rfl rfl,H.ext0,_,_,_,rfl,H.outM (fr':=[]) [true] tw⟩
 refine K (R ?_)
 refine q0h (α:=Int) rfl rfl rfl el58 sz3 H fun A2 n2 c2 w1 H=>(V) ?_
 refine q0K (i:=0) rfl rfl rfl el58 sz3 by3 ze3 rfl rfl rfl H rfl (rs H 0) hg1 fun A3 n3 c3 w2 H=>?_
 rw [List.nil_append] at H
 refine (AZ) (CR ?_)
 exact⟨_,res1 rfl rfl rfl,H.ext0,_,_,_,rfl,H.outM (fr':=[]) [true] tw⟩
def q6v (a0:Relation):Option Relation:=(q8V a0.Rows).bind fun y1=>some (⟨a0.N,y1⟩:Relation)
theorem z0o {a0 r}(hr:q6v a0=some r){ca0}(ha0:rd F0 w0 a0 ca0):RT 111 #[ag ca0] w0 fun v w=>∃ A0 n0 c0,v = .agg #[.int .i64 r.N,(.slice A0 n0 c0)]∧I64 r.N∧HL F0 [] w0 w [] [.O 3 r.Rows (.slice A0 n0 c0)]:=by
 have H:=(HL.start F0 w0).argR ha0
 obtain⟨A1,n1,c1,rfl,hI1,H⟩:=q2O H 0
 let d1:=q2D a0 A1 n1 c1
 let d2:List Pr:=[.R a0 d1,.S a0.Rows (.slice A1 n1 c1)]
 refine (En Tryz.func111) ?_
 refine R ((BX H) fun b1 w1 H=>(AH ze60 H) fun b2 w2 H=>Z (Y ?_))
 refine q0A (fun w=>∃ v1_0_:Value,∃ v1_1_:Value,HL F0 [] w0 w d2 [.B b1 60 d1,.B b2 60 [v1_0_,v1_1_]]) hmix (fun w3 hE=>?_)
 have H:HL F0 [] w0 w3 d2 [.B b1 60 d1,.B b2 60 [.int .i64 0,.slice none 0 0]]:=H.ext hE
 refine HW.take 0 ⟨_,_,H.keep 2 2⟩ rfl (by kernel_rfl) rfl rfl (fun _ _=>q0v rfl j5N rfl) ?_
 refine HW.take 1 ⟨_,_,H.keep 2 2⟩ rfl (by kernel_rfl) rfl rfl (fun _ ⟨_,_,hq⟩=>q0l rfl ag3 rfl ((hq.rB (i:=0) rfl).cell rfl)) ?_
 refine HW.take 2 ⟨_,_,H.keep 2 2⟩ rfl (by kernel_rfl) rfl rfl (fun _ _=>q0v rfl j9g rfl) ?_
 refine HW.take 3 ⟨_,_,H.keep 2 2⟩ rfl (by kernel_rfl) rfl rfl (fun _ ⟨_,_,hq⟩=>q0l rfl ag58 rfl ((hq.rB (i:=0) rfl).cell rfl)) ?_
 refine q0f 4 rfl (by kernel_rfl) ?_
 refine bb hr fun y1 hy1 hr=>?_
 refine (CA k2E (z5p hy1 (rs H 1))) ?_
 rintro _ w4 hE ⟨A2,n2,c2,rfl,H'⟩
 have H:=H.callA H' tv
 refine q0a ⟨_,_,H.keep 2 2⟩ ?_
 refine HW.take 5 ⟨_,_,H.keep 2 2⟩ rfl (by kernel_rfl) rfl rfl (fun _ _=>Ev.build rfl pl60 ze60 rfl rfl rfl rfl) ?_
 refine q0f 6 rfl (by kernel_rfl) ((SB H 1) fun w5 H=>?_)
 refine q0a ⟨_,_,H.keep 2 2⟩ ?_
 refine q0i (by kernel_rfl) (CR ?_)
 obtain rfl:=sm hr
 exact⟨_,resC rfl ag60 sz60 rfl rfl (ab H 1) rfl,H.ext0,_,_,_,rfl,hI1,H.outM (fr':=[]) [false,false,true] tw⟩
def q6m (a0:Int)(a1:Relation):Option Bool:=grd (0≤a1.N) <| grd (0≤a1.N∧a1.N < 63) <| (q2P a0 0 (((2 ^ a1.N.toNat:Nat):Int) - 1)).bind fun y1=>some (!y1)
theorem z3Y {a0}{a1}{r}(hr:q6m a0 a1=some r)(ha0:I64 a0){b1p:Nat}(ha1:CapP F0 w0 b1p a1):RB 163 #[.int .i64 a0,pB b1p] w0 r:=by
 have H:=HL.start F0 w0
 obtain⟨cpa1,H⟩:=H.argP ha1
 obtain⟨A1,n1,c1,rfl,hI1,H⟩:=q2O H 1
 refine (En Tryz.func163) ?_
 refine R ((A) (Z (R ((V) ((D 0) ((LC H 0) ?_))))))
 refine gg hr fun hg1 hr=>?_
 refine q0b rfl rfl (q0B rfl Tryz.underlying3 j1K rfl hg1 hI1.2) ?_
 refine gg hr fun hg2 hr=>(BN (q0W hg2.1 hg2.2)) ((BN (Bin.sub (j0v (k:=1) (z3D hg2.2) (by decide)))) ?_)
 refine bb hr fun y1 hy1 hr=>?_
 exact (CA ok94 (q3c hy1 (F0:=nF) ha0 dI (j0v (k:=1) (z3D hg2.2) (by decide)))) (cE H fun w1 H=>(N) ((AZ) (W1 hr)))
def q3H (a1_0:Relation):Nat→Int→Unit→Option (Unit ⊕ Int):=fun k1 x1 _=>(q6m x1 a1_0).bind fun y1=>if y1=true then some (.inr (k1:Int)) else some (.inl ())
def q3M (a0:(List Int))(a1_0:Relation):Option Int:=(q2I (q3H a1_0) 0 a0 ()).bind <| onr (fun r1=>some r1) fun _=>some (-1)
theorem q6Y {a0}{a1_0}{r}(hr:q3M a0 a1_0=some r){z0}(ha0:rdS F0 w0 a0 z0){b1_0p:Nat}(ha1_0:CapP F0 w0 b1_0p a1_0):RT 194 #[z0,.func (.func 163) #[] #[pB b1_0p]] w0 fun v w=>v = .int .i64 r∧I64 r:=by
 obtain⟨A0',n0',c0',rfl⟩:=ha0.form3
 have H:=(HL.start F0 w0).argS ha0
 obtain⟨cpa1_0,H⟩:=H.argP ha1_0
 obtain⟨A1,n1,c1,rfl,hI1,H⟩:=q2O H 2
 refine (En Tryz.func194) ?_
 refine R ((A) (Z (Y (R ((V) ((NI H 0) fun hl1=>(V) (Z ?_)))))))
 refine bb hr fun q1 hq1 hr=>?_
 refine (lF hq1 (fun k1 _ _=>[(0,.slice A0' n0' c0'),(1,.func (.func 163) #[] #[pB b1_0p]),(7,zN a0.length),(8,zN k1)]) (fun _ _ w=>HL F0 [] w0 w [.S a0 (.slice A0' n0' c0'),.A b1_0p 0 (q2D a1_0 A1 n1 c1),.R a1_0 (q2D a1_0 A1 n1 c1),.S a1_0.Rows (.slice A1 n1 c1)] []) ()) ?_
 rintro k1 _ _ σ w1 hk1 hq1 H
 refine R ((BZ) (Y ?_))
 refine q0d rfl (fun h1=>?_) (fun h1=>?_)
 ·have hk2:=q2L h1
  obtain⟨x1,z1,hx1,hb1,hs1,ht1⟩:=q4f hq1 hk2
  refine K (Y ?_)
  refine Bk (R ((V) ((A) (Z (R ((V) ((V) ((V) ?_))))))))
  obtain⟨b1,ob1,cb1,hvb1,hI2,H⟩:=z0k H 0 hx1
  refine (J 1 hvb1 hx1) ((L0 H 4) ?_)
  refine bb hb1 fun y1 hy1 hb1=>?_
  refine (CA k2G (z3Y hy1 (F0:=fun q=>q < _) hI2 ⟨H.rAl (i:=1) rfl,_,H.rA (i:=1) rfl,⟨_,rfl,hI1,(rs H 3)⟩⟩)) (cE H fun w2 H=>Z (iB hb1 (fun _ hb1=>?_) fun _ hb1=>?_))
  ·exact R ((V) ((AZ) (W2 hb1 ht1 hr)))
  exact K (X ((AN hk2 hl1) ((V) (Z (I2 hb1 hs1 ⟨k1+1,(),()⟩)))))
 obtain rfl:=q3r hq1 (q2E h1)
 have hr:=(q3q _ _ _).symm.trans hr
 exact CE (R ((AZ) (W1 hr)))
def q3y (a0:(List Int))(a1_0:Relation):Option Bool:=(q3M a0 a1_0).bind fun y1=>some (decide (0≤y1))
theorem q6w {a0}{a1_0}{r}(hr:q3y a0 a1_0=some r){z0}(ha0:rdS F0 w0 a0 z0){b1_0p:Nat}(ha1_0:CapP F0 w0 b1_0p a1_0):RB 162 #[z0,.func (.func 163) #[] #[pB b1_0p]] w0 r:=by
 exact coF Tryz.func162 hr k2U fun hy=>q6Y hy ha0 ha1_0
def q4m (a0:Relation):Option Bool:=(q2P a0.N 0 16).bind fun y1=>( if y1=true then some (decide ((a0.Rows.length:Int)=a0.N)) else some false ).bind fun s1=>( if s1=true then (q3y a0.Rows a0).bind fun y2=>some (!y2) else some false ).bind fun s2=>some s2
theorem q5L {a0}{r}(hr:q4m a0=some r){ca0}(ha0:rd F0 w0 a0 ca0):RB 112 #[ag ca0] w0 r:=by
 have H:=(HL.start F0 w0).argR ha0
 obtain⟨A1,n1,c1,rfl,hI1,H⟩:=q2O H 0
 let d1:=q2D a0 A1 n1 c1
 let d2:List Pr:=[.R a0 d1,.S a0.Rows (.slice A1 n1 c1)]
 refine (En Tryz.func112) ?_
 refine R ((BX H) fun b1 w1 H=>(A) (Z (R ((D 0) ((L H 0) ?_)))))
 refine bb hr fun y1 hy1 hr=>?_
 refine (CA ok94 (q3c hy1 (F0:=nF) hI1 dI dI)) (cE H fun w2 H=>?_)
 refine bb hr fun q1 hm1 hr=>?_
 refine cu H 8 [(1,pB b1),(2,.bool false),(13,.bool q1)] d2 [.B b1 60 d1] ?_ fun σ w3 H=>?_
 ·refine jB hm1 (fun _ hm1=>?_) fun _ hm1=>?_
  ·exact (G) ((D 1) ((G) ((L H 0) ((G) ((NI H 1) fun hl1=>(G) ((D 0) ((G) ((L H 0) ((G) ((B) ((T) (Z (C1 hm1)))))))))))))
  exact OF hm1
 refine bb hr fun q2 hm2 hr=>?_
 refine cu H 7 [(2,.bool false),(20,.bool q2)] d2 [.B b1 60 d1] ?_ fun σ w5 H=>?_
 ·refine jB hm2 (fun _ hm2=>?_) fun _ hm2=>?_
  ·refine (G) ((D 1) ((G) ((L H 0) ((G) ?_))))
   refine q0b rfl rfl (q0w rfl rfl rfl) ((G) ?_)
   refine bb hm2 fun y2 hy2 hm2=>?_
   exact (CA k2F (q6w hy2 (F0:=fun q=>q < _) (rs H 1) ⟨(rb H 0).lt,_,At.blk (rb H 0),⟨_,rfl,hI1,(rs H 1)⟩⟩)) (cE H fun w4 H=>(G) ((N) ((T) (Z (C1 hm2)))))
  exact OF hm2
 exact (AZ) (W1 hr)
def z0S (a0:Relation)(a1 a2:Int):Option Relation:=(q6v a0).bind fun y1=>(q4m a0).bind fun y2=>( if y2=true then grd (I64 (a0.N - 1)) <| (q2P a1 0 (a0.N - 1)).bind fun y3=>some y3 else some false ).bind fun s1=>( if s1=true then grd (I64 (a0.N - 1)) <| (q2P a2 0 (a0.N - 1)).bind fun y4=>some y4 else some false ).bind fun s2=>if s2=true then grd (0≤a1) <| (y1.Rows[a1.toNat]?).bind fun x1=>grd (0≤a2) <| grd (0≤a2∧a2 < 63) <| grd (0≤x1∧0≤((2 ^ a2.toNat:Nat):Int)) <| some (⟨y1.N,(List.set y1.Rows a1.toNat ((x1.toNat ||| ((2 ^ a2.toNat:Nat):Int).toNat:Nat):Int))⟩:Relation) else some y1
theorem z5q {a0}{a1 a2}{r}(hr:z0S a0 a1 a2=some r){ca0}(ha0:rd F0 w0 a0 ca0)(ha1:I64 a1)(ha2:I64 a2):RT 114 #[ag ca0,.int .i64 a1,.int .i64 a2] w0 fun v w=>∃ A0 n0 c0,v = .agg #[.int .i64 r.N,(.slice A0 n0 c0)]∧I64 r.N∧HL F0 [] w0 w [] [.O 3 r.Rows (.slice A0 n0 c0)]:=by
 have H:=(HL.start F0 w0).argR ha0
 obtain⟨A1,n1,c1,rfl,hI1,H⟩:=q2O H 0
 let d2:List Pr:=[.R a0 (q2D a0 A1 n1 c1),.S a0.Rows (.slice A1 n1 c1)]
 refine (En Tryz.func114) ?_
 refine R ((BX H) fun b1 w1 H=>(AH ze60 H) fun b2 w2 H=>Z (R ((LB H 0) ?_)))
 refine bb hr fun y1 hy1 hr=>?_
 refine (CA j9L (z0o hy1 ⟨_,rfl,hI1,(rs H 1)⟩)) ?_
 rintro _ w3 hE ⟨A2,n2,c2,rfl,hI2,H'⟩
 have H:=H.callA H' tv
 refine (AH ze60 H) fun b3 w4 H=>(SB H 3) fun w5 H=>Z (Y (R ((LB H 0) ?_)))
 let d1:List It:=[.B b1 60 (q2D a0 A1 n1 c1),.B b2 60 [.int .i64 0,.slice none 0 0],.O 3 y1.Rows (.slice A2 n2 c2),.B b3 60 (q2D y1 A2 n2 c2)]
 refine bb hr fun y2 hy2 hr=>?_
 refine (CA j5S (q5L hy2 ⟨_,rfl,hI1,(rs H 1)⟩)) (cE H fun w6 H=>?_)
 refine bb hr fun q1 hm1 hr=>?_
 refine cu H 7 [(1,.int .i64 a1),(2,.int .i64 a2),(3,pB b1),(6,pB b2),(7,pB b3),(18,.bool q1)] d2 d1 ?_ fun σ w8 H=>?_
 ·refine jB hm1 (fun _ hm1=>?_) fun _ hm1=>?_
  ·refine (G) ((V) ((G) ((D 0) ((G) ((L H 0) ((G) ?_))))))
   refine gg hm1 fun hg1 hm1=>(BN (Bin.sub hg1)) ((G) ?_)
   refine bb hm1 fun y3 hy3 hm1=>?_
   exact (CA ok94 (q3c hy3 (F0:=nF) ha1 dI hg1)) (cE H fun w7 H=>(T) (Z (C1 hm1)))
  exact OF hm1
 refine bb hr fun q2 hm2 hr=>?_
 refine cu H 7 [(1,.int .i64 a1),(2,.int .i64 a2),(6,pB b2),(7,pB b3),(25,.bool q2)] d2 d1 ?_ fun σ w10 H=>?_
 ·refine jB hm2 (fun _ hm2=>?_) fun _ hm2=>?_
  ·refine (G) ((V) ((G) ((D 0) ((G) ((L H 0) ((G) ?_))))))
   refine gg hm2 fun hg2 hm2=>(BN (Bin.sub hg2)) ((G) ?_)
   refine bb hm2 fun y4 hy4 hm2=>?_
   exact (CA ok94 (q3c hy4 (F0:=nF) ha2 dI hg2)) (cE H fun w9 H=>(T) (Z (C1 hm2)))
  exact OF hm2
 refine Z (iB hr (fun _ hr=>?_) fun _ hr=>?_)
 ·refine X ((D 1) ((L H 3) ((V) ?_)))
  refine gg hr fun hg3 hr=>?_
  refine bb hr fun x1 hx1 hr=>?_
  obtain⟨b4,cb4,hvb4,hbb4⟩:=po H 2 hx1
  refine q0b rfl rfl (q0p rfl el58 sz3 rfl hvb4 rfl hg3 (q4X hx1)) ?_
  obtain⟨hA1,hI3,H⟩:=q5f H 2 hx1 hbb4
  refine q0b rfl rfl (q0l rfl ag3 rfl (hA1.cell0 rfl)) ((V) ?_)
  refine gg hr fun hg4 hr=>?_
  refine q0b rfl rfl (q0B rfl Tryz.underlying3 j1K rfl hg4 ha2.2) ?_
  refine gg hr fun hg5 hr=>(BN (q0W hg5.1 hg5.2)) ?_
  refine gg hr fun hg6 hr=>(BN (q0T hg6.1 hI3.2 hg6.2 (z3D hg5.2).2)) ?_
  obtain⟨b5,cb5,hvb5,hbb5⟩:=po H 2 hx1
  refine q0b rfl rfl (q0p rfl el58 sz3 rfl hvb5 rfl hg3 (q4X hx1)) ?_
  refine q0F (i:=2) (z:=((x1.toNat ||| ((2 ^ a2.toNat:Nat):Int).toNat:Nat):Int)) rfl rfl rfl sz3 rfl rfl rfl (fun _=>⟨rfl,rfl,(z9X hg6 hI3 (z3D hg5.2))⟩) H rfl hbb5 (by simpa using q4X hx1) fun w11 H=>Z (R ((LB H 3) ((SB H 1) fun w12 H=>Z (CR ?_))))
  obtain rfl:=sm hr
  exact⟨_,resC rfl ag60 sz60 rfl rfl (ab H 1) rfl,H.ext0,_,_,_,rfl,hI2,H.outM (fr':=[]) [false,false,true,false] tw⟩
 refine K (R ((LB H 3) ((SB H 1) fun w13 H=>Z (CR ?_))))
 obtain rfl:=sm hr
 exact⟨_,resC rfl ag60 sz60 rfl rfl (ab H 1) rfl,H.ext0,_,_,_,rfl,hI2,H.outM (fr':=[]) [false,false,true,false] tw⟩
def q7O (y1:(List Occurrence))(k1:Nat):Nat→Occurrence→((List Int) × Int)→Option ((List Int) × Int):=fun k2 x2 (s3,s4)=>(q5t y1 x2).bind fun y6=>(z0S (⟨s4,s3⟩:Relation) y6 (k1:Int)).bind fun y7=>some (y7.Rows,y7.N)
def q7P (a1:Rule)(y1:(List Occurrence)):Nat→Occurrence→((List Int) × Int)→Option ((List Int) × Int):=fun k1 x1 (s1,s2)=>(q7C a1 x1).bind fun (y3,y4)=>(q6X y3).bind fun y5=>(q2G (q7O y1 k1) 0 y5 (s1,s2)).bind fun (s3,s4)=>some (s3,s4)
def q6Z (a0:Grammar)(a1:Rule):Option Relation:=(q4e a0 a1).bind fun y1=>(q5X (y1.length:Int)).bind fun y2=>if 16 < (y1.length:Int) then some (⟨0,[]⟩:Relation) else (q2G (q7P a1 y1) 0 y1 (y2.Rows,y2.N)).bind fun (s1,s2)=>some (⟨s2,s1⟩:Relation)
theorem z6M {a0}{a1}{r}(hr:q6Z a0 a1=some r){ca0}(ha0:rd F0 w0 a0 ca0){ca1}(ha1:rd F0 w0 a1 ca1):RT 117 #[ag ca0,ag ca1] w0 fun v w=>∃ A0 n0 c0,v = .agg #[.int .i64 r.N,(.slice A0 n0 c0)]∧I64 r.N∧HL F0 [] w0 w [] [.O 3 r.Rows (.slice A0 n0 c0)]:=by
 have H:=((HL.start F0 w0).argR ha0).argR ha1
 obtain⟨A1,n1,c1,A2,n2,c2,rfl,H⟩:=q2C H 0
 let d3:List Value:=[.slice A1 n1 c1,.slice A2 n2 c2]
 obtain⟨A3,n3,c3,A4,n4,c4,A5,n5,c5,rfl,hS1,hS2,H⟩:=q2U H 1
 let d6:Pr:=.S a1.Contributions (.slice A5 n5 c5)
 let d2:=q3C a1 A3 n3 c3 A4 n4 c4 A5 n5 c5
 refine (En Tryz.func117) ?_
 refine R ((BX H) fun b1 w1 H=>(BX H) fun b2 w2 H=>(AH ze60 H) fun b3 w3 H=>Z (R ((LB H 0) ((LB H 1) ?_))))
 let d4:It:=.B b3 60 [.int .i64 0,.slice none 0 0]
 refine bb hr fun y1 hy1 hr=>?_
 refine (CA j9N (q9z hy1 ⟨_,_,rfl,(rs H 2),(rs H 3)⟩ ⟨_,_,_,rfl,hS1,hS2,(rs H 4),(rs H 5),(rs H 6)⟩)) ?_
 rintro _ w4 hE ⟨A6,n6,c6,rfl,H'⟩
 let d5:It:=.O 122 y1 (.slice A6 n6 c6)
 have H:=H.callA H' tv
 refine (A) (Z (R ((V) ?_)))
 have hl1:=(H.rO (i:=3) rfl).I
 refine (NN (ro H 3)) ?_
 refine bb hr fun y2 hy2 hr=>?_
 refine (CA j9K (q9y hy2 (F0:=nF) hl1)) ?_
 rintro _ w5 hE ⟨A7,n7,c7,rfl,hI1,H'⟩
 have H:=H.callA H' tv
 refine (AH ze60 H) fun b4 w6 H=>(SB H 5) fun w7 H=>Z (Y (R ((V) ((NN (ro H 3)) ((BZ) (iD hr (fun _ hr=>?_) fun _ hr=>?_))))))
 ·refine R ?_
  refine q0b rfl rfl (Ev.build rfl pl60 ze60 rfl rfl rfl rfl) ((SB H 2) fun w8 H=>Z (CR ?_))
  have H:=H.nil (α:=Int) 3
  obtain rfl:=sm hr
  exact⟨_,resC rfl ag60 sz60 rfl rfl (ab H 2) rfl,H.ext0,_,_,_,rfl,dI,H.outM (fr':=[]) [false,false,false,false,false,false,true] tw⟩
 refine K (Y (R ((V) ((NN (ro H 3)) ((V) (Z ?_))))))
 refine bb hr fun q1 hq1 hr=>?_
 refine (lE hq1 (fun k1 ⟨s1,s2⟩ v1=>[(3,pB b2),(4,pB b3),(5,.slice A6 n6 c6),(6,pB b4),(23,.slice A6 n6 c6),(24,zN y1.length),(25,zN k1)]) (fun ⟨s1,s2⟩ v1 w=>I64 s2∧HL F0 [] w0 w [.R a0 d3,.R a1 d2,.S a0.Symbols (.slice A1 n1 c1),.S a0.Rules (.slice A2 n2 c2),.S a1.Right (.slice A3 n3 c3),.S a1.Equations (.slice A4 n4 c4),d6] [.B b1 31 d3,.B b2 65 d2,d4,d5,.O 3 s1 v1,.B b4 60 [.int .i64 s2,v1]]) (.slice A7 n7 c7)) ?_
 rintro k1 ⟨s1,s2⟩ v1 σ w9 hk1 hq1 ⟨hI2,H⟩
 obtain⟨A8,n8,c8,rfl⟩:=(fo H 4)
 refine R ((BZ) (Y ?_))
 refine q0d rfl (fun h2=>?_) (fun h2=>?_)
 ·have hk2:=q2L h2
  obtain⟨x1,z1,hx1,hb1,hq1⟩:=q4F hq1 hk2
  let d1:List Pr:=[.R a0 d3,.R a1 d2,.S a0.Symbols (.slice A1 n1 c1),.S a0.Rules (.slice A2 n2 c2),.S a1.Right (.slice A3 n3 c3),.S a1.Equations (.slice A4 n4 c4),d6,.R x1 (q2J x1)]
  refine K (Y ?_)
  refine Bk (R ((V) ?_))
  obtain⟨b5,cb5,hvb5,hbb5⟩:=po H 3 hx1
  refine (J 2 hvb5 hx1) ?_
  obtain⟨hA1,hI3,hS3,H⟩:=q4q H 3 hx1 hbb5
  refine q0b rfl rfl (q0c rfl z1W q3Y rfl hA1 rfl) ((AH q7h H) fun b6 w10 H=>(A) ((SB H 6) fun w11 H=>Z (R ((LB H 1) ((LB H 6) ?_)))))
  obtain⟨⟨y3,y4⟩,hy3,hb1⟩:=bd hb1
  obtain⟨F,hF,hcl⟩:=H.call
  refine (CA k2H (z7N hy3 ⟨_,_,_,rfl,hS1,hS2,(hF.get (i:=4) rfl),(hF.get (i:=5) rfl),(hF.get (i:=6) rfl)⟩ ⟨rfl,hI3,hS3⟩)) ?_
  rintro _ w12 hE ⟨A9,n9,c9,rfl,hI4,hI5,hI6,hI7,hS4,hS5,H'⟩
  have H:HL F0 [] w0 w12 d1 [.B b1 31 d3,.B b2 65 d2,d4,d5,.O 3 s1 (.slice A8 n8 c8),.B b4 60 [.int .i64 s2,.slice A8 n8 c8],.B b6 122 (q2J x1),.G 125 y3.Args (.slice A9 n9 c9)]:=hcl H'
  refine (V) ((EX) ((EX) ((AH z0a H) fun b7 w13 H=>(SB H 8) fun w14 H=>(A) (Z (R ((LB H 8) ?_))))))
  refine bb hb1 fun y5 hy4 hb1=>?_
  refine (CA k1h (z2x hy4 (q2F.2 ⟨_,rfl,hI4,hI5,hI6,hI7,hS4,hS5,(H.rG (i:=7) rfl)⟩))) ?_
  rintro _ w15 hE ⟨A10,n10,c10,rfl,H'⟩
  have H:=H.callA H' tv
  have hl2:=(H.rO (i:=9) rfl).I
  refine (NN (ro H 9)) ((V) (Z ?_))
  refine bb hb1 fun q2 hq2 hb1=>?_
  refine (lE hq2 (fun k2 ⟨s3,s4⟩ v2=>[(3,pB b2),(4,pB b3),(5,.slice A6 n6 c6),(6,pB b4),(7,zN k1),(23,.slice A6 n6 c6),(24,zN y1.length),(25,zN k1),(37,.slice A10 n10 c10),(38,zN y5.length),(39,zN k2)]) (fun ⟨s3,s4⟩ v2 w=>I64 s4∧HL F0 [] w0 w d1 [.B b1 31 d3,.B b2 65 d2,d4,d5,.O 3 s3 v2,.B b4 60 [.int .i64 s4,v2],.B b6 122 (q2J x1),.G 125 y3.Args (.slice A9 n9 c9),.B b7 125 (q2T y3 A9 n9 c9),.O 122 y5 (.slice A10 n10 c10)]) (.slice A8 n8 c8)) ?_
  rintro k2 ⟨s3,s4⟩ v2 σ w16 hk3 hq2 ⟨hI8,H⟩
  obtain⟨A11,n11,c11,rfl⟩:=(fo H 4)
  refine R ((BZ) (Y ?_))
  refine q0d rfl (fun h3=>?_) (fun h3=>?_)
  ·have hk4:=q2L h3
   obtain⟨x2,z2,hx2,hb2,hq2⟩:=q4F hq2 hk4
   refine K (Y ?_)
   refine Bk (R ?_)
   obtain⟨b8,cb8,hvb8,hbb8⟩:=po H 9 hx2
   refine (J 2 hvb8 hx2) ?_
   obtain⟨hA2,hI9,hS6,H⟩:=q4q H 9 hx2 hbb8
   refine q0b rfl rfl (q0c rfl z1W q3Y rfl hA2 rfl) ((AH q7h H) fun b9 w17 H=>(SB H 10) fun w18 H=>Z ?_)
   refine q0t 5 hmix (by kernel_rfl) ?_
   refine (qLB H 5) ((qV) ((qLB H 10) ?_))
   refine bb hb2 fun y6 hy5 hb2=>?_
   refine (qC k2I (fun _ hq=>(z1m hy5 (ro (H.ext hq) 3) ⟨rfl,hI9,hS6⟩).mono fun _ _ _ h=>h.1)) ?_
   obtain⟨_,_,_,hI10⟩:=(z1m hy5 (ro H 3) ⟨rfl,hI9,hS6⟩).get
   refine (qV) ?_
   refine QL.nil (fun w19 hE=>?_)
   have H:=H.ext hE
   refine bb hb2 fun y7 hy6 hb2=>?_
   refine (CA j9M (z5q hy6 ⟨_,rfl,hI8,(ro H 4)⟩ hI10 (q5v hk2 hl1))) ?_
   rintro _ w20 hE ⟨A12,n12,c12,rfl,hI11,H'⟩
   have H:=H.callA H' tv
   refine (SB H 5) fun w21 H=>Z (X ((AN hk4 hl2) ((V) (Z ?_))))
   have H:=H.swap 4 11
   exact I1 hb2 ⟨k2+1,⟨y7.Rows,y7.N⟩,(.slice A12 n12 c12)⟩
  obtain rfl:=q3N hq2 (q2E h3)
  exact CE (X ((AN hk2 hl1) ((V) (Z (I1 hb1 ⟨k1+1,⟨s3,s4⟩,(.slice A11 n11 c11)⟩)))))
 obtain rfl:=q3N hq1 (q2E h2)
 refine CE (R ((LB H 5) ((SB H 2) fun w22 H=>Z (CR ?_))))
 obtain rfl:=sm hr
 exact⟨_,resC rfl ag60 sz60 rfl rfl (ab H 2) rfl,H.ext0,_,_,_,rfl,hI2,H.outM (fr':=[]) [false,false,false,false,true,false] tw⟩
def q3B (a2:Int):Nat→Occurrence→(List Int)→Option (List Int):=fun k1 x1 s1=>( if x1.Pos=a2 then grd (((s1.length:Int)+1)*8≤140737488355328∧(s1.length:Int)+1≤9223372036854775807) <| some (s1++[(k1:Int)]) else some s1 ).bind fun s2=>some s2
def q3P (a0:Grammar)(a1:Rule)(a2:Int):Option (List Int):=(q4e a0 a1).bind fun y1=>(q2G (q3B a2) 0 y1 ([]:List Int)).bind fun s1=>some s1
theorem z1n {a0}{a1}{a2}{r}(hr:q3P a0 a1 a2=some r){ca0}(ha0:rd F0 w0 a0 ca0){ca1}(ha1:rd F0 w0 a1 ca1)(ha2:I64 a2):RT 113 #[ag ca0,ag ca1,.int .i64 a2] w0 fun v w=>∃ A0 n0 c0,v=(.slice A0 n0 c0)∧HL F0 [] w0 w [] [.O 3 r (.slice A0 n0 c0)]:=by
 have H:=((HL.start F0 w0).argR ha0).argR ha1
 obtain⟨A1,n1,c1,A2,n2,c2,rfl,H⟩:=q2C H 0
 let d3:List Value:=[.slice A1 n1 c1,.slice A2 n2 c2]
 obtain⟨A3,n3,c3,A4,n4,c4,A5,n5,c5,rfl,hS1,hS2,H⟩:=q2U H 1
 let d2:=q3C a1 A3 n3 c3 A4 n4 c4 A5 n5 c5
 let d1:List Pr:=[.R a0 d3,.R a1 d2,.S a0.Symbols (.slice A1 n1 c1),.S a0.Rules (.slice A2 n2 c2),.S a1.Right (.slice A3 n3 c3),.S a1.Equations (.slice A4 n4 c4),.S a1.Contributions (.slice A5 n5 c5)]
 refine (En Tryz.func113) ?_
 refine R ((BX H) fun b1 w1 H=>(BX H) fun b2 w2 H=>(AZ) (R ?_))
 refine q0h (α:=Int) rfl rfl rfl el58 sz3 H fun A6 n6 c6 w3 H=>(A) (Z (Y (R ((LB H 0) ((LB H 1) ?_)))))
 refine bb hr fun y1 hy1 hr=>?_
 refine (CA j9N (q9z hy1 ⟨_,_,rfl,(rs H 2),(rs H 3)⟩ ⟨_,_,_,rfl,hS1,hS2,(rs H 4),(rs H 5),(rs H 6)⟩)) ?_
 rintro _ w4 hE ⟨A7,n7,c7,rfl,H'⟩
 have H:=H.callA H' tv
 have hl1:=(H.rO (i:=3) rfl).I
 refine (NN (ro H 3)) ((V) (Z ?_))
 refine bb hr fun q1 hq1 hr=>?_
 refine (lE hq1 (fun k1 s1 v1=>[(2,.int .i64 a2),(7,v1),(13,.slice A7 n7 c7),(14,zN y1.length),(15,zN k1)]) (fun s1 v1 w=>HL F0 [] w0 w d1 [.B b1 31 d3,.B b2 65 d2,.O 3 s1 v1,.O 122 y1 (.slice A7 n7 c7)]) (.slice A6 n6 c6)) ?_
 rintro k1 s1 v1 σ w5 hk1 hq1 H
 obtain⟨A8,n8,c8,rfl⟩:=(fo H 2)
 refine R ((BZ) (Y ?_))
 refine q0d rfl (fun h1=>?_) (fun h1=>?_)
 ·have hk2:=q2L h1
  obtain⟨x1,z1,hx1,hb1,hq1⟩:=q4F hq1 hk2
  refine K ?_
  refine bb hb1 fun q2 hm1 hb1=>Y ?_
  refine q0o (fun ρ' w=>∃ (s2:List Int) (v2:Value),s2=q2∧q4z ρ' [(2,.int .i64 a2),(7,v2),(13,.slice A7 n7 c7),(14,zN y1.length),(15,zN k1)]∧HL F0 [] w0 w d1 [.B b1 31 d3,.B b2 65 d2,.O 3 s2 v2,.O 122 y1 (.slice A7 n7 c7)]) ?_ ?_
  ·refine Bk (R ((V) ?_))
   obtain⟨b3,cb3,hvb3,hbb3⟩:=po H 3 hx1
   refine (J 2 hvb3 hx1) ?_
   obtain⟨hA1,hI1,hS3,H⟩:=q4q H 3 hx1 hbb3
   refine q0b rfl rfl (q0c rfl z1W q3Y rfl hA1 rfl) ((AH q7h H) fun b4 w6 H=>(A) ((SB H 4) fun w7 H=>Z (R ((D 0) ((L H 4) ((V) ((BZ) (iD hm1 (fun _ hm1=>?_) fun _ hm1=>?_))))))))
   ·refine X ((V) ((V) ?_))
    refine q0n rfl rfl rfl el58 sz3 ze3 rfl rfl rfl rfl rfl rfl fun b5 w8 hE hb hB=>?_
    have H:=H.newB hE hb hB
    refine gg hm1 fun hg1 hm1=>?_
    exact q0q (i:=2) (ys:=[(k1:Int)]) rfl rfl rfl el58 sz3 by3 ze3 rfl rfl rfl H rfl (fun _=>ownL.single ⟨rfl,rfl,(q5v hk2 hl1)⟩) (.inr ⟨_,_,rfl,At.blk (rb H 5)⟩) hg1 fun A9 n9 c9 w9 H=>(AZ) (C1 hm1)
   exact K (C1 hm1)
  rintro ρ' w10 ⟨s2,v2,rfl,hag,H⟩
  obtain⟨σ,rfl⟩:=q4g hag
  obtain⟨A10,n10,c10,rfl⟩:=(fo H 2)
  exact X ((AN hk2 hl1) ((V) (Z (I1 hb1 ⟨k1+1,s2,(.slice A10 n10 c10)⟩))))
 obtain rfl:=q3N hq1 (q2E h1)
 exact CE (R ((V) ((AZ) (W1 hr))))
def q9B (a0:Relation)(a1 a2:Int):Option Bool:=(q4m a0).bind fun y1=>( if y1=true then grd (I64 (a0.N - 1)) <| (q2P a1 0 (a0.N - 1)).bind fun y2=>some y2 else some false ).bind fun s1=>( if s1=true then grd (I64 (a0.N - 1)) <| (q2P a2 0 (a0.N - 1)).bind fun y3=>some y3 else some false ).bind fun s2=>( if s2=true then grd (0≤a1) <| (a0.Rows[a1.toNat]?).bind fun x1=>grd (0≤a2) <| grd (0≤x1∧0≤a2∧a2 < 64) <| grd (0≤((x1.toNat >>> a2.toNat:Nat):Int)∧0≤(1:Int)) <| some (decide (((((x1.toNat >>> a2.toNat:Nat):Int).toNat &&& (1:Int).toNat:Nat):Int)=1)) else some false ).bind fun s3=>some s3
theorem z5r {a0}{a1 a2}{r}(hr:q9B a0 a1 a2=some r){ca0}(ha0:rd F0 w0 a0 ca0)(ha1:I64 a1)(ha2:I64 a2):RB 68 #[ag ca0,.int .i64 a1,.int .i64 a2] w0 r:=by
 have H:=(HL.start F0 w0).argR ha0
 obtain⟨A1,n1,c1,rfl,hI1,H⟩:=q2O H 0
 let d2:=q2D a0 A1 n1 c1
 let d1:List Pr:=[.R a0 d2,.S a0.Rows (.slice A1 n1 c1)]
 refine (En Tryz.func68) ?_
 refine R ((BX H) fun b1 w1 H=>(A) (Z (R ((LB H 0) ?_))))
 refine bb hr fun y1 hy1 hr=>?_
 refine (CA j5S (q5L hy1 ⟨_,rfl,hI1,(rs H 1)⟩)) (cE H fun w2 H=>?_)
 refine bb hr fun q1 hm1 hr=>?_
 refine cu H 7 [(1,.int .i64 a1),(2,.int .i64 a2),(3,pB b1),(6,.bool false),(15,.bool q1)] d1 [.B b1 60 d2] ?_ fun σ w4 H=>?_
 ·refine jB hm1 (fun _ hm1=>?_) fun _ hm1=>?_
  ·refine (G) ((V) ((G) ((D 0) ((G) ((L H 0) ((G) ?_))))))
   refine gg hm1 fun hg1 hm1=>(BN (Bin.sub hg1)) ((G) ?_)
   refine bb hm1 fun y2 hy2 hm1=>?_
   exact (CA ok94 (q3c hy2 (F0:=nF) ha1 dI hg1)) (cE H fun w3 H=>(T) (Z (C1 hm1)))
  exact OF hm1
 refine bb hr fun q2 hm2 hr=>?_
 refine cu H 7 [(1,.int .i64 a1),(2,.int .i64 a2),(3,pB b1),(6,.bool false),(22,.bool q2)] d1 [.B b1 60 d2] ?_ fun σ w6 H=>?_
 ·refine jB hm2 (fun _ hm2=>?_) fun _ hm2=>?_
  ·refine (G) ((V) ((G) ((D 0) ((G) ((L H 0) ((G) ?_))))))
   refine gg hm2 fun hg2 hm2=>(BN (Bin.sub hg2)) ((G) ?_)
   refine bb hm2 fun y3 hy3 hm2=>?_
   exact (CA ok94 (q3c hy3 (F0:=nF) ha2 dI hg2)) (cE H fun w5 H=>(T) (Z (C1 hm2)))
  exact OF hm2
 refine bb hr fun q3 hm3 hr=>?_
 refine cu H 12 [(6,.bool false),(34,.bool q3)] d1 [.B b1 60 d2] ?_ fun σ w7 H=>?_
 ·refine jB hm3 (fun _ hm3=>?_) fun _ hm3=>?_
  ·refine (G) ((D 1) ((G) ((L H 0) ((G) ((V) ((G) ?_))))))
   refine gg hm3 fun hg3 hm3=>?_
   refine bb hm3 fun x1 hx1 hm3=>?_
   obtain⟨b2,ob2,cb2,hvb2,hI2,H⟩:=z0k H 1 hx1
   refine q0b rfl rfl (q0p rfl el58 sz3 rfl hvb2 rfl hg3 (q4X hx1)) ((G) ((L0 H 2) ((G) ((V) ((G) ?_)))))
   refine gg hm3 fun hg4 hm3=>?_
   refine q0b rfl rfl (q0B rfl Tryz.underlying3 j1K rfl hg4 ha2.2) ((G) ?_)
   refine gg hm3 fun hg5 hm3=>(BN (q0X hg5.1 hg5.2.1 hg5.2.2)) ((G) ?_)
   exact gg hm3 fun hg6 hm3=>(BN (q0Y hg6.1 (j0x hI2).2 hg6.2 (by decide:I64 1).2)) ((G) ((B) ((T) (Z (C1 hm3)))))
  exact OF hm3
 exact (AZ) (W1 hr)
def z3Z (a4:Relation)(k1:Nat)(x1:Int):Nat→Int→(Int × (List Int))→Option (Int × (List Int)):=fun k2 x2 (s3,s4)=>( (q9B a4 (k1:Int) (k2:Int)).bind fun y2=>if y2=true then (z0S (⟨s3,s4⟩:Relation) x1 x2).bind fun y3=>some (y3.N,y3.Rows) else some (s3,s4) ).bind fun (s5,s6)=>some (s5,s6)
def z4a (a4:Relation)(y1:(List Int)):Nat→Int→(Int × (List Int))→Option (Int × (List Int)):=fun k1 x1 (s1,s2)=>(q2G (z3Z a4 k1 x1) 0 y1 (s1,s2)).bind fun (s3,s4)=>some (s3,s4)
def z8d (a0:Grammar)(a1:Rule)(a2:Relation)(a3:Int)(a4:Relation):Option Relation:=(q3P a0 a1 a3).bind fun y1=>(q2G (z4a a4 y1) 0 y1 (a2.N,a2.Rows)).bind fun (s1,s2)=>some (⟨s1,s2⟩:Relation)
theorem j5Z {a0}{a1}{a2}{a3}{a4 r}(hr:z8d a0 a1 a2 a3 a4=some r){ca0}(ha0:rd F0 w0 a0 ca0){ca1}(ha1:rd F0 w0 a1 ca1){ca2}(ha2:rd F0 w0 a2 ca2)(ha3:I64 a3){ca4}(ha4:rd F0 w0 a4 ca4):RT 118 #[ag ca0,ag ca1,ag ca2,.int .i64 a3,ag ca4] w0 fun v w=>∃ A0 n0 c0,v = .agg #[.int .i64 r.N,(.slice A0 n0 c0)]∧I64 r.N∧HL F0 [] w0 w [.S r.Rows (.slice A0 n0 c0)] []:=by
 let d4:List Value:=[.int .i64 0,.slice none 0 0]
 have H:=((((HL.start F0 w0).argR ha0).argR ha1).argR ha2).argR ha4
 obtain⟨A1,n1,c1,A2,n2,c2,rfl,H⟩:=q2C H 0
 let d10:Pr:=.S a0.Rules (.slice A2 n2 c2)
 let d9:Pr:=.S a0.Symbols (.slice A1 n1 c1)
 let d5:List Value:=[.slice A1 n1 c1,.slice A2 n2 c2]
 obtain⟨A3,n3,c3,A4,n4,c4,A5,n5,c5,rfl,hS1,hS2,H⟩:=q2U H 1
 let d11:Pr:=.S a1.Right (.slice A3 n3 c3)
 let d8:Pr:=.S a1.Equations (.slice A4 n4 c4)
 let d6:Pr:=.S a1.Contributions (.slice A5 n5 c5)
 let d1:=q3C a1 A3 n3 c3 A4 n4 c4 A5 n5 c5
 obtain⟨A6,n6,c6,rfl,hI1,H⟩:=q2O H 2
 let d12:Pr:=.S a2.Rows (.slice A6 n6 c6)
 let d7:=q2D a2 A6 n6 c6
 obtain⟨A7,n7,c7,rfl,hI2,H⟩:=q2O H 3
 let d13:Pr:=.S a4.Rows (.slice A7 n7 c7)
 let d3:=q2D a4 A7 n7 c7
 refine (En Tryz.func118) ?_
 refine R ((BX H) fun b1 w1 H=>(BX H) fun b2 w2 H=>(BX H) fun b3 w3 H=>(BX H) fun b4 w4 H=>(AH ze60 H) fun b5 w5 H=>Z (R ((LB H 0) ((LB H 1) ((V) ?_)))))
 let d2:It:=.B b1 31 d5
 refine bb hr fun y1 hy1 hr=>?_
 refine (CA k1b (z1n hy1 ⟨_,_,rfl,(rs H 4),(rs H 5)⟩ ⟨_,_,_,rfl,hS1,hS2,(rs H 6),(rs H 7),(rs H 8)⟩ ha3)) ?_
 rintro _ w6 hE ⟨A8,n8,c8,rfl,H'⟩
 have H:=H.callA H' tv
 refine (A) (Z (Y (R ((V) ?_))))
 have hl1:=(H.rO (i:=5) rfl).I
 refine (NN (ro H 5)) ((V) (Z ?_))
 refine bb hr fun q1 hq1 hr=>?_
 refine Bk (CW.loop (α:=Nat × Int × (List Int) × Value) (fun ⟨k1,s1,s2,v1⟩=>[(7,pB b3),(9,pB b4),(10,pB b5),(11,.slice A8 n8 c8),(20,.slice A8 n8 c8),(21,zN y1.length),(22,zN k1)]) (fun ⟨k1,s1,s2,v1⟩ w=>k1≤y1.length∧q2G (z4a a4 y1) k1 (y1.drop k1) (s1,s2)=some q1∧I64 s1∧HL F0 [] w0 w [.R a0 d5,.R a1 d1,.R a2 d7,.R a4 d3,d9,d10,d11,d8,d6,d12,d13,.S s2 v1] [d2,.B b2 65 d1,.B b3 60 [.int .i64 s1,v1],.B b4 60 d3,.B b5 60 d4,.O 3 y1 (.slice A8 n8 c8)]) (fun ⟨k1,s1,s2,v1⟩=>y1.length - k1) ⟨0,a2.N,a2.Rows,(.slice A6 n6 c6)⟩ ⟨rfl,rfl,rfl,rfl,rfl,rfl,rfl,trivial⟩ ⟨Nat.zero_le _,hq1,hI1,H.out (fun _ h=>(h.keep 11).app ⟨h.get (i:=9) rfl,trivial⟩) (List.take_sublist 6 [d2,It.B b2 65 d1,It.B b3 60 d7,It.B b4 60 d3,It.B b5 60 d4,It.O 3 y1 (.slice A8 n8 c8)])⟩ ?_)
 rintro⟨k1,s1,s2,v1⟩ σ w7 ⟨hk1,hq1,hI3,H⟩
 obtain⟨A9,n9,c9,rfl⟩:=(H.rS (i:=11) rfl).form3
 let d14:Pr:=.S s2 (.slice A9 n9 c9)
 refine R ((BZ) (Y ?_))
 refine q0d rfl (fun h1=>?_) (fun h1=>?_)
 ·have hk2:=q2L h1
  obtain⟨x1,z1,hx1,hb1,hq1⟩:=q4F hq1 hk2
  refine K (Y ?_)
  refine Bk (R ((V) ?_))
  obtain⟨b6,cb6,hvb6,hbb6⟩:=po H 5 hx1
  refine (J 1 hvb6 hx1) ?_
  obtain⟨hA1,hI4,H⟩:=q5f H 5 hx1 hbb6
  refine q0b rfl rfl (q0l rfl ag3 rfl (hA1.cell0 rfl)) ((A) ((A) (Z (R ((V) ((NN (ro H 5)) ((V) (Z ?_))))))))
  refine bb hb1 fun q2 hq2 hb1=>?_
  refine Bk (CW.loop (α:=Nat × Int × (List Int) × Value) (fun ⟨k2,s3,s4,v2⟩=>[(7,pB b3),(9,pB b4),(10,pB b5),(11,.slice A8 n8 c8),(12,zN k1),(13,.int .i64 x1),(20,.slice A8 n8 c8),(21,zN y1.length),(22,zN k1),(27,.slice A8 n8 c8),(28,zN y1.length),(29,zN k2)]) (fun ⟨k2,s3,s4,v2⟩ w=>k2≤y1.length∧q2G (z3Z a4 k1 x1) k2 (y1.drop k2) (s3,s4)=some q2∧I64 s3∧HL F0 [] w0 w [.R a0 d5,.R a1 d1,.R a2 d7,.R a4 d3,d9,d10,d11,d8,d6,d12,d13,d14,.R x1 [.int .i64 x1],.S s4 v2] [d2,.B b2 65 d1,.B b3 60 [.int .i64 s3,v2],.B b4 60 d3,.B b5 60 d4,.O 3 y1 (.slice A8 n8 c8)]) (fun ⟨k2,s3,s4,v2⟩=>y1.length - k2) ⟨0,s1,s2,(.slice A9 n9 c9)⟩ ⟨rfl,rfl,rfl,rfl,rfl,rfl,rfl,rfl,rfl,rfl,rfl,rfl,trivial⟩ ⟨Nat.zero_le _,hq2,hI3,H.out (fun _ h=>(h.keep 13).app ⟨h.get (i:=11) rfl,trivial⟩) (List.take_sublist 6 [d2,It.B b2 65 d1,It.B b3 60 [.int .i64 s1,.slice A9 n9 c9],It.B b4 60 d3,It.B b5 60 d4,It.O 3 y1 (.slice A8 n8 c8)])⟩ ?_)
  rintro⟨k2,s3,s4,v2⟩ σ w8 ⟨hk3,hq2,hI5,H⟩
  obtain⟨A10,n10,c10,rfl⟩:=(H.rS (i:=13) rfl).form3
  refine R ((BZ) (Y ?_))
  refine q0d rfl (fun h2=>?_) (fun h2=>?_)
  ·have hk4:=q2L h2
   obtain⟨x2,z2,hx2,hb2,hq2⟩:=q4F hq2 hk4
   refine K ?_
   refine bb hb2 fun q3 hm1 hb2=>Y ?_
   refine q0o (fun ρ' w=>∃ (s5:Int) (s6:List Int) (v3:Value),q3=(s5,s6)∧q4z ρ' [(7,pB b3),(9,pB b4),(10,pB b5),(11,.slice A8 n8 c8),(12,zN k1),(13,.int .i64 x1),(20,.slice A8 n8 c8),(21,zN y1.length),(22,zN k1),(27,.slice A8 n8 c8),(28,zN y1.length),(29,zN k2)]∧I64 s5∧HL F0 [] w0 w [.R a0 d5,.R a1 d1,.R a2 d7,.R a4 d3,d9,d10,d11,d8,d6,d12,d13,d14,.R x1 [.int .i64 x1],.S s4 (.slice A10 n10 c10),.S s6 v3] [d2,.B b2 65 d1,.B b3 60 [.int .i64 s5,v3],.B b4 60 d3,.B b5 60 d4,.O 3 y1 (.slice A8 n8 c8)]) ?_ ?_
   ·refine Bk (R ((V) ?_))
    obtain⟨b7,cb7,hvb7,hbb7⟩:=po H 5 hx2
    refine (J 1 hvb7 hx2) ?_
    obtain⟨hA2,hI7,H⟩:=q5f H 5 hx2 hbb7
    refine q0b rfl rfl (q0l rfl ag3 rfl (hA2.cell0 rfl)) ((A) ((A) (Z (R ((LB H 3) ((V) ((V) ?_)))))))
    refine bb hm1 fun y2 hy2 hm1=>?_
    refine (CA ok68 (z5r hy2 ⟨_,rfl,hI2,(rs H 10)⟩ (q5v hk2 hl1) (q5v hk4 hl1))) (cE H fun w9 H=>Z (iB hm1 (fun _ hm1=>?_) fun _ hm1=>?_))
    ·refine X ((LB H 2) ((V) ((V) ?_)))
     refine bb hm1 fun y3 hy3 hm1=>?_
     refine (CA j9M (z5q hy3 ⟨_,rfl,hI5,(rs H 13)⟩ hI4 hI7)) ?_
     rintro _ w10 hE ⟨A11,n11,c11,rfl,hI8,H'⟩
     have H:=H.callA H' tv
     refine (SB H 2) fun w11 H=>Z ?_
     have H:=H.frzO (i:=6) rfl
     obtain rfl:=sm hm1
     exact⟨y3.N,y3.Rows,_,rfl,⟨rfl,rfl,rfl,rfl,rfl,rfl,rfl,rfl,rfl,rfl,rfl,rfl,trivial⟩,hI8,H.out (fun _ h=>(h.keep 14).app ⟨h.get (i:=15) rfl,trivial⟩) (List.take_sublist 6 [d2,It.B b2 65 d1,It.B b3 60 (q2D y3 A11 n11 c11),It.B b4 60 d3,It.B b5 60 d4,It.O 3 y1 (.slice A8 n8 c8),It.emp])⟩
    refine K ?_
    obtain rfl:=sm hm1
    exact⟨s3,s4,_,rfl,⟨rfl,rfl,rfl,rfl,rfl,rfl,rfl,rfl,rfl,rfl,rfl,rfl,trivial⟩,hI5,H.out (fun _ h=>(h.keep 14).app ⟨h.get (i:=13) rfl,trivial⟩) (List.take_sublist 6 [d2,It.B b2 65 d1,It.B b3 60 [.int .i64 s3,.slice A10 n10 c10],It.B b4 60 d3,It.B b5 60 d4,It.O 3 y1 (.slice A8 n8 c8)])⟩
   rintro ρ' w12 ⟨s5,s6,v3,rfl,hag,hI6,H⟩
   obtain⟨σ,rfl⟩:=q4g hag
   obtain⟨A12,n12,c12,rfl⟩:=(H.rS (i:=14) rfl).form3
   refine X ((AN hk4 hl1) ((V) (Z ?_)))
   obtain rfl:=sm hb2
   exact⟨⟨k2+1,s5,s6,(.slice A12 n12 c12)⟩,⟨rfl,rfl,rfl,rfl,rfl,rfl,rfl,rfl,rfl,rfl,rfl,rfl,trivial⟩,⟨hk4,hq2,hI6,H.out (fun _ h=>(h.keep 13).app ⟨h.get (i:=14) rfl,trivial⟩) (List.take_sublist 6 [d2,It.B b2 65 d1,It.B b3 60 [.int .i64 s5,.slice A12 n12 c12],It.B b4 60 d3,It.B b5 60 d4,It.O 3 y1 (.slice A8 n8 c8)])⟩,Nat.sub_lt_sub_left hk4 (Nat.lt_succ_self _)⟩
  obtain rfl:=q3N hq2 (q2E h2)
  refine CE (X ((AN hk2 hl1) ((V) (Z ?_))))
  obtain rfl:=sm hb1
  exact⟨⟨k1+1,s3,s4,(.slice A10 n10 c10)⟩,⟨rfl,rfl,rfl,rfl,rfl,rfl,rfl,trivial⟩,⟨hk2,hq1,hI5,H.out (fun _ h=>(h.keep 11).app ⟨h.get (i:=13) rfl,trivial⟩) (List.take_sublist 6 [d2,It.B b2 65 d1,It.B b3 60 [.int .i64 s3,.slice A10 n10 c10],It.B b4 60 d3,It.B b5 60 d4,It.O 3 y1 (.slice A8 n8 c8)])⟩,Nat.sub_lt_sub_left hk2 (Nat.lt_succ_self _)⟩
 obtain rfl:=q3N hq1 (q2E h1)
 refine CE (R ((LB H 2) ((SB H 4) fun w13 H=>Z (CR ?_))))
 obtain rfl:=sm hr
 exact⟨_,resC rfl ag60 sz60 rfl rfl (ab H 4) rfl,H.ext0,_,_,_,rfl,hI3,H.outM (fr':=[d14]) [false,false,false,false,false,false] fun _ h=>⟨h.get (i:=11) rfl,trivial⟩⟩
def z2z (k1:Nat):Nat→(List Int)→Option (List Int):=fun k2 s2=>( (s2[k2]?).bind fun x1=>grd (0≤x1∧0≤(k1:Int)∧(k1:Int) < 64) <| grd (0≤((x1.toNat >>> (k1:Int).toNat:Nat):Int)∧0≤(1:Int)) <| if ((((x1.toNat >>> (k1:Int).toNat:Nat):Int).toNat &&& (1:Int).toNat:Nat):Int)=1 then (s2[k1]?).bind fun x2=>grd (0≤x1∧0≤x2) <| some (List.set s2 k2 ((x1.toNat ||| x2.toNat:Nat):Int)) else some s2 ).bind fun s3=>some s3
def q9C:Nat→(List Int)→Option (List Int):=fun k1 s1=>(q7u (z2z k1) 0 (s1.length) s1).bind fun s2=>some s2
def q7a (a0:Relation):Option Relation:=(q6v a0).bind fun y1=>(q4m a0).bind fun y2=>if y2=true then (q7u q9C 0 (y1.Rows.length) y1.Rows).bind fun s1=>some (⟨y1.N,s1⟩:Relation) else some y1
theorem z2A {a0 r}(hr:q7a a0=some r){ca0}(ha0:rd F0 w0 a0 ca0):RT 67 #[ag ca0] w0 fun v w=>∃ A0 n0 c0,v = .agg #[.int .i64 r.N,(.slice A0 n0 c0)]∧I64 r.N∧HL F0 [] w0 w [] [.O 3 r.Rows (.slice A0 n0 c0)]:=by
 have H:=(HL.start F0 w0).argR ha0
 obtain⟨A1,n1,c1,rfl,hI1,H⟩:=q2O H 0
 let d3:=q2D a0 A1 n1 c1
 let d1:List Pr:=[.R a0 d3,.S a0.Rows (.slice A1 n1 c1)]
 refine (En Tryz.func67) ?_
 refine R ((BX H) fun b1 w1 H=>(AH ze60 H) fun b2 w2 H=>Z (R ((LB H 0) ?_)))
 let d2:It:=.B b2 60 [.int .i64 0,.slice none 0 0]
 refine bb hr fun y1 hy1 hr=>?_
 refine (CA j9L (z0o hy1 ⟨_,rfl,hI1,(rs H 1)⟩)) ?_
 rintro _ w3 hE ⟨A2,n2,c2,rfl,hI2,H'⟩
 have H:=H.callA H' tv
 refine (AH ze60 H) fun b3 w4 H=>(SB H 3) fun w5 H=>Z (Y (R ((LB H 0) ?_)))
 let d4:It:=.B b3 60 (q2D y1 A2 n2 c2)
 refine bb hr fun y2 hy2 hr=>?_
 refine (CA j5S (q5L hy2 ⟨_,rfl,hI1,(rs H 1)⟩)) (cE H fun w6 H=>(N) (Z (iM hr (fun _ hr=>?_) fun _ hr=>?_)))
 ·refine R ((LB H 3) ((SB H 1) fun w7 H=>Z (CR ?_)))
  obtain rfl:=sm hr
  exact⟨_,resC rfl ag60 sz60 rfl rfl (ab H 1) rfl,H.ext0,_,_,_,rfl,hI2,H.outM (fr':=[]) [false,false,true,false] tw⟩
 refine K (Y (R ((D 1) ((L H 3) ?_))))
 have hl1:=(H.rO (i:=2) rfl).I
 refine (NN (ro H 2)) ((V) (Z ?_))
 refine bb hr fun q1 hq1 hr=>?_
 refine (lN hq1 (fun k1 s1 _=>[(2,pB b2),(3,pB b3),(14,zN y1.Rows.length),(15,zN k1)]) (fun s1 _ w=>HL F0 [] w0 w d1 [.B b1 60 d3,d2,.O 3 s1 (.slice A2 n2 c2),d4]) ()) ?_
 rintro k1 s1 _ σ w8 hk1 hq1 H
 refine R ((BZ) (Y ?_))
 refine q0d rfl (fun h2=>?_) (fun h2=>?_)
 ·have hk2:=q2L h2
  obtain⟨z1,hb1,hq1⟩:=z1I hq1 hk2
  refine K (Y ?_)
  refine Bk (R ((V) ((A) (Z (R ((D 1) ((L H 3) ?_)))))))
  have hl2:=(H.rO (i:=2) rfl).I
  refine (NN (ro H 2)) ((V) (Z ?_))
  refine bb hb1 fun q2 hq2 hb1=>?_
  refine (lN hq2 (fun k2 s2 _=>[(2,pB b2),(3,pB b3),(4,zN k1),(14,zN y1.Rows.length),(15,zN k1),(20,zN s1.length),(21,zN k2)]) (fun s2 _ w=>HL F0 [] w0 w d1 [.B b1 60 d3,d2,.O 3 s2 (.slice A2 n2 c2),d4]) ()) ?_
  rintro k2 s2 _ σ w9 hk3 hq2 H
  refine R ((BZ) (Y ?_))
  refine q0d rfl (fun h3=>?_) (fun h3=>?_)
  ·have hk4:=q2L h3
   obtain⟨z2,hb2,hq2⟩:=z1I hq2 hk4
   refine K ?_
   refine bb hb2 fun q3 hm1 hb2=>?_
   refine CW.seq (cm H [(2,pB b2),(3,pB b3),(4,zN k1),(14,zN y1.Rows.length),(15,zN k1),(20,zN s1.length),(21,zN k2)] d1 [.B b1 60 d3,d2,.O 3 q3 (.slice A2 n2 c2),d4] ?_ fun σ w12 H=>?_)
   ·refine Bk (R ((V) ((A) (Z (R ((D 1) ((L H 3) ((V) ?_))))))))
    refine bb hm1 fun x1 hx1 hm1=>?_
    obtain⟨b4,cb4,hvb4,hbb4⟩:=po H 2 hx1
    refine (J 1 hvb4 hx1) ?_
    obtain⟨hA1,hI3,H⟩:=q5f H 2 hx1 hbb4
    refine q0b rfl rfl (q0l rfl ag3 rfl (hA1.cell0 rfl)) ((V) ?_)
    refine q0b rfl rfl (q0B rfl Tryz.underlying3 j1K rfl (Int.natCast_nonneg _) (q5v hk2 hl1).2) ?_
    refine gg hm1 fun hg1 hm1=>(BN (q0X hg1.1 hg1.2.1 hg1.2.2)) ?_
    refine gg hm1 fun hg2 hm1=>(BN (q0Y hg2.1 (j0x hI3).2 hg2.2 (by decide:I64 1).2)) ((BZ) (iD hm1 (fun _ hm1=>?_) fun _ hm1=>?_))
    ·refine q0t 12 hmix (by kernel_rfl) ?_
     refine (qD 1) ((qL H 3) ((qV) ?_))
     obtain⟨b5,cb5,hvb5,hbb5⟩:=po H 2 hx1
     refine (qJ 1 hvb5 hx1) ?_
     obtain⟨hA2,hI4,H⟩:=q5f H 2 hx1 hbb5
     refine q0k rfl rfl (fun _ hq=>q0l rfl ag3 rfl ((hA2.ext hq).cell0 rfl)) ?_
     refine (qD 1) ((qL H 3) ((qV) ?_))
     refine bb hm1 fun x2 hx2 hm1=>?_
     obtain⟨b6,cb6,hvb6,hbb6⟩:=po H 2 hx2
     refine (qJ 1 hvb6 hx2) ?_
     obtain⟨hA3,hI5,H⟩:=q5f H 2 hx2 hbb6
     refine q0k rfl rfl (fun _ hq=>q0l rfl ag3 rfl ((hA3.ext hq).cell0 rfl)) ?_
     refine gg hm1 fun hg3 hm1=>?_
     refine (qBN (q0T hg3.1 hI4.2 hg3.2 hI5.2)) ?_
     obtain⟨b7,cb7,hvb7,hbb7⟩:=po H 2 hx1
     refine (qJ 1 hvb7 hx1) ?_
     refine QL.nil (fun w10 hE=>?_)
     have H:=H.ext hE
     exact q0F (i:=2) (z:=((x1.toNat ||| x2.toNat:Nat):Int)) rfl rfl rfl sz3 rfl rfl rfl (fun _=>⟨rfl,rfl,(z9X hg3 hI4 hI5)⟩) H rfl hbb7 (by simpa using q4X hx1) fun w11 H=>Z (C1 hm1)
    exact K (C1 hm1)
   exact X ((AN hk4 hl2) ((V) (Z (I1 hb2 ⟨k2+1,q3,()⟩))))
  obtain rfl:=q9Y hq2 (q2E h3)
  exact CE (X ((AN hk2 hl1) ((V) (Z (I1 hb1 ⟨k1+1,s2,()⟩)))))
 obtain rfl:=q9Y hq1 (q2E h2)
 refine CE (R ((LB H 3) ((SB H 1) fun w13 H=>Z (CR ?_))))
 obtain rfl:=sm hr
 exact⟨_,resC rfl ag60 sz60 rfl rfl (ab H 1) rfl,H.ext0,_,_,_,rfl,hI2,H.outM (fr':=[]) [false,false,true,false] tw⟩
def q7D (a0:Grammar)(a1:Rule):Nat→Relation→(Int × (List Int))→Option ((Int × (List Int)) ⊕ Relation):=fun k1 x1 (s1,s2)=>(a1.Right[k1]?).bind fun x2=>(q3h a0 x2).bind fun y3=>if x1.N=(y3.length:Int) then (z8d a0 a1 (⟨s1,s2⟩:Relation) ((k1+1:Nat):Int) x1).bind fun y4=>some (.inl (y4.N,y4.Rows)) else some (.inr (⟨0,[]⟩:Relation))
def q9X (a0:Grammar)(a1:Rule)(a2:(List Relation)):Option Relation:=if (a2.length:Int)=(a1.Right.length:Int) then (q4e a0 a1).bind fun y1=>if 16 < (y1.length:Int) then some (⟨0,[]⟩:Relation) else (q6Z a0 a1).bind fun y2=>(q2I (q7D a0 a1) 0 a2 (y2.N,y2.Rows)).bind <| onr (fun r1=>some r1) fun (s1,s2)=>(q7a (⟨s1,s2⟩:Relation)).bind fun y5=>some y5 else some (⟨0,[]⟩:Relation)
theorem z8R {a0}{a1}{a2}{r}(hr:q9X a0 a1 a2=some r){ca0}(ha0:rd F0 w0 a0 ca0){ca1}(ha1:rd F0 w0 a1 ca1){z2}(ha2:rdS F0 w0 a2 z2):RT 69 #[ag ca0,ag ca1,z2] w0 fun v w=>∃ A0 n0 c0,v = .agg #[.int .i64 r.N,(.slice A0 n0 c0)]∧I64 r.N∧HL F0 [] w0 w [] [.O 3 r.Rows (.slice A0 n0 c0)]:=by
 obtain⟨A2',n2',c2',rfl⟩:=ha2.form3
 let d13:Pr:=.S a2 (.slice A2' n2' c2')
 have H:=(((HL.start F0 w0).argR ha0).argR ha1).argS ha2
 obtain⟨A1,n1,c1,A2,n2,c2,rfl,H⟩:=q2C H 0
 let d10:Pr:=.S a0.Rules (.slice A2 n2 c2)
 let d9:Pr:=.S a0.Symbols (.slice A1 n1 c1)
 let d2:List Value:=[.slice A1 n1 c1,.slice A2 n2 c2]
 obtain⟨A3,n3,c3,A4,n4,c4,A5,n5,c5,rfl,hS1,hS2,H⟩:=q2U H 1
 let d11:Pr:=.S a1.Right (.slice A3 n3 c3)
 let d7:Pr:=.S a1.Equations (.slice A4 n4 c4)
 let d6:Pr:=.S a1.Contributions (.slice A5 n5 c5)
 let d1:=q3C a1 A3 n3 c3 A4 n4 c4 A5 n5 c5
 refine (En Tryz.func69) ?_
 refine R ((BX H) fun b1 w1 H=>(BX H) fun b2 w2 H=>(AH ze60 H) fun b3 w3 H=>Z (Y (R ((V) ((NI H 2) fun hl1=>(D 2) ((L H 1) ((NI H 5) fun hl2=>(B) (jN hr (fun _ hr=>?_) fun _ hr=>?_))))))))
 ·refine (O) ((O) ((O) ((O) ((O) ((T) (Z ((cT) (R ?_))))))))
  refine q0b rfl rfl (Ev.build rfl pl60 ze60 rfl rfl rfl rfl) ((SB H 2) fun w4 H=>Z (CR ?_))
  have H:=H.nil (α:=Int) 3
  obtain rfl:=sm hr
  exact⟨_,resC rfl ag60 sz60 rfl rfl (ab H 2) rfl,H.ext0,_,_,_,rfl,dI,H.outM (fr':=[]) [false,false,false,true] tw⟩
 let d18:It:=.B b1 31 d2
 let d4:It:=.B b3 60 [.int .i64 0,.slice none 0 0]
 refine (G) ((LB H 0) ((G) ((LB H 1) ((G) ?_))))
 refine bb hr fun y1 hy1 hr=>?_
 refine (CA j9N (q9z hy1 ⟨_,_,rfl,(rs H 3),(rs H 4)⟩ ⟨_,_,_,rfl,hS1,hS2,(rs H 5),(rs H 6),(rs H 7)⟩)) ?_
 rintro _ w5 hE ⟨A6,n6,c6,rfl,H'⟩
 let d5:It:=.O 122 y1 (.slice A6 n6 c6)
 have H:=H.callA H' tv
 refine (G) ?_
 have hl3:=(H.rO (i:=3) rfl).I
 refine (NN (ro H 3)) ((G) ((B) ((U) (Z (iD hr (fun _ hr=>?_) fun _ hr=>?_)))))
 ·refine R ?_
  refine q0b rfl rfl (Ev.build rfl pl60 ze60 rfl rfl rfl rfl) ((SB H 2) fun w6 H=>Z (CR ?_))
  have H:=H.nil (α:=Int) 3
  obtain rfl:=sm hr
  exact⟨_,resC rfl ag60 sz60 rfl rfl (ab H 2) rfl,H.ext0,_,_,_,rfl,dI,H.outM (fr':=[]) [false,false,false,false,true] tw⟩
 refine K (R ((LB H 0) ((LB H 1) ?_)))
 refine bb hr fun y2 hy2 hr=>?_
 refine (CA k2d (z6M hy2 ⟨_,_,rfl,(rs H 3),(rs H 4)⟩ ⟨_,_,_,rfl,hS1,hS2,(rs H 5),(rs H 6),(rs H 7)⟩)) ?_
 rintro _ w7 hE ⟨A7,n7,c7,rfl,hI1,H'⟩
 let d12:Pr:=.S y2.Rows (.slice A7 n7 c7)
 have H:=H.callA H' tv
 refine (AH ze60 H) fun b4 w8 H=>(SB H 5) fun w9 H=>Z (Y (R ((V) ((NN (rs H 2)) ((V) (Z ?_))))))
 have H:=H.frzO (i:=4) rfl
 refine bb hr fun q1 hq1 hr=>?_
 refine Bk (CW.loop (α:=Nat × Int × (List Int) × Value) (fun ⟨k1,s1,s2,v1⟩=>[(3,pB b1),(4,pB b2),(6,pB b3),(7,pB b4),(27,.slice A2' n2' c2'),(28,zN a2.length),(29,zN k1)]) (fun ⟨k1,s1,s2,v1⟩ w=>k1≤a2.length∧q2I (q7D a0 a1) k1 (a2.drop k1) (s1,s2)=some q1∧I64 s1∧HL F0 [] w0 w [.R a0 d2,.R a1 d1,d13,d9,d10,d11,d7,d6,d12,.S s2 v1] [d18,.B b2 65 d1,d4,d5,It.emp,.B b4 60 [.int .i64 s1,v1]]) (fun ⟨k1,s1,s2,v1⟩=>a2.length - k1) ⟨0,y2.N,y2.Rows,(.slice A7 n7 c7)⟩ ⟨rfl,rfl,rfl,rfl,rfl,rfl,rfl,trivial⟩ ⟨Nat.zero_le _,hq1,hI1,H.out (fun _ h=>(h.keep 9).app ⟨h.get (i:=8) rfl,trivial⟩) (List.take_sublist 6 [d18,It.B b2 65 d1,d4,d5,It.emp,It.B b4 60 (q2D y2 A7 n7 c7)])⟩ ?_)
 rintro⟨k1,s1,s2,v1⟩ σ w10 ⟨hk1,hq1,hI2,H⟩
 obtain⟨A8,n8,c8,rfl⟩:=(H.rS (i:=9) rfl).form3
 let d16:Pr:=.S s2 (.slice A8 n8 c8)
 refine R ((BZ) (Y ?_))
 refine q0d rfl (fun h3=>?_) (fun h3=>?_)
 ·have hk2:=q2L h3
  obtain⟨x1,z1,hx1,hb1,hs1,ht1⟩:=q4f hq1 hk2
  refine K (Y ?_)
  refine Bk (R ((V) ?_))
  obtain⟨b5,ob5,cb5,A9,n9,c9,hvb5,hI3,H⟩:=z3I H 2 hx1
  let d15:Pr:=.S x1.Rows (.slice A9 n9 c9)
  let d3:=q2D x1 A9 n9 c9
  refine (J 2 hvb5 hx1) ((LA H 10) ((AH ze60 H) fun b6 w11 H=>(A) ((SB H 6) fun w12 H=>Z ?_)))
  let d14:List It:=[d18,.B b2 65 d1,d4,d5,It.emp,.B b4 60 [.int .i64 s1,.slice A8 n8 c8],.B b6 60 d3]
  refine bb hb1 fun x2 hx2 hb1=>?_
  let d17:List Value:=[.string x2]
  obtain⟨b7,ob7,cb7,hvb7,hS3,H⟩:=q8q H 5 hx2
  refine Y (Y ?_)
  refine q0A (fun w=>HL F0 [] w0 w [.R a0 d2,.R a1 d1,d13,d9,d10,d11,d7,d6,d12,d16,.A b5 (ob5+k1*2) d3,.R x1 d3,d15,.A b7 (ob7+k1*1) d17,.R x2 d17] d14) hmix (fun w13 hE=>?_)
  have H:HL F0 [] w0 w13 [.R a0 d2,.R a1 d1,d13,d9,d10,d11,d7,d6,d12,d16,.A b5 (ob5+k1*2) d3,.R x1 d3,d15,.A b7 (ob7+k1*1) d17,.R x2 d17] d14:=H.ext hE
  refine HW.take 0 (H.keep 15 7) rfl (by kernel_rfl) rfl rfl (fun _ _=>q0v rfl j5N rfl) ?_
  refine HW.take 1 (H.keep 15 7) rfl (by kernel_rfl) rfl rfl (fun _ hq=>q0l rfl ag3 rfl ((hq.rB (i:=6) rfl).cell rfl)) ?_
  refine HW.take 2 (H.keep 15 7) rfl (by kernel_rfl) rfl rfl (fun _ hq=>q0c rfl ag31 sz31 rfl (At.blk (hq.rB (i:=0) rfl)) rfl) ?_
  refine HW.take 3 (H.keep 15 7) rfl (by kernel_rfl) rfl rfl (fun _ _=>q0v rfl j9h rfl) ?_
  refine HW.take 4 (H.keep 15 7) rfl (by kernel_rfl) rfl rfl (fun _ hq=>q0l rfl ag37 rfl ((hq.rB (i:=1) rfl).cell rfl)) ?_
  refine HW.take 5 (H.keep 15 7) rfl (by kernel_rfl) rfl rfl (fun _ _=>q0r rfl rfl) ?_
  refine HW.take 6 (H.keep 15 7) rfl (by kernel_rfl) rfl rfl (fun _ _=>q0U rfl el37 sz9 rfl hvb7 rfl (q4X hx2)) ?_
  refine HW.take 7 (H.keep 15 7) rfl (by kernel_rfl) rfl rfl (fun _ hq=>q0l rfl ag9 rfl ((hq.rA (i:=13) rfl).cell0 rfl)) ?_
  refine q0f 8 rfl (by kernel_rfl) ?_
  refine bb hb1 fun y3 hy3 hb1=>?_
  refine (CA j7G (q6Q hy3 ⟨_,_,rfl,(rs H 3),(rs H 4)⟩ hS3)) ?_
  rintro _ w14 hE ⟨A10,n10,c10,rfl,H'⟩
  have H:=H.callA H' tv
  refine q0a (H.keep 15 7) ?_
  have hl4:=(H.rO (i:=7) rfl).I
  refine HW.take 9 (H.keep 15 7) rfl (by kernel_rfl) rfl rfl (fun _ _=>q0J rfl el67 rfl (ro H 7)) ?_
  refine HW.take 10 (H.keep 15 7) rfl (by kernel_rfl) rfl rfl (fun _ _=>q1a rfl rfl rfl q1e) ?_
  refine q0i (by kernel_rfl) (iN hb1 (fun _ hb1=>?_) fun _ hb1=>?_)
  ·refine R ?_
   refine q0b rfl rfl (Ev.build rfl pl60 ze60 rfl rfl rfl rfl) ((SB H 2) fun w15 H=>Z (CR ?_))
   have H:=H.nil (α:=Int) 3
   obtain rfl:=sm hb1
   obtain rfl:=ht1 _ rfl
   obtain rfl:=sm hr
   exact⟨_,resC rfl ag60 sz60 rfl rfl (ab H 2) rfl,H.ext0,_,_,_,rfl,dI,H.outM (fr':=[]) [false,false,false,false,false,false,false,false,true] tw⟩
  refine K (X ((LB H 0) ((LB H 1) ((LB H 5) ((V) ((AN hk2 hl1) ((LB H 6) ?_)))))))
  refine bb hb1 fun y4 hy4 hb1=>?_
  obtain⟨F,hF,hcl⟩:=H.call
  refine (CA k2e (j5Z hy4 ⟨_,_,rfl,(hF.get (i:=3) rfl),(hF.get (i:=4) rfl)⟩ ⟨_,_,_,rfl,hS1,hS2,(hF.get (i:=5) rfl),(hF.get (i:=6) rfl),(hF.get (i:=7) rfl)⟩ ⟨_,rfl,hI2,(hF.get (i:=9) rfl)⟩ (z2m hk2 hl1.2) ⟨_,rfl,hI3,(hF.get (i:=12) rfl)⟩)) ?_
  rintro _ w16 hE ⟨A11,n11,c11,rfl,hI4,H'⟩
  let d8:List It:=[d18,.B b2 65 d1,d4,d5,It.emp,.B b4 60 (q2D y4 A11 n11 c11),.B b6 60 d3,.O 120 y3 (.slice A10 n10 c10)]
  have H:HL F0 [] w0 w16 [.R a0 d2,.R a1 d1,d13,d9,d10,d11,d7,d6,d12,d16,.A b5 (ob5+k1*2) d3,.R x1 d3,d15,.A b7 (ob7+k1*1) d17,.R x2 d17,.S y4.Rows (.slice A11 n11 c11)] [d18,.B b2 65 d1,d4,d5,It.emp,.B b4 60 [.int .i64 s1,.slice A8 n8 c8],.B b6 60 d3,.O 120 y3 (.slice A10 n10 c10)]:=hcl H'
  refine (SB H 5) fun w17 H=>Z ?_
  refine q0e [(3,pB b1),(4,pB b2),(6,pB b3),(7,pB b4),(27,.slice A2' n2' c2'),(28,zN a2.length),(29,zN k1)] ⟨rfl,rfl,rfl,rfl,rfl,rfl,rfl,trivial⟩ fun σ=>?_
  have H:HL F0 [] w0 w17 [.R a0 d2,.R a1 d1,d13,d9,d10,d11,d7,d6,d12,d16,.A b5 (ob5+k1*2) d3,.R x1 d3,d15,.A b7 (ob7+k1*1) d17,.R x2 d17,.S y4.Rows (.slice A11 n11 c11)] d8:=H
  refine X ((AN hk2 hl1) ((V) (Z ?_)))
  obtain rfl:=sm hb1
  have hq1:=hs1 _ rfl
  exact⟨⟨k1+1,y4.N,y4.Rows,(.slice A11 n11 c11)⟩,⟨rfl,rfl,rfl,rfl,rfl,rfl,rfl,trivial⟩,⟨hk2,hq1,hI4,H.out (fun _ h=>(h.keep 9).app ⟨h.get (i:=15) rfl,trivial⟩) (List.take_sublist 6 d8)⟩,Nat.sub_lt_sub_left hk2 (Nat.lt_succ_self _)⟩
 obtain rfl:=q3r hq1 (q2E h3)
 have hr:=(q3q _ _ _).symm.trans hr
 refine CE (R ((LB H 5) ?_))
 refine bb hr fun y5 hy5 hr=>?_
 refine (CA ok67 (z2A hy5 ⟨_,rfl,hI2,(rs H 9)⟩)) ?_
 rintro _ w18 hE ⟨A12,n12,c12,rfl,hI5,H'⟩
 have H:=H.callA H' tv
 refine (SB H 2) fun w19 H=>Z (CR ?_)
 obtain rfl:=sm hr
 exact⟨_,resC rfl ag60 sz60 rfl rfl (ab H 2) rfl,H.ext0,_,_,_,rfl,hI5,H.outM (fr':=[]) [false,false,false,false,false,false,true] tw⟩
def z0p (a0:Grammar)(a2:(List Relation)):Nat→ByteArray→(List Relation)→Option (List Relation):=fun k1 x1 s1=>(q8d a0 x1).bind fun y1=>grd (0≤y1) <| (a2[y1.toNat]?).bind fun x2=>grd (((s1.length:Int)+1)*32≤140737488355328∧(s1.length:Int)+1≤9223372036854775807) <| some (s1++[x2])
def q7E (a0:Grammar)(a1:Rule)(a2:(List Relation)):Option Relation:=(q2G (z0p a0 a2) 0 a1.Right ([]:List Relation)).bind fun s1=>(q9X a0 a1 s1).bind fun y2=>some y2
theorem z3u {a0}{a1}{a2}{r}(hr:q7E a0 a1 a2=some r){ca0}(ha0:rd F0 w0 a0 ca0){ca1}(ha1:rd F0 w0 a1 ca1){z2}(ha2:rdS F0 w0 a2 z2):RT 31 #[ag ca0,ag ca1,z2] w0 fun v w=>∃ A0 n0 c0,v = .agg #[.int .i64 r.N,(.slice A0 n0 c0)]∧I64 r.N∧HL F0 [] w0 w [] [.O 3 r.Rows (.slice A0 n0 c0)]:=by
 obtain⟨A2',n2',c2',rfl⟩:=ha2.form3
 have H:=(((HL.start F0 w0).argR ha0).argR ha1).argS ha2
 obtain⟨A1,n1,c1,A2,n2,c2,rfl,H⟩:=q2C H 0
 obtain⟨A3,n3,c3,A4,n4,c4,A5,n5,c5,rfl,hS1,hS2,H⟩:=q2U H 1
 let d1:=q3C a1 A3 n3 c3 A4 n4 c4 A5 n5 c5
 refine (En Tryz.func31) ?_
 refine R ((BX H) fun b1 w1 H=>(BX H) fun b2 w2 H=>(AH ze60 H) fun b3 w3 H=>Z (R ?_))
 refine q0h (α:=Relation) rfl rfl rfl el54 sz60 H fun A6 n6 c6 w4 H=>?_
 have H:=H.toG (i:=3) rfl
 refine (A) (Z (Y (R ((D 2) ((L H 1) ((NI H 5) fun hl1=>(V) (Z ?_)))))))
 refine bb hr fun q1 hq1 hr=>?_
 refine Bk (CW.loop (α:=Nat × (List Relation) × Value) (fun ⟨k1,s1,v1⟩=>[(2,.slice A2' n2' c2'),(3,pB b1),(4,pB b2),(6,pB b3),(7,v1),(12,.slice A3 n3 c3),(13,zN a1.Right.length),(14,zN k1)]) (fun ⟨k1,s1,v1⟩ w=>k1≤a1.Right.length∧q2G (z0p a0 a2) k1 (a1.Right.drop k1) s1=some q1∧HL F0 [] w0 w [.R a0 [.slice A1 n1 c1,.slice A2 n2 c2],.R a1 d1,.S a2 (.slice A2' n2' c2'),.S a0.Symbols (.slice A1 n1 c1),.S a0.Rules (.slice A2 n2 c2),.S a1.Right (.slice A3 n3 c3),.S a1.Equations (.slice A4 n4 c4),.S a1.Contributions (.slice A5 n5 c5)] [.B b1 31 [.slice A1 n1 c1,.slice A2 n2 c2],.B b2 65 d1,.B b3 60 [.int .i64 0,.slice none 0 0],.G 60 s1 v1]) (fun ⟨k1,s1,v1⟩=>a1.Right.length - k1) ⟨0,([]:List Relation),(.slice A6 n6 c6)⟩ ⟨rfl,rfl,rfl,rfl,rfl,rfl,rfl,rfl,trivial⟩ ⟨Nat.zero_le _,hq1,H.keep 8 4⟩ ?_)
 rintro⟨k1,s1,v1⟩ σ w5 ⟨hk1,hq1,H⟩
 obtain⟨A7,n7,c7,rfl⟩:=(H.rG (i:=3) rfl).form3
 refine R ((BZ) (Y ?_))
 refine q0d rfl (fun h1=>?_) (fun h1=>?_)
 ·have hk2:=q2L h1
  obtain⟨x1,z1,hx1,hb1,hq1⟩:=q4F hq1 hk2
  refine K (Y ?_)
  refine Bk (R ?_)
  obtain⟨b4,ob4,cb4,hvb4,hS3,H⟩:=q8q H 5 hx1
  refine (J 1 hvb4 hx1) ((L0 H 8) ((A) (Z (X ((V) ((V) ((LB H 0) ((V) ?_))))))))
  refine bb hb1 fun y1 hy1 hb1=>?_
  refine (CA ok63 (z3X hy1 ⟨_,_,rfl,(rs H 3),(rs H 4)⟩ hS3)) (cF' H fun w6 hI1 H=>?_)
  refine gg hb1 fun hg1 hb1=>?_
  refine bb hb1 fun x2 hx2 hb1=>?_
  obtain⟨b5,ob5,cb5,A8,n8,c8,hvb5,hI2,H⟩:=z3I H 2 hx2
  refine q0b rfl rfl (q0p rfl el54 sz60 rfl hvb5 rfl hg1 (q4X hx2)) ((LA H 10) ?_)
  refine q0n rfl rfl rfl el54 sz60 ze60 rfl rfl rfl rfl rfl rfl fun b6 w7 hE hb hB=>?_
  have H:=H.newB hE hb hB
  refine gg hb1 fun hg2 hb1=>?_
  refine q0M (i:=3) (ys:=[x2]) rfl rfl rfl el54 sz60 by60 ze60 rfl rfl rfl H rfl (fun F hF=>rdL.single ⟨_,rfl,hI2,(hF.get (i:=12) rfl)⟩) (.inr ⟨_,_,rfl,At.blk (rb H 4)⟩) hg2 fun A9 n9 c9 w8 H=>(A) (Z (X ((AN hk2 hl1) ((V) (Z ?_)))))
  obtain rfl:=sm hb1
  exact⟨⟨k1+1,(s1++[x2]),(.slice A9 n9 c9)⟩,⟨rfl,rfl,rfl,rfl,rfl,rfl,rfl,rfl,trivial⟩,⟨hk2,hq1,H.keep 8 4⟩,Nat.sub_lt_sub_left hk2 (Nat.lt_succ_self _)⟩
 obtain rfl:=q3N hq1 (q2E h1)
 refine CE (R ((LB H 0) ((LB H 1) ((V) ?_))))
 refine bb hr fun y2 hy2 hr=>?_
 refine (CA ok69 (z8R hy2 ⟨_,_,rfl,(rs H 3),(rs H 4)⟩ ⟨_,_,_,rfl,hS1,hS2,(rs H 5),(rs H 6),(rs H 7)⟩ (H.rG (i:=3) rfl))) ?_
 rintro _ w9 hE ⟨A10,n10,c10,rfl,hI3,H'⟩
 have H:=H.callA H' tv
 refine (SB H 2) fun w10 H=>Z (CR ?_)
 obtain rfl:=sm hr
 exact⟨_,resC rfl ag60 sz60 rfl rfl (ab H 2) rfl,H.ext0,_,_,_,rfl,hI3,H.outM (fr':=[]) [false,false,false,false,true] tw⟩
def z0L (a2:Relation)(y2:(List Int))(k1:Nat)(x1:Attribute):Nat→Attribute→((List Int) × Int)→Option ((List Int) × Int):=fun k2 x2 (s3,s4)=>( if x1.Mode=1 then if x2.Mode=2 then (y2[k1]?).bind fun x3=>(y2[k2]?).bind fun x4=>(q9B a2 x3 x4).bind fun y4=>if y4=true then (z0S (⟨s4,s3⟩:Relation) (k1:Int) (k2:Int)).bind fun y5=>some (y5.Rows,y5.N) else some (s3,s4) else some (s3,s4) else some (s3,s4) ).bind fun (s5,s6)=>some (s5,s6)
def z3g (a2:Relation)(y1:(List Attribute))(y2:(List Int)):Nat→Attribute→((List Int) × Int)→Option ((List Int) × Int):=fun k1 x1 (s1,s2)=>(q2G (z0L a2 y2 k1 x1) 0 y1 (s1,s2)).bind fun (s3,s4)=>some (s3,s4)
def z0e (a0:Grammar)(a1:Rule)(a2:Relation):Option Relation:=(q3h a0 a1.Left).bind fun y1=>(q3P a0 a1 0).bind fun y2=>(q5X (y1.length:Int)).bind fun y3=>(q2G (z3g a2 y1 y2) 0 y1 (y3.Rows,y3.N)).bind fun (s1,s2)=>some (⟨s2,s1⟩:Relation)
theorem j0V {a0}{a1}{a2 r}(hr:z0e a0 a1 a2=some r){ca0}(ha0:rd F0 w0 a0 ca0){ca1}(ha1:rd F0 w0 a1 ca1){ca2}(ha2:rd F0 w0 a2 ca2):RT 65 #[ag ca0,ag ca1,ag ca2] w0 fun v w=>∃ A0 n0 c0,v = .agg #[.int .i64 r.N,(.slice A0 n0 c0)]∧I64 r.N∧HL F0 [] w0 w [] [.O 3 r.Rows (.slice A0 n0 c0)]:=by
 have H:=(((HL.start F0 w0).argR ha0).argR ha1).argR ha2
 obtain⟨A1,n1,c1,A2,n2,c2,rfl,H⟩:=q2C H 0
 let d13:Pr:=.S a0.Rules (.slice A2 n2 c2)
 let d11:Pr:=.S a0.Symbols (.slice A1 n1 c1)
 let d4:List Value:=[.slice A1 n1 c1,.slice A2 n2 c2]
 obtain⟨A3,n3,c3,A4,n4,c4,A5,n5,c5,rfl,hS1,hS2,H⟩:=q2U H 1
 let d14:Pr:=.S a1.Right (.slice A3 n3 c3)
 let d10:Pr:=.S a1.Equations (.slice A4 n4 c4)
 let d8:Pr:=.S a1.Contributions (.slice A5 n5 c5)
 let d3:=q3C a1 A3 n3 c3 A4 n4 c4 A5 n5 c5
 obtain⟨A6,n6,c6,rfl,hI1,H⟩:=q2O H 2
 let d15:Pr:=.S a2.Rows (.slice A6 n6 c6)
 let d6:=q2D a2 A6 n6 c6
 let d1:List Pr:=[.R a0 d4,.R a1 d3,.R a2 d6,d11,d13,d14,d10,d8,d15]
 refine (En Tryz.func65) ?_
 refine R ((BX H) fun b1 w1 H=>(BX H) fun b2 w2 H=>(BX H) fun b3 w3 H=>(AH ze60 H) fun b4 w4 H=>Z (Y ?_))
 let d16:It:=.B b1 31 d4
 let d5:It:=.B b4 60 [.int .i64 0,.slice none 0 0]
 refine q0A (fun w=>HL F0 [] w0 w d1 [d16,.B b2 65 d3,.B b3 60 d6,d5]) hmix (fun w5 hE=>?_)
 have H:HL F0 [] w0 w5 d1 [d16,.B b2 65 d3,.B b3 60 d6,d5]:=H.ext hE
 refine HW.take 0 (H.keep 9 4) rfl (by kernel_rfl) rfl rfl (fun _ hq=>q0c rfl ag31 sz31 rfl (At.blk (hq.rB (i:=0) rfl)) rfl) ?_
 refine HW.take 1 (H.keep 9 4) rfl (by kernel_rfl) rfl rfl (fun _ _=>q0v rfl k0Y rfl) ?_
 refine HW.take 2 (H.keep 9 4) rfl (by kernel_rfl) rfl rfl (fun _ hq=>q0l rfl ag9 rfl ((hq.rB (i:=1) rfl).cell rfl)) ?_
 refine HW.take 4 (H.keep 9 4) rfl (by kernel_rfl) rfl rfl (fun _ hq=>q0c rfl ag31 sz31 rfl (At.blk (hq.rB (i:=0) rfl)) rfl) ?_
 refine HW.take 5 (H.keep 9 4) rfl (by kernel_rfl) rfl rfl (fun _ hq=>q0c rfl ag65 sz65 rfl (At.blk (hq.rB (i:=1) rfl)) rfl) ?_
 refine q0f 3 rfl (by kernel_rfl) ?_
 refine bb hr fun y1 hy1 hr=>?_
 refine (CA j7G (q6Q hy1 ⟨_,_,rfl,(rs H 3),(rs H 4)⟩ hS2)) ?_
 rintro _ w6 hE ⟨A7,n7,c7,rfl,H'⟩
 let d7:It:=.O 120 y1 (.slice A7 n7 c7)
 have H:=H.callA H' tv
 refine q0a (H.keep 9 4) ?_
 refine q0f 6 rfl (by kernel_rfl) ?_
 refine bb hr fun y2 hy2 hr=>?_
 refine (CA k1b (z1n hy2 ⟨_,_,rfl,(rs H 3),(rs H 4)⟩ ⟨_,_,_,rfl,hS1,hS2,(rs H 5),(rs H 6),(rs H 7)⟩ dI)) ?_
 rintro _ w7 hE ⟨A8,n8,c8,rfl,H'⟩
 let d9:It:=.O 3 y2 (.slice A8 n8 c8)
 have H:=H.callA H' tv
 refine q0a (H.keep 9 4) ?_
 refine HW.take 7 (H.keep 9 4) rfl (by kernel_rfl) rfl rfl (fun _ _=>q0Z rfl rfl) ?_
 refine HW.take 8 (H.keep 9 4) rfl (by kernel_rfl) rfl rfl (fun _ _=>q0Z rfl rfl) ?_
 refine q0i (by kernel_rfl) (R ((V) ?_))
 have hl1:=(H.rO (i:=4) rfl).I
 refine (NN (ro H 4)) ?_
 refine bb hr fun y3 hy3 hr=>?_
 refine (CA j9K (q9y hy3 (F0:=nF) hl1)) ?_
 rintro _ w8 hE ⟨A9,n9,c9,rfl,hI2,H'⟩
 have H:=H.callA H' tv
 refine (AH ze60 H) fun b5 w9 H=>(SB H 7) fun w10 H=>Z (Y (R ((V) ((NN (ro H 4)) ((V) (Z ?_))))))
 refine bb hr fun q1 hq1 hr=>?_
 refine (lE hq1 (fun k1 ⟨s1,s2⟩ v1=>[(5,pB b3),(6,pB b4),(7,.slice A7 n7 c7),(8,.slice A8 n8 c8),(9,pB b5),(24,.slice A7 n7 c7),(25,zN y1.length),(26,zN k1)]) (fun ⟨s1,s2⟩ v1 w=>I64 s2∧HL F0 [] w0 w d1 [d16,.B b2 65 d3,.B b3 60 d6,d5,d7,d9,.O 3 s1 v1,.B b5 60 [.int .i64 s2,v1]]) (.slice A9 n9 c9)) ?_
 rintro k1 ⟨s1,s2⟩ v1 σ w11 hk1 hq1 ⟨hI3,H⟩
 obtain⟨A10,n10,c10,rfl⟩:=(fo H 6)
 refine R ((BZ) (Y ?_))
 refine q0d rfl (fun h1=>?_) (fun h1=>?_)
 ·have hk2:=q2L h1
  obtain⟨x1,z1,hx1,hb1,hq1⟩:=q4F hq1 hk2
  let d12:=q3k x1
  let d2:List Pr:=[.R a0 d4,.R a1 d3,.R a2 d6,d11,d13,d14,d10,d8,d15,.R x1 d12]
  refine K (Y ?_)
  refine Bk (R ((V) ?_))
  obtain⟨b6,cb6,hvb6,hbb6⟩:=po H 4 hx1
  refine (J 4 hvb6 hx1) ?_
  obtain⟨hA1,hS3,hI4,hI5,H⟩:=q3O H 4 hx1 hbb6
  refine q0b rfl rfl (q0c rfl z7z q9m rfl hA1 rfl) ((AH q7T H) fun b7 w12 H=>(A) ((SB H 8) fun w13 H=>Z (R ((V) ((NN (ro H 4)) ((V) (Z ?_)))))))
  refine bb hb1 fun q2 hq2 hb1=>?_
  refine (lE hq2 (fun k2 ⟨s3,s4⟩ v2=>[(5,pB b3),(6,pB b4),(7,.slice A7 n7 c7),(8,.slice A8 n8 c8),(9,pB b5),(10,zN k1),(11,pB b7),(24,.slice A7 n7 c7),(25,zN y1.length),(26,zN k1),(31,.slice A7 n7 c7),(32,zN y1.length),(33,zN k2)]) (fun ⟨s3,s4⟩ v2 w=>I64 s4∧HL F0 [] w0 w d2 [d16,.B b2 65 d3,.B b3 60 d6,d5,d7,d9,.O 3 s3 v2,.B b5 60 [.int .i64 s4,v2],.B b7 120 d12]) (.slice A10 n10 c10)) ?_
  rintro k2 ⟨s3,s4⟩ v2 σ w14 hk3 hq2 ⟨hI6,H⟩
  obtain⟨A11,n11,c11,rfl⟩:=(fo H 6)
  refine R ((BZ) (Y ?_))
  refine q0d rfl (fun h2=>?_) (fun h2=>?_)
  ·have hk4:=q2L h2
   obtain⟨x2,z2,hx2,hb2,hq2⟩:=q4F hq2 hk4
   refine K ?_
   refine bb hb2 fun q3 hm1 hb2=>Y ?_
   refine q0o (fun ρ' w=>∃ (s5:List Int) (s6:Int) (v3:Value),q3=(s5,s6)∧q4z ρ' [(5,pB b3),(6,pB b4),(7,.slice A7 n7 c7),(8,.slice A8 n8 c8),(9,pB b5),(10,zN k1),(11,pB b7),(24,.slice A7 n7 c7),(25,zN y1.length),(26,zN k1),(31,.slice A7 n7 c7),(32,zN y1.length),(33,zN k2)]∧I64 s6∧HL F0 [] w0 w d2 [d16,.B b2 65 d3,.B b3 60 d6,d5,d7,d9,.O 3 s5 v3,.B b5 60 [.int .i64 s6,v3],.B b7 120 d12]) ?_ ?_
   ·refine Bk (R ((V) ?_))
    obtain⟨b8,cb8,hvb8,hbb8⟩:=po H 4 hx2
    refine (J 4 hvb8 hx2) ?_
    obtain⟨hA2,hS4,hI8,hI9,H⟩:=q3O H 4 hx2 hbb8
    refine q0b rfl rfl (q0c rfl z7z q9m rfl hA2 rfl) ((AH q7T H) fun b9 w15 H=>(A) ((SB H 9) fun w16 H=>Z (Y ?_)))
    refine q0g hmix (by kernel_rfl) ?_
    refine (qD 2) ((qL H 8) ((qB) ?_))
    refine kD hm1 (fun _ hm1=>?_) fun _ hm1=>?_
    ·refine (qG) ((qD 2) ((qG) ((qL H 9) ((qG) ((qB) ((qT) ?_))))))
     refine kD hm1 (fun _ hm1=>?_) fun _ hm1=>?_
     ·refine (qG) ((qLB H 2) ((qG) ((qV) ((qG) ((qV) ((qG) ?_))))))
      refine bb hm1 fun x3 hx3 hm1=>?_
      obtain⟨b10,cb10,hvb10,hbb10⟩:=po H 5 hx3
      refine (qJ 1 hvb10 hx3) ((qG) ?_)
      obtain⟨hA3,hI10,H⟩:=q5f H 5 hx3 hbb10
      refine q0k rfl rfl (fun _ hq=>q0l rfl ag3 rfl ((hA3.ext hq).cell0 rfl)) ?_
      refine (qG) ((qV) ((qG) ((qV) ((qG) ?_))))
      refine bb hm1 fun x4 hx4 hm1=>?_
      obtain⟨b11,cb11,hvb11,hbb11⟩:=po H 5 hx4
      refine (qJ 1 hvb11 hx4) ((qG) ?_)
      obtain⟨hA4,hI11,H⟩:=q5f H 5 hx4 hbb11
      refine q0k rfl rfl (fun _ hq=>q0l rfl ag3 rfl ((hA4.ext hq).cell0 rfl)) ?_
      refine (qG) ?_
      refine bb hm1 fun y4 hy4 hm1=>?_
      refine (qC ok68 (fun _ hq=>z5r hy4 ⟨_,rfl,hI1,(rs (H.ext hq) 8)⟩ hI10 hI11)) ?_
      refine (qT) ?_
      refine QL.nil (fun w17 hE=>?_)
      have H:=H.ext hE
      refine iB hm1 (fun _ hm1=>?_) fun _ hm1=>?_
      ·refine q0e [(5,pB b3),(6,pB b4),(7,.slice A7 n7 c7),(8,.slice A8 n8 c8),(9,pB b5),(10,zN k1),(11,pB b7),(12,zN k2),(24,.slice A7 n7 c7),(25,zN y1.length),(26,zN k1),(31,.slice A7 n7 c7),(32,zN y1.length),(33,zN k2),(42,.pointer (some ⟨b9,0+2,none⟩)),(43,.int .i64 x2.Mode),(44,.bool (decide (x2.Mode=2))),(47,.agg #[.int .i64 a2.N,.slice A6 n6 c6]),(48,.slice A8 n8 c8),(49,zN k1),(50,.pointer (some ⟨b10,0+k1*1,none⟩)),(51,.int .i64 x3),(52,.slice A8 n8 c8),(53,zN k2),(54,.pointer (some ⟨b11,0+k2*1,none⟩)),(55,.int .i64 x4),(56,.bool y4)] ⟨rfl,rfl,rfl,rfl,rfl,rfl,rfl,rfl,rfl,rfl,rfl,rfl,rfl,rfl,rfl,rfl,rfl,rfl,rfl,rfl,rfl,rfl,rfl,rfl,rfl,rfl,rfl,trivial⟩ fun σ=>?_
       have H:HL F0 [] w0 w17 [.R a0 d4,.R a1 d3,.R a2 d6,d11,d13,d14,d10,d8,d15,.R x1 d12,.R x2 (q3k x2),.R x3 [.int .i64 x3],.R x4 [.int .i64 x4]] [d16,.B b2 65 d3,.B b3 60 d6,d5,d7,d9,.O 3 s3 (.slice A11 n11 c11),.B b5 60 [.int .i64 s4,.slice A11 n11 c11],.B b7 120 d12,.B b9 120 (q3k x2)]:=H
       refine X ((LB H 7) ((V) ((V) ?_)))
       refine bb hm1 fun y5 hy5 hm1=>?_
       refine (CA j9M (z5q hy5 ⟨_,rfl,hI6,(ro H 6)⟩ (q5v hk2 hl1) (q5v hk4 hl1))) ?_
       rintro _ w18 hE ⟨A12,n12,c12,rfl,hI12,H'⟩
       have H:=H.callA H' tv
       refine (SB H 7) fun w19 H=>Z ?_
       have H:=H.swap 6 10
       exact C1 hm1
      exact K (C1 hm1)
     refine (qO) ((qO) ((qO) ((qO) ((qO) ((qO) ((qO) ((qO) ((qO) ((qO) ((qU) ?_))))))))))
     refine QL.nil (fun w20 hE=>?_)
     have H:=H.ext hE
     exact (cF) (K (C1 hm1))
    refine (qO) ((qO) ((qO) ((qU) ((qV) ((qO) ((qO) ((qO) ((qO) ((qO) ((qO) ((qO) ((qO) ((qO) ((qO) ((qU) ?_)))))))))))))))
    refine QL.nil (fun w21 hE=>?_)
    have H:=H.ext hE
    exact (cF) (K (C1 hm1))
   rintro ρ' w22 ⟨s5,s6,v3,rfl,hag,hI7,H⟩
   obtain⟨σ,rfl⟩:=q4g hag
   obtain⟨A13,n13,c13,rfl⟩:=(fo H 6)
   exact X ((AN hk4 hl1) ((V) (Z (I1 hb2 ⟨k2+1,⟨s5,s6⟩,(.slice A13 n13 c13)⟩))))
  obtain rfl:=q3N hq2 (q2E h2)
  exact CE (X ((AN hk2 hl1) ((V) (Z (I1 hb1 ⟨k1+1,⟨s3,s4⟩,(.slice A11 n11 c11)⟩)))))
 obtain rfl:=q3N hq1 (q2E h1)
 refine CE (R ((LB H 7) ((SB H 3) fun w23 H=>Z (CR ?_))))
 obtain rfl:=sm hr
 exact⟨_,resC rfl ag60 sz60 rfl rfl (ab H 3) rfl,H.ext0,_,_,_,rfl,hI3,H.outM (fr':=[]) [false,false,false,false,false,false,true,false] tw⟩
def z2B (a1:Relation):Nat→(List Int)→Option (List Int):=fun k1 s3=>(s3[k1]?).bind fun x1=>(a1.Rows[k1]?).bind fun x2=>grd (0≤x1∧0≤x2) <| some (List.set s3 k1 ((x1.toNat ||| x2.toNat:Nat):Int))
def q8n (a0 a1:Relation):Option Relation:=(q6v a0).bind fun y1=>(q4m a0).bind fun y2=>( if y2=true then (q4m a1).bind fun y3=>some y3 else some false ).bind fun s1=>( if s1=true then some (decide (a0.N=a1.N)) else some false ).bind fun s2=>if s2=true then (q7u (z2B a1) 0 (y1.Rows.length) y1.Rows).bind fun s3=>some (⟨y1.N,s3⟩:Relation) else some y1
theorem z6N {a0 a1 r}(hr:q8n a0 a1=some r){ca0}(ha0:rd F0 w0 a0 ca0){ca1}(ha1:rd F0 w0 a1 ca1):RT 64 #[ag ca0,ag ca1] w0 fun v w=>∃ A0 n0 c0,v = .agg #[.int .i64 r.N,(.slice A0 n0 c0)]∧I64 r.N∧HL F0 [] w0 w [] [.O 3 r.Rows (.slice A0 n0 c0)]:=by
 have H:=((HL.start F0 w0).argR ha0).argR ha1
 obtain⟨A1,n1,c1,rfl,hI1,H⟩:=q2O H 0
 let d3:=q2D a0 A1 n1 c1
 obtain⟨A2,n2,c2,rfl,hI2,H⟩:=q2O H 1
 let d4:=q2D a1 A2 n2 c2
 let d1:List Pr:=[.R a0 d3,.R a1 d4,.S a0.Rows (.slice A1 n1 c1),.S a1.Rows (.slice A2 n2 c2)]
 refine (En Tryz.func64) ?_
 refine R ((BX H) fun b1 w1 H=>(BX H) fun b2 w2 H=>(AH ze60 H) fun b3 w3 H=>Z (R ((LB H 0) ?_)))
 let d5:It:=.B b3 60 [.int .i64 0,.slice none 0 0]
 refine bb hr fun y1 hy1 hr=>?_
 refine (CA j9L (z0o hy1 ⟨_,rfl,hI1,(rs H 2)⟩)) ?_
 rintro _ w4 hE ⟨A3,n3,c3,rfl,hI3,H'⟩
 have H:=H.callA H' tv
 refine (AH ze60 H) fun b4 w5 H=>(SB H 4) fun w6 H=>Z (Y (R ((LB H 0) ?_)))
 let d2:List It:=[.B b1 60 d3,.B b2 60 d4,d5,.O 3 y1.Rows (.slice A3 n3 c3),.B b4 60 (q2D y1 A3 n3 c3)]
 refine bb hr fun y2 hy2 hr=>?_
 refine (CA j5S (q5L hy2 ⟨_,rfl,hI1,(rs H 2)⟩)) (cE H fun w7 H=>?_)
 refine bb hr fun q1 hm1 hr=>?_
 refine cu H 4 [(2,pB b1),(3,pB b2),(4,pB b3),(5,pB b4),(14,.bool q1)] d1 d2 ?_ fun σ w9 H=>?_
 ·refine jB hm1 (fun _ hm1=>?_) fun _ hm1=>?_
  ·refine (G) ((LB H 1) ((G) ?_))
   refine bb hm1 fun y3 hy3 hm1=>?_
   exact (CA j5S (q5L hy3 ⟨_,rfl,hI2,(rs H 3)⟩)) (cE H fun w8 H=>(T) (Z (C1 hm1)))
  exact OF hm1
 refine bb hr fun q2 hm2 hr=>?_
 refine cu H 7 [(3,pB b2),(4,pB b3),(5,pB b4),(21,.bool q2)] d1 d2 ?_ fun σ w10 H=>?_
 ·refine jB hm2 (fun _ hm2=>?_) fun _ hm2=>?_
  ·exact (G) ((D 0) ((G) ((L H 0) ((G) ((D 0) ((G) ((L H 1) ((G) ((B) ((T) (Z (C1 hm2))))))))))))
  exact OF hm2
 refine Z (iB hr (fun _ hr=>?_) fun _ hr=>?_)
 ·refine R ((D 1) ((L H 4) ?_))
  have hl1:=(H.rO (i:=3) rfl).I
  refine (NN (ro H 3)) ((V) (Z ?_))
  refine bb hr fun q3 hq1 hr=>?_
  refine (lN hq1 (fun k1 s3 _=>[(3,pB b2),(4,pB b3),(5,pB b4),(24,zN y1.Rows.length),(25,zN k1)]) (fun s3 _ w=>HL F0 [] w0 w d1 [.B b1 60 d3,.B b2 60 d4,d5,.O 3 s3 (.slice A3 n3 c3),.B b4 60 (q2D y1 A3 n3 c3)]) ()) ?_
  rintro k1 s3 _ σ w11 hk1 hq1 H
  refine R ((BZ) (Y ?_))
  refine q0d rfl (fun h4=>?_) (fun h4=>?_)
  ·have hk2:=q2L h4
   obtain⟨z1,hb1,hq1⟩:=z1I hq1 hk2
   refine K (Y ?_)
   refine Bk (R ((V) ((AZ) ?_)))
   refine q0t 12 hmix (by kernel_rfl) ?_
   refine (qD 1) ((qL H 4) ((qV) ?_))
   refine bb hb1 fun x1 hx1 hb1=>?_
   obtain⟨b5,cb5,hvb5,hbb5⟩:=po H 3 hx1
   refine (qJ 1 hvb5 hx1) ?_
   obtain⟨hA1,hI4,H⟩:=q5f H 3 hx1 hbb5
   refine q0k rfl rfl (fun _ hq=>q0l rfl ag3 rfl ((hA1.ext hq).cell0 rfl)) ?_
   refine (qD 1) ((qL H 1) ((qV) ?_))
   refine bb hb1 fun x2 hx2 hb1=>?_
   obtain⟨b6,ob6,cb6,hvb6,hI5,H⟩:=z0k H 3 hx2
   refine (qJ 1 hvb6 hx2) ((qL0 H 5) ?_)
   refine gg hb1 fun hg1 hb1=>?_
   refine (qBN (q0T hg1.1 hI4.2 hg1.2 hI5.2)) ?_
   obtain⟨b7,cb7,hvb7,hbb7⟩:=po H 3 hx1
   refine (qJ 1 hvb7 hx1) ?_
   refine QL.nil (fun w12 hE=>?_)
   have H:=H.ext hE
   exact q0F (i:=3) (z:=((x1.toNat ||| x2.toNat:Nat):Int)) rfl rfl rfl sz3 rfl rfl rfl (fun _=>⟨rfl,rfl,(z9X hg1 hI4 hI5)⟩) H rfl hbb7 (by simpa using q4X hx1) fun w13 H=>Z (X ((AN hk2 hl1) ((V) (Z (I1 hb1 ⟨k1+1,(List.set s3 k1 ((x1.toNat ||| x2.toNat:Nat):Int)),()⟩)))))
  obtain rfl:=q9Y hq1 (q2E h4)
  refine CE (R ((LB H 4) ((SB H 2) fun w14 H=>Z (CR ?_))))
  obtain rfl:=sm hr
  exact⟨_,resC rfl ag60 sz60 rfl rfl (ab H 2) rfl,H.ext0,_,_,_,rfl,hI3,H.outM (fr':=[]) [false,false,false,true,false] tw⟩
 refine K (R ((LB H 4) ((SB H 2) fun w15 H=>Z (CR ?_))))
 obtain rfl:=sm hr
 exact⟨_,resC rfl ag60 sz60 rfl rfl (ab H 2) rfl,H.ext0,_,_,_,rfl,hI3,H.outM (fr':=[]) [false,false,false,true,false] tw⟩
def z5s (a1:(List Int)):Nat→Int→Unit→Option (Unit ⊕ Bool):=fun k1 x1 _=>(a1[k1]?).bind fun x2=>if x1=x2 then some (.inl ()) else some (.inr false)
def z1R (a0 a1:(List Int)):Option Bool:=if (a0.length:Int)=(a1.length:Int) then (q2I (z5s a1) 0 a0 ()).bind <| onr (fun r1=>some r1) fun _=>some true else some false
theorem z5t {a0 a1}{r}(hr:z1R a0 a1=some r){z0}(ha0:rdS F0 w0 a0 z0){z1}(ha1:rdS F0 w0 a1 z1):RB 115 #[z0,z1] w0 r:=by
 obtain⟨A0',n0',c0',rfl⟩:=ha0.form3
 obtain⟨A1',n1',c1',rfl⟩:=ha1.form3
 have H:=((HL.start F0 w0).argS ha0).argS ha1
 refine (En Tryz.func115) ?_
 refine R ((A) (Z (Y (R ((V) ((NI H 0) fun hl1=>(V) ((NI H 1) fun hl2=>(BZ) (iN hr (fun _ hr=>?_) fun _ hr=>?_))))))))
 ·exact R ((AZ) (W1 hr))
 refine K (Y (R ((V) ((NN (rs H 0)) ((V) (Z ?_))))))
 refine bb hr fun q1 hq1 hr=>?_
 refine (lF hq1 (fun k1 _ _=>[(0,.slice A0' n0' c0'),(1,.slice A1' n1' c1'),(12,zN a0.length),(13,zN k1)]) (fun _ _ w=>HL F0 [] w0 w [.S a0 (.slice A0' n0' c0'),.S a1 (.slice A1' n1' c1')] []) ()) ?_
 rintro k1 _ _ σ w1 hk1 hq1 H
 refine R ((BZ) (Y ?_))
 refine q0d rfl (fun h2=>?_) (fun h2=>?_)
 ·have hk2:=q2L h2
  obtain⟨x1,z1,hx1,hb1,hs1,ht1⟩:=q4f hq1 hk2
  refine K (Y ?_)
  refine Bk (R ((V) ((AZ) (Y ?_))))
  refine q0g hmix (by kernel_rfl) ?_
  refine (qV) ((qV) ?_)
  obtain⟨b1,ob1,cb1,hvb1,hI1,H⟩:=z0k H 0 hx1
  refine (qJ 1 hvb1 hx1) ((qL0 H 2) ((qV) ((qV) ?_)))
  refine bb hb1 fun x2 hx2 hb1=>?_
  obtain⟨b2,ob2,cb2,hvb2,hI2,H⟩:=z0k H 1 hx2
  refine (qJ 1 hvb2 hx2) ((qL0 H 4) ((qB) ?_))
  refine QL.nil (fun w2 hE=>?_)
  have H:=H.ext hE
  refine iN hb1 (fun _ hb1=>?_) fun _ hb1=>?_
  ·exact R ((AZ) (W2 hb1 ht1 hr))
  exact K (X ((AN hk2 hl1) ((V) (Z (I2 hb1 hs1 ⟨k1+1,(),()⟩)))))
 obtain rfl:=q3r hq1 (q2E h2)
 have hr:=(q3q _ _ _).symm.trans hr
 exact CE (R ((AZ) (W1 hr)))
def z0q (a0 a1:Relation):Option Bool:=if a0.N=a1.N then (z1R a0.Rows a1.Rows).bind fun y1=>some y1 else some false
theorem z6O {a0 a1}{r}(hr:z0q a0 a1=some r){ca0}(ha0:rd F0 w0 a0 ca0){ca1}(ha1:rd F0 w0 a1 ca1):RB 66 #[ag ca0,ag ca1] w0 r:=by
 have H:=((HL.start F0 w0).argR ha0).argR ha1
 obtain⟨A1,n1,c1,rfl,hI1,H⟩:=q2O H 0
 obtain⟨A2,n2,c2,rfl,hI2,H⟩:=q2O H 1
 refine (En Tryz.func66) ?_
 refine R ((BX H) fun b1 w1 H=>(BX H) fun b2 w2 H=>(A) (Z (R ((D 0) ((L H 0) ((D 0) ((L H 1) ((B) (jD hr (fun _ hr=>?_) fun _ hr=>?_)))))))))
 ·refine (G) ((D 1) ((G) ((L H 0) ((G) ((D 1) ((G) ((L H 1) ((G) ?_))))))))
  refine bb hr fun y1 hy1 hr=>?_
  exact (CA k2c (z5t hy1 (rs H 2) (rs H 3))) (cE H fun w3 H=>(T) ((AZ) (W1 hr)))
 exact (O) ((O) ((O) ((O) ((O) ((U) ((AZ) (W1 hr)))))))
def q7t (a0:Grammar):Nat→Rule→(Bool × (List Relation))→Option (Bool × (List Relation)):=fun k1 x1 (s4,s5)=>( (q8d a0 x1.Left).bind fun y3=>grd (0≤y3) <| (s5[y3.toNat]?).bind fun x2=>(q7E a0 x1 s5).bind fun y4=>(z0e a0 x1 y4).bind fun y5=>(q8n x2 y5).bind fun y6=>if s4=true then some (true,(List.set s5 y3.toNat y6)) else (z0q y6 x2).bind fun y7=>some (!y7,(List.set s5 y3.toNat y6)) ).bind fun (s6,s7)=>some (s6,s7)
def q3a (a0:Grammar):((List Relation) × Bool)→Option (((List Relation) × Bool) ⊕ (List Relation)):=fun (s2,s3)=>if s3=true then (q2G (q7t a0) 0 a0.Rules (false,s2)).bind fun (s4,s5)=>some (.inl (s5,s4)) else some (.inr s2)
def q7Q (a0:Grammar):Option ((List Relation) × Bool):=(z1k a0).bind fun y1=>if y1=true then (q7N a0).bind fun y2=>( q5u (q3a a0) (y2,true) ).bind fun s1=>some (s1,true) else some ([],false)
theorem z6j {a0}{r}(hr:q7Q a0=some r){ca0}(ha0:rd F0 w0 a0 ca0):RT 29 #[ag ca0] w0 fun v w=>∃ A0 n0 c0,v = .tuple #[(.slice A0 n0 c0),.bool r.2]∧HL F0 [] w0 w [] [.G 60 r.1 (.slice A0 n0 c0)]:=by
 have H:=(HL.start F0 w0).argR ha0
 obtain⟨A1,n1,c1,A2,n2,c2,rfl,H⟩:=q2C H 0
 let d4:List Value:=[.slice A1 n1 c1,.slice A2 n2 c2]
 let d1:List Pr:=[.R a0 d4,.S a0.Symbols (.slice A1 n1 c1),.S a0.Rules (.slice A2 n2 c2)]
 refine (En Tryz.func29) ?_
 refine R ((BX H) fun b1 w1 H=>(A) ((A) (Z (Y (R ((LB H 0) ?_))))))
 let d2:It:=.B b1 31 d4
 refine bb hr fun y1 hy1 hr=>?_
 refine (CA ok15 (z7s hy1 ⟨_,_,rfl,(rs H 1),(rs H 2)⟩)) (cE H fun w2 H=>(N) (Z (iM hr (fun _ hr=>?_) fun h1 hr=>?_)))
 ·refine R ((A) ((AZ) (CR ?_)))
  have H:=H.nilG (α:=Relation) 60
  obtain rfl:=sm hr
  exact⟨_,res2 rfl rfl rfl rfl rfl,H.ext0,_,_,_,rfl,H.outM (fr':=[]) [false,true] tw⟩
 refine K (R ((LB H 0) ?_))
 refine bb hr fun y2 hy2 hr=>?_
 obtain⟨F,hF,hcl⟩:=H.call
 refine (CA ok62 (z6i hy2 ⟨_,_,rfl,(hF.get (i:=1) rfl),(hF.get (i:=2) rfl)⟩)) ?_
 rintro _ w3 hE ⟨A3,n3,c3,rfl,H'⟩
 have H:HL F0 [] w0 w3 d1 [d2,.G 60 y2 (.slice A3 n3 c3)]:=hcl H'
 refine (A) (Z (Y (R ((AZ) ?_))))
 refine bb hr fun q1 hm1 hr=>?_
 refine cm H [(4,.slice A3 n3 c3)] d1 [d2,.G 60 q1 (.slice A3 n3 c3)] ?_ fun σ w16 H=>?_
 ·obtain⟨m1,hq1⟩:=q4o.1 hm1
  refine (lI hq1 (fun m1 ⟨s2,s3⟩ _=>[(1,pB b1),(4,.slice A3 n3 c3),(5,.bool s3)]) (fun ⟨s2,s3⟩ _ w=>HL F0 [] w0 w d1 [d2,.G 60 s2 (.slice A3 n3 c3)]) ()) ?_
  rintro m1 ⟨s2,s3⟩ _ σ w4 hq1 H
  obtain⟨m2,z1,rfl,hb1,hs1,ht1⟩:=q6H hq1
  refine Y (R ((V) (Z (iB hb1 (fun h2 hb1=>?_) fun _ hb1=>?_))))
  ·refine K ?_
   refine Bk (R ((A) (Z (R ((D 1) ((L H 0) ((NI H 2) fun hl1=>(V) (Z ?_))))))))
   refine bb hb1 fun q2 hq2 hb1=>?_
   refine (lE hq2 (fun k1 ⟨s4,s5⟩ _=>[(1,pB b1),(4,.slice A3 n3 c3),(5,.bool s4),(17,.slice A2 n2 c2),(18,zN a0.Rules.length),(19,zN k1)]) (fun ⟨s4,s5⟩ _ w=>HL F0 [] w0 w d1 [d2,.G 60 s5 (.slice A3 n3 c3)]) ()) ?_
   rintro k1 ⟨s4,s5⟩ _ σ w5 hk1 hq2 H
   refine R ((BZ) (Y ?_))
   refine q0d rfl (fun h3=>?_) (fun h3=>?_)
   ·have hk2:=q2L h3
    obtain⟨x1,z2,hx1,hb2,hq2⟩:=q4F hq2 hk2
    refine K ?_
    refine bb hb2 fun q3 hm2 hb2=>Y ?_
    refine q0o (fun ρ' w=>∃ (s6:Bool) (s7:List Relation),q3=(s6,s7)∧q4z ρ' [(1,pB b1),(4,.slice A3 n3 c3),(5,.bool s6),(17,.slice A2 n2 c2),(18,zN a0.Rules.length),(19,zN k1)]∧HL F0 [] w0 w d1 [d2,.G 60 s7 (.slice A3 n3 c3)]) ?_ ?_
    ·refine Bk (R ?_)
     obtain⟨b2,ob2,cb2,A4,n4,c4,A5,n5,c5,A6,n6,c6,hvb2,hS1,hS2,H⟩:=q6k H 2 hx1
     let d3:=q3C x1 A4 n4 c4 A5 n5 c5 A6 n6 c6
     refine (J 6 hvb2 hx1) ((LA H 3) ((AH ze65 H) fun b3 w6 H=>(SB H 2) fun w7 H=>Z (R ((LB H 0) ((D 1) ((L H 2) ?_))))))
     refine bb hm2 fun y3 hy3 hm2=>?_
     refine (CA ok63 (z3X hy3 ⟨_,_,rfl,(rs H 1),(rs H 2)⟩ hS2)) (cF' H fun w8 hI1 H=>(AZ) ?_)
     refine gg hm2 fun hg1 hm2=>?_
     refine bb hm2 fun x2 hx2 hm2=>?_
     obtain⟨b4,cb4,hvb4,hbb4⟩:=H.ptG (i:=1) rfl hx2
     obtain⟨A7,n7,c7,hA1,hI2,H⟩:=q3o H (i:=1) rfl hx2 hbb4
     refine bb hm2 fun y4 hy4 hm2=>?_
     refine bb hm2 fun y5 hy5 hm2=>?_
     refine bb hm2 fun y6 hy6 hm2=>Y ?_
     refine q0H 13 (fun ρ=>[.fix (.slice A3 n3 c3),.fix (.int .i64 y3),.fix (.pointer (some ⟨b4,0+y3.toNat*2,none⟩)),.fix (.agg #[.int .i64 x2.N,.slice A7 n7 c7]),.fix (.agg #[.slice A1 n1 c1,.slice A2 n2 c2]),.fix (.agg #[.string x1.Name,.string x1.Left,.slice A4 n4 c4,.bool x1.Literal,.slice A5 n5 c5,.slice A6 n6 c6]),.fix (.agg #[.slice A1 n1 c1,.slice A2 n2 c2]),.fix (.agg #[.string x1.Name,.string x1.Left,.slice A4 n4 c4,.bool x1.Literal,.slice A5 n5 c5,.slice A6 n6 c6]),.fix (.slice A3 n3 c3),.free (fun S v w=>∃ A8:Option Addr,∃ n8:Nat,∃ c8:Nat,v = .agg #[.int .i64 y4.N,.slice A8 n8 c8]∧I64 y4.N∧NewI S w [.O 3 y4.Rows (.slice A8 n8 c8)]),.free (fun S v w=>∃ A9:Option Addr,∃ n9:Nat,∃ c9:Nat,v = .agg #[.int .i64 y5.N,.slice A9 n9 c9]∧I64 y5.N∧NewI S w [.O 3 y5.Rows (.slice A9 n9 c9)]),.free (fun S v w=>∃ A10:Option Addr,∃ n10:Nat,∃ c10:Nat,v = .agg #[.int .i64 y6.N,.slice A10 n10 c10]∧I64 y6.N∧NewI S w [.O 3 y6.Rows (.slice A10 n10 c10)]),.free (fun S v w=>∃ b:Nat,v=pB b∧NewI S w [.B b 60 [.int .i64 0,.slice none 0 0]])]) [[],[],[],[],[],[],[],[],[],[],[],[],[]] NoM (fun _ _=>True) [] [] (noM _) hmix (by kernel_rfl) rfl ⟨trivial,trivial,trivial,trivial,trivial,trivial,trivial,trivial,trivial,fun _ _ _ _ _ ⟨A8,n8,c8,hv,h0,hh⟩ hc hS hT=>⟨A8,n8,c8,hv,h0,hh.chgT hc hS⟩,fun _ _ _ _ _ ⟨A9,n9,c9,hv,h0,hh⟩ hc hS hT=>⟨A9,n9,c9,hv,h0,hh.chgT hc hS⟩,fun _ _ _ _ _ ⟨A10,n10,c10,hv,h0,hh⟩ hc hS hT=>⟨A10,n10,c10,hv,h0,hh.chgT hc hS⟩,fun _ _ _ _ _ ⟨b,h1,h2⟩ hc hS _=>⟨b,h1,h2.chgT hc hS⟩,trivial⟩ trivial (fun _ _ _ _ _ _ _=>trivial) ?_
     refine q0m rfl rfl rfl rfl rfl (fun _ hq hK=>q0r rfl rfl) ?_
     refine q0m rfl rfl rfl rfl rfl (fun _ hq hK=>q0r rfl rfl) ?_
     refine q0m rfl rfl rfl rfl rfl (fun _ hq hK=>q0p rfl el54 sz60 rfl hvb4 rfl hg1 (q4X hx2)) ?_
     refine q0m rfl rfl rfl rfl rfl (fun _ hq hK=>q0c rfl ag60 sz60 rfl (hA1.ext hq) rfl) ?_
     refine q0m rfl rfl rfl rfl rfl (fun _ hq hK=>q0c rfl ag31 sz31 rfl (At.blk ((H.ext hq).rB (i:=0) rfl)) rfl) ?_
     refine q0m rfl rfl rfl rfl rfl (fun _ hq hK=>q0c rfl ag65 sz65 rfl (At.blk ((H.ext hq).rB (i:=2) rfl)) rfl) ?_
     refine q0m rfl rfl rfl rfl rfl (fun _ hq hK=>q0c rfl ag31 sz31 rfl (At.blk ((H.ext hq).rB (i:=0) rfl)) rfl) ?_
     refine q0m rfl rfl rfl rfl rfl (fun _ hq hK=>q0c rfl ag65 sz65 rfl (At.blk ((H.ext hq).rB (i:=2) rfl)) rfl) ?_
     refine q0m rfl rfl rfl rfl rfl (fun _ hq hK=>q0r rfl rfl) ?_
     refine LL2.free rfl rfl rfl rfl (fun wq hq hK=>?_) (fun v_G1_9 S_G1_9=>?_)
     ·refine OpX.call rfl rfl rfl rfl ok31 rfl (z3u hy4 ⟨_,_,rfl,(rs (H.ext hq) 1),(rs (H.ext hq) 2)⟩ ⟨_,_,_,rfl,hS1,hS2,(rs (H.ext hq) 5),(rs (H.ext hq) 6),(rs (H.ext hq) 7)⟩ ((H.ext hq).rG (i:=1) rfl)) ?_
      rintro _ w hE ⟨A8,n8,c8,rfl,h0,hh⟩
      exact⟨hE,A8,n8,c8,rfl,h0,NewI.of hh tv⟩
     refine LL2.free rfl rfl rfl rfl (fun wq hq hK=>?_) (fun v_G1_10 S_G1_10=>?_)
     ·obtain⟨A8,n8,c8,rfl,hI3,hn9⟩:=hK 9 rfl
      refine OpX.call rfl rfl rfl rfl ok65 rfl (j0V hy5 ⟨_,_,rfl,(rs (H.ext hq) 1),(rs (H.ext hq) 2)⟩ ⟨_,_,_,rfl,hS1,hS2,(rs (H.ext hq) 5),(rs (H.ext hq) 6),(rs (H.ext hq) 7)⟩ ⟨_,rfl,hI3,(hn9.rdI (i:=0) rfl)⟩) ?_
      rintro _ w hE ⟨A9,n9,c9,rfl,h0,hh⟩
      exact⟨hE,A9,n9,c9,rfl,h0,NewI.of hh tv⟩
     refine LL2.free rfl rfl rfl rfl (fun wq hq hK=>?_) (fun v_G1_11 S_G1_11=>?_)
     ·obtain⟨A9,n9,c9,rfl,hI4,hn10⟩:=hK 10 rfl
      refine OpX.call rfl rfl rfl rfl ok64 rfl (z6N hy6 ⟨_,rfl,hI2,(rs (H.ext hq) 9)⟩ ⟨_,rfl,hI4,(hn10.rdI (i:=0) rfl)⟩) ?_
      rintro _ w hE ⟨A10,n10,c10,rfl,h0,hh⟩
      exact⟨hE,A10,n10,c10,rfl,h0,NewI.of hh tv⟩
     refine LL2.free rfl rfl rfl rfl (fun wq hq hK=>q1y rfl rfl ze60 fun b w hE h=>⟨hE,b,rfl,h⟩) (fun v_G1_12 S_G1_12=>?_)
     intro w9 hE _ hK hap hbd
     have hE:=z0W hE
     obtain⟨A8,n8,c8,rfl,hI3,hN1⟩:=hK 9 (by decide)
     obtain⟨A9,n9,c9,rfl,hI4,hN2⟩:=hK 10 (by decide)
     obtain⟨A10,n10,c10,rfl,hI5,hN3⟩:=hK 11 (by decide)
     obtain⟨b5,rfl,hN4⟩:=hK 12 (by decide)
     have H:=H.add hE (((hN1.app hN2 fun q h1 h2=>absurd (hap 9 10 q h1 h2) (by decide)).app hN3 fun q h1 h2=>h1.elim (fun h1=>absurd (hap 9 11 q h1 h2) (by decide)) fun h1=>absurd (hap 10 11 q h1 h2) (by decide)).app hN4 fun q h1 h2=>h1.elim (fun h1=>h1.elim (fun h1=>absurd (hap 9 12 q h1 h2) (by decide)) fun h1=>absurd (hap 10 12 q h1 h2) (by decide)) fun h1=>absurd (hap 11 12 q h1 h2) (by decide)) ⟨fun _ _ _ _ _ h=>h,⟨fun _ _ _ _ _ h=>h,⟨fun _ _ _ _ _ h=>h,tv⟩⟩⟩ (fun q hq=>hq.elim (fun h=>h.elim (fun h=>h.elim (fun h=>(hbd 9 q h).1) fun h=>(hbd 10 q h).1) fun h=>(hbd 11 q h).1) fun h=>(hbd 12 q h).1)
     refine (SB H 6) fun w10 H=>Z (Y ?_)
     refine q0e [(1,pB b1),(4,.slice A3 n3 c3),(5,.bool s4),(8,.int .i64 y3),(9,pB b5),(17,.slice A2 n2 c2),(18,zN a0.Rules.length),(19,zN k1)] ⟨rfl,rfl,rfl,rfl,rfl,rfl,rfl,rfl,trivial⟩ fun σ=>?_
     have H:HL F0 [] w0 w10 [.R a0 d4,.S a0.Symbols (.slice A1 n1 c1),.S a0.Rules (.slice A2 n2 c2),.A b2 (ob2+k1*6) d3,.R x1 d3,.S x1.Right (.slice A4 n4 c4),.S x1.Equations (.slice A5 n5 c5),.S x1.Contributions (.slice A6 n6 c6),.R x2 (q2D x2 A7 n7 c7),.S x2.Rows (.slice A7 n7 c7)] [d2,.G 60 s5 (.slice A3 n3 c3),.B b3 65 d3,.O 3 y4.Rows (.slice A8 n8 c8),.O 3 y5.Rows (.slice A9 n9 c9),.O 3 y6.Rows (.slice A10 n10 c10),.B b5 60 (q2D y6 A10 n10 c10)]:=H
     refine q0t 10 hmix (by kernel_rfl) ?_
     refine (qV) ?_
     refine kB hm2 (fun _ hm2=>?_) fun _ hm2=>?_
     ·refine (qO) ((qO) ((qO) ((qO) ((qO) ((qO) ((qO) ((qT) ?_)))))))
      refine QL.nil (fun w11 hE=>?_)
      have H:=H.ext hE
      refine (A) (Z (X ((V) ((V) ((LB H 6) ?_)))))
      obtain⟨b6,cb6,hvb6,hbb6⟩:=H.ptG (i:=1) rfl hx2
      refine q0b rfl rfl (q0p rfl el54 sz60 rfl hvb6 rfl hg1 (q4X hx2)) ?_
      have H:=H.frzO (i:=5) rfl
      exact q0S (i:=1) (z:=y6) rfl rfl rfl sz60 rfl rfl rfl (fun F hF=>⟨_,rfl,hI5,(hF.get (i:=10) rfl)⟩) H rfl hbb6 (by simpa using q4X hx2) fun w12 H=>Z (C1 hm2)
     refine (qG) ((qLB H 6) ((qG) ((qV) ((qG) ((qV) ((qG) ?_))))))
     obtain⟨b7,cb7,hvb7,hbb7⟩:=H.ptG (i:=1) rfl hx2
     refine q0k rfl rfl (fun _ _=>q0p rfl el54 sz60 rfl hvb7 rfl hg1 (q4X hx2)) ?_
     refine (qG) ?_
     obtain⟨A11,n11,c11,hA2,hI6,H⟩:=q3o H (i:=1) rfl hx2 hbb7
     refine q0k rfl rfl (fun _ hq=>q0c rfl ag60 sz60 rfl (hA2.ext hq) rfl) ?_
     refine (qG) ?_
     refine bb hm2 fun y7 hy7 hm2=>?_
     refine (qC ok66 (fun _ hq=>z6O hy7 ⟨_,rfl,hI5,(ro (H.ext hq) 5)⟩ ⟨_,rfl,hI6,(rs (H.ext hq) 11)⟩)) ?_
     refine (qG) ((qN) ((qU) ?_))
     refine QL.nil (fun w13 hE=>?_)
     have H:=H.ext hE
     refine (A) (Z (X ((V) ((V) ((LB H 6) ?_)))))
     obtain⟨b8,cb8,hvb8,hbb8⟩:=H.ptG (i:=1) rfl hx2
     refine q0b rfl rfl (q0p rfl el54 sz60 rfl hvb8 rfl hg1 (q4X hx2)) ?_
     have H:=H.frzO (i:=5) rfl
     exact q0S (i:=1) (z:=y6) rfl rfl rfl sz60 rfl rfl rfl (fun F hF=>⟨_,rfl,hI5,(hF.get (i:=12) rfl)⟩) H rfl hbb8 (by simpa using q4X hx2) fun w14 H=>Z (C1 hm2)
    rintro ρ' w15 ⟨s6,s7,rfl,hag,H⟩
    obtain⟨σ,rfl⟩:=q4g hag
    exact X ((AN hk2 hl1) ((V) (Z (I1 hb2 ⟨k1+1,⟨s6,s7⟩,()⟩))))
   obtain rfl:=q3N hq2 (q2E h3)
   exact CE (I2 hb1 hs1 ⟨m2,⟨s5,s4⟩,()⟩)
  exact CE (C2 hb1 ht1)
 exact R ((V) ((A) ((AZ) (W1 hr))))
def z1o (y1:Relation):Nat→Int→Unit→Option (Unit ⊕ Bool):=fun k1 x1 _=>(q9B y1 (k1:Int) (k1:Int)).bind fun y2=>if y2=true then some (.inr true) else some (.inl ())
def z0T (a0:Relation):Option Bool:=(q7a a0).bind fun y1=>(q2I (z1o y1) 0 y1.Rows ()).bind <| onr (fun r1=>some r1) fun _=>some false
theorem j2W {a0}{r}(hr:z0T a0=some r){ca0}(ha0:rd F0 w0 a0 ca0):RB 30 #[ag ca0] w0 r:=by
 have H:=(HL.start F0 w0).argR ha0
 obtain⟨A1,n1,c1,rfl,hI1,H⟩:=q2O H 0
 refine (En Tryz.func30) ?_
 refine R ((BX H) fun b1 w1 H=>(A) (Z (R ((LB H 0) ?_))))
 refine bb hr fun y1 hy1 hr=>?_
 refine (CA ok67 (z2A hy1 ⟨_,rfl,hI1,(rs H 1)⟩)) ?_
 rintro _ w2 hE ⟨A2,n2,c2,rfl,hI2,H'⟩
 have H:=H.callA H' tv
 refine (AH ze60 H) fun b2 w3 H=>(SB H 2) fun w4 H=>Z (Y (R ((D 1) ((L H 2) ?_))))
 have hl1:=(H.rO (i:=1) rfl).I
 refine (NN (ro H 1)) ((V) (Z ?_))
 refine bb hr fun q1 hq1 hr=>?_
 refine (lF hq1 (fun k1 _ _=>[(3,pB b2),(9,zN y1.Rows.length),(10,zN k1)]) (fun _ _ w=>HL F0 [] w0 w [.R a0 (q2D a0 A1 n1 c1),.S a0.Rows (.slice A1 n1 c1)] [.B b1 60 (q2D a0 A1 n1 c1),.O 3 y1.Rows (.slice A2 n2 c2),.B b2 60 (q2D y1 A2 n2 c2)]) ()) ?_
 rintro k1 _ _ σ w5 hk1 hq1 H
 refine R ((BZ) (Y ?_))
 refine q0d rfl (fun h1=>?_) (fun h1=>?_)
 ·have hk2:=q2L h1
  obtain⟨x1,z1,hx1,hb1,hs1,ht1⟩:=q4f hq1 hk2
  refine K (Y ?_)
  refine Bk (R ((V) ((A) (Z (R ((LB H 2) ((V) ((V) ?_))))))))
  refine bb hb1 fun y2 hy2 hb1=>?_
  refine (CA ok68 (z5r hy2 ⟨_,rfl,hI2,(ro H 1)⟩ (q5v hk2 hl1) (q5v hk2 hl1))) (cE H fun w6 H=>Z (iB hb1 (fun _ hb1=>?_) fun _ hb1=>?_))
  ·exact R ((AZ) (W2 hb1 ht1 hr))
  exact K (X ((AN hk2 hl1) ((V) (Z (I2 hb1 hs1 ⟨k1+1,(),()⟩)))))
 obtain rfl:=q3r hq1 (q2E h1)
 have hr:=(q3q _ _ _).symm.trans hr
 exact CE (R ((AZ) (W1 hr)))
def z2C (a0:Grammar)(y1:(List Relation)):Nat→Rule→(List ByteArray)→Option (List ByteArray):=fun k1 x1 s1=>( (q7E a0 x1 y1).bind fun y3=>(z0T y3).bind fun y4=>if y4=true then grd (((s1.length:Int)+1)*16≤140737488355328∧(s1.length:Int)+1≤9223372036854775807) <| some (s1++[x1.Name]) else some s1 ).bind fun s2=>some s2
def q8o (a0:Grammar):Option (List ByteArray):=(q7Q a0).bind fun (y1,y2)=>if y2=true then (q2G (z2C a0 y1) 0 a0.Rules ([]:List ByteArray)).bind fun s1=>some s1 else some []
theorem z6P {a0}{r}(hr:q8o a0=some r){ca0}(ha0:rd F0 w0 a0 ca0):RT 16 #[ag ca0] w0 fun v w=>∃ A0 n0 c0,v=(.slice A0 n0 c0)∧HL F0 [] w0 w [] [.O 9 r (.slice A0 n0 c0)]:=by
 have H:=(HL.start F0 w0).argR ha0
 obtain⟨A1,n1,c1,A2,n2,c2,rfl,H⟩:=q2C H 0
 let d2:List Value:=[.slice A1 n1 c1,.slice A2 n2 c2]
 let d1:List Pr:=[.R a0 d2,.S a0.Symbols (.slice A1 n1 c1),.S a0.Rules (.slice A2 n2 c2)]
 refine (En Tryz.func16) ?_
 refine R ((BX H) fun b1 w1 H=>(AZ) (R ?_))
 refine q0h (α:=ByteArray) rfl rfl rfl el37 sz9 H fun A3 n3 c3 w2 H=>(A) (Z (R ((LB H 0) ?_)))
 obtain⟨⟨y1,y2⟩,hy1,hr⟩:=bd hr
 obtain⟨F,hF,hcl⟩:=H.call
 refine (CA ok29 (z6j hy1 ⟨_,_,rfl,(hF.get (i:=1) rfl),(hF.get (i:=2) rfl)⟩)) ?_
 rintro _ w3 hE ⟨A4,n4,c4,rfl,H'⟩
 let d3:It:=.G 60 y1 (.slice A4 n4 c4)
 have H:HL F0 [] w0 w3 d1 [.B b1 31 d2,.O 9 ([]:List ByteArray) (.slice A3 n3 c3),d3]:=hcl H'
 refine (V) ((EX) ((EX) ((A) ((A) (Z (Y (R ((V) ((N) (Z (iM hr (fun _ hr=>?_) fun _ hr=>?_)))))))))))
 ·exact R ((V) ((AZ) (W1 hr)))
 refine K (Y (R ((D 1) ((L H 0) ((NI H 2) fun hl1=>(V) (Z ?_))))))
 refine bb hr fun q1 hq1 hr=>?_
 refine (lE hq1 (fun k1 s1 v1=>[(1,pB b1),(3,v1),(4,.slice A4 n4 c4),(18,.slice A2 n2 c2),(19,zN a0.Rules.length),(20,zN k1)]) (fun s1 v1 w=>HL F0 [] w0 w d1 [.B b1 31 d2,.O 9 s1 v1,d3]) (.slice A3 n3 c3)) ?_
 rintro k1 s1 v1 σ w4 hk1 hq1 H
 obtain⟨A5,n5,c5,rfl⟩:=(fo H 1)
 refine R ((BZ) (Y ?_))
 refine q0d rfl (fun h2=>?_) (fun h2=>?_)
 ·have hk2:=q2L h2
  obtain⟨x1,z1,hx1,hb1,hq1⟩:=q4F hq1 hk2
  refine K ?_
  refine bb hb1 fun q2 hm1 hb1=>Y ?_
  refine q0o (fun ρ' w=>∃ (s2:List ByteArray) (v2:Value),s2=q2∧q4z ρ' [(1,pB b1),(3,v2),(4,.slice A4 n4 c4),(18,.slice A2 n2 c2),(19,zN a0.Rules.length),(20,zN k1)]∧HL F0 [] w0 w d1 [.B b1 31 d2,.O 9 s2 v2,d3]) ?_ ?_
  ·refine Bk (R ?_)
   obtain⟨b2,ob2,cb2,A6,n6,c6,A7,n7,c7,A8,n8,c8,hvb2,hS1,hS2,H⟩:=q6k H 2 hx1
   refine (J 6 hvb2 hx1) ((LA H 3) ((AH ze65 H) fun b3 w5 H=>(SB H 3) fun w6 H=>Z (R ((LB H 0) ((LB H 3) ((V) ?_))))))
   refine bb hm1 fun y3 hy2 hm1=>?_
   refine (CA ok31 (z3u hy2 ⟨_,_,rfl,(rs H 1),(rs H 2)⟩ ⟨_,_,_,rfl,hS1,hS2,(rs H 5),(rs H 6),(rs H 7)⟩ (H.rG (i:=2) rfl))) ?_
   rintro _ w7 hE ⟨A9,n9,c9,rfl,hI1,H'⟩
   have H:=H.callA H' tv
   refine bb hm1 fun y4 hy3 hm1=>?_
   refine (CA ok30 (j2W hy3 ⟨_,rfl,hI1,(ro H 4)⟩)) (cE H fun w8 H=>Z (iB hm1 (fun _ hm1=>?_) fun _ hm1=>?_))
   ·refine X ((V) ((D 0) ((L H 3) ?_)))
    refine q0n rfl rfl rfl el37 sz9 ze9 rfl rfl rfl rfl rfl rfl fun b4 w9 hE hb hB=>?_
    have H:=H.newB hE hb hB
    refine gg hm1 fun hg1 hm1=>?_
    exact q0q (i:=1) (ys:=[x1.Name]) rfl rfl rfl el37 sz9 by9 ze9 rfl rfl rfl H rfl (fun _=>ownL.single ⟨rfl,rfl,hS1⟩) (.inr ⟨_,_,rfl,At.blk (rb H 5)⟩) hg1 fun A10 n10 c10 w10 H=>(AZ) (C1 hm1)
   exact K (C1 hm1)
  rintro ρ' w11 ⟨s2,v2,rfl,hag,H⟩
  obtain⟨σ,rfl⟩:=q4g hag
  obtain⟨A11,n11,c11,rfl⟩:=(fo H 1)
  exact X ((AN hk2 hl1) ((V) (Z (I1 hb1 ⟨k1+1,s2,(.slice A11 n11 c11)⟩))))
 obtain rfl:=q3N hq1 (q2E h2)
 exact CE (R ((V) ((AZ) (W1 hr))))
def q5N (a0:Grammar):Option Bool:=(z1k a0).bind fun y1=>if y1=true then (q8o a0).bind fun y2=>some (decide ((y2.length:Int)=0)) else some false
theorem z3h {a0}{r}(hr:q5N a0=some r){ca0}(ha0:rd F0 w0 a0 ca0):RB 7 #[ag ca0] w0 r:=by
 have H:=(HL.start F0 w0).argR ha0
 obtain⟨A1,n1,c1,A2,n2,c2,rfl,H⟩:=q2C H 0
 refine (En Tryz.func7) ?_
 refine R ((BX H) fun b1 w1 H=>(A) (Z (R ((LB H 0) ?_))))
 refine bb hr fun y1 hy1 hr=>?_
 refine (CA ok15 (z7s hy1 ⟨_,_,rfl,(rs H 1),(rs H 2)⟩)) (cE H fun w2 H=>jB hr (fun _ hr=>?_) fun _ hr=>?_)
 ·refine (G) ((LB H 0) ((G) ?_))
  refine bb hr fun y2 hy2 hr=>?_
  refine (CA ok16 (z6P hy2 ⟨_,_,rfl,(rs H 1),(rs H 2)⟩)) ?_
  rintro _ w3 hE ⟨A3,n3,c3,rfl,H'⟩
  have H:=H.callA H' tv
  refine (G) ?_
  have hl1:=(H.rO (i:=1) rfl).I
  exact (NN (ro H 1)) ((G) ((B) ((T) ((AZ) (W1 hr)))))
 exact (O) ((O) ((O) ((O) ((U) ((AZ) (W1 hr))))))
end Go.Proofs.YtmblndlpkpaobabGreat

