/- What some functions of the program compute, as partial functions on plain data, and that they do; each lemma bears its conditions in its statement. -/
import Derived.Test.YteefempppabmkacGreatLiftA
set_option linter.unusedVariables false
set_option linter.unusedSimpArgs false
set_option linter.ambiguousOpen false
set_option linter.unusedSectionVars false
set_option linter.unnecessarySimpa false
set_option linter.unusedVariables false
set_option linter.unusedSimpArgs false
set_option maxRecDepth 100000
set_option maxHeartbeats 4000000
noncomputable section
namespace Go.Proofs.YteefempppabmkacGreat
open Go Go.E
open Go.E.Rep (rd)
open Go.E.Sep (own)
open Go.E.Sz (szd)
variable {F0:Nat→Prop}{w0:World}{M:List Nat}
theorem j0a {a0}{r}(hr:z0w a0=some r){ca0}(ha0:rd F0 w0 a0 ca0):RT 109 #[ag ca0] w0 fun v w=>v = .tuple #[.int .i64 r.1,.int .i64 r.2]∧I64 r.1∧I64 r.2:=by
 have H:=(HL.start F0 w0).argR ha0
 obtain⟨A1,n1,c1,A2,n2,c2,rfl,H⟩:=q2s H 0
 let d2:List Value:=[.slice A1 n1 c1,.slice A2 n2 c2]
 refine (En Tryz.func109) ?_
 refine R ((BX H) fun b1 w1 H=>(A) ((A) (Z (Y (R ((D 0) ((L H 0) ((NI H 1) fun hl1=>?_))))))))
 refine bb hr fun y1 hy1 hr=>?_
 refine (CA ok72 (q5j hy1 (F0:=nF) hl1 dI dI)) (cE H fun w2 H=>(N) (jM hr (fun _ hr=>?_) fun _ hr=>?_))
 ·exact (O) ((O) ((O) ((O) ((O) ((T) (Z ((cT) (R ((A) ((AZ) (W1 hr)))))))))))
 refine (G) ((D 1) ((G) ((L H 0) ((G) ((NI H 2) fun hl2=>(G) ?_)))))
 refine bb hr fun y2 hy2 hr=>?_
 refine (CA ok72 (q5j hy2 (F0:=nF) hl2 dI dI)) (cE H fun w3 H=>(G) ((N) ((U) (Z (iM hr (fun _ hr=>?_) fun _ hr=>?_)))))
 ·exact R ((A) ((AZ) (W1 hr)))
 refine K (R ((LB H 0) ?_))
 refine bb hr fun y3 hy3 hr=>?_
 refine (CA k2R (j5j hy3 ⟨_,_,rfl,(rs H 1),(rs H 2)⟩)) (cF' H fun w4 hI1 H=>(A) (Z (Y (R ((V) ((BZ) (iD hr (fun _ hr=>?_) fun _ hr=>?_)))))))
 ·exact R ((V) ((A) ((AZ) (W1 hr))))
 refine K (Y (R ((AZ) ?_)))
 refine bb hr fun x1 hx1 hr=>?_
 refine bb hr fun q1 hq1 hr=>?_
 refine (lF hq1 (fun k1 _ _=>[(1,pB b1),(5,zN k1)]) (fun _ _ w=>HL F0 [] w0 w [.R a0 d2,.S a0.Symbols (.slice A1 n1 c1),.S a0.Rules (.slice A2 n2 c2)] [.B b1 35 d2]) ()) ?_
 rintro k1 _ _ σ w5 hk1 hq1 H
 refine Y (R ((V) ((D 0) ((L H 0) ?_))))
 obtain⟨b2,ob2,cb2,A3,n3,c3,hvb2,hS1,H⟩:=q4g H 1 hx1
 let d1:List Pr:=[.R a0 d2,.S a0.Symbols (.slice A1 n1 c1),.S a0.Rules (.slice A2 n2 c2),.A b2 (ob2+0*2) [.string x1.Name,.slice A3 n3 c3],.R x1 [.string x1.Name,.slice A3 n3 c3],.S x1.Attributes (.slice A3 n3 c3)]
 refine (J 2 hvb2 hx1) ((D 1) ((LC H 3) ((NI H 5) fun hl3=>(BZ) ?_)))
 refine (iF hq1 hr (fun hk2 x2 z1 hx2 hb1 hs1 ht1=>?_) fun hr=>?_)
 ·refine K (Y ?_)
  refine Bk (R ((D 0) ((L H 0) ((J 2 hvb2 hx1) ((D 1) ((LC H 3) ((V) ?_)))))))
  obtain⟨b3,ob3,cb3,hvb3,hS2,hI2,hI3,H⟩:=q4w H 5 hx2
  refine (J 4 hvb3 hx2) ((D 2) ((LC H 6) ((BZ) (iD hb1 (fun _ hb1=>?_) fun _ hb1=>?_))))
  ·exact R ((A) ((AZ) (W2 hb1 ht1 hr)))
  exact K (X ((V) ((AN hk2 hl3) ((A) (Z (I2 hb1 hs1 ⟨k1+1,(),()⟩))))))
 refine CE (Y (R ((AZ) ?_)))
 refine bb hr fun q2 hm1 hr=>?_
 refine q0u (fun ρ' w=>q2 = .inl ()∧q4R ρ' []∧HL F0 [] w0 w d1 [.B b1 35 d2]) ?_ ?_
 ·obtain⟨m1,hq2⟩:=q5g.1 hm1
  refine (lI hq2 (fun m1 s1 _=>[(1,pB b1),(6,.int .i64 s1)]) (fun s1 _ w=>I64 s1∧HL F0 [] w0 w d1 [.B b1 35 d2]) ()) ?_
  rintro m1 s1 _ σ w6 hq2 ⟨hI4,H⟩
  obtain⟨m2,z2,rfl,hb2,hs2,ht2⟩:=q8B hq2
  refine Y (R ((V) ((BZ) (iD hb2 (fun _ hb2=>?_) fun _ hb2=>?_))))
  ·refine K (Y ?_)
   refine Bk (R ((AZ) ?_))
   refine bb hb2 fun q3 hq3 hb2=>?_
   refine (lF hq3 (fun k2 _ _=>[(1,pB b1),(6,.int .i64 s1),(7,zN k2)]) (fun _ _ w=>HL F0 [] w0 w d1 [.B b1 35 d2]) ()) ?_
   rintro k2 _ _ σ w7 hk3 hq3 H
   refine Y (R ((V) ((D 1) ((L H 0) ((NN (rs H 2)) ((BZ) ?_))))))
   refine (iF hq3 hb2 (fun hk4 x3 z3 hx3 hb3 hs3 ht3=>?_) fun hb2=>?_)
   ·refine K (Y ?_)
    refine Bk (Y ?_)
    refine q0d hmix (by kernel_rfl) ?_
    refine (qLB H 0) ((qD 1) ((qL H 0) ((qV) ?_)))
    obtain⟨b4,ob4,cb4,A4,n4,c4,A5,n5,c5,A6,n6,c6,hvb4,hS3,hS4,H⟩:=q6N H 2 hx3
    refine (qJ 6 hvb4 hx3) ((qLA H 6) ((qV) ?_))
    refine bb hb3 fun y4 hy4 hb3=>?_
    refine (qC k2S (fun _ hq=>j1h hy4 ⟨_,_,rfl,(rs (H.ext hq) 1),(rs (H.ext hq) 2)⟩ ⟨_,_,_,rfl,hS3,hS4,(rs (H.ext hq) 8),(rs (H.ext hq) 9),(rs (H.ext hq) 10)⟩ hI4)) ?_
    refine QL.nil (fun w8 hE=>?_)
    have H:=H.ext hE
    refine iB hb3 (fun _ hb3=>?_) fun _ hb3=>?_
    ·exact R ((V) ((V) ((A) ((AZ) (W3 hb3 ht3 hb2 ht2 hr)))))
    exact K (X ((V) ((AN hk4 hl2) ((A) (Z (I2 hb3 hs3 ⟨k2+1,(),()⟩))))))
   refine CE (X ((V) ?_))
   exact gg hb2 fun hg1 hb2=>(BN (Bin.add hg1)) ((A) (Z (I2 hb2 hs2 ⟨m2,(s1+1),()⟩)))
  exact CE (C2 hb2 ht2)
 rintro ρ' w9 ⟨rfl,hag,H⟩
 obtain⟨σ,rfl⟩:=q4H hag
 exact R ((A) ((AZ) (W1 hr)))
def q6x (a0:Grammar)(a1 a2:ByteArray):Option Int:=(q6g a0 a1).bind fun (y1,y2)=>(q7b y1 a2).bind fun (y3,y4)=>if y4=true then some y3.Type_ else some 0
theorem q7c {a0}{a1 a2}{r}(hr:q6x a0 a1 a2=some r){ca0}(ha0:rd F0 w0 a0 ca0)(ha1:a1.size≤9223372036854775807)(ha2:a2.size≤9223372036854775807):RT 145 #[ag ca0,.string a1,.string a2] w0 fun v w=>v = .int .i64 r∧I64 r:=by
 have H:=(HL.start F0 w0).argR ha0
 obtain⟨A1,n1,c1,A2,n2,c2,rfl,H⟩:=q2s H 0
 refine (En Tryz.func145) ?_
 refine R ((BX H) fun b1 w1 H=>(A) (Z (R ((LB H 0) ((V) ?_)))))
 obtain⟨⟨y1,y2⟩,hy1,hr⟩:=bd hr
 refine (CA j6m (q8c hy1 ⟨_,_,rfl,(rs H 1),(rs H 2)⟩ ha1)) ?_
 rintro _ w2 hE ⟨A3,n3,c3,rfl,hS1,H'⟩
 have H:=H.callA H' tv
 refine (V) ((EX) ((EX) ((AH ze89 H) fun b2 w3 H=>(SB H 2) fun w4 H=>(A) (Z (R ((LB H 2) ((V) ?_)))))))
 obtain⟨⟨y3,y4⟩,hy2,hr⟩:=bd hr
 refine (CA k0e (q9p hy2 ⟨_,rfl,hS1,(ro H 1)⟩ ha2)) ?_
 rintro _ w5 hE ⟨rfl,hS2,hI1,hI2⟩
 have H:=H.ext hE
 refine (V) ((EX) ((EX) ((AH ze91 H) fun b3 w6 H=>(SB H 3) fun w7 H=>(A) (Z (Y (R ((V) ((N) (Z (iM hr (fun _ hr=>?_) fun _ hr=>?_))))))))))
 ·exact R ((AZ) (W1 hr))
 exact K (R ((D 1) ((L H 3) ((AZ) (W1 hr)))))
def q8I (a0:Int):Option (Int × Int × Int):=(q5q a0 1 5).bind fun y1=>if y1=true then some (1,1,1) else (q5q a0 6 8).bind fun y2=>if y2=true then some (2,2,2) else if a0=9 then some (1,1,3) else if a0=10 then some (1,1,3) else if a0=11 then some (2,1,3) else if a0=12 then some (2,1,2) else some (0,0,0)
theorem z7U {a0}{r}(hr:q8I a0=some r){F0:Nat→Prop}(ha0:I64 a0):RT 208 #[.int .i64 a0] w0 fun v w=>v = .tuple #[.int .i64 r.1,.int .i64 r.2.1,.int .i64 r.2.2]∧I64 r.1∧I64 r.2.1∧I64 r.2.2:=by
 have H:=HL.start F0 w0
 refine (En Tryz.func208) ?_
 refine R ((A) ((A) ((AZ) (Y ?_))))
 refine Bk (R ((V) ?_))
 refine bb hr fun y1 hy1 hr=>?_
 refine (CA ok72 (q5j hy1 (F0:=nF) ha0 dI dI)) (cE H fun w1 H=>(AZ) (iB hr (fun _ hr=>?_) fun _ hr=>?_))
 ·exact R ((A) ((A) ((AZ) (W1 hr))))
 refine R ((V) ?_)
 refine bb hr fun y2 hy2 hr=>?_
 refine (CA ok72 (q5j hy2 (F0:=nF) ha0 dI dI)) (cE H fun w2 H=>(AZ) (iB hr (fun _ hr=>?_) fun _ hr=>?_))
 ·exact R ((A) ((A) ((AZ) (W1 hr))))
 refine R ((V) ((B) (jD hr (fun _ hr=>?_) fun _ hr=>?_)))
 ·exact (O) ((O) ((T) ((A) (Z ((cT) (R ((A) ((A) ((AZ) (W1 hr))))))))))
 refine (G) ((V) ((G) ((B) ((U) ((AZ) (iD hr (fun _ hr=>?_) fun _ hr=>?_))))))
 ·exact R ((A) ((A) ((AZ) (W1 hr))))
 refine R ((V) ((B) ((AZ) (iD hr (fun _ hr=>?_) fun _ hr=>?_))))
 ·exact R ((A) ((A) ((AZ) (W1 hr))))
 refine R ((V) ((B) ((AZ) (iD hr (fun _ hr=>?_) fun _ hr=>?_))))
 ·refine Y ?_
  refine q0a [] trivial fun σ=>?_
  have H:HL F0 [] w0 w2 [] []:=H
  exact X ((A) ((A) ((AZ) (W1 hr))))
 refine K (Y ?_)
 refine q0a [] trivial fun σ=>?_
 have H:HL F0 [] w0 w2 [] []:=H
 exact X ((A) ((A) ((AZ) (W1 hr))))
def j1i (rec_sTypeOfExpr:Grammar→Rule→Expr→Option Int)(a0:Grammar)(a1:Rule)(a2:Expr):Option Int:=(q8I a2.N).bind fun (y1,y2,y3)=>if (a2.Args.length:Int)=2 then (a2.Args[0]?).bind fun x1=>(rec_sTypeOfExpr a0 a1 x1).bind fun y4=>if y4=y1 then (a2.Args[1]?).bind fun x2=>(rec_sTypeOfExpr a0 a1 x2).bind fun y5=>if y5=y2 then some y3 else some 0 else some 0 else some 0
theorem j6s {rec_sTypeOfExpr:Grammar→Rule→Expr→Option Int}(ih_sTypeOfExpr:∀ {a0:Grammar} {a1:Rule} {a2:Expr} {r:Int},rec_sTypeOfExpr a0 a1 a2=some r→∀ {F0:Nat→Prop} {w0:World} {ca0} (ha0:rd F0 w0 a0 ca0) {ca1} (ha1:rd F0 w0 a1 ca1) {ca2} (ha2:rd F0 w0 a2 ca2),RT 144 #[ag ca0,ag ca1,ag ca2] w0 fun v w=>v = .int .i64 r∧I64 r){a0}{a1}{a2}{r}(hr:j1i rec_sTypeOfExpr a0 a1 a2=some r){ca0}(ha0:rd F0 w0 a0 ca0){ca1}(ha1:rd F0 w0 a1 ca1){ca2}(ha2:rd F0 w0 a2 ca2):RT 180 #[ag ca0,ag ca1,ag ca2] w0 fun v w=>v = .int .i64 r∧I64 r:=by
 have H:=(((HL.start F0 w0).argR ha0).argR ha1).argR ha2
 obtain⟨A1,n1,c1,A2,n2,c2,rfl,H⟩:=q2s H 0
 let d10:Pr:=.S a0.Rules (.slice A2 n2 c2)
 let d7:Pr:=.S a0.Symbols (.slice A1 n1 c1)
 let d4:List Value:=[.slice A1 n1 c1,.slice A2 n2 c2]
 obtain⟨A3,n3,c3,A4,n4,c4,A5,n5,c5,rfl,hS1,hS2,H⟩:=q3j H 1
 let d11:Pr:=.S a1.Right (.slice A3 n3 c3)
 let d6:Pr:=.S a1.Equations (.slice A4 n4 c4)
 let d5:Pr:=.S a1.Contributions (.slice A5 n5 c5)
 let d3:=q4o a1 A3 n3 c3 A4 n4 c4 A5 n5 c5
 obtain⟨A6,n6,c6,rfl,hI1,hI2,hI3,hI4,hS3,hS4,H⟩:=q3q H 2
 let d12:Pr:=.S a2.Args (.slice A6 n6 c6)
 let d8:=q2D a2 A6 n6 c6
 refine (En Tryz.func180) ?_
 refine R ((BX H) fun b1 w1 H=>(BX H) fun b2 w2 H=>(BX H) fun b3 w3 H=>(A) (Z (R ((D 1) ((L H 2) ?_)))))
 let d2:List It:=[.B b1 35 d4,.B b2 62 d3,.B b3 136 d8]
 obtain⟨⟨y1,y2,y3⟩,hy1,hr⟩:=bd hr
 refine (CA k3I (z7U hy1 (F0:=nF) hI2)) ?_
 rintro _ w4 hE ⟨rfl,hI5,hI6,hI7⟩
 have H:=H.ext hE
 refine (V) ((EX) ((EX) ((EX) ((A) ((A) ((AZ) (Y (Y ?_))))))))
 refine q0d hmix (by kernel_rfl) ?_
 refine (qD 6) ((qL H 2) ?_)
 have hl1:=(H.rS (i:=8) rfl).I
 refine (qNN (rs H 8)) ((qB) ?_)
 refine kN hr (fun _ hr=>?_) fun _ hr=>?_
 ·refine (qO) ((qO) ((qO) ((qO) ((qO) ((qO) ((qO) ((qO) ((qO) ((qT) ((qV) ((qO) ((qO) ((qO) ((qO) ((qO) ((qO) ((qO) ((qO) ((qO) ((qT) ?_))))))))))))))))))))
  refine QL.nil (fun w5 hE=>?_)
  have H:=H.ext hE
  refine (cT) (Y ?_)
  refine q0a [] trivial fun σ=>?_
  have H:HL F0 [] w0 w5 [.R a0 d4,.R a1 d3,.R a2 d8,d7,d10,d11,d6,d5,d12] d2:=H
  exact X ((AZ) (W1 hr))
 refine (qG) ((qLB H 0) ((qG) ((qLB H 1) ((qG) ((qD 6) ((qG) ((qL H 2) ((qG) ?_))))))))
 refine bb hr fun x1 hx1 hr=>?_
 obtain⟨b4,ob4,cb4,A7,n7,c7,hvb4,hI8,hI9,hI10,hI11,hS5,hS6,H⟩:=q4f H 8 hx1
 let d9:=q2D x1 A7 n7 c7
 refine (qJ 7 hvb4 hx1) ((qG) ((qLA H 9) ((qG) ?_)))
 refine bb hr fun y4 hy2 hr=>?_
 refine (qC j0T (fun _ hq=>(ih_sTypeOfExpr hy2 ⟨_,_,rfl,(rs (H.ext hq) 3),(rs (H.ext hq) 4)⟩ ⟨_,_,_,rfl,hS1,hS2,(rs (H.ext hq) 5),(rs (H.ext hq) 6),(rs (H.ext hq) 7)⟩ (q2r.2 ⟨_,rfl,hI8,hI9,hI10,hI11,hS5,hS6,(rs (H.ext hq) 11)⟩)).mono fun _ _ _ h=>h.1)) ?_
 obtain⟨_,_,_,hI12⟩:=(ih_sTypeOfExpr hy2 ⟨_,_,rfl,(rs H 3),(rs H 4)⟩ ⟨_,_,_,rfl,hS1,hS2,(rs H 5),(rs H 6),(rs H 7)⟩ (q2r.2 ⟨_,rfl,hI8,hI9,hI10,hI11,hS5,hS6,(rs H 11)⟩)).get
 refine (qG) ((qV) ((qG) ((qB) ((qU) ?_))))
 refine kN hr (fun _ hr=>?_) fun _ hr=>?_
 ·refine (qO) ((qO) ((qO) ((qO) ((qO) ((qO) ((qO) ((qO) ((qO) ((qT) ?_)))))))))
  refine QL.nil (fun w6 hE=>?_)
  have H:=H.ext hE
  refine (cT) (Y ?_)
  refine q0a [] trivial fun σ=>?_
  have H:HL F0 [] w0 w6 [.R a0 d4,.R a1 d3,.R a2 d8,d7,d10,d11,d6,d5,d12,.A b4 (ob4+0*7) d9,.R x1 d9,.S x1.Args (.slice A7 n7 c7)] d2:=H
  exact X ((AZ) (W1 hr))
 refine (qG) ((qLB H 0) ((qG) ((qLB H 1) ((qG) ((qD 6) ((qG) ((qL H 2) ((qG) ?_))))))))
 refine bb hr fun x2 hx2 hr=>?_
 obtain⟨b5,ob5,cb5,A8,n8,c8,hvb5,hI13,hI14,hI15,hI16,hS7,hS8,H⟩:=q4f H 8 hx2
 let d1:List Pr:=[.R a0 d4,.R a1 d3,.R a2 d8,d7,d10,d11,d6,d5,d12,.A b4 (ob4+0*7) d9,.R x1 d9,.S x1.Args (.slice A7 n7 c7),.A b5 (ob5+1*7) (q2D x2 A8 n8 c8),.R x2 (q2D x2 A8 n8 c8),.S x2.Args (.slice A8 n8 c8)]
 refine (qJ 7 hvb5 hx2) ((qG) ((qLA H 12) ((qG) ?_)))
 refine bb hr fun y5 hy3 hr=>?_
 refine (qC j0T (fun _ hq=>(ih_sTypeOfExpr hy3 ⟨_,_,rfl,(rs (H.ext hq) 3),(rs (H.ext hq) 4)⟩ ⟨_,_,_,rfl,hS1,hS2,(rs (H.ext hq) 5),(rs (H.ext hq) 6),(rs (H.ext hq) 7)⟩ (q2r.2 ⟨_,rfl,hI13,hI14,hI15,hI16,hS7,hS8,(rs (H.ext hq) 14)⟩)).mono fun _ _ _ h=>h.1)) ?_
 obtain⟨_,_,_,hI17⟩:=(ih_sTypeOfExpr hy3 ⟨_,_,rfl,(rs H 3),(rs H 4)⟩ ⟨_,_,_,rfl,hS1,hS2,(rs H 5),(rs H 6),(rs H 7)⟩ (q2r.2 ⟨_,rfl,hI13,hI14,hI15,hI16,hS7,hS8,(rs H 14)⟩)).get
 refine (qG) ((qV) ((qG) ((qB) ((qU) ?_))))
 refine QL.nil (fun w7 hE=>?_)
 have H:=H.ext hE
 refine iN hr (fun _ hr=>?_) fun _ hr=>?_
 ·refine Y ?_
  refine q0a [] trivial fun σ=>?_
  have H:HL F0 [] w0 w7 d1 d2:=H
  exact X ((AZ) (W1 hr))
 refine K (Y ?_)
 refine q0a [(9,.int .i64 y3)] ⟨rfl,trivial⟩ fun σ=>?_
 have H:HL F0 [] w0 w7 d1 d2:=H
 exact X ((V) ((AZ) (W1 hr)))
def j1j (rec_sTypeOfExpr:Grammar→Rule→Expr→Option Int)(a0:Grammar)(a1:Rule)(a2:Expr):Option Int:=if (a2.Args.length:Int)=3 then (a2.Args[0]?).bind fun x1=>(rec_sTypeOfExpr a0 a1 x1).bind fun y1=>if y1=3 then (a2.Args[1]?).bind fun x2=>(rec_sTypeOfExpr a0 a1 x2).bind fun y2=>(a2.Args[2]?).bind fun x3=>(rec_sTypeOfExpr a0 a1 x3).bind fun y3=>if y2=y3 then some y2 else some 0 else some 0 else some 0
theorem j6t {rec_sTypeOfExpr:Grammar→Rule→Expr→Option Int}(ih_sTypeOfExpr:∀ {a0:Grammar} {a1:Rule} {a2:Expr} {r:Int},rec_sTypeOfExpr a0 a1 a2=some r→∀ {F0:Nat→Prop} {w0:World} {ca0} (ha0:rd F0 w0 a0 ca0) {ca1} (ha1:rd F0 w0 a1 ca1) {ca2} (ha2:rd F0 w0 a2 ca2),RT 144 #[ag ca0,ag ca1,ag ca2] w0 fun v w=>v = .int .i64 r∧I64 r){a0}{a1}{a2}{r}(hr:j1j rec_sTypeOfExpr a0 a1 a2=some r){ca0}(ha0:rd F0 w0 a0 ca0){ca1}(ha1:rd F0 w0 a1 ca1){ca2}(ha2:rd F0 w0 a2 ca2):RT 181 #[ag ca0,ag ca1,ag ca2] w0 fun v w=>v = .int .i64 r∧I64 r:=by
 have H:=(((HL.start F0 w0).argR ha0).argR ha1).argR ha2
 obtain⟨A1,n1,c1,A2,n2,c2,rfl,H⟩:=q2s H 0
 obtain⟨A3,n3,c3,A4,n4,c4,A5,n5,c5,rfl,hS1,hS2,H⟩:=q3j H 1
 let d1:=q4o a1 A3 n3 c3 A4 n4 c4 A5 n5 c5
 obtain⟨A6,n6,c6,rfl,hI1,hI2,hI3,hI4,hS3,hS4,H⟩:=q3q H 2
 refine (En Tryz.func181) ?_
 refine R ((BX H) fun b1 w1 H=>(BX H) fun b2 w2 H=>(BX H) fun b3 w3 H=>(AZ) (Y (Y ?_)))
 refine q0d hmix (by kernel_rfl) ?_
 refine (qD 6) ((qL H 2) ?_)
 have hl1:=(H.rS (i:=8) rfl).I
 refine (qNN (rs H 8)) ((qB) ?_)
 refine kN hr (fun _ hr=>?_) fun _ hr=>?_
 ·refine (qO) ((qO) ((qO) ((qO) ((qO) ((qO) ((qO) ((qO) ((qT) ?_))))))))
  refine QL.nil (fun w4 hE=>?_)
  have H:=H.ext hE
  exact (cT) (R ((AZ) (W1 hr)))
 refine (qG) ((qLB H 0) ((qG) ((qLB H 1) ((qG) ((qD 6) ((qG) ((qL H 2) ((qG) ?_))))))))
 refine bb hr fun x1 hx1 hr=>?_
 obtain⟨b4,ob4,cb4,A7,n7,c7,hvb4,hI5,hI6,hI7,hI8,hS5,hS6,H⟩:=q4f H 8 hx1
 refine (qJ 7 hvb4 hx1) ((qG) ((qLA H 9) ((qG) ?_)))
 refine bb hr fun y1 hy1 hr=>?_
 refine (qC j0T (fun _ hq=>(ih_sTypeOfExpr hy1 ⟨_,_,rfl,(rs (H.ext hq) 3),(rs (H.ext hq) 4)⟩ ⟨_,_,_,rfl,hS1,hS2,(rs (H.ext hq) 5),(rs (H.ext hq) 6),(rs (H.ext hq) 7)⟩ (q2r.2 ⟨_,rfl,hI5,hI6,hI7,hI8,hS5,hS6,(rs (H.ext hq) 11)⟩)).mono fun _ _ _ h=>h.1)) ?_
 obtain⟨_,_,_,hI9⟩:=(ih_sTypeOfExpr hy1 ⟨_,_,rfl,(rs H 3),(rs H 4)⟩ ⟨_,_,_,rfl,hS1,hS2,(rs H 5),(rs H 6),(rs H 7)⟩ (q2r.2 ⟨_,rfl,hI5,hI6,hI7,hI8,hS5,hS6,(rs H 11)⟩)).get
 refine (qG) ((qB) ((qU) ?_))
 refine QL.nil (fun w5 hE=>?_)
 have H:=H.ext hE
 refine iN hr (fun _ hr=>?_) fun _ hr=>?_
 ·exact R ((AZ) (W1 hr))
 refine K (Y ?_)
 refine q0d hmix (by kernel_rfl) ?_
 refine (qLB H 0) ((qLB H 1) ((qD 6) ((qL H 2) ?_)))
 refine bb hr fun x2 hx2 hr=>?_
 obtain⟨b5,ob5,cb5,A8,n8,c8,hvb5,hI10,hI11,hI12,hI13,hS7,hS8,H⟩:=q4f H 8 hx2
 refine (qJ 7 hvb5 hx2) ((qLA H 12) ?_)
 refine bb hr fun y2 hy2 hr=>?_
 refine (qC j0T (fun _ hq=>(ih_sTypeOfExpr hy2 ⟨_,_,rfl,(rs (H.ext hq) 3),(rs (H.ext hq) 4)⟩ ⟨_,_,_,rfl,hS1,hS2,(rs (H.ext hq) 5),(rs (H.ext hq) 6),(rs (H.ext hq) 7)⟩ (q2r.2 ⟨_,rfl,hI10,hI11,hI12,hI13,hS7,hS8,(rs (H.ext hq) 14)⟩)).mono fun _ _ _ h=>h.1)) ?_
 obtain⟨_,_,_,hI14⟩:=(ih_sTypeOfExpr hy2 ⟨_,_,rfl,(rs H 3),(rs H 4)⟩ ⟨_,_,_,rfl,hS1,hS2,(rs H 5),(rs H 6),(rs H 7)⟩ (q2r.2 ⟨_,rfl,hI10,hI11,hI12,hI13,hS7,hS8,(rs H 14)⟩)).get
 refine (qA) ?_
 refine QL.nil (fun w6 hE=>?_)
 have H:=H.ext hE
 refine Y (Y ?_)
 refine q0a [(3,pB b1),(4,pB b2),(5,pB b3),(7,.int .i64 y2)] ⟨rfl,rfl,rfl,rfl,trivial⟩ fun σ=>?_
 have H:HL F0 [] w0 w6 [.R a0 [.slice A1 n1 c1,.slice A2 n2 c2],.R a1 d1,.R a2 (q2D a2 A6 n6 c6),.S a0.Symbols (.slice A1 n1 c1),.S a0.Rules (.slice A2 n2 c2),.S a1.Right (.slice A3 n3 c3),.S a1.Equations (.slice A4 n4 c4),.S a1.Contributions (.slice A5 n5 c5),.S a2.Args (.slice A6 n6 c6),.A b4 (ob4+0*7) (q2D x1 A7 n7 c7),.R x1 (q2D x1 A7 n7 c7),.S x1.Args (.slice A7 n7 c7),.A b5 (ob5+1*7) (q2D x2 A8 n8 c8),.R x2 (q2D x2 A8 n8 c8),.S x2.Args (.slice A8 n8 c8)] [.B b1 35 [.slice A1 n1 c1,.slice A2 n2 c2],.B b2 62 d1,.B b3 136 (q2D a2 A6 n6 c6)]:=H
 refine q0d hmix (by kernel_rfl) ?_
 refine (qV) ((qLB H 0) ((qLB H 1) ((qD 6) ((qL H 2) ?_))))
 refine bb hr fun x3 hx3 hr=>?_
 obtain⟨b6,ob6,cb6,A9,n9,c9,hvb6,hI15,hI16,hI17,hI18,hS9,hS10,H⟩:=q4f H 8 hx3
 refine (qJ 7 hvb6 hx3) ((qLA H 15) ?_)
 refine bb hr fun y3 hy3 hr=>?_
 refine (qC j0T (fun _ hq=>(ih_sTypeOfExpr hy3 ⟨_,_,rfl,(rs (H.ext hq) 3),(rs (H.ext hq) 4)⟩ ⟨_,_,_,rfl,hS1,hS2,(rs (H.ext hq) 5),(rs (H.ext hq) 6),(rs (H.ext hq) 7)⟩ (q2r.2 ⟨_,rfl,hI15,hI16,hI17,hI18,hS9,hS10,(rs (H.ext hq) 17)⟩)).mono fun _ _ _ h=>h.1)) ?_
 obtain⟨_,_,_,hI19⟩:=(ih_sTypeOfExpr hy3 ⟨_,_,rfl,(rs H 3),(rs H 4)⟩ ⟨_,_,_,rfl,hS1,hS2,(rs H 5),(rs H 6),(rs H 7)⟩ (q2r.2 ⟨_,rfl,hI15,hI16,hI17,hI18,hS9,hS10,(rs H 17)⟩)).get
 refine (qB) ?_
 refine QL.nil (fun w7 hE=>?_)
 have H:=H.ext hE
 refine iN hr (fun _ hr=>?_) fun _ hr=>?_
 ·exact R ((AZ) (W1 hr))
 exact K (R ((V) ((AZ) (W1 hr))))
def z0x (rec_sTypeOfExpr:Grammar→Rule→Expr→Option Int)(a0:Grammar)(a1:Rule)(a2:Expr):Option Int:=if a2.Kind=1 then some a2.Type_ else if a2.Kind=2 then if a1.Literal=true then some 1 else some 0 else if a2.Kind=3 then (q5q a2.Pos 0 (a1.Right.length:Int)).bind fun y1=>if y1=true then (q4a a1 a2.Pos).bind fun y2=>(q6x a0 y2 a2.Name).bind fun y3=>some y3 else some 0 else if a2.Kind=4 then (j1i rec_sTypeOfExpr a0 a1 a2).bind fun y4=>some y4 else if a2.Kind=5 then (j1j rec_sTypeOfExpr a0 a1 a2).bind fun y5=>some y5 else if a2.Kind=6 then (q5q a2.Pos 0 (a1.Right.length:Int)).bind fun y6=>if y6=true then some 4 else some 0 else if a2.Kind=7 then some 4 else if a2.Kind=8 then if (a2.Args.length:Int)=1 then (a2.Args[0]?).bind fun x1=>(rec_sTypeOfExpr a0 a1 x1).bind fun y7=>if y7=4 then (q6x a0 a2.Symbol a2.Name).bind fun y8=>some y8 else some 0 else some 0 else some 0
theorem z9a {rec_sTypeOfExpr:Grammar→Rule→Expr→Option Int}(ih_sTypeOfExpr:∀ {a0:Grammar} {a1:Rule} {a2:Expr} {r:Int},rec_sTypeOfExpr a0 a1 a2=some r→∀ {F0:Nat→Prop} {w0:World} {ca0} (ha0:rd F0 w0 a0 ca0) {ca1} (ha1:rd F0 w0 a1 ca1) {ca2} (ha2:rd F0 w0 a2 ca2),RT 144 #[ag ca0,ag ca1,ag ca2] w0 fun v w=>v = .int .i64 r∧I64 r){a0}{a1}{a2}{r}(hr:z0x rec_sTypeOfExpr a0 a1 a2=some r){ca0}(ha0:rd F0 w0 a0 ca0){ca1}(ha1:rd F0 w0 a1 ca1){ca2}(ha2:rd F0 w0 a2 ca2):RT 144 #[ag ca0,ag ca1,ag ca2] w0 fun v w=>v = .int .i64 r∧I64 r:=by
 have H:=(((HL.start F0 w0).argR ha0).argR ha1).argR ha2
 obtain⟨A1,n1,c1,A2,n2,c2,rfl,H⟩:=q2s H 0
 obtain⟨A3,n3,c3,A4,n4,c4,A5,n5,c5,rfl,hS1,hS2,H⟩:=q3j H 1
 let d3:=q4o a1 A3 n3 c3 A4 n4 c4 A5 n5 c5
 obtain⟨A6,n6,c6,rfl,hI1,hI2,hI3,hI4,hS3,hS4,H⟩:=q3q H 2
 let d1:List Pr:=[.R a0 [.slice A1 n1 c1,.slice A2 n2 c2],.R a1 d3,.R a2 (q2D a2 A6 n6 c6),.S a0.Symbols (.slice A1 n1 c1),.S a0.Rules (.slice A2 n2 c2),.S a1.Right (.slice A3 n3 c3),.S a1.Equations (.slice A4 n4 c4),.S a1.Contributions (.slice A5 n5 c5),.S a2.Args (.slice A6 n6 c6)]
 refine (En Tryz.func144) ?_
 refine R ((BX H) fun b1 w1 H=>(BX H) fun b2 w2 H=>(BX H) fun b3 w3 H=>(A) (Z (Y (R ((D 0) ((L H 2) (Z ?_)))))))
 let d2:List It:=[.B b1 35 [.slice A1 n1 c1,.slice A2 n2 c2],.B b2 62 d3,.B b3 136 (q2D a2 A6 n6 c6)]
 refine Bk (R ((B) ((AZ) (iD hr (fun _ hr=>?_) fun _ hr=>?_))))
 ·exact R ((D 3) ((L H 2) ((AZ) (W1 hr))))
 refine R ((B) ((AZ) (iD hr (fun _ hr=>?_) fun _ hr=>?_)))
 ·refine R ((D 3) ((L H 1) (Z (iB hr (fun _ hr=>?_) fun _ hr=>?_))))
  ·exact R ((AZ) (W1 hr))
  exact K (R ((AZ) (W1 hr)))
 refine R ((B) ((AZ) (iD hr (fun _ hr=>?_) fun _ hr=>?_)))
 ·refine R ((D 2) ((L H 2) ((D 2) ((L H 1) ((NI H 5) fun hl1=>?_)))))
  refine bb hr fun y1 hy1 hr=>?_
  refine (CA ok72 (q5j hy1 (F0:=nF) hI3 dI hl1)) (cE H fun w4 H=>Z (iB hr (fun _ hr=>?_) fun _ hr=>?_))
  ·refine Y ?_
   refine q0d hmix (by kernel_rfl) ?_
   refine (qLB H 0) ((qLB H 1) ((qD 2) ((qL H 2) ?_)))
   refine bb hr fun y2 hy2 hr=>?_
   refine (qC j6n (fun _ hq=>(q5G hy2 ⟨_,_,_,rfl,hS1,hS2,(rs (H.ext hq) 5),(rs (H.ext hq) 6),(rs (H.ext hq) 7)⟩ hI3).mono fun _ _ _ h=>h.1)) ?_
   obtain⟨_,_,_,hS5⟩:=(q5G hy2 ⟨_,_,_,rfl,hS1,hS2,(rs H 5),(rs H 6),(rs H 7)⟩ hI3).get
   refine (qD 5) ((qL H 2) ?_)
   refine bb hr fun y3 hy3 hr=>?_
   refine (qC k0d (fun _ hq=>(q7c hy3 ⟨_,_,rfl,(rs (H.ext hq) 3),(rs (H.ext hq) 4)⟩ hS5 hS4).mono fun _ _ _ h=>h.1)) ?_
   obtain⟨_,_,_,hI5⟩:=(q7c hy3 ⟨_,_,rfl,(rs H 3),(rs H 4)⟩ hS5 hS4).get
   refine (qA) ?_
   refine QL.nil (fun w5 hE=>?_)
   have H:=H.ext hE
   exact W1 hr
  exact K (R ((AZ) (W1 hr)))
 refine R ((B) ((AZ) (iD hr (fun _ hr=>?_) fun _ hr=>?_)))
 ·refine R ((LB H 0) ((LB H 1) ((LB H 2) ?_)))
  refine bb hr fun y4 hy4 hr=>?_
  exact (CA k3p (j6s ih_sTypeOfExpr hy4 ⟨_,_,rfl,(rs H 3),(rs H 4)⟩ ⟨_,_,_,rfl,hS1,hS2,(rs H 5),(rs H 6),(rs H 7)⟩ (q2r.2 ⟨_,rfl,hI1,hI2,hI3,hI4,hS3,hS4,(rs H 8)⟩))) (cF' H fun w6 hI6 H=>(AZ) (W1 hr))
 refine R ((B) ((AZ) (iD hr (fun _ hr=>?_) fun _ hr=>?_)))
 ·refine R ((LB H 0) ((LB H 1) ((LB H 2) ?_)))
  refine bb hr fun y5 hy5 hr=>?_
  exact (CA k3q (j6t ih_sTypeOfExpr hy5 ⟨_,_,rfl,(rs H 3),(rs H 4)⟩ ⟨_,_,_,rfl,hS1,hS2,(rs H 5),(rs H 6),(rs H 7)⟩ (q2r.2 ⟨_,rfl,hI1,hI2,hI3,hI4,hS3,hS4,(rs H 8)⟩))) (cF' H fun w7 hI7 H=>(AZ) (W1 hr))
 refine R ((B) ((AZ) (iD hr (fun _ hr=>?_) fun _ hr=>?_)))
 ·refine R ((D 2) ((L H 2) ((D 2) ((L H 1) ((NI H 5) fun hl2=>?_)))))
  refine bb hr fun y6 hy6 hr=>?_
  refine (CA ok72 (q5j hy6 (F0:=nF) hI3 dI hl2)) (cE H fun w8 H=>Z (iB hr (fun _ hr=>?_) fun _ hr=>?_))
  ·refine Y ?_
   refine q0a [] trivial fun σ=>?_
   have H:HL F0 [] w0 w8 d1 d2:=H
   exact X ((AZ) (W1 hr))
  refine K (Y ?_)
  refine q0a [] trivial fun σ=>?_
  have H:HL F0 [] w0 w8 d1 d2:=H
  exact X ((AZ) (W1 hr))
 refine R ((B) ((AZ) (iD hr (fun _ hr=>?_) fun _ hr=>?_)))
 ·exact R ((AZ) (W1 hr))
 refine R ((B) ((AZ) (iD hr (fun _ hr=>?_) fun _ hr=>?_)))
 ·refine Y ?_
  refine q0a [(3,pB b1),(4,pB b2),(5,pB b3)] ⟨rfl,rfl,rfl,trivial⟩ fun σ=>?_
  have H:HL F0 [] w0 w3 d1 d2:=H
  refine q0d hmix (by kernel_rfl) ?_
  refine (qD 6) ((qL H 2) ?_)
  have hl3:=(H.rS (i:=8) rfl).I
  refine (qNN (rs H 8)) ((qB) ?_)
  refine kD hr (fun _ hr=>?_) fun _ hr=>?_
  ·refine (qG) ((qLB H 0) ((qG) ((qLB H 1) ((qG) ((qD 6) ((qG) ((qL H 2) ((qG) ?_))))))))
   refine bb hr fun x1 hx1 hr=>?_
   obtain⟨b4,ob4,cb4,A7,n7,c7,hvb4,hI8,hI9,hI10,hI11,hS6,hS7,H⟩:=q4f H 8 hx1
   refine (qJ 7 hvb4 hx1) ((qG) ((qLA H 9) ((qG) ?_)))
   refine bb hr fun y7 hy7 hr=>?_
   refine (qC j0T (fun _ hq=>(ih_sTypeOfExpr hy7 ⟨_,_,rfl,(rs (H.ext hq) 3),(rs (H.ext hq) 4)⟩ ⟨_,_,_,rfl,hS1,hS2,(rs (H.ext hq) 5),(rs (H.ext hq) 6),(rs (H.ext hq) 7)⟩ (q2r.2 ⟨_,rfl,hI8,hI9,hI10,hI11,hS6,hS7,(rs (H.ext hq) 11)⟩)).mono fun _ _ _ h=>h.1)) ?_
   obtain⟨_,_,_,hI12⟩:=(ih_sTypeOfExpr hy7 ⟨_,_,rfl,(rs H 3),(rs H 4)⟩ ⟨_,_,_,rfl,hS1,hS2,(rs H 5),(rs H 6),(rs H 7)⟩ (q2r.2 ⟨_,rfl,hI8,hI9,hI10,hI11,hS6,hS7,(rs H 11)⟩)).get
   refine (qG) ((qB) ((qT) ?_))
   refine QL.nil (fun w9 hE=>?_)
   have H:=H.ext hE
   refine iD hr (fun _ hr=>?_) fun _ hr=>?_
   ·refine R ((LB H 0) ((D 4) ((L H 2) ((D 5) ((L H 2) ?_)))))
    refine bb hr fun y8 hy8 hr=>?_
    exact (CA k0d (q7c hy8 ⟨_,_,rfl,(rs H 3),(rs H 4)⟩ hS3 hS4)) (cF' H fun w10 hI13 H=>(AZ) (W1 hr))
   exact K (R ((AZ) (W1 hr)))
  refine (qO) ((qO) ((qO) ((qO) ((qO) ((qO) ((qO) ((qO) ((qU) ?_))))))))
  refine QL.nil (fun w11 hE=>?_)
  have H:=H.ext hE
  exact (cF) (K (R ((AZ) (W1 hr))))
 refine K (Y ?_)
 refine q0a [] trivial fun σ=>?_
 have H:HL F0 [] w0 w3 d1 d2:=H
 exact X ((AZ) (W1 hr))
def q7N:Nat→Grammar→Rule→Expr→Option Int
  | 0,_,_,_=>none
  | n+1,a0,a1,a2=>z0x (q7N n) a0 a1 a2
def q8J (a0:Grammar)(a1:Rule)(a2:Expr):Option Int:=recO fun n=>q7N n a0 a1 a2
theorem z9b (n:Nat):∀ {a0:Grammar} {a1:Rule} {a2:Expr} {r:Int},q7N n a0 a1 a2=some r→∀ {F0:Nat→Prop} {w0:World} {ca0} (ha0:rd F0 w0 a0 ca0) {ca1} (ha1:rd F0 w0 a1 ca1) {ca2} (ha2:rd F0 w0 a2 ca2),RT 144 #[ag ca0,ag ca1,ag ca2] w0 fun v w=>v = .int .i64 r∧I64 r:=by
 induction n with
 | zero=>intro a0 a1 a2 r hr; exact nomatch (show (none:Option Int)=some r from hr)
 | succ n ih=>intro a0 a1 a2 r hr; exact z9a ih hr
theorem q9H {a0}{a1}{a2}{r}(hr:q8J a0 a1 a2=some r){ca0}(ha0:rd F0 w0 a0 ca0){ca1}(ha1:rd F0 w0 a1 ca1){ca2}(ha2:rd F0 w0 a2 ca2):RT 144 #[ag ca0,ag ca1,ag ca2] w0 fun v w=>v = .int .i64 r∧I64 r:=by
 obtain⟨n,hn⟩:=q4v hr
 exact z9b n hn ha0 ha1 ha2
def z9c (a0:Grammar)(a1:Rule):Nat→Equation→Unit→Option (Unit ⊕ Bool):=fun k1 x1 _=>(q8J a0 a1 x1.Expr).bind fun y1=>(q4a a1 x1.At.Pos).bind fun y2=>(q6x a0 y2 x1.At.Name).bind fun y3=>if y1=y3 then some (.inl ()) else some (.inr false)
def z9d (a0:Grammar)(a1:Rule):Nat→Contribution→Unit→Option (Unit ⊕ Bool):=fun k2 x2 _=>(q6g a0 x2.Symbol).bind fun (y4,y5)=>(q7b y4 x2.Name).bind fun (y6,y7)=>( if y7=true then some (!(decide (y6.Mode=3))) else some true ).bind fun s1=>( if s1=true then some true else (q8J a0 a1 x2.Target).bind fun y8=>some (!(decide (y8=4))) ).bind fun s2=>( if s2=true then some true else (q8J a0 a1 x2.Value).bind fun y9=>some (!(decide (y9=2))) ).bind fun s3=>if s3=true then some (.inr false) else some (.inl ())
def z4E (a0:Grammar)(a1:Rule):Option Bool:=(q2u (z9c a0 a1) 0 a1.Equations ()).bind <| onr (fun r1=>some r1) fun _=>(q2u (z9d a0 a1) 0 a1.Contributions ()).bind <| onr (fun r2=>some r2) fun _=>some true
theorem j3A {a0}{a1}{r}(hr:z4E a0 a1=some r){ca0}(ha0:rd F0 w0 a0 ca0){ca1}(ha1:rd F0 w0 a1 ca1):RB 110 #[ag ca0,ag ca1] w0 r:=by
 have H:=((HL.start F0 w0).argR ha0).argR ha1
 obtain⟨A1,n1,c1,A2,n2,c2,rfl,H⟩:=q2s H 0
 let d8:Pr:=.S a0.Rules (.slice A2 n2 c2)
 let d7:Pr:=.S a0.Symbols (.slice A1 n1 c1)
 let d3:List Value:=[.slice A1 n1 c1,.slice A2 n2 c2]
 obtain⟨A3,n3,c3,A4,n4,c4,A5,n5,c5,rfl,hS1,hS2,H⟩:=q3j H 1
 let d9:Pr:=.S a1.Right (.slice A3 n3 c3)
 let d6:Pr:=.S a1.Equations (.slice A4 n4 c4)
 let d5:Pr:=.S a1.Contributions (.slice A5 n5 c5)
 let d2:=q4o a1 A3 n3 c3 A4 n4 c4 A5 n5 c5
 let d14:List Pr:=[.R a0 d3,.R a1 d2,d7,d8,d9,d6,d5]
 refine (En Tryz.func110) ?_
 refine R ((BX H) fun b1 w1 H=>(BX H) fun b2 w2 H=>(A) (Z (Y (R ((AZ) ?_)))))
 let d13:It:=.B b1 35 d3
 refine bb hr fun q1 hq1 hr=>?_
 refine (lF hq1 (fun k1 _ _=>[(2,pB b1),(3,pB b2),(5,zN k1)]) (fun _ _ w=>HL F0 [] w0 w d14 [d13,.B b2 62 d2]) ()) ?_
 rintro k1 _ _ σ w3 hk1 hq1 H
 refine Y (R ((V) ((D 4) ((L H 1) ((NI H 5) fun hl1=>(BZ) ?_)))))
 refine (iF hq1 hr (fun hk2 x1 z1 hx1 hb1 hs1 ht1=>?_) fun hr=>?_)
 ·refine K (Y ?_)
  refine Bk (R ((D 4) ((L H 1) ((V) ?_))))
  obtain⟨b3,ob3,cb3,A6,n6,c6,hvb3,hI1,hS3,hI2,hI3,hI4,hI5,hS4,hS5,H⟩:=q3P H 5 hx1
  let d10:=q5Z x1 A6 n6 c6
  refine (J 9 hvb3 hx1) ((LA H 7) ((AH z9P H) fun b4 w4 H=>(SB H 2) fun w5 H=>Z (Y ?_)))
  refine q0d hmix (by kernel_rfl) ?_
  refine (qLB H 0) ((qLB H 1) ((qD 2) ?_))
  refine q0i rfl rfl (fun _ hq=>q0c rfl q7L q5u rfl (Blk.part ((H.ext hq).rB (i:=2) rfl) 2 7) rfl) ?_
  refine bb hb1 fun y1 hy1 hb1=>?_
  refine (qC j0T (fun _ hq=>(q9H hy1 ⟨_,_,rfl,(rs (H.ext hq) 2),(rs (H.ext hq) 3)⟩ ⟨_,_,_,rfl,hS1,hS2,(rs (H.ext hq) 4),(rs (H.ext hq) 5),(rs (H.ext hq) 6)⟩ (q2r.2 ⟨_,rfl,hI2,hI3,hI4,hI5,hS4,hS5,(rs (H.ext hq) 9)⟩)).mono fun _ _ _ h=>h.1)) ?_
  obtain⟨_,_,_,hI6⟩:=(q9H hy1 ⟨_,_,rfl,(rs H 2),(rs H 3)⟩ ⟨_,_,_,rfl,hS1,hS2,(rs H 4),(rs H 5),(rs H 6)⟩ (q2r.2 ⟨_,rfl,hI2,hI3,hI4,hI5,hS4,hS5,(rs H 9)⟩)).get
  refine (qLB H 0) ((qLB H 1) ((qD 0) ((qD 0) ((qL H 2) ?_))))
  refine bb hb1 fun y2 hy2 hb1=>?_
  refine (qC j6n (fun _ hq=>(q5G hy2 ⟨_,_,_,rfl,hS1,hS2,(rs (H.ext hq) 4),(rs (H.ext hq) 5),(rs (H.ext hq) 6)⟩ hI1).mono fun _ _ _ h=>h.1)) ?_
  obtain⟨_,_,_,hS6⟩:=(q5G hy2 ⟨_,_,_,rfl,hS1,hS2,(rs H 4),(rs H 5),(rs H 6)⟩ hI1).get
  refine (qD 0) ((qD 1) ((qL H 2) ?_))
  refine bb hb1 fun y3 hy3 hb1=>?_
  refine (qC k0d (fun _ hq=>(q7c hy3 ⟨_,_,rfl,(rs (H.ext hq) 2),(rs (H.ext hq) 3)⟩ hS6 hS3).mono fun _ _ _ h=>h.1)) ?_
  obtain⟨_,_,_,hI7⟩:=(q7c hy3 ⟨_,_,rfl,(rs H 2),(rs H 3)⟩ hS6 hS3).get
  refine (qB) ?_
  refine QL.nil (fun w6 hE=>?_)
  have H:=H.ext hE
  refine iN hb1 (fun _ hb1=>?_) fun _ hb1=>?_
  ·refine Y ?_
   refine q0a [] trivial fun σ=>?_
   have H:HL F0 [] w0 w6 [.R a0 d3,.R a1 d2,d7,d8,d9,d6,d5,.A b3 (ob3+k1*9) d10,.R x1 d10,.S x1.Expr.Args (.slice A6 n6 c6)] [d13,.B b2 62 d2,.B b4 138 d10]:=H
   exact X ((AZ) (W2 hb1 ht1 hr))
  refine K ?_
  refine q0a [(2,pB b1),(3,pB b2),(5,zN k1)] ⟨rfl,rfl,rfl,trivial⟩ fun σ=>?_
  have H:HL F0 [] w0 w6 [.R a0 d3,.R a1 d2,d7,d8,d9,d6,d5,.A b3 (ob3+k1*9) d10,.R x1 d10,.S x1.Expr.Args (.slice A6 n6 c6)] [d13,.B b2 62 d2,.B b4 138 d10]:=H
  exact X ((V) ((AN hk2 hl1) ((A) (Z (I2 hb1 hs1 ⟨k1+1,(),()⟩)))))
 refine CE (Y (R ((AZ) ?_)))
 refine bb hr fun q2 hq2 hr=>?_
 refine (lF hq2 (fun k2 _ _=>[(2,pB b1),(3,pB b2),(7,zN k2)]) (fun _ _ w=>HL F0 [] w0 w d14 [d13,.B b2 62 d2]) ()) ?_
 rintro k2 _ _ σ w7 hk3 hq2 H
 refine Y (R ((V) ((D 5) ((L H 1) ((NI H 6) fun hl2=>(BZ) ?_)))))
 refine (iF hq2 hr (fun hk4 x2 z2 hx2 hb2 hs2 ht2=>?_) fun hr=>?_)
 ·refine K (Y ?_)
  refine Bk (R ((D 5) ((L H 1) ((V) ?_))))
  obtain⟨b5,ob5,cb5,A7,n7,c7,A8,n8,c8,hvb5,hS7,hS8,hI8,hI9,hI10,hI11,hS9,hS10,hI12,hI13,hI14,hI15,hS11,hS12,H⟩:=q3V H 6 hx2
  let d12:Pr:=.S x2.Value.Args (.slice A8 n8 c8)
  let d11:Pr:=.S x2.Target.Args (.slice A7 n7 c7)
  let d4:=q4u x2 A7 n7 c7 A8 n8 c8
  refine (J 16 hvb5 hx2) ((LA H 7) ((AH j1Y H) fun b6 w8 H=>(SB H 2) fun w9 H=>Z (R ((LB H 0) ((D 0) ((L H 2) ?_))))))
  obtain⟨⟨y4,y5⟩,hy4,hb2⟩:=bd hb2
  refine (CA j6m (q8c hy4 ⟨_,_,rfl,(rs H 2),(rs H 3)⟩ hS7)) ?_
  rintro _ w10 hE ⟨A9,n9,c9,rfl,hS13,H'⟩
  have H:=H.callA H' tv
  refine (V) ((EX) ((EX) ((AH ze89 H) fun b7 w11 H=>(SB H 4) fun w12 H=>(A) (Z (R ((LB H 4) ((D 1) ((L H 2) ?_))))))))
  obtain⟨⟨y6,y7⟩,hy5,hb2⟩:=bd hb2
  refine (CA k0e (q9p hy5 ⟨_,rfl,hS13,(ro H 3)⟩ hS8)) ?_
  rintro _ w13 hE ⟨rfl,hS14,hI16,hI17⟩
  have H:=H.ext hE
  refine (V) ((EX) ((EX) ((AH ze91 H) fun b8 w14 H=>(SB H 5) fun w15 H=>(AZ) (Y ?_))))
  let d1:List It:=[d13,.B b2 62 d2,.B b6 190 d4,.O 91 y4.Attributes (.slice A9 n9 c9),.B b7 89 [.string y4.Name,.slice A9 n9 c9],.B b8 91 (q3Z y6)]
  refine q0a [(2,pB b1),(3,pB b2),(7,zN k2),(8,pB b6),(11,pB b8),(12,.bool y7)] ⟨rfl,rfl,rfl,rfl,rfl,rfl,trivial⟩ fun σ=>?_
  have H:HL F0 [] w0 w15 [.R a0 d3,.R a1 d2,d7,d8,d9,d6,d5,.A b5 (ob5+k2*16) d4,.R x2 d4,d11,d12] d1:=H
  refine X ((V) ((N) ?_))
  refine bb hb2 fun q3 hm1 hb2=>?_
  refine cu H 5 [(2,pB b1),(3,pB b2),(7,zN k2),(8,pB b6),(73,.bool q3)] [.R a0 d3,.R a1 d2,d7,d8,d9,d6,d5,.A b5 (ob5+k2*16) d4,.R x2 d4,d11,d12] d1 ?_ fun σ w16 H=>?_
  ·refine jM hm1 (fun _ hm1=>?_) fun _ hm1=>?_
   ·exact OF hm1
   exact (G) ((D 2) ((G) ((L H 5) ((G) ((B) ((U) (Z (C1 hm1))))))))
  refine bb hb2 fun q4 hm2 hb2=>?_
  refine cu H 8 [(2,pB b1),(3,pB b2),(7,zN k2),(8,pB b6),(81,.bool q4)] [.R a0 d3,.R a1 d2,d7,d8,d9,d6,d5,.A b5 (ob5+k2*16) d4,.R x2 d4,d11,d12] d1 ?_ fun σ w18 H=>?_
  ·refine jB hm2 (fun _ hm2=>?_) fun _ hm2=>?_
   ·exact OF hm2
   refine (G) ((LB H 0) ((G) ((LB H 1) ((G) ((D 2) ((G) ?_))))))
   refine q0b rfl rfl (q0c rfl q7L q5u rfl (Blk.part (rb H 2) 2 7) rfl) ((G) ?_)
   refine bb hm2 fun y8 hy6 hm2=>?_
   exact (CA j0T (q9H hy6 ⟨_,_,rfl,(rs H 2),(rs H 3)⟩ ⟨_,_,_,rfl,hS1,hS2,(rs H 4),(rs H 5),(rs H 6)⟩ (q2r.2 ⟨_,rfl,hI8,hI9,hI10,hI11,hS9,hS10,(rs H 9)⟩))) (cF' H fun w17 hI18 H=>(G) ((B) ((U) (Z (C1 hm2)))))
  refine bb hb2 fun q5 hm3 hb2=>?_
  refine cu H 8 [(2,pB b1),(3,pB b2),(7,zN k2),(89,.bool q5)] [.R a0 d3,.R a1 d2,d7,d8,d9,d6,d5,.A b5 (ob5+k2*16) d4,.R x2 d4,d11,d12] d1 ?_ fun σ w20 H=>?_
  ·refine jB hm3 (fun _ hm3=>?_) fun _ hm3=>?_
   ·exact OF hm3
   refine (G) ((LB H 0) ((G) ((LB H 1) ((G) ((D 9) ((G) ?_))))))
   refine q0b rfl rfl (q0c rfl q7L q5u rfl (Blk.part (rb H 2) 9 7) rfl) ((G) ?_)
   refine bb hm3 fun y9 hy7 hm3=>?_
   exact (CA j0T (q9H hy7 ⟨_,_,rfl,(rs H 2),(rs H 3)⟩ ⟨_,_,_,rfl,hS1,hS2,(rs H 4),(rs H 5),(rs H 6)⟩ (q2r.2 ⟨_,rfl,hI12,hI13,hI14,hI15,hS11,hS12,(rs H 10)⟩))) (cF' H fun w19 hI19 H=>(G) ((B) ((U) (Z (C1 hm3)))))
  refine Z (iB hb2 (fun _ hb2=>?_) fun _ hb2=>?_)
  ·exact R ((AZ) (W2 hb2 ht2 hr))
  exact K (X ((V) ((AN hk4 hl2) ((A) (Z (I2 hb2 hs2 ⟨k2+1,(),()⟩))))))
 exact CE (R ((AZ) (W1 hr)))
def z2p (a1:ByteArray):Nat→Symbol→Unit→Option (Unit ⊕ Int):=fun k1 x1 _=>if x1.Name=a1 then some (.inr (k1:Int)) else some (.inl ())
def q9I (a0:Grammar)(a1:ByteArray):Option Int:=(q2u (z2p a1) 0 a0.Symbols ()).bind <| onr (fun r1=>some r1) fun _=>some (-1)
theorem z6l {a0}{a1}{r}(hr:q9I a0 a1=some r){ca0}(ha0:rd F0 w0 a0 ca0)(ha1:a1.size≤9223372036854775807):RT 71 #[ag ca0,.string a1] w0 fun v w=>v = .int .i64 r∧I64 r:=by
 have H:=(HL.start F0 w0).argR ha0
 obtain⟨A1,n1,c1,A2,n2,c2,rfl,H⟩:=q2s H 0
 refine (En Tryz.func71) ?_
 refine R ((BX H) fun b1 w1 H=>(A) (Z (Y (R ((AZ) ?_)))))
 refine bb hr fun q1 hq1 hr=>?_
 refine (lF hq1 (fun k1 _ _=>[(1,.string a1),(2,pB b1),(5,zN k1)]) (fun _ _ w=>HL F0 [] w0 w [.R a0 [.slice A1 n1 c1,.slice A2 n2 c2],.S a0.Symbols (.slice A1 n1 c1),.S a0.Rules (.slice A2 n2 c2)] [.B b1 35 [.slice A1 n1 c1,.slice A2 n2 c2]]) ()) ?_
 rintro k1 _ _ σ w2 hk1 hq1 H
 refine Y (R ((V) ((D 0) ((L H 0) ((NI H 1) fun hl1=>(BZ) ?_)))))
 refine (iF hq1 hr (fun hk2 x1 z1 hx1 hb1 hs1 ht1=>?_) fun hr=>?_)
 ·refine K (Y ?_)
  refine Bk (R ((D 0) ((L H 0) ((V) ?_))))
  obtain⟨b2,ob2,cb2,A3,n3,c3,hvb2,hS1,H⟩:=q4g H 1 hx1
  refine (J 2 hvb2 hx1) ((D 0) ((LC H 3) ((V) ((BZ) (iD hb1 (fun _ hb1=>?_) fun _ hb1=>?_)))))
  ·exact R ((V) ((AZ) (W2 hb1 ht1 hr)))
  exact K (X ((V) ((AN hk2 hl1) ((A) (Z (I2 hb1 hs1 ⟨k1+1,(),()⟩))))))
 exact CE (R ((AZ) (W1 hr)))
def z1Y (a0:Grammar)(a2:(List Int)):Nat→ByteArray→Bool→Option Bool:=fun k2 x2 s1=>(q9I a0 x2).bind fun y1=>( if s1=true then some (decide (0≤y1)) else some false ).bind fun s2=>( if s2=true then (z2L y1 0).bind fun y2=>grd (0≤y2) <| (a2[y2.toNat]?).bind fun x3=>some (decide (0 < x3)) else some false ).bind fun s3=>some s3
def z4Y (a0:Grammar)(a1:ByteArray)(a2:(List Int)):Nat→Rule→Unit→Option (Unit ⊕ Bool):=fun k1 x1 _=>(q2J (z1Y a0 a2) 0 x1.Right (decide (x1.Left=a1))).bind fun s1=>if s1=true then some (.inr true) else some (.inl ())
def z0y (a0:Grammar)(a1:ByteArray)(a2:(List Int)):Option Bool:=(q2u (z4Y a0 a1 a2) 0 a0.Rules ()).bind <| onr (fun r1=>some r1) fun _=>some false
theorem j0b {a0}{a1}{a2}{r}(hr:z0y a0 a1 a2=some r){ca0}(ha0:rd F0 w0 a0 ca0)(ha1:a1.size≤9223372036854775807){z2}(ha2:rdS F0 w0 a2 z2):RB 209 #[ag ca0,.string a1,z2] w0 r:=by
 obtain⟨A2',n2',c2',rfl⟩:=ha2.form3
 let d5:Pr:=.S a2 (.slice A2' n2' c2')
 have H:=((HL.start F0 w0).argR ha0).argS ha2
 obtain⟨A1,n1,c1,A2,n2,c2,rfl,H⟩:=q2s H 0
 let d4:Pr:=.S a0.Rules (.slice A2 n2 c2)
 let d3:Pr:=.S a0.Symbols (.slice A1 n1 c1)
 let d2:List Value:=[.slice A1 n1 c1,.slice A2 n2 c2]
 refine (En Tryz.func209) ?_
 refine R ((BX H) fun b1 w1 H=>(A) (Z (Y (R ((AZ) ?_)))))
 refine bb hr fun q1 hq1 hr=>?_
 refine (lF hq1 (fun k1 _ _=>[(1,.string a1),(2,.slice A2' n2' c2'),(3,pB b1),(7,zN k1)]) (fun _ _ w=>HL F0 [] w0 w [.R a0 d2,d5,d3,d4] [.B b1 35 d2]) ()) ?_
 rintro k1 _ _ σ w2 hk1 hq1 H
 refine Y (R ((V) ((D 1) ((L H 0) ((NI H 3) fun hl1=>(BZ) ?_)))))
 refine (iF hq1 hr (fun hk2 x1 z1 hx1 hb1 hs1 ht1=>?_) fun hr=>?_)
 ·refine K (Y ?_)
  refine Bk (R ((D 1) ((L H 0) ((V) ?_))))
  obtain⟨b2,ob2,cb2,A3,n3,c3,A4,n4,c4,A5,n5,c5,hvb2,hS1,hS2,H⟩:=q6N H 3 hx1
  let d8:Pr:=.S x1.Right (.slice A3 n3 c3)
  let d7:Pr:=.S x1.Equations (.slice A4 n4 c4)
  let d6:Pr:=.S x1.Contributions (.slice A5 n5 c5)
  let d1:=q4o x1 A3 n3 c3 A4 n4 c4 A5 n5 c5
  refine (J 6 hvb2 hx1) ((LA H 4) ((AH ze62 H) fun b3 w3 H=>(SB H 1) fun w4 H=>Z (R ((D 1) ((L H 1) ((V) ((B) ((A) (Z (Y (R ((AZ) ?_))))))))))))
  let d9:List It:=[.B b1 35 d2,.B b3 62 d1]
  refine bb hb1 fun q2 hq2 hb1=>?_
  refine (lE hq2 (fun k2 s1 _=>[(1,.string a1),(2,.slice A2' n2' c2'),(3,pB b1),(7,zN k1),(8,pB b3),(9,.bool s1),(10,zN k2)]) (fun s1 _ w=>HL F0 [] w0 w [.R a0 d2,d5,d3,d4,.A b2 (ob2+k1*6) d1,.R x1 d1,d8,d7,d6] d9) ()) ?_
  rintro k2 s1 _ σ w5 hk3 hq2 H
  refine Y (R ((V) ((D 2) ((L H 1) ((NI H 6) fun hl2=>(BZ) ?_)))))
  refine (iE hq2 (fun hk4 x2 z2 hx2 hb2 hq2=>?_) fun e=>?_)
  ·refine K (Y ?_)
   refine Bk (Y ?_)
   refine q0d hmix (by kernel_rfl) ?_
   refine (qLB H 0) ((qD 2) ((qL H 1) ((qV) ?_)))
   obtain⟨b4,ob4,cb4,hvb4,hS3,H⟩:=q7l H 6 hx2
   refine (qJ 1 hvb4 hx2) ((qL0 H 9) ?_)
   refine bb hb2 fun y1 hy1 hb2=>?_
   refine (qC ok71 (fun _ hq=>(z6l hy1 ⟨_,_,rfl,(rs (H.ext hq) 2),(rs (H.ext hq) 3)⟩ hS3).mono fun _ _ _ h=>h.1)) ?_
   obtain⟨_,_,_,hI1⟩:=(z6l hy1 ⟨_,_,rfl,(rs H 2),(rs H 3)⟩ hS3).get
   refine (qA) ?_
   refine QL.nil (fun w6 hE=>?_)
   have H:=H.ext hE
   refine X ((V) ?_)
   refine bb hb2 fun q3 hm1 hb2=>?_
   refine cu H 4 [(1,.string a1),(2,.slice A2' n2' c2'),(3,pB b1),(7,zN k1),(8,pB b3),(9,.bool s1),(10,zN k2),(11,.int .i64 y1),(46,.bool q3)] [.R a0 d2,d5,d3,d4,.A b2 (ob2+k1*6) d1,.R x1 d1,d8,d7,d6,.A b4 (ob4+k2*1) [.string x2],.R x2 [.string x2]] d9 ?_ fun σ w7 H=>?_
   ·refine jB hm1 (fun _ hm1=>?_) fun _ hm1=>?_
    ·exact (G) ((V) ((G) ((B) ((T) (Z (C1 hm1))))))
    exact OF hm1
   refine bb hb2 fun q4 hm2 hb2=>?_
   refine cu H 8 [(1,.string a1),(2,.slice A2' n2' c2'),(3,pB b1),(7,zN k1),(8,pB b3),(9,.bool s1),(10,zN k2),(54,.bool q4)] [.R a0 d2,d5,d3,d4,.A b2 (ob2+k1*6) d1,.R x1 d1,d8,d7,d6,.A b4 (ob4+k2*1) [.string x2],.R x2 [.string x2]] d9 ?_ fun σ w9 H=>?_
   ·refine jB hm2 (fun _ hm2=>?_) fun _ hm2=>?_
    ·refine (G) ((V) ((G) ((V) ((G) ?_))))
     refine bb hm2 fun y2 hy2 hm2=>?_
     refine (CA k0l (z8U hy2 (F0:=nF) hI1 dI)) (cF' H fun w8 hI2 H=>(G) ?_)
     refine gg hm2 fun hg1 hm2=>?_
     refine bb hm2 fun x3 hx3 hm2=>?_
     obtain⟨b5,ob5,cb5,hvb5,hI3,H⟩:=z6M H 1 hx3
     exact q0b rfl rfl (q0l rfl el94 sz3 rfl hvb5 rfl hg1 (q4G hx3)) ((G) ((L0 H 11) ((G) ((B) ((T) (Z (C1 hm2)))))))
    exact OF hm2
   exact (A) (Z (X ((V) ((AN hk4 hl2) ((A) (Z (I1 hb2 ⟨k2+1,q4,()⟩)))))))
  obtain rfl:=e
  refine CE (R ((V) (Z (iB hb1 (fun _ hb1=>?_) fun _ hb1=>?_))))
  ·exact R ((AZ) (W2 hb1 ht1 hr))
  exact K (X ((V) ((AN hk2 hl1) ((A) (Z (I2 hb1 hs1 ⟨k1+1,(),()⟩))))))
 exact CE (R ((AZ) (W1 hr)))
def q9J (a0:Grammar)(s2:List Int)(s3:Int):Nat→Symbol→(List Int)→Option (List Int):=fun k1 x1 s4=>( (s2[k1]?).bind fun x2=>if x2=0 then (z0y a0 x1.Name s2).bind fun y1=>if y1=true then (s4[k1]?).bind fun x3=>some (List.set s4 k1 s3) else some s4 else some s4 ).bind fun s5=>some s5
def q7i (a0:Grammar):((List Int) × Int)→Option (((List Int) × Int) ⊕ (List Int)):=fun (s2,s3)=>if s3≤(a0.Symbols.length:Int) then grd (((([]:List Int).length:Int)+(s2.length:Int))*8≤140737488355328∧(([]:List Int).length:Int)+(s2.length:Int)≤9223372036854775807) <| (q2J (q9J a0 s2 s3) 0 a0.Symbols s2).bind fun s4=>grd (I64 (s3+1)) <| some (.inl (s4,(s3+1))) else some (.inr s2)
def z0z (a0:Grammar):Option (List Int):=grd (0≤(a0.Symbols.length:Int)∧(a0.Symbols.length:Int)*8≤281474976710656∧(a0.Symbols.length:Int)≤9223372036854775807) <| ( q7k (q7i a0) ((List.replicate a0.Symbols.length (0:Int)),1) ).bind fun s1=>some s1
theorem j0c {a0}{r}(hr:z0z a0=some r){ca0}(ha0:rd F0 w0 a0 ca0):RT 182 #[ag ca0] w0 fun v w=>∃ A0 n0 c0,v=(.slice A0 n0 c0)∧HL F0 [] w0 w [] [.O 3 r (.slice A0 n0 c0)]:=by
 have H:=(HL.start F0 w0).argR ha0
 obtain⟨A1,n1,c1,A2,n2,c2,rfl,H⟩:=q2s H 0
 let d2:List Value:=[.slice A1 n1 c1,.slice A2 n2 c2]
 let d1:List Pr:=[.R a0 d2,.S a0.Symbols (.slice A1 n1 c1),.S a0.Rules (.slice A2 n2 c2)]
 refine (En Tryz.func182) ?_
 refine R ((BX H) fun b1 w1 H=>(A) (Z (R ((D 0) ((L H 0) ((NI H 1) fun hl1=>?_))))))
 let d4:It:=.B b1 35 d2
 refine gg hr fun hg1 hr=>?_
 refine q0B (x:=(0:Int)) rfl rfl rfl el94 sz3 by3 ze3 (fun _=>⟨rfl,rfl,dI⟩) rfl rfl hg1 H fun A3 n3 c3 w2 H=>(A) (Z (Y (R ((AZ) ?_))))
 refine bb hr fun q1 hm1 hr=>?_
 refine q0u (fun ρ' w=>∃ (s1:List Int) (v1:Value),s1=q1∧q4R ρ' [(3,v1)]∧HL F0 [] w0 w d1 [d4,.O 3 s1 v1]) ?_ ?_
 ·obtain⟨m1,hq1⟩:=q5g.1 hm1
  refine (lI hq1 (fun m1 ⟨s2,s3⟩ v2=>[(1,pB b1),(3,v2),(4,.int .i64 s3)]) (fun ⟨s2,s3⟩ v2 w=>I64 s3∧HL F0 [] w0 w d1 [d4,.O 3 s2 v2]) (.slice A3 n3 c3)) ?_
  rintro m1 ⟨s2,s3⟩ v2 σ w3 hq1 ⟨hI1,H⟩
  obtain⟨A4,n4,c4,rfl⟩:=(fo H 1)
  let d3:It:=.O 3 s2 (.slice A4 n4 c4)
  obtain⟨m2,z1,rfl,hb1,hs1,ht1⟩:=q8B hq1
  refine Y (R ((V) ((D 0) ((L H 0) ((NN (rs H 1)) ((BZ) (iD hb1 (fun _ hb1=>?_) fun _ hb1=>?_)))))))
  ·refine K (Y ?_)
   refine Bk (R ?_)
   refine q0s (α:=Int) rfl rfl rfl el94 sz3 H fun A5 n5 c5 w4 H=>(V) ?_
   refine gg hb1 fun hg2 hb1=>?_
   refine q0W (i:=2) rfl rfl rfl el94 sz3 by3 ze3 rfl rfl rfl H rfl (ro H 1) hg2 fun A6 n6 c6 w5 H=>(A) (Z (Y (R ((AZ) ?_))))
   refine bb hb1 fun q2 hq2 hb1=>?_
   refine (lE hq2 (fun k1 s4 _=>[(1,pB b1),(3,.slice A4 n4 c4),(4,.int .i64 s3),(5,.slice A6 n6 c6),(6,zN k1)]) (fun s4 _ w=>HL F0 [] w0 w d1 [d4,d3,.O 3 s4 (.slice A6 n6 c6)]) ()) ?_
   rintro k1 s4 _ σ w6 hk1 hq2 H
   refine Y (R ((V) ((D 0) ((L H 0) ((NN (rs H 1)) ((BZ) ?_))))))
   refine (iE hq2 (fun hk2 x1 z2 hx1 hb2 hq2=>?_) fun e=>?_)
   ·refine K ?_
    refine bb hb2 fun q3 hm2 hb2=>?_
    refine CW.seq (cm H [(1,pB b1),(3,.slice A4 n4 c4),(4,.int .i64 s3),(5,.slice A6 n6 c6),(6,zN k1)] d1 [d4,d3,.O 3 q3 (.slice A6 n6 c6)] ?_ fun σ w10 H=>?_)
    ·refine Bk (Y ?_)
     refine q0d hmix (by kernel_rfl) ?_
     refine (qV) ((qV) ?_)
     refine bb hm2 fun x2 hx2 hm2=>?_
     obtain⟨b2,cb2,hvb2,hbb2⟩:=po H 1 hx2
     refine (qJ 1 hvb2 hx2) ?_
     obtain⟨hA1,hI2,H⟩:=q5p H 1 hx2 hbb2
     refine q0i rfl rfl (fun _ hq=>q0h rfl ag3 rfl ((hA1.ext hq).cell0 rfl)) ?_
     refine (qB) ?_
     refine kD hm2 (fun _ hm2=>?_) fun _ hm2=>?_
     ·refine (qG) ((qLB H 0) ((qG) ((qD 0) ((qG) ((qL H 0) ((qG) ((qV) ((qG) ?_))))))))
      obtain⟨b3,ob3,cb3,A7,n7,c7,hvb3,hS1,H⟩:=q4g H 1 hx1
      refine (qJ 2 hvb3 hx1) ((qG) ((qD 0) ((qG) ((qLC H 4) ((qG) ((qV) ((qG) ?_)))))))
      refine bb hm2 fun y1 hy1 hm2=>?_
      refine (qC k3J (fun _ hq=>j0b hy1 ⟨_,_,rfl,(rs (H.ext hq) 1),(rs (H.ext hq) 2)⟩ hS1 (ro (H.ext hq) 1))) ?_
      refine (qT) ?_
      refine QL.nil (fun w7 hE=>?_)
      have H:=H.ext hE
      refine iB hm2 (fun _ hm2=>?_) fun _ hm2=>?_
      ·refine q0a [(1,pB b1),(3,.slice A4 n4 c4),(4,.int .i64 s3),(5,.slice A6 n6 c6),(6,zN k1),(34,.agg #[.slice A1 n1 c1,.slice A2 n2 c2]),(35,.pointer (some ⟨b1,0+0,none⟩)),(36,.slice A1 n1 c1),(37,zN k1),(38,.pointer (some ⟨b3,ob3+k1*2,none⟩)),(39,.pointer (some ⟨b3,ob3+k1*2+0,none⟩)),(40,.string x1.Name),(41,.slice A4 n4 c4),(42,.bool y1)] ⟨rfl,rfl,rfl,rfl,rfl,rfl,rfl,rfl,rfl,rfl,rfl,rfl,rfl,rfl,trivial⟩ fun σ=>?_
       have H:HL F0 [] w0 w7 [.R a0 d2,.S a0.Symbols (.slice A1 n1 c1),.S a0.Rules (.slice A2 n2 c2),.R x2 [.int .i64 x2],.A b3 (ob3+k1*2) [.string x1.Name,.slice A7 n7 c7],.R x1 [.string x1.Name,.slice A7 n7 c7],.S x1.Attributes (.slice A7 n7 c7)] [d4,d3,.O 3 s4 (.slice A6 n6 c6)]:=H
       refine X ((V) ((V) ((V) ?_)))
       refine bb hm2 fun x3 hx3 hm2=>?_
       obtain⟨b4,cb4,hvb4,hbb4⟩:=po H 2 hx3
       refine (J 1 hvb4 hx3) ?_
       exact q0G (i:=2) (z:=s3) rfl rfl rfl sz3 rfl rfl rfl (fun _=>⟨rfl,rfl,hI1⟩) H rfl hbb4 (by simpa using q4G hx3) fun w8 H=>Z (C1 hm2)
      exact K (C1 hm2)
     refine (qO) ((qO) ((qO) ((qO) ((qO) ((qO) ((qO) ((qO) ((qO) ((qU) ?_)))))))))
     refine QL.nil (fun w9 hE=>?_)
     have H:=H.ext hE
     exact (cF) (K (C1 hm2))
    exact X ((V) ((AN hk2 hl1) ((A) (Z (I1 hb2 ⟨k1+1,q3,()⟩)))))
   obtain rfl:=e
   refine CE (X ((V) ((A) (Z (X ((V) ?_))))))
   refine gg hb1 fun hg3 hb1=>(BN (Bin.add hg3)) ((AZ) ?_)
   have H:=H.swap 1 2
   exact I2 hb1 hs1 ⟨m2,⟨s4,(s3+1)⟩,(.slice A6 n6 c6)⟩
  exact CE (C2 hb1 ht1)
 rintro ρ' w11 ⟨s1,v1,rfl,hag,H⟩
 obtain⟨σ,rfl⟩:=q4H hag
 obtain⟨A8,n8,c8,rfl⟩:=(fo H 1)
 exact R ((V) ((AZ) (W1 hr)))
def z3S (a0:Grammar)(a1:ByteArray):Option Int:=(q9I a0 a1).bind fun y1=>if y1 < 0 then some 0 else (z0z a0).bind fun y2=>grd (0≤y1) <| (y2[y1.toNat]?).bind fun x1=>some x1
theorem j1k {a0}{a1}{r}(hr:z3S a0 a1=some r){ca0}(ha0:rd F0 w0 a0 ca0)(ha1:a1.size≤9223372036854775807):RT 147 #[ag ca0,.string a1] w0 fun v w=>v = .int .i64 r∧I64 r:=by
 have H:=(HL.start F0 w0).argR ha0
 obtain⟨A1,n1,c1,A2,n2,c2,rfl,H⟩:=q2s H 0
 refine (En Tryz.func147) ?_
 refine R ((BX H) fun b1 w1 H=>(A) (Z (R ((LB H 0) ((V) ?_)))))
 refine bb hr fun y1 hy1 hr=>?_
 refine (CA ok71 (z6l hy1 ⟨_,_,rfl,(rs H 1),(rs H 2)⟩ ha1)) (cF' H fun w2 hI1 H=>(A) (Z (Y (R ((V) ((BZ) (iD hr (fun _ hr=>?_) fun _ hr=>?_)))))))
 ·exact R ((AZ) (W1 hr))
 refine K (R ((LB H 0) ?_))
 refine bb hr fun y2 hy2 hr=>?_
 refine (CA k3r (j0c hy2 ⟨_,_,rfl,(rs H 1),(rs H 2)⟩)) ?_
 rintro _ w3 hE ⟨A3,n3,c3,rfl,H'⟩
 have H:=H.callA H' tv
 refine (V) ?_
 refine gg hr fun hg1 hr=>?_
 refine bb hr fun x1 hx1 hr=>?_
 obtain⟨b2,cb2,hvb2,hbb2⟩:=po H 1 hx1
 refine q0b rfl rfl (q0l rfl el94 sz3 rfl hvb2 rfl hg1 (q4G hx1)) ?_
 obtain⟨hA1,hI2,H⟩:=q5p H 1 hx1 hbb2
 exact q0b rfl rfl (q0h rfl ag3 rfl (hA1.cell0 rfl)) ((AZ) (W1 hr))
def q8K (a0:Grammar)(a1:ByteArray):Option Bool:=(z3S a0 a1).bind fun y1=>some (decide (0 < y1))
theorem z7V {a0}{a1}{r}(hr:q8K a0 a1=some r){ca0}(ha0:rd F0 w0 a0 ca0)(ha1:a1.size≤9223372036854775807):RB 111 #[ag ca0,.string a1] w0 r:=by
 have H:=(HL.start F0 w0).argR ha0
 obtain⟨A1,n1,c1,A2,n2,c2,rfl,H⟩:=q2s H 0
 refine (En Tryz.func111) ?_
 refine R ((BX H) fun b1 w1 H=>(A) (Z (R ((LB H 0) ((V) ?_)))))
 refine bb hr fun y1 hy1 hr=>?_
 exact (CA k2T (j1k hy1 ⟨_,_,rfl,(rs H 1),(rs H 2)⟩ ha1)) (cF' H fun w2 hI1 H=>(B) ((AZ) (W1 hr)))
def z3l (a0:Grammar):Nat→Rule→Unit→Option (Unit ⊕ (Int × Int)):=fun k1 x1 _=>(z4E a0 x1).bind fun y3=>if y3=true then some (.inl ()) else some (.inr (7,(k1:Int)))
def q8m (a0:Grammar):Nat→Symbol→Unit→Option (Unit ⊕ (Int × Int)):=fun k2 x2 _=>(q8K a0 x2.Name).bind fun y4=>if y4=true then some (.inl ()) else some (.inr (8,(k2:Int)))
def q8L (a0:Grammar):Option (Int × Int):=(z0w a0).bind fun (y1,y2)=>if y1=0 then (q2u (z3l a0) 0 a0.Rules ()).bind <| onr (fun r1=>some r1) fun _=>(q2u (q8m a0) 0 a0.Symbols ()).bind <| onr (fun r2=>some r2) fun _=>some (0,0) else some (y1,y2)
theorem z7W {a0}{r}(hr:q8L a0=some r){ca0}(ha0:rd F0 w0 a0 ca0):RT 70 #[ag ca0] w0 fun v w=>v = .tuple #[.int .i64 r.1,.int .i64 r.2]∧I64 r.1∧I64 r.2:=by
 have H:=(HL.start F0 w0).argR ha0
 obtain⟨A1,n1,c1,A2,n2,c2,rfl,H⟩:=q2s H 0
 let d2:List Value:=[.slice A1 n1 c1,.slice A2 n2 c2]
 let d1:List Pr:=[.R a0 d2,.S a0.Symbols (.slice A1 n1 c1),.S a0.Rules (.slice A2 n2 c2)]
 refine (En Tryz.func70) ?_
 refine R ((BX H) fun b1 w1 H=>(A) ((A) (Z (R ((LB H 0) ?_)))))
 obtain⟨⟨y1,y2⟩,hy1,hr⟩:=bd hr
 refine (CA k2x (j0a hy1 ⟨_,_,rfl,(rs H 1),(rs H 2)⟩)) ?_
 rintro _ w2 hE ⟨rfl,hI1,hI2⟩
 have H:=H.ext hE
 refine (V) ((EX) ((EX) ((A) ((A) (Z (Y (R ((V) ((BZ) (iN hr (fun _ hr=>?_) fun _ hr=>?_))))))))))
 ·exact R ((V) ((V) ((A) ((AZ) (W1 hr)))))
 refine K (Y (R ((AZ) ?_)))
 refine bb hr fun q1 hq1 hr=>?_
 refine (lF hq1 (fun k1 _ _=>[(1,pB b1),(6,zN k1)]) (fun _ _ w=>HL F0 [] w0 w d1 [.B b1 35 d2]) ()) ?_
 rintro k1 _ _ σ w3 hk1 hq1 H
 refine Y (R ((V) ((D 1) ((L H 0) ((NI H 2) fun hl1=>(BZ) ?_)))))
 refine (iF hq1 hr (fun hk2 x1 z1 hx1 hb1 hs1 ht1=>?_) fun hr=>?_)
 ·refine K (Y ?_)
  refine Bk (Y ?_)
  refine q0d hmix (by kernel_rfl) ?_
  refine (qLB H 0) ((qD 1) ((qL H 0) ((qV) ?_)))
  obtain⟨b2,ob2,cb2,A3,n3,c3,A4,n4,c4,A5,n5,c5,hvb2,hS1,hS2,H⟩:=q6N H 2 hx1
  refine (qJ 6 hvb2 hx1) ((qLA H 3) ?_)
  refine bb hb1 fun y3 hy2 hb1=>?_
  refine (qC k2y (fun _ hq=>j3A hy2 ⟨_,_,rfl,(rs (H.ext hq) 1),(rs (H.ext hq) 2)⟩ ⟨_,_,_,rfl,hS1,hS2,(rs (H.ext hq) 5),(rs (H.ext hq) 6),(rs (H.ext hq) 7)⟩)) ?_
  refine (qN) ?_
  refine QL.nil (fun w4 hE=>?_)
  have H:=H.ext hE
  refine iM hb1 (fun _ hb1=>?_) fun _ hb1=>?_
  ·exact R ((V) ((A) ((AZ) (W2 hb1 ht1 hr))))
  exact K (X ((V) ((AN hk2 hl1) ((A) (Z (I2 hb1 hs1 ⟨k1+1,(),()⟩))))))
 refine CE (Y (R ((AZ) ?_)))
 refine bb hr fun q2 hq2 hr=>?_
 refine (lF hq2 (fun k2 _ _=>[(1,pB b1),(7,zN k2)]) (fun _ _ w=>HL F0 [] w0 w d1 [.B b1 35 d2]) ()) ?_
 rintro k2 _ _ σ w5 hk3 hq2 H
 refine Y (R ((V) ((D 0) ((L H 0) ((NI H 1) fun hl2=>(BZ) ?_)))))
 refine (iF hq2 hr (fun hk4 x2 z2 hx2 hb2 hs2 ht2=>?_) fun hr=>?_)
 ·refine K (Y ?_)
  refine Bk (Y ?_)
  refine q0d hmix (by kernel_rfl) ?_
  refine (qLB H 0) ((qD 0) ((qL H 0) ((qV) ?_)))
  obtain⟨b3,ob3,cb3,A6,n6,c6,hvb3,hS3,H⟩:=q4g H 1 hx2
  refine (qJ 2 hvb3 hx2) ((qD 0) ((qLC H 3) ?_))
  refine bb hb2 fun y4 hy3 hb2=>?_
  refine (qC k2z (fun _ hq=>z7V hy3 ⟨_,_,rfl,(rs (H.ext hq) 1),(rs (H.ext hq) 2)⟩ hS3)) ?_
  refine (qN) ?_
  refine QL.nil (fun w6 hE=>?_)
  have H:=H.ext hE
  refine iM hb2 (fun _ hb2=>?_) fun _ hb2=>?_
  ·exact R ((V) ((A) ((AZ) (W2 hb2 ht2 hr))))
  exact K (X ((V) ((AN hk4 hl2) ((A) (Z (I2 hb2 hs2 ⟨k2+1,(),()⟩))))))
 exact CE (R ((A) ((AZ) (W1 hr))))
def z4F (a0:Grammar):Option Bool:=(q8L a0).bind fun (y1,y2)=>some (decide (y1=0))
theorem j3B {a0}{r}(hr:z4F a0=some r){ca0}(ha0:rd F0 w0 a0 ca0):RB 38 #[ag ca0] w0 r:=by
 have H:=(HL.start F0 w0).argR ha0
 obtain⟨A1,n1,c1,A2,n2,c2,rfl,H⟩:=q2s H 0
 refine (En Tryz.func38) ?_
 refine R ((BX H) fun b1 w1 H=>(A) (Z (R ((LB H 0) ?_))))
 obtain⟨⟨y1,y2⟩,hy1,hr⟩:=bd hr
 refine (CA ok70 (z7W hy1 ⟨_,_,rfl,(rs H 1),(rs H 2)⟩)) ?_
 rintro _ w2 hE ⟨rfl,hI1,hI2⟩
 have H:=H.ext hE
 exact (V) ((EX) ((EX) ((A) ((A) (Z (R ((V) ((B) ((AZ) (W1 hr))))))))))
def z7x:Nat→Attribute→Unit→Option (Unit ⊕ Bool):=fun k2 x2 _=>if x2.Circular=true then some (.inr false) else if x2.Mode=3 then some (.inr false) else some (.inl ())
def z7y:Nat→Symbol→Unit→Option (Unit ⊕ Bool):=fun k1 x1 _=>(q2u z7x 0 x1.Attributes ()).bind <| onr (fun r1=>some (.inr r1)) fun _=>some (.inl ())
def z7z:Nat→Rule→Unit→Option (Unit ⊕ Bool):=fun k3 x3 _=>(z1B x3).bind fun y1=>if y1=true then some (.inr false) else some (.inl ())
def z2R (a0:Grammar):Option Bool:=(q2u z7y 0 a0.Symbols ()).bind <| onr (fun r2=>some r2) fun _=>(q2u z7z 0 a0.Rules ()).bind <| onr (fun r3=>some r3) fun _=>(z4F a0).bind fun y2=>some y2
theorem j2m {a0}{r}(hr:z2R a0=some r){ca0}(ha0:rd F0 w0 a0 ca0):RB 19 #[ag ca0] w0 r:=by
 have H:=(HL.start F0 w0).argR ha0
 obtain⟨A1,n1,c1,A2,n2,c2,rfl,H⟩:=q2s H 0
 let d4:Pr:=.S a0.Rules (.slice A2 n2 c2)
 let d2:Pr:=.S a0.Symbols (.slice A1 n1 c1)
 let d1:List Value:=[.slice A1 n1 c1,.slice A2 n2 c2]
 refine (En Tryz.func19) ?_
 refine R ((BX H) fun b1 w1 H=>(A) (Z (Y (R ((AZ) ?_)))))
 let d7:It:=.B b1 35 d1
 refine bb hr fun q1 hq1 hr=>?_
 refine (lF hq1 (fun k1 _ _=>[(1,pB b1),(3,zN k1)]) (fun _ _ w=>HL F0 [] w0 w [.R a0 d1,d2,d4] [d7]) ()) ?_
 rintro k1 _ _ σ w2 hk1 hq1 H
 refine Y (R ((V) ((D 0) ((L H 0) ((NI H 1) fun hl1=>(BZ) ?_)))))
 refine (iF hq1 hr (fun hk2 x1 z1 hx1 hb1 hs1 ht1=>?_) fun hr=>?_)
 ·refine K (Y ?_)
  refine Bk (R ((AZ) ?_))
  refine bb hb1 fun q2 hq2 hb1=>?_
  refine (lF hq2 (fun k2 _ _=>[(1,pB b1),(3,zN k1),(4,zN k2)]) (fun _ _ w=>HL F0 [] w0 w [.R a0 d1,d2,d4] [d7]) ()) ?_
  rintro k2 _ _ σ w3 hk3 hq2 H
  refine Y (R ((V) ((D 0) ((L H 0) ((V) ?_)))))
  obtain⟨b2,ob2,cb2,A3,n3,c3,hvb2,hS1,H⟩:=q4g H 1 hx1
  let d6:Pr:=.S x1.Attributes (.slice A3 n3 c3)
  let d3:List Value:=[.string x1.Name,.slice A3 n3 c3]
  refine (J 2 hvb2 hx1) ((D 1) ((LC H 3) ((NI H 5) fun hl2=>(BZ) ?_)))
  refine (iF hq2 hb1 (fun hk4 x2 z2 hx2 hb2 hs2 ht2=>?_) fun hb1=>?_)
  ·let d5:=q3Z x2
   refine K (Y ?_)
   refine Bk (R ((D 0) ((L H 0) ((V) ((J 2 hvb2 hx1) ((D 1) ((LC H 3) ((V) ?_))))))))
   obtain⟨b3,ob3,cb3,hvb3,hS2,hI1,hI2,H⟩:=q4w H 5 hx2
   refine (J 4 hvb3 hx2) ((LA H 6) ((AH ze91 H) fun b4 w4 H=>(SB H 1) fun w5 H=>Z (R ((D 3) ((L H 1) (jB hb2 (fun _ hb2=>?_) fun _ hb2=>?_))))))
   ·refine (O) ((O) ((O) ((T) (Z ((cT) (Y ?_))))))
    refine q0a [] trivial fun σ=>?_
    have H:HL F0 [] w0 w5 [.R a0 d1,d2,d4,.A b2 (ob2+k1*2) d3,.R x1 d3,d6,.A b3 (ob3+k2*4) d5,.R x2 d5] [d7,.B b4 91 d5]:=H
    exact X ((AZ) (W3 hb2 ht2 hb1 ht1 hr))
   refine (G) ((D 2) ((G) ((L H 1) ((G) ((B) ((U) (Z (iD hb2 (fun _ hb2=>?_) fun _ hb2=>?_))))))))
   ·refine Y ?_
    refine q0a [] trivial fun σ=>?_
    have H:HL F0 [] w0 w5 [.R a0 d1,d2,d4,.A b2 (ob2+k1*2) d3,.R x1 d3,d6,.A b3 (ob3+k2*4) d5,.R x2 d5] [d7,.B b4 91 d5]:=H
    exact X ((AZ) (W3 hb2 ht2 hb1 ht1 hr))
   refine K ?_
   refine q0a [(1,pB b1),(3,zN k1),(4,zN k2),(37,.pointer (some ⟨b4,0+2,none⟩)),(38,.int .i64 x2.Mode),(39,.bool (decide (x2.Mode=3)))] ⟨rfl,rfl,rfl,rfl,rfl,rfl,trivial⟩ fun σ=>?_
   have H:HL F0 [] w0 w5 [.R a0 d1,d2,d4,.A b2 (ob2+k1*2) d3,.R x1 d3,d6,.A b3 (ob3+k2*4) d5,.R x2 d5] [d7,.B b4 91 d5]:=H
   exact X ((V) ((AN hk4 hl2) ((A) (Z (I2 hb2 hs2 ⟨k2+1,(),()⟩)))))
  exact CE (X ((V) ((AN hk2 hl1) ((A) (Z (I2 hb1 hs1 ⟨k1+1,(),()⟩))))))
 refine CE (Y (R ((AZ) ?_)))
 refine bb hr fun q3 hq3 hr=>?_
 refine (lF hq3 (fun k3 _ _=>[(1,pB b1),(6,zN k3)]) (fun _ _ w=>HL F0 [] w0 w [.R a0 d1,d2,d4] [d7]) ()) ?_
 rintro k3 _ _ σ w6 hk5 hq3 H
 refine Y (R ((V) ((D 1) ((L H 0) ((NI H 2) fun hl3=>(BZ) ?_)))))
 refine (iF hq3 hr (fun hk6 x3 z3 hx3 hb3 hs3 ht3=>?_) fun hr=>?_)
 ·refine K (Y ?_)
  refine Bk (R ((D 1) ((L H 0) ((V) ?_))))
  obtain⟨b5,ob5,cb5,A4,n4,c4,A5,n5,c5,A6,n6,c6,hvb5,hS3,hS4,H⟩:=q6N H 2 hx3
  refine (J 6 hvb5 hx3) ((LA H 3) ?_)
  refine bb hb3 fun y1 hy1 hb3=>?_
  refine (CA ok37 (j1b hy1 ⟨_,_,_,rfl,hS3,hS4,(rs H 5),(rs H 6),(rs H 7)⟩)) (cE H fun w7 H=>Z (iB hb3 (fun _ hb3=>?_) fun _ hb3=>?_))
  ·exact R ((AZ) (W2 hb3 ht3 hr))
  exact K (X ((V) ((AN hk6 hl3) ((A) (Z (I2 hb3 hs3 ⟨k3+1,(),()⟩))))))
 refine CE (R ((LB H 0) ?_))
 refine bb hr fun y2 hy2 hr=>?_
 exact (CA ok38 (j3B hy2 ⟨_,_,rfl,(rs H 1),(rs H 2)⟩)) (cE H fun w8 H=>(AZ) (W1 hr))
def q6i (a0:Grammar)(a1:(List (List Phase)))(a2:ByteArray):Option (List Phase):=(q9I a0 a2).bind fun y1=>(q5q y1 0 ((a1.length:Int) - 1)).bind fun y2=>if y2=true then grd (0≤y1) <| (a1[y1.toNat]?).bind fun x1=>some x1 else some []
theorem z2S {a0}{a1}{a2}{r}(hr:q6i a0 a1 a2=some r){ca0}(ha0:rd F0 w0 a0 ca0){z1}(ha1:rdS F0 w0 a1 z1)(ha2:a2.size≤9223372036854775807):RT 39 #[ag ca0,z1,.string a2] w0 fun v w=>∃ A0 n0 c0,v=(.slice A0 n0 c0)∧HL F0 [] w0 w [.S r (.slice A0 n0 c0)] []:=by
 obtain⟨A1',n1',c1',rfl⟩:=ha1.form3
 have H:=((HL.start F0 w0).argR ha0).argS ha1
 obtain⟨A1,n1,c1,A2,n2,c2,rfl,H⟩:=q2s H 0
 refine (En Tryz.func39) ?_
 refine R ((BX H) fun b1 w1 H=>(A) (Z (R ((LB H 0) ((V) ?_)))))
 refine bb hr fun y1 hy1 hr=>?_
 refine (CA ok71 (z6l hy1 ⟨_,_,rfl,(rs H 2),(rs H 3)⟩ ha2)) (cF' H fun w2 hI1 H=>(A) (Z (Y (R ((V) ((V) ((NI H 1) fun hl1=>(BN (Bin.sub (z5e (k:=1) hl1 (by decide)))) ?_)))))))
 refine bb hr fun y2 hy2 hr=>?_
 refine (CA ok72 (q5j hy2 (F0:=nF) hI1 dI (z5e (k:=1) hl1 (by decide)))) (cE H fun w3 H=>(N) (Z (iM hr (fun _ hr=>?_) fun _ hr=>?_)))
 ·refine R ?_
  refine q0s (α:=Phase) rfl rfl rfl el54 z5P H fun A3 n3 c3 w4 H=>?_
  have H:=H.toG (i:=1) rfl
  refine (AZ) (CR ?_)
  have H:=H.frzG (i:=1) rfl
  obtain rfl:=sm hr
  exact⟨_,res1 rfl rfl rfl,H.ext0,_,_,_,rfl,H.outM (fr':=[.S ([]:List Phase) (.slice A3 n3 c3)]) [false,false] fun _ h=>⟨h.get (i:=4) rfl,trivial⟩⟩
 refine K (R ((V) ((V) ?_)))
 refine gg hr fun hg1 hr=>?_
 refine bb hr fun x1 hx1 hr=>?_
 obtain⟨b2,ob2,cb2,A4,n4,c4,hvb2,H⟩:=z5O H 1 hx1
 refine q0b rfl rfl (q0l rfl el37 sz54 rfl hvb2 rfl hg1 (q4G hx1)) ((L0 H 4) ((AZ) (CR ?_)))
 obtain rfl:=sm hr
 exact⟨_,res1 rfl rfl rfl,H.ext0,_,_,_,rfl,H.outM (fr':=[.S x1 (.slice A4 n4 c4)]) [false] fun _ h=>⟨h.get (i:=6) rfl,trivial⟩⟩
def z7A (a1:Int):Nat→ByteArray→(List Occurrence)→Option (List Occurrence):=fun k1 x1 s1=>( grd (((s1.length:Int)+1)*24≤140737488355328∧(s1.length:Int)+1≤9223372036854775807) <| some (s1++[(⟨a1,x1⟩:Occurrence)]) ).bind fun s2=>some s2
def q9q (a1:Int)(a2:(List ByteArray))(o1:l28Work):Option l28Work:=(q2J (z7A a1) 0 a2 o1.known).bind fun s1=>some (⟨o1.g,o1.r,o1.phases,s1,o1.visits,o1.steps⟩:l28Work)
theorem z3T {a1}{a2}{o1 r}(hr:q9q a1 a2 o1=some r){bo1:Nat}{Aa2:Option Addr}{na2 ca2:Nat}{Ao1_0:Option Addr}{no1_0 co1_0:Nat}{Ao1_1:Option Addr}{no1_1 co1_1:Nat}{Ao1_4:Option Addr}{no1_4 co1_4:Nat}{Ao1_6:Option Addr}{no1_6 co1_6:Nat}{Ao1_7:Option Addr}{no1_7 co1_7:Nat}{Ao1_8:Option Addr}{no1_8 co1_8:Nat}{Ao1_9:Option Addr}{no1_9 co1_9:Nat}{Ao1_10:Option Addr}{no1_10 co1_10:Nat}{Ao1_11:Option Addr}{no1_11 co1_11:Nat}(hIa1:I64 a1)(hIo1_2:o1.r.Name.size≤9223372036854775807)(hIo1_3:o1.r.Left.size≤9223372036854775807)(H:HL F0 M w0 w0 [.S a2 (.slice Aa2 na2 ca2),.S o1.g.Symbols (.slice Ao1_0 no1_0 co1_0),.S o1.g.Rules (.slice Ao1_1 no1_1 co1_1),.S o1.r.Right (.slice Ao1_4 no1_4 co1_4),.S o1.r.Equations (.slice Ao1_6 no1_6 co1_6),.S o1.r.Contributions (.slice Ao1_7 no1_7 co1_7),.S o1.phases (.slice Ao1_8 no1_8 co1_8)] [.O 3 o1.visits (.slice Ao1_10 no1_10 co1_10),.B bo1 97 [.slice Ao1_0 no1_0 co1_0,.slice Ao1_1 no1_1 co1_1,.string o1.r.Name,.string o1.r.Left,.slice Ao1_4 no1_4 co1_4,.bool o1.r.Literal,.slice Ao1_6 no1_6 co1_6,.slice Ao1_7 no1_7 co1_7,.slice Ao1_8 no1_8 co1_8,.slice Ao1_9 no1_9 co1_9,.slice Ao1_10 no1_10 co1_10,.slice Ao1_11 no1_11 co1_11],.O 133 o1.known (.slice Ao1_9 no1_9 co1_9),.O 102 o1.steps (.slice Ao1_11 no1_11 co1_11)]):RM 40 #[pB bo1,.int .i64 a1,.slice Aa2 na2 ca2] M w0 fun v w=>∃ A0 n0 c0 A1 n1 c1,∃ A2 n2 c2,v = .tuple #[]∧r.r.Name.size≤9223372036854775807∧r.r.Left.size≤9223372036854775807∧HL F0 M w0 w [] [.O 3 r.visits (.slice A1 n1 c1),.B bo1 97 [.slice Ao1_0 no1_0 co1_0,.slice Ao1_1 no1_1 co1_1,.string r.r.Name,.string r.r.Left,.slice Ao1_4 no1_4 co1_4,.bool r.r.Literal,.slice Ao1_6 no1_6 co1_6,.slice Ao1_7 no1_7 co1_7,.slice Ao1_8 no1_8 co1_8,(.slice A0 n0 c0),(.slice A1 n1 c1),(.slice A2 n2 c2)],.O 133 r.known (.slice A0 n0 c0),.O 102 r.steps (.slice A2 n2 c2)]:=by
 let d10:Pr:=.S a2 (.slice Aa2 na2 ca2)
 let d9:Pr:=.S o1.phases (.slice Ao1_8 no1_8 co1_8)
 let d8:Pr:=.S o1.r.Right (.slice Ao1_4 no1_4 co1_4)
 let d7:Pr:=.S o1.g.Rules (.slice Ao1_1 no1_1 co1_1)
 let d6:Pr:=.S o1.g.Symbols (.slice Ao1_0 no1_0 co1_0)
 let d5:Pr:=.S o1.r.Equations (.slice Ao1_6 no1_6 co1_6)
 let d4:Pr:=.S o1.r.Contributions (.slice Ao1_7 no1_7 co1_7)
 let d3:It:=.O 3 o1.visits (.slice Ao1_10 no1_10 co1_10)
 let d2:It:=.O 102 o1.steps (.slice Ao1_11 no1_11 co1_11)
 let d1:List Pr:=[d10,d6,d7,d8,d5,d4,d9]
 refine (En Tryz.func40) ?_
 refine R ((AZ) ?_)
 refine bb hr fun q1 hq1 hr=>?_
 refine (lE hq1 (fun k1 s1 v1=>[(0,pB bo1),(1,.int .i64 a1),(2,.slice Aa2 na2 ca2),(6,zN k1)]) (fun s1 v1 w=>HL F0 M w0 w d1 [d3,.B bo1 97 [.slice Ao1_0 no1_0 co1_0,.slice Ao1_1 no1_1 co1_1,.string o1.r.Name,.string o1.r.Left,.slice Ao1_4 no1_4 co1_4,.bool o1.r.Literal,.slice Ao1_6 no1_6 co1_6,.slice Ao1_7 no1_7 co1_7,.slice Ao1_8 no1_8 co1_8,v1,.slice Ao1_10 no1_10 co1_10,.slice Ao1_11 no1_11 co1_11],.O 133 s1 v1,d2]) (.slice Ao1_9 no1_9 co1_9)) ?_
 rintro k1 s1 v1 σ w1 hk1 hq1 H
 obtain⟨A1,n1,c1,rfl⟩:=(fo H 2)
 refine Y (R ((V) ((V) ((NI H 0) fun hl1=>(BZ) ?_))))
 refine (iE hq1 (fun hk2 x1 z1 hx1 hb1 hq1=>?_) fun e=>?_)
 ·refine K ?_
  refine bb hb1 fun q2 hm1 hb1=>Y ?_
  refine CW.block ?_
  refine q0u (fun ρ' w=>∃ (s2:List Occurrence) (v2:Value),s2=q2∧q4R ρ' [(0,pB bo1),(1,.int .i64 a1),(2,.slice Aa2 na2 ca2),(6,zN k1)]∧HL F0 M w0 w d1 [d3,.B bo1 97 [.slice Ao1_0 no1_0 co1_0,.slice Ao1_1 no1_1 co1_1,.string o1.r.Name,.string o1.r.Left,.slice Ao1_4 no1_4 co1_4,.bool o1.r.Literal,.slice Ao1_6 no1_6 co1_6,.slice Ao1_7 no1_7 co1_7,.slice Ao1_8 no1_8 co1_8,v2,.slice Ao1_10 no1_10 co1_10,.slice Ao1_11 no1_11 co1_11],.O 133 s2 v2,d2]) ?_ ?_
  ·obtain⟨b1,ob1,cb1,hvb1,hS1,H⟩:=q7l H 0 hx1
   refine q0y (fun w=>∃ v1_9_:Value,∃ o2_:It,HL F0 M w0 w [d10,d6,d7,d8,d5,d4,d9,.A b1 (ob1+k1*1) [.string x1],.R x1 [.string x1]] [d3,.B bo1 97 [.slice Ao1_0 no1_0 co1_0,.slice Ao1_1 no1_1 co1_1,.string o1.r.Name,.string o1.r.Left,.slice Ao1_4 no1_4 co1_4,.bool o1.r.Literal,.slice Ao1_6 no1_6 co1_6,.slice Ao1_7 no1_7 co1_7,.slice Ao1_8 no1_8 co1_8,v1_9_,.slice Ao1_10 no1_10 co1_10,.slice Ao1_11 no1_11 co1_11],o2_,d2]) hmix (fun w2 hE=>?_)
   have H:HL F0 M w0 w2 [d10,d6,d7,d8,d5,d4,d9,.A b1 (ob1+k1*1) [.string x1],.R x1 [.string x1]] [d3,.B bo1 97 [.slice Ao1_0 no1_0 co1_0,.slice Ao1_1 no1_1 co1_1,.string o1.r.Name,.string o1.r.Left,.slice Ao1_4 no1_4 co1_4,.bool o1.r.Literal,.slice Ao1_6 no1_6 co1_6,.slice Ao1_7 no1_7 co1_7,.slice Ao1_8 no1_8 co1_8,.slice A1 n1 c1,.slice Ao1_10 no1_10 co1_10,.slice Ao1_11 no1_11 co1_11],.O 133 s1 (.slice A1 n1 c1),d2]:=H.ext hE
   refine HW.take 0 ⟨_,_,H.keep 9 4⟩ rfl (by kernel_rfl) rfl rfl (fun _ _=>q0j rfl rfl) ?_
   refine HW.take 1 ⟨_,_,H.keep 9 4⟩ rfl (by kernel_rfl) rfl rfl (fun _ _=>q0j rfl rfl) ?_
   refine HW.take 2 ⟨_,_,H.keep 9 4⟩ rfl (by kernel_rfl) rfl rfl (fun _ _=>q0o rfl rfl) ?_
   refine HW.take 3 ⟨_,_,H.keep 9 4⟩ rfl (by kernel_rfl) rfl rfl (fun _ _=>q0m rfl z8B rfl) ?_
   refine HW.take 5 ⟨_,_,H.keep 9 4⟩ rfl (by kernel_rfl) rfl rfl (fun _ _=>q0j rfl rfl) ?_
   refine HW.take 6 ⟨_,_,H.keep 9 4⟩ rfl (by kernel_rfl) rfl rfl (fun _ _=>q0j rfl rfl) ?_
   refine HW.take 7 ⟨_,_,H.keep 9 4⟩ rfl (by kernel_rfl) rfl rfl (fun _ _=>q0j rfl rfl) ?_
   refine HW.take 8 ⟨_,_,H.keep 9 4⟩ rfl (by kernel_rfl) rfl rfl (fun _ _=>q0V rfl el58 sz9 rfl hvb1 rfl (q4G hx1)) ?_
   refine HW.take 9 ⟨_,_,H.keep 9 4⟩ rfl (by kernel_rfl) rfl rfl (fun _ ⟨_,_,hq⟩=>q0h rfl ag9 rfl ((hq.rA (i:=7) rfl).cell0 rfl)) ?_
   refine HW.take 10 ⟨_,_,H.keep 9 4⟩ rfl (by kernel_rfl) rfl rfl (fun _ _=>Ev.build rfl z7M q5v rfl rfl rfl rfl) ?_
   refine q1b [4,11] (by kernel_rfl) rfl ⟨q0M rfl ?_,q0M rfl ?_,trivial⟩
   ·refine (L H 1) ?_
    refine HW.next ⟨_,_,H.keep 9 4⟩ ?_
    refine q0f 11 rfl (by kernel_rfl) ?_
    refine q0p rfl rfl rfl el95 q3n q5v rfl rfl rfl rfl rfl rfl fun b2 w3 hE hb hB=>?_
    have H:=H.newB hE hb hB
    refine HW.next ⟨_,_,H.keep 9 4⟩ ?_
    refine q0f 12 rfl (by kernel_rfl) ?_
    refine gg hm1 fun hg1 hm1=>?_
    refine q0t (i:=2) (ys:=[(⟨a1,x1⟩:Occurrence)]) rfl rfl rfl el95 q3n z3v q5v rfl rfl rfl H rfl (fun _=>ownL.single ⟨rfl,hIa1,hS1,rfl⟩) (.inr ⟨_,_,rfl,At.blk (rb H 4)⟩) hg1 fun A2 n2 c2 w4 H=>?_
    refine HW.next ⟨_,_,H.keep 9 4⟩ ?_
    refine HW.take 13 ⟨_,_,H.keep 9 4⟩ rfl (by kernel_rfl) rfl rfl (fun _ _=>q0o rfl rfl) ?_
    refine HW.take 14 ⟨_,_,H.keep 9 4⟩ rfl (by kernel_rfl) rfl rfl (fun _ _=>q0m rfl z8B rfl) ?_
    refine q0f 15 rfl (by kernel_rfl) ((SB H 1) fun w5 H=>?_)
    refine HW.next ⟨_,_,H.keep 9 4⟩ ?_
    exact q0r (by kernel_rfl) (C1 hm1)
   refine gg hm1 fun hg1 hm1=>?_
   refine q0p rfl rfl rfl el95 q3n q5v rfl rfl rfl rfl rfl rfl fun b2 w3 hE hb hB=>?_
   have H:=H.newB hE hb hB
   refine HW.next ⟨_,_,H.keep 9 4⟩ ?_
   refine q0f 4 rfl (by kernel_rfl) ((L H 1) ?_)
   refine HW.next ⟨_,_,H.keep 9 4⟩ ?_
   refine q0f 12 rfl (by kernel_rfl) ?_
   refine q0t (i:=2) (ys:=[(⟨a1,x1⟩:Occurrence)]) rfl rfl rfl el95 q3n z3v q5v rfl rfl rfl H rfl (fun _=>ownL.single ⟨rfl,hIa1,hS1,rfl⟩) (.inr ⟨_,_,rfl,At.blk (rb H 4)⟩) hg1 fun A2 n2 c2 w4 H=>?_
   refine HW.next ⟨_,_,H.keep 9 4⟩ ?_
   refine HW.take 13 ⟨_,_,H.keep 9 4⟩ rfl (by kernel_rfl) rfl rfl (fun _ _=>q0o rfl rfl) ?_
   refine HW.take 14 ⟨_,_,H.keep 9 4⟩ rfl (by kernel_rfl) rfl rfl (fun _ _=>q0m rfl z8B rfl) ?_
   refine q0f 15 rfl (by kernel_rfl) ((SB H 1) fun w5 H=>?_)
   refine HW.next ⟨_,_,H.keep 9 4⟩ ?_
   exact q0r (by kernel_rfl) (C1 hm1)
  rintro ρ' w6 ⟨s2,v2,rfl,hag,H⟩
  obtain⟨σ,rfl⟩:=q4H hag
  obtain⟨A3,n3,c3,rfl⟩:=(fo H 2)
  exact X ((V) ((AN hk2 hl1) ((A) (Z (I1 hb1 ⟨k1+1,s2,(.slice A3 n3 c3)⟩)))))
 obtain rfl:=e
 refine CE ?_
 obtain rfl:=sm hr
 exact⟨_,res0 rfl,H.chg,_,_,_,_,_,_,_,_,_,rfl,hIo1_2,hIo1_3,H.outM (fr':=[]) [true,true,true,true] tw⟩
def z6m (a0:l28Work):Nat→Occurrence→Unit→Option (Unit ⊕ Bool):=fun k1 x1 _=>(q4y a0.known x1).bind fun y4=>if y4=true then some (.inl ()) else some (.inr false)
def z0b (a0:l28Work)(a1:Occurrence):Option Bool:=(q5a a0.r a1).bind fun (y1,y2)=>(q7a y1).bind fun y3=>(q2u (z6m a0) 0 y3 ()).bind <| onr (fun r1=>some r1) fun _=>some y2
theorem j1l {a0}{a1}{r}(hr:z0b a0 a1=some r){b0p:Nat}(ha0:CapP F0 w0 b0p a0){ca1}(ha1:rd F0 w0 a1 ca1):RB 75 #[pB b0p,ag ca1] w0 r:=by
 have H:=(HL.start F0 w0).argR ha1
 obtain⟨rfl,hI1,hS1,H⟩:=q2z H 0
 obtain⟨cpa0,H⟩:=H.argP ha0
 obtain⟨A1,n1,c1,A2,n2,c2,A3,n3,c3,A4,n4,c4,A5,n5,c5,A6,n6,c6,A7,n7,c7,A8,n8,c8,A9,n9,c9,rfl,hS2,hS3,H⟩:=z6N H 2
 let d2:List Value:=[.slice A1 n1 c1,.slice A2 n2 c2,.string a0.r.Name,.string a0.r.Left,.slice A3 n3 c3,.bool a0.r.Literal,.slice A4 n4 c4,.slice A5 n5 c5,.slice A6 n6 c6,.slice A7 n7 c7,.slice A8 n8 c8,.slice A9 n9 c9]
 refine (En Tryz.func75) ?_
 refine R ((BX H) fun b1 w1 H=>(AZ) ?_)
 obtain⟨⟨y1,y2⟩,hy1,hr⟩:=bd hr
 obtain⟨F_G1,hFl_G1,hF_G1,hcl_G1⟩:=H.callL
 refine Y ?_
 refine q0E 11 (fun ρ=>[.fix (pB b0p),.fix (pB b0p),.fix (.pointer (some ⟨b0p,0+2,none⟩)),.fix (.agg #[.string a0.r.Name,.string a0.r.Left,.slice A3 n3 c3,.bool a0.r.Literal,.slice A4 n4 c4,.slice A5 n5 c5]),.fix (.agg #[.int .i64 a1.Pos,.string a1.Name]),.free (fun S v w=>∃ A10:Option Addr,∃ n10:Nat,∃ c10:Nat,v = .tuple #[.agg #[.int .i64 y1.Kind,.int .i64 y1.N,.int .i64 y1.Pos,.int .i64 y1.Type_,.string y1.Symbol,.string y1.Name,.slice A10 n10 c10],.bool y2]∧I64 y1.Kind∧I64 y1.N∧I64 y1.Pos∧I64 y1.Type_∧y1.Symbol.size≤9223372036854775807∧y1.Name.size≤9223372036854775807∧NewV F_G1 w1 S w [] [.G 136 y1.Args (.slice A10 n10 c10)]),.dep 15 id,.dep 9 (z1P 0),.dep 9 (z1P 1),.free (VarB 136 7),.wr 5 16 (WrB 136)]) [[],[],[],[],[],[],[15],[9],[9],[],[5,16]] NoM (fun _ _=>True) [] [none,none,none,none,none,none,none,none,none,none,some 9] (noM _) hmix (by kernel_rfl) rfl ⟨trivial,trivial,trivial,trivial,trivial,fun _ _ _ _ _ ⟨A10,n10,c10,hv,h0,h1,h2,h3,h4,h5,hh⟩ hc hS hT=>⟨A10,n10,c10,hv,h0,h1,h2,h3,h4,h5,hh.chgT hc hS hT hFl_G1⟩,trivial,trivial,trivial,fun _ _ _ _ _ h hc hS _=>h.chgT hc hS,fun _ _ _ _ _ _ h hc hS _=>h.chgT hc hS,trivial⟩ trivial (fun _ _ _ _ _ _ _=>trivial) ?_
 refine q0g rfl rfl rfl rfl rfl (fun _ hq hK=>q0j rfl rfl) ?_
 refine q0g rfl rfl rfl rfl rfl (fun _ hq hK=>q0o rfl rfl) ?_
 refine q0g rfl rfl rfl rfl rfl (fun _ hq hK=>q0m rfl j6f rfl) ?_
 refine q0g rfl rfl rfl rfl rfl (fun _ hq hK=>q0c rfl ag62 sz62 rfl (((H.ext hq).rA (i:=1) rfl).part 2 6) rfl) ?_
 refine q0g rfl rfl rfl rfl rfl (fun _ hq hK=>q0c rfl z0l q3n rfl (At.blk ((H.ext hq).rB (i:=0) rfl)) rfl) ?_
 refine LL2.free rfl rfl rfl rfl (fun wq hq hK=>?_) (fun v_G1_5 S_G1_5=>?_)
 ·have hF:=hF_G1.ext hq
  refine OpX.call rfl rfl rfl rfl k1p rfl (z3k hy1 ⟨_,_,_,rfl,hS2,hS3,(hF.get (i:=5) rfl),(hF.get (i:=6) rfl),(hF.get (i:=7) rfl)⟩ ⟨rfl,hI1,hS1⟩) ?_
  rintro _ w hE ⟨A10,n10,c10,rfl,h0,h1,h2,h3,h4,h5,hh⟩
  exact⟨hE,A10,n10,c10,rfl,h0,h1,h2,h3,h4,h5,NewV.of hFl_G1 hq hh⟩
 refine q0T rfl rfl rfl rfl rfl (.inl rfl) rfl ?_
 refine q0z rfl rfl rfl rfl rfl rfl rfl (fun wq hq hK=>?_) ?_
 ·have hK:∀ j' (_:(q2v _).contains j'=true),_:=hK 6 rfl
  obtain⟨A10,n10,c10,rfl,_,_,_,_,_,_,_⟩:=hK 5 rfl
  exact⟨_,_,rfl,rfl⟩
 refine q0z rfl rfl rfl rfl rfl rfl rfl (fun wq hq hK=>?_) ?_
 ·have hK:∀ j' (_:(q2v _).contains j'=true),_:=hK 6 rfl
  obtain⟨A10,n10,c10,rfl,_,_,_,_,_,_,_⟩:=hK 5 rfl
  exact⟨_,_,rfl,rfl⟩
 refine LL2.free rfl rfl rfl rfl (fun wq hq hK=>q0x rfl rfl q9V rfl) (fun v_G1_9 S_G1_9=>?_)
 refine LL2.st (k:=7) rfl rfl rfl (by decide) rfl rfl rfl rfl q5u rfl rfl (fun wq hq hK=>hK 9 rfl) (fun wq hq hK=>?_) ?_
 ·obtain⟨A10,n10,c10,rfl,_,_,_,_,_,_,_⟩:=hK 5 rfl
  exact⟨_,rfl,rfl,(all1 rfl (all1 rfl (all1 rfl (all1 rfl (all1 rfl (all1 rfl (all1 rfl all0)))))))⟩
 intro w2 hE _ hK hap hbd
 have hE:=z0q hE
 obtain⟨A10,n10,c10,rfl,hI2,hI3,hI4,hI5,hS4,hS5,hN1⟩:=hK 5 (by decide)
 obtain⟨b2,rfl,hN2⟩:=j0L (cells:=(q2D y1 A10 n10 c10)) (hK 9 (by decide)) (hK 10 (by decide)) rfl
 let d3:List It:=[.B b1 133 [.int .i64 a1.Pos,.string a1.Name],It.emp,.B b2 136 (q2D y1 A10 n10 c10)]
 have H:=hcl_G1 (q0X (hN1.app (hN2.V tv) fun q h1 h2=>absurd (hap 5 9 q h1 h2) (by decide)) hE fun q hq=>hq.elim (fun h=>(hbd 5 q h).1) fun h=>(hbd 9 q h).1)
 refine (A) (Z (R ((LB H 2) ?_)))
 have H:=H.frzG (i:=1) rfl
 refine bb hr fun y3 hy2 hr=>?_
 obtain⟨F,hF,hcl⟩:=H.call
 refine (CA k1q (z2o hy2 (q2r.2 ⟨_,rfl,hI2,hI3,hI4,hI5,hS4,hS5,(hF.get (i:=12) rfl)⟩))) ?_
 rintro _ w3 hE ⟨A11,n11,c11,rfl,H'⟩
 let d1:List Pr:=[.R a1 [.int .i64 a1.Pos,.string a1.Name],.A b0p 0 d2,.R a0 d2,.S a0.g.Symbols (.slice A1 n1 c1),.S a0.g.Rules (.slice A2 n2 c2),.S a0.r.Right (.slice A3 n3 c3),.S a0.r.Equations (.slice A4 n4 c4),.S a0.r.Contributions (.slice A5 n5 c5),.S a0.phases (.slice A6 n6 c6),.S a0.known (.slice A7 n7 c7),.S a0.visits (.slice A8 n8 c8),.S a0.steps (.slice A9 n9 c9),.S y1.Args (.slice A10 n10 c10),.S y3 (.slice A11 n11 c11)]
 have H:HL F0 [] w0 w3 d1 d3:=hcl H'
 refine (A) (Z (Y (R ((AZ) ?_))))
 refine bb hr fun q1 hq1 hr=>?_
 refine (lF hq1 (fun k1 _ _=>[(0,pB b0p),(6,.bool y2),(7,.slice A11 n11 c11),(8,zN k1)]) (fun _ _ w=>HL F0 [] w0 w d1 d3) ()) ?_
 rintro k1 _ _ σ w4 hk1 hq1 H
 refine Y (R ((V) ((V) ((NI H 13) fun hl1=>(BZ) ?_))))
 refine (iF hq1 hr (fun hk2 x1 z1 hx1 hb1 hs1 ht1=>?_) fun hr=>?_)
 ·refine K (Y ?_)
  refine Bk (Y ?_)
  refine q0d hmix (by kernel_rfl) ?_
  refine (qV) ((qNC) ((qD 9) ((qLC H 1) ((qV) ((qV) ?_)))))
  obtain⟨b3,ob3,cb3,hvb3,hI6,hS6,H⟩:=q5E H 13 hx1
  refine (qJ 2 hvb3 hx1) ((qLA H 14) ?_)
  refine bb hb1 fun y4 hy3 hb1=>?_
  refine (qC ok73 (fun _ hq=>q7F hy3 (rs (H.ext hq) 9) ⟨rfl,hI6,hS6⟩)) ?_
  refine (qN) ?_
  refine QL.nil (fun w5 hE=>?_)
  have H:=H.ext hE
  refine iM hb1 (fun _ hb1=>?_) fun _ hb1=>?_
  ·exact R ((AZ) (W2 hb1 ht1 hr))
  exact K (X ((V) ((AN hk2 hl1) ((A) (Z (I2 hb1 hs1 ⟨k1+1,(),()⟩))))))
 exact CE (R ((V) ((AZ) (W1 hr))))
def z4G (a1:Step)(o1:l28Work):Option (Bool × l28Work):=( if a1.Visit=0 then (q2y o1.g o1.r).bind fun y1=>(q4y y1 (⟨a1.Pos,a1.Name⟩:Occurrence)).bind fun y2=>if y2=true then (q4y o1.known (⟨a1.Pos,a1.Name⟩:Occurrence)).bind fun y3=>if y3=true then some true else (z0b o1 (⟨a1.Pos,a1.Name⟩:Occurrence)).bind fun y4=>some (!y4) else some true else some true ).bind fun s1=>if s1=true then some (false,o1) else ( grd (((o1.known.length:Int)+1)*24≤140737488355328∧(o1.known.length:Int)+1≤9223372036854775807) <| some (o1.known++[(⟨a1.Pos,a1.Name⟩:Occurrence)]) ).bind fun s2=>some (true,(⟨o1.g,o1.r,o1.phases,s2,o1.visits,o1.steps⟩:l28Work))
theorem j3C {a1}{o1}{r}(hr:z4G a1 o1=some r){bo1:Nat}{Ao1_0:Option Addr}{no1_0 co1_0:Nat}{Ao1_1:Option Addr}{no1_1 co1_1:Nat}{Ao1_4:Option Addr}{no1_4 co1_4:Nat}{Ao1_6:Option Addr}{no1_6 co1_6:Nat}{Ao1_7:Option Addr}{no1_7 co1_7:Nat}{Ao1_8:Option Addr}{no1_8 co1_8:Nat}{Ao1_9:Option Addr}{no1_9 co1_9:Nat}{Ao1_10:Option Addr}{no1_10 co1_10:Nat}{Ao1_11:Option Addr}{no1_11 co1_11:Nat}(hIa1_0:I64 a1.Kind)(hIa1_1:I64 a1.Pos)(hIa1_2:I64 a1.Visit)(hIa1_3:a1.Name.size≤9223372036854775807)(hIo1_2:o1.r.Name.size≤9223372036854775807)(hIo1_3:o1.r.Left.size≤9223372036854775807)(H:HL F0 M w0 w0 [.S o1.g.Symbols (.slice Ao1_0 no1_0 co1_0),.S o1.g.Rules (.slice Ao1_1 no1_1 co1_1),.S o1.r.Right (.slice Ao1_4 no1_4 co1_4),.S o1.r.Equations (.slice Ao1_6 no1_6 co1_6),.S o1.r.Contributions (.slice Ao1_7 no1_7 co1_7),.S o1.phases (.slice Ao1_8 no1_8 co1_8)] [.O 3 o1.visits (.slice Ao1_10 no1_10 co1_10),.B bo1 97 [.slice Ao1_0 no1_0 co1_0,.slice Ao1_1 no1_1 co1_1,.string o1.r.Name,.string o1.r.Left,.slice Ao1_4 no1_4 co1_4,.bool o1.r.Literal,.slice Ao1_6 no1_6 co1_6,.slice Ao1_7 no1_7 co1_7,.slice Ao1_8 no1_8 co1_8,.slice Ao1_9 no1_9 co1_9,.slice Ao1_10 no1_10 co1_10,.slice Ao1_11 no1_11 co1_11],.O 133 o1.known (.slice Ao1_9 no1_9 co1_9),.O 102 o1.steps (.slice Ao1_11 no1_11 co1_11)]):RM 41 #[pB bo1,.agg #[.int .i64 a1.Kind,.int .i64 a1.Pos,.int .i64 a1.Visit,.string a1.Name]] M w0 fun v w=>∃ A0 n0 c0 A1 n1 c1,∃ A2 n2 c2,v = .bool r.1∧r.2.r.Name.size≤9223372036854775807∧r.2.r.Left.size≤9223372036854775807∧HL F0 M w0 w [] [.O 3 r.2.visits (.slice A1 n1 c1),.B bo1 97 [.slice Ao1_0 no1_0 co1_0,.slice Ao1_1 no1_1 co1_1,.string r.2.r.Name,.string r.2.r.Left,.slice Ao1_4 no1_4 co1_4,.bool r.2.r.Literal,.slice Ao1_6 no1_6 co1_6,.slice Ao1_7 no1_7 co1_7,.slice Ao1_8 no1_8 co1_8,(.slice A0 n0 c0),(.slice A1 n1 c1),(.slice A2 n2 c2)],.O 133 r.2.known (.slice A0 n0 c0),.O 102 r.2.steps (.slice A2 n2 c2)]:=by
 let d5:It:=.O 3 o1.visits (.slice Ao1_10 no1_10 co1_10)
 let d3:It:=.O 102 o1.steps (.slice Ao1_11 no1_11 co1_11)
 let d2:List Pr:=[.S o1.g.Symbols (.slice Ao1_0 no1_0 co1_0),.S o1.g.Rules (.slice Ao1_1 no1_1 co1_1),.S o1.r.Right (.slice Ao1_4 no1_4 co1_4),.S o1.r.Equations (.slice Ao1_6 no1_6 co1_6),.S o1.r.Contributions (.slice Ao1_7 no1_7 co1_7),.S o1.phases (.slice Ao1_8 no1_8 co1_8)]
 refine (En Tryz.func41) ?_
 refine R ((BX H) fun b1 w1 H=>(A) (Z (R ((D 1) ((L H 4) ((D 3) ((L H 4) ?_)))))))
 refine q0b rfl rfl (Ev.build rfl z7M q5v rfl rfl rfl rfl) ((AH q5v H) fun b2 w2 H=>(SB H 5) fun w3 H=>Z ?_)
 let d4:It:=.B b2 133 [.int .i64 a1.Pos,.string a1.Name]
 let d1:List It:=[d5,.B bo1 97 [.slice Ao1_0 no1_0 co1_0,.slice Ao1_1 no1_1 co1_1,.string o1.r.Name,.string o1.r.Left,.slice Ao1_4 no1_4 co1_4,.bool o1.r.Literal,.slice Ao1_6 no1_6 co1_6,.slice Ao1_7 no1_7 co1_7,.slice Ao1_8 no1_8 co1_8,.slice Ao1_9 no1_9 co1_9,.slice Ao1_10 no1_10 co1_10,.slice Ao1_11 no1_11 co1_11],.O 133 o1.known (.slice Ao1_9 no1_9 co1_9),d3,.B b1 102 (q5i a1),d4]
 refine bb hr fun q1 hm1 hr=>Y (Y ?_)
 refine q0u (fun ρ' w=>∃ (s1:Bool),s1=q1∧q4R ρ' [(0,pB bo1),(5,pB b2),(41,.bool s1)]∧HL F0 M w0 w d2 d1) ?_ ?_
 ·by_cases h1:a1.Visit=0
  ·have hm1:=ifp h1 hm1
   refine q0y (fun w=>HL F0 M w0 w d2 d1) hmix (fun w4 hE=>?_)
   have H:HL F0 M w0 w4 d2 d1:=H.ext hE
   refine HW.take 0 (H.keep 6 6) rfl (by kernel_rfl) rfl rfl (fun _ _=>q0m rfl j6g rfl) ?_
   refine HW.take 1 (H.keep 6 6) rfl (by kernel_rfl) rfl rfl (fun _ hq=>q0h rfl ag3 rfl ((hq.rB (i:=4) rfl).cell rfl)) ?_
   refine HW.take 2 (H.keep 6 6) rfl (by kernel_rfl) rfl rfl (fun _ _=>q0J rfl rfl rfl q0U) ?_
   refine HW.take 3 (H.keep 6 6) rfl (by kernel_rfl) rfl rfl (fun _ _=>q0j rfl (congrArg (fun b=>Value.bool (!b)) (decide_eq_true h1))) ?_
   refine q0n 4 (H.keep 6 6) rfl (by kernel_rfl) rfl rfl (fun _ _=>q0j rfl rfl) ?_
   refine q0n 5 (H.keep 6 6) rfl (by kernel_rfl) rfl rfl (fun _ _=>q0o rfl rfl) ?_
   refine q0n 6 (H.keep 6 6) rfl (by kernel_rfl) rfl rfl (fun _ _=>q0m rfl j9F rfl) ?_
   refine q0n 7 (H.keep 6 6) rfl (by kernel_rfl) rfl rfl (fun _ hq=>q0c rfl ag35 sz35 rfl (Blk.part (hq.rB (i:=1) rfl) 0 2) rfl) ?_
   refine q0n 8 (H.keep 6 6) rfl (by kernel_rfl) rfl rfl (fun _ _=>q0j rfl rfl) ?_
   refine q0n 9 (H.keep 6 6) rfl (by kernel_rfl) rfl rfl (fun _ _=>q0o rfl rfl) ?_
   refine q0n 10 (H.keep 6 6) rfl (by kernel_rfl) rfl rfl (fun _ _=>q0m rfl j6f rfl) ?_
   refine q0n 11 (H.keep 6 6) rfl (by kernel_rfl) rfl rfl (fun _ hq=>q0c rfl ag62 sz62 rfl (Blk.part (hq.rB (i:=1) rfl) 2 6) rfl) ?_
   refine q0n 13 (H.keep 6 6) rfl (by kernel_rfl) rfl rfl (fun _ hq=>q0c rfl z0l q3n rfl (At.blk (hq.rB (i:=5) rfl)) rfl) ?_
   refine q0f 12 rfl (by kernel_rfl) ((G) ?_)
   refine bb hm1 fun y1 hy1 hm1=>?_
   refine (CA ok74 (q5B hy1 ⟨_,_,rfl,(rs H 0),(rs H 1)⟩ ⟨_,_,_,rfl,hIo1_2,hIo1_3,(rs H 2),(rs H 3),(rs H 4)⟩)) ?_
   rintro _ w5 hE ⟨A1,n1,c1,rfl,H'⟩
   have H:=H.callA H' tv
   refine HW.next (H.keep 6 6) ?_
   refine q0f 14 rfl (by kernel_rfl) ((G) ?_)
   refine bb hm1 fun y2 hy2 hm1=>?_
   refine (CA ok73 (q7F hy2 (ro H 6) ⟨rfl,hIa1_1,hIa1_3⟩)) (cE H fun w6 H=>?_)
   refine HW.next (H.keep 6 6) ?_
   refine q0n 15 (H.keep 6 6) rfl (by kernel_rfl) rfl rfl (fun _ _=>q1n rfl rfl) ?_
   refine HW.take 16 (H.keep 6 6) rfl (by kernel_rfl) rfl rfl (fun _ _=>q0P rfl rfl rfl) ?_
   by_cases h2:y2=true
   ·have hm1:=ifp h2 hm1
    refine HW.take 17 (H.keep 6 6) rfl (by kernel_rfl) rfl rfl (fun _ _=>q0j rfl (congrArg (fun b=>Value.bool (!b)) (h2))) ?_
    refine q0n 18 (H.keep 6 6) rfl (by kernel_rfl) rfl rfl (fun _ _=>q0j rfl rfl) ?_
    refine q0n 19 (H.keep 6 6) rfl (by kernel_rfl) rfl rfl (fun _ _=>q0o rfl rfl) ?_
    refine q0n 20 (H.keep 6 6) rfl (by kernel_rfl) rfl rfl (fun _ _=>q0m rfl z8B rfl) ?_
    refine q0n 21 (H.keep 6 6) rfl (by kernel_rfl) rfl rfl (fun _ hq=>q0h rfl ag95 rfl ((hq.rB (i:=1) rfl).cell rfl)) ?_
    refine q0n 22 (H.keep 6 6) rfl (by kernel_rfl) rfl rfl (fun _ hq=>q0c rfl z0l q3n rfl (At.blk (hq.rB (i:=5) rfl)) rfl) ?_
    refine q0f 23 rfl (by kernel_rfl) ((G) ?_)
    refine bb hm1 fun y3 hy3 hm1=>?_
    refine (CA ok73 (q7F hy3 (ro H 2) ⟨rfl,hIa1_1,hIa1_3⟩)) (cE H fun w7 H=>?_)
    refine HW.next (H.keep 6 6) ?_
    refine HW.take 24 (H.keep 6 6) rfl (by kernel_rfl) rfl rfl (fun _ _=>q0P rfl rfl rfl) ?_
    by_cases h3:y3=true
    ·have hm1:=ifp h3 hm1
     refine HW.take 25 (H.keep 6 6) rfl (by kernel_rfl) rfl rfl (fun _ _=>q0j rfl (congrArg (fun b=>Value.bool (b)) (h3))) ?_
     refine q0k 26 (H.keep 6 6) rfl (by kernel_rfl) rfl rfl ?_
     refine q0k 27 (H.keep 6 6) rfl (by kernel_rfl) rfl rfl ?_
     refine q0k 28 (H.keep 6 6) rfl (by kernel_rfl) rfl rfl ?_
     refine q0k 29 (H.keep 6 6) rfl (by kernel_rfl) rfl rfl ?_
     refine HW.take 30 (H.keep 6 6) rfl (by kernel_rfl) rfl rfl (fun _ _=>q0C rfl rfl rfl) ?_
     exact q0r (by kernel_rfl) (C1 hm1)
    have hm1:=ifn h3 hm1
    refine HW.take 25 (H.keep 6 6) rfl (by kernel_rfl) rfl rfl (fun _ _=>q0j rfl (congrArg (fun b=>Value.bool (b)) (eq_false_of_ne_true h3))) ?_
    refine q0n 26 (H.keep 6 6) rfl (by kernel_rfl) rfl rfl (fun _ _=>q0j rfl rfl) ?_
    refine q0n 27 (H.keep 6 6) rfl (by kernel_rfl) rfl rfl (fun _ hq=>q0c rfl z0l q3n rfl (At.blk (hq.rB (i:=5) rfl)) rfl) ?_
    refine q0f 28 rfl (by kernel_rfl) ((G) ?_)
    refine bb hm1 fun y4 hy4 hm1=>?_
    refine (CA ok75 (j1l hy4 (F0:=fun q=>q < _) ⟨(rb H 1).lt,_,At.blk (rb H 1),⟨_,_,_,_,_,_,_,_,_,rfl,hIo1_2,hIo1_3,(rs H 0),(rs H 1),(rs H 2),(rs H 3),(rs H 4),(rs H 5),(ro H 2),(ro H 0),(ro H 3)⟩⟩ ⟨rfl,hIa1_1,hIa1_3⟩)) (cE H fun w8 H=>?_)
    refine HW.next (H.keep 6 6) ?_
    refine q0n 29 (H.keep 6 6) rfl (by kernel_rfl) rfl rfl (fun _ _=>q1n rfl rfl) ?_
    refine HW.take 30 (H.keep 6 6) rfl (by kernel_rfl) rfl rfl (fun _ _=>q0P rfl rfl rfl) ?_
    exact q0r (by kernel_rfl) (C1 hm1)
   have hm1:=ifn h2 hm1
   refine HW.take 17 (H.keep 6 6) rfl (by kernel_rfl) rfl rfl (fun _ _=>q0j rfl (congrArg (fun b=>Value.bool (!b)) (eq_false_of_ne_true h2))) ?_
   refine q0k 18 (H.keep 6 6) rfl (by kernel_rfl) rfl rfl ?_
   refine q0k 19 (H.keep 6 6) rfl (by kernel_rfl) rfl rfl ?_
   refine q0k 20 (H.keep 6 6) rfl (by kernel_rfl) rfl rfl ?_
   refine q0k 21 (H.keep 6 6) rfl (by kernel_rfl) rfl rfl ?_
   refine q0k 22 (H.keep 6 6) rfl (by kernel_rfl) rfl rfl ?_
   refine q0k 23 (H.keep 6 6) rfl (by kernel_rfl) rfl rfl ?_
   refine HW.take 24 (H.keep 6 6) rfl (by kernel_rfl) rfl rfl (fun _ _=>q0C rfl rfl rfl) ?_
   refine HW.take 25 (H.keep 6 6) rfl (by kernel_rfl) rfl rfl (fun _ _=>q0j rfl rfl) ?_
   refine q0k 26 (H.keep 6 6) rfl (by kernel_rfl) rfl rfl ?_
   refine q0k 27 (H.keep 6 6) rfl (by kernel_rfl) rfl rfl ?_
   refine q0k 28 (H.keep 6 6) rfl (by kernel_rfl) rfl rfl ?_
   refine q0k 29 (H.keep 6 6) rfl (by kernel_rfl) rfl rfl ?_
   refine HW.take 30 (H.keep 6 6) rfl (by kernel_rfl) rfl rfl (fun _ _=>q0C rfl rfl rfl) ?_
   exact q0r (by kernel_rfl) (C1 hm1)
  have hm1:=ifn h1 hm1
  refine q0y (fun w=>HL F0 M w0 w d2 d1) hmix (fun w9 hE=>?_)
  have H:HL F0 M w0 w9 d2 d1:=H.ext hE
  refine HW.take 0 (H.keep 6 6) rfl (by kernel_rfl) rfl rfl (fun _ _=>q0m rfl j6g rfl) ?_
  refine HW.take 1 (H.keep 6 6) rfl (by kernel_rfl) rfl rfl (fun _ hq=>q0h rfl ag3 rfl ((hq.rB (i:=4) rfl).cell rfl)) ?_
  refine HW.take 2 (H.keep 6 6) rfl (by kernel_rfl) rfl rfl (fun _ _=>q0J rfl rfl rfl q0U) ?_
  refine HW.take 3 (H.keep 6 6) rfl (by kernel_rfl) rfl rfl (fun _ _=>q0j rfl (congrArg (fun b=>Value.bool (!b)) (decide_eq_false h1))) ?_
  refine q0k 4 (H.keep 6 6) rfl (by kernel_rfl) rfl rfl ?_
  refine q0k 5 (H.keep 6 6) rfl (by kernel_rfl) rfl rfl ?_
  refine q0k 6 (H.keep 6 6) rfl (by kernel_rfl) rfl rfl ?_
  refine q0k 7 (H.keep 6 6) rfl (by kernel_rfl) rfl rfl ?_
  refine q0k 8 (H.keep 6 6) rfl (by kernel_rfl) rfl rfl ?_
  refine q0k 9 (H.keep 6 6) rfl (by kernel_rfl) rfl rfl ?_
  refine q0k 10 (H.keep 6 6) rfl (by kernel_rfl) rfl rfl ?_
  refine q0k 11 (H.keep 6 6) rfl (by kernel_rfl) rfl rfl ?_
  refine q0k 13 (H.keep 6 6) rfl (by kernel_rfl) rfl rfl ?_
  refine q0k 12 (H.keep 6 6) rfl (by kernel_rfl) rfl rfl ?_
  refine q0k 14 (H.keep 6 6) rfl (by kernel_rfl) rfl rfl ?_
  refine q0k 15 (H.keep 6 6) rfl (by kernel_rfl) rfl rfl ?_
  refine HW.take 16 (H.keep 6 6) rfl (by kernel_rfl) rfl rfl (fun _ _=>q0C rfl rfl rfl) ?_
  refine HW.take 17 (H.keep 6 6) rfl (by kernel_rfl) rfl rfl (fun _ _=>q0j rfl rfl) ?_
  refine q0k 18 (H.keep 6 6) rfl (by kernel_rfl) rfl rfl ?_
  refine q0k 19 (H.keep 6 6) rfl (by kernel_rfl) rfl rfl ?_
  refine q0k 20 (H.keep 6 6) rfl (by kernel_rfl) rfl rfl ?_
  refine q0k 21 (H.keep 6 6) rfl (by kernel_rfl) rfl rfl ?_
  refine q0k 22 (H.keep 6 6) rfl (by kernel_rfl) rfl rfl ?_
  refine q0k 23 (H.keep 6 6) rfl (by kernel_rfl) rfl rfl ?_
  refine HW.take 24 (H.keep 6 6) rfl (by kernel_rfl) rfl rfl (fun _ _=>q0C rfl rfl rfl) ?_
  refine HW.take 25 (H.keep 6 6) rfl (by kernel_rfl) rfl rfl (fun _ _=>q0j rfl rfl) ?_
  refine q0k 26 (H.keep 6 6) rfl (by kernel_rfl) rfl rfl ?_
  refine q0k 27 (H.keep 6 6) rfl (by kernel_rfl) rfl rfl ?_
  refine q0k 28 (H.keep 6 6) rfl (by kernel_rfl) rfl rfl ?_
  refine q0k 29 (H.keep 6 6) rfl (by kernel_rfl) rfl rfl ?_
  refine HW.take 30 (H.keep 6 6) rfl (by kernel_rfl) rfl rfl (fun _ _=>q0C rfl rfl rfl) ?_
  exact q0r (by kernel_rfl) (C1 hm1)
 rintro ρ' w10 ⟨s1,rfl,hag,H⟩
 obtain⟨σ,rfl⟩:=q4H hag
 refine iB hr (fun _ hr=>?_) fun _ hr=>?_
 ·exact R ((AZ) (W1 hr))
 refine K ?_
 refine bb hr fun q2 hm2 hr=>Y ?_
 refine q0u (fun ρ' w=>∃ (s2:List Occurrence) (v1:Value),s2=q2∧q4R ρ' []∧HL F0 M w0 w d2 [d5,.B bo1 97 [.slice Ao1_0 no1_0 co1_0,.slice Ao1_1 no1_1 co1_1,.string o1.r.Name,.string o1.r.Left,.slice Ao1_4 no1_4 co1_4,.bool o1.r.Literal,.slice Ao1_6 no1_6 co1_6,.slice Ao1_7 no1_7 co1_7,.slice Ao1_8 no1_8 co1_8,v1,.slice Ao1_10 no1_10 co1_10,.slice Ao1_11 no1_11 co1_11],.O 133 s2 v1,d3,.B b1 102 (q5i a1),d4]) ?_ ?_
 ·refine q0y (fun w=>∃ v1_9_:Value,∃ o2_:It,HL F0 M w0 w d2 [d5,.B bo1 97 [.slice Ao1_0 no1_0 co1_0,.slice Ao1_1 no1_1 co1_1,.string o1.r.Name,.string o1.r.Left,.slice Ao1_4 no1_4 co1_4,.bool o1.r.Literal,.slice Ao1_6 no1_6 co1_6,.slice Ao1_7 no1_7 co1_7,.slice Ao1_8 no1_8 co1_8,v1_9_,.slice Ao1_10 no1_10 co1_10,.slice Ao1_11 no1_11 co1_11],o2_,d3,.B b1 102 (q5i a1),d4]) hmix (fun w11 hE=>?_)
  have H:HL F0 M w0 w11 d2 d1:=H.ext hE
  refine HW.take 0 ⟨_,_,H.keep 6 6⟩ rfl (by kernel_rfl) rfl rfl (fun _ _=>q0j rfl rfl) ?_
  refine HW.take 1 ⟨_,_,H.keep 6 6⟩ rfl (by kernel_rfl) rfl rfl (fun _ _=>q0j rfl rfl) ?_
  refine HW.take 2 ⟨_,_,H.keep 6 6⟩ rfl (by kernel_rfl) rfl rfl (fun _ _=>q0o rfl rfl) ?_
  refine HW.take 3 ⟨_,_,H.keep 6 6⟩ rfl (by kernel_rfl) rfl rfl (fun _ _=>q0m rfl z8B rfl) ?_
  refine HW.take 5 ⟨_,_,H.keep 6 6⟩ rfl (by kernel_rfl) rfl rfl (fun _ ⟨_,_,hq⟩=>q0c rfl z0l q3n rfl (At.blk (hq.rB (i:=5) rfl)) rfl) ?_
  refine q1b [4,6] (by kernel_rfl) rfl ⟨q0M rfl ?_,q0M rfl ?_,trivial⟩
  ·refine (L H 1) ?_
   refine HW.next ⟨_,_,H.keep 6 6⟩ ?_
   refine q0f 6 rfl (by kernel_rfl) ?_
   refine q0p rfl rfl rfl el95 q3n q5v rfl rfl rfl rfl rfl rfl fun b3 w12 hE hb hB=>?_
   have H:=H.newB hE hb hB
   refine HW.next ⟨_,_,H.keep 6 6⟩ ?_
   refine q0f 7 rfl (by kernel_rfl) ?_
   refine gg hm2 fun hg1 hm2=>?_
   refine q0t (i:=2) (ys:=[(⟨a1.Pos,a1.Name⟩:Occurrence)]) rfl rfl rfl el95 q3n z3v q5v rfl rfl rfl H rfl (fun _=>ownL.single ⟨rfl,hIa1_1,hIa1_3,rfl⟩) (.inr ⟨_,_,rfl,At.blk (rb H 6)⟩) hg1 fun A2 n2 c2 w13 H=>?_
   refine HW.next ⟨_,_,H.keep 6 6⟩ ?_
   refine HW.take 8 ⟨_,_,H.keep 6 6⟩ rfl (by kernel_rfl) rfl rfl (fun _ _=>q0o rfl rfl) ?_
   refine HW.take 9 ⟨_,_,H.keep 6 6⟩ rfl (by kernel_rfl) rfl rfl (fun _ _=>q0m rfl z8B rfl) ?_
   refine q0f 10 rfl (by kernel_rfl) ((SB H 1) fun w14 H=>?_)
   refine HW.next ⟨_,_,H.keep 6 6⟩ ?_
   exact q0r (by kernel_rfl) (C1 hm2)
  refine gg hm2 fun hg1 hm2=>?_
  refine q0p rfl rfl rfl el95 q3n q5v rfl rfl rfl rfl rfl rfl fun b3 w12 hE hb hB=>?_
  have H:=H.newB hE hb hB
  refine HW.next ⟨_,_,H.keep 6 6⟩ ?_
  refine q0f 4 rfl (by kernel_rfl) ((L H 1) ?_)
  refine HW.next ⟨_,_,H.keep 6 6⟩ ?_
  refine q0f 7 rfl (by kernel_rfl) ?_
  refine q0t (i:=2) (ys:=[(⟨a1.Pos,a1.Name⟩:Occurrence)]) rfl rfl rfl el95 q3n z3v q5v rfl rfl rfl H rfl (fun _=>ownL.single ⟨rfl,hIa1_1,hIa1_3,rfl⟩) (.inr ⟨_,_,rfl,At.blk (rb H 6)⟩) hg1 fun A2 n2 c2 w13 H=>?_
  refine HW.next ⟨_,_,H.keep 6 6⟩ ?_
  refine HW.take 8 ⟨_,_,H.keep 6 6⟩ rfl (by kernel_rfl) rfl rfl (fun _ _=>q0o rfl rfl) ?_
  refine HW.take 9 ⟨_,_,H.keep 6 6⟩ rfl (by kernel_rfl) rfl rfl (fun _ _=>q0m rfl z8B rfl) ?_
  refine q0f 10 rfl (by kernel_rfl) ((SB H 1) fun w14 H=>?_)
  refine HW.next ⟨_,_,H.keep 6 6⟩ ?_
  exact q0r (by kernel_rfl) (C1 hm2)
 rintro ρ' w15 ⟨s2,v1,rfl,hag,H⟩
 obtain⟨σ,rfl⟩:=q4H hag
 obtain⟨A3,n3,c3,rfl⟩:=(fo H 2)
 exact R ((AZ) (W1 hr))
def z7B (a0:l28Work)(a1:Int):Nat→ByteArray→Unit→Option (Unit ⊕ Bool):=fun k1 x1 _=>(q4y a0.known (⟨a1,x1⟩:Occurrence)).bind fun y1=>if y1=true then some (.inl ()) else some (.inr false)
def q8q (a0:l28Work)(a1:Int)(a2:(List ByteArray)):Option Bool:=(q2u (z7B a0 a1) 0 a2 ()).bind <| onr (fun r1=>some r1) fun _=>some true
theorem z7C {a0}{a1}{a2}{r}(hr:q8q a0 a1 a2=some r){b0p:Nat}(ha0:CapP F0 w0 b0p a0)(ha1:I64 a1){z2}(ha2:rdS F0 w0 a2 z2):RB 43 #[pB b0p,.int .i64 a1,z2] w0 r:=by
 obtain⟨A2',n2',c2',rfl⟩:=ha2.form3
 have H:=(HL.start F0 w0).argS ha2
 obtain⟨cpa0,H⟩:=H.argP ha0
 obtain⟨A1,n1,c1,A2,n2,c2,A3,n3,c3,A4,n4,c4,A5,n5,c5,A6,n6,c6,A7,n7,c7,A8,n8,c8,A9,n9,c9,rfl,hS1,hS2,H⟩:=z6N H 2
 let d1:List Value:=[.slice A1 n1 c1,.slice A2 n2 c2,.string a0.r.Name,.string a0.r.Left,.slice A3 n3 c3,.bool a0.r.Literal,.slice A4 n4 c4,.slice A5 n5 c5,.slice A6 n6 c6,.slice A7 n7 c7,.slice A8 n8 c8,.slice A9 n9 c9]
 refine (En Tryz.func43) ?_
 refine R ((A) (Z (Y (R ((AZ) ?_)))))
 refine bb hr fun q1 hq1 hr=>?_
 refine (lF hq1 (fun k1 _ _=>[(0,pB b0p),(1,.int .i64 a1),(2,.slice A2' n2' c2'),(7,zN k1)]) (fun _ _ w=>HL F0 [] w0 w [.S a2 (.slice A2' n2' c2'),.A b0p 0 d1,.R a0 d1,.S a0.g.Symbols (.slice A1 n1 c1),.S a0.g.Rules (.slice A2 n2 c2),.S a0.r.Right (.slice A3 n3 c3),.S a0.r.Equations (.slice A4 n4 c4),.S a0.r.Contributions (.slice A5 n5 c5),.S a0.phases (.slice A6 n6 c6),.S a0.known (.slice A7 n7 c7),.S a0.visits (.slice A8 n8 c8),.S a0.steps (.slice A9 n9 c9)] []) ()) ?_
 rintro k1 _ _ σ w1 hk1 hq1 H
 refine Y (R ((V) ((V) ((NI H 0) fun hl1=>(BZ) ?_))))
 refine (iF hq1 hr (fun hk2 x1 z1 hx1 hb1 hs1 ht1=>?_) fun hr=>?_)
 ·refine K (Y ?_)
  refine Bk (Y ?_)
  refine q0d hmix (by kernel_rfl) ?_
  refine (qV) ((qNC) ((qD 9) ((qLC H 1) ((qV) ((qV) ((qV) ?_))))))
  obtain⟨b1,ob1,cb1,hvb1,hS3,H⟩:=q7l H 0 hx1
  refine (qJ 1 hvb1 hx1) ((qL0 H 12) ?_)
  refine q0i rfl rfl (fun _ _=>Ev.build rfl z7M q5v rfl rfl rfl rfl) ?_
  refine bb hb1 fun y1 hy1 hb1=>?_
  refine (qC ok73 (fun _ hq=>q7F hy1 (rs (H.ext hq) 9) ⟨rfl,ha1,hS3⟩)) ?_
  refine (qN) ?_
  refine QL.nil (fun w2 hE=>?_)
  have H:=H.ext hE
  refine iM hb1 (fun _ hb1=>?_) fun _ hb1=>?_
  ·exact R ((AZ) (W2 hb1 ht1 hr))
  exact K (X ((V) ((AN hk2 hl1) ((A) (Z (I2 hb1 hs1 ⟨k1+1,(),()⟩))))))
 exact CE (R ((AZ) (W1 hr)))
def z2T (a1:Step)(o1:l28Work):Option (Bool × l28Work):=(q5q a1.Pos 1 (o1.r.Right.length:Int)).bind fun y1=>if y1=true then if a1.Name=(⟨#[]⟩:ByteArray) then grd (I64 (a1.Pos - 1)) <| grd (0≤(a1.Pos - 1)) <| (o1.r.Right[(a1.Pos - 1).toNat]?).bind fun x1=>(q6i o1.g o1.phases x1).bind fun y2=>grd (I64 (a1.Pos - 1)) <| grd (0≤(a1.Pos - 1)) <| (o1.visits[(a1.Pos - 1).toNat]?).bind fun x2=>grd (I64 (x2+1)) <| if a1.Visit=(x2+1) then if (y2.length:Int)≤x2 then some (false,o1) else grd (0≤x2) <| (y2[x2.toNat]?).bind fun x3=>(q8q o1 a1.Pos x3.Inherited).bind fun y3=>if y3=true then grd (I64 (a1.Pos - 1)) <| grd (I64 (x2+1)) <| (q9q a1.Pos x3.Synthesized (⟨o1.g,o1.r,o1.phases,o1.known,(List.set o1.visits ((a1.Pos - 1).toNat) (x2+1)),o1.steps⟩:l28Work)).bind fun z1=>some (true,(⟨o1.g,(⟨z1.r.Name,z1.r.Left,o1.r.Right,z1.r.Literal,o1.r.Equations,o1.r.Contributions⟩:Rule),o1.phases,z1.known,z1.visits,z1.steps⟩:l28Work)) else some (false,o1) else some (false,o1) else some (false,o1) else some (false,o1)
theorem j2n {a1}{o1}{r}(hr:z2T a1 o1=some r){bo1:Nat}{Ao1_0:Option Addr}{no1_0 co1_0:Nat}{Ao1_1:Option Addr}{no1_1 co1_1:Nat}{Ao1_4:Option Addr}{no1_4 co1_4:Nat}{Ao1_6:Option Addr}{no1_6 co1_6:Nat}{Ao1_7:Option Addr}{no1_7 co1_7:Nat}{Ao1_8:Option Addr}{no1_8 co1_8:Nat}{Ao1_9:Option Addr}{no1_9 co1_9:Nat}{Ao1_10:Option Addr}{no1_10 co1_10:Nat}{Ao1_11:Option Addr}{no1_11 co1_11:Nat}(hIa1_0:I64 a1.Kind)(hIa1_1:I64 a1.Pos)(hIa1_2:I64 a1.Visit)(hIa1_3:a1.Name.size≤9223372036854775807)(hIo1_2:o1.r.Name.size≤9223372036854775807)(hIo1_3:o1.r.Left.size≤9223372036854775807)(H:HL F0 M w0 w0 [.S o1.g.Symbols (.slice Ao1_0 no1_0 co1_0),.S o1.g.Rules (.slice Ao1_1 no1_1 co1_1),.S o1.r.Right (.slice Ao1_4 no1_4 co1_4),.S o1.r.Equations (.slice Ao1_6 no1_6 co1_6),.S o1.r.Contributions (.slice Ao1_7 no1_7 co1_7),.S o1.phases (.slice Ao1_8 no1_8 co1_8)] [.O 3 o1.visits (.slice Ao1_10 no1_10 co1_10),.B bo1 97 [.slice Ao1_0 no1_0 co1_0,.slice Ao1_1 no1_1 co1_1,.string o1.r.Name,.string o1.r.Left,.slice Ao1_4 no1_4 co1_4,.bool o1.r.Literal,.slice Ao1_6 no1_6 co1_6,.slice Ao1_7 no1_7 co1_7,.slice Ao1_8 no1_8 co1_8,.slice Ao1_9 no1_9 co1_9,.slice Ao1_10 no1_10 co1_10,.slice Ao1_11 no1_11 co1_11],.O 133 o1.known (.slice Ao1_9 no1_9 co1_9),.O 102 o1.steps (.slice Ao1_11 no1_11 co1_11)]):RM 42 #[pB bo1,.agg #[.int .i64 a1.Kind,.int .i64 a1.Pos,.int .i64 a1.Visit,.string a1.Name]] M w0 fun v w=>∃ A0 n0 c0 A1 n1 c1,∃ A2 n2 c2,v = .bool r.1∧r.2.r.Name.size≤9223372036854775807∧r.2.r.Left.size≤9223372036854775807∧HL F0 M w0 w [] [.O 3 r.2.visits (.slice A1 n1 c1),.B bo1 97 [.slice Ao1_0 no1_0 co1_0,.slice Ao1_1 no1_1 co1_1,.string r.2.r.Name,.string r.2.r.Left,.slice Ao1_4 no1_4 co1_4,.bool r.2.r.Literal,.slice Ao1_6 no1_6 co1_6,.slice Ao1_7 no1_7 co1_7,.slice Ao1_8 no1_8 co1_8,(.slice A0 n0 c0),(.slice A1 n1 c1),(.slice A2 n2 c2)],.O 133 r.2.known (.slice A0 n0 c0),.O 102 r.2.steps (.slice A2 n2 c2)]:=by
 let d6:Pr:=.S o1.g.Symbols (.slice Ao1_0 no1_0 co1_0)
 let d5:Pr:=.S o1.r.Equations (.slice Ao1_6 no1_6 co1_6)
 let d4:Pr:=.S o1.r.Contributions (.slice Ao1_7 no1_7 co1_7)
 refine (En Tryz.func42) ?_
 refine R ((BX H) fun b1 w1 H=>(AZ) (Y (Y ?_)))
 let d1:List It:=[.O 3 o1.visits (.slice Ao1_10 no1_10 co1_10),.B bo1 97 [.slice Ao1_0 no1_0 co1_0,.slice Ao1_1 no1_1 co1_1,.string o1.r.Name,.string o1.r.Left,.slice Ao1_4 no1_4 co1_4,.bool o1.r.Literal,.slice Ao1_6 no1_6 co1_6,.slice Ao1_7 no1_7 co1_7,.slice Ao1_8 no1_8 co1_8,.slice Ao1_9 no1_9 co1_9,.slice Ao1_10 no1_10 co1_10,.slice Ao1_11 no1_11 co1_11],.O 133 o1.known (.slice Ao1_9 no1_9 co1_9),.O 102 o1.steps (.slice Ao1_11 no1_11 co1_11),.B b1 102 (q5i a1)]
 refine q0d hmix (by kernel_rfl) ?_
 refine (qD 1) ((qL H 4) ((qV) ((qNC) ((qD 2) ((qD 2) ((qL H 1) ?_))))))
 have hl1:=(H.rS (i:=2) rfl).I
 refine (qNN (rs H 2)) ?_
 refine bb hr fun y1 hy1 hr=>?_
 refine (qC ok72 (fun _ hq=>q5j hy1 (F0:=nF) hIa1_1 dI hl1)) ?_
 refine (qN) ?_
 refine kM hr (fun _ hr=>?_) fun _ hr=>?_
 ·refine (qO) ((qO) ((qO) ((qT) ?_)))
  refine QL.nil (fun w2 hE=>?_)
  have H:=H.ext hE
  exact (cT) (R ((AZ) (W1 hr)))
 refine (qG) ((qD 3) ((qG) ((qL H 4) ((qG) ((qB) ((qU) ?_))))))
 refine QL.nil (fun w3 hE=>?_)
 have H:=H.ext hE
 refine iN hr (fun _ hr=>?_) fun _ hr=>?_
 ·exact R ((AZ) (W1 hr))
 refine K (Y ?_)
 refine q0K 18 hmix (by kernel_rfl) ?_
 refine (qV) ((qNC) ((qD 0) ?_))
 refine q0i rfl rfl (fun _ hq=>q0c rfl ag35 sz35 rfl (Blk.part ((H.ext hq).rB (i:=1) rfl) 0 2) rfl) ?_
 refine (qV) ((qNC) ((qD 8) ((qL H 1) ((qV) ((qNC) ((qD 2) ((qD 2) ((qL H 1) ((qD 1) ((qL H 4) ?_))))))))))
 refine gg hr fun hg1 hr=>?_
 refine (qBN (Bin.sub hg1)) ?_
 refine gg hr fun hg2 hr=>?_
 refine bb hr fun x1 hx1 hr=>?_
 let d7:List Value:=[.string x1]
 obtain⟨b2,ob2,cb2,hvb2,hS1,H⟩:=q7l H 2 hx1
 refine q0i rfl rfl (fun _ _=>q0l rfl el58 sz9 rfl hvb2 rfl hg2 (q4G hx1)) ?_
 refine (qL0 H 6) ?_
 refine QL.nil (fun w4 hE=>?_)
 have H:=H.ext hE
 refine bb hr fun y2 hy2 hr=>?_
 obtain⟨F,hF,hcl⟩:=H.call
 refine (CA ok39 (z2S hy2 ⟨_,_,rfl,(hF.get (i:=0) rfl),(hF.get (i:=1) rfl)⟩ (hF.get (i:=5) rfl) hS1)) ?_
 rintro _ w5 hE ⟨A1,n1,c1,rfl,H'⟩
 let d3:List Pr:=[d6,.S o1.g.Rules (.slice Ao1_1 no1_1 co1_1),.S o1.r.Right (.slice Ao1_4 no1_4 co1_4),d5,d4,.S o1.phases (.slice Ao1_8 no1_8 co1_8),.A b2 (ob2+((a1.Pos - 1).toNat)*1) d7,.R x1 d7,.S y2 (.slice A1 n1 c1)]
 have H:HL F0 M w0 w5 d3 d1:=hcl H'
 refine (AZ) (Y ?_)
 refine q0a [(0,pB bo1),(3,pB b1),(5,.slice A1 n1 c1)] ⟨rfl,rfl,rfl,trivial⟩ fun σ=>?_
 have H:HL F0 M w0 w5 d3 d1:=H
 refine q0d hmix (by kernel_rfl) ?_
 refine (qV) ((qNC) ((qD 10) ((qL H 1) ((qD 1) ((qL H 4) ?_)))))
 refine gg hr fun hg3 hr=>?_
 refine (qBN (Bin.sub hg3)) ?_
 refine gg hr fun hg4 hr=>?_
 refine bb hr fun x2 hx2 hr=>?_
 obtain⟨b3,cb3,hvb3,hbb3⟩:=po H 0 hx2
 refine q0i rfl rfl (fun _ _=>q0l rfl el94 sz3 rfl hvb3 rfl hg4 (q4G hx2)) ?_
 obtain⟨hA1,hI1,H⟩:=q5p H 0 hx2 hbb3
 refine q0i rfl rfl (fun _ hq=>q0h rfl ag3 rfl ((hA1.ext hq).cell0 rfl)) ?_
 refine (qA) ?_
 refine QL.nil (fun w6 hE=>?_)
 have H:=H.ext hE
 refine Y (Y ?_)
 refine q0d hmix (by kernel_rfl) ?_
 refine (qD 2) ((qL H 4) ((qV) ?_))
 refine gg hr fun hg5 hr=>?_
 refine (qBN (Bin.add hg5)) ((qB) ?_)
 refine kN hr (fun _ hr=>?_) fun _ hr=>?_
 ·refine (qO) ((qO) ((qO) ((qO) ((qT) ((qV) ((qO) ((qO) ((qO) ((qO) ((qO) ((qO) ((qO) ((qO) ((qO) ((qO) ((qT) ?_))))))))))))))))
  refine QL.nil (fun w7 hE=>?_)
  have H:=H.ext hE
  exact (cT) (R ((AZ) (W1 hr)))
 refine (qG) ((qV) ((qG) ((qV) ((qG) ?_))))
 have hl2:=(H.rS (i:=8) rfl).I
 refine (qNN (rs H 8)) ((qG) ((qB) ((qU) ?_)))
 refine kD hr (fun _ hr=>?_) fun _ hr=>?_
 ·refine (qO) ((qO) ((qO) ((qO) ((qO) ((qO) ((qO) ((qO) ((qO) ((qO) ((qT) ?_))))))))))
  refine QL.nil (fun w8 hE=>?_)
  have H:=H.ext hE
  refine (cT) (Y ?_)
  refine q0a [] trivial fun σ=>?_
  have H:HL F0 M w0 w8 [d6,.S o1.g.Rules (.slice Ao1_1 no1_1 co1_1),.S o1.r.Right (.slice Ao1_4 no1_4 co1_4),d5,d4,.S o1.phases (.slice Ao1_8 no1_8 co1_8),.A b2 (ob2+((a1.Pos - 1).toNat)*1) d7,.R x1 d7,.S y2 (.slice A1 n1 c1),.R x2 [.int .i64 x2]] d1:=H
  exact X ((AZ) (W1 hr))
 refine (qG) ((qV) ((qG) ((qD 1) ((qG) ((qL H 4) ((qG) ((qV) ((qG) ((qV) ((qG) ?_))))))))))
 refine gg hr fun hg6 hr=>?_
 refine bb hr fun x3 hx3 hr=>?_
 obtain⟨b4,ob4,cb4,A2,n2,c2,A3,n3,c3,hvb4,H⟩:=q5M H 8 hx3
 let d2:List Pr:=[d6,.S o1.g.Rules (.slice Ao1_1 no1_1 co1_1),.S o1.r.Right (.slice Ao1_4 no1_4 co1_4),d5,d4,.S o1.phases (.slice Ao1_8 no1_8 co1_8),.A b2 (ob2+((a1.Pos - 1).toNat)*1) d7,.R x1 d7,.S y2 (.slice A1 n1 c1),.R x2 [.int .i64 x2],.A b4 (ob4+x2.toNat*2) [.slice A2 n2 c2,.slice A3 n3 c3],.R x3 [.slice A2 n2 c2,.slice A3 n3 c3],.S x3.Inherited (.slice A2 n2 c2),.S x3.Synthesized (.slice A3 n3 c3)]
 refine q0i rfl rfl (fun _ _=>q0l rfl el54 z5P rfl hvb4 rfl hg6 (q4G hx3)) ?_
 refine (qG) ((qD 0) ((qG) ((qLC H 10) ((qG) ?_))))
 refine bb hr fun y3 hy3 hr=>?_
 refine (qC ok43 (fun _ hq=>z7C hy3 (F0:=fun q=>q < _) ⟨((H.ext hq).rB (i:=1) rfl).lt,_,At.blk ((H.ext hq).rB (i:=1) rfl),⟨_,_,_,_,_,_,_,_,_,rfl,hIo1_2,hIo1_3,(rs (H.ext hq) 0),(rs (H.ext hq) 1),(rs (H.ext hq) 2),(rs (H.ext hq) 3),(rs (H.ext hq) 4),(rs (H.ext hq) 5),(ro (H.ext hq) 2),(ro (H.ext hq) 0),(ro (H.ext hq) 3)⟩⟩ hIa1_1 (rs (H.ext hq) 12))) ?_
 refine (qG) ((qN) ((qU) ?_))
 refine QL.nil (fun w9 hE=>?_)
 have H:=H.ext hE
 refine iM hr (fun _ hr=>?_) fun _ hr=>?_
 ·refine Y ?_
  refine q0a [] trivial fun σ=>?_
  have H:HL F0 M w0 w9 d2 d1:=H
  exact X ((AZ) (W1 hr))
 refine K (Y ?_)
 refine q0a [(0,pB bo1),(3,pB b1),(5,.slice A1 n1 c1),(6,.int .i64 x2)] ⟨rfl,rfl,rfl,rfl,trivial⟩ fun σ=>?_
 have H:HL F0 M w0 w9 d2 d1:=H
 refine q0K 10 hmix (by kernel_rfl) ?_
 refine (qV) ((qNC) ((qD 10) ((qL H 1) ((qD 1) ((qL H 4) ?_)))))
 refine gg hr fun hg7 hr=>?_
 refine (qBN (Bin.sub hg7)) ((qV) ?_)
 refine gg hr fun hg8 hr=>?_
 refine (qBN (Bin.add hg8)) ?_
 obtain⟨b5,cb5,hvb5,hbb5⟩:=po H 0 hx2
 refine q0i rfl rfl (fun _ _=>q0l rfl el94 sz3 rfl hvb5 rfl hg4 (q4G hx2)) (QL.nil (fun w10 hE=>?_))
 have H:=H.ext hE
 refine q0G (i:=0) (z:=(x2+1)) rfl rfl rfl sz3 rfl rfl rfl (fun _=>⟨rfl,rfl,hg8⟩) H rfl hbb5 (by simpa using q4G hx2) fun w11 H=>Z (Y ?_)
 refine q0K 8 hmix (by kernel_rfl) ?_
 refine (qV) ((qD 1) ((qL H 4) ((qV) ((qV) ?_))))
 refine q0i rfl rfl (fun _ _=>q0l rfl el54 z5P rfl hvb4 rfl hg6 (q4G hx3)) ?_
 refine (qD 1) ((qLC H 10) ?_)
 refine QL.nil (fun w12 hE=>?_)
 have H:=H.ext hE
 refine bb hr fun z1 hy4 hr=>?_
 obtain⟨F',M',hfF,hoF,hcM⟩:=H.callN [true,true,true,true,false] ⟨noO,noB,noO,noO,trivial⟩
 obtain⟨H',hcN⟩:=hcM (ps:=[.S x3.Synthesized (.slice A3 n3 c3),d6,.S o1.g.Rules (.slice Ao1_1 no1_1 co1_1),.S o1.r.Right (.slice Ao1_4 no1_4 co1_4),d5,d4,.S o1.phases (.slice Ao1_8 no1_8 co1_8)]) ⟨hfF.get (i:=13) rfl,hfF.get (i:=0) rfl,hfF.get (i:=1) rfl,hfF.get (i:=2) rfl,hfF.get (i:=3) rfl,hfF.get (i:=4) rfl,hfF.get (i:=5) rfl,trivial⟩
 refine (CA ok40 (z3T hy4 hIa1_1 hIo1_2 hIo1_3 H')) ?_
 rintro _ w13 hE ⟨A4,n4,c4,A5,n5,c5,A6,n6,c6,rfl,hS2,hS3,H'⟩
 have H:=hcN 4 H' rfl ⟨fun _ _ _ _ _ h=>h,⟨fun _ _ _ _ _ h=>h,⟨fun _ _ _ _ _ h=>h,tv⟩⟩⟩
 exact Z (R ((AZ) (W1 hr)))
def z7D (a0:l28Work):Nat→Occurrence→Unit→Option (Unit ⊕ Bool):=fun k1 x1 _=>(q4y a0.known x1).bind fun y2=>if y2=true then some (.inl ()) else some (.inr false)
def z1H (a0:l28Work):Nat→ByteArray→Unit→Option (Unit ⊕ Bool):=fun k2 x2 _=>(a0.visits[k2]?).bind fun x3=>(q6i a0.g a0.phases x2).bind fun y3=>if x3=(y3.length:Int) then some (.inl ()) else some (.inr false)
def z1d (a0:l28Work):Option Bool:=(q2y a0.g a0.r).bind fun y1=>(q2u (z7D a0) 0 y1 ()).bind <| onr (fun r1=>some r1) fun _=>(q2u (z1H a0) 0 a0.r.Right ()).bind <| onr (fun r2=>some r2) fun _=>some true
theorem j2o {a0}{r}(hr:z1d a0=some r){b0p:Nat}(ha0:CapP F0 w0 b0p a0):RB 44 #[pB b0p] w0 r:=by
 have H:=HL.start F0 w0
 obtain⟨cpa0,H⟩:=H.argP ha0
 obtain⟨A1,n1,c1,A2,n2,c2,A3,n3,c3,A4,n4,c4,A5,n5,c5,A6,n6,c6,A7,n7,c7,A8,n8,c8,A9,n9,c9,rfl,hS1,hS2,H⟩:=z6N H 1
 let d12:Pr:=.S a0.steps (.slice A9 n9 c9)
 let d11:Pr:=.S a0.known (.slice A7 n7 c7)
 let d10:Pr:=.S a0.visits (.slice A8 n8 c8)
 let d9:Pr:=.S a0.phases (.slice A6 n6 c6)
 let d8:Pr:=.S a0.r.Right (.slice A3 n3 c3)
 let d7:Pr:=.S a0.g.Rules (.slice A2 n2 c2)
 let d6:Pr:=.S a0.g.Symbols (.slice A1 n1 c1)
 let d5:Pr:=.S a0.r.Equations (.slice A4 n4 c4)
 let d3:Pr:=.S a0.r.Contributions (.slice A5 n5 c5)
 let d1:List Value:=[.slice A1 n1 c1,.slice A2 n2 c2,.string a0.r.Name,.string a0.r.Left,.slice A3 n3 c3,.bool a0.r.Literal,.slice A4 n4 c4,.slice A5 n5 c5,.slice A6 n6 c6,.slice A7 n7 c7,.slice A8 n8 c8,.slice A9 n9 c9]
 let d15:Pr:=.A b0p 0 d1
 let d2:List Pr:=[d15,.R a0 d1,d6,d7,d8,d5,d3,d9,d11,d10,d12]
 refine (En Tryz.func44) ?_
 refine R ((AZ) (Y ?_))
 refine q0K 8 hmix (by kernel_rfl) ?_
 refine (qV) ((qNC) ((qD 0) ?_))
 refine q0i rfl rfl (fun _ hq=>q0c rfl ag35 sz35 rfl (((H.ext hq).rA (i:=0) rfl).part 0 2) rfl) ?_
 refine (qV) ((qNC) ((qD 2) ?_))
 refine q0i rfl rfl (fun _ hq=>q0c rfl ag62 sz62 rfl (((H.ext hq).rA (i:=0) rfl).part 2 6) rfl) ?_
 refine QL.nil (fun w1 hE=>?_)
 have H:=H.ext hE
 refine bb hr fun y1 hy1 hr=>?_
 refine (CA ok74 (q5B hy1 ⟨_,_,rfl,(rs H 2),(rs H 3)⟩ ⟨_,_,_,rfl,hS1,hS2,(rs H 4),(rs H 5),(rs H 6)⟩)) ?_
 rintro _ w2 hE ⟨A10,n10,c10,rfl,H'⟩
 let d4:List It:=[.O 133 y1 (.slice A10 n10 c10)]
 have H:=H.callA H' tv
 refine (A) (Z (Y (R ((AZ) ?_))))
 refine bb hr fun q1 hq1 hr=>?_
 refine (lF hq1 (fun k1 _ _=>[(0,pB b0p),(3,.slice A10 n10 c10),(4,zN k1)]) (fun _ _ w=>HL F0 [] w0 w d2 d4) ()) ?_
 rintro k1 _ _ σ w3 hk1 hq1 H
 refine Y (R ((V) ((V) ?_)))
 have hl1:=(H.rO (i:=0) rfl).I
 refine (NN (ro H 0)) ((BZ) ?_)
 refine (iF hq1 hr (fun hk2 x1 z1 hx1 hb1 hs1 ht1=>?_) fun hr=>?_)
 ·refine K (Y ?_)
  refine Bk (Y ?_)
  refine q0d hmix (by kernel_rfl) ?_
  refine (qV) ((qNC) ((qD 9) ((qLC H 0) ((qV) ((qV) ?_)))))
  obtain⟨b1,cb1,hvb1,hbb1⟩:=po H 0 hx1
  refine (qJ 2 hvb1 hx1) ?_
  obtain⟨hA1,hI1,hS3,H⟩:=q6o H 0 hx1 hbb1
  refine q0i rfl rfl (fun _ hq=>q0c rfl z0l q3n rfl (hA1.ext hq) rfl) ?_
  refine bb hb1 fun y2 hy2 hb1=>?_
  refine (qC ok73 (fun _ hq=>q7F hy2 (rs (H.ext hq) 8) ⟨rfl,hI1,hS3⟩)) ?_
  refine (qN) ?_
  refine QL.nil (fun w4 hE=>?_)
  have H:=H.ext hE
  refine iM hb1 (fun _ hb1=>?_) fun _ hb1=>?_
  ·exact R ((AZ) (W2 hb1 ht1 hr))
  exact K (X ((V) ((AN hk2 hl1) ((A) (Z (I2 hb1 hs1 ⟨k1+1,(),()⟩))))))
 refine CE (Y (R ((AZ) ?_)))
 refine bb hr fun q2 hq2 hr=>?_
 refine (lF hq2 (fun k2 _ _=>[(0,pB b0p),(5,zN k2)]) (fun _ _ w=>HL F0 [] w0 w d2 d4) ()) ?_
 rintro k2 _ _ σ w5 hk3 hq2 H
 refine Y (R ((V) ((V) ((NC) ((D 2) ((D 2) ?_))))))
 refine q0b rfl rfl (q0h rfl ag58 rfl ((ra H 0).cellK (k:=4) rfl rfl)) ((NI H 4) fun hl2=>(BZ) ?_)
 refine (iF hq2 hr (fun hk4 x2 z2 hx2 hb2 hs2 ht2=>?_) fun hr=>?_)
 ·let d14:List Value:=[.string x2]
  refine K ?_
  refine bb hb2 fun x3 hx3 hb2=>?_
  let d13:List Value:=[.int .i64 x3]
  obtain⟨b2,ob2,cb2,hvb2,hI2,H⟩:=z6M H 9 hx3
  obtain⟨b3,ob3,cb3,hvb3,hS4,H⟩:=q7l H 4 hx2
  refine Y ?_
  refine Bk (Y ?_)
  refine q0y (fun w=>HL F0 [] w0 w [d15,.R a0 d1,d6,d7,d8,d5,d3,d9,d11,d10,d12,.A b2 (ob2+k2*1) d13,.R x3 d13,.A b3 (ob3+k2*1) d14,.R x2 d14] d4) hmix (fun w6 hE=>?_)
  have H:HL F0 [] w0 w6 [d15,.R a0 d1,d6,d7,d8,d5,d3,d9,d11,d10,d12,.A b2 (ob2+k2*1) d13,.R x3 d13,.A b3 (ob3+k2*1) d14,.R x2 d14] d4:=H.ext hE
  refine HW.take 0 (H.keep 15 1) rfl (by kernel_rfl) rfl rfl (fun _ _=>q0j rfl rfl) ?_
  refine HW.take 1 (H.keep 15 1) rfl (by kernel_rfl) rfl rfl (fun _ _=>q0o rfl rfl) ?_
  refine HW.take 2 (H.keep 15 1) rfl (by kernel_rfl) rfl rfl (fun _ _=>q0m rfl k1o rfl) ?_
  refine HW.take 3 (H.keep 15 1) rfl (by kernel_rfl) rfl rfl (fun _ hq=>q0h rfl ag94 rfl ((hq.rA (i:=0) rfl).cell rfl)) ?_
  refine HW.take 4 (H.keep 15 1) rfl (by kernel_rfl) rfl rfl (fun _ _=>q0j rfl rfl) ?_
  refine HW.take 5 (H.keep 15 1) rfl (by kernel_rfl) rfl rfl (fun _ _=>q0V rfl el94 sz3 rfl hvb2 rfl (q4G hx3)) ?_
  refine HW.take 6 (H.keep 15 1) rfl (by kernel_rfl) rfl rfl (fun _ hq=>q0h rfl ag3 rfl ((hq.rA (i:=11) rfl).cell0 rfl)) ?_
  refine HW.take 7 (H.keep 15 1) rfl (by kernel_rfl) rfl rfl (fun _ _=>q0j rfl rfl) ?_
  refine HW.take 8 (H.keep 15 1) rfl (by kernel_rfl) rfl rfl (fun _ _=>q0o rfl rfl) ?_
  refine HW.take 9 (H.keep 15 1) rfl (by kernel_rfl) rfl rfl (fun _ _=>q0m rfl j9F rfl) ?_
  refine HW.take 10 (H.keep 15 1) rfl (by kernel_rfl) rfl rfl (fun _ hq=>q0c rfl ag35 sz35 rfl ((hq.rA (i:=0) rfl).part 0 2) rfl) ?_
  refine HW.take 11 (H.keep 15 1) rfl (by kernel_rfl) rfl rfl (fun _ _=>q0j rfl rfl) ?_
  refine HW.take 12 (H.keep 15 1) rfl (by kernel_rfl) rfl rfl (fun _ _=>q0o rfl rfl) ?_
  refine HW.take 13 (H.keep 15 1) rfl (by kernel_rfl) rfl rfl (fun _ _=>q0m rfl k1n rfl) ?_
  refine HW.take 14 (H.keep 15 1) rfl (by kernel_rfl) rfl rfl (fun _ hq=>q0h rfl ag37 rfl ((hq.rA (i:=0) rfl).cell rfl)) ?_
  refine HW.take 15 (H.keep 15 1) rfl (by kernel_rfl) rfl rfl (fun _ _=>q0j rfl rfl) ?_
  refine HW.take 16 (H.keep 15 1) rfl (by kernel_rfl) rfl rfl (fun _ _=>q0o rfl rfl) ?_
  refine HW.take 17 (H.keep 15 1) rfl (by kernel_rfl) rfl rfl (fun _ _=>q0m rfl j6f rfl) ?_
  refine HW.take 18 (H.keep 15 1) rfl (by kernel_rfl) rfl rfl (fun _ _=>q0m rfl j6e rfl) ?_
  refine HW.take 19 (H.keep 15 1) rfl (by kernel_rfl) rfl rfl (fun _ hq=>q0h rfl ag58 rfl ((hq.rA (i:=0) rfl).cellK (k:=4) rfl rfl)) ?_
  refine HW.take 20 (H.keep 15 1) rfl (by kernel_rfl) rfl rfl (fun _ _=>q0j rfl rfl) ?_
  refine HW.take 21 (H.keep 15 1) rfl (by kernel_rfl) rfl rfl (fun _ _=>q0V rfl el58 sz9 rfl hvb3 rfl (q4G hx2)) ?_
  refine HW.take 22 (H.keep 15 1) rfl (by kernel_rfl) rfl rfl (fun _ hq=>q0h rfl ag9 rfl ((hq.rA (i:=13) rfl).cell0 rfl)) ?_
  refine q0f 23 rfl (by kernel_rfl) ?_
  refine bb hb2 fun y3 hy3 hb2=>?_
  obtain⟨F,hF,hcl⟩:=H.call
  refine (CA ok39 (z2S hy3 ⟨_,_,rfl,(hF.get (i:=2) rfl),(hF.get (i:=3) rfl)⟩ (hF.get (i:=7) rfl) hS4)) ?_
  rintro _ w7 hE ⟨A11,n11,c11,rfl,H'⟩
  have H:HL F0 [] w0 w7 [d15,.R a0 d1,d6,d7,d8,d5,d3,d9,d11,d10,d12,.A b2 (ob2+k2*1) d13,.R x3 d13,.A b3 (ob3+k2*1) d14,.R x2 d14,.S y3 (.slice A11 n11 c11)] d4:=hcl H'
  refine HW.next (H.keep 15 1) ?_
  have hl3:=(H.rS (i:=15) rfl).I
  refine HW.take 24 (H.keep 15 1) rfl (by kernel_rfl) rfl rfl (fun _ _=>q0H rfl el54 rfl (rs H 15)) ?_
  refine HW.take 25 (H.keep 15 1) rfl (by kernel_rfl) rfl rfl (fun _ _=>q0J rfl rfl rfl q0U) ?_
  refine q0r (by kernel_rfl) (iN hb2 (fun _ hb2=>?_) fun _ hb2=>?_)
  ·refine Y ?_
   refine q0a [] trivial fun σ=>?_
   have H:HL F0 [] w0 w7 [d15,.R a0 d1,d6,d7,d8,d5,d3,d9,d11,d10,d12,.A b2 (ob2+k2*1) d13,.R x3 d13,.A b3 (ob3+k2*1) d14,.R x2 d14,.S y3 (.slice A11 n11 c11)] d4:=H
   exact X ((AZ) (W2 hb2 ht2 hr))
  refine K ?_
  refine q0a [(0,pB b0p),(5,zN k2)] ⟨rfl,rfl,trivial⟩ fun σ=>?_
  have H:HL F0 [] w0 w7 [d15,.R a0 d1,d6,d7,d8,d5,d3,d9,d11,d10,d12,.A b2 (ob2+k2*1) d13,.R x3 d13,.A b3 (ob3+k2*1) d14,.R x2 d14,.S y3 (.slice A11 n11 c11)] d4:=H
  exact X ((V) ((AN hk4 hl2) ((A) (Z (I2 hb2 hs2 ⟨k2+1,(),()⟩)))))
 exact CE (R ((AZ) (W1 hr)))
def q6y (a0:Grammar)(a1:(List (List Phase)))(a2:Rule)(y1:(List Phase)):Nat→Step→((List Int) × ByteArray × ByteArray × Bool × (List Occurrence) × (List Step) × Int)→Option (((List Int) × ByteArray × ByteArray × Bool × (List Occurrence) × (List Step) × Int) ⊕ Bool):=fun k1 x2 (s1,s2,s3,s4,s5,s6,s7)=>if x2.Kind=1 then ( if s7 < (y1.length:Int) then (z4G x2 (⟨a0,(⟨s2,s3,a2.Right,s4,a2.Equations,a2.Contributions⟩:Rule),a1,s5,s1,s6⟩:l28Work)).bind fun (y2,z3)=>some (y2,z3.visits,z3.r.Name,z3.r.Left,z3.r.Literal,z3.known,z3.steps) else some (false,s1,s2,s3,s4,s5,s6) ).bind fun (s8,s9,s10,s11,s12,s13,s14)=>if s8=true then some (.inl (s9,s10,s11,s12,s13,s14,s7)) else some (.inr false) else if x2.Kind=2 then ( if s7 < (y1.length:Int) then (z2T x2 (⟨a0,(⟨s2,s3,a2.Right,s4,a2.Equations,a2.Contributions⟩:Rule),a1,s5,s1,s6⟩:l28Work)).bind fun (y3,z4)=>some (y3,z4.visits,z4.r.Name,z4.r.Left,z4.r.Literal,z4.known,z4.steps) else some (false,s1,s2,s3,s4,s5,s6) ).bind fun (s15,s16,s17,s18,s19,s20,s21)=>if s15=true then some (.inl (s16,s17,s18,s19,s20,s21,s7)) else some (.inr false) else if x2.Kind=3 then ( if s7 < (y1.length:Int) then some (decide (x2.Pos=0)) else some false ).bind fun s22=>( if s22=true then some (decide (x2.Name=(⟨#[]⟩:ByteArray))) else some false ).bind fun s23=>( if s23=true then grd (I64 (s7+1)) <| some (decide (x2.Visit=(s7+1))) else some false ).bind fun s24=>( if s24=true then grd (0≤s7) <| (y1[s7.toNat]?).bind fun x3=>(q8q (⟨a0,(⟨s2,s3,a2.Right,s4,a2.Equations,a2.Contributions⟩:Rule),a1,s5,s1,s6⟩:l28Work) 0 x3.Synthesized).bind fun y4=>some y4 else some false ).bind fun s25=>grd (I64 (s7+1)) <| ( if s25=true then some (decide ((s7+1) < (y1.length:Int))) else some false ).bind fun s26=>if s26=true then grd (0≤(s7+1)) <| (y1[(s7+1).toNat]?).bind fun x4=>(q9q 0 x4.Inherited (⟨a0,(⟨s2,s3,a2.Right,s4,a2.Equations,a2.Contributions⟩:Rule),a1,s5,s1,s6⟩:l28Work)).bind fun z5=>if s25=true then some (.inl (z5.visits,z5.r.Name,z5.r.Left,z5.r.Literal,z5.known,z5.steps,(s7+1))) else some (.inr false) else if s25=true then some (.inl (s1,s2,s3,s4,s5,s6,(s7+1))) else some (.inr false) else some (.inr false)
def q6b (a0:Grammar)(a1:(List (List Phase)))(a2:Rule)(a3:(List Step)):Option Bool:=grd (0≤(a2.Right.length:Int)∧(a2.Right.length:Int)*8≤281474976710656∧(a2.Right.length:Int)≤9223372036854775807) <| (q6i a0 a1 a2.Left).bind fun y1=>if (y1.length:Int)=0 then some false else (y1[0]?).bind fun x1=>(q9q 0 x1.Inherited (⟨a0,a2,a1,[],(List.replicate a2.Right.length (0:Int)),[]⟩:l28Work)).bind fun z1=>(q2u (q6y a0 a1 a2 y1) 0 a3 (z1.visits,z1.r.Name,z1.r.Left,z1.r.Literal,z1.known,z1.steps,0)).bind <| onr (fun r1=>some r1) fun (s1,s2,s3,s4,s5,s6,s7)=>( if s7=(y1.length:Int) then (z1d (⟨a0,(⟨s2,s3,a2.Right,s4,a2.Equations,a2.Contributions⟩:Rule),a1,s5,s1,s6⟩:l28Work)).bind fun y5=>some y5 else some false ).bind fun s27=>some s27
theorem z7a {a0}{a1}{a2}{a3}{r}(hr:q6b a0 a1 a2 a3=some r){ca0}(ha0:rd F0 w0 a0 ca0){z1}(ha1:rdS F0 w0 a1 z1){ca2}(ha2:rd F0 w0 a2 ca2){z3}(ha3:rdS F0 w0 a3 z3):RB 20 #[ag ca0,z1,ag ca2,z3] w0 r:=by
 obtain⟨A1',n1',c1',rfl⟩:=ha1.form3
 let d11:Pr:=.S a1 (.slice A1' n1' c1')
 obtain⟨A3',n3',c3',rfl⟩:=ha3.form3
 let d12:Pr:=.S a3 (.slice A3' n3' c3')
 have H:=((((HL.start F0 w0).argR ha0).argS ha1).argR ha2).argS ha3
 obtain⟨A1,n1,c1,A2,n2,c2,rfl,H⟩:=q2s H 0
 let d9:Pr:=.S a0.Rules (.slice A2 n2 c2)
 let d8:Pr:=.S a0.Symbols (.slice A1 n1 c1)
 let d3:List Value:=[.slice A1 n1 c1,.slice A2 n2 c2]
 obtain⟨A3,n3,c3,A4,n4,c4,A5,n5,c5,rfl,hS1,hS2,H⟩:=q3j H 2
 let d10:Pr:=.S a2.Right (.slice A3 n3 c3)
 let d7:Pr:=.S a2.Equations (.slice A4 n4 c4)
 let d4:Pr:=.S a2.Contributions (.slice A5 n5 c5)
 let d2:=q4o a2 A3 n3 c3 A4 n4 c4 A5 n5 c5
 let d22:List Pr:=[.R a0 d3,d11,.R a2 d2,d12,d8,d9,d10,d7,d4]
 refine (En Tryz.func20) ?_
 refine R ((BX H) fun b1 w1 H=>(BX H) fun b2 w2 H=>(AZ) ?_)
 let d21:It:=.B b1 35 d3
 have hl1:=(H.rS (i:=6) rfl).I
 refine Y ?_
 refine q0y (fun w=>HL F0 [] w0 w d22 [d21,.B b2 62 d2]) hmix (fun w3 hE=>?_)
 have H:HL F0 [] w0 w3 d22 [d21,.B b2 62 d2]:=H.ext hE
 refine HW.take 0 (H.keep 9 2) rfl (by kernel_rfl) rfl rfl (fun _ hq=>q0c rfl ag35 sz35 rfl (At.blk (hq.rB (i:=0) rfl)) rfl) ?_
 refine HW.take 1 (H.keep 9 2) rfl (by kernel_rfl) rfl rfl (fun _ hq=>q0c rfl ag62 sz62 rfl (At.blk (hq.rB (i:=1) rfl)) rfl) ?_
 refine HW.take 2 (H.keep 9 2) rfl (by kernel_rfl) rfl rfl (fun _ _=>q0j rfl rfl) ?_
 refine HW.take 3 (H.keep 9 2) rfl (by kernel_rfl) rfl rfl (fun _ _=>q0m rfl j6e rfl) ?_
 refine HW.take 4 (H.keep 9 2) rfl (by kernel_rfl) rfl rfl (fun _ hq=>q0h rfl ag58 rfl ((hq.rB (i:=1) rfl).cell rfl)) ?_
 refine HW.take 5 (H.keep 9 2) rfl (by kernel_rfl) rfl rfl (fun _ _=>q0H rfl el58 rfl (rs H 6)) ?_
 refine q0f 6 rfl (by kernel_rfl) ?_
 refine gg hr fun hg1 hr=>?_
 refine q0B (x:=(0:Int)) rfl rfl rfl el94 sz3 by3 ze3 (fun _=>⟨rfl,rfl,dI⟩) rfl rfl hg1 H fun A6 n6 c6 w4 H=>?_
 refine HW.next (H.keep 9 2) ?_
 refine HW.take 7 (H.keep 9 2) rfl (by kernel_rfl) rfl rfl (fun _ _=>Ev.build rfl pl97 ze97 rfl rfl rfl rfl) ?_
 refine q0f 8 rfl (by kernel_rfl) ((BX H) fun b3 w5 H=>?_)
 let d6:List It:=[d21,.B b2 62 d2,.O 3 (List.replicate a2.Right.length (0:Int)) (.slice A6 n6 c6),.B b3 97 [.slice A1 n1 c1,.slice A2 n2 c2,.string a2.Name,.string a2.Left,.slice A3 n3 c3,.bool a2.Literal,.slice A4 n4 c4,.slice A5 n5 c5,.slice A1' n1' c1',.slice none 0 0,.slice A6 n6 c6,.slice none 0 0]]
 refine HW.next (H.keep 9 2) ?_
 refine HW.take 9 (H.keep 9 2) rfl (by kernel_rfl) rfl rfl (fun _ _=>q1m rfl rfl) ?_
 refine q0r (by kernel_rfl) (R ((LB H 0) ((V) ((D 1) ((L H 1) ?_)))))
 refine bb hr fun y1 hy1 hr=>?_
 obtain⟨F,hF,hcl⟩:=H.call
 refine (CA ok39 (z2S hy1 ⟨_,_,rfl,(hF.get (i:=4) rfl),(hF.get (i:=5) rfl)⟩ (hF.get (i:=1) rfl) hS2)) ?_
 rintro _ w6 hE ⟨A7,n7,c7,rfl,H'⟩
 let d15:Pr:=.S y1 (.slice A7 n7 c7)
 let d19:List Pr:=[.R a0 d3,d11,.R a2 d2,d12,d8,d9,d10,d7,d4,d15]
 have H:HL F0 [] w0 w6 d19 d6:=hcl H'
 refine (A) (Z (Y (R ((V) ((NI H 9) fun hl2=>(BZ) (iD hr (fun _ hr=>?_) fun _ hr=>?_))))))
 ·refine Y ?_
  refine q0a [] trivial fun σ=>?_
  have H:HL F0 [] w0 w6 d19 d6:=H
  exact X ((AZ) (W1 hr))
 refine K (Y ?_)
 refine q0a [(3,.slice A3' n3' c3'),(9,pB b3),(10,.slice A7 n7 c7)] ⟨rfl,rfl,rfl,trivial⟩ fun σ=>?_
 have H:HL F0 [] w0 w6 d19 d6:=H
 refine X ((A) (Z (R ((V) ((V) ?_)))))
 refine bb hr fun x1 hx1 hr=>?_
 obtain⟨b4,ob4,cb4,A8,n8,c8,A9,n9,c9,hvb4,H⟩:=q5M H 9 hx1
 let d14:Pr:=.S x1.Synthesized (.slice A9 n9 c9)
 let d13:Pr:=.S x1.Inherited (.slice A8 n8 c8)
 let d5:List Value:=[.slice A8 n8 c8,.slice A9 n9 c9]
 let d16:Pr:=.A b4 (ob4+0*2) d5
 let d20:List Pr:=[.R a0 d3,d11,.R a2 d2,d12,d8,d9,d10,d7,d4,d15,d16,.R x1 d5,d13,d14]
 refine (J 2 hvb4 hx1) ((D 0) ((LC H 10) ?_))
 have H:=H.nil (α:=Occurrence) 133
 have H:=H.nil (α:=Step) 102
 refine bb hr fun z1 hy2 hr=>?_
 obtain⟨F',M',hfF,hoF,hcM⟩:=H.callN [false,false,true,true,true,true] ⟨noO,noB,noO,noO,trivial⟩
 obtain⟨H',hcN⟩:=hcM (ps:=[d13,d8,d9,d10,d7,d4,d11]) ⟨hfF.get (i:=12) rfl,hfF.get (i:=4) rfl,hfF.get (i:=5) rfl,hfF.get (i:=6) rfl,hfF.get (i:=7) rfl,hfF.get (i:=8) rfl,hfF.get (i:=1) rfl,trivial⟩
 refine (CA ok40 (z3T hy2 dI hS1 hS2 H')) ?_
 rintro _ w7 hE ⟨A10,n10,c10,A11,n11,c11,A12,n12,c12,rfl,hS3,hS4,H'⟩
 have H:=hcN 4 H' rfl ⟨fun _ _ _ _ _ h=>h,⟨fun _ _ _ _ _ h=>h,⟨fun _ _ _ _ _ h=>h,tv⟩⟩⟩
 refine Z (Y (R ((AZ) ?_)))
 refine bb hr fun q1 hq1 hr=>?_
 refine (lF (β:=Value × Value × Value) hq1 (fun k1 ⟨s1,s2,s3,s4,s5,s6,s7⟩ ⟨v1,v2,v3⟩=>[(3,.slice A3' n3' c3'),(9,pB b3),(10,.slice A7 n7 c7),(11,.int .i64 s7),(12,zN k1)]) (fun ⟨s1,s2,s3,s4,s5,s6,s7⟩ ⟨v1,v2,v3⟩ w=>s2.size≤9223372036854775807∧s3.size≤9223372036854775807∧I64 s7∧HL F0 [] w0 w d20 [d21,.B b2 62 d2,.O 3 s1 v1,.B b3 97 [.slice A1 n1 c1,.slice A2 n2 c2,.string s2,.string s3,.slice A3 n3 c3,.bool s4,.slice A4 n4 c4,.slice A5 n5 c5,.slice A1' n1' c1',v2,v1,v3],.O 133 s5 v2,.O 102 s6 v3]) ⟨(.slice A11 n11 c11),(.slice A10 n10 c10),(.slice A12 n12 c12)⟩) ?_
 rintro k1 ⟨s1,s2,s3,s4,s5,s6,s7⟩ ⟨v1,v2,v3⟩ σ w8 hk1 hq1 ⟨hS5,hS6,hI1,H⟩
 obtain⟨A13,n13,c13,rfl⟩:=(fo H 2)
 obtain⟨A14,n14,c14,rfl⟩:=(fo H 4)
 obtain⟨A15,n15,c15,rfl⟩:=(fo H 5)
 let d17:It:=.B b3 97 [.slice A1 n1 c1,.slice A2 n2 c2,.string s2,.string s3,.slice A3 n3 c3,.bool s4,.slice A4 n4 c4,.slice A5 n5 c5,.slice A1' n1' c1',.slice A14 n14 c14,.slice A13 n13 c13,.slice A15 n15 c15]
 refine Y (R ((V) ((V) ((NI H 3) fun hl3=>(BZ) ?_))))
 refine (iF hq1 hr (fun hk2 x2 z2 hx2 hb1 hs1 ht1=>?_) fun hr=>?_)
 ·let d18:Pr:=.R x2 (q5i x2)
  unfold q6y at hb1
  dsimp only at hb1
  refine K (Y ?_)
  refine Bk (R ((V) ((V) ?_)))
  obtain⟨b5,ob5,cb5,hvb5,hI2,hI3,hI4,hS7,H⟩:=z4z H 3 hx2
  refine (J 4 hvb5 hx2) ((LA H 14) ((AH j6d H) fun b6 w9 H=>(SB H 6) fun w10 H=>Z (R ((V) ((V) ((NN (rs H 9)) ((B) ((A) (Z (Y (R ((D 0) ((L H 6) (Z ?_))))))))))))))
  let d1:List It:=[d21,.B b2 62 d2,.O 3 s1 (.slice A13 n13 c13),d17,.O 133 s5 (.slice A14 n14 c14),.O 102 s6 (.slice A15 n15 c15),.B b6 102 (q5i x2)]
  refine Bk (R ((B) ((AZ) (iD hb1 (fun _ hb1=>?_) fun _ hb1=>?_))))
  ·refine X ((V) ?_)
   refine bb hb1 fun q2 hm1 hb1=>?_
   refine WL.cut 5 (fun ρ' w=>∃ (s8:Bool) (s9:List Int) (s10:ByteArray) (s11:ByteArray) (s12:Bool) (s13:List Occurrence) (s14:List Step) (v4:Value) (v5:Value) (v6:Value),q2=(s8,s9,s10,s11,s12,s13,s14)∧q4R ρ' [(3,.slice A3' n3' c3'),(9,pB b3),(10,.slice A7 n7 c7),(11,.int .i64 s7),(12,zN k1),(14,.bool (decide (s7 < (y1.length:Int)))),(61,.bool s8)]∧s10.size≤9223372036854775807∧s11.size≤9223372036854775807∧HL F0 [] w0 w [.R a0 d3,d11,.R a2 d2,d12,d8,d9,d10,d7,d4,d15,d16,.R x1 d5,d13,d14,.A b5 (ob5+k1*4) (q5i x2),d18] [d21,.B b2 62 d2,.O 3 s9 v4,.B b3 97 [.slice A1 n1 c1,.slice A2 n2 c2,.string s10,.string s11,.slice A3 n3 c3,.bool s12,.slice A4 n4 c4,.slice A5 n5 c5,.slice A1' n1' c1',v5,v4,v6],.O 133 s13 v5,.O 102 s14 v6,.B b6 102 (q5i x2)]) ?_ ?_
   ·refine jD hm1 (fun _ hm1=>?_) fun _ hm1=>?_
    ·refine (G) ((V) ((G) ((LB H 6) ((G) ?_))))
     obtain⟨⟨y2,z3⟩,hy3,hm1⟩:=bd hm1
     obtain⟨F',M',hfF,hoF,hcM⟩:=H.callN [false,false,true,true,true,true,false] ⟨noO,noB,noO,noO,trivial⟩
     obtain⟨H',hcN⟩:=hcM (ps:=[d8,.S a0.Rules (.slice A2 n2 c2),.S a2.Right (.slice A3 n3 c3),d7,d4,.S a1 (.slice A1' n1' c1')]) ⟨hfF.get (i:=4) rfl,hfF.get (i:=5) rfl,hfF.get (i:=6) rfl,hfF.get (i:=7) rfl,hfF.get (i:=8) rfl,hfF.get (i:=1) rfl,trivial⟩
     refine (CA ok41 (j3C hy3 hI2 hI3 hI4 hS7 hS5 hS6 H')) ?_
     rintro _ w11 hE ⟨A16,n16,c16,A17,n17,c17,A18,n18,c18,rfl,hS10,hS11,H'⟩
     have H:=hcN 4 H' rfl ⟨fun _ _ _ _ _ h=>h,⟨fun _ _ _ _ _ h=>h,⟨fun _ _ _ _ _ h=>h,tv⟩⟩⟩
     exact (T) (Z (C1 hm1))
    exact OF hm1
   rintro ρ' w12 ⟨s8,s9,s10,s11,s12,s13,s14,v4,v5,v6,rfl,hag,hS8,hS9,H⟩
   obtain⟨σ,rfl⟩:=q4H hag
   obtain⟨A19,n19,c19,rfl⟩:=(fo H 2)
   obtain⟨A20,n20,c20,rfl⟩:=(fo H 4)
   obtain⟨A21,n21,c21,rfl⟩:=(fo H 5)
   refine (A) (Z (R ((V) ((N) (Z (iM hb1 (fun _ hb1=>?_) fun _ hb1=>?_))))))
   ·exact R ((AZ) (W2 hb1 ht1 hr))
   exact K (X ((V) ((AN hk2 hl3) ((A) (Z (I2 hb1 hs1 ⟨k1+1,⟨s9,s10,s11,s12,s13,s14,s7⟩,⟨(.slice A19 n19 c19),(.slice A20 n20 c20),(.slice A21 n21 c21)⟩⟩))))))
  refine R ((B) ((AZ) (iD hb1 (fun _ hb1=>?_) fun _ hb1=>?_)))
  ·refine X ((V) ?_)
   refine bb hb1 fun q3 hm2 hb1=>?_
   refine WL.cut 5 (fun ρ' w=>∃ (s15:Bool) (s16:List Int) (s17:ByteArray) (s18:ByteArray) (s19:Bool) (s20:List Occurrence) (s21:List Step) (v7:Value) (v8:Value) (v9:Value),q3=(s15,s16,s17,s18,s19,s20,s21)∧q4R ρ' [(3,.slice A3' n3' c3'),(9,pB b3),(10,.slice A7 n7 c7),(11,.int .i64 s7),(12,zN k1),(14,.bool (decide (s7 < (y1.length:Int)))),(69,.bool s15)]∧s17.size≤9223372036854775807∧s18.size≤9223372036854775807∧HL F0 [] w0 w [.R a0 d3,d11,.R a2 d2,d12,d8,d9,d10,d7,d4,d15,d16,.R x1 d5,d13,d14,.A b5 (ob5+k1*4) (q5i x2),d18] [d21,.B b2 62 d2,.O 3 s16 v7,.B b3 97 [.slice A1 n1 c1,.slice A2 n2 c2,.string s17,.string s18,.slice A3 n3 c3,.bool s19,.slice A4 n4 c4,.slice A5 n5 c5,.slice A1' n1' c1',v8,v7,v9],.O 133 s20 v8,.O 102 s21 v9,.B b6 102 (q5i x2)]) ?_ ?_
   ·refine jD hm2 (fun _ hm2=>?_) fun _ hm2=>?_
    ·refine (G) ((V) ((G) ((LB H 6) ((G) ?_))))
     obtain⟨⟨y3,z4⟩,hy4,hm2⟩:=bd hm2
     obtain⟨F',M',hfF,hoF,hcM⟩:=H.callN [false,false,true,true,true,true,false] ⟨noO,noB,noO,noO,trivial⟩
     obtain⟨H',hcN⟩:=hcM (ps:=[d8,.S a0.Rules (.slice A2 n2 c2),.S a2.Right (.slice A3 n3 c3),d7,d4,.S a1 (.slice A1' n1' c1')]) ⟨hfF.get (i:=4) rfl,hfF.get (i:=5) rfl,hfF.get (i:=6) rfl,hfF.get (i:=7) rfl,hfF.get (i:=8) rfl,hfF.get (i:=1) rfl,trivial⟩
     refine (CA ok42 (j2n hy4 hI2 hI3 hI4 hS7 hS5 hS6 H')) ?_
     rintro _ w13 hE ⟨A22,n22,c22,A23,n23,c23,A24,n24,c24,rfl,hS14,hS15,H'⟩
     have H:=hcN 4 H' rfl ⟨fun _ _ _ _ _ h=>h,⟨fun _ _ _ _ _ h=>h,⟨fun _ _ _ _ _ h=>h,tv⟩⟩⟩
     exact (T) (Z (C1 hm2))
    exact OF hm2
   rintro ρ' w14 ⟨s15,s16,s17,s18,s19,s20,s21,v7,v8,v9,rfl,hag,hS12,hS13,H⟩
   obtain⟨σ,rfl⟩:=q4H hag
   obtain⟨A25,n25,c25,rfl⟩:=(fo H 2)
   obtain⟨A26,n26,c26,rfl⟩:=(fo H 4)
   obtain⟨A27,n27,c27,rfl⟩:=(fo H 5)
   refine (A) (Z (R ((V) ((N) (Z (iM hb1 (fun _ hb1=>?_) fun _ hb1=>?_))))))
   ·exact R ((AZ) (W2 hb1 ht1 hr))
   exact K (X ((V) ((AN hk2 hl3) ((A) (Z (I2 hb1 hs1 ⟨k1+1,⟨s16,s17,s18,s19,s20,s21,s7⟩,⟨(.slice A25 n25 c25),(.slice A26 n26 c26),(.slice A27 n27 c27)⟩⟩))))))
  refine R ((B) ((AZ) (iD hb1 (fun _ hb1=>?_) fun _ hb1=>?_)))
  ·refine Y ?_
   refine q0a [(3,.slice A3' n3' c3'),(9,pB b3),(10,.slice A7 n7 c7),(11,.int .i64 s7),(12,zN k1),(13,pB b6),(14,.bool (decide (s7 < (y1.length:Int))))] ⟨rfl,rfl,rfl,rfl,rfl,rfl,rfl,trivial⟩ fun σ=>?_
   have H:HL F0 [] w0 w10 [.R a0 d3,d11,.R a2 d2,d12,d8,d9,d10,d7,d4,d15,d16,.R x1 d5,d13,d14,.A b5 (ob5+k1*4) (q5i x2),d18] d1:=H
   refine X ((V) ?_)
   refine bb hb1 fun q4 hm3 hb1=>?_
   refine cu H 5 [(3,.slice A3' n3' c3'),(9,pB b3),(10,.slice A7 n7 c7),(11,.int .i64 s7),(12,zN k1),(13,pB b6),(14,.bool (decide (s7 < (y1.length:Int)))),(77,.bool q4)] [.R a0 d3,d11,.R a2 d2,d12,d8,d9,d10,d7,d4,d15,d16,.R x1 d5,d13,d14,.A b5 (ob5+k1*4) (q5i x2),d18] d1 ?_ fun σ w15 H=>?_
   ·refine jD hm3 (fun _ hm3=>?_) fun _ hm3=>?_
    ·exact (G) ((D 1) ((G) ((L H 6) ((G) ((B) ((T) (Z (C1 hm3))))))))
    exact OF hm3
   refine bb hb1 fun q5 hm4 hb1=>?_
   refine cu H 5 [(3,.slice A3' n3' c3'),(9,pB b3),(10,.slice A7 n7 c7),(11,.int .i64 s7),(12,zN k1),(13,pB b6),(14,.bool (decide (s7 < (y1.length:Int)))),(82,.bool q5)] [.R a0 d3,d11,.R a2 d2,d12,d8,d9,d10,d7,d4,d15,d16,.R x1 d5,d13,d14,.A b5 (ob5+k1*4) (q5i x2),d18] d1 ?_ fun σ w16 H=>?_
   ·refine jB hm4 (fun _ hm4=>?_) fun _ hm4=>?_
    ·exact (G) ((D 3) ((G) ((L H 6) ((G) ((B) ((T) (Z (C1 hm4))))))))
    exact OF hm4
   refine bb hb1 fun q6 hm5 hb1=>?_
   refine cu H 7 [(3,.slice A3' n3' c3'),(9,pB b3),(10,.slice A7 n7 c7),(11,.int .i64 s7),(12,zN k1),(14,.bool (decide (s7 < (y1.length:Int)))),(89,.bool q6)] [.R a0 d3,d11,.R a2 d2,d12,d8,d9,d10,d7,d4,d15,d16,.R x1 d5,d13,d14,.A b5 (ob5+k1*4) (q5i x2),d18] d1 ?_ fun σ w17 H=>?_
   ·refine jB hm5 (fun _ hm5=>?_) fun _ hm5=>?_
    ·refine (G) ((D 2) ((G) ((L H 6) ((G) ((V) ((G) ?_))))))
     exact gg hm5 fun hg2 hm5=>(BN (Bin.add hg2)) ((G) ((B) ((T) (Z (C1 hm5)))))
    exact OF hm5
   refine bb hb1 fun q7 hm6 hb1=>?_
   refine cu H 9 [(3,.slice A3' n3' c3'),(9,pB b3),(10,.slice A7 n7 c7),(11,.int .i64 s7),(12,zN k1),(14,.bool (decide (s7 < (y1.length:Int)))),(98,.bool q7)] [.R a0 d3,d11,.R a2 d2,d12,d8,d9,d10,d7,d4,d15,d16,.R x1 d5,d13,d14,.A b5 (ob5+k1*4) (q5i x2),d18] d1 ?_ fun σ w19 H=>?_
   ·refine jB hm6 (fun _ hm6=>?_) fun _ hm6=>?_
    ·refine (G) ((V) ((G) ((V) ((G) ((V) ((G) ?_))))))
     refine gg hm6 fun hg3 hm6=>?_
     refine bb hm6 fun x3 hx3 hm6=>?_
     obtain⟨b7,ob7,cb7,A28,n28,c28,A29,n29,c29,hvb7,H⟩:=q5M H 9 hx3
     refine q0b rfl rfl (q0l rfl el54 z5P rfl hvb7 rfl hg3 (q4G hx3)) ((G) ((D 1) ((G) ((LC H 16) ((G) ?_)))))
     refine bb hm6 fun y4 hy5 hm6=>?_
     exact (CA ok43 (z7C hy5 (F0:=fun q=>q < _) ⟨(rb H 3).lt,_,At.blk (rb H 3),⟨_,_,_,_,_,_,_,_,_,rfl,hS5,hS6,(rs H 4),(rs H 5),(rs H 6),(rs H 7),(rs H 8),(rs H 1),(ro H 4),(ro H 2),(ro H 5)⟩⟩ dI (rs H 19))) (cE H fun w18 H=>(T) (Z (C1 hm6)))
    exact OF hm6
   refine (A) (Z (R ((V) ?_)))
   refine gg hb1 fun hg4 hb1=>(BN (Bin.add hg4)) ((A) (Z (R ((V) ?_))))
   refine bb hb1 fun q8 hm7 hb1=>?_
   refine cu H 6 [(3,.slice A3' n3' c3'),(9,pB b3),(10,.slice A7 n7 c7),(11,.int .i64 (s7+1)),(12,zN k1),(14,.bool q7),(107,.bool q8)] [.R a0 d3,d11,.R a2 d2,d12,d8,d9,d10,d7,d4,d15,d16,.R x1 d5,d13,d14,.A b5 (ob5+k1*4) (q5i x2),d18] d1 ?_ fun σ w20 H=>?_
   ·refine jB hm7 (fun _ hm7=>?_) fun _ hm7=>?_
    ·exact (G) ((V) ((G) ((V) ((G) ((NN (rs H 9)) ((G) ((B) ((T) (Z (C1 hm7))))))))))
    exact OF hm7
   refine Z (iB hb1 (fun _ hb1=>?_) fun _ hb1=>?_)
   ·refine X ((V) ((V) ((V) ?_)))
    refine gg hb1 fun hg5 hb1=>?_
    refine bb hb1 fun x4 hx4 hb1=>?_
    obtain⟨b8,ob8,cb8,A30,n30,c30,A31,n31,c31,hvb8,H⟩:=q5M H 9 hx4
    refine q0b rfl rfl (q0l rfl el54 z5P rfl hvb8 rfl hg5 (q4G hx4)) ((D 0) ((LC H 16) ?_))
    refine bb hb1 fun z5 hy6 hb1=>?_
    obtain⟨F',M',hfF,hoF,hcM⟩:=H.callN [false,false,true,true,true,true,false] ⟨noO,noB,noO,noO,trivial⟩
    obtain⟨H',hcN⟩:=hcM (ps:=[.S x4.Inherited (.slice A30 n30 c30),d8,d9,d10,d7,d4,d11]) ⟨hfF.get (i:=18) rfl,hfF.get (i:=4) rfl,hfF.get (i:=5) rfl,hfF.get (i:=6) rfl,hfF.get (i:=7) rfl,hfF.get (i:=8) rfl,hfF.get (i:=1) rfl,trivial⟩
    refine (CA ok40 (z3T hy6 dI hS5 hS6 H')) ?_
    rintro _ w21 hE ⟨A32,n32,c32,A33,n33,c33,A34,n34,c34,rfl,hS16,hS17,H'⟩
    have H:=hcN 4 H' rfl ⟨fun _ _ _ _ _ h=>h,⟨fun _ _ _ _ _ h=>h,⟨fun _ _ _ _ _ h=>h,tv⟩⟩⟩
    refine Z (R ((V) ((N) (Z (iM hb1 (fun _ hb1=>?_) fun _ hb1=>?_)))))
    ·exact R ((AZ) (W2 hb1 ht1 hr))
    exact K (X ((V) ((AN hk2 hl3) ((A) (Z (I2 hb1 hs1 ⟨k1+1,⟨z5.visits,z5.r.Name,z5.r.Left,z5.r.Literal,z5.known,z5.steps,(s7+1)⟩,⟨(.slice A33 n33 c33),(.slice A32 n32 c32),(.slice A34 n34 c34)⟩⟩))))))
   refine K (R ((V) ((N) (Z (iM hb1 (fun _ hb1=>?_) fun _ hb1=>?_)))))
   ·exact R ((AZ) (W2 hb1 ht1 hr))
   exact K (X ((V) ((AN hk2 hl3) ((A) (Z (I2 hb1 hs1 ⟨k1+1,⟨s1,s2,s3,s4,s5,s6,(s7+1)⟩,⟨(.slice A13 n13 c13),(.slice A14 n14 c14),(.slice A15 n15 c15)⟩⟩))))))
  refine q0a [(3,.slice A3' n3' c3'),(9,pB b3),(10,.slice A7 n7 c7),(11,.int .i64 s7),(12,zN k1)] ⟨rfl,rfl,rfl,rfl,rfl,trivial⟩ fun σ=>?_
  have H:HL F0 [] w0 w10 [.R a0 d3,d11,.R a2 d2,d12,d8,d9,d10,d7,d4,d15,d16,.R x1 d5,d13,d14,.A b5 (ob5+k1*4) (q5i x2),d18] d1:=H
  exact X ((A) (Z (R ((V) ((N) (Z ((cT) (R ((AZ) (W2 hb1 ht1 hr))))))))))
 refine CE (R ((V) ((V) ((NN (rs H 9)) ((B) ?_)))))
 refine bb hr fun q9 hm8 hr=>?_
 refine cu H 4 [(124,.bool q9)] d20 [d21,.B b2 62 d2,.O 3 s1 (.slice A13 n13 c13),d17,.O 133 s5 (.slice A14 n14 c14),.O 102 s6 (.slice A15 n15 c15)] ?_ fun σ w23 H=>?_
 ·refine jD hm8 (fun _ hm8=>?_) fun _ hm8=>?_
  ·refine (G) ((V) ((G) ?_))
   refine bb hm8 fun y5 hy7 hm8=>?_
   exact (CA ok44 (j2o hy7 (F0:=fun q=>q < _) ⟨(rb H 3).lt,_,At.blk (rb H 3),⟨_,_,_,_,_,_,_,_,_,rfl,hS5,hS6,(rs H 4),(rs H 5),(rs H 6),(rs H 7),(rs H 8),(rs H 1),(ro H 4),(ro H 2),(ro H 5)⟩⟩)) (cE H fun w22 H=>(T) (Z (C1 hm8)))
  exact OF hm8
 exact (AZ) (W1 hr)
def z6n:Nat→(List Phase)→Unit→Option (Unit ⊕ Bool):=fun k1 x1 _=>if (x1.length:Int)=0 then some (.inr false) else some (.inl ())
def z6o (a0:Grammar)(a1:(List (List Phase))):Nat→RulePlan→Unit→Option (Unit ⊕ Bool):=fun k2 x2 _=>(a0.Rules[k2]?).bind fun x3=>if x2.Rule=x3.Name then (q6b a0 a1 x3 x2.Steps).bind fun y2=>if y2=true then some (.inl ()) else some (.inr false) else some (.inr false)
def z0c (a0:Grammar)(a1:(List (List Phase)))(a2:(List RulePlan)):Option Bool:=(z2R a0).bind fun y1=>( if y1=true then some (!(decide ((a1.length:Int)=(a0.Symbols.length:Int)))) else some true ).bind fun s1=>( if s1=true then some true else some (!(decide ((a2.length:Int)=(a0.Rules.length:Int)))) ).bind fun s2=>if s2=true then some false else (q2u z6n 0 a1 ()).bind <| onr (fun r1=>some r1) fun _=>(q2u (z6o a0 a1) 0 a2 ()).bind <| onr (fun r2=>some r2) fun _=>some true
theorem j1m {a0}{a1}{a2}{r}(hr:z0c a0 a1 a2=some r){ca0}(ha0:rd F0 w0 a0 ca0){z1}(ha1:rdS F0 w0 a1 z1){z2}(ha2:rdS F0 w0 a2 z2):RB 7 #[ag ca0,z1,z2] w0 r:=by
 obtain⟨A1',n1',c1',rfl⟩:=ha1.form3
 let d8:Pr:=.S a1 (.slice A1' n1' c1')
 obtain⟨A2',n2',c2',rfl⟩:=ha2.form3
 let d9:Pr:=.S a2 (.slice A2' n2' c2')
 have H:=(((HL.start F0 w0).argR ha0).argS ha1).argS ha2
 obtain⟨A1,n1,c1,A2,n2,c2,rfl,H⟩:=q2s H 0
 let d6:Pr:=.S a0.Rules (.slice A2 n2 c2)
 let d5:Pr:=.S a0.Symbols (.slice A1 n1 c1)
 let d2:List Value:=[.slice A1 n1 c1,.slice A2 n2 c2]
 let d1:List Pr:=[.R a0 d2,d8,d9,d5,d6]
 refine (En Tryz.func7) ?_
 refine R ((BX H) fun b1 w1 H=>(A) (Z (Y (R ((LB H 0) ?_)))))
 let d7:List It:=[.B b1 35 d2]
 refine bb hr fun y1 hy1 hr=>?_
 refine (CA ok19 (j2m hy1 ⟨_,_,rfl,(rs H 3),(rs H 4)⟩)) (cE H fun w2 H=>(N) ?_)
 refine bb hr fun q1 hm1 hr=>?_
 refine cu H 8 [(1,.slice A1' n1' c1'),(2,.slice A2' n2' c2'),(3,pB b1),(19,.bool q1)] d1 d7 ?_ fun σ w3 H=>?_
 ·refine jM hm1 (fun _ hm1=>?_) fun _ hm1=>?_
  ·exact OF hm1
  exact (G) ((V) ((G) ((NI H 1) fun hl1=>(G) ((D 0) ((G) ((L H 0) ((G) ((NI H 3) fun hl2=>(G) ((B) ((U) (Z (C1 hm1))))))))))))
 refine bb hr fun q2 hm2 hr=>?_
 refine cu H 8 [(1,.slice A1' n1' c1'),(2,.slice A2' n2' c2'),(3,pB b1),(27,.bool q2)] d1 d7 ?_ fun σ w4 H=>?_
 ·refine jB hm2 (fun _ hm2=>?_) fun _ hm2=>?_
  ·exact OF hm2
  exact (G) ((V) ((G) ((NI H 2) fun hl3=>(G) ((D 1) ((G) ((L H 0) ((G) ((NI H 4) fun hl4=>(G) ((B) ((U) (Z (C1 hm2))))))))))))
 refine Z (iB hr (fun _ hr=>?_) fun _ hr=>?_)
 ·exact R ((AZ) (W1 hr))
 refine K (Y (R ((AZ) ?_)))
 refine bb hr fun q3 hq1 hr=>?_
 refine (lF hq1 (fun k1 _ _=>[(1,.slice A1' n1' c1'),(2,.slice A2' n2' c2'),(3,pB b1),(7,zN k1)]) (fun _ _ w=>HL F0 [] w0 w d1 d7) ()) ?_
 rintro k1 _ _ σ w5 hk1 hq1 H
 refine Y (R ((V) ((V) ((NI H 1) fun hl5=>(BZ) ?_))))
 refine (iF hq1 hr (fun hk2 x1 z1 hx1 hb1 hs1 ht1=>?_) fun hr=>?_)
 ·refine K (Y ?_)
  refine Bk (R ((V) ((V) ?_)))
  obtain⟨b2,ob2,cb2,A3,n3,c3,hvb2,H⟩:=z5O H 1 hx1
  refine (J 1 hvb2 hx1) ((L0 H 5) ((NI H 7) fun hl6=>(BZ) (iD hb1 (fun _ hb1=>?_) fun _ hb1=>?_)))
  ·exact R ((AZ) (W2 hb1 ht1 hr))
  exact K (X ((V) ((AN hk2 hl5) ((A) (Z (I2 hb1 hs1 ⟨k1+1,(),()⟩))))))
 refine CE (Y (R ((AZ) ?_)))
 refine bb hr fun q4 hq2 hr=>?_
 refine (lF hq2 (fun k2 _ _=>[(1,.slice A1' n1' c1'),(2,.slice A2' n2' c2'),(3,pB b1),(8,zN k2)]) (fun _ _ w=>HL F0 [] w0 w d1 d7) ()) ?_
 rintro k2 _ _ σ w6 hk3 hq2 H
 refine Y (R ((V) ((V) ((NI H 2) fun hl7=>(BZ) ?_))))
 refine (iF hq2 hr (fun hk4 x2 z2 hx2 hb2 hs2 ht2=>?_) fun hr=>?_)
 ·refine K (Y ?_)
  refine Bk (Y ?_)
  refine q0d hmix (by kernel_rfl) ?_
  refine (qV) ((qV) ?_)
  obtain⟨b3,ob3,cb3,A4,n4,c4,hvb3,hS1,H⟩:=q8x H 2 hx2
  let d4:=j0u x2 A4 n4 c4
  refine (qJ 2 hvb3 hx2) ((qD 0) ((qLC H 5) ((qD 1) ((qL H 0) ((qV) ?_)))))
  refine bb hb2 fun x3 hx3 hb2=>?_
  obtain⟨b4,ob4,cb4,A5,n5,c5,A6,n6,c6,A7,n7,c7,hvb4,hS2,hS3,H⟩:=q6N H 4 hx3
  let d3:=q4o x3 A5 n5 c5 A6 n6 c6 A7 n7 c7
  refine (qJ 6 hvb4 hx3) ((qD 0) ((qLC H 8) ((qB) ?_)))
  refine kN hb2 (fun _ hb2=>?_) fun _ hb2=>?_
  ·refine (qO) ((qO) ((qO) ((qO) ((qO) ((qO) ((qO) ((qO) ((qO) ((qO) ((qO) ((qO) ((qO) ((qO) ((qT) ?_))))))))))))))
   refine QL.nil (fun w7 hE=>?_)
   have H:=H.ext hE
   exact (cT) (R ((AZ) (W2 hb2 ht2 hr)))
  refine (qG) ((qLB H 0) ((qG) ((qV) ((qG) ((qD 1) ((qG) ((qL H 0) ((qG) ((qV) ((qG) ((qJ 6 hvb4 hx3) ((qG) ((qLA H 8) ((qG) ((qV) ((qG) ((qV) ((qG) ((qJ 2 hvb3 hx2) ((qG) ((qD 1) ((qG) ((qLC H 5) ((qG) ?_))))))))))))))))))))))))
  refine bb hb2 fun y2 hy2 hb2=>?_
  refine (qC ok20 (fun _ hq=>z7a hy2 ⟨_,_,rfl,(rs (H.ext hq) 3),(rs (H.ext hq) 4)⟩ (rs (H.ext hq) 1) ⟨_,_,_,rfl,hS2,hS3,(rs (H.ext hq) 10),(rs (H.ext hq) 11),(rs (H.ext hq) 12)⟩ (rs (H.ext hq) 7))) ?_
  refine (qG) ((qN) ((qU) ?_))
  refine QL.nil (fun w8 hE=>?_)
  have H:=H.ext hE
  refine iM hb2 (fun _ hb2=>?_) fun _ hb2=>?_
  ·refine Y ?_
   refine q0a [] trivial fun σ=>?_
   have H:HL F0 [] w0 w8 [.R a0 d2,d8,d9,d5,d6,.A b3 (ob3+k2*2) d4,.R x2 d4,.S x2.Steps (.slice A4 n4 c4),.A b4 (ob4+k2*6) d3,.R x3 d3,.S x3.Right (.slice A5 n5 c5),.S x3.Equations (.slice A6 n6 c6),.S x3.Contributions (.slice A7 n7 c7)] d7:=H
   exact X ((AZ) (W2 hb2 ht2 hr))
  refine K ?_
  refine q0a [(1,.slice A1' n1' c1'),(2,.slice A2' n2' c2'),(3,pB b1),(8,zN k2),(59,.agg #[.slice A1 n1 c1,.slice A2 n2 c2]),(60,.slice A1' n1' c1'),(61,.pointer (some ⟨b1,0+1,none⟩)),(62,.slice A2 n2 c2),(63,zN k2),(64,.pointer (some ⟨b4,ob4+k2*6,none⟩)),(65,.agg #[.string x3.Name,.string x3.Left,.slice A5 n5 c5,.bool x3.Literal,.slice A6 n6 c6,.slice A7 n7 c7]),(66,.slice A2' n2' c2'),(67,zN k2),(68,.pointer (some ⟨b3,ob3+k2*2,none⟩)),(69,.pointer (some ⟨b3,ob3+k2*2+1,none⟩)),(70,.slice A4 n4 c4),(71,.bool y2),(72,.bool (!y2))] ⟨rfl,rfl,rfl,rfl,rfl,rfl,rfl,rfl,rfl,rfl,rfl,rfl,rfl,rfl,rfl,rfl,rfl,rfl,trivial⟩ fun σ=>?_
  have H:HL F0 [] w0 w8 [.R a0 d2,d8,d9,d5,d6,.A b3 (ob3+k2*2) d4,.R x2 d4,.S x2.Steps (.slice A4 n4 c4),.A b4 (ob4+k2*6) d3,.R x3 d3,.S x3.Right (.slice A5 n5 c5),.S x3.Equations (.slice A6 n6 c6),.S x3.Contributions (.slice A7 n7 c7)] d7:=H
  exact X ((V) ((AN hk4 hl7) ((A) (Z (I2 hb2 hs2 ⟨k2+1,(),()⟩)))))
 exact CE (R ((AZ) (W1 hr)))
def q2Y (a0 a1 a2:Int):Option Bool:=if a1≤a0 then some (decide (a0≤a2)) else some false
theorem q3u {a0 a1 a2}{r}(hr:q2Y a0 a1 a2=some r){F0:Nat→Prop}(ha0:I64 a0)(ha1:I64 a1)(ha2:I64 a2):RB 93 #[.int .i64 a0,.int .i64 a1,.int .i64 a2] w0 r:=by
 have H:=HL.start F0 w0
 refine (En Tryz.func93) ?_
 refine R ((A) (Z (R ((V) ((V) ((B) (jD hr (fun _ hr=>?_) fun _ hr=>?_)))))))
 ·exact (G) ((V) ((G) ((V) ((G) ((B) ((T) ((AZ) (W1 hr))))))))
 exact (O) ((O) ((O) ((U) ((AZ) (W1 hr)))))
def z2q (a0:UInt8):Option Bool:=if 97≤(a0.toNat:Int) then some (decide ((a0.toNat:Int)≤122)) else some false
theorem z9e {a0}{r}(hr:z2q a0=some r){F0:Nat→Prop}:RB 235 #[.int .u8 (a0.toNat:Int)] w0 r:=by
 have H:=HL.start F0 w0
 refine (En Tryz.func235) ?_
 refine R ((A) (Z (R ((V) ((B) (jD hr (fun _ hr=>?_) fun _ hr=>?_))))))
 ·exact (G) ((V) ((G) ((B) ((T) ((AZ) (W1 hr))))))
 exact (O) ((O) ((U) ((AZ) (W1 hr))))
def z4H (a0:UInt8):Option Bool:=if 48≤(a0.toNat:Int) then some (decide ((a0.toNat:Int)≤57)) else some false
theorem j3D {a0}{r}(hr:z4H a0=some r){F0:Nat→Prop}:RB 236 #[.int .u8 (a0.toNat:Int)] w0 r:=by
 have H:=HL.start F0 w0
 refine (En Tryz.func236) ?_
 refine R ((A) (Z (R ((V) ((B) (jD hr (fun _ hr=>?_) fun _ hr=>?_))))))
 ·exact (G) ((V) ((G) ((B) ((T) ((AZ) (W1 hr))))))
 exact (O) ((O) ((U) ((AZ) (W1 hr))))
def z0A (a0:ByteArray):Option Bool:=if a0=(⟨#[105,102]⟩:ByteArray) then if a0=(⟨#[105,102]⟩:ByteArray) then some true else some false else if a0=(⟨#[116,104,101,110]⟩:ByteArray) then if a0=(⟨#[116,104,101,110]⟩:ByteArray) then some true else some false else if a0=(⟨#[101,108,115,101]⟩:ByteArray) then if a0=(⟨#[101,108,115,101]⟩:ByteArray) then some true else some false else if a0=(⟨#[116,114,117,101]⟩:ByteArray) then if a0=(⟨#[116,114,117,101]⟩:ByteArray) then some true else some false else if a0=(⟨#[102,97,108,115,101]⟩:ByteArray) then if a0=(⟨#[102,97,108,115,101]⟩:ByteArray) then some true else some false else if a0=(⟨#[108,105,116]⟩:ByteArray) then if a0=(⟨#[108,105,116]⟩:ByteArray) then some true else some false else if a0=(⟨#[110,111,110,101]⟩:ByteArray) then if a0=(⟨#[110,111,110,101]⟩:ByteArray) then some true else some false else if a0=(⟨#[115,101,108,102]⟩:ByteArray) then if a0=(⟨#[115,101,108,102]⟩:ByteArray) then some true else some false else if a0=(⟨#[111,102]⟩:ByteArray) then if a0=(⟨#[111,102]⟩:ByteArray) then some true else some false else if a0=(⟨#[109,97,120]⟩:ByteArray) then if a0=(⟨#[109,97,120]⟩:ByteArray) then some true else some false else if a0=(⟨#[109,105,110]⟩:ByteArray) then if a0=(⟨#[109,105,110]⟩:ByteArray) then some true else some false else if a0=(⟨#[119,105,116,104]⟩:ByteArray) then if a0=(⟨#[119,105,116,104]⟩:ByteArray) then some true else some false else if a0=(⟨#[104,97,115]⟩:ByteArray) then some true else some false
theorem j0d {a0}{r}(hr:z0A a0=some r){F0:Nat→Prop}(ha0:a0.size≤9223372036854775807):RB 237 #[.string a0] w0 r:=by
 have H:=HL.start F0 w0
 refine (En Tryz.func237) ?_
 refine R ((A) (Z (Y (R ((V) (Z ?_))))))
 refine Bk (Y (R ((B) ((AZ) (iD hr (fun _ hr=>?_) fun _ hr=>?_)))))
 ·refine K (iD hr (fun _ hr=>?_) fun _ hr=>?_)
  ·exact R ((AZ) (W1 hr))
  exact K (R ((AZ) (W1 hr)))
 refine R ((B) ((AZ) (iD hr (fun _ hr=>?_) fun _ hr=>?_)))
 ·refine K (iD hr (fun _ hr=>?_) fun _ hr=>?_)
  ·exact R ((AZ) (W1 hr))
  exact K (R ((AZ) (W1 hr)))
 refine R ((B) ((AZ) (iD hr (fun _ hr=>?_) fun _ hr=>?_)))
 ·refine K (iD hr (fun _ hr=>?_) fun _ hr=>?_)
  ·exact R ((AZ) (W1 hr))
  exact K (R ((AZ) (W1 hr)))
 refine R ((B) ((AZ) (iD hr (fun _ hr=>?_) fun _ hr=>?_)))
 ·refine K (iD hr (fun _ hr=>?_) fun _ hr=>?_)
  ·exact R ((AZ) (W1 hr))
  exact K (R ((AZ) (W1 hr)))
 refine R ((B) ((AZ) (iD hr (fun _ hr=>?_) fun _ hr=>?_)))
 ·refine K (iD hr (fun _ hr=>?_) fun _ hr=>?_)
  ·exact R ((AZ) (W1 hr))
  exact K (R ((AZ) (W1 hr)))
 refine R ((B) ((AZ) (iD hr (fun _ hr=>?_) fun _ hr=>?_)))
 ·refine K (iD hr (fun _ hr=>?_) fun _ hr=>?_)
  ·exact R ((AZ) (W1 hr))
  exact K (R ((AZ) (W1 hr)))
 refine R ((B) ((AZ) (iD hr (fun _ hr=>?_) fun _ hr=>?_)))
 ·refine K (iD hr (fun _ hr=>?_) fun _ hr=>?_)
  ·exact R ((AZ) (W1 hr))
  exact K (R ((AZ) (W1 hr)))
 refine R ((B) ((AZ) (iD hr (fun _ hr=>?_) fun _ hr=>?_)))
 ·refine K (iD hr (fun _ hr=>?_) fun _ hr=>?_)
  ·exact R ((AZ) (W1 hr))
  exact K (R ((AZ) (W1 hr)))
 refine R ((B) ((AZ) (iD hr (fun _ hr=>?_) fun _ hr=>?_)))
 ·refine K (iD hr (fun _ hr=>?_) fun _ hr=>?_)
  ·exact R ((AZ) (W1 hr))
  exact K (R ((AZ) (W1 hr)))
 refine R ((B) ((AZ) (iD hr (fun _ hr=>?_) fun _ hr=>?_)))
 ·refine K (iD hr (fun _ hr=>?_) fun _ hr=>?_)
  ·refine Y ?_
   refine q0a [] trivial fun σ=>?_
   have H:HL F0 [] w0 w0 [] []:=H
   exact X ((AZ) (W1 hr))
  refine K (Y ?_)
  refine q0a [] trivial fun σ=>?_
  have H:HL F0 [] w0 w0 [] []:=H
  exact X ((AZ) (W1 hr))
 refine Y ?_
 refine q0a [(3,.string a0)] ⟨rfl,trivial⟩ fun σ=>?_
 have H:HL F0 [] w0 w0 [] []:=H
 refine X ((B) ((AZ) (iD hr (fun _ hr=>?_) fun _ hr=>?_)))
 ·refine K (iD hr (fun _ hr=>?_) fun _ hr=>?_)
  ·exact R ((AZ) (W1 hr))
  exact K (R ((AZ) (W1 hr)))
 refine R ((B) ((AZ) (iD hr (fun _ hr=>?_) fun _ hr=>?_)))
 ·refine K (iD hr (fun _ hr=>?_) fun _ hr=>?_)
  ·exact R ((AZ) (W1 hr))
  exact K (R ((AZ) (W1 hr)))
 refine X ((B) ((AZ) (iD hr (fun _ hr=>?_) fun _ hr=>?_)))
 ·exact R ((AZ) (W1 hr))
 exact K (R ((AZ) (W1 hr)))
def z3U (a0:ByteArray):Nat→Unit→Option (Unit ⊕ Bool):=fun k1 _=>(a0.data[k1]?).bind fun x1=>(z2q x1).bind fun y1=>if y1=true then some (.inl ()) else (z4H x1).bind fun y2=>if y2=true then some (.inl ()) else some (.inr false)
def q3g (a0:ByteArray):Option Bool:=(z4P (z3U a0) 0 (a0.size) ()).bind <| onr (fun r1=>some r1) fun _=>(q2Y (a0.size:Int) 1 8).bind fun y3=>( if y3=true then (a0.data[0]?).bind fun x2=>(z2q x2).bind fun y4=>some y4 else some false ).bind fun s1=>( if s1=true then (z0A a0).bind fun y5=>some (!y5) else some false ).bind fun s2=>some s2
theorem q3R {a0}{r}(hr:q3g a0=some r){F0:Nat→Prop}(ha0:a0.size≤9223372036854775807):RB 213 #[.string a0] w0 r:=by
 have H:=HL.start F0 w0
 refine (En Tryz.func213) ?_
 refine R ((A) (Z (Y (R ((V) ?_)))))
 refine q0b rfl rfl (q0w rfl Tryz.underlying9 rfl) ((V) (Z ?_))
 refine bb hr fun q1 hq1 hr=>?_
 refine (lM hq1 (fun k1 _ _=>[(0,.string a0),(5,.int .i64 (a0.size:Int)),(6,zN k1)]) (fun _ _ w=>HL F0 [] w0 w [] []) ()) ?_
 rintro k1 _ _ σ w1 hk1 hq1 H
 refine R ((BZ) (Y ?_))
 refine q0e rfl (fun h1=>?_) (fun h1=>?_)
 ·have hk2:=q2G h1
  obtain⟨z1,hb1,hs1,ht1⟩:=j0J hq1 hk2
  refine K (Y ?_)
  refine Bk (R ((V) ((A) (Z (R ((V) ((V) ?_)))))))
  refine bb hb1 fun x1 hx1 hb1=>?_
  refine q0b rfl rfl (q1a rfl Tryz.underlying9 rfl rfl hx1) ?_
  refine bb hb1 fun y1 hy1 hb1=>?_
  refine (CA k1z (z9e hy1 (F0:=nF))) (cE H fun w2 H=>(N) (jM hb1 (fun _ hb1=>?_) fun _ hb1=>?_))
  ·refine (G) ((V) ((G) ((V) ((G) ?_))))
   refine q0b rfl rfl (q1a rfl Tryz.underlying9 rfl rfl hx1) ((G) ?_)
   refine bb hb1 fun y2 hy2 hb1=>?_
   refine (CA k3R (j3D hy2 (F0:=nF))) (cE H fun w3 H=>(G) ((N) ((T) (Z (iM hb1 (fun _ hb1=>?_) fun _ hb1=>?_)))))
   ·exact R ((AZ) (W2 hb1 ht1 hr))
   exact K (X ((BN (q0I (a:=k1) (b:=1) rfl (z5K hk2 (z8m ha0).2))) ((V) (Z (I2 hb1 hs1 ⟨k1+1,(),()⟩)))))
  exact (O) ((O) ((O) ((O) ((O) ((U) (Z ((cF) (K (X ((BN (q0I (a:=k1) (b:=1) rfl (z5K hk2 (z8m ha0).2))) ((V) (Z (I2 hb1 hs1 ⟨k1+1,(),()⟩)))))))))))))
 obtain rfl:=z8v hq1 (q2t h1)
 have hr:=(q2S _ _ _).symm.trans hr
 refine CE (R ((V) ?_))
 refine q0b rfl rfl (q0w rfl Tryz.underlying9 rfl) ?_
 refine bb hr fun y3 hy3 hr=>?_
 refine (CA ok93 (q3u hy3 (F0:=nF) (z8m ha0) dI dI)) (cE H fun w4 H=>?_)
 refine bb hr fun q2 hm1 hr=>?_
 refine cu H 5 [(0,.string a0),(29,.bool q2)] [] [] ?_ fun σ w6 H=>?_
 ·refine jB hm1 (fun _ hm1=>?_) fun _ hm1=>?_
  ·refine (G) ((V) ((G) ?_))
   refine bb hm1 fun x2 hx2 hm1=>?_
   refine q0b rfl rfl (q1a rfl Tryz.underlying9 rfl rfl hx2) ((G) ?_)
   refine bb hm1 fun y4 hy4 hm1=>?_
   exact (CA k1z (z9e hy4 (F0:=nF))) (cE H fun w5 H=>(T) (Z (C1 hm1)))
  exact OF hm1
 refine bb hr fun q3 hm2 hr=>?_
 refine cu H 5 [(34,.bool q3)] [] [] ?_ fun σ w8 H=>?_
 ·refine jB hm2 (fun _ hm2=>?_) fun _ hm2=>?_
  ·refine (G) ((V) ((G) ?_))
   refine bb hm2 fun y5 hy5 hm2=>?_
   exact (CA k3S (j0d hy5 (F0:=nF) ha0)) (cE H fun w7 H=>(G) ((N) ((T) (Z (C1 hm2)))))
  exact OF hm2
 exact (AZ) (W1 hr)
def z3V (a0:Int):Option Bool:=(q2Y a0 1 4).bind fun y1=>some y1
theorem j0w {a0}{r}(hr:z3V a0=some r){F0:Nat→Prop}(ha0:I64 a0):RB 234 #[.int .i64 a0] w0 r:=by
 have H:=HL.start F0 w0
 refine (En Tryz.func234) ?_
 refine R ((A) (Z (R ((V) ?_))))
 refine bb hr fun y1 hy1 hr=>?_
 exact (CA ok93 (q3u hy1 (F0:=nF) ha0 dI dI)) (cE H fun w1 H=>(AZ) (W1 hr))
def q6R (a0:Attribute):Option Bool:=(q3g a0.Name).bind fun y1=>( if y1=true then (z3V a0.Type_).bind fun y2=>some (!y2) else some true ).bind fun s1=>( if s1=true then some true else (q2Y a0.Mode 1 3).bind fun y3=>some (!y3) ).bind fun s2=>if s2=true then some false else if a0.Mode=3 then ( if a0.Type_=2 then some (!a0.Circular) else some false ).bind fun s3=>some s3 else ( if a0.Circular=true then some (decide (a0.Type_=2)) else some true ).bind fun s4=>some s4
theorem z4S {a0}{r}(hr:q6R a0=some r){ca0}(ha0:rd F0 w0 a0 ca0):RB 211 #[ag ca0] w0 r:=by
 let d1:=q3Z a0
 have H:=(HL.start F0 w0).argR ha0
 obtain⟨rfl,hS1,hI1,hI2,H⟩:=q4Z H 0
 refine (En Tryz.func211) ?_
 refine R ((BX H) fun b1 w1 H=>(AZ) (Y ?_))
 refine Bk (R ((D 0) ((L H 0) ?_)))
 refine bb hr fun y1 hy1 hr=>?_
 refine (CA z8D (q3R hy1 (F0:=nF) hS1)) (cE H fun w2 H=>(N) ?_)
 refine bb hr fun q1 hm1 hr=>?_
 refine cu H 6 [(1,pB b1),(13,.bool q1)] [.R a0 d1] [.B b1 91 d1] ?_ fun σ w4 H=>?_
 ·refine jM hm1 (fun _ hm1=>?_) fun _ hm1=>?_
  ·exact OF hm1
  refine (G) ((D 1) ((G) ((L H 0) ((G) ?_))))
  refine bb hm1 fun y2 hy2 hm1=>?_
  exact (CA k1y (j0w hy2 (F0:=nF) hI1)) (cE H fun w3 H=>(G) ((N) ((U) (Z (C1 hm1)))))
 refine bb hr fun q2 hm2 hr=>?_
 refine cu H 6 [(1,pB b1),(19,.bool q2)] [.R a0 d1] [.B b1 91 d1] ?_ fun σ w6 H=>?_
 ·refine jB hm2 (fun _ hm2=>?_) fun _ hm2=>?_
  ·exact OF hm2
  refine (G) ((D 2) ((G) ((L H 0) ((G) ?_))))
  refine bb hm2 fun y3 hy3 hm2=>?_
  exact (CA ok93 (q3u hy3 (F0:=nF) hI2 dI dI)) (cE H fun w5 H=>(G) ((N) ((U) (Z (C1 hm2)))))
 refine (AZ) (iB hr (fun _ hr=>?_) fun _ hr=>?_)
 ·exact R ((AZ) (W1 hr))
 refine R ((D 2) ((L H 0) ((B) ((AZ) (iD hr (fun _ hr=>?_) fun _ hr=>?_)))))
 ·refine R ((D 1) ((L H 0) ((B) ?_)))
  refine bb hr fun q3 hm3 hr=>?_
  refine cu H 5 [(31,.bool q3)] [.R a0 d1] [.B b1 91 d1] ?_ fun σ w7 H=>?_
  ·refine jD hm3 (fun _ hm3=>?_) fun _ hm3=>?_
   ·exact (G) ((D 3) ((G) ((L H 0) ((G) ((N) ((T) (Z (C1 hm3))))))))
   exact OF hm3
  exact (AZ) (W1 hr)
 refine K (R ((D 3) ((L H 0) ((N) ?_))))
 refine bb hr fun q4 hm4 hr=>?_
 refine cu H 5 [(39,.bool q4)] [.R a0 d1] [.B b1 91 d1] ?_ fun σ w8 H=>?_
 ·refine jM hm4 (fun _ hm4=>?_) fun _ hm4=>?_
  ·exact OF hm4
  exact (G) ((D 1) ((G) ((L H 0) ((G) ((B) ((U) (Z (C1 hm4))))))))
 exact (AZ) (W1 hr)
def q7w (a0 a1:Attribute):Option Bool:=some (decide (a0.Name=a1.Name))
theorem z5s {a0 a1}{r}(hr:q7w a0 a1=some r){ca0}(ha0:rd F0 w0 a0 ca0){b1p:Nat}(ha1:CapP F0 w0 b1p a1):RB 212 #[ag ca0,pB b1p] w0 r:=by
 have H:=(HL.start F0 w0).argR ha0
 obtain⟨rfl,hS1,hI1,hI2,H⟩:=q4Z H 0
 obtain⟨cpa1,H⟩:=H.argP ha1
 obtain⟨rfl,hS2,hI3,hI4,H⟩:=q4Z H 2
 refine (En Tryz.func212) ?_
 exact R ((BX H) fun b1 w1 H=>(A) (Z (R ((D 0) ((L H 0) ((D 0) ((LC H 1) ((B) ((AZ) (W1 hr))))))))))
def q4m (a1_0:Attribute):Nat→Attribute→Unit→Option (Unit ⊕ Int):=fun k1 x1 _=>(q7w x1 a1_0).bind fun y1=>if y1=true then some (.inr (k1:Int)) else some (.inl ())
def q3k (a0:(List Attribute))(a1_0:Attribute):Option Int:=(q2u (q4m a1_0) 0 a0 ()).bind <| onr (fun r1=>some r1) fun _=>some (-1)
theorem q6q {a0}{a1_0}{r}(hr:q3k a0 a1_0=some r){z0}(ha0:rdS F0 w0 a0 z0){b1_0p:Nat}(ha1_0:CapP F0 w0 b1_0p a1_0):RT 127 #[z0,.func (.func 212) #[] #[pB b1_0p]] w0 fun v w=>v = .int .i64 r∧I64 r:=by
 exact ixFu (gm:=fun x=>q7w x a1_0) (caps:=[pB b1_0p]) Tryz.func127 hr ha0 k3M fun w1 hE x cs y hy hx=>z5s hy hx (CapP.lt ha1_0 hE)
def q2Z (a0:(List Attribute))(a1_0:Attribute):Option Bool:=(q3k a0 a1_0).bind fun y1=>some (decide (0≤y1))
theorem q5V {a0}{a1_0}{r}(hr:q2Z a0 a1_0=some r){z0}(ha0:rdS F0 w0 a0 z0){b1_0p:Nat}(ha1_0:CapP F0 w0 b1_0p a1_0):RB 89 #[z0,.func (.func 212) #[] #[pB b1_0p]] w0 r:=by
 exact coF Tryz.func89 hr j8d fun hy=>q6q hy ha0 ha1_0
def q7O (a0:Symbol):Nat→Attribute→Unit→Option (Unit ⊕ Bool):=fun k1 x1 _=>(q6R x1).bind fun y1=>if y1=true then grd (k1≤a0.Attributes.length) <| (q2Z (a0.Attributes.take k1) x1).bind fun y2=>if y2=true then some (.inr false) else some (.inl ()) else some (.inr false)
def q8n (a0:Symbol):Option Bool:=(q2u (q7O a0) 0 a0.Attributes ()).bind <| onr (fun r1=>some r1) fun _=>(q3g a0.Name).bind fun y3=>( if y3=true then some (decide ((a0.Attributes.length:Int)≤4)) else some false ).bind fun s1=>some s1
theorem z7b {a0}{r}(hr:q8n a0=some r){ca0}(ha0:rd F0 w0 a0 ca0):RB 185 #[ag ca0] w0 r:=by
 have H:=(HL.start F0 w0).argR ha0
 obtain⟨A1,n1,c1,rfl,hS1,H⟩:=q6e H 0
 let d1:List Value:=[.string a0.Name,.slice A1 n1 c1]
 let d2:List Pr:=[.R a0 d1,.S a0.Attributes (.slice A1 n1 c1)]
 refine (En Tryz.func185) ?_
 refine R ((BX H) fun b1 w1 H=>(A) (Z (Y (R ((D 1) ((L H 0) ((NI H 1) fun hl1=>(V) (Z ?_))))))))
 refine bb hr fun q1 hq1 hr=>?_
 refine (lF hq1 (fun k1 _ _=>[(1,pB b1),(6,.slice A1 n1 c1),(7,zN a0.Attributes.length),(8,zN k1)]) (fun _ _ w=>HL F0 [] w0 w d2 [.B b1 89 d1]) ()) ?_
 rintro k1 _ _ σ w2 hk1 hq1 H
 refine R ((BZ) (Y ?_))
 refine q0e rfl (fun h1=>?_) (fun h1=>?_)
 ·have hk2:=q2G h1
  obtain⟨x1,z1,hx1,hb1,hs1,ht1⟩:=q3o hq1 hk2
  refine K (Y ?_)
  refine Bk (R ((V) ?_))
  obtain⟨b2,ob2,cb2,hvb2,hS2,hI1,hI2,H⟩:=q4w H 1 hx1
  refine (J 4 hvb2 hx1) ((LA H 2) ((AH ze91 H) fun b3 w3 H=>(A) ((SB H 1) fun w4 H=>Z (R ((LB H 1) ?_)))))
  refine bb hb1 fun y1 hy1 hb1=>?_
  refine (CA k3L (z4S hy1 (F0:=nF) ⟨rfl,hS2,hI1,hI2⟩)) (cE H fun w5 H=>(N) (jM hb1 (fun _ hb1=>?_) fun _ hb1=>?_))
  ·exact (O) ((O) ((O) ((O) ((O) ((O) ((T) (Z ((cT) (R ((AZ) (W2 hb1 ht1 hr)))))))))))
  refine (G) ((D 1) ((G) ((L H 0) ((G) ((V) ((G) ?_))))))
  refine gg hb1 fun hg1 hb1=>?_
  obtain⟨A2,n2,c2,e1,hc1,H⟩:=H.slH (i:=1) rfl hg1
  refine q0b rfl rfl (q0L rfl el87 sz91 rfl rfl rfl hc1 e1) ((G) ?_)
  refine q0b rfl rfl (q0q rfl rfl rfl) ((G) ?_)
  refine bb hb1 fun y2 hy2 hb1=>?_
  refine (CA ok89 (q5V hy2 (F0:=fun q=>q < _) (rs H 4) ⟨(rb H 1).lt,_,At.blk (rb H 1),⟨rfl,hS2,hI1,hI2⟩⟩)) (cE H fun w6 H=>(U) (Z (iB hb1 (fun _ hb1=>?_) fun _ hb1=>?_)))
  ·exact R ((AZ) (W2 hb1 ht1 hr))
  exact K (X ((AN hk2 hl1) ((V) (Z (I2 hb1 hs1 ⟨k1+1,(),()⟩)))))
 obtain rfl:=q2M hq1 (q2t h1)
 have hr:=(q2S _ _ _).symm.trans hr
 refine CE (R ((D 0) ((L H 0) ?_)))
 refine bb hr fun y3 hy3 hr=>?_
 refine (CA z8D (q3R hy3 (F0:=nF) hS1)) (cE H fun w7 H=>?_)
 refine bb hr fun q2 hm1 hr=>?_
 refine cu H 6 [(33,.bool q2)] d2 [.B b1 89 d1] ?_ fun σ w8 H=>?_
 ·refine jB hm1 (fun _ hm1=>?_) fun _ hm1=>?_
  ·exact (G) ((D 1) ((G) ((L H 0) ((G) ((NN (rs H 1)) ((G) ((B) ((T) (Z (C1 hm1))))))))))
  exact OF hm1
 exact (AZ) (W1 hr)
def q8M (a0 a1:Symbol):Option Bool:=some (decide (a0.Name=a1.Name))
theorem z7X {a0 a1}{r}(hr:q8M a0 a1=some r){ca0}(ha0:rd F0 w0 a0 ca0){b1p:Nat}(ha1:CapP F0 w0 b1p a1):RB 186 #[ag ca0,pB b1p] w0 r:=by
 have H:=(HL.start F0 w0).argR ha0
 obtain⟨A1,n1,c1,rfl,hS1,H⟩:=q6e H 0
 obtain⟨cpa1,H⟩:=H.argP ha1
 obtain⟨A2,n2,c2,rfl,hS2,H⟩:=q6e H 3
 refine (En Tryz.func186) ?_
 exact R ((BX H) fun b1 w1 H=>(A) (Z (R ((D 0) ((L H 0) ((D 0) ((LC H 2) ((B) ((AZ) (W1 hr))))))))))
def q4Q (a1_0:Symbol):Nat→Symbol→Unit→Option (Unit ⊕ Int):=fun k1 x1 _=>(q8M x1 a1_0).bind fun y1=>if y1=true then some (.inr (k1:Int)) else some (.inl ())
def q3S (a0:(List Symbol))(a1_0:Symbol):Option Int:=(q2u (q4Q a1_0) 0 a0 ()).bind <| onr (fun r1=>some r1) fun _=>some (-1)
theorem q7A {a0}{a1_0}{r}(hr:q3S a0 a1_0=some r){z0}(ha0:rdS F0 w0 a0 z0){b1_0p:Nat}(ha1_0:CapP F0 w0 b1_0p a1_0):RT 126 #[z0,.func (.func 186) #[] #[pB b1_0p]] w0 fun v w=>v = .int .i64 r∧I64 r:=by
 exact ixFu (gm:=fun x=>q8M x a1_0) (caps:=[pB b1_0p]) Tryz.func126 hr ha0 k3v fun w1 hE x cs y hy hx=>z7X hy hx (CapP.lt ha1_0 hE)
def q3y (a0:(List Symbol))(a1_0:Symbol):Option Bool:=(q3S a0 a1_0).bind fun y1=>some (decide (0≤y1))
theorem q6S {a0}{a1_0}{r}(hr:q3y a0 a1_0=some r){z0}(ha0:rdS F0 w0 a0 z0){b1_0p:Nat}(ha1_0:CapP F0 w0 b1_0p a1_0):RB 87 #[z0,.func (.func 186) #[] #[pB b1_0p]] w0 r:=by
 exact coF Tryz.func87 hr j8c fun hy=>q7A hy ha0 ha1_0
def z0B (rec_iCountExpr:Expr→Option Int):Nat→Expr→Int→Option Int:=fun k1 x1 s1=>(rec_iCountExpr x1).bind fun y1=>grd (I64 (s1+y1)) <| some (s1+y1)
def z1I (rec_iCountExpr:Expr→Option Int)(a0:Expr):Option Int:=(q2J (z0B rec_iCountExpr) 0 a0.Args 1).bind fun s1=>some s1
theorem j0e {rec_iCountExpr:Expr→Option Int}(ih_iCountExpr:∀ {a0:Expr} {r:Int},rec_iCountExpr a0=some r→∀ {F0:Nat→Prop} {w0:World} {ca0} (ha0:rd F0 w0 a0 ca0),RT 249 #[ag ca0] w0 fun v w=>v = .int .i64 r∧I64 r){a0}{r}(hr:z1I rec_iCountExpr a0=some r){ca0}(ha0:rd F0 w0 a0 ca0):RT 249 #[ag ca0] w0 fun v w=>v = .int .i64 r∧I64 r:=by
 have H:=(HL.start F0 w0).argR ha0
 obtain⟨A1,n1,c1,rfl,hI1,hI2,hI3,hI4,hS1,hS2,H⟩:=q3q H 0
 refine (En Tryz.func249) ?_
 refine R ((BX H) fun b1 w1 H=>(A) (Z (R ((A) (Z (Y (R ((D 6) ((L H 0) ((NI H 1) fun hl1=>(V) (Z ?_)))))))))))
 refine bb hr fun q1 hq1 hr=>?_
 refine (lE hq1 (fun k1 s1 _=>[(3,.int .i64 s1),(7,.slice A1 n1 c1),(8,zN a0.Args.length),(9,zN k1)]) (fun s1 _ w=>I64 s1∧HL F0 [] w0 w [.R a0 (q2D a0 A1 n1 c1),.S a0.Args (.slice A1 n1 c1)] [.B b1 136 (q2D a0 A1 n1 c1)]) ()) ?_
 rintro k1 s1 _ σ w2 hk1 hq1 ⟨hI5,H⟩
 refine R ((BZ) (Y ?_))
 refine q0e rfl (fun h1=>?_) (fun h1=>?_)
 ·have hk2:=q2G h1
  obtain⟨x1,z1,hx1,hb1,hq1⟩:=q8k hq1 hk2
  refine K (Y ?_)
  refine Bk (R ?_)
  obtain⟨b2,ob2,cb2,A2,n2,c2,hvb2,hI6,hI7,hI8,hI9,hS3,hS4,H⟩:=q4f H 1 hx1
  refine (J 7 hvb2 hx1) ((LA H 2) ((AH q9V H) fun b3 w3 H=>(SB H 1) fun w4 H=>Z (X ((V) ((LB H 1) ?_)))))
  refine bb hb1 fun y1 hy1 hb1=>?_
  refine (CA k1D (ih_iCountExpr hy1 (q2r.2 ⟨_,rfl,hI6,hI7,hI8,hI9,hS3,hS4,(rs H 4)⟩))) (cF' H fun w5 hI10 H=>?_)
  exact gg hb1 fun hg1 hb1=>(BN (Bin.add hg1)) ((A) (Z (X ((AN hk2 hl1) ((V) (Z (I1 hb1 ⟨k1+1,(s1+y1),()⟩)))))))
 obtain rfl:=q6Z hq1 (q2t h1)
 exact CE (R ((V) ((AZ) (W1 hr))))
def q8z:Nat→Expr→Option Int
  | 0,_=>none
  | n+1,a0=>z1I (q8z n) a0
def z3W (a0:Expr):Option Int:=recO fun n=>q8z n a0
theorem j0f (n:Nat):∀ {a0:Expr} {r:Int},q8z n a0=some r→∀ {F0:Nat→Prop} {w0:World} {ca0} (ha0:rd F0 w0 a0 ca0),RT 249 #[ag ca0] w0 fun v w=>v = .int .i64 r∧I64 r:=by
 induction n with
 | zero=>intro a0 r hr; exact nomatch (show (none:Option Int)=some r from hr)
 | succ n ih=>intro a0 r hr; exact j0e ih hr
theorem j1n {a0}{r}(hr:z3W a0=some r){ca0}(ha0:rd F0 w0 a0 ca0):RT 249 #[ag ca0] w0 fun v w=>v = .int .i64 r∧I64 r:=by
 obtain⟨n,hn⟩:=q4v hr
 exact j0f n hn ha0
def z1e (rec_iDepthOfExpr:Expr→Option Int):Nat→Expr→Int→Option Int:=fun k1 x1 s1=>(rec_iDepthOfExpr x1).bind fun y1=>some (if y1 > s1 then y1 else s1)
def q9K (rec_iDepthOfExpr:Expr→Option Int)(a0:Expr):Option Int:=(q2J (z1e rec_iDepthOfExpr) 0 a0.Args 0).bind fun s1=>grd (I64 (s1+1)) <| some (s1+1)
theorem z7Y {rec_iDepthOfExpr:Expr→Option Int}(ih_iDepthOfExpr:∀ {a0:Expr} {r:Int},rec_iDepthOfExpr a0=some r→∀ {F0:Nat→Prop} {w0:World} {ca0} (ha0:rd F0 w0 a0 ca0),RT 250 #[ag ca0] w0 fun v w=>v = .int .i64 r∧I64 r){a0}{r}(hr:q9K rec_iDepthOfExpr a0=some r){ca0}(ha0:rd F0 w0 a0 ca0):RT 250 #[ag ca0] w0 fun v w=>v = .int .i64 r∧I64 r:=by
 have H:=(HL.start F0 w0).argR ha0
 obtain⟨A1,n1,c1,rfl,hI1,hI2,hI3,hI4,hS1,hS2,H⟩:=q3q H 0
 refine (En Tryz.func250) ?_
 refine R ((BX H) fun b1 w1 H=>(A) (Z (R ((A) (Z (Y (R ((D 6) ((L H 0) ((NI H 1) fun hl1=>(V) (Z ?_)))))))))))
 refine bb hr fun q1 hq1 hr=>?_
 refine Bk (CW.loop (α:=Nat × Int) (fun ⟨k1,s1⟩=>[(3,.int .i64 s1),(7,.slice A1 n1 c1),(8,zN a0.Args.length),(9,zN k1)]) (fun ⟨k1,s1⟩ w=>k1≤a0.Args.length∧q2J (z1e rec_iDepthOfExpr) k1 (a0.Args.drop k1) s1=some q1∧I64 s1∧HL F0 [] w0 w [.R a0 (q2D a0 A1 n1 c1),.S a0.Args (.slice A1 n1 c1)] [.B b1 136 (q2D a0 A1 n1 c1)]) (fun ⟨k1,s1⟩=>a0.Args.length - k1) ⟨0,0⟩ ⟨rfl,rfl,rfl,rfl,trivial⟩ ⟨Nat.zero_le _,hq1,dI,H.keep 2 1⟩ ?_)
 rintro⟨k1,s1⟩ σ w2 ⟨hk1,hq1,hI5,H⟩
 refine R ((BZ) (Y ?_))
 refine q0e rfl (fun h1=>?_) (fun h1=>?_)
 ·have hk2:=q2G h1
  obtain⟨x1,z1,hx1,hb1,hq1⟩:=q8k hq1 hk2
  refine K (Y ?_)
  refine Bk (R ?_)
  obtain⟨b2,ob2,cb2,A2,n2,c2,hvb2,hI6,hI7,hI8,hI9,hS3,hS4,H⟩:=q4f H 1 hx1
  refine (J 7 hvb2 hx1) ((LA H 2) ((AH q9V H) fun b3 w3 H=>(SB H 1) fun w4 H=>Z (X ((V) ((LB H 1) ?_)))))
  refine bb hb1 fun y1 hy1 hb1=>?_
  refine (CA k1E (ih_iDepthOfExpr hy1 (q2r.2 ⟨_,rfl,hI6,hI7,hI8,hI9,hS3,hS4,(rs H 4)⟩))) (cF' H fun w5 hI10 H=>?_)
  refine q0b rfl rfl (q1H rfl rfl rfl) ((A) (Z (X ((AN hk2 hl1) ((V) (Z ?_))))))
  obtain rfl:=sm hb1
  exact⟨⟨k1+1,(if y1 > s1 then y1 else s1)⟩,⟨rfl,rfl,rfl,rfl,trivial⟩,⟨hk2,hq1,(j2X hI5 hI10),H.keep 2 1⟩,Nat.sub_lt_sub_left hk2 (Nat.lt_succ_self _)⟩
 obtain rfl:=q6Z hq1 (q2t h1)
 refine CE (R ((V) ?_))
 exact gg hr fun hg1 hr=>(BN (Bin.add hg1)) ((AZ) (W1 hr))
def q5H:Nat→Expr→Option Int
  | 0,_=>none
  | n+1,a0=>q9K (q5H n) a0
def z1Z (a0:Expr):Option Int:=recO fun n=>q5H n a0
theorem z7Z (n:Nat):∀ {a0:Expr} {r:Int},q5H n a0=some r→∀ {F0:Nat→Prop} {w0:World} {ca0} (ha0:rd F0 w0 a0 ca0),RT 250 #[ag ca0] w0 fun v w=>v = .int .i64 r∧I64 r:=by
 induction n with
 | zero=>intro a0 r hr; exact nomatch (show (none:Option Int)=some r from hr)
 | succ n ih=>intro a0 r hr; exact z7Y ih hr
theorem z9f {a0}{r}(hr:z1Z a0=some r){ca0}(ha0:rd F0 w0 a0 ca0):RT 250 #[ag ca0] w0 fun v w=>v = .int .i64 r∧I64 r:=by
 obtain⟨n,hn⟩:=q4v hr
 exact z7Z n hn ha0
def z5t (a0:Int):Option Int:=some (if ((-1000000):Int) > (if (1000000:Int) < a0 then (1000000:Int) else a0) then ((-1000000):Int) else (if (1000000:Int) < a0 then (1000000:Int) else a0))
theorem j2p {a0 r}(hr:z5t a0=some r){F0:Nat→Prop}(ha0:I64 a0):RT 260 #[.int .i64 a0] w0 fun v w=>v = .int .i64 r∧I64 r:=by
 have H:=HL.start F0 w0
 refine (En Tryz.func260) ?_
 refine R ((A) (Z (R ((V) ?_))))
 refine q0b rfl rfl (q2b rfl rfl rfl) ?_
 refine q0b rfl rfl (q1H rfl rfl rfl) ((AZ) (CR ?_))
 obtain rfl:=sm hr
 exact⟨_,res1 rfl rfl rfl,H.ext0,rfl,(j2X (j2X ha0 dI) (by decide:I64 (-1000000)))⟩
def j1o (a0:Bool):Option Int:=if a0=true then some 1 else some 0
theorem j8l {a0}{r}(hr:j1o a0=some r){F0:Nat→Prop}:RT 261 #[.bool a0] w0 fun v w=>v = .int .i64 r∧I64 r:=by
 have H:=HL.start F0 w0
 refine (En Tryz.func261) ?_
 refine R ((A) (Z (Y (R ((V) (Z (iB hr (fun _ hr=>?_) fun _ hr=>?_)))))))
 ·exact R ((AZ) (W1 hr))
 exact K (R ((AZ) (W1 hr)))
def z6p (a0 a1:Int):Option Int:=if a1=1 then (z5t a0).bind fun y1=>some y1 else if a1=2 then some (j7Q a0 4095) else if a1=3 then (j1o (!(decide (a0=0)))).bind fun y2=>some y2 else if a1=4 then (q2Y a0 0 999).bind fun y3=>if y3=true then some a0 else some 0 else some 0
theorem j5n {a0 a1 r}(hr:z6p a0 a1=some r){F0:Nat→Prop}(ha0:I64 a0)(ha1:I64 a1):RT 258 #[.int .i64 a0,.int .i64 a1] w0 fun v w=>v = .int .i64 r∧I64 r:=by
 have H:=HL.start F0 w0
 refine (En Tryz.func258) ?_
 refine R ((AZ) (Y ?_))
 refine Bk (R ((V) ((B) ((AZ) (iD hr (fun _ hr=>?_) fun _ hr=>?_)))))
 ·refine R ((V) ?_)
  refine bb hr fun y1 hy1 hr=>?_
  exact (CA k4d (j2p hy1 (F0:=nF) ha0)) (cF' H fun w1 hI1 H=>(AZ) (W1 hr))
 refine R ((V) ((B) ((AZ) (iD hr (fun _ hr=>?_) fun _ hr=>?_))))
 ·refine R ((V) ((B) ((AZ) (CR ?_))))
  obtain rfl:=sm hr
  exact⟨_,res1 rfl rfl rfl,H.ext0,rfl,(j4t _)⟩
 refine R ((V) ((B) ((AZ) (iD hr (fun _ hr=>?_) fun _ hr=>?_))))
 ·refine R ((V) ((B) ?_))
  refine bb hr fun y2 hy2 hr=>?_
  exact (CA k4e (j8l hy2 (F0:=nF))) (cF' H fun w2 hI2 H=>(AZ) (W1 hr))
 refine R ((V) ((B) (jD hr (fun _ hr=>?_) fun _ hr=>?_)))
 ·refine (G) ((V) ((G) ?_))
  refine bb hr fun y3 hy3 hr=>?_
  refine (CA ok93 (q3u hy3 (F0:=nF) ha0 dI dI)) (cE H fun w3 H=>(T) ((AZ) (iB hr (fun _ hr=>?_) fun _ hr=>?_)))
  ·exact R ((V) ((AZ) (W1 hr)))
  exact K (R ((AZ) (W1 hr)))
 exact (O) ((O) ((U) ((A) (Z ((cF) (K (R ((AZ) (W1 hr)))))))))
def z2U (a0 a1:Int):Option Bool:=(z3V a1).bind fun y1=>if y1=true then (z6p a0 a1).bind fun y2=>some (decide (y2=a0)) else some false
theorem j2q {a0 a1}{r}(hr:z2U a0 a1=some r){F0:Nat→Prop}(ha0:I64 a0)(ha1:I64 a1):RB 254 #[.int .i64 a0,.int .i64 a1] w0 r:=by
 have H:=HL.start F0 w0
 refine (En Tryz.func254) ?_
 refine R ((A) (Z (R ((V) ?_))))
 refine bb hr fun y1 hy1 hr=>?_
 refine (CA k1y (j0w hy1 (F0:=nF) ha1)) (cE H fun w1 H=>jB hr (fun _ hr=>?_) fun _ hr=>?_)
 ·refine (G) ((V) ((G) ((V) ((G) ?_))))
  refine bb hr fun y2 hy2 hr=>?_
  exact (CA k4b (j5n hy2 (F0:=nF) ha0 ha1)) (cF' H fun w2 hI1 H=>(G) ((V) ((G) ((B) ((T) ((AZ) (W1 hr)))))))
 exact (O) ((O) ((O) ((O) ((O) ((U) ((AZ) (W1 hr)))))))
def q5O (a0 a1:Expr):Option Bool:=( if a0.Kind=a1.Kind then some (decide (a0.N=a1.N)) else some false ).bind fun s1=>( if s1=true then some (decide (a0.Pos=a1.Pos)) else some false ).bind fun s2=>( if s2=true then some (decide (a0.Type_=a1.Type_)) else some false ).bind fun s3=>( if s3=true then some (decide (a0.Symbol=a1.Symbol)) else some false ).bind fun s4=>( if s4=true then some (decide (a0.Name=a1.Name)) else some false ).bind fun s5=>some s5
theorem q6J {a0 a1}{r}(hr:q5O a0 a1=some r){ca0}(ha0:rd F0 w0 a0 ca0){ca1}(ha1:rd F0 w0 a1 ca1):RB 255 #[ag ca0,ag ca1] w0 r:=by
 have H:=((HL.start F0 w0).argR ha0).argR ha1
 obtain⟨A1,n1,c1,rfl,hI1,hI2,hI3,hI4,hS1,hS2,H⟩:=q3q H 0
 obtain⟨A2,n2,c2,rfl,hI5,hI6,hI7,hI8,hS3,hS4,H⟩:=q3q H 1
 let d1:List Pr:=[.R a0 (q2D a0 A1 n1 c1),.R a1 (q2D a1 A2 n2 c2),.S a0.Args (.slice A1 n1 c1),.S a1.Args (.slice A2 n2 c2)]
 refine (En Tryz.func255) ?_
 refine R ((BX H) fun b1 w1 H=>(BX H) fun b2 w2 H=>(A) (Z (R ((D 0) ((L H 0) ((D 0) ((L H 1) ((B) ?_))))))))
 let d2:List It:=[.B b1 136 (q2D a0 A1 n1 c1),.B b2 136 (q2D a1 A2 n2 c2)]
 refine bb hr fun q1 hm1 hr=>?_
 refine cu H 7 [(2,pB b1),(3,pB b2),(4,.bool false),(16,.bool q1)] d1 d2 ?_ fun σ w3 H=>?_
 ·refine jD hm1 (fun _ hm1=>?_) fun _ hm1=>?_
  ·exact (G) ((D 1) ((G) ((L H 0) ((G) ((D 1) ((G) ((L H 1) ((G) ((B) ((T) (Z (C1 hm1))))))))))))
  exact OF hm1
 refine bb hr fun q2 hm2 hr=>?_
 refine cu H 7 [(2,pB b1),(3,pB b2),(4,.bool false),(23,.bool q2)] d1 d2 ?_ fun σ w4 H=>?_
 ·refine jB hm2 (fun _ hm2=>?_) fun _ hm2=>?_
  ·exact (G) ((D 2) ((G) ((L H 0) ((G) ((D 2) ((G) ((L H 1) ((G) ((B) ((T) (Z (C1 hm2))))))))))))
  exact OF hm2
 refine bb hr fun q3 hm3 hr=>?_
 refine cu H 7 [(2,pB b1),(3,pB b2),(4,.bool false),(30,.bool q3)] d1 d2 ?_ fun σ w5 H=>?_
 ·refine jB hm3 (fun _ hm3=>?_) fun _ hm3=>?_
  ·exact (G) ((D 3) ((G) ((L H 0) ((G) ((D 3) ((G) ((L H 1) ((G) ((B) ((T) (Z (C1 hm3))))))))))))
  exact OF hm3
 refine bb hr fun q4 hm4 hr=>?_
 refine cu H 7 [(2,pB b1),(3,pB b2),(4,.bool false),(37,.bool q4)] d1 d2 ?_ fun σ w6 H=>?_
 ·refine jB hm4 (fun _ hm4=>?_) fun _ hm4=>?_
  ·exact (G) ((D 4) ((G) ((L H 0) ((G) ((D 4) ((G) ((L H 1) ((G) ((B) ((T) (Z (C1 hm4))))))))))))
  exact OF hm4
 refine bb hr fun q5 hm5 hr=>?_
 refine cu H 7 [(4,.bool false),(44,.bool q5)] d1 d2 ?_ fun σ w7 H=>?_
 ·refine jB hm5 (fun _ hm5=>?_) fun _ hm5=>?_
  ·exact (G) ((D 5) ((G) ((L H 0) ((G) ((D 5) ((G) ((L H 1) ((G) ((B) ((T) (Z (C1 hm5))))))))))))
  exact OF hm5
 exact (AZ) (W1 hr)
def z0C (a0:Expr):Option Bool:=if a0.Kind=1 then ( if a0.Type_=4 then some true else (z2U a0.N a0.Type_).bind fun y1=>some (!y1) ).bind fun s1=>( if s1=true then some true else some (decide (a0.N < 0)) ).bind fun s2=>if s2=true then some false else ( if (a0.Args.length:Int)=0 then (q2Y a0.Pos 0 3).bind fun y2=>some y2 else some false ).bind fun s3=>( if s3=true then (q5O a0 (⟨a0.Kind,a0.N,0,a0.Type_,(⟨#[]⟩:ByteArray),(⟨#[]⟩:ByteArray),a0.Args⟩:Expr)).bind fun y3=>some y3 else some false ).bind fun s4=>some s4 else if a0.Kind=3 then (q3g a0.Name).bind fun y4=>if y4=true then ( if (a0.Args.length:Int)=0 then (q2Y a0.Pos 0 3).bind fun y5=>some y5 else some false ).bind fun s5=>( if s5=true then (q5O a0 (⟨a0.Kind,0,a0.Pos,0,(⟨#[]⟩:ByteArray),a0.Name,a0.Args⟩:Expr)).bind fun y6=>some y6 else some false ).bind fun s6=>some s6 else some false else if a0.Kind=4 then (q2Y a0.N 1 12).bind fun y7=>if y7=true then ( if (a0.Args.length:Int)=2 then (q2Y a0.Pos 0 3).bind fun y8=>some y8 else some false ).bind fun s7=>( if s7=true then (q5O a0 (⟨a0.Kind,a0.N,0,0,(⟨#[]⟩:ByteArray),(⟨#[]⟩:ByteArray),a0.Args⟩:Expr)).bind fun y9=>some y9 else some false ).bind fun s8=>some s8 else some false else if a0.Kind=5 then ( if (a0.Args.length:Int)=3 then (q2Y a0.Pos 0 3).bind fun y10=>some y10 else some false ).bind fun s9=>( if s9=true then (q5O a0 (⟨a0.Kind,0,0,0,(⟨#[]⟩:ByteArray),(⟨#[]⟩:ByteArray),a0.Args⟩:Expr)).bind fun y11=>some y11 else some false ).bind fun s10=>some s10 else if a0.Kind=6 then ( if (a0.Args.length:Int)=0 then (q2Y a0.Pos 0 3).bind fun y12=>some y12 else some false ).bind fun s11=>( if s11=true then (q5O a0 (⟨a0.Kind,0,a0.Pos,0,(⟨#[]⟩:ByteArray),(⟨#[]⟩:ByteArray),a0.Args⟩:Expr)).bind fun y13=>some y13 else some false ).bind fun s12=>some s12 else if a0.Kind=8 then (q3g a0.Symbol).bind fun y14=>( if y14=true then (q3g a0.Name).bind fun y15=>some (!y15) else some true ).bind fun s13=>if s13=true then some false else ( if (a0.Args.length:Int)=1 then (q2Y a0.Pos 0 3).bind fun y16=>some y16 else some false ).bind fun s14=>( if s14=true then (q5O a0 (⟨a0.Kind,0,0,0,a0.Symbol,a0.Name,a0.Args⟩:Expr)).bind fun y17=>some y17 else some false ).bind fun s15=>some s15 else if a0.Kind=2 then if a0.Kind=2 then ( if (a0.Args.length:Int)=0 then (q2Y a0.Pos 0 3).bind fun y18=>some y18 else some false ).bind fun s16=>( if s16=true then (q5O a0 (⟨a0.Kind,0,0,0,(⟨#[]⟩:ByteArray),(⟨#[]⟩:ByteArray),a0.Args⟩:Expr)).bind fun y19=>some y19 else some false ).bind fun s17=>some s17 else some false else if a0.Kind=7 then ( if (a0.Args.length:Int)=0 then (q2Y a0.Pos 0 3).bind fun y20=>some y20 else some false ).bind fun s18=>( if s18=true then (q5O a0 (⟨a0.Kind,0,0,0,(⟨#[]⟩:ByteArray),(⟨#[]⟩:ByteArray),a0.Args⟩:Expr)).bind fun y21=>some y21 else some false ).bind fun s19=>some s19 else some false
theorem j0g {a0}{r}(hr:z0C a0=some r){ca0}(ha0:rd F0 w0 a0 ca0):RB 251 #[ag ca0] w0 r:=by
 have H:=(HL.start F0 w0).argR ha0
 obtain⟨A1,n1,c1,rfl,hI1,hI2,hI3,hI4,hS1,hS2,H⟩:=q3q H 0
 let d8:List Value:=[.int .i64 a0.Kind,.int .i64 0,.int .i64 a0.Pos,.int .i64 0,.string eB,.string eB,.slice A1 n1 c1]
 let d7:List Value:=[.int .i64 a0.Kind,.int .i64 0,.int .i64 0,.int .i64 0,.string a0.Symbol,.string a0.Name,.slice A1 n1 c1]
 let d6:List Value:=[.int .i64 a0.Kind,.int .i64 0,.int .i64 a0.Pos,.int .i64 0,.string eB,.string a0.Name,.slice A1 n1 c1]
 let d5:List Value:=[.int .i64 a0.Kind,.int .i64 a0.N,.int .i64 0,.int .i64 0,.string eB,.string eB,.slice A1 n1 c1]
 let d2:List Pr:=[.R a0 (q2D a0 A1 n1 c1),.S a0.Args (.slice A1 n1 c1)]
 refine (En Tryz.func251) ?_
 refine R ((BX H) fun b1 w1 H=>(A) (Z (R ((D 0) ((L H 0) ((D 6) ((L H 0) ?_)))))))
 let d4:It:=.B b1 136 (q2D a0 A1 n1 c1)
 refine q0b rfl rfl (Ev.build rfl k0a q9V rfl rfl rfl rfl) ((AH q9V H) fun b2 w2 H=>(SB H 1) fun w3 H=>Z (R ((A) (Z (Y (R ((D 0) ((L H 0) (Z ?_)))))))))
 let d3:List It:=[d4,.B b2 136 [.int .i64 a0.Kind,.int .i64 a0.N,.int .i64 0,.int .i64 a0.Type_,.string eB,.string eB,.slice A1 n1 c1]]
 let d1:List It:=[d4,.B b2 136 [.int .i64 a0.Kind,.int .i64 0,.int .i64 0,.int .i64 0,.string eB,.string eB,.slice A1 n1 c1]]
 refine Bk (R ((B) ((AZ) (iD hr (fun _ hr=>?_) fun _ hr=>?_))))
 ·refine Y ?_
  refine q0y (fun w=>∃ v1_1_:Value,∃ v1_3_:Value,HL F0 [] w0 w d2 [d4,.B b2 136 [.int .i64 a0.Kind,v1_1_,.int .i64 0,v1_3_,.string eB,.string eB,.slice A1 n1 c1]]) hmix (fun w4 hE=>?_)
  have H:HL F0 [] w0 w4 d2 d1:=H.ext hE
  refine HW.take 0 ⟨_,_,H.keep 2 2⟩ rfl (by kernel_rfl) rfl rfl (fun _ _=>q0m rfl j6i rfl) ?_
  refine HW.take 1 ⟨_,_,H.keep 2 2⟩ rfl (by kernel_rfl) rfl rfl (fun _ ⟨_,_,hq⟩=>q0h rfl ag3 rfl ((hq.rB (i:=0) rfl).cell rfl)) ?_
  refine HW.take 2 ⟨_,_,H.keep 2 2⟩ rfl (by kernel_rfl) rfl rfl (fun _ _=>q0m rfl j6k rfl) ?_
  refine HW.take 3 ⟨_,_,H.keep 2 2⟩ rfl (by kernel_rfl) rfl rfl (fun _ ⟨_,_,hq⟩=>q0h rfl ag3 rfl ((hq.rB (i:=0) rfl).cell rfl)) ?_
  refine HW.take 4 ⟨_,_,H.keep 2 2⟩ rfl (by kernel_rfl) rfl rfl (fun _ _=>q0m rfl j6i rfl) ?_
  refine q0f 5 rfl (by kernel_rfl) ((SB H 1) fun w5 H=>?_)
  refine HW.next ⟨_,_,H.keep 2 2⟩ ?_
  refine HW.take 6 ⟨_,_,H.keep 2 2⟩ rfl (by kernel_rfl) rfl rfl (fun _ _=>q0m rfl j6k rfl) ?_
  refine q0f 7 rfl (by kernel_rfl) ((SB H 1) fun w6 H=>?_)
  refine HW.next ⟨_,_,H.keep 2 2⟩ ?_
  refine q0r (by kernel_rfl) (R ((D 3) ((L H 0) ((B) ?_))))
  refine bb hr fun q1 hm1 hr=>?_
  refine cu H 8 [(1,pB b1),(3,pB b2),(4,.int .i64 0),(30,.bool q1)] d2 d3 ?_ fun σ w8 H=>?_
  ·refine jD hm1 (fun _ hm1=>?_) fun _ hm1=>?_
   ·exact OF hm1
   refine (G) ((D 1) ((G) ((L H 0) ((G) ((D 3) ((G) ((L H 0) ((G) ?_))))))))
   refine bb hm1 fun y1 hy1 hm1=>?_
   exact (CA k3Y (j2q hy1 (F0:=nF) hI2 hI4)) (cE H fun w7 H=>(G) ((N) ((U) (Z (C1 hm1)))))
  refine bb hr fun q2 hm2 hr=>?_
  refine cu H 5 [(1,pB b1),(3,pB b2),(4,.int .i64 0),(35,.bool q2)] d2 d3 ?_ fun σ w9 H=>?_
  ·refine jB hm2 (fun _ hm2=>?_) fun _ hm2=>?_
   ·exact OF hm2
   exact (G) ((D 1) ((G) ((L H 0) ((G) ((B) ((U) (Z (C1 hm2))))))))
  refine Z (iB hr (fun _ hr=>?_) fun _ hr=>?_)
  ·exact R ((AZ) (W1 hr))
  refine K (R ((D 6) ((L H 0) ((NI H 1) fun hl1=>(V) ((B) ?_)))))
  refine bb hr fun q3 hm3 hr=>?_
  refine cu H 5 [(1,pB b1),(3,pB b2),(94,.bool q3)] d2 d3 ?_ fun σ w11 H=>?_
  ·refine jD hm3 (fun _ hm3=>?_) fun _ hm3=>?_
   ·refine (G) ((D 2) ((G) ((L H 0) ((G) ?_))))
    refine bb hm3 fun y2 hy2 hm3=>?_
    exact (CA ok93 (q3u hy2 (F0:=nF) hI3 dI dI)) (cE H fun w10 H=>(T) (Z (C1 hm3)))
   exact OF hm3
  refine bb hr fun q4 hm4 hr=>?_
  refine cu H 5 [(99,.bool q4)] d2 d3 ?_ fun σ w13 H=>?_
  ·refine jB hm4 (fun _ hm4=>?_) fun _ hm4=>?_
   ·refine (G) ((LB H 0) ((G) ((LB H 1) ((G) ?_))))
    refine bb hm4 fun y3 hy3 hm4=>?_
    exact (CA j2a (q6J hy3 (q2r.2 ⟨_,rfl,hI1,hI2,hI3,hI4,hS1,hS2,(rs H 1)⟩) (q2r.2 ⟨_,rfl,hI1,hI2,dI,hI4,dI,dI,(rs H 1)⟩))) (cE H fun w12 H=>(T) (Z (C1 hm4)))
   exact OF hm4
  exact (AZ) (W1 hr)
 refine R ((B) ((AZ) (iD hr (fun _ hr=>?_) fun _ hr=>?_)))
 ·refine Y ?_
  refine q0y (fun w=>∃ v1_2_:Value,∃ v1_5_:Value,HL F0 [] w0 w d2 [d4,.B b2 136 [.int .i64 a0.Kind,.int .i64 0,v1_2_,.int .i64 0,.string eB,v1_5_,.slice A1 n1 c1]]) hmix (fun w14 hE=>?_)
  have H:HL F0 [] w0 w14 d2 d1:=H.ext hE
  refine HW.take 0 ⟨_,_,H.keep 2 2⟩ rfl (by kernel_rfl) rfl rfl (fun _ _=>q0m rfl j6j rfl) ?_
  refine HW.take 1 ⟨_,_,H.keep 2 2⟩ rfl (by kernel_rfl) rfl rfl (fun _ ⟨_,_,hq⟩=>q0h rfl ag3 rfl ((hq.rB (i:=0) rfl).cell rfl)) ?_
  refine HW.take 2 ⟨_,_,H.keep 2 2⟩ rfl (by kernel_rfl) rfl rfl (fun _ _=>q0m rfl j0S rfl) ?_
  refine HW.take 3 ⟨_,_,H.keep 2 2⟩ rfl (by kernel_rfl) rfl rfl (fun _ ⟨_,_,hq⟩=>q0h rfl ag9 rfl ((hq.rB (i:=0) rfl).cell rfl)) ?_
  refine HW.take 4 ⟨_,_,H.keep 2 2⟩ rfl (by kernel_rfl) rfl rfl (fun _ _=>q0m rfl j6j rfl) ?_
  refine q0f 5 rfl (by kernel_rfl) ((SB H 1) fun w15 H=>?_)
  refine HW.next ⟨_,_,H.keep 2 2⟩ ?_
  refine HW.take 6 ⟨_,_,H.keep 2 2⟩ rfl (by kernel_rfl) rfl rfl (fun _ _=>q0m rfl j0S rfl) ?_
  refine q0f 7 rfl (by kernel_rfl) ((SB H 1) fun w16 H=>?_)
  refine HW.next ⟨_,_,H.keep 2 2⟩ ?_
  refine q0r (by kernel_rfl) (Y ?_)
  refine q0a [(1,pB b1),(3,pB b2),(4,.int .i64 0)] ⟨rfl,rfl,rfl,trivial⟩ fun σ=>?_
  have H:HL F0 [] w0 w16 d2 [d4,.B b2 136 d6]:=H
  refine X ((D 5) ((L H 0) ?_))
  refine bb hr fun y4 hy4 hr=>?_
  refine (CA z8D (q3R hy4 (F0:=nF) hS2)) (cE H fun w17 H=>(N) (Z (iM hr (fun _ hr=>?_) fun _ hr=>?_)))
  ·exact R ((AZ) (W1 hr))
  refine K (R ((D 6) ((L H 0) ((NI H 1) fun hl2=>(V) ((B) ?_)))))
  refine bb hr fun q5 hm5 hr=>?_
  refine cu H 5 [(1,pB b1),(3,pB b2),(94,.bool q5)] d2 [d4,.B b2 136 d6] ?_ fun σ w19 H=>?_
  ·refine jD hm5 (fun _ hm5=>?_) fun _ hm5=>?_
   ·refine (G) ((D 2) ((G) ((L H 0) ((G) ?_))))
    refine bb hm5 fun y5 hy5 hm5=>?_
    exact (CA ok93 (q3u hy5 (F0:=nF) hI3 dI dI)) (cE H fun w18 H=>(T) (Z (C1 hm5)))
   exact OF hm5
  refine bb hr fun q6 hm6 hr=>?_
  refine cu H 5 [(99,.bool q6)] d2 [d4,.B b2 136 d6] ?_ fun σ w21 H=>?_
  ·refine jB hm6 (fun _ hm6=>?_) fun _ hm6=>?_
   ·refine (G) ((LB H 0) ((G) ((LB H 1) ((G) ?_))))
    refine bb hm6 fun y6 hy6 hm6=>?_
    exact (CA j2a (q6J hy6 (q2r.2 ⟨_,rfl,hI1,hI2,hI3,hI4,hS1,hS2,(rs H 1)⟩) (q2r.2 ⟨_,rfl,hI1,dI,hI3,dI,dI,hS2,(rs H 1)⟩))) (cE H fun w20 H=>(T) (Z (C1 hm6)))
   exact OF hm6
  exact (AZ) (W1 hr)
 refine R ((B) ((AZ) (iD hr (fun _ hr=>?_) fun _ hr=>?_)))
 ·refine R ((D 1) ((L H 0) ((D 1) ((SB H 1) fun w22 H=>(AZ) (Y ?_)))))
  refine q0a [(1,pB b1),(3,pB b2),(4,.int .i64 2)] ⟨rfl,rfl,rfl,trivial⟩ fun σ=>?_
  have H:HL F0 [] w0 w22 d2 [d4,.B b2 136 d5]:=H
  refine X ((D 1) ((L H 0) ?_))
  refine bb hr fun y7 hy7 hr=>?_
  refine (CA ok93 (q3u hy7 (F0:=nF) hI2 dI dI)) (cE H fun w23 H=>(N) (Z (iM hr (fun _ hr=>?_) fun _ hr=>?_)))
  ·exact R ((AZ) (W1 hr))
  refine K (R ((D 6) ((L H 0) ((NI H 1) fun hl3=>(V) ((B) ?_)))))
  refine bb hr fun q7 hm7 hr=>?_
  refine cu H 5 [(1,pB b1),(3,pB b2),(94,.bool q7)] d2 [d4,.B b2 136 d5] ?_ fun σ w25 H=>?_
  ·refine jD hm7 (fun _ hm7=>?_) fun _ hm7=>?_
   ·refine (G) ((D 2) ((G) ((L H 0) ((G) ?_))))
    refine bb hm7 fun y8 hy8 hm7=>?_
    exact (CA ok93 (q3u hy8 (F0:=nF) hI3 dI dI)) (cE H fun w24 H=>(T) (Z (C1 hm7)))
   exact OF hm7
  refine bb hr fun q8 hm8 hr=>?_
  refine cu H 5 [(99,.bool q8)] d2 [d4,.B b2 136 d5] ?_ fun σ w27 H=>?_
  ·refine jB hm8 (fun _ hm8=>?_) fun _ hm8=>?_
   ·refine (G) ((LB H 0) ((G) ((LB H 1) ((G) ?_))))
    refine bb hm8 fun y9 hy9 hm8=>?_
    exact (CA j2a (q6J hy9 (q2r.2 ⟨_,rfl,hI1,hI2,hI3,hI4,hS1,hS2,(rs H 1)⟩) (q2r.2 ⟨_,rfl,hI1,hI2,dI,dI,dI,dI,(rs H 1)⟩))) (cE H fun w26 H=>(T) (Z (C1 hm8)))
   exact OF hm8
  exact (AZ) (W1 hr)
 refine R ((B) ((AZ) (iD hr (fun _ hr=>?_) fun _ hr=>?_)))
 ·refine X ((A) (Z (R ((D 6) ((L H 0) ((NI H 1) fun hl4=>(V) ((B) ?_)))))))
  refine bb hr fun q9 hm9 hr=>?_
  refine cu H 5 [(1,pB b1),(2,.bool false),(3,pB b2),(94,.bool q9)] d2 d1 ?_ fun σ w29 H=>?_
  ·refine jD hm9 (fun _ hm9=>?_) fun _ hm9=>?_
   ·refine (G) ((D 2) ((G) ((L H 0) ((G) ?_))))
    refine bb hm9 fun y10 hy10 hm9=>?_
    exact (CA ok93 (q3u hy10 (F0:=nF) hI3 dI dI)) (cE H fun w28 H=>(T) (Z (C1 hm9)))
   exact OF hm9
  refine bb hr fun q10 hm10 hr=>?_
  refine cu H 5 [(2,.bool false),(99,.bool q10)] d2 d1 ?_ fun σ w31 H=>?_
  ·refine jB hm10 (fun _ hm10=>?_) fun _ hm10=>?_
   ·refine (G) ((LB H 0) ((G) ((LB H 1) ((G) ?_))))
    refine bb hm10 fun y11 hy11 hm10=>?_
    exact (CA j2a (q6J hy11 (q2r.2 ⟨_,rfl,hI1,hI2,hI3,hI4,hS1,hS2,(rs H 1)⟩) (q2r.2 ⟨_,rfl,hI1,dI,dI,dI,dI,dI,(rs H 1)⟩))) (cE H fun w30 H=>(T) (Z (C1 hm10)))
   exact OF hm10
  exact (AZ) (W1 hr)
 refine R ((B) ((AZ) (iD hr (fun _ hr=>?_) fun _ hr=>?_)))
 ·refine q0a [(1,pB b1),(3,pB b2),(4,.int .i64 0)] ⟨rfl,rfl,rfl,trivial⟩ fun σ=>?_
  have H:HL F0 [] w0 w3 d2 d1:=H
  refine X ((D 2) ((L H 0) ((D 2) ((SB H 1) fun w32 H=>Z (R ((D 6) ((L H 0) ((NI H 1) fun hl5=>(V) ((B) ?_)))))))))
  refine bb hr fun q11 hm11 hr=>?_
  refine cu H 5 [(1,pB b1),(3,pB b2),(94,.bool q11)] d2 [d4,.B b2 136 d8] ?_ fun σ w34 H=>?_
  ·refine jD hm11 (fun _ hm11=>?_) fun _ hm11=>?_
   ·refine (G) ((D 2) ((G) ((L H 0) ((G) ?_))))
    refine bb hm11 fun y12 hy12 hm11=>?_
    exact (CA ok93 (q3u hy12 (F0:=nF) hI3 dI dI)) (cE H fun w33 H=>(T) (Z (C1 hm11)))
   exact OF hm11
  refine bb hr fun q12 hm12 hr=>?_
  refine cu H 5 [(99,.bool q12)] d2 [d4,.B b2 136 d8] ?_ fun σ w36 H=>?_
  ·refine jB hm12 (fun _ hm12=>?_) fun _ hm12=>?_
   ·refine (G) ((LB H 0) ((G) ((LB H 1) ((G) ?_))))
    refine bb hm12 fun y13 hy13 hm12=>?_
    exact (CA j2a (q6J hy13 (q2r.2 ⟨_,rfl,hI1,hI2,hI3,hI4,hS1,hS2,(rs H 1)⟩) (q2r.2 ⟨_,rfl,hI1,dI,hI3,dI,dI,dI,(rs H 1)⟩))) (cE H fun w35 H=>(T) (Z (C1 hm12)))
   exact OF hm12
  exact (AZ) (W1 hr)
 refine Y ?_
 refine q0a [(1,pB b1),(3,pB b2),(4,.int .i64 0),(11,.int .i64 a0.Kind)] ⟨rfl,rfl,rfl,rfl,trivial⟩ fun σ=>?_
 have H:HL F0 [] w0 w3 d2 d1:=H
 refine X ((B) ((AZ) (iD hr (fun _ hr=>?_) fun _ hr=>?_)))
 ·refine Y ?_
  refine q0y (fun w=>∃ v1_4_:Value,∃ v1_5_:Value,HL F0 [] w0 w d2 [d4,.B b2 136 [.int .i64 a0.Kind,.int .i64 0,.int .i64 0,.int .i64 0,v1_4_,v1_5_,.slice A1 n1 c1]]) hmix (fun w37 hE=>?_)
  have H:HL F0 [] w0 w37 d2 d1:=H.ext hE
  refine HW.take 0 ⟨_,_,H.keep 2 2⟩ rfl (by kernel_rfl) rfl rfl (fun _ _=>q0m rfl j6l rfl) ?_
  refine HW.take 1 ⟨_,_,H.keep 2 2⟩ rfl (by kernel_rfl) rfl rfl (fun _ ⟨_,_,hq⟩=>q0h rfl ag9 rfl ((hq.rB (i:=0) rfl).cell rfl)) ?_
  refine HW.take 2 ⟨_,_,H.keep 2 2⟩ rfl (by kernel_rfl) rfl rfl (fun _ _=>q0m rfl j0S rfl) ?_
  refine HW.take 3 ⟨_,_,H.keep 2 2⟩ rfl (by kernel_rfl) rfl rfl (fun _ ⟨_,_,hq⟩=>q0h rfl ag9 rfl ((hq.rB (i:=0) rfl).cell rfl)) ?_
  refine HW.take 4 ⟨_,_,H.keep 2 2⟩ rfl (by kernel_rfl) rfl rfl (fun _ _=>q0m rfl j6l rfl) ?_
  refine q0f 5 rfl (by kernel_rfl) ((SB H 1) fun w38 H=>?_)
  refine HW.next ⟨_,_,H.keep 2 2⟩ ?_
  refine HW.take 6 ⟨_,_,H.keep 2 2⟩ rfl (by kernel_rfl) rfl rfl (fun _ _=>q0m rfl j0S rfl) ?_
  refine q0f 7 rfl (by kernel_rfl) ((SB H 1) fun w39 H=>?_)
  refine HW.next ⟨_,_,H.keep 2 2⟩ ?_
  refine HW.take 8 ⟨_,_,H.keep 2 2⟩ rfl (by kernel_rfl) rfl rfl (fun _ _=>q1m rfl rfl) ?_
  refine q0r (by kernel_rfl) (R ((D 4) ((L H 0) ?_)))
  refine bb hr fun y14 hy14 hr=>?_
  refine (CA z8D (q3R hy14 (F0:=nF) hS1)) (cE H fun w40 H=>(N) ?_)
  refine bb hr fun q13 hm13 hr=>?_
  refine cu H 6 [(1,pB b1),(3,pB b2),(4,.int .i64 1),(81,.bool q13)] d2 [d4,.B b2 136 d7] ?_ fun σ w42 H=>?_
  ·refine jM hm13 (fun _ hm13=>?_) fun _ hm13=>?_
   ·exact OF hm13
   refine (G) ((D 5) ((G) ((L H 0) ((G) ?_))))
   refine bb hm13 fun y15 hy15 hm13=>?_
   exact (CA z8D (q3R hy15 (F0:=nF) hS2)) (cE H fun w41 H=>(G) ((N) ((U) (Z (C1 hm13)))))
  refine Z (iB hr (fun _ hr=>?_) fun _ hr=>?_)
  ·exact R ((AZ) (W1 hr))
  refine K (R ((D 6) ((L H 0) ((NI H 1) fun hl6=>(V) ((B) ?_)))))
  refine bb hr fun q14 hm14 hr=>?_
  refine cu H 5 [(1,pB b1),(3,pB b2),(94,.bool q14)] d2 [d4,.B b2 136 d7] ?_ fun σ w44 H=>?_
  ·refine jD hm14 (fun _ hm14=>?_) fun _ hm14=>?_
   ·refine (G) ((D 2) ((G) ((L H 0) ((G) ?_))))
    refine bb hm14 fun y16 hy16 hm14=>?_
    exact (CA ok93 (q3u hy16 (F0:=nF) hI3 dI dI)) (cE H fun w43 H=>(T) (Z (C1 hm14)))
   exact OF hm14
  refine bb hr fun q15 hm15 hr=>?_
  refine cu H 5 [(99,.bool q15)] d2 [d4,.B b2 136 d7] ?_ fun σ w46 H=>?_
  ·refine jB hm15 (fun _ hm15=>?_) fun _ hm15=>?_
   ·refine (G) ((LB H 0) ((G) ((LB H 1) ((G) ?_))))
    refine bb hm15 fun y17 hy17 hm15=>?_
    exact (CA j2a (q6J hy17 (q2r.2 ⟨_,rfl,hI1,hI2,hI3,hI4,hS1,hS2,(rs H 1)⟩) (q2r.2 ⟨_,rfl,hI1,dI,dI,dI,hS1,hS2,(rs H 1)⟩))) (cE H fun w45 H=>(T) (Z (C1 hm15)))
   exact OF hm15
  exact (AZ) (W1 hr)
 refine Y (R ((B) ((AZ) (iD hr (fun _ hr=>?_) fun _ hr=>?_))))
 ·refine K (iD hr (fun _ hr=>?_) fun _ hr=>?_)
  ·refine K (R ((D 6) ((L H 0) ((NI H 1) fun hl7=>(V) ((B) ?_)))))
   refine bb hr fun q16 hm16 hr=>?_
   refine cu H 5 [(1,pB b1),(3,pB b2),(94,.bool q16)] d2 d1 ?_ fun σ w48 H=>?_
   ·refine jD hm16 (fun _ hm16=>?_) fun _ hm16=>?_
    ·refine (G) ((D 2) ((G) ((L H 0) ((G) ?_))))
     refine bb hm16 fun y18 hy18 hm16=>?_
     exact (CA ok93 (q3u hy18 (F0:=nF) hI3 dI dI)) (cE H fun w47 H=>(T) (Z (C1 hm16)))
    exact OF hm16
   refine bb hr fun q17 hm17 hr=>?_
   refine cu H 5 [(99,.bool q17)] d2 d1 ?_ fun σ w50 H=>?_
   ·refine jB hm17 (fun _ hm17=>?_) fun _ hm17=>?_
    ·refine (G) ((LB H 0) ((G) ((LB H 1) ((G) ?_))))
     refine bb hm17 fun y19 hy19 hm17=>?_
     exact (CA j2a (q6J hy19 (q2r.2 ⟨_,rfl,hI1,hI2,hI3,hI4,hS1,hS2,(rs H 1)⟩) (q2r.2 ⟨_,rfl,hI1,dI,dI,dI,dI,dI,(rs H 1)⟩))) (cE H fun w49 H=>(T) (Z (C1 hm17)))
    exact OF hm17
   exact (AZ) (W1 hr)
  exact R ((AZ) (W1 hr))
 refine X ((B) ((AZ) (iD hr (fun _ hr=>?_) fun _ hr=>?_)))
 ·refine K (R ((D 6) ((L H 0) ((NI H 1) fun hl8=>(V) ((B) ?_)))))
  refine bb hr fun q18 hm18 hr=>?_
  refine cu H 5 [(1,pB b1),(3,pB b2),(94,.bool q18)] d2 d1 ?_ fun σ w52 H=>?_
  ·refine jD hm18 (fun _ hm18=>?_) fun _ hm18=>?_
   ·refine (G) ((D 2) ((G) ((L H 0) ((G) ?_))))
    refine bb hm18 fun y20 hy20 hm18=>?_
    exact (CA ok93 (q3u hy20 (F0:=nF) hI3 dI dI)) (cE H fun w51 H=>(T) (Z (C1 hm18)))
   exact OF hm18
  refine bb hr fun q19 hm19 hr=>?_
  refine cu H 5 [(99,.bool q19)] d2 d1 ?_ fun σ w54 H=>?_
  ·refine jB hm19 (fun _ hm19=>?_) fun _ hm19=>?_
   ·refine (G) ((LB H 0) ((G) ((LB H 1) ((G) ?_))))
    refine bb hm19 fun y21 hy21 hm19=>?_
    exact (CA j2a (q6J hy21 (q2r.2 ⟨_,rfl,hI1,hI2,hI3,hI4,hS1,hS2,(rs H 1)⟩) (q2r.2 ⟨_,rfl,hI1,dI,dI,dI,dI,dI,(rs H 1)⟩))) (cE H fun w53 H=>(T) (Z (C1 hm19)))
   exact OF hm19
  exact (AZ) (W1 hr)
 exact R ((AZ) (W1 hr))
def q5W (rec_ieveryNode_iexprNodeOk:Expr→Option Bool)(a0:Expr):Option Bool:=(rec_ieveryNode_iexprNodeOk a0).bind fun y1=>some (!y1)
theorem z1f {rec_ieveryNode_iexprNodeOk:Expr→Option Bool}(ih_ieveryNode_iexprNodeOk:∀ {a0:Expr} {r:Bool},rec_ieveryNode_iexprNodeOk a0=some r→∀ {F0:Nat→Prop} {w0:World} {ca0} (ha0:rd F0 w0 a0 ca0),RB 124 #[ag ca0,.func (.func 251) #[] #[]] w0 r){a0}{r}(hr:q5W rec_ieveryNode_iexprNodeOk a0=some r){ca0}(ha0:rd F0 w0 a0 ca0){b1p:Nat}(ha1:F0 b1p∧At w0 b1p 0 [.func (.func 251) #[] #[]]):RB 163 #[ag ca0,pB b1p] w0 r:=by
 have H:=(HL.start F0 w0).argR ha0
 obtain⟨A1,n1,c1,rfl,hI1,hI2,hI3,hI4,hS1,hS2,H⟩:=q3q H 0
 have H:=H.argA ha1
 refine (En Tryz.func163) ?_
 refine R ((BX H) fun b1 w1 H=>(A) (Z (R ((LB H 0) ((L0 H 2) ?_)))))
 refine bb hr fun y1 hy1 hr=>?_
 exact (CA j1Z (ih_ieveryNode_iexprNodeOk hy1 (F0:=fun q=>q < _) (q2r.2 ⟨_,rfl,hI1,hI2,hI3,hI4,hS1,hS2,(rs H 1)⟩))) (cE H fun w2 H=>(N) ((AZ) (W1 hr)))
def q3Y (rec_ieveryNode_iexprNodeOk:Expr→Option Bool):Nat→Expr→Unit→Option (Unit ⊕ Int):=fun k1 x1 _=>(q5W rec_ieveryNode_iexprNodeOk x1).bind fun y1=>if y1=true then some (.inr (k1:Int)) else some (.inl ())
def q3a (rec_ieveryNode_iexprNodeOk:Expr→Option Bool)(a0:(List Expr)):Option Int:=(q2u (q3Y rec_ieveryNode_iexprNodeOk) 0 a0 ()).bind <| onr (fun r1=>some r1) fun _=>some (-1)
theorem q5X {rec_ieveryNode_iexprNodeOk:Expr→Option Bool}(ih_ieveryNode_iexprNodeOk:∀ {a0:Expr} {r:Bool},rec_ieveryNode_iexprNodeOk a0=some r→∀ {F0:Nat→Prop} {w0:World} {ca0} (ha0:rd F0 w0 a0 ca0),RB 124 #[ag ca0,.func (.func 251) #[] #[]] w0 r){a0}{r}(hr:q3a rec_ieveryNode_iexprNodeOk a0=some r){z0}(ha0:rdS F0 w0 a0 z0){b1_0p:Nat}(ha1_0:F0 b1_0p∧At w0 b1_0p 0 [.func (.func 251) #[] #[]]):RT 123 #[z0,.func (.func 163) #[] #[pB b1_0p]] w0 fun v w=>v = .int .i64 r∧I64 r:=by
 obtain⟨A0',n0',c0',rfl⟩:=ha0.form3
 have H:=(HL.start F0 w0).argS ha0
 have H:=H.argA ha1_0
 refine (En Tryz.func123) ?_
 refine R ((A) (Z (Y (R ((V) ((NI H 0) fun hl1=>(V) (Z ?_)))))))
 refine bb hr fun q1 hq1 hr=>?_
 refine (lF hq1 (fun k1 _ _=>[(0,.slice A0' n0' c0'),(1,.func (.func 163) #[] #[pB b1_0p]),(7,zN a0.length),(8,zN k1)]) (fun _ _ w=>HL F0 [] w0 w [.S a0 (.slice A0' n0' c0'),.A b1_0p 0 [.func (.func 251) #[] #[]]] []) ()) ?_
 rintro k1 _ _ σ w1 hk1 hq1 H
 refine R ((BZ) (Y ?_))
 refine q0e rfl (fun h1=>?_) (fun h1=>?_)
 ·have hk2:=q2G h1
  obtain⟨x1,z1,hx1,hb1,hs1,ht1⟩:=q3o hq1 hk2
  refine K (Y ?_)
  refine Bk (R ((V) ((A) (Z (R ((V) ((V) ((V) ?_))))))))
  obtain⟨b1,ob1,cb1,A1,n1,c1,hvb1,hI1,hI2,hI3,hI4,hS1,hS2,H⟩:=q4f H 0 hx1
  refine (J 7 hvb1 hx1) ((LA H 2) ?_)
  refine bb hb1 fun y1 hy1 hb1=>?_
  refine (CA j8i (z1f ih_ieveryNode_iexprNodeOk hy1 (F0:=fun q=>q < _) (q2r.2 ⟨_,rfl,hI1,hI2,hI3,hI4,hS1,hS2,(rs H 4)⟩) ⟨H.rAl (i:=1) rfl,H.rA (i:=1) rfl⟩)) (cE H fun w2 H=>Z (iB hb1 (fun _ hb1=>?_) fun _ hb1=>?_))
  ·exact R ((V) ((AZ) (W2 hb1 ht1 hr)))
  exact K (X ((AN hk2 hl1) ((V) (Z (I2 hb1 hs1 ⟨k1+1,(),()⟩)))))
 obtain rfl:=q2M hq1 (q2t h1)
 have hr:=(q2S _ _ _).symm.trans hr
 exact CE (R ((AZ) (W1 hr)))
def q2Q (rec_ieveryNode_iexprNodeOk:Expr→Option Bool)(a0:(List Expr)):Option Bool:=(q3a rec_ieveryNode_iexprNodeOk a0).bind fun y1=>some (decide (0≤y1))
theorem q5J {rec_ieveryNode_iexprNodeOk:Expr→Option Bool}(ih_ieveryNode_iexprNodeOk:∀ {a0:Expr} {r:Bool},rec_ieveryNode_iexprNodeOk a0=some r→∀ {F0:Nat→Prop} {w0:World} {ca0} (ha0:rd F0 w0 a0 ca0),RB 124 #[ag ca0,.func (.func 251) #[] #[]] w0 r){a0}{r}(hr:q2Q rec_ieveryNode_iexprNodeOk a0=some r){z0}(ha0:rdS F0 w0 a0 z0){b1_0p:Nat}(ha1_0:F0 b1_0p∧At w0 b1_0p 0 [.func (.func 251) #[] #[]]):RB 84 #[z0,.func (.func 163) #[] #[pB b1_0p]] w0 r:=by
 obtain⟨A0',n0',c0',rfl⟩:=ha0.form3
 have H:=(HL.start F0 w0).argS ha0
 have H:=H.argA ha1_0
 refine (En Tryz.func84) ?_
 refine R ((A) (Z (R ((V) ((V) ?_)))))
 refine bb hr fun y1 hy1 hr=>?_
 exact (CA j4Y (q5X ih_ieveryNode_iexprNodeOk hy1 (F0:=fun q=>q < _) (rs H 0) ⟨H.rAl (i:=1) rfl,H.rA (i:=1) rfl⟩)) (cF' H fun w1 hI1 H=>(B) ((AZ) (W1 hr)))
def q5k (rec_ieveryNode_iexprNodeOk:Expr→Option Bool)(a0:Expr):Option Bool:=(z0C a0).bind fun y1=>if y1=true then (q2Q rec_ieveryNode_iexprNodeOk a0.Args).bind fun y2=>some (!y2) else some false
theorem z1q {rec_ieveryNode_iexprNodeOk:Expr→Option Bool}(ih_ieveryNode_iexprNodeOk:∀ {a0:Expr} {r:Bool},rec_ieveryNode_iexprNodeOk a0=some r→∀ {F0:Nat→Prop} {w0:World} {ca0} (ha0:rd F0 w0 a0 ca0),RB 124 #[ag ca0,.func (.func 251) #[] #[]] w0 r){a0}{r}(hr:q5k rec_ieveryNode_iexprNodeOk a0=some r){ca0}(ha0:rd F0 w0 a0 ca0):RB 124 #[ag ca0,.func (.func 251) #[] #[]] w0 r:=by
 have H:=(HL.start F0 w0).argR ha0
 obtain⟨A1,n1,c1,rfl,hI1,hI2,hI3,hI4,hS1,hS2,H⟩:=q3q H 0
 refine (En Tryz.func124) ?_
 refine R ((BX H) fun b1 w1 H=>(BX H) fun b2 w2 H=>(A) (Z (R ((L H 1) ((LB H 0) ?_)))))
 refine bb hr fun y1 hy1 hr=>?_
 refine (CA k3W (j0g hy1 (q2r.2 ⟨_,rfl,hI1,hI2,hI3,hI4,hS1,hS2,(rs H 1)⟩))) (cE H fun w3 H=>jB hr (fun _ hr=>?_) fun _ hr=>?_)
 ·refine (G) ((D 6) ((G) ((L H 0) ((G) ?_))))
  refine q0b rfl rfl (q0q rfl rfl rfl) ((G) ?_)
  refine bb hr fun y2 hy2 hr=>?_
  exact (CA ok84 (q5J ih_ieveryNode_iexprNodeOk hy2 (F0:=fun q=>q < _) (rs H 1) ⟨(rb H 1).lt,At.blk (rb H 1)⟩)) (cE H fun w4 H=>(G) ((N) ((T) ((AZ) (W1 hr)))))
 exact (O) ((O) ((O) ((O) ((O) ((U) ((AZ) (W1 hr)))))))
def q4p:Nat→Expr→Option Bool
  | 0,_=>none
  | n+1,a0=>q5k (q4p n) a0
def q6z (a0:Expr):Option Bool:=recO fun n=>q4p n a0
theorem z1r (n:Nat):∀ {a0:Expr} {r:Bool},q4p n a0=some r→∀ {F0:Nat→Prop} {w0:World} {ca0} (ha0:rd F0 w0 a0 ca0),RB 124 #[ag ca0,.func (.func 251) #[] #[]] w0 r:=by
 induction n with
 | zero=>intro a0 r hr; exact nomatch (show (none:Option Bool)=some r from hr)
 | succ n ih=>intro a0 r hr; exact z1q ih hr
theorem z2a {a0}{r}(hr:q6z a0=some r){ca0}(ha0:rd F0 w0 a0 ca0):RB 124 #[ag ca0,.func (.func 251) #[] #[]] w0 r:=by
 obtain⟨n,hn⟩:=q4v hr
 exact z1r n hn ha0
def q9L (a0:Expr):Option Bool:=(z3W a0).bind fun y1=>( if y1≤24 then (z1Z a0).bind fun y2=>some (decide (y2≤6)) else some false ).bind fun s1=>( if s1=true then (q6z a0).bind fun y3=>some y3 else some false ).bind fun s2=>some s2
theorem z9g {a0}{r}(hr:q9L a0=some r){ca0}(ha0:rd F0 w0 a0 ca0):RB 238 #[ag ca0] w0 r:=by
 have H:=(HL.start F0 w0).argR ha0
 obtain⟨A1,n1,c1,rfl,hI1,hI2,hI3,hI4,hS1,hS2,H⟩:=q3q H 0
 let d1:=q2D a0 A1 n1 c1
 let d2:List Pr:=[.R a0 d1,.S a0.Args (.slice A1 n1 c1)]
 refine (En Tryz.func238) ?_
 refine R ((BX H) fun b1 w1 H=>(A) (Z (R ((LB H 0) ?_))))
 refine bb hr fun y1 hy1 hr=>?_
 refine (CA k1D (j1n hy1 (q2r.2 ⟨_,rfl,hI1,hI2,hI3,hI4,hS1,hS2,(rs H 1)⟩))) (cF' H fun w2 hI5 H=>(B) ?_)
 refine bb hr fun q1 hm1 hr=>?_
 refine cu H 5 [(1,pB b1),(2,.bool false),(10,.bool q1)] d2 [.B b1 136 d1] ?_ fun σ w4 H=>?_
 ·refine jD hm1 (fun _ hm1=>?_) fun _ hm1=>?_
  ·refine (G) ((LB H 0) ((G) ?_))
   refine bb hm1 fun y2 hy2 hm1=>?_
   exact (CA k1E (z9f hy2 (q2r.2 ⟨_,rfl,hI1,hI2,hI3,hI4,hS1,hS2,(rs H 1)⟩))) (cF' H fun w3 hI6 H=>(G) ((B) ((T) (Z (C1 hm1)))))
  exact OF hm1
 refine bb hr fun q2 hm2 hr=>?_
 refine cu H 4 [(2,.bool false),(14,.bool q2)] d2 [.B b1 136 d1] ?_ fun σ w6 H=>?_
 ·refine jB hm2 (fun _ hm2=>?_) fun _ hm2=>?_
  ·refine (G) ((LB H 0) ((G) ?_))
   refine bb hm2 fun y3 hy3 hm2=>?_
   exact (CA j1Z (z2a hy3 (F0:=fun q=>q < _) (q2r.2 ⟨_,rfl,hI1,hI2,hI3,hI4,hS1,hS2,(rs H 1)⟩))) (cE H fun w5 H=>(T) (Z (C1 hm2)))
  exact OF hm2
 exact (AZ) (W1 hr)
def z9h (a0:Expr)(a1:Int):Option Bool:=some (decide (a0.Pos≤a1))
theorem j5o {a0}{a1}{r}(hr:z9h a0 a1=some r){ca0}(ha0:rd F0 w0 a0 ca0){b1p:Nat}(ha1:CapP F0 w0 b1p a1):RB 239 #[ag ca0,pB b1p] w0 r:=by
 have H:=(HL.start F0 w0).argR ha0
 obtain⟨A1,n1,c1,rfl,hI1,hI2,hI3,hI4,hS1,hS2,H⟩:=q3q H 0
 obtain⟨cpa1,H⟩:=H.argP ha1
 obtain⟨rfl,hI5,H⟩:=z7u H 3
 refine (En Tryz.func239) ?_
 exact R ((BX H) fun b1 w1 H=>(A) (Z (R ((D 2) ((L H 0) ((L0 H 2) ((B) ((AZ) (W1 hr)))))))))
def q7m (rec_ieveryNode_ifits_1:Expr→Int→Option Bool)(a0:Expr)(a1_0:Int):Option Bool:=(rec_ieveryNode_ifits_1 a0 a1_0).bind fun y1=>some (!y1)
theorem z2V {rec_ieveryNode_ifits_1:Expr→Int→Option Bool}(ih_ieveryNode_ifits_1:∀ {a0:Expr} {a1_0:Int} {r:Bool},rec_ieveryNode_ifits_1 a0 a1_0=some r→∀ {F0:Nat→Prop} {w0:World} {ca0} (ha0:rd F0 w0 a0 ca0) {b1_0p:Nat} (ha1_0:CapP F0 w0 b1_0p a1_0),RB 124 #[ag ca0,.func (.func 239) #[] #[pB b1_0p]] w0 r){a0}{a1_0}{r}(hr:q7m rec_ieveryNode_ifits_1 a0 a1_0=some r){ca0}(ha0:rd F0 w0 a0 ca0){b1_0p:Nat}(ha1_0:CapP F0 w0 b1_0p a1_0){b1p:Nat}(ha1:F0 b1p∧At w0 b1p 0 [.func (.func 239) #[] #[pB b1_0p]]):RB 163 #[ag ca0,pB b1p] w0 r:=by
 have H:=(HL.start F0 w0).argR ha0
 obtain⟨A1,n1,c1,rfl,hI1,hI2,hI3,hI4,hS1,hS2,H⟩:=q3q H 0
 obtain⟨cpa1_0,H⟩:=H.argP ha1_0
 obtain⟨rfl,hI5,H⟩:=z7u H 3
 have H:=H.argA ha1
 refine (En Tryz.func163) ?_
 refine R ((BX H) fun b1 w1 H=>(A) (Z (R ((LB H 0) ((L0 H 4) ?_)))))
 refine bb hr fun y1 hy1 hr=>?_
 exact (CA j1Z (ih_ieveryNode_ifits_1 hy1 (F0:=fun q=>q < _) (q2r.2 ⟨_,rfl,hI1,hI2,hI3,hI4,hS1,hS2,(rs H 1)⟩) ⟨H.rAl (i:=2) rfl,_,H.rA (i:=2) rfl,⟨rfl,hI5⟩⟩)) (cE H fun w2 H=>(N) ((AZ) (W1 hr)))
def q4q (rec_ieveryNode_ifits_1:Expr→Int→Option Bool)(a1_0_0:Int):Nat→Expr→Unit→Option (Unit ⊕ Int):=fun k1 x1 _=>(q7m rec_ieveryNode_ifits_1 x1 a1_0_0).bind fun y1=>if y1=true then some (.inr (k1:Int)) else some (.inl ())
def q3r (rec_ieveryNode_ifits_1:Expr→Int→Option Bool)(a0:(List Expr))(a1_0_0:Int):Option Int:=(q2u (q4q rec_ieveryNode_ifits_1 a1_0_0) 0 a0 ()).bind <| onr (fun r1=>some r1) fun _=>some (-1)
theorem q6A {rec_ieveryNode_ifits_1:Expr→Int→Option Bool}(ih_ieveryNode_ifits_1:∀ {a0:Expr} {a1_0:Int} {r:Bool},rec_ieveryNode_ifits_1 a0 a1_0=some r→∀ {F0:Nat→Prop} {w0:World} {ca0} (ha0:rd F0 w0 a0 ca0) {b1_0p:Nat} (ha1_0:CapP F0 w0 b1_0p a1_0),RB 124 #[ag ca0,.func (.func 239) #[] #[pB b1_0p]] w0 r){a0}{a1_0_0 r}(hr:q3r rec_ieveryNode_ifits_1 a0 a1_0_0=some r){z0}(ha0:rdS F0 w0 a0 z0){b1_0_0p:Nat}(ha1_0_0:CapP F0 w0 b1_0_0p a1_0_0){b1_0p:Nat}(ha1_0:F0 b1_0p∧At w0 b1_0p 0 [.func (.func 239) #[] #[pB b1_0_0p]]):RT 123 #[z0,.func (.func 163) #[] #[pB b1_0p]] w0 fun v w=>v = .int .i64 r∧I64 r:=by
 obtain⟨A0',n0',c0',rfl⟩:=ha0.form3
 have H:=(HL.start F0 w0).argS ha0
 obtain⟨cpa1_0_0,H⟩:=H.argP ha1_0_0
 obtain⟨rfl,hI1,H⟩:=z7u H 2
 have H:=H.argA ha1_0
 refine (En Tryz.func123) ?_
 refine R ((A) (Z (Y (R ((V) ((NI H 0) fun hl1=>(V) (Z ?_)))))))
 refine bb hr fun q1 hq1 hr=>?_
 refine (lF hq1 (fun k1 _ _=>[(0,.slice A0' n0' c0'),(1,.func (.func 163) #[] #[pB b1_0p]),(7,zN a0.length),(8,zN k1)]) (fun _ _ w=>HL F0 [] w0 w [.S a0 (.slice A0' n0' c0'),.A b1_0_0p 0 [.int .i64 a1_0_0],.R a1_0_0 [.int .i64 a1_0_0],.A b1_0p 0 [.func (.func 239) #[] #[pB b1_0_0p]]] []) ()) ?_
 rintro k1 _ _ σ w1 hk1 hq1 H
 refine R ((BZ) (Y ?_))
 refine q0e rfl (fun h1=>?_) (fun h1=>?_)
 ·have hk2:=q2G h1
  obtain⟨x1,z1,hx1,hb1,hs1,ht1⟩:=q3o hq1 hk2
  refine K (Y ?_)
  refine Bk (R ((V) ((A) (Z (R ((V) ((V) ((V) ?_))))))))
  obtain⟨b1,ob1,cb1,A1,n1,c1,hvb1,hI2,hI3,hI4,hI5,hS1,hS2,H⟩:=q4f H 0 hx1
  refine (J 7 hvb1 hx1) ((LA H 4) ?_)
  refine bb hb1 fun y1 hy1 hb1=>?_
  refine (CA j8i (z2V ih_ieveryNode_ifits_1 hy1 (F0:=fun q=>q < _) (q2r.2 ⟨_,rfl,hI2,hI3,hI4,hI5,hS1,hS2,(rs H 6)⟩) ⟨H.rAl (i:=1) rfl,_,H.rA (i:=1) rfl,⟨rfl,hI1⟩⟩ ⟨H.rAl (i:=3) rfl,H.rA (i:=3) rfl⟩)) (cE H fun w2 H=>Z (iB hb1 (fun _ hb1=>?_) fun _ hb1=>?_))
  ·exact R ((V) ((AZ) (W2 hb1 ht1 hr)))
  exact K (X ((AN hk2 hl1) ((V) (Z (I2 hb1 hs1 ⟨k1+1,(),()⟩)))))
 obtain rfl:=q2M hq1 (q2t h1)
 have hr:=(q2S _ _ _).symm.trans hr
 exact CE (R ((AZ) (W1 hr)))
def q3h (rec_ieveryNode_ifits_1:Expr→Int→Option Bool)(a0:(List Expr))(a1_0_0:Int):Option Bool:=(q3r rec_ieveryNode_ifits_1 a0 a1_0_0).bind fun y1=>some (decide (0≤y1))
theorem q6j {rec_ieveryNode_ifits_1:Expr→Int→Option Bool}(ih_ieveryNode_ifits_1:∀ {a0:Expr} {a1_0:Int} {r:Bool},rec_ieveryNode_ifits_1 a0 a1_0=some r→∀ {F0:Nat→Prop} {w0:World} {ca0} (ha0:rd F0 w0 a0 ca0) {b1_0p:Nat} (ha1_0:CapP F0 w0 b1_0p a1_0),RB 124 #[ag ca0,.func (.func 239) #[] #[pB b1_0p]] w0 r){a0}{a1_0_0}{r}(hr:q3h rec_ieveryNode_ifits_1 a0 a1_0_0=some r){z0}(ha0:rdS F0 w0 a0 z0){b1_0_0p:Nat}(ha1_0_0:CapP F0 w0 b1_0_0p a1_0_0){b1_0p:Nat}(ha1_0:F0 b1_0p∧At w0 b1_0p 0 [.func (.func 239) #[] #[pB b1_0_0p]]):RB 84 #[z0,.func (.func 163) #[] #[pB b1_0p]] w0 r:=by
 obtain⟨A0',n0',c0',rfl⟩:=ha0.form3
 have H:=(HL.start F0 w0).argS ha0
 obtain⟨cpa1_0_0,H⟩:=H.argP ha1_0_0
 obtain⟨rfl,hI1,H⟩:=z7u H 2
 have H:=H.argA ha1_0
 refine (En Tryz.func84) ?_
 refine R ((A) (Z (R ((V) ((V) ?_)))))
 refine bb hr fun y1 hy1 hr=>?_
 exact (CA j4Y (q6A ih_ieveryNode_ifits_1 hy1 (F0:=fun q=>q < _) (rs H 0) ⟨H.rAl (i:=1) rfl,_,H.rA (i:=1) rfl,⟨rfl,hI1⟩⟩ ⟨H.rAl (i:=3) rfl,H.rA (i:=3) rfl⟩)) (cF' H fun w1 hI2 H=>(B) ((AZ) (W1 hr)))
def q6t (rec_ieveryNode_ifits_1:Expr→Int→Option Bool)(a0:Expr)(a1_0:Int):Option Bool:=(z9h a0 a1_0).bind fun y1=>if y1=true then (q3h rec_ieveryNode_ifits_1 a0.Args a1_0).bind fun y2=>some (!y2) else some false
theorem z3w {rec_ieveryNode_ifits_1:Expr→Int→Option Bool}(ih_ieveryNode_ifits_1:∀ {a0:Expr} {a1_0:Int} {r:Bool},rec_ieveryNode_ifits_1 a0 a1_0=some r→∀ {F0:Nat→Prop} {w0:World} {ca0} (ha0:rd F0 w0 a0 ca0) {b1_0p:Nat} (ha1_0:CapP F0 w0 b1_0p a1_0),RB 124 #[ag ca0,.func (.func 239) #[] #[pB b1_0p]] w0 r){a0}{a1_0}{r}(hr:q6t rec_ieveryNode_ifits_1 a0 a1_0=some r){ca0}(ha0:rd F0 w0 a0 ca0){b1_0p:Nat}(ha1_0:CapP F0 w0 b1_0p a1_0):RB 124 #[ag ca0,.func (.func 239) #[] #[pB b1_0p]] w0 r:=by
 have H:=(HL.start F0 w0).argR ha0
 obtain⟨A1,n1,c1,rfl,hI1,hI2,hI3,hI4,hS1,hS2,H⟩:=q3q H 0
 obtain⟨cpa1_0,H⟩:=H.argP ha1_0
 obtain⟨rfl,hI5,H⟩:=z7u H 3
 refine (En Tryz.func124) ?_
 refine R ((BX H) fun b1 w1 H=>(BX H) fun b2 w2 H=>(A) (Z (R ((L H 1) ((LB H 0) ?_)))))
 refine bb hr fun y1 hy1 hr=>?_
 refine (CA k3U (j5o hy1 (F0:=fun q=>q < _) (q2r.2 ⟨_,rfl,hI1,hI2,hI3,hI4,hS1,hS2,(rs H 1)⟩) ⟨H.rAl (i:=2) rfl,_,H.rA (i:=2) rfl,⟨rfl,hI5⟩⟩)) (cE H fun w3 H=>jB hr (fun _ hr=>?_) fun _ hr=>?_)
 ·refine (G) ((D 6) ((G) ((L H 0) ((G) ?_))))
  refine q0b rfl rfl (q0q rfl rfl rfl) ((G) ?_)
  refine bb hr fun y2 hy2 hr=>?_
  exact (CA ok84 (q6j ih_ieveryNode_ifits_1 hy2 (F0:=fun q=>q < _) (rs H 1) ⟨H.rAl (i:=2) rfl,_,H.rA (i:=2) rfl,⟨rfl,hI5⟩⟩ ⟨(rb H 1).lt,At.blk (rb H 1)⟩)) (cE H fun w4 H=>(G) ((N) ((T) ((AZ) (W1 hr)))))
 exact (O) ((O) ((O) ((O) ((O) ((U) ((AZ) (W1 hr)))))))
def q5w:Nat→Expr→Int→Option Bool
  | 0,_,_=>none
  | n+1,a0,a1_0=>q6t (q5w n) a0 a1_0
def q7W (a0:Expr)(a1_0:Int):Option Bool:=recO fun n=>q5w n a0 a1_0
theorem z3x (n:Nat):∀ {a0:Expr} {a1_0:Int} {r:Bool},q5w n a0 a1_0=some r→∀ {F0:Nat→Prop} {w0:World} {ca0} (ha0:rd F0 w0 a0 ca0) {b1_0p:Nat} (ha1_0:CapP F0 w0 b1_0p a1_0),RB 124 #[ag ca0,.func (.func 239) #[] #[pB b1_0p]] w0 r:=by
 induction n with
 | zero=>intro a0 a1_0 r hr; exact nomatch (show (none:Option Bool)=some r from hr)
 | succ n ih=>intro a0 a1_0 r hr; exact z3w ih hr
theorem z3X {a0}{a1_0}{r}(hr:q7W a0 a1_0=some r){ca0}(ha0:rd F0 w0 a0 ca0){b1_0p:Nat}(ha1_0:CapP F0 w0 b1_0p a1_0):RB 124 #[ag ca0,.func (.func 239) #[] #[pB b1_0p]] w0 r:=by
 obtain⟨n,hn⟩:=q4v hr
 exact z3x n hn ha0 ha1_0
def z7c (a0:Expr)(a1:Int):Option Bool:=(q9L a0).bind fun y1=>if y1=true then (q7W a0 a1).bind fun y2=>some y2 else some false
theorem j1p {a0}{a1}{r}(hr:z7c a0 a1=some r){ca0}(ha0:rd F0 w0 a0 ca0)(ha1:I64 a1):RB 214 #[ag ca0,.int .i64 a1] w0 r:=by
 have H:=(HL.start F0 w0).argR ha0
 obtain⟨A1,n1,c1,rfl,hI1,hI2,hI3,hI4,hS1,hS2,H⟩:=q3q H 0
 refine (En Tryz.func214) ?_
 refine R ((BX H) fun b1 w1 H=>(BX H) fun b2 w2 H=>(A) (Z (R ((LB H 0) ?_))))
 refine bb hr fun y1 hy1 hr=>?_
 refine (CA k3T (z9g hy1 (q2r.2 ⟨_,rfl,hI1,hI2,hI3,hI4,hS1,hS2,(rs H 1)⟩))) (cE H fun w3 H=>jB hr (fun _ hr=>?_) fun _ hr=>?_)
 ·refine (G) ((LB H 0) ((G) ?_))
  refine q0b rfl rfl (q0q rfl rfl rfl) ((G) ?_)
  refine bb hr fun y2 hy2 hr=>?_
  exact (CA j1Z (z3X hy2 (F0:=fun q=>q < _) (q2r.2 ⟨_,rfl,hI1,hI2,hI3,hI4,hS1,hS2,(rs H 1)⟩) ⟨(rb H 1).lt,_,At.blk (rb H 1),⟨rfl,ha1⟩⟩)) (cE H fun w4 H=>(T) ((AZ) (W1 hr)))
 exact (O) ((O) ((O) ((U) ((AZ) (W1 hr)))))
def z3Y:Nat→ByteArray→Unit→Option (Unit ⊕ Bool):=fun k1 x1 _=>(q3g x1).bind fun y3=>if y3=true then some (.inl ()) else some (.inr false)
def z3Z (a0:Rule):Nat→Equation→Unit→Option (Unit ⊕ Bool):=fun k2 x2 _=>(z7c x2.Expr (a0.Right.length:Int)).bind fun y4=>( if y4=true then (q3g x2.At.Name).bind fun y5=>some (!y5) else some true ).bind fun s4=>( if s4=true then some true else (q2Y x2.At.Pos 0 (a0.Right.length:Int)).bind fun y6=>some (!y6) ).bind fun s5=>if s5=true then some (.inr false) else some (.inl ())
def z4a (a0:Rule):Nat→Contribution→Unit→Option (Unit ⊕ Bool):=fun k3 x3 _=>(z7c x3.Target (a0.Right.length:Int)).bind fun y7=>( if y7=true then (z7c x3.Value (a0.Right.length:Int)).bind fun y8=>some (!y8) else some true ).bind fun s6=>( if s6=true then some true else (q3g x3.Symbol).bind fun y9=>some (!y9) ).bind fun s7=>( if s7=true then some true else (q3g x3.Name).bind fun y10=>some (!y10) ).bind fun s8=>if s8=true then some (.inr false) else some (.inl ())
def q9M (a0:Rule):Option Bool:=(q3g a0.Name).bind fun y1=>( if y1=true then (q3g a0.Left).bind fun y2=>some (!y2) else some true ).bind fun s1=>( if s1=true then some true else some (decide (3 < (a0.Right.length:Int))) ).bind fun s2=>( if s2=true then some true else some (decide (2 < (a0.Contributions.length:Int))) ).bind fun s3=>if s3=true then some false else (q2u z3Y 0 a0.Right ()).bind <| onr (fun r1=>some r1) fun _=>(q2u (z3Z a0) 0 a0.Equations ()).bind <| onr (fun r2=>some r2) fun _=>(q2u (z4a a0) 0 a0.Contributions ()).bind <| onr (fun r3=>some r3) fun _=>some true
theorem z9i {a0}{r}(hr:q9M a0=some r){ca0}(ha0:rd F0 w0 a0 ca0):RB 187 #[ag ca0] w0 r:=by
 have H:=(HL.start F0 w0).argR ha0
 obtain⟨A1,n1,c1,A2,n2,c2,A3,n3,c3,rfl,hS1,hS2,H⟩:=q3j H 0
 let d6:Pr:=.S a0.Right (.slice A1 n1 c1)
 let d5:Pr:=.S a0.Equations (.slice A2 n2 c2)
 let d4:Pr:=.S a0.Contributions (.slice A3 n3 c3)
 let d2:=q4o a0 A1 n1 c1 A2 n2 c2 A3 n3 c3
 let d1:List Pr:=[.R a0 d2,d6,d5,d4]
 refine (En Tryz.func187) ?_
 refine R ((BX H) fun b1 w1 H=>(A) (Z (R ((D 2) ((L H 0) ((NI H 1) fun hl1=>(A) (Z (Y (R ((D 0) ((L H 0) ?_)))))))))))
 let d8:It:=.B b1 62 d2
 refine bb hr fun y1 hy1 hr=>?_
 refine (CA z8D (q3R hy1 (F0:=nF) hS1)) (cE H fun w2 H=>(N) ?_)
 refine bb hr fun q1 hm1 hr=>?_
 refine cu H 6 [(1,pB b1),(3,zN a0.Right.length),(22,.bool q1)] d1 [d8] ?_ fun σ w4 H=>?_
 ·refine jM hm1 (fun _ hm1=>?_) fun _ hm1=>?_
  ·exact OF hm1
  refine (G) ((D 1) ((G) ((L H 0) ((G) ?_))))
  refine bb hm1 fun y2 hy2 hm1=>?_
  exact (CA z8D (q3R hy2 (F0:=nF) hS2)) (cE H fun w3 H=>(G) ((N) ((U) (Z (C1 hm1)))))
 refine bb hr fun q2 hm2 hr=>?_
 refine cu H 4 [(1,pB b1),(3,zN a0.Right.length),(26,.bool q2)] d1 [d8] ?_ fun σ w5 H=>?_
 ·refine jB hm2 (fun _ hm2=>?_) fun _ hm2=>?_
  ·exact OF hm2
  exact (G) ((V) ((G) ((B) ((U) (Z (C1 hm2))))))
 refine bb hr fun q3 hm3 hr=>?_
 refine cu H 6 [(1,pB b1),(3,zN a0.Right.length),(32,.bool q3)] d1 [d8] ?_ fun σ w6 H=>?_
 ·refine jB hm3 (fun _ hm3=>?_) fun _ hm3=>?_
  ·exact OF hm3
  exact (G) ((D 5) ((G) ((L H 0) ((G) ((NI H 3) fun hl2=>(G) ((B) ((U) (Z (C1 hm3)))))))))
 refine Z (iB hr (fun _ hr=>?_) fun _ hr=>?_)
 ·exact R ((AZ) (W1 hr))
 refine K (Y (R ((D 2) ((L H 0) ((NN (rs H 1)) ((V) (Z ?_)))))))
 refine bb hr fun q4 hq1 hr=>?_
 refine (lF hq1 (fun k1 _ _=>[(1,pB b1),(3,zN a0.Right.length),(34,.slice A1 n1 c1),(35,zN a0.Right.length),(36,zN k1)]) (fun _ _ w=>HL F0 [] w0 w d1 [d8]) ()) ?_
 rintro k1 _ _ σ w7 hk1 hq1 H
 refine R ((BZ) (Y ?_))
 refine q0e rfl (fun h5=>?_) (fun h5=>?_)
 ·have hk2:=q2G h5
  obtain⟨x1,z1,hx1,hb1,hs1,ht1⟩:=q3o hq1 hk2
  refine K (Y ?_)
  refine Bk (R ?_)
  obtain⟨b2,ob2,cb2,hvb2,hS3,H⟩:=q7l H 1 hx1
  refine (J 1 hvb2 hx1) ((L0 H 4) ((A) (Z (R ((V) ?_)))))
  refine bb hb1 fun y3 hy3 hb1=>?_
  refine (CA z8D (q3R hy3 (F0:=nF) hS3)) (cE H fun w8 H=>(N) (Z (iM hb1 (fun _ hb1=>?_) fun _ hb1=>?_)))
  ·exact R ((AZ) (W2 hb1 ht1 hr))
  exact K (X ((AN hk2 hl1) ((V) (Z (I2 hb1 hs1 ⟨k1+1,(),()⟩)))))
 obtain rfl:=q2M hq1 (q2t h5)
 have hr:=(q2S _ _ _).symm.trans hr
 refine CE (Y (R ((D 4) ((L H 0) ((NI H 2) fun hl3=>(V) (Z ?_))))))
 refine bb hr fun q5 hq2 hr=>?_
 refine (lF hq2 (fun k2 _ _=>[(1,pB b1),(3,zN a0.Right.length),(45,.slice A2 n2 c2),(46,zN a0.Equations.length),(47,zN k2)]) (fun _ _ w=>HL F0 [] w0 w d1 [d8]) ()) ?_
 rintro k2 _ _ σ w9 hk3 hq2 H
 refine R ((BZ) (Y ?_))
 refine q0e rfl (fun h7=>?_) (fun h7=>?_)
 ·have hk4:=q2G h7
  obtain⟨x2,z2,hx2,hb2,hs2,ht2⟩:=q3o hq2 hk4
  refine K (Y ?_)
  refine Bk (R ?_)
  obtain⟨b3,ob3,cb3,A4,n4,c4,hvb3,hI1,hS4,hI2,hI3,hI4,hI5,hS5,hS6,H⟩:=q3P H 2 hx2
  let d7:=q5Z x2 A4 n4 c4
  refine (J 9 hvb3 hx2) ((LA H 4) ((AH z9P H) fun b4 w10 H=>(SB H 1) fun w11 H=>Z (R ((D 2) ?_))))
  refine q0b rfl rfl (q0c rfl q7L q5u rfl (Blk.part (rb H 1) 2 7) rfl) ((V) ?_)
  refine bb hb2 fun y4 hy4 hb2=>?_
  refine (CA k0k (j1p hy4 (q2r.2 ⟨_,rfl,hI2,hI3,hI4,hI5,hS5,hS6,(rs H 6)⟩) hl1)) (cE H fun w12 H=>(N) ?_)
  refine bb hb2 fun q6 hm4 hb2=>?_
  refine cu H 7 [(1,pB b1),(3,zN a0.Right.length),(7,pB b4),(45,.slice A2 n2 c2),(46,zN a0.Equations.length),(47,zN k2),(62,.bool q6)] [.R a0 d2,d6,d5,d4,.A b3 (ob3+k2*9) d7,.R x2 d7,.S x2.Expr.Args (.slice A4 n4 c4)] [d8,.B b4 138 d7] ?_ fun σ w14 H=>?_
  ·refine jM hm4 (fun _ hm4=>?_) fun _ hm4=>?_
   ·exact OF hm4
   refine (G) ((D 0) ((G) ((D 1) ((G) ((L H 1) ((G) ?_))))))
   refine bb hm4 fun y5 hy5 hm4=>?_
   exact (CA z8D (q3R hy5 (F0:=nF) hS4)) (cE H fun w13 H=>(G) ((N) ((U) (Z (C1 hm4)))))
  refine bb hb2 fun q7 hm5 hb2=>?_
  refine cu H 8 [(1,pB b1),(3,zN a0.Right.length),(45,.slice A2 n2 c2),(46,zN a0.Equations.length),(47,zN k2),(70,.bool q7)] [.R a0 d2,d6,d5,d4,.A b3 (ob3+k2*9) d7,.R x2 d7,.S x2.Expr.Args (.slice A4 n4 c4)] [d8,.B b4 138 d7] ?_ fun σ w16 H=>?_
  ·refine jB hm5 (fun _ hm5=>?_) fun _ hm5=>?_
   ·exact OF hm5
   refine (G) ((D 0) ((G) ((D 0) ((G) ((L H 1) ((G) ((V) ((G) ?_))))))))
   refine bb hm5 fun y6 hy6 hm5=>?_
   exact (CA ok93 (q3u hy6 (F0:=nF) hI1 dI hl1)) (cE H fun w15 H=>(G) ((N) ((U) (Z (C1 hm5)))))
  refine Z (iB hb2 (fun _ hb2=>?_) fun _ hb2=>?_)
  ·exact R ((AZ) (W2 hb2 ht2 hr))
  exact K (X ((AN hk4 hl3) ((V) (Z (I2 hb2 hs2 ⟨k2+1,(),()⟩)))))
 obtain rfl:=q2M hq2 (q2t h7)
 have hr:=(q2S _ _ _).symm.trans hr
 refine CE (Y (R ((D 5) ((L H 0) ((NI H 3) fun hl4=>(V) (Z ?_))))))
 refine bb hr fun q8 hq3 hr=>?_
 refine (lF hq3 (fun k3 _ _=>[(3,zN a0.Right.length),(73,.slice A3 n3 c3),(74,zN a0.Contributions.length),(75,zN k3)]) (fun _ _ w=>HL F0 [] w0 w d1 [d8]) ()) ?_
 rintro k3 _ _ σ w17 hk5 hq3 H
 refine R ((BZ) (Y ?_))
 refine q0e rfl (fun h11=>?_) (fun h11=>?_)
 ·have hk6:=q2G h11
  obtain⟨x3,z3,hx3,hb3,hs3,ht3⟩:=q3o hq3 hk6
  refine K (Y ?_)
  refine Bk (R ?_)
  obtain⟨b5,ob5,cb5,A5,n5,c5,A6,n6,c6,hvb5,hS7,hS8,hI6,hI7,hI8,hI9,hS9,hS10,hI10,hI11,hI12,hI13,hS11,hS12,H⟩:=q3V H 3 hx3
  let d10:Pr:=.S x3.Value.Args (.slice A6 n6 c6)
  let d9:Pr:=.S x3.Target.Args (.slice A5 n5 c5)
  let d3:=q4u x3 A5 n5 c5 A6 n6 c6
  refine (J 16 hvb5 hx3) ((LA H 4) ((AH j1Y H) fun b6 w18 H=>(SB H 1) fun w19 H=>Z (R ((D 2) ?_))))
  refine q0b rfl rfl (q0c rfl q7L q5u rfl (Blk.part (rb H 1) 2 7) rfl) ((V) ?_)
  refine bb hb3 fun y7 hy7 hb3=>?_
  refine (CA k0k (j1p hy7 (q2r.2 ⟨_,rfl,hI6,hI7,hI8,hI9,hS9,hS10,(rs H 6)⟩) hl1)) (cE H fun w20 H=>(N) ?_)
  refine bb hb3 fun q9 hm6 hb3=>?_
  refine cu H 7 [(3,zN a0.Right.length),(9,pB b6),(73,.slice A3 n3 c3),(74,zN a0.Contributions.length),(75,zN k3),(90,.bool q9)] [.R a0 d2,d6,d5,d4,.A b5 (ob5+k3*16) d3,.R x3 d3,d9,d10] [d8,.B b6 190 d3] ?_ fun σ w22 H=>?_
  ·refine jM hm6 (fun _ hm6=>?_) fun _ hm6=>?_
   ·exact OF hm6
   refine (G) ((D 9) ((G) ?_))
   refine q0b rfl rfl (q0c rfl q7L q5u rfl (Blk.part (rb H 1) 9 7) rfl) ((G) ((V) ((G) ?_)))
   refine bb hm6 fun y8 hy8 hm6=>?_
   exact (CA k0k (j1p hy8 (q2r.2 ⟨_,rfl,hI10,hI11,hI12,hI13,hS11,hS12,(rs H 7)⟩) hl1)) (cE H fun w21 H=>(G) ((N) ((U) (Z (C1 hm6)))))
  refine bb hb3 fun q10 hm7 hb3=>?_
  refine cu H 6 [(3,zN a0.Right.length),(9,pB b6),(73,.slice A3 n3 c3),(74,zN a0.Contributions.length),(75,zN k3),(96,.bool q10)] [.R a0 d2,d6,d5,d4,.A b5 (ob5+k3*16) d3,.R x3 d3,d9,d10] [d8,.B b6 190 d3] ?_ fun σ w24 H=>?_
  ·refine jB hm7 (fun _ hm7=>?_) fun _ hm7=>?_
   ·exact OF hm7
   refine (G) ((D 0) ((G) ((L H 1) ((G) ?_))))
   refine bb hm7 fun y9 hy9 hm7=>?_
   exact (CA z8D (q3R hy9 (F0:=nF) hS7)) (cE H fun w23 H=>(G) ((N) ((U) (Z (C1 hm7)))))
  refine bb hb3 fun q11 hm8 hb3=>?_
  refine cu H 6 [(3,zN a0.Right.length),(73,.slice A3 n3 c3),(74,zN a0.Contributions.length),(75,zN k3),(102,.bool q11)] [.R a0 d2,d6,d5,d4,.A b5 (ob5+k3*16) d3,.R x3 d3,d9,d10] [d8,.B b6 190 d3] ?_ fun σ w26 H=>?_
  ·refine jB hm8 (fun _ hm8=>?_) fun _ hm8=>?_
   ·exact OF hm8
   refine (G) ((D 1) ((G) ((L H 1) ((G) ?_))))
   refine bb hm8 fun y10 hy10 hm8=>?_
   exact (CA z8D (q3R hy10 (F0:=nF) hS8)) (cE H fun w25 H=>(G) ((N) ((U) (Z (C1 hm8)))))
  refine Z (iB hb3 (fun _ hb3=>?_) fun _ hb3=>?_)
  ·exact R ((AZ) (W2 hb3 ht3 hr))
  exact K (X ((AN hk6 hl4) ((V) (Z (I2 hb3 hs3 ⟨k3+1,(),()⟩)))))
 obtain rfl:=q2M hq3 (q2t h11)
 have hr:=(q2S _ _ _).symm.trans hr
 exact CE (R ((AZ) (W1 hr)))
def q8N (a0 a1:Rule):Option Bool:=some (decide (a0.Name=a1.Name))
theorem z8a {a0 a1}{r}(hr:q8N a0 a1=some r){ca0}(ha0:rd F0 w0 a0 ca0){b1p:Nat}(ha1:CapP F0 w0 b1p a1):RB 188 #[ag ca0,pB b1p] w0 r:=by
 have H:=(HL.start F0 w0).argR ha0
 obtain⟨A1,n1,c1,A2,n2,c2,A3,n3,c3,rfl,hS1,hS2,H⟩:=q3j H 0
 obtain⟨cpa1,H⟩:=H.argP ha1
 obtain⟨A4,n4,c4,A5,n5,c5,A6,n6,c6,rfl,hS3,hS4,H⟩:=q3j H 5
 refine (En Tryz.func188) ?_
 exact R ((BX H) fun b1 w1 H=>(A) (Z (R ((D 0) ((L H 0) ((D 0) ((LC H 4) ((B) ((AZ) (W1 hr))))))))))
def q5l (a1_0:Rule):Nat→Rule→Unit→Option (Unit ⊕ Int):=fun k1 x1 _=>(q8N x1 a1_0).bind fun y1=>if y1=true then some (.inr (k1:Int)) else some (.inl ())
def q4b (a0:(List Rule))(a1_0:Rule):Option Int:=(q2u (q5l a1_0) 0 a0 ()).bind <| onr (fun r1=>some r1) fun _=>some (-1)
theorem q7P {a0}{a1_0}{r}(hr:q4b a0 a1_0=some r){z0}(ha0:rdS F0 w0 a0 z0){b1_0p:Nat}(ha1_0:CapP F0 w0 b1_0p a1_0):RT 122 #[z0,.func (.func 188) #[] #[pB b1_0p]] w0 fun v w=>v = .int .i64 r∧I64 r:=by
 exact ixFu (gm:=fun x=>q8N x a1_0) (caps:=[pB b1_0p]) Tryz.func122 hr ha0 k3x fun w1 hE x cs y hy hx=>z8a hy hx (CapP.lt ha1_0 hE)
def q3I (a0:(List Rule))(a1_0:Rule):Option Bool:=(q4b a0 a1_0).bind fun y1=>some (decide (0≤y1))
theorem q7n {a0}{a1_0}{r}(hr:q3I a0 a1_0=some r){z0}(ha0:rdS F0 w0 a0 z0){b1_0p:Nat}(ha1_0:CapP F0 w0 b1_0p a1_0):RB 82 #[z0,.func (.func 188) #[] #[pB b1_0p]] w0 r:=by
 exact coF Tryz.func82 hr k1r fun hy=>q7P hy ha0 ha1_0
def q9N (a0:Grammar):Nat→Symbol→Unit→Option (Unit ⊕ Int):=fun k1 x1 _=>(q8n x1).bind fun y1=>if y1=true then grd (k1≤a0.Symbols.length) <| (q3y (a0.Symbols.take k1) x1).bind fun y2=>if y2=true then some (.inr (k1:Int)) else some (.inl ()) else some (.inr (k1:Int))
def q9O (a0:Grammar):Nat→Rule→Unit→Option (Unit ⊕ Int):=fun k2 x2 _=>(q9M x2).bind fun y3=>if y3=true then grd (k2≤a0.Rules.length) <| (q3I (a0.Rules.take k2) x2).bind fun y4=>if y4=true then some (.inr (k2:Int)) else some (.inl ()) else some (.inr (k2:Int))
def z0D (a0:Grammar):Option Int:=(q2u (q9N a0) 0 a0.Symbols ()).bind <| onr (fun r1=>some r1) fun _=>(q2u (q9O a0) 0 a0.Rules ()).bind <| onr (fun r2=>some r2) fun _=>some (-1)
theorem j0h {a0}{r}(hr:z0D a0=some r){ca0}(ha0:rd F0 w0 a0 ca0):RT 153 #[ag ca0] w0 fun v w=>v = .int .i64 r∧I64 r:=by
 have H:=(HL.start F0 w0).argR ha0
 obtain⟨A1,n1,c1,A2,n2,c2,rfl,H⟩:=q2s H 0
 let d2:List Value:=[.slice A1 n1 c1,.slice A2 n2 c2]
 let d1:List Pr:=[.R a0 d2,.S a0.Symbols (.slice A1 n1 c1),.S a0.Rules (.slice A2 n2 c2)]
 refine (En Tryz.func153) ?_
 refine R ((BX H) fun b1 w1 H=>(A) (Z (Y (R ((D 0) ((L H 0) ((NI H 1) fun hl1=>(V) (Z ?_))))))))
 refine bb hr fun q1 hq1 hr=>?_
 refine (lF hq1 (fun k1 _ _=>[(1,pB b1),(8,.slice A1 n1 c1),(9,zN a0.Symbols.length),(10,zN k1)]) (fun _ _ w=>HL F0 [] w0 w d1 [.B b1 35 d2]) ()) ?_
 rintro k1 _ _ σ w2 hk1 hq1 H
 refine R ((BZ) (Y ?_))
 refine q0e rfl (fun h1=>?_) (fun h1=>?_)
 ·have hk2:=q2G h1
  obtain⟨x1,z1,hx1,hb1,hs1,ht1⟩:=q3o hq1 hk2
  refine K (Y ?_)
  refine Bk (R ((V) ?_))
  obtain⟨b2,ob2,cb2,A3,n3,c3,hvb2,hS1,H⟩:=q4g H 1 hx1
  refine (J 2 hvb2 hx1) ((LA H 3) ((AH ze89 H) fun b3 w3 H=>(A) ((SB H 1) fun w4 H=>Z (R ((LB H 1) ?_)))))
  refine bb hb1 fun y1 hy1 hb1=>?_
  refine (CA k3u (z7b hy1 ⟨_,rfl,hS1,(rs H 5)⟩)) (cE H fun w5 H=>(N) (jM hb1 (fun _ hb1=>?_) fun _ hb1=>?_))
  ·exact (O) ((O) ((O) ((O) ((O) ((O) ((T) (Z ((cT) (R ((V) ((AZ) (W2 hb1 ht1 hr))))))))))))
  refine (G) ((D 0) ((G) ((L H 0) ((G) ((V) ((G) ?_))))))
  refine gg hb1 fun hg1 hb1=>?_
  obtain⟨A4,n4,c4,e1,hc1,H⟩:=H.slH (i:=1) rfl hg1
  refine q0b rfl rfl (q0L rfl el32 sz89 rfl rfl rfl hc1 e1) ((G) ?_)
  refine q0b rfl rfl (q0q rfl rfl rfl) ((G) ?_)
  refine bb hb1 fun y2 hy2 hb1=>?_
  refine (CA ok87 (q6S hy2 (F0:=fun q=>q < _) (rs H 6) ⟨(rb H 1).lt,_,At.blk (rb H 1),⟨_,rfl,hS1,(rs H 5)⟩⟩)) (cE H fun w6 H=>(U) (Z (iB hb1 (fun _ hb1=>?_) fun _ hb1=>?_)))
  ·exact R ((V) ((AZ) (W2 hb1 ht1 hr)))
  exact K (X ((AN hk2 hl1) ((V) (Z (I2 hb1 hs1 ⟨k1+1,(),()⟩)))))
 obtain rfl:=q2M hq1 (q2t h1)
 have hr:=(q2S _ _ _).symm.trans hr
 refine CE (Y (R ((D 1) ((L H 0) ((NI H 2) fun hl2=>(V) (Z ?_))))))
 refine bb hr fun q2 hq2 hr=>?_
 refine (lF hq2 (fun k2 _ _=>[(1,pB b1),(29,.slice A2 n2 c2),(30,zN a0.Rules.length),(31,zN k2)]) (fun _ _ w=>HL F0 [] w0 w d1 [.B b1 35 d2]) ()) ?_
 rintro k2 _ _ σ w7 hk3 hq2 H
 refine R ((BZ) (Y ?_))
 refine q0e rfl (fun h4=>?_) (fun h4=>?_)
 ·have hk4:=q2G h4
  obtain⟨x2,z2,hx2,hb2,hs2,ht2⟩:=q3o hq2 hk4
  refine K (Y ?_)
  refine Bk (R ((V) ?_))
  obtain⟨b4,ob4,cb4,A5,n5,c5,A6,n6,c6,A7,n7,c7,hvb4,hS2,hS3,H⟩:=q6N H 2 hx2
  refine (J 6 hvb4 hx2) ((LA H 3) ((AH ze62 H) fun b5 w8 H=>(A) ((SB H 1) fun w9 H=>Z (R ((LB H 1) ?_)))))
  refine bb hb2 fun y3 hy3 hb2=>?_
  refine (CA k3w (z9i hy3 ⟨_,_,_,rfl,hS2,hS3,(rs H 5),(rs H 6),(rs H 7)⟩)) (cE H fun w10 H=>(N) (jM hb2 (fun _ hb2=>?_) fun _ hb2=>?_))
  ·exact (O) ((O) ((O) ((O) ((O) ((O) ((T) (Z ((cT) (R ((V) ((AZ) (W2 hb2 ht2 hr))))))))))))
  refine (G) ((D 1) ((G) ((L H 0) ((G) ((V) ((G) ?_))))))
  refine gg hb2 fun hg2 hb2=>?_
  obtain⟨A8,n8,c8,e2,hc2,H⟩:=H.slH (i:=2) rfl hg2
  refine q0b rfl rfl (q0L rfl el33 sz62 rfl rfl rfl hc2 e2) ((G) ?_)
  refine q0b rfl rfl (q0q rfl rfl rfl) ((G) ?_)
  refine bb hb2 fun y4 hy4 hb2=>?_
  refine (CA ok82 (q7n hy4 (F0:=fun q=>q < _) (rs H 8) ⟨(rb H 1).lt,_,At.blk (rb H 1),⟨_,_,_,rfl,hS2,hS3,(rs H 5),(rs H 6),(rs H 7)⟩⟩)) (cE H fun w11 H=>(U) (Z (iB hb2 (fun _ hb2=>?_) fun _ hb2=>?_)))
  ·exact R ((V) ((AZ) (W2 hb2 ht2 hr)))
  exact K (X ((AN hk4 hl2) ((V) (Z (I2 hb2 hs2 ⟨k2+1,(),()⟩)))))
 obtain rfl:=q2M hq2 (q2t h4)
 have hr:=(q2S _ _ _).symm.trans hr
 exact CE (R ((AZ) (W1 hr)))
def q8O (a0:Attribute):Option Bool:=some (decide (a0.Mode=1))
theorem z8b {a0}{r}(hr:q8O a0=some r){ca0}(ha0:rd F0 w0 a0 ca0):RB 154 #[ag ca0] w0 r:=by
 have H:=(HL.start F0 w0).argR ha0
 obtain⟨rfl,hS1,hI1,hI2,H⟩:=q4Z H 0
 refine (En Tryz.func154) ?_
 exact R ((BX H) fun b1 w1 H=>(A) (Z (R ((D 2) ((L H 0) ((B) ((AZ) (W1 hr))))))))
def q4z:Nat→Attribute→Unit→Option (Unit ⊕ Int):=fun k1 x1 _=>(q8O x1).bind fun y1=>if y1=true then some (.inr (k1:Int)) else some (.inl ())
def q3z (a0:(List Attribute)):Option Int:=(q2u q4z 0 a0 ()).bind <| onr (fun r1=>some r1) fun _=>some (-1)
theorem q6T {a0}{r}(hr:q3z a0=some r){z0}(ha0:rdS F0 w0 a0 z0):RT 127 #[z0,.func (.func 154) #[] #[]] w0 fun v w=>v = .int .i64 r∧I64 r:=by
 exact ixFu (gm:=fun x=>q8O x) (caps:=[]) Tryz.func127 hr ha0 k2X fun w1 hE x cs y hy hx=>z8b hy hx
def q3l (a0:(List Attribute)):Option Bool:=(q3z a0).bind fun y1=>some (decide (0≤y1))
theorem q6r {a0}{r}(hr:q3l a0=some r){z0}(ha0:rdS F0 w0 a0 z0):RB 89 #[z0,.func (.func 154) #[] #[]] w0 r:=by
 exact coF Tryz.func89 hr j8d fun hy=>q6T hy ha0
def q6U (a0:Rule)(a1:Int):Option ByteArray:=if a1=0 then some a0.Left else (q2Y a1 1 (a0.Right.length:Int)).bind fun y1=>if y1=true then grd (I64 (a1 - 1)) <| grd (0≤(a1 - 1)) <| (a0.Right[(a1 - 1).toNat]?).bind fun x1=>some x1 else some (⟨#[]⟩:ByteArray)
theorem q5I {a0}{a1}{r}(hr:q6U a0 a1=some r){ca0}(ha0:rd F0 w0 a0 ca0)(ha1:I64 a1):RT 92 #[ag ca0,.int .i64 a1] w0 fun v w=>v = .string r∧r.size≤9223372036854775807:=by
 have H:=(HL.start F0 w0).argR ha0
 obtain⟨A1,n1,c1,A2,n2,c2,A3,n3,c3,rfl,hS1,hS2,H⟩:=q3j H 0
 refine (En Tryz.func92) ?_
 refine R ((BX H) fun b1 w1 H=>(AZ) (Y ?_))
 refine Bk (R ((V) ((B) ((AZ) (iD hr (fun _ hr=>?_) fun _ hr=>?_)))))
 ·exact R ((D 1) ((L H 0) ((AZ) (W1 hr))))
 refine R ((V) ((D 2) ((L H 0) ((NI H 1) fun hl1=>?_))))
 refine bb hr fun y1 hy1 hr=>?_
 refine (CA ok93 (q3u hy1 (F0:=nF) ha1 dI hl1)) (cE H fun w2 H=>(AZ) (iB hr (fun _ hr=>?_) fun _ hr=>?_))
 ·refine R ((D 2) ((L H 0) ((V) ?_)))
  refine gg hr fun hg1 hr=>(BN (Bin.sub hg1)) ?_
  refine gg hr fun hg2 hr=>?_
  refine bb hr fun x1 hx1 hr=>?_
  obtain⟨b2,ob2,cb2,hvb2,hS3,H⟩:=q7l H 1 hx1
  exact q0b rfl rfl (q0l rfl el58 sz9 rfl hvb2 rfl hg2 (q4G hx1)) ((L0 H 4) ((AZ) (W1 hr)))
 exact K (R ((AZ) (W1 hr)))
def z2b (a1:ByteArray):Nat→Symbol→Unit→Option (Unit ⊕ (Symbol × Bool)):=fun k1 x1 _=>if x1.Name=a1 then some (.inr (x1,true)) else some (.inl ())
def q6k (a0:Grammar)(a1:ByteArray):Option (Symbol × Bool):=(q2u (z2b a1) 0 a0.Symbols ()).bind <| onr (fun r1=>some r1) fun _=>some ((⟨(⟨#[]⟩:ByteArray),[]⟩:Symbol),false)
theorem q8e {a0}{a1}{r}(hr:q6k a0 a1=some r){ca0}(ha0:rd F0 w0 a0 ca0)(ha1:a1.size≤9223372036854775807):RT 128 #[ag ca0,.string a1] w0 fun v w=>∃ A0 n0 c0,v = .tuple #[.agg #[.string r.1.Name,(.slice A0 n0 c0)],.bool r.2]∧r.1.Name.size≤9223372036854775807∧HL F0 [] w0 w [.S r.1.Attributes (.slice A0 n0 c0)] []:=by
 have H:=(HL.start F0 w0).argR ha0
 obtain⟨A1,n1,c1,A2,n2,c2,rfl,H⟩:=q2s H 0
 refine (En Tryz.func128) ?_
 refine R ((BX H) fun b1 w1 H=>(AH ze89 H) fun b2 w2 H=>(A) (Z (Y (R ((D 0) ((L H 0) ((NI H 1) fun hl1=>(V) (Z ?_))))))))
 refine bb hr fun q1 hq1 hr=>?_
 refine (lF hq1 (fun k1 _ _=>[(1,.string a1),(4,pB b2),(9,.slice A1 n1 c1),(10,zN a0.Symbols.length),(11,zN k1)]) (fun _ _ w=>HL F0 [] w0 w [.R a0 [.slice A1 n1 c1,.slice A2 n2 c2],.S a0.Symbols (.slice A1 n1 c1),.S a0.Rules (.slice A2 n2 c2)] [.B b1 35 [.slice A1 n1 c1,.slice A2 n2 c2],.B b2 89 [.string eB,.slice none 0 0]]) ()) ?_
 rintro k1 _ _ σ w3 hk1 hq1 H
 refine R ((BZ) (Y ?_))
 refine q0e rfl (fun h1=>?_) (fun h1=>?_)
 ·have hk2:=q2G h1
  obtain⟨x1,z1,hx1,hb1,hs1,ht1⟩:=q3o hq1 hk2
  refine K (Y ?_)
  refine Bk (R ?_)
  obtain⟨b3,ob3,cb3,A3,n3,c3,hvb3,hS1,H⟩:=q4g H 1 hx1
  refine (J 2 hvb3 hx1) ((LA H 3) ((AH ze89 H) fun b4 w4 H=>(SB H 2) fun w5 H=>Z (R ((D 0) ((L H 2) ((V) ((BZ) (iD hb1 (fun _ hb1=>?_) fun _ hb1=>?_))))))))
  ·refine R ((LB H 2) ((SB H 1) fun w6 H=>(AZ) (CR ?_)))
   obtain rfl:=sm hb1
   obtain rfl:=ht1 _ rfl
   obtain rfl:=sm hr
   exact⟨_,z5I rfl ag89 sz89 rfl rfl rfl rfl (ab H 1) rfl,H.ext0,_,_,_,rfl,hS1,H.outM (fr':=[.S x1.Attributes (.slice A3 n3 c3)]) [false,false,false] fun _ h=>⟨h.get (i:=5) rfl,trivial⟩⟩
  exact K (X ((AN hk2 hl1) ((V) (Z (I2 hb1 hs1 ⟨k1+1,(),()⟩)))))
 obtain rfl:=q2M hq1 (q2t h1)
 have hr:=(q2S _ _ _).symm.trans hr
 refine CE (R ?_)
 refine q0b rfl rfl (Ev.build rfl pl89 ze89 rfl rfl rfl rfl) ((SB H 1) fun w7 H=>(AZ) (CR ?_))
 have H:=H.nilS (α:=Attribute)
 obtain rfl:=sm hr
 exact⟨_,z5I rfl ag89 sz89 rfl rfl rfl rfl (ab H 1) rfl,H.ext0,_,_,_,rfl,dI,H.outM (fr':=[.S ([]:List Attribute) (.slice none 0 0)]) [false,false] fun _ h=>⟨h.get (i:=3) rfl,trivial⟩⟩
def z9j (a0:Grammar)(a1:Rule):Nat→Unit→Option (Unit ⊕ Bool):=fun k1 _=>(q6U a1 (k1:Int)).bind fun y1=>(q6k a0 y1).bind fun (y2,y3)=>if y3=true then some (.inl ()) else some (.inr true)
def z4I (a0:Grammar)(a1:Rule):Option Bool:=grd (I64 ((a1.Right.length+1:Nat):Int)) <| (z4P (z9j a0 a1) 0 ((a1.Right.length+1)) ()).bind <| onr (fun r1=>some r1) fun _=>some false
theorem j3E {a0}{a1}{r}(hr:z4I a0 a1=some r){ca0}(ha0:rd F0 w0 a0 ca0){ca1}(ha1:rd F0 w0 a1 ca1):RB 155 #[ag ca0,ag ca1] w0 r:=by
 have H:=((HL.start F0 w0).argR ha0).argR ha1
 obtain⟨A1,n1,c1,A2,n2,c2,rfl,H⟩:=q2s H 0
 obtain⟨A3,n3,c3,A4,n4,c4,A5,n5,c5,rfl,hS1,hS2,H⟩:=q3j H 1
 let d1:=q4o a1 A3 n3 c3 A4 n4 c4 A5 n5 c5
 refine (En Tryz.func155) ?_
 refine R ((BX H) fun b1 w1 H=>(BX H) fun b2 w2 H=>(A) (Z (Y (R ((D 2) ((L H 1) ((NI H 4) fun hl1=>?_)))))))
 refine gg hr fun hg1 hr=>?_
 refine (BN (q0I (a:=a1.Right.length) (b:=1) rfl hg1)) ((V) (Z ?_))
 refine bb hr fun q1 hq1 hr=>?_
 refine (lM hq1 (fun k1 _ _=>[(2,pB b1),(3,pB b2),(11,.int .i64 ((a1.Right.length+1:Nat):Int)),(12,zN k1)]) (fun _ _ w=>HL F0 [] w0 w [.R a0 [.slice A1 n1 c1,.slice A2 n2 c2],.R a1 d1,.S a0.Symbols (.slice A1 n1 c1),.S a0.Rules (.slice A2 n2 c2),.S a1.Right (.slice A3 n3 c3),.S a1.Equations (.slice A4 n4 c4),.S a1.Contributions (.slice A5 n5 c5)] [.B b1 35 [.slice A1 n1 c1,.slice A2 n2 c2],.B b2 62 d1]) ()) ?_
 rintro k1 _ _ σ w3 hk1 hq1 H
 refine R ((BZ) (Y ?_))
 refine q0e rfl (fun h1=>?_) (fun h1=>?_)
 ·have hk2:=q2G h1
  obtain⟨z1,hb1,hs1,ht1⟩:=j0J hq1 hk2
  refine K (Y ?_)
  refine Bk (R ((V) ((AZ) ?_)))
  refine bb hb1 fun y1 hy1 hb1=>?_
  obtain⟨_,_,_,hS3⟩:=(q5I hy1 ⟨_,_,_,rfl,hS1,hS2,(rs H 4),(rs H 5),(rs H 6)⟩ (z5f hk2 hg1)).get
  obtain⟨⟨y2,y3⟩,hy2,hb1⟩:=bd hb1
  obtain⟨F_G1,hFl_G1,hF_G1,hcl_G1⟩:=H.callL
  refine Y ?_
  refine q0E 10 (fun ρ=>[.fix (.agg #[.slice A1 n1 c1,.slice A2 n2 c2]),.fix (.agg #[.string a1.Name,.string a1.Left,.slice A3 n3 c3,.bool a1.Literal,.slice A4 n4 c4,.slice A5 n5 c5]),.fix (zN k1),.fix (.string y1),.free (fun S v w=>∃ A6:Option Addr,∃ n6:Nat,∃ c6:Nat,v = .tuple #[.agg #[.string y2.Name,.slice A6 n6 c6],.bool y3]∧y2.Name.size≤9223372036854775807∧NewV F_G1 w3 S w [.S y2.Attributes (.slice A6 n6 c6)] []),.dep 20 id,.dep 15 (z1P 0),.dep 15 (z1P 1),.free (VarB 89 2),.wr 6 21 (WrB 89)]) [[],[],[],[],[],[20],[15],[15],[],[6,21]] NoM (fun _ _=>True) [] [none,none,none,none,none,none,none,none,none,some 8] (noM _) hmix (by kernel_rfl) rfl ⟨trivial,trivial,trivial,trivial,fun _ _ _ _ _ ⟨A6,n6,c6,hv,h0,hh⟩ hc hS hT=>⟨A6,n6,c6,hv,h0,hh.chgT hc hS hT hFl_G1⟩,trivial,trivial,trivial,fun _ _ _ _ _ h hc hS _=>h.chgT hc hS,fun _ _ _ _ _ _ h hc hS _=>h.chgT hc hS,trivial⟩ trivial (fun _ _ _ _ _ _ _=>trivial) ?_
  refine q0g rfl rfl rfl rfl rfl (fun _ hq hK=>q0c rfl ag35 sz35 rfl (At.blk ((H.ext hq).rB (i:=0) rfl)) rfl) ?_
  refine q0g rfl rfl rfl rfl rfl (fun _ hq hK=>q0c rfl ag62 sz62 rfl (At.blk ((H.ext hq).rB (i:=1) rfl)) rfl) ?_
  refine q0g rfl rfl rfl rfl rfl (fun _ hq hK=>q0j rfl rfl) ?_
  refine q0F rfl rfl rfl rfl (fun _ hq hK=>OpX.call rfl rfl rfl rfl ok92 rfl (q5I hy1 ⟨_,_,_,rfl,hS1,hS2,(rs (H.ext hq) 4),(rs (H.ext hq) 5),(rs (H.ext hq) 6)⟩ (z5f hk2 hg1)) fun _ _ hE h=>⟨hE,h.1⟩) ?_
  refine LL2.free rfl rfl rfl rfl (fun wq hq hK=>?_) (fun v_G1_4 S_G1_4=>?_)
  ·have hF:=hF_G1.ext hq
   refine OpX.call rfl rfl rfl rfl j6o rfl (q8e hy2 ⟨_,_,rfl,(hF.get (i:=2) rfl),(hF.get (i:=3) rfl)⟩ hS3) ?_
   rintro _ w hE ⟨A6,n6,c6,rfl,h0,hh⟩
   exact⟨hE,A6,n6,c6,rfl,h0,NewV.of hFl_G1 hq hh⟩
  refine q0T rfl rfl rfl rfl rfl (.inl rfl) rfl ?_
  refine q0z rfl rfl rfl rfl rfl rfl rfl (fun wq hq hK=>?_) ?_
  ·have hK:∀ j' (_:(q2v _).contains j'=true),_:=hK 5 rfl
   obtain⟨A6,n6,c6,rfl,_,_⟩:=hK 4 rfl
   exact⟨_,_,rfl,rfl⟩
  refine q0z rfl rfl rfl rfl rfl rfl rfl (fun wq hq hK=>?_) ?_
  ·have hK:∀ j' (_:(q2v _).contains j'=true),_:=hK 5 rfl
   obtain⟨A6,n6,c6,rfl,_,_⟩:=hK 4 rfl
   exact⟨_,_,rfl,rfl⟩
  refine LL2.free rfl rfl rfl rfl (fun wq hq hK=>q0x rfl rfl ze89 rfl) (fun v_G1_8 S_G1_8=>?_)
  refine LL2.st (k:=2) rfl rfl rfl (by decide) rfl rfl rfl rfl sz89 rfl rfl (fun wq hq hK=>hK 8 rfl) (fun wq hq hK=>?_) ?_
  ·obtain⟨A6,n6,c6,rfl,_,_⟩:=hK 4 rfl
   exact⟨_,rfl,rfl,(all1 rfl (all1 rfl all0))⟩
  intro w4 hE _ hK hap hbd
  have hE:=z0q hE
  obtain⟨A6,n6,c6,rfl,hS4,hN1⟩:=hK 4 (by decide)
  obtain⟨b3,rfl,hN2⟩:=j0L (cells:=[.string y2.Name,.slice A6 n6 c6]) (hK 8 (by decide)) (hK 9 (by decide)) rfl
  have H:=hcl_G1 (q0X (hN1.app (hN2.V tv) fun q h1 h2=>absurd (hap 4 8 q h1 h2) (by decide)) hE fun q hq=>hq.elim (fun h=>(hbd 4 q h).1) fun h=>(hbd 8 q h).1)
  refine (A) (Z (R ((V) ((N) (Z (iM hb1 (fun _ hb1=>?_) fun _ hb1=>?_))))))
  ·exact R ((AZ) (W2 hb1 ht1 hr))
  exact K (X ((AN hk2 hg1) ((V) (Z (I2 hb1 hs1 ⟨k1+1,(),()⟩)))))
 obtain rfl:=z8v hq1 (q2t h1)
 have hr:=(q2S _ _ _).symm.trans hr
 exact CE (R ((AZ) (W1 hr)))
def z4b (k1:Nat)(s2:Int):Nat→Attribute→(List Occurrence)→Option (List Occurrence):=fun k2 x1 s3=>( if x1.Mode=s2 then grd (((s3.length:Int)+1)*24≤140737488355328∧(s3.length:Int)+1≤9223372036854775807) <| some (s3++[(⟨(k1:Int),x1.Name⟩:Occurrence)]) else some s3 ).bind fun s4=>some s4
def z4c (a0:Grammar)(a1:Rule):Nat→(List Occurrence)→Option (List Occurrence):=fun k1 s1=>( if (k1:Int)=0 then some 2 else some 1 ).bind fun s2=>(q6U a1 (k1:Int)).bind fun y1=>(q6k a0 y1).bind fun (y2,y3)=>(q2J (z4b k1 s2) 0 y2.Attributes s1).bind fun s3=>some s3
def q8r (a0:Grammar)(a1:Rule):Option (List Occurrence):=grd (I64 ((a1.Right.length+1:Nat):Int)) <| (z7J (z4c a0 a1) 0 ((a1.Right.length+1)) ([]:List Occurrence)).bind fun s1=>some s1
theorem z4d {a0}{a1}{r}(hr:q8r a0 a1=some r){ca0}(ha0:rd F0 w0 a0 ca0){ca1}(ha1:rd F0 w0 a1 ca1):RT 90 #[ag ca0,ag ca1] w0 fun v w=>∃ A0 n0 c0,v=(.slice A0 n0 c0)∧HL F0 [] w0 w [] [.O 133 r (.slice A0 n0 c0)]:=by
 have H:=((HL.start F0 w0).argR ha0).argR ha1
 obtain⟨A1,n1,c1,A2,n2,c2,rfl,H⟩:=q2s H 0
 let d4:List Value:=[.slice A1 n1 c1,.slice A2 n2 c2]
 obtain⟨A3,n3,c3,A4,n4,c4,A5,n5,c5,rfl,hS1,hS2,H⟩:=q3j H 1
 let d6:Pr:=.S a1.Contributions (.slice A5 n5 c5)
 let d3:=q4o a1 A3 n3 c3 A4 n4 c4 A5 n5 c5
 let d2:List Pr:=[.R a0 d4,.R a1 d3,.S a0.Symbols (.slice A1 n1 c1),.S a0.Rules (.slice A2 n2 c2),.S a1.Right (.slice A3 n3 c3),.S a1.Equations (.slice A4 n4 c4),d6]
 refine (En Tryz.func90) ?_
 refine R ((BX H) fun b1 w1 H=>(BX H) fun b2 w2 H=>(AZ) (R ?_))
 refine q0s (α:=Occurrence) rfl rfl rfl el95 q3n H fun A6 n6 c6 w3 H=>(A) (Z (Y (R ((D 2) ((L H 1) ((NI H 4) fun hl1=>?_))))))
 refine gg hr fun hg1 hr=>?_
 refine (BN (q0I (a:=a1.Right.length) (b:=1) rfl hg1)) ((V) (Z ?_))
 refine bb hr fun q1 hq1 hr=>?_
 refine (lN hq1 (fun k1 s1 v1=>[(2,pB b1),(3,pB b2),(5,v1),(16,.int .i64 ((a1.Right.length+1:Nat):Int)),(17,zN k1)]) (fun s1 v1 w=>HL F0 [] w0 w d2 [.B b1 35 d4,.B b2 62 d3,.O 133 s1 v1]) (.slice A6 n6 c6)) ?_
 rintro k1 s1 v1 σ w4 hk1 hq1 H
 obtain⟨A7,n7,c7,rfl⟩:=(fo H 2)
 refine R ((BZ) (Y ?_))
 refine q0e rfl (fun h1=>?_) (fun h1=>?_)
 ·have hk2:=q2G h1
  obtain⟨z1,hb1,hq1⟩:=j7O hq1 hk2
  refine K (Y ?_)
  refine Bk (R ((V) ((A) (Z (R ((A) (Z (Y (R ((V) ((BZ) ?_)))))))))))
  refine bb hb1 fun q2 hm1 hb1=>?_
  refine q0u (fun ρ' w=>∃ (s2:Int),s2=q2∧q4R ρ' [(2,pB b1),(3,pB b2),(5,.slice A7 n7 c7),(6,zN k1),(7,.int .i64 s2),(16,.int .i64 ((a1.Right.length+1:Nat):Int)),(17,zN k1)]∧I64 s2∧HL F0 [] w0 w d2 [.B b1 35 d4,.B b2 62 d3,.O 133 s1 (.slice A7 n7 c7)]) ?_ ?_
  ·refine iD hm1 (fun _ hm1=>?_) fun _ hm1=>?_
   ·exact X ((AZ) (C1 hm1))
   exact K (C1 hm1)
  rintro ρ' w5 ⟨s2,rfl,hag,hI1,H⟩
  obtain⟨σ,rfl⟩:=q4H hag
  refine bb hb1 fun y1 hy1 hb1=>?_
  obtain⟨_,_,_,hS3⟩:=(q5I hy1 ⟨_,_,_,rfl,hS1,hS2,(rs H 4),(rs H 5),(rs H 6)⟩ (z5f hk2 hg1)).get
  obtain⟨⟨y2,y3⟩,hy2,hb1⟩:=bd hb1
  obtain⟨F_G1,hFl_G1,hF_G1,hcl_G1⟩:=H.callL
  refine Y ?_
  refine q0E 10 (fun ρ=>[.fix (.agg #[.slice A1 n1 c1,.slice A2 n2 c2]),.fix (.agg #[.string a1.Name,.string a1.Left,.slice A3 n3 c3,.bool a1.Literal,.slice A4 n4 c4,.slice A5 n5 c5]),.fix (zN k1),.fix (.string y1),.free (fun S v w=>∃ A8:Option Addr,∃ n8:Nat,∃ c8:Nat,v = .tuple #[.agg #[.string y2.Name,.slice A8 n8 c8],.bool y3]∧y2.Name.size≤9223372036854775807∧NewV F_G1 w5 S w [.S y2.Attributes (.slice A8 n8 c8)] []),.dep 27 id,.dep 22 (z1P 0),.dep 22 (z1P 1),.free (VarB 89 2),.wr 8 28 (WrB 89)]) [[],[],[],[],[],[27],[22],[22],[],[8,28]] NoM (fun _ _=>True) [] [none,none,none,none,none,none,none,none,none,some 8] (noM _) hmix (by kernel_rfl) rfl ⟨trivial,trivial,trivial,trivial,fun _ _ _ _ _ ⟨A8,n8,c8,hv,h0,hh⟩ hc hS hT=>⟨A8,n8,c8,hv,h0,hh.chgT hc hS hT hFl_G1⟩,trivial,trivial,trivial,fun _ _ _ _ _ h hc hS _=>h.chgT hc hS,fun _ _ _ _ _ _ h hc hS _=>h.chgT hc hS,trivial⟩ trivial (fun _ _ _ _ _ _ _=>trivial) ?_
  refine q0g rfl rfl rfl rfl rfl (fun _ hq hK=>q0c rfl ag35 sz35 rfl (At.blk ((H.ext hq).rB (i:=0) rfl)) rfl) ?_
  refine q0g rfl rfl rfl rfl rfl (fun _ hq hK=>q0c rfl ag62 sz62 rfl (At.blk ((H.ext hq).rB (i:=1) rfl)) rfl) ?_
  refine q0g rfl rfl rfl rfl rfl (fun _ hq hK=>q0j rfl rfl) ?_
  refine q0F rfl rfl rfl rfl (fun _ hq hK=>OpX.call rfl rfl rfl rfl ok92 rfl (q5I hy1 ⟨_,_,_,rfl,hS1,hS2,(rs (H.ext hq) 4),(rs (H.ext hq) 5),(rs (H.ext hq) 6)⟩ (z5f hk2 hg1)) fun _ _ hE h=>⟨hE,h.1⟩) ?_
  refine LL2.free rfl rfl rfl rfl (fun wq hq hK=>?_) (fun v_G1_4 S_G1_4=>?_)
  ·have hF:=hF_G1.ext hq
   refine OpX.call rfl rfl rfl rfl j6o rfl (q8e hy2 ⟨_,_,rfl,(hF.get (i:=2) rfl),(hF.get (i:=3) rfl)⟩ hS3) ?_
   rintro _ w hE ⟨A8,n8,c8,rfl,h0,hh⟩
   exact⟨hE,A8,n8,c8,rfl,h0,NewV.of hFl_G1 hq hh⟩
  refine q0T rfl rfl rfl rfl rfl (.inl rfl) rfl ?_
  refine q0z rfl rfl rfl rfl rfl rfl rfl (fun wq hq hK=>?_) ?_
  ·have hK:∀ j' (_:(q2v _).contains j'=true),_:=hK 5 rfl
   obtain⟨A8,n8,c8,rfl,_,_⟩:=hK 4 rfl
   exact⟨_,_,rfl,rfl⟩
  refine q0z rfl rfl rfl rfl rfl rfl rfl (fun wq hq hK=>?_) ?_
  ·have hK:∀ j' (_:(q2v _).contains j'=true),_:=hK 5 rfl
   obtain⟨A8,n8,c8,rfl,_,_⟩:=hK 4 rfl
   exact⟨_,_,rfl,rfl⟩
  refine LL2.free rfl rfl rfl rfl (fun wq hq hK=>q0x rfl rfl ze89 rfl) (fun v_G1_8 S_G1_8=>?_)
  refine LL2.st (k:=2) rfl rfl rfl (by decide) rfl rfl rfl rfl sz89 rfl rfl (fun wq hq hK=>hK 8 rfl) (fun wq hq hK=>?_) ?_
  ·obtain⟨A8,n8,c8,rfl,_,_⟩:=hK 4 rfl
   exact⟨_,rfl,rfl,(all1 rfl (all1 rfl all0))⟩
  intro w6 hE _ hK hap hbd
  have hE:=z0q hE
  obtain⟨A8,n8,c8,rfl,hS4,hN1⟩:=hK 4 (by decide)
  let d5:List Value:=[.string y2.Name,.slice A8 n8 c8]
  let d1:List Pr:=[.R a0 d4,.R a1 d3,.S a0.Symbols (.slice A1 n1 c1),.S a0.Rules (.slice A2 n2 c2),.S a1.Right (.slice A3 n3 c3),.S a1.Equations (.slice A4 n4 c4),d6,.S y2.Attributes (.slice A8 n8 c8)]
  obtain⟨b3,rfl,hN2⟩:=j0L (cells:=d5) (hK 8 (by decide)) (hK 9 (by decide)) rfl
  have H:=hcl_G1 (q0X (hN1.app (hN2.V tv) fun q h1 h2=>absurd (hap 4 8 q h1 h2) (by decide)) hE fun q hq=>hq.elim (fun h=>(hbd 4 q h).1) fun h=>(hbd 8 q h).1)
  refine (A) (Z (R ((D 1) ((L H 3) ((NI H 7) fun hl2=>(V) (Z ?_))))))
  refine bb hb1 fun q3 hq2 hb1=>?_
  refine (lE hq2 (fun k2 s3 v2=>[(2,pB b1),(3,pB b2),(5,v2),(6,zN k1),(7,.int .i64 s2),(16,.int .i64 ((a1.Right.length+1:Nat):Int)),(17,zN k1),(31,.slice A8 n8 c8),(32,zN y2.Attributes.length),(33,zN k2)]) (fun s3 v2 w=>HL F0 [] w0 w d1 [.B b1 35 d4,.B b2 62 d3,.O 133 s3 v2,.B b3 89 d5]) (.slice A7 n7 c7)) ?_
  rintro k2 s3 v2 σ w7 hk3 hq2 H
  obtain⟨A9,n9,c9,rfl⟩:=(fo H 2)
  refine R ((BZ) (Y ?_))
  refine q0e rfl (fun h3=>?_) (fun h3=>?_)
  ·have hk4:=q2G h3
   obtain⟨x1,z2,hx1,hb2,hq2⟩:=q8k hq2 hk4
   refine K ?_
   refine bb hb2 fun q4 hm2 hb2=>Y ?_
   refine q0u (fun ρ' w=>∃ (s4:List Occurrence) (v3:Value),s4=q4∧q4R ρ' [(2,pB b1),(3,pB b2),(5,v3),(6,zN k1),(7,.int .i64 s2),(16,.int .i64 ((a1.Right.length+1:Nat):Int)),(17,zN k1),(31,.slice A8 n8 c8),(32,zN y2.Attributes.length),(33,zN k2)]∧HL F0 [] w0 w d1 [.B b1 35 d4,.B b2 62 d3,.O 133 s4 v3,.B b3 89 d5]) ?_ ?_
   ·refine Bk (R ?_)
    obtain⟨b4,ob4,cb4,hvb4,hS5,hI2,hI3,H⟩:=q4w H 7 hx1
    refine (J 4 hvb4 hx1) ((LA H 8) ((AH ze91 H) fun b5 w8 H=>(SB H 4) fun w9 H=>Z (R ((D 2) ((L H 4) ((V) ((BZ) (iD hm2 (fun _ hm2=>?_) fun _ hm2=>?_))))))))
    ·refine X ((V) ((V) ((D 0) ((L H 4) ?_))))
     refine q0b rfl rfl (Ev.build rfl z7M q5v rfl rfl rfl rfl) ?_
     refine q0p rfl rfl rfl el95 q3n q5v rfl rfl rfl rfl rfl rfl fun b6 w10 hE hb hB=>?_
     have H:=H.newB hE hb hB
     refine gg hm2 fun hg2 hm2=>?_
     exact q0t (i:=2) (ys:=[(⟨(k1:Int),x1.Name⟩:Occurrence)]) rfl rfl rfl el95 q3n z3v q5v rfl rfl rfl H rfl (fun _=>ownL.single ⟨rfl,(z5f hk2 hg1),hS5,rfl⟩) (.inr ⟨_,_,rfl,At.blk (rb H 5)⟩) hg2 fun A10 n10 c10 w11 H=>(AZ) (C1 hm2)
    exact K (C1 hm2)
   rintro ρ' w12 ⟨s4,v3,rfl,hag,H⟩
   obtain⟨σ,rfl⟩:=q4H hag
   obtain⟨A11,n11,c11,rfl⟩:=(fo H 2)
   exact X ((AN hk4 hl2) ((V) (Z (I1 hb2 ⟨k2+1,s4,(.slice A11 n11 c11)⟩))))
  obtain rfl:=q6Z hq2 (q2t h3)
  exact CE (X ((AN hk2 hg1) ((V) (Z (I1 hb1 ⟨k1+1,s3,(.slice A9 n9 c9)⟩)))))
 obtain rfl:=j5R hq1 (q2t h1)
 exact CE (R ((V) ((AZ) (W1 hr))))
def q9P (a0:Equation)(a1:Occurrence):Option Bool:=some (decide (a0.At=a1))
theorem z9k {a0}{a1}{r}(hr:q9P a0 a1=some r){ca0}(ha0:rd F0 w0 a0 ca0){b1p:Nat}(ha1:CapP F0 w0 b1p a1):RB 191 #[ag ca0,pB b1p] w0 r:=by
 have H:=(HL.start F0 w0).argR ha0
 obtain⟨A1,n1,c1,rfl,hI1,hS1,hI2,hI3,hI4,hI5,hS2,hS3,H⟩:=q8p H 0
 obtain⟨cpa1,H⟩:=H.argP ha1
 obtain⟨rfl,hI6,hS4,H⟩:=q2z H 3
 refine (En Tryz.func191) ?_
 refine R ((BX H) fun b1 w1 H=>(A) (Z (R ((D 0) ?_))))
 exact q0b rfl rfl (q0c rfl z0l q3n rfl (Blk.part (rb H 0) 0 2) rfl) ((LA H 2) ((BN (q0D j0R (q4T a0.At a1))) ((AZ) (W1 hr))))
def q4I (a1_0:Occurrence):Nat→Equation→Unit→Option (Unit ⊕ Int):=fun k1 x1 _=>(q9P x1 a1_0).bind fun y1=>if y1=true then some (.inr (k1:Int)) else some (.inl ())
def q3J (a0:(List Equation))(a1_0:Occurrence):Option Int:=(q2u (q4I a1_0) 0 a0 ()).bind <| onr (fun r1=>some r1) fun _=>some (-1)
theorem q7o {a0}{a1_0}{r}(hr:q3J a0 a1_0=some r){z0}(ha0:rdS F0 w0 a0 z0){b1_0p:Nat}(ha1_0:CapP F0 w0 b1_0p a1_0):RT 215 #[z0,.func (.func 191) #[] #[pB b1_0p]] w0 fun v w=>v = .int .i64 r∧I64 r:=by
 exact ixFu (gm:=fun x=>q9P x a1_0) (caps:=[pB b1_0p]) Tryz.func215 hr ha0 k3z fun w1 hE x cs y hy hx=>z9k hy hx (CapP.lt ha1_0 hE)
def q3v (a0:(List Equation))(a1_0:Occurrence):Option Bool:=(q3J a0 a1_0).bind fun y1=>some (decide (0≤y1))
theorem q6G {a0}{a1_0}{r}(hr:q3v a0 a1_0=some r){z0}(ha0:rdS F0 w0 a0 z0){b1_0p:Nat}(ha1_0:CapP F0 w0 b1_0p a1_0):RB 190 #[z0,.func (.func 191) #[] #[pB b1_0p]] w0 r:=by
 exact coF Tryz.func190 hr k1w fun hy=>q7o hy ha0 ha1_0
def z1J (a0:Occurrence)(a1:Rule):Option Bool:=(q3v a1.Equations a0).bind fun y1=>some (!y1)
theorem j1q {a0}{a1}{r}(hr:z1J a0 a1=some r){ca0}(ha0:rd F0 w0 a0 ca0){b1p:Nat}(ha1:CapP F0 w0 b1p a1):RB 189 #[ag ca0,pB b1p] w0 r:=by
 have H:=(HL.start F0 w0).argR ha0
 obtain⟨rfl,hI1,hS1,H⟩:=q2z H 0
 obtain⟨cpa1,H⟩:=H.argP ha1
 obtain⟨A1,n1,c1,A2,n2,c2,A3,n3,c3,rfl,hS2,hS3,H⟩:=q3j H 2
 refine (En Tryz.func189) ?_
 refine R ((BX H) fun b1 w1 H=>(A) (Z (R ((D 4) ((LC H 1) ?_)))))
 refine q0b rfl rfl (q0q rfl rfl rfl) ?_
 refine bb hr fun y1 hy1 hr=>?_
 exact (CA k1v (q6G hy1 (F0:=fun q=>q < _) (rs H 4) ⟨(rb H 0).lt,_,At.blk (rb H 0),⟨rfl,hI1,hS1⟩⟩)) (cE H fun w2 H=>(N) ((AZ) (W1 hr)))
def q4J (a1_0:Rule):Nat→Occurrence→Unit→Option (Unit ⊕ Int):=fun k1 x1 _=>(z1J x1 a1_0).bind fun y1=>if y1=true then some (.inr (k1:Int)) else some (.inl ())
def q3K (a0:(List Occurrence))(a1_0:Rule):Option Int:=(q2u (q4J a1_0) 0 a0 ()).bind <| onr (fun r1=>some r1) fun _=>some (-1)
theorem q7p {a0}{a1_0}{r}(hr:q3K a0 a1_0=some r){z0}(ha0:rdS F0 w0 a0 z0){b1_0p:Nat}(ha1_0:CapP F0 w0 b1_0p a1_0):RT 135 #[z0,.func (.func 189) #[] #[pB b1_0p]] w0 fun v w=>v = .int .i64 r∧I64 r:=by
 exact ixFu (gm:=fun x=>z1J x a1_0) (caps:=[pB b1_0p]) Tryz.func135 hr ha0 k3y fun w1 hE x cs y hy hx=>j1q hy hx (CapP.lt ha1_0 hE)
def q3w (a0:(List Occurrence))(a1_0:Rule):Option Bool:=(q3K a0 a1_0).bind fun y1=>some (decide (0≤y1))
theorem q6H {a0}{a1_0}{r}(hr:q3w a0 a1_0=some r){z0}(ha0:rdS F0 w0 a0 z0){b1_0p:Nat}(ha1_0:CapP F0 w0 b1_0p a1_0):RB 98 #[z0,.func (.func 189) #[] #[pB b1_0p]] w0 r:=by
 exact coF Tryz.func98 hr j8e fun hy=>q7p hy ha0 ha1_0
def z4J (a0:Grammar)(a1:Rule):Option Bool:=(q8r a0 a1).bind fun y1=>(q3w y1 a1).bind fun y2=>some y2
theorem j3F {a0}{a1}{r}(hr:z4J a0 a1=some r){ca0}(ha0:rd F0 w0 a0 ca0){ca1}(ha1:rd F0 w0 a1 ca1):RB 156 #[ag ca0,ag ca1] w0 r:=by
 have H:=((HL.start F0 w0).argR ha0).argR ha1
 obtain⟨A1,n1,c1,A2,n2,c2,rfl,H⟩:=q2s H 0
 obtain⟨A3,n3,c3,A4,n4,c4,A5,n5,c5,rfl,hS1,hS2,H⟩:=q3j H 1
 refine (En Tryz.func156) ?_
 refine R ((BX H) fun b1 w1 H=>(BX H) fun b2 w2 H=>(A) (Z (R ((LB H 0) ((LB H 1) ?_)))))
 refine bb hr fun y1 hy1 hr=>?_
 refine (CA ok90 (z4d hy1 ⟨_,_,rfl,(rs H 2),(rs H 3)⟩ ⟨_,_,_,rfl,hS1,hS2,(rs H 4),(rs H 5),(rs H 6)⟩)) ?_
 rintro _ w3 hE ⟨A6,n6,c6,rfl,H'⟩
 have H:=H.callA H' tv
 refine q0b rfl rfl (q0q rfl rfl rfl) ?_
 refine bb hr fun y2 hy2 hr=>?_
 exact (CA ok98 (q6H hy2 (F0:=fun q=>q < _) (ro H 2) ⟨(rb H 1).lt,_,At.blk (rb H 1),⟨_,_,_,rfl,hS1,hS2,(rs H 4),(rs H 5),(rs H 6)⟩⟩)) (cE H fun w4 H=>(AZ) (W1 hr))
def q4E (a1:Occurrence):Nat→Occurrence→Unit→Option (Unit ⊕ Int):=fun k1 x1 _=>if a1=x1 then some (.inr (k1:Int)) else some (.inl ())
def q4U (a0:(List Occurrence))(a1:Occurrence):Option Int:=(q2u (q4E a1) 0 a0 ()).bind <| onr (fun r1=>some r1) fun _=>some (-1)
theorem z1s {a0}{a1}{r}(hr:q4U a0 a1=some r){z0}(ha0:rdS F0 w0 a0 z0){ca1}(ha1:rd F0 w0 a1 ca1):RT 136 #[z0,ag ca1] w0 fun v w=>v = .int .i64 r∧I64 r:=by
 obtain⟨A0',n0',c0',rfl⟩:=ha0.form3
 have H:=((HL.start F0 w0).argS ha0).argR ha1
 obtain⟨rfl,hI1,hS1,H⟩:=q2z H 1
 refine (En Tryz.func136) ?_
 refine R ((BX H) fun b1 w1 H=>(A) (Z (Y (R ((V) ((NI H 0) fun hl1=>(V) (Z ?_)))))))
 refine bb hr fun q1 hq1 hr=>?_
 refine (lF hq1 (fun k1 _ _=>[(0,.slice A0' n0' c0'),(3,pB b1),(7,zN a0.length),(8,zN k1)]) (fun _ _ w=>HL F0 [] w0 w [.S a0 (.slice A0' n0' c0'),.R a1 [.int .i64 a1.Pos,.string a1.Name]] [.B b1 133 [.int .i64 a1.Pos,.string a1.Name]]) ()) ?_
 rintro k1 _ _ σ w2 hk1 hq1 H
 refine R ((BZ) (Y ?_))
 refine q0e rfl (fun h1=>?_) (fun h1=>?_)
 ·have hk2:=q2G h1
  obtain⟨x1,z1,hx1,hb1,hs1,ht1⟩:=q3o hq1 hk2
  refine K (Y ?_)
  refine Bk (R ((V) ((AZ) (Y ?_))))
  refine q0d hmix (by kernel_rfl) ?_
  refine (qLB H 0) ((qV) ((qV) ?_))
  obtain⟨b2,ob2,cb2,hvb2,hI2,hS2,H⟩:=q5E H 0 hx1
  refine (qJ 2 hvb2 hx1) ((qLA H 2) ((qBN (q0D j0R (q4T a1 x1))) ?_))
  refine QL.nil (fun w3 hE=>?_)
  have H:=H.ext hE
  refine iD hb1 (fun _ hb1=>?_) fun _ hb1=>?_
  ·exact R ((V) ((AZ) (W2 hb1 ht1 hr)))
  exact K (X ((AN hk2 hl1) ((V) (Z (I2 hb1 hs1 ⟨k1+1,(),()⟩)))))
 obtain rfl:=q2M hq1 (q2t h1)
 have hr:=(q2S _ _ _).symm.trans hr
 exact CE (R ((AZ) (W1 hr)))
def q2w (a0:(List Occurrence))(a1:Occurrence):Option Bool:=(q4U a0 a1).bind fun y1=>some (decide (0≤y1))
theorem q2W {a0}{a1}{r}(hr:q2w a0 a1=some r){z0}(ha0:rdS F0 w0 a0 z0){ca1}(ha1:rd F0 w0 a1 ca1):RB 100 #[z0,ag ca1] w0 r:=by
 obtain⟨A0',n0',c0',rfl⟩:=ha0.form3
 have H:=((HL.start F0 w0).argS ha0).argR ha1
 obtain⟨rfl,hI1,hS1,H⟩:=q2z H 1
 refine (En Tryz.func100) ?_
 refine R ((BX H) fun b1 w1 H=>(A) (Z (R ((V) ((LB H 0) ?_)))))
 refine bb hr fun y1 hy1 hr=>?_
 exact (CA k2M (z1s hy1 (rs H 0) ⟨rfl,hI1,hS1⟩)) (cF' H fun w2 hI2 H=>(B) ((AZ) (W1 hr)))
def z4K (a0 a1:Equation):Option Bool:=some (decide (a0.At=a1.At))
theorem j3G {a0 a1}{r}(hr:z4K a0 a1=some r){ca0}(ha0:rd F0 w0 a0 ca0){b1p:Nat}(ha1:CapP F0 w0 b1p a1):RB 192 #[ag ca0,pB b1p] w0 r:=by
 have H:=(HL.start F0 w0).argR ha0
 obtain⟨A1,n1,c1,rfl,hI1,hS1,hI2,hI3,hI4,hI5,hS2,hS3,H⟩:=q8p H 0
 obtain⟨cpa1,H⟩:=H.argP ha1
 obtain⟨A2,n2,c2,rfl,hI6,hS4,hI7,hI8,hI9,hI10,hS5,hS6,H⟩:=q8p H 3
 refine (En Tryz.func192) ?_
 refine R ((BX H) fun b1 w1 H=>(A) (Z (R ((D 0) ?_))))
 refine q0b rfl rfl (q0c rfl z0l q3n rfl (Blk.part (rb H 0) 0 2) rfl) ((D 0) ?_)
 exact q0b rfl rfl (q0c rfl z0l q3n rfl ((ra H 2).part 0 2) rfl) ((BN (q0D j0R (q4T a0.At a1.At))) ((AZ) (W1 hr)))
def q5x (a1_0:Equation):Nat→Equation→Unit→Option (Unit ⊕ Int):=fun k1 x1 _=>(z4K x1 a1_0).bind fun y1=>if y1=true then some (.inr (k1:Int)) else some (.inl ())
def q4i (a0:(List Equation))(a1_0:Equation):Option Int:=(q2u (q5x a1_0) 0 a0 ()).bind <| onr (fun r1=>some r1) fun _=>some (-1)
theorem q7X {a0}{a1_0}{r}(hr:q4i a0 a1_0=some r){z0}(ha0:rdS F0 w0 a0 z0){b1_0p:Nat}(ha1_0:CapP F0 w0 b1_0p a1_0):RT 215 #[z0,.func (.func 192) #[] #[pB b1_0p]] w0 fun v w=>v = .int .i64 r∧I64 r:=by
 exact ixFu (gm:=fun x=>z4K x a1_0) (caps:=[pB b1_0p]) Tryz.func215 hr ha0 k3A fun w1 hE x cs y hy hx=>j3G hy hx (CapP.lt ha1_0 hE)
def q3T (a0:(List Equation))(a1_0:Equation):Option Bool:=(q4i a0 a1_0).bind fun y1=>some (decide (0≤y1))
theorem q7B {a0}{a1_0}{r}(hr:q3T a0 a1_0=some r){z0}(ha0:rdS F0 w0 a0 z0){b1_0p:Nat}(ha1_0:CapP F0 w0 b1_0p a1_0):RB 190 #[z0,.func (.func 192) #[] #[pB b1_0p]] w0 r:=by
 exact coF Tryz.func190 hr k1w fun hy=>q7X hy ha0 ha1_0
def z6q (a1:Rule)(y1:(List Occurrence)):Nat→Equation→Unit→Option (Unit ⊕ Bool):=fun k1 x1 _=>(q2w y1 x1.At).bind fun y2=>if y2=true then grd (k1≤a1.Equations.length) <| (q3T (a1.Equations.take k1) x1).bind fun y3=>if y3=true then some (.inr true) else some (.inl ()) else some (.inr true)
def z8r (a0:Grammar)(a1:Rule):Option Bool:=(q8r a0 a1).bind fun y1=>(q2u (z6q a1 y1) 0 a1.Equations ()).bind <| onr (fun r1=>some r1) fun _=>some false
theorem j6u {a0}{a1}{r}(hr:z8r a0 a1=some r){ca0}(ha0:rd F0 w0 a0 ca0){ca1}(ha1:rd F0 w0 a1 ca1):RB 157 #[ag ca0,ag ca1] w0 r:=by
 have H:=((HL.start F0 w0).argR ha0).argR ha1
 obtain⟨A1,n1,c1,A2,n2,c2,rfl,H⟩:=q2s H 0
 obtain⟨A3,n3,c3,A4,n4,c4,A5,n5,c5,rfl,hS1,hS2,H⟩:=q3j H 1
 let d1:=q4o a1 A3 n3 c3 A4 n4 c4 A5 n5 c5
 refine (En Tryz.func157) ?_
 refine R ((BX H) fun b1 w1 H=>(BX H) fun b2 w2 H=>(A) (Z (R ((LB H 0) ((LB H 1) ?_)))))
 refine bb hr fun y1 hy1 hr=>?_
 refine (CA ok90 (z4d hy1 ⟨_,_,rfl,(rs H 2),(rs H 3)⟩ ⟨_,_,_,rfl,hS1,hS2,(rs H 4),(rs H 5),(rs H 6)⟩)) ?_
 rintro _ w3 hE ⟨A6,n6,c6,rfl,H'⟩
 have H:=H.callA H' tv
 refine (A) (Z (Y (R ((D 4) ((L H 1) ((NI H 5) fun hl1=>(V) (Z ?_)))))))
 refine bb hr fun q1 hq1 hr=>?_
 refine (lF hq1 (fun k1 _ _=>[(3,pB b2),(5,.slice A6 n6 c6),(12,.slice A4 n4 c4),(13,zN a1.Equations.length),(14,zN k1)]) (fun _ _ w=>HL F0 [] w0 w [.R a0 [.slice A1 n1 c1,.slice A2 n2 c2],.R a1 d1,.S a0.Symbols (.slice A1 n1 c1),.S a0.Rules (.slice A2 n2 c2),.S a1.Right (.slice A3 n3 c3),.S a1.Equations (.slice A4 n4 c4),.S a1.Contributions (.slice A5 n5 c5)] [.B b1 35 [.slice A1 n1 c1,.slice A2 n2 c2],.B b2 62 d1,.O 133 y1 (.slice A6 n6 c6)]) ()) ?_
 rintro k1 _ _ σ w4 hk1 hq1 H
 refine R ((BZ) (Y ?_))
 refine q0e rfl (fun h1=>?_) (fun h1=>?_)
 ·have hk2:=q2G h1
  obtain⟨x1,z1,hx1,hb1,hs1,ht1⟩:=q3o hq1 hk2
  refine K (Y ?_)
  refine Bk (R ((V) ?_))
  obtain⟨b3,ob3,cb3,A7,n7,c7,hvb3,hI1,hS3,hI2,hI3,hI4,hI5,hS4,hS5,H⟩:=q3P H 5 hx1
  refine (J 9 hvb3 hx1) ((LA H 7) ((AH z9P H) fun b4 w5 H=>(A) ((SB H 3) fun w6 H=>Z (R ((V) ((D 0) ?_))))))
  refine q0b rfl rfl (q0c rfl z0l q3n rfl (Blk.part (rb H 3) 0 2) rfl) ?_
  refine bb hb1 fun y2 hy2 hb1=>?_
  refine (CA j4X (q2W hy2 (ro H 2) ⟨rfl,hI1,hS3⟩)) (cE H fun w7 H=>(N) (jM hb1 (fun _ hb1=>?_) fun _ hb1=>?_))
  ·exact (O) ((O) ((O) ((O) ((O) ((O) ((T) (Z ((cT) (R ((AZ) (W2 hb1 ht1 hr)))))))))))
  refine (G) ((D 4) ((G) ((L H 1) ((G) ((V) ((G) ?_))))))
  refine gg hb1 fun hg1 hb1=>?_
  obtain⟨A8,n8,c8,e1,hc1,H⟩:=H.slH (i:=5) rfl hg1
  refine q0b rfl rfl (q0L rfl el59 j8b rfl rfl rfl hc1 e1) ((G) ?_)
  refine q0b rfl rfl (q0q rfl rfl rfl) ((G) ?_)
  refine bb hb1 fun y3 hy3 hb1=>?_
  refine (CA k1v (q7B hy3 (F0:=fun q=>q < _) (rs H 10) ⟨(rb H 3).lt,_,At.blk (rb H 3),⟨_,rfl,hI1,hS3,hI2,hI3,hI4,hI5,hS4,hS5,(rs H 9)⟩⟩)) (cE H fun w8 H=>(U) (Z (iB hb1 (fun _ hb1=>?_) fun _ hb1=>?_)))
  ·exact R ((AZ) (W2 hb1 ht1 hr))
  exact K (X ((AN hk2 hl1) ((V) (Z (I2 hb1 hs1 ⟨k1+1,(),()⟩)))))
 obtain rfl:=q2M hq1 (q2t h1)
 have hr:=(q2S _ _ _).symm.trans hr
 exact CE (R ((AZ) (W1 hr)))
def q7G:Nat→Equation→(List Expr)→Option (List Expr):=fun k1 x1 s1=>grd (((s1.length:Int)+1)*88≤140737488355328∧(s1.length:Int)+1≤9223372036854775807) <| some (s1++[x1.Expr])
def q7H:Nat→Contribution→(List Expr)→Option (List Expr):=fun k2 x2 s2=>grd (((s2.length:Int)+([x2.Target,x2.Value].length:Int))*88≤140737488355328∧(s2.length:Int)+([x2.Target,x2.Value].length:Int)≤9223372036854775807) <| some (s2++[x2.Target,x2.Value])
def q8f (a0:Rule):Option (List Expr):=(q2J q7G 0 a0.Equations ([]:List Expr)).bind fun s1=>(q2J q7H 0 a0.Contributions s1).bind fun s2=>some s2
end Go.Proofs.YteefempppabmkacGreat

