/- What some functions of the program compute, as partial functions on plain data, and that they do; each lemma bears its conditions in its statement. -/
import Derived.Test.YteefempppabmkacGreatLiftC
set_option linter.unusedVariables false
set_option linter.unusedSimpArgs false
set_option linter.ambiguousOpen false
set_option linter.unusedSectionVars false
set_option linter.unnecessarySimpa false
set_option linter.unusedVariables false
set_option linter.unusedSimpArgs false
set_option maxRecDepth 100000
set_option maxHeartbeats 4000000
noncomputable section
namespace Go.Proofs.YteefempppabmkacGreat
open Go Go.E
open Go.E.Rep (rd)
open Go.E.Sep (own)
open Go.E.Sz (szd)
variable {F0:Nat→Prop}{w0:World}{M:List Nat}
def q8U (a0 a1:Occurrence):Option Bool:=if a0.Pos=a1.Pos then if a0.Name=a1.Name then some true else some false else some false
theorem z8h {a0 a1}{r}(hr:q8U a0 a1=some r){ca0}(ha0:rd F0 w0 a0 ca0){ca1}(ha1:rd F0 w0 a1 ca1):RB 170 #[ag ca0,ag ca1] w0 r:=by
 have H:=((HL.start F0 w0).argR ha0).argR ha1
 obtain⟨rfl,hI1,hS1,H⟩:=q2z H 0
 obtain⟨rfl,hI2,hS2,H⟩:=q2z H 1
 refine (En Tryz.func170) ?_
 refine R ((BX H) fun b1 w1 H=>(BX H) fun b2 w2 H=>(A) (Z (Y (R ((D 0) ((L H 0) ((D 0) ((L H 1) ((BZ) (iN hr (fun _ hr=>?_) fun _ hr=>?_))))))))))
 ·exact R ((AZ) (W1 hr))
 refine K (Y (R ((D 1) ((L H 0) ((D 1) ((L H 1) ((BZ) (iN hr (fun _ hr=>?_) fun _ hr=>?_))))))))
 ·exact R ((AZ) (W1 hr))
 exact K (R ((AZ) (W1 hr)))
def z9t (rec_weqExpr:Expr→Expr→Option Bool)(a1:(List Expr)):Nat→Expr→Unit→Option (Unit ⊕ Bool):=fun k1 x1 _=>(a1[k1]?).bind fun x2=>(rec_weqExpr x1 x2).bind fun y1=>if y1=true then some (.inl ()) else some (.inr false)
def z7f (rec_weqExpr:Expr→Expr→Option Bool)(a0 a1:(List Expr)):Option Bool:=if (a0.length:Int)=(a1.length:Int) then (q2u (z9t rec_weqExpr a1) 0 a0 ()).bind <| onr (fun r1=>some r1) fun _=>some true else some false
theorem j3J {rec_weqExpr:Expr→Expr→Option Bool}(ih_weqExpr:∀ {a0 a1:Expr} {r:Bool},rec_weqExpr a0 a1=some r→∀ {F0:Nat→Prop} {w0:World} {ca0} (ha0:rd F0 w0 a0 ca0) {ca1} (ha1:rd F0 w0 a1 ca1),RB 171 #[ag ca0,ag ca1] w0 r){a0 a1}{r}(hr:z7f rec_weqExpr a0 a1=some r){z0}(ha0:rdS F0 w0 a0 z0){z1}(ha1:rdS F0 w0 a1 z1):RB 202 #[z0,z1] w0 r:=by
 obtain⟨A0',n0',c0',rfl⟩:=ha0.form3
 obtain⟨A1',n1',c1',rfl⟩:=ha1.form3
 have H:=((HL.start F0 w0).argS ha0).argS ha1
 refine (En Tryz.func202) ?_
 refine R ((A) (Z (Y (R ((V) ((NI H 0) fun hl1=>(V) ((NI H 1) fun hl2=>(BZ) (iN hr (fun _ hr=>?_) fun _ hr=>?_))))))))
 ·exact R ((AZ) (W1 hr))
 refine K (Y (R ((AZ) ?_)))
 refine bb hr fun q1 hq1 hr=>?_
 refine (lF hq1 (fun k1 _ _=>[(0,.slice A0' n0' c0'),(1,.slice A1' n1' c1'),(5,zN k1)]) (fun _ _ w=>HL F0 [] w0 w [.S a0 (.slice A0' n0' c0'),.S a1 (.slice A1' n1' c1')] []) ()) ?_
 rintro k1 _ _ σ w1 hk1 hq1 H
 refine Y (R ((V) ((V) ((NN (rs H 0)) ((BZ) ?_)))))
 refine (iF hq1 hr (fun hk2 x1 z1 hx1 hb1 hs1 ht1=>?_) fun hr=>?_)
 ·refine K (Y ?_)
  refine Bk (Y ?_)
  refine q0d hmix (by kernel_rfl) ?_
  refine (qV) ((qV) ?_)
  obtain⟨b1,ob1,cb1,A1,n1,c1,hvb1,hI1,hI2,hI3,hI4,hS1,hS2,H⟩:=q4f H 0 hx1
  refine (qJ 7 hvb1 hx1) ((qLA H 2) ((qV) ((qV) ?_)))
  refine bb hb1 fun x2 hx2 hb1=>?_
  obtain⟨b2,ob2,cb2,A2,n2,c2,hvb2,hI5,hI6,hI7,hI8,hS3,hS4,H⟩:=q4f H 1 hx2
  refine (qJ 7 hvb2 hx2) ((qLA H 5) ?_)
  refine bb hb1 fun y1 hy1 hb1=>?_
  refine (qC j8j (fun _ hq=>ih_weqExpr hy1 (q2r.2 ⟨_,rfl,hI1,hI2,hI3,hI4,hS1,hS2,(rs (H.ext hq) 4)⟩) (q2r.2 ⟨_,rfl,hI5,hI6,hI7,hI8,hS3,hS4,(rs (H.ext hq) 7)⟩))) ?_
  refine (qN) ?_
  refine QL.nil (fun w2 hE=>?_)
  have H:=H.ext hE
  refine iM hb1 (fun _ hb1=>?_) fun _ hb1=>?_
  ·exact R ((AZ) (W2 hb1 ht1 hr))
  exact K (X ((V) ((AN hk2 hl1) ((A) (Z (I2 hb1 hs1 ⟨k1+1,(),()⟩))))))
 exact CE (R ((AZ) (W1 hr)))
def z6y (rec_weqExpr:Expr→Expr→Option Bool)(a0 a1:Expr):Option Bool:=if a0.Kind=a1.Kind then if a0.N=a1.N then if a0.Pos=a1.Pos then if a0.Type_=a1.Type_ then if a0.Symbol=a1.Symbol then if a0.Name=a1.Name then (z7f rec_weqExpr a0.Args a1.Args).bind fun y1=>if y1=true then some true else some false else some false else some false else some false else some false else some false else some false
theorem j3K {rec_weqExpr:Expr→Expr→Option Bool}(ih_weqExpr:∀ {a0 a1:Expr} {r:Bool},rec_weqExpr a0 a1=some r→∀ {F0:Nat→Prop} {w0:World} {ca0} (ha0:rd F0 w0 a0 ca0) {ca1} (ha1:rd F0 w0 a1 ca1),RB 171 #[ag ca0,ag ca1] w0 r){a0 a1}{r}(hr:z6y rec_weqExpr a0 a1=some r){ca0}(ha0:rd F0 w0 a0 ca0){ca1}(ha1:rd F0 w0 a1 ca1):RB 171 #[ag ca0,ag ca1] w0 r:=by
 have H:=((HL.start F0 w0).argR ha0).argR ha1
 obtain⟨A1,n1,c1,rfl,hI1,hI2,hI3,hI4,hS1,hS2,H⟩:=q3q H 0
 obtain⟨A2,n2,c2,rfl,hI5,hI6,hI7,hI8,hS3,hS4,H⟩:=q3q H 1
 let d1:List Pr:=[.R a0 (q2D a0 A1 n1 c1),.R a1 (q2D a1 A2 n2 c2),.S a0.Args (.slice A1 n1 c1),.S a1.Args (.slice A2 n2 c2)]
 refine (En Tryz.func171) ?_
 refine R ((BX H) fun b1 w1 H=>(BX H) fun b2 w2 H=>(A) (Z (Y (R ((D 0) ((L H 0) ((D 0) ((L H 1) ((BZ) (iN hr (fun _ hr=>?_) fun _ hr=>?_))))))))))
 ·exact R ((AZ) (W1 hr))
 let d2:List It:=[.B b1 136 (q2D a0 A1 n1 c1),.B b2 136 (q2D a1 A2 n2 c2)]
 refine K (Y (R ((D 1) ((L H 0) ((D 1) ((L H 1) ((BZ) (iN hr (fun _ hr=>?_) fun _ hr=>?_))))))))
 ·exact R ((AZ) (W1 hr))
 refine K (Y (R ((D 2) ((L H 0) ((D 2) ((L H 1) ((BZ) (iN hr (fun _ hr=>?_) fun _ hr=>?_))))))))
 ·exact R ((AZ) (W1 hr))
 refine K (Y (R ((D 3) ((L H 0) ((D 3) ((L H 1) ((BZ) (iN hr (fun _ hr=>?_) fun _ hr=>?_))))))))
 ·refine Y ?_
  refine q0a [] trivial fun σ=>?_
  have H:HL F0 [] w0 w2 d1 d2:=H
  exact X ((AZ) (W1 hr))
 refine K (Y (Y ?_))
 refine q0a [(2,pB b1),(3,pB b2)] ⟨rfl,rfl,trivial⟩ fun σ=>?_
 have H:HL F0 [] w0 w2 d1 d2:=H
 refine X ((D 4) ((L H 0) ((D 4) ((L H 1) ((BZ) (iN hr (fun _ hr=>?_) fun _ hr=>?_))))))
 ·exact R ((AZ) (W1 hr))
 refine K (Y (R ((D 5) ((L H 0) ((D 5) ((L H 1) ((BZ) (iN hr (fun _ hr=>?_) fun _ hr=>?_))))))))
 ·exact R ((AZ) (W1 hr))
 refine K (Y (R ((D 6) ((L H 0) ((D 6) ((L H 1) ?_))))))
 refine bb hr fun y1 hy1 hr=>?_
 refine (CA k3F (j3J ih_weqExpr hy1 (rs H 2) (rs H 3))) (cE H fun w3 H=>(N) (Z (iM hr (fun _ hr=>?_) fun _ hr=>?_)))
 ·exact R ((AZ) (W1 hr))
 exact K (R ((AZ) (W1 hr)))
def z0j:Nat→Expr→Expr→Option Bool
  | 0,_,_=>none
  | n+1,a0,a1=>z6y (z0j n) a0 a1
def z4h (a0 a1:Expr):Option Bool:=recO fun n=>z0j n a0 a1
theorem j3L (n:Nat):∀ {a0 a1:Expr} {r:Bool},z0j n a0 a1=some r→∀ {F0:Nat→Prop} {w0:World} {ca0} (ha0:rd F0 w0 a0 ca0) {ca1} (ha1:rd F0 w0 a1 ca1),RB 171 #[ag ca0,ag ca1] w0 r:=by
 induction n with
 | zero=>intro a0 a1 r hr; exact nomatch (show (none:Option Bool)=some r from hr)
 | succ n ih=>intro a0 a1 r hr; exact j3K ih hr
theorem z7g {a0 a1}{r}(hr:z4h a0 a1=some r){ca0}(ha0:rd F0 w0 a0 ca0){ca1}(ha1:rd F0 w0 a1 ca1):RB 171 #[ag ca0,ag ca1] w0 r:=by
 obtain⟨n,hn⟩:=q4v hr
 exact j3L n hn ha0 ha1
def q8V (a0 a1:Equation):Option Bool:=(q8U a0.At a1.At).bind fun y1=>if y1=true then (z4h a0.Expr a1.Expr).bind fun y2=>if y2=true then some true else some false else some false
theorem j0k {a0 a1}{r}(hr:q8V a0 a1=some r){ca0}(ha0:rd F0 w0 a0 ca0){ca1}(ha1:rd F0 w0 a1 ca1):RB 138 #[ag ca0,ag ca1] w0 r:=by
 have H:=((HL.start F0 w0).argR ha0).argR ha1
 obtain⟨A1,n1,c1,rfl,hI1,hS1,hI2,hI3,hI4,hI5,hS2,hS3,H⟩:=q8p H 0
 obtain⟨A2,n2,c2,rfl,hI6,hS4,hI7,hI8,hI9,hI10,hS5,hS6,H⟩:=q8p H 1
 refine (En Tryz.func138) ?_
 refine R ((BX H) fun b1 w1 H=>(BX H) fun b2 w2 H=>(A) (Z (Y (R ((D 0) ?_)))))
 refine q0b rfl rfl (q0c rfl z0l q3n rfl (Blk.part (rb H 0) 0 2) rfl) ((D 0) ?_)
 refine q0b rfl rfl (q0c rfl z0l q3n rfl (Blk.part (rb H 1) 0 2) rfl) ?_
 refine bb hr fun y1 hy1 hr=>?_
 refine (CA k3h (z8h hy1 (F0:=nF) ⟨rfl,hI1,hS1⟩ ⟨rfl,hI6,hS4⟩)) (cE H fun w3 H=>(N) (Z (iM hr (fun _ hr=>?_) fun _ hr=>?_)))
 ·exact R ((AZ) (W1 hr))
 refine K (Y (R ((D 2) ?_)))
 refine q0b rfl rfl (q0c rfl q7L q5u rfl (Blk.part (rb H 0) 2 7) rfl) ((D 2) ?_)
 refine q0b rfl rfl (q0c rfl q7L q5u rfl (Blk.part (rb H 1) 2 7) rfl) ?_
 refine bb hr fun y2 hy2 hr=>?_
 refine (CA j8j (z7g hy2 (q2r.2 ⟨_,rfl,hI2,hI3,hI4,hI5,hS2,hS3,(rs H 2)⟩) (q2r.2 ⟨_,rfl,hI7,hI8,hI9,hI10,hS5,hS6,(rs H 3)⟩))) (cE H fun w4 H=>(N) (Z (iM hr (fun _ hr=>?_) fun _ hr=>?_)))
 ·exact R ((AZ) (W1 hr))
 exact K (R ((AZ) (W1 hr)))
def z4i (a1:(List Equation)):Nat→Equation→Unit→Option (Unit ⊕ Bool):=fun k1 x1 _=>(a1[k1]?).bind fun x2=>(q8V x1 x2).bind fun y1=>if y1=true then some (.inl ()) else some (.inr false)
def z2e (a0 a1:(List Equation)):Option Bool:=if (a0.length:Int)=(a1.length:Int) then (q2u (z4i a1) 0 a0 ()).bind <| onr (fun r1=>some r1) fun _=>some true else some false
theorem z9u {a0 a1}{r}(hr:z2e a0 a1=some r){z0}(ha0:rdS F0 w0 a0 z0){z1}(ha1:rdS F0 w0 a1 z1):RB 103 #[z0,z1] w0 r:=by
 obtain⟨A0',n0',c0',rfl⟩:=ha0.form3
 obtain⟨A1',n1',c1',rfl⟩:=ha1.form3
 have H:=((HL.start F0 w0).argS ha0).argS ha1
 refine (En Tryz.func103) ?_
 refine R ((A) (Z (Y (R ((V) ((NI H 0) fun hl1=>(V) ((NI H 1) fun hl2=>(BZ) (iN hr (fun _ hr=>?_) fun _ hr=>?_))))))))
 ·exact R ((AZ) (W1 hr))
 refine K (Y (R ((AZ) ?_)))
 refine bb hr fun q1 hq1 hr=>?_
 refine (lF hq1 (fun k1 _ _=>[(0,.slice A0' n0' c0'),(1,.slice A1' n1' c1'),(5,zN k1)]) (fun _ _ w=>HL F0 [] w0 w [.S a0 (.slice A0' n0' c0'),.S a1 (.slice A1' n1' c1')] []) ()) ?_
 rintro k1 _ _ σ w1 hk1 hq1 H
 refine Y (R ((V) ((V) ((NN (rs H 0)) ((BZ) ?_)))))
 refine (iF hq1 hr (fun hk2 x1 z1 hx1 hb1 hs1 ht1=>?_) fun hr=>?_)
 ·refine K (Y ?_)
  refine Bk (Y ?_)
  refine q0d hmix (by kernel_rfl) ?_
  refine (qV) ((qV) ?_)
  obtain⟨b1,ob1,cb1,A1,n1,c1,hvb1,hI1,hS1,hI2,hI3,hI4,hI5,hS2,hS3,H⟩:=q3P H 0 hx1
  refine (qJ 9 hvb1 hx1) ((qLA H 2) ((qV) ((qV) ?_)))
  refine bb hb1 fun x2 hx2 hb1=>?_
  obtain⟨b2,ob2,cb2,A2,n2,c2,hvb2,hI6,hS4,hI7,hI8,hI9,hI10,hS5,hS6,H⟩:=q3P H 1 hx2
  refine (qJ 9 hvb2 hx2) ((qLA H 5) ?_)
  refine bb hb1 fun y1 hy1 hb1=>?_
  refine (qC k2O (fun _ hq=>j0k hy1 ⟨_,rfl,hI1,hS1,hI2,hI3,hI4,hI5,hS2,hS3,(rs (H.ext hq) 4)⟩ ⟨_,rfl,hI6,hS4,hI7,hI8,hI9,hI10,hS5,hS6,(rs (H.ext hq) 7)⟩)) ?_
  refine (qN) ?_
  refine QL.nil (fun w2 hE=>?_)
  have H:=H.ext hE
  refine iM hb1 (fun _ hb1=>?_) fun _ hb1=>?_
  ·exact R ((AZ) (W2 hb1 ht1 hr))
  exact K (X ((V) ((AN hk2 hl1) ((A) (Z (I2 hb1 hs1 ⟨k1+1,(),()⟩))))))
 exact CE (R ((AZ) (W1 hr)))
def q6F (a0 a1:Contribution):Option Bool:=if a0.Symbol=a1.Symbol then if a0.Name=a1.Name then (z4h a0.Target a1.Target).bind fun y1=>if y1=true then (z4h a0.Value a1.Value).bind fun y2=>if y2=true then some true else some false else some false else some false else some false
theorem z6z {a0 a1}{r}(hr:q6F a0 a1=some r){ca0}(ha0:rd F0 w0 a0 ca0){ca1}(ha1:rd F0 w0 a1 ca1):RB 139 #[ag ca0,ag ca1] w0 r:=by
 have H:=((HL.start F0 w0).argR ha0).argR ha1
 obtain⟨A1,n1,c1,A2,n2,c2,rfl,hS1,hS2,hI1,hI2,hI3,hI4,hS3,hS4,hI5,hI6,hI7,hI8,hS5,hS6,H⟩:=q8C H 0
 let d3:=q4u a0 A1 n1 c1 A2 n2 c2
 obtain⟨A3,n3,c3,A4,n4,c4,rfl,hS7,hS8,hI9,hI10,hI11,hI12,hS9,hS10,hI13,hI14,hI15,hI16,hS11,hS12,H⟩:=q8C H 1
 let d4:=q4u a1 A3 n3 c3 A4 n4 c4
 let d1:List Pr:=[.R a0 d3,.R a1 d4,.S a0.Target.Args (.slice A1 n1 c1),.S a0.Value.Args (.slice A2 n2 c2),.S a1.Target.Args (.slice A3 n3 c3),.S a1.Value.Args (.slice A4 n4 c4)]
 refine (En Tryz.func139) ?_
 refine R ((BX H) fun b1 w1 H=>(BX H) fun b2 w2 H=>(A) (Z (Y (R ((D 0) ((L H 0) ((D 0) ((L H 1) ((BZ) (iN hr (fun _ hr=>?_) fun _ hr=>?_))))))))))
 ·exact R ((AZ) (W1 hr))
 let d2:List It:=[.B b1 190 d3,.B b2 190 d4]
 refine K (Y (R ((D 1) ((L H 0) ((D 1) ((L H 1) ((BZ) (iN hr (fun _ hr=>?_) fun _ hr=>?_))))))))
 ·exact R ((AZ) (W1 hr))
 refine K (Y (R ((D 2) ?_)))
 refine q0b rfl rfl (q0c rfl q7L q5u rfl (Blk.part (rb H 0) 2 7) rfl) ((D 2) ?_)
 refine q0b rfl rfl (q0c rfl q7L q5u rfl (Blk.part (rb H 1) 2 7) rfl) ?_
 refine bb hr fun y1 hy1 hr=>?_
 refine (CA j8j (z7g hy1 (q2r.2 ⟨_,rfl,hI1,hI2,hI3,hI4,hS3,hS4,(rs H 2)⟩) (q2r.2 ⟨_,rfl,hI9,hI10,hI11,hI12,hS9,hS10,(rs H 4)⟩))) (cE H fun w3 H=>(N) (Z (iM hr (fun _ hr=>?_) fun _ hr=>?_)))
 ·exact R ((AZ) (W1 hr))
 refine K (Y (R ((D 9) ?_)))
 refine q0b rfl rfl (q0c rfl q7L q5u rfl (Blk.part (rb H 0) 9 7) rfl) ((D 9) ?_)
 refine q0b rfl rfl (q0c rfl q7L q5u rfl (Blk.part (rb H 1) 9 7) rfl) ?_
 refine bb hr fun y2 hy2 hr=>?_
 refine (CA j8j (z7g hy2 (q2r.2 ⟨_,rfl,hI5,hI6,hI7,hI8,hS5,hS6,(rs H 3)⟩) (q2r.2 ⟨_,rfl,hI13,hI14,hI15,hI16,hS11,hS12,(rs H 5)⟩))) (cE H fun w4 H=>(N) (Z (iM hr (fun _ hr=>?_) fun _ hr=>?_)))
 ·refine Y ?_
  refine q0a [] trivial fun σ=>?_
  have H:HL F0 [] w0 w4 d1 d2:=H
  exact X ((AZ) (W1 hr))
 refine K (Y ?_)
 refine q0a [] trivial fun σ=>?_
 have H:HL F0 [] w0 w4 d1 d2:=H
 exact X ((AZ) (W1 hr))
def z1m (a1:(List Contribution)):Nat→Contribution→Unit→Option (Unit ⊕ Bool):=fun k1 x1 _=>(a1[k1]?).bind fun x2=>(q6F x1 x2).bind fun y1=>if y1=true then some (.inl ()) else some (.inr false)
def q8W (a0 a1:(List Contribution)):Option Bool:=if (a0.length:Int)=(a1.length:Int) then (q2u (z1m a1) 0 a0 ()).bind <| onr (fun r1=>some r1) fun _=>some true else some false
theorem z5B {a0 a1}{r}(hr:q8W a0 a1=some r){z0}(ha0:rdS F0 w0 a0 z0){z1}(ha1:rdS F0 w0 a1 z1):RB 104 #[z0,z1] w0 r:=by
 obtain⟨A0',n0',c0',rfl⟩:=ha0.form3
 obtain⟨A1',n1',c1',rfl⟩:=ha1.form3
 have H:=((HL.start F0 w0).argS ha0).argS ha1
 refine (En Tryz.func104) ?_
 refine R ((A) (Z (Y (R ((V) ((NI H 0) fun hl1=>(V) ((NI H 1) fun hl2=>(BZ) (iN hr (fun _ hr=>?_) fun _ hr=>?_))))))))
 ·exact R ((AZ) (W1 hr))
 refine K (Y (R ((AZ) ?_)))
 refine bb hr fun q1 hq1 hr=>?_
 refine (lF hq1 (fun k1 _ _=>[(0,.slice A0' n0' c0'),(1,.slice A1' n1' c1'),(5,zN k1)]) (fun _ _ w=>HL F0 [] w0 w [.S a0 (.slice A0' n0' c0'),.S a1 (.slice A1' n1' c1')] []) ()) ?_
 rintro k1 _ _ σ w1 hk1 hq1 H
 refine Y (R ((V) ((V) ((NN (rs H 0)) ((BZ) ?_)))))
 refine (iF hq1 hr (fun hk2 x1 z1 hx1 hb1 hs1 ht1=>?_) fun hr=>?_)
 ·refine K (Y ?_)
  refine Bk (Y ?_)
  refine q0d hmix (by kernel_rfl) ?_
  refine (qV) ((qV) ?_)
  obtain⟨b1,ob1,cb1,A1,n1,c1,A2,n2,c2,hvb1,hS1,hS2,hI1,hI2,hI3,hI4,hS3,hS4,hI5,hI6,hI7,hI8,hS5,hS6,H⟩:=q3V H 0 hx1
  refine (qJ 16 hvb1 hx1) ((qLA H 2) ((qV) ((qV) ?_)))
  refine bb hb1 fun x2 hx2 hb1=>?_
  obtain⟨b2,ob2,cb2,A3,n3,c3,A4,n4,c4,hvb2,hS7,hS8,hI9,hI10,hI11,hI12,hS9,hS10,hI13,hI14,hI15,hI16,hS11,hS12,H⟩:=q3V H 1 hx2
  refine (qJ 16 hvb2 hx2) ((qLA H 6) ?_)
  refine bb hb1 fun y1 hy1 hb1=>?_
  refine (qC k2P (fun _ hq=>z6z hy1 ⟨_,_,rfl,hS1,hS2,hI1,hI2,hI3,hI4,hS3,hS4,hI5,hI6,hI7,hI8,hS5,hS6,(rs (H.ext hq) 4),(rs (H.ext hq) 5)⟩ ⟨_,_,rfl,hS7,hS8,hI9,hI10,hI11,hI12,hS9,hS10,hI13,hI14,hI15,hI16,hS11,hS12,(rs (H.ext hq) 8),(rs (H.ext hq) 9)⟩)) ?_
  refine (qN) ?_
  refine QL.nil (fun w2 hE=>?_)
  have H:=H.ext hE
  refine iM hb1 (fun _ hb1=>?_) fun _ hb1=>?_
  ·exact R ((AZ) (W2 hb1 ht1 hr))
  exact K (X ((V) ((AN hk2 hl1) ((A) (Z (I2 hb1 hs1 ⟨k1+1,(),()⟩))))))
 exact CE (R ((AZ) (W1 hr)))
def z4j (a0 a1:Rule):Option Bool:=if a0.Name=a1.Name then if a0.Left=a1.Left then (z0i a0.Right a1.Right).bind fun y1=>if y1=true then if a0.Literal=a1.Literal then (z2e a0.Equations a1.Equations).bind fun y2=>if y2=true then (q8W a0.Contributions a1.Contributions).bind fun y3=>if y3=true then some true else some false else some false else some false else some false else some false else some false
theorem j5q {a0 a1}{r}(hr:z4j a0 a1=some r){ca0}(ha0:rd F0 w0 a0 ca0){ca1}(ha1:rd F0 w0 a1 ca1):RB 61 #[ag ca0,ag ca1] w0 r:=by
 have H:=((HL.start F0 w0).argR ha0).argR ha1
 obtain⟨A1,n1,c1,A2,n2,c2,A3,n3,c3,rfl,hS1,hS2,H⟩:=q3j H 0
 let d3:=q4o a0 A1 n1 c1 A2 n2 c2 A3 n3 c3
 obtain⟨A4,n4,c4,A5,n5,c5,A6,n6,c6,rfl,hS3,hS4,H⟩:=q3j H 1
 let d4:=q4o a1 A4 n4 c4 A5 n5 c5 A6 n6 c6
 let d1:List Pr:=[.R a0 d3,.R a1 d4,.S a0.Right (.slice A1 n1 c1),.S a0.Equations (.slice A2 n2 c2),.S a0.Contributions (.slice A3 n3 c3),.S a1.Right (.slice A4 n4 c4),.S a1.Equations (.slice A5 n5 c5),.S a1.Contributions (.slice A6 n6 c6)]
 refine (En Tryz.func61) ?_
 refine R ((BX H) fun b1 w1 H=>(BX H) fun b2 w2 H=>(A) (Z (Y (R ((D 0) ((L H 0) ((D 0) ((L H 1) ((BZ) (iN hr (fun _ hr=>?_) fun _ hr=>?_))))))))))
 ·exact R ((AZ) (W1 hr))
 let d2:List It:=[.B b1 62 d3,.B b2 62 d4]
 refine K (Y (R ((D 1) ((L H 0) ((D 1) ((L H 1) ((BZ) (iN hr (fun _ hr=>?_) fun _ hr=>?_))))))))
 ·exact R ((AZ) (W1 hr))
 refine K (Y (R ((D 2) ((L H 0) ((D 2) ((L H 1) ?_))))))
 refine bb hr fun y1 hy1 hr=>?_
 refine (CA k0c (z3c hy1 (rs H 2) (rs H 5))) (cE H fun w3 H=>(N) (Z (iM hr (fun _ hr=>?_) fun _ hr=>?_)))
 ·exact R ((AZ) (W1 hr))
 refine K (Y (R ((D 3) ((L H 0) ((D 3) ((L H 1) ((BN (q0Z Tryz.underlying4)) (Z (iN hr (fun _ hr=>?_) fun _ hr=>?_)))))))))
 ·refine Y ?_
  refine q0a [] trivial fun σ=>?_
  have H:HL F0 [] w0 w3 d1 d2:=H
  exact X ((AZ) (W1 hr))
 refine K (Y (Y ?_))
 refine q0a [(2,pB b1),(3,pB b2)] ⟨rfl,rfl,trivial⟩ fun σ=>?_
 have H:HL F0 [] w0 w3 d1 d2:=H
 refine X ((D 4) ((L H 0) ((D 4) ((L H 1) ?_))))
 refine bb hr fun y2 hy2 hr=>?_
 refine (CA k2r (z9u hy2 (rs H 3) (rs H 6))) (cE H fun w4 H=>(N) (Z (iM hr (fun _ hr=>?_) fun _ hr=>?_)))
 ·exact R ((AZ) (W1 hr))
 refine K (Y (R ((D 5) ((L H 0) ((D 5) ((L H 1) ?_))))))
 refine bb hr fun y3 hy3 hr=>?_
 refine (CA k2s (z5B hy3 (rs H 4) (rs H 7))) (cE H fun w5 H=>(N) (Z (iM hr (fun _ hr=>?_) fun _ hr=>?_)))
 ·exact R ((AZ) (W1 hr))
 exact K (R ((AZ) (W1 hr)))
def z9v (a1:(List Rule)):Nat→Rule→Unit→Option (Unit ⊕ Bool):=fun k1 x1 _=>(a1[k1]?).bind fun x2=>(z4j x1 x2).bind fun y1=>if y1=true then some (.inl ()) else some (.inr false)
def z7h (a0 a1:(List Rule)):Option Bool:=if (a0.length:Int)=(a1.length:Int) then (q2u (z9v a1) 0 a0 ()).bind <| onr (fun r1=>some r1) fun _=>some true else some false
theorem j3M {a0 a1}{r}(hr:z7h a0 a1=some r){z0}(ha0:rdS F0 w0 a0 z0){z1}(ha1:rdS F0 w0 a1 z1):RB 30 #[z0,z1] w0 r:=by
 obtain⟨A0',n0',c0',rfl⟩:=ha0.form3
 obtain⟨A1',n1',c1',rfl⟩:=ha1.form3
 have H:=((HL.start F0 w0).argS ha0).argS ha1
 refine (En Tryz.func30) ?_
 refine R ((A) (Z (Y (R ((V) ((NI H 0) fun hl1=>(V) ((NI H 1) fun hl2=>(BZ) (iN hr (fun _ hr=>?_) fun _ hr=>?_))))))))
 ·exact R ((AZ) (W1 hr))
 refine K (Y (R ((AZ) ?_)))
 refine bb hr fun q1 hq1 hr=>?_
 refine (lF hq1 (fun k1 _ _=>[(0,.slice A0' n0' c0'),(1,.slice A1' n1' c1'),(5,zN k1)]) (fun _ _ w=>HL F0 [] w0 w [.S a0 (.slice A0' n0' c0'),.S a1 (.slice A1' n1' c1')] []) ()) ?_
 rintro k1 _ _ σ w1 hk1 hq1 H
 refine Y (R ((V) ((V) ((NN (rs H 0)) ((BZ) ?_)))))
 refine (iF hq1 hr (fun hk2 x1 z1 hx1 hb1 hs1 ht1=>?_) fun hr=>?_)
 ·refine K (Y ?_)
  refine Bk (Y ?_)
  refine q0d hmix (by kernel_rfl) ?_
  refine (qV) ((qV) ?_)
  obtain⟨b1,ob1,cb1,A1,n1,c1,A2,n2,c2,A3,n3,c3,hvb1,hS1,hS2,H⟩:=q6N H 0 hx1
  refine (qJ 6 hvb1 hx1) ((qLA H 2) ((qV) ((qV) ?_)))
  refine bb hb1 fun x2 hx2 hb1=>?_
  obtain⟨b2,ob2,cb2,A4,n4,c4,A5,n5,c5,A6,n6,c6,hvb2,hS3,hS4,H⟩:=q6N H 1 hx2
  refine (qJ 6 hvb2 hx2) ((qLA H 7) ?_)
  refine bb hb1 fun y1 hy1 hb1=>?_
  refine (qC ok61 (fun _ hq=>j5q hy1 ⟨_,_,_,rfl,hS1,hS2,(rs (H.ext hq) 4),(rs (H.ext hq) 5),(rs (H.ext hq) 6)⟩ ⟨_,_,_,rfl,hS3,hS4,(rs (H.ext hq) 9),(rs (H.ext hq) 10),(rs (H.ext hq) 11)⟩)) ?_
  refine (qN) ?_
  refine QL.nil (fun w2 hE=>?_)
  have H:=H.ext hE
  refine iM hb1 (fun _ hb1=>?_) fun _ hb1=>?_
  ·exact R ((AZ) (W2 hb1 ht1 hr))
  exact K (X ((V) ((AN hk2 hl1) ((A) (Z (I2 hb1 hs1 ⟨k1+1,(),()⟩))))))
 exact CE (R ((AZ) (W1 hr)))
def z1M (a0 a1:Grammar):Option Bool:=(z4g a0.Symbols a1.Symbols).bind fun y1=>if y1=true then (z7h a0.Rules a1.Rules).bind fun y2=>if y2=true then some true else some false else some false
theorem j1z {a0 a1}{r}(hr:z1M a0 a1=some r){ca0}(ha0:rd F0 w0 a0 ca0){ca1}(ha1:rd F0 w0 a1 ca1):RB 12 #[ag ca0,ag ca1] w0 r:=by
 have H:=((HL.start F0 w0).argR ha0).argR ha1
 obtain⟨A1,n1,c1,A2,n2,c2,rfl,H⟩:=q2s H 0
 obtain⟨A3,n3,c3,A4,n4,c4,rfl,H⟩:=q2s H 1
 refine (En Tryz.func12) ?_
 refine R ((BX H) fun b1 w1 H=>(BX H) fun b2 w2 H=>(A) (Z (Y (R ((D 0) ((L H 0) ((D 0) ((L H 1) ?_))))))))
 refine bb hr fun y1 hy1 hr=>?_
 refine (CA ok29 (j1y hy1 (rs H 2) (rs H 4))) (cE H fun w3 H=>(N) (Z (iM hr (fun _ hr=>?_) fun _ hr=>?_)))
 ·exact R ((AZ) (W1 hr))
 refine K (Y (R ((D 1) ((L H 0) ((D 1) ((L H 1) ?_))))))
 refine bb hr fun y2 hy2 hr=>?_
 refine (CA ok30 (j3M hy2 (rs H 3) (rs H 5))) (cE H fun w4 H=>(N) (Z (iM hr (fun _ hr=>?_) fun _ hr=>?_)))
 ·exact R ((AZ) (W1 hr))
 exact K (R ((AZ) (W1 hr)))
def z2t (a0 a1:Phase):Option Bool:=(z0i a0.Inherited a1.Inherited).bind fun y1=>if y1=true then (z0i a0.Synthesized a1.Synthesized).bind fun y2=>if y2=true then some true else some false else some false
theorem j3N {a0 a1}{r}(hr:z2t a0 a1=some r){ca0}(ha0:rd F0 w0 a0 ca0){ca1}(ha1:rd F0 w0 a1 ca1):RB 62 #[ag ca0,ag ca1] w0 r:=by
 have H:=((HL.start F0 w0).argR ha0).argR ha1
 obtain⟨A1,n1,c1,A2,n2,c2,rfl,H⟩:=z8n H 0
 obtain⟨A3,n3,c3,A4,n4,c4,rfl,H⟩:=z8n H 1
 refine (En Tryz.func62) ?_
 refine R ((BX H) fun b1 w1 H=>(BX H) fun b2 w2 H=>(A) (Z (Y (R ((D 0) ((L H 0) ((D 0) ((L H 1) ?_))))))))
 refine bb hr fun y1 hy1 hr=>?_
 refine (CA k0c (z3c hy1 (rs H 2) (rs H 4))) (cE H fun w3 H=>(N) (Z (iM hr (fun _ hr=>?_) fun _ hr=>?_)))
 ·exact R ((AZ) (W1 hr))
 refine K (Y (R ((D 1) ((L H 0) ((D 1) ((L H 1) ?_))))))
 refine bb hr fun y2 hy2 hr=>?_
 refine (CA k0c (z3c hy2 (rs H 3) (rs H 5))) (cE H fun w4 H=>(N) (Z (iM hr (fun _ hr=>?_) fun _ hr=>?_)))
 ·exact R ((AZ) (W1 hr))
 exact K (R ((AZ) (W1 hr)))
def z7H (a1:(List Phase)):Nat→Phase→Unit→Option (Unit ⊕ Bool):=fun k1 x1 _=>(a1[k1]?).bind fun x2=>(z2t x1 x2).bind fun y1=>if y1=true then some (.inl ()) else some (.inr false)
def z3d (a0 a1:(List Phase)):Option Bool:=if (a0.length:Int)=(a1.length:Int) then (q2u (z7H a1) 0 a0 ()).bind <| onr (fun r1=>some r1) fun _=>some true else some false
theorem j2x {a0 a1}{r}(hr:z3d a0 a1=some r){z0}(ha0:rdS F0 w0 a0 z0){z1}(ha1:rdS F0 w0 a1 z1):RB 31 #[z0,z1] w0 r:=by
 obtain⟨A0',n0',c0',rfl⟩:=ha0.form3
 obtain⟨A1',n1',c1',rfl⟩:=ha1.form3
 have H:=((HL.start F0 w0).argS ha0).argS ha1
 refine (En Tryz.func31) ?_
 refine R ((A) (Z (Y (R ((V) ((NI H 0) fun hl1=>(V) ((NI H 1) fun hl2=>(BZ) (iN hr (fun _ hr=>?_) fun _ hr=>?_))))))))
 ·exact R ((AZ) (W1 hr))
 refine K (Y (R ((AZ) ?_)))
 refine bb hr fun q1 hq1 hr=>?_
 refine (lF hq1 (fun k1 _ _=>[(0,.slice A0' n0' c0'),(1,.slice A1' n1' c1'),(5,zN k1)]) (fun _ _ w=>HL F0 [] w0 w [.S a0 (.slice A0' n0' c0'),.S a1 (.slice A1' n1' c1')] []) ()) ?_
 rintro k1 _ _ σ w1 hk1 hq1 H
 refine Y (R ((V) ((V) ((NN (rs H 0)) ((BZ) ?_)))))
 refine (iF hq1 hr (fun hk2 x1 z1 hx1 hb1 hs1 ht1=>?_) fun hr=>?_)
 ·refine K (Y ?_)
  refine Bk (Y ?_)
  refine q0d hmix (by kernel_rfl) ?_
  refine (qV) ((qV) ?_)
  obtain⟨b1,ob1,cb1,A1,n1,c1,A2,n2,c2,hvb1,H⟩:=q5M H 0 hx1
  refine (qJ 2 hvb1 hx1) ((qLA H 2) ((qV) ((qV) ?_)))
  refine bb hb1 fun x2 hx2 hb1=>?_
  obtain⟨b2,ob2,cb2,A3,n3,c3,A4,n4,c4,hvb2,H⟩:=q5M H 1 hx2
  refine (qJ 2 hvb2 hx2) ((qLA H 6) ?_)
  refine bb hb1 fun y1 hy1 hb1=>?_
  refine (qC ok62 (fun _ hq=>j3N hy1 ⟨_,_,rfl,(rs (H.ext hq) 4),(rs (H.ext hq) 5)⟩ ⟨_,_,rfl,(rs (H.ext hq) 8),(rs (H.ext hq) 9)⟩)) ?_
  refine (qN) ?_
  refine QL.nil (fun w2 hE=>?_)
  have H:=H.ext hE
  refine iM hb1 (fun _ hb1=>?_) fun _ hb1=>?_
  ·exact R ((AZ) (W2 hb1 ht1 hr))
  exact K (X ((V) ((AN hk2 hl1) ((A) (Z (I2 hb1 hs1 ⟨k1+1,(),()⟩))))))
 exact CE (R ((AZ) (W1 hr)))
def z6A (a1:(List (List Phase))):Nat→(List Phase)→Unit→Option (Unit ⊕ Bool):=fun k1 x1 _=>(a1[k1]?).bind fun x2=>(z3d x1 x2).bind fun y1=>if y1=true then some (.inl ()) else some (.inr false)
def z4k (a0 a1:(List (List Phase))):Option Bool:=if (a0.length:Int)=(a1.length:Int) then (q2u (z6A a1) 0 a0 ()).bind <| onr (fun r1=>some r1) fun _=>some true else some false
theorem j1A {a0 a1}{r}(hr:z4k a0 a1=some r){z0}(ha0:rdS F0 w0 a0 z0){z1}(ha1:rdS F0 w0 a1 z1):RB 13 #[z0,z1] w0 r:=by
 obtain⟨A0',n0',c0',rfl⟩:=ha0.form3
 obtain⟨A1',n1',c1',rfl⟩:=ha1.form3
 have H:=((HL.start F0 w0).argS ha0).argS ha1
 refine (En Tryz.func13) ?_
 refine R ((A) (Z (Y (R ((V) ((NI H 0) fun hl1=>(V) ((NI H 1) fun hl2=>(BZ) (iN hr (fun _ hr=>?_) fun _ hr=>?_))))))))
 ·exact R ((AZ) (W1 hr))
 refine K (Y (R ((AZ) ?_)))
 refine bb hr fun q1 hq1 hr=>?_
 refine (lF hq1 (fun k1 _ _=>[(0,.slice A0' n0' c0'),(1,.slice A1' n1' c1'),(5,zN k1)]) (fun _ _ w=>HL F0 [] w0 w [.S a0 (.slice A0' n0' c0'),.S a1 (.slice A1' n1' c1')] []) ()) ?_
 rintro k1 _ _ σ w1 hk1 hq1 H
 refine Y (R ((V) ((V) ((NN (rs H 0)) ((BZ) ?_)))))
 refine (iF hq1 hr (fun hk2 x1 z1 hx1 hb1 hs1 ht1=>?_) fun hr=>?_)
 ·refine K (Y ?_)
  refine Bk (Y ?_)
  refine q0d hmix (by kernel_rfl) ?_
  refine (qV) ((qV) ?_)
  obtain⟨b1,ob1,cb1,A1,n1,c1,hvb1,H⟩:=z5O H 0 hx1
  refine (qJ 1 hvb1 hx1) ((qL0 H 2) ((qV) ((qV) ?_)))
  refine bb hb1 fun x2 hx2 hb1=>?_
  obtain⟨b2,ob2,cb2,A2,n2,c2,hvb2,H⟩:=z5O H 1 hx2
  refine (qJ 1 hvb2 hx2) ((qL0 H 5) ?_)
  refine bb hb1 fun y1 hy1 hb1=>?_
  refine (qC ok31 (fun _ hq=>j2x hy1 (rs (H.ext hq) 4) (rs (H.ext hq) 7))) ?_
  refine (qN) ?_
  refine QL.nil (fun w2 hE=>?_)
  have H:=H.ext hE
  refine iM hb1 (fun _ hb1=>?_) fun _ hb1=>?_
  ·exact R ((AZ) (W2 hb1 ht1 hr))
  exact K (X ((V) ((AN hk2 hl1) ((A) (Z (I2 hb1 hs1 ⟨k1+1,(),()⟩))))))
 exact CE (R ((AZ) (W1 hr)))
def z4l (a0 a1:Step):Option Bool:=if a0.Kind=a1.Kind then if a0.Pos=a1.Pos then if a0.Visit=a1.Visit then if a0.Name=a1.Name then some true else some false else some false else some false else some false
theorem j5r {a0 a1}{r}(hr:z4l a0 a1=some r){ca0}(ha0:rd F0 w0 a0 ca0){ca1}(ha1:rd F0 w0 a1 ca1):RB 105 #[ag ca0,ag ca1] w0 r:=by
 have H:=((HL.start F0 w0).argR ha0).argR ha1
 obtain⟨rfl,hI1,hI2,hI3,hS1,H⟩:=j0N H 0
 obtain⟨rfl,hI4,hI5,hI6,hS2,H⟩:=j0N H 1
 refine (En Tryz.func105) ?_
 refine R ((BX H) fun b1 w1 H=>(BX H) fun b2 w2 H=>(A) (Z (Y (R ((D 0) ((L H 0) ((D 0) ((L H 1) ((BZ) (iN hr (fun _ hr=>?_) fun _ hr=>?_))))))))))
 ·exact R ((AZ) (W1 hr))
 let d1:List It:=[.B b1 102 (q5i a0),.B b2 102 (q5i a1)]
 refine K (Y (R ((D 1) ((L H 0) ((D 1) ((L H 1) ((BZ) (iN hr (fun _ hr=>?_) fun _ hr=>?_))))))))
 ·exact R ((AZ) (W1 hr))
 refine K (Y (R ((D 2) ((L H 0) ((D 2) ((L H 1) ((BZ) (iN hr (fun _ hr=>?_) fun _ hr=>?_))))))))
 ·exact R ((AZ) (W1 hr))
 refine K (Y (R ((D 3) ((L H 0) ((D 3) ((L H 1) ((BZ) (iN hr (fun _ hr=>?_) fun _ hr=>?_))))))))
 ·refine Y ?_
  refine q0a [] trivial fun σ=>?_
  have H:HL F0 [] w0 w2 [.R a0 (q5i a0),.R a1 (q5i a1)] d1:=H
  exact X ((AZ) (W1 hr))
 refine K (Y ?_)
 refine q0a [] trivial fun σ=>?_
 have H:HL F0 [] w0 w2 [.R a0 (q5i a0),.R a1 (q5i a1)] d1:=H
 exact X ((AZ) (W1 hr))
def z9w (a1:(List Step)):Nat→Step→Unit→Option (Unit ⊕ Bool):=fun k1 x1 _=>(a1[k1]?).bind fun x2=>(z4l x1 x2).bind fun y1=>if y1=true then some (.inl ()) else some (.inr false)
def z7i (a0 a1:(List Step)):Option Bool:=if (a0.length:Int)=(a1.length:Int) then (q2u (z9w a1) 0 a0 ()).bind <| onr (fun r1=>some r1) fun _=>some true else some false
theorem j3O {a0 a1}{r}(hr:z7i a0 a1=some r){z0}(ha0:rdS F0 w0 a0 z0){z1}(ha1:rdS F0 w0 a1 z1):RB 63 #[z0,z1] w0 r:=by
 obtain⟨A0',n0',c0',rfl⟩:=ha0.form3
 obtain⟨A1',n1',c1',rfl⟩:=ha1.form3
 have H:=((HL.start F0 w0).argS ha0).argS ha1
 refine (En Tryz.func63) ?_
 refine R ((A) (Z (Y (R ((V) ((NI H 0) fun hl1=>(V) ((NI H 1) fun hl2=>(BZ) (iN hr (fun _ hr=>?_) fun _ hr=>?_))))))))
 ·exact R ((AZ) (W1 hr))
 refine K (Y (R ((AZ) ?_)))
 refine bb hr fun q1 hq1 hr=>?_
 refine (lF hq1 (fun k1 _ _=>[(0,.slice A0' n0' c0'),(1,.slice A1' n1' c1'),(5,zN k1)]) (fun _ _ w=>HL F0 [] w0 w [.S a0 (.slice A0' n0' c0'),.S a1 (.slice A1' n1' c1')] []) ()) ?_
 rintro k1 _ _ σ w1 hk1 hq1 H
 refine Y (R ((V) ((V) ((NN (rs H 0)) ((BZ) ?_)))))
 refine (iF hq1 hr (fun hk2 x1 z1 hx1 hb1 hs1 ht1=>?_) fun hr=>?_)
 ·refine K (Y ?_)
  refine Bk (Y ?_)
  refine q0d hmix (by kernel_rfl) ?_
  refine (qV) ((qV) ?_)
  obtain⟨b1,ob1,cb1,hvb1,hI1,hI2,hI3,hS1,H⟩:=z4z H 0 hx1
  refine (qJ 4 hvb1 hx1) ((qLA H 2) ((qV) ((qV) ?_)))
  refine bb hb1 fun x2 hx2 hb1=>?_
  obtain⟨b2,ob2,cb2,hvb2,hI4,hI5,hI6,hS2,H⟩:=z4z H 1 hx2
  refine (qJ 4 hvb2 hx2) ((qLA H 4) ?_)
  refine bb hb1 fun y1 hy1 hb1=>?_
  refine (qC k2t (fun _ hq=>j5r hy1 (F0:=nF) ⟨rfl,hI1,hI2,hI3,hS1⟩ ⟨rfl,hI4,hI5,hI6,hS2⟩)) ?_
  refine (qN) ?_
  refine QL.nil (fun w2 hE=>?_)
  have H:=H.ext hE
  refine iM hb1 (fun _ hb1=>?_) fun _ hb1=>?_
  ·exact R ((AZ) (W2 hb1 ht1 hr))
  exact K (X ((V) ((AN hk2 hl1) ((A) (Z (I2 hb1 hs1 ⟨k1+1,(),()⟩))))))
 exact CE (R ((AZ) (W1 hr)))
def q8X (a0 a1:RulePlan):Option Bool:=if a0.Rule=a1.Rule then (z7i a0.Steps a1.Steps).bind fun y1=>if y1=true then some true else some false else some false
theorem j0l {a0 a1}{r}(hr:q8X a0 a1=some r){ca0}(ha0:rd F0 w0 a0 ca0){ca1}(ha1:rd F0 w0 a1 ca1):RB 32 #[ag ca0,ag ca1] w0 r:=by
 have H:=((HL.start F0 w0).argR ha0).argR ha1
 obtain⟨A1,n1,c1,rfl,hS1,H⟩:=z2B H 0
 obtain⟨A2,n2,c2,rfl,hS2,H⟩:=z2B H 1
 refine (En Tryz.func32) ?_
 refine R ((BX H) fun b1 w1 H=>(BX H) fun b2 w2 H=>(A) (Z (Y (R ((D 0) ((L H 0) ((D 0) ((L H 1) ((BZ) (iN hr (fun _ hr=>?_) fun _ hr=>?_))))))))))
 ·exact R ((AZ) (W1 hr))
 refine K (Y (R ((D 1) ((L H 0) ((D 1) ((L H 1) ?_))))))
 refine bb hr fun y1 hy1 hr=>?_
 refine (CA ok63 (j3O hy1 (rs H 2) (rs H 3))) (cE H fun w3 H=>(N) (Z (iM hr (fun _ hr=>?_) fun _ hr=>?_)))
 ·exact R ((AZ) (W1 hr))
 exact K (R ((AZ) (W1 hr)))
def z4m (a1:(List RulePlan)):Nat→RulePlan→Unit→Option (Unit ⊕ Bool):=fun k1 x1 _=>(a1[k1]?).bind fun x2=>(q8X x1 x2).bind fun y1=>if y1=true then some (.inl ()) else some (.inr false)
def z2f (a0 a1:(List RulePlan)):Option Bool:=if (a0.length:Int)=(a1.length:Int) then (q2u (z4m a1) 0 a0 ()).bind <| onr (fun r1=>some r1) fun _=>some true else some false
theorem z9x {a0 a1}{r}(hr:z2f a0 a1=some r){z0}(ha0:rdS F0 w0 a0 z0){z1}(ha1:rdS F0 w0 a1 z1):RB 14 #[z0,z1] w0 r:=by
 obtain⟨A0',n0',c0',rfl⟩:=ha0.form3
 obtain⟨A1',n1',c1',rfl⟩:=ha1.form3
 have H:=((HL.start F0 w0).argS ha0).argS ha1
 refine (En Tryz.func14) ?_
 refine R ((A) (Z (Y (R ((V) ((NI H 0) fun hl1=>(V) ((NI H 1) fun hl2=>(BZ) (iN hr (fun _ hr=>?_) fun _ hr=>?_))))))))
 ·exact R ((AZ) (W1 hr))
 refine K (Y (R ((AZ) ?_)))
 refine bb hr fun q1 hq1 hr=>?_
 refine (lF hq1 (fun k1 _ _=>[(0,.slice A0' n0' c0'),(1,.slice A1' n1' c1'),(5,zN k1)]) (fun _ _ w=>HL F0 [] w0 w [.S a0 (.slice A0' n0' c0'),.S a1 (.slice A1' n1' c1')] []) ()) ?_
 rintro k1 _ _ σ w1 hk1 hq1 H
 refine Y (R ((V) ((V) ((NN (rs H 0)) ((BZ) ?_)))))
 refine (iF hq1 hr (fun hk2 x1 z1 hx1 hb1 hs1 ht1=>?_) fun hr=>?_)
 ·refine K (Y ?_)
  refine Bk (Y ?_)
  refine q0d hmix (by kernel_rfl) ?_
  refine (qV) ((qV) ?_)
  obtain⟨b1,ob1,cb1,A1,n1,c1,hvb1,hS1,H⟩:=q8x H 0 hx1
  refine (qJ 2 hvb1 hx1) ((qLA H 2) ((qV) ((qV) ?_)))
  refine bb hb1 fun x2 hx2 hb1=>?_
  obtain⟨b2,ob2,cb2,A2,n2,c2,hvb2,hS2,H⟩:=q8x H 1 hx2
  refine (qJ 2 hvb2 hx2) ((qLA H 5) ?_)
  refine bb hb1 fun y1 hy1 hb1=>?_
  refine (qC ok32 (fun _ hq=>j0l hy1 ⟨_,rfl,hS1,(rs (H.ext hq) 4)⟩ ⟨_,rfl,hS2,(rs (H.ext hq) 7)⟩)) ?_
  refine (qN) ?_
  refine QL.nil (fun w2 hE=>?_)
  have H:=H.ext hE
  refine iM hb1 (fun _ hb1=>?_) fun _ hb1=>?_
  ·exact R ((AZ) (W2 hb1 ht1 hr))
  exact K (X ((V) ((AN hk2 hl1) ((A) (Z (I2 hb1 hs1 ⟨k1+1,(),()⟩))))))
 exact CE (R ((AZ) (W1 hr)))
def q8v (a0:Grammar)(a1:(List (List Phase)))(a2:(List RulePlan)):Option Bool:=(z3I a0 1048576).bind fun y1=>if y1 < 0 then some true else (z3J a1 y1).bind fun y2=>if y2 < 0 then some true else (z1T a2 y2).bind fun y3=>if y3 < 0 then some true else (q8y a0).bind fun y4=>(q9Y a1).bind fun y5=>(q8b a2).bind fun y6=>(z0c y4 y5 y6).bind fun y7=>(q8y a0).bind fun y8=>(q9Y a1).bind fun y9=>(q8b a2).bind fun y10=>(z0h y8 y9 y10).bind fun y11=>if y11=y7 then (q8y a0).bind fun y12=>(z1M y8 y12).bind fun y13=>if y13=true then (q9Y a1).bind fun y14=>(z4k y9 y14).bind fun y15=>if y15=true then (q8b a2).bind fun y16=>(z2f y10 y16).bind fun y17=>if y17=true then some true else some false else some false else some false else some false
theorem z4U {a0}{a1}{a2}{r}(hr:q8v a0 a1 a2=some r){ca0}(ha0:rd F0 w0 a0 ca0){z1}(ha1:rdS F0 w0 a1 z1){z2}(ha2:rdS F0 w0 a2 z2):RB 3 #[ag ca0,z1,z2] w0 r:=by
 obtain⟨A1',n1',c1',rfl⟩:=ha1.form3
 obtain⟨A2',n2',c2',rfl⟩:=ha2.form3
 have H:=(((HL.start F0 w0).argR ha0).argS ha1).argS ha2
 obtain⟨A1,n1,c1,A2,n2,c2,rfl,H⟩:=q2s H 0
 let d1:List Pr:=[.R a0 [.slice A1 n1 c1,.slice A2 n2 c2],.S a1 (.slice A1' n1' c1'),.S a2 (.slice A2' n2' c2'),.S a0.Symbols (.slice A1 n1 c1),.S a0.Rules (.slice A2 n2 c2)]
 refine (En Tryz.func3) ?_
 refine R ((BX H) fun b1 w1 H=>(A) (Z (R ((A) (Z (R ((LB H 0) ((V) ?_))))))))
 let d3:It:=.B b1 25 [.slice A1 n1 c1,.slice A2 n2 c2]
 refine bb hr fun y1 hy1 hr=>?_
 refine (CA ok4 (j0V hy1 ⟨_,_,rfl,(rs H 3),(rs H 4)⟩ dI)) (cF' H fun w2 hI1 H=>(A) (Z (Y (R ((V) ((BZ) (iD hr (fun _ hr=>?_) fun _ hr=>?_)))))))
 ·exact R ((AZ) (W1 hr))
 refine K (R ((V) ((V) ?_)))
 refine bb hr fun y2 hy2 hr=>?_
 refine (CA ok5 (j0W hy2 (rs H 1) hI1)) (cF' H fun w3 hI2 H=>(A) (Z (Y (R ((V) ((BZ) (iD hr (fun _ hr=>?_) fun _ hr=>?_)))))))
 ·exact R ((AZ) (W1 hr))
 refine K (R ((V) ((V) ?_)))
 refine bb hr fun y3 hy3 hr=>?_
 refine (CA ok6 (z8L hy3 (rs H 2) hI2)) (cF' H fun w4 hI3 H=>(A) (Z (Y (R ((V) ((BZ) (iD hr (fun _ hr=>?_) fun _ hr=>?_)))))))
 ·refine Y ?_
  refine q0a [] trivial fun σ=>?_
  have H:HL F0 [] w0 w4 d1 [d3]:=H
  exact X ((AZ) (W1 hr))
 refine K (Y ?_)
 refine q0a [(1,.slice A1' n1' c1'),(2,.slice A2' n2' c2'),(3,pB b1)] ⟨rfl,rfl,rfl,trivial⟩ fun σ=>?_
 have H:HL F0 [] w0 w4 d1 [d3]:=H
 refine X ((LB H 0) ?_)
 refine bb hr fun y4 hy4 hr=>?_
 obtain⟨F,hF,hcl⟩:=H.call
 refine (CA ok8 (z2H hy4 ⟨_,_,rfl,(hF.get (i:=3) rfl),(hF.get (i:=4) rfl)⟩)) ?_
 rintro _ w5 hE ⟨A3,n3,c3,A4,n4,c4,rfl,H'⟩
 have H:HL F0 [] w0 w5 d1 [d3,.G 89 y4.Symbols (.slice A3 n3 c3),.G 62 y4.Rules (.slice A4 n4 c4)]:=hcl H'
 refine (V) ?_
 refine bb hr fun y5 hy5 hr=>?_
 obtain⟨F,hF,hcl⟩:=H.call
 refine (CA ok9 (z2J hy5 (hF.get (i:=1) rfl))) ?_
 rintro _ w6 hE ⟨A5,n5,c5,rfl,H'⟩
 have H:HL F0 [] w0 w6 d1 [d3,.G 89 y4.Symbols (.slice A3 n3 c3),.G 62 y4.Rules (.slice A4 n4 c4),.G 54 y5 (.slice A5 n5 c5)]:=hcl H'
 refine (V) ?_
 refine bb hr fun y6 hy6 hr=>?_
 obtain⟨F,hF,hcl⟩:=H.call
 refine (CA ok10 (z0X hy6 (hF.get (i:=2) rfl))) ?_
 rintro _ w7 hE ⟨A6,n6,c6,rfl,H'⟩
 have H:HL F0 [] w0 w7 d1 [d3,.G 89 y4.Symbols (.slice A3 n3 c3),.G 62 y4.Rules (.slice A4 n4 c4),.G 54 y5 (.slice A5 n5 c5),.G 57 y6 (.slice A6 n6 c6)]:=hcl H'
 refine bb hr fun y7 hy7 hr=>?_
 refine (CA ok7 (j1m hy7 ⟨_,_,rfl,(H.rG (i:=1) rfl),(H.rG (i:=2) rfl)⟩ (H.rG (i:=3) rfl) (H.rG (i:=4) rfl))) (cE H fun w8 H=>(A) (Z (R ((LB H 0) ?_))))
 refine bb hr fun y8 hy8 hr=>?_
 obtain⟨F,hF,hcl⟩:=H.call
 refine (CA ok8 (z2H hy8 ⟨_,_,rfl,(hF.get (i:=3) rfl),(hF.get (i:=4) rfl)⟩)) ?_
 rintro _ w9 hE ⟨A7,n7,c7,A8,n8,c8,rfl,H'⟩
 let d4:List Value:=[.slice A7 n7 c7,.slice A8 n8 c8]
 have H:HL F0 [] w0 w9 d1 [d3,.G 89 y4.Symbols (.slice A3 n3 c3),.G 62 y4.Rules (.slice A4 n4 c4),.G 54 y5 (.slice A5 n5 c5),.G 57 y6 (.slice A6 n6 c6),.G 89 y8.Symbols (.slice A7 n7 c7),.G 62 y8.Rules (.slice A8 n8 c8)]:=hcl H'
 refine (AH ze35 H) fun b2 w10 H=>(SB H 7) fun w11 H=>Z (R ((V) ?_))
 refine bb hr fun y9 hy9 hr=>?_
 obtain⟨F,hF,hcl⟩:=H.call
 refine (CA ok9 (z2J hy9 (hF.get (i:=1) rfl))) ?_
 rintro _ w12 hE ⟨A9,n9,c9,rfl,H'⟩
 have H:HL F0 [] w0 w12 d1 [d3,.G 89 y4.Symbols (.slice A3 n3 c3),.G 62 y4.Rules (.slice A4 n4 c4),.G 54 y5 (.slice A5 n5 c5),.G 57 y6 (.slice A6 n6 c6),.G 89 y8.Symbols (.slice A7 n7 c7),.G 62 y8.Rules (.slice A8 n8 c8),.B b2 35 d4,.G 54 y9 (.slice A9 n9 c9)]:=hcl H'
 refine (A) (Z (R ((V) ?_)))
 refine bb hr fun y10 hy10 hr=>?_
 obtain⟨F,hF,hcl⟩:=H.call
 refine (CA ok10 (z0X hy10 (hF.get (i:=2) rfl))) ?_
 rintro _ w13 hE ⟨A10,n10,c10,rfl,H'⟩
 let d2:List It:=[d3,.G 89 y4.Symbols (.slice A3 n3 c3),.G 62 y4.Rules (.slice A4 n4 c4),.G 54 y5 (.slice A5 n5 c5),.G 57 y6 (.slice A6 n6 c6),.G 89 y8.Symbols (.slice A7 n7 c7),.G 62 y8.Rules (.slice A8 n8 c8),.B b2 35 d4,.G 54 y9 (.slice A9 n9 c9),.G 57 y10 (.slice A10 n10 c10)]
 have H:HL F0 [] w0 w13 d1 d2:=hcl H'
 refine (A) (Z (R ((LB H 7) ((V) ((V) ?_)))))
 refine bb hr fun y11 hy11 hr=>?_
 refine (CA ok11 (j1x hy11 ⟨_,_,rfl,(H.rG (i:=5) rfl),(H.rG (i:=6) rfl)⟩ (H.rG (i:=8) rfl) (H.rG (i:=9) rfl))) (cE H fun w14 H=>(AZ) (Y (Y ?_)))
 refine q0a [(1,.slice A1' n1' c1'),(2,.slice A2' n2' c2'),(3,pB b1),(8,.bool y7),(9,pB b2),(10,.slice A9 n9 c9),(11,.slice A10 n10 c10),(12,.bool y11)] ⟨rfl,rfl,rfl,rfl,rfl,rfl,rfl,rfl,trivial⟩ fun σ=>?_
 have H:HL F0 [] w0 w14 d1 d2:=H
 refine X ((V) ((V) ((BN (q0Z Tryz.underlying4)) (Z (iN hr (fun _ hr=>?_) fun _ hr=>?_)))))
 ·exact R ((AZ) (W1 hr))
 refine K (Y (Y ?_))
 refine q0y (fun w=>HL F0 [] w0 w d1 d2) hmix (fun w15 hE=>?_)
 have H:HL F0 [] w0 w15 d1 d2:=H.ext hE
 refine HW.take 0 (H.keep 5 10) rfl (by kernel_rfl) rfl rfl (fun _ hq=>q0c rfl ag35 sz35 rfl (At.blk (hq.rB (i:=7) rfl)) rfl) ?_
 refine HW.take 1 (H.keep 5 10) rfl (by kernel_rfl) rfl rfl (fun _ hq=>q0c rfl ag25 sz25 rfl (At.blk (hq.rB (i:=0) rfl)) rfl) ?_
 refine q0f 2 rfl (by kernel_rfl) ?_
 refine bb hr fun y12 hy12 hr=>?_
 obtain⟨F,hF,hcl⟩:=H.call
 refine (CA ok8 (z2H hy12 ⟨_,_,rfl,(hF.get (i:=3) rfl),(hF.get (i:=4) rfl)⟩)) ?_
 rintro _ w16 hE ⟨A11,n11,c11,A12,n12,c12,rfl,H'⟩
 have H:HL F0 [] w0 w16 d1 [d3,.G 89 y4.Symbols (.slice A3 n3 c3),.G 62 y4.Rules (.slice A4 n4 c4),.G 54 y5 (.slice A5 n5 c5),.G 57 y6 (.slice A6 n6 c6),.G 89 y8.Symbols (.slice A7 n7 c7),.G 62 y8.Rules (.slice A8 n8 c8),.B b2 35 d4,.G 54 y9 (.slice A9 n9 c9),.G 57 y10 (.slice A10 n10 c10),.G 89 y12.Symbols (.slice A11 n11 c11),.G 62 y12.Rules (.slice A12 n12 c12)]:=hcl H'
 refine HW.next (H.keep 5 10) ?_
 refine q0f 3 rfl (by kernel_rfl) ?_
 refine bb hr fun y13 hy13 hr=>?_
 refine (CA ok12 (j1z hy13 ⟨_,_,rfl,(H.rG (i:=5) rfl),(H.rG (i:=6) rfl)⟩ ⟨_,_,rfl,(H.rG (i:=10) rfl),(H.rG (i:=11) rfl)⟩)) (cE H fun w17 H=>?_)
 refine HW.next (H.keep 5 10) ?_
 refine HW.take 4 (H.keep 5 10) rfl (by kernel_rfl) rfl rfl (fun _ _=>q1n rfl rfl) ?_
 refine q0r (by kernel_rfl) (iM hr (fun _ hr=>?_) fun _ hr=>?_)
 ·exact R ((AZ) (W1 hr))
 refine K (Y (R ((V) ((V) ?_))))
 refine bb hr fun y14 hy14 hr=>?_
 obtain⟨F,hF,hcl⟩:=H.call
 refine (CA ok9 (z2J hy14 (hF.get (i:=1) rfl))) ?_
 rintro _ w18 hE ⟨A13,n13,c13,rfl,H'⟩
 have H:HL F0 [] w0 w18 d1 [d3,.G 89 y4.Symbols (.slice A3 n3 c3),.G 62 y4.Rules (.slice A4 n4 c4),.G 54 y5 (.slice A5 n5 c5),.G 57 y6 (.slice A6 n6 c6),.G 89 y8.Symbols (.slice A7 n7 c7),.G 62 y8.Rules (.slice A8 n8 c8),.B b2 35 d4,.G 54 y9 (.slice A9 n9 c9),.G 57 y10 (.slice A10 n10 c10),.G 89 y12.Symbols (.slice A11 n11 c11),.G 62 y12.Rules (.slice A12 n12 c12),.G 54 y14 (.slice A13 n13 c13)]:=hcl H'
 refine bb hr fun y15 hy15 hr=>?_
 refine (CA ok13 (j1A hy15 (H.rG (i:=8) rfl) (H.rG (i:=12) rfl))) (cE H fun w19 H=>(N) (Z (iM hr (fun _ hr=>?_) fun _ hr=>?_)))
 ·exact R ((AZ) (W1 hr))
 refine K (Y (R ((V) ((V) ?_))))
 refine bb hr fun y16 hy16 hr=>?_
 obtain⟨F,hF,hcl⟩:=H.call
 refine (CA ok10 (z0X hy16 (hF.get (i:=2) rfl))) ?_
 rintro _ w20 hE ⟨A14,n14,c14,rfl,H'⟩
 have H:HL F0 [] w0 w20 d1 [d3,.G 89 y4.Symbols (.slice A3 n3 c3),.G 62 y4.Rules (.slice A4 n4 c4),.G 54 y5 (.slice A5 n5 c5),.G 57 y6 (.slice A6 n6 c6),.G 89 y8.Symbols (.slice A7 n7 c7),.G 62 y8.Rules (.slice A8 n8 c8),.B b2 35 d4,.G 54 y9 (.slice A9 n9 c9),.G 57 y10 (.slice A10 n10 c10),.G 89 y12.Symbols (.slice A11 n11 c11),.G 62 y12.Rules (.slice A12 n12 c12),.G 54 y14 (.slice A13 n13 c13),.G 57 y16 (.slice A14 n14 c14)]:=hcl H'
 refine bb hr fun y17 hy17 hr=>?_
 refine (CA ok14 (z9x hy17 (H.rG (i:=9) rfl) (H.rG (i:=13) rfl))) (cE H fun w21 H=>(N) (Z (iM hr (fun _ hr=>?_) fun _ hr=>?_)))
 ·exact R ((AZ) (W1 hr))
 exact K (R ((AZ) (W1 hr)))
end Go.Proofs.YteefempppabmkacGreat

