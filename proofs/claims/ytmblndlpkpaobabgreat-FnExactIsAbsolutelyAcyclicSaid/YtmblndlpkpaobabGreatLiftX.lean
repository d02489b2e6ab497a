/- What the functions of the law compute, and that they do; each lemma bears its conditions in its statement. -/
import Derived.Test.YtmblndlpkpaobabGreatLift
set_option linter.unusedVariables false
set_option linter.unusedSimpArgs false
set_option linter.ambiguousOpen false
set_option linter.unusedSectionVars false
set_option linter.unnecessarySimpa false
set_option linter.unusedVariables false
set_option linter.unusedSimpArgs false
set_option maxRecDepth 100000
set_option maxHeartbeats 4000000
noncomputable section
namespace Go.Proofs.YtmblndlpkpaobabGreat
open Go Go.E
open Go.E.Rep (rd)
open Go.E.Sep (own)
open Go.E.Sz (szd)
variable {F0:Nat→Prop}{w0:World}{M:List Nat}
theorem ag25:aggT Tryz.prog 25=some true:=by kernel_rfl
theorem k1w:aggT Tryz.prog 109=some true:=by kernel_rfl
theorem j4V:aggT Tryz.prog 112=some true:=by kernel_rfl
theorem sz25:szT Tryz.prog 25=some 2:=by kernel_rfl
theorem k1x:szT Tryz.prog 109=some 2:=by kernel_rfl
theorem j4W:szT Tryz.prog 112=some 7:=by kernel_rfl
theorem by65:byT Tryz.prog 65=some 112:=by kernel_rfl
theorem by69:byT Tryz.prog 69=some 40:=by kernel_rfl
theorem k3r:byT Tryz.prog 127=some 112:=by kernel_rfl
theorem k3s:byT Tryz.prog 132=some 208:=by kernel_rfl
theorem ze31:q6E Tryz.prog 31=some [.slice none 0 0,.slice none 0 0]:=by kernel_rfl
theorem ok4:q2A Tryz.prog 4=true:=by kernel_rfl
theorem ok5:q2A Tryz.prog 5=true:=by kernel_rfl
theorem ok6:q2A Tryz.prog 6=true:=by kernel_rfl
theorem ok7:q2A Tryz.prog 7=true:=by kernel_rfl
theorem ok8:q2A Tryz.prog 8=true:=by kernel_rfl
theorem ok9:q2A Tryz.prog 9=true:=by kernel_rfl
theorem ok10:q2A Tryz.prog 10=true:=by kernel_rfl
theorem ok13:q2A Tryz.prog 13=true:=by kernel_rfl
theorem ok14:q2A Tryz.prog 14=true:=by kernel_rfl
theorem ok17:q2A Tryz.prog 17=true:=by kernel_rfl
theorem ok18:q2A Tryz.prog 18=true:=by kernel_rfl
theorem ok19:q2A Tryz.prog 19=true:=by kernel_rfl
theorem ok20:q2A Tryz.prog 20=true:=by kernel_rfl
theorem ok26:q2A Tryz.prog 26=true:=by kernel_rfl
theorem ok27:q2A Tryz.prog 27=true:=by kernel_rfl
theorem ok32:q2A Tryz.prog 32=true:=by kernel_rfl
theorem ok33:q2A Tryz.prog 33=true:=by kernel_rfl
theorem ok34:q2A Tryz.prog 34=true:=by kernel_rfl
theorem ok35:q2A Tryz.prog 35=true:=by kernel_rfl
theorem ok36:q2A Tryz.prog 36=true:=by kernel_rfl
theorem ok37:q2A Tryz.prog 37=true:=by kernel_rfl
theorem ok55:q2A Tryz.prog 55=true:=by kernel_rfl
theorem ok56:q2A Tryz.prog 56=true:=by kernel_rfl
theorem ok57:q2A Tryz.prog 57=true:=by kernel_rfl
theorem ok58:q2A Tryz.prog 58=true:=by kernel_rfl
theorem ok70:q2A Tryz.prog 70=true:=by kernel_rfl
theorem ok71:q2A Tryz.prog 71=true:=by kernel_rfl
theorem ok72:q2A Tryz.prog 72=true:=by kernel_rfl
theorem ok73:q2A Tryz.prog 73=true:=by kernel_rfl
theorem ok74:q2A Tryz.prog 74=true:=by kernel_rfl
theorem ok75:q2A Tryz.prog 75=true:=by kernel_rfl
theorem ok76:q2A Tryz.prog 76=true:=by kernel_rfl
theorem ok91:q2A Tryz.prog 91=true:=by kernel_rfl
theorem ok92:q2A Tryz.prog 92=true:=by kernel_rfl
theorem ok93:q2A Tryz.prog 93=true:=by kernel_rfl
theorem k3t:q2A Tryz.prog 119=true:=by kernel_rfl
theorem k3u:q2A Tryz.prog 120=true:=by kernel_rfl
theorem k3v:q2A Tryz.prog 121=true:=by kernel_rfl
theorem k3w:q2A Tryz.prog 122=true:=by kernel_rfl
theorem j7M:q2A Tryz.prog 123=true:=by kernel_rfl
theorem k3x:q2A Tryz.prog 137=true:=by kernel_rfl
theorem j7N:q2A Tryz.prog 138=true:=by kernel_rfl
theorem k3y:q2A Tryz.prog 166=true:=by kernel_rfl
theorem j7O:q2A Tryz.prog 167=true:=by kernel_rfl
theorem k3z:q2A Tryz.prog 168=true:=by kernel_rfl
theorem k3A:q2A Tryz.prog 179=true:=by kernel_rfl
theorem k3B:q2A Tryz.prog 196=true:=by kernel_rfl
def z2c (a0:Attribute)(a1:Int):Option Int:=grd (I64 (a1 - (a0.Name.size:Int))) <| if (a1 - (a0.Name.size:Int)) < 0 then some (-1) else some (a1 - (a0.Name.size:Int))
theorem z8S {a0}{a1 r}(hr:z2c a0 a1=some r){ca0}(ha0:rd F0 w0 a0 ca0)(ha1:I64 a1):RT 74 #[ag ca0,.int .i64 a1] w0 fun v w=>v = .int .i64 r∧I64 r:=by
 have H:=(HL.start F0 w0).argR ha0
 obtain⟨rfl,hS1,hI1,hI2,H⟩:=q5Y H 0
 refine (En Tryz.func74) ?_
 refine R ((BX H) fun b1 w1 H=>(A) (Z (R ((V) ((D 0) ((L H 0) ?_))))))
 refine q0b rfl rfl (q0y rfl Tryz.underlying9 rfl) ?_
 refine gg hr fun hg1 hr=>(BN (Bin.sub hg1)) ((A) (Z (Y (R ((V) ((BZ) (iD hr (fun _ hr=>?_) fun _ hr=>?_)))))))
 ·exact R ((AZ) (W1 hr))
 exact K (R ((V) ((AZ) (W1 hr))))
def z3v:Nat→Attribute→Int→Option (Int ⊕ Int):=fun k1 x1 s1=>(z2c x1 s1).bind fun y1=>if y1 < 0 then some (.inr (-1)) else some (.inl y1)
def z1p (a0:(List Attribute))(a1:Int):Option Int:=grd (I64 (a1 - (a0.length:Int))) <| if (a1 - (a0.length:Int)) < 0 then some (-1) else (q2I z3v 0 a0 (a1 - (a0.length:Int))).bind <| onr (fun r1=>some r1) fun s1=>some s1
theorem z7O {a0}{a1 r}(hr:z1p a0 a1=some r){z0}(ha0:rdS F0 w0 a0 z0)(ha1:I64 a1):RT 34 #[z0,.int .i64 a1] w0 fun v w=>v = .int .i64 r∧I64 r:=by
 obtain⟨A0',n0',c0',rfl⟩:=ha0.form3
 have H:=(HL.start F0 w0).argS ha0
 refine (En Tryz.func34) ?_
 refine R ((A) (Z (R ((V) ((V) ((NI H 0) fun hl1=>?_))))))
 refine gg hr fun hg1 hr=>(BN (Bin.sub hg1)) ((A) (Z (Y (R ((V) ((BZ) (iD hr (fun _ hr=>?_) fun _ hr=>?_)))))))
 ·exact R ((AZ) (W1 hr))
 refine K (Y (R ((AZ) ?_)))
 refine bb hr fun q1 hq1 hr=>?_
 refine (lF hq1 (fun k1 s1 _=>[(0,.slice A0' n0' c0'),(1,.int .i64 s1),(5,zN k1)]) (fun s1 _ w=>I64 s1∧HL F0 [] w0 w [.S a0 (.slice A0' n0' c0')] []) ()) ?_
 rintro k1 s1 _ σ w1 hk1 hq1 ⟨hI1,H⟩
 refine Y (R ((V) ((V) ((NN (rs H 0)) ((BZ) ?_)))))
 refine (iF hq1 hr (fun hk2 x1 z1 hx1 hb1 hs1 ht1=>?_) fun hr=>?_)
 ·refine K (Y ?_)
  refine Bk (R ((V) ((V) ?_)))
  obtain⟨b1,ob1,cb1,hvb1,hS1,hI2,hI3,H⟩:=q4L H 0 hx1
  refine (J 4 hvb1 hx1) ((LA H 1) ((V) ?_))
  refine bb hb1 fun y1 hy1 hb1=>?_
  refine (CA ok74 (z8S hy1 (F0:=nF) ⟨rfl,hS1,hI2,hI3⟩ hI1)) (cF' H fun w2 hI4 H=>(A) (Z (R ((V) ((BZ) (iD hb1 (fun _ hb1=>?_) fun _ hb1=>?_))))))
  ·exact R ((AZ) (W2 hb1 ht1 hr))
  exact K (X ((V) ((AN hk2 hl1) ((A) (Z (I2 hb1 hs1 ⟨k1+1,y1,()⟩))))))
 exact CE (R ((V) ((AZ) (W1 hr))))
def z5u (a0:Symbol)(a1:Int):Option Int:=grd (I64 (a1 - (a0.Name.size:Int))) <| if (a1 - (a0.Name.size:Int)) < 0 then some (-1) else (z1p a0.Attributes (a1 - (a0.Name.size:Int))).bind fun y1=>if y1 < 0 then some (-1) else some y1
theorem j1Y {a0}{a1 r}(hr:z5u a0 a1=some r){ca0}(ha0:rd F0 w0 a0 ca0)(ha1:I64 a1):RT 19 #[ag ca0,.int .i64 a1] w0 fun v w=>v = .int .i64 r∧I64 r:=by
 have H:=(HL.start F0 w0).argR ha0
 obtain⟨A1,n1,c1,rfl,hS1,H⟩:=q6T H 0
 refine (En Tryz.func19) ?_
 refine R ((BX H) fun b1 w1 H=>(A) (Z (R ((V) ((D 0) ((L H 0) ?_))))))
 refine q0b rfl rfl (q0y rfl Tryz.underlying9 rfl) ?_
 refine gg hr fun hg1 hr=>(BN (Bin.sub hg1)) ((A) (Z (Y (R ((V) ((BZ) (iD hr (fun _ hr=>?_) fun _ hr=>?_)))))))
 ·exact R ((AZ) (W1 hr))
 refine K (R ((D 1) ((L H 0) ((V) ?_))))
 refine bb hr fun y1 hy1 hr=>?_
 refine (CA ok34 (z7O hy1 (rs H 1) hg1)) (cF' H fun w2 hI1 H=>(A) (Z (Y (R ((V) ((BZ) (iD hr (fun _ hr=>?_) fun _ hr=>?_)))))))
 ·exact R ((AZ) (W1 hr))
 exact K (R ((V) ((AZ) (W1 hr))))
def z6k:Nat→Symbol→Int→Option (Int ⊕ Int):=fun k1 x1 s1=>(z5u x1 s1).bind fun y1=>if y1 < 0 then some (.inr (-1)) else some (.inl y1)
def z4b (a0:(List Symbol))(a1:Int):Option Int:=grd (I64 (a1 - (a0.length:Int))) <| if (a1 - (a0.length:Int)) < 0 then some (-1) else (q2I z6k 0 a0 (a1 - (a0.length:Int))).bind <| onr (fun r1=>some r1) fun s1=>some s1
theorem j0W {a0}{a1 r}(hr:z4b a0 a1=some r){z0}(ha0:rdS F0 w0 a0 z0)(ha1:I64 a1):RT 9 #[z0,.int .i64 a1] w0 fun v w=>v = .int .i64 r∧I64 r:=by
 obtain⟨A0',n0',c0',rfl⟩:=ha0.form3
 have H:=(HL.start F0 w0).argS ha0
 refine (En Tryz.func9) ?_
 refine R ((A) (Z (R ((V) ((V) ((NI H 0) fun hl1=>?_))))))
 refine gg hr fun hg1 hr=>(BN (Bin.sub hg1)) ((A) (Z (Y (R ((V) ((BZ) (iD hr (fun _ hr=>?_) fun _ hr=>?_)))))))
 ·exact R ((AZ) (W1 hr))
 refine K (Y (R ((AZ) ?_)))
 refine bb hr fun q1 hq1 hr=>?_
 refine (lF hq1 (fun k1 s1 _=>[(0,.slice A0' n0' c0'),(1,.int .i64 s1),(5,zN k1)]) (fun s1 _ w=>I64 s1∧HL F0 [] w0 w [.S a0 (.slice A0' n0' c0')] []) ()) ?_
 rintro k1 s1 _ σ w1 hk1 hq1 ⟨hI1,H⟩
 refine Y (R ((V) ((V) ((NN (rs H 0)) ((BZ) ?_)))))
 refine (iF hq1 hr (fun hk2 x1 z1 hx1 hb1 hs1 ht1=>?_) fun hr=>?_)
 ·refine K (Y ?_)
  refine Bk (R ((V) ((V) ?_)))
  obtain⟨b1,ob1,cb1,A1,n1,c1,hvb1,hS1,H⟩:=q4B H 0 hx1
  refine (J 2 hvb1 hx1) ((LA H 1) ((V) ?_))
  refine bb hb1 fun y1 hy1 hb1=>?_
  refine (CA ok19 (j1Y hy1 ⟨_,rfl,hS1,(rs H 3)⟩ hI1)) (cF' H fun w2 hI2 H=>(A) (Z (R ((V) ((BZ) (iD hb1 (fun _ hb1=>?_) fun _ hb1=>?_))))))
  ·exact R ((AZ) (W2 hb1 ht1 hr))
  exact K (X ((V) ((AN hk2 hl1) ((A) (Z (I2 hb1 hs1 ⟨k1+1,y1,()⟩))))))
 exact CE (R ((V) ((AZ) (W1 hr))))
def z3i:Nat→ByteArray→Int→Option (Int ⊕ Int):=fun k1 x1 s1=>grd (I64 (s1 - (x1.size:Int))) <| if (s1 - (x1.size:Int)) < 0 then some (.inr (-1)) else some (.inl (s1 - (x1.size:Int)))
def z4c (a0:(List ByteArray))(a1:Int):Option Int:=grd (I64 (a1 - (a0.length:Int))) <| if (a1 - (a0.length:Int)) < 0 then some (-1) else (q2I z3i 0 a0 (a1 - (a0.length:Int))).bind <| onr (fun r1=>some r1) fun s1=>some s1
theorem j0X {a0}{a1 r}(hr:z4c a0 a1=some r){z0}(ha0:rdS F0 w0 a0 z0)(ha1:I64 a1):RT 35 #[z0,.int .i64 a1] w0 fun v w=>v = .int .i64 r∧I64 r:=by
 obtain⟨A0',n0',c0',rfl⟩:=ha0.form3
 have H:=(HL.start F0 w0).argS ha0
 refine (En Tryz.func35) ?_
 refine R ((A) (Z (R ((V) ((V) ((NI H 0) fun hl1=>?_))))))
 refine gg hr fun hg1 hr=>(BN (Bin.sub hg1)) ((A) (Z (Y (R ((V) ((BZ) (iD hr (fun _ hr=>?_) fun _ hr=>?_)))))))
 ·exact R ((AZ) (W1 hr))
 refine K (Y (R ((AZ) ?_)))
 refine bb hr fun q1 hq1 hr=>?_
 refine (lF hq1 (fun k1 s1 _=>[(0,.slice A0' n0' c0'),(1,.int .i64 s1),(5,zN k1)]) (fun s1 _ w=>I64 s1∧HL F0 [] w0 w [.S a0 (.slice A0' n0' c0')] []) ()) ?_
 rintro k1 s1 _ σ w1 hk1 hq1 ⟨hI1,H⟩
 refine Y (R ((V) ((V) ((NN (rs H 0)) ((BZ) ?_)))))
 refine (iF hq1 hr (fun hk2 x1 z1 hx1 hb1 hs1 ht1=>?_) fun hr=>?_)
 ·refine K (Y ?_)
  refine Bk (R ((V) ((V) ((V) ?_))))
  obtain⟨b1,ob1,cb1,hvb1,hS1,H⟩:=q8q H 0 hx1
  refine (J 1 hvb1 hx1) ((L0 H 1) ?_)
  refine q0b rfl rfl (q0y rfl Tryz.underlying9 rfl) ?_
  refine gg hb1 fun hg2 hb1=>(BN (Bin.sub hg2)) ((A) (Z (R ((V) ((BZ) (iD hb1 (fun _ hb1=>?_) fun _ hb1=>?_))))))
  ·exact R ((AZ) (W2 hb1 ht1 hr))
  exact K (X ((V) ((AN hk2 hl1) ((A) (Z (I2 hb1 hs1 ⟨k1+1,(s1 - (x1.size:Int)),()⟩))))))
 exact CE (R ((V) ((AZ) (W1 hr))))
def z1q (a0:Occurrence)(a1:Int):Option Int:=grd (I64 (a1 - (a0.Name.size:Int))) <| if (a1 - (a0.Name.size:Int)) < 0 then some (-1) else some (a1 - (a0.Name.size:Int))
theorem z7P {a0}{a1 r}(hr:z1q a0 a1=some r){ca0}(ha0:rd F0 w0 a0 ca0)(ha1:I64 a1):RT 122 #[ag ca0,.int .i64 a1] w0 fun v w=>v = .int .i64 r∧I64 r:=by
 have H:=(HL.start F0 w0).argR ha0
 obtain⟨rfl,hI1,hS1,H⟩:=q2R H 0
 refine (En Tryz.func122) ?_
 refine R ((BX H) fun b1 w1 H=>(A) (Z (R ((V) ((D 1) ((L H 0) ?_))))))
 refine q0b rfl rfl (q0y rfl Tryz.underlying9 rfl) ?_
 refine gg hr fun hg1 hr=>(BN (Bin.sub hg1)) ((A) (Z (Y (R ((V) ((BZ) (iD hr (fun _ hr=>?_) fun _ hr=>?_)))))))
 ·exact R ((AZ) (W1 hr))
 exact K (R ((V) ((AZ) (W1 hr))))
def z8T (rec_wszExpr:Expr→Int→Option Int):Nat→Expr→Int→Option (Int ⊕ Int):=fun k1 x1 s1=>(rec_wszExpr x1 s1).bind fun y1=>if y1 < 0 then some (.inr (-1)) else some (.inl y1)
def j0d (rec_wszExpr:Expr→Int→Option Int)(a0:(List Expr))(a1:Int):Option Int:=grd (I64 (a1 - (a0.length:Int))) <| if (a1 - (a0.length:Int)) < 0 then some (-1) else (q2I (z8T rec_wszExpr) 0 a0 (a1 - (a0.length:Int))).bind <| onr (fun r1=>some r1) fun s1=>some s1
theorem j2X {rec_wszExpr:Expr→Int→Option Int}(ih_wszExpr:∀ {a0:Expr} {a1 r:Int},rec_wszExpr a0 a1=some r→∀ {F0:Nat→Prop} {w0:World} {ca0} (ha0:rd F0 w0 a0 ca0) (ha1:I64 a1),RT 123 #[ag ca0,.int .i64 a1] w0 fun v w=>v = .int .i64 r∧I64 r){a0}{a1 r}(hr:j0d rec_wszExpr a0 a1=some r){z0}(ha0:rdS F0 w0 a0 z0)(ha1:I64 a1):RT 168 #[z0,.int .i64 a1] w0 fun v w=>v = .int .i64 r∧I64 r:=by
 obtain⟨A0',n0',c0',rfl⟩:=ha0.form3
 have H:=(HL.start F0 w0).argS ha0
 refine (En Tryz.func168) ?_
 refine R ((A) (Z (R ((V) ((V) ((NI H 0) fun hl1=>?_))))))
 refine gg hr fun hg1 hr=>(BN (Bin.sub hg1)) ((A) (Z (Y (R ((V) ((BZ) (iD hr (fun _ hr=>?_) fun _ hr=>?_)))))))
 ·exact R ((AZ) (W1 hr))
 refine K (Y (R ((AZ) ?_)))
 refine bb hr fun q1 hq1 hr=>?_
 refine (lF hq1 (fun k1 s1 _=>[(0,.slice A0' n0' c0'),(1,.int .i64 s1),(5,zN k1)]) (fun s1 _ w=>I64 s1∧HL F0 [] w0 w [.S a0 (.slice A0' n0' c0')] []) ()) ?_
 rintro k1 s1 _ σ w1 hk1 hq1 ⟨hI1,H⟩
 refine Y (R ((V) ((V) ((NN (rs H 0)) ((BZ) ?_)))))
 refine (iF hq1 hr (fun hk2 x1 z1 hx1 hb1 hs1 ht1=>?_) fun hr=>?_)
 ·refine K (Y ?_)
  refine Bk (R ((V) ((V) ?_)))
  obtain⟨b1,ob1,cb1,A1,n1,c1,hvb1,hI2,hI3,hI4,hI5,hS1,hS2,H⟩:=q4G H 0 hx1
  refine (J 7 hvb1 hx1) ((LA H 1) ((V) ?_))
  refine bb hb1 fun y1 hy1 hb1=>?_
  refine (CA j7M (ih_wszExpr hy1 (q2F.2 ⟨_,rfl,hI2,hI3,hI4,hI5,hS1,hS2,(rs H 3)⟩) hI1)) (cF' H fun w2 hI6 H=>(A) (Z (R ((V) ((BZ) (iD hb1 (fun _ hb1=>?_) fun _ hb1=>?_))))))
  ·exact R ((AZ) (W2 hb1 ht1 hr))
  exact K (X ((V) ((AN hk2 hl1) ((A) (Z (I2 hb1 hs1 ⟨k1+1,y1,()⟩))))))
 exact CE (R ((V) ((AZ) (W1 hr))))
def z6l (rec_wszExpr:Expr→Int→Option Int)(a0:Expr)(a1:Int):Option Int:=grd (I64 (a1 - (a0.Symbol.size:Int))) <| if (a1 - (a0.Symbol.size:Int)) < 0 then some (-1) else grd (I64 ((a1 - (a0.Symbol.size:Int)) - (a0.Name.size:Int))) <| if ((a1 - (a0.Symbol.size:Int)) - (a0.Name.size:Int)) < 0 then some (-1) else (j0d rec_wszExpr a0.Args ((a1 - (a0.Symbol.size:Int)) - (a0.Name.size:Int))).bind fun y1=>if y1 < 0 then some (-1) else some y1
theorem j2Y {rec_wszExpr:Expr→Int→Option Int}(ih_wszExpr:∀ {a0:Expr} {a1 r:Int},rec_wszExpr a0 a1=some r→∀ {F0:Nat→Prop} {w0:World} {ca0} (ha0:rd F0 w0 a0 ca0) (ha1:I64 a1),RT 123 #[ag ca0,.int .i64 a1] w0 fun v w=>v = .int .i64 r∧I64 r){a0}{a1 r}(hr:z6l rec_wszExpr a0 a1=some r){ca0}(ha0:rd F0 w0 a0 ca0)(ha1:I64 a1):RT 123 #[ag ca0,.int .i64 a1] w0 fun v w=>v = .int .i64 r∧I64 r:=by
 have H:=(HL.start F0 w0).argR ha0
 obtain⟨A1,n1,c1,rfl,hI1,hI2,hI3,hI4,hS1,hS2,H⟩:=q3X H 0
 refine (En Tryz.func123) ?_
 refine R ((BX H) fun b1 w1 H=>(A) (Z (R ((V) ((D 4) ((L H 0) ?_))))))
 refine q0b rfl rfl (q0y rfl Tryz.underlying9 rfl) ?_
 refine gg hr fun hg1 hr=>(BN (Bin.sub hg1)) ((A) (Z (Y (R ((V) ((BZ) (iD hr (fun _ hr=>?_) fun _ hr=>?_)))))))
 ·exact R ((AZ) (W1 hr))
 refine K (R ((V) ((D 5) ((L H 0) ?_))))
 refine q0b rfl rfl (q0y rfl Tryz.underlying9 rfl) ?_
 refine gg hr fun hg2 hr=>(BN (Bin.sub hg2)) ((A) (Z (Y (R ((V) ((BZ) (iD hr (fun _ hr=>?_) fun _ hr=>?_)))))))
 ·exact R ((AZ) (W1 hr))
 refine K (R ((D 6) ((L H 0) ((V) ?_))))
 refine bb hr fun y1 hy1 hr=>?_
 refine (CA k3z (j2X ih_wszExpr hy1 (rs H 1) hg2)) (cF' H fun w2 hI5 H=>(AZ) (Y (Y ?_)))
 refine q0e [(1,.int .i64 y1)] ⟨rfl,trivial⟩ fun σ=>?_
 have H:HL F0 [] w0 w2 [.R a0 (q2T a0 A1 n1 c1),.S a0.Args (.slice A1 n1 c1)] [.B b1 112 (q2T a0 A1 n1 c1)]:=H
 refine X ((V) ((BZ) (iD hr (fun _ hr=>?_) fun _ hr=>?_)))
 ·exact R ((AZ) (W1 hr))
 exact K (R ((V) ((AZ) (W1 hr))))
def z2D:Nat→Expr→Int→Option Int
  | 0,_,_=>none
  | n+1,a0,a1=>z6l (z2D n) a0 a1
def z4d (a0:Expr)(a1:Int):Option Int:=recO fun n=>z2D n a0 a1
theorem j2Z (n:Nat):∀ {a0:Expr} {a1 r:Int},z2D n a0 a1=some r→∀ {F0:Nat→Prop} {w0:World} {ca0} (ha0:rd F0 w0 a0 ca0) (ha1:I64 a1),RT 123 #[ag ca0,.int .i64 a1] w0 fun v w=>v = .int .i64 r∧I64 r:=by
 induction n with
 | zero=>intro a0 a1 r hr; exact nomatch (show (none:Option Int)=some r from hr)
 | succ n ih=>intro a0 a1 r hr; exact j2Y ih hr
theorem z6Q {a0}{a1 r}(hr:z4d a0 a1=some r){ca0}(ha0:rd F0 w0 a0 ca0)(ha1:I64 a1):RT 123 #[ag ca0,.int .i64 a1] w0 fun v w=>v = .int .i64 r∧I64 r:=by
 obtain⟨n,hn⟩:=q5m hr
 exact j2Z n hn ha0 ha1
def z3j (a0:Equation)(a1:Int):Option Int:=(z1q a0.At a1).bind fun y1=>if y1 < 0 then some (-1) else (z4d a0.Expr y1).bind fun y2=>if y2 < 0 then some (-1) else some y2
theorem z9P {a0}{a1 r}(hr:z3j a0 a1=some r){ca0}(ha0:rd F0 w0 a0 ca0)(ha1:I64 a1):RT 75 #[ag ca0,.int .i64 a1] w0 fun v w=>v = .int .i64 r∧I64 r:=by
 have H:=(HL.start F0 w0).argR ha0
 obtain⟨A1,n1,c1,rfl,hI1,hS1,hI2,hI3,hI4,hI5,hS2,hS3,H⟩:=q8r H 0
 refine (En Tryz.func75) ?_
 refine R ((BX H) fun b1 w1 H=>(A) (Z (R ((D 0) ?_))))
 refine q0b rfl rfl (q0c rfl k1w k1x rfl (Blk.part (rb H 0) 0 2) rfl) ((V) ?_)
 refine bb hr fun y1 hy1 hr=>?_
 refine (CA k3w (z7P hy1 (F0:=nF) ⟨rfl,hI1,hS1⟩ ha1)) (cF' H fun w2 hI6 H=>(A) (Z (Y (R ((V) ((BZ) (iD hr (fun _ hr=>?_) fun _ hr=>?_)))))))
 ·exact R ((AZ) (W1 hr))
 refine K (R ((D 2) ?_))
 refine q0b rfl rfl (q0c rfl j4V j4W rfl (Blk.part (rb H 0) 2 7) rfl) ((V) ?_)
 refine bb hr fun y2 hy2 hr=>?_
 refine (CA j7M (z6Q hy2 (q2F.2 ⟨_,rfl,hI2,hI3,hI4,hI5,hS2,hS3,(rs H 1)⟩) hI6)) (cF' H fun w3 hI7 H=>(A) (Z (Y (R ((V) ((BZ) (iD hr (fun _ hr=>?_) fun _ hr=>?_)))))))
 ·exact R ((AZ) (W1 hr))
 exact K (R ((V) ((AZ) (W1 hr))))
def z4e:Nat→Equation→Int→Option (Int ⊕ Int):=fun k1 x1 s1=>(z3j x1 s1).bind fun y1=>if y1 < 0 then some (.inr (-1)) else some (.inl y1)
def z2d (a0:(List Equation))(a1:Int):Option Int:=grd (I64 (a1 - (a0.length:Int))) <| if (a1 - (a0.length:Int)) < 0 then some (-1) else (q2I z4e 0 a0 (a1 - (a0.length:Int))).bind <| onr (fun r1=>some r1) fun s1=>some s1
theorem z8U {a0}{a1 r}(hr:z2d a0 a1=some r){z0}(ha0:rdS F0 w0 a0 z0)(ha1:I64 a1):RT 36 #[z0,.int .i64 a1] w0 fun v w=>v = .int .i64 r∧I64 r:=by
 obtain⟨A0',n0',c0',rfl⟩:=ha0.form3
 have H:=(HL.start F0 w0).argS ha0
 refine (En Tryz.func36) ?_
 refine R ((A) (Z (R ((V) ((V) ((NI H 0) fun hl1=>?_))))))
 refine gg hr fun hg1 hr=>(BN (Bin.sub hg1)) ((A) (Z (Y (R ((V) ((BZ) (iD hr (fun _ hr=>?_) fun _ hr=>?_)))))))
 ·exact R ((AZ) (W1 hr))
 refine K (Y (R ((AZ) ?_)))
 refine bb hr fun q1 hq1 hr=>?_
 refine (lF hq1 (fun k1 s1 _=>[(0,.slice A0' n0' c0'),(1,.int .i64 s1),(5,zN k1)]) (fun s1 _ w=>I64 s1∧HL F0 [] w0 w [.S a0 (.slice A0' n0' c0')] []) ()) ?_
 rintro k1 s1 _ σ w1 hk1 hq1 ⟨hI1,H⟩
 refine Y (R ((V) ((V) ((NN (rs H 0)) ((BZ) ?_)))))
 refine (iF hq1 hr (fun hk2 x1 z1 hx1 hb1 hs1 ht1=>?_) fun hr=>?_)
 ·refine K (Y ?_)
  refine Bk (R ((V) ((V) ?_)))
  obtain⟨b1,ob1,cb1,A1,n1,c1,hvb1,hI2,hS1,hI3,hI4,hI5,hI6,hS2,hS3,H⟩:=q4k H 0 hx1
  refine (J 9 hvb1 hx1) ((LA H 1) ((V) ?_))
  refine bb hb1 fun y1 hy1 hb1=>?_
  refine (CA ok75 (z9P hy1 ⟨_,rfl,hI2,hS1,hI3,hI4,hI5,hI6,hS2,hS3,(rs H 3)⟩ hI1)) (cF' H fun w2 hI7 H=>(A) (Z (R ((V) ((BZ) (iD hb1 (fun _ hb1=>?_) fun _ hb1=>?_))))))
  ·exact R ((AZ) (W2 hb1 ht1 hr))
  exact K (X ((V) ((AN hk2 hl1) ((A) (Z (I2 hb1 hs1 ⟨k1+1,y1,()⟩))))))
 exact CE (R ((V) ((AZ) (W1 hr))))
def q9D (a0:Contribution)(a1:Int):Option Int:=grd (I64 (a1 - (a0.Symbol.size:Int))) <| if (a1 - (a0.Symbol.size:Int)) < 0 then some (-1) else grd (I64 ((a1 - (a0.Symbol.size:Int)) - (a0.Name.size:Int))) <| if ((a1 - (a0.Symbol.size:Int)) - (a0.Name.size:Int)) < 0 then some (-1) else (z4d a0.Target ((a1 - (a0.Symbol.size:Int)) - (a0.Name.size:Int))).bind fun y1=>if y1 < 0 then some (-1) else (z4d a0.Value y1).bind fun y2=>if y2 < 0 then some (-1) else some y2
theorem z6m {a0}{a1 r}(hr:q9D a0 a1=some r){ca0}(ha0:rd F0 w0 a0 ca0)(ha1:I64 a1):RT 76 #[ag ca0,.int .i64 a1] w0 fun v w=>v = .int .i64 r∧I64 r:=by
 have H:=(HL.start F0 w0).argR ha0
 obtain⟨A1,n1,c1,A2,n2,c2,rfl,hS1,hS2,hI1,hI2,hI3,hI4,hS3,hS4,hI5,hI6,hI7,hI8,hS5,hS6,H⟩:=q8D H 0
 let d1:=q4K a0 A1 n1 c1 A2 n2 c2
 refine (En Tryz.func76) ?_
 refine R ((BX H) fun b1 w1 H=>(A) (Z (R ((V) ((D 0) ((L H 0) ?_))))))
 refine q0b rfl rfl (q0y rfl Tryz.underlying9 rfl) ?_
 refine gg hr fun hg1 hr=>(BN (Bin.sub hg1)) ((A) (Z (Y (R ((V) ((BZ) (iD hr (fun _ hr=>?_) fun _ hr=>?_)))))))
 ·exact R ((AZ) (W1 hr))
 refine K (R ((V) ((D 1) ((L H 0) ?_))))
 refine q0b rfl rfl (q0y rfl Tryz.underlying9 rfl) ?_
 refine gg hr fun hg2 hr=>(BN (Bin.sub hg2)) ((A) (Z (Y (R ((V) ((BZ) (iD hr (fun _ hr=>?_) fun _ hr=>?_)))))))
 ·exact R ((AZ) (W1 hr))
 refine K (R ((D 2) ?_))
 refine q0b rfl rfl (q0c rfl j4V j4W rfl (Blk.part (rb H 0) 2 7) rfl) ((V) ?_)
 refine bb hr fun y1 hy1 hr=>?_
 refine (CA j7M (z6Q hy1 (q2F.2 ⟨_,rfl,hI1,hI2,hI3,hI4,hS3,hS4,(rs H 1)⟩) hg2)) (cF' H fun w2 hI9 H=>(AZ) (Y (Y ?_)))
 refine q0e [(1,.int .i64 y1),(2,pB b1)] ⟨rfl,rfl,trivial⟩ fun σ=>?_
 have H:HL F0 [] w0 w2 [.R a0 d1,.S a0.Target.Args (.slice A1 n1 c1),.S a0.Value.Args (.slice A2 n2 c2)] [.B b1 117 d1]:=H
 refine X ((V) ((BZ) (iD hr (fun _ hr=>?_) fun _ hr=>?_)))
 ·exact R ((AZ) (W1 hr))
 refine K (R ((D 9) ?_))
 refine q0b rfl rfl (q0c rfl j4V j4W rfl (Blk.part (rb H 0) 9 7) rfl) ((V) ?_)
 refine bb hr fun y2 hy2 hr=>?_
 refine (CA j7M (z6Q hy2 (q2F.2 ⟨_,rfl,hI5,hI6,hI7,hI8,hS5,hS6,(rs H 2)⟩) hI9)) (cF' H fun w3 hI10 H=>(A) (Z (Y (R ((V) ((BZ) (iD hr (fun _ hr=>?_) fun _ hr=>?_)))))))
 ·exact R ((AZ) (W1 hr))
 exact K (R ((V) ((AZ) (W1 hr))))
def z1r:Nat→Contribution→Int→Option (Int ⊕ Int):=fun k1 x1 s1=>(q9D x1 s1).bind fun y1=>if y1 < 0 then some (.inr (-1)) else some (.inl y1)
def q8W (a0:(List Contribution))(a1:Int):Option Int:=grd (I64 (a1 - (a0.length:Int))) <| if (a1 - (a0.length:Int)) < 0 then some (-1) else (q2I z1r 0 a0 (a1 - (a0.length:Int))).bind <| onr (fun r1=>some r1) fun s1=>some s1
theorem z5v {a0}{a1 r}(hr:q8W a0 a1=some r){z0}(ha0:rdS F0 w0 a0 z0)(ha1:I64 a1):RT 37 #[z0,.int .i64 a1] w0 fun v w=>v = .int .i64 r∧I64 r:=by
 obtain⟨A0',n0',c0',rfl⟩:=ha0.form3
 have H:=(HL.start F0 w0).argS ha0
 refine (En Tryz.func37) ?_
 refine R ((A) (Z (R ((V) ((V) ((NI H 0) fun hl1=>?_))))))
 refine gg hr fun hg1 hr=>(BN (Bin.sub hg1)) ((A) (Z (Y (R ((V) ((BZ) (iD hr (fun _ hr=>?_) fun _ hr=>?_)))))))
 ·exact R ((AZ) (W1 hr))
 refine K (Y (R ((AZ) ?_)))
 refine bb hr fun q1 hq1 hr=>?_
 refine (lF hq1 (fun k1 s1 _=>[(0,.slice A0' n0' c0'),(1,.int .i64 s1),(5,zN k1)]) (fun s1 _ w=>I64 s1∧HL F0 [] w0 w [.S a0 (.slice A0' n0' c0')] []) ()) ?_
 rintro k1 s1 _ σ w1 hk1 hq1 ⟨hI1,H⟩
 refine Y (R ((V) ((V) ((NN (rs H 0)) ((BZ) ?_)))))
 refine (iF hq1 hr (fun hk2 x1 z1 hx1 hb1 hs1 ht1=>?_) fun hr=>?_)
 ·refine K (Y ?_)
  refine Bk (R ((V) ((V) ?_)))
  obtain⟨b1,ob1,cb1,A1,n1,c1,A2,n2,c2,hvb1,hS1,hS2,hI2,hI3,hI4,hI5,hS3,hS4,hI6,hI7,hI8,hI9,hS5,hS6,H⟩:=q4d H 0 hx1
  refine (J 16 hvb1 hx1) ((LA H 1) ((V) ?_))
  refine bb hb1 fun y1 hy1 hb1=>?_
  refine (CA ok76 (z6m hy1 ⟨_,_,rfl,hS1,hS2,hI2,hI3,hI4,hI5,hS3,hS4,hI6,hI7,hI8,hI9,hS5,hS6,(rs H 3),(rs H 4)⟩ hI1)) (cF' H fun w2 hI10 H=>(A) (Z (R ((V) ((BZ) (iD hb1 (fun _ hb1=>?_) fun _ hb1=>?_))))))
  ·exact R ((AZ) (W2 hb1 ht1 hr))
  exact K (X ((V) ((AN hk2 hl1) ((A) (Z (I2 hb1 hs1 ⟨k1+1,y1,()⟩))))))
 exact CE (R ((V) ((AZ) (W1 hr))))
def z8V (a0:Rule)(a1:Int):Option Int:=grd (I64 (a1 - (a0.Name.size:Int))) <| if (a1 - (a0.Name.size:Int)) < 0 then some (-1) else grd (I64 ((a1 - (a0.Name.size:Int)) - (a0.Left.size:Int))) <| if ((a1 - (a0.Name.size:Int)) - (a0.Left.size:Int)) < 0 then some (-1) else (z4c a0.Right ((a1 - (a0.Name.size:Int)) - (a0.Left.size:Int))).bind fun y1=>if y1 < 0 then some (-1) else (z2d a0.Equations y1).bind fun y2=>if y2 < 0 then some (-1) else (q8W a0.Contributions y2).bind fun y3=>if y3 < 0 then some (-1) else some y3
theorem j4X {a0}{a1 r}(hr:z8V a0 a1=some r){ca0}(ha0:rd F0 w0 a0 ca0)(ha1:I64 a1):RT 20 #[ag ca0,.int .i64 a1] w0 fun v w=>v = .int .i64 r∧I64 r:=by
 have H:=(HL.start F0 w0).argR ha0
 obtain⟨A1,n1,c1,A2,n2,c2,A3,n3,c3,rfl,hS1,hS2,H⟩:=q2U H 0
 let d1:=q3C a0 A1 n1 c1 A2 n2 c2 A3 n3 c3
 refine (En Tryz.func20) ?_
 refine R ((BX H) fun b1 w1 H=>(A) (Z (R ((V) ((D 0) ((L H 0) ?_))))))
 refine q0b rfl rfl (q0y rfl Tryz.underlying9 rfl) ?_
 refine gg hr fun hg1 hr=>(BN (Bin.sub hg1)) ((A) (Z (Y (R ((V) ((BZ) (iD hr (fun _ hr=>?_) fun _ hr=>?_)))))))
 ·exact R ((AZ) (W1 hr))
 refine K (R ((V) ((D 1) ((L H 0) ?_))))
 refine q0b rfl rfl (q0y rfl Tryz.underlying9 rfl) ?_
 refine gg hr fun hg2 hr=>(BN (Bin.sub hg2)) ((A) (Z (Y (R ((V) ((BZ) (iD hr (fun _ hr=>?_) fun _ hr=>?_)))))))
 ·exact R ((AZ) (W1 hr))
 refine K (R ((D 2) ((L H 0) ((V) ?_))))
 refine bb hr fun y1 hy1 hr=>?_
 refine (CA ok35 (j0X hy1 (rs H 1) hg2)) (cF' H fun w2 hI1 H=>(AZ) (Y (Y ?_)))
 refine q0e [(1,.int .i64 y1),(2,pB b1)] ⟨rfl,rfl,trivial⟩ fun σ=>?_
 have H:HL F0 [] w0 w2 [.R a0 d1,.S a0.Right (.slice A1 n1 c1),.S a0.Equations (.slice A2 n2 c2),.S a0.Contributions (.slice A3 n3 c3)] [.B b1 51 d1]:=H
 refine X ((V) ((BZ) (iD hr (fun _ hr=>?_) fun _ hr=>?_)))
 ·exact R ((AZ) (W1 hr))
 refine K (R ((D 4) ((L H 0) ((V) ?_))))
 refine bb hr fun y2 hy2 hr=>?_
 refine (CA ok36 (z8U hy2 (rs H 2) hI1)) (cF' H fun w3 hI2 H=>(A) (Z (Y (R ((V) ((BZ) (iD hr (fun _ hr=>?_) fun _ hr=>?_)))))))
 ·exact R ((AZ) (W1 hr))
 refine K (R ((D 5) ((L H 0) ((V) ?_))))
 refine bb hr fun y3 hy3 hr=>?_
 refine (CA ok37 (z5v hy3 (rs H 3) hI2)) (cF' H fun w4 hI3 H=>(A) (Z (Y (R ((V) ((BZ) (iD hr (fun _ hr=>?_) fun _ hr=>?_)))))))
 ·exact R ((AZ) (W1 hr))
 exact K (R ((V) ((AZ) (W1 hr))))
def z8W:Nat→Rule→Int→Option (Int ⊕ Int):=fun k1 x1 s1=>(z8V x1 s1).bind fun y1=>if y1 < 0 then some (.inr (-1)) else some (.inl y1)
def z6R (a0:(List Rule))(a1:Int):Option Int:=grd (I64 (a1 - (a0.length:Int))) <| if (a1 - (a0.length:Int)) < 0 then some (-1) else (q2I z8W 0 a0 (a1 - (a0.length:Int))).bind <| onr (fun r1=>some r1) fun s1=>some s1
theorem j3a {a0}{a1 r}(hr:z6R a0 a1=some r){z0}(ha0:rdS F0 w0 a0 z0)(ha1:I64 a1):RT 10 #[z0,.int .i64 a1] w0 fun v w=>v = .int .i64 r∧I64 r:=by
 obtain⟨A0',n0',c0',rfl⟩:=ha0.form3
 have H:=(HL.start F0 w0).argS ha0
 refine (En Tryz.func10) ?_
 refine R ((A) (Z (R ((V) ((V) ((NI H 0) fun hl1=>?_))))))
 refine gg hr fun hg1 hr=>(BN (Bin.sub hg1)) ((A) (Z (Y (R ((V) ((BZ) (iD hr (fun _ hr=>?_) fun _ hr=>?_)))))))
 ·exact R ((AZ) (W1 hr))
 refine K (Y (R ((AZ) ?_)))
 refine bb hr fun q1 hq1 hr=>?_
 refine (lF hq1 (fun k1 s1 _=>[(0,.slice A0' n0' c0'),(1,.int .i64 s1),(5,zN k1)]) (fun s1 _ w=>I64 s1∧HL F0 [] w0 w [.S a0 (.slice A0' n0' c0')] []) ()) ?_
 rintro k1 s1 _ σ w1 hk1 hq1 ⟨hI1,H⟩
 refine Y (R ((V) ((V) ((NN (rs H 0)) ((BZ) ?_)))))
 refine (iF hq1 hr (fun hk2 x1 z1 hx1 hb1 hs1 ht1=>?_) fun hr=>?_)
 ·refine K (Y ?_)
  refine Bk (R ((V) ((V) ?_)))
  obtain⟨b1,ob1,cb1,A1,n1,c1,A2,n2,c2,A3,n3,c3,hvb1,hS1,hS2,H⟩:=q6k H 0 hx1
  refine (J 6 hvb1 hx1) ((LA H 1) ((V) ?_))
  refine bb hb1 fun y1 hy1 hb1=>?_
  refine (CA ok20 (j4X hy1 ⟨_,_,_,rfl,hS1,hS2,(rs H 3),(rs H 4),(rs H 5)⟩ hI1)) (cF' H fun w2 hI2 H=>(A) (Z (R ((V) ((BZ) (iD hb1 (fun _ hb1=>?_) fun _ hb1=>?_))))))
  ·exact R ((AZ) (W2 hb1 ht1 hr))
  exact K (X ((V) ((AN hk2 hl1) ((A) (Z (I2 hb1 hs1 ⟨k1+1,y1,()⟩))))))
 exact CE (R ((V) ((AZ) (W1 hr))))
def z1S (a0:Grammar)(a1:Int):Option Int:=(z4b a0.Symbols a1).bind fun y1=>if y1 < 0 then some (-1) else (z6R a0.Rules y1).bind fun y2=>if y2 < 0 then some (-1) else some y2
theorem j0Y {a0}{a1 r}(hr:z1S a0 a1=some r){ca0}(ha0:rd F0 w0 a0 ca0)(ha1:I64 a1):RT 4 #[ag ca0,.int .i64 a1] w0 fun v w=>v = .int .i64 r∧I64 r:=by
 have H:=(HL.start F0 w0).argR ha0
 obtain⟨A1,n1,c1,A2,n2,c2,rfl,H⟩:=q2C H 0
 refine (En Tryz.func4) ?_
 refine R ((BX H) fun b1 w1 H=>(A) (Z (R ((D 0) ((L H 0) ((V) ?_))))))
 refine bb hr fun y1 hy1 hr=>?_
 refine (CA ok9 (j0W hy1 (rs H 1) ha1)) (cF' H fun w2 hI1 H=>(A) (Z (Y (R ((V) ((BZ) (iD hr (fun _ hr=>?_) fun _ hr=>?_)))))))
 ·exact R ((AZ) (W1 hr))
 refine K (R ((D 1) ((L H 0) ((V) ?_))))
 refine bb hr fun y2 hy2 hr=>?_
 refine (CA ok10 (j3a hy2 (rs H 2) hI1)) (cF' H fun w3 hI2 H=>(A) (Z (Y (R ((V) ((BZ) (iD hr (fun _ hr=>?_) fun _ hr=>?_)))))))
 ·exact R ((AZ) (W1 hr))
 exact K (R ((V) ((AZ) (W1 hr))))
def z2e (a0:Attribute):Option Attribute:=some a0
theorem z8X {a0 r}(hr:z2e a0=some r){ca0}(ha0:rd F0 w0 a0 ca0):RT 91 #[ag ca0] w0 fun v w=>v = .agg #[.string r.Name,.int .i64 r.Type_,.int .i64 r.Mode,.bool r.Circular]∧r.Name.size≤9223372036854775807∧I64 r.Type_∧I64 r.Mode:=by
 have H:=(HL.start F0 w0).argR ha0
 obtain⟨rfl,hS1,hI1,hI2,H⟩:=q5Y H 0
 refine (En Tryz.func91) ?_
 refine R ((BX H) fun b1 w1 H=>(AH q7T H) fun b2 w2 H=>Z (R ((AH q7T H) fun b3 w3 H=>Z (R ((D 0) ((L H 0) ((D 0) ((SB H 2) fun w4 H=>Z (R ((D 1) ((L H 0) ((D 1) ((SB H 2) fun w5 H=>Z (R ((D 2) ((L H 0) ((D 2) ((SB H 2) fun w6 H=>Z (R ((D 3) ((L H 0) ((D 3) ((SB H 2) fun w7 H=>Z (R ((LB H 2) ((SB H 1) fun w8 H=>Z (CR ?_)))))))))))))))))))))))))))
 obtain rfl:=sm hr
 exact⟨_,resC rfl z7z q9m rfl rfl (ab H 1) rfl,H.ext0,rfl,hS1,hI1,hI2⟩
def z7Q:Nat→Attribute→(List Attribute)→Option (List Attribute):=fun k1 x1 s1=>(z2e x1).bind fun y1=>(s1[k1]?).bind fun x2=>some (List.set s1 k1 y1)
def z1s (a0:(List Attribute)):Option (List Attribute):=grd (0≤(a0.length:Int)∧(a0.length:Int)*40≤281474976710656∧(a0.length:Int)≤9223372036854775807) <| (q2G z7Q 0 a0 (List.replicate a0.length (⟨(⟨#[]⟩:ByteArray),(0:Int),(0:Int),false⟩:Attribute))).bind fun s1=>some s1
theorem z7R {a0 r}(hr:z1s a0=some r){z0}(ha0:rdS F0 w0 a0 z0):RT 55 #[z0] w0 fun v w=>∃ A0 n0 c0,v=(.slice A0 n0 c0)∧HL F0 [] w0 w [] [.O 120 r (.slice A0 n0 c0)]:=by
 obtain⟨A0',n0',c0',rfl⟩:=ha0.form3
 have H:=(HL.start F0 w0).argS ha0
 refine (En Tryz.func55) ?_
 refine R ((A) (Z (R ((V) ((NI H 0) fun hl1=>?_)))))
 refine gg hr fun hg1 hr=>?_
 refine q0I (x:=(⟨eB,(0:Int),(0:Int),false⟩:Attribute)) rfl rfl rfl el67 q9m j4D q7T (fun _=>⟨rfl,dI,dI,dI,rfl⟩) rfl rfl hg1 H fun A1 n1 c1 w1 H=>(A) (Z (Y (R ((AZ) ?_))))
 refine bb hr fun q1 hq1 hr=>?_
 refine (lE hq1 (fun k1 s1 _=>[(0,.slice A0' n0' c0'),(3,.slice A1 n1 c1),(4,zN k1)]) (fun s1 _ w=>HL F0 [] w0 w [.S a0 (.slice A0' n0' c0')] [.O 120 s1 (.slice A1 n1 c1)]) ()) ?_
 rintro k1 s1 _ σ w2 hk1 hq1 H
 refine Y (R ((V) ((V) ((NN (rs H 0)) ((BZ) ?_)))))
 refine (iE hq1 (fun hk2 x1 z1 hx1 hb1 hq1=>?_) fun e=>?_)
 ·refine K (Y ?_)
  refine Bk (X ((V) ((V) ((V) ((V) ?_)))))
  obtain⟨b1,ob1,cb1,hvb1,hS1,hI1,hI2,H⟩:=q4L H 0 hx1
  refine (J 4 hvb1 hx1) ((LA H 1) ?_)
  refine bb hb1 fun y1 hy1 hb1=>?_
  refine (CA ok91 (z8X hy1 (F0:=nF) ⟨rfl,hS1,hI1,hI2⟩)) ?_
  rintro _ w3 hE ⟨rfl,hS2,hI3,hI4⟩
  have H:=H.ext hE
  refine bb hb1 fun x2 hx2 hb1=>?_
  obtain⟨b2,cb2,hvb2,hbb2⟩:=po H 0 hx2
  refine (J 4 hvb2 hx2) ?_
  exact q0F (i:=0) (z:=y1) rfl rfl rfl q9m rfl rfl rfl (fun _=>⟨rfl,hS2,hI3,hI4,rfl⟩) H rfl hbb2 (by simpa using q4X hx2) fun w4 H=>Z (X ((V) ((AN hk2 hl1) ((A) (Z (I1 hb1 ⟨k1+1,(List.set s1 k1 y1),()⟩))))))
 obtain rfl:=e
 exact CE (R ((V) ((AZ) (W1 hr))))
def z1t (a0:Symbol):Option Symbol:=(z1s a0.Attributes).bind fun y1=>some (⟨a0.Name,y1⟩:Symbol)
theorem j1Z {a0 r}(hr:z1t a0=some r){ca0}(ha0:rd F0 w0 a0 ca0):RT 26 #[ag ca0] w0 fun v w=>∃ A0 n0 c0,v = .agg #[.string r.Name,(.slice A0 n0 c0)]∧r.Name.size≤9223372036854775807∧HL F0 [] w0 w [] [.O 120 r.Attributes (.slice A0 n0 c0)]:=by
 have H:=(HL.start F0 w0).argR ha0
 obtain⟨A1,n1,c1,rfl,hS1,H⟩:=q6T H 0
 refine (En Tryz.func26) ?_
 refine R ((BX H) fun b1 w1 H=>(AH ze69 H) fun b2 w2 H=>Z (R ((AH ze69 H) fun b3 w3 H=>Z (R ((D 0) ((L H 0) ((D 0) ((SB H 2) fun w4 H=>Z (R ((D 1) ((L H 0) ?_)))))))))))
 refine bb hr fun y1 hy1 hr=>?_
 refine (CA ok55 (z7R hy1 (rs H 1))) ?_
 rintro _ w5 hE ⟨A2,n2,c2,rfl,H'⟩
 have H:=H.callA H' tv
 refine (D 1) ((SB H 2) fun w6 H=>Z (R ((LB H 2) ((SB H 1) fun w7 H=>Z (CR ?_)))))
 obtain rfl:=sm hr
 exact⟨_,resC rfl ag69 sz69 rfl rfl (ab H 1) rfl,H.ext0,_,_,_,rfl,hS1,H.outM (fr':=[]) [false,false,false,true] tw⟩
def j0Z:Nat→Symbol→(List Symbol)→Option (List Symbol):=fun k1 x1 s1=>(z1t x1).bind fun y1=>(s1[k1]?).bind fun x2=>some (List.set s1 k1 y1)
def z4f (a0:(List Symbol)):Option (List Symbol):=grd (0≤(a0.length:Int)∧(a0.length:Int)*40≤281474976710656∧(a0.length:Int)≤9223372036854775807) <| (q2G j0Z 0 a0 (List.replicate a0.length (⟨(⟨#[]⟩:ByteArray),[]⟩:Symbol))).bind fun s1=>some s1
theorem j1a {a0 r}(hr:z4f a0=some r){z0}(ha0:rdS F0 w0 a0 z0):RT 13 #[z0] w0 fun v w=>∃ A0 n0 c0,v=(.slice A0 n0 c0)∧HL F0 [] w0 w [] [.G 69 r (.slice A0 n0 c0)]:=by
 obtain⟨A0',n0',c0',rfl⟩:=ha0.form3
 have H:=(HL.start F0 w0).argS ha0
 refine (En Tryz.func13) ?_
 refine R ((A) (Z (R ((V) ((NI H 0) fun hl1=>?_)))))
 refine gg hr fun hg1 hr=>?_
 refine q0I (x:=(⟨eB,[]⟩:Symbol)) rfl rfl rfl el28 sz69 by69 ze69 (fun _=>⟨_,[],rfl,dI,rfl,ownS.nil (Nat.zero_le _)⟩) rfl rfl hg1 H fun A1 n1 c1 w1 H=>?_
 have H:=H.toG (i:=0) rfl
 refine (A) (Z (Y (R ((AZ) ?_))))
 refine bb hr fun q1 hq1 hr=>?_
 refine (lE hq1 (fun k1 s1 _=>[(0,.slice A0' n0' c0'),(3,.slice A1 n1 c1),(4,zN k1)]) (fun s1 _ w=>HL F0 [] w0 w [.S a0 (.slice A0' n0' c0')] [.G 69 s1 (.slice A1 n1 c1)]) ()) ?_
 rintro k1 s1 _ σ w2 hk1 hq1 H
 refine Y (R ((V) ((V) ((NN (rs H 0)) ((BZ) ?_)))))
 refine (iE hq1 (fun hk2 x1 z1 hx1 hb1 hq1=>?_) fun e=>?_)
 ·refine K (Y ?_)
  refine Bk (X ((V) ((V) ((V) ((V) ?_)))))
  obtain⟨b1,ob1,cb1,A2,n2,c2,hvb1,hS1,H⟩:=q4B H 0 hx1
  refine (J 2 hvb1 hx1) ((LA H 1) ?_)
  refine bb hb1 fun y1 hy1 hb1=>?_
  refine (CA ok26 (j1Z hy1 ⟨_,rfl,hS1,(rs H 3)⟩)) ?_
  rintro _ w3 hE ⟨A3,n3,c3,rfl,hS2,H'⟩
  have H:=H.callA H' tv
  refine bb hb1 fun x2 hx2 hb1=>?_
  obtain⟨b2,cb2,hvb2,hbb2⟩:=H.ptG (i:=0) rfl hx2
  refine (J 2 hvb2 hx2) ?_
  have H:=H.frzO (i:=1) rfl
  exact q0S (i:=0) (z:=y1) rfl rfl rfl sz69 rfl rfl rfl (fun F hF=>⟨_,rfl,hS2,(hF.get (i:=4) rfl)⟩) H rfl hbb2 (by simpa using q4X hx2) fun w4 H=>Z (X ((V) ((AN hk2 hl1) ((A) (Z (I1 hb1 ⟨k1+1,(List.set s1 k1 y1),()⟩))))))
 obtain rfl:=e
 exact CE (R ((V) ((AZ) (W1 hr))))
def z6n:Nat→ByteArray→(List ByteArray)→Option (List ByteArray):=fun k1 x1 s1=>(s1[k1]?).bind fun x2=>some (List.set s1 k1 x1)
def z4g (a0:(List ByteArray)):Option (List ByteArray):=grd (0≤(a0.length:Int)∧(a0.length:Int)*16≤281474976710656∧(a0.length:Int)≤9223372036854775807) <| (q2G z6n 0 a0 (List.replicate a0.length (⟨#[]⟩:ByteArray))).bind fun s1=>some s1
theorem j1b {a0 r}(hr:z4g a0=some r){z0}(ha0:rdS F0 w0 a0 z0):RT 56 #[z0] w0 fun v w=>∃ A0 n0 c0,v=(.slice A0 n0 c0)∧HL F0 [] w0 w [] [.O 9 r (.slice A0 n0 c0)]:=by
 obtain⟨A0',n0',c0',rfl⟩:=ha0.form3
 have H:=(HL.start F0 w0).argS ha0
 refine (En Tryz.func56) ?_
 refine R ((A) (Z (R ((V) ((NI H 0) fun hl1=>?_)))))
 refine gg hr fun hg1 hr=>?_
 refine q0I (x:=eB) rfl rfl rfl el37 sz9 by9 ze9 (fun _=>⟨rfl,rfl,dI⟩) rfl rfl hg1 H fun A1 n1 c1 w1 H=>(A) (Z (Y (R ((AZ) ?_))))
 refine bb hr fun q1 hq1 hr=>?_
 refine (lE hq1 (fun k1 s1 _=>[(0,.slice A0' n0' c0'),(3,.slice A1 n1 c1),(4,zN k1)]) (fun s1 _ w=>HL F0 [] w0 w [.S a0 (.slice A0' n0' c0')] [.O 9 s1 (.slice A1 n1 c1)]) ()) ?_
 rintro k1 s1 _ σ w2 hk1 hq1 H
 refine Y (R ((V) ((V) ((NN (rs H 0)) ((BZ) ?_)))))
 refine (iE hq1 (fun hk2 x1 z1 hx1 hb1 hq1=>?_) fun e=>?_)
 ·refine K (Y ?_)
  refine Bk (X ((V) ((V) ((V) ((V) ?_)))))
  obtain⟨b1,ob1,cb1,hvb1,hS1,H⟩:=q8q H 0 hx1
  refine (J 1 hvb1 hx1) ((L0 H 1) ?_)
  refine bb hb1 fun x2 hx2 hb1=>?_
  obtain⟨b2,cb2,hvb2,hbb2⟩:=po H 0 hx2
  refine (J 1 hvb2 hx2) ?_
  exact q0F (i:=0) (z:=x1) rfl rfl rfl sz9 rfl rfl rfl (fun _=>⟨rfl,rfl,hS1⟩) H rfl hbb2 (by simpa using q4X hx2) fun w3 H=>Z (X ((V) ((AN hk2 hl1) ((A) (Z (I1 hb1 ⟨k1+1,(List.set s1 k1 x1),()⟩))))))
 obtain rfl:=e
 exact CE (R ((V) ((AZ) (W1 hr))))
def z1u (a0:Occurrence):Option Occurrence:=some a0
theorem z7S {a0 r}(hr:z1u a0=some r){ca0}(ha0:rd F0 w0 a0 ca0):RT 137 #[ag ca0] w0 fun v w=>v = .agg #[.int .i64 r.Pos,.string r.Name]∧I64 r.Pos∧r.Name.size≤9223372036854775807:=by
 have H:=(HL.start F0 w0).argR ha0
 obtain⟨rfl,hI1,hS1,H⟩:=q2R H 0
 refine (En Tryz.func137) ?_
 refine R ((BX H) fun b1 w1 H=>(AH q7h H) fun b2 w2 H=>Z (R ((AH q7h H) fun b3 w3 H=>Z (R ((D 0) ((L H 0) ((D 0) ((SB H 2) fun w4 H=>Z (R ((D 1) ((L H 0) ((D 1) ((SB H 2) fun w5 H=>Z (R ((LB H 2) ((SB H 1) fun w6 H=>Z (CR ?_)))))))))))))))))
 obtain rfl:=sm hr
 exact⟨_,resC rfl z1W q3Y rfl rfl (ab H 1) rfl,H.ext0,rfl,hI1,hS1⟩
def j3b (rec_wtoExpr:Expr→Option Expr):Nat→Expr→(List Expr)→Option (List Expr):=fun k1 x1 s1=>(rec_wtoExpr x1).bind fun y1=>(s1[k1]?).bind fun x2=>some (List.set s1 k1 y1)
def z6S (rec_wtoExpr:Expr→Option Expr)(a0:(List Expr)):Option (List Expr):=grd (0≤(a0.length:Int)∧(a0.length:Int)*88≤281474976710656∧(a0.length:Int)≤9223372036854775807) <| (q2G (j3b rec_wtoExpr) 0 a0 (List.replicate a0.length (⟨(0:Int),(0:Int),(0:Int),(0:Int),(⟨#[]⟩:ByteArray),(⟨#[]⟩:ByteArray),[]⟩:Expr))).bind fun s1=>some s1
theorem j3c {rec_wtoExpr:Expr→Option Expr}(ih_wtoExpr:∀ {a0 r:Expr},rec_wtoExpr a0=some r→∀ {F0:Nat→Prop} {w0:World} {ca0} (ha0:rd F0 w0 a0 ca0),RT 138 #[ag ca0] w0 fun v w=>∃ A0 n0 c0,v = .agg #[.int .i64 r.Kind,.int .i64 r.N,.int .i64 r.Pos,.int .i64 r.Type_,.string r.Symbol,.string r.Name,(.slice A0 n0 c0)]∧I64 r.Kind∧I64 r.N∧I64 r.Pos∧I64 r.Type_∧r.Symbol.size≤9223372036854775807∧r.Name.size≤9223372036854775807∧HL F0 [] w0 w [] [.G 125 r.Args (.slice A0 n0 c0)]){a0 r}(hr:z6S rec_wtoExpr a0=some r){z0}(ha0:rdS F0 w0 a0 z0):RT 179 #[z0] w0 fun v w=>∃ A0 n0 c0,v=(.slice A0 n0 c0)∧HL F0 [] w0 w [] [.G 125 r (.slice A0 n0 c0)]:=by
 obtain⟨A0',n0',c0',rfl⟩:=ha0.form3
 have H:=(HL.start F0 w0).argS ha0
 refine (En Tryz.func179) ?_
 refine R ((A) (Z (R ((V) ((NI H 0) fun hl1=>?_)))))
 refine gg hr fun hg1 hr=>?_
 refine q0I (x:=(⟨(0:Int),(0:Int),(0:Int),(0:Int),eB,eB,[]⟩:Expr)) rfl rfl rfl z7A q5E j5M z0a (fun _=>(j7y.2 ⟨_,[],rfl,dI,dI,dI,dI,dI,dI,rfl,ownS.nil (Nat.zero_le _)⟩)) rfl rfl hg1 H fun A1 n1 c1 w1 H=>?_
 have H:=H.toG (i:=0) rfl
 refine (A) (Z (Y (R ((AZ) ?_))))
 refine bb hr fun q1 hq1 hr=>?_
 refine (lE hq1 (fun k1 s1 _=>[(0,.slice A0' n0' c0'),(3,.slice A1 n1 c1),(4,zN k1)]) (fun s1 _ w=>HL F0 [] w0 w [.S a0 (.slice A0' n0' c0')] [.G 125 s1 (.slice A1 n1 c1)]) ()) ?_
 rintro k1 s1 _ σ w2 hk1 hq1 H
 refine Y (R ((V) ((V) ((NN (rs H 0)) ((BZ) ?_)))))
 refine (iE hq1 (fun hk2 x1 z1 hx1 hb1 hq1=>?_) fun e=>?_)
 ·refine K (Y ?_)
  refine Bk (X ((V) ((V) ((V) ((V) ?_)))))
  obtain⟨b1,ob1,cb1,A2,n2,c2,hvb1,hI1,hI2,hI3,hI4,hS1,hS2,H⟩:=q4G H 0 hx1
  refine (J 7 hvb1 hx1) ((LA H 1) ?_)
  refine bb hb1 fun y1 hy1 hb1=>?_
  obtain⟨F,hF,hcl⟩:=H.call
  refine (CA j7N (ih_wtoExpr hy1 (q2F.2 ⟨_,rfl,hI1,hI2,hI3,hI4,hS1,hS2,(hF.get (i:=3) rfl)⟩))) ?_
  rintro _ w3 hE ⟨A3,n3,c3,rfl,hI5,hI6,hI7,hI8,hS3,hS4,H'⟩
  have H:HL F0 [] w0 w3 [.S a0 (.slice A0' n0' c0'),.A b1 (ob1+k1*7) (q2T x1 A2 n2 c2),.R x1 (q2T x1 A2 n2 c2),.S x1.Args (.slice A2 n2 c2)] [.G 125 s1 (.slice A1 n1 c1),.G 125 y1.Args (.slice A3 n3 c3)]:=hcl H'
  refine bb hb1 fun x2 hx2 hb1=>?_
  obtain⟨b2,cb2,hvb2,hbb2⟩:=H.ptG (i:=0) rfl hx2
  refine (J 7 hvb2 hx2) ?_
  have H:=H.frzG (i:=1) rfl
  exact q0S (i:=0) (z:=y1) rfl rfl rfl q5E rfl rfl rfl (fun F hF=>(q2F.2 ⟨_,rfl,hI5,hI6,hI7,hI8,hS3,hS4,(hF.get (i:=4) rfl)⟩)) H rfl hbb2 (by simpa using q4X hx2) fun w4 H=>Z (X ((V) ((AN hk2 hl1) ((A) (Z (I1 hb1 ⟨k1+1,(List.set s1 k1 y1),()⟩))))))
 obtain rfl:=e
 exact CE (R ((V) ((AZ) (W1 hr))))
def z6o (rec_wtoExpr:Expr→Option Expr)(a0:Expr):Option Expr:=(z6S rec_wtoExpr a0.Args).bind fun y1=>some (⟨a0.Kind,a0.N,a0.Pos,a0.Type_,a0.Symbol,a0.Name,y1⟩:Expr)
theorem j3d {rec_wtoExpr:Expr→Option Expr}(ih_wtoExpr:∀ {a0 r:Expr},rec_wtoExpr a0=some r→∀ {F0:Nat→Prop} {w0:World} {ca0} (ha0:rd F0 w0 a0 ca0),RT 138 #[ag ca0] w0 fun v w=>∃ A0 n0 c0,v = .agg #[.int .i64 r.Kind,.int .i64 r.N,.int .i64 r.Pos,.int .i64 r.Type_,.string r.Symbol,.string r.Name,(.slice A0 n0 c0)]∧I64 r.Kind∧I64 r.N∧I64 r.Pos∧I64 r.Type_∧r.Symbol.size≤9223372036854775807∧r.Name.size≤9223372036854775807∧HL F0 [] w0 w [] [.G 125 r.Args (.slice A0 n0 c0)]){a0 r}(hr:z6o rec_wtoExpr a0=some r){ca0}(ha0:rd F0 w0 a0 ca0):RT 138 #[ag ca0] w0 fun v w=>∃ A0 n0 c0,v = .agg #[.int .i64 r.Kind,.int .i64 r.N,.int .i64 r.Pos,.int .i64 r.Type_,.string r.Symbol,.string r.Name,(.slice A0 n0 c0)]∧I64 r.Kind∧I64 r.N∧I64 r.Pos∧I64 r.Type_∧r.Symbol.size≤9223372036854775807∧r.Name.size≤9223372036854775807∧HL F0 [] w0 w [] [.G 125 r.Args (.slice A0 n0 c0)]:=by
 have H:=(HL.start F0 w0).argR ha0
 obtain⟨A1,n1,c1,rfl,hI1,hI2,hI3,hI4,hS1,hS2,H⟩:=q3X H 0
 let d2:=q2T a0 A1 n1 c1
 let d3:List Pr:=[.R a0 d2,.S a0.Args (.slice A1 n1 c1)]
 refine (En Tryz.func138) ?_
 refine R ((BX H) fun b1 w1 H=>(AH z0a H) fun b2 w2 H=>Z (R ((AH z0a H) fun b3 w3 H=>Z (R ((D 0) ((L H 0) ((D 0) ((SB H 2) fun w4 H=>Z (R ((D 1) ((L H 0) ((D 1) ((SB H 2) fun w5 H=>Z (R ((D 2) ((L H 0) ((D 2) ((SB H 2) fun w6 H=>Z (R ((D 3) ((L H 0) ((D 3) ((SB H 2) fun w7 H=>Z (R ((D 4) ((L H 0) ((D 4) ((SB H 2) fun w8 H=>Z (R ((D 5) ((L H 0) ((D 5) ((SB H 2) fun w9 H=>Z (Y ?_))))))))))))))))))))))))))))))))))
 let d1:It:=.B b2 125 [.int .i64 0,.int .i64 0,.int .i64 0,.int .i64 0,.string eB,.string eB,.slice none 0 0]
 refine q0e [(1,pB b1),(2,pB b2),(3,pB b3)] ⟨rfl,rfl,rfl,trivial⟩ fun σ=>?_
 have H:HL F0 [] w0 w9 d3 [.B b1 112 d2,d1,.B b3 125 (q2T a0 none 0 0)]:=H
 refine X ((D 6) ((L H 0) ?_))
 refine bb hr fun y1 hy1 hr=>?_
 obtain⟨F,hF,hcl⟩:=H.call
 refine (CA k3A (j3c ih_wtoExpr hy1 (hF.get (i:=1) rfl))) ?_
 rintro _ w10 hE ⟨A2,n2,c2,rfl,H'⟩
 have H:HL F0 [] w0 w10 d3 [.B b1 112 d2,d1,.B b3 125 (q2T a0 none 0 0),.G 125 y1 (.slice A2 n2 c2)]:=hcl H'
 refine (D 6) ((SB H 2) fun w11 H=>Z (R ((LB H 2) ((SB H 1) fun w12 H=>Z (CR ?_)))))
 obtain rfl:=sm hr
 exact⟨_,resC rfl q7S q5E rfl rfl (ab H 1) rfl,H.ext0,_,_,_,rfl,hI1,hI2,hI3,hI4,hS1,hS2,H.outM (fr':=[]) [false,false,false,true] tw⟩
def z1v:Nat→Expr→Option Expr
  | 0,_=>none
  | n+1,a0=>z6o (z1v n) a0
def z4h (a0:Expr):Option Expr:=recO fun n=>z1v n a0
theorem j3e (n:Nat):∀ {a0 r:Expr},z1v n a0=some r→∀ {F0:Nat→Prop} {w0:World} {ca0} (ha0:rd F0 w0 a0 ca0),RT 138 #[ag ca0] w0 fun v w=>∃ A0 n0 c0,v = .agg #[.int .i64 r.Kind,.int .i64 r.N,.int .i64 r.Pos,.int .i64 r.Type_,.string r.Symbol,.string r.Name,(.slice A0 n0 c0)]∧I64 r.Kind∧I64 r.N∧I64 r.Pos∧I64 r.Type_∧r.Symbol.size≤9223372036854775807∧r.Name.size≤9223372036854775807∧HL F0 [] w0 w [] [.G 125 r.Args (.slice A0 n0 c0)]:=by
 induction n with
 | zero=>intro a0 r hr; exact nomatch (show (none:Option Expr)=some r from hr)
 | succ n ih=>intro a0 r hr; exact j3d ih hr
theorem z6T {a0 r}(hr:z4h a0=some r){ca0}(ha0:rd F0 w0 a0 ca0):RT 138 #[ag ca0] w0 fun v w=>∃ A0 n0 c0,v = .agg #[.int .i64 r.Kind,.int .i64 r.N,.int .i64 r.Pos,.int .i64 r.Type_,.string r.Symbol,.string r.Name,(.slice A0 n0 c0)]∧I64 r.Kind∧I64 r.N∧I64 r.Pos∧I64 r.Type_∧r.Symbol.size≤9223372036854775807∧r.Name.size≤9223372036854775807∧HL F0 [] w0 w [] [.G 125 r.Args (.slice A0 n0 c0)]:=by
 obtain⟨n,hn⟩:=q5m hr
 exact j3e n hn ha0
def q8X (a0:Equation):Option Equation:=(z1u a0.At).bind fun y1=>(z4h a0.Expr).bind fun y2=>some (⟨y1,y2⟩:Equation)
theorem z9Q {a0 r}(hr:q8X a0=some r){ca0}(ha0:rd F0 w0 a0 ca0):RT 92 #[ag ca0] w0 fun v w=>∃ A0 n0 c0,v = .agg #[.int .i64 r.At.Pos,.string r.At.Name,.int .i64 r.Expr.Kind,.int .i64 r.Expr.N,.int .i64 r.Expr.Pos,.int .i64 r.Expr.Type_,.string r.Expr.Symbol,.string r.Expr.Name,(.slice A0 n0 c0)]∧I64 r.At.Pos∧r.At.Name.size≤9223372036854775807∧I64 r.Expr.Kind∧I64 r.Expr.N∧I64 r.Expr.Pos∧I64 r.Expr.Type_∧r.Expr.Symbol.size≤9223372036854775807∧r.Expr.Name.size≤9223372036854775807∧HL F0 [] w0 w [] [.G 125 r.Expr.Args (.slice A0 n0 c0)]:=by
 have H:=(HL.start F0 w0).argR ha0
 obtain⟨A1,n1,c1,rfl,hI1,hS1,hI2,hI3,hI4,hI5,hS2,hS3,H⟩:=q8r H 0
 refine (En Tryz.func92) ?_
 refine R ((BX H) fun b1 w1 H=>(AH z9A H) fun b2 w2 H=>Z (R ((AH z9A H) fun b3 w3 H=>Z (R ((D 0) ?_)))))
 refine q0b rfl rfl (q0c rfl k1w k1x rfl (Blk.part (rb H 0) 0 2) rfl) ?_
 refine bb hr fun y1 hy1 hr=>?_
 refine (CA k3x (z7S hy1 (F0:=nF) ⟨rfl,hI1,hS1⟩)) ?_
 rintro _ w4 hE ⟨rfl,hI6,hS4⟩
 have H:=H.ext hE
 refine (D 0) ((SB H 2) fun w5 H=>Z (R ((D 2) ?_)))
 refine q0b rfl rfl (q0c rfl j4V j4W rfl (Blk.part (rb H 0) 2 7) rfl) ?_
 refine bb hr fun y2 hy2 hr=>?_
 obtain⟨F,hF,hcl⟩:=H.call
 refine (CA j7N (z6T hy2 (q2F.2 ⟨_,rfl,hI2,hI3,hI4,hI5,hS2,hS3,(hF.get (i:=1) rfl)⟩))) ?_
 rintro _ w6 hE ⟨A2,n2,c2,rfl,hI7,hI8,hI9,hI10,hS5,hS6,H'⟩
 have H:HL F0 [] w0 w6 [.R a0 (q5R a0 A1 n1 c1),.S a0.Expr.Args (.slice A1 n1 c1)] [.B b1 114 (q5R a0 A1 n1 c1),.B b2 127 [.int .i64 0,.string eB,.int .i64 0,.int .i64 0,.int .i64 0,.int .i64 0,.string eB,.string eB,.slice none 0 0],.B b3 127 [.int .i64 y1.Pos,.string y1.Name,.int .i64 0,.int .i64 0,.int .i64 0,.int .i64 0,.string eB,.string eB,.slice none 0 0],.G 125 y2.Args (.slice A2 n2 c2)]:=hcl H'
 refine (D 2) ((SB H 2) fun w7 H=>Z (R ((LB H 2) ((SB H 1) fun w8 H=>Z (CR ?_)))))
 obtain rfl:=sm hr
 exact⟨_,resC rfl k1W j7E rfl rfl (ab H 1) rfl,H.ext0,_,_,_,rfl,hI6,hS4,hI7,hI8,hI9,hI10,hS5,hS6,H.outM (fr':=[]) [false,false,false,true] tw⟩
def z8Y:Nat→Equation→(List Equation)→Option (List Equation):=fun k1 x1 s1=>(q8X x1).bind fun y1=>(s1[k1]?).bind fun x2=>some (List.set s1 k1 y1)
def z2f (a0:(List Equation)):Option (List Equation):=grd (0≤(a0.length:Int)∧(a0.length:Int)*112≤281474976710656∧(a0.length:Int)≤9223372036854775807) <| (q2G z8Y 0 a0 (List.replicate a0.length (⟨(⟨(0:Int),(⟨#[]⟩:ByteArray)⟩:Occurrence),(⟨(0:Int),(0:Int),(0:Int),(0:Int),(⟨#[]⟩:ByteArray),(⟨#[]⟩:ByteArray),[]⟩:Expr)⟩:Equation))).bind fun s1=>some s1
theorem z8Z {a0 r}(hr:z2f a0=some r){z0}(ha0:rdS F0 w0 a0 z0):RT 57 #[z0] w0 fun v w=>∃ A0 n0 c0,v=(.slice A0 n0 c0)∧HL F0 [] w0 w [] [.G 127 r (.slice A0 n0 c0)]:=by
 obtain⟨A0',n0',c0',rfl⟩:=ha0.form3
 have H:=(HL.start F0 w0).argS ha0
 refine (En Tryz.func57) ?_
 refine R ((A) (Z (R ((V) ((NI H 0) fun hl1=>?_)))))
 refine gg hr fun hg1 hr=>?_
 refine q0I (x:=(⟨(⟨(0:Int),eB⟩:Occurrence),(⟨(0:Int),(0:Int),(0:Int),(0:Int),eB,eB,[]⟩:Expr)⟩:Equation)) rfl rfl rfl el62 j7E k3r z9A (fun _=>⟨_,[],rfl,dI,dI,dI,dI,dI,dI,dI,dI,rfl,ownS.nil (Nat.zero_le _)⟩) rfl rfl hg1 H fun A1 n1 c1 w1 H=>?_
 have H:=H.toG (i:=0) rfl
 refine (A) (Z (Y (R ((AZ) ?_))))
 refine bb hr fun q1 hq1 hr=>?_
 refine (lE hq1 (fun k1 s1 _=>[(0,.slice A0' n0' c0'),(3,.slice A1 n1 c1),(4,zN k1)]) (fun s1 _ w=>HL F0 [] w0 w [.S a0 (.slice A0' n0' c0')] [.G 127 s1 (.slice A1 n1 c1)]) ()) ?_
 rintro k1 s1 _ σ w2 hk1 hq1 H
 refine Y (R ((V) ((V) ((NN (rs H 0)) ((BZ) ?_)))))
 refine (iE hq1 (fun hk2 x1 z1 hx1 hb1 hq1=>?_) fun e=>?_)
 ·refine K (Y ?_)
  refine Bk (X ((V) ((V) ((V) ((V) ?_)))))
  obtain⟨b1,ob1,cb1,A2,n2,c2,hvb1,hI1,hS1,hI2,hI3,hI4,hI5,hS2,hS3,H⟩:=q4k H 0 hx1
  refine (J 9 hvb1 hx1) ((LA H 1) ?_)
  refine bb hb1 fun y1 hy1 hb1=>?_
  obtain⟨F,hF,hcl⟩:=H.call
  refine (CA ok92 (z9Q hy1 ⟨_,rfl,hI1,hS1,hI2,hI3,hI4,hI5,hS2,hS3,(hF.get (i:=3) rfl)⟩)) ?_
  rintro _ w3 hE ⟨A3,n3,c3,rfl,hI6,hS4,hI7,hI8,hI9,hI10,hS5,hS6,H'⟩
  have H:HL F0 [] w0 w3 [.S a0 (.slice A0' n0' c0'),.A b1 (ob1+k1*9) (q5R x1 A2 n2 c2),.R x1 (q5R x1 A2 n2 c2),.S x1.Expr.Args (.slice A2 n2 c2)] [.G 127 s1 (.slice A1 n1 c1),.G 125 y1.Expr.Args (.slice A3 n3 c3)]:=hcl H'
  refine bb hb1 fun x2 hx2 hb1=>?_
  obtain⟨b2,cb2,hvb2,hbb2⟩:=H.ptG (i:=0) rfl hx2
  refine (J 9 hvb2 hx2) ?_
  have H:=H.frzG (i:=1) rfl
  exact q0S (i:=0) (z:=y1) rfl rfl rfl j7E rfl rfl rfl (fun F hF=>⟨_,rfl,hI6,hS4,hI7,hI8,hI9,hI10,hS5,hS6,(hF.get (i:=4) rfl)⟩) H rfl hbb2 (by simpa using q4X hx2) fun w4 H=>Z (X ((V) ((AN hk2 hl1) ((A) (Z (I1 hb1 ⟨k1+1,(List.set s1 k1 y1),()⟩))))))
 obtain rfl:=e
 exact CE (R ((V) ((AZ) (W1 hr))))
def q6x (a0:Contribution):Option Contribution:=(z4h a0.Target).bind fun y1=>(z4h a0.Value).bind fun y2=>some (⟨a0.Symbol,a0.Name,y1,y2⟩:Contribution)
theorem z6p {a0 r}(hr:q6x a0=some r){ca0}(ha0:rd F0 w0 a0 ca0):RT 93 #[ag ca0] w0 fun v w=>∃ A0 n0 c0 A1 n1 c1,v = .agg #[.string r.Symbol,.string r.Name,.int .i64 r.Target.Kind,.int .i64 r.Target.N,.int .i64 r.Target.Pos,.int .i64 r.Target.Type_,.string r.Target.Symbol,.string r.Target.Name,(.slice A0 n0 c0),.int .i64 r.Value.Kind,.int .i64 r.Value.N,.int .i64 r.Value.Pos,.int .i64 r.Value.Type_,.string r.Value.Symbol,.string r.Value.Name,(.slice A1 n1 c1)]∧r.Symbol.size≤9223372036854775807∧r.Name.size≤9223372036854775807∧I64 r.Target.Kind∧I64 r.Target.N∧I64 r.Target.Pos∧I64 r.Target.Type_∧r.Target.Symbol.size≤9223372036854775807∧r.Target.Name.size≤9223372036854775807∧I64 r.Value.Kind∧I64 r.Value.N∧I64 r.Value.Pos∧I64 r.Value.Type_∧r.Value.Symbol.size≤9223372036854775807∧r.Value.Name.size≤9223372036854775807∧HL F0 [] w0 w [] [.G 125 r.Target.Args (.slice A0 n0 c0),.G 125 r.Value.Args (.slice A1 n1 c1)]:=by
 have H:=(HL.start F0 w0).argR ha0
 obtain⟨A1,n1,c1,A2,n2,c2,rfl,hS1,hS2,hI1,hI2,hI3,hI4,hS3,hS4,hI5,hI6,hI7,hI8,hS5,hS6,H⟩:=q8D H 0
 let d3:=q4K a0 A1 n1 c1 A2 n2 c2
 let d2:List Pr:=[.R a0 d3,.S a0.Target.Args (.slice A1 n1 c1),.S a0.Value.Args (.slice A2 n2 c2)]
 refine (En Tryz.func93) ?_
 refine R ((BX H) fun b1 w1 H=>(AH j1J H) fun b2 w2 H=>Z (R ((AH j1J H) fun b3 w3 H=>Z (R ((D 0) ((L H 0) ((D 0) ((SB H 2) fun w4 H=>Z (R ((D 1) ((L H 0) ((D 1) ((SB H 2) fun w5 H=>Z (R ((D 2) ?_)))))))))))))))
 let d1:It:=.B b2 132 [.string eB,.string eB,.int .i64 0,.int .i64 0,.int .i64 0,.int .i64 0,.string eB,.string eB,.slice none 0 0,.int .i64 0,.int .i64 0,.int .i64 0,.int .i64 0,.string eB,.string eB,.slice none 0 0]
 refine q0b rfl rfl (q0c rfl j4V j4W rfl (Blk.part (rb H 0) 2 7) rfl) ?_
 refine bb hr fun y1 hy1 hr=>?_
 obtain⟨F,hF,hcl⟩:=H.call
 refine (CA j7N (z6T hy1 (q2F.2 ⟨_,rfl,hI1,hI2,hI3,hI4,hS3,hS4,(hF.get (i:=1) rfl)⟩))) ?_
 rintro _ w6 hE ⟨A3,n3,c3,rfl,hI9,hI10,hI11,hI12,hS7,hS8,H'⟩
 have H:HL F0 [] w0 w6 d2 [.B b1 117 d3,d1,.B b3 132 [.string a0.Symbol,.string a0.Name,.int .i64 0,.int .i64 0,.int .i64 0,.int .i64 0,.string eB,.string eB,.slice none 0 0,.int .i64 0,.int .i64 0,.int .i64 0,.int .i64 0,.string eB,.string eB,.slice none 0 0],.G 125 y1.Args (.slice A3 n3 c3)]:=hcl H'
 refine (D 2) ((SB H 2) fun w7 H=>Z (R ((D 9) ?_)))
 refine q0b rfl rfl (q0c rfl j4V j4W rfl (Blk.part (rb H 0) 9 7) rfl) ?_
 refine bb hr fun y2 hy2 hr=>?_
 obtain⟨F,hF,hcl⟩:=H.call
 refine (CA j7N (z6T hy2 (q2F.2 ⟨_,rfl,hI5,hI6,hI7,hI8,hS5,hS6,(hF.get (i:=2) rfl)⟩))) ?_
 rintro _ w8 hE ⟨A4,n4,c4,rfl,hI13,hI14,hI15,hI16,hS9,hS10,H'⟩
 have H:HL F0 [] w0 w8 d2 [.B b1 117 d3,d1,.B b3 132 [.string a0.Symbol,.string a0.Name,.int .i64 y1.Kind,.int .i64 y1.N,.int .i64 y1.Pos,.int .i64 y1.Type_,.string y1.Symbol,.string y1.Name,.slice A3 n3 c3,.int .i64 0,.int .i64 0,.int .i64 0,.int .i64 0,.string eB,.string eB,.slice none 0 0],.G 125 y1.Args (.slice A3 n3 c3),.G 125 y2.Args (.slice A4 n4 c4)]:=hcl H'
 refine (D 9) ((SB H 2) fun w9 H=>Z (R ((LB H 2) ((SB H 1) fun w10 H=>Z (CR ?_)))))
 obtain rfl:=sm hr
 exact⟨_,resC rfl k1X j9F rfl rfl (ab H 1) rfl,H.ext0,_,_,_,_,_,_,rfl,hS1,hS2,hI9,hI10,hI11,hI12,hS7,hS8,hI13,hI14,hI15,hI16,hS9,hS10,H.outM (fr':=[]) [false,false,false,true,true] tw⟩
def z5w:Nat→Contribution→(List Contribution)→Option (List Contribution):=fun k1 x1 s1=>(q6x x1).bind fun y1=>(s1[k1]?).bind fun x2=>some (List.set s1 k1 y1)
def q8Y (a0:(List Contribution)):Option (List Contribution):=grd (0≤(a0.length:Int)∧(a0.length:Int)*208≤281474976710656∧(a0.length:Int)≤9223372036854775807) <| (q2G z5w 0 a0 (List.replicate a0.length (⟨(⟨#[]⟩:ByteArray),(⟨#[]⟩:ByteArray),(⟨(0:Int),(0:Int),(0:Int),(0:Int),(⟨#[]⟩:ByteArray),(⟨#[]⟩:ByteArray),[]⟩:Expr),(⟨(0:Int),(0:Int),(0:Int),(0:Int),(⟨#[]⟩:ByteArray),(⟨#[]⟩:ByteArray),[]⟩:Expr)⟩:Contribution))).bind fun s1=>some s1
theorem z5x {a0 r}(hr:q8Y a0=some r){z0}(ha0:rdS F0 w0 a0 z0):RT 58 #[z0] w0 fun v w=>∃ A0 n0 c0,v=(.slice A0 n0 c0)∧HL F0 [] w0 w [] [.G 132 r (.slice A0 n0 c0)]:=by
 obtain⟨A0',n0',c0',rfl⟩:=ha0.form3
 have H:=(HL.start F0 w0).argS ha0
 refine (En Tryz.func58) ?_
 refine R ((A) (Z (R ((V) ((NI H 0) fun hl1=>?_)))))
 refine gg hr fun hg1 hr=>?_
 refine q0I (x:=(⟨eB,eB,(⟨(0:Int),(0:Int),(0:Int),(0:Int),eB,eB,[]⟩:Expr),(⟨(0:Int),(0:Int),(0:Int),(0:Int),eB,eB,[]⟩:Expr)⟩:Contribution)) rfl rfl rfl el63 j9F k3s j1J (fun _=>⟨_,_,[],[],rfl,dI,dI,dI,dI,dI,dI,dI,dI,dI,dI,dI,dI,dI,dI,rfl,ownS.nil (Nat.zero_le _),ownS.nil (Nat.zero_le _)⟩) rfl rfl hg1 H fun A1 n1 c1 w1 H=>?_
 have H:=H.toG (i:=0) rfl
 refine (A) (Z (Y (R ((AZ) ?_))))
 refine bb hr fun q1 hq1 hr=>?_
 refine (lE hq1 (fun k1 s1 _=>[(0,.slice A0' n0' c0'),(3,.slice A1 n1 c1),(4,zN k1)]) (fun s1 _ w=>HL F0 [] w0 w [.S a0 (.slice A0' n0' c0')] [.G 132 s1 (.slice A1 n1 c1)]) ()) ?_
 rintro k1 s1 _ σ w2 hk1 hq1 H
 refine Y (R ((V) ((V) ((NN (rs H 0)) ((BZ) ?_)))))
 refine (iE hq1 (fun hk2 x1 z1 hx1 hb1 hq1=>?_) fun e=>?_)
 ·refine K (Y ?_)
  refine Bk (X ((V) ((V) ((V) ((V) ?_)))))
  obtain⟨b1,ob1,cb1,A2,n2,c2,A3,n3,c3,hvb1,hS1,hS2,hI1,hI2,hI3,hI4,hS3,hS4,hI5,hI6,hI7,hI8,hS5,hS6,H⟩:=q4d H 0 hx1
  let d1:=q4K x1 A2 n2 c2 A3 n3 c3
  refine (J 16 hvb1 hx1) ((LA H 1) ?_)
  refine bb hb1 fun y1 hy1 hb1=>?_
  obtain⟨F,hF,hcl⟩:=H.call
  refine (CA ok93 (z6p hy1 ⟨_,_,rfl,hS1,hS2,hI1,hI2,hI3,hI4,hS3,hS4,hI5,hI6,hI7,hI8,hS5,hS6,(hF.get (i:=3) rfl),(hF.get (i:=4) rfl)⟩)) ?_
  rintro _ w3 hE ⟨A4,n4,c4,A5,n5,c5,rfl,hS7,hS8,hI9,hI10,hI11,hI12,hS9,hS10,hI13,hI14,hI15,hI16,hS11,hS12,H'⟩
  have H:HL F0 [] w0 w3 [.S a0 (.slice A0' n0' c0'),.A b1 (ob1+k1*16) d1,.R x1 d1,.S x1.Target.Args (.slice A2 n2 c2),.S x1.Value.Args (.slice A3 n3 c3)] [.G 132 s1 (.slice A1 n1 c1),.G 125 y1.Target.Args (.slice A4 n4 c4),.G 125 y1.Value.Args (.slice A5 n5 c5)]:=hcl H'
  refine bb hb1 fun x2 hx2 hb1=>?_
  obtain⟨b2,cb2,hvb2,hbb2⟩:=H.ptG (i:=0) rfl hx2
  refine (J 16 hvb2 hx2) ?_
  have H:=H.frzG (i:=1) rfl
  have H:=H.frzG (i:=2) rfl
  exact q0S (i:=0) (z:=y1) rfl rfl rfl j9F rfl rfl rfl (fun F hF=>⟨_,_,rfl,hS7,hS8,hI9,hI10,hI11,hI12,hS9,hS10,hI13,hI14,hI15,hI16,hS11,hS12,(hF.get (i:=5) rfl),(hF.get (i:=6) rfl)⟩) H rfl hbb2 (by simpa using q4X hx2) fun w4 H=>Z (X ((V) ((AN hk2 hl1) ((A) (Z (I1 hb1 ⟨k1+1,(List.set s1 k1 y1),()⟩))))))
 obtain rfl:=e
 exact CE (R ((V) ((AZ) (W1 hr))))
def z4i (a0:Rule):Option Rule:=(z4g a0.Right).bind fun y1=>(z2f a0.Equations).bind fun y2=>(q8Y a0.Contributions).bind fun y3=>some (⟨a0.Name,a0.Left,y1,a0.Literal,y2,y3⟩:Rule)
theorem j4Y {a0 r}(hr:z4i a0=some r){ca0}(ha0:rd F0 w0 a0 ca0):RT 27 #[ag ca0] w0 fun v w=>∃ A0 n0 c0 A1 n1 c1,∃ A2 n2 c2,v = .agg #[.string r.Name,.string r.Left,(.slice A0 n0 c0),.bool r.Literal,(.slice A1 n1 c1),(.slice A2 n2 c2)]∧r.Name.size≤9223372036854775807∧r.Left.size≤9223372036854775807∧HL F0 [] w0 w [] [.O 9 r.Right (.slice A0 n0 c0),.G 127 r.Equations (.slice A1 n1 c1),.G 132 r.Contributions (.slice A2 n2 c2)]:=by
 have H:=(HL.start F0 w0).argR ha0
 obtain⟨A1,n1,c1,A2,n2,c2,A3,n3,c3,rfl,hS1,hS2,H⟩:=q2U H 0
 let d3:=q3C a0 A1 n1 c1 A2 n2 c2 A3 n3 c3
 let d1:List Pr:=[.R a0 d3,.S a0.Right (.slice A1 n1 c1),.S a0.Equations (.slice A2 n2 c2),.S a0.Contributions (.slice A3 n3 c3)]
 refine (En Tryz.func27) ?_
 refine R ((BX H) fun b1 w1 H=>(AH ze65 H) fun b2 w2 H=>Z (R ((AH ze65 H) fun b3 w3 H=>Z (R ((D 0) ((L H 0) ((D 0) ((SB H 2) fun w4 H=>Z (R ((D 1) ((L H 0) ((D 1) ((SB H 2) fun w5 H=>Z (R ((D 2) ((L H 0) ?_))))))))))))))))
 let d2:It:=.B b2 65 [.string eB,.string eB,.slice none 0 0,.bool false,.slice none 0 0,.slice none 0 0]
 refine bb hr fun y1 hy1 hr=>?_
 refine (CA ok56 (j1b hy1 (rs H 1))) ?_
 rintro _ w6 hE ⟨A4,n4,c4,rfl,H'⟩
 let d5:It:=.O 9 y1 (.slice A4 n4 c4)
 have H:=H.callA H' tv
 refine (D 2) ((SB H 2) fun w7 H=>Z (R ((D 3) ((L H 0) ((D 3) ((SB H 2) fun w8 H=>Z (R ((D 4) ((L H 0) ?_)))))))))
 refine bb hr fun y2 hy2 hr=>?_
 obtain⟨F,hF,hcl⟩:=H.call
 refine (CA ok57 (z8Z hy2 (hF.get (i:=2) rfl))) ?_
 rintro _ w9 hE ⟨A5,n5,c5,rfl,H'⟩
 let d4:It:=.G 127 y2 (.slice A5 n5 c5)
 have H:HL F0 [] w0 w9 d1 [.B b1 51 d3,d2,.B b3 65 (q3C a0 A4 n4 c4 none 0 0 none 0 0),d5,d4]:=hcl H'
 refine (D 4) ((SB H 2) fun w10 H=>Z (R ((D 5) ((L H 0) ?_))))
 refine bb hr fun y3 hy3 hr=>?_
 obtain⟨F,hF,hcl⟩:=H.call
 refine (CA ok58 (z5x hy3 (hF.get (i:=3) rfl))) ?_
 rintro _ w11 hE ⟨A6,n6,c6,rfl,H'⟩
 have H:HL F0 [] w0 w11 d1 [.B b1 51 d3,d2,.B b3 65 (q3C a0 A4 n4 c4 A5 n5 c5 none 0 0),d5,d4,.G 132 y3 (.slice A6 n6 c6)]:=hcl H'
 refine (D 5) ((SB H 2) fun w12 H=>Z (Y ?_))
 refine q0e [(2,pB b2),(3,pB b3)] ⟨rfl,rfl,trivial⟩ fun σ=>?_
 have H:HL F0 [] w0 w12 d1 [.B b1 51 d3,d2,.B b3 65 (q3C a0 A4 n4 c4 A5 n5 c5 A6 n6 c6),d5,d4,.G 132 y3 (.slice A6 n6 c6)]:=H
 refine X ((LB H 2) ((SB H 1) fun w13 H=>Z (CR ?_)))
 obtain rfl:=sm hr
 exact⟨_,resC rfl ag65 sz65 rfl rfl (ab H 1) rfl,H.ext0,_,_,_,_,_,_,_,_,_,rfl,hS1,hS2,H.outM (fr':=[]) [false,false,false,true,true,true] tw⟩
def j3f:Nat→Rule→(List Rule)→Option (List Rule):=fun k1 x1 s1=>(z4i x1).bind fun y1=>(s1[k1]?).bind fun x2=>some (List.set s1 k1 y1)
def z6U (a0:(List Rule)):Option (List Rule):=grd (0≤(a0.length:Int)∧(a0.length:Int)*112≤281474976710656∧(a0.length:Int)≤9223372036854775807) <| (q2G j3f 0 a0 (List.replicate a0.length (⟨(⟨#[]⟩:ByteArray),(⟨#[]⟩:ByteArray),[],false,[],[]⟩:Rule))).bind fun s1=>some s1
theorem j3g {a0 r}(hr:z6U a0=some r){z0}(ha0:rdS F0 w0 a0 z0):RT 14 #[z0] w0 fun v w=>∃ A0 n0 c0,v=(.slice A0 n0 c0)∧HL F0 [] w0 w [] [.G 65 r (.slice A0 n0 c0)]:=by
 obtain⟨A0',n0',c0',rfl⟩:=ha0.form3
 have H:=(HL.start F0 w0).argS ha0
 refine (En Tryz.func14) ?_
 refine R ((A) (Z (R ((V) ((NI H 0) fun hl1=>?_)))))
 refine gg hr fun hg1 hr=>?_
 refine q0I (x:=(⟨eB,eB,[],false,[],[]⟩:Rule)) rfl rfl rfl el29 sz65 by65 ze65 (fun _=>⟨_,_,_,[],[],[],rfl,dI,dI,rfl,ownS.nil (Nat.zero_le _),ownS.nil (Nat.zero_le _),ownS.nil (Nat.zero_le _)⟩) rfl rfl hg1 H fun A1 n1 c1 w1 H=>?_
 have H:=H.toG (i:=0) rfl
 refine (A) (Z (Y (R ((AZ) ?_))))
 refine bb hr fun q1 hq1 hr=>?_
 refine (lE hq1 (fun k1 s1 _=>[(0,.slice A0' n0' c0'),(3,.slice A1 n1 c1),(4,zN k1)]) (fun s1 _ w=>HL F0 [] w0 w [.S a0 (.slice A0' n0' c0')] [.G 65 s1 (.slice A1 n1 c1)]) ()) ?_
 rintro k1 s1 _ σ w2 hk1 hq1 H
 refine Y (R ((V) ((V) ((NN (rs H 0)) ((BZ) ?_)))))
 refine (iE hq1 (fun hk2 x1 z1 hx1 hb1 hq1=>?_) fun e=>?_)
 ·refine K (Y ?_)
  refine Bk (X ((V) ((V) ((V) ((V) ?_)))))
  obtain⟨b1,ob1,cb1,A2,n2,c2,A3,n3,c3,A4,n4,c4,hvb1,hS1,hS2,H⟩:=q6k H 0 hx1
  let d1:=q3C x1 A2 n2 c2 A3 n3 c3 A4 n4 c4
  refine (J 6 hvb1 hx1) ((LA H 1) ?_)
  refine bb hb1 fun y1 hy1 hb1=>?_
  obtain⟨F,hF,hcl⟩:=H.call
  refine (CA ok27 (j4Y hy1 ⟨_,_,_,rfl,hS1,hS2,(hF.get (i:=3) rfl),(hF.get (i:=4) rfl),(hF.get (i:=5) rfl)⟩)) ?_
  rintro _ w3 hE ⟨A5,n5,c5,A6,n6,c6,A7,n7,c7,rfl,hS3,hS4,H'⟩
  have H:HL F0 [] w0 w3 [.S a0 (.slice A0' n0' c0'),.A b1 (ob1+k1*6) d1,.R x1 d1,.S x1.Right (.slice A2 n2 c2),.S x1.Equations (.slice A3 n3 c3),.S x1.Contributions (.slice A4 n4 c4)] [.G 65 s1 (.slice A1 n1 c1),.O 9 y1.Right (.slice A5 n5 c5),.G 127 y1.Equations (.slice A6 n6 c6),.G 132 y1.Contributions (.slice A7 n7 c7)]:=hcl H'
  refine bb hb1 fun x2 hx2 hb1=>?_
  obtain⟨b2,cb2,hvb2,hbb2⟩:=H.ptG (i:=0) rfl hx2
  refine (J 6 hvb2 hx2) ?_
  have H:=H.frzO (i:=1) rfl
  have H:=H.frzG (i:=2) rfl
  have H:=H.frzG (i:=3) rfl
  exact q0S (i:=0) (z:=y1) rfl rfl rfl sz65 rfl rfl rfl (fun F hF=>⟨_,_,_,rfl,hS3,hS4,(hF.get (i:=6) rfl),(hF.get (i:=7) rfl),(hF.get (i:=8) rfl)⟩) H rfl hbb2 (by simpa using q4X hx2) fun w4 H=>Z (X ((V) ((AN hk2 hl1) ((A) (Z (I1 hb1 ⟨k1+1,(List.set s1 k1 y1),()⟩))))))
 obtain rfl:=e
 exact CE (R ((V) ((AZ) (W1 hr))))
def q6c (a0:Grammar):Option Grammar:=(z4f a0.Symbols).bind fun y1=>(z6U a0.Rules).bind fun y2=>some (⟨y1,y2⟩:Grammar)
theorem z3k {a0 r}(hr:q6c a0=some r){ca0}(ha0:rd F0 w0 a0 ca0):RT 6 #[ag ca0] w0 fun v w=>∃ A0 n0 c0 A1 n1 c1,v = .agg #[(.slice A0 n0 c0),(.slice A1 n1 c1)]∧HL F0 [] w0 w [] [.G 69 r.Symbols (.slice A0 n0 c0),.G 65 r.Rules (.slice A1 n1 c1)]:=by
 let d3:List Value:=[.slice none 0 0,.slice none 0 0]
 have H:=(HL.start F0 w0).argR ha0
 obtain⟨A1,n1,c1,A2,n2,c2,rfl,H⟩:=q2C H 0
 let d2:List Value:=[.slice A1 n1 c1,.slice A2 n2 c2]
 let d1:List Pr:=[.R a0 d2,.S a0.Symbols (.slice A1 n1 c1),.S a0.Rules (.slice A2 n2 c2)]
 refine (En Tryz.func6) ?_
 refine R ((BX H) fun b1 w1 H=>(AH ze31 H) fun b2 w2 H=>Z (R ((AH ze31 H) fun b3 w3 H=>Z (R ((D 0) ((L H 0) ?_))))))
 refine bb hr fun y1 hy1 hr=>?_
 obtain⟨F,hF,hcl⟩:=H.call
 refine (CA ok13 (j1a hy1 (hF.get (i:=1) rfl))) ?_
 rintro _ w4 hE ⟨A3,n3,c3,rfl,H'⟩
 have H:HL F0 [] w0 w4 d1 [.B b1 25 d2,.B b2 31 d3,.B b3 31 d3,.G 69 y1 (.slice A3 n3 c3)]:=hcl H'
 refine (D 0) ((SB H 2) fun w5 H=>Z (R ((D 1) ((L H 0) ?_))))
 refine bb hr fun y2 hy2 hr=>?_
 obtain⟨F,hF,hcl⟩:=H.call
 refine (CA ok14 (j3g hy2 (hF.get (i:=2) rfl))) ?_
 rintro _ w6 hE ⟨A4,n4,c4,rfl,H'⟩
 have H:HL F0 [] w0 w6 d1 [.B b1 25 d2,.B b2 31 d3,.B b3 31 [.slice A3 n3 c3,.slice none 0 0],.G 69 y1 (.slice A3 n3 c3),.G 65 y2 (.slice A4 n4 c4)]:=hcl H'
 refine (D 1) ((SB H 2) fun w7 H=>Z (R ((LB H 2) ((SB H 1) fun w8 H=>Z (CR ?_)))))
 obtain rfl:=sm hr
 exact⟨_,resC rfl ag31 sz31 rfl rfl (ab H 1) rfl,H.ext0,_,_,_,_,_,_,rfl,H.outM (fr':=[]) [false,false,false,true,true] tw⟩
def q8e (a0 a1:Attribute):Option Bool:=if a0.Name=a1.Name then if a0.Type_=a1.Type_ then if a0.Mode=a1.Mode then if a0.Circular=a1.Circular then some true else some false else some false else some false else some false
theorem z9a {a0 a1}{r}(hr:q8e a0 a1=some r){ca0}(ha0:rd F0 w0 a0 ca0){ca1}(ha1:rd F0 w0 a1 ca1):RB 119 #[ag ca0,ag ca1] w0 r:=by
 let d2:List Pr:=[.R a0 (q3k a0),.R a1 (q3k a1)]
 have H:=((HL.start F0 w0).argR ha0).argR ha1
 obtain⟨rfl,hS1,hI1,hI2,H⟩:=q5Y H 0
 obtain⟨rfl,hS2,hI3,hI4,H⟩:=q5Y H 1
 refine (En Tryz.func119) ?_
 refine R ((BX H) fun b1 w1 H=>(BX H) fun b2 w2 H=>(A) (Z (Y (R ((D 0) ((L H 0) ((D 0) ((L H 1) ((BZ) (iN hr (fun _ hr=>?_) fun _ hr=>?_))))))))))
 ·exact R ((AZ) (W1 hr))
 let d1:List It:=[.B b1 120 (q3k a0),.B b2 120 (q3k a1)]
 refine K (Y (R ((D 1) ((L H 0) ((D 1) ((L H 1) ((BZ) (iN hr (fun _ hr=>?_) fun _ hr=>?_))))))))
 ·exact R ((AZ) (W1 hr))
 refine K (Y (R ((D 2) ((L H 0) ((D 2) ((L H 1) ((BZ) (iN hr (fun _ hr=>?_) fun _ hr=>?_))))))))
 ·exact R ((AZ) (W1 hr))
 refine K (Y (R ((D 3) ((L H 0) ((D 3) ((L H 1) ((BN (q1b Tryz.underlying4)) (Z (iN hr (fun _ hr=>?_) fun _ hr=>?_)))))))))
 ·refine Y ?_
  refine q0e [] trivial fun σ=>?_
  have H:HL F0 [] w0 w2 d2 d1:=H
  exact X ((AZ) (W1 hr))
 refine K (Y ?_)
 refine q0e [] trivial fun σ=>?_
 have H:HL F0 [] w0 w2 d2 d1:=H
 exact X ((AZ) (W1 hr))
def z3w (a1:(List Attribute)):Nat→Attribute→Unit→Option (Unit ⊕ Bool):=fun k1 x1 _=>(a1[k1]?).bind fun x2=>(q8e x1 x2).bind fun y1=>if y1=true then some (.inl ()) else some (.inr false)
def z1w (a0 a1:(List Attribute)):Option Bool:=if (a0.length:Int)=(a1.length:Int) then (q2I (z3w a1) 0 a0 ()).bind <| onr (fun r1=>some r1) fun _=>some true else some false
theorem z7T {a0 a1}{r}(hr:z1w a0 a1=some r){z0}(ha0:rdS F0 w0 a0 z0){z1}(ha1:rdS F0 w0 a1 z1):RB 70 #[z0,z1] w0 r:=by
 obtain⟨A0',n0',c0',rfl⟩:=ha0.form3
 obtain⟨A1',n1',c1',rfl⟩:=ha1.form3
 have H:=((HL.start F0 w0).argS ha0).argS ha1
 refine (En Tryz.func70) ?_
 refine R ((A) (Z (Y (R ((V) ((NI H 0) fun hl1=>(V) ((NI H 1) fun hl2=>(BZ) (iN hr (fun _ hr=>?_) fun _ hr=>?_))))))))
 ·exact R ((AZ) (W1 hr))
 refine K (Y (R ((AZ) ?_)))
 refine bb hr fun q1 hq1 hr=>?_
 refine (lF hq1 (fun k1 _ _=>[(0,.slice A0' n0' c0'),(1,.slice A1' n1' c1'),(5,zN k1)]) (fun _ _ w=>HL F0 [] w0 w [.S a0 (.slice A0' n0' c0'),.S a1 (.slice A1' n1' c1')] []) ()) ?_
 rintro k1 _ _ σ w1 hk1 hq1 H
 refine Y (R ((V) ((V) ((NN (rs H 0)) ((BZ) ?_)))))
 refine (iF hq1 hr (fun hk2 x1 z1 hx1 hb1 hs1 ht1=>?_) fun hr=>?_)
 ·refine K (Y ?_)
  refine Bk (Y ?_)
  refine q0g hmix (by kernel_rfl) ?_
  refine (qV) ((qV) ?_)
  obtain⟨b1,ob1,cb1,hvb1,hS1,hI1,hI2,H⟩:=q4L H 0 hx1
  refine (qJ 4 hvb1 hx1) ((qLA H 2) ((qV) ((qV) ?_)))
  refine bb hb1 fun x2 hx2 hb1=>?_
  obtain⟨b2,ob2,cb2,hvb2,hS2,hI3,hI4,H⟩:=q4L H 1 hx2
  refine (qJ 4 hvb2 hx2) ((qLA H 4) ?_)
  refine bb hb1 fun y1 hy1 hb1=>?_
  refine (qC k3t (fun _ hq=>z9a hy1 (F0:=nF) ⟨rfl,hS1,hI1,hI2⟩ ⟨rfl,hS2,hI3,hI4⟩)) ?_
  refine (qN) ?_
  refine QL.nil (fun w2 hE=>?_)
  have H:=H.ext hE
  refine iM hb1 (fun _ hb1=>?_) fun _ hb1=>?_
  ·exact R ((AZ) (W2 hb1 ht1 hr))
  exact K (X ((V) ((AN hk2 hl1) ((A) (Z (I2 hb1 hs1 ⟨k1+1,(),()⟩))))))
 exact CE (R ((AZ) (W1 hr)))
def z1x (a0 a1:Symbol):Option Bool:=if a0.Name=a1.Name then (z1w a0.Attributes a1.Attributes).bind fun y1=>if y1=true then some true else some false else some false
theorem j2a {a0 a1}{r}(hr:z1x a0 a1=some r){ca0}(ha0:rd F0 w0 a0 ca0){ca1}(ha1:rd F0 w0 a1 ca1):RB 32 #[ag ca0,ag ca1] w0 r:=by
 have H:=((HL.start F0 w0).argR ha0).argR ha1
 obtain⟨A1,n1,c1,rfl,hS1,H⟩:=q6T H 0
 obtain⟨A2,n2,c2,rfl,hS2,H⟩:=q6T H 1
 refine (En Tryz.func32) ?_
 refine R ((BX H) fun b1 w1 H=>(BX H) fun b2 w2 H=>(A) (Z (Y (R ((D 0) ((L H 0) ((D 0) ((L H 1) ((BZ) (iN hr (fun _ hr=>?_) fun _ hr=>?_))))))))))
 ·exact R ((AZ) (W1 hr))
 refine K (Y (R ((D 1) ((L H 0) ((D 1) ((L H 1) ?_))))))
 refine bb hr fun y1 hy1 hr=>?_
 refine (CA ok70 (z7T hy1 (rs H 2) (rs H 3))) (cE H fun w3 H=>(N) (Z (iM hr (fun _ hr=>?_) fun _ hr=>?_)))
 ·exact R ((AZ) (W1 hr))
 exact K (R ((AZ) (W1 hr)))
def z6q (a1:(List Symbol)):Nat→Symbol→Unit→Option (Unit ⊕ Bool):=fun k1 x1 _=>(a1[k1]?).bind fun x2=>(z1x x1 x2).bind fun y1=>if y1=true then some (.inl ()) else some (.inr false)
def z4j (a0 a1:(List Symbol)):Option Bool:=if (a0.length:Int)=(a1.length:Int) then (q2I (z6q a1) 0 a0 ()).bind <| onr (fun r1=>some r1) fun _=>some true else some false
theorem j1c {a0 a1}{r}(hr:z4j a0 a1=some r){z0}(ha0:rdS F0 w0 a0 z0){z1}(ha1:rdS F0 w0 a1 z1):RB 17 #[z0,z1] w0 r:=by
 obtain⟨A0',n0',c0',rfl⟩:=ha0.form3
 obtain⟨A1',n1',c1',rfl⟩:=ha1.form3
 have H:=((HL.start F0 w0).argS ha0).argS ha1
 refine (En Tryz.func17) ?_
 refine R ((A) (Z (Y (R ((V) ((NI H 0) fun hl1=>(V) ((NI H 1) fun hl2=>(BZ) (iN hr (fun _ hr=>?_) fun _ hr=>?_))))))))
 ·exact R ((AZ) (W1 hr))
 refine K (Y (R ((AZ) ?_)))
 refine bb hr fun q1 hq1 hr=>?_
 refine (lF hq1 (fun k1 _ _=>[(0,.slice A0' n0' c0'),(1,.slice A1' n1' c1'),(5,zN k1)]) (fun _ _ w=>HL F0 [] w0 w [.S a0 (.slice A0' n0' c0'),.S a1 (.slice A1' n1' c1')] []) ()) ?_
 rintro k1 _ _ σ w1 hk1 hq1 H
 refine Y (R ((V) ((V) ((NN (rs H 0)) ((BZ) ?_)))))
 refine (iF hq1 hr (fun hk2 x1 z1 hx1 hb1 hs1 ht1=>?_) fun hr=>?_)
 ·refine K (Y ?_)
  refine Bk (Y ?_)
  refine q0g hmix (by kernel_rfl) ?_
  refine (qV) ((qV) ?_)
  obtain⟨b1,ob1,cb1,A1,n1,c1,hvb1,hS1,H⟩:=q4B H 0 hx1
  refine (qJ 2 hvb1 hx1) ((qLA H 2) ((qV) ((qV) ?_)))
  refine bb hb1 fun x2 hx2 hb1=>?_
  obtain⟨b2,ob2,cb2,A2,n2,c2,hvb2,hS2,H⟩:=q4B H 1 hx2
  refine (qJ 2 hvb2 hx2) ((qLA H 5) ?_)
  refine bb hb1 fun y1 hy1 hb1=>?_
  refine (qC ok32 (fun _ hq=>j2a hy1 ⟨_,rfl,hS1,(rs (H.ext hq) 4)⟩ ⟨_,rfl,hS2,(rs (H.ext hq) 7)⟩)) ?_
  refine (qN) ?_
  refine QL.nil (fun w2 hE=>?_)
  have H:=H.ext hE
  refine iM hb1 (fun _ hb1=>?_) fun _ hb1=>?_
  ·exact R ((AZ) (W2 hb1 ht1 hr))
  exact K (X ((V) ((AN hk2 hl1) ((A) (Z (I2 hb1 hs1 ⟨k1+1,(),()⟩))))))
 exact CE (R ((AZ) (W1 hr)))
def z3l (a1:(List ByteArray)):Nat→ByteArray→Unit→Option (Unit ⊕ Bool):=fun k1 x1 _=>(a1[k1]?).bind fun x2=>if x1=x2 then some (.inl ()) else some (.inr false)
def z4k (a0 a1:(List ByteArray)):Option Bool:=if (a0.length:Int)=(a1.length:Int) then (q2I (z3l a1) 0 a0 ()).bind <| onr (fun r1=>some r1) fun _=>some true else some false
theorem j1d {a0 a1}{r}(hr:z4k a0 a1=some r){z0}(ha0:rdS F0 w0 a0 z0){z1}(ha1:rdS F0 w0 a1 z1):RB 71 #[z0,z1] w0 r:=by
 obtain⟨A0',n0',c0',rfl⟩:=ha0.form3
 obtain⟨A1',n1',c1',rfl⟩:=ha1.form3
 have H:=((HL.start F0 w0).argS ha0).argS ha1
 refine (En Tryz.func71) ?_
 refine R ((A) (Z (Y (R ((V) ((NI H 0) fun hl1=>(V) ((NI H 1) fun hl2=>(BZ) (iN hr (fun _ hr=>?_) fun _ hr=>?_))))))))
 ·exact R ((AZ) (W1 hr))
 refine K (Y (R ((AZ) ?_)))
 refine bb hr fun q1 hq1 hr=>?_
 refine (lF hq1 (fun k1 _ _=>[(0,.slice A0' n0' c0'),(1,.slice A1' n1' c1'),(5,zN k1)]) (fun _ _ w=>HL F0 [] w0 w [.S a0 (.slice A0' n0' c0'),.S a1 (.slice A1' n1' c1')] []) ()) ?_
 rintro k1 _ _ σ w1 hk1 hq1 H
 refine Y (R ((V) ((V) ((NN (rs H 0)) ((BZ) ?_)))))
 refine (iF hq1 hr (fun hk2 x1 z1 hx1 hb1 hs1 ht1=>?_) fun hr=>?_)
 ·refine K (Y ?_)
  refine Bk (Y ?_)
  refine q0g hmix (by kernel_rfl) ?_
  refine (qV) ((qV) ?_)
  obtain⟨b1,ob1,cb1,hvb1,hS1,H⟩:=q8q H 0 hx1
  refine (qJ 1 hvb1 hx1) ((qL0 H 2) ((qV) ((qV) ?_)))
  refine bb hb1 fun x2 hx2 hb1=>?_
  obtain⟨b2,ob2,cb2,hvb2,hS2,H⟩:=q8q H 1 hx2
  refine (qJ 1 hvb2 hx2) ((qL0 H 4) ((qB) ?_))
  refine QL.nil (fun w2 hE=>?_)
  have H:=H.ext hE
  refine iN hb1 (fun _ hb1=>?_) fun _ hb1=>?_
  ·exact R ((AZ) (W2 hb1 ht1 hr))
  exact K (X ((V) ((AN hk2 hl1) ((A) (Z (I2 hb1 hs1 ⟨k1+1,(),()⟩))))))
 exact CE (R ((AZ) (W1 hr)))
def q8Z (a0 a1:Occurrence):Option Bool:=if a0.Pos=a1.Pos then if a0.Name=a1.Name then some true else some false else some false
theorem z7U {a0 a1}{r}(hr:q8Z a0 a1=some r){ca0}(ha0:rd F0 w0 a0 ca0){ca1}(ha1:rd F0 w0 a1 ca1):RB 166 #[ag ca0,ag ca1] w0 r:=by
 have H:=((HL.start F0 w0).argR ha0).argR ha1
 obtain⟨rfl,hI1,hS1,H⟩:=q2R H 0
 obtain⟨rfl,hI2,hS2,H⟩:=q2R H 1
 refine (En Tryz.func166) ?_
 refine R ((BX H) fun b1 w1 H=>(BX H) fun b2 w2 H=>(A) (Z (Y (R ((D 0) ((L H 0) ((D 0) ((L H 1) ((BZ) (iN hr (fun _ hr=>?_) fun _ hr=>?_))))))))))
 ·exact R ((AZ) (W1 hr))
 refine K (Y (R ((D 1) ((L H 0) ((D 1) ((L H 1) ((BZ) (iN hr (fun _ hr=>?_) fun _ hr=>?_))))))))
 ·exact R ((AZ) (W1 hr))
 exact K (R ((AZ) (W1 hr)))
def z9b (rec_weqExpr:Expr→Expr→Option Bool)(a1:(List Expr)):Nat→Expr→Unit→Option (Unit ⊕ Bool):=fun k1 x1 _=>(a1[k1]?).bind fun x2=>(rec_weqExpr x1 x2).bind fun y1=>if y1=true then some (.inl ()) else some (.inr false)
def z6V (rec_weqExpr:Expr→Expr→Option Bool)(a0 a1:(List Expr)):Option Bool:=if (a0.length:Int)=(a1.length:Int) then (q2I (z9b rec_weqExpr a1) 0 a0 ()).bind <| onr (fun r1=>some r1) fun _=>some true else some false
theorem j3h {rec_weqExpr:Expr→Expr→Option Bool}(ih_weqExpr:∀ {a0 a1:Expr} {r:Bool},rec_weqExpr a0 a1=some r→∀ {F0:Nat→Prop} {w0:World} {ca0} (ha0:rd F0 w0 a0 ca0) {ca1} (ha1:rd F0 w0 a1 ca1),RB 167 #[ag ca0,ag ca1] w0 r){a0 a1}{r}(hr:z6V rec_weqExpr a0 a1=some r){z0}(ha0:rdS F0 w0 a0 z0){z1}(ha1:rdS F0 w0 a1 z1):RB 196 #[z0,z1] w0 r:=by
 obtain⟨A0',n0',c0',rfl⟩:=ha0.form3
 obtain⟨A1',n1',c1',rfl⟩:=ha1.form3
 have H:=((HL.start F0 w0).argS ha0).argS ha1
 refine (En Tryz.func196) ?_
 refine R ((A) (Z (Y (R ((V) ((NI H 0) fun hl1=>(V) ((NI H 1) fun hl2=>(BZ) (iN hr (fun _ hr=>?_) fun _ hr=>?_))))))))
 ·exact R ((AZ) (W1 hr))
 refine K (Y (R ((AZ) ?_)))
 refine bb hr fun q1 hq1 hr=>?_
 refine (lF hq1 (fun k1 _ _=>[(0,.slice A0' n0' c0'),(1,.slice A1' n1' c1'),(5,zN k1)]) (fun _ _ w=>HL F0 [] w0 w [.S a0 (.slice A0' n0' c0'),.S a1 (.slice A1' n1' c1')] []) ()) ?_
 rintro k1 _ _ σ w1 hk1 hq1 H
 refine Y (R ((V) ((V) ((NN (rs H 0)) ((BZ) ?_)))))
 refine (iF hq1 hr (fun hk2 x1 z1 hx1 hb1 hs1 ht1=>?_) fun hr=>?_)
 ·refine K (Y ?_)
  refine Bk (Y ?_)
  refine q0g hmix (by kernel_rfl) ?_
  refine (qV) ((qV) ?_)
  obtain⟨b1,ob1,cb1,A1,n1,c1,hvb1,hI1,hI2,hI3,hI4,hS1,hS2,H⟩:=q4G H 0 hx1
  refine (qJ 7 hvb1 hx1) ((qLA H 2) ((qV) ((qV) ?_)))
  refine bb hb1 fun x2 hx2 hb1=>?_
  obtain⟨b2,ob2,cb2,A2,n2,c2,hvb2,hI5,hI6,hI7,hI8,hS3,hS4,H⟩:=q4G H 1 hx2
  refine (qJ 7 hvb2 hx2) ((qLA H 5) ?_)
  refine bb hb1 fun y1 hy1 hb1=>?_
  refine (qC j7O (fun _ hq=>ih_weqExpr hy1 (q2F.2 ⟨_,rfl,hI1,hI2,hI3,hI4,hS1,hS2,(rs (H.ext hq) 4)⟩) (q2F.2 ⟨_,rfl,hI5,hI6,hI7,hI8,hS3,hS4,(rs (H.ext hq) 7)⟩))) ?_
  refine (qN) ?_
  refine QL.nil (fun w2 hE=>?_)
  have H:=H.ext hE
  refine iM hb1 (fun _ hb1=>?_) fun _ hb1=>?_
  ·exact R ((AZ) (W2 hb1 ht1 hr))
  exact K (X ((V) ((AN hk2 hl1) ((A) (Z (I2 hb1 hs1 ⟨k1+1,(),()⟩))))))
 exact CE (R ((AZ) (W1 hr)))
def z6r (rec_weqExpr:Expr→Expr→Option Bool)(a0 a1:Expr):Option Bool:=if a0.Kind=a1.Kind then if a0.N=a1.N then if a0.Pos=a1.Pos then if a0.Type_=a1.Type_ then if a0.Symbol=a1.Symbol then if a0.Name=a1.Name then (z6V rec_weqExpr a0.Args a1.Args).bind fun y1=>if y1=true then some true else some false else some false else some false else some false else some false else some false else some false
theorem j3i {rec_weqExpr:Expr→Expr→Option Bool}(ih_weqExpr:∀ {a0 a1:Expr} {r:Bool},rec_weqExpr a0 a1=some r→∀ {F0:Nat→Prop} {w0:World} {ca0} (ha0:rd F0 w0 a0 ca0) {ca1} (ha1:rd F0 w0 a1 ca1),RB 167 #[ag ca0,ag ca1] w0 r){a0 a1}{r}(hr:z6r rec_weqExpr a0 a1=some r){ca0}(ha0:rd F0 w0 a0 ca0){ca1}(ha1:rd F0 w0 a1 ca1):RB 167 #[ag ca0,ag ca1] w0 r:=by
 have H:=((HL.start F0 w0).argR ha0).argR ha1
 obtain⟨A1,n1,c1,rfl,hI1,hI2,hI3,hI4,hS1,hS2,H⟩:=q3X H 0
 obtain⟨A2,n2,c2,rfl,hI5,hI6,hI7,hI8,hS3,hS4,H⟩:=q3X H 1
 let d1:List Pr:=[.R a0 (q2T a0 A1 n1 c1),.R a1 (q2T a1 A2 n2 c2),.S a0.Args (.slice A1 n1 c1),.S a1.Args (.slice A2 n2 c2)]
 refine (En Tryz.func167) ?_
 refine R ((BX H) fun b1 w1 H=>(BX H) fun b2 w2 H=>(A) (Z (Y (R ((D 0) ((L H 0) ((D 0) ((L H 1) ((BZ) (iN hr (fun _ hr=>?_) fun _ hr=>?_))))))))))
 ·exact R ((AZ) (W1 hr))
 let d2:List It:=[.B b1 125 (q2T a0 A1 n1 c1),.B b2 125 (q2T a1 A2 n2 c2)]
 refine K (Y (R ((D 1) ((L H 0) ((D 1) ((L H 1) ((BZ) (iN hr (fun _ hr=>?_) fun _ hr=>?_))))))))
 ·exact R ((AZ) (W1 hr))
 refine K (Y (R ((D 2) ((L H 0) ((D 2) ((L H 1) ((BZ) (iN hr (fun _ hr=>?_) fun _ hr=>?_))))))))
 ·exact R ((AZ) (W1 hr))
 refine K (Y (R ((D 3) ((L H 0) ((D 3) ((L H 1) ((BZ) (iN hr (fun _ hr=>?_) fun _ hr=>?_))))))))
 ·refine Y ?_
  refine q0e [] trivial fun σ=>?_
  have H:HL F0 [] w0 w2 d1 d2:=H
  exact X ((AZ) (W1 hr))
 refine K (Y (Y ?_))
 refine q0e [(2,pB b1),(3,pB b2)] ⟨rfl,rfl,trivial⟩ fun σ=>?_
 have H:HL F0 [] w0 w2 d1 d2:=H
 refine X ((D 4) ((L H 0) ((D 4) ((L H 1) ((BZ) (iN hr (fun _ hr=>?_) fun _ hr=>?_))))))
 ·exact R ((AZ) (W1 hr))
 refine K (Y (R ((D 5) ((L H 0) ((D 5) ((L H 1) ((BZ) (iN hr (fun _ hr=>?_) fun _ hr=>?_))))))))
 ·exact R ((AZ) (W1 hr))
 refine K (Y (R ((D 6) ((L H 0) ((D 6) ((L H 1) ?_))))))
 refine bb hr fun y1 hy1 hr=>?_
 refine (CA k3B (j3h ih_weqExpr hy1 (rs H 2) (rs H 3))) (cE H fun w3 H=>(N) (Z (iM hr (fun _ hr=>?_) fun _ hr=>?_)))
 ·exact R ((AZ) (W1 hr))
 exact K (R ((AZ) (W1 hr)))
def z0f:Nat→Expr→Expr→Option Bool
  | 0,_,_=>none
  | n+1,a0,a1=>z6r (z0f n) a0 a1
def z4l (a0 a1:Expr):Option Bool:=recO fun n=>z0f n a0 a1
theorem j3j (n:Nat):∀ {a0 a1:Expr} {r:Bool},z0f n a0 a1=some r→∀ {F0:Nat→Prop} {w0:World} {ca0} (ha0:rd F0 w0 a0 ca0) {ca1} (ha1:rd F0 w0 a1 ca1),RB 167 #[ag ca0,ag ca1] w0 r:=by
 induction n with
 | zero=>intro a0 a1 r hr; exact nomatch (show (none:Option Bool)=some r from hr)
 | succ n ih=>intro a0 a1 r hr; exact j3i ih hr
theorem z6W {a0 a1}{r}(hr:z4l a0 a1=some r){ca0}(ha0:rd F0 w0 a0 ca0){ca1}(ha1:rd F0 w0 a1 ca1):RB 167 #[ag ca0,ag ca1] w0 r:=by
 obtain⟨n,hn⟩:=q5m hr
 exact j3j n hn ha0 ha1
def q9a (a0 a1:Equation):Option Bool:=(q8Z a0.At a1.At).bind fun y1=>if y1=true then (z4l a0.Expr a1.Expr).bind fun y2=>if y2=true then some true else some false else some false
theorem z9R {a0 a1}{r}(hr:q9a a0 a1=some r){ca0}(ha0:rd F0 w0 a0 ca0){ca1}(ha1:rd F0 w0 a1 ca1):RB 120 #[ag ca0,ag ca1] w0 r:=by
 have H:=((HL.start F0 w0).argR ha0).argR ha1
 obtain⟨A1,n1,c1,rfl,hI1,hS1,hI2,hI3,hI4,hI5,hS2,hS3,H⟩:=q8r H 0
 obtain⟨A2,n2,c2,rfl,hI6,hS4,hI7,hI8,hI9,hI10,hS5,hS6,H⟩:=q8r H 1
 refine (En Tryz.func120) ?_
 refine R ((BX H) fun b1 w1 H=>(BX H) fun b2 w2 H=>(A) (Z (Y (R ((D 0) ?_)))))
 refine q0b rfl rfl (q0c rfl z1W q3Y rfl (Blk.part (rb H 0) 0 2) rfl) ((D 0) ?_)
 refine q0b rfl rfl (q0c rfl z1W q3Y rfl (Blk.part (rb H 1) 0 2) rfl) ?_
 refine bb hr fun y1 hy1 hr=>?_
 refine (CA k3y (z7U hy1 (F0:=nF) ⟨rfl,hI1,hS1⟩ ⟨rfl,hI6,hS4⟩)) (cE H fun w3 H=>(N) (Z (iM hr (fun _ hr=>?_) fun _ hr=>?_)))
 ·exact R ((AZ) (W1 hr))
 refine K (Y (R ((D 2) ?_)))
 refine q0b rfl rfl (q0c rfl q7S q5E rfl (Blk.part (rb H 0) 2 7) rfl) ((D 2) ?_)
 refine q0b rfl rfl (q0c rfl q7S q5E rfl (Blk.part (rb H 1) 2 7) rfl) ?_
 refine bb hr fun y2 hy2 hr=>?_
 refine (CA j7O (z6W hy2 (q2F.2 ⟨_,rfl,hI2,hI3,hI4,hI5,hS2,hS3,(rs H 2)⟩) (q2F.2 ⟨_,rfl,hI7,hI8,hI9,hI10,hS5,hS6,(rs H 3)⟩))) (cE H fun w4 H=>(N) (Z (iM hr (fun _ hr=>?_) fun _ hr=>?_)))
 ·exact R ((AZ) (W1 hr))
 exact K (R ((AZ) (W1 hr)))
def z4m (a1:(List Equation)):Nat→Equation→Unit→Option (Unit ⊕ Bool):=fun k1 x1 _=>(a1[k1]?).bind fun x2=>(q9a x1 x2).bind fun y1=>if y1=true then some (.inl ()) else some (.inr false)
def z2g (a0 a1:(List Equation)):Option Bool:=if (a0.length:Int)=(a1.length:Int) then (q2I (z4m a1) 0 a0 ()).bind <| onr (fun r1=>some r1) fun _=>some true else some false
theorem z9c {a0 a1}{r}(hr:z2g a0 a1=some r){z0}(ha0:rdS F0 w0 a0 z0){z1}(ha1:rdS F0 w0 a1 z1):RB 72 #[z0,z1] w0 r:=by
 obtain⟨A0',n0',c0',rfl⟩:=ha0.form3
 obtain⟨A1',n1',c1',rfl⟩:=ha1.form3
 have H:=((HL.start F0 w0).argS ha0).argS ha1
 refine (En Tryz.func72) ?_
 refine R ((A) (Z (Y (R ((V) ((NI H 0) fun hl1=>(V) ((NI H 1) fun hl2=>(BZ) (iN hr (fun _ hr=>?_) fun _ hr=>?_))))))))
 ·exact R ((AZ) (W1 hr))
 refine K (Y (R ((AZ) ?_)))
 refine bb hr fun q1 hq1 hr=>?_
 refine (lF hq1 (fun k1 _ _=>[(0,.slice A0' n0' c0'),(1,.slice A1' n1' c1'),(5,zN k1)]) (fun _ _ w=>HL F0 [] w0 w [.S a0 (.slice A0' n0' c0'),.S a1 (.slice A1' n1' c1')] []) ()) ?_
 rintro k1 _ _ σ w1 hk1 hq1 H
 refine Y (R ((V) ((V) ((NN (rs H 0)) ((BZ) ?_)))))
 refine (iF hq1 hr (fun hk2 x1 z1 hx1 hb1 hs1 ht1=>?_) fun hr=>?_)
 ·refine K (Y ?_)
  refine Bk (Y ?_)
  refine q0g hmix (by kernel_rfl) ?_
  refine (qV) ((qV) ?_)
  obtain⟨b1,ob1,cb1,A1,n1,c1,hvb1,hI1,hS1,hI2,hI3,hI4,hI5,hS2,hS3,H⟩:=q4k H 0 hx1
  refine (qJ 9 hvb1 hx1) ((qLA H 2) ((qV) ((qV) ?_)))
  refine bb hb1 fun x2 hx2 hb1=>?_
  obtain⟨b2,ob2,cb2,A2,n2,c2,hvb2,hI6,hS4,hI7,hI8,hI9,hI10,hS5,hS6,H⟩:=q4k H 1 hx2
  refine (qJ 9 hvb2 hx2) ((qLA H 5) ?_)
  refine bb hb1 fun y1 hy1 hb1=>?_
  refine (qC k3u (fun _ hq=>z9R hy1 ⟨_,rfl,hI1,hS1,hI2,hI3,hI4,hI5,hS2,hS3,(rs (H.ext hq) 4)⟩ ⟨_,rfl,hI6,hS4,hI7,hI8,hI9,hI10,hS5,hS6,(rs (H.ext hq) 7)⟩)) ?_
  refine (qN) ?_
  refine QL.nil (fun w2 hE=>?_)
  have H:=H.ext hE
  refine iM hb1 (fun _ hb1=>?_) fun _ hb1=>?_
  ·exact R ((AZ) (W2 hb1 ht1 hr))
  exact K (X ((V) ((AN hk2 hl1) ((A) (Z (I2 hb1 hs1 ⟨k1+1,(),()⟩))))))
 exact CE (R ((AZ) (W1 hr)))
def q6y (a0 a1:Contribution):Option Bool:=if a0.Symbol=a1.Symbol then if a0.Name=a1.Name then (z4l a0.Target a1.Target).bind fun y1=>if y1=true then (z4l a0.Value a1.Value).bind fun y2=>if y2=true then some true else some false else some false else some false else some false
theorem z6s {a0 a1}{r}(hr:q6y a0 a1=some r){ca0}(ha0:rd F0 w0 a0 ca0){ca1}(ha1:rd F0 w0 a1 ca1):RB 121 #[ag ca0,ag ca1] w0 r:=by
 have H:=((HL.start F0 w0).argR ha0).argR ha1
 obtain⟨A1,n1,c1,A2,n2,c2,rfl,hS1,hS2,hI1,hI2,hI3,hI4,hS3,hS4,hI5,hI6,hI7,hI8,hS5,hS6,H⟩:=q8D H 0
 let d3:=q4K a0 A1 n1 c1 A2 n2 c2
 obtain⟨A3,n3,c3,A4,n4,c4,rfl,hS7,hS8,hI9,hI10,hI11,hI12,hS9,hS10,hI13,hI14,hI15,hI16,hS11,hS12,H⟩:=q8D H 1
 let d4:=q4K a1 A3 n3 c3 A4 n4 c4
 let d1:List Pr:=[.R a0 d3,.R a1 d4,.S a0.Target.Args (.slice A1 n1 c1),.S a0.Value.Args (.slice A2 n2 c2),.S a1.Target.Args (.slice A3 n3 c3),.S a1.Value.Args (.slice A4 n4 c4)]
 refine (En Tryz.func121) ?_
 refine R ((BX H) fun b1 w1 H=>(BX H) fun b2 w2 H=>(A) (Z (Y (R ((D 0) ((L H 0) ((D 0) ((L H 1) ((BZ) (iN hr (fun _ hr=>?_) fun _ hr=>?_))))))))))
 ·exact R ((AZ) (W1 hr))
 let d2:List It:=[.B b1 132 d3,.B b2 132 d4]
 refine K (Y (R ((D 1) ((L H 0) ((D 1) ((L H 1) ((BZ) (iN hr (fun _ hr=>?_) fun _ hr=>?_))))))))
 ·exact R ((AZ) (W1 hr))
 refine K (Y (R ((D 2) ?_)))
 refine q0b rfl rfl (q0c rfl q7S q5E rfl (Blk.part (rb H 0) 2 7) rfl) ((D 2) ?_)
 refine q0b rfl rfl (q0c rfl q7S q5E rfl (Blk.part (rb H 1) 2 7) rfl) ?_
 refine bb hr fun y1 hy1 hr=>?_
 refine (CA j7O (z6W hy1 (q2F.2 ⟨_,rfl,hI1,hI2,hI3,hI4,hS3,hS4,(rs H 2)⟩) (q2F.2 ⟨_,rfl,hI9,hI10,hI11,hI12,hS9,hS10,(rs H 4)⟩))) (cE H fun w3 H=>(N) (Z (iM hr (fun _ hr=>?_) fun _ hr=>?_)))
 ·exact R ((AZ) (W1 hr))
 refine K (Y (R ((D 9) ?_)))
 refine q0b rfl rfl (q0c rfl q7S q5E rfl (Blk.part (rb H 0) 9 7) rfl) ((D 9) ?_)
 refine q0b rfl rfl (q0c rfl q7S q5E rfl (Blk.part (rb H 1) 9 7) rfl) ?_
 refine bb hr fun y2 hy2 hr=>?_
 refine (CA j7O (z6W hy2 (q2F.2 ⟨_,rfl,hI5,hI6,hI7,hI8,hS5,hS6,(rs H 3)⟩) (q2F.2 ⟨_,rfl,hI13,hI14,hI15,hI16,hS11,hS12,(rs H 5)⟩))) (cE H fun w4 H=>(N) (Z (iM hr (fun _ hr=>?_) fun _ hr=>?_)))
 ·refine Y ?_
  refine q0e [] trivial fun σ=>?_
  have H:HL F0 [] w0 w4 d1 d2:=H
  exact X ((AZ) (W1 hr))
 refine K (Y ?_)
 refine q0e [] trivial fun σ=>?_
 have H:HL F0 [] w0 w4 d1 d2:=H
 exact X ((AZ) (W1 hr))
def z1y (a1:(List Contribution)):Nat→Contribution→Unit→Option (Unit ⊕ Bool):=fun k1 x1 _=>(a1[k1]?).bind fun x2=>(q6y x1 x2).bind fun y1=>if y1=true then some (.inl ()) else some (.inr false)
def q9b (a0 a1:(List Contribution)):Option Bool:=if (a0.length:Int)=(a1.length:Int) then (q2I (z1y a1) 0 a0 ()).bind <| onr (fun r1=>some r1) fun _=>some true else some false
theorem z5y {a0 a1}{r}(hr:q9b a0 a1=some r){z0}(ha0:rdS F0 w0 a0 z0){z1}(ha1:rdS F0 w0 a1 z1):RB 73 #[z0,z1] w0 r:=by
 obtain⟨A0',n0',c0',rfl⟩:=ha0.form3
 obtain⟨A1',n1',c1',rfl⟩:=ha1.form3
 have H:=((HL.start F0 w0).argS ha0).argS ha1
 refine (En Tryz.func73) ?_
 refine R ((A) (Z (Y (R ((V) ((NI H 0) fun hl1=>(V) ((NI H 1) fun hl2=>(BZ) (iN hr (fun _ hr=>?_) fun _ hr=>?_))))))))
 ·exact R ((AZ) (W1 hr))
 refine K (Y (R ((AZ) ?_)))
 refine bb hr fun q1 hq1 hr=>?_
 refine (lF hq1 (fun k1 _ _=>[(0,.slice A0' n0' c0'),(1,.slice A1' n1' c1'),(5,zN k1)]) (fun _ _ w=>HL F0 [] w0 w [.S a0 (.slice A0' n0' c0'),.S a1 (.slice A1' n1' c1')] []) ()) ?_
 rintro k1 _ _ σ w1 hk1 hq1 H
 refine Y (R ((V) ((V) ((NN (rs H 0)) ((BZ) ?_)))))
 refine (iF hq1 hr (fun hk2 x1 z1 hx1 hb1 hs1 ht1=>?_) fun hr=>?_)
 ·refine K (Y ?_)
  refine Bk (Y ?_)
  refine q0g hmix (by kernel_rfl) ?_
  refine (qV) ((qV) ?_)
  obtain⟨b1,ob1,cb1,A1,n1,c1,A2,n2,c2,hvb1,hS1,hS2,hI1,hI2,hI3,hI4,hS3,hS4,hI5,hI6,hI7,hI8,hS5,hS6,H⟩:=q4d H 0 hx1
  refine (qJ 16 hvb1 hx1) ((qLA H 2) ((qV) ((qV) ?_)))
  refine bb hb1 fun x2 hx2 hb1=>?_
  obtain⟨b2,ob2,cb2,A3,n3,c3,A4,n4,c4,hvb2,hS7,hS8,hI9,hI10,hI11,hI12,hS9,hS10,hI13,hI14,hI15,hI16,hS11,hS12,H⟩:=q4d H 1 hx2
  refine (qJ 16 hvb2 hx2) ((qLA H 6) ?_)
  refine bb hb1 fun y1 hy1 hb1=>?_
  refine (qC k3v (fun _ hq=>z6s hy1 ⟨_,_,rfl,hS1,hS2,hI1,hI2,hI3,hI4,hS3,hS4,hI5,hI6,hI7,hI8,hS5,hS6,(rs (H.ext hq) 4),(rs (H.ext hq) 5)⟩ ⟨_,_,rfl,hS7,hS8,hI9,hI10,hI11,hI12,hS9,hS10,hI13,hI14,hI15,hI16,hS11,hS12,(rs (H.ext hq) 8),(rs (H.ext hq) 9)⟩)) ?_
  refine (qN) ?_
  refine QL.nil (fun w2 hE=>?_)
  have H:=H.ext hE
  refine iM hb1 (fun _ hb1=>?_) fun _ hb1=>?_
  ·exact R ((AZ) (W2 hb1 ht1 hr))
  exact K (X ((V) ((AN hk2 hl1) ((A) (Z (I2 hb1 hs1 ⟨k1+1,(),()⟩))))))
 exact CE (R ((AZ) (W1 hr)))
def z4n (a0 a1:Rule):Option Bool:=if a0.Name=a1.Name then if a0.Left=a1.Left then (z4k a0.Right a1.Right).bind fun y1=>if y1=true then if a0.Literal=a1.Literal then (z2g a0.Equations a1.Equations).bind fun y2=>if y2=true then (q9b a0.Contributions a1.Contributions).bind fun y3=>if y3=true then some true else some false else some false else some false else some false else some false else some false
theorem j4Z {a0 a1}{r}(hr:z4n a0 a1=some r){ca0}(ha0:rd F0 w0 a0 ca0){ca1}(ha1:rd F0 w0 a1 ca1):RB 33 #[ag ca0,ag ca1] w0 r:=by
 have H:=((HL.start F0 w0).argR ha0).argR ha1
 obtain⟨A1,n1,c1,A2,n2,c2,A3,n3,c3,rfl,hS1,hS2,H⟩:=q2U H 0
 let d3:=q3C a0 A1 n1 c1 A2 n2 c2 A3 n3 c3
 obtain⟨A4,n4,c4,A5,n5,c5,A6,n6,c6,rfl,hS3,hS4,H⟩:=q2U H 1
 let d4:=q3C a1 A4 n4 c4 A5 n5 c5 A6 n6 c6
 let d1:List Pr:=[.R a0 d3,.R a1 d4,.S a0.Right (.slice A1 n1 c1),.S a0.Equations (.slice A2 n2 c2),.S a0.Contributions (.slice A3 n3 c3),.S a1.Right (.slice A4 n4 c4),.S a1.Equations (.slice A5 n5 c5),.S a1.Contributions (.slice A6 n6 c6)]
 refine (En Tryz.func33) ?_
 refine R ((BX H) fun b1 w1 H=>(BX H) fun b2 w2 H=>(A) (Z (Y (R ((D 0) ((L H 0) ((D 0) ((L H 1) ((BZ) (iN hr (fun _ hr=>?_) fun _ hr=>?_))))))))))
 ·exact R ((AZ) (W1 hr))
 let d2:List It:=[.B b1 65 d3,.B b2 65 d4]
 refine K (Y (R ((D 1) ((L H 0) ((D 1) ((L H 1) ((BZ) (iN hr (fun _ hr=>?_) fun _ hr=>?_))))))))
 ·exact R ((AZ) (W1 hr))
 refine K (Y (R ((D 2) ((L H 0) ((D 2) ((L H 1) ?_))))))
 refine bb hr fun y1 hy1 hr=>?_
 refine (CA ok71 (j1d hy1 (rs H 2) (rs H 5))) (cE H fun w3 H=>(N) (Z (iM hr (fun _ hr=>?_) fun _ hr=>?_)))
 ·exact R ((AZ) (W1 hr))
 refine K (Y (R ((D 3) ((L H 0) ((D 3) ((L H 1) ((BN (q1b Tryz.underlying4)) (Z (iN hr (fun _ hr=>?_) fun _ hr=>?_)))))))))
 ·refine Y ?_
  refine q0e [] trivial fun σ=>?_
  have H:HL F0 [] w0 w3 d1 d2:=H
  exact X ((AZ) (W1 hr))
 refine K (Y (Y ?_))
 refine q0e [(2,pB b1),(3,pB b2)] ⟨rfl,rfl,trivial⟩ fun σ=>?_
 have H:HL F0 [] w0 w3 d1 d2:=H
 refine X ((D 4) ((L H 0) ((D 4) ((L H 1) ?_))))
 refine bb hr fun y2 hy2 hr=>?_
 refine (CA ok72 (z9c hy2 (rs H 3) (rs H 6))) (cE H fun w4 H=>(N) (Z (iM hr (fun _ hr=>?_) fun _ hr=>?_)))
 ·exact R ((AZ) (W1 hr))
 refine K (Y (R ((D 5) ((L H 0) ((D 5) ((L H 1) ?_))))))
 refine bb hr fun y3 hy3 hr=>?_
 refine (CA ok73 (z5y hy3 (rs H 4) (rs H 7))) (cE H fun w5 H=>(N) (Z (iM hr (fun _ hr=>?_) fun _ hr=>?_)))
 ·exact R ((AZ) (W1 hr))
 exact K (R ((AZ) (W1 hr)))
def z9d (a1:(List Rule)):Nat→Rule→Unit→Option (Unit ⊕ Bool):=fun k1 x1 _=>(a1[k1]?).bind fun x2=>(z4n x1 x2).bind fun y1=>if y1=true then some (.inl ()) else some (.inr false)
def z6X (a0 a1:(List Rule)):Option Bool:=if (a0.length:Int)=(a1.length:Int) then (q2I (z9d a1) 0 a0 ()).bind <| onr (fun r1=>some r1) fun _=>some true else some false
theorem j3k {a0 a1}{r}(hr:z6X a0 a1=some r){z0}(ha0:rdS F0 w0 a0 z0){z1}(ha1:rdS F0 w0 a1 z1):RB 18 #[z0,z1] w0 r:=by
 obtain⟨A0',n0',c0',rfl⟩:=ha0.form3
 obtain⟨A1',n1',c1',rfl⟩:=ha1.form3
 have H:=((HL.start F0 w0).argS ha0).argS ha1
 refine (En Tryz.func18) ?_
 refine R ((A) (Z (Y (R ((V) ((NI H 0) fun hl1=>(V) ((NI H 1) fun hl2=>(BZ) (iN hr (fun _ hr=>?_) fun _ hr=>?_))))))))
 ·exact R ((AZ) (W1 hr))
 refine K (Y (R ((AZ) ?_)))
 refine bb hr fun q1 hq1 hr=>?_
 refine (lF hq1 (fun k1 _ _=>[(0,.slice A0' n0' c0'),(1,.slice A1' n1' c1'),(5,zN k1)]) (fun _ _ w=>HL F0 [] w0 w [.S a0 (.slice A0' n0' c0'),.S a1 (.slice A1' n1' c1')] []) ()) ?_
 rintro k1 _ _ σ w1 hk1 hq1 H
 refine Y (R ((V) ((V) ((NN (rs H 0)) ((BZ) ?_)))))
 refine (iF hq1 hr (fun hk2 x1 z1 hx1 hb1 hs1 ht1=>?_) fun hr=>?_)
 ·refine K (Y ?_)
  refine Bk (Y ?_)
  refine q0g hmix (by kernel_rfl) ?_
  refine (qV) ((qV) ?_)
  obtain⟨b1,ob1,cb1,A1,n1,c1,A2,n2,c2,A3,n3,c3,hvb1,hS1,hS2,H⟩:=q6k H 0 hx1
  refine (qJ 6 hvb1 hx1) ((qLA H 2) ((qV) ((qV) ?_)))
  refine bb hb1 fun x2 hx2 hb1=>?_
  obtain⟨b2,ob2,cb2,A4,n4,c4,A5,n5,c5,A6,n6,c6,hvb2,hS3,hS4,H⟩:=q6k H 1 hx2
  refine (qJ 6 hvb2 hx2) ((qLA H 7) ?_)
  refine bb hb1 fun y1 hy1 hb1=>?_
  refine (qC ok33 (fun _ hq=>j4Z hy1 ⟨_,_,_,rfl,hS1,hS2,(rs (H.ext hq) 4),(rs (H.ext hq) 5),(rs (H.ext hq) 6)⟩ ⟨_,_,_,rfl,hS3,hS4,(rs (H.ext hq) 9),(rs (H.ext hq) 10),(rs (H.ext hq) 11)⟩)) ?_
  refine (qN) ?_
  refine QL.nil (fun w2 hE=>?_)
  have H:=H.ext hE
  refine iM hb1 (fun _ hb1=>?_) fun _ hb1=>?_
  ·exact R ((AZ) (W2 hb1 ht1 hr))
  exact K (X ((V) ((AN hk2 hl1) ((A) (Z (I2 hb1 hs1 ⟨k1+1,(),()⟩))))))
 exact CE (R ((AZ) (W1 hr)))
def z0g (a0 a1:Grammar):Option Bool:=(z4j a0.Symbols a1.Symbols).bind fun y1=>if y1=true then (z6X a0.Rules a1.Rules).bind fun y2=>if y2=true then some true else some false else some false
theorem j1e {a0 a1}{r}(hr:z0g a0 a1=some r){ca0}(ha0:rd F0 w0 a0 ca0){ca1}(ha1:rd F0 w0 a1 ca1):RB 8 #[ag ca0,ag ca1] w0 r:=by
 have H:=((HL.start F0 w0).argR ha0).argR ha1
 obtain⟨A1,n1,c1,A2,n2,c2,rfl,H⟩:=q2C H 0
 obtain⟨A3,n3,c3,A4,n4,c4,rfl,H⟩:=q2C H 1
 refine (En Tryz.func8) ?_
 refine R ((BX H) fun b1 w1 H=>(BX H) fun b2 w2 H=>(A) (Z (Y (R ((D 0) ((L H 0) ((D 0) ((L H 1) ?_))))))))
 refine bb hr fun y1 hy1 hr=>?_
 refine (CA ok17 (j1c hy1 (rs H 2) (rs H 4))) (cE H fun w3 H=>(N) (Z (iM hr (fun _ hr=>?_) fun _ hr=>?_)))
 ·exact R ((AZ) (W1 hr))
 refine K (Y (R ((D 1) ((L H 0) ((D 1) ((L H 1) ?_))))))
 refine bb hr fun y2 hy2 hr=>?_
 refine (CA ok18 (j3k hy2 (rs H 3) (rs H 5))) (cE H fun w4 H=>(N) (Z (iM hr (fun _ hr=>?_) fun _ hr=>?_)))
 ·exact R ((AZ) (W1 hr))
 exact K (R ((AZ) (W1 hr)))
def z0r (a0:Grammar):Option Bool:=(z1S a0 1048576).bind fun y1=>if y1 < 0 then some true else (q6c a0).bind fun y2=>(q5M y2).bind fun y3=>(q6c a0).bind fun y4=>(q5N y4).bind fun y5=>if y5=y3 then (q6c a0).bind fun y6=>(z0g y4 y6).bind fun y7=>if y7=true then some true else some false else some false
theorem z0h {a0}{r}(hr:z0r a0=some r){ca0}(ha0:rd F0 w0 a0 ca0):RB 3 #[ag ca0] w0 r:=by
 have H:=(HL.start F0 w0).argR ha0
 obtain⟨A1,n1,c1,A2,n2,c2,rfl,H⟩:=q2C H 0
 let d2:List Pr:=[.R a0 [.slice A1 n1 c1,.slice A2 n2 c2],.S a0.Symbols (.slice A1 n1 c1),.S a0.Rules (.slice A2 n2 c2)]
 refine (En Tryz.func3) ?_
 refine R ((BX H) fun b1 w1 H=>(A) (Z (R ((A) (Z (R ((LB H 0) ((V) ?_))))))))
 let d3:It:=.B b1 25 [.slice A1 n1 c1,.slice A2 n2 c2]
 refine bb hr fun y1 hy1 hr=>?_
 refine (CA ok4 (j0Y hy1 ⟨_,_,rfl,(rs H 1),(rs H 2)⟩ dI)) (cF' H fun w2 hI1 H=>(A) (Z (Y (R ((V) ((BZ) (iD hr (fun _ hr=>?_) fun _ hr=>?_)))))))
 ·exact R ((AZ) (W1 hr))
 refine K (R ((LB H 0) ?_))
 refine bb hr fun y2 hy2 hr=>?_
 obtain⟨F,hF,hcl⟩:=H.call
 refine (CA ok6 (z3k hy2 ⟨_,_,rfl,(hF.get (i:=1) rfl),(hF.get (i:=2) rfl)⟩)) ?_
 rintro _ w3 hE ⟨A3,n3,c3,A4,n4,c4,rfl,H'⟩
 have H:HL F0 [] w0 w3 d2 [d3,.G 69 y2.Symbols (.slice A3 n3 c3),.G 65 y2.Rules (.slice A4 n4 c4)]:=hcl H'
 refine bb hr fun y3 hy3 hr=>?_
 refine (CA ok5 (z3a hy3 ⟨_,_,rfl,(H.rG (i:=1) rfl),(H.rG (i:=2) rfl)⟩)) (cE H fun w4 H=>(A) (Z (R ((LB H 0) ?_))))
 refine bb hr fun y4 hy4 hr=>?_
 obtain⟨F,hF,hcl⟩:=H.call
 refine (CA ok6 (z3k hy4 ⟨_,_,rfl,(hF.get (i:=1) rfl),(hF.get (i:=2) rfl)⟩)) ?_
 rintro _ w5 hE ⟨A5,n5,c5,A6,n6,c6,rfl,H'⟩
 have H:HL F0 [] w0 w5 d2 [d3,.G 69 y2.Symbols (.slice A3 n3 c3),.G 65 y2.Rules (.slice A4 n4 c4),.G 69 y4.Symbols (.slice A5 n5 c5),.G 65 y4.Rules (.slice A6 n6 c6)]:=hcl H'
 refine (AH ze31 H) fun b2 w6 H=>(SB H 5) fun w7 H=>Z (R ((LB H 5) ?_))
 let d1:List It:=[d3,.G 69 y2.Symbols (.slice A3 n3 c3),.G 65 y2.Rules (.slice A4 n4 c4),.G 69 y4.Symbols (.slice A5 n5 c5),.G 65 y4.Rules (.slice A6 n6 c6),.B b2 31 [.slice A5 n5 c5,.slice A6 n6 c6]]
 refine bb hr fun y5 hy5 hr=>?_
 refine (CA ok7 (z3h hy5 ⟨_,_,rfl,(H.rG (i:=3) rfl),(H.rG (i:=4) rfl)⟩)) (cE H fun w8 H=>(A) (Z (Y (R ((V) ((V) ((BN (q1b Tryz.underlying4)) (Z (iN hr (fun _ hr=>?_) fun _ hr=>?_)))))))))
 ·refine Y ?_
  refine q0e [] trivial fun σ=>?_
  have H:HL F0 [] w0 w8 d2 d1:=H
  exact X ((AZ) (W1 hr))
 refine K (Y (Y ?_))
 refine q0e [(1,pB b1),(5,pB b2)] ⟨rfl,rfl,trivial⟩ fun σ=>?_
 have H:HL F0 [] w0 w8 d2 d1:=H
 refine q0A (fun w=>HL F0 [] w0 w d2 d1) hmix (fun w9 hE=>?_)
 have H:HL F0 [] w0 w9 d2 d1:=H.ext hE
 refine HW.take 0 (H.keep 3 6) rfl (by kernel_rfl) rfl rfl (fun _ hq=>q0c rfl ag31 sz31 rfl (At.blk (hq.rB (i:=5) rfl)) rfl) ?_
 refine HW.take 1 (H.keep 3 6) rfl (by kernel_rfl) rfl rfl (fun _ hq=>q0c rfl ag25 sz25 rfl (At.blk (hq.rB (i:=0) rfl)) rfl) ?_
 refine q0f 2 rfl (by kernel_rfl) ?_
 refine bb hr fun y6 hy6 hr=>?_
 obtain⟨F,hF,hcl⟩:=H.call
 refine (CA ok6 (z3k hy6 ⟨_,_,rfl,(hF.get (i:=1) rfl),(hF.get (i:=2) rfl)⟩)) ?_
 rintro _ w10 hE ⟨A7,n7,c7,A8,n8,c8,rfl,H'⟩
 have H:HL F0 [] w0 w10 d2 [d3,.G 69 y2.Symbols (.slice A3 n3 c3),.G 65 y2.Rules (.slice A4 n4 c4),.G 69 y4.Symbols (.slice A5 n5 c5),.G 65 y4.Rules (.slice A6 n6 c6),.B b2 31 [.slice A5 n5 c5,.slice A6 n6 c6],.G 69 y6.Symbols (.slice A7 n7 c7),.G 65 y6.Rules (.slice A8 n8 c8)]:=hcl H'
 refine q0a (H.keep 3 6) ?_
 refine q0f 3 rfl (by kernel_rfl) ?_
 refine bb hr fun y7 hy7 hr=>?_
 refine (CA ok8 (j1e hy7 ⟨_,_,rfl,(H.rG (i:=3) rfl),(H.rG (i:=4) rfl)⟩ ⟨_,_,rfl,(H.rG (i:=6) rfl),(H.rG (i:=7) rfl)⟩)) (cE H fun w11 H=>?_)
 refine q0a (H.keep 3 6) ?_
 refine HW.take 4 (H.keep 3 6) rfl (by kernel_rfl) rfl rfl (fun _ _=>q1C rfl rfl) ?_
 refine q0i (by kernel_rfl) (iM hr (fun _ hr=>?_) fun _ hr=>?_)
 ·exact R ((AZ) (W1 hr))
 exact K (R ((AZ) (W1 hr)))
end Go.Proofs.YtmblndlpkpaobabGreat

