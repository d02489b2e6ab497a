/- What some functions of the program compute, as partial functions on plain data, and that they do; each lemma bears its conditions in its statement. -/
import Derived.Test.YtcegfmageiicaaaGreatLift7
set_option linter.unusedVariables false
set_option linter.unusedSimpArgs false
set_option linter.ambiguousOpen false
set_option linter.unusedSectionVars false
set_option linter.unnecessarySimpa false
set_option maxRecDepth 100000
set_option maxHeartbeats 40000000
noncomputable section
namespace Go.Proofs.YtcegfmageiicaaaGreat
open Go Go.E Go.A
def z0h (a0:(List Attribute))(a1:Int):Option (Int × (List Attribute)):=
 (q4i q9E (a1,0,a0)).bind fun (s1,s2)=>
 some (s1,s2)
theorem j0W {a0:(List Attribute)}{a1:Int}{r:(Int × (List Attribute))}(hr:z0h a0 a1=some r):Ok Tryz.prog 102 [.ref 0 none,dI a1] [.row .fz 4 (a0.map Attribute.D)] (dI r.1) [.row .fz 4 (r.2.map Attribute.D)]:=by
 refine OE Tryz.func102 fun S hS=>?_
 unfold z0h at hr
 refine bdP hr fun s1 s2 hqq1 hr=>J (gn 9)<|q0d 1 [(1,dI s1)] [(0,.row .fz 4 (s2.map Attribute.D))] ?_ ?_
 refine J g<|q0h hqq1 1 (fun (s3,s4,s5)=>[(0,.ref 0 none),(1,dI s3),(5,dI s4)]) (fun (s3,s4,s5)=>[(0,.row .fz 4 (s5.map Attribute.D))]) I fun sk1 ok1 hr hik1=>?_
 obtain⟨s3,s4,s5⟩:=sk1
 have hr:=hr
 refine J (gn 8)<|ifE hr ?_ ?_<;>intro h1 hr
 refine bdE hr fun y1 hy1 hr=>J g<|J (CB' [] [] (q5a hy1))<|ggE hr fun g1 hr=>bdE hr fun x1 hx1 hr=>J g<|J (SE' (⟨y1,x1.Type_,x1.Mode,x1.Circular⟩:Attribute) hx1)<|ggE hr fun g2 hr=>ggE hr fun g3 hr=>bdE hr fun x2 hx2 hr=>J g<|J (SE' (⟨x2.Name,(s3+1),x2.Mode,x2.Circular⟩:Attribute) hx2)<|ggE hr fun g4 hr=>ggE hr fun g5 hr=>bdE hr fun x3 hx3 hr=>J g<|J (SE' (⟨x3.Name,x3.Type_,((s3+1)+1),x3.Circular⟩:Attribute) hx3)<|ggE hr fun g6 hr=>J g<|J (OB' _ (bRem (b:=3) (by decide)))<|ggE hr fun g7 hr=>bdE hr fun x4 hx4 hr=>J g<|J (SE' (⟨x4.Name,x4.Type_,x4.Mode,decide (((((s3+1)+1)+1).tmod 3)=0)⟩:Attribute) hx4)<|ggE hr fun g8 hr=>ggE hr fun g9 hr=>?_
 exact e
 refine J (gn 2) ?_
 cases hr
 cases hik1 _ rfl
 exact q0e hS 1
 exact e
def z1Y:(Int × Int × (List Symbol))→Option ((Int × Int × (List Symbol)) ⊕ (Int × (List Symbol))):=fun (s3,s4,s5)=>
 if s4 < (s5.length:Int) then (
 (q4I s3).bind fun y1=>
 grd (0≤s4) <|
 (s5[s4.toNat]?).bind fun x1=>
 grd (I64 (s3+1)) <|
 (z0h x1.Attributes (s3+1)).bind fun (y2,z1)=>
 grd (I64 (s4+1)) <|
 some (.inl (y2,(s4+1),(List.set s5 s4.toNat (⟨y1,z1⟩:Symbol))))
 ) else (
 some (.inr (s3,s5))
 )
def z3h (a0:(List Symbol))(a1:Int):Option (Int × (List Symbol)):=
 (q4i z1Y (a1,0,a0)).bind fun (s1,s2)=>
 some (s1,s2)
theorem j4G {a0:(List Symbol)}{a1:Int}{r:(Int × (List Symbol))}(hr:z3h a0 a1=some r):Ok Tryz.prog 45 [.ref 0 none,dI a1] [.deep .fz 2 (a0.map Symbol.W) []] (dI r.1) [.deep .fz 2 (r.2.map Symbol.W) []]:=by
 refine OE Tryz.func45 fun S hS=>?_
 unfold z3h at hr
 refine bdP hr fun s1 s2 hqq1 hr=>J (gn 9)<|q0d 1 [(1,dI s1)] [(0,.deep .fz 2 (s2.map Symbol.W) [])] ?_ ?_
 refine J g<|q0h hqq1 1 (fun (s3,s4,s5)=>[(0,.ref 0 none),(1,dI s3),(5,dI s4)]) (fun (s3,s4,s5)=>[(0,.deep .fz 2 (s5.map Symbol.W) [])]) I fun sk1 ok1 hr hik1=>?_
 obtain⟨s3,s4,s5⟩:=sk1
 have hr:=hr
 refine J g<|J (LEd' s5.length)<|J (gn 2)<|ifE hr ?_ ?_<;>intro h1 hr
 refine bdE hr fun y1 hy1 hr=>J g<|J (CB' [] [] (q5a hy1))<|ggE hr fun g1 hr=>bdE hr fun x1 hx1 hr=>J (IEd' g1 (q3D hx1))<|J g<|J (SD' [.d .fz (.s y1)] [] (q3D hx1))<|ggE hr fun g2 hr=>J g<|J (IEd' g1 (q3C (q3D hx1)))<|J (gn 1)<|J (q0l 0 s4.toNat 1 1 (q3C (q3D hx1)))<|J (LPd' [(1,1)] (q3C (q3C (q3D hx1))))<|bdP hr fun y2 z1 hq2 hr=>J g<|J (CB' [(0,1)] [] (j0W hq2))<|ggE hr fun g3 hr=>J (gn 7) ?_
 cases hr
 exact⟨_,rfl,GH.trans (q0i 0 s4.toNat 1 1 (q3C (q3C (q3D hx1))) (hx:=.flatM (fun _=>rfl))) (GH.trans (q0j 0 (he:=eset (f:=Symbol.W) (x':=(⟨y1,z1⟩:Symbol)) (by first | rfl | (simp only [List.set_set]; rfl)))) (q0e hS 1))⟩
 refine J (gn 2) ?_
 cases hr
 cases hik1 _ rfl
 exact q0e hS 1
 exact e
def q8z:(Int × Int × (List ByteArray))→Option ((Int × Int × (List ByteArray)) ⊕ (Int × (List ByteArray))):=fun (s3,s4,s5)=>
 if s4 < (s5.length:Int) then (
 (q4I s3).bind fun y1=>
 grd (0≤s4) <|
 (s5[s4.toNat]?).bind fun x1=>
 grd (I64 (s3+1)) <|
 grd (I64 (s4+1)) <|
 some (.inl ((s3+1),(s4+1),(List.set s5 s4.toNat y1)))
 ) else (
 some (.inr (s3,s5))
 )
def q7r (a0:(List ByteArray))(a1:Int):Option (Int × (List ByteArray)):=
 (q4i q8z (a1,0,a0)).bind fun (s1,s2)=>
 some (s1,s2)
theorem z1Z {a0:(List ByteArray)}{a1:Int}{r:(Int × (List ByteArray))}(hr:q7r a0 a1=some r):Ok Tryz.prog 15 [.ref 0 none,dI a1] [.row .fz 1 (a0.map A.D.s)] (dI r.1) [.row .fz 1 (r.2.map A.D.s)]:=by
 refine OE Tryz.func15 fun S hS=>?_
 unfold q7r at hr
 refine bdP hr fun s1 s2 hqq1 hr=>J (gn 9)<|q0d 1 [(1,dI s1)] [(0,.row .fz 1 (s2.map A.D.s))] ?_ ?_
 refine J g<|q0h hqq1 1 (fun (s3,s4,s5)=>[(0,.ref 0 none),(1,dI s3),(5,dI s4)]) (fun (s3,s4,s5)=>[(0,.row .fz 1 (s5.map A.D.s))]) I fun sk1 ok1 hr hik1=>?_
 obtain⟨s3,s4,s5⟩:=sk1
 have hr:=hr
 refine J (gn 8)<|ifE hr ?_ ?_<;>intro h1 hr
 refine bdE hr fun y1 hy1 hr=>J g<|J (CB' [] [] (q5a hy1))<|ggE hr fun g1 hr=>bdE hr fun x1 hx1 hr=>J g<|J (SE' y1 hx1)<|ggE hr fun g2 hr=>ggE hr fun g3 hr=>e
 refine J (gn 2) ?_
 cases hr
 cases hik1 _ rfl
 exact q0e hS 1
 exact e
def z2a (rec_wmarkExprS:(List Expr)→Int→Option (Int × (List Expr))):(Int × Int × (List Expr))→Option ((Int × Int × (List Expr)) ⊕ (Int × (List Expr))):=fun (s3,s4,s5)=>
 if s4 < (s5.length:Int) then (
 grd (0≤s4) <|
 (s5[s4.toNat]?).bind fun x1=>
 grd (I64 (s3+1)) <|
 grd (I64 ((s3+1)+1)) <|
 grd (I64 (((s3+1)+1)+1)) <|
 grd (I64 ((((s3+1)+1)+1)+1)) <|
 (q4I ((((s3+1)+1)+1)+1)).bind fun y1=>
 grd (I64 (((((s3+1)+1)+1)+1)+1)) <|
 (q4I (((((s3+1)+1)+1)+1)+1)).bind fun y2=>
 grd (I64 ((((((s3+1)+1)+1)+1)+1)+1)) <|
 (rec_wmarkExprS x1.Args ((((((s3+1)+1)+1)+1)+1)+1)).bind fun (y3,z1)=>
 grd (I64 (s4+1)) <|
 some (.inl (y3,(s4+1),(List.set s5 s4.toNat (⟨s3,(s3+1),((s3+1)+1),(((s3+1)+1)+1),y1,y2,z1⟩:Expr))))
 ) else (
 some (.inr (s3,s5))
 )
def z3w (rec_wmarkExprS:(List Expr)→Int→Option (Int × (List Expr)))(a0:(List Expr))(a1:Int):Option (Int × (List Expr)):=
 (q4i (z2a rec_wmarkExprS) (a1,0,a0)).bind fun (s1,s2)=>
 some (s1,s2)
theorem j5C {rec_wmarkExprS:(List Expr)→Int→Option (Int × (List Expr))}(ih_wmarkExprS:∀ {a0:(List Expr)} {a1:Int} {r:(Int × (List Expr))},rec_wmarkExprS a0 a1=some r→Ok Tryz.prog 162 [.ref 0 none,dI a1] [.deep .fz 7 (a0.map Expr.W) []] (dI r.1) [.deep .fz 7 (r.2.map Expr.W) []]){a0:(List Expr)}{a1:Int}{r:(Int × (List Expr))}(hr:z3w rec_wmarkExprS a0 a1=some r):Ok Tryz.prog 162 [.ref 0 none,dI a1] [.deep .fz 7 (a0.map Expr.W) []] (dI r.1) [.deep .fz 7 (r.2.map Expr.W) []]:=by
 refine OE Tryz.func162 fun S hS=>?_
 unfold z3w at hr
 refine bdP hr fun s1 s2 hqq1 hr=>J (gn 9)<|q0d 1 [(1,dI s1)] [(0,.deep .fz 7 (s2.map Expr.W) [])] ?_ ?_
 refine J g<|q0h hqq1 1 (fun (s3,s4,s5)=>[(0,.ref 0 none),(1,dI s3),(5,dI s4)]) (fun (s3,s4,s5)=>[(0,.deep .fz 7 (s5.map Expr.W) [])]) I fun sk1 ok1 hr hik1=>?_
 obtain⟨s3,s4,s5⟩:=sk1
 have hr:=hr
 refine J g<|J (LEd' s5.length)<|J (gn 2)<|ifE hr ?_ ?_<;>intro h1 hr
 refine ggE hr fun g1 hr=>bdE hr fun x1 hx1 hr=>J g<|J (IEd' g1 (q3D hx1))<|J g<|J (SD' [.d .fz (.i .i64 s3)] [] (q3D hx1))<|ggE hr fun g2 hr=>J g<|J (IEd' g1 (q3C (q3D hx1)))<|J g<|J (SD' [.d .fz (.i .i64 (s3+1))] [] (q3C (q3D hx1)))<|ggE hr fun g3 hr=>J g<|J (IEd' g1 (q3C (q3C (q3D hx1))))<|J g<|J (SD' [.d .fz (.i .i64 ((s3+1)+1))] [] (q3C (q3C (q3D hx1))))<|ggE hr fun g4 hr=>J g<|J (IEd' g1 (q3C (q3C (q3C (q3D hx1)))))<|J g<|J (SD' [.d .fz (.i .i64 (((s3+1)+1)+1))] [] (q3C (q3C (q3C (q3D hx1)))))<|ggE hr fun g5 hr=>bdE hr fun y1 hy1 hr=>J g<|J (CB' [] [] (q5a hy1))<|J (IEd' g1 (q3C (q3C (q3C (q3C (q3D hx1)))))) ?_
 refine J g<|J (SD' [.d .fz (.s y1)] [] (q3C (q3C (q3C (q3C (q3D hx1))))))<|ggE hr fun g6 hr=>bdE hr fun y2 hy2 hr=>J g<|J (CB' [] [] (q5a hy2))<|J (IEd' g1 (q3C (q3C (q3C (q3C (q3C (q3D hx1)))))))<|J g<|J (SD' [.d .fz (.s y2)] [] (q3C (q3C (q3C (q3C (q3C (q3D hx1)))))))<|ggE hr fun g7 hr=>J g<|J (IEd' g1 (q3C (q3C (q3C (q3C (q3C (q3C (q3D hx1))))))))<|J (gn 1)<|J (q0l 0 s4.toNat 6 1 (q3C (q3C (q3C (q3C (q3C (q3C (q3D hx1))))))))<|J (LPd' [(6,1)] (q3C (q3C (q3C (q3C (q3C (q3C (q3C (q3D hx1)))))))))<|bdP hr fun y3 z1 hq2 hr=>J g<|J (CB' [(0,1)] [] (ih_wmarkExprS hq2))<|ggE hr fun g8 hr=>J (gn 7) ?_
 cases hr
 exact⟨_,rfl,GH.trans (q0i 0 s4.toNat 6 1 (q3C (q3C (q3C (q3C (q3C (q3C (q3C (q3D hx1)))))))) (hx:=.ownM (f:=Expr.D))) (GH.trans (q0j 0 (he:=eset (f:=Expr.W) (x':=(⟨s3,(s3+1),((s3+1)+1),(((s3+1)+1)+1),y1,y2,z1⟩:Expr)) (by first | rfl | (simp only [List.set_set]; rfl)))) (q0e hS 1))⟩
 refine J (gn 2) ?_
 cases hr
 cases hik1 _ rfl
 exact q0e hS 1
 exact e
def z3x:Nat→(List Expr)→Int→Option (Int × (List Expr))
  | 0,_,_=>none
  | n+1,a0,a1=>z3w (z3x n) a0 a1
def z3y (a0:(List Expr))(a1:Int):Option (Int × (List Expr)):=recO fun n=>z3x n a0 a1
theorem j5D (n:Nat):∀ {a0:(List Expr)} {a1:Int} {r:(Int × (List Expr))},z3x n a0 a1=some r→Ok Tryz.prog 162 [.ref 0 none,dI a1] [.deep .fz 7 (a0.map Expr.W) []] (dI r.1) [.deep .fz 7 (r.2.map Expr.W) []]:=by
  induction n with
  | zero=>intro _ _ r hr; exact nomatch (show (none:Option (Int × (List Expr)))=some r from hr)
  | succ n ih=>intro _ _ r hr; exact j5C ih hr
theorem z7q {a0:(List Expr)}{a1:Int}{r:(Int × (List Expr))}(hr:z3y a0 a1=some r):Ok Tryz.prog 162 [.ref 0 none,dI a1] [.deep .fz 7 (a0.map Expr.W) []] (dI r.1) [.deep .fz 7 (r.2.map Expr.W) []]:=by
 obtain⟨n,hn⟩:=q5V hr
 exact j5D n hn
def z0i:(Int × Int × (List Equation))→Option ((Int × Int × (List Equation)) ⊕ (Int × (List Equation))):=fun (s3,s4,s5)=>
 if s4 < (s5.length:Int) then (
 grd (0≤s4) <|
 (s5[s4.toNat]?).bind fun x1=>
 grd (I64 (s3+1)) <|
 (q4I (s3+1)).bind fun y1=>
 grd (I64 ((s3+1)+1)) <|
 grd (I64 (((s3+1)+1)+1)) <|
 grd (I64 ((((s3+1)+1)+1)+1)) <|
 grd (I64 (((((s3+1)+1)+1)+1)+1)) <|
 grd (I64 ((((((s3+1)+1)+1)+1)+1)+1)) <|
 (q4I ((((((s3+1)+1)+1)+1)+1)+1)).bind fun y2=>
 grd (I64 (((((((s3+1)+1)+1)+1)+1)+1)+1)) <|
 (q4I (((((((s3+1)+1)+1)+1)+1)+1)+1)).bind fun y3=>
 grd (I64 ((((((((s3+1)+1)+1)+1)+1)+1)+1)+1)) <|
 (z3y x1.Expr.Args ((((((((s3+1)+1)+1)+1)+1)+1)+1)+1)).bind fun (y4,z1)=>
 grd (I64 (s4+1)) <|
 some (.inl (y4,(s4+1),(List.set s5 s4.toNat (⟨(⟨s3,y1⟩:Occurrence),(⟨((s3+1)+1),(((s3+1)+1)+1),((((s3+1)+1)+1)+1),(((((s3+1)+1)+1)+1)+1),y2,y3,z1⟩:Expr)⟩:Equation))))
 ) else (
 some (.inr (s3,s5))
 )
def z0M (a0:(List Equation))(a1:Int):Option (Int × (List Equation)):=
 (q4i z0i (a1,0,a0)).bind fun (s1,s2)=>
 some (s1,s2)
theorem j1J {a0:(List Equation)}{a1:Int}{r:(Int × (List Equation))}(hr:z0M a0 a1=some r):Ok Tryz.prog 103 [.ref 0 none,dI a1] [.deep .fz 9 (a0.map Equation.W) []] (dI r.1) [.deep .fz 9 (r.2.map Equation.W) []]:=by
 refine OE Tryz.func103 fun S hS=>?_
 unfold z0M at hr
 refine bdP hr fun s1 s2 hqq1 hr=>J (gn 9)<|q0d 1 [(1,dI s1)] [(0,.deep .fz 9 (s2.map Equation.W) [])] ?_ ?_
 refine J g<|q0h hqq1 1 (fun (s3,s4,s5)=>[(0,.ref 0 none),(1,dI s3),(5,dI s4)]) (fun (s3,s4,s5)=>[(0,.deep .fz 9 (s5.map Equation.W) [])]) I fun sk1 ok1 hr hik1=>?_
 obtain⟨s3,s4,s5⟩:=sk1
 have hr:=hr
 refine J g<|J (LEd' s5.length)<|J (gn 2)<|ifE hr ?_ ?_<;>intro h1 hr
 refine ggE hr fun g1 hr=>bdE hr fun x1 hx1 hr=>J g<|J (IEd' g1 (q3D hx1))<|J g<|J (SD' [.d .fz (.i .i64 s3)] [] (q3D hx1))<|ggE hr fun g2 hr=>bdE hr fun y1 hy1 hr=>J g<|J (CB' [] [] (q5a hy1))<|J (IEd' g1 (q3C (q3D hx1)))<|J g<|J (SD' [.d .fz (.s y1)] [] (q3C (q3D hx1)))<|ggE hr fun g3 hr=>J g<|J (IEd' g1 (q3C (q3C (q3D hx1))))<|J g<|J (SD' [.d .fz (.i .i64 ((s3+1)+1))] [] (q3C (q3C (q3D hx1)))) ?_
 refine q0n 0 rfl (he:=enr3 (c:=[Cell.d Md.fz (.i .i64 s3),Cell.d Md.fz (.s y1),Cell.d Md.fz (.i .i64 ((s3+1)+1)),Cell.d Md.fz (.i .i64 x1.Expr.N),Cell.d Md.fz (.i .i64 x1.Expr.Pos),Cell.d Md.fz (.i .i64 x1.Expr.Type_),Cell.d Md.fz (.s x1.Expr.Symbol),Cell.d Md.fz (.s x1.Expr.Name),.w 7 (x1.Expr.Args.map Expr.D)]) rfl) ?_
 refine ggE hr fun g4 hr=>J g<|J (IEd' g1 (q3C (q3D hx1)))<|J g<|J (SD' [.d .fz (.i .i64 (((s3+1)+1)+1))] [] (q3C (q3D hx1)))<|ggE hr fun g5 hr=>J g<|J (IEd' g1 (q3C (q3C (q3D hx1))))<|J g<|J (SD' [.d .fz (.i .i64 ((((s3+1)+1)+1)+1))] [] (q3C (q3C (q3D hx1)))) ?_
 refine q0n 0 rfl (he:=enr3 (c:=[Cell.d Md.fz (.i .i64 s3),Cell.d Md.fz (.s y1),Cell.d Md.fz (.i .i64 ((s3+1)+1)),Cell.d Md.fz (.i .i64 (((s3+1)+1)+1)),Cell.d Md.fz (.i .i64 ((((s3+1)+1)+1)+1)),Cell.d Md.fz (.i .i64 x1.Expr.Type_),Cell.d Md.fz (.s x1.Expr.Symbol),Cell.d Md.fz (.s x1.Expr.Name),.w 7 (x1.Expr.Args.map Expr.D)]) rfl) ?_
 refine ggE hr fun g6 hr=>J g<|J (IEd' g1 (q3C (q3D hx1)))<|J g<|J (SD' [.d .fz (.i .i64 (((((s3+1)+1)+1)+1)+1))] [] (q3C (q3D hx1)))<|ggE hr fun g7 hr=>bdE hr fun y2 hy2 hr=>J g<|J (CB' [] [] (q5a hy2))<|J (IEd' g1 (q3C (q3C (q3D hx1))))<|J g<|J (SD' [.d .fz (.s y2)] [] (q3C (q3C (q3D hx1)))) ?_
 refine q0n 0 rfl (he:=enr3 (c:=[Cell.d Md.fz (.i .i64 s3),Cell.d Md.fz (.s y1),Cell.d Md.fz (.i .i64 ((s3+1)+1)),Cell.d Md.fz (.i .i64 (((s3+1)+1)+1)),Cell.d Md.fz (.i .i64 ((((s3+1)+1)+1)+1)),Cell.d Md.fz (.i .i64 (((((s3+1)+1)+1)+1)+1)),Cell.d Md.fz (.s y2),Cell.d Md.fz (.s x1.Expr.Name),.w 7 (x1.Expr.Args.map Expr.D)]) rfl) ?_
 refine ggE hr fun g8 hr=>bdE hr fun y3 hy3 hr=>J g<|J (CB' [] [] (q5a hy3))<|J (IEd' g1 (q3C (q3D hx1)))<|J g<|J (SD' [.d .fz (.s y3)] [] (q3C (q3D hx1)))<|ggE hr fun g9 hr=>J g<|J (IEd' g1 (q3C (q3C (q3D hx1))))<|J (gn 2)<|J (q0l 0 s4.toNat 8 1 (q3C (q3C (q3D hx1)))) ?_
 refine q0n 0 rfl (he:=enr3 (c:=[Cell.d Md.fz (.i .i64 s3),Cell.d Md.fz (.s y1),Cell.d Md.fz (.i .i64 ((s3+1)+1)),Cell.d Md.fz (.i .i64 (((s3+1)+1)+1)),Cell.d Md.fz (.i .i64 ((((s3+1)+1)+1)+1)),Cell.d Md.fz (.i .i64 (((((s3+1)+1)+1)+1)+1)),Cell.d Md.fz (.s y2),Cell.d Md.fz (.s y3),.u]) rfl) ?_
 refine J (LPd' [(8,1)] (q3C (q3D hx1)))<|bdP hr fun y4 z1 hq2 hr=>J g<|J (CB' [(0,1)] [] (z7q hq2))<|ggE hr fun g10 hr=>J (gn 7) ?_
 cases hr
 exact⟨_,rfl,GH.trans (q0i 0 s4.toNat 8 1 (q3C (q3D hx1)) (hx:=.ownM (f:=Expr.D))) (GH.trans (q0j 0 (he:=eset (f:=Equation.W) (x':=(⟨(⟨s3,y1⟩:Occurrence),(⟨((s3+1)+1),(((s3+1)+1)+1),((((s3+1)+1)+1)+1),(((((s3+1)+1)+1)+1)+1),y2,y3,z1⟩:Expr)⟩:Equation)) (by first | rfl | (simp only [List.set_set]; rfl)))) (q0e hS 1))⟩
 refine J (gn 2) ?_
 cases hr
 cases hik1 _ rfl
 exact q0e hS 1
 exact e
def q8f:(Int × Int × (List Contribution))→Option ((Int × Int × (List Contribution)) ⊕ (Int × (List Contribution))):=fun (s3,s4,s5)=>
 if s4 < (s5.length:Int) then (
 (q4I s3).bind fun y1=>
 grd (0≤s4) <|
 (s5[s4.toNat]?).bind fun x1=>
 grd (I64 (s3+1)) <|
 (q4I (s3+1)).bind fun y2=>
 grd (I64 ((s3+1)+1)) <|
 grd (I64 (((s3+1)+1)+1)) <|
 grd (I64 ((((s3+1)+1)+1)+1)) <|
 grd (I64 (((((s3+1)+1)+1)+1)+1)) <|
 grd (I64 ((((((s3+1)+1)+1)+1)+1)+1)) <|
 (q4I ((((((s3+1)+1)+1)+1)+1)+1)).bind fun y3=>
 grd (I64 (((((((s3+1)+1)+1)+1)+1)+1)+1)) <|
 (q4I (((((((s3+1)+1)+1)+1)+1)+1)+1)).bind fun y4=>
 grd (I64 ((((((((s3+1)+1)+1)+1)+1)+1)+1)+1)) <|
 (z3y x1.Target.Args ((((((((s3+1)+1)+1)+1)+1)+1)+1)+1)).bind fun (y5,z1)=>
 grd (I64 (y5+1)) <|
 grd (I64 ((y5+1)+1)) <|
 grd (I64 (((y5+1)+1)+1)) <|
 grd (I64 ((((y5+1)+1)+1)+1)) <|
 (q4I ((((y5+1)+1)+1)+1)).bind fun y6=>
 grd (I64 (((((y5+1)+1)+1)+1)+1)) <|
 (q4I (((((y5+1)+1)+1)+1)+1)).bind fun y7=>
 grd (I64 ((((((y5+1)+1)+1)+1)+1)+1)) <|
 (z3y x1.Value.Args ((((((y5+1)+1)+1)+1)+1)+1)).bind fun (y8,z2)=>
 grd (I64 (s4+1)) <|
 some (.inl (y8,(s4+1),(List.set s5 s4.toNat (⟨y1,y2,(⟨((s3+1)+1),(((s3+1)+1)+1),((((s3+1)+1)+1)+1),(((((s3+1)+1)+1)+1)+1),y3,y4,z1⟩:Expr),(⟨y5,(y5+1),((y5+1)+1),(((y5+1)+1)+1),y6,y7,z2⟩:Expr)⟩:Contribution))))
 ) else (
 some (.inr (s3,s5))
 )
def q8o (a0:(List Contribution))(a1:Int):Option (Int × (List Contribution)):=
 (q4i q8f (a1,0,a0)).bind fun (s1,s2)=>
 some (s1,s2)
theorem z8N {a0:(List Contribution)}{a1:Int}{r:(Int × (List Contribution))}(hr:q8o a0 a1=some r):Ok Tryz.prog 104 [.ref 0 none,dI a1] [.deep .fz 16 (a0.map Contribution.W) []] (dI r.1) [.deep .fz 16 (r.2.map Contribution.W) []]:=by
 refine OE Tryz.func104 fun S hS=>?_
 unfold q8o at hr
 refine bdP hr fun s1 s2 hqq1 hr=>J (gn 9)<|q0d 1 [(1,dI s1)] [(0,.deep .fz 16 (s2.map Contribution.W) [])] ?_ ?_
 refine J g<|q0h hqq1 1 (fun (s3,s4,s5)=>[(0,.ref 0 none),(1,dI s3),(5,dI s4)]) (fun (s3,s4,s5)=>[(0,.deep .fz 16 (s5.map Contribution.W) [])]) I fun sk1 ok1 hr hik1=>?_
 obtain⟨s3,s4,s5⟩:=sk1
 have hr:=hr
 refine J g<|J (LEd' s5.length)<|J (gn 2)<|ifE hr ?_ ?_<;>intro h1 hr
 refine bdE hr fun y1 hy1 hr=>J g<|J (CB' [] [] (q5a hy1))<|ggE hr fun g1 hr=>bdE hr fun x1 hx1 hr=>J (IEd' g1 (q3D hx1))<|J g<|J (SD' [.d .fz (.s y1)] [] (q3D hx1))<|ggE hr fun g2 hr=>bdE hr fun y2 hy2 hr=>J g<|J (CB' [] [] (q5a hy2))<|J (IEd' g1 (q3C (q3D hx1)))<|J g<|J (SD' [.d .fz (.s y2)] [] (q3C (q3D hx1)))<|ggE hr fun g3 hr=>J g<|J (IEd' g1 (q3C (q3C (q3D hx1))))<|J g<|J (SD' [.d .fz (.i .i64 ((s3+1)+1))] [] (q3C (q3C (q3D hx1)))) ?_
 refine q0n 0 rfl (he:=enr3 (c:=[Cell.d Md.fz (.s y1),Cell.d Md.fz (.s y2),Cell.d Md.fz (.i .i64 ((s3+1)+1)),Cell.d Md.fz (.i .i64 x1.Target.N),Cell.d Md.fz (.i .i64 x1.Target.Pos),Cell.d Md.fz (.i .i64 x1.Target.Type_),Cell.d Md.fz (.s x1.Target.Symbol),Cell.d Md.fz (.s x1.Target.Name),.w 7 (x1.Target.Args.map Expr.D),Cell.d Md.fz (.i .i64 x1.Value.Kind),Cell.d Md.fz (.i .i64 x1.Value.N),Cell.d Md.fz (.i .i64 x1.Value.Pos),Cell.d Md.fz (.i .i64 x1.Value.Type_),Cell.d Md.fz (.s x1.Value.Symbol),Cell.d Md.fz (.s x1.Value.Name),.w 7 (x1.Value.Args.map Expr.D)]) rfl) ?_
 refine ggE hr fun g4 hr=>J g<|J (IEd' g1 (q3C (q3D hx1)))<|J g<|J (SD' [.d .fz (.i .i64 (((s3+1)+1)+1))] [] (q3C (q3D hx1)))<|ggE hr fun g5 hr=>J g<|J (IEd' g1 (q3C (q3C (q3D hx1))))<|J g<|J (SD' [.d .fz (.i .i64 ((((s3+1)+1)+1)+1))] [] (q3C (q3C (q3D hx1)))) ?_
 refine q0n 0 rfl (he:=enr3 (c:=[Cell.d Md.fz (.s y1),Cell.d Md.fz (.s y2),Cell.d Md.fz (.i .i64 ((s3+1)+1)),Cell.d Md.fz (.i .i64 (((s3+1)+1)+1)),Cell.d Md.fz (.i .i64 ((((s3+1)+1)+1)+1)),Cell.d Md.fz (.i .i64 x1.Target.Type_),Cell.d Md.fz (.s x1.Target.Symbol),Cell.d Md.fz (.s x1.Target.Name),.w 7 (x1.Target.Args.map Expr.D),Cell.d Md.fz (.i .i64 x1.Value.Kind),Cell.d Md.fz (.i .i64 x1.Value.N),Cell.d Md.fz (.i .i64 x1.Value.Pos),Cell.d Md.fz (.i .i64 x1.Value.Type_),Cell.d Md.fz (.s x1.Value.Symbol),Cell.d Md.fz (.s x1.Value.Name),.w 7 (x1.Value.Args.map Expr.D)]) rfl) ?_
 refine ggE hr fun g6 hr=>J g<|J (IEd' g1 (q3C (q3D hx1)))<|J g<|J (SD' [.d .fz (.i .i64 (((((s3+1)+1)+1)+1)+1))] [] (q3C (q3D hx1)))<|ggE hr fun g7 hr=>bdE hr fun y3 hy3 hr=>J g<|J (CB' [] [] (q5a hy3))<|J (IEd' g1 (q3C (q3C (q3D hx1))))<|J g<|J (SD' [.d .fz (.s y3)] [] (q3C (q3C (q3D hx1)))) ?_
 refine q0n 0 rfl (he:=enr3 (c:=[Cell.d Md.fz (.s y1),Cell.d Md.fz (.s y2),Cell.d Md.fz (.i .i64 ((s3+1)+1)),Cell.d Md.fz (.i .i64 (((s3+1)+1)+1)),Cell.d Md.fz (.i .i64 ((((s3+1)+1)+1)+1)),Cell.d Md.fz (.i .i64 (((((s3+1)+1)+1)+1)+1)),Cell.d Md.fz (.s y3),Cell.d Md.fz (.s x1.Target.Name),.w 7 (x1.Target.Args.map Expr.D),Cell.d Md.fz (.i .i64 x1.Value.Kind),Cell.d Md.fz (.i .i64 x1.Value.N),Cell.d Md.fz (.i .i64 x1.Value.Pos),Cell.d Md.fz (.i .i64 x1.Value.Type_),Cell.d Md.fz (.s x1.Value.Symbol),Cell.d Md.fz (.s x1.Value.Name),.w 7 (x1.Value.Args.map Expr.D)]) rfl) ?_
 refine ggE hr fun g8 hr=>bdE hr fun y4 hy4 hr=>J g<|J (CB' [] [] (q5a hy4))<|J (IEd' g1 (q3C (q3D hx1)))<|J g<|J (SD' [.d .fz (.s y4)] [] (q3C (q3D hx1)))<|ggE hr fun g9 hr=>J g<|J (IEd' g1 (q3C (q3C (q3D hx1))))<|J (gn 2)<|J (q0l 0 s4.toNat 8 1 (q3C (q3C (q3D hx1)))) ?_
 refine q0n 0 rfl (he:=enr3 (c:=[Cell.d Md.fz (.s y1),Cell.d Md.fz (.s y2),Cell.d Md.fz (.i .i64 ((s3+1)+1)),Cell.d Md.fz (.i .i64 (((s3+1)+1)+1)),Cell.d Md.fz (.i .i64 ((((s3+1)+1)+1)+1)),Cell.d Md.fz (.i .i64 (((((s3+1)+1)+1)+1)+1)),Cell.d Md.fz (.s y3),Cell.d Md.fz (.s y4),.u,Cell.d Md.fz (.i .i64 x1.Value.Kind),Cell.d Md.fz (.i .i64 x1.Value.N),Cell.d Md.fz (.i .i64 x1.Value.Pos),Cell.d Md.fz (.i .i64 x1.Value.Type_),Cell.d Md.fz (.s x1.Value.Symbol),Cell.d Md.fz (.s x1.Value.Name),.w 7 (x1.Value.Args.map Expr.D)]) rfl) ?_
 refine J (LPd' [(8,1)] (q3C (q3D hx1)))<|bdP hr fun y5 z1 hq2 hr=>J g<|J (CB' [(0,1)] [] (z7q hq2))<|J g<|J (IEd' g1 (q3C (q3D hx1)))<|J g<|J (SD' [.d .fz (.i .i64 y5)] [] (q3C (q3D hx1)))<|ggE hr fun g10 hr=>J g<|J (IEd' g1 (q3C (q3C (q3D hx1))))<|J g<|J (SD' [.d .fz (.i .i64 (y5+1))] [] (q3C (q3C (q3D hx1)))) ?_
 refine q0n 0 rfl (he:=enr3 (c:=[Cell.d Md.fz (.s y1),Cell.d Md.fz (.s y2),Cell.d Md.fz (.i .i64 ((s3+1)+1)),Cell.d Md.fz (.i .i64 (((s3+1)+1)+1)),Cell.d Md.fz (.i .i64 ((((s3+1)+1)+1)+1)),Cell.d Md.fz (.i .i64 (((((s3+1)+1)+1)+1)+1)),Cell.d Md.fz (.s y3),Cell.d Md.fz (.s y4),.u,Cell.d Md.fz (.i .i64 y5),Cell.d Md.fz (.i .i64 (y5+1)),Cell.d Md.fz (.i .i64 x1.Value.Pos),Cell.d Md.fz (.i .i64 x1.Value.Type_),Cell.d Md.fz (.s x1.Value.Symbol),Cell.d Md.fz (.s x1.Value.Name),.w 7 (x1.Value.Args.map Expr.D)]) rfl) ?_
 refine ggE hr fun g11 hr=>J g<|J (IEd' g1 (q3C (q3D hx1)))<|J g<|J (SD' [.d .fz (.i .i64 ((y5+1)+1))] [] (q3C (q3D hx1)))<|ggE hr fun g12 hr=>J g<|J (IEd' g1 (q3C (q3C (q3D hx1))))<|J g<|J (SD' [.d .fz (.i .i64 (((y5+1)+1)+1))] [] (q3C (q3C (q3D hx1)))) ?_
 refine q0n 0 rfl (he:=enr3 (c:=[Cell.d Md.fz (.s y1),Cell.d Md.fz (.s y2),Cell.d Md.fz (.i .i64 ((s3+1)+1)),Cell.d Md.fz (.i .i64 (((s3+1)+1)+1)),Cell.d Md.fz (.i .i64 ((((s3+1)+1)+1)+1)),Cell.d Md.fz (.i .i64 (((((s3+1)+1)+1)+1)+1)),Cell.d Md.fz (.s y3),Cell.d Md.fz (.s y4),.u,Cell.d Md.fz (.i .i64 y5),Cell.d Md.fz (.i .i64 (y5+1)),Cell.d Md.fz (.i .i64 ((y5+1)+1)),Cell.d Md.fz (.i .i64 (((y5+1)+1)+1)),Cell.d Md.fz (.s x1.Value.Symbol),Cell.d Md.fz (.s x1.Value.Name),.w 7 (x1.Value.Args.map Expr.D)]) rfl) ?_
 refine ggE hr fun g13 hr=>bdE hr fun y6 hy6 hr=>J g<|J (CB' [] [] (q5a hy6))<|J (IEd' g1 (q3C (q3D hx1)))<|J g<|J (SD' [.d .fz (.s y6)] [] (q3C (q3D hx1)))<|ggE hr fun g14 hr=>bdE hr fun y7 hy7 hr=>J g<|J (CB' [] [] (q5a hy7))<|J (IEd' g1 (q3C (q3C (q3D hx1))))<|J g<|J (SD' [.d .fz (.s y7)] [] (q3C (q3C (q3D hx1)))) ?_
 refine q0n 0 rfl (he:=enr3 (c:=[Cell.d Md.fz (.s y1),Cell.d Md.fz (.s y2),Cell.d Md.fz (.i .i64 ((s3+1)+1)),Cell.d Md.fz (.i .i64 (((s3+1)+1)+1)),Cell.d Md.fz (.i .i64 ((((s3+1)+1)+1)+1)),Cell.d Md.fz (.i .i64 (((((s3+1)+1)+1)+1)+1)),Cell.d Md.fz (.s y3),Cell.d Md.fz (.s y4),.u,Cell.d Md.fz (.i .i64 y5),Cell.d Md.fz (.i .i64 (y5+1)),Cell.d Md.fz (.i .i64 ((y5+1)+1)),Cell.d Md.fz (.i .i64 (((y5+1)+1)+1)),Cell.d Md.fz (.s y6),Cell.d Md.fz (.s y7),.w 7 (x1.Value.Args.map Expr.D)]) rfl) ?_
 refine ggE hr fun g15 hr=>J g<|J (IEd' g1 (q3C (q3D hx1)))<|J (gn 2)<|J (q0l 0 s4.toNat 15 2 (q3C (q3D hx1)))<|J (LPd' [(15,2),(8,1)] (q3C (q3C (q3D hx1))))<|bdP hr fun y8 z2 hq3 hr=>J g<|J (CB' [(0,2)] [] (z7q hq3))<|ggE hr fun g16 hr=>J (gn 7) ?_
 cases hr
 exact⟨_,rfl,GH.trans (q0i 0 s4.toNat 15 2 (q3C (q3C (q3D hx1))) (hx:=.ownM (f:=Expr.D))) (GH.trans (q0i 0 s4.toNat 8 1 (q3C (q3C (q3C (q3D hx1)))) (hx:=.ownM (f:=Expr.D))) (GH.trans (q0j 0 (he:=eset (f:=Contribution.W) (x':=(⟨y1,y2,(⟨((s3+1)+1),(((s3+1)+1)+1),((((s3+1)+1)+1)+1),(((((s3+1)+1)+1)+1)+1),y3,y4,z1⟩:Expr),(⟨y5,(y5+1),((y5+1)+1),(((y5+1)+1)+1),y6,y7,z2⟩:Expr)⟩:Contribution)) (by first | rfl | (simp only [List.set_set]; rfl)))) (q0e hS 1)))⟩
 refine J (gn 2) ?_
 cases hr
 cases hik1 _ rfl
 exact q0e hS 1
 exact e
def z4b:(Int × Int × (List Rule))→Option ((Int × Int × (List Rule)) ⊕ (Int × (List Rule))):=fun (s3,s4,s5)=>
 if s4 < (s5.length:Int) then (
 (q4I s3).bind fun y1=>
 grd (0≤s4) <|
 (s5[s4.toNat]?).bind fun x1=>
 grd (I64 (s3+1)) <|
 (q4I (s3+1)).bind fun y2=>
 grd (I64 ((s3+1)+1)) <|
 (q7r x1.Right ((s3+1)+1)).bind fun (y3,z1)=>
 grd (I64 (y3+1)) <|
 (z0M x1.Equations (y3+1)).bind fun (y4,z2)=>
 (q8o x1.Contributions y4).bind fun (y5,z3)=>
 grd (I64 (s4+1)) <|
 some (.inl (y5,(s4+1),(List.set s5 s4.toNat (⟨y1,y2,z1,decide ((y3.tmod 3)=0),z2,z3⟩:Rule))))
 ) else (
 some (.inr (s3,s5))
 )
def z5I (a0:(List Rule))(a1:Int):Option (Int × (List Rule)):=
 (q4i z4b (a1,0,a0)).bind fun (s1,s2)=>
 some (s1,s2)
theorem j7m {a0:(List Rule)}{a1:Int}{r:(Int × (List Rule))}(hr:z5I a0 a1=some r):Ok Tryz.prog 46 [.ref 0 none,dI a1] [.deep .fz 6 (a0.map Rule.W) []] (dI r.1) [.deep .fz 6 (r.2.map Rule.W) []]:=by
 refine OE Tryz.func46 fun S hS=>?_
 unfold z5I at hr
 refine bdP hr fun s1 s2 hqq1 hr=>J (gn 9)<|q0d 1 [(1,dI s1)] [(0,.deep .fz 6 (s2.map Rule.W) [])] ?_ ?_
 refine J g<|q0h hqq1 1 (fun (s3,s4,s5)=>[(0,.ref 0 none),(1,dI s3),(5,dI s4)]) (fun (s3,s4,s5)=>[(0,.deep .fz 6 (s5.map Rule.W) [])]) I fun sk1 ok1 hr hik1=>?_
 obtain⟨s3,s4,s5⟩:=sk1
 have hr:=hr
 refine J g<|J (LEd' s5.length)<|J (gn 2)<|ifE hr ?_ ?_<;>intro h1 hr
 refine bdE hr fun y1 hy1 hr=>J g<|J (CB' [] [] (q5a hy1))<|ggE hr fun g1 hr=>bdE hr fun x1 hx1 hr=>J (IEd' g1 (q3D hx1))<|J g<|J (SD' [.d .fz (.s y1)] [] (q3D hx1))<|ggE hr fun g2 hr=>bdE hr fun y2 hy2 hr=>J g<|J (CB' [] [] (q5a hy2))<|J (IEd' g1 (q3C (q3D hx1)))<|J g<|J (SD' [.d .fz (.s y2)] [] (q3C (q3D hx1)))<|ggE hr fun g3 hr=>J g<|J (IEd' g1 (q3C (q3C (q3D hx1))))<|J (gn 1)<|J (q0l 0 s4.toNat 2 1 (q3C (q3C (q3D hx1))))<|J (LPd' [(2,1)] (q3C (q3C (q3C (q3D hx1)))))<|bdP hr fun y3 z1 hq2 hr=>J g<|J (CB' [(0,1)] [] (z1Z hq2))<|J g<|J (OB' _ (bRem (b:=3) (by decide))) ?_
 refine J g<|J (IEd' g1 (q3C (q3C (q3C (q3D hx1)))))<|J g<|J (SD' [.d .fz (.b (decide ((y3.tmod 3)=0)))] [] (q3C (q3C (q3C (q3D hx1)))))<|ggE hr fun g4 hr=>J g<|J (IEd' g1 (q3C (q3C (q3C (q3C (q3D hx1))))))<|J (gn 1)<|J (q0l 0 s4.toNat 4 2 (q3C (q3C (q3C (q3C (q3D hx1))))))<|J (LPd' [(4,2),(2,1)] (q3C (q3C (q3C (q3C (q3C (q3D hx1)))))))<|bdP hr fun y4 z2 hq3 hr=>J g<|J (CB' [(0,2)] [] (j1J hq3))<|J g<|J (IEd' g1 (q3C (q3C (q3C (q3C (q3C (q3D hx1)))))))<|J (gn 1)<|J (q0l 0 s4.toNat 5 3 (q3C (q3C (q3C (q3C (q3C (q3D hx1)))))))<|J (LPd' [(5,3),(4,2),(2,1)] (q3C (q3C (q3C (q3C (q3C (q3C (q3D hx1))))))))<|bdP hr fun y5 z3 hq4 hr=>J g<|J (CB' [(0,3)] [] (z8N hq4))<|ggE hr fun g5 hr=>J (gn 7) ?_
 cases hr
 exact⟨_,rfl,GH.trans (q0i 0 s4.toNat 5 3 (q3C (q3C (q3C (q3C (q3C (q3C (q3D hx1))))))) (hx:=.ownM (f:=Contribution.D))) (GH.trans (q0i 0 s4.toNat 4 2 (q3C (q3C (q3C (q3C (q3C (q3C (q3C (q3D hx1)))))))) (hx:=.ownM (f:=Equation.D))) (GH.trans (q0i 0 s4.toNat 2 1 (q3C (q3C (q3C (q3C (q3C (q3C (q3C (q3C (q3D hx1))))))))) (hx:=.flatM (fun _=>rfl))) (GH.trans (q0j 0 (he:=eset (f:=Rule.W) (x':=(⟨y1,y2,z1,decide ((y3.tmod 3)=0),z2,z3⟩:Rule)) (by first | rfl | (simp only [List.set_set]; rfl)))) (q0e hS 1))))⟩
 refine J (gn 2) ?_
 cases hr
 cases hik1 _ rfl
 exact q0e hS 1
 exact e
def q7s (a0:Grammar)(a1:Int):Option (Int × (List Symbol) × (List Rule)):=
 (z3h a0.Symbols a1).bind fun (y1,z1)=>
 (z5I a0.Rules y1).bind fun (y2,z2)=>
 some (y2,z1,z2)
theorem z2b {a0:Grammar}{a1:Int}{r:(Int × (List Symbol) × (List Rule))}(hr:q7s a0 a1=some r):Ok Tryz.prog 14 [.ag [.ref 0 none,.ref 1 none],dI a1] [.deep .fz 2 (a0.Symbols.map Symbol.W) [],.deep .fz 6 (a0.Rules.map Rule.W) []] (dI r.1) [.deep .fz 2 (r.2.1.map Symbol.W) [],.deep .fz 6 (r.2.2.map Rule.W) []]:=by
 refine OE Tryz.func14 fun S hS=>?_
 unfold q7s at hr
 refine J g<|J (BX' 2)<|bdP hr fun y1 z1 hq1 hr=>J g<|J (CB' [(0,0)] [] (j4G hq1))<|bdP hr fun y2 z2 hq2 hr=>J g<|J (CB' [(0,1)] [] (j7m hq2))<|e
def q8A:Nat→ByteArray→Int→Option (Int ⊕ Int):=fun k1 xk1 s1=>
 (q4I s1).bind fun y1=>
 if xk1=y1 then (
 grd (I64 (s1+1)) <|
 some (.inl (s1+1))
 ) else (
 some (.inr (-1))
 )
def q6e (a0:(List ByteArray))(a1:Int):Option Int:=
 (findL q8A 0 a0 a1).bind <| onr (fun r1=>some r1) fun s1=>
 some s1
theorem z2c {m:Md}{a0:(List ByteArray)}{a1:Int}{r:Int}(hr:q6e a0 a1=some r):Ok Tryz.prog 16 [.d m (.sl 1 (a0.map A.D.s)),dI a1] [] (dI r) []:=by
 refine OE Tryz.func16 fun S hS=>?_
 unfold q6e at hr
 refine J (gn 10)<|J (lenT 0)<|fun hl1=>bdE hr fun q1 hqq1 hr=>q0b hqq1 hl1 0 (fun k1 s1=>[(0,.d m (.sl 1 (a0.map A.D.s))),(1,dI s1),(5,dI (k1:Int))]) (fun k1 s1=>[]) I (fun k1 xk1 sk1 ok1 hxk1 hr hltk1 hik1=>?_) fun k1 sk1 ek1 hltk1=>?_
 obtain⟨s1,rfl⟩:∃ y,y=sk1:=⟨_,rfl⟩
 refine bdE hr fun y1 hy1 hr=>J g<|J (CB' [] [] (q5a hy1))<|J (gn 2)<|ifE hr ?_ ?_<;>intro h1 hr
 refine ggE hr fun g1 hr=>e
 exact e
 subst ek1
 obtain⟨s1,rfl⟩:∃ y,y=sk1:=⟨_,rfl⟩
 exact e
def q7l (a0:Grammar):Option Bool:=
 (q9M a0 1048576).bind fun y1=>
 if y1 < 0 then (
 some true
 ) else (
 (q4z a0).bind fun y2=>
 (q8Y y2).bind fun y3=>
 (q4z a0).bind fun y4=>
 (q7Z y4).bind fun y5=>
 (q8e y5 y3).bind fun y6=>
 if y6=true then (
 (q4z a0).bind fun y7=>
 (q8K y4 y7).bind fun y8=>
 if y8=true then (
 (q7s y4 1).bind fun (y9,z1,z2)=>
 if y9 < 0 then (
 some false
 ) else (
 (q8e y5 y3).bind fun y10=>
 if y10=true then (
 (q7r y5 1).bind fun (y11,z3)=>
 (q6e z3 1).bind fun y12=>
 if y12 < 0 then (
 some false
 ) else (
 if y12=y11 then (
 (q4z a0).bind fun y13=>
 (q7Z y13).bind fun y14=>
 (q8e y14 y3).bind fun y15=>
 if y15=true then (
 (q6e z3 1).bind fun y16=>
 if y16 < 0 then (
 some false
 ) else (
 if y16=y11 then (
 some true
 ) else (
 some false
 )
 )
 ) else (
 some false
 )
 ) else (
 some false
 )
 )
 ) else (
 some false
 )
 )
 ) else (
 some false
 )
 ) else (
 some false
 )
 )
theorem z6F {m:Md}{a0:Grammar}{r:Bool}(hr:q7l a0=some r):Ok Tryz.prog 3 [Grammar.x m a0] [] (dB r) []:=by
 refine OE Tryz.func3 fun S hS=>?_
 unfold q7l at hr
 refine J g<|J (BX' 0)<|bdE hr fun y1 hy1 hr=>J g<|J (CB' [] [] (z3U (m:=m) hy1))<|J (gn 8)<|ifE hr ?_ ?_<;>intro h1 hr
 exact e
 refine bdE hr fun y2 hy2 hr=>J g<|J (CB' [(0,1),(1,2)] [] (q4T (m:=m) hy2))<|bdE hr fun y3 hy3 hr=>J (CB' [(0,3)] [1,2] (j1F (m:=.bo) hy3))<|bdE hr fun y4 hy4 hr=>J g<|J (CB' [(0,4),(1,5)] [] (q4T (m:=m) hy4))<|J (NV' 6)<|bdE hr fun y5 hy5 hr=>J g<|J (CB' [(0,7)] [4,5] (z6D (m:=.bo) hy5))<|bdE hr fun y6 hy6 hr=>J g<|J (CB' [] [7,3] (z0f (m:=.bo) hy6))<|J (gn 2)<|ifE hr ?_ ?_<;>intro h2 hr
 refine bdE hr fun y7 hy7 hr=>J g<|J (CB' [(0,8),(1,9)] [] (q4T (m:=m) hy7))<|bdE hr fun y8 hy8 hr=>J (CB' [] [4,5,8,9] (z4a (m:=.bo) hy8))<|J (gn 2)<|ifE hr ?_ ?_<;>intro h3 hr
 refine bdT hr fun y9 z1 z2 hq1 hr=>J g<|J (CB' [(0,4),(1,5)] [] (z2b hq1))<|J (gn 7)<|ifE hr ?_ ?_<;>intro h4 hr
 exact e
 refine bdE hr fun y10 hy10 hr=>J g<|J (CB' [] [7,3] (z0f (m:=.bo) hy10))<|J (gn 3)<|ifE hr ?_ ?_<;>intro h5 hr
 refine bdP hr fun y11 z3 hq2 hr=>J g<|J (CB' [(0,7)] [] (z1Z hq2))<|bdE hr fun y12 hy12 hr=>J g<|J (CB' [] [7] (z2c (m:=.bo) hy12))<|J (gn 8)<|ifE hr ?_ ?_<;>intro h6 hr
 exact e
 refine J (gn 9)<|ifE hr ?_ ?_<;>intro h7 hr
 refine bdE hr fun y13 hy13 hr=>J g<|J (CB' [(0,10),(1,11)] [] (q4T (m:=m) hy13))<|bdE hr fun y14 hy14 hr=>J (CB' [(0,12)] [10,11] (z6D (m:=.bo) hy14))<|bdE hr fun y15 hy15 hr=>J g<|J (CB' [] [12,3] (z0f (m:=.bo) hy15))<|J (gn 2)<|ifE hr ?_ ?_<;>intro h8 hr
 refine bdE hr fun y16 hy16 hr=>J g<|J (CB' [] [7] (z2c (m:=.bo) hy16))<|J (gn 8)<|ifE hr ?_ ?_<;>intro h9 hr
 exact e
 refine J (gn 9)<|ifE hr ?_ ?_<;>intro h10 hr
 exact e
 exact e
 exact e
 exact e
 exact e
 exact e
 exact e
def j1K (a1:(List Int)):Nat→Int→Unit→Option (Unit ⊕ Bool):=fun k1 xk1 _=>
 (a1[k1]?).bind fun x1=>
 if xk1=x1 then (
 some (.inl ())
 ) else (
 some (.inr false)
 )
def j0X (a0:(List Int))(a1:(List Int)):Option Bool:=
 if (a0.length:Int)=(a1.length:Int) then (
 (findL (j1K a1) 0 a0 ()).bind <| onr (fun r1=>some r1) fun _=>
 some true
 ) else (
 some false
 )
theorem k2P {m:Md}{a0:(List Int)}{a1:(List Int)}{r:Bool}(hr:j0X a0 a1=some r):Ok Tryz.prog 118 [.d m (.sl 1 (a0.map (A.D.i .i64))),.d m (.sl 1 (a1.map (A.D.i .i64)))] [] (dB r) []:=by
 refine OE Tryz.func118 fun S hS=>?_
 unfold j0X at hr
 refine J (gn 13)<|ifE hr ?_ ?_<;>intro h1 hr
 refine J (gn 8)<|J (lenT 0)<|fun hl1=>bdE hr fun q1 hqq1 hr=>q0b hqq1 hl1 0 (fun k1 _=>[(0,.d m (.sl 1 (a0.map (A.D.i .i64)))),(1,.d m (.sl 1 (a1.map (A.D.i .i64)))),(5,dI (k1:Int))]) (fun k1 _=>[]) I (fun k1 xk1 sk1 ok1 hxk1 hr hltk1 hik1=>?_) fun k1 sk1 ek1 hltk1=>?_
 refine bdE hr fun x1 hx1 hr=>J (gn 24)<|ifE hr ?_ ?_<;>intro h2 hr
 exact e
 exact e
 subst ek1
 exact e
 exact e
def z0j (a0:Relation)(a1:Relation):Option Bool:=
 if a0.N=a1.N then (
 (j0X a0.Rows a1.Rows).bind fun y1=>
 if y1=true then (
 some true
 ) else (
 some false
 )
 ) else (
 some false
 )
theorem j5E {m:Md}{a0:Relation}{a1:Relation}{r:Bool}(hr:z0j a0 a1=some r):Ok Tryz.prog 61 [Relation.x m a0,Relation.x m a1] [] (dB r) []:=by
 refine OE Tryz.func61 fun S hS=>?_
 unfold z0j at hr
 refine J g<|J (BX' 0)<|J (BX' 1)<|J (gn 11)<|ifE hr ?_ ?_<;>intro h1 hr
 refine bdE hr fun y1 hy1 hr=>J g<|J (CB' [] [] (k2P (m:=m) hy1))<|J (gn 2)<|ifE hr ?_ ?_<;>intro h2 hr
 exact e
 exact e
 exact e
def z8O (a1:(List Relation)):Nat→Relation→Unit→Option (Unit ⊕ Bool):=fun k1 xk1 _=>
 (a1[k1]?).bind fun x1=>
 (z0j xk1 x1).bind fun y1=>
 if y1=true then (
 some (.inl ())
 ) else (
 some (.inr false)
 )
def q6K (a0:(List Relation))(a1:(List Relation)):Option Bool:=
 if (a0.length:Int)=(a1.length:Int) then (
 (findL (z8O a1) 0 a0 ()).bind <| onr (fun r1=>some r1) fun _=>
 some true
 ) else (
 some false
 )
theorem q8B {m:Md}{a0:(List Relation)}{a1:(List Relation)}{r:Bool}(hr:q6K a0 a1=some r):Ok Tryz.prog 19 [.d m (.sl 2 (a0.map Relation.D)),.d m (.sl 2 (a1.map Relation.D))] [] (dB r) []:=by
 refine OE Tryz.func19 fun S hS=>?_
 unfold q6K at hr
 refine J (gn 13)<|ifE hr ?_ ?_<;>intro h1 hr
 refine J (gn 8)<|J (lenT 0)<|fun hl1=>bdE hr fun q1 hqq1 hr=>q0b hqq1 hl1 0 (fun k1 _=>[(0,.d m (.sl 2 (a0.map Relation.D))),(1,.d m (.sl 2 (a1.map Relation.D))),(5,dI (k1:Int))]) (fun k1 _=>[]) I (fun k1 xk1 sk1 ok1 hxk1 hr hltk1 hik1=>?_) fun k1 sk1 ek1 hltk1=>?_
 refine bdE hr fun x1 hx1 hr=>bdE hr fun y1 hy1 hr=>J g<|J (CB' [] [] (j5E (m:=m) hy1))<|J (gn 2)<|ifE hr ?_ ?_<;>intro h2 hr
 exact e
 exact e
 subst ek1
 exact e
 exact e
def z5J:(Int × Int × (List Int))→Option ((Int × Int × (List Int)) ⊕ (Int × (List Int))):=fun (s3,s4,s5)=>
 if s4 < (s5.length:Int) then (
 grd (0≤s4) <|
 (s5[s4.toNat]?).bind fun x1=>
 grd (I64 (s3+1)) <|
 grd (I64 (s4+1)) <|
 some (.inl ((s3+1),(s4+1),(List.set s5 s4.toNat s3)))
 ) else (
 some (.inr (s3,s5))
 )
def z7r (a0:(List Int))(a1:Int):Option (Int × (List Int)):=
 (q4i z5J (a1,0,a0)).bind fun (s1,s2)=>
 some (s1,s2)
theorem j8P {a0:(List Int)}{a1:Int}{r:(Int × (List Int))}(hr:z7r a0 a1=some r):Ok Tryz.prog 62 [.ref 0 none,dI a1] [.row .fz 1 (a0.map (A.D.i .i64))] (dI r.1) [.row .fz 1 (r.2.map (A.D.i .i64))]:=by
 refine OE Tryz.func62 fun S hS=>?_
 unfold z7r at hr
 refine bdP hr fun s1 s2 hqq1 hr=>J (gn 9)<|q0d 1 [(1,dI s1)] [(0,.row .fz 1 (s2.map (A.D.i .i64)))] ?_ ?_
 refine J g<|q0h hqq1 1 (fun (s3,s4,s5)=>[(0,.ref 0 none),(1,dI s3),(5,dI s4)]) (fun (s3,s4,s5)=>[(0,.row .fz 1 (s5.map (A.D.i .i64)))]) I fun sk1 ok1 hr hik1=>?_
 obtain⟨s3,s4,s5⟩:=sk1
 have hr:=hr
 refine J (gn 8)<|ifE hr ?_ ?_<;>intro h1 hr
 refine ggE hr fun g1 hr=>bdE hr fun x1 hx1 hr=>J g<|J (SE' s3 hx1)<|ggE hr fun g2 hr=>ggE hr fun g3 hr=>e
 refine J (gn 2) ?_
 cases hr
 cases hik1 _ rfl
 exact q0e hS 1
 exact e
def z0k:(Int × Int × (List Relation))→Option ((Int × Int × (List Relation)) ⊕ (Int × (List Relation))):=fun (s3,s4,s5)=>
 if s4 < (s5.length:Int) then (
 grd (0≤s4) <|
 (s5[s4.toNat]?).bind fun x1=>
 grd (I64 (s3+1)) <|
 (z7r x1.Rows (s3+1)).bind fun (y1,z1)=>
 grd (I64 (s4+1)) <|
 some (.inl (y1,(s4+1),(List.set s5 s4.toNat (⟨s3,z1⟩:Relation))))
 ) else (
 some (.inr (s3,s5))
 )
def q9c (a0:(List Relation))(a1:Int):Option (Int × (List Relation)):=
 (q4i z0k (a1,0,a0)).bind fun (s1,s2)=>
 some (s1,s2)
theorem z6G {a0:(List Relation)}{a1:Int}{r:(Int × (List Relation))}(hr:q9c a0 a1=some r):Ok Tryz.prog 20 [.ref 0 none,dI a1] [.deep .fz 2 (a0.map Relation.W) []] (dI r.1) [.deep .fz 2 (r.2.map Relation.W) []]:=by
 refine OE Tryz.func20 fun S hS=>?_
 unfold q9c at hr
 refine bdP hr fun s1 s2 hqq1 hr=>J (gn 9)<|q0d 1 [(1,dI s1)] [(0,.deep .fz 2 (s2.map Relation.W) [])] ?_ ?_
 refine J g<|q0h hqq1 1 (fun (s3,s4,s5)=>[(0,.ref 0 none),(1,dI s3),(5,dI s4)]) (fun (s3,s4,s5)=>[(0,.deep .fz 2 (s5.map Relation.W) [])]) I fun sk1 ok1 hr hik1=>?_
 obtain⟨s3,s4,s5⟩:=sk1
 have hr:=hr
 refine J g<|J (LEd' s5.length)<|J (gn 2)<|ifE hr ?_ ?_<;>intro h1 hr
 refine ggE hr fun g1 hr=>bdE hr fun x1 hx1 hr=>J g<|J (IEd' g1 (q3D hx1))<|J g<|J (SD' [.d .fz (.i .i64 s3)] [] (q3D hx1))<|ggE hr fun g2 hr=>J g<|J (IEd' g1 (q3C (q3D hx1)))<|J (gn 1)<|J (q0l 0 s4.toNat 1 1 (q3C (q3D hx1)))<|J (LPd' [(1,1)] (q3C (q3C (q3D hx1))))<|bdP hr fun y1 z1 hq2 hr=>J g<|J (CB' [(0,1)] [] (j8P hq2))<|ggE hr fun g3 hr=>J (gn 7) ?_
 cases hr
 exact⟨_,rfl,GH.trans (q0i 0 s4.toNat 1 1 (q3C (q3C (q3D hx1))) (hx:=.flatM (fun _=>rfl))) (GH.trans (q0j 0 (he:=eset (f:=Relation.W) (x':=(⟨s3,z1⟩:Relation)) (by first | rfl | (simp only [List.set_set]; rfl)))) (q0e hS 1))⟩
 refine J (gn 2) ?_
 cases hr
 cases hik1 _ rfl
 exact q0e hS 1
 exact e
def j2q:Nat→Int→Int→Option (Int ⊕ Int):=fun k1 xk1 s1=>
 if xk1=s1 then (
 grd (I64 (s1+1)) <|
 some (.inl (s1+1))
 ) else (
 some (.inr (-1))
 )
def z4V (a0:(List Int))(a1:Int):Option Int:=
 (findL j2q 0 a0 a1).bind <| onr (fun r1=>some r1) fun s1=>
 some s1
theorem j8Q {m:Md}{a0:(List Int)}{a1:Int}{r:Int}(hr:z4V a0 a1=some r):Ok Tryz.prog 63 [.d m (.sl 1 (a0.map (A.D.i .i64))),dI a1] [] (dI r) []:=by
 refine OE Tryz.func63 fun S hS=>?_
 unfold z4V at hr
 refine J (gn 10)<|J (lenT 0)<|fun hl1=>bdE hr fun q1 hqq1 hr=>q0b hqq1 hl1 0 (fun k1 s1=>[(0,.d m (.sl 1 (a0.map (A.D.i .i64)))),(1,dI s1),(5,dI (k1:Int))]) (fun k1 s1=>[]) I (fun k1 xk1 sk1 ok1 hxk1 hr hltk1 hik1=>?_) fun k1 sk1 ek1 hltk1=>?_
 obtain⟨s1,rfl⟩:∃ y,y=sk1:=⟨_,rfl⟩
 refine J (gn 22)<|ifE hr ?_ ?_<;>intro h1 hr
 refine ggE hr fun g1 hr=>e
 exact e
 subst ek1
 obtain⟨s1,rfl⟩:∃ y,y=sk1:=⟨_,rfl⟩
 exact e
def z6H:Nat→Relation→Int→Option (Int ⊕ Int):=fun k1 xk1 s1=>
 if xk1.N=s1 then (
 grd (I64 (s1+1)) <|
 (z4V xk1.Rows (s1+1)).bind fun y1=>
 if y1 < 0 then (
 some (.inr (-1))
 ) else (
 some (.inl y1)
 )
 ) else (
 some (.inr (-1))
 )
def q6p (a0:(List Relation))(a1:Int):Option Int:=
 (findL z6H 0 a0 a1).bind <| onr (fun r1=>some r1) fun s1=>
 some s1
theorem z0l {m:Md}{a0:(List Relation)}{a1:Int}{r:Int}(hr:q6p a0 a1=some r):Ok Tryz.prog 21 [.d m (.sl 2 (a0.map Relation.D)),dI a1] [] (dI r) []:=by
 refine OE Tryz.func21 fun S hS=>?_
 unfold q6p at hr
 refine J (gn 10)<|J (lenT 0)<|fun hl1=>bdE hr fun q1 hqq1 hr=>q0b hqq1 hl1 0 (fun k1 s1=>[(0,.d m (.sl 2 (a0.map Relation.D))),(1,dI s1),(5,dI (k1:Int))]) (fun k1 s1=>[]) I (fun k1 xk1 sk1 ok1 hxk1 hr hltk1 hik1=>?_) fun k1 sk1 ek1 hltk1=>?_
 obtain⟨s1,rfl⟩:∃ y,y=sk1:=⟨_,rfl⟩
 refine J (gn 23)<|ifE hr ?_ ?_<;>intro h1 hr
 refine ggE hr fun g1 hr=>bdE hr fun y1 hy1 hr=>J g<|J (CB' [] [] (j8Q (m:=m) hy1))<|J (gn 7)<|ifE hr ?_ ?_<;>intro h2 hr
 exact e
 exact e
 exact e
 subst ek1
 obtain⟨s1,rfl⟩:∃ y,y=sk1:=⟨_,rfl⟩
 exact e
def q6S (a0:Grammar):Option Bool:=
 (q9M a0 1048576).bind fun y1=>
 if y1 < 0 then (
 some true
 ) else (
 (q4z a0).bind fun y2=>
 (q6y y2).bind fun (y3,y4)=>
 (q4z a0).bind fun y5=>
 (q6D y5).bind fun (y6,y7)=>
 (q6K y6 y3).bind fun y8=>
 (
 if y8=true then (
 some (!(decide (y7=y4)))
 ) else (
 some true
 )
 ).bind fun s1=>
 if s1=true then (
 some false
 ) else (
 (q4z a0).bind fun y9=>
 (q8K y5 y9).bind fun y10=>
 if y10=true then (
 (q7s y5 1).bind fun (y11,z1,z2)=>
 (
 if y11 < 0 then (
 some true
 ) else (
 (q6K y6 y3).bind fun y12=>
 some (!y12)
 )
 ).bind fun s2=>
 (
 if s2=true then (
 some true
 ) else (
 some (!(decide (y7=y4)))
 )
 ).bind fun s3=>
 if s3=true then (
 some false
 ) else (
 (q9c y6 1).bind fun (y13,z3)=>
 (q6p z3 1).bind fun y14=>
 if y14 < 0 then (
 some false
 ) else (
 if y14=y13 then (
 (q4z a0).bind fun y15=>
 (q6D y15).bind fun (y16,y17)=>
 (q6K y16 y3).bind fun y18=>
 (
 if y18=true then (
 some (!(decide (y17=y4)))
 ) else (
 some true
 )
 ).bind fun s4=>
 if s4=true then (
 some false
 ) else (
 (q6p z3 1).bind fun y19=>
 if y19 < 0 then (
 some false
 ) else (
 if y19=y13 then (
 some true
 ) else (
 some false
 )
 )
 )
 ) else (
 some false
 )
 )
 )
 ) else (
 some false
 )
 )
 )
theorem z5W {m:Md}{a0:Grammar}{r:Bool}(hr:q6S a0=some r):Ok Tryz.prog 4 [Grammar.x m a0] [] (dB r) []:=by
 refine OE Tryz.func4 fun S hS=>?_
 unfold q6S at hr
 refine J g<|J (BX' 0)<|bdE hr fun y1 hy1 hr=>J g<|J (CB' [] [] (z3U (m:=m) hy1))<|J (gn 8)<|ifE hr ?_ ?_<;>intro h1 hr
 exact e
 refine bdE hr fun y2 hy2 hr=>J g<|J (CB' [(0,1),(1,2)] [] (q4T (m:=m) hy2))<|bdP hr fun y3 y4 hq1 hr=>J (CB' [(0,3)] [1,2] (z5C (m:=.bo) hq1))<|bdE hr fun y5 hy5 hr=>J g<|J (CB' [(0,4),(1,5)] [] (q4T (m:=m) hy5))<|J (NV' 6)<|bdP hr fun y6 y7 hq2 hr=>J g<|J (CB' [(0,7)] [4,5] (z1W (m:=.bo) hq2))<|bdE hr fun y8 hy8 hr=>J g<|J (CB' [] [7,3] (q8B (m:=.bo) hy8))<|bdE hr fun s1 hqq3 hr=>J (gn 1)<|q0a 5 [(1,.pb 0 0),(4,.ref 3 none),(5,dB y4),(6,.pb 6 0),(7,.ref 7 none),(8,dB y7),(40,dB s1)] ?_ ?_
 replace hr:=hqq3
 refine ifE hr ?_ ?_<;>intro h2 hr
 refine J g ?_
 refine J (BQn' rfl rfl)<|J g<|E
 exact e
 refine J (gn 1)<|ifE hr ?_ ?_<;>intro h3 hr
 exact e
 refine bdE hr fun y9 hy9 hr=>J g<|J (CB' [(0,8),(1,9)] [] (q4T (m:=m) hy9))<|bdE hr fun y10 hy10 hr=>J (CB' [] [4,5,8,9] (z4a (m:=.bo) hy10))<|J (gn 2)<|ifE hr ?_ ?_<;>intro h4 hr
 refine bdT hr fun y11 z1 z2 hq4 hr=>J g<|J (CB' [(0,4),(1,5)] [] (z2b hq4))<|bdE hr fun s2 hqq5 hr=>J (gn 7)<|q0a 6 [(1,.pb 0 0),(4,.ref 3 none),(5,dB y4),(7,.ref 7 none),(8,dB y7),(56,dB s2)] ?_ ?_
 replace hr:=hqq5
 refine ifE hr ?_ ?_<;>intro h5 hr
 exact e
 refine bdE hr fun y12 hy12 hr=>J g<|J (CB' [] [7,3] (q8B (m:=.bo) hy12))<|e
 refine bdE hr fun s3 hqq6 hr=>q0a 5 [(1,.pb 0 0),(4,.ref 3 none),(5,dB y4),(7,.ref 7 none),(61,dB s3)] ?_ ?_
 replace hr:=hqq6
 refine ifE hr ?_ ?_<;>intro h6 hr
 exact e
 refine J g ?_
 refine J (BQn' rfl rfl)<|J g<|E
 refine J (gn 1)<|ifE hr ?_ ?_<;>intro h7 hr
 exact e
 refine bdP hr fun y13 z3 hq7 hr=>J g<|J (CB' [(0,7)] [] (z6G hq7))<|bdE hr fun y14 hy14 hr=>J g<|J (CB' [] [7] (z0l (m:=.bo) hy14))<|J (gn 8)<|ifE hr ?_ ?_<;>intro h8 hr
 exact e
 refine J (gn 9)<|ifE hr ?_ ?_<;>intro h9 hr
 refine bdE hr fun y15 hy15 hr=>J g<|J (CB' [(0,10),(1,11)] [] (q4T (m:=m) hy15))<|bdP hr fun y16 y17 hq8 hr=>J (CB' [(0,12)] [10,11] (z1W (m:=.bo) hq8))<|bdE hr fun y18 hy18 hr=>J g<|J (CB' [] [12,3] (q8B (m:=.bo) hy18))<|bdE hr fun s4 hqq9 hr=>J (gn 1)<|q0a 5 [(7,.ref 7 none),(10,dI y13),(87,dB s4)] ?_ ?_
 replace hr:=hqq9
 refine ifE hr ?_ ?_<;>intro h10 hr
 refine J g ?_
 refine J (BQn' rfl rfl)<|J g<|E
 exact e
 refine J (gn 1)<|ifE hr ?_ ?_<;>intro h11 hr
 exact e
 refine bdE hr fun y19 hy19 hr=>J g<|J (CB' [] [7] (z0l (m:=.bo) hy19))<|J (gn 8)<|ifE hr ?_ ?_<;>intro h12 hr
 exact e
 refine J (gn 9)<|ifE hr ?_ ?_<;>intro h13 hr
 exact e
 exact e
 exact e
 exact e
def j0Y (rec_sHasRemote:Expr→Option Bool):Nat→Expr→Unit→Option (Unit ⊕ Bool):=fun k1 xk1 _=>
 (rec_sHasRemote xk1).bind fun y1=>
 if y1=true then (
 some (.inr true)
 ) else (
 some (.inl ())
 )
def z3z (rec_sHasRemote:Expr→Option Bool)(a0:Expr):Option Bool:=
 (findL (j0Y rec_sHasRemote) 0 a0.Args ()).bind <| onr (fun r1=>some r1) fun _=>
 some (decide (a0.Kind=8))
theorem j5F {rec_sHasRemote:Expr→Option Bool}(ih_sHasRemote:∀ {m:Md} {a0:Expr} {r:Bool},rec_sHasRemote a0=some r→Ok Tryz.prog 173 [Expr.x m a0] [] (dB r) []){m:Md}{a0:Expr}{r:Bool}(hr:z3z rec_sHasRemote a0=some r):Ok Tryz.prog 173 [Expr.x m a0] [] (dB r) []:=by
 refine OE Tryz.func173 fun S hS=>?_
 unfold z3z at hr
 refine J g<|J (BX' 0)<|J (gn 8)<|J (lenA 6 0)<|fun hl1=>bdE hr fun q1 hqq1 hr=>q0b hqq1 hl1 1 (fun k1 _=>[(1,.pb 0 0),(3,dI (k1:Int))]) (fun k1 _=>[]) I (fun k1 xk1 sk1 ok1 hxk1 hr hltk1 hik1=>?_) fun k1 sk1 ek1 hltk1=>?_
 refine bdE hr fun y1 hy1 hr=>J g<|J (CB' [] [] (ih_sHasRemote (m:=m) hy1))<|J (gn 1)<|ifE hr ?_ ?_<;>intro h1 hr
 exact e
 exact e
 subst ek1
 exact e
def z3A:Nat→Expr→Option Bool
  | 0,_=>none
  | n+1,a0=>z3z (z3A n) a0
def z8P (a0:Expr):Option Bool:=recO fun n=>z3A n a0
theorem j5G (n:Nat):∀ {m:Md} {a0:Expr} {r:Bool},z3A n a0=some r→Ok Tryz.prog 173 [Expr.x m a0] [] (dB r) []:=by
  induction n with
  | zero=>intro _ _ r hr; exact nomatch (show (none:Option Bool)=some r from hr)
  | succ n ih=>intro _ _ r hr; exact j5F ih hr
theorem j7n {m:Md}{a0:Expr}{r:Bool}(hr:z8P a0=some r):Ok Tryz.prog 173 [Expr.x m a0] [] (dB r) []:=by
 obtain⟨n,hn⟩:=q5V hr
 exact j5G n hn
def j0Z:Nat→Equation→Unit→Option (Unit ⊕ Bool):=fun k1 xk1 _=>
 (z8P xk1.Expr).bind fun y1=>
 if y1=true then (
 some (.inr true)
 ) else (
 some (.inl ())
 )
def z3B (a0:Rule):Option Bool:=
 (findL j0Z 0 a0.Equations ()).bind <| onr (fun r1=>some r1) fun _=>
 some false
theorem j7o {m:Md}{a0:Rule}{r:Bool}(hr:z3B a0=some r):Ok Tryz.prog 119 [Rule.x m a0] [] (dB r) []:=by
 refine OE Tryz.func119 fun S hS=>?_
 unfold z3B at hr
 refine J g<|J (BX' 0)<|J (gn 8)<|J (lenA 4 0)<|fun hl1=>bdE hr fun q1 hqq1 hr=>q0b hqq1 hl1 1 (fun k1 _=>[(1,.pb 0 0),(3,dI (k1:Int))]) (fun k1 _=>[]) I (fun k1 xk1 sk1 ok1 hxk1 hr hltk1 hik1=>?_) fun k1 sk1 ek1 hltk1=>?_
 refine bdE hr fun y1 hy1 hr=>J g<|J (CB' [] [] (j7n (m:=m) hy1))<|J (gn 1)<|ifE hr ?_ ?_<;>intro h1 hr
 exact e
 exact e
 subst ek1
 exact e
def j2r:Nat→Attribute→Unit→Option (Unit ⊕ Bool):=fun k2 xk2 _=>
 if xk2.Circular=true then (
 some (.inr false)
 ) else (
 if xk2.Mode=3 then (
 some (.inr false)
 ) else (
 some (.inl ())
 )
 )
def j2s:Nat→Symbol→Unit→Option (Unit ⊕ Bool):=fun k1 xk1 _=>
 (findL j2r 0 xk1.Attributes ()).bind <| onr (fun r1=>some (.inr r1)) fun _=>
 some (.inl ())
def j2t:Nat→Rule→Unit→Option (Unit ⊕ Bool):=fun k3 xk3 _=>
 (z3B xk3).bind fun y1=>
 if y1=true then (
 some (.inr false)
 ) else (
 some (.inl ())
 )
def z4W (a0:Grammar):Option Bool:=
 (findL j2s 0 a0.Symbols ()).bind <| onr (fun r2=>some r2) fun _=>
 (findL j2t 0 a0.Rules ()).bind <| onr (fun r3=>some r3) fun _=>
 (z4o a0).bind fun y2=>
 some y2
theorem j8R {m:Md}{a0:Grammar}{r:Bool}(hr:z4W a0=some r):Ok Tryz.prog 64 [Grammar.x m a0] [] (dB r) []:=by
 refine OE Tryz.func64 fun S hS=>?_
 unfold z4W at hr
 refine J g<|J (BX' 0)<|J (gn 8)<|J (lenA 0 0)<|fun hl1=>bdE hr fun q1 hqq1 hr=>q0b hqq1 hl1 1 (fun k1 _=>[(1,.pb 0 0),(3,dI (k1:Int))]) (fun k1 _=>[]) I (fun k1 xk1 sk1 ok1 hxk1 hr hltk1 hik1=>?_) fun k1 sk1 ek1 hltk1=>?_
 refine J (gn 18) ?_
 refine AW.len (.el 1 (.tmp 9 rfl) hxk1 rfl) fun hl2=>?_
 refine bdE hr fun q2 hqq2 hr=>q0b hqq2 hl2 1 (fun k2 _=>[(1,.pb 0 0),(3,dI (k1:Int)),(4,dI (k2:Int))]) (fun k2 _=>[]) I (fun k2 xk2 sk2 ok2 hxk2 hr hltk2 hik2=>?_) fun k2 sk2 ek2 hltk2=>?_
 refine J g<|J (NV' 1)<|J (gn 6)<|ifE hr ?_ ?_<;>intro h1 hr
 exact e
 refine J (gn 6)<|ifE hr ?_ ?_<;>intro h2 hr
 exact e
 exact e
 subst ek2
 exact e
 subst ek1
 refine J (gn 17) ?_
 refine AW.len (.box 0 1 rfl rfl) fun hl3=>?_
 refine bdE hr fun q3 hqq3 hr=>q0b hqq3 hl3 1 (fun k3 _=>[(1,.pb 0 0),(6,dI (k3:Int))]) (fun k3 _=>[]) I (fun k3 xk3 sk3 ok3 hxk3 hr hltk3 hik3=>?_) fun k3 sk3 ek3 hltk3=>?_
 refine bdE hr fun y1 hy1 hr=>J g<|J (CB' [] [] (j7o (m:=m) hy1))<|J (gn 1)<|ifE hr ?_ ?_<;>intro h3 hr
 exact e
 exact e
 subst ek3
 refine bdE hr fun y2 hy2 hr=>J g<|J (CB' [] [] (j4o (m:=m) hy2))<|e
def z7s (x1:Relation)(k2:Nat)(xk2:Int):Nat→Int→((List Int) × Int)→Option ((List Int) × Int):=fun k3 xk3 (s8,s9)=>
 (
 (q7v x1 (k2:Int) (k3:Int)).bind fun y6=>
 if y6=true then (
 (q6P (⟨s9,s8⟩:Relation) xk2 xk3).bind fun y7=>
 some (y7.Rows,y7.N)
 ) else (
 some (s8,s9)
 )
 ).bind fun (s10,s11)=>
 some (s10,s11)
def z7t (y2:(List Int))(x1:Relation):Nat→Int→((List Int) × Int)→Option ((List Int) × Int):=fun k2 xk2 (s6,s7)=>
 (eachL (z7s x1 k2 xk2) 0 y2 (s6,s7)).bind fun (s8,s9)=>
 some (s8,s9)
def z2M (a0:Grammar)(a1:Rule)(a2:(List Relation)):(Int × (List Int) × Int)→Option ((Int × (List Int) × Int) ⊕ ((List Int) × Int)):=fun (s3,s4,s5)=>
 if s3≤(a1.Right.length:Int) then (
 (q5o a0 a1 s3).bind fun y2=>
 (q5C a1 s3).bind fun y3=>
 (z2Y a0 y3).bind fun y4=>
 (z0J 0 y4).bind fun y5=>
 grd (0≤y5) <|
 (a2[y5.toNat]?).bind fun x1=>
 (eachL (z7t y2 x1) 0 y2 (s4,s5)).bind fun (s6,s7)=>
 grd (I64 (s3+1)) <|
 some (.inl ((s3+1),s6,s7))
 ) else (
 some (.inr (s4,s5))
 )
def z6I (a0:Grammar)(a1:Rule)(a2:(List Relation)):Option Relation:=
 (q6m a0 a1).bind fun y1=>
 (q4i (z2M a0 a1 a2) (0,y1.Rows,y1.N)).bind fun (s1,s2)=>
 (q6W (⟨s2,s1⟩:Relation)).bind fun y8=>
 some y8
theorem k0s {m:Md}{a0:Grammar}{a1:Rule}{a2:(List Relation)}{r:Relation}(hr:z6I a0 a1 a2=some r):Ok Tryz.prog 65 [Grammar.y m a0,Rule.x m a1,.d m (.sl 2 (a2.map Relation.D))] [] (.ag [dI r.N,.ref 0 none]) [.row .fz 1 (r.Rows.map (A.D.i .i64))]:=by
 refine OE Tryz.func65 fun S hS=>?_
 unfold z6I at hr
 refine J g<|J (BX' 0)<|J (BX' 1)<|J (NV' 2)<|bdE hr fun y1 hy1 hr=>J g<|J (CB' [(0,3)] [] (z6o (m:=m) hy1))<|J (NV' 4)<|bdP hr fun s1 s2 hqq1 hr=>J (gn 7)<|q0d 5 [(6,.pb 2 0),(7,.pb 4 0)] [(3,.row .fz 1 (s1.map (A.D.i .i64))),(4,.box [dI s2,.ref 3 none])] ?_ ?_
 refine J g<|q0h hqq1 5 (fun (s3,s4,s5)=>[(2,.d m (.sl 2 (a2.map Relation.D))),(3,.pb 0 0),(4,.pb 1 0),(6,.pb 2 0),(7,.pb 4 0),(8,dI s3)]) (fun (s3,s4,s5)=>[(3,.row .fz 1 (s4.map (A.D.i .i64))),(4,.box [dI s5,.ref 3 none])]) I fun sk1 ok1 hr hik1=>?_
 obtain⟨s3,s4,s5⟩:=sk1
 have hr:=hr
 refine J (gn 9)<|ifE hr ?_ ?_<;>intro h1 hr
 refine bdE hr fun y2 hy2 hr=>J g<|J (CB' [(0,5)] [] (z0S (m:=m) hy2))<|bdE hr fun y3 hy3 hr=>J g<|J (CB' [] [] (q8I (m:=m) hy3))<|bdE hr fun y4 hy4 hr=>J (CB' [] [] (z6m (m:=m) hy4))<|bdE hr fun y5 hy5 hr=>J (CB' [] [] (z8n hy5))<|ggE hr fun g1 hr=>bdE hr fun x1 hx1 hr=>J g<|J (NV' 6)<|J (gn 7)<|J (lenR 5)<|fun hl2=>bdP hr fun s6 s7 hqq2 hr=>q0c hqq2 hl2 7 (fun k2 (s6,s7)=>[(2,.d m (.sl 2 (a2.map Relation.D))),(3,.pb 0 0),(4,.pb 1 0),(6,.pb 2 0),(7,.pb 4 0),(8,dI s3),(9,.ref 5 none),(10,.pb 6 0),(11,dI (k2:Int))]) (fun k2 (s6,s7)=>[(3,.row .fz 1 (s6.map (A.D.i .i64))),(4,.box [dI s7,.ref 3 none])]) I (fun k2 xk2 sk2 ok2 hxk2 hr hltk2=>?_) fun k2 hltk2=>?_
 obtain⟨s6,s7⟩:=sk2
 refine J (gn 17)<|J (lenR 5)<|fun hl3=>bdP hr fun s8 s9 hqq3 hr=>q0c hqq3 hl3 7 (fun k3 (s8,s9)=>[(2,.d m (.sl 2 (a2.map Relation.D))),(3,.pb 0 0),(4,.pb 1 0),(6,.pb 2 0),(7,.pb 4 0),(8,dI s3),(9,.ref 5 none),(10,.pb 6 0),(11,dI (k2:Int)),(12,dI (k3:Int))]) (fun k3 (s8,s9)=>[(3,.row .fz 1 (s8.map (A.D.i .i64))),(4,.box [dI s9,.ref 3 none])]) I (fun k3 xk3 sk3 ok3 hxk3 hr hltk3=>?_) fun k3 hltk3=>?_
 obtain⟨s8,s9⟩:=sk3
 refine bdP hr fun s10 s11 hqq4 hr=>J (gn 11)<|q0d 7 [(2,.d m (.sl 2 (a2.map Relation.D))),(3,.pb 0 0),(4,.pb 1 0),(6,.pb 2 0),(7,.pb 4 0),(8,dI s3),(9,.ref 5 none),(10,.pb 6 0),(11,dI (k2:Int)),(12,dI (k3:Int))] [(3,.row .fz 1 (s10.map (A.D.i .i64))),(4,.box [dI s11,.ref 3 none])] ?_ ?_
 replace hr:=hqq4
 refine bdE hr fun y6 hy6 hr=>J g<|J (CB' [] [] (z2v (m:=m) hy6))<|J (gn 1)<|ifE hr ?_ ?_<;>intro h2 hr
 refine bdE hr fun y7 hy7 hr=>J g<|J (CB' [(0,7)] [3] (z7h (m:=.bo) hy7))<|e
 exact e
 exact e
 exact e
 refine ggE hr fun g2 hr=>e
 refine J (gn 2) ?_
 cases hr
 cases hik1 _ rfl
 exact GH.trans (q0W (q:=0) [.d m (.sl 2 (a0.Symbols.map Symbol.D)),.u] (.cons .rfl (.cons .u .nil)) rfl) (q0e hS 5)
 refine bdE hr fun y8 hy8 hr=>J g<|J (CB' [(0,5)] [3] (z2x (m:=.bo) hy8))<|e
end Go.Proofs.YtcegfmageiicaaaGreat
