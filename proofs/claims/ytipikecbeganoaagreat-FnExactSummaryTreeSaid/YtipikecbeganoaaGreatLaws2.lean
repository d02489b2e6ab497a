/- What some functions of the program compute, as partial functions on plain data, and that they do; each lemma bears its conditions in its statement. -/
import Derived.Test.YtipikecbeganoaaGreatLaws1
set_option linter.unusedVariables false
set_option linter.unusedSimpArgs false
set_option linter.ambiguousOpen false
set_option linter.unusedSectionVars false
set_option linter.unnecessarySimpa false
set_option maxRecDepth 100000
set_option maxHeartbeats 40000000
noncomputable section
namespace Go.Proofs.YtipikecbeganoaaGreat
open Go Go.E Go.A
theorem z6Z {a0:(List Cn)}{a1:Int}{r:(Int×(List Cn))}(hr:q7C a0 a1=some r):Ok Tryz.prog 83 [.ref 0 none,dI a1] [.deep .fz 16 (a0.map Cn.W) []] (dI r.1) [.deep .fz 16 (r.2.map Cn.W) []]:=by
 refine OE Tryz.func83 fun S hS=>?_
 unfold q7C at hr
 refine bdP hr fun s1 s2 hqq1 hr=>J (gn 9)<|q0e 1 [(1,dI s1)] [(0,.deep .fz 16 (s2.map Cn.W) [])] ?_ ?_
 refine J g<|q0h hqq1 1 (fun (s3,s4,s5)=>[(0,.ref 0 none),(1,dI s3),(5,dI s4)]) (fun (s3,s4,s5)=>[(0,.deep .fz 16 (s5.map Cn.W) [])]) I fun sk1 ok1 hr hik1=>?_
 obtain⟨s3,s4,s5⟩:=sk1
 have hr:=hr
 refine J g<|J (LEd' s5.length)<|J (gn 2)<|ifE hr ?_ ?_<;>intro h1 hr
 refine bdE hr fun y1 hy1 hr=>J g<|J (CB' [] [] (q4S hy1))<|ggE hr fun g1 hr=>bdE hr fun x1 hx1 hr=>J (IEd' g1 (q3P hx1))<|J g<|J (SD' [.d .fz (.s y1)] [] (q3P hx1))<|ggE hr fun g2 hr=>bdE hr fun y2 hy2 hr=>J g<|J (CB' [] [] (q4S hy2))<|J (IEd' g1 (q3O (q3P hx1)))<|J g<|J (SD' [.d .fz (.s y2)] [] (q3O (q3P hx1)))<|ggE hr fun g3 hr=>J g<|J (IEd' g1 (q3O (q3O (q3P hx1))))<|J g<|J (SD' [.d .fz (.i .i64 ((s3+1)+1))] [] (q3O (q3O (q3P hx1)))) ?_
 refine q0r 0 rfl (he:=enr3 (c:=[Cell.d Md.fz (.s y1),Cell.d Md.fz (.s y2),Cell.d Md.fz (.i .i64 ((s3+1)+1)),Cell.d Md.fz (.i .i64 x1.Target.N),Cell.d Md.fz (.i .i64 x1.Target.Pos),Cell.d Md.fz (.i .i64 x1.Target.Type_),Cell.d Md.fz (.s x1.Target.Symbol),Cell.d Md.fz (.s x1.Target.Name),.w 7 (x1.Target.Args.map Expr.D),Cell.d Md.fz (.i .i64 x1.Value.Kind),Cell.d Md.fz (.i .i64 x1.Value.N),Cell.d Md.fz (.i .i64 x1.Value.Pos),Cell.d Md.fz (.i .i64 x1.Value.Type_),Cell.d Md.fz (.s x1.Value.Symbol),Cell.d Md.fz (.s x1.Value.Name),.w 7 (x1.Value.Args.map Expr.D)]) rfl) ?_
 refine ggE hr fun g4 hr=>J g<|J (IEd' g1 (q3O (q3P hx1)))<|J g<|J (SD' [.d .fz (.i .i64 (((s3+1)+1)+1))] [] (q3O (q3P hx1)))<|ggE hr fun g5 hr=>J g<|J (IEd' g1 (q3O (q3O (q3P hx1))))<|J g<|J (SD' [.d .fz (.i .i64 ((((s3+1)+1)+1)+1))] [] (q3O (q3O (q3P hx1)))) ?_
 refine q0r 0 rfl (he:=enr3 (c:=[Cell.d Md.fz (.s y1),Cell.d Md.fz (.s y2),Cell.d Md.fz (.i .i64 ((s3+1)+1)),Cell.d Md.fz (.i .i64 (((s3+1)+1)+1)),Cell.d Md.fz (.i .i64 ((((s3+1)+1)+1)+1)),Cell.d Md.fz (.i .i64 x1.Target.Type_),Cell.d Md.fz (.s x1.Target.Symbol),Cell.d Md.fz (.s x1.Target.Name),.w 7 (x1.Target.Args.map Expr.D),Cell.d Md.fz (.i .i64 x1.Value.Kind),Cell.d Md.fz (.i .i64 x1.Value.N),Cell.d Md.fz (.i .i64 x1.Value.Pos),Cell.d Md.fz (.i .i64 x1.Value.Type_),Cell.d Md.fz (.s x1.Value.Symbol),Cell.d Md.fz (.s x1.Value.Name),.w 7 (x1.Value.Args.map Expr.D)]) rfl) ?_
 refine ggE hr fun g6 hr=>J g<|J (IEd' g1 (q3O (q3P hx1)))<|J g<|J (SD' [.d .fz (.i .i64 (((((s3+1)+1)+1)+1)+1))] [] (q3O (q3P hx1)))<|ggE hr fun g7 hr=>bdE hr fun y3 hy3 hr=>J g<|J (CB' [] [] (q4S hy3))<|J (IEd' g1 (q3O (q3O (q3P hx1))))<|J g<|J (SD' [.d .fz (.s y3)] [] (q3O (q3O (q3P hx1)))) ?_
 refine q0r 0 rfl (he:=enr3 (c:=[Cell.d Md.fz (.s y1),Cell.d Md.fz (.s y2),Cell.d Md.fz (.i .i64 ((s3+1)+1)),Cell.d Md.fz (.i .i64 (((s3+1)+1)+1)),Cell.d Md.fz (.i .i64 ((((s3+1)+1)+1)+1)),Cell.d Md.fz (.i .i64 (((((s3+1)+1)+1)+1)+1)),Cell.d Md.fz (.s y3),Cell.d Md.fz (.s x1.Target.Name),.w 7 (x1.Target.Args.map Expr.D),Cell.d Md.fz (.i .i64 x1.Value.Kind),Cell.d Md.fz (.i .i64 x1.Value.N),Cell.d Md.fz (.i .i64 x1.Value.Pos),Cell.d Md.fz (.i .i64 x1.Value.Type_),Cell.d Md.fz (.s x1.Value.Symbol),Cell.d Md.fz (.s x1.Value.Name),.w 7 (x1.Value.Args.map Expr.D)]) rfl) ?_
 refine ggE hr fun g8 hr=>bdE hr fun y4 hy4 hr=>J g<|J (CB' [] [] (q4S hy4))<|J (IEd' g1 (q3O (q3P hx1)))<|J g<|J (SD' [.d .fz (.s y4)] [] (q3O (q3P hx1)))<|ggE hr fun g9 hr=>J g<|J (IEd' g1 (q3O (q3O (q3P hx1))))<|J (gn 2)<|J (q0o 0 s4.toNat 8 1 (q3O (q3O (q3P hx1)))) ?_
 refine q0r 0 rfl (he:=enr3 (c:=[Cell.d Md.fz (.s y1),Cell.d Md.fz (.s y2),Cell.d Md.fz (.i .i64 ((s3+1)+1)),Cell.d Md.fz (.i .i64 (((s3+1)+1)+1)),Cell.d Md.fz (.i .i64 ((((s3+1)+1)+1)+1)),Cell.d Md.fz (.i .i64 (((((s3+1)+1)+1)+1)+1)),Cell.d Md.fz (.s y3),Cell.d Md.fz (.s y4),.u,Cell.d Md.fz (.i .i64 x1.Value.Kind),Cell.d Md.fz (.i .i64 x1.Value.N),Cell.d Md.fz (.i .i64 x1.Value.Pos),Cell.d Md.fz (.i .i64 x1.Value.Type_),Cell.d Md.fz (.s x1.Value.Symbol),Cell.d Md.fz (.s x1.Value.Name),.w 7 (x1.Value.Args.map Expr.D)]) rfl) ?_
 refine J (LPd' [(8,1)] (q3O (q3P hx1)))<|bdP hr fun y5 z1 hq2 hr=>J g<|J (CB' [(0,1)] [] (z5J hq2))<|J g<|J (IEd' g1 (q3O (q3P hx1)))<|J g<|J (SD' [.d .fz (.i .i64 y5)] [] (q3O (q3P hx1)))<|ggE hr fun g10 hr=>J g<|J (IEd' g1 (q3O (q3O (q3P hx1))))<|J g<|J (SD' [.d .fz (.i .i64 (y5+1))] [] (q3O (q3O (q3P hx1)))) ?_
 refine q0r 0 rfl (he:=enr3 (c:=[Cell.d Md.fz (.s y1),Cell.d Md.fz (.s y2),Cell.d Md.fz (.i .i64 ((s3+1)+1)),Cell.d Md.fz (.i .i64 (((s3+1)+1)+1)),Cell.d Md.fz (.i .i64 ((((s3+1)+1)+1)+1)),Cell.d Md.fz (.i .i64 (((((s3+1)+1)+1)+1)+1)),Cell.d Md.fz (.s y3),Cell.d Md.fz (.s y4),.u,Cell.d Md.fz (.i .i64 y5),Cell.d Md.fz (.i .i64 (y5+1)),Cell.d Md.fz (.i .i64 x1.Value.Pos),Cell.d Md.fz (.i .i64 x1.Value.Type_),Cell.d Md.fz (.s x1.Value.Symbol),Cell.d Md.fz (.s x1.Value.Name),.w 7 (x1.Value.Args.map Expr.D)]) rfl) ?_
 refine ggE hr fun g11 hr=>J g<|J (IEd' g1 (q3O (q3P hx1)))<|J g<|J (SD' [.d .fz (.i .i64 ((y5+1)+1))] [] (q3O (q3P hx1)))<|ggE hr fun g12 hr=>J g<|J (IEd' g1 (q3O (q3O (q3P hx1))))<|J g<|J (SD' [.d .fz (.i .i64 (((y5+1)+1)+1))] [] (q3O (q3O (q3P hx1)))) ?_
 refine q0r 0 rfl (he:=enr3 (c:=[Cell.d Md.fz (.s y1),Cell.d Md.fz (.s y2),Cell.d Md.fz (.i .i64 ((s3+1)+1)),Cell.d Md.fz (.i .i64 (((s3+1)+1)+1)),Cell.d Md.fz (.i .i64 ((((s3+1)+1)+1)+1)),Cell.d Md.fz (.i .i64 (((((s3+1)+1)+1)+1)+1)),Cell.d Md.fz (.s y3),Cell.d Md.fz (.s y4),.u,Cell.d Md.fz (.i .i64 y5),Cell.d Md.fz (.i .i64 (y5+1)),Cell.d Md.fz (.i .i64 ((y5+1)+1)),Cell.d Md.fz (.i .i64 (((y5+1)+1)+1)),Cell.d Md.fz (.s x1.Value.Symbol),Cell.d Md.fz (.s x1.Value.Name),.w 7 (x1.Value.Args.map Expr.D)]) rfl) ?_
 refine ggE hr fun g13 hr=>bdE hr fun y6 hy6 hr=>J g<|J (CB' [] [] (q4S hy6))<|J (IEd' g1 (q3O (q3P hx1)))<|J g<|J (SD' [.d .fz (.s y6)] [] (q3O (q3P hx1)))<|ggE hr fun g14 hr=>bdE hr fun y7 hy7 hr=>J g<|J (CB' [] [] (q4S hy7))<|J (IEd' g1 (q3O (q3O (q3P hx1))))<|J g<|J (SD' [.d .fz (.s y7)] [] (q3O (q3O (q3P hx1)))) ?_
 refine q0r 0 rfl (he:=enr3 (c:=[Cell.d Md.fz (.s y1),Cell.d Md.fz (.s y2),Cell.d Md.fz (.i .i64 ((s3+1)+1)),Cell.d Md.fz (.i .i64 (((s3+1)+1)+1)),Cell.d Md.fz (.i .i64 ((((s3+1)+1)+1)+1)),Cell.d Md.fz (.i .i64 (((((s3+1)+1)+1)+1)+1)),Cell.d Md.fz (.s y3),Cell.d Md.fz (.s y4),.u,Cell.d Md.fz (.i .i64 y5),Cell.d Md.fz (.i .i64 (y5+1)),Cell.d Md.fz (.i .i64 ((y5+1)+1)),Cell.d Md.fz (.i .i64 (((y5+1)+1)+1)),Cell.d Md.fz (.s y6),Cell.d Md.fz (.s y7),.w 7 (x1.Value.Args.map Expr.D)]) rfl) ?_
 refine ggE hr fun g15 hr=>J g<|J (IEd' g1 (q3O (q3P hx1)))<|J (gn 2)<|J (q0o 0 s4.toNat 15 2 (q3O (q3P hx1)))<|J (LPd' [(15,2),(8,1)] (q3O (q3O (q3P hx1))))<|bdP hr fun y8 z2 hq3 hr=>J g<|J (CB' [(0,2)] [] (z5J hq3))<|ggE hr fun g16 hr=>J (gn 7) ?_
 cases hr
 exact⟨_,rfl,GH.trans (q0m 0 s4.toNat 15 2 (q3O (q3O (q3P hx1))) (hx:=.ownM (f:=Expr.D))) (GH.trans (q0m 0 s4.toNat 8 1 (q3O (q3O (q3O (q3P hx1)))) (hx:=.ownM (f:=Expr.D))) (GH.trans (q0k 0 (he:=eset (f:=Cn.W) (x':=(⟨y1,y2,(⟨((s3+1)+1),(((s3+1)+1)+1),((((s3+1)+1)+1)+1),(((((s3+1)+1)+1)+1)+1),y3,y4,z1⟩:Expr),(⟨y5,(y5+1),((y5+1)+1),(((y5+1)+1)+1),y6,y7,z2⟩:Expr)⟩:Cn)) (by first|rfl|(simp only[List.set_set];rfl)))) (q0f hS 1)))⟩
 refine J (gn 2) ?_
 cases hr
 cases hik1 _ rfl
 exact q0f hS 1
 exact e
theorem j6a {a0:(List Rule)}{a1:Int}{r:(Int×(List Rule))}(hr:z4f a0 a1=some r):Ok Tryz.prog 44 [.ref 0 none,dI a1] [.deep .fz 6 (a0.map Rule.W) []] (dI r.1) [.deep .fz 6 (r.2.map Rule.W) []]:=by
 refine OE Tryz.func44 fun S hS=>?_
 unfold z4f at hr
 refine bdP hr fun s1 s2 hqq1 hr=>J (gn 9)<|q0e 1 [(1,dI s1)] [(0,.deep .fz 6 (s2.map Rule.W) [])] ?_ ?_
 refine J g<|q0h hqq1 1 (fun (s3,s4,s5)=>[(0,.ref 0 none),(1,dI s3),(5,dI s4)]) (fun (s3,s4,s5)=>[(0,.deep .fz 6 (s5.map Rule.W) [])]) I fun sk1 ok1 hr hik1=>?_
 obtain⟨s3,s4,s5⟩:=sk1
 have hr:=hr
 refine J g<|J (LEd' s5.length)<|J (gn 2)<|ifE hr ?_ ?_<;>intro h1 hr
 refine bdE hr fun y1 hy1 hr=>J g<|J (CB' [] [] (q4S hy1))<|ggE hr fun g1 hr=>bdE hr fun x1 hx1 hr=>J (IEd' g1 (q3P hx1))<|J g<|J (SD' [.d .fz (.s y1)] [] (q3P hx1))<|ggE hr fun g2 hr=>bdE hr fun y2 hy2 hr=>J g<|J (CB' [] [] (q4S hy2))<|J (IEd' g1 (q3O (q3P hx1)))<|J g<|J (SD' [.d .fz (.s y2)] [] (q3O (q3P hx1)))<|ggE hr fun g3 hr=>J g<|J (IEd' g1 (q3O (q3O (q3P hx1))))<|J (gn 1)<|J (q0o 0 s4.toNat 2 1 (q3O (q3O (q3P hx1))))<|J (LPd' [(2,1)] (q3O (q3O (q3O (q3P hx1)))))<|bdP hr fun y3 z1 hq2 hr=>J g<|J (CB' [(0,1)] [] (j3l hq2))<|J g<|J (OB' _ (bRem (b:=3) (by decide))) ?_
 refine J g<|J (IEd' g1 (q3O (q3O (q3O (q3P hx1)))))<|J g<|J (SD' [.d .fz (.b (decide ((y3.tmod 3)=0)))] [] (q3O (q3O (q3O (q3P hx1)))))<|ggE hr fun g4 hr=>J g<|J (IEd' g1 (q3O (q3O (q3O (q3O (q3P hx1))))))<|J (gn 1)<|J (q0o 0 s4.toNat 4 2 (q3O (q3O (q3O (q3O (q3P hx1))))))<|J (LPd' [(4,2),(2,1)] (q3O (q3O (q3O (q3O (q3O (q3P hx1)))))))<|bdP hr fun y4 z2 hq3 hr=>J g<|J (CB' [(0,2)] [] (j0o hq3))<|J g<|J (IEd' g1 (q3O (q3O (q3O (q3O (q3O (q3P hx1)))))))<|J (gn 1)<|J (q0o 0 s4.toNat 5 3 (q3O (q3O (q3O (q3O (q3O (q3P hx1)))))))<|J (LPd' [(5,3),(4,2),(2,1)] (q3O (q3O (q3O (q3O (q3O (q3O (q3P hx1))))))))<|bdP hr fun y5 z3 hq4 hr=>J g<|J (CB' [(0,3)] [] (z6Z hq4))<|ggE hr fun g5 hr=>J (gn 7) ?_
 cases hr
 exact⟨_,rfl,GH.trans (q0m 0 s4.toNat 5 3 (q3O (q3O (q3O (q3O (q3O (q3O (q3P hx1))))))) (hx:=.ownM (f:=Cn.D))) (GH.trans (q0m 0 s4.toNat 4 2 (q3O (q3O (q3O (q3O (q3O (q3O (q3O (q3P hx1)))))))) (hx:=.ownM (f:=Eqn.D))) (GH.trans (q0m 0 s4.toNat 2 1 (q3O (q3O (q3O (q3O (q3O (q3O (q3O (q3O (q3P hx1))))))))) (hx:=.flatM (fun _=>rfl))) (GH.trans (q0k 0 (he:=eset (f:=Rule.W) (x':=(⟨y1,y2,z1,decide ((y3.tmod 3)=0),z2,z3⟩:Rule)) (by first|rfl|(simp only[List.set_set];rfl)))) (q0f hS 1))))⟩
 refine J (gn 2) ?_
 cases hr
 cases hik1 _ rfl
 exact q0f hS 1
 exact e
theorem z7a {a0:Gm_}{a1:Int}{r:(Int×(List Symbol)×(List Rule))}(hr:q6D a0 a1=some r):Ok Tryz.prog 14 [.ag [.ref 0 none,.ref 1 none],dI a1] [.deep .fz 2 (a0.Symbols.map Symbol.W) [],.deep .fz 6 (a0.Rules.map Rule.W) []] (dI r.1) [.deep .fz 2 (r.2.1.map Symbol.W) [],.deep .fz 6 (r.2.2.map Rule.W) []]:=by
 refine OE Tryz.func14 fun S hS=>?_
 unfold q6D at hr
 refine J g<|J (BX' 2)<|bdP hr fun y1 z1 hq1 hr=>J g<|J (CB' [(0,0)] [] (j3k hq1))<|bdP hr fun y2 z2 hq2 hr=>J g<|J (CB' [(0,1)] [] (j6a hq2))<|e
theorem j0U {a0:(List Int)}{a1:Int}{r:(Int×(List Int))}(hr:z3C a0 a1=some r):Ok Tryz.prog 45 [.ref 0 none,dI a1] [.row .fz 1 (a0.map (A.D.i .i64))] (dI r.1) [.row .fz 1 (r.2.map (A.D.i .i64))]:=by
 refine OE Tryz.func45 fun S hS=>?_
 unfold z3C at hr
 refine bdP hr fun s1 s2 hqq1 hr=>J (gn 9)<|q0e 1 [(1,dI s1)] [(0,.row .fz 1 (s2.map (A.D.i .i64)))] ?_ ?_
 refine J g<|q0h hqq1 1 (fun (s3,s4,s5)=>[(0,.ref 0 none),(1,dI s3),(5,dI s4)]) (fun (s3,s4,s5)=>[(0,.row .fz 1 (s5.map (A.D.i .i64)))]) I fun sk1 ok1 hr hik1=>?_
 obtain⟨s3,s4,s5⟩:=sk1
 have hr:=hr
 refine J (gn 8)<|ifE hr ?_ ?_<;>intro h1 hr
 refine ggE hr fun g1 hr=>bdE hr fun x1 hx1 hr=>J g<|J (SE' s3 hx1)<|ggE hr fun g2 hr=>ggE hr fun g3 hr=>e
 refine J (gn 2) ?_
 cases hr
 cases hik1 _ rfl
 exact q0f hS 1
 exact e
theorem j1C {a0:Rl_}{a1:Int}{r:(Int×(List Int))}(hr:q8S a0 a1=some r):Ok Tryz.prog 15 [.ag [dI a0.N,.ref 0 none],dI a1] [.row .fz 1 (a0.Rows.map (A.D.i .i64))] (dI r.1) [.row .fz 1 (r.2.map (A.D.i .i64))]:=by
 refine OE Tryz.func15 fun S hS=>?_
 unfold q8S at hr
 refine J g<|J (BX' 1)<|bdP hr fun y1 z1 hq1 hr=>J g<|J (CB' [(0,0)] [] (j0U hq1))<|e
theorem j6b {a0:(List Node)}{a1:Int}{r:(Int×(List Node))}(hr:z4h a0 a1=some r):Ok Tryz.prog 46 [.ref 0 none,dI a1] [.deep .fz 6 (a0.map Node.W) []] (dI r.1) [.deep .fz 6 (r.2.map Node.W) []]:=by
 refine OE Tryz.func46 fun S hS=>?_
 unfold z4h at hr
 refine bdP hr fun s1 s2 hqq1 hr=>J (gn 9)<|q0e 1 [(1,dI s1)] [(0,.deep .fz 6 (s2.map Node.W) [])] ?_ ?_
 refine J g<|q0h hqq1 1 (fun (s3,s4,s5)=>[(0,.ref 0 none),(1,dI s3),(5,dI s4)]) (fun (s3,s4,s5)=>[(0,.deep .fz 6 (s5.map Node.W) [])]) I fun sk1 ok1 hr hik1=>?_
 obtain⟨s3,s4,s5⟩:=sk1
 have hr:=hr
 refine J g<|J (LEd' s5.length)<|J (gn 2)<|ifE hr ?_ ?_<;>intro h1 hr
 refine ggE hr fun g1 hr=>bdE hr fun x1 hx1 hr=>J g<|J (IEd' g1 (q3P hx1))<|J g<|J (SD' [.d .fz (.i .i64 s3)] [] (q3P hx1))<|ggE hr fun g2 hr=>J g<|J (IEd' g1 (q3O (q3P hx1)))<|J g<|J (SD' [.d .fz (.i .i64 (s3+1))] [] (q3O (q3P hx1)))<|ggE hr fun g3 hr=>J g<|J (IEd' g1 (q3O (q3O (q3P hx1))))<|J g<|J (SD' [.d .fz (.i .i64 ((s3+1)+1))] [] (q3O (q3O (q3P hx1))))<|ggE hr fun g4 hr=>J g<|J (IEd' g1 (q3O (q3O (q3O (q3P hx1)))))<|J g<|J (SD' [.d .fz (.i .i64 (((s3+1)+1)+1))] [] (q3O (q3O (q3O (q3P hx1)))))<|ggE hr fun g5 hr=>bdE hr fun y1 hy1 hr=>J g<|J (CB' [] [] (q4S hy1))<|J (IEd' g1 (q3O (q3O (q3O (q3O (q3P hx1)))))) ?_
 refine J g<|J (SD' [.d .fz (.s y1)] [] (q3O (q3O (q3O (q3O (q3P hx1))))))<|ggE hr fun g6 hr=>J g<|J (IEd' g1 (q3O (q3O (q3O (q3O (q3O (q3P hx1)))))))<|J (gn 1)<|J (q0o 0 s4.toNat 5 1 (q3O (q3O (q3O (q3O (q3O (q3P hx1)))))))<|J (LPd' [(5,1)] (q3O (q3O (q3O (q3O (q3O (q3O (q3P hx1))))))))<|bdP hr fun y2 z1 hq2 hr=>J g<|J (CB' [(0,1)] [] (j0U hq2))<|ggE hr fun g7 hr=>J (gn 7) ?_
 cases hr
 exact⟨_,rfl,GH.trans (q0m 0 s4.toNat 5 1 (q3O (q3O (q3O (q3O (q3O (q3O (q3P hx1))))))) (hx:=.flatM (fun _=>rfl))) (GH.trans (q0k 0 (he:=eset (f:=Node.W) (x':=(⟨s3,(s3+1),((s3+1)+1),(((s3+1)+1)+1),y1,z1⟩:Node)) (by first|rfl|(simp only[List.set_set];rfl)))) (q0f hS 1))⟩
 refine J (gn 2) ?_
 cases hr
 cases hik1 _ rfl
 exact q0f hS 1
 exact e
theorem j0V {a0:Tree}{a1:Int}{r:(Int×(List Node))}(hr:z1w a0 a1=some r):Ok Tryz.prog 16 [.ag [.ref 0 none],dI a1] [.deep .fz 6 (a0.Nodes.map Node.W) []] (dI r.1) [.deep .fz 6 (r.2.map Node.W) []]:=by
 refine OE Tryz.func16 fun S hS=>?_
 unfold z1w at hr
 refine J g<|J (BX' 1)<|bdP hr fun y1 z1 hq1 hr=>J g<|J (CB' [(0,0)] [] (j6b hq1))<|e
theorem j7G {m:Md}{a0:(List Int)}{a1:Int}{r:Int}(hr:z3D a0 a1=some r):Ok Tryz.prog 84 [.d m (.sl 1 (a0.map (A.D.i .i64))),dI a1] [] (dI r) []:=by
 refine OE Tryz.func84 fun S hS=>?_
 unfold z3D at hr
 refine J (gn 10)<|J (lenT 0)<|fun hl1=>bdE hr fun q1 hqq1 hr=>q0b hqq1 hl1 0 (fun k1 s1=>[(0,.d m (.sl 1 (a0.map (A.D.i .i64)))),(1,dI s1),(5,dI (k1:Int))]) (fun k1 s1=>[]) I (fun k1 xk1 sk1 ok1 hxk1 hr hltk1 hik1=>?_) fun k1 sk1 ek1 hltk1=>?_
 obtain⟨s1,rfl⟩:∃ y,y=sk1:=⟨_,rfl⟩
 refine J (gn 22)<|ifE hr ?_ ?_<;>intro h1 hr
 refine ggE hr fun g1 hr=>e
 exact e
 subst ek1
 obtain⟨s1,rfl⟩:∃ y,y=sk1:=⟨_,rfl⟩
 exact e
theorem j6c {m:Md}{a0:(List Node)}{a1:Int}{r:Int}(hr:z2n a0 a1=some r):Ok Tryz.prog 47 [.d m (.sl 6 (a0.map Node.D)),dI a1] [] (dI r) []:=by
 refine OE Tryz.func47 fun S hS=>?_
 unfold z2n at hr
 refine J (gn 10)<|J (lenT 0)<|fun hl1=>bdE hr fun q1 hqq1 hrz=>have hr:=hrz;q0b hqq1 hl1 0 (fun k1 s1=>[(0,.d m (.sl 6 (a0.map Node.D))),(1,dI s1),(5,dI (k1:Int))]) (fun k1 s1=>[]) I (fun k1 xk1 sk1 ok1 hxk1 hr hltk1 hik1=>?_) fun k1 sk1 ek1 hltk1=>?_
 obtain⟨s1,rfl⟩:∃ y,y=sk1:=⟨_,rfl⟩
 refine J (gn 23)<|ifE hr ?_ ?_<;>intro h1 hr
 refine ggE hr fun g1 hr=>J (gn 19)<|ifE hr ?_ ?_<;>intro h2 hr
 refine ggE hr fun g2 hr=>J (gn 19)<|ifE hr ?_ ?_<;>intro h3 hr
 refine ggE hr fun g3 hr=>J (gn 19)<|ifE hr ?_ ?_<;>intro h4 hr
 refine ggE hr fun g4 hr=>bdE hr fun y1 hy1 hr=>J g<|J (CB' [] [] (q4S hy1))<|J (gn 2)<|ifE hr ?_ ?_<;>intro h5 hr
 refine ggE hr fun g5 hr=>bdE hr fun y2 hy2 hr=>J g<|J (CB' [] [] (j7G (m:=m) hy2))<|J (gn 7)<|ifE hr ?_ ?_<;>intro h6 hr
 refine q0G rfl (dT h6) (sr (N1 (q0w ?_)))
 cases hr
 rw[hik1 _ rfl] at hrz
 clear hik1 hqq1
 cases hrz
 exact q0l [] 0 hS
 exact e
 refine q0G rfl (nT h5) (sr (N1 (q0w ?_)))
 cases hr
 rw[hik1 _ rfl] at hrz
 clear hik1 hqq1
 cases hrz
 exact q0l [] 0 hS
 exact e
 exact e
 exact e
 exact e
 subst ek1
 obtain⟨s1,rfl⟩:∃ y,y=sk1:=⟨_,rfl⟩
 exact e
theorem z4k {m:Md}{a0:Tree}{a1:Int}{r:Int}(hr:q8T a0 a1=some r):Ok Tryz.prog 17 [Tree.x m a0,dI a1] [] (dI r) []:=by
 refine OE Tryz.func17 fun S hS=>?_
 unfold q8T at hr
 refine J g<|J (BX' 0)<|bdE hr fun y1 hy1 hr=>J g<|J (CB' [] [] (j6c (m:=m) hy1))<|J (gn 8)<|ifE hr ?_ ?_<;>intro h1 hr
 exact e
 exact e
theorem z6e {m:Md}{a0:Gm_}{a1:ByteArray}{a2:Rl_}{r:Bool}(hr:q7s a0 a1 a2=some r):Ok Tryz.prog 3 [Gm_.x m a0,dS a1,Rl_.x m a2] [] (dB r) []:=by
 refine OE Tryz.func3 fun S hS=>?_
 unfold q7s at hr
 refine J g<|J (BX' 0)<|J (BX' 1)<|J g<|J LS'<|J (gn 2)<|ifE hr ?_ ?_<;>intro h1 hr
 exact e
 refine bdE hr fun y1 hy1 hr=>J g<|J (CB' [] [] (z9B (m:=m) hy1))<|J (gn 8)<|ifE hr ?_ ?_<;>intro h2 hr
 exact e
 refine bdE hr fun y2 hy2 hr=>J g<|J (CB' [] [] (j4c (m:=m) hy2))<|J (gn 8)<|ifE hr ?_ ?_<;>intro h3 hr
 exact e
 refine bdE hr fun y3 hy3 hr=>J g<|J (CB' [(0,2),(1,3)] [] (q7u (m:=m) hy3))<|bdE hr fun y4 hy4 hr=>J g<|J (CB' [(0,4)] [] (z1Z (m:=m) hy4))<|bdP hr fun y5 y6 hq1 hr=>J (CB' [(0,5)] [2,3,4] (j3d (m:=.bo) hq1))<|J g<|J (NV' 6)<|bdE hr fun y7 hy7 hr=>J g<|J (CB' [(0,7),(1,8)] [] (q7u (m:=m) hy7))<|J (NV' 9)<|bdE hr fun y8 hy8 hr=>J g<|J (CB' [(0,10)] [] (z1Z (m:=m) hy8))<|J (NV' 11)<|bdP hr fun y9 y10 hq2 hr=>J g<|J (CB' [(0,12)] [7,8,10] (z6V (m:=.bo) hq2))<|J g<|J (NV' 13)<|bdE hr fun y11 hy11 hr=>J g<|J (CB' [] [12,5] (z3b (m:=.bo) hy11)) ?_
 refine bdE hr fun s1 hqq3 hr=>J (gn 1)<|q0a 5 [(1,dS a1),(3,.pb 0 0),(5,.pb 1 0),(8,.pb 6 0),(9,dB y6),(10,.pb 9 0),(11,.pb 11 0),(12,.pb 13 0),(13,dB y10),(60,dB s1)] ?_ ?_
 replace hr:=hqq3
 refine ifE hr ?_ ?_<;>intro h4 hr
 refine J g ?_
 refine J (BQn' rfl rfl)<|J g<|E
 exact e
 refine J (gn 1)<|ifE hr ?_ ?_<;>intro h5 hr
 exact e
 refine bdE hr fun y12 hy12 hr=>J g<|J (CB' [(0,14),(1,15)] [] (q7u (m:=m) hy12))<|bdE hr fun y13 hy13 hr=>J (CB' [] [7,8,14,15] (z9E (m:=.bo) hy13))<|J (gn 2)<|ifE hr ?_ ?_<;>intro h6 hr
 refine bdE hr fun y14 hy14 hr=>J g<|J (CB' [(0,16)] [] (z1Z (m:=m) hy14))<|bdE hr fun y15 hy15 hr=>J (CB' [] [10,16] (j4f (m:=.bo) hy15))<|J (gn 2)<|ifE hr ?_ ?_<;>intro h7 hr
 refine bdT hr fun y16 z1 z2 hq4 hr=>J g<|J (CB' [(0,7),(1,8)] [] (z7a hq4))<|bdP hr fun y17 z3 hq5 hr=>J g<|J (CB' [(0,10)] [] (j1C hq5))<|bdE hr fun s2 hqq6 hr=>J (gn 7)<|q0a 6 [(1,dS a1),(3,.pb 0 0),(5,.pb 1 0),(8,.pb 6 0),(9,dB y6),(12,.pb 13 0),(13,dB y10),(84,dB s2)] ?_ ?_
 replace hr:=hqq6
 refine ifE hr ?_ ?_<;>intro h8 hr
 exact e
 refine bdE hr fun y18 hy18 hr=>J g<|J (CB' [] [12,5] (z3b (m:=.bo) hy18))<|e
 refine bdE hr fun s3 hqq7 hr=>q0a 5 [(1,dS a1),(3,.pb 0 0),(5,.pb 1 0),(8,.pb 6 0),(9,dB y6),(12,.pb 13 0),(89,dB s3)] ?_ ?_
 replace hr:=hqq7
 refine ifE hr ?_ ?_<;>intro h9 hr
 exact e
 refine J g ?_
 refine J (BQn' rfl rfl)<|J g<|E
 refine J (gn 1)<|ifE hr ?_ ?_<;>intro h10 hr
 exact e
 refine bdP hr fun y19 z4 hq8 hr=>J g<|J (CB' [(0,12)] [] (j0V hq8))<|bdE hr fun y20 hy20 hr=>J g<|J (CB' [] [12] (z4k (m:=.bo) hy20))<|J (gn 8)<|ifE hr ?_ ?_<;>intro h11 hr
 exact e
 refine J (gn 9)<|ifE hr ?_ ?_<;>intro h12 hr
 refine bdE hr fun y21 hy21 hr=>J g<|J (CB' [(0,17),(1,18)] [] (q7u (m:=m) hy21))<|bdE hr fun y22 hy22 hr=>J g<|J (CB' [(0,19)] [] (z1Z (m:=m) hy22))<|bdP hr fun y23 y24 hq9 hr=>J (CB' [(0,20)] [17,18,19] (z6V (m:=.bo) hq9))<|J g<|J (NV' 21)<|bdE hr fun y25 hy25 hr=>J g<|J (CB' [] [20,5] (z3b (m:=.bo) hy25))<|bdE hr fun s4 hqq10 hr=>J (gn 1)<|q0a 5 [(12,.pb 13 0),(15,dI y19),(118,dB s4)] ?_ ?_
 replace hr:=hqq10
 refine ifE hr ?_ ?_<;>intro h13 hr
 refine J g ?_
 refine J (BQn' rfl rfl)<|J g<|E
 exact e
 refine J (gn 1)<|ifE hr ?_ ?_<;>intro h14 hr
 exact e
 refine bdE hr fun y26 hy26 hr=>J g<|J (CB' [] [12] (z4k (m:=.bo) hy26))<|J (gn 8)<|ifE hr ?_ ?_<;>intro h15 hr
 exact e
 refine J (gn 9)<|ifE hr ?_ ?_<;>intro h16 hr
 exact e
 exact e
 exact e
 exact e
 exact e
theorem z5K {m:Md}{a0:Gm_}{r:Bool}(hr:q6W a0=some r):Ok Tryz.prog 4 [Gm_.x m a0] [] (dB r) []:=by
 refine OE Tryz.func4 fun S hS=>?_
 unfold q6W at hr
 refine J g<|J (BX' 0)<|bdE hr fun y1 hy1 hr=>J g<|J (CB' [] [] (z9B (m:=m) hy1))<|J (gn 8)<|ifE hr ?_ ?_<;>intro h1 hr
 exact e
 refine bdE hr fun y2 hy2 hr=>J g<|J (CB' [(0,1),(1,2)] [] (q7u (m:=m) hy2))<|bdP hr fun y3 y4 hq1 hr=>J (CB' [(0,3)] [1,2] (j1v (m:=.bo) hq1))<|J g<|J (NV' 4)<|bdE hr fun y5 hy5 hr=>J g<|J (CB' [(0,5),(1,6)] [] (q7u (m:=m) hy5))<|J (NV' 7)<|bdP hr fun y6 y7 hq2 hr=>J g<|J (CB' [(0,8)] [5,6] (z6a (m:=.bo) hq2))<|J g<|J (NV' 9)<|bdE hr fun y8 hy8 hr=>J g<|J (CB' [] [8,3] (z3b (m:=.bo) hy8))<|bdE hr fun s1 hqq3 hr=>J (gn 1)<|q0a 5 [(1,.pb 0 0),(4,.pb 4 0),(5,dB y4),(6,.pb 7 0),(7,.pb 9 0),(8,dB y7),(40,dB s1)] ?_ ?_
 replace hr:=hqq3
 refine ifE hr ?_ ?_<;>intro h2 hr
 refine J g ?_
 refine J (BQn' rfl rfl)<|J g<|E
 exact e
 refine J (gn 1)<|ifE hr ?_ ?_<;>intro h3 hr
 exact e
 refine bdE hr fun y9 hy9 hr=>J g<|J (CB' [(0,10),(1,11)] [] (q7u (m:=m) hy9))<|bdE hr fun y10 hy10 hr=>J (CB' [] [5,6,10,11] (z9E (m:=.bo) hy10))<|J (gn 2)<|ifE hr ?_ ?_<;>intro h4 hr
 refine bdT hr fun y11 z1 z2 hq4 hr=>J g<|J (CB' [(0,5),(1,6)] [] (z7a hq4))<|bdE hr fun s2 hqq5 hr=>J (gn 7)<|q0a 6 [(1,.pb 0 0),(4,.pb 4 0),(5,dB y4),(7,.pb 9 0),(8,dB y7),(56,dB s2)] ?_ ?_
 replace hr:=hqq5
 refine ifE hr ?_ ?_<;>intro h5 hr
 exact e
 refine bdE hr fun y12 hy12 hr=>J g<|J (CB' [] [8,3] (z3b (m:=.bo) hy12))<|e
 refine bdE hr fun s3 hqq6 hr=>q0a 5 [(1,.pb 0 0),(4,.pb 4 0),(5,dB y4),(7,.pb 9 0),(61,dB s3)] ?_ ?_
 replace hr:=hqq6
 refine ifE hr ?_ ?_<;>intro h6 hr
 exact e
 refine J g ?_
 refine J (BQn' rfl rfl)<|J g<|E
 refine J (gn 1)<|ifE hr ?_ ?_<;>intro h7 hr
 exact e
 refine bdP hr fun y13 z3 hq7 hr=>J g<|J (CB' [(0,8)] [] (j0V hq7))<|bdE hr fun y14 hy14 hr=>J g<|J (CB' [] [8] (z4k (m:=.bo) hy14))<|J (gn 8)<|ifE hr ?_ ?_<;>intro h8 hr
 exact e
 refine J (gn 9)<|ifE hr ?_ ?_<;>intro h9 hr
 refine bdE hr fun y15 hy15 hr=>J g<|J (CB' [(0,12),(1,13)] [] (q7u (m:=m) hy15))<|bdP hr fun y16 y17 hq8 hr=>J (CB' [(0,14)] [12,13] (z6a (m:=.bo) hq8))<|J g<|J (NV' 15)<|bdE hr fun y18 hy18 hr=>J g<|J (CB' [] [14,3] (z3b (m:=.bo) hy18))<|bdE hr fun s4 hqq9 hr=>J (gn 1)<|q0a 5 [(7,.pb 9 0),(10,dI y13),(87,dB s4)] ?_ ?_
 replace hr:=hqq9
 refine ifE hr ?_ ?_<;>intro h10 hr
 refine J g ?_
 refine J (BQn' rfl rfl)<|J g<|E
 exact e
 refine J (gn 1)<|ifE hr ?_ ?_<;>intro h11 hr
 exact e
 refine bdE hr fun y19 hy19 hr=>J g<|J (CB' [] [8] (z4k (m:=.bo) hy19))<|J (gn 8)<|ifE hr ?_ ?_<;>intro h12 hr
 exact e
 refine J (gn 9)<|ifE hr ?_ ?_<;>intro h13 hr
 exact e
 exact e
 exact e
 exact e
end Go.Proofs.YtipikecbeganoaaGreat
