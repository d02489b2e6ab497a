/- What some functions of the program compute, as partial functions on plain data, and that they do; each lemma bears its conditions in its statement. -/
import Derived.Test.YtnhofaohogianaaGreatLane0c
import Derived.Test.YtnhofaohogianaaGreatLane1b
set_option linter.unusedVariables false
set_option linter.unusedSimpArgs false
set_option linter.ambiguousOpen false
set_option linter.unusedSectionVars false
set_option linter.unnecessarySimpa false
set_option maxRecDepth 100000
set_option maxHeartbeats 40000000
noncomputable section
open Int renaming natCast_nonneg→Dmz
open List renaming set_set→Dnz
namespace Go.Proofs.YtnhofaohogianaaGreat
open Go Go.E Go.A
theorem j1k {a0:At_}{a1:Int}{r:Int}(hr:z0Q a0 a1=some r):Ok Tryz.prog 103 [At_.x .fz a0,dI a1] [] (dI r) []:=by
 refine OE Tryz.func103 fun S hS=>?_
 unfold z0Q at hr
 refine J g<|J (BX' 0)<|J g<|J LS'<|ggE hr fun g1 hr=>J (gn 9)<|ifE hr ?_ ?_<;>intro h1 hr
 exact e
 exact e
theorem z9Q {m:Md}{a0:(List At_)}{a1:Int}{r:Int}(hr:q9B a0 a1=some r):Ok Tryz.prog 60 [.d m (.sl 4 (a0.map At_.D)),dI a1] [] (dI r) []:=by
 refine OE Tryz.func60 fun S hS=>?_
 unfold q9B at hr
 refine ggE hr fun g1 hr=>J (gn 18)<|ifE hr ?_ ?_<;>intro h1 hr
 exact e
 refine J (gn 8)<|J (lenT 0)<|fun hl1=>bdE hr fun q1 hqq1 hr=>q0b hqq1 hl1 0 (fun k1 s1=>[(0,.d m (.sl 4 (a0.map At_.D))),(1,dI s1),(5,dI (k1:Int))]) (fun k1 s1=>[]) I (fun k1 xk1 sk1 ok1 hxk1 hr hltk1 hik1=>?_) fun k1 sk1 ek1 hltk1=>?_
 obtain⟨s1,rfl⟩:∃ y,y=sk1:=⟨_,rfl⟩
 refine bdE hr fun y1 hy1 hr=>J g<|J (CB' [] [] (j1k hy1))<|J (gn 7)<|ifE hr ?_ ?_<;>intro h2 hr
 exact e
 exact e
 subst ek1
 obtain⟨s1,rfl⟩:∃ y,y=sk1:=⟨_,rfl⟩
 exact e
theorem j5h {m:Md}{a0:Symbol}{a1:Int}{r:Int}(hr:z4v a0 a1=some r):Ok Tryz.prog 28 [Symbol.x m a0,dI a1] [] (dI r) []:=by
 refine OE Tryz.func28 fun S hS=>?_
 unfold z4v at hr
 refine J g<|J (BX' 0)<|J g<|J LS'<|ggE hr fun g1 hr=>J (gn 9)<|ifE hr ?_ ?_<;>intro h1 hr
 exact e
 refine bdE hr fun y1 hy1 hr=>J g<|J (CB' [] [] (z9Q (m:=m) hy1))<|J (gn 8)<|ifE hr ?_ ?_<;>intro h2 hr
 exact e
 exact e
theorem j3I {m:Md}{a0:(List Symbol)}{a1:Int}{r:Int}(hr:z2S a0 a1=some r):Ok Tryz.prog 13 [.d m (.sl 2 (a0.map Symbol.D)),dI a1] [] (dI r) []:=by
 refine OE Tryz.func13 fun S hS=>?_
 unfold z2S at hr
 refine ggE hr fun g1 hr=>J (gn 18)<|ifE hr ?_ ?_<;>intro h1 hr
 exact e
 refine J (gn 8)<|J (lenT 0)<|fun hl1=>bdE hr fun q1 hqq1 hr=>q0b hqq1 hl1 0 (fun k1 s1=>[(0,.d m (.sl 2 (a0.map Symbol.D))),(1,dI s1),(5,dI (k1:Int))]) (fun k1 s1=>[]) I (fun k1 xk1 sk1 ok1 hxk1 hr hltk1 hik1=>?_) fun k1 sk1 ek1 hltk1=>?_
 obtain⟨s1,rfl⟩:∃ y,y=sk1:=⟨_,rfl⟩
 refine bdE hr fun y1 hy1 hr=>J g<|J (CB' [] [] (j5h (m:=m) hy1))<|J (gn 7)<|ifE hr ?_ ?_<;>intro h2 hr
 exact e
 exact e
 subst ek1
 obtain⟨s1,rfl⟩:∃ y,y=sk1:=⟨_,rfl⟩
 exact e
theorem j3J {m:Md}{a0:(List BA_)}{a1:Int}{r:Int}(hr:z2T a0 a1=some r):Ok Tryz.prog 61 [.d m (.sl 1 (a0.map A.D.s)),dI a1] [] (dI r) []:=by
 refine OE Tryz.func61 fun S hS=>?_
 unfold z2T at hr
 refine ggE hr fun g1 hr=>J (gn 18)<|ifE hr ?_ ?_<;>intro h1 hr
 exact e
 refine J (gn 8)<|J (lenT 0)<|fun hl1=>bdE hr fun q1 hqq1 hr=>q0b hqq1 hl1 0 (fun k1 s1=>[(0,.d m (.sl 1 (a0.map A.D.s))),(1,dI s1),(5,dI (k1:Int))]) (fun k1 s1=>[]) I (fun k1 xk1 sk1 ok1 hxk1 hr hltk1 hik1=>?_) fun k1 sk1 ek1 hltk1=>?_
 obtain⟨s1,rfl⟩:∃ y,y=sk1:=⟨_,rfl⟩
 refine J g<|J LS'<|ggE hr fun g2 hr=>J (gn 8)<|ifE hr ?_ ?_<;>intro h2 hr
 exact e
 exact e
 subst ek1
 obtain⟨s1,rfl⟩:∃ y,y=sk1:=⟨_,rfl⟩
 exact e
theorem z9R {a0:Oc}{a1:Int}{r:Int}(hr:q9C a0 a1=some r):Ok Tryz.prog 146 [Oc.x .fz a0,dI a1] [] (dI r) []:=by
 refine OE Tryz.func146 fun S hS=>?_
 unfold q9C at hr
 refine J g<|J (BX' 0)<|J g<|J LS'<|ggE hr fun g1 hr=>J (gn 9)<|ifE hr ?_ ?_<;>intro h1 hr
 exact e
 exact e
theorem j6C {Rc0:Expr→Int→Option Int}(Ic0:∀ {m:Md} {a0:Expr} {a1:Int} {r:Int},Rc0 a0 a1=some r→Ok Tryz.prog 147 [Expr.x m a0,dI a1] [] (dI r) []){m:Md}{a0:(List Expr)}{a1:Int}{r:Int}(hr:z8z Rc0 a0 a1=some r):Ok Tryz.prog 192 [.d m (.sl 7 (a0.map Expr.D)),dI a1] [] (dI r) []:=by
 refine OE Tryz.func192 fun S hS=>?_
 unfold z8z at hr
 refine ggE hr fun g1 hr=>J (gn 18)<|ifE hr ?_ ?_<;>intro h1 hr
 exact e
 refine J (gn 8)<|J (lenT 0)<|fun hl1=>bdE hr fun q1 hqq1 hr=>q0b hqq1 hl1 0 (fun k1 s1=>[(0,.d m (.sl 7 (a0.map Expr.D))),(1,dI s1),(5,dI (k1:Int))]) (fun k1 s1=>[]) I (fun k1 xk1 sk1 ok1 hxk1 hr hltk1 hik1=>?_) fun k1 sk1 ek1 hltk1=>?_
 obtain⟨s1,rfl⟩:∃ y,y=sk1:=⟨_,rfl⟩
 refine bdE hr fun y1 hy1 hr=>J g<|J (CB' [] [] (Ic0 (m:=m) hy1))<|J (gn 7)<|ifE hr ?_ ?_<;>intro h2 hr
 exact e
 exact e
 subst ek1
 obtain⟨s1,rfl⟩:∃ y,y=sk1:=⟨_,rfl⟩
 exact e
theorem j6D {Rc0:Expr→Int→Option Int}(Ic0:∀ {m:Md} {a0:Expr} {a1:Int} {r:Int},Rc0 a0 a1=some r→Ok Tryz.prog 147 [Expr.x m a0,dI a1] [] (dI r) []){m:Md}{a0:Expr}{a1:Int}{r:Int}(hr:z5f Rc0 a0 a1=some r):Ok Tryz.prog 147 [Expr.x m a0,dI a1] [] (dI r) []:=by
 refine OE Tryz.func147 fun S hS=>?_
 unfold z5f at hr
 refine J g<|J (BX' 0)<|J g<|J LS'<|ggE hr fun g1 hr=>J (gn 9)<|ifE hr ?_ ?_<;>intro h1 hr
 exact e
 refine J g<|J LS'<|ggE hr fun g2 hr=>J (gn 9)<|ifE hr ?_ ?_<;>intro h2 hr
 exact e
 refine bdE hr fun y1 hy1 hr=>J g<|J (CB' [] [] (j6C Ic0 (m:=m) hy1))<|J (gn 8)<|ifE hr ?_ ?_<;>intro h3 hr
 exact e
 exact e
theorem j6E (n:Nat):∀ {m:Md} {a0:Expr} {a1:Int} {r:Int},z3M n a0 a1=some r→Ok Tryz.prog 147 [Expr.x m a0,dI a1] [] (dI r) []:=by
  induction n with
  | zero=>intro _ _ _ r hr;exact nomatch (show (none:Option Int)=some r from hr)
  | succ n ih=>intro _ _ _ r hr;exact j6D ih hr
theorem z8N {m:Md}{a0:Expr}{a1:Int}{r:Int}(hr:z5g a0 a1=some r):Ok Tryz.prog 147 [Expr.x m a0,dI a1] [] (dI r) []:=by
 obtain⟨n,hn⟩:=q5M hr
 exact j6E n hn
theorem j2h {m:Md}{a0:Eqn}{a1:Int}{r:Int}(hr:z1I a0 a1=some r):Ok Tryz.prog 104 [Eqn.x m a0,dI a1] [] (dI r) []:=by
 refine OE Tryz.func104 fun S hS=>?_
 unfold z1I at hr
 refine J g<|J (BX' 0)<|bdE hr fun y1 hy1 hr=>J g<|J (CB' [] [] (z9R hy1))<|J (gn 8)<|ifE hr ?_ ?_<;>intro h1 hr
 exact e
 refine bdE hr fun y2 hy2 hr=>J g<|J (CB' [] [] (z8N (m:=m) hy2))<|J (gn 8)<|ifE hr ?_ ?_<;>intro h2 hr
 exact e
 exact e
theorem j1l {m:Md}{a0:(List Eqn)}{a1:Int}{r:Int}(hr:z0R a0 a1=some r):Ok Tryz.prog 62 [.d m (.sl 9 (a0.map Eqn.D)),dI a1] [] (dI r) []:=by
 refine OE Tryz.func62 fun S hS=>?_
 unfold z0R at hr
 refine ggE hr fun g1 hr=>J (gn 18)<|ifE hr ?_ ?_<;>intro h1 hr
 exact e
 refine J (gn 8)<|J (lenT 0)<|fun hl1=>bdE hr fun q1 hqq1 hr=>q0b hqq1 hl1 0 (fun k1 s1=>[(0,.d m (.sl 9 (a0.map Eqn.D))),(1,dI s1),(5,dI (k1:Int))]) (fun k1 s1=>[]) I (fun k1 xk1 sk1 ok1 hxk1 hr hltk1 hik1=>?_) fun k1 sk1 ek1 hltk1=>?_
 obtain⟨s1,rfl⟩:∃ y,y=sk1:=⟨_,rfl⟩
 refine bdE hr fun y1 hy1 hr=>J g<|J (CB' [] [] (j2h (m:=m) hy1))<|J (gn 7)<|ifE hr ?_ ?_<;>intro h2 hr
 exact e
 exact e
 subst ek1
 obtain⟨s1,rfl⟩:∃ y,y=sk1:=⟨_,rfl⟩
 exact e
theorem z8b {m:Md}{a0:Cn}{a1:Int}{r:Int}(hr:q8o a0 a1=some r):Ok Tryz.prog 105 [Cn.x m a0,dI a1] [] (dI r) []:=by
 refine OE Tryz.func105 fun S hS=>?_
 unfold q8o at hr
 refine J g<|J (BX' 0)<|J g<|J LS'<|ggE hr fun g1 hr=>J (gn 9)<|ifE hr ?_ ?_<;>intro h1 hr
 exact e
 refine J g<|J LS'<|ggE hr fun g2 hr=>J (gn 9)<|ifE hr ?_ ?_<;>intro h2 hr
 exact e
 refine bdE hr fun y1 hy1 hr=>J g<|J (CB' [] [] (z8N (m:=m) hy1))<|J (gn 8)<|ifE hr ?_ ?_<;>intro h3 hr
 exact e
 refine bdE hr fun y2 hy2 hr=>J g<|J (CB' [] [] (z8N (m:=m) hy2))<|J (gn 8)<|ifE hr ?_ ?_<;>intro h4 hr
 exact e
 exact e
theorem z7d {m:Md}{a0:(List Cn)}{a1:Int}{r:Int}(hr:q7U a0 a1=some r):Ok Tryz.prog 63 [.d m (.sl 16 (a0.map Cn.D)),dI a1] [] (dI r) []:=by
 refine OE Tryz.func63 fun S hS=>?_
 unfold q7U at hr
 refine ggE hr fun g1 hr=>J (gn 18)<|ifE hr ?_ ?_<;>intro h1 hr
 exact e
 refine J (gn 8)<|J (lenT 0)<|fun hl1=>bdE hr fun q1 hqq1 hr=>q0b hqq1 hl1 0 (fun k1 s1=>[(0,.d m (.sl 16 (a0.map Cn.D))),(1,dI s1),(5,dI (k1:Int))]) (fun k1 s1=>[]) I (fun k1 xk1 sk1 ok1 hxk1 hr hltk1 hik1=>?_) fun k1 sk1 ek1 hltk1=>?_
 obtain⟨s1,rfl⟩:∃ y,y=sk1:=⟨_,rfl⟩
 refine bdE hr fun y1 hy1 hr=>J g<|J (CB' [] [] (z8b (m:=m) hy1))<|J (gn 7)<|ifE hr ?_ ?_<;>intro h2 hr
 exact e
 exact e
 subst ek1
 obtain⟨s1,rfl⟩:∃ y,y=sk1:=⟨_,rfl⟩
 exact e
theorem j8W {m:Md}{a0:Rule}{a1:Int}{r:Int}(hr:z7D a0 a1=some r):Ok Tryz.prog 29 [Rule.x m a0,dI a1] [] (dI r) []:=by
 refine OE Tryz.func29 fun S hS=>?_
 unfold z7D at hr
 refine J g<|J (BX' 0)<|J g<|J LS'<|ggE hr fun g1 hr=>J (gn 9)<|ifE hr ?_ ?_<;>intro h1 hr
 exact e
 refine J g<|J LS'<|ggE hr fun g2 hr=>J (gn 9)<|ifE hr ?_ ?_<;>intro h2 hr
 exact e
 refine bdE hr fun y1 hy1 hr=>J g<|J (CB' [] [] (j3J (m:=m) hy1))<|J (gn 8)<|ifE hr ?_ ?_<;>intro h3 hr
 exact e
 refine bdE hr fun y2 hy2 hr=>J g<|J (CB' [] [] (j1l (m:=m) hy2))<|J (gn 8)<|ifE hr ?_ ?_<;>intro h4 hr
 exact e
 refine bdE hr fun y3 hy3 hr=>J g<|J (CB' [] [] (z7d (m:=m) hy3))<|J (gn 8)<|ifE hr ?_ ?_<;>intro h5 hr
 exact e
 exact e
theorem j6F {m:Md}{a0:(List Rule)}{a1:Int}{r:Int}(hr:z6d a0 a1=some r):Ok Tryz.prog 14 [.d m (.sl 6 (a0.map Rule.D)),dI a1] [] (dI r) []:=by
 refine OE Tryz.func14 fun S hS=>?_
 unfold z6d at hr
 refine ggE hr fun g1 hr=>J (gn 18)<|ifE hr ?_ ?_<;>intro h1 hr
 exact e
 refine J (gn 8)<|J (lenT 0)<|fun hl1=>bdE hr fun q1 hqq1 hr=>q0b hqq1 hl1 0 (fun k1 s1=>[(0,.d m (.sl 6 (a0.map Rule.D))),(1,dI s1),(5,dI (k1:Int))]) (fun k1 s1=>[]) I (fun k1 xk1 sk1 ok1 hxk1 hr hltk1 hik1=>?_) fun k1 sk1 ek1 hltk1=>?_
 obtain⟨s1,rfl⟩:∃ y,y=sk1:=⟨_,rfl⟩
 refine bdE hr fun y1 hy1 hr=>J g<|J (CB' [] [] (j8W (m:=m) hy1))<|J (gn 7)<|ifE hr ?_ ?_<;>intro h2 hr
 exact e
 exact e
 subst ek1
 obtain⟨s1,rfl⟩:∃ y,y=sk1:=⟨_,rfl⟩
 exact e
theorem j3K {m:Md}{a0:Gm_}{a1:Int}{r:Int}(hr:z2U a0 a1=some r):Ok Tryz.prog 4 [Gm_.x m a0,dI a1] [] (dI r) []:=by
 refine OE Tryz.func4 fun S hS=>?_
 unfold z2U at hr
 refine J g<|J (BX' 0)<|bdE hr fun y1 hy1 hr=>J g<|J (CB' [] [] (j3I (m:=m) hy1))<|J (gn 8)<|ifE hr ?_ ?_<;>intro h1 hr
 exact e
 refine bdE hr fun y2 hy2 hr=>J g<|J (CB' [] [] (j6F (m:=m) hy2))<|J (gn 8)<|ifE hr ?_ ?_<;>intro h2 hr
 exact e
 exact e
theorem j1m {a0:At_}{r:At_}(hr:z0S a0=some r):Ok Tryz.prog 120 [At_.x .fz a0] [] (At_.x .fz r) []:=by
 refine OE Tryz.func120 fun S hS=>?_
 unfold z0S at hr
 refine J g<|J (BX' 0)<|J (NV' 1)<|J g<|J (NV' 2)<|e
theorem z9S {m:Md}{a0:(List At_)}{r:(List At_)}(hr:q9D a0=some r):Ok Tryz.prog 78 [.d m (.sl 4 (a0.map At_.D))] [] (.ref 0 none) [.row .fz 4 (r.map At_.D)]:=by
 refine OE Tryz.func78 fun S hS=>?_
 unfold q9D at hr
 refine ggE hr fun g1 hr=>J g<|J (MKR' 0 (f:=At_.D) (⟨(⟨#[]⟩:BA_),(0:Int),(0:Int),false⟩:At_) g1.1 g1.2.1 g1.2.2)<|J (gn 8)<|J (lenT 0)<|fun hl1=>bdE hr fun s1 hqq1 hr=>q0c hqq1 hl1 1 (fun k1 s1=>[(0,.d m (.sl 4 (a0.map At_.D))),(3,.ref 0 none),(4,dI (k1:Int))]) (fun k1 s1=>[(0,.row .fz 4 (s1.map At_.D))]) I (fun k1 xk1 sk1 ok1 hxk1 hr hltk1=>?_) fun k1 hltk1=>?_
 obtain⟨s1,rfl⟩:∃ y,y=sk1:=⟨_,rfl⟩
 refine bdE hr fun y1 hy1 hr=>J g<|J (CB' [] [] (j1m hy1))<|bdE hr fun x1 hx1 hr=>J g<|J (SE' y1 hx1)<|e
 exact e
theorem j5i {m:Md}{a0:Symbol}{r:Symbol}(hr:z0u a0=some r):Ok Tryz.prog 38 [Symbol.x m a0] [] (.ag [dS r.Name,.ref 0 none]) [.row .fz 4 (r.as_.map At_.D)]:=by
 refine OE Tryz.func38 fun S hS=>?_
 unfold z0u at hr
 refine J g<|J (BX' 0)<|J (NV' 1)<|J g<|J (NV' 2)<|bdE hr fun y1 hy1 hr=>J g<|J (CB' [(0,3)] [] (z9S (m:=m) hy1))<|e
theorem j3L {m:Md}{a0:(List Symbol)}{r:(List Symbol)}(hr:z2V a0=some r):Ok Tryz.prog 17 [.d m (.sl 2 (a0.map Symbol.D))] [] (.ref 0 none) [.deep .fz 2 (r.map Symbol.W) []]:=by
 refine OE Tryz.func17 fun S hS=>?_
 unfold z2V at hr
 refine ggE hr fun g1 hr=>J g<|MKW 0 (f:=Symbol.W) (⟨(⟨#[]⟩:BA_),[]⟩:Symbol) g1.1 g1.2.1 g1.2.2 ?_
 refine J (gn 8)<|J (lenT 0)<|fun hl1=>bdE hr fun s1 hqq1 hr=>q0c hqq1 hl1 1 (fun k1 s1=>[(0,.d m (.sl 2 (a0.map Symbol.D))),(3,.ref 0 none),(4,dI (k1:Int))]) (fun k1 s1=>[(0,.deep .fz 2 (s1.map Symbol.W) [])]) I (fun k1 xk1 sk1 ok1 hxk1 hr hltk1=>?_) fun k1 hltk1=>?_
 obtain⟨s1,rfl⟩:∃ y,y=sk1:=⟨_,rfl⟩
 refine bdE hr fun y1 hy1 hr=>J g<|J (CB' [(0,1)] [] (j5i (m:=m) hy1))<|bdE hr fun x1 hx1 hr=>J (IEd' (Dmz _) (q3I hx1))<|J (SD' [.d .fz (.s y1.Name),.w 4 (y1.as_.map At_.D)] [1] (q3I hx1))<|J (gn 6) ?_
 cases hr
 exact GH.trans (q0j 0 (he:=eset (f:=Symbol.W) (x':=y1) (by first|rfl|(simp only[Dnz];rfl)))) (q0d hS 1)
 exact e
theorem j3M {m:Md}{a0:(List BA_)}{r:(List BA_)}(hr:z2W a0=some r):Ok Tryz.prog 79 [.d m (.sl 1 (a0.map A.D.s))] [] (.ref 0 none) [.row .fz 1 (r.map A.D.s)]:=by
 refine OE Tryz.func79 fun S hS=>?_
 unfold z2W at hr
 refine ggE hr fun g1 hr=>J g<|J (MKR' 0 (f:=A.D.s) (⟨#[]⟩:BA_) g1.1 g1.2.1 g1.2.2)<|J (gn 8)<|J (lenT 0)<|fun hl1=>bdE hr fun s1 hqq1 hr=>q0c hqq1 hl1 1 (fun k1 s1=>[(0,.d m (.sl 1 (a0.map A.D.s))),(3,.ref 0 none),(4,dI (k1:Int))]) (fun k1 s1=>[(0,.row .fz 1 (s1.map A.D.s))]) I (fun k1 xk1 sk1 ok1 hxk1 hr hltk1=>?_) fun k1 hltk1=>?_
 obtain⟨s1,rfl⟩:∃ y,y=sk1:=⟨_,rfl⟩
 refine bdE hr fun x1 hx1 hr=>J g<|J (SE' xk1 hx1)<|e
 exact e
theorem z9T {a0:Oc}{r:Oc}(hr:q9E a0=some r):Ok Tryz.prog 161 [Oc.x .fz a0] [] (Oc.x .fz r) []:=by
 refine OE Tryz.func161 fun S hS=>?_
 unfold q9E at hr
 refine J g<|J (BX' 0)<|J (NV' 1)<|J g<|J (NV' 2)<|e
theorem j6G {Rc1:Expr→Option Expr}(Ic1:∀ {m:Md} {a0:Expr} {r:Expr},Rc1 a0=some r→Ok Tryz.prog 162 [Expr.x m a0] [] (.ag [dI r.Kind,dI r.N,dI r.Pos,dI r.t__,dS r.Symbol,dS r.Name,.ref 0 none]) [.deep .fz 7 (r.Args.map Expr.W) []]){m:Md}{a0:(List Expr)}{r:(List Expr)}(hr:z6e Rc1 a0=some r):Ok Tryz.prog 203 [.d m (.sl 7 (a0.map Expr.D))] [] (.ref 0 none) [.deep .fz 7 (r.map Expr.W) []]:=by
 refine OE Tryz.func203 fun S hS=>?_
 unfold z6e at hr
 refine ggE hr fun g1 hr=>J g<|MKW 0 (f:=Expr.W) (⟨(0:Int),(0:Int),(0:Int),(0:Int),(⟨#[]⟩:BA_),(⟨#[]⟩:BA_),[]⟩:Expr) g1.1 g1.2.1 g1.2.2 ?_
 refine J (gn 8)<|J (lenT 0)<|fun hl1=>bdE hr fun s1 hqq1 hr=>q0c hqq1 hl1 1 (fun k1 s1=>[(0,.d m (.sl 7 (a0.map Expr.D))),(3,.ref 0 none),(4,dI (k1:Int))]) (fun k1 s1=>[(0,.deep .fz 7 (s1.map Expr.W) [])]) I (fun k1 xk1 sk1 ok1 hxk1 hr hltk1=>?_) fun k1 hltk1=>?_
 obtain⟨s1,rfl⟩:∃ y,y=sk1:=⟨_,rfl⟩
 refine bdE hr fun y1 hy1 hr=>J g<|J (CB' [(0,1)] [] (Ic1 (m:=m) hy1))<|bdE hr fun x1 hx1 hr=>J (IEd' (Dmz _) (q3I hx1))<|J (SD' [.d .fz (.i .i64 y1.Kind),.d .fz (.i .i64 y1.N),.d .fz (.i .i64 y1.Pos),.d .fz (.i .i64 y1.t__),.d .fz (.s y1.Symbol),.d .fz (.s y1.Name),.w 7 (y1.Args.map Expr.D)] [1] (q3I hx1))<|J (gn 6) ?_
 cases hr
 exact GH.trans (q0j 0 (he:=eset (f:=Expr.W) (x':=y1) (by first|rfl|(simp only[Dnz];rfl)))) (q0d hS 1)
 exact e
theorem j6H {Rc1:Expr→Option Expr}(Ic1:∀ {m:Md} {a0:Expr} {r:Expr},Rc1 a0=some r→Ok Tryz.prog 162 [Expr.x m a0] [] (.ag [dI r.Kind,dI r.N,dI r.Pos,dI r.t__,dS r.Symbol,dS r.Name,.ref 0 none]) [.deep .fz 7 (r.Args.map Expr.W) []]){m:Md}{a0:Expr}{r:Expr}(hr:z5i Rc1 a0=some r):Ok Tryz.prog 162 [Expr.x m a0] [] (.ag [dI r.Kind,dI r.N,dI r.Pos,dI r.t__,dS r.Symbol,dS r.Name,.ref 0 none]) [.deep .fz 7 (r.Args.map Expr.W) []]:=by
 refine OE Tryz.func162 fun S hS=>?_
 unfold z5i at hr
 refine J g<|J (BX' 0)<|J (NV' 1)<|J g<|J (NV' 2)<|bdE hr fun y1 hy1 hr=>J g<|J (CB' [(0,3)] [] (j6G Ic1 (m:=m) hy1))<|e
theorem j6I (n:Nat):∀ {m:Md} {a0:Expr} {r:Expr},z2i n a0=some r→Ok Tryz.prog 162 [Expr.x m a0] [] (.ag [dI r.Kind,dI r.N,dI r.Pos,dI r.t__,dS r.Symbol,dS r.Name,.ref 0 none]) [.deep .fz 7 (r.Args.map Expr.W) []]:=by
  induction n with
  | zero=>intro _ _ r hr;exact nomatch (show (none:Option Expr)=some r from hr)
  | succ n ih=>intro _ _ r hr;exact j6H ih hr
theorem z8O {m:Md}{a0:Expr}{r:Expr}(hr:z5j a0=some r):Ok Tryz.prog 162 [Expr.x m a0] [] (.ag [dI r.Kind,dI r.N,dI r.Pos,dI r.t__,dS r.Symbol,dS r.Name,.ref 0 none]) [.deep .fz 7 (r.Args.map Expr.W) []]:=by
 obtain⟨n,hn⟩:=q5M hr
 exact j6I n hn
theorem j2i {m:Md}{a0:Eqn}{r:Eqn}(hr:q8p a0=some r):Ok Tryz.prog 121 [Eqn.x m a0] [] (.ag [dI r.At.Pos,dS r.At.Name,dI r.Expr.Kind,dI r.Expr.N,dI r.Expr.Pos,dI r.Expr.t__,dS r.Expr.Symbol,dS r.Expr.Name,.ref 0 none]) [.deep .fz 7 (r.Expr.Args.map Expr.W) []]:=by
 refine OE Tryz.func121 fun S hS=>?_
 unfold q8p at hr
 refine J g<|J (BX' 0)<|J (NV' 1)<|J g<|J (NV' 2)<|bdE hr fun y1 hy1 hr=>J g<|J (CB' [] [] (z9T hy1))<|bdE hr fun y2 hy2 hr=>J g<|J (CB' [(0,3)] [] (z8O (m:=m) hy2))<|e
theorem j1n {m:Md}{a0:(List Eqn)}{r:(List Eqn)}(hr:z0T a0=some r):Ok Tryz.prog 80 [.d m (.sl 9 (a0.map Eqn.D))] [] (.ref 0 none) [.deep .fz 9 (r.map Eqn.W) []]:=by
 refine OE Tryz.func80 fun S hS=>?_
 unfold z0T at hr
 refine ggE hr fun g1 hr=>J g<|MKW 0 (f:=Eqn.W) (⟨(⟨(0:Int),(⟨#[]⟩:BA_)⟩:Oc),(⟨(0:Int),(0:Int),(0:Int),(0:Int),(⟨#[]⟩:BA_),(⟨#[]⟩:BA_),[]⟩:Expr)⟩:Eqn) g1.1 g1.2.1 g1.2.2 ?_
 refine J (gn 8)<|J (lenT 0)<|fun hl1=>bdE hr fun s1 hqq1 hr=>q0c hqq1 hl1 1 (fun k1 s1=>[(0,.d m (.sl 9 (a0.map Eqn.D))),(3,.ref 0 none),(4,dI (k1:Int))]) (fun k1 s1=>[(0,.deep .fz 9 (s1.map Eqn.W) [])]) I (fun k1 xk1 sk1 ok1 hxk1 hr hltk1=>?_) fun k1 hltk1=>?_
 obtain⟨s1,rfl⟩:∃ y,y=sk1:=⟨_,rfl⟩
 refine bdE hr fun y1 hy1 hr=>J g<|J (CB' [(0,1)] [] (j2i (m:=m) hy1))<|bdE hr fun x1 hx1 hr=>J (IEd' (Dmz _) (q3I hx1))<|J (SD' [.d .fz (.i .i64 y1.At.Pos),.d .fz (.s y1.At.Name),.d .fz (.i .i64 y1.Expr.Kind),.d .fz (.i .i64 y1.Expr.N),.d .fz (.i .i64 y1.Expr.Pos),.d .fz (.i .i64 y1.Expr.t__),.d .fz (.s y1.Expr.Symbol),.d .fz (.s y1.Expr.Name),.w 7 (y1.Expr.Args.map Expr.D)] [1] (q3I hx1))<|J (gn 6) ?_
 cases hr
 exact GH.trans (q0j 0 (he:=eset (f:=Eqn.W) (x':=y1) (by first|rfl|(simp only[Dnz];rfl)))) (q0d hS 1)
 exact e
theorem z8c {m:Md}{a0:Cn}{r:Cn}(hr:q6n a0=some r):Ok Tryz.prog 122 [Cn.x m a0] [] (.ag [dS r.Symbol,dS r.Name,dI r.tt_.Kind,dI r.tt_.N,dI r.tt_.Pos,dI r.tt_.t__,dS r.tt_.Symbol,dS r.tt_.Name,.ref 0 none,dI r.Value.Kind,dI r.Value.N,dI r.Value.Pos,dI r.Value.t__,dS r.Value.Symbol,dS r.Value.Name,.ref 1 none]) [.deep .fz 7 (r.tt_.Args.map Expr.W) [],.deep .fz 7 (r.Value.Args.map Expr.W) []]:=by
 refine OE Tryz.func122 fun S hS=>?_
 unfold q6n at hr
 refine J g<|J (BX' 0)<|J (NV' 1)<|J g<|J (NV' 2)<|bdE hr fun y1 hy1 hr=>J g<|J (CB' [(0,3)] [] (z8O (m:=m) hy1))<|bdE hr fun y2 hy2 hr=>J g<|J (CB' [(0,4)] [] (z8O (m:=m) hy2))<|e
theorem z7e {m:Md}{a0:(List Cn)}{r:(List Cn)}(hr:q7V a0=some r):Ok Tryz.prog 81 [.d m (.sl 16 (a0.map Cn.D))] [] (.ref 0 none) [.deep .fz 16 (r.map Cn.W) []]:=by
 refine OE Tryz.func81 fun S hS=>?_
 unfold q7V at hr
 refine ggE hr fun g1 hr=>J g<|MKW 0 (f:=Cn.W) (⟨(⟨#[]⟩:BA_),(⟨#[]⟩:BA_),(⟨(0:Int),(0:Int),(0:Int),(0:Int),(⟨#[]⟩:BA_),(⟨#[]⟩:BA_),[]⟩:Expr),(⟨(0:Int),(0:Int),(0:Int),(0:Int),(⟨#[]⟩:BA_),(⟨#[]⟩:BA_),[]⟩:Expr)⟩:Cn) g1.1 g1.2.1 g1.2.2 ?_
 refine J (gn 8)<|J (lenT 0)<|fun hl1=>bdE hr fun s1 hqq1 hr=>q0c hqq1 hl1 1 (fun k1 s1=>[(0,.d m (.sl 16 (a0.map Cn.D))),(3,.ref 0 none),(4,dI (k1:Int))]) (fun k1 s1=>[(0,.deep .fz 16 (s1.map Cn.W) [])]) I (fun k1 xk1 sk1 ok1 hxk1 hr hltk1=>?_) fun k1 hltk1=>?_
 obtain⟨s1,rfl⟩:∃ y,y=sk1:=⟨_,rfl⟩
 refine bdE hr fun y1 hy1 hr=>J g<|J (CB' [(0,1),(1,2)] [] (z8c (m:=m) hy1))<|bdE hr fun x1 hx1 hr=>J (IEd' (Dmz _) (q3I hx1))<|J (SD' [.d .fz (.s y1.Symbol),.d .fz (.s y1.Name),.d .fz (.i .i64 y1.tt_.Kind),.d .fz (.i .i64 y1.tt_.N),.d .fz (.i .i64 y1.tt_.Pos),.d .fz (.i .i64 y1.tt_.t__),.d .fz (.s y1.tt_.Symbol),.d .fz (.s y1.tt_.Name),.w 7 (y1.tt_.Args.map Expr.D),.d .fz (.i .i64 y1.Value.Kind),.d .fz (.i .i64 y1.Value.N),.d .fz (.i .i64 y1.Value.Pos),.d .fz (.i .i64 y1.Value.t__),.d .fz (.s y1.Value.Symbol),.d .fz (.s y1.Value.Name),.w 7 (y1.Value.Args.map Expr.D)] [1,2] (q3I hx1))<|J (gn 6) ?_
 cases hr
 exact GH.trans (q0j 0 (he:=eset (f:=Cn.W) (x':=y1) (by first|rfl|(simp only[Dnz];rfl)))) (q0d hS 1)
 exact e
theorem j8X {m:Md}{a0:Rule}{r:Rule}(hr:z3N a0=some r):Ok Tryz.prog 39 [Rule.x m a0] [] (.ag [dS r.Name,dS r.Left,.ref 0 none,dB r.ll_,.ref 1 none,.ref 2 none]) [.row .fz 1 (r.rt_.map A.D.s),.deep .fz 9 (r.es_.map Eqn.W) [],.deep .fz 16 (r.cs_.map Cn.W) []]:=by
 refine OE Tryz.func39 fun S hS=>?_
 unfold z3N at hr
 refine J g<|J (BX' 0)<|J (NV' 1)<|J g<|J (NV' 2)<|bdE hr fun y1 hy1 hr=>J g<|J (CB' [(0,3)] [] (j3M (m:=m) hy1))<|bdE hr fun y2 hy2 hr=>J g<|J (CB' [(0,4)] [] (j1n (m:=m) hy2))<|bdE hr fun y3 hy3 hr=>J g<|J (CB' [(0,5)] [] (z7e (m:=m) hy3))<|e
theorem j6J {m:Md}{a0:(List Rule)}{r:(List Rule)}(hr:z6f a0=some r):Ok Tryz.prog 18 [.d m (.sl 6 (a0.map Rule.D))] [] (.ref 0 none) [.deep .fz 6 (r.map Rule.W) []]:=by
 refine OE Tryz.func18 fun S hS=>?_
 unfold z6f at hr
 refine ggE hr fun g1 hr=>J g<|MKW 0 (f:=Rule.W) (⟨(⟨#[]⟩:BA_),(⟨#[]⟩:BA_),[],false,[],[]⟩:Rule) g1.1 g1.2.1 g1.2.2 ?_
 refine J (gn 8)<|J (lenT 0)<|fun hl1=>bdE hr fun s1 hqq1 hr=>q0c hqq1 hl1 1 (fun k1 s1=>[(0,.d m (.sl 6 (a0.map Rule.D))),(3,.ref 0 none),(4,dI (k1:Int))]) (fun k1 s1=>[(0,.deep .fz 6 (s1.map Rule.W) [])]) I (fun k1 xk1 sk1 ok1 hxk1 hr hltk1=>?_) fun k1 hltk1=>?_
 obtain⟨s1,rfl⟩:∃ y,y=sk1:=⟨_,rfl⟩
 refine bdE hr fun y1 hy1 hr=>J g<|J (CB' [(0,1),(1,2),(2,3)] [] (j8X (m:=m) hy1))<|bdE hr fun x1 hx1 hr=>J (IEd' (Dmz _) (q3I hx1))<|J (SD' [.d .fz (.s y1.Name),.d .fz (.s y1.Left),.w 1 (y1.rt_.map A.D.s),.d .fz (.b y1.ll_),.w 9 (y1.es_.map Eqn.D),.w 16 (y1.cs_.map Cn.D)] [1,2,3] (q3I hx1))<|J (gn 6) ?_
 cases hr
 exact GH.trans (q0j 0 (he:=eset (f:=Rule.W) (x':=y1) (by first|rfl|(simp only[Dnz];rfl)))) (q0d hS 1)
 exact e
theorem z1P {m:Md}{a0:Gm_}{r:Gm_}(hr:q7m a0=some r):Ok Tryz.prog 6 [Gm_.x m a0] [] (.ag [.ref 0 none,.ref 1 none]) [.deep .fz 2 (r.ss_.map Symbol.W) [],.deep .fz 6 (r.rs_.map Rule.W) []]:=by
 refine OE Tryz.func6 fun S hS=>?_
 unfold q7m at hr
 refine J g<|J (BX' 0)<|J (NV' 1)<|J g<|J (NV' 2)<|bdE hr fun y1 hy1 hr=>J g<|J (CB' [(0,3)] [] (j3L (m:=m) hy1))<|bdE hr fun y2 hy2 hr=>J g<|J (CB' [(0,4)] [] (j6J (m:=m) hy2))<|e
theorem j8Y {m:Md}{a0:(List Int)}{a1:(List Int)}{r:Bool}(hr:z7X a0 a1=some r):Ok Tryz.prog 97 [.d m (.sl 1 (a0.map (A.D.i .i64))),.d m (.sl 1 (a1.map (A.D.i .i64)))] [] (dB r) []:=by
 refine OE Tryz.func97 fun S hS=>?_
 unfold z7X at hr
 refine J (gn 13)<|ifE hr ?_ ?_<;>intro h1 hr
 refine J (gn 8)<|J (lenT 0)<|fun hl1=>bdE hr fun q1 hqq1 hr=>q0b hqq1 hl1 0 (fun k1 _=>[(0,.d m (.sl 1 (a0.map (A.D.i .i64)))),(1,.d m (.sl 1 (a1.map (A.D.i .i64)))),(5,dI (k1:Int))]) (fun k1 _=>[]) I (fun k1 xk1 sk1 ok1 hxk1 hr hltk1 hik1=>?_) fun k1 sk1 ek1 hltk1=>?_
 refine bdE hr fun x1 hx1 hr=>J (gn 24)<|ifE hr ?_ ?_<;>intro h2 hr
 exact e
 exact e
 subst ek1
 exact e
 exact e
theorem j2j {m:Md}{a0:Rl_}{a1:Rl_}{r:Bool}(hr:q8x a0 a1=some r):Ok Tryz.prog 50 [Rl_.x m a0,Rl_.x m a1] [] (dB r) []:=by
 refine OE Tryz.func50 fun S hS=>?_
 unfold q8x at hr
 refine J g<|J (BX' 0)<|J (BX' 1)<|J (gn 11)<|ifE hr ?_ ?_<;>intro h1 hr
 refine bdE hr fun y1 hy1 hr=>J g<|J (CB' [] [] (j8Y (m:=m) hy1))<|J (gn 2)<|ifE hr ?_ ?_<;>intro h2 hr
 exact e
 exact e
 exact e
theorem j1o {m:Md}{a0:(List Rl_)}{a1:(List Rl_)}{r:Bool}(hr:q9a a0 a1=some r):Ok Tryz.prog 21 [.d m (.sl 2 (a0.map Rl_.D)),.d m (.sl 2 (a1.map Rl_.D))] [] (dB r) []:=by
 refine OE Tryz.func21 fun S hS=>?_
 unfold q9a at hr
 refine J (gn 13)<|ifE hr ?_ ?_<;>intro h1 hr
 refine J (gn 8)<|J (lenT 0)<|fun hl1=>bdE hr fun q1 hqq1 hr=>q0b hqq1 hl1 0 (fun k1 _=>[(0,.d m (.sl 2 (a0.map Rl_.D))),(1,.d m (.sl 2 (a1.map Rl_.D))),(5,dI (k1:Int))]) (fun k1 _=>[]) I (fun k1 xk1 sk1 ok1 hxk1 hr hltk1 hik1=>?_) fun k1 sk1 ek1 hltk1=>?_
 refine bdE hr fun x1 hx1 hr=>bdE hr fun y1 hy1 hr=>J g<|J (CB' [] [] (j2j (m:=m) hy1))<|J (gn 2)<|ifE hr ?_ ?_<;>intro h2 hr
 exact e
 exact e
 subst ek1
 exact e
 exact e
theorem z1C {m:Md}{a0:(List (List Rl_))}{a1:(List (List Rl_))}{r:Bool}(hr:q7d a0 a1=some r):Ok Tryz.prog 8 [.d m (.sl 1 (a0.map (fun (l:List Rl_)=>A.D.sl 2 (l.map Rl_.D)))),.d m (.sl 1 (a1.map (fun (l:List Rl_)=>A.D.sl 2 (l.map Rl_.D))))] [] (dB r) []:=by
 refine OE Tryz.func8 fun S hS=>?_
 unfold q7d at hr
 refine J (gn 13)<|ifE hr ?_ ?_<;>intro h1 hr
 refine J (gn 8)<|J (lenT 0)<|fun hl1=>bdE hr fun q1 hqq1 hr=>q0b hqq1 hl1 0 (fun k1 _=>[(0,.d m (.sl 1 (a0.map (fun (l:List Rl_)=>A.D.sl 2 (l.map Rl_.D))))),(1,.d m (.sl 1 (a1.map (fun (l:List Rl_)=>A.D.sl 2 (l.map Rl_.D))))),(5,dI (k1:Int))]) (fun k1 _=>[]) I (fun k1 xk1 sk1 ok1 hxk1 hr hltk1 hik1=>?_) fun k1 sk1 ek1 hltk1=>?_
 refine bdE hr fun x1 hx1 hr=>bdE hr fun y1 hy1 hr=>J g<|J (CB' [] [] (j1o (m:=m) hy1))<|J (gn 2)<|ifE hr ?_ ?_<;>intro h2 hr
 exact e
 exact e
 subst ek1
 exact e
 exact e
theorem j1p {a0:At_}{a1:At_}{r:Bool}(hr:q7M a0 a1=some r):Ok Tryz.prog 143 [At_.x .fz a0,At_.x .fz a1] [] (dB r) []:=by
 refine OE Tryz.func143 fun S hS=>?_
 unfold q7M at hr
 refine J g<|J (BX' 0)<|J (BX' 1)<|J (gn 11)<|ifE hr ?_ ?_<;>intro h1 hr
 refine J (gn 11)<|ifE hr ?_ ?_<;>intro h2 hr
 refine J (gn 11)<|ifE hr ?_ ?_<;>intro h3 hr
 refine J g ?_
 refine J (BQn' rfl rfl)<|J (gn 1)<|ifE hr ?_ ?_<;>intro h4 hr
 exact e
 exact e
 exact e
 exact e
 exact e
theorem z9U {m:Md}{a0:(List At_)}{a1:(List At_)}{r:Bool}(hr:z0i a0 a1=some r):Ok Tryz.prog 98 [.d m (.sl 4 (a0.map At_.D)),.d m (.sl 4 (a1.map At_.D))] [] (dB r) []:=by
 refine OE Tryz.func98 fun S hS=>?_
 unfold z0i at hr
 refine J (gn 13)<|ifE hr ?_ ?_<;>intro h1 hr
 refine J (gn 8)<|J (lenT 0)<|fun hl1=>bdE hr fun q1 hqq1 hr=>q0b hqq1 hl1 0 (fun k1 _=>[(0,.d m (.sl 4 (a0.map At_.D))),(1,.d m (.sl 4 (a1.map At_.D))),(5,dI (k1:Int))]) (fun k1 _=>[]) I (fun k1 xk1 sk1 ok1 hxk1 hr hltk1 hik1=>?_) fun k1 sk1 ek1 hltk1=>?_
 refine bdE hr fun x1 hx1 hr=>bdE hr fun y1 hy1 hr=>J g<|J (CB' [] [] (j1p hy1))<|J (gn 2)<|ifE hr ?_ ?_<;>intro h2 hr
 exact e
 exact e
 subst ek1
 exact e
 exact e
theorem j5j {m:Md}{a0:Symbol}{a1:Symbol}{r:Bool}(hr:z0F a0 a1=some r):Ok Tryz.prog 51 [Symbol.x m a0,Symbol.x m a1] [] (dB r) []:=by
 refine OE Tryz.func51 fun S hS=>?_
 unfold z0F at hr
 refine J g<|J (BX' 0)<|J (BX' 1)<|J (gn 11)<|ifE hr ?_ ?_<;>intro h1 hr
 refine bdE hr fun y1 hy1 hr=>J g<|J (CB' [] [] (z9U (m:=m) hy1))<|J (gn 2)<|ifE hr ?_ ?_<;>intro h2 hr
 exact e
 exact e
 exact e
theorem j3N {m:Md}{a0:(List Symbol)}{a1:(List Symbol)}{r:Bool}(hr:z3c a0 a1=some r):Ok Tryz.prog 22 [.d m (.sl 2 (a0.map Symbol.D)),.d m (.sl 2 (a1.map Symbol.D))] [] (dB r) []:=by
 refine OE Tryz.func22 fun S hS=>?_
 unfold z3c at hr
 refine J (gn 13)<|ifE hr ?_ ?_<;>intro h1 hr
 refine J (gn 8)<|J (lenT 0)<|fun hl1=>bdE hr fun q1 hqq1 hr=>q0b hqq1 hl1 0 (fun k1 _=>[(0,.d m (.sl 2 (a0.map Symbol.D))),(1,.d m (.sl 2 (a1.map Symbol.D))),(5,dI (k1:Int))]) (fun k1 _=>[]) I (fun k1 xk1 sk1 ok1 hxk1 hr hltk1 hik1=>?_) fun k1 sk1 ek1 hltk1=>?_
 refine bdE hr fun x1 hx1 hr=>bdE hr fun y1 hy1 hr=>J g<|J (CB' [] [] (j5j (m:=m) hy1))<|J (gn 2)<|ifE hr ?_ ?_<;>intro h2 hr
 exact e
 exact e
 subst ek1
 exact e
 exact e
theorem j3O {m:Md}{a0:(List BA_)}{a1:(List BA_)}{r:Bool}(hr:z3d a0 a1=some r):Ok Tryz.prog 99 [.d m (.sl 1 (a0.map A.D.s)),.d m (.sl 1 (a1.map A.D.s))] [] (dB r) []:=by
 refine OE Tryz.func99 fun S hS=>?_
 unfold z3d at hr
 refine J (gn 13)<|ifE hr ?_ ?_<;>intro h1 hr
 refine J (gn 8)<|J (lenT 0)<|fun hl1=>bdE hr fun q1 hqq1 hr=>q0b hqq1 hl1 0 (fun k1 _=>[(0,.d m (.sl 1 (a0.map A.D.s))),(1,.d m (.sl 1 (a1.map A.D.s))),(5,dI (k1:Int))]) (fun k1 _=>[]) I (fun k1 xk1 sk1 ok1 hxk1 hr hltk1 hik1=>?_) fun k1 sk1 ek1 hltk1=>?_
 refine bdE hr fun x1 hx1 hr=>J (gn 24)<|ifE hr ?_ ?_<;>intro h2 hr
 exact e
 exact e
 subst ek1
 exact e
 exact e
theorem z9V {a0:Oc}{a1:Oc}{r:Bool}(hr:q8n a0 a1=some r):Ok Tryz.prog 190 [Oc.x .fz a0,Oc.x .fz a1] [] (dB r) []:=by
 refine OE Tryz.func190 fun S hS=>?_
 unfold q8n at hr
 refine J g<|J (BX' 0)<|J (BX' 1)<|J (gn 11)<|ifE hr ?_ ?_<;>intro h1 hr
 refine J (gn 11)<|ifE hr ?_ ?_<;>intro h2 hr
 exact e
 exact e
 exact e
theorem j6K {Rc16:Expr→Expr→Option Bool}(Ic16:∀ {m:Md} {a0:Expr} {a1:Expr} {r:Bool},Rc16 a0 a1=some r→Ok Tryz.prog 191 [Expr.x m a0,Expr.x m a1] [] (dB r) []){m:Md}{a0:(List Expr)}{a1:(List Expr)}{r:Bool}(hr:z6k Rc16 a0 a1=some r):Ok Tryz.prog 220 [.d m (.sl 7 (a0.map Expr.D)),.d m (.sl 7 (a1.map Expr.D))] [] (dB r) []:=by
 refine OE Tryz.func220 fun S hS=>?_
 unfold z6k at hr
 refine J (gn 13)<|ifE hr ?_ ?_<;>intro h1 hr
 refine J (gn 8)<|J (lenT 0)<|fun hl1=>bdE hr fun q1 hqq1 hr=>q0b hqq1 hl1 0 (fun k1 _=>[(0,.d m (.sl 7 (a0.map Expr.D))),(1,.d m (.sl 7 (a1.map Expr.D))),(5,dI (k1:Int))]) (fun k1 _=>[]) I (fun k1 xk1 sk1 ok1 hxk1 hr hltk1 hik1=>?_) fun k1 sk1 ek1 hltk1=>?_
 refine bdE hr fun x1 hx1 hr=>bdE hr fun y1 hy1 hr=>J g<|J (CB' [] [] (Ic16 (m:=m) hy1))<|J (gn 2)<|ifE hr ?_ ?_<;>intro h2 hr
 exact e
 exact e
 subst ek1
 exact e
 exact e
theorem j6L {Rc16:Expr→Expr→Option Bool}(Ic16:∀ {m:Md} {a0:Expr} {a1:Expr} {r:Bool},Rc16 a0 a1=some r→Ok Tryz.prog 191 [Expr.x m a0,Expr.x m a1] [] (dB r) []){m:Md}{a0:Expr}{a1:Expr}{r:Bool}(hr:z5F Rc16 a0 a1=some r):Ok Tryz.prog 191 [Expr.x m a0,Expr.x m a1] [] (dB r) []:=by
 refine OE Tryz.func191 fun S hS=>?_
 unfold z5F at hr
 refine J g<|J (BX' 0)<|J (BX' 1)<|J (gn 11)<|ifE hr ?_ ?_<;>intro h1 hr
 refine J (gn 11)<|ifE hr ?_ ?_<;>intro h2 hr
 refine J (gn 11)<|ifE hr ?_ ?_<;>intro h3 hr
 refine J (gn 11)<|ifE hr ?_ ?_<;>intro h4 hr
 refine J (gn 11)<|ifE hr ?_ ?_<;>intro h5 hr
 refine J (gn 11)<|ifE hr ?_ ?_<;>intro h6 hr
 refine bdE hr fun y1 hy1 hr=>J g<|J (CB' [] [] (j6K Ic16 (m:=m) hy1))<|J (gn 2)<|ifE hr ?_ ?_<;>intro h7 hr
 exact e
 exact e
 exact e
 exact e
 exact e
 exact e
 exact e
 exact e
theorem j6M (n:Nat):∀ {m:Md} {a0:Expr} {a1:Expr} {r:Bool},z1r n a0 a1=some r→Ok Tryz.prog 191 [Expr.x m a0,Expr.x m a1] [] (dB r) []:=by
  induction n with
  | zero=>intro _ _ _ r hr;exact nomatch (show (none:Option Bool)=some r from hr)
  | succ n ih=>intro _ _ _ r hr;exact j6L ih hr
theorem z8P {m:Md}{a0:Expr}{a1:Expr}{r:Bool}(hr:z5G a0 a1=some r):Ok Tryz.prog 191 [Expr.x m a0,Expr.x m a1] [] (dB r) []:=by
 obtain⟨n,hn⟩:=q5M hr
 exact j6M n hn
theorem j2k {m:Md}{a0:Eqn}{a1:Eqn}{r:Bool}(hr:q8y a0 a1=some r):Ok Tryz.prog 144 [Eqn.x m a0,Eqn.x m a1] [] (dB r) []:=by
 refine OE Tryz.func144 fun S hS=>?_
 unfold q8y at hr
 refine J g<|J (BX' 0)<|J (BX' 1)<|bdE hr fun y1 hy1 hr=>J g<|J (CB' [] [] (z9V hy1))<|J (gn 2)<|ifE hr ?_ ?_<;>intro h1 hr
 refine bdE hr fun y2 hy2 hr=>J g<|J (CB' [] [] (z8P (m:=m) hy2))<|J (gn 2)<|ifE hr ?_ ?_<;>intro h2 hr
 exact e
 exact e
 exact e
theorem j1q {m:Md}{a0:(List Eqn)}{a1:(List Eqn)}{r:Bool}(hr:z1f a0 a1=some r):Ok Tryz.prog 100 [.d m (.sl 9 (a0.map Eqn.D)),.d m (.sl 9 (a1.map Eqn.D))] [] (dB r) []:=by
 refine OE Tryz.func100 fun S hS=>?_
 unfold z1f at hr
 refine J (gn 13)<|ifE hr ?_ ?_<;>intro h1 hr
 refine J (gn 8)<|J (lenT 0)<|fun hl1=>bdE hr fun q1 hqq1 hr=>q0b hqq1 hl1 0 (fun k1 _=>[(0,.d m (.sl 9 (a0.map Eqn.D))),(1,.d m (.sl 9 (a1.map Eqn.D))),(5,dI (k1:Int))]) (fun k1 _=>[]) I (fun k1 xk1 sk1 ok1 hxk1 hr hltk1 hik1=>?_) fun k1 sk1 ek1 hltk1=>?_
 refine bdE hr fun x1 hx1 hr=>bdE hr fun y1 hy1 hr=>J g<|J (CB' [] [] (j2k (m:=m) hy1))<|J (gn 2)<|ifE hr ?_ ?_<;>intro h2 hr
 exact e
 exact e
 subst ek1
 exact e
 exact e
theorem z8d {m:Md}{a0:Cn}{a1:Cn}{r:Bool}(hr:q6p a0 a1=some r):Ok Tryz.prog 145 [Cn.x m a0,Cn.x m a1] [] (dB r) []:=by
 refine OE Tryz.func145 fun S hS=>?_
 unfold q6p at hr
 refine J g<|J (BX' 0)<|J (BX' 1)<|J (gn 11)<|ifE hr ?_ ?_<;>intro h1 hr
 refine J (gn 11)<|ifE hr ?_ ?_<;>intro h2 hr
 refine bdE hr fun y1 hy1 hr=>J g<|J (CB' [] [] (z8P (m:=m) hy1))<|J (gn 2)<|ifE hr ?_ ?_<;>intro h3 hr
 refine bdE hr fun y2 hy2 hr=>J g<|J (CB' [] [] (z8P (m:=m) hy2))<|J (gn 2)<|ifE hr ?_ ?_<;>intro h4 hr
 exact e
 exact e
 exact e
 exact e
 exact e
theorem z7f {m:Md}{a0:(List Cn)}{a1:(List Cn)}{r:Bool}(hr:q7Y a0 a1=some r):Ok Tryz.prog 101 [.d m (.sl 16 (a0.map Cn.D)),.d m (.sl 16 (a1.map Cn.D))] [] (dB r) []:=by
 refine OE Tryz.func101 fun S hS=>?_
 unfold q7Y at hr
 refine J (gn 13)<|ifE hr ?_ ?_<;>intro h1 hr
 refine J (gn 8)<|J (lenT 0)<|fun hl1=>bdE hr fun q1 hqq1 hr=>q0b hqq1 hl1 0 (fun k1 _=>[(0,.d m (.sl 16 (a0.map Cn.D))),(1,.d m (.sl 16 (a1.map Cn.D))),(5,dI (k1:Int))]) (fun k1 _=>[]) I (fun k1 xk1 sk1 ok1 hxk1 hr hltk1 hik1=>?_) fun k1 sk1 ek1 hltk1=>?_
 refine bdE hr fun x1 hx1 hr=>bdE hr fun y1 hy1 hr=>J g<|J (CB' [] [] (z8d (m:=m) hy1))<|J (gn 2)<|ifE hr ?_ ?_<;>intro h2 hr
 exact e
 exact e
 subst ek1
 exact e
 exact e
theorem j8Z {m:Md}{a0:Rule}{a1:Rule}{r:Bool}(hr:z4b a0 a1=some r):Ok Tryz.prog 52 [Rule.x m a0,Rule.x m a1] [] (dB r) []:=by
 refine OE Tryz.func52 fun S hS=>?_
 unfold z4b at hr
 refine J g<|J (BX' 0)<|J (BX' 1)<|J (gn 11)<|ifE hr ?_ ?_<;>intro h1 hr
 refine J (gn 11)<|ifE hr ?_ ?_<;>intro h2 hr
 refine bdE hr fun y1 hy1 hr=>J g<|J (CB' [] [] (j3O (m:=m) hy1))<|J (gn 2)<|ifE hr ?_ ?_<;>intro h3 hr
 refine J g ?_
 refine J (BQn' rfl rfl)<|J (gn 1)<|ifE hr ?_ ?_<;>intro h4 hr
 refine bdE hr fun y2 hy2 hr=>J g<|J (CB' [] [] (j1q (m:=m) hy2))<|J (gn 2)<|ifE hr ?_ ?_<;>intro h5 hr
 refine bdE hr fun y3 hy3 hr=>J g<|J (CB' [] [] (z7f (m:=m) hy3))<|J (gn 2)<|ifE hr ?_ ?_<;>intro h6 hr
 exact e
 exact e
 exact e
 exact e
 exact e
 exact e
 exact e
theorem j6N {m:Md}{a0:(List Rule)}{a1:(List Rule)}{r:Bool}(hr:z6l a0 a1=some r):Ok Tryz.prog 23 [.d m (.sl 6 (a0.map Rule.D)),.d m (.sl 6 (a1.map Rule.D))] [] (dB r) []:=by
 refine OE Tryz.func23 fun S hS=>?_
 unfold z6l at hr
 refine J (gn 13)<|ifE hr ?_ ?_<;>intro h1 hr
 refine J (gn 8)<|J (lenT 0)<|fun hl1=>bdE hr fun q1 hqq1 hr=>q0b hqq1 hl1 0 (fun k1 _=>[(0,.d m (.sl 6 (a0.map Rule.D))),(1,.d m (.sl 6 (a1.map Rule.D))),(5,dI (k1:Int))]) (fun k1 _=>[]) I (fun k1 xk1 sk1 ok1 hxk1 hr hltk1 hik1=>?_) fun k1 sk1 ek1 hltk1=>?_
 refine bdE hr fun x1 hx1 hr=>bdE hr fun y1 hy1 hr=>J g<|J (CB' [] [] (j8Z (m:=m) hy1))<|J (gn 2)<|ifE hr ?_ ?_<;>intro h2 hr
 exact e
 exact e
 subst ek1
 exact e
 exact e
theorem j3P {m:Md}{a0:Gm_}{a1:Gm_}{r:Bool}(hr:z1s a0 a1=some r):Ok Tryz.prog 9 [Gm_.x m a0,Gm_.x m a1] [] (dB r) []:=by
 refine OE Tryz.func9 fun S hS=>?_
 unfold z1s at hr
 refine J g<|J (BX' 0)<|J (BX' 1)<|bdE hr fun y1 hy1 hr=>J g<|J (CB' [] [] (j3N (m:=m) hy1))<|J (gn 2)<|ifE hr ?_ ?_<;>intro h1 hr
 refine bdE hr fun y2 hy2 hr=>J g<|J (CB' [] [] (j6N (m:=m) hy2))<|J (gn 2)<|ifE hr ?_ ?_<;>intro h2 hr
 exact e
 exact e
 exact e
theorem q4U {a0:Int}{r:BA_}(hr:q4C a0=some r):Ok Tryz.prog 53 [dI a0] [] (dS r) []:=by
 refine OE Tryz.func53 fun S hS=>?_
 unfold q4C at hr
 refine J (gn 10)<|ifE hr ?_ ?_<;>intro h1 hr
 exact e
 refine bdE hr fun s1 hqq1 hr=>J (gn 7)<|q0e 0 [(3,dS s1)] [] ?_ ?_
 refine J g<|q0g hqq1 0 (fun (s2,s3)=>[(0,dI s2),(3,dS s3)]) (fun (s2,s3)=>[]) I fun sk1 ok1 hr hik1=>?_
 obtain⟨s2,s3⟩:=sk1
 have hr:=hr
 refine J (gn 6)<|ifE hr ?_ ?_<;>intro h2 hr
 refine J g<|J (OB' _ (bRem (b:=10) (by decide)))<|ggE hr fun g1 hr=>J g ?_
 refine J (CIB' rfl)<|J (LIR' 0 (m:=.fz) (f:=byD) (xs:=([(UInt8.ofNat ((48+(s2.tmod 10)) % 256).toNat)]:List UInt8))) ?_
 refine J (TS' rfl rfl)<|ggE hr fun g2 hr=>J g<|J (OB' _ (k6t g2))<|ggE hr fun g3 hr=>J g<|J (OB' _ (bQuo (b:=10) (by decide) g3))<|J g<|E
 refine J (gn 2) ?_
 cases hr
 cases hik1 _ rfl
 exact q0d hS 0
 refine ggE hr fun g4 hr=>J g<|J (OB' _ (k6t g4))<|e
theorem z8e {a0:(List At_)}{a1:Int}{r:(Int×(List At_))}(hr:q8z a0 a1=some r):Ok Tryz.prog 54 [.ref 0 none,dI a1] [.row .fz 4 (a0.map At_.D)] (dI r.1) [.row .fz 4 (r.2.map At_.D)]:=by
 refine OE Tryz.func54 fun S hS=>?_
 unfold q8z at hr
 refine bdP hr fun s1 s2 hqq1 hr=>J (gn 9)<|q0e 1 [(1,dI s1)] [(0,.row .fz 4 (s2.map At_.D))] ?_ ?_
 refine J g<|q0g hqq1 1 (fun (s3,s4,s5)=>[(0,.ref 0 none),(1,dI s3),(5,dI s4)]) (fun (s3,s4,s5)=>[(0,.row .fz 4 (s5.map At_.D))]) I fun sk1 ok1 hr hik1=>?_
 obtain⟨s3,s4,s5⟩:=sk1
 have hr:=hr
 refine J (gn 8)<|ifE hr ?_ ?_<;>intro h1 hr
 refine bdE hr fun y1 hy1 hr=>J g<|J (CB' [] [] (q4U hy1))<|ggE hr fun g1 hr=>bdE hr fun x1 hx1 hr=>J g<|J (SE' (⟨y1,x1.t__,x1.Mode,x1.Circular⟩:At_) hx1)<|ggE hr fun g2 hr=>ggE hr fun g3 hr=>bdE hr fun x2 hx2 hr=>J g<|J (SE' (⟨x2.Name,(s3+1),x2.Mode,x2.Circular⟩:At_) hx2)<|ggE hr fun g4 hr=>ggE hr fun g5 hr=>bdE hr fun x3 hx3 hr=>J g<|J (SE' (⟨x3.Name,x3.t__,((s3+1)+1),x3.Circular⟩:At_) hx3)<|ggE hr fun g6 hr=>J g<|J (OB' _ (bRem (b:=3) (by decide)))<|ggE hr fun g7 hr=>bdE hr fun x4 hx4 hr=>J g<|J (SE' (⟨x4.Name,x4.t__,x4.Mode,decide (((((s3+1)+1)+1).tmod 3)=0)⟩:At_) hx4)<|ggE hr fun g8 hr=>ggE hr fun g9 hr=>?_
 exact e
 refine J (gn 2) ?_
 cases hr
 cases hik1 _ rfl
 exact q0d hS 1
 exact e
theorem j1r {a0:(List Symbol)}{a1:Int}{r:(Int×(List Symbol))}(hr:z1g a0 a1=some r):Ok Tryz.prog 24 [.ref 0 none,dI a1] [.deep .fz 2 (a0.map Symbol.W) []] (dI r.1) [.deep .fz 2 (r.2.map Symbol.W) []]:=by
 refine OE Tryz.func24 fun S hS=>?_
 unfold z1g at hr
 refine bdP hr fun s1 s2 hqq1 hr=>J (gn 9)<|q0e 1 [(1,dI s1)] [(0,.deep .fz 2 (s2.map Symbol.W) [])] ?_ ?_
 refine J g<|q0g hqq1 1 (fun (s3,s4,s5)=>[(0,.ref 0 none),(1,dI s3),(5,dI s4)]) (fun (s3,s4,s5)=>[(0,.deep .fz 2 (s5.map Symbol.W) [])]) I fun sk1 ok1 hr hik1=>?_
 obtain⟨s3,s4,s5⟩:=sk1
 have hr:=hr
 refine J g<|J (LEd' s5.length)<|J (gn 2)<|ifE hr ?_ ?_<;>intro h1 hr
 refine bdE hr fun y1 hy1 hr=>J g<|J (CB' [] [] (q4U hy1))<|ggE hr fun g1 hr=>bdE hr fun x1 hx1 hr=>J (IEd' g1 (q3I hx1))<|J g<|J (SD' [.d .fz (.s y1)] [] (q3I hx1))<|ggE hr fun g2 hr=>J g<|J (IEd' g1 (q3H (q3I hx1)))<|J (gn 1)<|J (q0m 0 s4.toNat 1 1 (q3H (q3I hx1)))<|J (LPd' [(1,1)] (q3H (q3H (q3I hx1))))<|bdP hr fun y2 z1 hq2 hr=>J g<|J (CB' [(0,1)] [] (z8e hq2))<|ggE hr fun g3 hr=>J (gn 7) ?_
 cases hr
 exact⟨_,rfl,GH.trans (q0k 0 s4.toNat 1 1 (q3H (q3H (q3I hx1))) (hx:=.flatM (fun _=>rfl))) (GH.trans (q0j 0 (he:=eset (f:=Symbol.W) (x':=(⟨y1,z1⟩:Symbol)) (by first|rfl|(simp only[Dnz];rfl)))) (q0d hS 1))⟩
 refine J (gn 2) ?_
 cases hr
 cases hik1 _ rfl
 exact q0d hS 1
 exact e
theorem j1s {a0:(List BA_)}{a1:Int}{r:(Int×(List BA_))}(hr:q9b a0 a1=some r):Ok Tryz.prog 55 [.ref 0 none,dI a1] [.row .fz 1 (a0.map A.D.s)] (dI r.1) [.row .fz 1 (r.2.map A.D.s)]:=by
 refine OE Tryz.func55 fun S hS=>?_
 unfold q9b at hr
 refine bdP hr fun s1 s2 hqq1 hr=>J (gn 9)<|q0e 1 [(1,dI s1)] [(0,.row .fz 1 (s2.map A.D.s))] ?_ ?_
 refine J g<|q0g hqq1 1 (fun (s3,s4,s5)=>[(0,.ref 0 none),(1,dI s3),(5,dI s4)]) (fun (s3,s4,s5)=>[(0,.row .fz 1 (s5.map A.D.s))]) I fun sk1 ok1 hr hik1=>?_
 obtain⟨s3,s4,s5⟩:=sk1
 have hr:=hr
 refine J (gn 8)<|ifE hr ?_ ?_<;>intro h1 hr
 refine bdE hr fun y1 hy1 hr=>J g<|J (CB' [] [] (q4U hy1))<|ggE hr fun g1 hr=>bdE hr fun x1 hx1 hr=>J g<|J (SE' y1 hx1)<|ggE hr fun g2 hr=>ggE hr fun g3 hr=>e
 refine J (gn 2) ?_
 cases hr
 cases hik1 _ rfl
 exact q0d hS 1
 exact e
theorem j2l {Rc17:(List Expr)→Int→Option (Int×(List Expr))}(Ic17:∀ {a0:(List Expr)} {a1:Int} {r:(Int×(List Expr))},Rc17 a0 a1=some r→Ok Tryz.prog 102 [.ref 0 none,dI a1] [.deep .fz 7 (a0.map Expr.W) []] (dI r.1) [.deep .fz 7 (r.2.map Expr.W) []]){a0:(List Expr)}{a1:Int}{r:(Int×(List Expr))}(hr:z1t Rc17 a0 a1=some r):Ok Tryz.prog 102 [.ref 0 none,dI a1] [.deep .fz 7 (a0.map Expr.W) []] (dI r.1) [.deep .fz 7 (r.2.map Expr.W) []]:=by
 refine OE Tryz.func102 fun S hS=>?_
 unfold z1t at hr
 refine bdP hr fun s1 s2 hqq1 hr=>J (gn 9)<|q0e 1 [(1,dI s1)] [(0,.deep .fz 7 (s2.map Expr.W) [])] ?_ ?_
 refine J g<|q0g hqq1 1 (fun (s3,s4,s5)=>[(0,.ref 0 none),(1,dI s3),(5,dI s4)]) (fun (s3,s4,s5)=>[(0,.deep .fz 7 (s5.map Expr.W) [])]) I fun sk1 ok1 hr hik1=>?_
 obtain⟨s3,s4,s5⟩:=sk1
 have hr:=hr
 refine J g<|J (LEd' s5.length)<|J (gn 2)<|ifE hr ?_ ?_<;>intro h1 hr
 refine ggE hr fun g1 hr=>bdE hr fun x1 hx1 hr=>J g<|J (IEd' g1 (q3I hx1))<|J g<|J (SD' [.d .fz (.i .i64 s3)] [] (q3I hx1))<|ggE hr fun g2 hr=>J g<|J (IEd' g1 (q3H (q3I hx1)))<|J g<|J (SD' [.d .fz (.i .i64 (s3+1))] [] (q3H (q3I hx1)))<|ggE hr fun g3 hr=>J g<|J (IEd' g1 (q3H (q3H (q3I hx1))))<|J g<|J (SD' [.d .fz (.i .i64 ((s3+1)+1))] [] (q3H (q3H (q3I hx1))))<|ggE hr fun g4 hr=>J g<|J (IEd' g1 (q3H (q3H (q3H (q3I hx1)))))<|J g<|J (SD' [.d .fz (.i .i64 (((s3+1)+1)+1))] [] (q3H (q3H (q3H (q3I hx1)))))<|ggE hr fun g5 hr=>bdE hr fun y1 hy1 hr=>J g<|J (CB' [] [] (q4U hy1))<|J (IEd' g1 (q3H (q3H (q3H (q3H (q3I hx1)))))) ?_
 refine J g<|J (SD' [.d .fz (.s y1)] [] (q3H (q3H (q3H (q3H (q3I hx1))))))<|ggE hr fun g6 hr=>bdE hr fun y2 hy2 hr=>J g<|J (CB' [] [] (q4U hy2))<|J (IEd' g1 (q3H (q3H (q3H (q3H (q3H (q3I hx1)))))))<|J g<|J (SD' [.d .fz (.s y2)] [] (q3H (q3H (q3H (q3H (q3H (q3I hx1)))))))<|ggE hr fun g7 hr=>J g<|J (IEd' g1 (q3H (q3H (q3H (q3H (q3H (q3H (q3I hx1))))))))<|J (gn 1)<|J (q0m 0 s4.toNat 6 1 (q3H (q3H (q3H (q3H (q3H (q3H (q3I hx1))))))))<|J (LPd' [(6,1)] (q3H (q3H (q3H (q3H (q3H (q3H (q3H (q3I hx1)))))))))<|bdP hr fun y3 z1 hq2 hr=>J g<|J (CB' [(0,1)] [] (Ic17 hq2))<|ggE hr fun g8 hr=>J (gn 7) ?_
 cases hr
 exact⟨_,rfl,GH.trans (q0k 0 s4.toNat 6 1 (q3H (q3H (q3H (q3H (q3H (q3H (q3H (q3I hx1)))))))) (hx:=.ownM (f:=Expr.D))) (GH.trans (q0j 0 (he:=eset (f:=Expr.W) (x':=(⟨s3,(s3+1),((s3+1)+1),(((s3+1)+1)+1),y1,y2,z1⟩:Expr)) (by first|rfl|(simp only[Dnz];rfl)))) (q0d hS 1))⟩
 refine J (gn 2) ?_
 cases hr
 cases hik1 _ rfl
 exact q0d hS 1
 exact e
theorem j2m (n:Nat):∀ {a0:(List Expr)} {a1:Int} {r:(Int×(List Expr))},z1u n a0 a1=some r→Ok Tryz.prog 102 [.ref 0 none,dI a1] [.deep .fz 7 (a0.map Expr.W) []] (dI r.1) [.deep .fz 7 (r.2.map Expr.W) []]:=by
  induction n with
  | zero=>intro _ _ r hr;exact nomatch (show (none:Option (Int×(List Expr)))=some r from hr)
  | succ n ih=>intro _ _ r hr;exact j2l ih hr
theorem z4J {a0:(List Expr)}{a1:Int}{r:(Int×(List Expr))}(hr:z1v a0 a1=some r):Ok Tryz.prog 102 [.ref 0 none,dI a1] [.deep .fz 7 (a0.map Expr.W) []] (dI r.1) [.deep .fz 7 (r.2.map Expr.W) []]:=by
 obtain⟨n,hn⟩:=q5M hr
 exact j2m n hn
theorem z8Q {a0:(List Eqn)}{a1:Int}{r:(Int×(List Eqn))}(hr:q9h a0 a1=some r):Ok Tryz.prog 56 [.ref 0 none,dI a1] [.deep .fz 9 (a0.map Eqn.W) []] (dI r.1) [.deep .fz 9 (r.2.map Eqn.W) []]:=by
 refine OE Tryz.func56 fun S hS=>?_
 unfold q9h at hr
 refine bdP hr fun s1 s2 hqq1 hr=>J (gn 9)<|q0e 1 [(1,dI s1)] [(0,.deep .fz 9 (s2.map Eqn.W) [])] ?_ ?_
 refine J g<|q0g hqq1 1 (fun (s3,s4,s5)=>[(0,.ref 0 none),(1,dI s3),(5,dI s4)]) (fun (s3,s4,s5)=>[(0,.deep .fz 9 (s5.map Eqn.W) [])]) I fun sk1 ok1 hr hik1=>?_
 obtain⟨s3,s4,s5⟩:=sk1
 have hr:=hr
 refine J g<|J (LEd' s5.length)<|J (gn 2)<|ifE hr ?_ ?_<;>intro h1 hr
 refine ggE hr fun g1 hr=>bdE hr fun x1 hx1 hr=>J g<|J (IEd' g1 (q3I hx1))<|J g<|J (SD' [.d .fz (.i .i64 s3)] [] (q3I hx1))<|ggE hr fun g2 hr=>bdE hr fun y1 hy1 hr=>J g<|J (CB' [] [] (q4U hy1))<|J (IEd' g1 (q3H (q3I hx1)))<|J g<|J (SD' [.d .fz (.s y1)] [] (q3H (q3I hx1)))<|ggE hr fun g3 hr=>J g<|J (IEd' g1 (q3H (q3H (q3I hx1))))<|J g<|J (SD' [.d .fz (.i .i64 ((s3+1)+1))] [] (q3H (q3H (q3I hx1)))) ?_
 refine q0q 0 rfl (he:=enr3 (c:=[Cell.d Md.fz (.i .i64 s3),Cell.d Md.fz (.s y1),Cell.d Md.fz (.i .i64 ((s3+1)+1)),Cell.d Md.fz (.i .i64 x1.Expr.N),Cell.d Md.fz (.i .i64 x1.Expr.Pos),Cell.d Md.fz (.i .i64 x1.Expr.t__),Cell.d Md.fz (.s x1.Expr.Symbol),Cell.d Md.fz (.s x1.Expr.Name),.w 7 (x1.Expr.Args.map Expr.D)]) rfl) ?_
 refine ggE hr fun g4 hr=>J g<|J (IEd' g1 (q3H (q3I hx1)))<|J g<|J (SD' [.d .fz (.i .i64 (((s3+1)+1)+1))] [] (q3H (q3I hx1)))<|ggE hr fun g5 hr=>J g<|J (IEd' g1 (q3H (q3H (q3I hx1))))<|J g<|J (SD' [.d .fz (.i .i64 ((((s3+1)+1)+1)+1))] [] (q3H (q3H (q3I hx1)))) ?_
 refine q0q 0 rfl (he:=enr3 (c:=[Cell.d Md.fz (.i .i64 s3),Cell.d Md.fz (.s y1),Cell.d Md.fz (.i .i64 ((s3+1)+1)),Cell.d Md.fz (.i .i64 (((s3+1)+1)+1)),Cell.d Md.fz (.i .i64 ((((s3+1)+1)+1)+1)),Cell.d Md.fz (.i .i64 x1.Expr.t__),Cell.d Md.fz (.s x1.Expr.Symbol),Cell.d Md.fz (.s x1.Expr.Name),.w 7 (x1.Expr.Args.map Expr.D)]) rfl) ?_
 refine ggE hr fun g6 hr=>J g<|J (IEd' g1 (q3H (q3I hx1)))<|J g<|J (SD' [.d .fz (.i .i64 (((((s3+1)+1)+1)+1)+1))] [] (q3H (q3I hx1)))<|ggE hr fun g7 hr=>bdE hr fun y2 hy2 hr=>J g<|J (CB' [] [] (q4U hy2))<|J (IEd' g1 (q3H (q3H (q3I hx1))))<|J g<|J (SD' [.d .fz (.s y2)] [] (q3H (q3H (q3I hx1)))) ?_
 refine q0q 0 rfl (he:=enr3 (c:=[Cell.d Md.fz (.i .i64 s3),Cell.d Md.fz (.s y1),Cell.d Md.fz (.i .i64 ((s3+1)+1)),Cell.d Md.fz (.i .i64 (((s3+1)+1)+1)),Cell.d Md.fz (.i .i64 ((((s3+1)+1)+1)+1)),Cell.d Md.fz (.i .i64 (((((s3+1)+1)+1)+1)+1)),Cell.d Md.fz (.s y2),Cell.d Md.fz (.s x1.Expr.Name),.w 7 (x1.Expr.Args.map Expr.D)]) rfl) ?_
 refine ggE hr fun g8 hr=>bdE hr fun y3 hy3 hr=>J g<|J (CB' [] [] (q4U hy3))<|J (IEd' g1 (q3H (q3I hx1)))<|J g<|J (SD' [.d .fz (.s y3)] [] (q3H (q3I hx1)))<|ggE hr fun g9 hr=>J g<|J (IEd' g1 (q3H (q3H (q3I hx1))))<|J (gn 2)<|J (q0m 0 s4.toNat 8 1 (q3H (q3H (q3I hx1)))) ?_
 refine q0q 0 rfl (he:=enr3 (c:=[Cell.d Md.fz (.i .i64 s3),Cell.d Md.fz (.s y1),Cell.d Md.fz (.i .i64 ((s3+1)+1)),Cell.d Md.fz (.i .i64 (((s3+1)+1)+1)),Cell.d Md.fz (.i .i64 ((((s3+1)+1)+1)+1)),Cell.d Md.fz (.i .i64 (((((s3+1)+1)+1)+1)+1)),Cell.d Md.fz (.s y2),Cell.d Md.fz (.s y3),.u]) rfl) ?_
 refine J (LPd' [(8,1)] (q3H (q3I hx1)))<|bdP hr fun y4 z1 hq2 hr=>J g<|J (CB' [(0,1)] [] (z4J hq2))<|ggE hr fun g10 hr=>J (gn 7) ?_
 cases hr
 exact⟨_,rfl,GH.trans (q0k 0 s4.toNat 8 1 (q3H (q3I hx1)) (hx:=.ownM (f:=Expr.D))) (GH.trans (q0j 0 (he:=eset (f:=Eqn.W) (x':=(⟨(⟨s3,y1⟩:Oc),(⟨((s3+1)+1),(((s3+1)+1)+1),((((s3+1)+1)+1)+1),(((((s3+1)+1)+1)+1)+1),y2,y3,z1⟩:Expr)⟩:Eqn)) (by first|rfl|(simp only[Dnz];rfl)))) (q0d hS 1))⟩
 refine J (gn 2) ?_
 cases hr
 cases hik1 _ rfl
 exact q0d hS 1
 exact e
theorem z5N {a0:(List Cn)}{a1:Int}{r:(Int×(List Cn))}(hr:q6W a0 a1=some r):Ok Tryz.prog 57 [.ref 0 none,dI a1] [.deep .fz 16 (a0.map Cn.W) []] (dI r.1) [.deep .fz 16 (r.2.map Cn.W) []]:=by
 refine OE Tryz.func57 fun S hS=>?_
 unfold q6W at hr
 refine bdP hr fun s1 s2 hqq1 hr=>J (gn 9)<|q0e 1 [(1,dI s1)] [(0,.deep .fz 16 (s2.map Cn.W) [])] ?_ ?_
 refine J g<|q0g hqq1 1 (fun (s3,s4,s5)=>[(0,.ref 0 none),(1,dI s3),(5,dI s4)]) (fun (s3,s4,s5)=>[(0,.deep .fz 16 (s5.map Cn.W) [])]) I fun sk1 ok1 hr hik1=>?_
 obtain⟨s3,s4,s5⟩:=sk1
 have hr:=hr
 refine J g<|J (LEd' s5.length)<|J (gn 2)<|ifE hr ?_ ?_<;>intro h1 hr
 refine bdE hr fun y1 hy1 hr=>J g<|J (CB' [] [] (q4U hy1))<|ggE hr fun g1 hr=>bdE hr fun x1 hx1 hr=>J (IEd' g1 (q3I hx1))<|J g<|J (SD' [.d .fz (.s y1)] [] (q3I hx1))<|ggE hr fun g2 hr=>bdE hr fun y2 hy2 hr=>J g<|J (CB' [] [] (q4U hy2))<|J (IEd' g1 (q3H (q3I hx1)))<|J g<|J (SD' [.d .fz (.s y2)] [] (q3H (q3I hx1)))<|ggE hr fun g3 hr=>J g<|J (IEd' g1 (q3H (q3H (q3I hx1))))<|J g<|J (SD' [.d .fz (.i .i64 ((s3+1)+1))] [] (q3H (q3H (q3I hx1)))) ?_
 refine q0q 0 rfl (he:=enr3 (c:=[Cell.d Md.fz (.s y1),Cell.d Md.fz (.s y2),Cell.d Md.fz (.i .i64 ((s3+1)+1)),Cell.d Md.fz (.i .i64 x1.tt_.N),Cell.d Md.fz (.i .i64 x1.tt_.Pos),Cell.d Md.fz (.i .i64 x1.tt_.t__),Cell.d Md.fz (.s x1.tt_.Symbol),Cell.d Md.fz (.s x1.tt_.Name),.w 7 (x1.tt_.Args.map Expr.D),Cell.d Md.fz (.i .i64 x1.Value.Kind),Cell.d Md.fz (.i .i64 x1.Value.N),Cell.d Md.fz (.i .i64 x1.Value.Pos),Cell.d Md.fz (.i .i64 x1.Value.t__),Cell.d Md.fz (.s x1.Value.Symbol),Cell.d Md.fz (.s x1.Value.Name),.w 7 (x1.Value.Args.map Expr.D)]) rfl) ?_
 refine ggE hr fun g4 hr=>J g<|J (IEd' g1 (q3H (q3I hx1)))<|J g<|J (SD' [.d .fz (.i .i64 (((s3+1)+1)+1))] [] (q3H (q3I hx1)))<|ggE hr fun g5 hr=>J g<|J (IEd' g1 (q3H (q3H (q3I hx1))))<|J g<|J (SD' [.d .fz (.i .i64 ((((s3+1)+1)+1)+1))] [] (q3H (q3H (q3I hx1)))) ?_
 refine q0q 0 rfl (he:=enr3 (c:=[Cell.d Md.fz (.s y1),Cell.d Md.fz (.s y2),Cell.d Md.fz (.i .i64 ((s3+1)+1)),Cell.d Md.fz (.i .i64 (((s3+1)+1)+1)),Cell.d Md.fz (.i .i64 ((((s3+1)+1)+1)+1)),Cell.d Md.fz (.i .i64 x1.tt_.t__),Cell.d Md.fz (.s x1.tt_.Symbol),Cell.d Md.fz (.s x1.tt_.Name),.w 7 (x1.tt_.Args.map Expr.D),Cell.d Md.fz (.i .i64 x1.Value.Kind),Cell.d Md.fz (.i .i64 x1.Value.N),Cell.d Md.fz (.i .i64 x1.Value.Pos),Cell.d Md.fz (.i .i64 x1.Value.t__),Cell.d Md.fz (.s x1.Value.Symbol),Cell.d Md.fz (.s x1.Value.Name),.w 7 (x1.Value.Args.map Expr.D)]) rfl) ?_
 refine ggE hr fun g6 hr=>J g<|J (IEd' g1 (q3H (q3I hx1)))<|J g<|J (SD' [.d .fz (.i .i64 (((((s3+1)+1)+1)+1)+1))] [] (q3H (q3I hx1)))<|ggE hr fun g7 hr=>bdE hr fun y3 hy3 hr=>J g<|J (CB' [] [] (q4U hy3))<|J (IEd' g1 (q3H (q3H (q3I hx1))))<|J g<|J (SD' [.d .fz (.s y3)] [] (q3H (q3H (q3I hx1)))) ?_
 refine q0q 0 rfl (he:=enr3 (c:=[Cell.d Md.fz (.s y1),Cell.d Md.fz (.s y2),Cell.d Md.fz (.i .i64 ((s3+1)+1)),Cell.d Md.fz (.i .i64 (((s3+1)+1)+1)),Cell.d Md.fz (.i .i64 ((((s3+1)+1)+1)+1)),Cell.d Md.fz (.i .i64 (((((s3+1)+1)+1)+1)+1)),Cell.d Md.fz (.s y3),Cell.d Md.fz (.s x1.tt_.Name),.w 7 (x1.tt_.Args.map Expr.D),Cell.d Md.fz (.i .i64 x1.Value.Kind),Cell.d Md.fz (.i .i64 x1.Value.N),Cell.d Md.fz (.i .i64 x1.Value.Pos),Cell.d Md.fz (.i .i64 x1.Value.t__),Cell.d Md.fz (.s x1.Value.Symbol),Cell.d Md.fz (.s x1.Value.Name),.w 7 (x1.Value.Args.map Expr.D)]) rfl) ?_
 refine ggE hr fun g8 hr=>bdE hr fun y4 hy4 hr=>J g<|J (CB' [] [] (q4U hy4))<|J (IEd' g1 (q3H (q3I hx1)))<|J g<|J (SD' [.d .fz (.s y4)] [] (q3H (q3I hx1)))<|ggE hr fun g9 hr=>J g<|J (IEd' g1 (q3H (q3H (q3I hx1))))<|J (gn 2)<|J (q0m 0 s4.toNat 8 1 (q3H (q3H (q3I hx1)))) ?_
 refine q0q 0 rfl (he:=enr3 (c:=[Cell.d Md.fz (.s y1),Cell.d Md.fz (.s y2),Cell.d Md.fz (.i .i64 ((s3+1)+1)),Cell.d Md.fz (.i .i64 (((s3+1)+1)+1)),Cell.d Md.fz (.i .i64 ((((s3+1)+1)+1)+1)),Cell.d Md.fz (.i .i64 (((((s3+1)+1)+1)+1)+1)),Cell.d Md.fz (.s y3),Cell.d Md.fz (.s y4),.u,Cell.d Md.fz (.i .i64 x1.Value.Kind),Cell.d Md.fz (.i .i64 x1.Value.N),Cell.d Md.fz (.i .i64 x1.Value.Pos),Cell.d Md.fz (.i .i64 x1.Value.t__),Cell.d Md.fz (.s x1.Value.Symbol),Cell.d Md.fz (.s x1.Value.Name),.w 7 (x1.Value.Args.map Expr.D)]) rfl) ?_
 refine J (LPd' [(8,1)] (q3H (q3I hx1)))<|bdP hr fun y5 z1 hq2 hr=>J g<|J (CB' [(0,1)] [] (z4J hq2))<|J g<|J (IEd' g1 (q3H (q3I hx1)))<|J g<|J (SD' [.d .fz (.i .i64 y5)] [] (q3H (q3I hx1)))<|ggE hr fun g10 hr=>J g<|J (IEd' g1 (q3H (q3H (q3I hx1))))<|J g<|J (SD' [.d .fz (.i .i64 (y5+1))] [] (q3H (q3H (q3I hx1)))) ?_
 refine q0q 0 rfl (he:=enr3 (c:=[Cell.d Md.fz (.s y1),Cell.d Md.fz (.s y2),Cell.d Md.fz (.i .i64 ((s3+1)+1)),Cell.d Md.fz (.i .i64 (((s3+1)+1)+1)),Cell.d Md.fz (.i .i64 ((((s3+1)+1)+1)+1)),Cell.d Md.fz (.i .i64 (((((s3+1)+1)+1)+1)+1)),Cell.d Md.fz (.s y3),Cell.d Md.fz (.s y4),.u,Cell.d Md.fz (.i .i64 y5),Cell.d Md.fz (.i .i64 (y5+1)),Cell.d Md.fz (.i .i64 x1.Value.Pos),Cell.d Md.fz (.i .i64 x1.Value.t__),Cell.d Md.fz (.s x1.Value.Symbol),Cell.d Md.fz (.s x1.Value.Name),.w 7 (x1.Value.Args.map Expr.D)]) rfl) ?_
 refine ggE hr fun g11 hr=>J g<|J (IEd' g1 (q3H (q3I hx1)))<|J g<|J (SD' [.d .fz (.i .i64 ((y5+1)+1))] [] (q3H (q3I hx1)))<|ggE hr fun g12 hr=>J g<|J (IEd' g1 (q3H (q3H (q3I hx1))))<|J g<|J (SD' [.d .fz (.i .i64 (((y5+1)+1)+1))] [] (q3H (q3H (q3I hx1)))) ?_
 refine q0q 0 rfl (he:=enr3 (c:=[Cell.d Md.fz (.s y1),Cell.d Md.fz (.s y2),Cell.d Md.fz (.i .i64 ((s3+1)+1)),Cell.d Md.fz (.i .i64 (((s3+1)+1)+1)),Cell.d Md.fz (.i .i64 ((((s3+1)+1)+1)+1)),Cell.d Md.fz (.i .i64 (((((s3+1)+1)+1)+1)+1)),Cell.d Md.fz (.s y3),Cell.d Md.fz (.s y4),.u,Cell.d Md.fz (.i .i64 y5),Cell.d Md.fz (.i .i64 (y5+1)),Cell.d Md.fz (.i .i64 ((y5+1)+1)),Cell.d Md.fz (.i .i64 (((y5+1)+1)+1)),Cell.d Md.fz (.s x1.Value.Symbol),Cell.d Md.fz (.s x1.Value.Name),.w 7 (x1.Value.Args.map Expr.D)]) rfl) ?_
 refine ggE hr fun g13 hr=>bdE hr fun y6 hy6 hr=>J g<|J (CB' [] [] (q4U hy6))<|J (IEd' g1 (q3H (q3I hx1)))<|J g<|J (SD' [.d .fz (.s y6)] [] (q3H (q3I hx1)))<|ggE hr fun g14 hr=>bdE hr fun y7 hy7 hr=>J g<|J (CB' [] [] (q4U hy7))<|J (IEd' g1 (q3H (q3H (q3I hx1))))<|J g<|J (SD' [.d .fz (.s y7)] [] (q3H (q3H (q3I hx1)))) ?_
 refine q0q 0 rfl (he:=enr3 (c:=[Cell.d Md.fz (.s y1),Cell.d Md.fz (.s y2),Cell.d Md.fz (.i .i64 ((s3+1)+1)),Cell.d Md.fz (.i .i64 (((s3+1)+1)+1)),Cell.d Md.fz (.i .i64 ((((s3+1)+1)+1)+1)),Cell.d Md.fz (.i .i64 (((((s3+1)+1)+1)+1)+1)),Cell.d Md.fz (.s y3),Cell.d Md.fz (.s y4),.u,Cell.d Md.fz (.i .i64 y5),Cell.d Md.fz (.i .i64 (y5+1)),Cell.d Md.fz (.i .i64 ((y5+1)+1)),Cell.d Md.fz (.i .i64 (((y5+1)+1)+1)),Cell.d Md.fz (.s y6),Cell.d Md.fz (.s y7),.w 7 (x1.Value.Args.map Expr.D)]) rfl) ?_
 refine ggE hr fun g15 hr=>J g<|J (IEd' g1 (q3H (q3I hx1)))<|J (gn 2)<|J (q0m 0 s4.toNat 15 2 (q3H (q3I hx1)))<|J (LPd' [(15,2),(8,1)] (q3H (q3H (q3I hx1))))<|bdP hr fun y8 z2 hq3 hr=>J g<|J (CB' [(0,2)] [] (z4J hq3))<|ggE hr fun g16 hr=>J (gn 7) ?_
 cases hr
 exact⟨_,rfl,GH.trans (q0k 0 s4.toNat 15 2 (q3H (q3H (q3I hx1))) (hx:=.ownM (f:=Expr.D))) (GH.trans (q0k 0 s4.toNat 8 1 (q3H (q3H (q3H (q3I hx1)))) (hx:=.ownM (f:=Expr.D))) (GH.trans (q0j 0 (he:=eset (f:=Cn.W) (x':=(⟨y1,y2,(⟨((s3+1)+1),(((s3+1)+1)+1),((((s3+1)+1)+1)+1),(((((s3+1)+1)+1)+1)+1),y3,y4,z1⟩:Expr),(⟨y5,(y5+1),((y5+1)+1),(((y5+1)+1)+1),y6,y7,z2⟩:Expr)⟩:Cn)) (by first|rfl|(simp only[Dnz];rfl)))) (q0d hS 1)))⟩
 refine J (gn 2) ?_
 cases hr
 cases hik1 _ rfl
 exact q0d hS 1
 exact e
end Go.Proofs.YtnhofaohogianaaGreat
