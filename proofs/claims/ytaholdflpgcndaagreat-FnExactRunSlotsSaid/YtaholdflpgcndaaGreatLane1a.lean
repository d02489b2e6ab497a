/- What some functions of the program compute, as partial functions on plain data, and that they do; each lemma bears its conditions in its statement. -/
import Derived.Test.YtaholdflpgcndaaGreatDef
set_option linter.unusedVariables false
set_option linter.unusedSimpArgs false
set_option linter.ambiguousOpen false
set_option linter.unusedSectionVars false
set_option linter.unnecessarySimpa false
set_option maxRecDepth 100000
set_option maxHeartbeats 40000000
noncomputable section
namespace Go.Proofs.YtaholdflpgcndaaGreat
open Go Go.E Go.A
theorem q4b {a0:Int}{a1:Int}{a2:Int}{r:Bool}(hr:q4a a0 a1 a2=some r):Ok Tryz.prog 67 [dI a0,dI a1,dI a2] [] (dB r) []:=by
 refine OE Tryz.func67 fun S hS=>?_
 unfold q4a at hr
 refine J (gn 9)<|ifE hr ?_ ?_<;>intro h1 hr
 exact e
 exact e
theorem z2V {m:Md}{a0:(List Instance)}{a1:Instance}{r:Int}(hr:q6d a0 a1=some r):Ok Tryz.prog 110 [.d m (.sl 2 (a0.map Instance.D)),Instance.x .fz a1] [] (dI r) []:=by
 refine OE Tryz.func110 fun S hS=>?_
 unfold q6d at hr
 refine J g<|J (BX' 0)<|J (gn 8)<|J (lenT 0)<|fun hl1=>bdE hr fun q1 hqq1 hr=>q0b hqq1 hl1 1 (fun k1 _=>[(0,.d m (.sl 2 (a0.map Instance.D))),(3,.pb 0 0),(5,dI (k1:Int))]) (fun k1 _=>[]) I (fun k1 xk1 sk1 ok1 hxk1 hr hltk1 hik1=>?_) fun k1 sk1 ek1 hltk1=>?_
 refine J g ?_
 refine J (SQ' rfl rfl rfl rfl (q8M xk1 a1))<|J (gn 1)<|ifE hr ?_ ?_<;>intro h1 hr
 exact e
 exact e
 subst ek1
 exact e
theorem z6m {m:Md}{a0:(List Instance)}{a1:Instance}{r:Bool}(hr:q9y a0 a1=some r):Ok Tryz.prog 64 [.d m (.sl 2 (a0.map Instance.D)),Instance.x .fz a1] [] (dB r) []:=by
 refine OE Tryz.func64 fun S hS=>?_
 unfold q9y at hr
 refine J g<|J (BX' 0)<|bdE hr fun y1 hy1 hr=>J g<|J (CB' [] [] (z2V (m:=m) hy1))<|e
theorem z9u {m:Md}{a0:(List TraceStep)}{a1:Int}{r:Int}(hr:q9z a0 a1=some r):Ok Tryz.prog 63 [.d m (.sl 3 (a0.map TraceStep.D)),dI a1] [] (dI r) []:=by
 refine OE Tryz.func63 fun S hS=>?_
 unfold q9z at hr
 refine J g<|J (OB' _ (z3A (p:=a0.length) (k:=1) (by decide)))<|bdE hr fun y1 hy1 hr=>J (CB' [] [] (q4b hy1))<|J (gn 2)<|ifE hr ?_ ?_<;>intro h1 hr
 refine ggE hr fun g1 hr=>bdE hr fun s1 hqq1 hr=>J (gn 14)<|q0g 0 [(5,dI s1)] [] ?_ ?_
 refine J g<|q0h hqq1 0 (fun (s2,s3)=>[(0,.d m (.sl 3 (a0.map TraceStep.D))),(1,dI a1),(5,dI s2),(6,dI s3)]) (fun (s2,s3)=>[]) I fun sk1 ok1 hr hik1=>?_
 obtain⟨s2,s3⟩:=sk1
 have hr:=hr
 refine J (gn 8)<|ifE hr ?_ ?_<;>intro h2 hr
 refine bdE hr fun s4 hqq2 hr=>J (gn 3)<|q0g 0 [(0,.d m (.sl 3 (a0.map TraceStep.D))),(1,dI a1),(5,dI s4),(6,dI s3)] [] ?_ ?_
 replace hr:=hqq2
 refine ggE hr fun g2 hr=>bdE hr fun x1 hx1 hr=>ggE hr fun g3 hr=>bdE hr fun x2 hx2 hr=>bdE hr fun y2 hy2 hr=>J g<|J (CB' [] [] (z6m (m:=m) hy2))<|J (gn 1)<|ifE hr ?_ ?_<;>intro h3 hr
 exact e
 exact e
 refine ggE hr fun g4 hr=>e
 refine J (gn 2) ?_
 cases hr
 cases hik1 _ rfl
 exact q0c hS 0
 exact e
 exact e
theorem z5I {m:Md}{a0:(List TraceStep)}{a1:(List Instance)}{a2:(List Int)}{r:Bool}(hr:q6C a0 a1 a2=some r):Ok Tryz.prog 31 [.d m (.sl 3 (a0.map TraceStep.D)),.d m (.sl 2 (a1.map Instance.D)),.d m (.sl 1 (a2.map (A.D.i .i64)))] [] (dB r) []:=by
 refine OE Tryz.func31 fun S hS=>?_
 unfold q6C at hr
 refine J (gn 13)<|ifE hr ?_ ?_<;>intro h1 hr
 refine J (gn 8)<|J (lenT 2)<|fun hl1=>bdE hr fun q1 hqq1 hr=>q0b hqq1 hl1 0 (fun k1 _=>[(0,.d m (.sl 3 (a0.map TraceStep.D))),(1,.d m (.sl 2 (a1.map Instance.D))),(2,.d m (.sl 1 (a2.map (A.D.i .i64)))),(7,dI (k1:Int))]) (fun k1 _=>[]) I (fun k1 xk1 sk1 ok1 hxk1 hr hltk1 hik1=>?_) fun k1 sk1 ek1 hltk1=>?_
 refine J (gn 21)<|ifE hr ?_ ?_<;>intro h2 hr
 exact e
 refine J (gn 7)<|J (rngT 7)<|fun hl2=>bdE hr fun q2 hqq2 hr=>q0p hqq2 0 (fun k2 _=>[(0,.d m (.sl 3 (a0.map TraceStep.D))),(1,.d m (.sl 2 (a1.map Instance.D))),(2,.d m (.sl 1 (a2.map (A.D.i .i64)))),(7,dI (k1:Int)),(8,dI (k2:Int))]) (fun k2 _=>[]) I (fun k2 sk2 ok2 hr hltk2 hik2=>?_) fun sk2 ek2=>?_
 refine bdE hr fun x1 hx1 hr=>J (gn 22)<|ifE hr ?_ ?_<;>intro h3 hr
 refine bdE hr fun y1 hy1 hr=>J g<|J (CB' [] [] (z9u (m:=m) hy1))<|J (gn 2)<|ifE hr ?_ ?_<;>intro h4 hr
 exact e
 refine bdE hr fun x2 hx2 hr=>bdE hr fun y2 hy2 hr=>J g<|J (CB' [] [] (z6m (m:=m) hy2))<|J (gn 3)<|ifE hr ?_ ?_<;>intro h5 hr
 exact e
 exact e
 exact e
 subst ek2
 exact e
 subst ek1
 exact e
 exact e
theorem q9Y {m:Md}{a0:Tree}{a1:Int}{r:Int}(hr:q5p a0 a1=some r):Ok Tryz.prog 66 [Tree.x m a0,dI a1] [] (dI r) []:=by
 refine OE Tryz.func66 fun S hS=>?_
 unfold q5p at hr
 refine J g<|J (BX' 0)<|J (gn 8)<|J (lenA 0 0)<|fun hl1=>bdE hr fun q1 hqq1 hr=>q0b hqq1 hl1 1 (fun k1 _=>[(1,dI a1),(2,.pb 0 0),(5,dI (k1:Int))]) (fun k1 _=>[]) I (fun k1 xk1 sk1 ok1 hxk1 hr hltk1 hik1=>?_) fun k1 sk1 ek1 hltk1=>?_
 refine J (gn 24)<|ifE hr ?_ ?_<;>intro h1 hr
 exact e
 exact e
 subst ek1
 exact e
theorem z9v {rec_sl4Copy:Expr→Option Expr}(ih_sl4Copy:∀ {m:Md} {a0:Expr} {r:Expr},rec_sl4Copy a0=some r→Ok Tryz.prog 115 [Expr.x m a0] [] (.ag [dI r.Kind,dI r.N,dI r.Pos,dI r.Type_,dS r.Symbol,dS r.Name,.ref 0 none]) [.row .fz 7 (r.Args.map Expr.D)]){m:Md}{a0:Expr}{r:Expr}(hr:q6D rec_sl4Copy a0=some r):Ok Tryz.prog 115 [Expr.x m a0] [] (.ag [dI r.Kind,dI r.N,dI r.Pos,dI r.Type_,dS r.Symbol,dS r.Name,.ref 0 none]) [.row .fz 7 (r.Args.map Expr.D)]:=by
 refine OE Tryz.func115 fun S hS=>?_
 unfold q6D at hr
 refine J g<|J (BX' 0)<|J (NV' 1)<|J g<|J (L0' 2 Expr.D)<|J (gn 8)<|J (lenA 6 0)<|fun hl1=>bdE hr fun s1 hqq1 hr=>q0d hqq1 hl1 3 (fun k1 s1=>[(1,.pb 0 0),(2,.pb 1 0),(3,.ref 2 none),(4,dI (k1:Int))]) (fun k1 s1=>[(2,.row .fz 7 (s1.map Expr.D))]) I (fun k1 xk1 sk1 ok1 hxk1 hr hltk1=>?_) fun k1 hltk1=>?_
 obtain⟨s1,rfl⟩:∃ y,y=sk1:=⟨_,rfl⟩
 refine bdE hr fun y1 hy1 hr=>J g<|J (CB' [(0,3)] [] (ih_sl4Copy (m:=m) hy1)) ?_
 refine J (q0s 3 rfl) ?_
 refine J (j6R 4 (m:=.fz) (f:=Expr.D) [y1] (by simp only [List.map_cons,List.map_nil,Expr.D_eq]; rfl))<|ggE hr fun g1 hr=>J (AP1' 5 .fz 88 g1)<|J g<|E
 exact e
theorem z9w (n:Nat):∀ {m:Md} {a0:Expr} {r:Expr},q4w n a0=some r→Ok Tryz.prog 115 [Expr.x m a0] [] (.ag [dI r.Kind,dI r.N,dI r.Pos,dI r.Type_,dS r.Symbol,dS r.Name,.ref 0 none]) [.row .fz 7 (r.Args.map Expr.D)]:=by
  induction n with
  | zero=>intro _ _ r hr; exact nomatch (show (none:Option Expr)=some r from hr)
  | succ n ih=>intro _ _ r hr; exact z9v ih hr
theorem z1n {m:Md}{a0:Expr}{r:Expr}(hr:q8n a0=some r):Ok Tryz.prog 115 [Expr.x m a0] [] (.ag [dI r.Kind,dI r.N,dI r.Pos,dI r.Type_,dS r.Symbol,dS r.Name,.ref 0 none]) [.row .fz 7 (r.Args.map Expr.D)]:=by
 obtain⟨n,hn⟩:=q4j hr
 exact z9w n hn
theorem j1r {m:Md}{a0:Rule}{r:Rule}(hr:q9A a0=some r):Ok Tryz.prog 114 [Rule.x m a0] [] (.ag [dS r.Name,dS r.Left,.ref 0 none,dB r.Literal,.ref 1 none,.ref 2 none]) [.row .fz 1 (r.Right.map A.D.s),.row .fz 9 (r.Equations.map Equation.D),.row .fz 16 (r.Contributions.map Contribution.D)]:=by
 refine OE Tryz.func114 fun S hS=>?_
 unfold q9A at hr
 refine J g<|J (BX' 0)<|J (NV' 1)<|J g<|J (L0' 2 A.D.s)<|ggE hr fun g1 hr=>J g<|J (z9k (f:=A.D.s) 3 16 (fun _=>rfl) g1)<|J g<|J (NV' 4)<|J (gn 8) ?_
 refine J (q1g 4 4 5 .fz 9 rfl rfl)<|J (lenA 4 0)<|fun hl1=>bdE hr fun s1 hqq1 hr=>q0d hqq1 hl1 6 (fun k1 s1=>[(1,.pb 0 0),(2,.pb 1 0),(3,.pb 4 0),(4,dI (k1:Int))]) (fun k1 s1=>[(2,.none),(5,.row .fz 9 (s1.map Equation.D))]) I (fun k1 xk1 sk1 ok1 hxk1 hr hltk1=>?_) fun k1 hltk1=>?_
 obtain⟨s1,rfl⟩:∃ y,y=sk1:=⟨_,rfl⟩
 refine bdE hr fun y1 hy1 hr=>J g<|J (CBz' 6 [(0,6)] [] (z1n (m:=m) hy1))<|J g<|J (LIR' 7 (m:=.fz) (f:=Equation.D) (xs:=[(⟨xk1.At,y1⟩:Equation)]))<|ggE hr fun g2 hr=>J (AP1' 8 .fz 112 g2)<|e
 refine J (gn 17) ?_
 refine J (q1g 4 5 6 .fz 16 rfl rfl) ?_
 refine AW.len (.box 0 5 rfl rfl) fun hl2=>?_
 refine bdE hr fun s2 hqq2 hr=>q0d hqq2 hl2 7 (fun k2 s2=>[(1,.pb 0 0),(2,.pb 1 0),(3,.pb 4 0),(5,dI (k2:Int))]) (fun k2 s2=>[(6,.row .fz 16 (s2.map Contribution.D))]) I (fun k2 xk2 sk2 ok2 hxk2 hr hltk2=>?_) fun k2 hltk2=>?_
 obtain⟨s2,rfl⟩:∃ y,y=sk2:=⟨_,rfl⟩
 refine J g<|J (NV' 7)<|bdE hr fun y2 hy2 hr=>J g<|J (CBz' 8 [(0,8)] [] (z1n (m:=m) hy2))<|bdE hr fun y3 hy3 hr=>J g<|J (CBz' 9 [(0,9)] [] (z1n (m:=m) hy3))<|J g<|J (LIR' 10 (m:=.fz) (f:=Contribution.D) (xs:=[(⟨xk2.Symbol,xk2.Name,y2,y3⟩:Contribution)]))<|ggE hr fun g3 hr=>J (AP1' 11 .fz 208 g3)<|e
 exact e
theorem z3s {m:Md}{a0:Grammar}{a1:ByteArray}{r:(Rule × Bool)}(hr:q6Y a0 a1=some r):Ok Tryz.prog 68 [.ag [.u,.d m (.sl 6 (a0.Rules.map Rule.D))],dS a1] [] (.tu [.ag [dS r.1.Name,dS r.1.Left,.ref 0 none,dB r.1.Literal,.ref 1 none,.ref 2 none],dB r.2]) [.row .fz 1 (r.1.Right.map A.D.s),.row .fz 9 (r.1.Equations.map Equation.D),.row .fz 16 (r.1.Contributions.map Contribution.D)]:=by
 refine OE Tryz.func68 fun S hS=>?_
 unfold q6Y at hr
 refine J g<|J (BX' 0)<|J (NV' 1)<|J (gn 8)<|J (lenA 1 0)<|fun hl1=>bdE hr fun q1 hqq1 hr=>?_
 refine q0b hqq1 hl1 2 (fun k1 _=>[(1,dS a1),(2,.pb 0 0),(4,.pb 1 0),(6,dI (k1:Int))]) (fun k1 _=>[]) (GH.trans (q1G (q:=0) [.u,.d m (.sl 6 (a0.Rules.map Rule.D))] (.cons .u (.cons .rfl .nil)) rfl) I) (fun k1 xk1 sk1 ok1 hxk1 hr hltk1 hik1=>?_) fun k1 sk1 ek1 hltk1=>?_
 refine J (gn 24)<|ifE hr ?_ ?_<;>intro h1 hr
 refine bdE hr fun y1 hy1 hr=>J g<|J (CB' [(0,2),(1,3),(2,4)] [] (j1r (m:=m) hy1))<|e
 refine J (gn 7) ?_
 cases hr
 exact⟨_,rfl,GH.trans (q1G (q:=0) [.u,.d m (.sl 6 (a0.Rules.map Rule.D))] (.cons .u (.cons .rfl .nil)) rfl) (q0c hS 2)⟩
 subst ek1
 refine J (gn 18) ?_
 refine J (q0f (q0i (q:=1) (c:=2) (r:=2) .fz 1 rfl rfl rfl)) ?_
 refine J (q0f (q0i (q:=1) (c:=4) (r:=3) .fz 9 rfl rfl rfl)) ?_
 refine J (q0f (q0i (q:=1) (c:=5) (r:=4) .fz 16 rfl rfl rfl))<|J g<|E
theorem z3K {m:Md}{a0:Grammar}{a1:Tree}{a2:Int}{r:ByteArray}(hr:q5q a0 a1 a2=some r):Ok Tryz.prog 112 [.ag [.u,.d m (.sl 6 (a0.Rules.map Rule.D))],Tree.x m a1,dI a2] [] (dS r) []:=by
 refine OE Tryz.func112 fun S hS=>?_
 unfold q5q at hr
 refine J g<|J (BX' 0)<|J (BX' 1)<|J g<|J (OB' _ (z3A (p:=a1.Nodes.length) (k:=1) (by decide)))<|bdE hr fun y1 hy1 hr=>J (CB' [] [] (q4b hy1))<|J (gn 2)<|ifE hr ?_ ?_<;>intro h1 hr
 refine ggE hr fun g1 hr=>bdE hr fun x1 hx1 hr=>bdP hr fun y2 y3 hq1 hr=>J g<|J (CB' [(0,2),(1,3),(2,4)] [] (z3s (m:=m) hq1))<|J g<|J (NV' 5)<|e
 exact e
theorem z6X {m:Md}{a0:Symbol}{r:Symbol}(hr:q7v a0=some r):Ok Tryz.prog 153 [Symbol.x m a0] [] (.ag [dS r.Name,.ref 0 none]) [.row .fz 4 (r.Attributes.map Attribute.D)]:=by
 refine OE Tryz.func153 fun S hS=>?_
 unfold q7v at hr
 refine J g<|J (BX' 0)<|J (NV' 1)<|J g<|J (L0' 2 Attribute.D)<|ggE hr fun g1 hr=>J g<|J (z9k (f:=Attribute.D) 3 40 (fun _=>rfl) g1)<|e
theorem z5J {m:Md}{a0:Grammar}{a1:ByteArray}{r:(Symbol × Bool)}(hr:q6E a0 a1=some r):Ok Tryz.prog 111 [Grammar.y m a0,dS a1] [] (.tu [.ag [dS r.1.Name,.ref 0 none],dB r.2]) [.row .fz 4 (r.1.Attributes.map Attribute.D)]:=by
 refine OE Tryz.func111 fun S hS=>?_
 unfold q6E at hr
 refine J g<|J (BX' 0)<|J (NV' 1)<|J (gn 8)<|J (lenA 0 0)<|fun hl1=>bdE hr fun q1 hqq1 hr=>q0b hqq1 hl1 2 (fun k1 _=>[(1,dS a1),(2,.pb 0 0),(4,.pb 1 0),(6,dI (k1:Int))]) (fun k1 _=>[]) I (fun k1 xk1 sk1 ok1 hxk1 hr hltk1 hik1=>?_) fun k1 sk1 ek1 hltk1=>?_
 refine J (gn 24)<|ifE hr ?_ ?_<;>intro h1 hr
 refine bdE hr fun y1 hy1 hr=>J g<|J (CB' [(0,2)] [] (z6X (m:=m) hy1))<|e
 exact e
 subst ek1
 refine J (gn 18) ?_
 refine J (q0f (q0i (q:=1) (c:=1) (r:=2) .fz 4 rfl rfl rfl))<|J g<|E
theorem z2W {m:Md}{a0:Symbol}{a1:ByteArray}{r:(Attribute × Bool)}(hr:q6e a0 a1=some r):Ok Tryz.prog 113 [Symbol.x m a0,dS a1] [] (.tu [Attribute.x .fz r.1,dB r.2]) []:=by
 refine OE Tryz.func113 fun S hS=>?_
 unfold q6e at hr
 refine J g<|J (BX' 0)<|J (NV' 1)<|J (gn 8)<|J (lenA 1 0)<|fun hl1=>bdE hr fun q1 hqq1 hr=>q0b hqq1 hl1 2 (fun k1 _=>[(1,dS a1),(2,.pb 0 0),(4,.pb 1 0),(6,dI (k1:Int))]) (fun k1 _=>[]) I (fun k1 xk1 sk1 ok1 hxk1 hr hltk1 hik1=>?_) fun k1 sk1 ek1 hltk1=>?_
 refine J (gn 24)<|ifE hr ?_ ?_<;>intro h1 hr
 exact e
 exact e
 subst ek1
 exact e
theorem z4Y {m:Md}{a0:Grammar}{a1:Tree}{a2:Instance}{r:(Attribute × Bool)}(hr:q5U a0 a1 a2=some r):Ok Tryz.prog 65 [Grammar.x m a0,Tree.x m a1,Instance.x .fz a2] [] (.tu [Attribute.x .fz r.1,dB r.2]) []:=by
 refine OE Tryz.func65 fun S hS=>?_
 unfold q5U at hr
 refine J g<|J (BX' 0)<|J (BX' 1)<|J (BX' 2)<|J (NV' 3)<|bdE hr fun y1 hy1 hr=>J g<|J (CB' [] [] (q9Y (m:=m) hy1))<|J (gn 2)<|ifE hr ?_ ?_<;>intro h1 hr
 exact e
 refine bdE hr fun y2 hy2 hr=>J g<|J (CB' [] [] (q9Y (m:=m) hy2))<|bdE hr fun y3 hy3 hr=>J (CB' [] [] (z3K (m:=m) hy3))<|bdP hr fun y4 y5 hq1 hr=>J (CB' [(0,4)] [] (z5J (m:=m) hq1))<|J g<|J (NV' 5)<|bdP hr fun y6 y7 hq2 hr=>J g<|J (CB' [] [4] (z2W (m:=.bo) hq2))<|e
theorem z3L {m:Md}{a0:Rule}{a1:Occurrence}{r:(Expr × Bool)}(hr:q4d a0 a1=some r):Ok Tryz.prog 69 [Rule.x m a0,Occurrence.x .fz a1] [] (.tu [.ag [dI r.1.Kind,dI r.1.N,dI r.1.Pos,dI r.1.Type_,dS r.1.Symbol,dS r.1.Name,.ref 0 none],dB r.2]) [.row .fz 7 (r.1.Args.map Expr.D)]:=by
 refine OE Tryz.func69 fun S hS=>?_
 unfold q4d at hr
 refine J g<|J (BX' 0)<|J (BX' 1)<|J (NV' 2)<|J (gn 8)<|J (lenA 4 0)<|fun hl1=>bdE hr fun q1 hqq1 hr=>q0b hqq1 hl1 3 (fun k1 _=>[(2,.pb 0 0),(3,.pb 1 0),(4,.pb 2 0),(6,dI (k1:Int))]) (fun k1 _=>[]) I (fun k1 xk1 sk1 ok1 hxk1 hr hltk1 hik1=>?_) fun k1 sk1 ek1 hltk1=>?_
 refine J g ?_
 refine J (SQ' rfl rfl rfl rfl (q4G xk1.At a1))<|J (gn 1)<|ifE hr ?_ ?_<;>intro h1 hr
 refine bdE hr fun y1 hy1 hr=>J g<|J (CB' [(0,3)] [] (z1n (m:=m) hy1))<|e
 exact e
 subst ek1
 refine J (gn 18) ?_
 refine J (q0f (q0i (q:=2) (c:=6) (r:=3) .fz 7 rfl rfl rfl))<|J g<|E
theorem z3M {m:Md}{a0:Grammar}{a1:Tree}{a2:Instance}{r:(Definition × Bool)}(hr:q4K a0 a1 a2=some r):Ok Tryz.prog 32 [Grammar.x m a0,Tree.x m a1,Instance.x .fz a2] [] (.tu [.ag [dI r.1.Owner,dI r.1.Expr.Kind,dI r.1.Expr.N,dI r.1.Expr.Pos,dI r.1.Expr.Type_,dS r.1.Expr.Symbol,dS r.1.Expr.Name,.ref 0 none],dB r.2]) [.row .fz 7 (r.1.Expr.Args.map Expr.D)]:=by
 refine OE Tryz.func32 fun S hS=>?_
 unfold q4K at hr
 refine J g<|J (BX' 0)<|J (BX' 1)<|J (BX' 2)<|J (NV' 3)<|bdP hr fun y1 y2 hq1 hr=>J g<|J (CB' [] [] (z4Y (m:=m) hq1))<|J g<|J (NV' 4)<|bdE hr fun y3 hy3 hr=>J g<|J (CB' [] [] (q9Y (m:=m) hy3))<|J (gn 7)<|ifE hr ?_ ?_<;>intro h1 hr
 refine J (gn 6)<|ifE hr ?_ ?_<;>intro h2 hr
 refine J (gn 8) ?_
 refine J (q0f (q0i (q:=3) (c:=7) (r:=5) .fz 7 rfl rfl rfl))<|J g<|E
 refine bdP hr fun s1 s2 hqq2 hr=>J (gn 18)<|q0g 5 [(3,.pb 0 0),(4,.pb 1 0),(5,.pb 2 0),(6,.pb 3 0),(11,dI s1),(12,dI s2)] [] ?_ ?_
 replace hr:=hqq2
 refine ifE hr ?_ ?_<;>intro h3 hr
 refine ggE hr fun g1 hr=>bdE hr fun x1 hx1 hr=>e
 exact e
 refine J g<|J (OB' _ (z3A (p:=a1.Nodes.length) (k:=1) (by decide)))<|bdE hr fun y4 hy4 hr=>J (CB' [] [] (q4b hy4))<|J (gn 2)<|ifE hr ?_ ?_<;>intro h4 hr
 refine ggE hr fun g2 hr=>bdE hr fun x2 hx2 hr=>bdP hr fun y5 y6 hq3 hr=>J g<|J (CB' [(0,5),(1,6),(2,7)] [] (z3s (m:=m) hq3))<|J g<|J (NV' 8)<|bdP hr fun y7 y8 hq4 hr=>J g<|J (CB' [(0,9)] [5,6,7] (z3L (m:=.bo) hq4))<|J g<|J (NV' 10)<|J (gn 9)<|ifE hr ?_ ?_<;>intro h5 hr
 exact e
 refine J (gn 8) ?_
 refine J (q0f (q0i (q:=3) (c:=7) (r:=11) .fz 7 rfl rfl rfl))<|J g<|E
 refine J (gn 8) ?_
 refine J (q0f (q0i (q:=3) (c:=7) (r:=5) .fz 7 rfl rfl rfl))<|J g<|E
 refine J (gn 14) ?_
 refine J (q0f (q0i (q:=3) (c:=7) (r:=5) .fz 7 rfl rfl rfl))<|J g<|E
theorem z8l {a0:Occurrence}{a1:Occurrence}{r:Bool}(hr:q8o a0 a1=some r):Ok Tryz.prog 154 [Occurrence.x .fz a0,Occurrence.x .fz a1] [] (dB r) []:=by
 refine OE Tryz.func154 fun S hS=>?_
 unfold q8o at hr
 refine J g<|J (BX' 0)<|J (BX' 1)<|bdE hr fun s1 hqq1 hr=>J (gn 9)<|q0a 14 [(4,dB false),(23,dB s1)] ?_ ?_
 replace hr:=hqq1
 refine ifE hr ?_ ?_<;>intro h1 hr
 exact e
 refine bdE hr fun s2 hqq2 hr=>J (gn 6)<|q0a 7 [(4,dB false),(10,dB false),(22,dB s2)] ?_ ?_
 replace hr:=hqq2
 refine ifE hr ?_ ?_<;>intro h2 hr
 exact e
 exact e
 exact e
 exact e
theorem j2u {m:Md}{a0:(List Occurrence)}{a1:Occurrence}{r:(List Occurrence)}(hr:z2c a0 a1=some r):Ok Tryz.prog 116 [.d m (.sl 2 (a0.map Occurrence.D)),Occurrence.x .fz a1] [] (.d m (.sl 2 (r.map Occurrence.D))) []:=by
 refine OE Tryz.func116 fun S hS=>?_
 unfold z2c at hr
 refine J g<|J (BX' 0)<|bdE hr fun s1 hqq1 hr=>J (gn 7)<|q0g 1 [(0,.d m (.sl 2 (a0.map Occurrence.D))),(3,.pb 0 0),(5,dI s1)] [] ?_ ?_
 refine J g<|q0h hqq1 1 (fun s2=>[(0,.d m (.sl 2 (a0.map Occurrence.D))),(3,.pb 0 0),(5,dI s2)]) (fun s2=>[]) I fun sk1 ok1 hr hik1=>?_
 obtain⟨s2,rfl⟩:∃ y,y=sk1:=⟨_,rfl⟩
 have hr:=hr
 refine J (gn 7)<|ifE hr ?_ ?_<;>intro h1 hr
 refine ggE hr fun g1 hr=>bdE hr fun x1 hx1 hr=>bdE hr fun y1 hy1 hr=>J g<|J (CB' [] [] (z8l hy1))<|J (gn 2)<|ifE hr ?_ ?_<;>intro h2 hr
 refine ggE hr fun g2 hr=>e
 refine J (gn 2) ?_
 cases hr
 cases hik1 _ rfl
 exact q0c hS 1
 refine J (gn 11) ?_
 cases hr
 cases hik1 _ rfl
 exact q0c hS 1
 refine J (gn 7)<|ifE hr ?_ ?_<;>intro h3 hr
 refine ggE hr fun g3 hr=>bdE hr fun x2 hx2 hr=>J g ?_
 refine J (SQ' rfl rfl rfl rfl (q4G x2 a1))<|J (gn 2)<|ifE hr ?_ ?_<;>intro h4 hr
 exact e
 refine J g<|J (L0' 1 Occurrence.D)<|ggE hr fun g4 hr=>ggE hr fun g5 hr=>J g<|J (SLH' g4 g5)<|ggE hr fun g6 hr=>J (z9k (f:=Occurrence.D) 2 24 (fun _=>rfl) g6)<|J g<|J (LIR' 3 (m:=.fz) (f:=Occurrence.D) (xs:=[a1]))<|ggE hr fun g7 hr=>J (z5A (f:=Occurrence.D) 4 (fun _=>rfl) 24 g7)<|ggE hr fun g8 hr=>ggE hr fun g9 hr=>J g<|J (SLL' g8 g9)<|ggE hr fun g10 hr=>J (z9k (f:=Occurrence.D) 5 24 (fun _=>rfl) g10)<|J (gn 3) ?_
 refine J (q0f (q0o (r:=5) rfl)) ?_
 cases hr
 exact endA.ren [] 0 (.inr rfl) hS rfl rfl rfl (.md rfl) rfl rfl
 refine J g<|J (L0' 1 Occurrence.D)<|ggE hr fun g11 hr=>ggE hr fun g12 hr=>J g<|J (SLH' g11 g12)<|ggE hr fun g13 hr=>J (z9k (f:=Occurrence.D) 2 24 (fun _=>rfl) g13)<|J g<|J (LIR' 3 (m:=.fz) (f:=Occurrence.D) (xs:=[a1]))<|ggE hr fun g14 hr=>J (z5A (f:=Occurrence.D) 4 (fun _=>rfl) 24 g14)<|ggE hr fun g15 hr=>ggE hr fun g16 hr=>J g<|J (SLL' g15 g16)<|ggE hr fun g17 hr=>J (z9k (f:=Occurrence.D) 5 24 (fun _=>rfl) g17)<|J (gn 3) ?_
 refine J (q0f (q0o (r:=5) rfl)) ?_
 cases hr
 exact endA.ren [] 0 (.inr rfl) hS rfl rfl rfl (.md rfl) rfl rfl
theorem z9x {rec_sl4Uses:Expr→(List Occurrence)→Option (List Occurrence)}(ih_sl4Uses:∀ {m:Md} {a0:Expr} {a1:(List Occurrence)} {r:(List Occurrence)},rec_sl4Uses a0 a1=some r→Ok Tryz.prog 70 [Expr.x m a0,.d m (.sl 2 (a1.map Occurrence.D))] [] (.d m (.sl 2 (r.map Occurrence.D))) []){m:Md}{a0:Expr}{a1:(List Occurrence)}{r:(List Occurrence)}(hr:q7w rec_sl4Uses a0 a1=some r):Ok Tryz.prog 70 [Expr.x m a0,.d m (.sl 2 (a1.map Occurrence.D))] [] (.d m (.sl 2 (r.map Occurrence.D))) []:=by
 refine OE Tryz.func70 fun S hS=>?_
 unfold q7w at hr
 refine J g<|J (BX' 0)<|J (gn 9)<|ifE hr ?_ ?_<;>intro h1 hr
 refine bdE hr fun y1 hy1 hr=>J g<|J (CB' [] [] (j2u (m:=m) hy1))<|J (gn 8)<|J (lenA 6 0)<|fun hl1=>bdE hr fun s1 hqq1 hr=>q0d hqq1 hl1 1 (fun k1 s1=>[(1,.d m (.sl 2 (s1.map Occurrence.D))),(2,.pb 0 0),(5,dI (k1:Int))]) (fun k1 s1=>[]) I (fun k1 xk1 sk1 ok1 hxk1 hr hltk1=>?_) fun k1 hltk1=>?_
 obtain⟨s1,rfl⟩:∃ y,y=sk1:=⟨_,rfl⟩
 refine bdE hr fun y2 hy2 hr=>J g<|J (CB' [] [] (ih_sl4Uses (m:=m) hy2))<|e
 exact e
 refine J (gn 8)<|J (lenA 6 0)<|fun hl2=>bdE hr fun s2 hqq2 hr=>q0d hqq2 hl2 1 (fun k2 s2=>[(1,.d m (.sl 2 (s2.map Occurrence.D))),(2,.pb 0 0),(5,dI (k2:Int))]) (fun k2 s2=>[]) I (fun k2 xk2 sk2 ok2 hxk2 hr hltk2=>?_) fun k2 hltk2=>?_
 obtain⟨s2,rfl⟩:∃ y,y=sk2:=⟨_,rfl⟩
 refine bdE hr fun y3 hy3 hr=>J g<|J (CB' [] [] (ih_sl4Uses (m:=m) hy3))<|e
 exact e
theorem z9y (n:Nat):∀ {m:Md} {a0:Expr} {a1:(List Occurrence)} {r:(List Occurrence)},q4C n a0 a1=some r→Ok Tryz.prog 70 [Expr.x m a0,.d m (.sl 2 (a1.map Occurrence.D))] [] (.d m (.sl 2 (r.map Occurrence.D))) []:=by
  induction n with
  | zero=>intro _ _ _ r hr; exact nomatch (show (none:Option (List Occurrence))=some r from hr)
  | succ n ih=>intro _ _ _ r hr; exact z9x ih hr
theorem j1s {m:Md}{a0:Expr}{a1:(List Occurrence)}{r:(List Occurrence)}(hr:z4L a0 a1=some r):Ok Tryz.prog 70 [Expr.x m a0,.d m (.sl 2 (a1.map Occurrence.D))] [] (.d m (.sl 2 (r.map Occurrence.D))) []:=by
 obtain⟨n,hn⟩:=q4j hr
 exact z9y n hn
theorem z2X {m:Md}{a0:Expr}{r:(List Occurrence)}(hr:q4X a0=some r):Ok Tryz.prog 33 [Expr.x m a0] [] (.d m (.sl 2 (r.map Occurrence.D))) []:=by
 refine OE Tryz.func33 fun S hS=>?_
 unfold q4X at hr
 refine J g<|J (BX' 0)<|J g<|J (L0' 1 Occurrence.D) ?_
 refine J (q0s 1 rfl)<|bdE hr fun y1 hy1 hr=>J (CB' [] [] (j1s (m:=m) hy1))<|J g<|E
theorem z5K {m:Md}{a0:Grammar}{a1:Tree}{a2:Int}{a3:Occurrence}{r:(Instance × Bool)}(hr:q6F a0 a1 a2 a3=some r):Ok Tryz.prog 34 [.ag [.u,.u],Tree.x m a1,dI a2,Occurrence.x .fz a3] [] (.tu [Instance.x .fz r.1,dB r.2]) []:=by
 refine OE Tryz.func34 fun S hS=>?_
 unfold q6F at hr
 refine J g<|J (BX' 0)<|J (BX' 1)<|J (BX' 2)<|J (NV' 3)<|J g<|J (OB' _ (z3A (p:=a1.Nodes.length) (k:=1) (by decide)))<|bdE hr fun y1 hy1 hr=>J (CB' [] [] (q4b hy1))<|J (gn 1)<|ifE hr ?_ ?_<;>intro h1 hr
 refine ggE hr fun g1 hr=>bdE hr fun x1 hx1 hr=>bdE hr fun y2 hy2 hr=>J g<|J (CB' [] [] (q4b hy2))<|J (gn 3)<|ifE hr ?_ ?_<;>intro h2 hr
 refine J (gn 9)<|ifE hr ?_ ?_<;>intro h3 hr
 refine ggE hr fun g2 hr=>ggE hr fun g3 hr=>bdE hr fun x2 hx2 hr=>J (gn 13)<|J (q0H .refl)<|J g<|J (OB' _ (z3A (p:=a1.Nodes.length) (k:=1) (by decide)))<|bdE hr fun y3 hy3 hr=>J (CB' [] [] (q4b hy3))<|J (gn 2)<|ifE hr ?_ ?_<;>intro h4 hr
 refine ggE hr fun g4 hr=>bdE hr fun x3 hx3 hr=>e
 exact e
 refine J g<|J (OB' _ (z3A (p:=a1.Nodes.length) (k:=1) (by decide)))<|bdE hr fun y4 hy4 hr=>J (CB' [] [] (q4b hy4))<|J (gn 2)<|ifE hr ?_ ?_<;>intro h5 hr
 exact e
 exact e
 exact e
 exact e
theorem z6Y {m:Md}{a0:(List TraceStep)}{a1:Int}{a2:Instance}{r:Int}(hr:q7x a0 a1 a2=some r):Ok Tryz.prog 71 [.d m (.sl 3 (a0.map TraceStep.D)),dI a1,Instance.x .fz a2] [] (dI r) []:=by
 refine OE Tryz.func71 fun S hS=>?_
 unfold q7x at hr
 refine J g<|J (BX' 0)<|J (gn 12)<|J (rngT 1)<|fun hl1=>bdE hr fun s1 hqq1 hr=>q1D hqq1 1 (fun k1 s1=>[(0,.d m (.sl 3 (a0.map TraceStep.D))),(1,dI a1),(5,.pb 0 0),(7,dI s1),(8,dI (k1:Int))]) (fun k1 s1=>[]) I (fun k1 sk1 ok1 hr hltk1=>?_) ?_
 obtain⟨s1,rfl⟩:∃ y,y=sk1:=⟨_,rfl⟩
 refine bdE hr fun s2 hqq2 hr=>J (gn 10)<|q0g 1 [(0,.d m (.sl 3 (a0.map TraceStep.D))),(1,dI a1),(5,.pb 0 0),(7,dI s2),(8,dI (k1:Int))] [] ?_ ?_
 replace hr:=hqq2
 refine bdE hr fun x1 hx1 hr=>J g ?_
 refine J (SQ' rfl rfl rfl rfl (q8M x1.At a2))<|J (gn 1)<|ifE hr ?_ ?_<;>intro h1 hr
 exact e
 exact e
 exact e
 exact e
theorem z4Z {m:Md}{a0:(List TraceStep)}{a1:(List Int)}{a2:(List Int)}{a3:Int}{a4:Instance}{r:Int}(hr:q7Z a0 a1 a2 a3 a4=some r):Ok Tryz.prog 35 [.d m (.sl 3 (a0.map TraceStep.D)),.d m (.sl 1 (a1.map (A.D.i .i64))),.d m (.sl 1 (a2.map (A.D.i .i64))),dI a3,Instance.x .fz a4] [] (dI r) []:=by
 refine OE Tryz.func35 fun S hS=>?_
 unfold q7Z at hr
 refine J g<|J (BX' 0)<|bdE hr fun y1 hy1 hr=>J g<|J (CB' [] [] (z6Y (m:=m) hy1))<|J (gn 8)<|ifE hr ?_ ?_<;>intro h1 hr
 exact e
 refine ggE hr fun g1 hr=>bdE hr fun x1 hx1 hr=>ggE hr fun g2 hr=>bdE hr fun x2 hx2 hr=>e
theorem z9z {m:Md}{a0:Tree}{a1:Int}{r:(List Int)}(hr:q8a a0 a1=some r):Ok Tryz.prog 37 [Tree.x m a0,dI a1] [] (.ref 0 none) [.row .fz 1 (r.map (A.D.i .i64))]:=by
 refine OE Tryz.func37 fun S hS=>?_
 unfold q8a at hr
 refine J g<|J (BX' 0)<|J g<|J (L0' 1 (A.D.i .i64))<|J g<|J (OB' _ (z3A (p:=a0.Nodes.length) (k:=1) (by decide)))<|bdE hr fun y1 hy1 hr=>J (CB' [] [] (q4b hy1))<|J (gn 2)<|ifE hr ?_ ?_<;>intro h1 hr
 refine ggE hr fun g1 hr=>bdE hr fun x1 hx1 hr=>J g<|J (LIR' 2 (m:=.fz) (f:=(A.D.i .i64)) (xs:=([x1.Id]:List Int)))<|ggE hr fun g2 hr=>J (z5A (f:=(A.D.i .i64)) 3 (fun _=>rfl) 8 g2)<|J (gn 8) ?_
 refine AW.len (.el 5 (.ag 0 (.tmp 0 rfl) rfl) hx1 rfl) fun hl1=>?_
 refine bdE hr fun s1 hqq1 hr=>q0d hqq1 hl1 4 (fun k1 s1=>[(1,dI a1),(2,.pb 0 0),(5,.ref 3 none),(6,dI (k1:Int))]) (fun k1 s1=>[(1,.none),(3,.row .fz 1 (s1.map (A.D.i .i64)))]) I (fun k1 xk1 sk1 ok1 hxk1 hr hltk1=>?_) fun k1 hltk1=>?_
 obtain⟨s1,rfl⟩:∃ y,y=sk1:=⟨_,rfl⟩
 refine bdE hr fun s2 hqq2 hr=>J (gn 16)<|q0g 4 [(1,dI a1),(2,.pb 0 0),(5,.ref 3 none),(6,dI (k1:Int))] [(3,.row .fz 1 (s2.map (A.D.i .i64)))] ?_ ?_
 replace hr:=hqq2
 refine J g<|J (OB' _ (z3A (p:=a0.Nodes.length) (k:=1) (by decide)))<|bdE hr fun y2 hy2 hr=>J (CB' [] [] (q4b hy2))<|J (gn 1)<|ifE hr ?_ ?_<;>intro h2 hr
 refine ggE hr fun g3 hr=>bdE hr fun x2 hx2 hr=>J g<|J (LIR' 4 (m:=.fz) (f:=(A.D.i .i64)) (xs:=([x2.Id]:List Int)))<|ggE hr fun g4 hr=>J (z5A (f:=(A.D.i .i64)) 5 (fun _=>rfl) 8 g4)<|e
 exact e
 exact e
 exact e
 exact e
theorem z9A {rec_sl4Left:Expr→Int→Option Int}(ih_sl4Left:∀ {m:Md} {a0:Expr} {a1:Int} {r:Int},rec_sl4Left a0 a1=some r→Ok Tryz.prog 117 [Expr.x m a0,dI a1] [] (dI r) []){m:Md}{a0:Expr}{a1:Int}{r:Int}(hr:z0z rec_sl4Left a0 a1=some r):Ok Tryz.prog 117 [Expr.x m a0,dI a1] [] (dI r) []:=by
 refine OE Tryz.func117 fun S hS=>?_
 unfold z0z at hr
 refine J g<|J (BX' 0)<|ggE hr fun g1 hr=>bdE hr fun s1 hqq1 hr=>J (gn 13)<|q0g 1 [(1,dI s1)] [] ?_ ?_
 refine J g<|q0h hqq1 1 (fun (s2,s3)=>[(1,dI s2),(2,.pb 0 0),(5,dI s3)]) (fun (s2,s3)=>[]) I fun sk1 ok1 hr hik1=>?_
 obtain⟨s2,s3⟩:=sk1
 have hr:=hr
 refine J (gn 8)<|ifE hr ?_ ?_<;>intro h1 hr
 refine J (gn 5)<|ifE hr ?_ ?_<;>intro h2 hr
 refine ggE hr fun g2 hr=>bdE hr fun x1 hx1 hr=>bdE hr fun y1 hy1 hr=>J g<|J (CB' [] [] (ih_sl4Left (m:=m) hy1))<|ggE hr fun g3 hr=>e
 refine J (gn 2) ?_
 cases hr
 cases hik1 _ rfl
 exact q0c hS 1
 refine J (gn 7) ?_
 cases hr
 cases hik1 _ rfl
 exact q0c hS 1
 exact e
theorem z9B (n:Nat):∀ {m:Md} {a0:Expr} {a1:Int} {r:Int},q8q n a0 a1=some r→Ok Tryz.prog 117 [Expr.x m a0,dI a1] [] (dI r) []:=by
  induction n with
  | zero=>intro _ _ _ r hr; exact nomatch (show (none:Option Int)=some r from hr)
  | succ n ih=>intro _ _ _ r hr; exact z9A ih hr
theorem j1t {m:Md}{a0:Expr}{a1:Int}{r:Int}(hr:z4M a0 a1=some r):Ok Tryz.prog 117 [Expr.x m a0,dI a1] [] (dI r) []:=by
 obtain⟨n,hn⟩:=q4j hr
 exact z9B n hn
theorem z2k {a0:Int}{a1:Int}{r:Int}(hr:q8S a0 a1=some r):Ok Tryz.prog 155 [dI a0,dI a1] [] (dI r) []:=by
 refine OE Tryz.func155 fun S hS=>?_
 unfold q8S at hr
 refine J (gn 11)<|ifE hr ?_ ?_<;>intro h1 hr
 exact e
 exact e
theorem z3N {rec_sDepthOfExpr:Expr→Option Int}(ih_sDepthOfExpr:∀ {m:Md} {a0:Expr} {r:Int},rec_sDepthOfExpr a0=some r→Ok Tryz.prog 118 [Expr.x m a0] [] (dI r) []){m:Md}{a0:Expr}{r:Int}(hr:q5V rec_sDepthOfExpr a0=some r):Ok Tryz.prog 118 [Expr.x m a0] [] (dI r) []:=by
 refine OE Tryz.func118 fun S hS=>?_
 unfold q5V at hr
 refine J g<|J (BX' 0)<|J (gn 12)<|J (lenA 6 0)<|fun hl1=>bdE hr fun s1 hqq1 hr=>q0d hqq1 hl1 1 (fun k1 s1=>[(1,.pb 0 0),(3,dI s1),(4,dI (k1:Int))]) (fun k1 s1=>[]) I (fun k1 xk1 sk1 ok1 hxk1 hr hltk1=>?_) fun k1 hltk1=>?_
 obtain⟨s1,rfl⟩:∃ y,y=sk1:=⟨_,rfl⟩
 refine bdE hr fun y1 hy1 hr=>J g<|J (CB' [] [] (ih_sDepthOfExpr (m:=m) hy1))<|bdE hr fun y2 hy2 hr=>J (CB' [] [] (z2k hy2))<|e
 refine ggE hr fun g1 hr=>e
theorem z3O (n:Nat):∀ {m:Md} {a0:Expr} {r:Int},q4p n a0=some r→Ok Tryz.prog 118 [Expr.x m a0] [] (dI r) []:=by
  induction n with
  | zero=>intro _ _ r hr; exact nomatch (show (none:Option Int)=some r from hr)
  | succ n ih=>intro _ _ r hr; exact z3N ih hr
theorem z5a {m:Md}{a0:Expr}{r:Int}(hr:q9m a0=some r):Ok Tryz.prog 118 [Expr.x m a0] [] (dI r) []:=by
 obtain⟨n,hn⟩:=q4j hr
 exact z3O n hn
theorem j1u {m:Md}{a0:Expr}{r:Bool}(hr:z0A a0=some r):Ok Tryz.prog 190 [Expr.x m a0] [] (dB r) []:=by
 refine OE Tryz.func190 fun S hS=>?_
 unfold z0A at hr
 refine J g<|J (BX' 0)<|bdE hr fun s1 hqq1 hr=>J (gn 12)<|q0g 1 [(1,.pb 0 0),(3,dI s1)] [] ?_ ?_
 replace hr:=hqq1
 refine J (gn 6)<|ifE hr ?_ ?_<;>intro h1 hr
 exact e
 refine J (gn 6)<|ifE hr ?_ ?_<;>intro h2 hr
 exact e
 refine J (gn 6)<|ifE hr ?_ ?_<;>intro h3 hr
 exact e
 exact e
 refine J (gn 9)<|ifE hr ?_ ?_<;>intro h4 hr
 refine bdE hr fun s2 hqq2 hr=>J (gn 7)<|q0a 5 [(1,.pb 0 0),(27,dB s2)] ?_ ?_
 replace hr:=hqq2
 refine ifE hr ?_ ?_<;>intro h5 hr
 exact e
 exact e
 refine bdE hr fun s3 hqq3 hr=>J (gn 7)<|q0a 5 [(1,.pb 0 0),(4,dB s2),(35,dB s3)] ?_ ?_
 replace hr:=hqq3
 refine ifE hr ?_ ?_<;>intro h6 hr
 exact e
 exact e
 refine bdE hr fun s4 hqq4 hr=>J (gn 7)<|q0a 5 [(1,.pb 0 0),(4,dB s2),(5,dB s3),(43,dB s4)] ?_ ?_
 replace hr:=hqq4
 refine ifE hr ?_ ?_<;>intro h7 hr
 exact e
 exact e
 refine bdE hr fun s5 hqq5 hr=>J (gn 5)<|q0a 5 [(1,.pb 0 0),(5,dB s3),(6,dB s4),(49,dB s5)] ?_ ?_
 replace hr:=hqq5
 refine ifE hr ?_ ?_<;>intro h8 hr
 exact e
 exact e
 refine bdE hr fun s6 hqq6 hr=>q0a 8 [(1,.pb 0 0),(6,dB s4),(57,dB s6)] ?_ ?_
 replace hr:=hqq6
 refine ifE hr ?_ ?_<;>intro h9 hr
 refine bdE hr fun s7 hqq7 hr=>J (gn 2)<|q0a 5 [(1,.pb 0 0),(6,dB s4),(50,dB true),(56,dB s7)] ?_ ?_
 replace hr:=hqq7
 refine ifE hr ?_ ?_<;>intro h10 hr
 exact e
 exact e
 exact e
 exact e
 refine bdE hr fun s8 hqq8 hr=>q0a 8 [(1,.pb 0 0),(65,dB s8)] ?_ ?_
 replace hr:=hqq8
 refine ifE hr ?_ ?_<;>intro h11 hr
 refine bdE hr fun s9 hqq9 hr=>J (gn 2)<|q0a 5 [(1,.pb 0 0),(58,dB true),(64,dB s9)] ?_ ?_
 replace hr:=hqq9
 refine ifE hr ?_ ?_<;>intro h12 hr
 exact e
 exact e
 exact e
 exact e
 refine bdE hr fun s10 hqq10 hr=>q0a 10 [(1,.pb 0 0),(75,dB s10)] ?_ ?_
 replace hr:=hqq10
 refine ifE hr ?_ ?_<;>intro h13 hr
 refine bdE hr fun s11 hqq11 hr=>J (gn 4)<|q0a 5 [(1,.pb 0 0),(66,dB true),(74,dB s11)] ?_ ?_
 replace hr:=hqq11
 refine ifE hr ?_ ?_<;>intro h14 hr
 exact e
 exact e
 exact e
 exact e
 refine bdE hr fun s12 hqq12 hr=>q0a 10 [(85,dB s12)] ?_ ?_
 replace hr:=hqq12
 refine ifE hr ?_ ?_<;>intro h15 hr
 refine bdE hr fun s13 hqq13 hr=>J (gn 4)<|q0a 5 [(76,dB true),(84,dB s13)] ?_ ?_
 replace hr:=hqq13
 refine ifE hr ?_ ?_<;>intro h16 hr
 exact e
 exact e
 exact e
 exact e
 exact e
 exact e
theorem z8m {a0:Int}{a1:Int}{r:Int}(hr:z1i a0 a1=some r):Ok Tryz.prog 160 [dI a0,dI a1] [] (dI r) []:=by
 refine OE Tryz.func160 fun S hS=>?_
 unfold z1i at hr
 refine J (gn 11)<|ifE hr ?_ ?_<;>intro h1 hr
 exact e
 exact e
theorem q9d {a0:Int}{r:Int}(hr:q5r a0=some r):Ok Tryz.prog 159 [dI a0] [] (dI r) []:=by
 refine OE Tryz.func159 fun S hS=>?_
 unfold q5r at hr
 refine bdE hr fun y1 hy1 hr=>J g<|J (CB' [] [] (z8m hy1))<|bdE hr fun y2 hy2 hr=>J (CB' [] [] (z2k hy2))<|e
theorem q8E {a0:Bool}{r:Int}(hr:q5H a0=some r):Ok Tryz.prog 161 [dB a0] [] (dI r) []:=by
 refine OE Tryz.func161 fun S hS=>?_
 unfold q5H at hr
 refine J (gn 9)<|ifE hr ?_ ?_<;>intro h1 hr
 exact e
 exact e
theorem z2Y {a0:Int}{a1:Int}{r:Int}(hr:q8s a0 a1=some r):Ok Tryz.prog 158 [dI a0,dI a1] [] (dI r) []:=by
 refine OE Tryz.func158 fun S hS=>?_
 unfold q8s at hr
 refine J (gn 15)<|ifE hr ?_ ?_<;>intro h1 hr
 refine bdE hr fun y1 hy1 hr=>J g<|J (CB' [] [] (q9d hy1))<|e
 refine J (gn 6)<|ifE hr ?_ ?_<;>intro h2 hr
 refine J g<|J (OB' _ j6K)<|e
 refine J (gn 6)<|ifE hr ?_ ?_<;>intro h3 hr
 refine bdE hr fun y2 hy2 hr=>J g<|J (CB' [] [] (q8E hy2))<|e
 refine J (gn 6)<|ifE hr ?_ ?_<;>intro h4 hr
 refine bdE hr fun y3 hy3 hr=>J g<|J (CB' [] [] (q4b hy3))<|J (gn 1)<|ifE hr ?_ ?_<;>intro h5 hr
 exact e
 exact e
 exact e
theorem z8n {a0:Int}{a1:Int}{r:Bool}(hr:q8t a0 a1=some r):Ok Tryz.prog 191 [dI a0,dI a1] [] (dB r) []:=by
 refine OE Tryz.func191 fun S hS=>?_
 unfold q8t at hr
 refine bdE hr fun y1 hy1 hr=>J g<|J (CB' [] [] (q4b hy1))<|ifE hr ?_ ?_<;>intro h1 hr
 refine bdE hr fun y2 hy2 hr=>J g<|J (CB' [] [] (z2Y hy2))<|e
 exact e
theorem z9C {a0:ByteArray}{r:Bool}(hr:z1j a0=some r):Ok Tryz.prog 207 [dS a0] [] (dB r) []:=by
 refine OE Tryz.func207 fun S hS=>?_
 unfold z1j at hr
 refine J (gn 10) ?_
 refine q2C (.tmp 0 rfl) fun ht1=>?_
 have hl1:rngI .i64 (a0.size:Int):=j3v ht1
 refine bdE hr fun q1 hqq1 hr=>q0p hqq1 0 (fun k1 _=>[(0,dS a0),(3,dI (k1:Int))]) (fun k1 _=>[]) I (fun k1 sk1 ok1 hr hltk1 hik1=>?_) fun sk1 ek1=>?_
 refine J g<|J LS'<|bdE hr fun x1 hx1 hr=>J g ?_
 refine J (SI' rfl rfl (Int.natCast_nonneg _) hx1)<|bdE hr fun s1 hqq2 hr=>J (gn 1)<|q0a 6 [(0,dS a0),(3,dI (k1:Int)),(21,dB s1)] ?_ ?_
 replace hr:=hqq2
 refine ifE hr ?_ ?_<;>intro h1 hr
 refine J g ?_
 refine J (SI' rfl rfl (Int.natCast_nonneg _) hx1)<|J g<|E
 exact e
 refine J g ?_
 refine J (SI' rfl rfl (Int.natCast_nonneg _) hx1)<|bdE hr fun s2 hqq3 hr=>J (gn 1)<|q0a 6 [(0,dS a0),(3,dI (k1:Int)),(4,dB s1),(31,dB s2)] ?_ ?_
 replace hr:=hqq3
 refine ifE hr ?_ ?_<;>intro h2 hr
 refine J g ?_
 refine J (SI' rfl rfl (Int.natCast_nonneg _) hx1)<|J g<|E
 exact e
 refine bdE hr fun s3 hqq4 hr=>J (gn 6)<|q0a 8 [(0,dS a0),(3,dI (k1:Int)),(41,dB s3)] ?_ ?_
 replace hr:=hqq4
 refine ifE hr ?_ ?_<;>intro h3 hr
 exact e
 refine bdP hr fun s4 s5 hqq5 hr=>J (gn 3)<|q0a 4 [(0,dS a0),(3,dI (k1:Int)),(34,dB true),(35,dI (k1:Int)),(36,dB (decide ((k1:Int)=0))),(37,dB s4),(40,dB s5)] ?_ ?_
 replace hr:=hqq5
 refine ifE hr ?_ ?_<;>intro h4 hr
 exact e
 exact e
 exact e
 refine J (gn 1)<|ifE hr ?_ ?_<;>intro h5 hr
 exact e
 exact e
 subst ek1
 refine J g<|J LS'<|J g<|J LS'<|e
theorem z5L {r:(List ByteArray)}(hr:q7Q=some r):Ok Tryz.prog 213 [] [] (.ref 0 none) [.row .fz 1 (r.map A.D.s)]:=by
 refine OE Tryz.func213 fun S hS=>?_
 unfold q7Q at hr
 refine J g<|J (LIR' 0 (m:=.fz) (f:=A.D.s) (xs:=[(⟨#[105,102]⟩:ByteArray),(⟨#[116,104,101,110]⟩:ByteArray),(⟨#[101,108,115,101]⟩:ByteArray),(⟨#[116,114,117,101]⟩:ByteArray),(⟨#[102,97,108,115,101]⟩:ByteArray),(⟨#[108,105,116]⟩:ByteArray),(⟨#[110,111,110,101]⟩:ByteArray),(⟨#[115,101,108,102]⟩:ByteArray),(⟨#[111,102]⟩:ByteArray),(⟨#[109,97,120]⟩:ByteArray),(⟨#[109,105,110]⟩:ByteArray),(⟨#[119,105,116,104]⟩:ByteArray),(⟨#[104,97,115]⟩:ByteArray)]))<|e
theorem j2v {m:Md}{a0:(List ByteArray)}{a1:ByteArray}{r:Bool}(hr:z2d a0 a1=some r):Ok Tryz.prog 212 [.d m (.sl 1 (a0.map A.D.s)),dS a1] [] (dB r) []:=by
 refine OE Tryz.func212 fun S hS=>?_
 unfold z2d at hr
 refine J (gn 10)<|J (lenT 0)<|fun hl1=>bdE hr fun q1 hqq1 hr=>q0b hqq1 hl1 0 (fun k1 _=>[(0,.d m (.sl 1 (a0.map A.D.s))),(1,dS a1),(5,dI (k1:Int))]) (fun k1 _=>[]) I (fun k1 xk1 sk1 ok1 hxk1 hr hltk1 hik1=>?_) fun k1 sk1 ek1 hltk1=>?_
 refine J (gn 21)<|ifE hr ?_ ?_<;>intro h1 hr
 exact e
 exact e
 subst ek1
 exact e
theorem z5M {a0:ByteArray}{r:Bool}(hr:q6G a0=some r):Ok Tryz.prog 208 [dS a0] [] (dB r) []:=by
 refine OE Tryz.func208 fun S hS=>?_
 unfold q6G at hr
 refine bdE hr fun y1 hy1 hr=>J g<|J (CB' [(0,0)] [] (z5L hy1))<|bdE hr fun y2 hy2 hr=>J g<|J (CB' [] [0] (j2v (m:=.bo) hy2))<|e
theorem q8F {a0:ByteArray}{r:Bool}(hr:q4H a0=some r):Ok Tryz.prog 192 [dS a0] [] (dB r) []:=by
 refine OE Tryz.func192 fun S hS=>?_
 unfold q4H at hr
 refine bdE hr fun y1 hy1 hr=>J g<|J (CB' [] [] (z9C hy1))<|bdE hr fun s1 hqq1 hr=>q0a 5 [(0,dS a0),(2,dB false),(9,dB s1)] ?_ ?_
 replace hr:=hqq1
 refine ifE hr ?_ ?_<;>intro h1 hr
 refine J g<|J LS'<|e
 exact e
 refine bdE hr fun s2 hqq2 hr=>q0a 5 [(2,dB false),(14,dB s2)] ?_ ?_
 replace hr:=hqq2
 refine ifE hr ?_ ?_<;>intro h2 hr
 refine bdE hr fun y2 hy2 hr=>J g<|J (CB' [] [] (z5M hy2))<|e
 exact e
 exact e
theorem j1v {m:Md}{a0:Expr}{r:Bool}(hr:z0B a0=some r):Ok Tryz.prog 156 [Expr.x m a0] [] (dB r) []:=by
 refine OE Tryz.func156 fun S hS=>?_
 unfold z0B at hr
 refine J g<|J (BX' 0)<|bdE hr fun y1 hy1 hr=>J g<|J (CB' [] [] (q4b hy1))<|bdE hr fun s1 hqq1 hr=>J (gn 1)<|q0a 5 [(1,.pb 0 0),(11,dB s1)] ?_ ?_
 replace hr:=hqq1
 refine ifE hr ?_ ?_<;>intro h1 hr
 refine bdE hr fun y2 hy2 hr=>J g<|J (CB' [] [] (j1u (m:=m) hy2))<|e
 exact e
 refine J (gn 1)<|ifE hr ?_ ?_<;>intro h2 hr
 exact e
 refine J (gn 14)<|ifE hr ?_ ?_<;>intro h3 hr
 refine bdE hr fun y3 hy3 hr=>J g<|J (CB' [] [] (q4b hy3))<|bdE hr fun s2 hqq2 hr=>q0a 7 [(1,.pb 0 0),(25,dB s2)] ?_ ?_
 replace hr:=hqq2
 refine ifE hr ?_ ?_<;>intro h4 hr
 refine bdE hr fun y4 hy4 hr=>J g<|J (CB' [] [] (z8n hy4))<|e
 exact e
 refine bdE hr fun s3 hqq3 hr=>q0a 5 [(30,dB s3)] ?_ ?_
 replace hr:=hqq3
 refine ifE hr ?_ ?_<;>intro h5 hr
 exact e
 exact e
 exact e
 refine J (gn 6)<|ifE hr ?_ ?_<;>intro h6 hr
 refine bdE hr fun y5 hy5 hr=>J g<|J (CB' [] [] (q4b hy5))<|bdE hr fun s4 hqq4 hr=>q0a 5 [(40,dB s4)] ?_ ?_
 replace hr:=hqq4
 refine ifE hr ?_ ?_<;>intro h7 hr
 refine bdE hr fun y6 hy6 hr=>J g<|J (CB' [] [] (q8F hy6))<|e
 exact e
 exact e
 refine J (gn 6)<|ifE hr ?_ ?_<;>intro h8 hr
 refine bdE hr fun y7 hy7 hr=>J g<|J (CB' [] [] (q4b hy7))<|e
 refine J (gn 6)<|ifE hr ?_ ?_<;>intro h9 hr
 refine bdE hr fun y8 hy8 hr=>J g<|J (CB' [] [] (q4b hy8))<|e
 refine J (gn 6)<|ifE hr ?_ ?_<;>intro h10 hr
 refine bdE hr fun y9 hy9 hr=>J g<|J (CB' [] [] (q8F hy9))<|bdE hr fun s5 hqq5 hr=>q0a 5 [(60,dB s5)] ?_ ?_
 replace hr:=hqq5
 refine ifE hr ?_ ?_<;>intro h11 hr
 refine bdE hr fun y10 hy10 hr=>J g<|J (CB' [] [] (q8F hy10))<|e
 exact e
 exact e
 exact e
theorem j1w {rec_sl4All:Expr→Option Bool}(ih_sl4All:∀ {m:Md} {a0:Expr} {r:Bool},rec_sl4All a0=some r→Ok Tryz.prog 119 [Expr.x m a0] [] (dB r) []){m:Md}{a0:Expr}{r:Bool}(hr:z2e rec_sl4All a0=some r):Ok Tryz.prog 119 [Expr.x m a0] [] (dB r) []:=by
 refine OE Tryz.func119 fun S hS=>?_
 unfold z2e at hr
 refine J g<|J (BX' 0)<|J (gn 8)<|J (lenA 6 0)<|fun hl1=>bdE hr fun q1 hqq1 hr=>q0b hqq1 hl1 1 (fun k1 _=>[(1,.pb 0 0),(3,dI (k1:Int))]) (fun k1 _=>[]) I (fun k1 xk1 sk1 ok1 hxk1 hr hltk1 hik1=>?_) fun k1 sk1 ek1 hltk1=>?_
 refine bdE hr fun y1 hy1 hr=>J g<|J (CB' [] [] (ih_sl4All (m:=m) hy1))<|J (gn 2)<|ifE hr ?_ ?_<;>intro h1 hr
 exact e
 exact e
 subst ek1
 refine bdE hr fun y2 hy2 hr=>J g<|J (CB' [] [] (j1v (m:=m) hy2))<|e
theorem j1x (n:Nat):∀ {m:Md} {a0:Expr} {r:Bool},z2f n a0=some r→Ok Tryz.prog 119 [Expr.x m a0] [] (dB r) []:=by
  induction n with
  | zero=>intro _ _ r hr; exact nomatch (show (none:Option Bool)=some r from hr)
  | succ n ih=>intro _ _ r hr; exact j1w ih hr
theorem j2w {m:Md}{a0:Expr}{r:Bool}(hr:z6P a0=some r):Ok Tryz.prog 119 [Expr.x m a0] [] (dB r) []:=by
 obtain⟨n,hn⟩:=q4j hr
 exact j1x n hn
theorem z5b {m:Md}{a0:Expr}{r:Bool}(hr:q5W a0=some r):Ok Tryz.prog 72 [Expr.x m a0] [] (dB r) []:=by
 refine OE Tryz.func72 fun S hS=>?_
 unfold q5W at hr
 refine J g<|J (BX' 0)<|bdE hr fun y1 hy1 hr=>J g<|J (CB' [] [] (j1t (m:=m) hy1))<|bdE hr fun s1 hqq1 hr=>J (gn 1)<|q0a 5 [(1,.pb 0 0),(2,dB false),(10,dB s1)] ?_ ?_
 replace hr:=hqq1
 refine ifE hr ?_ ?_<;>intro h1 hr
 refine bdE hr fun y2 hy2 hr=>J g<|J (CB' [] [] (z5a (m:=m) hy2))<|e
 exact e
 refine bdE hr fun s2 hqq2 hr=>q0a 4 [(2,dB false),(14,dB s2)] ?_ ?_
 replace hr:=hqq2
 refine ifE hr ?_ ?_<;>intro h2 hr
 refine bdE hr fun y3 hy3 hr=>J g<|J (CB' [] [] (j2w (m:=m) hy3))<|e
 exact e
 exact e
theorem z6Z {m:Md}{a0:(List Slot)}{a1:Occurrence}{r:Int}(hr:q8T a0 a1=some r):Ok Tryz.prog 120 [.d m (.sl 3 (a0.map Slot.D)),Occurrence.x .fz a1] [] (dI r) []:=by
 refine OE Tryz.func120 fun S hS=>?_
 unfold q8T at hr
 refine J g<|J (BX' 0)<|J (gn 8)<|J (lenT 0)<|fun hl1=>bdE hr fun q1 hqq1 hr=>q0b hqq1 hl1 1 (fun k1 _=>[(0,.d m (.sl 3 (a0.map Slot.D))),(3,.pb 0 0),(5,dI (k1:Int))]) (fun k1 _=>[]) I (fun k1 xk1 sk1 ok1 hxk1 hr hltk1 hik1=>?_) fun k1 sk1 ek1 hltk1=>?_
 refine J g ?_
 refine J (SQ' rfl rfl rfl rfl (q4G xk1.At a1))<|J (gn 1)<|ifE hr ?_ ?_<;>intro h1 hr
 exact e
 exact e
 subst ek1
 exact e
theorem z3P {a0:Int}{r:(Int × Int × Int)}(hr:q5s a0=some r):Ok Tryz.prog 157 [dI a0] [] (.tu [dI r.1,dI r.2.1,dI r.2.2]) []:=by
 refine OE Tryz.func157 fun S hS=>?_
 unfold q5s at hr
 refine bdE hr fun y1 hy1 hr=>J g<|J (CB' [] [] (q4b hy1))<|J (gn 2)<|ifE hr ?_ ?_<;>intro h1 hr
 exact e
 refine bdE hr fun y2 hy2 hr=>J g<|J (CB' [] [] (q4b hy2))<|J (gn 2)<|ifE hr ?_ ?_<;>intro h2 hr
 exact e
 refine J (gn 5)<|ifE hr ?_ ?_<;>intro h3 hr
 exact e
 refine J (gn 6)<|ifE hr ?_ ?_<;>intro h4 hr
 exact e
 refine J (gn 7)<|ifE hr ?_ ?_<;>intro h5 hr
 exact e
 refine J (gn 7)<|ifE hr ?_ ?_<;>intro h6 hr
 exact e
 exact e
theorem z9D {a0:Int}{a1:Int}{a2:Int}{r:Int}(hr:q9B a0 a1 a2=some r):Ok Tryz.prog 121 [dI a0,dI a1,dI a2] [] (dI r) []:=by
 refine OE Tryz.func121 fun S hS=>?_
 unfold q9B at hr
 refine bdT hr fun y1 y2 y3 hq1 hr=>J g<|J (CB' [] [] (z3P hq1))<|bdE hr fun y4 hy4 hr=>J g<|J (CB' [] [] (z2Y hy4))<|bdE hr fun y5 hy5 hr=>J g<|J (CB' [] [] (z2Y hy5))<|J (gn 13)<|ifE hr ?_ ?_<;>intro h1 hr
 refine ggE hr fun g1 hr=>bdE hr fun y6 hy6 hr=>J g<|J (CB' [] [] (q9d hy6))<|e
 refine J (gn 6)<|ifE hr ?_ ?_<;>intro h2 hr
 refine ggE hr fun g2 hr=>bdE hr fun y7 hy7 hr=>J g<|J (CB' [] [] (q9d hy7))<|e
 refine J (gn 6)<|ifE hr ?_ ?_<;>intro h3 hr
 refine ggE hr fun g3 hr=>J g<|J (OB' _ (bMul g3))<|bdE hr fun y8 hy8 hr=>J (CB' [] [] (q9d hy8))<|e
 refine J (gn 6)<|ifE hr ?_ ?_<;>intro h4 hr
 refine bdE hr fun y9 hy9 hr=>J g<|J (CB' [] [] (z2k hy9))<|e
 refine J (gn 6)<|ifE hr ?_ ?_<;>intro h5 hr
 refine bdE hr fun y10 hy10 hr=>J g<|J (CB' [] [] (z8m hy10))<|e
 refine J (gn 6)<|ifE hr ?_ ?_<;>intro h6 hr
 refine ggE hr fun g4 hr=>J g<|J (OB' _ (bOrI g4))<|e
 refine J (gn 6)<|ifE hr ?_ ?_<;>intro h7 hr
 refine ggE hr fun g5 hr=>J g<|J (OB' _ (j3I g5))<|e
 refine J (gn 6)<|ifE hr ?_ ?_<;>intro h8 hr
 refine J g<|J (OB' _ j0F)<|e
 refine J (gn 6)<|ifE hr ?_ ?_<;>intro h9 hr
 refine bdE hr fun y11 hy11 hr=>J g<|J (CB' [] [] (q8E hy11))<|e
 refine J (gn 6)<|ifE hr ?_ ?_<;>intro h10 hr
 refine bdE hr fun y12 hy12 hr=>J g<|J (CB' [] [] (q8E hy12))<|e
 refine J (gn 6)<|ifE hr ?_ ?_<;>intro h11 hr
 refine bdE hr fun y13 hy13 hr=>J g<|J (CB' [] [] (q4b hy13))<|ifE hr ?_ ?_<;>intro h12 hr
 refine bdE hr fun y14 hy14 hr=>J g<|J (CB' [] [] (z2k hy14))<|ggE hr fun g6 hr=>?_
 refine J (CIU' g6 rfl)<|ggE hr fun g7 hr=>J (OB' _ (j6M g7))<|ggE hr fun g8 hr=>J (OB' _ (j3I g8))<|bdE hr fun y15 hy15 hr=>J g<|J (CB' [] [] (q8E hy15))<|J g<|E
 refine bdE hr fun y16 hy16 hr=>J g<|J (CB' [] [] (q8E hy16))<|e
 refine J (gn 6)<|ifE hr ?_ ?_<;>intro h13 hr
 refine bdE hr fun y17 hy17 hr=>J g<|J (CB' [] [] (q4b hy17))<|J (gn 1)<|ifE hr ?_ ?_<;>intro h14 hr
 refine ggE hr fun g9 hr=>J g ?_
 refine J (CIU' g9 rfl)<|ggE hr fun g10 hr=>J (OB' _ (j6L g10))<|ggE hr fun g11 hr=>J (OB' _ (bOrI g11))<|J g<|E
 exact e
 exact e
theorem z8o {rec_sl19Eval:Expr→(List Slot)→Int→(List Int)→Option Int}(ih_sl19Eval:∀ {m:Md} {a0:Expr} {a1:(List Slot)} {a2:Int} {a3:(List Int)} {r:Int},rec_sl19Eval a0 a1 a2 a3=some r→Ok Tryz.prog 73 [Expr.x m a0,.d m (.sl 3 (a1.map Slot.D)),dI a2,.d m (.sl 1 (a3.map (A.D.i .i64)))] [] (dI r) []){m:Md}{a0:Expr}{a1:(List Slot)}{a2:Int}{a3:(List Int)}{r:Int}(hr:q9C rec_sl19Eval a0 a1 a2 a3=some r):Ok Tryz.prog 73 [Expr.x m a0,.d m (.sl 3 (a1.map Slot.D)),dI a2,.d m (.sl 1 (a3.map (A.D.i .i64)))] [] (dI r) []:=by
 refine OE Tryz.func73 fun S hS=>?_
 unfold q9C at hr
 refine J g<|J (BX' 0)<|J (gn 14)<|ifE hr ?_ ?_<;>intro h1 hr
 exact e
 refine J (gn 6)<|ifE hr ?_ ?_<;>intro h2 hr
 exact e
 refine J (gn 6)<|ifE hr ?_ ?_<;>intro h3 hr
 refine bdE hr fun y1 hy1 hr=>J g<|J (CB' [] [] (z6Z (m:=m) hy1))<|e
 refine J (gn 6)<|ifE hr ?_ ?_<;>intro h4 hr
 refine bdE hr fun x1 hx1 hr=>bdE hr fun y2 hy2 hr=>J g<|J (CB' [] [] (ih_sl19Eval (m:=m) hy2))<|bdE hr fun x2 hx2 hr=>bdE hr fun y3 hy3 hr=>J g<|J (CB' [] [] (ih_sl19Eval (m:=m) hy3))<|bdE hr fun y4 hy4 hr=>J (CB' [] [] (z9D hy4))<|e
 refine J (gn 6)<|ifE hr ?_ ?_<;>intro h5 hr
 refine bdE hr fun x3 hx3 hr=>bdE hr fun y5 hy5 hr=>J g<|J (CB' [] [] (ih_sl19Eval (m:=m) hy5))<|J (gn 2)<|ifE hr ?_ ?_<;>intro h6 hr
 refine bdE hr fun x4 hx4 hr=>bdE hr fun y6 hy6 hr=>J g<|J (CB' [] [] (ih_sl19Eval (m:=m) hy6))<|e
 refine bdE hr fun x5 hx5 hr=>bdE hr fun y7 hy7 hr=>J g<|J (CB' [] [] (ih_sl19Eval (m:=m) hy7))<|e
 refine J (gn 6)<|ifE hr ?_ ?_<;>intro h7 hr
 refine J g<|J (OB' _ (z3A (p:=a3.length) (k:=1) (by decide)))<|bdE hr fun y8 hy8 hr=>J (CB' [] [] (q4b hy8))<|J (gn 1)<|ifE hr ?_ ?_<;>intro h8 hr
 refine ggE hr fun g1 hr=>bdE hr fun x6 hx6 hr=>e
 exact e
 exact e
theorem z8p (n:Nat):∀ {m:Md} {a0:Expr} {a1:(List Slot)} {a2:Int} {a3:(List Int)} {r:Int},q8c n a0 a1 a2 a3=some r→Ok Tryz.prog 73 [Expr.x m a0,.d m (.sl 3 (a1.map Slot.D)),dI a2,.d m (.sl 1 (a3.map (A.D.i .i64)))] [] (dI r) []:=by
  induction n with
  | zero=>intro _ _ _ _ _ r hr; exact nomatch (show (none:Option Int)=some r from hr)
  | succ n ih=>intro _ _ _ _ _ r hr; exact z8o ih hr
theorem z9E {m:Md}{a0:Expr}{a1:(List Slot)}{a2:Int}{a3:(List Int)}{r:Int}(hr:z2P a0 a1 a2 a3=some r):Ok Tryz.prog 73 [Expr.x m a0,.d m (.sl 3 (a1.map Slot.D)),dI a2,.d m (.sl 1 (a3.map (A.D.i .i64)))] [] (dI r) []:=by
 obtain⟨n,hn⟩:=q4j hr
 exact z8p n hn
theorem z7a {m:Md}{a0:Expr}{a1:(List Slot)}{a2:Int}{a3:(List Int)}{r:Int}(hr:q7y a0 a1 a2 a3=some r):Ok Tryz.prog 36 [Expr.x m a0,.d m (.sl 3 (a1.map Slot.D)),dI a2,.d m (.sl 1 (a3.map (A.D.i .i64)))] [] (dI r) []:=by
 refine OE Tryz.func36 fun S hS=>?_
 unfold q7y at hr
 refine J g<|J (BX' 0)<|bdE hr fun y1 hy1 hr=>J g<|J (CB' [] [] (z5b (m:=m) hy1))<|J (gn 2)<|ifE hr ?_ ?_<;>intro h1 hr
 refine bdE hr fun y2 hy2 hr=>J g<|J (CB' [] [] (z9E (m:=m) hy2))<|e
 exact e
theorem z8q {m:Md}{a0:Grammar}{a1:Tree}{a2:(List TraceStep)}{a3:(List Int)}{a4:(List Instance)}{r:((List Int) × Bool)}(hr:q8u a0 a1 a2 a3 a4=some r):Ok Tryz.prog 8 [Grammar.x m a0,Tree.x m a1,.d m (.sl 3 (a2.map TraceStep.D)),.d m (.sl 1 (a3.map (A.D.i .i64))),.d m (.sl 2 (a4.map Instance.D))] [] (.tu [.ref 0 none,dB r.2]) [.row .fz 1 (r.1.map (A.D.i .i64))]:=by
 refine OE Tryz.func8 fun S hS=>?_
 unfold q8u at hr
 refine J g<|J (BX' 0)<|J (BX' 1)<|bdE hr fun y1 hy1 hr=>J g<|J (CB' [] [] (z5I (m:=m) hy1))<|J (gn 2)<|ifE hr ?_ ?_<;>intro h1 hr
 refine ggE hr fun g1 hr=>J g<|J (MKR' 2 (f:=(A.D.i .i64)) (0:Int) g1.1 g1.2.1 g1.2.2)<|J (gn 8)<|J (lenT 2)<|fun hl1=>bdE hr fun q1 hqq1 hr=>q0b hqq1 hl1 3 (fun k1 s1=>[(2,.d m (.sl 3 (a2.map TraceStep.D))),(3,.d m (.sl 1 (a3.map (A.D.i .i64)))),(4,.d m (.sl 2 (a4.map Instance.D))),(5,.pb 0 0),(6,.pb 1 0),(12,.ref 2 none),(13,dI (k1:Int))]) (fun k1 s1=>[(2,.row .fz 1 (s1.map (A.D.i .i64)))]) I (fun k1 xk1 sk1 ok1 hxk1 hr hltk1 hik1=>?_) fun k1 sk1 ek1 hltk1=>?_
 obtain⟨s1,rfl⟩:∃ y,y=sk1:=⟨_,rfl⟩
 refine bdP hr fun y2 y3 hq2 hr=>J g<|J (CB' [(0,3)] [] (z3M (m:=m) hq2))<|J g<|J (NV' 4)<|J (gn 8)<|ifE hr ?_ ?_<;>intro h2 hr
 refine bdE hr fun x1 hx1 hr=>J (gn 10)<|ifE hr ?_ ?_<;>intro h3 hr
 refine J g<|J (L0' 5 (A.D.i .i64))<|e
 refine J g<|J (L0' 5 Slot.D)<|J (gn 6) ?_
 refine J (q0s 3 rfl)<|bdE hr fun y4 hy4 hr=>J (CB' [] [] (z2X (m:=.fz) hy4))<|J (gn 8)<|J (lenT 17)<|fun hl2=>bdE hr fun s2 hqq3 hr=>q0d hqq3 hl2 6 (fun k2 s2=>[(2,.d m (.sl 3 (a2.map TraceStep.D))),(3,.d m (.sl 1 (a3.map (A.D.i .i64)))),(4,.d m (.sl 2 (a4.map Instance.D))),(5,.pb 0 0),(6,.pb 1 0),(12,.ref 2 none),(13,dI (k1:Int)),(14,.pb 4 0),(16,.ref 5 none),(17,.d .fz (.sl 2 (y4.map Occurrence.D))),(18,dI (k2:Int)),(52,.d m (.sl 1 (a3.map (A.D.i .i64)))),(53,dI (k1:Int)),(54,.pf m [.i .i64 x1]),(55,dI x1),(56,.ref 2 none),(57,dI (s1.length:Int)),(58,dB (decide ((s1.length:Int)≤x1)))]) (fun k2 s2=>[(3,.none),(5,.row .fz 3 (s2.map Slot.D))]) I (fun k2 xk2 sk2 ok2 hxk2 hr hltk2=>?_) fun k2 hltk2=>?_
 obtain⟨s2,rfl⟩:∃ y,y=sk2:=⟨_,rfl⟩
 refine bdP hr fun y5 y6 hq4 hr=>J g<|J (CB' [] [] (z5K (m:=m) hq4))<|J g<|J (NV' 6)<|bdE hr fun y7 hy7 hr=>J g<|J (CB' [] [2] (z4Z (m:=.bo) hy7))<|J g<|J (LIR' 7 (m:=.fz) (f:=Slot.D) (xs:=[(⟨xk2,y7⟩:Slot)]))<|ggE hr fun g2 hr=>J (z5A (f:=Slot.D) 8 (fun _=>rfl) 32 g2)<|J (q0H .refl)<|e
 refine ggE hr fun g3 hr=>bdE hr fun x2 hx2 hr=>bdE hr fun y8 hy8 hr=>J g<|J (CB' [(0,6)] [] (z9z (m:=m) hy8))<|bdE hr fun y9 hy9 hr=>J (CB' [] [5,6] (z7a (m:=.bo) hy9))<|ggE hr fun g4 hr=>bdE hr fun x3 hx3 hr=>J g<|J (SE' y9 hx3)<|e
 refine J g<|J (L0' 5 (A.D.i .i64))<|e
 subst ek1
 obtain⟨s1,rfl⟩:∃ y,y=sk1:=⟨_,rfl⟩
 refine J g<|J (L0' 3 (A.D.i .i64))<|J (gn 8)<|J (lenT 4)<|fun hl3=>bdE hr fun s3 hqq5 hr=>q0d hqq5 hl3 4 (fun k3 s3=>[(2,.d m (.sl 3 (a2.map TraceStep.D))),(3,.d m (.sl 1 (a3.map (A.D.i .i64)))),(4,.d m (.sl 2 (a4.map Instance.D))),(12,.ref 2 none),(21,.ref 3 none),(22,dI (k3:Int))]) (fun k3 s3=>[(3,.row .fz 1 (s3.map (A.D.i .i64)))]) I (fun k3 xk3 sk3 ok3 hxk3 hr hltk3=>?_) fun k3 hltk3=>?_
 obtain⟨s3,rfl⟩:∃ y,y=sk3:=⟨_,rfl⟩
 refine bdE hr fun y10 hy10 hr=>J g<|J (CB' [] [2] (z4Z (m:=.bo) hy10))<|J (LIR' 4 (m:=.fz) (f:=(A.D.i .i64)) (xs:=([y10]:List Int)))<|ggE hr fun g5 hr=>J (z5A (f:=(A.D.i .i64)) 5 (fun _=>rfl) 8 g5)<|e
 exact e
 refine J g<|J (L0' 2 (A.D.i .i64))<|e
end Go.Proofs.YtaholdflpgcndaaGreat
