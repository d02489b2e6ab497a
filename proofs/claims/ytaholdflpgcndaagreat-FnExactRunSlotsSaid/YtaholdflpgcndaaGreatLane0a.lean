/- What some functions of the program compute, as partial functions on plain data, and that they do; each lemma bears its conditions in its statement. -/
import Derived.Test.YtaholdflpgcndaaGreatDef
set_option linter.unusedVariables false
set_option linter.unusedSimpArgs false
set_option linter.ambiguousOpen false
set_option linter.unusedSectionVars false
set_option linter.unnecessarySimpa false
set_option maxRecDepth 100000
set_option maxHeartbeats 40000000
noncomputable section
namespace Go.Proofs.YtaholdflpgcndaaGreat
open Go Go.E Go.A
theorem z3E {a0:Int}{r:Bool}(hr:q6H a0=some r):Ok Tryz.prog 78 [dI a0] [] (dB r) []:=by
 refine OE Tryz.func78 fun S hS=>?_
 unfold q6H at hr
 exact e
theorem q5Q {m:Md}{a0:(List Int)}{r:Int}(hr:q3F a0=some r):Ok Tryz.prog 126 [.d m (.sl 1 (a0.map (A.D.i .i64))),.fn 78 []] [] (dI r) []:=by
 refine OE Tryz.func126 fun S hS=>?_
 unfold q3F at hr
 refine J (gn 12)<|J (lenT 0)<|fun hl1=>bdE hr fun q1 hqq1 hr=>q0b hqq1 hl1 0 (fun k1 _=>[(0,.d m (.sl 1 (a0.map (A.D.i .i64)))),(1,.fn 78 []),(7,dI (a0.length:Int)),(8,dI (k1:Int))]) (fun k1 _=>[]) I (fun k1 xk1 sk1 ok1 hxk1 hr hltk1 hik1=>?_) fun k1 sk1 ek1 hltk1=>?_
 refine bdE hr fun y1 hy1 hr=>J g<|J (CB' [] [] (z3E hy1))<|J (gn 1)<|ifE hr ?_ ?_<;>intro h1 hr
 exact e
 exact e
 subst ek1
 exact e
theorem q5n {m:Md}{a0:(List Int)}{r:Bool}(hr:q3C a0=some r):Ok Tryz.prog 77 [.d m (.sl 1 (a0.map (A.D.i .i64))),.fn 78 []] [] (dB r) []:=by
 refine OE Tryz.func77 fun S hS=>?_
 unfold q3C at hr
 refine bdE hr fun y1 hy1 hr=>J g<|J (CB' [] [] (q5Q (m:=m) hy1))<|e
theorem z1A {m:Md}{a0:(List Int)}{a1:Int}{r:Int}(hr:q4D a0 a1=some r):Ok Tryz.prog 79 [.d m (.sl 1 (a0.map (A.D.i .i64))),dI a1] [] (dI r) []:=by
 refine OE Tryz.func79 fun S hS=>?_
 unfold q4D at hr
 refine J (gn 12)<|J (lenT 0)<|fun hl1=>bdE hr fun q1 hqq1 hr=>q0b hqq1 hl1 0 (fun k1 _=>[(0,.d m (.sl 1 (a0.map (A.D.i .i64)))),(1,dI a1),(7,dI (a0.length:Int)),(8,dI (k1:Int))]) (fun k1 _=>[]) I (fun k1 xk1 sk1 ok1 hxk1 hr hltk1 hik1=>?_) fun k1 sk1 ek1 hltk1=>?_
 refine J (gn 23)<|ifE hr ?_ ?_<;>intro h1 hr
 exact e
 exact e
 subst ek1
 exact e
theorem q9I {m:Md}{a0:(List Instance)}{a1:Instance}{r:Int}(hr:q4n a0 a1=some r):Ok Tryz.prog 127 [.d m (.sl 2 (a0.map Instance.D)),Instance.x .fz a1] [] (dI r) []:=by
 refine OE Tryz.func127 fun S hS=>?_
 unfold q4n at hr
 refine J g<|J (BX' 0)<|J (gn 10)<|J (lenT 0)<|fun hl1=>bdE hr fun q1 hqq1 hr=>q0b hqq1 hl1 1 (fun k1 _=>[(0,.d m (.sl 2 (a0.map Instance.D))),(3,.pb 0 0),(7,dI (a0.length:Int)),(8,dI (k1:Int))]) (fun k1 _=>[]) I (fun k1 xk1 sk1 ok1 hxk1 hr hltk1 hik1=>?_) fun k1 sk1 ek1 hltk1=>?_
 refine J g ?_
 refine J (SQ' rfl rfl rfl rfl (q8M a1 xk1))<|J (gn 1)<|ifE hr ?_ ?_<;>intro h1 hr
 exact e
 exact e
 subst ek1
 exact e
theorem q5z {m:Md}{a0:(List Instance)}{a1:Instance}{r:Bool}(hr:q3H a0 a1=some r):Ok Tryz.prog 81 [.d m (.sl 2 (a0.map Instance.D)),Instance.x .fz a1] [] (dB r) []:=by
 refine OE Tryz.func81 fun S hS=>?_
 unfold q3H at hr
 refine J g<|J (BX' 0)<|bdE hr fun y1 hy1 hr=>J g<|J (CB' [] [] (q9I (m:=m) hy1))<|e
theorem z9p {m:Md}{a0:(List TraceStep)}{a1:Int}{r:Int}(hr:q9D a0 a1=some r):Ok Tryz.prog 80 [.d m (.sl 3 (a0.map TraceStep.D)),dI a1] [] (dI r) []:=by
 refine OE Tryz.func80 fun S hS=>?_
 unfold q9D at hr
 refine J g<|J (OB' _ (z3A (p:=a0.length) (k:=1) (by decide)))<|bdE hr fun q1 hqq1 hr=>J (gn 2)<|AW.cut 0 (fun _=>[(1,dI a1)]) (fun _=>[]) (M:=fun x=>q1 = .inl x) ?_ fun x hx=>?_
 refine J g<|q0h hqq1 0 (fun s1=>[(0,.d m (.sl 3 (a0.map TraceStep.D))),(1,dI a1),(5,dI s1)]) (fun s1=>[]) I fun sk1 ok1 hr hik1=>?_
 obtain⟨s1,rfl⟩:∃ y,y=sk1:=⟨_,rfl⟩
 have hr:=hr
 refine J (gn 7)<|ifE hr ?_ ?_<;>intro h1 hr
 refine ggE hr fun g1 hr=>bdE hr fun x1 hx1 hr=>ggE hr fun g2 hr=>bdE hr fun x2 hx2 hr=>bdE hr fun y1 hy1 hr=>J g<|J (CB' [] [] (q5z (m:=m) hy1))<|J (gn 1)<|ifE hr ?_ ?_<;>intro h2 hr
 exact e
 refine ggE hr fun g3 hr=>e
 refine J (gn 2) ?_
 cases hr
 cases hik1 _ rfl
 exact⟨_,rfl,q0c hS 0⟩
 subst hx
 exact e
theorem z5B {m:Md}{a0:(List TraceStep)}{a1:(List Instance)}{a2:(List Int)}{r:Bool}(hr:q6I a0 a1 a2=some r):Ok Tryz.prog 43 [.d m (.sl 3 (a0.map TraceStep.D)),.d m (.sl 2 (a1.map Instance.D)),.d m (.sl 1 (a2.map (A.D.i .i64)))] [] (dB r) []:=by
 refine OE Tryz.func43 fun S hS=>?_
 unfold q6I at hr
 refine bdE hr fun s1 hqq1 hr=>J (gn 12)<|q0a 4 [(0,.d m (.sl 3 (a0.map TraceStep.D))),(1,.d m (.sl 2 (a1.map Instance.D))),(2,.d m (.sl 1 (a2.map (A.D.i .i64)))),(17,dB s1)] ?_ ?_
 replace hr:=hqq1
 refine ifE hr ?_ ?_<;>intro h1 hr
 refine bdE hr fun y1 hy1 hr=>J g<|J (CB' [] [] (q5n (m:=m) hy1))<|e
 exact e
 refine J (gn 1)<|ifE hr ?_ ?_<;>intro h2 hr
 exact e
 refine J (gn 10)<|J (lenT 0)<|fun hl1=>bdE hr fun q2 hqq2 hr=>q0b hqq2 hl1 0 (fun k1 _=>[(0,.d m (.sl 3 (a0.map TraceStep.D))),(1,.d m (.sl 2 (a1.map Instance.D))),(2,.d m (.sl 1 (a2.map (A.D.i .i64)))),(19,dI (a0.length:Int)),(20,dI (k1:Int))]) (fun k1 _=>[]) I (fun k1 xk1 sk1 ok1 hxk1 hr hltk1 hik1=>?_) fun k1 sk1 ek1 hltk1=>?_
 refine ggE hr fun g1 hr=>J g<|J (SLL' (Int.natCast_nonneg _) g1)<|bdE hr fun x1 hx1 hr=>bdE hr fun y2 hy2 hr=>J g<|J (CB' [] [] (z1A (m:=m) hy2))<|bdE hr fun s2 hqq3 hr=>J (gn 6)<|q0a 19 [(0,.d m (.sl 3 (a0.map TraceStep.D))),(1,.d m (.sl 2 (a1.map Instance.D))),(2,.d m (.sl 1 (a2.map (A.D.i .i64)))),(19,dI (a0.length:Int)),(20,dI (k1:Int)),(52,dB s2)] ?_ ?_
 replace hr:=hqq3
 refine ifE hr ?_ ?_<;>intro h3 hr
 refine bdE hr fun y3 hy3 hr=>J g<|J (CB' [] [] (z9p (m:=m) hy3))<|ggE hr fun g2 hr=>bdP hr fun s3 s4 hqq4 hr=>J (gn 5)<|q0a 9 [(0,.d m (.sl 3 (a0.map TraceStep.D))),(1,.d m (.sl 2 (a1.map Instance.D))),(2,.d m (.sl 1 (a2.map (A.D.i .i64)))),(19,dI (a0.length:Int)),(20,dI (k1:Int)),(34,dB true),(35,.d m (.sl 3 (a0.map TraceStep.D))),(36,dI (k1:Int)),(37,dI y3),(38,dI (k1:Int)),(39,dI ((k1+1:Nat):Int)),(40,dI y2),(41,dI (((k1+1:Nat):Int)+y2)),(42,dB (decide ((((k1+1:Nat):Int)+y2) < y3))),(43,dB s3),(51,dB s4)] ?_ ?_
 replace hr:=hqq4
 refine ifE hr ?_ ?_<;>intro h4 hr
 exact e
 refine bdE hr fun y4 hy4 hr=>J g<|J (CB' [] [] (q5z (m:=m) hy4))<|e
 exact e
 exact e
 refine J (gn 1)<|ifE hr ?_ ?_<;>intro h5 hr
 exact e
 exact e
 subst ek1
 exact e
theorem z4S {m:Md}{a0:Node}{a1:Int}{r:Bool}(hr:q7n a0 a1=some r):Ok Tryz.prog 132 [Node.x m a0,.pb 0 0] [.box [dI a1]] (dB r) [.box [dI a1]]:=by
 refine OE Tryz.func132 fun S hS=>?_
 unfold q7n at hr
 refine J g<|J (BX' 1)<|e
theorem q5R {m:Md}{a0:(List Node)}{a1_0:Int}{r:Int}(hr:q3G a0 a1_0=some r):Ok Tryz.prog 131 [.d m (.sl 6 (a0.map Node.D)),.fn 132 [.pb 0 0]] [.box [dI a1_0]] (dI r) [.box [dI a1_0]]:=by
 refine OE Tryz.func131 fun S hS=>?_
 unfold q3G at hr
 refine J (gn 12)<|J (lenT 0)<|fun hl1=>bdE hr fun q1 hqq1 hr=>q0b hqq1 hl1 1 (fun k1 _=>[(0,.d m (.sl 6 (a0.map Node.D))),(1,.fn 132 [.pb 0 0]),(7,dI (a0.length:Int)),(8,dI (k1:Int))]) (fun k1 _=>[]) I (fun k1 xk1 sk1 ok1 hxk1 hr hltk1 hik1=>?_) fun k1 sk1 ek1 hltk1=>?_
 refine bdE hr fun y1 hy1 hr=>J g<|J (CB' [(0,0)] [] (z4S (m:=m) hy1))<|J (gn 1)<|ifE hr ?_ ?_<;>intro h1 hr
 exact e
 exact e
 subst ek1
 exact e
theorem z2i {m:Md}{a0:Tree}{a1:Int}{r:Int}(hr:q6p a0 a1=some r):Ok Tryz.prog 83 [Tree.x m a0,dI a1] [] (dI r) []:=by
 refine OE Tryz.func83 fun S hS=>?_
 unfold q6p at hr
 refine J g<|J (BX' 0)<|J (BX' 1)<|bdE hr fun y1 hy1 hr=>J g<|J (CB' [(0,1)] [] (q5R (m:=m) hy1))<|e
theorem q3W {a0:Int}{a1:Int}{a2:Int}{r:Bool}(hr:q3K a0 a1 a2=some r):Ok Tryz.prog 92 [dI a0,dI a1,dI a2] [] (dB r) []:=by
 refine OE Tryz.func92 fun S hS=>?_
 unfold q3K at hr
 refine J (gn 9)<|ifE hr ?_ ?_<;>intro h1 hr
 exact e
 exact e
theorem q7f {m:Md}{a0:Tree}{a1:Int}{r:Bool}(hr:q5u a0 a1=some r):Ok Tryz.prog 84 [Tree.x m a0,dI a1] [] (dB r) []:=by
 refine OE Tryz.func84 fun S hS=>?_
 unfold q5u at hr
 refine J g<|J (BX' 0)<|J g<|J (OB' _ (z3A (p:=a0.Nodes.length) (k:=1) (by decide)))<|bdE hr fun y1 hy1 hr=>J (CB' [] [] (q3W hy1))<|e
theorem z3q {m:Md}{a0:Grammar}{a1:ByteArray}{r:(Rule × Bool)}(hr:q6Z a0 a1=some r):Ok Tryz.prog 85 [.ag [.u,.d m (.sl 6 (a0.Rules.map Rule.D))],dS a1] [] (.tu [Rule.x m r.1,dB r.2]) []:=by
 refine OE Tryz.func85 fun S hS=>?_
 unfold q6Z at hr
 refine J g<|J (BX' 0)<|J (NV' 1)<|J (gn 11)<|J (lenA 1 0)<|fun hl1=>bdE hr fun q1 hqq1 hr=>?_
 refine q0b hqq1 hl1 2 (fun k1 _=>[(1,dS a1),(4,.pb 1 0),(9,.d m (.sl 6 (a0.Rules.map Rule.D))),(10,dI (a0.Rules.length:Int)),(11,dI (k1:Int))]) (fun k1 _=>[]) (GH.trans (q1G (q:=0) [.u,.d m (.sl 6 (a0.Rules.map Rule.D))] (.cons .u (.cons .rfl .nil)) rfl) I) (fun k1 xk1 sk1 ok1 hxk1 hr hltk1 hik1=>?_) fun k1 sk1 ek1 hltk1=>?_
 refine J g<|J (NV' 2)<|J (gn 9)<|ifE hr ?_ ?_<;>intro h1 hr
 exact e
 refine J (gn 6) ?_
 cases hr
 exact⟨_,rfl,GH.trans (q1G (q:=0) [.u,.d m (.sl 6 (a0.Rules.map Rule.D))] (.cons .u (.cons .rfl .nil)) rfl) (q0c hS 2)⟩
 subst ek1
 refine J (gn 14) ?_
 cases hr
 exact endA.ren [] 0 (.inr rfl) hS rfl rfl rfl (.tu (.cons (.ag (.cons .rfl (.cons .rfl (.cons .nld (.cons .rfl (.cons .nld (.cons .nld .nil))))))) (.cons .rfl .nil))) rfl rfl
theorem z3F {m:Md}{a0:Grammar}{a1:Tree}{a2:Int}{r:ByteArray}(hr:q5v a0 a1 a2=some r):Ok Tryz.prog 129 [.ag [.u,.d m (.sl 6 (a0.Rules.map Rule.D))],Tree.x m a1,dI a2] [] (dS r) []:=by
 refine OE Tryz.func129 fun S hS=>?_
 unfold q5v at hr
 refine J g<|J (BX' 0)<|J (BX' 1)<|bdE hr fun y1 hy1 hr=>J g<|J (CB' [] [] (q7f (m:=m) hy1))<|J (gn 2)<|ifE hr ?_ ?_<;>intro h1 hr
 refine ggE hr fun g1 hr=>bdE hr fun x1 hx1 hr=>bdP hr fun y2 y3 hq1 hr=>J g<|J (CB' [] [] (z3q (m:=m) hq1))<|J g<|J (NV' 2)<|e
 exact e
theorem z5C {m:Md}{a0:Grammar}{a1:ByteArray}{r:(Symbol × Bool)}(hr:q6J a0 a1=some r):Ok Tryz.prog 128 [Grammar.y m a0,dS a1] [] (.tu [Symbol.x m r.1,dB r.2]) []:=by
 refine OE Tryz.func128 fun S hS=>?_
 unfold q6J at hr
 refine J g<|J (BX' 0)<|J (NV' 1)<|J (gn 11)<|J (lenA 0 0)<|fun hl1=>bdE hr fun q1 hqq1 hr=>q0b hqq1 hl1 2 (fun k1 _=>[(1,dS a1),(4,.pb 1 0),(9,.d m (.sl 2 (a0.Symbols.map Symbol.D))),(10,dI (a0.Symbols.length:Int)),(11,dI (k1:Int))]) (fun k1 _=>[]) I (fun k1 xk1 sk1 ok1 hxk1 hr hltk1 hik1=>?_) fun k1 sk1 ek1 hltk1=>?_
 refine J g<|J (NV' 2)<|J (gn 9)<|ifE hr ?_ ?_<;>intro h1 hr
 exact e
 exact e
 subst ek1
 refine J (gn 14) ?_
 cases hr
 exact endA.ren [] 0 (.inr rfl) hS rfl rfl rfl (.tu (.cons (.ag (.cons .rfl (.cons .nld .nil))) (.cons .rfl .nil))) rfl rfl
theorem z2S {m:Md}{a0:Symbol}{a1:ByteArray}{r:(Attribute × Bool)}(hr:q4Y a0 a1=some r):Ok Tryz.prog 130 [Symbol.x m a0,dS a1] [] (.tu [Attribute.x .fz r.1,dB r.2]) []:=by
 refine OE Tryz.func130 fun S hS=>?_
 unfold q4Y at hr
 refine J g<|J (BX' 0)<|J (NV' 1)<|J (gn 11)<|J (lenA 1 0)<|fun hl1=>bdE hr fun q1 hqq1 hr=>q0b hqq1 hl1 2 (fun k1 _=>[(1,dS a1),(4,.pb 1 0),(9,.d m (.sl 4 (a0.Attributes.map Attribute.D))),(10,dI (a0.Attributes.length:Int)),(11,dI (k1:Int))]) (fun k1 _=>[]) I (fun k1 xk1 sk1 ok1 hxk1 hr hltk1 hik1=>?_) fun k1 sk1 ek1 hltk1=>?_
 refine J g<|J (NV' 2)<|J (gn 9)<|ifE hr ?_ ?_<;>intro h1 hr
 exact e
 exact e
 subst ek1
 exact e
theorem z4T {m:Md}{a0:Grammar}{a1:Tree}{a2:Instance}{r:(Attribute × Bool)}(hr:q5X a0 a1 a2=some r):Ok Tryz.prog 82 [Grammar.x m a0,Tree.x m a1,Instance.x .fz a2] [] (.tu [Attribute.x .fz r.1,dB r.2]) []:=by
 refine OE Tryz.func82 fun S hS=>?_
 unfold q5X at hr
 refine J g<|J (BX' 0)<|J (BX' 1)<|J (BX' 2)<|J (NV' 3)<|bdE hr fun y1 hy1 hr=>J g<|J (CB' [] [] (z2i (m:=m) hy1))<|J (gn 8)<|ifE hr ?_ ?_<;>intro h1 hr
 exact e
 refine bdE hr fun y2 hy2 hr=>J g<|J (CB' [] [] (z3F (m:=m) hy2))<|bdP hr fun y3 y4 hq1 hr=>J (CB' [] [] (z5C (m:=m) hq1))<|J g<|J (NV' 4)<|bdP hr fun y5 y6 hq2 hr=>J g<|J (CB' [] [] (z2S (m:=m) hq2))<|e
theorem z6S {rec_icopyExpr:Expr→Option Expr}(ih_icopyExpr:∀ {m:Md} {a0:Expr} {r:Expr},rec_icopyExpr a0=some r→Ok Tryz.prog 133 [Expr.x m a0] [] (.ag [dI r.Kind,dI r.N,dI r.Pos,dI r.Type_,dS r.Symbol,dS r.Name,.ref 0 none]) [.row .fz 7 (r.Args.map Expr.D)]){m:Md}{a0:Expr}{r:Expr}(hr:q9V rec_icopyExpr a0=some r):Ok Tryz.prog 133 [Expr.x m a0] [] (.ag [dI r.Kind,dI r.N,dI r.Pos,dI r.Type_,dS r.Symbol,dS r.Name,.ref 0 none]) [.row .fz 7 (r.Args.map Expr.D)]:=by
 refine OE Tryz.func133 fun S hS=>?_
 unfold q9V at hr
 refine J g<|J (BX' 0)<|J (NV' 1)<|J (gn 14) ?_
 refine J (q2F 3 2 .fz 7 rfl)<|J (lenA 6 0)<|fun hl1=>bdE hr fun s1 hqq1 hr=>q0d hqq1 hl1 3 (fun k1 s1=>[(1,.pb 0 0),(2,.pb 1 0),(3,.ref 2 none),(7,.d m (.sl 7 (a0.Args.map Expr.D))),(8,dI (a0.Args.length:Int)),(9,dI (k1:Int))]) (fun k1 s1=>[(2,.row .fz 7 (s1.map Expr.D))]) I (fun k1 xk1 sk1 ok1 hxk1 hr hltk1=>?_) fun k1 hltk1=>?_
 obtain⟨s1,rfl⟩:∃ y,y=sk1:=⟨_,rfl⟩
 refine J g<|J (NV' 3)<|bdE hr fun y1 hy1 hr=>J g<|J (CB' [(0,4)] [] (ih_icopyExpr (m:=m) hy1)) ?_
 refine J (q0s 4 rfl) ?_
 refine J (j6R 5 (m:=.fz) (f:=Expr.D) [y1] (by simp only [List.map_cons,List.map_nil,Expr.D_eq]; rfl))<|ggE hr fun g1 hr=>J (AP1' 6 .fz 88 g1)<|J g<|E
 exact e
theorem z6T (n:Nat):∀ {m:Md} {a0:Expr} {r:Expr},q7b n a0=some r→Ok Tryz.prog 133 [Expr.x m a0] [] (.ag [dI r.Kind,dI r.N,dI r.Pos,dI r.Type_,dS r.Symbol,dS r.Name,.ref 0 none]) [.row .fz 7 (r.Args.map Expr.D)]:=by
  induction n with
  | zero=>intro _ _ r hr; exact nomatch (show (none:Option Expr)=some r from hr)
  | succ n ih=>intro _ _ r hr; exact z6S ih hr
theorem z8i {m:Md}{a0:Expr}{r:Expr}(hr:z1z a0=some r):Ok Tryz.prog 133 [Expr.x m a0] [] (.ag [dI r.Kind,dI r.N,dI r.Pos,dI r.Type_,dS r.Symbol,dS r.Name,.ref 0 none]) [.row .fz 7 (r.Args.map Expr.D)]:=by
 obtain⟨n,hn⟩:=q4j hr
 exact z6T n hn
theorem z3G {m:Md}{a0:Rule}{a1:Occurrence}{r:(Expr × Bool)}(hr:q4M a0 a1=some r):Ok Tryz.prog 86 [Rule.x m a0,Occurrence.x .fz a1] [] (.tu [.ag [dI r.1.Kind,dI r.1.N,dI r.1.Pos,dI r.1.Type_,dS r.1.Symbol,dS r.1.Name,.ref 0 none],dB r.2]) [.row .fz 7 (r.1.Args.map Expr.D)]:=by
 refine OE Tryz.func86 fun S hS=>?_
 unfold q4M at hr
 refine J g<|J (BX' 0)<|J (BX' 1)<|J (NV' 2)<|J (gn 11)<|J (lenA 4 0)<|fun hl1=>bdE hr fun q1 hqq1 hr=>q0b hqq1 hl1 3 (fun k1 _=>[(3,.pb 1 0),(4,.pb 2 0),(9,.d m (.sl 9 (a0.Equations.map Equation.D))),(10,dI (a0.Equations.length:Int)),(11,dI (k1:Int))]) (fun k1 _=>[]) I (fun k1 xk1 sk1 ok1 hxk1 hr hltk1 hik1=>?_) fun k1 sk1 ek1 hltk1=>?_
 refine J g<|J (NV' 3)<|J g ?_
 refine J (SQ' rfl rfl rfl rfl (q4G xk1.At a1))<|J (gn 1)<|ifE hr ?_ ?_<;>intro h1 hr
 refine bdE hr fun y1 hy1 hr=>J g<|J (CB' [(0,4)] [] (z8i (m:=m) hy1))<|e
 exact e
 subst ek1
 refine J (gn 14) ?_
 refine J (q0f (q0i (q:=2) (c:=6) (r:=3) .fz 7 rfl rfl rfl))<|J g<|E
theorem z0j {m:Md}{a0:Grammar}{a1:Tree}{a2:Instance}{r:(Definition × Bool)}(hr:q4N a0 a1 a2=some r):Ok Tryz.prog 44 [Grammar.x m a0,Tree.x m a1,Instance.x .fz a2] [] (.tu [.ag [dI r.1.Owner,dI r.1.Expr.Kind,dI r.1.Expr.N,dI r.1.Expr.Pos,dI r.1.Expr.Type_,dS r.1.Expr.Symbol,dS r.1.Expr.Name,.ref 0 none],dB r.2]) [.row .fz 7 (r.1.Expr.Args.map Expr.D)]:=by
 refine OE Tryz.func44 fun S hS=>?_
 unfold q4N at hr
 refine J g<|J (BX' 0)<|J (BX' 1)<|J (BX' 2)<|J (NV' 3)<|bdP hr fun y1 y2 hq1 hr=>J g<|J (CB' [] [] (z4T (m:=m) hq1))<|J g<|J (NV' 4)<|J (gn 8)<|ifE hr ?_ ?_<;>intro h1 hr
 refine J (gn 6)<|ifE hr ?_ ?_<;>intro h2 hr
 refine J (gn 8) ?_
 refine J (q0f (q0i (q:=3) (c:=7) (r:=5) .fz 7 rfl rfl rfl))<|J g<|E
 refine bdE hr fun y3 hy3 hr=>J g<|J (CB' [] [] (z2i (m:=m) hy3))<|J g<|J (NV' 5)<|bdP hr fun s1 s2 hqq2 hr=>J (gn 10)<|q0g 6 [(3,.pb 0 0),(4,.pb 1 0),(6,.pb 3 0),(10,dI s1),(11,.pb 5 0)] [(5,.box [dI s2,dS a2.Name])] ?_ ?_
 replace hr:=hqq2
 refine ifE hr ?_ ?_<;>intro h3 hr
 refine ggE hr fun g1 hr=>bdE hr fun x1 hx1 hr=>e
 exact e
 refine bdE hr fun y4 hy4 hr=>J g<|J (CB' [] [] (q7f (m:=m) hy4))<|J (gn 2)<|ifE hr ?_ ?_<;>intro h4 hr
 refine ggE hr fun g2 hr=>bdE hr fun x2 hx2 hr=>bdP hr fun y5 y6 hq3 hr=>J g<|J (CB' [] [] (z3q (m:=m) hq3))<|J g<|J (NV' 6)<|bdP hr fun y7 y8 hq4 hr=>J g<|J (CB' [(0,7)] [] (z3G (m:=m) hq4))<|J g<|J (NV' 8)<|J (gn 9)<|ifE hr ?_ ?_<;>intro h5 hr
 exact e
 refine J (gn 8) ?_
 refine J (q0f (q0i (q:=3) (c:=7) (r:=9) .fz 7 rfl rfl rfl))<|J g<|E
 refine J (gn 8) ?_
 refine J (q0f (q0i (q:=3) (c:=7) (r:=6) .fz 7 rfl rfl rfl))<|J g<|E
 refine J (gn 14) ?_
 refine J (q0f (q0i (q:=3) (c:=7) (r:=5) .fz 7 rfl rfl rfl))<|J g<|E
theorem z1B {m:Md}{a0:Expr}{o0:(List Occurrence)}{r:(Bool × (List Occurrence))}(hr:q4E a0 o0=some r):Ok Tryz.prog 88 [Expr.x m a0,.pb 0 0] [.box [.ref 1 none],.row .fz 2 (o0.map Occurrence.D)] (dB r.1) [.box [.ref 2 none],.dead,.row .fz 2 (r.2.map Occurrence.D)]:=by
 refine OE Tryz.func88 fun S hS=>?_
 unfold q4E at hr
 refine J g<|J (BX' 2)<|J (gn 9)<|ifE hr ?_ ?_<;>intro h1 hr
 refine J g<|J (LIR' 3 (m:=.fz) (f:=Occurrence.D) (xs:=[(⟨a0.Pos,a0.Name⟩:Occurrence)]))<|ggE hr fun g1 hr=>J (z5A (f:=Occurrence.D) 4 (fun _=>rfl) 24 g1)<|e
 refine J (gn 7) ?_
 refine J (q0f (q1c (i:=1) (j:=3) rfl rfl))<|J g<|E
theorem q6S {rec_ieveryNode_iAttributeUses_1:Expr→(List Occurrence)→Option (Bool × (List Occurrence))}(ih_ieveryNode_iAttributeUses_1:∀ {m:Md} {a0:Expr} {o0:(List Occurrence)} {r:(Bool × (List Occurrence))},rec_ieveryNode_iAttributeUses_1 a0 o0=some r→Ok Tryz.prog 87 [Expr.x m a0,.fn 88 [.pb 0 0]] [.box [.ref 1 none],.row .fz 2 (o0.map Occurrence.D)] (dB r.1) [.box [.ref 2 none],.dead,.row .fz 2 (r.2.map Occurrence.D)]){m:Md}{a0:Expr}{o0:(List Occurrence)}{r:(Bool × (List Occurrence))}(hr:q3N rec_ieveryNode_iAttributeUses_1 a0 o0=some r):Ok Tryz.prog 135 [Expr.x m a0,.pb 1 0] [.box [.ref 2 none],.box [.fn 88 [.pb 0 0]],.row .fz 2 (o0.map Occurrence.D)] (dB r.1) [.box [.ref 3 none],.box [.fn 88 [.pb 0 0]],.dead,.row .fz 2 (r.2.map Occurrence.D)]:=by
 refine OE Tryz.func135 fun S hS=>?_
 unfold q3N at hr
 refine J g<|J (BX' 3)<|bdP hr fun y1 z1 hq1 hr=>J g<|J (CB' [(0,0),(1,2),(2,4)] [] (ih_ieveryNode_iAttributeUses_1 (m:=m) hq1))<|e
theorem q4l {rec_ieveryNode_iAttributeUses_1:Expr→(List Occurrence)→Option (Bool × (List Occurrence))}(ih_ieveryNode_iAttributeUses_1:∀ {m:Md} {a0:Expr} {o0:(List Occurrence)} {r:(Bool × (List Occurrence))},rec_ieveryNode_iAttributeUses_1 a0 o0=some r→Ok Tryz.prog 87 [Expr.x m a0,.fn 88 [.pb 0 0]] [.box [.ref 1 none],.row .fz 2 (o0.map Occurrence.D)] (dB r.1) [.box [.ref 2 none],.dead,.row .fz 2 (r.2.map Occurrence.D)]){m:Md}{a0:(List Expr)}{o0:(List Occurrence)}{r:(Int × (List Occurrence))}(hr:q3q rec_ieveryNode_iAttributeUses_1 a0 o0=some r):Ok Tryz.prog 165 [.d m (.sl 7 (a0.map Expr.D)),.fn 135 [.pb 1 0]] [.box [.ref 2 none],.box [.fn 88 [.pb 0 0]],.row .fz 2 (o0.map Occurrence.D)] (dI r.1) [.box [.ref 3 none],.box [.fn 88 [.pb 0 0]],.dead,.row .fz 2 (r.2.map Occurrence.D)]:=by
 refine OE Tryz.func165 fun S hS=>?_
 unfold q3q at hr
 refine J (gn 12) ?_
 refine J (q3k 2 3 rfl)<|J (lenT 0)<|fun hl1=>bdE hr fun q1 hqq1 hr=>q0b hqq1 hl1 4 (fun k1 s1=>[(0,.d m (.sl 7 (a0.map Expr.D))),(1,.fn 135 [.pb 1 0]),(7,dI (a0.length:Int)),(8,dI (k1:Int))]) (fun k1 s1=>[(3,.row .fz 2 (s1.map Occurrence.D))]) I (fun k1 xk1 sk1 ok1 hxk1 hr hltk1 hik1=>?_) fun k1 sk1 ek1 hltk1=>?_
 obtain⟨s1,rfl⟩:∃ y,y=sk1:=⟨_,rfl⟩
 refine bdP hr fun y1 z1 hq2 hr=>J g<|J (CB' [(0,0),(1,1),(2,3),(3,4)] [] (q6S ih_ieveryNode_iAttributeUses_1 (m:=m) hq2))<|J (gn 1)<|ifE hr ?_ ?_<;>intro h1 hr
 exact e
 exact e
 subst ek1
 obtain⟨s1,rfl⟩:∃ y,y=sk1:=⟨_,rfl⟩
 exact e
theorem q4e {rec_ieveryNode_iAttributeUses_1:Expr→(List Occurrence)→Option (Bool × (List Occurrence))}(ih_ieveryNode_iAttributeUses_1:∀ {m:Md} {a0:Expr} {o0:(List Occurrence)} {r:(Bool × (List Occurrence))},rec_ieveryNode_iAttributeUses_1 a0 o0=some r→Ok Tryz.prog 87 [Expr.x m a0,.fn 88 [.pb 0 0]] [.box [.ref 1 none],.row .fz 2 (o0.map Occurrence.D)] (dB r.1) [.box [.ref 2 none],.dead,.row .fz 2 (r.2.map Occurrence.D)]){m:Md}{a0:(List Expr)}{o0:(List Occurrence)}{r:(Bool × (List Occurrence))}(hr:q3p rec_ieveryNode_iAttributeUses_1 a0 o0=some r):Ok Tryz.prog 134 [.d m (.sl 7 (a0.map Expr.D)),.fn 135 [.pb 1 0]] [.box [.ref 2 none],.box [.fn 88 [.pb 0 0]],.row .fz 2 (o0.map Occurrence.D)] (dB r.1) [.box [.ref 3 none],.box [.fn 88 [.pb 0 0]],.dead,.row .fz 2 (r.2.map Occurrence.D)]:=by
 refine OE Tryz.func134 fun S hS=>?_
 unfold q3p at hr
 refine bdP hr fun y1 z1 hq1 hr=>J g<|J (CB' [(0,0),(1,1),(2,2),(3,3)] [] (q4l ih_ieveryNode_iAttributeUses_1 (m:=m) hq1))<|e
theorem q7g {rec_ieveryNode_iAttributeUses_1:Expr→(List Occurrence)→Option (Bool × (List Occurrence))}(ih_ieveryNode_iAttributeUses_1:∀ {m:Md} {a0:Expr} {o0:(List Occurrence)} {r:(Bool × (List Occurrence))},rec_ieveryNode_iAttributeUses_1 a0 o0=some r→Ok Tryz.prog 87 [Expr.x m a0,.fn 88 [.pb 0 0]] [.box [.ref 1 none],.row .fz 2 (o0.map Occurrence.D)] (dB r.1) [.box [.ref 2 none],.dead,.row .fz 2 (r.2.map Occurrence.D)]){m:Md}{a0:Expr}{o0:(List Occurrence)}{r:(Bool × (List Occurrence))}(hr:q3J rec_ieveryNode_iAttributeUses_1 a0 o0=some r):Ok Tryz.prog 87 [Expr.x m a0,.fn 88 [.pb 0 0]] [.box [.ref 1 none],.row .fz 2 (o0.map Occurrence.D)] (dB r.1) [.box [.ref 2 none],.dead,.row .fz 2 (r.2.map Occurrence.D)]:=by
 refine OE Tryz.func87 fun S hS=>?_
 unfold q3J at hr
 refine J g<|J (BX' 2)<|J (BX' 3)<|bdP hr fun y1 z1 hq1 hr=>J g<|J (CB' [(0,0),(1,1),(2,4)] [] (z1B (m:=m) hq1))<|ifE hr ?_ ?_<;>intro h1 hr
 refine bdP hr fun y2 z2 hq2 hr=>J g<|J (CB' [(0,0),(1,3),(2,4),(3,5)] [] (q4e ih_ieveryNode_iAttributeUses_1 (m:=m) hq2))<|e
 exact e
theorem q7h (n:Nat):∀ {m:Md} {a0:Expr} {o0:(List Occurrence)} {r:(Bool × (List Occurrence))},q3B n a0 o0=some r→Ok Tryz.prog 87 [Expr.x m a0,.fn 88 [.pb 0 0]] [.box [.ref 1 none],.row .fz 2 (o0.map Occurrence.D)] (dB r.1) [.box [.ref 2 none],.dead,.row .fz 2 (r.2.map Occurrence.D)]:=by
  induction n with
  | zero=>intro _ _ _ r hr; exact nomatch (show (none:Option (Bool × (List Occurrence)))=some r from hr)
  | succ n ih=>intro _ _ _ r hr; exact q7g ih hr
theorem q7I {m:Md}{a0:Expr}{o0:(List Occurrence)}{r:(Bool × (List Occurrence))}(hr:q4g a0 o0=some r):Ok Tryz.prog 87 [Expr.x m a0,.fn 88 [.pb 0 0]] [.box [.ref 1 none],.row .fz 2 (o0.map Occurrence.D)] (dB r.1) [.box [.ref 2 none],.dead,.row .fz 2 (r.2.map Occurrence.D)]:=by
 obtain⟨n,hn⟩:=q4j hr
 exact q7h n hn
theorem q7L {a0:(List Occurrence)}{r:(List Occurrence)}(hr:q3V a0=some r):Ok Tryz.prog 89 [.ref 0 none,.fn 90 []] [.row .fz 2 (a0.map Occurrence.D)] (.tu []) [.row .fz 2 (r.map Occurrence.D)]:=by
 unfold q3V at hr
 refine ggE hr fun g1 hr=>?_
 cases hr
 exact j3P g1
theorem q7U {a0:(List Occurrence)}{r:(List Occurrence)}(hr:q3M a0=some r):Ok Tryz.prog 91 [.ref 0 none] [.row .fz 2 (a0.map Occurrence.D)] (.ref 1 none) [.dead,.row .fz 2 (r.map Occurrence.D)]:=by
 refine OE Tryz.func91 fun S hS=>?_
 unfold q3M at hr
 refine J (gn 11)<|ifE hr ?_ ?_<;>intro h1 hr
 refine J (gn 7) ?_
 refine J (q0f (q1c (i:=0) (j:=1) rfl rfl))<|J g<|E
 refine bdE hr fun q1 hqq1 hr=>J (gn 7)<|AW.cut 1 (fun _=>[(0,.ref 0 none)]) (fun _=>[]) (M:=fun x=>q1 = .inl x) ?_ fun x hx=>?_
 refine J g<|q0h hqq1 1 (fun s1=>[(0,.ref 0 none),(3,dI s1)]) (fun s1=>[]) I fun sk1 ok1 hr hik1=>?_
 obtain⟨s1,rfl⟩:∃ y,y=sk1:=⟨_,rfl⟩
 have hr:=hr
 refine J (gn 8)<|ifE hr ?_ ?_<;>intro h2 hr
 refine ggE hr fun g1 hr=>bdE hr fun x1 hx1 hr=>ggE hr fun g2 hr=>ggE hr fun g3 hr=>bdE hr fun x2 hx2 hr=>J g ?_
 refine J (SQ' rfl rfl rfl rfl (q4G x1 x2))<|J (gn 1)<|ifE hr ?_ ?_<;>intro h3 hr
 refine ggE hr fun g4 hr=>ggE hr fun g5 hr=>J g<|J (SVL' g4 g5)<|bdP hr fun s2 s3 hqq2 hr=>J (gn 7)<|q0g 1 [(0,.ref 0 none),(3,dI s3)] [(0,.row .fz 2 (s2.map Occurrence.D))] ?_ ?_
 refine J g ?_
 refine q0h hqq2 1 (fun (s4,s5,s6)=>[(0,.ref 0 none),(3,dI s5),(4,.vs 0 none s1.toNat (s4.length - s1.toNat)),(5,dI s6)]) (fun (s4,s5,s6)=>[(0,.row .fz 2 (s4.map Occurrence.D))]) (GH.ren hS [(0,0)] 1 ⟨.rfl,.rfl,(.vn (by first | rfl | simp only [List.length_set])),.rfl,trivial⟩) fun sk2 ok2 hr hik2=>?_
 obtain⟨s4,s5,s6⟩:=sk2
 have hr:=hr
 refine J g<|J (LV' (s4.drop s1.toNat).length)<|J (gn 2)<|ifE hr ?_ ?_<;>intro h4 hr
 refine bdP hr fun s7 s8 hqq3 hr=>J (gn 3)<|q0g 1 [(0,.ref 0 none),(3,dI s7),(4,.vs 0 none s1.toNat (s8.length - s1.toNat)),(5,dI s6)] [(0,.row .fz 2 (s8.map Occurrence.D))] ?_ ?_
 replace hr:=hqq3
 refine ggE hr fun g6 hr=>bdE hr fun x3 hx3 hr=>J g<|J (IV' hx3 g6 (z2L hx3))<|ggE hr fun g7 hr=>ggE hr fun g8 hr=>bdE hr fun x4 hx4 hr=>J g<|J (IV' hx4 g8 (z2L hx4))<|J g ?_
 refine J (SQn' rfl rfl rfl rfl (q4G x3 x4))<|J (gn 1)<|ifE hr ?_ ?_<;>intro h5 hr
 refine J (gn 2) ?_
 cases hr
 exact GH.ren hS [(0,0)] 1 ⟨.rfl,.rfl,(.vn (by first | rfl | simp only [List.length_set])),.rfl,trivial⟩
 refine ggE hr fun g9 hr=>J g<|J (IV' hx3 g9 (z2L hx3))<|ggE hr fun g10 hr=>bdE hr fun x5 hx5 hr=>J g<|J (SE' x3 hx5)<|ggE hr fun g11 hr=>J (gn 6) ?_
 cases hr
 exact GH.ren hS [(0,0)] 1 ⟨.rfl,.rfl,(.vn (by first | rfl | simp only [List.length_set])),.rfl,trivial⟩
 refine ggE hr fun g12 hr=>J (gn 5) ?_
 cases hr
 exact⟨_,rfl,GH.ren hS [(0,0)] 1 ⟨.rfl,.rfl,(.vn (by first | rfl | simp only [List.length_set])),.rfl,trivial⟩⟩
 refine J (gn 2) ?_
 cases hr
 cases hik2 _ rfl
 exact q0c hS 1
 refine ggE hr fun g13 hr=>ggE hr fun g14 hr=>J g<|J (SVL' g13 g14)<|J (CLR' (⟨(0:Int),(⟨#[]⟩:ByteArray)⟩:Occurrence) g14)<|ggE hr fun g15 hr=>ggE hr fun g16 hr=>J g<|J (CU' 1 g15 g16)<|e
 refine ggE hr fun g17 hr=>e
 refine J (gn 2) ?_
 cases hr
 cases hik1 _ rfl
 exact⟨_,rfl,q0c hS 1⟩
 subst hx
 refine J (gn 6) ?_
 refine J (q0f (q1c (i:=0) (j:=1) rfl rfl))<|J g<|E
theorem z2T {m:Md}{a0:Expr}{r:(List Occurrence)}(hr:q4Z a0=some r):Ok Tryz.prog 47 [Expr.x m a0] [] (.ref 0 none) [.row .fz 2 (r.map Occurrence.D)]:=by
 refine OE Tryz.func47 fun S hS=>?_
 unfold q4Z at hr
 refine J g<|J (BX' 0)<|J g<|J (L0' 1 Occurrence.D)<|J (NV' 2)<|bdP hr fun y1 z1 hq1 hr=>J g<|J (CB' [(0,2),(1,1),(2,3)] [] (q7I (m:=m) hq1))<|bdE hr fun z2 hz2 hr=>J g<|J (CB' [(0,3)] [] (q7L hz2))<|bdE hr fun y2 hy2 hr=>J g<|J (CB' [(0,3),(1,4)] [] (q7U hy2))<|e
theorem z5D {m:Md}{a0:Grammar}{a1:Tree}{a2:Int}{a3:Occurrence}{r:(Instance × Bool)}(hr:q6K a0 a1 a2 a3=some r):Ok Tryz.prog 48 [.ag [.u,.u],Tree.x m a1,dI a2,Occurrence.x .fz a3] [] (.tu [Instance.x .fz r.1,dB r.2]) []:=by
 refine OE Tryz.func48 fun S hS=>?_
 unfold q6K at hr
 refine J g<|J (BX' 0)<|J (BX' 1)<|J (BX' 2)<|J (NV' 3)<|bdE hr fun y1 hy1 hr=>J g<|J (CB' [] [] (q7f (m:=m) hy1))<|J (gn 2)<|ifE hr ?_ ?_<;>intro h1 hr
 refine J (gn 9)<|ifE hr ?_ ?_<;>intro h2 hr
 refine bdE hr fun y2 hy2 hr=>J g<|J (CB' [] [] (q7f (m:=m) hy2))<|J (gn 2)<|ifE hr ?_ ?_<;>intro h3 hr
 refine ggE hr fun g1 hr=>bdE hr fun x1 hx1 hr=>e
 exact e
 refine ggE hr fun g2 hr=>bdE hr fun x2 hx2 hr=>bdE hr fun y3 hy3 hr=>J g<|J (CB' [] [] (q3W hy3))<|J (gn 2)<|ifE hr ?_ ?_<;>intro h4 hr
 refine ggE hr fun g3 hr=>ggE hr fun g4 hr=>bdE hr fun x3 hx3 hr=>J (gn 14)<|J (q0H .refl)<|bdE hr fun y4 hy4 hr=>J g<|J (CB' [] [] (q7f (m:=m) hy4))<|J (gn 2)<|ifE hr ?_ ?_<;>intro h5 hr
 refine ggE hr fun g5 hr=>bdE hr fun x4 hx4 hr=>e
 exact e
 exact e
 exact e
theorem z8j {m:Md}{a0:(List TraceStep)}{a1:Instance}{r:Int}(hr:q8w a0 a1=some r):Ok Tryz.prog 46 [.d m (.sl 3 (a0.map TraceStep.D)),Instance.x .fz a1] [] (dI r) []:=by
 refine OE Tryz.func46 fun S hS=>?_
 unfold q8w at hr
 refine J g<|J (BX' 0)<|J g<|J (OB' _ (z3A (p:=a0.length) (k:=1) (by decide)))<|bdE hr fun q1 hqq1 hr=>J (gn 2)<|AW.cut 1 (fun _=>[]) (fun _=>[]) (M:=fun x=>q1 = .inl x) ?_ fun x hx=>?_
 refine J g<|q0h hqq1 1 (fun s1=>[(0,.d m (.sl 3 (a0.map TraceStep.D))),(3,.pb 0 0),(5,dI s1)]) (fun s1=>[]) I fun sk1 ok1 hr hik1=>?_
 obtain⟨s1,rfl⟩:∃ y,y=sk1:=⟨_,rfl⟩
 have hr:=hr
 refine J (gn 6)<|ifE hr ?_ ?_<;>intro h1 hr
 refine ggE hr fun g1 hr=>bdE hr fun x1 hx1 hr=>J g ?_
 refine J (SQ' rfl rfl rfl rfl (q8M x1.At a1))<|J (gn 1)<|ifE hr ?_ ?_<;>intro h2 hr
 exact e
 refine ggE hr fun g2 hr=>e
 refine J (gn 2) ?_
 cases hr
 cases hik1 _ rfl
 exact⟨_,rfl,q0c hS 1⟩
 subst hx
 exact e
theorem z1r {m2:Md}{a0:Instance}{a1:Int}{a2:(List TraceStep)}{a3:(List Int)}{a4:(List Int)}{r:Int}(hr:q5I a0 a1 a2 a3 a4=some r):Ok Tryz.prog 45 [Instance.x .fz a0,dI a1,.pb 0 0,.pb 2 0,.pb 1 0] [.box [.d m2 (.sl 3 (a2.map TraceStep.D))],.box [.d m2 (.sl 1 (a4.map (A.D.i .i64)))],.box [.ref 3 none],.row .fz 1 (a3.map (A.D.i .i64))] (dI r) [.box [.d m2 (.sl 3 (a2.map TraceStep.D))],.box [.d m2 (.sl 1 (a4.map (A.D.i .i64)))],.box [.ref 3 none],.row .fz 1 (a3.map (A.D.i .i64))]:=by
 refine OE Tryz.func45 fun S hS=>?_
 unfold q5I at hr
 refine J g<|J (BX' 4)<|ggE hr fun g1 hr=>ggE hr fun g2 hr=>J g<|J (SLH' g1 g2)<|bdE hr fun y1 hy1 hr=>J g<|J (CB' [] [] (z8j (m:=m2) hy1))<|J (gn 8)<|ifE hr ?_ ?_<;>intro h1 hr
 exact e
 refine ggE hr fun g3 hr=>bdE hr fun x1 hx1 hr=>ggE hr fun g4 hr=>bdE hr fun x2 hx2 hr=>e
theorem z9q {m:Md}{a0:Tree}{a1:Int}{r:(List Int)}(hr:q8d a0 a1=some r):Ok Tryz.prog 50 [Tree.x m a0,dI a1] [] (.ref 0 none) [.row .fz 1 (r.map (A.D.i .i64))]:=by
 refine OE Tryz.func50 fun S hS=>?_
 unfold q8d at hr
 refine J g<|J (BX' 0)<|J g<|J (L0' 1 (A.D.i .i64))<|bdE hr fun y1 hy1 hr=>J g<|J (CB' [] [] (q7f (m:=m) hy1))<|J (gn 2)<|ifE hr ?_ ?_<;>intro h1 hr
 refine J g<|J (LIR' 2 (m:=.fz) (f:=(A.D.i .i64)) (xs:=([a1]:List Int)))<|ggE hr fun g1 hr=>bdE hr fun x1 hx1 hr=>ggE hr fun g2 hr=>J g<|J (z9k (f:=(A.D.i .i64)) 3 8 (fun _=>rfl) g2)<|J (gn 4)<|J (lenR 3)<|fun hl1=>bdE hr fun s1 hqq1 hr=>q0d hqq1 hl1 4 (fun k1 s1=>[(2,.pb 0 0),(5,.ref 1 none),(22,.ref 3 none),(23,dI ((([a1]:List Int)++x1.Children).length:Int)),(24,dI (k1:Int))]) (fun k1 s1=>[(1,.row .fz 1 (s1.map (A.D.i .i64))),(2,.none)]) I (fun k1 xk1 sk1 ok1 hxk1 hr hltk1=>?_) fun k1 hltk1=>?_
 obtain⟨s1,rfl⟩:∃ y,y=sk1:=⟨_,rfl⟩
 refine bdE hr fun s2 hqq2 hr=>J (gn 8)<|q0g 4 [(2,.pb 0 0),(5,.ref 1 none),(22,.ref 3 none),(23,dI ((([a1]:List Int)++x1.Children).length:Int)),(24,dI (k1:Int))] [(1,.row .fz 1 (s2.map (A.D.i .i64)))] ?_ ?_
 replace hr:=hqq2
 refine bdE hr fun y2 hy2 hr=>J g<|J (CB' [] [] (q7f (m:=m) hy2))<|J (gn 1)<|ifE hr ?_ ?_<;>intro h2 hr
 refine ggE hr fun g3 hr=>bdE hr fun x2 hx2 hr=>J g<|J (LIR' 4 (m:=.fz) (f:=(A.D.i .i64)) (xs:=([x2.Id]:List Int)))<|ggE hr fun g4 hr=>J (z5A (f:=(A.D.i .i64)) 5 (fun _=>rfl) 8 g4)<|e
 exact e
 exact e
 exact e
 exact e
theorem z5E {rec_iCountExpr:Expr→Option Int}(ih_iCountExpr:∀ {m:Md} {a0:Expr} {r:Int},rec_iCountExpr a0=some r→Ok Tryz.prog 141 [Expr.x m a0] [] (dI r) []){m:Md}{a0:Expr}{r:Int}(hr:q7A rec_iCountExpr a0=some r):Ok Tryz.prog 141 [Expr.x m a0] [] (dI r) []:=by
 refine OE Tryz.func141 fun S hS=>?_
 unfold q7A at hr
 refine J g<|J (BX' 0)<|J (gn 15)<|J (lenA 6 0)<|fun hl1=>bdE hr fun s1 hqq1 hr=>q0d hqq1 hl1 1 (fun k1 s1=>[(3,dI s1),(7,.d m (.sl 7 (a0.Args.map Expr.D))),(8,dI (a0.Args.length:Int)),(9,dI (k1:Int))]) (fun k1 s1=>[]) I (fun k1 xk1 sk1 ok1 hxk1 hr hltk1=>?_) fun k1 hltk1=>?_
 obtain⟨s1,rfl⟩:∃ y,y=sk1:=⟨_,rfl⟩
 refine J g<|J (NV' 1)<|bdE hr fun y1 hy1 hr=>J g<|J (CB' [] [] (ih_iCountExpr (m:=m) hy1))<|ggE hr fun g1 hr=>e
 exact e
theorem z5F (n:Nat):∀ {m:Md} {a0:Expr} {r:Int},q6q n a0=some r→Ok Tryz.prog 141 [Expr.x m a0] [] (dI r) []:=by
  induction n with
  | zero=>intro _ _ r hr; exact nomatch (show (none:Option Int)=some r from hr)
  | succ n ih=>intro _ _ r hr; exact z5E ih hr
theorem z6U {m:Md}{a0:Expr}{r:Int}(hr:z0F a0=some r):Ok Tryz.prog 141 [Expr.x m a0] [] (dI r) []:=by
 obtain⟨n,hn⟩:=q4j hr
 exact z5F n hn
theorem z3H {rec_iDepthOfExpr:Expr→Option Int}(ih_iDepthOfExpr:∀ {m:Md} {a0:Expr} {r:Int},rec_iDepthOfExpr a0=some r→Ok Tryz.prog 142 [Expr.x m a0] [] (dI r) []){m:Md}{a0:Expr}{r:Int}(hr:q5Y rec_iDepthOfExpr a0=some r):Ok Tryz.prog 142 [Expr.x m a0] [] (dI r) []:=by
 refine OE Tryz.func142 fun S hS=>?_
 unfold q5Y at hr
 refine J g<|J (BX' 0)<|J (gn 15)<|J (lenA 6 0)<|fun hl1=>bdE hr fun s1 hqq1 hr=>q0d hqq1 hl1 1 (fun k1 s1=>[(3,dI s1),(7,.d m (.sl 7 (a0.Args.map Expr.D))),(8,dI (a0.Args.length:Int)),(9,dI (k1:Int))]) (fun k1 s1=>[]) I (fun k1 xk1 sk1 ok1 hxk1 hr hltk1=>?_) fun k1 hltk1=>?_
 obtain⟨s1,rfl⟩:∃ y,y=sk1:=⟨_,rfl⟩
 refine J g<|J (NV' 1)<|bdE hr fun y1 hy1 hr=>J g<|J (CB' [] [] (ih_iDepthOfExpr (m:=m) hy1)) ?_
 refine J (MXI' rfl rfl)<|J g<|E
 refine ggE hr fun g1 hr=>e
theorem z3I (n:Nat):∀ {m:Md} {a0:Expr} {r:Int},q4q n a0=some r→Ok Tryz.prog 142 [Expr.x m a0] [] (dI r) []:=by
  induction n with
  | zero=>intro _ _ r hr; exact nomatch (show (none:Option Int)=some r from hr)
  | succ n ih=>intro _ _ r hr; exact z3H ih hr
theorem z4U {m:Md}{a0:Expr}{r:Int}(hr:q9p a0=some r):Ok Tryz.prog 142 [Expr.x m a0] [] (dI r) []:=by
 obtain⟨n,hn⟩:=q4j hr
 exact z3I n hn
theorem j1q {a0:Int}{r:Bool}(hr:z2g a0=some r):Ok Tryz.prog 200 [dI a0] [] (dB r) []:=by
 refine OE Tryz.func200 fun S hS=>?_
 unfold z2g at hr
 refine bdE hr fun y1 hy1 hr=>J g<|J (CB' [] [] (q3W hy1))<|e
theorem q9c {a0:Int}{r:Int}(hr:q6m a0=some r):Ok Tryz.prog 183 [dI a0] [] (dI r) []:=by
 refine OE Tryz.func183 fun S hS=>?_
 unfold q6m at hr
 refine J g ?_
 refine J (MNI' rfl rfl) ?_
 refine J (MXI' rfl rfl)<|J g<|E
theorem z2j {a0:Bool}{r:Int}(hr:q9W a0=some r):Ok Tryz.prog 184 [dB a0] [] (dI r) []:=by
 refine OE Tryz.func184 fun S hS=>?_
 unfold q9W at hr
 refine J (gn 9)<|ifE hr ?_ ?_<;>intro h1 hr
 exact e
 exact e
theorem z2U {a0:Int}{a1:Int}{r:Int}(hr:q8y a0 a1=some r):Ok Tryz.prog 182 [dI a0,dI a1] [] (dI r) []:=by
 refine OE Tryz.func182 fun S hS=>?_
 unfold q8y at hr
 refine J (gn 12)<|ifE hr ?_ ?_<;>intro h1 hr
 refine bdE hr fun y1 hy1 hr=>J g<|J (CB' [] [] (q9c hy1))<|e
 refine J (gn 7)<|ifE hr ?_ ?_<;>intro h2 hr
 refine J g<|J (OB' _ j6K)<|e
 refine J (gn 7)<|ifE hr ?_ ?_<;>intro h3 hr
 refine bdE hr fun y2 hy2 hr=>J g<|J (CB' [] [] (z2j hy2))<|e
 refine J (gn 5)<|ifE hr ?_ ?_<;>intro h4 hr
 refine bdE hr fun y3 hy3 hr=>J g<|J (CB' [] [] (q3W hy3))<|J (gn 3)<|ifE hr ?_ ?_<;>intro h5 hr
 exact e
 exact e
 exact e
theorem z8k {a0:Int}{a1:Int}{r:Bool}(hr:q8z a0 a1=some r):Ok Tryz.prog 178 [dI a0,dI a1] [] (dB r) []:=by
 refine OE Tryz.func178 fun S hS=>?_
 unfold q8z at hr
 refine bdE hr fun y1 hy1 hr=>J g<|J (CB' [] [] (j1q hy1))<|ifE hr ?_ ?_<;>intro h1 hr
 refine bdE hr fun y2 hy2 hr=>J g<|J (CB' [] [] (z2U hy2))<|e
 exact e
theorem q4R {m:Md}{a0:Expr}{a1:Expr}{r:Bool}(hr:q4h a0 a1=some r):Ok Tryz.prog 180 [Expr.x m a0,Expr.x m a1] [] (dB r) []:=by
 refine OE Tryz.func180 fun S hS=>?_
 unfold q4h at hr
 refine J g<|J (BX' 0)<|J (BX' 1)<|bdE hr fun s1 hqq1 hr=>J (gn 9)<|q0a 7 [(2,.pb 0 0),(3,.pb 1 0),(4,dB false),(16,dB s1)] ?_ ?_
 replace hr:=hqq1
 refine ifE hr ?_ ?_<;>intro h1 hr
 exact e
 exact e
 refine bdE hr fun s2 hqq2 hr=>q0a 7 [(2,.pb 0 0),(3,.pb 1 0),(4,dB false),(23,dB s2)] ?_ ?_
 replace hr:=hqq2
 refine ifE hr ?_ ?_<;>intro h2 hr
 exact e
 exact e
 refine bdE hr fun s3 hqq3 hr=>q0a 7 [(2,.pb 0 0),(3,.pb 1 0),(4,dB false),(30,dB s3)] ?_ ?_
 replace hr:=hqq3
 refine ifE hr ?_ ?_<;>intro h3 hr
 exact e
 exact e
 refine bdE hr fun s4 hqq4 hr=>q0a 7 [(2,.pb 0 0),(3,.pb 1 0),(4,dB false),(37,dB s4)] ?_ ?_
 replace hr:=hqq4
 refine ifE hr ?_ ?_<;>intro h4 hr
 exact e
 exact e
 refine bdE hr fun s5 hqq5 hr=>q0a 7 [(4,dB false),(44,dB s5)] ?_ ?_
 replace hr:=hqq5
 refine ifE hr ?_ ?_<;>intro h5 hr
 exact e
 exact e
 exact e
theorem z4V {a0:UInt8}{r:Bool}(hr:q8e a0=some r):Ok Tryz.prog 201 [.d .fz (.i .u8 (a0.toNat:Int))] [] (dB r) []:=by
 refine OE Tryz.func201 fun S hS=>?_
 unfold q8e at hr
 refine J (gn 8)<|ifE hr ?_ ?_<;>intro h1 hr
 exact e
 exact e
theorem z9r {a0:UInt8}{r:Bool}(hr:q9E a0=some r):Ok Tryz.prog 202 [.d .fz (.i .u8 (a0.toNat:Int))] [] (dB r) []:=by
 refine OE Tryz.func202 fun S hS=>?_
 unfold q9E at hr
 refine J (gn 8)<|ifE hr ?_ ?_<;>intro h1 hr
 exact e
 exact e
theorem z5G {a0:ByteArray}{r:Bool}(hr:q6L a0=some r):Ok Tryz.prog 203 [dS a0] [] (dB r) []:=by
 refine OE Tryz.func203 fun S hS=>?_
 unfold q6L at hr
 refine J (gn 16)<|ifE hr ?_ ?_<;>intro h1 hr
 refine J (gn 2)<|ifE hr ?_ ?_<;>intro h2 hr
 exact e
 exact e
 refine J (gn 6)<|ifE hr ?_ ?_<;>intro h3 hr
 refine J (gn 2)<|ifE hr ?_ ?_<;>intro h4 hr
 exact e
 exact e
 refine J (gn 6)<|ifE hr ?_ ?_<;>intro h5 hr
 refine J (gn 2)<|ifE hr ?_ ?_<;>intro h6 hr
 exact e
 exact e
 refine J (gn 6)<|ifE hr ?_ ?_<;>intro h7 hr
 refine J (gn 2)<|ifE hr ?_ ?_<;>intro h8 hr
 exact e
 exact e
 refine J (gn 6)<|ifE hr ?_ ?_<;>intro h9 hr
 refine J (gn 2)<|ifE hr ?_ ?_<;>intro h10 hr
 exact e
 exact e
 refine J (gn 6)<|ifE hr ?_ ?_<;>intro h11 hr
 refine J (gn 2)<|ifE hr ?_ ?_<;>intro h12 hr
 exact e
 exact e
 refine J (gn 6)<|ifE hr ?_ ?_<;>intro h13 hr
 refine J (gn 2)<|ifE hr ?_ ?_<;>intro h14 hr
 exact e
 exact e
 refine J (gn 6)<|ifE hr ?_ ?_<;>intro h15 hr
 refine J (gn 2)<|ifE hr ?_ ?_<;>intro h16 hr
 exact e
 exact e
 refine J (gn 6)<|ifE hr ?_ ?_<;>intro h17 hr
 refine J (gn 2)<|ifE hr ?_ ?_<;>intro h18 hr
 exact e
 exact e
 refine J (gn 6)<|ifE hr ?_ ?_<;>intro h19 hr
 refine J (gn 2)<|ifE hr ?_ ?_<;>intro h20 hr
 exact e
 exact e
 refine J (gn 6)<|ifE hr ?_ ?_<;>intro h21 hr
 refine J (gn 2)<|ifE hr ?_ ?_<;>intro h22 hr
 exact e
 exact e
 refine J (gn 6)<|ifE hr ?_ ?_<;>intro h23 hr
 refine J (gn 2)<|ifE hr ?_ ?_<;>intro h24 hr
 exact e
 exact e
 refine J (gn 5)<|ifE hr ?_ ?_<;>intro h25 hr
 exact e
 exact e
theorem q8C {a0:ByteArray}{r:Bool}(hr:q4I a0=some r):Ok Tryz.prog 179 [dS a0] [] (dB r) []:=by
 refine OE Tryz.func179 fun S hS=>?_
 unfold q4I at hr
 refine J g<|J LS'<|J (gn 3)<|J (rngT 5)<|fun hl1=>bdE hr fun q1 hqq1 hr=>q0p hqq1 0 (fun k1 _=>[(0,dS a0),(5,dI (a0.size:Int)),(6,dI (k1:Int))]) (fun k1 _=>[]) I (fun k1 sk1 ok1 hr hltk1 hik1=>?_) fun sk1 ek1=>?_
 refine bdE hr fun x1 hx1 hr=>J g ?_
 refine J (SI' rfl rfl (Int.natCast_nonneg _) hx1)<|bdE hr fun y1 hy1 hr=>J (CB' [] [] (z4V hy1))<|J (gn 1)<|ifE hr ?_ ?_<;>intro h1 hr
 exact e
 refine J g ?_
 refine J (SI' rfl rfl (Int.natCast_nonneg _) hx1)<|bdE hr fun y2 hy2 hr=>J (CB' [] [] (z9r hy2))<|J (gn 3)<|ifE hr ?_ ?_<;>intro h2 hr
 exact e
 exact e
 subst ek1
 refine J g<|J LS'<|bdE hr fun y3 hy3 hr=>J (CB' [] [] (q3W hy3))<|bdE hr fun s1 hqq2 hr=>q0a 5 [(0,dS a0),(29,dB s1)] ?_ ?_
 replace hr:=hqq2
 refine ifE hr ?_ ?_<;>intro h3 hr
 refine bdE hr fun x2 hx2 hr=>J g ?_
 refine J (SI' rfl rfl (Int.natCast_nonneg _) hx2)<|bdE hr fun y4 hy4 hr=>J (CB' [] [] (z4V hy4))<|J g<|E
 exact e
 refine bdE hr fun s2 hqq3 hr=>q0a 5 [(34,dB s2)] ?_ ?_
 replace hr:=hqq3
 refine ifE hr ?_ ?_<;>intro h4 hr
 refine bdE hr fun y5 hy5 hr=>J g<|J (CB' [] [] (z5G hy5))<|e
 exact e
 exact e
theorem z5H {m:Md}{a0:Expr}{r:Bool}(hr:q6M a0=some r):Ok Tryz.prog 143 [Expr.x m a0] [] (dB r) []:=by
 refine OE Tryz.func143 fun S hS=>?_
 unfold q6M at hr
 refine J g<|J (BX' 0)<|J g<|J (NV' 1)<|J (gn 18)<|ifE hr ?_ ?_<;>intro h1 hr
 refine bdE hr fun s1 hqq1 hr=>J (gn 17)<|q0a 8 [(1,.pb 0 0),(3,.pb 1 0),(4,dI 0),(30,dB s1)] ?_ ?_
 replace hr:=hqq1
 refine ifE hr ?_ ?_<;>intro h2 hr
 exact e
 refine bdE hr fun y1 hy1 hr=>J g<|J (CB' [] [] (z8k hy1))<|e
 refine bdE hr fun s2 hqq2 hr=>q0a 5 [(1,.pb 0 0),(3,.pb 1 0),(4,dI 0),(35,dB s2)] ?_ ?_
 replace hr:=hqq2
 refine ifE hr ?_ ?_<;>intro h3 hr
 exact e
 exact e
 refine J (gn 1)<|ifE hr ?_ ?_<;>intro h4 hr
 exact e
 refine bdE hr fun s3 hqq3 hr=>J (gn 9)<|q0a 5 [(1,.pb 0 0),(3,.pb 1 0),(94,dB s3)] ?_ ?_
 replace hr:=hqq3
 refine ifE hr ?_ ?_<;>intro h5 hr
 refine bdE hr fun y2 hy2 hr=>J g<|J (CB' [] [] (q3W hy2))<|e
 exact e
 refine bdE hr fun s4 hqq4 hr=>q0a 5 [(99,dB s4)] ?_ ?_
 replace hr:=hqq4
 refine ifE hr ?_ ?_<;>intro h6 hr
 refine bdE hr fun y3 hy3 hr=>J g<|J (CB' [] [] (q4R (m:=m) hy3))<|e
 exact e
 exact e
 refine J (gn 6)<|ifE hr ?_ ?_<;>intro h7 hr
 refine bdE hr fun y4 hy4 hr=>J g<|J (CB' [] [] (q8C hy4))<|J (gn 2)<|ifE hr ?_ ?_<;>intro h8 hr
 refine bdE hr fun s5 hqq5 hr=>J (gn 9)<|q0a 5 [(1,.pb 0 0),(2,dB false),(3,.pb 1 0),(94,dB s5)] ?_ ?_
 replace hr:=hqq5
 refine ifE hr ?_ ?_<;>intro h9 hr
 refine bdE hr fun y5 hy5 hr=>J g<|J (CB' [] [] (q3W hy5))<|e
 exact e
 refine bdE hr fun s6 hqq6 hr=>q0a 5 [(2,dB false),(99,dB s6)] ?_ ?_
 replace hr:=hqq6
 refine ifE hr ?_ ?_<;>intro h10 hr
 refine bdE hr fun y6 hy6 hr=>J g<|J (CB' [] [] (q4R (m:=m) hy6))<|e
 exact e
 exact e
 exact e
 refine J (gn 6)<|ifE hr ?_ ?_<;>intro h11 hr
 refine bdE hr fun y7 hy7 hr=>J g<|J (CB' [] [] (q3W hy7))<|J (gn 2)<|ifE hr ?_ ?_<;>intro h12 hr
 refine bdE hr fun s7 hqq7 hr=>J (gn 9)<|q0a 5 [(1,.pb 0 0),(2,dB false),(3,.pb 1 0),(94,dB s7)] ?_ ?_
 replace hr:=hqq7
 refine ifE hr ?_ ?_<;>intro h13 hr
 refine bdE hr fun y8 hy8 hr=>J g<|J (CB' [] [] (q3W hy8))<|e
 exact e
 refine bdE hr fun s8 hqq8 hr=>q0a 5 [(2,dB false),(99,dB s8)] ?_ ?_
 replace hr:=hqq8
 refine ifE hr ?_ ?_<;>intro h14 hr
 refine bdE hr fun y9 hy9 hr=>J g<|J (CB' [] [] (q4R (m:=m) hy9))<|e
 exact e
 exact e
 exact e
 refine J (gn 6)<|ifE hr ?_ ?_<;>intro h15 hr
 refine bdE hr fun s9 hqq9 hr=>J (gn 11)<|q0a 5 [(1,.pb 0 0),(2,dB false),(3,.pb 1 0),(94,dB s9)] ?_ ?_
 replace hr:=hqq9
 refine ifE hr ?_ ?_<;>intro h16 hr
 refine bdE hr fun y10 hy10 hr=>J g<|J (CB' [] [] (q3W hy10))<|e
 exact e
 refine bdE hr fun s10 hqq10 hr=>q0a 5 [(2,dB false),(99,dB s10)] ?_ ?_
 replace hr:=hqq10
 refine ifE hr ?_ ?_<;>intro h17 hr
 refine bdE hr fun y11 hy11 hr=>J g<|J (CB' [] [] (q4R (m:=m) hy11))<|e
 exact e
 exact e
 refine J (gn 6)<|ifE hr ?_ ?_<;>intro h18 hr
 refine bdE hr fun s11 hqq11 hr=>J (gn 14)<|q0a 5 [(1,.pb 0 0),(2,dB false),(3,.pb 1 0),(94,dB s11)] ?_ ?_
 replace hr:=hqq11
 refine ifE hr ?_ ?_<;>intro h19 hr
 refine bdE hr fun y12 hy12 hr=>J g<|J (CB' [] [] (q3W hy12))<|e
 exact e
 refine bdE hr fun s12 hqq12 hr=>q0a 5 [(2,dB false),(99,dB s12)] ?_ ?_
 replace hr:=hqq12
 refine ifE hr ?_ ?_<;>intro h20 hr
 refine bdE hr fun y13 hy13 hr=>J g<|J (CB' [] [] (q4R (m:=m) hy13))<|e
 exact e
 exact e
 refine J (gn 6)<|ifE hr ?_ ?_<;>intro h21 hr
 refine bdE hr fun y14 hy14 hr=>J g<|J (CB' [] [] (q8C hy14))<|bdE hr fun s13 hqq13 hr=>J (gn 1)<|q0a 6 [(1,.pb 0 0),(3,.pb 1 0),(4,dI 1),(81,dB s13)] ?_ ?_
 replace hr:=hqq13
 refine ifE hr ?_ ?_<;>intro h22 hr
 refine bdE hr fun y15 hy15 hr=>J g<|J (CB' [] [] (q8C hy15))<|e
 exact e
 refine J (gn 1)<|ifE hr ?_ ?_<;>intro h23 hr
 exact e
 refine bdE hr fun s14 hqq14 hr=>J (gn 9)<|q0a 5 [(1,.pb 0 0),(3,.pb 1 0),(94,dB s14)] ?_ ?_
 replace hr:=hqq14
 refine ifE hr ?_ ?_<;>intro h24 hr
 refine bdE hr fun y16 hy16 hr=>J g<|J (CB' [] [] (q3W hy16))<|e
 exact e
 refine bdE hr fun s15 hqq15 hr=>q0a 5 [(99,dB s15)] ?_ ?_
 replace hr:=hqq15
 refine ifE hr ?_ ?_<;>intro h25 hr
 refine bdE hr fun y17 hy17 hr=>J g<|J (CB' [] [] (q4R (m:=m) hy17))<|e
 exact e
 exact e
 refine J (gn 7)<|ifE hr ?_ ?_<;>intro h26 hr
 refine J (gn 2)<|ifE hr ?_ ?_<;>intro h27 hr
 refine bdE hr fun s16 hqq16 hr=>J (gn 9)<|q0a 5 [(1,.pb 0 0),(2,dB false),(3,.pb 1 0),(94,dB s16)] ?_ ?_
 replace hr:=hqq16
 refine ifE hr ?_ ?_<;>intro h28 hr
 refine bdE hr fun y18 hy18 hr=>J g<|J (CB' [] [] (q3W hy18))<|e
 exact e
 refine bdE hr fun s17 hqq17 hr=>q0a 5 [(2,dB false),(99,dB s17)] ?_ ?_
 replace hr:=hqq17
 refine ifE hr ?_ ?_<;>intro h29 hr
 refine bdE hr fun y19 hy19 hr=>J g<|J (CB' [] [] (q4R (m:=m) hy19))<|e
 exact e
 exact e
 exact e
 refine J (gn 5)<|ifE hr ?_ ?_<;>intro h30 hr
 refine bdE hr fun s18 hqq18 hr=>J (gn 9)<|q0a 5 [(1,.pb 0 0),(2,dB false),(3,.pb 1 0),(94,dB s18)] ?_ ?_
 replace hr:=hqq18
 refine ifE hr ?_ ?_<;>intro h31 hr
 refine bdE hr fun y20 hy20 hr=>J g<|J (CB' [] [] (q3W hy20))<|e
 exact e
 refine bdE hr fun s19 hqq19 hr=>q0a 5 [(2,dB false),(99,dB s19)] ?_ ?_
 replace hr:=hqq19
 refine ifE hr ?_ ?_<;>intro h32 hr
 refine bdE hr fun y21 hy21 hr=>J g<|J (CB' [] [] (q4R (m:=m) hy21))<|e
 exact e
 exact e
 exact e
theorem q8D {rec_ieveryNode_iexprNodeOk:Expr→Option Bool}(ih_ieveryNode_iexprNodeOk:∀ {m:Md} {a0:Expr} {r:Bool},rec_ieveryNode_iexprNodeOk a0=some r→Ok Tryz.prog 87 [Expr.x m a0,.fn 143 []] [] (dB r) []){m:Md}{a0:Expr}{r:Bool}(hr:q3X rec_ieveryNode_iexprNodeOk a0=some r):Ok Tryz.prog 135 [Expr.x m a0,.pb 0 0] [.box [.fn 143 []]] (dB r) [.box [.fn 143 []]]:=by
 refine OE Tryz.func135 fun S hS=>?_
 unfold q3X at hr
 refine J g<|J (BX' 1)<|bdE hr fun y1 hy1 hr=>J g<|J (CB' [] [] (ih_ieveryNode_iexprNodeOk (m:=m) hy1))<|e
theorem q4y {rec_ieveryNode_iexprNodeOk:Expr→Option Bool}(ih_ieveryNode_iexprNodeOk:∀ {m:Md} {a0:Expr} {r:Bool},rec_ieveryNode_iexprNodeOk a0=some r→Ok Tryz.prog 87 [Expr.x m a0,.fn 143 []] [] (dB r) []){m:Md}{a0:(List Expr)}{r:Int}(hr:q3v rec_ieveryNode_iexprNodeOk a0=some r):Ok Tryz.prog 165 [.d m (.sl 7 (a0.map Expr.D)),.fn 135 [.pb 0 0]] [.box [.fn 143 []]] (dI r) [.box [.fn 143 []]]:=by
 refine OE Tryz.func165 fun S hS=>?_
 unfold q3v at hr
 refine J (gn 12)<|J (lenT 0)<|fun hl1=>bdE hr fun q1 hqq1 hr=>q0b hqq1 hl1 1 (fun k1 _=>[(0,.d m (.sl 7 (a0.map Expr.D))),(1,.fn 135 [.pb 0 0]),(7,dI (a0.length:Int)),(8,dI (k1:Int))]) (fun k1 _=>[]) I (fun k1 xk1 sk1 ok1 hxk1 hr hltk1 hik1=>?_) fun k1 sk1 ek1 hltk1=>?_
 refine bdE hr fun y1 hy1 hr=>J g<|J (CB' [(0,0)] [] (q8D ih_ieveryNode_iexprNodeOk (m:=m) hy1))<|J (gn 1)<|ifE hr ?_ ?_<;>intro h1 hr
 exact e
 exact e
 subst ek1
 exact e
theorem q4t {rec_ieveryNode_iexprNodeOk:Expr→Option Bool}(ih_ieveryNode_iexprNodeOk:∀ {m:Md} {a0:Expr} {r:Bool},rec_ieveryNode_iexprNodeOk a0=some r→Ok Tryz.prog 87 [Expr.x m a0,.fn 143 []] [] (dB r) []){m:Md}{a0:(List Expr)}{r:Bool}(hr:q3r rec_ieveryNode_iexprNodeOk a0=some r):Ok Tryz.prog 134 [.d m (.sl 7 (a0.map Expr.D)),.fn 135 [.pb 0 0]] [.box [.fn 143 []]] (dB r) [.box [.fn 143 []]]:=by
 refine OE Tryz.func134 fun S hS=>?_
 unfold q3r at hr
 refine bdE hr fun y1 hy1 hr=>J g<|J (CB' [(0,0)] [] (q4y ih_ieveryNode_iexprNodeOk (m:=m) hy1))<|e
theorem q8K {rec_ieveryNode_iexprNodeOk:Expr→Option Bool}(ih_ieveryNode_iexprNodeOk:∀ {m:Md} {a0:Expr} {r:Bool},rec_ieveryNode_iexprNodeOk a0=some r→Ok Tryz.prog 87 [Expr.x m a0,.fn 143 []] [] (dB r) []){m:Md}{a0:Expr}{r:Bool}(hr:q3T rec_ieveryNode_iexprNodeOk a0=some r):Ok Tryz.prog 87 [Expr.x m a0,.fn 143 []] [] (dB r) []:=by
 refine OE Tryz.func87 fun S hS=>?_
 unfold q3T at hr
 refine J g<|J (BX' 0)<|J (BX' 1)<|bdE hr fun y1 hy1 hr=>J g<|J (CB' [] [] (z5H (m:=m) hy1))<|ifE hr ?_ ?_<;>intro h1 hr
 refine bdE hr fun y2 hy2 hr=>J g<|J (CB' [(0,1)] [] (q4t ih_ieveryNode_iexprNodeOk (m:=m) hy2))<|e
 exact e
theorem q8L (n:Nat):∀ {m:Md} {a0:Expr} {r:Bool},q3U n a0=some r→Ok Tryz.prog 87 [Expr.x m a0,.fn 143 []] [] (dB r) []:=by
  induction n with
  | zero=>intro _ _ r hr; exact nomatch (show (none:Option Bool)=some r from hr)
  | succ n ih=>intro _ _ r hr; exact q8K ih hr
theorem q9q {m:Md}{a0:Expr}{r:Bool}(hr:q4O a0=some r):Ok Tryz.prog 87 [Expr.x m a0,.fn 143 []] [] (dB r) []:=by
 obtain⟨n,hn⟩:=q4j hr
 exact q8L n hn
theorem z4W {m:Md}{a0:Expr}{r:Bool}(hr:q5Z a0=some r):Ok Tryz.prog 93 [Expr.x m a0] [] (dB r) []:=by
 refine OE Tryz.func93 fun S hS=>?_
 unfold q5Z at hr
 refine J g<|J (BX' 0)<|bdE hr fun y1 hy1 hr=>J g<|J (CB' [] [] (z6U (m:=m) hy1))<|bdE hr fun s1 hqq1 hr=>J (gn 1)<|q0a 5 [(1,.pb 0 0),(2,dB false),(10,dB s1)] ?_ ?_
 replace hr:=hqq1
 refine ifE hr ?_ ?_<;>intro h1 hr
 refine bdE hr fun y2 hy2 hr=>J g<|J (CB' [] [] (z4U (m:=m) hy2))<|e
 exact e
 refine bdE hr fun s2 hqq2 hr=>q0a 4 [(2,dB false),(14,dB s2)] ?_ ?_
 replace hr:=hqq2
 refine ifE hr ?_ ?_<;>intro h2 hr
 refine bdE hr fun y3 hy3 hr=>J g<|J (CB' [] [] (q9q (m:=m) hy3))<|e
 exact e
 exact e
theorem z6V {m:Md}{a0:(List Slot)}{a1:Occurrence}{r:Int}(hr:q8U a0 a1=some r):Ok Tryz.prog 95 [.d m (.sl 3 (a0.map Slot.D)),Occurrence.x .fz a1] [] (dI r) []:=by
 refine OE Tryz.func95 fun S hS=>?_
 unfold q8U at hr
 refine J g<|J (BX' 0)<|J (gn 10)<|J (lenT 0)<|fun hl1=>bdE hr fun q1 hqq1 hr=>q0b hqq1 hl1 1 (fun k1 _=>[(3,.pb 0 0),(7,.d m (.sl 3 (a0.map Slot.D))),(8,dI (a0.length:Int)),(9,dI (k1:Int))]) (fun k1 _=>[]) I (fun k1 xk1 sk1 ok1 hxk1 hr hltk1 hik1=>?_) fun k1 sk1 ek1 hltk1=>?_
 refine J g<|J (NV' 1)<|J g ?_
 refine J (SQ' rfl rfl rfl rfl (q4G xk1.At a1))<|J (gn 1)<|ifE hr ?_ ?_<;>intro h1 hr
 exact e
 exact e
 subst ek1
 exact e
theorem z4X {m2:Md}{a0:Occurrence}{a1:(List Slot)}{r:Int}(hr:q7o a0 a1=some r):Ok Tryz.prog 94 [Occurrence.x .fz a0,.pb 0 0] [.box [.d m2 (.sl 3 (a1.map Slot.D))]] (dI r) [.box [.d m2 (.sl 3 (a1.map Slot.D))]]:=by
 refine OE Tryz.func94 fun S hS=>?_
 unfold q7o at hr
 refine J g<|J (BX' 1)<|bdE hr fun y1 hy1 hr=>J g<|J (CB' [] [] (z6V (m:=m2) hy1))<|e
theorem z3J {a0:Int}{r:(Int × Int × Int)}(hr:q5w a0=some r):Ok Tryz.prog 181 [dI a0] [] (.tu [dI r.1,dI r.2.1,dI r.2.2]) []:=by
 refine OE Tryz.func181 fun S hS=>?_
 unfold q5w at hr
 refine bdE hr fun s1 hqq1 hr=>J (gn 18)<|q0g 0 [(5,dI a0),(6,dB s1)] [] ?_ ?_
 replace hr:=hqq1
 refine ifE hr ?_ ?_<;>intro h1 hr
 exact e
 refine J (gn 6)<|ifE hr ?_ ?_<;>intro h2 hr
 exact e
 refine J (gn 6)<|ifE hr ?_ ?_<;>intro h3 hr
 exact e
 refine J (gn 6)<|ifE hr ?_ ?_<;>intro h4 hr
 exact e
 exact e
 refine ifE hr ?_ ?_<;>intro h5 hr
 exact e
 refine bdE hr fun s2 hqq2 hr=>J (gn 7)<|q0g 0 [(5,dI a0),(12,dB s2)] [] ?_ ?_
 replace hr:=hqq2
 refine ifE hr ?_ ?_<;>intro h6 hr
 exact e
 refine J (gn 6)<|ifE hr ?_ ?_<;>intro h7 hr
 exact e
 exact e
 refine ifE hr ?_ ?_<;>intro h8 hr
 exact e
 refine J (gn 7)<|ifE hr ?_ ?_<;>intro h9 hr
 refine J (gn 2)<|ifE hr ?_ ?_<;>intro h10 hr
 exact e
 refine J (gn 6)<|ifE hr ?_ ?_<;>intro h11 hr
 exact e
 refine J (gn 6)<|ifE hr ?_ ?_<;>intro h12 hr
 exact e
 exact e
 refine J (gn 5)<|ifE hr ?_ ?_<;>intro h13 hr
 exact e
 refine J (gn 6)<|ifE hr ?_ ?_<;>intro h14 hr
 exact e
 refine J (gn 6)<|ifE hr ?_ ?_<;>intro h15 hr
 exact e
 exact e
theorem z9s {a0:Int}{a1:Int}{a2:Int}{r:Int}(hr:q9F a0 a1 a2=some r):Ok Tryz.prog 144 [dI a0,dI a1,dI a2] [] (dI r) []:=by
 refine OE Tryz.func144 fun S hS=>?_
 unfold q9F at hr
 refine bdT hr fun y1 y2 y3 hq1 hr=>J g<|J (CB' [] [] (z3J hq1))<|bdE hr fun y4 hy4 hr=>J g<|J (CB' [] [] (z2U hy4))<|bdE hr fun y5 hy5 hr=>J g<|J (CB' [] [] (z2U hy5))<|J (gn 14)<|ifE hr ?_ ?_<;>intro h1 hr
 refine ggE hr fun g1 hr=>bdE hr fun y6 hy6 hr=>J g<|J (CB' [] [] (q9c hy6))<|e
 refine J (gn 6)<|ifE hr ?_ ?_<;>intro h2 hr
 refine ggE hr fun g2 hr=>bdE hr fun y7 hy7 hr=>J g<|J (CB' [] [] (q9c hy7))<|e
 refine J (gn 6)<|ifE hr ?_ ?_<;>intro h3 hr
 refine ggE hr fun g3 hr=>J g<|J (OB' _ (bMul g3))<|bdE hr fun y8 hy8 hr=>J (CB' [] [] (q9c hy8))<|e
 refine J (gn 6)<|ifE hr ?_ ?_<;>intro h4 hr
 refine J g ?_
 refine J (MXI' rfl rfl)<|J g<|E
 refine J (gn 6)<|ifE hr ?_ ?_<;>intro h5 hr
 refine J g ?_
 refine J (MNI' rfl rfl)<|J g<|E
 refine J (gn 6)<|ifE hr ?_ ?_<;>intro h6 hr
 refine ggE hr fun g4 hr=>J g<|J (OB' _ (bOrI g4))<|e
 refine J (gn 6)<|ifE hr ?_ ?_<;>intro h7 hr
 refine ggE hr fun g5 hr=>J g<|J (OB' _ (j3I g5))<|e
 refine J (gn 6)<|ifE hr ?_ ?_<;>intro h8 hr
 refine J g<|J (OB' _ j0F)<|e
 refine J (gn 6)<|ifE hr ?_ ?_<;>intro h9 hr
 refine bdE hr fun y9 hy9 hr=>J g<|J (CB' [] [] (z2j hy9))<|e
 refine J (gn 6)<|ifE hr ?_ ?_<;>intro h10 hr
 refine bdE hr fun y10 hy10 hr=>J g<|J (CB' [] [] (z2j hy10))<|e
 refine J (gn 6)<|ifE hr ?_ ?_<;>intro h11 hr
 refine bdE hr fun y11 hy11 hr=>J g<|J (CB' [] [] (q3W hy11))<|ifE hr ?_ ?_<;>intro h12 hr
 refine ggE hr fun g6 hr=>J g ?_
 refine J (CIU' g6 rfl)<|ggE hr fun g7 hr=>J (OB' _ (j6M g7))<|ggE hr fun g8 hr=>J (OB' _ (j3I g8))<|bdE hr fun y12 hy12 hr=>J g<|J (CB' [] [] (z2j hy12))<|J g<|E
 refine bdE hr fun y13 hy13 hr=>J g<|J (CB' [] [] (z2j hy13))<|e
 refine J (gn 6)<|ifE hr ?_ ?_<;>intro h13 hr
 refine bdE hr fun y14 hy14 hr=>J g<|J (CB' [] [] (q3W hy14))<|J (gn 1)<|ifE hr ?_ ?_<;>intro h14 hr
 refine ggE hr fun g9 hr=>J g ?_
 refine J (CIU' g9 rfl)<|ggE hr fun g10 hr=>J (OB' _ (j6L g10))<|ggE hr fun g11 hr=>J (OB' _ (bOrI g11))<|J g<|E
 exact e
 exact e
theorem z9t {m:Md}{a0:Int}{a1:Expr}{r:Int}(hr:z2Q a0 a1=some r):Ok Tryz.prog 96 [dI a0,Expr.x m a1] [] (dI r) []:=by
 refine OE Tryz.func96 fun S hS=>?_
 unfold z2Q at hr
 refine J g<|J (BX' 0)<|e
theorem q5O {rec_ireader_eval_iEvalLocal_1_inowhere:(List Slot)→Int→(List Int)→Expr→Option Int}(ih_ireader_eval_iEvalLocal_1_inowhere:∀ {m:Md} {m2:Md} {a0_0_0:(List Slot)} {a0_2:Int} {a0_3:(List Int)} {a1:Expr} {r:Int},rec_ireader_eval_iEvalLocal_1_inowhere a0_0_0 a0_2 a0_3 a1=some r→Ok Tryz.prog 97 [.ag [.fn 94 [.pb 0 0],.fn 96 [],dI a0_2,.d m (.sl 1 (a0_3.map (A.D.i .i64)))],Expr.x m a1] [.box [.d m2 (.sl 3 (a0_0_0.map Slot.D))]] (dI r) [.box [.d m2 (.sl 3 (a0_0_0.map Slot.D))]]){m:Md}{m2:Md}{a0_0_0:(List Slot)}{a0_2:Int}{a0_3:(List Int)}{a1:Expr}{r:Int}(hr:q3z rec_ireader_eval_iEvalLocal_1_inowhere a0_0_0 a0_2 a0_3 a1=some r):Ok Tryz.prog 97 [.ag [.fn 94 [.pb 0 0],.fn 96 [],dI a0_2,.d m (.sl 1 (a0_3.map (A.D.i .i64)))],Expr.x m a1] [.box [.d m2 (.sl 3 (a0_0_0.map Slot.D))]] (dI r) [.box [.d m2 (.sl 3 (a0_0_0.map Slot.D))]]:=by
 refine OE Tryz.func97 fun S hS=>?_
 unfold q3z at hr
 refine J g<|J (BX' 1)<|J (BX' 2)<|J (gn 14)<|ifE hr ?_ ?_<;>intro h1 hr
 exact e
 refine J (gn 6)<|ifE hr ?_ ?_<;>intro h2 hr
 exact e
 refine J (gn 6)<|ifE hr ?_ ?_<;>intro h3 hr
 refine bdE hr fun y1 hy1 hr=>J g<|J (CB' [(0,0)] [] (z4X (m2:=m2) hy1))<|e
 refine J (gn 6)<|ifE hr ?_ ?_<;>intro h4 hr
 refine bdE hr fun x1 hx1 hr=>bdE hr fun y2 hy2 hr=>J g<|CBK2 [(0,0)] [] [] (ih_ireader_eval_iEvalLocal_1_inowhere (m:=m) (m2:=m2) hy2) ?_
 refine bdE hr fun x2 hx2 hr=>bdE hr fun y3 hy3 hr=>J g<|CBK2 [(0,0)] [] [] (ih_ireader_eval_iEvalLocal_1_inowhere (m:=m) (m2:=m2) hy3) ?_
 refine bdE hr fun y4 hy4 hr=>J (CB' [] [] (z9s hy4))<|e
 refine J (gn 6)<|ifE hr ?_ ?_<;>intro h5 hr
 refine bdE hr fun x3 hx3 hr=>bdE hr fun y5 hy5 hr=>J g<|CBK2 [(0,0)] [] [] (ih_ireader_eval_iEvalLocal_1_inowhere (m:=m) (m2:=m2) hy5) ?_
 refine J (gn 2)<|ifE hr ?_ ?_<;>intro h6 hr
 refine bdE hr fun x4 hx4 hr=>bdE hr fun y6 hy6 hr=>J g<|CBK2 [(0,0)] [] [] (ih_ireader_eval_iEvalLocal_1_inowhere (m:=m) (m2:=m2) hy6) ?_
 exact e
 refine bdE hr fun x5 hx5 hr=>bdE hr fun y7 hy7 hr=>J g<|CBK2 [(0,0)] [] [] (ih_ireader_eval_iEvalLocal_1_inowhere (m:=m) (m2:=m2) hy7) ?_
 exact e
 refine J (gn 6)<|ifE hr ?_ ?_<;>intro h7 hr
 refine J (gn 10)<|ifE hr ?_ ?_<;>intro h8 hr
 refine ggE hr fun g1 hr=>bdE hr fun x6 hx6 hr=>e
 exact e
 refine J (gn 6)<|ifE hr ?_ ?_<;>intro h9 hr
 refine bdE hr fun x7 hx7 hr=>bdE hr fun y8 hy8 hr=>J g<|CBK2 [(0,0)] [] [] (ih_ireader_eval_iEvalLocal_1_inowhere (m:=m) (m2:=m2) hy8) ?_
 refine bdE hr fun y9 hy9 hr=>J g<|J (CB' [] [] (z9t (m:=m) hy9))<|e
 exact e
theorem q5P (n:Nat):∀ {m:Md} {m2:Md} {a0_0_0:(List Slot)} {a0_2:Int} {a0_3:(List Int)} {a1:Expr} {r:Int},q3s n a0_0_0 a0_2 a0_3 a1=some r→Ok Tryz.prog 97 [.ag [.fn 94 [.pb 0 0],.fn 96 [],dI a0_2,.d m (.sl 1 (a0_3.map (A.D.i .i64)))],Expr.x m a1] [.box [.d m2 (.sl 3 (a0_0_0.map Slot.D))]] (dI r) [.box [.d m2 (.sl 3 (a0_0_0.map Slot.D))]]:=by
  induction n with
  | zero=>intro _ _ _ _ _ _ r hr; exact nomatch (show (none:Option Int)=some r from hr)
  | succ n ih=>intro _ _ _ _ _ _ r hr; exact q5O ih hr
theorem q5S {m:Md}{m2:Md}{a0_0_0:(List Slot)}{a0_2:Int}{a0_3:(List Int)}{a1:Expr}{r:Int}(hr:q3Q a0_0_0 a0_2 a0_3 a1=some r):Ok Tryz.prog 97 [.ag [.fn 94 [.pb 0 0],.fn 96 [],dI a0_2,.d m (.sl 1 (a0_3.map (A.D.i .i64)))],Expr.x m a1] [.box [.d m2 (.sl 3 (a0_0_0.map Slot.D))]] (dI r) [.box [.d m2 (.sl 3 (a0_0_0.map Slot.D))]]:=by
 obtain⟨n,hn⟩:=q4j hr
 exact q5P n hn
theorem z6W {m:Md}{a0:Expr}{a1:(List Slot)}{a2:Int}{a3:(List Int)}{r:(Int × (List Int))}(hr:q7B a0 a1 a2 a3=some r):Ok Tryz.prog 49 [Expr.x m a0,.d m (.sl 3 (a1.map Slot.D)),dI a2,.ref 0 none] [.row .fz 1 (a3.map (A.D.i .i64))] (dI r.1) [.dead]:=by
 refine OE Tryz.func49 fun S hS=>?_
 unfold q7B at hr
 refine J g<|J (BX' 1)<|J (BX' 2)<|bdE hr fun y1 hy1 hr=>J g<|J (CB' [] [] (z4W (m:=m) hy1))<|J (gn 2)<|ifE hr ?_ ?_<;>intro h1 hr
 refine J (gn 9) ?_
 refine J (q0s 0 rfl)<|bdE hr fun y2 hy2 hr=>J (CB' [(0,2)] [] (q5S (m:=m) (m2:=m) hy2))<|J g<|E
 refine J (gn 6) ?_
 refine J (q0f (q1c (i:=0) (j:=3) rfl rfl))<|J g<|E
theorem z3r {m:Md}{a0:Grammar}{a1:Tree}{a2:(List TraceStep)}{a3:(List Int)}{a4:(List Instance)}{r:((List Int) × Bool)}(hr:q7c a0 a1 a2 a3 a4=some r):Ok Tryz.prog 14 [Grammar.x m a0,Tree.x m a1,.d m (.sl 3 (a2.map TraceStep.D)),.d m (.sl 1 (a3.map (A.D.i .i64))),.d m (.sl 2 (a4.map Instance.D))] [] (.tu [.ref 0 none,dB r.2]) [.row .fz 1 (r.1.map (A.D.i .i64))]:=by
 refine OE Tryz.func14 fun S hS=>?_
 unfold q7c at hr
 refine J g<|J (BX' 0)<|J (BX' 1)<|J (BX' 2)<|J (BX' 3)<|bdE hr fun y1 hy1 hr=>J g<|J (CB' [] [] (z5B (m:=m) hy1))<|J (gn 2)<|ifE hr ?_ ?_<;>intro h1 hr
 refine ggE hr fun g1 hr=>J g<|J (MKR' 4 (f:=(A.D.i .i64)) (0:Int) g1.1 g1.2.1 g1.2.2)<|J (NV' 5)<|J (gn 10)<|J (lenT 3)<|fun hl1=>bdE hr fun q1 hqq1 hr=>q0b hqq1 hl1 6 (fun k1 _=>[(4,.d m (.sl 2 (a4.map Instance.D))),(5,.pb 0 0),(6,.pb 1 0),(7,.pb 2 0),(8,.pb 3 0),(12,.pb 5 0),(38,.d m (.sl 1 (a3.map (A.D.i .i64)))),(39,dI (a3.length:Int)),(40,dI (k1:Int))]) (fun k1 _=>[]) I (fun k1 xk1 sk1 ok1 hxk1 hr hltk1 hik1=>?_) fun k1 sk1 ek1 hltk1=>?_
 refine bdE hr fun x1 hx1 hr=>bdP hr fun y2 y3 hq2 hr=>J g<|J (CB' [(0,6)] [] (z0j (m:=m) hq2))<|J g<|J (NV' 7)<|J (gn 7)<|ifE hr ?_ ?_<;>intro h2 hr
 refine J (gn 7)<|ifE hr ?_ ?_<;>intro h3 hr
 refine J (gn 7) ?_
 refine J (q0f (q0C (t:=10) (r:=8) .fz 1 rfl rfl))<|J g<|E
 exact e
 refine J (gn 14) ?_
 refine J (q0f (q0C (t:=10) (r:=8) .fz 1 rfl rfl))<|J g<|E
 subst ek1
 refine J (gn 20)<|J (lenT 66)<|fun hl2=>bdE hr fun s1 hqq3 hr=>q0d hqq3 hl2 6 (fun k2 s1=>[(4,.d m (.sl 2 (a4.map Instance.D))),(5,.pb 0 0),(6,.pb 1 0),(7,.pb 2 0),(8,.pb 3 0),(12,.pb 5 0),(17,.fn 45 [.pb 2 0,.pb 5 0,.pb 3 0]),(66,.d m (.sl 3 (a2.map TraceStep.D))),(67,dI (a2.length:Int)),(68,dI (k2:Int))]) (fun k2 s1=>[(4,.row .fz 1 (s1.map (A.D.i .i64)))]) I (fun k2 xk2 sk2 ok2 hxk2 hr hltk2=>?_) fun k2 hltk2=>?_
 obtain⟨s1,rfl⟩:∃ y,y=sk2:=⟨_,rfl⟩
 refine J g<|J (NV' 6)<|bdP hr fun y4 y5 hq4 hr=>J g<|J (CB' [(0,7)] [] (z0j (m:=m) hq4))<|J g<|J (NV' 8)<|J g<|J (L0' 9 Slot.D)<|bdE hr fun y6 hy6 hr=>J g<|J (CB' [(0,10)] [7] (z2T (m:=.bo) hy6))<|J (gn 4)<|J (lenR 10)<|fun hl3=>bdE hr fun s2 hqq5 hr=>q0d hqq5 hl3 11 (fun k3 s2=>[(4,.d m (.sl 2 (a4.map Instance.D))),(5,.pb 0 0),(6,.pb 1 0),(7,.pb 2 0),(8,.pb 3 0),(12,.pb 5 0),(17,.fn 45 [.pb 2 0,.pb 5 0,.pb 3 0]),(18,dI (k2:Int)),(20,.pb 8 0),(22,.ref 9 none),(66,.d m (.sl 3 (a2.map TraceStep.D))),(67,dI (a2.length:Int)),(68,dI (k2:Int)),(84,.ref 10 none),(85,dI (y6.length:Int)),(86,dI (k3:Int))]) (fun k3 s2=>[(9,.row .fz 3 (s2.map Slot.D))]) I (fun k3 xk3 sk3 ok3 hxk3 hr hltk3=>?_) fun k3 hltk3=>?_
 obtain⟨s2,rfl⟩:∃ y,y=sk3:=⟨_,rfl⟩
 refine J g<|J (NV' 11)<|bdP hr fun y7 y8 hq6 hr=>J g<|J (CB' [] [] (z5D (m:=m) hq6))<|J g<|J (NV' 12)<|bdE hr fun y9 hy9 hr=>J g<|CBK2 [(0,2),(1,3),(2,5),(3,4)] [] [] (z1r (m2:=m) hy9) ?_
 refine J g<|J (LIR' 13 (m:=.fz) (f:=Slot.D) (xs:=[(⟨xk3,y9⟩:Slot)]))<|ggE hr fun g2 hr=>J (z5A (f:=Slot.D) 14 (fun _=>rfl) 32 g2)<|J (q0H .refl)<|e
 refine bdE hr fun x2 hx2 hr=>ggE hr fun g3 hr=>bdE hr fun x3 hx3 hr=>bdE hr fun y10 hy10 hr=>J g<|J (CB' [(0,11)] [] (z9q (m:=m) hy10))<|bdP hr fun y11 z1 hq7 hr=>J (CB' [(0,11)] [7,9] (z6W (m:=.bo) hq7))<|ggE hr fun g4 hr=>bdE hr fun x4 hx4 hr=>J g<|J (SE' y11 hx4)<|e
 refine J g<|J (L0' 6 (A.D.i .i64))<|J (gn 10)<|J (lenT 4)<|fun hl4=>bdE hr fun s3 hqq8 hr=>q0d hqq8 hl4 7 (fun k4 s3=>[(7,.pb 2 0),(17,.fn 45 [.pb 2 0,.pb 5 0,.pb 3 0]),(27,.ref 6 none),(132,.d m (.sl 2 (a4.map Instance.D))),(133,dI (a4.length:Int)),(134,dI (k4:Int))]) (fun k4 s3=>[(6,.row .fz 1 (s3.map (A.D.i .i64)))]) I (fun k4 xk4 sk4 ok4 hxk4 hr hltk4=>?_) fun k4 hltk4=>?_
 obtain⟨s3,rfl⟩:∃ y,y=sk4:=⟨_,rfl⟩
 refine J g<|J (NV' 7)<|bdE hr fun y12 hy12 hr=>J g<|J (CB' [(0,2),(1,3),(2,5),(3,4)] [] (z1r (m2:=m) hy12))<|J (LIR' 8 (m:=.fz) (f:=(A.D.i .i64)) (xs:=([y12]:List Int)))<|ggE hr fun g5 hr=>J (z5A (f:=(A.D.i .i64)) 9 (fun _=>rfl) 8 g5)<|e
 exact e
 refine J (gn 7) ?_
 refine J (q0f (q0C (t:=10) (r:=4) .fz 1 rfl rfl))<|J g<|E
end Go.Proofs.YtaholdflpgcndaaGreat
