/- What some functions of the program compute, as partial functions on plain data, and that they do; each lemma bears its conditions in its statement. -/
import Derived.Test.YtipikecbeganoaaGreatDef
set_option linter.unusedVariables false
set_option linter.unusedSimpArgs false
set_option linter.ambiguousOpen false
set_option linter.unusedSectionVars false
set_option linter.unnecessarySimpa false
set_option maxRecDepth 100000
set_option maxHeartbeats 40000000
noncomputable section
namespace Go.Proofs.YtipikecbeganoaaGreat
open Go Go.E Go.A
theorem z3J {m:Md}{a0:Gm_}{a1:ByteArray}{r:Int}(hr:z0s a0 a1=some r):Ok Tryz.prog 23 [Gm_.y m a0,dS a1] [] (dI r) []:=by
 refine OE Tryz.func23 fun S hS=>?_
 unfold z0s at hr
 refine J g<|J (BX' 0)<|J (gn 8)<|J (lenA 0 0)<|fun hl1=>bdE hr fun q1 hqq1 hr=>q0b hqq1 hl1 1 (fun k1 _=>[(1,dS a1),(2,.pb 0 0),(5,dI (k1:Int))]) (fun k1 _=>[]) I (fun k1 xk1 sk1 ok1 hxk1 hr hltk1 hik1=>?_) fun k1 sk1 ek1 hltk1=>?_
 refine J (gn 24)<|ifE hr ?_ ?_<;>intro h1 hr
 exact e
 exact e
 subst ek1
 exact e
theorem q5F {a0:Int}{a1:Int}{a2:Int}{r:Bool}(hr:q5v a0 a1 a2=some r):Ok Tryz.prog 125 [dI a0,dI a1,dI a2] [] (dB r) []:=by
 refine OE Tryz.func125 fun S hS=>?_
 unfold q5v at hr
 refine J (gn 9)<|ifE hr ?_ ?_<;>intro h1 hr
 exact e
 exact e
theorem j8Z {a0:ByteArray}{r:Bool}(hr:z7B a0=some r):Ok Tryz.prog 243 [dS a0] [] (dB r) []:=by
 refine OE Tryz.func243 fun S hS=>?_
 unfold z7B at hr
 refine J (gn 10) ?_
 refine q2Z (.tmp 0 rfl) fun ht1=>?_
 have hl1:rngI .i64 (a0.size:Int):=k5q ht1
 refine bdE hr fun q1 hqq1 hr=>q0u hqq1 0 (fun k1 _=>[(0,dS a0),(3,dI (k1:Int))]) (fun k1 _=>[]) I (fun k1 sk1 ok1 hr hltk1 hik1=>?_) fun sk1 ek1=>?_
 refine J g<|J LS'<|bdE hr fun x1 hx1 hr=>J g ?_
 refine J (SI' rfl rfl (Int.natCast_nonneg _) hx1)<|bdE hr fun s1 hqq2 hr=>J (gn 1)<|q0a 6 [(0,dS a0),(3,dI (k1:Int)),(21,dB s1)] ?_ ?_
 replace hr:=hqq2
 refine ifE hr ?_ ?_<;>intro h1 hr
 refine J g ?_
 refine J (SI' rfl rfl (Int.natCast_nonneg _) hx1)<|J g<|E
 exact e
 refine J g ?_
 refine J (SI' rfl rfl (Int.natCast_nonneg _) hx1)<|bdE hr fun s2 hqq3 hr=>J (gn 1)<|q0a 6 [(0,dS a0),(3,dI (k1:Int)),(4,dB s1),(31,dB s2)] ?_ ?_
 replace hr:=hqq3
 refine ifE hr ?_ ?_<;>intro h2 hr
 refine J g ?_
 refine J (SI' rfl rfl (Int.natCast_nonneg _) hx1)<|J g<|E
 exact e
 refine bdE hr fun s3 hqq4 hr=>J (gn 6)<|q0a 8 [(0,dS a0),(3,dI (k1:Int)),(41,dB s3)] ?_ ?_
 replace hr:=hqq4
 refine ifE hr ?_ ?_<;>intro h3 hr
 exact e
 refine bdP hr fun s4 s5 hqq5 hr=>J (gn 3)<|q0a 4 [(0,dS a0),(3,dI (k1:Int)),(34,dB true),(35,dI (k1:Int)),(36,dB (decide ((k1:Int)=0))),(37,dB s4),(40,dB s5)] ?_ ?_
 replace hr:=hqq5
 refine ifE hr ?_ ?_<;>intro h4 hr
 exact e
 exact e
 exact e
 refine J (gn 1)<|ifE hr ?_ ?_<;>intro h5 hr
 exact e
 exact e
 subst ek1
 refine J g<|J LS'<|J g<|J LS'<|e
theorem j3U {r:(List ByteArray)}(hr:z2E=some r):Ok Tryz.prog 260 [] [] (.ref 0 none) [.row .fz 1 (r.map A.D.s)]:=by
 refine OE Tryz.func260 fun S hS=>?_
 unfold z2E at hr
 refine J g<|J (LIR' 0 (m:=.fz) (f:=A.D.s) (xs:=[(⟨#[105,102]⟩:ByteArray),(⟨#[116,104,101,110]⟩:ByteArray),(⟨#[101,108,115,101]⟩:ByteArray),(⟨#[116,114,117,101]⟩:ByteArray),(⟨#[102,97,108,115,101]⟩:ByteArray),(⟨#[108,105,116]⟩:ByteArray),(⟨#[110,111,110,101]⟩:ByteArray),(⟨#[115,101,108,102]⟩:ByteArray),(⟨#[111,102]⟩:ByteArray),(⟨#[109,97,120]⟩:ByteArray),(⟨#[109,105,110]⟩:ByteArray),(⟨#[119,105,116,104]⟩:ByteArray),(⟨#[104,97,115]⟩:ByteArray)]))<|e
theorem z9y {m:Md}{a0:(List ByteArray)}{a1:ByteArray}{r:Bool}(hr:z1M a0 a1=some r):Ok Tryz.prog 172 [.d m (.sl 1 (a0.map A.D.s)),dS a1] [] (dB r) []:=by
 refine OE Tryz.func172 fun S hS=>?_
 unfold z1M at hr
 refine J (gn 10)<|J (lenT 0)<|fun hl1=>bdE hr fun q1 hqq1 hr=>q0b hqq1 hl1 0 (fun k1 _=>[(0,.d m (.sl 1 (a0.map A.D.s))),(1,dS a1),(5,dI (k1:Int))]) (fun k1 _=>[]) I (fun k1 xk1 sk1 ok1 hxk1 hr hltk1 hik1=>?_) fun k1 sk1 ek1 hltk1=>?_
 refine J (gn 21)<|ifE hr ?_ ?_<;>intro h1 hr
 exact e
 exact e
 subst ek1
 exact e
theorem j3V {a0:ByteArray}{r:Bool}(hr:z0t a0=some r):Ok Tryz.prog 244 [dS a0] [] (dB r) []:=by
 refine OE Tryz.func244 fun S hS=>?_
 unfold z0t at hr
 refine bdE hr fun y1 hy1 hr=>J g<|J (CB' [(0,0)] [] (j3U hy1))<|bdE hr fun y2 hy2 hr=>J g<|J (CB' [] [0] (z9y (m:=.bo) hy2))<|e
theorem q5r {a0:ByteArray}{r:Bool}(hr:q4N a0=some r):Ok Tryz.prog 216 [dS a0] [] (dB r) []:=by
 refine OE Tryz.func216 fun S hS=>?_
 unfold q4N at hr
 refine bdE hr fun y1 hy1 hr=>J g<|J (CB' [] [] (j8Z hy1))<|bdE hr fun s1 hqq1 hr=>q0a 5 [(0,dS a0),(2,dB false),(9,dB s1)] ?_ ?_
 replace hr:=hqq1
 refine ifE hr ?_ ?_<;>intro h1 hr
 refine J g<|J LS'<|e
 exact e
 refine bdE hr fun s2 hqq2 hr=>q0a 5 [(2,dB false),(14,dB s2)] ?_ ?_
 replace hr:=hqq2
 refine ifE hr ?_ ?_<;>intro h2 hr
 refine bdE hr fun y2 hy2 hr=>J g<|J (CB' [] [] (j3V hy2))<|e
 exact e
 exact e
theorem z7N {a0:At_}{r:Bool}(hr:q6M a0=some r):Ok Tryz.prog 215 [At_.x .fz a0] [] (dB r) []:=by
 refine OE Tryz.func215 fun S hS=>?_
 unfold q6M at hr
 refine J g<|J (BX' 0)<|bdE hr fun y1 hy1 hr=>J g<|J (CB' [] [] (q5r hy1))<|bdE hr fun s1 hqq1 hr=>J (gn 1)<|q0a 6 [(1,.pb 0 0),(12,dB s1)] ?_ ?_
 replace hr:=hqq1
 refine ifE hr ?_ ?_<;>intro h1 hr
 refine bdE hr fun y2 hy2 hr=>J g<|J (CB' [] [] (q5F hy2))<|e
 exact e
 refine bdE hr fun s2 hqq2 hr=>q0a 6 [(1,.pb 0 0),(18,dB s2)] ?_ ?_
 replace hr:=hqq2
 refine ifE hr ?_ ?_<;>intro h2 hr
 exact e
 refine bdE hr fun y3 hy3 hr=>J g<|J (CB' [] [] (q5F hy3))<|e
 refine J (gn 1)<|ifE hr ?_ ?_<;>intro h3 hr
 exact e
 refine bdE hr fun s3 hqq3 hr=>J (gn 8)<|q0a 9 [(1,.pb 0 0),(30,dB s3)] ?_ ?_
 replace hr:=hqq3
 refine ifE hr ?_ ?_<;>intro h4 hr
 refine bdE hr fun s4 hqq4 hr=>J (gn 4)<|q0a 4 [(1,.pb 0 0),(22,dB true),(29,dB s4)] ?_ ?_
 replace hr:=hqq4
 refine ifE hr ?_ ?_<;>intro h5 hr
 exact e
 exact e
 exact e
 exact e
 refine J (gn 1)<|ifE hr ?_ ?_<;>intro h6 hr
 exact e
 refine bdE hr fun s5 hqq5 hr=>J (gn 7)<|q0a 5 [(38,dB s5)] ?_ ?_
 replace hr:=hqq5
 refine ifE hr ?_ ?_<;>intro h7 hr
 exact e
 exact e
 exact e
theorem j2U {m:Md}{a0:(List ByteArray)}{r:Bool}(hr:q9t a0=some r):Ok Tryz.prog 217 [.d m (.sl 1 (a0.map A.D.s))] [] (dB r) []:=by
 refine OE Tryz.func217 fun S hS=>?_
 unfold q9t at hr
 refine J (gn 10)<|J (lenT 0)<|fun hl1=>bdE hr fun q1 hqq1 hr=>q0b hqq1 hl1 0 (fun k1 _=>[(0,.d m (.sl 1 (a0.map A.D.s))),(3,dI (k1:Int))]) (fun k1 _=>[]) I (fun k1 xk1 sk1 ok1 hxk1 hr hltk1 hik1=>?_) fun k1 sk1 ek1 hltk1=>?_
 refine ggE hr fun g1 hr=>J g<|J (SLH' (Int.natCast_nonneg _) g1)<|bdE hr fun y1 hy1 hr=>J g<|J (CB' [] [] (z9y (m:=m) hy1))<|J (gn 1)<|ifE hr ?_ ?_<;>intro h1 hr
 exact e
 exact e
 subst ek1
 exact e
theorem j0i {m:Md}{a0:Symbol}{r:Bool}(hr:q8c a0=some r):Ok Tryz.prog 171 [Symbol.x m a0] [] (dB r) []:=by
 refine OE Tryz.func171 fun S hS=>?_
 unfold q8c at hr
 refine J g<|J (BX' 0)<|J g<|J (L0' 1 A.D.s)<|J (gn 8)<|J (lenA 1 0)<|fun hl1=>bdE hr fun q1 hqq1 hr=>q0b hqq1 hl1 2 (fun k1 s1=>[(1,.pb 0 0),(3,.ref 1 none),(4,dI (k1:Int))]) (fun k1 s1=>[(1,.row .fz 1 (s1.map A.D.s))]) I (fun k1 xk1 sk1 ok1 hxk1 hr hltk1 hik1=>?_) fun k1 sk1 ek1 hltk1=>?_
 obtain⟨s1,rfl⟩:∃ y,y=sk1:=⟨_,rfl⟩
 refine bdE hr fun y1 hy1 hr=>J g<|J (CB' [] [] (z7N hy1))<|J (gn 2)<|ifE hr ?_ ?_<;>intro h1 hr
 refine J g<|J (LIR' 2 (m:=.fz) (f:=A.D.s) (xs:=[xk1.Name]))<|ggE hr fun g1 hr=>J (q9P (f:=A.D.s) 3 (fun _=>rfl) 16 g1)<|e
 exact e
 subst ek1
 obtain⟨s1,rfl⟩:∃ y,y=sk1:=⟨_,rfl⟩
 refine bdE hr fun y2 hy2 hr=>J g<|J (CB' [] [] (q5r hy2))<|bdE hr fun s2 hqq2 hr=>q0a 5 [(3,.ref 1 none),(36,dB s2)] ?_ ?_
 replace hr:=hqq2
 refine ifE hr ?_ ?_<;>intro h2 hr
 exact e
 exact e
 refine bdE hr fun s3 hqq3 hr=>q0a 4 [(40,dB s3)] ?_ ?_
 replace hr:=hqq3
 refine ifE hr ?_ ?_<;>intro h3 hr
 refine bdE hr fun y3 hy3 hr=>J g<|J (CB' [] [1] (j2U (m:=.bo) hy3))<|e
 exact e
 exact e
theorem j9a {Rc2:Expr→Int→Option Int}(Ic2:∀ {m:Md} {a0:Expr} {a1:Int} {r:Int},Rc2 a0 a1=some r→Ok Tryz.prog 261 [Expr.x m a0,dI a1] [] (dI r) []){m:Md}{a0:Expr}{a1:Int}{r:Int}(hr:z6t Rc2 a0 a1=some r):Ok Tryz.prog 261 [Expr.x m a0,dI a1] [] (dI r) []:=by
 refine OE Tryz.func261 fun S hS=>?_
 unfold z6t at hr
 refine J g<|J (BX' 0)<|ggE hr fun g1 hr=>bdE hr fun s1 hqq1 hr=>J (gn 13)<|q0e 1 [(1,dI s1)] [] ?_ ?_
 refine J g<|q0h hqq1 1 (fun (s2,s3)=>[(1,dI s2),(2,.pb 0 0),(5,dI s3)]) (fun (s2,s3)=>[]) I fun sk1 ok1 hr hik1=>?_
 obtain⟨s2,s3⟩:=sk1
 have hr:=hr
 refine J (gn 8)<|ifE hr ?_ ?_<;>intro h1 hr
 refine J (gn 5)<|ifE hr ?_ ?_<;>intro h2 hr
 refine ggE hr fun g2 hr=>bdE hr fun x1 hx1 hr=>bdE hr fun y1 hy1 hr=>J g<|J (CB' [] [] (Ic2 (m:=m) hy1))<|ggE hr fun g3 hr=>e
 refine J (gn 2) ?_
 cases hr
 cases hik1 _ rfl
 exact q0f hS 1
 refine J (gn 7) ?_
 cases hr
 cases hik1 _ rfl
 exact q0f hS 1
 exact e
theorem j9b (n:Nat):∀ {m:Md} {a0:Expr} {a1:Int} {r:Int},z3k n a0 a1=some r→Ok Tryz.prog 261 [Expr.x m a0,dI a1] [] (dI r) []:=by
  induction n with
  | zero=>intro _ _ _ r hr;exact nomatch (show (none:Option Int)=some r from hr)
  | succ n ih=>intro _ _ _ r hr;exact j9a ih hr
theorem k1Q {m:Md}{a0:Expr}{a1:Int}{r:Int}(hr:j2w a0 a1=some r):Ok Tryz.prog 261 [Expr.x m a0,dI a1] [] (dI r) []:=by
 obtain⟨n,hn⟩:=q5J hr
 exact j9b n hn
theorem z6W {a0:Int}{a1:Int}{r:Int}(hr:z0v a0 a1=some r):Ok Tryz.prog 85 [dI a0,dI a1] [] (dI r) []:=by
 refine OE Tryz.func85 fun S hS=>?_
 unfold z0v at hr
 refine J (gn 11)<|ifE hr ?_ ?_<;>intro h1 hr
 exact e
 exact e
theorem j1q {Rc3:Expr→Option Int}(Ic3:∀ {m:Md} {a0:Expr} {r:Int},Rc3 a0=some r→Ok Tryz.prog 262 [Expr.x m a0] [] (dI r) []){m:Md}{a0:Expr}{r:Int}(hr:q9u Rc3 a0=some r):Ok Tryz.prog 262 [Expr.x m a0] [] (dI r) []:=by
 refine OE Tryz.func262 fun S hS=>?_
 unfold q9u at hr
 refine J g<|J (BX' 0)<|J (gn 12)<|J (lenA 6 0)<|fun hl1=>bdE hr fun s1 hqq1 hr=>q0c hqq1 hl1 1 (fun k1 s1=>[(1,.pb 0 0),(3,dI s1),(4,dI (k1:Int))]) (fun k1 s1=>[]) I (fun k1 xk1 sk1 ok1 hxk1 hr hltk1=>?_) fun k1 hltk1=>?_
 obtain⟨s1,rfl⟩:∃ y,y=sk1:=⟨_,rfl⟩
 refine bdE hr fun y1 hy1 hr=>J g<|J (CB' [] [] (Ic3 (m:=m) hy1))<|bdE hr fun y2 hy2 hr=>J (CB' [] [] (z6W hy2))<|e
 refine ggE hr fun g1 hr=>e
theorem j1r (n:Nat):∀ {m:Md} {a0:Expr} {r:Int},q6B n a0=some r→Ok Tryz.prog 262 [Expr.x m a0] [] (dI r) []:=by
  induction n with
  | zero=>intro _ _ r hr;exact nomatch (show (none:Option Int)=some r from hr)
  | succ n ih=>intro _ _ r hr;exact j1q ih hr
theorem j2V {m:Md}{a0:Expr}{r:Int}(hr:z4s a0=some r):Ok Tryz.prog 262 [Expr.x m a0] [] (dI r) []:=by
 obtain⟨n,hn⟩:=q5J hr
 exact j1r n hn
theorem k1R {m:Md}{a0:Expr}{r:Bool}(hr:z6u a0=some r):Ok Tryz.prog 287 [Expr.x m a0] [] (dB r) []:=by
 refine OE Tryz.func287 fun S hS=>?_
 unfold z6u at hr
 refine J g<|J (BX' 0)<|bdE hr fun s1 hqq1 hr=>J (gn 12)<|q0e 1 [(1,.pb 0 0),(3,dI s1)] [] ?_ ?_
 replace hr:=hqq1
 refine J (gn 6)<|ifE hr ?_ ?_<;>intro h1 hr
 exact e
 refine J (gn 6)<|ifE hr ?_ ?_<;>intro h2 hr
 exact e
 refine J (gn 6)<|ifE hr ?_ ?_<;>intro h3 hr
 exact e
 exact e
 refine J (gn 9)<|ifE hr ?_ ?_<;>intro h4 hr
 refine bdE hr fun s2 hqq2 hr=>J (gn 7)<|q0a 5 [(1,.pb 0 0),(27,dB s2)] ?_ ?_
 replace hr:=hqq2
 refine ifE hr ?_ ?_<;>intro h5 hr
 exact e
 exact e
 refine bdE hr fun s3 hqq3 hr=>J (gn 7)<|q0a 5 [(1,.pb 0 0),(4,dB s2),(35,dB s3)] ?_ ?_
 replace hr:=hqq3
 refine ifE hr ?_ ?_<;>intro h6 hr
 exact e
 exact e
 refine bdE hr fun s4 hqq4 hr=>J (gn 7)<|q0a 5 [(1,.pb 0 0),(4,dB s2),(5,dB s3),(43,dB s4)] ?_ ?_
 replace hr:=hqq4
 refine ifE hr ?_ ?_<;>intro h7 hr
 exact e
 exact e
 refine bdE hr fun s5 hqq5 hr=>J (gn 5)<|q0a 5 [(1,.pb 0 0),(5,dB s3),(6,dB s4),(49,dB s5)] ?_ ?_
 replace hr:=hqq5
 refine ifE hr ?_ ?_<;>intro h8 hr
 exact e
 exact e
 refine bdE hr fun s6 hqq6 hr=>q0a 8 [(1,.pb 0 0),(6,dB s4),(57,dB s6)] ?_ ?_
 replace hr:=hqq6
 refine ifE hr ?_ ?_<;>intro h9 hr
 refine bdE hr fun s7 hqq7 hr=>J (gn 2)<|q0a 5 [(1,.pb 0 0),(6,dB s4),(50,dB true),(56,dB s7)] ?_ ?_
 replace hr:=hqq7
 refine ifE hr ?_ ?_<;>intro h10 hr
 exact e
 exact e
 exact e
 exact e
 refine bdE hr fun s8 hqq8 hr=>q0a 8 [(1,.pb 0 0),(65,dB s8)] ?_ ?_
 replace hr:=hqq8
 refine ifE hr ?_ ?_<;>intro h11 hr
 refine bdE hr fun s9 hqq9 hr=>J (gn 2)<|q0a 5 [(1,.pb 0 0),(58,dB true),(64,dB s9)] ?_ ?_
 replace hr:=hqq9
 refine ifE hr ?_ ?_<;>intro h12 hr
 exact e
 exact e
 exact e
 exact e
 refine bdE hr fun s10 hqq10 hr=>q0a 10 [(1,.pb 0 0),(75,dB s10)] ?_ ?_
 replace hr:=hqq10
 refine ifE hr ?_ ?_<;>intro h13 hr
 refine bdE hr fun s11 hqq11 hr=>J (gn 4)<|q0a 5 [(1,.pb 0 0),(66,dB true),(74,dB s11)] ?_ ?_
 replace hr:=hqq11
 refine ifE hr ?_ ?_<;>intro h14 hr
 exact e
 exact e
 exact e
 exact e
 refine bdE hr fun s12 hqq12 hr=>q0a 10 [(85,dB s12)] ?_ ?_
 replace hr:=hqq12
 refine ifE hr ?_ ?_<;>intro h15 hr
 refine bdE hr fun s13 hqq13 hr=>J (gn 4)<|q0a 5 [(76,dB true),(84,dB s13)] ?_ ?_
 replace hr:=hqq13
 refine ifE hr ?_ ?_<;>intro h16 hr
 exact e
 exact e
 exact e
 exact e
 exact e
 exact e
theorem k3w {a0:Int}{a1:Int}{r:Int}(hr:z9g a0 a1=some r):Ok Tryz.prog 296 [dI a0,dI a1] [] (dI r) []:=by
 refine OE Tryz.func296 fun S hS=>?_
 unfold z9g at hr
 refine J (gn 11)<|ifE hr ?_ ?_<;>intro h1 hr
 exact e
 exact e
theorem j7x {a0:Int}{r:Int}(hr:z3m a0=some r):Ok Tryz.prog 294 [dI a0] [] (dI r) []:=by
 refine OE Tryz.func294 fun S hS=>?_
 unfold z3m at hr
 refine bdE hr fun y1 hy1 hr=>J g<|J (CB' [] [] (k3w hy1))<|bdE hr fun y2 hy2 hr=>J (CB' [] [] (z6W hy2))<|e
theorem j9c {a0:Bool}{r:Int}(hr:z4N a0=some r):Ok Tryz.prog 295 [dB a0] [] (dI r) []:=by
 refine OE Tryz.func295 fun S hS=>?_
 unfold z4N at hr
 refine J (gn 9)<|ifE hr ?_ ?_<;>intro h1 hr
 exact e
 exact e
theorem k1S {a0:Int}{a1:Int}{r:Int}(hr:z6v a0 a1=some r):Ok Tryz.prog 291 [dI a0,dI a1] [] (dI r) []:=by
 refine OE Tryz.func291 fun S hS=>?_
 unfold z6v at hr
 refine J (gn 15)<|ifE hr ?_ ?_<;>intro h1 hr
 refine bdE hr fun y1 hy1 hr=>J g<|J (CB' [] [] (j7x hy1))<|e
 refine J (gn 6)<|ifE hr ?_ ?_<;>intro h2 hr
 refine J g<|J (OB' _ k9C)<|e
 refine J (gn 6)<|ifE hr ?_ ?_<;>intro h3 hr
 refine bdE hr fun y2 hy2 hr=>J g<|J (CB' [] [] (j9c hy2))<|e
 refine J (gn 6)<|ifE hr ?_ ?_<;>intro h4 hr
 refine bdE hr fun y3 hy3 hr=>J g<|J (CB' [] [] (q5F hy3))<|J (gn 1)<|ifE hr ?_ ?_<;>intro h5 hr
 exact e
 exact e
 exact e
theorem j7y {a0:Int}{a1:Int}{r:Bool}(hr:z3n a0 a1=some r):Ok Tryz.prog 288 [dI a0,dI a1] [] (dB r) []:=by
 refine OE Tryz.func288 fun S hS=>?_
 unfold z3n at hr
 refine bdE hr fun y1 hy1 hr=>J g<|J (CB' [] [] (q5F hy1))<|ifE hr ?_ ?_<;>intro h1 hr
 refine bdE hr fun y2 hy2 hr=>J g<|J (CB' [] [] (k1S hy2))<|e
 exact e
theorem k1T {m:Md}{a0:Expr}{r:Bool}(hr:z6w a0=some r):Ok Tryz.prog 279 [Expr.x m a0] [] (dB r) []:=by
 refine OE Tryz.func279 fun S hS=>?_
 unfold z6w at hr
 refine J g<|J (BX' 0)<|bdE hr fun y1 hy1 hr=>J g<|J (CB' [] [] (q5F hy1))<|bdE hr fun s1 hqq1 hr=>J (gn 1)<|q0a 5 [(1,.pb 0 0),(11,dB s1)] ?_ ?_
 replace hr:=hqq1
 refine ifE hr ?_ ?_<;>intro h1 hr
 refine bdE hr fun y2 hy2 hr=>J g<|J (CB' [] [] (k1R (m:=m) hy2))<|e
 exact e
 refine J (gn 1)<|ifE hr ?_ ?_<;>intro h2 hr
 exact e
 refine J (gn 14)<|ifE hr ?_ ?_<;>intro h3 hr
 refine bdE hr fun y3 hy3 hr=>J g<|J (CB' [] [] (q5F hy3))<|bdE hr fun s2 hqq2 hr=>q0a 7 [(1,.pb 0 0),(25,dB s2)] ?_ ?_
 replace hr:=hqq2
 refine ifE hr ?_ ?_<;>intro h4 hr
 refine bdE hr fun y4 hy4 hr=>J g<|J (CB' [] [] (j7y hy4))<|e
 exact e
 refine bdE hr fun s3 hqq3 hr=>q0a 5 [(30,dB s3)] ?_ ?_
 replace hr:=hqq3
 refine ifE hr ?_ ?_<;>intro h5 hr
 exact e
 exact e
 exact e
 refine J (gn 6)<|ifE hr ?_ ?_<;>intro h6 hr
 refine bdE hr fun y5 hy5 hr=>J g<|J (CB' [] [] (q5F hy5))<|bdE hr fun s4 hqq4 hr=>q0a 5 [(40,dB s4)] ?_ ?_
 replace hr:=hqq4
 refine ifE hr ?_ ?_<;>intro h7 hr
 refine bdE hr fun y6 hy6 hr=>J g<|J (CB' [] [] (q5r hy6))<|e
 exact e
 exact e
 refine J (gn 6)<|ifE hr ?_ ?_<;>intro h8 hr
 refine bdE hr fun y7 hy7 hr=>J g<|J (CB' [] [] (q5F hy7))<|e
 refine J (gn 6)<|ifE hr ?_ ?_<;>intro h9 hr
 refine bdE hr fun y8 hy8 hr=>J g<|J (CB' [] [] (q5F hy8))<|e
 refine J (gn 6)<|ifE hr ?_ ?_<;>intro h10 hr
 refine bdE hr fun y9 hy9 hr=>J g<|J (CB' [] [] (q5r hy9))<|bdE hr fun s5 hqq5 hr=>q0a 5 [(60,dB s5)] ?_ ?_
 replace hr:=hqq5
 refine ifE hr ?_ ?_<;>intro h11 hr
 refine bdE hr fun y10 hy10 hr=>J g<|J (CB' [] [] (q5r hy10))<|e
 exact e
 exact e
 exact e
theorem k1U {Rc4:Expr→Option Bool}(Ic4:∀ {m:Md} {a0:Expr} {r:Bool},Rc4 a0=some r→Ok Tryz.prog 263 [Expr.x m a0] [] (dB r) []){m:Md}{a0:Expr}{r:Bool}(hr:z9h Rc4 a0=some r):Ok Tryz.prog 263 [Expr.x m a0] [] (dB r) []:=by
 refine OE Tryz.func263 fun S hS=>?_
 unfold z9h at hr
 refine J g<|J (BX' 0)<|J (gn 8)<|J (lenA 6 0)<|fun hl1=>bdE hr fun q1 hqq1 hr=>q0b hqq1 hl1 1 (fun k1 _=>[(1,.pb 0 0),(3,dI (k1:Int))]) (fun k1 _=>[]) I (fun k1 xk1 sk1 ok1 hxk1 hr hltk1 hik1=>?_) fun k1 sk1 ek1 hltk1=>?_
 refine bdE hr fun y1 hy1 hr=>J g<|J (CB' [] [] (Ic4 (m:=m) hy1))<|J (gn 2)<|ifE hr ?_ ?_<;>intro h1 hr
 exact e
 exact e
 subst ek1
 refine bdE hr fun y2 hy2 hr=>J g<|J (CB' [] [] (k1T (m:=m) hy2))<|e
theorem k1V (n:Nat):∀ {m:Md} {a0:Expr} {r:Bool},z9i n a0=some r→Ok Tryz.prog 263 [Expr.x m a0] [] (dB r) []:=by
  induction n with
  | zero=>intro _ _ r hr;exact nomatch (show (none:Option Bool)=some r from hr)
  | succ n ih=>intro _ _ r hr;exact k1U ih hr
theorem k3x {m:Md}{a0:Expr}{r:Bool}(hr:j5A a0=some r):Ok Tryz.prog 263 [Expr.x m a0] [] (dB r) []:=by
 obtain⟨n,hn⟩:=q5J hr
 exact k1V n hn
theorem j2W {m:Md}{a0:Expr}{r:Bool}(hr:q9v a0=some r):Ok Tryz.prog 245 [Expr.x m a0] [] (dB r) []:=by
 refine OE Tryz.func245 fun S hS=>?_
 unfold q9v at hr
 refine J g<|J (BX' 0)<|bdE hr fun y1 hy1 hr=>J g<|J (CB' [] [] (k1Q (m:=m) hy1))<|bdE hr fun s1 hqq1 hr=>J (gn 1)<|q0a 5 [(1,.pb 0 0),(2,dB false),(10,dB s1)] ?_ ?_
 replace hr:=hqq1
 refine ifE hr ?_ ?_<;>intro h1 hr
 refine bdE hr fun y2 hy2 hr=>J g<|J (CB' [] [] (j2V (m:=m) hy2))<|e
 exact e
 refine bdE hr fun s2 hqq2 hr=>q0a 4 [(2,dB false),(14,dB s2)] ?_ ?_
 replace hr:=hqq2
 refine ifE hr ?_ ?_<;>intro h2 hr
 refine bdE hr fun y3 hy3 hr=>J g<|J (CB' [] [] (k3x (m:=m) hy3))<|e
 exact e
 exact e
theorem j5L {Rc5:Expr→Int→Option Bool}(Ic5:∀ {m:Md} {a0:Expr} {a1:Int} {r:Bool},Rc5 a0 a1=some r→Ok Tryz.prog 246 [Expr.x m a0,dI a1] [] (dB r) []){m:Md}{a0:Expr}{a1:Int}{r:Bool}(hr:z3o Rc5 a0 a1=some r):Ok Tryz.prog 246 [Expr.x m a0,dI a1] [] (dB r) []:=by
 refine OE Tryz.func246 fun S hS=>?_
 unfold z3o at hr
 refine J g<|J (BX' 0)<|J (gn 8)<|J (lenA 6 0)<|fun hl1=>bdE hr fun q1 hqq1 hr=>q0b hqq1 hl1 1 (fun k1 _=>[(1,dI a1),(2,.pb 0 0),(5,dI (k1:Int))]) (fun k1 _=>[]) I (fun k1 xk1 sk1 ok1 hxk1 hr hltk1 hik1=>?_) fun k1 sk1 ek1 hltk1=>?_
 refine bdE hr fun y1 hy1 hr=>J g<|J (CB' [] [] (Ic5 (m:=m) hy1))<|J (gn 2)<|ifE hr ?_ ?_<;>intro h1 hr
 exact e
 exact e
 subst ek1
 exact e
theorem j5M (n:Nat):∀ {m:Md} {a0:Expr} {a1:Int} {r:Bool},z3p n a0 a1=some r→Ok Tryz.prog 246 [Expr.x m a0,dI a1] [] (dB r) []:=by
  induction n with
  | zero=>intro _ _ _ r hr;exact nomatch (show (none:Option Bool)=some r from hr)
  | succ n ih=>intro _ _ _ r hr;exact j5L ih hr
theorem j7z {m:Md}{a0:Expr}{a1:Int}{r:Bool}(hr:z8i a0 a1=some r):Ok Tryz.prog 246 [Expr.x m a0,dI a1] [] (dB r) []:=by
 obtain⟨n,hn⟩:=q5J hr
 exact j5M n hn
theorem j0j {m:Md}{a0:Expr}{a1:Int}{r:Bool}(hr:z3q a0 a1=some r):Ok Tryz.prog 218 [Expr.x m a0,dI a1] [] (dB r) []:=by
 refine OE Tryz.func218 fun S hS=>?_
 unfold z3q at hr
 refine J g<|J (BX' 0)<|bdE hr fun y1 hy1 hr=>J g<|J (CB' [] [] (j2W (m:=m) hy1))<|ifE hr ?_ ?_<;>intro h1 hr
 refine bdE hr fun y2 hy2 hr=>J g<|J (CB' [] [] (j7z (m:=m) hy2))<|e
 exact e
theorem j2X {m:Md}{a0:Rule}{r:Bool}(hr:q9w a0=some r):Ok Tryz.prog 173 [Rule.x m a0] [] (dB r) []:=by
 refine OE Tryz.func173 fun S hS=>?_
 unfold q9w at hr
 refine J g<|J (BX' 0)<|bdE hr fun y1 hy1 hr=>J g<|J (CB' [] [] (q5r hy1))<|bdE hr fun s1 hqq1 hr=>J (gn 1)<|q0a 6 [(1,.pb 0 0),(3,dI (a0.Right.length:Int)),(21,dB s1)] ?_ ?_
 replace hr:=hqq1
 refine ifE hr ?_ ?_<;>intro h1 hr
 refine bdE hr fun y2 hy2 hr=>J g<|J (CB' [] [] (q5r hy2))<|e
 exact e
 refine bdE hr fun s2 hqq2 hr=>q0a 4 [(1,.pb 0 0),(3,dI (a0.Right.length:Int)),(25,dB s2)] ?_ ?_
 replace hr:=hqq2
 refine ifE hr ?_ ?_<;>intro h2 hr
 exact e
 exact e
 refine bdE hr fun s3 hqq3 hr=>q0a 6 [(1,.pb 0 0),(3,dI (a0.Right.length:Int)),(31,dB s3)] ?_ ?_
 replace hr:=hqq3
 refine ifE hr ?_ ?_<;>intro h3 hr
 exact e
 exact e
 refine J (gn 1)<|ifE hr ?_ ?_<;>intro h4 hr
 exact e
 refine J (gn 8) ?_
 refine AW.len (.box 0 2 rfl rfl) fun hl1=>?_
 refine bdE hr fun q4 hqq4 hr=>q0b hqq4 hl1 1 (fun k1 _=>[(1,.pb 0 0),(3,dI (a0.Right.length:Int)),(4,dI (k1:Int))]) (fun k1 _=>[]) I (fun k1 xk1 sk1 ok1 hxk1 hr hltk1 hik1=>?_) fun k1 sk1 ek1 hltk1=>?_
 refine bdE hr fun y3 hy3 hr=>J g<|J (CB' [] [] (q5r hy3))<|J (gn 2)<|ifE hr ?_ ?_<;>intro h5 hr
 exact e
 exact e
 subst ek1
 refine J (gn 15) ?_
 refine AW.len (.box 0 4 rfl rfl) fun hl2=>?_
 refine bdE hr fun q5 hqq5 hr=>q0b hqq5 hl2 1 (fun k2 _=>[(1,.pb 0 0),(3,dI (a0.Right.length:Int)),(5,dI (k2:Int))]) (fun k2 _=>[]) I (fun k2 xk2 sk2 ok2 hxk2 hr hltk2 hik2=>?_) fun k2 sk2 ek2 hltk2=>?_
 refine J g<|J (NV' 1)<|bdE hr fun y4 hy4 hr=>J g<|J (CB' [] [] (q5r hy4))<|bdE hr fun s4 hqq6 hr=>J (gn 1)<|q0a 8 [(1,.pb 0 0),(3,dI (a0.Right.length:Int)),(5,dI (k2:Int)),(6,.pb 1 0),(68,dB s4)] ?_ ?_
 replace hr:=hqq6
 refine ifE hr ?_ ?_<;>intro h6 hr
 refine bdE hr fun y5 hy5 hr=>J g<|J (CB' [] [] (q5F hy5))<|e
 exact e
 refine bdE hr fun s5 hqq7 hr=>q0a 7 [(1,.pb 0 0),(3,dI (a0.Right.length:Int)),(5,dI (k2:Int)),(75,dB s5)] ?_ ?_
 replace hr:=hqq7
 refine ifE hr ?_ ?_<;>intro h7 hr
 exact e
 refine bdE hr fun y6 hy6 hr=>J g<|J (CB' [] [] (j0j (m:=m) hy6))<|e
 refine J (gn 1)<|ifE hr ?_ ?_<;>intro h8 hr
 exact e
 exact e
 subst ek2
 refine J (gn 17) ?_
 refine AW.len (.box 0 5 rfl rfl) fun hl3=>?_
 refine bdE hr fun q8 hqq8 hr=>q0b hqq8 hl3 1 (fun k3 _=>[(1,.pb 0 0),(3,dI (a0.Right.length:Int)),(7,dI (k3:Int))]) (fun k3 _=>[]) I (fun k3 xk3 sk3 ok3 hxk3 hr hltk3 hik3=>?_) fun k3 sk3 ek3 hltk3=>?_
 refine J g<|J (NV' 1)<|bdE hr fun y7 hy7 hr=>J g<|J (CB' [] [] (q5r hy7))<|bdE hr fun s6 hqq9 hr=>J (gn 1)<|q0a 6 [(1,.pb 0 0),(3,dI (a0.Right.length:Int)),(7,dI (k3:Int)),(8,.pb 1 0),(97,dB s6)] ?_ ?_
 replace hr:=hqq9
 refine ifE hr ?_ ?_<;>intro h9 hr
 refine bdE hr fun y8 hy8 hr=>J g<|J (CB' [] [] (q5r hy8))<|e
 exact e
 refine bdE hr fun s7 hqq10 hr=>q0a 7 [(1,.pb 0 0),(3,dI (a0.Right.length:Int)),(7,dI (k3:Int)),(8,.pb 1 0),(104,dB s7)] ?_ ?_
 replace hr:=hqq10
 refine ifE hr ?_ ?_<;>intro h10 hr
 exact e
 refine bdE hr fun y9 hy9 hr=>J g<|J (CB' [] [] (j0j (m:=m) hy9))<|e
 refine bdE hr fun s8 hqq11 hr=>q0a 7 [(1,.pb 0 0),(3,dI (a0.Right.length:Int)),(7,dI (k3:Int)),(111,dB s8)] ?_ ?_
 replace hr:=hqq11
 refine ifE hr ?_ ?_<;>intro h11 hr
 exact e
 refine bdE hr fun y10 hy10 hr=>J g<|J (CB' [] [] (j0j (m:=m) hy10))<|e
 refine J (gn 1)<|ifE hr ?_ ?_<;>intro h12 hr
 exact e
 exact e
 subst ek3
 exact e
theorem k1W {m:Md}{a0:Gm_}{r:Int}(hr:z6A a0=some r):Ok Tryz.prog 135 [Gm_.x m a0] [] (dI r) []:=by
 refine OE Tryz.func135 fun S hS=>?_
 unfold z6A at hr
 refine J g<|J (BX' 0)<|J g<|J (L0' 1 A.D.s)<|J (gn 8)<|J (lenA 0 0)<|fun hl1=>bdE hr fun q1 hqq1 hr=>q0b hqq1 hl1 2 (fun k1 s1=>[(1,.pb 0 0),(3,.ref 1 none),(4,dI (k1:Int))]) (fun k1 s1=>[(1,.row .fz 1 (s1.map A.D.s))]) I (fun k1 xk1 sk1 ok1 hxk1 hr hltk1 hik1=>?_) fun k1 sk1 ek1 hltk1=>?_
 obtain⟨s1,rfl⟩:∃ y,y=sk1:=⟨_,rfl⟩
 refine bdE hr fun y1 hy1 hr=>J g<|J (CB' [] [] (j0i (m:=m) hy1))<|J (gn 1)<|ifE hr ?_ ?_<;>intro h1 hr
 refine bdE hr fun y2 hy2 hr=>J g<|J (CB' [] [1] (z9y (m:=.bo) hy2))<|J (gn 2)<|ifE hr ?_ ?_<;>intro h2 hr
 exact e
 refine J g<|J (LIR' 2 (m:=.fz) (f:=A.D.s) (xs:=[xk1.Name]))<|ggE hr fun g1 hr=>J (q9P (f:=A.D.s) 3 (fun _=>rfl) 16 g1)<|e
 exact e
 subst ek1
 obtain⟨s1,rfl⟩:∃ y,y=sk1:=⟨_,rfl⟩
 refine J g<|J (L0' 2 A.D.s)<|J (gn 8) ?_
 refine AW.len (.box 0 1 rfl rfl) fun hl2=>?_
 refine bdE hr fun q2 hqq2 hr=>q0b hqq2 hl2 3 (fun k2 s2=>[(1,.pb 0 0),(3,.ref 2 none),(5,dI (k2:Int))]) (fun k2 s2=>[(2,.row .fz 1 (s2.map A.D.s))]) I (fun k2 xk2 sk2 ok2 hxk2 hr hltk2 hik2=>?_) fun k2 sk2 ek2 hltk2=>?_
 obtain⟨s2,rfl⟩:∃ y,y=sk2:=⟨_,rfl⟩
 refine bdE hr fun y3 hy3 hr=>J g<|J (CB' [] [] (j2X (m:=m) hy3))<|J (gn 1)<|ifE hr ?_ ?_<;>intro h3 hr
 refine bdE hr fun y4 hy4 hr=>J g<|J (CB' [] [2] (z9y (m:=.bo) hy4))<|J (gn 2)<|ifE hr ?_ ?_<;>intro h4 hr
 exact e
 refine J g<|J (LIR' 3 (m:=.fz) (f:=A.D.s) (xs:=[xk2.Name]))<|ggE hr fun g2 hr=>J (q9P (f:=A.D.s) 4 (fun _=>rfl) 16 g2)<|e
 exact e
 subst ek2
 obtain⟨s2,rfl⟩:∃ y,y=sk2:=⟨_,rfl⟩
 exact e
theorem z0f {m:Md}{a0:Rule}{a1:Int}{r:ByteArray}(hr:q5S a0 a1=some r):Ok Tryz.prog 127 [Rule.x m a0,dI a1] [] (dS r) []:=by
 refine OE Tryz.func127 fun S hS=>?_
 unfold q5S at hr
 refine J g<|J (BX' 0)<|J (gn 8)<|ifE hr ?_ ?_<;>intro h1 hr
 exact e
 refine bdE hr fun y1 hy1 hr=>J g<|J (CB' [] [] (q5F hy1))<|J (gn 2)<|ifE hr ?_ ?_<;>intro h2 hr
 refine ggE hr fun g1 hr=>ggE hr fun g2 hr=>bdE hr fun x1 hx1 hr=>e
 exact e
theorem j5N {m:Md}{a0:Symbol}{r:Symbol}(hr:q8K a0=some r):Ok Tryz.prog 180 [Symbol.x m a0] [] (.ag [dS r.Name,.ref 0 none]) [.row .fz 4 (r.Attributes.map At_.D)]:=by
 refine OE Tryz.func180 fun S hS=>?_
 unfold q8K at hr
 refine J g<|J (BX' 0)<|J (NV' 1)<|J g<|J (L0' 2 At_.D)<|ggE hr fun g1 hr=>J g<|J (j5w (f:=At_.D) 3 40 (fun _=>rfl) g1)<|e
theorem q8r {m:Md}{a0:Gm_}{a1:ByteArray}{r:(Symbol×Bool)}(hr:q5B a0 a1=some r):Ok Tryz.prog 139 [Gm_.y m a0,dS a1] [] (.tu [.ag [dS r.1.Name,.ref 0 none],dB r.2]) [.row .fz 4 (r.1.Attributes.map At_.D)]:=by
 refine OE Tryz.func139 fun S hS=>?_
 unfold q5B at hr
 refine J g<|J (BX' 0)<|J (NV' 1)<|J (gn 8)<|J (lenA 0 0)<|fun hl1=>bdE hr fun q1 hqq1 hr=>q0b hqq1 hl1 2 (fun k1 _=>[(1,dS a1),(2,.pb 0 0),(4,.pb 1 0),(6,dI (k1:Int))]) (fun k1 _=>[]) I (fun k1 xk1 sk1 ok1 hxk1 hr hltk1 hik1=>?_) fun k1 sk1 ek1 hltk1=>?_
 refine J (gn 24)<|ifE hr ?_ ?_<;>intro h1 hr
 refine bdE hr fun y1 hy1 hr=>J g<|J (CB' [(0,2)] [] (j5N (m:=m) hy1))<|e
 exact e
 subst ek1
 refine J (gn 18) ?_
 refine J (q0d (q0i (q:=1) (c:=1) (r:=2) .fz 4 rfl rfl rfl))<|J g<|E
theorem j3W {m:Md}{a0:Gm_}{a1:Rule}{r:Bool}(hr:z0w a0 a1=some r):Ok Tryz.prog 174 [Gm_.y m a0,Rule.x m a1] [] (dB r) []:=by
 refine OE Tryz.func174 fun S hS=>?_
 unfold z0w at hr
 refine J g<|J (BX' 0)<|J (BX' 1)<|bdE hr fun q1 hqq1 hr=>J (gn 7)<|AW.cut 2 (fun _=>[]) (fun _=>[]) (M:=fun x=>q1=.inl x) ?_ fun x hx=>?_
 refine J g<|q0h hqq1 2 (fun s1=>[(2,.pb 0 0),(3,.pb 1 0),(5,dI s1)]) (fun s1=>[]) I fun sk1 ok1 hr hik1=>?_
 obtain⟨s1,rfl⟩:∃ y,y=sk1:=⟨_,rfl⟩
 have hr:=hr
 refine J (gn 9)<|ifE hr ?_ ?_<;>intro h1 hr
 refine bdE hr fun y1 hy1 hr=>J g<|J (CB' [] [] (z0f (m:=m) hy1))<|bdP hr fun y2 y3 hq2 hr=>J (CB' [(0,2)] [] (q8r (m:=m) hq2))<|J g<|J (NV' 3)<|J (gn 8)<|ifE hr ?_ ?_<;>intro h2 hr
 refine ggE hr fun g1 hr=>e
 exact e
 refine J (gn 2) ?_
 cases hr
 cases hik1 _ rfl
 exact⟨_,rfl,GH.trans (q0t (q:=0) [.d m (.sl 2 (a0.Symbols.map Symbol.D)),.u] (.cons .rfl (.cons .u .nil)) rfl) (q0f hS 2)⟩
 subst hx
 exact e
theorem z0Z {m:Md}{a0:Gm_}{a1:Rule}{r:(List Oc)}(hr:q5y a0 a1=some r):Ok Tryz.prog 219 [Gm_.y m a0,Rule.x m a1] [] (.ref 0 none) [.row .fz 2 (r.map Oc.D)]:=by
 refine OE Tryz.func219 fun S hS=>?_
 unfold q5y at hr
 refine J g<|J (BX' 0)<|J (BX' 1)<|J g<|J (L0' 2 Oc.D)<|bdE hr fun s1 hqq1 hr=>J (gn 7)<|q0e 3 [(5,.ref 2 none)] [(2,.row .fz 2 (s1.map Oc.D))] ?_ ?_
 refine J g<|q0h hqq1 3 (fun (s2,s3)=>[(2,.pb 0 0),(3,.pb 1 0),(5,.ref 2 none),(6,dI s3)]) (fun (s2,s3)=>[(2,.row .fz 2 (s2.map Oc.D))]) I fun sk1 ok1 hr hik1=>?_
 obtain⟨s2,s3⟩:=sk1
 have hr:=hr
 refine J (gn 9)<|ifE hr ?_ ?_<;>intro h1 hr
 refine bdE hr fun s4 hqq2 hr=>J (gn 3)<|q0e 3 [(2,.pb 0 0),(3,.pb 1 0),(5,.ref 2 none),(6,dI s3)] [(2,.row .fz 2 (s4.map Oc.D))] ?_ ?_
 replace hr:=hqq2
 refine bdE hr fun y1 hy1 hr=>J g<|J (CB' [] [] (z0f (m:=m) hy1))<|bdP hr fun y2 y3 hq3 hr=>J (CB' [(0,3)] [] (q8r (m:=m) hq3))<|J g<|J (NV' 4)<|J (gn 13)<|ifE hr ?_ ?_<;>intro h2 hr
 refine J (gn 9)<|J (lenR 3)<|fun hl2=>bdE hr fun s5 hqq4 hr=>q0c hqq4 hl2 5 (fun k2 s5=>[(2,.pb 0 0),(3,.pb 1 0),(5,.ref 2 none),(6,dI s3),(7,.pb 4 0),(9,dI 2),(10,dI (k2:Int))]) (fun k2 s5=>[(2,.row .fz 2 (s5.map Oc.D))]) I (fun k2 xk2 sk2 ok2 hxk2 hr hltk2=>?_) fun k2 hltk2=>?_
 obtain⟨s5,rfl⟩:∃ y,y=sk2:=⟨_,rfl⟩
 refine bdE hr fun s6 hqq5 hr=>J (gn 12)<|q0e 5 [(2,.pb 0 0),(3,.pb 1 0),(5,.ref 2 none),(6,dI s3),(7,.pb 4 0),(9,dI 2),(10,dI (k2:Int))] [(2,.row .fz 2 (s6.map Oc.D))] ?_ ?_
 replace hr:=hqq5
 refine J (gn 12)<|ifE hr ?_ ?_<;>intro h3 hr
 refine J g<|J (LIR' 5 (m:=.fz) (f:=Oc.D) (xs:=[(⟨s3,xk2.Name⟩:Oc)]))<|ggE hr fun g1 hr=>J (q9P (f:=Oc.D) 6 (fun _=>rfl) 24 g1)<|e
 exact e
 exact e
 exact e
 refine J (gn 7)<|J (lenR 3)<|fun hl3=>bdE hr fun s7 hqq6 hr=>q0c hqq6 hl3 5 (fun k3 s7=>[(2,.pb 0 0),(3,.pb 1 0),(5,.ref 2 none),(6,dI s3),(7,.pb 4 0),(9,dI 1),(10,dI (k3:Int))]) (fun k3 s7=>[(2,.row .fz 2 (s7.map Oc.D))]) I (fun k3 xk3 sk3 ok3 hxk3 hr hltk3=>?_) fun k3 hltk3=>?_
 obtain⟨s7,rfl⟩:∃ y,y=sk3:=⟨_,rfl⟩
 refine bdE hr fun s8 hqq7 hr=>J (gn 12)<|q0e 5 [(2,.pb 0 0),(3,.pb 1 0),(5,.ref 2 none),(6,dI s3),(7,.pb 4 0),(9,dI 1),(10,dI (k3:Int))] [(2,.row .fz 2 (s8.map Oc.D))] ?_ ?_
 replace hr:=hqq7
 refine J (gn 12)<|ifE hr ?_ ?_<;>intro h4 hr
 refine J g<|J (LIR' 5 (m:=.fz) (f:=Oc.D) (xs:=[(⟨s3,xk3.Name⟩:Oc)]))<|ggE hr fun g2 hr=>J (q9P (f:=Oc.D) 6 (fun _=>rfl) 24 g2)<|e
 exact e
 exact e
 exact e
 refine ggE hr fun g3 hr=>e
 refine J (gn 2) ?_
 cases hr
 cases hik1 _ rfl
 exact GH.trans (q0t (q:=0) [.d m (.sl 2 (a0.Symbols.map Symbol.D)),.u] (.cons .rfl (.cons .u .nil)) rfl) (q0f hS 3)
 exact e
theorem j9d {Rc6:Expr→Option Expr}(Ic6:∀ {m:Md} {a0:Expr} {r:Expr},Rc6 a0=some r→Ok Tryz.prog 142 [Expr.x m a0] [] (.ag [dI r.Kind,dI r.N,dI r.Pos,dI r.Type_,dS r.Symbol,dS r.Name,.ref 0 none]) [.row .fz 7 (r.Args.map Expr.D)]){m:Md}{a0:Expr}{r:Expr}(hr:z0x Rc6 a0=some r):Ok Tryz.prog 142 [Expr.x m a0] [] (.ag [dI r.Kind,dI r.N,dI r.Pos,dI r.Type_,dS r.Symbol,dS r.Name,.ref 0 none]) [.row .fz 7 (r.Args.map Expr.D)]:=by
 refine OE Tryz.func142 fun S hS=>?_
 unfold z0x at hr
 refine J g<|J (BX' 0)<|J (NV' 1)<|J g<|J (L0' 2 Expr.D)<|J (gn 8)<|J (lenA 6 0)<|fun hl1=>bdE hr fun s1 hqq1 hr=>q0c hqq1 hl1 3 (fun k1 s1=>[(1,.pb 0 0),(2,.pb 1 0),(3,.ref 2 none),(4,dI (k1:Int))]) (fun k1 s1=>[(2,.row .fz 7 (s1.map Expr.D))]) I (fun k1 xk1 sk1 ok1 hxk1 hr hltk1=>?_) fun k1 hltk1=>?_
 obtain⟨s1,rfl⟩:∃ y,y=sk1:=⟨_,rfl⟩
 refine bdE hr fun y1 hy1 hr=>J g<|J (CB' [(0,3)] [] (Ic6 (m:=m) hy1)) ?_
 refine J (q0E 3 rfl) ?_
 refine J (k9H 4 (m:=.fz) (f:=Expr.D) [y1] (by simp only[List.map_cons,List.map_nil,Expr.D_eq];rfl))<|ggE hr fun g1 hr=>J (AP1' 5 .fz 88 g1)<|J g<|E
 exact e
theorem j9e (n:Nat):∀ {m:Md} {a0:Expr} {r:Expr},q6N n a0=some r→Ok Tryz.prog 142 [Expr.x m a0] [] (.ag [dI r.Kind,dI r.N,dI r.Pos,dI r.Type_,dS r.Symbol,dS r.Name,.ref 0 none]) [.row .fz 7 (r.Args.map Expr.D)]:=by
  induction n with
  | zero=>intro _ _ r hr;exact nomatch (show (none:Option Expr)=some r from hr)
  | succ n ih=>intro _ _ r hr;exact j9d ih hr
theorem z7L {m:Md}{a0:Expr}{r:Expr}(hr:z3r a0=some r):Ok Tryz.prog 142 [Expr.x m a0] [] (.ag [dI r.Kind,dI r.N,dI r.Pos,dI r.Type_,dS r.Symbol,dS r.Name,.ref 0 none]) [.row .fz 7 (r.Args.map Expr.D)]:=by
 obtain⟨n,hn⟩:=q5J hr
 exact j9e n hn
theorem z6b {m:Md}{a0:Rule}{a1:Oc}{r:(Expr×Bool)}(hr:q5z a0 a1=some r):Ok Tryz.prog 128 [Rule.x m a0,Oc.x .fz a1] [] (.tu [.ag [dI r.1.Kind,dI r.1.N,dI r.1.Pos,dI r.1.Type_,dS r.1.Symbol,dS r.1.Name,.ref 0 none],dB r.2]) [.row .fz 7 (r.1.Args.map Expr.D)]:=by
 refine OE Tryz.func128 fun S hS=>?_
 unfold q5z at hr
 refine J g<|J (BX' 0)<|J (BX' 1)<|J (NV' 2)<|J (gn 8)<|J (lenA 4 0)<|fun hl1=>bdE hr fun q1 hqq1 hr=>q0b hqq1 hl1 3 (fun k1 _=>[(2,.pb 0 0),(3,.pb 1 0),(4,.pb 2 0),(6,dI (k1:Int))]) (fun k1 _=>[]) I (fun k1 xk1 sk1 ok1 hxk1 hr hltk1 hik1=>?_) fun k1 sk1 ek1 hltk1=>?_
 refine J g ?_
 refine J (SQ' rfl rfl rfl rfl (q5R xk1.At a1))<|J (gn 1)<|ifE hr ?_ ?_<;>intro h1 hr
 refine bdE hr fun y1 hy1 hr=>J g<|J (CB' [(0,3)] [] (z7L (m:=m) hy1))<|e
 exact e
 subst ek1
 refine J (gn 18) ?_
 refine J (q0d (q0i (q:=2) (c:=6) (r:=3) .fz 7 rfl rfl rfl))<|J g<|E
theorem j3X {m:Md}{a0:Gm_}{a1:Rule}{r:Bool}(hr:z0y a0 a1=some r):Ok Tryz.prog 175 [Gm_.y m a0,Rule.x m a1] [] (dB r) []:=by
 refine OE Tryz.func175 fun S hS=>?_
 unfold z0y at hr
 refine J g<|J (BX' 0)<|J (BX' 1)<|bdE hr fun y1 hy1 hr=>J g<|J (CB' [(0,2)] [] (z0Z (m:=m) hy1))<|J (gn 8)<|J (lenR 2)<|fun hl1=>bdE hr fun q1 hqq1 hr=>q0b hqq1 hl1 3 (fun k1 _=>[(3,.pb 1 0),(5,.ref 2 none),(6,dI (k1:Int))]) (fun k1 _=>[]) I (fun k1 xk1 sk1 ok1 hxk1 hr hltk1 hik1=>?_) fun k1 sk1 ek1 hltk1=>?_
 refine bdP hr fun y2 y3 hq2 hr=>J g<|J (CB' [(0,3)] [] (z6b (m:=m) hq2))<|J g<|J (NV' 4)<|J (gn 8)<|ifE hr ?_ ?_<;>intro h1 hr
 exact e
 exact e
 subst ek1
 exact e
theorem j0S {m:Md}{a0:(List Oc)}{a1:Oc}{r:Bool}(hr:z1l a0 a1=some r):Ok Tryz.prog 220 [.d m (.sl 2 (a0.map Oc.D)),Oc.x .fz a1] [] (dB r) []:=by
 refine OE Tryz.func220 fun S hS=>?_
 unfold z1l at hr
 refine J g<|J (BX' 0)<|J (gn 8)<|J (lenT 0)<|fun hl1=>bdE hr fun q1 hqq1 hr=>q0b hqq1 hl1 1 (fun k1 _=>[(0,.d m (.sl 2 (a0.map Oc.D))),(3,.pb 0 0),(5,dI (k1:Int))]) (fun k1 _=>[]) I (fun k1 xk1 sk1 ok1 hxk1 hr hltk1 hik1=>?_) fun k1 sk1 ek1 hltk1=>?_
 refine J g ?_
 refine J (SQ' rfl rfl rfl rfl (q5R xk1 a1))<|J (gn 1)<|ifE hr ?_ ?_<;>intro h1 hr
 exact e
 exact e
 subst ek1
 exact e
theorem j7A {m:Md}{a0:Gm_}{a1:Rule}{r:Bool}(hr:z3s a0 a1=some r):Ok Tryz.prog 176 [Gm_.y m a0,Rule.x m a1] [] (dB r) []:=by
 refine OE Tryz.func176 fun S hS=>?_
 unfold z3s at hr
 refine J g<|J (BX' 0)<|J (BX' 1)<|bdE hr fun y1 hy1 hr=>J g<|J (CB' [(0,2)] [] (z0Z (m:=m) hy1))<|J g<|J (L0' 3 Oc.D)<|J (gn 8)<|J (lenA 4 1)<|fun hl1=>bdE hr fun q1 hqq1 hr=>q0b hqq1 hl1 4 (fun k1 s1=>[(3,.pb 1 0),(5,.ref 2 none),(6,.ref 3 none),(7,dI (k1:Int))]) (fun k1 s1=>[(3,.row .fz 2 (s1.map Oc.D))]) I (fun k1 xk1 sk1 ok1 hxk1 hr hltk1 hik1=>?_) fun k1 sk1 ek1 hltk1=>?_
 obtain⟨s1,rfl⟩:∃ y,y=sk1:=⟨_,rfl⟩
 refine J g<|J (NV' 4)<|bdE hr fun y2 hy2 hr=>J g<|J (CB' [] [2] (j0S (m:=.bo) hy2))<|J (gn 1)<|ifE hr ?_ ?_<;>intro h1 hr
 refine bdE hr fun y3 hy3 hr=>J g<|J (CB' [] [3] (j0S (m:=.bo) hy3))<|J (gn 2)<|ifE hr ?_ ?_<;>intro h2 hr
 exact e
 refine J g<|J (LIR' 5 (m:=.fz) (f:=Oc.D) (xs:=[xk1.At]))<|ggE hr fun g1 hr=>J (q9P (f:=Oc.D) 6 (fun _=>rfl) 24 g1)<|e
 exact e
 subst ek1
 obtain⟨s1,rfl⟩:∃ y,y=sk1:=⟨_,rfl⟩
 exact e
theorem j7B {a0:Oc}{a1:Oc}{r:Bool}(hr:z3t a0 a1=some r):Ok Tryz.prog 242 [Oc.x .fz a0,Oc.x .fz a1] [] (dB r) []:=by
 refine OE Tryz.func242 fun S hS=>?_
 unfold z3t at hr
 refine J g<|J (BX' 0)<|J (BX' 1)<|bdE hr fun s1 hqq1 hr=>J (gn 9)<|q0a 14 [(4,dB false),(23,dB s1)] ?_ ?_
 replace hr:=hqq1
 refine ifE hr ?_ ?_<;>intro h1 hr
 exact e
 refine bdE hr fun s2 hqq2 hr=>J (gn 6)<|q0a 7 [(4,dB false),(10,dB false),(22,dB s2)] ?_ ?_
 replace hr:=hqq2
 refine ifE hr ?_ ?_<;>intro h2 hr
 exact e
 exact e
 exact e
 exact e
theorem k3y {m:Md}{a0:(List Oc)}{a1:Oc}{r:(List Oc)}(hr:z9j a0 a1=some r):Ok Tryz.prog 213 [.d m (.sl 2 (a0.map Oc.D)),Oc.x .fz a1] [] (.d m (.sl 2 (r.map Oc.D))) []:=by
 refine OE Tryz.func213 fun S hS=>?_
 unfold z9j at hr
 refine J g<|J (BX' 0)<|bdE hr fun s1 hqq1 hr=>J (gn 7)<|q0e 1 [(0,.d m (.sl 2 (a0.map Oc.D))),(3,.pb 0 0),(5,dI s1)] [] ?_ ?_
 refine J g<|q0h hqq1 1 (fun s2=>[(0,.d m (.sl 2 (a0.map Oc.D))),(3,.pb 0 0),(5,dI s2)]) (fun s2=>[]) I fun sk1 ok1 hr hik1=>?_
 obtain⟨s2,rfl⟩:∃ y,y=sk1:=⟨_,rfl⟩
 have hr:=hr
 refine J (gn 7)<|ifE hr ?_ ?_<;>intro h1 hr
 refine ggE hr fun g1 hr=>bdE hr fun x1 hx1 hr=>bdE hr fun y1 hy1 hr=>J g<|J (CB' [] [] (j7B hy1))<|J (gn 2)<|ifE hr ?_ ?_<;>intro h2 hr
 refine ggE hr fun g2 hr=>e
 refine J (gn 2) ?_
 cases hr
 cases hik1 _ rfl
 exact q0f hS 1
 refine J (gn 11) ?_
 cases hr
 cases hik1 _ rfl
 exact q0f hS 1
 refine J (gn 7)<|ifE hr ?_ ?_<;>intro h3 hr
 refine ggE hr fun g3 hr=>bdE hr fun x2 hx2 hr=>J g ?_
 refine J (SQ' rfl rfl rfl rfl (q5R x2 a1))<|J (gn 2)<|ifE hr ?_ ?_<;>intro h4 hr
 exact e
 refine J g<|J (L0' 1 Oc.D)<|ggE hr fun g4 hr=>ggE hr fun g5 hr=>J g<|J (SLH' g4 g5)<|ggE hr fun g6 hr=>J (j5w (f:=Oc.D) 2 24 (fun _=>rfl) g6)<|J g<|J (LIR' 3 (m:=.fz) (f:=Oc.D) (xs:=[a1]))<|ggE hr fun g7 hr=>J (q9P (f:=Oc.D) 4 (fun _=>rfl) 24 g7)<|ggE hr fun g8 hr=>ggE hr fun g9 hr=>J g<|J (SLL' g8 g9)<|ggE hr fun g10 hr=>J (j5w (f:=Oc.D) 5 24 (fun _=>rfl) g10)<|J (gn 3) ?_
 refine J (q0d (q0s (r:=5) rfl)) ?_
 cases hr
 exact endA.ren [] 0 (.inr rfl) hS rfl rfl rfl (.md rfl) rfl rfl
 refine J g<|J (L0' 1 Oc.D)<|ggE hr fun g11 hr=>ggE hr fun g12 hr=>J g<|J (SLH' g11 g12)<|ggE hr fun g13 hr=>J (j5w (f:=Oc.D) 2 24 (fun _=>rfl) g13)<|J g<|J (LIR' 3 (m:=.fz) (f:=Oc.D) (xs:=[a1]))<|ggE hr fun g14 hr=>J (q9P (f:=Oc.D) 4 (fun _=>rfl) 24 g14)<|ggE hr fun g15 hr=>ggE hr fun g16 hr=>J g<|J (SLL' g15 g16)<|ggE hr fun g17 hr=>J (j5w (f:=Oc.D) 5 24 (fun _=>rfl) g17)<|J (gn 3) ?_
 refine J (q0d (q0s (r:=5) rfl)) ?_
 cases hr
 exact endA.ren [] 0 (.inr rfl) hS rfl rfl rfl (.md rfl) rfl rfl
theorem j9f {Rc7:Expr→(List Oc)→Option (List Oc)}(Ic7:∀ {m:Md} {a0:Expr} {a1:(List Oc)} {r:(List Oc)},Rc7 a0 a1=some r→Ok Tryz.prog 168 [Expr.x m a0,.d m (.sl 2 (a1.map Oc.D))] [] (.d m (.sl 2 (r.map Oc.D))) []){m:Md}{a0:Expr}{a1:(List Oc)}{r:(List Oc)}(hr:z2c Rc7 a0 a1=some r):Ok Tryz.prog 168 [Expr.x m a0,.d m (.sl 2 (a1.map Oc.D))] [] (.d m (.sl 2 (r.map Oc.D))) []:=by
 refine OE Tryz.func168 fun S hS=>?_
 unfold z2c at hr
 refine J g<|J (BX' 0)<|J (gn 9)<|ifE hr ?_ ?_<;>intro h1 hr
 refine bdE hr fun y1 hy1 hr=>J g<|J (CB' [] [] (k3y (m:=m) hy1))<|J (gn 8)<|J (lenA 6 0)<|fun hl1=>bdE hr fun s1 hqq1 hr=>q0c hqq1 hl1 1 (fun k1 s1=>[(1,.d m (.sl 2 (s1.map Oc.D))),(2,.pb 0 0),(5,dI (k1:Int))]) (fun k1 s1=>[]) I (fun k1 xk1 sk1 ok1 hxk1 hr hltk1=>?_) fun k1 hltk1=>?_
 obtain⟨s1,rfl⟩:∃ y,y=sk1:=⟨_,rfl⟩
 refine bdE hr fun y2 hy2 hr=>J g<|J (CB' [] [] (Ic7 (m:=m) hy2))<|e
 exact e
 refine J (gn 8)<|J (lenA 6 0)<|fun hl2=>bdE hr fun s2 hqq2 hr=>q0c hqq2 hl2 1 (fun k2 s2=>[(1,.d m (.sl 2 (s2.map Oc.D))),(2,.pb 0 0),(5,dI (k2:Int))]) (fun k2 s2=>[]) I (fun k2 xk2 sk2 ok2 hxk2 hr hltk2=>?_) fun k2 hltk2=>?_
 obtain⟨s2,rfl⟩:∃ y,y=sk2:=⟨_,rfl⟩
 refine bdE hr fun y3 hy3 hr=>J g<|J (CB' [] [] (Ic7 (m:=m) hy3))<|e
 exact e
theorem j9g (n:Nat):∀ {m:Md} {a0:Expr} {a1:(List Oc)} {r:(List Oc)},q7m n a0 a1=some r→Ok Tryz.prog 168 [Expr.x m a0,.d m (.sl 2 (a1.map Oc.D))] [] (.d m (.sl 2 (r.map Oc.D))) []:=by
  induction n with
  | zero=>intro _ _ _ r hr;exact nomatch (show (none:Option (List Oc))=some r from hr)
  | succ n ih=>intro _ _ _ r hr;exact j9f ih hr
theorem k1X {m:Md}{a0:Expr}{a1:(List Oc)}{r:(List Oc)}(hr:j2x a0 a1=some r):Ok Tryz.prog 168 [Expr.x m a0,.d m (.sl 2 (a1.map Oc.D))] [] (.d m (.sl 2 (r.map Oc.D))) []:=by
 obtain⟨n,hn⟩:=q5J hr
 exact j9g n hn
theorem z5e {m:Md}{a0:Expr}{r:(List Oc)}(hr:q6q a0=some r):Ok Tryz.prog 129 [Expr.x m a0] [] (.d m (.sl 2 (r.map Oc.D))) []:=by
 refine OE Tryz.func129 fun S hS=>?_
 unfold q6q at hr
 refine J g<|J (BX' 0)<|J g<|J (L0' 1 Oc.D) ?_
 refine J (q0E 1 rfl)<|bdE hr fun y1 hy1 hr=>J (CB' [] [] (k1X (m:=m) hy1))<|J g<|E
theorem z1C {m:Md}{a0:Symbol}{a1:ByteArray}{r:(At_×Bool)}(hr:q7c a0 a1=some r):Ok Tryz.prog 140 [Symbol.x m a0,dS a1] [] (.tu [At_.x .fz r.1,dB r.2]) []:=by
 refine OE Tryz.func140 fun S hS=>?_
 unfold q7c at hr
 refine J g<|J (BX' 0)<|J (NV' 1)<|J (gn 8)<|J (lenA 1 0)<|fun hl1=>bdE hr fun q1 hqq1 hr=>q0b hqq1 hl1 2 (fun k1 _=>[(1,dS a1),(2,.pb 0 0),(4,.pb 1 0),(6,dI (k1:Int))]) (fun k1 _=>[]) I (fun k1 xk1 sk1 ok1 hxk1 hr hltk1 hik1=>?_) fun k1 sk1 ek1 hltk1=>?_
 refine J (gn 24)<|ifE hr ?_ ?_<;>intro h1 hr
 exact e
 exact e
 subst ek1
 exact e
theorem k1Y {m:Md}{a0:Gm_}{a1:Rule}{a2:Oc}{r:Bool}(hr:z6B a0 a1 a2=some r):Ok Tryz.prog 247 [Gm_.y m a0,Rule.x m a1,Oc.x .fz a2] [] (dB r) []:=by
 refine OE Tryz.func247 fun S hS=>?_
 unfold z6B at hr
 refine J g<|J (BX' 0)<|J (BX' 1)<|J (BX' 2)<|bdE hr fun y1 hy1 hr=>J g<|J (CB' [] [] (q5F hy1))<|J (gn 2)<|ifE hr ?_ ?_<;>intro h1 hr
 refine bdE hr fun y2 hy2 hr=>J g<|J (CB' [] [] (z0f (m:=m) hy2))<|bdP hr fun y3 y4 hq1 hr=>J (CB' [(0,3)] [] (q8r (m:=m) hq1))<|J g<|J (NV' 4)<|bdP hr fun y5 y6 hq2 hr=>J g<|J (CB' [] [3] (z1C (m:=.bo) hq2))<|J g<|J (NV' 5)<|J (gn 10)<|ifE hr ?_ ?_<;>intro h2 hr
 refine bdE hr fun s1 hqq3 hr=>J (gn 4)<|q0a 5 [(6,dB false),(42,dB s1)] ?_ ?_
 replace hr:=hqq3
 refine ifE hr ?_ ?_<;>intro h3 hr
 exact e
 exact e
 exact e
 refine bdE hr fun s2 hqq4 hr=>J (gn 5)<|q0a 5 [(6,dB false),(48,dB s2)] ?_ ?_
 replace hr:=hqq4
 refine ifE hr ?_ ?_<;>intro h4 hr
 exact e
 exact e
 exact e
 exact e
theorem z8y {m:Md}{a0:Gm_}{a1:Rule}{a2:Expr}{r:Bool}(hr:z1m a0 a1 a2=some r):Ok Tryz.prog 221 [Gm_.y m a0,Rule.x m a1,Expr.x m a2] [] (dB r) []:=by
 refine OE Tryz.func221 fun S hS=>?_
 unfold z1m at hr
 refine J g<|J (BX' 0)<|J (BX' 1)<|J (BX' 2)<|bdE hr fun y1 hy1 hr=>J g<|J (CB' [] [] (z5e (m:=m) hy1))<|J (gn 8)<|J (lenT 7)<|fun hl1=>bdE hr fun q1 hqq1 hr=>q0b hqq1 hl1 3 (fun k1 _=>[(3,.pb 0 0),(4,.pb 1 0),(7,.d m (.sl 2 (y1.map Oc.D))),(8,dI (k1:Int))]) (fun k1 _=>[]) I (fun k1 xk1 sk1 ok1 hxk1 hr hltk1 hik1=>?_) fun k1 sk1 ek1 hltk1=>?_
 refine bdE hr fun y2 hy2 hr=>J g<|J (CB' [] [] (k1Y (m:=m) hy2))<|J (gn 2)<|ifE hr ?_ ?_<;>intro h1 hr
 exact e
 exact e
 subst ek1
 exact e
theorem j5O {m:Md}{a0:Gm_}{a1:Rule}{r:Bool}(hr:z2d a0 a1=some r):Ok Tryz.prog 177 [Gm_.y m a0,Rule.x m a1] [] (dB r) []:=by
 refine OE Tryz.func177 fun S hS=>?_
 unfold z2d at hr
 refine J g<|J (BX' 0)<|J (BX' 1)<|J (gn 8)<|J (lenA 4 1)<|fun hl1=>bdE hr fun q1 hqq1 hr=>q0b hqq1 hl1 2 (fun k1 _=>[(2,.pb 0 0),(3,.pb 1 0),(5,dI (k1:Int))]) (fun k1 _=>[]) I (fun k1 xk1 sk1 ok1 hxk1 hr hltk1 hik1=>?_) fun k1 sk1 ek1 hltk1=>?_
 refine bdE hr fun y1 hy1 hr=>J g<|J (CB' [] [] (z8y (m:=m) hy1))<|J (gn 2)<|ifE hr ?_ ?_<;>intro h1 hr
 exact e
 exact e
 subst ek1
 refine J (gn 17) ?_
 refine AW.len (.box 1 5 rfl rfl) fun hl2=>?_
 refine bdE hr fun q2 hqq2 hr=>q0b hqq2 hl2 2 (fun k2 _=>[(2,.pb 0 0),(3,.pb 1 0),(6,dI (k2:Int))]) (fun k2 _=>[]) I (fun k2 xk2 sk2 ok2 hxk2 hr hltk2 hik2=>?_) fun k2 sk2 ek2 hltk2=>?_
 refine bdE hr fun y2 hy2 hr=>J g<|J (CB' [] [] (z8y (m:=m) hy2))<|J (gn 1)<|ifE hr ?_ ?_<;>intro h2 hr
 refine bdE hr fun y3 hy3 hr=>J g<|J (CB' [] [] (z8y (m:=m) hy3))<|J (gn 3)<|ifE hr ?_ ?_<;>intro h3 hr
 exact e
 exact e
 exact e
 subst ek2
 exact e
theorem j5P {m:Md}{a0:Gm_}{a1:Rule}{a2:Int}{r:Bool}(hr:z2e a0 a1 a2=some r):Ok Tryz.prog 136 [Gm_.y m a0,Rule.x m a1,dI a2] [] (dB r) []:=by
 refine OE Tryz.func136 fun S hS=>?_
 unfold z2e at hr
 refine J g<|J (BX' 0)<|J (BX' 1)<|J (gn 13)<|ifE hr ?_ ?_<;>intro h1 hr
 refine bdE hr fun y1 hy1 hr=>J g<|J (CB' [] [] (j3W (m:=m) hy1))<|e
 refine J (gn 6)<|ifE hr ?_ ?_<;>intro h2 hr
 refine bdE hr fun y2 hy2 hr=>J g<|J (CB' [] [] (j3X (m:=m) hy2))<|e
 refine J (gn 6)<|ifE hr ?_ ?_<;>intro h3 hr
 refine bdE hr fun y3 hy3 hr=>J g<|J (CB' [] [] (j7A (m:=m) hy3))<|e
 refine bdE hr fun y4 hy4 hr=>J g<|J (CB' [] [] (j5O (m:=m) hy4))<|e
theorem j3Y {m:Md}{a0:Gm_}{r:(Int×Int)}(hr:z0z a0=some r):Ok Tryz.prog 99 [Gm_.x m a0] [] (.tu [dI r.1,dI r.2]) []:=by
 refine OE Tryz.func99 fun S hS=>?_
 unfold z0z at hr
 refine J g<|J (BX' 0)<|bdE hr fun y1 hy1 hr=>J g<|J (CB' [] [] (q5F hy1))<|J (gn 1)<|ifE hr ?_ ?_<;>intro h1 hr
 refine bdE hr fun y2 hy2 hr=>J g<|J (CB' [] [] (q5F hy2))<|J (gn 3)<|ifE hr ?_ ?_<;>intro h2 hr
 refine bdE hr fun y3 hy3 hr=>J g<|J (CB' [] [] (k1W (m:=m) hy3))<|J (gn 8)<|ifE hr ?_ ?_<;>intro h3 hr
 exact e
 refine bdE hr fun x1 hx1 hr=>J (gn 8) ?_
 refine AW.len (.el 1 (.ag 0 (.tmp 0 rfl) rfl) hx1 rfl) fun hl1=>?_
 refine bdE hr fun q1 hqq1 hr=>q0b hqq1 hl1 1 (fun k1 _=>[(1,.pb 0 0),(5,dI (k1:Int))]) (fun k1 _=>[]) I (fun k1 xk1 sk1 ok1 hxk1 hr hltk1 hik1=>?_) fun k1 sk1 ek1 hltk1=>?_
 refine J (gn 29)<|ifE hr ?_ ?_<;>intro h4 hr
 exact e
 exact e
 subst ek1
 refine bdE hr fun q2 hqq2 hr=>J (gn 19)<|AW.cut 1 (fun _=>[]) (fun _=>[]) (M:=fun x=>q2=.inl x) ?_ fun x hx=>?_
 refine J g<|q0h hqq2 1 (fun s1=>[(1,.pb 0 0),(6,dI s1)]) (fun s1=>[]) I fun sk2 ok2 hr hik2=>?_
 obtain⟨s1,rfl⟩:∃ y,y=sk2:=⟨_,rfl⟩
 have hr:=hr
 refine J (gn 6)<|ifE hr ?_ ?_<;>intro h5 hr
 refine J (gn 9) ?_
 refine AW.len (.box 0 1 rfl rfl) fun hl3=>?_
 refine bdE hr fun q3 hqq3 hr=>q0b hqq3 hl3 1 (fun k3 _=>[(1,.pb 0 0),(6,dI s1),(7,dI (k3:Int))]) (fun k3 _=>[]) I (fun k3 xk3 sk3 ok3 hxk3 hr hltk3 hik3=>?_) fun k3 sk3 ek3 hltk3=>?_
 refine bdE hr fun y4 hy4 hr=>J g<|J (CB' [] [] (j5P (m:=m) hy4))<|J (gn 1)<|ifE hr ?_ ?_<;>intro h6 hr
 exact e
 exact e
 subst ek3
 refine ggE hr fun g1 hr=>e
 refine J (gn 2) ?_
 cases hr
 cases hik2 _ rfl
 exact⟨_,rfl,q0f hS 1⟩
 subst hx
 exact e
 exact e
 exact e
theorem z2w {m:Md}{a0:Gm_}{a1:ByteArray}{a2:ByteArray}{r:Int}(hr:q6O a0 a1 a2=some r):Ok Tryz.prog 138 [Gm_.y m a0,dS a1,dS a2] [] (dI r) []:=by
 refine OE Tryz.func138 fun S hS=>?_
 unfold q6O at hr
 refine J g<|J (BX' 0)<|bdP hr fun y1 y2 hq1 hr=>J g<|J (CB' [(0,1)] [] (q8r (m:=m) hq1))<|J g<|J (NV' 2)<|bdP hr fun y3 y4 hq2 hr=>J g<|J (CB' [] [1] (z1C (m:=.bo) hq2))<|J g<|J (NV' 3)<|J (gn 9)<|ifE hr ?_ ?_<;>intro h1 hr
 exact e
 exact e
theorem j1s {a0:Int}{r:(Int×Int×Int)}(hr:q8L a0=some r):Ok Tryz.prog 222 [dI a0] [] (.tu [dI r.1,dI r.2.1,dI r.2.2]) []:=by
 refine OE Tryz.func222 fun S hS=>?_
 unfold q8L at hr
 refine bdE hr fun y1 hy1 hr=>J g<|J (CB' [] [] (q5F hy1))<|J (gn 2)<|ifE hr ?_ ?_<;>intro h1 hr
 exact e
 refine bdE hr fun y2 hy2 hr=>J g<|J (CB' [] [] (q5F hy2))<|J (gn 2)<|ifE hr ?_ ?_<;>intro h2 hr
 exact e
 refine J (gn 5)<|ifE hr ?_ ?_<;>intro h3 hr
 exact e
 refine J (gn 6)<|ifE hr ?_ ?_<;>intro h4 hr
 exact e
 refine J (gn 7)<|ifE hr ?_ ?_<;>intro h5 hr
 exact e
 refine J (gn 7)<|ifE hr ?_ ?_<;>intro h6 hr
 exact e
 exact e
theorem k3z {Rc8:Gm_→Rule→Expr→Option Int}(Ic8:∀ {m:Md} {a0:Gm_} {a1:Rule} {a2:Expr} {r:Int},Rc8 a0 a1 a2=some r→Ok Tryz.prog 137 [Gm_.y m a0,Rule.x m a1,Expr.x m a2] [] (dI r) []){m:Md}{a0:Gm_}{a1:Rule}{a2:Expr}{r:Int}(hr:j1L Rc8 a0 a1 a2=some r):Ok Tryz.prog 178 [Gm_.y m a0,Rule.x m a1,Expr.x m a2] [] (dI r) []:=by
 refine OE Tryz.func178 fun S hS=>?_
 unfold j1L at hr
 refine J g<|J (BX' 0)<|J (BX' 1)<|J (BX' 2)<|bdT hr fun y1 y2 y3 hq1 hr=>J g<|J (CB' [] [] (j1s hq1))<|J (gn 15)<|ifE hr ?_ ?_<;>intro h1 hr
 refine bdE hr fun x1 hx1 hr=>bdE hr fun y4 hy4 hr=>J g<|J (CB' [] [] (Ic8 (m:=m) hy4))<|J (gn 3)<|ifE hr ?_ ?_<;>intro h2 hr
 refine bdE hr fun x2 hx2 hr=>bdE hr fun y5 hy5 hr=>J g<|J (CB' [] [] (Ic8 (m:=m) hy5))<|J (gn 4)<|ifE hr ?_ ?_<;>intro h3 hr
 exact e
 exact e
 exact e
 exact e
theorem k3A {Rc8:Gm_→Rule→Expr→Option Int}(Ic8:∀ {m:Md} {a0:Gm_} {a1:Rule} {a2:Expr} {r:Int},Rc8 a0 a1 a2=some r→Ok Tryz.prog 137 [Gm_.y m a0,Rule.x m a1,Expr.x m a2] [] (dI r) []){m:Md}{a0:Gm_}{a1:Rule}{a2:Expr}{r:Int}(hr:j1M Rc8 a0 a1 a2=some r):Ok Tryz.prog 179 [Gm_.y m a0,Rule.x m a1,Expr.x m a2] [] (dI r) []:=by
 refine OE Tryz.func179 fun S hS=>?_
 unfold j1M at hr
 refine J g<|J (BX' 0)<|J (BX' 1)<|J (BX' 2)<|J (gn 9)<|ifE hr ?_ ?_<;>intro h1 hr
 refine bdE hr fun x1 hx1 hr=>bdE hr fun y1 hy1 hr=>J g<|J (CB' [] [] (Ic8 (m:=m) hy1))<|J (gn 3)<|ifE hr ?_ ?_<;>intro h2 hr
 refine bdE hr fun x2 hx2 hr=>bdE hr fun y2 hy2 hr=>J g<|J (CB' [] [] (Ic8 (m:=m) hy2))<|bdE hr fun x3 hx3 hr=>bdE hr fun y3 hy3 hr=>J g<|J (CB' [] [] (Ic8 (m:=m) hy3))<|J (gn 2)<|ifE hr ?_ ?_<;>intro h3 hr
 exact e
 exact e
 exact e
 exact e
theorem j2Y {Rc8:Gm_→Rule→Expr→Option Int}(Ic8:∀ {m:Md} {a0:Gm_} {a1:Rule} {a2:Expr} {r:Int},Rc8 a0 a1 a2=some r→Ok Tryz.prog 137 [Gm_.y m a0,Rule.x m a1,Expr.x m a2] [] (dI r) []){m:Md}{a0:Gm_}{a1:Rule}{a2:Expr}{r:Int}(hr:z0A Rc8 a0 a1 a2=some r):Ok Tryz.prog 137 [Gm_.y m a0,Rule.x m a1,Expr.x m a2] [] (dI r) []:=by
 refine OE Tryz.func137 fun S hS=>?_
 unfold z0A at hr
 refine J g<|J (BX' 0)<|J (BX' 1)<|J (BX' 2)<|J (gn 14)<|ifE hr ?_ ?_<;>intro h1 hr
 exact e
 refine J (gn 6)<|ifE hr ?_ ?_<;>intro h2 hr
 refine J (gn 6)<|ifE hr ?_ ?_<;>intro h3 hr
 exact e
 exact e
 refine J (gn 6)<|ifE hr ?_ ?_<;>intro h4 hr
 refine bdE hr fun y1 hy1 hr=>J g<|J (CB' [] [] (q5F hy1))<|J (gn 1)<|ifE hr ?_ ?_<;>intro h5 hr
 refine bdE hr fun y2 hy2 hr=>J g<|J (CB' [] [] (z0f (m:=m) hy2))<|bdE hr fun y3 hy3 hr=>J g<|J (CB' [] [] (z2w (m:=m) hy3))<|e
 exact e
 refine J (gn 6)<|ifE hr ?_ ?_<;>intro h6 hr
 refine bdE hr fun y4 hy4 hr=>J g<|J (CB' [] [] (k3z Ic8 (m:=m) hy4))<|e
 refine J (gn 6)<|ifE hr ?_ ?_<;>intro h7 hr
 refine bdE hr fun y5 hy5 hr=>J g<|J (CB' [] [] (k3A Ic8 (m:=m) hy5))<|e
 refine J (gn 6)<|ifE hr ?_ ?_<;>intro h8 hr
 refine bdE hr fun y6 hy6 hr=>J g<|J (CB' [] [] (q5F hy6))<|J (gn 1)<|ifE hr ?_ ?_<;>intro h9 hr
 exact e
 exact e
 refine J (gn 6)<|ifE hr ?_ ?_<;>intro h10 hr
 exact e
 refine J (gn 6)<|ifE hr ?_ ?_<;>intro h11 hr
 refine J (gn 7)<|ifE hr ?_ ?_<;>intro h12 hr
 refine bdE hr fun x1 hx1 hr=>bdE hr fun y7 hy7 hr=>J g<|J (CB' [] [] (Ic8 (m:=m) hy7))<|J (gn 3)<|ifE hr ?_ ?_<;>intro h13 hr
 refine bdE hr fun y8 hy8 hr=>J g<|J (CB' [] [] (z2w (m:=m) hy8))<|e
 exact e
 exact e
 exact e
theorem j2Z (n:Nat):∀ {m:Md} {a0:Gm_} {a1:Rule} {a2:Expr} {r:Int},q9a n a0 a1 a2=some r→Ok Tryz.prog 137 [Gm_.y m a0,Rule.x m a1,Expr.x m a2] [] (dI r) []:=by
  induction n with
  | zero=>intro _ _ _ _ r hr;exact nomatch (show (none:Option Int)=some r from hr)
  | succ n ih=>intro _ _ _ _ r hr;exact j2Y ih hr
theorem z4B {m:Md}{a0:Gm_}{a1:Rule}{a2:Expr}{r:Int}(hr:z0B a0 a1 a2=some r):Ok Tryz.prog 137 [Gm_.y m a0,Rule.x m a1,Expr.x m a2] [] (dI r) []:=by
 obtain⟨n,hn⟩:=q5J hr
 exact j2Z n hn
theorem j9h {m:Md}{a0:Gm_}{a1:Rule}{r:Bool}(hr:z4O a0 a1=some r):Ok Tryz.prog 100 [Gm_.y m a0,Rule.x m a1] [] (dB r) []:=by
 refine OE Tryz.func100 fun S hS=>?_
 unfold z4O at hr
 refine J g<|J (BX' 0)<|J (BX' 1)<|J (gn 8)<|J (lenA 4 1)<|fun hl1=>bdE hr fun q1 hqq1 hr=>q0b hqq1 hl1 2 (fun k1 _=>[(2,.pb 0 0),(3,.pb 1 0),(5,dI (k1:Int))]) (fun k1 _=>[]) I (fun k1 xk1 sk1 ok1 hxk1 hr hltk1 hik1=>?_) fun k1 sk1 ek1 hltk1=>?_
 refine J g<|J (NV' 2)<|bdE hr fun y1 hy1 hr=>J g<|J (CB' [] [] (z4B (m:=m) hy1))<|bdE hr fun y2 hy2 hr=>J g<|J (CB' [] [] (z0f (m:=m) hy2))<|bdE hr fun y3 hy3 hr=>J g<|J (CB' [] [] (z2w (m:=m) hy3))<|J (gn 2)<|ifE hr ?_ ?_<;>intro h1 hr
 exact e
 exact e
 subst ek1
 refine J (gn 17) ?_
 refine AW.len (.box 1 5 rfl rfl) fun hl2=>?_
 refine bdE hr fun q2 hqq2 hr=>q0b hqq2 hl2 2 (fun k2 _=>[(2,.pb 0 0),(3,.pb 1 0),(7,dI (k2:Int))]) (fun k2 _=>[]) I (fun k2 xk2 sk2 ok2 hxk2 hr hltk2 hik2=>?_) fun k2 sk2 ek2 hltk2=>?_
 refine J g<|J (NV' 2)<|bdP hr fun y4 y5 hq3 hr=>J g<|J (CB' [(0,3)] [] (q8r (m:=m) hq3))<|J g<|J (NV' 4)<|bdP hr fun y6 y7 hq4 hr=>J g<|J (CB' [] [3] (z1C (m:=.bo) hq4))<|J g<|J (NV' 5)<|bdE hr fun s1 hqq5 hr=>J (gn 7)<|q0a 5 [(2,.pb 0 0),(3,.pb 1 0),(7,dI (k2:Int)),(8,.pb 2 0),(73,dB s1)] ?_ ?_
 replace hr:=hqq5
 refine ifE hr ?_ ?_<;>intro h2 hr
 exact e
 exact e
 refine bdE hr fun s2 hqq6 hr=>q0a 8 [(2,.pb 0 0),(3,.pb 1 0),(7,dI (k2:Int)),(8,.pb 2 0),(81,dB s2)] ?_ ?_
 replace hr:=hqq6
 refine ifE hr ?_ ?_<;>intro h3 hr
 exact e
 refine bdE hr fun y8 hy8 hr=>J g<|J (CB' [] [] (z4B (m:=m) hy8))<|e
 refine bdE hr fun s3 hqq7 hr=>q0a 8 [(2,.pb 0 0),(3,.pb 1 0),(7,dI (k2:Int)),(89,dB s3)] ?_ ?_
 replace hr:=hqq7
 refine ifE hr ?_ ?_<;>intro h4 hr
 exact e
 refine bdE hr fun y9 hy9 hr=>J g<|J (CB' [] [] (z4B (m:=m) hy9))<|e
 refine J (gn 1)<|ifE hr ?_ ?_<;>intro h5 hr
 exact e
 exact e
 subst ek2
 exact e
theorem j3Z {m:Md}{a0:Gm_}{a1:ByteArray}{a2:(List Int)}{r:Bool}(hr:z0C a0 a1 a2=some r):Ok Tryz.prog 223 [Gm_.x m a0,dS a1,.d m (.sl 1 (a2.map (A.D.i .i64)))] [] (dB r) []:=by
 refine OE Tryz.func223 fun S hS=>?_
 unfold z0C at hr
 refine J g<|J (BX' 0)<|J (gn 8)<|J (lenA 1 0)<|fun hl1=>bdE hr fun q1 hqq1 hr=>q0b hqq1 hl1 1 (fun k1 _=>[(1,dS a1),(2,.d m (.sl 1 (a2.map (A.D.i .i64)))),(3,.pb 0 0),(7,dI (k1:Int))]) (fun k1 _=>[]) I (fun k1 xk1 sk1 ok1 hxk1 hr hltk1 hik1=>?_) fun k1 sk1 ek1 hltk1=>?_
 refine J g<|J (NV' 1)<|J (gn 16)<|J (lenA 2 23)<|fun hl2=>bdE hr fun s1 hqq2 hr=>q0c hqq2 hl2 2 (fun k2 s1=>[(1,dS a1),(2,.d m (.sl 1 (a2.map (A.D.i .i64)))),(3,.pb 0 0),(7,dI (k1:Int)),(8,.pb 1 0),(9,dB s1),(10,dI (k2:Int))]) (fun k2 s1=>[]) I (fun k2 xk2 sk2 ok2 hxk2 hr hltk2=>?_) fun k2 hltk2=>?_
 obtain⟨s1,rfl⟩:∃ y,y=sk2:=⟨_,rfl⟩
 refine bdE hr fun y1 hy1 hr=>J g<|J (CB' [] [] (z3J (m:=m) hy1))<|bdE hr fun s2 hqq3 hr=>J (gn 4)<|q0a 4 [(1,dS a1),(2,.d m (.sl 1 (a2.map (A.D.i .i64)))),(3,.pb 0 0),(7,dI (k1:Int)),(8,.pb 1 0),(9,dB s1),(10,dI (k2:Int)),(11,dI y1),(46,dB s2)] ?_ ?_
 replace hr:=hqq3
 refine ifE hr ?_ ?_<;>intro h1 hr
 exact e
 exact e
 refine bdE hr fun s3 hqq4 hr=>q0a 8 [(1,dS a1),(2,.d m (.sl 1 (a2.map (A.D.i .i64)))),(3,.pb 0 0),(7,dI (k1:Int)),(8,.pb 1 0),(9,dB s1),(10,dI (k2:Int)),(54,dB s3)] ?_ ?_
 replace hr:=hqq4
 refine ifE hr ?_ ?_<;>intro h2 hr
 refine bdE hr fun y2 hy2 hr=>J g<|J (CB' [] [] (z6W hy2))<|ggE hr fun g1 hr=>bdE hr fun x1 hx1 hr=>e
 exact e
 exact e
 refine J (gn 15)<|ifE hr ?_ ?_<;>intro h3 hr
 exact e
 exact e
 subst ek1
 exact e
end Go.Proofs.YtipikecbeganoaaGreat
