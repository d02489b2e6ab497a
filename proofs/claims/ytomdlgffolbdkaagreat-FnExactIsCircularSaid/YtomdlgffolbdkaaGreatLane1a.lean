/- What some functions of the program compute, as partial functions on plain data, and that they do; each lemma bears its conditions in its statement. -/
import Derived.Test.YtomdlgffolbdkaaGreatDef
set_option linter.unusedVariables false
set_option linter.unusedSimpArgs false
set_option linter.ambiguousOpen false
set_option linter.unusedSectionVars false
set_option linter.unnecessarySimpa false
set_option maxRecDepth 100000
set_option maxHeartbeats 40000000
noncomputable section
namespace Go.Proofs.YtomdlgffolbdkaaGreat
open Go Go.E Go.A
theorem q5i {a0:Int}{a1:Int}{a2:Int}{r:Bool}(hr:q4X a0 a1 a2=some r):Ok Tryz.prog 101 [dI a0,dI a1,dI a2] [] (dB r) []:=by
 refine OE Tryz.func101 fun S hS=>?_
 unfold q4X at hr
 refine J (gn 9)<|ifE hr ?_ ?_<;>intro h1 hr
 exact e
 exact e
theorem j5N {a0:ByteArray}{r:Bool}(hr:z5G a0=some r):Ok Tryz.prog 275 [dS a0] [] (dB r) []:=by
 refine OE Tryz.func275 fun S hS=>?_
 unfold z5G at hr
 refine J (gn 10) ?_
 refine q2M (.tmp 0 rfl) fun ht1=>?_
 have hl1:rngI .i64 (a0.size:Int):=k1u ht1
 refine bdE hr fun q1 hqq1 hr=>q0p hqq1 0 (fun k1 _=>[(0,dS a0),(3,dI (k1:Int))]) (fun k1 _=>[]) I (fun k1 sk1 ok1 hr hltk1 hik1=>?_) fun sk1 ek1=>?_
 refine J g<|J LS'<|bdE hr fun x1 hx1 hr=>J g ?_
 refine J (SI' rfl rfl (Int.natCast_nonneg _) hx1)<|bdE hr fun s1 hqq2 hr=>J (gn 1)<|q0a 6 [(0,dS a0),(3,dI (k1:Int)),(21,dB s1)] ?_ ?_
 replace hr:=hqq2
 refine ifE hr ?_ ?_<;>intro h1 hr
 refine J g ?_
 refine J (SI' rfl rfl (Int.natCast_nonneg _) hx1)<|J g<|E
 exact e
 refine J g ?_
 refine J (SI' rfl rfl (Int.natCast_nonneg _) hx1)<|bdE hr fun s2 hqq3 hr=>J (gn 1)<|q0a 6 [(0,dS a0),(3,dI (k1:Int)),(4,dB s1),(31,dB s2)] ?_ ?_
 replace hr:=hqq3
 refine ifE hr ?_ ?_<;>intro h2 hr
 refine J g ?_
 refine J (SI' rfl rfl (Int.natCast_nonneg _) hx1)<|J g<|E
 exact e
 refine bdE hr fun s3 hqq4 hr=>J (gn 6)<|q0a 8 [(0,dS a0),(3,dI (k1:Int)),(41,dB s3)] ?_ ?_
 replace hr:=hqq4
 refine ifE hr ?_ ?_<;>intro h3 hr
 exact e
 refine bdP hr fun s4 s5 hqq5 hr=>J (gn 3)<|q0a 4 [(0,dS a0),(3,dI (k1:Int)),(34,dB true),(35,dI (k1:Int)),(36,dB (decide ((k1:Int)=0))),(37,dB s4),(40,dB s5)] ?_ ?_
 replace hr:=hqq5
 refine ifE hr ?_ ?_<;>intro h4 hr
 exact e
 exact e
 exact e
 refine J (gn 1)<|ifE hr ?_ ?_<;>intro h5 hr
 exact e
 exact e
 subst ek1
 refine J g<|J LS'<|J g<|J LS'<|e
theorem j1r {r:(List ByteArray)}(hr:z1r=some r):Ok Tryz.prog 295 [] [] (.ref 0 none) [.row .fz 1 (r.map A.D.s)]:=by
 refine OE Tryz.func295 fun S hS=>?_
 unfold z1r at hr
 refine J g<|J (LIR' 0 (m:=.fz) (f:=A.D.s) (xs:=[(⟨#[105,102]⟩:ByteArray),(⟨#[116,104,101,110]⟩:ByteArray),(⟨#[101,108,115,101]⟩:ByteArray),(⟨#[116,114,117,101]⟩:ByteArray),(⟨#[102,97,108,115,101]⟩:ByteArray),(⟨#[108,105,116]⟩:ByteArray),(⟨#[110,111,110,101]⟩:ByteArray),(⟨#[115,101,108,102]⟩:ByteArray),(⟨#[111,102]⟩:ByteArray),(⟨#[109,97,120]⟩:ByteArray),(⟨#[109,105,110]⟩:ByteArray),(⟨#[119,105,116,104]⟩:ByteArray),(⟨#[104,97,115]⟩:ByteArray)]))<|e
theorem z7v {m:Md}{a0:(List ByteArray)}{a1:ByteArray}{r:Bool}(hr:z0C a0 a1=some r):Ok Tryz.prog 197 [.d m (.sl 1 (a0.map A.D.s)),dS a1] [] (dB r) []:=by
 refine OE Tryz.func197 fun S hS=>?_
 unfold z0C at hr
 refine J (gn 10)<|J (lenT 0)<|fun hl1=>bdE hr fun q1 hqq1 hr=>q0b hqq1 hl1 0 (fun k1 _=>[(0,.d m (.sl 1 (a0.map A.D.s))),(1,dS a1),(5,dI (k1:Int))]) (fun k1 _=>[]) I (fun k1 xk1 sk1 ok1 hxk1 hr hltk1 hik1=>?_) fun k1 sk1 ek1 hltk1=>?_
 refine J (gn 21)<|ifE hr ?_ ?_<;>intro h1 hr
 exact e
 exact e
 subst ek1
 exact e
theorem j1s {a0:ByteArray}{r:Bool}(hr:q9p a0=some r):Ok Tryz.prog 276 [dS a0] [] (dB r) []:=by
 refine OE Tryz.func276 fun S hS=>?_
 unfold q9p at hr
 refine bdE hr fun y1 hy1 hr=>J g<|J (CB' [(0,0)] [] (j1r hy1))<|bdE hr fun y2 hy2 hr=>J g<|J (CB' [] [0] (z7v (m:=.bo) hy2))<|e
theorem q4T {a0:ByteArray}{r:Bool}(hr:q4t a0=some r):Ok Tryz.prog 246 [dS a0] [] (dB r) []:=by
 refine OE Tryz.func246 fun S hS=>?_
 unfold q4t at hr
 refine bdE hr fun y1 hy1 hr=>J g<|J (CB' [] [] (j5N hy1))<|bdE hr fun s1 hqq1 hr=>q0a 5 [(0,dS a0),(2,dB false),(9,dB s1)] ?_ ?_
 replace hr:=hqq1
 refine ifE hr ?_ ?_<;>intro h1 hr
 refine J g<|J LS'<|e
 exact e
 refine bdE hr fun s2 hqq2 hr=>q0a 5 [(2,dB false),(14,dB s2)] ?_ ?_
 replace hr:=hqq2
 refine ifE hr ?_ ?_<;>intro h2 hr
 refine bdE hr fun y2 hy2 hr=>J g<|J (CB' [] [] (j1s hy2))<|e
 exact e
 exact e
theorem z5Q {a0:At_}{r:Bool}(hr:q6k a0=some r):Ok Tryz.prog 245 [At_.x .fz a0] [] (dB r) []:=by
 refine OE Tryz.func245 fun S hS=>?_
 unfold q6k at hr
 refine J g<|J (BX' 0)<|bdE hr fun y1 hy1 hr=>J g<|J (CB' [] [] (q4T hy1))<|bdE hr fun s1 hqq1 hr=>J (gn 1)<|q0a 6 [(1,.pb 0 0),(12,dB s1)] ?_ ?_
 replace hr:=hqq1
 refine ifE hr ?_ ?_<;>intro h1 hr
 refine bdE hr fun y2 hy2 hr=>J g<|J (CB' [] [] (q5i hy2))<|e
 exact e
 refine bdE hr fun s2 hqq2 hr=>q0a 6 [(1,.pb 0 0),(18,dB s2)] ?_ ?_
 replace hr:=hqq2
 refine ifE hr ?_ ?_<;>intro h2 hr
 exact e
 refine bdE hr fun y3 hy3 hr=>J g<|J (CB' [] [] (q5i hy3))<|e
 refine J (gn 1)<|ifE hr ?_ ?_<;>intro h3 hr
 exact e
 refine bdE hr fun s3 hqq3 hr=>J (gn 8)<|q0a 9 [(1,.pb 0 0),(30,dB s3)] ?_ ?_
 replace hr:=hqq3
 refine ifE hr ?_ ?_<;>intro h4 hr
 refine bdE hr fun s4 hqq4 hr=>J (gn 4)<|q0a 4 [(1,.pb 0 0),(22,dB true),(29,dB s4)] ?_ ?_
 replace hr:=hqq4
 refine ifE hr ?_ ?_<;>intro h5 hr
 exact e
 exact e
 exact e
 exact e
 refine J (gn 1)<|ifE hr ?_ ?_<;>intro h6 hr
 exact e
 refine bdE hr fun s5 hqq5 hr=>J (gn 7)<|q0a 5 [(38,dB s5)] ?_ ?_
 replace hr:=hqq5
 refine ifE hr ?_ ?_<;>intro h7 hr
 exact e
 exact e
 exact e
theorem j0v {m:Md}{a0:(List ByteArray)}{r:Bool}(hr:q8B a0=some r):Ok Tryz.prog 247 [.d m (.sl 1 (a0.map A.D.s))] [] (dB r) []:=by
 refine OE Tryz.func247 fun S hS=>?_
 unfold q8B at hr
 refine J (gn 10)<|J (lenT 0)<|fun hl1=>bdE hr fun q1 hqq1 hr=>q0b hqq1 hl1 0 (fun k1 _=>[(0,.d m (.sl 1 (a0.map A.D.s))),(3,dI (k1:Int))]) (fun k1 _=>[]) I (fun k1 xk1 sk1 ok1 hxk1 hr hltk1 hik1=>?_) fun k1 sk1 ek1 hltk1=>?_
 refine ggE hr fun g1 hr=>J g<|J (SLH' (Int.natCast_nonneg _) g1)<|bdE hr fun y1 hy1 hr=>J g<|J (CB' [] [] (z7v (m:=m) hy1))<|J (gn 1)<|ifE hr ?_ ?_<;>intro h1 hr
 exact e
 exact e
 subst ek1
 exact e
theorem z8a {m:Md}{a0:Symbol}{r:Bool}(hr:q7t a0=some r):Ok Tryz.prog 196 [Symbol.x m a0] [] (dB r) []:=by
 refine OE Tryz.func196 fun S hS=>?_
 unfold q7t at hr
 refine J g<|J (BX' 0)<|J g<|J (L0' 1 A.D.s)<|J (gn 8)<|J (lenA 1 0)<|fun hl1=>bdE hr fun q1 hqq1 hr=>q0b hqq1 hl1 2 (fun k1 s1=>[(1,.pb 0 0),(3,.ref 1 none),(4,dI (k1:Int))]) (fun k1 s1=>[(1,.row .fz 1 (s1.map A.D.s))]) I (fun k1 xk1 sk1 ok1 hxk1 hr hltk1 hik1=>?_) fun k1 sk1 ek1 hltk1=>?_
 obtain⟨s1,rfl⟩:∃ y,y=sk1:=⟨_,rfl⟩
 refine bdE hr fun y1 hy1 hr=>J g<|J (CB' [] [] (z5Q hy1))<|J (gn 2)<|ifE hr ?_ ?_<;>intro h1 hr
 refine J g<|J (LIR' 2 (m:=.fz) (f:=A.D.s) (xs:=[xk1.Name]))<|ggE hr fun g1 hr=>J (z0Q (f:=A.D.s) 3 (fun _=>rfl) 16 g1)<|e
 exact e
 subst ek1
 obtain⟨s1,rfl⟩:∃ y,y=sk1:=⟨_,rfl⟩
 refine bdE hr fun y2 hy2 hr=>J g<|J (CB' [] [] (q4T hy2))<|bdE hr fun s2 hqq2 hr=>q0a 5 [(3,.ref 1 none),(36,dB s2)] ?_ ?_
 replace hr:=hqq2
 refine ifE hr ?_ ?_<;>intro h2 hr
 exact e
 exact e
 refine bdE hr fun s3 hqq3 hr=>q0a 4 [(40,dB s3)] ?_ ?_
 replace hr:=hqq3
 refine ifE hr ?_ ?_<;>intro h3 hr
 refine bdE hr fun y3 hy3 hr=>J g<|J (CB' [] [1] (j0v (m:=.bo) hy3))<|e
 exact e
 exact e
theorem j5O {Rc2:Expr→Int→Option Int}(Ic2:∀ {m:Md} {a0:Expr} {a1:Int} {r:Int},Rc2 a0 a1=some r→Ok Tryz.prog 180 [Expr.x m a0,dI a1] [] (dI r) []){m:Md}{a0:Expr}{a1:Int}{r:Int}(hr:z4G Rc2 a0 a1=some r):Ok Tryz.prog 180 [Expr.x m a0,dI a1] [] (dI r) []:=by
 refine OE Tryz.func180 fun S hS=>?_
 unfold z4G at hr
 refine J g<|J (BX' 0)<|ggE hr fun g1 hr=>bdE hr fun s1 hqq1 hr=>J (gn 13)<|q0e 1 [(1,dI s1)] [] ?_ ?_
 refine J g<|q0h hqq1 1 (fun (s2,s3)=>[(1,dI s2),(2,.pb 0 0),(5,dI s3)]) (fun (s2,s3)=>[]) I fun sk1 ok1 hr hik1=>?_
 obtain⟨s2,s3⟩:=sk1
 have hr:=hr
 refine J (gn 8)<|ifE hr ?_ ?_<;>intro h1 hr
 refine J (gn 5)<|ifE hr ?_ ?_<;>intro h2 hr
 refine ggE hr fun g2 hr=>bdE hr fun x1 hx1 hr=>bdE hr fun y1 hy1 hr=>J g<|J (CB' [] [] (Ic2 (m:=m) hy1))<|ggE hr fun g3 hr=>e
 refine J (gn 2) ?_
 cases hr
 cases hik1 _ rfl
 exact q0f hS 1
 refine J (gn 7) ?_
 cases hr
 cases hik1 _ rfl
 exact q0f hS 1
 exact e
theorem j5P (n:Nat):∀ {m:Md} {a0:Expr} {a1:Int} {r:Int},z1S n a0 a1=some r→Ok Tryz.prog 180 [Expr.x m a0,dI a1] [] (dI r) []:=by
  induction n with
  | zero=>intro _ _ _ r hr;exact nomatch (show (none:Option Int)=some r from hr)
  | succ n ih=>intro _ _ _ r hr;exact j5O ih hr
theorem j8e {m:Md}{a0:Expr}{a1:Int}{r:Int}(hr:z9Z a0 a1=some r):Ok Tryz.prog 180 [Expr.x m a0,dI a1] [] (dI r) []:=by
 obtain⟨n,hn⟩:=q5L hr
 exact j5P n hn
theorem z5g {a0:Int}{a1:Int}{r:Int}(hr:q9r a0 a1=some r):Ok Tryz.prog 111 [dI a0,dI a1] [] (dI r) []:=by
 refine OE Tryz.func111 fun S hS=>?_
 unfold q9r at hr
 refine J (gn 11)<|ifE hr ?_ ?_<;>intro h1 hr
 exact e
 exact e
theorem z8Z {Rc3:Expr→Option Int}(Ic3:∀ {m:Md} {a0:Expr} {r:Int},Rc3 a0=some r→Ok Tryz.prog 181 [Expr.x m a0] [] (dI r) []){m:Md}{a0:Expr}{r:Int}(hr:q8C Rc3 a0=some r):Ok Tryz.prog 181 [Expr.x m a0] [] (dI r) []:=by
 refine OE Tryz.func181 fun S hS=>?_
 unfold q8C at hr
 refine J g<|J (BX' 0)<|J (gn 12)<|J (lenA 6 0)<|fun hl1=>bdE hr fun s1 hqq1 hr=>q0c hqq1 hl1 1 (fun k1 s1=>[(1,.pb 0 0),(3,dI s1),(4,dI (k1:Int))]) (fun k1 s1=>[]) I (fun k1 xk1 sk1 ok1 hxk1 hr hltk1=>?_) fun k1 hltk1=>?_
 obtain⟨s1,rfl⟩:∃ y,y=sk1:=⟨_,rfl⟩
 refine bdE hr fun y1 hy1 hr=>J g<|J (CB' [] [] (Ic3 (m:=m) hy1))<|bdE hr fun y2 hy2 hr=>J (CB' [] [] (z5g hy2))<|e
 refine ggE hr fun g1 hr=>e
theorem z9a (n:Nat):∀ {m:Md} {a0:Expr} {r:Int},q6c n a0=some r→Ok Tryz.prog 181 [Expr.x m a0] [] (dI r) []:=by
  induction n with
  | zero=>intro _ _ r hr;exact nomatch (show (none:Option Int)=some r from hr)
  | succ n ih=>intro _ _ r hr;exact z8Z ih hr
theorem j0w {m:Md}{a0:Expr}{r:Int}(hr:z2T a0=some r):Ok Tryz.prog 181 [Expr.x m a0] [] (dI r) []:=by
 obtain⟨n,hn⟩:=q5L hr
 exact z9a n hn
theorem j8f {m:Md}{a0:Expr}{r:Bool}(hr:z4H a0=some r):Ok Tryz.prog 265 [Expr.x m a0] [] (dB r) []:=by
 refine OE Tryz.func265 fun S hS=>?_
 unfold z4H at hr
 refine J g<|J (BX' 0)<|bdE hr fun s1 hqq1 hr=>J (gn 12)<|q0e 1 [(1,.pb 0 0),(3,dI s1)] [] ?_ ?_
 replace hr:=hqq1
 refine J (gn 6)<|ifE hr ?_ ?_<;>intro h1 hr
 exact e
 refine J (gn 6)<|ifE hr ?_ ?_<;>intro h2 hr
 exact e
 refine J (gn 6)<|ifE hr ?_ ?_<;>intro h3 hr
 exact e
 exact e
 refine J (gn 9)<|ifE hr ?_ ?_<;>intro h4 hr
 refine bdE hr fun s2 hqq2 hr=>J (gn 7)<|q0a 5 [(1,.pb 0 0),(27,dB s2)] ?_ ?_
 replace hr:=hqq2
 refine ifE hr ?_ ?_<;>intro h5 hr
 exact e
 exact e
 refine bdE hr fun s3 hqq3 hr=>J (gn 7)<|q0a 5 [(1,.pb 0 0),(4,dB s2),(35,dB s3)] ?_ ?_
 replace hr:=hqq3
 refine ifE hr ?_ ?_<;>intro h6 hr
 exact e
 exact e
 refine bdE hr fun s4 hqq4 hr=>J (gn 7)<|q0a 5 [(1,.pb 0 0),(4,dB s2),(5,dB s3),(43,dB s4)] ?_ ?_
 replace hr:=hqq4
 refine ifE hr ?_ ?_<;>intro h7 hr
 exact e
 exact e
 refine bdE hr fun s5 hqq5 hr=>J (gn 5)<|q0a 5 [(1,.pb 0 0),(5,dB s3),(6,dB s4),(49,dB s5)] ?_ ?_
 replace hr:=hqq5
 refine ifE hr ?_ ?_<;>intro h8 hr
 exact e
 exact e
 refine bdE hr fun s6 hqq6 hr=>q0a 8 [(1,.pb 0 0),(6,dB s4),(57,dB s6)] ?_ ?_
 replace hr:=hqq6
 refine ifE hr ?_ ?_<;>intro h9 hr
 refine bdE hr fun s7 hqq7 hr=>J (gn 2)<|q0a 5 [(1,.pb 0 0),(6,dB s4),(50,dB true),(56,dB s7)] ?_ ?_
 replace hr:=hqq7
 refine ifE hr ?_ ?_<;>intro h10 hr
 exact e
 exact e
 exact e
 exact e
 refine bdE hr fun s8 hqq8 hr=>q0a 8 [(1,.pb 0 0),(65,dB s8)] ?_ ?_
 replace hr:=hqq8
 refine ifE hr ?_ ?_<;>intro h11 hr
 refine bdE hr fun s9 hqq9 hr=>J (gn 2)<|q0a 5 [(1,.pb 0 0),(58,dB true),(64,dB s9)] ?_ ?_
 replace hr:=hqq9
 refine ifE hr ?_ ?_<;>intro h12 hr
 exact e
 exact e
 exact e
 exact e
 refine bdE hr fun s10 hqq10 hr=>q0a 10 [(1,.pb 0 0),(75,dB s10)] ?_ ?_
 replace hr:=hqq10
 refine ifE hr ?_ ?_<;>intro h13 hr
 refine bdE hr fun s11 hqq11 hr=>J (gn 4)<|q0a 5 [(1,.pb 0 0),(66,dB true),(74,dB s11)] ?_ ?_
 replace hr:=hqq11
 refine ifE hr ?_ ?_<;>intro h14 hr
 exact e
 exact e
 exact e
 exact e
 refine bdE hr fun s12 hqq12 hr=>q0a 10 [(85,dB s12)] ?_ ?_
 replace hr:=hqq12
 refine ifE hr ?_ ?_<;>intro h15 hr
 refine bdE hr fun s13 hqq13 hr=>J (gn 4)<|q0a 5 [(76,dB true),(84,dB s13)] ?_ ?_
 replace hr:=hqq13
 refine ifE hr ?_ ?_<;>intro h16 hr
 exact e
 exact e
 exact e
 exact e
 exact e
 exact e
theorem j9I {a0:Int}{a1:Int}{r:Int}(hr:z7e a0 a1=some r):Ok Tryz.prog 318 [dI a0,dI a1] [] (dI r) []:=by
 refine OE Tryz.func318 fun S hS=>?_
 unfold z7e at hr
 refine J (gn 11)<|ifE hr ?_ ?_<;>intro h1 hr
 exact e
 exact e
theorem j4x {a0:Int}{r:Int}(hr:z1U a0=some r):Ok Tryz.prog 308 [dI a0] [] (dI r) []:=by
 refine OE Tryz.func308 fun S hS=>?_
 unfold z1U at hr
 refine bdE hr fun y1 hy1 hr=>J g<|J (CB' [] [] (j9I hy1))<|bdE hr fun y2 hy2 hr=>J (CB' [] [] (z5g hy2))<|e
theorem j5Q {a0:Bool}{r:Int}(hr:z3o a0=some r):Ok Tryz.prog 309 [dB a0] [] (dI r) []:=by
 refine OE Tryz.func309 fun S hS=>?_
 unfold z3o at hr
 refine J (gn 9)<|ifE hr ?_ ?_<;>intro h1 hr
 exact e
 exact e
theorem j8g {a0:Int}{a1:Int}{r:Int}(hr:z4I a0 a1=some r):Ok Tryz.prog 288 [dI a0,dI a1] [] (dI r) []:=by
 refine OE Tryz.func288 fun S hS=>?_
 unfold z4I at hr
 refine J (gn 15)<|ifE hr ?_ ?_<;>intro h1 hr
 refine bdE hr fun y1 hy1 hr=>J g<|J (CB' [] [] (j4x hy1))<|e
 refine J (gn 6)<|ifE hr ?_ ?_<;>intro h2 hr
 refine J g<|J (OB' _ k5j)<|e
 refine J (gn 6)<|ifE hr ?_ ?_<;>intro h3 hr
 refine bdE hr fun y2 hy2 hr=>J g<|J (CB' [] [] (j5Q hy2))<|e
 refine J (gn 6)<|ifE hr ?_ ?_<;>intro h4 hr
 refine bdE hr fun y3 hy3 hr=>J g<|J (CB' [] [] (q5i hy3))<|J (gn 1)<|ifE hr ?_ ?_<;>intro h5 hr
 exact e
 exact e
 exact e
theorem j4y {a0:Int}{a1:Int}{r:Bool}(hr:z1V a0 a1=some r):Ok Tryz.prog 266 [dI a0,dI a1] [] (dB r) []:=by
 refine OE Tryz.func266 fun S hS=>?_
 unfold z1V at hr
 refine bdE hr fun y1 hy1 hr=>J g<|J (CB' [] [] (q5i hy1))<|ifE hr ?_ ?_<;>intro h1 hr
 refine bdE hr fun y2 hy2 hr=>J g<|J (CB' [] [] (j8g hy2))<|e
 exact e
theorem j8h {m:Md}{a0:Expr}{r:Bool}(hr:z4J a0=some r):Ok Tryz.prog 223 [Expr.x m a0] [] (dB r) []:=by
 refine OE Tryz.func223 fun S hS=>?_
 unfold z4J at hr
 refine J g<|J (BX' 0)<|bdE hr fun y1 hy1 hr=>J g<|J (CB' [] [] (q5i hy1))<|bdE hr fun s1 hqq1 hr=>J (gn 1)<|q0a 5 [(1,.pb 0 0),(11,dB s1)] ?_ ?_
 replace hr:=hqq1
 refine ifE hr ?_ ?_<;>intro h1 hr
 refine bdE hr fun y2 hy2 hr=>J g<|J (CB' [] [] (j8f (m:=m) hy2))<|e
 exact e
 refine J (gn 1)<|ifE hr ?_ ?_<;>intro h2 hr
 exact e
 refine J (gn 14)<|ifE hr ?_ ?_<;>intro h3 hr
 refine bdE hr fun y3 hy3 hr=>J g<|J (CB' [] [] (q5i hy3))<|bdE hr fun s2 hqq2 hr=>q0a 7 [(1,.pb 0 0),(25,dB s2)] ?_ ?_
 replace hr:=hqq2
 refine ifE hr ?_ ?_<;>intro h4 hr
 refine bdE hr fun y4 hy4 hr=>J g<|J (CB' [] [] (j4y hy4))<|e
 exact e
 refine bdE hr fun s3 hqq3 hr=>q0a 5 [(30,dB s3)] ?_ ?_
 replace hr:=hqq3
 refine ifE hr ?_ ?_<;>intro h5 hr
 exact e
 exact e
 exact e
 refine J (gn 6)<|ifE hr ?_ ?_<;>intro h6 hr
 refine bdE hr fun y5 hy5 hr=>J g<|J (CB' [] [] (q5i hy5))<|bdE hr fun s4 hqq4 hr=>q0a 5 [(40,dB s4)] ?_ ?_
 replace hr:=hqq4
 refine ifE hr ?_ ?_<;>intro h7 hr
 refine bdE hr fun y6 hy6 hr=>J g<|J (CB' [] [] (q4T hy6))<|e
 exact e
 exact e
 refine J (gn 6)<|ifE hr ?_ ?_<;>intro h8 hr
 refine bdE hr fun y7 hy7 hr=>J g<|J (CB' [] [] (q5i hy7))<|e
 refine J (gn 6)<|ifE hr ?_ ?_<;>intro h9 hr
 refine bdE hr fun y8 hy8 hr=>J g<|J (CB' [] [] (q5i hy8))<|e
 refine J (gn 6)<|ifE hr ?_ ?_<;>intro h10 hr
 refine bdE hr fun y9 hy9 hr=>J g<|J (CB' [] [] (q4T hy9))<|bdE hr fun s5 hqq5 hr=>q0a 5 [(60,dB s5)] ?_ ?_
 replace hr:=hqq5
 refine ifE hr ?_ ?_<;>intro h11 hr
 refine bdE hr fun y10 hy10 hr=>J g<|J (CB' [] [] (q4T hy10))<|e
 exact e
 exact e
 exact e
theorem j8i {Rc4:Expr→Option Bool}(Ic4:∀ {m:Md} {a0:Expr} {r:Bool},Rc4 a0=some r→Ok Tryz.prog 182 [Expr.x m a0] [] (dB r) []){m:Md}{a0:Expr}{r:Bool}(hr:z7f Rc4 a0=some r):Ok Tryz.prog 182 [Expr.x m a0] [] (dB r) []:=by
 refine OE Tryz.func182 fun S hS=>?_
 unfold z7f at hr
 refine J g<|J (BX' 0)<|J (gn 8)<|J (lenA 6 0)<|fun hl1=>bdE hr fun q1 hqq1 hr=>q0b hqq1 hl1 1 (fun k1 _=>[(1,.pb 0 0),(3,dI (k1:Int))]) (fun k1 _=>[]) I (fun k1 xk1 sk1 ok1 hxk1 hr hltk1 hik1=>?_) fun k1 sk1 ek1 hltk1=>?_
 refine bdE hr fun y1 hy1 hr=>J g<|J (CB' [] [] (Ic4 (m:=m) hy1))<|J (gn 2)<|ifE hr ?_ ?_<;>intro h1 hr
 exact e
 exact e
 subst ek1
 refine bdE hr fun y2 hy2 hr=>J g<|J (CB' [] [] (j8h (m:=m) hy2))<|e
theorem j8j (n:Nat):∀ {m:Md} {a0:Expr} {r:Bool},z7g n a0=some r→Ok Tryz.prog 182 [Expr.x m a0] [] (dB r) []:=by
  induction n with
  | zero=>intro _ _ r hr;exact nomatch (show (none:Option Bool)=some r from hr)
  | succ n ih=>intro _ _ r hr;exact j8i ih hr
theorem j9J {m:Md}{a0:Expr}{r:Bool}(hr:j2L a0=some r):Ok Tryz.prog 182 [Expr.x m a0] [] (dB r) []:=by
 obtain⟨n,hn⟩:=q5L hr
 exact j8j n hn
theorem j0x {m:Md}{a0:Expr}{r:Bool}(hr:q8D a0=some r):Ok Tryz.prog 132 [Expr.x m a0] [] (dB r) []:=by
 refine OE Tryz.func132 fun S hS=>?_
 unfold q8D at hr
 refine J g<|J (BX' 0)<|bdE hr fun y1 hy1 hr=>J g<|J (CB' [] [] (j8e (m:=m) hy1))<|bdE hr fun s1 hqq1 hr=>J (gn 1)<|q0a 5 [(1,.pb 0 0),(2,dB false),(10,dB s1)] ?_ ?_
 replace hr:=hqq1
 refine ifE hr ?_ ?_<;>intro h1 hr
 refine bdE hr fun y2 hy2 hr=>J g<|J (CB' [] [] (j0w (m:=m) hy2))<|e
 exact e
 refine bdE hr fun s2 hqq2 hr=>q0a 4 [(2,dB false),(14,dB s2)] ?_ ?_
 replace hr:=hqq2
 refine ifE hr ?_ ?_<;>intro h2 hr
 refine bdE hr fun y3 hy3 hr=>J g<|J (CB' [] [] (j9J (m:=m) hy3))<|e
 exact e
 exact e
theorem j2W {Rc5:Expr→Int→Option Bool}(Ic5:∀ {m:Md} {a0:Expr} {a1:Int} {r:Bool},Rc5 a0 a1=some r→Ok Tryz.prog 222 [Expr.x m a0,dI a1] [] (dB r) []){m:Md}{a0:Expr}{a1:Int}{r:Bool}(hr:z1W Rc5 a0 a1=some r):Ok Tryz.prog 222 [Expr.x m a0,dI a1] [] (dB r) []:=by
 refine OE Tryz.func222 fun S hS=>?_
 unfold z1W at hr
 refine J g<|J (BX' 0)<|J (gn 8)<|J (lenA 6 0)<|fun hl1=>bdE hr fun q1 hqq1 hr=>q0b hqq1 hl1 1 (fun k1 _=>[(1,dI a1),(2,.pb 0 0),(5,dI (k1:Int))]) (fun k1 _=>[]) I (fun k1 xk1 sk1 ok1 hxk1 hr hltk1 hik1=>?_) fun k1 sk1 ek1 hltk1=>?_
 refine bdE hr fun y1 hy1 hr=>J g<|J (CB' [] [] (Ic5 (m:=m) hy1))<|J (gn 2)<|ifE hr ?_ ?_<;>intro h1 hr
 exact e
 exact e
 subst ek1
 exact e
theorem j2X (n:Nat):∀ {m:Md} {a0:Expr} {a1:Int} {r:Bool},z1X n a0 a1=some r→Ok Tryz.prog 222 [Expr.x m a0,dI a1] [] (dB r) []:=by
  induction n with
  | zero=>intro _ _ _ r hr;exact nomatch (show (none:Option Bool)=some r from hr)
  | succ n ih=>intro _ _ _ r hr;exact j2W ih hr
theorem j4z {m:Md}{a0:Expr}{a1:Int}{r:Bool}(hr:z6l a0 a1=some r):Ok Tryz.prog 222 [Expr.x m a0,dI a1] [] (dB r) []:=by
 obtain⟨n,hn⟩:=q5L hr
 exact j2X n hn
theorem z8b {m:Md}{a0:Expr}{a1:Int}{r:Bool}(hr:z1Y a0 a1=some r):Ok Tryz.prog 176 [Expr.x m a0,dI a1] [] (dB r) []:=by
 refine OE Tryz.func176 fun S hS=>?_
 unfold z1Y at hr
 refine J g<|J (BX' 0)<|bdE hr fun y1 hy1 hr=>J g<|J (CB' [] [] (j0x (m:=m) hy1))<|ifE hr ?_ ?_<;>intro h1 hr
 refine bdE hr fun y2 hy2 hr=>J g<|J (CB' [] [] (j4z (m:=m) hy2))<|e
 exact e
theorem j0y {m:Md}{a0:Rule}{r:Bool}(hr:q8E a0=some r):Ok Tryz.prog 198 [Rule.x m a0] [] (dB r) []:=by
 refine OE Tryz.func198 fun S hS=>?_
 unfold q8E at hr
 refine J g<|J (BX' 0)<|bdE hr fun y1 hy1 hr=>J g<|J (CB' [] [] (q4T hy1))<|bdE hr fun s1 hqq1 hr=>J (gn 1)<|q0a 6 [(1,.pb 0 0),(3,dI (a0.Right.length:Int)),(21,dB s1)] ?_ ?_
 replace hr:=hqq1
 refine ifE hr ?_ ?_<;>intro h1 hr
 refine bdE hr fun y2 hy2 hr=>J g<|J (CB' [] [] (q4T hy2))<|e
 exact e
 refine bdE hr fun s2 hqq2 hr=>q0a 4 [(1,.pb 0 0),(3,dI (a0.Right.length:Int)),(25,dB s2)] ?_ ?_
 replace hr:=hqq2
 refine ifE hr ?_ ?_<;>intro h2 hr
 exact e
 exact e
 refine bdE hr fun s3 hqq3 hr=>q0a 6 [(1,.pb 0 0),(3,dI (a0.Right.length:Int)),(31,dB s3)] ?_ ?_
 replace hr:=hqq3
 refine ifE hr ?_ ?_<;>intro h3 hr
 exact e
 exact e
 refine J (gn 1)<|ifE hr ?_ ?_<;>intro h4 hr
 exact e
 refine J (gn 8) ?_
 refine AW.len (.box 0 2 rfl rfl) fun hl1=>?_
 refine bdE hr fun q4 hqq4 hr=>q0b hqq4 hl1 1 (fun k1 _=>[(1,.pb 0 0),(3,dI (a0.Right.length:Int)),(4,dI (k1:Int))]) (fun k1 _=>[]) I (fun k1 xk1 sk1 ok1 hxk1 hr hltk1 hik1=>?_) fun k1 sk1 ek1 hltk1=>?_
 refine bdE hr fun y3 hy3 hr=>J g<|J (CB' [] [] (q4T hy3))<|J (gn 2)<|ifE hr ?_ ?_<;>intro h5 hr
 exact e
 exact e
 subst ek1
 refine J (gn 15) ?_
 refine AW.len (.box 0 4 rfl rfl) fun hl2=>?_
 refine bdE hr fun q5 hqq5 hr=>q0b hqq5 hl2 1 (fun k2 _=>[(1,.pb 0 0),(3,dI (a0.Right.length:Int)),(5,dI (k2:Int))]) (fun k2 _=>[]) I (fun k2 xk2 sk2 ok2 hxk2 hr hltk2 hik2=>?_) fun k2 sk2 ek2 hltk2=>?_
 refine J g<|J (NV' 1)<|bdE hr fun y4 hy4 hr=>J g<|J (CB' [] [] (q4T hy4))<|bdE hr fun s4 hqq6 hr=>J (gn 1)<|q0a 8 [(1,.pb 0 0),(3,dI (a0.Right.length:Int)),(5,dI (k2:Int)),(6,.pb 1 0),(68,dB s4)] ?_ ?_
 replace hr:=hqq6
 refine ifE hr ?_ ?_<;>intro h6 hr
 refine bdE hr fun y5 hy5 hr=>J g<|J (CB' [] [] (q5i hy5))<|e
 exact e
 refine bdE hr fun s5 hqq7 hr=>q0a 7 [(1,.pb 0 0),(3,dI (a0.Right.length:Int)),(5,dI (k2:Int)),(75,dB s5)] ?_ ?_
 replace hr:=hqq7
 refine ifE hr ?_ ?_<;>intro h7 hr
 exact e
 refine bdE hr fun y6 hy6 hr=>J g<|J (CB' [] [] (z8b (m:=m) hy6))<|e
 refine J (gn 1)<|ifE hr ?_ ?_<;>intro h8 hr
 exact e
 exact e
 subst ek2
 refine J (gn 17) ?_
 refine AW.len (.box 0 5 rfl rfl) fun hl3=>?_
 refine bdE hr fun q8 hqq8 hr=>q0b hqq8 hl3 1 (fun k3 _=>[(1,.pb 0 0),(3,dI (a0.Right.length:Int)),(7,dI (k3:Int))]) (fun k3 _=>[]) I (fun k3 xk3 sk3 ok3 hxk3 hr hltk3 hik3=>?_) fun k3 sk3 ek3 hltk3=>?_
 refine J g<|J (NV' 1)<|bdE hr fun y7 hy7 hr=>J g<|J (CB' [] [] (q4T hy7))<|bdE hr fun s6 hqq9 hr=>J (gn 1)<|q0a 6 [(1,.pb 0 0),(3,dI (a0.Right.length:Int)),(7,dI (k3:Int)),(8,.pb 1 0),(97,dB s6)] ?_ ?_
 replace hr:=hqq9
 refine ifE hr ?_ ?_<;>intro h9 hr
 refine bdE hr fun y8 hy8 hr=>J g<|J (CB' [] [] (q4T hy8))<|e
 exact e
 refine bdE hr fun s7 hqq10 hr=>q0a 7 [(1,.pb 0 0),(3,dI (a0.Right.length:Int)),(7,dI (k3:Int)),(8,.pb 1 0),(104,dB s7)] ?_ ?_
 replace hr:=hqq10
 refine ifE hr ?_ ?_<;>intro h10 hr
 exact e
 refine bdE hr fun y9 hy9 hr=>J g<|J (CB' [] [] (z8b (m:=m) hy9))<|e
 refine bdE hr fun s8 hqq11 hr=>q0a 7 [(1,.pb 0 0),(3,dI (a0.Right.length:Int)),(7,dI (k3:Int)),(111,dB s8)] ?_ ?_
 replace hr:=hqq11
 refine ifE hr ?_ ?_<;>intro h11 hr
 exact e
 refine bdE hr fun y10 hy10 hr=>J g<|J (CB' [] [] (z8b (m:=m) hy10))<|e
 refine J (gn 1)<|ifE hr ?_ ?_<;>intro h12 hr
 exact e
 exact e
 subst ek3
 exact e
theorem j8k {m:Md}{a0:Gm_}{r:Int}(hr:z4N a0=some r):Ok Tryz.prog 146 [Gm_.x m a0] [] (dI r) []:=by
 refine OE Tryz.func146 fun S hS=>?_
 unfold z4N at hr
 refine J g<|J (BX' 0)<|J g<|J (L0' 1 A.D.s)<|J (gn 8)<|J (lenA 0 0)<|fun hl1=>bdE hr fun q1 hqq1 hr=>q0b hqq1 hl1 2 (fun k1 s1=>[(1,.pb 0 0),(3,.ref 1 none),(4,dI (k1:Int))]) (fun k1 s1=>[(1,.row .fz 1 (s1.map A.D.s))]) I (fun k1 xk1 sk1 ok1 hxk1 hr hltk1 hik1=>?_) fun k1 sk1 ek1 hltk1=>?_
 obtain⟨s1,rfl⟩:∃ y,y=sk1:=⟨_,rfl⟩
 refine bdE hr fun y1 hy1 hr=>J g<|J (CB' [] [] (z8a (m:=m) hy1))<|J (gn 1)<|ifE hr ?_ ?_<;>intro h1 hr
 refine bdE hr fun y2 hy2 hr=>J g<|J (CB' [] [1] (z7v (m:=.bo) hy2))<|J (gn 2)<|ifE hr ?_ ?_<;>intro h2 hr
 exact e
 refine J g<|J (LIR' 2 (m:=.fz) (f:=A.D.s) (xs:=[xk1.Name]))<|ggE hr fun g1 hr=>J (z0Q (f:=A.D.s) 3 (fun _=>rfl) 16 g1)<|e
 exact e
 subst ek1
 obtain⟨s1,rfl⟩:∃ y,y=sk1:=⟨_,rfl⟩
 refine J g<|J (L0' 2 A.D.s)<|J (gn 8) ?_
 refine AW.len (.box 0 1 rfl rfl) fun hl2=>?_
 refine bdE hr fun q2 hqq2 hr=>q0b hqq2 hl2 3 (fun k2 s2=>[(1,.pb 0 0),(3,.ref 2 none),(5,dI (k2:Int))]) (fun k2 s2=>[(2,.row .fz 1 (s2.map A.D.s))]) I (fun k2 xk2 sk2 ok2 hxk2 hr hltk2 hik2=>?_) fun k2 sk2 ek2 hltk2=>?_
 obtain⟨s2,rfl⟩:∃ y,y=sk2:=⟨_,rfl⟩
 refine bdE hr fun y3 hy3 hr=>J g<|J (CB' [] [] (j0y (m:=m) hy3))<|J (gn 1)<|ifE hr ?_ ?_<;>intro h3 hr
 refine bdE hr fun y4 hy4 hr=>J g<|J (CB' [] [2] (z7v (m:=.bo) hy4))<|J (gn 2)<|ifE hr ?_ ?_<;>intro h4 hr
 exact e
 refine J g<|J (LIR' 3 (m:=.fz) (f:=A.D.s) (xs:=[xk2.Name]))<|ggE hr fun g2 hr=>J (z0Q (f:=A.D.s) 4 (fun _=>rfl) 16 g2)<|e
 exact e
 subst ek2
 obtain⟨s2,rfl⟩:∃ y,y=sk2:=⟨_,rfl⟩
 exact e
theorem q9e {m:Md}{a0:Rule}{a1:Int}{r:ByteArray}(hr:q5w a0 a1=some r):Ok Tryz.prog 135 [Rule.x m a0,dI a1] [] (dS r) []:=by
 refine OE Tryz.func135 fun S hS=>?_
 unfold q5w at hr
 refine J g<|J (BX' 0)<|J (gn 8)<|ifE hr ?_ ?_<;>intro h1 hr
 exact e
 refine bdE hr fun y1 hy1 hr=>J g<|J (CB' [] [] (q5i hy1))<|J (gn 2)<|ifE hr ?_ ?_<;>intro h2 hr
 refine ggE hr fun g1 hr=>ggE hr fun g2 hr=>bdE hr fun x1 hx1 hr=>e
 exact e
theorem j2Y {m:Md}{a0:Symbol}{r:Symbol}(hr:q7Y a0=some r):Ok Tryz.prog 158 [Symbol.x m a0] [] (.ag [dS r.Name,.ref 0 none]) [.row .fz 4 (r.Attributes.map At_.D)]:=by
 refine OE Tryz.func158 fun S hS=>?_
 unfold q7Y at hr
 refine J g<|J (BX' 0)<|J (NV' 1)<|J g<|J (L0' 2 At_.D)<|ggE hr fun g1 hr=>J g<|J (j4l (f:=At_.D) 3 40 (fun _=>rfl) g1)<|e
theorem q7F {m:Md}{a0:Gm_}{a1:ByteArray}{r:(Symbol×Bool)}(hr:q5e a0 a1=some r):Ok Tryz.prog 102 [Gm_.y m a0,dS a1] [] (.tu [.ag [dS r.1.Name,.ref 0 none],dB r.2]) [.row .fz 4 (r.1.Attributes.map At_.D)]:=by
 refine OE Tryz.func102 fun S hS=>?_
 unfold q5e at hr
 refine J g<|J (BX' 0)<|J (NV' 1)<|J (gn 8)<|J (lenA 0 0)<|fun hl1=>bdE hr fun q1 hqq1 hr=>q0b hqq1 hl1 2 (fun k1 _=>[(1,dS a1),(2,.pb 0 0),(4,.pb 1 0),(6,dI (k1:Int))]) (fun k1 _=>[]) I (fun k1 xk1 sk1 ok1 hxk1 hr hltk1 hik1=>?_) fun k1 sk1 ek1 hltk1=>?_
 refine J (gn 24)<|ifE hr ?_ ?_<;>intro h1 hr
 refine bdE hr fun y1 hy1 hr=>J g<|J (CB' [(0,2)] [] (j2Y (m:=m) hy1))<|e
 exact e
 subst ek1
 refine J (gn 18) ?_
 refine J (q0g (q0j (q:=1) (c:=1) (r:=2) .fz 4 rfl rfl rfl))<|J g<|E
theorem j1t {m:Md}{a0:Gm_}{a1:Rule}{r:Bool}(hr:q9s a0 a1=some r):Ok Tryz.prog 199 [Gm_.y m a0,Rule.x m a1] [] (dB r) []:=by
 refine OE Tryz.func199 fun S hS=>?_
 unfold q9s at hr
 refine J g<|J (BX' 0)<|J (BX' 1)<|bdE hr fun q1 hqq1 hr=>J (gn 7)<|AW.cut 2 (fun _=>[]) (fun _=>[]) (M:=fun x=>q1=.inl x) ?_ fun x hx=>?_
 refine J g<|q0h hqq1 2 (fun s1=>[(2,.pb 0 0),(3,.pb 1 0),(5,dI s1)]) (fun s1=>[]) I fun sk1 ok1 hr hik1=>?_
 obtain⟨s1,rfl⟩:∃ y,y=sk1:=⟨_,rfl⟩
 have hr:=hr
 refine J (gn 9)<|ifE hr ?_ ?_<;>intro h1 hr
 refine bdE hr fun y1 hy1 hr=>J g<|J (CB' [] [] (q9e (m:=m) hy1))<|bdP hr fun y2 y3 hq2 hr=>J (CB' [(0,2)] [] (q7F (m:=m) hq2))<|J g<|J (NV' 3)<|J (gn 8)<|ifE hr ?_ ?_<;>intro h2 hr
 refine ggE hr fun g1 hr=>e
 exact e
 refine J (gn 2) ?_
 cases hr
 cases hik1 _ rfl
 exact⟨_,rfl,GH.trans (q1s (q:=0) [.d m (.sl 2 (a0.Symbols.map Symbol.D)),.u] (.cons .rfl (.cons .u .nil)) rfl) (q0f hS 2)⟩
 subst hx
 exact e
theorem q9U {m:Md}{a0:Gm_}{a1:Rule}{r:(List Oc)}(hr:q5b a0 a1=some r):Ok Tryz.prog 134 [Gm_.y m a0,Rule.x m a1] [] (.ref 0 none) [.row .fz 2 (r.map Oc.D)]:=by
 refine OE Tryz.func134 fun S hS=>?_
 unfold q5b at hr
 refine J g<|J (BX' 0)<|J (BX' 1)<|J g<|J (L0' 2 Oc.D)<|bdE hr fun s1 hqq1 hr=>J (gn 7)<|q0e 3 [(5,.ref 2 none)] [(2,.row .fz 2 (s1.map Oc.D))] ?_ ?_
 refine J g<|q0h hqq1 3 (fun (s2,s3)=>[(2,.pb 0 0),(3,.pb 1 0),(5,.ref 2 none),(6,dI s3)]) (fun (s2,s3)=>[(2,.row .fz 2 (s2.map Oc.D))]) I fun sk1 ok1 hr hik1=>?_
 obtain⟨s2,s3⟩:=sk1
 have hr:=hr
 refine J (gn 9)<|ifE hr ?_ ?_<;>intro h1 hr
 refine bdE hr fun s4 hqq2 hr=>J (gn 3)<|q0e 3 [(2,.pb 0 0),(3,.pb 1 0),(5,.ref 2 none),(6,dI s3)] [(2,.row .fz 2 (s4.map Oc.D))] ?_ ?_
 replace hr:=hqq2
 refine bdE hr fun y1 hy1 hr=>J g<|J (CB' [] [] (q9e (m:=m) hy1))<|bdP hr fun y2 y3 hq3 hr=>J (CB' [(0,3)] [] (q7F (m:=m) hq3))<|J g<|J (NV' 4)<|J (gn 13)<|ifE hr ?_ ?_<;>intro h2 hr
 refine J (gn 9)<|J (lenR 3)<|fun hl2=>bdE hr fun s5 hqq4 hr=>q0c hqq4 hl2 5 (fun k2 s5=>[(2,.pb 0 0),(3,.pb 1 0),(5,.ref 2 none),(6,dI s3),(7,.pb 4 0),(9,dI 2),(10,dI (k2:Int))]) (fun k2 s5=>[(2,.row .fz 2 (s5.map Oc.D))]) I (fun k2 xk2 sk2 ok2 hxk2 hr hltk2=>?_) fun k2 hltk2=>?_
 obtain⟨s5,rfl⟩:∃ y,y=sk2:=⟨_,rfl⟩
 refine bdE hr fun s6 hqq5 hr=>J (gn 12)<|q0e 5 [(2,.pb 0 0),(3,.pb 1 0),(5,.ref 2 none),(6,dI s3),(7,.pb 4 0),(9,dI 2),(10,dI (k2:Int))] [(2,.row .fz 2 (s6.map Oc.D))] ?_ ?_
 replace hr:=hqq5
 refine J (gn 12)<|ifE hr ?_ ?_<;>intro h3 hr
 refine J g<|J (LIR' 5 (m:=.fz) (f:=Oc.D) (xs:=[(⟨s3,xk2.Name⟩:Oc)]))<|ggE hr fun g1 hr=>J (z0Q (f:=Oc.D) 6 (fun _=>rfl) 24 g1)<|e
 exact e
 exact e
 exact e
 refine J (gn 7)<|J (lenR 3)<|fun hl3=>bdE hr fun s7 hqq6 hr=>q0c hqq6 hl3 5 (fun k3 s7=>[(2,.pb 0 0),(3,.pb 1 0),(5,.ref 2 none),(6,dI s3),(7,.pb 4 0),(9,dI 1),(10,dI (k3:Int))]) (fun k3 s7=>[(2,.row .fz 2 (s7.map Oc.D))]) I (fun k3 xk3 sk3 ok3 hxk3 hr hltk3=>?_) fun k3 hltk3=>?_
 obtain⟨s7,rfl⟩:∃ y,y=sk3:=⟨_,rfl⟩
 refine bdE hr fun s8 hqq7 hr=>J (gn 12)<|q0e 5 [(2,.pb 0 0),(3,.pb 1 0),(5,.ref 2 none),(6,dI s3),(7,.pb 4 0),(9,dI 1),(10,dI (k3:Int))] [(2,.row .fz 2 (s8.map Oc.D))] ?_ ?_
 replace hr:=hqq7
 refine J (gn 12)<|ifE hr ?_ ?_<;>intro h4 hr
 refine J g<|J (LIR' 5 (m:=.fz) (f:=Oc.D) (xs:=[(⟨s3,xk3.Name⟩:Oc)]))<|ggE hr fun g2 hr=>J (z0Q (f:=Oc.D) 6 (fun _=>rfl) 24 g2)<|e
 exact e
 exact e
 exact e
 refine ggE hr fun g3 hr=>e
 refine J (gn 2) ?_
 cases hr
 cases hik1 _ rfl
 exact GH.trans (q1s (q:=0) [.d m (.sl 2 (a0.Symbols.map Symbol.D)),.u] (.cons .rfl (.cons .u .nil)) rfl) (q0f hS 3)
 exact e
theorem j5R {Rc6:Expr→Option Expr}(Ic6:∀ {m:Md} {a0:Expr} {r:Expr},Rc6 a0=some r→Ok Tryz.prog 211 [Expr.x m a0] [] (.ag [dI r.Kind,dI r.N,dI r.Pos,dI r.Type_,dS r.Symbol,dS r.Name,.ref 0 none]) [.row .fz 7 (r.Args.map Expr.D)]){m:Md}{a0:Expr}{r:Expr}(hr:q9t Rc6 a0=some r):Ok Tryz.prog 211 [Expr.x m a0] [] (.ag [dI r.Kind,dI r.N,dI r.Pos,dI r.Type_,dS r.Symbol,dS r.Name,.ref 0 none]) [.row .fz 7 (r.Args.map Expr.D)]:=by
 refine OE Tryz.func211 fun S hS=>?_
 unfold q9t at hr
 refine J g<|J (BX' 0)<|J (NV' 1)<|J g<|J (L0' 2 Expr.D)<|J (gn 8)<|J (lenA 6 0)<|fun hl1=>bdE hr fun s1 hqq1 hr=>q0c hqq1 hl1 3 (fun k1 s1=>[(1,.pb 0 0),(2,.pb 1 0),(3,.ref 2 none),(4,dI (k1:Int))]) (fun k1 s1=>[(2,.row .fz 7 (s1.map Expr.D))]) I (fun k1 xk1 sk1 ok1 hxk1 hr hltk1=>?_) fun k1 hltk1=>?_
 obtain⟨s1,rfl⟩:∃ y,y=sk1:=⟨_,rfl⟩
 refine bdE hr fun y1 hy1 hr=>J g<|J (CB' [(0,3)] [] (Ic6 (m:=m) hy1)) ?_
 refine J (q0x 3 rfl) ?_
 refine J (k5o 4 (m:=.fz) (f:=Expr.D) [y1] (by simp only[List.map_cons,List.map_nil,Expr.D_eq];rfl))<|ggE hr fun g1 hr=>J (AP1' 5 .fz 88 g1)<|J g<|E
 exact e
theorem j5S (n:Nat):∀ {m:Md} {a0:Expr} {r:Expr},q6l n a0=some r→Ok Tryz.prog 211 [Expr.x m a0] [] (.ag [dI r.Kind,dI r.N,dI r.Pos,dI r.Type_,dS r.Symbol,dS r.Name,.ref 0 none]) [.row .fz 7 (r.Args.map Expr.D)]:=by
  induction n with
  | zero=>intro _ _ r hr;exact nomatch (show (none:Option Expr)=some r from hr)
  | succ n ih=>intro _ _ r hr;exact j5R ih hr
theorem j8l {m:Md}{a0:Expr}{r:Expr}(hr:z7h a0=some r):Ok Tryz.prog 211 [Expr.x m a0] [] (.ag [dI r.Kind,dI r.N,dI r.Pos,dI r.Type_,dS r.Symbol,dS r.Name,.ref 0 none]) [.row .fz 7 (r.Args.map Expr.D)]:=by
 obtain⟨n,hn⟩:=q5L hr
 exact j5S n hn
theorem z4u {m:Md}{a0:Rule}{a1:Oc}{r:(Expr×Bool)}(hr:q5d a0 a1=some r):Ok Tryz.prog 159 [Rule.x m a0,Oc.x .fz a1] [] (.tu [.ag [dI r.1.Kind,dI r.1.N,dI r.1.Pos,dI r.1.Type_,dS r.1.Symbol,dS r.1.Name,.ref 0 none],dB r.2]) [.row .fz 7 (r.1.Args.map Expr.D)]:=by
 refine OE Tryz.func159 fun S hS=>?_
 unfold q5d at hr
 refine J g<|J (BX' 0)<|J (BX' 1)<|J (NV' 2)<|J (gn 8)<|J (lenA 4 0)<|fun hl1=>bdE hr fun q1 hqq1 hr=>q0b hqq1 hl1 3 (fun k1 _=>[(2,.pb 0 0),(3,.pb 1 0),(4,.pb 2 0),(6,dI (k1:Int))]) (fun k1 _=>[]) I (fun k1 xk1 sk1 ok1 hxk1 hr hltk1 hik1=>?_) fun k1 sk1 ek1 hltk1=>?_
 refine J g ?_
 refine J (SQ' rfl rfl rfl rfl (q5v xk1.At a1))<|J (gn 1)<|ifE hr ?_ ?_<;>intro h1 hr
 refine bdE hr fun y1 hy1 hr=>J g<|J (CB' [(0,3)] [] (j8l (m:=m) hy1))<|e
 exact e
 subst ek1
 refine J (gn 18) ?_
 refine J (q0g (q0j (q:=2) (c:=6) (r:=3) .fz 7 rfl rfl rfl))<|J g<|E
theorem j1u {m:Md}{a0:Gm_}{a1:Rule}{r:Bool}(hr:q9u a0 a1=some r):Ok Tryz.prog 200 [Gm_.y m a0,Rule.x m a1] [] (dB r) []:=by
 refine OE Tryz.func200 fun S hS=>?_
 unfold q9u at hr
 refine J g<|J (BX' 0)<|J (BX' 1)<|bdE hr fun y1 hy1 hr=>J g<|J (CB' [(0,2)] [] (q9U (m:=m) hy1))<|J (gn 8)<|J (lenR 2)<|fun hl1=>bdE hr fun q1 hqq1 hr=>q0b hqq1 hl1 3 (fun k1 _=>[(3,.pb 1 0),(5,.ref 2 none),(6,dI (k1:Int))]) (fun k1 _=>[]) I (fun k1 xk1 sk1 ok1 hxk1 hr hltk1 hik1=>?_) fun k1 sk1 ek1 hltk1=>?_
 refine bdP hr fun y2 y3 hq2 hr=>J g<|J (CB' [(0,3)] [] (z4u (m:=m) hq2))<|J g<|J (NV' 4)<|J (gn 8)<|ifE hr ?_ ?_<;>intro h1 hr
 exact e
 exact e
 subst ek1
 exact e
theorem z8G {m:Md}{a0:(List Oc)}{a1:Oc}{r:Bool}(hr:z0f a0 a1=some r):Ok Tryz.prog 248 [.d m (.sl 2 (a0.map Oc.D)),Oc.x .fz a1] [] (dB r) []:=by
 refine OE Tryz.func248 fun S hS=>?_
 unfold z0f at hr
 refine J g<|J (BX' 0)<|J (gn 8)<|J (lenT 0)<|fun hl1=>bdE hr fun q1 hqq1 hr=>q0b hqq1 hl1 1 (fun k1 _=>[(0,.d m (.sl 2 (a0.map Oc.D))),(3,.pb 0 0),(5,dI (k1:Int))]) (fun k1 _=>[]) I (fun k1 xk1 sk1 ok1 hxk1 hr hltk1 hik1=>?_) fun k1 sk1 ek1 hltk1=>?_
 refine J g ?_
 refine J (SQ' rfl rfl rfl rfl (q5v xk1 a1))<|J (gn 1)<|ifE hr ?_ ?_<;>intro h1 hr
 exact e
 exact e
 subst ek1
 exact e
theorem j4A {m:Md}{a0:Gm_}{a1:Rule}{r:Bool}(hr:z1Z a0 a1=some r):Ok Tryz.prog 201 [Gm_.y m a0,Rule.x m a1] [] (dB r) []:=by
 refine OE Tryz.func201 fun S hS=>?_
 unfold z1Z at hr
 refine J g<|J (BX' 0)<|J (BX' 1)<|bdE hr fun y1 hy1 hr=>J g<|J (CB' [(0,2)] [] (q9U (m:=m) hy1))<|J g<|J (L0' 3 Oc.D)<|J (gn 8)<|J (lenA 4 1)<|fun hl1=>bdE hr fun q1 hqq1 hr=>q0b hqq1 hl1 4 (fun k1 s1=>[(3,.pb 1 0),(5,.ref 2 none),(6,.ref 3 none),(7,dI (k1:Int))]) (fun k1 s1=>[(3,.row .fz 2 (s1.map Oc.D))]) I (fun k1 xk1 sk1 ok1 hxk1 hr hltk1 hik1=>?_) fun k1 sk1 ek1 hltk1=>?_
 obtain⟨s1,rfl⟩:∃ y,y=sk1:=⟨_,rfl⟩
 refine J g<|J (NV' 4)<|bdE hr fun y2 hy2 hr=>J g<|J (CB' [] [2] (z8G (m:=.bo) hy2))<|J (gn 1)<|ifE hr ?_ ?_<;>intro h1 hr
 refine bdE hr fun y3 hy3 hr=>J g<|J (CB' [] [3] (z8G (m:=.bo) hy3))<|J (gn 2)<|ifE hr ?_ ?_<;>intro h2 hr
 exact e
 refine J g<|J (LIR' 5 (m:=.fz) (f:=Oc.D) (xs:=[xk1.At]))<|ggE hr fun g1 hr=>J (z0Q (f:=Oc.D) 6 (fun _=>rfl) 24 g1)<|e
 exact e
 subst ek1
 obtain⟨s1,rfl⟩:∃ y,y=sk1:=⟨_,rfl⟩
 exact e
theorem j4B {a0:Oc}{a1:Oc}{r:Bool}(hr:z2a a0 a1=some r):Ok Tryz.prog 284 [Oc.x .fz a0,Oc.x .fz a1] [] (dB r) []:=by
 refine OE Tryz.func284 fun S hS=>?_
 unfold z2a at hr
 refine J g<|J (BX' 0)<|J (BX' 1)<|bdE hr fun s1 hqq1 hr=>J (gn 9)<|q0a 14 [(4,dB false),(23,dB s1)] ?_ ?_
 replace hr:=hqq1
 refine ifE hr ?_ ?_<;>intro h1 hr
 exact e
 refine bdE hr fun s2 hqq2 hr=>J (gn 6)<|q0a 7 [(4,dB false),(10,dB false),(22,dB s2)] ?_ ?_
 replace hr:=hqq2
 refine ifE hr ?_ ?_<;>intro h2 hr
 exact e
 exact e
 exact e
 exact e
theorem j9K {m:Md}{a0:(List Oc)}{a1:Oc}{r:(List Oc)}(hr:z7i a0 a1=some r):Ok Tryz.prog 258 [.d m (.sl 2 (a0.map Oc.D)),Oc.x .fz a1] [] (.d m (.sl 2 (r.map Oc.D))) []:=by
 refine OE Tryz.func258 fun S hS=>?_
 unfold z7i at hr
 refine J g<|J (BX' 0)<|bdE hr fun s1 hqq1 hr=>J (gn 7)<|q0e 1 [(0,.d m (.sl 2 (a0.map Oc.D))),(3,.pb 0 0),(5,dI s1)] [] ?_ ?_
 refine J g<|q0h hqq1 1 (fun s2=>[(0,.d m (.sl 2 (a0.map Oc.D))),(3,.pb 0 0),(5,dI s2)]) (fun s2=>[]) I fun sk1 ok1 hr hik1=>?_
 obtain⟨s2,rfl⟩:∃ y,y=sk1:=⟨_,rfl⟩
 have hr:=hr
 refine J (gn 7)<|ifE hr ?_ ?_<;>intro h1 hr
 refine ggE hr fun g1 hr=>bdE hr fun x1 hx1 hr=>bdE hr fun y1 hy1 hr=>J g<|J (CB' [] [] (j4B hy1))<|J (gn 2)<|ifE hr ?_ ?_<;>intro h2 hr
 refine ggE hr fun g2 hr=>e
 refine J (gn 2) ?_
 cases hr
 cases hik1 _ rfl
 exact q0f hS 1
 refine J (gn 11) ?_
 cases hr
 cases hik1 _ rfl
 exact q0f hS 1
 refine J (gn 7)<|ifE hr ?_ ?_<;>intro h3 hr
 refine ggE hr fun g3 hr=>bdE hr fun x2 hx2 hr=>J g ?_
 refine J (SQ' rfl rfl rfl rfl (q5v x2 a1))<|J (gn 2)<|ifE hr ?_ ?_<;>intro h4 hr
 exact e
 refine J g<|J (L0' 1 Oc.D)<|ggE hr fun g4 hr=>ggE hr fun g5 hr=>J g<|J (SLH' g4 g5)<|ggE hr fun g6 hr=>J (j4l (f:=Oc.D) 2 24 (fun _=>rfl) g6)<|J g<|J (LIR' 3 (m:=.fz) (f:=Oc.D) (xs:=[a1]))<|ggE hr fun g7 hr=>J (z0Q (f:=Oc.D) 4 (fun _=>rfl) 24 g7)<|ggE hr fun g8 hr=>ggE hr fun g9 hr=>J g<|J (SLL' g8 g9)<|ggE hr fun g10 hr=>J (j4l (f:=Oc.D) 5 24 (fun _=>rfl) g10)<|J (gn 3) ?_
 refine J (q0g (q0m (r:=5) rfl)) ?_
 cases hr
 exact endA.ren [] 0 (.inr rfl) hS rfl rfl rfl (.md rfl) rfl rfl
 refine J g<|J (L0' 1 Oc.D)<|ggE hr fun g11 hr=>ggE hr fun g12 hr=>J g<|J (SLH' g11 g12)<|ggE hr fun g13 hr=>J (j4l (f:=Oc.D) 2 24 (fun _=>rfl) g13)<|J g<|J (LIR' 3 (m:=.fz) (f:=Oc.D) (xs:=[a1]))<|ggE hr fun g14 hr=>J (z0Q (f:=Oc.D) 4 (fun _=>rfl) 24 g14)<|ggE hr fun g15 hr=>ggE hr fun g16 hr=>J g<|J (SLL' g15 g16)<|ggE hr fun g17 hr=>J (j4l (f:=Oc.D) 5 24 (fun _=>rfl) g17)<|J (gn 3) ?_
 refine J (q0g (q0m (r:=5) rfl)) ?_
 cases hr
 exact endA.ren [] 0 (.inr rfl) hS rfl rfl rfl (.md rfl) rfl rfl
theorem j5T {Rc7:Expr→(List Oc)→Option (List Oc)}(Ic7:∀ {m:Md} {a0:Expr} {a1:(List Oc)} {r:(List Oc)},Rc7 a0 a1=some r→Ok Tryz.prog 212 [Expr.x m a0,.d m (.sl 2 (a1.map Oc.D))] [] (.d m (.sl 2 (r.map Oc.D))) []){m:Md}{a0:Expr}{a1:(List Oc)}{r:(List Oc)}(hr:z0R Rc7 a0 a1=some r):Ok Tryz.prog 212 [Expr.x m a0,.d m (.sl 2 (a1.map Oc.D))] [] (.d m (.sl 2 (r.map Oc.D))) []:=by
 refine OE Tryz.func212 fun S hS=>?_
 unfold z0R at hr
 refine J g<|J (BX' 0)<|J (gn 9)<|ifE hr ?_ ?_<;>intro h1 hr
 refine bdE hr fun y1 hy1 hr=>J g<|J (CB' [] [] (j9K (m:=m) hy1))<|J (gn 8)<|J (lenA 6 0)<|fun hl1=>bdE hr fun s1 hqq1 hr=>q0c hqq1 hl1 1 (fun k1 s1=>[(1,.d m (.sl 2 (s1.map Oc.D))),(2,.pb 0 0),(5,dI (k1:Int))]) (fun k1 s1=>[]) I (fun k1 xk1 sk1 ok1 hxk1 hr hltk1=>?_) fun k1 hltk1=>?_
 obtain⟨s1,rfl⟩:∃ y,y=sk1:=⟨_,rfl⟩
 refine bdE hr fun y2 hy2 hr=>J g<|J (CB' [] [] (Ic7 (m:=m) hy2))<|e
 exact e
 refine J (gn 8)<|J (lenA 6 0)<|fun hl2=>bdE hr fun s2 hqq2 hr=>q0c hqq2 hl2 1 (fun k2 s2=>[(1,.d m (.sl 2 (s2.map Oc.D))),(2,.pb 0 0),(5,dI (k2:Int))]) (fun k2 s2=>[]) I (fun k2 xk2 sk2 ok2 hxk2 hr hltk2=>?_) fun k2 hltk2=>?_
 obtain⟨s2,rfl⟩:∃ y,y=sk2:=⟨_,rfl⟩
 refine bdE hr fun y3 hy3 hr=>J g<|J (CB' [] [] (Ic7 (m:=m) hy3))<|e
 exact e
theorem j5U (n:Nat):∀ {m:Md} {a0:Expr} {a1:(List Oc)} {r:(List Oc)},q6E n a0 a1=some r→Ok Tryz.prog 212 [Expr.x m a0,.d m (.sl 2 (a1.map Oc.D))] [] (.d m (.sl 2 (r.map Oc.D))) []:=by
  induction n with
  | zero=>intro _ _ _ r hr;exact nomatch (show (none:Option (List Oc))=some r from hr)
  | succ n ih=>intro _ _ _ r hr;exact j5T ih hr
theorem j8m {m:Md}{a0:Expr}{a1:(List Oc)}{r:(List Oc)}(hr:j0a a0 a1=some r):Ok Tryz.prog 212 [Expr.x m a0,.d m (.sl 2 (a1.map Oc.D))] [] (.d m (.sl 2 (r.map Oc.D))) []:=by
 obtain⟨n,hn⟩:=q5L hr
 exact j5U n hn
theorem z3E {m:Md}{a0:Expr}{r:(List Oc)}(hr:q5S a0=some r):Ok Tryz.prog 160 [Expr.x m a0] [] (.d m (.sl 2 (r.map Oc.D))) []:=by
 refine OE Tryz.func160 fun S hS=>?_
 unfold q5S at hr
 refine J g<|J (BX' 0)<|J g<|J (L0' 1 Oc.D) ?_
 refine J (q0x 1 rfl)<|bdE hr fun y1 hy1 hr=>J (CB' [] [] (j8m (m:=m) hy1))<|J g<|E
theorem z0u {m:Md}{a0:Symbol}{a1:ByteArray}{r:(At_×Bool)}(hr:q6y a0 a1=some r):Ok Tryz.prog 136 [Symbol.x m a0,dS a1] [] (.tu [At_.x .fz r.1,dB r.2]) []:=by
 refine OE Tryz.func136 fun S hS=>?_
 unfold q6y at hr
 refine J g<|J (BX' 0)<|J (NV' 1)<|J (gn 8)<|J (lenA 1 0)<|fun hl1=>bdE hr fun q1 hqq1 hr=>q0b hqq1 hl1 2 (fun k1 _=>[(1,dS a1),(2,.pb 0 0),(4,.pb 1 0),(6,dI (k1:Int))]) (fun k1 _=>[]) I (fun k1 xk1 sk1 ok1 hxk1 hr hltk1 hik1=>?_) fun k1 sk1 ek1 hltk1=>?_
 refine J (gn 24)<|ifE hr ?_ ?_<;>intro h1 hr
 exact e
 exact e
 subst ek1
 exact e
theorem j8n {m:Md}{a0:Gm_}{a1:Rule}{a2:Oc}{r:Bool}(hr:z4O a0 a1 a2=some r):Ok Tryz.prog 277 [Gm_.y m a0,Rule.x m a1,Oc.x .fz a2] [] (dB r) []:=by
 refine OE Tryz.func277 fun S hS=>?_
 unfold z4O at hr
 refine J g<|J (BX' 0)<|J (BX' 1)<|J (BX' 2)<|bdE hr fun y1 hy1 hr=>J g<|J (CB' [] [] (q5i hy1))<|J (gn 2)<|ifE hr ?_ ?_<;>intro h1 hr
 refine bdE hr fun y2 hy2 hr=>J g<|J (CB' [] [] (q9e (m:=m) hy2))<|bdP hr fun y3 y4 hq1 hr=>J (CB' [(0,3)] [] (q7F (m:=m) hq1))<|J g<|J (NV' 4)<|bdP hr fun y5 y6 hq2 hr=>J g<|J (CB' [] [3] (z0u (m:=.bo) hq2))<|J g<|J (NV' 5)<|J (gn 10)<|ifE hr ?_ ?_<;>intro h2 hr
 refine bdE hr fun s1 hqq3 hr=>J (gn 4)<|q0a 5 [(6,dB false),(42,dB s1)] ?_ ?_
 replace hr:=hqq3
 refine ifE hr ?_ ?_<;>intro h3 hr
 exact e
 exact e
 exact e
 refine bdE hr fun s2 hqq4 hr=>J (gn 5)<|q0a 5 [(6,dB false),(48,dB s2)] ?_ ?_
 replace hr:=hqq4
 refine ifE hr ?_ ?_<;>intro h4 hr
 exact e
 exact e
 exact e
 exact e
theorem z6y {m:Md}{a0:Gm_}{a1:Rule}{a2:Expr}{r:Bool}(hr:z0g a0 a1 a2=some r):Ok Tryz.prog 249 [Gm_.y m a0,Rule.x m a1,Expr.x m a2] [] (dB r) []:=by
 refine OE Tryz.func249 fun S hS=>?_
 unfold z0g at hr
 refine J g<|J (BX' 0)<|J (BX' 1)<|J (BX' 2)<|bdE hr fun y1 hy1 hr=>J g<|J (CB' [] [] (z3E (m:=m) hy1))<|J (gn 8)<|J (lenT 7)<|fun hl1=>bdE hr fun q1 hqq1 hr=>q0b hqq1 hl1 3 (fun k1 _=>[(3,.pb 0 0),(4,.pb 1 0),(7,.d m (.sl 2 (y1.map Oc.D))),(8,dI (k1:Int))]) (fun k1 _=>[]) I (fun k1 xk1 sk1 ok1 hxk1 hr hltk1 hik1=>?_) fun k1 sk1 ek1 hltk1=>?_
 refine bdE hr fun y2 hy2 hr=>J g<|J (CB' [] [] (j8n (m:=m) hy2))<|J (gn 2)<|ifE hr ?_ ?_<;>intro h1 hr
 exact e
 exact e
 subst ek1
 exact e
theorem j2Z {m:Md}{a0:Gm_}{a1:Rule}{r:Bool}(hr:z0S a0 a1=some r):Ok Tryz.prog 202 [Gm_.y m a0,Rule.x m a1] [] (dB r) []:=by
 refine OE Tryz.func202 fun S hS=>?_
 unfold z0S at hr
 refine J g<|J (BX' 0)<|J (BX' 1)<|J (gn 8)<|J (lenA 4 1)<|fun hl1=>bdE hr fun q1 hqq1 hr=>q0b hqq1 hl1 2 (fun k1 _=>[(2,.pb 0 0),(3,.pb 1 0),(5,dI (k1:Int))]) (fun k1 _=>[]) I (fun k1 xk1 sk1 ok1 hxk1 hr hltk1 hik1=>?_) fun k1 sk1 ek1 hltk1=>?_
 refine bdE hr fun y1 hy1 hr=>J g<|J (CB' [] [] (z6y (m:=m) hy1))<|J (gn 2)<|ifE hr ?_ ?_<;>intro h1 hr
 exact e
 exact e
 subst ek1
 refine J (gn 17) ?_
 refine AW.len (.box 1 5 rfl rfl) fun hl2=>?_
 refine bdE hr fun q2 hqq2 hr=>q0b hqq2 hl2 2 (fun k2 _=>[(2,.pb 0 0),(3,.pb 1 0),(6,dI (k2:Int))]) (fun k2 _=>[]) I (fun k2 xk2 sk2 ok2 hxk2 hr hltk2 hik2=>?_) fun k2 sk2 ek2 hltk2=>?_
 refine bdE hr fun y2 hy2 hr=>J g<|J (CB' [] [] (z6y (m:=m) hy2))<|J (gn 1)<|ifE hr ?_ ?_<;>intro h2 hr
 refine bdE hr fun y3 hy3 hr=>J g<|J (CB' [] [] (z6y (m:=m) hy3))<|J (gn 3)<|ifE hr ?_ ?_<;>intro h3 hr
 exact e
 exact e
 exact e
 subst ek2
 exact e
theorem j3a {m:Md}{a0:Gm_}{a1:Rule}{a2:Int}{r:Bool}(hr:z0T a0 a1 a2=some r):Ok Tryz.prog 147 [Gm_.y m a0,Rule.x m a1,dI a2] [] (dB r) []:=by
 refine OE Tryz.func147 fun S hS=>?_
 unfold z0T at hr
 refine J g<|J (BX' 0)<|J (BX' 1)<|J (gn 13)<|ifE hr ?_ ?_<;>intro h1 hr
 refine bdE hr fun y1 hy1 hr=>J g<|J (CB' [] [] (j1t (m:=m) hy1))<|e
 refine J (gn 6)<|ifE hr ?_ ?_<;>intro h2 hr
 refine bdE hr fun y2 hy2 hr=>J g<|J (CB' [] [] (j1u (m:=m) hy2))<|e
 refine J (gn 6)<|ifE hr ?_ ?_<;>intro h3 hr
 refine bdE hr fun y3 hy3 hr=>J g<|J (CB' [] [] (j4A (m:=m) hy3))<|e
 refine bdE hr fun y4 hy4 hr=>J g<|J (CB' [] [] (j2Z (m:=m) hy4))<|e
theorem j1v {m:Md}{a0:Gm_}{r:(Int×Int)}(hr:q9v a0=some r):Ok Tryz.prog 87 [Gm_.x m a0] [] (.tu [dI r.1,dI r.2]) []:=by
 refine OE Tryz.func87 fun S hS=>?_
 unfold q9v at hr
 refine J g<|J (BX' 0)<|bdE hr fun y1 hy1 hr=>J g<|J (CB' [] [] (q5i hy1))<|J (gn 1)<|ifE hr ?_ ?_<;>intro h1 hr
 refine bdE hr fun y2 hy2 hr=>J g<|J (CB' [] [] (q5i hy2))<|J (gn 3)<|ifE hr ?_ ?_<;>intro h2 hr
 refine bdE hr fun y3 hy3 hr=>J g<|J (CB' [] [] (j8k (m:=m) hy3))<|J (gn 8)<|ifE hr ?_ ?_<;>intro h3 hr
 exact e
 refine bdE hr fun x1 hx1 hr=>J (gn 8) ?_
 refine AW.len (.el 1 (.ag 0 (.tmp 0 rfl) rfl) hx1 rfl) fun hl1=>?_
 refine bdE hr fun q1 hqq1 hr=>q0b hqq1 hl1 1 (fun k1 _=>[(1,.pb 0 0),(5,dI (k1:Int))]) (fun k1 _=>[]) I (fun k1 xk1 sk1 ok1 hxk1 hr hltk1 hik1=>?_) fun k1 sk1 ek1 hltk1=>?_
 refine J (gn 29)<|ifE hr ?_ ?_<;>intro h4 hr
 exact e
 exact e
 subst ek1
 refine bdE hr fun q2 hqq2 hr=>J (gn 19)<|AW.cut 1 (fun _=>[]) (fun _=>[]) (M:=fun x=>q2=.inl x) ?_ fun x hx=>?_
 refine J g<|q0h hqq2 1 (fun s1=>[(1,.pb 0 0),(6,dI s1)]) (fun s1=>[]) I fun sk2 ok2 hr hik2=>?_
 obtain⟨s1,rfl⟩:∃ y,y=sk2:=⟨_,rfl⟩
 have hr:=hr
 refine J (gn 6)<|ifE hr ?_ ?_<;>intro h5 hr
 refine J (gn 9) ?_
 refine AW.len (.box 0 1 rfl rfl) fun hl3=>?_
 refine bdE hr fun q3 hqq3 hr=>q0b hqq3 hl3 1 (fun k3 _=>[(1,.pb 0 0),(6,dI s1),(7,dI (k3:Int))]) (fun k3 _=>[]) I (fun k3 xk3 sk3 ok3 hxk3 hr hltk3 hik3=>?_) fun k3 sk3 ek3 hltk3=>?_
 refine bdE hr fun y4 hy4 hr=>J g<|J (CB' [] [] (j3a (m:=m) hy4))<|J (gn 1)<|ifE hr ?_ ?_<;>intro h6 hr
 exact e
 exact e
 subst ek3
 refine ggE hr fun g1 hr=>e
 refine J (gn 2) ?_
 cases hr
 cases hik2 _ rfl
 exact⟨_,rfl,q0f hS 1⟩
 subst hx
 exact e
 exact e
 exact e
theorem z1i {m:Md}{a0:Gm_}{a1:ByteArray}{a2:ByteArray}{r:Int}(hr:q6m a0 a1 a2=some r):Ok Tryz.prog 149 [Gm_.y m a0,dS a1,dS a2] [] (dI r) []:=by
 refine OE Tryz.func149 fun S hS=>?_
 unfold q6m at hr
 refine J g<|J (BX' 0)<|bdP hr fun y1 y2 hq1 hr=>J g<|J (CB' [(0,1)] [] (q7F (m:=m) hq1))<|J g<|J (NV' 2)<|bdP hr fun y3 y4 hq2 hr=>J g<|J (CB' [] [1] (z0u (m:=.bo) hq2))<|J g<|J (NV' 3)<|J (gn 9)<|ifE hr ?_ ?_<;>intro h1 hr
 exact e
 exact e
theorem z9b {a0:Int}{r:(Int×Int×Int)}(hr:q7Z a0=some r):Ok Tryz.prog 183 [dI a0] [] (.tu [dI r.1,dI r.2.1,dI r.2.2]) []:=by
 refine OE Tryz.func183 fun S hS=>?_
 unfold q7Z at hr
 refine bdE hr fun y1 hy1 hr=>J g<|J (CB' [] [] (q5i hy1))<|J (gn 2)<|ifE hr ?_ ?_<;>intro h1 hr
 exact e
 refine bdE hr fun y2 hy2 hr=>J g<|J (CB' [] [] (q5i hy2))<|J (gn 2)<|ifE hr ?_ ?_<;>intro h2 hr
 exact e
 refine J (gn 5)<|ifE hr ?_ ?_<;>intro h3 hr
 exact e
 refine J (gn 6)<|ifE hr ?_ ?_<;>intro h4 hr
 exact e
 refine J (gn 7)<|ifE hr ?_ ?_<;>intro h5 hr
 exact e
 refine J (gn 7)<|ifE hr ?_ ?_<;>intro h6 hr
 exact e
 exact e
theorem j9L {Rc8:Gm_→Rule→Expr→Option Int}(Ic8:∀ {m:Md} {a0:Gm_} {a1:Rule} {a2:Expr} {r:Int},Rc8 a0 a1 a2=some r→Ok Tryz.prog 148 [Gm_.y m a0,Rule.x m a1,Expr.x m a2] [] (dI r) []){m:Md}{a0:Gm_}{a1:Rule}{a2:Expr}{r:Int}(hr:z9s Rc8 a0 a1 a2=some r):Ok Tryz.prog 203 [Gm_.y m a0,Rule.x m a1,Expr.x m a2] [] (dI r) []:=by
 refine OE Tryz.func203 fun S hS=>?_
 unfold z9s at hr
 refine J g<|J (BX' 0)<|J (BX' 1)<|J (BX' 2)<|bdT hr fun y1 y2 y3 hq1 hr=>J g<|J (CB' [] [] (z9b hq1))<|J (gn 15)<|ifE hr ?_ ?_<;>intro h1 hr
 refine bdE hr fun x1 hx1 hr=>bdE hr fun y4 hy4 hr=>J g<|J (CB' [] [] (Ic8 (m:=m) hy4))<|J (gn 3)<|ifE hr ?_ ?_<;>intro h2 hr
 refine bdE hr fun x2 hx2 hr=>bdE hr fun y5 hy5 hr=>J g<|J (CB' [] [] (Ic8 (m:=m) hy5))<|J (gn 4)<|ifE hr ?_ ?_<;>intro h3 hr
 exact e
 exact e
 exact e
 exact e
theorem j9M {Rc8:Gm_→Rule→Expr→Option Int}(Ic8:∀ {m:Md} {a0:Gm_} {a1:Rule} {a2:Expr} {r:Int},Rc8 a0 a1 a2=some r→Ok Tryz.prog 148 [Gm_.y m a0,Rule.x m a1,Expr.x m a2] [] (dI r) []){m:Md}{a0:Gm_}{a1:Rule}{a2:Expr}{r:Int}(hr:z9t Rc8 a0 a1 a2=some r):Ok Tryz.prog 204 [Gm_.y m a0,Rule.x m a1,Expr.x m a2] [] (dI r) []:=by
 refine OE Tryz.func204 fun S hS=>?_
 unfold z9t at hr
 refine J g<|J (BX' 0)<|J (BX' 1)<|J (BX' 2)<|J (gn 9)<|ifE hr ?_ ?_<;>intro h1 hr
 refine bdE hr fun x1 hx1 hr=>bdE hr fun y1 hy1 hr=>J g<|J (CB' [] [] (Ic8 (m:=m) hy1))<|J (gn 3)<|ifE hr ?_ ?_<;>intro h2 hr
 refine bdE hr fun x2 hx2 hr=>bdE hr fun y2 hy2 hr=>J g<|J (CB' [] [] (Ic8 (m:=m) hy2))<|bdE hr fun x3 hx3 hr=>bdE hr fun y3 hy3 hr=>J g<|J (CB' [] [] (Ic8 (m:=m) hy3))<|J (gn 2)<|ifE hr ?_ ?_<;>intro h3 hr
 exact e
 exact e
 exact e
 exact e
theorem j0z {Rc8:Gm_→Rule→Expr→Option Int}(Ic8:∀ {m:Md} {a0:Gm_} {a1:Rule} {a2:Expr} {r:Int},Rc8 a0 a1 a2=some r→Ok Tryz.prog 148 [Gm_.y m a0,Rule.x m a1,Expr.x m a2] [] (dI r) []){m:Md}{a0:Gm_}{a1:Rule}{a2:Expr}{r:Int}(hr:q9w Rc8 a0 a1 a2=some r):Ok Tryz.prog 148 [Gm_.y m a0,Rule.x m a1,Expr.x m a2] [] (dI r) []:=by
 refine OE Tryz.func148 fun S hS=>?_
 unfold q9w at hr
 refine J g<|J (BX' 0)<|J (BX' 1)<|J (BX' 2)<|J (gn 14)<|ifE hr ?_ ?_<;>intro h1 hr
 exact e
 refine J (gn 6)<|ifE hr ?_ ?_<;>intro h2 hr
 refine J (gn 6)<|ifE hr ?_ ?_<;>intro h3 hr
 exact e
 exact e
 refine J (gn 6)<|ifE hr ?_ ?_<;>intro h4 hr
 refine bdE hr fun y1 hy1 hr=>J g<|J (CB' [] [] (q5i hy1))<|J (gn 1)<|ifE hr ?_ ?_<;>intro h5 hr
 refine bdE hr fun y2 hy2 hr=>J g<|J (CB' [] [] (q9e (m:=m) hy2))<|bdE hr fun y3 hy3 hr=>J g<|J (CB' [] [] (z1i (m:=m) hy3))<|e
 exact e
 refine J (gn 6)<|ifE hr ?_ ?_<;>intro h6 hr
 refine bdE hr fun y4 hy4 hr=>J g<|J (CB' [] [] (j9L Ic8 (m:=m) hy4))<|e
 refine J (gn 6)<|ifE hr ?_ ?_<;>intro h7 hr
 refine bdE hr fun y5 hy5 hr=>J g<|J (CB' [] [] (j9M Ic8 (m:=m) hy5))<|e
 refine J (gn 6)<|ifE hr ?_ ?_<;>intro h8 hr
 refine bdE hr fun y6 hy6 hr=>J g<|J (CB' [] [] (q5i hy6))<|J (gn 1)<|ifE hr ?_ ?_<;>intro h9 hr
 exact e
 exact e
 refine J (gn 6)<|ifE hr ?_ ?_<;>intro h10 hr
 exact e
 refine J (gn 6)<|ifE hr ?_ ?_<;>intro h11 hr
 refine J (gn 7)<|ifE hr ?_ ?_<;>intro h12 hr
 refine bdE hr fun x1 hx1 hr=>bdE hr fun y7 hy7 hr=>J g<|J (CB' [] [] (Ic8 (m:=m) hy7))<|J (gn 3)<|ifE hr ?_ ?_<;>intro h13 hr
 refine bdE hr fun y8 hy8 hr=>J g<|J (CB' [] [] (z1i (m:=m) hy8))<|e
 exact e
 exact e
 exact e
theorem j0A (n:Nat):∀ {m:Md} {a0:Gm_} {a1:Rule} {a2:Expr} {r:Int},q8j n a0 a1 a2=some r→Ok Tryz.prog 148 [Gm_.y m a0,Rule.x m a1,Expr.x m a2] [] (dI r) []:=by
  induction n with
  | zero=>intro _ _ _ _ r hr;exact nomatch (show (none:Option Int)=some r from hr)
  | succ n ih=>intro _ _ _ _ r hr;exact j0z ih hr
theorem z3b {m:Md}{a0:Gm_}{a1:Rule}{a2:Expr}{r:Int}(hr:q9x a0 a1 a2=some r):Ok Tryz.prog 148 [Gm_.y m a0,Rule.x m a1,Expr.x m a2] [] (dI r) []:=by
 obtain⟨n,hn⟩:=q5L hr
 exact j0A n hn
theorem j5V {m:Md}{a0:Gm_}{a1:Rule}{r:Bool}(hr:z3p a0 a1=some r):Ok Tryz.prog 88 [Gm_.y m a0,Rule.x m a1] [] (dB r) []:=by
 refine OE Tryz.func88 fun S hS=>?_
 unfold z3p at hr
 refine J g<|J (BX' 0)<|J (BX' 1)<|J (gn 8)<|J (lenA 4 1)<|fun hl1=>bdE hr fun q1 hqq1 hr=>q0b hqq1 hl1 2 (fun k1 _=>[(2,.pb 0 0),(3,.pb 1 0),(5,dI (k1:Int))]) (fun k1 _=>[]) I (fun k1 xk1 sk1 ok1 hxk1 hr hltk1 hik1=>?_) fun k1 sk1 ek1 hltk1=>?_
 refine J g<|J (NV' 2)<|bdE hr fun y1 hy1 hr=>J g<|J (CB' [] [] (z3b (m:=m) hy1))<|bdE hr fun y2 hy2 hr=>J g<|J (CB' [] [] (q9e (m:=m) hy2))<|bdE hr fun y3 hy3 hr=>J g<|J (CB' [] [] (z1i (m:=m) hy3))<|J (gn 2)<|ifE hr ?_ ?_<;>intro h1 hr
 exact e
 exact e
 subst ek1
 refine J (gn 17) ?_
 refine AW.len (.box 1 5 rfl rfl) fun hl2=>?_
 refine bdE hr fun q2 hqq2 hr=>q0b hqq2 hl2 2 (fun k2 _=>[(2,.pb 0 0),(3,.pb 1 0),(7,dI (k2:Int))]) (fun k2 _=>[]) I (fun k2 xk2 sk2 ok2 hxk2 hr hltk2 hik2=>?_) fun k2 sk2 ek2 hltk2=>?_
 refine J g<|J (NV' 2)<|bdP hr fun y4 y5 hq3 hr=>J g<|J (CB' [(0,3)] [] (q7F (m:=m) hq3))<|J g<|J (NV' 4)<|bdP hr fun y6 y7 hq4 hr=>J g<|J (CB' [] [3] (z0u (m:=.bo) hq4))<|J g<|J (NV' 5)<|bdE hr fun s1 hqq5 hr=>J (gn 7)<|q0a 5 [(2,.pb 0 0),(3,.pb 1 0),(7,dI (k2:Int)),(8,.pb 2 0),(73,dB s1)] ?_ ?_
 replace hr:=hqq5
 refine ifE hr ?_ ?_<;>intro h2 hr
 exact e
 exact e
 refine bdE hr fun s2 hqq6 hr=>q0a 8 [(2,.pb 0 0),(3,.pb 1 0),(7,dI (k2:Int)),(8,.pb 2 0),(81,dB s2)] ?_ ?_
 replace hr:=hqq6
 refine ifE hr ?_ ?_<;>intro h3 hr
 exact e
 refine bdE hr fun y8 hy8 hr=>J g<|J (CB' [] [] (z3b (m:=m) hy8))<|e
 refine bdE hr fun s3 hqq7 hr=>q0a 8 [(2,.pb 0 0),(3,.pb 1 0),(7,dI (k2:Int)),(89,dB s3)] ?_ ?_
 replace hr:=hqq7
 refine ifE hr ?_ ?_<;>intro h4 hr
 exact e
 refine bdE hr fun y9 hy9 hr=>J g<|J (CB' [] [] (z3b (m:=m) hy9))<|e
 refine J (gn 1)<|ifE hr ?_ ?_<;>intro h5 hr
 exact e
 exact e
 subst ek2
 exact e
theorem z5h {m:Md}{a0:Gm_}{a1:ByteArray}{r:Int}(hr:z1s a0 a1=some r):Ok Tryz.prog 47 [Gm_.y m a0,dS a1] [] (dI r) []:=by
 refine OE Tryz.func47 fun S hS=>?_
 unfold z1s at hr
 refine J g<|J (BX' 0)<|J (gn 8)<|J (lenA 0 0)<|fun hl1=>bdE hr fun q1 hqq1 hr=>q0b hqq1 hl1 1 (fun k1 _=>[(1,dS a1),(2,.pb 0 0),(5,dI (k1:Int))]) (fun k1 _=>[]) I (fun k1 xk1 sk1 ok1 hxk1 hr hltk1 hik1=>?_) fun k1 sk1 ek1 hltk1=>?_
 refine J (gn 24)<|ifE hr ?_ ?_<;>intro h1 hr
 exact e
 exact e
 subst ek1
 exact e
theorem j1w {m:Md}{a0:Gm_}{a1:ByteArray}{a2:(List Int)}{r:Bool}(hr:q9y a0 a1 a2=some r):Ok Tryz.prog 250 [Gm_.x m a0,dS a1,.d m (.sl 1 (a2.map (A.D.i .i64)))] [] (dB r) []:=by
 refine OE Tryz.func250 fun S hS=>?_
 unfold q9y at hr
 refine J g<|J (BX' 0)<|J (gn 8)<|J (lenA 1 0)<|fun hl1=>bdE hr fun q1 hqq1 hr=>q0b hqq1 hl1 1 (fun k1 _=>[(1,dS a1),(2,.d m (.sl 1 (a2.map (A.D.i .i64)))),(3,.pb 0 0),(7,dI (k1:Int))]) (fun k1 _=>[]) I (fun k1 xk1 sk1 ok1 hxk1 hr hltk1 hik1=>?_) fun k1 sk1 ek1 hltk1=>?_
 refine J g<|J (NV' 1)<|J (gn 16)<|J (lenA 2 23)<|fun hl2=>bdE hr fun s1 hqq2 hr=>q0c hqq2 hl2 2 (fun k2 s1=>[(1,dS a1),(2,.d m (.sl 1 (a2.map (A.D.i .i64)))),(3,.pb 0 0),(7,dI (k1:Int)),(8,.pb 1 0),(9,dB s1),(10,dI (k2:Int))]) (fun k2 s1=>[]) I (fun k2 xk2 sk2 ok2 hxk2 hr hltk2=>?_) fun k2 hltk2=>?_
 obtain⟨s1,rfl⟩:∃ y,y=sk2:=⟨_,rfl⟩
 refine bdE hr fun y1 hy1 hr=>J g<|J (CB' [] [] (z5h (m:=m) hy1))<|bdE hr fun s2 hqq3 hr=>J (gn 4)<|q0a 4 [(1,dS a1),(2,.d m (.sl 1 (a2.map (A.D.i .i64)))),(3,.pb 0 0),(7,dI (k1:Int)),(8,.pb 1 0),(9,dB s1),(10,dI (k2:Int)),(11,dI y1),(46,dB s2)] ?_ ?_
 replace hr:=hqq3
 refine ifE hr ?_ ?_<;>intro h1 hr
 exact e
 exact e
 refine bdE hr fun s3 hqq4 hr=>q0a 8 [(1,dS a1),(2,.d m (.sl 1 (a2.map (A.D.i .i64)))),(3,.pb 0 0),(7,dI (k1:Int)),(8,.pb 1 0),(9,dB s1),(10,dI (k2:Int)),(54,dB s3)] ?_ ?_
 replace hr:=hqq4
 refine ifE hr ?_ ?_<;>intro h2 hr
 refine bdE hr fun y2 hy2 hr=>J g<|J (CB' [] [] (z5g hy2))<|ggE hr fun g1 hr=>bdE hr fun x1 hx1 hr=>e
 exact e
 exact e
 refine J (gn 15)<|ifE hr ?_ ?_<;>intro h3 hr
 exact e
 exact e
 subst ek1
 exact e
theorem j1x {m:Md}{a0:Gm_}{r:(List Int)}(hr:q9z a0=some r):Ok Tryz.prog 205 [Gm_.x m a0] [] (.ref 0 none) [.row .fz 1 (r.map (A.D.i .i64))]:=by
 refine OE Tryz.func205 fun S hS=>?_
 unfold q9z at hr
 refine J g<|J (BX' 0)<|ggE hr fun g1 hr=>J g<|J (MKR' 1 (f:=(A.D.i .i64)) (0:Int) g1.1 g1.2.1 g1.2.2)<|bdE hr fun s1 hqq1 hr=>J (gn 7)<|q0e 2 [(3,.ref 1 none)] [(1,.row .fz 1 (s1.map (A.D.i .i64)))] ?_ ?_
 refine J g<|q0h hqq1 2 (fun (s2,s3)=>[(1,.pb 0 0),(3,.ref 1 none),(4,dI s3)]) (fun (s2,s3)=>[(1,.row .fz 1 (s2.map (A.D.i .i64)))]) I fun sk1 ok1 hr hik1=>?_
 obtain⟨s2,s3⟩:=sk1
 have hr:=hr
 refine J (gn 9)<|ifE hr ?_ ?_<;>intro h1 hr
 refine J g<|J (L0' 2 (A.D.i .i64))<|ggE hr fun g2 hr=>J g<|J (j4l (f:=(A.D.i .i64)) 3 8 (fun _=>rfl) g2)<|J (gn 8)<|J (lenT 13)<|fun hl2=>bdE hr fun s4 hqq2 hr=>q0c hqq2 hl2 4 (fun k2 s4=>[(1,.pb 0 0),(3,.ref 1 none),(4,dI s3),(5,.ref 3 none),(6,dI (k2:Int))]) (fun k2 s4=>[(2,.none),(3,.row .fz 1 (s4.map (A.D.i .i64)))]) I (fun k2 xk2 sk2 ok2 hxk2 hr hltk2=>?_) fun k2 hltk2=>?_
 obtain⟨s4,rfl⟩:∃ y,y=sk2:=⟨_,rfl⟩
 refine bdE hr fun s5 hqq3 hr=>J (gn 12)<|q0e 4 [(1,.pb 0 0),(3,.ref 1 none),(4,dI s3),(5,.ref 3 none),(6,dI (k2:Int))] [(3,.row .fz 1 (s5.map (A.D.i .i64)))] ?_ ?_
 replace hr:=hqq3
 refine bdE hr fun x1 hx1 hr=>J (gn 8)<|ifE hr ?_ ?_<;>intro h2 hr
 refine bdE hr fun y1 hy1 hr=>J g<|J (CB' [] [1] (j1w (m:=.bo) hy1))<|J (gn 2)<|ifE hr ?_ ?_<;>intro h3 hr
 refine bdE hr fun x2 hx2 hr=>J g<|J (SE' s3 hx2)<|e
 exact e
 exact e
 exact e
 refine ggE hr fun g3 hr=>e
 refine J (gn 2) ?_
 cases hr
 cases hik1 _ rfl
 exact q0f hS 2
 exact e
theorem j3b {m:Md}{a0:Gm_}{a1:ByteArray}{r:Int}(hr:z2F a0 a1=some r):Ok Tryz.prog 150 [Gm_.x m a0,dS a1] [] (dI r) []:=by
 refine OE Tryz.func150 fun S hS=>?_
 unfold z2F at hr
 refine J g<|J (BX' 0)<|bdE hr fun y1 hy1 hr=>J g<|J (CB' [] [] (z5h (m:=m) hy1))<|J (gn 8)<|ifE hr ?_ ?_<;>intro h1 hr
 exact e
 refine bdE hr fun y2 hy2 hr=>J g<|J (CB' [(0,1)] [] (j1x (m:=m) hy2))<|ggE hr fun g1 hr=>bdE hr fun x1 hx1 hr=>e
theorem z9c {m:Md}{a0:Gm_}{a1:ByteArray}{r:Bool}(hr:q8a a0 a1=some r):Ok Tryz.prog 89 [Gm_.x m a0,dS a1] [] (dB r) []:=by
 refine OE Tryz.func89 fun S hS=>?_
 unfold q8a at hr
 refine J g<|J (BX' 0)<|bdE hr fun y1 hy1 hr=>J g<|J (CB' [] [] (j3b (m:=m) hy1))<|e
theorem z9d {m:Md}{a0:Gm_}{r:(Int×Int)}(hr:q8b a0=some r):Ok Tryz.prog 37 [Gm_.x m a0] [] (.tu [dI r.1,dI r.2]) []:=by
 refine OE Tryz.func37 fun S hS=>?_
 unfold q8b at hr
 refine J g<|J (BX' 0)<|bdP hr fun y1 y2 hq1 hr=>J g<|J (CB' [] [] (j1v (m:=m) hq1))<|J (gn 12)<|ifE hr ?_ ?_<;>intro h1 hr
 refine J (gn 8)<|J (lenA 1 0)<|fun hl1=>bdE hr fun q2 hqq2 hr=>q0b hqq2 hl1 1 (fun k1 _=>[(1,.pb 0 0),(6,dI (k1:Int))]) (fun k1 _=>[]) I (fun k1 xk1 sk1 ok1 hxk1 hr hltk1 hik1=>?_) fun k1 sk1 ek1 hltk1=>?_
 refine bdE hr fun y3 hy3 hr=>J g<|J (CB' [] [] (j5V (m:=m) hy3))<|J (gn 2)<|ifE hr ?_ ?_<;>intro h2 hr
 exact e
 exact e
 subst ek1
 refine J (gn 17) ?_
 refine AW.len (.box 0 0 rfl rfl) fun hl2=>?_
 refine bdE hr fun q3 hqq3 hr=>q0b hqq3 hl2 1 (fun k2 _=>[(1,.pb 0 0),(7,dI (k2:Int))]) (fun k2 _=>[]) I (fun k2 xk2 sk2 ok2 hxk2 hr hltk2 hik2=>?_) fun k2 sk2 ek2 hltk2=>?_
 refine bdE hr fun y4 hy4 hr=>J g<|J (CB' [] [] (z9c (m:=m) hy4))<|J (gn 2)<|ifE hr ?_ ?_<;>intro h3 hr
 exact e
 exact e
 subst ek2
 exact e
 exact e
theorem j5W {m:Md}{a0:Gm_}{r:Bool}(hr:z3q a0=some r):Ok Tryz.prog 35 [Gm_.x m a0] [] (dB r) []:=by
 refine OE Tryz.func35 fun S hS=>?_
 unfold z3q at hr
 refine J g<|J (BX' 0)<|bdP hr fun y1 y2 hq1 hr=>J g<|J (CB' [] [] (z9d (m:=m) hq1))<|e
theorem z7w {m:Md}{a0:(List (List Rl_))}{r:(List Int)}(hr:q9a a0=some r):Ok Tryz.prog 55 [.d m (.sl 1 (a0.map (fun (l:List Rl_)=>A.D.sl 2 (l.map Rl_.D))))] [] (.ref 0 none) [.row .fz 1 (r.map (A.D.i .i64))]:=by
 refine OE Tryz.func55 fun S hS=>?_
 unfold q9a at hr
 refine J g<|J (L0' 0 (A.D.i .i64))<|J (gn 8)<|J (lenT 0)<|fun hl1=>bdE hr fun s1 hqq1 hr=>q0c hqq1 hl1 1 (fun k1 s1=>[(0,.d m (.sl 1 (a0.map (fun (l:List Rl_)=>A.D.sl 2 (l.map Rl_.D))))),(3,.ref 0 none),(4,dI (k1:Int))]) (fun k1 s1=>[(0,.row .fz 1 (s1.map (A.D.i .i64)))]) I (fun k1 xk1 sk1 ok1 hxk1 hr hltk1=>?_) fun k1 hltk1=>?_
 obtain⟨s1,rfl⟩:∃ y,y=sk1:=⟨_,rfl⟩
 refine J g<|J (LIR' 1 (m:=.fz) (f:=(A.D.i .i64)) (xs:=([(xk1.length:Int)]:List Int)))<|ggE hr fun g1 hr=>J (z0Q (f:=(A.D.i .i64)) 2 (fun _=>rfl) 8 g1)<|e
 exact e
theorem z5Y {m:Md}{a0:Gm_}{a1:Rule}{a2:(List Int)}{r:(List (List Int))}(hr:q8k a0 a1 a2=some r):Ok Tryz.prog 54 [Gm_.y m a0,Rule.x m a1,.d m (.sl 1 (a2.map (A.D.i .i64)))] [] (.ref 0 none) [.row .fz 1 (r.map (fun (l:List Int)=>A.D.sl 1 (l.map (A.D.i .i64))))]:=by
 refine OE Tryz.func54 fun S hS=>?_
 unfold q8k at hr
 refine J g<|J (BX' 0)<|J (BX' 1)<|J g<|J (L0' 2 (A.D.i .i64)) ?_
 refine J (q0x 2 rfl)<|J (LIR' 3 (m:=.fz) (f:=(fun (l:List Int)=>A.D.sl 1 (l.map (A.D.i .i64)))) (xs:=[[]]))<|J (gn 8)<|J (lenA 2 1)<|fun hl1=>bdE hr fun s1 hqq1 hr=>q0c hqq1 hl1 4 (fun k1 s1=>[(2,.d m (.sl 1 (a2.map (A.D.i .i64)))),(3,.pb 0 0),(4,.pb 1 0),(7,.ref 3 none),(8,dI (k1:Int))]) (fun k1 s1=>[(2,.none),(3,.row .fz 1 (s1.map (fun (l:List Int)=>A.D.sl 1 (l.map (A.D.i .i64)))))]) I (fun k1 xk1 sk1 ok1 hxk1 hr hltk1=>?_) fun k1 hltk1=>?_
 obtain⟨s1,rfl⟩:∃ y,y=sk1:=⟨_,rfl⟩
 refine J g<|J (L0' 4 (fun (l:List Int)=>A.D.sl 1 (l.map (A.D.i .i64))))<|bdE hr fun y1 hy1 hr=>J g<|J (CB' [] [] (z5h (m:=m) hy1))<|bdE hr fun y2 hy2 hr=>J (CB' [] [] (z5g hy2))<|ggE hr fun g1 hr=>bdE hr fun x1 hx1 hr=>J (gn 10)<|J (lenR 3)<|fun hl2=>bdE hr fun s2 hqq2 hr=>q0c hqq2 hl2 5 (fun k2 s2=>[(2,.d m (.sl 1 (a2.map (A.D.i .i64)))),(3,.pb 0 0),(4,.pb 1 0),(7,.ref 3 none),(8,dI (k1:Int)),(9,.ref 4 none),(10,dI x1),(11,dI (k2:Int))]) (fun k2 s2=>[(4,.row .fz 1 (s2.map (fun (l:List Int)=>A.D.sl 1 (l.map (A.D.i .i64)))))]) I (fun k2 xk2 sk2 ok2 hxk2 hr hltk2=>?_) fun k2 hltk2=>?_
 obtain⟨s2,rfl⟩:∃ y,y=sk2:=⟨_,rfl⟩
 refine J (gn 17)<|J (rngT 10)<|fun hl3=>bdE hr fun s3 hqq3 hr=>q0k hqq3 5 (fun k3 s3=>[(2,.d m (.sl 1 (a2.map (A.D.i .i64)))),(3,.pb 0 0),(4,.pb 1 0),(7,.ref 3 none),(8,dI (k1:Int)),(9,.ref 4 none),(10,dI x1),(11,dI (k2:Int)),(12,dI (k3:Int))]) (fun k3 s3=>[(4,.row .fz 1 (s3.map (fun (l:List Int)=>A.D.sl 1 (l.map (A.D.i .i64)))))]) I (fun k3 sk3 ok3 hr hltk3=>?_) ?_
 obtain⟨s3,rfl⟩:∃ y,y=sk3:=⟨_,rfl⟩
 refine J g<|J (L0' 5 (A.D.i .i64))<|ggE hr fun g2 hr=>J g<|J (j4l (f:=(A.D.i .i64)) 6 8 (fun _=>rfl) g2)<|J g<|J (LIR' 7 (m:=.fz) (f:=(A.D.i .i64)) (xs:=([(k3:Int)]:List Int)))<|ggE hr fun g3 hr=>J (z0Q (f:=(A.D.i .i64)) 8 (fun _=>rfl) 8 g3) ?_
 refine J (q0x 8 rfl)<|J (LIR' 9 (m:=.fz) (f:=(fun (l:List Int)=>A.D.sl 1 (l.map (A.D.i .i64)))) (xs:=[(xk2++[(k3:Int)])]))<|ggE hr fun g4 hr=>J (AP1' 10 .fz 24 g4)<|J g<|E
 exact e
 exact e
 exact e
theorem j0B {m:Md}{a0:Gm_}{a1:Rule}{a2:(List (List Rl_))}{a3:(List Int)}{r:(List Rl_)}(hr:z1F a0 a1 a2 a3=some r):Ok Tryz.prog 57 [Gm_.y m a0,Rule.x m a1,.d m (.sl 1 (a2.map (fun (l:List Rl_)=>A.D.sl 2 (l.map Rl_.D)))),.d m (.sl 1 (a3.map (A.D.i .i64)))] [] (.ref 0 none) [.row m 2 (r.map Rl_.D)]:=by
 refine OE Tryz.func57 fun S hS=>?_
 unfold z1F at hr
 refine J g<|J (BX' 0)<|J (BX' 1)<|J g<|J (L0' 2 Rl_.D)<|J (gn 8)<|J (lenT 3)<|fun hl1=>bdE hr fun s1 hqq1 hr=>?_
 refine q0c hqq1 hl1 3 (fun k1 s1=>[(2,.d m (.sl 1 (a2.map (fun (l:List Rl_)=>A.D.sl 2 (l.map Rl_.D))))),(3,.d m (.sl 1 (a3.map (A.D.i .i64)))),(4,.pb 0 0),(5,.pb 1 0),(9,.ref 2 none),(10,dI (k1:Int))]) (fun k1 s1=>[(2,.row m 2 (s1.map Rl_.D))]) (GH.trans (q0N (r:=2) m rfl) I) (fun k1 xk1 sk1 ok1 hxk1 hr hltk1=>?_) fun k1 hltk1=>?_
 obtain⟨s1,rfl⟩:∃ y,y=sk1:=⟨_,rfl⟩
 refine bdE hr fun x1 hx1 hr=>bdE hr fun y1 hy1 hr=>J g<|J (CB' [] [] (z5h (m:=m) hy1))<|bdE hr fun y2 hy2 hr=>J (CB' [] [] (z5g hy2))<|ggE hr fun g1 hr=>bdE hr fun x2 hx2 hr=>ggE hr fun g2 hr=>bdE hr fun x3 hx3 hr=>J g ?_
 refine J (j9z 3 (m:=m) (f:=Rl_.D) [x3] rfl)<|ggE hr fun g3 hr=>J (AP1' 4 m 32 g3)<|J (q0B .refl)<|J g<|E
 exact e
theorem z2p {m:Md}{a0:Gm_}{a1:ByteArray}{r:(List At_)}(hr:q4Y a0 a1=some r):Ok Tryz.prog 46 [Gm_.y m a0,dS a1] [] (.ref 0 none) [.row .fz 4 (r.map At_.D)]:=by
 refine OE Tryz.func46 fun S hS=>?_
 unfold q4Y at hr
 refine J g<|J (BX' 0)<|J g<|J (L0' 1 At_.D)<|bdP hr fun y1 y2 hq1 hr=>J g<|J (CB' [(0,2)] [] (q7F (m:=m) hq1))<|J g<|J (NV' 3)<|J (gn 9)<|J (lenR 2)<|fun hl1=>bdE hr fun s1 hqq2 hr=>q0c hqq2 hl1 4 (fun k1 s1=>[(5,.ref 1 none),(6,.pb 3 0),(8,dI (k1:Int))]) (fun k1 s1=>[(1,.row .fz 4 (s1.map At_.D))]) I (fun k1 xk1 sk1 ok1 hxk1 hr hltk1=>?_) fun k1 hltk1=>?_
 obtain⟨s1,rfl⟩:∃ y,y=sk1:=⟨_,rfl⟩
 refine bdE hr fun s2 hqq3 hr=>J (gn 12)<|q0e 4 [(5,.ref 1 none),(6,.pb 3 0),(8,dI (k1:Int))] [(1,.row .fz 4 (s2.map At_.D))] ?_ ?_
 replace hr:=hqq3
 refine J (gn 10)<|ifE hr ?_ ?_<;>intro h1 hr
 refine J g<|J (LIR' 4 (m:=.fz) (f:=At_.D) (xs:=[xk1]))<|ggE hr fun g1 hr=>J (z0Q (f:=At_.D) 5 (fun _=>rfl) 40 g1)<|e
 refine J (gn 10)<|ifE hr ?_ ?_<;>intro h2 hr
 refine J g<|J (LIR' 4 (m:=.fz) (f:=At_.D) (xs:=[xk1]))<|ggE hr fun g2 hr=>J (z0Q (f:=At_.D) 5 (fun _=>rfl) 40 g2)<|e
 exact e
 exact e
 exact e
theorem z0v {m:Md}{a0:Gm_}{a1:Rule}{r:(List Oc)}(hr:q5f a0 a1=some r):Ok Tryz.prog 107 [Gm_.y m a0,Rule.x m a1] [] (.ref 0 none) [.row .fz 2 (r.map Oc.D)]:=by
 refine OE Tryz.func107 fun S hS=>?_
 unfold q5f at hr
 refine J g<|J (BX' 0)<|J (BX' 1)<|J g<|J (L0' 2 Oc.D)<|bdE hr fun s1 hqq1 hr=>J (gn 7)<|q0e 3 [(5,.ref 2 none)] [(2,.row .fz 2 (s1.map Oc.D))] ?_ ?_
 refine J g<|q0h hqq1 3 (fun (s2,s3)=>[(2,.pb 0 0),(3,.pb 1 0),(5,.ref 2 none),(6,dI s3)]) (fun (s2,s3)=>[(2,.row .fz 2 (s2.map Oc.D))]) I fun sk1 ok1 hr hik1=>?_
 obtain⟨s2,s3⟩:=sk1
 have hr:=hr
 refine J (gn 9)<|ifE hr ?_ ?_<;>intro h1 hr
 refine bdE hr fun y1 hy1 hr=>J g<|J (CB' [] [] (q9e (m:=m) hy1))<|bdE hr fun y2 hy2 hr=>J (CB' [(0,3)] [] (z2p (m:=m) hy2))<|J (gn 7)<|J (lenR 3)<|fun hl2=>bdE hr fun s4 hqq2 hr=>q0c hqq2 hl2 4 (fun k2 s4=>[(2,.pb 0 0),(3,.pb 1 0),(5,.ref 2 none),(6,dI s3),(7,.ref 3 none),(8,dI (k2:Int))]) (fun k2 s4=>[(2,.row .fz 2 (s4.map Oc.D))]) I (fun k2 xk2 sk2 ok2 hxk2 hr hltk2=>?_) fun k2 hltk2=>?_
 obtain⟨s4,rfl⟩:∃ y,y=sk2:=⟨_,rfl⟩
 refine J g<|J (LIR' 4 (m:=.fz) (f:=Oc.D) (xs:=[(⟨s3,xk2.Name⟩:Oc)]))<|ggE hr fun g1 hr=>J (z0Q (f:=Oc.D) 5 (fun _=>rfl) 24 g1)<|e
 refine ggE hr fun g2 hr=>e
 refine J (gn 2) ?_
 cases hr
 cases hik1 _ rfl
 exact GH.trans (q1s (q:=0) [.d m (.sl 2 (a0.Symbols.map Symbol.D)),.u] (.cons .rfl (.cons .u .nil)) rfl) (q0f hS 3)
 exact e
theorem z3F {a0:Int}{r:Rl_}(hr:q4x a0=some r):Ok Tryz.prog 45 [dI a0] [] (.ag [dI r.N,.ref 0 none]) [.row .fz 1 (r.Rows.map (A.D.i .i64))]:=by
 refine OE Tryz.func45 fun S hS=>?_
 unfold q4x at hr
 refine J g<|J (NV' 0)<|bdE hr fun y1 hy1 hr=>J g<|J (CB' [] [] (q5i hy1))<|J (gn 2)<|ifE hr ?_ ?_<;>intro h1 hr
 refine ggE hr fun g1 hr=>J g<|J (MKR' 1 (f:=(A.D.i .i64)) (0:Int) g1.1 g1.2.1 g1.2.2)<|e
 refine J (gn 7) ?_
 refine J (q0g (q0j (q:=0) (c:=1) (r:=1) .fz 1 rfl rfl rfl))<|J g<|E
theorem z6z {m:Md}{a0:(List Oc)}{a1:Oc}{r:Int}(hr:q6F a0 a1=some r):Ok Tryz.prog 161 [.d m (.sl 2 (a0.map Oc.D)),Oc.x .fz a1] [] (dI r) []:=by
 refine OE Tryz.func161 fun S hS=>?_
 unfold q6F at hr
 refine J g<|J (BX' 0)<|J (gn 8)<|J (lenT 0)<|fun hl1=>bdE hr fun q1 hqq1 hr=>q0b hqq1 hl1 1 (fun k1 _=>[(0,.d m (.sl 2 (a0.map Oc.D))),(3,.pb 0 0),(5,dI (k1:Int))]) (fun k1 _=>[]) I (fun k1 xk1 sk1 ok1 hxk1 hr hltk1 hik1=>?_) fun k1 sk1 ek1 hltk1=>?_
 refine J g ?_
 refine J (SQ' rfl rfl rfl rfl (q5v xk1 a1))<|J (gn 1)<|ifE hr ?_ ?_<;>intro h1 hr
 exact e
 exact e
 subst ek1
 exact e
theorem j0C {m:Md}{a0:Rl_}{r:Rl_}(hr:q8l a0=some r):Ok Tryz.prog 103 [Rl_.x m a0] [] (.ag [dI r.N,.ref 0 none]) [.row .fz 1 (r.Rows.map (A.D.i .i64))]:=by
 refine OE Tryz.func103 fun S hS=>?_
 unfold q8l at hr
 refine J g<|J (BX' 0)<|J (NV' 1)<|J g<|J (L0' 2 (A.D.i .i64))<|ggE hr fun g1 hr=>J g<|J (j4l (f:=(A.D.i .i64)) 3 8 (fun _=>rfl) g1)<|e
theorem q6q {m:Md}{a0:Rl_}{r:Bool}(hr:q4M a0=some r):Ok Tryz.prog 104 [Rl_.x m a0] [] (dB r) []:=by
 refine OE Tryz.func104 fun S hS=>?_
 unfold q4M at hr
 refine J g<|J (BX' 0)<|bdE hr fun y1 hy1 hr=>J g<|J (CB' [] [] (q5i hy1))<|J (gn 1)<|ifE hr ?_ ?_<;>intro h1 hr
 refine J (gn 9)<|ifE hr ?_ ?_<;>intro h2 hr
 refine J (gn 8) ?_
 refine q0M (.ag 0 (.tmp 0 rfl) rfl) fun hl1=>?_
 refine bdE hr fun q1 hqq1 hr=>q0p hqq1 1 (fun k1 _=>[(1,.pb 0 0),(3,dI (k1:Int))]) (fun k1 _=>[]) I (fun k1 sk1 ok1 hr hltk1 hik1=>?_) fun sk1 ek1=>?_
 refine bdE hr fun x1 hx1 hr=>ggE hr fun g1 hr=>J g ?_
 refine J (CIU' g1 rfl)<|ggE hr fun g2 hr=>J (OB' _ (k1H g2))<|J (OB' _ (k1G (p:=(2 ^ a0.N.toNat)) (k:=1) (by decide)))<|bdE hr fun y2 hy2 hr=>J (CB' [] [] (q5i hy2))<|J (gn 2)<|ifE hr ?_ ?_<;>intro h3 hr
 exact e
 exact e
 subst ek1
 exact e
 exact e
 exact e
theorem z6A {m:Md}{a0:Rl_}{a1:Int}{a2:Int}{r:Rl_}(hr:q6g a0 a1 a2=some r):Ok Tryz.prog 106 [Rl_.x m a0,dI a1,dI a2] [] (.ag [dI r.N,.ref 0 none]) [.row .fz 1 (r.Rows.map (A.D.i .i64))]:=by
 refine OE Tryz.func106 fun S hS=>?_
 unfold q6g at hr
 refine J g<|J (BX' 0)<|J (NV' 1)<|bdE hr fun y1 hy1 hr=>J g<|J (CB' [(0,2)] [] (j0C (m:=m) hy1))<|J (NV' 3)<|bdE hr fun y2 hy2 hr=>J g<|J (CB' [] [] (q6q (m:=m) hy2))<|bdE hr fun s1 hqq1 hr=>q0a 7 [(1,dI a1),(2,dI a2),(3,.pb 0 0),(6,.pb 1 0),(7,.pb 3 0),(18,dB s1)] ?_ ?_
 replace hr:=hqq1
 refine ifE hr ?_ ?_<;>intro h1 hr
 refine ggE hr fun g1 hr=>bdE hr fun y3 hy3 hr=>J g<|J (CB' [] [] (q5i hy3))<|e
 exact e
 refine bdE hr fun s2 hqq2 hr=>q0a 7 [(1,dI a1),(2,dI a2),(6,.pb 1 0),(7,.pb 3 0),(25,dB s2)] ?_ ?_
 replace hr:=hqq2
 refine ifE hr ?_ ?_<;>intro h2 hr
 refine ggE hr fun g2 hr=>bdE hr fun y4 hy4 hr=>J g<|J (CB' [] [] (q5i hy4))<|e
 exact e
 refine J (gn 1)<|ifE hr ?_ ?_<;>intro h3 hr
 refine ggE hr fun g3 hr=>bdE hr fun x1 hx1 hr=>ggE hr fun g4 hr=>J g ?_
 refine J (CIU' g4 rfl)<|ggE hr fun g5 hr=>J (OB' _ (k1H g5))<|ggE hr fun g6 hr=>J (OB' _ (bOrI g6))<|J g<|J (SE' ((x1.toNat ||| ((2 ^ a2.toNat:Nat):Int).toNat:Nat):Int) hx1)<|J g<|E
 exact e
theorem z8c {m:Md}{a0:Gm_}{a1:Rule}{r:Rl_}(hr:q5T a0 a1=some r):Ok Tryz.prog 108 [Gm_.y m a0,Rule.x m a1] [] (.ag [dI r.N,.ref 0 none]) [.row .fz 1 (r.Rows.map (A.D.i .i64))]:=by
 refine OE Tryz.func108 fun S hS=>?_
 unfold q5T at hr
 refine J g<|J (BX' 0)<|J (BX' 1)<|J (NV' 2)<|bdE hr fun y1 hy1 hr=>J g<|J (CB' [(0,3)] [] (z0v (m:=m) hy1))<|bdE hr fun y2 hy2 hr=>J g<|J (CB' [(0,4)] [] (z3F hy2))<|J (NV' 5)<|bdP hr fun s1 s2 hqq1 hr=>J (gn 7)<|q0e 6 [(4,.pb 2 0),(6,.pb 5 0)] [(4,.row .fz 1 (s1.map (A.D.i .i64))),(5,.box [dI s2,.ref 4 none])] ?_ ?_
 refine J g<|q0h hqq1 6 (fun (s3,s4,s5)=>[(3,.pb 1 0),(4,.pb 2 0),(5,.ref 3 none),(6,.pb 5 0),(7,dI s3)]) (fun (s3,s4,s5)=>[(4,.row .fz 1 (s4.map (A.D.i .i64))),(5,.box [dI s5,.ref 4 none])]) I fun sk1 ok1 hr hik1=>?_
 obtain⟨s3,s4,s5⟩:=sk1
 have hr:=hr
 refine J (gn 7)<|ifE hr ?_ ?_<;>intro h1 hr
 refine J (gn 6)<|ifE hr ?_ ?_<;>intro h2 hr
 refine bdP hr fun s6 s7 hqq2 hr=>J (gn 3)<|q0e 6 [(3,.pb 1 0),(4,.pb 2 0),(5,.ref 3 none),(6,.pb 5 0),(7,dI s3),(23,.pb 5 0),(24,dI s5),(25,dB (decide (0<s5)))] [(4,.row .fz 1 (s6.map (A.D.i .i64))),(5,.box [dI s7,.ref 4 none])] ?_ ?_
 replace hr:=hqq2
 refine ggE hr fun g1 hr=>bdE hr fun x1 hx1 hr=>bdP hr fun y3 y4 hq3 hr=>J g<|J (CB' [(0,6)] [] (z4u (m:=m) hq3))<|J g<|J (NV' 7)<|J (gn 9)<|ifE hr ?_ ?_<;>intro h3 hr
 refine J (gn 5) ?_
 refine J (q0x 6 rfl)<|bdE hr fun y5 hy5 hr=>J (CB' [] [] (z3E (m:=.fz) hy5))<|J (gn 7)<|J (lenT 10)<|fun hl2=>bdP hr fun s8 s9 hqq4 hr=>q0c hqq4 hl2 8 (fun k2 (s8,s9)=>[(3,.pb 1 0),(4,.pb 2 0),(5,.ref 3 none),(6,.pb 5 0),(7,dI s3),(10,.d .fz (.sl 2 (y5.map Oc.D))),(11,dI (k2:Int)),(23,.pb 5 0),(24,dI s5),(25,dB (decide (0<s5)))]) (fun k2 (s8,s9)=>[(4,.row .fz 1 (s8.map (A.D.i .i64))),(5,.box [dI s9,.ref 4 none]),(6,.none)]) I (fun k2 xk2 sk2 ok2 hxk2 hr hltk2=>?_) fun k2 hltk2=>?_
 obtain⟨s8,s9⟩:=sk2
 refine bdE hr fun y6 hy6 hr=>J g<|J (CB' [] [3] (z6z (m:=.bo) hy6))<|bdE hr fun y7 hy7 hr=>J g<|J (CB' [(0,8)] [4] (z6A (m:=.bo) hy7))<|e
 exact e
 exact e
 refine ggE hr fun g2 hr=>e
 refine J (gn 2) ?_
 cases hr
 cases hik1 _ rfl
 exact GH.trans (q1s (q:=0) [.d m (.sl 2 (a0.Symbols.map Symbol.D)),.u] (.cons .rfl (.cons .u .nil)) rfl) (q0f hS 6)
 refine J (gn 8) ?_
 cases hr
 cases hik1 _ rfl
 exact GH.trans (q1s (q:=0) [.d m (.sl 2 (a0.Symbols.map Symbol.D)),.u] (.cons .rfl (.cons .u .nil)) rfl) (q0f hS 6)
 exact e
theorem z6B {m:Md}{a0:Gm_}{a1:Rule}{a2:Int}{r:(List Int)}(hr:q5y a0 a1 a2=some r):Ok Tryz.prog 109 [Gm_.y m a0,Rule.x m a1,dI a2] [] (.ref 0 none) [.row .fz 1 (r.map (A.D.i .i64))]:=by
 refine OE Tryz.func109 fun S hS=>?_
 unfold q5y at hr
 refine J g<|J (BX' 0)<|J (BX' 1)<|J g<|J (L0' 2 (A.D.i .i64))<|bdE hr fun y1 hy1 hr=>J g<|J (CB' [(0,3)] [] (z0v (m:=m) hy1))<|J (gn 8)<|J (lenR 3)<|fun hl1=>bdE hr fun s1 hqq1 hr=>q0c hqq1 hl1 4 (fun k1 s1=>[(2,dI a2),(7,.ref 2 none),(8,.ref 3 none),(9,dI (k1:Int))]) (fun k1 s1=>[(2,.row .fz 1 (s1.map (A.D.i .i64)))]) I (fun k1 xk1 sk1 ok1 hxk1 hr hltk1=>?_) fun k1 hltk1=>?_
 obtain⟨s1,rfl⟩:∃ y,y=sk1:=⟨_,rfl⟩
 refine bdE hr fun s2 hqq2 hr=>J (gn 11)<|q0e 4 [(2,dI a2),(7,.ref 2 none),(8,.ref 3 none),(9,dI (k1:Int))] [(2,.row .fz 1 (s2.map (A.D.i .i64)))] ?_ ?_
 replace hr:=hqq2
 refine J (gn 11)<|ifE hr ?_ ?_<;>intro h1 hr
 refine J g<|J (LIR' 4 (m:=.fz) (f:=(A.D.i .i64)) (xs:=([(k1:Int)]:List Int)))<|ggE hr fun g1 hr=>J (z0Q (f:=(A.D.i .i64)) 5 (fun _=>rfl) 8 g1)<|e
 exact e
 exact e
 exact e
theorem z6C {m:Md}{a0:Rl_}{a1:Int}{a2:Int}{r:Bool}(hr:q8m a0 a1 a2=some r):Ok Tryz.prog 105 [Rl_.x m a0,dI a1,dI a2] [] (dB r) []:=by
 refine OE Tryz.func105 fun S hS=>?_
 unfold q8m at hr
 refine J g<|J (BX' 0)<|bdE hr fun y1 hy1 hr=>J g<|J (CB' [] [] (q6q (m:=m) hy1))<|bdE hr fun s1 hqq1 hr=>q0a 7 [(1,dI a1),(2,dI a2),(3,.pb 0 0),(6,dB false),(15,dB s1)] ?_ ?_
 replace hr:=hqq1
 refine ifE hr ?_ ?_<;>intro h1 hr
 refine ggE hr fun g1 hr=>bdE hr fun y2 hy2 hr=>J g<|J (CB' [] [] (q5i hy2))<|e
 exact e
 refine bdE hr fun s2 hqq2 hr=>q0a 7 [(1,dI a1),(2,dI a2),(3,.pb 0 0),(6,dB false),(22,dB s2)] ?_ ?_
 replace hr:=hqq2
 refine ifE hr ?_ ?_<;>intro h2 hr
 refine ggE hr fun g2 hr=>bdE hr fun y3 hy3 hr=>J g<|J (CB' [] [] (q5i hy3))<|e
 exact e
 refine bdE hr fun s3 hqq3 hr=>q0a 12 [(6,dB false),(34,dB s3)] ?_ ?_
 replace hr:=hqq3
 refine ifE hr ?_ ?_<;>intro h3 hr
 refine ggE hr fun g3 hr=>bdE hr fun x1 hx1 hr=>ggE hr fun g4 hr=>J g ?_
 refine J (CIU' g4 rfl)<|ggE hr fun g5 hr=>J (OB' _ (k1I g5))<|ggE hr fun g6 hr=>J (OB' _ (k1J g6))<|J g<|E
 exact e
 exact e
theorem z3G {m:Md}{a0:Rl_}{r:Rl_}(hr:q6z a0=some r):Ok Tryz.prog 110 [Rl_.x m a0] [] (.ag [dI r.N,.ref 0 none]) [.row .fz 1 (r.Rows.map (A.D.i .i64))]:=by
 refine OE Tryz.func110 fun S hS=>?_
 unfold q6z at hr
 refine J g<|J (BX' 0)<|J (NV' 1)<|bdE hr fun y1 hy1 hr=>J g<|J (CB' [(0,2)] [] (j0C (m:=m) hy1))<|J (NV' 3)<|bdE hr fun y2 hy2 hr=>J g<|J (CB' [] [] (q6q (m:=m) hy2))<|J (gn 2)<|ifE hr ?_ ?_<;>intro h1 hr
 refine J (gn 8) ?_
 refine q0M (.ag 0 (.tmp 0 rfl) rfl) fun hl1=>?_
 refine bdE hr fun s1 hqq1 hr=>q0k hqq1 4 (fun k1 s1=>[(1,.pb 0 0),(2,.pb 1 0),(3,.pb 3 0),(4,dI (k1:Int))]) (fun k1 s1=>[(2,.row .fz 1 (s1.map (A.D.i .i64)))]) I (fun k1 sk1 ok1 hr hltk1=>?_) ?_
 obtain⟨s1,rfl⟩:∃ y,y=sk1:=⟨_,rfl⟩
 refine J (gn 17)<|J (rngT 14)<|fun hl2=>bdE hr fun s2 hqq2 hr=>q0k hqq2 4 (fun k2 s2=>[(1,.pb 0 0),(2,.pb 1 0),(3,.pb 3 0),(4,dI (k1:Int)),(5,dI (k2:Int))]) (fun k2 s2=>[(2,.row .fz 1 (s2.map (A.D.i .i64)))]) I (fun k2 sk2 ok2 hr hltk2=>?_) ?_
 obtain⟨s2,rfl⟩:∃ y,y=sk2:=⟨_,rfl⟩
 refine bdE hr fun s3 hqq3 hr=>J (gn 11)<|q0e 4 [(1,.pb 0 0),(2,.pb 1 0),(3,.pb 3 0),(4,dI (k1:Int)),(5,dI (k2:Int))] [(2,.row .fz 1 (s3.map (A.D.i .i64)))] ?_ ?_
 replace hr:=hqq3
 refine bdE hr fun x1 hx1 hr=>J g ?_
 refine J (CIU' (Int.natCast_nonneg _) rfl)<|ggE hr fun g1 hr=>J (OB' _ (k1I g1))<|ggE hr fun g2 hr=>J (OB' _ (k1J g2))<|J (gn 2)<|ifE hr ?_ ?_<;>intro h2 hr
 refine bdE hr fun x2 hx2 hr=>ggE hr fun g3 hr=>J g<|J (OB' _ (bOrI g3))<|J g<|J (SE' ((x1.toNat ||| x2.toNat:Nat):Int) hx1)<|e
 exact e
 exact e
 exact e
 exact e
 exact e
theorem z5i {m:Md}{a0:Gm_}{a1:Rule}{a2:(List Rl_)}{r:Rl_}(hr:q7A a0 a1 a2=some r):Ok Tryz.prog 50 [Gm_.y m a0,Rule.x m a1,.d m (.sl 2 (a2.map Rl_.D))] [] (.ag [dI r.N,.ref 0 none]) [.row .fz 1 (r.Rows.map (A.D.i .i64))]:=by
 refine OE Tryz.func50 fun S hS=>?_
 unfold q7A at hr
 refine J g<|J (BX' 0)<|J (BX' 1)<|J (NV' 2)<|bdE hr fun y1 hy1 hr=>J g<|J (CB' [(0,3)] [] (z0v (m:=m) hy1))<|bdE hr fun s1 hqq1 hr=>J (gn 11)<|q0a 5 [(2,.d m (.sl 2 (a2.map Rl_.D))),(3,.pb 0 0),(4,.pb 1 0),(6,.pb 2 0),(26,dB s1)] ?_ ?_
 replace hr:=hqq1
 refine ifE hr ?_ ?_<;>intro h1 hr
 exact e
 exact e
 refine J (gn 1)<|ifE hr ?_ ?_<;>intro h2 hr
 refine J (gn 7) ?_
 refine J (q0g (q0j (q:=2) (c:=1) (r:=4) .fz 1 rfl rfl rfl))<|J g<|E
 refine bdE hr fun y2 hy2 hr=>J g<|J (CB' [(0,4)] [] (z8c (m:=m) hy2))<|J (NV' 5)<|J (gn 8)<|J (lenT 2)<|fun hl1=>bdE hr fun q2 hqq2 hr=>q0b hqq2 hl1 6 (fun k1 (s2,s3)=>[(2,.d m (.sl 2 (a2.map Rl_.D))),(3,.pb 0 0),(4,.pb 1 0),(6,.pb 2 0),(8,.pb 5 0),(9,dI (k1:Int))]) (fun k1 (s2,s3)=>[(4,.row .fz 1 (s2.map (A.D.i .i64))),(5,.box [dI s3,.ref 4 none])]) I (fun k1 xk1 sk1 ok1 hxk1 hr hltk1 hik1=>?_) fun k1 sk1 ek1 hltk1=>?_
 obtain⟨s2,s3⟩:=sk1
 refine bdE hr fun y3 hy3 hr=>J g<|J (CB' [(0,6)] [] (z6B (m:=m) hy3))<|bdE hr fun y4 hy4 hr=>J g<|J (CB' [] [] (q6q (m:=m) hy4))<|J (gn 1)<|ifE hr ?_ ?_<;>intro h3 hr
 refine J (gn 11)<|ifE hr ?_ ?_<;>intro h4 hr
 refine J (gn 7)<|J (lenR 6)<|fun hl2=>bdP hr fun s4 s5 hqq3 hr=>q0c hqq3 hl2 7 (fun k2 (s4,s5)=>[(2,.d m (.sl 2 (a2.map Rl_.D))),(3,.pb 0 0),(4,.pb 1 0),(6,.pb 2 0),(8,.pb 5 0),(9,dI (k1:Int)),(10,.ref 6 none),(11,dI (k2:Int)),(49,.d m (.sl 2 (a2.map Rl_.D))),(50,dI (k1:Int)),(51,.pf m (Rl_.l xk1)),(52,.pf m (Rl_.l xk1)),(53,dI xk1.N),(54,.ref 6 none),(55,dI (y3.length:Int)),(56,dB (!(decide (xk1.N=(y3.length:Int)))))]) (fun k2 (s4,s5)=>[(4,.row .fz 1 (s4.map (A.D.i .i64))),(5,.box [dI s5,.ref 4 none])]) I (fun k2 xk2 sk2 ok2 hxk2 hr hltk2=>?_) fun k2 hltk2=>?_
 obtain⟨s4,s5⟩:=sk2
 refine J (gn 17)<|J (lenR 6)<|fun hl3=>bdP hr fun s6 s7 hqq4 hr=>q0c hqq4 hl3 7 (fun k3 (s6,s7)=>[(2,.d m (.sl 2 (a2.map Rl_.D))),(3,.pb 0 0),(4,.pb 1 0),(6,.pb 2 0),(8,.pb 5 0),(9,dI (k1:Int)),(10,.ref 6 none),(11,dI (k2:Int)),(12,dI (k3:Int)),(49,.d m (.sl 2 (a2.map Rl_.D))),(50,dI (k1:Int)),(51,.pf m (Rl_.l xk1)),(52,.pf m (Rl_.l xk1)),(53,dI xk1.N),(54,.ref 6 none),(55,dI (y3.length:Int)),(56,dB (!(decide (xk1.N=(y3.length:Int)))))]) (fun k3 (s6,s7)=>[(4,.row .fz 1 (s6.map (A.D.i .i64))),(5,.box [dI s7,.ref 4 none])]) I (fun k3 xk3 sk3 ok3 hxk3 hr hltk3=>?_) fun k3 hltk3=>?_
 obtain⟨s6,s7⟩:=sk3
 refine bdP hr fun s8 s9 hqq5 hr=>J (gn 11)<|q0e 7 [(2,.d m (.sl 2 (a2.map Rl_.D))),(3,.pb 0 0),(4,.pb 1 0),(6,.pb 2 0),(8,.pb 5 0),(9,dI (k1:Int)),(10,.ref 6 none),(11,dI (k2:Int)),(12,dI (k3:Int)),(49,.d m (.sl 2 (a2.map Rl_.D))),(50,dI (k1:Int)),(51,.pf m (Rl_.l xk1)),(52,.pf m (Rl_.l xk1)),(53,dI xk1.N),(54,.ref 6 none),(55,dI (y3.length:Int)),(56,dB (!(decide (xk1.N=(y3.length:Int)))))] [(4,.row .fz 1 (s8.map (A.D.i .i64))),(5,.box [dI s9,.ref 4 none])] ?_ ?_
 replace hr:=hqq5
 refine bdE hr fun y5 hy5 hr=>J g<|J (CB' [] [] (z6C (m:=m) hy5))<|J (gn 1)<|ifE hr ?_ ?_<;>intro h5 hr
 refine bdE hr fun y6 hy6 hr=>J g<|J (CB' [(0,7)] [4] (z6A (m:=.bo) hy6))<|e
 exact e
 exact e
 exact e
 exact e
 refine J (gn 7) ?_
 refine J (q0g (q0j (q:=2) (c:=1) (r:=7) .fz 1 rfl rfl rfl))<|J g<|E
 refine J (gn 18) ?_
 refine J (q0g (q0j (q:=2) (c:=1) (r:=7) .fz 1 rfl rfl rfl))<|J g<|E
 subst ek1
 obtain⟨s2,s3⟩:=sk1
 refine bdE hr fun y7 hy7 hr=>J g<|J (CB' [(0,6)] [4] (z3G (m:=.bo) hy7))<|e
theorem j3c {m:Md}{a0:Gm_}{a1:Rule}{a2:Rl_}{r:Rl_}(hr:q6G a0 a1 a2=some r):Ok Tryz.prog 49 [Gm_.y m a0,Rule.x m a1,Rl_.x m a2] [] (.ag [dI r.N,.ref 0 none]) [.row .fz 1 (r.Rows.map (A.D.i .i64))]:=by
 refine OE Tryz.func49 fun S hS=>?_
 unfold q6G at hr
 refine J g<|J (BX' 0)<|J (BX' 1)<|J (BX' 2)<|J (NV' 3)<|bdE hr fun y1 hy1 hr=>J g<|J (CB' [(0,4)] [] (z2p (m:=m) hy1))<|bdE hr fun y2 hy2 hr=>J g<|J (CB' [(0,5)] [] (z3F hy2))<|J (NV' 6)<|J (gn 8)<|J (lenR 4)<|fun hl1=>bdP hr fun s1 s2 hqq1 hr=>q0c hqq1 hl1 7 (fun k1 (s1,s2)=>[(5,.pb 2 0),(6,.pb 3 0),(7,.ref 4 none),(8,.pb 6 0),(9,dI (k1:Int))]) (fun k1 (s1,s2)=>[(5,.row .fz 1 (s1.map (A.D.i .i64))),(6,.box [dI s2,.ref 5 none])]) I (fun k1 xk1 sk1 ok1 hxk1 hr hltk1=>?_) fun k1 hltk1=>?_
 obtain⟨s1,s2⟩:=sk1
 refine J (gn 17)<|J (lenR 4)<|fun hl2=>bdP hr fun s3 s4 hqq2 hr=>q0c hqq2 hl2 7 (fun k2 (s3,s4)=>[(5,.pb 2 0),(6,.pb 3 0),(7,.ref 4 none),(8,.pb 6 0),(9,dI (k1:Int)),(10,dI (k2:Int))]) (fun k2 (s3,s4)=>[(5,.row .fz 1 (s3.map (A.D.i .i64))),(6,.box [dI s4,.ref 5 none])]) I (fun k2 xk2 sk2 ok2 hxk2 hr hltk2=>?_) fun k2 hltk2=>?_
 obtain⟨s3,s4⟩:=sk2
 refine bdP hr fun s5 s6 hqq3 hr=>J (gn 11)<|q0e 7 [(5,.pb 2 0),(6,.pb 3 0),(7,.ref 4 none),(8,.pb 6 0),(9,dI (k1:Int)),(10,dI (k2:Int))] [(5,.row .fz 1 (s5.map (A.D.i .i64))),(6,.box [dI s6,.ref 5 none])] ?_ ?_
 replace hr:=hqq3
 refine bdE hr fun s7 hqq4 hr=>J (gn 9)<|q0a 8 [(5,.pb 2 0),(6,.pb 3 0),(7,.ref 4 none),(8,.pb 6 0),(9,dI (k1:Int)),(10,dI (k2:Int)),(43,dB s7)] ?_ ?_
 replace hr:=hqq4
 refine ifE hr ?_ ?_<;>intro h1 hr
 exact e
 exact e
 refine bdE hr fun s8 hqq5 hr=>q0a 6 [(5,.pb 2 0),(6,.pb 3 0),(7,.ref 4 none),(8,.pb 6 0),(9,dI (k1:Int)),(10,dI (k2:Int)),(49,dB s8)] ?_ ?_
 replace hr:=hqq5
 refine ifE hr ?_ ?_<;>intro h2 hr
 refine bdE hr fun y3 hy3 hr=>J g<|J (CB' [] [] (z6C (m:=m) hy3))<|e
 exact e
 refine J (gn 1)<|ifE hr ?_ ?_<;>intro h3 hr
 refine bdE hr fun y4 hy4 hr=>J g<|J (CB' [(0,7)] [5] (z6A (m:=.bo) hy4))<|e
 exact e
 exact e
 exact e
 exact e
theorem j8o {m:Md}{a0:(List Int)}{a1:(List Int)}{r:Bool}(hr:z7m a0 a1=some r):Ok Tryz.prog 38 [.d m (.sl 1 (a0.map (A.D.i .i64))),.d m (.sl 1 (a1.map (A.D.i .i64)))] [] (dB r) []:=by
 refine OE Tryz.func38 fun S hS=>?_
 unfold z7m at hr
 refine J (gn 13)<|ifE hr ?_ ?_<;>intro h1 hr
 refine J (gn 8)<|J (lenT 0)<|fun hl1=>bdE hr fun q1 hqq1 hr=>q0b hqq1 hl1 0 (fun k1 _=>[(0,.d m (.sl 1 (a0.map (A.D.i .i64)))),(1,.d m (.sl 1 (a1.map (A.D.i .i64)))),(5,dI (k1:Int))]) (fun k1 _=>[]) I (fun k1 xk1 sk1 ok1 hxk1 hr hltk1 hik1=>?_) fun k1 sk1 ek1 hltk1=>?_
 refine bdE hr fun x1 hx1 hr=>J (gn 24)<|ifE hr ?_ ?_<;>intro h2 hr
 exact e
 exact e
 subst ek1
 exact e
 exact e
theorem z8d {m:Md}{a0:Rl_}{a1:Rl_}{r:Bool}(hr:q7u a0 a1=some r):Ok Tryz.prog 12 [Rl_.x m a0,Rl_.x m a1] [] (dB r) []:=by
 refine OE Tryz.func12 fun S hS=>?_
 unfold q7u at hr
 refine J g<|J (BX' 0)<|J (BX' 1)<|J (gn 9)<|ifE hr ?_ ?_<;>intro h1 hr
 refine bdE hr fun y1 hy1 hr=>J g<|J (CB' [] [] (j8o (m:=m) hy1))<|e
 exact e
theorem j8p {m:Md}{a0:(List Rl_)}{a1:Rl_}{r:Bool}(hr:z4P a0 a1=some r):Ok Tryz.prog 86 [.d m (.sl 2 (a0.map Rl_.D)),Rl_.x m a1] [] (dB r) []:=by
 refine OE Tryz.func86 fun S hS=>?_
 unfold z4P at hr
 refine J g<|J (BX' 0)<|J (gn 8)<|J (lenT 0)<|fun hl1=>bdE hr fun q1 hqq1 hr=>q0b hqq1 hl1 1 (fun k1 _=>[(0,.d m (.sl 2 (a0.map Rl_.D))),(3,.pb 0 0),(5,dI (k1:Int))]) (fun k1 _=>[]) I (fun k1 xk1 sk1 ok1 hxk1 hr hltk1 hik1=>?_) fun k1 sk1 ek1 hltk1=>?_
 refine bdE hr fun y1 hy1 hr=>J g<|J (CB' [] [] (z8d (m:=m) hy1))<|J (gn 1)<|ifE hr ?_ ?_<;>intro h1 hr
 exact e
 exact e
 subst ek1
 exact e
theorem j4C {m:Md}{a0:Gm_}{a1:(List (List Rl_))}{r:((List (List Rl_))×Bool)}(hr:z2c a0 a1=some r):Ok Tryz.prog 36 [Gm_.x m a0,.d .fz (.sl 1 (a1.map (fun (l:List Rl_)=>A.D.sl 2 (l.map Rl_.D))))] [] (.tu [.ref 0 none,dB r.2]) [.deep .fz 1 (r.1.map (fun (l:List Rl_)=>[Cell.o .fz 2 (l.map Rl_.D)])) []]:=by
 refine OE Tryz.func36 fun S hS=>?_
 unfold z2c at hr
 refine J g<|J (BX' 0)<|J g<|J (L0' 1 (fun (l:List Rl_)=>A.D.sl 2 (l.map Rl_.D)))<|q3t 1 (fun (l:List Rl_)=>[Cell.o .fz 2 (l.map Rl_.D)]) ?_
 refine J (gn 8)<|J (lenT 1)<|fun hl1=>bdE hr fun s1 hqq1 hr=>q0c hqq1 hl1 2 (fun k1 s1=>[(1,.d .fz (.sl 1 (a1.map (fun (l:List Rl_)=>A.D.sl 2 (l.map Rl_.D))))),(2,.pb 0 0),(6,.ref 1 none),(7,dI (k1:Int))]) (fun k1 s1=>[(1,.deep .fz 1 (s1.map (fun (l:List Rl_)=>[Cell.o .fz 2 (l.map Rl_.D)])) [])]) I (fun k1 xk1 sk1 ok1 hxk1 hr hltk1=>?_) fun k1 hltk1=>?_
 obtain⟨s1,rfl⟩:∃ y,y=sk1:=⟨_,rfl⟩
 refine J g<|J (L0' 2 Rl_.D)<|ggE hr fun g1 hr=>J g<|J (APB' 3 .fz 32 g1)<|J (LID' (f:=(fun (l:List Rl_)=>[Cell.o .fz 2 (l.map Rl_.D)])) 4 xk1 [3])<|ggE hr fun g2 hr=>J (k5J 5 24 g2)<|e
 refine J (gn 20) ?_
 refine AW.len (.box 0 1 rfl rfl) fun hl2=>?_
 refine bdP hr fun s2 s3 hqq2 hr=>q0c hqq2 hl2 2 (fun k2 (s2,s3)=>[(1,.d .fz (.sl 1 (a1.map (fun (l:List Rl_)=>A.D.sl 2 (l.map Rl_.D))))),(2,.pb 0 0),(6,.ref 1 none),(8,dB s3),(9,dI (k2:Int))]) (fun k2 (s2,s3)=>[(1,.deep .fz 1 (s2.map (fun (l:List Rl_)=>[Cell.o .fz 2 (l.map Rl_.D)])) [])]) I (fun k2 xk2 sk2 ok2 hxk2 hr hltk2=>?_) fun k2 hltk2=>?_
 obtain⟨s2,s3⟩:=sk2
 refine J g<|J (NV' 2)<|bdE hr fun y1 hy1 hr=>J g<|J (CB' [(0,3)] [] (z7w (m:=.fz) hy1))<|bdE hr fun y2 hy2 hr=>J (CB' [(0,4)] [3] (z5Y (m:=.bo) hy2))<|bdE hr fun y3 hy3 hr=>J g<|J (CB' [] [] (z5h (m:=m) hy3))<|J (gn 7)<|J (lenR 4)<|fun hl3=>bdP hr fun s4 s5 hqq3 hr=>q0c hqq3 hl3 5 (fun k3 (s4,s5)=>[(1,.d .fz (.sl 1 (a1.map (fun (l:List Rl_)=>A.D.sl 2 (l.map Rl_.D))))),(2,.pb 0 0),(6,.ref 1 none),(8,dB s5),(9,dI (k2:Int)),(10,.pb 2 0),(11,.ref 4 none),(12,dI y3),(13,dI (k3:Int))]) (fun k3 (s4,s5)=>[(1,.deep .fz 1 (s4.map (fun (l:List Rl_)=>[Cell.o .fz 2 (l.map Rl_.D)])) [])]) I (fun k3 xk3 sk3 ok3 hxk3 hr hltk3=>?_) fun k3 hltk3=>?_
 obtain⟨s4,s5⟩:=sk3
 refine bdP hr fun s6 s7 hqq4 hr=>J (gn 11)<|q0e 5 [(1,.d .fz (.sl 1 (a1.map (fun (l:List Rl_)=>A.D.sl 2 (l.map Rl_.D))))),(2,.pb 0 0),(6,.ref 1 none),(8,dB s6),(9,dI (k2:Int)),(10,.pb 2 0),(11,.ref 4 none),(12,dI y3),(13,dI (k3:Int))] [(1,.deep .fz 1 (s7.map (fun (l:List Rl_)=>[Cell.o .fz 2 (l.map Rl_.D)])) [])] ?_ ?_
 replace hr:=hqq4
 refine bdE hr fun y4 hy4 hr=>J g<|J (CB' [(0,5)] [] (j0B (m:=m) hy4))<|bdE hr fun y5 hy5 hr=>J (CB' [(0,6)] [5] (z5i (m:=.bo) hy5))<|bdE hr fun y6 hy6 hr=>J (CB' [(0,7)] [6] (j3c (m:=.bo) hy6))<|J (NV' 8)<|ggE hr fun g3 hr=>bdE hr fun x1 hx1 hr=>J (gn 2)<|J (q1w 1 y3.toNat 0 9 (q5c hx1))<|J g<|J (IEd' g3 (z1l (q5c hx1)))<|J (LPd' [(0,9)] (z1l (q5c hx1)))<|bdE hr fun y7 hy7 hr=>J g<|J (CB' [] [9,7] (j8p (m:=.bo) hy7))<|J (gn 2)<|ifE hr ?_ ?_<;>intro h1 hr
 refine J (gn 2) ?_
 cases hr
 exact GH.trans (q0I 1 y3.toNat 0 9 (z1l (q5c hx1))) (GH.trans (q0o 1 (he:=k3N (f:=(fun (l:List Rl_)=>[Cell.o .fz 2 (l.map Rl_.D)])) hx1 (by first|rfl|(simp only[List.set_set];rfl)))) (q0f hS 5))
 refine J (gn 1) ?_
 refine J (q3w 7 rfl)<|J g<|J (IEd' g3 (z1l (q5c hx1)))<|J (LPd' [(0,9)] (z1l (q5c hx1)))<|J g<|J (LIR' 10 (m:=.fz) (f:=Rl_.D) (xs:=[y6]))<|ggE hr fun g4 hr=>J (AP1' 11 .fz 32 g4)<|J (IEd' g3 (z1l (q5c hx1)))<|J (SD' [.o .fz 2 ((x1++[y6]).map Rl_.D)] [11] (z1l (q5c hx1)))<|J (gn 4) ?_
 cases hr
 exact GH.trans (q0o 1 (he:=eset (f:=(fun (l:List Rl_)=>[Cell.o .fz 2 (l.map Rl_.D)])) (x':=(x1++[y6])) (by first|rfl|(simp only[List.set_set];rfl)))) (q0f hS 5)
 exact e
 exact e
 exact e
theorem j3d {m:Md}{a0:Gm_}{r:((List (List Rl_))×Bool)}(hr:z2I a0=some r):Ok Tryz.prog 10 [Gm_.x m a0] [] (.tu [.d .fz (.sl 1 (r.1.map (fun (l:List Rl_)=>A.D.sl 2 (l.map Rl_.D)))),dB r.2]) []:=by
 refine OE Tryz.func10 fun S hS=>?_
 unfold z2I at hr
 refine J g<|J (BX' 0)<|bdE hr fun y1 hy1 hr=>J g<|J (CB' [] [] (j5W (m:=m) hy1))<|J (gn 2)<|ifE hr ?_ ?_<;>intro h1 hr
 refine ggE hr fun g1 hr=>J g<|MKW 1 (f:=(fun (l:List Rl_)=>[Cell.o .fz 2 (l.map Rl_.D)])) [] g1.1 g1.2.1 g1.2.2 ?_
 refine bdE hr fun q1 hqq1 hr=>J g<|q0h hqq1 2 (fun s1=>[(1,.pb 0 0),(4,.ref 1 none)]) (fun s1=>[(1,.deep .fz 1 (s1.map (fun (l:List Rl_)=>[Cell.o .fz 2 (l.map Rl_.D)])) [])]) I fun sk1 ok1 hr hik1=>?_
 obtain⟨s1,rfl⟩:∃ y,y=sk1:=⟨_,rfl⟩
 refine J (gn 5) ?_
 refine q3u 1 (fun (l:List Rl_)=>A.D.sl 2 (l.map Rl_.D)) (by exact fun _=>rfl) rfl ?_
 refine bdP hr fun y2 y3 hq2 hr=>J (CB' [(0,2)] [] (j4C (m:=m) hq2))<|J (gn 12)<|ifE hr ?_ ?_<;>intro h2 hr
 exact e
 exact e
 refine J g<|J (L0' 1 (fun (l:List Rl_)=>A.D.sl 2 (l.map Rl_.D)))<|q3t 1 (fun (l:List Rl_)=>[Cell.o .fz 2 (l.map Rl_.D)]) ?_
 refine J (gn 4) ?_
 refine J (q0g (q1Y 1 (fun (l:List Rl_)=>A.D.sl 2 (l.map Rl_.D)) (by exact fun _=>rfl) rfl))<|J g<|E
theorem j5X {m:Md}{a0:Rl_}{r:Bool}(hr:z3s a0=some r):Ok Tryz.prog 56 [Rl_.x m a0] [] (dB r) []:=by
 refine OE Tryz.func56 fun S hS=>?_
 unfold z3s at hr
 refine J g<|J (BX' 0)<|bdE hr fun y1 hy1 hr=>J g<|J (CB' [] [] (q6q (m:=m) hy1))<|J (gn 2)<|ifE hr ?_ ?_<;>intro h1 hr
 refine bdE hr fun y2 hy2 hr=>J g<|J (CB' [(0,1)] [] (z3G (m:=m) hy2))<|J (NV' 2)<|J (gn 8) ?_
 refine q0M (.ag 0 (.tmp 0 rfl) rfl) fun hl1=>?_
 refine bdE hr fun q1 hqq1 hr=>q0p hqq1 3 (fun k1 _=>[(1,.pb 0 0),(3,.pb 2 0),(4,dI (k1:Int))]) (fun k1 _=>[]) I (fun k1 sk1 ok1 hr hltk1 hik1=>?_) fun sk1 ek1=>?_
 refine bdE hr fun y3 hy3 hr=>J g<|J (CB' [] [1] (z6C (m:=.bo) hy3))<|J (gn 1)<|ifE hr ?_ ?_<;>intro h2 hr
 exact e
 exact e
 subst ek1
 exact e
 exact e
theorem j1y {m:Md}{a0:Gm_}{r:Bool}(hr:q9E a0=some r):Ok Tryz.prog 20 [Gm_.x m a0] [] (dB r) []:=by
 refine OE Tryz.func20 fun S hS=>?_
 unfold q9E at hr
 refine J g<|J (BX' 0)<|bdP hr fun y1 y2 hq1 hr=>J g<|J (CB' [] [] (j3d (m:=m) hq1))<|bdE hr fun q2 hqq2 hr=>J (gn 11)<|AW.cut 1 (fun _=>[]) (fun _=>[]) (M:=fun x=>q2=.inl x) ?_ fun x hx=>?_
 refine J g<|q0h hqq2 1 (fun s1=>[(1,.pb 0 0),(3,.d .fz (.sl 1 (y1.map (fun (l:List Rl_)=>A.D.sl 2 (l.map Rl_.D))))),(4,dB y2),(5,dI s1)]) (fun s1=>[]) I fun sk1 ok1 hr hik1=>?_
 obtain⟨s1,rfl⟩:∃ y,y=sk1:=⟨_,rfl⟩
 have hr:=hr
 refine J (gn 8)<|ifE hr ?_ ?_<;>intro h1 hr
 refine J (gn 4)<|ifE hr ?_ ?_<;>intro h2 hr
 refine ggE hr fun g1 hr=>bdE hr fun x1 hx1 hr=>J g<|J (NV' 1)<|bdE hr fun y3 hy3 hr=>J g<|J (CB' [(0,2)] [] (z7w (m:=.fz) hy3))<|bdE hr fun y4 hy4 hr=>J (CB' [(0,3)] [2] (z5Y (m:=.bo) hy4))<|J (gn 7)<|J (lenR 3)<|fun hl2=>bdE hr fun q3 hqq3 hr=>q0b hqq3 hl2 4 (fun k2 _=>[(1,.pb 0 0),(3,.d .fz (.sl 1 (y1.map (fun (l:List Rl_)=>A.D.sl 2 (l.map Rl_.D))))),(4,dB y2),(5,dI s1),(6,.pb 1 0),(7,.ref 3 none),(8,dI (k2:Int)),(20,dB y2)]) (fun k2 _=>[]) I (fun k2 xk2 sk2 ok2 hxk2 hr hltk2 hik2=>?_) fun k2 sk2 ek2 hltk2=>?_
 refine bdE hr fun y5 hy5 hr=>J g<|J (CB' [(0,4)] [] (j0B (m:=m) hy5))<|bdE hr fun y6 hy6 hr=>J (CB' [(0,5)] [4] (z5i (m:=.bo) hy6))<|bdE hr fun y7 hy7 hr=>J (CB' [] [5] (j5X (m:=.bo) hy7))<|J (gn 1)<|ifE hr ?_ ?_<;>intro h3 hr
 exact e
 exact e
 subst ek2
 refine ggE hr fun g2 hr=>e
 refine J (gn 2) ?_
 cases hr
 cases hik1 _ rfl
 exact⟨_,rfl,q0f hS 1⟩
 refine J (gn 6) ?_
 cases hr
 cases hik1 _ rfl
 exact⟨_,rfl,q0f hS 1⟩
 subst hx
 exact e
end Go.Proofs.YtomdlgffolbdkaaGreat
