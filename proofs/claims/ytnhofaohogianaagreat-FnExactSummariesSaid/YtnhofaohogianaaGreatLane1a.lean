/- What some functions of the program compute, as partial functions on plain data, and that they do; each lemma bears its conditions in its statement. -/
import Derived.Test.YtnhofaohogianaaGreatDef
set_option linter.unusedVariables false
set_option linter.unusedSimpArgs false
set_option linter.ambiguousOpen false
set_option linter.unusedSectionVars false
set_option linter.unnecessarySimpa false
set_option maxRecDepth 100000
set_option maxHeartbeats 40000000
noncomputable section
open Int renaming natCast_nonneg→Dmz
namespace Go.Proofs.YtnhofaohogianaaGreat
open Go Go.E Go.A
theorem q5p {a0:Int}{a1:Int}{a2:Int}{r:Bool}(hr:q5f a0 a1 a2=some r):Ok Tryz.prog 106 [dI a0,dI a1,dI a2] [] (dB r) []:=by
 refine OE Tryz.func106 fun S hS=>?_
 unfold q5f at hr
 refine J (gn 9)<|ifE hr ?_ ?_<;>intro h1 hr
 exact e
 exact e
theorem j6r {a0:BA_}{r:Bool}(hr:z6g a0=some r):Ok Tryz.prog 221 [dS a0] [] (dB r) []:=by
 refine OE Tryz.func221 fun S hS=>?_
 unfold z6g at hr
 refine J (gn 10) ?_
 refine q2V (.tmp 0 rfl) fun ht1=>?_
 have hl1:rngI .i64 (a0.size:Int):=k2i ht1
 refine bdE hr fun q1 hqq1 hr=>q0s hqq1 0 (fun k1 _=>[(0,dS a0),(3,dI (k1:Int))]) (fun k1 _=>[]) I (fun k1 sk1 ok1 hr hltk1 hik1=>?_) fun sk1 ek1=>?_
 refine J g<|J LS'<|bdE hr fun x1 hx1 hr=>J g ?_
 refine J (SI' rfl rfl (Dmz _) hx1)<|bdE hr fun s1 hqq2 hr=>J (gn 1)<|q0a 6 [(0,dS a0),(3,dI (k1:Int)),(21,dB s1)] ?_ ?_
 replace hr:=hqq2
 refine ifE hr ?_ ?_<;>intro h1 hr
 refine J g ?_
 refine J (SI' rfl rfl (Dmz _) hx1)<|J g<|E
 exact e
 refine J g ?_
 refine J (SI' rfl rfl (Dmz _) hx1)<|bdE hr fun s2 hqq3 hr=>J (gn 1)<|q0a 6 [(0,dS a0),(3,dI (k1:Int)),(4,dB s1),(31,dB s2)] ?_ ?_
 replace hr:=hqq3
 refine ifE hr ?_ ?_<;>intro h2 hr
 refine J g ?_
 refine J (SI' rfl rfl (Dmz _) hx1)<|J g<|E
 exact e
 refine bdE hr fun s3 hqq4 hr=>J (gn 6)<|q0a 8 [(0,dS a0),(3,dI (k1:Int)),(41,dB s3)] ?_ ?_
 replace hr:=hqq4
 refine ifE hr ?_ ?_<;>intro h3 hr
 exact e
 refine bdP hr fun s4 s5 hqq5 hr=>J (gn 3)<|q0a 4 [(0,dS a0),(3,dI (k1:Int)),(34,dB true),(35,dI (k1:Int)),(36,dB (decide ((k1:Int)=0))),(37,dB s4),(40,dB s5)] ?_ ?_
 replace hr:=hqq5
 refine ifE hr ?_ ?_<;>intro h4 hr
 exact e
 exact e
 exact e
 refine J (gn 1)<|ifE hr ?_ ?_<;>intro h5 hr
 exact e
 exact e
 subst ek1
 refine J g<|J LS'<|J g<|J LS'<|e
theorem j1Z {r:(List BA_)}(hr:z1J=some r):Ok Tryz.prog 239 [] [] (.ref 0 none) [.row .fz 1 (r.map A.D.s)]:=by
 refine OE Tryz.func239 fun S hS=>?_
 unfold z1J at hr
 refine J g<|J (LIR' 0 (m:=.fz) (f:=A.D.s) (xs:=[(⟨#[105,102]⟩:BA_),(⟨#[116,104,101,110]⟩:BA_),(⟨#[101,108,115,101]⟩:BA_),(⟨#[116,114,117,101]⟩:BA_),(⟨#[102,97,108,115,101]⟩:BA_),(⟨#[108,105,116]⟩:BA_),(⟨#[110,111,110,101]⟩:BA_),(⟨#[115,101,108,102]⟩:BA_),(⟨#[111,102]⟩:BA_),(⟨#[109,97,120]⟩:BA_),(⟨#[109,105,110]⟩:BA_),(⟨#[119,105,116,104]⟩:BA_),(⟨#[104,97,115]⟩:BA_)]))<|e
theorem z8a {m:Md}{a0:(List BA_)}{a1:BA_}{r:Bool}(hr:z0U a0 a1=some r):Ok Tryz.prog 149 [.d m (.sl 1 (a0.map A.D.s)),dS a1] [] (dB r) []:=by
 refine OE Tryz.func149 fun S hS=>?_
 unfold z0U at hr
 refine J (gn 10)<|J (lenT 0)<|fun hl1=>bdE hr fun q1 hqq1 hr=>q0b hqq1 hl1 0 (fun k1 _=>[(0,.d m (.sl 1 (a0.map A.D.s))),(1,dS a1),(5,dI (k1:Int))]) (fun k1 _=>[]) I (fun k1 xk1 sk1 ok1 hxk1 hr hltk1 hik1=>?_) fun k1 sk1 ek1 hltk1=>?_
 refine J (gn 21)<|ifE hr ?_ ?_<;>intro h1 hr
 exact e
 exact e
 subst ek1
 exact e
theorem j2a {a0:BA_}{r:Bool}(hr:q9F a0=some r):Ok Tryz.prog 222 [dS a0] [] (dB r) []:=by
 refine OE Tryz.func222 fun S hS=>?_
 unfold q9F at hr
 refine bdE hr fun y1 hy1 hr=>J g<|J (CB' [(0,0)] [] (j1Z hy1))<|bdE hr fun y2 hy2 hr=>J g<|J (CB' [] [0] (z8a (m:=.bo) hy2))<|e
theorem q5b {a0:BA_}{r:Bool}(hr:q4B a0=some r):Ok Tryz.prog 194 [dS a0] [] (dB r) []:=by
 refine OE Tryz.func194 fun S hS=>?_
 unfold q4B at hr
 refine bdE hr fun y1 hy1 hr=>J g<|J (CB' [] [] (j6r hy1))<|bdE hr fun s1 hqq1 hr=>q0a 5 [(0,dS a0),(2,dB false),(9,dB s1)] ?_ ?_
 replace hr:=hqq1
 refine ifE hr ?_ ?_<;>intro h1 hr
 refine J g<|J LS'<|e
 exact e
 refine bdE hr fun s2 hqq2 hr=>q0a 5 [(2,dB false),(14,dB s2)] ?_ ?_
 replace hr:=hqq2
 refine ifE hr ?_ ?_<;>intro h2 hr
 refine bdE hr fun y2 hy2 hr=>J g<|J (CB' [] [] (j2a hy2))<|e
 exact e
 exact e
theorem z6o {a0:At_}{r:Bool}(hr:q6u a0=some r):Ok Tryz.prog 193 [At_.x .fz a0] [] (dB r) []:=by
 refine OE Tryz.func193 fun S hS=>?_
 unfold q6u at hr
 refine J g<|J (BX' 0)<|bdE hr fun y1 hy1 hr=>J g<|J (CB' [] [] (q5b hy1))<|bdE hr fun s1 hqq1 hr=>J (gn 1)<|q0a 6 [(1,.pb 0 0),(12,dB s1)] ?_ ?_
 replace hr:=hqq1
 refine ifE hr ?_ ?_<;>intro h1 hr
 refine bdE hr fun y2 hy2 hr=>J g<|J (CB' [] [] (q5p hy2))<|e
 exact e
 refine bdE hr fun s2 hqq2 hr=>q0a 6 [(1,.pb 0 0),(18,dB s2)] ?_ ?_
 replace hr:=hqq2
 refine ifE hr ?_ ?_<;>intro h2 hr
 exact e
 refine bdE hr fun y3 hy3 hr=>J g<|J (CB' [] [] (q5p hy3))<|e
 refine J (gn 1)<|ifE hr ?_ ?_<;>intro h3 hr
 exact e
 refine bdE hr fun s3 hqq3 hr=>J (gn 8)<|q0a 9 [(1,.pb 0 0),(30,dB s3)] ?_ ?_
 replace hr:=hqq3
 refine ifE hr ?_ ?_<;>intro h4 hr
 refine bdE hr fun s4 hqq4 hr=>J (gn 4)<|q0a 4 [(1,.pb 0 0),(22,dB true),(29,dB s4)] ?_ ?_
 replace hr:=hqq4
 refine ifE hr ?_ ?_<;>intro h5 hr
 exact e
 exact e
 exact e
 exact e
 refine J (gn 1)<|ifE hr ?_ ?_<;>intro h6 hr
 exact e
 refine bdE hr fun s5 hqq5 hr=>J (gn 7)<|q0a 5 [(38,dB s5)] ?_ ?_
 replace hr:=hqq5
 refine ifE hr ?_ ?_<;>intro h7 hr
 exact e
 exact e
 exact e
theorem j1b {m:Md}{a0:(List BA_)}{r:Bool}(hr:q8N a0=some r):Ok Tryz.prog 195 [.d m (.sl 1 (a0.map A.D.s))] [] (dB r) []:=by
 refine OE Tryz.func195 fun S hS=>?_
 unfold q8N at hr
 refine J (gn 10)<|J (lenT 0)<|fun hl1=>bdE hr fun q1 hqq1 hr=>q0b hqq1 hl1 0 (fun k1 _=>[(0,.d m (.sl 1 (a0.map A.D.s))),(3,dI (k1:Int))]) (fun k1 _=>[]) I (fun k1 xk1 sk1 ok1 hxk1 hr hltk1 hik1=>?_) fun k1 sk1 ek1 hltk1=>?_
 refine ggE hr fun g1 hr=>J g<|J (SLH' (Dmz _) g1)<|bdE hr fun y1 hy1 hr=>J g<|J (CB' [] [] (z8a (m:=m) hy1))<|J (gn 1)<|ifE hr ?_ ?_<;>intro h1 hr
 exact e
 exact e
 subst ek1
 exact e
theorem z8I {m:Md}{a0:Symbol}{r:Bool}(hr:q7D a0=some r):Ok Tryz.prog 148 [Symbol.x m a0] [] (dB r) []:=by
 refine OE Tryz.func148 fun S hS=>?_
 unfold q7D at hr
 refine J g<|J (BX' 0)<|J g<|J (L0' 1 A.D.s)<|J (gn 8)<|J (lenA 1 0)<|fun hl1=>bdE hr fun q1 hqq1 hr=>q0b hqq1 hl1 2 (fun k1 s1=>[(1,.pb 0 0),(3,.ref 1 none),(4,dI (k1:Int))]) (fun k1 s1=>[(1,.row .fz 1 (s1.map A.D.s))]) I (fun k1 xk1 sk1 ok1 hxk1 hr hltk1 hik1=>?_) fun k1 sk1 ek1 hltk1=>?_
 obtain⟨s1,rfl⟩:∃ y,y=sk1:=⟨_,rfl⟩
 refine bdE hr fun y1 hy1 hr=>J g<|J (CB' [] [] (z6o hy1))<|J (gn 2)<|ifE hr ?_ ?_<;>intro h1 hr
 refine J g<|J (LIR' 2 (m:=.fz) (f:=A.D.s) (xs:=[xk1.Name]))<|ggE hr fun g1 hr=>J (z1H (f:=A.D.s) 3 (fun _=>rfl) 16 g1)<|e
 exact e
 subst ek1
 obtain⟨s1,rfl⟩:∃ y,y=sk1:=⟨_,rfl⟩
 refine bdE hr fun y2 hy2 hr=>J g<|J (CB' [] [] (q5b hy2))<|bdE hr fun s2 hqq2 hr=>q0a 5 [(3,.ref 1 none),(36,dB s2)] ?_ ?_
 replace hr:=hqq2
 refine ifE hr ?_ ?_<;>intro h2 hr
 exact e
 exact e
 refine bdE hr fun s3 hqq3 hr=>q0a 4 [(40,dB s3)] ?_ ?_
 replace hr:=hqq3
 refine ifE hr ?_ ?_<;>intro h3 hr
 refine bdE hr fun y3 hy3 hr=>J g<|J (CB' [] [1] (j1b (m:=.bo) hy3))<|e
 exact e
 exact e
theorem j6s {Rc2:Expr→Int→Option Int}(Ic2:∀ {m:Md} {a0:Expr} {a1:Int} {r:Int},Rc2 a0 a1=some r→Ok Tryz.prog 240 [Expr.x m a0,dI a1] [] (dI r) []){m:Md}{a0:Expr}{a1:Int}{r:Int}(hr:z5k Rc2 a0 a1=some r):Ok Tryz.prog 240 [Expr.x m a0,dI a1] [] (dI r) []:=by
 refine OE Tryz.func240 fun S hS=>?_
 unfold z5k at hr
 refine J g<|J (BX' 0)<|ggE hr fun g1 hr=>bdE hr fun s1 hqq1 hr=>J (gn 13)<|q0e 1 [(1,dI s1)] [] ?_ ?_
 refine J g<|q0g hqq1 1 (fun (s2,s3)=>[(1,dI s2),(2,.pb 0 0),(5,dI s3)]) (fun (s2,s3)=>[]) I fun sk1 ok1 hr hik1=>?_
 obtain⟨s2,s3⟩:=sk1
 have hr:=hr
 refine J (gn 8)<|ifE hr ?_ ?_<;>intro h1 hr
 refine J (gn 5)<|ifE hr ?_ ?_<;>intro h2 hr
 refine ggE hr fun g2 hr=>bdE hr fun x1 hx1 hr=>bdE hr fun y1 hy1 hr=>J g<|J (CB' [] [] (Ic2 (m:=m) hy1))<|ggE hr fun g3 hr=>e
 refine J (gn 2) ?_
 cases hr
 cases hik1 _ rfl
 exact q0d hS 1
 refine J (gn 7) ?_
 cases hr
 cases hik1 _ rfl
 exact q0d hS 1
 exact e
theorem j6t (n:Nat):∀ {m:Md} {a0:Expr} {a1:Int} {r:Int},z2j n a0 a1=some r→Ok Tryz.prog 240 [Expr.x m a0,dI a1] [] (dI r) []:=by
  induction n with
  | zero=>intro _ _ _ r hr;exact nomatch (show (none:Option Int)=some r from hr)
  | succ n ih=>intro _ _ _ r hr;exact j6s ih hr
theorem j8K {m:Md}{a0:Expr}{a1:Int}{r:Int}(hr:j0G a0 a1=some r):Ok Tryz.prog 240 [Expr.x m a0,dI a1] [] (dI r) []:=by
 obtain⟨n,hn⟩:=q5M hr
 exact j6t n hn
theorem z5L {a0:Int}{a1:Int}{r:Int}(hr:q9H a0 a1=some r):Ok Tryz.prog 67 [dI a0,dI a1] [] (dI r) []:=by
 refine OE Tryz.func67 fun S hS=>?_
 unfold q9H at hr
 refine J (gn 11)<|ifE hr ?_ ?_<;>intro h1 hr
 exact e
 exact e
theorem z9L {Rc3:Expr→Option Int}(Ic3:∀ {m:Md} {a0:Expr} {r:Int},Rc3 a0=some r→Ok Tryz.prog 241 [Expr.x m a0] [] (dI r) []){m:Md}{a0:Expr}{r:Int}(hr:q8O Rc3 a0=some r):Ok Tryz.prog 241 [Expr.x m a0] [] (dI r) []:=by
 refine OE Tryz.func241 fun S hS=>?_
 unfold q8O at hr
 refine J g<|J (BX' 0)<|J (gn 12)<|J (lenA 6 0)<|fun hl1=>bdE hr fun s1 hqq1 hr=>q0c hqq1 hl1 1 (fun k1 s1=>[(1,.pb 0 0),(3,dI s1),(4,dI (k1:Int))]) (fun k1 s1=>[]) I (fun k1 xk1 sk1 ok1 hxk1 hr hltk1=>?_) fun k1 hltk1=>?_
 obtain⟨s1,rfl⟩:∃ y,y=sk1:=⟨_,rfl⟩
 refine bdE hr fun y1 hy1 hr=>J g<|J (CB' [] [] (Ic3 (m:=m) hy1))<|bdE hr fun y2 hy2 hr=>J (CB' [] [] (z5L hy2))<|e
 refine ggE hr fun g1 hr=>e
theorem z9M (n:Nat):∀ {m:Md} {a0:Expr} {r:Int},q6l n a0=some r→Ok Tryz.prog 241 [Expr.x m a0] [] (dI r) []:=by
  induction n with
  | zero=>intro _ _ r hr;exact nomatch (show (none:Option Int)=some r from hr)
  | succ n ih=>intro _ _ r hr;exact z9L ih hr
theorem j1c {m:Md}{a0:Expr}{r:Int}(hr:z3t a0=some r):Ok Tryz.prog 241 [Expr.x m a0] [] (dI r) []:=by
 obtain⟨n,hn⟩:=q5M hr
 exact z9M n hn
theorem j8L {m:Md}{a0:Expr}{r:Bool}(hr:z5l a0=some r):Ok Tryz.prog 266 [Expr.x m a0] [] (dB r) []:=by
 refine OE Tryz.func266 fun S hS=>?_
 unfold z5l at hr
 refine J g<|J (BX' 0)<|bdE hr fun s1 hqq1 hr=>J (gn 12)<|q0e 1 [(1,.pb 0 0),(3,dI s1)] [] ?_ ?_
 replace hr:=hqq1
 refine J (gn 6)<|ifE hr ?_ ?_<;>intro h1 hr
 exact e
 refine J (gn 6)<|ifE hr ?_ ?_<;>intro h2 hr
 exact e
 refine J (gn 6)<|ifE hr ?_ ?_<;>intro h3 hr
 exact e
 exact e
 refine J (gn 9)<|ifE hr ?_ ?_<;>intro h4 hr
 refine bdE hr fun s2 hqq2 hr=>J (gn 7)<|q0a 5 [(1,.pb 0 0),(27,dB s2)] ?_ ?_
 replace hr:=hqq2
 refine ifE hr ?_ ?_<;>intro h5 hr
 exact e
 exact e
 refine bdE hr fun s3 hqq3 hr=>J (gn 7)<|q0a 5 [(1,.pb 0 0),(4,dB s2),(35,dB s3)] ?_ ?_
 replace hr:=hqq3
 refine ifE hr ?_ ?_<;>intro h6 hr
 exact e
 exact e
 refine bdE hr fun s4 hqq4 hr=>J (gn 7)<|q0a 5 [(1,.pb 0 0),(4,dB s2),(5,dB s3),(43,dB s4)] ?_ ?_
 replace hr:=hqq4
 refine ifE hr ?_ ?_<;>intro h7 hr
 exact e
 exact e
 refine bdE hr fun s5 hqq5 hr=>J (gn 5)<|q0a 5 [(1,.pb 0 0),(5,dB s3),(6,dB s4),(49,dB s5)] ?_ ?_
 replace hr:=hqq5
 refine ifE hr ?_ ?_<;>intro h8 hr
 exact e
 exact e
 refine bdE hr fun s6 hqq6 hr=>q0a 8 [(1,.pb 0 0),(6,dB s4),(57,dB s6)] ?_ ?_
 replace hr:=hqq6
 refine ifE hr ?_ ?_<;>intro h9 hr
 refine bdE hr fun s7 hqq7 hr=>J (gn 2)<|q0a 5 [(1,.pb 0 0),(6,dB s4),(50,dB true),(56,dB s7)] ?_ ?_
 replace hr:=hqq7
 refine ifE hr ?_ ?_<;>intro h10 hr
 exact e
 exact e
 exact e
 exact e
 refine bdE hr fun s8 hqq8 hr=>q0a 8 [(1,.pb 0 0),(65,dB s8)] ?_ ?_
 replace hr:=hqq8
 refine ifE hr ?_ ?_<;>intro h11 hr
 refine bdE hr fun s9 hqq9 hr=>J (gn 2)<|q0a 5 [(1,.pb 0 0),(58,dB true),(64,dB s9)] ?_ ?_
 replace hr:=hqq9
 refine ifE hr ?_ ?_<;>intro h12 hr
 exact e
 exact e
 exact e
 exact e
 refine bdE hr fun s10 hqq10 hr=>q0a 10 [(1,.pb 0 0),(75,dB s10)] ?_ ?_
 replace hr:=hqq10
 refine ifE hr ?_ ?_<;>intro h13 hr
 refine bdE hr fun s11 hqq11 hr=>J (gn 4)<|q0a 5 [(1,.pb 0 0),(66,dB true),(74,dB s11)] ?_ ?_
 replace hr:=hqq11
 refine ifE hr ?_ ?_<;>intro h14 hr
 exact e
 exact e
 exact e
 exact e
 refine bdE hr fun s12 hqq12 hr=>q0a 10 [(85,dB s12)] ?_ ?_
 replace hr:=hqq12
 refine ifE hr ?_ ?_<;>intro h15 hr
 refine bdE hr fun s13 hqq13 hr=>J (gn 4)<|q0a 5 [(76,dB true),(84,dB s13)] ?_ ?_
 replace hr:=hqq13
 refine ifE hr ?_ ?_<;>intro h16 hr
 exact e
 exact e
 exact e
 exact e
 exact e
 exact e
theorem k0q {a0:Int}{a1:Int}{r:Int}(hr:z7G a0 a1=some r):Ok Tryz.prog 275 [dI a0,dI a1] [] (dI r) []:=by
 refine OE Tryz.func275 fun S hS=>?_
 unfold z7G at hr
 refine J (gn 11)<|ifE hr ?_ ?_<;>intro h1 hr
 exact e
 exact e
theorem j5b {a0:Int}{r:Int}(hr:z2l a0=some r):Ok Tryz.prog 273 [dI a0] [] (dI r) []:=by
 refine OE Tryz.func273 fun S hS=>?_
 unfold z2l at hr
 refine bdE hr fun y1 hy1 hr=>J g<|J (CB' [] [] (k0q hy1))<|bdE hr fun y2 hy2 hr=>J (CB' [] [] (z5L hy2))<|e
theorem j6u {a0:Bool}{r:Int}(hr:z3O a0=some r):Ok Tryz.prog 274 [dB a0] [] (dI r) []:=by
 refine OE Tryz.func274 fun S hS=>?_
 unfold z3O at hr
 refine J (gn 9)<|ifE hr ?_ ?_<;>intro h1 hr
 exact e
 exact e
theorem j8M {a0:Int}{a1:Int}{r:Int}(hr:z5m a0 a1=some r):Ok Tryz.prog 270 [dI a0,dI a1] [] (dI r) []:=by
 refine OE Tryz.func270 fun S hS=>?_
 unfold z5m at hr
 refine J (gn 15)<|ifE hr ?_ ?_<;>intro h1 hr
 refine bdE hr fun y1 hy1 hr=>J g<|J (CB' [] [] (j5b hy1))<|e
 refine J (gn 6)<|ifE hr ?_ ?_<;>intro h2 hr
 refine J g<|J (OB' _ k6s)<|e
 refine J (gn 6)<|ifE hr ?_ ?_<;>intro h3 hr
 refine bdE hr fun y2 hy2 hr=>J g<|J (CB' [] [] (j6u hy2))<|e
 refine J (gn 6)<|ifE hr ?_ ?_<;>intro h4 hr
 refine bdE hr fun y3 hy3 hr=>J g<|J (CB' [] [] (q5p hy3))<|J (gn 1)<|ifE hr ?_ ?_<;>intro h5 hr
 exact e
 exact e
 exact e
theorem j5c {a0:Int}{a1:Int}{r:Bool}(hr:z2m a0 a1=some r):Ok Tryz.prog 267 [dI a0,dI a1] [] (dB r) []:=by
 refine OE Tryz.func267 fun S hS=>?_
 unfold z2m at hr
 refine bdE hr fun y1 hy1 hr=>J g<|J (CB' [] [] (q5p hy1))<|ifE hr ?_ ?_<;>intro h1 hr
 refine bdE hr fun y2 hy2 hr=>J g<|J (CB' [] [] (j8M hy2))<|e
 exact e
theorem j8N {m:Md}{a0:Expr}{r:Bool}(hr:z5n a0=some r):Ok Tryz.prog 258 [Expr.x m a0] [] (dB r) []:=by
 refine OE Tryz.func258 fun S hS=>?_
 unfold z5n at hr
 refine J g<|J (BX' 0)<|bdE hr fun y1 hy1 hr=>J g<|J (CB' [] [] (q5p hy1))<|bdE hr fun s1 hqq1 hr=>J (gn 1)<|q0a 5 [(1,.pb 0 0),(11,dB s1)] ?_ ?_
 replace hr:=hqq1
 refine ifE hr ?_ ?_<;>intro h1 hr
 refine bdE hr fun y2 hy2 hr=>J g<|J (CB' [] [] (j8L (m:=m) hy2))<|e
 exact e
 refine J (gn 1)<|ifE hr ?_ ?_<;>intro h2 hr
 exact e
 refine J (gn 14)<|ifE hr ?_ ?_<;>intro h3 hr
 refine bdE hr fun y3 hy3 hr=>J g<|J (CB' [] [] (q5p hy3))<|bdE hr fun s2 hqq2 hr=>q0a 7 [(1,.pb 0 0),(25,dB s2)] ?_ ?_
 replace hr:=hqq2
 refine ifE hr ?_ ?_<;>intro h4 hr
 refine bdE hr fun y4 hy4 hr=>J g<|J (CB' [] [] (j5c hy4))<|e
 exact e
 refine bdE hr fun s3 hqq3 hr=>q0a 5 [(30,dB s3)] ?_ ?_
 replace hr:=hqq3
 refine ifE hr ?_ ?_<;>intro h5 hr
 exact e
 exact e
 exact e
 refine J (gn 6)<|ifE hr ?_ ?_<;>intro h6 hr
 refine bdE hr fun y5 hy5 hr=>J g<|J (CB' [] [] (q5p hy5))<|bdE hr fun s4 hqq4 hr=>q0a 5 [(40,dB s4)] ?_ ?_
 replace hr:=hqq4
 refine ifE hr ?_ ?_<;>intro h7 hr
 refine bdE hr fun y6 hy6 hr=>J g<|J (CB' [] [] (q5b hy6))<|e
 exact e
 exact e
 refine J (gn 6)<|ifE hr ?_ ?_<;>intro h8 hr
 refine bdE hr fun y7 hy7 hr=>J g<|J (CB' [] [] (q5p hy7))<|e
 refine J (gn 6)<|ifE hr ?_ ?_<;>intro h9 hr
 refine bdE hr fun y8 hy8 hr=>J g<|J (CB' [] [] (q5p hy8))<|e
 refine J (gn 6)<|ifE hr ?_ ?_<;>intro h10 hr
 refine bdE hr fun y9 hy9 hr=>J g<|J (CB' [] [] (q5b hy9))<|bdE hr fun s5 hqq5 hr=>q0a 5 [(60,dB s5)] ?_ ?_
 replace hr:=hqq5
 refine ifE hr ?_ ?_<;>intro h11 hr
 refine bdE hr fun y10 hy10 hr=>J g<|J (CB' [] [] (q5b hy10))<|e
 exact e
 exact e
 exact e
theorem j8O {Rc4:Expr→Option Bool}(Ic4:∀ {m:Md} {a0:Expr} {r:Bool},Rc4 a0=some r→Ok Tryz.prog 242 [Expr.x m a0] [] (dB r) []){m:Md}{a0:Expr}{r:Bool}(hr:z7H Rc4 a0=some r):Ok Tryz.prog 242 [Expr.x m a0] [] (dB r) []:=by
 refine OE Tryz.func242 fun S hS=>?_
 unfold z7H at hr
 refine J g<|J (BX' 0)<|J (gn 8)<|J (lenA 6 0)<|fun hl1=>bdE hr fun q1 hqq1 hr=>q0b hqq1 hl1 1 (fun k1 _=>[(1,.pb 0 0),(3,dI (k1:Int))]) (fun k1 _=>[]) I (fun k1 xk1 sk1 ok1 hxk1 hr hltk1 hik1=>?_) fun k1 sk1 ek1 hltk1=>?_
 refine bdE hr fun y1 hy1 hr=>J g<|J (CB' [] [] (Ic4 (m:=m) hy1))<|J (gn 2)<|ifE hr ?_ ?_<;>intro h1 hr
 exact e
 exact e
 subst ek1
 refine bdE hr fun y2 hy2 hr=>J g<|J (CB' [] [] (j8N (m:=m) hy2))<|e
theorem j8P (n:Nat):∀ {m:Md} {a0:Expr} {r:Bool},z7I n a0=some r→Ok Tryz.prog 242 [Expr.x m a0] [] (dB r) []:=by
  induction n with
  | zero=>intro _ _ r hr;exact nomatch (show (none:Option Bool)=some r from hr)
  | succ n ih=>intro _ _ r hr;exact j8O ih hr
theorem k0r {m:Md}{a0:Expr}{r:Bool}(hr:j3p a0=some r):Ok Tryz.prog 242 [Expr.x m a0] [] (dB r) []:=by
 obtain⟨n,hn⟩:=q5M hr
 exact j8P n hn
theorem j1d {m:Md}{a0:Expr}{r:Bool}(hr:q8P a0=some r):Ok Tryz.prog 223 [Expr.x m a0] [] (dB r) []:=by
 refine OE Tryz.func223 fun S hS=>?_
 unfold q8P at hr
 refine J g<|J (BX' 0)<|bdE hr fun y1 hy1 hr=>J g<|J (CB' [] [] (j8K (m:=m) hy1))<|bdE hr fun s1 hqq1 hr=>J (gn 1)<|q0a 5 [(1,.pb 0 0),(2,dB false),(10,dB s1)] ?_ ?_
 replace hr:=hqq1
 refine ifE hr ?_ ?_<;>intro h1 hr
 refine bdE hr fun y2 hy2 hr=>J g<|J (CB' [] [] (j1c (m:=m) hy2))<|e
 exact e
 refine bdE hr fun s2 hqq2 hr=>q0a 4 [(2,dB false),(14,dB s2)] ?_ ?_
 replace hr:=hqq2
 refine ifE hr ?_ ?_<;>intro h2 hr
 refine bdE hr fun y3 hy3 hr=>J g<|J (CB' [] [] (k0r (m:=m) hy3))<|e
 exact e
 exact e
theorem j3z {Rc5:Expr→Int→Option Bool}(Ic5:∀ {m:Md} {a0:Expr} {a1:Int} {r:Bool},Rc5 a0 a1=some r→Ok Tryz.prog 224 [Expr.x m a0,dI a1] [] (dB r) []){m:Md}{a0:Expr}{a1:Int}{r:Bool}(hr:z2n Rc5 a0 a1=some r):Ok Tryz.prog 224 [Expr.x m a0,dI a1] [] (dB r) []:=by
 refine OE Tryz.func224 fun S hS=>?_
 unfold z2n at hr
 refine J g<|J (BX' 0)<|J (gn 8)<|J (lenA 6 0)<|fun hl1=>bdE hr fun q1 hqq1 hr=>q0b hqq1 hl1 1 (fun k1 _=>[(1,dI a1),(2,.pb 0 0),(5,dI (k1:Int))]) (fun k1 _=>[]) I (fun k1 xk1 sk1 ok1 hxk1 hr hltk1 hik1=>?_) fun k1 sk1 ek1 hltk1=>?_
 refine bdE hr fun y1 hy1 hr=>J g<|J (CB' [] [] (Ic5 (m:=m) hy1))<|J (gn 2)<|ifE hr ?_ ?_<;>intro h1 hr
 exact e
 exact e
 subst ek1
 exact e
theorem j3A (n:Nat):∀ {m:Md} {a0:Expr} {a1:Int} {r:Bool},z2o n a0 a1=some r→Ok Tryz.prog 224 [Expr.x m a0,dI a1] [] (dB r) []:=by
  induction n with
  | zero=>intro _ _ _ r hr;exact nomatch (show (none:Option Bool)=some r from hr)
  | succ n ih=>intro _ _ _ r hr;exact j3z ih hr
theorem j5d {m:Md}{a0:Expr}{a1:Int}{r:Bool}(hr:z6N a0 a1=some r):Ok Tryz.prog 224 [Expr.x m a0,dI a1] [] (dB r) []:=by
 obtain⟨n,hn⟩:=q5M hr
 exact j3A n hn
theorem z8J {m:Md}{a0:Expr}{a1:Int}{r:Bool}(hr:z2p a0 a1=some r):Ok Tryz.prog 196 [Expr.x m a0,dI a1] [] (dB r) []:=by
 refine OE Tryz.func196 fun S hS=>?_
 unfold z2p at hr
 refine J g<|J (BX' 0)<|bdE hr fun y1 hy1 hr=>J g<|J (CB' [] [] (j1d (m:=m) hy1))<|ifE hr ?_ ?_<;>intro h1 hr
 refine bdE hr fun y2 hy2 hr=>J g<|J (CB' [] [] (j5d (m:=m) hy2))<|e
 exact e
theorem j1e {m:Md}{a0:Rule}{r:Bool}(hr:q8Q a0=some r):Ok Tryz.prog 150 [Rule.x m a0] [] (dB r) []:=by
 refine OE Tryz.func150 fun S hS=>?_
 unfold q8Q at hr
 refine J g<|J (BX' 0)<|bdE hr fun y1 hy1 hr=>J g<|J (CB' [] [] (q5b hy1))<|bdE hr fun s1 hqq1 hr=>J (gn 1)<|q0a 6 [(1,.pb 0 0),(3,dI (a0.rt_.length:Int)),(21,dB s1)] ?_ ?_
 replace hr:=hqq1
 refine ifE hr ?_ ?_<;>intro h1 hr
 refine bdE hr fun y2 hy2 hr=>J g<|J (CB' [] [] (q5b hy2))<|e
 exact e
 refine bdE hr fun s2 hqq2 hr=>q0a 4 [(1,.pb 0 0),(3,dI (a0.rt_.length:Int)),(25,dB s2)] ?_ ?_
 replace hr:=hqq2
 refine ifE hr ?_ ?_<;>intro h2 hr
 exact e
 exact e
 refine bdE hr fun s3 hqq3 hr=>q0a 6 [(1,.pb 0 0),(3,dI (a0.rt_.length:Int)),(31,dB s3)] ?_ ?_
 replace hr:=hqq3
 refine ifE hr ?_ ?_<;>intro h3 hr
 exact e
 exact e
 refine J (gn 1)<|ifE hr ?_ ?_<;>intro h4 hr
 exact e
 refine J (gn 8) ?_
 refine AW.len (.box 0 2 rfl rfl) fun hl1=>?_
 refine bdE hr fun q4 hqq4 hr=>q0b hqq4 hl1 1 (fun k1 _=>[(1,.pb 0 0),(3,dI (a0.rt_.length:Int)),(4,dI (k1:Int))]) (fun k1 _=>[]) I (fun k1 xk1 sk1 ok1 hxk1 hr hltk1 hik1=>?_) fun k1 sk1 ek1 hltk1=>?_
 refine bdE hr fun y3 hy3 hr=>J g<|J (CB' [] [] (q5b hy3))<|J (gn 2)<|ifE hr ?_ ?_<;>intro h5 hr
 exact e
 exact e
 subst ek1
 refine J (gn 15) ?_
 refine AW.len (.box 0 4 rfl rfl) fun hl2=>?_
 refine bdE hr fun q5 hqq5 hr=>q0b hqq5 hl2 1 (fun k2 _=>[(1,.pb 0 0),(3,dI (a0.rt_.length:Int)),(5,dI (k2:Int))]) (fun k2 _=>[]) I (fun k2 xk2 sk2 ok2 hxk2 hr hltk2 hik2=>?_) fun k2 sk2 ek2 hltk2=>?_
 refine J g<|J (NV' 1)<|bdE hr fun y4 hy4 hr=>J g<|J (CB' [] [] (q5b hy4))<|bdE hr fun s4 hqq6 hr=>J (gn 1)<|q0a 8 [(1,.pb 0 0),(3,dI (a0.rt_.length:Int)),(5,dI (k2:Int)),(6,.pb 1 0),(68,dB s4)] ?_ ?_
 replace hr:=hqq6
 refine ifE hr ?_ ?_<;>intro h6 hr
 refine bdE hr fun y5 hy5 hr=>J g<|J (CB' [] [] (q5p hy5))<|e
 exact e
 refine bdE hr fun s5 hqq7 hr=>q0a 7 [(1,.pb 0 0),(3,dI (a0.rt_.length:Int)),(5,dI (k2:Int)),(75,dB s5)] ?_ ?_
 replace hr:=hqq7
 refine ifE hr ?_ ?_<;>intro h7 hr
 exact e
 refine bdE hr fun y6 hy6 hr=>J g<|J (CB' [] [] (z8J (m:=m) hy6))<|e
 refine J (gn 1)<|ifE hr ?_ ?_<;>intro h8 hr
 exact e
 exact e
 subst ek2
 refine J (gn 17) ?_
 refine AW.len (.box 0 5 rfl rfl) fun hl3=>?_
 refine bdE hr fun q8 hqq8 hr=>q0b hqq8 hl3 1 (fun k3 _=>[(1,.pb 0 0),(3,dI (a0.rt_.length:Int)),(7,dI (k3:Int))]) (fun k3 _=>[]) I (fun k3 xk3 sk3 ok3 hxk3 hr hltk3 hik3=>?_) fun k3 sk3 ek3 hltk3=>?_
 refine J g<|J (NV' 1)<|bdE hr fun y7 hy7 hr=>J g<|J (CB' [] [] (q5b hy7))<|bdE hr fun s6 hqq9 hr=>J (gn 1)<|q0a 6 [(1,.pb 0 0),(3,dI (a0.rt_.length:Int)),(7,dI (k3:Int)),(8,.pb 1 0),(97,dB s6)] ?_ ?_
 replace hr:=hqq9
 refine ifE hr ?_ ?_<;>intro h9 hr
 refine bdE hr fun y8 hy8 hr=>J g<|J (CB' [] [] (q5b hy8))<|e
 exact e
 refine bdE hr fun s7 hqq10 hr=>q0a 7 [(1,.pb 0 0),(3,dI (a0.rt_.length:Int)),(7,dI (k3:Int)),(8,.pb 1 0),(104,dB s7)] ?_ ?_
 replace hr:=hqq10
 refine ifE hr ?_ ?_<;>intro h10 hr
 exact e
 refine bdE hr fun y9 hy9 hr=>J g<|J (CB' [] [] (z8J (m:=m) hy9))<|e
 refine bdE hr fun s8 hqq11 hr=>q0a 7 [(1,.pb 0 0),(3,dI (a0.rt_.length:Int)),(7,dI (k3:Int)),(111,dB s8)] ?_ ?_
 replace hr:=hqq11
 refine ifE hr ?_ ?_<;>intro h11 hr
 exact e
 refine bdE hr fun y10 hy10 hr=>J g<|J (CB' [] [] (z8J (m:=m) hy10))<|e
 refine J (gn 1)<|ifE hr ?_ ?_<;>intro h12 hr
 exact e
 exact e
 subst ek3
 exact e
theorem j8Q {m:Md}{a0:Gm_}{r:Int}(hr:z5r a0=some r):Ok Tryz.prog 107 [Gm_.x m a0] [] (dI r) []:=by
 refine OE Tryz.func107 fun S hS=>?_
 unfold z5r at hr
 refine J g<|J (BX' 0)<|J g<|J (L0' 1 A.D.s)<|J (gn 8)<|J (lenA 0 0)<|fun hl1=>bdE hr fun q1 hqq1 hr=>q0b hqq1 hl1 2 (fun k1 s1=>[(1,.pb 0 0),(3,.ref 1 none),(4,dI (k1:Int))]) (fun k1 s1=>[(1,.row .fz 1 (s1.map A.D.s))]) I (fun k1 xk1 sk1 ok1 hxk1 hr hltk1 hik1=>?_) fun k1 sk1 ek1 hltk1=>?_
 obtain⟨s1,rfl⟩:∃ y,y=sk1:=⟨_,rfl⟩
 refine bdE hr fun y1 hy1 hr=>J g<|J (CB' [] [] (z8I (m:=m) hy1))<|J (gn 1)<|ifE hr ?_ ?_<;>intro h1 hr
 refine bdE hr fun y2 hy2 hr=>J g<|J (CB' [] [1] (z8a (m:=.bo) hy2))<|J (gn 2)<|ifE hr ?_ ?_<;>intro h2 hr
 exact e
 refine J g<|J (LIR' 2 (m:=.fz) (f:=A.D.s) (xs:=[xk1.Name]))<|ggE hr fun g1 hr=>J (z1H (f:=A.D.s) 3 (fun _=>rfl) 16 g1)<|e
 exact e
 subst ek1
 obtain⟨s1,rfl⟩:∃ y,y=sk1:=⟨_,rfl⟩
 refine J g<|J (L0' 2 A.D.s)<|J (gn 8) ?_
 refine AW.len (.box 0 1 rfl rfl) fun hl2=>?_
 refine bdE hr fun q2 hqq2 hr=>q0b hqq2 hl2 3 (fun k2 s2=>[(1,.pb 0 0),(3,.ref 2 none),(5,dI (k2:Int))]) (fun k2 s2=>[(2,.row .fz 1 (s2.map A.D.s))]) I (fun k2 xk2 sk2 ok2 hxk2 hr hltk2 hik2=>?_) fun k2 sk2 ek2 hltk2=>?_
 obtain⟨s2,rfl⟩:∃ y,y=sk2:=⟨_,rfl⟩
 refine bdE hr fun y3 hy3 hr=>J g<|J (CB' [] [] (j1e (m:=m) hy3))<|J (gn 1)<|ifE hr ?_ ?_<;>intro h3 hr
 refine bdE hr fun y4 hy4 hr=>J g<|J (CB' [] [2] (z8a (m:=.bo) hy4))<|J (gn 2)<|ifE hr ?_ ?_<;>intro h4 hr
 exact e
 refine J g<|J (LIR' 3 (m:=.fz) (f:=A.D.s) (xs:=[xk2.Name]))<|ggE hr fun g2 hr=>J (z1H (f:=A.D.s) 4 (fun _=>rfl) 16 g2)<|e
 exact e
 subst ek2
 obtain⟨s2,rfl⟩:∃ y,y=sk2:=⟨_,rfl⟩
 exact e
theorem q9v {m:Md}{a0:Rule}{a1:Int}{r:BA_}(hr:q5A a0 a1=some r):Ok Tryz.prog 111 [Rule.x m a0,dI a1] [] (dS r) []:=by
 refine OE Tryz.func111 fun S hS=>?_
 unfold q5A at hr
 refine J g<|J (BX' 0)<|J (gn 8)<|ifE hr ?_ ?_<;>intro h1 hr
 exact e
 refine bdE hr fun y1 hy1 hr=>J g<|J (CB' [] [] (q5p hy1))<|J (gn 2)<|ifE hr ?_ ?_<;>intro h2 hr
 refine ggE hr fun g1 hr=>ggE hr fun g2 hr=>bdE hr fun x1 hx1 hr=>e
 exact e
theorem j3B {m:Md}{a0:Symbol}{r:Symbol}(hr:q8h a0=some r):Ok Tryz.prog 157 [Symbol.x m a0] [] (.ag [dS r.Name,.ref 0 none]) [.row .fz 4 (r.as_.map At_.D)]:=by
 refine OE Tryz.func157 fun S hS=>?_
 unfold q8h at hr
 refine J g<|J (BX' 0)<|J (NV' 1)<|J g<|J (L0' 2 At_.D)<|ggE hr fun g1 hr=>J g<|J (j4P (f:=At_.D) 3 40 (fun _=>rfl) g1)<|e
theorem q7O {m:Md}{a0:Gm_}{a1:BA_}{r:(Symbol×Bool)}(hr:q5l a0 a1=some r):Ok Tryz.prog 112 [Gm_.y m a0,dS a1] [] (.tu [.ag [dS r.1.Name,.ref 0 none],dB r.2]) [.row .fz 4 (r.1.as_.map At_.D)]:=by
 refine OE Tryz.func112 fun S hS=>?_
 unfold q5l at hr
 refine J g<|J (BX' 0)<|J (NV' 1)<|J (gn 8)<|J (lenA 0 0)<|fun hl1=>bdE hr fun q1 hqq1 hr=>q0b hqq1 hl1 2 (fun k1 _=>[(1,dS a1),(2,.pb 0 0),(4,.pb 1 0),(6,dI (k1:Int))]) (fun k1 _=>[]) I (fun k1 xk1 sk1 ok1 hxk1 hr hltk1 hik1=>?_) fun k1 sk1 ek1 hltk1=>?_
 refine J (gn 24)<|ifE hr ?_ ?_<;>intro h1 hr
 refine bdE hr fun y1 hy1 hr=>J g<|J (CB' [(0,2)] [] (j3B (m:=m) hy1))<|e
 exact e
 subst ek1
 refine J (gn 18) ?_
 refine J (q0h (q0o (q:=1) (c:=1) (r:=2) .fz 4 rfl rfl rfl))<|J g<|E
theorem j2b {m:Md}{a0:Gm_}{a1:Rule}{r:Bool}(hr:q9I a0 a1=some r):Ok Tryz.prog 151 [Gm_.y m a0,Rule.x m a1] [] (dB r) []:=by
 refine OE Tryz.func151 fun S hS=>?_
 unfold q9I at hr
 refine J g<|J (BX' 0)<|J (BX' 1)<|bdE hr fun q1 hqq1 hr=>J (gn 7)<|AW.cut 2 (fun _=>[]) (fun _=>[]) (M:=fun x=>q1=.inl x) ?_ fun x hx=>?_
 refine J g<|q0g hqq1 2 (fun s1=>[(2,.pb 0 0),(3,.pb 1 0),(5,dI s1)]) (fun s1=>[]) I fun sk1 ok1 hr hik1=>?_
 obtain⟨s1,rfl⟩:∃ y,y=sk1:=⟨_,rfl⟩
 have hr:=hr
 refine J (gn 9)<|ifE hr ?_ ?_<;>intro h1 hr
 refine bdE hr fun y1 hy1 hr=>J g<|J (CB' [] [] (q9v (m:=m) hy1))<|bdP hr fun y2 y3 hq2 hr=>J (CB' [(0,2)] [] (q7O (m:=m) hq2))<|J g<|J (NV' 3)<|J (gn 8)<|ifE hr ?_ ?_<;>intro h2 hr
 refine ggE hr fun g1 hr=>e
 exact e
 refine J (gn 2) ?_
 cases hr
 cases hik1 _ rfl
 exact⟨_,rfl,GH.trans (q1z (q:=0) [.d m (.sl 2 (a0.ss_.map Symbol.D)),.u] (.cons .rfl (.cons .u .nil)) rfl) (q0d hS 2)⟩
 subst hx
 exact e
theorem z0l {m:Md}{a0:Gm_}{a1:Rule}{r:(List Oc)}(hr:q5i a0 a1=some r):Ok Tryz.prog 197 [Gm_.y m a0,Rule.x m a1] [] (.ref 0 none) [.row .fz 2 (r.map Oc.D)]:=by
 refine OE Tryz.func197 fun S hS=>?_
 unfold q5i at hr
 refine J g<|J (BX' 0)<|J (BX' 1)<|J g<|J (L0' 2 Oc.D)<|bdE hr fun s1 hqq1 hr=>J (gn 7)<|q0e 3 [(5,.ref 2 none)] [(2,.row .fz 2 (s1.map Oc.D))] ?_ ?_
 refine J g<|q0g hqq1 3 (fun (s2,s3)=>[(2,.pb 0 0),(3,.pb 1 0),(5,.ref 2 none),(6,dI s3)]) (fun (s2,s3)=>[(2,.row .fz 2 (s2.map Oc.D))]) I fun sk1 ok1 hr hik1=>?_
 obtain⟨s2,s3⟩:=sk1
 have hr:=hr
 refine J (gn 9)<|ifE hr ?_ ?_<;>intro h1 hr
 refine bdE hr fun s4 hqq2 hr=>J (gn 3)<|q0e 3 [(2,.pb 0 0),(3,.pb 1 0),(5,.ref 2 none),(6,dI s3)] [(2,.row .fz 2 (s4.map Oc.D))] ?_ ?_
 replace hr:=hqq2
 refine bdE hr fun y1 hy1 hr=>J g<|J (CB' [] [] (q9v (m:=m) hy1))<|bdP hr fun y2 y3 hq3 hr=>J (CB' [(0,3)] [] (q7O (m:=m) hq3))<|J g<|J (NV' 4)<|J (gn 13)<|ifE hr ?_ ?_<;>intro h2 hr
 refine J (gn 9)<|J (lenR 3)<|fun hl2=>bdE hr fun s5 hqq4 hr=>q0c hqq4 hl2 5 (fun k2 s5=>[(2,.pb 0 0),(3,.pb 1 0),(5,.ref 2 none),(6,dI s3),(7,.pb 4 0),(9,dI 2),(10,dI (k2:Int))]) (fun k2 s5=>[(2,.row .fz 2 (s5.map Oc.D))]) I (fun k2 xk2 sk2 ok2 hxk2 hr hltk2=>?_) fun k2 hltk2=>?_
 obtain⟨s5,rfl⟩:∃ y,y=sk2:=⟨_,rfl⟩
 refine bdE hr fun s6 hqq5 hr=>J (gn 12)<|q0e 5 [(2,.pb 0 0),(3,.pb 1 0),(5,.ref 2 none),(6,dI s3),(7,.pb 4 0),(9,dI 2),(10,dI (k2:Int))] [(2,.row .fz 2 (s6.map Oc.D))] ?_ ?_
 replace hr:=hqq5
 refine J (gn 12)<|ifE hr ?_ ?_<;>intro h3 hr
 refine J g<|J (LIR' 5 (m:=.fz) (f:=Oc.D) (xs:=[(⟨s3,xk2.Name⟩:Oc)]))<|ggE hr fun g1 hr=>J (z1H (f:=Oc.D) 6 (fun _=>rfl) 24 g1)<|e
 exact e
 exact e
 exact e
 refine J (gn 7)<|J (lenR 3)<|fun hl3=>bdE hr fun s7 hqq6 hr=>q0c hqq6 hl3 5 (fun k3 s7=>[(2,.pb 0 0),(3,.pb 1 0),(5,.ref 2 none),(6,dI s3),(7,.pb 4 0),(9,dI 1),(10,dI (k3:Int))]) (fun k3 s7=>[(2,.row .fz 2 (s7.map Oc.D))]) I (fun k3 xk3 sk3 ok3 hxk3 hr hltk3=>?_) fun k3 hltk3=>?_
 obtain⟨s7,rfl⟩:∃ y,y=sk3:=⟨_,rfl⟩
 refine bdE hr fun s8 hqq7 hr=>J (gn 12)<|q0e 5 [(2,.pb 0 0),(3,.pb 1 0),(5,.ref 2 none),(6,dI s3),(7,.pb 4 0),(9,dI 1),(10,dI (k3:Int))] [(2,.row .fz 2 (s8.map Oc.D))] ?_ ?_
 replace hr:=hqq7
 refine J (gn 12)<|ifE hr ?_ ?_<;>intro h4 hr
 refine J g<|J (LIR' 5 (m:=.fz) (f:=Oc.D) (xs:=[(⟨s3,xk3.Name⟩:Oc)]))<|ggE hr fun g2 hr=>J (z1H (f:=Oc.D) 6 (fun _=>rfl) 24 g2)<|e
 exact e
 exact e
 exact e
 refine ggE hr fun g3 hr=>e
 refine J (gn 2) ?_
 cases hr
 cases hik1 _ rfl
 exact GH.trans (q1z (q:=0) [.d m (.sl 2 (a0.ss_.map Symbol.D)),.u] (.cons .rfl (.cons .u .nil)) rfl) (q0d hS 3)
 exact e
theorem j6v {Rc6:Expr→Option Expr}(Ic6:∀ {m:Md} {a0:Expr} {r:Expr},Rc6 a0=some r→Ok Tryz.prog 159 [Expr.x m a0] [] (.ag [dI r.Kind,dI r.N,dI r.Pos,dI r.t__,dS r.Symbol,dS r.Name,.ref 0 none]) [.row .fz 7 (r.Args.map Expr.D)]){m:Md}{a0:Expr}{r:Expr}(hr:q9J Rc6 a0=some r):Ok Tryz.prog 159 [Expr.x m a0] [] (.ag [dI r.Kind,dI r.N,dI r.Pos,dI r.t__,dS r.Symbol,dS r.Name,.ref 0 none]) [.row .fz 7 (r.Args.map Expr.D)]:=by
 refine OE Tryz.func159 fun S hS=>?_
 unfold q9J at hr
 refine J g<|J (BX' 0)<|J (NV' 1)<|J g<|J (L0' 2 Expr.D)<|J (gn 8)<|J (lenA 6 0)<|fun hl1=>bdE hr fun s1 hqq1 hr=>q0c hqq1 hl1 3 (fun k1 s1=>[(1,.pb 0 0),(2,.pb 1 0),(3,.ref 2 none),(4,dI (k1:Int))]) (fun k1 s1=>[(2,.row .fz 7 (s1.map Expr.D))]) I (fun k1 xk1 sk1 ok1 hxk1 hr hltk1=>?_) fun k1 hltk1=>?_
 obtain⟨s1,rfl⟩:∃ y,y=sk1:=⟨_,rfl⟩
 refine bdE hr fun y1 hy1 hr=>J g<|J (CB' [(0,3)] [] (Ic6 (m:=m) hy1)) ?_
 refine J (q0x 3 rfl) ?_
 refine J (k6y 4 (m:=.fz) (f:=Expr.D) [y1] (by simp only[List.map_cons,List.map_nil,Expr.D_eq];rfl))<|ggE hr fun g1 hr=>J (AP1' 5 .fz 88 g1)<|J g<|E
 exact e
theorem j6w (n:Nat):∀ {m:Md} {a0:Expr} {r:Expr},q6v n a0=some r→Ok Tryz.prog 159 [Expr.x m a0] [] (.ag [dI r.Kind,dI r.N,dI r.Pos,dI r.t__,dS r.Symbol,dS r.Name,.ref 0 none]) [.row .fz 7 (r.Args.map Expr.D)]:=by
  induction n with
  | zero=>intro _ _ r hr;exact nomatch (show (none:Option Expr)=some r from hr)
  | succ n ih=>intro _ _ r hr;exact j6v ih hr
theorem j8R {m:Md}{a0:Expr}{r:Expr}(hr:z7J a0=some r):Ok Tryz.prog 159 [Expr.x m a0] [] (.ag [dI r.Kind,dI r.N,dI r.Pos,dI r.t__,dS r.Symbol,dS r.Name,.ref 0 none]) [.row .fz 7 (r.Args.map Expr.D)]:=by
 obtain⟨n,hn⟩:=q5M hr
 exact j6w n hn
theorem z4W {m:Md}{a0:Rule}{a1:Oc}{r:(Expr×Bool)}(hr:q5j a0 a1=some r):Ok Tryz.prog 116 [Rule.x m a0,Oc.x .fz a1] [] (.tu [.ag [dI r.1.Kind,dI r.1.N,dI r.1.Pos,dI r.1.t__,dS r.1.Symbol,dS r.1.Name,.ref 0 none],dB r.2]) [.row .fz 7 (r.1.Args.map Expr.D)]:=by
 refine OE Tryz.func116 fun S hS=>?_
 unfold q5j at hr
 refine J g<|J (BX' 0)<|J (BX' 1)<|J (NV' 2)<|J (gn 8)<|J (lenA 4 0)<|fun hl1=>bdE hr fun q1 hqq1 hr=>q0b hqq1 hl1 3 (fun k1 _=>[(2,.pb 0 0),(3,.pb 1 0),(4,.pb 2 0),(6,dI (k1:Int))]) (fun k1 _=>[]) I (fun k1 xk1 sk1 ok1 hxk1 hr hltk1 hik1=>?_) fun k1 sk1 ek1 hltk1=>?_
 refine J g ?_
 refine J (SQ' rfl rfl rfl rfl (q5z xk1.At a1))<|J (gn 1)<|ifE hr ?_ ?_<;>intro h1 hr
 refine bdE hr fun y1 hy1 hr=>J g<|J (CB' [(0,3)] [] (j8R (m:=m) hy1))<|e
 exact e
 subst ek1
 refine J (gn 18) ?_
 refine J (q0h (q0o (q:=2) (c:=6) (r:=3) .fz 7 rfl rfl rfl))<|J g<|E
theorem j2c {m:Md}{a0:Gm_}{a1:Rule}{r:Bool}(hr:q9K a0 a1=some r):Ok Tryz.prog 152 [Gm_.y m a0,Rule.x m a1] [] (dB r) []:=by
 refine OE Tryz.func152 fun S hS=>?_
 unfold q9K at hr
 refine J g<|J (BX' 0)<|J (BX' 1)<|bdE hr fun y1 hy1 hr=>J g<|J (CB' [(0,2)] [] (z0l (m:=m) hy1))<|J (gn 8)<|J (lenR 2)<|fun hl1=>bdE hr fun q1 hqq1 hr=>q0b hqq1 hl1 3 (fun k1 _=>[(3,.pb 1 0),(5,.ref 2 none),(6,dI (k1:Int))]) (fun k1 _=>[]) I (fun k1 xk1 sk1 ok1 hxk1 hr hltk1 hik1=>?_) fun k1 sk1 ek1 hltk1=>?_
 refine bdP hr fun y2 y3 hq2 hr=>J g<|J (CB' [(0,3)] [] (z4W (m:=m) hq2))<|J g<|J (NV' 4)<|J (gn 8)<|ifE hr ?_ ?_<;>intro h1 hr
 exact e
 exact e
 subst ek1
 exact e
theorem z9s {m:Md}{a0:(List Oc)}{a1:Oc}{r:Bool}(hr:z0v a0 a1=some r):Ok Tryz.prog 198 [.d m (.sl 2 (a0.map Oc.D)),Oc.x .fz a1] [] (dB r) []:=by
 refine OE Tryz.func198 fun S hS=>?_
 unfold z0v at hr
 refine J g<|J (BX' 0)<|J (gn 8)<|J (lenT 0)<|fun hl1=>bdE hr fun q1 hqq1 hr=>q0b hqq1 hl1 1 (fun k1 _=>[(0,.d m (.sl 2 (a0.map Oc.D))),(3,.pb 0 0),(5,dI (k1:Int))]) (fun k1 _=>[]) I (fun k1 xk1 sk1 ok1 hxk1 hr hltk1 hik1=>?_) fun k1 sk1 ek1 hltk1=>?_
 refine J g ?_
 refine J (SQ' rfl rfl rfl rfl (q5z xk1 a1))<|J (gn 1)<|ifE hr ?_ ?_<;>intro h1 hr
 exact e
 exact e
 subst ek1
 exact e
theorem j5e {m:Md}{a0:Gm_}{a1:Rule}{r:Bool}(hr:z2q a0 a1=some r):Ok Tryz.prog 153 [Gm_.y m a0,Rule.x m a1] [] (dB r) []:=by
 refine OE Tryz.func153 fun S hS=>?_
 unfold z2q at hr
 refine J g<|J (BX' 0)<|J (BX' 1)<|bdE hr fun y1 hy1 hr=>J g<|J (CB' [(0,2)] [] (z0l (m:=m) hy1))<|J g<|J (L0' 3 Oc.D)<|J (gn 8)<|J (lenA 4 1)<|fun hl1=>bdE hr fun q1 hqq1 hr=>q0b hqq1 hl1 4 (fun k1 s1=>[(3,.pb 1 0),(5,.ref 2 none),(6,.ref 3 none),(7,dI (k1:Int))]) (fun k1 s1=>[(3,.row .fz 2 (s1.map Oc.D))]) I (fun k1 xk1 sk1 ok1 hxk1 hr hltk1 hik1=>?_) fun k1 sk1 ek1 hltk1=>?_
 obtain⟨s1,rfl⟩:∃ y,y=sk1:=⟨_,rfl⟩
 refine J g<|J (NV' 4)<|bdE hr fun y2 hy2 hr=>J g<|J (CB' [] [2] (z9s (m:=.bo) hy2))<|J (gn 1)<|ifE hr ?_ ?_<;>intro h1 hr
 refine bdE hr fun y3 hy3 hr=>J g<|J (CB' [] [3] (z9s (m:=.bo) hy3))<|J (gn 2)<|ifE hr ?_ ?_<;>intro h2 hr
 exact e
 refine J g<|J (LIR' 5 (m:=.fz) (f:=Oc.D) (xs:=[xk1.At]))<|ggE hr fun g1 hr=>J (z1H (f:=Oc.D) 6 (fun _=>rfl) 24 g1)<|e
 exact e
 subst ek1
 obtain⟨s1,rfl⟩:∃ y,y=sk1:=⟨_,rfl⟩
 exact e
theorem j5f {a0:Oc}{a1:Oc}{r:Bool}(hr:z2r a0 a1=some r):Ok Tryz.prog 226 [Oc.x .fz a0,Oc.x .fz a1] [] (dB r) []:=by
 refine OE Tryz.func226 fun S hS=>?_
 unfold z2r at hr
 refine J g<|J (BX' 0)<|J (BX' 1)<|bdE hr fun s1 hqq1 hr=>J (gn 9)<|q0a 14 [(4,dB false),(23,dB s1)] ?_ ?_
 replace hr:=hqq1
 refine ifE hr ?_ ?_<;>intro h1 hr
 exact e
 refine bdE hr fun s2 hqq2 hr=>J (gn 6)<|q0a 7 [(4,dB false),(10,dB false),(22,dB s2)] ?_ ?_
 replace hr:=hqq2
 refine ifE hr ?_ ?_<;>intro h2 hr
 exact e
 exact e
 exact e
 exact e
theorem k0s {m:Md}{a0:(List Oc)}{a1:Oc}{r:(List Oc)}(hr:z7K a0 a1=some r):Ok Tryz.prog 202 [.d m (.sl 2 (a0.map Oc.D)),Oc.x .fz a1] [] (.d m (.sl 2 (r.map Oc.D))) []:=by
 refine OE Tryz.func202 fun S hS=>?_
 unfold z7K at hr
 refine J g<|J (BX' 0)<|bdE hr fun s1 hqq1 hr=>J (gn 7)<|q0e 1 [(0,.d m (.sl 2 (a0.map Oc.D))),(3,.pb 0 0),(5,dI s1)] [] ?_ ?_
 refine J g<|q0g hqq1 1 (fun s2=>[(0,.d m (.sl 2 (a0.map Oc.D))),(3,.pb 0 0),(5,dI s2)]) (fun s2=>[]) I fun sk1 ok1 hr hik1=>?_
 obtain⟨s2,rfl⟩:∃ y,y=sk1:=⟨_,rfl⟩
 have hr:=hr
 refine J (gn 7)<|ifE hr ?_ ?_<;>intro h1 hr
 refine ggE hr fun g1 hr=>bdE hr fun x1 hx1 hr=>bdE hr fun y1 hy1 hr=>J g<|J (CB' [] [] (j5f hy1))<|J (gn 2)<|ifE hr ?_ ?_<;>intro h2 hr
 refine ggE hr fun g2 hr=>e
 refine J (gn 2) ?_
 cases hr
 cases hik1 _ rfl
 exact q0d hS 1
 refine J (gn 11) ?_
 cases hr
 cases hik1 _ rfl
 exact q0d hS 1
 refine J (gn 7)<|ifE hr ?_ ?_<;>intro h3 hr
 refine ggE hr fun g3 hr=>bdE hr fun x2 hx2 hr=>J g ?_
 refine J (SQ' rfl rfl rfl rfl (q5z x2 a1))<|J (gn 2)<|ifE hr ?_ ?_<;>intro h4 hr
 exact e
 refine J g<|J (L0' 1 Oc.D)<|ggE hr fun g4 hr=>ggE hr fun g5 hr=>J g<|J (SLH' g4 g5)<|ggE hr fun g6 hr=>J (j4P (f:=Oc.D) 2 24 (fun _=>rfl) g6)<|J g<|J (LIR' 3 (m:=.fz) (f:=Oc.D) (xs:=[a1]))<|ggE hr fun g7 hr=>J (z1H (f:=Oc.D) 4 (fun _=>rfl) 24 g7)<|ggE hr fun g8 hr=>ggE hr fun g9 hr=>J g<|J (SLL' g8 g9)<|ggE hr fun g10 hr=>J (j4P (f:=Oc.D) 5 24 (fun _=>rfl) g10)<|J (gn 3) ?_
 refine J (q0h (q0p (r:=5) rfl)) ?_
 cases hr
 exact endA.ren [] 0 (.inr rfl) hS rfl rfl rfl (.md rfl) rfl rfl
 refine J g<|J (L0' 1 Oc.D)<|ggE hr fun g11 hr=>ggE hr fun g12 hr=>J g<|J (SLH' g11 g12)<|ggE hr fun g13 hr=>J (j4P (f:=Oc.D) 2 24 (fun _=>rfl) g13)<|J g<|J (LIR' 3 (m:=.fz) (f:=Oc.D) (xs:=[a1]))<|ggE hr fun g14 hr=>J (z1H (f:=Oc.D) 4 (fun _=>rfl) 24 g14)<|ggE hr fun g15 hr=>ggE hr fun g16 hr=>J g<|J (SLL' g15 g16)<|ggE hr fun g17 hr=>J (j4P (f:=Oc.D) 5 24 (fun _=>rfl) g17)<|J (gn 3) ?_
 refine J (q0h (q0p (r:=5) rfl)) ?_
 cases hr
 exact endA.ren [] 0 (.inr rfl) hS rfl rfl rfl (.md rfl) rfl rfl
theorem j6x {Rc7:Expr→(List Oc)→Option (List Oc)}(Ic7:∀ {m:Md} {a0:Expr} {a1:(List Oc)} {r:(List Oc)},Rc7 a0 a1=some r→Ok Tryz.prog 160 [Expr.x m a0,.d m (.sl 2 (a1.map Oc.D))] [] (.d m (.sl 2 (r.map Oc.D))) []){m:Md}{a0:Expr}{a1:(List Oc)}{r:(List Oc)}(hr:z1i Rc7 a0 a1=some r):Ok Tryz.prog 160 [Expr.x m a0,.d m (.sl 2 (a1.map Oc.D))] [] (.d m (.sl 2 (r.map Oc.D))) []:=by
 refine OE Tryz.func160 fun S hS=>?_
 unfold z1i at hr
 refine J g<|J (BX' 0)<|J (gn 9)<|ifE hr ?_ ?_<;>intro h1 hr
 refine bdE hr fun y1 hy1 hr=>J g<|J (CB' [] [] (k0s (m:=m) hy1))<|J (gn 8)<|J (lenA 6 0)<|fun hl1=>bdE hr fun s1 hqq1 hr=>q0c hqq1 hl1 1 (fun k1 s1=>[(1,.d m (.sl 2 (s1.map Oc.D))),(2,.pb 0 0),(5,dI (k1:Int))]) (fun k1 s1=>[]) I (fun k1 xk1 sk1 ok1 hxk1 hr hltk1=>?_) fun k1 hltk1=>?_
 obtain⟨s1,rfl⟩:∃ y,y=sk1:=⟨_,rfl⟩
 refine bdE hr fun y2 hy2 hr=>J g<|J (CB' [] [] (Ic7 (m:=m) hy2))<|e
 exact e
 refine J (gn 8)<|J (lenA 6 0)<|fun hl2=>bdE hr fun s2 hqq2 hr=>q0c hqq2 hl2 1 (fun k2 s2=>[(1,.d m (.sl 2 (s2.map Oc.D))),(2,.pb 0 0),(5,dI (k2:Int))]) (fun k2 s2=>[]) I (fun k2 xk2 sk2 ok2 hxk2 hr hltk2=>?_) fun k2 hltk2=>?_
 obtain⟨s2,rfl⟩:∃ y,y=sk2:=⟨_,rfl⟩
 refine bdE hr fun y3 hy3 hr=>J g<|J (CB' [] [] (Ic7 (m:=m) hy3))<|e
 exact e
theorem j6y (n:Nat):∀ {m:Md} {a0:Expr} {a1:(List Oc)} {r:(List Oc)},q6J n a0 a1=some r→Ok Tryz.prog 160 [Expr.x m a0,.d m (.sl 2 (a1.map Oc.D))] [] (.d m (.sl 2 (r.map Oc.D))) []:=by
  induction n with
  | zero=>intro _ _ _ r hr;exact nomatch (show (none:Option (List Oc))=some r from hr)
  | succ n ih=>intro _ _ _ r hr;exact j6x ih hr
theorem j8S {m:Md}{a0:Expr}{a1:(List Oc)}{r:(List Oc)}(hr:j0H a0 a1=some r):Ok Tryz.prog 160 [Expr.x m a0,.d m (.sl 2 (a1.map Oc.D))] [] (.d m (.sl 2 (r.map Oc.D))) []:=by
 obtain⟨n,hn⟩:=q5M hr
 exact j6y n hn
theorem z4f {m:Md}{a0:Expr}{r:(List Oc)}(hr:q6a a0=some r):Ok Tryz.prog 117 [Expr.x m a0] [] (.d m (.sl 2 (r.map Oc.D))) []:=by
 refine OE Tryz.func117 fun S hS=>?_
 unfold q6a at hr
 refine J g<|J (BX' 0)<|J g<|J (L0' 1 Oc.D) ?_
 refine J (q0x 1 rfl)<|bdE hr fun y1 hy1 hr=>J (CB' [] [] (j8S (m:=m) hy1))<|J g<|E
theorem z0K {m:Md}{a0:Symbol}{a1:BA_}{r:(At_×Bool)}(hr:q6F a0 a1=some r):Ok Tryz.prog 113 [Symbol.x m a0,dS a1] [] (.tu [At_.x .fz r.1,dB r.2]) []:=by
 refine OE Tryz.func113 fun S hS=>?_
 unfold q6F at hr
 refine J g<|J (BX' 0)<|J (NV' 1)<|J (gn 8)<|J (lenA 1 0)<|fun hl1=>bdE hr fun q1 hqq1 hr=>q0b hqq1 hl1 2 (fun k1 _=>[(1,dS a1),(2,.pb 0 0),(4,.pb 1 0),(6,dI (k1:Int))]) (fun k1 _=>[]) I (fun k1 xk1 sk1 ok1 hxk1 hr hltk1 hik1=>?_) fun k1 sk1 ek1 hltk1=>?_
 refine J (gn 24)<|ifE hr ?_ ?_<;>intro h1 hr
 exact e
 exact e
 subst ek1
 exact e
theorem j8T {m:Md}{a0:Gm_}{a1:Rule}{a2:Oc}{r:Bool}(hr:z5s a0 a1 a2=some r):Ok Tryz.prog 225 [Gm_.y m a0,Rule.x m a1,Oc.x .fz a2] [] (dB r) []:=by
 refine OE Tryz.func225 fun S hS=>?_
 unfold z5s at hr
 refine J g<|J (BX' 0)<|J (BX' 1)<|J (BX' 2)<|bdE hr fun y1 hy1 hr=>J g<|J (CB' [] [] (q5p hy1))<|J (gn 2)<|ifE hr ?_ ?_<;>intro h1 hr
 refine bdE hr fun y2 hy2 hr=>J g<|J (CB' [] [] (q9v (m:=m) hy2))<|bdP hr fun y3 y4 hq1 hr=>J (CB' [(0,3)] [] (q7O (m:=m) hq1))<|J g<|J (NV' 4)<|bdP hr fun y5 y6 hq2 hr=>J g<|J (CB' [] [3] (z0K (m:=.bo) hq2))<|J g<|J (NV' 5)<|J (gn 10)<|ifE hr ?_ ?_<;>intro h2 hr
 refine bdE hr fun s1 hqq3 hr=>J (gn 4)<|q0a 5 [(6,dB false),(42,dB s1)] ?_ ?_
 replace hr:=hqq3
 refine ifE hr ?_ ?_<;>intro h3 hr
 exact e
 exact e
 exact e
 refine bdE hr fun s2 hqq4 hr=>J (gn 5)<|q0a 5 [(6,dB false),(48,dB s2)] ?_ ?_
 replace hr:=hqq4
 refine ifE hr ?_ ?_<;>intro h4 hr
 exact e
 exact e
 exact e
 exact e
theorem z6Z {m:Md}{a0:Gm_}{a1:Rule}{a2:Expr}{r:Bool}(hr:z0w a0 a1 a2=some r):Ok Tryz.prog 199 [Gm_.y m a0,Rule.x m a1,Expr.x m a2] [] (dB r) []:=by
 refine OE Tryz.func199 fun S hS=>?_
 unfold z0w at hr
 refine J g<|J (BX' 0)<|J (BX' 1)<|J (BX' 2)<|bdE hr fun y1 hy1 hr=>J g<|J (CB' [] [] (z4f (m:=m) hy1))<|J (gn 8)<|J (lenT 7)<|fun hl1=>bdE hr fun q1 hqq1 hr=>q0b hqq1 hl1 3 (fun k1 _=>[(3,.pb 0 0),(4,.pb 1 0),(7,.d m (.sl 2 (y1.map Oc.D))),(8,dI (k1:Int))]) (fun k1 _=>[]) I (fun k1 xk1 sk1 ok1 hxk1 hr hltk1 hik1=>?_) fun k1 sk1 ek1 hltk1=>?_
 refine bdE hr fun y2 hy2 hr=>J g<|J (CB' [] [] (j8T (m:=m) hy2))<|J (gn 2)<|ifE hr ?_ ?_<;>intro h1 hr
 exact e
 exact e
 subst ek1
 exact e
theorem j3C {m:Md}{a0:Gm_}{a1:Rule}{r:Bool}(hr:z1j a0 a1=some r):Ok Tryz.prog 154 [Gm_.y m a0,Rule.x m a1] [] (dB r) []:=by
 refine OE Tryz.func154 fun S hS=>?_
 unfold z1j at hr
 refine J g<|J (BX' 0)<|J (BX' 1)<|J (gn 8)<|J (lenA 4 1)<|fun hl1=>bdE hr fun q1 hqq1 hr=>q0b hqq1 hl1 2 (fun k1 _=>[(2,.pb 0 0),(3,.pb 1 0),(5,dI (k1:Int))]) (fun k1 _=>[]) I (fun k1 xk1 sk1 ok1 hxk1 hr hltk1 hik1=>?_) fun k1 sk1 ek1 hltk1=>?_
 refine bdE hr fun y1 hy1 hr=>J g<|J (CB' [] [] (z6Z (m:=m) hy1))<|J (gn 2)<|ifE hr ?_ ?_<;>intro h1 hr
 exact e
 exact e
 subst ek1
 refine J (gn 17) ?_
 refine AW.len (.box 1 5 rfl rfl) fun hl2=>?_
 refine bdE hr fun q2 hqq2 hr=>q0b hqq2 hl2 2 (fun k2 _=>[(2,.pb 0 0),(3,.pb 1 0),(6,dI (k2:Int))]) (fun k2 _=>[]) I (fun k2 xk2 sk2 ok2 hxk2 hr hltk2 hik2=>?_) fun k2 sk2 ek2 hltk2=>?_
 refine bdE hr fun y2 hy2 hr=>J g<|J (CB' [] [] (z6Z (m:=m) hy2))<|J (gn 1)<|ifE hr ?_ ?_<;>intro h2 hr
 refine bdE hr fun y3 hy3 hr=>J g<|J (CB' [] [] (z6Z (m:=m) hy3))<|J (gn 3)<|ifE hr ?_ ?_<;>intro h3 hr
 exact e
 exact e
 exact e
 subst ek2
 exact e
theorem j3D {m:Md}{a0:Gm_}{a1:Rule}{a2:Int}{r:Bool}(hr:z1k a0 a1 a2=some r):Ok Tryz.prog 108 [Gm_.y m a0,Rule.x m a1,dI a2] [] (dB r) []:=by
 refine OE Tryz.func108 fun S hS=>?_
 unfold z1k at hr
 refine J g<|J (BX' 0)<|J (BX' 1)<|J (gn 13)<|ifE hr ?_ ?_<;>intro h1 hr
 refine bdE hr fun y1 hy1 hr=>J g<|J (CB' [] [] (j2b (m:=m) hy1))<|e
 refine J (gn 6)<|ifE hr ?_ ?_<;>intro h2 hr
 refine bdE hr fun y2 hy2 hr=>J g<|J (CB' [] [] (j2c (m:=m) hy2))<|e
 refine J (gn 6)<|ifE hr ?_ ?_<;>intro h3 hr
 refine bdE hr fun y3 hy3 hr=>J g<|J (CB' [] [] (j5e (m:=m) hy3))<|e
 refine bdE hr fun y4 hy4 hr=>J g<|J (CB' [] [] (j3C (m:=m) hy4))<|e
theorem j2d {m:Md}{a0:Gm_}{r:(Int×Int)}(hr:q9L a0=some r):Ok Tryz.prog 64 [Gm_.x m a0] [] (.tu [dI r.1,dI r.2]) []:=by
 refine OE Tryz.func64 fun S hS=>?_
 unfold q9L at hr
 refine J g<|J (BX' 0)<|bdE hr fun y1 hy1 hr=>J g<|J (CB' [] [] (q5p hy1))<|J (gn 1)<|ifE hr ?_ ?_<;>intro h1 hr
 refine bdE hr fun y2 hy2 hr=>J g<|J (CB' [] [] (q5p hy2))<|J (gn 3)<|ifE hr ?_ ?_<;>intro h2 hr
 refine bdE hr fun y3 hy3 hr=>J g<|J (CB' [] [] (j8Q (m:=m) hy3))<|J (gn 8)<|ifE hr ?_ ?_<;>intro h3 hr
 exact e
 refine bdE hr fun x1 hx1 hr=>J (gn 8) ?_
 refine AW.len (.el 1 (.ag 0 (.tmp 0 rfl) rfl) hx1 rfl) fun hl1=>?_
 refine bdE hr fun q1 hqq1 hr=>q0b hqq1 hl1 1 (fun k1 _=>[(1,.pb 0 0),(5,dI (k1:Int))]) (fun k1 _=>[]) I (fun k1 xk1 sk1 ok1 hxk1 hr hltk1 hik1=>?_) fun k1 sk1 ek1 hltk1=>?_
 refine J (gn 29)<|ifE hr ?_ ?_<;>intro h4 hr
 exact e
 exact e
 subst ek1
 refine bdE hr fun q2 hqq2 hr=>J (gn 19)<|AW.cut 1 (fun _=>[]) (fun _=>[]) (M:=fun x=>q2=.inl x) ?_ fun x hx=>?_
 refine J g<|q0g hqq2 1 (fun s1=>[(1,.pb 0 0),(6,dI s1)]) (fun s1=>[]) I fun sk2 ok2 hr hik2=>?_
 obtain⟨s1,rfl⟩:∃ y,y=sk2:=⟨_,rfl⟩
 have hr:=hr
 refine J (gn 6)<|ifE hr ?_ ?_<;>intro h5 hr
 refine J (gn 9) ?_
 refine AW.len (.box 0 1 rfl rfl) fun hl3=>?_
 refine bdE hr fun q3 hqq3 hr=>q0b hqq3 hl3 1 (fun k3 _=>[(1,.pb 0 0),(6,dI s1),(7,dI (k3:Int))]) (fun k3 _=>[]) I (fun k3 xk3 sk3 ok3 hxk3 hr hltk3 hik3=>?_) fun k3 sk3 ek3 hltk3=>?_
 refine bdE hr fun y4 hy4 hr=>J g<|J (CB' [] [] (j3D (m:=m) hy4))<|J (gn 1)<|ifE hr ?_ ?_<;>intro h6 hr
 exact e
 exact e
 subst ek3
 refine ggE hr fun g1 hr=>e
 refine J (gn 2) ?_
 cases hr
 cases hik2 _ rfl
 exact⟨_,rfl,q0d hS 1⟩
 subst hx
 exact e
 exact e
 exact e
theorem z1B {m:Md}{a0:Gm_}{a1:BA_}{a2:BA_}{r:Int}(hr:q6w a0 a1 a2=some r):Ok Tryz.prog 110 [Gm_.y m a0,dS a1,dS a2] [] (dI r) []:=by
 refine OE Tryz.func110 fun S hS=>?_
 unfold q6w at hr
 refine J g<|J (BX' 0)<|bdP hr fun y1 y2 hq1 hr=>J g<|J (CB' [(0,1)] [] (q7O (m:=m) hq1))<|J g<|J (NV' 2)<|bdP hr fun y3 y4 hq2 hr=>J g<|J (CB' [] [1] (z0K (m:=.bo) hq2))<|J g<|J (NV' 3)<|J (gn 9)<|ifE hr ?_ ?_<;>intro h1 hr
 exact e
 exact e
theorem z9N {a0:Int}{r:(Int×Int×Int)}(hr:q8i a0=some r):Ok Tryz.prog 200 [dI a0] [] (.tu [dI r.1,dI r.2.1,dI r.2.2]) []:=by
 refine OE Tryz.func200 fun S hS=>?_
 unfold q8i at hr
 refine bdE hr fun y1 hy1 hr=>J g<|J (CB' [] [] (q5p hy1))<|J (gn 2)<|ifE hr ?_ ?_<;>intro h1 hr
 exact e
 refine bdE hr fun y2 hy2 hr=>J g<|J (CB' [] [] (q5p hy2))<|J (gn 2)<|ifE hr ?_ ?_<;>intro h2 hr
 exact e
 refine J (gn 5)<|ifE hr ?_ ?_<;>intro h3 hr
 exact e
 refine J (gn 6)<|ifE hr ?_ ?_<;>intro h4 hr
 exact e
 refine J (gn 7)<|ifE hr ?_ ?_<;>intro h5 hr
 exact e
 refine J (gn 7)<|ifE hr ?_ ?_<;>intro h6 hr
 exact e
 exact e
theorem k0t {Rc8:Gm_→Rule→Expr→Option Int}(Ic8:∀ {m:Md} {a0:Gm_} {a1:Rule} {a2:Expr} {r:Int},Rc8 a0 a1 a2=some r→Ok Tryz.prog 109 [Gm_.y m a0,Rule.x m a1,Expr.x m a2] [] (dI r) []){m:Md}{a0:Gm_}{a1:Rule}{a2:Expr}{r:Int}(hr:j0b Rc8 a0 a1 a2=some r):Ok Tryz.prog 155 [Gm_.y m a0,Rule.x m a1,Expr.x m a2] [] (dI r) []:=by
 refine OE Tryz.func155 fun S hS=>?_
 unfold j0b at hr
 refine J g<|J (BX' 0)<|J (BX' 1)<|J (BX' 2)<|bdT hr fun y1 y2 y3 hq1 hr=>J g<|J (CB' [] [] (z9N hq1))<|J (gn 15)<|ifE hr ?_ ?_<;>intro h1 hr
 refine bdE hr fun x1 hx1 hr=>bdE hr fun y4 hy4 hr=>J g<|J (CB' [] [] (Ic8 (m:=m) hy4))<|J (gn 3)<|ifE hr ?_ ?_<;>intro h2 hr
 refine bdE hr fun x2 hx2 hr=>bdE hr fun y5 hy5 hr=>J g<|J (CB' [] [] (Ic8 (m:=m) hy5))<|J (gn 4)<|ifE hr ?_ ?_<;>intro h3 hr
 exact e
 exact e
 exact e
 exact e
theorem k0u {Rc8:Gm_→Rule→Expr→Option Int}(Ic8:∀ {m:Md} {a0:Gm_} {a1:Rule} {a2:Expr} {r:Int},Rc8 a0 a1 a2=some r→Ok Tryz.prog 109 [Gm_.y m a0,Rule.x m a1,Expr.x m a2] [] (dI r) []){m:Md}{a0:Gm_}{a1:Rule}{a2:Expr}{r:Int}(hr:j0c Rc8 a0 a1 a2=some r):Ok Tryz.prog 156 [Gm_.y m a0,Rule.x m a1,Expr.x m a2] [] (dI r) []:=by
 refine OE Tryz.func156 fun S hS=>?_
 unfold j0c at hr
 refine J g<|J (BX' 0)<|J (BX' 1)<|J (BX' 2)<|J (gn 9)<|ifE hr ?_ ?_<;>intro h1 hr
 refine bdE hr fun x1 hx1 hr=>bdE hr fun y1 hy1 hr=>J g<|J (CB' [] [] (Ic8 (m:=m) hy1))<|J (gn 3)<|ifE hr ?_ ?_<;>intro h2 hr
 refine bdE hr fun x2 hx2 hr=>bdE hr fun y2 hy2 hr=>J g<|J (CB' [] [] (Ic8 (m:=m) hy2))<|bdE hr fun x3 hx3 hr=>bdE hr fun y3 hy3 hr=>J g<|J (CB' [] [] (Ic8 (m:=m) hy3))<|J (gn 2)<|ifE hr ?_ ?_<;>intro h3 hr
 exact e
 exact e
 exact e
 exact e
theorem j1f {Rc8:Gm_→Rule→Expr→Option Int}(Ic8:∀ {m:Md} {a0:Gm_} {a1:Rule} {a2:Expr} {r:Int},Rc8 a0 a1 a2=some r→Ok Tryz.prog 109 [Gm_.y m a0,Rule.x m a1,Expr.x m a2] [] (dI r) []){m:Md}{a0:Gm_}{a1:Rule}{a2:Expr}{r:Int}(hr:q9M Rc8 a0 a1 a2=some r):Ok Tryz.prog 109 [Gm_.y m a0,Rule.x m a1,Expr.x m a2] [] (dI r) []:=by
 refine OE Tryz.func109 fun S hS=>?_
 unfold q9M at hr
 refine J g<|J (BX' 0)<|J (BX' 1)<|J (BX' 2)<|J (gn 14)<|ifE hr ?_ ?_<;>intro h1 hr
 exact e
 refine J (gn 6)<|ifE hr ?_ ?_<;>intro h2 hr
 refine J (gn 6)<|ifE hr ?_ ?_<;>intro h3 hr
 exact e
 exact e
 refine J (gn 6)<|ifE hr ?_ ?_<;>intro h4 hr
 refine bdE hr fun y1 hy1 hr=>J g<|J (CB' [] [] (q5p hy1))<|J (gn 1)<|ifE hr ?_ ?_<;>intro h5 hr
 refine bdE hr fun y2 hy2 hr=>J g<|J (CB' [] [] (q9v (m:=m) hy2))<|bdE hr fun y3 hy3 hr=>J g<|J (CB' [] [] (z1B (m:=m) hy3))<|e
 exact e
 refine J (gn 6)<|ifE hr ?_ ?_<;>intro h6 hr
 refine bdE hr fun y4 hy4 hr=>J g<|J (CB' [] [] (k0t Ic8 (m:=m) hy4))<|e
 refine J (gn 6)<|ifE hr ?_ ?_<;>intro h7 hr
 refine bdE hr fun y5 hy5 hr=>J g<|J (CB' [] [] (k0u Ic8 (m:=m) hy5))<|e
 refine J (gn 6)<|ifE hr ?_ ?_<;>intro h8 hr
 refine bdE hr fun y6 hy6 hr=>J g<|J (CB' [] [] (q5p hy6))<|J (gn 1)<|ifE hr ?_ ?_<;>intro h9 hr
 exact e
 exact e
 refine J (gn 6)<|ifE hr ?_ ?_<;>intro h10 hr
 exact e
 refine J (gn 6)<|ifE hr ?_ ?_<;>intro h11 hr
 refine J (gn 7)<|ifE hr ?_ ?_<;>intro h12 hr
 refine bdE hr fun x1 hx1 hr=>bdE hr fun y7 hy7 hr=>J g<|J (CB' [] [] (Ic8 (m:=m) hy7))<|J (gn 3)<|ifE hr ?_ ?_<;>intro h13 hr
 refine bdE hr fun y8 hy8 hr=>J g<|J (CB' [] [] (z1B (m:=m) hy8))<|e
 exact e
 exact e
 exact e
theorem j1g (n:Nat):∀ {m:Md} {a0:Gm_} {a1:Rule} {a2:Expr} {r:Int},q8r n a0 a1 a2=some r→Ok Tryz.prog 109 [Gm_.y m a0,Rule.x m a1,Expr.x m a2] [] (dI r) []:=by
  induction n with
  | zero=>intro _ _ _ _ r hr;exact nomatch (show (none:Option Int)=some r from hr)
  | succ n ih=>intro _ _ _ _ r hr;exact j1f ih hr
theorem z3B {m:Md}{a0:Gm_}{a1:Rule}{a2:Expr}{r:Int}(hr:q9N a0 a1 a2=some r):Ok Tryz.prog 109 [Gm_.y m a0,Rule.x m a1,Expr.x m a2] [] (dI r) []:=by
 obtain⟨n,hn⟩:=q5M hr
 exact j1g n hn
theorem j6z {m:Md}{a0:Gm_}{a1:Rule}{r:Bool}(hr:z3P a0 a1=some r):Ok Tryz.prog 65 [Gm_.y m a0,Rule.x m a1] [] (dB r) []:=by
 refine OE Tryz.func65 fun S hS=>?_
 unfold z3P at hr
 refine J g<|J (BX' 0)<|J (BX' 1)<|J (gn 8)<|J (lenA 4 1)<|fun hl1=>bdE hr fun q1 hqq1 hr=>q0b hqq1 hl1 2 (fun k1 _=>[(2,.pb 0 0),(3,.pb 1 0),(5,dI (k1:Int))]) (fun k1 _=>[]) I (fun k1 xk1 sk1 ok1 hxk1 hr hltk1 hik1=>?_) fun k1 sk1 ek1 hltk1=>?_
 refine J g<|J (NV' 2)<|bdE hr fun y1 hy1 hr=>J g<|J (CB' [] [] (z3B (m:=m) hy1))<|bdE hr fun y2 hy2 hr=>J g<|J (CB' [] [] (q9v (m:=m) hy2))<|bdE hr fun y3 hy3 hr=>J g<|J (CB' [] [] (z1B (m:=m) hy3))<|J (gn 2)<|ifE hr ?_ ?_<;>intro h1 hr
 exact e
 exact e
 subst ek1
 refine J (gn 17) ?_
 refine AW.len (.box 1 5 rfl rfl) fun hl2=>?_
 refine bdE hr fun q2 hqq2 hr=>q0b hqq2 hl2 2 (fun k2 _=>[(2,.pb 0 0),(3,.pb 1 0),(7,dI (k2:Int))]) (fun k2 _=>[]) I (fun k2 xk2 sk2 ok2 hxk2 hr hltk2 hik2=>?_) fun k2 sk2 ek2 hltk2=>?_
 refine J g<|J (NV' 2)<|bdP hr fun y4 y5 hq3 hr=>J g<|J (CB' [(0,3)] [] (q7O (m:=m) hq3))<|J g<|J (NV' 4)<|bdP hr fun y6 y7 hq4 hr=>J g<|J (CB' [] [3] (z0K (m:=.bo) hq4))<|J g<|J (NV' 5)<|bdE hr fun s1 hqq5 hr=>J (gn 7)<|q0a 5 [(2,.pb 0 0),(3,.pb 1 0),(7,dI (k2:Int)),(8,.pb 2 0),(73,dB s1)] ?_ ?_
 replace hr:=hqq5
 refine ifE hr ?_ ?_<;>intro h2 hr
 exact e
 exact e
 refine bdE hr fun s2 hqq6 hr=>q0a 8 [(2,.pb 0 0),(3,.pb 1 0),(7,dI (k2:Int)),(8,.pb 2 0),(81,dB s2)] ?_ ?_
 replace hr:=hqq6
 refine ifE hr ?_ ?_<;>intro h3 hr
 exact e
 refine bdE hr fun y8 hy8 hr=>J g<|J (CB' [] [] (z3B (m:=m) hy8))<|e
 refine bdE hr fun s3 hqq7 hr=>q0a 8 [(2,.pb 0 0),(3,.pb 1 0),(7,dI (k2:Int)),(89,dB s3)] ?_ ?_
 replace hr:=hqq7
 refine ifE hr ?_ ?_<;>intro h4 hr
 exact e
 refine bdE hr fun y9 hy9 hr=>J g<|J (CB' [] [] (z3B (m:=m) hy9))<|e
 refine J (gn 1)<|ifE hr ?_ ?_<;>intro h5 hr
 exact e
 exact e
 subst ek2
 exact e
theorem z5M {m:Md}{a0:Gm_}{a1:BA_}{r:Int}(hr:z1K a0 a1=some r):Ok Tryz.prog 33 [Gm_.y m a0,dS a1] [] (dI r) []:=by
 refine OE Tryz.func33 fun S hS=>?_
 unfold z1K at hr
 refine J g<|J (BX' 0)<|J (gn 8)<|J (lenA 0 0)<|fun hl1=>bdE hr fun q1 hqq1 hr=>q0b hqq1 hl1 1 (fun k1 _=>[(1,dS a1),(2,.pb 0 0),(5,dI (k1:Int))]) (fun k1 _=>[]) I (fun k1 xk1 sk1 ok1 hxk1 hr hltk1 hik1=>?_) fun k1 sk1 ek1 hltk1=>?_
 refine J (gn 24)<|ifE hr ?_ ?_<;>intro h1 hr
 exact e
 exact e
 subst ek1
 exact e
theorem j2e {m:Md}{a0:Gm_}{a1:BA_}{a2:(List Int)}{r:Bool}(hr:q9O a0 a1 a2=some r):Ok Tryz.prog 201 [Gm_.x m a0,dS a1,.d m (.sl 1 (a2.map (A.D.i .i64)))] [] (dB r) []:=by
 refine OE Tryz.func201 fun S hS=>?_
 unfold q9O at hr
 refine J g<|J (BX' 0)<|J (gn 8)<|J (lenA 1 0)<|fun hl1=>bdE hr fun q1 hqq1 hr=>q0b hqq1 hl1 1 (fun k1 _=>[(1,dS a1),(2,.d m (.sl 1 (a2.map (A.D.i .i64)))),(3,.pb 0 0),(7,dI (k1:Int))]) (fun k1 _=>[]) I (fun k1 xk1 sk1 ok1 hxk1 hr hltk1 hik1=>?_) fun k1 sk1 ek1 hltk1=>?_
 refine J g<|J (NV' 1)<|J (gn 16)<|J (lenA 2 23)<|fun hl2=>bdE hr fun s1 hqq2 hr=>q0c hqq2 hl2 2 (fun k2 s1=>[(1,dS a1),(2,.d m (.sl 1 (a2.map (A.D.i .i64)))),(3,.pb 0 0),(7,dI (k1:Int)),(8,.pb 1 0),(9,dB s1),(10,dI (k2:Int))]) (fun k2 s1=>[]) I (fun k2 xk2 sk2 ok2 hxk2 hr hltk2=>?_) fun k2 hltk2=>?_
 obtain⟨s1,rfl⟩:∃ y,y=sk2:=⟨_,rfl⟩
 refine bdE hr fun y1 hy1 hr=>J g<|J (CB' [] [] (z5M (m:=m) hy1))<|bdE hr fun s2 hqq3 hr=>J (gn 4)<|q0a 4 [(1,dS a1),(2,.d m (.sl 1 (a2.map (A.D.i .i64)))),(3,.pb 0 0),(7,dI (k1:Int)),(8,.pb 1 0),(9,dB s1),(10,dI (k2:Int)),(11,dI y1),(46,dB s2)] ?_ ?_
 replace hr:=hqq3
 refine ifE hr ?_ ?_<;>intro h1 hr
 exact e
 exact e
 refine bdE hr fun s3 hqq4 hr=>q0a 8 [(1,dS a1),(2,.d m (.sl 1 (a2.map (A.D.i .i64)))),(3,.pb 0 0),(7,dI (k1:Int)),(8,.pb 1 0),(9,dB s1),(10,dI (k2:Int)),(54,dB s3)] ?_ ?_
 replace hr:=hqq4
 refine ifE hr ?_ ?_<;>intro h2 hr
 refine bdE hr fun y2 hy2 hr=>J g<|J (CB' [] [] (z5L hy2))<|ggE hr fun g1 hr=>bdE hr fun x1 hx1 hr=>e
 exact e
 exact e
 refine J (gn 15)<|ifE hr ?_ ?_<;>intro h3 hr
 exact e
 exact e
 subst ek1
 exact e
end Go.Proofs.YtnhofaohogianaaGreat
