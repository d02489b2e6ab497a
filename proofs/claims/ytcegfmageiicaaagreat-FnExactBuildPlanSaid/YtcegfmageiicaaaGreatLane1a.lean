/- What some functions of the program compute, as partial functions on plain data, and that they do; each lemma bears its conditions in its statement. -/
import Derived.Test.YtcegfmageiicaaaGreatDef
set_option linter.unusedVariables false
set_option linter.unusedSimpArgs false
set_option linter.ambiguousOpen false
set_option linter.unusedSectionVars false
set_option linter.unnecessarySimpa false
set_option maxRecDepth 100000
set_option maxHeartbeats 40000000
noncomputable section
namespace Go.Proofs.YtcegfmageiicaaaGreat
open Go Go.E Go.A
theorem q5O {a0:Int}{a1:Int}{a2:Int}{r:Bool}(hr:q5I a0 a1 a2=some r):Ok Tryz.prog 106 [dI a0,dI a1,dI a2] [] (dB r) []:=by
 refine OE Tryz.func106 fun S hS=>?_
 unfold q5I at hr
 refine J (gn 9)<|ifE hr ?_ ?_<;>intro h1 hr
 exact e
 exact e
theorem j9E {a0:ByteArray}{r:Bool}(hr:z8I a0=some r):Ok Tryz.prog 307 [dS a0] [] (dB r) []:=by
 refine OE Tryz.func307 fun S hS=>?_
 unfold z8I at hr
 refine J (gn 10) ?_
 refine q2T (.tmp 0 rfl) fun ht1=>?_
 have hl1:rngI .i64 (a0.size:Int):=k5P ht1
 refine bdE hr fun q1 hqq1 hr=>q0w hqq1 0 (fun k1 _=>[(0,dS a0),(3,dI (k1:Int))]) (fun k1 _=>[]) I (fun k1 sk1 ok1 hr hltk1 hik1=>?_) fun sk1 ek1=>?_
 refine J g<|J LS'<|bdE hr fun x1 hx1 hr=>J g ?_
 refine J (SI' rfl rfl (Int.natCast_nonneg _) hx1)<|bdE hr fun s1 hqq2 hr=>J (gn 1)<|q0a 6 [(0,dS a0),(3,dI (k1:Int)),(21,dB s1)] ?_ ?_
 replace hr:=hqq2
 refine ifE hr ?_ ?_<;>intro h1 hr
 refine J g ?_
 refine J (SI' rfl rfl (Int.natCast_nonneg _) hx1)<|J g<|E
 exact e
 refine J g ?_
 refine J (SI' rfl rfl (Int.natCast_nonneg _) hx1)<|bdE hr fun s2 hqq3 hr=>J (gn 1)<|q0a 6 [(0,dS a0),(3,dI (k1:Int)),(4,dB s1),(31,dB s2)] ?_ ?_
 replace hr:=hqq3
 refine ifE hr ?_ ?_<;>intro h2 hr
 refine J g ?_
 refine J (SI' rfl rfl (Int.natCast_nonneg _) hx1)<|J g<|E
 exact e
 refine bdE hr fun s3 hqq4 hr=>J (gn 6)<|q0a 8 [(0,dS a0),(3,dI (k1:Int)),(41,dB s3)] ?_ ?_
 replace hr:=hqq4
 refine ifE hr ?_ ?_<;>intro h3 hr
 exact e
 refine bdP hr fun s4 s5 hqq5 hr=>J (gn 3)<|q0a 4 [(0,dS a0),(3,dI (k1:Int)),(34,dB true),(35,dI (k1:Int)),(36,dB (decide ((k1:Int)=0))),(37,dB s4),(40,dB s5)] ?_ ?_
 replace hr:=hqq5
 refine ifE hr ?_ ?_<;>intro h4 hr
 exact e
 exact e
 exact e
 refine J (gn 1)<|ifE hr ?_ ?_<;>intro h5 hr
 exact e
 exact e
 subst ek1
 refine J g<|J LS'<|J g<|J LS'<|e
theorem j5c {r:(List ByteArray)}(hr:z3M=some r):Ok Tryz.prog 319 [] [] (.ref 0 none) [.row .fz 1 (r.map A.D.s)]:=by
 refine OE Tryz.func319 fun S hS=>?_
 unfold z3M at hr
 refine J g<|J (LIR' 0 (m:=.fz) (f:=A.D.s) (xs:=[(⟨#[105,102]⟩:ByteArray),(⟨#[116,104,101,110]⟩:ByteArray),(⟨#[101,108,115,101]⟩:ByteArray),(⟨#[116,114,117,101]⟩:ByteArray),(⟨#[102,97,108,115,101]⟩:ByteArray),(⟨#[108,105,116]⟩:ByteArray),(⟨#[110,111,110,101]⟩:ByteArray),(⟨#[115,101,108,102]⟩:ByteArray),(⟨#[111,102]⟩:ByteArray),(⟨#[109,97,120]⟩:ByteArray),(⟨#[109,105,110]⟩:ByteArray),(⟨#[119,105,116,104]⟩:ByteArray),(⟨#[104,97,115]⟩:ByteArray)]))<|e
theorem j0D {m:Md}{a0:(List ByteArray)}{a1:ByteArray}{r:Bool}(hr:z2J a0 a1=some r):Ok Tryz.prog 253 [.d m (.sl 1 (a0.map A.D.s)),dS a1] [] (dB r) []:=by
 refine OE Tryz.func253 fun S hS=>?_
 unfold z2J at hr
 refine J (gn 10)<|J (lenT 0)<|fun hl1=>bdE hr fun q1 hqq1 hr=>q0b hqq1 hl1 0 (fun k1 _=>[(0,.d m (.sl 1 (a0.map A.D.s))),(1,dS a1),(5,dI (k1:Int))]) (fun k1 _=>[]) I (fun k1 xk1 sk1 ok1 hxk1 hr hltk1 hik1=>?_) fun k1 sk1 ek1 hltk1=>?_
 refine J (gn 21)<|ifE hr ?_ ?_<;>intro h1 hr
 exact e
 exact e
 subst ek1
 exact e
theorem j5d {a0:ByteArray}{r:Bool}(hr:z1u a0=some r):Ok Tryz.prog 308 [dS a0] [] (dB r) []:=by
 refine OE Tryz.func308 fun S hS=>?_
 unfold z1u at hr
 refine bdE hr fun y1 hy1 hr=>J g<|J (CB' [(0,0)] [] (j5c hy1))<|bdE hr fun y2 hy2 hr=>J g<|J (CB' [] [0] (j0D (m:=.bo) hy2))<|e
theorem q5F {a0:ByteArray}{r:Bool}(hr:q4Z a0=some r):Ok Tryz.prog 291 [dS a0] [] (dB r) []:=by
 refine OE Tryz.func291 fun S hS=>?_
 unfold q4Z at hr
 refine bdE hr fun y1 hy1 hr=>J g<|J (CB' [] [] (j9E hy1))<|bdE hr fun s1 hqq1 hr=>q0a 5 [(0,dS a0),(2,dB false),(9,dB s1)] ?_ ?_
 replace hr:=hqq1
 refine ifE hr ?_ ?_<;>intro h1 hr
 refine J g<|J LS'<|e
 exact e
 refine bdE hr fun s2 hqq2 hr=>q0a 5 [(2,dB false),(14,dB s2)] ?_ ?_
 replace hr:=hqq2
 refine ifE hr ?_ ?_<;>intro h2 hr
 refine bdE hr fun y2 hy2 hr=>J g<|J (CB' [] [] (j5d hy2))<|e
 exact e
 exact e
theorem z8Z {a0:At_}{r:Bool}(hr:q7y a0=some r):Ok Tryz.prog 290 [At_.x .fz a0] [] (dB r) []:=by
 refine OE Tryz.func290 fun S hS=>?_
 unfold q7y at hr
 refine J g<|J (BX' 0)<|bdE hr fun y1 hy1 hr=>J g<|J (CB' [] [] (q5F hy1))<|bdE hr fun s1 hqq1 hr=>J (gn 1)<|q0a 6 [(1,.pb 0 0),(12,dB s1)] ?_ ?_
 replace hr:=hqq1
 refine ifE hr ?_ ?_<;>intro h1 hr
 refine bdE hr fun y2 hy2 hr=>J g<|J (CB' [] [] (q5O hy2))<|e
 exact e
 refine bdE hr fun s2 hqq2 hr=>q0a 6 [(1,.pb 0 0),(18,dB s2)] ?_ ?_
 replace hr:=hqq2
 refine ifE hr ?_ ?_<;>intro h2 hr
 exact e
 refine bdE hr fun y3 hy3 hr=>J g<|J (CB' [] [] (q5O hy3))<|e
 refine J (gn 1)<|ifE hr ?_ ?_<;>intro h3 hr
 exact e
 refine bdE hr fun s3 hqq3 hr=>J (gn 8)<|q0a 9 [(1,.pb 0 0),(30,dB s3)] ?_ ?_
 replace hr:=hqq3
 refine ifE hr ?_ ?_<;>intro h4 hr
 refine bdE hr fun s4 hqq4 hr=>J (gn 4)<|q0a 4 [(1,.pb 0 0),(22,dB true),(29,dB s4)] ?_ ?_
 replace hr:=hqq4
 refine ifE hr ?_ ?_<;>intro h5 hr
 exact e
 exact e
 exact e
 exact e
 refine J (gn 1)<|ifE hr ?_ ?_<;>intro h6 hr
 exact e
 refine bdE hr fun s5 hqq5 hr=>J (gn 7)<|q0a 5 [(38,dB s5)] ?_ ?_
 replace hr:=hqq5
 refine ifE hr ?_ ?_<;>intro h7 hr
 exact e
 exact e
 exact e
theorem j3U {m:Md}{a0:(List ByteArray)}{r:Bool}(hr:z0A a0=some r):Ok Tryz.prog 292 [.d m (.sl 1 (a0.map A.D.s))] [] (dB r) []:=by
 refine OE Tryz.func292 fun S hS=>?_
 unfold z0A at hr
 refine J (gn 10)<|J (lenT 0)<|fun hl1=>bdE hr fun q1 hqq1 hr=>q0b hqq1 hl1 0 (fun k1 _=>[(0,.d m (.sl 1 (a0.map A.D.s))),(3,dI (k1:Int))]) (fun k1 _=>[]) I (fun k1 xk1 sk1 ok1 hxk1 hr hltk1 hik1=>?_) fun k1 sk1 ek1 hltk1=>?_
 refine ggE hr fun g1 hr=>J g<|J (SLH' (Int.natCast_nonneg _) g1)<|bdE hr fun y1 hy1 hr=>J g<|J (CB' [] [] (j0D (m:=m) hy1))<|J (gn 1)<|ifE hr ?_ ?_<;>intro h1 hr
 exact e
 exact e
 subst ek1
 exact e
theorem j1i {m:Md}{a0:Symbol}{r:Bool}(hr:q9d a0=some r):Ok Tryz.prog 252 [Symbol.x m a0] [] (dB r) []:=by
 refine OE Tryz.func252 fun S hS=>?_
 unfold q9d at hr
 refine J g<|J (BX' 0)<|J g<|J (L0' 1 A.D.s)<|J (gn 8)<|J (lenA 1 0)<|fun hl1=>bdE hr fun q1 hqq1 hr=>q0b hqq1 hl1 2 (fun k1 s1=>[(1,.pb 0 0),(3,.ref 1 none),(4,dI (k1:Int))]) (fun k1 s1=>[(1,.row .fz 1 (s1.map A.D.s))]) I (fun k1 xk1 sk1 ok1 hxk1 hr hltk1 hik1=>?_) fun k1 sk1 ek1 hltk1=>?_
 obtain⟨s1,rfl⟩:∃ y,y=sk1:=⟨_,rfl⟩
 refine bdE hr fun y1 hy1 hr=>J g<|J (CB' [] [] (z8Z hy1))<|J (gn 2)<|ifE hr ?_ ?_<;>intro h1 hr
 refine J g<|J (LIR' 2 (m:=.fz) (f:=A.D.s) (xs:=[xk1.Name]))<|ggE hr fun g1 hr=>J (z3b (f:=A.D.s) 3 (fun _=>rfl) 16 g1)<|e
 exact e
 subst ek1
 obtain⟨s1,rfl⟩:∃ y,y=sk1:=⟨_,rfl⟩
 refine bdE hr fun y2 hy2 hr=>J g<|J (CB' [] [] (q5F hy2))<|bdE hr fun s2 hqq2 hr=>q0a 5 [(3,.ref 1 none),(36,dB s2)] ?_ ?_
 replace hr:=hqq2
 refine ifE hr ?_ ?_<;>intro h2 hr
 exact e
 exact e
 refine bdE hr fun s3 hqq3 hr=>q0a 4 [(40,dB s3)] ?_ ?_
 replace hr:=hqq3
 refine ifE hr ?_ ?_<;>intro h3 hr
 refine bdE hr fun y3 hy3 hr=>J g<|J (CB' [] [1] (j3U (m:=.bo) hy3))<|e
 exact e
 exact e
theorem j9F {rec_sl4Left:Expr→Int→Option Int}(ih_sl4Left:∀ {m:Md} {a0:Expr} {a1:Int} {r:Int},rec_sl4Left a0 a1=some r→Ok Tryz.prog 320 [Expr.x m a0,dI a1] [] (dI r) []){m:Md}{a0:Expr}{a1:Int}{r:Int}(hr:z7J rec_sl4Left a0 a1=some r):Ok Tryz.prog 320 [Expr.x m a0,dI a1] [] (dI r) []:=by
 refine OE Tryz.func320 fun S hS=>?_
 unfold z7J at hr
 refine J g<|J (BX' 0)<|ggE hr fun g1 hr=>bdE hr fun s1 hqq1 hr=>J (gn 13)<|q0e 1 [(1,dI s1)] [] ?_ ?_
 refine J g<|q0h hqq1 1 (fun (s2,s3)=>[(1,dI s2),(2,.pb 0 0),(5,dI s3)]) (fun (s2,s3)=>[]) I fun sk1 ok1 hr hik1=>?_
 obtain⟨s2,s3⟩:=sk1
 have hr:=hr
 refine J (gn 8)<|ifE hr ?_ ?_<;>intro h1 hr
 refine J (gn 5)<|ifE hr ?_ ?_<;>intro h2 hr
 refine ggE hr fun g2 hr=>bdE hr fun x1 hx1 hr=>bdE hr fun y1 hy1 hr=>J g<|J (CB' [] [] (ih_sl4Left (m:=m) hy1))<|ggE hr fun g3 hr=>e
 refine J (gn 2) ?_
 cases hr
 cases hik1 _ rfl
 exact q0d hS 1
 refine J (gn 7) ?_
 cases hr
 cases hik1 _ rfl
 exact q0d hS 1
 exact e
theorem j9G (n:Nat):∀ {m:Md} {a0:Expr} {a1:Int} {r:Int},z4q n a0 a1=some r→Ok Tryz.prog 320 [Expr.x m a0,dI a1] [] (dI r) []:=by
  induction n with
  | zero=>intro _ _ _ r hr;exact nomatch (show (none:Option Int)=some r from hr)
  | succ n ih=>intro _ _ _ r hr;exact j9F ih hr
theorem k2p {m:Md}{a0:Expr}{a1:Int}{r:Int}(hr:j3w a0 a1=some r):Ok Tryz.prog 320 [Expr.x m a0,dI a1] [] (dI r) []:=by
 obtain⟨n,hn⟩:=q5Z hr
 exact j9G n hn
theorem j0E {a0:Int}{a1:Int}{r:Int}(hr:z2K a0 a1=some r):Ok Tryz.prog 95 [dI a0,dI a1] [] (dI r) []:=by
 refine OE Tryz.func95 fun S hS=>?_
 unfold z2K at hr
 refine J (gn 11)<|ifE hr ?_ ?_<;>intro h1 hr
 exact e
 exact e
theorem j2r {rec_sDepthOfExpr:Expr→Option Int}(ih_sDepthOfExpr:∀ {m:Md} {a0:Expr} {r:Int},rec_sDepthOfExpr a0=some r→Ok Tryz.prog 321 [Expr.x m a0] [] (dI r) []){m:Md}{a0:Expr}{r:Int}(hr:z0B rec_sDepthOfExpr a0=some r):Ok Tryz.prog 321 [Expr.x m a0] [] (dI r) []:=by
 refine OE Tryz.func321 fun S hS=>?_
 unfold z0B at hr
 refine J g<|J (BX' 0)<|J (gn 12)<|J (lenA 6 0)<|fun hl1=>bdE hr fun s1 hqq1 hr=>q0c hqq1 hl1 1 (fun k1 s1=>[(1,.pb 0 0),(3,dI s1),(4,dI (k1:Int))]) (fun k1 s1=>[]) I (fun k1 xk1 sk1 ok1 hxk1 hr hltk1=>?_) fun k1 hltk1=>?_
 obtain⟨s1,rfl⟩:∃ y,y=sk1:=⟨_,rfl⟩
 refine bdE hr fun y1 hy1 hr=>J g<|J (CB' [] [] (ih_sDepthOfExpr (m:=m) hy1))<|bdE hr fun y2 hy2 hr=>J (CB' [] [] (j0E hy2))<|e
 refine ggE hr fun g1 hr=>e
theorem j2s (n:Nat):∀ {m:Md} {a0:Expr} {r:Int},q7l n a0=some r→Ok Tryz.prog 321 [Expr.x m a0] [] (dI r) []:=by
  induction n with
  | zero=>intro _ _ r hr;exact nomatch (show (none:Option Int)=some r from hr)
  | succ n ih=>intro _ _ r hr;exact j2r ih hr
theorem j3V {m:Md}{a0:Expr}{r:Int}(hr:z5G a0=some r):Ok Tryz.prog 321 [Expr.x m a0] [] (dI r) []:=by
 obtain⟨n,hn⟩:=q5Z hr
 exact j2s n hn
theorem k2q {m:Md}{a0:Expr}{r:Bool}(hr:z7K a0=some r):Ok Tryz.prog 329 [Expr.x m a0] [] (dB r) []:=by
 refine OE Tryz.func329 fun S hS=>?_
 unfold z7K at hr
 refine J g<|J (BX' 0)<|bdE hr fun s1 hqq1 hr=>J (gn 12)<|q0e 1 [(1,.pb 0 0),(3,dI s1)] [] ?_ ?_
 replace hr:=hqq1
 refine J (gn 6)<|ifE hr ?_ ?_<;>intro h1 hr
 exact e
 refine J (gn 6)<|ifE hr ?_ ?_<;>intro h2 hr
 exact e
 refine J (gn 6)<|ifE hr ?_ ?_<;>intro h3 hr
 exact e
 exact e
 refine J (gn 9)<|ifE hr ?_ ?_<;>intro h4 hr
 refine bdE hr fun s2 hqq2 hr=>J (gn 7)<|q0a 5 [(1,.pb 0 0),(27,dB s2)] ?_ ?_
 replace hr:=hqq2
 refine ifE hr ?_ ?_<;>intro h5 hr
 exact e
 exact e
 refine bdE hr fun s3 hqq3 hr=>J (gn 7)<|q0a 5 [(1,.pb 0 0),(4,dB s2),(35,dB s3)] ?_ ?_
 replace hr:=hqq3
 refine ifE hr ?_ ?_<;>intro h6 hr
 exact e
 exact e
 refine bdE hr fun s4 hqq4 hr=>J (gn 7)<|q0a 5 [(1,.pb 0 0),(4,dB s2),(5,dB s3),(43,dB s4)] ?_ ?_
 replace hr:=hqq4
 refine ifE hr ?_ ?_<;>intro h7 hr
 exact e
 exact e
 refine bdE hr fun s5 hqq5 hr=>J (gn 5)<|q0a 5 [(1,.pb 0 0),(5,dB s3),(6,dB s4),(49,dB s5)] ?_ ?_
 replace hr:=hqq5
 refine ifE hr ?_ ?_<;>intro h8 hr
 exact e
 exact e
 refine bdE hr fun s6 hqq6 hr=>q0a 8 [(1,.pb 0 0),(6,dB s4),(57,dB s6)] ?_ ?_
 replace hr:=hqq6
 refine ifE hr ?_ ?_<;>intro h9 hr
 refine bdE hr fun s7 hqq7 hr=>J (gn 2)<|q0a 5 [(1,.pb 0 0),(6,dB s4),(50,dB true),(56,dB s7)] ?_ ?_
 replace hr:=hqq7
 refine ifE hr ?_ ?_<;>intro h10 hr
 exact e
 exact e
 exact e
 exact e
 refine bdE hr fun s8 hqq8 hr=>q0a 8 [(1,.pb 0 0),(65,dB s8)] ?_ ?_
 replace hr:=hqq8
 refine ifE hr ?_ ?_<;>intro h11 hr
 refine bdE hr fun s9 hqq9 hr=>J (gn 2)<|q0a 5 [(1,.pb 0 0),(58,dB true),(64,dB s9)] ?_ ?_
 replace hr:=hqq9
 refine ifE hr ?_ ?_<;>intro h12 hr
 exact e
 exact e
 exact e
 exact e
 refine bdE hr fun s10 hqq10 hr=>q0a 10 [(1,.pb 0 0),(75,dB s10)] ?_ ?_
 replace hr:=hqq10
 refine ifE hr ?_ ?_<;>intro h13 hr
 refine bdE hr fun s11 hqq11 hr=>J (gn 4)<|q0a 5 [(1,.pb 0 0),(66,dB true),(74,dB s11)] ?_ ?_
 replace hr:=hqq11
 refine ifE hr ?_ ?_<;>intro h14 hr
 exact e
 exact e
 exact e
 exact e
 refine bdE hr fun s12 hqq12 hr=>q0a 10 [(85,dB s12)] ?_ ?_
 replace hr:=hqq12
 refine ifE hr ?_ ?_<;>intro h15 hr
 refine bdE hr fun s13 hqq13 hr=>J (gn 4)<|q0a 5 [(76,dB true),(84,dB s13)] ?_ ?_
 replace hr:=hqq13
 refine ifE hr ?_ ?_<;>intro h16 hr
 exact e
 exact e
 exact e
 exact e
 exact e
 exact e
theorem k3S {a0:Int}{a1:Int}{r:Int}(hr:j0f a0 a1=some r):Ok Tryz.prog 337 [dI a0,dI a1] [] (dI r) []:=by
 refine OE Tryz.func337 fun S hS=>?_
 unfold j0f at hr
 refine J (gn 11)<|ifE hr ?_ ?_<;>intro h1 hr
 exact e
 exact e
theorem j8m {a0:Int}{r:Int}(hr:z4s a0=some r):Ok Tryz.prog 335 [dI a0] [] (dI r) []:=by
 refine OE Tryz.func335 fun S hS=>?_
 unfold z4s at hr
 refine bdE hr fun y1 hy1 hr=>J g<|J (CB' [] [] (k3S hy1))<|bdE hr fun y2 hy2 hr=>J (CB' [] [] (j0E hy2))<|e
theorem j9H {a0:Bool}{r:Int}(hr:z5V a0=some r):Ok Tryz.prog 336 [dB a0] [] (dI r) []:=by
 refine OE Tryz.func336 fun S hS=>?_
 unfold z5V at hr
 refine J (gn 9)<|ifE hr ?_ ?_<;>intro h1 hr
 exact e
 exact e
theorem k2r {a0:Int}{a1:Int}{r:Int}(hr:z7L a0 a1=some r):Ok Tryz.prog 332 [dI a0,dI a1] [] (dI r) []:=by
 refine OE Tryz.func332 fun S hS=>?_
 unfold z7L at hr
 refine J (gn 15)<|ifE hr ?_ ?_<;>intro h1 hr
 refine bdE hr fun y1 hy1 hr=>J g<|J (CB' [] [] (j8m hy1))<|e
 refine J (gn 6)<|ifE hr ?_ ?_<;>intro h2 hr
 refine J g<|J (OB' _ k9Z)<|e
 refine J (gn 6)<|ifE hr ?_ ?_<;>intro h3 hr
 refine bdE hr fun y2 hy2 hr=>J g<|J (CB' [] [] (j9H hy2))<|e
 refine J (gn 6)<|ifE hr ?_ ?_<;>intro h4 hr
 refine bdE hr fun y3 hy3 hr=>J g<|J (CB' [] [] (q5O hy3))<|J (gn 1)<|ifE hr ?_ ?_<;>intro h5 hr
 exact e
 exact e
 exact e
theorem j8n {a0:Int}{a1:Int}{r:Bool}(hr:z4t a0 a1=some r):Ok Tryz.prog 330 [dI a0,dI a1] [] (dB r) []:=by
 refine OE Tryz.func330 fun S hS=>?_
 unfold z4t at hr
 refine bdE hr fun y1 hy1 hr=>J g<|J (CB' [] [] (q5O hy1))<|ifE hr ?_ ?_<;>intro h1 hr
 refine bdE hr fun y2 hy2 hr=>J g<|J (CB' [] [] (k2r hy2))<|e
 exact e
theorem k2s {m:Md}{a0:Expr}{r:Bool}(hr:z7M a0=some r):Ok Tryz.prog 326 [Expr.x m a0] [] (dB r) []:=by
 refine OE Tryz.func326 fun S hS=>?_
 unfold z7M at hr
 refine J g<|J (BX' 0)<|bdE hr fun y1 hy1 hr=>J g<|J (CB' [] [] (q5O hy1))<|bdE hr fun s1 hqq1 hr=>J (gn 1)<|q0a 5 [(1,.pb 0 0),(11,dB s1)] ?_ ?_
 replace hr:=hqq1
 refine ifE hr ?_ ?_<;>intro h1 hr
 refine bdE hr fun y2 hy2 hr=>J g<|J (CB' [] [] (k2q (m:=m) hy2))<|e
 exact e
 refine J (gn 1)<|ifE hr ?_ ?_<;>intro h2 hr
 exact e
 refine J (gn 14)<|ifE hr ?_ ?_<;>intro h3 hr
 refine bdE hr fun y3 hy3 hr=>J g<|J (CB' [] [] (q5O hy3))<|bdE hr fun s2 hqq2 hr=>q0a 7 [(1,.pb 0 0),(25,dB s2)] ?_ ?_
 replace hr:=hqq2
 refine ifE hr ?_ ?_<;>intro h4 hr
 refine bdE hr fun y4 hy4 hr=>J g<|J (CB' [] [] (j8n hy4))<|e
 exact e
 refine bdE hr fun s3 hqq3 hr=>q0a 5 [(30,dB s3)] ?_ ?_
 replace hr:=hqq3
 refine ifE hr ?_ ?_<;>intro h5 hr
 exact e
 exact e
 exact e
 refine J (gn 6)<|ifE hr ?_ ?_<;>intro h6 hr
 refine bdE hr fun y5 hy5 hr=>J g<|J (CB' [] [] (q5O hy5))<|bdE hr fun s4 hqq4 hr=>q0a 5 [(40,dB s4)] ?_ ?_
 replace hr:=hqq4
 refine ifE hr ?_ ?_<;>intro h7 hr
 refine bdE hr fun y6 hy6 hr=>J g<|J (CB' [] [] (q5F hy6))<|e
 exact e
 exact e
 refine J (gn 6)<|ifE hr ?_ ?_<;>intro h8 hr
 refine bdE hr fun y7 hy7 hr=>J g<|J (CB' [] [] (q5O hy7))<|e
 refine J (gn 6)<|ifE hr ?_ ?_<;>intro h9 hr
 refine bdE hr fun y8 hy8 hr=>J g<|J (CB' [] [] (q5O hy8))<|e
 refine J (gn 6)<|ifE hr ?_ ?_<;>intro h10 hr
 refine bdE hr fun y9 hy9 hr=>J g<|J (CB' [] [] (q5F hy9))<|bdE hr fun s5 hqq5 hr=>q0a 5 [(60,dB s5)] ?_ ?_
 replace hr:=hqq5
 refine ifE hr ?_ ?_<;>intro h11 hr
 refine bdE hr fun y10 hy10 hr=>J g<|J (CB' [] [] (q5F hy10))<|e
 exact e
 exact e
 exact e
theorem k2t {rec_sl4All:Expr→Option Bool}(ih_sl4All:∀ {m:Md} {a0:Expr} {r:Bool},rec_sl4All a0=some r→Ok Tryz.prog 322 [Expr.x m a0] [] (dB r) []){m:Md}{a0:Expr}{r:Bool}(hr:j0g rec_sl4All a0=some r):Ok Tryz.prog 322 [Expr.x m a0] [] (dB r) []:=by
 refine OE Tryz.func322 fun S hS=>?_
 unfold j0g at hr
 refine J g<|J (BX' 0)<|J (gn 8)<|J (lenA 6 0)<|fun hl1=>bdE hr fun q1 hqq1 hr=>q0b hqq1 hl1 1 (fun k1 _=>[(1,.pb 0 0),(3,dI (k1:Int))]) (fun k1 _=>[]) I (fun k1 xk1 sk1 ok1 hxk1 hr hltk1 hik1=>?_) fun k1 sk1 ek1 hltk1=>?_
 refine bdE hr fun y1 hy1 hr=>J g<|J (CB' [] [] (ih_sl4All (m:=m) hy1))<|J (gn 2)<|ifE hr ?_ ?_<;>intro h1 hr
 exact e
 exact e
 subst ek1
 refine bdE hr fun y2 hy2 hr=>J g<|J (CB' [] [] (k2s (m:=m) hy2))<|e
theorem k2u (n:Nat):∀ {m:Md} {a0:Expr} {r:Bool},j0h n a0=some r→Ok Tryz.prog 322 [Expr.x m a0] [] (dB r) []:=by
  induction n with
  | zero=>intro _ _ r hr;exact nomatch (show (none:Option Bool)=some r from hr)
  | succ n ih=>intro _ _ r hr;exact k2t ih hr
theorem k3T {m:Md}{a0:Expr}{r:Bool}(hr:j6x a0=some r):Ok Tryz.prog 322 [Expr.x m a0] [] (dB r) []:=by
 obtain⟨n,hn⟩:=q5Z hr
 exact k2u n hn
theorem j3W {m:Md}{a0:Expr}{r:Bool}(hr:z0C a0=some r):Ok Tryz.prog 309 [Expr.x m a0] [] (dB r) []:=by
 refine OE Tryz.func309 fun S hS=>?_
 unfold z0C at hr
 refine J g<|J (BX' 0)<|bdE hr fun y1 hy1 hr=>J g<|J (CB' [] [] (k2p (m:=m) hy1))<|bdE hr fun s1 hqq1 hr=>J (gn 1)<|q0a 5 [(1,.pb 0 0),(2,dB false),(10,dB s1)] ?_ ?_
 replace hr:=hqq1
 refine ifE hr ?_ ?_<;>intro h1 hr
 refine bdE hr fun y2 hy2 hr=>J g<|J (CB' [] [] (j3V (m:=m) hy2))<|e
 exact e
 refine bdE hr fun s2 hqq2 hr=>q0a 4 [(2,dB false),(14,dB s2)] ?_ ?_
 replace hr:=hqq2
 refine ifE hr ?_ ?_<;>intro h2 hr
 refine bdE hr fun y3 hy3 hr=>J g<|J (CB' [] [] (k3T (m:=m) hy3))<|e
 exact e
 exact e
theorem j6H {rec_sl9Within:Expr→Int→Option Bool}(ih_sl9Within:∀ {m:Md} {a0:Expr} {a1:Int} {r:Bool},rec_sl9Within a0 a1=some r→Ok Tryz.prog 310 [Expr.x m a0,dI a1] [] (dB r) []){m:Md}{a0:Expr}{a1:Int}{r:Bool}(hr:z4u rec_sl9Within a0 a1=some r):Ok Tryz.prog 310 [Expr.x m a0,dI a1] [] (dB r) []:=by
 refine OE Tryz.func310 fun S hS=>?_
 unfold z4u at hr
 refine J g<|J (BX' 0)<|J (gn 8)<|J (lenA 6 0)<|fun hl1=>bdE hr fun q1 hqq1 hr=>q0b hqq1 hl1 1 (fun k1 _=>[(1,dI a1),(2,.pb 0 0),(5,dI (k1:Int))]) (fun k1 _=>[]) I (fun k1 xk1 sk1 ok1 hxk1 hr hltk1 hik1=>?_) fun k1 sk1 ek1 hltk1=>?_
 refine bdE hr fun y1 hy1 hr=>J g<|J (CB' [] [] (ih_sl9Within (m:=m) hy1))<|J (gn 2)<|ifE hr ?_ ?_<;>intro h1 hr
 exact e
 exact e
 subst ek1
 exact e
theorem j6I (n:Nat):∀ {m:Md} {a0:Expr} {a1:Int} {r:Bool},z4v n a0 a1=some r→Ok Tryz.prog 310 [Expr.x m a0,dI a1] [] (dB r) []:=by
  induction n with
  | zero=>intro _ _ _ r hr;exact nomatch (show (none:Option Bool)=some r from hr)
  | succ n ih=>intro _ _ _ r hr;exact j6H ih hr
theorem j8o {m:Md}{a0:Expr}{a1:Int}{r:Bool}(hr:z9p a0 a1=some r):Ok Tryz.prog 310 [Expr.x m a0,dI a1] [] (dB r) []:=by
 obtain⟨n,hn⟩:=q5Z hr
 exact j6I n hn
theorem j1j {m:Md}{a0:Expr}{a1:Int}{r:Bool}(hr:z4w a0 a1=some r):Ok Tryz.prog 293 [Expr.x m a0,dI a1] [] (dB r) []:=by
 refine OE Tryz.func293 fun S hS=>?_
 unfold z4w at hr
 refine J g<|J (BX' 0)<|bdE hr fun y1 hy1 hr=>J g<|J (CB' [] [] (j3W (m:=m) hy1))<|ifE hr ?_ ?_<;>intro h1 hr
 refine bdE hr fun y2 hy2 hr=>J g<|J (CB' [] [] (j8o (m:=m) hy2))<|e
 exact e
theorem j3X {m:Md}{a0:Rule}{r:Bool}(hr:z0D a0=some r):Ok Tryz.prog 254 [Rule.x m a0] [] (dB r) []:=by
 refine OE Tryz.func254 fun S hS=>?_
 unfold z0D at hr
 refine J g<|J (BX' 0)<|bdE hr fun y1 hy1 hr=>J g<|J (CB' [] [] (q5F hy1))<|bdE hr fun s1 hqq1 hr=>J (gn 1)<|q0a 6 [(1,.pb 0 0),(3,dI (a0.Right.length:Int)),(21,dB s1)] ?_ ?_
 replace hr:=hqq1
 refine ifE hr ?_ ?_<;>intro h1 hr
 refine bdE hr fun y2 hy2 hr=>J g<|J (CB' [] [] (q5F hy2))<|e
 exact e
 refine bdE hr fun s2 hqq2 hr=>q0a 4 [(1,.pb 0 0),(3,dI (a0.Right.length:Int)),(25,dB s2)] ?_ ?_
 replace hr:=hqq2
 refine ifE hr ?_ ?_<;>intro h2 hr
 exact e
 exact e
 refine bdE hr fun s3 hqq3 hr=>q0a 6 [(1,.pb 0 0),(3,dI (a0.Right.length:Int)),(31,dB s3)] ?_ ?_
 replace hr:=hqq3
 refine ifE hr ?_ ?_<;>intro h3 hr
 exact e
 exact e
 refine J (gn 1)<|ifE hr ?_ ?_<;>intro h4 hr
 exact e
 refine J (gn 8) ?_
 refine AW.len (.box 0 2 rfl rfl) fun hl1=>?_
 refine bdE hr fun q4 hqq4 hr=>q0b hqq4 hl1 1 (fun k1 _=>[(1,.pb 0 0),(3,dI (a0.Right.length:Int)),(4,dI (k1:Int))]) (fun k1 _=>[]) I (fun k1 xk1 sk1 ok1 hxk1 hr hltk1 hik1=>?_) fun k1 sk1 ek1 hltk1=>?_
 refine bdE hr fun y3 hy3 hr=>J g<|J (CB' [] [] (q5F hy3))<|J (gn 2)<|ifE hr ?_ ?_<;>intro h5 hr
 exact e
 exact e
 subst ek1
 refine J (gn 15) ?_
 refine AW.len (.box 0 4 rfl rfl) fun hl2=>?_
 refine bdE hr fun q5 hqq5 hr=>q0b hqq5 hl2 1 (fun k2 _=>[(1,.pb 0 0),(3,dI (a0.Right.length:Int)),(5,dI (k2:Int))]) (fun k2 _=>[]) I (fun k2 xk2 sk2 ok2 hxk2 hr hltk2 hik2=>?_) fun k2 sk2 ek2 hltk2=>?_
 refine J g<|J (NV' 1)<|bdE hr fun y4 hy4 hr=>J g<|J (CB' [] [] (q5F hy4))<|bdE hr fun s4 hqq6 hr=>J (gn 1)<|q0a 8 [(1,.pb 0 0),(3,dI (a0.Right.length:Int)),(5,dI (k2:Int)),(6,.pb 1 0),(68,dB s4)] ?_ ?_
 replace hr:=hqq6
 refine ifE hr ?_ ?_<;>intro h6 hr
 refine bdE hr fun y5 hy5 hr=>J g<|J (CB' [] [] (q5O hy5))<|e
 exact e
 refine bdE hr fun s5 hqq7 hr=>q0a 7 [(1,.pb 0 0),(3,dI (a0.Right.length:Int)),(5,dI (k2:Int)),(75,dB s5)] ?_ ?_
 replace hr:=hqq7
 refine ifE hr ?_ ?_<;>intro h7 hr
 exact e
 refine bdE hr fun y6 hy6 hr=>J g<|J (CB' [] [] (j1j (m:=m) hy6))<|e
 refine J (gn 1)<|ifE hr ?_ ?_<;>intro h8 hr
 exact e
 exact e
 subst ek2
 refine J (gn 17) ?_
 refine AW.len (.box 0 5 rfl rfl) fun hl3=>?_
 refine bdE hr fun q8 hqq8 hr=>q0b hqq8 hl3 1 (fun k3 _=>[(1,.pb 0 0),(3,dI (a0.Right.length:Int)),(7,dI (k3:Int))]) (fun k3 _=>[]) I (fun k3 xk3 sk3 ok3 hxk3 hr hltk3 hik3=>?_) fun k3 sk3 ek3 hltk3=>?_
 refine J g<|J (NV' 1)<|bdE hr fun y7 hy7 hr=>J g<|J (CB' [] [] (q5F hy7))<|bdE hr fun s6 hqq9 hr=>J (gn 1)<|q0a 6 [(1,.pb 0 0),(3,dI (a0.Right.length:Int)),(7,dI (k3:Int)),(8,.pb 1 0),(97,dB s6)] ?_ ?_
 replace hr:=hqq9
 refine ifE hr ?_ ?_<;>intro h9 hr
 refine bdE hr fun y8 hy8 hr=>J g<|J (CB' [] [] (q5F hy8))<|e
 exact e
 refine bdE hr fun s7 hqq10 hr=>q0a 7 [(1,.pb 0 0),(3,dI (a0.Right.length:Int)),(7,dI (k3:Int)),(8,.pb 1 0),(104,dB s7)] ?_ ?_
 replace hr:=hqq10
 refine ifE hr ?_ ?_<;>intro h10 hr
 exact e
 refine bdE hr fun y9 hy9 hr=>J g<|J (CB' [] [] (j1j (m:=m) hy9))<|e
 refine bdE hr fun s8 hqq11 hr=>q0a 7 [(1,.pb 0 0),(3,dI (a0.Right.length:Int)),(7,dI (k3:Int)),(111,dB s8)] ?_ ?_
 replace hr:=hqq11
 refine ifE hr ?_ ?_<;>intro h11 hr
 exact e
 refine bdE hr fun y10 hy10 hr=>J g<|J (CB' [] [] (j1j (m:=m) hy10))<|e
 refine J (gn 1)<|ifE hr ?_ ?_<;>intro h12 hr
 exact e
 exact e
 subst ek3
 exact e
theorem k2v {m:Md}{a0:Grammar}{r:Int}(hr:z7Q a0=some r):Ok Tryz.prog 215 [Grammar.x m a0] [] (dI r) []:=by
 refine OE Tryz.func215 fun S hS=>?_
 unfold z7Q at hr
 refine J g<|J (BX' 0)<|J g<|J (L0' 1 A.D.s)<|J (gn 8)<|J (lenA 0 0)<|fun hl1=>bdE hr fun q1 hqq1 hr=>q0b hqq1 hl1 2 (fun k1 s1=>[(1,.pb 0 0),(3,.ref 1 none),(4,dI (k1:Int))]) (fun k1 s1=>[(1,.row .fz 1 (s1.map A.D.s))]) I (fun k1 xk1 sk1 ok1 hxk1 hr hltk1 hik1=>?_) fun k1 sk1 ek1 hltk1=>?_
 obtain⟨s1,rfl⟩:∃ y,y=sk1:=⟨_,rfl⟩
 refine bdE hr fun y1 hy1 hr=>J g<|J (CB' [] [] (j1i (m:=m) hy1))<|J (gn 1)<|ifE hr ?_ ?_<;>intro h1 hr
 refine bdE hr fun y2 hy2 hr=>J g<|J (CB' [] [1] (j0D (m:=.bo) hy2))<|J (gn 2)<|ifE hr ?_ ?_<;>intro h2 hr
 exact e
 refine J g<|J (LIR' 2 (m:=.fz) (f:=A.D.s) (xs:=[xk1.Name]))<|ggE hr fun g1 hr=>J (z3b (f:=A.D.s) 3 (fun _=>rfl) 16 g1)<|e
 exact e
 subst ek1
 obtain⟨s1,rfl⟩:∃ y,y=sk1:=⟨_,rfl⟩
 refine J g<|J (L0' 2 A.D.s)<|J (gn 8) ?_
 refine AW.len (.box 0 1 rfl rfl) fun hl2=>?_
 refine bdE hr fun q2 hqq2 hr=>q0b hqq2 hl2 3 (fun k2 s2=>[(1,.pb 0 0),(3,.ref 2 none),(5,dI (k2:Int))]) (fun k2 s2=>[(2,.row .fz 1 (s2.map A.D.s))]) I (fun k2 xk2 sk2 ok2 hxk2 hr hltk2 hik2=>?_) fun k2 sk2 ek2 hltk2=>?_
 obtain⟨s2,rfl⟩:∃ y,y=sk2:=⟨_,rfl⟩
 refine bdE hr fun y3 hy3 hr=>J g<|J (CB' [] [] (j3X (m:=m) hy3))<|J (gn 1)<|ifE hr ?_ ?_<;>intro h3 hr
 refine bdE hr fun y4 hy4 hr=>J g<|J (CB' [] [2] (j0D (m:=.bo) hy4))<|J (gn 2)<|ifE hr ?_ ?_<;>intro h4 hr
 exact e
 refine J g<|J (LIR' 3 (m:=.fz) (f:=A.D.s) (xs:=[xk2.Name]))<|ggE hr fun g2 hr=>J (z3b (f:=A.D.s) 4 (fun _=>rfl) 16 g2)<|e
 exact e
 subst ek2
 obtain⟨s2,rfl⟩:∃ y,y=sk2:=⟨_,rfl⟩
 exact e
theorem q8L {m:Md}{a0:Rule}{a1:Int}{r:ByteArray}(hr:q4P a0 a1=some r):Ok Tryz.prog 66 [Rule.x m a0,dI a1] [] (dS r) []:=by
 refine OE Tryz.func66 fun S hS=>?_
 unfold q4P at hr
 refine J g<|J (BX' 0)<|J (gn 8)<|ifE hr ?_ ?_<;>intro h1 hr
 exact e
 refine bdE hr fun y1 hy1 hr=>J g<|J (CB' [] [] (q5O hy1))<|J (gn 2)<|ifE hr ?_ ?_<;>intro h2 hr
 refine ggE hr fun g1 hr=>ggE hr fun g2 hr=>bdE hr fun x1 hx1 hr=>e
 exact e
theorem j6J {m:Md}{a0:Symbol}{r:Symbol}(hr:q9P a0=some r):Ok Tryz.prog 166 [Symbol.x m a0] [] (.ag [dS r.Name,.ref 0 none]) [.row .fz 4 (r.Attributes.map At_.D)]:=by
 refine OE Tryz.func166 fun S hS=>?_
 unfold q9P at hr
 refine J g<|J (BX' 0)<|J (NV' 1)<|J g<|J (L0' 2 At_.D)<|ggE hr fun g1 hr=>J g<|J (j9u (f:=At_.D) 3 40 (fun _=>rfl) g1)<|e
theorem q9t {m:Md}{a0:Grammar}{a1:ByteArray}{r:(Symbol×Bool)}(hr:q5T a0 a1=some r):Ok Tryz.prog 107 [Grammar.y m a0,dS a1] [] (.tu [.ag [dS r.1.Name,.ref 0 none],dB r.2]) [.row .fz 4 (r.1.Attributes.map At_.D)]:=by
 refine OE Tryz.func107 fun S hS=>?_
 unfold q5T at hr
 refine J g<|J (BX' 0)<|J (NV' 1)<|J (gn 8)<|J (lenA 0 0)<|fun hl1=>bdE hr fun q1 hqq1 hr=>q0b hqq1 hl1 2 (fun k1 _=>[(1,dS a1),(2,.pb 0 0),(4,.pb 1 0),(6,dI (k1:Int))]) (fun k1 _=>[]) I (fun k1 xk1 sk1 ok1 hxk1 hr hltk1 hik1=>?_) fun k1 sk1 ek1 hltk1=>?_
 refine J (gn 24)<|ifE hr ?_ ?_<;>intro h1 hr
 refine bdE hr fun y1 hy1 hr=>J g<|J (CB' [(0,2)] [] (j6J (m:=m) hy1))<|e
 exact e
 subst ek1
 refine J (gn 18) ?_
 refine J (q0g (q0q (q:=1) (c:=1) (r:=2) .fz 4 rfl rfl rfl))<|J g<|E
theorem j5e {m:Md}{a0:Grammar}{a1:Rule}{r:Bool}(hr:z1w a0 a1=some r):Ok Tryz.prog 255 [Grammar.y m a0,Rule.x m a1] [] (dB r) []:=by
 refine OE Tryz.func255 fun S hS=>?_
 unfold z1w at hr
 refine J g<|J (BX' 0)<|J (BX' 1)<|bdE hr fun q1 hqq1 hr=>J (gn 7)<|AW.cut 2 (fun _=>[]) (fun _=>[]) (M:=fun x=>q1=.inl x) ?_ fun x hx=>?_
 refine J g<|q0h hqq1 2 (fun s1=>[(2,.pb 0 0),(3,.pb 1 0),(5,dI s1)]) (fun s1=>[]) I fun sk1 ok1 hr hik1=>?_
 obtain⟨s1,rfl⟩:∃ y,y=sk1:=⟨_,rfl⟩
 have hr:=hr
 refine J (gn 9)<|ifE hr ?_ ?_<;>intro h1 hr
 refine bdE hr fun y1 hy1 hr=>J g<|J (CB' [] [] (q8L (m:=m) hy1))<|bdP hr fun y2 y3 hq2 hr=>J (CB' [(0,2)] [] (q9t (m:=m) hq2))<|J g<|J (NV' 3)<|J (gn 8)<|ifE hr ?_ ?_<;>intro h2 hr
 refine ggE hr fun g1 hr=>e
 exact e
 refine J (gn 2) ?_
 cases hr
 cases hik1 _ rfl
 exact⟨_,rfl,GH.trans (q1c (q:=0) [.d m (.sl 2 (a0.Symbols.map Symbol.D)),.u] (.cons .rfl (.cons .u .nil)) rfl) (q0d hS 2)⟩
 subst hx
 exact e
theorem q7i {m:Md}{a0:Grammar}{a1:Rule}{r:(List Oc)}(hr:q3M a0 a1=some r):Ok Tryz.prog 191 [Grammar.y m a0,Rule.x m a1] [] (.ref 0 none) [.row .fz 2 (r.map Oc.D)]:=by
 refine OE Tryz.func191 fun S hS=>?_
 unfold q3M at hr
 refine J g<|J (BX' 0)<|J (BX' 1)<|J g<|J (L0' 2 Oc.D)<|bdE hr fun s1 hqq1 hr=>J (gn 7)<|q0e 3 [(5,.ref 2 none)] [(2,.row .fz 2 (s1.map Oc.D))] ?_ ?_
 refine J g<|q0h hqq1 3 (fun (s2,s3)=>[(2,.pb 0 0),(3,.pb 1 0),(5,.ref 2 none),(6,dI s3)]) (fun (s2,s3)=>[(2,.row .fz 2 (s2.map Oc.D))]) I fun sk1 ok1 hr hik1=>?_
 obtain⟨s2,s3⟩:=sk1
 have hr:=hr
 refine J (gn 9)<|ifE hr ?_ ?_<;>intro h1 hr
 refine bdE hr fun s4 hqq2 hr=>J (gn 3)<|q0e 3 [(2,.pb 0 0),(3,.pb 1 0),(5,.ref 2 none),(6,dI s3)] [(2,.row .fz 2 (s4.map Oc.D))] ?_ ?_
 replace hr:=hqq2
 refine bdE hr fun y1 hy1 hr=>J g<|J (CB' [] [] (q8L (m:=m) hy1))<|bdP hr fun y2 y3 hq3 hr=>J (CB' [(0,3)] [] (q9t (m:=m) hq3))<|J g<|J (NV' 4)<|J (gn 13)<|ifE hr ?_ ?_<;>intro h2 hr
 refine J (gn 9)<|J (lenR 3)<|fun hl2=>bdE hr fun s5 hqq4 hr=>q0c hqq4 hl2 5 (fun k2 s5=>[(2,.pb 0 0),(3,.pb 1 0),(5,.ref 2 none),(6,dI s3),(7,.pb 4 0),(9,dI 2),(10,dI (k2:Int))]) (fun k2 s5=>[(2,.row .fz 2 (s5.map Oc.D))]) I (fun k2 xk2 sk2 ok2 hxk2 hr hltk2=>?_) fun k2 hltk2=>?_
 obtain⟨s5,rfl⟩:∃ y,y=sk2:=⟨_,rfl⟩
 refine bdE hr fun s6 hqq5 hr=>J (gn 12)<|q0e 5 [(2,.pb 0 0),(3,.pb 1 0),(5,.ref 2 none),(6,dI s3),(7,.pb 4 0),(9,dI 2),(10,dI (k2:Int))] [(2,.row .fz 2 (s6.map Oc.D))] ?_ ?_
 replace hr:=hqq5
 refine J (gn 12)<|ifE hr ?_ ?_<;>intro h3 hr
 refine J g<|J (LIR' 5 (m:=.fz) (f:=Oc.D) (xs:=[(⟨s3,xk2.Name⟩:Oc)]))<|ggE hr fun g1 hr=>J (z3b (f:=Oc.D) 6 (fun _=>rfl) 24 g1)<|e
 exact e
 exact e
 exact e
 refine J (gn 7)<|J (lenR 3)<|fun hl3=>bdE hr fun s7 hqq6 hr=>q0c hqq6 hl3 5 (fun k3 s7=>[(2,.pb 0 0),(3,.pb 1 0),(5,.ref 2 none),(6,dI s3),(7,.pb 4 0),(9,dI 1),(10,dI (k3:Int))]) (fun k3 s7=>[(2,.row .fz 2 (s7.map Oc.D))]) I (fun k3 xk3 sk3 ok3 hxk3 hr hltk3=>?_) fun k3 hltk3=>?_
 obtain⟨s7,rfl⟩:∃ y,y=sk3:=⟨_,rfl⟩
 refine bdE hr fun s8 hqq7 hr=>J (gn 12)<|q0e 5 [(2,.pb 0 0),(3,.pb 1 0),(5,.ref 2 none),(6,dI s3),(7,.pb 4 0),(9,dI 1),(10,dI (k3:Int))] [(2,.row .fz 2 (s8.map Oc.D))] ?_ ?_
 replace hr:=hqq7
 refine J (gn 12)<|ifE hr ?_ ?_<;>intro h4 hr
 refine J g<|J (LIR' 5 (m:=.fz) (f:=Oc.D) (xs:=[(⟨s3,xk3.Name⟩:Oc)]))<|ggE hr fun g2 hr=>J (z3b (f:=Oc.D) 6 (fun _=>rfl) 24 g2)<|e
 exact e
 exact e
 exact e
 refine ggE hr fun g3 hr=>e
 refine J (gn 2) ?_
 cases hr
 cases hik1 _ rfl
 exact GH.trans (q1c (q:=0) [.d m (.sl 2 (a0.Symbols.map Symbol.D)),.u] (.cons .rfl (.cons .u .nil)) rfl) (q0d hS 3)
 exact e
theorem j9I {rec_sl4Copy:Expr→Option Expr}(ih_sl4Copy:∀ {m:Md} {a0:Expr} {r:Expr},rec_sl4Copy a0=some r→Ok Tryz.prog 207 [Expr.x m a0] [] (.ag [dI r.Kind,dI r.N,dI r.Pos,dI r.Type_,dS r.Symbol,dS r.Name,.ref 0 none]) [.row .fz 7 (r.Args.map Expr.D)]){m:Md}{a0:Expr}{r:Expr}(hr:z1x rec_sl4Copy a0=some r):Ok Tryz.prog 207 [Expr.x m a0] [] (.ag [dI r.Kind,dI r.N,dI r.Pos,dI r.Type_,dS r.Symbol,dS r.Name,.ref 0 none]) [.row .fz 7 (r.Args.map Expr.D)]:=by
 refine OE Tryz.func207 fun S hS=>?_
 unfold z1x at hr
 refine J g<|J (BX' 0)<|J (NV' 1)<|J g<|J (L0' 2 Expr.D)<|J (gn 8)<|J (lenA 6 0)<|fun hl1=>bdE hr fun s1 hqq1 hr=>q0c hqq1 hl1 3 (fun k1 s1=>[(1,.pb 0 0),(2,.pb 1 0),(3,.ref 2 none),(4,dI (k1:Int))]) (fun k1 s1=>[(2,.row .fz 7 (s1.map Expr.D))]) I (fun k1 xk1 sk1 ok1 hxk1 hr hltk1=>?_) fun k1 hltk1=>?_
 obtain⟨s1,rfl⟩:∃ y,y=sk1:=⟨_,rfl⟩
 refine bdE hr fun y1 hy1 hr=>J g<|J (CB' [(0,3)] [] (ih_sl4Copy (m:=m) hy1)) ?_
 refine J (q0v 3 rfl) ?_
 refine J (x0f 4 (m:=.fz) (f:=Expr.D) [y1] (by simp only[List.map_cons,List.map_nil,Expr.D_eq];rfl))<|ggE hr fun g1 hr=>J (AP1' 5 .fz 88 g1)<|J g<|E
 exact e
theorem j9J (n:Nat):∀ {m:Md} {a0:Expr} {r:Expr},q7z n a0=some r→Ok Tryz.prog 207 [Expr.x m a0] [] (.ag [dI r.Kind,dI r.N,dI r.Pos,dI r.Type_,dS r.Symbol,dS r.Name,.ref 0 none]) [.row .fz 7 (r.Args.map Expr.D)]:=by
  induction n with
  | zero=>intro _ _ r hr;exact nomatch (show (none:Option Expr)=some r from hr)
  | succ n ih=>intro _ _ r hr;exact j9I ih hr
theorem k2w {m:Md}{a0:Expr}{r:Expr}(hr:j0i a0=some r):Ok Tryz.prog 207 [Expr.x m a0] [] (.ag [dI r.Kind,dI r.N,dI r.Pos,dI r.Type_,dS r.Symbol,dS r.Name,.ref 0 none]) [.row .fz 7 (r.Args.map Expr.D)]:=by
 obtain⟨n,hn⟩:=q5Z hr
 exact j9J n hn
theorem z3E {m:Md}{a0:Rule}{a1:Oc}{r:(Expr×Bool)}(hr:q5B a0 a1=some r):Ok Tryz.prog 152 [Rule.x m a0,Oc.x .fz a1] [] (.tu [.ag [dI r.1.Kind,dI r.1.N,dI r.1.Pos,dI r.1.Type_,dS r.1.Symbol,dS r.1.Name,.ref 0 none],dB r.2]) [.row .fz 7 (r.1.Args.map Expr.D)]:=by
 refine OE Tryz.func152 fun S hS=>?_
 unfold q5B at hr
 refine J g<|J (BX' 0)<|J (BX' 1)<|J (NV' 2)<|J (gn 8)<|J (lenA 4 0)<|fun hl1=>bdE hr fun q1 hqq1 hr=>q0b hqq1 hl1 3 (fun k1 _=>[(2,.pb 0 0),(3,.pb 1 0),(4,.pb 2 0),(6,dI (k1:Int))]) (fun k1 _=>[]) I (fun k1 xk1 sk1 ok1 hxk1 hr hltk1 hik1=>?_) fun k1 sk1 ek1 hltk1=>?_
 refine J g ?_
 refine J (SQ' rfl rfl rfl rfl (q6f xk1.At a1))<|J (gn 1)<|ifE hr ?_ ?_<;>intro h1 hr
 refine bdE hr fun y1 hy1 hr=>J g<|J (CB' [(0,3)] [] (k2w (m:=m) hy1))<|e
 exact e
 subst ek1
 refine J (gn 18) ?_
 refine J (q0g (q0q (q:=2) (c:=6) (r:=3) .fz 7 rfl rfl rfl))<|J g<|E
theorem j5f {m:Md}{a0:Grammar}{a1:Rule}{r:Bool}(hr:z1y a0 a1=some r):Ok Tryz.prog 256 [Grammar.y m a0,Rule.x m a1] [] (dB r) []:=by
 refine OE Tryz.func256 fun S hS=>?_
 unfold z1y at hr
 refine J g<|J (BX' 0)<|J (BX' 1)<|bdE hr fun y1 hy1 hr=>J g<|J (CB' [(0,2)] [] (q7i (m:=m) hy1))<|J (gn 8)<|J (lenR 2)<|fun hl1=>bdE hr fun q1 hqq1 hr=>q0b hqq1 hl1 3 (fun k1 _=>[(3,.pb 1 0),(5,.ref 2 none),(6,dI (k1:Int))]) (fun k1 _=>[]) I (fun k1 xk1 sk1 ok1 hxk1 hr hltk1 hik1=>?_) fun k1 sk1 ek1 hltk1=>?_
 refine bdP hr fun y2 y3 hq2 hr=>J g<|J (CB' [(0,3)] [] (z3E (m:=m) hq2))<|J g<|J (NV' 4)<|J (gn 8)<|ifE hr ?_ ?_<;>intro h1 hr
 exact e
 exact e
 subst ek1
 exact e
theorem z1l {m:Md}{a0:(List Oc)}{a1:Oc}{r:Bool}(hr:q6O a0 a1=some r):Ok Tryz.prog 192 [.d m (.sl 2 (a0.map Oc.D)),Oc.x .fz a1] [] (dB r) []:=by
 refine OE Tryz.func192 fun S hS=>?_
 unfold q6O at hr
 refine J g<|J (BX' 0)<|J (gn 8)<|J (lenT 0)<|fun hl1=>bdE hr fun q1 hqq1 hr=>q0b hqq1 hl1 1 (fun k1 _=>[(0,.d m (.sl 2 (a0.map Oc.D))),(3,.pb 0 0),(5,dI (k1:Int))]) (fun k1 _=>[]) I (fun k1 xk1 sk1 ok1 hxk1 hr hltk1 hik1=>?_) fun k1 sk1 ek1 hltk1=>?_
 refine J g ?_
 refine J (SQ' rfl rfl rfl rfl (q6f xk1 a1))<|J (gn 1)<|ifE hr ?_ ?_<;>intro h1 hr
 exact e
 exact e
 subst ek1
 exact e
theorem j8p {m:Md}{a0:Grammar}{a1:Rule}{r:Bool}(hr:z4x a0 a1=some r):Ok Tryz.prog 257 [Grammar.y m a0,Rule.x m a1] [] (dB r) []:=by
 refine OE Tryz.func257 fun S hS=>?_
 unfold z4x at hr
 refine J g<|J (BX' 0)<|J (BX' 1)<|bdE hr fun y1 hy1 hr=>J g<|J (CB' [(0,2)] [] (q7i (m:=m) hy1))<|J g<|J (L0' 3 Oc.D)<|J (gn 8)<|J (lenA 4 1)<|fun hl1=>bdE hr fun q1 hqq1 hr=>q0b hqq1 hl1 4 (fun k1 s1=>[(3,.pb 1 0),(5,.ref 2 none),(6,.ref 3 none),(7,dI (k1:Int))]) (fun k1 s1=>[(3,.row .fz 2 (s1.map Oc.D))]) I (fun k1 xk1 sk1 ok1 hxk1 hr hltk1 hik1=>?_) fun k1 sk1 ek1 hltk1=>?_
 obtain⟨s1,rfl⟩:∃ y,y=sk1:=⟨_,rfl⟩
 refine J g<|J (NV' 4)<|bdE hr fun y2 hy2 hr=>J g<|J (CB' [] [2] (z1l (m:=.bo) hy2))<|J (gn 1)<|ifE hr ?_ ?_<;>intro h1 hr
 refine bdE hr fun y3 hy3 hr=>J g<|J (CB' [] [3] (z1l (m:=.bo) hy3))<|J (gn 2)<|ifE hr ?_ ?_<;>intro h2 hr
 exact e
 refine J g<|J (LIR' 5 (m:=.fz) (f:=Oc.D) (xs:=[xk1.At]))<|ggE hr fun g1 hr=>J (z3b (f:=Oc.D) 6 (fun _=>rfl) 24 g1)<|e
 exact e
 subst ek1
 obtain⟨s1,rfl⟩:∃ y,y=sk1:=⟨_,rfl⟩
 exact e
theorem j8q {a0:Oc}{a1:Oc}{r:Bool}(hr:z4y a0 a1=some r):Ok Tryz.prog 287 [Oc.x .fz a0,Oc.x .fz a1] [] (dB r) []:=by
 refine OE Tryz.func287 fun S hS=>?_
 unfold z4y at hr
 refine J g<|J (BX' 0)<|J (BX' 1)<|bdE hr fun s1 hqq1 hr=>J (gn 9)<|q0a 14 [(4,dB false),(23,dB s1)] ?_ ?_
 replace hr:=hqq1
 refine ifE hr ?_ ?_<;>intro h1 hr
 exact e
 refine bdE hr fun s2 hqq2 hr=>J (gn 6)<|q0a 7 [(4,dB false),(10,dB false),(22,dB s2)] ?_ ?_
 replace hr:=hqq2
 refine ifE hr ?_ ?_<;>intro h2 hr
 exact e
 exact e
 exact e
 exact e
theorem k3U {m:Md}{a0:(List Oc)}{a1:Oc}{r:(List Oc)}(hr:j0j a0 a1=some r):Ok Tryz.prog 247 [.d m (.sl 2 (a0.map Oc.D)),Oc.x .fz a1] [] (.d m (.sl 2 (r.map Oc.D))) []:=by
 refine OE Tryz.func247 fun S hS=>?_
 unfold j0j at hr
 refine J g<|J (BX' 0)<|bdE hr fun s1 hqq1 hr=>J (gn 7)<|q0e 1 [(0,.d m (.sl 2 (a0.map Oc.D))),(3,.pb 0 0),(5,dI s1)] [] ?_ ?_
 refine J g<|q0h hqq1 1 (fun s2=>[(0,.d m (.sl 2 (a0.map Oc.D))),(3,.pb 0 0),(5,dI s2)]) (fun s2=>[]) I fun sk1 ok1 hr hik1=>?_
 obtain⟨s2,rfl⟩:∃ y,y=sk1:=⟨_,rfl⟩
 have hr:=hr
 refine J (gn 7)<|ifE hr ?_ ?_<;>intro h1 hr
 refine ggE hr fun g1 hr=>bdE hr fun x1 hx1 hr=>bdE hr fun y1 hy1 hr=>J g<|J (CB' [] [] (j8q hy1))<|J (gn 2)<|ifE hr ?_ ?_<;>intro h2 hr
 refine ggE hr fun g2 hr=>e
 refine J (gn 2) ?_
 cases hr
 cases hik1 _ rfl
 exact q0d hS 1
 refine J (gn 11) ?_
 cases hr
 cases hik1 _ rfl
 exact q0d hS 1
 refine J (gn 7)<|ifE hr ?_ ?_<;>intro h3 hr
 refine ggE hr fun g3 hr=>bdE hr fun x2 hx2 hr=>J g ?_
 refine J (SQ' rfl rfl rfl rfl (q6f x2 a1))<|J (gn 2)<|ifE hr ?_ ?_<;>intro h4 hr
 exact e
 refine J g<|J (L0' 1 Oc.D)<|ggE hr fun g4 hr=>ggE hr fun g5 hr=>J g<|J (SLH' g4 g5)<|ggE hr fun g6 hr=>J (j9u (f:=Oc.D) 2 24 (fun _=>rfl) g6)<|J g<|J (LIR' 3 (m:=.fz) (f:=Oc.D) (xs:=[a1]))<|ggE hr fun g7 hr=>J (z3b (f:=Oc.D) 4 (fun _=>rfl) 24 g7)<|ggE hr fun g8 hr=>ggE hr fun g9 hr=>J g<|J (SLL' g8 g9)<|ggE hr fun g10 hr=>J (j9u (f:=Oc.D) 5 24 (fun _=>rfl) g10)<|J (gn 3) ?_
 refine J (q0g (q0z (r:=5) rfl)) ?_
 cases hr
 exact endA.ren [] 0 (.inr rfl) hS rfl rfl rfl (.md rfl) rfl rfl
 refine J g<|J (L0' 1 Oc.D)<|ggE hr fun g11 hr=>ggE hr fun g12 hr=>J g<|J (SLH' g11 g12)<|ggE hr fun g13 hr=>J (j9u (f:=Oc.D) 2 24 (fun _=>rfl) g13)<|J g<|J (LIR' 3 (m:=.fz) (f:=Oc.D) (xs:=[a1]))<|ggE hr fun g14 hr=>J (z3b (f:=Oc.D) 4 (fun _=>rfl) 24 g14)<|ggE hr fun g15 hr=>ggE hr fun g16 hr=>J g<|J (SLL' g15 g16)<|ggE hr fun g17 hr=>J (j9u (f:=Oc.D) 5 24 (fun _=>rfl) g17)<|J (gn 3) ?_
 refine J (q0g (q0z (r:=5) rfl)) ?_
 cases hr
 exact endA.ren [] 0 (.inr rfl) hS rfl rfl rfl (.md rfl) rfl rfl
theorem j9K {rec_sl4Uses:Expr→(List Oc)→Option (List Oc)}(ih_sl4Uses:∀ {m:Md} {a0:Expr} {a1:(List Oc)} {r:(List Oc)},rec_sl4Uses a0 a1=some r→Ok Tryz.prog 208 [Expr.x m a0,.d m (.sl 2 (a1.map Oc.D))] [] (.d m (.sl 2 (r.map Oc.D))) []){m:Md}{a0:Expr}{a1:(List Oc)}{r:(List Oc)}(hr:z3c rec_sl4Uses a0 a1=some r):Ok Tryz.prog 208 [Expr.x m a0,.d m (.sl 2 (a1.map Oc.D))] [] (.d m (.sl 2 (r.map Oc.D))) []:=by
 refine OE Tryz.func208 fun S hS=>?_
 unfold z3c at hr
 refine J g<|J (BX' 0)<|J (gn 9)<|ifE hr ?_ ?_<;>intro h1 hr
 refine bdE hr fun y1 hy1 hr=>J g<|J (CB' [] [] (k3U (m:=m) hy1))<|J (gn 8)<|J (lenA 6 0)<|fun hl1=>bdE hr fun s1 hqq1 hr=>q0c hqq1 hl1 1 (fun k1 s1=>[(1,.d m (.sl 2 (s1.map Oc.D))),(2,.pb 0 0),(5,dI (k1:Int))]) (fun k1 s1=>[]) I (fun k1 xk1 sk1 ok1 hxk1 hr hltk1=>?_) fun k1 hltk1=>?_
 obtain⟨s1,rfl⟩:∃ y,y=sk1:=⟨_,rfl⟩
 refine bdE hr fun y2 hy2 hr=>J g<|J (CB' [] [] (ih_sl4Uses (m:=m) hy2))<|e
 exact e
 refine J (gn 8)<|J (lenA 6 0)<|fun hl2=>bdE hr fun s2 hqq2 hr=>q0c hqq2 hl2 1 (fun k2 s2=>[(1,.d m (.sl 2 (s2.map Oc.D))),(2,.pb 0 0),(5,dI (k2:Int))]) (fun k2 s2=>[]) I (fun k2 xk2 sk2 ok2 hxk2 hr hltk2=>?_) fun k2 hltk2=>?_
 obtain⟨s2,rfl⟩:∃ y,y=sk2:=⟨_,rfl⟩
 refine bdE hr fun y3 hy3 hr=>J g<|J (CB' [] [] (ih_sl4Uses (m:=m) hy3))<|e
 exact e
theorem j9L (n:Nat):∀ {m:Md} {a0:Expr} {a1:(List Oc)} {r:(List Oc)},q7Z n a0 a1=some r→Ok Tryz.prog 208 [Expr.x m a0,.d m (.sl 2 (a1.map Oc.D))] [] (.d m (.sl 2 (r.map Oc.D))) []:=by
  induction n with
  | zero=>intro _ _ _ r hr;exact nomatch (show (none:Option (List Oc))=some r from hr)
  | succ n ih=>intro _ _ _ r hr;exact j9K ih hr
theorem k2x {m:Md}{a0:Expr}{a1:(List Oc)}{r:(List Oc)}(hr:j3x a0 a1=some r):Ok Tryz.prog 208 [Expr.x m a0,.d m (.sl 2 (a1.map Oc.D))] [] (.d m (.sl 2 (r.map Oc.D))) []:=by
 obtain⟨n,hn⟩:=q5Z hr
 exact j9L n hn
theorem z2A {m:Md}{a0:Expr}{r:(List Oc)}(hr:q6o a0=some r):Ok Tryz.prog 153 [Expr.x m a0] [] (.d m (.sl 2 (r.map Oc.D))) []:=by
 refine OE Tryz.func153 fun S hS=>?_
 unfold q6o at hr
 refine J g<|J (BX' 0)<|J g<|J (L0' 1 Oc.D) ?_
 refine J (q0v 1 rfl)<|bdE hr fun y1 hy1 hr=>J (CB' [] [] (k2x (m:=m) hy1))<|J g<|E
theorem z2B {m:Md}{a0:Symbol}{a1:ByteArray}{r:(At_×Bool)}(hr:q7U a0 a1=some r):Ok Tryz.prog 219 [Symbol.x m a0,dS a1] [] (.tu [At_.x .fz r.1,dB r.2]) []:=by
 refine OE Tryz.func219 fun S hS=>?_
 unfold q7U at hr
 refine J g<|J (BX' 0)<|J (NV' 1)<|J (gn 8)<|J (lenA 1 0)<|fun hl1=>bdE hr fun q1 hqq1 hr=>q0b hqq1 hl1 2 (fun k1 _=>[(1,dS a1),(2,.pb 0 0),(4,.pb 1 0),(6,dI (k1:Int))]) (fun k1 _=>[]) I (fun k1 xk1 sk1 ok1 hxk1 hr hltk1 hik1=>?_) fun k1 sk1 ek1 hltk1=>?_
 refine J (gn 24)<|ifE hr ?_ ?_<;>intro h1 hr
 exact e
 exact e
 subst ek1
 exact e
theorem k2y {m:Md}{a0:Grammar}{a1:Rule}{a2:Oc}{r:Bool}(hr:z7R a0 a1 a2=some r):Ok Tryz.prog 311 [Grammar.y m a0,Rule.x m a1,Oc.x .fz a2] [] (dB r) []:=by
 refine OE Tryz.func311 fun S hS=>?_
 unfold z7R at hr
 refine J g<|J (BX' 0)<|J (BX' 1)<|J (BX' 2)<|bdE hr fun y1 hy1 hr=>J g<|J (CB' [] [] (q5O hy1))<|J (gn 2)<|ifE hr ?_ ?_<;>intro h1 hr
 refine bdE hr fun y2 hy2 hr=>J g<|J (CB' [] [] (q8L (m:=m) hy2))<|bdP hr fun y3 y4 hq1 hr=>J (CB' [(0,3)] [] (q9t (m:=m) hq1))<|J g<|J (NV' 4)<|bdP hr fun y5 y6 hq2 hr=>J g<|J (CB' [] [3] (z2B (m:=.bo) hq2))<|J g<|J (NV' 5)<|J (gn 10)<|ifE hr ?_ ?_<;>intro h2 hr
 refine bdE hr fun s1 hqq3 hr=>J (gn 4)<|q0a 5 [(6,dB false),(42,dB s1)] ?_ ?_
 replace hr:=hqq3
 refine ifE hr ?_ ?_<;>intro h3 hr
 exact e
 exact e
 exact e
 refine bdE hr fun s2 hqq4 hr=>J (gn 5)<|q0a 5 [(6,dB false),(48,dB s2)] ?_ ?_
 replace hr:=hqq4
 refine ifE hr ?_ ?_<;>intro h4 hr
 exact e
 exact e
 exact e
 exact e
theorem z9C {m:Md}{a0:Grammar}{a1:Rule}{a2:Expr}{r:Bool}(hr:z2e a0 a1 a2=some r):Ok Tryz.prog 294 [Grammar.y m a0,Rule.x m a1,Expr.x m a2] [] (dB r) []:=by
 refine OE Tryz.func294 fun S hS=>?_
 unfold z2e at hr
 refine J g<|J (BX' 0)<|J (BX' 1)<|J (BX' 2)<|bdE hr fun y1 hy1 hr=>J g<|J (CB' [] [] (z2A (m:=m) hy1))<|J (gn 8)<|J (lenT 7)<|fun hl1=>bdE hr fun q1 hqq1 hr=>q0b hqq1 hl1 3 (fun k1 _=>[(3,.pb 0 0),(4,.pb 1 0),(7,.d m (.sl 2 (y1.map Oc.D))),(8,dI (k1:Int))]) (fun k1 _=>[]) I (fun k1 xk1 sk1 ok1 hxk1 hr hltk1 hik1=>?_) fun k1 sk1 ek1 hltk1=>?_
 refine bdE hr fun y2 hy2 hr=>J g<|J (CB' [] [] (k2y (m:=m) hy2))<|J (gn 2)<|ifE hr ?_ ?_<;>intro h1 hr
 exact e
 exact e
 subst ek1
 exact e
theorem j6K {m:Md}{a0:Grammar}{a1:Rule}{r:Bool}(hr:z3d a0 a1=some r):Ok Tryz.prog 258 [Grammar.y m a0,Rule.x m a1] [] (dB r) []:=by
 refine OE Tryz.func258 fun S hS=>?_
 unfold z3d at hr
 refine J g<|J (BX' 0)<|J (BX' 1)<|J (gn 8)<|J (lenA 4 1)<|fun hl1=>bdE hr fun q1 hqq1 hr=>q0b hqq1 hl1 2 (fun k1 _=>[(2,.pb 0 0),(3,.pb 1 0),(5,dI (k1:Int))]) (fun k1 _=>[]) I (fun k1 xk1 sk1 ok1 hxk1 hr hltk1 hik1=>?_) fun k1 sk1 ek1 hltk1=>?_
 refine bdE hr fun y1 hy1 hr=>J g<|J (CB' [] [] (z9C (m:=m) hy1))<|J (gn 2)<|ifE hr ?_ ?_<;>intro h1 hr
 exact e
 exact e
 subst ek1
 refine J (gn 17) ?_
 refine AW.len (.box 1 5 rfl rfl) fun hl2=>?_
 refine bdE hr fun q2 hqq2 hr=>q0b hqq2 hl2 2 (fun k2 _=>[(2,.pb 0 0),(3,.pb 1 0),(6,dI (k2:Int))]) (fun k2 _=>[]) I (fun k2 xk2 sk2 ok2 hxk2 hr hltk2 hik2=>?_) fun k2 sk2 ek2 hltk2=>?_
 refine bdE hr fun y2 hy2 hr=>J g<|J (CB' [] [] (z9C (m:=m) hy2))<|J (gn 1)<|ifE hr ?_ ?_<;>intro h2 hr
 refine bdE hr fun y3 hy3 hr=>J g<|J (CB' [] [] (z9C (m:=m) hy3))<|J (gn 3)<|ifE hr ?_ ?_<;>intro h3 hr
 exact e
 exact e
 exact e
 subst ek2
 exact e
theorem j6L {m:Md}{a0:Grammar}{a1:Rule}{a2:Int}{r:Bool}(hr:z3e a0 a1 a2=some r):Ok Tryz.prog 216 [Grammar.y m a0,Rule.x m a1,dI a2] [] (dB r) []:=by
 refine OE Tryz.func216 fun S hS=>?_
 unfold z3e at hr
 refine J g<|J (BX' 0)<|J (BX' 1)<|J (gn 13)<|ifE hr ?_ ?_<;>intro h1 hr
 refine bdE hr fun y1 hy1 hr=>J g<|J (CB' [] [] (j5e (m:=m) hy1))<|e
 refine J (gn 6)<|ifE hr ?_ ?_<;>intro h2 hr
 refine bdE hr fun y2 hy2 hr=>J g<|J (CB' [] [] (j5f (m:=m) hy2))<|e
 refine J (gn 6)<|ifE hr ?_ ?_<;>intro h3 hr
 refine bdE hr fun y3 hy3 hr=>J g<|J (CB' [] [] (j8p (m:=m) hy3))<|e
 refine bdE hr fun y4 hy4 hr=>J g<|J (CB' [] [] (j6K (m:=m) hy4))<|e
theorem j5g {m:Md}{a0:Grammar}{r:(Int×Int)}(hr:z1z a0=some r):Ok Tryz.prog 163 [Grammar.x m a0] [] (.tu [dI r.1,dI r.2]) []:=by
 refine OE Tryz.func163 fun S hS=>?_
 unfold z1z at hr
 refine J g<|J (BX' 0)<|bdE hr fun y1 hy1 hr=>J g<|J (CB' [] [] (q5O hy1))<|J (gn 1)<|ifE hr ?_ ?_<;>intro h1 hr
 refine bdE hr fun y2 hy2 hr=>J g<|J (CB' [] [] (q5O hy2))<|J (gn 3)<|ifE hr ?_ ?_<;>intro h2 hr
 refine bdE hr fun y3 hy3 hr=>J g<|J (CB' [] [] (k2v (m:=m) hy3))<|J (gn 8)<|ifE hr ?_ ?_<;>intro h3 hr
 exact e
 refine bdE hr fun x1 hx1 hr=>J (gn 8) ?_
 refine AW.len (.el 1 (.ag 0 (.tmp 0 rfl) rfl) hx1 rfl) fun hl1=>?_
 refine bdE hr fun q1 hqq1 hr=>q0b hqq1 hl1 1 (fun k1 _=>[(1,.pb 0 0),(5,dI (k1:Int))]) (fun k1 _=>[]) I (fun k1 xk1 sk1 ok1 hxk1 hr hltk1 hik1=>?_) fun k1 sk1 ek1 hltk1=>?_
 refine J (gn 29)<|ifE hr ?_ ?_<;>intro h4 hr
 exact e
 exact e
 subst ek1
 refine bdE hr fun q2 hqq2 hr=>J (gn 19)<|AW.cut 1 (fun _=>[]) (fun _=>[]) (M:=fun x=>q2=.inl x) ?_ fun x hx=>?_
 refine J g<|q0h hqq2 1 (fun s1=>[(1,.pb 0 0),(6,dI s1)]) (fun s1=>[]) I fun sk2 ok2 hr hik2=>?_
 obtain⟨s1,rfl⟩:∃ y,y=sk2:=⟨_,rfl⟩
 have hr:=hr
 refine J (gn 6)<|ifE hr ?_ ?_<;>intro h5 hr
 refine J (gn 9) ?_
 refine AW.len (.box 0 1 rfl rfl) fun hl3=>?_
 refine bdE hr fun q3 hqq3 hr=>q0b hqq3 hl3 1 (fun k3 _=>[(1,.pb 0 0),(6,dI s1),(7,dI (k3:Int))]) (fun k3 _=>[]) I (fun k3 xk3 sk3 ok3 hxk3 hr hltk3 hik3=>?_) fun k3 sk3 ek3 hltk3=>?_
 refine bdE hr fun y4 hy4 hr=>J g<|J (CB' [] [] (j6L (m:=m) hy4))<|J (gn 1)<|ifE hr ?_ ?_<;>intro h6 hr
 exact e
 exact e
 subst ek3
 refine ggE hr fun g1 hr=>e
 refine J (gn 2) ?_
 cases hr
 cases hik2 _ rfl
 exact⟨_,rfl,q0d hS 1⟩
 subst hx
 exact e
 exact e
 exact e
theorem z3F {m:Md}{a0:Grammar}{a1:ByteArray}{a2:ByteArray}{r:Int}(hr:q7A a0 a1 a2=some r):Ok Tryz.prog 218 [Grammar.y m a0,dS a1,dS a2] [] (dI r) []:=by
 refine OE Tryz.func218 fun S hS=>?_
 unfold q7A at hr
 refine J g<|J (BX' 0)<|bdP hr fun y1 y2 hq1 hr=>J g<|J (CB' [(0,1)] [] (q9t (m:=m) hq1))<|J g<|J (NV' 2)<|bdP hr fun y3 y4 hq2 hr=>J g<|J (CB' [] [1] (z2B (m:=.bo) hq2))<|J g<|J (NV' 3)<|J (gn 9)<|ifE hr ?_ ?_<;>intro h1 hr
 exact e
 exact e
theorem j2t {a0:Int}{r:(Int×Int×Int)}(hr:q9Q a0=some r):Ok Tryz.prog 295 [dI a0] [] (.tu [dI r.1,dI r.2.1,dI r.2.2]) []:=by
 refine OE Tryz.func295 fun S hS=>?_
 unfold q9Q at hr
 refine bdE hr fun y1 hy1 hr=>J g<|J (CB' [] [] (q5O hy1))<|J (gn 2)<|ifE hr ?_ ?_<;>intro h1 hr
 exact e
 refine bdE hr fun y2 hy2 hr=>J g<|J (CB' [] [] (q5O hy2))<|J (gn 2)<|ifE hr ?_ ?_<;>intro h2 hr
 exact e
 refine J (gn 5)<|ifE hr ?_ ?_<;>intro h3 hr
 exact e
 refine J (gn 6)<|ifE hr ?_ ?_<;>intro h4 hr
 exact e
 refine J (gn 7)<|ifE hr ?_ ?_<;>intro h5 hr
 exact e
 refine J (gn 7)<|ifE hr ?_ ?_<;>intro h6 hr
 exact e
 exact e
theorem k3V {rec_sTypeOfExpr:Grammar→Rule→Expr→Option Int}(ih_sTypeOfExpr:∀ {m:Md} {a0:Grammar} {a1:Rule} {a2:Expr} {r:Int},rec_sTypeOfExpr a0 a1 a2=some r→Ok Tryz.prog 217 [Grammar.y m a0,Rule.x m a1,Expr.x m a2] [] (dI r) []){m:Md}{a0:Grammar}{a1:Rule}{a2:Expr}{r:Int}(hr:j2M rec_sTypeOfExpr a0 a1 a2=some r):Ok Tryz.prog 259 [Grammar.y m a0,Rule.x m a1,Expr.x m a2] [] (dI r) []:=by
 refine OE Tryz.func259 fun S hS=>?_
 unfold j2M at hr
 refine J g<|J (BX' 0)<|J (BX' 1)<|J (BX' 2)<|bdT hr fun y1 y2 y3 hq1 hr=>J g<|J (CB' [] [] (j2t hq1))<|J (gn 15)<|ifE hr ?_ ?_<;>intro h1 hr
 refine bdE hr fun x1 hx1 hr=>bdE hr fun y4 hy4 hr=>J g<|J (CB' [] [] (ih_sTypeOfExpr (m:=m) hy4))<|J (gn 3)<|ifE hr ?_ ?_<;>intro h2 hr
 refine bdE hr fun x2 hx2 hr=>bdE hr fun y5 hy5 hr=>J g<|J (CB' [] [] (ih_sTypeOfExpr (m:=m) hy5))<|J (gn 4)<|ifE hr ?_ ?_<;>intro h3 hr
 exact e
 exact e
 exact e
 exact e
theorem k3W {rec_sTypeOfExpr:Grammar→Rule→Expr→Option Int}(ih_sTypeOfExpr:∀ {m:Md} {a0:Grammar} {a1:Rule} {a2:Expr} {r:Int},rec_sTypeOfExpr a0 a1 a2=some r→Ok Tryz.prog 217 [Grammar.y m a0,Rule.x m a1,Expr.x m a2] [] (dI r) []){m:Md}{a0:Grammar}{a1:Rule}{a2:Expr}{r:Int}(hr:j2N rec_sTypeOfExpr a0 a1 a2=some r):Ok Tryz.prog 260 [Grammar.y m a0,Rule.x m a1,Expr.x m a2] [] (dI r) []:=by
 refine OE Tryz.func260 fun S hS=>?_
 unfold j2N at hr
 refine J g<|J (BX' 0)<|J (BX' 1)<|J (BX' 2)<|J (gn 9)<|ifE hr ?_ ?_<;>intro h1 hr
 refine bdE hr fun x1 hx1 hr=>bdE hr fun y1 hy1 hr=>J g<|J (CB' [] [] (ih_sTypeOfExpr (m:=m) hy1))<|J (gn 3)<|ifE hr ?_ ?_<;>intro h2 hr
 refine bdE hr fun x2 hx2 hr=>bdE hr fun y2 hy2 hr=>J g<|J (CB' [] [] (ih_sTypeOfExpr (m:=m) hy2))<|bdE hr fun x3 hx3 hr=>bdE hr fun y3 hy3 hr=>J g<|J (CB' [] [] (ih_sTypeOfExpr (m:=m) hy3))<|J (gn 2)<|ifE hr ?_ ?_<;>intro h3 hr
 exact e
 exact e
 exact e
 exact e
theorem j3Y {rec_sTypeOfExpr:Grammar→Rule→Expr→Option Int}(ih_sTypeOfExpr:∀ {m:Md} {a0:Grammar} {a1:Rule} {a2:Expr} {r:Int},rec_sTypeOfExpr a0 a1 a2=some r→Ok Tryz.prog 217 [Grammar.y m a0,Rule.x m a1,Expr.x m a2] [] (dI r) []){m:Md}{a0:Grammar}{a1:Rule}{a2:Expr}{r:Int}(hr:z1A rec_sTypeOfExpr a0 a1 a2=some r):Ok Tryz.prog 217 [Grammar.y m a0,Rule.x m a1,Expr.x m a2] [] (dI r) []:=by
 refine OE Tryz.func217 fun S hS=>?_
 unfold z1A at hr
 refine J g<|J (BX' 0)<|J (BX' 1)<|J (BX' 2)<|J (gn 14)<|ifE hr ?_ ?_<;>intro h1 hr
 exact e
 refine J (gn 6)<|ifE hr ?_ ?_<;>intro h2 hr
 refine J (gn 6)<|ifE hr ?_ ?_<;>intro h3 hr
 exact e
 exact e
 refine J (gn 6)<|ifE hr ?_ ?_<;>intro h4 hr
 refine bdE hr fun y1 hy1 hr=>J g<|J (CB' [] [] (q5O hy1))<|J (gn 1)<|ifE hr ?_ ?_<;>intro h5 hr
 refine bdE hr fun y2 hy2 hr=>J g<|J (CB' [] [] (q8L (m:=m) hy2))<|bdE hr fun y3 hy3 hr=>J g<|J (CB' [] [] (z3F (m:=m) hy3))<|e
 exact e
 refine J (gn 6)<|ifE hr ?_ ?_<;>intro h6 hr
 refine bdE hr fun y4 hy4 hr=>J g<|J (CB' [] [] (k3V ih_sTypeOfExpr (m:=m) hy4))<|e
 refine J (gn 6)<|ifE hr ?_ ?_<;>intro h7 hr
 refine bdE hr fun y5 hy5 hr=>J g<|J (CB' [] [] (k3W ih_sTypeOfExpr (m:=m) hy5))<|e
 refine J (gn 6)<|ifE hr ?_ ?_<;>intro h8 hr
 refine bdE hr fun y6 hy6 hr=>J g<|J (CB' [] [] (q5O hy6))<|J (gn 1)<|ifE hr ?_ ?_<;>intro h9 hr
 exact e
 exact e
 refine J (gn 6)<|ifE hr ?_ ?_<;>intro h10 hr
 exact e
 refine J (gn 6)<|ifE hr ?_ ?_<;>intro h11 hr
 refine J (gn 7)<|ifE hr ?_ ?_<;>intro h12 hr
 refine bdE hr fun x1 hx1 hr=>bdE hr fun y7 hy7 hr=>J g<|J (CB' [] [] (ih_sTypeOfExpr (m:=m) hy7))<|J (gn 3)<|ifE hr ?_ ?_<;>intro h13 hr
 refine bdE hr fun y8 hy8 hr=>J g<|J (CB' [] [] (z3F (m:=m) hy8))<|e
 exact e
 exact e
 exact e
theorem j3Z (n:Nat):∀ {m:Md} {a0:Grammar} {a1:Rule} {a2:Expr} {r:Int},z0d n a0 a1 a2=some r→Ok Tryz.prog 217 [Grammar.y m a0,Rule.x m a1,Expr.x m a2] [] (dI r) []:=by
  induction n with
  | zero=>intro _ _ _ _ r hr;exact nomatch (show (none:Option Int)=some r from hr)
  | succ n ih=>intro _ _ _ _ r hr;exact j3Y ih hr
theorem z5M {m:Md}{a0:Grammar}{a1:Rule}{a2:Expr}{r:Int}(hr:z1B a0 a1 a2=some r):Ok Tryz.prog 217 [Grammar.y m a0,Rule.x m a1,Expr.x m a2] [] (dI r) []:=by
 obtain⟨n,hn⟩:=q5Z hr
 exact j3Z n hn
theorem j9M {m:Md}{a0:Grammar}{a1:Rule}{r:Bool}(hr:z5W a0 a1=some r):Ok Tryz.prog 164 [Grammar.y m a0,Rule.x m a1] [] (dB r) []:=by
 refine OE Tryz.func164 fun S hS=>?_
 unfold z5W at hr
 refine J g<|J (BX' 0)<|J (BX' 1)<|J (gn 8)<|J (lenA 4 1)<|fun hl1=>bdE hr fun q1 hqq1 hr=>q0b hqq1 hl1 2 (fun k1 _=>[(2,.pb 0 0),(3,.pb 1 0),(5,dI (k1:Int))]) (fun k1 _=>[]) I (fun k1 xk1 sk1 ok1 hxk1 hr hltk1 hik1=>?_) fun k1 sk1 ek1 hltk1=>?_
 refine J g<|J (NV' 2)<|bdE hr fun y1 hy1 hr=>J g<|J (CB' [] [] (z5M (m:=m) hy1))<|bdE hr fun y2 hy2 hr=>J g<|J (CB' [] [] (q8L (m:=m) hy2))<|bdE hr fun y3 hy3 hr=>J g<|J (CB' [] [] (z3F (m:=m) hy3))<|J (gn 2)<|ifE hr ?_ ?_<;>intro h1 hr
 exact e
 exact e
 subst ek1
 refine J (gn 17) ?_
 refine AW.len (.box 1 5 rfl rfl) fun hl2=>?_
 refine bdE hr fun q2 hqq2 hr=>q0b hqq2 hl2 2 (fun k2 _=>[(2,.pb 0 0),(3,.pb 1 0),(7,dI (k2:Int))]) (fun k2 _=>[]) I (fun k2 xk2 sk2 ok2 hxk2 hr hltk2 hik2=>?_) fun k2 sk2 ek2 hltk2=>?_
 refine J g<|J (NV' 2)<|bdP hr fun y4 y5 hq3 hr=>J g<|J (CB' [(0,3)] [] (q9t (m:=m) hq3))<|J g<|J (NV' 4)<|bdP hr fun y6 y7 hq4 hr=>J g<|J (CB' [] [3] (z2B (m:=.bo) hq4))<|J g<|J (NV' 5)<|bdE hr fun s1 hqq5 hr=>J (gn 7)<|q0a 5 [(2,.pb 0 0),(3,.pb 1 0),(7,dI (k2:Int)),(8,.pb 2 0),(73,dB s1)] ?_ ?_
 replace hr:=hqq5
 refine ifE hr ?_ ?_<;>intro h2 hr
 exact e
 exact e
 refine bdE hr fun s2 hqq6 hr=>q0a 8 [(2,.pb 0 0),(3,.pb 1 0),(7,dI (k2:Int)),(8,.pb 2 0),(81,dB s2)] ?_ ?_
 replace hr:=hqq6
 refine ifE hr ?_ ?_<;>intro h3 hr
 exact e
 refine bdE hr fun y8 hy8 hr=>J g<|J (CB' [] [] (z5M (m:=m) hy8))<|e
 refine bdE hr fun s3 hqq7 hr=>q0a 8 [(2,.pb 0 0),(3,.pb 1 0),(7,dI (k2:Int)),(89,dB s3)] ?_ ?_
 replace hr:=hqq7
 refine ifE hr ?_ ?_<;>intro h4 hr
 exact e
 refine bdE hr fun y9 hy9 hr=>J g<|J (CB' [] [] (z5M (m:=m) hy9))<|e
 refine J (gn 1)<|ifE hr ?_ ?_<;>intro h5 hr
 exact e
 exact e
 subst ek2
 exact e
theorem z8p {m:Md}{a0:Grammar}{a1:ByteArray}{r:Int}(hr:z0e a0 a1=some r):Ok Tryz.prog 51 [Grammar.y m a0,dS a1] [] (dI r) []:=by
 refine OE Tryz.func51 fun S hS=>?_
 unfold z0e at hr
 refine J g<|J (BX' 0)<|J (gn 8)<|J (lenA 0 0)<|fun hl1=>bdE hr fun q1 hqq1 hr=>q0b hqq1 hl1 1 (fun k1 _=>[(1,dS a1),(2,.pb 0 0),(5,dI (k1:Int))]) (fun k1 _=>[]) I (fun k1 xk1 sk1 ok1 hxk1 hr hltk1 hik1=>?_) fun k1 sk1 ek1 hltk1=>?_
 refine J (gn 24)<|ifE hr ?_ ?_<;>intro h1 hr
 exact e
 exact e
 subst ek1
 exact e
theorem j5h {m:Md}{a0:Grammar}{a1:ByteArray}{a2:(List Int)}{r:Bool}(hr:z1C a0 a1 a2=some r):Ok Tryz.prog 296 [Grammar.x m a0,dS a1,.d m (.sl 1 (a2.map (A.D.i .i64)))] [] (dB r) []:=by
 refine OE Tryz.func296 fun S hS=>?_
 unfold z1C at hr
 refine J g<|J (BX' 0)<|J (gn 8)<|J (lenA 1 0)<|fun hl1=>bdE hr fun q1 hqq1 hr=>q0b hqq1 hl1 1 (fun k1 _=>[(1,dS a1),(2,.d m (.sl 1 (a2.map (A.D.i .i64)))),(3,.pb 0 0),(7,dI (k1:Int))]) (fun k1 _=>[]) I (fun k1 xk1 sk1 ok1 hxk1 hr hltk1 hik1=>?_) fun k1 sk1 ek1 hltk1=>?_
 refine J g<|J (NV' 1)<|J (gn 16)<|J (lenA 2 23)<|fun hl2=>bdE hr fun s1 hqq2 hr=>q0c hqq2 hl2 2 (fun k2 s1=>[(1,dS a1),(2,.d m (.sl 1 (a2.map (A.D.i .i64)))),(3,.pb 0 0),(7,dI (k1:Int)),(8,.pb 1 0),(9,dB s1),(10,dI (k2:Int))]) (fun k2 s1=>[]) I (fun k2 xk2 sk2 ok2 hxk2 hr hltk2=>?_) fun k2 hltk2=>?_
 obtain⟨s1,rfl⟩:∃ y,y=sk2:=⟨_,rfl⟩
 refine bdE hr fun y1 hy1 hr=>J g<|J (CB' [] [] (z8p (m:=m) hy1))<|bdE hr fun s2 hqq3 hr=>J (gn 4)<|q0a 4 [(1,dS a1),(2,.d m (.sl 1 (a2.map (A.D.i .i64)))),(3,.pb 0 0),(7,dI (k1:Int)),(8,.pb 1 0),(9,dB s1),(10,dI (k2:Int)),(11,dI y1),(46,dB s2)] ?_ ?_
 replace hr:=hqq3
 refine ifE hr ?_ ?_<;>intro h1 hr
 exact e
 exact e
 refine bdE hr fun s3 hqq4 hr=>q0a 8 [(1,dS a1),(2,.d m (.sl 1 (a2.map (A.D.i .i64)))),(3,.pb 0 0),(7,dI (k1:Int)),(8,.pb 1 0),(9,dB s1),(10,dI (k2:Int)),(54,dB s3)] ?_ ?_
 replace hr:=hqq4
 refine ifE hr ?_ ?_<;>intro h2 hr
 refine bdE hr fun y2 hy2 hr=>J g<|J (CB' [] [] (j0E hy2))<|ggE hr fun g1 hr=>bdE hr fun x1 hx1 hr=>e
 exact e
 exact e
 refine J (gn 15)<|ifE hr ?_ ?_<;>intro h3 hr
 exact e
 exact e
 subst ek1
 exact e
theorem j5i {m:Md}{a0:Grammar}{r:(List Int)}(hr:z1D a0=some r):Ok Tryz.prog 261 [Grammar.x m a0] [] (.ref 0 none) [.row .fz 1 (r.map (A.D.i .i64))]:=by
 refine OE Tryz.func261 fun S hS=>?_
 unfold z1D at hr
 refine J g<|J (BX' 0)<|ggE hr fun g1 hr=>J g<|J (MKR' 1 (f:=(A.D.i .i64)) (0:Int) g1.1 g1.2.1 g1.2.2)<|bdE hr fun s1 hqq1 hr=>J (gn 7)<|q0e 2 [(3,.ref 1 none)] [(1,.row .fz 1 (s1.map (A.D.i .i64)))] ?_ ?_
 refine J g<|q0h hqq1 2 (fun (s2,s3)=>[(1,.pb 0 0),(3,.ref 1 none),(4,dI s3)]) (fun (s2,s3)=>[(1,.row .fz 1 (s2.map (A.D.i .i64)))]) I fun sk1 ok1 hr hik1=>?_
 obtain⟨s2,s3⟩:=sk1
 have hr:=hr
 refine J (gn 9)<|ifE hr ?_ ?_<;>intro h1 hr
 refine J g<|J (L0' 2 (A.D.i .i64))<|ggE hr fun g2 hr=>J g<|J (j9u (f:=(A.D.i .i64)) 3 8 (fun _=>rfl) g2)<|J (gn 8)<|J (lenT 13)<|fun hl2=>bdE hr fun s4 hqq2 hr=>q0c hqq2 hl2 4 (fun k2 s4=>[(1,.pb 0 0),(3,.ref 1 none),(4,dI s3),(5,.ref 3 none),(6,dI (k2:Int))]) (fun k2 s4=>[(2,.none),(3,.row .fz 1 (s4.map (A.D.i .i64)))]) I (fun k2 xk2 sk2 ok2 hxk2 hr hltk2=>?_) fun k2 hltk2=>?_
 obtain⟨s4,rfl⟩:∃ y,y=sk2:=⟨_,rfl⟩
 refine bdE hr fun s5 hqq3 hr=>J (gn 12)<|q0e 4 [(1,.pb 0 0),(3,.ref 1 none),(4,dI s3),(5,.ref 3 none),(6,dI (k2:Int))] [(3,.row .fz 1 (s5.map (A.D.i .i64)))] ?_ ?_
 replace hr:=hqq3
 refine bdE hr fun x1 hx1 hr=>J (gn 8)<|ifE hr ?_ ?_<;>intro h2 hr
 refine bdE hr fun y1 hy1 hr=>J g<|J (CB' [] [1] (j5h (m:=.bo) hy1))<|J (gn 2)<|ifE hr ?_ ?_<;>intro h3 hr
 refine bdE hr fun x2 hx2 hr=>J g<|J (SE' s3 hx2)<|e
 exact e
 exact e
 exact e
 refine ggE hr fun g3 hr=>e
 refine J (gn 2) ?_
 cases hr
 cases hik1 _ rfl
 exact q0d hS 2
 exact e
theorem j6M {m:Md}{a0:Grammar}{a1:ByteArray}{r:Int}(hr:z5o a0 a1=some r):Ok Tryz.prog 220 [Grammar.x m a0,dS a1] [] (dI r) []:=by
 refine OE Tryz.func220 fun S hS=>?_
 unfold z5o at hr
 refine J g<|J (BX' 0)<|bdE hr fun y1 hy1 hr=>J g<|J (CB' [] [] (z8p (m:=m) hy1))<|J (gn 8)<|ifE hr ?_ ?_<;>intro h1 hr
 exact e
 refine bdE hr fun y2 hy2 hr=>J g<|J (CB' [(0,1)] [] (j5i (m:=m) hy2))<|ggE hr fun g1 hr=>bdE hr fun x1 hx1 hr=>e
theorem j2u {m:Md}{a0:Grammar}{a1:ByteArray}{r:Bool}(hr:q9R a0 a1=some r):Ok Tryz.prog 165 [Grammar.x m a0,dS a1] [] (dB r) []:=by
 refine OE Tryz.func165 fun S hS=>?_
 unfold q9R at hr
 refine J g<|J (BX' 0)<|bdE hr fun y1 hy1 hr=>J g<|J (CB' [] [] (j6M (m:=m) hy1))<|e
theorem j2v {m:Md}{a0:Grammar}{r:(Int×Int)}(hr:q9S a0=some r):Ok Tryz.prog 105 [Grammar.x m a0] [] (.tu [dI r.1,dI r.2]) []:=by
 refine OE Tryz.func105 fun S hS=>?_
 unfold q9S at hr
 refine J g<|J (BX' 0)<|bdP hr fun y1 y2 hq1 hr=>J g<|J (CB' [] [] (j5g (m:=m) hq1))<|J (gn 12)<|ifE hr ?_ ?_<;>intro h1 hr
 refine J (gn 8)<|J (lenA 1 0)<|fun hl1=>bdE hr fun q2 hqq2 hr=>q0b hqq2 hl1 1 (fun k1 _=>[(1,.pb 0 0),(6,dI (k1:Int))]) (fun k1 _=>[]) I (fun k1 xk1 sk1 ok1 hxk1 hr hltk1 hik1=>?_) fun k1 sk1 ek1 hltk1=>?_
 refine bdE hr fun y3 hy3 hr=>J g<|J (CB' [] [] (j9M (m:=m) hy3))<|J (gn 2)<|ifE hr ?_ ?_<;>intro h2 hr
 exact e
 exact e
 subst ek1
 refine J (gn 17) ?_
 refine AW.len (.box 0 0 rfl rfl) fun hl2=>?_
 refine bdE hr fun q3 hqq3 hr=>q0b hqq3 hl2 1 (fun k2 _=>[(1,.pb 0 0),(7,dI (k2:Int))]) (fun k2 _=>[]) I (fun k2 xk2 sk2 ok2 hxk2 hr hltk2 hik2=>?_) fun k2 sk2 ek2 hltk2=>?_
 refine bdE hr fun y4 hy4 hr=>J g<|J (CB' [] [] (j2u (m:=m) hy4))<|J (gn 2)<|ifE hr ?_ ?_<;>intro h3 hr
 exact e
 exact e
 subst ek2
 exact e
 exact e
theorem j9N {m:Md}{a0:Grammar}{r:Bool}(hr:z5Y a0=some r):Ok Tryz.prog 48 [Grammar.x m a0] [] (dB r) []:=by
 refine OE Tryz.func48 fun S hS=>?_
 unfold z5Y at hr
 refine J g<|J (BX' 0)<|bdP hr fun y1 y2 hq1 hr=>J g<|J (CB' [] [] (j2v (m:=m) hq1))<|e
theorem z1c {m:Md}{a0:Grammar}{a1:ByteArray}{r:(List At_)}(hr:q5v a0 a1=some r):Ok Tryz.prog 50 [Grammar.y m a0,dS a1] [] (.ref 0 none) [.row .fz 4 (r.map At_.D)]:=by
 refine OE Tryz.func50 fun S hS=>?_
 unfold q5v at hr
 refine J g<|J (BX' 0)<|J g<|J (L0' 1 At_.D)<|bdP hr fun y1 y2 hq1 hr=>J g<|J (CB' [(0,2)] [] (q9t (m:=m) hq1))<|J g<|J (NV' 3)<|J (gn 9)<|J (lenR 2)<|fun hl1=>bdE hr fun s1 hqq2 hr=>q0c hqq2 hl1 4 (fun k1 s1=>[(5,.ref 1 none),(6,.pb 3 0),(8,dI (k1:Int))]) (fun k1 s1=>[(1,.row .fz 4 (s1.map At_.D))]) I (fun k1 xk1 sk1 ok1 hxk1 hr hltk1=>?_) fun k1 hltk1=>?_
 obtain⟨s1,rfl⟩:∃ y,y=sk1:=⟨_,rfl⟩
 refine bdE hr fun s2 hqq3 hr=>J (gn 12)<|q0e 4 [(5,.ref 1 none),(6,.pb 3 0),(8,dI (k1:Int))] [(1,.row .fz 4 (s2.map At_.D))] ?_ ?_
 replace hr:=hqq3
 refine J (gn 10)<|ifE hr ?_ ?_<;>intro h1 hr
 refine J g<|J (LIR' 4 (m:=.fz) (f:=At_.D) (xs:=[xk1]))<|ggE hr fun g1 hr=>J (z3b (f:=At_.D) 5 (fun _=>rfl) 40 g1)<|e
 refine J (gn 10)<|ifE hr ?_ ?_<;>intro h2 hr
 refine J g<|J (LIR' 4 (m:=.fz) (f:=At_.D) (xs:=[xk1]))<|ggE hr fun g2 hr=>J (z3b (f:=At_.D) 5 (fun _=>rfl) 40 g2)<|e
 exact e
 exact e
 exact e
theorem z2C {a0:Int}{r:Rl_}(hr:q5j a0=some r):Ok Tryz.prog 49 [dI a0] [] (.ag [dI r.N,.ref 0 none]) [.row .fz 1 (r.Rows.map (A.D.i .i64))]:=by
 refine OE Tryz.func49 fun S hS=>?_
 unfold q5j at hr
 refine J g<|J (NV' 0)<|bdE hr fun y1 hy1 hr=>J g<|J (CB' [] [] (q5O hy1))<|J (gn 2)<|ifE hr ?_ ?_<;>intro h1 hr
 refine ggE hr fun g1 hr=>J g<|J (MKR' 1 (f:=(A.D.i .i64)) (0:Int) g1.1 g1.2.1 g1.2.2)<|e
 refine J (gn 7) ?_
 refine J (q0g (q0q (q:=0) (c:=1) (r:=1) .fz 1 rfl rfl rfl))<|J g<|E
theorem z6q {m:Md}{a0:Grammar}{a1:Rule}{r:(List Oc)}(hr:q6p a0 a1=some r):Ok Tryz.prog 92 [Grammar.y m a0,Rule.x m a1] [] (.ref 0 none) [.row .fz 2 (r.map Oc.D)]:=by
 refine OE Tryz.func92 fun S hS=>?_
 unfold q6p at hr
 refine J g<|J (BX' 0)<|J (BX' 1)<|J g<|J (L0' 2 Oc.D)<|bdE hr fun s1 hqq1 hr=>J (gn 7)<|q0e 3 [(5,.ref 2 none)] [(2,.row .fz 2 (s1.map Oc.D))] ?_ ?_
 refine J g<|q0h hqq1 3 (fun (s2,s3)=>[(2,.pb 0 0),(3,.pb 1 0),(5,.ref 2 none),(6,dI s3)]) (fun (s2,s3)=>[(2,.row .fz 2 (s2.map Oc.D))]) I fun sk1 ok1 hr hik1=>?_
 obtain⟨s2,s3⟩:=sk1
 have hr:=hr
 refine J (gn 9)<|ifE hr ?_ ?_<;>intro h1 hr
 refine bdE hr fun y1 hy1 hr=>J g<|J (CB' [] [] (q8L (m:=m) hy1))<|bdE hr fun y2 hy2 hr=>J (CB' [(0,3)] [] (z1c (m:=m) hy2))<|J (gn 7)<|J (lenR 3)<|fun hl2=>bdE hr fun s4 hqq2 hr=>q0c hqq2 hl2 4 (fun k2 s4=>[(2,.pb 0 0),(3,.pb 1 0),(5,.ref 2 none),(6,dI s3),(7,.ref 3 none),(8,dI (k2:Int))]) (fun k2 s4=>[(2,.row .fz 2 (s4.map Oc.D))]) I (fun k2 xk2 sk2 ok2 hxk2 hr hltk2=>?_) fun k2 hltk2=>?_
 obtain⟨s4,rfl⟩:∃ y,y=sk2:=⟨_,rfl⟩
 refine J g<|J (LIR' 4 (m:=.fz) (f:=Oc.D) (xs:=[(⟨s3,xk2.Name⟩:Oc)]))<|ggE hr fun g1 hr=>J (z3b (f:=Oc.D) 5 (fun _=>rfl) 24 g1)<|e
 refine ggE hr fun g2 hr=>e
 refine J (gn 2) ?_
 cases hr
 cases hik1 _ rfl
 exact GH.trans (q1c (q:=0) [.d m (.sl 2 (a0.Symbols.map Symbol.D)),.u] (.cons .rfl (.cons .u .nil)) rfl) (q0d hS 3)
 exact e
theorem z9D {m:Md}{a0:(List Oc)}{a1:Oc}{r:Int}(hr:q8a a0 a1=some r):Ok Tryz.prog 154 [.d m (.sl 2 (a0.map Oc.D)),Oc.x .fz a1] [] (dI r) []:=by
 refine OE Tryz.func154 fun S hS=>?_
 unfold q8a at hr
 refine J g<|J (BX' 0)<|J (gn 8)<|J (lenT 0)<|fun hl1=>bdE hr fun q1 hqq1 hr=>q0b hqq1 hl1 1 (fun k1 _=>[(0,.d m (.sl 2 (a0.map Oc.D))),(3,.pb 0 0),(5,dI (k1:Int))]) (fun k1 _=>[]) I (fun k1 xk1 sk1 ok1 hxk1 hr hltk1 hik1=>?_) fun k1 sk1 ek1 hltk1=>?_
 refine J g ?_
 refine J (SQ' rfl rfl rfl rfl (q6f xk1 a1))<|J (gn 1)<|ifE hr ?_ ?_<;>intro h1 hr
 exact e
 exact e
 subst ek1
 exact e
theorem z9E {m:Md}{a0:Rl_}{r:Rl_}(hr:q9o a0=some r):Ok Tryz.prog 108 [Rl_.x m a0] [] (.ag [dI r.N,.ref 0 none]) [.row .fz 1 (r.Rows.map (A.D.i .i64))]:=by
 refine OE Tryz.func108 fun S hS=>?_
 unfold q9o at hr
 refine J g<|J (BX' 0)<|J (NV' 1)<|J g<|J (L0' 2 (A.D.i .i64))<|ggE hr fun g1 hr=>J g<|J (j9u (f:=(A.D.i .i64)) 3 8 (fun _=>rfl) g1)<|e
theorem q5G {m:Md}{a0:Rl_}{r:Bool}(hr:q4A a0=some r):Ok Tryz.prog 89 [Rl_.x m a0] [] (dB r) []:=by
 refine OE Tryz.func89 fun S hS=>?_
 unfold q4A at hr
 refine J g<|J (BX' 0)<|bdE hr fun y1 hy1 hr=>J g<|J (CB' [] [] (q5O hy1))<|J (gn 1)<|ifE hr ?_ ?_<;>intro h1 hr
 refine J (gn 9)<|ifE hr ?_ ?_<;>intro h2 hr
 refine J (gn 8) ?_
 refine AW.rng (.ag 0 (.tmp 0 rfl) rfl) fun hl1=>?_
 refine bdE hr fun q1 hqq1 hr=>q0w hqq1 1 (fun k1 _=>[(1,.pb 0 0),(3,dI (k1:Int))]) (fun k1 _=>[]) I (fun k1 sk1 ok1 hr hltk1 hik1=>?_) fun sk1 ek1=>?_
 refine bdE hr fun x1 hx1 hr=>ggE hr fun g1 hr=>J g ?_
 refine J (CIU' g1 rfl)<|ggE hr fun g2 hr=>J (OB' _ (k2g g2))<|J (OB' _ (k3D (p:=(2 ^ a0.N.toNat)) (k:=1) (by decide)))<|bdE hr fun y2 hy2 hr=>J (CB' [] [] (q5O hy2))<|J (gn 2)<|ifE hr ?_ ?_<;>intro h3 hr
 exact e
 exact e
 subst ek1
 exact e
 exact e
 exact e
theorem j4a {m:Md}{a0:Rl_}{a1:Int}{a2:Int}{r:Rl_}(hr:q7p a0 a1 a2=some r):Ok Tryz.prog 94 [Rl_.x m a0,dI a1,dI a2] [] (.ag [dI r.N,.ref 0 none]) [.row .fz 1 (r.Rows.map (A.D.i .i64))]:=by
 refine OE Tryz.func94 fun S hS=>?_
 unfold q7p at hr
 refine J g<|J (BX' 0)<|J (NV' 1)<|bdE hr fun y1 hy1 hr=>J g<|J (CB' [(0,2)] [] (z9E (m:=m) hy1))<|J (NV' 3)<|bdE hr fun y2 hy2 hr=>J g<|J (CB' [] [] (q5G (m:=m) hy2))<|bdE hr fun s1 hqq1 hr=>q0a 7 [(1,dI a1),(2,dI a2),(3,.pb 0 0),(6,.pb 1 0),(7,.pb 3 0),(18,dB s1)] ?_ ?_
 replace hr:=hqq1
 refine ifE hr ?_ ?_<;>intro h1 hr
 refine ggE hr fun g1 hr=>bdE hr fun y3 hy3 hr=>J g<|J (CB' [] [] (q5O hy3))<|e
 exact e
 refine bdE hr fun s2 hqq2 hr=>q0a 7 [(1,dI a1),(2,dI a2),(6,.pb 1 0),(7,.pb 3 0),(25,dB s2)] ?_ ?_
 replace hr:=hqq2
 refine ifE hr ?_ ?_<;>intro h2 hr
 refine ggE hr fun g2 hr=>bdE hr fun y4 hy4 hr=>J g<|J (CB' [] [] (q5O hy4))<|e
 exact e
 refine J (gn 1)<|ifE hr ?_ ?_<;>intro h3 hr
 refine ggE hr fun g3 hr=>bdE hr fun x1 hx1 hr=>ggE hr fun g4 hr=>J g ?_
 refine J (CIU' g4 rfl)<|ggE hr fun g5 hr=>J (OB' _ (k2g g5))<|ggE hr fun g6 hr=>J (OB' _ (bOrI g6))<|J g<|J (SE' ((x1.toNat ||| ((2 ^ a2.toNat:Nat):Int).toNat:Nat):Int) hx1)<|J g<|E
 exact e
theorem j1k {m:Md}{a0:Grammar}{a1:Rule}{r:Rl_}(hr:q6P a0 a1=some r):Ok Tryz.prog 93 [Grammar.y m a0,Rule.x m a1] [] (.ag [dI r.N,.ref 0 none]) [.row .fz 1 (r.Rows.map (A.D.i .i64))]:=by
 refine OE Tryz.func93 fun S hS=>?_
 unfold q6P at hr
 refine J g<|J (BX' 0)<|J (BX' 1)<|J (NV' 2)<|bdE hr fun y1 hy1 hr=>J g<|J (CB' [(0,3)] [] (z6q (m:=m) hy1))<|bdE hr fun y2 hy2 hr=>J g<|J (CB' [(0,4)] [] (z2C hy2))<|J (NV' 5)<|bdP hr fun s1 s2 hqq1 hr=>J (gn 7)<|q0e 6 [(4,.pb 2 0),(6,.pb 5 0)] [(4,.row .fz 1 (s1.map (A.D.i .i64))),(5,.box [dI s2,.ref 4 none])] ?_ ?_
 refine J g<|q0h hqq1 6 (fun (s3,s4,s5)=>[(3,.pb 1 0),(4,.pb 2 0),(5,.ref 3 none),(6,.pb 5 0),(7,dI s3)]) (fun (s3,s4,s5)=>[(4,.row .fz 1 (s4.map (A.D.i .i64))),(5,.box [dI s5,.ref 4 none])]) I fun sk1 ok1 hr hik1=>?_
 obtain⟨s3,s4,s5⟩:=sk1
 have hr:=hr
 refine J (gn 7)<|ifE hr ?_ ?_<;>intro h1 hr
 refine J (gn 6)<|ifE hr ?_ ?_<;>intro h2 hr
 refine bdP hr fun s6 s7 hqq2 hr=>J (gn 3)<|q0e 6 [(3,.pb 1 0),(4,.pb 2 0),(5,.ref 3 none),(6,.pb 5 0),(7,dI s3),(23,.pb 5 0),(24,dI s5),(25,dB (decide (0<s5)))] [(4,.row .fz 1 (s6.map (A.D.i .i64))),(5,.box [dI s7,.ref 4 none])] ?_ ?_
 replace hr:=hqq2
 refine ggE hr fun g1 hr=>bdE hr fun x1 hx1 hr=>bdP hr fun y3 y4 hq3 hr=>J g<|J (CB' [(0,6)] [] (z3E (m:=m) hq3))<|J g<|J (NV' 7)<|J (gn 9)<|ifE hr ?_ ?_<;>intro h3 hr
 refine J (gn 5) ?_
 refine J (q0v 6 rfl)<|bdE hr fun y5 hy5 hr=>J (CB' [] [] (z2A (m:=.fz) hy5))<|J (gn 7)<|J (lenT 10)<|fun hl2=>bdP hr fun s8 s9 hqq4 hr=>q0c hqq4 hl2 8 (fun k2 (s8,s9)=>[(3,.pb 1 0),(4,.pb 2 0),(5,.ref 3 none),(6,.pb 5 0),(7,dI s3),(10,.d .fz (.sl 2 (y5.map Oc.D))),(11,dI (k2:Int)),(23,.pb 5 0),(24,dI s5),(25,dB (decide (0<s5)))]) (fun k2 (s8,s9)=>[(4,.row .fz 1 (s8.map (A.D.i .i64))),(5,.box [dI s9,.ref 4 none]),(6,.none)]) I (fun k2 xk2 sk2 ok2 hxk2 hr hltk2=>?_) fun k2 hltk2=>?_
 obtain⟨s8,s9⟩:=sk2
 refine bdE hr fun y6 hy6 hr=>J g<|J (CB' [] [3] (z9D (m:=.bo) hy6))<|bdE hr fun y7 hy7 hr=>J g<|J (CB' [(0,8)] [4] (j4a (m:=.bo) hy7))<|e
 exact e
 exact e
 refine ggE hr fun g2 hr=>e
 refine J (gn 2) ?_
 cases hr
 cases hik1 _ rfl
 exact GH.trans (q1c (q:=0) [.d m (.sl 2 (a0.Symbols.map Symbol.D)),.u] (.cons .rfl (.cons .u .nil)) rfl) (q0d hS 6)
 refine J (gn 8) ?_
 cases hr
 cases hik1 _ rfl
 exact GH.trans (q1c (q:=0) [.d m (.sl 2 (a0.Symbols.map Symbol.D)),.u] (.cons .rfl (.cons .u .nil)) rfl) (q0d hS 6)
 exact e
theorem z4T {m:Md}{a0:Grammar}{a1:Rule}{a2:Int}{r:(List Int)}(hr:q6K a0 a1 a2=some r):Ok Tryz.prog 68 [Grammar.y m a0,Rule.x m a1,dI a2] [] (.ref 0 none) [.row .fz 1 (r.map (A.D.i .i64))]:=by
 refine OE Tryz.func68 fun S hS=>?_
 unfold q6K at hr
 refine J g<|J (BX' 0)<|J (BX' 1)<|J g<|J (L0' 2 (A.D.i .i64))<|bdE hr fun y1 hy1 hr=>J g<|J (CB' [(0,3)] [] (z6q (m:=m) hy1))<|J (gn 8)<|J (lenR 3)<|fun hl1=>bdE hr fun s1 hqq1 hr=>q0c hqq1 hl1 4 (fun k1 s1=>[(2,dI a2),(7,.ref 2 none),(8,.ref 3 none),(9,dI (k1:Int))]) (fun k1 s1=>[(2,.row .fz 1 (s1.map (A.D.i .i64)))]) I (fun k1 xk1 sk1 ok1 hxk1 hr hltk1=>?_) fun k1 hltk1=>?_
 obtain⟨s1,rfl⟩:∃ y,y=sk1:=⟨_,rfl⟩
 refine bdE hr fun s2 hqq2 hr=>J (gn 11)<|q0e 4 [(2,dI a2),(7,.ref 2 none),(8,.ref 3 none),(9,dI (k1:Int))] [(2,.row .fz 1 (s2.map (A.D.i .i64)))] ?_ ?_
 replace hr:=hqq2
 refine J (gn 11)<|ifE hr ?_ ?_<;>intro h1 hr
 refine J g<|J (LIR' 4 (m:=.fz) (f:=(A.D.i .i64)) (xs:=([(k1:Int)]:List Int)))<|ggE hr fun g1 hr=>J (z3b (f:=(A.D.i .i64)) 5 (fun _=>rfl) 8 g1)<|e
 exact e
 exact e
 exact e
theorem z6W {m:Md}{a0:Rl_}{a1:Int}{a2:Int}{r:Bool}(hr:q7V a0 a1 a2=some r):Ok Tryz.prog 91 [Rl_.x m a0,dI a1,dI a2] [] (dB r) []:=by
 refine OE Tryz.func91 fun S hS=>?_
 unfold q7V at hr
 refine J g<|J (BX' 0)<|bdE hr fun y1 hy1 hr=>J g<|J (CB' [] [] (q5G (m:=m) hy1))<|bdE hr fun s1 hqq1 hr=>q0a 7 [(1,dI a1),(2,dI a2),(3,.pb 0 0),(6,dB false),(15,dB s1)] ?_ ?_
 replace hr:=hqq1
 refine ifE hr ?_ ?_<;>intro h1 hr
 refine ggE hr fun g1 hr=>bdE hr fun y2 hy2 hr=>J g<|J (CB' [] [] (q5O hy2))<|e
 exact e
 refine bdE hr fun s2 hqq2 hr=>q0a 7 [(1,dI a1),(2,dI a2),(3,.pb 0 0),(6,dB false),(22,dB s2)] ?_ ?_
 replace hr:=hqq2
 refine ifE hr ?_ ?_<;>intro h2 hr
 refine ggE hr fun g2 hr=>bdE hr fun y3 hy3 hr=>J g<|J (CB' [] [] (q5O hy3))<|e
 exact e
 refine bdE hr fun s3 hqq3 hr=>q0a 12 [(6,dB false),(34,dB s3)] ?_ ?_
 replace hr:=hqq3
 refine ifE hr ?_ ?_<;>intro h3 hr
 refine ggE hr fun g3 hr=>bdE hr fun x1 hx1 hr=>ggE hr fun g4 hr=>J g ?_
 refine J (CIU' g4 rfl)<|ggE hr fun g5 hr=>J (OB' _ (k6a g5))<|ggE hr fun g6 hr=>J (OB' _ (k6b g6))<|J g<|E
 exact e
 exact e
theorem z6r {m:Md}{a0:Rl_}{r:Rl_}(hr:q7W a0=some r):Ok Tryz.prog 90 [Rl_.x m a0] [] (.ag [dI r.N,.ref 0 none]) [.row .fz 1 (r.Rows.map (A.D.i .i64))]:=by
 refine OE Tryz.func90 fun S hS=>?_
 unfold q7W at hr
 refine J g<|J (BX' 0)<|J (NV' 1)<|bdE hr fun y1 hy1 hr=>J g<|J (CB' [(0,2)] [] (z9E (m:=m) hy1))<|J (NV' 3)<|bdE hr fun y2 hy2 hr=>J g<|J (CB' [] [] (q5G (m:=m) hy2))<|J (gn 2)<|ifE hr ?_ ?_<;>intro h1 hr
 refine J (gn 8) ?_
 refine AW.rng (.ag 0 (.tmp 0 rfl) rfl) fun hl1=>?_
 refine bdE hr fun s1 hqq1 hr=>q0m hqq1 4 (fun k1 s1=>[(1,.pb 0 0),(2,.pb 1 0),(3,.pb 3 0),(4,dI (k1:Int))]) (fun k1 s1=>[(2,.row .fz 1 (s1.map (A.D.i .i64)))]) I (fun k1 sk1 ok1 hr hltk1=>?_) ?_
 obtain⟨s1,rfl⟩:∃ y,y=sk1:=⟨_,rfl⟩
 refine J (gn 17)<|J (rngT 14)<|fun hl2=>bdE hr fun s2 hqq2 hr=>q0m hqq2 4 (fun k2 s2=>[(1,.pb 0 0),(2,.pb 1 0),(3,.pb 3 0),(4,dI (k1:Int)),(5,dI (k2:Int))]) (fun k2 s2=>[(2,.row .fz 1 (s2.map (A.D.i .i64)))]) I (fun k2 sk2 ok2 hr hltk2=>?_) ?_
 obtain⟨s2,rfl⟩:∃ y,y=sk2:=⟨_,rfl⟩
 refine bdE hr fun s3 hqq3 hr=>J (gn 11)<|q0e 4 [(1,.pb 0 0),(2,.pb 1 0),(3,.pb 3 0),(4,dI (k1:Int)),(5,dI (k2:Int))] [(2,.row .fz 1 (s3.map (A.D.i .i64)))] ?_ ?_
 replace hr:=hqq3
 refine bdE hr fun x1 hx1 hr=>J g ?_
 refine J (CIU' (Int.natCast_nonneg _) rfl)<|ggE hr fun g1 hr=>J (OB' _ (k6a g1))<|ggE hr fun g2 hr=>J (OB' _ (k6b g2))<|J (gn 2)<|ifE hr ?_ ?_<;>intro h2 hr
 refine bdE hr fun x2 hx2 hr=>ggE hr fun g3 hr=>J g<|J (OB' _ (bOrI g3))<|J g<|J (SE' ((x1.toNat ||| x2.toNat:Nat):Int) hx1)<|e
 exact e
 exact e
 exact e
 exact e
 exact e
theorem j1l {m:Md}{a0:Rl_}{a1:Rl_}{r:Rl_}(hr:q9e a0 a1=some r):Ok Tryz.prog 52 [Rl_.x m a0,Rl_.x m a1] [] (.ag [dI r.N,.ref 0 none]) [.row .fz 1 (r.Rows.map (A.D.i .i64))]:=by
 refine OE Tryz.func52 fun S hS=>?_
 unfold q9e at hr
 refine J g<|J (BX' 0)<|J (BX' 1)<|J (NV' 2)<|bdE hr fun y1 hy1 hr=>J g<|J (CB' [(0,3)] [] (z9E (m:=m) hy1))<|J (NV' 4)<|bdE hr fun y2 hy2 hr=>J g<|J (CB' [] [] (q5G (m:=m) hy2))<|bdE hr fun s1 hqq1 hr=>J (gn 1)<|q0a 5 [(2,.pb 0 0),(3,.pb 1 0),(4,.pb 2 0),(5,.pb 4 0),(16,dB s1)] ?_ ?_
 replace hr:=hqq1
 refine ifE hr ?_ ?_<;>intro h1 hr
 refine bdE hr fun y3 hy3 hr=>J g<|J (CB' [] [] (q5G (m:=m) hy3))<|e
 exact e
 refine bdE hr fun s2 hqq2 hr=>q0a 7 [(2,.pb 0 0),(3,.pb 1 0),(4,.pb 2 0),(5,.pb 4 0),(23,dB s2)] ?_ ?_
 replace hr:=hqq2
 refine ifE hr ?_ ?_<;>intro h2 hr
 exact e
 exact e
 refine J (gn 1)<|ifE hr ?_ ?_<;>intro h3 hr
 exact e
 refine J (gn 8) ?_
 refine AW.rng (.box 0 0 rfl rfl) fun hl1=>?_
 refine bdE hr fun s3 hqq3 hr=>q0m hqq3 5 (fun k1 s3=>[(2,.pb 0 0),(3,.pb 1 0),(4,.pb 2 0),(5,.pb 4 0),(6,dI (k1:Int))]) (fun k1 s3=>[(3,.row .fz 1 (s3.map (A.D.i .i64)))]) I (fun k1 sk1 ok1 hr hltk1=>?_) ?_
 obtain⟨s3,rfl⟩:∃ y,y=sk1:=⟨_,rfl⟩
 refine bdE hr fun x1 hx1 hr=>bdE hr fun x2 hx2 hr=>ggE hr fun g1 hr=>J g<|J (OB' _ (bOrI g1))<|J g<|J (SE' ((x1.toNat ||| x2.toNat:Nat):Int) hx1)<|e
 exact e
theorem k2z {m:Md}{a0:(List Int)}{a1:(List Int)}{r:Bool}(hr:j0m a0 a1=some r):Ok Tryz.prog 109 [.d m (.sl 1 (a0.map (A.D.i .i64))),.d m (.sl 1 (a1.map (A.D.i .i64)))] [] (dB r) []:=by
 refine OE Tryz.func109 fun S hS=>?_
 unfold j0m at hr
 refine J (gn 13)<|ifE hr ?_ ?_<;>intro h1 hr
 refine J (gn 8)<|J (lenT 0)<|fun hl1=>bdE hr fun q1 hqq1 hr=>q0b hqq1 hl1 0 (fun k1 _=>[(0,.d m (.sl 1 (a0.map (A.D.i .i64)))),(1,.d m (.sl 1 (a1.map (A.D.i .i64)))),(5,dI (k1:Int))]) (fun k1 _=>[]) I (fun k1 xk1 sk1 ok1 hxk1 hr hltk1 hik1=>?_) fun k1 sk1 ek1 hltk1=>?_
 refine bdE hr fun x1 hx1 hr=>J (gn 24)<|ifE hr ?_ ?_<;>intro h2 hr
 exact e
 exact e
 subst ek1
 exact e
 exact e
theorem j1m {m:Md}{a0:Rl_}{a1:Rl_}{r:Bool}(hr:q9f a0 a1=some r):Ok Tryz.prog 54 [Rl_.x m a0,Rl_.x m a1] [] (dB r) []:=by
 refine OE Tryz.func54 fun S hS=>?_
 unfold q9f at hr
 refine J g<|J (BX' 0)<|J (BX' 1)<|J (gn 9)<|ifE hr ?_ ?_<;>intro h1 hr
 refine bdE hr fun y1 hy1 hr=>J g<|J (CB' [] [] (k2z (m:=m) hy1))<|e
 exact e
theorem j4b {m:Md}{a0:Rl_}{r:Bool}(hr:z1f a0=some r):Ok Tryz.prog 36 [Rl_.x m a0] [] (dB r) []:=by
 refine OE Tryz.func36 fun S hS=>?_
 unfold z1f at hr
 refine J g<|J (BX' 0)<|bdE hr fun y1 hy1 hr=>J g<|J (CB' [] [] (q5G (m:=m) hy1))<|J (gn 2)<|ifE hr ?_ ?_<;>intro h1 hr
 refine bdE hr fun y2 hy2 hr=>J g<|J (CB' [(0,1)] [] (z6r (m:=m) hy2))<|J (NV' 2)<|J (gn 8) ?_
 refine AW.rng (.ag 0 (.tmp 0 rfl) rfl) fun hl1=>?_
 refine bdE hr fun q1 hqq1 hr=>q0w hqq1 3 (fun k1 _=>[(1,.pb 0 0),(3,.pb 2 0),(4,dI (k1:Int))]) (fun k1 _=>[]) I (fun k1 sk1 ok1 hr hltk1 hik1=>?_) fun sk1 ek1=>?_
 refine bdE hr fun y3 hy3 hr=>J g<|J (CB' [] [1] (z6W (m:=.bo) hy3))<|J (gn 1)<|ifE hr ?_ ?_<;>intro h2 hr
 exact e
 exact e
 subst ek1
 exact e
 exact e
theorem j5j {rec_sHasRemote:Expr→Option Bool}(ih_sHasRemote:∀ {m:Md} {a0:Expr} {r:Bool},rec_sHasRemote a0=some r→Ok Tryz.prog 173 [Expr.x m a0] [] (dB r) []){m:Md}{a0:Expr}{r:Bool}(hr:z3n rec_sHasRemote a0=some r):Ok Tryz.prog 173 [Expr.x m a0] [] (dB r) []:=by
 refine OE Tryz.func173 fun S hS=>?_
 unfold z3n at hr
 refine J g<|J (BX' 0)<|J (gn 8)<|J (lenA 6 0)<|fun hl1=>bdE hr fun q1 hqq1 hr=>q0b hqq1 hl1 1 (fun k1 _=>[(1,.pb 0 0),(3,dI (k1:Int))]) (fun k1 _=>[]) I (fun k1 xk1 sk1 ok1 hxk1 hr hltk1 hik1=>?_) fun k1 sk1 ek1 hltk1=>?_
 refine bdE hr fun y1 hy1 hr=>J g<|J (CB' [] [] (ih_sHasRemote (m:=m) hy1))<|J (gn 1)<|ifE hr ?_ ?_<;>intro h1 hr
 exact e
 exact e
 subst ek1
 exact e
theorem j5k (n:Nat):∀ {m:Md} {a0:Expr} {r:Bool},z3o n a0=some r→Ok Tryz.prog 173 [Expr.x m a0] [] (dB r) []:=by
  induction n with
  | zero=>intro _ _ r hr;exact nomatch (show (none:Option Bool)=some r from hr)
  | succ n ih=>intro _ _ r hr;exact j5j ih hr
theorem j6N {m:Md}{a0:Expr}{r:Bool}(hr:z8f a0=some r):Ok Tryz.prog 173 [Expr.x m a0] [] (dB r) []:=by
 obtain⟨n,hn⟩:=q5Z hr
 exact j5k n hn
theorem j6O {m:Md}{a0:Rule}{r:Bool}(hr:z3p a0=some r):Ok Tryz.prog 119 [Rule.x m a0] [] (dB r) []:=by
 refine OE Tryz.func119 fun S hS=>?_
 unfold z3p at hr
 refine J g<|J (BX' 0)<|J (gn 8)<|J (lenA 4 0)<|fun hl1=>bdE hr fun q1 hqq1 hr=>q0b hqq1 hl1 1 (fun k1 _=>[(1,.pb 0 0),(3,dI (k1:Int))]) (fun k1 _=>[]) I (fun k1 xk1 sk1 ok1 hxk1 hr hltk1 hik1=>?_) fun k1 sk1 ek1 hltk1=>?_
 refine bdE hr fun y1 hy1 hr=>J g<|J (CB' [] [] (j6N (m:=m) hy1))<|J (gn 1)<|ifE hr ?_ ?_<;>intro h1 hr
 exact e
 exact e
 subst ek1
 exact e
theorem j8r {m:Md}{a0:Grammar}{r:Bool}(hr:z4I a0=some r):Ok Tryz.prog 64 [Grammar.x m a0] [] (dB r) []:=by
 refine OE Tryz.func64 fun S hS=>?_
 unfold z4I at hr
 refine J g<|J (BX' 0)<|J (gn 8)<|J (lenA 0 0)<|fun hl1=>bdE hr fun q1 hqq1 hr=>q0b hqq1 hl1 1 (fun k1 _=>[(1,.pb 0 0),(3,dI (k1:Int))]) (fun k1 _=>[]) I (fun k1 xk1 sk1 ok1 hxk1 hr hltk1 hik1=>?_) fun k1 sk1 ek1 hltk1=>?_
 refine J (gn 18) ?_
 refine AW.len (.el 1 (.tmp 9 rfl) hxk1 rfl) fun hl2=>?_
 refine bdE hr fun q2 hqq2 hr=>q0b hqq2 hl2 1 (fun k2 _=>[(1,.pb 0 0),(3,dI (k1:Int)),(4,dI (k2:Int))]) (fun k2 _=>[]) I (fun k2 xk2 sk2 ok2 hxk2 hr hltk2 hik2=>?_) fun k2 sk2 ek2 hltk2=>?_
 refine J g<|J (NV' 1)<|J (gn 6)<|ifE hr ?_ ?_<;>intro h1 hr
 exact e
 refine J (gn 6)<|ifE hr ?_ ?_<;>intro h2 hr
 exact e
 exact e
 subst ek2
 exact e
 subst ek1
 refine J (gn 17) ?_
 refine AW.len (.box 0 1 rfl rfl) fun hl3=>?_
 refine bdE hr fun q3 hqq3 hr=>q0b hqq3 hl3 1 (fun k3 _=>[(1,.pb 0 0),(6,dI (k3:Int))]) (fun k3 _=>[]) I (fun k3 xk3 sk3 ok3 hxk3 hr hltk3 hik3=>?_) fun k3 sk3 ek3 hltk3=>?_
 refine bdE hr fun y1 hy1 hr=>J g<|J (CB' [] [] (j6O (m:=m) hy1))<|J (gn 1)<|ifE hr ?_ ?_<;>intro h3 hr
 exact e
 exact e
 subst ek3
 refine bdE hr fun y2 hy2 hr=>J g<|J (CB' [] [] (j9N (m:=m) hy2))<|e
theorem j9O {m:Md}{a0:Grammar}{a1:Rule}{a2:(List Rl_)}{r:Rl_}(hr:z6i a0 a1 a2=some r):Ok Tryz.prog 65 [Grammar.y m a0,Rule.x m a1,.d m (.sl 2 (a2.map Rl_.D))] [] (.ag [dI r.N,.ref 0 none]) [.row .fz 1 (r.Rows.map (A.D.i .i64))]:=by
 refine OE Tryz.func65 fun S hS=>?_
 unfold z6i at hr
 refine J g<|J (BX' 0)<|J (BX' 1)<|J (NV' 2)<|bdE hr fun y1 hy1 hr=>J g<|J (CB' [(0,3)] [] (j1k (m:=m) hy1))<|J (NV' 4)<|bdP hr fun s1 s2 hqq1 hr=>J (gn 7)<|q0e 5 [(6,.pb 2 0),(7,.pb 4 0)] [(3,.row .fz 1 (s1.map (A.D.i .i64))),(4,.box [dI s2,.ref 3 none])] ?_ ?_
 refine J g<|q0h hqq1 5 (fun (s3,s4,s5)=>[(2,.d m (.sl 2 (a2.map Rl_.D))),(3,.pb 0 0),(4,.pb 1 0),(6,.pb 2 0),(7,.pb 4 0),(8,dI s3)]) (fun (s3,s4,s5)=>[(3,.row .fz 1 (s4.map (A.D.i .i64))),(4,.box [dI s5,.ref 3 none])]) I fun sk1 ok1 hr hik1=>?_
 obtain⟨s3,s4,s5⟩:=sk1
 have hr:=hr
 refine J (gn 9)<|ifE hr ?_ ?_<;>intro h1 hr
 refine bdE hr fun y2 hy2 hr=>J g<|J (CB' [(0,5)] [] (z4T (m:=m) hy2))<|bdE hr fun y3 hy3 hr=>J g<|J (CB' [] [] (q8L (m:=m) hy3))<|bdE hr fun y4 hy4 hr=>J (CB' [] [] (z8p (m:=m) hy4))<|bdE hr fun y5 hy5 hr=>J (CB' [] [] (j0E hy5))<|ggE hr fun g1 hr=>bdE hr fun x1 hx1 hr=>J g<|J (NV' 6)<|J (gn 7)<|J (lenR 5)<|fun hl2=>bdP hr fun s6 s7 hqq2 hr=>q0c hqq2 hl2 7 (fun k2 (s6,s7)=>[(2,.d m (.sl 2 (a2.map Rl_.D))),(3,.pb 0 0),(4,.pb 1 0),(6,.pb 2 0),(7,.pb 4 0),(8,dI s3),(9,.ref 5 none),(10,.pb 6 0),(11,dI (k2:Int))]) (fun k2 (s6,s7)=>[(3,.row .fz 1 (s6.map (A.D.i .i64))),(4,.box [dI s7,.ref 3 none])]) I (fun k2 xk2 sk2 ok2 hxk2 hr hltk2=>?_) fun k2 hltk2=>?_
 obtain⟨s6,s7⟩:=sk2
 refine J (gn 17)<|J (lenR 5)<|fun hl3=>bdP hr fun s8 s9 hqq3 hr=>q0c hqq3 hl3 7 (fun k3 (s8,s9)=>[(2,.d m (.sl 2 (a2.map Rl_.D))),(3,.pb 0 0),(4,.pb 1 0),(6,.pb 2 0),(7,.pb 4 0),(8,dI s3),(9,.ref 5 none),(10,.pb 6 0),(11,dI (k2:Int)),(12,dI (k3:Int))]) (fun k3 (s8,s9)=>[(3,.row .fz 1 (s8.map (A.D.i .i64))),(4,.box [dI s9,.ref 3 none])]) I (fun k3 xk3 sk3 ok3 hxk3 hr hltk3=>?_) fun k3 hltk3=>?_
 obtain⟨s8,s9⟩:=sk3
 refine bdP hr fun s10 s11 hqq4 hr=>J (gn 11)<|q0e 7 [(2,.d m (.sl 2 (a2.map Rl_.D))),(3,.pb 0 0),(4,.pb 1 0),(6,.pb 2 0),(7,.pb 4 0),(8,dI s3),(9,.ref 5 none),(10,.pb 6 0),(11,dI (k2:Int)),(12,dI (k3:Int))] [(3,.row .fz 1 (s10.map (A.D.i .i64))),(4,.box [dI s11,.ref 3 none])] ?_ ?_
 replace hr:=hqq4
 refine bdE hr fun y6 hy6 hr=>J g<|J (CB' [] [] (z6W (m:=m) hy6))<|J (gn 1)<|ifE hr ?_ ?_<;>intro h2 hr
 refine bdE hr fun y7 hy7 hr=>J g<|J (CB' [(0,7)] [3] (j4a (m:=.bo) hy7))<|e
 exact e
 exact e
 exact e
 refine ggE hr fun g2 hr=>e
 refine J (gn 2) ?_
 cases hr
 cases hik1 _ rfl
 exact GH.trans (q1c (q:=0) [.d m (.sl 2 (a0.Symbols.map Symbol.D)),.u] (.cons .rfl (.cons .u .nil)) rfl) (q0d hS 5)
 refine bdE hr fun y8 hy8 hr=>J g<|J (CB' [(0,5)] [3] (z6r (m:=.bo) hy8))<|e
theorem z9F {m:Md}{a0:Rl_}{a1:(List Int)}{r:Rl_}(hr:q5y a0 a1=some r):Ok Tryz.prog 67 [Rl_.x m a0,.d m (.sl 1 (a1.map (A.D.i .i64)))] [] (.ag [dI r.N,.ref 0 none]) [.row .fz 1 (r.Rows.map (A.D.i .i64))]:=by
 refine OE Tryz.func67 fun S hS=>?_
 unfold q5y at hr
 refine J g<|J (BX' 0)<|J (NV' 1)<|bdE hr fun y1 hy1 hr=>J g<|J (CB' [] [] (q5G (m:=m) hy1))<|J (gn 1)<|ifE hr ?_ ?_<;>intro h1 hr
 refine J (gn 6)<|ifE hr ?_ ?_<;>intro h2 hr
 refine J (gn 7) ?_
 refine J (q0g (q0q (q:=1) (c:=1) (r:=2) .fz 1 rfl rfl rfl))<|J g<|E
 refine bdE hr fun y2 hy2 hr=>J g<|J (CB' [(0,2)] [] (z2C hy2))<|J (NV' 3)<|J (gn 8)<|J (lenT 1)<|fun hl1=>bdE hr fun s1 hqq1 hr=>q0c hqq1 hl1 4 (fun k1 s1=>[(1,.d m (.sl 1 (a1.map (A.D.i .i64)))),(2,.pb 0 0),(4,.pb 1 0),(5,.pb 3 0),(6,dI (k1:Int))]) (fun k1 s1=>[(2,.row .fz 1 (s1.map (A.D.i .i64)))]) I (fun k1 xk1 sk1 ok1 hxk1 hr hltk1=>?_) fun k1 hltk1=>?_
 obtain⟨s1,rfl⟩:∃ y,y=sk1:=⟨_,rfl⟩
 refine J (gn 17)<|J (lenT 1)<|fun hl2=>bdE hr fun s2 hqq2 hr=>q0c hqq2 hl2 4 (fun k2 s2=>[(1,.d m (.sl 1 (a1.map (A.D.i .i64)))),(2,.pb 0 0),(4,.pb 1 0),(5,.pb 3 0),(6,dI (k1:Int)),(7,dI (k2:Int))]) (fun k2 s2=>[(2,.row .fz 1 (s2.map (A.D.i .i64)))]) I (fun k2 xk2 sk2 ok2 hxk2 hr hltk2=>?_) fun k2 hltk2=>?_
 obtain⟨s2,rfl⟩:∃ y,y=sk2:=⟨_,rfl⟩
 refine bdE hr fun s3 hqq3 hr=>J (gn 11)<|q0e 4 [(1,.d m (.sl 1 (a1.map (A.D.i .i64)))),(2,.pb 0 0),(4,.pb 1 0),(5,.pb 3 0),(6,dI (k1:Int)),(7,dI (k2:Int))] [(2,.row .fz 1 (s3.map (A.D.i .i64)))] ?_ ?_
 replace hr:=hqq3
 refine bdE hr fun y3 hy3 hr=>J g<|J (CB' [] [] (z6W (m:=m) hy3))<|J (gn 1)<|ifE hr ?_ ?_<;>intro h3 hr
 refine bdE hr fun x1 hx1 hr=>J g ?_
 refine J (CIU' (Int.natCast_nonneg _) rfl)<|ggE hr fun g1 hr=>J (OB' _ (k2g g1))<|ggE hr fun g2 hr=>J (OB' _ (bOrI g2))<|J g<|J (SE' ((x1.toNat ||| ((2 ^ (k2:Int).toNat:Nat):Int).toNat:Nat):Int) hx1)<|J g<|E
 exact e
 exact e
 exact e
 exact e
 refine J (gn 13) ?_
 refine J (q0g (q0q (q:=1) (c:=1) (r:=2) .fz 1 rfl rfl rfl))<|J g<|E
theorem z9a {m:Md}{a0:Grammar}{r:((List Rl_)×Bool)}(hr:q7G a0=some r):Ok Tryz.prog 22 [Grammar.x m a0] [] (.tu [.ref 0 none,dB r.2]) [.row .fz 2 (r.1.map Rl_.D)]:=by
 refine OE Tryz.func22 fun S hS=>?_
 unfold q7G at hr
 refine J g<|J (BX' 0)<|bdE hr fun y1 hy1 hr=>J g<|J (CB' [] [] (j8r (m:=m) hy1))<|J (gn 2)<|ifE hr ?_ ?_<;>intro h1 hr
 refine J g<|J (L0' 1 Rl_.D)<|J (gn 8)<|J (lenA 0 0)<|fun hl1=>bdE hr fun s1 hqq1 hr=>q0c hqq1 hl1 2 (fun k1 s1=>[(1,.pb 0 0),(4,.ref 1 none),(5,dI (k1:Int))]) (fun k1 s1=>[(1,.row .fz 2 (s1.map Rl_.D))]) I (fun k1 xk1 sk1 ok1 hxk1 hr hltk1=>?_) fun k1 hltk1=>?_
 obtain⟨s1,rfl⟩:∃ y,y=sk1:=⟨_,rfl⟩
 refine bdE hr fun y2 hy2 hr=>J g<|J (CB' [(0,2)] [] (z1c (m:=m) hy2))<|bdE hr fun y3 hy3 hr=>J g<|J (CBz' 3 [(0,3)] [] (z2C hy3))<|J (LIR' 4 (m:=.fz) (f:=Rl_.D) (xs:=[y3]))<|ggE hr fun g1 hr=>J (AP1' 5 .fz 32 g1)<|J (q0L .refl)<|e
 refine bdE hr fun q2 hqq2 hr=>J g<|q0h hqq2 2 (fun s2=>[(1,.pb 0 0),(4,.ref 1 none)]) (fun s2=>[(1,.row .fz 2 (s2.map Rl_.D))]) I fun sk2 ok2 hr hik2=>?_
 obtain⟨s2,rfl⟩:∃ y,y=sk2:=⟨_,rfl⟩
 refine J (gn 11) ?_
 refine AW.len (.box 0 1 rfl rfl) fun hl3=>?_
 refine bdE hr fun q3 hqq3 hr=>q0b hqq3 hl3 2 (fun k3 (s3,s4)=>[(1,.pb 0 0),(4,.ref 1 none),(6,dB s4),(7,dI (k3:Int))]) (fun k3 (s3,s4)=>[(1,.row .fz 2 (s3.map Rl_.D))]) I (fun k3 xk3 sk3 ok3 hxk3 hr hltk3 hik3=>?_) fun k3 sk3 ek3 hltk3=>?_
 obtain⟨s3,s4⟩:=sk3
 refine J g<|J (NV' 2)<|bdE hr fun y4 hy4 hr=>J g<|J (CB' [(0,3)] [1] (j9O (m:=.bo) hy4))<|J (NV' 4)<|bdE hr fun y5 hy5 hr=>J g<|J (CB' [] [3] (j4b (m:=.bo) hy5))<|J (gn 1)<|ifE hr ?_ ?_<;>intro h2 hr
 refine J g<|J (L0' 5 Rl_.D)<|e
 refine bdP hr fun s5 s6 hqq4 hr=>J (gn 6)<|q0e 5 [(1,.pb 0 0),(4,.ref 1 none),(6,dB s6),(7,dI (k3:Int))] [(1,.row .fz 2 (s5.map Rl_.D))] ?_ ?_
 refine J g<|q0h hqq4 5 (fun (s7,s8,s9)=>[(1,.pb 0 0),(4,.ref 1 none),(6,dB s8),(7,dI (k3:Int)),(8,.pb 2 0),(9,.pb 4 0),(10,dI s9)]) (fun (s7,s8,s9)=>[(1,.row .fz 2 (s7.map Rl_.D))]) I fun sk4 ok4 hr hik4=>?_
 obtain⟨s7,s8,s9⟩:=sk4
 have hr:=hr
 refine J (gn 9)<|ifE hr ?_ ?_<;>intro h3 hr
 refine bdP hr fun s10 s11 hqq5 hr=>J (gn 3)<|q0e 5 [(1,.pb 0 0),(4,.ref 1 none),(6,dB s10),(7,dI (k3:Int)),(8,.pb 2 0),(9,.pb 4 0),(10,dI s9)] [(1,.row .fz 2 (s11.map Rl_.D))] ?_ ?_
 replace hr:=hqq5
 refine bdE hr fun y6 hy6 hr=>J g<|J (CB' [] [] (q8L (m:=m) hy6))<|bdE hr fun y7 hy7 hr=>J (CB' [] [] (z8p (m:=m) hy7))<|ggE hr fun g2 hr=>bdE hr fun x1 hx1 hr=>bdE hr fun y8 hy8 hr=>J g<|J (CB' [(0,5)] [] (z4T (m:=m) hy8))<|bdE hr fun y9 hy9 hr=>J (CB' [(0,6)] [3,5] (z9F (m:=.bo) hy9))<|bdE hr fun y10 hy10 hr=>J (CB' [(0,7)] [6] (j1l (m:=.bo) hy10))<|J (NV' 8)<|J (gn 5)<|ifE hr ?_ ?_<;>intro h4 hr
 refine J (gn 9)<|J (q0L .refl)<|J (gn 7) ?_
 refine J (q0v 7 rfl)<|J (SE' y10 hx1)<|J g<|E
 refine bdE hr fun y11 hy11 hr=>J g<|J (CB' [] [7] (j1m (m:=.bo) hy11))<|J (gn 2)<|J (q0L .refl)<|J (gn 7) ?_
 refine J (q0v 7 rfl)<|J (SE' y10 hx1)<|J g<|E
 refine ggE hr fun g3 hr=>e
 refine J (gn 2) ?_
 cases hr
 cases hik4 _ rfl
 exact q0d hS 5
 exact e
 subst ek3
 obtain⟨s3,s4⟩:=sk3
 refine J (gn 16)<|ifE hr ?_ ?_<;>intro h5 hr
 exact e
 exact e
 refine J g<|J (L0' 1 Rl_.D)<|e
theorem j8s {m:Md}{a0:Rl_}{a1:(List Bool)}{a2:Int}{r:Bool}(hr:z2o a0 a1 a2=some r):Ok Tryz.prog 189 [Rl_.x m a0,.d m (.sl 1 (a1.map A.D.b)),dI a2] [] (dB r) []:=by
 refine OE Tryz.func189 fun S hS=>?_
 unfold z2o at hr
 refine J g<|J (BX' 0)<|J (gn 8) ?_
 refine AW.rng (.ag 0 (.tmp 0 rfl) rfl) fun hl1=>?_
 refine bdE hr fun q1 hqq1 hr=>q0w hqq1 1 (fun k1 _=>[(1,.d m (.sl 1 (a1.map A.D.b))),(2,dI a2),(3,.pb 0 0),(7,dI (k1:Int))]) (fun k1 _=>[]) I (fun k1 sk1 ok1 hr hltk1 hik1=>?_) fun sk1 ek1=>?_
 refine bdE hr fun y1 hy1 hr=>J g<|J (CB' [] [] (z6W (m:=m) hy1))<|ifE hr ?_ ?_<;>intro h1 hr
 refine bdE hr fun x1 hx1 hr=>J (gn 8)<|ifE hr ?_ ?_<;>intro h2 hr
 exact e
 exact e
 exact e
 subst ek1
 exact e
theorem j4c {m:Md}{a0:(List At_)}{a1:Rl_}{a2:(List Bool)}{a3:Int}{r:((List ByteArray)×(List Bool))}(hr:z1h a0 a1 a2 a3=some r):Ok Tryz.prog 129 [.d m (.sl 4 (a0.map At_.D)),Rl_.x m a1,.ref 0 none,dI a3] [.row .fz 1 (a2.map A.D.b)] (.ref 1 none) [.row .fz 1 (r.2.map A.D.b),.row .fz 1 (r.1.map A.D.s)]:=by
 refine OE Tryz.func129 fun S hS=>?_
 unfold z1h at hr
 refine J g<|J (BX' 1)<|J g<|J (L0' 2 A.D.s)<|bdE hr fun q1 hqq1 hr=>J g<|q0h hqq1 3 (fun (s1,s2)=>[(0,.d m (.sl 4 (a0.map At_.D))),(2,.ref 0 none),(3,dI a3),(5,.pb 1 0),(9,.ref 2 none)]) (fun (s1,s2)=>[(0,.row .fz 1 (s2.map A.D.b)),(2,.row .fz 1 (s1.map A.D.s))]) I fun sk1 ok1 hr hik1=>?_
 obtain⟨s1,s2⟩:=sk1
 refine J g<|J (OB' _ (k3D (p:=a0.length) (k:=1) (by decide)))<|bdE hr fun s3 hqq2 hr=>J (gn 2)<|q0e 3 [(0,.d m (.sl 4 (a0.map At_.D))),(2,.ref 0 none),(3,dI a3),(5,.pb 1 0),(9,.ref 2 none),(10,dI s3)] [] ?_ ?_
 refine J g<|q0h hqq2 3 (fun (s4,s5)=>[(0,.d m (.sl 4 (a0.map At_.D))),(2,.ref 0 none),(3,dI a3),(5,.pb 1 0),(9,.ref 2 none),(10,dI s4),(11,dI s5)]) (fun (s4,s5)=>[]) I fun sk2 ok2 hr hik2=>?_
 obtain⟨s4,s5⟩:=sk2
 have hr:=hr
 refine J (gn 6)<|ifE hr ?_ ?_<;>intro h1 hr
 refine bdE hr fun s6 hqq3 hr=>J (gn 3)<|q0e 3 [(0,.d m (.sl 4 (a0.map At_.D))),(2,.ref 0 none),(3,dI a3),(5,.pb 1 0),(9,.ref 2 none),(10,dI s6),(11,dI s5)] [] ?_ ?_
 replace hr:=hqq3
 refine ggE hr fun g1 hr=>bdE hr fun x1 hx1 hr=>bdE hr fun s7 hqq4 hr=>J (gn 10)<|q0a 7 [(0,.d m (.sl 4 (a0.map At_.D))),(2,.ref 0 none),(3,dI a3),(5,.pb 1 0),(9,.ref 2 none),(10,dI s4),(11,dI s5),(33,dB s7)] ?_ ?_
 replace hr:=hqq4
 refine ifE hr ?_ ?_<;>intro h2 hr
 refine ggE hr fun g2 hr=>bdE hr fun x2 hx2 hr=>e
 exact e
 refine bdE hr fun s8 hqq5 hr=>q0a 6 [(0,.d m (.sl 4 (a0.map At_.D))),(2,.ref 0 none),(3,dI a3),(5,.pb 1 0),(9,.ref 2 none),(10,dI s4),(11,dI s5),(39,dB s8)] ?_ ?_
 replace hr:=hqq5
 refine ifE hr ?_ ?_<;>intro h3 hr
 refine bdE hr fun y1 hy1 hr=>J g<|J (CB' [] [0] (j8s (m:=.bo) hy1))<|e
 exact e
 refine J (gn 1)<|ifE hr ?_ ?_<;>intro h4 hr
 exact e
 exact e
 refine ggE hr fun g3 hr=>e
 refine J (gn 2) ?_
 cases hr
 cases hik2 _ rfl
 exact q0d hS 3
 refine J (gn 6)<|ifE hr ?_ ?_<;>intro h5 hr
 exact e
 refine ggE hr fun g4 hr=>bdE hr fun x3 hx3 hr=>J g<|J (SE' true hx3)<|ggE hr fun g5 hr=>bdE hr fun x4 hx4 hr=>J g<|J (LIR' 3 (m:=.fz) (f:=A.D.s) (xs:=[x4.Name]))<|ggE hr fun g6 hr=>J (z3b (f:=A.D.s) 4 (fun _=>rfl) 16 g6)<|e
theorem j8t {m:Md}{a0:(List At_)}{a1:Rl_}{r:((List Phase)×Bool)}(hr:z4K a0 a1=some r):Ok Tryz.prog 76 [.d m (.sl 4 (a0.map At_.D)),Rl_.x m a1] [] (.tu [.ref 0 none,dB r.2]) [.row .fz 2 (r.1.map Phase.D)]:=by
 refine OE Tryz.func76 fun S hS=>?_
 unfold z4K at hr
 refine J g<|J (BX' 0)<|bdE hr fun y1 hy1 hr=>J g<|J (CB' [] [] (q5G (m:=m) hy1))<|bdE hr fun s1 hqq1 hr=>J (gn 1)<|q0a 7 [(0,.d m (.sl 4 (a0.map At_.D))),(3,.pb 0 0),(20,dB s1)] ?_ ?_
 replace hr:=hqq1
 refine ifE hr ?_ ?_<;>intro h1 hr
 exact e
 exact e
 refine bdE hr fun s2 hqq2 hr=>q0a 4 [(0,.d m (.sl 4 (a0.map At_.D))),(3,.pb 0 0),(24,dB s2)] ?_ ?_
 replace hr:=hqq2
 refine ifE hr ?_ ?_<;>intro h2 hr
 exact e
 refine bdE hr fun y2 hy2 hr=>J g<|J (CB' [] [] (j4b (m:=m) hy2))<|e
 refine J (gn 1)<|ifE hr ?_ ?_<;>intro h3 hr
 refine J g<|J (L0' 1 Phase.D)<|e
 refine J g<|J (L0' 1 Phase.D)<|ggE hr fun g1 hr=>J g<|J (MKR' 2 (f:=A.D.b) false g1.1 g1.2.1 g1.2.2)<|bdE hr fun q3 hqq3 hr=>J (gn 9)<|AW.cut 3 (fun (s3,s4)=>[(6,.ref 1 none)]) (fun (s3,s4)=>[(1,.row .fz 2 (s3.map Phase.D)),(2,.row .fz 1 (s4.map A.D.b))]) (M:=fun x=>q3=.inl x) ?_ fun x hx=>?_
 refine J g<|q0h hqq3 3 (fun (s5,s6,s7)=>[(0,.d m (.sl 4 (a0.map At_.D))),(3,.pb 0 0),(6,.ref 1 none),(7,.ref 2 none),(8,dI s7)]) (fun (s5,s6,s7)=>[(1,.row .fz 2 (s5.map Phase.D)),(2,.row .fz 1 (s6.map A.D.b))]) I fun sk1 ok1 hr hik1=>?_
 obtain⟨s5,s6,s7⟩:=sk1
 have hr:=hr
 refine bdE hr fun s8 hqq4 hr=>J (gn 5)<|q0a 5 [(0,.d m (.sl 4 (a0.map At_.D))),(3,.pb 0 0),(6,.ref 1 none),(7,.ref 2 none),(8,dI s7),(38,dB s8)] ?_ ?_
 replace hr:=hqq4
 refine ifE hr ?_ ?_<;>intro h4 hr
 exact e
 exact e
 refine J (gn 1)<|ifE hr ?_ ?_<;>intro h5 hr
 refine bdP hr fun y3 z1 hq5 hr=>J g<|J (CB' [(0,2),(1,3)] [] (j4c (m:=m) hq5))<|J g<|J (NV' 4)<|bdP hr fun y4 z2 hq6 hr=>J g<|J (CB' [(0,2),(1,5)] [] (j4c (m:=m) hq6))<|ggE hr fun g2 hr=>J g<|J (OB' _ (z3z (p:=y3.length) (q:=y4.length) g2))<|bdE hr fun s9 hqq7 hr=>J (gn 7)<|q0a 4 [(0,.d m (.sl 4 (a0.map At_.D))),(3,.pb 0 0),(6,.ref 1 none),(7,.ref 2 none),(8,dI s7),(9,.pb 4 0),(10,dI ((y3.length+y4.length:Nat):Int)),(61,dB s9)] ?_ ?_
 replace hr:=hqq7
 refine ifE hr ?_ ?_<;>intro h6 hr
 exact e
 exact e
 refine J (gn 1)<|ifE hr ?_ ?_<;>intro h7 hr
 refine J g<|J (L0' 6 Phase.D)<|e
 refine ggE hr fun g3 hr=>J (gn 12) ?_
 refine J (q0v 3 rfl) ?_
 refine J (q0v 5 rfl)<|J (LIR' 6 (m:=.fz) (f:=Phase.D) (xs:=[(⟨y3,y4⟩:Phase)]))<|ggE hr fun g4 hr=>J (AP1' 7 .fz 48 g4)<|J g<|E
 refine J (gn 2) ?_
 cases hr
 cases hik1 _ rfl
 exact⟨_,rfl,q0d hS 3⟩
 subst hx
 obtain⟨s3,s4⟩:=x
 exact e
theorem j2w {m:Md}{a0:Grammar}{r:((List (List Phase))×Bool)}(hr:q9X a0=some r):Ok Tryz.prog 24 [Grammar.x m a0] [] (.tu [.ref 0 none,dB r.2]) [.row .fz 1 (r.1.map (fun (l:List Phase)=>A.D.sl 2 (l.map Phase.D)))]:=by
 refine OE Tryz.func24 fun S hS=>?_
 unfold q9X at hr
 refine J g<|J (BX' 0)<|bdP hr fun y1 y2 hq1 hr=>J g<|J (CB' [(0,1)] [] (z9a (m:=m) hq1))<|J g<|J (L0' 2 (fun (l:List Phase)=>A.D.sl 2 (l.map Phase.D)))<|bdE hr fun q2 hqq2 hr=>J (gn 7)<|AW.cut 3 (fun s1=>[(5,dB y2),(6,.ref 2 none)]) (fun s1=>[(2,.row .fz 1 (s1.map (fun (l:List Phase)=>A.D.sl 2 (l.map Phase.D))))]) (M:=fun x=>q2=.inl x) ?_ fun x hx=>?_
 refine J g<|q0h hqq2 3 (fun (s2,s3)=>[(1,.pb 0 0),(4,.ref 1 none),(5,dB y2),(6,.ref 2 none),(7,dI s3)]) (fun (s2,s3)=>[(2,.row .fz 1 (s2.map (fun (l:List Phase)=>A.D.sl 2 (l.map Phase.D))))]) I fun sk1 ok1 hr hik1=>?_
 obtain⟨s2,s3⟩:=sk1
 have hr:=hr
 refine J (gn 8)<|ifE hr ?_ ?_<;>intro h1 hr
 refine J (gn 4)<|ifE hr ?_ ?_<;>intro h2 hr
 refine ggE hr fun g1 hr=>bdE hr fun x1 hx1 hr=>bdE hr fun y3 hy3 hr=>J g<|J (CB' [(0,3)] [] (z1c (m:=m) hy3))<|ggE hr fun g2 hr=>bdE hr fun x2 hx2 hr=>bdP hr fun y4 y5 hq3 hr=>J g<|J (CB' [(0,4)] [3] (j8t (m:=.bo) hq3))<|J (gn 12)<|ifE hr ?_ ?_<;>intro h3 hr
 refine J (gn 5) ?_
 refine J (q0v 4 rfl)<|J (LIR' 5 (m:=.fz) (f:=(fun (l:List Phase)=>A.D.sl 2 (l.map Phase.D))) (xs:=[y4]))<|ggE hr fun g3 hr=>J (AP1' 6 .fz 24 g3)<|ggE hr fun g4 hr=>J g<|E
 refine J g<|J (L0' 5 (fun (l:List Phase)=>A.D.sl 2 (l.map Phase.D)))<|e
 refine J (gn 2) ?_
 cases hr
 cases hik1 _ rfl
 exact⟨_,rfl,q0d hS 3⟩
 refine J (gn 6) ?_
 cases hr
 cases hik1 _ rfl
 exact⟨_,rfl,q0d hS 3⟩
 subst hx
 obtain⟨s1,rfl⟩:∃ y,y=x:=⟨_,rfl⟩
 exact e
theorem z6X {m:Md}{a0:Grammar}{a1:(List (List Phase))}{a2:ByteArray}{r:(List Phase)}(hr:q7n a0 a1 a2=some r):Ok Tryz.prog 135 [Grammar.y m a0,.d m (.sl 1 (a1.map (fun (l:List Phase)=>A.D.sl 2 (l.map Phase.D)))),dS a2] [] (.d m (.sl 2 (r.map Phase.D))) []:=by
 refine OE Tryz.func135 fun S hS=>?_
 unfold q7n at hr
 refine J g<|J (BX' 0)<|bdE hr fun y1 hy1 hr=>J g<|J (CB' [] [] (z8p (m:=m) hy1))<|J g<|J (OB' _ (k3D (p:=a1.length) (k:=1) (by decide)))<|bdE hr fun y2 hy2 hr=>J (CB' [] [] (q5O hy2))<|J (gn 2)<|ifE hr ?_ ?_<;>intro h1 hr
 refine ggE hr fun g1 hr=>bdE hr fun x1 hx1 hr=>e
 refine J g<|J (L0' 1 Phase.D)<|J (gn 3) ?_
 refine J (q0g (q0z (r:=1) rfl)) ?_
 cases hr
 exact endA.ren [] 0 (.inr rfl) hS rfl rfl rfl (.md rfl) rfl rfl
theorem j1X {m:Md}{m2:Md}{a1:Int}{a2:(List ByteArray)}{o0:l28Work}{r:l28Work}(hr:z2q a1 a2 o0=some r):Ok Tryz.prog 136 [.pb 0 0,dI a1,.d m (.sl 1 (a2.map A.D.s))] [.box [.d m2 (.sl 2 (o0.g.Symbols.map Symbol.D)),.d m2 (.sl 6 (o0.g.Rules.map Rule.D)),dS o0.r.Name,dS o0.r.Left,.d m2 (.sl 1 (o0.r.Right.map A.D.s)),dB o0.r.Literal,.d m2 (.sl 9 (o0.r.Equations.map Eqn.D)),.d m2 (.sl 16 (o0.r.Contributions.map Cn.D)),.d m2 (.sl 1 (o0.phases.map (fun (l:List Phase)=>A.D.sl 2 (l.map Phase.D)))),.ref 1 none,.ref 2 none,.ref 3 none],.row .fz 2 (o0.known.map Oc.D),.row .fz 1 (o0.visits.map (A.D.i .i64)),.row .fz 4 (o0.steps.map Step.D)] (.tu []) [.box [.d m2 (.sl 2 (o0.g.Symbols.map Symbol.D)),.d m2 (.sl 6 (o0.g.Rules.map Rule.D)),dS r.r.Name,dS r.r.Left,.d m2 (.sl 1 (o0.r.Right.map A.D.s)),dB r.r.Literal,.d m2 (.sl 9 (o0.r.Equations.map Eqn.D)),.d m2 (.sl 16 (o0.r.Contributions.map Cn.D)),.d m2 (.sl 1 (o0.phases.map (fun (l:List Phase)=>A.D.sl 2 (l.map Phase.D)))),.ref 4 none,.ref 2 none,.ref 3 none],.dead,.row .fz 1 (r.visits.map (A.D.i .i64)),.row .fz 4 (r.steps.map Step.D),.row .fz 2 (r.known.map Oc.D)]:=by
 refine OE Tryz.func136 fun S hS=>?_
 unfold z2q at hr
 refine J (gn 5) ?_
 refine J (q0Z 1 4 rfl)<|J (lenT 2)<|fun hl1=>bdE hr fun s1 hqq1 hr=>q0c hqq1 hl1 5 (fun k1 s1=>[(0,.pb 0 0),(1,dI a1),(2,.d m (.sl 1 (a2.map A.D.s))),(6,dI (k1:Int))]) (fun k1 s1=>[(4,.row .fz 2 (s1.map Oc.D))]) I (fun k1 xk1 sk1 ok1 hxk1 hr hltk1=>?_) fun k1 hltk1=>?_
 obtain⟨s1,rfl⟩:∃ y,y=sk1:=⟨_,rfl⟩
 refine J g<|J (LIR' 5 (m:=.fz) (f:=Oc.D) (xs:=[(⟨a1,xk1⟩:Oc)]))<|ggE hr fun g1 hr=>J (z3b (f:=Oc.D) 6 (fun _=>rfl) 24 g1)<|e
 exact e
theorem j6P {m2:Md}{a0:l28Work}{a1:Oc}{r:Bool}(hr:z3s a0 a1=some r):Ok Tryz.prog 193 [.pb 0 0,Oc.x .fz a1] [.box [.d m2 (.sl 2 (a0.g.Symbols.map Symbol.D)),.d m2 (.sl 6 (a0.g.Rules.map Rule.D)),dS a0.r.Name,dS a0.r.Left,.d m2 (.sl 1 (a0.r.Right.map A.D.s)),dB a0.r.Literal,.d m2 (.sl 9 (a0.r.Equations.map Eqn.D)),.d m2 (.sl 16 (a0.r.Contributions.map Cn.D)),.d m2 (.sl 1 (a0.phases.map (fun (l:List Phase)=>A.D.sl 2 (l.map Phase.D)))),.ref 1 none,.ref 2 none,.ref 3 none],.row .fz 2 (a0.known.map Oc.D),.row .fz 1 (a0.visits.map (A.D.i .i64)),.row .fz 4 (a0.steps.map Step.D)] (dB r) [.box [.d m2 (.sl 2 (a0.g.Symbols.map Symbol.D)),.d m2 (.sl 6 (a0.g.Rules.map Rule.D)),dS a0.r.Name,dS a0.r.Left,.d m2 (.sl 1 (a0.r.Right.map A.D.s)),dB a0.r.Literal,.d m2 (.sl 9 (a0.r.Equations.map Eqn.D)),.d m2 (.sl 16 (a0.r.Contributions.map Cn.D)),.d m2 (.sl 1 (a0.phases.map (fun (l:List Phase)=>A.D.sl 2 (l.map Phase.D)))),.ref 1 none,.ref 2 none,.ref 3 none],.row .fz 2 (a0.known.map Oc.D),.row .fz 1 (a0.visits.map (A.D.i .i64)),.row .fz 4 (a0.steps.map Step.D)]:=by
 refine OE Tryz.func193 fun S hS=>?_
 unfold z3s at hr
 refine J g<|J (BX' 4)<|bdP hr fun y1 y2 hq1 hr=>J g<|J (CB' [(0,5)] [] (z3E (m:=m2) hq1))<|J g<|J (NV' 6)<|J (gn 6) ?_
 refine J (q0v 5 rfl)<|bdE hr fun y3 hy3 hr=>J (CB' [] [] (z2A (m:=.fz) hy3))<|J (gn 8)<|J (lenT 7)<|fun hl1=>bdE hr fun q2 hqq2 hr=>q0b hqq2 hl1 7 (fun k1 _=>[(0,.pb 0 0),(6,dB y2),(7,.d .fz (.sl 2 (y3.map Oc.D))),(8,dI (k1:Int))]) (fun k1 _=>[(5,.none)]) I (fun k1 xk1 sk1 ok1 hxk1 hr hltk1 hik1=>?_) fun k1 sk1 ek1 hltk1=>?_
 refine bdE hr fun y4 hy4 hr=>J g<|J (CB' [] [1] (z1l (m:=.bo) hy4))<|J (gn 2)<|ifE hr ?_ ?_<;>intro h1 hr
 exact e
 exact e
 subst ek1
 exact e
theorem j9P {m2:Md}{o0:l28Work}{r:(Bool×l28Work)}(hr:z6j o0=some r):Ok Tryz.prog 137 [.pb 0 0] [.box [.d m2 (.sl 2 (o0.g.Symbols.map Symbol.D)),.d m2 (.sl 6 (o0.g.Rules.map Rule.D)),dS o0.r.Name,dS o0.r.Left,.d m2 (.sl 1 (o0.r.Right.map A.D.s)),dB o0.r.Literal,.d m2 (.sl 9 (o0.r.Equations.map Eqn.D)),.d m2 (.sl 16 (o0.r.Contributions.map Cn.D)),.d m2 (.sl 1 (o0.phases.map (fun (l:List Phase)=>A.D.sl 2 (l.map Phase.D)))),.ref 1 none,.ref 2 none,.ref 3 none],.row .fz 2 (o0.known.map Oc.D),.row .fz 1 (o0.visits.map (A.D.i .i64)),.row .fz 4 (o0.steps.map Step.D)] (dB r.1) [.box [.d m2 (.sl 2 (o0.g.Symbols.map Symbol.D)),.d m2 (.sl 6 (o0.g.Rules.map Rule.D)),dS r.2.r.Name,dS r.2.r.Left,.d m2 (.sl 1 (o0.r.Right.map A.D.s)),dB r.2.r.Literal,.d m2 (.sl 9 (o0.r.Equations.map Eqn.D)),.d m2 (.sl 16 (o0.r.Contributions.map Cn.D)),.d m2 (.sl 1 (o0.phases.map (fun (l:List Phase)=>A.D.sl 2 (l.map Phase.D)))),.ref 4 none,.ref 2 none,.ref 5 none],.dead,.row .fz 1 (r.2.visits.map (A.D.i .i64)),.dead,.row .fz 2 (r.2.known.map Oc.D),.row .fz 4 (r.2.steps.map Step.D)]:=by
 refine OE Tryz.func137 fun S hS=>?_
 unfold z6j at hr
 refine bdE hr fun y1 hy1 hr=>J g<|J (CB' [(0,4)] [] (q7i (m:=m2) hy1))<|J (gn 8)<|J (lenR 4)<|fun hl1=>bdE hr fun q1 hqq1 hr=>q0b hqq1 hl1 5 (fun k1 _=>[(0,.pb 0 0),(3,.ref 4 none),(4,dI (k1:Int))]) (fun k1 _=>[]) I (fun k1 xk1 sk1 ok1 hxk1 hr hltk1 hik1=>?_) fun k1 sk1 ek1 hltk1=>?_
 refine bdE hr fun y2 hy2 hr=>J g<|J (CB' [] [1] (z1l (m:=.bo) hy2))<|J (gn 1)<|ifE hr ?_ ?_<;>intro h1 hr
 exact e
 refine bdE hr fun y3 hy3 hr=>J g<|CBK2 [(0,0),(1,1),(2,2),(3,3)] [] [] (j6P (m2:=m2) hy3) ?_
 refine J (gn 2)<|ifE hr ?_ ?_<;>intro h2 hr
 refine J g<|J (LIR' 5 (m:=.fz) (f:=Oc.D) (xs:=[xk1]))<|ggE hr fun g1 hr=>J (z3b (f:=Oc.D) 6 (fun _=>rfl) 24 g1)<|J g<|J (LIR' 7 (m:=.fz) (f:=Step.D) (xs:=[(⟨1,xk1.Pos,0,xk1.Name⟩:Step)]))<|ggE hr fun g2 hr=>J (z3b (f:=Step.D) 8 (fun _=>rfl) 40 g2)<|e
 exact e
 subst ek1
 refine J (gn 15) ?_
 refine J (q0g (q0G (i:=1) (j:=5) rfl rfl)) ?_
 refine J (q0g (q0G (i:=3) (j:=6) rfl rfl))<|J g<|E
theorem j1Y {m:Md}{m2:Md}{a0:l28Work}{a1:Int}{a2:(List ByteArray)}{r:Bool}(hr:z2r a0 a1 a2=some r):Ok Tryz.prog 139 [.pb 0 0,dI a1,.d m (.sl 1 (a2.map A.D.s))] [.box [.d m2 (.sl 2 (a0.g.Symbols.map Symbol.D)),.d m2 (.sl 6 (a0.g.Rules.map Rule.D)),dS a0.r.Name,dS a0.r.Left,.d m2 (.sl 1 (a0.r.Right.map A.D.s)),dB a0.r.Literal,.d m2 (.sl 9 (a0.r.Equations.map Eqn.D)),.d m2 (.sl 16 (a0.r.Contributions.map Cn.D)),.d m2 (.sl 1 (a0.phases.map (fun (l:List Phase)=>A.D.sl 2 (l.map Phase.D)))),.ref 1 none,.ref 2 none,.ref 3 none],.row .fz 2 (a0.known.map Oc.D),.row .fz 1 (a0.visits.map (A.D.i .i64)),.row .fz 4 (a0.steps.map Step.D)] (dB r) [.box [.d m2 (.sl 2 (a0.g.Symbols.map Symbol.D)),.d m2 (.sl 6 (a0.g.Rules.map Rule.D)),dS a0.r.Name,dS a0.r.Left,.d m2 (.sl 1 (a0.r.Right.map A.D.s)),dB a0.r.Literal,.d m2 (.sl 9 (a0.r.Equations.map Eqn.D)),.d m2 (.sl 16 (a0.r.Contributions.map Cn.D)),.d m2 (.sl 1 (a0.phases.map (fun (l:List Phase)=>A.D.sl 2 (l.map Phase.D)))),.ref 1 none,.ref 2 none,.ref 3 none],.row .fz 2 (a0.known.map Oc.D),.row .fz 1 (a0.visits.map (A.D.i .i64)),.row .fz 4 (a0.steps.map Step.D)]:=by
 refine OE Tryz.func139 fun S hS=>?_
 unfold z2r at hr
 refine J (gn 10)<|J (lenT 2)<|fun hl1=>bdE hr fun q1 hqq1 hr=>q0b hqq1 hl1 4 (fun k1 _=>[(0,.pb 0 0),(1,dI a1),(2,.d m (.sl 1 (a2.map A.D.s))),(7,dI (k1:Int))]) (fun k1 _=>[]) I (fun k1 xk1 sk1 ok1 hxk1 hr hltk1 hik1=>?_) fun k1 sk1 ek1 hltk1=>?_
 refine bdE hr fun y1 hy1 hr=>J g<|J (CB' [] [1] (z1l (m:=.bo) hy1))<|J (gn 2)<|ifE hr ?_ ?_<;>intro h1 hr
 exact e
 exact e
 subst ek1
 exact e
theorem j8u {m2:Md}{o0:l28Work}{r:(Bool×l28Work)}(hr:z4M o0=some r):Ok Tryz.prog 138 [.pb 0 0] [.box [.d m2 (.sl 2 (o0.g.Symbols.map Symbol.D)),.d m2 (.sl 6 (o0.g.Rules.map Rule.D)),dS o0.r.Name,dS o0.r.Left,.d m2 (.sl 1 (o0.r.Right.map A.D.s)),dB o0.r.Literal,.d m2 (.sl 9 (o0.r.Equations.map Eqn.D)),.d m2 (.sl 16 (o0.r.Contributions.map Cn.D)),.d m2 (.sl 1 (o0.phases.map (fun (l:List Phase)=>A.D.sl 2 (l.map Phase.D)))),.ref 1 none,.ref 2 none,.ref 3 none],.row .fz 2 (o0.known.map Oc.D),.row .fz 1 (o0.visits.map (A.D.i .i64)),.row .fz 4 (o0.steps.map Step.D)] (dB r.1) [.box [.d m2 (.sl 2 (o0.g.Symbols.map Symbol.D)),.d m2 (.sl 6 (o0.g.Rules.map Rule.D)),dS r.2.r.Name,dS r.2.r.Left,.d m2 (.sl 1 (o0.r.Right.map A.D.s)),dB r.2.r.Literal,.d m2 (.sl 9 (o0.r.Equations.map Eqn.D)),.d m2 (.sl 16 (o0.r.Contributions.map Cn.D)),.d m2 (.sl 1 (o0.phases.map (fun (l:List Phase)=>A.D.sl 2 (l.map Phase.D)))),.ref 4 none,.ref 2 none,.ref 5 none],.dead,.row .fz 1 (r.2.visits.map (A.D.i .i64)),.dead,.row .fz 2 (r.2.known.map Oc.D),.row .fz 4 (r.2.steps.map Step.D)]:=by
 refine Ok.enter rfl Tryz.func138 rfl rfl rfl fun S hS=>?_
 unfold z4M at hr
 refine sr ?_
 refine N1 ?_
 refine ssr ?_
 refine N1 ?_
 refine AW.block ?_
 refine AW.len (.box 0 4 rfl rfl) fun hl1=>?_
 refine bdE hr fun q1 hqq1 hr=>?_
 refine q0b hqq1 hl1 4 (fun k1 _=>[(0,.pb 0 0),(3,dI (k1:Int))]) (fun k1 _=>[]) (q0d hS 4) (fun k1 xk1 sk1 ok1 hxk1 hr hltk1 hik1=>?_) fun k1 sk1 ek1 hltk1=>?_
 refine ssr ?_
 refine W5 ?_
 refine W1 ?_
 refine LF ?_
 refine N1 ?_
 refine q0A rfl (dT hltk1) ?_
 refine q0l ?_
 refine q0i (AW.block (q0i (q0r (h:=?_))))
 refine W5 ?_
 refine W5 ?_
 refine W4 ?_
 refine IF (Int.natCast_nonneg _) hxk1 ?_
 refine W1 ?_
 refine bdE hr fun y1 hy1 hr=>?_
 refine CB [] [] (z6X (m:=m2) hy1) ?_
 refine N1 ?_
 refine sr ?_
 refine W5 ?_
 refine bdE hr fun x1 hx1 hr=>?_
 refine IE hx1 (Int.natCast_nonneg _) ?_
 refine LP hx1 ?_
 refine N1 ?_
 refine sr ?_
 refine W2 ?_
 refine LF ?_
 refine W1 ?_
 refine ifE hr (fun h1 hr=>?_) fun h1 hr=>?_
 refine VT rfl (dT h1) ?_
 refine W2 ?_
 refine OB _ (z3z (p:=k1) (q:=1) (q5h hltk1 hl1)) ?_
 refine W2 ?_
 refine ggE hr fun g1 hr=>?_
 refine bdE hr fun x2 hx2 hr=>?_
 refine IF g1 hx2 ?_
 refine W2 ?_
 refine bdE hr fun y2 hy2 hr=>?_
 refine CB [(0,0),(1,1),(2,2),(3,3)] [] (j1Y (m:=m2) (m2:=m2) hy2) ?_
 refine N1 ?_
 refine ifE hr (fun h2 hr=>?_) fun h2 hr=>?_
 refine q0A rfl h2 ?_
 refine sr ?_
 refine W5 ?_
 refine W1 ?_
 refine ggE hr fun g2 hr=>?_
 refine OB _ (bAdd g2) ?_
 refine IE hx1 (Int.natCast_nonneg _) ?_
 refine SE (x1+1) hx1 ?_
 refine N0 ?_
 refine sr ?_
 refine W5 ?_
 refine W1 ?_
 refine OB _ (z3z (p:=k1) (q:=1) (q5h hltk1 hl1)) ?_
 refine W1 ?_
 refine ggE hr fun g3 hr=>?_
 refine OB _ (bAdd g3) ?_
 refine W1 ?_
 refine LIR 4 (m:=.fz) (f:=Step.D) (xs:=[(⟨2,((k1+1:Nat):Int),(x1+1),(⟨#[]⟩:ByteArray)⟩:Step)]) ?_
 refine ggE hr fun g4 hr=>?_
 refine APf1 (f:=Step.D) 5 (fun _=>rfl) 40 g4 ?_
 refine W2 ?_
 refine SB ?_
 refine N0 ?_
 refine sr ?_
 refine W2 ?_
 refine OB _ (z3z (p:=k1) (q:=1) (q5h hltk1 hl1)) ?_
 refine W2 ?_
 refine IF g1 hx2 ?_
 refine W2 ?_
 refine bdE hr fun z1 hz1 hr=>?_
 refine CB [(0,0),(1,1),(2,2),(3,5),(4,6)] [] (j1X (m:=m2) (m2:=m2) hz1) ?_
 refine N0 ?_
 refine sr ?_
 refine N1 ?_
 refine q0y ?_
 cases hr
 have hz9:=hik1 _ rfl
 subst hz9
 rename_i hr
 cases hr
 exact q0k [(0,0),(1,1),(2,2),(3,3),(6,4),(5,5)] 6 hS
 refine q0B rfl (bF h2) ?_
 refine q0l ?_
 refine q0j ?_
 refine W1 ?_
 refine OB _ (z3z (p:=k1) (q:=1) (q5h hltk1 hl1)) ?_
 refine N1 ?_
 cases hr
 exact⟨_,rfl,q0d hS 4⟩
 refine VF rfl (dF h1) ?_
 iterate 9 refine AL.off ?_
 refine N1 ?_
 refine q0B rfl rfl ?_
 refine q0l ?_
 refine q0j ?_
 refine W1 ?_
 refine OB _ (z3z (p:=k1) (q:=1) (q5h hltk1 hl1)) ?_
 refine N1 ?_
 cases hr
 exact⟨_,rfl,q0d hS 4⟩
 subst ek1
 refine ssr ?_
 refine W5 ?_
 refine W1 ?_
 refine LF ?_
 refine N1 ?_
 refine q0B rfl (dF hltk1) ?_
 refine q0t ?_
 refine sr ?_
 refine N1 ?_
 refine q0y ?_
 refine endA.gh (q0G (i:=1) (j:=4) rfl rfl) ?_
 refine endA.gh (q0G (i:=3) (j:=5) rfl rfl) ?_
 cases hr
 exact q0k [(0,0),(1,1),(2,2),(3,3),(4,4),(5,5)] 6 hS
theorem j8v {m2:Md}{a0:l28Work}{r:Bool}(hr:z0Y a0=some r):Ok Tryz.prog 140 [.pb 0 0] [.box [.d m2 (.sl 2 (a0.g.Symbols.map Symbol.D)),.d m2 (.sl 6 (a0.g.Rules.map Rule.D)),dS a0.r.Name,dS a0.r.Left,.d m2 (.sl 1 (a0.r.Right.map A.D.s)),dB a0.r.Literal,.d m2 (.sl 9 (a0.r.Equations.map Eqn.D)),.d m2 (.sl 16 (a0.r.Contributions.map Cn.D)),.d m2 (.sl 1 (a0.phases.map (fun (l:List Phase)=>A.D.sl 2 (l.map Phase.D)))),.ref 1 none,.ref 2 none,.ref 3 none],.row .fz 2 (a0.known.map Oc.D),.row .fz 1 (a0.visits.map (A.D.i .i64)),.row .fz 4 (a0.steps.map Step.D)] (dB r) [.box [.d m2 (.sl 2 (a0.g.Symbols.map Symbol.D)),.d m2 (.sl 6 (a0.g.Rules.map Rule.D)),dS a0.r.Name,dS a0.r.Left,.d m2 (.sl 1 (a0.r.Right.map A.D.s)),dB a0.r.Literal,.d m2 (.sl 9 (a0.r.Equations.map Eqn.D)),.d m2 (.sl 16 (a0.r.Contributions.map Cn.D)),.d m2 (.sl 1 (a0.phases.map (fun (l:List Phase)=>A.D.sl 2 (l.map Phase.D)))),.ref 1 none,.ref 2 none,.ref 3 none],.row .fz 2 (a0.known.map Oc.D),.row .fz 1 (a0.visits.map (A.D.i .i64)),.row .fz 4 (a0.steps.map Step.D)]:=by
 refine OE Tryz.func140 fun S hS=>?_
 unfold z0Y at hr
 refine bdE hr fun y1 hy1 hr=>J g<|J (CB' [(0,4)] [] (q7i (m:=m2) hy1))<|J (gn 8)<|J (lenR 4)<|fun hl1=>bdE hr fun q1 hqq1 hr=>q0b hqq1 hl1 5 (fun k1 _=>[(0,.pb 0 0),(3,.ref 4 none),(4,dI (k1:Int))]) (fun k1 _=>[]) I (fun k1 xk1 sk1 ok1 hxk1 hr hltk1 hik1=>?_) fun k1 sk1 ek1 hltk1=>?_
 refine bdE hr fun y2 hy2 hr=>J g<|J (CB' [] [1] (z1l (m:=.bo) hy2))<|J (gn 2)<|ifE hr ?_ ?_<;>intro h1 hr
 exact e
 exact e
 subst ek1
 refine J (gn 16) ?_
 refine AW.len (.box 0 4 rfl rfl) fun hl2=>?_
 refine bdE hr fun q2 hqq2 hr=>q0b hqq2 hl2 5 (fun k2 _=>[(0,.pb 0 0),(5,dI (k2:Int))]) (fun k2 _=>[]) I (fun k2 xk2 sk2 ok2 hxk2 hr hltk2 hik2=>?_) fun k2 sk2 ek2 hltk2=>?_
 refine bdE hr fun x1 hx1 hr=>bdE hr fun y3 hy3 hr=>J g<|J (CB' [] [] (z6X (m:=m2) hy3))<|J (gn 3)<|ifE hr ?_ ?_<;>intro h2 hr
 exact e
 exact e
 subst ek2
 exact e
theorem j9Q {m:Md}{a0:Grammar}{a1:(List (List Phase))}{a2:Rule}{r:((List Step)×Bool)}(hr:z4f a0 a1 a2=some r):Ok Tryz.prog 82 [Grammar.x m a0,.d m (.sl 1 (a1.map (fun (l:List Phase)=>A.D.sl 2 (l.map Phase.D)))),Rule.x m a2] [] (.tu [.ref 0 none,dB r.2]) [.row .fz 4 (r.1.map Step.D)]:=by
 refine Ok.enter rfl Tryz.func82 rfl rfl rfl fun S hS=>?_
 unfold z4f at hr
 refine sr ?_
 refine BX 0 ?_
 refine BX 1 ?_
 refine N2 ?_
 refine q0i (q0r (h:=?_))
 refine W5 ?_
 refine LF ?_
 refine ggE hr fun g1 hr=>?_
 refine MKR 2 (f:=(A.D.i .i64)) (0:Int) g1.1 g1.2.1 g1.2.2 ?_
 refine W1 ?_
 refine BX 3 ?_
 refine N1 ?_
 refine sr ?_
 refine W4 ?_
 refine bdE hr fun y1 hy1 hr=>?_
 refine CB [] [] (z6X (m:=m) hy1) ?_
 refine N1 ?_
 refine ssr ?_
 refine N1 ?_
 refine AW.block ?_
 refine q1F 3 9 4 .fz 2 rfl rfl ?_
 refine q1F 3 11 5 .fz 4 rfl rfl ?_
 refine AW.len (.tmp 9 rfl) fun hl1=>?_
 refine bdE hr fun q1 hqq1 hr=>?_
 refine q0b hqq1 hl1 6 (fun k1 (s3,s4,s5,s6,s1,s2)=>[(8,.pb 3 0),(9,.d m (.sl 2 (y1.map Phase.D))),(10,dI (k1:Int))]) (fun k1 (s3,s4,s5,s6,s1,s2)=>[(2,.row .fz 1 (s3.map (A.D.i .i64))),(3,.box [.d m (.sl 2 (a0.Symbols.map Symbol.D)),.d m (.sl 6 (a0.Rules.map Rule.D)),dS s4,dS s5,.d m (.sl 1 (a2.Right.map A.D.s)),dB s6,.d m (.sl 9 (a2.Equations.map Eqn.D)),.d m (.sl 16 (a2.Contributions.map Cn.D)),.d m (.sl 1 (a1.map (fun (l:List Phase)=>A.D.sl 2 (l.map Phase.D)))),.ref 4 none,.ref 2 none,.ref 5 none]),(4,.row .fz 2 (s1.map Oc.D)),(5,.row .fz 4 (s2.map Step.D))]) (q0d hS 6) (fun k1 xk1 sk1 ok1 hxk1 hr hltk1 hik1=>?_) fun k1 sk1 ek1 hltk1=>?_
 obtain⟨s3,s4,s5,s6,s1,s2⟩:=sk1
 refine ssr ?_
 refine W2 ?_
 refine LF ?_
 refine N1 ?_
 refine q0A rfl (dT hltk1) ?_
 refine q0l ?_
 refine q0i (AW.block (q0i (q0j ?_)))
 refine W3 ?_
 refine IF (Int.natCast_nonneg _) hxk1 ?_
 refine W2 ?_
 refine bdE hr fun z1 hz1 hr=>?_
 refine CB [(0,3),(1,4),(2,2),(3,5),(4,6)] [] (j1X (m:=m) (m2:=m) hz1) ?_
 refine N0 ?_
 refine bdE hr fun q2 hqq2 hr=>?_
 obtain⟨s9,s10,s11,s12,s7,s8,s13⟩:=q2
 refine q0i (q0e 7 [(8,.pb 3 0),(9,.d m (.sl 2 (y1.map Phase.D))),(10,dI (k1:Int)),(41,.pb 3 0),(42,dB s13)] [(2,.row .fz 1 (s9.map (A.D.i .i64))),(3,.box [.d m (.sl 2 (a0.Symbols.map Symbol.D)),.d m (.sl 6 (a0.Rules.map Rule.D)),dS s10,dS s11,.d m (.sl 1 (a2.Right.map A.D.s)),dB s12,.d m (.sl 9 (a2.Equations.map Eqn.D)),.d m (.sl 16 (a2.Contributions.map Cn.D)),.d m (.sl 1 (a1.map (fun (l:List Phase)=>A.D.sl 2 (l.map Phase.D)))),.ref 6 none,.ref 2 none,.ref 5 none]),(4,.none),(5,.row .fz 4 (s8.map Step.D)),(6,.row .fz 2 (s7.map Oc.D))] ?_ ?_)
 refine AW.block (q0h hqq2 7 (fun (s16,s17,s18,s19,s14,s15)=>[(8,.pb 3 0),(9,.d m (.sl 2 (y1.map Phase.D))),(10,dI (k1:Int))]) (fun (s16,s17,s18,s19,s14,s15)=>[(2,.row .fz 1 (s16.map (A.D.i .i64))),(3,.box [.d m (.sl 2 (a0.Symbols.map Symbol.D)),.d m (.sl 6 (a0.Rules.map Rule.D)),dS s17,dS s18,.d m (.sl 1 (a2.Right.map A.D.s)),dB s19,.d m (.sl 9 (a2.Equations.map Eqn.D)),.d m (.sl 16 (a2.Contributions.map Cn.D)),.d m (.sl 1 (a1.map (fun (l:List Phase)=>A.D.sl 2 (l.map Phase.D)))),.ref 6 none,.ref 2 none,.ref 5 none]),(4,.none),(5,.row .fz 4 (s15.map Step.D)),(6,.row .fz 2 (s14.map Oc.D))]) (q0o hS [(0,0),(1,1),(2,2),(3,3),(5,5),(6,6)] 7) fun sk2 ok2 hr hik2=>?_)
 obtain⟨s16,s17,s18,s19,s14,s15⟩:=sk2
 have hr:=hr
 refine ssr ?_
 refine W1 ?_
 refine bdE hr fun q3 hq3 hr=>?_
 obtain⟨y2,z2⟩:=q3
 refine CB [(0,3),(1,6),(2,2),(3,5),(4,7),(5,8)] [] (j9P (m2:=m) hq3) ?_
 refine ifE hr (fun h1 hr=>?_) fun h1 hr=>?_
 refine VT rfl h1 ?_
 iterate 2 refine AL.off ?_
 refine N1 ?_
 refine q0A rfl rfl ?_
 refine q0l ?_
 refine AW.block (q0t ?_)
 cases hr
 exact⟨_,rfl,q0o hS [(0,0),(1,1),(2,2),(3,3),(8,5),(7,6)] 7⟩
 refine VF rfl (bF h1) ?_
 refine W1 ?_
 refine bdE hr fun q4 hq4 hr=>?_
 obtain⟨y3,z3⟩:=q4
 refine CB [(0,3),(1,7),(2,2),(3,8),(4,9),(5,10)] [] (j8u (m2:=m) hq4) ?_
 refine N1 ?_
 refine ifE hr (fun h2 hr=>?_) fun h2 hr=>?_
 refine q0A rfl h2 ?_
 refine q0l ?_
 refine AW.block (q0t ?_)
 cases hr
 exact⟨_,rfl,q0o hS [(0,0),(1,1),(2,2),(3,3),(10,5),(9,6)] 7⟩
 refine q0B rfl (bF h2) ?_
 refine q0t ?_
 cases hr
 cases hik2 _ rfl
 exact q0o hS [(0,0),(1,1),(2,2),(3,3),(10,5),(9,6)] 7
 refine ssr ?_
 refine W3 ?_
 refine IF (Int.natCast_nonneg _) hxk1 ?_
 refine W2 ?_
 refine bdE hr fun y4 hy4 hr=>?_
 refine CB [(0,3),(1,6),(2,2),(3,5)] [] (j1Y (m:=m) (m2:=m) hy4) ?_
 refine N1 ?_
 refine ifE hr (fun h3 hr=>?_) fun h3 hr=>?_
 refine q0B rfl (bnF h3) ?_
 refine q0l ?_
 refine q0j ?_
 refine W5 ?_
 refine W1 ?_
 refine OB _ (z3z (p:=k1) (q:=1) (q5h hltk1 hl1)) ?_
 refine W1 ?_
 refine LIR 7 (m:=.fz) (f:=Step.D) (xs:=[(⟨3,0,((k1+1:Nat):Int),(⟨#[]⟩:ByteArray)⟩:Step)]) ?_
 refine ggE hr fun g2 hr=>?_
 refine APf1 (f:=Step.D) 8 (fun _=>rfl) 40 g2 ?_
 refine W2 ?_
 refine SB ?_
 refine N0 ?_
 refine q0j ?_
 refine W1 ?_
 refine OB _ (z3z (p:=k1) (q:=1) (q5h hltk1 hl1)) ?_
 refine N1 ?_
 cases hr
 exact⟨_,rfl,q0o hS [(0,0),(1,1),(2,2),(3,3),(6,4),(8,5)] 6⟩
 refine q0A rfl (bnT h3) ?_
 refine sr ?_
 refine L0 7 Step.D ?_
 refine N2 ?_
 refine q0y ?_
 cases hr
 cases hik1 _ rfl
 rename_i hr
 cases hr
 exact q0k [(7,0)] 1 hS
 subst ek1
 obtain⟨s3,s4,s5,s6,s1,s2⟩:=sk1
 refine ssr ?_
 refine W2 ?_
 refine LF ?_
 refine N1 ?_
 refine q0B rfl (dF hltk1) ?_
 refine q0t ?_
 refine q0i (q0r (h:=?_))
 refine W5 ?_
 refine bdE hr fun y5 hy5 hr=>?_
 refine CBK2 [(0,3),(1,4),(2,2),(3,5)] [] [] (j8v (m2:=m) hy5) ?_
 refine N2 ?_
 refine q0y ?_
 cases hr
 exact q0k [(5,0)] 1 hS
theorem j6Q {m:Md}{a0:Grammar}{r:((List RPl_)×Bool)}(hr:z3t a0=some r):Ok Tryz.prog 29 [Grammar.x m a0] [] (.tu [.ref 0 none,dB r.2]) [.row .fz 2 (r.1.map RPl_.D)]:=by
 refine OE Tryz.func29 fun S hS=>?_
 unfold z3t at hr
 refine J g<|J (BX' 0)<|bdP hr fun y1 y2 hq1 hr=>J g<|J (CB' [(0,1)] [] (j2w (m:=m) hq1))<|J g<|J (L0' 2 RPl_.D)<|bdE hr fun q2 hqq2 hr=>J (gn 7)<|AW.cut 3 (fun s1=>[(5,dB y2),(6,.ref 2 none)]) (fun s1=>[(2,.row .fz 2 (s1.map RPl_.D))]) (M:=fun x=>q2=.inl x) ?_ fun x hx=>?_
 refine J g<|q0h hqq2 3 (fun (s2,s3)=>[(1,.pb 0 0),(4,.ref 1 none),(5,dB y2),(6,.ref 2 none),(7,dI s3)]) (fun (s2,s3)=>[(2,.row .fz 2 (s2.map RPl_.D))]) I fun sk1 ok1 hr hik1=>?_
 obtain⟨s2,s3⟩:=sk1
 have hr:=hr
 refine J (gn 8)<|ifE hr ?_ ?_<;>intro h1 hr
 refine J (gn 4)<|ifE hr ?_ ?_<;>intro h2 hr
 refine ggE hr fun g1 hr=>bdE hr fun x1 hx1 hr=>bdP hr fun y3 y4 hq3 hr=>J g<|J (CB' [(0,3)] [1] (j9Q (m:=.bo) hq3))<|J (gn 12)<|ifE hr ?_ ?_<;>intro h3 hr
 refine J (gn 12) ?_
 refine J (q0v 3 rfl)<|J (LIR' 4 (m:=.fz) (f:=RPl_.D) (xs:=[(⟨x1.Name,y3⟩:RPl_)]))<|ggE hr fun g2 hr=>J (AP1' 5 .fz 40 g2)<|ggE hr fun g3 hr=>J g<|E
 refine J g<|J (L0' 4 RPl_.D)<|e
 refine J (gn 2) ?_
 cases hr
 cases hik1 _ rfl
 exact⟨_,rfl,q0d hS 3⟩
 refine J (gn 6) ?_
 cases hr
 cases hik1 _ rfl
 exact⟨_,rfl,q0d hS 3⟩
 subst hx
 obtain⟨s1,rfl⟩:∃ y,y=x:=⟨_,rfl⟩
 exact e
end Go.Proofs.YtcegfmageiicaaaGreat
