/- What some functions of the program compute, as partial functions on plain data, and that they do; each lemma bears its conditions in its statement. -/
import Derived.Test.YtcegfmageiicaaaGreatDef
set_option linter.unusedVariables false
set_option linter.unusedSimpArgs false
set_option linter.ambiguousOpen false
set_option linter.unusedSectionVars false
set_option linter.unnecessarySimpa false
set_option maxRecDepth 100000
set_option maxHeartbeats 40000000
noncomputable section
namespace Go.Proofs.YtcegfmageiicaaaGreat
open Go Go.E Go.A
theorem q4v {a0:Int}{a1:Int}{a2:Int}{r:Bool}(hr:q4a a0 a1 a2=some r):Ok Tryz.prog 128 [dI a0,dI a1,dI a2] [] (dB r) []:=by
 refine OE Tryz.func128 fun S hS=>?_
 unfold q4a at hr
 refine J (gn 9)<|ifE hr ?_ ?_<;>intro h1 hr
 exact e
 exact e
theorem j3H {a0:UInt8}{r:Bool}(hr:z4c a0=some r):Ok Tryz.prog 313 [.d .fz (.i .u8 (a0.toNat:Int))] [] (dB r) []:=by
 refine OE Tryz.func313 fun S hS=>?_
 unfold z4c at hr
 refine J (gn 8)<|ifE hr ?_ ?_<;>intro h1 hr
 exact e
 exact e
theorem j9y {a0:UInt8}{r:Bool}(hr:z6a a0=some r):Ok Tryz.prog 314 [.d .fz (.i .u8 (a0.toNat:Int))] [] (dB r) []:=by
 refine OE Tryz.func314 fun S hS=>?_
 unfold z6a at hr
 refine J (gn 8)<|ifE hr ?_ ?_<;>intro h1 hr
 exact e
 exact e
theorem j4U {a0:ByteArray}{r:Bool}(hr:z1F a0=some r):Ok Tryz.prog 315 [dS a0] [] (dB r) []:=by
 refine OE Tryz.func315 fun S hS=>?_
 unfold z1F at hr
 refine J (gn 16)<|ifE hr ?_ ?_<;>intro h1 hr
 refine J (gn 2)<|ifE hr ?_ ?_<;>intro h2 hr
 exact e
 exact e
 refine J (gn 6)<|ifE hr ?_ ?_<;>intro h3 hr
 refine J (gn 2)<|ifE hr ?_ ?_<;>intro h4 hr
 exact e
 exact e
 refine J (gn 6)<|ifE hr ?_ ?_<;>intro h5 hr
 refine J (gn 2)<|ifE hr ?_ ?_<;>intro h6 hr
 exact e
 exact e
 refine J (gn 6)<|ifE hr ?_ ?_<;>intro h7 hr
 refine J (gn 2)<|ifE hr ?_ ?_<;>intro h8 hr
 exact e
 exact e
 refine J (gn 6)<|ifE hr ?_ ?_<;>intro h9 hr
 refine J (gn 2)<|ifE hr ?_ ?_<;>intro h10 hr
 exact e
 exact e
 refine J (gn 6)<|ifE hr ?_ ?_<;>intro h11 hr
 refine J (gn 2)<|ifE hr ?_ ?_<;>intro h12 hr
 exact e
 exact e
 refine J (gn 6)<|ifE hr ?_ ?_<;>intro h13 hr
 refine J (gn 2)<|ifE hr ?_ ?_<;>intro h14 hr
 exact e
 exact e
 refine J (gn 6)<|ifE hr ?_ ?_<;>intro h15 hr
 refine J (gn 2)<|ifE hr ?_ ?_<;>intro h16 hr
 exact e
 exact e
 refine J (gn 6)<|ifE hr ?_ ?_<;>intro h17 hr
 refine J (gn 2)<|ifE hr ?_ ?_<;>intro h18 hr
 exact e
 exact e
 refine J (gn 6)<|ifE hr ?_ ?_<;>intro h19 hr
 refine J (gn 2)<|ifE hr ?_ ?_<;>intro h20 hr
 exact e
 exact e
 refine J (gn 6)<|ifE hr ?_ ?_<;>intro h21 hr
 refine J (gn 2)<|ifE hr ?_ ?_<;>intro h22 hr
 exact e
 exact e
 refine J (gn 6)<|ifE hr ?_ ?_<;>intro h23 hr
 refine J (gn 2)<|ifE hr ?_ ?_<;>intro h24 hr
 exact e
 exact e
 refine J (gn 5)<|ifE hr ?_ ?_<;>intro h25 hr
 exact e
 exact e
theorem q5E {a0:ByteArray}{r:Bool}(hr:q4K a0=some r):Ok Tryz.prog 299 [dS a0] [] (dB r) []:=by
 refine OE Tryz.func299 fun S hS=>?_
 unfold q4K at hr
 refine J g<|J LS'<|J (gn 3)<|J (rngT 5)<|fun hl1=>bdE hr fun q1 hqq1 hr=>q0w hqq1 0 (fun k1 _=>[(0,dS a0),(5,dI (a0.size:Int)),(6,dI (k1:Int))]) (fun k1 _=>[]) I (fun k1 sk1 ok1 hr hltk1 hik1=>?_) fun sk1 ek1=>?_
 refine bdE hr fun x1 hx1 hr=>J g ?_
 refine J (SI' rfl rfl (Int.natCast_nonneg _) hx1)<|bdE hr fun y1 hy1 hr=>J (CB' [] [] (j3H hy1))<|J (gn 1)<|ifE hr ?_ ?_<;>intro h1 hr
 exact e
 refine J g ?_
 refine J (SI' rfl rfl (Int.natCast_nonneg _) hx1)<|bdE hr fun y2 hy2 hr=>J (CB' [] [] (j9y hy2))<|J (gn 3)<|ifE hr ?_ ?_<;>intro h2 hr
 exact e
 exact e
 subst ek1
 refine J g<|J LS'<|bdE hr fun y3 hy3 hr=>J (CB' [] [] (q4v hy3))<|bdE hr fun s1 hqq2 hr=>q0a 5 [(0,dS a0),(29,dB s1)] ?_ ?_
 replace hr:=hqq2
 refine ifE hr ?_ ?_<;>intro h3 hr
 refine bdE hr fun x2 hx2 hr=>J g ?_
 refine J (SI' rfl rfl (Int.natCast_nonneg _) hx2)<|bdE hr fun y4 hy4 hr=>J (CB' [] [] (j3H hy4))<|J g<|E
 exact e
 refine bdE hr fun s2 hqq3 hr=>q0a 5 [(34,dB s2)] ?_ ?_
 replace hr:=hqq3
 refine ifE hr ?_ ?_<;>intro h4 hr
 refine bdE hr fun y5 hy5 hr=>J g<|J (CB' [] [] (j4U hy5))<|e
 exact e
 exact e
theorem j5I {a0:Int}{r:Bool}(hr:z6b a0=some r):Ok Tryz.prog 312 [dI a0] [] (dB r) []:=by
 refine OE Tryz.func312 fun S hS=>?_
 unfold z6b at hr
 refine bdE hr fun y1 hy1 hr=>J g<|J (CB' [] [] (q4v hy1))<|e
theorem z8V {a0:At_}{r:Bool}(hr:q7C a0=some r):Ok Tryz.prog 297 [At_.x .fz a0] [] (dB r) []:=by
 refine OE Tryz.func297 fun S hS=>?_
 unfold q7C at hr
 refine J g<|J (BX' 0)<|bdE hr fun y1 hy1 hr=>J g<|J (CB' [] [] (q5E hy1))<|bdE hr fun s1 hqq1 hr=>J (gn 1)<|q0a 6 [(1,.pb 0 0),(13,dB s1)] ?_ ?_
 replace hr:=hqq1
 refine ifE hr ?_ ?_<;>intro h1 hr
 refine bdE hr fun y2 hy2 hr=>J g<|J (CB' [] [] (j5I hy2))<|e
 exact e
 refine bdE hr fun s2 hqq2 hr=>q0a 6 [(1,.pb 0 0),(19,dB s2)] ?_ ?_
 replace hr:=hqq2
 refine ifE hr ?_ ?_<;>intro h2 hr
 exact e
 refine bdE hr fun y3 hy3 hr=>J g<|J (CB' [] [] (q4v hy3))<|e
 refine J (gn 2)<|ifE hr ?_ ?_<;>intro h3 hr
 exact e
 refine J (gn 8)<|ifE hr ?_ ?_<;>intro h4 hr
 refine bdE hr fun s3 hqq3 hr=>J (gn 6)<|q0a 5 [(31,dB s3)] ?_ ?_
 replace hr:=hqq3
 refine ifE hr ?_ ?_<;>intro h5 hr
 exact e
 exact e
 exact e
 refine bdE hr fun s4 hqq4 hr=>J (gn 7)<|q0a 5 [(39,dB s4)] ?_ ?_
 replace hr:=hqq4
 refine ifE hr ?_ ?_<;>intro h6 hr
 exact e
 exact e
 exact e
theorem z9u {a0:At_}{a1:At_}{r:Bool}(hr:q9F a0 a1=some r):Ok Tryz.prog 298 [At_.x .fz a0,.pb 0 0] [.box [dS a1.Name,dI a1.Type_,dI a1.Mode,dB a1.Circular]] (dB r) [.box [dS a1.Name,dI a1.Type_,dI a1.Mode,dB a1.Circular]]:=by
 refine OE Tryz.func298 fun S hS=>?_
 unfold q9F at hr
 refine J g<|J (BX' 1)<|e
theorem q8l {m:Md}{a0:(List At_)}{a1_0:At_}{r:Int}(hr:q4n a0 a1_0=some r):Ok Tryz.prog 235 [.d m (.sl 4 (a0.map At_.D)),.fn 298 [.pb 0 0]] [.box [dS a1_0.Name,dI a1_0.Type_,dI a1_0.Mode,dB a1_0.Circular]] (dI r) [.box [dS a1_0.Name,dI a1_0.Type_,dI a1_0.Mode,dB a1_0.Circular]]:=by
 refine OE Tryz.func235 fun S hS=>?_
 unfold q4n at hr
 refine J (gn 12)<|J (lenT 0)<|fun hl1=>bdE hr fun q1 hqq1 hr=>q0b hqq1 hl1 1 (fun k1 _=>[(0,.d m (.sl 4 (a0.map At_.D))),(1,.fn 298 [.pb 0 0]),(7,dI (a0.length:Int)),(8,dI (k1:Int))]) (fun k1 _=>[]) I (fun k1 xk1 sk1 ok1 hxk1 hr hltk1 hik1=>?_) fun k1 sk1 ek1 hltk1=>?_
 refine bdE hr fun y1 hy1 hr=>J g<|J (CB' [(0,0)] [] (z9u hy1))<|J (gn 1)<|ifE hr ?_ ?_<;>intro h1 hr
 exact e
 exact e
 subst ek1
 exact e
theorem q7P {m:Md}{a0:(List At_)}{a1_0:At_}{r:Bool}(hr:q4c a0 a1_0=some r):Ok Tryz.prog 181 [.d m (.sl 4 (a0.map At_.D)),.fn 298 [.pb 0 0]] [.box [dS a1_0.Name,dI a1_0.Type_,dI a1_0.Mode,dB a1_0.Circular]] (dB r) [.box [dS a1_0.Name,dI a1_0.Type_,dI a1_0.Mode,dB a1_0.Circular]]:=by
 refine OE Tryz.func181 fun S hS=>?_
 unfold q4c at hr
 refine bdE hr fun y1 hy1 hr=>J g<|J (CB' [(0,0)] [] (q8l (m:=m) hy1))<|e
theorem j1d {m:Md}{a0:Symbol}{r:Bool}(hr:q9g a0=some r):Ok Tryz.prog 262 [Symbol.x m a0] [] (dB r) []:=by
 refine OE Tryz.func262 fun S hS=>?_
 unfold q9g at hr
 refine J g<|J (BX' 0)<|J (gn 11)<|J (lenA 1 0)<|fun hl1=>bdE hr fun q1 hqq1 hr=>q0b hqq1 hl1 1 (fun k1 _=>[(1,.pb 0 0),(6,.d m (.sl 4 (a0.Attributes.map At_.D))),(7,dI (a0.Attributes.length:Int)),(8,dI (k1:Int))]) (fun k1 _=>[]) I (fun k1 xk1 sk1 ok1 hxk1 hr hltk1 hik1=>?_) fun k1 sk1 ek1 hltk1=>?_
 refine J g<|J (NV' 1)<|bdE hr fun y1 hy1 hr=>J g<|J (CB' [] [] (z8V hy1))<|J (gn 1)<|ifE hr ?_ ?_<;>intro h1 hr
 refine ggE hr fun g1 hr=>J g<|J (SLH' (Int.natCast_nonneg _) g1)<|bdE hr fun y2 hy2 hr=>J g<|J (CB' [(0,1)] [] (q7P (m:=m) hy2))<|J (gn 2)<|ifE hr ?_ ?_<;>intro h2 hr
 exact e
 exact e
 exact e
 subst ek1
 refine bdE hr fun y3 hy3 hr=>J g<|J (CB' [] [] (q5E hy3))<|bdE hr fun s1 hqq2 hr=>q0a 6 [(33,dB s1)] ?_ ?_
 replace hr:=hqq2
 refine ifE hr ?_ ?_<;>intro h3 hr
 exact e
 exact e
 exact e
theorem j2i {m:Md}{m2:Md}{a0:Symbol}{a1:Symbol}{r:Bool}(hr:z1G a0 a1=some r):Ok Tryz.prog 263 [Symbol.x m a0,.pb 0 0] [.box [dS a1.Name,.d m2 (.sl 4 (a1.Attributes.map At_.D))]] (dB r) [.box [dS a1.Name,.d m2 (.sl 4 (a1.Attributes.map At_.D))]]:=by
 refine OE Tryz.func263 fun S hS=>?_
 unfold z1G at hr
 refine J g<|J (BX' 1)<|e
theorem q9K {m:Md}{m2:Md}{a0:(List Symbol)}{a1_0:Symbol}{r:Int}(hr:q4T a0 a1_0=some r):Ok Tryz.prog 112 [.d m (.sl 2 (a0.map Symbol.D)),.fn 263 [.pb 0 0]] [.box [dS a1_0.Name,.d m2 (.sl 4 (a1_0.Attributes.map At_.D))]] (dI r) [.box [dS a1_0.Name,.d m2 (.sl 4 (a1_0.Attributes.map At_.D))]]:=by
 refine OE Tryz.func112 fun S hS=>?_
 unfold q4T at hr
 refine J (gn 12)<|J (lenT 0)<|fun hl1=>bdE hr fun q1 hqq1 hr=>q0b hqq1 hl1 1 (fun k1 _=>[(0,.d m (.sl 2 (a0.map Symbol.D))),(1,.fn 263 [.pb 0 0]),(7,dI (a0.length:Int)),(8,dI (k1:Int))]) (fun k1 _=>[]) I (fun k1 xk1 sk1 ok1 hxk1 hr hltk1 hik1=>?_) fun k1 sk1 ek1 hltk1=>?_
 refine bdE hr fun y1 hy1 hr=>J g<|J (CB' [(0,0)] [] (j2i (m:=m) (m2:=m2) hy1))<|J (gn 1)<|ifE hr ?_ ?_<;>intro h1 hr
 exact e
 exact e
 subst ek1
 exact e
theorem q8V {m:Md}{m2:Md}{a0:(List Symbol)}{a1_0:Symbol}{r:Bool}(hr:q4B a0 a1_0=some r):Ok Tryz.prog 179 [.d m (.sl 2 (a0.map Symbol.D)),.fn 263 [.pb 0 0]] [.box [dS a1_0.Name,.d m2 (.sl 4 (a1_0.Attributes.map At_.D))]] (dB r) [.box [dS a1_0.Name,.d m2 (.sl 4 (a1_0.Attributes.map At_.D))]]:=by
 refine OE Tryz.func179 fun S hS=>?_
 unfold q4B at hr
 refine bdE hr fun y1 hy1 hr=>J g<|J (CB' [(0,0)] [] (q9K (m:=m) (m2:=m2) hy1))<|e
theorem j4V {rec_iCountExpr:Expr→Option Int}(ih_iCountExpr:∀ {m:Md} {a0:Expr} {r:Int},rec_iCountExpr a0=some r→Ok Tryz.prog 323 [Expr.x m a0] [] (dI r) []){m:Md}{a0:Expr}{r:Int}(hr:z3f rec_iCountExpr a0=some r):Ok Tryz.prog 323 [Expr.x m a0] [] (dI r) []:=by
 refine OE Tryz.func323 fun S hS=>?_
 unfold z3f at hr
 refine J g<|J (BX' 0)<|J (gn 15)<|J (lenA 6 0)<|fun hl1=>bdE hr fun s1 hqq1 hr=>q0c hqq1 hl1 1 (fun k1 s1=>[(3,dI s1),(7,.d m (.sl 7 (a0.Args.map Expr.D))),(8,dI (a0.Args.length:Int)),(9,dI (k1:Int))]) (fun k1 s1=>[]) I (fun k1 xk1 sk1 ok1 hxk1 hr hltk1=>?_) fun k1 hltk1=>?_
 obtain⟨s1,rfl⟩:∃ y,y=sk1:=⟨_,rfl⟩
 refine J g<|J (NV' 1)<|bdE hr fun y1 hy1 hr=>J g<|J (CB' [] [] (ih_iCountExpr (m:=m) hy1))<|ggE hr fun g1 hr=>e
 exact e
theorem j4W (n:Nat):∀ {m:Md} {a0:Expr} {r:Int},z1g n a0=some r→Ok Tryz.prog 323 [Expr.x m a0] [] (dI r) []:=by
  induction n with
  | zero=>intro _ _ r hr;exact nomatch (show (none:Option Int)=some r from hr)
  | succ n ih=>intro _ _ r hr;exact j4V ih hr
theorem j6y {m:Md}{a0:Expr}{r:Int}(hr:z7T a0=some r):Ok Tryz.prog 323 [Expr.x m a0] [] (dI r) []:=by
 obtain⟨n,hn⟩:=q5Z hr
 exact j4W n hn
theorem j2j {rec_iDepthOfExpr:Expr→Option Int}(ih_iDepthOfExpr:∀ {m:Md} {a0:Expr} {r:Int},rec_iDepthOfExpr a0=some r→Ok Tryz.prog 324 [Expr.x m a0] [] (dI r) []){m:Md}{a0:Expr}{r:Int}(hr:z0G rec_iDepthOfExpr a0=some r):Ok Tryz.prog 324 [Expr.x m a0] [] (dI r) []:=by
 refine OE Tryz.func324 fun S hS=>?_
 unfold z0G at hr
 refine J g<|J (BX' 0)<|J (gn 15)<|J (lenA 6 0)<|fun hl1=>bdE hr fun s1 hqq1 hr=>q0c hqq1 hl1 1 (fun k1 s1=>[(3,dI s1),(7,.d m (.sl 7 (a0.Args.map Expr.D))),(8,dI (a0.Args.length:Int)),(9,dI (k1:Int))]) (fun k1 s1=>[]) I (fun k1 xk1 sk1 ok1 hxk1 hr hltk1=>?_) fun k1 hltk1=>?_
 obtain⟨s1,rfl⟩:∃ y,y=sk1:=⟨_,rfl⟩
 refine J g<|J (NV' 1)<|bdE hr fun y1 hy1 hr=>J g<|J (CB' [] [] (ih_iDepthOfExpr (m:=m) hy1)) ?_
 refine J (MXI' rfl rfl)<|J g<|E
 refine ggE hr fun g1 hr=>e
theorem j2k (n:Nat):∀ {m:Md} {a0:Expr} {r:Int},q7m n a0=some r→Ok Tryz.prog 324 [Expr.x m a0] [] (dI r) []:=by
  induction n with
  | zero=>intro _ _ r hr;exact nomatch (show (none:Option Int)=some r from hr)
  | succ n ih=>intro _ _ r hr;exact j2j ih hr
theorem j3I {m:Md}{a0:Expr}{r:Int}(hr:z5I a0=some r):Ok Tryz.prog 324 [Expr.x m a0] [] (dI r) []:=by
 obtain⟨n,hn⟩:=q5Z hr
 exact j2k n hn
theorem j8e {a0:Int}{r:Int}(hr:z6L a0=some r):Ok Tryz.prog 333 [dI a0] [] (dI r) []:=by
 refine OE Tryz.func333 fun S hS=>?_
 unfold z6L at hr
 refine J g ?_
 refine J (MNI' rfl rfl) ?_
 refine J (MXI' rfl rfl)<|J g<|E
theorem k6l {a0:Bool}{r:Int}(hr:j3B a0=some r):Ok Tryz.prog 334 [dB a0] [] (dI r) []:=by
 refine OE Tryz.func334 fun S hS=>?_
 unfold j3B at hr
 refine J (gn 9)<|ifE hr ?_ ?_<;>intro h1 hr
 exact e
 exact e
theorem k2l {a0:Int}{a1:Int}{r:Int}(hr:z7V a0 a1=some r):Ok Tryz.prog 331 [dI a0,dI a1] [] (dI r) []:=by
 refine OE Tryz.func331 fun S hS=>?_
 unfold z7V at hr
 refine J (gn 12)<|ifE hr ?_ ?_<;>intro h1 hr
 refine bdE hr fun y1 hy1 hr=>J g<|J (CB' [] [] (j8e hy1))<|e
 refine J (gn 7)<|ifE hr ?_ ?_<;>intro h2 hr
 refine J g<|J (OB' _ k9Z)<|e
 refine J (gn 7)<|ifE hr ?_ ?_<;>intro h3 hr
 refine bdE hr fun y2 hy2 hr=>J g<|J (CB' [] [] (k6l hy2))<|e
 refine J (gn 5)<|ifE hr ?_ ?_<;>intro h4 hr
 refine bdE hr fun y3 hy3 hr=>J g<|J (CB' [] [] (q4v hy3))<|J (gn 3)<|ifE hr ?_ ?_<;>intro h5 hr
 exact e
 exact e
 exact e
theorem j8f {a0:Int}{a1:Int}{r:Bool}(hr:z4B a0 a1=some r):Ok Tryz.prog 327 [dI a0,dI a1] [] (dB r) []:=by
 refine OE Tryz.func327 fun S hS=>?_
 unfold z4B at hr
 refine bdE hr fun y1 hy1 hr=>J g<|J (CB' [] [] (j5I hy1))<|ifE hr ?_ ?_<;>intro h1 hr
 refine bdE hr fun y2 hy2 hr=>J g<|J (CB' [] [] (k2l hy2))<|e
 exact e
theorem q8K {m:Md}{a0:Expr}{a1:Expr}{r:Bool}(hr:q6Q a0 a1=some r):Ok Tryz.prog 328 [Expr.x m a0,Expr.x m a1] [] (dB r) []:=by
 refine OE Tryz.func328 fun S hS=>?_
 unfold q6Q at hr
 refine J g<|J (BX' 0)<|J (BX' 1)<|bdE hr fun s1 hqq1 hr=>J (gn 9)<|q0a 7 [(2,.pb 0 0),(3,.pb 1 0),(4,dB false),(16,dB s1)] ?_ ?_
 replace hr:=hqq1
 refine ifE hr ?_ ?_<;>intro h1 hr
 exact e
 exact e
 refine bdE hr fun s2 hqq2 hr=>q0a 7 [(2,.pb 0 0),(3,.pb 1 0),(4,dB false),(23,dB s2)] ?_ ?_
 replace hr:=hqq2
 refine ifE hr ?_ ?_<;>intro h2 hr
 exact e
 exact e
 refine bdE hr fun s3 hqq3 hr=>q0a 7 [(2,.pb 0 0),(3,.pb 1 0),(4,dB false),(30,dB s3)] ?_ ?_
 replace hr:=hqq3
 refine ifE hr ?_ ?_<;>intro h3 hr
 exact e
 exact e
 refine bdE hr fun s4 hqq4 hr=>q0a 7 [(2,.pb 0 0),(3,.pb 1 0),(4,dB false),(37,dB s4)] ?_ ?_
 replace hr:=hqq4
 refine ifE hr ?_ ?_<;>intro h4 hr
 exact e
 exact e
 refine bdE hr fun s5 hqq5 hr=>q0a 7 [(4,dB false),(44,dB s5)] ?_ ?_
 replace hr:=hqq5
 refine ifE hr ?_ ?_<;>intro h5 hr
 exact e
 exact e
 exact e
theorem j4X {m:Md}{a0:Expr}{r:Bool}(hr:z1H a0=some r):Ok Tryz.prog 325 [Expr.x m a0] [] (dB r) []:=by
 refine OE Tryz.func325 fun S hS=>?_
 unfold z1H at hr
 refine J g<|J (BX' 0)<|J g<|J (NV' 1)<|J (gn 18)<|ifE hr ?_ ?_<;>intro h1 hr
 refine bdE hr fun s1 hqq1 hr=>J (gn 17)<|q0a 8 [(1,.pb 0 0),(3,.pb 1 0),(4,dI 0),(30,dB s1)] ?_ ?_
 replace hr:=hqq1
 refine ifE hr ?_ ?_<;>intro h2 hr
 exact e
 refine bdE hr fun y1 hy1 hr=>J g<|J (CB' [] [] (j8f hy1))<|e
 refine bdE hr fun s2 hqq2 hr=>q0a 5 [(1,.pb 0 0),(3,.pb 1 0),(4,dI 0),(35,dB s2)] ?_ ?_
 replace hr:=hqq2
 refine ifE hr ?_ ?_<;>intro h3 hr
 exact e
 exact e
 refine J (gn 1)<|ifE hr ?_ ?_<;>intro h4 hr
 exact e
 refine bdE hr fun s3 hqq3 hr=>J (gn 9)<|q0a 5 [(1,.pb 0 0),(3,.pb 1 0),(94,dB s3)] ?_ ?_
 replace hr:=hqq3
 refine ifE hr ?_ ?_<;>intro h5 hr
 refine bdE hr fun y2 hy2 hr=>J g<|J (CB' [] [] (q4v hy2))<|e
 exact e
 refine bdE hr fun s4 hqq4 hr=>q0a 5 [(99,dB s4)] ?_ ?_
 replace hr:=hqq4
 refine ifE hr ?_ ?_<;>intro h6 hr
 refine bdE hr fun y3 hy3 hr=>J g<|J (CB' [] [] (q8K (m:=m) hy3))<|e
 exact e
 exact e
 refine J (gn 6)<|ifE hr ?_ ?_<;>intro h7 hr
 refine bdE hr fun y4 hy4 hr=>J g<|J (CB' [] [] (q5E hy4))<|J (gn 2)<|ifE hr ?_ ?_<;>intro h8 hr
 refine bdE hr fun s5 hqq5 hr=>J (gn 9)<|q0a 5 [(1,.pb 0 0),(2,dB false),(3,.pb 1 0),(94,dB s5)] ?_ ?_
 replace hr:=hqq5
 refine ifE hr ?_ ?_<;>intro h9 hr
 refine bdE hr fun y5 hy5 hr=>J g<|J (CB' [] [] (q4v hy5))<|e
 exact e
 refine bdE hr fun s6 hqq6 hr=>q0a 5 [(2,dB false),(99,dB s6)] ?_ ?_
 replace hr:=hqq6
 refine ifE hr ?_ ?_<;>intro h10 hr
 refine bdE hr fun y6 hy6 hr=>J g<|J (CB' [] [] (q8K (m:=m) hy6))<|e
 exact e
 exact e
 exact e
 refine J (gn 6)<|ifE hr ?_ ?_<;>intro h11 hr
 refine bdE hr fun y7 hy7 hr=>J g<|J (CB' [] [] (q4v hy7))<|J (gn 2)<|ifE hr ?_ ?_<;>intro h12 hr
 refine bdE hr fun s7 hqq7 hr=>J (gn 9)<|q0a 5 [(1,.pb 0 0),(2,dB false),(3,.pb 1 0),(94,dB s7)] ?_ ?_
 replace hr:=hqq7
 refine ifE hr ?_ ?_<;>intro h13 hr
 refine bdE hr fun y8 hy8 hr=>J g<|J (CB' [] [] (q4v hy8))<|e
 exact e
 refine bdE hr fun s8 hqq8 hr=>q0a 5 [(2,dB false),(99,dB s8)] ?_ ?_
 replace hr:=hqq8
 refine ifE hr ?_ ?_<;>intro h14 hr
 refine bdE hr fun y9 hy9 hr=>J g<|J (CB' [] [] (q8K (m:=m) hy9))<|e
 exact e
 exact e
 exact e
 refine J (gn 6)<|ifE hr ?_ ?_<;>intro h15 hr
 refine bdE hr fun s9 hqq9 hr=>J (gn 11)<|q0a 5 [(1,.pb 0 0),(2,dB false),(3,.pb 1 0),(94,dB s9)] ?_ ?_
 replace hr:=hqq9
 refine ifE hr ?_ ?_<;>intro h16 hr
 refine bdE hr fun y10 hy10 hr=>J g<|J (CB' [] [] (q4v hy10))<|e
 exact e
 refine bdE hr fun s10 hqq10 hr=>q0a 5 [(2,dB false),(99,dB s10)] ?_ ?_
 replace hr:=hqq10
 refine ifE hr ?_ ?_<;>intro h17 hr
 refine bdE hr fun y11 hy11 hr=>J g<|J (CB' [] [] (q8K (m:=m) hy11))<|e
 exact e
 exact e
 refine J (gn 6)<|ifE hr ?_ ?_<;>intro h18 hr
 refine bdE hr fun s11 hqq11 hr=>J (gn 14)<|q0a 5 [(1,.pb 0 0),(2,dB false),(3,.pb 1 0),(94,dB s11)] ?_ ?_
 replace hr:=hqq11
 refine ifE hr ?_ ?_<;>intro h19 hr
 refine bdE hr fun y12 hy12 hr=>J g<|J (CB' [] [] (q4v hy12))<|e
 exact e
 refine bdE hr fun s12 hqq12 hr=>q0a 5 [(2,dB false),(99,dB s12)] ?_ ?_
 replace hr:=hqq12
 refine ifE hr ?_ ?_<;>intro h20 hr
 refine bdE hr fun y13 hy13 hr=>J g<|J (CB' [] [] (q8K (m:=m) hy13))<|e
 exact e
 exact e
 refine J (gn 6)<|ifE hr ?_ ?_<;>intro h21 hr
 refine bdE hr fun y14 hy14 hr=>J g<|J (CB' [] [] (q5E hy14))<|bdE hr fun s13 hqq13 hr=>J (gn 1)<|q0a 6 [(1,.pb 0 0),(3,.pb 1 0),(4,dI 1),(81,dB s13)] ?_ ?_
 replace hr:=hqq13
 refine ifE hr ?_ ?_<;>intro h22 hr
 refine bdE hr fun y15 hy15 hr=>J g<|J (CB' [] [] (q5E hy15))<|e
 exact e
 refine J (gn 1)<|ifE hr ?_ ?_<;>intro h23 hr
 exact e
 refine bdE hr fun s14 hqq14 hr=>J (gn 9)<|q0a 5 [(1,.pb 0 0),(3,.pb 1 0),(94,dB s14)] ?_ ?_
 replace hr:=hqq14
 refine ifE hr ?_ ?_<;>intro h24 hr
 refine bdE hr fun y16 hy16 hr=>J g<|J (CB' [] [] (q4v hy16))<|e
 exact e
 refine bdE hr fun s15 hqq15 hr=>q0a 5 [(99,dB s15)] ?_ ?_
 replace hr:=hqq15
 refine ifE hr ?_ ?_<;>intro h25 hr
 refine bdE hr fun y17 hy17 hr=>J g<|J (CB' [] [] (q8K (m:=m) hy17))<|e
 exact e
 exact e
 refine J (gn 7)<|ifE hr ?_ ?_<;>intro h26 hr
 refine J (gn 2)<|ifE hr ?_ ?_<;>intro h27 hr
 refine bdE hr fun s16 hqq16 hr=>J (gn 9)<|q0a 5 [(1,.pb 0 0),(2,dB false),(3,.pb 1 0),(94,dB s16)] ?_ ?_
 replace hr:=hqq16
 refine ifE hr ?_ ?_<;>intro h28 hr
 refine bdE hr fun y18 hy18 hr=>J g<|J (CB' [] [] (q4v hy18))<|e
 exact e
 refine bdE hr fun s17 hqq17 hr=>q0a 5 [(2,dB false),(99,dB s17)] ?_ ?_
 replace hr:=hqq17
 refine ifE hr ?_ ?_<;>intro h29 hr
 refine bdE hr fun y19 hy19 hr=>J g<|J (CB' [] [] (q8K (m:=m) hy19))<|e
 exact e
 exact e
 exact e
 refine J (gn 5)<|ifE hr ?_ ?_<;>intro h30 hr
 refine bdE hr fun s18 hqq18 hr=>J (gn 9)<|q0a 5 [(1,.pb 0 0),(2,dB false),(3,.pb 1 0),(94,dB s18)] ?_ ?_
 replace hr:=hqq18
 refine ifE hr ?_ ?_<;>intro h31 hr
 refine bdE hr fun y20 hy20 hr=>J g<|J (CB' [] [] (q4v hy20))<|e
 exact e
 refine bdE hr fun s19 hqq19 hr=>q0a 5 [(2,dB false),(99,dB s19)] ?_ ?_
 replace hr:=hqq19
 refine ifE hr ?_ ?_<;>intro h32 hr
 refine bdE hr fun y21 hy21 hr=>J g<|J (CB' [] [] (q8K (m:=m) hy21))<|e
 exact e
 exact e
 exact e
theorem z4N {rec_ieveryNode_iexprNodeOk:Expr→Option Bool}(ih_ieveryNode_iexprNodeOk:∀ {m:Md} {a0:Expr} {r:Bool},rec_ieveryNode_iexprNodeOk a0=some r→Ok Tryz.prog 183 [Expr.x m a0,.fn 325 []] [] (dB r) []){m:Md}{a0:Expr}{r:Bool}(hr:q6s rec_ieveryNode_iexprNodeOk a0=some r):Ok Tryz.prog 236 [Expr.x m a0,.pb 0 0] [.box [.fn 325 []]] (dB r) [.box [.fn 325 []]]:=by
 refine OE Tryz.func236 fun S hS=>?_
 unfold q6s at hr
 refine J g<|J (BX' 1)<|bdE hr fun y1 hy1 hr=>J g<|J (CB' [] [] (ih_ieveryNode_iexprNodeOk (m:=m) hy1))<|e
theorem q7Q {rec_ieveryNode_iexprNodeOk:Expr→Option Bool}(ih_ieveryNode_iexprNodeOk:∀ {m:Md} {a0:Expr} {r:Bool},rec_ieveryNode_iexprNodeOk a0=some r→Ok Tryz.prog 183 [Expr.x m a0,.fn 325 []] [] (dB r) []){m:Md}{a0:(List Expr)}{r:Int}(hr:q4d rec_ieveryNode_iexprNodeOk a0=some r):Ok Tryz.prog 233 [.d m (.sl 7 (a0.map Expr.D)),.fn 236 [.pb 0 0]] [.box [.fn 325 []]] (dI r) [.box [.fn 325 []]]:=by
 refine OE Tryz.func233 fun S hS=>?_
 unfold q4d at hr
 refine J (gn 12)<|J (lenT 0)<|fun hl1=>bdE hr fun q1 hqq1 hr=>q0b hqq1 hl1 1 (fun k1 _=>[(0,.d m (.sl 7 (a0.map Expr.D))),(1,.fn 236 [.pb 0 0]),(7,dI (a0.length:Int)),(8,dI (k1:Int))]) (fun k1 _=>[]) I (fun k1 xk1 sk1 ok1 hxk1 hr hltk1 hik1=>?_) fun k1 sk1 ek1 hltk1=>?_
 refine bdE hr fun y1 hy1 hr=>J g<|J (CB' [(0,0)] [] (z4N ih_ieveryNode_iexprNodeOk (m:=m) hy1))<|J (gn 1)<|ifE hr ?_ ?_<;>intro h1 hr
 exact e
 exact e
 subst ek1
 exact e
theorem q7t {rec_ieveryNode_iexprNodeOk:Expr→Option Bool}(ih_ieveryNode_iexprNodeOk:∀ {m:Md} {a0:Expr} {r:Bool},rec_ieveryNode_iexprNodeOk a0=some r→Ok Tryz.prog 183 [Expr.x m a0,.fn 325 []] [] (dB r) []){m:Md}{a0:(List Expr)}{r:Bool}(hr:q3X rec_ieveryNode_iexprNodeOk a0=some r):Ok Tryz.prog 176 [.d m (.sl 7 (a0.map Expr.D)),.fn 236 [.pb 0 0]] [.box [.fn 325 []]] (dB r) [.box [.fn 325 []]]:=by
 refine OE Tryz.func176 fun S hS=>?_
 unfold q3X at hr
 refine bdE hr fun y1 hy1 hr=>J g<|J (CB' [(0,0)] [] (q7Q ih_ieveryNode_iexprNodeOk (m:=m) hy1))<|e
theorem z5c {rec_ieveryNode_iexprNodeOk:Expr→Option Bool}(ih_ieveryNode_iexprNodeOk:∀ {m:Md} {a0:Expr} {r:Bool},rec_ieveryNode_iexprNodeOk a0=some r→Ok Tryz.prog 183 [Expr.x m a0,.fn 325 []] [] (dB r) []){m:Md}{a0:Expr}{r:Bool}(hr:q6a rec_ieveryNode_iexprNodeOk a0=some r):Ok Tryz.prog 183 [Expr.x m a0,.fn 325 []] [] (dB r) []:=by
 refine OE Tryz.func183 fun S hS=>?_
 unfold q6a at hr
 refine J g<|J (BX' 0)<|J (BX' 1)<|bdE hr fun y1 hy1 hr=>J g<|J (CB' [] [] (j4X (m:=m) hy1))<|ifE hr ?_ ?_<;>intro h1 hr
 refine bdE hr fun y2 hy2 hr=>J g<|J (CB' [(0,1)] [] (q7t ih_ieveryNode_iexprNodeOk (m:=m) hy2))<|e
 exact e
theorem z5d (n:Nat):∀ {m:Md} {a0:Expr} {r:Bool},q6b n a0=some r→Ok Tryz.prog 183 [Expr.x m a0,.fn 325 []] [] (dB r) []:=by
  induction n with
  | zero=>intro _ _ r hr;exact nomatch (show (none:Option Bool)=some r from hr)
  | succ n ih=>intro _ _ r hr;exact z5c ih hr
theorem z5K {m:Md}{a0:Expr}{r:Bool}(hr:q8u a0=some r):Ok Tryz.prog 183 [Expr.x m a0,.fn 325 []] [] (dB r) []:=by
 obtain⟨n,hn⟩:=q5Z hr
 exact z5d n hn
theorem j3J {m:Md}{a0:Expr}{r:Bool}(hr:z0H a0=some r):Ok Tryz.prog 316 [Expr.x m a0] [] (dB r) []:=by
 refine OE Tryz.func316 fun S hS=>?_
 unfold z0H at hr
 refine J g<|J (BX' 0)<|bdE hr fun y1 hy1 hr=>J g<|J (CB' [] [] (j6y (m:=m) hy1))<|bdE hr fun s1 hqq1 hr=>J (gn 1)<|q0a 5 [(1,.pb 0 0),(2,dB false),(10,dB s1)] ?_ ?_
 replace hr:=hqq1
 refine ifE hr ?_ ?_<;>intro h1 hr
 refine bdE hr fun y2 hy2 hr=>J g<|J (CB' [] [] (j3I (m:=m) hy2))<|e
 exact e
 refine bdE hr fun s2 hqq2 hr=>q0a 4 [(2,dB false),(14,dB s2)] ?_ ?_
 replace hr:=hqq2
 refine ifE hr ?_ ?_<;>intro h2 hr
 refine bdE hr fun y3 hy3 hr=>J g<|J (CB' [] [] (z5K (m:=m) hy3))<|e
 exact e
 exact e
theorem k2m {m:Md}{a0:Expr}{a1:Int}{r:Bool}(hr:j0n a0 a1=some r):Ok Tryz.prog 317 [Expr.x m a0,.pb 0 0] [.box [dI a1]] (dB r) [.box [dI a1]]:=by
 refine OE Tryz.func317 fun S hS=>?_
 unfold j0n at hr
 refine J g<|J (BX' 1)<|e
theorem z6T {rec_ieveryNode_ifits_1:Expr→Int→Option Bool}(ih_ieveryNode_ifits_1:∀ {m:Md} {a0:Expr} {a1_0:Int} {r:Bool},rec_ieveryNode_ifits_1 a0 a1_0=some r→Ok Tryz.prog 183 [Expr.x m a0,.fn 317 [.pb 0 0]] [.box [dI a1_0]] (dB r) [.box [dI a1_0]]){m:Md}{a0:Expr}{a1_0:Int}{r:Bool}(hr:q7N rec_ieveryNode_ifits_1 a0 a1_0=some r):Ok Tryz.prog 236 [Expr.x m a0,.pb 1 0] [.box [dI a1_0],.box [.fn 317 [.pb 0 0]]] (dB r) [.box [dI a1_0],.box [.fn 317 [.pb 0 0]]]:=by
 refine OE Tryz.func236 fun S hS=>?_
 unfold q7N at hr
 refine J g<|J (BX' 2)<|bdE hr fun y1 hy1 hr=>J g<|J (CB' [(0,0)] [] (ih_ieveryNode_ifits_1 (m:=m) hy1))<|e
theorem q8B {rec_ieveryNode_ifits_1:Expr→Int→Option Bool}(ih_ieveryNode_ifits_1:∀ {m:Md} {a0:Expr} {a1_0:Int} {r:Bool},rec_ieveryNode_ifits_1 a0 a1_0=some r→Ok Tryz.prog 183 [Expr.x m a0,.fn 317 [.pb 0 0]] [.box [dI a1_0]] (dB r) [.box [dI a1_0]]){m:Md}{a0:(List Expr)}{a1_0_0:Int}{r:Int}(hr:q4q rec_ieveryNode_ifits_1 a0 a1_0_0=some r):Ok Tryz.prog 233 [.d m (.sl 7 (a0.map Expr.D)),.fn 236 [.pb 1 0]] [.box [dI a1_0_0],.box [.fn 317 [.pb 0 0]]] (dI r) [.box [dI a1_0_0],.box [.fn 317 [.pb 0 0]]]:=by
 refine OE Tryz.func233 fun S hS=>?_
 unfold q4q at hr
 refine J (gn 12)<|J (lenT 0)<|fun hl1=>bdE hr fun q1 hqq1 hr=>q0b hqq1 hl1 2 (fun k1 _=>[(0,.d m (.sl 7 (a0.map Expr.D))),(1,.fn 236 [.pb 1 0]),(7,dI (a0.length:Int)),(8,dI (k1:Int))]) (fun k1 _=>[]) I (fun k1 xk1 sk1 ok1 hxk1 hr hltk1 hik1=>?_) fun k1 sk1 ek1 hltk1=>?_
 refine bdE hr fun y1 hy1 hr=>J g<|J (CB' [(0,0),(1,1)] [] (z6T ih_ieveryNode_ifits_1 (m:=m) hy1))<|J (gn 1)<|ifE hr ?_ ?_<;>intro h1 hr
 exact e
 exact e
 subst ek1
 exact e
theorem q8f {rec_ieveryNode_ifits_1:Expr→Int→Option Bool}(ih_ieveryNode_ifits_1:∀ {m:Md} {a0:Expr} {a1_0:Int} {r:Bool},rec_ieveryNode_ifits_1 a0 a1_0=some r→Ok Tryz.prog 183 [Expr.x m a0,.fn 317 [.pb 0 0]] [.box [dI a1_0]] (dB r) [.box [dI a1_0]]){m:Md}{a0:(List Expr)}{a1_0_0:Int}{r:Bool}(hr:q4j rec_ieveryNode_ifits_1 a0 a1_0_0=some r):Ok Tryz.prog 176 [.d m (.sl 7 (a0.map Expr.D)),.fn 236 [.pb 1 0]] [.box [dI a1_0_0],.box [.fn 317 [.pb 0 0]]] (dB r) [.box [dI a1_0_0],.box [.fn 317 [.pb 0 0]]]:=by
 refine OE Tryz.func176 fun S hS=>?_
 unfold q4j at hr
 refine bdE hr fun y1 hy1 hr=>J g<|J (CB' [(0,0),(1,1)] [] (q8B ih_ieveryNode_ifits_1 (m:=m) hy1))<|e
theorem z7w {rec_ieveryNode_ifits_1:Expr→Int→Option Bool}(ih_ieveryNode_ifits_1:∀ {m:Md} {a0:Expr} {a1_0:Int} {r:Bool},rec_ieveryNode_ifits_1 a0 a1_0=some r→Ok Tryz.prog 183 [Expr.x m a0,.fn 317 [.pb 0 0]] [.box [dI a1_0]] (dB r) [.box [dI a1_0]]){m:Md}{a0:Expr}{a1_0:Int}{r:Bool}(hr:q6Z rec_ieveryNode_ifits_1 a0 a1_0=some r):Ok Tryz.prog 183 [Expr.x m a0,.fn 317 [.pb 0 0]] [.box [dI a1_0]] (dB r) [.box [dI a1_0]]:=by
 refine OE Tryz.func183 fun S hS=>?_
 unfold q6Z at hr
 refine J g<|J (BX' 1)<|J (BX' 2)<|bdE hr fun y1 hy1 hr=>J g<|J (CB' [(0,0)] [] (k2m (m:=m) hy1))<|ifE hr ?_ ?_<;>intro h1 hr
 refine bdE hr fun y2 hy2 hr=>J g<|J (CB' [(0,0),(1,2)] [] (q8f ih_ieveryNode_ifits_1 (m:=m) hy2))<|e
 exact e
theorem z7x (n:Nat):∀ {m:Md} {a0:Expr} {a1_0:Int} {r:Bool},q7a n a0 a1_0=some r→Ok Tryz.prog 183 [Expr.x m a0,.fn 317 [.pb 0 0]] [.box [dI a1_0]] (dB r) [.box [dI a1_0]]:=by
  induction n with
  | zero=>intro _ _ _ r hr;exact nomatch (show (none:Option Bool)=some r from hr)
  | succ n ih=>intro _ _ _ r hr;exact z7w ih hr
theorem z8j {m:Md}{a0:Expr}{a1_0:Int}{r:Bool}(hr:z0u a0 a1_0=some r):Ok Tryz.prog 183 [Expr.x m a0,.fn 317 [.pb 0 0]] [.box [dI a1_0]] (dB r) [.box [dI a1_0]]:=by
 obtain⟨n,hn⟩:=q5Z hr
 exact z7x n hn
theorem j6z {m:Md}{a0:Expr}{a1:Int}{r:Bool}(hr:z9q a0 a1=some r):Ok Tryz.prog 300 [Expr.x m a0,dI a1] [] (dB r) []:=by
 refine OE Tryz.func300 fun S hS=>?_
 unfold z9q at hr
 refine J g<|J (BX' 0)<|J (BX' 1)<|bdE hr fun y1 hy1 hr=>J g<|J (CB' [] [] (j3J (m:=m) hy1))<|ifE hr ?_ ?_<;>intro h1 hr
 refine bdE hr fun y2 hy2 hr=>J g<|J (CB' [(0,1)] [] (z8j (m:=m) hy2))<|e
 exact e
theorem j3K {m:Md}{a0:Rule}{r:Bool}(hr:z0I a0=some r):Ok Tryz.prog 264 [Rule.x m a0] [] (dB r) []:=by
 refine OE Tryz.func264 fun S hS=>?_
 unfold z0I at hr
 refine J g<|J (BX' 0)<|bdE hr fun y1 hy1 hr=>J g<|J (CB' [] [] (q5E hy1))<|bdE hr fun s1 hqq1 hr=>J (gn 1)<|q0a 6 [(1,.pb 0 0),(3,dI (a0.Right.length:Int)),(22,dB s1)] ?_ ?_
 replace hr:=hqq1
 refine ifE hr ?_ ?_<;>intro h1 hr
 refine bdE hr fun y2 hy2 hr=>J g<|J (CB' [] [] (q5E hy2))<|e
 exact e
 refine bdE hr fun s2 hqq2 hr=>q0a 4 [(1,.pb 0 0),(3,dI (a0.Right.length:Int)),(26,dB s2)] ?_ ?_
 replace hr:=hqq2
 refine ifE hr ?_ ?_<;>intro h2 hr
 exact e
 exact e
 refine bdE hr fun s3 hqq3 hr=>q0a 6 [(1,.pb 0 0),(3,dI (a0.Right.length:Int)),(32,dB s3)] ?_ ?_
 replace hr:=hqq3
 refine ifE hr ?_ ?_<;>intro h3 hr
 exact e
 exact e
 refine J (gn 1)<|ifE hr ?_ ?_<;>intro h4 hr
 exact e
 refine J (gn 11)<|J (lenT 34)<|fun hl1=>bdE hr fun q4 hqq4 hr=>q0b hqq4 hl1 1 (fun k1 _=>[(1,.pb 0 0),(3,dI (a0.Right.length:Int)),(34,.d m (.sl 1 (a0.Right.map A.D.s))),(35,dI (a0.Right.length:Int)),(36,dI (k1:Int))]) (fun k1 _=>[]) I (fun k1 xk1 sk1 ok1 hxk1 hr hltk1 hik1=>?_) fun k1 sk1 ek1 hltk1=>?_
 refine bdE hr fun y3 hy3 hr=>J g<|J (CB' [] [] (q5E hy3))<|J (gn 2)<|ifE hr ?_ ?_<;>intro h5 hr
 exact e
 exact e
 subst ek1
 refine J (gn 16)<|J (lenT 45)<|fun hl2=>bdE hr fun q5 hqq5 hr=>q0b hqq5 hl2 1 (fun k2 _=>[(1,.pb 0 0),(3,dI (a0.Right.length:Int)),(45,.d m (.sl 9 (a0.Equations.map Eqn.D))),(46,dI (a0.Equations.length:Int)),(47,dI (k2:Int))]) (fun k2 _=>[]) I (fun k2 xk2 sk2 ok2 hxk2 hr hltk2 hik2=>?_) fun k2 sk2 ek2 hltk2=>?_
 refine J g<|J (NV' 1)<|bdE hr fun y4 hy4 hr=>J g<|J (CB' [] [] (j6z (m:=m) hy4))<|bdE hr fun s4 hqq6 hr=>J (gn 1)<|q0a 7 [(1,.pb 0 0),(3,dI (a0.Right.length:Int)),(7,.pb 1 0),(45,.d m (.sl 9 (a0.Equations.map Eqn.D))),(46,dI (a0.Equations.length:Int)),(47,dI (k2:Int)),(62,dB s4)] ?_ ?_
 replace hr:=hqq6
 refine ifE hr ?_ ?_<;>intro h6 hr
 refine bdE hr fun y5 hy5 hr=>J g<|J (CB' [] [] (q5E hy5))<|e
 exact e
 refine bdE hr fun s5 hqq7 hr=>q0a 8 [(1,.pb 0 0),(3,dI (a0.Right.length:Int)),(45,.d m (.sl 9 (a0.Equations.map Eqn.D))),(46,dI (a0.Equations.length:Int)),(47,dI (k2:Int)),(70,dB s5)] ?_ ?_
 replace hr:=hqq7
 refine ifE hr ?_ ?_<;>intro h7 hr
 exact e
 refine bdE hr fun y6 hy6 hr=>J g<|J (CB' [] [] (q4v hy6))<|e
 refine J (gn 1)<|ifE hr ?_ ?_<;>intro h8 hr
 exact e
 exact e
 subst ek2
 refine J (gn 16)<|J (lenT 73)<|fun hl3=>bdE hr fun q8 hqq8 hr=>q0b hqq8 hl3 1 (fun k3 _=>[(3,dI (a0.Right.length:Int)),(73,.d m (.sl 16 (a0.Contributions.map Cn.D))),(74,dI (a0.Contributions.length:Int)),(75,dI (k3:Int))]) (fun k3 _=>[]) I (fun k3 xk3 sk3 ok3 hxk3 hr hltk3 hik3=>?_) fun k3 sk3 ek3 hltk3=>?_
 refine J g<|J (NV' 1)<|bdE hr fun y7 hy7 hr=>J g<|J (CB' [] [] (j6z (m:=m) hy7))<|bdE hr fun s6 hqq9 hr=>J (gn 1)<|q0a 7 [(3,dI (a0.Right.length:Int)),(9,.pb 1 0),(73,.d m (.sl 16 (a0.Contributions.map Cn.D))),(74,dI (a0.Contributions.length:Int)),(75,dI (k3:Int)),(90,dB s6)] ?_ ?_
 replace hr:=hqq9
 refine ifE hr ?_ ?_<;>intro h9 hr
 refine bdE hr fun y8 hy8 hr=>J g<|J (CB' [] [] (j6z (m:=m) hy8))<|e
 exact e
 refine bdE hr fun s7 hqq10 hr=>q0a 6 [(3,dI (a0.Right.length:Int)),(9,.pb 1 0),(73,.d m (.sl 16 (a0.Contributions.map Cn.D))),(74,dI (a0.Contributions.length:Int)),(75,dI (k3:Int)),(96,dB s7)] ?_ ?_
 replace hr:=hqq10
 refine ifE hr ?_ ?_<;>intro h10 hr
 exact e
 refine bdE hr fun y9 hy9 hr=>J g<|J (CB' [] [] (q5E hy9))<|e
 refine bdE hr fun s8 hqq11 hr=>q0a 6 [(3,dI (a0.Right.length:Int)),(73,.d m (.sl 16 (a0.Contributions.map Cn.D))),(74,dI (a0.Contributions.length:Int)),(75,dI (k3:Int)),(102,dB s8)] ?_ ?_
 replace hr:=hqq11
 refine ifE hr ?_ ?_<;>intro h11 hr
 exact e
 refine bdE hr fun y10 hy10 hr=>J g<|J (CB' [] [] (q5E hy10))<|e
 refine J (gn 1)<|ifE hr ?_ ?_<;>intro h12 hr
 exact e
 exact e
 subst ek3
 exact e
theorem j2l {m:Md}{m2:Md}{a0:Rule}{a1:Rule}{r:Bool}(hr:z1I a0 a1=some r):Ok Tryz.prog 265 [Rule.x m a0,.pb 0 0] [.box [dS a1.Name,dS a1.Left,.d m2 (.sl 1 (a1.Right.map A.D.s)),dB a1.Literal,.d m2 (.sl 9 (a1.Equations.map Eqn.D)),.d m2 (.sl 16 (a1.Contributions.map Cn.D))]] (dB r) [.box [dS a1.Name,dS a1.Left,.d m2 (.sl 1 (a1.Right.map A.D.s)),dB a1.Literal,.d m2 (.sl 9 (a1.Equations.map Eqn.D)),.d m2 (.sl 16 (a1.Contributions.map Cn.D))]]:=by
 refine OE Tryz.func265 fun S hS=>?_
 unfold z1I at hr
 refine J g<|J (BX' 1)<|e
theorem z0o {m:Md}{m2:Md}{a0:(List Rule)}{a1_0:Rule}{r:Int}(hr:q5b a0 a1_0=some r):Ok Tryz.prog 232 [.d m (.sl 6 (a0.map Rule.D)),.fn 265 [.pb 0 0]] [.box [dS a1_0.Name,dS a1_0.Left,.d m2 (.sl 1 (a1_0.Right.map A.D.s)),dB a1_0.Literal,.d m2 (.sl 9 (a1_0.Equations.map Eqn.D)),.d m2 (.sl 16 (a1_0.Contributions.map Cn.D))]] (dI r) [.box [dS a1_0.Name,dS a1_0.Left,.d m2 (.sl 1 (a1_0.Right.map A.D.s)),dB a1_0.Literal,.d m2 (.sl 9 (a1_0.Equations.map Eqn.D)),.d m2 (.sl 16 (a1_0.Contributions.map Cn.D))]]:=by
 refine OE Tryz.func232 fun S hS=>?_
 unfold q5b at hr
 refine J (gn 12)<|J (lenT 0)<|fun hl1=>bdE hr fun q1 hqq1 hr=>q0b hqq1 hl1 1 (fun k1 _=>[(0,.d m (.sl 6 (a0.map Rule.D))),(1,.fn 265 [.pb 0 0]),(7,dI (a0.length:Int)),(8,dI (k1:Int))]) (fun k1 _=>[]) I (fun k1 xk1 sk1 ok1 hxk1 hr hltk1 hik1=>?_) fun k1 sk1 ek1 hltk1=>?_
 refine bdE hr fun y1 hy1 hr=>J g<|J (CB' [(0,0)] [] (j2l (m:=m) (m2:=m2) hy1))<|J (gn 1)<|ifE hr ?_ ?_<;>intro h1 hr
 exact e
 exact e
 subst ek1
 exact e
theorem q9w {m:Md}{m2:Md}{a0:(List Rule)}{a1_0:Rule}{r:Bool}(hr:q4L a0 a1_0=some r):Ok Tryz.prog 174 [.d m (.sl 6 (a0.map Rule.D)),.fn 265 [.pb 0 0]] [.box [dS a1_0.Name,dS a1_0.Left,.d m2 (.sl 1 (a1_0.Right.map A.D.s)),dB a1_0.Literal,.d m2 (.sl 9 (a1_0.Equations.map Eqn.D)),.d m2 (.sl 16 (a1_0.Contributions.map Cn.D))]] (dB r) [.box [dS a1_0.Name,dS a1_0.Left,.d m2 (.sl 1 (a1_0.Right.map A.D.s)),dB a1_0.Literal,.d m2 (.sl 9 (a1_0.Equations.map Eqn.D)),.d m2 (.sl 16 (a1_0.Contributions.map Cn.D))]]:=by
 refine OE Tryz.func174 fun S hS=>?_
 unfold q4L at hr
 refine bdE hr fun y1 hy1 hr=>J g<|J (CB' [(0,0)] [] (z0o (m:=m) (m2:=m2) hy1))<|e
theorem j4Y {m:Md}{a0:Grammar}{r:Int}(hr:z1J a0=some r):Ok Tryz.prog 221 [Grammar.x m a0] [] (dI r) []:=by
 refine OE Tryz.func221 fun S hS=>?_
 unfold z1J at hr
 refine J g<|J (BX' 0)<|J (gn 11)<|J (lenA 0 0)<|fun hl1=>bdE hr fun q1 hqq1 hr=>q0b hqq1 hl1 1 (fun k1 _=>[(1,.pb 0 0),(8,.d m (.sl 2 (a0.Symbols.map Symbol.D))),(9,dI (a0.Symbols.length:Int)),(10,dI (k1:Int))]) (fun k1 _=>[]) I (fun k1 xk1 sk1 ok1 hxk1 hr hltk1 hik1=>?_) fun k1 sk1 ek1 hltk1=>?_
 refine J g<|J (NV' 1)<|bdE hr fun y1 hy1 hr=>J g<|J (CB' [] [] (j1d (m:=m) hy1))<|J (gn 1)<|ifE hr ?_ ?_<;>intro h1 hr
 refine ggE hr fun g1 hr=>J g<|J (SLH' (Int.natCast_nonneg _) g1)<|bdE hr fun y2 hy2 hr=>J g<|J (CB' [(0,1)] [] (q8V (m:=m) (m2:=m) hy2))<|J (gn 2)<|ifE hr ?_ ?_<;>intro h2 hr
 exact e
 exact e
 exact e
 subst ek1
 refine J (gn 16)<|J (lenT 29)<|fun hl2=>bdE hr fun q2 hqq2 hr=>q0b hqq2 hl2 1 (fun k2 _=>[(1,.pb 0 0),(29,.d m (.sl 6 (a0.Rules.map Rule.D))),(30,dI (a0.Rules.length:Int)),(31,dI (k2:Int))]) (fun k2 _=>[]) I (fun k2 xk2 sk2 ok2 hxk2 hr hltk2 hik2=>?_) fun k2 sk2 ek2 hltk2=>?_
 refine J g<|J (NV' 1)<|bdE hr fun y3 hy3 hr=>J g<|J (CB' [] [] (j3K (m:=m) hy3))<|J (gn 1)<|ifE hr ?_ ?_<;>intro h3 hr
 refine ggE hr fun g2 hr=>J g<|J (SLH' (Int.natCast_nonneg _) g2)<|bdE hr fun y4 hy4 hr=>J g<|J (CB' [(0,1)] [] (q9w (m:=m) (m2:=m) hy4))<|J (gn 2)<|ifE hr ?_ ?_<;>intro h4 hr
 exact e
 exact e
 exact e
 subst ek2
 exact e
theorem j2m {a0:At_}{r:Bool}(hr:z1K a0=some r):Ok Tryz.prog 222 [At_.x .fz a0] [] (dB r) []:=by
 refine OE Tryz.func222 fun S hS=>?_
 unfold z1K at hr
 refine J g<|J (BX' 0)<|e
theorem q8W {m:Md}{a0:(List At_)}{r:Int}(hr:q4C a0=some r):Ok Tryz.prog 235 [.d m (.sl 4 (a0.map At_.D)),.fn 222 []] [] (dI r) []:=by
 refine OE Tryz.func235 fun S hS=>?_
 unfold q4C at hr
 refine J (gn 12)<|J (lenT 0)<|fun hl1=>bdE hr fun q1 hqq1 hr=>q0b hqq1 hl1 0 (fun k1 _=>[(0,.d m (.sl 4 (a0.map At_.D))),(1,.fn 222 []),(7,dI (a0.length:Int)),(8,dI (k1:Int))]) (fun k1 _=>[]) I (fun k1 xk1 sk1 ok1 hxk1 hr hltk1 hik1=>?_) fun k1 sk1 ek1 hltk1=>?_
 refine bdE hr fun y1 hy1 hr=>J g<|J (CB' [] [] (j2m hy1))<|J (gn 1)<|ifE hr ?_ ?_<;>intro h1 hr
 exact e
 exact e
 subst ek1
 exact e
theorem q8m {m:Md}{a0:(List At_)}{r:Bool}(hr:q4o a0=some r):Ok Tryz.prog 181 [.d m (.sl 4 (a0.map At_.D)),.fn 222 []] [] (dB r) []:=by
 refine OE Tryz.func181 fun S hS=>?_
 unfold q4o at hr
 refine bdE hr fun y1 hy1 hr=>J g<|J (CB' [] [] (q8W (m:=m) hy1))<|e
theorem q9Z {m:Md}{a0:Rule}{a1:Int}{r:ByteArray}(hr:q6R a0 a1=some r):Ok Tryz.prog 72 [Rule.x m a0,dI a1] [] (dS r) []:=by
 refine OE Tryz.func72 fun S hS=>?_
 unfold q6R at hr
 refine J g<|J (BX' 0)<|J (gn 10)<|ifE hr ?_ ?_<;>intro h1 hr
 exact e
 refine bdE hr fun y1 hy1 hr=>J g<|J (CB' [] [] (q4v hy1))<|J (gn 2)<|ifE hr ?_ ?_<;>intro h2 hr
 refine ggE hr fun g1 hr=>ggE hr fun g2 hr=>bdE hr fun x1 hx1 hr=>e
 exact e
theorem q9s {m:Md}{a0:Grammar}{a1:ByteArray}{r:(Symbol×Bool)}(hr:q5U a0 a1=some r):Ok Tryz.prog 133 [Grammar.y m a0,dS a1] [] (.tu [Symbol.x m r.1,dB r.2]) []:=by
 refine OE Tryz.func133 fun S hS=>?_
 unfold q5U at hr
 refine J g<|J (BX' 0)<|J (NV' 1)<|J (gn 11)<|J (lenA 0 0)<|fun hl1=>bdE hr fun q1 hqq1 hr=>q0b hqq1 hl1 2 (fun k1 _=>[(1,dS a1),(4,.pb 1 0),(9,.d m (.sl 2 (a0.Symbols.map Symbol.D))),(10,dI (a0.Symbols.length:Int)),(11,dI (k1:Int))]) (fun k1 _=>[]) I (fun k1 xk1 sk1 ok1 hxk1 hr hltk1 hik1=>?_) fun k1 sk1 ek1 hltk1=>?_
 refine J g<|J (NV' 2)<|J (gn 9)<|ifE hr ?_ ?_<;>intro h1 hr
 exact e
 exact e
 subst ek1
 refine J (gn 14) ?_
 cases hr
 exact endA.ren [] 0 (.inr rfl) hS rfl rfl rfl (.tu (.cons (.ag (.cons .rfl (.cons .nld .nil))) (.cons .rfl .nil))) rfl rfl
theorem j9z {m:Md}{a0:Grammar}{a1:Rule}{r:Bool}(hr:z6c a0 a1=some r):Ok Tryz.prog 223 [Grammar.y m a0,Rule.x m a1] [] (dB r) []:=by
 refine OE Tryz.func223 fun S hS=>?_
 unfold z6c at hr
 refine J g<|J (BX' 0)<|J (BX' 1)<|ggE hr fun g1 hr=>J (gn 12)<|J (rngT 11)<|fun hl1=>bdE hr fun q1 hqq1 hr=>q0w hqq1 2 (fun k1 _=>[(2,.pb 0 0),(3,.pb 1 0),(11,dI ((a1.Right.length+1:Nat):Int)),(12,dI (k1:Int))]) (fun k1 _=>[]) I (fun k1 sk1 ok1 hr hltk1 hik1=>?_) fun sk1 ek1=>?_
 refine bdE hr fun y1 hy1 hr=>J g<|J (CB' [] [] (q9Z (m:=m) hy1))<|bdP hr fun y2 y3 hq2 hr=>J (CB' [] [] (q9s (m:=m) hq2))<|J g<|J (NV' 2)<|J (gn 8)<|ifE hr ?_ ?_<;>intro h1 hr
 exact e
 exact e
 subst ek1
 exact e
theorem z8k {m:Md}{a0:Grammar}{a1:Rule}{r:(List Oc)}(hr:q9T a0 a1=some r):Ok Tryz.prog 194 [Grammar.y m a0,Rule.x m a1] [] (.ref 0 none) [.row .fz 2 (r.map Oc.D)]:=by
 refine OE Tryz.func194 fun S hS=>?_
 unfold q9T at hr
 refine J g<|J (BX' 0)<|J (BX' 1)<|J g<|J (L0' 2 Oc.D)<|ggE hr fun g1 hr=>J (gn 12)<|J (rngT 16)<|fun hl1=>bdE hr fun s1 hqq1 hr=>q0m hqq1 3 (fun k1 s1=>[(2,.pb 0 0),(3,.pb 1 0),(5,.ref 2 none),(16,dI ((a1.Right.length+1:Nat):Int)),(17,dI (k1:Int))]) (fun k1 s1=>[(2,.row .fz 2 (s1.map Oc.D))]) I (fun k1 sk1 ok1 hr hltk1=>?_) ?_
 obtain⟨s1,rfl⟩:∃ y,y=sk1:=⟨_,rfl⟩
 refine bdE hr fun s2 hqq2 hr=>J (gn 24)<|q0e 3 [(2,.pb 0 0),(3,.pb 1 0),(5,.ref 2 none),(6,dI (k1:Int)),(7,dI s2),(16,dI ((a1.Right.length+1:Nat):Int)),(17,dI (k1:Int))] [] ?_ ?_
 replace hr:=hqq2
 refine ifE hr ?_ ?_<;>intro h1 hr
 exact e
 exact e
 refine bdE hr fun y1 hy1 hr=>J g<|J (CB' [] [] (q9Z (m:=m) hy1))<|bdP hr fun y2 y3 hq3 hr=>J (CB' [] [] (q9s (m:=m) hq3))<|J g<|J (NV' 3)<|J (gn 11) ?_
 refine AW.len (.ag 1 (.tu 0 (.tmp 22 rfl) rfl) rfl) fun hl2=>?_
 refine bdE hr fun s3 hqq4 hr=>q0c hqq4 hl2 4 (fun k2 s3=>[(2,.pb 0 0),(3,.pb 1 0),(5,.ref 2 none),(6,dI (k1:Int)),(7,dI s2),(16,dI ((a1.Right.length+1:Nat):Int)),(17,dI (k1:Int)),(31,.d m (.sl 4 (y2.Attributes.map At_.D))),(32,dI (y2.Attributes.length:Int)),(33,dI (k2:Int))]) (fun k2 s3=>[(2,.row .fz 2 (s3.map Oc.D))]) I (fun k2 xk2 sk2 ok2 hxk2 hr hltk2=>?_) fun k2 hltk2=>?_
 obtain⟨s3,rfl⟩:∃ y,y=sk2:=⟨_,rfl⟩
 refine bdE hr fun s4 hqq5 hr=>J (gn 8)<|q0e 4 [(2,.pb 0 0),(3,.pb 1 0),(5,.ref 2 none),(6,dI (k1:Int)),(7,dI s2),(16,dI ((a1.Right.length+1:Nat):Int)),(17,dI (k1:Int)),(31,.d m (.sl 4 (y2.Attributes.map At_.D))),(32,dI (y2.Attributes.length:Int)),(33,dI (k2:Int))] [(2,.row .fz 2 (s4.map Oc.D))] ?_ ?_
 replace hr:=hqq5
 refine J g<|J (NV' 4)<|J (gn 9)<|ifE hr ?_ ?_<;>intro h2 hr
 refine J g<|J (LIR' 5 (m:=.fz) (f:=Oc.D) (xs:=[(⟨(k1:Int),xk2.Name⟩:Oc)]))<|ggE hr fun g2 hr=>J (z3b (f:=Oc.D) 6 (fun _=>rfl) 24 g2)<|e
 exact e
 exact e
 exact e
 exact e
theorem j3L {m:Md}{a0:Eqn}{a1:Oc}{r:Bool}(hr:z2Q a0 a1=some r):Ok Tryz.prog 268 [Eqn.x m a0,.pb 0 0] [.box [dI a1.Pos,dS a1.Name]] (dB r) [.box [dI a1.Pos,dS a1.Name]]:=by
 refine OE Tryz.func268 fun S hS=>?_
 unfold z2Q at hr
 refine J g<|J (BX' 1)<|J g ?_
 refine J (SQ' rfl rfl rfl rfl (q6f a0.At a1))<|J g<|E
theorem q9x {m:Md}{a0:(List Eqn)}{a1_0:Oc}{r:Int}(hr:q4M a0 a1_0=some r):Ok Tryz.prog 301 [.d m (.sl 9 (a0.map Eqn.D)),.fn 268 [.pb 0 0]] [.box [dI a1_0.Pos,dS a1_0.Name]] (dI r) [.box [dI a1_0.Pos,dS a1_0.Name]]:=by
 refine OE Tryz.func301 fun S hS=>?_
 unfold q4M at hr
 refine J (gn 12)<|J (lenT 0)<|fun hl1=>bdE hr fun q1 hqq1 hr=>q0b hqq1 hl1 1 (fun k1 _=>[(0,.d m (.sl 9 (a0.map Eqn.D))),(1,.fn 268 [.pb 0 0]),(7,dI (a0.length:Int)),(8,dI (k1:Int))]) (fun k1 _=>[]) I (fun k1 xk1 sk1 ok1 hxk1 hr hltk1 hik1=>?_) fun k1 sk1 ek1 hltk1=>?_
 refine bdE hr fun y1 hy1 hr=>J g<|J (CB' [(0,0)] [] (j3L (m:=m) hy1))<|J (gn 1)<|ifE hr ?_ ?_<;>intro h1 hr
 exact e
 exact e
 subst ek1
 exact e
theorem q8G {m:Md}{a0:(List Eqn)}{a1_0:Oc}{r:Bool}(hr:q4w a0 a1_0=some r):Ok Tryz.prog 267 [.d m (.sl 9 (a0.map Eqn.D)),.fn 268 [.pb 0 0]] [.box [dI a1_0.Pos,dS a1_0.Name]] (dB r) [.box [dI a1_0.Pos,dS a1_0.Name]]:=by
 refine OE Tryz.func267 fun S hS=>?_
 unfold q4w at hr
 refine bdE hr fun y1 hy1 hr=>J g<|J (CB' [(0,0)] [] (q9x (m:=m) hy1))<|e
theorem j6A {m2:Md}{a0:Oc}{a1:Rule}{r:Bool}(hr:z5p a0 a1=some r):Ok Tryz.prog 266 [Oc.x .fz a0,.pb 0 0] [.box [dS a1.Name,dS a1.Left,.d m2 (.sl 1 (a1.Right.map A.D.s)),dB a1.Literal,.d m2 (.sl 9 (a1.Equations.map Eqn.D)),.d m2 (.sl 16 (a1.Contributions.map Cn.D))]] (dB r) [.box [dS a1.Name,dS a1.Left,.d m2 (.sl 1 (a1.Right.map A.D.s)),dB a1.Literal,.d m2 (.sl 9 (a1.Equations.map Eqn.D)),.d m2 (.sl 16 (a1.Contributions.map Cn.D))]]:=by
 refine OE Tryz.func266 fun S hS=>?_
 unfold z5p at hr
 refine J g<|J (BX' 1)<|bdE hr fun y1 hy1 hr=>J g<|J (CB' [(0,1)] [] (q8G (m:=m2) hy1))<|e
theorem q9y {m2:Md}{a0:(List Oc)}{a1_0:Rule}{r:Int}(hr:q4N a0 a1_0=some r):Ok Tryz.prog 244 [.ref 1 none,.fn 266 [.pb 0 0]] [.box [dS a1_0.Name,dS a1_0.Left,.d m2 (.sl 1 (a1_0.Right.map A.D.s)),dB a1_0.Literal,.d m2 (.sl 9 (a1_0.Equations.map Eqn.D)),.d m2 (.sl 16 (a1_0.Contributions.map Cn.D))],.row .fz 2 (a0.map Oc.D)] (dI r) [.box [dS a1_0.Name,dS a1_0.Left,.d m2 (.sl 1 (a1_0.Right.map A.D.s)),dB a1_0.Literal,.d m2 (.sl 9 (a1_0.Equations.map Eqn.D)),.d m2 (.sl 16 (a1_0.Contributions.map Cn.D))],.row .fz 2 (a0.map Oc.D)]:=by
 refine OE Tryz.func244 fun S hS=>?_
 unfold q4N at hr
 refine J (gn 12)<|J (lenR 1)<|fun hl1=>bdE hr fun q1 hqq1 hr=>q0b hqq1 hl1 2 (fun k1 _=>[(0,.ref 1 none),(1,.fn 266 [.pb 0 0]),(7,dI (a0.length:Int)),(8,dI (k1:Int))]) (fun k1 _=>[]) I (fun k1 xk1 sk1 ok1 hxk1 hr hltk1 hik1=>?_) fun k1 sk1 ek1 hltk1=>?_
 refine bdE hr fun y1 hy1 hr=>J g<|J (CB' [(0,0)] [] (j6A (m2:=m2) hy1))<|J (gn 1)<|ifE hr ?_ ?_<;>intro h1 hr
 exact e
 exact e
 subst ek1
 exact e
theorem q8H {m2:Md}{a0:(List Oc)}{a1_0:Rule}{r:Bool}(hr:q4x a0 a1_0=some r):Ok Tryz.prog 201 [.ref 1 none,.fn 266 [.pb 0 0]] [.box [dS a1_0.Name,dS a1_0.Left,.d m2 (.sl 1 (a1_0.Right.map A.D.s)),dB a1_0.Literal,.d m2 (.sl 9 (a1_0.Equations.map Eqn.D)),.d m2 (.sl 16 (a1_0.Contributions.map Cn.D))],.row .fz 2 (a0.map Oc.D)] (dB r) [.box [dS a1_0.Name,dS a1_0.Left,.d m2 (.sl 1 (a1_0.Right.map A.D.s)),dB a1_0.Literal,.d m2 (.sl 9 (a1_0.Equations.map Eqn.D)),.d m2 (.sl 16 (a1_0.Contributions.map Cn.D))],.row .fz 2 (a0.map Oc.D)]:=by
 refine OE Tryz.func201 fun S hS=>?_
 unfold q4x at hr
 refine bdE hr fun y1 hy1 hr=>J g<|J (CB' [(0,0),(1,1)] [] (q9y (m2:=m2) hy1))<|e
theorem j9A {m:Md}{a0:Grammar}{a1:Rule}{r:Bool}(hr:z6d a0 a1=some r):Ok Tryz.prog 224 [Grammar.y m a0,Rule.x m a1] [] (dB r) []:=by
 refine OE Tryz.func224 fun S hS=>?_
 unfold z6d at hr
 refine J g<|J (BX' 0)<|J (BX' 1)<|bdE hr fun y1 hy1 hr=>J g<|J (CB' [(0,2)] [] (z8k (m:=m) hy1))<|bdE hr fun y2 hy2 hr=>J g<|J (CB' [(0,1),(1,2)] [] (q8H (m2:=m) hy2))<|e
theorem z0s {m:Md}{a0:(List Oc)}{a1:Oc}{r:Int}(hr:q3P a0 a1=some r):Ok Tryz.prog 188 [.d m (.sl 2 (a0.map Oc.D)),Oc.x .fz a1] [] (dI r) []:=by
 refine OE Tryz.func188 fun S hS=>?_
 unfold q3P at hr
 refine J g<|J (BX' 0)<|J (gn 10)<|J (lenT 0)<|fun hl1=>bdE hr fun q1 hqq1 hr=>q0b hqq1 hl1 1 (fun k1 _=>[(0,.d m (.sl 2 (a0.map Oc.D))),(3,.pb 0 0),(7,dI (a0.length:Int)),(8,dI (k1:Int))]) (fun k1 _=>[]) I (fun k1 xk1 sk1 ok1 hxk1 hr hltk1 hik1=>?_) fun k1 sk1 ek1 hltk1=>?_
 refine J g ?_
 refine J (SQ' rfl rfl rfl rfl (q6f a1 xk1))<|J (gn 1)<|ifE hr ?_ ?_<;>intro h1 hr
 exact e
 exact e
 subst ek1
 exact e
theorem q4S {m:Md}{a0:(List Oc)}{a1:Oc}{r:Bool}(hr:q3H a0 a1=some r):Ok Tryz.prog 200 [.d m (.sl 2 (a0.map Oc.D)),Oc.x .fz a1] [] (dB r) []:=by
 refine OE Tryz.func200 fun S hS=>?_
 unfold q3H at hr
 refine J g<|J (BX' 0)<|bdE hr fun y1 hy1 hr=>J g<|J (CB' [] [] (z0s (m:=m) hy1))<|e
theorem j9B {m:Md}{m2:Md}{a0:Eqn}{a1:Eqn}{r:Bool}(hr:z8L a0 a1=some r):Ok Tryz.prog 269 [Eqn.x m a0,.pb 0 0] [.box [dI a1.At.Pos,dS a1.At.Name,dI a1.Expr.Kind,dI a1.Expr.N,dI a1.Expr.Pos,dI a1.Expr.Type_,dS a1.Expr.Symbol,dS a1.Expr.Name,.d m2 (.sl 7 (a1.Expr.Args.map Expr.D))]] (dB r) [.box [dI a1.At.Pos,dS a1.At.Name,dI a1.Expr.Kind,dI a1.Expr.N,dI a1.Expr.Pos,dI a1.Expr.Type_,dS a1.Expr.Symbol,dS a1.Expr.Name,.d m2 (.sl 7 (a1.Expr.Args.map Expr.D))]]:=by
 refine OE Tryz.func269 fun S hS=>?_
 unfold z8L at hr
 refine J g<|J (BX' 1)<|J g ?_
 refine J (SQ' rfl rfl rfl rfl (q6f a0.At a1.At))<|J g<|E
theorem z0x {m:Md}{m2:Md}{a0:(List Eqn)}{a1_0:Eqn}{r:Int}(hr:q5f a0 a1_0=some r):Ok Tryz.prog 301 [.d m (.sl 9 (a0.map Eqn.D)),.fn 269 [.pb 0 0]] [.box [dI a1_0.At.Pos,dS a1_0.At.Name,dI a1_0.Expr.Kind,dI a1_0.Expr.N,dI a1_0.Expr.Pos,dI a1_0.Expr.Type_,dS a1_0.Expr.Symbol,dS a1_0.Expr.Name,.d m2 (.sl 7 (a1_0.Expr.Args.map Expr.D))]] (dI r) [.box [dI a1_0.At.Pos,dS a1_0.At.Name,dI a1_0.Expr.Kind,dI a1_0.Expr.N,dI a1_0.Expr.Pos,dI a1_0.Expr.Type_,dS a1_0.Expr.Symbol,dS a1_0.Expr.Name,.d m2 (.sl 7 (a1_0.Expr.Args.map Expr.D))]]:=by
 refine OE Tryz.func301 fun S hS=>?_
 unfold q5f at hr
 refine J (gn 12)<|J (lenT 0)<|fun hl1=>bdE hr fun q1 hqq1 hr=>q0b hqq1 hl1 1 (fun k1 _=>[(0,.d m (.sl 9 (a0.map Eqn.D))),(1,.fn 269 [.pb 0 0]),(7,dI (a0.length:Int)),(8,dI (k1:Int))]) (fun k1 _=>[]) I (fun k1 xk1 sk1 ok1 hxk1 hr hltk1 hik1=>?_) fun k1 sk1 ek1 hltk1=>?_
 refine bdE hr fun y1 hy1 hr=>J g<|J (CB' [(0,0)] [] (j9B (m:=m) (m2:=m2) hy1))<|J (gn 1)<|ifE hr ?_ ?_<;>intro h1 hr
 exact e
 exact e
 subst ek1
 exact e
theorem q9L {m:Md}{m2:Md}{a0:(List Eqn)}{a1_0:Eqn}{r:Bool}(hr:q4U a0 a1_0=some r):Ok Tryz.prog 267 [.d m (.sl 9 (a0.map Eqn.D)),.fn 269 [.pb 0 0]] [.box [dI a1_0.At.Pos,dS a1_0.At.Name,dI a1_0.Expr.Kind,dI a1_0.Expr.N,dI a1_0.Expr.Pos,dI a1_0.Expr.Type_,dS a1_0.Expr.Symbol,dS a1_0.Expr.Name,.d m2 (.sl 7 (a1_0.Expr.Args.map Expr.D))]] (dB r) [.box [dI a1_0.At.Pos,dS a1_0.At.Name,dI a1_0.Expr.Kind,dI a1_0.Expr.N,dI a1_0.Expr.Pos,dI a1_0.Expr.Type_,dS a1_0.Expr.Symbol,dS a1_0.Expr.Name,.d m2 (.sl 7 (a1_0.Expr.Args.map Expr.D))]]:=by
 refine OE Tryz.func267 fun S hS=>?_
 unfold q4U at hr
 refine bdE hr fun y1 hy1 hr=>J g<|J (CB' [(0,0)] [] (z0x (m:=m) (m2:=m2) hy1))<|e
theorem k3Q {m:Md}{a0:Grammar}{a1:Rule}{r:Bool}(hr:j0p a0 a1=some r):Ok Tryz.prog 225 [Grammar.y m a0,Rule.x m a1] [] (dB r) []:=by
 refine OE Tryz.func225 fun S hS=>?_
 unfold j0p at hr
 refine J g<|J (BX' 0)<|J (BX' 1)<|bdE hr fun y1 hy1 hr=>J g<|J (CB' [(0,2)] [] (z8k (m:=m) hy1))<|J (gn 11)<|J (lenA 4 1)<|fun hl1=>bdE hr fun q1 hqq1 hr=>q0b hqq1 hl1 3 (fun k1 _=>[(3,.pb 1 0),(5,.ref 2 none),(12,.d m (.sl 9 (a1.Equations.map Eqn.D))),(13,dI (a1.Equations.length:Int)),(14,dI (k1:Int))]) (fun k1 _=>[]) I (fun k1 xk1 sk1 ok1 hxk1 hr hltk1 hik1=>?_) fun k1 sk1 ek1 hltk1=>?_
 refine J g<|J (NV' 3)<|bdE hr fun y2 hy2 hr=>J g<|J (CB' [] [2] (q4S (m:=.bo) hy2))<|J (gn 1)<|ifE hr ?_ ?_<;>intro h1 hr
 refine ggE hr fun g1 hr=>J g<|J (SLH' (Int.natCast_nonneg _) g1)<|bdE hr fun y3 hy3 hr=>J g<|J (CB' [(0,3)] [] (q9L (m:=m) (m2:=m) hy3))<|J (gn 2)<|ifE hr ?_ ?_<;>intro h2 hr
 exact e
 exact e
 exact e
 subst ek1
 exact e
theorem z8l {m:Md}{a0:Rule}{r:(List Expr)}(hr:q9p a0=some r):Ok Tryz.prog 177 [Rule.x m a0] [] (.ref 0 none) [.row m 7 (r.map Expr.D)]:=by
 refine OE Tryz.func177 fun S hS=>?_
 unfold q9p at hr
 refine J g<|J (BX' 0)<|J g<|J (L0' 1 Expr.D)<|J (gn 11)<|J (lenA 4 0)<|fun hl1=>bdE hr fun s1 hqq1 hr=>?_
 refine q0c hqq1 hl1 2 (fun k1 s1=>[(1,.pb 0 0),(3,.ref 1 none),(10,.d m (.sl 9 (a0.Equations.map Eqn.D))),(11,dI (a0.Equations.length:Int)),(12,dI (k1:Int))]) (fun k1 s1=>[(1,.row m 7 (s1.map Expr.D))]) (GH.trans (q3w (r:=1) m rfl) I) (fun k1 xk1 sk1 ok1 hxk1 hr hltk1=>?_) fun k1 hltk1=>?_
 obtain⟨s1,rfl⟩:∃ y,y=sk1:=⟨_,rfl⟩
 refine J g<|J (NV' 2)<|J g ?_
 refine J (x0e 3 (m:=m) (f:=Expr.D) [xk1.Expr] (by simp only[List.map_cons,List.map_nil,Expr.D_eq];rfl))<|ggE hr fun g1 hr=>J (AP1' 4 m 88 g1)<|J g<|E
 refine J (gn 16)<|J (lenT 23)<|fun hl2=>bdE hr fun s2 hqq2 hr=>q0c hqq2 hl2 2 (fun k2 s2=>[(3,.ref 1 none),(23,.d m (.sl 16 (a0.Contributions.map Cn.D))),(24,dI (a0.Contributions.length:Int)),(25,dI (k2:Int))]) (fun k2 s2=>[(1,.row m 7 (s2.map Expr.D))]) I (fun k2 xk2 sk2 ok2 hxk2 hr hltk2=>?_) fun k2 hltk2=>?_
 obtain⟨s2,rfl⟩:∃ y,y=sk2:=⟨_,rfl⟩
 refine J g<|J (NV' 2)<|J g ?_
 refine J (x0e 3 (m:=m) (f:=Expr.D) [xk2.Target,xk2.Value] (by simp only[List.map_cons,List.map_nil,Expr.D_eq];rfl))<|ggE hr fun g2 hr=>J (APB' 4 m 88 g2)<|J g<|E
 exact e
theorem z9v {m:Md}{a0:Expr}{o0:(List Oc)}{r:(Bool×(List Oc))}(hr:q8b a0 o0=some r):Ok Tryz.prog 184 [Expr.x m a0,.pb 0 0] [.box [.ref 1 none],.row .fz 2 (o0.map Oc.D)] (dB r.1) [.box [.ref 2 none],.dead,.row .fz 2 (r.2.map Oc.D)]:=by
 refine OE Tryz.func184 fun S hS=>?_
 unfold q8b at hr
 refine J g<|J (BX' 2)<|J (gn 9)<|ifE hr ?_ ?_<;>intro h1 hr
 refine J g<|J (LIR' 3 (m:=.fz) (f:=Oc.D) (xs:=[(⟨a0.Pos,a0.Name⟩:Oc)]))<|ggE hr fun g1 hr=>J (z3b (f:=Oc.D) 4 (fun _=>rfl) 24 g1)<|e
 refine J (gn 7) ?_
 refine J (q0g (q0G (i:=1) (j:=3) rfl rfl))<|J g<|E
theorem z1Z {rec_ieveryNode_iAttributeUses_1:Expr→(List Oc)→Option (Bool×(List Oc))}(ih_ieveryNode_iAttributeUses_1:∀ {m:Md} {a0:Expr} {o0:(List Oc)} {r:(Bool×(List Oc))},rec_ieveryNode_iAttributeUses_1 a0 o0=some r→Ok Tryz.prog 183 [Expr.x m a0,.fn 184 [.pb 0 0]] [.box [.ref 1 none],.row .fz 2 (o0.map Oc.D)] (dB r.1) [.box [.ref 2 none],.dead,.row .fz 2 (r.2.map Oc.D)]){m:Md}{a0:Expr}{o0:(List Oc)}{r:(Bool×(List Oc))}(hr:q5J rec_ieveryNode_iAttributeUses_1 a0 o0=some r):Ok Tryz.prog 236 [Expr.x m a0,.pb 1 0] [.box [.ref 2 none],.box [.fn 184 [.pb 0 0]],.row .fz 2 (o0.map Oc.D)] (dB r.1) [.box [.ref 3 none],.box [.fn 184 [.pb 0 0]],.dead,.row .fz 2 (r.2.map Oc.D)]:=by
 refine OE Tryz.func236 fun S hS=>?_
 unfold q5J at hr
 refine J g<|J (BX' 3)<|bdP hr fun y1 z1 hq1 hr=>J g<|J (CB' [(0,0),(1,2),(2,4)] [] (ih_ieveryNode_iAttributeUses_1 (m:=m) hq1))<|e
theorem q7e {rec_ieveryNode_iAttributeUses_1:Expr→(List Oc)→Option (Bool×(List Oc))}(ih_ieveryNode_iAttributeUses_1:∀ {m:Md} {a0:Expr} {o0:(List Oc)} {r:(Bool×(List Oc))},rec_ieveryNode_iAttributeUses_1 a0 o0=some r→Ok Tryz.prog 183 [Expr.x m a0,.fn 184 [.pb 0 0]] [.box [.ref 1 none],.row .fz 2 (o0.map Oc.D)] (dB r.1) [.box [.ref 2 none],.dead,.row .fz 2 (r.2.map Oc.D)]){m:Md}{a0:(List Expr)}{o0:(List Oc)}{r:(Int×(List Oc))}(hr:q3T rec_ieveryNode_iAttributeUses_1 a0 o0=some r):Ok Tryz.prog 233 [.d m (.sl 7 (a0.map Expr.D)),.fn 236 [.pb 1 0]] [.box [.ref 2 none],.box [.fn 184 [.pb 0 0]],.row .fz 2 (o0.map Oc.D)] (dI r.1) [.box [.ref 3 none],.box [.fn 184 [.pb 0 0]],.dead,.row .fz 2 (r.2.map Oc.D)]:=by
 refine OE Tryz.func233 fun S hS=>?_
 unfold q3T at hr
 refine J (gn 12) ?_
 refine J (q0Z 2 3 rfl)<|J (lenT 0)<|fun hl1=>bdE hr fun q1 hqq1 hr=>q0b hqq1 hl1 4 (fun k1 s1=>[(0,.d m (.sl 7 (a0.map Expr.D))),(1,.fn 236 [.pb 1 0]),(7,dI (a0.length:Int)),(8,dI (k1:Int))]) (fun k1 s1=>[(3,.row .fz 2 (s1.map Oc.D))]) I (fun k1 xk1 sk1 ok1 hxk1 hr hltk1 hik1=>?_) fun k1 sk1 ek1 hltk1=>?_
 obtain⟨s1,rfl⟩:∃ y,y=sk1:=⟨_,rfl⟩
 refine bdP hr fun y1 z1 hq2 hr=>J g<|J (CB' [(0,0),(1,1),(2,3),(3,4)] [] (z1Z ih_ieveryNode_iAttributeUses_1 (m:=m) hq2))<|J (gn 1)<|ifE hr ?_ ?_<;>intro h1 hr
 exact e
 exact e
 subst ek1
 obtain⟨s1,rfl⟩:∃ y,y=sk1:=⟨_,rfl⟩
 exact e
theorem q6I {rec_ieveryNode_iAttributeUses_1:Expr→(List Oc)→Option (Bool×(List Oc))}(ih_ieveryNode_iAttributeUses_1:∀ {m:Md} {a0:Expr} {o0:(List Oc)} {r:(Bool×(List Oc))},rec_ieveryNode_iAttributeUses_1 a0 o0=some r→Ok Tryz.prog 183 [Expr.x m a0,.fn 184 [.pb 0 0]] [.box [.ref 1 none],.row .fz 2 (o0.map Oc.D)] (dB r.1) [.box [.ref 2 none],.dead,.row .fz 2 (r.2.map Oc.D)]){m:Md}{a0:(List Expr)}{o0:(List Oc)}{r:(Bool×(List Oc))}(hr:q3N rec_ieveryNode_iAttributeUses_1 a0 o0=some r):Ok Tryz.prog 176 [.d m (.sl 7 (a0.map Expr.D)),.fn 236 [.pb 1 0]] [.box [.ref 2 none],.box [.fn 184 [.pb 0 0]],.row .fz 2 (o0.map Oc.D)] (dB r.1) [.box [.ref 3 none],.box [.fn 184 [.pb 0 0]],.dead,.row .fz 2 (r.2.map Oc.D)]:=by
 refine OE Tryz.func176 fun S hS=>?_
 unfold q3N at hr
 refine bdP hr fun y1 z1 hq1 hr=>J g<|J (CB' [(0,0),(1,1),(2,2),(3,3)] [] (q7e ih_ieveryNode_iAttributeUses_1 (m:=m) hq1))<|e
theorem z2u {rec_ieveryNode_iAttributeUses_1:Expr→(List Oc)→Option (Bool×(List Oc))}(ih_ieveryNode_iAttributeUses_1:∀ {m:Md} {a0:Expr} {o0:(List Oc)} {r:(Bool×(List Oc))},rec_ieveryNode_iAttributeUses_1 a0 o0=some r→Ok Tryz.prog 183 [Expr.x m a0,.fn 184 [.pb 0 0]] [.box [.ref 1 none],.row .fz 2 (o0.map Oc.D)] (dB r.1) [.box [.ref 2 none],.dead,.row .fz 2 (r.2.map Oc.D)]){m:Md}{a0:Expr}{o0:(List Oc)}{r:(Bool×(List Oc))}(hr:q5k rec_ieveryNode_iAttributeUses_1 a0 o0=some r):Ok Tryz.prog 183 [Expr.x m a0,.fn 184 [.pb 0 0]] [.box [.ref 1 none],.row .fz 2 (o0.map Oc.D)] (dB r.1) [.box [.ref 2 none],.dead,.row .fz 2 (r.2.map Oc.D)]:=by
 refine OE Tryz.func183 fun S hS=>?_
 unfold q5k at hr
 refine J g<|J (BX' 2)<|J (BX' 3)<|bdP hr fun y1 z1 hq1 hr=>J g<|J (CB' [(0,0),(1,1),(2,4)] [] (z9v (m:=m) hq1))<|ifE hr ?_ ?_<;>intro h1 hr
 refine bdP hr fun y2 z2 hq2 hr=>J g<|J (CB' [(0,0),(1,3),(2,4),(3,5)] [] (q6I ih_ieveryNode_iAttributeUses_1 (m:=m) hq2))<|e
 exact e
theorem z2v (n:Nat):∀ {m:Md} {a0:Expr} {o0:(List Oc)} {r:(Bool×(List Oc))},q4R n a0 o0=some r→Ok Tryz.prog 183 [Expr.x m a0,.fn 184 [.pb 0 0]] [.box [.ref 1 none],.row .fz 2 (o0.map Oc.D)] (dB r.1) [.box [.ref 2 none],.dead,.row .fz 2 (r.2.map Oc.D)]:=by
  induction n with
  | zero=>intro _ _ _ r hr;exact nomatch (show (none:Option (Bool×(List Oc)))=some r from hr)
  | succ n ih=>intro _ _ _ r hr;exact z2u ih hr
theorem z3v {m:Md}{a0:Expr}{o0:(List Oc)}{r:(Bool×(List Oc))}(hr:q6S a0 o0=some r):Ok Tryz.prog 183 [Expr.x m a0,.fn 184 [.pb 0 0]] [.box [.ref 1 none],.row .fz 2 (o0.map Oc.D)] (dB r.1) [.box [.ref 2 none],.dead,.row .fz 2 (r.2.map Oc.D)]:=by
 obtain⟨n,hn⟩:=q5Z hr
 exact z2v n hn
theorem z3B {a0:(List Oc)}{r:(List Oc)}(hr:q6e a0=some r):Ok Tryz.prog 185 [.ref 0 none,.fn 186 []] [.row .fz 2 (a0.map Oc.D)] (.tu []) [.row .fz 2 (r.map Oc.D)]:=by
 unfold q6e at hr
 refine ggE hr fun g1 hr=>?_
 cases hr
 exact k6k g1
theorem z3R {a0:(List Oc)}{r:(List Oc)}(hr:q5C a0=some r):Ok Tryz.prog 187 [.ref 0 none] [.row .fz 2 (a0.map Oc.D)] (.ref 1 none) [.dead,.row .fz 2 (r.map Oc.D)]:=by
 refine OE Tryz.func187 fun S hS=>?_
 unfold q5C at hr
 refine J (gn 11)<|ifE hr ?_ ?_<;>intro h1 hr
 refine J (gn 7) ?_
 refine J (q0g (q0G (i:=0) (j:=1) rfl rfl))<|J g<|E
 refine bdE hr fun q1 hqq1 hr=>J (gn 7)<|AW.cut 1 (fun _=>[(0,.ref 0 none)]) (fun _=>[]) (M:=fun x=>q1=.inl x) ?_ fun x hx=>?_
 refine J g<|q0h hqq1 1 (fun s1=>[(0,.ref 0 none),(3,dI s1)]) (fun s1=>[]) I fun sk1 ok1 hr hik1=>?_
 obtain⟨s1,rfl⟩:∃ y,y=sk1:=⟨_,rfl⟩
 have hr:=hr
 refine J (gn 8)<|ifE hr ?_ ?_<;>intro h2 hr
 refine ggE hr fun g1 hr=>bdE hr fun x1 hx1 hr=>ggE hr fun g2 hr=>ggE hr fun g3 hr=>bdE hr fun x2 hx2 hr=>J g ?_
 refine J (SQ' rfl rfl rfl rfl (q6f x1 x2))<|J (gn 1)<|ifE hr ?_ ?_<;>intro h3 hr
 refine ggE hr fun g4 hr=>ggE hr fun g5 hr=>J g<|J (SVL' g4 g5)<|bdP hr fun s2 s3 hqq2 hr=>J (gn 7)<|q0e 1 [(0,.ref 0 none),(3,dI s3)] [(0,.row .fz 2 (s2.map Oc.D))] ?_ ?_
 refine J g ?_
 refine q0h hqq2 1 (fun (s4,s5,s6)=>[(0,.ref 0 none),(3,dI s5),(4,.vs 0 none s1.toNat (s4.length-s1.toNat)),(5,dI s6)]) (fun (s4,s5,s6)=>[(0,.row .fz 2 (s4.map Oc.D))]) (GH.ren hS [(0,0)] 1 ⟨.rfl,.rfl,(.vn (by first|rfl|simp only[List.length_set])),.rfl,trivial⟩) fun sk2 ok2 hr hik2=>?_
 obtain⟨s4,s5,s6⟩:=sk2
 have hr:=hr
 refine J g<|J (LV' (s4.drop s1.toNat).length)<|J (gn 2)<|ifE hr ?_ ?_<;>intro h4 hr
 refine bdP hr fun s7 s8 hqq3 hr=>J (gn 3)<|q0e 1 [(0,.ref 0 none),(3,dI s7),(4,.vs 0 none s1.toNat (s8.length-s1.toNat)),(5,dI s6)] [(0,.row .fz 2 (s8.map Oc.D))] ?_ ?_
 replace hr:=hqq3
 refine ggE hr fun g6 hr=>bdE hr fun x3 hx3 hr=>J g<|J (IV' hx3 g6 (j0Z hx3))<|ggE hr fun g7 hr=>ggE hr fun g8 hr=>bdE hr fun x4 hx4 hr=>J g<|J (IV' hx4 g8 (j0Z hx4))<|J g ?_
 refine J (SQn' rfl rfl rfl rfl (q6f x3 x4))<|J (gn 1)<|ifE hr ?_ ?_<;>intro h5 hr
 refine J (gn 2) ?_
 cases hr
 exact GH.ren hS [(0,0)] 1 ⟨.rfl,.rfl,(.vn (by first|rfl|simp only[List.length_set])),.rfl,trivial⟩
 refine ggE hr fun g9 hr=>J g<|J (IV' hx3 g9 (j0Z hx3))<|ggE hr fun g10 hr=>bdE hr fun x5 hx5 hr=>J g<|J (SE' x3 hx5)<|ggE hr fun g11 hr=>J (gn 6) ?_
 cases hr
 exact GH.ren hS [(0,0)] 1 ⟨.rfl,.rfl,(.vn (by first|rfl|simp only[List.length_set])),.rfl,trivial⟩
 refine ggE hr fun g12 hr=>J (gn 5) ?_
 cases hr
 exact⟨_,rfl,GH.ren hS [(0,0)] 1 ⟨.rfl,.rfl,(.vn (by first|rfl|simp only[List.length_set])),.rfl,trivial⟩⟩
 refine J (gn 2) ?_
 cases hr
 cases hik2 _ rfl
 exact q0d hS 1
 refine ggE hr fun g13 hr=>ggE hr fun g14 hr=>J g<|J (SVL' g13 g14)<|J (CLR' (⟨(0:Int),(⟨#[]⟩:ByteArray)⟩:Oc) g14)<|ggE hr fun g15 hr=>ggE hr fun g16 hr=>J g<|J (CU' 1 g15 g16)<|e
 refine ggE hr fun g17 hr=>e
 refine J (gn 2) ?_
 cases hr
 cases hik1 _ rfl
 exact⟨_,rfl,q0d hS 1⟩
 subst hx
 refine J (gn 6) ?_
 refine J (q0g (q0G (i:=0) (j:=1) rfl rfl))<|J g<|E
theorem z2w {m:Md}{a0:Expr}{r:(List Oc)}(hr:q6T a0=some r):Ok Tryz.prog 126 [Expr.x m a0] [] (.ref 0 none) [.row .fz 2 (r.map Oc.D)]:=by
 refine OE Tryz.func126 fun S hS=>?_
 unfold q6T at hr
 refine J g<|J (BX' 0)<|J g<|J (L0' 1 Oc.D)<|J (NV' 2)<|bdP hr fun y1 z1 hq1 hr=>J g<|J (CB' [(0,2),(1,1),(2,3)] [] (z3v (m:=m) hq1))<|bdE hr fun z2 hz2 hr=>J g<|J (CB' [(0,3)] [] (z3B hz2))<|bdE hr fun y2 hy2 hr=>J g<|J (CB' [(0,3),(1,4)] [] (z3R hy2))<|e
theorem z2x {m:Md}{a0:Symbol}{a1:ByteArray}{r:(At_×Bool)}(hr:q6U a0 a1=some r):Ok Tryz.prog 229 [Symbol.x m a0,dS a1] [] (.tu [At_.x .fz r.1,dB r.2]) []:=by
 refine OE Tryz.func229 fun S hS=>?_
 unfold q6U at hr
 refine J g<|J (BX' 0)<|J (NV' 1)<|J (gn 11)<|J (lenA 1 0)<|fun hl1=>bdE hr fun q1 hqq1 hr=>q0b hqq1 hl1 2 (fun k1 _=>[(1,dS a1),(4,.pb 1 0),(9,.d m (.sl 4 (a0.Attributes.map At_.D))),(10,dI (a0.Attributes.length:Int)),(11,dI (k1:Int))]) (fun k1 _=>[]) I (fun k1 xk1 sk1 ok1 hxk1 hr hltk1 hik1=>?_) fun k1 sk1 ek1 hltk1=>?_
 refine J g<|J (NV' 2)<|J (gn 9)<|ifE hr ?_ ?_<;>intro h1 hr
 exact e
 exact e
 subst ek1
 exact e
theorem z4O {m:Md}{a0:Grammar}{a1:Rule}{a2:Oc}{r:(At_×Bool)}(hr:q8h a0 a1 a2=some r):Ok Tryz.prog 227 [Grammar.y m a0,Rule.x m a1,Oc.x .fz a2] [] (.tu [At_.x .fz r.1,dB r.2]) []:=by
 refine OE Tryz.func227 fun S hS=>?_
 unfold q8h at hr
 refine J g<|J (BX' 0)<|J (BX' 1)<|J (BX' 2)<|J (NV' 3)<|bdE hr fun y1 hy1 hr=>J g<|J (CB' [] [] (q4v hy1))<|J (gn 2)<|ifE hr ?_ ?_<;>intro h1 hr
 refine bdE hr fun y2 hy2 hr=>J g<|J (CB' [] [] (q9Z (m:=m) hy2))<|bdP hr fun y3 y4 hq1 hr=>J (CB' [] [] (q9s (m:=m) hq1))<|J g<|J (NV' 4)<|bdP hr fun y5 y6 hq2 hr=>J g<|J (CB' [] [] (z2x (m:=m) hq2))<|e
 exact e
theorem k2n {m:Md}{a0:Grammar}{a1:Rule}{a2:Oc}{r:Bool}(hr:z8b a0 a1 a2=some r):Ok Tryz.prog 272 [Grammar.y m a0,Rule.x m a1,Oc.x .fz a2] [] (dB r) []:=by
 refine OE Tryz.func272 fun S hS=>?_
 unfold z8b at hr
 refine J g<|J (BX' 0)<|J (BX' 1)<|J (BX' 2)<|bdP hr fun y1 y2 hq1 hr=>J g<|J (CB' [] [] (z4O (m:=m) hq1))<|J g<|J (NV' 3)<|J (gn 10)<|ifE hr ?_ ?_<;>intro h1 hr
 refine bdE hr fun s1 hqq2 hr=>J (gn 4)<|q0a 5 [(6,dB false),(24,dB s1)] ?_ ?_
 replace hr:=hqq2
 refine ifE hr ?_ ?_<;>intro h2 hr
 exact e
 exact e
 exact e
 refine bdE hr fun s2 hqq3 hr=>J (gn 5)<|q0a 5 [(6,dB false),(30,dB s2)] ?_ ?_
 replace hr:=hqq3
 refine ifE hr ?_ ?_<;>intro h3 hr
 exact e
 exact e
 exact e
theorem j3M {m2:Md}{a0:Oc}{a1:Grammar}{a2:Rule}{r:Bool}(hr:z2R a0 a1 a2=some r):Ok Tryz.prog 271 [Oc.x .fz a0,.pb 0 0,.pb 1 0] [.box [.d m2 (.sl 2 (a1.Symbols.map Symbol.D)),.d m2 (.sl 6 (a1.Rules.map Rule.D))],.box [dS a2.Name,dS a2.Left,.d m2 (.sl 1 (a2.Right.map A.D.s)),dB a2.Literal,.d m2 (.sl 9 (a2.Equations.map Eqn.D)),.d m2 (.sl 16 (a2.Contributions.map Cn.D))]] (dB r) [.box [.d m2 (.sl 2 (a1.Symbols.map Symbol.D)),.d m2 (.sl 6 (a1.Rules.map Rule.D))],.box [dS a2.Name,dS a2.Left,.d m2 (.sl 1 (a2.Right.map A.D.s)),dB a2.Literal,.d m2 (.sl 9 (a2.Equations.map Eqn.D)),.d m2 (.sl 16 (a2.Contributions.map Cn.D))]]:=by
 refine OE Tryz.func271 fun S hS=>?_
 unfold z2R at hr
 refine J g<|J (BX' 2)<|bdE hr fun y1 hy1 hr=>J g<|J (CB' [] [] (k2n (m:=m2) hy1))<|e
theorem q8X {m2:Md}{a0:(List Oc)}{a1_0:Grammar}{a1_1:Rule}{r:Int}(hr:q4D a0 a1_0 a1_1=some r):Ok Tryz.prog 244 [.ref 2 none,.fn 271 [.pb 0 0,.pb 1 0]] [.box [.d m2 (.sl 2 (a1_0.Symbols.map Symbol.D)),.d m2 (.sl 6 (a1_0.Rules.map Rule.D))],.box [dS a1_1.Name,dS a1_1.Left,.d m2 (.sl 1 (a1_1.Right.map A.D.s)),dB a1_1.Literal,.d m2 (.sl 9 (a1_1.Equations.map Eqn.D)),.d m2 (.sl 16 (a1_1.Contributions.map Cn.D))],.row .fz 2 (a0.map Oc.D)] (dI r) [.box [.d m2 (.sl 2 (a1_0.Symbols.map Symbol.D)),.d m2 (.sl 6 (a1_0.Rules.map Rule.D))],.box [dS a1_1.Name,dS a1_1.Left,.d m2 (.sl 1 (a1_1.Right.map A.D.s)),dB a1_1.Literal,.d m2 (.sl 9 (a1_1.Equations.map Eqn.D)),.d m2 (.sl 16 (a1_1.Contributions.map Cn.D))],.row .fz 2 (a0.map Oc.D)]:=by
 refine OE Tryz.func244 fun S hS=>?_
 unfold q4D at hr
 refine J (gn 12)<|J (lenR 2)<|fun hl1=>bdE hr fun q1 hqq1 hr=>q0b hqq1 hl1 3 (fun k1 _=>[(0,.ref 2 none),(1,.fn 271 [.pb 0 0,.pb 1 0]),(7,dI (a0.length:Int)),(8,dI (k1:Int))]) (fun k1 _=>[]) I (fun k1 xk1 sk1 ok1 hxk1 hr hltk1 hik1=>?_) fun k1 sk1 ek1 hltk1=>?_
 refine bdE hr fun y1 hy1 hr=>J g<|J (CB' [(0,0),(1,1)] [] (j3M (m2:=m2) hy1))<|J (gn 1)<|ifE hr ?_ ?_<;>intro h1 hr
 exact e
 exact e
 subst ek1
 exact e
theorem q8n {m2:Md}{a0:(List Oc)}{a1_0:Grammar}{a1_1:Rule}{r:Bool}(hr:q4p a0 a1_0 a1_1=some r):Ok Tryz.prog 201 [.ref 2 none,.fn 271 [.pb 0 0,.pb 1 0]] [.box [.d m2 (.sl 2 (a1_0.Symbols.map Symbol.D)),.d m2 (.sl 6 (a1_0.Rules.map Rule.D))],.box [dS a1_1.Name,dS a1_1.Left,.d m2 (.sl 1 (a1_1.Right.map A.D.s)),dB a1_1.Literal,.d m2 (.sl 9 (a1_1.Equations.map Eqn.D)),.d m2 (.sl 16 (a1_1.Contributions.map Cn.D))],.row .fz 2 (a0.map Oc.D)] (dB r) [.box [.d m2 (.sl 2 (a1_0.Symbols.map Symbol.D)),.d m2 (.sl 6 (a1_0.Rules.map Rule.D))],.box [dS a1_1.Name,dS a1_1.Left,.d m2 (.sl 1 (a1_1.Right.map A.D.s)),dB a1_1.Literal,.d m2 (.sl 9 (a1_1.Equations.map Eqn.D)),.d m2 (.sl 16 (a1_1.Contributions.map Cn.D))],.row .fz 2 (a0.map Oc.D)]:=by
 refine OE Tryz.func201 fun S hS=>?_
 unfold q4p at hr
 refine bdE hr fun y1 hy1 hr=>J g<|J (CB' [(0,0),(1,1),(2,2)] [] (q8X (m2:=m2) hy1))<|e
theorem j6B {m:Md}{m2:Md}{a0:Expr}{a1:Grammar}{a2:Rule}{r:Bool}(hr:z3g a0 a1 a2=some r):Ok Tryz.prog 270 [Expr.x m a0,.pb 0 0,.pb 1 0] [.box [.d m2 (.sl 2 (a1.Symbols.map Symbol.D)),.d m2 (.sl 6 (a1.Rules.map Rule.D))],.box [dS a2.Name,dS a2.Left,.d m2 (.sl 1 (a2.Right.map A.D.s)),dB a2.Literal,.d m2 (.sl 9 (a2.Equations.map Eqn.D)),.d m2 (.sl 16 (a2.Contributions.map Cn.D))]] (dB r) [.box [.d m2 (.sl 2 (a1.Symbols.map Symbol.D)),.d m2 (.sl 6 (a1.Rules.map Rule.D))],.box [dS a2.Name,dS a2.Left,.d m2 (.sl 1 (a2.Right.map A.D.s)),dB a2.Literal,.d m2 (.sl 9 (a2.Equations.map Eqn.D)),.d m2 (.sl 16 (a2.Contributions.map Cn.D))]]:=by
 refine OE Tryz.func270 fun S hS=>?_
 unfold z3g at hr
 refine J g<|J (BX' 2)<|bdE hr fun y1 hy1 hr=>J g<|J (CB' [(0,3)] [] (z2w (m:=m) hy1))<|bdE hr fun y2 hy2 hr=>J g<|J (CB' [(0,0),(1,1),(2,3)] [] (q8n (m2:=m2) hy2))<|e
theorem z0Z {m2:Md}{a0:(List Expr)}{a1_0:Grammar}{a1_1:Rule}{r:Int}(hr:q5o a0 a1_0 a1_1=some r):Ok Tryz.prog 233 [.ref 2 none,.fn 270 [.pb 0 0,.pb 1 0]] [.box [.d m2 (.sl 2 (a1_0.Symbols.map Symbol.D)),.d m2 (.sl 6 (a1_0.Rules.map Rule.D))],.box [dS a1_1.Name,dS a1_1.Left,.d m2 (.sl 1 (a1_1.Right.map A.D.s)),dB a1_1.Literal,.d m2 (.sl 9 (a1_1.Equations.map Eqn.D)),.d m2 (.sl 16 (a1_1.Contributions.map Cn.D))],.row m2 7 (a0.map Expr.D)] (dI r) [.box [.d m2 (.sl 2 (a1_0.Symbols.map Symbol.D)),.d m2 (.sl 6 (a1_0.Rules.map Rule.D))],.box [dS a1_1.Name,dS a1_1.Left,.d m2 (.sl 1 (a1_1.Right.map A.D.s)),dB a1_1.Literal,.d m2 (.sl 9 (a1_1.Equations.map Eqn.D)),.d m2 (.sl 16 (a1_1.Contributions.map Cn.D))],.row m2 7 (a0.map Expr.D)]:=by
 refine OE Tryz.func233 fun S hS=>?_
 unfold q5o at hr
 refine J (gn 12)<|J (lenR 2)<|fun hl1=>bdE hr fun q1 hqq1 hr=>q0b hqq1 hl1 3 (fun k1 _=>[(0,.ref 2 none),(1,.fn 270 [.pb 0 0,.pb 1 0]),(7,dI (a0.length:Int)),(8,dI (k1:Int))]) (fun k1 _=>[]) I (fun k1 xk1 sk1 ok1 hxk1 hr hltk1 hik1=>?_) fun k1 sk1 ek1 hltk1=>?_
 refine J g<|J (x0G hxk1 (Expr.D_cells xk1))<|bdE hr fun y1 hy1 hr=>J (CB' [(0,0),(1,1)] [] (j6B (m:=m2) (m2:=m2) hy1))<|J (gn 1)<|ifE hr ?_ ?_<;>intro h1 hr
 exact e
 exact e
 subst ek1
 exact e
theorem z0p {m2:Md}{a0:(List Expr)}{a1_0:Grammar}{a1_1:Rule}{r:Bool}(hr:q5c a0 a1_0 a1_1=some r):Ok Tryz.prog 176 [.ref 2 none,.fn 270 [.pb 0 0,.pb 1 0]] [.box [.d m2 (.sl 2 (a1_0.Symbols.map Symbol.D)),.d m2 (.sl 6 (a1_0.Rules.map Rule.D))],.box [dS a1_1.Name,dS a1_1.Left,.d m2 (.sl 1 (a1_1.Right.map A.D.s)),dB a1_1.Literal,.d m2 (.sl 9 (a1_1.Equations.map Eqn.D)),.d m2 (.sl 16 (a1_1.Contributions.map Cn.D))],.row m2 7 (a0.map Expr.D)] (dB r) [.box [.d m2 (.sl 2 (a1_0.Symbols.map Symbol.D)),.d m2 (.sl 6 (a1_0.Rules.map Rule.D))],.box [dS a1_1.Name,dS a1_1.Left,.d m2 (.sl 1 (a1_1.Right.map A.D.s)),dB a1_1.Literal,.d m2 (.sl 9 (a1_1.Equations.map Eqn.D)),.d m2 (.sl 16 (a1_1.Contributions.map Cn.D))],.row m2 7 (a0.map Expr.D)]:=by
 refine OE Tryz.func176 fun S hS=>?_
 unfold q5c at hr
 refine bdE hr fun y1 hy1 hr=>J g<|J (CB' [(0,0),(1,1),(2,2)] [] (z0Z (m2:=m2) hy1))<|e
theorem j9C {m:Md}{a0:Grammar}{a1:Rule}{r:Bool}(hr:z6e a0 a1=some r):Ok Tryz.prog 226 [Grammar.x m a0,Rule.x m a1] [] (dB r) []:=by
 refine OE Tryz.func226 fun S hS=>?_
 unfold z6e at hr
 refine J g<|J (BX' 0)<|J (BX' 1)<|bdE hr fun y1 hy1 hr=>J g<|J (CB' [(0,2)] [] (z8l (m:=m) hy1))<|bdE hr fun y2 hy2 hr=>J g<|J (CB' [(0,0),(1,1),(2,2)] [] (z0p (m2:=m) hy2))<|e
theorem j4Z {m:Md}{a0:Grammar}{r:(Int×Int)}(hr:z1N a0=some r):Ok Tryz.prog 167 [Grammar.x m a0] [] (.tu [dI r.1,dI r.2]) []:=by
 refine OE Tryz.func167 fun S hS=>?_
 unfold z1N at hr
 refine J g<|J (BX' 0)<|bdE hr fun y1 hy1 hr=>J g<|J (CB' [] [] (q4v hy1))<|J (gn 1)<|ifE hr ?_ ?_<;>intro h1 hr
 refine bdE hr fun y2 hy2 hr=>J g<|J (CB' [] [] (q4v hy2))<|J (gn 3)<|ifE hr ?_ ?_<;>intro h2 hr
 refine bdE hr fun y3 hy3 hr=>J g<|J (CB' [] [] (j4Y (m:=m) hy3))<|J (gn 7)<|ifE hr ?_ ?_<;>intro h3 hr
 exact e
 refine bdE hr fun x1 hx1 hr=>bdE hr fun y4 hy4 hr=>J g<|J (CB' [] [] (q8m (m:=m) hy4))<|J (gn 1)<|ifE hr ?_ ?_<;>intro h4 hr
 exact e
 refine bdE hr fun q1 hqq1 hr=>J (gn 7)<|AW.cut 1 (fun _=>[]) (fun _=>[]) (M:=fun x=>q1=.inl x) ?_ fun x hx=>?_
 refine J g<|q0h hqq1 1 (fun s1=>[(1,.pb 0 0),(5,dI s1)]) (fun s1=>[]) I fun sk1 ok1 hr hik1=>?_
 obtain⟨s1,rfl⟩:∃ y,y=sk1:=⟨_,rfl⟩
 have hr:=hr
 refine J (gn 6)<|ifE hr ?_ ?_<;>intro h5 hr
 refine J (gn 12)<|J (lenT 37)<|fun hl2=>bdE hr fun q2 hqq2 hr=>q0b hqq2 hl2 1 (fun k2 _=>[(1,.pb 0 0),(5,dI s1),(37,.d m (.sl 6 (a0.Rules.map Rule.D))),(38,dI (a0.Rules.length:Int)),(39,dI (k2:Int))]) (fun k2 _=>[]) I (fun k2 xk2 sk2 ok2 hxk2 hr hltk2 hik2=>?_) fun k2 sk2 ek2 hltk2=>?_
 refine J g<|J (NV' 1)<|J (gn 18)<|ifE hr ?_ ?_<;>intro h6 hr
 refine bdE hr fun y5 hy5 hr=>J g<|J (CB' [] [] (j9z (m:=m) hy5))<|J (gn 6)<|ifE hr ?_ ?_<;>intro h7 hr
 exact e
 exact e
 refine J (gn 6)<|ifE hr ?_ ?_<;>intro h8 hr
 refine bdE hr fun y6 hy6 hr=>J g<|J (CB' [] [] (j9A (m:=m) hy6))<|J (gn 6)<|ifE hr ?_ ?_<;>intro h9 hr
 exact e
 exact e
 refine J (gn 6)<|ifE hr ?_ ?_<;>intro h10 hr
 refine bdE hr fun y7 hy7 hr=>J g<|J (CB' [] [] (k3Q (m:=m) hy7))<|J (gn 6)<|ifE hr ?_ ?_<;>intro h11 hr
 exact e
 exact e
 refine bdE hr fun y8 hy8 hr=>J g<|J (CB' [] [] (j9C (m:=m) hy8))<|J (gn 6)<|ifE hr ?_ ?_<;>intro h12 hr
 exact e
 exact e
 subst ek2
 refine ggE hr fun g1 hr=>e
 refine J (gn 2) ?_
 cases hr
 cases hik1 _ rfl
 exact⟨_,rfl,q0d hS 1⟩
 subst hx
 exact e
 exact e
 exact e
theorem j2n {a0:Int}{r:(Int×Int×Int)}(hr:q9U a0=some r):Ok Tryz.prog 273 [dI a0] [] (.tu [dI r.1,dI r.2.1,dI r.2.2]) []:=by
 refine OE Tryz.func273 fun S hS=>?_
 unfold q9U at hr
 refine bdE hr fun s1 hqq1 hr=>J (gn 18)<|q0e 0 [(5,dI a0),(6,dB s1)] [] ?_ ?_
 replace hr:=hqq1
 refine ifE hr ?_ ?_<;>intro h1 hr
 exact e
 refine J (gn 6)<|ifE hr ?_ ?_<;>intro h2 hr
 exact e
 refine J (gn 6)<|ifE hr ?_ ?_<;>intro h3 hr
 exact e
 refine J (gn 6)<|ifE hr ?_ ?_<;>intro h4 hr
 exact e
 exact e
 refine ifE hr ?_ ?_<;>intro h5 hr
 exact e
 refine bdE hr fun s2 hqq2 hr=>J (gn 7)<|q0e 0 [(5,dI a0),(12,dB s2)] [] ?_ ?_
 replace hr:=hqq2
 refine ifE hr ?_ ?_<;>intro h6 hr
 exact e
 refine J (gn 6)<|ifE hr ?_ ?_<;>intro h7 hr
 exact e
 exact e
 refine ifE hr ?_ ?_<;>intro h8 hr
 exact e
 refine J (gn 7)<|ifE hr ?_ ?_<;>intro h9 hr
 refine J (gn 2)<|ifE hr ?_ ?_<;>intro h10 hr
 exact e
 refine J (gn 6)<|ifE hr ?_ ?_<;>intro h11 hr
 exact e
 refine J (gn 6)<|ifE hr ?_ ?_<;>intro h12 hr
 exact e
 exact e
 refine J (gn 5)<|ifE hr ?_ ?_<;>intro h13 hr
 exact e
 refine J (gn 6)<|ifE hr ?_ ?_<;>intro h14 hr
 exact e
 refine J (gn 6)<|ifE hr ?_ ?_<;>intro h15 hr
 exact e
 exact e
theorem j3N {rec_iTypeOfExpr:Grammar→Rule→Expr→Option Int}(ih_iTypeOfExpr:∀ {m:Md} {a0:Grammar} {a1:Rule} {a2:Expr} {r:Int},rec_iTypeOfExpr a0 a1 a2=some r→Ok Tryz.prog 228 [Grammar.y m a0,Rule.x m a1,Expr.x m a2] [] (dI r) []){m:Md}{a0:Grammar}{a1:Rule}{a2:Expr}{r:Int}(hr:z1O rec_iTypeOfExpr a0 a1 a2=some r):Ok Tryz.prog 228 [Grammar.y m a0,Rule.x m a1,Expr.x m a2] [] (dI r) []:=by
 refine OE Tryz.func228 fun S hS=>?_
 unfold z1O at hr
 refine J g<|J (BX' 0)<|J (BX' 1)<|J (BX' 2)<|J g<|J (L0' 3 (A.D.i .i64))<|J (gn 11)<|J (lenA 6 2)<|fun hl1=>bdE hr fun s1 hqq1 hr=>q0c hqq1 hl1 4 (fun k1 s1=>[(3,.pb 0 0),(4,.pb 1 0),(5,.pb 2 0),(7,.ref 3 none),(21,.d m (.sl 7 (a2.Args.map Expr.D))),(22,dI (a2.Args.length:Int)),(23,dI (k1:Int))]) (fun k1 s1=>[(3,.row .fz 1 (s1.map (A.D.i .i64)))]) I (fun k1 xk1 sk1 ok1 hxk1 hr hltk1=>?_) fun k1 hltk1=>?_
 obtain⟨s1,rfl⟩:∃ y,y=sk1:=⟨_,rfl⟩
 refine J g<|J (NV' 4)<|bdE hr fun y1 hy1 hr=>J g<|J (CB' [] [] (ih_iTypeOfExpr (m:=m) hy1))<|J (LIR' 5 (m:=.fz) (f:=(A.D.i .i64)) (xs:=([y1]:List Int)))<|ggE hr fun g1 hr=>J (z3b (f:=(A.D.i .i64)) 6 (fun _=>rfl) 8 g1)<|e
 refine J (gn 16)<|ifE hr ?_ ?_<;>intro h1 hr
 exact e
 refine bdE hr fun s2 hqq2 hr=>J (gn 6)<|q0a 4 [(3,.pb 0 0),(4,.pb 1 0),(5,.pb 2 0),(7,.ref 3 none),(48,dB s2)] ?_ ?_
 replace hr:=hqq2
 refine ifE hr ?_ ?_<;>intro h2 hr
 exact e
 exact e
 refine J (gn 2)<|ifE hr ?_ ?_<;>intro h3 hr
 exact e
 refine J (gn 8)<|ifE hr ?_ ?_<;>intro h4 hr
 refine bdP hr fun y2 y3 hq3 hr=>J g<|J (CB' [] [] (z4O (m:=m) hq3))<|J g<|J (NV' 4)<|e
 refine bdE hr fun s3 hqq4 hr=>J (gn 6)<|q0a 5 [(3,.pb 0 0),(4,.pb 1 0),(5,.pb 2 0),(7,.ref 3 none),(74,dB s3)] ?_ ?_
 replace hr:=hqq4
 refine ifE hr ?_ ?_<;>intro h5 hr
 exact e
 exact e
 refine J (gn 2)<|ifE hr ?_ ?_<;>intro h6 hr
 refine bdT hr fun y4 y5 y6 hq5 hr=>J g<|J (CB' [] [] (j2n hq5))<|bdE hr fun x1 hx1 hr=>bdE hr fun s4 hqq6 hr=>J (gn 15)<|q0a 7 [(14,dI y6),(93,dB s4)] ?_ ?_
 replace hr:=hqq6
 refine ifE hr ?_ ?_<;>intro h7 hr
 refine bdE hr fun x2 hx2 hr=>e
 exact e
 refine J (gn 1)<|ifE hr ?_ ?_<;>intro h8 hr
 exact e
 exact e
 refine bdE hr fun s5 hqq7 hr=>J (gn 6)<|q0a 5 [(3,.pb 0 0),(4,.pb 1 0),(5,.pb 2 0),(7,.ref 3 none),(103,dB s5)] ?_ ?_
 replace hr:=hqq7
 refine ifE hr ?_ ?_<;>intro h9 hr
 exact e
 exact e
 refine J (gn 2)<|ifE hr ?_ ?_<;>intro h10 hr
 refine bdE hr fun x3 hx3 hr=>J (gn 7)<|ifE hr ?_ ?_<;>intro h11 hr
 refine bdE hr fun x4 hx4 hr=>bdE hr fun x5 hx5 hr=>J (gn 10)<|ifE hr ?_ ?_<;>intro h12 hr
 exact e
 exact e
 exact e
 refine bdE hr fun s6 hqq8 hr=>J (gn 7)<|q0a 8 [(3,.pb 0 0),(5,.pb 2 0),(7,.ref 3 none),(131,dB s6)] ?_ ?_
 replace hr:=hqq8
 refine ifE hr ?_ ?_<;>intro h13 hr
 refine bdE hr fun y7 hy7 hr=>J g<|J (CB' [] [] (q4v hy7))<|e
 exact e
 refine bdE hr fun s7 hqq9 hr=>J (gn 2)<|q0e 4 [(3,.pb 0 0),(5,.pb 2 0),(7,.ref 3 none),(120,dB s7)] [] ?_ ?_
 replace hr:=hqq9
 refine ifE hr ?_ ?_<;>intro h14 hr
 exact e
 exact e
 refine ifE hr ?_ ?_<;>intro h15 hr
 exact e
 refine bdE hr fun s8 hqq10 hr=>J (gn 6)<|q0a 5 [(3,.pb 0 0),(5,.pb 2 0),(7,.ref 3 none),(143,dB s8)] ?_ ?_
 replace hr:=hqq10
 refine ifE hr ?_ ?_<;>intro h16 hr
 exact e
 exact e
 refine bdE hr fun s9 hqq11 hr=>q0a 6 [(3,.pb 0 0),(5,.pb 2 0),(149,dB s9)] ?_ ?_
 replace hr:=hqq11
 refine ifE hr ?_ ?_<;>intro h17 hr
 refine bdE hr fun x6 hx6 hr=>e
 exact e
 refine J (gn 2)<|ifE hr ?_ ?_<;>intro h18 hr
 refine bdP hr fun y8 y9 hq12 hr=>J g<|J (CB' [] [] (q9s (m:=m) hq12))<|J g<|J (NV' 4)<|bdP hr fun y10 y11 hq13 hr=>J g<|J (CB' [] [] (z2x (m:=m) hq13))<|J g<|J (NV' 5)<|e
 exact e
theorem j3O (n:Nat):∀ {m:Md} {a0:Grammar} {a1:Rule} {a2:Expr} {r:Int},q8Q n a0 a1 a2=some r→Ok Tryz.prog 228 [Grammar.y m a0,Rule.x m a1,Expr.x m a2] [] (dI r) []:=by
  induction n with
  | zero=>intro _ _ _ _ r hr;exact nomatch (show (none:Option Int)=some r from hr)
  | succ n ih=>intro _ _ _ _ r hr;exact j3N ih hr
theorem z5L {m:Md}{a0:Grammar}{a1:Rule}{a2:Expr}{r:Int}(hr:z1P a0 a1 a2=some r):Ok Tryz.prog 228 [Grammar.y m a0,Rule.x m a1,Expr.x m a2] [] (dI r) []:=by
 obtain⟨n,hn⟩:=q5Z hr
 exact j3O n hn
theorem j8g {m:Md}{a0:Grammar}{a1:Rule}{r:Bool}(hr:z4C a0 a1=some r):Ok Tryz.prog 168 [Grammar.y m a0,Rule.x m a1] [] (dB r) []:=by
 refine OE Tryz.func168 fun S hS=>?_
 unfold z4C at hr
 refine J g<|J (BX' 0)<|J (BX' 1)<|J (gn 11)<|J (lenA 4 1)<|fun hl1=>bdE hr fun q1 hqq1 hr=>q0b hqq1 hl1 2 (fun k1 _=>[(2,.pb 0 0),(3,.pb 1 0),(16,.d m (.sl 9 (a1.Equations.map Eqn.D))),(17,dI (a1.Equations.length:Int)),(18,dI (k1:Int))]) (fun k1 _=>[]) I (fun k1 xk1 sk1 ok1 hxk1 hr hltk1 hik1=>?_) fun k1 sk1 ek1 hltk1=>?_
 refine J g<|J (NV' 2)<|bdP hr fun y1 y2 hq2 hr=>J g<|J (CB' [] [] (z4O (m:=m) hq2))<|J g<|J (NV' 3)<|bdE hr fun y3 hy3 hr=>J g<|J (CB' [] [] (z5L (m:=m) hy3))<|J (gn 4)<|ifE hr ?_ ?_<;>intro h1 hr
 exact e
 exact e
 subst ek1
 refine J (gn 16)<|J (lenT 40)<|fun hl2=>bdE hr fun q3 hqq3 hr=>q0b hqq3 hl2 2 (fun k2 _=>[(2,.pb 0 0),(3,.pb 1 0),(40,.d m (.sl 16 (a1.Contributions.map Cn.D))),(41,dI (a1.Contributions.length:Int)),(42,dI (k2:Int))]) (fun k2 _=>[]) I (fun k2 xk2 sk2 ok2 hxk2 hr hltk2 hik2=>?_) fun k2 sk2 ek2 hltk2=>?_
 refine J g<|J (NV' 2)<|bdP hr fun y4 y5 hq4 hr=>J g<|J (CB' [] [] (q9s (m:=m) hq4))<|J g<|J (NV' 3)<|bdP hr fun y6 y7 hq5 hr=>J g<|J (CB' [] [] (z2x (m:=m) hq5))<|J g<|J (NV' 4)<|bdE hr fun y8 hy8 hr=>J g<|J (CB' [] [] (z5L (m:=m) hy8))<|bdE hr fun s1 hqq6 hr=>J (gn 1)<|q0a 8 [(2,.pb 0 0),(3,.pb 1 0),(13,.pb 4 0),(40,.d m (.sl 16 (a1.Contributions.map Cn.D))),(41,dI (a1.Contributions.length:Int)),(42,dI (k2:Int)),(73,dB s1)] ?_ ?_
 replace hr:=hqq6
 refine ifE hr ?_ ?_<;>intro h2 hr
 refine bdE hr fun y9 hy9 hr=>J g<|J (CB' [] [] (z5L (m:=m) hy9))<|e
 exact e
 refine bdE hr fun s2 hqq7 hr=>q0a 5 [(2,.pb 0 0),(3,.pb 1 0),(40,.d m (.sl 16 (a1.Contributions.map Cn.D))),(41,dI (a1.Contributions.length:Int)),(42,dI (k2:Int)),(78,dB s2)] ?_ ?_
 replace hr:=hqq7
 refine ifE hr ?_ ?_<;>intro h3 hr
 exact e
 exact e
 refine J (gn 1)<|ifE hr ?_ ?_<;>intro h4 hr
 exact e
 exact e
 subst ek2
 exact e
theorem j6C {m2:Md}{a0:ByteArray}{a1:Grammar}{a2:(List Int)}{r:Int}(hr:z3h a0 a1 a2=some r):Ok Tryz.prog 230 [dS a0,.pb 0 0,.pb 1 0] [.box [.d m2 (.sl 2 (a1.Symbols.map Symbol.D)),.d m2 (.sl 6 (a1.Rules.map Rule.D))],.box [.ref 2 none],.row .fz 1 (a2.map (A.D.i .i64))] (dI r) [.box [.d m2 (.sl 2 (a1.Symbols.map Symbol.D)),.d m2 (.sl 6 (a1.Rules.map Rule.D))],.box [.ref 2 none],.row .fz 1 (a2.map (A.D.i .i64))]:=by
 refine OE Tryz.func230 fun S hS=>?_
 unfold z3h at hr
 refine J (gn 13)<|J (lenT 8)<|fun hl1=>bdE hr fun q1 hqq1 hr=>q0b hqq1 hl1 3 (fun k1 _=>[(0,dS a0),(2,.pb 1 0),(8,.d m2 (.sl 2 (a1.Symbols.map Symbol.D))),(9,dI (a1.Symbols.length:Int)),(10,dI (k1:Int))]) (fun k1 _=>[]) I (fun k1 xk1 sk1 ok1 hxk1 hr hltk1 hik1=>?_) fun k1 sk1 ek1 hltk1=>?_
 refine J g<|J (NV' 3)<|J (gn 10)<|ifE hr ?_ ?_<;>intro h1 hr
 refine bdE hr fun x1 hx1 hr=>e
 exact e
 subst ek1
 exact e
theorem j9D {m:Md}{a0:Grammar}{r:(List Int)}(hr:z4d a0=some r):Ok Tryz.prog 169 [Grammar.x m a0] [] (.ref 0 none) [.row .fz 1 (r.map (A.D.i .i64))]:=by
 refine OE Tryz.func169 fun S hS=>?_
 unfold z4d at hr
 refine J g<|J (BX' 0)<|ggE hr fun g1 hr=>J g<|J (MKR' 1 (f:=(A.D.i .i64)) (0:Int) g1.1 g1.2.1 g1.2.2)<|J (NV' 2)<|bdE hr fun s1 hqq1 hr=>J (gn 12)<|q0e 3 [(3,.pb 2 0)] [(1,.row .fz 1 (s1.map (A.D.i .i64)))] ?_ ?_
 refine J g<|q0h hqq1 3 (fun (s3,s2)=>[(1,.pb 0 0),(3,.pb 2 0),(4,.fn 230 [.pb 0 0,.pb 2 0]),(5,dI s3)]) (fun (s3,s2)=>[(1,.row .fz 1 (s2.map (A.D.i .i64)))]) I fun sk1 ok1 hr hik1=>?_
 obtain⟨s3,s2⟩:=sk1
 have hr:=hr
 refine J (gn 9)<|ifE hr ?_ ?_<;>intro h1 hr
 refine ggE hr fun g2 hr=>J g<|J (MKR' 3 (f:=(A.D.i .i64)) (0:Int) g2.1 g2.2.1 g2.2.2)<|ggE hr fun g3 hr=>J g<|J (x0H g3)<|J (gn 10)<|J (lenT 21)<|fun hl2=>bdE hr fun s4 hqq2 hr=>q0c hqq2 hl2 4 (fun k2 s4=>[(1,.pb 0 0),(3,.pb 2 0),(4,.fn 230 [.pb 0 0,.pb 2 0]),(5,dI s3),(6,.ref 3 none),(33,.d m (.sl 2 (a0.Symbols.map Symbol.D))),(34,dI (a0.Symbols.length:Int)),(35,dI (k2:Int))]) (fun k2 s4=>[(3,.row .fz 1 (s4.map (A.D.i .i64)))]) I (fun k2 xk2 sk2 ok2 hxk2 hr hltk2=>?_) fun k2 hltk2=>?_
 obtain⟨s4,rfl⟩:∃ y,y=sk2:=⟨_,rfl⟩
 refine bdE hr fun s5 hqq3 hr=>J (gn 8)<|q0e 4 [(1,.pb 0 0),(3,.pb 2 0),(4,.fn 230 [.pb 0 0,.pb 2 0]),(5,dI s3),(6,.ref 3 none),(33,.d m (.sl 2 (a0.Symbols.map Symbol.D))),(34,dI (a0.Symbols.length:Int)),(35,dI (k2:Int))] [(3,.row .fz 1 (s5.map (A.D.i .i64)))] ?_ ?_
 replace hr:=hqq3
 refine J g<|J (NV' 4)<|bdE hr fun x1 hx1 hr=>J (gn 12)<|ifE hr ?_ ?_<;>intro h2 hr
 exact e
 refine J (gn 10)<|J (lenT 46)<|fun hl3=>bdE hr fun s6 hqq4 hr=>q0c hqq4 hl3 5 (fun k3 s6=>[(1,.pb 0 0),(3,.pb 2 0),(4,.fn 230 [.pb 0 0,.pb 2 0]),(5,dI s3),(6,.ref 3 none),(7,dI (k2:Int)),(8,.pb 4 0),(33,.d m (.sl 2 (a0.Symbols.map Symbol.D))),(34,dI (a0.Symbols.length:Int)),(35,dI (k2:Int)),(46,.d m (.sl 6 (a0.Rules.map Rule.D))),(47,dI (a0.Rules.length:Int)),(48,dI (k3:Int))]) (fun k3 s6=>[(3,.row .fz 1 (s6.map (A.D.i .i64)))]) I (fun k3 xk3 sk3 ok3 hxk3 hr hltk3=>?_) fun k3 hltk3=>?_
 obtain⟨s6,rfl⟩:∃ y,y=sk3:=⟨_,rfl⟩
 refine bdE hr fun s7 hqq5 hr=>J (gn 8)<|q0e 5 [(1,.pb 0 0),(3,.pb 2 0),(4,.fn 230 [.pb 0 0,.pb 2 0]),(5,dI s3),(6,.ref 3 none),(7,dI (k2:Int)),(8,.pb 4 0),(33,.d m (.sl 2 (a0.Symbols.map Symbol.D))),(34,dI (a0.Symbols.length:Int)),(35,dI (k2:Int)),(46,.d m (.sl 6 (a0.Rules.map Rule.D))),(47,dI (a0.Rules.length:Int)),(48,dI (k3:Int))] [(3,.row .fz 1 (s7.map (A.D.i .i64)))] ?_ ?_
 replace hr:=hqq5
 refine J g<|J (NV' 5)<|J (gn 20)<|J (lenA 2 51)<|fun hl4=>bdE hr fun s8 hqq6 hr=>q0c hqq6 hl4 6 (fun k4 s8=>[(1,.pb 0 0),(3,.pb 2 0),(4,.fn 230 [.pb 0 0,.pb 2 0]),(5,dI s3),(6,.ref 3 none),(7,dI (k2:Int)),(8,.pb 4 0),(11,dB s8),(33,.d m (.sl 2 (a0.Symbols.map Symbol.D))),(34,dI (a0.Symbols.length:Int)),(35,dI (k2:Int)),(46,.d m (.sl 6 (a0.Rules.map Rule.D))),(47,dI (a0.Rules.length:Int)),(48,dI (k3:Int)),(58,.d m (.sl 1 (xk3.Right.map A.D.s))),(59,dI (xk3.Right.length:Int)),(60,dI (k4:Int))]) (fun k4 s8=>[]) I (fun k4 xk4 sk4 ok4 hxk4 hr hltk4=>?_) fun k4 hltk4=>?_
 obtain⟨s8,rfl⟩:∃ y,y=sk4:=⟨_,rfl⟩
 refine bdE hr fun s9 hqq7 hr=>J (gn 8)<|q0e 6 [(1,.pb 0 0),(3,.pb 2 0),(4,.fn 230 [.pb 0 0,.pb 2 0]),(5,dI s3),(6,.ref 3 none),(7,dI (k2:Int)),(8,.pb 4 0),(11,dB s9),(33,.d m (.sl 2 (a0.Symbols.map Symbol.D))),(34,dI (a0.Symbols.length:Int)),(35,dI (k2:Int)),(46,.d m (.sl 6 (a0.Rules.map Rule.D))),(47,dI (a0.Rules.length:Int)),(48,dI (k3:Int)),(58,.d m (.sl 1 (xk3.Right.map A.D.s))),(59,dI (xk3.Right.length:Int)),(60,dI (k4:Int))] [] ?_ ?_
 replace hr:=hqq7
 refine J (gn 9)<|ifE hr ?_ ?_<;>intro h3 hr
 refine bdE hr fun y1 hy1 hr=>J g<|J (CB' [(0,0),(1,2),(2,1)] [] (j6C (m2:=m) hy1))<|e
 exact e
 exact e
 refine J (gn 11)<|ifE hr ?_ ?_<;>intro h4 hr
 refine bdE hr fun x2 hx2 hr=>J g<|J (SE' s3 hx2)<|e
 exact e
 exact e
 exact e
 exact e
 refine ggE hr fun g4 hr=>e
 refine J (gn 2) ?_
 cases hr
 cases hik1 _ rfl
 exact q0d hS 3
 exact e
theorem j2o {m:Md}{a0:Grammar}{r:(Int×Int)}(hr:q9V a0=some r):Ok Tryz.prog 110 [Grammar.x m a0] [] (.tu [dI r.1,dI r.2]) []:=by
 refine OE Tryz.func110 fun S hS=>?_
 unfold q9V at hr
 refine J g<|J (BX' 0)<|bdP hr fun y1 y2 hq1 hr=>J g<|J (CB' [] [] (j4Z (m:=m) hq1))<|J (gn 11)<|ifE hr ?_ ?_<;>intro h1 hr
 refine J (gn 11)<|J (lenA 1 0)<|fun hl1=>bdE hr fun q2 hqq2 hr=>q0b hqq2 hl1 1 (fun k1 _=>[(1,.pb 0 0),(20,.d m (.sl 6 (a0.Rules.map Rule.D))),(21,dI (a0.Rules.length:Int)),(22,dI (k1:Int))]) (fun k1 _=>[]) I (fun k1 xk1 sk1 ok1 hxk1 hr hltk1 hik1=>?_) fun k1 sk1 ek1 hltk1=>?_
 refine J g<|J (NV' 1)<|bdE hr fun y3 hy3 hr=>J g<|J (CB' [] [] (j8g (m:=m) hy3))<|J (gn 1)<|ifE hr ?_ ?_<;>intro h2 hr
 exact e
 exact e
 subst ek1
 refine bdE hr fun y4 hy4 hr=>J g<|J (CB' [(0,1)] [] (j9D (m:=m) hy4))<|J (gn 4)<|J (lenR 1)<|fun hl2=>bdE hr fun q3 hqq3 hr=>q0b hqq3 hl2 2 (fun k2 _=>[(33,.ref 1 none),(34,dI (y4.length:Int)),(35,dI (k2:Int))]) (fun k2 _=>[]) I (fun k2 xk2 sk2 ok2 hxk2 hr hltk2 hik2=>?_) fun k2 sk2 ek2 hltk2=>?_
 refine J (gn 22)<|ifE hr ?_ ?_<;>intro h3 hr
 exact e
 exact e
 subst ek2
 exact e
 exact e
theorem j8h {m:Md}{a0:Grammar}{r:Bool}(hr:z4D a0=some r):Ok Tryz.prog 55 [Grammar.x m a0] [] (dB r) []:=by
 refine OE Tryz.func55 fun S hS=>?_
 unfold z4D at hr
 refine J g<|J (BX' 0)<|bdP hr fun y1 y2 hq1 hr=>J g<|J (CB' [] [] (j2o (m:=m) hq1))<|e
theorem z1a {m:Md}{a0:Grammar}{a1:ByteArray}{r:(List At_)}(hr:q5w a0 a1=some r):Ok Tryz.prog 78 [Grammar.y m a0,dS a1] [] (.ref 0 none) [.row .fz 4 (r.map At_.D)]:=by
 refine OE Tryz.func78 fun S hS=>?_
 unfold q5w at hr
 refine J g<|J (BX' 0)<|J g<|J (L0' 1 At_.D)<|bdP hr fun y1 y2 hq1 hr=>J g<|J (CB' [] [] (q9s (m:=m) hq1))<|J g<|J (NV' 2)<|J (gn 12) ?_
 refine AW.len (.ag 1 (.tu 0 (.tmp 11 rfl) rfl) rfl) fun hl1=>?_
 refine bdE hr fun s1 hqq2 hr=>q0c hqq2 hl1 3 (fun k1 s1=>[(5,.ref 1 none),(18,.d m (.sl 4 (y1.Attributes.map At_.D))),(19,dI (y1.Attributes.length:Int)),(20,dI (k1:Int))]) (fun k1 s1=>[(1,.row .fz 4 (s1.map At_.D))]) I (fun k1 xk1 sk1 ok1 hxk1 hr hltk1=>?_) fun k1 hltk1=>?_
 obtain⟨s1,rfl⟩:∃ y,y=sk1:=⟨_,rfl⟩
 refine bdE hr fun s2 hqq3 hr=>J (gn 8)<|q0e 3 [(5,.ref 1 none),(18,.d m (.sl 4 (y1.Attributes.map At_.D))),(19,dI (y1.Attributes.length:Int)),(20,dI (k1:Int))] [(1,.row .fz 4 (s2.map At_.D))] ?_ ?_
 replace hr:=hqq3
 refine J g<|J (NV' 3)<|J (gn 7)<|ifE hr ?_ ?_<;>intro h1 hr
 refine J g<|J (LIR' 4 (m:=.fz) (f:=At_.D) (xs:=[xk1]))<|ggE hr fun g1 hr=>J (z3b (f:=At_.D) 5 (fun _=>rfl) 40 g1)<|e
 refine J (gn 6)<|ifE hr ?_ ?_<;>intro h2 hr
 refine J g<|J (LIR' 4 (m:=.fz) (f:=At_.D) (xs:=[xk1]))<|ggE hr fun g2 hr=>J (z3b (f:=At_.D) 5 (fun _=>rfl) 40 g2)<|e
 exact e
 exact e
 exact e
theorem z2y {a0:Int}{r:Rl_}(hr:q6V a0=some r):Ok Tryz.prog 111 [dI a0] [] (.ag [dI r.N,.ref 0 none]) [.row .fz 1 (r.Rows.map (A.D.i .i64))]:=by
 refine OE Tryz.func111 fun S hS=>?_
 unfold q6V at hr
 refine J g<|J (NV' 0)<|bdE hr fun y1 hy1 hr=>J g<|J (CB' [] [] (q4v hy1))<|J (gn 2)<|ifE hr ?_ ?_<;>intro h1 hr
 refine ggE hr fun g1 hr=>J g<|J (MKR' 1 (f:=(A.D.i .i64)) (0:Int) g1.1 g1.2.1 g1.2.2)<|e
 refine J (gn 7) ?_
 refine J (q0g (q0q (q:=0) (c:=1) (r:=1) .fz 1 rfl rfl rfl))<|J g<|E
theorem j0z {m:Md}{a0:Grammar}{r:(List Rl_)}(hr:q8v a0=some r):Ok Tryz.prog 56 [Grammar.y m a0] [] (.ref 0 none) [.deep .fz 2 (r.map Rl_.W) []]:=by
 refine OE Tryz.func56 fun S hS=>?_
 unfold q8v at hr
 refine J g<|J (BX' 0)<|J g<|J (L0' 1 Rl_.D)<|q2W 1 Rl_.W ?_
 refine J (gn 11)<|J (lenA 0 0)<|fun hl1=>bdE hr fun s1 hqq1 hr=>q0c hqq1 hl1 2 (fun k1 s1=>[(1,.pb 0 0),(3,.ref 1 none),(8,.d m (.sl 2 (a0.Symbols.map Symbol.D))),(9,dI (a0.Symbols.length:Int)),(10,dI (k1:Int))]) (fun k1 s1=>[(1,.deep .fz 2 (s1.map Rl_.W) [])]) I (fun k1 xk1 sk1 ok1 hxk1 hr hltk1=>?_) fun k1 hltk1=>?_
 obtain⟨s1,rfl⟩:∃ y,y=sk1:=⟨_,rfl⟩
 refine J g<|J (NV' 2)<|bdE hr fun y1 hy1 hr=>J g<|J (CB' [(0,3)] [] (z1a (m:=m) hy1))<|bdE hr fun y2 hy2 hr=>J g<|J (CB' [(0,4)] [] (z2y hy2))<|J (LID' (f:=Rl_.W) 5 y2 [4])<|ggE hr fun g1 hr=>J (k8D 6 32 g1)<|e
 exact e
theorem j1e {m:Md}{a0:Symbol}{a1:ByteArray}{r:Bool}(hr:q9h a0 a1=some r):Ok Tryz.prog 113 [Symbol.x m a0,.pb 0 0] [.box [dS a1]] (dB r) [.box [dS a1]]:=by
 refine OE Tryz.func113 fun S hS=>?_
 unfold q9h at hr
 refine J g<|J (BX' 1)<|e
theorem q9z {m:Md}{a0:(List Symbol)}{a1_0:ByteArray}{r:Int}(hr:q4i a0 a1_0=some r):Ok Tryz.prog 112 [.d m (.sl 2 (a0.map Symbol.D)),.fn 113 [.pb 0 0]] [.box [dS a1_0]] (dI r) [.box [dS a1_0]]:=by
 refine OE Tryz.func112 fun S hS=>?_
 unfold q4i at hr
 refine J (gn 12)<|J (lenT 0)<|fun hl1=>bdE hr fun q1 hqq1 hr=>q0b hqq1 hl1 1 (fun k1 _=>[(0,.d m (.sl 2 (a0.map Symbol.D))),(1,.fn 113 [.pb 0 0]),(7,dI (a0.length:Int)),(8,dI (k1:Int))]) (fun k1 _=>[]) I (fun k1 xk1 sk1 ok1 hxk1 hr hltk1 hik1=>?_) fun k1 sk1 ek1 hltk1=>?_
 refine bdE hr fun y1 hy1 hr=>J g<|J (CB' [(0,0)] [] (j1e (m:=m) hy1))<|J (gn 1)<|ifE hr ?_ ?_<;>intro h1 hr
 exact e
 exact e
 subst ek1
 exact e
theorem z4P {m:Md}{a0:Grammar}{a1:ByteArray}{r:Int}(hr:q6E a0 a1=some r):Ok Tryz.prog 57 [Grammar.y m a0,dS a1] [] (dI r) []:=by
 refine OE Tryz.func57 fun S hS=>?_
 unfold q6E at hr
 refine J g<|J (BX' 0)<|J (BX' 1)<|bdE hr fun y1 hy1 hr=>J g<|J (CB' [(0,1)] [] (q9z (m:=m) hy1))<|e
theorem z6o {m:Md}{a0:Grammar}{a1:Rule}{r:(List Oc)}(hr:q6q a0 a1=some r):Ok Tryz.prog 124 [Grammar.y m a0,Rule.x m a1] [] (.ref 0 none) [.row .fz 2 (r.map Oc.D)]:=by
 refine OE Tryz.func124 fun S hS=>?_
 unfold q6q at hr
 refine J g<|J (BX' 0)<|J (BX' 1)<|J g<|J (L0' 2 Oc.D)<|ggE hr fun g1 hr=>J (gn 12)<|J (rngT 13)<|fun hl1=>bdE hr fun s1 hqq1 hr=>q0m hqq1 3 (fun k1 s1=>[(2,.pb 0 0),(3,.pb 1 0),(5,.ref 2 none),(13,dI ((a1.Right.length+1:Nat):Int)),(14,dI (k1:Int))]) (fun k1 s1=>[(2,.row .fz 2 (s1.map Oc.D))]) I (fun k1 sk1 ok1 hr hltk1=>?_) ?_
 obtain⟨s1,rfl⟩:∃ y,y=sk1:=⟨_,rfl⟩
 refine bdE hr fun y1 hy1 hr=>J g<|J (CB' [] [] (q9Z (m:=m) hy1))<|bdE hr fun y2 hy2 hr=>J (CB' [(0,3)] [] (z1a (m:=m) hy2))<|J (gn 4)<|J (lenR 3)<|fun hl2=>bdE hr fun s2 hqq2 hr=>q0c hqq2 hl2 4 (fun k2 s2=>[(2,.pb 0 0),(3,.pb 1 0),(5,.ref 2 none),(6,dI (k1:Int)),(13,dI ((a1.Right.length+1:Nat):Int)),(14,dI (k1:Int)),(21,.ref 3 none),(22,dI (y2.length:Int)),(23,dI (k2:Int))]) (fun k2 s2=>[(2,.row .fz 2 (s2.map Oc.D))]) I (fun k2 xk2 sk2 ok2 hxk2 hr hltk2=>?_) fun k2 hltk2=>?_
 obtain⟨s2,rfl⟩:∃ y,y=sk2:=⟨_,rfl⟩
 refine J g<|J (NV' 4)<|J g<|J (LIR' 5 (m:=.fz) (f:=Oc.D) (xs:=[(⟨(k1:Int),xk2.Name⟩:Oc)]))<|ggE hr fun g2 hr=>J (z3b (f:=Oc.D) 6 (fun _=>rfl) 24 g2)<|e
 exact e
 exact e
theorem j6D {rec_icopyExpr:Expr→Option Expr}(ih_icopyExpr:∀ {m:Md} {a0:Expr} {r:Expr},rec_icopyExpr a0=some r→Ok Tryz.prog 182 [Expr.x m a0] [] (.ag [dI r.Kind,dI r.N,dI r.Pos,dI r.Type_,dS r.Symbol,dS r.Name,.ref 0 none]) [.row .fz 7 (r.Args.map Expr.D)]){m:Md}{a0:Expr}{r:Expr}(hr:z6O rec_icopyExpr a0=some r):Ok Tryz.prog 182 [Expr.x m a0] [] (.ag [dI r.Kind,dI r.N,dI r.Pos,dI r.Type_,dS r.Symbol,dS r.Name,.ref 0 none]) [.row .fz 7 (r.Args.map Expr.D)]:=by
 refine OE Tryz.func182 fun S hS=>?_
 unfold z6O at hr
 refine J g<|J (BX' 0)<|J (NV' 1)<|J (gn 14) ?_
 refine J (q2Y 3 2 .fz 7 rfl)<|J (lenA 6 0)<|fun hl1=>bdE hr fun s1 hqq1 hr=>q0c hqq1 hl1 3 (fun k1 s1=>[(1,.pb 0 0),(2,.pb 1 0),(3,.ref 2 none),(7,.d m (.sl 7 (a0.Args.map Expr.D))),(8,dI (a0.Args.length:Int)),(9,dI (k1:Int))]) (fun k1 s1=>[(2,.row .fz 7 (s1.map Expr.D))]) I (fun k1 xk1 sk1 ok1 hxk1 hr hltk1=>?_) fun k1 hltk1=>?_
 obtain⟨s1,rfl⟩:∃ y,y=sk1:=⟨_,rfl⟩
 refine J g<|J (NV' 3)<|bdE hr fun y1 hy1 hr=>J g<|J (CB' [(0,4)] [] (ih_icopyExpr (m:=m) hy1)) ?_
 refine J (q0v 4 rfl) ?_
 refine J (x0f 5 (m:=.fz) (f:=Expr.D) [y1] (by simp only[List.map_cons,List.map_nil,Expr.D_eq];rfl))<|ggE hr fun g1 hr=>J (AP1' 6 .fz 88 g1)<|J g<|E
 exact e
theorem j6E (n:Nat):∀ {m:Md} {a0:Expr} {r:Expr},z2j n a0=some r→Ok Tryz.prog 182 [Expr.x m a0] [] (.ag [dI r.Kind,dI r.N,dI r.Pos,dI r.Type_,dS r.Symbol,dS r.Name,.ref 0 none]) [.row .fz 7 (r.Args.map Expr.D)]:=by
  induction n with
  | zero=>intro _ _ r hr;exact nomatch (show (none:Option Expr)=some r from hr)
  | succ n ih=>intro _ _ r hr;exact j6D ih hr
theorem j8i {m:Md}{a0:Expr}{r:Expr}(hr:z9s a0=some r):Ok Tryz.prog 182 [Expr.x m a0] [] (.ag [dI r.Kind,dI r.N,dI r.Pos,dI r.Type_,dS r.Symbol,dS r.Name,.ref 0 none]) [.row .fz 7 (r.Args.map Expr.D)]:=by
 obtain⟨n,hn⟩:=q5Z hr
 exact j6E n hn
theorem z7p {m:Md}{a0:Rule}{a1:Oc}{r:(Expr×Bool)}(hr:q7E a0 a1=some r):Ok Tryz.prog 125 [Rule.x m a0,Oc.x .fz a1] [] (.tu [.ag [dI r.1.Kind,dI r.1.N,dI r.1.Pos,dI r.1.Type_,dS r.1.Symbol,dS r.1.Name,.ref 0 none],dB r.2]) [.row .fz 7 (r.1.Args.map Expr.D)]:=by
 refine OE Tryz.func125 fun S hS=>?_
 unfold q7E at hr
 refine J g<|J (BX' 0)<|J (BX' 1)<|J (NV' 2)<|J (gn 11)<|J (lenA 4 0)<|fun hl1=>bdE hr fun q1 hqq1 hr=>q0b hqq1 hl1 3 (fun k1 _=>[(3,.pb 1 0),(4,.pb 2 0),(9,.d m (.sl 9 (a0.Equations.map Eqn.D))),(10,dI (a0.Equations.length:Int)),(11,dI (k1:Int))]) (fun k1 _=>[]) I (fun k1 xk1 sk1 ok1 hxk1 hr hltk1 hik1=>?_) fun k1 sk1 ek1 hltk1=>?_
 refine J g<|J (NV' 3)<|J g ?_
 refine J (SQ' rfl rfl rfl rfl (q6f xk1.At a1))<|J (gn 1)<|ifE hr ?_ ?_<;>intro h1 hr
 refine bdE hr fun y1 hy1 hr=>J g<|J (CB' [(0,4)] [] (j8i (m:=m) hy1))<|e
 exact e
 subst ek1
 refine J (gn 14) ?_
 refine J (q0g (q0q (q:=2) (c:=6) (r:=3) .fz 7 rfl rfl rfl))<|J g<|E
theorem z9w {m:Md}{a0:(List Oc)}{a1:Oc}{r:Int}(hr:q5x a0 a1=some r):Ok Tryz.prog 127 [.d m (.sl 2 (a0.map Oc.D)),Oc.x .fz a1] [] (dI r) []:=by
 refine OE Tryz.func127 fun S hS=>?_
 unfold q5x at hr
 refine J g<|J (BX' 0)<|bdE hr fun y1 hy1 hr=>J g<|J (CB' [] [] (z0s (m:=m) hy1))<|e
theorem z9x {m:Md}{a0:(List Int)}{r:(List Int)}(hr:q9G a0=some r):Ok Tryz.prog 170 [.d m (.sl 1 (a0.map (A.D.i .i64)))] [] (.ref 0 none) [.row .fz 1 (r.map (A.D.i .i64))]:=by
 refine OE Tryz.func170 fun S hS=>?_
 unfold q9G at hr
 refine ggE hr fun g1 hr=>J (gn 6) ?_
 refine q2V rfl fun q hq=>?_
 cases q with
 | true=>
 refine J g ?_
 have e0:a0=[]:=List.map_eq_nil_iff.1 (hq rfl)
 subst e0
 refine J (q0g (q0x (t:=2) (r:=0) .fz 1 rfl rfl))<|J g<|E
 | false=>
 refine J g<|J (L0' 0 (A.D.i .i64))<|J g<|J (APf' 1 (fun _=>rfl) g1)<|e
theorem z3C {m:Md}{a0:Rl_}{r:Rl_}(hr:q7F a0=some r):Ok Tryz.prog 114 [Rl_.x m a0] [] (.ag [dI r.N,.ref 0 none]) [.row .fz 1 (r.Rows.map (A.D.i .i64))]:=by
 refine OE Tryz.func114 fun S hS=>?_
 unfold q7F at hr
 refine J g<|J (BX' 0)<|J (NV' 1)<|bdE hr fun y1 hy1 hr=>J g<|J (CB' [(0,2)] [] (z9x (m:=m) hy1))<|e
theorem z8m {m2:Md}{a0:Int}{a1:Rl_}{r:Bool}(hr:q7c a0 a1=some r):Ok Tryz.prog 172 [dI a0,.pb 0 0] [.box [dI a1.N,.d m2 (.sl 1 (a1.Rows.map (A.D.i .i64)))]] (dB r) [.box [dI a1.N,.d m2 (.sl 1 (a1.Rows.map (A.D.i .i64)))]]:=by
 refine OE Tryz.func172 fun S hS=>?_
 unfold q7c at hr
 refine ggE hr fun g1 hr=>J g ?_
 refine J (CIU' g1 rfl)<|ggE hr fun g2 hr=>J (OB' _ (k2g g2))<|J (OB' _ (k3D (p:=(2 ^ a1.N.toNat)) (k:=1) (by decide)))<|bdE hr fun y1 hy1 hr=>J (CB' [] [] (q4v hy1))<|J g<|E
theorem q9k {m:Md}{m2:Md}{a0:(List Int)}{a1_0:Rl_}{r:Int}(hr:q4F a0 a1_0=some r):Ok Tryz.prog 231 [.d m (.sl 1 (a0.map (A.D.i .i64))),.fn 172 [.pb 0 0]] [.box [dI a1_0.N,.d m2 (.sl 1 (a1_0.Rows.map (A.D.i .i64)))]] (dI r) [.box [dI a1_0.N,.d m2 (.sl 1 (a1_0.Rows.map (A.D.i .i64)))]]:=by
 refine OE Tryz.func231 fun S hS=>?_
 unfold q4F at hr
 refine J (gn 12)<|J (lenT 0)<|fun hl1=>bdE hr fun q1 hqq1 hr=>q0b hqq1 hl1 1 (fun k1 _=>[(0,.d m (.sl 1 (a0.map (A.D.i .i64)))),(1,.fn 172 [.pb 0 0]),(7,dI (a0.length:Int)),(8,dI (k1:Int))]) (fun k1 _=>[]) I (fun k1 xk1 sk1 ok1 hxk1 hr hltk1 hik1=>?_) fun k1 sk1 ek1 hltk1=>?_
 refine bdE hr fun y1 hy1 hr=>J g<|J (CB' [(0,0)] [] (z8m (m2:=m2) hy1))<|J (gn 1)<|ifE hr ?_ ?_<;>intro h1 hr
 exact e
 exact e
 subst ek1
 exact e
theorem q8C {m:Md}{m2:Md}{a0:(List Int)}{a1_0:Rl_}{r:Bool}(hr:q4r a0 a1_0=some r):Ok Tryz.prog 171 [.d m (.sl 1 (a0.map (A.D.i .i64))),.fn 172 [.pb 0 0]] [.box [dI a1_0.N,.d m2 (.sl 1 (a1_0.Rows.map (A.D.i .i64)))]] (dB r) [.box [dI a1_0.N,.d m2 (.sl 1 (a1_0.Rows.map (A.D.i .i64)))]]:=by
 refine OE Tryz.func171 fun S hS=>?_
 unfold q4r at hr
 refine bdE hr fun y1 hy1 hr=>J g<|J (CB' [(0,0)] [] (q9k (m:=m) (m2:=m2) hy1))<|e
theorem q5Y {m:Md}{a0:Rl_}{r:Bool}(hr:q4V a0=some r):Ok Tryz.prog 115 [Rl_.x m a0] [] (dB r) []:=by
 refine OE Tryz.func115 fun S hS=>?_
 unfold q4V at hr
 refine J g<|J (BX' 0)<|bdE hr fun y1 hy1 hr=>J g<|J (CB' [] [] (q4v hy1))<|bdE hr fun s1 hqq1 hr=>q0a 8 [(1,.pb 0 0),(2,dB false),(13,dB s1)] ?_ ?_
 replace hr:=hqq1
 refine ifE hr ?_ ?_<;>intro h1 hr
 exact e
 exact e
 refine bdE hr fun s2 hqq2 hr=>q0a 7 [(2,dB false),(20,dB s2)] ?_ ?_
 replace hr:=hqq2
 refine ifE hr ?_ ?_<;>intro h2 hr
 refine bdE hr fun y2 hy2 hr=>J g<|J (CB' [(0,0)] [] (q8C (m:=m) (m2:=m) hy2))<|e
 exact e
 exact e
theorem j3P {m:Md}{a0:Rl_}{a1:Int}{a2:Int}{r:Rl_}(hr:z4e a0 a1 a2=some r):Ok Tryz.prog 116 [Rl_.x m a0,dI a1,dI a2] [] (.ag [dI r.N,.ref 0 none]) [.row .fz 1 (r.Rows.map (A.D.i .i64))]:=by
 refine OE Tryz.func116 fun S hS=>?_
 unfold z4e at hr
 refine J g<|J (BX' 0)<|J (NV' 1)<|bdE hr fun y1 hy1 hr=>J g<|J (CB' [(0,2)] [] (z3C (m:=m) hy1))<|J (NV' 3)<|bdE hr fun y2 hy2 hr=>J g<|J (CB' [] [] (q5Y (m:=m) hy2))<|bdE hr fun s1 hqq1 hr=>q0a 7 [(1,dI a1),(2,dI a2),(3,.pb 0 0),(6,.pb 1 0),(7,.pb 3 0),(18,dB s1)] ?_ ?_
 replace hr:=hqq1
 refine ifE hr ?_ ?_<;>intro h1 hr
 refine ggE hr fun g1 hr=>bdE hr fun y3 hy3 hr=>J g<|J (CB' [] [] (q4v hy3))<|e
 exact e
 refine bdE hr fun s2 hqq2 hr=>q0a 7 [(1,dI a1),(2,dI a2),(6,.pb 1 0),(7,.pb 3 0),(25,dB s2)] ?_ ?_
 replace hr:=hqq2
 refine ifE hr ?_ ?_<;>intro h2 hr
 refine ggE hr fun g2 hr=>bdE hr fun y4 hy4 hr=>J g<|J (CB' [] [] (q4v hy4))<|e
 exact e
 refine J (gn 1)<|ifE hr ?_ ?_<;>intro h3 hr
 refine ggE hr fun g3 hr=>bdE hr fun x1 hx1 hr=>ggE hr fun g4 hr=>J g ?_
 refine J (CIU' g4 rfl)<|ggE hr fun g5 hr=>J (OB' _ (k2g g5))<|ggE hr fun g6 hr=>J (OB' _ (bOrI g6))<|J g<|J (SE' ((x1.toNat ||| ((2 ^ a2.toNat:Nat):Int).toNat:Nat):Int) hx1)<|J g<|E
 exact e
theorem j1f {m:Md}{a0:Grammar}{a1:Rule}{r:Rl_}(hr:q6W a0 a1=some r):Ok Tryz.prog 70 [Grammar.y m a0,Rule.x m a1] [] (.ag [dI r.N,.ref 0 none]) [.row .fz 1 (r.Rows.map (A.D.i .i64))]:=by
 refine OE Tryz.func70 fun S hS=>?_
 unfold q6W at hr
 refine J g<|J (BX' 0)<|J (BX' 1)<|J (NV' 2)<|bdE hr fun y1 hy1 hr=>J g<|J (CB' [(0,3)] [] (z6o (m:=m) hy1))<|bdE hr fun y2 hy2 hr=>J g<|J (CB' [(0,4)] [] (z2y hy2))<|J (NV' 5)<|J (gn 9)<|ifE hr ?_ ?_<;>intro h1 hr
 refine J (gn 7) ?_
 refine J (q0g (q0q (q:=2) (c:=1) (r:=6) .fz 1 rfl rfl rfl))<|J g<|E
 refine J (gn 10)<|J (lenR 3)<|fun hl1=>bdP hr fun s1 s2 hqq1 hr=>q0c hqq1 hl1 6 (fun k1 (s1,s2)=>[(3,.pb 1 0),(4,.pb 2 0),(5,.ref 3 none),(6,.pb 5 0),(23,.ref 3 none),(24,dI (y1.length:Int)),(25,dI (k1:Int))]) (fun k1 (s1,s2)=>[(4,.row .fz 1 (s1.map (A.D.i .i64))),(5,.box [dI s2,.ref 4 none])]) I (fun k1 xk1 sk1 ok1 hxk1 hr hltk1=>?_) fun k1 hltk1=>?_
 obtain⟨s1,s2⟩:=sk1
 refine J g<|J (NV' 6)<|bdP hr fun y3 y4 hq2 hr=>J g<|J (CB' [(0,7)] [] (z7p (m:=m) hq2))<|J g<|J (NV' 8)<|bdE hr fun y5 hy5 hr=>J g<|J (CB' [(0,9)] [7] (z2w (m:=.bo) hy5))<|J (gn 4)<|J (lenR 9)<|fun hl2=>bdP hr fun s3 s4 hqq3 hr=>q0c hqq3 hl2 10 (fun k2 (s3,s4)=>[(3,.pb 1 0),(4,.pb 2 0),(5,.ref 3 none),(6,.pb 5 0),(7,dI (k1:Int)),(23,.ref 3 none),(24,dI (y1.length:Int)),(25,dI (k1:Int)),(37,.ref 9 none),(38,dI (y5.length:Int)),(39,dI (k2:Int))]) (fun k2 (s3,s4)=>[(4,.row .fz 1 (s3.map (A.D.i .i64))),(5,.box [dI s4,.ref 4 none])]) I (fun k2 xk2 sk2 ok2 hxk2 hr hltk2=>?_) fun k2 hltk2=>?_
 obtain⟨s3,s4⟩:=sk2
 refine J g<|J (NV' 10)<|bdE hr fun y6 hy6 hr=>J g<|J (CB' [] [3] (z9w (m:=.bo) hy6))<|bdE hr fun y7 hy7 hr=>J g<|J (CB' [(0,11)] [4] (j3P (m:=.bo) hy7))<|e
 exact e
 exact e
theorem z4Q {m:Md}{a0:Grammar}{a1:Rule}{a2:Int}{r:(List Int)}(hr:q6M a0 a1 a2=some r):Ok Tryz.prog 75 [Grammar.y m a0,Rule.x m a1,dI a2] [] (.ref 0 none) [.row .fz 1 (r.map (A.D.i .i64))]:=by
 refine OE Tryz.func75 fun S hS=>?_
 unfold q6M at hr
 refine J g<|J (BX' 0)<|J (BX' 1)<|J g<|J (L0' 2 (A.D.i .i64))<|bdE hr fun y1 hy1 hr=>J g<|J (CB' [(0,3)] [] (z6o (m:=m) hy1))<|J (gn 4)<|J (lenR 3)<|fun hl1=>bdE hr fun s1 hqq1 hr=>q0c hqq1 hl1 4 (fun k1 s1=>[(2,dI a2),(7,.ref 2 none),(13,.ref 3 none),(14,dI (y1.length:Int)),(15,dI (k1:Int))]) (fun k1 s1=>[(2,.row .fz 1 (s1.map (A.D.i .i64)))]) I (fun k1 xk1 sk1 ok1 hxk1 hr hltk1=>?_) fun k1 hltk1=>?_
 obtain⟨s1,rfl⟩:∃ y,y=sk1:=⟨_,rfl⟩
 refine bdE hr fun s2 hqq2 hr=>J (gn 8)<|q0e 4 [(2,dI a2),(7,.ref 2 none),(13,.ref 3 none),(14,dI (y1.length:Int)),(15,dI (k1:Int))] [(2,.row .fz 1 (s2.map (A.D.i .i64)))] ?_ ?_
 replace hr:=hqq2
 refine J g<|J (NV' 4)<|J (gn 10)<|ifE hr ?_ ?_<;>intro h1 hr
 refine J g<|J (LIR' 5 (m:=.fz) (f:=(A.D.i .i64)) (xs:=([(k1:Int)]:List Int)))<|ggE hr fun g1 hr=>J (z3b (f:=(A.D.i .i64)) 6 (fun _=>rfl) 8 g1)<|e
 exact e
 exact e
 exact e
theorem z6U {m:Md}{a0:Rl_}{a1:Int}{a2:Int}{r:Bool}(hr:z0g a0 a1 a2=some r):Ok Tryz.prog 98 [Rl_.x m a0,dI a1,dI a2] [] (dB r) []:=by
 refine OE Tryz.func98 fun S hS=>?_
 unfold z0g at hr
 refine J g<|J (BX' 0)<|bdE hr fun y1 hy1 hr=>J g<|J (CB' [] [] (q5Y (m:=m) hy1))<|bdE hr fun s1 hqq1 hr=>q0a 7 [(1,dI a1),(2,dI a2),(3,.pb 0 0),(6,dB false),(15,dB s1)] ?_ ?_
 replace hr:=hqq1
 refine ifE hr ?_ ?_<;>intro h1 hr
 refine ggE hr fun g1 hr=>bdE hr fun y2 hy2 hr=>J g<|J (CB' [] [] (q4v hy2))<|e
 exact e
 refine bdE hr fun s2 hqq2 hr=>q0a 7 [(1,dI a1),(2,dI a2),(3,.pb 0 0),(6,dB false),(22,dB s2)] ?_ ?_
 replace hr:=hqq2
 refine ifE hr ?_ ?_<;>intro h2 hr
 refine ggE hr fun g2 hr=>bdE hr fun y3 hy3 hr=>J g<|J (CB' [] [] (q4v hy3))<|e
 exact e
 refine bdE hr fun s3 hqq3 hr=>q0a 12 [(6,dB false),(34,dB s3)] ?_ ?_
 replace hr:=hqq3
 refine ifE hr ?_ ?_<;>intro h3 hr
 refine ggE hr fun g3 hr=>bdE hr fun x1 hx1 hr=>ggE hr fun g4 hr=>J g ?_
 refine J (CIU' g4 rfl)<|ggE hr fun g5 hr=>J (OB' _ (k6a g5))<|ggE hr fun g6 hr=>J (OB' _ (k6b g6))<|J g<|E
 exact e
 exact e
theorem k3R {m:Md}{a0:Grammar}{a1:Rule}{a2:Rl_}{a3:Int}{a4:Rl_}{r:Rl_}(hr:j0t a0 a1 a2 a3 a4=some r):Ok Tryz.prog 71 [Grammar.y m a0,Rule.x m a1,.ag [dI a2.N,.ref 0 none],dI a3,Rl_.x m a4] [.row .fz 1 (a2.Rows.map (A.D.i .i64))] (.ag [dI r.N,.ref 1 none]) [.dead,.row .fz 1 (r.Rows.map (A.D.i .i64))]:=by
 refine OE Tryz.func71 fun S hS=>?_
 unfold j0t at hr
 refine J g<|J (BX' 1)<|J (BX' 2)<|J (BX' 3)<|J (BX' 4)<|J (NV' 5)<|bdE hr fun y1 hy1 hr=>J g<|J (CB' [(0,6)] [] (z4Q (m:=m) hy1))<|J (gn 10) ?_
 refine J (q0Z 0 7 rfl)<|J (lenR 6)<|fun hl1=>bdP hr fun s1 s2 hqq1 hr=>q0c hqq1 hl1 8 (fun k1 (s1,s2)=>[(7,.pb 3 0),(9,.pb 4 0),(10,.pb 5 0),(11,.ref 6 none),(20,.ref 6 none),(21,dI (y1.length:Int)),(22,dI (k1:Int))]) (fun k1 (s1,s2)=>[(3,.box [dI s1,.ref 7 none]),(7,.row .fz 1 (s2.map (A.D.i .i64)))]) I (fun k1 xk1 sk1 ok1 hxk1 hr hltk1=>?_) fun k1 hltk1=>?_
 obtain⟨s1,s2⟩:=sk1
 refine J (gn 24)<|J (lenR 6)<|fun hl2=>bdP hr fun s3 s4 hqq2 hr=>q0c hqq2 hl2 8 (fun k2 (s3,s4)=>[(7,.pb 3 0),(9,.pb 4 0),(10,.pb 5 0),(11,.ref 6 none),(12,dI (k1:Int)),(13,dI xk1),(20,.ref 6 none),(21,dI (y1.length:Int)),(22,dI (k1:Int)),(27,.ref 6 none),(28,dI (y1.length:Int)),(29,dI (k2:Int))]) (fun k2 (s3,s4)=>[(3,.box [dI s3,.ref 7 none]),(7,.row .fz 1 (s4.map (A.D.i .i64)))]) I (fun k2 xk2 sk2 ok2 hxk2 hr hltk2=>?_) fun k2 hltk2=>?_
 obtain⟨s3,s4⟩:=sk2
 refine bdP hr fun s6 s5 hqq3 hr=>J (gn 8)<|q0e 8 [(7,.pb 3 0),(9,.pb 4 0),(10,.pb 5 0),(11,.ref 6 none),(12,dI (k1:Int)),(13,dI xk1),(20,.ref 6 none),(21,dI (y1.length:Int)),(22,dI (k1:Int)),(27,.ref 6 none),(28,dI (y1.length:Int)),(29,dI (k2:Int))] [(3,.box [dI s6,.ref 7 none]),(7,.row .fz 1 (s5.map (A.D.i .i64)))] ?_ ?_
 replace hr:=hqq3
 refine bdE hr fun y2 hy2 hr=>J g<|J (CB' [] [] (z6U (m:=m) hy2))<|J (gn 1)<|ifE hr ?_ ?_<;>intro h1 hr
 refine bdE hr fun y3 hy3 hr=>J g<|J (CB' [(0,8)] [7] (j3P (m:=.bo) hy3))<|e
 exact e
 exact e
 exact e
 exact e
theorem z6p {m:Md}{a0:Rl_}{r:Rl_}(hr:q7X a0=some r):Ok Tryz.prog 73 [Rl_.x m a0] [] (.ag [dI r.N,.ref 0 none]) [.row .fz 1 (r.Rows.map (A.D.i .i64))]:=by
 refine OE Tryz.func73 fun S hS=>?_
 unfold q7X at hr
 refine J g<|J (BX' 0)<|J (NV' 1)<|bdE hr fun y1 hy1 hr=>J g<|J (CB' [(0,2)] [] (z3C (m:=m) hy1))<|J (NV' 3)<|bdE hr fun y2 hy2 hr=>J g<|J (CB' [] [] (q5Y (m:=m) hy2))<|J (gn 2)<|ifE hr ?_ ?_<;>intro h1 hr
 refine J (gn 11)<|J (rngT 14)<|fun hl1=>bdE hr fun s1 hqq1 hr=>q0m hqq1 4 (fun k1 s1=>[(2,.pb 1 0),(3,.pb 3 0),(14,dI (y1.Rows.length:Int)),(15,dI (k1:Int))]) (fun k1 s1=>[(2,.row .fz 1 (s1.map (A.D.i .i64)))]) I (fun k1 sk1 ok1 hr hltk1=>?_) ?_
 obtain⟨s1,rfl⟩:∃ y,y=sk1:=⟨_,rfl⟩
 refine J (gn 22)<|J (rngT 20)<|fun hl2=>bdE hr fun s2 hqq2 hr=>q0m hqq2 4 (fun k2 s2=>[(2,.pb 1 0),(3,.pb 3 0),(4,dI (k1:Int)),(14,dI (y1.Rows.length:Int)),(15,dI (k1:Int)),(20,dI (s1.length:Int)),(21,dI (k2:Int))]) (fun k2 s2=>[(2,.row .fz 1 (s2.map (A.D.i .i64)))]) I (fun k2 sk2 ok2 hr hltk2=>?_) ?_
 obtain⟨s2,rfl⟩:∃ y,y=sk2:=⟨_,rfl⟩
 refine bdE hr fun s3 hqq3 hr=>J (gn 8)<|q0e 4 [(2,.pb 1 0),(3,.pb 3 0),(4,dI (k1:Int)),(14,dI (y1.Rows.length:Int)),(15,dI (k1:Int)),(20,dI (s1.length:Int)),(21,dI (k2:Int))] [(2,.row .fz 1 (s3.map (A.D.i .i64)))] ?_ ?_
 replace hr:=hqq3
 refine bdE hr fun x1 hx1 hr=>J g ?_
 refine J (CIU' (Int.natCast_nonneg _) rfl)<|ggE hr fun g1 hr=>J (OB' _ (k6a g1))<|ggE hr fun g2 hr=>J (OB' _ (k6b g2))<|J (gn 2)<|ifE hr ?_ ?_<;>intro h2 hr
 refine bdE hr fun x2 hx2 hr=>ggE hr fun g3 hr=>J g<|J (OB' _ (bOrI g3))<|J g<|J (SE' ((x1.toNat ||| x2.toNat:Nat):Int) hx1)<|e
 exact e
 exact e
 exact e
 exact e
 exact e
theorem j1g {m:Md}{a0:Rl_}{a1:Rl_}{r:Rl_}(hr:q9i a0 a1=some r):Ok Tryz.prog 58 [Rl_.x m a0,Rl_.x m a1] [] (.ag [dI r.N,.ref 0 none]) [.row .fz 1 (r.Rows.map (A.D.i .i64))]:=by
 refine OE Tryz.func58 fun S hS=>?_
 unfold q9i at hr
 refine J g<|J (BX' 0)<|J (BX' 1)<|J (NV' 2)<|bdE hr fun y1 hy1 hr=>J g<|J (CB' [(0,3)] [] (z3C (m:=m) hy1))<|J (NV' 4)<|bdE hr fun y2 hy2 hr=>J g<|J (CB' [] [] (q5Y (m:=m) hy2))<|bdE hr fun s1 hqq1 hr=>q0a 4 [(2,.pb 0 0),(3,.pb 1 0),(4,.pb 2 0),(5,.pb 4 0),(14,dB s1)] ?_ ?_
 replace hr:=hqq1
 refine ifE hr ?_ ?_<;>intro h1 hr
 refine bdE hr fun y3 hy3 hr=>J g<|J (CB' [] [] (q5Y (m:=m) hy3))<|e
 exact e
 refine bdE hr fun s2 hqq2 hr=>q0a 7 [(3,.pb 1 0),(4,.pb 2 0),(5,.pb 4 0),(21,dB s2)] ?_ ?_
 replace hr:=hqq2
 refine ifE hr ?_ ?_<;>intro h2 hr
 exact e
 exact e
 refine J (gn 1)<|ifE hr ?_ ?_<;>intro h3 hr
 refine J (gn 9)<|J (rngT 24)<|fun hl1=>bdE hr fun s3 hqq3 hr=>q0m hqq3 5 (fun k1 s3=>[(3,.pb 1 0),(4,.pb 2 0),(5,.pb 4 0),(24,dI (y1.Rows.length:Int)),(25,dI (k1:Int))]) (fun k1 s3=>[(3,.row .fz 1 (s3.map (A.D.i .i64)))]) I (fun k1 sk1 ok1 hr hltk1=>?_) ?_
 obtain⟨s3,rfl⟩:∃ y,y=sk1:=⟨_,rfl⟩
 refine bdE hr fun x1 hx1 hr=>bdE hr fun x2 hx2 hr=>ggE hr fun g1 hr=>J g<|J (OB' _ (bOrI g1))<|J g<|J (SE' ((x1.toNat ||| x2.toNat:Nat):Int) hx1)<|e
 exact e
 exact e
theorem z9y {m:Md}{a0:(List Int)}{a1:(List Int)}{r:Bool}(hr:z1Q a0 a1=some r):Ok Tryz.prog 117 [.d m (.sl 1 (a0.map (A.D.i .i64))),.d m (.sl 1 (a1.map (A.D.i .i64)))] [] (dB r) []:=by
 refine OE Tryz.func117 fun S hS=>?_
 unfold z1Q at hr
 refine J (gn 13)<|ifE hr ?_ ?_<;>intro h1 hr
 refine J (gn 10)<|J (lenT 0)<|fun hl1=>bdE hr fun q1 hqq1 hr=>q0b hqq1 hl1 0 (fun k1 _=>[(0,.d m (.sl 1 (a0.map (A.D.i .i64)))),(1,.d m (.sl 1 (a1.map (A.D.i .i64)))),(12,dI (a0.length:Int)),(13,dI (k1:Int))]) (fun k1 _=>[]) I (fun k1 xk1 sk1 ok1 hxk1 hr hltk1 hik1=>?_) fun k1 sk1 ek1 hltk1=>?_
 refine bdE hr fun x1 hx1 hr=>J (gn 26)<|ifE hr ?_ ?_<;>intro h2 hr
 exact e
 exact e
 subst ek1
 exact e
 exact e
theorem j1h {m:Md}{a0:Rl_}{a1:Rl_}{r:Bool}(hr:z0N a0 a1=some r):Ok Tryz.prog 60 [Rl_.x m a0,Rl_.x m a1] [] (dB r) []:=by
 refine OE Tryz.func60 fun S hS=>?_
 unfold z0N at hr
 refine J g<|J (BX' 0)<|J (BX' 1)<|J (gn 9)<|ifE hr ?_ ?_<;>intro h1 hr
 refine bdE hr fun y1 hy1 hr=>J g<|J (CB' [] [] (z9y (m:=m) hy1))<|e
 exact e
theorem j3Q {m:Md}{a0:Rl_}{r:Bool}(hr:z2l a0=some r):Ok Tryz.prog 41 [Rl_.x m a0] [] (dB r) []:=by
 refine OE Tryz.func41 fun S hS=>?_
 unfold z2l at hr
 refine J g<|J (BX' 0)<|bdE hr fun y1 hy1 hr=>J g<|J (CB' [(0,1)] [] (z6p (m:=m) hy1))<|J (NV' 2)<|J (gn 11)<|J (lenR 1)<|fun hl1=>bdE hr fun q1 hqq1 hr=>q0b hqq1 hl1 3 (fun k1 _=>[(3,.pb 2 0),(9,dI (y1.Rows.length:Int)),(10,dI (k1:Int))]) (fun k1 _=>[]) I (fun k1 xk1 sk1 ok1 hxk1 hr hltk1 hik1=>?_) fun k1 sk1 ek1 hltk1=>?_
 refine bdE hr fun y2 hy2 hr=>J g<|J (CB' [] [1] (z6U (m:=.bo) hy2))<|J (gn 1)<|ifE hr ?_ ?_<;>intro h1 hr
 exact e
 exact e
 subst ek1
 exact e
theorem j3R {m:Md}{a0:Expr}{r:Bool}(hr:z2W a0=some r):Ok Tryz.prog 234 [Expr.x m a0] [] (dB r) []:=by
 refine OE Tryz.func234 fun S hS=>?_
 unfold z2W at hr
 refine J g<|J (BX' 0)<|e
theorem z3S {rec_ieveryNode_iHasRemote_1:Expr→Option Bool}(ih_ieveryNode_iHasRemote_1:∀ {m:Md} {a0:Expr} {r:Bool},rec_ieveryNode_iHasRemote_1 a0=some r→Ok Tryz.prog 183 [Expr.x m a0,.fn 234 []] [] (dB r) []){m:Md}{a0:Expr}{r:Bool}(hr:q6j rec_ieveryNode_iHasRemote_1 a0=some r):Ok Tryz.prog 236 [Expr.x m a0,.pb 0 0] [.box [.fn 234 []]] (dB r) [.box [.fn 234 []]]:=by
 refine OE Tryz.func236 fun S hS=>?_
 unfold q6j at hr
 refine J g<|J (BX' 1)<|bdE hr fun y1 hy1 hr=>J g<|J (CB' [] [] (ih_ieveryNode_iHasRemote_1 (m:=m) hy1))<|e
theorem q7O {rec_ieveryNode_iHasRemote_1:Expr→Option Bool}(ih_ieveryNode_iHasRemote_1:∀ {m:Md} {a0:Expr} {r:Bool},rec_ieveryNode_iHasRemote_1 a0=some r→Ok Tryz.prog 183 [Expr.x m a0,.fn 234 []] [] (dB r) []){m:Md}{a0:(List Expr)}{r:Int}(hr:q4b rec_ieveryNode_iHasRemote_1 a0=some r):Ok Tryz.prog 233 [.d m (.sl 7 (a0.map Expr.D)),.fn 236 [.pb 0 0]] [.box [.fn 234 []]] (dI r) [.box [.fn 234 []]]:=by
 refine OE Tryz.func233 fun S hS=>?_
 unfold q4b at hr
 refine J (gn 12)<|J (lenT 0)<|fun hl1=>bdE hr fun q1 hqq1 hr=>q0b hqq1 hl1 1 (fun k1 _=>[(0,.d m (.sl 7 (a0.map Expr.D))),(1,.fn 236 [.pb 0 0]),(7,dI (a0.length:Int)),(8,dI (k1:Int))]) (fun k1 _=>[]) I (fun k1 xk1 sk1 ok1 hxk1 hr hltk1 hik1=>?_) fun k1 sk1 ek1 hltk1=>?_
 refine bdE hr fun y1 hy1 hr=>J g<|J (CB' [(0,0)] [] (z3S ih_ieveryNode_iHasRemote_1 (m:=m) hy1))<|J (gn 1)<|ifE hr ?_ ?_<;>intro h1 hr
 exact e
 exact e
 subst ek1
 exact e
theorem q7h {rec_ieveryNode_iHasRemote_1:Expr→Option Bool}(ih_ieveryNode_iHasRemote_1:∀ {m:Md} {a0:Expr} {r:Bool},rec_ieveryNode_iHasRemote_1 a0=some r→Ok Tryz.prog 183 [Expr.x m a0,.fn 234 []] [] (dB r) []){m:Md}{a0:(List Expr)}{r:Bool}(hr:q3W rec_ieveryNode_iHasRemote_1 a0=some r):Ok Tryz.prog 176 [.d m (.sl 7 (a0.map Expr.D)),.fn 236 [.pb 0 0]] [.box [.fn 234 []]] (dB r) [.box [.fn 234 []]]:=by
 refine OE Tryz.func176 fun S hS=>?_
 unfold q3W at hr
 refine bdE hr fun y1 hy1 hr=>J g<|J (CB' [(0,0)] [] (q7O ih_ieveryNode_iHasRemote_1 (m:=m) hy1))<|e
theorem z4R {rec_ieveryNode_iHasRemote_1:Expr→Option Bool}(ih_ieveryNode_iHasRemote_1:∀ {m:Md} {a0:Expr} {r:Bool},rec_ieveryNode_iHasRemote_1 a0=some r→Ok Tryz.prog 183 [Expr.x m a0,.fn 234 []] [] (dB r) []){m:Md}{a0:Expr}{r:Bool}(hr:q5Q rec_ieveryNode_iHasRemote_1 a0=some r):Ok Tryz.prog 183 [Expr.x m a0,.fn 234 []] [] (dB r) []:=by
 refine OE Tryz.func183 fun S hS=>?_
 unfold q5Q at hr
 refine J g<|J (BX' 0)<|J (BX' 1)<|bdE hr fun y1 hy1 hr=>J g<|J (CB' [] [] (j3R (m:=m) hy1))<|ifE hr ?_ ?_<;>intro h1 hr
 refine bdE hr fun y2 hy2 hr=>J g<|J (CB' [(0,1)] [] (q7h ih_ieveryNode_iHasRemote_1 (m:=m) hy2))<|e
 exact e
theorem z4S (n:Nat):∀ {m:Md} {a0:Expr} {r:Bool},q5R n a0=some r→Ok Tryz.prog 183 [Expr.x m a0,.fn 234 []] [] (dB r) []:=by
  induction n with
  | zero=>intro _ _ r hr;exact nomatch (show (none:Option Bool)=some r from hr)
  | succ n ih=>intro _ _ r hr;exact z4R ih hr
theorem z5e {m:Md}{a0:Expr}{r:Bool}(hr:q8i a0=some r):Ok Tryz.prog 183 [Expr.x m a0,.fn 234 []] [] (dB r) []:=by
 obtain⟨n,hn⟩:=q5Z hr
 exact z4S n hn
theorem j6F {m:Md}{a0:Expr}{r:Bool}(hr:z3q a0=some r):Ok Tryz.prog 178 [Expr.x m a0] [] (dB r) []:=by
 refine OE Tryz.func178 fun S hS=>?_
 unfold z3q at hr
 refine J g<|J (BX' 0)<|bdE hr fun y1 hy1 hr=>J g<|J (CB' [] [] (z5e (m:=m) hy1))<|e
theorem z1b {m:Md}{a0:(List Expr)}{r:Int}(hr:q5p a0=some r):Ok Tryz.prog 233 [.d m (.sl 7 (a0.map Expr.D)),.fn 178 []] [] (dI r) []:=by
 refine OE Tryz.func233 fun S hS=>?_
 unfold q5p at hr
 refine J (gn 12)<|J (lenT 0)<|fun hl1=>bdE hr fun q1 hqq1 hr=>q0b hqq1 hl1 0 (fun k1 _=>[(0,.d m (.sl 7 (a0.map Expr.D))),(1,.fn 178 []),(7,dI (a0.length:Int)),(8,dI (k1:Int))]) (fun k1 _=>[]) I (fun k1 xk1 sk1 ok1 hxk1 hr hltk1 hik1=>?_) fun k1 sk1 ek1 hltk1=>?_
 refine bdE hr fun y1 hy1 hr=>J g<|J (CB' [] [] (j6F (m:=m) hy1))<|J (gn 1)<|ifE hr ?_ ?_<;>intro h1 hr
 exact e
 exact e
 subst ek1
 exact e
theorem z0q {m:Md}{a0:(List Expr)}{r:Bool}(hr:q5e a0=some r):Ok Tryz.prog 176 [.d m (.sl 7 (a0.map Expr.D)),.fn 178 []] [] (dB r) []:=by
 refine OE Tryz.func176 fun S hS=>?_
 unfold q5e at hr
 refine bdE hr fun y1 hy1 hr=>J g<|J (CB' [] [] (z1b (m:=m) hy1))<|e
theorem j3S {m:Md}{a0:Rule}{r:Bool}(hr:z2X a0=some r):Ok Tryz.prog 175 [Rule.x m a0] [] (dB r) []:=by
 refine OE Tryz.func175 fun S hS=>?_
 unfold z2X at hr
 refine J g<|J (BX' 0)<|bdE hr fun y1 hy1 hr=>J g<|J (CB' [(0,1)] [] (z8l (m:=m) hy1))<|bdE hr fun y2 hy2 hr=>J (CB' [] [1] (z0q (m:=.bo) hy2))<|e
theorem z0y {m:Md}{a0:(List Rule)}{r:Int}(hr:q5g a0=some r):Ok Tryz.prog 232 [.d m (.sl 6 (a0.map Rule.D)),.fn 175 []] [] (dI r) []:=by
 refine OE Tryz.func232 fun S hS=>?_
 unfold q5g at hr
 refine J (gn 12)<|J (lenT 0)<|fun hl1=>bdE hr fun q1 hqq1 hr=>q0b hqq1 hl1 0 (fun k1 _=>[(0,.d m (.sl 6 (a0.map Rule.D))),(1,.fn 175 []),(7,dI (a0.length:Int)),(8,dI (k1:Int))]) (fun k1 _=>[]) I (fun k1 xk1 sk1 ok1 hxk1 hr hltk1 hik1=>?_) fun k1 sk1 ek1 hltk1=>?_
 refine bdE hr fun y1 hy1 hr=>J g<|J (CB' [] [] (j3S (m:=m) hy1))<|J (gn 1)<|ifE hr ?_ ?_<;>intro h1 hr
 exact e
 exact e
 subst ek1
 exact e
theorem q9M {m:Md}{a0:(List Rule)}{r:Bool}(hr:q4W a0=some r):Ok Tryz.prog 174 [.d m (.sl 6 (a0.map Rule.D)),.fn 175 []] [] (dB r) []:=by
 refine OE Tryz.func174 fun S hS=>?_
 unfold q4W at hr
 refine bdE hr fun y1 hy1 hr=>J g<|J (CB' [] [] (z0y (m:=m) hy1))<|e
theorem j6G {m:Md}{a0:Grammar}{r:Bool}(hr:z3r a0=some r):Ok Tryz.prog 120 [.ag [.u,.d m (.sl 6 (a0.Rules.map Rule.D))]] [] (dB r) []:=by
 refine OE Tryz.func120 fun S hS=>?_
 unfold z3r at hr
 refine J g<|J (BX' 0)<|bdE hr fun y1 hy1 hr=>J g<|J (CB' [] [] (q9M (m:=m) hy1))<|e
theorem j3T {a0:At_}{r:Bool}(hr:z2Y a0=some r):Ok Tryz.prog 122 [At_.x .fz a0] [] (dB r) []:=by
 refine OE Tryz.func122 fun S hS=>?_
 unfold z2Y at hr
 refine J g<|J (BX' 0)<|e
theorem q9l {m:Md}{a0:(List At_)}{r:Int}(hr:q4G a0=some r):Ok Tryz.prog 235 [.d m (.sl 4 (a0.map At_.D)),.fn 122 []] [] (dI r) []:=by
 refine OE Tryz.func235 fun S hS=>?_
 unfold q4G at hr
 refine J (gn 12)<|J (lenT 0)<|fun hl1=>bdE hr fun q1 hqq1 hr=>q0b hqq1 hl1 0 (fun k1 _=>[(0,.d m (.sl 4 (a0.map At_.D))),(1,.fn 122 []),(7,dI (a0.length:Int)),(8,dI (k1:Int))]) (fun k1 _=>[]) I (fun k1 xk1 sk1 ok1 hxk1 hr hltk1 hik1=>?_) fun k1 sk1 ek1 hltk1=>?_
 refine bdE hr fun y1 hy1 hr=>J g<|J (CB' [] [] (j3T hy1))<|J (gn 1)<|ifE hr ?_ ?_<;>intro h1 hr
 exact e
 exact e
 subst ek1
 exact e
theorem q8D {m:Md}{a0:(List At_)}{r:Bool}(hr:q4s a0=some r):Ok Tryz.prog 181 [.d m (.sl 4 (a0.map At_.D)),.fn 122 []] [] (dB r) []:=by
 refine OE Tryz.func181 fun S hS=>?_
 unfold q4s at hr
 refine bdE hr fun y1 hy1 hr=>J g<|J (CB' [] [] (q9l (m:=m) hy1))<|e
theorem z2z {m:Md}{a0:Symbol}{r:Bool}(hr:q5M a0=some r):Ok Tryz.prog 180 [Symbol.x m a0,.pb 0 0] [.box [.fn 122 []]] (dB r) [.box [.fn 122 []]]:=by
 refine OE Tryz.func180 fun S hS=>?_
 unfold q5M at hr
 refine J g<|J (BX' 1)<|bdE hr fun y1 hy1 hr=>J g<|J (CB' [] [] (q8D (m:=m) hy1))<|e
theorem q6Y {m:Md}{a0:(List Symbol)}{r:Int}(hr:q3Q a0=some r):Ok Tryz.prog 112 [.d m (.sl 2 (a0.map Symbol.D)),.fn 180 [.pb 0 0]] [.box [.fn 122 []]] (dI r) [.box [.fn 122 []]]:=by
 refine OE Tryz.func112 fun S hS=>?_
 unfold q3Q at hr
 refine J (gn 12)<|J (lenT 0)<|fun hl1=>bdE hr fun q1 hqq1 hr=>q0b hqq1 hl1 1 (fun k1 _=>[(0,.d m (.sl 2 (a0.map Symbol.D))),(1,.fn 180 [.pb 0 0]),(7,dI (a0.length:Int)),(8,dI (k1:Int))]) (fun k1 _=>[]) I (fun k1 xk1 sk1 ok1 hxk1 hr hltk1 hik1=>?_) fun k1 sk1 ek1 hltk1=>?_
 refine bdE hr fun y1 hy1 hr=>J g<|J (CB' [(0,0)] [] (z2z (m:=m) hy1))<|J (gn 1)<|ifE hr ?_ ?_<;>intro h1 hr
 exact e
 exact e
 subst ek1
 exact e
theorem q6F {m:Md}{a0:(List Symbol)}{r:Bool}(hr:q3L a0=some r):Ok Tryz.prog 179 [.d m (.sl 2 (a0.map Symbol.D)),.fn 180 [.pb 0 0]] [.box [.fn 122 []]] (dB r) [.box [.fn 122 []]]:=by
 refine OE Tryz.func179 fun S hS=>?_
 unfold q3L at hr
 refine bdE hr fun y1 hy1 hr=>J g<|J (CB' [(0,0)] [] (q6Y (m:=m) hy1))<|e
theorem z3D {m:Md}{a0:Grammar}{r:Bool}(hr:q5z a0=some r):Ok Tryz.prog 121 [Grammar.y m a0,.fn 122 []] [] (dB r) []:=by
 refine OE Tryz.func121 fun S hS=>?_
 unfold q5z at hr
 refine J g<|J (BX' 0)<|J (BX' 1)<|bdE hr fun y1 hy1 hr=>J g<|J (CB' [(0,1)] [] (q6F (m:=m) hy1))<|e
theorem j5a {a0:At_}{r:Bool}(hr:z3P a0=some r):Ok Tryz.prog 123 [At_.x .fz a0] [] (dB r) []:=by
 refine OE Tryz.func123 fun S hS=>?_
 unfold z3P at hr
 refine J g<|J (BX' 0)<|e
theorem q9A {m:Md}{a0:(List At_)}{r:Int}(hr:q4O a0=some r):Ok Tryz.prog 235 [.d m (.sl 4 (a0.map At_.D)),.fn 123 []] [] (dI r) []:=by
 refine OE Tryz.func235 fun S hS=>?_
 unfold q4O at hr
 refine J (gn 12)<|J (lenT 0)<|fun hl1=>bdE hr fun q1 hqq1 hr=>q0b hqq1 hl1 0 (fun k1 _=>[(0,.d m (.sl 4 (a0.map At_.D))),(1,.fn 123 []),(7,dI (a0.length:Int)),(8,dI (k1:Int))]) (fun k1 _=>[]) I (fun k1 xk1 sk1 ok1 hxk1 hr hltk1 hik1=>?_) fun k1 sk1 ek1 hltk1=>?_
 refine bdE hr fun y1 hy1 hr=>J g<|J (CB' [] [] (j5a hy1))<|J (gn 1)<|ifE hr ?_ ?_<;>intro h1 hr
 exact e
 exact e
 subst ek1
 exact e
theorem q8I {m:Md}{a0:(List At_)}{r:Bool}(hr:q4y a0=some r):Ok Tryz.prog 181 [.d m (.sl 4 (a0.map At_.D)),.fn 123 []] [] (dB r) []:=by
 refine OE Tryz.func181 fun S hS=>?_
 unfold q4y at hr
 refine bdE hr fun y1 hy1 hr=>J g<|J (CB' [] [] (q9A (m:=m) hy1))<|e
theorem z3w {m:Md}{a0:Symbol}{r:Bool}(hr:q5V a0=some r):Ok Tryz.prog 180 [Symbol.x m a0,.pb 0 0] [.box [.fn 123 []]] (dB r) [.box [.fn 123 []]]:=by
 refine OE Tryz.func180 fun S hS=>?_
 unfold q5V at hr
 refine J g<|J (BX' 1)<|bdE hr fun y1 hy1 hr=>J g<|J (CB' [] [] (q8I (m:=m) hy1))<|e
theorem q7f {m:Md}{a0:(List Symbol)}{r:Int}(hr:q3U a0=some r):Ok Tryz.prog 112 [.d m (.sl 2 (a0.map Symbol.D)),.fn 180 [.pb 0 0]] [.box [.fn 123 []]] (dI r) [.box [.fn 123 []]]:=by
 refine OE Tryz.func112 fun S hS=>?_
 unfold q3U at hr
 refine J (gn 12)<|J (lenT 0)<|fun hl1=>bdE hr fun q1 hqq1 hr=>q0b hqq1 hl1 1 (fun k1 _=>[(0,.d m (.sl 2 (a0.map Symbol.D))),(1,.fn 180 [.pb 0 0]),(7,dI (a0.length:Int)),(8,dI (k1:Int))]) (fun k1 _=>[]) I (fun k1 xk1 sk1 ok1 hxk1 hr hltk1 hik1=>?_) fun k1 sk1 ek1 hltk1=>?_
 refine bdE hr fun y1 hy1 hr=>J g<|J (CB' [(0,0)] [] (z3w (m:=m) hy1))<|J (gn 1)<|ifE hr ?_ ?_<;>intro h1 hr
 exact e
 exact e
 subst ek1
 exact e
theorem q6J {m:Md}{a0:(List Symbol)}{r:Bool}(hr:q3O a0=some r):Ok Tryz.prog 179 [.d m (.sl 2 (a0.map Symbol.D)),.fn 180 [.pb 0 0]] [.box [.fn 123 []]] (dB r) [.box [.fn 123 []]]:=by
 refine OE Tryz.func179 fun S hS=>?_
 unfold q3O at hr
 refine bdE hr fun y1 hy1 hr=>J g<|J (CB' [(0,0)] [] (q7f (m:=m) hy1))<|e
theorem z3T {m:Md}{a0:Grammar}{r:Bool}(hr:q5D a0=some r):Ok Tryz.prog 121 [Grammar.y m a0,.fn 123 []] [] (dB r) []:=by
 refine OE Tryz.func121 fun S hS=>?_
 unfold q5D at hr
 refine J g<|J (BX' 0)<|J (BX' 1)<|bdE hr fun y1 hy1 hr=>J g<|J (CB' [(0,1)] [] (q6J (m:=m) hy1))<|e
theorem j8j {m:Md}{a0:Grammar}{r:Bool}(hr:z4J a0=some r):Ok Tryz.prog 69 [Grammar.x m a0] [] (dB r) []:=by
 refine OE Tryz.func69 fun S hS=>?_
 unfold z4J at hr
 refine J g<|J (BX' 0)<|bdE hr fun y1 hy1 hr=>J g<|J (CB' [] [] (j8h (m:=m) hy1))<|bdE hr fun s1 hqq1 hr=>q0a 5 [(1,.pb 0 0),(2,dB false),(9,dB s1)] ?_ ?_
 replace hr:=hqq1
 refine ifE hr ?_ ?_<;>intro h1 hr
 refine bdE hr fun y2 hy2 hr=>J g<|J (CB' [] [] (j6G (m:=m) hy2))<|e
 exact e
 refine bdE hr fun s2 hqq2 hr=>q0a 5 [(1,.pb 0 0),(2,dB false),(14,dB s2)] ?_ ?_
 replace hr:=hqq2
 refine ifE hr ?_ ?_<;>intro h2 hr
 refine bdE hr fun y3 hy3 hr=>J g<|J (CB' [] [] (z3D (m:=m) hy3))<|e
 exact e
 refine bdE hr fun s3 hqq3 hr=>q0a 5 [(2,dB false),(19,dB s3)] ?_ ?_
 replace hr:=hqq3
 refine ifE hr ?_ ?_<;>intro h3 hr
 refine bdE hr fun y4 hy4 hr=>J g<|J (CB' [] [] (z3T (m:=m) hy4))<|e
 exact e
 exact e
theorem z9z {m:Md}{a0:Rl_}{a1:(List Int)}{r:Rl_}(hr:q8d a0 a1=some r):Ok Tryz.prog 74 [Rl_.x m a0,.d m (.sl 1 (a1.map (A.D.i .i64)))] [] (.ag [dI r.N,.ref 0 none]) [.row .fz 1 (r.Rows.map (A.D.i .i64))]:=by
 refine OE Tryz.func74 fun S hS=>?_
 unfold q8d at hr
 refine J g<|J (BX' 0)<|J (NV' 1)<|bdE hr fun y1 hy1 hr=>J g<|J (CB' [] [] (q5Y (m:=m) hy1))<|J (gn 1)<|ifE hr ?_ ?_<;>intro h1 hr
 refine J (gn 6)<|ifE hr ?_ ?_<;>intro h2 hr
 refine J (gn 7) ?_
 refine J (q0g (q0q (q:=1) (c:=1) (r:=2) .fz 1 rfl rfl rfl))<|J g<|E
 refine bdE hr fun y2 hy2 hr=>J g<|J (CB' [(0,2)] [] (z2y hy2))<|J (NV' 3)<|J (gn 10)<|J (lenT 1)<|fun hl1=>bdE hr fun s1 hqq1 hr=>q0c hqq1 hl1 4 (fun k1 s1=>[(1,.d m (.sl 1 (a1.map (A.D.i .i64)))),(2,.pb 0 0),(4,.pb 1 0),(5,.pb 3 0),(22,.d m (.sl 1 (a1.map (A.D.i .i64)))),(23,dI (a1.length:Int)),(24,dI (k1:Int))]) (fun k1 s1=>[(2,.row .fz 1 (s1.map (A.D.i .i64)))]) I (fun k1 xk1 sk1 ok1 hxk1 hr hltk1=>?_) fun k1 hltk1=>?_
 obtain⟨s1,rfl⟩:∃ y,y=sk1:=⟨_,rfl⟩
 refine J (gn 24)<|J (lenT 1)<|fun hl2=>bdE hr fun s2 hqq2 hr=>q0c hqq2 hl2 4 (fun k2 s2=>[(1,.d m (.sl 1 (a1.map (A.D.i .i64)))),(2,.pb 0 0),(4,.pb 1 0),(5,.pb 3 0),(6,dI (k1:Int)),(7,dI xk1),(22,.d m (.sl 1 (a1.map (A.D.i .i64)))),(23,dI (a1.length:Int)),(24,dI (k1:Int)),(29,.d m (.sl 1 (a1.map (A.D.i .i64)))),(30,dI (a1.length:Int)),(31,dI (k2:Int))]) (fun k2 s2=>[(2,.row .fz 1 (s2.map (A.D.i .i64)))]) I (fun k2 xk2 sk2 ok2 hxk2 hr hltk2=>?_) fun k2 hltk2=>?_
 obtain⟨s2,rfl⟩:∃ y,y=sk2:=⟨_,rfl⟩
 refine bdE hr fun s3 hqq3 hr=>J (gn 8)<|q0e 4 [(1,.d m (.sl 1 (a1.map (A.D.i .i64)))),(2,.pb 0 0),(4,.pb 1 0),(5,.pb 3 0),(6,dI (k1:Int)),(7,dI xk1),(22,.d m (.sl 1 (a1.map (A.D.i .i64)))),(23,dI (a1.length:Int)),(24,dI (k1:Int)),(29,.d m (.sl 1 (a1.map (A.D.i .i64)))),(30,dI (a1.length:Int)),(31,dI (k2:Int))] [(2,.row .fz 1 (s3.map (A.D.i .i64)))] ?_ ?_
 replace hr:=hqq3
 refine bdE hr fun y3 hy3 hr=>J g<|J (CB' [] [] (z6U (m:=m) hy3))<|J (gn 1)<|ifE hr ?_ ?_<;>intro h3 hr
 refine bdE hr fun x1 hx1 hr=>J g ?_
 refine J (CIU' (Int.natCast_nonneg _) rfl)<|ggE hr fun g1 hr=>J (OB' _ (k2g g1))<|ggE hr fun g2 hr=>J (OB' _ (bOrI g2))<|J g<|J (SE' ((x1.toNat ||| ((2 ^ (k2:Int).toNat:Nat):Int).toNat:Nat):Int) hx1)<|J g<|E
 exact e
 exact e
 exact e
 exact e
 refine J (gn 13) ?_
 refine J (q0g (q0q (q:=1) (c:=1) (r:=2) .fz 1 rfl rfl rfl))<|J g<|E
theorem z8W {m:Md}{a0:Grammar}{r:((List Rl_)×Bool)}(hr:q7I a0=some r):Ok Tryz.prog 23 [Grammar.x m a0] [] (.tu [.ref 0 none,dB r.2]) [.deep .fz 2 (r.1.map Rl_.W) []]:=by
 refine OE Tryz.func23 fun S hS=>?_
 unfold q7I at hr
 refine J g<|J (BX' 0)<|bdE hr fun y1 hy1 hr=>J g<|J (CB' [] [] (j8j (m:=m) hy1))<|J (gn 2)<|ifE hr ?_ ?_<;>intro h1 hr
 refine bdE hr fun y2 hy2 hr=>J g<|J (CB' [(0,1)] [] (j0z (m:=m) hy2))<|bdE hr fun q1 hqq1 hr=>J (gn 7)<|AW.cut 2 (fun s1=>[(4,.ref 1 none)]) (fun s1=>[(1,.deep .fz 2 (s1.map Rl_.W) [])]) (M:=fun x=>q1=.inl x) ?_ fun x hx=>?_
 refine J g<|q0h hqq1 2 (fun (s2,s3)=>[(1,.pb 0 0),(4,.ref 1 none),(5,dB s3)]) (fun (s2,s3)=>[(1,.deep .fz 2 (s2.map Rl_.W) [])]) I fun sk1 ok1 hr hik1=>?_
 obtain⟨s2,s3⟩:=sk1
 have hr:=hr
 refine J (gn 5)<|ifE hr ?_ ?_<;>intro h2 hr
 refine J (gn 15)<|J (lenT 20)<|fun hl2=>bdE hr fun q2 hqq2 hr=>q0b hqq2 hl2 2 (fun k2 (s4,s5)=>[(1,.pb 0 0),(4,.ref 1 none),(5,dB s5),(20,.d m (.sl 6 (a0.Rules.map Rule.D))),(21,dI (a0.Rules.length:Int)),(22,dI (k2:Int))]) (fun k2 (s4,s5)=>[(1,.deep .fz 2 (s4.map Rl_.W) [])]) I (fun k2 xk2 sk2 ok2 hxk2 hr hltk2 hik2=>?_) fun k2 sk2 ek2 hltk2=>?_
 obtain⟨s4,s5⟩:=sk2
 unfold q5L at hr
 dsimp only at hr
 refine J g<|J (NV' 2)<|bdE hr fun y3 hy3 hr=>J g<|J (CB' [(0,3)] [] (j1f (m:=m) hy3))<|J (NV' 4)<|ggE hr fun g1 hr=>J (gn 12)<|J (rngT 32)<|fun hl3=>bdP hr fun s6 s7 hqq3 hr=>q0m hqq3 5 (fun k3 (s6,s7)=>[(1,.pb 0 0),(4,.ref 1 none),(5,dB s5),(7,.pb 2 0),(8,.pb 4 0),(20,.d m (.sl 6 (a0.Rules.map Rule.D))),(21,dI (a0.Rules.length:Int)),(22,dI (k2:Int)),(32,dI ((xk2.Right.length+1:Nat):Int)),(33,dI (k3:Int))]) (fun k3 (s6,s7)=>[(3,.row .fz 1 (s6.map (A.D.i .i64))),(4,.box [dI s7,.ref 3 none])]) I (fun k3 sk3 ok3 hr hltk3=>?_) ?_
 obtain⟨s6,s7⟩:=sk3
 refine bdE hr fun y4 hy4 hr=>bdE hr fun y5 hy5 hr=>ggE hr fun g2 hr=>bdE hr fun x1 hx1 hr=>J (gn 14)<|J (q1I 1 y5.toNat 1 5 (q3E hx1))<|J g<|J (CB' [] [] (q9Z (m:=m) hy4))<|J (CB' [] [] (z4P (m:=m) hy5))<|J (IEd' g2 (q3D (q3E hx1)))<|J (k8C [(1,5)] (q3D (q3E hx1)))<|bdE hr fun y6 hy6 hr=>J (CB' [(0,3),(1,6)] [5] (k3R (m:=.bo) hy6))<|J (gn 6) ?_
 cases hr
 exact GH.trans (q0n 1 y5.toNat 1 5 (q3D (q3E hx1)) (hx:=.flatM (fun _=>rfl))) (GH.trans (q0p 1 (he:=k8B (f:=Rl_.W) hx1 (by first|rfl|(simp only[List.set_set];rfl)))) (q0o hS [(0,0),(1,1),(2,2),(6,3),(4,4)] 5))
 refine bdE hr fun y7 hy7 hr=>J g<|J (CB' [(0,5)] [3] (z6p (m:=.bo) hy7))<|bdE hr fun y8 hy8 hr=>J g<|J (CB' [] [5] (j3Q (m:=.bo) hy8))<|J (gn 1)<|ifE hr ?_ ?_<;>intro h3 hr
 refine J (gn 7) ?_
 refine J (q0g (q0x (t:=2) (r:=6) .fz 2 rfl rfl))<|J (q0g (q0J 6 Rl_.W))<|J g<|E
 refine ggE hr fun g3 hr=>J (gn 11)<|J (rngT 32)<|fun hl4=>bdP hr fun s8 s9 hqq4 hr=>q0m hqq4 6 (fun k4 (s8,s9)=>[(1,.pb 0 0),(4,.ref 1 none),(5,dB s9),(7,.pb 2 0),(8,.pb 4 0),(20,.d m (.sl 6 (a0.Rules.map Rule.D))),(21,dI (a0.Rules.length:Int)),(22,dI (k2:Int)),(57,dI ((xk2.Right.length+1:Nat):Int)),(58,dI (k4:Int))]) (fun k4 (s8,s9)=>[(1,.deep .fz 2 (s8.map Rl_.W) [])]) I (fun k4 sk4 ok4 hr hltk4=>?_) ?_
 obtain⟨s8,s9⟩:=sk4
 refine bdP hr fun s10 s11 hqq5 hr=>J (gn 8)<|q0e 6 [(1,.pb 0 0),(4,.ref 1 none),(5,dB s10),(7,.pb 2 0),(8,.pb 4 0),(20,.d m (.sl 6 (a0.Rules.map Rule.D))),(21,dI (a0.Rules.length:Int)),(22,dI (k2:Int)),(57,dI ((xk2.Right.length+1:Nat):Int)),(58,dI (k4:Int))] [(1,.deep .fz 2 (s11.map Rl_.W) [])] ?_ ?_
 replace hr:=hqq5
 refine bdE hr fun y9 hy9 hr=>J g<|J (CB' [] [] (q9Z (m:=m) hy9))<|bdE hr fun y10 hy10 hr=>J (CB' [] [] (z4P (m:=m) hy10))<|ggE hr fun g4 hr=>bdE hr fun x2 hx2 hr=>J (gn 2)<|J (q1I 1 y10.toNat 1 6 (q3E hx2))<|J g<|J (IEd' g4 (q3D (q3E hx2)))<|J (k8C [(1,6)] (q3D (q3E hx2)))<|bdE hr fun y11 hy11 hr=>J g<|J (CB' [(0,7)] [] (z4Q (m:=m) hy11))<|bdE hr fun y12 hy12 hr=>J (CB' [(0,8)] [5,7] (z9z (m:=.bo) hy12))<|bdE hr fun y13 hy13 hr=>J (CB' [(0,9)] [6,8] (j1g (m:=.bo) hy13))<|J (NV' 10)<|J (gn 5)<|ifE hr ?_ ?_<;>intro h4 hr
 refine J (gn 9)<|J (q0L .refl)<|J g<|J (IEd' g4 (q3D (q3E hx2)))<|J (SD' [.d .fz (.i .i64 y13.N),.w 1 (y13.Rows.map (A.D.i .i64))] [9] (q3D (q3E hx2)))<|J (gn 1) ?_
 cases hr
 exact GH.trans (q0p 1 (he:=eset (f:=Rl_.W) (x':=y13) (by first|rfl|(simp only[List.set_set];rfl)))) (q0d hS 6)
 refine J g<|J (IEd' g4 (q3D (q3E hx2)))<|J (k8C [(1,6)] (q3D (q3E hx2)))<|bdE hr fun y14 hy14 hr=>J (CB' [] [9,6] (j1h (m:=.bo) hy14))<|J (gn 2)<|J (q0L .refl)<|J g<|J (IEd' g4 (q3D (q3E hx2)))<|J (SD' [.d .fz (.i .i64 y13.N),.w 1 (y13.Rows.map (A.D.i .i64))] [9] (q3D (q3E hx2)))<|J (gn 1) ?_
 cases hr
 exact GH.trans (q0p 1 (he:=eset (f:=Rl_.W) (x':=y13) (by first|rfl|(simp only[List.set_set];rfl)))) (q0d hS 6)
 exact e
 exact e
 subst ek2
 obtain⟨s4,s5⟩:=sk2
 exact e
 refine J (gn 2) ?_
 cases hr
 cases hik1 _ rfl
 exact⟨_,rfl,q0d hS 2⟩
 subst hx
 obtain⟨s1,rfl⟩:∃ y,y=x:=⟨_,rfl⟩
 exact e
 refine J (gn 7) ?_
 refine J (q0g (q0x (t:=2) (r:=1) .fz 2 rfl rfl))<|J (q0g (q0J 1 Rl_.W))<|J g<|E
theorem z8X {m:Md}{a0:(List Bool)}{a1:Bool}{r:Int}(hr:q7J a0 a1=some r):Ok Tryz.prog 190 [.d m (.sl 1 (a0.map A.D.b)),dB a1] [] (dI r) []:=by
 refine OE Tryz.func190 fun S hS=>?_
 unfold q7J at hr
 refine J (gn 12)<|J (lenT 0)<|fun hl1=>bdE hr fun q1 hqq1 hr=>q0b hqq1 hl1 0 (fun k1 _=>[(0,.d m (.sl 1 (a0.map A.D.b))),(1,dB a1),(7,dI (a0.length:Int)),(8,dI (k1:Int))]) (fun k1 _=>[]) I (fun k1 xk1 sk1 ok1 hxk1 hr hltk1 hik1=>?_) fun k1 sk1 ek1 hltk1=>?_
 refine J g ?_
 refine J (BQ' rfl rfl)<|J (gn 1)<|ifE hr ?_ ?_<;>intro h1 hr
 exact e
 exact e
 subst ek1
 exact e
theorem z6V {m:Md}{a0:(List Bool)}{a1:Bool}{r:Bool}(hr:q5P a0 a1=some r):Ok Tryz.prog 132 [.d m (.sl 1 (a0.map A.D.b)),dB a1] [] (dB r) []:=by
 refine OE Tryz.func132 fun S hS=>?_
 unfold q5P at hr
 refine bdE hr fun y1 hy1 hr=>J g<|J (CB' [] [] (z8X (m:=m) hy1))<|e
theorem j5b {m2:Md}{a0:Int}{a1:(List At_)}{a2:Rl_}{a3:(List Bool)}{r:Bool}(hr:z0k a0 a1 a2 a3=some r):Ok Tryz.prog 130 [dI a0,.pb 0 0,.pb 1 0,.pb 2 0] [.box [.d m2 (.sl 4 (a1.map At_.D))],.box [dI a2.N,.d m2 (.sl 1 (a2.Rows.map (A.D.i .i64)))],.box [.ref 3 none],.row .fz 1 (a3.map A.D.b)] (dB r) [.box [.d m2 (.sl 4 (a1.map At_.D))],.box [dI a2.N,.d m2 (.sl 1 (a2.Rows.map (A.D.i .i64)))],.box [.ref 3 none],.row .fz 1 (a3.map A.D.b)]:=by
 refine OE Tryz.func130 fun S hS=>?_
 unfold z0k at hr
 refine J (gn 12)<|J (lenT 7)<|fun hl1=>bdE hr fun q1 hqq1 hr=>q0b hqq1 hl1 4 (fun k1 _=>[(0,dI a0),(2,.pb 1 0),(3,.pb 2 0),(8,dI (a1.length:Int)),(9,dI (k1:Int))]) (fun k1 _=>[]) I (fun k1 xk1 sk1 ok1 hxk1 hr hltk1 hik1=>?_) fun k1 sk1 ek1 hltk1=>?_
 refine bdE hr fun y1 hy1 hr=>J g<|J (CB' [] [] (z6U (m:=m2) hy1))<|ifE hr ?_ ?_<;>intro h1 hr
 refine bdE hr fun x1 hx1 hr=>J (gn 8)<|ifE hr ?_ ?_<;>intro h2 hr
 exact e
 exact e
 exact e
 subst ek1
 exact e
theorem z0t {m2:Md}{a0:Int}{o0:(List At_)}{o1:Rl_}{o2:(List Bool)}{r:((List ByteArray)×(List Bool))}(hr:q4z a0 o0 o1 o2=some r):Ok Tryz.prog 131 [dI a0,.pb 0 0,.pb 2 0,.pb 3 0] [.box [.d m2 (.sl 4 (o0.map At_.D))],.box [dI o1.N,.d m2 (.sl 1 (o1.Rows.map (A.D.i .i64)))],.box [.ref 4 none],.box [.fn 130 [.pb 0 0,.pb 1 0,.pb 2 0]],.row .fz 1 (o2.map A.D.b)] (.ref 5 none) [.box [.d m2 (.sl 4 (o0.map At_.D))],.box [dI o1.N,.d m2 (.sl 1 (o1.Rows.map (A.D.i .i64)))],.box [.ref 4 none],.box [.fn 130 [.pb 0 0,.pb 1 0,.pb 2 0]],.row .fz 1 (r.2.map A.D.b),.row .fz 1 (r.1.map A.D.s)]:=by
 refine OE Tryz.func131 fun S hS=>?_
 unfold q4z at hr
 refine J g<|J (L0' 5 A.D.s)<|bdP hr fun s1 s2 hqq1 hr=>J (gn 7)<|q0e 6 [(6,.ref 5 none)] [(4,.row .fz 1 (s2.map A.D.b)),(5,.row .fz 1 (s1.map A.D.s))] ?_ ?_
 refine J g<|q0h hqq1 6 (fun (s3,s4,s5)=>[(0,dI a0),(1,.pb 0 0),(2,.pb 2 0),(3,.pb 3 0),(6,.ref 5 none),(7,dI s4)]) (fun (s3,s4,s5)=>[(4,.row .fz 1 (s5.map A.D.b)),(5,.row .fz 1 (s3.map A.D.s))]) I fun sk1 ok1 hr hik1=>?_
 obtain⟨s3,s4,s5⟩:=sk1
 have hr:=hr
 refine J (gn 8)<|ifE hr ?_ ?_<;>intro h1 hr
 refine bdT hr fun s6 s7 s8 hqq2 hr=>J (gn 3)<|q0e 6 [(0,dI a0),(1,.pb 0 0),(2,.pb 2 0),(3,.pb 3 0),(6,.ref 5 none),(7,dI s7)] [(4,.row .fz 1 (s8.map A.D.b)),(5,.row .fz 1 (s6.map A.D.s))] ?_ ?_
 replace hr:=hqq2
 refine ggE hr fun g1 hr=>bdE hr fun x1 hx1 hr=>bdE hr fun s9 hqq3 hr=>J (gn 10)<|q0a 7 [(0,dI a0),(1,.pb 0 0),(2,.pb 2 0),(3,.pb 3 0),(6,.ref 5 none),(7,dI s4),(28,dB s9)] ?_ ?_
 replace hr:=hqq3
 refine ifE hr ?_ ?_<;>intro h2 hr
 refine ggE hr fun g2 hr=>bdE hr fun x2 hx2 hr=>e
 exact e
 refine bdE hr fun s10 hqq4 hr=>q0a 5 [(0,dI a0),(1,.pb 0 0),(2,.pb 2 0),(3,.pb 3 0),(6,.ref 5 none),(7,dI s4),(33,dB s10)] ?_ ?_
 replace hr:=hqq4
 refine ifE hr ?_ ?_<;>intro h3 hr
 refine bdE hr fun y1 hy1 hr=>J g<|J (CB' [(0,0),(1,1),(2,2),(3,4)] [] (j5b (m2:=m2) hy1))<|e
 exact e
 refine J (gn 1)<|ifE hr ?_ ?_<;>intro h4 hr
 refine J g<|J (LIR' 6 (m:=.fz) (f:=A.D.s) (xs:=[x1.Name]))<|ggE hr fun g3 hr=>J (z3b (f:=A.D.s) 7 (fun _=>rfl) 16 g3)<|ggE hr fun g4 hr=>bdE hr fun x3 hx3 hr=>J g<|J (SE' true hx3)<|e
 exact e
 refine ggE hr fun g5 hr=>e
 refine J (gn 2) ?_
 cases hr
 cases hik1 _ rfl
 exact q0d hS 6
 exact e
theorem j8k {m:Md}{a0:(List At_)}{a1:Rl_}{r:((List Phase)×Bool)}(hr:z4L a0 a1=some r):Ok Tryz.prog 77 [.d m (.sl 4 (a0.map At_.D)),Rl_.x m a1] [] (.tu [.ref 0 none,dB r.2]) [.deep .fz 2 (r.1.map Phase.W) []]:=by
 refine OE Tryz.func77 fun S hS=>?_
 unfold z4L at hr
 refine J g<|J (BX' 0)<|J (BX' 1)<|bdE hr fun y1 hy1 hr=>J g<|J (CB' [] [] (q5Y (m:=m) hy1))<|bdE hr fun s1 hqq1 hr=>J (gn 1)<|q0a 7 [(2,.pb 0 0),(3,.pb 1 0),(20,dB s1)] ?_ ?_
 replace hr:=hqq1
 refine ifE hr ?_ ?_<;>intro h1 hr
 exact e
 exact e
 refine bdE hr fun s2 hqq2 hr=>q0a 4 [(2,.pb 0 0),(3,.pb 1 0),(24,dB s2)] ?_ ?_
 replace hr:=hqq2
 refine ifE hr ?_ ?_<;>intro h2 hr
 exact e
 refine bdE hr fun y2 hy2 hr=>J g<|J (CB' [] [] (j3Q (m:=m) hy2))<|e
 refine J (gn 1)<|ifE hr ?_ ?_<;>intro h3 hr
 refine J (gn 7) ?_
 refine J (q0g (q0x (t:=4) (r:=2) .fz 2 rfl rfl))<|J (q0g (q0J 2 Phase.W))<|J g<|E
 refine J g<|J (L0' 2 Phase.D)<|ggE hr fun g1 hr=>J g<|J (MKR' 3 (f:=A.D.b) false g1.1 g1.2.1 g1.2.2)<|J (NV' 4)<|J (gn 3)<|J (q3A 2 Phase.W)<|J g<|J (NV' 5)<|bdE hr fun q3 hqq3 hr=>J (gn 8)<|AW.cut 6 (fun (s3,s4)=>[(6,.ref 2 none)]) (fun (s3,s4)=>[(2,.deep .fz 2 (s3.map Phase.W) []),(3,.row .fz 1 (s4.map A.D.b))]) (M:=fun x=>q3=.inl x) ?_ fun x hx=>?_
 refine J g<|q0h hqq3 6 (fun (s5,s6)=>[(2,.pb 0 0),(6,.ref 2 none),(7,.pb 4 0),(9,.fn 131 [.pb 0 0,.pb 4 0,.pb 5 0])]) (fun (s5,s6)=>[(2,.deep .fz 2 (s5.map Phase.W) []),(3,.row .fz 1 (s6.map A.D.b))]) I fun sk1 ok1 hr hik1=>?_
 obtain⟨s5,s6⟩:=sk1
 have hr:=hr
 refine J g<|J (LEd' s5.length)<|bdE hr fun s7 hqq4 hr=>J (gn 1)<|q0a 4 [(2,.pb 0 0),(6,.ref 2 none),(7,.pb 4 0),(9,.fn 131 [.pb 0 0,.pb 4 0,.pb 5 0]),(37,dB s7)] ?_ ?_
 replace hr:=hqq4
 refine ifE hr ?_ ?_<;>intro h4 hr
 exact e
 refine bdE hr fun y3 hy3 hr=>J g<|J (CB' [] [3] (z6V (m:=.bo) hy3))<|e
 refine J (gn 1)<|ifE hr ?_ ?_<;>intro h5 hr
 refine bdP hr fun y4 z1 hq5 hr=>J g<|J (CB' [(0,0),(1,1),(2,4),(3,5),(4,3),(5,6)] [] (z0t (m2:=m) hq5))<|J g<|J (NV' 7)<|bdP hr fun y5 z2 hq6 hr=>J g<|J (CB' [(0,0),(1,1),(2,4),(3,5),(4,3),(5,8)] [] (z0t (m2:=m) hq6))<|bdE hr fun s8 hqq7 hr=>J (gn 9)<|q0a 10 [(2,.pb 0 0),(6,.ref 2 none),(7,.pb 4 0),(9,.fn 131 [.pb 0 0,.pb 4 0,.pb 5 0]),(10,.pb 7 0),(56,dB s8)] ?_ ?_
 replace hr:=hqq7
 refine ifE hr ?_ ?_<;>intro h6 hr
 refine ggE hr fun g2 hr=>J g<|J (OB' _ (z3z (p:=y4.length) (q:=y5.length) g2))<|e
 exact e
 refine J (gn 1)<|ifE hr ?_ ?_<;>intro h7 hr
 refine J (gn 7) ?_
 refine J (q0g (q0x (t:=4) (r:=9) .fz 2 rfl rfl))<|J (q0g (q0J 9 Phase.W))<|J g<|E
 refine J g<|J (LID' (f:=Phase.W) 9 (⟨y4,y5⟩:Phase) [6,8])<|ggE hr fun g3 hr=>J (k8D 10 48 g3)<|e
 refine J (gn 2) ?_
 cases hr
 cases hik1 _ rfl
 exact⟨_,rfl,q0d hS 6⟩
 subst hx
 obtain⟨s3,s4⟩:=x
 exact e
theorem j2p {m:Md}{a0:Grammar}{r:((List (List Phase))×Bool)}(hr:q6H a0=some r):Ok Tryz.prog 25 [Grammar.x m a0] [] (.tu [.ref 0 none,dB r.2]) [.deep .fz 1 (r.1.map (fun (l:List Phase)=>[Cell.w 2 (l.map Phase.D)])) []]:=by
 refine Ok.enter rfl Tryz.func25 rfl rfl rfl fun S hS=>?_
 unfold q6H at hr
 refine sr ?_
 refine BX 0 ?_
 refine N2 ?_
 refine sr ?_
 refine W1 ?_
 refine bdE hr fun q1 hq1 hr=>?_
 obtain⟨y1,y2⟩:=q1
 refine CB [(0,1)] [] (z8W (m:=m) hq1) ?_
 refine N5 ?_
 refine ssr ?_
 refine N2 ?_
 refine ifE hr (fun h1 hr=>?_) fun h1 hr=>?_
 refine q0B rfl (bnF h1) ?_
 refine q0l ?_
 refine sr ?_
 refine L0 2 (fun (l:List Phase)=>A.D.sl 2 (l.map Phase.D)) ?_
 refine q2W 2 (fun (l:List Phase)=>[Cell.w 2 (l.map Phase.D)]) ?_
 refine N1 ?_
 refine ssr ?_
 refine W2 ?_
 refine LF ?_
 refine N1 ?_
 refine AW.block ?_
 refine AW.len (.ag 0 (.tmp 0 rfl) rfl) fun hl1=>?_
 refine bdE hr fun q2 hqq2 hr=>?_
 refine q0b hqq2 hl1 3 (fun k1 s1=>[(1,.pb 0 0),(4,.ref 1 none),(6,.ref 2 none),(20,.d m (.sl 2 (a0.Symbols.map Symbol.D))),(21,dI (a0.Symbols.length:Int)),(22,dI (k1:Int))]) (fun k1 s1=>[(2,.deep .fz 1 (s1.map (fun (l:List Phase)=>[Cell.w 2 (l.map Phase.D)])) [])]) (q0d hS 3) (fun k1 xk1 sk1 ok1 hxk1 hr hltk1 hik1=>?_) fun k1 sk1 ek1 hltk1=>?_
 obtain⟨s1,rfl⟩:∃ y,y=sk1:=⟨_,rfl⟩
 refine sr ?_
 refine N1 ?_
 refine q0i (q0A rfl (dT hltk1) ?_)
 refine q0l ?_
 refine q0i (AW.block (q0i (q0j ?_)))
 refine W1 ?_
 refine IF (Int.natCast_nonneg _) hxk1 ?_
 refine W1 ?_
 refine NV 3 ?_
 refine W1 ?_
 refine SB ?_
 refine N0 ?_
 refine bdE hr fun y3 hy3 hr=>?_
 refine bdE hr fun x1 hx1 hr=>?_
 refine AW.out 1 k1 1 5 (q3E hx1) ?_
 refine q0i (q0r (h:=?_))
 refine W3 ?_
 refine CB [(0,4)] [] (z1a (m:=m) hy3) ?_
 refine W2 ?_
 refine IEd (Int.natCast_nonneg _) (q3D (q3E hx1)) ?_
 refine LPad [(1,5)] (q3D (q3E hx1)) ?_
 refine bdE hr fun q3 hq3 hr=>?_
 obtain⟨y4,y5⟩:=q3
 refine CB [(0,6)] [4,5] (j8k (m:=.bo) hq3) ?_
 refine N5 ?_
 refine ssr ?_
 refine N2 ?_
 refine ifE hr (fun h2 hr=>?_) fun h2 hr=>?_
 refine q0B rfl (bnF h2) ?_
 refine q0l ?_
 refine q0j ?_
 refine W2 ?_
 refine LID (f:=(fun (l:List Phase)=>[Cell.w 2 (l.map Phase.D)])) 7 y4 [6] ?_
 refine ggE hr fun g1 hr=>?_
 refine APD1 8 24 g1 ?_
 refine N1 ?_
 refine q0j ?_
 refine OB _ (z3z (p:=k1) (q:=1) (q5h hltk1 hl1)) ?_
 refine N1 ?_
 cases hr
 exact⟨_,rfl,GH.trans (q0n 1 k1 1 5 (q3D (q3E hx1)) (hx:=.flatM (fun _=>rfl))) (GH.trans (q0p 1 (he:=k8B (f:=Rl_.W) hx1 (by first|rfl|(simp only[List.set_set];rfl)))) (q0o hS [(0,0),(1,1),(8,2)] 3))⟩
 refine q0A rfl (bnT h2) ?_
 refine sr ?_
 refine N2 ?_
 refine q0y ?_
 refine endA.gh (q0n 1 k1 1 5 (q3D (q3E hx1)) (hx:=.flatM (fun _=>rfl))) ?_
 refine endA.gh (q0p 1 (he:=k8B (f:=Rl_.W) hx1 (by first|rfl|(simp only[List.set_set];rfl)))) ?_
 refine endA.gh (q0x (t:=2) (r:=7) .fz 1 rfl rfl) ?_
 refine endA.gh (q0J 7 (fun (l:List Phase)=>[Cell.w 2 (l.map Phase.D)])) ?_
 cases hr
 cases hik1 _ rfl
 rename_i hr
 cases hr
 exact q0k [(7,0)] 1 hS
 subst ek1
 obtain⟨s1,rfl⟩:∃ y,y=sk1:=⟨_,rfl⟩
 refine sr ?_
 refine N1 ?_
 refine q0i (q0B rfl (dF hltk1) ?_)
 refine q0t ?_
 refine sr ?_
 refine N3 ?_
 refine q0y ?_
 cases hr
 exact q0k [(2,0)] 1 hS
 refine q0A rfl (bnT h1) ?_
 refine sr ?_
 refine N2 ?_
 refine q0y ?_
 refine endA.gh (q0x (t:=2) (r:=2) .fz 1 rfl rfl) ?_
 refine endA.gh (q0J 2 (fun (l:List Phase)=>[Cell.w 2 (l.map Phase.D)])) ?_
 cases hr
 exact q0k [(2,0)] 1 hS
theorem j8l {m:Md}{a0:Grammar}{a1:(List (List Phase))}{a2:Rule}{r:visits}(hr:z6S a0 a1 a2=some r):Ok Tryz.prog 141 [Grammar.x m a0,.d m (.sl 1 (a1.map (fun (l:List Phase)=>A.D.sl 2 (l.map Phase.D)))),Rule.x m a2] [] (.pb 0 0) [.box [.d m (.sl 2 (r.g.Symbols.map Symbol.D)),.d m (.sl 6 (r.g.Rules.map Rule.D)),.d m (.sl 1 (r.phases.map (fun (l:List Phase)=>A.D.sl 2 (l.map Phase.D)))),dS r.r.Name,dS r.r.Left,.d m (.sl 1 (r.r.Right.map A.D.s)),dB r.r.Literal,.d m (.sl 9 (r.r.Equations.map Eqn.D)),.d m (.sl 16 (r.r.Contributions.map Cn.D)),.ref 1 none,.ref 2 none,.ref 3 none],.row .fz 2 (r.due.map Oc.D),.row .fz 2 (r.known.map Oc.D),.row .fz 1 (r.next.map (A.D.i .i64))]:=by
 refine OE Tryz.func141 fun S hS=>?_
 unfold z6S at hr
 refine J g<|J (BX' 0)<|J (BX' 1)<|bdE hr fun y1 hy1 hr=>J g<|J (CB' [(0,2)] [] (z8k (m:=m) hy1))<|ggE hr fun g1 hr=>ggE hr fun g2 hr=>J g<|MKRb 3 8 (f:=(A.D.i .i64)) (0:Int) g2.1 g2.2.1 g2.2.2 ?_
 refine J g<|J (BX' 4)<|J (gn 3) ?_
 refine J (q0g (q0q (q:=4) (c:=10) (r:=5) .fz 2 rfl rfl rfl))<|J g<|E
theorem q8Y {m2:Md}{a1:Int}{o0:visits}{r:(List Phase)}(hr:q5N a1 o0=some r):Ok Tryz.prog 142 [.pb 0 0,dI a1] [.box [.d m2 (.sl 2 (o0.g.Symbols.map Symbol.D)),.d m2 (.sl 6 (o0.g.Rules.map Rule.D)),.d m2 (.sl 1 (o0.phases.map (fun (l:List Phase)=>A.D.sl 2 (l.map Phase.D)))),dS o0.r.Name,dS o0.r.Left,.d m2 (.sl 1 (o0.r.Right.map A.D.s)),dB o0.r.Literal,.d m2 (.sl 9 (o0.r.Equations.map Eqn.D)),.d m2 (.sl 16 (o0.r.Contributions.map Cn.D)),.ref 1 none,.ref 2 none,.ref 3 none],.row .fz 2 (o0.due.map Oc.D),.row .fz 2 (o0.known.map Oc.D),.row .fz 1 (o0.next.map (A.D.i .i64))] (.d m2 (.sl 2 (r.map Phase.D))) [.box [.d m2 (.sl 2 (o0.g.Symbols.map Symbol.D)),.d m2 (.sl 6 (o0.g.Rules.map Rule.D)),.d m2 (.sl 1 (o0.phases.map (fun (l:List Phase)=>A.D.sl 2 (l.map Phase.D)))),dS o0.r.Name,dS o0.r.Left,.d m2 (.sl 1 (o0.r.Right.map A.D.s)),dB o0.r.Literal,.d m2 (.sl 9 (o0.r.Equations.map Eqn.D)),.d m2 (.sl 16 (o0.r.Contributions.map Cn.D)),.ref 1 none,.ref 2 none,.ref 3 none],.row .fz 2 (o0.due.map Oc.D),.row .fz 2 (o0.known.map Oc.D),.row .fz 1 (o0.next.map (A.D.i .i64))]:=by
 refine OE Tryz.func142 fun S hS=>?_
 unfold q5N at hr
 refine bdE hr fun y1 hy1 hr=>J g<|J (CB' [] [] (q9Z (m:=m2) hy1))<|bdE hr fun y2 hy2 hr=>J (CB' [] [] (z4P (m:=m2) hy2))<|J g<|J (OB' _ (k3D (p:=o0.phases.length) (k:=1) (by decide)))<|bdE hr fun y3 hy3 hr=>J (CB' [] [] (q4v hy3))<|J (gn 2)<|ifE hr ?_ ?_<;>intro h1 hr
 refine ggE hr fun g1 hr=>bdE hr fun x1 hx1 hr=>e
 refine J (gn 6) ?_
 cases hr
 exact endA.ren [(0,0),(1,1),(2,2),(3,3)] 4 (.inr rfl) hS rfl rfl rfl .nld rfl rfl
theorem z7q {m:Md}{m2:Md}{a1:Int}{a2:(List ByteArray)}{o0:visits}{r:visits}(hr:q8x a1 a2 o0=some r):Ok Tryz.prog 143 [.pb 0 0,dI a1,.d m (.sl 1 (a2.map A.D.s))] [.box [.d m2 (.sl 2 (o0.g.Symbols.map Symbol.D)),.d m2 (.sl 6 (o0.g.Rules.map Rule.D)),.d m2 (.sl 1 (o0.phases.map (fun (l:List Phase)=>A.D.sl 2 (l.map Phase.D)))),dS o0.r.Name,dS o0.r.Left,.d m2 (.sl 1 (o0.r.Right.map A.D.s)),dB o0.r.Literal,.d m2 (.sl 9 (o0.r.Equations.map Eqn.D)),.d m2 (.sl 16 (o0.r.Contributions.map Cn.D)),.ref 1 none,.ref 2 none,.ref 3 none],.row .fz 2 (o0.due.map Oc.D),.row .fz 2 (o0.known.map Oc.D),.row .fz 1 (o0.next.map (A.D.i .i64))] (.tu []) [.box [.d m2 (.sl 2 (o0.g.Symbols.map Symbol.D)),.d m2 (.sl 6 (o0.g.Rules.map Rule.D)),.d m2 (.sl 1 (o0.phases.map (fun (l:List Phase)=>A.D.sl 2 (l.map Phase.D)))),dS r.r.Name,dS r.r.Left,.d m2 (.sl 1 (o0.r.Right.map A.D.s)),dB r.r.Literal,.d m2 (.sl 9 (o0.r.Equations.map Eqn.D)),.d m2 (.sl 16 (o0.r.Contributions.map Cn.D)),.ref 1 none,.ref 4 none,.ref 3 none],.row .fz 2 (r.due.map Oc.D),.dead,.row .fz 1 (r.next.map (A.D.i .i64)),.row .fz 2 (r.known.map Oc.D)]:=by
 refine OE Tryz.func143 fun S hS=>?_
 unfold q8x at hr
 refine J (gn 7) ?_
 refine J (q0Z 2 4 rfl)<|J (lenT 2)<|fun hl1=>bdE hr fun s1 hqq1 hr=>q0c hqq1 hl1 5 (fun k1 s1=>[(0,.pb 0 0),(1,dI a1),(8,.d m (.sl 1 (a2.map A.D.s))),(9,dI (a2.length:Int)),(10,dI (k1:Int))]) (fun k1 s1=>[(4,.row .fz 2 (s1.map Oc.D))]) I (fun k1 xk1 sk1 ok1 hxk1 hr hltk1=>?_) fun k1 hltk1=>?_
 obtain⟨s1,rfl⟩:∃ y,y=sk1:=⟨_,rfl⟩
 refine J g<|J (LIR' 5 (m:=.fz) (f:=Oc.D) (xs:=[(⟨a1,xk1⟩:Oc)]))<|ggE hr fun g1 hr=>J (z3b (f:=Oc.D) 6 (fun _=>rfl) 24 g1)<|e
 exact e
theorem z8Y {m2:Md}{a0:Oc}{a1_0:visits}{r:Bool}(hr:q8T a0 a1_0=some r):Ok Tryz.prog 242 [Oc.x .fz a0,.pb 1 0] [.box [.d m2 (.sl 2 (a1_0.g.Symbols.map Symbol.D)),.d m2 (.sl 6 (a1_0.g.Rules.map Rule.D)),.d m2 (.sl 1 (a1_0.phases.map (fun (l:List Phase)=>A.D.sl 2 (l.map Phase.D)))),dS a1_0.r.Name,dS a1_0.r.Left,.d m2 (.sl 1 (a1_0.r.Right.map A.D.s)),dB a1_0.r.Literal,.d m2 (.sl 9 (a1_0.r.Equations.map Eqn.D)),.d m2 (.sl 16 (a1_0.r.Contributions.map Cn.D)),.ref 2 none,.ref 3 none,.ref 4 none],.box [.pb 0 0],.row .fz 2 (a1_0.due.map Oc.D),.row .fz 2 (a1_0.known.map Oc.D),.row .fz 1 (a1_0.next.map (A.D.i .i64))] (dB r) [.box [.d m2 (.sl 2 (a1_0.g.Symbols.map Symbol.D)),.d m2 (.sl 6 (a1_0.g.Rules.map Rule.D)),.d m2 (.sl 1 (a1_0.phases.map (fun (l:List Phase)=>A.D.sl 2 (l.map Phase.D)))),dS a1_0.r.Name,dS a1_0.r.Left,.d m2 (.sl 1 (a1_0.r.Right.map A.D.s)),dB a1_0.r.Literal,.d m2 (.sl 9 (a1_0.r.Equations.map Eqn.D)),.d m2 (.sl 16 (a1_0.r.Contributions.map Cn.D)),.ref 2 none,.ref 3 none,.ref 4 none],.box [.pb 0 0],.row .fz 2 (a1_0.due.map Oc.D),.row .fz 2 (a1_0.known.map Oc.D),.row .fz 1 (a1_0.next.map (A.D.i .i64))]:=by
 refine OE Tryz.func242 fun S hS=>?_
 unfold q8T at hr
 refine J g<|J (BX' 5)<|bdE hr fun y1 hy1 hr=>J g<|J (CB' [] [3] (q4S (m:=.bo) hy1))<|e
theorem q8g {m2:Md}{a0:(List Oc)}{a1_0_0:visits}{r:Int}(hr:q4k a0 a1_0_0=some r):Ok Tryz.prog 244 [.ref 2 none,.fn 242 [.pb 1 0]] [.box [.d m2 (.sl 2 (a1_0_0.g.Symbols.map Symbol.D)),.d m2 (.sl 6 (a1_0_0.g.Rules.map Rule.D)),.d m2 (.sl 1 (a1_0_0.phases.map (fun (l:List Phase)=>A.D.sl 2 (l.map Phase.D)))),dS a1_0_0.r.Name,dS a1_0_0.r.Left,.d m2 (.sl 1 (a1_0_0.r.Right.map A.D.s)),dB a1_0_0.r.Literal,.d m2 (.sl 9 (a1_0_0.r.Equations.map Eqn.D)),.d m2 (.sl 16 (a1_0_0.r.Contributions.map Cn.D)),.ref 3 none,.ref 4 none,.ref 5 none],.box [.pb 0 0],.row .fz 2 (a0.map Oc.D),.row .fz 2 (a1_0_0.due.map Oc.D),.row .fz 2 (a1_0_0.known.map Oc.D),.row .fz 1 (a1_0_0.next.map (A.D.i .i64))] (dI r) [.box [.d m2 (.sl 2 (a1_0_0.g.Symbols.map Symbol.D)),.d m2 (.sl 6 (a1_0_0.g.Rules.map Rule.D)),.d m2 (.sl 1 (a1_0_0.phases.map (fun (l:List Phase)=>A.D.sl 2 (l.map Phase.D)))),dS a1_0_0.r.Name,dS a1_0_0.r.Left,.d m2 (.sl 1 (a1_0_0.r.Right.map A.D.s)),dB a1_0_0.r.Literal,.d m2 (.sl 9 (a1_0_0.r.Equations.map Eqn.D)),.d m2 (.sl 16 (a1_0_0.r.Contributions.map Cn.D)),.ref 3 none,.ref 4 none,.ref 5 none],.box [.pb 0 0],.row .fz 2 (a0.map Oc.D),.row .fz 2 (a1_0_0.due.map Oc.D),.row .fz 2 (a1_0_0.known.map Oc.D),.row .fz 1 (a1_0_0.next.map (A.D.i .i64))]:=by
 refine OE Tryz.func244 fun S hS=>?_
 unfold q4k at hr
 refine J (gn 12)<|J (lenR 2)<|fun hl1=>bdE hr fun q1 hqq1 hr=>q0b hqq1 hl1 6 (fun k1 _=>[(0,.ref 2 none),(1,.fn 242 [.pb 1 0]),(7,dI (a0.length:Int)),(8,dI (k1:Int))]) (fun k1 _=>[]) I (fun k1 xk1 sk1 ok1 hxk1 hr hltk1 hik1=>?_) fun k1 sk1 ek1 hltk1=>?_
 refine bdE hr fun y1 hy1 hr=>J g<|J (CB' [(0,0),(1,1),(2,3),(3,4),(4,5)] [] (z8Y (m2:=m2) hy1))<|J (gn 1)<|ifE hr ?_ ?_<;>intro h1 hr
 exact e
 exact e
 subst ek1
 exact e
theorem q7L {m2:Md}{a0:(List Oc)}{a1_0_0:visits}{r:Bool}(hr:q3Y a0 a1_0_0=some r):Ok Tryz.prog 201 [.ref 2 none,.fn 242 [.pb 1 0]] [.box [.d m2 (.sl 2 (a1_0_0.g.Symbols.map Symbol.D)),.d m2 (.sl 6 (a1_0_0.g.Rules.map Rule.D)),.d m2 (.sl 1 (a1_0_0.phases.map (fun (l:List Phase)=>A.D.sl 2 (l.map Phase.D)))),dS a1_0_0.r.Name,dS a1_0_0.r.Left,.d m2 (.sl 1 (a1_0_0.r.Right.map A.D.s)),dB a1_0_0.r.Literal,.d m2 (.sl 9 (a1_0_0.r.Equations.map Eqn.D)),.d m2 (.sl 16 (a1_0_0.r.Contributions.map Cn.D)),.ref 3 none,.ref 4 none,.ref 5 none],.box [.pb 0 0],.row .fz 2 (a0.map Oc.D),.row .fz 2 (a1_0_0.due.map Oc.D),.row .fz 2 (a1_0_0.known.map Oc.D),.row .fz 1 (a1_0_0.next.map (A.D.i .i64))] (dB r) [.box [.d m2 (.sl 2 (a1_0_0.g.Symbols.map Symbol.D)),.d m2 (.sl 6 (a1_0_0.g.Rules.map Rule.D)),.d m2 (.sl 1 (a1_0_0.phases.map (fun (l:List Phase)=>A.D.sl 2 (l.map Phase.D)))),dS a1_0_0.r.Name,dS a1_0_0.r.Left,.d m2 (.sl 1 (a1_0_0.r.Right.map A.D.s)),dB a1_0_0.r.Literal,.d m2 (.sl 9 (a1_0_0.r.Equations.map Eqn.D)),.d m2 (.sl 16 (a1_0_0.r.Contributions.map Cn.D)),.ref 3 none,.ref 4 none,.ref 5 none],.box [.pb 0 0],.row .fz 2 (a0.map Oc.D),.row .fz 2 (a1_0_0.due.map Oc.D),.row .fz 2 (a1_0_0.known.map Oc.D),.row .fz 1 (a1_0_0.next.map (A.D.i .i64))]:=by
 refine OE Tryz.func201 fun S hS=>?_
 unfold q3Y at hr
 refine bdE hr fun y1 hy1 hr=>J g<|J (CB' [(0,0),(1,1),(2,2),(3,3),(4,4),(5,5)] [] (q8g (m2:=m2) hy1))<|e
theorem j0A {m2:Md}{a0:visits}{a1:Oc}{r:Bool}(hr:q8y a0 a1=some r):Ok Tryz.prog 195 [.pb 0 0,Oc.x .fz a1] [.box [.d m2 (.sl 2 (a0.g.Symbols.map Symbol.D)),.d m2 (.sl 6 (a0.g.Rules.map Rule.D)),.d m2 (.sl 1 (a0.phases.map (fun (l:List Phase)=>A.D.sl 2 (l.map Phase.D)))),dS a0.r.Name,dS a0.r.Left,.d m2 (.sl 1 (a0.r.Right.map A.D.s)),dB a0.r.Literal,.d m2 (.sl 9 (a0.r.Equations.map Eqn.D)),.d m2 (.sl 16 (a0.r.Contributions.map Cn.D)),.ref 1 none,.ref 2 none,.ref 3 none],.row .fz 2 (a0.due.map Oc.D),.row .fz 2 (a0.known.map Oc.D),.row .fz 1 (a0.next.map (A.D.i .i64))] (dB r) [.box [.d m2 (.sl 2 (a0.g.Symbols.map Symbol.D)),.d m2 (.sl 6 (a0.g.Rules.map Rule.D)),.d m2 (.sl 1 (a0.phases.map (fun (l:List Phase)=>A.D.sl 2 (l.map Phase.D)))),dS a0.r.Name,dS a0.r.Left,.d m2 (.sl 1 (a0.r.Right.map A.D.s)),dB a0.r.Literal,.d m2 (.sl 9 (a0.r.Equations.map Eqn.D)),.d m2 (.sl 16 (a0.r.Contributions.map Cn.D)),.ref 1 none,.ref 2 none,.ref 3 none],.row .fz 2 (a0.due.map Oc.D),.row .fz 2 (a0.known.map Oc.D),.row .fz 1 (a0.next.map (A.D.i .i64))]:=by
 refine OE Tryz.func195 fun S hS=>?_
 unfold q8y at hr
 refine J g<|J (BX' 4)<|J (BX' 5)<|bdE hr fun y1 hy1 hr=>J g<|J (CB' [] [1] (q4S (m:=.bo) hy1))<|J (gn 1)<|ifE hr ?_ ?_<;>intro h1 hr
 refine bdE hr fun y2 hy2 hr=>J g<|J (CB' [] [2] (q4S (m:=.bo) hy2))<|J (gn 2)<|ifE hr ?_ ?_<;>intro h2 hr
 exact e
 refine bdP hr fun y3 y4 hq1 hr=>J g<|J (CB' [(0,6)] [] (z7p (m:=m2) hq1))<|J g<|J (NV' 7)<|J (gn 6)<|ifE hr ?_ ?_<;>intro h3 hr
 refine bdE hr fun y5 hy5 hr=>J g<|J (CB' [(0,8)] [6] (z2w (m:=.bo) hy5))<|bdE hr fun y6 hy6 hr=>J g<|J (CB' [(0,0),(1,4),(2,8),(3,1),(4,2),(5,3)] [] (q7L (m2:=m2) hy6))<|e
 exact e
 exact e
theorem j0B {m2:Md}{a0:ByteArray}{a1_0:visits}{a2:Int}{r:Bool}(hr:z0l a0 a1_0 a2=some r):Ok Tryz.prog 199 [dS a0,.pb 1 0,.pb 2 0] [.box [.d m2 (.sl 2 (a1_0.g.Symbols.map Symbol.D)),.d m2 (.sl 6 (a1_0.g.Rules.map Rule.D)),.d m2 (.sl 1 (a1_0.phases.map (fun (l:List Phase)=>A.D.sl 2 (l.map Phase.D)))),dS a1_0.r.Name,dS a1_0.r.Left,.d m2 (.sl 1 (a1_0.r.Right.map A.D.s)),dB a1_0.r.Literal,.d m2 (.sl 9 (a1_0.r.Equations.map Eqn.D)),.d m2 (.sl 16 (a1_0.r.Contributions.map Cn.D)),.ref 3 none,.ref 4 none,.ref 5 none],.box [.pb 0 0],.box [dI a2],.row .fz 2 (a1_0.due.map Oc.D),.row .fz 2 (a1_0.known.map Oc.D),.row .fz 1 (a1_0.next.map (A.D.i .i64))] (dB r) [.box [.d m2 (.sl 2 (a1_0.g.Symbols.map Symbol.D)),.d m2 (.sl 6 (a1_0.g.Rules.map Rule.D)),.d m2 (.sl 1 (a1_0.phases.map (fun (l:List Phase)=>A.D.sl 2 (l.map Phase.D)))),dS a1_0.r.Name,dS a1_0.r.Left,.d m2 (.sl 1 (a1_0.r.Right.map A.D.s)),dB a1_0.r.Literal,.d m2 (.sl 9 (a1_0.r.Equations.map Eqn.D)),.d m2 (.sl 16 (a1_0.r.Contributions.map Cn.D)),.ref 3 none,.ref 4 none,.ref 5 none],.box [.pb 0 0],.box [dI a2],.row .fz 2 (a1_0.due.map Oc.D),.row .fz 2 (a1_0.known.map Oc.D),.row .fz 1 (a1_0.next.map (A.D.i .i64))]:=by
 refine OE Tryz.func199 fun S hS=>?_
 unfold z0l at hr
 refine bdE hr fun y1 hy1 hr=>J g<|J (CB' [] [4] (q4S (m:=.bo) hy1))<|e
theorem q9m {m:Md}{m2:Md}{a0:(List ByteArray)}{a1_0_0:visits}{a1_1:Int}{r:Int}(hr:q4H a0 a1_0_0 a1_1=some r):Ok Tryz.prog 243 [.d m (.sl 1 (a0.map A.D.s)),.fn 199 [.pb 1 0,.pb 2 0]] [.box [.d m2 (.sl 2 (a1_0_0.g.Symbols.map Symbol.D)),.d m2 (.sl 6 (a1_0_0.g.Rules.map Rule.D)),.d m2 (.sl 1 (a1_0_0.phases.map (fun (l:List Phase)=>A.D.sl 2 (l.map Phase.D)))),dS a1_0_0.r.Name,dS a1_0_0.r.Left,.d m2 (.sl 1 (a1_0_0.r.Right.map A.D.s)),dB a1_0_0.r.Literal,.d m2 (.sl 9 (a1_0_0.r.Equations.map Eqn.D)),.d m2 (.sl 16 (a1_0_0.r.Contributions.map Cn.D)),.ref 3 none,.ref 4 none,.ref 5 none],.box [.pb 0 0],.box [dI a1_1],.row .fz 2 (a1_0_0.due.map Oc.D),.row .fz 2 (a1_0_0.known.map Oc.D),.row .fz 1 (a1_0_0.next.map (A.D.i .i64))] (dI r) [.box [.d m2 (.sl 2 (a1_0_0.g.Symbols.map Symbol.D)),.d m2 (.sl 6 (a1_0_0.g.Rules.map Rule.D)),.d m2 (.sl 1 (a1_0_0.phases.map (fun (l:List Phase)=>A.D.sl 2 (l.map Phase.D)))),dS a1_0_0.r.Name,dS a1_0_0.r.Left,.d m2 (.sl 1 (a1_0_0.r.Right.map A.D.s)),dB a1_0_0.r.Literal,.d m2 (.sl 9 (a1_0_0.r.Equations.map Eqn.D)),.d m2 (.sl 16 (a1_0_0.r.Contributions.map Cn.D)),.ref 3 none,.ref 4 none,.ref 5 none],.box [.pb 0 0],.box [dI a1_1],.row .fz 2 (a1_0_0.due.map Oc.D),.row .fz 2 (a1_0_0.known.map Oc.D),.row .fz 1 (a1_0_0.next.map (A.D.i .i64))]:=by
 refine OE Tryz.func243 fun S hS=>?_
 unfold q4H at hr
 refine J (gn 12)<|J (lenT 0)<|fun hl1=>bdE hr fun q1 hqq1 hr=>q0b hqq1 hl1 6 (fun k1 _=>[(0,.d m (.sl 1 (a0.map A.D.s))),(1,.fn 199 [.pb 1 0,.pb 2 0]),(7,dI (a0.length:Int)),(8,dI (k1:Int))]) (fun k1 _=>[]) I (fun k1 xk1 sk1 ok1 hxk1 hr hltk1 hik1=>?_) fun k1 sk1 ek1 hltk1=>?_
 refine bdE hr fun y1 hy1 hr=>J g<|J (CB' [(0,0),(1,1),(2,2),(3,3),(4,4),(5,5)] [] (j0B (m2:=m2) hy1))<|J (gn 1)<|ifE hr ?_ ?_<;>intro h1 hr
 exact e
 exact e
 subst ek1
 exact e
theorem q8E {m:Md}{m2:Md}{a0:(List ByteArray)}{a1_0_0:visits}{a1_1:Int}{r:Bool}(hr:q4t a0 a1_0_0 a1_1=some r):Ok Tryz.prog 198 [.d m (.sl 1 (a0.map A.D.s)),.fn 199 [.pb 1 0,.pb 2 0]] [.box [.d m2 (.sl 2 (a1_0_0.g.Symbols.map Symbol.D)),.d m2 (.sl 6 (a1_0_0.g.Rules.map Rule.D)),.d m2 (.sl 1 (a1_0_0.phases.map (fun (l:List Phase)=>A.D.sl 2 (l.map Phase.D)))),dS a1_0_0.r.Name,dS a1_0_0.r.Left,.d m2 (.sl 1 (a1_0_0.r.Right.map A.D.s)),dB a1_0_0.r.Literal,.d m2 (.sl 9 (a1_0_0.r.Equations.map Eqn.D)),.d m2 (.sl 16 (a1_0_0.r.Contributions.map Cn.D)),.ref 3 none,.ref 4 none,.ref 5 none],.box [.pb 0 0],.box [dI a1_1],.row .fz 2 (a1_0_0.due.map Oc.D),.row .fz 2 (a1_0_0.known.map Oc.D),.row .fz 1 (a1_0_0.next.map (A.D.i .i64))] (dB r) [.box [.d m2 (.sl 2 (a1_0_0.g.Symbols.map Symbol.D)),.d m2 (.sl 6 (a1_0_0.g.Rules.map Rule.D)),.d m2 (.sl 1 (a1_0_0.phases.map (fun (l:List Phase)=>A.D.sl 2 (l.map Phase.D)))),dS a1_0_0.r.Name,dS a1_0_0.r.Left,.d m2 (.sl 1 (a1_0_0.r.Right.map A.D.s)),dB a1_0_0.r.Literal,.d m2 (.sl 9 (a1_0_0.r.Equations.map Eqn.D)),.d m2 (.sl 16 (a1_0_0.r.Contributions.map Cn.D)),.ref 3 none,.ref 4 none,.ref 5 none],.box [.pb 0 0],.box [dI a1_1],.row .fz 2 (a1_0_0.due.map Oc.D),.row .fz 2 (a1_0_0.known.map Oc.D),.row .fz 1 (a1_0_0.next.map (A.D.i .i64))]:=by
 refine OE Tryz.func198 fun S hS=>?_
 unfold q4t at hr
 refine bdE hr fun y1 hy1 hr=>J g<|J (CB' [(0,0),(1,1),(2,2),(3,3),(4,4),(5,5)] [] (q9m (m:=m) (m2:=m2) hy1))<|e
theorem z7r {m:Md}{m2:Md}{a0:visits}{a1:Int}{a2:(List ByteArray)}{r:Bool}(hr:q8z a0 a1 a2=some r):Ok Tryz.prog 145 [.pb 0 0,dI a1,.d m (.sl 1 (a2.map A.D.s))] [.box [.d m2 (.sl 2 (a0.g.Symbols.map Symbol.D)),.d m2 (.sl 6 (a0.g.Rules.map Rule.D)),.d m2 (.sl 1 (a0.phases.map (fun (l:List Phase)=>A.D.sl 2 (l.map Phase.D)))),dS a0.r.Name,dS a0.r.Left,.d m2 (.sl 1 (a0.r.Right.map A.D.s)),dB a0.r.Literal,.d m2 (.sl 9 (a0.r.Equations.map Eqn.D)),.d m2 (.sl 16 (a0.r.Contributions.map Cn.D)),.ref 1 none,.ref 2 none,.ref 3 none],.row .fz 2 (a0.due.map Oc.D),.row .fz 2 (a0.known.map Oc.D),.row .fz 1 (a0.next.map (A.D.i .i64))] (dB r) [.box [.d m2 (.sl 2 (a0.g.Symbols.map Symbol.D)),.d m2 (.sl 6 (a0.g.Rules.map Rule.D)),.d m2 (.sl 1 (a0.phases.map (fun (l:List Phase)=>A.D.sl 2 (l.map Phase.D)))),dS a0.r.Name,dS a0.r.Left,.d m2 (.sl 1 (a0.r.Right.map A.D.s)),dB a0.r.Literal,.d m2 (.sl 9 (a0.r.Equations.map Eqn.D)),.d m2 (.sl 16 (a0.r.Contributions.map Cn.D)),.ref 1 none,.ref 2 none,.ref 3 none],.row .fz 2 (a0.due.map Oc.D),.row .fz 2 (a0.known.map Oc.D),.row .fz 1 (a0.next.map (A.D.i .i64))]:=by
 refine OE Tryz.func145 fun S hS=>?_
 unfold q8z at hr
 refine J g<|J (BX' 4)<|J (BX' 5)<|bdE hr fun y1 hy1 hr=>J g<|J (CB' [(0,0),(1,4),(2,5),(3,1),(4,2),(5,3)] [] (q8E (m:=m) (m2:=m2) hy1))<|e
theorem z9A {m2:Md}{a0:visits}{a1:Int}{r:Bool}(hr:q8e a0 a1=some r):Ok Tryz.prog 196 [.pb 0 0,dI a1] [.box [.d m2 (.sl 2 (a0.g.Symbols.map Symbol.D)),.d m2 (.sl 6 (a0.g.Rules.map Rule.D)),.d m2 (.sl 1 (a0.phases.map (fun (l:List Phase)=>A.D.sl 2 (l.map Phase.D)))),dS a0.r.Name,dS a0.r.Left,.d m2 (.sl 1 (a0.r.Right.map A.D.s)),dB a0.r.Literal,.d m2 (.sl 9 (a0.r.Equations.map Eqn.D)),.d m2 (.sl 16 (a0.r.Contributions.map Cn.D)),.ref 1 none,.ref 2 none,.ref 3 none],.row .fz 2 (a0.due.map Oc.D),.row .fz 2 (a0.known.map Oc.D),.row .fz 1 (a0.next.map (A.D.i .i64))] (dB r) [.box [.d m2 (.sl 2 (a0.g.Symbols.map Symbol.D)),.d m2 (.sl 6 (a0.g.Rules.map Rule.D)),.d m2 (.sl 1 (a0.phases.map (fun (l:List Phase)=>A.D.sl 2 (l.map Phase.D)))),dS a0.r.Name,dS a0.r.Left,.d m2 (.sl 1 (a0.r.Right.map A.D.s)),dB a0.r.Literal,.d m2 (.sl 9 (a0.r.Equations.map Eqn.D)),.d m2 (.sl 16 (a0.r.Contributions.map Cn.D)),.ref 1 none,.ref 2 none,.ref 3 none],.row .fz 2 (a0.due.map Oc.D),.row .fz 2 (a0.known.map Oc.D),.row .fz 1 (a0.next.map (A.D.i .i64))]:=by
 refine OE Tryz.func196 fun S hS=>?_
 unfold q8e at hr
 refine bdE hr fun y1 hy1 hr=>J g<|J (CB' [(0,0),(1,1),(2,2),(3,3)] [] (q8Y (m2:=m2) hy1))<|bdE hr fun y2 hy2 hr=>J g<|J (CB' [] [] (q4v hy2))<|bdE hr fun s1 hqq1 hr=>q0a 12 [(0,.pb 0 0),(1,dI a1),(4,dB false),(5,.d m2 (.sl 2 (y1.map Phase.D))),(28,dB s1)] ?_ ?_
 replace hr:=hqq1
 refine ifE hr ?_ ?_<;>intro h1 hr
 refine ggE hr fun g1 hr=>bdE hr fun x1 hx1 hr=>e
 exact e
 refine bdE hr fun s2 hqq2 hr=>q0a 16 [(4,dB false),(44,dB s2)] ?_ ?_
 replace hr:=hqq2
 refine ifE hr ?_ ?_<;>intro h2 hr
 refine ggE hr fun g2 hr=>bdE hr fun x2 hx2 hr=>ggE hr fun g3 hr=>bdE hr fun x3 hx3 hr=>bdE hr fun y3 hy3 hr=>J g<|J (CB' [(0,0),(1,1),(2,2),(3,3)] [] (z7r (m:=m2) (m2:=m2) hy3))<|e
 exact e
 exact e
theorem j2q {m2:Md}{a1:Int}{o0:visits}{r:visits}(hr:q9Y a1 o0=some r):Ok Tryz.prog 197 [.pb 0 0,dI a1] [.box [.d m2 (.sl 2 (o0.g.Symbols.map Symbol.D)),.d m2 (.sl 6 (o0.g.Rules.map Rule.D)),.d m2 (.sl 1 (o0.phases.map (fun (l:List Phase)=>A.D.sl 2 (l.map Phase.D)))),dS o0.r.Name,dS o0.r.Left,.d m2 (.sl 1 (o0.r.Right.map A.D.s)),dB o0.r.Literal,.d m2 (.sl 9 (o0.r.Equations.map Eqn.D)),.d m2 (.sl 16 (o0.r.Contributions.map Cn.D)),.ref 1 none,.ref 2 none,.ref 3 none],.row .fz 2 (o0.due.map Oc.D),.row .fz 2 (o0.known.map Oc.D),.row .fz 1 (o0.next.map (A.D.i .i64))] (.tu []) [.box [.d m2 (.sl 2 (o0.g.Symbols.map Symbol.D)),.d m2 (.sl 6 (o0.g.Rules.map Rule.D)),.d m2 (.sl 1 (o0.phases.map (fun (l:List Phase)=>A.D.sl 2 (l.map Phase.D)))),dS r.r.Name,dS r.r.Left,.d m2 (.sl 1 (o0.r.Right.map A.D.s)),dB r.r.Literal,.d m2 (.sl 9 (o0.r.Equations.map Eqn.D)),.d m2 (.sl 16 (o0.r.Contributions.map Cn.D)),.ref 1 none,.ref 4 none,.ref 3 none],.row .fz 2 (r.due.map Oc.D),.dead,.row .fz 1 (r.next.map (A.D.i .i64)),.row .fz 2 (r.known.map Oc.D)]:=by
 refine OE Tryz.func197 fun S hS=>?_
 unfold q9Y at hr
 refine bdE hr fun y1 hy1 hr=>J g<|CBK2 [(0,0),(1,1),(2,2),(3,3)] [] [] (q8Y (m2:=m2) hy1) ?_
 refine ggE hr fun g1 hr=>bdE hr fun x1 hx1 hr=>ggE hr fun g2 hr=>bdE hr fun x2 hx2 hr=>bdE hr fun z1 hz1 hr=>J g<|J (CB' [(0,0),(1,1),(2,2),(3,3),(4,4)] [] (z7q (m:=m2) (m2:=m2) hz1))<|ggE hr fun g3 hr=>bdE hr fun x3 hx3 hr=>ggE hr fun g4 hr=>J g<|J (SE' (x3+1) hx3)<|e
theorem z8n {m2:Md}{o0:visits}{r:(Step×Bool×visits)}(hr:q8j o0=some r):Ok Tryz.prog 144 [.pb 0 0] [.box [.d m2 (.sl 2 (o0.g.Symbols.map Symbol.D)),.d m2 (.sl 6 (o0.g.Rules.map Rule.D)),.d m2 (.sl 1 (o0.phases.map (fun (l:List Phase)=>A.D.sl 2 (l.map Phase.D)))),dS o0.r.Name,dS o0.r.Left,.d m2 (.sl 1 (o0.r.Right.map A.D.s)),dB o0.r.Literal,.d m2 (.sl 9 (o0.r.Equations.map Eqn.D)),.d m2 (.sl 16 (o0.r.Contributions.map Cn.D)),.ref 1 none,.ref 2 none,.ref 3 none],.row .fz 2 (o0.due.map Oc.D),.row .fz 2 (o0.known.map Oc.D),.row .fz 1 (o0.next.map (A.D.i .i64))] (.tu [Step.x .fz r.1,dB r.2.1]) [.box [.d m2 (.sl 2 (o0.g.Symbols.map Symbol.D)),.d m2 (.sl 6 (o0.g.Rules.map Rule.D)),.d m2 (.sl 1 (o0.phases.map (fun (l:List Phase)=>A.D.sl 2 (l.map Phase.D)))),dS r.2.2.r.Name,dS r.2.2.r.Left,.d m2 (.sl 1 (o0.r.Right.map A.D.s)),dB r.2.2.r.Literal,.d m2 (.sl 9 (o0.r.Equations.map Eqn.D)),.d m2 (.sl 16 (o0.r.Contributions.map Cn.D)),.ref 1 none,.ref 4 none,.ref 3 none],.row .fz 2 (r.2.2.due.map Oc.D),.dead,.row .fz 1 (r.2.2.next.map (A.D.i .i64)),.row .fz 2 (r.2.2.known.map Oc.D)]:=by
 refine OE Tryz.func144 fun S hS=>?_
 unfold q8j at hr
 refine J g<|J (NV' 4)<|J (gn 13)<|J (lenR 1)<|fun hl1=>bdE hr fun q1 hqq1 hr=>q0b hqq1 hl1 5 (fun k1 _=>[(0,.pb 0 0),(2,.pb 4 0),(10,.ref 1 none),(11,dI (o0.due.length:Int)),(12,dI (k1:Int))]) (fun k1 _=>[]) I (fun k1 xk1 sk1 ok1 hxk1 hr hltk1 hik1=>?_) fun k1 sk1 ek1 hltk1=>?_
 refine J g<|J (NV' 5)<|bdE hr fun y1 hy1 hr=>J g<|J (CB' [(0,0),(1,1),(2,2),(3,3)] [] (j0A (m2:=m2) hy1))<|J (gn 1)<|ifE hr ?_ ?_<;>intro h1 hr
 refine J g<|J (LIR' 6 (m:=.fz) (f:=Oc.D) (xs:=[xk1]))<|ggE hr fun g1 hr=>J (z3b (f:=Oc.D) 7 (fun _=>rfl) 24 g1)<|e
 exact e
 subst ek1
 refine bdE hr fun q2 hqq2 hr=>J (gn 12)<|AW.cut 5 (fun _=>[(2,.pb 4 0)]) (fun _=>[]) (M:=fun x=>q2=.inl x) ?_ fun x hx=>?_
 refine J g<|q0h hqq2 5 (fun s1=>[(0,.pb 0 0),(2,.pb 4 0),(6,dI s1)]) (fun s1=>[]) I fun sk2 ok2 hr hik2=>?_
 obtain⟨s1,rfl⟩:∃ y,y=sk2:=⟨_,rfl⟩
 have hr:=hr
 refine J (gn 12)<|ifE hr ?_ ?_<;>intro h2 hr
 refine bdE hr fun y2 hy2 hr=>J g<|J (CB' [(0,0),(1,1),(2,2),(3,3)] [] (z9A (m2:=m2) hy2))<|J (gn 1)<|ifE hr ?_ ?_<;>intro h3 hr
 refine bdE hr fun z1 hz1 hr=>J g<|J (CB' [(0,0),(1,1),(2,2),(3,3),(4,5)] [] (j2q (m2:=m2) hz1))<|ggE hr fun g2 hr=>bdE hr fun x1 hx1 hr=>e
 refine ggE hr fun g3 hr=>e
 refine J (gn 2) ?_
 cases hr
 cases hik2 _ rfl
 exact⟨_,rfl,q0d hS 5⟩
 subst hx
 refine J (gn 7) ?_
 refine J (q0g (q0G (i:=2) (j:=5) rfl rfl))<|J g<|E
theorem z8o {m2:Md}{a0:Oc}{a1_0:visits}{r:Bool}(hr:q8r a0 a1_0=some r):Ok Tryz.prog 202 [Oc.x .fz a0,.pb 1 0] [.box [.d m2 (.sl 2 (a1_0.g.Symbols.map Symbol.D)),.d m2 (.sl 6 (a1_0.g.Rules.map Rule.D)),.d m2 (.sl 1 (a1_0.phases.map (fun (l:List Phase)=>A.D.sl 2 (l.map Phase.D)))),dS a1_0.r.Name,dS a1_0.r.Left,.d m2 (.sl 1 (a1_0.r.Right.map A.D.s)),dB a1_0.r.Literal,.d m2 (.sl 9 (a1_0.r.Equations.map Eqn.D)),.d m2 (.sl 16 (a1_0.r.Contributions.map Cn.D)),.ref 2 none,.ref 3 none,.ref 4 none],.box [.pb 0 0],.row .fz 2 (a1_0.due.map Oc.D),.row .fz 2 (a1_0.known.map Oc.D),.row .fz 1 (a1_0.next.map (A.D.i .i64))] (dB r) [.box [.d m2 (.sl 2 (a1_0.g.Symbols.map Symbol.D)),.d m2 (.sl 6 (a1_0.g.Rules.map Rule.D)),.d m2 (.sl 1 (a1_0.phases.map (fun (l:List Phase)=>A.D.sl 2 (l.map Phase.D)))),dS a1_0.r.Name,dS a1_0.r.Left,.d m2 (.sl 1 (a1_0.r.Right.map A.D.s)),dB a1_0.r.Literal,.d m2 (.sl 9 (a1_0.r.Equations.map Eqn.D)),.d m2 (.sl 16 (a1_0.r.Contributions.map Cn.D)),.ref 2 none,.ref 3 none,.ref 4 none],.box [.pb 0 0],.row .fz 2 (a1_0.due.map Oc.D),.row .fz 2 (a1_0.known.map Oc.D),.row .fz 1 (a1_0.next.map (A.D.i .i64))]:=by
 refine OE Tryz.func202 fun S hS=>?_
 unfold q8r at hr
 refine J g<|J (BX' 5)<|bdE hr fun y1 hy1 hr=>J g<|J (CB' [] [3] (q4S (m:=.bo) hy1))<|e
theorem q7R {m2:Md}{a0:(List Oc)}{a1_0_0:visits}{r:Int}(hr:q4g a0 a1_0_0=some r):Ok Tryz.prog 244 [.ref 2 none,.fn 202 [.pb 1 0]] [.box [.d m2 (.sl 2 (a1_0_0.g.Symbols.map Symbol.D)),.d m2 (.sl 6 (a1_0_0.g.Rules.map Rule.D)),.d m2 (.sl 1 (a1_0_0.phases.map (fun (l:List Phase)=>A.D.sl 2 (l.map Phase.D)))),dS a1_0_0.r.Name,dS a1_0_0.r.Left,.d m2 (.sl 1 (a1_0_0.r.Right.map A.D.s)),dB a1_0_0.r.Literal,.d m2 (.sl 9 (a1_0_0.r.Equations.map Eqn.D)),.d m2 (.sl 16 (a1_0_0.r.Contributions.map Cn.D)),.ref 2 none,.ref 3 none,.ref 4 none],.box [.pb 0 0],.row .fz 2 (a1_0_0.due.map Oc.D),.row .fz 2 (a1_0_0.known.map Oc.D),.row .fz 1 (a1_0_0.next.map (A.D.i .i64))] (dI r) [.box [.d m2 (.sl 2 (a1_0_0.g.Symbols.map Symbol.D)),.d m2 (.sl 6 (a1_0_0.g.Rules.map Rule.D)),.d m2 (.sl 1 (a1_0_0.phases.map (fun (l:List Phase)=>A.D.sl 2 (l.map Phase.D)))),dS a1_0_0.r.Name,dS a1_0_0.r.Left,.d m2 (.sl 1 (a1_0_0.r.Right.map A.D.s)),dB a1_0_0.r.Literal,.d m2 (.sl 9 (a1_0_0.r.Equations.map Eqn.D)),.d m2 (.sl 16 (a1_0_0.r.Contributions.map Cn.D)),.ref 2 none,.ref 3 none,.ref 4 none],.box [.pb 0 0],.row .fz 2 (a1_0_0.due.map Oc.D),.row .fz 2 (a1_0_0.known.map Oc.D),.row .fz 1 (a1_0_0.next.map (A.D.i .i64))]:=by
 refine OE Tryz.func244 fun S hS=>?_
 unfold q4g at hr
 refine J (gn 12)<|J (lenR 2)<|fun hl1=>bdE hr fun q1 hqq1 hr=>q0b hqq1 hl1 5 (fun k1 _=>[(0,.ref 2 none),(1,.fn 202 [.pb 1 0]),(7,dI (a1_0_0.due.length:Int)),(8,dI (k1:Int))]) (fun k1 _=>[]) I (fun k1 xk1 sk1 ok1 hxk1 hr hltk1 hik1=>?_) fun k1 sk1 ek1 hltk1=>?_
 refine bdE hr fun y1 hy1 hr=>J g<|J (CB' [(0,0),(1,1),(2,2),(3,3),(4,4)] [] (z8o (m2:=m2) hy1))<|J (gn 1)<|ifE hr ?_ ?_<;>intro h1 hr
 exact e
 exact e
 subst ek1
 exact e
theorem q7u {m2:Md}{a0:(List Oc)}{a1_0_0:visits}{r:Bool}(hr:q3G a0 a1_0_0=some r):Ok Tryz.prog 201 [.ref 2 none,.fn 202 [.pb 1 0]] [.box [.d m2 (.sl 2 (a1_0_0.g.Symbols.map Symbol.D)),.d m2 (.sl 6 (a1_0_0.g.Rules.map Rule.D)),.d m2 (.sl 1 (a1_0_0.phases.map (fun (l:List Phase)=>A.D.sl 2 (l.map Phase.D)))),dS a1_0_0.r.Name,dS a1_0_0.r.Left,.d m2 (.sl 1 (a1_0_0.r.Right.map A.D.s)),dB a1_0_0.r.Literal,.d m2 (.sl 9 (a1_0_0.r.Equations.map Eqn.D)),.d m2 (.sl 16 (a1_0_0.r.Contributions.map Cn.D)),.ref 2 none,.ref 3 none,.ref 4 none],.box [.pb 0 0],.row .fz 2 (a1_0_0.due.map Oc.D),.row .fz 2 (a1_0_0.known.map Oc.D),.row .fz 1 (a1_0_0.next.map (A.D.i .i64))] (dB r) [.box [.d m2 (.sl 2 (a1_0_0.g.Symbols.map Symbol.D)),.d m2 (.sl 6 (a1_0_0.g.Rules.map Rule.D)),.d m2 (.sl 1 (a1_0_0.phases.map (fun (l:List Phase)=>A.D.sl 2 (l.map Phase.D)))),dS a1_0_0.r.Name,dS a1_0_0.r.Left,.d m2 (.sl 1 (a1_0_0.r.Right.map A.D.s)),dB a1_0_0.r.Literal,.d m2 (.sl 9 (a1_0_0.r.Equations.map Eqn.D)),.d m2 (.sl 16 (a1_0_0.r.Contributions.map Cn.D)),.ref 2 none,.ref 3 none,.ref 4 none],.box [.pb 0 0],.row .fz 2 (a1_0_0.due.map Oc.D),.row .fz 2 (a1_0_0.known.map Oc.D),.row .fz 1 (a1_0_0.next.map (A.D.i .i64))]:=by
 refine OE Tryz.func201 fun S hS=>?_
 unfold q3G at hr
 refine bdE hr fun y1 hy1 hr=>J g<|J (CB' [(0,0),(1,1),(2,2),(3,3),(4,4)] [] (q7R (m2:=m2) hy1))<|e
theorem z9B {m2:Md}{a0:visits}{r:Bool}(hr:q6k a0=some r):Ok Tryz.prog 146 [.pb 0 0] [.box [.d m2 (.sl 2 (a0.g.Symbols.map Symbol.D)),.d m2 (.sl 6 (a0.g.Rules.map Rule.D)),.d m2 (.sl 1 (a0.phases.map (fun (l:List Phase)=>A.D.sl 2 (l.map Phase.D)))),dS a0.r.Name,dS a0.r.Left,.d m2 (.sl 1 (a0.r.Right.map A.D.s)),dB a0.r.Literal,.d m2 (.sl 9 (a0.r.Equations.map Eqn.D)),.d m2 (.sl 16 (a0.r.Contributions.map Cn.D)),.ref 1 none,.ref 2 none,.ref 3 none],.row .fz 2 (a0.due.map Oc.D),.row .fz 2 (a0.known.map Oc.D),.row .fz 1 (a0.next.map (A.D.i .i64))] (dB r) [.box [.d m2 (.sl 2 (a0.g.Symbols.map Symbol.D)),.d m2 (.sl 6 (a0.g.Rules.map Rule.D)),.d m2 (.sl 1 (a0.phases.map (fun (l:List Phase)=>A.D.sl 2 (l.map Phase.D)))),dS a0.r.Name,dS a0.r.Left,.d m2 (.sl 1 (a0.r.Right.map A.D.s)),dB a0.r.Literal,.d m2 (.sl 9 (a0.r.Equations.map Eqn.D)),.d m2 (.sl 16 (a0.r.Contributions.map Cn.D)),.ref 1 none,.ref 2 none,.ref 3 none],.row .fz 2 (a0.due.map Oc.D),.row .fz 2 (a0.known.map Oc.D),.row .fz 1 (a0.next.map (A.D.i .i64))]:=by
 refine OE Tryz.func146 fun S hS=>?_
 unfold q6k at hr
 refine J g<|J (BX' 4)<|bdE hr fun q1 hqq1 hr=>J (gn 7)<|AW.cut 5 (fun _=>[(1,.pb 4 0)]) (fun _=>[]) (M:=fun x=>q1=.inl x) ?_ fun x hx=>?_
 refine J g<|q0h hqq1 5 (fun s1=>[(1,.pb 4 0),(3,dI s1)]) (fun s1=>[]) I fun sk1 ok1 hr hik1=>?_
 obtain⟨s1,rfl⟩:∃ y,y=sk1:=⟨_,rfl⟩
 have hr:=hr
 refine J (gn 12)<|ifE hr ?_ ?_<;>intro h1 hr
 refine ggE hr fun g1 hr=>bdE hr fun x1 hx1 hr=>bdE hr fun y1 hy1 hr=>J g<|CBK2 [(0,0),(1,1),(2,2),(3,3)] [] [] (q8Y (m2:=m2) hy1) ?_
 refine J (gn 3)<|ifE hr ?_ ?_<;>intro h2 hr
 exact e
 refine ggE hr fun g2 hr=>e
 refine J (gn 2) ?_
 cases hr
 cases hik1 _ rfl
 exact⟨_,rfl,q0d hS 5⟩
 subst hx
 refine bdE hr fun y2 hy2 hr=>J g<|J (CB' [(0,0),(1,4),(2,1),(3,2),(4,3)] [] (q7u (m2:=m2) hy2))<|e
theorem k2o {m:Md}{a0:Grammar}{a1:(List (List Phase))}{a2:Rule}{r:(RPl_×Bool)}(hr:z6l a0 a1 a2=some r):Ok Tryz.prog 83 [Grammar.x m a0,.d m (.sl 1 (a1.map (fun (l:List Phase)=>A.D.sl 2 (l.map Phase.D)))),Rule.x m a2] [] (.tu [.ag [dS r.1.Rule,.ref 0 none],dB r.2]) [.row .fz 4 (r.1.Steps.map Step.D)]:=by
 refine Ok.enter rfl Tryz.func83 rfl rfl rfl fun S hS=>?_
 unfold z6l at hr
 refine sr ?_
 refine BX 0 ?_
 refine BX 1 ?_
 refine NV 2 ?_
 refine N1 ?_
 refine q0i (q0r (h:=?_))
 refine W3 ?_
 refine bdE hr fun y1 hy1 hr=>?_
 refine CB [(0,3),(1,4),(2,5),(3,6)] [] (j8l (m:=m) hy1) ?_
 refine W3 ?_
 refine NV 7 ?_
 refine W1 ?_
 refine SB ?_
 refine N0 ?_
 refine ssr ?_
 refine W1 ?_
 refine bdE hr fun y2 hy2 hr=>?_
 refine CB [(0,3),(1,4),(2,5),(3,6)] [] (q8Y (m2:=m) hy2) ?_
 refine LF ?_
 refine N1 ?_
 refine AW.block ?_
 refine q1F 7 1 8 .fz 4 rfl rfl ?_
 refine AW.len (.tmp 22 rfl) fun hl1=>?_
 refine bdE hr fun q1 hqq1 hr=>?_
 refine q0b hqq1 hl1 9 (fun k1 (s3,s4,s5,s6,s1,s7,s2)=>[(6,.pb 2 0),(8,.pb 3 0),(9,.pb 7 0),(22,.d m (.sl 2 (y2.map Phase.D))),(23,dI (y2.length:Int)),(24,dI (k1:Int))]) (fun k1 (s3,s4,s5,s6,s1,s7,s2)=>[(3,.box [.d m (.sl 2 (y1.g.Symbols.map Symbol.D)),.d m (.sl 6 (y1.g.Rules.map Rule.D)),.d m (.sl 1 (y1.phases.map (fun (l:List Phase)=>A.D.sl 2 (l.map Phase.D)))),dS s3,dS s4,.d m (.sl 1 (y1.r.Right.map A.D.s)),dB s5,.d m (.sl 9 (y1.r.Equations.map Eqn.D)),.d m (.sl 16 (y1.r.Contributions.map Cn.D)),.ref 4 none,.ref 5 none,.ref 6 none]),(4,.row .fz 2 (s6.map Oc.D)),(5,.row .fz 2 (s1.map Oc.D)),(6,.row .fz 1 (s7.map (A.D.i .i64))),(8,.row .fz 4 (s2.map Step.D))]) (q0d hS 9) (fun k1 xk1 sk1 ok1 hxk1 hr hltk1 hik1=>?_) fun k1 sk1 ek1 hltk1=>?_
 obtain⟨s3,s4,s5,s6,s1,s7,s2⟩:=sk1
 refine sr ?_
 refine N1 ?_
 refine q0i (q0A rfl (dT hltk1) ?_)
 refine q0l ?_
 refine q0i (AW.block (q0i (q0j ?_)))
 refine W1 ?_
 refine IF (Int.natCast_nonneg _) hxk1 ?_
 refine W1 ?_
 refine NV 9 ?_
 refine W1 ?_
 refine SB ?_
 refine N0 ?_
 refine sr ?_
 refine W3 ?_
 refine bdE hr fun z1 hz1 hr=>?_
 refine CB [(0,3),(1,4),(2,5),(3,6),(4,10)] [] (z7q (m:=m) (m2:=m) hz1) ?_
 refine N0 ?_
 refine ssr ?_
 refine W1 ?_
 refine bdE hr fun q2 hq2 hr=>?_
 obtain⟨y3,y4,z2⟩:=q2
 refine CB [(0,3),(1,4),(2,10),(3,6),(4,11)] [] (z8n (m2:=m) hq2) ?_
 refine W3 ?_
 refine NV 12 ?_
 refine SB ?_
 refine N1 ?_
 refine bdE hr fun q3 hqq3 hr=>?_
 obtain⟨s10,s11,s12,s13,s8,s14,s9,s15,s16,s17,s18⟩:=q3
 refine q0e 13 [(6,.pb 2 0),(8,.pb 3 0),(9,.pb 7 0),(10,dI (k1:Int)),(11,.pb 9 0),(22,.d m (.sl 2 (y2.map Phase.D))),(23,dI (y2.length:Int)),(24,dI (k1:Int))] [(3,.box [.d m (.sl 2 (y1.g.Symbols.map Symbol.D)),.d m (.sl 6 (y1.g.Rules.map Rule.D)),.d m (.sl 1 (y1.phases.map (fun (l:List Phase)=>A.D.sl 2 (l.map Phase.D)))),dS s10,dS s11,.d m (.sl 1 (y1.r.Right.map A.D.s)),dB s12,.d m (.sl 9 (y1.r.Equations.map Eqn.D)),.d m (.sl 16 (y1.r.Contributions.map Cn.D)),.ref 4 none,.ref 11 none,.ref 6 none]),(4,.row .fz 2 (s13.map Oc.D)),(5,.none),(6,.row .fz 1 (s14.map (A.D.i .i64))),(8,.row .fz 4 (s9.map Step.D)),(10,.none),(11,.row .fz 2 (s8.map Oc.D)),(12,.none)] ?_ ?_
 refine AW.block (q0h hqq3 13 (fun (s21,s22,s23,s24,s25,s26,s19,s27,s20)=>[(6,.pb 2 0),(8,.pb 3 0),(9,.pb 7 0),(10,dI (k1:Int)),(11,.pb 9 0),(12,.pb 12 0),(13,dB s22),(22,.d m (.sl 2 (y2.map Phase.D))),(23,dI (y2.length:Int)),(24,dI (k1:Int))]) (fun (s21,s22,s23,s24,s25,s26,s19,s27,s20)=>[(3,.box [.d m (.sl 2 (y1.g.Symbols.map Symbol.D)),.d m (.sl 6 (y1.g.Rules.map Rule.D)),.d m (.sl 1 (y1.phases.map (fun (l:List Phase)=>A.D.sl 2 (l.map Phase.D)))),dS s23,dS s24,.d m (.sl 1 (y1.r.Right.map A.D.s)),dB s25,.d m (.sl 9 (y1.r.Equations.map Eqn.D)),.d m (.sl 16 (y1.r.Contributions.map Cn.D)),.ref 4 none,.ref 11 none,.ref 6 none]),(4,.row .fz 2 (s26.map Oc.D)),(5,.none),(6,.row .fz 1 (s27.map (A.D.i .i64))),(8,.row .fz 4 (s20.map Step.D)),(10,.none),(11,.row .fz 2 (s19.map Oc.D)),(12,.box [dI s21.Kind,dI s21.Pos,dI s21.Visit,dS s21.Name])]) (q0o hS [(0,0),(1,1),(2,2),(3,3),(4,4),(6,6),(7,7),(8,8),(9,9),(11,11),(12,12)] 13) fun sk2 ok2 hr hik2=>?_)
 obtain⟨s21,s22,s23,s24,s25,s26,s19,s27,s20⟩:=sk2
 have hr:=hr
 refine ssr ?_
 refine N1 ?_
 refine ifE hr (fun h1 hr=>?_) fun h1 hr=>?_
 refine q0A rfl h1 ?_
 refine q0l ?_
 refine q0i (AW.block (q0j ?_))
 refine W3 ?_
 refine LIR 13 (m:=.fz) (f:=Step.D) (xs:=[s21]) ?_
 refine ggE hr fun g1 hr=>?_
 refine APf1 (f:=Step.D) 14 (fun _=>rfl) 40 g1 ?_
 refine W1 ?_
 refine SB ?_
 refine N0 ?_
 refine ssr ?_
 refine N1 ?_
 refine q0j ?_
 refine NV 15 ?_
 refine SB ?_
 refine N0 ?_
 refine q0j ?_
 refine W1 ?_
 refine bdE hr fun q4 hq4 hr=>?_
 obtain⟨y5,y6,z3⟩:=q4
 refine CB [(0,3),(1,4),(2,11),(3,6),(4,16)] [] (z8n (m2:=m) hq4) ?_
 refine W3 ?_
 refine SB ?_
 refine N1 ?_
 cases hr
 exact⟨_,rfl,q0o hS [(0,0),(1,1),(2,2),(3,3),(4,4),(6,6),(7,7),(14,8),(9,9),(16,11),(15,12)] 13⟩
 refine q0B rfl (bF h1) ?_
 refine q0t ?_
 cases hr
 cases hik2 _ rfl
 exact q0o hS [(0,0),(1,1),(2,2),(3,3),(4,4),(6,6),(7,7),(8,8),(9,9),(11,11)] 13
 refine ssr ?_
 refine W3 ?_
 refine bdE hr fun y7 hy7 hr=>?_
 refine CB [(0,3),(1,4),(2,11),(3,6)] [] (z7r (m:=m) (m2:=m) hy7) ?_
 refine N1 ?_
 refine ifE hr (fun h2 hr=>?_) fun h2 hr=>?_
 refine q0B rfl (bnF h2) ?_
 refine q0l ?_
 refine q0j ?_
 refine W3 ?_
 refine OB _ (z3z (p:=k1) (q:=1) (q5h hltk1 hl1)) ?_
 refine W1 ?_
 refine LIR 13 (m:=.fz) (f:=Step.D) (xs:=[(⟨3,0,((k1+1:Nat):Int),(⟨#[]⟩:ByteArray)⟩:Step)]) ?_
 refine ggE hr fun g2 hr=>?_
 refine APf1 (f:=Step.D) 14 (fun _=>rfl) 40 g2 ?_
 refine W1 ?_
 refine SB ?_
 refine N0 ?_
 refine q0j ?_
 refine OB _ (z3z (p:=k1) (q:=1) (q5h hltk1 hl1)) ?_
 refine N1 ?_
 cases hr
 exact⟨_,rfl,q0o hS [(0,0),(1,1),(2,2),(3,3),(4,4),(11,5),(6,6),(7,7),(14,8)] 9⟩
 refine q0A rfl (bnT h2) ?_
 refine sr ?_
 refine W1 ?_
 refine SB ?_
 refine N1 ?_
 refine q0y ?_
 refine endA.gh (q0q (q:=2) (c:=1) (r:=13) .fz 4 rfl rfl rfl) ?_
 cases hr
 cases hik1 _ rfl
 rename_i hr
 cases hr
 exact q0k [(13,0)] 1 hS
 subst ek1
 obtain⟨s3,s4,s5,s6,s1,s7,s2⟩:=sk1
 refine sr ?_
 refine N1 ?_
 refine q0i (q0B rfl (dF hltk1) ?_)
 refine q0t ?_
 refine q0i (q0r (h:=?_))
 refine W2 ?_
 refine bdE hr fun y8 hy8 hr=>?_
 refine CBK2 [(0,3),(1,4),(2,5),(3,6)] [] [] (z9B (m2:=m) hy8) ?_
 refine SB ?_
 refine N1 ?_
 refine q0y ?_
 cases hr
 exact q0k [(8,0)] 1 hS
theorem j0C {m:Md}{a0:Grammar}{r:((List RPl_)×Bool)}(hr:z1k a0=some r):Ok Tryz.prog 30 [Grammar.x m a0] [] (.tu [.ref 0 none,dB r.2]) [.deep .fz 2 (r.1.map RPl_.W) []]:=by
 refine OE Tryz.func30 fun S hS=>?_
 unfold z1k at hr
 refine J g<|J (BX' 0)<|bdP hr fun y1 y2 hq1 hr=>J g<|J (CB' [(0,1)] [] (j2p (m:=m) hq1))<|J (gn 12)<|ifE hr ?_ ?_<;>intro h1 hr
 refine J g<|J (L0' 2 RPl_.D)<|q2W 2 RPl_.W ?_
 refine J (gn 11)<|J (lenA 1 0)<|fun hl1=>bdE hr fun q2 hqq2 hr=>q0b hqq2 hl1 3 (fun k1 s1=>[(1,.pb 0 0),(4,.ref 1 none),(6,.ref 2 none),(20,.d m (.sl 6 (a0.Rules.map Rule.D))),(21,dI (a0.Rules.length:Int)),(22,dI (k1:Int))]) (fun k1 s1=>[(2,.deep .fz 2 (s1.map RPl_.W) [])]) I (fun k1 xk1 sk1 ok1 hxk1 hr hltk1 hik1=>?_) fun k1 sk1 ek1 hltk1=>?_
 obtain⟨s1,rfl⟩:∃ y,y=sk1:=⟨_,rfl⟩
 refine J g<|J (NV' 3)<|bdP hr fun y3 y4 hq3 hr=>J g<|J (CB' [(0,4)] [1] (k2o (m:=.bo) hq3))<|J g<|J (NV' 5)<|J (gn 9)<|ifE hr ?_ ?_<;>intro h2 hr
 refine J g<|J (LID' (f:=RPl_.W) 6 y3 [4])<|ggE hr fun g1 hr=>J (k8D 7 40 g1)<|e
 refine J (gn 7) ?_
 refine J (q0g (q0x (t:=2) (r:=6) .fz 2 rfl rfl))<|J (q0g (q0J 6 RPl_.W))<|J g<|E
 subst ek1
 obtain⟨s1,rfl⟩:∃ y,y=sk1:=⟨_,rfl⟩
 exact e
 refine J (gn 7) ?_
 refine J (q0g (q0x (t:=2) (r:=2) .fz 2 rfl rfl))<|J (q0g (q0J 2 RPl_.W))<|J g<|E
end Go.Proofs.YtcegfmageiicaaaGreat
