/- What some functions of the program compute, as partial functions on plain data, and that they do; each lemma bears its conditions in its statement. -/
import Derived.Test.YtibagkppfnjgcaaGreatLift11
set_option linter.unusedVariables false
set_option linter.unusedSimpArgs false
set_option linter.ambiguousOpen false
set_option linter.unusedSectionVars false
set_option linter.unnecessarySimpa false
set_option maxRecDepth 100000
set_option maxHeartbeats 40000000
noncomputable section
namespace Go.Proofs.YtibagkppfnjgcaaGreat
open Go Go.E Go.A
def z0t (a0:Grammar)(a1:Rule)(a2:Int):Option Bool:=
 if a2=3 then (
 (q9p a0 a1).bind fun y1=>
 some (!y1)
 ) else (
 if a2=4 then (
 (q9q a0 a1).bind fun y2=>
 some y2
 ) else (
 if a2=5 then (
 (z1h a0 a1).bind fun y3=>
 some y3
 ) else (
 (z0s a0 a1).bind fun y4=>
 some y4
 )
 )
 )
theorem z9P {m:Md}{a0:Grammar}{a1:Rule}{a2:Int}{r:Bool}(hr:z0t a0 a1 a2=some r):Ok Tryz.prog 100 [Grammar.y m a0,Rule.x m a1,.d .fz (.i .i64 a2)] [] (.d .fz (.b r)) []:=by
 refine Ok.enter rfl Tryz.func100 rfl rfl rfl fun S hS=>?_
 unfold z0t at hr
 refine sr ?_
 refine BX 0 ?_
 refine BX 1 ?_
 refine N1 ?_
 refine ssr ?_
 refine N1 ?_
 refine AW.block (q0d (q0c ?_))
 refine N2 ?_
 refine ifE hr (fun h1 hr=>?_) fun h1 hr=>?_
 refine q0f rfl (dT h1) ?_
 refine sr ?_
 refine W2 ?_
 refine bdE hr fun y1 hy1 hr=>?_
 refine CB [] [] (z8t (m:=m) hy1) ?_
 refine N2 ?_
 refine AW.ret ?_
 cases hr
 exact q0a [] 0 hS
 refine q0g rfl (dF h1) ?_
 refine sr ?_
 refine N2 ?_
 refine ifE hr (fun h2 hr=>?_) fun h2 hr=>?_
 refine q0f rfl (dT h2) ?_
 refine sr ?_
 refine W2 ?_
 refine bdE hr fun y2 hy2 hr=>?_
 refine CB [] [] (z8u (m:=m) hy2) ?_
 refine N1 ?_
 refine AW.ret ?_
 cases hr
 exact q0a [] 0 hS
 refine q0g rfl (dF h2) ?_
 refine sr ?_
 refine N2 ?_
 refine ifE hr (fun h3 hr=>?_) fun h3 hr=>?_
 refine q0f rfl (dT h3) ?_
 refine sr ?_
 refine W2 ?_
 refine bdE hr fun y3 hy3 hr=>?_
 refine CB [] [] (j1h (m:=m) hy3) ?_
 refine N1 ?_
 refine AW.ret ?_
 cases hr
 exact q0a [] 0 hS
 refine q0g rfl (dF h3) ?_
 refine q0b ?_
 refine sr ?_
 refine W2 ?_
 refine bdE hr fun y4 hy4 hr=>?_
 refine CB [] [] (z9O (m:=m) hy4) ?_
 refine N1 ?_
 refine AW.ret ?_
 cases hr
 exact q0a [] 0 hS
def z4l:Nat→Attribute→Unit→Option (Unit ⊕ (Int × Int)):=fun k1 xk1 _=>
 if xk1.Mode=1 then (
 some (.inr (2,0))
 ) else (
 some (.inl ())
 )
def q9Z (a0:Grammar)(s1:Int):Nat→Rule→Unit→Option (Unit ⊕ (Int × Int)):=fun k3 xk3 _=>
 (z0t a0 xk3 s1).bind fun y4=>
 if y4=true then (
 some (.inr (s1,(k3:Int)))
 ) else (
 some (.inl ())
 )
def z0a (a0:Grammar):Int→Option (Int ⊕ (Unit ⊕ (Int × Int))):=fun s1=>
 if s1≤6 then (
 (findL (q9Z a0 s1) 0 a0.Rules ()).bind <| onr (fun r2=>some (.inr (.inr r2))) fun _=>
 grd (I64 (s1+1)) <|
 some (.inl (s1+1))
 ) else (
 some (.inr (.inl ()))
 )
def q9r (a0:Grammar):Option (Int × Int):=
 (q5H (a0.Symbols.length:Int) 1 4).bind fun y1=>
 if y1=true then (
 (q5H (a0.Rules.length:Int) 1 8).bind fun y2=>
 if y2=true then (
 (z3C a0).bind fun y3=>
 if 0≤y3 then (
 some (1,y3)
 ) else (
 (a0.Symbols[0]?).bind fun x1=>
 (findL z4l 0 x1.Attributes ()).bind <| onr (fun r1=>some r1) fun _=>
 (q5m (z0a a0) 3).bind <| onr (fun r3=>some r3) fun ()=>
 some (0,0)
 )
 ) else (
 some (1,0)
 )
 ) else (
 some (1,0)
 )
theorem z8v {m:Md}{a0:Grammar}{r:(Int × Int)}(hr:q9r a0=some r):Ok Tryz.prog 69 [Grammar.x m a0] [] (.tu [.d .fz (.i .i64 r.1),.d .fz (.i .i64 r.2)]) []:=by
 refine Ok.enter rfl Tryz.func69 rfl rfl rfl fun S hS=>?_
 unfold q9r at hr
 refine sr ?_
 refine BX 0 ?_
 refine N2 ?_
 refine ssr ?_
 refine W2 ?_
 refine LF ?_
 refine bdE hr fun y1 hy1 hr=>?_
 refine CB [] [] (q6x hy1) ?_
 refine W1 ?_
 refine ifE hr (fun h1 hr=>?_) fun h1 hr=>?_
 refine VF rfl (bnF h1) ?_
 refine W2 ?_
 refine LF ?_
 refine bdE hr fun y2 hy2 hr=>?_
 refine CB [] [] (q6x hy2) ?_
 refine N2 ?_
 refine ifE hr (fun h2 hr=>?_) fun h2 hr=>?_
 refine q0g rfl (bnF h2) ?_
 refine q0b ?_
 refine sr ?_
 refine W1 ?_
 refine bdE hr fun y3 hy3 hr=>?_
 refine CB [] [] (j4B (m:=m) hy3) ?_
 refine N1 ?_
 refine ssr ?_
 refine N2 ?_
 refine ifE hr (fun h3 hr=>?_) fun h3 hr=>?_
 refine q0f rfl (dT h3) ?_
 refine sr ?_
 refine N3 ?_
 refine AW.ret ?_
 cases hr
 exact q0a [] 0 hS
 refine q0g rfl (dF h3) ?_
 refine q0b ?_
 refine ssr ?_
 refine N1 ?_
 refine bdE hr fun x1 hx1 hr=>?_
 refine AW.block ?_
 refine AW.len (.el 1 (.ag 0 (.tmp 0 rfl) rfl) hx1 rfl) fun hl1=>?_
 refine bdE hr fun q1 hqq1 hr=>?_
 refine q0k hqq1 hl1 1 (fun k1 _=>[(1,.pb 0 0),(5,.d .fz (.i .i64 (k1:Int)))]) (fun k1 _=>[]) (q0e hS 1) (fun k1 xk1 sk1 ok1 hxk1 hr hltk1 hik1=>?_) fun k1 sk1 ek1 hltk1=>?_
 refine ssr ?_
 refine W3 ?_
 refine IF (Int.natCast_nonneg _) hx1 ?_
 refine W2 ?_
 refine LF ?_
 refine N1 ?_
 refine q0f rfl (dT hltk1) ?_
 refine q0b ?_
 refine q0d (AW.block (q0d (q0c ?_)))
 refine W2 ?_
 refine IF (Int.natCast_nonneg _) hx1 ?_
 refine W3 ?_
 refine IF (Int.natCast_nonneg _) hxk1 ?_
 refine N3 ?_
 refine ifE hr (fun h4 hr=>?_) fun h4 hr=>?_
 refine q0f rfl (dT h4) ?_
 refine sr ?_
 refine N2 ?_
 refine AW.ret ?_
 cases hr
 cases hik1 _ rfl
 rename_i hr
 cases hr
 exact q0a [] 0 hS
 refine q0g rfl (dF h4) ?_
 refine q0b ?_
 refine q0c ?_
 refine W1 ?_
 refine OB _ (q3B (p:=k1) (q:=1) (q3m hltk1 hl1)) ?_
 refine N1 ?_
 cases hr
 exact⟨_,rfl,q0e hS 1⟩
 subst ek1
 refine ssr ?_
 refine W3 ?_
 refine IF (Int.natCast_nonneg _) hx1 ?_
 refine W2 ?_
 refine LF ?_
 refine N1 ?_
 refine q0g rfl (dF hltk1) ?_
 refine q0i ?_
 refine ssr ?_
 refine N1 ?_
 refine bdE hr fun q2 hqq2 hr=>?_
 refine AW.cut 1 (fun _=>[]) (fun _=>[]) (M:=fun x=>q2 = .inl x) ?_ fun x hx=>?_
 refine AW.block (q0q hqq2 1 (fun s1=>[(1,.pb 0 0),(6,.d .fz (.i .i64 s1))]) (fun s1=>[]) (q0e hS 1) fun sk2 ok2 hr hik2=>?_)
 obtain⟨s1,rfl⟩:∃ y,y=sk2:=⟨_,rfl⟩
 have hr:=hr
 refine ssr ?_
 refine N2 ?_
 refine ifE hr (fun h5 hr=>?_) fun h5 hr=>?_
 refine q0f rfl (dT h5) ?_
 refine q0b ?_
 refine q0d (AW.block (q0d (q0c ?_)))
 refine N1 ?_
 refine AW.block ?_
 refine AW.len (.box 0 1 rfl rfl) fun hl3=>?_
 refine bdE hr fun q3 hqq3 hr=>?_
 refine q0k hqq3 hl3 1 (fun k3 _=>[(1,.pb 0 0),(6,.d .fz (.i .i64 s1)),(7,.d .fz (.i .i64 (k3:Int)))]) (fun k3 _=>[]) (q0e hS 1) (fun k3 xk3 sk3 ok3 hxk3 hr hltk3 hik3=>?_) fun k3 sk3 ek3 hltk3=>?_
 refine ssr ?_
 refine W3 ?_
 refine LF ?_
 refine N1 ?_
 refine q0f rfl (dT hltk3) ?_
 refine q0b ?_
 refine q0d (AW.block (q0d (q0j (h:=?_))))
 refine W4 ?_
 refine IF (Int.natCast_nonneg _) hxk3 ?_
 refine W2 ?_
 refine bdE hr fun y4 hy4 hr=>?_
 refine CB [] [] (z9P (m:=m) hy4) ?_
 refine N0 ?_
 refine ifE hr (fun h6 hr=>?_) fun h6 hr=>?_
 refine q0f rfl h6 ?_
 refine sr ?_
 refine N4 ?_
 refine AW.ret ?_
 cases hr
 cases hik3 _ rfl
 rename_i hr
 cases hr
 cases hik2 _ rfl
 rename_i hr
 cases hr
 exact q0a [] 0 hS
 refine q0g rfl (bF h6) ?_
 refine q0b ?_
 refine q0c ?_
 refine W1 ?_
 refine OB _ (q3B (p:=k3) (q:=1) (q3m hltk3 hl3)) ?_
 refine N1 ?_
 cases hr
 exact⟨_,rfl,q0e hS 1⟩
 subst ek3
 refine ssr ?_
 refine W3 ?_
 refine LF ?_
 refine N1 ?_
 refine q0g rfl (dF hltk3) ?_
 refine q0i ?_
 refine q0c ?_
 refine W1 ?_
 refine ggE hr fun g1 hr=>?_
 refine OB _ (bAdd g1) ?_
 refine N1 ?_
 cases hr
 exact⟨_,rfl,q0e hS 1⟩
 refine q0g rfl (dF h5) ?_
 refine q0i ?_
 cases hr
 cases hik2 _ rfl
 exact⟨_,rfl,q0e hS 1⟩
 subst hx
 refine sr ?_
 refine N2 ?_
 refine AW.ret ?_
 cases hr
 exact q0a [] 0 hS
 refine q0f rfl (bnT h2) ?_
 refine sr ?_
 refine N2 ?_
 refine AW.ret ?_
 cases hr
 exact q0a [] 0 hS
 refine VT rfl (bnT h1) ?_
 iterate 5 refine AL.off ?_
 refine N1 ?_
 refine q0f rfl rfl ?_
 refine sr ?_
 refine N2 ?_
 refine AW.ret ?_
 cases hr
 exact q0a [] 0 hS
def q6w (a0:Grammar)(a1:ByteArray)(a2:ByteArray):Option Int:=
 (q4C a0 a1).bind fun (y1,y2)=>
 (q4m y1 a2).bind fun (y3,y4)=>
 if y4=true then (
 some y3.Type_
 ) else (
 some 0
 )
theorem z0x {m:Md}{a0:Grammar}{a1:ByteArray}{a2:ByteArray}{r:Int}(hr:q6w a0 a1 a2=some r):Ok Tryz.prog 102 [Grammar.y m a0,.d .fz (.s a1),.d .fz (.s a2)] [] (.d .fz (.i .i64 r)) []:=by
 refine Ok.enter rfl Tryz.func102 rfl rfl rfl fun S hS=>?_
 unfold q6w at hr
 refine sr ?_
 refine BX 0 ?_
 refine N1 ?_
 refine sr ?_
 refine W2 ?_
 refine bdE hr fun q1 hq1 hr=>?_
 obtain⟨y1,y2⟩:=q1
 refine CB [(0,1)] [] (q5C (m:=m) hq1) ?_
 refine W3 ?_
 refine NV 2 ?_
 refine SB ?_
 refine N1 ?_
 refine sr ?_
 refine W2 ?_
 refine bdE hr fun q2 hq2 hr=>?_
 obtain⟨y3,y4⟩:=q2
 refine CB [] [1] (q6U (m:=.bo) hq2) ?_
 refine W3 ?_
 refine NV 3 ?_
 refine SB ?_
 refine N1 ?_
 refine ssr ?_
 refine N2 ?_
 refine ifE hr (fun h1 hr=>?_) fun h1 hr=>?_
 refine q0g rfl (bnF h1) ?_
 refine q0b ?_
 refine sr ?_
 refine N3 ?_
 refine AW.ret ?_
 cases hr
 exact q0a [] 0 hS
 refine q0f rfl (bnT h1) ?_
 refine sr ?_
 refine N1 ?_
 refine AW.ret ?_
 cases hr
 exact q0a [] 0 hS
def z6A (rec_sTypeOfExpr:Grammar→Rule→Expr→Option Int)(a0:Grammar)(a1:Rule)(a2:Expr):Option Int:=
 (q4z a2.N).bind fun (y1,y2,y3)=>
 if (a2.Args.length:Int)=2 then (
 (a2.Args[0]?).bind fun x1=>
 (rec_sTypeOfExpr a0 a1 x1).bind fun y4=>
 if y4=y1 then (
 (a2.Args[1]?).bind fun x2=>
 (rec_sTypeOfExpr a0 a1 x2).bind fun y5=>
 if y5=y2 then (
 some y3
 ) else (
 some 0
 )
 ) else (
 some 0
 )
 ) else (
 some 0
 )
theorem j5F {rec_sTypeOfExpr:Grammar→Rule→Expr→Option Int}(ih_sTypeOfExpr:∀ {m:Md} {a0:Grammar} {a1:Rule} {a2:Expr} {r:Int},rec_sTypeOfExpr a0 a1 a2=some r→Ok Tryz.prog 101 [Grammar.y m a0,Rule.x m a1,Expr.x m a2] [] (.d .fz (.i .i64 r)) []){m:Md}{a0:Grammar}{a1:Rule}{a2:Expr}{r:Int}(hr:z6A rec_sTypeOfExpr a0 a1 a2=some r):Ok Tryz.prog 133 [Grammar.y m a0,Rule.x m a1,Expr.x m a2] [] (.d .fz (.i .i64 r)) []:=by
 refine Ok.enter rfl Tryz.func133 rfl rfl rfl fun S hS=>?_
 unfold z6A at hr
 refine sr ?_
 refine BX 0 ?_
 refine BX 1 ?_
 refine BX 2 ?_
 refine N1 ?_
 refine sr ?_
 refine W2 ?_
 refine bdE hr fun q1 hq1 hr=>?_
 obtain⟨y1,y2,y3⟩:=q1
 refine CB [] [] (q5L hq1) ?_
 refine W5 ?_
 refine N2 ?_
 refine q0d (q0d (q0j (h:=?_)))
 refine W2 ?_
 refine LF ?_
 refine W1 ?_
 refine ifE hr (fun h1 hr=>?_) fun h1 hr=>?_
 refine VF rfl (nF h1) ?_
 refine W4 ?_
 refine bdE hr fun x1 hx1 hr=>?_
 refine IFq (Int.natCast_nonneg _) hx1 (Expr.D_cells x1) ?_
 refine W1 ?_
 refine bdE hr fun y4 hy4 hr=>?_
 refine CB [] [] (ih_sTypeOfExpr (m:=m) hy4) ?_
 refine W3 ?_
 refine ifE hr (fun h2 hr=>?_) fun h2 hr=>?_
 refine VF rfl (nF h2) ?_
 refine W4 ?_
 refine bdE hr fun x2 hx2 hr=>?_
 refine IFq (Int.natCast_nonneg _) hx2 (Expr.D_cells x2) ?_
 refine W1 ?_
 refine bdE hr fun y5 hy5 hr=>?_
 refine CB [] [] (ih_sTypeOfExpr (m:=m) hy5) ?_
 refine N3 ?_
 refine ifE hr (fun h3 hr=>?_) fun h3 hr=>?_
 refine q0g rfl (nF h3) ?_
 refine q0b ?_
 refine sr ?_
 refine N2 ?_
 refine AW.ret ?_
 cases hr
 exact q0a [] 0 hS
 refine q0f rfl (nT h3) ?_
 refine sr ?_
 refine N1 ?_
 refine AW.ret ?_
 cases hr
 exact q0a [] 0 hS
 refine VT rfl (nT h2) ?_
 iterate 9 refine AL.off ?_
 refine N1 ?_
 refine q0f rfl rfl ?_
 refine sr ?_
 refine N1 ?_
 refine AW.ret ?_
 cases hr
 exact q0a [] 0 hS
 refine VT rfl (nT h1) ?_
 iterate 9 refine AL.off ?_
 refine W2 ?_
 iterate 9 refine AL.off ?_
 refine N1 ?_
 refine q0f rfl rfl ?_
 refine sr ?_
 refine N1 ?_
 refine AW.ret ?_
 cases hr
 exact q0a [] 0 hS
def z6B (rec_sTypeOfExpr:Grammar→Rule→Expr→Option Int)(a0:Grammar)(a1:Rule)(a2:Expr):Option Int:=
 if (a2.Args.length:Int)=3 then (
 (a2.Args[0]?).bind fun x1=>
 (rec_sTypeOfExpr a0 a1 x1).bind fun y1=>
 if y1=3 then (
 (a2.Args[1]?).bind fun x2=>
 (rec_sTypeOfExpr a0 a1 x2).bind fun y2=>
 (a2.Args[2]?).bind fun x3=>
 (rec_sTypeOfExpr a0 a1 x3).bind fun y3=>
 if y2=y3 then (
 some y2
 ) else (
 some 0
 )
 ) else (
 some 0
 )
 ) else (
 some 0
 )
theorem j5G {rec_sTypeOfExpr:Grammar→Rule→Expr→Option Int}(ih_sTypeOfExpr:∀ {m:Md} {a0:Grammar} {a1:Rule} {a2:Expr} {r:Int},rec_sTypeOfExpr a0 a1 a2=some r→Ok Tryz.prog 101 [Grammar.y m a0,Rule.x m a1,Expr.x m a2] [] (.d .fz (.i .i64 r)) []){m:Md}{a0:Grammar}{a1:Rule}{a2:Expr}{r:Int}(hr:z6B rec_sTypeOfExpr a0 a1 a2=some r):Ok Tryz.prog 134 [Grammar.y m a0,Rule.x m a1,Expr.x m a2] [] (.d .fz (.i .i64 r)) []:=by
 refine Ok.enter rfl Tryz.func134 rfl rfl rfl fun S hS=>?_
 unfold z6B at hr
 refine sr ?_
 refine BX 0 ?_
 refine BX 1 ?_
 refine BX 2 ?_
 refine N1 ?_
 refine q0d (q0d (q0j (h:=?_)))
 refine W2 ?_
 refine LF ?_
 refine W1 ?_
 refine ifE hr (fun h1 hr=>?_) fun h1 hr=>?_
 refine VF rfl (nF h1) ?_
 refine W4 ?_
 refine bdE hr fun x1 hx1 hr=>?_
 refine IFq (Int.natCast_nonneg _) hx1 (Expr.D_cells x1) ?_
 refine W1 ?_
 refine bdE hr fun y1 hy1 hr=>?_
 refine CB [] [] (ih_sTypeOfExpr (m:=m) hy1) ?_
 refine N2 ?_
 refine ifE hr (fun h2 hr=>?_) fun h2 hr=>?_
 refine q0g rfl (nF h2) ?_
 refine q0b ?_
 refine q0d (q0j (h:=?_))
 refine W4 ?_
 refine bdE hr fun x2 hx2 hr=>?_
 refine IFq (Int.natCast_nonneg _) hx2 (Expr.D_cells x2) ?_
 refine W1 ?_
 refine bdE hr fun y2 hy2 hr=>?_
 refine CB [] [] (ih_sTypeOfExpr (m:=m) hy2) ?_
 refine N1 ?_
 refine q0d (q0d (q0j (h:=?_)))
 refine W5 ?_
 refine bdE hr fun x3 hx3 hr=>?_
 refine IFq (Int.natCast_nonneg _) hx3 (Expr.D_cells x3) ?_
 refine W1 ?_
 refine bdE hr fun y3 hy3 hr=>?_
 refine CB [] [] (ih_sTypeOfExpr (m:=m) hy3) ?_
 refine N1 ?_
 refine ifE hr (fun h3 hr=>?_) fun h3 hr=>?_
 refine q0g rfl (nF h3) ?_
 refine q0b ?_
 refine sr ?_
 refine N2 ?_
 refine AW.ret ?_
 cases hr
 exact q0a [] 0 hS
 refine q0f rfl (nT h3) ?_
 refine sr ?_
 refine N1 ?_
 refine AW.ret ?_
 cases hr
 exact q0a [] 0 hS
 refine q0f rfl (nT h2) ?_
 refine sr ?_
 refine N1 ?_
 refine AW.ret ?_
 cases hr
 exact q0a [] 0 hS
 refine VT rfl (nT h1) ?_
 iterate 8 refine AL.off ?_
 refine N1 ?_
 refine q0f rfl rfl ?_
 refine sr ?_
 refine N1 ?_
 refine AW.ret ?_
 cases hr
 exact q0a [] 0 hS
def q9s (rec_sTypeOfExpr:Grammar→Rule→Expr→Option Int)(a0:Grammar)(a1:Rule)(a2:Expr):Option Int:=
 if a2.Kind=1 then (
 some a2.Type_
 ) else (
 if a2.Kind=2 then (
 if a1.Literal=true then (
 some 1
 ) else (
 some 0
 )
 ) else (
 if a2.Kind=3 then (
 (q5H a2.Pos 0 (a1.Right.length:Int)).bind fun y1=>
 if y1=true then (
 (q4P a1 a2.Pos).bind fun y2=>
 (q6w a0 y2 a2.Name).bind fun y3=>
 some y3
 ) else (
 some 0
 )
 ) else (
 if a2.Kind=4 then (
 (z6A rec_sTypeOfExpr a0 a1 a2).bind fun y4=>
 some y4
 ) else (
 if a2.Kind=5 then (
 (z6B rec_sTypeOfExpr a0 a1 a2).bind fun y5=>
 some y5
 ) else (
 if a2.Kind=6 then (
 (q5H a2.Pos 0 (a1.Right.length:Int)).bind fun y6=>
 if y6=true then (
 some 4
 ) else (
 some 0
 )
 ) else (
 if a2.Kind=7 then (
 some 4
 ) else (
 if a2.Kind=8 then (
 if (a2.Args.length:Int)=1 then (
 (a2.Args[0]?).bind fun x1=>
 (rec_sTypeOfExpr a0 a1 x1).bind fun y7=>
 if y7=4 then (
 (q6w a0 a2.Symbol a2.Name).bind fun y8=>
 some y8
 ) else (
 some 0
 )
 ) else (
 some 0
 )
 ) else (
 some 0
 )
 )
 )
 )
 )
 )
 )
 )
theorem z7M {rec_sTypeOfExpr:Grammar→Rule→Expr→Option Int}(ih_sTypeOfExpr:∀ {m:Md} {a0:Grammar} {a1:Rule} {a2:Expr} {r:Int},rec_sTypeOfExpr a0 a1 a2=some r→Ok Tryz.prog 101 [Grammar.y m a0,Rule.x m a1,Expr.x m a2] [] (.d .fz (.i .i64 r)) []){m:Md}{a0:Grammar}{a1:Rule}{a2:Expr}{r:Int}(hr:q9s rec_sTypeOfExpr a0 a1 a2=some r):Ok Tryz.prog 101 [Grammar.y m a0,Rule.x m a1,Expr.x m a2] [] (.d .fz (.i .i64 r)) []:=by
 refine Ok.enter rfl Tryz.func101 rfl rfl rfl fun S hS=>?_
 unfold q9s at hr
 refine sr ?_
 refine BX 0 ?_
 refine BX 1 ?_
 refine BX 2 ?_
 refine N1 ?_
 refine ssr ?_
 refine N2 ?_
 refine AW.block (q0d (q0c ?_))
 refine N2 ?_
 refine ifE hr (fun h1 hr=>?_) fun h1 hr=>?_
 refine q0f rfl (dT h1) ?_
 refine sr ?_
 refine N3 ?_
 refine AW.ret ?_
 cases hr
 exact q0a [] 0 hS
 refine q0g rfl (dF h1) ?_
 refine sr ?_
 refine N2 ?_
 refine ifE hr (fun h2 hr=>?_) fun h2 hr=>?_
 refine q0f rfl (dT h2) ?_
 refine sr ?_
 refine N2 ?_
 refine ifE hr (fun h3 hr=>?_) fun h3 hr=>?_
 refine q0f rfl h3 ?_
 refine sr ?_
 refine N1 ?_
 refine AW.ret ?_
 cases hr
 exact q0a [] 0 hS
 refine q0g rfl (bF h3) ?_
 refine q0b ?_
 refine sr ?_
 refine N1 ?_
 refine AW.ret ?_
 cases hr
 exact q0a [] 0 hS
 refine q0g rfl (dF h2) ?_
 refine sr ?_
 refine N2 ?_
 refine ifE hr (fun h4 hr=>?_) fun h4 hr=>?_
 refine q0f rfl (dT h4) ?_
 refine sr ?_
 refine W4 ?_
 refine LF ?_
 refine bdE hr fun y1 hy1 hr=>?_
 refine CB [] [] (q6x hy1) ?_
 refine N0 ?_
 refine ifE hr (fun h5 hr=>?_) fun h5 hr=>?_
 refine q0f rfl h5 ?_
 refine q0d (q0j (h:=?_))
 refine W4 ?_
 refine bdE hr fun y2 hy2 hr=>?_
 refine CB [] [] (q6F (m:=m) hy2) ?_
 refine W2 ?_
 refine bdE hr fun y3 hy3 hr=>?_
 refine CB [] [] (z0x (m:=m) hy3) ?_
 refine N1 ?_
 refine AW.ret ?_
 cases hr
 exact q0a [] 0 hS
 refine q0g rfl (bF h5) ?_
 refine q0b ?_
 refine sr ?_
 refine N1 ?_
 refine AW.ret ?_
 cases hr
 exact q0a [] 0 hS
 refine q0g rfl (dF h4) ?_
 refine sr ?_
 refine N2 ?_
 refine ifE hr (fun h6 hr=>?_) fun h6 hr=>?_
 refine q0f rfl (dT h6) ?_
 refine sr ?_
 refine W3 ?_
 refine bdE hr fun y4 hy4 hr=>?_
 refine CB [] [] (j5F ih_sTypeOfExpr (m:=m) hy4) ?_
 refine N1 ?_
 refine AW.ret ?_
 cases hr
 exact q0a [] 0 hS
 refine q0g rfl (dF h6) ?_
 refine sr ?_
 refine N2 ?_
 refine ifE hr (fun h7 hr=>?_) fun h7 hr=>?_
 refine q0f rfl (dT h7) ?_
 refine sr ?_
 refine W3 ?_
 refine bdE hr fun y5 hy5 hr=>?_
 refine CB [] [] (j5G ih_sTypeOfExpr (m:=m) hy5) ?_
 refine N1 ?_
 refine AW.ret ?_
 cases hr
 exact q0a [] 0 hS
 refine q0g rfl (dF h7) ?_
 refine sr ?_
 refine N2 ?_
 refine ifE hr (fun h8 hr=>?_) fun h8 hr=>?_
 refine q0f rfl (dT h8) ?_
 refine sr ?_
 refine W4 ?_
 refine LF ?_
 refine bdE hr fun y6 hy6 hr=>?_
 refine CB [] [] (q6x hy6) ?_
 refine N0 ?_
 refine ifE hr (fun h9 hr=>?_) fun h9 hr=>?_
 refine q0f rfl h9 ?_
 refine sr ?_
 refine N1 ?_
 refine AW.ret ?_
 cases hr
 exact q0a [] 0 hS
 refine q0g rfl (bF h9) ?_
 refine q0b ?_
 refine sr ?_
 refine N1 ?_
 refine AW.ret ?_
 cases hr
 exact q0a [] 0 hS
 refine q0g rfl (dF h8) ?_
 refine sr ?_
 refine N2 ?_
 refine ifE hr (fun h10 hr=>?_) fun h10 hr=>?_
 refine q0f rfl (dT h10) ?_
 refine sr ?_
 refine N1 ?_
 refine AW.ret ?_
 cases hr
 exact q0a [] 0 hS
 refine q0g rfl (dF h10) ?_
 refine sr ?_
 refine N2 ?_
 refine ifE hr (fun h11 hr=>?_) fun h11 hr=>?_
 refine q0f rfl (dT h11) ?_
 refine q0d (q0j (h:=?_))
 refine W2 ?_
 refine LF ?_
 refine W1 ?_
 refine ifE hr (fun h12 hr=>?_) fun h12 hr=>?_
 refine VT rfl (dT h12) ?_
 refine W4 ?_
 refine bdE hr fun x1 hx1 hr=>?_
 refine IFq (Int.natCast_nonneg _) hx1 (Expr.D_cells x1) ?_
 refine W1 ?_
 refine bdE hr fun y7 hy7 hr=>?_
 refine CB [] [] (ih_sTypeOfExpr (m:=m) hy7) ?_
 refine N2 ?_
 refine ifE hr (fun h13 hr=>?_) fun h13 hr=>?_
 refine q0f rfl (dT h13) ?_
 refine sr ?_
 refine W5 ?_
 refine bdE hr fun y8 hy8 hr=>?_
 refine CB [] [] (z0x (m:=m) hy8) ?_
 refine N1 ?_
 refine AW.ret ?_
 cases hr
 exact q0a [] 0 hS
 refine q0g rfl (dF h13) ?_
 refine q0b ?_
 refine sr ?_
 refine N1 ?_
 refine AW.ret ?_
 cases hr
 exact q0a [] 0 hS
 refine VF rfl (dF h12) ?_
 iterate 8 refine AL.off ?_
 refine N1 ?_
 refine q0g rfl rfl ?_
 refine q0b ?_
 refine sr ?_
 refine N1 ?_
 refine AW.ret ?_
 cases hr
 exact q0a [] 0 hS
 refine q0g rfl (dF h11) ?_
 refine q0b ?_
 refine sr ?_
 refine N1 ?_
 refine AW.ret ?_
 cases hr
 exact q0a [] 0 hS
def q8l:Nat→Grammar→Rule→Expr→Option Int
  | 0,_,_,_=>none
  | n+1,a0,a1,a2=>q9s (q8l n) a0 a1 a2
def q9t (a0:Grammar)(a1:Rule)(a2:Expr):Option Int:=recO fun n=>q8l n a0 a1 a2
theorem z7N (n:Nat):∀ {m:Md} {a0:Grammar} {a1:Rule} {a2:Expr} {r:Int},q8l n a0 a1 a2=some r→Ok Tryz.prog 101 [Grammar.y m a0,Rule.x m a1,Expr.x m a2] [] (.d .fz (.i .i64 r)) []:=by
  induction n with
  | zero=>intro _ _ _ _ r hr; exact nomatch (show (none:Option Int)=some r from hr)
  | succ n ih=>intro _ _ _ _ r hr; exact z7M ih hr
theorem z1N {m:Md}{a0:Grammar}{a1:Rule}{a2:Expr}{r:Int}(hr:q9t a0 a1 a2=some r):Ok Tryz.prog 101 [Grammar.y m a0,Rule.x m a1,Expr.x m a2] [] (.d .fz (.i .i64 r)) []:=by
 obtain⟨n,hn⟩:=q5a hr
 exact z7N n hn
def z7O (a0:Grammar)(a1:Rule):Nat→Equation→Unit→Option (Unit ⊕ Bool):=fun k1 xk1 _=>
 (q9t a0 a1 xk1.Expr).bind fun y1=>
 (q4P a1 xk1.At.Pos).bind fun y2=>
 (q6w a0 y2 xk1.At.Name).bind fun y3=>
 if y1=y3 then (
 some (.inl ())
 ) else (
 some (.inr false)
 )
def z7P (a0:Grammar)(a1:Rule):Nat→Contribution→Unit→Option (Unit ⊕ Bool):=fun k2 xk2 _=>
 (q4C a0 xk2.Symbol).bind fun (y4,y5)=>
 (q4m y4 xk2.Name).bind fun (y6,y7)=>
 (
 if y7=true then (
 some (!(decide (y6.Mode=3)))
 ) else (
 some true
 )
 ).bind fun s1=>
 (
 if s1=true then (
 some true
 ) else (
 (q9t a0 a1 xk2.Target).bind fun y8=>
 some (!(decide (y8=4)))
 )
 ).bind fun s2=>
 (
 if s2=true then (
 some true
 ) else (
 (q9t a0 a1 xk2.Value).bind fun y9=>
 some (!(decide (y9=2)))
 )
 ).bind fun s3=>
 if s3=true then (
 some (.inr false)
 ) else (
 some (.inl ())
 )
def z2k (a0:Grammar)(a1:Rule):Option Bool:=
 (findL (z7O a0 a1) 0 a1.Equations ()).bind <| onr (fun r1=>some r1) fun _=>
 (findL (z7P a0 a1) 0 a1.Contributions ()).bind <| onr (fun r2=>some r2) fun _=>
 some true
theorem j2C {m:Md}{a0:Grammar}{a1:Rule}{r:Bool}(hr:z2k a0 a1=some r):Ok Tryz.prog 70 [Grammar.y m a0,Rule.x m a1] [] (.d .fz (.b r)) []:=by
 refine Ok.enter rfl Tryz.func70 rfl rfl rfl fun S hS=>?_
 unfold z2k at hr
 refine sr ?_
 refine BX 0 ?_
 refine BX 1 ?_
 refine N1 ?_
 refine ssr ?_
 refine N1 ?_
 refine AW.block ?_
 refine AW.len (.ag 4 (.tmp 1 rfl) rfl) fun hl1=>?_
 refine bdE hr fun q1 hqq1 hr=>?_
 refine q0k hqq1 hl1 2 (fun k1 _=>[(2,.pb 0 0),(3,.pb 1 0),(5,.d .fz (.i .i64 (k1:Int)))]) (fun k1 _=>[]) (GH.trans (q0m (q:=0) [.d m (.sl 2 (a0.Symbols.map Symbol.D)),.u] (.cons .rfl (.cons .u .nil)) rfl) (q0e hS 2)) (fun k1 xk1 sk1 ok1 hxk1 hr hltk1 hik1=>?_) fun k1 sk1 ek1 hltk1=>?_
 refine ssr ?_
 refine W3 ?_
 refine LF ?_
 refine N1 ?_
 refine q0f rfl (dT hltk1) ?_
 refine q0b ?_
 refine q0d (AW.block (q0d (q0c ?_)))
 refine W3 ?_
 refine IF (Int.natCast_nonneg _) hxk1 ?_
 refine W1 ?_
 refine NV 2 ?_
 refine SB ?_
 refine N0 ?_
 refine q0d (q0j (h:=?_))
 refine W4 ?_
 refine bdE hr fun y1 hy1 hr=>?_
 refine CB [] [] (z1N (m:=m) hy1) ?_
 refine W5 ?_
 refine bdE hr fun y2 hy2 hr=>?_
 refine CB [] [] (q6F (m:=m) hy2) ?_
 refine W3 ?_
 refine bdE hr fun y3 hy3 hr=>?_
 refine CB [] [] (z0x (m:=m) hy3) ?_
 refine N1 ?_
 refine ifE hr (fun h1 hr=>?_) fun h1 hr=>?_
 refine q0g rfl (nF h1) ?_
 refine q0b ?_
 refine q0c ?_
 refine W1 ?_
 refine OB _ (q3B (p:=k1) (q:=1) (q3m hltk1 hl1)) ?_
 refine N1 ?_
 cases hr
 exact⟨_,rfl,GH.trans (q0m (q:=0) [.d m (.sl 2 (a0.Symbols.map Symbol.D)),.u] (.cons .rfl (.cons .u .nil)) rfl) (q0e hS 2)⟩
 refine q0f rfl (nT h1) ?_
 refine sr ?_
 refine N1 ?_
 refine AW.ret ?_
 cases hr
 cases hik1 _ rfl
 rename_i hr
 cases hr
 exact q0a [] 0 hS
 subst ek1
 refine ssr ?_
 refine W3 ?_
 refine LF ?_
 refine N1 ?_
 refine q0g rfl (dF hltk1) ?_
 refine q0i ?_
 refine ssr ?_
 refine N1 ?_
 refine AW.block ?_
 refine AW.len (.box 1 5 rfl rfl) fun hl2=>?_
 refine bdE hr fun q2 hqq2 hr=>?_
 refine q0k hqq2 hl2 2 (fun k2 _=>[(2,.pb 0 0),(3,.pb 1 0),(7,.d .fz (.i .i64 (k2:Int)))]) (fun k2 _=>[]) (GH.trans (q0m (q:=0) [.d m (.sl 2 (a0.Symbols.map Symbol.D)),.u] (.cons .rfl (.cons .u .nil)) rfl) (q0e hS 2)) (fun k2 xk2 sk2 ok2 hxk2 hr hltk2 hik2=>?_) fun k2 sk2 ek2 hltk2=>?_
 refine ssr ?_
 refine W3 ?_
 refine LF ?_
 refine N1 ?_
 refine q0f rfl (dT hltk2) ?_
 refine q0b ?_
 refine q0d (AW.block (q0d (q0c ?_)))
 refine W3 ?_
 refine IF (Int.natCast_nonneg _) hxk2 ?_
 refine W1 ?_
 refine NV 2 ?_
 refine SB ?_
 refine N0 ?_
 refine sr ?_
 refine W3 ?_
 refine bdE hr fun q3 hq3 hr=>?_
 obtain⟨y4,y5⟩:=q3
 refine CB [(0,3)] [] (q5C (m:=m) hq3) ?_
 refine W3 ?_
 refine NV 4 ?_
 refine SB ?_
 refine N1 ?_
 refine sr ?_
 refine W3 ?_
 refine bdE hr fun q4 hq4 hr=>?_
 obtain⟨y6,y7⟩:=q4
 refine CB [] [3] (q6U (m:=.bo) hq4) ?_
 refine W3 ?_
 refine NV 5 ?_
 refine SB ?_
 refine N1 ?_
 refine sr ?_
 refine W2 ?_
 refine bdE hr fun s1 hqq5 hr=>?_
 refine q0h 5 [(2,.pb 0 0),(3,.pb 1 0),(7,.d .fz (.i .i64 (k2:Int))),(8,.pb 2 0),(73,.d .fz (.b s1))] ?_ ?_
 replace hr:=hqq5
 refine ifE hr (fun h2 hr=>?_) fun h2 hr=>?_
 refine VF rfl (bnF h2) ?_
 refine N4 ?_
 cases hr
 exact q3n
 refine VT rfl (bnT h2) ?_
 iterate 3 refine AL.off ?_
 refine N1 ?_
 cases hr
 exact q3n
 refine bdE hr fun s2 hqq6 hr=>?_
 refine q0h 8 [(2,.pb 0 0),(3,.pb 1 0),(7,.d .fz (.i .i64 (k2:Int))),(8,.pb 2 0),(81,.d .fz (.b s2))] ?_ ?_
 replace hr:=hqq6
 refine ifE hr (fun h3 hr=>?_) fun h3 hr=>?_
 refine VT rfl h3 ?_
 iterate 6 refine AL.off ?_
 refine N1 ?_
 cases hr
 exact q3n
 refine VF rfl (bF h3) ?_
 refine W4 ?_
 refine bdE hr fun y8 hy8 hr=>?_
 refine CB [] [] (z1N (m:=m) hy8) ?_
 refine N2 ?_
 cases hr
 exact q3n
 refine bdE hr fun s3 hqq7 hr=>?_
 refine q0h 8 [(2,.pb 0 0),(3,.pb 1 0),(7,.d .fz (.i .i64 (k2:Int))),(89,.d .fz (.b s3))] ?_ ?_
 replace hr:=hqq7
 refine ifE hr (fun h4 hr=>?_) fun h4 hr=>?_
 refine VT rfl h4 ?_
 iterate 6 refine AL.off ?_
 refine N1 ?_
 cases hr
 exact q3n
 refine VF rfl (bF h4) ?_
 refine W4 ?_
 refine bdE hr fun y9 hy9 hr=>?_
 refine CB [] [] (z1N (m:=m) hy9) ?_
 refine N2 ?_
 cases hr
 exact q3n
 refine N0 ?_
 refine ifE hr (fun h5 hr=>?_) fun h5 hr=>?_
 refine q0f rfl h5 ?_
 refine sr ?_
 refine N1 ?_
 refine AW.ret ?_
 cases hr
 cases hik2 _ rfl
 rename_i hr
 cases hr
 exact q0a [] 0 hS
 refine q0g rfl (bF h5) ?_
 refine q0b ?_
 refine q0c ?_
 refine W1 ?_
 refine OB _ (q3B (p:=k2) (q:=1) (q3m hltk2 hl2)) ?_
 refine N1 ?_
 cases hr
 exact⟨_,rfl,GH.trans (q0m (q:=0) [.d m (.sl 2 (a0.Symbols.map Symbol.D)),.u] (.cons .rfl (.cons .u .nil)) rfl) (q0e hS 2)⟩
 subst ek2
 refine ssr ?_
 refine W3 ?_
 refine LF ?_
 refine N1 ?_
 refine q0g rfl (dF hltk2) ?_
 refine q0i ?_
 refine sr ?_
 refine N1 ?_
 refine AW.ret ?_
 cases hr
 exact q0a [] 0 hS
def j1j (a1:ByteArray):Nat→Symbol→Unit→Option (Unit ⊕ Int):=fun k1 xk1 _=>
 if xk1.Name=a1 then (
 some (.inr (k1:Int))
 ) else (
 some (.inl ())
 )
def z4c (a0:Grammar)(a1:ByteArray):Option Int:=
 (findL (j1j a1) 0 a0.Symbols ()).bind <| onr (fun r1=>some r1) fun _=>
 some (-1)
theorem j1k {m:Md}{a0:Grammar}{a1:ByteArray}{r:Int}(hr:z4c a0 a1=some r):Ok Tryz.prog 135 [Grammar.y m a0,.d .fz (.s a1)] [] (.d .fz (.i .i64 r)) []:=by
 refine Ok.enter rfl Tryz.func135 rfl rfl rfl fun S hS=>?_
 unfold z4c at hr
 refine sr ?_
 refine BX 0 ?_
 refine N1 ?_
 refine ssr ?_
 refine N1 ?_
 refine AW.block ?_
 refine AW.len (.ag 0 (.tmp 0 rfl) rfl) fun hl1=>?_
 refine bdE hr fun q1 hqq1 hr=>?_
 refine q0k hqq1 hl1 1 (fun k1 _=>[(1,.d .fz (.s a1)),(2,.pb 0 0),(5,.d .fz (.i .i64 (k1:Int)))]) (fun k1 _=>[]) (GH.trans (q0m (q:=0) [.d m (.sl 2 (a0.Symbols.map Symbol.D)),.u] (.cons .rfl (.cons .u .nil)) rfl) (q0e hS 1)) (fun k1 xk1 sk1 ok1 hxk1 hr hltk1 hik1=>?_) fun k1 sk1 ek1 hltk1=>?_
 refine ssr ?_
 refine W3 ?_
 refine LF ?_
 refine N1 ?_
 refine q0f rfl (dT hltk1) ?_
 refine q0b ?_
 refine q0d (AW.block (q0d (q0c ?_)))
 refine W3 ?_
 refine IF (Int.natCast_nonneg _) hxk1 ?_
 refine N4 ?_
 refine ifE hr (fun h1 hr=>?_) fun h1 hr=>?_
 refine q0f rfl (dT h1) ?_
 refine sr ?_
 refine N2 ?_
 refine AW.ret ?_
 cases hr
 cases hik1 _ rfl
 rename_i hr
 cases hr
 exact q0a [] 0 hS
 refine q0g rfl (dF h1) ?_
 refine q0b ?_
 refine q0c ?_
 refine W1 ?_
 refine OB _ (q3B (p:=k1) (q:=1) (q3m hltk1 hl1)) ?_
 refine N1 ?_
 cases hr
 exact⟨_,rfl,GH.trans (q0m (q:=0) [.d m (.sl 2 (a0.Symbols.map Symbol.D)),.u] (.cons .rfl (.cons .u .nil)) rfl) (q0e hS 1)⟩
 subst ek1
 refine ssr ?_
 refine W3 ?_
 refine LF ?_
 refine N1 ?_
 refine q0g rfl (dF hltk1) ?_
 refine q0i ?_
 refine sr ?_
 refine N1 ?_
 refine AW.ret ?_
 cases hr
 exact q0a [] 0 hS
def z1O (a0:Grammar)(a2:(List Int)):Nat→ByteArray→Bool→Option Bool:=fun k2 xk2 s1=>
 (z4c a0 xk2).bind fun y1=>
 (
 if s1=true then (
 some (decide (0≤y1))
 ) else (
 some false
 )
 ).bind fun s2=>
 (
 if s2=true then (
 (z1v y1 0).bind fun y2=>
 grd (0≤y2) <|
 (a2[y2.toNat]?).bind fun x1=>
 some (decide (0 < x1))
 ) else (
 some false
 )
 ).bind fun s3=>
 some s3
def z4m (a0:Grammar)(a1:ByteArray)(a2:(List Int)):Nat→Rule→Unit→Option (Unit ⊕ Bool):=fun k1 xk1 _=>
 (eachL (z1O a0 a2) 0 xk1.Right (decide (xk1.Left=a1))).bind fun s1=>
 if s1=true then (
 some (.inr true)
 ) else (
 some (.inl ())
 )
def q9u (a0:Grammar)(a1:ByteArray)(a2:(List Int)):Option Bool:=
 (findL (z4m a0 a1 a2) 0 a0.Rules ()).bind <| onr (fun r1=>some r1) fun _=>
 some false
theorem z8w {m:Md}{a0:Grammar}{a1:ByteArray}{a2:(List Int)}{r:Bool}(hr:q9u a0 a1 a2=some r):Ok Tryz.prog 171 [Grammar.x m a0,.d .fz (.s a1),.d m (.sl 1 (a2.map (A.D.i .i64)))] [] (.d .fz (.b r)) []:=by
 refine Ok.enter rfl Tryz.func171 rfl rfl rfl fun S hS=>?_
 unfold q9u at hr
 refine sr ?_
 refine BX 0 ?_
 refine N1 ?_
 refine ssr ?_
 refine N1 ?_
 refine AW.block ?_
 refine AW.len (.ag 1 (.tmp 0 rfl) rfl) fun hl1=>?_
 refine bdE hr fun q1 hqq1 hr=>?_
 refine q0k hqq1 hl1 1 (fun k1 _=>[(1,.d .fz (.s a1)),(2,.d m (.sl 1 (a2.map (A.D.i .i64)))),(3,.pb 0 0),(7,.d .fz (.i .i64 (k1:Int)))]) (fun k1 _=>[]) (q0e hS 1) (fun k1 xk1 sk1 ok1 hxk1 hr hltk1 hik1=>?_) fun k1 sk1 ek1 hltk1=>?_
 refine ssr ?_
 refine W3 ?_
 refine LF ?_
 refine N1 ?_
 refine q0f rfl (dT hltk1) ?_
 refine q0b ?_
 refine q0d (AW.block (q0d (q0c ?_)))
 refine W3 ?_
 refine IF (Int.natCast_nonneg _) hxk1 ?_
 refine W1 ?_
 refine NV 1 ?_
 refine SB ?_
 refine N0 ?_
 refine sr ?_
 refine N5 ?_
 refine ssr ?_
 refine N1 ?_
 refine AW.block ?_
 refine AW.len (.ag 2 (.tmp 23 rfl) rfl) fun hl2=>?_
 refine bdE hr fun s1 hqq2 hr=>?_
 refine q0o hqq2 hl2 2 (fun k2 s1=>[(1,.d .fz (.s a1)),(2,.d m (.sl 1 (a2.map (A.D.i .i64)))),(3,.pb 0 0),(7,.d .fz (.i .i64 (k1:Int))),(8,.pb 1 0),(9,.d .fz (.b s1)),(10,.d .fz (.i .i64 (k2:Int)))]) (fun k2 s1=>[]) (q0e hS 2) (fun k2 xk2 sk2 ok2 hxk2 hr hltk2=>?_) fun k2 hltk2=>?_
 obtain⟨s1,rfl⟩:∃ y,y=sk2:=⟨_,rfl⟩
 refine ssr ?_
 refine W3 ?_
 refine LF ?_
 refine N1 ?_
 refine q0f rfl (dT hltk2) ?_
 refine q0b ?_
 refine q0d (AW.block (q0d (q0j (h:=?_))))
 refine W4 ?_
 refine IF (Int.natCast_nonneg _) hxk2 ?_
 refine W1 ?_
 refine bdE hr fun y1 hy1 hr=>?_
 refine CB [] [] (j1k (m:=m) hy1) ?_
 refine N1 ?_
 refine q0c ?_
 refine W1 ?_
 refine bdE hr fun s2 hqq3 hr=>?_
 refine q0h 4 [(1,.d .fz (.s a1)),(2,.d m (.sl 1 (a2.map (A.D.i .i64)))),(3,.pb 0 0),(7,.d .fz (.i .i64 (k1:Int))),(8,.pb 1 0),(9,.d .fz (.b s1)),(10,.d .fz (.i .i64 (k2:Int))),(11,.d .fz (.i .i64 y1)),(46,.d .fz (.b s2))] ?_ ?_
 replace hr:=hqq3
 refine ifE hr (fun h1 hr=>?_) fun h1 hr=>?_
 refine VT rfl h1 ?_
 refine N3 ?_
 cases hr
 exact q3n
 refine VF rfl (bF h1) ?_
 iterate 2 refine AL.off ?_
 refine N1 ?_
 cases hr
 exact q3n
 refine bdE hr fun s3 hqq4 hr=>?_
 refine q0h 8 [(1,.d .fz (.s a1)),(2,.d m (.sl 1 (a2.map (A.D.i .i64)))),(3,.pb 0 0),(7,.d .fz (.i .i64 (k1:Int))),(8,.pb 1 0),(9,.d .fz (.b s1)),(10,.d .fz (.i .i64 (k2:Int))),(54,.d .fz (.b s3))] ?_ ?_
 replace hr:=hqq4
 refine ifE hr (fun h2 hr=>?_) fun h2 hr=>?_
 refine VT rfl h2 ?_
 refine W2 ?_
 refine bdE hr fun y2 hy2 hr=>?_
 refine CB [] [] (z7b hy2) ?_
 refine ggE hr fun g1 hr=>?_
 refine bdE hr fun x1 hx1 hr=>?_
 refine IF g1 hx1 ?_
 refine N3 ?_
 cases hr
 exact q3n
 refine VF rfl (bF h2) ?_
 iterate 6 refine AL.off ?_
 refine N1 ?_
 cases hr
 exact q3n
 refine N1 ?_
 refine q0c ?_
 refine W1 ?_
 refine OB _ (q3B (p:=k2) (q:=1) (q3m hltk2 hl2)) ?_
 refine N1 ?_
 cases hr
 exact q0e hS 2
 refine ssr ?_
 refine W3 ?_
 refine LF ?_
 refine N1 ?_
 refine q0g rfl (dF hltk2) ?_
 refine q0i ?_
 refine sr ?_
 refine N1 ?_
 refine ifE hr (fun h3 hr=>?_) fun h3 hr=>?_
 refine q0f rfl h3 ?_
 refine sr ?_
 refine N1 ?_
 refine AW.ret ?_
 cases hr
 cases hik1 _ rfl
 rename_i hr
 cases hr
 exact q0a [] 0 hS
 refine q0g rfl (bF h3) ?_
 refine q0b ?_
 refine q0c ?_
 refine W1 ?_
 refine OB _ (q3B (p:=k1) (q:=1) (q3m hltk1 hl1)) ?_
 refine N1 ?_
 cases hr
 exact⟨_,rfl,q0e hS 1⟩
 subst ek1
 refine ssr ?_
 refine W3 ?_
 refine LF ?_
 refine N1 ?_
 refine q0g rfl (dF hltk1) ?_
 refine q0i ?_
 refine sr ?_
 refine N1 ?_
 refine AW.ret ?_
 cases hr
 exact q0a [] 0 hS
def z0b (a0:Grammar)(s2:List Int)(s3:Int):Nat→Symbol→((List Int))→Option ((List Int)):=fun k2 xk2 s4=>
 (
 (s2[k2]?).bind fun x1=>
 if x1=0 then (
 (q9u a0 xk2.Name s2).bind fun y1=>
 if y1=true then (
 (s4[k2]?).bind fun x2=>
 some (List.set s4 k2 s3)
 ) else (
 some s4
 )
 ) else (
 some s4
 )
 ).bind fun s5=>
 some s5
def q7J (a0:Grammar):((List Int) × Int)→Option (((List Int) × Int) ⊕ ((List Int))):=fun (s2,s3)=>
 if s3≤(a0.Symbols.length:Int) then (
 grd (((([]:List Int).length:Int)+(s2.length:Int))*8≤140737488355328∧(([]:List Int).length:Int)+(s2.length:Int)≤9223372036854775807) <|
 (eachL (z0b a0 s2 s3) 0 a0.Symbols s2).bind fun s4=>
 grd (I64 (s3+1)) <|
 some (.inl (s4,(s3+1)))
 ) else (
 some (.inr s2)
 )
def q9v (a0:Grammar):Option (List Int):=
 grd (0≤(a0.Symbols.length:Int)∧(a0.Symbols.length:Int)*8≤281474976710656∧(a0.Symbols.length:Int)≤9223372036854775807) <|
 (q5m (q7J a0) ((List.replicate a0.Symbols.length (0:Int)),1)).bind fun s1=>
 some s1
theorem z8x {m:Md}{a0:Grammar}{r:(List Int)}(hr:q9v a0=some r):Ok Tryz.prog 136 [Grammar.x m a0] [] (.ref 0 none) [.row .fz 1 (r.map (A.D.i .i64))]:=by
 refine Ok.enter rfl Tryz.func136 rfl rfl rfl fun S hS=>?_
 unfold q9v at hr
 refine sr ?_
 refine BX 0 ?_
 refine N1 ?_
 refine sr ?_
 refine W2 ?_
 refine LF ?_
 refine ggE hr fun g1 hr=>?_
 refine MKR 1 (f:=(A.D.i .i64)) (0:Int) g1.1 g1.2.1 g1.2.2 ?_
 refine N1 ?_
 refine ssr ?_
 refine N1 ?_
 refine bdE hr fun s1 hqq1 hr=>?_
 refine q0n 2 [(3,.ref 1 none)] [(1,.row .fz 1 (s1.map (A.D.i .i64)))] ?_ ?_
 refine AW.block (q0q hqq1 2 (fun (s2,s3)=>[(1,.pb 0 0),(3,.ref 1 none),(4,.d .fz (.i .i64 s3))]) (fun (s2,s3)=>[(1,.row .fz 1 (s2.map (A.D.i .i64)))]) (q0e hS 2) fun sk1 ok1 hr hik1=>?_)
 obtain⟨s2,s3⟩:=sk1
 have hr:=hr
 refine ssr ?_
 refine W3 ?_
 refine LF ?_
 refine N1 ?_
 refine ifE hr (fun h1 hr=>?_) fun h1 hr=>?_
 refine q0f rfl (dT h1) ?_
 refine q0b ?_
 refine q0d (AW.block (q0d (q0c ?_)))
 refine L0 2 (A.D.i .i64) ?_
 refine W1 ?_
 refine ggE hr fun g2 hr=>?_
 refine APfB (f:=(A.D.i .i64)) 3 8 (fun _=>rfl) g2 ?_
 refine N1 ?_
 refine ssr ?_
 refine N1 ?_
 refine AW.block ?_
 refine AW.len (.tmp 13 rfl) fun hl2=>?_
 refine bdE hr fun s4 hqq2 hr=>?_
 refine q0o hqq2 hl2 4 (fun k2 s4=>[(1,.pb 0 0),(3,.ref 1 none),(4,.d .fz (.i .i64 s3)),(5,.ref 3 none),(6,.d .fz (.i .i64 (k2:Int)))]) (fun k2 s4=>[(2,.none),(3,.row .fz 1 (s4.map (A.D.i .i64)))]) (q0l hS [(0,0),(1,1),(3,3)] 4) (fun k2 xk2 sk2 ok2 hxk2 hr hltk2=>?_) fun k2 hltk2=>?_
 obtain⟨s4,rfl⟩:∃ y,y=sk2:=⟨_,rfl⟩
 refine ssr ?_
 refine W3 ?_
 refine LF ?_
 refine N1 ?_
 refine q0f rfl (dT hltk2) ?_
 refine q0b ?_
 refine bdE hr fun s5 hqq3 hr=>?_
 refine q0d (q0n 4 [(1,.pb 0 0),(3,.ref 1 none),(4,.d .fz (.i .i64 s3)),(5,.ref 3 none),(6,.d .fz (.i .i64 (k2:Int)))] [(3,.row .fz 1 (s5.map (A.D.i .i64)))] ?_ ?_)
 replace hr:=hqq3
 refine AW.block (q0d (q0j (h:=?_)))
 refine W2 ?_
 refine bdE hr fun x1 hx1 hr=>?_
 refine IE hx1 (Int.natCast_nonneg _) ?_
 refine LP hx1 ?_
 refine W1 ?_
 refine ifE hr (fun h2 hr=>?_) fun h2 hr=>?_
 refine VT rfl (dT h2) ?_
 refine W4 ?_
 refine IF (Int.natCast_nonneg _) hxk2 ?_
 refine W3 ?_
 refine bdE hr fun y1 hy1 hr=>?_
 refine CB [] [1] (z8w (m:=.bo) hy1) ?_
 refine N1 ?_
 refine ifE hr (fun h3 hr=>?_) fun h3 hr=>?_
 refine q0f rfl h3 ?_
 refine q0c ?_
 refine W3 ?_
 refine bdE hr fun x2 hx2 hr=>?_
 refine IE hx2 (Int.natCast_nonneg _) ?_
 refine SE s3 hx2 ?_
 refine N0 ?_
 cases hr
 exact q0l hS [(0,0),(1,1),(3,3)] 4
 refine q0g rfl (bF h3) ?_
 refine q0b ?_
 cases hr
 exact q0l hS [(0,0),(1,1),(3,3)] 4
 refine VF rfl (dF h2) ?_
 iterate 9 refine AL.off ?_
 refine N1 ?_
 refine q0g rfl rfl ?_
 refine q0b ?_
 cases hr
 exact q0l hS [(0,0),(1,1),(3,3)] 4
 refine q0c ?_
 refine W1 ?_
 refine OB _ (q3B (p:=k2) (q:=1) (q3m hltk2 hl2)) ?_
 refine N1 ?_
 cases hr
 exact q0l hS [(0,0),(1,1),(3,3)] 4
 refine ssr ?_
 refine W3 ?_
 refine LF ?_
 refine N1 ?_
 refine q0g rfl (dF hltk2) ?_
 refine q0i ?_
 refine q0c ?_
 refine N2 ?_
 refine q0c ?_
 refine W1 ?_
 refine ggE hr fun g3 hr=>?_
 refine OB _ (bAdd g3) ?_
 refine N1 ?_
 cases hr
 exact⟨_,rfl,q0l hS [(0,0),(3,1)] 2⟩
 refine q0g rfl (dF h1) ?_
 refine q0i ?_
 cases hr
 cases hik1 _ rfl
 exact q0e hS 2
 refine sr ?_
 refine N2 ?_
 refine AW.ret ?_
 cases hr
 exact q0a [(1,0)] 1 hS
def z1z (a0:Grammar)(a1:ByteArray):Option Int:=
 (z4c a0 a1).bind fun y1=>
 if y1 < 0 then (
 some 0
 ) else (
 (q9v a0).bind fun y2=>
 grd (0≤y1) <|
 (y2[y1.toNat]?).bind fun x1=>
 some x1
 )
theorem z9Q {m:Md}{a0:Grammar}{a1:ByteArray}{r:Int}(hr:z1z a0 a1=some r):Ok Tryz.prog 103 [Grammar.x m a0,.d .fz (.s a1)] [] (.d .fz (.i .i64 r)) []:=by
 refine Ok.enter rfl Tryz.func103 rfl rfl rfl fun S hS=>?_
 unfold z1z at hr
 refine sr ?_
 refine BX 0 ?_
 refine N1 ?_
 refine sr ?_
 refine W2 ?_
 refine bdE hr fun y1 hy1 hr=>?_
 refine CB [] [] (j1k (m:=m) hy1) ?_
 refine N1 ?_
 refine ssr ?_
 refine N2 ?_
 refine ifE hr (fun h1 hr=>?_) fun h1 hr=>?_
 refine q0f rfl (dT h1) ?_
 refine sr ?_
 refine N1 ?_
 refine AW.ret ?_
 cases hr
 exact q0a [] 0 hS
 refine q0g rfl (dF h1) ?_
 refine q0b ?_
 refine sr ?_
 refine W1 ?_
 refine bdE hr fun y2 hy2 hr=>?_
 refine CB [(0,1)] [] (z8x (m:=m) hy2) ?_
 refine W1 ?_
 refine ggE hr fun g1 hr=>?_
 refine bdE hr fun x1 hx1 hr=>?_
 refine IE hx1 g1 ?_
 refine LP hx1 ?_
 refine N1 ?_
 refine AW.ret ?_
 cases hr
 exact q0a [] 0 hS
def q8c (a0:Grammar)(a1:ByteArray):Option Bool:=
 (z1z a0 a1).bind fun y1=>
 some (decide (0 < y1))
theorem z6p {m:Md}{a0:Grammar}{a1:ByteArray}{r:Bool}(hr:q8c a0 a1=some r):Ok Tryz.prog 71 [Grammar.x m a0,.d .fz (.s a1)] [] (.d .fz (.b r)) []:=by
 refine Ok.enter rfl Tryz.func71 rfl rfl rfl fun S hS=>?_
 unfold q8c at hr
 refine sr ?_
 refine BX 0 ?_
 refine N1 ?_
 refine sr ?_
 refine W2 ?_
 refine bdE hr fun y1 hy1 hr=>?_
 refine CB [] [] (z9Q (m:=m) hy1) ?_
 refine N2 ?_
 refine AW.ret ?_
 cases hr
 exact q0a [] 0 hS
def z2P (a0:Grammar):Nat→Rule→Unit→Option (Unit ⊕ (Int × Int)):=fun k1 xk1 _=>
 (z2k a0 xk1).bind fun y3=>
 if y3=true then (
 some (.inl ())
 ) else (
 some (.inr (7,(k1:Int)))
 )
def q8I (a0:Grammar):Nat→Symbol→Unit→Option (Unit ⊕ (Int × Int)):=fun k2 xk2 _=>
 (q8c a0 xk2.Name).bind fun y4=>
 if y4=true then (
 some (.inl ())
 ) else (
 some (.inr (8,(k2:Int)))
 )
def q7b (a0:Grammar):Option (Int × Int):=
 (q9r a0).bind fun (y1,y2)=>
 if y1=0 then (
 (findL (z2P a0) 0 a0.Rules ()).bind <| onr (fun r1=>some r1) fun _=>
 (findL (q8I a0) 0 a0.Symbols ()).bind <| onr (fun r2=>some r2) fun _=>
 some (0,0)
 ) else (
 some (y1,y2)
 )
theorem z2Q {m:Md}{a0:Grammar}{r:(Int × Int)}(hr:q7b a0=some r):Ok Tryz.prog 35 [Grammar.x m a0] [] (.tu [.d .fz (.i .i64 r.1),.d .fz (.i .i64 r.2)]) []:=by
 refine Ok.enter rfl Tryz.func35 rfl rfl rfl fun S hS=>?_
 unfold q7b at hr
 refine sr ?_
 refine BX 0 ?_
 refine N2 ?_
 refine sr ?_
 refine W1 ?_
 refine bdE hr fun q1 hq1 hr=>?_
 obtain⟨y1,y2⟩:=q1
 refine CB [] [] (z8v (m:=m) hq1) ?_
 refine N5 ?_
 refine ssr ?_
 refine N2 ?_
 refine ifE hr (fun h1 hr=>?_) fun h1 hr=>?_
 refine q0g rfl (nF h1) ?_
 refine q0b ?_
 refine ssr ?_
 refine N1 ?_
 refine AW.block ?_
 refine AW.len (.ag 1 (.tmp 0 rfl) rfl) fun hl1=>?_
 refine bdE hr fun q2 hqq2 hr=>?_
 refine q0k hqq2 hl1 1 (fun k1 _=>[(1,.pb 0 0),(6,.d .fz (.i .i64 (k1:Int)))]) (fun k1 _=>[]) (q0e hS 1) (fun k1 xk1 sk1 ok1 hxk1 hr hltk1 hik1=>?_) fun k1 sk1 ek1 hltk1=>?_
 refine ssr ?_
 refine W3 ?_
 refine LF ?_
 refine N1 ?_
 refine q0f rfl (dT hltk1) ?_
 refine q0b ?_
 refine q0d (AW.block (q0d (q0j (h:=?_))))
 refine W4 ?_
 refine IF (Int.natCast_nonneg _) hxk1 ?_
 refine W1 ?_
 refine bdE hr fun y3 hy3 hr=>?_
 refine CB [] [] (j2C (m:=m) hy3) ?_
 refine N1 ?_
 refine ifE hr (fun h2 hr=>?_) fun h2 hr=>?_
 refine q0g rfl (bnF h2) ?_
 refine q0b ?_
 refine q0c ?_
 refine W1 ?_
 refine OB _ (q3B (p:=k1) (q:=1) (q3m hltk1 hl1)) ?_
 refine N1 ?_
 cases hr
 exact⟨_,rfl,q0e hS 1⟩
 refine q0f rfl (bnT h2) ?_
 refine sr ?_
 refine N3 ?_
 refine AW.ret ?_
 cases hr
 cases hik1 _ rfl
 rename_i hr
 cases hr
 exact q0a [] 0 hS
 subst ek1
 refine ssr ?_
 refine W3 ?_
 refine LF ?_
 refine N1 ?_
 refine q0g rfl (dF hltk1) ?_
 refine q0i ?_
 refine ssr ?_
 refine N1 ?_
 refine AW.block ?_
 refine AW.len (.box 0 0 rfl rfl) fun hl2=>?_
 refine bdE hr fun q3 hqq3 hr=>?_
 refine q0k hqq3 hl2 1 (fun k2 _=>[(1,.pb 0 0),(7,.d .fz (.i .i64 (k2:Int)))]) (fun k2 _=>[]) (q0e hS 1) (fun k2 xk2 sk2 ok2 hxk2 hr hltk2 hik2=>?_) fun k2 sk2 ek2 hltk2=>?_
 refine ssr ?_
 refine W3 ?_
 refine LF ?_
 refine N1 ?_
 refine q0f rfl (dT hltk2) ?_
 refine q0b ?_
 refine q0d (AW.block (q0d (q0j (h:=?_))))
 refine W4 ?_
 refine IF (Int.natCast_nonneg _) hxk2 ?_
 refine W2 ?_
 refine bdE hr fun y4 hy4 hr=>?_
 refine CB [] [] (z6p (m:=m) hy4) ?_
 refine N1 ?_
 refine ifE hr (fun h3 hr=>?_) fun h3 hr=>?_
 refine q0g rfl (bnF h3) ?_
 refine q0b ?_
 refine q0c ?_
 refine W1 ?_
 refine OB _ (q3B (p:=k2) (q:=1) (q3m hltk2 hl2)) ?_
 refine N1 ?_
 cases hr
 exact⟨_,rfl,q0e hS 1⟩
 refine q0f rfl (bnT h3) ?_
 refine sr ?_
 refine N3 ?_
 refine AW.ret ?_
 cases hr
 cases hik2 _ rfl
 rename_i hr
 cases hr
 exact q0a [] 0 hS
 subst ek2
 refine ssr ?_
 refine W3 ?_
 refine LF ?_
 refine N1 ?_
 refine q0g rfl (dF hltk2) ?_
 refine q0i ?_
 refine sr ?_
 refine N2 ?_
 refine AW.ret ?_
 cases hr
 exact q0a [] 0 hS
 refine q0f rfl (nT h1) ?_
 refine sr ?_
 refine N4 ?_
 refine AW.ret ?_
 cases hr
 exact q0a [] 0 hS
def z2l (a0:Grammar):Option Bool:=
 (q7b a0).bind fun (y1,y2)=>
 some (decide (y1=0))
theorem j2D {m:Md}{a0:Grammar}{r:Bool}(hr:z2l a0=some r):Ok Tryz.prog 24 [Grammar.x m a0] [] (.d .fz (.b r)) []:=by
 refine Ok.enter rfl Tryz.func24 rfl rfl rfl fun S hS=>?_
 unfold z2l at hr
 refine sr ?_
 refine BX 0 ?_
 refine N1 ?_
 refine sr ?_
 refine W1 ?_
 refine bdE hr fun q1 hq1 hr=>?_
 obtain⟨y1,y2⟩:=q1
 refine CB [] [] (z2Q (m:=m) hq1) ?_
 refine N5 ?_
 refine sr ?_
 refine N3 ?_
 refine AW.ret ?_
 cases hr
 exact q0a [] 0 hS
def z2R:Nat→Attribute→Unit→Option (Unit ⊕ Bool):=fun k2 xk2 _=>
 if xk2.Mode=3 then (
 some (.inr false)
 ) else (
 some (.inl ())
 )
def z2S:Nat→Symbol→Unit→Option (Unit ⊕ Bool):=fun k1 xk1 _=>
 (findL z2R 0 xk1.Attributes ()).bind <| onr (fun r1=>some (.inr r1)) fun _=>
 some (.inl ())
def z2T (a0:Grammar):Nat→Rule→Unit→Option (Unit ⊕ Bool):=fun k3 xk3 _=>
 (z3Z a0 xk3).bind fun y1=>
 if y1=true then (
 some (.inl ())
 ) else (
 some (.inr false)
 )
def q8d (a0:Grammar):Option Bool:=
 (findL z2S 0 a0.Symbols ()).bind <| onr (fun r2=>some r2) fun _=>
 (findL (z2T a0) 0 a0.Rules ()).bind <| onr (fun r3=>some r3) fun _=>
 (z2l a0).bind fun y2=>
 some y2
theorem z6q {m:Md}{a0:Grammar}{r:Bool}(hr:q8d a0=some r):Ok Tryz.prog 7 [Grammar.x m a0] [] (.d .fz (.b r)) []:=by
 refine Ok.enter rfl Tryz.func7 rfl rfl rfl fun S hS=>?_
 unfold q8d at hr
 refine sr ?_
 refine BX 0 ?_
 refine N1 ?_
 refine ssr ?_
 refine N1 ?_
 refine AW.block ?_
 refine AW.len (.ag 0 (.tmp 0 rfl) rfl) fun hl1=>?_
 refine bdE hr fun q1 hqq1 hr=>?_
 refine q0k hqq1 hl1 1 (fun k1 _=>[(1,.pb 0 0),(3,.d .fz (.i .i64 (k1:Int)))]) (fun k1 _=>[]) (q0e hS 1) (fun k1 xk1 sk1 ok1 hxk1 hr hltk1 hik1=>?_) fun k1 sk1 ek1 hltk1=>?_
 refine ssr ?_
 refine W3 ?_
 refine LF ?_
 refine N1 ?_
 refine q0f rfl (dT hltk1) ?_
 refine q0b ?_
 refine q0d (AW.block (q0d (q0c ?_)))
 refine N1 ?_
 refine AW.block ?_
 refine AW.len (.el 1 (.tmp 8 rfl) hxk1 rfl) fun hl2=>?_
 refine bdE hr fun q2 hqq2 hr=>?_
 refine q0k hqq2 hl2 1 (fun k2 _=>[(1,.pb 0 0),(3,.d .fz (.i .i64 (k1:Int))),(4,.d .fz (.i .i64 (k2:Int)))]) (fun k2 _=>[]) (q0e hS 1) (fun k2 xk2 sk2 ok2 hxk2 hr hltk2 hik2=>?_) fun k2 sk2 ek2 hltk2=>?_
 refine ssr ?_
 refine W4 ?_
 refine IF (Int.natCast_nonneg _) hxk1 ?_
 refine W2 ?_
 refine LF ?_
 refine N1 ?_
 refine q0f rfl (dT hltk2) ?_
 refine q0b ?_
 refine q0d (AW.block (q0d (q0c ?_)))
 refine W3 ?_
 refine IF (Int.natCast_nonneg _) hxk1 ?_
 refine W3 ?_
 refine IF (Int.natCast_nonneg _) hxk2 ?_
 refine N3 ?_
 refine ifE hr (fun h1 hr=>?_) fun h1 hr=>?_
 refine q0f rfl (dT h1) ?_
 refine sr ?_
 refine N1 ?_
 refine AW.ret ?_
 cases hr
 cases hik2 _ rfl
 rename_i hr
 cases hr
 cases hik1 _ rfl
 rename_i hr
 cases hr
 exact q0a [] 0 hS
 refine q0g rfl (dF h1) ?_
 refine q0b ?_
 refine q0c ?_
 refine W1 ?_
 refine OB _ (q3B (p:=k2) (q:=1) (q3m hltk2 hl2)) ?_
 refine N1 ?_
 cases hr
 exact⟨_,rfl,q0e hS 1⟩
 subst ek2
 refine ssr ?_
 refine W4 ?_
 refine IF (Int.natCast_nonneg _) hxk1 ?_
 refine W2 ?_
 refine LF ?_
 refine N1 ?_
 refine q0g rfl (dF hltk2) ?_
 refine q0i ?_
 refine q0c ?_
 refine W1 ?_
 refine OB _ (q3B (p:=k1) (q:=1) (q3m hltk1 hl1)) ?_
 refine N1 ?_
 cases hr
 exact⟨_,rfl,q0e hS 1⟩
 subst ek1
 refine ssr ?_
 refine W3 ?_
 refine LF ?_
 refine N1 ?_
 refine q0g rfl (dF hltk1) ?_
 refine q0i ?_
 refine ssr ?_
 refine N1 ?_
 refine AW.block ?_
 refine AW.len (.box 0 1 rfl rfl) fun hl3=>?_
 refine bdE hr fun q3 hqq3 hr=>?_
 refine q0k hqq3 hl3 1 (fun k3 _=>[(1,.pb 0 0),(5,.d .fz (.i .i64 (k3:Int)))]) (fun k3 _=>[]) (q0e hS 1) (fun k3 xk3 sk3 ok3 hxk3 hr hltk3 hik3=>?_) fun k3 sk3 ek3 hltk3=>?_
 refine ssr ?_
 refine W3 ?_
 refine LF ?_
 refine N1 ?_
 refine q0f rfl (dT hltk3) ?_
 refine q0b ?_
 refine q0d (AW.block (q0d (q0j (h:=?_))))
 refine W4 ?_
 refine IF (Int.natCast_nonneg _) hxk3 ?_
 refine W1 ?_
 refine bdE hr fun y1 hy1 hr=>?_
 refine CB [] [] (j2x (m:=m) hy1) ?_
 refine N1 ?_
 refine ifE hr (fun h2 hr=>?_) fun h2 hr=>?_
 refine q0g rfl (bnF h2) ?_
 refine q0b ?_
 refine q0c ?_
 refine W1 ?_
 refine OB _ (q3B (p:=k3) (q:=1) (q3m hltk3 hl3)) ?_
 refine N1 ?_
 cases hr
 exact⟨_,rfl,q0e hS 1⟩
 refine q0f rfl (bnT h2) ?_
 refine sr ?_
 refine N1 ?_
 refine AW.ret ?_
 cases hr
 cases hik3 _ rfl
 rename_i hr
 cases hr
 exact q0a [] 0 hS
 subst ek3
 refine ssr ?_
 refine W3 ?_
 refine LF ?_
 refine N1 ?_
 refine q0g rfl (dF hltk3) ?_
 refine q0i ?_
 refine sr ?_
 refine W1 ?_
 refine bdE hr fun y2 hy2 hr=>?_
 refine CB [] [] (j2D (m:=m) hy2) ?_
 refine N1 ?_
 refine AW.ret ?_
 cases hr
 exact q0a [] 0 hS
def z1k (a1:(List Occurrence)):Nat→Occurrence→Unit→Option (Unit ⊕ Bool):=fun k1 xk1 _=>
 (a1[k1]?).bind fun x1=>
 if xk1=x1 then (
 some (.inl ())
 ) else (
 some (.inr false)
 )
def q6L (a0:(List Occurrence))(a1:(List Occurrence)):Option Bool:=
 if (a0.length:Int)=(a1.length:Int) then (
 (findL (z1k a1) 0 a0 ()).bind <| onr (fun r1=>some r1) fun _=>
 some true
 ) else (
 some false
 )
theorem z4C {m:Md}{a0:(List Occurrence)}{a1:(List Occurrence)}{r:Bool}(hr:q6L a0 a1=some r):Ok Tryz.prog 9 [.d m (.sl 2 (a0.map Occurrence.D)),.d m (.sl 2 (a1.map Occurrence.D))] [] (.d .fz (.b r)) []:=by
 refine Ok.enter rfl Tryz.func9 rfl rfl rfl fun S hS=>?_
 unfold q6L at hr
 refine sr ?_
 refine N1 ?_
 refine ssr ?_
 refine W1 ?_
 refine LF ?_
 refine W1 ?_
 refine LF ?_
 refine N1 ?_
 refine ifE hr (fun h1 hr=>?_) fun h1 hr=>?_
 refine q0g rfl (nF h1) ?_
 refine q0b ?_
 refine ssr ?_
 refine N1 ?_
 refine AW.block ?_
 refine AW.len (.tmp 0 rfl) fun hl1=>?_
 refine bdE hr fun q1 hqq1 hr=>?_
 refine q0k hqq1 hl1 0 (fun k1 _=>[(0,.d m (.sl 2 (a0.map Occurrence.D))),(1,.d m (.sl 2 (a1.map Occurrence.D))),(5,.d .fz (.i .i64 (k1:Int)))]) (fun k1 _=>[]) (q0e hS 0) (fun k1 xk1 sk1 ok1 hxk1 hr hltk1 hik1=>?_) fun k1 sk1 ek1 hltk1=>?_
 refine ssr ?_
 refine W2 ?_
 refine LF ?_
 refine N1 ?_
 refine q0f rfl (dT hltk1) ?_
 refine q0b ?_
 refine q0d (AW.block (q0d (q0j (h:=?_))))
 refine W2 ?_
 refine IF (Int.natCast_nonneg _) hxk1 ?_
 refine W3 ?_
 refine bdE hr fun x1 hx1 hr=>?_
 refine IF (Int.natCast_nonneg _) hx1 ?_
 refine W1 ?_
 refine SQn rfl rfl rfl rfl (q5n xk1 x1) ?_
 refine N0 ?_
 refine ifE hr (fun h2 hr=>?_) fun h2 hr=>?_
 refine q0g rfl (nF h2) ?_
 refine q0b ?_
 refine q0c ?_
 refine W1 ?_
 refine OB _ (q3B (p:=k1) (q:=1) (q3m hltk1 hl1)) ?_
 refine N1 ?_
 cases hr
 exact⟨_,rfl,q0e hS 0⟩
 refine q0f rfl (nT h2) ?_
 refine sr ?_
 refine N1 ?_
 refine AW.ret ?_
 cases hr
 cases hik1 _ rfl
 rename_i hr
 cases hr
 exact q0a [] 0 hS
 subst ek1
 refine ssr ?_
 refine W2 ?_
 refine LF ?_
 refine N1 ?_
 refine q0g rfl (dF hltk1) ?_
 refine q0i ?_
 refine sr ?_
 refine N1 ?_
 refine AW.ret ?_
 cases hr
 exact q0a [] 0 hS
 refine q0f rfl (nT h1) ?_
 refine sr ?_
 refine N1 ?_
 refine AW.ret ?_
 cases hr
 exact q0a [] 0 hS
def z1l (a1:Occurrence):Nat→Occurrence→Unit→Option (Unit ⊕ Int):=fun k1 xk1 _=>
 if xk1=a1 then (
 some (.inr (k1:Int))
 ) else (
 some (.inl ())
 )
def q7P (a0:(List Occurrence))(a1:Occurrence):Option Int:=
 (findL (z1l a1) 0 a0 ()).bind <| onr (fun r1=>some r1) fun _=>
 some (-1)
theorem z4D {m:Md}{a0:(List Occurrence)}{a1:Occurrence}{r:Int}(hr:q7P a0 a1=some r):Ok Tryz.prog 33 [.d m (.sl 2 (a0.map Occurrence.D)),Occurrence.x .fz a1] [] (.d .fz (.i .i64 r)) []:=by
 refine Ok.enter rfl Tryz.func33 rfl rfl rfl fun S hS=>?_
 unfold q7P at hr
 refine sr ?_
 refine BX 0 ?_
 refine N1 ?_
 refine ssr ?_
 refine N1 ?_
 refine AW.block ?_
 refine AW.len (.tmp 0 rfl) fun hl1=>?_
 refine bdE hr fun q1 hqq1 hr=>?_
 refine q0k hqq1 hl1 1 (fun k1 _=>[(0,.d m (.sl 2 (a0.map Occurrence.D))),(3,.pb 0 0),(5,.d .fz (.i .i64 (k1:Int)))]) (fun k1 _=>[]) (q0e hS 1) (fun k1 xk1 sk1 ok1 hxk1 hr hltk1 hik1=>?_) fun k1 sk1 ek1 hltk1=>?_
 refine ssr ?_
 refine W2 ?_
 refine LF ?_
 refine N1 ?_
 refine q0f rfl (dT hltk1) ?_
 refine q0b ?_
 refine q0d (AW.block (q0d (q0j (h:=?_))))
 refine W2 ?_
 refine IF (Int.natCast_nonneg _) hxk1 ?_
 refine W2 ?_
 refine SQ rfl rfl rfl rfl (q5n xk1 a1) ?_
 refine N0 ?_
 refine ifE hr (fun h1 hr=>?_) fun h1 hr=>?_
 refine q0f rfl (dT h1) ?_
 refine sr ?_
 refine N2 ?_
 refine AW.ret ?_
 cases hr
 cases hik1 _ rfl
 rename_i hr
 cases hr
 exact q0a [] 0 hS
 refine q0g rfl (dF h1) ?_
 refine q0b ?_
 refine q0c ?_
 refine W1 ?_
 refine OB _ (q3B (p:=k1) (q:=1) (q3m hltk1 hl1)) ?_
 refine N1 ?_
 cases hr
 exact⟨_,rfl,q0e hS 1⟩
 subst ek1
 refine ssr ?_
 refine W2 ?_
 refine LF ?_
 refine N1 ?_
 refine q0g rfl (dF hltk1) ?_
 refine q0i ?_
 refine sr ?_
 refine N1 ?_
 refine AW.ret ?_
 cases hr
 exact q0a [] 0 hS
def q7G (a0:(List Occurrence))(a1:Occurrence):Option Bool:=
 (q7P a0 a1).bind fun y1=>
 some (decide (0≤y1))
theorem z5D {m:Md}{a0:(List Occurrence)}{a1:Occurrence}{r:Bool}(hr:q7G a0 a1=some r):Ok Tryz.prog 11 [.d m (.sl 2 (a0.map Occurrence.D)),Occurrence.x .fz a1] [] (.d .fz (.b r)) []:=by
 refine Ok.enter rfl Tryz.func11 rfl rfl rfl fun S hS=>?_
 unfold q7G at hr
 refine sr ?_
 refine BX 0 ?_
 refine N1 ?_
 refine sr ?_
 refine W2 ?_
 refine bdE hr fun y1 hy1 hr=>?_
 refine CB [] [] (z4D (m:=m) hy1) ?_
 refine N2 ?_
 refine AW.ret ?_
 cases hr
 exact q0a [] 0 hS
def z7Q (a0:Grammar):Option Bool:=
 (q7b a0).bind fun (y1,y2)=>
 some (decide (y1=0))
theorem j7h {m:Md}{a0:Grammar}{r:Bool}(hr:z7Q a0=some r):Ok Tryz.prog 13 [Grammar.x m a0] [] (.d .fz (.b r)) []:=by
 refine Ok.enter rfl Tryz.func13 rfl rfl rfl fun S hS=>?_
 unfold z7Q at hr
 refine sr ?_
 refine BX 0 ?_
 refine N1 ?_
 refine sr ?_
 refine W1 ?_
 refine bdE hr fun q1 hq1 hr=>?_
 obtain⟨y1,y2⟩:=q1
 refine CB [] [] (z2Q (m:=m) hq1) ?_
 refine N5 ?_
 refine sr ?_
 refine N3 ?_
 refine AW.ret ?_
 cases hr
 exact q0a [] 0 hS
end Go.Proofs.YtibagkppfnjgcaaGreat
