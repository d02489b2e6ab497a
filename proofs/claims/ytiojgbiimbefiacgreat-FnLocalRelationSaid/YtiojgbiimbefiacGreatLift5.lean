/- What some functions of the program compute, as partial functions on plain data, and that they do; each lemma bears its conditions in its statement. -/
import Derived.Test.YtiojgbiimbefiacGreatLift4
set_option linter.unusedVariables false
set_option linter.unusedSimpArgs false
set_option linter.ambiguousOpen false
set_option linter.unusedSectionVars false
set_option linter.unnecessarySimpa false
set_option maxRecDepth 100000
set_option maxHeartbeats 40000000
noncomputable section
namespace Go.Proofs.YtiojgbiimbefiacGreat
open Go Go.E Go.A
def q6u (rec_sl4Uses:Expr→(List Occurrence)→Option (List Occurrence)):Nat→Expr→((List Occurrence))→Option ((List Occurrence)):=fun k1 xk1 s1=>
 (rec_sl4Uses xk1 s1).bind fun y2=>
 some y2
def z0p (rec_sl4Uses:Expr→(List Occurrence)→Option (List Occurrence)):Nat→Expr→((List Occurrence))→Option ((List Occurrence)):=fun k2 xk2 s2=>
 (rec_sl4Uses xk2 s2).bind fun y3=>
 some y3
def q5Y (rec_sl4Uses:Expr→(List Occurrence)→Option (List Occurrence))(a0:Expr)(a1:(List Occurrence)):Option (List Occurrence):=
 if a0.Kind=3 then (
 (q9P a1 (⟨a0.Pos,a0.Name⟩:Occurrence)).bind fun y1=>
 (eachL (q6u rec_sl4Uses) 0 a0.Args y1).bind fun s1=>
 some s1
 ) else (
 (eachL (z0p rec_sl4Uses) 0 a0.Args a1).bind fun s2=>
 some s2
 )
theorem z6A {rec_sl4Uses:Expr→(List Occurrence)→Option (List Occurrence)}(ih_sl4Uses:∀ {m:Md} {a0:Expr} {a1:(List Occurrence)} {r:(List Occurrence)},rec_sl4Uses a0 a1=some r→Ok Tryz.prog 36 [Expr.x m a0,.d m (.sl 2 (a1.map Occurrence.D))] [] (.d m (.sl 2 (r.map Occurrence.D))) []){m:Md}{a0:Expr}{a1:(List Occurrence)}{r:(List Occurrence)}(hr:q5Y rec_sl4Uses a0 a1=some r):Ok Tryz.prog 36 [Expr.x m a0,.d m (.sl 2 (a1.map Occurrence.D))] [] (.d m (.sl 2 (r.map Occurrence.D))) []:=by
 refine Ok.enter rfl Tryz.func36 rfl rfl rfl fun S hS=>?_
 unfold q5Y at hr
 refine AW.seq (AW.regL ?_)
 refine BX 0 ?_
 refine V rfl ?_
 refine AL.nil ?_
 refine AW.seq (AW.seq (AW.regL ?_))
 iterate 3 refine V rfl ?_
 refine AL.nil ?_
 refine ifE hr (fun h1 hr=>?_) fun h1 hr=>?_
 ·refine AW.cT rfl (dT h1) ?_
  refine AW.regL ?_
  iterate 6 refine V rfl ?_
  refine bdE hr fun y1 hy1 hr=>?_
  refine CB [] [] (z9Q (m:=m) hy1) ?_
  refine V rfl ?_
  refine AL.nil ?_
  refine AW.seq (AW.seq (AW.regL ?_))
  refine V rfl ?_
  refine AL.nil ?_
  refine AW.block ?_
  refine AW.len (.ag 6 (.tmp 0 rfl) rfl) fun hl1=>?_
  refine bdE hr fun s1 hqq1 hr=>?_
  refine AW.eachL hqq1 hl1 1 (fun k1 s1=>[(1,.d m (.sl 2 (s1.map Occurrence.D))),(2,.pb 0 0),(5,.d .fz (.i .i64 (k1:Int)))]) (fun k1 s1=>[]) (GH.renK hS [(0,0)] 1) (fun k1 xk1 sk1 ok1 hxk1 hr hltk1=>?_) fun k1 hltk1=>?_
  ·obtain⟨s1,rfl⟩:∃ y,y=sk1:=⟨_,rfl⟩
   refine AW.seq (AW.seq (AW.regL ?_))
   iterate 3 refine V rfl ?_
   refine LF ?_
   refine V rfl ?_
   refine AL.nil ?_
   refine AW.cT rfl (dT hltk1) ?_
   refine AW.skip ?_
   refine AW.seq (AW.block (AW.regL ?_))
   iterate 3 refine V rfl ?_
   refine IFq (Int.natCast_nonneg _) hxk1 (Expr.D_cells xk1) ?_
   iterate 2 refine V rfl ?_
   refine bdE hr fun y2 hy2 hr=>?_
   refine CB [] [] (ih_sl4Uses (m:=m) hy2) ?_
   refine V rfl ?_
   refine AL.nil ?_
   refine AW.regL ?_
   refine V rfl ?_
   refine OB _ (q2b (p:=k1) (q:=1) (q1o hltk1 hl1)) ?_
   refine V rfl ?_
   refine AL.nil ?_
   cases hr
   exact GH.renK hS [(0,0)] 1
  ·refine AW.seq (AW.seq (AW.regL ?_))
   iterate 3 refine V rfl ?_
   refine LF ?_
   refine V rfl ?_
   refine AL.nil ?_
   refine AW.cF rfl (dF hltk1) ?_
   refine AW.exit ?_
   refine AW.seq (AW.regL ?_)
   iterate 2 refine V rfl ?_
   refine AL.nil ?_
   refine AW.ret ?_
   cases hr
   exact endA.renK [] 0 hS
 ·refine AW.cF rfl (dF h1) ?_
  refine AW.skip ?_
  refine AW.seq (AW.seq (AW.regL ?_))
  refine V rfl ?_
  refine AL.nil ?_
  refine AW.block ?_
  refine AW.len (.ag 6 (.tmp 0 rfl) rfl) fun hl2=>?_
  refine bdE hr fun s2 hqq2 hr=>?_
  refine AW.eachL hqq2 hl2 1 (fun k2 s2=>[(1,.d m (.sl 2 (s2.map Occurrence.D))),(2,.pb 0 0),(5,.d .fz (.i .i64 (k2:Int)))]) (fun k2 s2=>[]) (GH.renK hS [(0,0)] 1) (fun k2 xk2 sk2 ok2 hxk2 hr hltk2=>?_) fun k2 hltk2=>?_
  ·obtain⟨s2,rfl⟩:∃ y,y=sk2:=⟨_,rfl⟩
   refine AW.seq (AW.seq (AW.regL ?_))
   iterate 3 refine V rfl ?_
   refine LF ?_
   refine V rfl ?_
   refine AL.nil ?_
   refine AW.cT rfl (dT hltk2) ?_
   refine AW.skip ?_
   refine AW.seq (AW.block (AW.regL ?_))
   iterate 3 refine V rfl ?_
   refine IFq (Int.natCast_nonneg _) hxk2 (Expr.D_cells xk2) ?_
   iterate 2 refine V rfl ?_
   refine bdE hr fun y3 hy3 hr=>?_
   refine CB [] [] (ih_sl4Uses (m:=m) hy3) ?_
   refine V rfl ?_
   refine AL.nil ?_
   refine AW.regL ?_
   refine V rfl ?_
   refine OB _ (q2b (p:=k2) (q:=1) (q1o hltk2 hl2)) ?_
   refine V rfl ?_
   refine AL.nil ?_
   cases hr
   exact GH.renK hS [(0,0)] 1
  ·refine AW.seq (AW.seq (AW.regL ?_))
   iterate 3 refine V rfl ?_
   refine LF ?_
   refine V rfl ?_
   refine AL.nil ?_
   refine AW.cF rfl (dF hltk2) ?_
   refine AW.exit ?_
   refine AW.seq (AW.regL ?_)
   iterate 2 refine V rfl ?_
   refine AL.nil ?_
   refine AW.ret ?_
   cases hr
   exact endA.renK [] 0 hS
def q3I:Nat→Expr→(List Occurrence)→Option (List Occurrence)
  | 0,_,_=>none
  | n+1,a0,a1=>q5Y (q3I n) a0 a1
def z1R (a0:Expr)(a1:(List Occurrence)):Option (List Occurrence):=recO fun n=>q3I n a0 a1
theorem z6B (n:Nat):∀ {m:Md} {a0:Expr} {a1:(List Occurrence)} {r:(List Occurrence)},q3I n a0 a1=some r→Ok Tryz.prog 36 [Expr.x m a0,.d m (.sl 2 (a1.map Occurrence.D))] [] (.d m (.sl 2 (r.map Occurrence.D))) []:=by
  induction n with
  | zero=>intro _ _ _ r hr; exact nomatch (show (none:Option (List Occurrence))=some r from hr)
  | succ n ih=>intro _ _ _ r hr; exact z6A ih hr
theorem z8D {m:Md}{a0:Expr}{a1:(List Occurrence)}{r:(List Occurrence)}(hr:z1R a0 a1=some r):Ok Tryz.prog 36 [Expr.x m a0,.d m (.sl 2 (a1.map Occurrence.D))] [] (.d m (.sl 2 (r.map Occurrence.D))) []:=by
  obtain⟨n,hn⟩:=q4v hr
  exact z6B n hn
def q2G (a0:Expr):Option (List Occurrence):=
 (z1R a0 []).bind fun y1=>
 some y1
theorem q5H {m:Md}{a0:Expr}{r:(List Occurrence)}(hr:q2G a0=some r):Ok Tryz.prog 17 [Expr.x m a0] [] (.d m (.sl 2 (r.map Occurrence.D))) []:=by
 refine Ok.enter rfl Tryz.func17 rfl rfl rfl fun S hS=>?_
 unfold q2G at hr
 refine AW.seq (AW.regL ?_)
 refine BX 0 ?_
 refine V rfl ?_
 refine AL.nil ?_
 refine AW.seq (AW.regL ?_)
 refine V rfl ?_
 refine L0 1 Occurrence.D ?_
 refine AL.fz 1 rfl ?_
 refine bdE hr fun y1 hy1 hr=>?_
 refine CB [] [] (z8D (m:=m) hy1) ?_
 refine V rfl ?_
 refine AL.nil ?_
 refine AW.ret ?_
 cases hr
 exact endA.renK [] 0 hS
def q4h (a1:Occurrence):Nat→Occurrence→Unit→Option (Unit ⊕ Int):=fun k1 xk1 _=>
 if xk1=a1 then (
 some (.inr (k1:Int))
 ) else (
 some (.inl ())
 )
def q2z (a0:(List Occurrence))(a1:Occurrence):Option Int:=
 (findL (q4h a1) 0 a0 ()).bind <| onr (fun r1=>some r1) fun _=>
 some (-1)
theorem q6K {m:Md}{a0:(List Occurrence)}{a1:Occurrence}{r:Int}(hr:q2z a0 a1=some r):Ok Tryz.prog 30 [.d m (.sl 2 (a0.map Occurrence.D)),Occurrence.x .fz a1] [] (.d .fz (.i .i64 r)) []:=by
 refine Ok.enter rfl Tryz.func30 rfl rfl rfl fun S hS=>?_
 unfold q2z at hr
 refine AW.seq (AW.regL ?_)
 refine BX 0 ?_
 refine V rfl ?_
 refine AL.nil ?_
 refine AW.seq (AW.seq (AW.regL ?_))
 refine V rfl ?_
 refine AL.nil ?_
 refine AW.block ?_
 refine AW.len (.tmp 0 rfl) fun hl1=>?_
 refine bdE hr fun q1 hqq1 hr=>?_
 refine AW.findL hqq1 hl1 1 (fun k1 _=>[(0,.d m (.sl 2 (a0.map Occurrence.D))),(3,.pb 0 0),(5,.d .fz (.i .i64 (k1:Int)))]) (fun k1 _=>[]) (GH.renK hS [(0,0)] 1) (fun k1 xk1 sk1 ok1 hxk1 hr hltk1 hik1=>?_) fun k1 sk1 ek1 hltk1=>?_
 ·refine AW.seq (AW.seq (AW.regL ?_))
  iterate 2 refine V rfl ?_
  refine LF ?_
  refine V rfl ?_
  refine AL.nil ?_
  refine AW.cT rfl (dT hltk1) ?_
  refine AW.skip ?_
  refine AW.seq (AW.block (AW.seq (AW.drawL (h:=?_))))
  iterate 2 refine V rfl ?_
  refine IF (Int.natCast_nonneg _) hxk1 ?_
  iterate 2 refine V rfl ?_
  refine SQ rfl rfl rfl rfl (q2T xk1 a1) ?_
  refine AL.nil ?_
  refine ifE hr (fun h1 hr=>?_) fun h1 hr=>?_
  ·refine AW.cT rfl (dT h1) ?_
   refine AW.seq (AW.regL ?_)
   iterate 2 refine V rfl ?_
   refine AL.nil ?_
   refine AW.ret ?_
   cases hr
   cases hik1 _ rfl
   rename_i hr
   cases hr
   exact endA.renK [] 0 hS
  ·refine AW.cF rfl (dF h1) ?_
   refine AW.skip ?_
   refine AW.regL ?_
   refine V rfl ?_
   refine OB _ (q2b (p:=k1) (q:=1) (q1o hltk1 hl1)) ?_
   refine V rfl ?_
   refine AL.nil ?_
   cases hr
   exact⟨_,rfl,GH.renK hS [(0,0)] 1⟩
 ·subst ek1
  refine AW.seq (AW.seq (AW.regL ?_))
  iterate 2 refine V rfl ?_
  refine LF ?_
  refine V rfl ?_
  refine AL.nil ?_
  refine AW.cF rfl (dF hltk1) ?_
  refine AW.exit ?_
  refine AW.seq (AW.regL ?_)
  refine V rfl ?_
  refine AL.nil ?_
  refine AW.ret ?_
  cases hr
  exact endA.renK [] 0 hS
def q4X (a0:Relation):Option Relation:=
 grd (((([]:List Int).length:Int)+(a0.Rows.length:Int))*8≤140737488355328∧(([]:List Int).length:Int)+(a0.Rows.length:Int)≤9223372036854775807) <|
 some a0
theorem z6C {m:Md}{a0:Relation}{r:Relation}(hr:q4X a0=some r):Ok Tryz.prog 52 [Relation.x m a0] [] (.ag [.d .fz (.i .i64 r.N),.ref 0 none]) [.row .fz 1 (r.Rows.map (A.D.i .i64))]:=by
 refine Ok.enter rfl Tryz.func52 rfl rfl rfl fun S hS=>?_
 unfold q4X at hr
 refine AW.seq (AW.regL ?_)
 refine BX 0 ?_
 refine NV 1 ?_
 refine AL.nil ?_
 refine AW.seq (AW.drawL (h:=?_))
 iterate 2 refine V rfl ?_
 refine L0 2 (A.D.i .i64) ?_
 iterate 2 refine V rfl ?_
 refine ggE hr fun g1 hr=>?_
 refine APfB (f:=(A.D.i .i64)) 3 8 (fun _=>rfl) g1 ?_
 refine V rfl ?_
 refine SB ?_
 refine AL.nil ?_
 refine AW.ret ?_
 cases hr
 exact endA.renK [(3,0)] 1 hS
def q4U (a0:Relation):Nat→Unit→Option (Unit ⊕ Bool):=fun k1 _=>
 (a0.Rows[k1]?).bind fun x1=>
 grd (0≤a0.N) <|
 grd (0≤a0.N∧a0.N < 63) <|
 (q2g x1 0 (((2 ^ a0.N.toNat:Nat):Int) - 1)).bind fun y2=>
 if y2=true then (
 some (.inl ())
 ) else (
 some (.inr false)
 )
def q2Z (a0:Relation):Option Bool:=
 (q2g a0.N 0 16).bind fun y1=>
 if y1=true then (
 if (a0.Rows.length:Int)=a0.N then (
 (findN (q4U a0) 0 a0.N.toNat ()).bind <| onr (fun r1=>some r1) fun _=>
 some true
 ) else (
 some false
 )
 ) else (
 some false
 )
theorem q9o {m:Md}{a0:Relation}{r:Bool}(hr:q2Z a0=some r):Ok Tryz.prog 53 [Relation.x m a0] [] (.d .fz (.b r)) []:=by
 refine Ok.enter rfl Tryz.func53 rfl rfl rfl fun S hS=>?_
 unfold q2Z at hr
 refine AW.seq (AW.regL ?_)
 refine BX 0 ?_
 refine V rfl ?_
 refine AL.nil ?_
 refine AW.seq (AW.seq (AW.regL ?_))
 iterate 2 refine V rfl ?_
 refine bdE hr fun y1 hy1 hr=>?_
 refine CB [] [] (q2w hy1) ?_
 refine V rfl ?_
 refine ifE hr (fun h1 hr=>?_) fun h1 hr=>?_
 ·refine VF rfl (bnF h1) ?_
  iterate 2 refine V rfl ?_
  refine LF ?_
  iterate 4 refine V rfl ?_
  refine AL.nil ?_
  refine ifE hr (fun h2 hr=>?_) fun h2 hr=>?_
  ·refine AW.cF rfl (nF h2) ?_
   refine AW.skip ?_
   refine AW.seq (AW.seq (AW.regL ?_))
   refine V rfl ?_
   refine AL.nil ?_
   refine AW.block ?_
   refine AW.rng (.ag 0 (.tmp 0 rfl) rfl) fun hl1=>?_
   refine bdE hr fun q1 hqq1 hr=>?_
   refine AW.findN hqq1 1 (fun k1 _=>[(1,.pb 0 0),(3,.d .fz (.i .i64 (k1:Int)))]) (fun k1 _=>[]) (GH.renK hS [(0,0)] 1) (fun k1 sk1 ok1 hr hltk1 hik1=>?_) fun sk1 ek1=>?_
   ·refine AW.seq (AW.seq (AW.regL ?_))
    iterate 4 refine V rfl ?_
    refine AL.nil ?_
    refine AW.cT rfl (dT (ltI hltk1)) ?_
    refine AW.skip ?_
    refine AW.seq (AW.block (AW.seq (AW.drawL (h:=?_))))
    iterate 3 refine V rfl ?_
    refine bdE hr fun x1 hx1 hr=>?_
    refine IF (Int.natCast_nonneg _) hx1 ?_
    iterate 3 refine V rfl ?_
    refine ggE hr fun g1 hr=>?_
    refine CIU g1 rfl ?_
    refine ggE hr fun g2 hr=>?_
    refine OB _ (z8l g2) ?_
    refine OB _ (j4h (p:=(2 ^ a0.N.toNat)) (k:=1) (by decide)) ?_
    refine bdE hr fun y2 hy2 hr=>?_
    refine CB [] [] (q2w hy2) ?_
    refine V rfl ?_
    refine AL.nil ?_
    refine ifE hr (fun h3 hr=>?_) fun h3 hr=>?_
    ·refine AW.cF rfl (bnF h3) ?_
     refine AW.skip ?_
     refine AW.regL ?_
     refine V rfl ?_
     refine OB _ (q2b (p:=k1) (q:=1) (q1o (ltI hltk1) hl1.2)) ?_
     refine V rfl ?_
     refine AL.nil ?_
     cases hr
     exact⟨_,rfl,GH.renK hS [(0,0)] 1⟩
    ·refine AW.cT rfl (bnT h3) ?_
     refine AW.seq (AW.regL ?_)
     refine V rfl ?_
     refine AL.nil ?_
     refine AW.ret ?_
     cases hr
     cases hik1 _ rfl
     rename_i hr
     cases hr
     exact endA.renK [] 0 hS
   ·subst ek1
    refine AW.seq (AW.seq (AW.regL ?_))
    iterate 4 refine V rfl ?_
    refine AL.nil ?_
    refine AW.cF rfl (dF geI) ?_
    refine AW.exit ?_
    refine AW.seq (AW.regL ?_)
    refine V rfl ?_
    refine AL.nil ?_
    refine AW.ret ?_
    cases hr
    exact endA.renK [] 0 hS
  ·refine AW.cT rfl (nT h2) ?_
   refine AW.seq (AW.regL ?_)
   refine V rfl ?_
   refine AL.nil ?_
   refine AW.ret ?_
   cases hr
   exact endA.renK [] 0 hS
 ·refine VT rfl (bnT h1) ?_
  refine AL.off ?_
  refine AL.off ?_
  refine AL.off ?_
  refine AL.off ?_
  refine AL.off ?_
  refine AL.off ?_
  refine V rfl ?_
  refine AL.nil ?_
  refine AW.cT rfl rfl ?_
  refine AW.seq (AW.regL ?_)
  refine V rfl ?_
  refine AL.nil ?_
  refine AW.ret ?_
  cases hr
  exact endA.renK [] 0 hS
def q3U (a0:Relation)(a1:Int)(a2:Int):Option Relation:=
 (q4X a0).bind fun y1=>
 (q2Z a0).bind fun y2=>
 (
 if y2=true then (
 grd (I64 (a0.N - 1)) <|
 (q2g a1 0 (a0.N - 1)).bind fun y3=>
 some y3
 ) else (
 some false
 )
 ).bind fun s1=>
 (
 if s1=true then (
 grd (I64 (a0.N - 1)) <|
 (q2g a2 0 (a0.N - 1)).bind fun y4=>
 some y4
 ) else (
 some false
 )
 ).bind fun s2=>
 if s2=true then (
 grd (0≤a1) <|
 (y1.Rows[a1.toNat]?).bind fun x1=>
 grd (0≤a2) <|
 grd (0≤a2∧a2 < 63) <|
 grd (0≤x1∧0≤((2 ^ a2.toNat:Nat):Int)) <|
 some (⟨y1.N,(List.set y1.Rows a1.toNat ((x1.toNat ||| ((2 ^ a2.toNat:Nat):Int).toNat:Nat):Int))⟩:Relation)
 ) else (
 some y1
 )
theorem z6D {m:Md}{a0:Relation}{a1:Int}{a2:Int}{r:Relation}(hr:q3U a0 a1 a2=some r):Ok Tryz.prog 29 [Relation.x m a0,.d .fz (.i .i64 a1),.d .fz (.i .i64 a2)] [] (.ag [.d .fz (.i .i64 r.N),.ref 0 none]) [.row .fz 1 (r.Rows.map (A.D.i .i64))]:=by
 refine Ok.enter rfl Tryz.func29 rfl rfl rfl fun S hS=>?_
 unfold q3U at hr
 refine AW.seq (AW.regL ?_)
 refine BX 0 ?_
 refine NV 1 ?_
 refine AL.nil ?_
 refine AW.seq (AW.regL ?_)
 refine V rfl ?_
 refine bdE hr fun y1 hy1 hr=>?_
 refine CB [(0,2)] [] (z6C (m:=m) hy1) ?_
 refine NV 3 ?_
 refine SB ?_
 refine AL.nil ?_
 refine AW.seq (AW.seq (AW.regL ?_))
 refine V rfl ?_
 refine bdE hr fun y2 hy2 hr=>?_
 refine CB [] [] (q9o (m:=m) hy2) ?_
 refine bdE hr fun s1 hqq1 hr=>?_
 refine AL.meet1 7 [(1,.d .fz (.i .i64 a1)),(2,.d .fz (.i .i64 a2)),(3,.pb 0 0),(6,.pb 1 0),(7,.pb 3 0),(18,.d .fz (.b s1))] ?_ ?_
 ·replace hr:=hqq1
  refine ifE hr (fun h1 hr=>?_) fun h1 hr=>?_
  ·refine VT rfl h1 ?_
   iterate 3 refine V rfl ?_
   refine ggE hr fun g1 hr=>?_
   refine OB _ (bSub g1) ?_
   refine bdE hr fun y3 hy3 hr=>?_
   refine CB [] [] (q2w hy3) ?_
   refine V rfl ?_
   refine AL.nil ?_
   cases hr
   exact q1r
  ·refine VF rfl (bF h1) ?_
   refine AL.off ?_
   refine AL.off ?_
   refine AL.off ?_
   refine AL.off ?_
   refine AL.off ?_
   refine V rfl ?_
   refine AL.nil ?_
   cases hr
   exact q1r
 ·refine bdE hr fun s2 hqq2 hr=>?_
  refine AL.meet1 7 [(1,.d .fz (.i .i64 a1)),(2,.d .fz (.i .i64 a2)),(6,.pb 1 0),(7,.pb 3 0),(25,.d .fz (.b s2))] ?_ ?_
  ·replace hr:=hqq2
   refine ifE hr (fun h2 hr=>?_) fun h2 hr=>?_
   ·refine VT rfl h2 ?_
    iterate 3 refine V rfl ?_
    refine ggE hr fun g2 hr=>?_
    refine OB _ (bSub g2) ?_
    refine bdE hr fun y4 hy4 hr=>?_
    refine CB [] [] (q2w hy4) ?_
    refine V rfl ?_
    refine AL.nil ?_
    cases hr
    exact q1r
   ·refine VF rfl (bF h2) ?_
    refine AL.off ?_
    refine AL.off ?_
    refine AL.off ?_
    refine AL.off ?_
    refine AL.off ?_
    refine V rfl ?_
    refine AL.nil ?_
    cases hr
    exact q1r
  ·refine AL.nil ?_
   refine ifE hr (fun h3 hr=>?_) fun h3 hr=>?_
   ·refine AW.cT rfl h3 ?_
    refine AW.drawL (h:=?_)
    iterate 6 refine V rfl ?_
    refine ggE hr fun g3 hr=>?_
    refine bdE hr fun x1 hx1 hr=>?_
    refine IE hx1 g3 ?_
    refine LP hx1 ?_
    refine V rfl ?_
    refine ggE hr fun g4 hr=>?_
    refine CIU g4 rfl ?_
    refine ggE hr fun g5 hr=>?_
    refine OB _ (z8l g5) ?_
    refine ggE hr fun g6 hr=>?_
    refine OB _ (bOrI g6) ?_
    refine IE hx1 g3 ?_
    refine SE ((x1.toNat ||| ((2 ^ a2.toNat:Nat):Int).toNat:Nat):Int) hx1 ?_
    refine AL.nil ?_
    refine AW.seq (AW.regL ?_)
    refine V rfl ?_
    refine SB ?_
    refine AL.nil ?_
    refine AW.ret ?_
    cases hr
    exact endA.renK [(2,0)] 1 hS
   ·refine AW.cF rfl (bF h3) ?_
    refine AW.skip ?_
    refine AW.seq (AW.regL ?_)
    refine V rfl ?_
    refine SB ?_
    refine AL.nil ?_
    refine AW.ret ?_
    cases hr
    exact endA.renK [(2,0)] 1 hS
def q3V (y1:(List Occurrence))(s3:Int):Nat→Occurrence→((List Int) × Int)→Option ((List Int) × Int):=fun k2 xk2 (s8,s9)=>
 (q2z y1 xk2).bind fun y6=>
 (q3U (⟨s9,s8⟩:Relation) y6 s3).bind fun y7=>
 some (y7.Rows,y7.N)
def q1R (a1:Rule)(y1:(List Occurrence)):(Int × (List Int) × Int)→Option ((Int × (List Int) × Int) ⊕ ((List Int) × Int)):=fun (s3,s4,s5)=>
 if s3 < (y1.length:Int) then (
 if 0 < s5 then (
 (
 grd (0≤s3) <|
 (y1[s3.toNat]?).bind fun x1=>
 (q2a a1 x1).bind fun (y3,y4)=>
 if y4=true then (
 (q2G y3).bind fun y5=>
 (eachL (q3V y1 s3) 0 y5 (s4,s5)).bind fun (s8,s9)=>
 some (s8,s9)
 ) else (
 some (s4,s5)
 )
 ).bind fun (s6,s7)=>
 grd (I64 (s3+1)) <|
 some (.inl ((s3+1),s6,s7))
 ) else (
 some (.inr (s4,s5))
 )
 ) else (
 some (.inr (s4,s5))
 )
def q3c (a0:Grammar)(a1:Rule):Option Relation:=
 (q2F a0 a1).bind fun y1=>
 (q2l (y1.length:Int)).bind fun y2=>
 (q2t (q1R a1 y1) (0,y2.Rows,y2.N)).bind fun (s1,s2)=>
 some (⟨s2,s1⟩:Relation)
theorem z0q {m:Md}{a0:Grammar}{a1:Rule}{r:Relation}(hr:q3c a0 a1=some r):Ok Tryz.prog 9 [Grammar.y m a0,Rule.x m a1] [] (.ag [.d .fz (.i .i64 r.N),.ref 0 none]) [.row .fz 1 (r.Rows.map (A.D.i .i64))]:=by
 refine Ok.enter rfl Tryz.func9 rfl rfl rfl fun S hS=>?_
 unfold q3c at hr
 refine AW.seq (AW.regL ?_)
 refine BX 0 ?_
 refine BX 1 ?_
 refine NV 2 ?_
 refine AL.nil ?_
 refine AW.seq (AW.regL ?_)
 iterate 2 refine V rfl ?_
 refine bdE hr fun y1 hy1 hr=>?_
 refine CB [(0,3)] [] (q7A (m:=m) hy1) ?_
 refine V rfl ?_
 refine AL.nil ?_
 refine AW.seq (AW.regL ?_)
 refine V rfl ?_
 refine LE ?_
 refine bdE hr fun y2 hy2 hr=>?_
 refine CB [(0,4)] [] (z0o hy2) ?_
 refine NV 5 ?_
 refine SB ?_
 refine AL.nil ?_
 refine AW.seq (AW.seq (AW.regL ?_))
 refine V rfl ?_
 refine AL.nil ?_
 refine bdE hr fun q1 hqq1 hr=>?_
 obtain⟨s1,s2⟩:=q1
 refine AW.cut1 6 [(4,.pb 2 0),(6,.pb 5 0)] [(4,.row .fz 1 (s1.map (A.D.i .i64))),(5,.box [.d .fz (.i .i64 s2),.ref 4 none])] ?_ ?_
 ·refine AW.block (AW.iter hqq1 6 (fun (s3,s4,s5)=>[(3,.pb 1 0),(4,.pb 2 0),(5,.ref 3 none),(6,.pb 5 0),(7,.d .fz (.i .i64 s3))]) (fun (s3,s4,s5)=>[(4,.row .fz 1 (s4.map (A.D.i .i64))),(5,.box [.d .fz (.i .i64 s5),.ref 4 none])]) (GH.trans (GH.bw (q:=0) [.d m (.sl 2 (a0.Symbols.map Symbol.D)),.u] (.cons .rfl (.cons .u .nil)) rfl) (GH.renK hS [(0,0),(1,1),(2,2),(3,3),(4,4),(5,5)] 6)) fun sk1 ok1 hr hik1=>?_)
  obtain⟨s3,s4,s5⟩:=sk1
  have hr:=hr
  refine AW.seq (AW.seq (AW.regL ?_))
  iterate 2 refine V rfl ?_
  refine LE ?_
  refine V rfl ?_
  refine ifE hr (fun h1 hr=>?_) fun h1 hr=>?_
  ·refine VT rfl (dT h1) ?_
   iterate 4 refine V rfl ?_
   refine AL.nil ?_
   refine ifE hr (fun h2 hr=>?_) fun h2 hr=>?_
   ·refine AW.cT rfl (dT h2) ?_
    refine AW.skip ?_
    refine bdE hr fun q2 hqq2 hr=>?_
    obtain⟨s6,s7⟩:=q2
    refine AW.seq (AW.cut1 6 [(3,.pb 1 0),(4,.pb 2 0),(5,.ref 3 none),(6,.pb 5 0),(7,.d .fz (.i .i64 s3)),(23,.pb 5 0),(24,.d .fz (.i .i64 s5)),(25,.d .fz (.b (decide (0 < s5))))] [(4,.row .fz 1 (s6.map (A.D.i .i64))),(5,.box [.d .fz (.i .i64 s7),.ref 4 none])] ?_ ?_)
    ·replace hr:=hqq2
     refine AW.block (AW.seq (AW.drawL (h:=?_)))
     iterate 3 refine V rfl ?_
     refine ggE hr fun g1 hr=>?_
     refine bdE hr fun x1 hx1 hr=>?_
     refine IE hx1 g1 ?_
     refine LPa hx1 ?_
     refine bdE hr fun q3 hq3 hr=>?_
     obtain⟨y3,y4⟩:=q3
     refine CB [(0,6)] [] (q6e (m:=m) hq3) ?_
     iterate 3 refine V rfl ?_
     refine NV 7 ?_
     refine SB ?_
     refine V rfl ?_
     refine AL.nil ?_
     refine AW.seq (AW.seq (AW.regL ?_))
     iterate 2 refine V rfl ?_
     refine AL.nil ?_
     refine ifE hr (fun h3 hr=>?_) fun h3 hr=>?_
     ·refine AW.cF rfl (bnF h3) ?_
      refine AW.skip ?_
      refine AW.seq (AW.regL ?_)
      refine V rfl ?_
      refine AL.fz 6 rfl ?_
      refine bdE hr fun y5 hy5 hr=>?_
      refine CB [] [] (q5H (m:=.fz) hy5) ?_
      refine V rfl ?_
      refine AL.nil ?_
      refine AW.seq (AW.regL ?_)
      refine V rfl ?_
      refine AL.nil ?_
      refine AW.block ?_
      refine AW.len (.tmp 10 rfl) fun hl2=>?_
      refine bdE hr fun q4 hqq4 hr=>?_
      obtain⟨s8,s9⟩:=q4
      refine AW.eachL hqq4 hl2 8 (fun k2 (s8,s9)=>[(3,.pb 1 0),(4,.pb 2 0),(5,.ref 3 none),(6,.pb 5 0),(7,.d .fz (.i .i64 s3)),(10,.d .fz (.sl 2 (y5.map Occurrence.D))),(11,.d .fz (.i .i64 (k2:Int))),(23,.pb 5 0),(24,.d .fz (.i .i64 s5)),(25,.d .fz (.b (decide (0 < s5))))]) (fun k2 (s8,s9)=>[(4,.row .fz 1 (s8.map (A.D.i .i64))),(5,.box [.d .fz (.i .i64 s9),.ref 4 none]),(6,.none)]) (GH.trans (GH.bw (q:=0) [.d m (.sl 2 (a0.Symbols.map Symbol.D)),.u] (.cons .rfl (.cons .u .nil)) rfl) (GH.renK hS [(0,0),(1,1),(2,2),(3,3),(4,4),(5,5),(7,7)] 8)) (fun k2 xk2 sk2 ok2 hxk2 hr hltk2=>?_) fun k2 hltk2=>?_
      ·obtain⟨s8,s9⟩:=sk2
       refine AW.seq (AW.seq (AW.regL ?_))
       iterate 2 refine V rfl ?_
       refine LF ?_
       refine V rfl ?_
       refine AL.nil ?_
       refine AW.cT rfl (dT hltk2) ?_
       refine AW.skip ?_
       refine AW.seq (AW.block (AW.drawL (h:=?_)))
       iterate 4 refine V rfl ?_
       refine IF (Int.natCast_nonneg _) hxk2 ?_
       refine V rfl ?_
       refine bdE hr fun y6 hy6 hr=>?_
       refine CB [] [3] (q6K (m:=.bo) hy6) ?_
       refine V rfl ?_
       refine bdE hr fun y7 hy7 hr=>?_
       refine CB [(0,8)] [4] (z6D (m:=.bo) hy7) ?_
       refine SB ?_
       refine AL.nil ?_
       refine AW.regL ?_
       refine V rfl ?_
       refine OB _ (q2b (p:=k2) (q:=1) (q1o hltk2 hl2)) ?_
       refine V rfl ?_
       refine AL.nil ?_
       cases hr
       exact GH.trans (GH.bw (q:=0) [.d m (.sl 2 (a0.Symbols.map Symbol.D)),.u] (.cons .rfl (.cons .u .nil)) rfl) (GH.renK hS [(0,0),(1,1),(2,2),(3,3),(8,4),(5,5),(7,7)] 8)
      ·refine AW.seq (AW.seq (AW.regL ?_))
       iterate 2 refine V rfl ?_
       refine LF ?_
       refine V rfl ?_
       refine AL.nil ?_
       refine AW.cF rfl (dF hltk2) ?_
       refine AW.exit ?_
       cases hr
       exact GH.trans (GH.bw (q:=0) [.d m (.sl 2 (a0.Symbols.map Symbol.D)),.u] (.cons .rfl (.cons .u .nil)) rfl) (GH.renK hS [(0,0),(1,1),(2,2),(3,3),(4,4),(5,5)] 6)
     ·refine AW.cT rfl (bnT h3) ?_
      refine AW.exit ?_
      cases hr
      exact GH.trans (GH.bw (q:=0) [.d m (.sl 2 (a0.Symbols.map Symbol.D)),.u] (.cons .rfl (.cons .u .nil)) rfl) (GH.renK hS [(0,0),(1,1),(2,2),(3,3),(4,4),(5,5)] 6)
    ·refine AW.regL ?_
     refine V rfl ?_
     refine ggE hr fun g2 hr=>?_
     refine OB _ (bAdd g2) ?_
     refine V rfl ?_
     refine AL.nil ?_
     cases hr
     exact⟨_,rfl,GH.trans (GH.bw (q:=0) [.d m (.sl 2 (a0.Symbols.map Symbol.D)),.u] (.cons .rfl (.cons .u .nil)) rfl) (GH.renK hS [(0,0),(1,1),(2,2),(3,3),(4,4),(5,5)] 6)⟩
   ·refine AW.cF rfl (dF h2) ?_
    refine AW.exit ?_
    cases hr
    cases hik1 _ rfl
    exact GH.trans (GH.bw (q:=0) [.d m (.sl 2 (a0.Symbols.map Symbol.D)),.u] (.cons .rfl (.cons .u .nil)) rfl) (GH.renK hS [(0,0),(1,1),(2,2),(3,3),(4,4),(5,5)] 6)
  ·refine VF rfl (dF h1) ?_
   refine AL.off ?_
   refine AL.off ?_
   refine AL.off ?_
   refine V rfl ?_
   refine AL.nil ?_
   refine AW.cF rfl rfl ?_
   refine AW.exit ?_
   cases hr
   cases hik1 _ rfl
   exact GH.trans (GH.bw (q:=0) [.d m (.sl 2 (a0.Symbols.map Symbol.D)),.u] (.cons .rfl (.cons .u .nil)) rfl) (GH.renK hS [(0,0),(1,1),(2,2),(3,3),(4,4),(5,5)] 6)
 ·refine AW.seq (AW.regL ?_)
  refine V rfl ?_
  refine SB ?_
  refine AL.nil ?_
  refine AW.ret ?_
  cases hr
  exact endA.renK [(4,0)] 1 hS
def z8E (a1:(List Int)):Nat→Int→Unit→Option (Unit ⊕ Bool):=fun k1 xk1 _=>
 (a1[k1]?).bind fun x1=>
 if xk1=x1 then (
 some (.inl ())
 ) else (
 some (.inr false)
 )
def q9Q (a0:(List Int))(a1:(List Int)):Option Bool:=
 if (a0.length:Int)=(a1.length:Int) then (
 (findL (z8E a1) 0 a0 ()).bind <| onr (fun r1=>some r1) fun _=>
 some true
 ) else (
 some false
 )
theorem z8F {m:Md}{a0:(List Int)}{a1:(List Int)}{r:Bool}(hr:q9Q a0 a1=some r):Ok Tryz.prog 27 [.d m (.sl 1 (a0.map (A.D.i .i64))),.d m (.sl 1 (a1.map (A.D.i .i64)))] [] (.d .fz (.b r)) []:=by
 refine Ok.enter rfl Tryz.func27 rfl rfl rfl fun S hS=>?_
 unfold q9Q at hr
 refine AW.seq (AW.regL ?_)
 refine V rfl ?_
 refine AL.nil ?_
 refine AW.seq (AW.seq (AW.regL ?_))
 refine V rfl ?_
 refine LF ?_
 refine V rfl ?_
 refine LF ?_
 refine V rfl ?_
 refine AL.nil ?_
 refine ifE hr (fun h1 hr=>?_) fun h1 hr=>?_
 ·refine AW.cF rfl (nF h1) ?_
  refine AW.skip ?_
  refine AW.seq (AW.seq (AW.regL ?_))
  refine V rfl ?_
  refine AL.nil ?_
  refine AW.block ?_
  refine AW.len (.tmp 0 rfl) fun hl1=>?_
  refine bdE hr fun q1 hqq1 hr=>?_
  refine AW.findL hqq1 hl1 0 (fun k1 _=>[(0,.d m (.sl 1 (a0.map (A.D.i .i64)))),(1,.d m (.sl 1 (a1.map (A.D.i .i64)))),(5,.d .fz (.i .i64 (k1:Int)))]) (fun k1 _=>[]) (GH.renK hS [] 0) (fun k1 xk1 sk1 ok1 hxk1 hr hltk1 hik1=>?_) fun k1 sk1 ek1 hltk1=>?_
  ·refine AW.seq (AW.seq (AW.regL ?_))
   iterate 2 refine V rfl ?_
   refine LF ?_
   refine V rfl ?_
   refine AL.nil ?_
   refine AW.cT rfl (dT hltk1) ?_
   refine AW.skip ?_
   refine AW.seq (AW.block (AW.seq (AW.drawL (h:=?_))))
   iterate 2 refine V rfl ?_
   refine IF (Int.natCast_nonneg _) hxk1 ?_
   iterate 3 refine V rfl ?_
   refine bdE hr fun x1 hx1 hr=>?_
   refine IF (Int.natCast_nonneg _) hx1 ?_
   iterate 2 refine V rfl ?_
   refine AL.nil ?_
   refine ifE hr (fun h2 hr=>?_) fun h2 hr=>?_
   ·refine AW.cF rfl (nF h2) ?_
    refine AW.skip ?_
    refine AW.regL ?_
    refine V rfl ?_
    refine OB _ (q2b (p:=k1) (q:=1) (q1o hltk1 hl1)) ?_
    refine V rfl ?_
    refine AL.nil ?_
    cases hr
    exact⟨_,rfl,GH.renK hS [] 0⟩
   ·refine AW.cT rfl (nT h2) ?_
    refine AW.seq (AW.regL ?_)
    refine V rfl ?_
    refine AL.nil ?_
    refine AW.ret ?_
    cases hr
    cases hik1 _ rfl
    rename_i hr
    cases hr
    exact endA.renK [] 0 hS
  ·subst ek1
   refine AW.seq (AW.seq (AW.regL ?_))
   iterate 2 refine V rfl ?_
   refine LF ?_
   refine V rfl ?_
   refine AL.nil ?_
   refine AW.cF rfl (dF hltk1) ?_
   refine AW.exit ?_
   refine AW.seq (AW.regL ?_)
   refine V rfl ?_
   refine AL.nil ?_
   refine AW.ret ?_
   cases hr
   exact endA.renK [] 0 hS
 ·refine AW.cT rfl (nT h1) ?_
  refine AW.seq (AW.regL ?_)
  refine V rfl ?_
  refine AL.nil ?_
  refine AW.ret ?_
  cases hr
  exact endA.renK [] 0 hS
def q4m (a0:Relation)(a1:Relation):Option Bool:=
 if a0.N=a1.N then (
 (q9Q a0.Rows a1.Rows).bind fun y1=>
 some y1
 ) else (
 some false
 )
theorem z0r {m:Md}{a0:Relation}{a1:Relation}{r:Bool}(hr:q4m a0 a1=some r):Ok Tryz.prog 8 [Relation.x m a0,Relation.x m a1] [] (.d .fz (.b r)) []:=by
 refine Ok.enter rfl Tryz.func8 rfl rfl rfl fun S hS=>?_
 unfold q4m at hr
 refine AW.seq (AW.regL ?_)
 refine BX 0 ?_
 refine BX 1 ?_
 refine V rfl ?_
 refine AL.nil ?_
 refine AW.seq (AW.regL ?_)
 iterate 5 refine V rfl ?_
 refine ifE hr (fun h1 hr=>?_) fun h1 hr=>?_
 ·refine VT rfl (dT h1) ?_
  iterate 4 refine V rfl ?_
  refine bdE hr fun y1 hy1 hr=>?_
  refine CB [] [] (z8F (m:=m) hy1) ?_
  iterate 2 refine V rfl ?_
  refine AL.nil ?_
  refine AW.ret ?_
  cases hr
  exact endA.renK [] 0 hS
 ·refine VF rfl (dF h1) ?_
  refine AL.off ?_
  refine AL.off ?_
  refine AL.off ?_
  refine AL.off ?_
  refine AL.off ?_
  iterate 2 refine V rfl ?_
  refine AL.nil ?_
  refine AW.ret ?_
  cases hr
  exact endA.renK [] 0 hS
def q6L (a1:(List Occurrence)):Nat→Occurrence→Unit→Option (Unit ⊕ Bool):=fun k1 xk1 _=>
 (a1[k1]?).bind fun x1=>
 if xk1=x1 then (
 some (.inl ())
 ) else (
 some (.inr false)
 )
def q3J (a0:(List Occurrence))(a1:(List Occurrence)):Option Bool:=
 if (a0.length:Int)=(a1.length:Int) then (
 (findL (q6L a1) 0 a0 ()).bind <| onr (fun r1=>some r1) fun _=>
 some true
 ) else (
 some false
 )
theorem q9p {m:Md}{a0:(List Occurrence)}{a1:(List Occurrence)}{r:Bool}(hr:q3J a0 a1=some r):Ok Tryz.prog 10 [.d m (.sl 2 (a0.map Occurrence.D)),.d m (.sl 2 (a1.map Occurrence.D))] [] (.d .fz (.b r)) []:=by
 refine Ok.enter rfl Tryz.func10 rfl rfl rfl fun S hS=>?_
 unfold q3J at hr
 refine AW.seq (AW.regL ?_)
 refine V rfl ?_
 refine AL.nil ?_
 refine AW.seq (AW.seq (AW.regL ?_))
 refine V rfl ?_
 refine LF ?_
 refine V rfl ?_
 refine LF ?_
 refine V rfl ?_
 refine AL.nil ?_
 refine ifE hr (fun h1 hr=>?_) fun h1 hr=>?_
 ·refine AW.cF rfl (nF h1) ?_
  refine AW.skip ?_
  refine AW.seq (AW.seq (AW.regL ?_))
  refine V rfl ?_
  refine AL.nil ?_
  refine AW.block ?_
  refine AW.len (.tmp 0 rfl) fun hl1=>?_
  refine bdE hr fun q1 hqq1 hr=>?_
  refine AW.findL hqq1 hl1 0 (fun k1 _=>[(0,.d m (.sl 2 (a0.map Occurrence.D))),(1,.d m (.sl 2 (a1.map Occurrence.D))),(5,.d .fz (.i .i64 (k1:Int)))]) (fun k1 _=>[]) (GH.renK hS [] 0) (fun k1 xk1 sk1 ok1 hxk1 hr hltk1 hik1=>?_) fun k1 sk1 ek1 hltk1=>?_
  ·refine AW.seq (AW.seq (AW.regL ?_))
   iterate 2 refine V rfl ?_
   refine LF ?_
   refine V rfl ?_
   refine AL.nil ?_
   refine AW.cT rfl (dT hltk1) ?_
   refine AW.skip ?_
   refine AW.seq (AW.block (AW.seq (AW.drawL (h:=?_))))
   iterate 2 refine V rfl ?_
   refine IF (Int.natCast_nonneg _) hxk1 ?_
   iterate 3 refine V rfl ?_
   refine bdE hr fun x1 hx1 hr=>?_
   refine IF (Int.natCast_nonneg _) hx1 ?_
   refine V rfl ?_
   refine SQn rfl rfl rfl rfl (q2T xk1 x1) ?_
   refine AL.nil ?_
   refine ifE hr (fun h2 hr=>?_) fun h2 hr=>?_
   ·refine AW.cF rfl (nF h2) ?_
    refine AW.skip ?_
    refine AW.regL ?_
    refine V rfl ?_
    refine OB _ (q2b (p:=k1) (q:=1) (q1o hltk1 hl1)) ?_
    refine V rfl ?_
    refine AL.nil ?_
    cases hr
    exact⟨_,rfl,GH.renK hS [] 0⟩
   ·refine AW.cT rfl (nT h2) ?_
    refine AW.seq (AW.regL ?_)
    refine V rfl ?_
    refine AL.nil ?_
    refine AW.ret ?_
    cases hr
    cases hik1 _ rfl
    rename_i hr
    cases hr
    exact endA.renK [] 0 hS
  ·subst ek1
   refine AW.seq (AW.seq (AW.regL ?_))
   iterate 2 refine V rfl ?_
   refine LF ?_
   refine V rfl ?_
   refine AL.nil ?_
   refine AW.cF rfl (dF hltk1) ?_
   refine AW.exit ?_
   refine AW.seq (AW.regL ?_)
   refine V rfl ?_
   refine AL.nil ?_
   refine AW.ret ?_
   cases hr
   exact endA.renK [] 0 hS
 ·refine AW.cT rfl (nT h1) ?_
  refine AW.seq (AW.regL ?_)
  refine V rfl ?_
  refine AL.nil ?_
  refine AW.ret ?_
  cases hr
  exact endA.renK [] 0 hS
def q3x (a0:Attribute):Option Bool:=
 (q1I a0.Name).bind fun y1=>
 (
 if y1=true then (
 (q2g a0.Type_ 1 4).bind fun y2=>
 some (!y2)
 ) else (
 some true
 )
 ).bind fun s1=>
 (
 if s1=true then (
 some true
 ) else (
 (q2g a0.Mode 1 3).bind fun y3=>
 some (!y3)
 )
 ).bind fun s2=>
 if s2=true then (
 some false
 ) else (
 (
 if a0.Mode=3 then (
 (
 if a0.Type_=2 then (
 some a0.Circular
 ) else (
 some true
 )
 ).bind fun s4=>
 some s4
 ) else (
 some false
 )
 ).bind fun s3=>
 if s3=true then (
 some false
 ) else (
 (
 if a0.Circular=true then (
 some (decide (a0.Type_=2))
 ) else (
 some true
 )
 ).bind fun s5=>
 some s5
 )
 )
theorem q8V {a0:Attribute}{r:Bool}(hr:q3x a0=some r):Ok Tryz.prog 133 [Attribute.x .fz a0] [] (.d .fz (.b r)) []:=by
 refine Ok.enter rfl Tryz.func133 rfl rfl rfl fun S hS=>?_
 unfold q3x at hr
 refine AW.seq (AW.regL ?_)
 refine BX 0 ?_
 refine V rfl ?_
 refine AL.nil ?_
 refine AW.seq (AW.seq (AW.regL ?_))
 iterate 2 refine V rfl ?_
 refine bdE hr fun y1 hy1 hr=>?_
 refine CB [] [] (q1Y hy1) ?_
 refine V rfl ?_
 refine bdE hr fun s1 hqq1 hr=>?_
 refine AL.meet1 6 [(1,.pb 0 0),(12,.d .fz (.b s1))] ?_ ?_
 ·replace hr:=hqq1
  refine ifE hr (fun h1 hr=>?_) fun h1 hr=>?_
  ·refine VF rfl (bnF h1) ?_
   iterate 2 refine V rfl ?_
   refine bdE hr fun y2 hy2 hr=>?_
   refine CB [] [] (q2w hy2) ?_
   iterate 2 refine V rfl ?_
   refine AL.nil ?_
   cases hr
   exact q1r
  ·refine VT rfl (bnT h1) ?_
   refine AL.off ?_
   refine AL.off ?_
   refine AL.off ?_
   refine AL.off ?_
   refine V rfl ?_
   refine AL.nil ?_
   cases hr
   exact q1r
 ·refine bdE hr fun s2 hqq2 hr=>?_
  refine AL.meet1 6 [(1,.pb 0 0),(18,.d .fz (.b s2))] ?_ ?_
  ·replace hr:=hqq2
   refine ifE hr (fun h2 hr=>?_) fun h2 hr=>?_
   ·refine VT rfl h2 ?_
    refine AL.off ?_
    refine AL.off ?_
    refine AL.off ?_
    refine AL.off ?_
    refine V rfl ?_
    refine AL.nil ?_
    cases hr
    exact q1r
   ·refine VF rfl (bF h2) ?_
    iterate 2 refine V rfl ?_
    refine bdE hr fun y3 hy3 hr=>?_
    refine CB [] [] (q2w hy3) ?_
    iterate 2 refine V rfl ?_
    refine AL.nil ?_
    cases hr
    exact q1r
  ·refine AL.nil ?_
   refine ifE hr (fun h3 hr=>?_) fun h3 hr=>?_
   ·refine AW.cT rfl h3 ?_
    refine AW.seq (AW.regL ?_)
    refine V rfl ?_
    refine AL.nil ?_
    refine AW.ret ?_
    cases hr
    exact endA.renK [] 0 hS
   ·refine AW.cF rfl (bF h3) ?_
    refine AW.skip ?_
    refine AW.seq (AW.seq (AW.regL ?_))
    iterate 3 refine V rfl ?_
    refine bdE hr fun s3 hqq3 hr=>?_
    refine AL.meet1 9 [(1,.pb 0 0),(30,.d .fz (.b s3))] ?_ ?_
    ·replace hr:=hqq3
     refine ifE hr (fun h4 hr=>?_) fun h4 hr=>?_
     ·refine VT rfl (dT h4) ?_
      iterate 3 refine V rfl ?_
      refine bdE hr fun s4 hqq4 hr=>?_
      refine AL.meet1 4 [(1,.pb 0 0),(22,.d .fz (.b true)),(29,.d .fz (.b s4))] ?_ ?_
      ·replace hr:=hqq4
       refine ifE hr (fun h5 hr=>?_) fun h5 hr=>?_
       ·refine VF rfl (nF h5) ?_
        iterate 3 refine V rfl ?_
        refine AL.nil ?_
        cases hr
        exact q1r
       ·refine VT rfl (nT h5) ?_
        refine AL.off ?_
        refine AL.off ?_
        refine V rfl ?_
        refine AL.nil ?_
        cases hr
        exact q1r
      ·refine V rfl ?_
       refine AL.nil ?_
       cases hr
       exact q1r
     ·refine VF rfl (dF h4) ?_
      refine AL.off ?_
      refine AL.off ?_
      refine AL.off ?_
      refine AL.off ?_
      refine AL.off ?_
      refine AL.off ?_
      refine AL.off ?_
      refine V rfl ?_
      refine AL.nil ?_
      cases hr
      exact q1r
    ·refine AL.nil ?_
     refine ifE hr (fun h6 hr=>?_) fun h6 hr=>?_
     ·refine AW.cT rfl h6 ?_
      refine AW.seq (AW.regL ?_)
      refine V rfl ?_
      refine AL.nil ?_
      refine AW.ret ?_
      cases hr
      exact endA.renK [] 0 hS
     ·refine AW.cF rfl (bF h6) ?_
      refine AW.skip ?_
      refine AW.seq (AW.regL ?_)
      iterate 3 refine V rfl ?_
      refine bdE hr fun s5 hqq5 hr=>?_
      refine AL.meet1 5 [(38,.d .fz (.b s5))] ?_ ?_
      ·replace hr:=hqq5
       refine ifE hr (fun h7 hr=>?_) fun h7 hr=>?_
       ·refine VF rfl (bnF h7) ?_
        iterate 4 refine V rfl ?_
        refine AL.nil ?_
        cases hr
        exact q1r
       ·refine VT rfl (bnT h7) ?_
        refine AL.off ?_
        refine AL.off ?_
        refine AL.off ?_
        refine V rfl ?_
        refine AL.nil ?_
        cases hr
        exact q1r
      ·refine V rfl ?_
       refine AL.nil ?_
       refine AW.ret ?_
       cases hr
       exact endA.renK [] 0 hS
def q5l (a0:(List ByteArray)):Nat→ByteArray→Unit→Option (Unit ⊕ Bool):=fun k1 xk1 _=>
 grd (k1≤a0.length) <|
 (q5Q (a0.take k1) xk1).bind fun y1=>
 if y1=true then (
 some (.inr false)
 ) else (
 some (.inl ())
 )
def q4N (a0:(List ByteArray)):Option Bool:=
 (findL (q5l a0) 0 a0 ()).bind <| onr (fun r1=>some r1) fun _=>
 some true
theorem z1S {m:Md}{a0:(List ByteArray)}{r:Bool}(hr:q4N a0=some r):Ok Tryz.prog 135 [.d m (.sl 1 (a0.map A.D.s))] [] (.d .fz (.b r)) []:=by
 refine Ok.enter rfl Tryz.func135 rfl rfl rfl fun S hS=>?_
 unfold q4N at hr
 refine AW.seq (AW.regL ?_)
 refine V rfl ?_
 refine AL.nil ?_
 refine AW.seq (AW.seq (AW.regL ?_))
 refine V rfl ?_
 refine AL.nil ?_
 refine AW.block ?_
 refine AW.len (.tmp 0 rfl) fun hl1=>?_
 refine bdE hr fun q1 hqq1 hr=>?_
 refine AW.findL hqq1 hl1 0 (fun k1 _=>[(0,.d m (.sl 1 (a0.map A.D.s))),(3,.d .fz (.i .i64 (k1:Int)))]) (fun k1 _=>[]) (GH.renK hS [] 0) (fun k1 xk1 sk1 ok1 hxk1 hr hltk1 hik1=>?_) fun k1 sk1 ek1 hltk1=>?_
 ·refine AW.seq (AW.seq (AW.regL ?_))
  iterate 2 refine V rfl ?_
  refine LF ?_
  refine V rfl ?_
  refine AL.nil ?_
  refine AW.cT rfl (dT hltk1) ?_
  refine AW.skip ?_
  refine AW.seq (AW.block (AW.seq (AW.drawL (h:=?_))))
  iterate 2 refine V rfl ?_
  refine ggE hr fun g1 hr=>?_
  refine SLH (Int.natCast_nonneg _) g1 ?_
  iterate 2 refine V rfl ?_
  refine IF (Int.natCast_nonneg _) hxk1 ?_
  refine V rfl ?_
  refine bdE hr fun y1 hy1 hr=>?_
  refine CB [] [] (q9K (m:=m) hy1) ?_
  refine AL.nil ?_
  refine ifE hr (fun h1 hr=>?_) fun h1 hr=>?_
  ·refine AW.cT rfl h1 ?_
   refine AW.seq (AW.regL ?_)
   refine V rfl ?_
   refine AL.nil ?_
   refine AW.ret ?_
   cases hr
   cases hik1 _ rfl
   rename_i hr
   cases hr
   exact endA.renK [] 0 hS
  ·refine AW.cF rfl (bF h1) ?_
   refine AW.skip ?_
   refine AW.regL ?_
   refine V rfl ?_
   refine OB _ (q2b (p:=k1) (q:=1) (q1o hltk1 hl1)) ?_
   refine V rfl ?_
   refine AL.nil ?_
   cases hr
   exact⟨_,rfl,GH.renK hS [] 0⟩
 ·subst ek1
  refine AW.seq (AW.seq (AW.regL ?_))
  iterate 2 refine V rfl ?_
  refine LF ?_
  refine V rfl ?_
  refine AL.nil ?_
  refine AW.cF rfl (dF hltk1) ?_
  refine AW.exit ?_
  refine AW.seq (AW.regL ?_)
  refine V rfl ?_
  refine AL.nil ?_
  refine AW.ret ?_
  cases hr
  exact endA.renK [] 0 hS
def q4F:Nat→Attribute→((List ByteArray))→Option (((List ByteArray)) ⊕ Bool):=fun k1 xk1 s1=>
 (q3x xk1).bind fun y1=>
 if y1=true then (
 grd (((s1.length:Int)+1)*16≤140737488355328∧(s1.length:Int)+1≤9223372036854775807) <|
 some (.inl (s1++[xk1.Name]))
 ) else (
 some (.inr false)
 )
def q4n (a0:Symbol):Option Bool:=
 (findL q4F 0 a0.Attributes ([]:List ByteArray)).bind <| onr (fun r1=>some r1) fun s1=>
 (q1I a0.Name).bind fun y2=>
 (
 if y2=true then (
 some (decide ((s1.length:Int)≤4))
 ) else (
 some false
 )
 ).bind fun s2=>
 (
 if s2=true then (
 (q4N s1).bind fun y3=>
 some y3
 ) else (
 some false
 )
 ).bind fun s3=>
 some s3
theorem z0s {m:Md}{a0:Symbol}{r:Bool}(hr:q4n a0=some r):Ok Tryz.prog 109 [Symbol.x m a0] [] (.d .fz (.b r)) []:=by
 refine Ok.enter rfl Tryz.func109 rfl rfl rfl fun S hS=>?_
 unfold q4n at hr
 refine AW.seq (AW.regL ?_)
 refine BX 0 ?_
 refine V rfl ?_
 refine AL.nil ?_
 refine AW.seq (AW.regL ?_)
 refine L0 1 A.D.s ?_
 refine V rfl ?_
 refine AL.nil ?_
 refine AW.seq (AW.seq (AW.regL ?_))
 refine V rfl ?_
 refine AL.nil ?_
 refine AW.block ?_
 refine AW.len (.ag 1 (.tmp 0 rfl) rfl) fun hl1=>?_
 refine bdE hr fun q1 hqq1 hr=>?_
 refine AW.findL hqq1 hl1 2 (fun k1 s1=>[(1,.pb 0 0),(3,.ref 1 none),(4,.d .fz (.i .i64 (k1:Int)))]) (fun k1 s1=>[(1,.row .fz 1 (s1.map A.D.s))]) (GH.renK hS [(0,0),(1,1)] 2) (fun k1 xk1 sk1 ok1 hxk1 hr hltk1 hik1=>?_) fun k1 sk1 ek1 hltk1=>?_
 ·obtain⟨s1,rfl⟩:∃ y,y=sk1:=⟨_,rfl⟩
  refine AW.seq (AW.seq (AW.regL ?_))
  iterate 3 refine V rfl ?_
  refine LF ?_
  refine V rfl ?_
  refine AL.nil ?_
  refine AW.cT rfl (dT hltk1) ?_
  refine AW.skip ?_
  refine AW.seq (AW.block (AW.seq (AW.seq (AW.regL ?_))))
  iterate 3 refine V rfl ?_
  refine IF (Int.natCast_nonneg _) hxk1 ?_
  refine V rfl ?_
  refine bdE hr fun y1 hy1 hr=>?_
  refine CB [] [] (q8V hy1) ?_
  refine V rfl ?_
  refine AL.nil ?_
  refine ifE hr (fun h1 hr=>?_) fun h1 hr=>?_
  ·refine AW.cF rfl (bnF h1) ?_
   refine AW.skip ?_
   refine AW.regL ?_
   iterate 4 refine V rfl ?_
   refine IF (Int.natCast_nonneg _) hxk1 ?_
   iterate 2 refine V rfl ?_
   refine LIR 2 (m:=.fz) (f:=A.D.s) (xs:=[xk1.Name]) ?_
   refine ggE hr fun g1 hr=>?_
   refine APf1 (f:=A.D.s) 3 (fun _=>rfl) 16 g1 ?_
   refine V rfl ?_
   refine AL.nil ?_
   refine AW.regL ?_
   refine V rfl ?_
   refine OB _ (q2b (p:=k1) (q:=1) (q1o hltk1 hl1)) ?_
   refine V rfl ?_
   refine AL.nil ?_
   cases hr
   exact⟨_,rfl,GH.renK hS [(0,0),(3,1)] 2⟩
  ·refine AW.cT rfl (bnT h1) ?_
   refine AW.seq (AW.regL ?_)
   refine V rfl ?_
   refine AL.nil ?_
   refine AW.ret ?_
   cases hr
   cases hik1 _ rfl
   rename_i hr
   cases hr
   exact endA.renK [] 0 hS
 ·subst ek1
  obtain⟨s1,rfl⟩:∃ y,y=sk1:=⟨_,rfl⟩
  refine AW.seq (AW.seq (AW.regL ?_))
  iterate 3 refine V rfl ?_
  refine LF ?_
  refine V rfl ?_
  refine AL.nil ?_
  refine AW.cF rfl (dF hltk1) ?_
  refine AW.exit ?_
  refine AW.seq (AW.regL ?_)
  iterate 2 refine V rfl ?_
  refine bdE hr fun y2 hy2 hr=>?_
  refine CB [] [] (q1Y hy2) ?_
  refine bdE hr fun s2 hqq2 hr=>?_
  refine AL.meet1 5 [(3,.ref 1 none),(36,.d .fz (.b s2))] ?_ ?_
  ·replace hr:=hqq2
   refine ifE hr (fun h2 hr=>?_) fun h2 hr=>?_
   ·refine VT rfl h2 ?_
    refine V rfl ?_
    refine LE ?_
    iterate 2 refine V rfl ?_
    refine AL.nil ?_
    cases hr
    exact q1r
   ·refine VF rfl (bF h2) ?_
    refine AL.off ?_
    refine AL.off ?_
    refine AL.off ?_
    refine V rfl ?_
    refine AL.nil ?_
    cases hr
    exact q1r
  ·refine bdE hr fun s3 hqq3 hr=>?_
   refine AL.meet1 4 [(40,.d .fz (.b s3))] ?_ ?_
   ·replace hr:=hqq3
    refine ifE hr (fun h3 hr=>?_) fun h3 hr=>?_
    ·refine VT rfl h3 ?_
     refine V rfl ?_
     refine bdE hr fun y3 hy3 hr=>?_
     refine CB [] [1] (z1S (m:=.bo) hy3) ?_
     refine V rfl ?_
     refine AL.nil ?_
     cases hr
     exact q1r
    ·refine VF rfl (bF h3) ?_
     refine AL.off ?_
     refine AL.off ?_
     refine V rfl ?_
     refine AL.nil ?_
     cases hr
     exact q1r
   ·refine V rfl ?_
    refine AL.nil ?_
    refine AW.ret ?_
    cases hr
    exact endA.renK [] 0 hS
def q8s:Nat→ByteArray→Unit→Option (Unit ⊕ Bool):=fun k1 xk1 _=>
 (q1I xk1).bind fun y3=>
 if y3=true then (
 some (.inl ())
 ) else (
 some (.inr false)
 )
def q8t (a0:Rule):Nat→Equation→Unit→Option (Unit ⊕ Bool):=fun k2 xk2 _=>
 (q1I xk2.At.Name).bind fun y4=>
 (
 if y4=true then (
 (q2g xk2.At.Pos 0 (a0.Right.length:Int)).bind fun y5=>
 some (!y5)
 ) else (
 some true
 )
 ).bind fun s4=>
 (
 if s4=true then (
 some true
 ) else (
 (q4L xk2.Expr (a0.Right.length:Int)).bind fun y6=>
 some (!y6)
 )
 ).bind fun s5=>
 if s5=true then (
 some (.inr false)
 ) else (
 some (.inl ())
 )
def q8u (a0:Rule):Nat→Contribution→Unit→Option (Unit ⊕ Bool):=fun k3 xk3 _=>
 (q1I xk3.Symbol).bind fun y7=>
 (
 if y7=true then (
 (q1I xk3.Name).bind fun y8=>
 some (!y8)
 ) else (
 some true
 )
 ).bind fun s6=>
 (
 if s6=true then (
 some true
 ) else (
 (q4L xk3.Target (a0.Right.length:Int)).bind fun y9=>
 some (!y9)
 )
 ).bind fun s7=>
 (
 if s7=true then (
 some true
 ) else (
 (q4L xk3.Value (a0.Right.length:Int)).bind fun y10=>
 some (!y10)
 )
 ).bind fun s8=>
 if s8=true then (
 some (.inr false)
 ) else (
 some (.inl ())
 )
def q4O (a0:Rule):Option Bool:=
 (q1I a0.Name).bind fun y1=>
 (
 if y1=true then (
 (q1I a0.Left).bind fun y2=>
 some (!y2)
 ) else (
 some true
 )
 ).bind fun s1=>
 (
 if s1=true then (
 some true
 ) else (
 some (decide (3 < (a0.Right.length:Int)))
 )
 ).bind fun s2=>
 (
 if s2=true then (
 some true
 ) else (
 some (decide (2 < (a0.Contributions.length:Int)))
 )
 ).bind fun s3=>
 if s3=true then (
 some false
 ) else (
 (findL q8s 0 a0.Right ()).bind <| onr (fun r1=>some r1) fun _=>
 (findL (q8t a0) 0 a0.Equations ()).bind <| onr (fun r2=>some r2) fun _=>
 (findL (q8u a0) 0 a0.Contributions ()).bind <| onr (fun r3=>some r3) fun _=>
 some true
 )
theorem z1T {m:Md}{a0:Rule}{r:Bool}(hr:q4O a0=some r):Ok Tryz.prog 111 [Rule.x m a0] [] (.d .fz (.b r)) []:=by
 refine Ok.enter rfl Tryz.func111 rfl rfl rfl fun S hS=>?_
 unfold q4O at hr
 refine AW.seq (AW.regL ?_)
 refine BX 0 ?_
 refine V rfl ?_
 refine AL.nil ?_
 refine AW.seq (AW.regL ?_)
 iterate 2 refine V rfl ?_
 refine LF ?_
 refine V rfl ?_
 refine AL.nil ?_
 refine AW.seq (AW.seq (AW.regL ?_))
 iterate 2 refine V rfl ?_
 refine bdE hr fun y1 hy1 hr=>?_
 refine CB [] [] (q1Y hy1) ?_
 refine V rfl ?_
 refine bdE hr fun s1 hqq1 hr=>?_
 refine AL.meet1 6 [(1,.pb 0 0),(3,.d .fz (.i .i64 (a0.Right.length:Int))),(21,.d .fz (.b s1))] ?_ ?_
 ·replace hr:=hqq1
  refine ifE hr (fun h1 hr=>?_) fun h1 hr=>?_
  ·refine VF rfl (bnF h1) ?_
   iterate 2 refine V rfl ?_
   refine bdE hr fun y2 hy2 hr=>?_
   refine CB [] [] (q1Y hy2) ?_
   iterate 2 refine V rfl ?_
   refine AL.nil ?_
   cases hr
   exact q1r
  ·refine VT rfl (bnT h1) ?_
   refine AL.off ?_
   refine AL.off ?_
   refine AL.off ?_
   refine AL.off ?_
   refine V rfl ?_
   refine AL.nil ?_
   cases hr
   exact q1r
 ·refine bdE hr fun s2 hqq2 hr=>?_
  refine AL.meet1 4 [(1,.pb 0 0),(3,.d .fz (.i .i64 (a0.Right.length:Int))),(25,.d .fz (.b s2))] ?_ ?_
  ·replace hr:=hqq2
   refine ifE hr (fun h2 hr=>?_) fun h2 hr=>?_
   ·refine VT rfl h2 ?_
    refine AL.off ?_
    refine AL.off ?_
    refine V rfl ?_
    refine AL.nil ?_
    cases hr
    exact q1r
   ·refine VF rfl (bF h2) ?_
    iterate 3 refine V rfl ?_
    refine AL.nil ?_
    cases hr
    exact q1r
  ·refine bdE hr fun s3 hqq3 hr=>?_
   refine AL.meet1 6 [(1,.pb 0 0),(3,.d .fz (.i .i64 (a0.Right.length:Int))),(31,.d .fz (.b s3))] ?_ ?_
   ·replace hr:=hqq3
    refine ifE hr (fun h3 hr=>?_) fun h3 hr=>?_
    ·refine VT rfl h3 ?_
     refine AL.off ?_
     refine AL.off ?_
     refine AL.off ?_
     refine AL.off ?_
     refine V rfl ?_
     refine AL.nil ?_
     cases hr
     exact q1r
    ·refine VF rfl (bF h3) ?_
     iterate 2 refine V rfl ?_
     refine LF ?_
     iterate 2 refine V rfl ?_
     refine AL.nil ?_
     cases hr
     exact q1r
   ·refine AL.nil ?_
    refine ifE hr (fun h4 hr=>?_) fun h4 hr=>?_
    ·refine AW.cT rfl h4 ?_
     refine AW.seq (AW.regL ?_)
     refine V rfl ?_
     refine AL.nil ?_
     refine AW.ret ?_
     cases hr
     exact endA.renK [] 0 hS
    ·refine AW.cF rfl (bF h4) ?_
     refine AW.skip ?_
     refine AW.seq (AW.seq (AW.regL ?_))
     refine V rfl ?_
     refine AL.nil ?_
     refine AW.block ?_
     refine AW.len (.box 0 2 rfl rfl) fun hl1=>?_
     refine bdE hr fun q4 hqq4 hr=>?_
     refine AW.findL hqq4 hl1 1 (fun k1 _=>[(1,.pb 0 0),(3,.d .fz (.i .i64 (a0.Right.length:Int))),(4,.d .fz (.i .i64 (k1:Int)))]) (fun k1 _=>[]) (GH.renK hS [(0,0)] 1) (fun k1 xk1 sk1 ok1 hxk1 hr hltk1 hik1=>?_) fun k1 sk1 ek1 hltk1=>?_
     ·refine AW.seq (AW.seq (AW.regL ?_))
      iterate 3 refine V rfl ?_
      refine AL.nil ?_
      refine AW.cT rfl (dT hltk1) ?_
      refine AW.skip ?_
      refine AW.seq (AW.block (AW.seq (AW.regL ?_)))
      iterate 3 refine V rfl ?_
      refine IF (Int.natCast_nonneg _) hxk1 ?_
      refine V rfl ?_
      refine bdE hr fun y3 hy3 hr=>?_
      refine CB [] [] (q1Y hy3) ?_
      refine V rfl ?_
      refine AL.nil ?_
      refine ifE hr (fun h5 hr=>?_) fun h5 hr=>?_
      ·refine AW.cF rfl (bnF h5) ?_
       refine AW.skip ?_
       refine AW.regL ?_
       refine V rfl ?_
       refine OB _ (q2b (p:=k1) (q:=1) (q1o hltk1 hl1)) ?_
       refine V rfl ?_
       refine AL.nil ?_
       cases hr
       exact⟨_,rfl,GH.renK hS [(0,0)] 1⟩
      ·refine AW.cT rfl (bnT h5) ?_
       refine AW.seq (AW.regL ?_)
       refine V rfl ?_
       refine AL.nil ?_
       refine AW.ret ?_
       cases hr
       cases hik1 _ rfl
       rename_i hr
       cases hr
       exact endA.renK [] 0 hS
     ·subst ek1
      refine AW.seq (AW.seq (AW.regL ?_))
      iterate 3 refine V rfl ?_
      refine AL.nil ?_
      refine AW.cF rfl (dF hltk1) ?_
      refine AW.exit ?_
      refine AW.seq (AW.seq (AW.regL ?_))
      refine V rfl ?_
      refine AL.nil ?_
      refine AW.block ?_
      refine AW.len (.box 0 4 rfl rfl) fun hl2=>?_
      refine bdE hr fun q5 hqq5 hr=>?_
      refine AW.findL hqq5 hl2 1 (fun k2 _=>[(1,.pb 0 0),(3,.d .fz (.i .i64 (a0.Right.length:Int))),(5,.d .fz (.i .i64 (k2:Int)))]) (fun k2 _=>[]) (GH.renK hS [(0,0)] 1) (fun k2 xk2 sk2 ok2 hxk2 hr hltk2 hik2=>?_) fun k2 sk2 ek2 hltk2=>?_
      ·refine AW.seq (AW.seq (AW.regL ?_))
       iterate 3 refine V rfl ?_
       refine LF ?_
       refine V rfl ?_
       refine AL.nil ?_
       refine AW.cT rfl (dT hltk2) ?_
       refine AW.skip ?_
       refine AW.seq (AW.block (AW.seq (AW.regL ?_)))
       iterate 3 refine V rfl ?_
       refine IF (Int.natCast_nonneg _) hxk2 ?_
       refine V rfl ?_
       refine NV 1 ?_
       refine SB ?_
       refine AL.nil ?_
       refine AW.seq (AW.regL ?_)
       iterate 3 refine V rfl ?_
       refine bdE hr fun y4 hy4 hr=>?_
       refine CB [] [] (q1Y hy4) ?_
       refine V rfl ?_
       refine bdE hr fun s4 hqq6 hr=>?_
       refine AL.meet1 8 [(1,.pb 0 0),(3,.d .fz (.i .i64 (a0.Right.length:Int))),(5,.d .fz (.i .i64 (k2:Int))),(6,.pb 1 0),(68,.d .fz (.b s4))] ?_ ?_
       ·replace hr:=hqq6
        refine ifE hr (fun h6 hr=>?_) fun h6 hr=>?_
        ·refine VF rfl (bnF h6) ?_
         iterate 4 refine V rfl ?_
         refine bdE hr fun y5 hy5 hr=>?_
         refine CB [] [] (q2w hy5) ?_
         iterate 2 refine V rfl ?_
         refine AL.nil ?_
         cases hr
         exact q1r
        ·refine VT rfl (bnT h6) ?_
         refine AL.off ?_
         refine AL.off ?_
         refine AL.off ?_
         refine AL.off ?_
         refine AL.off ?_
         refine AL.off ?_
         refine V rfl ?_
         refine AL.nil ?_
         cases hr
         exact q1r
       ·refine bdE hr fun s5 hqq7 hr=>?_
        refine AL.meet1 7 [(1,.pb 0 0),(3,.d .fz (.i .i64 (a0.Right.length:Int))),(5,.d .fz (.i .i64 (k2:Int))),(75,.d .fz (.b s5))] ?_ ?_
        ·replace hr:=hqq7
         refine ifE hr (fun h7 hr=>?_) fun h7 hr=>?_
         ·refine VT rfl h7 ?_
          refine AL.off ?_
          refine AL.off ?_
          refine AL.off ?_
          refine AL.off ?_
          refine AL.off ?_
          refine V rfl ?_
          refine AL.nil ?_
          cases hr
          exact q1r
         ·refine VF rfl (bF h7) ?_
          iterate 3 refine V rfl ?_
          refine bdE hr fun y6 hy6 hr=>?_
          refine CB [] [] (q8P (m:=m) hy6) ?_
          iterate 2 refine V rfl ?_
          refine AL.nil ?_
          cases hr
          exact q1r
        ·refine AL.nil ?_
         refine ifE hr (fun h8 hr=>?_) fun h8 hr=>?_
         ·refine AW.cT rfl h8 ?_
          refine AW.seq (AW.regL ?_)
          refine V rfl ?_
          refine AL.nil ?_
          refine AW.ret ?_
          cases hr
          cases hik2 _ rfl
          rename_i hr
          cases hr
          exact endA.renK [] 0 hS
         ·refine AW.cF rfl (bF h8) ?_
          refine AW.skip ?_
          refine AW.regL ?_
          refine V rfl ?_
          refine OB _ (q2b (p:=k2) (q:=1) (q1o hltk2 hl2)) ?_
          refine V rfl ?_
          refine AL.nil ?_
          cases hr
          exact⟨_,rfl,GH.renK hS [(0,0)] 1⟩
      ·subst ek2
       refine AW.seq (AW.seq (AW.regL ?_))
       iterate 3 refine V rfl ?_
       refine LF ?_
       refine V rfl ?_
       refine AL.nil ?_
       refine AW.cF rfl (dF hltk2) ?_
       refine AW.exit ?_
       refine AW.seq (AW.seq (AW.regL ?_))
       refine V rfl ?_
       refine AL.nil ?_
       refine AW.block ?_
       refine AW.len (.box 0 5 rfl rfl) fun hl3=>?_
       refine bdE hr fun q8 hqq8 hr=>?_
       refine AW.findL hqq8 hl3 1 (fun k3 _=>[(1,.pb 0 0),(3,.d .fz (.i .i64 (a0.Right.length:Int))),(7,.d .fz (.i .i64 (k3:Int)))]) (fun k3 _=>[]) (GH.renK hS [(0,0)] 1) (fun k3 xk3 sk3 ok3 hxk3 hr hltk3 hik3=>?_) fun k3 sk3 ek3 hltk3=>?_
       ·refine AW.seq (AW.seq (AW.regL ?_))
        iterate 3 refine V rfl ?_
        refine LF ?_
        refine V rfl ?_
        refine AL.nil ?_
        refine AW.cT rfl (dT hltk3) ?_
        refine AW.skip ?_
        refine AW.seq (AW.block (AW.seq (AW.regL ?_)))
        iterate 3 refine V rfl ?_
        refine IF (Int.natCast_nonneg _) hxk3 ?_
        refine V rfl ?_
        refine NV 1 ?_
        refine SB ?_
        refine AL.nil ?_
        refine AW.seq (AW.regL ?_)
        iterate 2 refine V rfl ?_
        refine bdE hr fun y7 hy7 hr=>?_
        refine CB [] [] (q1Y hy7) ?_
        refine V rfl ?_
        refine bdE hr fun s6 hqq9 hr=>?_
        refine AL.meet1 6 [(1,.pb 0 0),(3,.d .fz (.i .i64 (a0.Right.length:Int))),(7,.d .fz (.i .i64 (k3:Int))),(8,.pb 1 0),(97,.d .fz (.b s6))] ?_ ?_
        ·replace hr:=hqq9
         refine ifE hr (fun h9 hr=>?_) fun h9 hr=>?_
         ·refine VF rfl (bnF h9) ?_
          iterate 2 refine V rfl ?_
          refine bdE hr fun y8 hy8 hr=>?_
          refine CB [] [] (q1Y hy8) ?_
          iterate 2 refine V rfl ?_
          refine AL.nil ?_
          cases hr
          exact q1r
         ·refine VT rfl (bnT h9) ?_
          refine AL.off ?_
          refine AL.off ?_
          refine AL.off ?_
          refine AL.off ?_
          refine V rfl ?_
          refine AL.nil ?_
          cases hr
          exact q1r
        ·refine bdE hr fun s7 hqq10 hr=>?_
         refine AL.meet1 7 [(1,.pb 0 0),(3,.d .fz (.i .i64 (a0.Right.length:Int))),(7,.d .fz (.i .i64 (k3:Int))),(8,.pb 1 0),(104,.d .fz (.b s7))] ?_ ?_
         ·replace hr:=hqq10
          refine ifE hr (fun h10 hr=>?_) fun h10 hr=>?_
          ·refine VT rfl h10 ?_
           refine AL.off ?_
           refine AL.off ?_
           refine AL.off ?_
           refine AL.off ?_
           refine AL.off ?_
           refine V rfl ?_
           refine AL.nil ?_
           cases hr
           exact q1r
          ·refine VF rfl (bF h10) ?_
           iterate 3 refine V rfl ?_
           refine bdE hr fun y9 hy9 hr=>?_
           refine CB [] [] (q8P (m:=m) hy9) ?_
           iterate 2 refine V rfl ?_
           refine AL.nil ?_
           cases hr
           exact q1r
         ·refine bdE hr fun s8 hqq11 hr=>?_
          refine AL.meet1 7 [(1,.pb 0 0),(3,.d .fz (.i .i64 (a0.Right.length:Int))),(7,.d .fz (.i .i64 (k3:Int))),(111,.d .fz (.b s8))] ?_ ?_
          ·replace hr:=hqq11
           refine ifE hr (fun h11 hr=>?_) fun h11 hr=>?_
           ·refine VT rfl h11 ?_
            refine AL.off ?_
            refine AL.off ?_
            refine AL.off ?_
            refine AL.off ?_
            refine AL.off ?_
            refine V rfl ?_
            refine AL.nil ?_
            cases hr
            exact q1r
           ·refine VF rfl (bF h11) ?_
            iterate 3 refine V rfl ?_
            refine bdE hr fun y10 hy10 hr=>?_
            refine CB [] [] (q8P (m:=m) hy10) ?_
            iterate 2 refine V rfl ?_
            refine AL.nil ?_
            cases hr
            exact q1r
          ·refine AL.nil ?_
           refine ifE hr (fun h12 hr=>?_) fun h12 hr=>?_
           ·refine AW.cT rfl h12 ?_
            refine AW.seq (AW.regL ?_)
            refine V rfl ?_
            refine AL.nil ?_
            refine AW.ret ?_
            cases hr
            cases hik3 _ rfl
            rename_i hr
            cases hr
            exact endA.renK [] 0 hS
           ·refine AW.cF rfl (bF h12) ?_
            refine AW.skip ?_
            refine AW.regL ?_
            refine V rfl ?_
            refine OB _ (q2b (p:=k3) (q:=1) (q1o hltk3 hl3)) ?_
            refine V rfl ?_
            refine AL.nil ?_
            cases hr
            exact⟨_,rfl,GH.renK hS [(0,0)] 1⟩
       ·subst ek3
        refine AW.seq (AW.seq (AW.regL ?_))
        iterate 3 refine V rfl ?_
        refine LF ?_
        refine V rfl ?_
        refine AL.nil ?_
        refine AW.cF rfl (dF hltk3) ?_
        refine AW.exit ?_
        refine AW.seq (AW.regL ?_)
        refine V rfl ?_
        refine AL.nil ?_
        refine AW.ret ?_
        cases hr
        exact endA.renK [] 0 hS
def q8Q:Nat→Symbol→((List ByteArray))→Option (((List ByteArray)) ⊕ Int):=fun k1 xk1 s1=>
 (q4n xk1).bind fun y1=>
 if y1=true then (
 (q5Q s1 xk1.Name).bind fun y2=>
 if y2=true then (
 some (.inr (k1:Int))
 ) else (
 grd (((s1.length:Int)+1)*16≤140737488355328∧(s1.length:Int)+1≤9223372036854775807) <|
 some (.inl (s1++[xk1.Name]))
 )
 ) else (
 some (.inr (k1:Int))
 )
def q8R:Nat→Rule→((List ByteArray))→Option (((List ByteArray)) ⊕ Int):=fun k2 xk2 s2=>
 (q4O xk2).bind fun y3=>
 if y3=true then (
 (q5Q s2 xk2.Name).bind fun y4=>
 if y4=true then (
 some (.inr (k2:Int))
 ) else (
 grd (((s2.length:Int)+1)*16≤140737488355328∧(s2.length:Int)+1≤9223372036854775807) <|
 some (.inl (s2++[xk2.Name]))
 )
 ) else (
 some (.inr (k2:Int))
 )
def q8v (a0:Grammar):Option Int:=
 (findL q8Q 0 a0.Symbols ([]:List ByteArray)).bind <| onr (fun r1=>some r1) fun s1=>
 (findL q8R 0 a0.Rules ([]:List ByteArray)).bind <| onr (fun r2=>some r2) fun s2=>
 some (-1)
theorem z8G {m:Md}{a0:Grammar}{r:Int}(hr:q8v a0=some r):Ok Tryz.prog 77 [Grammar.x m a0] [] (.d .fz (.i .i64 r)) []:=by
 refine Ok.enter rfl Tryz.func77 rfl rfl rfl fun S hS=>?_
 unfold q8v at hr
 refine AW.seq (AW.regL ?_)
 refine BX 0 ?_
 refine V rfl ?_
 refine AL.nil ?_
 refine AW.seq (AW.regL ?_)
 refine L0 1 A.D.s ?_
 refine V rfl ?_
 refine AL.nil ?_
 refine AW.seq (AW.seq (AW.regL ?_))
 refine V rfl ?_
 refine AL.nil ?_
 refine AW.block ?_
 refine AW.len (.ag 0 (.tmp 0 rfl) rfl) fun hl1=>?_
 refine bdE hr fun q1 hqq1 hr=>?_
 refine AW.findL hqq1 hl1 2 (fun k1 s1=>[(1,.pb 0 0),(3,.ref 1 none),(4,.d .fz (.i .i64 (k1:Int)))]) (fun k1 s1=>[(1,.row .fz 1 (s1.map A.D.s))]) (GH.renK hS [(0,0),(1,1)] 2) (fun k1 xk1 sk1 ok1 hxk1 hr hltk1 hik1=>?_) fun k1 sk1 ek1 hltk1=>?_
 ·obtain⟨s1,rfl⟩:∃ y,y=sk1:=⟨_,rfl⟩
  refine AW.seq (AW.seq (AW.regL ?_))
  iterate 3 refine V rfl ?_
  refine LF ?_
  refine V rfl ?_
  refine AL.nil ?_
  refine AW.cT rfl (dT hltk1) ?_
  refine AW.skip ?_
  refine AW.seq (AW.block (AW.seq (AW.seq (AW.regL ?_))))
  iterate 3 refine V rfl ?_
  refine IF (Int.natCast_nonneg _) hxk1 ?_
  refine V rfl ?_
  refine bdE hr fun y1 hy1 hr=>?_
  refine CB [] [] (z0s (m:=m) hy1) ?_
  refine V rfl ?_
  refine ifE hr (fun h1 hr=>?_) fun h1 hr=>?_
  ·refine VF rfl (bnF h1) ?_
   iterate 4 refine V rfl ?_
   refine IF (Int.natCast_nonneg _) hxk1 ?_
   iterate 2 refine V rfl ?_
   refine bdE hr fun y2 hy2 hr=>?_
   refine CB [] [1] (q9K (m:=.bo) hy2) ?_
   refine V rfl ?_
   refine AL.nil ?_
   refine ifE hr (fun h2 hr=>?_) fun h2 hr=>?_
   ·refine AW.cT rfl h2 ?_
    refine AW.seq (AW.regL ?_)
    iterate 2 refine V rfl ?_
    refine AL.nil ?_
    refine AW.ret ?_
    cases hr
    cases hik1 _ rfl
    rename_i hr
    cases hr
    exact endA.renK [] 0 hS
   ·refine AW.cF rfl (bF h2) ?_
    refine AW.skip ?_
    refine AW.regL ?_
    iterate 4 refine V rfl ?_
    refine IF (Int.natCast_nonneg _) hxk1 ?_
    iterate 2 refine V rfl ?_
    refine LIR 2 (m:=.fz) (f:=A.D.s) (xs:=[xk1.Name]) ?_
    refine ggE hr fun g1 hr=>?_
    refine APf1 (f:=A.D.s) 3 (fun _=>rfl) 16 g1 ?_
    refine V rfl ?_
    refine AL.nil ?_
    refine AW.regL ?_
    refine V rfl ?_
    refine OB _ (q2b (p:=k1) (q:=1) (q1o hltk1 hl1)) ?_
    refine V rfl ?_
    refine AL.nil ?_
    cases hr
    exact⟨_,rfl,GH.renK hS [(0,0),(3,1)] 2⟩
  ·refine VT rfl (bnT h1) ?_
   refine AL.off ?_
   refine AL.off ?_
   refine AL.off ?_
   refine AL.off ?_
   refine AL.off ?_
   refine AL.off ?_
   refine AL.off ?_
   refine AL.off ?_
   refine V rfl ?_
   refine AL.nil ?_
   refine AW.cT rfl rfl ?_
   refine AW.seq (AW.regL ?_)
   iterate 2 refine V rfl ?_
   refine AL.nil ?_
   refine AW.ret ?_
   cases hr
   cases hik1 _ rfl
   rename_i hr
   cases hr
   exact endA.renK [] 0 hS
 ·subst ek1
  obtain⟨s1,rfl⟩:∃ y,y=sk1:=⟨_,rfl⟩
  refine AW.seq (AW.seq (AW.regL ?_))
  iterate 3 refine V rfl ?_
  refine LF ?_
  refine V rfl ?_
  refine AL.nil ?_
  refine AW.cF rfl (dF hltk1) ?_
  refine AW.exit ?_
  refine AW.seq (AW.regL ?_)
  refine L0 2 A.D.s ?_
  refine V rfl ?_
  refine AL.nil ?_
  refine AW.seq (AW.seq (AW.regL ?_))
  refine V rfl ?_
  refine AL.nil ?_
  refine AW.block ?_
  refine AW.len (.box 0 1 rfl rfl) fun hl2=>?_
  refine bdE hr fun q2 hqq2 hr=>?_
  refine AW.findL hqq2 hl2 3 (fun k2 s2=>[(1,.pb 0 0),(3,.ref 2 none),(5,.d .fz (.i .i64 (k2:Int)))]) (fun k2 s2=>[(2,.row .fz 1 (s2.map A.D.s))]) (GH.renK hS [(0,0),(1,1),(2,2)] 3) (fun k2 xk2 sk2 ok2 hxk2 hr hltk2 hik2=>?_) fun k2 sk2 ek2 hltk2=>?_
  ·obtain⟨s2,rfl⟩:∃ y,y=sk2:=⟨_,rfl⟩
   refine AW.seq (AW.seq (AW.regL ?_))
   iterate 3 refine V rfl ?_
   refine LF ?_
   refine V rfl ?_
   refine AL.nil ?_
   refine AW.cT rfl (dT hltk2) ?_
   refine AW.skip ?_
   refine AW.seq (AW.block (AW.seq (AW.seq (AW.regL ?_))))
   iterate 3 refine V rfl ?_
   refine IF (Int.natCast_nonneg _) hxk2 ?_
   refine V rfl ?_
   refine bdE hr fun y3 hy3 hr=>?_
   refine CB [] [] (z1T (m:=m) hy3) ?_
   refine V rfl ?_
   refine ifE hr (fun h3 hr=>?_) fun h3 hr=>?_
   ·refine VF rfl (bnF h3) ?_
    iterate 4 refine V rfl ?_
    refine IF (Int.natCast_nonneg _) hxk2 ?_
    iterate 2 refine V rfl ?_
    refine bdE hr fun y4 hy4 hr=>?_
    refine CB [] [2] (q9K (m:=.bo) hy4) ?_
    refine V rfl ?_
    refine AL.nil ?_
    refine ifE hr (fun h4 hr=>?_) fun h4 hr=>?_
    ·refine AW.cT rfl h4 ?_
     refine AW.seq (AW.regL ?_)
     iterate 2 refine V rfl ?_
     refine AL.nil ?_
     refine AW.ret ?_
     cases hr
     cases hik2 _ rfl
     rename_i hr
     cases hr
     exact endA.renK [] 0 hS
    ·refine AW.cF rfl (bF h4) ?_
     refine AW.skip ?_
     refine AW.regL ?_
     iterate 4 refine V rfl ?_
     refine IF (Int.natCast_nonneg _) hxk2 ?_
     iterate 2 refine V rfl ?_
     refine LIR 3 (m:=.fz) (f:=A.D.s) (xs:=[xk2.Name]) ?_
     refine ggE hr fun g2 hr=>?_
     refine APf1 (f:=A.D.s) 4 (fun _=>rfl) 16 g2 ?_
     refine V rfl ?_
     refine AL.nil ?_
     refine AW.regL ?_
     refine V rfl ?_
     refine OB _ (q2b (p:=k2) (q:=1) (q1o hltk2 hl2)) ?_
     refine V rfl ?_
     refine AL.nil ?_
     cases hr
     exact⟨_,rfl,GH.renK hS [(0,0),(1,1),(4,2)] 3⟩
   ·refine VT rfl (bnT h3) ?_
    refine AL.off ?_
    refine AL.off ?_
    refine AL.off ?_
    refine AL.off ?_
    refine AL.off ?_
    refine AL.off ?_
    refine AL.off ?_
    refine AL.off ?_
    refine V rfl ?_
    refine AL.nil ?_
    refine AW.cT rfl rfl ?_
    refine AW.seq (AW.regL ?_)
    iterate 2 refine V rfl ?_
    refine AL.nil ?_
    refine AW.ret ?_
    cases hr
    cases hik2 _ rfl
    rename_i hr
    cases hr
    exact endA.renK [] 0 hS
  ·subst ek2
   obtain⟨s2,rfl⟩:∃ y,y=sk2:=⟨_,rfl⟩
   refine AW.seq (AW.seq (AW.regL ?_))
   iterate 3 refine V rfl ?_
   refine LF ?_
   refine V rfl ?_
   refine AL.nil ?_
   refine AW.cF rfl (dF hltk2) ?_
   refine AW.exit ?_
   refine AW.seq (AW.regL ?_)
   refine V rfl ?_
   refine AL.nil ?_
   refine AW.ret ?_
   cases hr
   exact endA.renK [] 0 hS
def q4P (a0:Grammar)(a1:Rule):Int→Option (Int ⊕ (Unit ⊕ Bool)):=fun s1=>
 if s1≤(a1.Right.length:Int) then (
 (q1X a1 s1).bind fun y1=>
 (q1U a0 y1).bind fun (y2,y3)=>
 if y3=true then (
 grd (I64 (s1+1)) <|
 some (.inl (s1+1))
 ) else (
 some (.inr (.inr false))
 )
 ) else (
 some (.inr (.inl ()))
 )
def q5m (a0:Grammar)(a1:Rule):Option Bool:=
 (q2t (q4P a0 a1) 0).bind <| onr (fun r1=>some r1) fun ()=>
 some true
theorem z2y {m:Md}{a0:Grammar}{a1:Rule}{r:Bool}(hr:q5m a0 a1=some r):Ok Tryz.prog 112 [Grammar.y m a0,Rule.x m a1] [] (.d .fz (.b r)) []:=by
 refine Ok.enter rfl Tryz.func112 rfl rfl rfl fun S hS=>?_
 unfold q5m at hr
 refine AW.seq (AW.regL ?_)
 refine BX 0 ?_
 refine BX 1 ?_
 refine V rfl ?_
 refine AL.nil ?_
 refine AW.seq (AW.seq (AW.regL ?_))
 refine V rfl ?_
 refine AL.nil ?_
 refine bdE hr fun q1 hqq1 hr=>?_
 refine AW.cut 2 (fun _=>[]) (fun _=>[]) (M:=fun x=>q1 = .inl x) ?_ fun x hx=>?_
 ·refine AW.block (AW.iter hqq1 2 (fun s1=>[(2,.pb 0 0),(3,.pb 1 0),(5,.d .fz (.i .i64 s1))]) (fun s1=>[]) (GH.trans (GH.bw (q:=0) [.d m (.sl 2 (a0.Symbols.map Symbol.D)),.u] (.cons .rfl (.cons .u .nil)) rfl) (GH.renK hS [(0,0),(1,1)] 2)) fun sk1 ok1 hr hik1=>?_)
  obtain⟨s1,rfl⟩:∃ y,y=sk1:=⟨_,rfl⟩
  have hr:=hr
  refine AW.seq (AW.seq (AW.regL ?_))
  iterate 3 refine V rfl ?_
  refine LF ?_
  refine V rfl ?_
  refine AL.nil ?_
  refine ifE hr (fun h1 hr=>?_) fun h1 hr=>?_
  ·refine AW.cT rfl (dT h1) ?_
   refine AW.skip ?_
   refine AW.seq (AW.block (AW.seq (AW.drawL (h:=?_))))
   iterate 3 refine V rfl ?_
   refine bdE hr fun y1 hy1 hr=>?_
   refine CB [] [] (q3F (m:=m) hy1) ?_
   refine bdE hr fun q2 hq2 hr=>?_
   obtain⟨y2,y3⟩:=q2
   refine CB [(0,2)] [] (q3m (m:=m) hq2) ?_
   iterate 3 refine V rfl ?_
   refine NV 3 ?_
   refine SB ?_
   refine V rfl ?_
   refine AL.nil ?_
   refine AW.seq (AW.regL ?_)
   iterate 2 refine V rfl ?_
   refine AL.nil ?_
   refine ifE hr (fun h2 hr=>?_) fun h2 hr=>?_
   ·refine AW.cF rfl (bnF h2) ?_
    refine AW.skip ?_
    refine AW.regL ?_
    refine V rfl ?_
    refine ggE hr fun g1 hr=>?_
    refine OB _ (bAdd g1) ?_
    refine V rfl ?_
    refine AL.nil ?_
    cases hr
    exact⟨_,rfl,GH.trans (GH.bw (q:=0) [.d m (.sl 2 (a0.Symbols.map Symbol.D)),.u] (.cons .rfl (.cons .u .nil)) rfl) (GH.renK hS [(0,0),(1,1)] 2)⟩
   ·refine AW.cT rfl (bnT h2) ?_
    refine AW.seq (AW.regL ?_)
    refine V rfl ?_
    refine AL.nil ?_
    refine AW.ret ?_
    cases hr
    cases hik1 _ rfl
    rename_i hr
    cases hr
    exact endA.renK [] 0 hS
  ·refine AW.cF rfl (dF h1) ?_
   refine AW.exit ?_
   cases hr
   cases hik1 _ rfl
   exact⟨_,rfl,GH.trans (GH.bw (q:=0) [.d m (.sl 2 (a0.Symbols.map Symbol.D)),.u] (.cons .rfl (.cons .u .nil)) rfl) (GH.renK hS [(0,0),(1,1)] 2)⟩
 ·subst hx
  refine AW.seq (AW.regL ?_)
  refine V rfl ?_
  refine AL.nil ?_
  refine AW.ret ?_
  cases hr
  exact endA.renK [] 0 hS
def q8X (a1:Rule):Nat→Occurrence→Unit→Option (Unit ⊕ Bool):=fun k1 xk1 _=>
 (q2a a1 xk1).bind fun (y2,y3)=>
 if y3=true then (
 some (.inl ())
 ) else (
 some (.inr true)
 )
def q5n (a0:Grammar)(a1:Rule):Option Bool:=
 (q1T a0 a1).bind fun y1=>
 (findL (q8X a1) 0 y1 ()).bind <| onr (fun r1=>some r1) fun _=>
 some false
theorem z2z {m:Md}{a0:Grammar}{a1:Rule}{r:Bool}(hr:q5n a0 a1=some r):Ok Tryz.prog 113 [Grammar.y m a0,Rule.x m a1] [] (.d .fz (.b r)) []:=by
 refine Ok.enter rfl Tryz.func113 rfl rfl rfl fun S hS=>?_
 unfold q5n at hr
 refine AW.seq (AW.regL ?_)
 refine BX 0 ?_
 refine BX 1 ?_
 refine V rfl ?_
 refine AL.nil ?_
 refine AW.seq (AW.regL ?_)
 iterate 2 refine V rfl ?_
 refine bdE hr fun y1 hy1 hr=>?_
 refine CB [(0,2)] [] (q4f (m:=m) hy1) ?_
 refine V rfl ?_
 refine AL.nil ?_
 refine AW.seq (AW.seq (AW.regL ?_))
 refine V rfl ?_
 refine AL.nil ?_
 refine AW.block ?_
 refine AW.lenR 2 rfl fun hl1=>?_
 refine bdE hr fun q1 hqq1 hr=>?_
 refine AW.findL hqq1 hl1 3 (fun k1 _=>[(3,.pb 1 0),(5,.ref 2 none),(6,.d .fz (.i .i64 (k1:Int)))]) (fun k1 _=>[]) (GH.trans (GH.bw (q:=0) [.d m (.sl 2 (a0.Symbols.map Symbol.D)),.u] (.cons .rfl (.cons .u .nil)) rfl) (GH.renK hS [(0,0),(1,1),(2,2)] 3)) (fun k1 xk1 sk1 ok1 hxk1 hr hltk1 hik1=>?_) fun k1 sk1 ek1 hltk1=>?_
 ·refine AW.seq (AW.seq (AW.regL ?_))
  iterate 2 refine V rfl ?_
  refine LE ?_
  refine V rfl ?_
  refine AL.nil ?_
  refine AW.cT rfl (dT hltk1) ?_
  refine AW.skip ?_
  refine AW.seq (AW.block (AW.seq (AW.drawL (h:=?_))))
  iterate 3 refine V rfl ?_
  refine IE hxk1 (Int.natCast_nonneg _) ?_
  refine LPa hxk1 ?_
  refine bdE hr fun q2 hq2 hr=>?_
  obtain⟨y2,y3⟩:=q2
  refine CB [(0,3)] [] (q6e (m:=m) hq2) ?_
  iterate 3 refine V rfl ?_
  refine NV 4 ?_
  refine SB ?_
  refine V rfl ?_
  refine AL.nil ?_
  refine AW.seq (AW.regL ?_)
  iterate 2 refine V rfl ?_
  refine AL.nil ?_
  refine ifE hr (fun h1 hr=>?_) fun h1 hr=>?_
  ·refine AW.cF rfl (bnF h1) ?_
   refine AW.skip ?_
   refine AW.regL ?_
   refine V rfl ?_
   refine OB _ (q2b (p:=k1) (q:=1) (q1o hltk1 hl1)) ?_
   refine V rfl ?_
   refine AL.nil ?_
   cases hr
   exact⟨_,rfl,GH.trans (GH.bw (q:=0) [.d m (.sl 2 (a0.Symbols.map Symbol.D)),.u] (.cons .rfl (.cons .u .nil)) rfl) (GH.renK hS [(0,0),(1,1),(2,2)] 3)⟩
  ·refine AW.cT rfl (bnT h1) ?_
   refine AW.seq (AW.regL ?_)
   refine V rfl ?_
   refine AL.nil ?_
   refine AW.ret ?_
   cases hr
   cases hik1 _ rfl
   rename_i hr
   cases hr
   exact endA.renK [] 0 hS
 ·subst ek1
  refine AW.seq (AW.seq (AW.regL ?_))
  iterate 2 refine V rfl ?_
  refine LE ?_
  refine V rfl ?_
  refine AL.nil ?_
  refine AW.cF rfl (dF hltk1) ?_
  refine AW.exit ?_
  refine AW.seq (AW.regL ?_)
  refine V rfl ?_
  refine AL.nil ?_
  refine AW.ret ?_
  cases hr
  exact endA.renK [] 0 hS
def z0K (a1:Occurrence):Nat→Occurrence→Unit→Option (Unit ⊕ Bool):=fun k1 xk1 _=>
 if xk1=a1 then (
 some (.inr true)
 ) else (
 some (.inl ())
 )
def q5I (a0:(List Occurrence))(a1:Occurrence):Option Bool:=
 (findL (z0K a1) 0 a0 ()).bind <| onr (fun r1=>some r1) fun _=>
 some false
theorem z0L {m:Md}{a0:(List Occurrence)}{a1:Occurrence}{r:Bool}(hr:q5I a0 a1=some r):Ok Tryz.prog 136 [.d m (.sl 2 (a0.map Occurrence.D)),Occurrence.x .fz a1] [] (.d .fz (.b r)) []:=by
 refine Ok.enter rfl Tryz.func136 rfl rfl rfl fun S hS=>?_
 unfold q5I at hr
 refine AW.seq (AW.regL ?_)
 refine BX 0 ?_
 refine V rfl ?_
 refine AL.nil ?_
 refine AW.seq (AW.seq (AW.regL ?_))
 refine V rfl ?_
 refine AL.nil ?_
 refine AW.block ?_
 refine AW.len (.tmp 0 rfl) fun hl1=>?_
 refine bdE hr fun q1 hqq1 hr=>?_
 refine AW.findL hqq1 hl1 1 (fun k1 _=>[(0,.d m (.sl 2 (a0.map Occurrence.D))),(3,.pb 0 0),(5,.d .fz (.i .i64 (k1:Int)))]) (fun k1 _=>[]) (GH.renK hS [(0,0)] 1) (fun k1 xk1 sk1 ok1 hxk1 hr hltk1 hik1=>?_) fun k1 sk1 ek1 hltk1=>?_
 ·refine AW.seq (AW.seq (AW.regL ?_))
  iterate 2 refine V rfl ?_
  refine LF ?_
  refine V rfl ?_
  refine AL.nil ?_
  refine AW.cT rfl (dT hltk1) ?_
  refine AW.skip ?_
  refine AW.seq (AW.block (AW.seq (AW.drawL (h:=?_))))
  iterate 2 refine V rfl ?_
  refine IF (Int.natCast_nonneg _) hxk1 ?_
  iterate 2 refine V rfl ?_
  refine SQ rfl rfl rfl rfl (q2T xk1 a1) ?_
  refine AL.nil ?_
  refine ifE hr (fun h1 hr=>?_) fun h1 hr=>?_
  ·refine AW.cT rfl (dT h1) ?_
   refine AW.seq (AW.regL ?_)
   refine V rfl ?_
   refine AL.nil ?_
   refine AW.ret ?_
   cases hr
   cases hik1 _ rfl
   rename_i hr
   cases hr
   exact endA.renK [] 0 hS
  ·refine AW.cF rfl (dF h1) ?_
   refine AW.skip ?_
   refine AW.regL ?_
   refine V rfl ?_
   refine OB _ (q2b (p:=k1) (q:=1) (q1o hltk1 hl1)) ?_
   refine V rfl ?_
   refine AL.nil ?_
   cases hr
   exact⟨_,rfl,GH.renK hS [(0,0)] 1⟩
 ·subst ek1
  refine AW.seq (AW.seq (AW.regL ?_))
  iterate 2 refine V rfl ?_
  refine LF ?_
  refine V rfl ?_
  refine AL.nil ?_
  refine AW.cF rfl (dF hltk1) ?_
  refine AW.exit ?_
  refine AW.seq (AW.regL ?_)
  refine V rfl ?_
  refine AL.nil ?_
  refine AW.ret ?_
  cases hr
  exact endA.renK [] 0 hS
def q6Y (y1:(List Occurrence)):Nat→Equation→((List Occurrence))→Option (((List Occurrence)) ⊕ Bool):=fun k1 xk1 s1=>
 (q5I y1 xk1.At).bind fun y2=>
 if y2=true then (
 (q5I s1 xk1.At).bind fun y3=>
 if y3=true then (
 some (.inr true)
 ) else (
 grd (((s1.length:Int)+1)*24≤140737488355328∧(s1.length:Int)+1≤9223372036854775807) <|
 some (.inl (s1++[xk1.At]))
 )
 ) else (
 some (.inr true)
 )
def q6M (a0:Grammar)(a1:Rule):Option Bool:=
 (q1T a0 a1).bind fun y1=>
 (findL (q6Y y1) 0 a1.Equations ([]:List Occurrence)).bind <| onr (fun r1=>some r1) fun s1=>
 some false
theorem z5o {m:Md}{a0:Grammar}{a1:Rule}{r:Bool}(hr:q6M a0 a1=some r):Ok Tryz.prog 114 [Grammar.y m a0,Rule.x m a1] [] (.d .fz (.b r)) []:=by
 refine Ok.enter rfl Tryz.func114 rfl rfl rfl fun S hS=>?_
 unfold q6M at hr
 refine AW.seq (AW.regL ?_)
 refine BX 0 ?_
 refine BX 1 ?_
 refine V rfl ?_
 refine AL.nil ?_
 refine AW.seq (AW.regL ?_)
 iterate 2 refine V rfl ?_
 refine bdE hr fun y1 hy1 hr=>?_
 refine CB [(0,2)] [] (q4f (m:=m) hy1) ?_
 refine V rfl ?_
 refine AL.nil ?_
 refine AW.seq (AW.regL ?_)
 refine L0 3 Occurrence.D ?_
 refine V rfl ?_
 refine AL.nil ?_
 refine AW.seq (AW.seq (AW.regL ?_))
 refine V rfl ?_
 refine AL.nil ?_
 refine AW.block ?_
 refine AW.len (.ag 4 (.tmp 1 rfl) rfl) fun hl1=>?_
 refine bdE hr fun q1 hqq1 hr=>?_
 refine AW.findL hqq1 hl1 4 (fun k1 s1=>[(3,.pb 1 0),(5,.ref 2 none),(6,.ref 3 none),(7,.d .fz (.i .i64 (k1:Int)))]) (fun k1 s1=>[(3,.row .fz 2 (s1.map Occurrence.D))]) (GH.trans (GH.bw (q:=0) [.d m (.sl 2 (a0.Symbols.map Symbol.D)),.u] (.cons .rfl (.cons .u .nil)) rfl) (GH.renK hS [(0,0),(1,1),(2,2),(3,3)] 4)) (fun k1 xk1 sk1 ok1 hxk1 hr hltk1 hik1=>?_) fun k1 sk1 ek1 hltk1=>?_
 ·obtain⟨s1,rfl⟩:∃ y,y=sk1:=⟨_,rfl⟩
  refine AW.seq (AW.seq (AW.regL ?_))
  iterate 3 refine V rfl ?_
  refine LF ?_
  refine V rfl ?_
  refine AL.nil ?_
  refine AW.cT rfl (dT hltk1) ?_
  refine AW.skip ?_
  refine AW.seq (AW.block (AW.seq (AW.regL ?_)))
  iterate 3 refine V rfl ?_
  refine IF (Int.natCast_nonneg _) hxk1 ?_
  iterate 2 refine V rfl ?_
  refine NV 4 ?_
  refine SB ?_
  refine AL.nil ?_
  refine AW.seq (AW.seq (AW.regL ?_))
  iterate 2 refine V rfl ?_
  refine bdE hr fun y2 hy2 hr=>?_
  refine CB [] [2] (z0L (m:=.bo) hy2) ?_
  refine V rfl ?_
  refine ifE hr (fun h1 hr=>?_) fun h1 hr=>?_
  ·refine VF rfl (bnF h1) ?_
   iterate 2 refine V rfl ?_
   refine bdE hr fun y3 hy3 hr=>?_
   refine CB [] [3] (z0L (m:=.bo) hy3) ?_
   refine V rfl ?_
   refine AL.nil ?_
   refine ifE hr (fun h2 hr=>?_) fun h2 hr=>?_
   ·refine AW.cT rfl h2 ?_
    refine AW.seq (AW.regL ?_)
    refine V rfl ?_
    refine AL.nil ?_
    refine AW.ret ?_
    cases hr
    cases hik1 _ rfl
    rename_i hr
    cases hr
    exact endA.renK [] 0 hS
   ·refine AW.cF rfl (bF h2) ?_
    refine AW.skip ?_
    refine AW.regL ?_
    iterate 2 refine V rfl ?_
    refine LIR 5 (m:=.fz) (f:=Occurrence.D) (xs:=[xk1.At]) ?_
    refine ggE hr fun g1 hr=>?_
    refine APf1 (f:=Occurrence.D) 6 (fun _=>rfl) 24 g1 ?_
    refine V rfl ?_
    refine AL.nil ?_
    refine AW.regL ?_
    refine V rfl ?_
    refine OB _ (q2b (p:=k1) (q:=1) (q1o hltk1 hl1)) ?_
    refine V rfl ?_
    refine AL.nil ?_
    cases hr
    exact⟨_,rfl,GH.trans (GH.bw (q:=0) [.d m (.sl 2 (a0.Symbols.map Symbol.D)),.u] (.cons .rfl (.cons .u .nil)) rfl) (GH.renK hS [(0,0),(1,1),(2,2),(6,3)] 4)⟩
  ·refine VT rfl (bnT h1) ?_
   refine AL.off ?_
   refine AL.off ?_
   refine AL.off ?_
   refine V rfl ?_
   refine AL.nil ?_
   refine AW.cT rfl rfl ?_
   refine AW.seq (AW.regL ?_)
   refine V rfl ?_
   refine AL.nil ?_
   refine AW.ret ?_
   cases hr
   cases hik1 _ rfl
   rename_i hr
   cases hr
   exact endA.renK [] 0 hS
 ·subst ek1
  obtain⟨s1,rfl⟩:∃ y,y=sk1:=⟨_,rfl⟩
  refine AW.seq (AW.seq (AW.regL ?_))
  iterate 3 refine V rfl ?_
  refine LF ?_
  refine V rfl ?_
  refine AL.nil ?_
  refine AW.cF rfl (dF hltk1) ?_
  refine AW.exit ?_
  refine AW.seq (AW.regL ?_)
  refine V rfl ?_
  refine AL.nil ?_
  refine AW.ret ?_
  cases hr
  exact endA.renK [] 0 hS
def q8w (a0:Grammar)(a1:Rule)(a2:Occurrence):Option Bool:=
 (q2g a2.Pos 0 (a1.Right.length:Int)).bind fun y1=>
 if y1=true then (
 (q1X a1 a2.Pos).bind fun y2=>
 (q1U a0 y2).bind fun (y3,y4)=>
 (q2j y3 a2.Name).bind fun (y5,y6)=>
 if a2.Pos=0 then (
 (
 if y6=true then (
 some (decide (y5.Mode=1))
 ) else (
 some false
 )
 ).bind fun s1=>
 some s1
 ) else (
 (
 if y6=true then (
 some (decide (y5.Mode=2))
 ) else (
 some false
 )
 ).bind fun s2=>
 some s2
 )
 ) else (
 some false
 )
theorem z8H {m:Md}{a0:Grammar}{a1:Rule}{a2:Occurrence}{r:Bool}(hr:q8w a0 a1 a2=some r):Ok Tryz.prog 145 [Grammar.y m a0,Rule.x m a1,Occurrence.x .fz a2] [] (.d .fz (.b r)) []:=by
 refine Ok.enter rfl Tryz.func145 rfl rfl rfl fun S hS=>?_
 unfold q8w at hr
 refine AW.seq (AW.regL ?_)
 refine BX 0 ?_
 refine BX 1 ?_
 refine BX 2 ?_
 refine V rfl ?_
 refine AL.nil ?_
 refine AW.seq (AW.seq (AW.regL ?_))
 iterate 4 refine V rfl ?_
 refine LF ?_
 refine bdE hr fun y1 hy1 hr=>?_
 refine CB [] [] (q2w hy1) ?_
 refine V rfl ?_
 refine AL.nil ?_
 refine ifE hr (fun h1 hr=>?_) fun h1 hr=>?_
 ·refine AW.cF rfl (bnF h1) ?_
  refine AW.skip ?_
  refine AW.seq (AW.drawL (h:=?_))
  iterate 4 refine V rfl ?_
  refine bdE hr fun y2 hy2 hr=>?_
  refine CB [] [] (q3F (m:=m) hy2) ?_
  refine bdE hr fun q1 hq1 hr=>?_
  obtain⟨y3,y4⟩:=q1
  refine CB [(0,3)] [] (q3m (m:=m) hq1) ?_
  iterate 3 refine V rfl ?_
  refine NV 4 ?_
  refine SB ?_
  refine V rfl ?_
  refine AL.nil ?_
  refine AW.seq (AW.regL ?_)
  iterate 3 refine V rfl ?_
  refine bdE hr fun q2 hq2 hr=>?_
  obtain⟨y5,y6⟩:=q2
  refine CB [] [3] (q4D (m:=.bo) hq2) ?_
  iterate 3 refine V rfl ?_
  refine NV 5 ?_
  refine SB ?_
  refine V rfl ?_
  refine AL.nil ?_
  refine AW.seq (AW.seq (AW.regL ?_))
  iterate 3 refine V rfl ?_
  refine AL.nil ?_
  refine ifE hr (fun h2 hr=>?_) fun h2 hr=>?_
  ·refine AW.cT rfl (dT h2) ?_
   refine AW.seq (AW.regL ?_)
   refine V rfl ?_
   refine bdE hr fun s1 hqq3 hr=>?_
   refine AL.meet1 5 [(6,.d .fz (.b false)),(42,.d .fz (.b s1))] ?_ ?_
   ·replace hr:=hqq3
    refine ifE hr (fun h3 hr=>?_) fun h3 hr=>?_
    ·refine VT rfl h3 ?_
     iterate 4 refine V rfl ?_
     refine AL.nil ?_
     cases hr
     exact q1r
    ·refine VF rfl (bF h3) ?_
     refine AL.off ?_
     refine AL.off ?_
     refine AL.off ?_
     refine V rfl ?_
     refine AL.nil ?_
     cases hr
     exact q1r
   ·refine V rfl ?_
    refine AL.nil ?_
    refine AW.ret ?_
    cases hr
    exact endA.renK [] 0 hS
  ·refine AW.cF rfl (dF h2) ?_
   refine AW.skip ?_
   refine AW.seq (AW.regL ?_)
   refine V rfl ?_
   refine bdE hr fun s2 hqq4 hr=>?_
   refine AL.meet1 5 [(6,.d .fz (.b false)),(48,.d .fz (.b s2))] ?_ ?_
   ·replace hr:=hqq4
    refine ifE hr (fun h4 hr=>?_) fun h4 hr=>?_
    ·refine VT rfl h4 ?_
     iterate 4 refine V rfl ?_
     refine AL.nil ?_
     cases hr
     exact q1r
    ·refine VF rfl (bF h4) ?_
     refine AL.off ?_
     refine AL.off ?_
     refine AL.off ?_
     refine V rfl ?_
     refine AL.nil ?_
     cases hr
     exact q1r
   ·refine V rfl ?_
    refine AL.nil ?_
    refine AW.ret ?_
    cases hr
    exact endA.renK [] 0 hS
 ·refine AW.cT rfl (bnT h1) ?_
  refine AW.seq (AW.regL ?_)
  refine V rfl ?_
  refine AL.nil ?_
  refine AW.ret ?_
  cases hr
  exact endA.renK [] 0 hS
end Go.Proofs.YtiojgbiimbefiacGreat
