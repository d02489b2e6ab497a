/- What some functions of the program compute, as partial functions on plain data, and that they do; each lemma bears its conditions in its statement. -/
import Derived.Test.YtiojgbiimbefiacGreatLift1
set_option linter.unusedVariables false
set_option linter.unusedSimpArgs false
set_option linter.ambiguousOpen false
set_option linter.unusedSectionVars false
set_option linter.unnecessarySimpa false
set_option maxRecDepth 100000
set_option maxHeartbeats 40000000
noncomputable section
namespace Go.Proofs.YtiojgbiimbefiacGreat
open Go Go.E Go.A
def q2M:Nat→Grammar→Rule→Int→Int→Bool→l1Cur→Option (Expr × l1Cur)
  | 0,_,_,_,_,_,_=>none
  | n+1,a1,a2,a3,a4,a5,o0=>q3q (q2M n) a1 a2 a3 a4 a5 o0
def z0j (a1:Grammar)(a2:Rule)(a3:Int)(a4:Int)(a5:Bool)(o0:l1Cur):Option (Expr × l1Cur):=recO fun n=>q2M n a1 a2 a3 a4 a5 o0
theorem z5f (n:Nat):∀ {m:Md} {a1:Grammar} {a2:Rule} {a3:Int} {a4:Int} {a5:Bool} {o0:l1Cur} {r:(Expr × l1Cur)},q2M n a1 a2 a3 a4 a5 o0=some r→Ok Tryz.prog 121 [.pb 0 0,Grammar.y m a1,Rule.x m a2,.d .fz (.i .i64 a3),.d .fz (.i .i64 a4),.d .fz (.b a5)] [.box [.d .fz (.sl 1 (o0.b.map byD)),.d .fz (.i .i64 o0.i),.d .fz (.i .i64 o0.h)]] (.ag [.d .fz (.i .i64 r.1.Kind),.d .fz (.i .i64 r.1.N),.d .fz (.i .i64 r.1.Pos),.d .fz (.i .i64 r.1.Type_),.d .fz (.s r.1.Symbol),.d .fz (.s r.1.Name),.ref 1 none]) [.box [.d .fz (.sl 1 (o0.b.map byD)),.d .fz (.i .i64 r.2.i),.d .fz (.i .i64 r.2.h)],.row .fz 7 (r.1.Args.map Expr.D)]:=by
  induction n with
  | zero=>intro _ _ _ _ _ _ _ r hr; exact nomatch (show (none:Option (Expr × l1Cur))=some r from hr)
  | succ n ih=>intro _ _ _ _ _ _ _ r hr; exact z5e ih hr
theorem z6m {m:Md}{a1:Grammar}{a2:Rule}{a3:Int}{a4:Int}{a5:Bool}{o0:l1Cur}{r:(Expr × l1Cur)}(hr:z0j a1 a2 a3 a4 a5 o0=some r):Ok Tryz.prog 121 [.pb 0 0,Grammar.y m a1,Rule.x m a2,.d .fz (.i .i64 a3),.d .fz (.i .i64 a4),.d .fz (.b a5)] [.box [.d .fz (.sl 1 (o0.b.map byD)),.d .fz (.i .i64 o0.i),.d .fz (.i .i64 o0.h)]] (.ag [.d .fz (.i .i64 r.1.Kind),.d .fz (.i .i64 r.1.N),.d .fz (.i .i64 r.1.Pos),.d .fz (.i .i64 r.1.Type_),.d .fz (.s r.1.Symbol),.d .fz (.s r.1.Name),.ref 1 none]) [.box [.d .fz (.sl 1 (o0.b.map byD)),.d .fz (.i .i64 r.2.i),.d .fz (.i .i64 r.2.h)],.row .fz 7 (r.1.Args.map Expr.D)]:=by
  obtain⟨n,hn⟩:=q4v hr
  exact z5f n hn
def q6s (rec_sl4Left:Expr→Int→Option Int)(a0:Expr):(Int × Int)→Option ((Int × Int) ⊕ Int):=fun (s2,s3)=>
 if s3 < (a0.Args.length:Int) then (
 if 0≤s2 then (
 grd (0≤s3) <|
 (a0.Args[s3.toNat]?).bind fun x1=>
 (rec_sl4Left x1 s2).bind fun y1=>
 grd (I64 (s3+1)) <|
 some (.inl (y1,(s3+1)))
 ) else (
 some (.inr s2)
 )
 ) else (
 some (.inr s2)
 )
def q8i (rec_sl4Left:Expr→Int→Option Int)(a0:Expr)(a1:Int):Option Int:=
 grd (I64 (a1 - 1)) <|
 (q2t (q6s rec_sl4Left a0) ((a1 - 1),0)).bind fun s1=>
 some s1
theorem z6n {rec_sl4Left:Expr→Int→Option Int}(ih_sl4Left:∀ {m:Md} {a0:Expr} {a1:Int} {r:Int},rec_sl4Left a0 a1=some r→Ok Tryz.prog 124 [Expr.x m a0,.d .fz (.i .i64 a1)] [] (.d .fz (.i .i64 r)) []){m:Md}{a0:Expr}{a1:Int}{r:Int}(hr:q8i rec_sl4Left a0 a1=some r):Ok Tryz.prog 124 [Expr.x m a0,.d .fz (.i .i64 a1)] [] (.d .fz (.i .i64 r)) []:=by
 refine Ok.enter rfl Tryz.func124 rfl rfl rfl fun S hS=>?_
 unfold q8i at hr
 refine AW.seq (AW.regL ?_)
 refine BX 0 ?_
 refine V rfl ?_
 refine AL.nil ?_
 refine AW.seq (AW.regL ?_)
 refine V rfl ?_
 refine ggE hr fun g1 hr=>?_
 refine OB _ (bSub g1) ?_
 refine V rfl ?_
 refine AL.nil ?_
 refine AW.seq (AW.seq (AW.regL ?_))
 refine V rfl ?_
 refine AL.nil ?_
 refine bdE hr fun s1 hqq1 hr=>?_
 refine AW.cut1 1 [(1,.d .fz (.i .i64 s1))] [] ?_ ?_
 ·refine AW.block (AW.iter hqq1 1 (fun (s2,s3)=>[(1,.d .fz (.i .i64 s2)),(2,.pb 0 0),(5,.d .fz (.i .i64 s3))]) (fun (s2,s3)=>[]) (GH.renK hS [(0,0)] 1) fun sk1 ok1 hr hik1=>?_)
  obtain⟨s2,s3⟩:=sk1
  have hr:=hr
  refine AW.seq (AW.seq (AW.regL ?_))
  iterate 3 refine V rfl ?_
  refine LF ?_
  refine V rfl ?_
  refine ifE hr (fun h1 hr=>?_) fun h1 hr=>?_
  ·refine VT rfl (dT h1) ?_
   iterate 3 refine V rfl ?_
   refine AL.nil ?_
   refine ifE hr (fun h2 hr=>?_) fun h2 hr=>?_
   ·refine AW.cT rfl (dT h2) ?_
    refine AW.skip ?_
    refine AW.seq (AW.block (AW.regL ?_))
    iterate 3 refine V rfl ?_
    refine ggE hr fun g2 hr=>?_
    refine bdE hr fun x1 hx1 hr=>?_
    refine IFq g2 hx1 (Expr.D_cells x1) ?_
    iterate 2 refine V rfl ?_
    refine bdE hr fun y1 hy1 hr=>?_
    refine CB [] [] (ih_sl4Left (m:=m) hy1) ?_
    refine V rfl ?_
    refine AL.nil ?_
    refine AW.regL ?_
    refine V rfl ?_
    refine ggE hr fun g3 hr=>?_
    refine OB _ (bAdd g3) ?_
    refine V rfl ?_
    refine AL.nil ?_
    cases hr
    exact⟨_,rfl,GH.renK hS [(0,0)] 1⟩
   ·refine AW.cF rfl (dF h2) ?_
    refine AW.exit ?_
    cases hr
    cases hik1 _ rfl
    exact GH.renK hS [(0,0)] 1
  ·refine VF rfl (dF h1) ?_
   refine AL.off ?_
   refine AL.off ?_
   refine V rfl ?_
   refine AL.nil ?_
   refine AW.cF rfl rfl ?_
   refine AW.exit ?_
   cases hr
   cases hik1 _ rfl
   exact GH.renK hS [(0,0)] 1
 ·refine AW.seq (AW.regL ?_)
  iterate 2 refine V rfl ?_
  refine AL.nil ?_
  refine AW.ret ?_
  cases hr
  exact endA.renK [] 0 hS
def q6A:Nat→Expr→Int→Option Int
  | 0,_,_=>none
  | n+1,a0,a1=>q8i (q6A n) a0 a1
def z1I (a0:Expr)(a1:Int):Option Int:=recO fun n=>q6A n a0 a1
theorem z6o (n:Nat):∀ {m:Md} {a0:Expr} {a1:Int} {r:Int},q6A n a0 a1=some r→Ok Tryz.prog 124 [Expr.x m a0,.d .fz (.i .i64 a1)] [] (.d .fz (.i .i64 r)) []:=by
  induction n with
  | zero=>intro _ _ _ r hr; exact nomatch (show (none:Option Int)=some r from hr)
  | succ n ih=>intro _ _ _ r hr; exact z6n ih hr
theorem z8s {m:Md}{a0:Expr}{a1:Int}{r:Int}(hr:z1I a0 a1=some r):Ok Tryz.prog 124 [Expr.x m a0,.d .fz (.i .i64 a1)] [] (.d .fz (.i .i64 r)) []:=by
  obtain⟨n,hn⟩:=q4v hr
  exact z6o n hn
def q6X (a0:Int)(a1:Int):Option Int:=
 if a1 < a0 then (
 some a0
 ) else (
 some a1
 )
theorem z1J {a0:Int}{a1:Int}{r:Int}(hr:q6X a0 a1=some r):Ok Tryz.prog 140 [.d .fz (.i .i64 a0),.d .fz (.i .i64 a1)] [] (.d .fz (.i .i64 r)) []:=by
 refine Ok.enter rfl Tryz.func140 rfl rfl rfl fun S hS=>?_
 unfold q6X at hr
 refine AW.seq (AW.regL ?_)
 refine V rfl ?_
 refine AL.nil ?_
 refine AW.seq (AW.seq (AW.regL ?_))
 iterate 3 refine V rfl ?_
 refine AL.nil ?_
 refine ifE hr (fun h1 hr=>?_) fun h1 hr=>?_
 ·refine AW.cT rfl (dT h1) ?_
  refine AW.seq (AW.regL ?_)
  iterate 2 refine V rfl ?_
  refine AL.nil ?_
  refine AW.ret ?_
  cases hr
  exact endA.renK [] 0 hS
 ·refine AW.cF rfl (dF h1) ?_
  refine AW.skip ?_
  refine AW.seq (AW.regL ?_)
  iterate 2 refine V rfl ?_
  refine AL.nil ?_
  refine AW.ret ?_
  cases hr
  exact endA.renK [] 0 hS
def q6B (rec_sDepthOfExpr:Expr→Option Int):Nat→Expr→Int→Option Int:=fun k1 xk1 s1=>
 (rec_sDepthOfExpr xk1).bind fun y1=>
 (q6X s1 y1).bind fun y2=>
 some y2
def q4K (rec_sDepthOfExpr:Expr→Option Int)(a0:Expr):Option Int:=
 (eachL (q6B rec_sDepthOfExpr) 0 a0.Args 0).bind fun s1=>
 grd (I64 (s1+1)) <|
 some (s1+1)
theorem z0U {rec_sDepthOfExpr:Expr→Option Int}(ih_sDepthOfExpr:∀ {m:Md} {a0:Expr} {r:Int},rec_sDepthOfExpr a0=some r→Ok Tryz.prog 125 [Expr.x m a0] [] (.d .fz (.i .i64 r)) []){m:Md}{a0:Expr}{r:Int}(hr:q4K rec_sDepthOfExpr a0=some r):Ok Tryz.prog 125 [Expr.x m a0] [] (.d .fz (.i .i64 r)) []:=by
 refine Ok.enter rfl Tryz.func125 rfl rfl rfl fun S hS=>?_
 unfold q4K at hr
 refine AW.seq (AW.regL ?_)
 refine BX 0 ?_
 refine V rfl ?_
 refine AL.nil ?_
 refine AW.seq (AW.regL ?_)
 refine V rfl ?_
 refine AL.nil ?_
 refine AW.seq (AW.seq (AW.regL ?_))
 refine V rfl ?_
 refine AL.nil ?_
 refine AW.block ?_
 refine AW.len (.ag 6 (.tmp 0 rfl) rfl) fun hl1=>?_
 refine bdE hr fun s1 hqq1 hr=>?_
 refine AW.eachL hqq1 hl1 1 (fun k1 s1=>[(1,.pb 0 0),(3,.d .fz (.i .i64 s1)),(4,.d .fz (.i .i64 (k1:Int)))]) (fun k1 s1=>[]) (GH.renK hS [(0,0)] 1) (fun k1 xk1 sk1 ok1 hxk1 hr hltk1=>?_) fun k1 hltk1=>?_
 ·obtain⟨s1,rfl⟩:∃ y,y=sk1:=⟨_,rfl⟩
  refine AW.seq (AW.seq (AW.regL ?_))
  iterate 3 refine V rfl ?_
  refine LF ?_
  refine V rfl ?_
  refine AL.nil ?_
  refine AW.cT rfl (dT hltk1) ?_
  refine AW.skip ?_
  refine AW.seq (AW.block (AW.regL ?_))
  iterate 4 refine V rfl ?_
  refine IFq (Int.natCast_nonneg _) hxk1 (Expr.D_cells xk1) ?_
  refine V rfl ?_
  refine bdE hr fun y1 hy1 hr=>?_
  refine CB [] [] (ih_sDepthOfExpr (m:=m) hy1) ?_
  refine bdE hr fun y2 hy2 hr=>?_
  refine CB [] [] (z1J hy2) ?_
  refine V rfl ?_
  refine AL.nil ?_
  refine AW.regL ?_
  refine V rfl ?_
  refine OB _ (q2b (p:=k1) (q:=1) (q1o hltk1 hl1)) ?_
  refine V rfl ?_
  refine AL.nil ?_
  cases hr
  exact GH.renK hS [(0,0)] 1
 ·refine AW.seq (AW.seq (AW.regL ?_))
  iterate 3 refine V rfl ?_
  refine LF ?_
  refine V rfl ?_
  refine AL.nil ?_
  refine AW.cF rfl (dF hltk1) ?_
  refine AW.exit ?_
  refine AW.seq (AW.regL ?_)
  refine V rfl ?_
  refine ggE hr fun g1 hr=>?_
  refine OB _ (bAdd g1) ?_
  refine V rfl ?_
  refine AL.nil ?_
  refine AW.ret ?_
  cases hr
  exact endA.renK [] 0 hS
def q3n:Nat→Expr→Option Int
  | 0,_=>none
  | n+1,a0=>q4K (q3n n) a0
def q7f (a0:Expr):Option Int:=recO fun n=>q3n n a0
theorem z0V (n:Nat):∀ {m:Md} {a0:Expr} {r:Int},q3n n a0=some r→Ok Tryz.prog 125 [Expr.x m a0] [] (.d .fz (.i .i64 r)) []:=by
  induction n with
  | zero=>intro _ _ r hr; exact nomatch (show (none:Option Int)=some r from hr)
  | succ n ih=>intro _ _ r hr; exact z0U ih hr
theorem z1K {m:Md}{a0:Expr}{r:Int}(hr:q7f a0=some r):Ok Tryz.prog 125 [Expr.x m a0] [] (.d .fz (.i .i64 r)) []:=by
  obtain⟨n,hn⟩:=q4v hr
  exact z0V n hn
def q8j (a0:Expr):Option Bool:=
 (
 if a0.Kind=4 then (
 some 2
 ) else (
 if a0.Kind=5 then (
 some 3
 ) else (
 if a0.Kind=8 then (
 some 1
 ) else (
 some 0
 )
 )
 )
 ).bind fun s1=>
 if (a0.Args.length:Int)=s1 then (
 (
 if a0.Kind=3 then (
 some true
 ) else (
 some (decide (a0.Kind=6))
 )
 ).bind fun s2=>
 (
 if a0.Kind=3 then (
 some true
 ) else (
 some (decide (a0.Kind=8))
 )
 ).bind fun s3=>
 (
 if a0.Kind=1 then (
 some true
 ) else (
 some (decide (a0.Kind=4))
 )
 ).bind fun s4=>
 (
 if s2=true then (
 some true
 ) else (
 some (decide (a0.Pos=0))
 )
 ).bind fun s5=>
 (
 if s5=true then (
 (
 if s3=true then (
 some true
 ) else (
 some (decide (a0.Name=(⟨#[]⟩:ByteArray)))
 )
 ).bind fun s7=>
 some s7
 ) else (
 some false
 )
 ).bind fun s6=>
 (
 if s6=true then (
 (
 if s4=true then (
 some true
 ) else (
 some (decide (a0.N=0))
 )
 ).bind fun s9=>
 some s9
 ) else (
 some false
 )
 ).bind fun s8=>
 (
 if s8=true then (
 (
 if a0.Kind=1 then (
 some true
 ) else (
 some (decide (a0.Type_=0))
 )
 ).bind fun s11=>
 some s11
 ) else (
 some false
 )
 ).bind fun s10=>
 (
 if s10=true then (
 (
 if a0.Kind=8 then (
 some true
 ) else (
 some (decide (a0.Symbol=(⟨#[]⟩:ByteArray)))
 )
 ).bind fun s13=>
 some s13
 ) else (
 some false
 )
 ).bind fun s12=>
 some s12
 ) else (
 some false
 )
theorem z8t {m:Md}{a0:Expr}{r:Bool}(hr:q8j a0=some r):Ok Tryz.prog 146 [Expr.x m a0] [] (.d .fz (.b r)) []:=by
 refine Ok.enter rfl Tryz.func146 rfl rfl rfl fun S hS=>?_
 unfold q8j at hr
 refine AW.seq (AW.regL ?_)
 refine BX 0 ?_
 refine V rfl ?_
 refine AL.nil ?_
 refine AW.seq (AW.regL ?_)
 refine V rfl ?_
 refine AL.nil ?_
 refine AW.seq (AW.seq (AW.regL ?_))
 iterate 2 refine V rfl ?_
 refine AL.nil ?_
 refine bdE hr fun s1 hqq1 hr=>?_
 refine AW.cut1 1 [(1,.pb 0 0),(3,.d .fz (.i .i64 s1))] [] ?_ ?_
 ·replace hr:=hqq1
  refine AW.block (AW.seq (AW.regL ?_))
  iterate 2 refine V rfl ?_
  refine AL.nil ?_
  refine ifE hr (fun h1 hr=>?_) fun h1 hr=>?_
  ·refine AW.cT rfl (dT h1) ?_
   refine AW.regL ?_
   refine V rfl ?_
   refine AL.nil ?_
   cases hr
   exact GH.renK hS [(0,0)] 1
  ·refine AW.cF rfl (dF h1) ?_
   refine AW.seq (AW.regL ?_)
   iterate 2 refine V rfl ?_
   refine AL.nil ?_
   refine ifE hr (fun h2 hr=>?_) fun h2 hr=>?_
   ·refine AW.cT rfl (dT h2) ?_
    refine AW.regL ?_
    refine V rfl ?_
    refine AL.nil ?_
    cases hr
    exact GH.renK hS [(0,0)] 1
   ·refine AW.cF rfl (dF h2) ?_
    refine AW.seq (AW.regL ?_)
    iterate 2 refine V rfl ?_
    refine AL.nil ?_
    refine ifE hr (fun h3 hr=>?_) fun h3 hr=>?_
    ·refine AW.cT rfl (dT h3) ?_
     refine AW.regL ?_
     refine V rfl ?_
     refine AL.nil ?_
     cases hr
     exact GH.renK hS [(0,0)] 1
    ·refine AW.cF rfl (dF h3) ?_
     refine AW.skip ?_
     cases hr
     exact GH.renK hS [(0,0)] 1
 ·refine AW.seq (AW.seq (AW.regL ?_))
  iterate 2 refine V rfl ?_
  refine LF ?_
  iterate 2 refine V rfl ?_
  refine AL.nil ?_
  refine ifE hr (fun h4 hr=>?_) fun h4 hr=>?_
  ·refine AW.cF rfl (nF h4) ?_
   refine AW.skip ?_
   refine AW.seq (AW.regL ?_)
   iterate 3 refine V rfl ?_
   refine bdE hr fun s2 hqq2 hr=>?_
   refine AL.meet1 5 [(1,.pb 0 0),(27,.d .fz (.b s2))] ?_ ?_
   ·replace hr:=hqq2
    refine ifE hr (fun h5 hr=>?_) fun h5 hr=>?_
    ·refine VT rfl (dT h5) ?_
     refine AL.off ?_
     refine AL.off ?_
     refine AL.off ?_
     refine V rfl ?_
     refine AL.nil ?_
     cases hr
     exact q1r
    ·refine VF rfl (dF h5) ?_
     iterate 4 refine V rfl ?_
     refine AL.nil ?_
     cases hr
     exact q1r
   ·refine V rfl ?_
    refine AL.nil ?_
    refine AW.seq (AW.regL ?_)
    iterate 3 refine V rfl ?_
    refine bdE hr fun s3 hqq3 hr=>?_
    refine AL.meet1 5 [(1,.pb 0 0),(4,.d .fz (.b s2)),(35,.d .fz (.b s3))] ?_ ?_
    ·replace hr:=hqq3
     refine ifE hr (fun h6 hr=>?_) fun h6 hr=>?_
     ·refine VT rfl (dT h6) ?_
      refine AL.off ?_
      refine AL.off ?_
      refine AL.off ?_
      refine V rfl ?_
      refine AL.nil ?_
      cases hr
      exact q1r
     ·refine VF rfl (dF h6) ?_
      iterate 4 refine V rfl ?_
      refine AL.nil ?_
      cases hr
      exact q1r
    ·refine V rfl ?_
     refine AL.nil ?_
     refine AW.seq (AW.regL ?_)
     iterate 3 refine V rfl ?_
     refine bdE hr fun s4 hqq4 hr=>?_
     refine AL.meet1 5 [(1,.pb 0 0),(4,.d .fz (.b s2)),(5,.d .fz (.b s3)),(43,.d .fz (.b s4))] ?_ ?_
     ·replace hr:=hqq4
      refine ifE hr (fun h7 hr=>?_) fun h7 hr=>?_
      ·refine VT rfl (dT h7) ?_
       refine AL.off ?_
       refine AL.off ?_
       refine AL.off ?_
       refine V rfl ?_
       refine AL.nil ?_
       cases hr
       exact q1r
      ·refine VF rfl (dF h7) ?_
       iterate 4 refine V rfl ?_
       refine AL.nil ?_
       cases hr
       exact q1r
     ·refine V rfl ?_
      refine AL.nil ?_
      refine AW.seq (AW.regL ?_)
      refine V rfl ?_
      refine bdE hr fun s5 hqq5 hr=>?_
      refine AL.meet1 5 [(1,.pb 0 0),(5,.d .fz (.b s3)),(6,.d .fz (.b s4)),(49,.d .fz (.b s5))] ?_ ?_
      ·replace hr:=hqq5
       refine ifE hr (fun h8 hr=>?_) fun h8 hr=>?_
       ·refine VT rfl h8 ?_
        refine AL.off ?_
        refine AL.off ?_
        refine AL.off ?_
        refine V rfl ?_
        refine AL.nil ?_
        cases hr
        exact q1r
       ·refine VF rfl (bF h8) ?_
        iterate 4 refine V rfl ?_
        refine AL.nil ?_
        cases hr
        exact q1r
      ·refine bdE hr fun s6 hqq6 hr=>?_
       refine AL.meet1 8 [(1,.pb 0 0),(6,.d .fz (.b s4)),(57,.d .fz (.b s6))] ?_ ?_
       ·replace hr:=hqq6
        refine ifE hr (fun h9 hr=>?_) fun h9 hr=>?_
        ·refine VT rfl h9 ?_
         refine V rfl ?_
         refine bdE hr fun s7 hqq7 hr=>?_
         refine AL.meet1 5 [(1,.pb 0 0),(6,.d .fz (.b s4)),(50,.d .fz (.b true)),(56,.d .fz (.b s7))] ?_ ?_
         ·replace hr:=hqq7
          refine ifE hr (fun h10 hr=>?_) fun h10 hr=>?_
          ·refine VT rfl h10 ?_
           refine AL.off ?_
           refine AL.off ?_
           refine AL.off ?_
           refine V rfl ?_
           refine AL.nil ?_
           cases hr
           exact q1r
          ·refine VF rfl (bF h10) ?_
           iterate 4 refine V rfl ?_
           refine AL.nil ?_
           cases hr
           exact q1r
         ·refine V rfl ?_
          refine AL.nil ?_
          cases hr
          exact q1r
        ·refine VF rfl (bF h9) ?_
         refine AL.off ?_
         refine AL.off ?_
         refine AL.off ?_
         refine AL.off ?_
         refine AL.off ?_
         refine AL.off ?_
         refine V rfl ?_
         refine AL.nil ?_
         cases hr
         exact q1r
       ·refine bdE hr fun s8 hqq8 hr=>?_
        refine AL.meet1 8 [(1,.pb 0 0),(65,.d .fz (.b s8))] ?_ ?_
        ·replace hr:=hqq8
         refine ifE hr (fun h11 hr=>?_) fun h11 hr=>?_
         ·refine VT rfl h11 ?_
          refine V rfl ?_
          refine bdE hr fun s9 hqq9 hr=>?_
          refine AL.meet1 5 [(1,.pb 0 0),(58,.d .fz (.b true)),(64,.d .fz (.b s9))] ?_ ?_
          ·replace hr:=hqq9
           refine ifE hr (fun h12 hr=>?_) fun h12 hr=>?_
           ·refine VT rfl h12 ?_
            refine AL.off ?_
            refine AL.off ?_
            refine AL.off ?_
            refine V rfl ?_
            refine AL.nil ?_
            cases hr
            exact q1r
           ·refine VF rfl (bF h12) ?_
            iterate 4 refine V rfl ?_
            refine AL.nil ?_
            cases hr
            exact q1r
          ·refine V rfl ?_
           refine AL.nil ?_
           cases hr
           exact q1r
         ·refine VF rfl (bF h11) ?_
          refine AL.off ?_
          refine AL.off ?_
          refine AL.off ?_
          refine AL.off ?_
          refine AL.off ?_
          refine AL.off ?_
          refine V rfl ?_
          refine AL.nil ?_
          cases hr
          exact q1r
        ·refine bdE hr fun s10 hqq10 hr=>?_
         refine AL.meet1 10 [(1,.pb 0 0),(75,.d .fz (.b s10))] ?_ ?_
         ·replace hr:=hqq10
          refine ifE hr (fun h13 hr=>?_) fun h13 hr=>?_
          ·refine VT rfl h13 ?_
           iterate 3 refine V rfl ?_
           refine bdE hr fun s11 hqq11 hr=>?_
           refine AL.meet1 5 [(1,.pb 0 0),(66,.d .fz (.b true)),(74,.d .fz (.b s11))] ?_ ?_
           ·replace hr:=hqq11
            refine ifE hr (fun h14 hr=>?_) fun h14 hr=>?_
            ·refine VT rfl (dT h14) ?_
             refine AL.off ?_
             refine AL.off ?_
             refine AL.off ?_
             refine V rfl ?_
             refine AL.nil ?_
             cases hr
             exact q1r
            ·refine VF rfl (dF h14) ?_
             iterate 4 refine V rfl ?_
             refine AL.nil ?_
             cases hr
             exact q1r
           ·refine V rfl ?_
            refine AL.nil ?_
            cases hr
            exact q1r
          ·refine VF rfl (bF h13) ?_
           refine AL.off ?_
           refine AL.off ?_
           refine AL.off ?_
           refine AL.off ?_
           refine AL.off ?_
           refine AL.off ?_
           refine AL.off ?_
           refine AL.off ?_
           refine V rfl ?_
           refine AL.nil ?_
           cases hr
           exact q1r
         ·refine bdE hr fun s12 hqq12 hr=>?_
          refine AL.meet1 10 [(85,.d .fz (.b s12))] ?_ ?_
          ·replace hr:=hqq12
           refine ifE hr (fun h15 hr=>?_) fun h15 hr=>?_
           ·refine VT rfl h15 ?_
            iterate 3 refine V rfl ?_
            refine bdE hr fun s13 hqq13 hr=>?_
            refine AL.meet1 5 [(76,.d .fz (.b true)),(84,.d .fz (.b s13))] ?_ ?_
            ·replace hr:=hqq13
             refine ifE hr (fun h16 hr=>?_) fun h16 hr=>?_
             ·refine VT rfl (dT h16) ?_
              refine AL.off ?_
              refine AL.off ?_
              refine AL.off ?_
              refine V rfl ?_
              refine AL.nil ?_
              cases hr
              exact q1r
             ·refine VF rfl (dF h16) ?_
              iterate 4 refine V rfl ?_
              refine AL.nil ?_
              cases hr
              exact q1r
            ·refine V rfl ?_
             refine AL.nil ?_
             cases hr
             exact q1r
           ·refine VF rfl (bF h15) ?_
            refine AL.off ?_
            refine AL.off ?_
            refine AL.off ?_
            refine AL.off ?_
            refine AL.off ?_
            refine AL.off ?_
            refine AL.off ?_
            refine AL.off ?_
            refine V rfl ?_
            refine AL.nil ?_
            cases hr
            exact q1r
          ·refine V rfl ?_
           refine AL.nil ?_
           refine AW.ret ?_
           cases hr
           exact endA.renK [] 0 hS
  ·refine AW.cT rfl (nT h4) ?_
   refine AW.seq (AW.regL ?_)
   refine V rfl ?_
   refine AL.nil ?_
   refine AW.ret ?_
   cases hr
   exact endA.renK [] 0 hS
def q9I (a0:Int)(a1:Int):Option Int:=
 if a0 < a1 then (
 some a0
 ) else (
 some a1
 )
theorem z9O {a0:Int}{a1:Int}{r:Int}(hr:q9I a0 a1=some r):Ok Tryz.prog 152 [.d .fz (.i .i64 a0),.d .fz (.i .i64 a1)] [] (.d .fz (.i .i64 r)) []:=by
 refine Ok.enter rfl Tryz.func152 rfl rfl rfl fun S hS=>?_
 unfold q9I at hr
 refine AW.seq (AW.regL ?_)
 refine V rfl ?_
 refine AL.nil ?_
 refine AW.seq (AW.seq (AW.regL ?_))
 iterate 3 refine V rfl ?_
 refine AL.nil ?_
 refine ifE hr (fun h1 hr=>?_) fun h1 hr=>?_
 ·refine AW.cT rfl (dT h1) ?_
  refine AW.seq (AW.regL ?_)
  iterate 2 refine V rfl ?_
  refine AL.nil ?_
  refine AW.ret ?_
  cases hr
  exact endA.renK [] 0 hS
 ·refine AW.cF rfl (dF h1) ?_
  refine AW.skip ?_
  refine AW.seq (AW.regL ?_)
  iterate 2 refine V rfl ?_
  refine AL.nil ?_
  refine AW.ret ?_
  cases hr
  exact endA.renK [] 0 hS
def q6C (a0:Int):Option Int:=
 (q9I 1000000 a0).bind fun y1=>
 (q6X (-1000000) y1).bind fun y2=>
 some y2
theorem z5g {a0:Int}{r:Int}(hr:q6C a0=some r):Ok Tryz.prog 150 [.d .fz (.i .i64 a0)] [] (.d .fz (.i .i64 r)) []:=by
 refine Ok.enter rfl Tryz.func150 rfl rfl rfl fun S hS=>?_
 unfold q6C at hr
 refine AW.seq (AW.regL ?_)
 refine V rfl ?_
 refine AL.nil ?_
 refine AW.seq (AW.regL ?_)
 refine V rfl ?_
 refine bdE hr fun y1 hy1 hr=>?_
 refine CB [] [] (z9O hy1) ?_
 refine bdE hr fun y2 hy2 hr=>?_
 refine CB [] [] (z1J hy2) ?_
 refine V rfl ?_
 refine AL.nil ?_
 refine AW.ret ?_
 cases hr
 exact endA.renK [] 0 hS
def q7r (a0:Bool):Option Int:=
 if a0=true then (
 some 1
 ) else (
 some 0
 )
theorem z6p {a0:Bool}{r:Int}(hr:q7r a0=some r):Ok Tryz.prog 151 [.d .fz (.b a0)] [] (.d .fz (.i .i64 r)) []:=by
 refine Ok.enter rfl Tryz.func151 rfl rfl rfl fun S hS=>?_
 unfold q7r at hr
 refine AW.seq (AW.regL ?_)
 refine V rfl ?_
 refine AL.nil ?_
 refine AW.seq (AW.seq (AW.regL ?_))
 refine V rfl ?_
 refine AL.nil ?_
 refine ifE hr (fun h1 hr=>?_) fun h1 hr=>?_
 ·refine AW.cT rfl h1 ?_
  refine AW.seq (AW.regL ?_)
  refine V rfl ?_
  refine AL.nil ?_
  refine AW.ret ?_
  cases hr
  exact endA.renK [] 0 hS
 ·refine AW.cF rfl (bF h1) ?_
  refine AW.skip ?_
  refine AW.seq (AW.regL ?_)
  refine V rfl ?_
  refine AL.nil ?_
  refine AW.ret ?_
  cases hr
  exact endA.renK [] 0 hS
def q8k (a0:Int)(a1:Int):Option Int:=
 if a1=1 then (
 (q6C a0).bind fun y1=>
 some y1
 ) else (
 if a1=2 then (
 some (z0g a0 4095)
 ) else (
 if a1=3 then (
 (q7r (!(decide (a0=0)))).bind fun y2=>
 some y2
 ) else (
 if a1=4 then (
 (q2g a0 0 999).bind fun y3=>
 if y3=true then (
 some a0
 ) else (
 some 0
 )
 ) else (
 some 0
 )
 )
 )
 )
theorem z8u {a0:Int}{a1:Int}{r:Int}(hr:q8k a0 a1=some r):Ok Tryz.prog 149 [.d .fz (.i .i64 a0),.d .fz (.i .i64 a1)] [] (.d .fz (.i .i64 r)) []:=by
 refine Ok.enter rfl Tryz.func149 rfl rfl rfl fun S hS=>?_
 unfold q8k at hr
 refine AW.seq (AW.regL ?_)
 refine V rfl ?_
 refine AL.nil ?_
 refine AW.seq (AW.seq (AW.regL ?_))
 refine V rfl ?_
 refine AL.nil ?_
 refine AW.block (AW.seq (AW.regL ?_))
 iterate 2 refine V rfl ?_
 refine AL.nil ?_
 refine ifE hr (fun h1 hr=>?_) fun h1 hr=>?_
 ·refine AW.cT rfl (dT h1) ?_
  refine AW.seq (AW.regL ?_)
  refine V rfl ?_
  refine bdE hr fun y1 hy1 hr=>?_
  refine CB [] [] (z5g hy1) ?_
  refine V rfl ?_
  refine AL.nil ?_
  refine AW.ret ?_
  cases hr
  exact endA.renK [] 0 hS
 ·refine AW.cF rfl (dF h1) ?_
  refine AW.seq (AW.regL ?_)
  iterate 2 refine V rfl ?_
  refine AL.nil ?_
  refine ifE hr (fun h2 hr=>?_) fun h2 hr=>?_
  ·refine AW.cT rfl (dT h2) ?_
   refine AW.seq (AW.regL ?_)
   refine V rfl ?_
   refine OB _ j1k ?_
   refine V rfl ?_
   refine AL.nil ?_
   refine AW.ret ?_
   cases hr
   exact endA.renK [] 0 hS
  ·refine AW.cF rfl (dF h2) ?_
   refine AW.seq (AW.regL ?_)
   iterate 2 refine V rfl ?_
   refine AL.nil ?_
   refine ifE hr (fun h3 hr=>?_) fun h3 hr=>?_
   ·refine AW.cT rfl (dT h3) ?_
    refine AW.seq (AW.regL ?_)
    iterate 2 refine V rfl ?_
    refine bdE hr fun y2 hy2 hr=>?_
    refine CB [] [] (z6p hy2) ?_
    refine V rfl ?_
    refine AL.nil ?_
    refine AW.ret ?_
    cases hr
    exact endA.renK [] 0 hS
   ·refine AW.cF rfl (dF h3) ?_
    refine AW.seq (AW.regL ?_)
    iterate 2 refine V rfl ?_
    refine AL.nil ?_
    refine ifE hr (fun h4 hr=>?_) fun h4 hr=>?_
    ·refine AW.cT rfl (dT h4) ?_
     refine AW.seq (AW.regL ?_)
     refine V rfl ?_
     refine bdE hr fun y3 hy3 hr=>?_
     refine CB [] [] (q2w hy3) ?_
     refine AL.nil ?_
     refine ifE hr (fun h5 hr=>?_) fun h5 hr=>?_
     ·refine AW.cT rfl h5 ?_
      refine AW.seq (AW.regL ?_)
      iterate 2 refine V rfl ?_
      refine AL.nil ?_
      refine AW.ret ?_
      cases hr
      exact endA.renK [] 0 hS
     ·refine AW.cF rfl (bF h5) ?_
      refine AW.skip ?_
      refine AW.seq (AW.regL ?_)
      refine V rfl ?_
      refine AL.nil ?_
      refine AW.ret ?_
      cases hr
      exact endA.renK [] 0 hS
    ·refine AW.cF rfl (dF h4) ?_
     refine AW.skip ?_
     refine AW.seq (AW.regL ?_)
     refine V rfl ?_
     refine AL.nil ?_
     refine AW.ret ?_
     cases hr
     exact endA.renK [] 0 hS
def q6D (a0:Int)(a1:Int):Option Bool:=
 (q2g a1 1 4).bind fun y1=>
 if y1=true then (
 (q8k a0 a1).bind fun y2=>
 some (decide (y2=a0))
 ) else (
 some false
 )
theorem z5h {a0:Int}{a1:Int}{r:Bool}(hr:q6D a0 a1=some r):Ok Tryz.prog 147 [.d .fz (.i .i64 a0),.d .fz (.i .i64 a1)] [] (.d .fz (.b r)) []:=by
 refine Ok.enter rfl Tryz.func147 rfl rfl rfl fun S hS=>?_
 unfold q6D at hr
 refine AW.seq (AW.regL ?_)
 refine V rfl ?_
 refine AL.nil ?_
 refine AW.seq (AW.regL ?_)
 refine V rfl ?_
 refine bdE hr fun y1 hy1 hr=>?_
 refine CB [] [] (q2w hy1) ?_
 refine ifE hr (fun h1 hr=>?_) fun h1 hr=>?_
 ·refine VT rfl h1 ?_
  iterate 2 refine V rfl ?_
  refine bdE hr fun y2 hy2 hr=>?_
  refine CB [] [] (z8u hy2) ?_
  iterate 4 refine V rfl ?_
  refine AL.nil ?_
  refine AW.ret ?_
  cases hr
  exact endA.renK [] 0 hS
 ·refine VF rfl (bF h1) ?_
  refine AL.off ?_
  refine AL.off ?_
  refine AL.off ?_
  refine AL.off ?_
  refine AL.off ?_
  iterate 2 refine V rfl ?_
  refine AL.nil ?_
  refine AW.ret ?_
  cases hr
  exact endA.renK [] 0 hS
def z1L (a0:ByteArray):Nat→Unit→Option (Unit ⊕ Bool):=fun k1 _=>
 (a0.data[k1]?).bind fun x1=>
 (
 if 97≤(x1.toNat:Int) then (
 some (decide ((x1.toNat:Int)≤122))
 ) else (
 some false
 )
 ).bind fun s1=>
 (
 if 48≤(x1.toNat:Int) then (
 some (decide ((x1.toNat:Int)≤57))
 ) else (
 some false
 )
 ).bind fun s2=>
 (
 if s1=true then (
 some false
 ) else (
 (
 if (k1:Int)=0 then (
 some (true,true)
 ) else (
 some (false,!s2)
 )
 ).bind fun (s4,s5)=>
 some s5
 )
 ).bind fun s3=>
 if s3=true then (
 some (.inr false)
 ) else (
 some (.inl ())
 )
def q8N (a0:ByteArray):Option Bool:=
 (findN (z1L a0) 0 a0.size ()).bind <| onr (fun r1=>some r1) fun _=>
 some (decide (0 < (a0.size:Int)))
theorem z6q {a0:ByteArray}{r:Bool}(hr:q8N a0=some r):Ok Tryz.prog 143 [.d .fz (.s a0)] [] (.d .fz (.b r)) []:=by
 refine Ok.enter rfl Tryz.func143 rfl rfl rfl fun S hS=>?_
 unfold q8N at hr
 refine AW.seq (AW.regL ?_)
 refine V rfl ?_
 refine AL.nil ?_
 refine AW.seq (AW.seq (AW.regL ?_))
 refine V rfl ?_
 refine AL.nil ?_
 refine AW.block ?_
 refine AW.rngS (.tmp 0 rfl) fun ht1=>?_
 have hl1:rngI .i64 (a0.size:Int):=j0Z ht1
 refine bdE hr fun q1 hqq1 hr=>?_
 refine AW.findN hqq1 0 (fun k1 _=>[(0,.d .fz (.s a0)),(3,.d .fz (.i .i64 (k1:Int)))]) (fun k1 _=>[]) (GH.renK hS [] 0) (fun k1 sk1 ok1 hr hltk1 hik1=>?_) fun sk1 ek1=>?_
 ·refine AW.seq (AW.seq (AW.regL ?_))
  iterate 2 refine V rfl ?_
  refine LS ?_
  refine V rfl ?_
  refine AL.nil ?_
  refine AW.cT rfl (dT (ltN hltk1)) ?_
  refine AW.skip ?_
  refine AW.seq (AW.block (AW.seq (AW.regL ?_)))
  iterate 2 refine V rfl ?_
  refine bdE hr fun x1 hx1 hr=>?_
  refine SI rfl rfl (Int.natCast_nonneg _) hx1 ?_
  refine V rfl ?_
  refine bdE hr fun s1 hqq2 hr=>?_
  refine AL.meet1 6 [(0,.d .fz (.s a0)),(3,.d .fz (.i .i64 (k1:Int))),(21,.d .fz (.b s1))] ?_ ?_
  ·replace hr:=hqq2
   refine ifE hr (fun h1 hr=>?_) fun h1 hr=>?_
   ·refine VT rfl (dT h1) ?_
    iterate 2 refine V rfl ?_
    refine SI rfl rfl (Int.natCast_nonneg _) hx1 ?_
    iterate 2 refine V rfl ?_
    refine AL.nil ?_
    cases hr
    exact q1r
   ·refine VF rfl (dF h1) ?_
    refine AL.off ?_
    refine AL.off ?_
    refine AL.off ?_
    refine AL.off ?_
    refine V rfl ?_
    refine AL.nil ?_
    cases hr
    exact q1r
  ·refine V rfl ?_
   refine AL.nil ?_
   refine AW.seq (AW.regL ?_)
   iterate 2 refine V rfl ?_
   refine SI rfl rfl (Int.natCast_nonneg _) hx1 ?_
   refine V rfl ?_
   refine bdE hr fun s2 hqq3 hr=>?_
   refine AL.meet1 6 [(0,.d .fz (.s a0)),(3,.d .fz (.i .i64 (k1:Int))),(4,.d .fz (.b s1)),(31,.d .fz (.b s2))] ?_ ?_
   ·replace hr:=hqq3
    refine ifE hr (fun h2 hr=>?_) fun h2 hr=>?_
    ·refine VT rfl (dT h2) ?_
     iterate 2 refine V rfl ?_
     refine SI rfl rfl (Int.natCast_nonneg _) hx1 ?_
     iterate 2 refine V rfl ?_
     refine AL.nil ?_
     cases hr
     exact q1r
    ·refine VF rfl (dF h2) ?_
     refine AL.off ?_
     refine AL.off ?_
     refine AL.off ?_
     refine AL.off ?_
     refine V rfl ?_
     refine AL.nil ?_
     cases hr
     exact q1r
   ·refine V rfl ?_
    refine AL.nil ?_
    refine AW.seq (AW.regL ?_)
    iterate 2 refine V rfl ?_
    refine bdE hr fun s3 hqq4 hr=>?_
    refine AL.meet1 8 [(0,.d .fz (.s a0)),(3,.d .fz (.i .i64 (k1:Int))),(41,.d .fz (.b s3))] ?_ ?_
    ·replace hr:=hqq4
     refine ifE hr (fun h3 hr=>?_) fun h3 hr=>?_
     ·refine VF rfl (bnF h3) ?_
      refine AL.off ?_
      refine AL.off ?_
      refine AL.off ?_
      refine AL.off ?_
      refine AL.off ?_
      refine AL.off ?_
      refine V rfl ?_
      refine AL.nil ?_
      cases hr
      exact q1r
     ·refine VT rfl (bnT h3) ?_
      iterate 2 refine V rfl ?_
      refine bdE hr fun q5 hqq5 hr=>?_
      obtain⟨s4,s5⟩:=q5
      refine AL.meet1 4 [(0,.d .fz (.s a0)),(3,.d .fz (.i .i64 (k1:Int))),(34,.d .fz (.b true)),(35,.d .fz (.i .i64 (k1:Int))),(36,.d .fz (.b (decide ((k1:Int)=0)))),(37,.d .fz (.b s4)),(40,.d .fz (.b s5))] ?_ ?_
      ·replace hr:=hqq5
       refine ifE hr (fun h4 hr=>?_) fun h4 hr=>?_
       ·refine VT rfl (dT h4) ?_
        refine AL.off ?_
        refine AL.off ?_
        refine V rfl ?_
        refine AL.nil ?_
        cases hr
        exact q1r
       ·refine VF rfl (dF h4) ?_
        iterate 3 refine V rfl ?_
        refine AL.nil ?_
        cases hr
        exact q1r
      ·refine V rfl ?_
       refine AL.nil ?_
       cases hr
       exact q1r
    ·refine AL.nil ?_
     refine ifE hr (fun h5 hr=>?_) fun h5 hr=>?_
     ·refine AW.cT rfl h5 ?_
      refine AW.seq (AW.regL ?_)
      refine V rfl ?_
      refine AL.nil ?_
      refine AW.ret ?_
      cases hr
      cases hik1 _ rfl
      rename_i hr
      cases hr
      exact endA.renK [] 0 hS
     ·refine AW.cF rfl (bF h5) ?_
      refine AW.skip ?_
      refine AW.regL ?_
      refine V rfl ?_
      refine OB _ (q2b (p:=k1) (q:=1) (q1o (ltN hltk1) hl1.2)) ?_
      refine V rfl ?_
      refine AL.nil ?_
      cases hr
      exact⟨_,rfl,GH.renK hS [] 0⟩
 ·subst ek1
  refine AW.seq (AW.seq (AW.regL ?_))
  iterate 2 refine V rfl ?_
  refine LS ?_
  refine V rfl ?_
  refine AL.nil ?_
  refine AW.cF rfl (dF geN) ?_
  refine AW.exit ?_
  refine AW.seq (AW.regL ?_)
  refine V rfl ?_
  refine LS ?_
  iterate 2 refine V rfl ?_
  refine AL.nil ?_
  refine AW.ret ?_
  cases hr
  exact endA.renK [] 0 hS
def q6m:Option (List ByteArray):=
 some [(⟨#[105,102]⟩:ByteArray),(⟨#[116,104,101,110]⟩:ByteArray),(⟨#[101,108,115,101]⟩:ByteArray),(⟨#[116,114,117,101]⟩:ByteArray),(⟨#[102,97,108,115,101]⟩:ByteArray),(⟨#[108,105,116]⟩:ByteArray),(⟨#[110,111,110,101]⟩:ByteArray),(⟨#[115,101,108,102]⟩:ByteArray),(⟨#[111,102]⟩:ByteArray),(⟨#[109,97,120]⟩:ByteArray),(⟨#[109,105,110]⟩:ByteArray),(⟨#[119,105,116,104]⟩:ByteArray),(⟨#[104,97,115]⟩:ByteArray)]
theorem z2v {r:(List ByteArray)}(hr:q6m=some r):Ok Tryz.prog 148 [] [] (.ref 0 none) [.row .fz 1 (r.map A.D.s)]:=by
 refine Ok.enter rfl Tryz.func148 rfl rfl rfl fun S hS=>?_
 unfold q6m at hr
 refine AW.seq (AW.regL ?_)
 refine V rfl ?_
 refine AL.nil ?_
 refine AW.seq (AW.regL ?_)
 refine LIR 0 (m:=.fz) (f:=A.D.s) (xs:=[(⟨#[105,102]⟩:ByteArray),(⟨#[116,104,101,110]⟩:ByteArray),(⟨#[101,108,115,101]⟩:ByteArray),(⟨#[116,114,117,101]⟩:ByteArray),(⟨#[102,97,108,115,101]⟩:ByteArray),(⟨#[108,105,116]⟩:ByteArray),(⟨#[110,111,110,101]⟩:ByteArray),(⟨#[115,101,108,102]⟩:ByteArray),(⟨#[111,102]⟩:ByteArray),(⟨#[109,97,120]⟩:ByteArray),(⟨#[109,105,110]⟩:ByteArray),(⟨#[119,105,116,104]⟩:ByteArray),(⟨#[104,97,115]⟩:ByteArray)]) ?_
 refine V rfl ?_
 refine AL.nil ?_
 refine AW.ret ?_
 cases hr
 exact endA.renK [(0,0)] 1 hS
def q9J (a1:ByteArray):Nat→ByteArray→Unit→Option (Unit ⊕ Bool):=fun k1 xk1 _=>
 if xk1=a1 then (
 some (.inr true)
 ) else (
 some (.inl ())
 )
def q5Q (a0:(List ByteArray))(a1:ByteArray):Option Bool:=
 (findL (q9J a1) 0 a0 ()).bind <| onr (fun r1=>some r1) fun _=>
 some false
theorem q9K {m:Md}{a0:(List ByteArray)}{a1:ByteArray}{r:Bool}(hr:q5Q a0 a1=some r):Ok Tryz.prog 110 [.d m (.sl 1 (a0.map A.D.s)),.d .fz (.s a1)] [] (.d .fz (.b r)) []:=by
 refine Ok.enter rfl Tryz.func110 rfl rfl rfl fun S hS=>?_
 unfold q5Q at hr
 refine AW.seq (AW.regL ?_)
 refine V rfl ?_
 refine AL.nil ?_
 refine AW.seq (AW.seq (AW.regL ?_))
 refine V rfl ?_
 refine AL.nil ?_
 refine AW.block ?_
 refine AW.len (.tmp 0 rfl) fun hl1=>?_
 refine bdE hr fun q1 hqq1 hr=>?_
 refine AW.findL hqq1 hl1 0 (fun k1 _=>[(0,.d m (.sl 1 (a0.map A.D.s))),(1,.d .fz (.s a1)),(5,.d .fz (.i .i64 (k1:Int)))]) (fun k1 _=>[]) (GH.renK hS [] 0) (fun k1 xk1 sk1 ok1 hxk1 hr hltk1 hik1=>?_) fun k1 sk1 ek1 hltk1=>?_
 ·refine AW.seq (AW.seq (AW.regL ?_))
  iterate 2 refine V rfl ?_
  refine LF ?_
  refine V rfl ?_
  refine AL.nil ?_
  refine AW.cT rfl (dT hltk1) ?_
  refine AW.skip ?_
  refine AW.seq (AW.block (AW.seq (AW.regL ?_)))
  iterate 2 refine V rfl ?_
  refine IF (Int.natCast_nonneg _) hxk1 ?_
  iterate 3 refine V rfl ?_
  refine AL.nil ?_
  refine ifE hr (fun h1 hr=>?_) fun h1 hr=>?_
  ·refine AW.cT rfl (dT h1) ?_
   refine AW.seq (AW.regL ?_)
   refine V rfl ?_
   refine AL.nil ?_
   refine AW.ret ?_
   cases hr
   cases hik1 _ rfl
   rename_i hr
   cases hr
   exact endA.renK [] 0 hS
  ·refine AW.cF rfl (dF h1) ?_
   refine AW.skip ?_
   refine AW.regL ?_
   refine V rfl ?_
   refine OB _ (q2b (p:=k1) (q:=1) (q1o hltk1 hl1)) ?_
   refine V rfl ?_
   refine AL.nil ?_
   cases hr
   exact⟨_,rfl,GH.renK hS [] 0⟩
 ·subst ek1
  refine AW.seq (AW.seq (AW.regL ?_))
  iterate 2 refine V rfl ?_
  refine LF ?_
  refine V rfl ?_
  refine AL.nil ?_
  refine AW.cF rfl (dF hltk1) ?_
  refine AW.exit ?_
  refine AW.seq (AW.regL ?_)
  refine V rfl ?_
  refine AL.nil ?_
  refine AW.ret ?_
  cases hr
  exact endA.renK [] 0 hS
def q5i (a0:ByteArray):Option Bool:=
 (q6m).bind fun y1=>
 (q5Q y1 a0).bind fun y2=>
 some y2
theorem z2w {a0:ByteArray}{r:Bool}(hr:q5i a0=some r):Ok Tryz.prog 144 [.d .fz (.s a0)] [] (.d .fz (.b r)) []:=by
 refine Ok.enter rfl Tryz.func144 rfl rfl rfl fun S hS=>?_
 unfold q5i at hr
 refine AW.seq (AW.regL ?_)
 refine V rfl ?_
 refine AL.nil ?_
 refine AW.seq (AW.regL ?_)
 refine bdE hr fun y1 hy1 hr=>?_
 refine CB [(0,0)] [] (z2v hy1) ?_
 refine V rfl ?_
 refine bdE hr fun y2 hy2 hr=>?_
 refine CB [] [0] (q9K (m:=.bo) hy2) ?_
 refine V rfl ?_
 refine AL.nil ?_
 refine AW.ret ?_
 cases hr
 exact endA.renK [] 0 hS
def q1I (a0:ByteArray):Option Bool:=
 (q8N a0).bind fun y1=>
 (
 if y1=true then (
 some (decide ((a0.size:Int)≤8))
 ) else (
 some false
 )
 ).bind fun s1=>
 (
 if s1=true then (
 (q5i a0).bind fun y2=>
 some (!y2)
 ) else (
 some false
 )
 ).bind fun s2=>
 some s2
theorem q1Y {a0:ByteArray}{r:Bool}(hr:q1I a0=some r):Ok Tryz.prog 134 [.d .fz (.s a0)] [] (.d .fz (.b r)) []:=by
 refine Ok.enter rfl Tryz.func134 rfl rfl rfl fun S hS=>?_
 unfold q1I at hr
 refine AW.seq (AW.regL ?_)
 refine V rfl ?_
 refine AL.nil ?_
 refine AW.seq (AW.regL ?_)
 refine V rfl ?_
 refine bdE hr fun y1 hy1 hr=>?_
 refine CB [] [] (z6q hy1) ?_
 refine bdE hr fun s1 hqq1 hr=>?_
 refine AL.meet1 5 [(0,.d .fz (.s a0)),(2,.d .fz (.b false)),(9,.d .fz (.b s1))] ?_ ?_
 ·replace hr:=hqq1
  refine ifE hr (fun h1 hr=>?_) fun h1 hr=>?_
  ·refine VT rfl h1 ?_
   refine V rfl ?_
   refine LS ?_
   iterate 2 refine V rfl ?_
   refine AL.nil ?_
   cases hr
   exact q1r
  ·refine VF rfl (bF h1) ?_
   refine AL.off ?_
   refine AL.off ?_
   refine AL.off ?_
   refine V rfl ?_
   refine AL.nil ?_
   cases hr
   exact q1r
 ·refine bdE hr fun s2 hqq2 hr=>?_
  refine AL.meet1 5 [(2,.d .fz (.b false)),(14,.d .fz (.b s2))] ?_ ?_
  ·replace hr:=hqq2
   refine ifE hr (fun h2 hr=>?_) fun h2 hr=>?_
   ·refine VT rfl h2 ?_
    refine V rfl ?_
    refine bdE hr fun y2 hy2 hr=>?_
    refine CB [] [] (z2w hy2) ?_
    iterate 2 refine V rfl ?_
    refine AL.nil ?_
    cases hr
    exact q1r
   ·refine VF rfl (bF h2) ?_
    refine AL.off ?_
    refine AL.off ?_
    refine AL.off ?_
    refine V rfl ?_
    refine AL.nil ?_
    cases hr
    exact q1r
  ·refine V rfl ?_
   refine AL.nil ?_
   refine AW.ret ?_
   cases hr
   exact endA.renK [] 0 hS
def q8l (a0:Expr):Option Bool:=
 (q2g a0.Kind 1 8).bind fun y1=>
 (
 if y1=true then (
 (q8j a0).bind fun y2=>
 some (!y2)
 ) else (
 some true
 )
 ).bind fun s1=>
 if s1=true then (
 some false
 ) else (
 if a0.Kind=1 then (
 (q2g a0.Type_ 1 3).bind fun y3=>
 (
 if y3=true then (
 (q6D a0.N a0.Type_).bind fun y4=>
 some y4
 ) else (
 some false
 )
 ).bind fun s2=>
 (
 if s2=true then (
 some (decide (0≤a0.N))
 ) else (
 some false
 )
 ).bind fun s3=>
 some s3
 ) else (
 if a0.Kind=3 then (
 (q2g a0.Pos 0 3).bind fun y5=>
 (
 if y5=true then (
 (q1I a0.Name).bind fun y6=>
 some y6
 ) else (
 some false
 )
 ).bind fun s4=>
 some s4
 ) else (
 if a0.Kind=6 then (
 (q2g a0.Pos 0 3).bind fun y7=>
 some y7
 ) else (
 if a0.Kind=4 then (
 (q2g a0.N 1 12).bind fun y8=>
 some y8
 ) else (
 if a0.Kind=8 then (
 (q1I a0.Symbol).bind fun y9=>
 (
 if y9=true then (
 (q1I a0.Name).bind fun y10=>
 some y10
 ) else (
 some false
 )
 ).bind fun s5=>
 some s5
 ) else (
 some true
 )
 )
 )
 )
 )
 )
theorem z8v {m:Md}{a0:Expr}{r:Bool}(hr:q8l a0=some r):Ok Tryz.prog 141 [Expr.x m a0] [] (.d .fz (.b r)) []:=by
 refine Ok.enter rfl Tryz.func141 rfl rfl rfl fun S hS=>?_
 unfold q8l at hr
 refine AW.seq (AW.regL ?_)
 refine BX 0 ?_
 refine V rfl ?_
 refine AL.nil ?_
 refine AW.seq (AW.seq (AW.regL ?_))
 iterate 2 refine V rfl ?_
 refine bdE hr fun y1 hy1 hr=>?_
 refine CB [] [] (q2w hy1) ?_
 refine V rfl ?_
 refine bdE hr fun s1 hqq1 hr=>?_
 refine AL.meet1 5 [(1,.pb 0 0),(11,.d .fz (.b s1))] ?_ ?_
 ·replace hr:=hqq1
  refine ifE hr (fun h1 hr=>?_) fun h1 hr=>?_
  ·refine VF rfl (bnF h1) ?_
   refine V rfl ?_
   refine bdE hr fun y2 hy2 hr=>?_
   refine CB [] [] (z8t (m:=m) hy2) ?_
   iterate 2 refine V rfl ?_
   refine AL.nil ?_
   cases hr
   exact q1r
  ·refine VT rfl (bnT h1) ?_
   refine AL.off ?_
   refine AL.off ?_
   refine AL.off ?_
   refine V rfl ?_
   refine AL.nil ?_
   cases hr
   exact q1r
 ·refine AL.nil ?_
  refine ifE hr (fun h2 hr=>?_) fun h2 hr=>?_
  ·refine AW.cT rfl h2 ?_
   refine AW.seq (AW.regL ?_)
   refine V rfl ?_
   refine AL.nil ?_
   refine AW.ret ?_
   cases hr
   exact endA.renK [] 0 hS
  ·refine AW.cF rfl (bF h2) ?_
   refine AW.skip ?_
   refine AW.seq (AW.seq (AW.regL ?_))
   iterate 2 refine V rfl ?_
   refine AL.nil ?_
   refine AW.block (AW.seq (AW.regL ?_))
   iterate 2 refine V rfl ?_
   refine AL.nil ?_
   refine ifE hr (fun h3 hr=>?_) fun h3 hr=>?_
   ·refine AW.cT rfl (dT h3) ?_
    refine AW.seq (AW.regL ?_)
    iterate 2 refine V rfl ?_
    refine bdE hr fun y3 hy3 hr=>?_
    refine CB [] [] (q2w hy3) ?_
    refine bdE hr fun s2 hqq2 hr=>?_
    refine AL.meet1 7 [(1,.pb 0 0),(25,.d .fz (.b s2))] ?_ ?_
    ·replace hr:=hqq2
     refine ifE hr (fun h4 hr=>?_) fun h4 hr=>?_
     ·refine VT rfl h4 ?_
      iterate 4 refine V rfl ?_
      refine bdE hr fun y4 hy4 hr=>?_
      refine CB [] [] (z5h hy4) ?_
      refine V rfl ?_
      refine AL.nil ?_
      cases hr
      exact q1r
     ·refine VF rfl (bF h4) ?_
      refine AL.off ?_
      refine AL.off ?_
      refine AL.off ?_
      refine AL.off ?_
      refine AL.off ?_
      refine V rfl ?_
      refine AL.nil ?_
      cases hr
      exact q1r
    ·refine bdE hr fun s3 hqq3 hr=>?_
     refine AL.meet1 5 [(30,.d .fz (.b s3))] ?_ ?_
     ·replace hr:=hqq3
      refine ifE hr (fun h5 hr=>?_) fun h5 hr=>?_
      ·refine VT rfl h5 ?_
       iterate 4 refine V rfl ?_
       refine AL.nil ?_
       cases hr
       exact q1r
      ·refine VF rfl (bF h5) ?_
       refine AL.off ?_
       refine AL.off ?_
       refine AL.off ?_
       refine V rfl ?_
       refine AL.nil ?_
       cases hr
       exact q1r
     ·refine V rfl ?_
      refine AL.nil ?_
      refine AW.ret ?_
      cases hr
      exact endA.renK [] 0 hS
   ·refine AW.cF rfl (dF h3) ?_
    refine AW.seq (AW.regL ?_)
    iterate 2 refine V rfl ?_
    refine AL.nil ?_
    refine ifE hr (fun h6 hr=>?_) fun h6 hr=>?_
    ·refine AW.cT rfl (dT h6) ?_
     refine AW.seq (AW.regL ?_)
     iterate 2 refine V rfl ?_
     refine bdE hr fun y5 hy5 hr=>?_
     refine CB [] [] (q2w hy5) ?_
     refine bdE hr fun s4 hqq4 hr=>?_
     refine AL.meet1 5 [(40,.d .fz (.b s4))] ?_ ?_
     ·replace hr:=hqq4
      refine ifE hr (fun h7 hr=>?_) fun h7 hr=>?_
      ·refine VT rfl h7 ?_
       iterate 2 refine V rfl ?_
       refine bdE hr fun y6 hy6 hr=>?_
       refine CB [] [] (q1Y hy6) ?_
       refine V rfl ?_
       refine AL.nil ?_
       cases hr
       exact q1r
      ·refine VF rfl (bF h7) ?_
       refine AL.off ?_
       refine AL.off ?_
       refine AL.off ?_
       refine V rfl ?_
       refine AL.nil ?_
       cases hr
       exact q1r
     ·refine V rfl ?_
      refine AL.nil ?_
      refine AW.ret ?_
      cases hr
      exact endA.renK [] 0 hS
    ·refine AW.cF rfl (dF h6) ?_
     refine AW.seq (AW.regL ?_)
     iterate 2 refine V rfl ?_
     refine AL.nil ?_
     refine ifE hr (fun h8 hr=>?_) fun h8 hr=>?_
     ·refine AW.cT rfl (dT h8) ?_
      refine AW.seq (AW.regL ?_)
      iterate 2 refine V rfl ?_
      refine bdE hr fun y7 hy7 hr=>?_
      refine CB [] [] (q2w hy7) ?_
      refine V rfl ?_
      refine AL.nil ?_
      refine AW.ret ?_
      cases hr
      exact endA.renK [] 0 hS
     ·refine AW.cF rfl (dF h8) ?_
      refine AW.seq (AW.regL ?_)
      iterate 2 refine V rfl ?_
      refine AL.nil ?_
      refine ifE hr (fun h9 hr=>?_) fun h9 hr=>?_
      ·refine AW.cT rfl (dT h9) ?_
       refine AW.seq (AW.regL ?_)
       iterate 2 refine V rfl ?_
       refine bdE hr fun y8 hy8 hr=>?_
       refine CB [] [] (q2w hy8) ?_
       refine V rfl ?_
       refine AL.nil ?_
       refine AW.ret ?_
       cases hr
       exact endA.renK [] 0 hS
      ·refine AW.cF rfl (dF h9) ?_
       refine AW.seq (AW.regL ?_)
       iterate 2 refine V rfl ?_
       refine AL.nil ?_
       refine ifE hr (fun h10 hr=>?_) fun h10 hr=>?_
       ·refine AW.cT rfl (dT h10) ?_
        refine AW.seq (AW.regL ?_)
        iterate 2 refine V rfl ?_
        refine bdE hr fun y9 hy9 hr=>?_
        refine CB [] [] (q1Y hy9) ?_
        refine bdE hr fun s5 hqq5 hr=>?_
        refine AL.meet1 5 [(60,.d .fz (.b s5))] ?_ ?_
        ·replace hr:=hqq5
         refine ifE hr (fun h11 hr=>?_) fun h11 hr=>?_
         ·refine VT rfl h11 ?_
          iterate 2 refine V rfl ?_
          refine bdE hr fun y10 hy10 hr=>?_
          refine CB [] [] (q1Y hy10) ?_
          refine V rfl ?_
          refine AL.nil ?_
          cases hr
          exact q1r
         ·refine VF rfl (bF h11) ?_
          refine AL.off ?_
          refine AL.off ?_
          refine AL.off ?_
          refine V rfl ?_
          refine AL.nil ?_
          cases hr
          exact q1r
        ·refine V rfl ?_
         refine AL.nil ?_
         refine AW.ret ?_
         cases hr
         exact endA.renK [] 0 hS
       ·refine AW.cF rfl (dF h10) ?_
        refine AW.skip ?_
        refine AW.seq (AW.regL ?_)
        refine V rfl ?_
        refine AL.nil ?_
        refine AW.ret ?_
        cases hr
        exact endA.renK [] 0 hS
def z5i (rec_sl4All:Expr→Option Bool):Nat→Expr→Unit→Option (Unit ⊕ Bool):=fun k1 xk1 _=>
 (rec_sl4All xk1).bind fun y1=>
 if y1=true then (
 some (.inl ())
 ) else (
 some (.inr false)
 )
def q9L (rec_sl4All:Expr→Option Bool)(a0:Expr):Option Bool:=
 (findL (z5i rec_sl4All) 0 a0.Args ()).bind <| onr (fun r1=>some r1) fun _=>
 (q8l a0).bind fun y2=>
 some y2
theorem z8w {rec_sl4All:Expr→Option Bool}(ih_sl4All:∀ {m:Md} {a0:Expr} {r:Bool},rec_sl4All a0=some r→Ok Tryz.prog 126 [Expr.x m a0] [] (.d .fz (.b r)) []){m:Md}{a0:Expr}{r:Bool}(hr:q9L rec_sl4All a0=some r):Ok Tryz.prog 126 [Expr.x m a0] [] (.d .fz (.b r)) []:=by
 refine Ok.enter rfl Tryz.func126 rfl rfl rfl fun S hS=>?_
 unfold q9L at hr
 refine AW.seq (AW.regL ?_)
 refine BX 0 ?_
 refine V rfl ?_
 refine AL.nil ?_
 refine AW.seq (AW.seq (AW.regL ?_))
 refine V rfl ?_
 refine AL.nil ?_
 refine AW.block ?_
 refine AW.len (.ag 6 (.tmp 0 rfl) rfl) fun hl1=>?_
 refine bdE hr fun q1 hqq1 hr=>?_
 refine AW.findL hqq1 hl1 1 (fun k1 _=>[(1,.pb 0 0),(3,.d .fz (.i .i64 (k1:Int)))]) (fun k1 _=>[]) (GH.renK hS [(0,0)] 1) (fun k1 xk1 sk1 ok1 hxk1 hr hltk1 hik1=>?_) fun k1 sk1 ek1 hltk1=>?_
 ·refine AW.seq (AW.seq (AW.regL ?_))
  iterate 3 refine V rfl ?_
  refine LF ?_
  refine V rfl ?_
  refine AL.nil ?_
  refine AW.cT rfl (dT hltk1) ?_
  refine AW.skip ?_
  refine AW.seq (AW.block (AW.seq (AW.regL ?_)))
  iterate 3 refine V rfl ?_
  refine IFq (Int.natCast_nonneg _) hxk1 (Expr.D_cells xk1) ?_
  refine V rfl ?_
  refine bdE hr fun y1 hy1 hr=>?_
  refine CB [] [] (ih_sl4All (m:=m) hy1) ?_
  refine V rfl ?_
  refine AL.nil ?_
  refine ifE hr (fun h1 hr=>?_) fun h1 hr=>?_
  ·refine AW.cF rfl (bnF h1) ?_
   refine AW.skip ?_
   refine AW.regL ?_
   refine V rfl ?_
   refine OB _ (q2b (p:=k1) (q:=1) (q1o hltk1 hl1)) ?_
   refine V rfl ?_
   refine AL.nil ?_
   cases hr
   exact⟨_,rfl,GH.renK hS [(0,0)] 1⟩
  ·refine AW.cT rfl (bnT h1) ?_
   refine AW.seq (AW.regL ?_)
   refine V rfl ?_
   refine AL.nil ?_
   refine AW.ret ?_
   cases hr
   cases hik1 _ rfl
   rename_i hr
   cases hr
   exact endA.renK [] 0 hS
 ·subst ek1
  refine AW.seq (AW.seq (AW.regL ?_))
  iterate 3 refine V rfl ?_
  refine LF ?_
  refine V rfl ?_
  refine AL.nil ?_
  refine AW.cF rfl (dF hltk1) ?_
  refine AW.exit ?_
  refine AW.seq (AW.regL ?_)
  refine V rfl ?_
  refine bdE hr fun y2 hy2 hr=>?_
  refine CB [] [] (z8v (m:=m) hy2) ?_
  refine V rfl ?_
  refine AL.nil ?_
  refine AW.ret ?_
  cases hr
  exact endA.renK [] 0 hS
def q9M:Nat→Expr→Option Bool
  | 0,_=>none
  | n+1,a0=>q9L (q9M n) a0
def z3O (a0:Expr):Option Bool:=recO fun n=>q9M n a0
theorem z8x (n:Nat):∀ {m:Md} {a0:Expr} {r:Bool},q9M n a0=some r→Ok Tryz.prog 126 [Expr.x m a0] [] (.d .fz (.b r)) []:=by
  induction n with
  | zero=>intro _ _ r hr; exact nomatch (show (none:Option Bool)=some r from hr)
  | succ n ih=>intro _ _ r hr; exact z8w ih hr
theorem z9P {m:Md}{a0:Expr}{r:Bool}(hr:z3O a0=some r):Ok Tryz.prog 126 [Expr.x m a0] [] (.d .fz (.b r)) []:=by
  obtain⟨n,hn⟩:=q4v hr
  exact z8x n hn
def q3L (a0:Expr):Option Bool:=
 (z1I a0 24).bind fun y1=>
 (
 if 0≤y1 then (
 (q7f a0).bind fun y2=>
 some (decide (y2≤6))
 ) else (
 some false
 )
 ).bind fun s1=>
 (
 if s1=true then (
 (z3O a0).bind fun y3=>
 some y3
 ) else (
 some false
 )
 ).bind fun s2=>
 some s2
theorem q6E {m:Md}{a0:Expr}{r:Bool}(hr:q3L a0=some r):Ok Tryz.prog 90 [Expr.x m a0] [] (.d .fz (.b r)) []:=by
 refine Ok.enter rfl Tryz.func90 rfl rfl rfl fun S hS=>?_
 unfold q3L at hr
 refine AW.seq (AW.regL ?_)
 refine BX 0 ?_
 refine V rfl ?_
 refine AL.nil ?_
 refine AW.seq (AW.regL ?_)
 refine V rfl ?_
 refine bdE hr fun y1 hy1 hr=>?_
 refine CB [] [] (z8s (m:=m) hy1) ?_
 refine V rfl ?_
 refine bdE hr fun s1 hqq1 hr=>?_
 refine AL.meet1 5 [(1,.pb 0 0),(2,.d .fz (.b false)),(10,.d .fz (.b s1))] ?_ ?_
 ·replace hr:=hqq1
  refine ifE hr (fun h1 hr=>?_) fun h1 hr=>?_
  ·refine VT rfl (dT h1) ?_
   refine V rfl ?_
   refine bdE hr fun y2 hy2 hr=>?_
   refine CB [] [] (z1K (m:=m) hy2) ?_
   iterate 2 refine V rfl ?_
   refine AL.nil ?_
   cases hr
   exact q1r
  ·refine VF rfl (dF h1) ?_
   refine AL.off ?_
   refine AL.off ?_
   refine AL.off ?_
   refine V rfl ?_
   refine AL.nil ?_
   cases hr
   exact q1r
 ·refine bdE hr fun s2 hqq2 hr=>?_
  refine AL.meet1 4 [(2,.d .fz (.b false)),(14,.d .fz (.b s2))] ?_ ?_
  ·replace hr:=hqq2
   refine ifE hr (fun h2 hr=>?_) fun h2 hr=>?_
   ·refine VT rfl h2 ?_
    refine V rfl ?_
    refine bdE hr fun y3 hy3 hr=>?_
    refine CB [] [] (z9P (m:=m) hy3) ?_
    refine V rfl ?_
    refine AL.nil ?_
    cases hr
    exact q1r
   ·refine VF rfl (bF h2) ?_
    refine AL.off ?_
    refine AL.off ?_
    refine V rfl ?_
    refine AL.nil ?_
    cases hr
    exact q1r
  ·refine V rfl ?_
   refine AL.nil ?_
   refine AW.ret ?_
   cases hr
   exact endA.renK [] 0 hS
def z1M (a1:Grammar)(a2:Rule)(a3:Bool)(o0:l1Cur):Nat→Occurrence→(Int × Int × (List Equation))→Option (Int × Int × (List Equation)):=fun k1 xk1 (s2,s3,s1)=>
 (
 (q1X (⟨a2.Name,a2.Left,a2.Right,a2.Literal,s1,a2.Contributions⟩:Rule) xk1.Pos).bind fun y2=>
 (q1U a1 y2).bind fun (y3,y4)=>
 (q2j y3 xk1.Name).bind fun (y5,y6)=>
 (q1p 3 (⟨o0.b,s2,s3⟩:l1Cur)).bind fun (y7,z1)=>
 grd (I64 (1+y7)) <|
 (z0j a1 (⟨a2.Name,a2.Left,a2.Right,a2.Literal,s1,a2.Contributions⟩:Rule) y5.Type_ (1+y7) a3 (⟨o0.b,z1.i,z1.h⟩:l1Cur)).bind fun (y8,z2)=>
 (q3L y8).bind fun y9=>
 if y9=true then (
 grd (((s1.length:Int)+1)*112≤140737488355328∧(s1.length:Int)+1≤9223372036854775807) <|
 some (z2.i,z2.h,(s1++[(⟨xk1,y8⟩:Equation)]))
 ) else (
 (q3G y5.Type_ [] (⟨o0.b,z2.i,z2.h⟩:l1Cur)).bind fun (y10,z3)=>
 grd (((s1.length:Int)+1)*112≤140737488355328∧(s1.length:Int)+1≤9223372036854775807) <|
 some (z3.i,z3.h,(s1++[(⟨xk1,y10⟩:Equation)]))
 )
 ).bind fun (s5,s6,s4)=>
 some (s5,s6,s4)
def q7s (a1:Grammar)(a2:Rule)(a3:Bool)(o0:l1Cur):Option (Rule × l1Cur):=
 (q1T a1 a2).bind fun y1=>
 (eachL (z1M a1 a2 a3 o0) 0 y1 (o0.i,o0.h,a2.Equations)).bind fun (s2,s3,s1)=>
 some ((⟨a2.Name,a2.Left,a2.Right,a2.Literal,s1,a2.Contributions⟩:Rule),(⟨o0.b,s2,s3⟩:l1Cur))
theorem z6r {m:Md}{m2:Md}{a1:Grammar}{a2:Rule}{a3:Bool}{o0:l1Cur}{r:(Rule × l1Cur)}(hr:q7s a1 a2 a3 o0=some r):Ok Tryz.prog 87 [.pb 0 0,Grammar.y m a1,.ag [.d .fz (.s a2.Name),.d .fz (.s a2.Left),.ref 1 none,.d .fz (.b a2.Literal),.ref 2 none,.ref 3 none],.d .fz (.b a3)] [.box [.d .fz (.sl 1 (o0.b.map byD)),.d .fz (.i .i64 o0.i),.d .fz (.i .i64 o0.h)],.row .fz 1 (a2.Right.map A.D.s),.row m2 9 (a2.Equations.map Equation.D),.row m2 16 (a2.Contributions.map Contribution.D)] (.ag [.d .fz (.s r.1.Name),.d .fz (.s r.1.Left),.ref 1 none,.d .fz (.b r.1.Literal),.ref 4 none,.ref 3 none]) [.box [.d .fz (.sl 1 (o0.b.map byD)),.d .fz (.i .i64 r.2.i),.d .fz (.i .i64 r.2.h)],.row .fz 1 (r.1.Right.map A.D.s),.dead,.row m2 16 (r.1.Contributions.map Contribution.D),.row m2 9 (r.1.Equations.map Equation.D)]:=by
 refine Ok.enter rfl Tryz.func87 rfl rfl rfl fun S hS=>?_
 unfold q7s at hr
 refine AW.seq (AW.regL ?_)
 refine BX 4 ?_
 refine BX 5 ?_
 refine NV 6 ?_
 refine AL.nil ?_
 refine AW.seq (AW.regL ?_)
 iterate 2 refine V rfl ?_
 refine bdE hr fun y1 hy1 hr=>?_
 refine CB [(0,7)] [1,2,3] (q4f (m:=.bo) hy1) ?_
 refine V rfl ?_
 refine AL.nil ?_
 refine AW.seq (AW.seq (AW.regL ?_))
 refine V rfl ?_
 refine AL.nil ?_
 refine AW.block ?_
 refine AW.mv 2 8 rfl ?_
 refine AW.lenR 7 rfl fun hl1=>?_
 refine bdE hr fun q1 hqq1 hr=>?_
 obtain⟨s2,s3,s1⟩:=q1
 refine AW.eachL hqq1 hl1 9 (fun k1 (s2,s3,s1)=>[(0,.pb 0 0),(3,.d .fz (.b a3)),(5,.pb 4 0),(6,.pb 5 0),(8,.pb 6 0),(9,.ref 7 none),(10,.d .fz (.i .i64 (k1:Int)))]) (fun k1 (s2,s3,s1)=>[(0,.box [.d .fz (.sl 1 (o0.b.map byD)),.d .fz (.i .i64 s2),.d .fz (.i .i64 s3)]),(8,.row m2 9 (s1.map Equation.D))]) (GH.trans (GH.bw (q:=4) [.d m (.sl 2 (a1.Symbols.map Symbol.D)),.u] (.cons .rfl (.cons .u .nil)) rfl) (GH.renK hS [(0,0),(1,1),(2,2),(3,3),(4,4),(5,5),(6,6),(7,7),(8,8)] 9)) (fun k1 xk1 sk1 ok1 hxk1 hr hltk1=>?_) fun k1 hltk1=>?_
 ·obtain⟨s2,s3,s1⟩:=sk1
  refine AW.seq (AW.seq (AW.regL ?_))
  iterate 2 refine V rfl ?_
  refine LE ?_
  refine V rfl ?_
  refine AL.nil ?_
  refine AW.cT rfl (dT hltk1) ?_
  refine AW.skip ?_
  refine bdE hr fun q2 hqq2 hr=>?_
  obtain⟨s5,s6,s4⟩:=q2
  refine AW.seq (AW.cut1 10 [(0,.pb 0 0),(3,.d .fz (.b a3)),(5,.pb 4 0),(6,.pb 5 0),(8,.pb 6 0),(9,.ref 7 none),(10,.d .fz (.i .i64 (k1:Int)))] [(0,.box [.d .fz (.sl 1 (o0.b.map byD)),.d .fz (.i .i64 s5),.d .fz (.i .i64 s6)]),(5,.box [.d .fz (.s a2.Name),.d .fz (.s a2.Left),.ref 1 none,.d .fz (.b a2.Literal),.ref 9 none,.ref 3 none]),(8,.none),(9,.row m2 9 (s4.map Equation.D))] ?_ ?_)
  ·replace hr:=hqq2
   refine AW.block (AW.seq (AW.drawL (h:=?_)))
   iterate 4 refine V rfl ?_
   refine IE hxk1 (Int.natCast_nonneg _) ?_
   refine V rfl ?_
   refine LP hxk1 ?_
   refine bdE hr fun y2 hy2 hr=>?_
   refine CB [] [1,8,3] (q3F (m:=.bo) hy2) ?_
   refine bdE hr fun q3 hq3 hr=>?_
   obtain⟨y3,y4⟩:=q3
   refine CB [(0,9)] [] (q3m (m:=m) hq3) ?_
   iterate 3 refine V rfl ?_
   refine NV 10 ?_
   refine SB ?_
   refine V rfl ?_
   refine AL.nil ?_
   refine AW.seq (AW.drawL (h:=?_))
   iterate 3 refine V rfl ?_
   refine IE hxk1 (Int.natCast_nonneg _) ?_
   refine V rfl ?_
   refine LP hxk1 ?_
   refine bdE hr fun q4 hq4 hr=>?_
   obtain⟨y5,y6⟩:=q4
   refine CB [] [9] (q4D (m:=.bo) hq4) ?_
   iterate 3 refine V rfl ?_
   refine NV 11 ?_
   refine SB ?_
   refine V rfl ?_
   refine AL.nil ?_
   refine AW.seq (AW.drawL (h:=?_))
   iterate 6 refine V rfl ?_
   refine bdE hr fun q5 hq5 hr=>?_
   obtain⟨y7,z1⟩:=q5
   refine CB [(0,0)] [] (q1q hq5) ?_
   refine ggE hr fun g1 hr=>?_
   refine OB _ (bAdd g1) ?_
   refine V rfl ?_
   refine bdE hr fun q6 hq6 hr=>?_
   obtain⟨y8,z2⟩:=q6
   refine CB [(0,0),(1,12)] [1,8,3] (z6m (m:=.bo) hq6) ?_
   refine NV 13 ?_
   refine SB ?_
   refine AL.nil ?_
   refine AW.seq (AW.seq (AW.regL ?_))
   refine V rfl ?_
   refine bdE hr fun y9 hy9 hr=>?_
   refine CB [] [12] (q6E (m:=.bo) hy9) ?_
   refine V rfl ?_
   refine AL.nil ?_
   refine ifE hr (fun h1 hr=>?_) fun h1 hr=>?_
   ·refine AW.cF rfl (bnF h1) ?_
    refine AW.skip ?_
    refine AW.fz 12 rfl ?_
    refine AW.drawL (h:=?_)
    iterate 4 refine V rfl ?_
    refine IE hxk1 (Int.natCast_nonneg _) ?_
    refine LPa hxk1 ?_
    iterate 2 refine V rfl ?_
    refine LIR 14 (m:=.fz) (f:=Equation.D) (xs:=[(⟨xk1,y8⟩:Equation)]) ?_
    refine ggE hr fun g2 hr=>?_
    refine AP1 15 m2 112 g2 ?_
    refine V rfl ?_
    refine SB ?_
    refine AL.nil ?_
    cases hr
    exact GH.trans (GH.bw (q:=4) [.d m (.sl 2 (a1.Symbols.map Symbol.D)),.u] (.cons .rfl (.cons .u .nil)) rfl) (GH.renK hS [(0,0),(1,1),(2,2),(3,3),(4,4),(5,5),(6,6),(7,7),(15,9)] 10)
   ·refine AW.cT rfl (bnT h1) ?_
    refine AW.regL ?_
    iterate 3 refine V rfl ?_
    refine L0 14 Occurrence.D ?_
    refine bdE hr fun q7 hq7 hr=>?_
    obtain⟨y10,z3⟩:=q7
    refine CB [(0,0),(1,15)] [14] (q4E (m:=.bo) hq7) ?_
    refine SB ?_
    refine AL.nil ?_
    refine AW.fz 15 rfl ?_
    refine AW.drawL (h:=?_)
    iterate 4 refine V rfl ?_
    refine IE hxk1 (Int.natCast_nonneg _) ?_
    refine LPa hxk1 ?_
    iterate 2 refine V rfl ?_
    refine LIR 16 (m:=.fz) (f:=Equation.D) (xs:=[(⟨xk1,y10⟩:Equation)]) ?_
    refine ggE hr fun g3 hr=>?_
    refine AP1 17 m2 112 g3 ?_
    refine V rfl ?_
    refine SB ?_
    refine AL.nil ?_
    cases hr
    exact GH.trans (GH.bw (q:=4) [.d m (.sl 2 (a1.Symbols.map Symbol.D)),.u] (.cons .rfl (.cons .u .nil)) rfl) (GH.renK hS [(0,0),(1,1),(2,2),(3,3),(4,4),(5,5),(6,6),(7,7),(17,9)] 10)
  ·refine AW.regL ?_
   refine V rfl ?_
   refine OB _ (q2b (p:=k1) (q:=1) (q1o hltk1 hl1)) ?_
   refine V rfl ?_
   refine AL.nil ?_
   cases hr
   exact GH.trans (GH.bw (q:=4) [.d m (.sl 2 (a1.Symbols.map Symbol.D)),.u] (.cons .rfl (.cons .u .nil)) rfl) (GH.renK hS [(0,0),(1,1),(2,2),(3,3),(4,4),(5,5),(6,6),(7,7),(9,8)] 9)
 ·refine AW.seq (AW.seq (AW.regL ?_))
  iterate 2 refine V rfl ?_
  refine LE ?_
  refine V rfl ?_
  refine AL.nil ?_
  refine AW.cF rfl (dF hltk1) ?_
  refine AW.exit ?_
  refine AW.seq (AW.regL ?_)
  refine V rfl ?_
  refine SB ?_
  refine AL.nil ?_
  refine AW.ret ?_
  cases hr
  exact endA.renK [(0,0),(1,1),(2,2),(3,3),(8,4)] 5 hS
def z2X (a1:Grammar)(a2:Rule)(o0:l1Cur)(xk1:Symbol):Nat→Attribute→(Int × Int × (List Contribution))→Option (Int × Int × (List Contribution)):=fun k2 xk2 (s4,s5,s6)=>
 (
 (
 if xk2.Mode=3 then (
 some (decide ((s6.length:Int) < 2))
 ) else (
 some false
 )
 ).bind fun s10=>
 (
 if s10=true then (
 (q1L 3 (⟨o0.b,s4,s5⟩:l1Cur)).bind fun (y1,z1)=>
 some (!y1,z1.i,z1.h)
 ) else (
 some (false,s4,s5)
 )
 ).bind fun (s14,s15,s16)=>
 if s14=true then (
 (q5P a1 (⟨a2.Name,a2.Left,a2.Right,a2.Literal,a2.Equations,s6⟩:Rule) 4).bind fun y2=>
 (q3G 4 y2 (⟨o0.b,s15,s16⟩:l1Cur)).bind fun (y3,z2)=>
 (q5P a1 (⟨a2.Name,a2.Left,a2.Right,a2.Literal,a2.Equations,s6⟩:Rule) 2).bind fun y4=>
 (q3G 2 y4 (⟨o0.b,z2.i,z2.h⟩:l1Cur)).bind fun (y5,z3)=>
 grd (((s6.length:Int)+1)*208≤140737488355328∧(s6.length:Int)+1≤9223372036854775807) <|
 some (z3.i,z3.h,(s6++[(⟨xk1.Name,xk2.Name,y3,y5⟩:Contribution)]))
 ) else (
 some (s15,s16,s6)
 )
 ).bind fun (s8,s9,s7)=>
 some (s8,s9,s7)
def z2Y (a1:Grammar)(a2:Rule)(o0:l1Cur):Nat→Symbol→(Int × Int × (List Contribution))→Option (Int × Int × (List Contribution)):=fun k1 xk1 (s1,s2,s3)=>
 (eachL (z2X a1 a2 o0 xk1) 0 xk1.Attributes (s1,s2,s3)).bind fun (s4,s5,s6)=>
 some (s4,s5,s6)
def q8m (a1:Grammar)(a2:Rule)(o0:l1Cur):Option (Rule × l1Cur):=
 (eachL (z2Y a1 a2 o0) 0 a1.Symbols (o0.i,o0.h,a2.Contributions)).bind fun (s1,s2,s3)=>
 some ((⟨a2.Name,a2.Left,a2.Right,a2.Literal,a2.Equations,s3⟩:Rule),(⟨o0.b,s1,s2⟩:l1Cur))
theorem z8y {m:Md}{m2:Md}{a1:Grammar}{a2:Rule}{o0:l1Cur}{r:(Rule × l1Cur)}(hr:q8m a1 a2 o0=some r):Ok Tryz.prog 88 [.pb 0 0,Grammar.y m a1,.ag [.d .fz (.s a2.Name),.d .fz (.s a2.Left),.ref 1 none,.d .fz (.b a2.Literal),.ref 2 none,.ref 3 none]] [.box [.d .fz (.sl 1 (o0.b.map byD)),.d .fz (.i .i64 o0.i),.d .fz (.i .i64 o0.h)],.row .fz 1 (a2.Right.map A.D.s),.row m2 9 (a2.Equations.map Equation.D),.row m2 16 (a2.Contributions.map Contribution.D)] (.ag [.d .fz (.s r.1.Name),.d .fz (.s r.1.Left),.ref 1 none,.d .fz (.b r.1.Literal),.ref 2 none,.ref 4 none]) [.box [.d .fz (.sl 1 (o0.b.map byD)),.d .fz (.i .i64 r.2.i),.d .fz (.i .i64 r.2.h)],.row .fz 1 (r.1.Right.map A.D.s),.row m2 9 (r.1.Equations.map Equation.D),.dead,.row m2 16 (r.1.Contributions.map Contribution.D)]:=by
 refine Ok.enter rfl Tryz.func88 rfl rfl rfl fun S hS=>?_
 unfold q8m at hr
 refine AW.seq (AW.regL ?_)
 refine BX 4 ?_
 refine BX 5 ?_
 refine NV 6 ?_
 refine AL.nil ?_
 refine AW.seq (AW.seq (AW.regL ?_))
 refine V rfl ?_
 refine AL.nil ?_
 refine AW.block ?_
 refine AW.mv 3 7 rfl ?_
 refine AW.len (.ag 0 (.tmp 1 rfl) rfl) fun hl1=>?_
 refine bdE hr fun q1 hqq1 hr=>?_
 obtain⟨s1,s2,s3⟩:=q1
 refine AW.eachL hqq1 hl1 8 (fun k1 (s1,s2,s3)=>[(0,.pb 0 0),(4,.pb 4 0),(5,.pb 5 0),(6,.pb 6 0),(7,.d .fz (.i .i64 (k1:Int)))]) (fun k1 (s1,s2,s3)=>[(0,.box [.d .fz (.sl 1 (o0.b.map byD)),.d .fz (.i .i64 s1),.d .fz (.i .i64 s2)]),(7,.row m2 16 (s3.map Contribution.D))]) (GH.trans (GH.bw (q:=4) [.d m (.sl 2 (a1.Symbols.map Symbol.D)),.u] (.cons .rfl (.cons .u .nil)) rfl) (GH.renK hS [(0,0),(1,1),(2,2),(3,3),(4,4),(5,5),(6,6),(7,7)] 8)) (fun k1 xk1 sk1 ok1 hxk1 hr hltk1=>?_) fun k1 hltk1=>?_
 ·obtain⟨s1,s2,s3⟩:=sk1
  refine AW.seq (AW.seq (AW.regL ?_))
  iterate 3 refine V rfl ?_
  refine LF ?_
  refine V rfl ?_
  refine AL.nil ?_
  refine AW.cT rfl (dT hltk1) ?_
  refine AW.skip ?_
  refine AW.seq (AW.block (AW.seq (AW.regL ?_)))
  refine V rfl ?_
  refine AL.nil ?_
  refine AW.block ?_
  refine AW.len (.el 1 (.tmp 12 rfl) hxk1 rfl) fun hl2=>?_
  refine bdE hr fun q2 hqq2 hr=>?_
  obtain⟨s4,s5,s6⟩:=q2
  refine AW.eachL hqq2 hl2 8 (fun k2 (s4,s5,s6)=>[(0,.pb 0 0),(4,.pb 4 0),(5,.pb 5 0),(6,.pb 6 0),(7,.d .fz (.i .i64 (k1:Int))),(8,.d .fz (.i .i64 (k2:Int)))]) (fun k2 (s4,s5,s6)=>[(0,.box [.d .fz (.sl 1 (o0.b.map byD)),.d .fz (.i .i64 s4),.d .fz (.i .i64 s5)]),(7,.row m2 16 (s6.map Contribution.D))]) (GH.trans (GH.bw (q:=4) [.d m (.sl 2 (a1.Symbols.map Symbol.D)),.u] (.cons .rfl (.cons .u .nil)) rfl) (GH.renK hS [(0,0),(1,1),(2,2),(3,3),(4,4),(5,5),(6,6),(7,7)] 8)) (fun k2 xk2 sk2 ok2 hxk2 hr hltk2=>?_) fun k2 hltk2=>?_
  ·obtain⟨s4,s5,s6⟩:=sk2
   refine AW.seq (AW.seq (AW.regL ?_))
   iterate 4 refine V rfl ?_
   refine IF (Int.natCast_nonneg _) hxk1 ?_
   iterate 2 refine V rfl ?_
   refine LF ?_
   refine V rfl ?_
   refine AL.nil ?_
   refine AW.cT rfl (dT hltk2) ?_
   refine AW.skip ?_
   refine bdE hr fun q3 hqq3 hr=>?_
   obtain⟨s8,s9,s7⟩:=q3
   refine AW.seq (AW.cut1 8 [(0,.pb 0 0),(4,.pb 4 0),(5,.pb 5 0),(6,.pb 6 0),(7,.d .fz (.i .i64 (k1:Int))),(8,.d .fz (.i .i64 (k2:Int)))] [(0,.box [.d .fz (.sl 1 (o0.b.map byD)),.d .fz (.i .i64 s8),.d .fz (.i .i64 s9)]),(7,.row m2 16 (s7.map Contribution.D))] ?_ ?_)
   ·replace hr:=hqq3
    refine AW.block (AW.seq (AW.regL ?_))
    iterate 3 refine V rfl ?_
    refine IF (Int.natCast_nonneg _) hxk1 ?_
    iterate 3 refine V rfl ?_
    refine IF (Int.natCast_nonneg _) hxk2 ?_
    refine V rfl ?_
    refine NV 8 ?_
    refine SB ?_
    refine AL.nil ?_
    refine AW.seq (AW.regL ?_)
    iterate 3 refine V rfl ?_
    refine bdE hr fun s10 hqq4 hr=>?_
    refine AL.meet1 6 [(0,.pb 0 0),(4,.pb 4 0),(5,.pb 5 0),(6,.pb 6 0),(7,.d .fz (.i .i64 (k1:Int))),(8,.d .fz (.i .i64 (k2:Int))),(9,.pb 8 0),(45,.d .fz (.b s10))] ?_ ?_
    ·replace hr:=hqq4
     refine ifE hr (fun h1 hr=>?_) fun h1 hr=>?_
     ·refine VT rfl (dT h1) ?_
      iterate 2 refine V rfl ?_
      refine LE ?_
      iterate 2 refine V rfl ?_
      refine AL.nil ?_
      cases hr
      exact q1r
     ·refine VF rfl (dF h1) ?_
      refine AL.off ?_
      refine AL.off ?_
      refine AL.off ?_
      refine AL.off ?_
      refine V rfl ?_
      refine AL.nil ?_
      cases hr
      exact q1r
    ·refine bdE hr fun q5 hqq5 hr=>?_
     obtain⟨s14,s15,s16⟩:=q5
     refine AL.meet2 5 9 [(0,.pb 0 0),(4,.pb 4 0),(5,.pb 5 0),(6,.pb 6 0),(7,.d .fz (.i .i64 (k1:Int))),(8,.d .fz (.i .i64 (k2:Int))),(9,.pb 8 0),(50,.d .fz (.b s14))] [(0,.box [.d .fz (.sl 1 (o0.b.map byD)),.d .fz (.i .i64 s15),.d .fz (.i .i64 s16)])] ?_ ?_
     ·replace hr:=hqq5
      refine ifE hr (fun h2 hr=>?_) fun h2 hr=>?_
      ·refine VT rfl h2 ?_
       refine V rfl ?_
       refine bdE hr fun q6 hq6 hr=>?_
       obtain⟨y1,z1⟩:=q6
       refine CB [(0,0)] [] (q1W hq6) ?_
       iterate 2 refine V rfl ?_
       refine AL.nil ?_
       cases hr
       exact GH.trans (GH.bw (q:=4) [.d m (.sl 2 (a1.Symbols.map Symbol.D)),.u] (.cons .rfl (.cons .u .nil)) rfl) (GH.renK hS [(0,0),(1,1),(2,2),(3,3),(4,4),(5,5),(6,6),(7,7),(8,8)] 9)
      ·refine VF rfl (bF h2) ?_
       refine AL.off ?_
       refine AL.off ?_
       refine AL.off ?_
       refine V rfl ?_
       refine AL.nil ?_
       cases hr
       exact GH.trans (GH.bw (q:=4) [.d m (.sl 2 (a1.Symbols.map Symbol.D)),.u] (.cons .rfl (.cons .u .nil)) rfl) (GH.renK hS [(0,0),(1,1),(2,2),(3,3),(4,4),(5,5),(6,6),(7,7),(8,8)] 9)
     ·refine AL.nil ?_
      refine ifE hr (fun h3 hr=>?_) fun h3 hr=>?_
      ·refine AW.cT rfl h3 ?_
       refine AW.drawL (h:=?_)
       iterate 5 refine V rfl ?_
       refine IF (Int.natCast_nonneg _) hxk1 ?_
       iterate 7 refine V rfl ?_
       refine bdE hr fun y2 hy2 hr=>?_
       refine CB [(0,9)] [1,2,7] (q7q (m:=.bo) hy2) ?_
       refine bdE hr fun q7 hq7 hr=>?_
       obtain⟨y3,z2⟩:=q7
       refine CBz 10 [(0,0),(1,10)] [9] (q4E (m:=.bo) hq7) ?_
       iterate 3 refine V rfl ?_
       refine bdE hr fun y4 hy4 hr=>?_
       refine CB [(0,11)] [1,2,7] (q7q (m:=.bo) hy4) ?_
       refine bdE hr fun q8 hq8 hr=>?_
       obtain⟨y5,z3⟩:=q8
       refine CBz 12 [(0,0),(1,12)] [11] (q4E (m:=.bo) hq8) ?_
       refine V rfl ?_
       refine LIR 13 (m:=.fz) (f:=Contribution.D) (xs:=[(⟨xk1.Name,xk2.Name,y3,y5⟩:Contribution)]) ?_
       refine ggE hr fun g1 hr=>?_
       refine AP1 14 m2 208 g1 ?_
       refine V rfl ?_
       refine SB ?_
       refine AL.nil ?_
       cases hr
       exact GH.trans (GH.bw (q:=4) [.d m (.sl 2 (a1.Symbols.map Symbol.D)),.u] (.cons .rfl (.cons .u .nil)) rfl) (GH.renK hS [(0,0),(1,1),(2,2),(3,3),(4,4),(5,5),(6,6),(14,7)] 8)
      ·refine AW.cF rfl (bF h3) ?_
       refine AW.skip ?_
       cases hr
       exact GH.trans (GH.bw (q:=4) [.d m (.sl 2 (a1.Symbols.map Symbol.D)),.u] (.cons .rfl (.cons .u .nil)) rfl) (GH.renK hS [(0,0),(1,1),(2,2),(3,3),(4,4),(5,5),(6,6),(7,7)] 8)
   ·refine AW.regL ?_
    refine V rfl ?_
    refine OB _ (q2b (p:=k2) (q:=1) (q1o hltk2 hl2)) ?_
    refine V rfl ?_
    refine AL.nil ?_
    cases hr
    exact GH.trans (GH.bw (q:=4) [.d m (.sl 2 (a1.Symbols.map Symbol.D)),.u] (.cons .rfl (.cons .u .nil)) rfl) (GH.renK hS [(0,0),(1,1),(2,2),(3,3),(4,4),(5,5),(6,6),(7,7)] 8)
  ·refine AW.seq (AW.seq (AW.regL ?_))
   iterate 4 refine V rfl ?_
   refine IF (Int.natCast_nonneg _) hxk1 ?_
   iterate 2 refine V rfl ?_
   refine LF ?_
   refine V rfl ?_
   refine AL.nil ?_
   refine AW.cF rfl (dF hltk2) ?_
   refine AW.exit ?_
   refine AW.regL ?_
   refine V rfl ?_
   refine OB _ (q2b (p:=k1) (q:=1) (q1o hltk1 hl1)) ?_
   refine V rfl ?_
   refine AL.nil ?_
   cases hr
   exact GH.trans (GH.bw (q:=4) [.d m (.sl 2 (a1.Symbols.map Symbol.D)),.u] (.cons .rfl (.cons .u .nil)) rfl) (GH.renK hS [(0,0),(1,1),(2,2),(3,3),(4,4),(5,5),(6,6),(7,7)] 8)
 ·refine AW.seq (AW.seq (AW.regL ?_))
  iterate 3 refine V rfl ?_
  refine LF ?_
  refine V rfl ?_
  refine AL.nil ?_
  refine AW.cF rfl (dF hltk1) ?_
  refine AW.exit ?_
  refine AW.seq (AW.regL ?_)
  refine V rfl ?_
  refine SB ?_
  refine AL.nil ?_
  refine AW.ret ?_
  cases hr
  exact endA.renK [(0,0),(1,1),(2,2),(3,3),(7,4)] 5 hS
def z1N (a1:Bool)(o0:l1Cur)(y1:Int):Nat→(Int × Int × (List Symbol))→Option (Int × Int × (List Symbol)):=fun k1 (s2,s3,s1)=>
 (([(⟨#[115]⟩:ByteArray),(⟨#[116]⟩:ByteArray),(⟨#[117]⟩:ByteArray)].take ((1+y1).toNat))[k1]?).bind fun x1=>
 (q7p x1 (decide ((k1:Int)=0)) a1 (⟨o0.b,s2,s3⟩:l1Cur)).bind fun (y2,z2)=>
 grd (((s1.length:Int)+1)*40≤140737488355328∧(s1.length:Int)+1≤9223372036854775807) <|
 some (z2.i,z2.h,(s1++[y2]))
def z1O (o0:l1Cur)(y1:Int):Nat→(Int × Int × (List ByteArray))→Option (Int × Int × (List ByteArray)):=fun k4 (s11,s12,s10)=>
 (q3t ([(⟨#[115]⟩:ByteArray),(⟨#[116]⟩:ByteArray),(⟨#[117]⟩:ByteArray)].take ((1+y1).toNat)) (⟨o0.b,s11,s12⟩:l1Cur)).bind fun (y8,z7)=>
 grd (((s10.length:Int)+1)*16≤140737488355328∧(s10.length:Int)+1≤9223372036854775807) <|
 some (z7.i,z7.h,(s10++[y8]))
def z1P (o0:l1Cur)(y1:Int)(x2:ByteArray):Nat→(Int × Int × (List Rule))→Option (Int × Int × (List Rule)):=fun k3 (s8,s9,s7)=>
 grd ((⟨#[112]⟩:ByteArray).size+x2.size≤9223372036854775807) <|
 (q4V (k3:Int)).bind fun y5=>
 grd (((⟨#[112]⟩:ByteArray)++x2).size+y5.size≤9223372036854775807) <|
 (q1L 4 (⟨o0.b,s8,s9⟩:l1Cur)).bind fun (y6,z5)=>
 (q1p 3 (⟨o0.b,z5.i,z5.h⟩:l1Cur)).bind fun (y7,z6)=>
 grd (I64 (1+y7)) <|
 (eachN (z1O o0 y1) 0 (1+y7).toNat (z6.i,z6.h,([]:List ByteArray))).bind fun (s11,s12,s10)=>
 grd (((s7.length:Int)+1)*112≤140737488355328∧(s7.length:Int)+1≤9223372036854775807) <|
 some (s11,s12,(s7++[(⟨(((⟨#[112]⟩:ByteArray)++x2)++y5),x2,s10,y6,[],[]⟩:Rule)]))
def z1Q (o0:l1Cur)(y1:Int):Nat→(Int × Int × (List Rule))→Option (Int × Int × (List Rule)):=fun k2 (s5,s6,s4)=>
 (([(⟨#[115]⟩:ByteArray),(⟨#[116]⟩:ByteArray),(⟨#[117]⟩:ByteArray)].take ((1+y1).toNat))[k2]?).bind fun x2=>
 grd ((⟨#[108,101,97,102]⟩:ByteArray).size+x2.size≤9223372036854775807) <|
 (q1L 3 (⟨o0.b,s5,s6⟩:l1Cur)).bind fun (y3,z3)=>
 grd (((s4.length:Int)+1)*112≤140737488355328∧(s4.length:Int)+1≤9223372036854775807) <|
 (q1p 2 (⟨o0.b,z3.i,z3.h⟩:l1Cur)).bind fun (y4,z4)=>
 grd (I64 (1+y4)) <|
 (eachN (z1P o0 y1 x2) 0 (1+y4).toNat (z4.i,z4.h,(s4++[(⟨((⟨#[108,101,97,102]⟩:ByteArray)++x2),x2,[],!y3,[],[]⟩:Rule)]))).bind fun (s8,s9,s7)=>
 some (s8,s9,s7)
def q9i (a1:Bool)(o0:l1Cur)(s1:List Symbol):(Int × Int × Int × (List Rule))→Option ((Int × Int × Int × (List Rule)) ⊕ (Int × Int × (List Rule))):=fun (s17,s18,s19,s20)=>
 if s17 < (s20.length:Int) then (
 (
 grd (0≤s17) <|
 (s20[s17.toNat]?).bind fun x3=>
 (q7s (⟨s1,s20⟩:Grammar) x3 (!a1) (⟨o0.b,s18,s19⟩:l1Cur)).bind fun (y9,z8)=>
 if a1=true then (
 some (z8.i,z8.h,(List.set s20 s17.toNat y9))
 ) else (
 (q8m (⟨s1,s20⟩:Grammar) y9 (⟨o0.b,z8.i,z8.h⟩:l1Cur)).bind fun (y10,z9)=>
 some (z9.i,z9.h,(List.set s20 s17.toNat y10))
 )
 ).bind fun (s21,s22,s23)=>
 grd (I64 (s17+1)) <|
 some (.inl ((s17+1),s21,s22,s23))
 ) else (
 some (.inr (s18,s19,s20))
 )
def q7t (a1:Bool)(o0:l1Cur):Option (Grammar × l1Cur):=
 (q1p 3 o0).bind fun (y1,z1)=>
 grd (I64 (1+y1)) <|
 grd (0≤(1+y1)) <|
 grd ((1+y1).toNat≤[(⟨#[115]⟩:ByteArray),(⟨#[116]⟩:ByteArray),(⟨#[117]⟩:ByteArray)].length) <|
 (eachN (z1N a1 o0 y1) 0 (1+y1).toNat (z1.i,z1.h,([]:List Symbol))).bind fun (s2,s3,s1)=>
 (eachN (z1Q o0 y1) 0 (1+y1).toNat (s2,s3,([]:List Rule))).bind fun (s5,s6,s4)=>
 (
 if 8 < (s4.length:Int) then (
 grd (8≤s4.length) <|
 some (s4.take 8)
 ) else (
 some s4
 )
 ).bind fun s13=>
 (q2t (q9i a1 o0 s1) (0,s5,s6,s13)).bind fun (s14,s15,s16)=>
 some ((⟨s1,s16⟩:Grammar),(⟨o0.b,s14,s15⟩:l1Cur))
theorem z6s {a1:Bool}{o0:l1Cur}{r:(Grammar × l1Cur)}(hr:q7t a1 o0=some r):Ok Tryz.prog 61 [.pb 0 0,.d .fz (.b a1)] [.box [.d .fz (.sl 1 (o0.b.map byD)),.d .fz (.i .i64 o0.i),.d .fz (.i .i64 o0.h)]] (.ag [.ref 1 none,.ref 2 none]) [.box [.d .fz (.sl 1 (o0.b.map byD)),.d .fz (.i .i64 r.2.i),.d .fz (.i .i64 r.2.h)],.deep .fz 2 (r.1.Symbols.map Symbol.O) [],.deep .fz 6 (r.1.Rules.map Rule.O) []]:=by
 refine Ok.enter rfl Tryz.func61 rfl rfl rfl fun S hS=>?_
 unfold q7t at hr
 refine AW.seq (AW.regL ?_)
 refine NV 1 ?_
 refine AL.nil ?_
 refine AW.seq (AW.regL ?_)
 refine V rfl ?_
 refine NV 2 ?_
 refine SB ?_
 refine AL.nil ?_
 refine AW.seq (AW.regL ?_)
 refine V rfl ?_
 refine bdE hr fun q1 hq1 hr=>?_
 obtain⟨y1,z1⟩:=q1
 refine CB [(0,0)] [] (q1q hq1) ?_
 refine ggE hr fun g1 hr=>?_
 refine OB _ (bAdd g1) ?_
 refine V rfl ?_
 refine AL.nil ?_
 refine AW.seq (AW.regL ?_)
 refine LIR 3 (m:=.fz) (f:=A.D.s) (xs:=[(⟨#[115]⟩:ByteArray),(⟨#[116]⟩:ByteArray),(⟨#[117]⟩:ByteArray)]) ?_
 refine V rfl ?_
 refine ggE hr fun g2 hr=>?_
 refine ggE hr fun g3 hr=>?_
 refine CU 4 g2 g3 ?_
 refine V rfl ?_
 refine AL.nil ?_
 refine AW.seq (AW.seq (AW.regL ?_))
 refine V rfl ?_
 refine AL.nil ?_
 refine AW.block ?_
 refine AW.nlB 2 0 5 .fz 2 rfl rfl ?_
 refine AW.dp 5 Symbol.O ?_
 refine AW.rng (.tmp 6 rfl) fun hl1=>?_
 refine bdE hr fun q2 hqq2 hr=>?_
 obtain⟨s2,s3,s1⟩:=q2
 refine AW.eachN hqq2 6 (fun k1 (s2,s3,s1)=>[(0,.pb 0 0),(1,.d .fz (.b a1)),(4,.pb 1 0),(5,.pb 2 0),(6,.d .fz (.i .i64 (1+y1))),(7,.ref 4 none),(8,.d .fz (.i .i64 (k1:Int)))]) (fun k1 (s2,s3,s1)=>[(0,.box [.d .fz (.sl 1 (o0.b.map byD)),.d .fz (.i .i64 s2),.d .fz (.i .i64 s3)]),(3,.none),(5,.deep .fz 2 (s1.map Symbol.O) [])]) (GH.renK hS [(0,0),(1,1),(2,2),(4,4),(5,5)] 6) (fun k1 sk1 ok1 hr hltk1=>?_) ?_
 ·obtain⟨s2,s3,s1⟩:=sk1
  refine AW.seq (AW.seq (AW.regL ?_))
  iterate 3 refine V rfl ?_
  refine AL.nil ?_
  refine AW.cT rfl (dT (ltI hltk1)) ?_
  refine AW.skip ?_
  refine AW.seq (AW.block (AW.drawL (h:=?_)))
  iterate 5 refine V rfl ?_
  refine bdE hr fun x1 hx1 hr=>?_
  refine IE hx1 (Int.natCast_nonneg _) ?_
  refine LP hx1 ?_
  iterate 3 refine V rfl ?_
  refine bdE hr fun q3 hq3 hr=>?_
  obtain⟨y2,z2⟩:=q3
  refine CB [(0,0),(1,6)] [] (z2W hq3) ?_
  refine LID (f:=Symbol.O) 7 y2 [6] ?_
  refine ggE hr fun g4 hr=>?_
  refine APD1 8 40 g4 ?_
  refine V rfl ?_
  refine SB ?_
  refine AL.nil ?_
  refine AW.regL ?_
  refine V rfl ?_
  refine OB _ (q2b (p:=k1) (q:=1) (q1o (ltI hltk1) hl1.2)) ?_
  refine V rfl ?_
  refine AL.nil ?_
  cases hr
  exact GH.renK hS [(0,0),(1,1),(2,2),(4,4),(8,5)] 6
 ·refine AW.seq (AW.seq (AW.regL ?_))
  iterate 3 refine V rfl ?_
  refine AL.nil ?_
  refine AW.cF rfl (dF geI) ?_
  refine AW.exit ?_
  refine AW.seq (AW.seq (AW.regL ?_))
  refine V rfl ?_
  refine AL.nil ?_
  refine AW.block ?_
  refine AW.nlB 2 1 6 .fz 6 rfl rfl ?_
  refine AW.dp 6 Rule.O ?_
  refine AW.rng (.tmp 6 rfl) fun hl2=>?_
  refine bdE hr fun q4 hqq4 hr=>?_
  obtain⟨s5,s6,s4⟩:=q4
  refine AW.eachN hqq4 7 (fun k2 (s5,s6,s4)=>[(0,.pb 0 0),(1,.d .fz (.b a1)),(4,.pb 1 0),(5,.pb 2 0),(6,.d .fz (.i .i64 (1+y1))),(7,.ref 4 none),(9,.d .fz (.i .i64 (k2:Int)))]) (fun k2 (s5,s6,s4)=>[(0,.box [.d .fz (.sl 1 (o0.b.map byD)),.d .fz (.i .i64 s5),.d .fz (.i .i64 s6)]),(6,.deep .fz 6 (s4.map Rule.O) [])]) (GH.renK hS [(0,0),(1,1),(2,2),(4,4),(5,5),(6,6)] 7) (fun k2 sk2 ok2 hr hltk2=>?_) ?_
  ·obtain⟨s5,s6,s4⟩:=sk2
   refine AW.seq (AW.seq (AW.regL ?_))
   iterate 3 refine V rfl ?_
   refine AL.nil ?_
   refine AW.cT rfl (dT (ltI hltk2)) ?_
   refine AW.skip ?_
   refine AW.seq (AW.block (AW.seq (AW.drawL (h:=?_))))
   iterate 4 refine V rfl ?_
   refine bdE hr fun x2 hx2 hr=>?_
   refine IE hx2 (Int.natCast_nonneg _) ?_
   refine LP hx2 ?_
   refine ggE hr fun g5 hr=>?_
   refine OB _ (z8m g5) ?_
   iterate 2 refine V rfl ?_
   refine IE hx2 (Int.natCast_nonneg _) ?_
   refine LP hx2 ?_
   refine V rfl ?_
   refine bdE hr fun q5 hq5 hr=>?_
   obtain⟨y3,z3⟩:=q5
   refine CB [(0,0)] [] (q1W hq5) ?_
   iterate 2 refine V rfl ?_
   refine LID (f:=Rule.O) 7 (⟨((⟨#[108,101,97,102]⟩:ByteArray)++x2),x2,[],!y3,[],[]⟩:Rule) [] ?_
   refine ggE hr fun g6 hr=>?_
   refine APD1 8 112 g6 ?_
   refine V rfl ?_
   refine SB ?_
   refine AL.nil ?_
   refine AW.seq (AW.regL ?_)
   refine V rfl ?_
   refine bdE hr fun q6 hq6 hr=>?_
   obtain⟨y4,z4⟩:=q6
   refine CB [(0,0)] [] (q1q hq6) ?_
   refine ggE hr fun g7 hr=>?_
   refine OB _ (bAdd g7) ?_
   refine V rfl ?_
   refine AL.nil ?_
   refine AW.seq (AW.regL ?_)
   refine V rfl ?_
   refine AL.nil ?_
   refine AW.block ?_
   refine AW.rng (.tmp 10 rfl) fun hl3=>?_
   refine bdE hr fun q7 hqq7 hr=>?_
   obtain⟨s8,s9,s7⟩:=q7
   refine AW.eachN hqq7 9 (fun k3 (s8,s9,s7)=>[(0,.pb 0 0),(1,.d .fz (.b a1)),(4,.pb 1 0),(5,.pb 2 0),(6,.d .fz (.i .i64 (1+y1))),(7,.ref 4 none),(9,.d .fz (.i .i64 (k2:Int))),(10,.d .fz (.i .i64 (1+y4))),(11,.d .fz (.i .i64 (k3:Int)))]) (fun k3 (s8,s9,s7)=>[(0,.box [.d .fz (.sl 1 (o0.b.map byD)),.d .fz (.i .i64 s8),.d .fz (.i .i64 s9)]),(6,.none),(7,.none),(8,.deep .fz 6 (s7.map Rule.O) [])]) (GH.renK hS [(0,0),(1,1),(2,2),(4,4),(5,5),(8,8)] 9) (fun k3 sk3 ok3 hr hltk3=>?_) ?_
   ·obtain⟨s8,s9,s7⟩:=sk3
    refine AW.seq (AW.seq (AW.regL ?_))
    iterate 3 refine V rfl ?_
    refine AL.nil ?_
    refine AW.cT rfl (dT (ltI hltk3)) ?_
    refine AW.skip ?_
    refine AW.seq (AW.block (AW.seq (AW.drawL (h:=?_))))
    iterate 2 refine V rfl ?_
    refine IE hx2 (Int.natCast_nonneg _) ?_
    refine LP hx2 ?_
    refine ggE hr fun g8 hr=>?_
    refine OB _ (z8m g8) ?_
    refine V rfl ?_
    refine bdE hr fun y5 hy5 hr=>?_
    refine CB [] [] (z3M hy5) ?_
    refine ggE hr fun g9 hr=>?_
    refine OB _ (z8m g9) ?_
    iterate 2 refine V rfl ?_
    refine IE hx2 (Int.natCast_nonneg _) ?_
    refine LP hx2 ?_
    refine V rfl ?_
    refine bdE hr fun q8 hq8 hr=>?_
    obtain⟨y6,z5⟩:=q8
    refine CB [(0,0)] [] (q1W hq8) ?_
    refine V rfl ?_
    refine NV 9 ?_
    refine SB ?_
    refine AL.nil ?_
    refine AW.seq (AW.regL ?_)
    refine V rfl ?_
    refine bdE hr fun q9 hq9 hr=>?_
    obtain⟨y7,z6⟩:=q9
    refine CB [(0,0)] [] (q1q hq9) ?_
    refine ggE hr fun g10 hr=>?_
    refine OB _ (bAdd g10) ?_
    refine V rfl ?_
    refine AL.nil ?_
    refine AW.seq (AW.seq (AW.regL ?_))
    refine V rfl ?_
    refine AL.nil ?_
    refine AW.block ?_
    refine AW.nlB 9 2 10 .fz 1 rfl rfl ?_
    refine AW.rng (.tmp 13 rfl) fun hl4=>?_
    refine bdE hr fun q10 hqq10 hr=>?_
    obtain⟨s11,s12,s10⟩:=q10
    refine AW.eachN hqq10 11 (fun k4 (s11,s12,s10)=>[(0,.pb 0 0),(1,.d .fz (.b a1)),(4,.pb 1 0),(5,.pb 2 0),(6,.d .fz (.i .i64 (1+y1))),(7,.ref 4 none),(9,.d .fz (.i .i64 (k2:Int))),(10,.d .fz (.i .i64 (1+y4))),(11,.d .fz (.i .i64 (k3:Int))),(12,.pb 9 0),(13,.d .fz (.i .i64 (1+y7))),(14,.d .fz (.i .i64 (k4:Int)))]) (fun k4 (s11,s12,s10)=>[(0,.box [.d .fz (.sl 1 (o0.b.map byD)),.d .fz (.i .i64 s11),.d .fz (.i .i64 s12)]),(10,.row .fz 1 (s10.map A.D.s))]) (GH.renK hS [(0,0),(1,1),(2,2),(4,4),(5,5),(8,8),(9,9),(10,10)] 11) (fun k4 sk4 ok4 hr hltk4=>?_) ?_
    ·obtain⟨s11,s12,s10⟩:=sk4
     refine AW.seq (AW.seq (AW.regL ?_))
     iterate 3 refine V rfl ?_
     refine AL.nil ?_
     refine AW.cT rfl (dT (ltI hltk4)) ?_
     refine AW.skip ?_
     refine AW.seq (AW.block (AW.drawL (h:=?_)))
     iterate 4 refine V rfl ?_
     refine bdE hr fun q11 hq11 hr=>?_
     obtain⟨y8,z7⟩:=q11
     refine CB [(0,0)] [4] (q3Q (m:=.bo) hq11) ?_
     refine LIR 11 (m:=.fz) (f:=A.D.s) (xs:=[y8]) ?_
     refine ggE hr fun g11 hr=>?_
     refine APf1 (f:=A.D.s) 12 (fun _=>rfl) 16 g11 ?_
     refine V rfl ?_
     refine SB ?_
     refine AL.nil ?_
     refine AW.regL ?_
     refine V rfl ?_
     refine OB _ (q2b (p:=k4) (q:=1) (q1o (ltI hltk4) hl4.2)) ?_
     refine V rfl ?_
     refine AL.nil ?_
     cases hr
     exact GH.renK hS [(0,0),(1,1),(2,2),(4,4),(5,5),(8,8),(9,9),(12,10)] 11
    ·refine AW.seq (AW.seq (AW.regL ?_))
     iterate 3 refine V rfl ?_
     refine AL.nil ?_
     refine AW.cF rfl (dF geI) ?_
     refine AW.exit ?_
     refine AW.regL ?_
     iterate 3 refine V rfl ?_
     refine LID (f:=Rule.O) 11 (⟨(((⟨#[112]⟩:ByteArray)++x2)++y5),x2,s10,y6,[],[]⟩:Rule) [10] ?_
     refine ggE hr fun g12 hr=>?_
     refine APD1 12 112 g12 ?_
     refine V rfl ?_
     refine SB ?_
     refine AL.nil ?_
     refine AW.regL ?_
     refine V rfl ?_
     refine OB _ (q2b (p:=k3) (q:=1) (q1o (ltI hltk3) hl3.2)) ?_
     refine V rfl ?_
     refine AL.nil ?_
     cases hr
     exact GH.renK hS [(0,0),(1,1),(2,2),(4,4),(5,5),(12,8)] 9
   ·refine AW.seq (AW.seq (AW.regL ?_))
    iterate 3 refine V rfl ?_
    refine AL.nil ?_
    refine AW.cF rfl (dF geI) ?_
    refine AW.exit ?_
    refine AW.regL ?_
    refine V rfl ?_
    refine OB _ (q2b (p:=k2) (q:=1) (q1o (ltI hltk2) hl2.2)) ?_
    refine V rfl ?_
    refine AL.nil ?_
    cases hr
    exact GH.renK hS [(0,0),(1,1),(2,2),(4,4),(5,5),(8,6)] 7
  ·refine AW.seq (AW.seq (AW.regL ?_))
   iterate 3 refine V rfl ?_
   refine AL.nil ?_
   refine AW.cF rfl (dF geI) ?_
   refine AW.exit ?_
   refine AW.seq (AW.seq (AW.regL ?_))
   iterate 2 refine V rfl ?_
   refine LEd s4.length ?_
   refine V rfl ?_
   refine AL.nil ?_
   refine bdE hr fun s13 hqq12 hr=>?_
   refine AW.cut1 7 [(0,.pb 0 0),(1,.d .fz (.b a1)),(4,.pb 1 0),(5,.pb 2 0)] [(6,.deep .fz 6 (s13.map Rule.O) [])] ?_ ?_
   ·replace hr:=hqq12
    refine ifE hr (fun h1 hr=>?_) fun h1 hr=>?_
    ·refine AW.cT rfl (dT h1) ?_
     refine AW.regL ?_
     iterate 2 refine V rfl ?_
     refine ggE hr fun g13 hr=>?_
     refine CUd (xs:=s4) (b:=8) 7 (by decide) g13 ?_
     refine V rfl ?_
     refine SB ?_
     refine AL.nil ?_
     cases hr
     exact GH.renK hS [(0,0),(1,1),(2,2),(4,4),(5,5),(7,6)] 7
    ·refine AW.cF rfl (dF h1) ?_
     refine AW.skip ?_
     cases hr
     exact GH.renK hS [(0,0),(1,1),(2,2),(4,4),(5,5),(6,6)] 7
   ·refine AW.seq (AW.seq (AW.regL ?_))
    refine V rfl ?_
    refine AL.nil ?_
    refine bdE hr fun q13 hqq13 hr=>?_
    obtain⟨s14,s15,s16⟩:=q13
    refine AW.cut1 7 [(4,.pb 1 0),(5,.pb 2 0)] [(0,.box [.d .fz (.sl 1 (o0.b.map byD)),.d .fz (.i .i64 s14),.d .fz (.i .i64 s15)]),(6,.deep .fz 6 (s16.map Rule.O) [])] ?_ ?_
    ·refine AW.block (AW.iter hqq13 7 (fun (s17,s18,s19,s20)=>[(0,.pb 0 0),(1,.d .fz (.b a1)),(4,.pb 1 0),(5,.pb 2 0),(15,.d .fz (.i .i64 s17))]) (fun (s17,s18,s19,s20)=>[(0,.box [.d .fz (.sl 1 (o0.b.map byD)),.d .fz (.i .i64 s18),.d .fz (.i .i64 s19)]),(6,.deep .fz 6 (s20.map Rule.O) [])]) (GH.renK hS [(0,0),(1,1),(2,2),(4,4),(5,5),(6,6)] 7) fun sk5 ok5 hr hik5=>?_)
     obtain⟨s17,s18,s19,s20⟩:=sk5
     have hr:=hr
     refine AW.seq (AW.seq (AW.regL ?_))
     iterate 3 refine V rfl ?_
     refine LEd s20.length ?_
     refine V rfl ?_
     refine AL.nil ?_
     refine ifE hr (fun h2 hr=>?_) fun h2 hr=>?_
     ·refine AW.cT rfl (dT h2) ?_
      refine AW.skip ?_
      refine bdE hr fun q14 hqq14 hr=>?_
      obtain⟨s21,s22,s23⟩:=q14
      refine AW.seq (AW.cut1 7 [(0,.pb 0 0),(1,.d .fz (.b a1)),(4,.pb 1 0),(5,.pb 2 0),(15,.d .fz (.i .i64 s17))] [(0,.box [.d .fz (.sl 1 (o0.b.map byD)),.d .fz (.i .i64 s21),.d .fz (.i .i64 s22)]),(6,.deep .fz 6 (s23.map Rule.O) [])] ?_ ?_)
      ·replace hr:=hqq14
       refine ggE hr fun g14 hr=>?_
       refine bdE hr fun x3 hx3 hr=>?_
       refine AW.out 6 s17.toNat 2 7 (q1G hx3) ?_
       refine AW.out 6 s17.toNat 4 8 (q1w (q1G hx3)) ?_
       refine AW.out 6 s17.toNat 5 9 (q1w (q1w (q1G hx3))) ?_
       refine AW.block (AW.seq (AW.drawL (h:=?_)))
       iterate 8 refine V rfl ?_
       refine IEd g14 (q1w (q1w (q1w (q1G hx3)))) ?_
       refine LPad [(5,9),(4,8),(2,7)] (q1w (q1w (q1w (q1G hx3)))) ?_
       iterate 2 refine V rfl ?_
       refine bdE hr fun q15 hq15 hr=>?_
       obtain⟨y9,z8⟩:=q15
       refine CB [(0,0),(1,7),(2,8),(3,9),(4,10)] [5] (z6r (m:=.bo) (m2:=.fz) hq15) ?_
       refine IEd g14 (q1w (q1w (q1w (q1G hx3)))) ?_
       refine SD [.d .fz (.s y9.Name),.d .fz (.s y9.Left),.o .fz 1 (y9.Right.map A.D.s),.d .fz (.b y9.Literal),.o .fz 9 (y9.Equations.map Equation.D),.o .fz 16 (y9.Contributions.map Contribution.D)] [7,10,9] (q1w (q1w (q1w (q1G hx3)))) ?_
       refine AL.nil ?_
       refine AW.seq (AW.regL ?_)
       iterate 2 refine V rfl ?_
       refine AL.nil ?_
       refine ifE hr (fun h3 hr=>?_) fun h3 hr=>?_
       ·refine AW.cF rfl (bnF h3) ?_
        refine AW.skip ?_
        cases hr
        exact GH.trans (GH.ees 6 (he:=eset (f:=Rule.O) (x':=y9) (by first | rfl | (simp only [List.set_set]; rfl)))) (GH.renK hS [(0,0),(1,1),(2,2),(4,4),(5,5),(6,6)] 7)
       ·refine AW.cT rfl (bnT h3) ?_
        refine AW.out 6 s17.toNat 2 11 (q1w (q1w (q1w (q1w (q1G hx3))))) ?_
        refine AW.out 6 s17.toNat 4 12 (q1w (q1w (q1w (q1w (q1w (q1G hx3)))))) ?_
        refine AW.out 6 s17.toNat 5 13 (q1w (q1w (q1w (q1w (q1w (q1w (q1G hx3))))))) ?_
        refine AW.drawL (h:=?_)
        iterate 8 refine V rfl ?_
        refine IEd g14 (q1w (q1w (q1w (q1w (q1w (q1w (q1w (q1G hx3)))))))) ?_
        refine LPad [(5,13),(4,12),(2,11)] (q1w (q1w (q1w (q1w (q1w (q1w (q1w (q1G hx3)))))))) ?_
        refine bdE hr fun q16 hq16 hr=>?_
        obtain⟨y10,z9⟩:=q16
        refine CB [(0,0),(1,11),(2,12),(3,13),(4,14)] [5] (z8y (m:=.bo) (m2:=.fz) hq16) ?_
        refine IEd g14 (q1w (q1w (q1w (q1w (q1w (q1w (q1w (q1G hx3)))))))) ?_
        refine SD [.d .fz (.s y10.Name),.d .fz (.s y10.Left),.o .fz 1 (y10.Right.map A.D.s),.d .fz (.b y10.Literal),.o .fz 9 (y10.Equations.map Equation.D),.o .fz 16 (y10.Contributions.map Contribution.D)] [11,12,14] (q1w (q1w (q1w (q1w (q1w (q1w (q1w (q1G hx3)))))))) ?_
        refine AL.nil ?_
        cases hr
        exact GH.trans (GH.ees 6 (he:=eset (f:=Rule.O) (x':=y10) (by first | rfl | (simp only [List.set_set]; rfl)))) (GH.renK hS [(0,0),(1,1),(2,2),(4,4),(5,5),(6,6)] 7)
      ·refine AW.regL ?_
       refine V rfl ?_
       refine ggE hr fun g15 hr=>?_
       refine OB _ (bAdd g15) ?_
       refine V rfl ?_
       refine AL.nil ?_
       cases hr
       exact⟨_,rfl,GH.renK hS [(0,0),(1,1),(2,2),(4,4),(5,5),(6,6)] 7⟩
     ·refine AW.cF rfl (dF h2) ?_
      refine AW.exit ?_
      cases hr
      cases hik5 _ rfl
      exact GH.renK hS [(0,0),(1,1),(2,2),(4,4),(5,5),(6,6)] 7
    ·refine AW.seq (AW.regL ?_)
     refine V rfl ?_
     refine SB ?_
     refine AL.nil ?_
     refine AW.ret ?_
     cases hr
     exact endA.renK [(0,0),(5,1),(6,2)] 3 hS
end Go.Proofs.YtiojgbiimbefiacGreat
