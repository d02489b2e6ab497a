/- What some functions of the program compute, as partial functions on plain data, and that they do; each lemma bears its conditions in its statement. -/
import Derived.Test.YtibagkppfnjgcaaGreatLift5
set_option linter.unusedVariables false
set_option linter.unusedSimpArgs false
set_option linter.ambiguousOpen false
set_option linter.unusedSectionVars false
set_option linter.unnecessarySimpa false
set_option maxRecDepth 100000
set_option maxHeartbeats 40000000
noncomputable section
namespace Go.Proofs.YtibagkppfnjgcaaGreat
open Go Go.E Go.A
def q3Y (a0:(List Symbol))(a1_0:Symbol):Option Bool:=
 (q4p a0 a1_0).bind fun y1=>
 some (decide (0≤y1))
theorem q7q {m:Md}{m2:Md}{a0:(List Symbol)}{a1_0:Symbol}{r:Bool}(hr:q3Y a0 a1_0=some r):Ok Tryz.prog 51 [.d m (.sl 2 (a0.map Symbol.D)),.fn 142 [.pb 0 0]] [.box [.d .fz (.s a1_0.Name),.d m2 (.sl 4 (a1_0.Attributes.map Attribute.D))]] (.d .fz (.b r)) [.box [.d .fz (.s a1_0.Name),.d m2 (.sl 4 (a1_0.Attributes.map Attribute.D))]]:=by
 refine Ok.enter rfl Tryz.func51 rfl rfl rfl fun S hS=>?_
 unfold q3Y at hr
 refine sr ?_
 refine N1 ?_
 refine sr ?_
 refine W2 ?_
 refine bdE hr fun y1 hy1 hr=>?_
 refine CB [(0,0)] [] (q7Q (m:=m) (m2:=m2) hy1) ?_
 refine N2 ?_
 refine AW.ret ?_
 cases hr
 exact q0a [(0,0)] 1 hS
def z0C (rec_iCountExpr:Expr→Option Int):Nat→Expr→Int→Option Int:=fun k1 xk1 s1=>
 (rec_iCountExpr xk1).bind fun y1=>
 grd (I64 (s1+y1)) <|
 some (s1+y1)
def z0g (rec_iCountExpr:Expr→Option Int)(a0:Expr):Option Int:=
 (eachL (z0C rec_iCountExpr) 0 a0.Args 1).bind fun s1=>
 some s1
theorem z8l {rec_iCountExpr:Expr→Option Int}(ih_iCountExpr:∀ {m:Md} {a0:Expr} {r:Int},rec_iCountExpr a0=some r→Ok Tryz.prog 201 [Expr.x m a0] [] (.d .fz (.i .i64 r)) []){m:Md}{a0:Expr}{r:Int}(hr:z0g rec_iCountExpr a0=some r):Ok Tryz.prog 201 [Expr.x m a0] [] (.d .fz (.i .i64 r)) []:=by
 refine Ok.enter rfl Tryz.func201 rfl rfl rfl fun S hS=>?_
 unfold z0g at hr
 refine sr ?_
 refine BX 0 ?_
 refine N1 ?_
 refine sr ?_
 refine N1 ?_
 refine ssr ?_
 refine W2 ?_
 refine LF ?_
 refine N1 ?_
 refine AW.block ?_
 refine AW.len (.ag 6 (.tmp 0 rfl) rfl) fun hl1=>?_
 refine bdE hr fun s1 hqq1 hr=>?_
 refine q0o hqq1 hl1 1 (fun k1 s1=>[(3,.d .fz (.i .i64 s1)),(7,.d m (.sl 7 (a0.Args.map Expr.D))),(8,.d .fz (.i .i64 (a0.Args.length:Int))),(9,.d .fz (.i .i64 (k1:Int)))]) (fun k1 s1=>[]) (q0e hS 1) (fun k1 xk1 sk1 ok1 hxk1 hr hltk1=>?_) fun k1 hltk1=>?_
 obtain⟨s1,rfl⟩:∃ y,y=sk1:=⟨_,rfl⟩
 refine sr ?_
 refine N1 ?_
 refine q0d (q0f rfl (dT hltk1) ?_)
 refine q0b ?_
 refine q0d (AW.block (q0d (q0c ?_)))
 refine IFq (Int.natCast_nonneg _) hxk1 (Expr.D_cells xk1) ?_
 refine W1 ?_
 refine NV 1 ?_
 refine SB ?_
 refine N0 ?_
 refine q0c ?_
 refine W2 ?_
 refine bdE hr fun y1 hy1 hr=>?_
 refine CB [] [] (ih_iCountExpr (m:=m) hy1) ?_
 refine ggE hr fun g1 hr=>?_
 refine OB _ (bAdd g1) ?_
 refine N1 ?_
 refine q0c ?_
 refine OB _ (q3B (p:=k1) (q:=1) (q3m hltk1 hl1)) ?_
 refine N1 ?_
 cases hr
 exact q0e hS 1
 refine sr ?_
 refine N1 ?_
 refine q0d (q0g rfl (dF hltk1) ?_)
 refine q0i ?_
 refine sr ?_
 refine N2 ?_
 refine AW.ret ?_
 cases hr
 exact q0a [] 0 hS
def q8P:Nat→Expr→Option Int
  | 0,_=>none
  | n+1,a0=>z0g (q8P n) a0
def z3n (a0:Expr):Option Int:=recO fun n=>q8P n a0
theorem z8m (n:Nat):∀ {m:Md} {a0:Expr} {r:Int},q8P n a0=some r→Ok Tryz.prog 201 [Expr.x m a0] [] (.d .fz (.i .i64 r)) []:=by
  induction n with
  | zero=>intro _ _ r hr; exact nomatch (show (none:Option Int)=some r from hr)
  | succ n ih=>intro _ _ r hr; exact z8l ih hr
theorem z9E {m:Md}{a0:Expr}{r:Int}(hr:z3n a0=some r):Ok Tryz.prog 201 [Expr.x m a0] [] (.d .fz (.i .i64 r)) []:=by
 obtain⟨n,hn⟩:=q5a hr
 exact z8m n hn
def z3o (rec_iDepthOfExpr:Expr→Option Int):Nat→Expr→Int→Option Int:=fun k1 xk1 s1=>
 (rec_iDepthOfExpr xk1).bind fun y1=>
 some (if y1 > s1 then y1 else s1)
def q8w (rec_iDepthOfExpr:Expr→Option Int)(a0:Expr):Option Int:=
 (eachL (z3o rec_iDepthOfExpr) 0 a0.Args 0).bind fun s1=>
 grd (I64 (s1+1)) <|
 some (s1+1)
theorem z6h {rec_iDepthOfExpr:Expr→Option Int}(ih_iDepthOfExpr:∀ {m:Md} {a0:Expr} {r:Int},rec_iDepthOfExpr a0=some r→Ok Tryz.prog 202 [Expr.x m a0] [] (.d .fz (.i .i64 r)) []){m:Md}{a0:Expr}{r:Int}(hr:q8w rec_iDepthOfExpr a0=some r):Ok Tryz.prog 202 [Expr.x m a0] [] (.d .fz (.i .i64 r)) []:=by
 refine Ok.enter rfl Tryz.func202 rfl rfl rfl fun S hS=>?_
 unfold q8w at hr
 refine sr ?_
 refine BX 0 ?_
 refine N1 ?_
 refine sr ?_
 refine N1 ?_
 refine ssr ?_
 refine W2 ?_
 refine LF ?_
 refine N1 ?_
 refine AW.block ?_
 refine AW.len (.ag 6 (.tmp 0 rfl) rfl) fun hl1=>?_
 refine bdE hr fun s1 hqq1 hr=>?_
 refine q0o hqq1 hl1 1 (fun k1 s1=>[(3,.d .fz (.i .i64 s1)),(7,.d m (.sl 7 (a0.Args.map Expr.D))),(8,.d .fz (.i .i64 (a0.Args.length:Int))),(9,.d .fz (.i .i64 (k1:Int)))]) (fun k1 s1=>[]) (q0e hS 1) (fun k1 xk1 sk1 ok1 hxk1 hr hltk1=>?_) fun k1 hltk1=>?_
 obtain⟨s1,rfl⟩:∃ y,y=sk1:=⟨_,rfl⟩
 refine sr ?_
 refine N1 ?_
 refine q0d (q0f rfl (dT hltk1) ?_)
 refine q0b ?_
 refine q0d (AW.block (q0d (q0c ?_)))
 refine IFq (Int.natCast_nonneg _) hxk1 (Expr.D_cells xk1) ?_
 refine W1 ?_
 refine NV 1 ?_
 refine SB ?_
 refine N0 ?_
 refine q0c ?_
 refine W2 ?_
 refine bdE hr fun y1 hy1 hr=>?_
 refine CB [] [] (ih_iDepthOfExpr (m:=m) hy1) ?_
 refine MXI rfl rfl ?_
 refine N1 ?_
 refine q0c ?_
 refine OB _ (q3B (p:=k1) (q:=1) (q3m hltk1 hl1)) ?_
 refine N1 ?_
 cases hr
 exact q0e hS 1
 refine sr ?_
 refine N1 ?_
 refine q0d (q0g rfl (dF hltk1) ?_)
 refine q0i ?_
 refine sr ?_
 refine W1 ?_
 refine ggE hr fun g1 hr=>?_
 refine OB _ (bAdd g1) ?_
 refine N1 ?_
 refine AW.ret ?_
 cases hr
 exact q0a [] 0 hS
def q6h:Nat→Expr→Option Int
  | 0,_=>none
  | n+1,a0=>q8w (q6h n) a0
def z1K (a0:Expr):Option Int:=recO fun n=>q6h n a0
theorem z6i (n:Nat):∀ {m:Md} {a0:Expr} {r:Int},q6h n a0=some r→Ok Tryz.prog 202 [Expr.x m a0] [] (.d .fz (.i .i64 r)) []:=by
  induction n with
  | zero=>intro _ _ r hr; exact nomatch (show (none:Option Int)=some r from hr)
  | succ n ih=>intro _ _ r hr; exact z6h ih hr
theorem z7o {m:Md}{a0:Expr}{r:Int}(hr:z1K a0=some r):Ok Tryz.prog 202 [Expr.x m a0] [] (.d .fz (.i .i64 r)) []:=by
 obtain⟨n,hn⟩:=q5a hr
 exact z6i n hn
def z2y (a0:Int):Option Int:=
 some (if ((-1000000):Int) > (if (1000000:Int) < a0 then (1000000:Int) else a0) then ((-1000000):Int) else (if (1000000:Int) < a0 then (1000000:Int) else a0))
theorem j1b {a0:Int}{r:Int}(hr:z2y a0=some r):Ok Tryz.prog 210 [.d .fz (.i .i64 a0)] [] (.d .fz (.i .i64 r)) []:=by
 refine Ok.enter rfl Tryz.func210 rfl rfl rfl fun S hS=>?_
 unfold z2y at hr
 refine sr ?_
 refine N1 ?_
 refine sr ?_
 refine W1 ?_
 refine MNI rfl rfl ?_
 refine MXI rfl rfl ?_
 refine N1 ?_
 refine AW.ret ?_
 cases hr
 exact q0a [] 0 hS
def z7p (a0:Bool):Option Int:=
 if a0=true then (
 some 1
 ) else (
 some 0
 )
theorem j7g {a0:Bool}{r:Int}(hr:z7p a0=some r):Ok Tryz.prog 211 [.d .fz (.b a0)] [] (.d .fz (.i .i64 r)) []:=by
 refine Ok.enter rfl Tryz.func211 rfl rfl rfl fun S hS=>?_
 unfold z7p at hr
 refine sr ?_
 refine N1 ?_
 refine ssr ?_
 refine N1 ?_
 refine ifE hr (fun h1 hr=>?_) fun h1 hr=>?_
 refine q0f rfl h1 ?_
 refine sr ?_
 refine N1 ?_
 refine AW.ret ?_
 cases hr
 exact q0a [] 0 hS
 refine q0g rfl (bF h1) ?_
 refine q0b ?_
 refine sr ?_
 refine N1 ?_
 refine AW.ret ?_
 cases hr
 exact q0a [] 0 hS
def z3p (a0:Int)(a1:Int):Option Int:=
 if a1=1 then (
 (z2y a0).bind fun y1=>
 some y1
 ) else (
 if a1=2 then (
 some (z4L a0 4095)
 ) else (
 if a1=3 then (
 (z7p (!(decide (a0=0)))).bind fun y2=>
 some y2
 ) else (
 if a1=4 then (
 (q4o a0 0 999).bind fun y3=>
 if y3=true then (
 some a0
 ) else (
 some 0
 )
 ) else (
 some 0
 )
 )
 )
 )
theorem j4y {a0:Int}{a1:Int}{r:Int}(hr:z3p a0 a1=some r):Ok Tryz.prog 209 [.d .fz (.i .i64 a0),.d .fz (.i .i64 a1)] [] (.d .fz (.i .i64 r)) []:=by
 refine Ok.enter rfl Tryz.func209 rfl rfl rfl fun S hS=>?_
 unfold z3p at hr
 refine sr ?_
 refine N1 ?_
 refine q0d (AW.block (q0d (q0c ?_)))
 refine N3 ?_
 refine ifE hr (fun h1 hr=>?_) fun h1 hr=>?_
 refine q0f rfl (dT h1) ?_
 refine sr ?_
 refine W1 ?_
 refine bdE hr fun y1 hy1 hr=>?_
 refine CB [] [] (j1b hy1) ?_
 refine N1 ?_
 refine AW.ret ?_
 cases hr
 exact q0a [] 0 hS
 refine q0g rfl (dF h1) ?_
 refine sr ?_
 refine N3 ?_
 refine ifE hr (fun h2 hr=>?_) fun h2 hr=>?_
 refine q0f rfl (dT h2) ?_
 refine sr ?_
 refine W1 ?_
 refine OB _ j5s ?_
 refine N1 ?_
 refine AW.ret ?_
 cases hr
 exact q0a [] 0 hS
 refine q0g rfl (dF h2) ?_
 refine sr ?_
 refine N3 ?_
 refine ifE hr (fun h3 hr=>?_) fun h3 hr=>?_
 refine q0f rfl (dT h3) ?_
 refine sr ?_
 refine W2 ?_
 refine bdE hr fun y2 hy2 hr=>?_
 refine CB [] [] (j7g hy2) ?_
 refine N1 ?_
 refine AW.ret ?_
 cases hr
 exact q0a [] 0 hS
 refine q0g rfl (dF h3) ?_
 refine sr ?_
 refine W2 ?_
 refine ifE hr (fun h4 hr=>?_) fun h4 hr=>?_
 refine VT rfl (dT h4) ?_
 refine W1 ?_
 refine bdE hr fun y3 hy3 hr=>?_
 refine CB [] [] (q4V hy3) ?_
 refine N2 ?_
 refine ifE hr (fun h5 hr=>?_) fun h5 hr=>?_
 refine q0f rfl h5 ?_
 refine sr ?_
 refine N2 ?_
 refine AW.ret ?_
 cases hr
 exact q0a [] 0 hS
 refine q0g rfl (bF h5) ?_
 refine q0b ?_
 refine sr ?_
 refine N1 ?_
 refine AW.ret ?_
 cases hr
 exact q0a [] 0 hS
 refine VF rfl (dF h4) ?_
 iterate 2 refine AL.off ?_
 refine N2 ?_
 refine q0g rfl rfl ?_
 refine q0b ?_
 refine sr ?_
 refine N1 ?_
 refine AW.ret ?_
 cases hr
 exact q0a [] 0 hS
def z1a (a0:Int)(a1:Int):Option Bool:=
 (z2e a1).bind fun y1=>
 if y1=true then (
 (z3p a0 a1).bind fun y2=>
 some (decide (y2=a0))
 ) else (
 some false
 )
theorem j1c {a0:Int}{a1:Int}{r:Bool}(hr:z1a a0 a1=some r):Ok Tryz.prog 206 [.d .fz (.i .i64 a0),.d .fz (.i .i64 a1)] [] (.d .fz (.b r)) []:=by
 refine Ok.enter rfl Tryz.func206 rfl rfl rfl fun S hS=>?_
 unfold z1a at hr
 refine sr ?_
 refine N1 ?_
 refine sr ?_
 refine W1 ?_
 refine bdE hr fun y1 hy1 hr=>?_
 refine CB [] [] (z8W hy1) ?_
 refine ifE hr (fun h1 hr=>?_) fun h1 hr=>?_
 refine VT rfl h1 ?_
 refine W2 ?_
 refine bdE hr fun y2 hy2 hr=>?_
 refine CB [] [] (j4y hy2) ?_
 refine N4 ?_
 refine AW.ret ?_
 cases hr
 exact q0a [] 0 hS
 refine VF rfl (bF h1) ?_
 iterate 5 refine AL.off ?_
 refine N2 ?_
 refine AW.ret ?_
 cases hr
 exact q0a [] 0 hS
def q5M (a0:Expr)(a1:Expr):Option Bool:=
 (
 if a0.Kind=a1.Kind then (
 some (decide (a0.N=a1.N))
 ) else (
 some false
 )
 ).bind fun s1=>
 (
 if s1=true then (
 some (decide (a0.Pos=a1.Pos))
 ) else (
 some false
 )
 ).bind fun s2=>
 (
 if s2=true then (
 some (decide (a0.Type_=a1.Type_))
 ) else (
 some false
 )
 ).bind fun s3=>
 (
 if s3=true then (
 some (decide (a0.Symbol=a1.Symbol))
 ) else (
 some false
 )
 ).bind fun s4=>
 (
 if s4=true then (
 some (decide (a0.Name=a1.Name))
 ) else (
 some false
 )
 ).bind fun s5=>
 some s5
theorem q7g {m:Md}{a0:Expr}{a1:Expr}{r:Bool}(hr:q5M a0 a1=some r):Ok Tryz.prog 207 [Expr.x m a0,Expr.x m a1] [] (.d .fz (.b r)) []:=by
 refine Ok.enter rfl Tryz.func207 rfl rfl rfl fun S hS=>?_
 unfold q5M at hr
 refine sr ?_
 refine BX 0 ?_
 refine BX 1 ?_
 refine N1 ?_
 refine sr ?_
 refine W5 ?_
 refine bdE hr fun s1 hqq1 hr=>?_
 refine q0h 7 [(2,.pb 0 0),(3,.pb 1 0),(4,.d .fz (.b false)),(16,.d .fz (.b s1))] ?_ ?_
 replace hr:=hqq1
 refine ifE hr (fun h1 hr=>?_) fun h1 hr=>?_
 refine VT rfl (dT h1) ?_
 refine W5 ?_
 refine N1 ?_
 cases hr
 exact q3n
 refine VF rfl (dF h1) ?_
 iterate 5 refine AL.off ?_
 refine N1 ?_
 cases hr
 exact q3n
 refine bdE hr fun s2 hqq2 hr=>?_
 refine q0h 7 [(2,.pb 0 0),(3,.pb 1 0),(4,.d .fz (.b false)),(23,.d .fz (.b s2))] ?_ ?_
 replace hr:=hqq2
 refine ifE hr (fun h2 hr=>?_) fun h2 hr=>?_
 refine VT rfl h2 ?_
 refine W5 ?_
 refine N1 ?_
 cases hr
 exact q3n
 refine VF rfl (bF h2) ?_
 iterate 5 refine AL.off ?_
 refine N1 ?_
 cases hr
 exact q3n
 refine bdE hr fun s3 hqq3 hr=>?_
 refine q0h 7 [(2,.pb 0 0),(3,.pb 1 0),(4,.d .fz (.b false)),(30,.d .fz (.b s3))] ?_ ?_
 replace hr:=hqq3
 refine ifE hr (fun h3 hr=>?_) fun h3 hr=>?_
 refine VT rfl h3 ?_
 refine W5 ?_
 refine N1 ?_
 cases hr
 exact q3n
 refine VF rfl (bF h3) ?_
 iterate 5 refine AL.off ?_
 refine N1 ?_
 cases hr
 exact q3n
 refine bdE hr fun s4 hqq4 hr=>?_
 refine q0h 7 [(2,.pb 0 0),(3,.pb 1 0),(4,.d .fz (.b false)),(37,.d .fz (.b s4))] ?_ ?_
 replace hr:=hqq4
 refine ifE hr (fun h4 hr=>?_) fun h4 hr=>?_
 refine VT rfl h4 ?_
 refine W5 ?_
 refine N1 ?_
 cases hr
 exact q3n
 refine VF rfl (bF h4) ?_
 iterate 5 refine AL.off ?_
 refine N1 ?_
 cases hr
 exact q3n
 refine bdE hr fun s5 hqq5 hr=>?_
 refine q0h 7 [(4,.d .fz (.b false)),(44,.d .fz (.b s5))] ?_ ?_
 replace hr:=hqq5
 refine ifE hr (fun h5 hr=>?_) fun h5 hr=>?_
 refine VT rfl h5 ?_
 refine W5 ?_
 refine N1 ?_
 cases hr
 exact q3n
 refine VF rfl (bF h5) ?_
 iterate 5 refine AL.off ?_
 refine N1 ?_
 cases hr
 exact q3n
 refine N1 ?_
 refine AW.ret ?_
 cases hr
 exact q0a [] 0 hS
def q9b (a0:Expr):Option Bool:=
 if a0.Kind=1 then (
 (
 if a0.Type_=4 then (
 some true
 ) else (
 (z1a a0.N a0.Type_).bind fun y1=>
 some (!y1)
 )
 ).bind fun s1=>
 (
 if s1=true then (
 some true
 ) else (
 some (decide (a0.N < 0))
 )
 ).bind fun s2=>
 if s2=true then (
 some false
 ) else (
 (
 if (a0.Args.length:Int)=0 then (
 (q4o a0.Pos 0 3).bind fun y2=>
 some y2
 ) else (
 some false
 )
 ).bind fun s3=>
 (
 if s3=true then (
 (q5M a0 (⟨a0.Kind,a0.N,0,a0.Type_,(⟨#[]⟩:ByteArray),(⟨#[]⟩:ByteArray),a0.Args⟩:Expr)).bind fun y3=>
 some y3
 ) else (
 some false
 )
 ).bind fun s4=>
 some s4
 )
 ) else (
 if a0.Kind=3 then (
 (q4e a0.Name).bind fun y4=>
 if y4=true then (
 (
 if (a0.Args.length:Int)=0 then (
 (q4o a0.Pos 0 3).bind fun y5=>
 some y5
 ) else (
 some false
 )
 ).bind fun s5=>
 (
 if s5=true then (
 (q5M a0 (⟨a0.Kind,0,a0.Pos,0,(⟨#[]⟩:ByteArray),a0.Name,a0.Args⟩:Expr)).bind fun y6=>
 some y6
 ) else (
 some false
 )
 ).bind fun s6=>
 some s6
 ) else (
 some false
 )
 ) else (
 if a0.Kind=4 then (
 (q4o a0.N 1 12).bind fun y7=>
 if y7=true then (
 (
 if (a0.Args.length:Int)=2 then (
 (q4o a0.Pos 0 3).bind fun y8=>
 some y8
 ) else (
 some false
 )
 ).bind fun s7=>
 (
 if s7=true then (
 (q5M a0 (⟨a0.Kind,a0.N,0,0,(⟨#[]⟩:ByteArray),(⟨#[]⟩:ByteArray),a0.Args⟩:Expr)).bind fun y9=>
 some y9
 ) else (
 some false
 )
 ).bind fun s8=>
 some s8
 ) else (
 some false
 )
 ) else (
 if a0.Kind=5 then (
 (
 if (a0.Args.length:Int)=3 then (
 (q4o a0.Pos 0 3).bind fun y10=>
 some y10
 ) else (
 some false
 )
 ).bind fun s9=>
 (
 if s9=true then (
 (q5M a0 (⟨a0.Kind,0,0,0,(⟨#[]⟩:ByteArray),(⟨#[]⟩:ByteArray),a0.Args⟩:Expr)).bind fun y11=>
 some y11
 ) else (
 some false
 )
 ).bind fun s10=>
 some s10
 ) else (
 if a0.Kind=6 then (
 (
 if (a0.Args.length:Int)=0 then (
 (q4o a0.Pos 0 3).bind fun y12=>
 some y12
 ) else (
 some false
 )
 ).bind fun s11=>
 (
 if s11=true then (
 (q5M a0 (⟨a0.Kind,0,a0.Pos,0,(⟨#[]⟩:ByteArray),(⟨#[]⟩:ByteArray),a0.Args⟩:Expr)).bind fun y13=>
 some y13
 ) else (
 some false
 )
 ).bind fun s12=>
 some s12
 ) else (
 if a0.Kind=8 then (
 (q4e a0.Symbol).bind fun y14=>
 (
 if y14=true then (
 (q4e a0.Name).bind fun y15=>
 some (!y15)
 ) else (
 some true
 )
 ).bind fun s13=>
 if s13=true then (
 some false
 ) else (
 (
 if (a0.Args.length:Int)=1 then (
 (q4o a0.Pos 0 3).bind fun y16=>
 some y16
 ) else (
 some false
 )
 ).bind fun s14=>
 (
 if s14=true then (
 (q5M a0 (⟨a0.Kind,0,0,0,a0.Symbol,a0.Name,a0.Args⟩:Expr)).bind fun y17=>
 some y17
 ) else (
 some false
 )
 ).bind fun s15=>
 some s15
 )
 ) else (
 if a0.Kind=2 then (
 if a0.Kind=2 then (
 (
 if (a0.Args.length:Int)=0 then (
 (q4o a0.Pos 0 3).bind fun y18=>
 some y18
 ) else (
 some false
 )
 ).bind fun s16=>
 (
 if s16=true then (
 (q5M a0 (⟨a0.Kind,0,0,0,(⟨#[]⟩:ByteArray),(⟨#[]⟩:ByteArray),a0.Args⟩:Expr)).bind fun y19=>
 some y19
 ) else (
 some false
 )
 ).bind fun s17=>
 some s17
 ) else (
 some false
 )
 ) else (
 if a0.Kind=7 then (
 (
 if (a0.Args.length:Int)=0 then (
 (q4o a0.Pos 0 3).bind fun y20=>
 some y20
 ) else (
 some false
 )
 ).bind fun s18=>
 (
 if s18=true then (
 (q5M a0 (⟨a0.Kind,0,0,0,(⟨#[]⟩:ByteArray),(⟨#[]⟩:ByteArray),a0.Args⟩:Expr)).bind fun y21=>
 some y21
 ) else (
 some false
 )
 ).bind fun s19=>
 some s19
 ) else (
 some false
 )
 )
 )
 )
 )
 )
 )
 )
theorem z8n {m:Md}{a0:Expr}{r:Bool}(hr:q9b a0=some r):Ok Tryz.prog 203 [Expr.x m a0] [] (.d .fz (.b r)) []:=by
 refine Ok.enter rfl Tryz.func203 rfl rfl rfl fun S hS=>?_
 unfold q9b at hr
 refine sr ?_
 refine BX 0 ?_
 refine N1 ?_
 refine sr ?_
 refine W5 ?_
 refine NV 1 ?_
 refine SB ?_
 refine N0 ?_
 refine sr ?_
 refine N1 ?_
 refine ssr ?_
 refine N2 ?_
 refine AW.block (q0d (q0c ?_))
 refine N2 ?_
 refine ifE hr (fun h1 hr=>?_) fun h1 hr=>?_
 refine q0f rfl (dT h1) ?_
 refine q0d (q0j (h:=?_))
 refine W5 ?_
 refine SB ?_
 refine W1 ?_
 refine SB ?_
 refine N0 ?_
 refine sr ?_
 refine W3 ?_
 refine bdE hr fun s1 hqq1 hr=>?_
 refine q0h 8 [(1,.pb 0 0),(3,.pb 1 0),(4,.d .fz (.i .i64 0)),(30,.d .fz (.b s1))] ?_ ?_
 replace hr:=hqq1
 refine ifE hr (fun h2 hr=>?_) fun h2 hr=>?_
 refine VT rfl (dT h2) ?_
 iterate 6 refine AL.off ?_
 refine N1 ?_
 cases hr
 exact q3n
 refine VF rfl (dF h2) ?_
 refine W4 ?_
 refine bdE hr fun y1 hy1 hr=>?_
 refine CB [] [] (j1c hy1) ?_
 refine N2 ?_
 cases hr
 exact q3n
 refine bdE hr fun s2 hqq2 hr=>?_
 refine q0h 5 [(1,.pb 0 0),(3,.pb 1 0),(4,.d .fz (.i .i64 0)),(35,.d .fz (.b s2))] ?_ ?_
 replace hr:=hqq2
 refine ifE hr (fun h3 hr=>?_) fun h3 hr=>?_
 refine VT rfl h3 ?_
 iterate 3 refine AL.off ?_
 refine N1 ?_
 cases hr
 exact q3n
 refine VF rfl (bF h3) ?_
 refine N4 ?_
 cases hr
 exact q3n
 refine N0 ?_
 refine ifE hr (fun h4 hr=>?_) fun h4 hr=>?_
 refine q0f rfl h4 ?_
 refine sr ?_
 refine N1 ?_
 refine AW.ret ?_
 cases hr
 exact q0a [] 0 hS
 refine q0g rfl (bF h4) ?_
 refine q0b ?_
 refine sr ?_
 refine W2 ?_
 refine LF ?_
 refine W2 ?_
 refine bdE hr fun s3 hqq3 hr=>?_
 refine q0h 5 [(1,.pb 0 0),(3,.pb 1 0),(94,.d .fz (.b s3))] ?_ ?_
 replace hr:=hqq3
 refine ifE hr (fun h5 hr=>?_) fun h5 hr=>?_
 refine VT rfl (dT h5) ?_
 refine W2 ?_
 refine bdE hr fun y2 hy2 hr=>?_
 refine CB [] [] (q4V hy2) ?_
 refine N1 ?_
 cases hr
 exact q3n
 refine VF rfl (dF h5) ?_
 iterate 3 refine AL.off ?_
 refine N1 ?_
 cases hr
 exact q3n
 refine bdE hr fun s4 hqq4 hr=>?_
 refine q0h 5 [(99,.d .fz (.b s4))] ?_ ?_
 replace hr:=hqq4
 refine ifE hr (fun h6 hr=>?_) fun h6 hr=>?_
 refine VT rfl h6 ?_
 refine W2 ?_
 refine bdE hr fun y3 hy3 hr=>?_
 refine CB [] [] (q7g (m:=m) hy3) ?_
 refine N1 ?_
 cases hr
 exact q3n
 refine VF rfl (bF h6) ?_
 iterate 3 refine AL.off ?_
 refine N1 ?_
 cases hr
 exact q3n
 refine N1 ?_
 refine AW.ret ?_
 cases hr
 exact q0a [] 0 hS
 refine q0g rfl (dF h1) ?_
 refine sr ?_
 refine N2 ?_
 refine ifE hr (fun h7 hr=>?_) fun h7 hr=>?_
 refine q0f rfl (dT h7) ?_
 refine q0d (q0j (h:=?_))
 refine W5 ?_
 refine SB ?_
 refine W1 ?_
 refine SB ?_
 refine N0 ?_
 refine sr ?_
 refine W2 ?_
 refine bdE hr fun y4 hy4 hr=>?_
 refine CB [] [] (q4R hy4) ?_
 refine N1 ?_
 refine ifE hr (fun h8 hr=>?_) fun h8 hr=>?_
 refine q0g rfl (bnF h8) ?_
 refine q0b ?_
 refine sr ?_
 refine W2 ?_
 refine LF ?_
 refine W2 ?_
 refine bdE hr fun s5 hqq5 hr=>?_
 refine q0h 5 [(1,.pb 0 0),(2,.d .fz (.b false)),(3,.pb 1 0),(94,.d .fz (.b s5))] ?_ ?_
 replace hr:=hqq5
 refine ifE hr (fun h9 hr=>?_) fun h9 hr=>?_
 refine VT rfl (dT h9) ?_
 refine W2 ?_
 refine bdE hr fun y5 hy5 hr=>?_
 refine CB [] [] (q4V hy5) ?_
 refine N1 ?_
 cases hr
 exact q3n
 refine VF rfl (dF h9) ?_
 iterate 3 refine AL.off ?_
 refine N1 ?_
 cases hr
 exact q3n
 refine bdE hr fun s6 hqq6 hr=>?_
 refine q0h 5 [(2,.d .fz (.b false)),(99,.d .fz (.b s6))] ?_ ?_
 replace hr:=hqq6
 refine ifE hr (fun h10 hr=>?_) fun h10 hr=>?_
 refine VT rfl h10 ?_
 refine W2 ?_
 refine bdE hr fun y6 hy6 hr=>?_
 refine CB [] [] (q7g (m:=m) hy6) ?_
 refine N1 ?_
 cases hr
 exact q3n
 refine VF rfl (bF h10) ?_
 iterate 3 refine AL.off ?_
 refine N1 ?_
 cases hr
 exact q3n
 refine N1 ?_
 refine AW.ret ?_
 cases hr
 exact q0a [] 0 hS
 refine q0f rfl (bnT h8) ?_
 refine sr ?_
 refine N1 ?_
 refine AW.ret ?_
 cases hr
 exact q0a [] 0 hS
 refine q0g rfl (dF h7) ?_
 refine sr ?_
 refine N2 ?_
 refine ifE hr (fun h11 hr=>?_) fun h11 hr=>?_
 refine q0f rfl (dT h11) ?_
 refine sr ?_
 refine W3 ?_
 refine SB ?_
 refine N1 ?_
 refine sr ?_
 refine W2 ?_
 refine bdE hr fun y7 hy7 hr=>?_
 refine CB [] [] (q4V hy7) ?_
 refine N1 ?_
 refine ifE hr (fun h12 hr=>?_) fun h12 hr=>?_
 refine q0g rfl (bnF h12) ?_
 refine q0b ?_
 refine sr ?_
 refine W2 ?_
 refine LF ?_
 refine W2 ?_
 refine bdE hr fun s7 hqq7 hr=>?_
 refine q0h 5 [(1,.pb 0 0),(2,.d .fz (.b false)),(3,.pb 1 0),(94,.d .fz (.b s7))] ?_ ?_
 replace hr:=hqq7
 refine ifE hr (fun h13 hr=>?_) fun h13 hr=>?_
 refine VT rfl (dT h13) ?_
 refine W2 ?_
 refine bdE hr fun y8 hy8 hr=>?_
 refine CB [] [] (q4V hy8) ?_
 refine N1 ?_
 cases hr
 exact q3n
 refine VF rfl (dF h13) ?_
 iterate 3 refine AL.off ?_
 refine N1 ?_
 cases hr
 exact q3n
 refine bdE hr fun s8 hqq8 hr=>?_
 refine q0h 5 [(2,.d .fz (.b false)),(99,.d .fz (.b s8))] ?_ ?_
 replace hr:=hqq8
 refine ifE hr (fun h14 hr=>?_) fun h14 hr=>?_
 refine VT rfl h14 ?_
 refine W2 ?_
 refine bdE hr fun y9 hy9 hr=>?_
 refine CB [] [] (q7g (m:=m) hy9) ?_
 refine N1 ?_
 cases hr
 exact q3n
 refine VF rfl (bF h14) ?_
 iterate 3 refine AL.off ?_
 refine N1 ?_
 cases hr
 exact q3n
 refine N1 ?_
 refine AW.ret ?_
 cases hr
 exact q0a [] 0 hS
 refine q0f rfl (bnT h12) ?_
 refine sr ?_
 refine N1 ?_
 refine AW.ret ?_
 cases hr
 exact q0a [] 0 hS
 refine q0g rfl (dF h11) ?_
 refine sr ?_
 refine N2 ?_
 refine ifE hr (fun h15 hr=>?_) fun h15 hr=>?_
 refine q0f rfl (dT h15) ?_
 refine q0c ?_
 refine N1 ?_
 refine sr ?_
 refine W2 ?_
 refine LF ?_
 refine W2 ?_
 refine bdE hr fun s9 hqq9 hr=>?_
 refine q0h 5 [(1,.pb 0 0),(2,.d .fz (.b false)),(3,.pb 1 0),(94,.d .fz (.b s9))] ?_ ?_
 replace hr:=hqq9
 refine ifE hr (fun h16 hr=>?_) fun h16 hr=>?_
 refine VT rfl (dT h16) ?_
 refine W2 ?_
 refine bdE hr fun y10 hy10 hr=>?_
 refine CB [] [] (q4V hy10) ?_
 refine N1 ?_
 cases hr
 exact q3n
 refine VF rfl (dF h16) ?_
 iterate 3 refine AL.off ?_
 refine N1 ?_
 cases hr
 exact q3n
 refine bdE hr fun s10 hqq10 hr=>?_
 refine q0h 5 [(2,.d .fz (.b false)),(99,.d .fz (.b s10))] ?_ ?_
 replace hr:=hqq10
 refine ifE hr (fun h17 hr=>?_) fun h17 hr=>?_
 refine VT rfl h17 ?_
 refine W2 ?_
 refine bdE hr fun y11 hy11 hr=>?_
 refine CB [] [] (q7g (m:=m) hy11) ?_
 refine N1 ?_
 cases hr
 exact q3n
 refine VF rfl (bF h17) ?_
 iterate 3 refine AL.off ?_
 refine N1 ?_
 cases hr
 exact q3n
 refine N1 ?_
 refine AW.ret ?_
 cases hr
 exact q0a [] 0 hS
 refine q0g rfl (dF h15) ?_
 refine sr ?_
 refine N2 ?_
 refine ifE hr (fun h18 hr=>?_) fun h18 hr=>?_
 refine q0f rfl (dT h18) ?_
 refine q0c ?_
 refine W3 ?_
 refine SB ?_
 refine N0 ?_
 refine sr ?_
 refine W2 ?_
 refine LF ?_
 refine W2 ?_
 refine bdE hr fun s11 hqq11 hr=>?_
 refine q0h 5 [(1,.pb 0 0),(2,.d .fz (.b false)),(3,.pb 1 0),(94,.d .fz (.b s11))] ?_ ?_
 replace hr:=hqq11
 refine ifE hr (fun h19 hr=>?_) fun h19 hr=>?_
 refine VT rfl (dT h19) ?_
 refine W2 ?_
 refine bdE hr fun y12 hy12 hr=>?_
 refine CB [] [] (q4V hy12) ?_
 refine N1 ?_
 cases hr
 exact q3n
 refine VF rfl (dF h19) ?_
 iterate 3 refine AL.off ?_
 refine N1 ?_
 cases hr
 exact q3n
 refine bdE hr fun s12 hqq12 hr=>?_
 refine q0h 5 [(2,.d .fz (.b false)),(99,.d .fz (.b s12))] ?_ ?_
 replace hr:=hqq12
 refine ifE hr (fun h20 hr=>?_) fun h20 hr=>?_
 refine VT rfl h20 ?_
 refine W2 ?_
 refine bdE hr fun y13 hy13 hr=>?_
 refine CB [] [] (q7g (m:=m) hy13) ?_
 refine N1 ?_
 cases hr
 exact q3n
 refine VF rfl (bF h20) ?_
 iterate 3 refine AL.off ?_
 refine N1 ?_
 cases hr
 exact q3n
 refine N1 ?_
 refine AW.ret ?_
 cases hr
 exact q0a [] 0 hS
 refine q0g rfl (dF h18) ?_
 refine sr ?_
 refine N2 ?_
 refine ifE hr (fun h21 hr=>?_) fun h21 hr=>?_
 refine q0f rfl (dT h21) ?_
 refine q0d (q0j (h:=?_))
 refine W5 ?_
 refine SB ?_
 refine W1 ?_
 refine SB ?_
 refine N1 ?_
 refine sr ?_
 refine W2 ?_
 refine bdE hr fun y14 hy14 hr=>?_
 refine CB [] [] (q4R hy14) ?_
 refine W1 ?_
 refine bdE hr fun s13 hqq13 hr=>?_
 refine q0h 6 [(1,.pb 0 0),(3,.pb 1 0),(4,.d .fz (.i .i64 1)),(81,.d .fz (.b s13))] ?_ ?_
 replace hr:=hqq13
 refine ifE hr (fun h22 hr=>?_) fun h22 hr=>?_
 refine VF rfl (bnF h22) ?_
 refine W2 ?_
 refine bdE hr fun y15 hy15 hr=>?_
 refine CB [] [] (q4R hy15) ?_
 refine N2 ?_
 cases hr
 exact q3n
 refine VT rfl (bnT h22) ?_
 iterate 4 refine AL.off ?_
 refine N1 ?_
 cases hr
 exact q3n
 refine N0 ?_
 refine ifE hr (fun h23 hr=>?_) fun h23 hr=>?_
 refine q0f rfl h23 ?_
 refine sr ?_
 refine N1 ?_
 refine AW.ret ?_
 cases hr
 exact q0a [] 0 hS
 refine q0g rfl (bF h23) ?_
 refine q0b ?_
 refine sr ?_
 refine W2 ?_
 refine LF ?_
 refine W2 ?_
 refine bdE hr fun s14 hqq14 hr=>?_
 refine q0h 5 [(1,.pb 0 0),(3,.pb 1 0),(94,.d .fz (.b s14))] ?_ ?_
 replace hr:=hqq14
 refine ifE hr (fun h24 hr=>?_) fun h24 hr=>?_
 refine VT rfl (dT h24) ?_
 refine W2 ?_
 refine bdE hr fun y16 hy16 hr=>?_
 refine CB [] [] (q4V hy16) ?_
 refine N1 ?_
 cases hr
 exact q3n
 refine VF rfl (dF h24) ?_
 iterate 3 refine AL.off ?_
 refine N1 ?_
 cases hr
 exact q3n
 refine bdE hr fun s15 hqq15 hr=>?_
 refine q0h 5 [(99,.d .fz (.b s15))] ?_ ?_
 replace hr:=hqq15
 refine ifE hr (fun h25 hr=>?_) fun h25 hr=>?_
 refine VT rfl h25 ?_
 refine W2 ?_
 refine bdE hr fun y17 hy17 hr=>?_
 refine CB [] [] (q7g (m:=m) hy17) ?_
 refine N1 ?_
 cases hr
 exact q3n
 refine VF rfl (bF h25) ?_
 iterate 3 refine AL.off ?_
 refine N1 ?_
 cases hr
 exact q3n
 refine N1 ?_
 refine AW.ret ?_
 cases hr
 exact q0a [] 0 hS
 refine q0g rfl (dF h21) ?_
 refine ssr ?_
 refine N2 ?_
 refine ifE hr (fun h26 hr=>?_) fun h26 hr=>?_
 refine q0f rfl (dT h26) ?_
 refine q0b ?_
 refine ifE hr (fun h27 hr=>?_) fun h27 hr=>?_
 refine q0f rfl (dT h27) ?_
 refine q0b ?_
 refine sr ?_
 refine W2 ?_
 refine LF ?_
 refine W2 ?_
 refine bdE hr fun s16 hqq16 hr=>?_
 refine q0h 5 [(1,.pb 0 0),(2,.d .fz (.b false)),(3,.pb 1 0),(94,.d .fz (.b s16))] ?_ ?_
 replace hr:=hqq16
 refine ifE hr (fun h28 hr=>?_) fun h28 hr=>?_
 refine VT rfl (dT h28) ?_
 refine W2 ?_
 refine bdE hr fun y18 hy18 hr=>?_
 refine CB [] [] (q4V hy18) ?_
 refine N1 ?_
 cases hr
 exact q3n
 refine VF rfl (dF h28) ?_
 iterate 3 refine AL.off ?_
 refine N1 ?_
 cases hr
 exact q3n
 refine bdE hr fun s17 hqq17 hr=>?_
 refine q0h 5 [(2,.d .fz (.b false)),(99,.d .fz (.b s17))] ?_ ?_
 replace hr:=hqq17
 refine ifE hr (fun h29 hr=>?_) fun h29 hr=>?_
 refine VT rfl h29 ?_
 refine W2 ?_
 refine bdE hr fun y19 hy19 hr=>?_
 refine CB [] [] (q7g (m:=m) hy19) ?_
 refine N1 ?_
 cases hr
 exact q3n
 refine VF rfl (bF h29) ?_
 iterate 3 refine AL.off ?_
 refine N1 ?_
 cases hr
 exact q3n
 refine N1 ?_
 refine AW.ret ?_
 cases hr
 exact q0a [] 0 hS
 refine q0g rfl (dF h27) ?_
 refine sr ?_
 refine N1 ?_
 refine AW.ret ?_
 cases hr
 exact q0a [] 0 hS
 refine q0g rfl (dF h26) ?_
 refine q0c ?_
 refine N2 ?_
 refine ifE hr (fun h30 hr=>?_) fun h30 hr=>?_
 refine q0f rfl (dT h30) ?_
 refine q0b ?_
 refine sr ?_
 refine W2 ?_
 refine LF ?_
 refine W2 ?_
 refine bdE hr fun s18 hqq18 hr=>?_
 refine q0h 5 [(1,.pb 0 0),(2,.d .fz (.b false)),(3,.pb 1 0),(94,.d .fz (.b s18))] ?_ ?_
 replace hr:=hqq18
 refine ifE hr (fun h31 hr=>?_) fun h31 hr=>?_
 refine VT rfl (dT h31) ?_
 refine W2 ?_
 refine bdE hr fun y20 hy20 hr=>?_
 refine CB [] [] (q4V hy20) ?_
 refine N1 ?_
 cases hr
 exact q3n
 refine VF rfl (dF h31) ?_
 iterate 3 refine AL.off ?_
 refine N1 ?_
 cases hr
 exact q3n
 refine bdE hr fun s19 hqq19 hr=>?_
 refine q0h 5 [(2,.d .fz (.b false)),(99,.d .fz (.b s19))] ?_ ?_
 replace hr:=hqq19
 refine ifE hr (fun h32 hr=>?_) fun h32 hr=>?_
 refine VT rfl h32 ?_
 refine W2 ?_
 refine bdE hr fun y21 hy21 hr=>?_
 refine CB [] [] (q7g (m:=m) hy21) ?_
 refine N1 ?_
 cases hr
 exact q3n
 refine VF rfl (bF h32) ?_
 iterate 3 refine AL.off ?_
 refine N1 ?_
 cases hr
 exact q3n
 refine N1 ?_
 refine AW.ret ?_
 cases hr
 exact q0a [] 0 hS
 refine q0g rfl (dF h30) ?_
 refine sr ?_
 refine N1 ?_
 refine AW.ret ?_
 cases hr
 exact q0a [] 0 hS
def q5u (rec_ieveryNode_iexprNodeOk:Expr→Option Bool)(a0:Expr):Option Bool:=
 (rec_ieveryNode_iexprNodeOk a0).bind fun y1=>
 some (!y1)
theorem z1b {rec_ieveryNode_iexprNodeOk:Expr→Option Bool}(ih_ieveryNode_iexprNodeOk:∀ {m:Md} {a0:Expr} {r:Bool},rec_ieveryNode_iexprNodeOk a0=some r→Ok Tryz.prog 89 [Expr.x m a0,.fn 203 []] [] (.d .fz (.b r)) []){m:Md}{a0:Expr}{r:Bool}(hr:q5u rec_ieveryNode_iexprNodeOk a0=some r):Ok Tryz.prog 120 [Expr.x m a0,.pb 0 0] [.box [.fn 203 []]] (.d .fz (.b r)) [.box [.fn 203 []]]:=by
 refine Ok.enter rfl Tryz.func120 rfl rfl rfl fun S hS=>?_
 unfold q5u at hr
 refine sr ?_
 refine BX 1 ?_
 refine N1 ?_
 refine sr ?_
 refine W2 ?_
 refine bdE hr fun y1 hy1 hr=>?_
 refine CB [] [] (ih_ieveryNode_iexprNodeOk (m:=m) hy1) ?_
 refine N2 ?_
 refine AW.ret ?_
 cases hr
 exact q0a [(0,0)] 1 hS
def q4Y (rec_ieveryNode_iexprNodeOk:Expr→Option Bool):Nat→Expr→Unit→Option (Unit ⊕ Int):=fun k1 xk1 _=>
 (q5u rec_ieveryNode_iexprNodeOk xk1).bind fun y1=>
 if y1=true then (
 some (.inr (k1:Int))
 ) else (
 some (.inl ())
 )
def q3K (rec_ieveryNode_iexprNodeOk:Expr→Option Bool)(a0:(List Expr)):Option Int:=
 (findL (q4Y rec_ieveryNode_iexprNodeOk) 0 a0 ()).bind <| onr (fun r1=>some r1) fun _=>
 some (-1)
theorem q6B {rec_ieveryNode_iexprNodeOk:Expr→Option Bool}(ih_ieveryNode_iexprNodeOk:∀ {m:Md} {a0:Expr} {r:Bool},rec_ieveryNode_iexprNodeOk a0=some r→Ok Tryz.prog 89 [Expr.x m a0,.fn 203 []] [] (.d .fz (.b r)) []){m:Md}{a0:(List Expr)}{r:Int}(hr:q3K rec_ieveryNode_iexprNodeOk a0=some r):Ok Tryz.prog 88 [.d m (.sl 7 (a0.map Expr.D)),.fn 120 [.pb 0 0]] [.box [.fn 203 []]] (.d .fz (.i .i64 r)) [.box [.fn 203 []]]:=by
 refine Ok.enter rfl Tryz.func88 rfl rfl rfl fun S hS=>?_
 unfold q3K at hr
 refine sr ?_
 refine N1 ?_
 refine ssr ?_
 refine W1 ?_
 refine LF ?_
 refine N1 ?_
 refine AW.block ?_
 refine AW.len (.tmp 0 rfl) fun hl1=>?_
 refine bdE hr fun q1 hqq1 hr=>?_
 refine q0k hqq1 hl1 1 (fun k1 _=>[(0,.d m (.sl 7 (a0.map Expr.D))),(1,.fn 120 [.pb 0 0]),(7,.d .fz (.i .i64 (a0.length:Int))),(8,.d .fz (.i .i64 (k1:Int)))]) (fun k1 _=>[]) (q0e hS 1) (fun k1 xk1 sk1 ok1 hxk1 hr hltk1 hik1=>?_) fun k1 sk1 ek1 hltk1=>?_
 refine sr ?_
 refine N1 ?_
 refine q0d (q0f rfl (dT hltk1) ?_)
 refine q0b ?_
 refine q0d (AW.block (q0d (q0c ?_)))
 refine N2 ?_
 refine sr ?_
 refine W3 ?_
 refine IFq (Int.natCast_nonneg _) hxk1 (Expr.D_cells xk1) ?_
 refine W1 ?_
 refine bdE hr fun y1 hy1 hr=>?_
 refine CB [(0,0)] [] (z1b ih_ieveryNode_iexprNodeOk (m:=m) hy1) ?_
 refine N0 ?_
 refine ifE hr (fun h1 hr=>?_) fun h1 hr=>?_
 refine q0f rfl h1 ?_
 refine sr ?_
 refine N2 ?_
 refine AW.ret ?_
 cases hr
 cases hik1 _ rfl
 rename_i hr
 cases hr
 exact q0a [(0,0)] 1 hS
 refine q0g rfl (bF h1) ?_
 refine q0b ?_
 refine q0c ?_
 refine OB _ (q3B (p:=k1) (q:=1) (q3m hltk1 hl1)) ?_
 refine N1 ?_
 cases hr
 exact⟨_,rfl,q0e hS 1⟩
 subst ek1
 refine sr ?_
 refine N1 ?_
 refine q0d (q0g rfl (dF hltk1) ?_)
 refine q0i ?_
 refine sr ?_
 refine N1 ?_
 refine AW.ret ?_
 cases hr
 exact q0a [(0,0)] 1 hS
def q3G (rec_ieveryNode_iexprNodeOk:Expr→Option Bool)(a0:(List Expr)):Option Bool:=
 (q3K rec_ieveryNode_iexprNodeOk a0).bind fun y1=>
 some (decide (0≤y1))
theorem q6k {rec_ieveryNode_iexprNodeOk:Expr→Option Bool}(ih_ieveryNode_iexprNodeOk:∀ {m:Md} {a0:Expr} {r:Bool},rec_ieveryNode_iexprNodeOk a0=some r→Ok Tryz.prog 89 [Expr.x m a0,.fn 203 []] [] (.d .fz (.b r)) []){m:Md}{a0:(List Expr)}{r:Bool}(hr:q3G rec_ieveryNode_iexprNodeOk a0=some r):Ok Tryz.prog 48 [.d m (.sl 7 (a0.map Expr.D)),.fn 120 [.pb 0 0]] [.box [.fn 203 []]] (.d .fz (.b r)) [.box [.fn 203 []]]:=by
 refine Ok.enter rfl Tryz.func48 rfl rfl rfl fun S hS=>?_
 unfold q3G at hr
 refine sr ?_
 refine N1 ?_
 refine sr ?_
 refine W2 ?_
 refine bdE hr fun y1 hy1 hr=>?_
 refine CB [(0,0)] [] (q6B ih_ieveryNode_iexprNodeOk (m:=m) hy1) ?_
 refine N2 ?_
 refine AW.ret ?_
 cases hr
 exact q0a [(0,0)] 1 hS
def q5h (rec_ieveryNode_iexprNodeOk:Expr→Option Bool)(a0:Expr):Option Bool:=
 (q9b a0).bind fun y1=>
 if y1=true then (
 (q3G rec_ieveryNode_iexprNodeOk a0.Args).bind fun y2=>
 some (!y2)
 ) else (
 some false
 )
theorem z1p {rec_ieveryNode_iexprNodeOk:Expr→Option Bool}(ih_ieveryNode_iexprNodeOk:∀ {m:Md} {a0:Expr} {r:Bool},rec_ieveryNode_iexprNodeOk a0=some r→Ok Tryz.prog 89 [Expr.x m a0,.fn 203 []] [] (.d .fz (.b r)) []){m:Md}{a0:Expr}{r:Bool}(hr:q5h rec_ieveryNode_iexprNodeOk a0=some r):Ok Tryz.prog 89 [Expr.x m a0,.fn 203 []] [] (.d .fz (.b r)) []:=by
 refine Ok.enter rfl Tryz.func89 rfl rfl rfl fun S hS=>?_
 unfold q5h at hr
 refine sr ?_
 refine BX 0 ?_
 refine BX 1 ?_
 refine N1 ?_
 refine sr ?_
 refine W2 ?_
 refine bdE hr fun y1 hy1 hr=>?_
 refine CB [] [] (z8n (m:=m) hy1) ?_
 refine ifE hr (fun h1 hr=>?_) fun h1 hr=>?_
 refine VT rfl h1 ?_
 refine W3 ?_
 refine bdE hr fun y2 hy2 hr=>?_
 refine CB [(0,1)] [] (q6k ih_ieveryNode_iexprNodeOk (m:=m) hy2) ?_
 refine N3 ?_
 refine AW.ret ?_
 cases hr
 exact q0a [] 0 hS
 refine VF rfl (bF h1) ?_
 iterate 5 refine AL.off ?_
 refine N2 ?_
 refine AW.ret ?_
 cases hr
 exact q0a [] 0 hS
def q5i:Nat→Expr→Option Bool
  | 0,_=>none
  | n+1,a0=>q5h (q5i n) a0
def q6Y (a0:Expr):Option Bool:=recO fun n=>q5i n a0
theorem z1q (n:Nat):∀ {m:Md} {a0:Expr} {r:Bool},q5i n a0=some r→Ok Tryz.prog 89 [Expr.x m a0,.fn 203 []] [] (.d .fz (.b r)) []:=by
  induction n with
  | zero=>intro _ _ r hr; exact nomatch (show (none:Option Bool)=some r from hr)
  | succ n ih=>intro _ _ r hr; exact z1p ih hr
theorem z1L {m:Md}{a0:Expr}{r:Bool}(hr:q6Y a0=some r):Ok Tryz.prog 89 [Expr.x m a0,.fn 203 []] [] (.d .fz (.b r)) []:=by
 obtain⟨n,hn⟩:=q5a hr
 exact z1q n hn
def q8x (a0:Expr):Option Bool:=
 (z3n a0).bind fun y1=>
 (
 if y1≤24 then (
 (z1K a0).bind fun y2=>
 some (decide (y2≤6))
 ) else (
 some false
 )
 ).bind fun s1=>
 (
 if s1=true then (
 (q6Y a0).bind fun y3=>
 some y3
 ) else (
 some false
 )
 ).bind fun s2=>
 some s2
theorem z7q {m:Md}{a0:Expr}{r:Bool}(hr:q8x a0=some r):Ok Tryz.prog 194 [Expr.x m a0] [] (.d .fz (.b r)) []:=by
 refine Ok.enter rfl Tryz.func194 rfl rfl rfl fun S hS=>?_
 unfold q8x at hr
 refine sr ?_
 refine BX 0 ?_
 refine N1 ?_
 refine sr ?_
 refine W1 ?_
 refine bdE hr fun y1 hy1 hr=>?_
 refine CB [] [] (z9E (m:=m) hy1) ?_
 refine W1 ?_
 refine bdE hr fun s1 hqq1 hr=>?_
 refine q0h 5 [(1,.pb 0 0),(2,.d .fz (.b false)),(10,.d .fz (.b s1))] ?_ ?_
 replace hr:=hqq1
 refine ifE hr (fun h1 hr=>?_) fun h1 hr=>?_
 refine VT rfl (dT h1) ?_
 refine W1 ?_
 refine bdE hr fun y2 hy2 hr=>?_
 refine CB [] [] (z7o (m:=m) hy2) ?_
 refine N2 ?_
 cases hr
 exact q3n
 refine VF rfl (dF h1) ?_
 iterate 3 refine AL.off ?_
 refine N1 ?_
 cases hr
 exact q3n
 refine bdE hr fun s2 hqq2 hr=>?_
 refine q0h 4 [(2,.d .fz (.b false)),(14,.d .fz (.b s2))] ?_ ?_
 replace hr:=hqq2
 refine ifE hr (fun h2 hr=>?_) fun h2 hr=>?_
 refine VT rfl h2 ?_
 refine W1 ?_
 refine bdE hr fun y3 hy3 hr=>?_
 refine CB [] [] (z1L (m:=m) hy3) ?_
 refine N1 ?_
 cases hr
 exact q3n
 refine VF rfl (bF h2) ?_
 iterate 2 refine AL.off ?_
 refine N1 ?_
 cases hr
 exact q3n
 refine N1 ?_
 refine AW.ret ?_
 cases hr
 exact q0a [] 0 hS
def z4W (a0:Expr)(a1:Int):Option Bool:=
 some (decide (a0.Pos≤a1))
theorem j4z {m:Md}{a0:Expr}{a1:Int}{r:Bool}(hr:z4W a0 a1=some r):Ok Tryz.prog 195 [Expr.x m a0,.pb 0 0] [.box [.d .fz (.i .i64 a1)]] (.d .fz (.b r)) [.box [.d .fz (.i .i64 a1)]]:=by
 refine Ok.enter rfl Tryz.func195 rfl rfl rfl fun S hS=>?_
 unfold z4W at hr
 refine sr ?_
 refine BX 1 ?_
 refine N1 ?_
 refine sr ?_
 refine N5 ?_
 refine AW.ret ?_
 cases hr
 exact q0a [(0,0)] 1 hS
def q6y (rec_ieveryNode_ifits_1:Expr→Int→Option Bool)(a0:Expr)(a1_0:Int):Option Bool:=
 (rec_ieveryNode_ifits_1 a0 a1_0).bind fun y1=>
 some (!y1)
theorem z2z {rec_ieveryNode_ifits_1:Expr→Int→Option Bool}(ih_ieveryNode_ifits_1:∀ {m:Md} {a0:Expr} {a1_0:Int} {r:Bool},rec_ieveryNode_ifits_1 a0 a1_0=some r→Ok Tryz.prog 89 [Expr.x m a0,.fn 195 [.pb 0 0]] [.box [.d .fz (.i .i64 a1_0)]] (.d .fz (.b r)) [.box [.d .fz (.i .i64 a1_0)]]){m:Md}{a0:Expr}{a1_0:Int}{r:Bool}(hr:q6y rec_ieveryNode_ifits_1 a0 a1_0=some r):Ok Tryz.prog 120 [Expr.x m a0,.pb 1 0] [.box [.d .fz (.i .i64 a1_0)],.box [.fn 195 [.pb 0 0]]] (.d .fz (.b r)) [.box [.d .fz (.i .i64 a1_0)],.box [.fn 195 [.pb 0 0]]]:=by
 refine Ok.enter rfl Tryz.func120 rfl rfl rfl fun S hS=>?_
 unfold q6y at hr
 refine sr ?_
 refine BX 2 ?_
 refine N1 ?_
 refine sr ?_
 refine W2 ?_
 refine bdE hr fun y1 hy1 hr=>?_
 refine CB [(0,0)] [] (ih_ieveryNode_ifits_1 (m:=m) hy1) ?_
 refine N2 ?_
 refine AW.ret ?_
 cases hr
 exact q0a [(0,0),(1,1)] 2 hS
def q5j (rec_ieveryNode_ifits_1:Expr→Int→Option Bool)(a1_0_0:Int):Nat→Expr→Unit→Option (Unit ⊕ Int):=fun k1 xk1 _=>
 (q6y rec_ieveryNode_ifits_1 xk1 a1_0_0).bind fun y1=>
 if y1=true then (
 some (.inr (k1:Int))
 ) else (
 some (.inl ())
 )
def q3S (rec_ieveryNode_ifits_1:Expr→Int→Option Bool)(a0:(List Expr))(a1_0_0:Int):Option Int:=
 (findL (q5j rec_ieveryNode_ifits_1 a1_0_0) 0 a0 ()).bind <| onr (fun r1=>some r1) fun _=>
 some (-1)
theorem q6Z {rec_ieveryNode_ifits_1:Expr→Int→Option Bool}(ih_ieveryNode_ifits_1:∀ {m:Md} {a0:Expr} {a1_0:Int} {r:Bool},rec_ieveryNode_ifits_1 a0 a1_0=some r→Ok Tryz.prog 89 [Expr.x m a0,.fn 195 [.pb 0 0]] [.box [.d .fz (.i .i64 a1_0)]] (.d .fz (.b r)) [.box [.d .fz (.i .i64 a1_0)]]){m:Md}{a0:(List Expr)}{a1_0_0:Int}{r:Int}(hr:q3S rec_ieveryNode_ifits_1 a0 a1_0_0=some r):Ok Tryz.prog 88 [.d m (.sl 7 (a0.map Expr.D)),.fn 120 [.pb 1 0]] [.box [.d .fz (.i .i64 a1_0_0)],.box [.fn 195 [.pb 0 0]]] (.d .fz (.i .i64 r)) [.box [.d .fz (.i .i64 a1_0_0)],.box [.fn 195 [.pb 0 0]]]:=by
 refine Ok.enter rfl Tryz.func88 rfl rfl rfl fun S hS=>?_
 unfold q3S at hr
 refine sr ?_
 refine N1 ?_
 refine ssr ?_
 refine W1 ?_
 refine LF ?_
 refine N1 ?_
 refine AW.block ?_
 refine AW.len (.tmp 0 rfl) fun hl1=>?_
 refine bdE hr fun q1 hqq1 hr=>?_
 refine q0k hqq1 hl1 2 (fun k1 _=>[(0,.d m (.sl 7 (a0.map Expr.D))),(1,.fn 120 [.pb 1 0]),(7,.d .fz (.i .i64 (a0.length:Int))),(8,.d .fz (.i .i64 (k1:Int)))]) (fun k1 _=>[]) (q0e hS 2) (fun k1 xk1 sk1 ok1 hxk1 hr hltk1 hik1=>?_) fun k1 sk1 ek1 hltk1=>?_
 refine sr ?_
 refine N1 ?_
 refine q0d (q0f rfl (dT hltk1) ?_)
 refine q0b ?_
 refine q0d (AW.block (q0d (q0c ?_)))
 refine N2 ?_
 refine sr ?_
 refine W3 ?_
 refine IFq (Int.natCast_nonneg _) hxk1 (Expr.D_cells xk1) ?_
 refine W1 ?_
 refine bdE hr fun y1 hy1 hr=>?_
 refine CB [(0,0),(1,1)] [] (z2z ih_ieveryNode_ifits_1 (m:=m) hy1) ?_
 refine N0 ?_
 refine ifE hr (fun h1 hr=>?_) fun h1 hr=>?_
 refine q0f rfl h1 ?_
 refine sr ?_
 refine N2 ?_
 refine AW.ret ?_
 cases hr
 cases hik1 _ rfl
 rename_i hr
 cases hr
 exact q0a [(0,0),(1,1)] 2 hS
 refine q0g rfl (bF h1) ?_
 refine q0b ?_
 refine q0c ?_
 refine OB _ (q3B (p:=k1) (q:=1) (q3m hltk1 hl1)) ?_
 refine N1 ?_
 cases hr
 exact⟨_,rfl,q0e hS 2⟩
 subst ek1
 refine sr ?_
 refine N1 ?_
 refine q0d (q0g rfl (dF hltk1) ?_)
 refine q0i ?_
 refine sr ?_
 refine N1 ?_
 refine AW.ret ?_
 cases hr
 exact q0a [(0,0),(1,1)] 2 hS
def q3N (rec_ieveryNode_ifits_1:Expr→Int→Option Bool)(a0:(List Expr))(a1_0_0:Int):Option Bool:=
 (q3S rec_ieveryNode_ifits_1 a0 a1_0_0).bind fun y1=>
 some (decide (0≤y1))
theorem q6H {rec_ieveryNode_ifits_1:Expr→Int→Option Bool}(ih_ieveryNode_ifits_1:∀ {m:Md} {a0:Expr} {a1_0:Int} {r:Bool},rec_ieveryNode_ifits_1 a0 a1_0=some r→Ok Tryz.prog 89 [Expr.x m a0,.fn 195 [.pb 0 0]] [.box [.d .fz (.i .i64 a1_0)]] (.d .fz (.b r)) [.box [.d .fz (.i .i64 a1_0)]]){m:Md}{a0:(List Expr)}{a1_0_0:Int}{r:Bool}(hr:q3N rec_ieveryNode_ifits_1 a0 a1_0_0=some r):Ok Tryz.prog 48 [.d m (.sl 7 (a0.map Expr.D)),.fn 120 [.pb 1 0]] [.box [.d .fz (.i .i64 a1_0_0)],.box [.fn 195 [.pb 0 0]]] (.d .fz (.b r)) [.box [.d .fz (.i .i64 a1_0_0)],.box [.fn 195 [.pb 0 0]]]:=by
 refine Ok.enter rfl Tryz.func48 rfl rfl rfl fun S hS=>?_
 unfold q3N at hr
 refine sr ?_
 refine N1 ?_
 refine sr ?_
 refine W2 ?_
 refine bdE hr fun y1 hy1 hr=>?_
 refine CB [(0,0),(1,1)] [] (q6Z ih_ieveryNode_ifits_1 (m:=m) hy1) ?_
 refine N2 ?_
 refine AW.ret ?_
 cases hr
 exact q0a [(0,0),(1,1)] 2 hS
def q5U (rec_ieveryNode_ifits_1:Expr→Int→Option Bool)(a0:Expr)(a1_0:Int):Option Bool:=
 (z4W a0 a1_0).bind fun y1=>
 if y1=true then (
 (q3N rec_ieveryNode_ifits_1 a0.Args a1_0).bind fun y2=>
 some (!y2)
 ) else (
 some false
 )
theorem z2X {rec_ieveryNode_ifits_1:Expr→Int→Option Bool}(ih_ieveryNode_ifits_1:∀ {m:Md} {a0:Expr} {a1_0:Int} {r:Bool},rec_ieveryNode_ifits_1 a0 a1_0=some r→Ok Tryz.prog 89 [Expr.x m a0,.fn 195 [.pb 0 0]] [.box [.d .fz (.i .i64 a1_0)]] (.d .fz (.b r)) [.box [.d .fz (.i .i64 a1_0)]]){m:Md}{a0:Expr}{a1_0:Int}{r:Bool}(hr:q5U rec_ieveryNode_ifits_1 a0 a1_0=some r):Ok Tryz.prog 89 [Expr.x m a0,.fn 195 [.pb 0 0]] [.box [.d .fz (.i .i64 a1_0)]] (.d .fz (.b r)) [.box [.d .fz (.i .i64 a1_0)]]:=by
 refine Ok.enter rfl Tryz.func89 rfl rfl rfl fun S hS=>?_
 unfold q5U at hr
 refine sr ?_
 refine BX 1 ?_
 refine BX 2 ?_
 refine N1 ?_
 refine sr ?_
 refine W2 ?_
 refine bdE hr fun y1 hy1 hr=>?_
 refine CB [(0,0)] [] (j4z (m:=m) hy1) ?_
 refine ifE hr (fun h1 hr=>?_) fun h1 hr=>?_
 refine VT rfl h1 ?_
 refine W3 ?_
 refine bdE hr fun y2 hy2 hr=>?_
 refine CB [(0,0),(1,2)] [] (q6H ih_ieveryNode_ifits_1 (m:=m) hy2) ?_
 refine N3 ?_
 refine AW.ret ?_
 cases hr
 exact q0a [(0,0)] 1 hS
 refine VF rfl (bF h1) ?_
 iterate 5 refine AL.off ?_
 refine N2 ?_
 refine AW.ret ?_
 cases hr
 exact q0a [(0,0)] 1 hS
def q5V:Nat→Expr→Int→Option Bool
  | 0,_,_=>none
  | n+1,a0,a1_0=>q5U (q5V n) a0 a1_0
def q8p (a0:Expr)(a1_0:Int):Option Bool:=recO fun n=>q5V n a0 a1_0
theorem z2Y (n:Nat):∀ {m:Md} {a0:Expr} {a1_0:Int} {r:Bool},q5V n a0 a1_0=some r→Ok Tryz.prog 89 [Expr.x m a0,.fn 195 [.pb 0 0]] [.box [.d .fz (.i .i64 a1_0)]] (.d .fz (.b r)) [.box [.d .fz (.i .i64 a1_0)]]:=by
  induction n with
  | zero=>intro _ _ _ r hr; exact nomatch (show (none:Option Bool)=some r from hr)
  | succ n ih=>intro _ _ _ r hr; exact z2X ih hr
theorem z3q {m:Md}{a0:Expr}{a1_0:Int}{r:Bool}(hr:q8p a0 a1_0=some r):Ok Tryz.prog 89 [Expr.x m a0,.fn 195 [.pb 0 0]] [.box [.d .fz (.i .i64 a1_0)]] (.d .fz (.b r)) [.box [.d .fz (.i .i64 a1_0)]]:=by
 obtain⟨n,hn⟩:=q5a hr
 exact z2Y n hn
def z4w (a0:Expr)(a1:Int):Option Bool:=
 (q8x a0).bind fun y1=>
 if y1=true then (
 (q8p a0 a1).bind fun y2=>
 some y2
 ) else (
 some false
 )
theorem z9F {m:Md}{a0:Expr}{a1:Int}{r:Bool}(hr:z4w a0 a1=some r):Ok Tryz.prog 177 [Expr.x m a0,.d .fz (.i .i64 a1)] [] (.d .fz (.b r)) []:=by
 refine Ok.enter rfl Tryz.func177 rfl rfl rfl fun S hS=>?_
 unfold z4w at hr
 refine sr ?_
 refine BX 0 ?_
 refine BX 1 ?_
 refine N1 ?_
 refine sr ?_
 refine W1 ?_
 refine bdE hr fun y1 hy1 hr=>?_
 refine CB [] [] (z7q (m:=m) hy1) ?_
 refine ifE hr (fun h1 hr=>?_) fun h1 hr=>?_
 refine VT rfl h1 ?_
 refine W2 ?_
 refine bdE hr fun y2 hy2 hr=>?_
 refine CB [(0,1)] [] (z3q (m:=m) hy2) ?_
 refine N2 ?_
 refine AW.ret ?_
 cases hr
 exact q0a [] 0 hS
 refine VF rfl (bF h1) ?_
 iterate 3 refine AL.off ?_
 refine N2 ?_
 refine AW.ret ?_
 cases hr
 exact q0a [] 0 hS
def z3r:Nat→ByteArray→Unit→Option (Unit ⊕ Bool):=fun k1 xk1 _=>
 (q4e xk1).bind fun y3=>
 if y3=true then (
 some (.inl ())
 ) else (
 some (.inr false)
 )
def z3s (a0:Rule):Nat→Equation→Unit→Option (Unit ⊕ Bool):=fun k2 xk2 _=>
 (z4w xk2.Expr (a0.Right.length:Int)).bind fun y4=>
 (
 if y4=true then (
 (q4e xk2.At.Name).bind fun y5=>
 some (!y5)
 ) else (
 some true
 )
 ).bind fun s4=>
 (
 if s4=true then (
 some true
 ) else (
 (q4o xk2.At.Pos 0 (a0.Right.length:Int)).bind fun y6=>
 some (!y6)
 )
 ).bind fun s5=>
 if s5=true then (
 some (.inr false)
 ) else (
 some (.inl ())
 )
def z3t (a0:Rule):Nat→Contribution→Unit→Option (Unit ⊕ Bool):=fun k3 xk3 _=>
 (z4w xk3.Target (a0.Right.length:Int)).bind fun y7=>
 (
 if y7=true then (
 (z4w xk3.Value (a0.Right.length:Int)).bind fun y8=>
 some (!y8)
 ) else (
 some true
 )
 ).bind fun s6=>
 (
 if s6=true then (
 some true
 ) else (
 (q4e xk3.Symbol).bind fun y9=>
 some (!y9)
 )
 ).bind fun s7=>
 (
 if s7=true then (
 some true
 ) else (
 (q4e xk3.Name).bind fun y10=>
 some (!y10)
 )
 ).bind fun s8=>
 if s8=true then (
 some (.inr false)
 ) else (
 some (.inl ())
 )
def q8y (a0:Rule):Option Bool:=
 (q4e a0.Name).bind fun y1=>
 (
 if y1=true then (
 (q4e a0.Left).bind fun y2=>
 some (!y2)
 ) else (
 some true
 )
 ).bind fun s1=>
 (
 if s1=true then (
 some true
 ) else (
 some (decide (3 < (a0.Right.length:Int)))
 )
 ).bind fun s2=>
 (
 if s2=true then (
 some true
 ) else (
 some (decide (2 < (a0.Contributions.length:Int)))
 )
 ).bind fun s3=>
 if s3=true then (
 some false
 ) else (
 (findL z3r 0 a0.Right ()).bind <| onr (fun r1=>some r1) fun _=>
 (findL (z3s a0) 0 a0.Equations ()).bind <| onr (fun r2=>some r2) fun _=>
 (findL (z3t a0) 0 a0.Contributions ()).bind <| onr (fun r3=>some r3) fun _=>
 some true
 )
theorem z7r {m:Md}{a0:Rule}{r:Bool}(hr:q8y a0=some r):Ok Tryz.prog 143 [Rule.x m a0] [] (.d .fz (.b r)) []:=by
 refine Ok.enter rfl Tryz.func143 rfl rfl rfl fun S hS=>?_
 unfold q8y at hr
 refine sr ?_
 refine BX 0 ?_
 refine N1 ?_
 refine sr ?_
 refine W2 ?_
 refine LF ?_
 refine N1 ?_
 refine ssr ?_
 refine W2 ?_
 refine bdE hr fun y1 hy1 hr=>?_
 refine CB [] [] (q4R hy1) ?_
 refine W1 ?_
 refine bdE hr fun s1 hqq1 hr=>?_
 refine q0h 6 [(1,.pb 0 0),(3,.d .fz (.i .i64 (a0.Right.length:Int))),(22,.d .fz (.b s1))] ?_ ?_
 replace hr:=hqq1
 refine ifE hr (fun h1 hr=>?_) fun h1 hr=>?_
 refine VF rfl (bnF h1) ?_
 refine W2 ?_
 refine bdE hr fun y2 hy2 hr=>?_
 refine CB [] [] (q4R hy2) ?_
 refine N2 ?_
 cases hr
 exact q3n
 refine VT rfl (bnT h1) ?_
 iterate 4 refine AL.off ?_
 refine N1 ?_
 cases hr
 exact q3n
 refine bdE hr fun s2 hqq2 hr=>?_
 refine q0h 4 [(1,.pb 0 0),(3,.d .fz (.i .i64 (a0.Right.length:Int))),(26,.d .fz (.b s2))] ?_ ?_
 replace hr:=hqq2
 refine ifE hr (fun h2 hr=>?_) fun h2 hr=>?_
 refine VT rfl h2 ?_
 iterate 2 refine AL.off ?_
 refine N1 ?_
 cases hr
 exact q3n
 refine VF rfl (bF h2) ?_
 refine N3 ?_
 cases hr
 exact q3n
 refine bdE hr fun s3 hqq3 hr=>?_
 refine q0h 6 [(1,.pb 0 0),(3,.d .fz (.i .i64 (a0.Right.length:Int))),(32,.d .fz (.b s3))] ?_ ?_
 replace hr:=hqq3
 refine ifE hr (fun h3 hr=>?_) fun h3 hr=>?_
 refine VT rfl h3 ?_
 iterate 4 refine AL.off ?_
 refine N1 ?_
 cases hr
 exact q3n
 refine VF rfl (bF h3) ?_
 refine W2 ?_
 refine LF ?_
 refine N2 ?_
 cases hr
 exact q3n
 refine N0 ?_
 refine ifE hr (fun h4 hr=>?_) fun h4 hr=>?_
 refine q0f rfl h4 ?_
 refine sr ?_
 refine N1 ?_
 refine AW.ret ?_
 cases hr
 exact q0a [] 0 hS
 refine q0g rfl (bF h4) ?_
 refine q0b ?_
 refine ssr ?_
 refine W2 ?_
 refine LF ?_
 refine N1 ?_
 refine AW.block ?_
 refine AW.len (.tmp 34 rfl) fun hl1=>?_
 refine bdE hr fun q4 hqq4 hr=>?_
 refine q0k hqq4 hl1 1 (fun k1 _=>[(1,.pb 0 0),(3,.d .fz (.i .i64 (a0.Right.length:Int))),(34,.d m (.sl 1 (a0.Right.map A.D.s))),(35,.d .fz (.i .i64 (a0.Right.length:Int))),(36,.d .fz (.i .i64 (k1:Int)))]) (fun k1 _=>[]) (q0e hS 1) (fun k1 xk1 sk1 ok1 hxk1 hr hltk1 hik1=>?_) fun k1 sk1 ek1 hltk1=>?_
 refine sr ?_
 refine N1 ?_
 refine q0d (q0f rfl (dT hltk1) ?_)
 refine q0b ?_
 refine q0d (AW.block (q0d (q0c ?_)))
 refine IF (Int.natCast_nonneg _) hxk1 ?_
 refine N2 ?_
 refine sr ?_
 refine W1 ?_
 refine bdE hr fun y3 hy3 hr=>?_
 refine CB [] [] (q4R hy3) ?_
 refine N1 ?_
 refine ifE hr (fun h5 hr=>?_) fun h5 hr=>?_
 refine q0g rfl (bnF h5) ?_
 refine q0b ?_
 refine q0c ?_
 refine OB _ (q3B (p:=k1) (q:=1) (q3m hltk1 hl1)) ?_
 refine N1 ?_
 cases hr
 exact⟨_,rfl,q0e hS 1⟩
 refine q0f rfl (bnT h5) ?_
 refine sr ?_
 refine N1 ?_
 refine AW.ret ?_
 cases hr
 cases hik1 _ rfl
 rename_i hr
 cases hr
 exact q0a [] 0 hS
 subst ek1
 refine sr ?_
 refine N1 ?_
 refine q0d (q0g rfl (dF hltk1) ?_)
 refine q0i ?_
 refine ssr ?_
 refine W2 ?_
 refine LF ?_
 refine N1 ?_
 refine AW.block ?_
 refine AW.len (.tmp 45 rfl) fun hl2=>?_
 refine bdE hr fun q5 hqq5 hr=>?_
 refine q0k hqq5 hl2 1 (fun k2 _=>[(1,.pb 0 0),(3,.d .fz (.i .i64 (a0.Right.length:Int))),(45,.d m (.sl 9 (a0.Equations.map Equation.D))),(46,.d .fz (.i .i64 (a0.Equations.length:Int))),(47,.d .fz (.i .i64 (k2:Int)))]) (fun k2 _=>[]) (q0e hS 1) (fun k2 xk2 sk2 ok2 hxk2 hr hltk2 hik2=>?_) fun k2 sk2 ek2 hltk2=>?_
 refine sr ?_
 refine N1 ?_
 refine q0d (q0f rfl (dT hltk2) ?_)
 refine q0b ?_
 refine q0d (AW.block (q0d (q0c ?_)))
 refine IF (Int.natCast_nonneg _) hxk2 ?_
 refine W1 ?_
 refine NV 1 ?_
 refine SB ?_
 refine N0 ?_
 refine sr ?_
 refine W3 ?_
 refine bdE hr fun y4 hy4 hr=>?_
 refine CB [] [] (z9F (m:=m) hy4) ?_
 refine W1 ?_
 refine bdE hr fun s4 hqq6 hr=>?_
 refine q0h 7 [(1,.pb 0 0),(3,.d .fz (.i .i64 (a0.Right.length:Int))),(7,.pb 1 0),(45,.d m (.sl 9 (a0.Equations.map Equation.D))),(46,.d .fz (.i .i64 (a0.Equations.length:Int))),(47,.d .fz (.i .i64 (k2:Int))),(62,.d .fz (.b s4))] ?_ ?_
 replace hr:=hqq6
 refine ifE hr (fun h6 hr=>?_) fun h6 hr=>?_
 refine VF rfl (bnF h6) ?_
 refine W3 ?_
 refine bdE hr fun y5 hy5 hr=>?_
 refine CB [] [] (q4R hy5) ?_
 refine N2 ?_
 cases hr
 exact q3n
 refine VT rfl (bnT h6) ?_
 iterate 5 refine AL.off ?_
 refine N1 ?_
 cases hr
 exact q3n
 refine bdE hr fun s5 hqq7 hr=>?_
 refine q0h 8 [(1,.pb 0 0),(3,.d .fz (.i .i64 (a0.Right.length:Int))),(45,.d m (.sl 9 (a0.Equations.map Equation.D))),(46,.d .fz (.i .i64 (a0.Equations.length:Int))),(47,.d .fz (.i .i64 (k2:Int))),(70,.d .fz (.b s5))] ?_ ?_
 replace hr:=hqq7
 refine ifE hr (fun h7 hr=>?_) fun h7 hr=>?_
 refine VT rfl h7 ?_
 iterate 6 refine AL.off ?_
 refine N1 ?_
 cases hr
 exact q3n
 refine VF rfl (bF h7) ?_
 refine W4 ?_
 refine bdE hr fun y6 hy6 hr=>?_
 refine CB [] [] (q4V hy6) ?_
 refine N2 ?_
 cases hr
 exact q3n
 refine N0 ?_
 refine ifE hr (fun h8 hr=>?_) fun h8 hr=>?_
 refine q0f rfl h8 ?_
 refine sr ?_
 refine N1 ?_
 refine AW.ret ?_
 cases hr
 cases hik2 _ rfl
 rename_i hr
 cases hr
 exact q0a [] 0 hS
 refine q0g rfl (bF h8) ?_
 refine q0b ?_
 refine q0c ?_
 refine OB _ (q3B (p:=k2) (q:=1) (q3m hltk2 hl2)) ?_
 refine N1 ?_
 cases hr
 exact⟨_,rfl,q0e hS 1⟩
 subst ek2
 refine sr ?_
 refine N1 ?_
 refine q0d (q0g rfl (dF hltk2) ?_)
 refine q0i ?_
 refine ssr ?_
 refine W2 ?_
 refine LF ?_
 refine N1 ?_
 refine AW.block ?_
 refine AW.len (.tmp 73 rfl) fun hl3=>?_
 refine bdE hr fun q8 hqq8 hr=>?_
 refine q0k hqq8 hl3 1 (fun k3 _=>[(3,.d .fz (.i .i64 (a0.Right.length:Int))),(73,.d m (.sl 16 (a0.Contributions.map Contribution.D))),(74,.d .fz (.i .i64 (a0.Contributions.length:Int))),(75,.d .fz (.i .i64 (k3:Int)))]) (fun k3 _=>[]) (q0e hS 1) (fun k3 xk3 sk3 ok3 hxk3 hr hltk3 hik3=>?_) fun k3 sk3 ek3 hltk3=>?_
 refine sr ?_
 refine N1 ?_
 refine q0d (q0f rfl (dT hltk3) ?_)
 refine q0b ?_
 refine q0d (AW.block (q0d (q0c ?_)))
 refine IF (Int.natCast_nonneg _) hxk3 ?_
 refine W1 ?_
 refine NV 1 ?_
 refine SB ?_
 refine N0 ?_
 refine sr ?_
 refine W3 ?_
 refine bdE hr fun y7 hy7 hr=>?_
 refine CB [] [] (z9F (m:=m) hy7) ?_
 refine W1 ?_
 refine bdE hr fun s6 hqq9 hr=>?_
 refine q0h 7 [(3,.d .fz (.i .i64 (a0.Right.length:Int))),(9,.pb 1 0),(73,.d m (.sl 16 (a0.Contributions.map Contribution.D))),(74,.d .fz (.i .i64 (a0.Contributions.length:Int))),(75,.d .fz (.i .i64 (k3:Int))),(90,.d .fz (.b s6))] ?_ ?_
 replace hr:=hqq9
 refine ifE hr (fun h9 hr=>?_) fun h9 hr=>?_
 refine VF rfl (bnF h9) ?_
 refine W3 ?_
 refine bdE hr fun y8 hy8 hr=>?_
 refine CB [] [] (z9F (m:=m) hy8) ?_
 refine N2 ?_
 cases hr
 exact q3n
 refine VT rfl (bnT h9) ?_
 iterate 5 refine AL.off ?_
 refine N1 ?_
 cases hr
 exact q3n
 refine bdE hr fun s7 hqq10 hr=>?_
 refine q0h 6 [(3,.d .fz (.i .i64 (a0.Right.length:Int))),(9,.pb 1 0),(73,.d m (.sl 16 (a0.Contributions.map Contribution.D))),(74,.d .fz (.i .i64 (a0.Contributions.length:Int))),(75,.d .fz (.i .i64 (k3:Int))),(96,.d .fz (.b s7))] ?_ ?_
 replace hr:=hqq10
 refine ifE hr (fun h10 hr=>?_) fun h10 hr=>?_
 refine VT rfl h10 ?_
 iterate 4 refine AL.off ?_
 refine N1 ?_
 cases hr
 exact q3n
 refine VF rfl (bF h10) ?_
 refine W2 ?_
 refine bdE hr fun y9 hy9 hr=>?_
 refine CB [] [] (q4R hy9) ?_
 refine N2 ?_
 cases hr
 exact q3n
 refine bdE hr fun s8 hqq11 hr=>?_
 refine q0h 6 [(3,.d .fz (.i .i64 (a0.Right.length:Int))),(73,.d m (.sl 16 (a0.Contributions.map Contribution.D))),(74,.d .fz (.i .i64 (a0.Contributions.length:Int))),(75,.d .fz (.i .i64 (k3:Int))),(102,.d .fz (.b s8))] ?_ ?_
 replace hr:=hqq11
 refine ifE hr (fun h11 hr=>?_) fun h11 hr=>?_
 refine VT rfl h11 ?_
 iterate 4 refine AL.off ?_
 refine N1 ?_
 cases hr
 exact q3n
 refine VF rfl (bF h11) ?_
 refine W2 ?_
 refine bdE hr fun y10 hy10 hr=>?_
 refine CB [] [] (q4R hy10) ?_
 refine N2 ?_
 cases hr
 exact q3n
 refine N0 ?_
 refine ifE hr (fun h12 hr=>?_) fun h12 hr=>?_
 refine q0f rfl h12 ?_
 refine sr ?_
 refine N1 ?_
 refine AW.ret ?_
 cases hr
 cases hik3 _ rfl
 rename_i hr
 cases hr
 exact q0a [] 0 hS
 refine q0g rfl (bF h12) ?_
 refine q0b ?_
 refine q0c ?_
 refine OB _ (q3B (p:=k3) (q:=1) (q3m hltk3 hl3)) ?_
 refine N1 ?_
 cases hr
 exact⟨_,rfl,q0e hS 1⟩
 subst ek3
 refine sr ?_
 refine N1 ?_
 refine q0d (q0g rfl (dF hltk3) ?_)
 refine q0i ?_
 refine sr ?_
 refine N1 ?_
 refine AW.ret ?_
 cases hr
 exact q0a [] 0 hS
end Go.Proofs.YtibagkppfnjgcaaGreat
