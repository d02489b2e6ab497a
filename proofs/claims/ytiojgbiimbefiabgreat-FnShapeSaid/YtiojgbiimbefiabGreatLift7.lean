/- What some functions of the program compute, as partial functions on plain data, and that they do; each lemma bears its conditions in its statement. -/
import Derived.Test.YtiojgbiimbefiabGreatLift6
set_option linter.unusedVariables false
set_option linter.unusedSimpArgs false
set_option linter.ambiguousOpen false
set_option linter.unusedSectionVars false
set_option linter.unnecessarySimpa false
set_option maxRecDepth 100000
set_option maxHeartbeats 40000000
noncomputable section
namespace Go.Proofs.YtiojgbiimbefiabGreat
open Go Go.E Go.A
def q6G (rec_sl4Copy:Expr→Option Expr):Nat→Expr→((List Expr))→Option ((List Expr)):=fun k1 xk1 s1=>
 (rec_sl4Copy xk1).bind fun y1=>
 grd (((s1.length:Int)+1)*88≤140737488355328∧(s1.length:Int)+1≤9223372036854775807) <|
 some (s1++[y1])
def q6l (rec_sl4Copy:Expr→Option Expr)(a0:Expr):Option Expr:=
 (eachL (q6G rec_sl4Copy) 0 a0.Args ([]:List Expr)).bind fun s1=>
 some (⟨a0.Kind,a0.N,a0.Pos,a0.Type_,a0.Symbol,a0.Name,s1⟩:Expr)
theorem z6l {rec_sl4Copy:Expr→Option Expr}(ih_sl4Copy:∀ {m:Md} {a0:Expr} {r:Expr},rec_sl4Copy a0=some r→Ok Tryz.prog 27 [Expr.x m a0] [] (.ag [.d .fz (.i .i64 r.Kind),.d .fz (.i .i64 r.N),.d .fz (.i .i64 r.Pos),.d .fz (.i .i64 r.Type_),.d .fz (.s r.Symbol),.d .fz (.s r.Name),.ref 0 none]) [.row .fz 7 (r.Args.map Expr.D)]){m:Md}{a0:Expr}{r:Expr}(hr:q6l rec_sl4Copy a0=some r):Ok Tryz.prog 27 [Expr.x m a0] [] (.ag [.d .fz (.i .i64 r.Kind),.d .fz (.i .i64 r.N),.d .fz (.i .i64 r.Pos),.d .fz (.i .i64 r.Type_),.d .fz (.s r.Symbol),.d .fz (.s r.Name),.ref 0 none]) [.row .fz 7 (r.Args.map Expr.D)]:=by
 refine Ok.enter rfl Tryz.func27 rfl rfl rfl fun S hS=>?_
 unfold q6l at hr
 refine AW.seq (AW.regL ?_)
 refine BX 0 ?_
 refine NV 1 ?_
 refine AL.nil ?_
 refine AW.seq (AW.regL ?_)
 refine L0 2 Expr.D ?_
 refine V rfl ?_
 refine AL.nil ?_
 refine AW.seq (AW.seq (AW.regL ?_))
 refine V rfl ?_
 refine AL.nil ?_
 refine AW.block ?_
 refine AW.len (.ag 6 (.tmp 0 rfl) rfl) fun hl1=>?_
 refine bdE hr fun s1 hqq1 hr=>?_
 refine AW.eachL hqq1 hl1 3 (fun k1 s1=>[(1,.pb 0 0),(2,.pb 1 0),(3,.ref 2 none),(4,.d .fz (.i .i64 (k1:Int)))]) (fun k1 s1=>[(2,.row .fz 7 (s1.map Expr.D))]) (GH.renK hS [(0,0),(1,1),(2,2)] 3) (fun k1 xk1 sk1 ok1 hxk1 hr hltk1=>?_) fun k1 hltk1=>?_
 ·obtain⟨s1,rfl⟩:∃ y,y=sk1:=⟨_,rfl⟩
  refine AW.seq (AW.seq (AW.regL ?_))
  iterate 3 refine V rfl ?_
  refine LF ?_
  refine V rfl ?_
  refine AL.nil ?_
  refine AW.cT rfl (dT hltk1) ?_
  refine AW.skip ?_
  refine AW.seq (AW.block (AW.regL ?_))
  iterate 4 refine V rfl ?_
  refine IFq (Int.natCast_nonneg _) hxk1 (Expr.D_cells xk1) ?_
  refine V rfl ?_
  refine bdE hr fun y1 hy1 hr=>?_
  refine CB [(0,3)] [] (ih_sl4Copy (m:=m) hy1) ?_
  refine AL.fz 3 rfl ?_
  refine LIRq 4 (m:=.fz) (f:=Expr.D) [y1] (by simp only [List.map_cons,List.map_nil,Expr.D_eq]; rfl) ?_
  refine ggE hr fun g1 hr=>?_
  refine AP1 5 .fz 88 g1 ?_
  refine V rfl ?_
  refine AL.nil ?_
  refine AW.regL ?_
  refine V rfl ?_
  refine OB _ (q1X (p:=k1) (q:=1) (q1h hltk1 hl1)) ?_
  refine V rfl ?_
  refine AL.nil ?_
  cases hr
  exact GH.renK hS [(0,0),(1,1),(5,2)] 3
 ·refine AW.seq (AW.seq (AW.regL ?_))
  iterate 3 refine V rfl ?_
  refine LF ?_
  refine V rfl ?_
  refine AL.nil ?_
  refine AW.cF rfl (dF hltk1) ?_
  refine AW.exit ?_
  refine AW.seq (AW.regL ?_)
  iterate 2 refine V rfl ?_
  refine SB ?_
  refine AL.nil ?_
  refine AW.seq (AW.regL ?_)
  refine V rfl ?_
  refine SB ?_
  refine AL.nil ?_
  refine AW.ret ?_
  cases hr
  exact endA.renK [(2,0)] 1 hS
def q4o:Nat→Expr→Option Expr
  | 0,_=>none
  | n+1,a0=>q6l (q4o n) a0
def z2b (a0:Expr):Option Expr:=recO fun n=>q4o n a0
theorem z6m (n:Nat):∀ {m:Md} {a0:Expr} {r:Expr},q4o n a0=some r→Ok Tryz.prog 27 [Expr.x m a0] [] (.ag [.d .fz (.i .i64 r.Kind),.d .fz (.i .i64 r.N),.d .fz (.i .i64 r.Pos),.d .fz (.i .i64 r.Type_),.d .fz (.s r.Symbol),.d .fz (.s r.Name),.ref 0 none]) [.row .fz 7 (r.Args.map Expr.D)]:=by
  induction n with
  | zero=>intro _ _ r hr; exact nomatch (show (none:Option Expr)=some r from hr)
  | succ n ih=>intro _ _ r hr; exact z6l ih hr
theorem z8c {m:Md}{a0:Expr}{r:Expr}(hr:z2b a0=some r):Ok Tryz.prog 27 [Expr.x m a0] [] (.ag [.d .fz (.i .i64 r.Kind),.d .fz (.i .i64 r.N),.d .fz (.i .i64 r.Pos),.d .fz (.i .i64 r.Type_),.d .fz (.s r.Symbol),.d .fz (.s r.Name),.ref 0 none]) [.row .fz 7 (r.Args.map Expr.D)]:=by
  obtain⟨n,hn⟩:=q3M hr
  exact z6m n hn
def q4Y (a1:Occurrence):Nat→Equation→Unit→Option (Unit ⊕ (Expr × Bool)):=fun k1 xk1 _=>
 if xk1.At=a1 then (
 (z2b xk1.Expr).bind fun y1=>
 some (.inr (y1,true))
 ) else (
 some (.inl ())
 )
def q3T (a0:Rule)(a1:Occurrence):Option (Expr × Bool):=
 (findL (q4Y a1) 0 a0.Equations ()).bind <| onr (fun r1=>some r1) fun _=>
 some ((⟨0,0,0,0,(⟨#[]⟩:ByteArray),(⟨#[]⟩:ByteArray),[]⟩:Expr),false)
theorem q8c {m:Md}{a0:Rule}{a1:Occurrence}{r:(Expr × Bool)}(hr:q3T a0 a1=some r):Ok Tryz.prog 9 [Rule.x m a0,Occurrence.x .fz a1] [] (.tu [.ag [.d .fz (.i .i64 r.1.Kind),.d .fz (.i .i64 r.1.N),.d .fz (.i .i64 r.1.Pos),.d .fz (.i .i64 r.1.Type_),.d .fz (.s r.1.Symbol),.d .fz (.s r.1.Name),.ref 0 none],.d .fz (.b r.2)]) [.row .fz 7 (r.1.Args.map Expr.D)]:=by
 refine Ok.enter rfl Tryz.func9 rfl rfl rfl fun S hS=>?_
 unfold q3T at hr
 refine AW.seq (AW.regL ?_)
 refine BX 0 ?_
 refine BX 1 ?_
 refine NV 2 ?_
 refine V rfl ?_
 refine AL.nil ?_
 refine AW.seq (AW.seq (AW.regL ?_))
 refine V rfl ?_
 refine AL.nil ?_
 refine AW.block ?_
 refine AW.len (.ag 4 (.tmp 0 rfl) rfl) fun hl1=>?_
 refine bdE hr fun q1 hqq1 hr=>?_
 refine AW.findL hqq1 hl1 3 (fun k1 _=>[(2,.pb 0 0),(3,.pb 1 0),(4,.pb 2 0),(6,.d .fz (.i .i64 (k1:Int)))]) (fun k1 _=>[]) (GH.renK hS [(0,0),(1,1),(2,2)] 3) (fun k1 xk1 sk1 ok1 hxk1 hr hltk1 hik1=>?_) fun k1 sk1 ek1 hltk1=>?_
 ·refine AW.seq (AW.seq (AW.regL ?_))
  iterate 3 refine V rfl ?_
  refine LF ?_
  refine V rfl ?_
  refine AL.nil ?_
  refine AW.cT rfl (dT hltk1) ?_
  refine AW.skip ?_
  refine AW.seq (AW.block (AW.seq (AW.drawL (h:=?_))))
  iterate 3 refine V rfl ?_
  refine IF (Int.natCast_nonneg _) hxk1 ?_
  iterate 3 refine V rfl ?_
  refine SQ rfl rfl rfl rfl (q2K xk1.At a1) ?_
  refine AL.nil ?_
  refine ifE hr (fun h1 hr=>?_) fun h1 hr=>?_
  ·refine AW.cT rfl (dT h1) ?_
   refine AW.seq (AW.regL ?_)
   iterate 3 refine V rfl ?_
   refine IF (Int.natCast_nonneg _) hxk1 ?_
   iterate 2 refine V rfl ?_
   refine bdE hr fun y1 hy1 hr=>?_
   refine CB [(0,3)] [] (z8c (m:=m) hy1) ?_
   refine SB ?_
   refine V rfl ?_
   refine AL.nil ?_
   refine AW.ret ?_
   cases hr
   cases hik1 _ rfl
   rename_i hr
   cases hr
   exact endA.renK [(3,0)] 1 hS
  ·refine AW.cF rfl (dF h1) ?_
   refine AW.skip ?_
   refine AW.regL ?_
   refine V rfl ?_
   refine OB _ (q1X (p:=k1) (q:=1) (q1h hltk1 hl1)) ?_
   refine V rfl ?_
   refine AL.nil ?_
   cases hr
   exact⟨_,rfl,GH.renK hS [(0,0),(1,1),(2,2)] 3⟩
 ·subst ek1
  refine AW.seq (AW.seq (AW.regL ?_))
  iterate 3 refine V rfl ?_
  refine LF ?_
  refine V rfl ?_
  refine AL.nil ?_
  refine AW.cF rfl (dF hltk1) ?_
  refine AW.exit ?_
  refine AW.seq (AW.regL ?_)
  refine V rfl ?_
  refine SB ?_
  refine V rfl ?_
  refine AL.nil ?_
  refine AW.ret ?_
  refine endA.gh (GH.nlB (q:=2) (c:=6) (r:=3) .fz 7 rfl rfl rfl) ?_
  cases hr
  exact endA.renK [(3,0)] 1 hS
def q9j (a1:Rule):Nat→Occurrence→Unit→Option (Unit ⊕ Bool):=fun k1 xk1 _=>
 (q3T a1 xk1).bind fun (y2,y3)=>
 if y3=true then (
 some (.inl ())
 ) else (
 some (.inr true)
 )
def q5D (a0:Grammar)(a1:Rule):Option Bool:=
 (q2d a0 a1).bind fun y1=>
 (findL (q9j a1) 0 y1 ()).bind <| onr (fun r1=>some r1) fun _=>
 some false
theorem z2D {m:Md}{a0:Grammar}{a1:Rule}{r:Bool}(hr:q5D a0 a1=some r):Ok Tryz.prog 62 [Grammar.y m a0,Rule.x m a1] [] (.d .fz (.b r)) []:=by
 refine Ok.enter rfl Tryz.func62 rfl rfl rfl fun S hS=>?_
 unfold q5D at hr
 refine AW.seq (AW.regL ?_)
 refine BX 0 ?_
 refine BX 1 ?_
 refine V rfl ?_
 refine AL.nil ?_
 refine AW.seq (AW.regL ?_)
 iterate 2 refine V rfl ?_
 refine bdE hr fun y1 hy1 hr=>?_
 refine CB [(0,2)] [] (q4c (m:=m) hy1) ?_
 refine V rfl ?_
 refine AL.nil ?_
 refine AW.seq (AW.seq (AW.regL ?_))
 refine V rfl ?_
 refine AL.nil ?_
 refine AW.block ?_
 refine AW.lenR 2 rfl fun hl1=>?_
 refine bdE hr fun q1 hqq1 hr=>?_
 refine AW.findL hqq1 hl1 3 (fun k1 _=>[(3,.pb 1 0),(5,.ref 2 none),(6,.d .fz (.i .i64 (k1:Int)))]) (fun k1 _=>[]) (GH.trans (GH.bw (q:=0) [.d m (.sl 2 (a0.Symbols.map Symbol.D)),.u] (.cons .rfl (.cons .u .nil)) rfl) (GH.renK hS [(0,0),(1,1),(2,2)] 3)) (fun k1 xk1 sk1 ok1 hxk1 hr hltk1 hik1=>?_) fun k1 sk1 ek1 hltk1=>?_
 ·refine AW.seq (AW.seq (AW.regL ?_))
  iterate 2 refine V rfl ?_
  refine LE ?_
  refine V rfl ?_
  refine AL.nil ?_
  refine AW.cT rfl (dT hltk1) ?_
  refine AW.skip ?_
  refine AW.seq (AW.block (AW.seq (AW.drawL (h:=?_))))
  iterate 3 refine V rfl ?_
  refine IE hxk1 (Int.natCast_nonneg _) ?_
  refine LPa hxk1 ?_
  refine bdE hr fun q2 hq2 hr=>?_
  obtain⟨y2,y3⟩:=q2
  refine CB [(0,3)] [] (q8c (m:=m) hq2) ?_
  iterate 3 refine V rfl ?_
  refine NV 4 ?_
  refine SB ?_
  refine V rfl ?_
  refine AL.nil ?_
  refine AW.seq (AW.regL ?_)
  iterate 2 refine V rfl ?_
  refine AL.nil ?_
  refine ifE hr (fun h1 hr=>?_) fun h1 hr=>?_
  ·refine AW.cF rfl (bnF h1) ?_
   refine AW.skip ?_
   refine AW.regL ?_
   refine V rfl ?_
   refine OB _ (q1X (p:=k1) (q:=1) (q1h hltk1 hl1)) ?_
   refine V rfl ?_
   refine AL.nil ?_
   cases hr
   exact⟨_,rfl,GH.trans (GH.bw (q:=0) [.d m (.sl 2 (a0.Symbols.map Symbol.D)),.u] (.cons .rfl (.cons .u .nil)) rfl) (GH.renK hS [(0,0),(1,1),(2,2)] 3)⟩
  ·refine AW.cT rfl (bnT h1) ?_
   refine AW.seq (AW.regL ?_)
   refine V rfl ?_
   refine AL.nil ?_
   refine AW.ret ?_
   cases hr
   cases hik1 _ rfl
   rename_i hr
   cases hr
   exact endA.renK [] 0 hS
 ·subst ek1
  refine AW.seq (AW.seq (AW.regL ?_))
  iterate 2 refine V rfl ?_
  refine LE ?_
  refine V rfl ?_
  refine AL.nil ?_
  refine AW.cF rfl (dF hltk1) ?_
  refine AW.exit ?_
  refine AW.seq (AW.regL ?_)
  refine V rfl ?_
  refine AL.nil ?_
  refine AW.ret ?_
  cases hr
  exact endA.renK [] 0 hS
def z0L (a1:Occurrence):Nat→Occurrence→Unit→Option (Unit ⊕ Bool):=fun k1 xk1 _=>
 if xk1=a1 then (
 some (.inr true)
 ) else (
 some (.inl ())
 )
def q5S (a0:(List Occurrence))(a1:Occurrence):Option Bool:=
 (findL (z0L a1) 0 a0 ()).bind <| onr (fun r1=>some r1) fun _=>
 some false
theorem z0M {m:Md}{a0:(List Occurrence)}{a1:Occurrence}{r:Bool}(hr:q5S a0 a1=some r):Ok Tryz.prog 98 [.d m (.sl 2 (a0.map Occurrence.D)),Occurrence.x .fz a1] [] (.d .fz (.b r)) []:=by
 refine Ok.enter rfl Tryz.func98 rfl rfl rfl fun S hS=>?_
 unfold q5S at hr
 refine AW.seq (AW.regL ?_)
 refine BX 0 ?_
 refine V rfl ?_
 refine AL.nil ?_
 refine AW.seq (AW.seq (AW.regL ?_))
 refine V rfl ?_
 refine AL.nil ?_
 refine AW.block ?_
 refine AW.len (.tmp 0 rfl) fun hl1=>?_
 refine bdE hr fun q1 hqq1 hr=>?_
 refine AW.findL hqq1 hl1 1 (fun k1 _=>[(0,.d m (.sl 2 (a0.map Occurrence.D))),(3,.pb 0 0),(5,.d .fz (.i .i64 (k1:Int)))]) (fun k1 _=>[]) (GH.renK hS [(0,0)] 1) (fun k1 xk1 sk1 ok1 hxk1 hr hltk1 hik1=>?_) fun k1 sk1 ek1 hltk1=>?_
 ·refine AW.seq (AW.seq (AW.regL ?_))
  iterate 2 refine V rfl ?_
  refine LF ?_
  refine V rfl ?_
  refine AL.nil ?_
  refine AW.cT rfl (dT hltk1) ?_
  refine AW.skip ?_
  refine AW.seq (AW.block (AW.seq (AW.drawL (h:=?_))))
  iterate 2 refine V rfl ?_
  refine IF (Int.natCast_nonneg _) hxk1 ?_
  iterate 2 refine V rfl ?_
  refine SQ rfl rfl rfl rfl (q2K xk1 a1) ?_
  refine AL.nil ?_
  refine ifE hr (fun h1 hr=>?_) fun h1 hr=>?_
  ·refine AW.cT rfl (dT h1) ?_
   refine AW.seq (AW.regL ?_)
   refine V rfl ?_
   refine AL.nil ?_
   refine AW.ret ?_
   cases hr
   cases hik1 _ rfl
   rename_i hr
   cases hr
   exact endA.renK [] 0 hS
  ·refine AW.cF rfl (dF h1) ?_
   refine AW.skip ?_
   refine AW.regL ?_
   refine V rfl ?_
   refine OB _ (q1X (p:=k1) (q:=1) (q1h hltk1 hl1)) ?_
   refine V rfl ?_
   refine AL.nil ?_
   cases hr
   exact⟨_,rfl,GH.renK hS [(0,0)] 1⟩
 ·subst ek1
  refine AW.seq (AW.seq (AW.regL ?_))
  iterate 2 refine V rfl ?_
  refine LF ?_
  refine V rfl ?_
  refine AL.nil ?_
  refine AW.cF rfl (dF hltk1) ?_
  refine AW.exit ?_
  refine AW.seq (AW.regL ?_)
  refine V rfl ?_
  refine AL.nil ?_
  refine AW.ret ?_
  cases hr
  exact endA.renK [] 0 hS
def q7i (y1:(List Occurrence)):Nat→Equation→((List Occurrence))→Option (((List Occurrence)) ⊕ Bool):=fun k1 xk1 s1=>
 (q5S y1 xk1.At).bind fun y2=>
 if y2=true then (
 (q5S s1 xk1.At).bind fun y3=>
 if y3=true then (
 some (.inr true)
 ) else (
 grd (((s1.length:Int)+1)*24≤140737488355328∧(s1.length:Int)+1≤9223372036854775807) <|
 some (.inl (s1++[xk1.At]))
 )
 ) else (
 some (.inr true)
 )
def q6W (a0:Grammar)(a1:Rule):Option Bool:=
 (q2d a0 a1).bind fun y1=>
 (findL (q7i y1) 0 a1.Equations ([]:List Occurrence)).bind <| onr (fun r1=>some r1) fun s1=>
 some false
theorem z5h {m:Md}{a0:Grammar}{a1:Rule}{r:Bool}(hr:q6W a0 a1=some r):Ok Tryz.prog 63 [Grammar.y m a0,Rule.x m a1] [] (.d .fz (.b r)) []:=by
 refine Ok.enter rfl Tryz.func63 rfl rfl rfl fun S hS=>?_
 unfold q6W at hr
 refine AW.seq (AW.regL ?_)
 refine BX 0 ?_
 refine BX 1 ?_
 refine V rfl ?_
 refine AL.nil ?_
 refine AW.seq (AW.regL ?_)
 iterate 2 refine V rfl ?_
 refine bdE hr fun y1 hy1 hr=>?_
 refine CB [(0,2)] [] (q4c (m:=m) hy1) ?_
 refine V rfl ?_
 refine AL.nil ?_
 refine AW.seq (AW.regL ?_)
 refine L0 3 Occurrence.D ?_
 refine V rfl ?_
 refine AL.nil ?_
 refine AW.seq (AW.seq (AW.regL ?_))
 refine V rfl ?_
 refine AL.nil ?_
 refine AW.block ?_
 refine AW.len (.ag 4 (.tmp 1 rfl) rfl) fun hl1=>?_
 refine bdE hr fun q1 hqq1 hr=>?_
 refine AW.findL hqq1 hl1 4 (fun k1 s1=>[(3,.pb 1 0),(5,.ref 2 none),(6,.ref 3 none),(7,.d .fz (.i .i64 (k1:Int)))]) (fun k1 s1=>[(3,.row .fz 2 (s1.map Occurrence.D))]) (GH.trans (GH.bw (q:=0) [.d m (.sl 2 (a0.Symbols.map Symbol.D)),.u] (.cons .rfl (.cons .u .nil)) rfl) (GH.renK hS [(0,0),(1,1),(2,2),(3,3)] 4)) (fun k1 xk1 sk1 ok1 hxk1 hr hltk1 hik1=>?_) fun k1 sk1 ek1 hltk1=>?_
 ·obtain⟨s1,rfl⟩:∃ y,y=sk1:=⟨_,rfl⟩
  refine AW.seq (AW.seq (AW.regL ?_))
  iterate 3 refine V rfl ?_
  refine LF ?_
  refine V rfl ?_
  refine AL.nil ?_
  refine AW.cT rfl (dT hltk1) ?_
  refine AW.skip ?_
  refine AW.seq (AW.block (AW.seq (AW.regL ?_)))
  iterate 3 refine V rfl ?_
  refine IF (Int.natCast_nonneg _) hxk1 ?_
  iterate 2 refine V rfl ?_
  refine NV 4 ?_
  refine SB ?_
  refine AL.nil ?_
  refine AW.seq (AW.seq (AW.regL ?_))
  iterate 2 refine V rfl ?_
  refine bdE hr fun y2 hy2 hr=>?_
  refine CB [] [2] (z0M (m:=.bo) hy2) ?_
  refine V rfl ?_
  refine ifE hr (fun h1 hr=>?_) fun h1 hr=>?_
  ·refine VF rfl (bnF h1) ?_
   iterate 2 refine V rfl ?_
   refine bdE hr fun y3 hy3 hr=>?_
   refine CB [] [3] (z0M (m:=.bo) hy3) ?_
   refine V rfl ?_
   refine AL.nil ?_
   refine ifE hr (fun h2 hr=>?_) fun h2 hr=>?_
   ·refine AW.cT rfl h2 ?_
    refine AW.seq (AW.regL ?_)
    refine V rfl ?_
    refine AL.nil ?_
    refine AW.ret ?_
    cases hr
    cases hik1 _ rfl
    rename_i hr
    cases hr
    exact endA.renK [] 0 hS
   ·refine AW.cF rfl (bF h2) ?_
    refine AW.skip ?_
    refine AW.regL ?_
    iterate 2 refine V rfl ?_
    refine LIR 5 (m:=.fz) (f:=Occurrence.D) (xs:=[xk1.At]) ?_
    refine ggE hr fun g1 hr=>?_
    refine APf1 (f:=Occurrence.D) 6 (fun _=>rfl) 24 g1 ?_
    refine V rfl ?_
    refine AL.nil ?_
    refine AW.regL ?_
    refine V rfl ?_
    refine OB _ (q1X (p:=k1) (q:=1) (q1h hltk1 hl1)) ?_
    refine V rfl ?_
    refine AL.nil ?_
    cases hr
    exact⟨_,rfl,GH.trans (GH.bw (q:=0) [.d m (.sl 2 (a0.Symbols.map Symbol.D)),.u] (.cons .rfl (.cons .u .nil)) rfl) (GH.renK hS [(0,0),(1,1),(2,2),(6,3)] 4)⟩
  ·refine VT rfl (bnT h1) ?_
   refine AL.off ?_
   refine AL.off ?_
   refine AL.off ?_
   refine V rfl ?_
   refine AL.nil ?_
   refine AW.cT rfl rfl ?_
   refine AW.seq (AW.regL ?_)
   refine V rfl ?_
   refine AL.nil ?_
   refine AW.ret ?_
   cases hr
   cases hik1 _ rfl
   rename_i hr
   cases hr
   exact endA.renK [] 0 hS
 ·subst ek1
  obtain⟨s1,rfl⟩:∃ y,y=sk1:=⟨_,rfl⟩
  refine AW.seq (AW.seq (AW.regL ?_))
  iterate 3 refine V rfl ?_
  refine LF ?_
  refine V rfl ?_
  refine AL.nil ?_
  refine AW.cF rfl (dF hltk1) ?_
  refine AW.exit ?_
  refine AW.seq (AW.regL ?_)
  refine V rfl ?_
  refine AL.nil ?_
  refine AW.ret ?_
  cases hr
  exact endA.renK [] 0 hS
def q6X (a0:Occurrence)(a1:Occurrence):Option Bool:=
 (
 if a0.Pos < a1.Pos then (
 some true
 ) else (
 (
 if a0.Pos=a1.Pos then (
 some (Op.bytesLess a0.Name.toList a1.Name.toList)
 ) else (
 some false
 )
 ).bind fun s2=>
 some s2
 )
 ).bind fun s1=>
 some s1
theorem z5i {a0:Occurrence}{a1:Occurrence}{r:Bool}(hr:q6X a0 a1=some r):Ok Tryz.prog 100 [Occurrence.x .fz a0,Occurrence.x .fz a1] [] (.d .fz (.b r)) []:=by
 refine Ok.enter rfl Tryz.func100 rfl rfl rfl fun S hS=>?_
 unfold q6X at hr
 refine AW.seq (AW.regL ?_)
 refine BX 0 ?_
 refine BX 1 ?_
 refine V rfl ?_
 refine AL.nil ?_
 refine AW.seq (AW.regL ?_)
 iterate 5 refine V rfl ?_
 refine bdE hr fun s1 hqq1 hr=>?_
 refine AL.meet1 14 [(4,.d .fz (.b false)),(23,.d .fz (.b s1))] ?_ ?_
 ·replace hr:=hqq1
  refine ifE hr (fun h1 hr=>?_) fun h1 hr=>?_
  ·refine VT rfl (dT h1) ?_
   refine AL.off ?_
   refine AL.off ?_
   refine AL.off ?_
   refine AL.off ?_
   refine AL.off ?_
   refine AL.off ?_
   refine AL.off ?_
   refine AL.off ?_
   refine AL.off ?_
   refine AL.off ?_
   refine AL.off ?_
   refine AL.off ?_
   refine V rfl ?_
   refine AL.nil ?_
   cases hr
   exact q1i
  ·refine VF rfl (dF h1) ?_
   iterate 5 refine V rfl ?_
   refine bdE hr fun s2 hqq2 hr=>?_
   refine AL.meet1 7 [(4,.d .fz (.b false)),(10,.d .fz (.b false)),(22,.d .fz (.b s2))] ?_ ?_
   ·replace hr:=hqq2
    refine ifE hr (fun h2 hr=>?_) fun h2 hr=>?_
    ·refine VT rfl (dT h2) ?_
     iterate 6 refine V rfl ?_
     refine AL.nil ?_
     cases hr
     exact q1i
    ·refine VF rfl (dF h2) ?_
     refine AL.off ?_
     refine AL.off ?_
     refine AL.off ?_
     refine AL.off ?_
     refine AL.off ?_
     refine V rfl ?_
     refine AL.nil ?_
     cases hr
     exact q1i
   ·refine V rfl ?_
    refine AL.nil ?_
    cases hr
    exact q1i
 ·refine V rfl ?_
  refine AL.nil ?_
  refine AW.ret ?_
  cases hr
  exact endA.renK [] 0 hS
def q6Y (a0:(List Occurrence))(a1:Occurrence):Int→Option (Int ⊕ Int):=fun s2=>
 if s2 < (a0.length:Int) then (
 grd (0≤s2) <|
 (a0[s2.toNat]?).bind fun x1=>
 (q6X x1 a1).bind fun y1=>
 if y1=true then (
 grd (I64 (s2+1)) <|
 some (.inl (s2+1))
 ) else (
 some (.inr s2)
 )
 ) else (
 some (.inr s2)
 )
def q9U (a0:(List Occurrence))(a1:Occurrence):Option (List Occurrence):=
 (q3D (q6Y a0 a1) 0).bind fun s1=>
 if s1 < (a0.length:Int) then (
 grd (0≤s1) <|
 (a0[s1.toNat]?).bind fun x2=>
 if x2=a1 then (
 some a0
 ) else (
 grd (0≤s1) <|
 grd (s1.toNat≤a0.length) <|
 grd (((([]:List Occurrence).length:Int)+((a0.take s1.toNat).length:Int))*24≤140737488355328∧(([]:List Occurrence).length:Int)+((a0.take s1.toNat).length:Int)≤9223372036854775807) <|
 grd ((((a0.take s1.toNat).length:Int)+1)*24≤140737488355328∧((a0.take s1.toNat).length:Int)+1≤9223372036854775807) <|
 grd (0≤s1) <|
 grd (s1.toNat≤a0.length) <|
 grd (((((a0.take s1.toNat)++[a1]).length:Int)+((a0.drop s1.toNat).length:Int))*24≤140737488355328∧(((a0.take s1.toNat)++[a1]).length:Int)+((a0.drop s1.toNat).length:Int)≤9223372036854775807) <|
 some (((a0.take s1.toNat)++[a1])++(a0.drop s1.toNat))
 )
 ) else (
 grd (0≤s1) <|
 grd (s1.toNat≤a0.length) <|
 grd (((([]:List Occurrence).length:Int)+((a0.take s1.toNat).length:Int))*24≤140737488355328∧(([]:List Occurrence).length:Int)+((a0.take s1.toNat).length:Int)≤9223372036854775807) <|
 grd ((((a0.take s1.toNat).length:Int)+1)*24≤140737488355328∧((a0.take s1.toNat).length:Int)+1≤9223372036854775807) <|
 grd (0≤s1) <|
 grd (s1.toNat≤a0.length) <|
 grd (((((a0.take s1.toNat)++[a1]).length:Int)+((a0.drop s1.toNat).length:Int))*24≤140737488355328∧(((a0.take s1.toNat)++[a1]).length:Int)+((a0.drop s1.toNat).length:Int)≤9223372036854775807) <|
 some (((a0.take s1.toNat)++[a1])++(a0.drop s1.toNat))
 )
theorem z9l {m:Md}{a0:(List Occurrence)}{a1:Occurrence}{r:(List Occurrence)}(hr:q9U a0 a1=some r):Ok Tryz.prog 65 [.d m (.sl 2 (a0.map Occurrence.D)),Occurrence.x .fz a1] [] (.d m (.sl 2 (r.map Occurrence.D))) []:=by
 refine Ok.enter rfl Tryz.func65 rfl rfl rfl fun S hS=>?_
 unfold q9U at hr
 refine AW.seq (AW.regL ?_)
 refine BX 0 ?_
 refine V rfl ?_
 refine AL.nil ?_
 refine AW.seq (AW.regL ?_)
 refine V rfl ?_
 refine AL.nil ?_
 refine bdE hr fun s1 hqq1 hr=>?_
 refine AW.seq (AW.cut1 1 [(0,.d m (.sl 2 (a0.map Occurrence.D))),(3,.pb 0 0),(5,.d .fz (.i .i64 s1))] [] ?_ ?_)
 ·refine AW.block (AW.iter hqq1 1 (fun s2=>[(0,.d m (.sl 2 (a0.map Occurrence.D))),(3,.pb 0 0),(5,.d .fz (.i .i64 s2))]) (fun s2=>[]) (GH.renK hS [(0,0)] 1) fun sk1 ok1 hr hik1=>?_)
  obtain⟨s2,rfl⟩:∃ y,y=sk1:=⟨_,rfl⟩
  have hr:=hr
  refine AW.seq (AW.seq (AW.drawL (h:=?_)))
  iterate 2 refine V rfl ?_
  refine LF ?_
  refine V rfl ?_
  refine ifE hr (fun h1 hr=>?_) fun h1 hr=>?_
  ·refine VT rfl (dT h1) ?_
   iterate 2 refine V rfl ?_
   refine ggE hr fun g1 hr=>?_
   refine bdE hr fun x1 hx1 hr=>?_
   refine IF g1 hx1 ?_
   iterate 2 refine V rfl ?_
   refine bdE hr fun y1 hy1 hr=>?_
   refine CB [] [] (z5i hy1) ?_
   refine V rfl ?_
   refine AL.nil ?_
   refine ifE hr (fun h2 hr=>?_) fun h2 hr=>?_
   ·refine AW.cT rfl h2 ?_
    refine AW.skip ?_
    refine AW.block (AW.regL ?_)
    refine V rfl ?_
    refine ggE hr fun g2 hr=>?_
    refine OB _ (bAdd g2) ?_
    refine V rfl ?_
    refine AL.nil ?_
    cases hr
    exact⟨_,rfl,GH.renK hS [(0,0)] 1⟩
   ·refine AW.cF rfl (bF h2) ?_
    refine AW.exit ?_
    cases hr
    cases hik1 _ rfl
    exact GH.renK hS [(0,0)] 1
  ·refine VF rfl (dF h1) ?_
   refine AL.off ?_
   refine AL.off ?_
   refine AL.off ?_
   refine AL.off ?_
   refine AL.off ?_
   refine AL.off ?_
   refine V rfl ?_
   refine AL.nil ?_
   refine AW.cF rfl rfl ?_
   refine AW.exit ?_
   cases hr
   cases hik1 _ rfl
   exact GH.renK hS [(0,0)] 1
 ·refine AW.seq (AW.seq (AW.drawL (h:=?_)))
  iterate 2 refine V rfl ?_
  refine LF ?_
  refine V rfl ?_
  refine ifE hr (fun h3 hr=>?_) fun h3 hr=>?_
  ·refine VT rfl (dT h3) ?_
   iterate 2 refine V rfl ?_
   refine ggE hr fun g3 hr=>?_
   refine bdE hr fun x2 hx2 hr=>?_
   refine IF g3 hx2 ?_
   iterate 2 refine V rfl ?_
   refine SQ rfl rfl rfl rfl (q2K x2 a1) ?_
   refine V rfl ?_
   refine AL.nil ?_
   refine ifE hr (fun h4 hr=>?_) fun h4 hr=>?_
   ·refine AW.cT rfl (dT h4) ?_
    refine AW.seq (AW.regL ?_)
    iterate 2 refine V rfl ?_
    refine AL.nil ?_
    refine AW.ret ?_
    cases hr
    exact endA.renK [] 0 hS
   ·refine AW.cF rfl (dF h4) ?_
    refine AW.skip ?_
    refine AW.seq (AW.regL ?_)
    refine L0 1 Occurrence.D ?_
    iterate 2 refine V rfl ?_
    refine ggE hr fun g4 hr=>?_
    refine ggE hr fun g5 hr=>?_
    refine SLH g4 g5 ?_
    refine ggE hr fun g6 hr=>?_
    refine APfB (f:=Occurrence.D) 2 24 (fun _=>rfl) g6 ?_
    refine V rfl ?_
    refine AL.nil ?_
    refine AW.seq (AW.regL ?_)
    iterate 2 refine V rfl ?_
    refine LIR 3 (m:=.fz) (f:=Occurrence.D) (xs:=[a1]) ?_
    refine ggE hr fun g7 hr=>?_
    refine APf1 (f:=Occurrence.D) 4 (fun _=>rfl) 24 g7 ?_
    refine V rfl ?_
    refine AL.nil ?_
    refine AW.seq (AW.regL ?_)
    iterate 3 refine V rfl ?_
    refine ggE hr fun g8 hr=>?_
    refine ggE hr fun g9 hr=>?_
    refine SLL g8 g9 ?_
    refine ggE hr fun g10 hr=>?_
    refine APfB (f:=Occurrence.D) 5 24 (fun _=>rfl) g10 ?_
    refine V rfl ?_
    refine AL.nil ?_
    refine AW.ret ?_
    refine endA.gh (GH.freeze (r:=5) rfl) ?_
    cases hr
    exact endA.ren [] 0 (.inr rfl) hS rfl rfl rfl (.md rfl) rfl rfl
  ·refine VF rfl (dF h3) ?_
   refine AL.off ?_
   refine AL.off ?_
   refine AL.off ?_
   refine AL.off ?_
   refine AL.off ?_
   refine AL.off ?_
   refine V rfl ?_
   refine AL.nil ?_
   refine AW.cF rfl rfl ?_
   refine AW.skip ?_
   refine AW.seq (AW.regL ?_)
   refine L0 1 Occurrence.D ?_
   iterate 2 refine V rfl ?_
   refine ggE hr fun g11 hr=>?_
   refine ggE hr fun g12 hr=>?_
   refine SLH g11 g12 ?_
   refine ggE hr fun g13 hr=>?_
   refine APfB (f:=Occurrence.D) 2 24 (fun _=>rfl) g13 ?_
   refine V rfl ?_
   refine AL.nil ?_
   refine AW.seq (AW.regL ?_)
   iterate 2 refine V rfl ?_
   refine LIR 3 (m:=.fz) (f:=Occurrence.D) (xs:=[a1]) ?_
   refine ggE hr fun g14 hr=>?_
   refine APf1 (f:=Occurrence.D) 4 (fun _=>rfl) 24 g14 ?_
   refine V rfl ?_
   refine AL.nil ?_
   refine AW.seq (AW.regL ?_)
   iterate 3 refine V rfl ?_
   refine ggE hr fun g15 hr=>?_
   refine ggE hr fun g16 hr=>?_
   refine SLL g15 g16 ?_
   refine ggE hr fun g17 hr=>?_
   refine APfB (f:=Occurrence.D) 5 24 (fun _=>rfl) g17 ?_
   refine V rfl ?_
   refine AL.nil ?_
   refine AW.ret ?_
   refine endA.gh (GH.freeze (r:=5) rfl) ?_
   cases hr
   exact endA.ren [] 0 (.inr rfl) hS rfl rfl rfl (.md rfl) rfl rfl
def q6H (rec_sl4Uses:Expr→(List Occurrence)→Option (List Occurrence)):Nat→Expr→((List Occurrence))→Option ((List Occurrence)):=fun k1 xk1 s1=>
 (rec_sl4Uses xk1 s1).bind fun y2=>
 some y2
def z0u (rec_sl4Uses:Expr→(List Occurrence)→Option (List Occurrence)):Nat→Expr→((List Occurrence))→Option ((List Occurrence)):=fun k2 xk2 s2=>
 (rec_sl4Uses xk2 s2).bind fun y3=>
 some y3
def q6m (rec_sl4Uses:Expr→(List Occurrence)→Option (List Occurrence))(a0:Expr)(a1:(List Occurrence)):Option (List Occurrence):=
 if a0.Kind=3 then (
 (q9U a1 (⟨a0.Pos,a0.Name⟩:Occurrence)).bind fun y1=>
 (eachL (q6H rec_sl4Uses) 0 a0.Args y1).bind fun s1=>
 some s1
 ) else (
 (eachL (z0u rec_sl4Uses) 0 a0.Args a1).bind fun s2=>
 some s2
 )
theorem z6n {rec_sl4Uses:Expr→(List Occurrence)→Option (List Occurrence)}(ih_sl4Uses:∀ {m:Md} {a0:Expr} {a1:(List Occurrence)} {r:(List Occurrence)},rec_sl4Uses a0 a1=some r→Ok Tryz.prog 28 [Expr.x m a0,.d m (.sl 2 (a1.map Occurrence.D))] [] (.d m (.sl 2 (r.map Occurrence.D))) []){m:Md}{a0:Expr}{a1:(List Occurrence)}{r:(List Occurrence)}(hr:q6m rec_sl4Uses a0 a1=some r):Ok Tryz.prog 28 [Expr.x m a0,.d m (.sl 2 (a1.map Occurrence.D))] [] (.d m (.sl 2 (r.map Occurrence.D))) []:=by
 refine Ok.enter rfl Tryz.func28 rfl rfl rfl fun S hS=>?_
 unfold q6m at hr
 refine AW.seq (AW.regL ?_)
 refine BX 0 ?_
 refine V rfl ?_
 refine AL.nil ?_
 refine AW.seq (AW.seq (AW.regL ?_))
 iterate 3 refine V rfl ?_
 refine AL.nil ?_
 refine ifE hr (fun h1 hr=>?_) fun h1 hr=>?_
 ·refine AW.cT rfl (dT h1) ?_
  refine AW.regL ?_
  iterate 6 refine V rfl ?_
  refine bdE hr fun y1 hy1 hr=>?_
  refine CB [] [] (z9l (m:=m) hy1) ?_
  refine V rfl ?_
  refine AL.nil ?_
  refine AW.seq (AW.seq (AW.regL ?_))
  refine V rfl ?_
  refine AL.nil ?_
  refine AW.block ?_
  refine AW.len (.ag 6 (.tmp 0 rfl) rfl) fun hl1=>?_
  refine bdE hr fun s1 hqq1 hr=>?_
  refine AW.eachL hqq1 hl1 1 (fun k1 s1=>[(1,.d m (.sl 2 (s1.map Occurrence.D))),(2,.pb 0 0),(5,.d .fz (.i .i64 (k1:Int)))]) (fun k1 s1=>[]) (GH.renK hS [(0,0)] 1) (fun k1 xk1 sk1 ok1 hxk1 hr hltk1=>?_) fun k1 hltk1=>?_
  ·obtain⟨s1,rfl⟩:∃ y,y=sk1:=⟨_,rfl⟩
   refine AW.seq (AW.seq (AW.regL ?_))
   iterate 3 refine V rfl ?_
   refine LF ?_
   refine V rfl ?_
   refine AL.nil ?_
   refine AW.cT rfl (dT hltk1) ?_
   refine AW.skip ?_
   refine AW.seq (AW.block (AW.regL ?_))
   iterate 3 refine V rfl ?_
   refine IFq (Int.natCast_nonneg _) hxk1 (Expr.D_cells xk1) ?_
   iterate 2 refine V rfl ?_
   refine bdE hr fun y2 hy2 hr=>?_
   refine CB [] [] (ih_sl4Uses (m:=m) hy2) ?_
   refine V rfl ?_
   refine AL.nil ?_
   refine AW.regL ?_
   refine V rfl ?_
   refine OB _ (q1X (p:=k1) (q:=1) (q1h hltk1 hl1)) ?_
   refine V rfl ?_
   refine AL.nil ?_
   cases hr
   exact GH.renK hS [(0,0)] 1
  ·refine AW.seq (AW.seq (AW.regL ?_))
   iterate 3 refine V rfl ?_
   refine LF ?_
   refine V rfl ?_
   refine AL.nil ?_
   refine AW.cF rfl (dF hltk1) ?_
   refine AW.exit ?_
   refine AW.seq (AW.regL ?_)
   iterate 2 refine V rfl ?_
   refine AL.nil ?_
   refine AW.ret ?_
   cases hr
   exact endA.renK [] 0 hS
 ·refine AW.cF rfl (dF h1) ?_
  refine AW.skip ?_
  refine AW.seq (AW.seq (AW.regL ?_))
  refine V rfl ?_
  refine AL.nil ?_
  refine AW.block ?_
  refine AW.len (.ag 6 (.tmp 0 rfl) rfl) fun hl2=>?_
  refine bdE hr fun s2 hqq2 hr=>?_
  refine AW.eachL hqq2 hl2 1 (fun k2 s2=>[(1,.d m (.sl 2 (s2.map Occurrence.D))),(2,.pb 0 0),(5,.d .fz (.i .i64 (k2:Int)))]) (fun k2 s2=>[]) (GH.renK hS [(0,0)] 1) (fun k2 xk2 sk2 ok2 hxk2 hr hltk2=>?_) fun k2 hltk2=>?_
  ·obtain⟨s2,rfl⟩:∃ y,y=sk2:=⟨_,rfl⟩
   refine AW.seq (AW.seq (AW.regL ?_))
   iterate 3 refine V rfl ?_
   refine LF ?_
   refine V rfl ?_
   refine AL.nil ?_
   refine AW.cT rfl (dT hltk2) ?_
   refine AW.skip ?_
   refine AW.seq (AW.block (AW.regL ?_))
   iterate 3 refine V rfl ?_
   refine IFq (Int.natCast_nonneg _) hxk2 (Expr.D_cells xk2) ?_
   iterate 2 refine V rfl ?_
   refine bdE hr fun y3 hy3 hr=>?_
   refine CB [] [] (ih_sl4Uses (m:=m) hy3) ?_
   refine V rfl ?_
   refine AL.nil ?_
   refine AW.regL ?_
   refine V rfl ?_
   refine OB _ (q1X (p:=k2) (q:=1) (q1h hltk2 hl2)) ?_
   refine V rfl ?_
   refine AL.nil ?_
   cases hr
   exact GH.renK hS [(0,0)] 1
  ·refine AW.seq (AW.seq (AW.regL ?_))
   iterate 3 refine V rfl ?_
   refine LF ?_
   refine V rfl ?_
   refine AL.nil ?_
   refine AW.cF rfl (dF hltk2) ?_
   refine AW.exit ?_
   refine AW.seq (AW.regL ?_)
   iterate 2 refine V rfl ?_
   refine AL.nil ?_
   refine AW.ret ?_
   cases hr
   exact endA.renK [] 0 hS
def q3C:Nat→Expr→(List Occurrence)→Option (List Occurrence)
  | 0,_,_=>none
  | n+1,a0,a1=>q6m (q3C n) a0 a1
def z2c (a0:Expr)(a1:(List Occurrence)):Option (List Occurrence):=recO fun n=>q3C n a0 a1
theorem z6o (n:Nat):∀ {m:Md} {a0:Expr} {a1:(List Occurrence)} {r:(List Occurrence)},q3C n a0 a1=some r→Ok Tryz.prog 28 [Expr.x m a0,.d m (.sl 2 (a1.map Occurrence.D))] [] (.d m (.sl 2 (r.map Occurrence.D))) []:=by
  induction n with
  | zero=>intro _ _ _ r hr; exact nomatch (show (none:Option (List Occurrence))=some r from hr)
  | succ n ih=>intro _ _ _ r hr; exact z6n ih hr
theorem z8d {m:Md}{a0:Expr}{a1:(List Occurrence)}{r:(List Occurrence)}(hr:z2c a0 a1=some r):Ok Tryz.prog 28 [Expr.x m a0,.d m (.sl 2 (a1.map Occurrence.D))] [] (.d m (.sl 2 (r.map Occurrence.D))) []:=by
  obtain⟨n,hn⟩:=q3M hr
  exact z6o n hn
def q3y (a0:Expr):Option (List Occurrence):=
 (z2c a0 []).bind fun y1=>
 some y1
theorem q7M {m:Md}{a0:Expr}{r:(List Occurrence)}(hr:q3y a0=some r):Ok Tryz.prog 10 [Expr.x m a0] [] (.d m (.sl 2 (r.map Occurrence.D))) []:=by
 refine Ok.enter rfl Tryz.func10 rfl rfl rfl fun S hS=>?_
 unfold q3y at hr
 refine AW.seq (AW.regL ?_)
 refine BX 0 ?_
 refine V rfl ?_
 refine AL.nil ?_
 refine AW.seq (AW.regL ?_)
 refine V rfl ?_
 refine L0 1 Occurrence.D ?_
 refine AL.fz 1 rfl ?_
 refine bdE hr fun y1 hy1 hr=>?_
 refine CB [] [] (z8d (m:=m) hy1) ?_
 refine V rfl ?_
 refine AL.nil ?_
 refine AW.ret ?_
 cases hr
 exact endA.renK [] 0 hS
def q8K (a0:Grammar)(a1:Rule)(a2:Occurrence):Option Bool:=
 (q3d a2.Pos 0 (a1.Right.length:Int)).bind fun y1=>
 if y1=true then (
 (q3m a1 a2.Pos).bind fun y2=>
 (q3e a0 y2).bind fun (y3,y4)=>
 (q2T y3 a2.Name).bind fun (y5,y6)=>
 if a2.Pos=0 then (
 (
 if y6=true then (
 some (decide (y5.Mode=1))
 ) else (
 some false
 )
 ).bind fun s1=>
 some s1
 ) else (
 (
 if y6=true then (
 some (decide (y5.Mode=2))
 ) else (
 some false
 )
 ).bind fun s2=>
 some s2
 )
 ) else (
 some false
 )
theorem z8e {m:Md}{a0:Grammar}{a1:Rule}{a2:Occurrence}{r:Bool}(hr:q8K a0 a1 a2=some r):Ok Tryz.prog 128 [Grammar.y m a0,Rule.x m a1,Occurrence.x .fz a2] [] (.d .fz (.b r)) []:=by
 refine Ok.enter rfl Tryz.func128 rfl rfl rfl fun S hS=>?_
 unfold q8K at hr
 refine AW.seq (AW.regL ?_)
 refine BX 0 ?_
 refine BX 1 ?_
 refine BX 2 ?_
 refine V rfl ?_
 refine AL.nil ?_
 refine AW.seq (AW.seq (AW.regL ?_))
 iterate 4 refine V rfl ?_
 refine LF ?_
 refine bdE hr fun y1 hy1 hr=>?_
 refine CB [] [] (q3K hy1) ?_
 refine V rfl ?_
 refine AL.nil ?_
 refine ifE hr (fun h1 hr=>?_) fun h1 hr=>?_
 ·refine AW.cF rfl (bnF h1) ?_
  refine AW.skip ?_
  refine AW.seq (AW.drawL (h:=?_))
  iterate 4 refine V rfl ?_
  refine bdE hr fun y2 hy2 hr=>?_
  refine CB [] [] (q6g (m:=m) hy2) ?_
  refine bdE hr fun q1 hq1 hr=>?_
  obtain⟨y3,y4⟩:=q1
  refine CB [(0,3)] [] (q4M (m:=m) hq1) ?_
  iterate 3 refine V rfl ?_
  refine NV 4 ?_
  refine SB ?_
  refine V rfl ?_
  refine AL.nil ?_
  refine AW.seq (AW.regL ?_)
  iterate 3 refine V rfl ?_
  refine bdE hr fun q2 hq2 hr=>?_
  obtain⟨y5,y6⟩:=q2
  refine CB [] [3] (q7z (m:=.bo) hq2) ?_
  iterate 3 refine V rfl ?_
  refine NV 5 ?_
  refine SB ?_
  refine V rfl ?_
  refine AL.nil ?_
  refine AW.seq (AW.seq (AW.regL ?_))
  iterate 3 refine V rfl ?_
  refine AL.nil ?_
  refine ifE hr (fun h2 hr=>?_) fun h2 hr=>?_
  ·refine AW.cT rfl (dT h2) ?_
   refine AW.seq (AW.regL ?_)
   refine V rfl ?_
   refine bdE hr fun s1 hqq3 hr=>?_
   refine AL.meet1 5 [(6,.d .fz (.b false)),(42,.d .fz (.b s1))] ?_ ?_
   ·replace hr:=hqq3
    refine ifE hr (fun h3 hr=>?_) fun h3 hr=>?_
    ·refine VT rfl h3 ?_
     iterate 4 refine V rfl ?_
     refine AL.nil ?_
     cases hr
     exact q1i
    ·refine VF rfl (bF h3) ?_
     refine AL.off ?_
     refine AL.off ?_
     refine AL.off ?_
     refine V rfl ?_
     refine AL.nil ?_
     cases hr
     exact q1i
   ·refine V rfl ?_
    refine AL.nil ?_
    refine AW.ret ?_
    cases hr
    exact endA.renK [] 0 hS
  ·refine AW.cF rfl (dF h2) ?_
   refine AW.skip ?_
   refine AW.seq (AW.regL ?_)
   refine V rfl ?_
   refine bdE hr fun s2 hqq4 hr=>?_
   refine AL.meet1 5 [(6,.d .fz (.b false)),(48,.d .fz (.b s2))] ?_ ?_
   ·replace hr:=hqq4
    refine ifE hr (fun h4 hr=>?_) fun h4 hr=>?_
    ·refine VT rfl h4 ?_
     iterate 4 refine V rfl ?_
     refine AL.nil ?_
     cases hr
     exact q1i
    ·refine VF rfl (bF h4) ?_
     refine AL.off ?_
     refine AL.off ?_
     refine AL.off ?_
     refine V rfl ?_
     refine AL.nil ?_
     cases hr
     exact q1i
   ·refine V rfl ?_
    refine AL.nil ?_
    refine AW.ret ?_
    cases hr
    exact endA.renK [] 0 hS
 ·refine AW.cT rfl (bnT h1) ?_
  refine AW.seq (AW.regL ?_)
  refine V rfl ?_
  refine AL.nil ?_
  refine AW.ret ?_
  cases hr
  exact endA.renK [] 0 hS
def z2d (a0:Grammar)(a1:Rule):Nat→Occurrence→Unit→Option (Unit ⊕ Bool):=fun k1 xk1 _=>
 (q8K a0 a1 xk1).bind fun y2=>
 if y2=true then (
 some (.inl ())
 ) else (
 some (.inr false)
 )
def q5T (a0:Grammar)(a1:Rule)(a2:Expr):Option Bool:=
 (q3y a2).bind fun y1=>
 (findL (z2d a0 a1) 0 y1 ()).bind <| onr (fun r1=>some r1) fun _=>
 some true
theorem q9v {m:Md}{a0:Grammar}{a1:Rule}{a2:Expr}{r:Bool}(hr:q5T a0 a1 a2=some r):Ok Tryz.prog 99 [Grammar.y m a0,Rule.x m a1,Expr.x m a2] [] (.d .fz (.b r)) []:=by
 refine Ok.enter rfl Tryz.func99 rfl rfl rfl fun S hS=>?_
 unfold q5T at hr
 refine AW.seq (AW.regL ?_)
 refine BX 0 ?_
 refine BX 1 ?_
 refine BX 2 ?_
 refine V rfl ?_
 refine AL.nil ?_
 refine AW.seq (AW.regL ?_)
 refine V rfl ?_
 refine bdE hr fun y1 hy1 hr=>?_
 refine CB [] [] (q7M (m:=m) hy1) ?_
 refine V rfl ?_
 refine AL.nil ?_
 refine AW.seq (AW.seq (AW.regL ?_))
 refine V rfl ?_
 refine AL.nil ?_
 refine AW.block ?_
 refine AW.len (.tmp 7 rfl) fun hl1=>?_
 refine bdE hr fun q1 hqq1 hr=>?_
 refine AW.findL hqq1 hl1 3 (fun k1 _=>[(3,.pb 0 0),(4,.pb 1 0),(7,.d m (.sl 2 (y1.map Occurrence.D))),(8,.d .fz (.i .i64 (k1:Int)))]) (fun k1 _=>[]) (GH.trans (GH.bw (q:=0) [.d m (.sl 2 (a0.Symbols.map Symbol.D)),.u] (.cons .rfl (.cons .u .nil)) rfl) (GH.renK hS [(0,0),(1,1),(2,2)] 3)) (fun k1 xk1 sk1 ok1 hxk1 hr hltk1 hik1=>?_) fun k1 sk1 ek1 hltk1=>?_
 ·refine AW.seq (AW.seq (AW.regL ?_))
  iterate 2 refine V rfl ?_
  refine LF ?_
  refine V rfl ?_
  refine AL.nil ?_
  refine AW.cT rfl (dT hltk1) ?_
  refine AW.skip ?_
  refine AW.seq (AW.block (AW.seq (AW.drawL (h:=?_))))
  iterate 4 refine V rfl ?_
  refine IF (Int.natCast_nonneg _) hxk1 ?_
  refine V rfl ?_
  refine bdE hr fun y2 hy2 hr=>?_
  refine CB [] [] (z8e (m:=m) hy2) ?_
  refine V rfl ?_
  refine AL.nil ?_
  refine ifE hr (fun h1 hr=>?_) fun h1 hr=>?_
  ·refine AW.cF rfl (bnF h1) ?_
   refine AW.skip ?_
   refine AW.regL ?_
   refine V rfl ?_
   refine OB _ (q1X (p:=k1) (q:=1) (q1h hltk1 hl1)) ?_
   refine V rfl ?_
   refine AL.nil ?_
   cases hr
   exact⟨_,rfl,GH.trans (GH.bw (q:=0) [.d m (.sl 2 (a0.Symbols.map Symbol.D)),.u] (.cons .rfl (.cons .u .nil)) rfl) (GH.renK hS [(0,0),(1,1),(2,2)] 3)⟩
  ·refine AW.cT rfl (bnT h1) ?_
   refine AW.seq (AW.regL ?_)
   refine V rfl ?_
   refine AL.nil ?_
   refine AW.ret ?_
   cases hr
   cases hik1 _ rfl
   rename_i hr
   cases hr
   exact endA.renK [] 0 hS
 ·subst ek1
  refine AW.seq (AW.seq (AW.regL ?_))
  iterate 2 refine V rfl ?_
  refine LF ?_
  refine V rfl ?_
  refine AL.nil ?_
  refine AW.cF rfl (dF hltk1) ?_
  refine AW.exit ?_
  refine AW.seq (AW.regL ?_)
  refine V rfl ?_
  refine AL.nil ?_
  refine AW.ret ?_
  cases hr
  exact endA.renK [] 0 hS
def q9V (a0:Grammar)(a1:Rule):Nat→Equation→Unit→Option (Unit ⊕ Bool):=fun k1 xk1 _=>
 (q5T a0 a1 xk1.Expr).bind fun y1=>
 if y1=true then (
 some (.inl ())
 ) else (
 some (.inr true)
 )
def q9W (a0:Grammar)(a1:Rule):Nat→Contribution→Unit→Option (Unit ⊕ Bool):=fun k2 xk2 _=>
 (q5T a0 a1 xk2.Target).bind fun y2=>
 if y2=true then (
 (q5T a0 a1 xk2.Value).bind fun y3=>
 if y3=true then (
 some (.inl ())
 ) else (
 some (.inr true)
 )
 ) else (
 some (.inr true)
 )
def q6n (a0:Grammar)(a1:Rule):Option Bool:=
 (findL (q9V a0 a1) 0 a1.Equations ()).bind <| onr (fun r1=>some r1) fun _=>
 (findL (q9W a0 a1) 0 a1.Contributions ()).bind <| onr (fun r2=>some r2) fun _=>
 some false
theorem z3V {m:Md}{a0:Grammar}{a1:Rule}{r:Bool}(hr:q6n a0 a1=some r):Ok Tryz.prog 64 [Grammar.y m a0,Rule.x m a1] [] (.d .fz (.b r)) []:=by
 refine Ok.enter rfl Tryz.func64 rfl rfl rfl fun S hS=>?_
 unfold q6n at hr
 refine AW.seq (AW.regL ?_)
 refine BX 0 ?_
 refine BX 1 ?_
 refine V rfl ?_
 refine AL.nil ?_
 refine AW.seq (AW.seq (AW.regL ?_))
 refine V rfl ?_
 refine AL.nil ?_
 refine AW.block ?_
 refine AW.len (.ag 4 (.tmp 1 rfl) rfl) fun hl1=>?_
 refine bdE hr fun q1 hqq1 hr=>?_
 refine AW.findL hqq1 hl1 2 (fun k1 _=>[(2,.pb 0 0),(3,.pb 1 0),(5,.d .fz (.i .i64 (k1:Int)))]) (fun k1 _=>[]) (GH.trans (GH.bw (q:=0) [.d m (.sl 2 (a0.Symbols.map Symbol.D)),.u] (.cons .rfl (.cons .u .nil)) rfl) (GH.renK hS [(0,0),(1,1)] 2)) (fun k1 xk1 sk1 ok1 hxk1 hr hltk1 hik1=>?_) fun k1 sk1 ek1 hltk1=>?_
 ·refine AW.seq (AW.seq (AW.regL ?_))
  iterate 3 refine V rfl ?_
  refine LF ?_
  refine V rfl ?_
  refine AL.nil ?_
  refine AW.cT rfl (dT hltk1) ?_
  refine AW.skip ?_
  refine AW.seq (AW.block (AW.seq (AW.drawL (h:=?_))))
  iterate 5 refine V rfl ?_
  refine IF (Int.natCast_nonneg _) hxk1 ?_
  iterate 2 refine V rfl ?_
  refine bdE hr fun y1 hy1 hr=>?_
  refine CB [] [] (q9v (m:=m) hy1) ?_
  refine V rfl ?_
  refine AL.nil ?_
  refine ifE hr (fun h1 hr=>?_) fun h1 hr=>?_
  ·refine AW.cF rfl (bnF h1) ?_
   refine AW.skip ?_
   refine AW.regL ?_
   refine V rfl ?_
   refine OB _ (q1X (p:=k1) (q:=1) (q1h hltk1 hl1)) ?_
   refine V rfl ?_
   refine AL.nil ?_
   cases hr
   exact⟨_,rfl,GH.trans (GH.bw (q:=0) [.d m (.sl 2 (a0.Symbols.map Symbol.D)),.u] (.cons .rfl (.cons .u .nil)) rfl) (GH.renK hS [(0,0),(1,1)] 2)⟩
  ·refine AW.cT rfl (bnT h1) ?_
   refine AW.seq (AW.regL ?_)
   refine V rfl ?_
   refine AL.nil ?_
   refine AW.ret ?_
   cases hr
   cases hik1 _ rfl
   rename_i hr
   cases hr
   exact endA.renK [] 0 hS
 ·subst ek1
  refine AW.seq (AW.seq (AW.regL ?_))
  iterate 3 refine V rfl ?_
  refine LF ?_
  refine V rfl ?_
  refine AL.nil ?_
  refine AW.cF rfl (dF hltk1) ?_
  refine AW.exit ?_
  refine AW.seq (AW.seq (AW.regL ?_))
  refine V rfl ?_
  refine AL.nil ?_
  refine AW.block ?_
  refine AW.len (.box 1 5 rfl rfl) fun hl2=>?_
  refine bdE hr fun q2 hqq2 hr=>?_
  refine AW.findL hqq2 hl2 2 (fun k2 _=>[(2,.pb 0 0),(3,.pb 1 0),(6,.d .fz (.i .i64 (k2:Int)))]) (fun k2 _=>[]) (GH.trans (GH.bw (q:=0) [.d m (.sl 2 (a0.Symbols.map Symbol.D)),.u] (.cons .rfl (.cons .u .nil)) rfl) (GH.renK hS [(0,0),(1,1)] 2)) (fun k2 xk2 sk2 ok2 hxk2 hr hltk2 hik2=>?_) fun k2 sk2 ek2 hltk2=>?_
  ·refine AW.seq (AW.seq (AW.regL ?_))
   iterate 3 refine V rfl ?_
   refine LF ?_
   refine V rfl ?_
   refine AL.nil ?_
   refine AW.cT rfl (dT hltk2) ?_
   refine AW.skip ?_
   refine AW.seq (AW.block (AW.seq (AW.drawL (h:=?_))))
   iterate 5 refine V rfl ?_
   refine IF (Int.natCast_nonneg _) hxk2 ?_
   iterate 2 refine V rfl ?_
   refine bdE hr fun y2 hy2 hr=>?_
   refine CB [] [] (q9v (m:=m) hy2) ?_
   refine V rfl ?_
   refine ifE hr (fun h2 hr=>?_) fun h2 hr=>?_
   ·refine VF rfl (bnF h2) ?_
    iterate 5 refine V rfl ?_
    refine IF (Int.natCast_nonneg _) hxk2 ?_
    iterate 2 refine V rfl ?_
    refine bdE hr fun y3 hy3 hr=>?_
    refine CB [] [] (q9v (m:=m) hy3) ?_
    iterate 2 refine V rfl ?_
    refine AL.nil ?_
    refine ifE hr (fun h3 hr=>?_) fun h3 hr=>?_
    ·refine AW.cF rfl (bnF h3) ?_
     refine AW.skip ?_
     refine AW.regL ?_
     refine V rfl ?_
     refine OB _ (q1X (p:=k2) (q:=1) (q1h hltk2 hl2)) ?_
     refine V rfl ?_
     refine AL.nil ?_
     cases hr
     exact⟨_,rfl,GH.trans (GH.bw (q:=0) [.d m (.sl 2 (a0.Symbols.map Symbol.D)),.u] (.cons .rfl (.cons .u .nil)) rfl) (GH.renK hS [(0,0),(1,1)] 2)⟩
    ·refine AW.cT rfl (bnT h3) ?_
     refine AW.seq (AW.regL ?_)
     refine V rfl ?_
     refine AL.nil ?_
     refine AW.ret ?_
     cases hr
     cases hik2 _ rfl
     rename_i hr
     cases hr
     exact endA.renK [] 0 hS
   ·refine VT rfl (bnT h2) ?_
    refine AL.off ?_
    refine AL.off ?_
    refine AL.off ?_
    refine AL.off ?_
    refine AL.off ?_
    refine AL.off ?_
    refine AL.off ?_
    refine AL.off ?_
    refine AL.off ?_
    refine AL.off ?_
    refine V rfl ?_
    refine AL.nil ?_
    refine AW.cT rfl rfl ?_
    refine AW.seq (AW.regL ?_)
    refine V rfl ?_
    refine AL.nil ?_
    refine AW.ret ?_
    cases hr
    cases hik2 _ rfl
    rename_i hr
    cases hr
    exact endA.renK [] 0 hS
  ·subst ek2
   refine AW.seq (AW.seq (AW.regL ?_))
   iterate 3 refine V rfl ?_
   refine LF ?_
   refine V rfl ?_
   refine AL.nil ?_
   refine AW.cF rfl (dF hltk2) ?_
   refine AW.exit ?_
   refine AW.seq (AW.regL ?_)
   refine V rfl ?_
   refine AL.nil ?_
   refine AW.ret ?_
   cases hr
   exact endA.renK [] 0 hS
def q6o (a0:Grammar)(a1:Rule)(a2:Int):Option Bool:=
 if a2=3 then (
 (q5C a0 a1).bind fun y1=>
 some (!y1)
 ) else (
 if a2=4 then (
 (q5D a0 a1).bind fun y2=>
 some y2
 ) else (
 if a2=5 then (
 (q6W a0 a1).bind fun y3=>
 some y3
 ) else (
 (q6n a0 a1).bind fun y4=>
 some y4
 )
 )
 )
theorem z3W {m:Md}{a0:Grammar}{a1:Rule}{a2:Int}{r:Bool}(hr:q6o a0 a1 a2=some r):Ok Tryz.prog 25 [Grammar.y m a0,Rule.x m a1,.d .fz (.i .i64 a2)] [] (.d .fz (.b r)) []:=by
 refine Ok.enter rfl Tryz.func25 rfl rfl rfl fun S hS=>?_
 unfold q6o at hr
 refine AW.seq (AW.regL ?_)
 refine BX 0 ?_
 refine BX 1 ?_
 refine V rfl ?_
 refine AL.nil ?_
 refine AW.seq (AW.seq (AW.regL ?_))
 refine V rfl ?_
 refine AL.nil ?_
 refine AW.block (AW.seq (AW.regL ?_))
 iterate 2 refine V rfl ?_
 refine AL.nil ?_
 refine ifE hr (fun h1 hr=>?_) fun h1 hr=>?_
 ·refine AW.cT rfl (dT h1) ?_
  refine AW.seq (AW.regL ?_)
  iterate 2 refine V rfl ?_
  refine bdE hr fun y1 hy1 hr=>?_
  refine CB [] [] (z2C (m:=m) hy1) ?_
  iterate 2 refine V rfl ?_
  refine AL.nil ?_
  refine AW.ret ?_
  cases hr
  exact endA.renK [] 0 hS
 ·refine AW.cF rfl (dF h1) ?_
  refine AW.seq (AW.regL ?_)
  iterate 2 refine V rfl ?_
  refine AL.nil ?_
  refine ifE hr (fun h2 hr=>?_) fun h2 hr=>?_
  ·refine AW.cT rfl (dT h2) ?_
   refine AW.seq (AW.regL ?_)
   iterate 2 refine V rfl ?_
   refine bdE hr fun y2 hy2 hr=>?_
   refine CB [] [] (z2D (m:=m) hy2) ?_
   refine V rfl ?_
   refine AL.nil ?_
   refine AW.ret ?_
   cases hr
   exact endA.renK [] 0 hS
  ·refine AW.cF rfl (dF h2) ?_
   refine AW.seq (AW.regL ?_)
   iterate 2 refine V rfl ?_
   refine AL.nil ?_
   refine ifE hr (fun h3 hr=>?_) fun h3 hr=>?_
   ·refine AW.cT rfl (dT h3) ?_
    refine AW.seq (AW.regL ?_)
    iterate 2 refine V rfl ?_
    refine bdE hr fun y3 hy3 hr=>?_
    refine CB [] [] (z5h (m:=m) hy3) ?_
    refine V rfl ?_
    refine AL.nil ?_
    refine AW.ret ?_
    cases hr
    exact endA.renK [] 0 hS
   ·refine AW.cF rfl (dF h3) ?_
    refine AW.skip ?_
    refine AW.seq (AW.regL ?_)
    iterate 2 refine V rfl ?_
    refine bdE hr fun y4 hy4 hr=>?_
    refine CB [] [] (z3V (m:=m) hy4) ?_
    refine V rfl ?_
    refine AL.nil ?_
    refine AW.ret ?_
    cases hr
    exact endA.renK [] 0 hS
def q9k:Nat→Attribute→Unit→Option (Unit ⊕ (Int × Int)):=fun k1 xk1 _=>
 if xk1.Mode=1 then (
 some (.inr (2,0))
 ) else (
 some (.inl ())
 )
def q6d (a0:Grammar)(s1:Int):Nat→Rule→Unit→Option (Unit ⊕ (Int × Int)):=fun k3 xk3 _=>
 (q6o a0 xk3 s1).bind fun y4=>
 if y4=true then (
 some (.inr (s1,(k3:Int)))
 ) else (
 some (.inl ())
 )
def q6e (a0:Grammar):Int→Option (Int ⊕ (Unit ⊕ (Int × Int))):=fun s1=>
 if s1≤6 then (
 (findL (q6d a0 s1) 0 a0.Rules ()).bind <| onr (fun r2=>some (.inr (.inr r2))) fun _=>
 grd (I64 (s1+1)) <|
 some (.inl (s1+1))
 ) else (
 some (.inr (.inl ()))
 )
def q5E (a0:Grammar):Option (Int × Int):=
 (q3d (a0.Symbols.length:Int) 1 4).bind fun y1=>
 if y1=true then (
 (q3d (a0.Rules.length:Int) 1 8).bind fun y2=>
 if y2=true then (
 (q8J a0).bind fun y3=>
 if 0≤y3 then (
 some (1,y3)
 ) else (
 (a0.Symbols[0]?).bind fun x1=>
 (findL q9k 0 x1.Attributes ()).bind <| onr (fun r1=>some r1) fun _=>
 (q3D (q6e a0) 3).bind <| onr (fun r3=>some r3) fun ()=>
 some (0,0)
 )
 ) else (
 some (1,0)
 )
 ) else (
 some (1,0)
 )
theorem z2E {m:Md}{a0:Grammar}{r:(Int × Int)}(hr:q5E a0=some r):Ok Tryz.prog 7 [Grammar.x m a0] [] (.tu [.d .fz (.i .i64 r.1),.d .fz (.i .i64 r.2)]) []:=by
 refine Ok.enter rfl Tryz.func7 rfl rfl rfl fun S hS=>?_
 unfold q5E at hr
 refine AW.seq (AW.regL ?_)
 refine BX 0 ?_
 iterate 2 refine V rfl ?_
 refine AL.nil ?_
 refine AW.seq (AW.seq (AW.regL ?_))
 iterate 2 refine V rfl ?_
 refine LF ?_
 refine bdE hr fun y1 hy1 hr=>?_
 refine CB [] [] (q3K hy1) ?_
 refine V rfl ?_
 refine ifE hr (fun h1 hr=>?_) fun h1 hr=>?_
 ·refine VF rfl (bnF h1) ?_
  iterate 2 refine V rfl ?_
  refine LF ?_
  refine bdE hr fun y2 hy2 hr=>?_
  refine CB [] [] (q3K hy2) ?_
  iterate 2 refine V rfl ?_
  refine AL.nil ?_
  refine ifE hr (fun h2 hr=>?_) fun h2 hr=>?_
  ·refine AW.cF rfl (bnF h2) ?_
   refine AW.skip ?_
   refine AW.seq (AW.regL ?_)
   refine V rfl ?_
   refine bdE hr fun y3 hy3 hr=>?_
   refine CB [] [] (z8b (m:=m) hy3) ?_
   refine V rfl ?_
   refine AL.nil ?_
   refine AW.seq (AW.seq (AW.regL ?_))
   iterate 2 refine V rfl ?_
   refine AL.nil ?_
   refine ifE hr (fun h3 hr=>?_) fun h3 hr=>?_
   ·refine AW.cT rfl (dT h3) ?_
    refine AW.seq (AW.regL ?_)
    iterate 3 refine V rfl ?_
    refine AL.nil ?_
    refine AW.ret ?_
    cases hr
    exact endA.renK [] 0 hS
   ·refine AW.cF rfl (dF h3) ?_
    refine AW.skip ?_
    refine AW.seq (AW.seq (AW.regL ?_))
    refine V rfl ?_
    refine AL.nil ?_
    refine bdE hr fun x1 hx1 hr=>?_
    refine AW.block ?_
    refine AW.len (.el 1 (.ag 0 (.tmp 0 rfl) rfl) hx1 rfl) fun hl1=>?_
    refine bdE hr fun q1 hqq1 hr=>?_
    refine AW.findL hqq1 hl1 1 (fun k1 _=>[(1,.pb 0 0),(5,.d .fz (.i .i64 (k1:Int)))]) (fun k1 _=>[]) (GH.renK hS [(0,0)] 1) (fun k1 xk1 sk1 ok1 hxk1 hr hltk1 hik1=>?_) fun k1 sk1 ek1 hltk1=>?_
    ·refine AW.seq (AW.seq (AW.regL ?_))
     iterate 3 refine V rfl ?_
     refine IF (Int.natCast_nonneg _) hx1 ?_
     iterate 2 refine V rfl ?_
     refine LF ?_
     refine V rfl ?_
     refine AL.nil ?_
     refine AW.cT rfl (dT hltk1) ?_
     refine AW.skip ?_
     refine AW.seq (AW.block (AW.seq (AW.regL ?_)))
     iterate 2 refine V rfl ?_
     refine IF (Int.natCast_nonneg _) hx1 ?_
     iterate 3 refine V rfl ?_
     refine IF (Int.natCast_nonneg _) hxk1 ?_
     iterate 3 refine V rfl ?_
     refine AL.nil ?_
     refine ifE hr (fun h4 hr=>?_) fun h4 hr=>?_
     ·refine AW.cT rfl (dT h4) ?_
      refine AW.seq (AW.regL ?_)
      iterate 2 refine V rfl ?_
      refine AL.nil ?_
      refine AW.ret ?_
      cases hr
      cases hik1 _ rfl
      rename_i hr
      cases hr
      exact endA.renK [] 0 hS
     ·refine AW.cF rfl (dF h4) ?_
      refine AW.skip ?_
      refine AW.regL ?_
      refine V rfl ?_
      refine OB _ (q1X (p:=k1) (q:=1) (q1h hltk1 hl1)) ?_
      refine V rfl ?_
      refine AL.nil ?_
      cases hr
      exact⟨_,rfl,GH.renK hS [(0,0)] 1⟩
    ·subst ek1
     refine AW.seq (AW.seq (AW.regL ?_))
     iterate 3 refine V rfl ?_
     refine IF (Int.natCast_nonneg _) hx1 ?_
     iterate 2 refine V rfl ?_
     refine LF ?_
     refine V rfl ?_
     refine AL.nil ?_
     refine AW.cF rfl (dF hltk1) ?_
     refine AW.exit ?_
     refine AW.seq (AW.seq (AW.regL ?_))
     refine V rfl ?_
     refine AL.nil ?_
     refine bdE hr fun q2 hqq2 hr=>?_
     refine AW.cut 1 (fun _=>[]) (fun _=>[]) (M:=fun x=>q2 = .inl x) ?_ fun x hx=>?_
     ·refine AW.block (AW.iter hqq2 1 (fun s1=>[(1,.pb 0 0),(6,.d .fz (.i .i64 s1))]) (fun s1=>[]) (GH.renK hS [(0,0)] 1) fun sk2 ok2 hr hik2=>?_)
      obtain⟨s1,rfl⟩:∃ y,y=sk2:=⟨_,rfl⟩
      have hr:=hr
      refine AW.seq (AW.seq (AW.regL ?_))
      iterate 2 refine V rfl ?_
      refine AL.nil ?_
      refine ifE hr (fun h5 hr=>?_) fun h5 hr=>?_
      ·refine AW.cT rfl (dT h5) ?_
       refine AW.skip ?_
       refine AW.seq (AW.block (AW.seq (AW.regL ?_)))
       refine V rfl ?_
       refine AL.nil ?_
       refine AW.block ?_
       refine AW.len (.box 0 1 rfl rfl) fun hl3=>?_
       refine bdE hr fun q3 hqq3 hr=>?_
       refine AW.findL hqq3 hl3 1 (fun k3 _=>[(1,.pb 0 0),(6,.d .fz (.i .i64 s1)),(7,.d .fz (.i .i64 (k3:Int)))]) (fun k3 _=>[]) (GH.renK hS [(0,0)] 1) (fun k3 xk3 sk3 ok3 hxk3 hr hltk3 hik3=>?_) fun k3 sk3 ek3 hltk3=>?_
       ·refine AW.seq (AW.seq (AW.regL ?_))
        iterate 3 refine V rfl ?_
        refine LF ?_
        refine V rfl ?_
        refine AL.nil ?_
        refine AW.cT rfl (dT hltk3) ?_
        refine AW.skip ?_
        refine AW.seq (AW.block (AW.seq (AW.drawL (h:=?_))))
        iterate 4 refine V rfl ?_
        refine IF (Int.natCast_nonneg _) hxk3 ?_
        iterate 2 refine V rfl ?_
        refine bdE hr fun y4 hy4 hr=>?_
        refine CB [] [] (z3W (m:=m) hy4) ?_
        refine AL.nil ?_
        refine ifE hr (fun h6 hr=>?_) fun h6 hr=>?_
        ·refine AW.cT rfl h6 ?_
         refine AW.seq (AW.regL ?_)
         iterate 4 refine V rfl ?_
         refine AL.nil ?_
         refine AW.ret ?_
         cases hr
         cases hik3 _ rfl
         rename_i hr
         cases hr
         cases hik2 _ rfl
         rename_i hr
         cases hr
         exact endA.renK [] 0 hS
        ·refine AW.cF rfl (bF h6) ?_
         refine AW.skip ?_
         refine AW.regL ?_
         refine V rfl ?_
         refine OB _ (q1X (p:=k3) (q:=1) (q1h hltk3 hl3)) ?_
         refine V rfl ?_
         refine AL.nil ?_
         cases hr
         exact⟨_,rfl,GH.renK hS [(0,0)] 1⟩
       ·subst ek3
        refine AW.seq (AW.seq (AW.regL ?_))
        iterate 3 refine V rfl ?_
        refine LF ?_
        refine V rfl ?_
        refine AL.nil ?_
        refine AW.cF rfl (dF hltk3) ?_
        refine AW.exit ?_
        refine AW.regL ?_
        refine V rfl ?_
        refine ggE hr fun g1 hr=>?_
        refine OB _ (bAdd g1) ?_
        refine V rfl ?_
        refine AL.nil ?_
        cases hr
        exact⟨_,rfl,GH.renK hS [(0,0)] 1⟩
      ·refine AW.cF rfl (dF h5) ?_
       refine AW.exit ?_
       cases hr
       cases hik2 _ rfl
       exact⟨_,rfl,GH.renK hS [(0,0)] 1⟩
     ·subst hx
      refine AW.seq (AW.regL ?_)
      iterate 2 refine V rfl ?_
      refine AL.nil ?_
      refine AW.ret ?_
      cases hr
      exact endA.renK [] 0 hS
  ·refine AW.cT rfl (bnT h2) ?_
   refine AW.seq (AW.regL ?_)
   iterate 2 refine V rfl ?_
   refine AL.nil ?_
   refine AW.ret ?_
   cases hr
   exact endA.renK [] 0 hS
 ·refine VT rfl (bnT h1) ?_
  refine AL.off ?_
  refine AL.off ?_
  refine AL.off ?_
  refine AL.off ?_
  refine AL.off ?_
  refine V rfl ?_
  refine AL.nil ?_
  refine AW.cT rfl rfl ?_
  refine AW.seq (AW.regL ?_)
  iterate 2 refine V rfl ?_
  refine AL.nil ?_
  refine AW.ret ?_
  cases hr
  exact endA.renK [] 0 hS
def q3s (a0:Grammar)(a1:Rule):Option (List Occurrence):=
 (q5c a0 a1).bind fun y1=>
 some y1
theorem q7Y {m:Md}{a0:Grammar}{a1:Rule}{r:(List Occurrence)}(hr:q3s a0 a1=some r):Ok Tryz.prog 8 [Grammar.y m a0,Rule.x m a1] [] (.ref 0 none) [.row .fz 2 (r.map Occurrence.D)]:=by
 refine Ok.enter rfl Tryz.func8 rfl rfl rfl fun S hS=>?_
 unfold q3s at hr
 refine AW.seq (AW.regL ?_)
 refine BX 0 ?_
 refine BX 1 ?_
 refine V rfl ?_
 refine AL.nil ?_
 refine AW.seq (AW.regL ?_)
 iterate 2 refine V rfl ?_
 refine bdE hr fun y1 hy1 hr=>?_
 refine CB [(0,2)] [] (q8F (m:=m) hy1) ?_
 refine V rfl ?_
 refine AL.nil ?_
 refine AW.ret ?_
 cases hr
 exact endA.renK [(2,0)] 1 hS
def q6Z (a1:Occurrence):Nat→Occurrence→Unit→Option (Unit ⊕ Int):=fun k1 xk1 _=>
 if xk1=a1 then (
 some (.inr (k1:Int))
 ) else (
 some (.inl ())
 )
def q4u (a0:(List Occurrence))(a1:Occurrence):Option Int:=
 (findL (q6Z a1) 0 a0 ()).bind <| onr (fun r1=>some r1) fun _=>
 some (-1)
theorem q9w {m:Md}{a0:(List Occurrence)}{a1:Occurrence}{r:Int}(hr:q4u a0 a1=some r):Ok Tryz.prog 30 [.d m (.sl 2 (a0.map Occurrence.D)),Occurrence.x .fz a1] [] (.d .fz (.i .i64 r)) []:=by
 refine Ok.enter rfl Tryz.func30 rfl rfl rfl fun S hS=>?_
 unfold q4u at hr
 refine AW.seq (AW.regL ?_)
 refine BX 0 ?_
 refine V rfl ?_
 refine AL.nil ?_
 refine AW.seq (AW.seq (AW.regL ?_))
 refine V rfl ?_
 refine AL.nil ?_
 refine AW.block ?_
 refine AW.len (.tmp 0 rfl) fun hl1=>?_
 refine bdE hr fun q1 hqq1 hr=>?_
 refine AW.findL hqq1 hl1 1 (fun k1 _=>[(0,.d m (.sl 2 (a0.map Occurrence.D))),(3,.pb 0 0),(5,.d .fz (.i .i64 (k1:Int)))]) (fun k1 _=>[]) (GH.renK hS [(0,0)] 1) (fun k1 xk1 sk1 ok1 hxk1 hr hltk1 hik1=>?_) fun k1 sk1 ek1 hltk1=>?_
 ·refine AW.seq (AW.seq (AW.regL ?_))
  iterate 2 refine V rfl ?_
  refine LF ?_
  refine V rfl ?_
  refine AL.nil ?_
  refine AW.cT rfl (dT hltk1) ?_
  refine AW.skip ?_
  refine AW.seq (AW.block (AW.seq (AW.drawL (h:=?_))))
  iterate 2 refine V rfl ?_
  refine IF (Int.natCast_nonneg _) hxk1 ?_
  iterate 2 refine V rfl ?_
  refine SQ rfl rfl rfl rfl (q2K xk1 a1) ?_
  refine AL.nil ?_
  refine ifE hr (fun h1 hr=>?_) fun h1 hr=>?_
  ·refine AW.cT rfl (dT h1) ?_
   refine AW.seq (AW.regL ?_)
   iterate 2 refine V rfl ?_
   refine AL.nil ?_
   refine AW.ret ?_
   cases hr
   cases hik1 _ rfl
   rename_i hr
   cases hr
   exact endA.renK [] 0 hS
  ·refine AW.cF rfl (dF h1) ?_
   refine AW.skip ?_
   refine AW.regL ?_
   refine V rfl ?_
   refine OB _ (q1X (p:=k1) (q:=1) (q1h hltk1 hl1)) ?_
   refine V rfl ?_
   refine AL.nil ?_
   cases hr
   exact⟨_,rfl,GH.renK hS [(0,0)] 1⟩
 ·subst ek1
  refine AW.seq (AW.seq (AW.regL ?_))
  iterate 2 refine V rfl ?_
  refine LF ?_
  refine V rfl ?_
  refine AL.nil ?_
  refine AW.cF rfl (dF hltk1) ?_
  refine AW.exit ?_
  refine AW.seq (AW.regL ?_)
  refine V rfl ?_
  refine AL.nil ?_
  refine AW.ret ?_
  cases hr
  exact endA.renK [] 0 hS
def q4p (a0:(List Occurrence))(a1:Occurrence):Option Bool:=
 (q4u a0 a1).bind fun y1=>
 some (decide (0≤y1))
theorem z0v {m:Md}{a0:(List Occurrence)}{a1:Occurrence}{r:Bool}(hr:q4p a0 a1=some r):Ok Tryz.prog 12 [.d m (.sl 2 (a0.map Occurrence.D)),Occurrence.x .fz a1] [] (.d .fz (.b r)) []:=by
 refine Ok.enter rfl Tryz.func12 rfl rfl rfl fun S hS=>?_
 unfold q4p at hr
 refine AW.seq (AW.regL ?_)
 refine BX 0 ?_
 refine V rfl ?_
 refine AL.nil ?_
 refine AW.seq (AW.regL ?_)
 iterate 2 refine V rfl ?_
 refine bdE hr fun y1 hy1 hr=>?_
 refine CB [] [] (q9w (m:=m) hy1) ?_
 iterate 2 refine V rfl ?_
 refine AL.nil ?_
 refine AW.ret ?_
 cases hr
 exact endA.renK [] 0 hS
def z2e (y2:Grammar)(x1:Rule)(y7:(List Occurrence)):Nat→Occurrence→Unit→Option (Unit ⊕ Bool):=fun k3 xk3 _=>
 (q7K y2 x1 xk3).bind fun y11=>
 if y11=true then (
 (q4p y7 xk3).bind fun y12=>
 if y12=true then (
 some (.inr false)
 ) else (
 some (.inl ())
 )
 ) else (
 some (.inr false)
 )
def q9x (y2:Grammar)(x1:Rule)(y7:(List Occurrence)):Nat→Occurrence→Unit→Option (Unit ⊕ Bool):=fun k2 xk2 _=>
 (q3T x1 xk2).bind fun (y8,y9)=>
 (q3y y8).bind fun y10=>
 if y9=true then (
 (findL (z2e y2 x1 y7) 0 y10 ()).bind <| onr (fun r1=>some (.inr r1)) fun _=>
 some (.inl ())
 ) else (
 some (.inr false)
 )
def q5e (y2:Grammar)(y3:Int):Int→Option (Int ⊕ (Unit ⊕ Bool)):=fun s2=>
 if s2 < (y2.Rules.length:Int) then (
 if y3=0 then (
 grd (0≤s2) <|
 (y2.Rules[s2.toNat]?).bind fun x1=>
 (q3s y2 x1).bind fun y7=>
 if (y7.length:Int)=(x1.Equations.length:Int) then (
 (findL (q9x y2 x1 y7) 0 y7 ()).bind <| onr (fun r2=>some (.inr (.inr r2))) fun _=>
 grd (I64 (s2+1)) <|
 some (.inl (s2+1))
 ) else (
 some (.inr (.inr false))
 )
 ) else (
 some (.inr (.inl ()))
 )
 ) else (
 some (.inr (.inl ()))
 )
def q9g (a0:(List UInt8)):Option Bool:=
 (z7n a0).bind fun y1=>
 if y1=true then (
 some true
 ) else (
 (q3Q a0).bind fun y2=>
 (q5A y2).bind fun (y3,y4)=>
 (q5E y2).bind fun (y5,y6)=>
 (
 if y3=y5 then (
 some (!(decide (y4=y6)))
 ) else (
 some true
 )
 ).bind fun s1=>
 if s1=true then (
 some false
 ) else (
 (q3D (q5e y2 y3) 0).bind <| onr (fun r3=>some r3) fun ()=>
 some true
 )
 )
theorem z6p {a0:(List UInt8)}{r:Bool}(hr:q9g a0=some r):Ok Tryz.prog 3 [.d .fz (.sl 1 (a0.map byD))] [] (.d .fz (.b r)) []:=by
 refine Ok.enter rfl Tryz.func3 rfl rfl rfl fun S hS=>?_
 unfold q9g at hr
 refine AW.seq (AW.regL ?_)
 refine V rfl ?_
 refine AL.nil ?_
 refine AW.seq (AW.seq (AW.regL ?_))
 refine V rfl ?_
 refine bdE hr fun y1 hy1 hr=>?_
 refine CB [] [] (j2i hy1) ?_
 refine AL.nil ?_
 refine ifE hr (fun h1 hr=>?_) fun h1 hr=>?_
 ·refine AW.cT rfl h1 ?_
  refine AW.seq (AW.regL ?_)
  refine V rfl ?_
  refine AL.nil ?_
  refine AW.ret ?_
  cases hr
  exact endA.renK [] 0 hS
 ·refine AW.cF rfl (bF h1) ?_
  refine AW.skip ?_
  refine AW.seq (AW.regL ?_)
  refine V rfl ?_
  refine bdE hr fun y2 hy2 hr=>?_
  refine CB [(0,0)] [] (q9Q hy2) ?_
  refine NV 1 ?_
  refine SB ?_
  refine AL.nil ?_
  refine AW.seq (AW.regL ?_)
  refine V rfl ?_
  refine bdE hr fun q1 hq1 hr=>?_
  obtain⟨y3,y4⟩:=q1
  refine CB [] [0] (z2B (m:=.bo) hq1) ?_
  iterate 5 refine V rfl ?_
  refine AL.nil ?_
  refine AW.seq (AW.regL ?_)
  refine V rfl ?_
  refine bdE hr fun q2 hq2 hr=>?_
  obtain⟨y5,y6⟩:=q2
  refine CB [] [0] (z2E (m:=.bo) hq2) ?_
  iterate 5 refine V rfl ?_
  refine AL.nil ?_
  refine AW.seq (AW.seq (AW.regL ?_))
  iterate 3 refine V rfl ?_
  refine bdE hr fun s1 hqq3 hr=>?_
  refine AL.meet1 5 [(3,.pb 1 0),(4,.d .fz (.i .i64 y3)),(36,.d .fz (.b s1))] ?_ ?_
  ·replace hr:=hqq3
   refine ifE hr (fun h2 hr=>?_) fun h2 hr=>?_
   ·refine VF rfl (nF h2) ?_
    iterate 4 refine V rfl ?_
    refine AL.nil ?_
    cases hr
    exact q1i
   ·refine VT rfl (nT h2) ?_
    refine AL.off ?_
    refine AL.off ?_
    refine AL.off ?_
    refine V rfl ?_
    refine AL.nil ?_
    cases hr
    exact q1i
  ·refine AL.nil ?_
   refine ifE hr (fun h3 hr=>?_) fun h3 hr=>?_
   ·refine AW.cT rfl h3 ?_
    refine AW.seq (AW.regL ?_)
    refine V rfl ?_
    refine AL.nil ?_
    refine AW.ret ?_
    cases hr
    exact endA.renK [] 0 hS
   ·refine AW.cF rfl (bF h3) ?_
    refine AW.skip ?_
    refine AW.seq (AW.seq (AW.regL ?_))
    refine V rfl ?_
    refine AL.nil ?_
    refine bdE hr fun q4 hqq4 hr=>?_
    refine AW.cut 2 (fun _=>[]) (fun _=>[]) (M:=fun x=>q4 = .inl x) ?_ fun x hx=>?_
    ·refine AW.block (AW.iter hqq4 2 (fun s2=>[(3,.pb 1 0),(4,.d .fz (.i .i64 y3)),(8,.d .fz (.i .i64 s2))]) (fun s2=>[]) (GH.renK hS [(0,0),(1,1)] 2) fun sk1 ok1 hr hik1=>?_)
     obtain⟨s2,rfl⟩:∃ y,y=sk1:=⟨_,rfl⟩
     have hr:=hr
     refine AW.seq (AW.seq (AW.regL ?_))
     iterate 3 refine V rfl ?_
     refine LF ?_
     refine V rfl ?_
     refine ifE hr (fun h4 hr=>?_) fun h4 hr=>?_
     ·refine VT rfl (dT h4) ?_
      iterate 3 refine V rfl ?_
      refine AL.nil ?_
      refine ifE hr (fun h5 hr=>?_) fun h5 hr=>?_
      ·refine AW.cT rfl (dT h5) ?_
       refine AW.skip ?_
       refine AW.seq (AW.block (AW.seq (AW.drawL (h:=?_))))
       iterate 4 refine V rfl ?_
       refine ggE hr fun g1 hr=>?_
       refine bdE hr fun x1 hx1 hr=>?_
       refine IF g1 hx1 ?_
       refine V rfl ?_
       refine bdE hr fun y7 hy7 hr=>?_
       refine CB [(0,2)] [0] (q7Y (m:=.bo) hy7) ?_
       refine V rfl ?_
       refine AL.nil ?_
       refine AW.seq (AW.seq (AW.regL ?_))
       refine V rfl ?_
       refine LE ?_
       iterate 3 refine V rfl ?_
       refine IF g1 hx1 ?_
       iterate 2 refine V rfl ?_
       refine LF ?_
       refine V rfl ?_
       refine AL.nil ?_
       refine ifE hr (fun h6 hr=>?_) fun h6 hr=>?_
       ·refine AW.cF rfl (nF h6) ?_
        refine AW.skip ?_
        refine AW.seq (AW.regL ?_)
        refine V rfl ?_
        refine AL.nil ?_
        refine AW.block ?_
        refine AW.lenR 2 rfl fun hl2=>?_
        refine bdE hr fun q5 hqq5 hr=>?_
        refine AW.findL hqq5 hl2 3 (fun k2 _=>[(3,.pb 1 0),(4,.d .fz (.i .i64 y3)),(8,.d .fz (.i .i64 s2)),(9,.ref 2 none),(10,.d .fz (.i .i64 (k2:Int))),(43,.d .fz (.i .i64 y3)),(44,.d .fz (.b (decide (y3=0))))]) (fun k2 _=>[]) (GH.renK hS [(0,0),(1,1),(2,2)] 3) (fun k2 xk2 sk2 ok2 hxk2 hr hltk2 hik2=>?_) fun k2 sk2 ek2 hltk2=>?_
        ·refine AW.seq (AW.seq (AW.regL ?_))
         iterate 2 refine V rfl ?_
         refine LE ?_
         refine V rfl ?_
         refine AL.nil ?_
         refine AW.cT rfl (dT hltk2) ?_
         refine AW.skip ?_
         refine AW.seq (AW.block (AW.seq (AW.drawL (h:=?_))))
         iterate 3 refine V rfl ?_
         refine IF g1 hx1 ?_
         iterate 3 refine V rfl ?_
         refine IE hxk2 (Int.natCast_nonneg _) ?_
         refine LPa hxk2 ?_
         refine bdE hr fun q6 hq6 hr=>?_
         obtain⟨y8,y9⟩:=q6
         refine CB [(0,3)] [] (q8c (m:=.fz) hq6) ?_
         iterate 3 refine V rfl ?_
         refine NV 4 ?_
         refine SB ?_
         refine V rfl ?_
         refine AL.nil ?_
         refine AW.seq (AW.regL ?_)
         refine V rfl ?_
         refine AL.fz 3 rfl ?_
         refine bdE hr fun y10 hy10 hr=>?_
         refine CB [] [] (q7M (m:=.fz) hy10) ?_
         refine V rfl ?_
         refine AL.nil ?_
         refine AW.seq (AW.seq (AW.regL ?_))
         iterate 2 refine V rfl ?_
         refine AL.nil ?_
         refine ifE hr (fun h7 hr=>?_) fun h7 hr=>?_
         ·refine AW.cF rfl (bnF h7) ?_
          refine AW.skip ?_
          refine AW.seq (AW.regL ?_)
          refine V rfl ?_
          refine AL.nil ?_
          refine AW.block ?_
          refine AW.len (.tmp 13 rfl) fun hl3=>?_
          refine bdE hr fun q7 hqq7 hr=>?_
          refine AW.findL hqq7 hl3 5 (fun k3 _=>[(3,.pb 1 0),(4,.d .fz (.i .i64 y3)),(8,.d .fz (.i .i64 s2)),(9,.ref 2 none),(10,.d .fz (.i .i64 (k2:Int))),(13,.d .fz (.sl 2 (y10.map Occurrence.D))),(14,.d .fz (.i .i64 (k3:Int))),(43,.d .fz (.i .i64 y3)),(44,.d .fz (.b (decide (y3=0))))]) (fun k3 _=>[(3,.none)]) (GH.renK hS [(0,0),(1,1),(2,2),(4,4)] 5) (fun k3 xk3 sk3 ok3 hxk3 hr hltk3 hik3=>?_) fun k3 sk3 ek3 hltk3=>?_
          ·refine AW.seq (AW.seq (AW.regL ?_))
           iterate 2 refine V rfl ?_
           refine LF ?_
           refine V rfl ?_
           refine AL.nil ?_
           refine AW.cT rfl (dT hltk3) ?_
           refine AW.skip ?_
           refine AW.seq (AW.block (AW.seq (AW.drawL (h:=?_))))
           iterate 4 refine V rfl ?_
           refine IF g1 hx1 ?_
           iterate 3 refine V rfl ?_
           refine IF (Int.natCast_nonneg _) hxk3 ?_
           refine V rfl ?_
           refine bdE hr fun y11 hy11 hr=>?_
           refine CB [] [0] (z3j (m:=.bo) hy11) ?_
           refine V rfl ?_
           refine ifE hr (fun h8 hr=>?_) fun h8 hr=>?_
           ·refine VF rfl (bnF h8) ?_
            iterate 3 refine V rfl ?_
            refine IF (Int.natCast_nonneg _) hxk3 ?_
            refine V rfl ?_
            refine bdE hr fun y12 hy12 hr=>?_
            refine CB [] [2] (z0v (m:=.bo) hy12) ?_
            refine V rfl ?_
            refine AL.nil ?_
            refine ifE hr (fun h9 hr=>?_) fun h9 hr=>?_
            ·refine AW.cT rfl h9 ?_
             refine AW.seq (AW.regL ?_)
             refine V rfl ?_
             refine AL.nil ?_
             refine AW.ret ?_
             cases hr
             cases hik3 _ rfl
             rename_i hr
             cases hr
             cases hik2 _ rfl
             rename_i hr
             cases hr
             cases hik1 _ rfl
             rename_i hr
             cases hr
             exact endA.renK [] 0 hS
            ·refine AW.cF rfl (bF h9) ?_
             refine AW.skip ?_
             refine AW.regL ?_
             refine V rfl ?_
             refine OB _ (q1X (p:=k3) (q:=1) (q1h hltk3 hl3)) ?_
             refine V rfl ?_
             refine AL.nil ?_
             cases hr
             exact⟨_,rfl,GH.renK hS [(0,0),(1,1),(2,2),(4,4)] 5⟩
           ·refine VT rfl (bnT h8) ?_
            refine AL.off ?_
            refine AL.off ?_
            refine AL.off ?_
            refine AL.off ?_
            refine AL.off ?_
            refine AL.off ?_
            refine V rfl ?_
            refine AL.nil ?_
            refine AW.cT rfl rfl ?_
            refine AW.seq (AW.regL ?_)
            refine V rfl ?_
            refine AL.nil ?_
            refine AW.ret ?_
            cases hr
            cases hik3 _ rfl
            rename_i hr
            cases hr
            cases hik2 _ rfl
            rename_i hr
            cases hr
            cases hik1 _ rfl
            rename_i hr
            cases hr
            exact endA.renK [] 0 hS
          ·subst ek3
           refine AW.seq (AW.seq (AW.regL ?_))
           iterate 2 refine V rfl ?_
           refine LF ?_
           refine V rfl ?_
           refine AL.nil ?_
           refine AW.cF rfl (dF hltk3) ?_
           refine AW.exit ?_
           refine AW.regL ?_
           refine V rfl ?_
           refine OB _ (q1X (p:=k2) (q:=1) (q1h hltk2 hl2)) ?_
           refine V rfl ?_
           refine AL.nil ?_
           cases hr
           exact⟨_,rfl,GH.renK hS [(0,0),(1,1),(2,2)] 3⟩
         ·refine AW.cT rfl (bnT h7) ?_
          refine AW.seq (AW.regL ?_)
          refine V rfl ?_
          refine AL.nil ?_
          refine AW.ret ?_
          cases hr
          cases hik2 _ rfl
          rename_i hr
          cases hr
          cases hik1 _ rfl
          rename_i hr
          cases hr
          exact endA.renK [] 0 hS
        ·subst ek2
         refine AW.seq (AW.seq (AW.regL ?_))
         iterate 2 refine V rfl ?_
         refine LE ?_
         refine V rfl ?_
         refine AL.nil ?_
         refine AW.cF rfl (dF hltk2) ?_
         refine AW.exit ?_
         refine AW.regL ?_
         refine V rfl ?_
         refine ggE hr fun g2 hr=>?_
         refine OB _ (bAdd g2) ?_
         refine V rfl ?_
         refine AL.nil ?_
         cases hr
         exact⟨_,rfl,GH.renK hS [(0,0),(1,1)] 2⟩
       ·refine AW.cT rfl (nT h6) ?_
        refine AW.seq (AW.regL ?_)
        refine V rfl ?_
        refine AL.nil ?_
        refine AW.ret ?_
        cases hr
        cases hik1 _ rfl
        rename_i hr
        cases hr
        exact endA.renK [] 0 hS
      ·refine AW.cF rfl (dF h5) ?_
       refine AW.exit ?_
       cases hr
       cases hik1 _ rfl
       exact⟨_,rfl,GH.renK hS [(0,0),(1,1)] 2⟩
     ·refine VF rfl (dF h4) ?_
      refine AL.off ?_
      refine AL.off ?_
      refine V rfl ?_
      refine AL.nil ?_
      refine AW.cF rfl rfl ?_
      refine AW.exit ?_
      cases hr
      cases hik1 _ rfl
      exact⟨_,rfl,GH.renK hS [(0,0),(1,1)] 2⟩
    ·subst hx
     refine AW.seq (AW.regL ?_)
     refine V rfl ?_
     refine AL.nil ?_
     refine AW.ret ?_
     cases hr
     exact endA.renK [] 0 hS
end Go.Proofs.YtiojgbiimbefiabGreat
