/- Abstract states of a walk: plain lemmas on the model, without conditions of their own. -/
import Derived.Test.YtipikecbeganoaaGreatAb11
set_option linter.unusedVariables false
set_option linter.unusedSimpArgs false
set_option linter.ambiguousOpen false
set_option linter.unusedSectionVars false
set_option linter.unnecessarySimpa false
namespace Go.A
open Go Go.E
theorem bdP {α β γ:Type}{o:Option (α×γ)}{f:α×γ→Option β}{r:β}{G:Prop}(hr:o.bind f=some r)(h:∀ y z,o=some (y,z)→f (y,z)=some r→G):G:=bdE hr fun q=>h q.1 q.2
theorem bdT {α β γ δ:Type}{o:Option (α×γ×δ)}{f:α×γ×δ→Option β}{r:β}{G:Prop}(hr:o.bind f=some r)(h:∀ x y z,o=some (x,y,z)→f (x,y,z)=some r→G):G:=bdE hr fun q=>h q.1 q.2.1 q.2.2
abbrev dI (n:Int):X:=.d .fz (.i .i64 n)
abbrev dB (b:Bool):X:=.d .fz (.b b)
abbrev dS (s:ByteArray):X:=.d .fz (.s s)
end Go.A
set_option maxRecDepth 100000
namespace Go.A
open Go Go.E
structure Steps (n:Nat) (b:Prop):Prop where
 h:b
theorem Steps.z {a:Prop}(h:a):Steps 0 a:=⟨h⟩
theorem Steps.s {a b:Prop}{n:Nat}(s:Imp a b)(h:Steps n a):Steps (n+1) b:=⟨s.h h.h⟩
theorem lT:true=true:=rfl
theorem lF:false=false:=rfl
class Dec (p:Prop) (b:Bool) (c:outParam Bool):Prop where
 h:p→b=c
instance {b:Bool}:Dec (b=true) b true:=⟨id⟩
instance {b:Bool}:Dec (¬ b=true) b false:=⟨bF⟩
instance {b:Bool}:Dec (¬ b=true) (!b) true:=⟨bnT⟩
instance {b:Bool}:Dec (b=true) (!b) false:=⟨bnF⟩
instance {p:Prop} [Decidable p]:Dec p (decide p) true:=⟨dT⟩
instance {p:Prop} [Decidable p]:Dec (¬ p) (decide p) false:=⟨dF⟩
instance {p:Prop} [Decidable p]:Dec (¬ p) (!decide p) true:=⟨nT⟩
instance {p:Prop} [Decidable p]:Dec p (!decide p) false:=⟨nF⟩
theorem uH {p:Prop}{b c:Bool}(h:p)[d:Dec p b c]:b=c:=d.h h
theorem hB {b c:Bool}(h:b=c:=by first|with_reducible exact Go.A.lT|with_reducible exact Go.A.lF|exact uH h40|exact uH h39|exact uH h38|exact uH h37|exact uH h36|exact uH h35|exact uH h34|exact uH h33|exact uH h32|exact uH h31|exact uH h30|exact uH h29|exact uH h28|exact uH h27|exact uH h26|exact uH h25|exact uH h24|exact uH h23|exact uH h22|exact uH h21|exact uH h20|exact uH h19|exact uH h18|exact uH h17|exact uH h16|exact uH h15|exact uH h14|exact uH h13|exact uH h12|exact uH h11|exact uH h10|exact uH h9|exact uH h8|exact uH h7|exact uH h6|exact uH h5|exact uH h4|exact uH h3|exact uH h2|exact uH h1|exact uH hltk4|exact uH hltk3|exact uH hltk2|exact uH hltk1|exact uH (Go.A.ltN hltk4)|exact uH (Go.A.ltI hltk4)|exact uH (Go.A.ltN hltk3)|exact uH (Go.A.ltI hltk3)|exact uH (Go.A.ltN hltk2)|exact uH (Go.A.ltI hltk2)|exact uH (Go.A.ltN hltk1)|exact uH (Go.A.ltI hltk1)|exact Go.A.dF Go.A.geN|exact Go.A.dF Go.A.geI):b=c:=h
inductive Pk (x y:Code):Bool→Code→Prop
 | t:Pk x y true x
 | f:Pk x y false y
inductive Nb:X→X→Prop
 | b {m:Md} {b c:Bool} (h:b=c):Nb (.d m (.b b)) (.d .fz (.b c))
 | r {v:X}:Nb v v
section
variable {P:Program}{S:Start}{n:Nat}{QP:q4k}{ρ:AE}{σ:St}{c:Operand}{x y z:Code}{m:Md}{b b' : Bool}
theorem cA (hc:evX ρ c=.d m (.b b):=by rfl)(hb:b=b':=by exact hB)(hp:Pk x y b' z:=by first|exact .t|exact .f):Imp (AW P S n z QP ρ σ) (AW P S n (.cond c x y) QP ρ σ):=by
 cases hp
 ·exact⟨q0G hc hb⟩
 ·exact⟨q0S hc hb⟩
theorem q1K : Imp (AW P S n x (z7Z (fun ρ σ=>AW P S n y QP ρ σ) QP) ρ σ) (AW P S n (.seq x y) QP ρ σ):=⟨q0p⟩
end
section
variable {P:Program}[HasTab P]{S:Start}{n:Nat}{ops:Array Oper}{Q:AE→St→Prop}{QP:q4k}{o:Oper}{rest:List Oper}{ρ:AE}{σ:St}{d:Nat}{v v' : X}{rd:List Nat}{md:Md2}{m m' : Md}{b:Bool}{y:Code}{id:Nat}{T e:Nat}{t te:TI}
theorem srd (hm:P.follows .mixedOrders=true:=by kernel_rfl):Imp (AL P S ops (fun ρ σ=>QP .normal ρ σ) (some (0,[],none)) ops.toList ρ σ) (AW P S n (.region id ops true) QP ρ σ):=⟨fun h=>q0y hm h⟩
theorem Va (hv:opV (HasTab.tab P) ρ σ o.op=some (v,rd):=by exact rfl)(hk:Nb v v':=by first|exact .b hB|exact .r)(hd:o.dst=some d:=by rfl)(hg:q3Z ops ρ o=some true:=by rfl):Imp (AL P S ops Q (q4j md rd []) rest (updX ρ d v') σ) (AL P S ops Q md (o::rest) ρ σ):=by
 cases hk with
 | r=>exact⟨fun h=>V hv h hd hg⟩
 | @b _ _ c hb=>cases c with
  | true=>exact⟨fun h=>VT hv hb h hd hg⟩
  | false=>exact⟨fun h=>VF hv hb h hd hg⟩
end
mutual
def mtX:X→X→List (Nat×Nat)
 | .ref r _,.ref i _=>[(r,i)]
 | .vs r _ _ _,.vs i _ _ _=>[(r,i)]
 | .pb r _,.pb i _=>[(r,i)]
 | .pe r _ _ _,.pe i _ _ _=>[(r,i)]
 | .ag a,.ag b=>mtXs a b
 | .tu a,.tu b=>mtXs a b
 | .fn _ a,.fn _ b=>mtXs a b
 | _,_=>[]
def mtXs:List X→List X→List (Nat×Nat)
 | x::a,y::b=>mtX x y++mtXs a b
 | _,_=>[]
end
def mtR:Root→Root→List (Nat×Nat)
 | .box a,.box b=>mtXs a b
 | .deep _ _ _ h,.deep _ _ _ k=>(h.zip k).map fun p=>(p.1.2.2,p.2.2.2)
 | _,_=>[]
def addI (l:List (Nat×Nat)):List (Nat×Nat)→List (Nat×Nat)
 | []=>l
 | p::q=>addI (bif l.any fun x=>Nat.beq x.1 p.1||Nat.beq x.2 p.2 then l else l++[p]) q
def mtS (l:List (Nat×Nat))(σ τ:St):List (Nat×Nat):=addI l (l.flatMap fun p=>mtR (fnOf σ p.1) (fnOf τ p.2))
def isRt:Root→Bool
 | .none=>false
 | _=>true
def mtA (n0:Nat)(l:List (Nat×Nat))(σ τ:St):List (Nat×Nat):=addI (mtS (mtS (addI ((List.range n0).map fun i=>(i,i)) l) σ τ) σ τ) (((List.range τ.length).filter fun i=>isRt (fnOf τ i)).map fun i=>(i,i))
def mtE (P:Program)(ρ:AE)(σ:St)(lr:List ResultVar)(n0:Nat)(res:X)(post:St):List (Nat×Nat):=mtA n0 (match j5o P ρ σ lr with|some xs=>mtX (tupX xs) res|none=>[]) σ post
def mtL (ρ:AE):List (Nat×X)→List (Nat×Nat)
 | []=>[]
 | p::L=>mtX (ρ p.1) p.2++mtL ρ L
def selX:X→X→X
 | _,.u=>.u
 | x,_=>x
theorem k7Z {x y:X}:Wk (selX x y) x:=by cases y<;>first|exact .rfl|exact .u
def k8a:List X→List X→List X
 | x::a,y::b=>selX x y::k8a a b
 | a,_=>a
theorem selXs_wk:∀ {a b:List X},Wks (k8a a b) a
 | [],[]=>.nil
 | [],_::_=>.nil
 | x::a,[]=>.cons .rfl (Wks_rfl a)
 | x::a,y::b=>.cons k7Z selXs_wk
where Wks_rfl:∀ a:List X,Wks a a
 | []=>.nil
 | _::a=>.cons .rfl (Wks_rfl a)
def selR:Root→Root→Root
 | .box a,.box b=>.box (k8a a b)
 | x,_=>x
def selS:St→St→St
 | x::s,y::t=>selR x y::selS s t
 | s,_=>s
theorem j7m:∀ {s t:St} {i:Nat},fnOf (selS s t) i=selR (fnOf s i) (fnOf t i)
 | [],t,i=>by cases t<;>simp[selS,z2A,selR]
 | x::s,[],i=>by rw[z2A];simp only[selS];cases fnOf (x::s) i<;>rfl
 | x::s,y::t,0=>rfl
 | x::s,y::t,i+1=>by simp only[selS,fnOf];exact j7m
theorem q3M {S:Start}{ρ:AE}{σ:St}(τ:St):GH S ρ σ ρ (selS σ τ):=by
 intro F g w ρc hs hv
 refine⟨F,g,⟨hs.chg,hs.bB,hs.fmono,hs.fnew,hs.flt,fun i=>?_,hs.low,hs.hdr,hs.nodup,hs.disj,hs.own⟩,hv⟩
 rw[j7m]
 have:=hs.roots i
 revert this
 cases fnOf σ i<;>cases fnOf τ i<;>simp only[selR]<;>intro h<;>try exact h
 revert h
 cases g i<;>intro h<;>try exact h.elim
 obtain⟨vs,k1,k2⟩:=h
 exact⟨vs,k1,selXs_wk.vr k2⟩
theorem q1L {P:Program}{S:Start}{fn:Func}{ρ:AE}{σ:St}{e:Exit}{lr:List ResultVar}{res:X}{post:St}{n0:Nat}(hS:S.n0=n0)(he:e=.normal∨e=.ret:=by first|exact .inr rfl|exact .inl rfl)(hl:fn.results=lr.toArray:=by rfl)(ht:lr.all (j2f fn.ntmps)=true:=by rfl)
  (hx:(j5o P ρ σ lr).map (fun xs=>renX (mtE P ρ σ lr n0 res post) (tupX xs))=some res:=by kernel_rfl) (hc:j5t (mtE P ρ σ lr n0 res post) n0 post.length σ=true:=by kernel_rfl) (hp:renS (mtE P ρ σ lr n0 res post) post.length σ=post:=by kernel_rfl):endA P S fn res post e ρ σ:=q0l _ _ hS he hl ht hx hc hp
theorem q0U {S:Start}{ρ:AE}{σ:St}{n0:Nat}(hS:S.n0=n0){L:List (Nat×X)}{σt:St}(hL:WkR (mtA n0 (mtL ρ L) σ σt) ρ L:=by repeat (first|exact trivial|refine And.intro (.of (by kernel_rfl)) ?_))(hσ:selS (renS (mtA n0 (mtL ρ L) σ σt) σt.length σ) σt=σt:=by kernel_rfl)(hc:j5t (mtA n0 (mtL ρ L) σ σt) n0 σt.length σ=true:=by kernel_rfl):GH S ρ σ (ofX L) σt:=by
 have:=(q0j (S:=S) hS _ _ hL rfl hc).trans (q3M σt)
 rwa[hσ] at this
theorem E {G:Prop}(h:G:=by (cases hr;try (cases hik4 _ rfl;rename_i hr;cases hr));(try (cases hik3 _ rfl;rename_i hr;cases hr));(try (cases hik2 _ rfl;rename_i hr;cases hr));(try (cases hik1 _ rfl;rename_i hr;cases hr));first|exact q1L hS|exact x0l|exact q0U hS|exact⟨_,rfl,q0U hS⟩):G:=h
theorem I {G:Prop}(h:G:=by exact q0U hS):G:=h
section
variable {P:Program}{S:Start}{n:Nat}{c:Code}{QP:q4k}{ρ:AE}{σ:St}
theorem lenT {α:Type}{xs:List α}{f:α→D}{m:Md}{k:Nat}(t:Nat)(hx:ρ t=.d m (.sl k (xs.map f)):=by rfl):Imp ((xs.length:Int)≤9223372036854775807→AW P S n c QP ρ σ) (AW P S n c QP ρ σ):=⟨AW.len (.tmp t hx)⟩
theorem lenA {α:Type}{xs:List α}{f:α→D}{m:Md}{k:Nat}{cs:List X}(i t:Nat)(hx:ρ t=.ag cs:=by rfl)(hc:cs[i]?=some (.d m (.sl k (xs.map f))):=by rfl):Imp ((xs.length:Int)≤9223372036854775807→AW P S n c QP ρ σ) (AW P S n c QP ρ σ):=⟨AW.len (.ag i (.tmp t hx) hc)⟩
theorem lenR {α:Type}{xs:List α}{f:α→D}{m:Md}{k:Nat}(r:Nat)(hr:fnOf σ r=.row m k (xs.map f):=by rfl):Imp ((xs.length:Int)≤9223372036854775807→AW P S n c QP ρ σ) (AW P S n c QP ρ σ):=⟨q2Y r hr⟩
theorem rngT {m:Md}{k:IntKind}{b:Int}(t:Nat)(hx:ρ t=.d m (.i k b):=by rfl):Imp (rngI k b→AW P S n c QP ρ σ) (AW P S n c QP ρ σ):=⟨q0Z (.tmp t hx)⟩
end
theorem hX {p:Prop}(h:p:=by first|exact hxk5|exact hxk4|exact hxk3|exact hxk2|exact hxk1|exact hx30|exact hx29|exact hx28|exact hx27|exact hx26|exact hx25|exact hx24|exact hx23|exact hx22|exact hx21|exact hx20|exact hx19|exact hx18|exact hx17|exact hx16|exact hx15|exact hx14|exact hx13|exact hx12|exact hx11|exact hx10|exact hx9|exact hx8|exact hx7|exact hx6|exact hx5|exact hx4|exact hx3|exact hx2|exact hx1):p:=h
theorem h0 {j:Int}(h:0≤j:=by first|exact Int.natCast_nonneg _|with_reducible assumption):0≤j:=h
theorem hL {p:Prop}(h:p:=by first|exact hl6.2|exact hl6.1|exact hl5.2|exact hl5.1|exact hl4.2|exact hl4.1|exact hl3.2|exact hl3.1|exact hl2.2|exact hl2.1|exact hl1.2|exact hl1.1|with_reducible assumption):p:=h
section
variable {P:Program}[HasTab P]{S:Start}{ops:Array Oper}{Q:AE→St→Prop}{o:Oper}{rest:List Oper}{ρ:AE}{σ:St}{d:Nat}{md:Md2}{m m' : Md}{T e k:Nat}{t te:TI}{α:Type}{f:α→D}{xs:List α}
theorem IFa {x i:Operand}{q:IntKind}{j:Int}{y:α}{cs:List D}(ho:o.op=.indexAddr T x i:=by rfl)(hT:(HasTab.tab P).get T=some t:=by rfl)(he:t.el=some e:=by rfl)(hE:(HasTab.tab P).get e=some te:=by rfl)(hx:evX ρ x=.d m (.sl te.sz (xs.map f)):=by rfl)(hi:evX ρ i=.d m' (.i q j):=by rfl)(hd:o.dst=some d:=by rfl)(hg:q3Z ops ρ o=some true:=by rfl)(hj:xs[j.toNat]?=some y:=by exact hX)(h0:0≤j:=by exact h0)(hc:(f y).cells=cs:=by first|with_reducible exact Expr.D_cells _|rfl):Imp (AL P S ops Q (q4j md [] []) rest (updX ρ d (.pf m cs)) σ) (AL P S ops Q md (o::rest) ρ σ):=IFq' h0 hj hc ho hT he hE hx hi hd hg
theorem IEa {x i:Operand}{r:Nat}{q:IntKind}{j:Int}{y:α}(ho:o.op=.indexAddr T x i:=by rfl)(hT:(HasTab.tab P).get T=some t:=by rfl)(he:t.el=some e:=by rfl)(hE:(HasTab.tab P).get e=some te:=by rfl)(hx:evX ρ x=.ref r none:=by rfl)(hσ:fnOf σ r=.row m te.sz (xs.map f):=by rfl)(hi:evX ρ i=.d m' (.i q j):=by rfl)(hd:o.dst=some d:=by rfl)(hg:q3Z ops ρ o=some true:=by rfl)(hj:xs[j.toNat]?=some y:=by exact hX)(h0:0≤j:=by exact h0):Imp (AL P S ops Q (q4j md [r] []) rest (updX ρ d (.pe r none j.toNat 0)) σ) (AL P S ops Q md (o::rest) ρ σ):=IE' hj h0 ho hT he hE hx hσ hi hd hg
theorem LPe {x:Operand}{r j c:Nat}{y:α}{z:D}(ho:o.op=.load T x:=by rfl)(hT:(HasTab.tab P).get T=some t:=by rfl)(ha:t.agg=false:=by rfl)(hx:evX ρ x=.pe r none j c:=by rfl)(hσ:fnOf σ r=.row m k (xs.map f):=by rfl)(hj:xs[j]?=some y:=by exact hX)(hz:(f y).cells[c]?=some z:=by rfl)(hd:o.dst=some d:=by rfl)(hg:q3Z ops ρ o=some true:=by rfl):Imp (AL P S ops Q (q4j md [r] []) rest (updX ρ d (dX m z)) σ) (AL P S ops Q md (o::rest) ρ σ):=LP' hj ho hT ha hx hσ hz hd hg
theorem LPb {x:Operand}{r j c:Nat}{y:α}(ho:o.op=.load T x:=by rfl)(hT:(HasTab.tab P).get T=some t:=by rfl)(ha:t.agg=true:=by rfl)(hx:evX ρ x=.pe r none j c:=by rfl)(hσ:fnOf σ r=.row m k (xs.map f):=by rfl)(hj:xs[j]?=some y:=by exact hX)(hl:Nat.beq (((f y).cells.drop c).take t.sz).length t.sz=true:=by rfl)(hd:o.dst=some d:=by rfl)(hg:q3Z ops ρ o=some true:=by rfl):Imp (AL P S ops Q (q4j md [r] []) rest (updX ρ d (.ag ((((f y).cells.drop c).take t.sz).map (dX m)))) σ) (AL P S ops Q md (o::rest) ρ σ):=LPa' hj ho hT ha hx hσ hl hd hg
theorem OBa {op:BinOp}{U:Nat}{x y:Operand}{X1 Y1:X}{u1 v1 r1:Value}{z:D}(ho:o.op=.binOp op T x y U:=by rfl)(hx:evX ρ x=X1:=by rfl)(hy:evX ρ y=Y1:=by rfl)(hu:cvX X1=some u1:=by rfl)(hv:cvX Y1=some v1:=by rfl)(hB:BR P op T X1 Y1 u1 v1 z r1:=by first|exact z8X (q:=1) (q6E hltk4 (by with_reducible assumption))|exact z8X (q:=1) (q6E (ltN hltk4) hL)|exact z8X (q:=1) (q6E (ltI hltk4) hL)|exact z8X (q:=1) (q6E hltk3 (by with_reducible assumption))|exact z8X (q:=1) (q6E (ltN hltk3) hL)|exact z8X (q:=1) (q6E (ltI hltk3) hL)|exact z8X (q:=1) (q6E hltk2 (by with_reducible assumption))|exact z8X (q:=1) (q6E (ltN hltk2) hL)|exact z8X (q:=1) (q6E (ltI hltk2) hL)|exact z8X (q:=1) (q6E hltk1 (by with_reducible assumption))|exact z8X (q:=1) (q6E (ltN hltk1) hL)|exact z8X (q:=1) (q6E (ltI hltk1) hL)|exact bAdd (by with_reducible assumption)|exact bSub (by with_reducible assumption)|exact z8X (q:=1) (by with_reducible assumption))(hz:cv z=some r1:=by rfl)(hd:o.dst=some d:=by rfl)(hg:q3Z ops ρ o=some true:=by rfl):Imp (AL P S ops Q (q4j md [] []) rest (updX ρ d (.d .fz z)) σ) (AL P S ops Q md (o::rest) ρ σ):=OB' z hB ho hx hy hu hv hz hd hg
end
structure Bx (a:Prop):Prop where
 h:a
theorem g {a b:Prop}(s:Bx a→b:=by (intro h;(repeat (first|refine J Va ?_|refine J N0' ?_|refine J q1K ?_|refine J q1e ?_|refine J cA ?_|refine J q0J ?_|refine J q1c ?_|refine J SB' ?_|refine J LF' ?_|refine J LE' ?_|refine J q1H ?_|refine J q1d ?_|refine J q1G ?_|refine J IFa ?_|refine J IEa ?_|refine J LPe ?_|refine J LPb ?_|refine J OBa ?_|refine J srd ?_));exact h.h)):Imp a b:=⟨fun h=>s ⟨h⟩⟩
theorem gn {a b:Prop}(n:Nat)(s:Bx a→Steps n b:=by (intro h;repeat (first|exact Steps.z h.h|refine Steps.s Va ?_|refine Steps.s N0' ?_|refine Steps.s q1K ?_|refine Steps.s q1e ?_|refine Steps.s cA ?_|refine Steps.s q0J ?_|refine Steps.s q1c ?_|refine Steps.s SB' ?_|refine Steps.s LF' ?_|refine Steps.s LE' ?_|refine Steps.s q1H ?_|refine Steps.s q1d ?_|refine Steps.s q1G ?_|refine Steps.s IFa ?_|refine Steps.s IEa ?_|refine Steps.s LPe ?_|refine Steps.s LPb ?_|refine Steps.s OBa ?_|refine Steps.s srd ?_))):Imp a b:=⟨fun h=>(s ⟨h⟩).h⟩
theorem e {G:Prop}(h:G:=by exact J g E):G:=h
end Go.A
set_option maxHeartbeats 4000000
namespace Go.A
open Go Go.E
section
variable {S:Start}{F:Nat→Prop}{g:Nat→G}{w:World}{σ1:Nat→Root}
theorem Sim.frzG (hs:Sim S F g σ1 w){r:Nat}{m:Md}{k:Nat}{xs:List D}(hd0:DataAt σ1 r m k xs [r]):∃ F' g',Sim S F' g' (fun i=>if i=r then .dead else σ1 i) w∧Pres S.B F g w F' g' w∧∀ x v,vr (SM F S.B) w g x v→vr (SM F' S.B) w g' (frX r m k xs x) v:=by
 obtain⟨v,L,gs,cs,hg,hown,hrd,hLb⟩:=j5k hs hd0
 let F' : Nat→Prop:=fun b=>F b∨b∈bl (g r)
 have hF:∀ b,F b→F' b:=fun b hb=>.inl hb
 have up:∀ m b,SM F S.B m b→SM F' S.B m b:=fun m b hb=>by
  cases m with
  | fz=>exact .inl hb
  | bo=>exact hb.imp .inl id
 have hL' : ∀ b∈bl (g r),SM F' S.B m b:=fun b hb=>by
  cases m with
  | fz=>exact .inr hb
  | bo=>exact .inl (.inr hb)
 have hrd' : rdE (SM F' S.B m) w k xs cs:=hrd.mono fun b hb=>by
  rcases hb with hb|⟨q,hq,hb⟩
  ·exact up m b hb
  ·rw[List.mem_singleton] at hq;subst hq;exact hL' b hb
 have hd:rdC (SM F' S.B m) w (.sl k xs) v:=j5l hown hrd' fun b hb=>hL' b (hLb b hb)
 have hpart:∀ lo n v',j0G v k lo n v'→rdC (SM F' S.B m) w (.sl k ((xs.drop lo).take n)) v':=fun lo n v' hp=>j5m hown hrd' (fun b hb=>hL' b (hLb b hb)) hp
 have hlt:∀ b,F' b→b<w.heap.size:=fun b hb=>hb.elim (hs.flt b) fun hb=>(hs.own r b hb).1
 have ha:∀ q,Adv (g q) ((fun i=>if i=r then .dead else g i) q):=fun q=>by
  by_cases hq:q=r
  ·subst hq
   simp only[if_true]
   rw[hg];exact .inl rfl
  ·simp only[ifN hq];exact Adv.refl _
 have hp:∀ {x:X} {v:Value},vr (SM F S.B) w g x v→vr (SM F' S.B) w (fun i=>if i=r then .dead else g i) x v:=fun h=>h.adv (fun m b o cs h1 h2 h3=>⟨up m b h1,h2,h3⟩) ha
 have hps:∀ {x:List X} {v:List Value},vrs (SM F S.B) w g x v→vrs (SM F' S.B) w (fun i=>if i=r then .dead else g i) x v:=fun h=>h.adv (fun m b o cs h1 h2 h3=>⟨up m b h1,h2,h3⟩) ha
 refine⟨F',fun i=>if i=r then .dead else g i,⟨hs.chg,hs.bB,fun b hb=>.inl (hs.fmono b hb),fun b hb=>?_,hlt,fun i=>?_,hs.low,fun i=>?_,fun i=>?_,fun i j hij b hb=>?_,fun i b hb=>?_⟩,fun x v h=>hp h,fun x v h=>k0z hg hF hd hpart h⟩
 ·rcases hb with hb|hb
  ·exact hs.fnew b hb
  ·exact .inr (hs.own r b hb).2.2.2
 ·by_cases hi:i=r
  ·subst hi
   simp only[if_true];trivial
  ·simp only[ifN hi]
   have h1:=hs.roots i
   revert h1
   cases σ1 i<;>intro h1<;>cases hgi:g i<;>rw[hgi] at h1<;>try exact h1.elim
   ·trivial
   ·trivial
   ·obtain⟨vs,h2,h3⟩:=h1
    exact⟨vs,h2,hps h3⟩
   ·exact⟨h1.1,z2B h1.2 up⟩
   ·exact⟨⟨h1.1.1,z2B h1.1.2 up⟩,h1.2.1.adv ha,h1.2.2⟩
 ·by_cases hi:i=r
  ·subst hi
   simp only[if_true]
   have:=hs.hdr i
   rw[hg] at this
   revert this
   cases S.g0 i<;>intro h
   ·trivial
   ·cases h
   ·rcases h with h|h<;>cases h
   ·exact .inl rfl
  ·simp only[ifN hi];exact hs.hdr i
 ·by_cases hi:i=r
  ·simp only[ifP hi,bl];exact List.nodup_nil
  ·simp only[ifN hi];exact hs.nodup i
 ·by_cases hi:i=r
  ·simp only[ifP hi,bl] at hb;cases hb
  ·simp only[ifN hi] at hb
   by_cases hj:j=r
   ·simp only[ifP hj,bl];exact List.not_mem_nil
   ·simp only[ifN hj];exact hs.disj i j hij b hb
 ·by_cases hi:i=r
  ·simp only[ifP hi,bl] at hb;cases hb
  ·simp only[ifN hi] at hb
   obtain⟨h1,h2,h3,h4⟩:=hs.own i b hb
   refine⟨h1,fun hf=>?_,h3,h4⟩
   rcases hf with hf|hf
   ·exact h2 hf
   ·exact hs.disj i r hi b hb hf
end
section
variable {P:Program}[HasTab P]{S:Start}{ops:Array Oper}{Q:AE→St→Prop}{o:Oper}{rest:List Oper}{ρ:AE}{σ:St}{d:Nat}{md:Md2}
theorem LT.frzG {rd:List Nat}{v:X}{wr:List (Nat×Root)}{r:Nat}{m:Md}{k:Nat}{xs:List D}(h:LT P S o ρ σ rd v wr)(hr:∀ σ1,DataAt (owr σ1 wr) r m k xs [r]):LT P S o ρ σ rd (frX r m k xs v) (wr++[(r,.dead)]):=by
 intro σ1 F g w ρc h1 h2 h3 h4
 refine z9Y ?_ (h σ1 F g w ρc h1 h2 (fun p hp=>h3 p (by simp[hp])) h4)
 rintro vc w' ⟨F',g',h5,h6,h7⟩
 obtain⟨F2,g2,k1,k2,k3⟩:=h5.frzG (hr σ1)
 exact⟨F2,g2,by rw[j5u];exact k1,fun x v hx=>k2 x v (h6 x v hx),k3 _ _ h7⟩
theorem CBzD {α:Type}{m:Md}{k:Nat}{g0:α→List Cell}{xs:List α}{f:Nat}{c:Call}{x:Operand}{caps axs args:List X}{pre post:St}{res:X}(r:Nat)(D0:α→D)(hf:∀ x,DR (g0 x) (D0 x))(ren:List (Nat×Nat))(vw:List Nat)(ok:Ok P f args pre res post)(h:AL P S ops Q (q4j md vw (((ren.map fun (p:Nat×Nat)=>(p.2,z2q ren (fnOf post p.1)))++[(r,Root.dead)]).map (·.1))) rest (updX ρ d (frX r m k (xs.map D0) (renX ren res))) (owrL σ ((ren.map fun (p:Nat×Nat)=>(p.2,z2q ren (fnOf post p.1)))++[(r,Root.dead)])))
  (ho:o.op=.call c:=by rfl) (hc:c.callee=.value x:=by rfl) (hx:evX ρ x=.fn f caps:=by rfl) (hcb:q7B P f=true:=by kernel_rfl) (ha:c.args.toList.map (evX ρ)++caps=axs:=by rfl) (hp:PassL (fnOf σ) ren vw axs args:=by repeat (first|exact .nil|refine .cons ?_ ?_|exact .same|exact .ag (.cons .same (.cons .same .nil))|refine .ag ?_|exact .d rfl|exact .d z5T|exact .nld|exact .nl|exact .rd rfl rfl|exact .vd rfl rfl|exact .pb rfl|exact .ref rfl|refine .fn ?_|exact .pf rfl|exact .pf z5T|exact .dd (DA (by exact fun _=>rfl) rfl) rfl|exact .dd (DA OwD.rd rfl) rfl|(refine .dd (DAh (x:=?x) OwD.rd ?hx0 rfl rfl rfl ?he0) rfl;(case hx0=>assumption);(case he0=>rfl))|exact .u))
  (hpre:PreL (fnOf σ) (fnOf pre) ren ren:=by repeat (first|exact trivial|refine And.intro rfl ?_)) (hchk:z8V ren vw pre post res=true:=by rfl) (hz:∀ σ1,owr σ1 (ren.map fun p=>(p.2,z2q ren (fnOf post p.1))) r=.deep m k (xs.map g0) []:=by exact fun _=>rfl) (hd:o.dst=some d:=by rfl) (hg:q3Z ops ρ o=some true:=by rfl):AL P S ops Q md (o::rest) ρ σ:=
 q0g ((q0B ren vw ho hc hx hcb ha ok hp hpre hchk).frzG fun σ1=>DA hf (hz σ1)) h hd hg
end
section
variable {P:Program}{S:Start}{n:Nat}{QP:q4k}{ρ:AE}{σ:St}
theorem q1M {i j k:Nat}{m:Md}{xs:List (List Cell)}(hi:fnOf σ i=.deep m k xs [])(hj:fnOf σ j=.none):GH S ρ σ (fun t=>mvX i j (ρ t)) (setL (mvL i j 0 σ) j (.deep m k xs [])):=by
 intro F g w ρc hs hv
 have hgj:g j=.none:=by
  have:=hs.roots j
  rw[hj] at this
  revert this
  cases g j<;>intro h<;>first|rfl|exact h.elim
 have hij:i≠j:=fun e=>by rw[e,hj] at hi;cases hi
 let g' : Nat→G:=fun r=>if r=j then g i else if r=i then .dead else g r
 have h1:g' j=g i:=by simp[g']
 have h2:g' i=.dead:=by simp[g',hij]
 have h3:∀ r,r≠i→r≠j→g' r=g r:=fun r a b=>by simp[g',a,b]
 have hc:∀ r,(r=j∧g' r=g i)∨(r=i∧g' r=.dead)∨(r≠i∧r≠j∧g' r=g r):=fun r=>by
  by_cases a:r=j
  ·exact .inl ⟨a,by rw[a];exact h1⟩
  ·by_cases b:r=i
   ·exact .inr (.inl ⟨b,by rw[b];exact h2⟩)
   ·exact .inr (.inr ⟨b,a,h3 r b a⟩)
 refine⟨F,g',⟨hs.chg,hs.bB,hs.fmono,hs.fnew,hs.flt,fun r=>?_,hs.low,fun r=>?_,fun r=>?_,fun r r' hne b hb=>?_,fun r b hb=>?_⟩,fun t=>k7X hgj h1 h2 h3 (hv t)⟩
 ·rw[q7k]
  have hr:=hs.roots r
  rcases hc r with ⟨a,b⟩|⟨a,b⟩|⟨a,a',b⟩
  ·rw[ifP a,b]
   have:=hs.roots i
   rw[hi] at this
   revert this
   cases g i<;>intro h<;>first|exact⟨h.1,(fun p hp=>nomatch hp),h.2.2⟩|exact h.elim
  ·rw[ifN (by rw[a];exact hij),b,z8Y (by rw[a,hi];intro h;cases h),ifP (by omega)]
   trivial
  ·rw[ifN a',b]
   by_cases hn:fnOf σ r=.none
   ·rw[j2n hn (by omega)]
    rw[hn] at hr
    revert hr
    cases g r<;>intro h<;>first|trivial|exact h.elim
   ·rw[z8Y hn,ifN (by omega)]
    revert hr
    cases hσ:fnOf σ r<;>intro hr<;>cases hg:g r<;>rw[hg] at hr<;>try exact hr.elim
    ·trivial
    ·trivial
    ·obtain⟨vs,k1,k2⟩:=hr
     exact⟨vs,k1,j4v hgj h1 h2 h3 k2⟩
    ·exact hr
    ·refine⟨hr.1,fun p hp gc hgc=>?_,hr.2.2⟩
     obtain⟨q,hq,rfl⟩:=List.mem_map.1 hp
     exact j7j hgj h1 h3 (hr.2.1 q hq gc hgc)
 ·rcases hc r with ⟨a,b⟩|⟨a,b⟩|⟨a,a',b⟩
  ·have:=hs.hdr r
   rw[a,hgj] at this
   rw[b,a]
   revert this
   cases S.g0 j<;>intro h<;>simp[j0H] at h ⊢
  ·rw[b,a]
   cases S.g0 i<;>simp[j0H]
  ·rw[b];exact hs.hdr r
 ·rcases hc r with ⟨a,b⟩|⟨a,b⟩|⟨a,a',b⟩<;>rw[b]
  ·exact hs.nodup i
  ·exact List.nodup_nil
  ·exact hs.nodup r
 ·rcases hc r with ⟨a,e⟩|⟨a,e⟩|⟨a,a',e⟩<;>rw[e] at hb<;>rcases hc r' with ⟨c,e'⟩|⟨c,e'⟩|⟨c,c',e'⟩<;>rw[e']
  ·exact absurd (a.trans c.symm) hne
  ·exact List.not_mem_nil
  ·exact hs.disj i r' (fun h=>c h.symm) b hb
  ·cases hb
  ·cases hb
  ·cases hb
  ·exact hs.disj r i a b hb
  ·exact List.not_mem_nil
  ·exact hs.disj r r' hne b hb
 ·rcases hc r with ⟨a,e⟩|⟨a,e⟩|⟨a,a',e⟩<;>rw[e] at hb
  ·exact hs.own i b hb
  ·cases hb
  ·exact hs.own r b hb
end
end Go.A
