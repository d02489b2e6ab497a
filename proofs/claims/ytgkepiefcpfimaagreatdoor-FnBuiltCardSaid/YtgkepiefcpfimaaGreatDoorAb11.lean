/- Abstract states of a walk: plain lemmas on the model, without conditions of their own. -/
import Derived.Test.YtgkepiefcpfimaaGreatDoorAb10
set_option linter.unusedVariables false
set_option linter.unusedSimpArgs false
set_option linter.ambiguousOpen false
set_option linter.unusedSectionVars false
set_option linter.unnecessarySimpa false
open Bool renaming and_eq_true→Afz
namespace Go.A
open Go Go.E
theorem bdP {α β γ:Type}{o:Option (α×γ)}{f:α×γ→Option β}{r:β}{G:Prop}(hr:o.bind f=some r)(h:∀ y z,o=some (y,z)→f (y,z)=some r→G):G:=bdE hr fun q=>h q.1 q.2
theorem bdT {α β γ δ:Type}{o:Option (α×γ×δ)}{f:α×γ×δ→Option β}{r:β}{G:Prop}(hr:o.bind f=some r)(h:∀ x y z,o=some (x,y,z)→f (x,y,z)=some r→G):G:=bdE hr fun q=>h q.1 q.2.1 q.2.2
abbrev dI (n:Int):X:=.d .fz (.i .i64 n)
abbrev dB (b:Bool):X:=.d .fz (.b b)
abbrev dS (s:BA_):X:=.d .fz (.s s)
end Go.A
set_option maxRecDepth 100000
namespace Go.A
open Go Go.E
structure Steps (n:Nat) (b:Prop):Prop where
 h:b
theorem Steps.z {a:Prop}(h:a):Steps 0 a:=⟨h⟩
theorem Steps.s {a b:Prop}{n:Nat}(s:Imp a b)(h:Steps n a):Steps (n+1) b:=⟨s.h h.h⟩
theorem lT:true=true:=rfl
theorem lF:false=false:=rfl
class Dec (p:Prop) (b:Bool) (c:outParam Bool):Prop where
 h:p→b=c
instance {b:Bool}:Dec (b=true) b true:=⟨id⟩
instance {b:Bool}:Dec (¬ b=true) b false:=⟨bF⟩
instance {b:Bool}:Dec (¬ b=true) (!b) true:=⟨bnT⟩
instance {b:Bool}:Dec (b=true) (!b) false:=⟨bnF⟩
instance {p:Prop} [Decidable p]:Dec p (decide p) true:=⟨dT⟩
instance {p:Prop} [Decidable p]:Dec (¬ p) (decide p) false:=⟨dF⟩
instance {p:Prop} [Decidable p]:Dec (¬ p) (!decide p) true:=⟨nT⟩
instance {p:Prop} [Decidable p]:Dec p (!decide p) false:=⟨nF⟩
theorem uH {p:Prop}{b c:Bool}(h:p)[d:Dec p b c]:b=c:=d.h h
theorem hB {b c:Bool}(h:b=c:=by first|with_reducible exact Go.A.lT|with_reducible exact Go.A.lF|exact uH h40|exact uH h39|exact uH h38|exact uH h37|exact uH h36|exact uH h35|exact uH h34|exact uH h33|exact uH h32|exact uH h31|exact uH h30|exact uH h29|exact uH h28|exact uH h27|exact uH h26|exact uH h25|exact uH h24|exact uH h23|exact uH h22|exact uH h21|exact uH h20|exact uH h19|exact uH h18|exact uH h17|exact uH h16|exact uH h15|exact uH h14|exact uH h13|exact uH h12|exact uH h11|exact uH h10|exact uH h9|exact uH h8|exact uH h7|exact uH h6|exact uH h5|exact uH h4|exact uH h3|exact uH h2|exact uH h1|exact uH hltk4|exact uH hltk3|exact uH hltk2|exact uH hltk1|exact uH (Go.A.ltN hltk4)|exact uH (Go.A.ltI hltk4)|exact uH (Go.A.ltN hltk3)|exact uH (Go.A.ltI hltk3)|exact uH (Go.A.ltN hltk2)|exact uH (Go.A.ltI hltk2)|exact uH (Go.A.ltN hltk1)|exact uH (Go.A.ltI hltk1)|exact Go.A.dF Go.A.geN|exact Go.A.dF Go.A.geI):b=c:=h
inductive Pk (x y:Code):Bool→Code→Prop
 | t:Pk x y true x
 | f:Pk x y false y
inductive Nb:X→X→Prop
 | b {m:Md} {b c:Bool} (h:b=c):Nb (.d m (.b b)) (.d .fz (.b c))
 | r {v:X}:Nb v v
section
variable {P:Program}{S:Start}{n:Nat}{QP:q4y}{ρ:AE}{σ:St}{c:Operand}{x y z:Code}{m:Md}{b b' : Bool}
theorem cA (hc:evX ρ c=.d m (.b b):=by rfl)(hb:b=b':=by exact hB)(hp:Pk x y b' z:=by first|exact .t|exact .f):Imp (AW P S n z QP ρ σ) (AW P S n (.cond c x y) QP ρ σ):=by
 cases hp
 ·exact⟨q0s hc hb⟩
 ·exact⟨q0t hc hb⟩
theorem q1c : Imp (AW P S n x (z8T (fun ρ σ=>AW P S n y QP ρ σ) QP) ρ σ) (AW P S n (.seq x y) QP ρ σ):=⟨q0m⟩
end
section
variable {P:Program}[HasTab P]{S:Start}{n:Nat}{ops:Array Oper}{Q:AE→St→Prop}{QP:q4y}{o:Oper}{rest:List Oper}{ρ:AE}{σ:St}{d:Nat}{v v' : X}{rd:List Nat}{md:Md2}{m m' : Md}{b:Bool}{y:Code}{id:Nat}{T e:Nat}{t te:TI}
theorem srd (hm:P.follows .mixedOrders=true:=by kernel_rfl):Imp (AL P S ops (fun ρ σ=>QP .normal ρ σ) (some (0,[],none)) ops.toList ρ σ) (AW P S n (.region id ops true) QP ρ σ):=⟨fun h=>q0q hm h⟩
theorem Va (hv:opV (HasTab.tab P) ρ σ o.op=some (v,rd):=by exact rfl)(hk:Nb v v':=by first|exact .b hB|exact .r)(hd:o.dst=some d:=by rfl)(hg:q4e ops ρ o=some true:=by rfl):Imp (AL P S ops Q (q4j md rd []) rest (updX ρ d v') σ) (AL P S ops Q md (o::rest) ρ σ):=by
 cases hk with
 | r=>exact⟨fun h=>V hv h hd hg⟩
 | @b _ _ c hb=>cases c with
  | true=>exact⟨fun h=>VT hv hb h hd hg⟩
  | false=>exact⟨fun h=>VF hv hb h hd hg⟩
end
mutual
def mtX:X→X→List (Nat×Nat)
 | .ref r _,.ref i _=>[(r,i)]
 | .vs r _ _ _,.vs i _ _ _=>[(r,i)]
 | .pb r _,.pb i _=>[(r,i)]
 | .pe r _ _ _,.pe i _ _ _=>[(r,i)]
 | .ag a,.ag b=>mtXs a b
 | .tu a,.tu b=>mtXs a b
 | .fn _ a,.fn _ b=>mtXs a b
 | _,_=>[]
def mtXs:List X→List X→List (Nat×Nat)
 | x::a,y::b=>mtX x y++mtXs a b
 | _,_=>[]
end
def mtR:Root→Root→List (Nat×Nat)
 | .box a,.box b=>mtXs a b
 | .deep _ _ _ h,.deep _ _ _ k=>(h.zip k).map fun p=>(p.1.2.2,p.2.2.2)
 | _,_=>[]
def addI (l:List (Nat×Nat)):List (Nat×Nat)→List (Nat×Nat)
 | []=>l
 | p::q=>addI (bif l.any fun x=>Nat.beq x.1 p.1||Nat.beq x.2 p.2 then l else l++[p]) q
def mtS (l:List (Nat×Nat))(σ τ:St):List (Nat×Nat):=addI l (l.flatMap fun p=>mtR (fnOf σ p.1) (fnOf τ p.2))
def isRt:Root→Bool
 | .none=>false
 | _=>true
def mtA (n0:Nat)(l:List (Nat×Nat))(σ τ:St):List (Nat×Nat):=addI (mtS (mtS (addI ((List.range n0).map fun i=>(i,i)) l) σ τ) σ τ) (((List.range τ.length).filter fun i=>isRt (fnOf τ i)).map fun i=>(i,i))
def mtE (P:Program)(ρ:AE)(σ:St)(lr:List ResultVar)(n0:Nat)(res:X)(post:St):List (Nat×Nat):=mtA n0 (match j5K P ρ σ lr with|some xs=>mtX (tupX xs) res|none=>[]) σ post
def mtL (ρ:AE):List (Nat×X)→List (Nat×Nat)
 | []=>[]
 | p::L=>mtX (ρ p.1) p.2++mtL ρ L
def selX:X→X→X
 | _,.u=>.u
 | x,_=>x
theorem k7H {x y:X}:Wk (selX x y) x:=by cases y<;>first|exact .rfl|exact .u
def k7I:List X→List X→List X
 | x::a,y::b=>selX x y::k7I a b
 | a,_=>a
theorem selXs_wk:∀ {a b:List X},Wks (k7I a b) a
 | [],[]=>.nil
 | [],_::_=>.nil
 | x::a,[]=>.cons .rfl (Wks_rfl a)
 | x::a,y::b=>.cons k7H selXs_wk
where Wks_rfl:∀ a:List X,Wks a a
 | []=>.nil
 | _::a=>.cons .rfl (Wks_rfl a)
def selR:Root→Root→Root
 | .box a,.box b=>.box (k7I a b)
 | x,_=>x
def selS:St→St→St
 | x::s,y::t=>selR x y::selS s t
 | s,_=>s
theorem j7w:∀ {s t:St} {i:Nat},fnOf (selS s t) i=selR (fnOf s i) (fnOf t i)
 | [],t,i=>by cases t<;>simp[selS,z3Q,selR]
 | x::s,[],i=>by rw[z3Q];simp only[selS];cases fnOf (x::s) i<;>rfl
 | x::s,y::t,0=>rfl
 | x::s,y::t,i+1=>by simp only[selS,fnOf];exact j7w
theorem q3O {S:Start}{ρ:AE}{σ:St}(τ:St):GH S ρ σ ρ (selS σ τ):=by
 intro F g w ρc hs hv
 refine⟨F,g,⟨hs.chg,hs.bB,hs.fmono,hs.fnew,hs.flt,fun i=>?_,hs.low,hs.hdr,hs.nodup,hs.disj,hs.own⟩,hv⟩
 rw[j7w]
 have:=hs.roots i
 revert this
 cases fnOf σ i<;>cases fnOf τ i<;>simp only[selR]<;>intro h<;>try exact h
 revert h
 cases g i<;>intro h<;>try exact h.elim
 obtain⟨vs,k1,k2⟩:=h
 exact⟨vs,k1,selXs_wk.vr k2⟩
theorem q1K {P:Program}{S:Start}{fn:Func}{ρ:AE}{σ:St}{e:Exit}{lr:List ResultVar}{res:X}{post:St}{n0:Nat}(hS:S.n0=n0)(he:e=.normal∨e=.ret:=by first|exact .inr rfl|exact .inl rfl)(hl:fn.results=lr.toArray:=by rfl)(ht:lr.all (j2D fn.ntmps)=true:=by rfl)
  (hx:(j5K P ρ σ lr).map (fun xs=>renX (mtE P ρ σ lr n0 res post) (tupX xs))=some res:=by kernel_rfl) (hc:j5P (mtE P ρ σ lr n0 res post) n0 post.length σ=true:=by kernel_rfl) (hp:renS (mtE P ρ σ lr n0 res post) post.length σ=post:=by kernel_rfl):endA P S fn res post e ρ σ:=q0o _ _ hS he hl ht hx hc hp
theorem q1d {S:Start}{ρ:AE}{σ:St}{n0:Nat}(hS:S.n0=n0){L:List (Nat×X)}{σt:St}(hL:WkR (mtA n0 (mtL ρ L) σ σt) ρ L:=by repeat (first|exact trivial|refine And.intro (.of (by kernel_rfl)) ?_))(hσ:selS (renS (mtA n0 (mtL ρ L) σ σt) σt.length σ) σt=σt:=by kernel_rfl)(hc:j5P (mtA n0 (mtL ρ L) σ σt) n0 σt.length σ=true:=by kernel_rfl):GH S ρ σ (ofX L) σt:=by
 have:=(q0j (S:=S) hS _ _ hL rfl hc).trans (q3O σt)
 rwa[hσ] at this
theorem E {G:Prop}(h:G:=by (cases hr;try (cases hik4 _ rfl;rename_i hr;cases hr));(try (cases hik3 _ rfl;rename_i hr;cases hr));(try (cases hik2 _ rfl;rename_i hr;cases hr));(try (cases hik1 _ rfl;rename_i hr;cases hr));first|exact q1K hS|exact j0F|exact q1d hS|exact⟨_,rfl,q1d hS⟩):G:=h
theorem I {G:Prop}(h:G:=by exact q1d hS):G:=h
section
variable {P:Program}{S:Start}{n:Nat}{c:Code}{QP:q4y}{ρ:AE}{σ:St}
theorem lenT {α:Type}{xs:List α}{f:α→D}{m:Md}{k:Nat}(t:Nat)(hx:ρ t=.d m (.sl k (xs.map f)):=by rfl):Imp ((xs.length:Int)≤9223372036854775807→AW P S n c QP ρ σ) (AW P S n c QP ρ σ):=⟨AW.len (.tmp t hx)⟩
theorem lenA {α:Type}{xs:List α}{f:α→D}{m:Md}{k:Nat}{cs:List X}(i t:Nat)(hx:ρ t=.ag cs:=by rfl)(hc:cs[i]?=some (.d m (.sl k (xs.map f))):=by rfl):Imp ((xs.length:Int)≤9223372036854775807→AW P S n c QP ρ σ) (AW P S n c QP ρ σ):=⟨AW.len (.ag i (.tmp t hx) hc)⟩
theorem lenR {α:Type}{xs:List α}{f:α→D}{m:Md}{k:Nat}(r:Nat)(hr:fnOf σ r=.row m k (xs.map f):=by rfl):Imp ((xs.length:Int)≤9223372036854775807→AW P S n c QP ρ σ) (AW P S n c QP ρ σ):=⟨q1I r hr⟩
theorem rngT {m:Md}{k:IntKind}{b:Int}(t:Nat)(hx:ρ t=.d m (.i k b):=by rfl):Imp (rngI k b→AW P S n c QP ρ σ) (AW P S n c QP ρ σ):=⟨AW.rng (.tmp t hx)⟩
end
theorem hX {p:Prop}(h:p:=by first|exact hxk5|exact hxk4|exact hxk3|exact hxk2|exact hxk1|exact hx30|exact hx29|exact hx28|exact hx27|exact hx26|exact hx25|exact hx24|exact hx23|exact hx22|exact hx21|exact hx20|exact hx19|exact hx18|exact hx17|exact hx16|exact hx15|exact hx14|exact hx13|exact hx12|exact hx11|exact hx10|exact hx9|exact hx8|exact hx7|exact hx6|exact hx5|exact hx4|exact hx3|exact hx2|exact hx1):p:=h
theorem h0 {j:Int}(h:0≤j:=by first|exact Int.natCast_nonneg _|with_reducible assumption):0≤j:=h
theorem hL {p:Prop}(h:p:=by first|exact hl6.2|exact hl6.1|exact hl5.2|exact hl5.1|exact hl4.2|exact hl4.1|exact hl3.2|exact hl3.1|exact hl2.2|exact hl2.1|exact hl1.2|exact hl1.1|with_reducible assumption):p:=h
section
variable {P:Program}[HasTab P]{S:Start}{ops:Array Oper}{Q:AE→St→Prop}{o:Oper}{rest:List Oper}{ρ:AE}{σ:St}{d:Nat}{md:Md2}{m m' : Md}{T e k:Nat}{t te:TI}{α:Type}{f:α→D}{xs:List α}
theorem IFa {x i:Operand}{q:IntKind}{j:Int}{y:α}{cs:List D}(ho:o.op=.indexAddr T x i:=by rfl)(hT:(HasTab.tab P).get T=some t:=by rfl)(he:t.el=some e:=by rfl)(hE:(HasTab.tab P).get e=some te:=by rfl)(hx:evX ρ x=.d m (.sl te.sz (xs.map f)):=by rfl)(hi:evX ρ i=.d m' (.i q j):=by rfl)(hd:o.dst=some d:=by rfl)(hg:q4e ops ρ o=some true:=by rfl)(hj:xs[j.toNat]?=some y:=by exact hX)(h0:0≤j:=by exact h0)(hc:(f y).cells=cs:=by first|with_reducible exact Expr.D_cells _|rfl):Imp (AL P S ops Q (q4j md [] []) rest (updX ρ d (.pf m cs)) σ) (AL P S ops Q md (o::rest) ρ σ):=IFq' h0 hj hc ho hT he hE hx hi hd hg
theorem IEa {x i:Operand}{r:Nat}{q:IntKind}{j:Int}{y:α}(ho:o.op=.indexAddr T x i:=by rfl)(hT:(HasTab.tab P).get T=some t:=by rfl)(he:t.el=some e:=by rfl)(hE:(HasTab.tab P).get e=some te:=by rfl)(hx:evX ρ x=.ref r none:=by rfl)(hσ:fnOf σ r=.row m te.sz (xs.map f):=by rfl)(hi:evX ρ i=.d m' (.i q j):=by rfl)(hd:o.dst=some d:=by rfl)(hg:q4e ops ρ o=some true:=by rfl)(hj:xs[j.toNat]?=some y:=by exact hX)(h0:0≤j:=by exact h0):Imp (AL P S ops Q (q4j md [r] []) rest (updX ρ d (.pe r none j.toNat 0)) σ) (AL P S ops Q md (o::rest) ρ σ):=IE' hj h0 ho hT he hE hx hσ hi hd hg
theorem LPe {x:Operand}{r j c:Nat}{y:α}{z:D}(ho:o.op=.load T x:=by rfl)(hT:(HasTab.tab P).get T=some t:=by rfl)(ha:t.agg=false:=by rfl)(hx:evX ρ x=.pe r none j c:=by rfl)(hσ:fnOf σ r=.row m k (xs.map f):=by rfl)(hj:xs[j]?=some y:=by exact hX)(hz:(f y).cells[c]?=some z:=by rfl)(hd:o.dst=some d:=by rfl)(hg:q4e ops ρ o=some true:=by rfl):Imp (AL P S ops Q (q4j md [r] []) rest (updX ρ d (dX m z)) σ) (AL P S ops Q md (o::rest) ρ σ):=LP' hj ho hT ha hx hσ hz hd hg
theorem LPb {x:Operand}{r j c:Nat}{y:α}(ho:o.op=.load T x:=by rfl)(hT:(HasTab.tab P).get T=some t:=by rfl)(ha:t.agg=true:=by rfl)(hx:evX ρ x=.pe r none j c:=by rfl)(hσ:fnOf σ r=.row m k (xs.map f):=by rfl)(hj:xs[j]?=some y:=by exact hX)(hl:Nat.beq (((f y).cells.drop c).take t.sz).length t.sz=true:=by rfl)(hd:o.dst=some d:=by rfl)(hg:q4e ops ρ o=some true:=by rfl):Imp (AL P S ops Q (q4j md [r] []) rest (updX ρ d (.ag ((((f y).cells.drop c).take t.sz).map (dX m)))) σ) (AL P S ops Q md (o::rest) ρ σ):=LPa' hj ho hT ha hx hσ hl hd hg
theorem OBa {op:BinOp}{U:Nat}{x y:Operand}{X1 Y1:X}{u1 v1 r1:Value}{z:D}(ho:o.op=.binOp op T x y U:=by rfl)(hx:evX ρ x=X1:=by rfl)(hy:evX ρ y=Y1:=by rfl)(hu:cvX X1=some u1:=by rfl)(hv:cvX Y1=some v1:=by rfl)(hB:BR P op T X1 Y1 u1 v1 z r1:=by first|exact z2q (q:=1) (q5o hltk4 (by with_reducible assumption))|exact z2q (q:=1) (q5o (ltN hltk4) hL)|exact z2q (q:=1) (q5o (ltI hltk4) hL)|exact z2q (q:=1) (q5o hltk3 (by with_reducible assumption))|exact z2q (q:=1) (q5o (ltN hltk3) hL)|exact z2q (q:=1) (q5o (ltI hltk3) hL)|exact z2q (q:=1) (q5o hltk2 (by with_reducible assumption))|exact z2q (q:=1) (q5o (ltN hltk2) hL)|exact z2q (q:=1) (q5o (ltI hltk2) hL)|exact z2q (q:=1) (q5o hltk1 (by with_reducible assumption))|exact z2q (q:=1) (q5o (ltN hltk1) hL)|exact z2q (q:=1) (q5o (ltI hltk1) hL)|exact bAdd (by with_reducible assumption)|exact bSub (by with_reducible assumption)|exact z2q (q:=1) (by with_reducible assumption))(hz:cv z=some r1:=by rfl)(hd:o.dst=some d:=by rfl)(hg:q4e ops ρ o=some true:=by rfl):Imp (AL P S ops Q (q4j md [] []) rest (updX ρ d (.d .fz z)) σ) (AL P S ops Q md (o::rest) ρ σ):=OB' z hB ho hx hy hu hv hz hd hg
end
structure Bx (a:Prop):Prop where
 h:a
theorem g {a b:Prop}(s:Bx a→b:=by (intro h;(repeat (first|refine J Va ?_|refine J N0' ?_|refine J q1c ?_|refine J q0M ?_|refine J cA ?_|refine J q0E ?_|refine J q0K ?_|refine J SB' ?_|refine J LF' ?_|refine J LE' ?_|refine J q1a ?_|refine J q0L ?_|refine J q0Z ?_|refine J IFa ?_|refine J IEa ?_|refine J LPe ?_|refine J LPb ?_|refine J OBa ?_|refine J srd ?_));exact h.h)):Imp a b:=⟨fun h=>s ⟨h⟩⟩
theorem gn {a b:Prop}(n:Nat)(s:Bx a→Steps n b:=by (intro h;repeat (first|exact Steps.z h.h|refine Steps.s Va ?_|refine Steps.s N0' ?_|refine Steps.s q1c ?_|refine Steps.s q0M ?_|refine Steps.s cA ?_|refine Steps.s q0E ?_|refine Steps.s q0K ?_|refine Steps.s SB' ?_|refine Steps.s LF' ?_|refine Steps.s LE' ?_|refine Steps.s q1a ?_|refine Steps.s q0L ?_|refine Steps.s q0Z ?_|refine Steps.s IFa ?_|refine Steps.s IEa ?_|refine Steps.s LPe ?_|refine Steps.s LPb ?_|refine Steps.s OBa ?_|refine Steps.s srd ?_))):Imp a b:=⟨fun h=>(s ⟨h⟩).h⟩
theorem e {G:Prop}(h:G:=by exact J g E):G:=h
def OkAt (P:Program)(f:Nat)(args:List X)(pre:St)(res:X)(post:St)(w:World):Prop:=
 ∀ (F B:Nat→Prop) (g:Nat→G) (vs:List Value),Sim (z9A w F B g pre.length) F g (fnOf pre) w→vrs (SM F B) w g args vs →
  Ret P f vs.toArray w (fun b=>∃ i,b∈bl (g i)) fun v w'=>∃ F' g',Sim (z9A w F B g pre.length) F' g' (fnOf post) w'∧vr (SM F' B) w' g' res v
def OkK (K:World→Prop)(P:Program)(f:Nat)(args:List X)(res:X):Prop:=∀ w,K w→OkAt P f args [] res [] w
def Stb (K:World→Prop):Prop:=∀ w w',K w→Ext w w'→K w'
def Wd (K:World→Prop)(S:Start):Prop:=K S.w0∧∀ b,¬ S.own b
theorem OkK.enter {K:World→Prop}{P:Program}{f:Nat}{fn:Func}{c:Code}{args:List X}{res:X}(hf:P.funcs[f]?=some fn)(h:∀ S:Start,S.n0=0→Wd K S→AW P S fn.ntmps c (endA P S fn res []) (argX args) [])(hb:fn.body=some c:=by rfl)(hok:z1F fn.ntmps c=true:=by rfl)(hs:Nat.ble args.length fn.ntmps=true:=by rfl):OkK K P f args res:=by
 intro w hK F B g vs hsim hvs
 have hlen:=hvs.len
 refine Go.E.enter (R:=fun v w'=>∃ F' g',Sim (z9A w F B g 0) F' g' (fnOf []) w'∧vr (SM F' B) w' g' res v) hf hb hok (by simpa[hlen] using hs) ?_
 refine (h (z9A w F B g 0) rfl ⟨hK,fun b ⟨i,hi⟩=>by
  have:=hsim.low i (Nat.zero_le _)
  have e:g i=.none:=this
  rw[e] at hi;cases hi⟩ F g w _ hsim (fun t=>j8L hvs)).mono fun e ρc w' ⟨ρ,σ,F',g',h1,h2,he,h3⟩=>?_
 obtain⟨v,h4,F2,g2,h5,h6⟩:=h3 F' g' w' ρc h1 h2
 have h7:Chg (fun b=>∃ i,b∈bl (g i)) w w':=h5.chg
 rcases he with rfl|rfl<;>exact⟨v,h4,h7,F2,g2,h5,h6⟩
section
variable {P:Program}{S:Start}{n:Nat}{ρ:AE}{σ:St}{o:Oper}
theorem q2n {f:Nat}{c:Call}{x:Operand}{caps axs args:List X}{pre post:St}{res:X}(ren:List (Nat×Nat))(vw:List Nat)(ho:o.op=.call c)(hc:c.callee=.value x)(hx:evX ρ x=.fn f caps)(hcb:q8C P f=true)(ha:c.args.toList.map (evX ρ)++caps=axs)
  (ok:∀ w,Chg S.own S.w0 w→OkAt P f args pre res post w) (hp:PassL (fnOf σ) ren vw axs args) (hpre:PreL (fnOf σ) (fnOf pre) ren ren) (hchk:z7l ren vw pre post res=true) :
  LT P S o ρ σ vw (renX ren res) (ren.map fun p=>(p.2,z3R ren (fnOf post p.1))):=by
 intro σ1 F g w ρc hs hrd hwr hv
 simp only[z7l,Afz] at hchk
 obtain⟨⟨⟨⟨⟨hn1,hn2⟩,hvd⟩,hck1⟩,hck2⟩,hck3⟩:=hchk
 have hn1:=q8D hn1
 have hn2:=q8D hn2
 have hσ:∀ i j,renI ren i=some j→σ1 j=renR ren (fnOf pre i):=fun i j hij=>by
  rw[hwr (j,z3R ren (fnOf post i)) (List.mem_map.2 ⟨(i,j),z8n hij,rfl⟩)]
  exact hpre.get hij
 let gc:Nat→G:=fun i=>match renI ren i with|some j=>g j|none=>.none
 let Bc:Nat→Prop:=fun b=>S.B b∨∃ r,vw.contains r=true∧b∈bl (g r)
 have hgc:∀ i j,renI ren i=some j→gc i=g j:=fun i j h=>by simp only[gc,h]
 have hgcn:∀ i,renI ren i=none→gc i=.none:=fun i h=>by simp only[gc,h]
 have inj:∀ i i' j,renI ren i=some j→renI ren i'=some j→i=i':=fun i i' j h h'=>Option.some.inj ((z2T hn2 h hn1).symm.trans (z2T hn2 h' hn1))
 have mem2:∀ i j,renI ren i=some j→j∈ren.map (·.2):=fun i j h=>List.mem_map.2 ⟨(i,j),z8n h,rfl⟩
 have vwne:∀ r i j,vw.contains r=true→renI ren i=some j→j≠r:=fun r i j hr hij e=>by
  have:=List.all_eq_true.1 hvd r (by simpa using hr)
  rw[← e] at this
  simp only[Bool.not_eq_true',List.contains_eq_mem,decide_eq_false_iff_not] at this
  exact this (mem2 i j hij)
 have blc:∀ i b,b∈bl (gc i)→∃ j,renI ren i=some j∧b∈bl (g j):=fun i b hb=>by
  cases hi:renI ren i with
  | none=>rw[hgcn i hi] at hb;cases hb
  | some j=>rw[hgc i j hi] at hb;exact⟨j,rfl,hb⟩
 have hBlt:∀ b,Bc b→b<w.heap.size∧¬ ∃ i,b∈bl (gc i):=fun b hb=>by
  rcases hb with hb|⟨r,hr,hb⟩
  ·refine⟨Nat.lt_of_lt_of_le (hs.bB b hb).1 hs.chg.size,fun ⟨i,hi⟩=>?_⟩
   obtain⟨j,_,hj⟩:=blc i b hi
   exact (hs.own j b hj).2.2.1 hb
  ·refine⟨(hs.own r b hb).1,fun ⟨i,hi⟩=>?_⟩
   obtain⟨j,hij,hj⟩:=blc i b hi
   exact hs.disj j r (vwne r i j hr hij) b hj hb
 have hsub:∀ m b,SM F S.B m b→SM F Bc m b:=fun m b hb=>by
  cases m with
  | fz=>exact hb
  | bo=>exact hb.imp id .inl
 have hstart:Sim (z9A w F Bc gc pre.length) F gc (fnOf pre) w:=by
  refine⟨Chg.refl w,hBlt,fun b hb=>hb,fun b hb=>.inl hb,hs.flt,fun i=>?_,fun i hi=>?_,fun i=>?_,fun i=>?_,fun i i' hne b hb hb'=>?_,fun i b hb=>?_⟩
  ·cases hi:renI ren i with
   | none=>
    rw[hgcn i hi]
    have hpi:fnOf pre i=.none:=by
     rcases z6x (i:=i) hck1 with h|h
     ·exact z9D h
     ·rw[Nat.zero_add,hi] at h
      simp at h
      exact z9D h
    rw[hpi];trivial
   | some j=>
    rw[hgc i j hi]
    have hr:=hs.roots j
    rw[hσ i j hi] at hr
    have hok:isNone (fnOf pre i)=true∨okR ren false (fnOf pre i)=true:=by
     rcases z6x (i:=i) hck1 with h|h
     ·exact .inl h
     ·simp only[Bool.or_eq_true,Afz] at h
      exact h.imp id (·.2)
    revert hr hok
    cases fnOf pre i<;>intro hr hok<;>cases hg:g j<;>rw[hg] at hr<;>try exact hr.elim
    ·trivial
    ·trivial
    ·obtain⟨vs,h1,h2⟩:=hr
     refine⟨vs,h1,z8m (S2:=SM F S.B) (g2:=g) (z:=false) hgc hsub ?_ h2⟩
     rcases hok with hok|hok
     ·cases hok
     ·exact hok
    ·exact⟨hr.1,z2U hr.2 hsub⟩
    ·rename_i m k es hh v k' L gs
     refine⟨⟨hr.1.1,z2U hr.1.2 hsub⟩,?_,hr.2.2⟩
     rcases hok with hok|hok
     ·cases hok
     ·simp only[okR,Afz] at hok
      exact j4N hr.2.1 hok.2 hgc
  ·show gc i=.none
   cases hi' : renI ren i with
   | none=>exact hgcn i hi'
   | some j=>
    rw[hgc i j hi']
    refine j5I hs ?_
    rw[hσ i j hi',j5J hi]
    rfl
  ·show j2u (gc i) (gc i)
   cases gc i with
   | none=>trivial
   | dead=>rfl
   | box b T=>exact .inl rfl
   | row v k L gs=>exact .inr ⟨L,gs,rfl⟩
  ·cases hi:renI ren i with
   | none=>rw[hgcn i hi];exact List.nodup_nil
   | some j=>rw[hgc i j hi];exact hs.nodup j
  ·obtain⟨j,hj,hbj⟩:=blc i b hb
   obtain⟨j',hj',hbj'⟩:=blc i' b hb'
   exact hs.disj j j' (fun e=>hne (inj i i' j hj (e▸hj'))) b hbj hbj'
  ·obtain⟨j,hj,hbj⟩:=blc i b hb
   refine⟨(hs.own j b hbj).1,(hs.own j b hbj).2.1,fun hB=>(hBlt b hB).2 ⟨i,hb⟩,.inl ⟨i,hb⟩⟩
 -- the arguments
 have hxv:=hv x (by simp[ho,Op.operands,Call.operands,hc])
 rw[hx,vr] at hxv
 obtain⟨cvs,hfn,hcaps⟩:=hxv
 have hargs:vrs (SM F S.B) w g axs (c.args.toList.map (E.ev ρc)++cvs):=by
  rw[← ha]
  refine vrs.append (z8l fun y hy=>hv y ?_) hcaps
  simp only[ho,Op.operands,Call.operands,hc]
  simp only[Array.mem_append]
  exact .inr (by simpa using hy)
 have hp1:PassL σ1 ren vw axs args:=z4r (rd:=vw) (fun r hr=>hrd r hr) (fun r hr=>by simpa using hr) hp
 have hvs:=z9C (Bc:=Bc) hs hgc (fun b hb=>.inl hb) (fun r b hr hb=>.inr ⟨r,hr,hb⟩) hp1 hargs
 have hret:=ok w hs.chg F Bc gc _ hstart hvs
 have he:(execOp (E.ev ρc) o).run P w=.ok (.enter f (c.args.toList.map (E.ev ρc)++cvs).toArray) w:=by
  simp only[execOp,ho]
  exact j1Z hc hfn hcb (by simp)
 rw[he]
 refine Calls.mono hret fun e w' ⟨v,hev,hchg,F',gc',hs',hres⟩=>⟨v,hev,?_⟩
 let g' : Nat→G:=fun j=>match invI ren j with|some i=>(match gc' i with|.none=>.dead|y=>y)|none=>g j
 have hg'1:∀ i j,renI ren i=some j→g' j=(match gc' i with|.none=>.dead|y=>y):=fun i j h=>by simp only[g',z2T hn2 h hn1]
 have hg'2:∀ j,invI ren j=none→g' j=g j:=fun j h=>by simp only[g',h]
 have hadv:∀ i j,renI ren i=some j→Adv (gc' i) (g' j):=fun i j h=>by
  rw[hg'1 i j h]
  cases gc' i<;>first|trivial|exact Adv.refl _
 have blg:∀ i j,renI ren i=some j→bl (g' j)=bl (gc' i):=fun i j h=>by
  rw[hg'1 i j h]
  cases gc' i<;>rfl
 have hz:(!vw.isEmpty)=false→∀ b,SM F' Bc .bo b→SM F' S.B .bo b:=fun hz b hb=>by
  have:vw=[]:=by simpa using hz
  subst this
  rcases hb with hb|hb|⟨r,hr,_⟩
  ·exact .inl hb
  ·exact .inr hb
  ·simp at hr
 have hck2' : ∀ i,isNone (fnOf post i)=true∨((renI ren i).isSome=true∧okR ren (!vw.isEmpty) (fnOf post i)=true):=fun i=>by
  rcases z6x (i:=i) hck2 with h|h
  ·exact .inl h
  ·simp only[Bool.or_eq_true,Afz,Nat.zero_add] at h
   exact h.imp id fun h=>⟨h.1,h.2⟩
 obtain⟨h1,h2⟩:=hs.step (g':=g') (σ':=owr σ1 (ren.map fun p=>(p.2,z3R ren (fnOf post p.1)))) (F':=F') (w':=w') (fun j=>∃ i,renI ren i=some j) hchg
  (fun b hb _=>by
   obtain⟨i,hi⟩:=hb
   obtain⟨j,hj,hbj⟩:=blc i b hi
   exact⟨j,⟨i,hj⟩,hbj⟩)
  (fun j hj=>by
   have hinv:invI ren j=none:=by
    cases hi:invI ren j with
    | none=>rfl
    | some i=>exact absurd ⟨i,j2b hi hn1⟩ hj
   refine⟨hg'2 j hinv,?_⟩
   rw[j2C (h:=fun i=>z3R ren (fnOf post i)) ren σ1 j hn2,hinv])
  (fun j ⟨i,hij⟩=>by
   rw[← hgc i j hij,hg'1 i j hij]
   have hh:=hs'.hdr i
   have hroot:=hs'.roots i
   have hsim:=hck2' i
   simp only[z9A] at hh
   cases hg0:gc i with
   | none=>trivial
   | dead=>rw[hg0] at hh;rw[show gc' i=.dead from hh];rfl
   | box b T=>
    rw[hg0] at hh
    rcases hh with hh|hh<;>rw[hh]
    ·exact .inl rfl
    ·exact .inr rfl
   | row v0 k L gs=>
    rw[hg0] at hh
    rcases hh with hh|⟨L',gs',hh⟩<;>rw[hh]
    ·exact .inl rfl
    ·exact .inr ⟨L',gs',rfl⟩)
  (fun b hb=>hs'.fmono b hb)
  (fun b hb=>⟨hs'.flt b hb,by
   rcases hs'.fnew b hb with h|h|h
   ·exact .inl h
   ·obtain⟨i,hi⟩:=h
    obtain⟨j,hj,hbj⟩:=blc i b hi
    exact .inr (.inr ⟨j,⟨i,hj⟩,hbj⟩)
   ·exact .inr (.inl h)⟩)
  (fun _ _ j ⟨i,hij⟩=>by
   rw[j2C (h:=fun i=>z3R ren (fnOf post i)) ren σ1 j hn2,z2T hn2 hij hn1,hg'1 i j hij]
   have hroot:=hs'.roots i
   have hsim:=hck2' i
   simp only
   cases hpo:fnOf post i<;>rw[hpo] at hroot hsim<;>cases hgi:gc' i<;>rw[hgi] at hroot<;>try exact hroot.elim
   ·trivial
   ·trivial
   ·obtain⟨vs,k1,k2⟩:=hroot
    refine⟨vs,k1,j4M (S1:=SM F' Bc) (S2:=SM F' S.B) (g1:=gc') (z:=!vw.isEmpty) hadv (fun _ h=>h) hz ?_ k2⟩
    rcases hsim with hsim|hsim
    ·cases hsim
    ·exact hsim.2
   ·rename_i m k xs _ _ _ _
    refine⟨hroot.1,j0C (m:=m) (xs:=xs) hroot.2 fun b hb=>?_⟩
    cases m with
    | fz=>exact hb
    | bo=>
     rcases hsim with hsim|hsim
     ·cases hsim
     ·simp only[okR] at hsim
      exact hz (by
       cases hv0:(!vw.isEmpty) with
       | false=>rfl
       | true=>rw[hv0] at hsim;exact absurd hsim.2 (by simp[okR,isFz])) b hb
   ·rename_i m k es hh v k' L gs
    rcases hsim with hsim|hsim
    ·cases hsim
    ·simp only[okR,Afz] at hsim
     obtain⟨_,hsim,hho⟩:=hsim
     refine⟨⟨hroot.1.1,?_⟩,k0p hroot.2.1 hho hadv,hroot.2.2⟩
     cases hv0:(!vw.isEmpty) with
     | false=>
      have h0:=hz hv0
      exact z2U hroot.1.2 fun m b hb=>by
       cases m with
       | fz=>exact hb
       | bo=>exact h0 b hb
     | true=>
      have hm:m=.fz:=by
       rw[hv0] at hsim
       cases m
       ·rfl
       ·simp[isFz] at hsim
      exact hroot.1.2.fz (hroot.2.2 hm) fun b hb=>hb)
  (fun j ⟨i,hij⟩=>by rw[blg i j hij];exact hs'.nodup i)
  (fun j j' ⟨i,hij⟩ ⟨i',hij'⟩ hne b hb=>by
   rw[blg i j hij] at hb
   rw[blg i' j' hij']
   exact hs'.disj i i' (fun e=>by subst e;rw[hij] at hij';exact hne (Option.some.inj hij')) b hb)
  (fun j b ⟨i,hij⟩ hb=>by
   rw[blg i j hij] at hb
   obtain⟨k1,k2,k3,k4⟩:=hs'.own i b hb
   refine⟨k1,k2,?_⟩
   rcases k4 with k4|k4
   ·obtain⟨i',hi'⟩:=k4
    obtain⟨j',hj',hbj⟩:=blc i' b hi'
    exact .inr ⟨j',⟨i',hj'⟩,hbj⟩
   ·exact .inl k4)
 exact⟨F',g',h1,h2,k7v (S1:=SM F' Bc) (S2:=SM F' S.B) (g1:=gc') (z:=!vw.isEmpty) hadv (fun _ h=>h) hz hck3 hres⟩
end
section
variable {P:Program}[HasTab P]{S:Start}{n:Nat}{ops:Array Oper}{Q:AE→St→Prop}{o:Oper}{l rest:List Oper}{ρ:AE}{σ:St}{d:Nat}{md:Md2}
theorem CBK {K:World→Prop}{f:Nat}{c:Call}{x:Operand}{caps axs args:List X}{res:X}(hK:Wd K S)(hst:Stb K)(ok:OkK K P f args res)(h:AL P S ops Q (q4j md [] []) rest (updX ρ d (renX [] res)) σ)
  (ho:o.op=.call c:=by rfl) (hc:c.callee=.value x:=by rfl) (hx:evX ρ x=.fn f caps:=by rfl) (hcb:q8C P f=true:=by kernel_rfl) (ha:c.args.toList.map (evX ρ)++caps=axs:=by rfl) (hp:PassL (fnOf σ) [] [] axs args:=by repeat (first|exact .nil|refine .cons ?_ ?_|exact .same|exact .ag (.cons .same (.cons .same .nil))|refine .ag ?_|exact .d rfl|exact .d z6S|exact .nld|exact .nl|exact .rd rfl rfl|exact .vd rfl rfl|exact .pb rfl|exact .ref rfl|refine .fn ?_|exact .pf rfl|exact .pf z6S|exact .dd (DA (by exact fun _=>rfl) rfl) rfl|exact .dd (DA OwD.rd rfl) rfl|(refine .dd (DAh (x:=?x) OwD.rd ?hx0 rfl rfl rfl ?he0) rfl;(case hx0=>assumption);(case he0=>rfl))|exact .u))
  (hchk:z7l [] [] [] [] res=true:=by rfl) (hd:o.dst=some d:=by rfl) (hg:q4e ops ρ o=some true:=by rfl):AL P S ops Q md (o::rest) ρ σ:=
 q0f (wr:=[]) (q2n [] [] ho hc hx hcb ha (fun w hw=>ok w (hst _ _ hK.1 (hw.mono fun b _ hb=>hK.2 b hb))) hp trivial hchk) h hd hg
end
section
variable {P:Program}[HasTab P]{S:Start}{n:Nat}{ops:Array Oper}{Q:AE→St→Prop}{o:Oper}{l rest:List Oper}{ρ:AE}{σ:St}{d:Nat}{md:Md2}
theorem CBK' {K:World→Prop}{f:Nat}{c:Call}{x:Operand}{caps axs args:List X}{res:X}(hK:Wd K S)(hst:Stb K)(ok:OkK K P f args res)(ho:o.op=.call c:=by rfl)(hc:c.callee=.value x:=by rfl)(hx:evX ρ x=.fn f caps:=by rfl)(hcb:q8C P f=true:=by kernel_rfl)(ha:c.args.toList.map (evX ρ)++caps=axs:=by rfl)(hp:PassL (fnOf σ) [] [] axs args:=by repeat (first|exact .nil|refine .cons ?_ ?_|exact .same|exact .ag (.cons .same (.cons .same .nil))|refine .ag ?_|exact .d rfl|exact .d z6S|exact .nld|exact .nl|exact .rd rfl rfl|exact .vd rfl rfl|exact .pb rfl|exact .ref rfl|refine .fn ?_|exact .pf rfl|exact .pf z6S|exact .dd (DA (by exact fun _=>rfl) rfl) rfl|exact .dd (DA OwD.rd rfl) rfl|(refine .dd (DAh (x:=?x) OwD.rd ?hx0 rfl rfl rfl ?he0) rfl;(case hx0=>assumption);(case he0=>rfl))|exact .u))
  (hchk:z7l [] [] [] [] res=true:=by rfl) (hd:o.dst=some d:=by rfl) (hg:q4e ops ρ o=some true:=by rfl):Imp (AL P S ops Q (q4j md [] []) rest (updX ρ d (renX [] res)) σ) (AL P S ops Q md (o::rest) ρ σ):=⟨fun h=>CBK hK hst ok h ho hc hx hcb ha hp hchk hd hg⟩
end
theorem OkK.lawB {K:World→Prop}{P:Program}{fid:Nat}{f:UInt8→D}(hf:∀ b,f b=.i .u8 (b.toNat:Int)){W:World}(hW:K W){a:List UInt8}{z:Value}(ha:rdS (fun _=>True) W a z){x:Bool}(hx:x=true)
  (h:OkK K P fid [.d .fz (.sl 1 (a.map f))] (.d .fz (.b x))):Ret P fid #[z] W (fun _=>False) fun v w=>v=.bool true:=by
 have h:=h W hW (fun b=>b<W.heap.size) (fun _=>False) (fun _=>.none) [z] (Sim.begin0 W) ⟨z,[],rfl,k5r hf ha,rfl⟩
 refine Calls.mono h fun e w' ⟨v,he,hc,F',g',_,hv⟩=>⟨v,he,⟨hc.os,hc.tape,hc.output,hc.size,fun k hk _=>hc.block k hk fun ⟨i,hi⟩=>by cases hi⟩,?_⟩
 subst hx
 exact hv
end Go.A
