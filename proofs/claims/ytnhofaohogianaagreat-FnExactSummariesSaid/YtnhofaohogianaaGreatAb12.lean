/- Abstract states of a walk: plain lemmas on the model, without conditions of their own. -/
import Derived.Test.YtnhofaohogianaaGreatAb11
set_option linter.unusedVariables false
set_option linter.unusedSimpArgs false
set_option linter.ambiguousOpen false
set_option linter.unusedSectionVars false
set_option linter.unnecessarySimpa false
open Nat renaming beq→Aaz,zero_add→Adz,eq_of_beq_eq_true→Abz,blt→Cwz,lt_of_lt_of_le→Bcz
open List renaming range→Amz,length_take→Boz,getElem?_drop→Azz,getElem?_take→Anz,filter_cons→Aoz
open Bool renaming and_eq_true→Afz,or_eq_true→Agz,not_eq_true'→Baz
open Array renaming replicate→Alz
namespace Go.A
open Go Go.E
theorem bdP {α β γ:Type}{o:Option (α×γ)}{f:α×γ→Option β}{r:β}{G:Prop}(hr:o.bind f=some r)(h:∀ y z,o=some (y,z)→f (y,z)=some r→G):G:=bdE hr fun q=>h q.1 q.2
theorem bdT {α β γ δ:Type}{o:Option (α×γ×δ)}{f:α×γ×δ→Option β}{r:β}{G:Prop}(hr:o.bind f=some r)(h:∀ x y z,o=some (x,y,z)→f (x,y,z)=some r→G):G:=bdE hr fun q=>h q.1 q.2.1 q.2.2
abbrev dI (n:Int):X:=.d .fz (.i .i64 n)
abbrev dB (b:Bool):X:=.d .fz (.b b)
abbrev dS (s:BA_):X:=.d .fz (.s s)
end Go.A
set_option maxRecDepth 100000
namespace Go.A
open Go Go.E
structure Steps (n:Nat) (b:Prop):Prop where
 h:b
theorem Steps.z {a:Prop}(h:a):Steps 0 a:=⟨h⟩
theorem Steps.s {a b:Prop}{n:Nat}(s:Imp a b)(h:Steps n a):Steps (n+1) b:=⟨s.h h.h⟩
theorem lT:true=true:=rfl
theorem lF:false=false:=rfl
class Dec (p:Prop) (b:Bool) (c:outParam Bool):Prop where
 h:p→b=c
instance {b:Bool}:Dec (b=true) b true:=⟨id⟩
instance {b:Bool}:Dec (¬ b=true) b false:=⟨bF⟩
instance {b:Bool}:Dec (¬ b=true) (!b) true:=⟨bnT⟩
instance {b:Bool}:Dec (b=true) (!b) false:=⟨bnF⟩
instance {p:Prop} [Decidable p]:Dec p (decide p) true:=⟨dT⟩
instance {p:Prop} [Decidable p]:Dec (¬ p) (decide p) false:=⟨dF⟩
instance {p:Prop} [Decidable p]:Dec (¬ p) (!decide p) true:=⟨nT⟩
instance {p:Prop} [Decidable p]:Dec p (!decide p) false:=⟨nF⟩
theorem uH {p:Prop}{b c:Bool}(h:p)[d:Dec p b c]:b=c:=d.h h
theorem hB {b c:Bool}(h:b=c:=by first|with_reducible exact Go.A.lT|with_reducible exact Go.A.lF|exact uH h40|exact uH h39|exact uH h38|exact uH h37|exact uH h36|exact uH h35|exact uH h34|exact uH h33|exact uH h32|exact uH h31|exact uH h30|exact uH h29|exact uH h28|exact uH h27|exact uH h26|exact uH h25|exact uH h24|exact uH h23|exact uH h22|exact uH h21|exact uH h20|exact uH h19|exact uH h18|exact uH h17|exact uH h16|exact uH h15|exact uH h14|exact uH h13|exact uH h12|exact uH h11|exact uH h10|exact uH h9|exact uH h8|exact uH h7|exact uH h6|exact uH h5|exact uH h4|exact uH h3|exact uH h2|exact uH h1|exact uH hltk4|exact uH hltk3|exact uH hltk2|exact uH hltk1|exact uH (Go.A.ltN hltk4)|exact uH (Go.A.ltI hltk4)|exact uH (Go.A.ltN hltk3)|exact uH (Go.A.ltI hltk3)|exact uH (Go.A.ltN hltk2)|exact uH (Go.A.ltI hltk2)|exact uH (Go.A.ltN hltk1)|exact uH (Go.A.ltI hltk1)|exact Go.A.dF Go.A.geN|exact Go.A.dF Go.A.geI):b=c:=h
inductive Pk (x y:Code):Bool→Code→Prop
 | t:Pk x y true x
 | f:Pk x y false y
inductive Nb:X→X→Prop
 | b {m:Md} {b c:Bool} (h:b=c):Nb (.d m (.b b)) (.d .fz (.b c))
 | r {v:X}:Nb v v
section
variable {P:Program}{S:Start}{n:Nat}{QP:q3Z}{ρ:AE}{σ:St}{c:Operand}{x y z:Code}{m:Md}{b b' : Bool}
theorem cA (hc:evX ρ c=.d m (.b b):=by rfl)(hb:b=b':=by exact hB)(hp:Pk x y b' z:=by first|exact .t|exact .f):Imp (AW P S n z QP ρ σ) (AW P S n (.cond c x y) QP ρ σ):=by
 cases hp
 ·exact⟨q0D hc hb⟩
 ·exact⟨q0E hc hb⟩
theorem q1D : Imp (AW P S n x (z6E (fun ρ σ=>AW P S n y QP ρ σ) QP) ρ σ) (AW P S n (.seq x y) QP ρ σ):=⟨AW.seq⟩
end
section
variable {P:Program}[HasTab P]{S:Start}{n:Nat}{ops:Array Oper}{Q:AE→St→Prop}{QP:q3Z}{o:Oper}{rest:List Oper}{ρ:AE}{σ:St}{d:Nat}{v v' : X}{rd:List Nat}{md:Md2}{m m' : Md}{b:Bool}{y:Code}{id:Nat}{T e:Nat}{t te:TI}
theorem srd (hm:P.follows .mixedOrders=true:=by kernel_rfl):Imp (AL P S ops (fun ρ σ=>QP .normal ρ σ) (some (0,[],none)) ops.toList ρ σ) (AW P S n (.region id ops true) QP ρ σ):=⟨fun h=>q0z hm h⟩
theorem Va (hv:opV (HasTab.tab P) ρ σ o.op=some (v,rd):=by exact rfl)(hk:Nb v v':=by first|exact .b hB|exact .r)(hd:o.dst=some d:=by rfl)(hg:q3O ops ρ o=some true:=by rfl):Imp (AL P S ops Q (q4a md rd []) rest (updX ρ d v') σ) (AL P S ops Q md (o::rest) ρ σ):=by
 cases hk with
 | r=>exact⟨fun h=>V hv h hd hg⟩
 | @b _ _ c hb=>cases c with
  | true=>exact⟨fun h=>VT hv hb h hd hg⟩
  | false=>exact⟨fun h=>VF hv hb h hd hg⟩
end
mutual
def mtX:X→X→List (Nat×Nat)
 | .ref r _,.ref i _=>[(r,i)]
 | .vs r _ _ _,.vs i _ _ _=>[(r,i)]
 | .pb r _,.pb i _=>[(r,i)]
 | .pe r _ _ _,.pe i _ _ _=>[(r,i)]
 | .ag a,.ag b=>mtXs a b
 | .tu a,.tu b=>mtXs a b
 | .fn _ a,.fn _ b=>mtXs a b
 | _,_=>[]
def mtXs:List X→List X→List (Nat×Nat)
 | x::a,y::b=>mtX x y++mtXs a b
 | _,_=>[]
end
def mtR:Root→Root→List (Nat×Nat)
 | .box a,.box b=>mtXs a b
 | .deep _ _ _ h,.deep _ _ _ k=>(h.zip k).map fun p=>(p.1.2.2,p.2.2.2)
 | _,_=>[]
def addI (l:List (Nat×Nat)):List (Nat×Nat)→List (Nat×Nat)
 | []=>l
 | p::q=>addI (bif l.any fun x=>Aaz x.1 p.1||Aaz x.2 p.2 then l else l++[p]) q
def mtS (l:List (Nat×Nat))(σ τ:St):List (Nat×Nat):=addI l (l.flatMap fun p=>mtR (fnOf σ p.1) (fnOf τ p.2))
def isRt:Root→Bool
 | .none=>false
 | _=>true
def mtA (n0:Nat)(l:List (Nat×Nat))(σ τ:St):List (Nat×Nat):=addI (mtS (mtS (addI ((Amz n0).map fun i=>(i,i)) l) σ τ) σ τ) (((Amz τ.length).filter fun i=>isRt (fnOf τ i)).map fun i=>(i,i))
def mtE (P:Program)(ρ:AE)(σ:St)(lr:List ResultVar)(n0:Nat)(res:X)(post:St):List (Nat×Nat):=mtA n0 (match j3d P ρ σ lr with|some xs=>mtX (tupX xs) res|none=>[]) σ post
def mtL (ρ:AE):List (Nat×X)→List (Nat×Nat)
 | []=>[]
 | p::L=>mtX (ρ p.1) p.2++mtL ρ L
def selX:X→X→X
 | _,.u=>.u
 | x,_=>x
theorem k4N {x y:X}:Wk (selX x y) x:=by cases y<;>first|exact .rfl|exact .u
def k4O:List X→List X→List X
 | x::a,y::b=>selX x y::k4O a b
 | a,_=>a
theorem selXs_wk:∀ {a b:List X},Wks (k4O a b) a
 | [],[]=>.nil
 | [],_::_=>.nil
 | x::a,[]=>.cons .rfl (Wks_rfl a)
 | x::a,y::b=>.cons k4N selXs_wk
where Wks_rfl:∀ a:List X,Wks a a
 | []=>.nil
 | _::a=>.cons .rfl (Wks_rfl a)
def selR:Root→Root→Root
 | .box a,.box b=>.box (k4O a b)
 | x,_=>x
def selS:St→St→St
 | x::s,y::t=>selR x y::selS s t
 | s,_=>s
theorem j4Q:∀ {s t:St} {i:Nat},fnOf (selS s t) i=selR (fnOf s i) (fnOf t i)
 | [],t,i=>by cases t<;>simp[selS,z0N,selR]
 | x::s,[],i=>by rw[z0N];simp only[selS];cases fnOf (x::s) i<;>rfl
 | x::s,y::t,0=>rfl
 | x::s,y::t,i+1=>by simp only[selS,fnOf];exact j4Q
theorem q3E {S:Start}{ρ:AE}{σ:St}(τ:St):GH S ρ σ ρ (selS σ τ):=by
 intro F g w ρc hs hv
 refine⟨F,g,⟨hs.chg,hs.bB,hs.fmono,hs.fnew,hs.flt,fun i=>?_,hs.low,hs.hdr,hs.nodup,hs.disj,hs.own⟩,hv⟩
 rw[j4Q]
 have:=hs.roots i
 revert this
 cases fnOf σ i<;>cases fnOf τ i<;>simp only[selR]<;>intro h<;>try exact h
 revert h
 cases g i<;>intro h<;>try exact h.elim
 obtain⟨vs,k1,k2⟩:=h
 exact⟨vs,k1,selXs_wk.vr k2⟩
theorem q1E {P:Program}{S:Start}{fn:Func}{ρ:AE}{σ:St}{e:Exit}{lr:List ResultVar}{res:X}{post:St}{n0:Nat}(hS:S.n0=n0)(he:e=.normal∨e=.ret:=by first|exact .inr rfl|exact .inl rfl)(hl:fn.results=lr.toArray:=by rfl)(ht:lr.all (j0n fn.ntmps)=true:=by rfl)
  (hx:(j3d P ρ σ lr).map (fun xs=>renX (mtE P ρ σ lr n0 res post) (tupX xs))=some res:=by kernel_rfl) (hc:j3i (mtE P ρ σ lr n0 res post) n0 post.length σ=true:=by kernel_rfl) (hp:renS (mtE P ρ σ lr n0 res post) post.length σ=post:=by kernel_rfl):endA P S fn res post e ρ σ:=q0l _ _ hS he hl ht hx hc hp
theorem q0P {S:Start}{ρ:AE}{σ:St}{n0:Nat}(hS:S.n0=n0){L:List (Nat×X)}{σt:St}(hL:WkR (mtA n0 (mtL ρ L) σ σt) ρ L:=by repeat (first|exact trivial|refine And.intro (.of (by kernel_rfl)) ?_))(hσ:selS (renS (mtA n0 (mtL ρ L) σ σt) σt.length σ) σt=σt:=by kernel_rfl)(hc:j3i (mtA n0 (mtL ρ L) σ σt) n0 σt.length σ=true:=by kernel_rfl):GH S ρ σ (ofX L) σt:=by
 have:=(q0A (S:=S) hS _ _ hL rfl hc).trans (q3E σt)
 rwa[hσ] at this
theorem E {G:Prop}(h:G:=by (cases hr;try (cases hik4 _ rfl;rename_i hr;cases hr));(try (cases hik3 _ rfl;rename_i hr;cases hr));(try (cases hik2 _ rfl;rename_i hr;cases hr));(try (cases hik1 _ rfl;rename_i hr;cases hr));first|exact q1E hS|exact k6Z|exact q0P hS|exact⟨_,rfl,q0P hS⟩):G:=h
theorem I {G:Prop}(h:G:=by exact q0P hS):G:=h
section
variable {P:Program}{S:Start}{n:Nat}{c:Code}{QP:q3Z}{ρ:AE}{σ:St}
theorem lenT {α:Type}{xs:List α}{f:α→D}{m:Md}{k:Nat}(t:Nat)(hx:ρ t=.d m (.sl k (xs.map f)):=by rfl):Imp ((xs.length:Int)≤9223372036854775807→AW P S n c QP ρ σ) (AW P S n c QP ρ σ):=⟨AW.len (.tmp t hx)⟩
theorem lenA {α:Type}{xs:List α}{f:α→D}{m:Md}{k:Nat}{cs:List X}(i t:Nat)(hx:ρ t=.ag cs:=by rfl)(hc:cs[i]?=some (.d m (.sl k (xs.map f))):=by rfl):Imp ((xs.length:Int)≤9223372036854775807→AW P S n c QP ρ σ) (AW P S n c QP ρ σ):=⟨AW.len (.ag i (.tmp t hx) hc)⟩
theorem lenR {α:Type}{xs:List α}{f:α→D}{m:Md}{k:Nat}(r:Nat)(hr:fnOf σ r=.row m k (xs.map f):=by rfl):Imp ((xs.length:Int)≤9223372036854775807→AW P S n c QP ρ σ) (AW P S n c QP ρ σ):=⟨q2U r hr⟩
theorem rngT {m:Md}{k:IntKind}{b:Int}(t:Nat)(hx:ρ t=.d m (.i k b):=by rfl):Imp (rngI k b→AW P S n c QP ρ σ) (AW P S n c QP ρ σ):=⟨q1x (.tmp t hx)⟩
end
theorem hX {p:Prop}(h:p:=by first|exact hxk5|exact hxk4|exact hxk3|exact hxk2|exact hxk1|exact hx30|exact hx29|exact hx28|exact hx27|exact hx26|exact hx25|exact hx24|exact hx23|exact hx22|exact hx21|exact hx20|exact hx19|exact hx18|exact hx17|exact hx16|exact hx15|exact hx14|exact hx13|exact hx12|exact hx11|exact hx10|exact hx9|exact hx8|exact hx7|exact hx6|exact hx5|exact hx4|exact hx3|exact hx2|exact hx1):p:=h
theorem h0 {j:Int}(h:0≤j:=by first|exact Int.natCast_nonneg _|with_reducible assumption):0≤j:=h
theorem hL {p:Prop}(h:p:=by first|exact hl6.2|exact hl6.1|exact hl5.2|exact hl5.1|exact hl4.2|exact hl4.1|exact hl3.2|exact hl3.1|exact hl2.2|exact hl2.1|exact hl1.2|exact hl1.1|with_reducible assumption):p:=h
section
variable {P:Program}[HasTab P]{S:Start}{ops:Array Oper}{Q:AE→St→Prop}{o:Oper}{rest:List Oper}{ρ:AE}{σ:St}{d:Nat}{md:Md2}{m m' : Md}{T e k:Nat}{t te:TI}{α:Type}{f:α→D}{xs:List α}
theorem IFa {x i:Operand}{q:IntKind}{j:Int}{y:α}{cs:List D}(ho:o.op=.indexAddr T x i:=by rfl)(hT:(HasTab.tab P).get T=some t:=by rfl)(he:t.el=some e:=by rfl)(hE:(HasTab.tab P).get e=some te:=by rfl)(hx:evX ρ x=.d m (.sl te.sz (xs.map f)):=by rfl)(hi:evX ρ i=.d m' (.i q j):=by rfl)(hd:o.dst=some d:=by rfl)(hg:q3O ops ρ o=some true:=by rfl)(hj:xs[j.toNat]?=some y:=by exact hX)(h0:0≤j:=by exact h0)(hc:(f y).cells=cs:=by first|with_reducible exact Expr.D_cells _|rfl):Imp (AL P S ops Q (q4a md [] []) rest (updX ρ d (.pf m cs)) σ) (AL P S ops Q md (o::rest) ρ σ):=IFq' h0 hj hc ho hT he hE hx hi hd hg
theorem IEa {x i:Operand}{r:Nat}{q:IntKind}{j:Int}{y:α}(ho:o.op=.indexAddr T x i:=by rfl)(hT:(HasTab.tab P).get T=some t:=by rfl)(he:t.el=some e:=by rfl)(hE:(HasTab.tab P).get e=some te:=by rfl)(hx:evX ρ x=.ref r none:=by rfl)(hσ:fnOf σ r=.row m te.sz (xs.map f):=by rfl)(hi:evX ρ i=.d m' (.i q j):=by rfl)(hd:o.dst=some d:=by rfl)(hg:q3O ops ρ o=some true:=by rfl)(hj:xs[j.toNat]?=some y:=by exact hX)(h0:0≤j:=by exact h0):Imp (AL P S ops Q (q4a md [r] []) rest (updX ρ d (.pe r none j.toNat 0)) σ) (AL P S ops Q md (o::rest) ρ σ):=IE' hj h0 ho hT he hE hx hσ hi hd hg
theorem LPe {x:Operand}{r j c:Nat}{y:α}{z:D}(ho:o.op=.load T x:=by rfl)(hT:(HasTab.tab P).get T=some t:=by rfl)(ha:t.agg=false:=by rfl)(hx:evX ρ x=.pe r none j c:=by rfl)(hσ:fnOf σ r=.row m k (xs.map f):=by rfl)(hj:xs[j]?=some y:=by exact hX)(hz:(f y).cells[c]?=some z:=by rfl)(hd:o.dst=some d:=by rfl)(hg:q3O ops ρ o=some true:=by rfl):Imp (AL P S ops Q (q4a md [r] []) rest (updX ρ d (dX m z)) σ) (AL P S ops Q md (o::rest) ρ σ):=LP' hj ho hT ha hx hσ hz hd hg
theorem LPb {x:Operand}{r j c:Nat}{y:α}(ho:o.op=.load T x:=by rfl)(hT:(HasTab.tab P).get T=some t:=by rfl)(ha:t.agg=true:=by rfl)(hx:evX ρ x=.pe r none j c:=by rfl)(hσ:fnOf σ r=.row m k (xs.map f):=by rfl)(hj:xs[j]?=some y:=by exact hX)(hl:Aaz (((f y).cells.drop c).take t.sz).length t.sz=true:=by rfl)(hd:o.dst=some d:=by rfl)(hg:q3O ops ρ o=some true:=by rfl):Imp (AL P S ops Q (q4a md [r] []) rest (updX ρ d (.ag ((((f y).cells.drop c).take t.sz).map (dX m)))) σ) (AL P S ops Q md (o::rest) ρ σ):=LPa' hj ho hT ha hx hσ hl hd hg
theorem OBa {op:BinOp}{U:Nat}{x y:Operand}{X1 Y1:X}{u1 v1 r1:Value}{z:D}(ho:o.op=.binOp op T x y U:=by rfl)(hx:evX ρ x=X1:=by rfl)(hy:evX ρ y=Y1:=by rfl)(hu:cvX X1=some u1:=by rfl)(hv:cvX Y1=some v1:=by rfl)(hB:BR P op T X1 Y1 u1 v1 z r1:=by first|exact z5d (q:=1) (q5J hltk4 (by with_reducible assumption))|exact z5d (q:=1) (q5J (ltN hltk4) hL)|exact z5d (q:=1) (q5J (ltI hltk4) hL)|exact z5d (q:=1) (q5J hltk3 (by with_reducible assumption))|exact z5d (q:=1) (q5J (ltN hltk3) hL)|exact z5d (q:=1) (q5J (ltI hltk3) hL)|exact z5d (q:=1) (q5J hltk2 (by with_reducible assumption))|exact z5d (q:=1) (q5J (ltN hltk2) hL)|exact z5d (q:=1) (q5J (ltI hltk2) hL)|exact z5d (q:=1) (q5J hltk1 (by with_reducible assumption))|exact z5d (q:=1) (q5J (ltN hltk1) hL)|exact z5d (q:=1) (q5J (ltI hltk1) hL)|exact bAdd (by with_reducible assumption)|exact bSub (by with_reducible assumption)|exact z5d (q:=1) (by with_reducible assumption))(hz:cv z=some r1:=by rfl)(hd:o.dst=some d:=by rfl)(hg:q3O ops ρ o=some true:=by rfl):Imp (AL P S ops Q (q4a md [] []) rest (updX ρ d (.d .fz z)) σ) (AL P S ops Q md (o::rest) ρ σ):=OB' z hB ho hx hy hu hv hz hd hg
end
structure Bx (a:Prop):Prop where
 h:a
theorem g {a b:Prop}(s:Bx a→b:=by (intro h;(repeat (first|refine J Va ?_|refine J N0' ?_|refine J q1D ?_|refine J q0U ?_|refine J cA ?_|refine J q0G ?_|refine J q0S ?_|refine J SB' ?_|refine J LF' ?_|refine J LE' ?_|refine J q1C ?_|refine J q0T ?_|refine J q1B ?_|refine J IFa ?_|refine J IEa ?_|refine J LPe ?_|refine J LPb ?_|refine J OBa ?_|refine J srd ?_));exact h.h)):Imp a b:=⟨fun h=>s ⟨h⟩⟩
theorem gn {a b:Prop}(n:Nat)(s:Bx a→Steps n b:=by (intro h;repeat (first|exact Steps.z h.h|refine Steps.s Va ?_|refine Steps.s N0' ?_|refine Steps.s q1D ?_|refine Steps.s q0U ?_|refine Steps.s cA ?_|refine Steps.s q0G ?_|refine Steps.s q0S ?_|refine Steps.s SB' ?_|refine Steps.s LF' ?_|refine Steps.s LE' ?_|refine Steps.s q1C ?_|refine Steps.s q0T ?_|refine Steps.s q1B ?_|refine Steps.s IFa ?_|refine Steps.s IEa ?_|refine Steps.s LPe ?_|refine Steps.s LPb ?_|refine Steps.s OBa ?_|refine Steps.s srd ?_))):Imp a b:=⟨fun h=>(s ⟨h⟩).h⟩
theorem e {G:Prop}(h:G:=by exact J g E):G:=h
def mix {α β:Type}(f f0:α→β)(xs:List α)(k:Nat):List β:=(xs.take k).map f0++(xs.drop k).map f
theorem j0z {α β:Type}{f f0:α→β}{xs:List α}{k:Nat}{x:α}(h:xs[k]?=some x):(mix f f0 xs k)[k]?=some (f x):=by
 have hk:=(List.getElem?_eq_some_iff.1 h).1
 have hl:((xs.take k).map f0).length=k:=by rw[lnM,Boz];omega
 unfold mix
 rw[List.getElem?_append_right (by omega),hl,Nat.sub_self,List.getElem?_map,Azz,Nat.add_zero,h];rfl
theorem mixS {α β:Type}{f f0:α→β}{xs:List α}{k:Nat}{x:α}{e:β}(h:xs[k]?=some x)(he:e=f0 x:=by rfl):(mix f f0 xs k).set k e=mix f f0 xs (k+1):=by
 subst he
 obtain⟨hk,hx⟩:=List.getElem?_eq_some_iff.1 h
 have hl:((xs.take k).map f0).length=k:=by rw[lnM,Boz];omega
 unfold mix
 rw[List.set_append_right _ _ (by omega),hl,Nat.sub_self,List.drop_eq_getElem_cons hk,List.map_cons,List.set_cons_zero,List.take_add_one,h,List.map_append,List.append_assoc]
 rfl
theorem q2n {S:Start}{ρ:AE}{σ:St}{m:Md}{k:Nat}{es:List (List Cell)}{hh:List (Nat×Nat×Nat)}(r:Nat)(hσ:fnOf σ r=.deep m k es hh:=by rfl):GH S ρ σ ρ (setL σ r (.deep m k es [])):=
 GH.same hσ fun S1 w g z h=>by
  cases z with
  | row v k' L gs=>exact⟨h.1,(fun p hp=>nomatch hp),h.2.2⟩
  | none=>exact h
  | dead=>exact h
  | box b T=>exact h
section
variable {P:Program}{S:Start}{n:Nat}{Q:q3Z}{ρ:AE}{σ:St}{ops:Array Oper}
theorem AT.endK {K:AE→St→Lg→Option Nat→Prop}{k:Nat}{lg:Lg}{hd:Option Nat}{R:Env→World→Prop}(hK:∀ ρ σ lg hd,K ρ σ lg hd→∀ F g w ρc,Sim S F g (fnOf σ) w→VR S F g w ρ ρc→R ρc w)(h:AT P S ops K k [] ρ σ lg hd):∀ F g w ρc,Sim S F g (fnOf σ) w→VR S F g w ρ ρc→R ρc w:=by
 generalize hl:([]:List Oper)=l at h
 induction h with
 | nil h=>exact hK _ _ _ _ h
 | op _ _ _ _=>cases hl
 | off _ _ _=>cases hl
 | opT _ _ _ _=>cases hl
 | gh hl' _ ih=>
  intro F g w ρc hs hv
  obtain⟨F',g',h1,h2⟩:=hl' F g w ρc hs hv
  exact ih hl F' g' w ρc h1 h2
theorem k2A {Qp:Post}{id:Nat}(hN:Nat)(hm:P.follows .mixedOrders=true)(h:AT P S ops (fun ρ σ lg hd=>hd=none∧j2A ops lg (some hN)=true∧∀ F g w ρc,Sim S F g (fnOf σ) w→VR S F g w ρ ρc→WL P n ops Qp (ops.toList.drop hN) ρc w) 0 (ops.toList.take hN) ρ σ [] none):∀ F g w ρc,Sim S F g (fnOf σ) w→VR S F g w ρ ρc→CW P n (.region id ops true) Qp ρc w:=by
 intro F g w ρc hs hv hok a ha
 have hok' : ops.toList.all (q8M n)=true:=by simpa[q9x] using hok
 have hguards:z4q n ops=true:=z6D hok'
 obtain⟨ss,hss,hch,⟨lg',hd',htail⟩,ρf,σf,lgf,hdf,⟨hno,hck,_⟩,hpre,hh⟩:=h.head rfl
 simp only[List.nil_append,Adz] at hpre hh htail
 subst hno
 have hss1:ss.length=(ops.toList.take hN).length:=by
  rcases hh with hh|⟨_,h2⟩
  ·cases hh
  ·exact h2
 simp only[j2A,Option.getD_some,Afz] at hck
 obtain⟨⟨hB,hlook⟩,hord⟩:=hck
 have hB0:=hB
 simp only[z2Q,Afz] at hB0
 have hle0:hN≤ops.size:=by simpa using hB0.1.1.1
 have htl:(ops.toList.take hN).length=hN:=by rw[Boz,Array.length_toList];exact Nat.min_eq_left hle0
 have hlen:ss.length=hN:=hss1.trans htl
 have hd0:(ops.toList.take hN).drop hN=[]:=List.drop_eq_nil_of_le (Nat.le_of_eq htl)
 rw[hlen,List.take_take,Nat.min_self] at hch htail
 rw[hd0] at htail
 subst hlen
 have htail:=htail.endK (R:=fun ρc w=>WL P n ops Qp (ops.toList.drop ss.length) ρc w) (fun _ _ _ _ hk=>hk.2.2)
 refine wp_region_any hm ?_
 generalize hgen:ss.length=hN at *
 have hB':=hB
 simp only[z2Q,Afz] at hB'
 have hle:hN≤ops.size:=by simpa using hB'.1.1.1
 have hseq:=hB'.2
 have hss' : hN≤ops.toList.length:=by simpa using hle
 -- logs
 have hlg:∀ i s,ss[i]?=some s→lgf.getD i ([],[])=(s.rd,s.ids):=fun i s hi=>by
  obtain⟨r,hr⟩:=hpre
  rw[← hr,List.getD_eq_getElem?_getD,List.getElem?_append_left (by simp;exact (List.getElem?_eq_some_iff.1 hi).1)]
  simp[hi]
 have order:∀ i j si sj,i<j→j<hN→ss[i]?=some si→ss[j]?=some sj→(∃ x,(x∈si.ids∧(x∈sj.ids∨x∈sj.rd))∨(x∈si.rd∧x∈sj.ids))→i∈(clos ops.toList []).getD j []:=fun i j si sj hij hj hsi hsj hx=>by
  have h1:=List.all_eq_true.1 hord j (List.mem_range.2 hj)
  have h2:=List.all_eq_true.1 h1 i (List.mem_range.2 hij)
  rw[hlg i si hsi,hlg j sj hsj] at h2
  simp only[Agz,Baz,Bool.or_eq_false_iff,j4K] at h2
  rcases h2 with h2|h2
  ·exfalso
   obtain⟨x,hx⟩:=hx
   rcases hx with ⟨hx,hy|hy⟩|⟨hx,hy⟩
   ·exact h2.1.1 x hx hy
   ·exact h2.1.2 x hx hy
   ·exact h2.2 x hx hy
  ·simpa using h2
 let pl:Array Bool→Nat→Bool:=fun listed j=>listed.getD j false
 let hl:=ops.toList.take hN
 have hlget:∀ {j:Nat} {o:Oper},j<hN→ops[j]?=some o→hl[j]?=some o:=fun {j o} hj ho=>by
  show (ops.toList.take hN)[j]?=some o
  rw[Anz,ifP hj];simpa using ho
 have hlget' : ∀ {j:Nat} {o:Oper},hl[j]?=some o→j<hN∧ops[j]?=some o:=fun {j o} ho=>by
  have ho:(ops.toList.take hN)[j]?=some o:=ho
  rw[Anz] at ho
  split at ho
  ·exact⟨‹_›,by simpa using ho⟩
  ·cases ho
 let Inv:Array Bool→Env→World→Prop:=fun listed ρc w=>HeadInv .any ops hN listed∧∃ F g,Sim S F g (q7j (pl listed) 0 ss (fnOf σ)) w∧∀ t,vr (SM F S.B) w g (q5t (pl listed) 0 hl ss ρ t) (ρc t)
 have done:∀ (listed:Array Bool) (ρc:Env) (a:Act) (w' : World),Inv listed ρc w'→Rel n ρc a→(∀ j,j<hN→listed.getD j false=true)→wpAny P .any ops (lift n Qp) (ops.size-hN) listed a w':=by
  intro listed ρc a w' ⟨hinv,F',g',k1,k2⟩ hr hall
  have hlisted:listed=Alz hN true++Alz (ops.size-hN) false:=by
   apply Array.ext
   ·simp[hinv.size];omega
   ·intro i h1 h2
    by_cases hi:i<hN
    ·have:=hall i hi
     simp[h1] at this
     rw[this,Array.getElem_append_left (by simpa using hi)]
     simp
    ·have:=hinv.tail i (by omega) (by rw[← hinv.size];exact h1)
     simp[h1] at this
     rw[this,Array.getElem_append_right (by simpa using Nat.le_of_not_lt hi)]
     simp
  have e1:q7j (pl listed) 0 ss (fnOf σ)=fnOf (endS ss σ):=j0w fun j hj=>by rw[Adz];exact hall j (by omega)
  have e2:q5t (pl listed) 0 hl ss ρ=endR hl ss ρ:=j0v fun j hj=>by
   rw[Adz]
   refine hall j ?_
   have:hl.length=hN:=by show (ops.toList.take hN).length=hN;simp;omega
   omega
  rw[e1] at k1
  simp only[e2] at k2
  subst hlisted
  have hw:=htail F' g' w' ρc k1 k2 (by
   refine List.all_eq_true.2 fun o ho=>List.all_eq_true.1 hok' o (List.mem_of_mem_drop ho)) a hr
  have hlen2:(ops.toList.drop hN).length=ops.size-hN:=by simp
  have:=wpAny_of_seq (P:=P) (md:=.any) (ops:=ops) (Q':=lift n Qp) (ops.toList.drop hN) hN (Alz hN true++Alz (ops.size-hN) false) a w'
   (fun j=>by simp[Azz]) (by rw[hlen2];exact hseq) hw
  rwa[hlen2] at this
 have main:∀ (c:Nat) (listed:Array Bool) (ρc:Env) (a:Act) (w' : World),((Amz hN).filter (fun j=>!listed.getD j false)).length=c→Inv listed ρc w'→Rel n ρc a →
   wpAny P .any ops (lift n Qp) (c+(ops.size-hN)) listed a w':=by
  intro c
  induction c with
  | zero=>
   intro listed ρc a w' hc inv hr
   rw[Adz]
   refine done listed ρc a w' inv hr fun j hj=>?_
   have h0:(Amz hN).filter (fun j=>!listed.getD j false)=[]:=List.eq_nil_of_length_eq_zero hc
   have:=List.filter_eq_nil_iff.1 h0 j (List.mem_range.2 hj)
   simpa using this
  | succ c ih=>
   intro listed ρc a w' hc inv hr
   obtain⟨hinv,F',g',k1,k2⟩:=inv
   have hex:∃ j,j<hN∧listed.getD j true=false:=by
    have:((Amz hN).filter (fun j=>!listed.getD j false))≠[]:=fun e=>by rw[e] at hc;simp at hc
    obtain⟨j,hj⟩:=List.exists_mem_of_ne_nil _ this
    rw[List.mem_filter,List.mem_range] at hj
    exact⟨j,hj.1,getD_in (by rw[hinv.size];omega) (by simpa using hj.2)⟩
   obtain⟨j0,hj0,hl0⟩:=hex
   obtain⟨i0,hi0,_⟩:=z0t hB hinv.size j0 j0 (Nat.le_refl _) (by omega) hl0
   rw[show c+1+(ops.size-hN)=(c+(ops.size-hN))+1 by omega]
   refine⟨fun h0=>(by rw[h0] at hi0;cases hi0),fun i hi=>?_⟩
   have hih:i<hN:=by
    rcases Nat.lt_or_ge i hN with hlt|hge
    ·exact hlt
    ·exfalso
     obtain⟨_,oi,hoi,_⟩:=mem_ready.1 hi
     have hlt:i<ops.size:=(Array.getElem?_eq_some_iff.1 hoi).1
     have hsc:Region.sinkB .any ops hN=true∧Region.chainB .any ops hN=true:=by
      have h3:=hB'.1.2
      simp only[Agz,Afz] at h3
      rcases h3 with h3|h3
      ·have:=Abz h3;omega
      ·exact h3
     exact tail_waits hsc.1 hsc.2 (by omega) hinv _ j0 rfl hj0 hl0 i hge hi
   obtain⟨hun,o,ho,hall⟩:=mem_ready.1 hi
   have hunf:listed.getD i false=false:=getD_both hun
   have hmem:o∈ops.toList:=by rw[Array.mem_toList_iff];exact Array.mem_of_getElem? ho
   have hoko:q8M n o=true:=List.all_eq_true.1 hok' o hmem
   obtain⟨s,hsi,σi,e1,e2,e3,e4⟩:=Chain.get (k:=0) hch (hlget hih ho)
   simp only[Adz] at e1 e2 e3
   have hdir:∀ d∈q5K o,listed.getD d false=true:=fun d hd=>by
    obtain⟨e,he,hb,rfl⟩:=q7p.1 hd
    exact hall e he hb
   have hclosed:∀ j oj,ops[j]?=some oj→listed.getD j false=true→∀ d∈q5K oj,listed.getD d false=true:=fun j oj hj hlj d hd=>by
    obtain⟨e,he,hb,rfl⟩:=q7p.1 hd
    exact hinv.closed j oj hj hlj e he hb
   have before:∀ x∈(clos ops.toList []).getD i [],listed.getD x false=true:=z4u hB hclosed i o ho hdir
   have behind:∀ j,j<hN→i∈(clos ops.toList []).getD j []→listed.getD j false=false:=fun j hj hij=>by
    cases hlj:listed.getD j false with
    | false=>rfl
    | true=>
     have hoj:ops[j]?=some (ops[j]'(by omega)):=Array.getElem?_eq_getElem (by omega)
     have:=z4u hB hclosed j _ hoj (hclosed j _ hoj hlj) i hij
     rw[hunf] at this;cases this
   -- what the operation looks at is as in the order of the text
   have hlooks:∀ t∈o.looksAt ops,q5t (pl listed) 0 hl ss ρ t=q5t (fun j=>Cwz j i) 0 hl ss ρ t:=fun t ht=>z7A (fun j o' ho' hd'=>by
    obtain⟨hjh,hoj⟩:=hlget' ho'
    have h1:=List.all_eq_true.1 hlook i (List.mem_range.2 hih)
    simp only[ho] at h1
    have h2:=List.all_eq_true.1 h1 t ht
    have h3:=List.all_eq_true.1 h2 j (List.mem_range.2 hjh)
    have hdj:q6Q ops j=some t:=by unfold q6Q;rw[hoj];exact hd'
    rw[hdj] at h3
    simp only[Agz,Baz,Afz] at h3
    rcases h3 with (h3|h3)|h3
    ·have:Aaz t t=true:=Nat.beq_refl t
     rw[this] at h3;cases h3
    ·have hjd:j∈q5K o:=by simpa using h3
     rw[Adz]
     have:Cwz j i=true:=by simp;exact q8e hB ho j hjd
     rw[this];exact hdir j hjd
    ·have hij:i≤j:=by simpa using h3.1
     rw[Adz]
     have:Cwz j i=false:=by cases hb:Cwz j i with|false=>rfl|true=>simp at hb;omega
     rw[this];exact behind j hjh (by simpa using h3.2)) rfl
   have hops:∀ x∈o.op.operands,vr (SM F' S.B) w' g' (evX (q5t (fun j=>Cwz j i) 0 hl ss ρ) x) (E.ev ρc x):=fun x hx=>by
    have hvr:VR S F' g' w' (q5t (pl listed) 0 hl ss ρ) ρc:=k2
    have:=hvr.ev x
    cases x with
    | tmp t=>
     simp only[evX] at this ⊢
     rw[← hlooks t (by simp only[Oper.looksAt,List.mem_append,List.mem_filterMap];exact .inl ⟨.tmp t,by simpa using hx,rfl⟩)]
     exact this
    | _=>exact this
   have hgate:gate ops ρc o=s.on:=by
    have hx:q3O ops (q5t (pl listed) 0 hl ss ρ) o=some s.on:=by
     rw[← e2]
     unfold q3O
     cases hgd:o.guard with
     | none=>rfl
     | some jw=>
      obtain⟨j,want⟩:=jw
      simp only
      cases hd:(ops[j]?).bind (·.dst) with
      | none=>rfl
      | some d=>
       simp only
       rw[hlooks d (by simp[Oper.looksAt,hgd,hd])]
    exact z3I hx k2
   have hroot:∀ id,(id∈s.rd∨id∈s.ids)→q7j (pl listed) 0 ss (fnOf σ) id=fnOf σi id:=fun id hid=>by
    rw[e1]
    refine z6c (fun j sj hsj hidj=>?_) rfl
    rw[Adz]
    have hjh:j<hN:=by have:=(List.getElem?_eq_some_iff.1 hsj).1;omega
    rcases Nat.lt_trichotomy j i with hlt|heq|hgt
    ·have:Cwz j i=true:=by simpa using hlt
     rw[this]
     exact before j (order j i sj s hlt hih hsj hsi ⟨id,.inl ⟨hidj,hid.symm⟩⟩)
    ·subst heq
     have:Cwz j j=false:=by cases hb:Cwz j j with|false=>rfl|true=>simp at hb
     rw[this];exact hunf
    ·have:Cwz j i=false:=by cases hb:Cwz j i with|false=>rfl|true=>simp at hb;omega
     rw[this]
     refine behind j hjh (order i j s sj hgt hjh hsi hsj ⟨id,?_⟩)
     rcases hid with hid|hid
     ·exact .inr ⟨hid,hidj⟩
     ·exact .inl ⟨hid,.inl hidj⟩
   have hisz:i<listed.size:=by rw[hinv.size];omega
   have hnewS:owr (q7j (pl listed) 0 ss (fnOf σ)) s.wr=q7j (pl (listed.setIfInBounds i true)) 0 ss (fnOf σ):=by
    have hpl:∀ j,j≠i→pl (listed.setIfInBounds i true) j=pl listed j:=fun j hj=>getD_set_ne false (Ne.symm hj)
    have hpi:pl (listed.setIfInBounds i true) i=true:=by simp[pl,hisz]
    funext id
    by_cases hid:id∈s.ids
    ·refine (z8x (τ:=q7j (pl listed) 0 ss (fnOf σ)) hsi hid (by rw[Adz];exact hpi) fun j sj hij hsj hidj=>?_).symm
     rw[Adz,hpl j (by omega)]
     have hjh:j<hN:=by have:=(List.getElem?_eq_some_iff.1 hsj).1;omega
     exact behind j hjh (order i j s sj hij hjh hsi hsj ⟨id,.inl ⟨hid,.inl hidj⟩⟩)
    ·rw[z7s _ _ _ fun x hx e=>hid (List.mem_map.2 ⟨x,hx,e⟩)]
     refine z6c (fun j sj hsj hidj=>?_) rfl
     rw[Adz]
     refine (hpl j fun e=>?_).symm
     subst e
     rw[hsi] at hsj
     cases hsj
     exact hid hidj
   have hnewR:q5t (pl (listed.setIfInBounds i true)) 0 hl ss ρ=putX (q5t (pl listed) 0 hl ss ρ) o.dst s.v:=by
    refine j0u (hlget hih ho) hsi (fun j=>?_) (by rw[Adz];exact hunf) fun j o' ho' hj t ht hd'=>?_
    ·rw[Adz]
     by_cases hj:j=i
     ·subst hj;rw[ifP rfl];simp[pl,hisz]
     ·rw[ifN hj];exact getD_set_ne false (Ne.symm hj)
    ·obtain⟨hjh,hoj⟩:=hlget' ho'
     have hdi:q6Q ops i=some t:=by unfold q6Q;rw[ho];exact ht
     exact (z2R hB hoj hdi (Ne.symm hj)).2 hd'
   have next:∀ v w'',(∃ F2 g2,Sim S F2 g2 (owr (q7j (pl listed) 0 ss (fnOf σ)) s.wr) w''∧Pres S.B F' g' w' F2 g2 w''∧vr (SM F2 S.B) w'' g2 s.v v)→wpAny P .any ops (lift n Qp) (c+(ops.size-hN)) (listed.setIfInBounds i true) (a.put o.dst v) w'':=by
    intro v w'' ⟨F2,g2,m1,m2,m3⟩
    refine ih _ (E.put ρc o.dst v) _ _ ?_ ⟨hinv.set hi hih,F2,g2,by rw[← hnewS];exact m1,?_⟩ (hr.put _ _)
    ·have hcount:∀ (l:List Nat),l.Nodup→i∈l→(l.filter (fun j=>!listed.getD j false)).length=(l.filter (fun j=>!(listed.setIfInBounds i true).getD j false)).length+1:=by
      intro l
      induction l with
      | nil=>intro _ h;cases h
      | cons x l ihl=>
       intro hnd hmem
       rw[List.nodup_cons] at hnd
       by_cases hx:x=i
       ·subst hx
        have hsame:l.filter (fun j=>!listed.getD j false)=l.filter (fun j=>!(listed.setIfInBounds x true).getD j false):=
         List.filter_congr fun y hy=>by
          have hne:x≠y:=fun e=>hnd.1 (by rw[e];exact hy)
          rw[getD_set_ne false hne]
        have hset:(listed.setIfInBounds x true).getD x false=true:=by simp[hisz]
        rw[Aoz,Aoz,ifP (by rw[hunf];rfl),ifN (by rw[hset];decide),hsame,lnC]
       ·have hmem' : i∈l:=by rcases List.mem_cons.1 hmem with h|h;exact absurd h.symm hx;exact h
        have:=ihl hnd.2 hmem'
        rw[Aoz,Aoz,getD_set_ne false (Ne.symm hx)]
        split
        ·rw[lnC,lnC,this]
        ·exact this
     have:=hcount (Amz hN) List.nodup_range (List.mem_range.2 hih)
     omega
    ·rw[hnewR]
     have hvr:VR S F' g' w' (q5t (pl listed) 0 hl ss ρ) ρc:=k2
     exact (hvr.pres m2).put o.dst m3
   unfold wpOp
   simp only[ho]
   rw[z2b hguards hr,hgate]
   cases hon:s.on with
   | true=>
    rw[ifP rfl]
    have hlt:=e3 hon _ F' g' w' ρc k1 (fun id hid=>hroot id (.inl hid)) (fun p hp=>hroot p.1 (.inr (List.mem_map.2 ⟨p,hp,rfl⟩))) hops
    have hopx:OpX P ops o ρc w' (fun vc w''=>∃ F2 g2,Sim S F2 g2 (owr (q7j (pl listed) 0 ss (fnOf σ)) s.wr) w''∧Pres S.B F' g' w' F2 g2 w''∧vr (SM F2 S.B) w'' g2 s.v vc):=.inl ⟨by rw[hgate,hon],hlt⟩
    rcases (hopx.opW (n:=n)) with ⟨_,hop⟩|⟨hgf,_⟩
    ·exact .inl (hop a _ _ hr hoko next)
    ·rw[hgate,hon] at hgf;cases hgf
   | false=>
    rw[ifN (by decide)]
    obtain⟨h5,h6⟩:=e4 hon
    refine next undef w' ⟨F',g',by rw[h6];exact k1,Pres.refl,?_⟩
    rw[h5,vr];exact⟨[],rfl,by rw[vrs]⟩
 have hc0:((Amz hN).filter (fun j=>!(Alz ops.size false).getD j false)).length=hN:=by
  rw[List.filter_eq_self.2 (fun j _=>by rw[getD_replicate_false];rfl)]
  simp
 have h0S:q7j (pl (Alz ops.size false)) 0 ss (fnOf σ)=fnOf σ:=by
  have key:∀ (ss:List Stp) (k:Nat) (σ:Nat→Root),q7j (pl (Alz ops.size false)) k ss σ=σ:=by
   intro ss
   induction ss with
   | nil=>exact fun _ _=>rfl
   | cons s ss ih=>intro k σ;rw[q7j,show pl (Alz ops.size false) k=false from getD_replicate_false _ _];exact ih _ _
  exact key _ _ _
 have h0R:q5t (pl (Alz ops.size false)) 0 hl ss ρ=ρ:=by
  have key:∀ (l:List Oper) (ss:List Stp) (k:Nat) (ρ:AE),q5t (pl (Alz ops.size false)) k l ss ρ=ρ:=by
   intro l
   induction l with
   | nil=>intro ss k ρ;simp[q5t]
   | cons o l ih=>
    intro ss k ρ
    cases ss with
    | nil=>simp[q5t]
    | cons s ss=>rw[q5t,show pl (Alz ops.size false) k=false from getD_replicate_false _ _];exact ih _ _ _
  exact key _ _ _ _
 have hdrew:Ext w { w with drawn:=w.drawn+1 }:=Ext.drawn w _
 obtain⟨q1,q2⟩:=hs.ext (F':=F) hdrew (fun _ h=>h) (fun b hb=>⟨hs.flt b hb,.inl hb⟩)
 have:=main hN _ ρc a { w with drawn:=w.drawn+1 } hc0 ⟨⟨by simp,fun j oj _ hl=>(by rw[getD_replicate_false] at hl;cases hl),fun t _ ht=>by simp[ht]⟩,F,g,by rw[h0S];exact q1,fun t=>by rw[h0R];exact q2 _ _ (hv t)⟩ ha
 rwa[show hN+(ops.size-hN)=ops.size by omega] at this
def j1S (S:Start)(F:Nat→Prop)(g:Nat→G)(w:World):Start:=⟨w,fun _=>False,F,fun b=>S.B b∨∃ i,b∈bl (g i),fun _=>.none,0⟩
section
variable {F F' : Nat→Prop}{g g' : Nat→G}{w w' : World}{ρc:Env}
theorem k2B (hs:Sim S F g (fnOf σ) w):Sim (j1S S F g w) F (fun _=>.none) (fnOf []) w:=by
 refine⟨Chg.refl w,fun b hb=>⟨?_,id⟩,fun b hb=>hb,fun b hb=>.inl hb,hs.flt,fun i=>by rw[z0N];trivial,fun i _=>rfl,fun i=>trivial,fun i=>List.nodup_nil,fun i j _ b hb=>(by cases hb),fun i b hb=>(by cases hb)⟩
 rcases hb with hb|⟨i,hb⟩
 ·exact Bcz (hs.bB b hb).1 hs.chg.size
 ·exact (hs.own i b hb).1
theorem k0h (hs:Sim S F g (fnOf σ) w){vw:List Nat}{x y:X}(h:Pass (fnOf σ) [] vw x y){v:Value}(hv:vr (SM F S.B) w g x v):vr (SM F (j1S S F g w).B) w (fun _=>.none) y v:=
 j9Q hs (fun i j h=>by simp[renI] at h) (fun b hb=>.inl hb) (fun r b _ hb=>.inr ⟨r,hb⟩) h hv
theorem k4n {S1:Md→Nat→Prop}{m:Md}:∀ {ds:List D} {vs:List Value},vrs S1 w g (ds.map (X.d m)) vs→rdCs (S1 m) w ds vs
 | [],vs,h=>by rw[List.map_nil,vrs] at h;rw[rdCs];exact h
 | d::ds,vs,h=>by
  rw[List.map_cons,vrs] at h
  obtain⟨v,r,h1,h2,h3⟩:=h
  rw[vr] at h2
  rw[rdCs]
  exact⟨v,r,h1,h2,k4n h3⟩
theorem j3l (hs:Sim S F g (fnOf σ) w){vw:List Nat}{r:Nat}{cs:List X}(ds:List D)(hb:fnOf σ r=.box cs)(hp:PassL (fnOf σ) [] vw cs (ds.map (X.d .bo))){v:Value}(hv:vr (SM F S.B) w g (.pb r 0) v):vr (SM F (j1S S F g w).B) w (fun _=>.none) (.pf .bo ds) v:=by
 obtain⟨b,T,vs,hg,hB,hvs⟩:=z6u hs hb
 rw[vr,hg] at hv
 have h2:=z7w (Bc:=(j1S S F g w).B) (g1:=fun _=>.none) hs (fun i j h=>by simp[renI] at h) (fun b hb=>.inl hb) (fun r b _ hb=>.inr ⟨r,hb⟩) hp hvs
 rw[vr]
 exact⟨b,0,vs,hv,.inr (.inr ⟨r,by rw[hg];simp[bl]⟩),hB.lt,At.blk hB,k4n h2⟩
theorem k4P (hs:Sim S F g (fnOf σ) w){r:Nat}{x:X}(hb:fnOf σ r=.box [x]){v:Value}(hv:vr (SM F S.B) w g (.pb r 0) v):∃ u,vr (SM F S.B) w g x u∧vr (SM F (j1S S F g w).B) w (fun _=>.none) (.pv .bo u) v:=by
 obtain⟨b,T,vs,hg,hB,hvs⟩:=z6u hs hb
 rw[vr,hg] at hv
 rw[vrs] at hvs
 obtain⟨u,r1,rfl,h1,h2⟩:=hvs
 rw[vrs] at h2
 subst h2
 refine⟨u,h1,?_⟩
 rw[vr]
 exact⟨b,0,hv,.inr (.inr ⟨r,by rw[hg];simp[bl]⟩),hB.lt,At.blk hB⟩
theorem k6z {S1:Md→Nat→Prop}(v:Value):vr S1 w g (.kv v) v:=by rw[vr]
theorem VR.nil:VR S F g w (Go.A.ofX []) ρc:=fun t=>by rw[Go.A.ofX,Go.A.vr];trivial
theorem VR.cons {t:Nat}{x:X}{L:List (Nat×X)}(h:vr (SM F S.B) w g x (ρc t))(h2:VR S F g w (Go.A.ofX L) ρc):VR S F g w (Go.A.ofX ((t,x)::L)) ρc:=fun u=>by
 rw[Go.A.ofX,updX]
 cases hb:Aaz u t with
 | true=>rw[Abz hb];exact h
 | false=>exact h2 u
theorem q3b {t:Nat}{x:X}{v0:Value}(h0:vr (SM S.F0 S.B) S.w0 (fun _=>.none) x v0)(hw:∀ b,¬ S.own b)(ht:ρ t=.kv v0):GH S ρ σ (updX ρ t x) σ:=fun F g w ρc hs hv=>by
 refine⟨F,g,hs,fun u=>?_⟩
 simp only[updX]
 cases hb:Aaz u t with
 | false=>exact hv u
 | true=>
  have hu:=Abz hb
  subst hu
  have h1:=hv u
  rw[ht,vr] at h1
  rw[h1]
  refine vr.adv (g:=fun _=>.none) (fun m b o cs hm hl ha=>⟨?_,Bcz hl hs.chg.size,ha.frame' fun _=>hs.chg.block b hl (hw b)⟩) (fun r=>trivial) h0
  cases m with
  | fz=>exact hs.fmono b hm
  | bo=>exact hm.imp (hs.fmono b) id
theorem q3F {T:TypeId}{x:Operand}{o:Oper}{m:Md}{v:Value}(ho:o.op=.load T x)(hT:aggT P T=some false)(hx:evX ρ x=.pv m v):LT P S o ρ σ [] (.kv v) []:=
 LT.val fun σ1 F g w ρc hs hr hv=>by
  have h1:=hv x (by simp[ho,Op.operands])
  rw[hx,vr] at h1
  obtain⟨b,off,h1,h2,h3,h4⟩:=h1
  exact⟨v,q0B ho hT h1 (h4.cell0 rfl),k6z v⟩
theorem Sim.unlend (hs:Sim S F g (fnOf σ) w){σ' : St}(h:Sim (j1S S F g w) F' g' (fnOf σ') w'){r0 k:Nat}{xs:List D}(hr:fnOf σ r0=.none)(hx:fnOf σ' r0=.row .fz k xs) :
  ∃ g2,Sim S F' g2 (fnOf (setL σ r0 (.row .fz k xs))) w'∧Pres S.B F g w F' g2 w'∧∀ x v,okX (idl [r0]) true x=true→vr (SM F' (j1S S F g w).B) w' g' x v→vr (SM F' S.B) w' g2 x v:=by
 have hg0:g r0=.none:=j3b hs hr
 have hroot:=h.roots r0
 rw[hx] at hroot
 have hc:Ext w w':=h.chg
 have hF:∀ b,F b→F' b:=h.fmono
 have hF' : ∀ b,F' b→b<w'.heap.size∧(F b∨w.heap.size≤b):=fun b hb=>⟨h.flt b hb,(h.fnew b hb).imp id fun h=>h.resolve_left id⟩
 obtain⟨h1,h2⟩:=hs.step (g':=fun i=>if i=r0 then g' r0 else g i) (σ':=fun i=>if i=r0 then .row .fz k xs else fnOf σ i) (F':=F') (fun i=>i=r0) hc (fun _ h _=>h.elim) (fun i hi=>⟨ifN hi,ifN hi⟩) (fun i hi=>by subst hi;rw[hg0];trivial) hF (fun b hb=>⟨(hF' b hb).1,(hF' b hb).2.imp id .inl⟩)
  (fun _ _ i hi=>by
   subst hi
   simp only[if_true]
   revert hroot
   cases g' i<;>intro hroot<;>try exact hroot.elim
   exact⟨hroot.1,z8w (m:=.fz) hroot.2 fun b hb=>hb⟩)
  (fun i hi=>by subst hi;simp only[if_true];exact h.nodup i) (fun i j hi hj hij=>absurd (hi.trans hj.symm) hij)
  (fun i b hi hb=>by
   subst hi
   simp only[if_true] at hb
   obtain⟨k1,k2,_,k4⟩:=h.own i b hb
   exact⟨k1,k2,.inl (k4.resolve_left id)⟩)
 refine⟨_,?_,h2,fun x v ho hv=>?_⟩
 ·have:fnOf (setL σ r0 (.row .fz k xs))=fun i=>if i=r0 then .row .fz k xs else fnOf σ i:=funext fun i=>q6X σ r0 _ i
  rw[this];exact h1
 ·have:=k4E (S1:=SM F' (j1S S F g w).B) (g1:=g') (l:=idl [r0]) (z:=true) (S2:=SM F' S.B) (g2:=fun i=>if i=r0 then g' r0 else g i) (fun i j hij=>by
   rw[z0O] at hij
   by_cases hi:i∈[r0]
   ·rw[ifP hi] at hij
    cases hij
    rw[List.mem_singleton] at hi
    subst hi
    simp only[if_true]
    exact Adv.refl _
   ·rw[ifN hi] at hij;cases hij) (fun b hb=>hb) (fun h=>nomatch h) ho hv
  rwa[j7E ho] at this
end
def CWs (P:Program)(S:Start)(n:Nat)(c:Code)(Qf:Post)(ρ:AE)(σ:St):Prop:=∀ F g w ρc,Sim S F g (fnOf σ) w→VR S F g w ρ ρc→CW P n c Qf ρc w
theorem CWs.seq {c1 c2:Code}{Qf:Post}(h:AW P S n c1 (fun e ρ1 σ1=>e=.normal∧CWs P S n c2 Qf ρ1 σ1) ρ σ):CWs P S n (.seq c1 c2) Qf ρ σ:=fun F g w ρc hs hv=>
 CW.seq ((h F g w ρc hs hv).mono fun e ρc' w' ⟨ρ',σ',F',g',h1,h2,h3,h4⟩=>by subst h3;exact h4 F' g' w' ρc' h1 h2)
end
end Go.A
