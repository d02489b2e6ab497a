/- Abstract states of a walk: plain lemmas on the model, without conditions of their own. -/
import Derived.Test.YtodhafdaelcnlaaGreatAb11
set_option linter.unusedVariables false
set_option linter.unusedSimpArgs false
set_option linter.ambiguousOpen false
set_option linter.unusedSectionVars false
set_option linter.unnecessarySimpa false
open List renaming not_mem_nil->Daz
namespace Go.A
open Go Go.E
theorem aK {α β γ:Type}{o:Option (α×γ)}{f:α×γ->Option β}{r:β}{G:Prop}(Z:o.bind f=some r)(h:∀ y z,o=some (y,z)->f (y,z)=some r->G):G:=ai Z λq=>h q.1 q.2
theorem eJ {α β γ δ:Type}{o:Option (α×γ×δ)}{f:α×γ×δ->Option β}{r:β}{G:Prop}(Z:o.bind f=some r)(h:∀ x y z,o=some (x,y,z)->f (x,y,z)=some r->G):G:=ai Z λq=>h q.1 q.2.1 q.2.2
abbrev dI (n:Int):X:=.d .fz (.i .i64 n)
abbrev dB (b:Bool):X:=.d .fz (.b b)
abbrev dS (s:ar):X:=.d .fz (.s s)
end Go.A
set_option maxRecDepth 100000
namespace Go.A
open Go Go.E
structure Steps (n:Nat) (b:Prop):Prop where
 h:b
theorem Steps.z {a:Prop}(h:a):Steps 0 a:=⟨h⟩
theorem Steps.s {a b:Prop}{n:Nat}(s:bC a b)(h:Steps n a):Steps (n+1) b:=⟨s.h h.h⟩
theorem lT:true=true:=rfl
theorem lF:false=false:=rfl
class nX (p:Prop) (b:Bool) (c:outParam Bool):Prop where
 h:p->b=c
instance {b:Bool}:nX (b=true) b true:=⟨id⟩
instance {b:Bool}:nX (¬ b=true) b false:=⟨bF⟩
instance {b:Bool}:nX (¬ b=true) (!b) true:=⟨Bt⟩
instance {b:Bool}:nX (b=true) (!b) false:=⟨Bu⟩
instance {p:Prop} [Decidable p]:nX p (decide p) true:=⟨dT⟩
instance {p:Prop} [Decidable p]:nX (¬ p) (decide p) false:=⟨dF⟩
instance {p:Prop} [Decidable p]:nX (¬ p) (!decide p) true:=⟨nT⟩
instance {p:Prop} [Decidable p]:nX p (!decide p) false:=⟨nF⟩
theorem uH {p:Prop}{b c:Bool}(h:p)[d:nX p b c]:b=c:=d.h h
theorem hB {b c:Bool}(h:b=c:=by first|with_reducible exact Go.A.lT|with_reducible exact Go.A.lF|exact uH h40|exact uH h39|exact uH h38|exact uH h37|exact uH h36|exact uH h35|exact uH h34|exact uH h33|exact uH h32|exact uH h31|exact uH h30|exact uH h29|exact uH h28|exact uH h27|exact uH h26|exact uH h25|exact uH h24|exact uH h23|exact uH h22|exact uH h21|exact uH h20|exact uH h19|exact uH h18|exact uH h17|exact uH h16|exact uH h15|exact uH h14|exact uH h13|exact uH h12|exact uH h11|exact uH h10|exact uH h9|exact uH h8|exact uH h7|exact uH h6|exact uH h5|exact uH h4|exact uH h3|exact uH K|exact uH U|exact uH hltk4|exact uH hltk3|exact uH hltk2|exact uH hltk1|exact uH (Go.A.ltN hltk4)|exact uH (Go.A.ltI hltk4)|exact uH (Go.A.ltN hltk3)|exact uH (Go.A.ltI hltk3)|exact uH (Go.A.ltN hltk2)|exact uH (Go.A.ltI hltk2)|exact uH (Go.A.ltN hltk1)|exact uH (Go.A.ltI hltk1)|exact Go.A.dF Go.A.geN|exact Go.A.dF Go.A.geI):b=c:=h
inductive Pk (x y:Code):Bool->Code->Prop
 | t:Pk x y true x
 | f:Pk x y false y
inductive Nb:X->X->Prop
 | b {m:Md} {b c:Bool} (h:b=c):Nb (.d m (.b b)) (.d .fz (.b c))
 | r {v:X}:Nb v v
section
variable {P:Program}{S:Start}{n:Nat}{QP:cW}{ρ:AE}{σ:St}{c:Operand}{x y z:Code}{m:Md}{b b' : Bool}
theorem cA (hc:aH ρ c=.d m (.b b):=by rfl)(Y:b=b':=by exact hB)(hp:Pk x y b' z:=by first|exact .t|exact .f):bC (AW P S n z QP ρ σ) (AW P S n (.cond c x y) QP ρ σ):=by
 cases hp;exact⟨jl hc Y⟩;exact⟨iO hc Y⟩
theorem Di : bC (AW P S n x (iW (λρ σ=>AW P S n y QP ρ σ) QP) ρ σ) (AW P S n (.seq x y) QP ρ σ):=⟨gS⟩
end
section
variable {P:Program}[af P]{S:Start}{n:Nat}{ops:Array Oper}{Q:AE->St->Prop}{QP:cW}{o:Oper}{rest:List Oper}{ρ:AE}{σ:St}{d:Nat}{v v' : X}{rd:List Nat}{md:da}{m m' : Md}{b:Bool}{y:Code}{id:Nat}{T e:Nat}{t te:TI}
theorem C2 (hm:P.follows .mixedOrders=true:=by kernel_rfl):bC (AL P S ops (λρ σ=>QP .normal ρ σ) (some (0,[],none)) ops.toList ρ σ) (AW P S n (.region id ops true) QP ρ σ):=⟨λh=>mo hm h⟩
theorem Va (hv:opV (af.tab P) ρ σ o.op=some (v,rd):=by exact rfl)(hk:Nb v v':=by first|exact .b hB|exact .r)(hd:o.dst=some d:=by rfl)(hg:a7 ops ρ o=some true:=by rfl):bC (AL P S ops Q (bb md rd []) rest (aw ρ d v') σ) (AL P S ops Q md (o::rest) ρ σ):=by
 cases hk with
 | r=>exact⟨λh=>V hv h hd hg⟩
 | @b _ _ c Y=>cases c with
  | true=>exact⟨λh=>VT hv Y h hd hg⟩
  | false=>exact⟨λh=>VF hv Y h hd hg⟩
end
mutual
def DY:X->X->List (Nat×Nat)
 | .ref r _,.ref i _=>[(r,i)]
 | .vs r _ _ _,.vs i _ _ _=>[(r,i)]
 | .pb r _,.pb i _=>[(r,i)]
 | .pe r _ _ _,.pe i _ _ _=>[(r,i)]
 | .ag a,.ag b=>lD a b
 | .tu a,.tu b=>lD a b
 | .fn _ a,.fn _ b=>lD a b
 | _,_=>[]
def lD:List X->List X->List (Nat×Nat)
 | x::a,y::b=>DY x y++lD a b
 | _,_=>[]
end
def Te:aA->aA->List (Nat×Nat)
 | .box a,.box b=>lD a b
 | .deep _ _ _ h,.deep _ _ _ k=>(h.zip k).map λp=>(p.1.2.2,p.2.2.2)
 | _,_=>[]
def nV (l:List (Nat×Nat)):List (Nat×Nat)->List (Nat×Nat)
 | []=>l
 | p::q=>nV (bif l.any λx=>Nat.beq x.1 p.1||Nat.beq x.2 p.2 then l else l++[p]) q
def IB (l:List (Nat×Nat))(σ τ:St):List (Nat×Nat):=nV l (l.flatMap λp=>Te (ak σ p.1) (ak τ p.2))
def Gj:aA->Bool
 | .none=>false
 | _=>true
def Aq (n0:Nat)(l:List (Nat×Nat))(σ τ:St):List (Nat×Nat):=nV (IB (IB (nV ((List.range n0).map λi=>(i,i)) l) σ τ) σ τ) (((List.range τ.length).filter λi=>Gj (ak τ i)).map λi=>(i,i))
def DZ (P:Program)(ρ:AE)(σ:St)(lr:List ResultVar)(n0:Nat)(res:X)(post:St):List (Nat×Nat):=Aq n0 (match nP P ρ σ lr with|some xs=>DY (jM xs) res|none=>[]) σ post
def Ap (ρ:AE):List (Nat×X)->List (Nat×Nat)
 | []=>[]
 | p::L=>DY (ρ p.1) p.2++Ap ρ L
def vi:X->X->X
 | _,.u=>.u
 | x,_=>x
theorem UF {x y:X}:Wk (vi x y) x:=by cases y<;>first|exact .rfl|exact .u
def D5:List X->List X->List X
 | x::a,y::b=>vi x y::D5 a b
 | a,_=>a
theorem im:∀ {a b:List X},kg (D5 a b) a
 | [],[]=>.nil
 | [],_::_=>.nil
 | x::a,[]=>.cons .rfl (Wks_rfl a)
 | x::a,y::b=>.cons UF im
where Wks_rfl:∀ a:List X,kg a a
 | []=>.nil
 | _::a=>.cons .rfl (Wks_rfl a)
def nc:aA->aA->aA
 | .box a,.box b=>.box (D5 a b)
 | x,_=>x
def ja:St->St->St
 | x::s,y::t=>nc x y::ja s t
 | s,_=>s
theorem Mi:∀ {s t:St} {i:Nat},ak (ja s t) i=nc (ak s i) (ak t i)
 | [],t,i=>by cases t<;>simp[ja,mU,nc]
 | x::s,[],i=>by rw[mU];simp only[ja];cases ak (x::s) i<;>rfl
 | x::s,y::t,0=>rfl
 | x::s,y::t,i+1=>by simp only[ja,ak];exact Mi
theorem Rs {S:Start}{ρ:AE}{σ:St}(τ:St):GH S ρ σ ρ (ja σ τ):=by
 intro F g w ρc hs hv;refine⟨F,g,⟨hs.chg,hs.bB,hs.fmono,hs.fnew,hs.flt,λi=>?_,hs.low,hs.hdr,hs.nodup,hs.disj,hs.own⟩,hv⟩;rw[Mi];have:=hs.roots i;revert this;cases ak σ i<;>cases ak τ i<;>simp only[nc]<;>intro h<;>try exact h
 revert h;cases g i<;>intro h<;>try exact h.elim
 obtain⟨vs,k1,k2⟩:=h;exact⟨vs,k1,im.vr k2⟩
theorem Tb {P:Program}{S:Start}{fn:Func}{ρ:AE}{σ:St}{e:Exit}{lr:List ResultVar}{res:X}{post:St}{n0:Nat}(hS:S.n0=n0)(he:e=.normal∨e=.ret:=by first|exact .inr rfl|exact .inl rfl)(hl:fn.results=lr.toArray:=by rfl)(ht:lr.all (qW fn.ntmps)=true:=by rfl)
  (hx:(nP P ρ σ lr).map (λxs=>bf (DZ P ρ σ lr n0 res post) (jM xs))=some res:=by kernel_rfl) (hc:nO (DZ P ρ σ lr n0 res post) n0 post.length σ=true:=by kernel_rfl) (hp:fH (DZ P ρ σ lr n0 res post) post.length σ=post:=by kernel_rfl):dA P S fn res post e ρ σ:=qE _ _ hS he hl ht hx hc hp
theorem Dh {S:Start}{ρ:AE}{σ:St}{n0:Nat}(hS:S.n0=n0){L:List (Nat×X)}{σt:St}(hL:sY (Aq n0 (Ap ρ L) σ σt) ρ L:=by repeat (first|exact trivial|refine And.intro (.of (by kernel_rfl)) ?_))(hσ:ja (fH (Aq n0 (Ap ρ L) σ σt) σt.length σ) σt=σt:=by kernel_rfl)(hc:nO (Aq n0 (Ap ρ L) σ σt) n0 σt.length σ=true:=by kernel_rfl):GH S ρ σ (ofX L) σt:=by
 have:=(fh (S:=S) hS _ _ hL rfl hc).trans (Rs σt);rwa[hσ] at this
theorem E {G:Prop}(h:G:=by (cases Z;try (cases hik4 _ rfl;rename_i Z;cases Z));(try (cases hik3 _ rfl;rename_i Z;cases Z));(try (cases hik2 _ rfl;rename_i Z;cases Z));(try (cases hik1 _ rfl;rename_i Z;cases Z));first|exact Tb hS|exact jG|exact Dh hS|exact⟨_,rfl,Dh hS⟩):G:=h
theorem I {G:Prop}(h:G:=by exact Dh hS):G:=h
section
variable {P:Program}{S:Start}{n:Nat}{c:Code}{QP:cW}{ρ:AE}{σ:St}
theorem bn {α:Type}{xs:List α}{f:α->D}{m:Md}{k:Nat}(t:Nat)(hx:ρ t=.d m (.sl k (xs.map f)):=by rfl):bC ((xs.length:Int)<=9223372036854775807->AW P S n c QP ρ σ) (AW P S n c QP ρ σ):=⟨AW.len (.tmp t hx)⟩
theorem bz {α:Type}{xs:List α}{f:α->D}{m:Md}{k:Nat}{cs:List X}(i t:Nat)(hx:ρ t=.ag cs:=by rfl)(hc:cs[i]?=some (.d m (.sl k (xs.map f))):=by rfl):bC ((xs.length:Int)<=9223372036854775807->AW P S n c QP ρ σ) (AW P S n c QP ρ σ):=⟨AW.len (.ag i (.tmp t hx) hc)⟩
theorem bX {α:Type}{xs:List α}{f:α->D}{m:Md}{k:Nat}(r:Nat)(Z:ak σ r=.row m k (xs.map f):=by rfl):bC ((xs.length:Int)<=9223372036854775807->AW P S n c QP ρ σ) (AW P S n c QP ρ σ):=⟨Ix r Z⟩
theorem eD {m:Md}{k:IntKind}{b:Int}(t:Nat)(hx:ρ t=.d m (.i k b):=by rfl):bC (fj k b->AW P S n c QP ρ σ) (AW P S n c QP ρ σ):=⟨AW.rng (.tmp t hx)⟩
end
theorem hX {p:Prop}(h:p:=by first|exact hxk5|exact hxk4|exact hxk3|exact hxk2|exact hxk1|exact hx30|exact hx29|exact hx28|exact hx27|exact hx26|exact hx25|exact hx24|exact hx23|exact hx22|exact hx21|exact hx20|exact hx19|exact hx18|exact hx17|exact hx16|exact hx15|exact hx14|exact hx13|exact hx12|exact hx11|exact hx10|exact hx9|exact hx8|exact hx7|exact hx6|exact hx5|exact hx4|exact hx3|exact hx2|exact hx1):p:=h
theorem h0 {j:Int}(h:0<=j:=by first|exact Int.natCast_nonneg _|with_reducible assumption):0<=j:=h
theorem hL {p:Prop}(h:p:=by first|exact hl6.2|exact hl6.1|exact hl5.2|exact hl5.1|exact hl4.2|exact hl4.1|exact hl3.2|exact hl3.1|exact hl2.2|exact hl2.1|exact hl1.2|exact hl1.1|with_reducible assumption):p:=h
section
variable {P:Program}[af P]{S:Start}{ops:Array Oper}{Q:AE->St->Prop}{o:Oper}{rest:List Oper}{ρ:AE}{σ:St}{d:Nat}{md:da}{m m' : Md}{T e k:Nat}{t te:TI}{α:Type}{f:α->D}{xs:List α}
theorem GK {x i:Operand}{q:IntKind}{j:Int}{y:α}{cs:List D}(ho:o.op=.indexAddr T x i:=by rfl)(hT:(af.tab P).get T=some t:=by rfl)(he:t.el=some e:=by rfl)(hE:(af.tab P).get e=some te:=by rfl)(hx:aH ρ x=.d m (.sl te.sz (xs.map f)):=by rfl)(hi:aH ρ i=.d m' (.i q j):=by rfl)(hd:o.dst=some d:=by rfl)(hg:a7 ops ρ o=some true:=by rfl)(hj:xs[j.toNat]?=some y:=by exact hX)(h0:0<=j:=by exact h0)(hc:(f y).cells=cs:=by first|with_reducible exact Expr.D_cells _|rfl):bC (AL P S ops Q (bb md [] []) rest (aw ρ d (.pf m cs)) σ) (AL P S ops Q md (o::rest) ρ σ):=GJ h0 hj hc ho hT he hE hx hi hd hg
theorem GM {x i:Operand}{r:Nat}{q:IntKind}{j:Int}{y:α}(ho:o.op=.indexAddr T x i:=by rfl)(hT:(af.tab P).get T=some t:=by rfl)(he:t.el=some e:=by rfl)(hE:(af.tab P).get e=some te:=by rfl)(hx:aH ρ x=.ref r none:=by rfl)(hσ:ak σ r=.row m te.sz (xs.map f):=by rfl)(hi:aH ρ i=.d m' (.i q j):=by rfl)(hd:o.dst=some d:=by rfl)(hg:a7 ops ρ o=some true:=by rfl)(hj:xs[j.toNat]?=some y:=by exact hX)(h0:0<=j:=by exact h0):bC (AL P S ops Q (bb md [r] []) rest (aw ρ d (.pe r none j.toNat 0)) σ) (AL P S ops Q md (o::rest) ρ σ):=IE' hj h0 ho hT he hE hx hσ hi hd hg
theorem Gy {x:Operand}{r j c:Nat}{y:α}{z:D}(ho:o.op=.load T x:=by rfl)(hT:(af.tab P).get T=some t:=by rfl)(ha:t.agg=false:=by rfl)(hx:aH ρ x=.pe r none j c:=by rfl)(hσ:ak σ r=.row m k (xs.map f):=by rfl)(hj:xs[j]?=some y:=by exact hX)(hz:(f y).cells[c]?=some z:=by rfl)(hd:o.dst=some d:=by rfl)(hg:a7 ops ρ o=some true:=by rfl):bC (AL P S ops Q (bb md [r] []) rest (aw ρ d (dX m z)) σ) (AL P S ops Q md (o::rest) ρ σ):=LP' hj ho hT ha hx hσ hz hd hg
theorem Gz {x:Operand}{r j c:Nat}{y:α}(ho:o.op=.load T x:=by rfl)(hT:(af.tab P).get T=some t:=by rfl)(ha:t.agg=true:=by rfl)(hx:aH ρ x=.pe r none j c:=by rfl)(hσ:ak σ r=.row m k (xs.map f):=by rfl)(hj:xs[j]?=some y:=by exact hX)(hl:Nat.beq (((f y).cells.drop c).take t.sz).length t.sz=true:=by rfl)(hd:o.dst=some d:=by rfl)(hg:a7 ops ρ o=some true:=by rfl):bC (AL P S ops Q (bb md [r] []) rest (aw ρ d (.ag ((((f y).cells.drop c).take t.sz).map (dX m)))) σ) (AL P S ops Q md (o::rest) ρ σ):=GA hj ho hT ha hx hσ hl hd hg
theorem Gt {op:BinOp}{Z7:Nat}{x y:Operand}{X1 Y1:X}{u1 v1 r1:Value}{z:D}(ho:o.op=.binOp op T x y Z7:=by rfl)(hx:aH ρ x=X1:=by rfl)(hy:aH ρ y=Y1:=by rfl)(hu:iT X1=some u1:=by rfl)(hv:iT Y1=some v1:=by rfl)(hB:BR P op T X1 Y1 u1 v1 z r1:=by first|exact iE (q:=1) (ji hltk4 (by with_reducible assumption))|exact iE (q:=1) (ji (ltN hltk4) hL)|exact iE (q:=1) (ji (ltI hltk4) hL)|exact iE (q:=1) (ji hltk3 (by with_reducible assumption))|exact iE (q:=1) (ji (ltN hltk3) hL)|exact iE (q:=1) (ji (ltI hltk3) hL)|exact iE (q:=1) (ji hltk2 (by with_reducible assumption))|exact iE (q:=1) (ji (ltN hltk2) hL)|exact iE (q:=1) (ji (ltI hltk2) hL)|exact iE (q:=1) (ji hltk1 (by with_reducible assumption))|exact iE (q:=1) (ji (ltN hltk1) hL)|exact iE (q:=1) (ji (ltI hltk1) hL)|exact lO (by with_reducible assumption)|exact Gp (by with_reducible assumption)|exact iE (q:=1) (by with_reducible assumption))(hz:cv z=some r1:=by rfl)(hd:o.dst=some d:=by rfl)(hg:a7 ops ρ o=some true:=by rfl):bC (AL P S ops Q (bb md [] []) rest (aw ρ d (.d .fz z)) σ) (AL P S ops Q md (o::rest) ρ σ):=cd z hB ho hx hy hu hv hz hd hg
end
structure Bx (a:Prop):Prop where
 h:a
theorem g {a b:Prop}(s:Bx a->b:=by (intro h;(repeat (first|refine J Va ?_|refine J Gu ?_|refine J Di ?_|refine J DI ?_|refine J cA ?_|refine J DL ?_|refine J DK ?_|refine J Gs ?_|refine J GF ?_|refine J GG ?_|refine J Dj ?_|refine J DJ ?_|refine J Dv ?_|refine J GK ?_|refine J GM ?_|refine J Gy ?_|refine J Gz ?_|refine J Gt ?_|refine J C2 ?_));exact h.h)):bC a b:=⟨λh=>s ⟨h⟩⟩
theorem gn {a b:Prop}(n:Nat)(s:Bx a->Steps n b:=by (intro h;repeat (first|exact Steps.z h.h|refine Steps.s Va ?_|refine Steps.s Gu ?_|refine Steps.s Di ?_|refine Steps.s DI ?_|refine Steps.s cA ?_|refine Steps.s DL ?_|refine Steps.s DK ?_|refine Steps.s Gs ?_|refine Steps.s GF ?_|refine Steps.s GG ?_|refine Steps.s Dj ?_|refine Steps.s DJ ?_|refine Steps.s Dv ?_|refine Steps.s GK ?_|refine Steps.s GM ?_|refine Steps.s Gy ?_|refine Steps.s Gz ?_|refine Steps.s Gt ?_|refine Steps.s C2 ?_))):bC a b:=⟨λh=>(s ⟨h⟩).h⟩
theorem e {G:Prop}(h:G:=by exact J g E):G:=h
end Go.A
set_option maxHeartbeats 4000000
namespace Go.A
open Go Go.E
section
variable {S:Start}{F:Nat->Prop}{g:Nat->G}{w:World}{σ1:Nat->aA}
theorem bu.frzG (hs:bu S F g σ1 w){r:Nat}{m:Md}{k:Nat}{xs:List D}(hd0:cG σ1 r m k xs [r]):∃ F' g',bu S F' g' (λi=>if i=r then .dead else σ1 i) w/\cr S.B F g w F' g' w/\∀ x v,vr (SM F S.B) w g x v->vr (SM F' S.B) w g' (eu r m k xs x) v:=by
 obtain⟨v,L,gs,cs,hg,hown,hrd,hLb⟩:=A4 hs hd0;let F' : Nat->Prop:=λb=>F b∨b∈bl (g r);have hF:∀ b,F b->F' b:=λb Y=>.inl Y;have up:∀ m b,SM F S.B m b->SM F' S.B m b:=λm b Y=>by
  cases m with
  | fz=>exact .inl Y
  | bo=>exact Y.imp .inl id
 have hL' : ∀ b∈bl (g r),SM F' S.B m b:=λb Y=>by
  cases m with
  | fz=>exact .inr Y
  | bo=>exact .inl (.inr Y)
 have hrd' : bk (SM F' S.B m) w k xs cs:=hrd.mono λb Y=>by
  rcases Y with Y|⟨q,hq,Y⟩
  exact up m b Y;rw[List.mem_singleton] at hq;subst hq;exact hL' b Y
 have hd:rdC (SM F' S.B m) w (.sl k xs) v:=AZ hown hrd' λb Y=>hL' b (hLb b Y);have hpart:∀ lo n v',pn v k lo n v'->rdC (SM F' S.B m) w (.sl k ((xs.drop lo).take n)) v':=λlo n v' hp=>Fi hown hrd' (λb Y=>hL' b (hLb b Y)) hp;have hlt:∀ b,F' b->b<w.heap.size:=λb Y=>Y.elim (hs.flt b) λY=>(hs.own r b Y).1;have ha:∀ q,dh (g q) ((λi=>if i=r then .dead else g i) q):=λq=>by
  by_cases hq:q=r;subst hq;simp only[if_true];rw[hg];exact .inl rfl;simp only[an hq];exact dh.refl _
 have hp:∀ {x:X} {v:Value},vr (SM F S.B) w g x v->vr (SM F' S.B) w (λi=>if i=r then .dead else g i) x v:=λh=>h.adv (λm b o cs U K h3=>⟨up m b U,K,h3⟩) ha;have hps:∀ {x:List X} {v:List Value},aU (SM F S.B) w g x v->aU (SM F' S.B) w (λi=>if i=r then .dead else g i) x v:=λh=>h.adv (λm b o cs U K h3=>⟨up m b U,K,h3⟩) ha;refine⟨F',λi=>if i=r then .dead else g i,⟨hs.chg,hs.bB,λb Y=>.inl (hs.fmono b Y),λb Y=>?_,hlt,λi=>?_,hs.low,λi=>?_,λi=>?_,λi j hij b Y=>?_,λi b Y=>?_⟩,λx v h=>hp h,λx v h=>AM hg hF hd hpart h⟩;rcases Y with Y|Y;exact hs.fnew b Y;exact .inr (hs.own r b Y).2.2.2;by_cases hi:i=r;subst hi;simp only[if_true];trivial;simp only[an hi];have U:=hs.roots i;revert U;cases σ1 i<;>intro U<;>cases hgi:g i<;>rw[hgi] at U<;>try exact U.elim
 trivial;trivial;obtain⟨vs,K,h3⟩:=U;exact⟨vs,K,hps h3⟩;exact⟨U.1,mT U.2 up⟩;exact⟨⟨U.1.1,mT U.1.2 up⟩,U.2.1.adv ha,U.2.2⟩;by_cases hi:i=r;subst hi;simp only[if_true];have:=hs.hdr i;rw[hg] at this;revert this;cases S.g0 i<;>intro h;trivial;cases h;rcases h with h|h<;>cases h;exact .inl rfl;simp only[an hi];exact hs.hdr i;by_cases hi:i=r;simp only[ao hi,bl];exact List.nodup_nil;simp only[an hi];exact hs.nodup i;by_cases hi:i=r;simp only[ao hi,bl] at Y;cases Y;simp only[an hi] at Y;by_cases hj:j=r;simp only[ao hj,bl];exact Daz;simp only[an hj];exact hs.disj i j hij b Y;by_cases hi:i=r;simp only[ao hi,bl] at Y;cases Y;simp only[an hi] at Y;obtain⟨U,K,h3,h4⟩:=hs.own i b Y;refine⟨U,λhf=>?_,h3,h4⟩;rcases hf with hf|hf;exact K hf;exact hs.disj i r hi b Y hf
end
section
variable {P:Program}[af P]{S:Start}{ops:Array Oper}{Q:AE->St->Prop}{o:Oper}{rest:List Oper}{ρ:AE}{σ:St}{d:Nat}{md:da}
theorem LT.frzG {rd:List Nat}{v:X}{wr:List (Nat×aA)}{r:Nat}{m:Md}{k:Nat}{xs:List D}(h:LT P S o ρ σ rd v wr)(Z:∀ σ1,cG (cq σ1 wr) r m k xs [r]):LT P S o ρ σ rd (eu r m k xs v) (wr++[(r,.dead)]):=by
 intro σ1 F g w ρc U K h3 h4;refine BF ?_ (h σ1 F g w ρc U K (λp hp=>h3 p (by simp[hp])) h4);rintro vc w' ⟨F',g',h5,h6,h7⟩;obtain⟨F2,g2,k1,k2,k3⟩:=h5.frzG (Z σ1);exact⟨F2,g2,by rw[Fb];exact k1,λx v hx=>k2 x v (h6 x v hx),k3 _ _ h7⟩
theorem GT {α:Type}{m:Md}{k:Nat}{g0:α->List Cell}{xs:List α}{f:Nat}{c:Call}{x:Operand}{caps axs args:List X}{pre post:St}{res:X}(r:Nat)(D0:α->D)(hf:∀ x,DR (g0 x) (D0 x))(ren:List (Nat×Nat))(vw:List Nat)(ok:Ok P f args pre res post)(h:AL P S ops Q (bb md vw (((ren.map λ(p:Nat×Nat)=>(p.2,fD ren (ak post p.1)))++[(r,aA.dead)]).map (·.1))) rest (aw ρ d (eu r m k (xs.map D0) (bf ren res))) (bj σ ((ren.map λ(p:Nat×Nat)=>(p.2,fD ren (ak post p.1)))++[(r,aA.dead)])))
  (ho:o.op=.call c:=by rfl) (hc:c.callee=.value x:=by rfl) (hx:aH ρ x=.fn f caps:=by rfl) (hcb:iJ P f=true:=by kernel_rfl) (ha:c.args.toList.map (aH ρ)++caps=axs:=by rfl) (hp:cC (ak σ) ren vw axs args:=by repeat (first|exact .nil|refine .cons ?_ ?_|exact .same|exact .ag (.cons .same (.cons .same .nil))|refine .ag ?_|exact .d rfl|exact .d ko|exact .nld|exact .nl|exact .rd rfl rfl|exact .vd rfl rfl|exact .pb rfl|exact .ref rfl|refine .fn ?_|exact .pf rfl|exact .pf ko|exact .dd (DA (by exact λ_=>rfl) rfl) rfl|exact .dd (DA ju.rd rfl) rfl|(refine .dd (DAh (x:=?x) ju.rd ?hx0 rfl rfl rfl ?he0) rfl;(case hx0=>assumption);(case he0=>rfl))|exact .u))
  (hpre:cR (ak σ) (ak pre) ren ren:=by repeat (first|exact trivial|refine And.intro rfl ?_)) (hchk:mL ren vw pre post res=true:=by rfl) (hz:∀ σ1,cq σ1 (ren.map λp=>(p.2,fD ren (ak post p.1))) r=.deep m k (xs.map g0) []:=by exact λ_=>rfl) (hd:o.dst=some d:=by rfl) (hg:a7 ops ρ o=some true:=by rfl):AL P S ops Q md (o::rest) ρ σ:=
 b8 ((wc ren vw ho hc hx hcb ha ok hp hpre hchk).frzG λσ1=>DA hf (hz σ1)) h hd hg
end
section
variable {P:Program}{S:Start}{n:Nat}{QP:cW}{ρ:AE}{σ:St}
theorem Dk {i j k:Nat}{m:Md}{xs:List (List Cell)}(hi:ak σ i=.deep m k xs [])(hj:ak σ j=.none):GH S ρ σ (λt=>iz i j (ρ t)) (aO (lB i j 0 σ) j (.deep m k xs [])):=by
 intro F g w ρc hs hv;have hgj:g j=.none:=by
  have:=hs.roots j;rw[hj] at this;revert this;cases g j<;>intro h<;>first|rfl|exact h.elim
 have hij:i≠j:=λe=>by rw[e,hj] at hi;cases hi
 let g' : Nat->G:=λr=>if r=j then g i else if r=i then .dead else g r
 have U:g' j=g i:=by simp[g']
 have K:g' i=.dead:=by simp[g',hij]
 have h3:∀ r,r≠i->r≠j->g' r=g r:=λr a b=>by simp[g',a,b]
 have hc:∀ r,(r=j/\g' r=g i)∨(r=i/\g' r=.dead)∨(r≠i/\r≠j/\g' r=g r):=λr=>by
  by_cases a:r=j;exact .inl ⟨a,by rw[a];exact U⟩;by_cases b:r=i;exact .inr (.inl ⟨b,by rw[b];exact K⟩);exact .inr (.inr ⟨b,a,h3 r b a⟩)
 refine⟨F,g',⟨hs.chg,hs.bB,hs.fmono,hs.fnew,hs.flt,λr=>?_,hs.low,λr=>?_,λr=>?_,λr r' hne b Y=>?_,λr b Y=>?_⟩,λt=>D6 hgj U K h3 (hv t)⟩;rw[jC];have Z:=hs.roots r;rcases hc r with ⟨a,b⟩|⟨a,b⟩|⟨a,a',b⟩
 rw[ao a,b];have:=hs.roots i;rw[hi] at this;revert this;cases g i<;>intro h<;>first|exact⟨h.1,(λp hp=>nomatch hp),h.2.2⟩|exact h.elim
 rw[an (by rw[a];exact hij),b,tA (by rw[a,hi];intro h;cases h),ao (by omega)];trivial;rw[an a',b];by_cases hn:ak σ r=.none;rw[FP hn (by omega)];rw[hn] at Z;revert Z;cases g r<;>intro h<;>first|trivial|exact h.elim
 rw[tA hn,an (by omega)];revert Z;cases hσ:ak σ r<;>intro Z<;>cases hg:g r<;>rw[hg] at Z<;>try exact Z.elim
 trivial;trivial;obtain⟨vs,k1,k2⟩:=Z;exact⟨vs,k1,sL hgj U K h3 k2⟩;exact Z;refine⟨Z.1,λp hp gc hgc=>?_,Z.2.2⟩;obtain⟨q,hq,rfl⟩:=List.mem_map.1 hp;exact wH hgj U h3 (Z.2.1 q hq gc hgc);rcases hc r with ⟨a,b⟩|⟨a,b⟩|⟨a,a',b⟩
 have:=hs.hdr r;rw[a,hgj] at this;rw[b,a];revert this;cases S.g0 j<;>intro h<;>simp[pk] at h ⊢;rw[b,a];cases S.g0 i<;>simp[pk];rw[b];exact hs.hdr r;rcases hc r with ⟨a,b⟩|⟨a,b⟩|⟨a,a',b⟩<;>rw[b];exact hs.nodup i;exact List.nodup_nil;exact hs.nodup r;rcases hc r with ⟨a,e⟩|⟨a,e⟩|⟨a,a',e⟩<;>rw[e] at Y<;>rcases hc r' with ⟨c,e'⟩|⟨c,e'⟩|⟨c,c',e'⟩<;>rw[e'];exact absurd (a.trans c.symm) hne;exact Daz;exact hs.disj i r' (λh=>c h.symm) b Y;cases Y;cases Y;cases Y;exact hs.disj r i a b Y;exact Daz;exact hs.disj r r' hne b Y;rcases hc r with ⟨a,e⟩|⟨a,e⟩|⟨a,a',e⟩<;>rw[e] at Y;exact hs.own i b Y;cases Y;exact hs.own r b Y
end
end Go.A
