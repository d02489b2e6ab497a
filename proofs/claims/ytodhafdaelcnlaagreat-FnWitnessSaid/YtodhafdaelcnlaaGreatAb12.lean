/- Abstract states of a walk: plain lemmas on the model, without conditions of their own. -/
import Derived.Test.YtodhafdaelcnlaaGreatAb11
set_option linter.unusedVariables false
set_option linter.unusedSimpArgs false
set_option linter.ambiguousOpen false
set_option linter.unusedSectionVars false
set_option linter.unnecessarySimpa false
open List renaming not_mem_nil->Daz
namespace Go.A
open Go Go.E
theorem aJ {α β γ:Type}{o:Option (α×γ)}{f:α×γ->Option β}{r:β}{G:Prop}(Z:o.bind f=some r)(h:∀ y z,o=some (y,z)->f (y,z)=some r->G):G:=ai Z λq=>h q.1 q.2
theorem ej {α β γ δ:Type}{o:Option (α×γ×δ)}{f:α×γ×δ->Option β}{r:β}{G:Prop}(Z:o.bind f=some r)(h:∀ x y z,o=some (x,y,z)->f (x,y,z)=some r->G):G:=ai Z λq=>h q.1 q.2.1 q.2.2
abbrev dI (n:Int):X:=.d .fz (.i .i64 n)
abbrev dB (b:Bool):X:=.d .fz (.b b)
abbrev dS (s:ar):X:=.d .fz (.s s)
end Go.A
set_option maxRecDepth 100000
namespace Go.A
open Go Go.E
structure Steps (n:Nat) (b:Prop):Prop where
 h:b
theorem Steps.z {a:Prop}(h:a):Steps 0 a:=⟨h⟩
theorem Steps.s {a b:Prop}{n:Nat}(s:bz a b)(h:Steps n a):Steps (n+1) b:=⟨s.h h.h⟩
theorem lT:true=true:=rfl
theorem lF:false=false:=rfl
class nC (p:Prop) (b:Bool) (c:outParam Bool):Prop where
 h:p->b=c
instance {b:Bool}:nC (b=true) b true:=⟨id⟩
instance {b:Bool}:nC (¬ b=true) b false:=⟨bF⟩
instance {b:Bool}:nC (¬ b=true) (!b) true:=⟨Bm⟩
instance {b:Bool}:nC (b=true) (!b) false:=⟨Bn⟩
instance {p:Prop} [Decidable p]:nC p (decide p) true:=⟨dT⟩
instance {p:Prop} [Decidable p]:nC (¬ p) (decide p) false:=⟨dF⟩
instance {p:Prop} [Decidable p]:nC (¬ p) (!decide p) true:=⟨nT⟩
instance {p:Prop} [Decidable p]:nC p (!decide p) false:=⟨nF⟩
theorem uH {p:Prop}{b c:Bool}(h:p)[d:nC p b c]:b=c:=d.h h
theorem hB {b c:Bool}(h:b=c:=by first|with_reducible exact Go.A.lT|with_reducible exact Go.A.lF|exact uH h40|exact uH h39|exact uH h38|exact uH h37|exact uH h36|exact uH h35|exact uH h34|exact uH h33|exact uH h32|exact uH h31|exact uH h30|exact uH h29|exact uH h28|exact uH h27|exact uH h26|exact uH h25|exact uH h24|exact uH h23|exact uH h22|exact uH h21|exact uH h20|exact uH h19|exact uH h18|exact uH h17|exact uH h16|exact uH h15|exact uH h14|exact uH h13|exact uH h12|exact uH h11|exact uH h10|exact uH h9|exact uH h8|exact uH h7|exact uH h6|exact uH h5|exact uH h4|exact uH h3|exact uH K|exact uH U|exact uH hltk4|exact uH hltk3|exact uH hltk2|exact uH hltk1|exact uH (Go.A.ltN hltk4)|exact uH (Go.A.ltI hltk4)|exact uH (Go.A.ltN hltk3)|exact uH (Go.A.ltI hltk3)|exact uH (Go.A.ltN hltk2)|exact uH (Go.A.ltI hltk2)|exact uH (Go.A.ltN hltk1)|exact uH (Go.A.ltI hltk1)|exact Go.A.dF Go.A.geN|exact Go.A.dF Go.A.geI):b=c:=h
inductive Pk (x y:Code):Bool->Code->Prop
 | t:Pk x y true x
 | f:Pk x y false y
inductive Nb:X->X->Prop
 | b {m:Md} {b c:Bool} (h:b=c):Nb (.d m (.b b)) (.d .fz (.b c))
 | r {v:X}:Nb v v
section
variable {P:Program}{S:Start}{n:Nat}{QP:cS}{ρ:AE}{σ:St}{c:Operand}{x y z:Code}{m:Md}{b b' : Bool}
theorem cA (hc:aF ρ c=.d m (.b b):=by rfl)(Y:b=b':=by exact hB)(hp:Pk x y b' z:=by first|exact .t|exact .f):bz (AW P S n z QP ρ σ) (AW P S n (.cond c x y) QP ρ σ):=by
 cases hp;exact⟨iE hc Y⟩;exact⟨hC hc Y⟩
theorem C8 : bz (AW P S n x (iJ (λρ σ=>AW P S n y QP ρ σ) QP) ρ σ) (AW P S n (.seq x y) QP ρ σ):=⟨gI⟩
end
section
variable {P:Program}[af P]{S:Start}{n:Nat}{ops:Array Oper}{Q:AE->St->Prop}{QP:cS}{o:Oper}{rest:List Oper}{ρ:AE}{σ:St}{d:Nat}{v v' : X}{rd:List Nat}{md:cY}{m m' : Md}{b:Bool}{y:Code}{id:Nat}{T e:Nat}{t te:TI}
theorem CN (hm:P.follows .mixedOrders=true:=by kernel_rfl):bz (AL P S ops (λρ σ=>QP .normal ρ σ) (some (0,[],none)) ops.toList ρ σ) (AW P S n (.region id ops true) QP ρ σ):=⟨λh=>l9 hm h⟩
theorem Va (hv:opV (af.tab P) ρ σ o.op=some (v,rd):=by exact rfl)(hk:Nb v v':=by first|exact .b hB|exact .r)(hd:o.dst=some d:=by rfl)(hg:aY ops ρ o=some true:=by rfl):bz (AL P S ops Q (a8 md rd []) rest (ax ρ d v') σ) (AL P S ops Q md (o::rest) ρ σ):=by
 cases hk with
 | r=>exact⟨λh=>V hv h hd hg⟩
 | @b _ _ c Y=>cases c with
  | true=>exact⟨λh=>VT hv Y h hd hg⟩
  | false=>exact⟨λh=>VF hv Y h hd hg⟩
end
mutual
def DJ:X->X->List (Nat×Nat)
 | .ref r _,.ref i _=>[(r,i)]
 | .vs r _ _ _,.vs i _ _ _=>[(r,i)]
 | .pb r _,.pb i _=>[(r,i)]
 | .pe r _ _ _,.pe i _ _ _=>[(r,i)]
 | .ag a,.ag b=>lh a b
 | .tu a,.tu b=>lh a b
 | .fn _ a,.fn _ b=>lh a b
 | _,_=>[]
def lh:List X->List X->List (Nat×Nat)
 | x::a,y::b=>DJ x y++lh a b
 | _,_=>[]
end
def SV:az->az->List (Nat×Nat)
 | .box a,.box b=>lh a b
 | .deep _ _ _ h,.deep _ _ _ k=>(h.zip k).map λp=>(p.1.2.2,p.2.2.2)
 | _,_=>[]
def nz (l:List (Nat×Nat)):List (Nat×Nat)->List (Nat×Nat)
 | []=>l
 | p::q=>nz (bif l.any λx=>Nat.beq x.1 p.1||Nat.beq x.2 p.2 then l else l++[p]) q
def Ix (l:List (Nat×Nat))(σ τ:St):List (Nat×Nat):=nz l (l.flatMap λp=>SV (ak σ p.1) (ak τ p.2))
def Ge:az->Bool
 | .none=>false
 | _=>true
def Ag (n0:Nat)(l:List (Nat×Nat))(σ τ:St):List (Nat×Nat):=nz (Ix (Ix (nz ((List.range n0).map λi=>(i,i)) l) σ τ) σ τ) (((List.range τ.length).filter λi=>Ge (ak τ i)).map λi=>(i,i))
def DK (P:Program)(ρ:AE)(σ:St)(lr:List ResultVar)(n0:Nat)(res:X)(post:St):List (Nat×Nat):=Ag n0 (match nw P ρ σ lr with|some xs=>DJ (jC xs) res|none=>[]) σ post
def Af (ρ:AE):List (Nat×X)->List (Nat×Nat)
 | []=>[]
 | p::L=>DJ (ρ p.1) p.2++Af ρ L
def vi:X->X->X
 | _,.u=>.u
 | x,_=>x
theorem Ua {x y:X}:Wk (vi x y) x:=by cases y<;>first|exact .rfl|exact .u
def DV:List X->List X->List X
 | x::a,y::b=>vi x y::DV a b
 | a,_=>a
theorem gX:∀ {a b:List X},jZ (DV a b) a
 | [],[]=>.nil
 | [],_::_=>.nil
 | x::a,[]=>.cons .rfl (Wks_rfl a)
 | x::a,y::b=>.cons Ua gX
where Wks_rfl:∀ a:List X,jZ a a
 | []=>.nil
 | _::a=>.cons .rfl (Wks_rfl a)
def mM:az->az->az
 | .box a,.box b=>.box (DV a b)
 | x,_=>x
def iO:St->St->St
 | x::s,y::t=>mM x y::iO s t
 | s,_=>s
theorem Mh:∀ {s t:St} {i:Nat},ak (iO s t) i=mM (ak s i) (ak t i)
 | [],t,i=>by cases t<;>simp[iO,mE,mM]
 | x::s,[],i=>by rw[mE];simp only[iO];cases ak (x::s) i<;>rfl
 | x::s,y::t,0=>rfl
 | x::s,y::t,i+1=>by simp only[iO,ak];exact Mh
theorem Rb {S:Start}{ρ:AE}{σ:St}(τ:St):GH S ρ σ ρ (iO σ τ):=by
 intro F g w ρc hs hv;refine⟨F,g,⟨hs.chg,hs.bB,hs.fmono,hs.fnew,hs.flt,λi=>?_,hs.low,hs.hdr,hs.nodup,hs.disj,hs.own⟩,hv⟩;rw[Mh];have:=hs.roots i;revert this;cases ak σ i<;>cases ak τ i<;>simp only[mM]<;>intro h<;>try exact h
 revert h;cases g i<;>intro h<;>try exact h.elim
 obtain⟨vs,k1,k2⟩:=h;exact⟨vs,k1,gX.vr k2⟩
theorem SR {P:Program}{S:Start}{fn:Func}{ρ:AE}{σ:St}{e:Exit}{lr:List ResultVar}{res:X}{post:St}{n0:Nat}(hS:S.n0=n0)(he:e=.normal∨e=.ret:=by first|exact .inr rfl|exact .inl rfl)(hl:fn.results=lr.toArray:=by rfl)(ht:lr.all (qC fn.ntmps)=true:=by rfl)
  (hx:(nw P ρ σ lr).map (λxs=>bf (DK P ρ σ lr n0 res post) (jC xs))=some res:=by kernel_rfl) (hc:nu (DK P ρ σ lr n0 res post) n0 post.length σ=true:=by kernel_rfl) (hp:fu (DK P ρ σ lr n0 res post) post.length σ=post:=by kernel_rfl):cU P S fn res post e ρ σ:=nf _ _ hS he hl ht hx hc hp
theorem C7 {S:Start}{ρ:AE}{σ:St}{n0:Nat}(hS:S.n0=n0){L:List (Nat×X)}{σt:St}(hL:sQ (Ag n0 (Af ρ L) σ σt) ρ L:=by repeat (first|exact trivial|refine And.intro (.of (by kernel_rfl)) ?_))(hσ:iO (fu (Ag n0 (Af ρ L) σ σt) σt.length σ) σt=σt:=by kernel_rfl)(hc:nu (Ag n0 (Af ρ L) σ σt) n0 σt.length σ=true:=by kernel_rfl):GH S ρ σ (ofX L) σt:=by
 have:=(eu (S:=S) hS _ _ hL rfl hc).trans (Rb σt);rwa[hσ] at this
theorem E {G:Prop}(h:G:=by (cases Z;try (cases hik4 _ rfl;rename_i Z;cases Z));(try (cases hik3 _ rfl;rename_i Z;cases Z));(try (cases hik2 _ rfl;rename_i Z;cases Z));(try (cases hik1 _ rfl;rename_i Z;cases Z));first|exact SR hS|exact jR|exact C7 hS|exact⟨_,rfl,C7 hS⟩):G:=h
theorem I {G:Prop}(h:G:=by exact C7 hS):G:=h
section
variable {P:Program}{S:Start}{n:Nat}{c:Code}{QP:cS}{ρ:AE}{σ:St}
theorem br {α:Type}{xs:List α}{f:α->D}{m:Md}{k:Nat}(t:Nat)(hx:ρ t=.d m (.sl k (xs.map f)):=by rfl):bz ((xs.length:Int)<=9223372036854775807->AW P S n c QP ρ σ) (AW P S n c QP ρ σ):=⟨AW.len (.tmp t hx)⟩
theorem bm {α:Type}{xs:List α}{f:α->D}{m:Md}{k:Nat}{cs:List X}(i t:Nat)(hx:ρ t=.ag cs:=by rfl)(hc:cs[i]?=some (.d m (.sl k (xs.map f))):=by rfl):bz ((xs.length:Int)<=9223372036854775807->AW P S n c QP ρ σ) (AW P S n c QP ρ σ):=⟨AW.len (.ag i (.tmp t hx) hc)⟩
theorem bH {α:Type}{xs:List α}{f:α->D}{m:Md}{k:Nat}(r:Nat)(Z:ak σ r=.row m k (xs.map f):=by rfl):bz ((xs.length:Int)<=9223372036854775807->AW P S n c QP ρ σ) (AW P S n c QP ρ σ):=⟨Iq r Z⟩
theorem eI {m:Md}{k:IntKind}{b:Int}(t:Nat)(hx:ρ t=.d m (.i k b):=by rfl):bz (eT k b->AW P S n c QP ρ σ) (AW P S n c QP ρ σ):=⟨AW.rng (.tmp t hx)⟩
end
theorem hX {p:Prop}(h:p:=by first|exact hxk5|exact hxk4|exact hxk3|exact hxk2|exact hxk1|exact hx30|exact hx29|exact hx28|exact hx27|exact hx26|exact hx25|exact hx24|exact hx23|exact hx22|exact hx21|exact hx20|exact hx19|exact hx18|exact hx17|exact hx16|exact hx15|exact hx14|exact hx13|exact hx12|exact hx11|exact hx10|exact hx9|exact hx8|exact hx7|exact hx6|exact hx5|exact hx4|exact hx3|exact hx2|exact hx1):p:=h
theorem h0 {j:Int}(h:0<=j:=by first|exact Int.natCast_nonneg _|with_reducible assumption):0<=j:=h
theorem hL {p:Prop}(h:p:=by first|exact hl6.2|exact hl6.1|exact hl5.2|exact hl5.1|exact hl4.2|exact hl4.1|exact hl3.2|exact hl3.1|exact hl2.2|exact hl2.1|exact hl1.2|exact hl1.1|with_reducible assumption):p:=h
section
variable {P:Program}[af P]{S:Start}{ops:Array Oper}{Q:AE->St->Prop}{o:Oper}{rest:List Oper}{ρ:AE}{σ:St}{d:Nat}{md:cY}{m m' : Md}{T e k:Nat}{t te:TI}{α:Type}{f:α->D}{xs:List α}
theorem GE {x i:Operand}{q:IntKind}{j:Int}{y:α}{cs:List D}(ho:o.op=.indexAddr T x i:=by rfl)(hT:(af.tab P).get T=some t:=by rfl)(he:t.el=some e:=by rfl)(hE:(af.tab P).get e=some te:=by rfl)(hx:aF ρ x=.d m (.sl te.sz (xs.map f)):=by rfl)(hi:aF ρ i=.d m' (.i q j):=by rfl)(hd:o.dst=some d:=by rfl)(hg:aY ops ρ o=some true:=by rfl)(hj:xs[j.toNat]?=some y:=by exact hX)(h0:0<=j:=by exact h0)(hc:(f y).cells=cs:=by first|with_reducible exact Expr.D_cells _|rfl):bz (AL P S ops Q (a8 md [] []) rest (ax ρ d (.pf m cs)) σ) (AL P S ops Q md (o::rest) ρ σ):=GD h0 hj hc ho hT he hE hx hi hd hg
theorem GG {x i:Operand}{r:Nat}{q:IntKind}{j:Int}{y:α}(ho:o.op=.indexAddr T x i:=by rfl)(hT:(af.tab P).get T=some t:=by rfl)(he:t.el=some e:=by rfl)(hE:(af.tab P).get e=some te:=by rfl)(hx:aF ρ x=.ref r none:=by rfl)(hσ:ak σ r=.row m te.sz (xs.map f):=by rfl)(hi:aF ρ i=.d m' (.i q j):=by rfl)(hd:o.dst=some d:=by rfl)(hg:aY ops ρ o=some true:=by rfl)(hj:xs[j.toNat]?=some y:=by exact hX)(h0:0<=j:=by exact h0):bz (AL P S ops Q (a8 md [r] []) rest (ax ρ d (.pe r none j.toNat 0)) σ) (AL P S ops Q md (o::rest) ρ σ):=IE' hj h0 ho hT he hE hx hσ hi hd hg
theorem Gt {x:Operand}{r j c:Nat}{y:α}{z:D}(ho:o.op=.load T x:=by rfl)(hT:(af.tab P).get T=some t:=by rfl)(ha:t.agg=false:=by rfl)(hx:aF ρ x=.pe r none j c:=by rfl)(hσ:ak σ r=.row m k (xs.map f):=by rfl)(hj:xs[j]?=some y:=by exact hX)(hz:(f y).cells[c]?=some z:=by rfl)(hd:o.dst=some d:=by rfl)(hg:aY ops ρ o=some true:=by rfl):bz (AL P S ops Q (a8 md [r] []) rest (ax ρ d (dX m z)) σ) (AL P S ops Q md (o::rest) ρ σ):=LP' hj ho hT ha hx hσ hz hd hg
theorem Gu {x:Operand}{r j c:Nat}{y:α}(ho:o.op=.load T x:=by rfl)(hT:(af.tab P).get T=some t:=by rfl)(ha:t.agg=true:=by rfl)(hx:aF ρ x=.pe r none j c:=by rfl)(hσ:ak σ r=.row m k (xs.map f):=by rfl)(hj:xs[j]?=some y:=by exact hX)(hl:Nat.beq (((f y).cells.drop c).take t.sz).length t.sz=true:=by rfl)(hd:o.dst=some d:=by rfl)(hg:aY ops ρ o=some true:=by rfl):bz (AL P S ops Q (a8 md [r] []) rest (ax ρ d (.ag ((((f y).cells.drop c).take t.sz).map (dX m)))) σ) (AL P S ops Q md (o::rest) ρ σ):=Gv hj ho hT ha hx hσ hl hd hg
theorem Gm {op:BinOp}{Z7:Nat}{x y:Operand}{X1 Y1:X}{u1 v1 r1:Value}{z:D}(ho:o.op=.binOp op T x y Z7:=by rfl)(hx:aF ρ x=X1:=by rfl)(hy:aF ρ y=Y1:=by rfl)(hu:iI X1=some u1:=by rfl)(hv:iI Y1=some v1:=by rfl)(hB:BR P op T X1 Y1 u1 v1 z r1:=by first|exact im (q:=1) (iV hltk4 (by with_reducible assumption))|exact im (q:=1) (iV (ltN hltk4) hL)|exact im (q:=1) (iV (ltI hltk4) hL)|exact im (q:=1) (iV hltk3 (by with_reducible assumption))|exact im (q:=1) (iV (ltN hltk3) hL)|exact im (q:=1) (iV (ltI hltk3) hL)|exact im (q:=1) (iV hltk2 (by with_reducible assumption))|exact im (q:=1) (iV (ltN hltk2) hL)|exact im (q:=1) (iV (ltI hltk2) hL)|exact im (q:=1) (iV hltk1 (by with_reducible assumption))|exact im (q:=1) (iV (ltN hltk1) hL)|exact im (q:=1) (iV (ltI hltk1) hL)|exact lA (by with_reducible assumption)|exact Gj (by with_reducible assumption)|exact im (q:=1) (by with_reducible assumption))(hz:cv z=some r1:=by rfl)(hd:o.dst=some d:=by rfl)(hg:aY ops ρ o=some true:=by rfl):bz (AL P S ops Q (a8 md [] []) rest (ax ρ d (.d .fz z)) σ) (AL P S ops Q md (o::rest) ρ σ):=b6 z hB ho hx hy hu hv hz hd hg
end
structure Bx (a:Prop):Prop where
 h:a
theorem g {a b:Prop}(s:Bx a->b:=by (intro h;(repeat (first|refine J Va ?_|refine J Gn ?_|refine J C8 ?_|refine J Dq ?_|refine J cA ?_|refine J Dv ?_|refine J Du ?_|refine J Gl ?_|refine J Gy ?_|refine J Gz ?_|refine J C9 ?_|refine J Dt ?_|refine J Dh ?_|refine J GE ?_|refine J GG ?_|refine J Gt ?_|refine J Gu ?_|refine J Gm ?_|refine J CN ?_));exact h.h)):bz a b:=⟨λh=>s ⟨h⟩⟩
theorem gn {a b:Prop}(n:Nat)(s:Bx a->Steps n b:=by (intro h;repeat (first|exact Steps.z h.h|refine Steps.s Va ?_|refine Steps.s Gn ?_|refine Steps.s C8 ?_|refine Steps.s Dq ?_|refine Steps.s cA ?_|refine Steps.s Dv ?_|refine Steps.s Du ?_|refine Steps.s Gl ?_|refine Steps.s Gy ?_|refine Steps.s Gz ?_|refine Steps.s C9 ?_|refine Steps.s Dt ?_|refine Steps.s Dh ?_|refine Steps.s GE ?_|refine Steps.s GG ?_|refine Steps.s Gt ?_|refine Steps.s Gu ?_|refine Steps.s Gm ?_|refine Steps.s CN ?_))):bz a b:=⟨λh=>(s ⟨h⟩).h⟩
theorem e {G:Prop}(h:G:=by exact J g E):G:=h
end Go.A
set_option maxHeartbeats 4000000
namespace Go.A
open Go Go.E
section
variable {S:Start}{F:Nat->Prop}{g:Nat->G}{w:World}{σ1:Nat->az}
theorem bu.frzG (hs:bu S F g σ1 w){r:Nat}{m:Md}{k:Nat}{xs:List D}(hd0:cD σ1 r m k xs [r]):∃ F' g',bu S F' g' (λi=>if i=r then .dead else σ1 i) w/\b9 S.B F g w F' g' w/\∀ x v,vr (SM F S.B) w g x v->vr (SM F' S.B) w g' (dW r m k xs x) v:=by
 obtain⟨v,L,gs,cs,hg,hown,hrd,hLb⟩:=AQ hs hd0;let F' : Nat->Prop:=λb=>F b∨b∈bl (g r);have hF:∀ b,F b->F' b:=λb Y=>.inl Y;have up:∀ m b,SM F S.B m b->SM F' S.B m b:=λm b Y=>by
  cases m with
  | fz=>exact .inl Y
  | bo=>exact Y.imp .inl id
 have hL' : ∀ b∈bl (g r),SM F' S.B m b:=λb Y=>by
  cases m with
  | fz=>exact .inr Y
  | bo=>exact .inl (.inr Y)
 have hrd' : bj (SM F' S.B m) w k xs cs:=hrd.mono λb Y=>by
  rcases Y with Y|⟨q,hq,Y⟩
  exact up m b Y;rw[List.mem_singleton] at hq;subst hq;exact hL' b Y
 have hd:rdC (SM F' S.B m) w (.sl k xs) v:=AO hown hrd' λb Y=>hL' b (hLb b Y);have hpart:∀ lo n v',oU v k lo n v'->rdC (SM F' S.B m) w (.sl k ((xs.drop lo).take n)) v':=λlo n v' hp=>E3 hown hrd' (λb Y=>hL' b (hLb b Y)) hp;have hlt:∀ b,F' b->b<w.heap.size:=λb Y=>Y.elim (hs.flt b) λY=>(hs.own r b Y).1;have ha:∀ q,de (g q) ((λi=>if i=r then .dead else g i) q):=λq=>by
  by_cases hq:q=r;subst hq;simp only[if_true];rw[hg];exact .inl rfl;simp only[an hq];exact de.refl _
 have hp:∀ {x:X} {v:Value},vr (SM F S.B) w g x v->vr (SM F' S.B) w (λi=>if i=r then .dead else g i) x v:=λh=>h.adv (λm b o cs U K h3=>⟨up m b U,K,h3⟩) ha;have hps:∀ {x:List X} {v:List Value},aS (SM F S.B) w g x v->aS (SM F' S.B) w (λi=>if i=r then .dead else g i) x v:=λh=>h.adv (λm b o cs U K h3=>⟨up m b U,K,h3⟩) ha;refine⟨F',λi=>if i=r then .dead else g i,⟨hs.chg,hs.bB,λb Y=>.inl (hs.fmono b Y),λb Y=>?_,hlt,λi=>?_,hs.low,λi=>?_,λi=>?_,λi j hij b Y=>?_,λi b Y=>?_⟩,λx v h=>hp h,λx v h=>Av hg hF hd hpart h⟩;rcases Y with Y|Y;exact hs.fnew b Y;exact .inr (hs.own r b Y).2.2.2;by_cases hi:i=r;subst hi;simp only[if_true];trivial;simp only[an hi];have U:=hs.roots i;revert U;cases σ1 i<;>intro U<;>cases hgi:g i<;>rw[hgi] at U<;>try exact U.elim
 trivial;trivial;obtain⟨vs,K,h3⟩:=U;exact⟨vs,K,hps h3⟩;exact⟨U.1,mD U.2 up⟩;exact⟨⟨U.1.1,mD U.1.2 up⟩,U.2.1.adv ha,U.2.2⟩;by_cases hi:i=r;subst hi;simp only[if_true];have:=hs.hdr i;rw[hg] at this;revert this;cases S.g0 i<;>intro h;trivial;cases h;rcases h with h|h<;>cases h;exact .inl rfl;simp only[an hi];exact hs.hdr i;by_cases hi:i=r;simp only[ao hi,bl];exact List.nodup_nil;simp only[an hi];exact hs.nodup i;by_cases hi:i=r;simp only[ao hi,bl] at Y;cases Y;simp only[an hi] at Y;by_cases hj:j=r;simp only[ao hj,bl];exact Daz;simp only[an hj];exact hs.disj i j hij b Y;by_cases hi:i=r;simp only[ao hi,bl] at Y;cases Y;simp only[an hi] at Y;obtain⟨U,K,h3,h4⟩:=hs.own i b Y;refine⟨U,λhf=>?_,h3,h4⟩;rcases hf with hf|hf;exact K hf;exact hs.disj i r hi b Y hf
end
section
variable {P:Program}[af P]{S:Start}{ops:Array Oper}{Q:AE->St->Prop}{o:Oper}{rest:List Oper}{ρ:AE}{σ:St}{d:Nat}{md:cY}
theorem LT.frzG {rd:List Nat}{v:X}{wr:List (Nat×az)}{r:Nat}{m:Md}{k:Nat}{xs:List D}(h:LT P S o ρ σ rd v wr)(Z:∀ σ1,cD (b8 σ1 wr) r m k xs [r]):LT P S o ρ σ rd (dW r m k xs v) (wr++[(r,.dead)]):=by
 intro σ1 F g w ρc U K h3 h4;refine FZ ?_ (h σ1 F g w ρc U K (λp hp=>h3 p (by simp[hp])) h4);rintro vc w' ⟨F',g',h5,h6,h7⟩;obtain⟨F2,g2,k1,k2,k3⟩:=h5.frzG (Z σ1);exact⟨F2,g2,by rw[Fe];exact k1,λx v hx=>k2 x v (h6 x v hx),k3 _ _ h7⟩
theorem GM {α:Type}{m:Md}{k:Nat}{g0:α->List Cell}{xs:List α}{f:Nat}{c:Call}{x:Operand}{caps axs args:List X}{pre post:St}{res:X}(r:Nat)(D0:α->D)(hf:∀ x,DR (g0 x) (D0 x))(ren:List (Nat×Nat))(vw:List Nat)(ok:Ok P f args pre res post)(h:AL P S ops Q (a8 md vw (((ren.map λ(p:Nat×Nat)=>(p.2,fq ren (ak post p.1)))++[(r,az.dead)]).map (·.1))) rest (ax ρ d (dW r m k (xs.map D0) (bf ren res))) (bg σ ((ren.map λ(p:Nat×Nat)=>(p.2,fq ren (ak post p.1)))++[(r,az.dead)])))
  (ho:o.op=.call c:=by rfl) (hc:c.callee=.value x:=by rfl) (hx:aF ρ x=.fn f caps:=by rfl) (hcb:iy P f=true:=by kernel_rfl) (ha:c.args.toList.map (aF ρ)++caps=axs:=by rfl) (hp:cr (ak σ) ren vw axs args:=by repeat (first|exact .nil|refine .cons ?_ ?_|exact .same|exact .ag (.cons .same (.cons .same .nil))|refine .ag ?_|exact .d rfl|exact .d j7|exact .nld|exact .nl|exact .rd rfl rfl|exact .vd rfl rfl|exact .pb rfl|exact .ref rfl|refine .fn ?_|exact .pf rfl|exact .pf j7|exact .dd (DA (by exact λ_=>rfl) rfl) rfl|exact .dd (DA jj.rd rfl) rfl|(refine .dd (DAh (x:=?x) jj.rd ?hx0 rfl rfl rfl ?he0) rfl;(case hx0=>assumption);(case he0=>rfl))|exact .u))
  (hpre:cP (ak σ) (ak pre) ren ren:=by repeat (first|exact trivial|refine And.intro rfl ?_)) (hchk:mr ren vw pre post res=true:=by rfl) (hz:∀ σ1,b8 σ1 (ren.map λp=>(p.2,fq ren (ak post p.1))) r=.deep m k (xs.map g0) []:=by exact λ_=>rfl) (hd:o.dst=some d:=by rfl) (hg:aY ops ρ o=some true:=by rfl):AL P S ops Q md (o::rest) ρ σ:=
 bW ((vW ren vw ho hc hx hcb ha ok hp hpre hchk).frzG λσ1=>DA hf (hz σ1)) h hd hg
end
section
variable {P:Program}{S:Start}{n:Nat}{QP:cS}{ρ:AE}{σ:St}
theorem Da {i j k:Nat}{m:Md}{xs:List (List Cell)}(hi:ak σ i=.deep m k xs [])(hj:ak σ j=.none):GH S ρ σ (λt=>ia i j (ρ t)) (aM (lb i j 0 σ) j (.deep m k xs [])):=by
 intro F g w ρc hs hv;have hgj:g j=.none:=by
  have:=hs.roots j;rw[hj] at this;revert this;cases g j<;>intro h<;>first|rfl|exact h.elim
 have hij:i≠j:=λe=>by rw[e,hj] at hi;cases hi
 let g' : Nat->G:=λr=>if r=j then g i else if r=i then .dead else g r
 have U:g' j=g i:=by simp[g']
 have K:g' i=.dead:=by simp[g',hij]
 have h3:∀ r,r≠i->r≠j->g' r=g r:=λr a b=>by simp[g',a,b]
 have hc:∀ r,(r=j/\g' r=g i)∨(r=i/\g' r=.dead)∨(r≠i/\r≠j/\g' r=g r):=λr=>by
  by_cases a:r=j;exact .inl ⟨a,by rw[a];exact U⟩;by_cases b:r=i;exact .inr (.inl ⟨b,by rw[b];exact K⟩);exact .inr (.inr ⟨b,a,h3 r b a⟩)
 refine⟨F,g',⟨hs.chg,hs.bB,hs.fmono,hs.fnew,hs.flt,λr=>?_,hs.low,λr=>?_,λr=>?_,λr r' hne b Y=>?_,λr b Y=>?_⟩,λt=>DW hgj U K h3 (hv t)⟩;rw[jx];have Z:=hs.roots r;rcases hc r with ⟨a,b⟩|⟨a,b⟩|⟨a,a',b⟩
 rw[ao a,b];have:=hs.roots i;rw[hi] at this;revert this;cases g i<;>intro h<;>first|exact⟨h.1,(λp hp=>nomatch hp),h.2.2⟩|exact h.elim
 rw[an (by rw[a];exact hij),b,td (by rw[a,hi];intro h;cases h),ao (by omega)];trivial;rw[an a',b];by_cases hn:ak σ r=.none;rw[FC hn (by omega)];rw[hn] at Z;revert Z;cases g r<;>intro h<;>first|trivial|exact h.elim
 rw[td hn,an (by omega)];revert Z;cases hσ:ak σ r<;>intro Z<;>cases hg:g r<;>rw[hg] at Z<;>try exact Z.elim
 trivial;trivial;obtain⟨vs,k1,k2⟩:=Z;exact⟨vs,k1,sE hgj U K h3 k2⟩;exact Z;refine⟨Z.1,λp hp gc hgc=>?_,Z.2.2⟩;obtain⟨q,hq,rfl⟩:=List.mem_map.1 hp;exact wD hgj U h3 (Z.2.1 q hq gc hgc);rcases hc r with ⟨a,b⟩|⟨a,b⟩|⟨a,a',b⟩
 have:=hs.hdr r;rw[a,hgj] at this;rw[b,a];revert this;cases S.g0 j<;>intro h<;>simp[oT] at h ⊢;rw[b,a];cases S.g0 i<;>simp[oT];rw[b];exact hs.hdr r;rcases hc r with ⟨a,b⟩|⟨a,b⟩|⟨a,a',b⟩<;>rw[b];exact hs.nodup i;exact List.nodup_nil;exact hs.nodup r;rcases hc r with ⟨a,e⟩|⟨a,e⟩|⟨a,a',e⟩<;>rw[e] at Y<;>rcases hc r' with ⟨c,e'⟩|⟨c,e'⟩|⟨c,c',e'⟩<;>rw[e'];exact absurd (a.trans c.symm) hne;exact Daz;exact hs.disj i r' (λh=>c h.symm) b Y;cases Y;cases Y;cases Y;exact hs.disj r i a b Y;exact Daz;exact hs.disj r r' hne b Y;rcases hc r with ⟨a,e⟩|⟨a,e⟩|⟨a,a',e⟩<;>rw[e] at Y;exact hs.own i b Y;cases Y;exact hs.own r b Y
end
end Go.A
