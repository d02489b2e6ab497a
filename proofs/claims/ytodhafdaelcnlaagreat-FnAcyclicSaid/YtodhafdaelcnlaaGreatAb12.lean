/- Abstract states of a walk: plain lemmas on the model, without conditions of their own. -/
import Derived.Test.YtodhafdaelcnlaaGreatAb11
set_option linter.unusedVariables false
set_option linter.unusedSimpArgs false
set_option linter.ambiguousOpen false
set_option linter.unusedSectionVars false
set_option linter.unnecessarySimpa false
open Nat renaming beq->Aaz,zero_add->Adz
open List renaming mem_singleton->Bpz,length_set->Clz
namespace Go.A
open Go Go.E
theorem aF {α β γ:Type}{o:Option (α×γ)}{f:α×γ->Option β}{r:β}{G:Prop}(Z:o.bind f=some r)(h:∀ y z,o=some (y,z)->f (y,z)=some r->G):G:=ah Z λq=>h q.1 q.2
theorem er {α β γ δ:Type}{o:Option (α×γ×δ)}{f:α×γ×δ->Option β}{r:β}{G:Prop}(Z:o.bind f=some r)(h:∀ x y z,o=some (x,y,z)->f (x,y,z)=some r->G):G:=ah Z λq=>h q.1 q.2.1 q.2.2
abbrev dI (n:Int):X:=.d .fz (.i .i64 n)
abbrev dB (b:Bool):X:=.d .fz (.b b)
abbrev dS (s:an):X:=.d .fz (.s s)
end Go.A
set_option maxRecDepth 100000
namespace Go.A
open Go Go.E
structure Steps (n:Nat) (b:Prop):Prop where
 h:b
theorem Steps.z {a:Prop}(h:a):Steps 0 a:=⟨h⟩
theorem Steps.s {a b:Prop}{n:Nat}(s:bw a b)(h:Steps n a):Steps (n+1) b:=⟨s.h h.h⟩
theorem lT:true=true:=rfl
theorem lF:false=false:=rfl
class nz (p:Prop) (b:Bool) (c:outParam Bool):Prop where
 h:p->b=c
instance {b:Bool}:nz (b=true) b true:=⟨id⟩
instance {b:Bool}:nz (¬ b=true) b false:=⟨bF⟩
instance {b:Bool}:nz (¬ b=true) (!b) true:=⟨wN⟩
instance {b:Bool}:nz (b=true) (!b) false:=⟨wO⟩
instance {p:Prop} [Decidable p]:nz p (decide p) true:=⟨dT⟩
instance {p:Prop} [Decidable p]:nz (¬ p) (decide p) false:=⟨dF⟩
instance {p:Prop} [Decidable p]:nz (¬ p) (!decide p) true:=⟨nT⟩
instance {p:Prop} [Decidable p]:nz p (!decide p) false:=⟨nF⟩
theorem uH {p:Prop}{b c:Bool}(h:p)[d:nz p b c]:b=c:=d.h h
theorem hB {b c:Bool}(h:b=c:=by first|with_reducible exact Go.A.lT|with_reducible exact Go.A.lF|exact uH h40|exact uH h39|exact uH h38|exact uH h37|exact uH h36|exact uH h35|exact uH h34|exact uH h33|exact uH h32|exact uH h31|exact uH h30|exact uH h29|exact uH h28|exact uH h27|exact uH h26|exact uH h25|exact uH h24|exact uH h23|exact uH h22|exact uH h21|exact uH h20|exact uH h19|exact uH h18|exact uH h17|exact uH h16|exact uH h15|exact uH h14|exact uH h13|exact uH h12|exact uH h11|exact uH h10|exact uH h9|exact uH h8|exact uH h7|exact uH h6|exact uH h5|exact uH h4|exact uH h3|exact uH W|exact uH U|exact uH hltk4|exact uH hltk3|exact uH hltk2|exact uH hltk1|exact uH (Go.A.ltN hltk4)|exact uH (Go.A.ltI hltk4)|exact uH (Go.A.ltN hltk3)|exact uH (Go.A.ltI hltk3)|exact uH (Go.A.ltN hltk2)|exact uH (Go.A.ltI hltk2)|exact uH (Go.A.ltN hltk1)|exact uH (Go.A.ltI hltk1)|exact Go.A.dF Go.A.geN|exact Go.A.dF Go.A.geI):b=c:=h
inductive Pk (x y:Code):Bool->Code->Prop
 | t:Pk x y true x
 | f:Pk x y false y
inductive Nb:X->X->Prop
 | b {m:Md} {b c:Bool} (h:b=c):Nb (.d m (.b b)) (.d .fz (.b c))
 | r {v:X}:Nb v v
section
variable {P:Program}{S:Start}{n:Nat}{QP:cQ}{ρ:AE}{σ:St}{c:Operand}{x y z:Code}{m:Md}{b b' : Bool}
theorem cA (hc:aE ρ c=.d m (.b b):=by rfl)(Y:b=b':=by exact hB)(hp:Pk x y b' z:=by first|exact .t|exact .f):bw (AW P S n z QP ρ σ) (AW P S n (.cond c x y) QP ρ σ):=by
 cases hp;exact⟨iK hc Y⟩;exact⟨iJ hc Y⟩
theorem CX : bw (AW P S n x (iO (λρ σ=>AW P S n y QP ρ σ) QP) ρ σ) (AW P S n (.seq x y) QP ρ σ):=⟨ib⟩
end
section
variable {P:Program}[ae P]{S:Start}{n:Nat}{ops:Array Oper}{Q:AE->St->Prop}{QP:cQ}{o:Oper}{rest:List Oper}{ρ:AE}{σ:St}{d:Nat}{v v' : X}{rd:List Nat}{md:cU}{m m' : Md}{b:Bool}{y:Code}{id:Nat}{T e:Nat}{t te:TI}
theorem CF (hm:P.follows .mixedOrders=true:=by kernel_rfl):bw (AL P S ops (λρ σ=>QP .normal ρ σ) (some (0,[],none)) ops.toList ρ σ) (AW P S n (.region id ops true) QP ρ σ):=⟨λh=>nc hm h⟩
theorem Va (hv:opV (ae.tab P) ρ σ o.op=some (v,rd):=by exact rfl)(hk:Nb v v':=by first|exact .b hB|exact .r)(hd:o.dst=some d:=by rfl)(hg:aV ops ρ o=some true:=by rfl):bw (AL P S ops Q (aZ md rd []) rest (av ρ d v') σ) (AL P S ops Q md (o::rest) ρ σ):=by
 cases hk with
 | r=>exact⟨λh=>V hv h hd hg⟩
 | @b _ _ c Y=>cases c with
  | true=>exact⟨λh=>VT hv Y h hd hg⟩
  | false=>exact⟨λh=>VF hv Y h hd hg⟩
end
mutual
def Dl:X->X->List (Nat×Nat)
 | .ref r _,.ref i _=>[(r,i)]
 | .vs r _ _ _,.vs i _ _ _=>[(r,i)]
 | .pb r _,.pb i _=>[(r,i)]
 | .pe r _ _ _,.pe i _ _ _=>[(r,i)]
 | .ag a,.ag b=>lh a b
 | .tu a,.tu b=>lh a b
 | .fn _ a,.fn _ b=>lh a b
 | _,_=>[]
def lh:List X->List X->List (Nat×Nat)
 | x::a,y::b=>Dl x y++lh a b
 | _,_=>[]
end
def RS:aw->aw->List (Nat×Nat)
 | .box a,.box b=>lh a b
 | .deep _ _ _ h,.deep _ _ _ k=>(h.zip k).map λp=>(p.1.2.2,p.2.2.2)
 | _,_=>[]
def nu (l:List (Nat×Nat)):List (Nat×Nat)->List (Nat×Nat)
 | []=>l
 | p::q=>nu (bif l.any λx=>Aaz x.1 p.1||Aaz x.2 p.2 then l else l++[p]) q
def H5 (l:List (Nat×Nat))(σ τ:St):List (Nat×Nat):=nu l (l.flatMap λp=>RS (ai σ p.1) (ai τ p.2))
def FJ:aw->Bool
 | .none=>false
 | _=>true
def zP (n0:Nat)(l:List (Nat×Nat))(σ τ:St):List (Nat×Nat):=nu (H5 (H5 (nu ((List.range n0).map λi=>(i,i)) l) σ τ) σ τ) (((List.range τ.length).filter λi=>FJ (ai τ i)).map λi=>(i,i))
def Dm (P:Program)(ρ:AE)(σ:St)(lr:List ResultVar)(n0:Nat)(res:X)(post:St):List (Nat×Nat):=zP n0 (match nr P ρ σ lr with|some xs=>Dl (jD xs) res|none=>[]) σ post
def zO (ρ:AE):List (Nat×X)->List (Nat×Nat)
 | []=>[]
 | p::L=>Dl (ρ p.1) p.2++zO ρ L
def uK:X->X->X
 | _,.u=>.u
 | x,_=>x
theorem T3 {x y:X}:Wk (uK x y) x:=by cases y<;>first|exact .rfl|exact .u
def DC:List X->List X->List X
 | x::a,y::b=>uK x y::DC a b
 | a,_=>a
theorem hZ:∀ {a b:List X},jX (DC a b) a
 | [],[]=>.nil
 | [],_::_=>.nil
 | x::a,[]=>.cons .rfl (Wks_rfl a)
 | x::a,y::b=>.cons T3 hZ
where Wks_rfl:∀ a:List X,jX a a
 | []=>.nil
 | _::a=>.cons .rfl (Wks_rfl a)
def mK:aw->aw->aw
 | .box a,.box b=>.box (DC a b)
 | x,_=>x
def iS:St->St->St
 | x::s,y::t=>mK x y::iS s t
 | s,_=>s
theorem LQ:∀ {s t:St} {i:Nat},ai (iS s t) i=mK (ai s i) (ai t i)
 | [],t,i=>by cases t<;>simp[iS,mA,mK]
 | x::s,[],i=>by rw[mA];simp only[iS];cases ai (x::s) i<;>rfl
 | x::s,y::t,0=>rfl
 | x::s,y::t,i+1=>by simp only[iS,ai];exact LQ
theorem Qk {S:Start}{ρ:AE}{σ:St}(τ:St):GH S ρ σ ρ (iS σ τ):=by
 intro F g w ρc hs hv;refine⟨F,g,⟨hs.chg,hs.bB,hs.fmono,hs.fnew,hs.flt,λi=>?_,hs.low,hs.hdr,hs.nodup,hs.disj,hs.own⟩,hv⟩;rw[LQ];have:=hs.roots i;revert this;cases ai σ i<;>cases ai τ i<;>simp only[mK]<;>intro h<;>try exact h
 revert h;cases g i<;>intro h<;>try exact h.elim
 obtain⟨vs,k1,k2⟩:=h;exact⟨vs,k1,hZ.vr k2⟩
theorem RN {P:Program}{S:Start}{fn:Func}{ρ:AE}{σ:St}{e:Exit}{lr:List ResultVar}{res:X}{post:St}{n0:Nat}(hS:S.n0=n0)(he:e=.normal∨e=.ret:=by first|exact .inr rfl|exact .inl rfl)(hl:fn.results=lr.toArray:=by rfl)(ht:lr.all (qd fn.ntmps)=true:=by rfl)
  (hx:(nr P ρ σ lr).map (λxs=>ba (Dm P ρ σ lr n0 res post) (jD xs))=some res:=by kernel_rfl) (hc:np (Dm P ρ σ lr n0 res post) n0 post.length σ=true:=by kernel_rfl) (hp:fv (Dm P ρ σ lr n0 res post) post.length σ=post:=by kernel_rfl):cS P S fn res post e ρ σ:=l7 _ _ hS he hl ht hx hc hp
theorem CV {S:Start}{ρ:AE}{σ:St}{n0:Nat}(hS:S.n0=n0){L:List (Nat×X)}{σt:St}(hL:sA (zP n0 (zO ρ L) σ σt) ρ L:=by repeat (first|exact trivial|refine And.intro (.of (by kernel_rfl)) ?_))(hσ:iS (fv (zP n0 (zO ρ L) σ σt) σt.length σ) σt=σt:=by kernel_rfl)(hc:np (zP n0 (zO ρ L) σ σt) n0 σt.length σ=true:=by kernel_rfl):GH S ρ σ (ofX L) σt:=by
 have:=(eR (S:=S) hS _ _ hL rfl hc).trans (Qk σt);rwa[hσ] at this
theorem E {G:Prop}(h:G:=by (cases Z;try (cases hik4 _ rfl;rename_i Z;cases Z));(try (cases hik3 _ rfl;rename_i Z;cases Z));(try (cases hik2 _ rfl;rename_i Z;cases Z));(try (cases hik1 _ rfl;rename_i Z;cases Z));first|exact RN hS|exact jz|exact CV hS|exact⟨_,rfl,CV hS⟩):G:=h
theorem I {G:Prop}(h:G:=by exact CV hS):G:=h
section
variable {P:Program}{S:Start}{n:Nat}{c:Code}{QP:cQ}{ρ:AE}{σ:St}
theorem bm {α:Type}{xs:List α}{f:α->D}{m:Md}{k:Nat}(t:Nat)(hx:ρ t=.d m (.sl k (xs.map f)):=by rfl):bw ((xs.length:Int)<=9223372036854775807->AW P S n c QP ρ σ) (AW P S n c QP ρ σ):=⟨AW.len (.tmp t hx)⟩
theorem br {α:Type}{xs:List α}{f:α->D}{m:Md}{k:Nat}{cs:List X}(i t:Nat)(hx:ρ t=.ag cs:=by rfl)(hc:cs[i]?=some (.d m (.sl k (xs.map f))):=by rfl):bw ((xs.length:Int)<=9223372036854775807->AW P S n c QP ρ σ) (AW P S n c QP ρ σ):=⟨AW.len (.ag i (.tmp t hx) hc)⟩
theorem bI {α:Type}{xs:List α}{f:α->D}{m:Md}{k:Nat}(r:Nat)(Z:ai σ r=.row m k (xs.map f):=by rfl):bw ((xs.length:Int)<=9223372036854775807->AW P S n c QP ρ σ) (AW P S n c QP ρ σ):=⟨HX r Z⟩
theorem eF {m:Md}{k:IntKind}{b:Int}(t:Nat)(hx:ρ t=.d m (.i k b):=by rfl):bw (eV k b->AW P S n c QP ρ σ) (AW P S n c QP ρ σ):=⟨AW.rng (.tmp t hx)⟩
end
theorem hX {p:Prop}(h:p:=by first|exact hxk5|exact hxk4|exact hxk3|exact hxk2|exact hxk1|exact hx30|exact hx29|exact hx28|exact hx27|exact hx26|exact hx25|exact hx24|exact hx23|exact hx22|exact hx21|exact hx20|exact hx19|exact hx18|exact hx17|exact hx16|exact hx15|exact hx14|exact hx13|exact hx12|exact hx11|exact hx10|exact hx9|exact hx8|exact hx7|exact hx6|exact hx5|exact hx4|exact hx3|exact hx2|exact hx1):p:=h
theorem h0 {j:Int}(h:0<=j:=by first|exact Int.natCast_nonneg _|with_reducible assumption):0<=j:=h
theorem hL {p:Prop}(h:p:=by first|exact hl6.2|exact hl6.1|exact hl5.2|exact hl5.1|exact hl4.2|exact hl4.1|exact hl3.2|exact hl3.1|exact hl2.2|exact hl2.1|exact hl1.2|exact hl1.1|with_reducible assumption):p:=h
section
variable {P:Program}[ae P]{S:Start}{ops:Array Oper}{Q:AE->St->Prop}{o:Oper}{rest:List Oper}{ρ:AE}{σ:St}{d:Nat}{md:cU}{m m' : Md}{T e k:Nat}{t te:TI}{α:Type}{f:α->D}{xs:List α}
theorem Gc {x i:Operand}{q:IntKind}{j:Int}{y:α}{cs:List D}(ho:o.op=.indexAddr T x i:=by rfl)(hT:(ae.tab P).get T=some t:=by rfl)(he:t.el=some e:=by rfl)(hE:(ae.tab P).get e=some te:=by rfl)(hx:aE ρ x=.d m (.sl te.sz (xs.map f)):=by rfl)(hi:aE ρ i=.d m' (.i q j):=by rfl)(hd:o.dst=some d:=by rfl)(hg:aV ops ρ o=some true:=by rfl)(hj:xs[j.toNat]?=some y:=by exact hX)(h0:0<=j:=by exact h0)(hc:(f y).cells=cs:=by first|with_reducible exact Expr.D_cells _|rfl):bw (AL P S ops Q (aZ md [] []) rest (av ρ d (.pf m cs)) σ) (AL P S ops Q md (o::rest) ρ σ):=Gb h0 hj hc ho hT he hE hx hi hd hg
theorem Ge {x i:Operand}{r:Nat}{q:IntKind}{j:Int}{y:α}(ho:o.op=.indexAddr T x i:=by rfl)(hT:(ae.tab P).get T=some t:=by rfl)(he:t.el=some e:=by rfl)(hE:(ae.tab P).get e=some te:=by rfl)(hx:aE ρ x=.ref r none:=by rfl)(hσ:ai σ r=.row m te.sz (xs.map f):=by rfl)(hi:aE ρ i=.d m' (.i q j):=by rfl)(hd:o.dst=some d:=by rfl)(hg:aV ops ρ o=some true:=by rfl)(hj:xs[j.toNat]?=some y:=by exact hX)(h0:0<=j:=by exact h0):bw (AL P S ops Q (aZ md [r] []) rest (av ρ d (.pe r none j.toNat 0)) σ) (AL P S ops Q md (o::rest) ρ σ):=IE' hj h0 ho hT he hE hx hσ hi hd hg
theorem F3 {x:Operand}{r j c:Nat}{y:α}{z:D}(ho:o.op=.load T x:=by rfl)(hT:(ae.tab P).get T=some t:=by rfl)(ha:t.agg=false:=by rfl)(hx:aE ρ x=.pe r none j c:=by rfl)(hσ:ai σ r=.row m k (xs.map f):=by rfl)(hj:xs[j]?=some y:=by exact hX)(hz:(f y).cells[c]?=some z:=by rfl)(hd:o.dst=some d:=by rfl)(hg:aV ops ρ o=some true:=by rfl):bw (AL P S ops Q (aZ md [r] []) rest (av ρ d (dX m z)) σ) (AL P S ops Q md (o::rest) ρ σ):=LP' hj ho hT ha hx hσ hz hd hg
theorem F4 {x:Operand}{r j c:Nat}{y:α}(ho:o.op=.load T x:=by rfl)(hT:(ae.tab P).get T=some t:=by rfl)(ha:t.agg=true:=by rfl)(hx:aE ρ x=.pe r none j c:=by rfl)(hσ:ai σ r=.row m k (xs.map f):=by rfl)(hj:xs[j]?=some y:=by exact hX)(hl:Aaz (((f y).cells.drop c).take t.sz).length t.sz=true:=by rfl)(hd:o.dst=some d:=by rfl)(hg:aV ops ρ o=some true:=by rfl):bw (AL P S ops Q (aZ md [r] []) rest (av ρ d (.ag ((((f y).cells.drop c).take t.sz).map (dX m)))) σ) (AL P S ops Q md (o::rest) ρ σ):=F5 hj ho hT ha hx hσ hl hd hg
theorem FV {op:BinOp}{Z7:Nat}{x y:Operand}{X1 Y1:X}{u1 v1 r1:Value}{z:D}(ho:o.op=.binOp op T x y Z7:=by rfl)(hx:aE ρ x=X1:=by rfl)(hy:aE ρ y=Y1:=by rfl)(hu:iN X1=some u1:=by rfl)(hv:iN Y1=some v1:=by rfl)(hB:BR P op T X1 Y1 u1 v1 z r1:=by first|exact iv (q:=1) (jb hltk4 (by with_reducible assumption))|exact iv (q:=1) (jb (ltN hltk4) hL)|exact iv (q:=1) (jb (ltI hltk4) hL)|exact iv (q:=1) (jb hltk3 (by with_reducible assumption))|exact iv (q:=1) (jb (ltN hltk3) hL)|exact iv (q:=1) (jb (ltI hltk3) hL)|exact iv (q:=1) (jb hltk2 (by with_reducible assumption))|exact iv (q:=1) (jb (ltN hltk2) hL)|exact iv (q:=1) (jb (ltI hltk2) hL)|exact iv (q:=1) (jb hltk1 (by with_reducible assumption))|exact iv (q:=1) (jb (ltN hltk1) hL)|exact iv (q:=1) (jb (ltI hltk1) hL)|exact qj (by with_reducible assumption)|exact FS (by with_reducible assumption)|exact iv (q:=1) (by with_reducible assumption))(hz:cv z=some r1:=by rfl)(hd:o.dst=some d:=by rfl)(hg:aV ops ρ o=some true:=by rfl):bw (AL P S ops Q (aZ md [] []) rest (av ρ d (.d .fz z)) σ) (AL P S ops Q md (o::rest) ρ σ):=bV z hB ho hx hy hu hv hz hd hg
end
structure Bx (a:Prop):Prop where
 h:a
theorem g {a b:Prop}(s:Bx a->b:=by (intro h;(repeat (first|refine J Va ?_|refine J FW ?_|refine J CX ?_|refine J Dc ?_|refine J cA ?_|refine J Df ?_|refine J De ?_|refine J FU ?_|refine J F8 ?_|refine J F9 ?_|refine J C3 ?_|refine J Dd ?_|refine J C4 ?_|refine J Gc ?_|refine J Ge ?_|refine J F3 ?_|refine J F4 ?_|refine J FV ?_|refine J CF ?_));exact h.h)):bw a b:=⟨λh=>s ⟨h⟩⟩
theorem gn {a b:Prop}(n:Nat)(s:Bx a->Steps n b:=by (intro h;repeat (first|exact Steps.z h.h|refine Steps.s Va ?_|refine Steps.s FW ?_|refine Steps.s CX ?_|refine Steps.s Dc ?_|refine Steps.s cA ?_|refine Steps.s Df ?_|refine Steps.s De ?_|refine Steps.s FU ?_|refine Steps.s F8 ?_|refine Steps.s F9 ?_|refine Steps.s C3 ?_|refine Steps.s Dd ?_|refine Steps.s C4 ?_|refine Steps.s Gc ?_|refine Steps.s Ge ?_|refine Steps.s F3 ?_|refine Steps.s F4 ?_|refine Steps.s FV ?_|refine Steps.s CF ?_))):bw a b:=⟨λh=>(s ⟨h⟩).h⟩
theorem e {G:Prop}(h:G:=by exact J g E):G:=h
end Go.A
set_option maxHeartbeats 4000000
namespace Go.A
open Go Go.E
section
variable {S:Start}{F:Nat->Prop}{g:Nat->G}{w:World}{σ1:Nat->aw}
theorem bp.frzG (hs:bp S F g σ1 w){r:Nat}{m:Md}{k:Nat}{xs:List D}(hd0:b9 σ1 r m k xs [r]):∃ F' g',bp S F' g' (λi=>if i=r then .dead else σ1 i) w/\cj S.B F g w F' g' w/\∀ x v,vr (SM F S.B) w g x v->vr (SM F' S.B) w g' (dP r m k xs x) v:=by
 obtain⟨v,L,gs,cs,hg,hown,hrd,hLb⟩:=wF hs hd0;let F' : Nat->Prop:=λb=>F b∨b∈bl (g r);have hF:∀ b,F b->F' b:=λb Y=>.inl Y;have up:∀ m b,SM F S.B m b->SM F' S.B m b:=λm b Y=>by
  cases m with
  | fz=>exact .inl Y
  | bo=>exact Y.imp .inl id
 have hL' : ∀ b∈bl (g r),SM F' S.B m b:=λb Y=>by
  cases m with
  | fz=>exact .inr Y
  | bo=>exact .inl (.inr Y)
 have hrd' : bg (SM F' S.B m) w k xs cs:=hrd.mono λb Y=>by
  rcases Y with Y|⟨q,hq,Y⟩
  exact up m b Y;rw[Bpz] at hq;subst hq;exact hL' b Y
 have hd:rdC (SM F' S.B m) w (.sl k xs) v:=wE hown hrd' λb Y=>hL' b (hLb b Y);have hpart:∀ lo n v',ml v k lo n v'->rdC (SM F' S.B m) w (.sl k ((xs.drop lo).take n)) v':=λlo n v' hp=>AO hown hrd' (λb Y=>hL' b (hLb b Y)) hp;have hlt:∀ b,F' b->b<w.heap.size:=λb Y=>Y.elim (hs.flt b) λY=>(hs.own r b Y).1;have ha:∀ q,da (g q) ((λi=>if i=r then .dead else g i) q):=λq=>by
  by_cases hq:q=r;subst hq;simp only[if_true];rw[hg];exact .inl rfl;simp only[al hq];exact da.refl _
 have hp:∀ {x:X} {v:Value},vr (SM F S.B) w g x v->vr (SM F' S.B) w (λi=>if i=r then .dead else g i) x v:=λh=>h.adv (λm b o cs U W h3=>⟨up m b U,W,h3⟩) ha;have hps:∀ {x:List X} {v:List Value},aQ (SM F S.B) w g x v->aQ (SM F' S.B) w (λi=>if i=r then .dead else g i) x v:=λh=>h.adv (λm b o cs U W h3=>⟨up m b U,W,h3⟩) ha;refine⟨F',λi=>if i=r then .dead else g i,⟨hs.chg,hs.bB,λb Y=>.inl (hs.fmono b Y),λb Y=>?_,hlt,λi=>?_,hs.low,λi=>?_,λi=>?_,λi j hij b Y=>?_,λi b Y=>?_⟩,λx v h=>hp h,λx v h=>wg hg hF hd hpart h⟩;rcases Y with Y|Y;exact hs.fnew b Y;exact .inr (hs.own r b Y).2.2.2;by_cases hi:i=r;subst hi;simp only[if_true];trivial;simp only[al hi];have U:=hs.roots i;revert U;cases σ1 i<;>intro U<;>cases hgi:g i<;>rw[hgi] at U<;>try exact U.elim
 trivial;trivial;obtain⟨vs,W,h3⟩:=U;exact⟨vs,W,hps h3⟩;exact⟨U.1,kb U.2 up⟩;exact⟨⟨U.1.1,kb U.1.2 up⟩,U.2.1.adv ha,U.2.2⟩;by_cases hi:i=r;subst hi;simp only[if_true];have:=hs.hdr i;rw[hg] at this;revert this;cases S.g0 i<;>intro h;trivial;cases h;rcases h with h|h<;>cases h;exact .inl rfl;simp only[al hi];exact hs.hdr i;by_cases hi:i=r;simp only[ao hi,bl];exact List.nodup_nil;simp only[al hi];exact hs.nodup i;by_cases hi:i=r;simp only[ao hi,bl] at Y;cases Y;simp only[al hi] at Y;by_cases hj:j=r;simp only[ao hj,bl];exact List.not_mem_nil;simp only[al hj];exact hs.disj i j hij b Y;by_cases hi:i=r;simp only[ao hi,bl] at Y;cases Y;simp only[al hi] at Y;obtain⟨U,W,h3,h4⟩:=hs.own i b Y;refine⟨U,λhf=>?_,h3,h4⟩;rcases hf with hf|hf;exact W hf;exact hs.disj i r hi b Y hf
end
section
variable {P:Program}[ae P]{S:Start}{ops:Array Oper}{Q:AE->St->Prop}{o:Oper}{rest:List Oper}{ρ:AE}{σ:St}{d:Nat}{md:cU}
theorem LT.frzG {rd:List Nat}{v:X}{wr:List (Nat×aw)}{r:Nat}{m:Md}{k:Nat}{xs:List D}(h:LT P S o ρ σ rd v wr)(Z:∀ σ1,b9 (cg σ1 wr) r m k xs [r]):LT P S o ρ σ rd (dP r m k xs v) (wr++[(r,.dead)]):=by
 intro σ1 F g w ρc U W h3 h4;refine Bb ?_ (h σ1 F g w ρc U W (λp hp=>h3 p (by simp[hp])) h4);rintro vc w' ⟨F',g',h5,h6,h7⟩;obtain⟨F2,g2,k1,k2,k3⟩:=h5.frzG (Z σ1);exact⟨F2,g2,by rw[EU];exact k1,λx v hx=>k2 x v (h6 x v hx),k3 _ _ h7⟩
theorem Gk {α:Type}{m:Md}{k:Nat}{g0:α->List Cell}{xs:List α}{f:Nat}{c:Call}{x:Operand}{caps axs args:List X}{pre post:St}{res:X}(r:Nat)(D0:α->D)(hf:∀ x,DR (g0 x) (D0 x))(ren:List (Nat×Nat))(vw:List Nat)(ok:Ok P f args pre res post)(h:AL P S ops Q (aZ md vw (((ren.map λ(p:Nat×Nat)=>(p.2,fu ren (ai post p.1)))++[(r,aw.dead)]).map (·.1))) rest (av ρ d (dP r m k (xs.map D0) (ba ren res))) (bc σ ((ren.map λ(p:Nat×Nat)=>(p.2,fu ren (ai post p.1)))++[(r,aw.dead)])))
  (ho:o.op=.call c:=by rfl) (hc:c.callee=.value x:=by rfl) (hx:aE ρ x=.fn f caps:=by rfl) (hcb:iC P f=true:=by kernel_rfl) (ha:c.args.toList.map (aE ρ)++caps=axs:=by rfl) (hp:cu (ai σ) ren vw axs args:=by repeat (first|exact .nil|refine .cons ?_ ?_|exact .same|exact .ag (.cons .same (.cons .same .nil))|refine .ag ?_|exact .d rfl|exact .d j7|exact .nld|exact .nl|exact .rd rfl rfl|exact .vd rfl rfl|exact .pb rfl|exact .ref rfl|refine .fn ?_|exact .pf rfl|exact .pf j7|exact .dd (DA (by exact λ_=>rfl) rfl) rfl|exact .dd (DA jm.rd rfl) rfl|(refine .dd (DAh (x:=?x) jm.rd ?hx0 rfl rfl rfl ?he0) rfl;(case hx0=>assumption);(case he0=>rfl))|exact .u))
  (hpre:dp (ai σ) (ai pre) ren ren:=by repeat (first|exact trivial|refine And.intro rfl ?_)) (hchk:mj ren vw pre post res=true:=by rfl) (hz:∀ σ1,cg σ1 (ren.map λp=>(p.2,fu ren (ai post p.1))) r=.deep m k (xs.map g0) []:=by exact λ_=>rfl) (hd:o.dst=some d:=by rfl) (hg:aV ops ρ o=some true:=by rfl):AL P S ops Q md (o::rest) ρ σ:=
 bX ((vI ren vw ho hc hx hcb ha ok hp hpre hchk).frzG λσ1=>DA hf (hz σ1)) h hd hg
end
section
variable {S:Start}{F:Nat->Prop}{g:Nat->G}{w:World}{σ:St}{ρ:AE}
theorem aL.one {α β:Type}{R:α->β->Prop}:∀ {vs:List α} {bs:List β} {i:Nat} {a:α} {b:β},aL R vs bs->bs[i]?=some b->R a b->aL R (vs.set i a) bs
 | [],bs,i,a,b,h,U,W=>by rw[aL] at h;subst h;cases U
 | x::vs,bs,0,a,b,h,U,W=>by
  rw[aL] at h;obtain⟨b',r,rfl,h3,h4⟩:=h;cases U;rw[List.set_cons_zero,aL];exact⟨b,r,rfl,W,h4⟩
 | x::vs,bs,i+1,a,b,h,U,W=>by
  rw[aL] at h;obtain⟨b',r,rfl,h3,h4⟩:=h;rw[List.set_cons_succ,aL];exact⟨b',r,rfl,h3,aL.one h4 (by simpa using U) W⟩
theorem TZ {e:List Cell}{c:Nat}{x:Cell}(h:c<e.length):spl e c [x]=e.set c x:=by
 unfold spl;rw[List.set_eq_take_append_cons_drop,ao h];simp
theorem Qj {r j c q k kr:Nat}{mr:Md}{xs:List D}{es:List (List Cell)}{hh:List (Nat×Nat×Nat)}{e:List Cell}(hr0:ai σ r=.row .fz k xs)(hσ:ai σ q=.deep mr kr es hh)(hj:es[j]?=some e)(hu:e[c]?=some .u)(hm:(j,c,r)∈hh)(hqr:Aaz q r=false):GH S ρ σ (λt=>dP r .fz k xs (ρ t)) (aK (gO r .fz k xs 0 σ) q (.deep mr kr (es.set j (spl e c [.d .fz (.sl k xs)])) (kB hh c 1))):=by
 have hqr:q≠r:=λe=>by subst e;simp at hqr
 have hd0:b9 (ai σ) r .fz k xs [r]:=.row hr0 rfl;have hcl:=(List.getElem?_eq_some_iff.1 hu).1;intro F g w ρc hs hv;obtain⟨v,L,gs,cs,hg,hown,hrd,hLb⟩:=wF hs hd0;have Z:ai σ r≠.none:=by cases hd0 with
  | row h _=>rw[h];intro h;cases h
  | deep h _ _ _=>rw[h];intro h;cases h
 let F' : Nat->Prop:=λb=>F b∨b∈bl (g r);have hF:∀ b,F b->F' b:=λb Y=>.inl Y;have up:∀ m b,SM F S.B m b->SM F' S.B m b:=λm b Y=>by
  cases m with
  | fz=>exact .inl Y
  | bo=>exact Y.imp .inl id
 have hL' : ∀ b∈bl (g r),SM F' S.B .fz b:=λb Y=>.inr Y;have hrd' : bg (SM F' S.B .fz) w k xs cs:=hrd.mono λb Y=>by
  rcases Y with Y|⟨q,hq,Y⟩
  exact up .fz b Y;rw[Bpz] at hq;subst hq;exact hL' b Y
 have hd:rdC (SM F' S.B .fz) w (.sl k xs) v:=wE hown hrd' λb Y=>hL' b (hLb b Y);have hpart:∀ lo n v',ml v k lo n v'->rdC (SM F' S.B .fz) w (.sl k ((xs.drop lo).take n)) v':=λlo n v' hp=>AO hown hrd' (λb Y=>hL' b (hLb b Y)) hp;have hlt:∀ b,F' b->b<w.heap.size:=λb Y=>Y.elim (hs.flt b) λY=>(hs.own r b Y).1;refine⟨F',λi=>if i=r then .dead else g i,⟨hs.chg,hs.bB,λb Y=>.inl (hs.fmono b Y),λb Y=>?_,hlt,λi=>?_,hs.low,λi=>?_,λi=>?_,λi j hij b Y=>?_,λi b Y=>?_⟩,λt=>wg hg hF hd hpart (hv t)⟩;rcases Y with Y|Y;exact hs.fnew b Y;exact .inr (hs.own r b Y).2.2.2;by_cases hiq:i=q;subst hiq;rw[iY,ao rfl,al hqr];have U:=hs.roots i;rw[hσ] at U;cases hgi:g i<;>rw[hgi] at U<;>try exact U.elim
 rename_i v1 k1 L1 gs1;obtain⟨⟨hk1,hrow⟩,hho,hfz⟩:=U;subst hk1;obtain⟨ge,hge,hel⟩:=hrow.2.get hj;obtain⟨gc,hgc,hok⟩:=hel.2.get hu;have hval:gc.val=v:=by
  have:=hho _ hm gc (by rw[hge];exact hgc);rw[hg] at this;exact this _ _ rfl
 have hrow':=kb hrow up;refine⟨⟨rfl,?_,?_⟩,λp hp gc' hgc'=>?_,λhm'=>Au (hfz hm') hj (by
  intro x hx';rw[Bpz] at hx';subst hx';rfl)⟩
 rw[Clz];exact hrow'.1;refine aL.one hrow'.2 hge ?_;obtain⟨ge',hge',hel'⟩:=hrow'.2.get hj;rw[hge] at hge';cases hge';rw[TZ hcl];refine⟨by rw[Clz];exact hel'.1,aL.one hel'.2 hgc ?_⟩;exact⟨hok.1,hok.2.1,by rw[hval];exact hd⟩;have h3:=hho p (List.mem_filter.1 hp).1 gc' hgc';by_cases hpr:p.2.2=r;simp only[ao hpr];trivial;simp only[al hpr];exact h3;rw[iY,al hiq];by_cases hi:i=r;subst hi;rw[sN Z];simp only[Adz,if_true];trivial;simp only[al hi];have U:=hs.roots i;by_cases hn:ai σ i=.none;rw[BS hn (by rw[Adz];exact hi)];rw[hn] at U;exact (by revert U;cases g i<;>intro h<;>first|exact h.elim|trivial);rw[sN hn,Adz,al hi];revert U;cases ai σ i<;>intro U<;>cases hgi:g i<;>rw[hgi] at U<;>try exact U.elim
 trivial;trivial;obtain⟨vs,W,h3⟩:=U;exact⟨vs,W,qx hg hF hd hpart h3⟩;exact⟨U.1,kb U.2 up⟩;exact⟨⟨U.1.1,kb U.1.2 up⟩,U.2.1.adv λq=>by
  by_cases hq:q=r;subst hq;simp only[if_true];rw[hg];exact .inl rfl;simp only[al hq];exact da.refl _,U.2.2⟩
 by_cases hi:i=r;subst hi;simp only[if_true];have:=hs.hdr i;rw[hg] at this;revert this;cases S.g0 i<;>intro h;trivial;cases h;rcases h with h|h<;>cases h;exact .inl rfl;simp only[al hi];exact hs.hdr i;by_cases hi:i=r;simp only[ao hi,bl];exact List.nodup_nil;simp only[al hi];exact hs.nodup i;by_cases hi:i=r;simp only[ao hi,bl] at Y;cases Y;simp only[al hi] at Y;by_cases hj:j=r;simp only[ao hj,bl];exact List.not_mem_nil;simp only[al hj];exact hs.disj i j hij b Y;by_cases hi:i=r;simp only[ao hi,bl] at Y;cases Y;simp only[al hi] at Y;obtain⟨U,W,h3,h4⟩:=hs.own i b Y;refine⟨U,λhf=>?_,h3,h4⟩;rcases hf with hf|hf;exact W hf;exact hs.disj i r hi b Y hf
theorem DAe {α:Type}{σ:Nat->aw}{r k j:Nat}{m:Md}{f:α->List Cell}{D0:α->D}{xs:List α}{x:α}{e1 e e2:List Cell}(hf:∀ x,DR (f x) (D0 x))(hx:xs[j]?=some x)(he:DR e (D0 x))(he2:DR e2 (D0 x))(h:σ r=.deep m k (((xs.map f).set j e1).set j e++[e2]) []):b9 σ r m k ((xs++[x]).map D0) [r]:=by
 refine .deep h ?_ rfl rfl;rw[ll,List.set_set,List.map_append];refine aL.append ?_ ⟨_,[],rfl,he2,rfl⟩;refine aL.one (aL.map hf xs) (b:=D0 x) (by rw[List.getElem?_map,hx];rfl) he
theorem P5 {α:Type}{S:Start}{ρ:AE}{σ:St}{k j:Nat}{m:Md}{f:α->List Cell}{xs:List α}{x:α}{e1 e e2:List Cell}(r:Nat)(D0:α->D)(hf:∀ x,DR (f x) (D0 x))(hx:xs[j]?=some x)(h:ai σ r=.deep m k (((xs.map f).set j e1).set j e++[e2]) [])(he:DR e (D0 x))(he2:DR e2 (D0 x)):GH S ρ σ (λt=>dP r m k ((xs++[x]).map D0) (ρ t)) (gO r m k ((xs++[x]).map D0) 0 σ):=zM (DAe hf hx he he2 h)
end
section
variable {P:Program}[ae P]{S:Start}{n:Nat}{ops:Array Oper}{Q:AE->St->Prop}{QP:cQ}{o:Oper}{rest:List Oper}{ρ:AE}{σ:St}{d:Nat}{md:cU}{T e:Nat}{t te:TI}{k:Nat}{m:Md}
theorem Gp {s x:Operand}{es es2:List (List Cell)}{zs:List X}{r r2 b1 a b:Nat}(r' : Nat)(B:Nat)(hmax:((a:Int)+(b:Int))*(B:Int)<=140737488355328/\(a:Int)+(b:Int)<=9223372036854775807)(ho:o.op=.call { callee:=.builtin .append,args:=#[s,x],argTypes:=#[T,T] }:=by rfl)(hT:(ae.tab P).get T=some t:=by rfl)(he:t.el=some e:=by rfl)(hE:(ae.tab P).get e=some te:=by rfl)(hs:aE ρ s=.ref r none:=by rfl)(hx:aE ρ x=.ref r2 none:=by rfl)(hσ:ai σ r=.deep m te.sz es []:=by rfl)(hσ2:ai σ r2=.deep m te.sz es2 []:=by rfl)(ha:es.length=a:=by simp only[Clz,bn])(hb0:es2.length=b:=by rfl)(hz:te.z=some zs:=by rfl)(Y:te.by_=b1+1:=by rfl)(hzl:zs.length=te.sz:=by rfl)(hk0:Nat.blt 0 te.sz=true:=by rfl)(Z:ai σ r'=.none:=by rfl)(hne:Aaz r r2=false:=by rfl)(hB:te.by_=B:=by rfl)(hd:o.dst=some d:=by rfl)(hg:aV ops ρ o=some true:=by rfl):bw (AL P S ops Q (aZ md [] [r,r2,r']) rest (av ρ d (.ref r' none)) (bc σ [(r,.dead),(r2,.dead),(r',.deep m te.sz (es++es2) [])])) (AL P S ops Q md (o::rest) ρ σ):=⟨λh=>by
 obtain⟨z,U,W⟩:=TI.z' (bK.chk ae.ok hE) hz;refine bX (HY (r':=r') ho (cD hT he hE).1 (cD hT he hE).2 (TI.by' (bK.chk ae.ok hE) Y) U (by rw[← hzl,← (W (λ_ _=>True) default (λ_=>.none)).len]) hk0 hs hσ hx hσ2 ?_ ?_ Z hne) h hd hg;rw[ha,hb0,hB];have:=hmax.1;rw[← Int.natCast_add,← Int.natCast_mul] at this;omega;rw[ha,hb0];show _<=9223372036854775807;have:=hmax.2;omega⟩
end
end Go.A
