/- Abstract states of a walk: plain lemmas on the model, without conditions of their own. -/
import Derived.Test.YtodhafdaelcnlaaGreatAb3
set_option linter.unusedVariables false
set_option linter.unusedSimpArgs false
set_option linter.ambiguousOpen false
set_option linter.unusedSectionVars false
set_option linter.unnecessarySimpa false
open Nat renaming beq->Aaz,eq_of_beq_eq_true->Abz,zero_add->Adz
open List renaming map_cons->Blz,nodup_cons->Bzz,mem_singleton->Bpz,nodup_nil->Caz
open Bool renaming and_eq_true->Afz,not_eq_true'->Bdz
open Option renaming getD_some->Cbz
open Array renaming getD_eq_getD_getElem?->Ajz
namespace Go.A
open Go Go.E
def oX (w:World)(F B:Nat->Prop)(g:Nat->G)(n:Nat):Start:=⟨w,λb=>∃ i,b∈bl (g i),F,B,g,n⟩
def Ok (P:Program)(f:Nat)(args:List X)(pre:St)(res:X)(post:St):Prop:=
 ∀ (F B:Nat->Prop) (g:Nat->G) (w:World) (vs:List Value),bu (oX w F B g pre.length) F g (ak pre) w->aU (SM F B) w g args vs ->
  nW P f vs.toArray w (λb=>∃ i,b∈bl (g i)) λv w'=>∃ F' g',bu (oX w F B g pre.length) F' g' (ak post) w'/\vr (SM F' B) w' g' res v
def aW:List (Nat×Nat)->Nat->Option Nat
 | [],_=>none
 | (i,j)::l,k=>bif Aaz i k then some j else aW l k
def cQ:List (Nat×Nat)->Nat->Option Nat
 | [],_=>none
 | (i,j)::l,k=>bif Aaz j k then some i else cQ l k
mutual
def bf (l:List (Nat×Nat)):X->X
 | .ref r p=>match aW l r with|some j=>.ref j p|none=>.u
 | .vs r p a b=>match aW l r with|some j=>.vs j p a b|none=>.u
 | .pb r c=>match aW l r with|some j=>.pb j c|none=>.u
 | .pe r p j c=>match aW l r with|some i=>.pe i p j c|none=>.u
 | .ag cs=>.ag (jx l cs)
 | .tu cs=>.tu (jx l cs)
 | .fn f cs=>.fn f (jx l cs)
 | .d m x=>.d m x
 | .pf m x=>.pf m x
 | .nl k=>.nl k
 | .u=>.u
def jx (l:List (Nat×Nat)):List X->List X
 | []=>[]
 | x::xs=>bf l x::jx l xs
end
def gW:Md->Bool
 | .fz=>true
 | .bo=>false
def IA (z:Bool)(m:Md):D->Bool
 | .sl _ _=>bif z then gW m else true
 | .a _=>bif z then gW m else true
 | _=>true
mutual
def gL (l:List (Nat×Nat))(z:Bool):X->Bool
 | .ref r _=>(aW l r).isSome
 | .vs r _ _ _=>(aW l r).isSome
 | .pb r _=>(aW l r).isSome
 | .pe r _ _ _=>(aW l r).isSome
 | .ag cs=>gU l z cs
 | .tu cs=>gU l z cs
 | .fn _ cs=>gU l z cs
 | .d m x=>IA z m x
 | .pf m _=>bif z then gW m else true
 | .nl _=>true
 | .u=>true
def gU (l:List (Nat×Nat))(z:Bool):List X->Bool
 | []=>true
 | x::xs=>gL l z x&&gU l z xs
end
def je (l:List (Nat×Nat)):aA->aA
 | .box cs=>.box (jx l cs)
 | .deep m k es hs=>.deep m k es (hs.map λp=>(p.1,p.2.1,(aW l p.2.2).getD 0))
 | x=>x
def oP (l:List (Nat×Nat))(z:Bool):aA->Bool
 | .box cs=>gU l z cs
 | .row m _ _=>bif z then gW m else true
 | .deep m _ _ hs=>(bif z then gW m else true)&&hs.all λp=>(aW l p.2.2).isSome
 | _=>true
theorem rr:∀ {l:List (Nat×Nat)} {i j:Nat},(l.map (·.2)).Nodup->aW l i=some j->(l.map (·.1)).Nodup->cQ l j=some i
 | [],i,j,_,h,_=>by simp[aW] at h
 | (a,b)::l,i,j,hn,h,hm=>by
  simp only[Blz,Bzz] at hn hm;simp only[aW] at h;simp only[cQ];cases Y:Aaz a i with
  | true=>
   rw[Y] at h;simp only[cond_true,Option.some.injEq] at h;subst h;have:=Abz Y;subst this;simp
  | false=>
   rw[Y] at h;simp only[cond_false] at h;have ih:=rr hn.2 h hm.2;have hmem:j∈l.map (·.2):=by
    clear ih hn hm Y
    induction l with
    | nil=>simp[aW] at h
    | cons p l ihl=>
     simp only[aW] at h;cases Y:Aaz p.1 i with
     | true=>rw[Y] at h;simp at h;simp[h]
     | false=>rw[Y] at h;simp at h;simp;right;have:=ihl h;simpa using this
   have hne:Aaz b j=false:=by
    cases hbj:Aaz b j with
    | false=>rfl
    | true=>exact absurd ((Abz hbj)▸hmem) hn.1
   rw[hne];exact ih
theorem Fh:∀ {l:List (Nat×Nat)} {i j:Nat},cQ l j=some i->(l.map (·.1)).Nodup->aW l i=some j
 | [],i,j,h,_=>by simp[cQ] at h
 | (a,b)::l,i,j,h,hm=>by
  simp only[Blz,Bzz] at hm;simp only[cQ] at h;simp only[aW];cases Y:Aaz b j with
  | true=>
   rw[Y] at h;simp only[cond_true,Option.some.injEq] at h;subst h;have:=Abz Y;subst this;simp
  | false=>
   rw[Y] at h;simp only[cond_false] at h;have ih:=Fh h hm.2;have hmem:i∈l.map (·.1):=by
    clear ih hm Y
    induction l with
    | nil=>simp[cQ] at h
    | cons p l ihl=>
     simp only[cQ] at h;cases Y:Aaz p.2 j with
     | true=>rw[Y] at h;simp at h;simp[h]
     | false=>rw[Y] at h;simp at h;simp;right;have:=ihl h;simpa using this
   have hne:Aaz a i=false:=by
    cases hbj:Aaz a i with
    | false=>rfl
    | true=>exact absurd ((Abz hbj)▸hmem) hm.1
   rw[hne];exact ih
section
variable {S1 S2:Md->Nat->Prop}{w:World}{g1 g2:Nat->G}{l:List (Nat×Nat)}{z:Bool}
mutual
theorem IG (hg:∀ i j,aW l i=some j->dh (g1 i) (g2 j))(hfz:∀ b,S1 .fz b->S2 .fz b)(hbo:z=false->∀ b,S1 .bo b->S2 .bo b):∀ {x:X} {v:Value},gL l z x=true->vr S1 w g1 x v->vr S2 w g2 (bf l x) v
 | .d m x,v,ho,h=>by
  rw[bf];rw[vr] at h ⊢;cases m with
  | fz=>exact h.mono hfz
  | bo=>
   cases x with
   | sl k xs=>cases z with
    | false=>exact h.mono (hbo rfl)
    | true=>simp[gL,IA,gW] at ho
   | a cs=>rw[rdC] at h;exact h.elim
   | i k n=>rw[rdC] at h ⊢;exact h
   | b y=>rw[rdC] at h ⊢;exact h
   | s t=>rw[rdC] at h ⊢;exact h
 | .ag cs,v,ho,h=>by rw[bf];rw[vr] at h ⊢;rw[gL] at ho;obtain⟨vs,U,K⟩:=h;exact⟨vs,U,wI hg hfz hbo ho K⟩
 | .tu cs,v,ho,h=>by rw[bf];rw[vr] at h ⊢;rw[gL] at ho;obtain⟨vs,U,K⟩:=h;exact⟨vs,U,wI hg hfz hbo ho K⟩
 | .ref r p,v,ho,h=>by
  rw[gL] at ho;obtain⟨j,hj⟩:=Option.isSome_iff_exists.1 ho;simp only[bf,hj];rw[vr] at h ⊢;exact h.adv (hg r j hj)
 | .vs r p a b,v,ho,h=>by
  rw[gL] at ho;obtain⟨j,hj⟩:=Option.isSome_iff_exists.1 ho;simp only[bf,hj];rw[vr] at h ⊢;exact h.adv (hg r j hj)
 | .pb r c,v,ho,h=>by
  rw[gL] at ho;obtain⟨j,hj⟩:=Option.isSome_iff_exists.1 ho;simp only[bf,hj];rw[vr] at h ⊢;have:=hg r j hj;revert h this;cases g1 r with
  | none=>intro h;exact h.elim
  | row=>intro h;exact h.elim
  | dead=>intro h hd;rw[show g2 j=.dead from hd];trivial
  | box b T=>intro h hd;rcases hd with hd|hd<;>rw[hd];exact h;trivial
 | .pe r p i c,v,ho,h=>by
  rw[gL] at ho;obtain⟨j,hj⟩:=Option.isSome_iff_exists.1 ho;simp only[bf,hj];rw[vr] at h ⊢;exact h.adv (hg r j hj)
 | .pf m xs,v,ho,h=>by
  rw[bf];rw[vr] at h ⊢;obtain⟨b,o,cs,U,K,h3,h4,h5⟩:=h;cases m with
  | fz=>exact⟨b,o,cs,U,hfz b K,h3,h4,h5.mono hfz⟩
  | bo=>cases z with
   | false=>exact⟨b,o,cs,U,hbo rfl b K,h3,h4,h5.mono (hbo rfl)⟩
   | true=>simp[gL,gW] at ho
 | .fn f cs,v,ho,h=>by rw[bf];rw[vr] at h ⊢;rw[gL] at ho;obtain⟨vs,U,K⟩:=h;exact⟨vs,U,wI hg hfz hbo ho K⟩
 | .nl _,v,ho,h=>by rw[bf];rw[vr] at h ⊢;exact h
 | .u,v,ho,h=>by rw[bf,vr];trivial
theorem wI (hg:∀ i j,aW l i=some j->dh (g1 i) (g2 j))(hfz:∀ b,S1 .fz b->S2 .fz b)(hbo:z=false->∀ b,S1 .bo b->S2 .bo b):∀ {xs:List X} {vs:List Value},gU l z xs=true->aU S1 w g1 xs vs->aU S2 w g2 (jx l xs) vs
 | [],vs,ho,h=>by rw[jx];rw[aU] at h ⊢;exact h
 | x::xs,vs,ho,h=>by
  rw[gU,Afz] at ho;rw[jx];rw[aU] at h ⊢;obtain⟨v,r,U,K,h3⟩:=h;exact⟨v,r,U,IG hg hfz hbo ho.1 K,wI hg hfz hbo ho.2 h3⟩
end
end
section
variable {S1 S2:Md->Nat->Prop}{w:World}{g1 g2:Nat->G}{l:List (Nat×Nat)}{z:Bool}
mutual
theorem Ud (hg:∀ i j,aW l i=some j->g1 i=g2 j)(hS:∀ m b,S2 m b->S1 m b):∀ {x:X} {v:Value},gL l z x=true->vr S2 w g2 (bf l x) v->vr S1 w g1 x v
 | .d m x,v,ho,h=>by rw[bf] at h;rw[vr] at h ⊢;exact h.mono (hS m)
 | .ag cs,v,ho,h=>by rw[bf] at h;rw[vr] at h ⊢;rw[gL] at ho;obtain⟨vs,U,K⟩:=h;exact⟨vs,U,tB hg hS ho K⟩
 | .tu cs,v,ho,h=>by rw[bf] at h;rw[vr] at h ⊢;rw[gL] at ho;obtain⟨vs,U,K⟩:=h;exact⟨vs,U,tB hg hS ho K⟩
 | .ref r p,v,ho,h=>by
  rw[gL] at ho;obtain⟨j,hj⟩:=Option.isSome_iff_exists.1 ho;simp only[bf,hj] at h;rw[vr] at h ⊢;rw[hg r j hj];exact h
 | .vs r p a b,v,ho,h=>by
  rw[gL] at ho;obtain⟨j,hj⟩:=Option.isSome_iff_exists.1 ho;simp only[bf,hj] at h;rw[vr] at h ⊢;rw[hg r j hj];exact h
 | .pb r c,v,ho,h=>by
  rw[gL] at ho;obtain⟨j,hj⟩:=Option.isSome_iff_exists.1 ho;simp only[bf,hj] at h;rw[vr] at h ⊢;rw[hg r j hj];exact h
 | .pe r p i c,v,ho,h=>by
  rw[gL] at ho;obtain⟨j,hj⟩:=Option.isSome_iff_exists.1 ho;simp only[bf,hj] at h;rw[vr] at h ⊢;rw[hg r j hj];exact h
 | .pf m xs,v,ho,h=>by
  rw[bf] at h;rw[vr] at h ⊢;obtain⟨b,o,cs,U,K,h3,h4,h5⟩:=h;exact⟨b,o,cs,U,hS m b K,h3,h4,h5.mono (hS m)⟩
 | .fn f cs,v,ho,h=>by rw[bf] at h;rw[vr] at h ⊢;rw[gL] at ho;obtain⟨vs,U,K⟩:=h;exact⟨vs,U,tB hg hS ho K⟩
 | .nl _,v,ho,h=>by rw[bf] at h;rw[vr] at h ⊢;exact h
 | .u,v,ho,h=>by rw[vr];trivial
theorem tB (hg:∀ i j,aW l i=some j->g1 i=g2 j)(hS:∀ m b,S2 m b->S1 m b):∀ {xs:List X} {vs:List Value},gU l z xs=true->aU S2 w g2 (jx l xs) vs->aU S1 w g1 xs vs
 | [],vs,ho,h=>by rw[jx] at h;rw[aU] at h ⊢;exact h
 | x::xs,vs,ho,h=>by
  rw[gU,Afz] at ho;rw[jx] at h;rw[aU] at h ⊢;obtain⟨v,r,U,K,h3⟩:=h;exact⟨v,r,U,Ud hg hS ho.1 K,tB hg hS ho.2 h3⟩
end
end
theorem Vr {g1 g2:Nat->G}{l:List (Nat×Nat)}{hs:List (Nat×Nat×Nat)}{gs:List (List GC)}(h:bp g1 hs gs)(ho:(hs.all λp=>(aW l p.2.2).isSome)=true)(hg:∀ i j,aW l i=some j->dh (g1 i) (g2 j)):bp g2 (hs.map λp=>(p.1,p.2.1,(aW l p.2.2).getD 0)) gs:=by
 intro p hp gc hgc;obtain⟨q,hq,rfl⟩:=List.mem_map.1 hp;obtain⟨j,hj⟩:=Option.isSome_iff_exists.1 (List.all_eq_true.1 ho q hq);simp only[hj,Cbz];exact (h q hq gc hgc).adv (hg _ _ hj)
theorem Yd {g1 g2:Nat->G}{l:List (Nat×Nat)}{hs:List (Nat×Nat×Nat)}{gs:List (List GC)}(h:bp g2 (hs.map λp=>(p.1,p.2.1,(aW l p.2.2).getD 0)) gs)(ho:(hs.all λp=>(aW l p.2.2).isSome)=true)(hg:∀ i j,aW l i=some j->g1 i=g2 j):bp g1 hs gs:=by
 intro q hq gc hgc;obtain⟨j,hj⟩:=Option.isSome_iff_exists.1 (List.all_eq_true.1 ho q hq);have:=h _ (List.mem_map.2 ⟨q,hq,rfl⟩) gc hgc;simp only[hj,Cbz] at this;rw[hg _ _ hj];exact this
mutual
inductive dZ (σ:Nat->aA) (l:List (Nat×Nat)) (vw:List Nat):X->X->Prop
 | same {m:Md} {x:D}:dZ σ l vw (.d m x) (.d m x)
 | d {m m' : Md} {x:D} (h:gl m m'=true):dZ σ l vw (.d m x) (.d m' x)
 | ag {cs cs' : List X} (h:cC σ l vw cs cs'):dZ σ l vw (.ag cs) (.ag cs')
 | pb {r i c:Nat} (h:aW l i=some r):dZ σ l vw (.pb r c) (.pb i c)
 | ref {r i:Nat} {p:Option (Nat×Nat)} (h:aW l i=some r):dZ σ l vw (.ref r p) (.ref i p)
 | rd {r k:Nat} {p:Option (Nat×Nat)} {m:Md} {ys:List D} (h:ij (σ r) p=some (m,k,ys)) (hc:vw.contains r=true):dZ σ l vw (.ref r p) (.d .bo (.sl k ys))
 | vd {r k a b:Nat} {p:Option (Nat×Nat)} {m:Md} {zs:List D} (h:ij (σ r) p=some (m,k,zs)) (hc:vw.contains r=true):dZ σ l vw (.vs r p a b) (.d .bo (.sl k ((zs.drop a).take b)))
 | dd {r k:Nat} {m:Md} {ds:List D} {qs:List Nat} (h:cG σ r m k ds qs) (hc:qs.all (vw.contains ·)=true):dZ σ l vw (.ref r none) (.d .bo (.sl k ds))
 | nld {k k' : Nat} {m:Md}:dZ σ l vw (.nl k) (.d m (.sl k' []))
 | nl {k k' : Nat}:dZ σ l vw (.nl k) (.nl k')
 | fn {f:Nat} {cs cs' : List X} (h:cC σ l vw cs cs'):dZ σ l vw (.fn f cs) (.fn f cs')
 | pf {m m' : Md} {ds:List D} (h:gl m m'=true):dZ σ l vw (.pf m ds) (.pf m' ds)
 | u {x:X}:dZ σ l vw x .u
inductive cC (σ:Nat->aA) (l:List (Nat×Nat)) (vw:List Nat):List X->List X->Prop
 | nil:cC σ l vw [] []
 | cons {x y:X} {xs ys:List X} (h:dZ σ l vw x y) (K:cC σ l vw xs ys):cC σ l vw (x::xs) (y::ys)
end
section
variable {S:Start}{F Bc:Nat->Prop}{g g1:Nat->G}{σ1:Nat->aA}{w:World}{l:List (Nat×Nat)}{vw:List Nat}
mutual
theorem Uc (hs:bu S F g σ1 w)(hg:∀ i j,aW l i=some j->g1 i=g j)(hB:∀ b,S.B b->Bc b)(hvw:∀ r b,vw.contains r=true->b∈bl (g r)->Bc b):∀ {x y:X},dZ σ1 l vw x y->∀ {v:Value},vr (SM F S.B) w g x v->vr (SM F Bc) w g1 y v
 | _,_,.d (m:=m) (m':=m') hm,v,h=>by
  rw[vr] at h ⊢;refine (h.mono (pd hm)).mono λb Y=>?_;cases m' with
  | fz=>exact Y
  | bo=>exact Y.imp id (hB b)
 | _,_,.same (m:=m),v,h=>by
  rw[vr] at h ⊢;refine h.mono λb Y=>?_;cases m with
  | fz=>exact Y
  | bo=>exact Y.imp id (hB b)
 | _,_,.ag hp,v,h=>by rw[vr] at h ⊢;obtain⟨vs,U,K⟩:=h;exact⟨vs,U,Be hs hg hB hvw hp K⟩
 | _,_,.pb (r:=r) (i:=i) U,v,h=>by
  rw[vr] at h ⊢;rw[hg i r U];exact h
 | _,_,.ref (r:=r) (i:=i) U,v,h=>by
  rw[vr] at h ⊢;rw[hg i r U];exact h
 | _,_,.rd (r:=r) (k:=k) (p:=p) (m:=m) (ys:=ys) hrow hc,v,h=>by
  obtain⟨A,cp,cs,U,K,h3,h4,h5⟩:=AG hs (x:=.ref r p) (by rw[cU];exact hrow) h;show rdC _ _ _ _;rw[rdC];refine⟨A,cp,cs,U,K,h3,h4.mono λb Y=>?_,h5.imp id λ⟨b,o,e1,e2,e3,e4⟩=>⟨b,o,e1,?_,e3,e2⟩⟩;cases m with
  | fz=>exact .inl Y
  | bo=>exact Y.imp id (hB b)
  rcases e4 with e4|⟨r',e5,e6⟩
  cases m with
  | fz=>exact .inl e4
  | bo=>exact e4.imp id (hB b)
  simp only[dr,Bpz] at e5;subst e5;exact .inr (hvw _ b hc e6)
 | _,_,.vd (r:=r) (k:=k) (a:=a) (b:=c) (p:=p) (m:=m) (zs:=zs) hrow hc,v,h=>by
  obtain⟨A,cp,cs,U,K,h3,h4,h5⟩:=AG hs (x:=.vs r p a c) (m:=m) (k:=k) (ys:=(zs.drop a).take c) (by rw[cU,hrow];rfl) h;show rdC _ _ _ _;rw[rdC];refine⟨A,cp,cs,U,K,h3,h4.mono λb Y=>?_,h5.imp id λ⟨b,o,e1,e2,e3,e4⟩=>⟨b,o,e1,?_,e3,e2⟩⟩;cases m with
  | fz=>exact .inl Y
  | bo=>exact Y.imp id (hB b)
  rcases e4 with e4|⟨r',e5,e6⟩
  cases m with
  | fz=>exact .inl e4
  | bo=>exact e4.imp id (hB b)
  simp only[dr,Bpz] at e5;subst e5;exact .inr (hvw _ b hc e6)
 | _,_,.dd (r:=r) (m:=m) (qs:=qs) h hc,v,hv=>by
  obtain⟨u,L,gs,cs,hg',U,K,h3⟩:=A4 hs h;rw[vr,hg'] at hv;have hv:=hv _ _ rfl;subst hv;have hq:∀ q∈qs,vw.contains q=true:=List.all_eq_true.1 hc;rw[vr];refine AZ U (K.mono λb Y=>?_) λb Y=>.inr (hvw r b (hq r h.mem) (h3 b Y));rcases Y with Y|⟨q,hq',Y⟩
  cases m with
  | fz=>exact .inl Y
  | bo=>exact Y.imp id (hB b)
  exact .inr (hvw q b (hq q hq') Y)
 | _,_,.nld,v,h=>by
  have h:v=.slice none 0 0:=by rw[vr] at h;exact h
  show rdC _ _ (.sl _ []) v;rw[rdC];exact⟨none,0,[],h,Nat.le_refl _,Nat.zero_le _,by rw[bk],.inl rfl⟩
 | _,_,.nl,v,h=>by
  have h:v=.slice none 0 0:=by rw[vr] at h;exact h
  rw[vr];exact h
 | _,_,.fn hp,v,h=>by rw[vr] at h ⊢;obtain⟨vs,U,K⟩:=h;exact⟨vs,U,Be hs hg hB hvw hp K⟩
 | _,_,.pf (m:=m) (m':=m') hm,v,h=>by
  rw[vr] at h ⊢;obtain⟨b,o,cs,U,K,h3,h4,h5⟩:=h;have up:∀ b,SM F S.B m b->SM F Bc m' b:=λb Y=>by
   have:=pd hm b Y;cases m' with
   | fz=>exact this
   | bo=>exact this.imp id (hB b)
  exact⟨b,o,cs,U,up b K,h3,h4,h5.mono up⟩
 | _,_,.u,v,_=>by rw[vr];trivial
theorem Be (hs:bu S F g σ1 w)(hg:∀ i j,aW l i=some j->g1 i=g j)(hB:∀ b,S.B b->Bc b)(hvw:∀ r b,vw.contains r=true->b∈bl (g r)->Bc b):∀ {xs ys:List X},cC σ1 l vw xs ys->∀ {vs:List Value},aU (SM F S.B) w g xs vs->aU (SM F Bc) w g1 ys vs
 | _,_,.nil,vs,h=>by rw[aU] at h ⊢;exact h
 | _,_,.cons hp hp2,vs,h=>by
  rw[aU] at h ⊢;obtain⟨v,r,U,K,h3⟩:=h;exact⟨v,r,U,Uc hs hg hB hvw hp K,Be hs hg hB hvw hp2 h3⟩
end
mutual
theorem Yc {σ2:Nat->aA}{rd:List Nat}(hc:∀ r∈rd,σ1 r=σ2 r)(hv:∀ r,vw.contains r=true->r∈rd):∀ {x y:X},dZ σ2 l vw x y->dZ σ1 l vw x y
 | _,_,.same=>.same
 | _,_,.d hm=>.d hm
 | _,_,.ag hp=>.ag (yu hc hv hp)
 | _,_,.pb h=>.pb h
 | _,_,.ref h=>.ref h
 | _,_,.rd h K=>.rd (by rw[hc _ (hv _ K)];exact h) K
 | _,_,.vd h K=>.vd (by rw[hc _ (hv _ K)];exact h) K
 | _,_,.dd h K=>.dd (h.congr λq hq=>hc q (hv q (List.all_eq_true.1 K q hq))) K
 | _,_,.nld=>.nld
 | _,_,.nl=>.nl
 | _,_,.fn hp=>.fn (yu hc hv hp)
 | _,_,.pf hm=>.pf hm
 | _,_,.u=>.u
theorem yu {σ2:Nat->aA}{rd:List Nat}(hc:∀ r∈rd,σ1 r=σ2 r)(hv:∀ r,vw.contains r=true->r∈rd):∀ {xs ys:List X},cC σ2 l vw xs ys->cC σ1 l vw xs ys
 | _,_,.nil=>.nil
 | _,_,.cons h K=>.cons (Yc hc hv h) (yu hc hv K)
end
end
def kf (p:Nat->aA->Bool):Nat->St->Bool
 | _,[]=>true
 | i,x::l=>p i x&&kf p (i+1) l
def isNone:aA->Bool
 | .none=>true
 | _=>false
def cR (σ pre:Nat->aA)(l0:List (Nat×Nat)):List (Nat×Nat)->Prop
 | []=>True
 | (i,j)::l=>σ j=je l0 (pre i)/\cR σ pre l0 l
def kp:List Nat->Bool
 | []=>true
 | x::l=>!l.contains x&&kp l
theorem qc:∀ {l:List Nat},kp l=true->l.Nodup
 | [],_=>Caz
 | x::l,h=>by
  simp only[kp,Afz,Bdz] at h;rw[Bzz];exact⟨λhm=>by simp[hm] at h,qc h.2⟩
def mL (ren:List (Nat×Nat))(vw:List Nat)(pre post:St)(res:X):Bool:=
 kp (ren.map (·.1))&&kp (ren.map (·.2))&&vw.all (λr=>!(ren.map (·.2)).contains r) &&
 kf (λi x=>isNone x||((aW ren i).isSome&&oP ren false x)) 0 pre &&
 kf (λi x=>isNone x||((aW ren i).isSome&&oP ren (!vw.isEmpty) x)) 0 post&&gL ren (!vw.isEmpty) res
def fD (ren:List (Nat×Nat))(x:aA):aA:=match x with
 | .none=>.dead
 | x=>je ren x
theorem Bd {p:Nat->aA->Bool}:∀ {l:St} {k i:Nat},kf p k l=true->(isNone (ak l i)=true∨p (k+i) (ak l i)=true)
 | [],k,i,_=>.inl (by rw[mU];rfl)
 | x::l,k,0,h=>by simp only[kf,Afz] at h;exact .inr h.1
 | x::l,k,i+1,h=>by
  simp only[kf,Afz] at h;have:=Bd (i:=i) h.2;rwa[show k+1+i=k+(i+1) by omega] at this
theorem MI {x:aA}(h:isNone x=true):x=.none:=by cases x<;>first|rfl|cases h
theorem KR:∀ {l:St} {i:Nat},l.length<=i->ak l i=.none
 | [],i,_=>mU i
 | x::l,0,h=>by simp at h
 | x::l,i+1,h=>by simp only[ak];exact KR (by simpa using h)
theorem cR.get {σ pre:Nat->aA}{l0:List (Nat×Nat)}:∀ {l:List (Nat×Nat)} {i j:Nat},cR σ pre l0 l->aW l i=some j->σ j=je l0 (pre i)
 | [],i,j,_,h=>by simp[aW] at h
 | (a,b)::l,i,j,hp,h=>by
  simp only[aW] at h;cases Y:Aaz a i with
  | true=>rw[Y] at h;simp at h;subst h;have:=Abz Y;subst this;exact hp.1
  | false=>rw[Y] at h;simp at h;exact hp.2.get h
theorem Bb:∀ {l:List (Nat×Nat)} {i j:Nat},aW l i=some j->(i,j)∈l
 | [],i,j,h=>by simp[aW] at h
 | (a,b)::l,i,j,h=>by
  simp only[aW] at h;cases Y:Aaz a i with
  | true=>rw[Y] at h;simp at h;subst h;have:=Abz Y;subst this;simp
  | false=>rw[Y] at h;simp at h;exact List.mem_cons_of_mem _ (Bb h)
theorem EI {h:Nat->aA}:∀ (l:List (Nat×Nat)) (σ:Nat->aA) (j:Nat),(l.map (·.2)).Nodup->cq σ (l.map λp=>(p.2,h p.1)) j=match cQ l j with|some i=>h i|none=>σ j
 | [],σ,j,_=>rfl
 | (a,b)::l,σ,j,hn=>by
  simp only[Blz,Bzz] at hn;rw[Blz,cq,EI l _ j hn.2];simp only[cQ];cases Y:Aaz b j with
  | true=>
   have:=Abz Y;subst this;have hi:cQ l b=none:=by
    cases hi:cQ l b with
    | none=>rfl
    | some i=>
     exfalso;apply hn.1;clear hn Y
     induction l with
     | nil=>simp[cQ] at hi
     | cons p l ih=>
      simp only[cQ] at hi;cases Y:Aaz p.2 b with
      | true=>have:=Abz Y;simp[this]
      | false=>rw[Y] at hi;simp at hi;have:=ih hi;simp;right;simpa using this
   rw[hi];simp
  | false=>
   have hne:j≠b:=λe=>by subst e;simp at Y
   simp only[cond_false];cases cQ l j with
   | some i=>rfl
   | none=>simp[hne]
theorem M8 {S1 S2:Md->Nat->Prop}{w:World}{m:Md}{xs:List D}{v:Value}{k:Nat}{L:List Nat}{gs:List (List GC)}(h:rowOk S1 w (xs.map (bT m)) v k L gs)(hm:∀ b,S1 m b->S2 m b):rowOk S2 w (xs.map (bT m)) v k L gs:=by
 have cells:∀ (ds:List D) (ge:List GC),aS (aT S1 w) (ds.map (Cell.d m)) ge->aS (aT S2 w) (ds.map (Cell.d m)) ge:=by
  intro ds
  induction ds with
  | nil=>exact λ_ h=>h
  | cons d ds ih=>exact λge ⟨gc,r,U,K,h3⟩=>⟨gc,r,U,⟨K.1,K.2.1,K.2.2.mono hm⟩,ih r h3⟩
 refine⟨h.1,?_⟩;have:=h.2;clear h
 induction xs generalizing gs with
 | nil=>exact this
 | cons x xs ih=>
  obtain⟨ge,r,U,K,h3⟩:=this;exact⟨ge,r,U,⟨K.1,cells _ _ K.2⟩,ih h3⟩
theorem mT {S1 S2:Md->Nat->Prop}{w:World}{es:List (List Cell)}{v:Value}{k:Nat}{L:List Nat}{gs:List (List GC)}(h:rowOk S1 w es v k L gs)(hm:∀ m b,S1 m b->S2 m b):rowOk S2 w es v k L gs:=
 h.keep (λm b o cs Y hl ha=>⟨hm m b Y,hl,ha⟩) λ_ _=>rfl
section
variable {P:Program}{S:Start}{n:Nat}{ρ:AE}{σ:St}{o:Oper}
theorem wc {f:Nat}{c:Call}{x:Operand}{caps axs args:List X}{pre post:St}{res:X}(ren:List (Nat×Nat))(vw:List Nat)(ho:o.op=.call c)(hc:c.callee=.value x)(hx:aH ρ x=.fn f caps)(hcb:iJ P f=true)(ha:c.args.toList.map (aH ρ)++caps=axs)
  (ok:Ok P f args pre res post) (hp:cC (ak σ) ren vw axs args) (hpre:cR (ak σ) (ak pre) ren ren) (hchk:mL ren vw pre post res=true) :
  LT P S o ρ σ vw (bf ren res) (ren.map λp=>(p.2,fD ren (ak post p.1))):=by
 intro σ1 F g w ρc hs hrd hwr hv;simp only[mL,Afz] at hchk;obtain⟨⟨⟨⟨⟨hn1,hn2⟩,hvd⟩,hck1⟩,hck2⟩,hck3⟩:=hchk;have hn1:=qc hn1;have hn2:=qc hn2;have hσ:∀ i j,aW ren i=some j->σ1 j=je ren (ak pre i):=λi j hij=>by
  rw[hwr (j,fD ren (ak post i)) (List.mem_map.2 ⟨(i,j),Bb hij,rfl⟩)];exact hpre.get hij
 let gc:Nat->G:=λi=>match aW ren i with|some j=>g j|none=>.none
 let Bc:Nat->Prop:=λb=>S.B b∨∃ r,vw.contains r=true/\b∈bl (g r);have hgc:∀ i j,aW ren i=some j->gc i=g j:=λi j h=>by simp only[gc,h]
 have hgcn:∀ i,aW ren i=none->gc i=.none:=λi h=>by simp only[gc,h]
 have inj:∀ i i' j,aW ren i=some j->aW ren i'=some j->i=i':=λi i' j h h'=>Option.some.inj ((rr hn2 h hn1).symm.trans (rr hn2 h' hn1));have mem2:∀ i j,aW ren i=some j->j∈ren.map (·.2):=λi j h=>List.mem_map.2 ⟨(i,j),Bb h,rfl⟩;have vwne:∀ r i j,vw.contains r=true->aW ren i=some j->j≠r:=λr i j Z hij e=>by
  have:=List.all_eq_true.1 hvd r (by simpa using Z);rw[← e] at this;simp only[Bdz,List.contains_eq_mem,decide_eq_false_iff_not] at this;exact this (mem2 i j hij)
 have blc:∀ i b,b∈bl (gc i)->∃ j,aW ren i=some j/\b∈bl (g j):=λi b Y=>by
  cases hi:aW ren i with
  | none=>rw[hgcn i hi] at Y;cases Y
  | some j=>rw[hgc i j hi] at Y;exact⟨j,rfl,Y⟩
 have hBlt:∀ b,Bc b->b<w.heap.size/\¬ ∃ i,b∈bl (gc i):=λb Y=>by
  rcases Y with Y|⟨r,Z,Y⟩
  refine⟨Nat.lt_of_lt_of_le (hs.bB b Y).1 hs.chg.size,λ⟨i,hi⟩=>?_⟩;obtain⟨j,_,hj⟩:=blc i b hi;exact (hs.own j b hj).2.2.1 Y;refine⟨(hs.own r b Y).1,λ⟨i,hi⟩=>?_⟩;obtain⟨j,hij,hj⟩:=blc i b hi;exact hs.disj j r (vwne r i j Z hij) b hj Y
 have hsub:∀ m b,SM F S.B m b->SM F Bc m b:=λm b Y=>by
  cases m with
  | fz=>exact Y
  | bo=>exact Y.imp id .inl
 have hstart:bu (oX w F Bc gc pre.length) F gc (ak pre) w:=by
  refine⟨cJ.refl w,hBlt,λb Y=>Y,λb Y=>.inl Y,hs.flt,λi=>?_,λi hi=>?_,λi=>?_,λi=>?_,λi i' hne b Y hb'=>?_,λi b Y=>?_⟩;cases hi:aW ren i with
  | none=>
   rw[hgcn i hi];have hpi:ak pre i=.none:=by
    rcases Bd (i:=i) hck1 with h|h;exact MI h;rw[Adz,hi] at h;simp at h;exact MI h
   rw[hpi];trivial
  | some j=>
   rw[hgc i j hi];have Z:=hs.roots j;rw[hσ i j hi] at Z;have hok:isNone (ak pre i)=true∨oP ren false (ak pre i)=true:=by
    rcases Bd (i:=i) hck1 with h|h;exact .inl h;simp only[Bool.or_eq_true,Afz] at h;exact h.imp id (·.2)
   revert Z hok;cases ak pre i<;>intro Z hok<;>cases hg:g j<;>rw[hg] at Z<;>try exact Z.elim
   trivial;trivial;obtain⟨vs,U,K⟩:=Z;refine⟨vs,U,tB (S2:=SM F S.B) (g2:=g) (z:=false) hgc hsub ?_ K⟩;rcases hok with hok|hok;cases hok;exact hok;exact⟨Z.1,mT Z.2 hsub⟩;rename_i m k es hh v k' L gs;refine⟨⟨Z.1.1,mT Z.1.2 hsub⟩,?_,Z.2.2⟩;rcases hok with hok|hok;cases hok;simp only[oP,Afz] at hok;exact Yd Z.2.1 hok.2 hgc
  show gc i=.none;cases hi' : aW ren i with
  | none=>exact hgcn i hi'
  | some j=>
   rw[hgc i j hi'];refine EK hs ?_;rw[hσ i j hi',KR hi];rfl
  show pk (gc i) (gc i);cases gc i with
  | none=>trivial
  | dead=>rfl
  | box b T=>exact .inl rfl
  | row v k L gs=>exact .inr ⟨L,gs,rfl⟩
  cases hi:aW ren i with
  | none=>rw[hgcn i hi];exact Caz
  | some j=>rw[hgc i j hi];exact hs.nodup j
  obtain⟨j,hj,hbj⟩:=blc i b Y;obtain⟨j',hj',hbj'⟩:=blc i' b hb';exact hs.disj j j' (λe=>hne (inj i i' j hj (e▸hj'))) b hbj hbj';obtain⟨j,hj,hbj⟩:=blc i b Y;refine⟨(hs.own j b hbj).1,(hs.own j b hbj).2.1,λhB=>(hBlt b hB).2 ⟨i,Y⟩,.inl ⟨i,Y⟩⟩
 -- the arguments
 have hxv:=hv x (by simp[ho,Op.operands,Call.operands,hc]);rw[hx,vr] at hxv;obtain⟨cvs,hfn,hcaps⟩:=hxv;have hargs:aU (SM F S.B) w g axs (c.args.toList.map (E.ev ρc)++cvs):=by
  rw[← ha];refine aU.append (BH λy hy=>hv y ?_) hcaps;simp only[ho,Op.operands,Call.operands,hc];simp only[Array.mem_append];exact .inr (by simpa using hy)
 have hp1:cC σ1 ren vw axs args:=yu (rd:=vw) (λr Z=>hrd r Z) (λr Z=>by simpa using Z) hp;have hvs:=Be (Bc:=Bc) hs hgc (λb Y=>.inl Y) (λr b Z Y=>.inr ⟨r,Z,Y⟩) hp1 hargs;have hret:=ok F Bc gc w _ hstart hvs;have he:(execOp (E.ev ρc) o).run P w=.ok (.enter f (c.args.toList.map (E.ev ρc)++cvs).toArray) w:=by
  simp only[execOp,ho];exact Fq hc hfn hcb (by simp)
 rw[he];refine Calls.mono hret λe w' ⟨v,hev,hchg,F',gc',hs',hres⟩=>⟨v,hev,?_⟩
 let g' : Nat->G:=λj=>match cQ ren j with|some i=>(match gc' i with|.none=>.dead|y=>y)|none=>g j
 have hg'1:∀ i j,aW ren i=some j->g' j=(match gc' i with|.none=>.dead|y=>y):=λi j h=>by simp only[g',rr hn2 h hn1]
 have hg'2:∀ j,cQ ren j=none->g' j=g j:=λj h=>by simp only[g',h]
 have hadv:∀ i j,aW ren i=some j->dh (gc' i) (g' j):=λi j h=>by
  rw[hg'1 i j h];cases gc' i<;>first|trivial|exact dh.refl _
 have blg:∀ i j,aW ren i=some j->bl (g' j)=bl (gc' i):=λi j h=>by
  rw[hg'1 i j h];cases gc' i<;>rfl
 have hz:(!vw.isEmpty)=false->∀ b,SM F' Bc .bo b->SM F' S.B .bo b:=λhz b Y=>by
  have:vw=[]:=by simpa using hz
  subst this;rcases Y with Y|Y|⟨r,Z,_⟩
  exact .inl Y;exact .inr Y;simp at Z
 have hck2' : ∀ i,isNone (ak post i)=true∨((aW ren i).isSome=true/\oP ren (!vw.isEmpty) (ak post i)=true):=λi=>by
  rcases Bd (i:=i) hck2 with h|h;exact .inl h;simp only[Bool.or_eq_true,Afz,Adz] at h;exact h.imp id λh=>⟨h.1,h.2⟩
 obtain⟨U,K⟩:=hs.step (g':=g') (σ':=cq σ1 (ren.map λp=>(p.2,fD ren (ak post p.1)))) (F':=F') (w':=w') (λj=>∃ i,aW ren i=some j) hchg
  (λb Y _=>by
   obtain⟨i,hi⟩:=Y;obtain⟨j,hj,hbj⟩:=blc i b hi;exact⟨j,⟨i,hj⟩,hbj⟩)
  (λj hj=>by
   have hinv:cQ ren j=none:=by
    cases hi:cQ ren j with
    | none=>rfl
    | some i=>exact absurd ⟨i,Fh hi hn1⟩ hj
   refine⟨hg'2 j hinv,?_⟩;rw[EI (h:=λi=>fD ren (ak post i)) ren σ1 j hn2,hinv])
  (λj ⟨i,hij⟩=>by
   rw[← hgc i j hij,hg'1 i j hij];have hh:=hs'.hdr i;have hroot:=hs'.roots i;have hsim:=hck2' i;simp only[oX] at hh;cases hg0:gc i with
   | none=>trivial
   | dead=>rw[hg0] at hh;rw[show gc' i=.dead from hh];rfl
   | box b T=>
    rw[hg0] at hh;rcases hh with hh|hh<;>rw[hh];exact .inl rfl;exact .inr rfl
   | row v0 k L gs=>
    rw[hg0] at hh;rcases hh with hh|⟨L',gs',hh⟩<;>rw[hh];exact .inl rfl;exact .inr ⟨L',gs',rfl⟩)
  (λb Y=>hs'.fmono b Y)
  (λb Y=>⟨hs'.flt b Y,by
   rcases hs'.fnew b Y with h|h|h;exact .inl h;obtain⟨i,hi⟩:=h;obtain⟨j,hj,hbj⟩:=blc i b hi;exact .inr (.inr ⟨j,⟨i,hj⟩,hbj⟩);exact .inr (.inl h)⟩)
  (λ_ _ j ⟨i,hij⟩=>by
   rw[EI (h:=λi=>fD ren (ak post i)) ren σ1 j hn2,rr hn2 hij hn1,hg'1 i j hij];have hroot:=hs'.roots i;have hsim:=hck2' i;simp only;cases hpo:ak post i<;>rw[hpo] at hroot hsim<;>cases hgi:gc' i<;>rw[hgi] at hroot<;>try exact hroot.elim
   trivial;trivial;obtain⟨vs,k1,k2⟩:=hroot;refine⟨vs,k1,wI (S1:=SM F' Bc) (S2:=SM F' S.B) (g1:=gc') (z:=!vw.isEmpty) hadv (λ_ h=>h) hz ?_ k2⟩;rcases hsim with hsim|hsim;cases hsim;exact hsim.2;rename_i m k xs _ _ _ _;refine⟨hroot.1,M8 (m:=m) (xs:=xs) hroot.2 λb Y=>?_⟩;cases m with
   | fz=>exact Y
   | bo=>
    rcases hsim with hsim|hsim;cases hsim;simp only[oP] at hsim;exact hz (by
     cases hv0:(!vw.isEmpty) with
     | false=>rfl
     | true=>rw[hv0] at hsim;exact absurd hsim.2 (by simp[oP,gW])) b Y
   rename_i m k es hh v k' L gs;rcases hsim with hsim|hsim;cases hsim;simp only[oP,Afz] at hsim;obtain⟨_,hsim,hho⟩:=hsim;refine⟨⟨hroot.1.1,?_⟩,Vr hroot.2.1 hho hadv,hroot.2.2⟩;cases hv0:(!vw.isEmpty) with
   | false=>
    have h0:=hz hv0;exact mT hroot.1.2 λm b Y=>by
     cases m with
     | fz=>exact Y
     | bo=>exact h0 b Y
   | true=>
    have hm:m=.fz:=by
     rw[hv0] at hsim;cases m;rfl;simp[gW] at hsim
    exact hroot.1.2.fz (hroot.2.2 hm) λb Y=>Y)
  (λj ⟨i,hij⟩=>by rw[blg i j hij];exact hs'.nodup i)
  (λj j' ⟨i,hij⟩ ⟨i',hij'⟩ hne b Y=>by
   rw[blg i j hij] at Y;rw[blg i' j' hij'];exact hs'.disj i i' (λe=>by subst e;rw[hij] at hij';exact hne (Option.some.inj hij')) b Y)
  (λj b ⟨i,hij⟩ Y=>by
   rw[blg i j hij] at Y;obtain⟨k1,k2,k3,k4⟩:=hs'.own i b Y;refine⟨k1,k2,?_⟩;rcases k4 with k4|k4;obtain⟨i',hi'⟩:=k4;obtain⟨j',hj',hbj⟩:=blc i' b hi';exact .inr ⟨j',⟨i',hj'⟩,hbj⟩;exact .inl k4)
 exact⟨F',g',U,K,IG (S1:=SM F' Bc) (S2:=SM F' S.B) (g1:=gc') (z:=!vw.isEmpty) hadv (λ_ h=>h) hz hck3 hres⟩
end
def ofX:List (Nat×X)->AE
 | []=>λ_=>.u
 | (t,x)::l=>aw (ofX l) t x
mutual
inductive Wk:X->X->Prop
 | rfl {x:X}:Wk x x
 | u {x:X}:Wk .u x
 | nld {k k' : Nat} {m:Md}:Wk (.d m (.sl k [])) (.nl k')
 | nl {k k' : Nat}:Wk (.nl k) (.nl k')
 | bo {x:D}:Wk (.d .bo x) (.d .fz x)
 | md {m m' : Md} {x:D} (h:gl m m'=true):Wk (.d m' x) (.d m x)
 | ag {cs cs' : List X} (h:kg cs cs'):Wk (.ag cs) (.ag cs')
 | tu {cs cs' : List X} (h:kg cs cs'):Wk (.tu cs) (.tu cs')
inductive kg:List X->List X->Prop
 | nil:kg [] []
 | cons {x y:X} {xs ys:List X} (h:Wk x y) (K:kg xs ys):kg (x::xs) (y::ys)
end
theorem Wk.of {x y:X}(h:x=y):Wk x y:=h ▸ .rfl
theorem Wk.vn {r lo n n' : Nat}{l:Option (Nat×Nat)}(h:n=n'):Wk (.vs r l lo n) (.vs r l lo n'):=h ▸ .rfl
def rf (ρ:AE):List (Nat×X)->Prop
 | []=>True
 | (t,x)::l=>Wk x (ρ t)/\rf ρ l
section
variable {S:Start}{F:Nat->Prop}{g:Nat->G}{w:World}{σ:St}{ρ:AE}
mutual
theorem Wk.vr {B:Nat->Prop}:∀ {x y:X},Wk x y->∀ {v:Value},vr (SM F B) w g y v->vr (SM F B) w g x v
 | _,_,.rfl,_,h=>h
 | _,_,.u,_,h=>by rw[Go.A.vr];trivial
 | _,_,.nld,v,h=>by
  have h:v=.slice none 0 0:=by rw[Go.A.vr] at h;exact h
  show rdC _ _ (.sl _ []) v;rw[rdC];exact⟨none,0,[],h,Nat.le_refl _,Nat.zero_le _,by rw[bk],.inl rfl⟩
 | _,_,.nl,v,h=>by
  have h:v=.slice none 0 0:=by rw[Go.A.vr] at h;exact h
  rw[Go.A.vr];exact h
 | _,_,.bo,v,h=>by rw[Go.A.vr] at h ⊢;exact h.mono λb Y=>.inl Y
 | _,_,.md hm,v,h=>by rw[Go.A.vr] at h ⊢;exact h.mono (pd hm)
 | _,_,.ag hs,v,h=>by rw[Go.A.vr] at h ⊢;obtain⟨vs,h3,h4⟩:=h;exact⟨vs,h3,kg.vr hs h4⟩
 | _,_,.tu hs,v,h=>by rw[Go.A.vr] at h ⊢;obtain⟨vs,h3,h4⟩:=h;exact⟨vs,h3,kg.vr hs h4⟩
theorem kg.vr {B:Nat->Prop}:∀ {xs ys:List X},kg xs ys->∀ {vs:List Value},aU (SM F B) w g ys vs->aU (SM F B) w g xs vs
 | _,_,.nil,_,h=>h
 | _,_,.cons U K,vs,h=>by
  rw[aU] at h ⊢;obtain⟨v,r',h4,h5,h6⟩:=h;exact⟨v,r',h4,Wk.vr U h5,kg.vr K h6⟩
end
theorem VR.ofX {ρc:Env}(h:VR S F g w ρ ρc):∀ {L:List (Nat×X)},rf ρ L->VR S F g w (ofX L) ρc
 | [],_=>λt=>by simp only[Go.A.ofX];rw[Go.A.vr];trivial
 | (t,x)::L,hl=>λs=>by
  simp only[Go.A.ofX,aw];cases Y:Aaz s t with
  | true=>have:=Abz Y;subst this;exact hl.1.vr (h _)
  | false=>exact VR.ofX h hl.2 s
theorem RI (L:List (Nat×X))(hL:rf ρ L):GH S ρ σ (ofX L) σ:=λF g w ρc hs hv=>⟨F,g,hs,hv.ofX hL⟩
theorem GH.refl:GH S ρ σ ρ σ:=λF g w ρc hs hv=>⟨F,g,hs,hv⟩
theorem GH.trans {ρ1 ρ2:AE}{σ1 σ2:St}(h:GH S ρ σ ρ1 σ1)(k:GH S ρ1 σ1 ρ2 σ2):GH S ρ σ ρ2 σ2:=λF g w ρc hs hv=>
 let ⟨F',g',U,K⟩:=h F g w ρc hs hv
 k F' g' w ρc U K
end
def jr:List X->AE
 | [],_=>.u
 | x::_,0=>x
 | _::l,t+1=>jr l t
theorem Ke {S1:Md->Nat->Prop}{w:World}{g:Nat->G}:∀ {xs:List X} {vs:List Value} {t:Nat},aU S1 w g xs vs->vr S1 w g (jr xs t) ((vs.toArray:Array Value).getD t undef)
 | [],vs,t,h=>by unfold jr;rw[vr];trivial
 | x::xs,vs,0,h=>by rw[aU] at h;obtain⟨v,r,rfl,U,K⟩:=h;simpa[jr] using U
 | x::xs,vs,t+1,h=>by
  rw[aU] at h;obtain⟨v,r,rfl,U,K⟩:=h;have:=Ke (t:=t) K;simpa[jr] using this
def Ay (P:Program)(ρ:AE)(σ:St):ResultVar->Option X
 | .tmp t=>some (ρ t)
 | .cell a T=>match ρ a with
  | .pb r c=>match ak σ r with
   | .box cs=>match cY P T,cu P T with
    | some true,some k=>if ((cs.drop c).take k).length=k then some (.ag ((cs.drop c).take k)) else none
    | some false,_=>cs[c]?
    | _,_=>none
   | _=>none
  | _=>none
theorem Lu {P:Program}{w:World}{f:ResultVar->Sem Value}:∀ (l:List ResultVar) (vs:List Value),aS (λr v=>(f r).run P w=.ok v w) l vs->(l.mapM f).run P w=.ok vs w
 | [],vs,h=>by rw[show vs=[] from h];simp
 | r::l,_,⟨v,vs,e,U,K⟩=>by
  subst e;have ih:=Lu l vs K;simp[List.mapM_cons,U,ih]
def jd (tmps:Array Value):ResultVar->Sem Value
 | .tmp t=>pure (tmps.getD t undef)
 | .cell a t=>do loadVar t (← asAddr (tmps.getD a undef))
def na:List Value->Value
 | [v]=>v
 | vs=>.tuple vs.toArray
def jM:List X->X
 | [x]=>x
 | xs=>.tu xs
theorem YW {P:Program}{w:World}{fn:Func}{tmps:Array Value}{l:List ResultVar}{vs:List Value}(hl:fn.results=l.toArray)(h:aS (λr v=>(jd tmps r).run P w=.ok v w) l vs) :
  (results fn tmps).run P w=.ok (na vs) w:=by
 have U:=Lu l vs h;have e:results fn tmps=(fn.results.mapM (jd tmps) >>= λvs=>pure (if h:vs.size=1 then vs[0] else .tuple vs)):=by
  unfold results;congr 1
 rw[e,hl];simp only[List.mapM_toArray,map_eq_pure_bind,Sem.run_bind,U,Result.andThen_ok,Sem.run_pure]
 match vs with
 | []=>rfl
 | [v]=>rfl
 | a::b::l=>simp[na]
theorem TJ {S1:Md->Nat->Prop}{w:World}{g:Nat->G}{xs:List X}{vs:List Value}(h:aU S1 w g xs vs):vr S1 w g (jM xs) (na vs):=by
 match xs,h with
 | [],h=>
  rw[aU] at h;subst h;show vr _ _ _ (.tu []) (.tuple _);rw[vr];exact⟨[],rfl,by rw[aU]⟩
 | [x],h=>rw[aU] at h;obtain⟨v,r,rfl,U,K⟩:=h;rw[aU] at K;subst K;exact U
 | x::y::xs,h=>
  have h0:=h;rw[aU] at h;obtain⟨v,r,rfl,U,K⟩:=h;rw[aU] at K;obtain⟨v2,r2,rfl,_,_⟩:=K;show vr _ _ _ (.tu _) (.tuple _);rw[vr];exact⟨_,rfl,h0⟩
def qW (n:Nat):ResultVar->Bool
 | .tmp t=>Nat.blt t n
 | .cell a _=>Nat.blt a n
section
variable {P:Program}{S:Start}{F:Nat->Prop}{g:Nat->G}{w:World}{σ:St}{ρ:AE}
theorem WU {n:Nat}{ρc:Env}(hs:bu S F g (ak σ) w)(hv:VR S F g w ρ ρc){r:ResultVar}(ht:qW n r=true){x:X}(h:Ay P ρ σ r=some x):∃ v,(∀ a:Act,gf n ρc a->(jd a.tmps r).run P w=.ok v w)/\vr (SM F S.B) w g x v:=by
 cases r with
 | tmp t=>
  simp only[Ay] at h;cases h;simp only[qW] at ht;refine⟨ρc t,λa ha=>?_,hv t⟩;simp only[jd,Sem.run_pure];rw[ha.at_ t (by simpa using ht)]
 | cell t T=>
  simp only[Ay] at h;simp only[qW] at ht;split at h;rename_i r c hρ;split at h;rename_i cs hσ;obtain⟨b,T',vs,hg,Y,hcs⟩:=pj hs hσ;have hp:=hv t;rw[hρ,vr,hg] at hp;split at h;rename_i k hagg hk;split at h;rename_i hlen;cases h;have K:=(hcs.drop c).take k;refine⟨.agg ((vs.drop c).take k).toArray,λa ha=>?_,by rw[vr];exact⟨_,rfl,K⟩⟩;have h0:a.tmps.getD t undef=.pointer (some ⟨b,c,none⟩):=(ha.at_ t (by simpa using ht)).trans hp;have hl2:((vs.drop c).take k).length=k:=K.len.trans hlen;have g0:=Go.E.run_loadCellsFrom (P:=P) (w:=w) (b:=b) (off:=c) ((vs.drop c).take k) 0 #[] (Y.part c k);rw[hl2] at g0;simp only[Ajz] at h0;simp[jd,loadVar,loadCells,asAddr,h0,pF hagg,jY hk,g0];cases h;rename_i hagg;obtain⟨v,hv1,hv2⟩:=hcs.get h;refine⟨v,λa ha=>?_,hv2⟩;have h0:a.tmps.getD t undef=.pointer (some ⟨b,c,none⟩):=(ha.at_ t (by simpa using ht)).trans hp;simp only[Ajz] at h0;simp[jd,loadVar,asAddr,h0,pF hagg,load,Sem.run,Y.cell hv1];cases h;cases h;cases h
def nP (P:Program)(ρ:AE)(σ:St):List ResultVar->Option (List X)
 | []=>some []
 | r::l=>match Ay P ρ σ r,nP P ρ σ l with
  | some x,some xs=>some (x::xs)
  | _,_=>none
theorem MH {n:Nat}{ρc:Env}(hs:bu S F g (ak σ) w)(hv:VR S F g w ρ ρc):∀ {l:List ResultVar},l.all (qW n)=true->∀ {xs:List X},nP P ρ σ l=some xs->∃ vs,(∀ a:Act,gf n ρc a->aS (λr v=>(jd a.tmps r).run P w=.ok v w) l vs)/\aU (SM F S.B) w g xs vs
 | [],_,xs,h=>by simp only[nP] at h;cases h;exact⟨[],λ_ _=>rfl,by rw[aU]⟩
 | r::l,ht,xs,h=>by
  simp only[List.all_cons,Afz] at ht;simp only[nP] at h;split at h;rename_i x xs' U K;cases h;obtain⟨v,h3,h4⟩:=WU hs hv ht.1 U;obtain⟨vs,h5,h6⟩:=MH hs hv ht.2 K;exact⟨v::vs,λa ha=>⟨v,vs,rfl,h3 a ha,h5 a ha⟩,by rw[aU];exact⟨v,vs,rfl,h4,h6⟩⟩;cases h
end
def dA (P:Program)(S:Start)(fn:Func)(res:X)(post:St):cW:=λe ρ σ=>(e=.normal∨e=.ret) /\
 ∀ F g w ρc,bu S F g (ak σ) w->VR S F g w ρ ρc->∃ v,(∀ a:Act,gf fn.ntmps ρc a->(results fn a.tmps).run P w=.ok v w)/\∃ F' g',bu S F' g' (ak post) w/\vr (SM F' S.B) w g' res v
theorem Ok.enter {P:Program}{f:Nat}{fn:Func}{c:Code}{args:List X}{pre:St}{res:X}{post:St}{n0:Nat}(hn:pre.length=n0)(hf:P.funcs[f]?=some fn)(Y:fn.body=some c)(hok:hJ fn.ntmps c=true)(hs:Nat.ble args.length fn.ntmps=true)
  (h:∀ S:Start,S.n0=n0->AW P S fn.ntmps c (dA P S fn res post) (jr args) pre):Ok P f args pre res post:=by
 intro F B g w vs hsim hvs;have hlen:=hvs.len;refine Go.E.enter (R:=λv w'=>∃ F' g',bu (oX w F B g pre.length) F' g' (ak post) w'/\vr (SM F' B) w' g' res v) hf Y hok (by simpa[hlen] using hs) ?_;refine (h (oX w F B g pre.length) hn F g w _ hsim (λt=>Ke hvs)).mono λe ρc w' ⟨ρ,σ,F',g',U,K,he,h3⟩=>?_;obtain⟨v,h4,F2,g2,h5,h6⟩:=h3 F' g' w' ρc U K;have h7:cJ (λb=>∃ i,b∈bl (g i)) w w':=h5.chg;rcases he with rfl|rfl<;>exact⟨v,h4,h7,F2,g2,h5,h6⟩
mutual
def eu (r:Nat)(m:Md)(k:Nat)(xs:List D):X->X
 | .ref q none=>bif Aaz q r then .d m (.sl k xs) else .ref q none
 | .vs q none lo n=>bif Aaz q r then .d m (.sl k ((xs.drop lo).take n)) else .vs q none lo n
 | .pe q none j c=>bif Aaz q r then .u else .pe q none j c
 | .ag cs=>.ag (iB r m k xs cs)
 | .tu cs=>.tu (iB r m k xs cs)
 | .fn f cs=>.fn f (iB r m k xs cs)
 | .ref q (some l)=>.ref q (some l)
 | .vs q (some l) lo n=>.vs q (some l) lo n
 | .pe q (some l) j c=>.pe q (some l) j c
 | .d m x=>.d m x
 | .pb q c=>.pb q c
 | .pf m x=>.pf m x
 | .nl k=>.nl k
 | .u=>.u
def iB (r:Nat)(m:Md)(k:Nat)(xs:List D):List X->List X
 | []=>[]
 | x::l=>eu r m k xs x::iB r m k xs l
end
def Gl (r:Nat)(m:Md)(k:Nat)(xs:List D):aA->aA
 | .box cs=>.box (iB r m k xs cs)
 | x=>x
def ie (r:Nat)(m:Md)(k:Nat)(xs:List D):Nat->St->St
 | _,[]=>[]
 | i,x::l=>(bif Aaz i r then .dead else Gl r m k xs x)::ie r m k xs (i+1) l
theorem Fg {r:Nat}{m:Md}{k:Nat}{xs:List D}:∀ {l:St} {i j:Nat},ak l j≠.none->ak (ie r m k xs i l) j=if i+j=r then .dead else Gl r m k xs (ak l j)
 | [],i,j,h=>absurd (mU j) h
 | x::l,i,0,h=>by
  simp only[ie,ak,Nat.add_zero];cases Y:Aaz i r with
  | true=>simp[Abz Y]
  | false=>
   have:i≠r:=λe=>by subst e;simp at Y
   simp[this]
 | x::l,i,j+1,h=>by
  simp only[ie,ak];rw[Fg (l:=l) (by simpa[ak] using h),show i+1+j=i+(j+1) by omega]
theorem G7 {r:Nat}{m:Md}{k:Nat}{xs:List D}:∀ {l:St} {i j:Nat},ak l j=.none->i+j≠r->ak (ie r m k xs i l) j=.none
 | [],i,j,h,_=>by rw[ie];exact mU j
 | x::l,i,0,h,hne=>by
  simp only[ak] at h;subst h;have:Aaz i r=false:=by
   cases Y:Aaz i r with
   | false=>rfl
   | true=>exact absurd (Abz Y) (by simpa using hne)
  simp only[ie,ak,this,Gl,cond_false]
 | x::l,i,j+1,h,hne=>by
  simp only[ie,ak];exact G7 (l:=l) (by simpa[ak] using h) (by omega)
section
variable {S:Start}{F:Nat->Prop}{g:Nat->G}{w:World}{σ:St}{ρ:AE}
section
variable {B F' : Nat->Prop}{r:Nat}{m:Md}{k:Nat}{xs:List D}{v0:Value}{L:List Nat}{gs:List (List GC)}
mutual
theorem AM (hg:g r=.row v0 k L gs)(hF:∀ b,F b->F' b)(hd:rdC (SM F' B m) w (.sl k xs) v0)(hpart:∀ lo n v,pn v0 k lo n v->rdC (SM F' B m) w (.sl k ((xs.drop lo).take n)) v):∀ {x:X} {v:Value},vr (SM F B) w g x v->vr (SM F' B) w (λi=>if i=r then .dead else g i) (eu r m k xs x) v
 | .ref q none,v,h=>by
  rw[eu];cases Y:Aaz q r with
  | true=>
   have:=Abz Y;subst this;rw[vr,hg] at h;rw[h _ _ rfl];show vr _ _ _ (.d m _) _;rw[vr];exact hd
  | false=>
   have hne:q≠r:=λe=>by subst e;simp at Y
   show vr _ _ _ (.ref q none) _;rw[vr] at h ⊢;simp only[an hne];exact h
 | .vs q none lo n,v,h=>by
  rw[eu];cases Y:Aaz q r with
  | true=>
   have:=Abz Y;subst this;rw[vr,hg] at h;show vr _ _ _ (.d m _) _;rw[vr];exact hpart lo n v (h _ _ rfl)
  | false=>
   have hne:q≠r:=λe=>by subst e;simp at Y
   show vr _ _ _ (.vs q none lo n) _;rw[vr] at h ⊢;simp only[an hne];exact h
 | .pe q none j c,v,h=>by
  rw[eu];cases Y:Aaz q r with
  | true=>show vr _ _ _ .u _;rw[vr];trivial
  | false=>
   have hne:q≠r:=λe=>by subst e;simp at Y
   show vr _ _ _ (.pe q none j c) _;rw[vr] at h ⊢;simp only[an hne];exact h
 | .ag cs,v,h=>by rw[eu];rw[vr] at h ⊢;obtain⟨vs,U,K⟩:=h;exact⟨vs,U,wW hg hF hd hpart K⟩
 | .tu cs,v,h=>by rw[eu];rw[vr] at h ⊢;obtain⟨vs,U,K⟩:=h;exact⟨vs,U,wW hg hF hd hpart K⟩
 | .fn f cs,v,h=>by rw[eu];rw[vr] at h ⊢;obtain⟨vs,U,K⟩:=h;exact⟨vs,U,wW hg hF hd hpart K⟩
 | .ref q (some l),v,h=>by
  rw[eu];rw[vr] at h ⊢;by_cases hq:q=r;simp only[ao hq];trivial;simp only[an hq];exact h
 | .vs q (some l) lo n,v,h=>by
  rw[eu];rw[vr] at h ⊢;by_cases hq:q=r;simp only[ao hq];trivial;simp only[an hq];exact h
 | .pe q (some l) j c,v,h=>by
  rw[eu];rw[vr] at h ⊢;by_cases hq:q=r;simp only[ao hq];trivial;simp only[an hq];exact h
 | .d m x,v,h=>by
  rw[eu];rw[vr] at h ⊢;refine h.mono λb Y=>?_;cases m with
  | fz=>exact hF b Y
  | bo=>exact Y.imp (hF b) id
 | .pb q c,v,h=>by
  rw[eu];rw[vr] at h ⊢;by_cases hq:q=r;simp only[ao hq];simp only[an hq];exact h
 | .pf m ds,v,h=>by
  rw[eu];rw[vr] at h ⊢;obtain⟨b,o,cs,U,K,h3,h4,h5⟩:=h;have up:∀ b,SM F B m b->SM F' B m b:=λb Y=>by
   cases m with
   | fz=>exact hF b Y
   | bo=>exact Y.imp (hF b) id
  exact⟨b,o,cs,U,up b K,h3,h4,h5.mono up⟩
 | .nl k,v,h=>by rw[eu];rw[vr] at h ⊢;exact h
 | .u,v,h=>by rw[eu,vr];trivial
theorem wW (hg:g r=.row v0 k L gs)(hF:∀ b,F b->F' b)(hd:rdC (SM F' B m) w (.sl k xs) v0)(hpart:∀ lo n v,pn v0 k lo n v->rdC (SM F' B m) w (.sl k ((xs.drop lo).take n)) v):∀ {xs' : List X} {vs:List Value},aU (SM F B) w g xs' vs->aU (SM F' B) w (λi=>if i=r then .dead else g i) (iB r m k xs xs') vs
 | [],vs,h=>by rw[iB];rw[aU] at h ⊢;exact h
 | x::l,vs,h=>by
  rw[iB];rw[aU] at h ⊢;obtain⟨v,r',U,K,h3⟩:=h;exact⟨v,r',U,AM hg hF hd hpart K,wW hg hF hd hpart h3⟩
end
end
theorem DO {r:Nat}{m:Md}{k:Nat}{xs:List D}(hd0:cG (ak σ) r m k xs [r]):GH S ρ σ (λt=>eu r m k xs (ρ t)) (ie r m k xs 0 σ):=by
 intro F g w ρc hs hv;obtain⟨v,L,gs,cs,hg,hown,hrd,hLb⟩:=A4 hs hd0;have Z:ak σ r≠.none:=by cases hd0 with
  | row h _=>rw[h];intro h;cases h
  | deep h _ _ _=>rw[h];intro h;cases h
 let F' : Nat->Prop:=λb=>F b∨b∈bl (g r);have hF:∀ b,F b->F' b:=λb Y=>.inl Y;have up:∀ m b,SM F S.B m b->SM F' S.B m b:=λm b Y=>by
  cases m with
  | fz=>exact .inl Y
  | bo=>exact Y.imp .inl id
 have hL' : ∀ b∈bl (g r),SM F' S.B m b:=λb Y=>by
  cases m with
  | fz=>exact .inr Y
  | bo=>exact .inl (.inr Y)
 have hrd' : bk (SM F' S.B m) w k xs cs:=hrd.mono λb Y=>by
  rcases Y with Y|⟨q,hq,Y⟩
  exact up m b Y;rw[Bpz] at hq;subst hq;exact hL' b Y
 have hd:rdC (SM F' S.B m) w (.sl k xs) v:=AZ hown hrd' λb Y=>hL' b (hLb b Y);have hpart:∀ lo n v',pn v k lo n v'->rdC (SM F' S.B m) w (.sl k ((xs.drop lo).take n)) v':=λlo n v' hp=>Fi hown hrd' (λb Y=>hL' b (hLb b Y)) hp;have hlt:∀ b,F' b->b<w.heap.size:=λb Y=>Y.elim (hs.flt b) λY=>(hs.own r b Y).1;refine⟨F',λi=>if i=r then .dead else g i,⟨hs.chg,hs.bB,λb Y=>.inl (hs.fmono b Y),λb Y=>?_,hlt,λi=>?_,hs.low,λi=>?_,λi=>?_,λi j hij b Y=>?_,λi b Y=>?_⟩,λt=>AM hg hF hd hpart (hv t)⟩;rcases Y with Y|Y;exact hs.fnew b Y;exact .inr (hs.own r b Y).2.2.2;by_cases hi:i=r;subst hi;rw[Fg Z];simp only[Adz,if_true];trivial;simp only[an hi];have U:=hs.roots i;by_cases hn:ak σ i=.none;rw[G7 hn (by rw[Adz];exact hi)];rw[hn] at U;exact (by revert U;cases g i<;>intro h<;>first|exact h.elim|trivial);rw[Fg hn,Adz,an hi];revert U;cases ak σ i<;>intro U<;>cases hgi:g i<;>rw[hgi] at U<;>try exact U.elim
 trivial;trivial;obtain⟨vs,K,h3⟩:=U;exact⟨vs,K,wW hg hF hd hpart h3⟩;exact⟨U.1,mT U.2 up⟩;exact⟨⟨U.1.1,mT U.1.2 up⟩,U.2.1.adv λq=>by
  by_cases hq:q=r;subst hq;simp only[if_true];rw[hg];exact .inl rfl;simp only[an hq];exact dh.refl _,U.2.2⟩
 by_cases hi:i=r;subst hi;simp only[if_true];have:=hs.hdr i;rw[hg] at this;revert this;cases S.g0 i<;>intro h;trivial;cases h;rcases h with h|h<;>cases h;exact .inl rfl;simp only[an hi];exact hs.hdr i;by_cases hi:i=r;simp only[ao hi,bl];exact Caz;simp only[an hi];exact hs.nodup i;by_cases hi:i=r;simp only[ao hi,bl] at Y;cases Y;simp only[an hi] at Y;by_cases hj:j=r;simp only[ao hj,bl];exact List.not_mem_nil;simp only[an hj];exact hs.disj i j hij b Y;by_cases hi:i=r;simp only[ao hi,bl] at Y;cases Y;simp only[an hi] at Y;obtain⟨U,K,h3,h4⟩:=hs.own i b Y;refine⟨U,λhf=>?_,h3,h4⟩;rcases hf with hf|hf;exact K hf;exact hs.disj i r hi b Y hf
theorem qF {r:Nat}{m:Md}{k:Nat}{xs:List D}(Z:ak σ r=.row m k xs):GH S ρ σ (λt=>eu r m k xs (ρ t)) (ie r m k xs 0 σ):=DO (.row Z rfl)
theorem bu.nlRow (h:bu S F g (ak σ) w){r:Nat}(Z:ak σ r=.none)(m:Md)(k:Nat):∃ g',bu S F g' (ak (aO σ r (.row m k []))) w/\cr S.B F g w F g' w/\vr (SM F S.B) w g' (.ref r none) (.slice none 0 0):=by
 obtain⟨U,K⟩:=h.new (r:=r) (x:=.row m k []) (y:=.row (.slice none 0 0) k [] []) Z (bO.refl w) (λ_ _=>⟨rfl,⟨0,Own.nil w 0 0 k,rfl⟩,rfl⟩) (by simp[bl,cD]) (by simp[bl,cD]);refine⟨_,?_,K,?_⟩;have:ak (aO σ r (.row m k []))=λi=>if i=r then .row m k [] else ak σ i:=by
  funext j;exact jC σ r _ j
 rw[this];exact U;rw[vr];simp only[if_true];intro u q hu;simp only[G.at] at hu;cases hu;rfl
theorem Dq {t r k' : Nat}(m:Md)(k:Nat)(ht:ρ t=.nl k')(Z:ak σ r=.none):GH S ρ σ (aw ρ t (.ref r none)) (aO σ r (.row m k [])):=by
 intro F g w ρc hs hv;obtain⟨g',U,K,h3⟩:=hs.nlRow Z m k;refine⟨F,g',U,λs=>?_⟩;simp only[aw];cases Y:Aaz s t with
 | true=>
  have:=Abz Y;subst this;have h4:=hv s;have h4:ρc s=.slice none 0 0:=by rw[ht,vr] at h4;exact h4
  rw[h4];exact h3
 | false=>exact K _ _ (hv s)
theorem cX {q c r k' : Nat}{cs:List X}(m:Md)(k:Nat)(hq:ak σ q=.box cs)(hc:cs[c]?=some (.nl k'))(Z:ak σ r=.none):GH S ρ σ ρ (aO (aO σ r (.row m k [])) q (.box (cs.set c (.ref r none)))):=by
 intro F g w ρc hs hv;obtain⟨g',U,K,h3⟩:=hs.nlRow Z m k;have hne:q≠r:=λe=>by rw[e,Z] at hq;cases hq
 refine⟨F,g',⟨U.chg,U.bB,U.fmono,U.fnew,U.flt,λi=>?_,U.low,U.hdr,U.nodup,U.disj,U.own⟩,λs=>K _ _ (hv s)⟩;rw[jC];by_cases hi:i=q;subst hi;rw[ao rfl];have h4:=U.roots i;rw[jC,an hne,hq] at h4;cases hgi:g' i<;>rw[hgi] at h4<;>try exact h4.elim
 obtain⟨vs,h5,h6⟩:=h4;refine⟨vs,h5,?_⟩;obtain⟨v,h7,h8⟩:=h6.get hc;have h8:v=.slice none 0 0:=by rw[vr] at h8;exact h8
 have:=h6.set (c:=c) (x:=.ref r none) (v:=v) (by rw[h8];exact h3);rwa[show vs.set c v=vs from List.ext_getElem? λj=>by
  rw[List.getElem?_set];by_cases hj:c=j;subst hj;have hlt:=(List.getElem?_eq_some_iff.1 h7).1;rw[ao rfl,ao hlt,h7];simp[hj]] at this
 rw[an hi];exact U.roots i
end
end Go.A
