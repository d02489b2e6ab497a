/- Abstract states of a walk: plain lemmas on the model, without conditions of their own. -/
import Derived.Test.YtodhafdaelcnlaaGreatAb3
set_option linter.unusedVariables false
set_option linter.unusedSimpArgs false
set_option linter.ambiguousOpen false
set_option linter.unusedSectionVars false
set_option linter.unnecessarySimpa false
open Nat renaming beq->Aaz,eq_of_beq_eq_true->Abz,zero_add->Adz
open List renaming map_cons->Blz,nodup_cons->Bzz,mem_singleton->Bpz,nodup_nil->Caz
open Bool renaming and_eq_true->Afz,not_eq_true'->Bdz
open Option renaming getD_some->Cbz
open Array renaming getD_eq_getD_getElem?->Ajz
namespace Go.A
open Go Go.E
def oo (w:World)(F B:Nat->Prop)(g:Nat->G)(n:Nat):Start:=⟨w,λb=>∃ i,b∈bl (g i),F,B,g,n⟩
def Ok (P:Program)(f:Nat)(args:List X)(pre:St)(res:X)(post:St):Prop:=
 ∀ (F B:Nat->Prop) (g:Nat->G) (w:World) (vs:List Value),bp (oo w F B g pre.length) F g (ai pre) w->aQ (SM F B) w g args vs ->
  nv P f vs.toArray w (λb=>∃ i,b∈bl (g i)) λv w'=>∃ F' g',bp (oo w F B g pre.length) F' g' (ai post) w'/\vr (SM F' B) w' g' res v
def aT:List (Nat×Nat)->Nat->Option Nat
 | [],_=>none
 | (i,j)::l,k=>bif Aaz i k then some j else aT l k
def cM:List (Nat×Nat)->Nat->Option Nat
 | [],_=>none
 | (i,j)::l,k=>bif Aaz j k then some i else cM l k
mutual
def ba (l:List (Nat×Nat)):X->X
 | .ref r p=>match aT l r with|some j=>.ref j p|none=>.u
 | .vs r p a b=>match aT l r with|some j=>.vs j p a b|none=>.u
 | .pb r c=>match aT l r with|some j=>.pb j c|none=>.u
 | .pe r p j c=>match aT l r with|some i=>.pe i p j c|none=>.u
 | .ag cs=>.ag (jq l cs)
 | .tu cs=>.tu (jq l cs)
 | .fn f cs=>.fn f (jq l cs)
 | .d m x=>.d m x
 | .pf m x=>.pf m x
 | .nl k=>.nl k
 | .u=>.u
def jq (l:List (Nat×Nat)):List X->List X
 | []=>[]
 | x::xs=>ba l x::jq l xs
end
def gL:Md->Bool
 | .fz=>true
 | .bo=>false
def H3 (z:Bool)(m:Md):D->Bool
 | .sl _ _=>bif z then gL m else true
 | .a _=>bif z then gL m else true
 | _=>true
mutual
def gx (l:List (Nat×Nat))(z:Bool):X->Bool
 | .ref r _=>(aT l r).isSome
 | .vs r _ _ _=>(aT l r).isSome
 | .pb r _=>(aT l r).isSome
 | .pe r _ _ _=>(aT l r).isSome
 | .ag cs=>gI l z cs
 | .tu cs=>gI l z cs
 | .fn _ cs=>gI l z cs
 | .d m x=>H3 z m x
 | .pf m _=>bif z then gL m else true
 | .nl _=>true
 | .u=>true
def gI (l:List (Nat×Nat))(z:Bool):List X->Bool
 | []=>true
 | x::xs=>gx l z x&&gI l z xs
end
def iV (l:List (Nat×Nat)):aw->aw
 | .box cs=>.box (jq l cs)
 | .deep m k es hs=>.deep m k es (hs.map λp=>(p.1,p.2.1,(aT l p.2.2).getD 0))
 | x=>x
def oe (l:List (Nat×Nat))(z:Bool):aw->Bool
 | .box cs=>gI l z cs
 | .row m _ _=>bif z then gL m else true
 | .deep m _ _ hs=>(bif z then gL m else true)&&hs.all λp=>(aT l p.2.2).isSome
 | _=>true
theorem qA:∀ {l:List (Nat×Nat)} {i j:Nat},(l.map (·.2)).Nodup->aT l i=some j->(l.map (·.1)).Nodup->cM l j=some i
 | [],i,j,_,h,_=>by simp[aT] at h
 | (a,b)::l,i,j,hn,h,hm=>by
  simp only[Blz,Bzz] at hn hm;simp only[aT] at h;simp only[cM];cases Y:Aaz a i with
  | true=>
   rw[Y] at h;simp only[cond_true,Option.some.injEq] at h;subst h;have:=Abz Y;subst this;simp
  | false=>
   rw[Y] at h;simp only[cond_false] at h;have ih:=qA hn.2 h hm.2;have hmem:j∈l.map (·.2):=by
    clear ih hn hm Y
    induction l with
    | nil=>simp[aT] at h
    | cons p l ihl=>
     simp only[aT] at h;cases Y:Aaz p.1 i with
     | true=>rw[Y] at h;simp at h;simp[h]
     | false=>rw[Y] at h;simp at h;simp;right;have:=ihl h;simpa using this
   have hne:Aaz b j=false:=by
    cases hbj:Aaz b j with
    | false=>rfl
    | true=>exact absurd ((Abz hbj)▸hmem) hn.1
   rw[hne];exact ih
theorem EZ:∀ {l:List (Nat×Nat)} {i j:Nat},cM l j=some i->(l.map (·.1)).Nodup->aT l i=some j
 | [],i,j,h,_=>by simp[cM] at h
 | (a,b)::l,i,j,h,hm=>by
  simp only[Blz,Bzz] at hm;simp only[cM] at h;simp only[aT];cases Y:Aaz b j with
  | true=>
   rw[Y] at h;simp only[cond_true,Option.some.injEq] at h;subst h;have:=Abz Y;subst this;simp
  | false=>
   rw[Y] at h;simp only[cond_false] at h;have ih:=EZ h hm.2;have hmem:i∈l.map (·.1):=by
    clear ih hm Y
    induction l with
    | nil=>simp[cM] at h
    | cons p l ihl=>
     simp only[cM] at h;cases Y:Aaz p.2 j with
     | true=>rw[Y] at h;simp at h;simp[h]
     | false=>rw[Y] at h;simp at h;simp;right;have:=ihl h;simpa using this
   have hne:Aaz a i=false:=by
    cases hbj:Aaz a i with
    | false=>rfl
    | true=>exact absurd ((Abz hbj)▸hmem) hm.1
   rw[hne];exact ih
section
variable {S1 S2:Md->Nat->Prop}{w:World}{g1 g2:Nat->G}{l:List (Nat×Nat)}{z:Bool}
mutual
theorem Ib (hg:∀ i j,aT l i=some j->da (g1 i) (g2 j))(hfz:∀ b,S1 .fz b->S2 .fz b)(hbo:z=false->∀ b,S1 .bo b->S2 .bo b):∀ {x:X} {v:Value},gx l z x=true->vr S1 w g1 x v->vr S2 w g2 (ba l x) v
 | .d m x,v,ho,h=>by
  rw[ba];rw[vr] at h ⊢;cases m with
  | fz=>exact h.mono hfz
  | bo=>
   cases x with
   | sl k xs=>cases z with
    | false=>exact h.mono (hbo rfl)
    | true=>simp[gx,H3,gL] at ho
   | a cs=>rw[rdC] at h;exact h.elim
   | i k n=>rw[rdC] at h ⊢;exact h
   | b y=>rw[rdC] at h ⊢;exact h
   | s t=>rw[rdC] at h ⊢;exact h
 | .ag cs,v,ho,h=>by rw[ba];rw[vr] at h ⊢;rw[gx] at ho;obtain⟨vs,U,W⟩:=h;exact⟨vs,U,wh hg hfz hbo ho W⟩
 | .tu cs,v,ho,h=>by rw[ba];rw[vr] at h ⊢;rw[gx] at ho;obtain⟨vs,U,W⟩:=h;exact⟨vs,U,wh hg hfz hbo ho W⟩
 | .ref r p,v,ho,h=>by
  rw[gx] at ho;obtain⟨j,hj⟩:=Option.isSome_iff_exists.1 ho;simp only[ba,hj];rw[vr] at h ⊢;exact h.adv (hg r j hj)
 | .vs r p a b,v,ho,h=>by
  rw[gx] at ho;obtain⟨j,hj⟩:=Option.isSome_iff_exists.1 ho;simp only[ba,hj];rw[vr] at h ⊢;exact h.adv (hg r j hj)
 | .pb r c,v,ho,h=>by
  rw[gx] at ho;obtain⟨j,hj⟩:=Option.isSome_iff_exists.1 ho;simp only[ba,hj];rw[vr] at h ⊢;have:=hg r j hj;revert h this;cases g1 r with
  | none=>intro h;exact h.elim
  | row=>intro h;exact h.elim
  | dead=>intro h hd;rw[show g2 j=.dead from hd];trivial
  | box b T=>intro h hd;rcases hd with hd|hd<;>rw[hd];exact h;trivial
 | .pe r p i c,v,ho,h=>by
  rw[gx] at ho;obtain⟨j,hj⟩:=Option.isSome_iff_exists.1 ho;simp only[ba,hj];rw[vr] at h ⊢;exact h.adv (hg r j hj)
 | .pf m xs,v,ho,h=>by
  rw[ba];rw[vr] at h ⊢;obtain⟨b,o,cs,U,W,h3,h4,h5⟩:=h;cases m with
  | fz=>exact⟨b,o,cs,U,hfz b W,h3,h4,h5.mono hfz⟩
  | bo=>cases z with
   | false=>exact⟨b,o,cs,U,hbo rfl b W,h3,h4,h5.mono (hbo rfl)⟩
   | true=>simp[gx,gL] at ho
 | .fn f cs,v,ho,h=>by rw[ba];rw[vr] at h ⊢;rw[gx] at ho;obtain⟨vs,U,W⟩:=h;exact⟨vs,U,wh hg hfz hbo ho W⟩
 | .nl _,v,ho,h=>by rw[ba];rw[vr] at h ⊢;exact h
 | .u,v,ho,h=>by rw[ba,vr];trivial
theorem wh (hg:∀ i j,aT l i=some j->da (g1 i) (g2 j))(hfz:∀ b,S1 .fz b->S2 .fz b)(hbo:z=false->∀ b,S1 .bo b->S2 .bo b):∀ {xs:List X} {vs:List Value},gI l z xs=true->aQ S1 w g1 xs vs->aQ S2 w g2 (jq l xs) vs
 | [],vs,ho,h=>by rw[jq];rw[aQ] at h ⊢;exact h
 | x::xs,vs,ho,h=>by
  rw[gI,Afz] at ho;rw[jq];rw[aQ] at h ⊢;obtain⟨v,r,U,W,h3⟩:=h;exact⟨v,r,U,Ib hg hfz hbo ho.1 W,wh hg hfz hbo ho.2 h3⟩
end
end
section
variable {S1 S2:Md->Nat->Prop}{w:World}{g1 g2:Nat->G}{l:List (Nat×Nat)}{z:Bool}
mutual
theorem Ty (hg:∀ i j,aT l i=some j->g1 i=g2 j)(hS:∀ m b,S2 m b->S1 m b):∀ {x:X} {v:Value},gx l z x=true->vr S2 w g2 (ba l x) v->vr S1 w g1 x v
 | .d m x,v,ho,h=>by rw[ba] at h;rw[vr] at h ⊢;exact h.mono (hS m)
 | .ag cs,v,ho,h=>by rw[ba] at h;rw[vr] at h ⊢;rw[gx] at ho;obtain⟨vs,U,W⟩:=h;exact⟨vs,U,sO hg hS ho W⟩
 | .tu cs,v,ho,h=>by rw[ba] at h;rw[vr] at h ⊢;rw[gx] at ho;obtain⟨vs,U,W⟩:=h;exact⟨vs,U,sO hg hS ho W⟩
 | .ref r p,v,ho,h=>by
  rw[gx] at ho;obtain⟨j,hj⟩:=Option.isSome_iff_exists.1 ho;simp only[ba,hj] at h;rw[vr] at h ⊢;rw[hg r j hj];exact h
 | .vs r p a b,v,ho,h=>by
  rw[gx] at ho;obtain⟨j,hj⟩:=Option.isSome_iff_exists.1 ho;simp only[ba,hj] at h;rw[vr] at h ⊢;rw[hg r j hj];exact h
 | .pb r c,v,ho,h=>by
  rw[gx] at ho;obtain⟨j,hj⟩:=Option.isSome_iff_exists.1 ho;simp only[ba,hj] at h;rw[vr] at h ⊢;rw[hg r j hj];exact h
 | .pe r p i c,v,ho,h=>by
  rw[gx] at ho;obtain⟨j,hj⟩:=Option.isSome_iff_exists.1 ho;simp only[ba,hj] at h;rw[vr] at h ⊢;rw[hg r j hj];exact h
 | .pf m xs,v,ho,h=>by
  rw[ba] at h;rw[vr] at h ⊢;obtain⟨b,o,cs,U,W,h3,h4,h5⟩:=h;exact⟨b,o,cs,U,hS m b W,h3,h4,h5.mono (hS m)⟩
 | .fn f cs,v,ho,h=>by rw[ba] at h;rw[vr] at h ⊢;rw[gx] at ho;obtain⟨vs,U,W⟩:=h;exact⟨vs,U,sO hg hS ho W⟩
 | .nl _,v,ho,h=>by rw[ba] at h;rw[vr] at h ⊢;exact h
 | .u,v,ho,h=>by rw[vr];trivial
theorem sO (hg:∀ i j,aT l i=some j->g1 i=g2 j)(hS:∀ m b,S2 m b->S1 m b):∀ {xs:List X} {vs:List Value},gI l z xs=true->aQ S2 w g2 (jq l xs) vs->aQ S1 w g1 xs vs
 | [],vs,ho,h=>by rw[jq] at h;rw[aQ] at h ⊢;exact h
 | x::xs,vs,ho,h=>by
  rw[gI,Afz] at ho;rw[jq] at h;rw[aQ] at h ⊢;obtain⟨v,r,U,W,h3⟩:=h;exact⟨v,r,U,Ty hg hS ho.1 W,sO hg hS ho.2 h3⟩
end
end
theorem US {g1 g2:Nat->G}{l:List (Nat×Nat)}{hs:List (Nat×Nat×Nat)}{gs:List (List GC)}(h:bj g1 hs gs)(ho:(hs.all λp=>(aT l p.2.2).isSome)=true)(hg:∀ i j,aT l i=some j->da (g1 i) (g2 j)):bj g2 (hs.map λp=>(p.1,p.2.1,(aT l p.2.2).getD 0)) gs:=by
 intro p hp gc hgc;obtain⟨q,hq,rfl⟩:=List.mem_map.1 hp;obtain⟨j,hj⟩:=Option.isSome_iff_exists.1 (List.all_eq_true.1 ho q hq);simp only[hj,Cbz];exact (h q hq gc hgc).adv (hg _ _ hj)
theorem W8 {g1 g2:Nat->G}{l:List (Nat×Nat)}{hs:List (Nat×Nat×Nat)}{gs:List (List GC)}(h:bj g2 (hs.map λp=>(p.1,p.2.1,(aT l p.2.2).getD 0)) gs)(ho:(hs.all λp=>(aT l p.2.2).isSome)=true)(hg:∀ i j,aT l i=some j->g1 i=g2 j):bj g1 hs gs:=by
 intro q hq gc hgc;obtain⟨j,hj⟩:=Option.isSome_iff_exists.1 (List.all_eq_true.1 ho q hq);have:=h _ (List.mem_map.2 ⟨q,hq,rfl⟩) gc hgc;simp only[hj,Cbz] at this;rw[hg _ _ hj];exact this
mutual
inductive dM (σ:Nat->aw) (l:List (Nat×Nat)) (vw:List Nat):X->X->Prop
 | same {m:Md} {x:D}:dM σ l vw (.d m x) (.d m x)
 | d {m m' : Md} {x:D} (h:fR m m'=true):dM σ l vw (.d m x) (.d m' x)
 | ag {cs cs' : List X} (h:cu σ l vw cs cs'):dM σ l vw (.ag cs) (.ag cs')
 | pb {r i c:Nat} (h:aT l i=some r):dM σ l vw (.pb r c) (.pb i c)
 | ref {r i:Nat} {p:Option (Nat×Nat)} (h:aT l i=some r):dM σ l vw (.ref r p) (.ref i p)
 | rd {r k:Nat} {p:Option (Nat×Nat)} {m:Md} {ys:List D} (h:gY (σ r) p=some (m,k,ys)) (hc:vw.contains r=true):dM σ l vw (.ref r p) (.d .bo (.sl k ys))
 | vd {r k a b:Nat} {p:Option (Nat×Nat)} {m:Md} {zs:List D} (h:gY (σ r) p=some (m,k,zs)) (hc:vw.contains r=true):dM σ l vw (.vs r p a b) (.d .bo (.sl k ((zs.drop a).take b)))
 | dd {r k:Nat} {m:Md} {ds:List D} {qs:List Nat} (h:b9 σ r m k ds qs) (hc:qs.all (vw.contains ·)=true):dM σ l vw (.ref r none) (.d .bo (.sl k ds))
 | nld {k k' : Nat} {m:Md}:dM σ l vw (.nl k) (.d m (.sl k' []))
 | nl {k k' : Nat}:dM σ l vw (.nl k) (.nl k')
 | fn {f:Nat} {cs cs' : List X} (h:cu σ l vw cs cs'):dM σ l vw (.fn f cs) (.fn f cs')
 | pf {m m' : Md} {ds:List D} (h:fR m m'=true):dM σ l vw (.pf m ds) (.pf m' ds)
 | u {x:X}:dM σ l vw x .u
inductive cu (σ:Nat->aw) (l:List (Nat×Nat)) (vw:List Nat):List X->List X->Prop
 | nil:cu σ l vw [] []
 | cons {x y:X} {xs ys:List X} (h:dM σ l vw x y) (W:cu σ l vw xs ys):cu σ l vw (x::xs) (y::ys)
end
section
variable {S:Start}{F Bc:Nat->Prop}{g g1:Nat->G}{σ1:Nat->aw}{w:World}{l:List (Nat×Nat)}{vw:List Nat}
mutual
theorem Tx (hs:bp S F g σ1 w)(hg:∀ i j,aT l i=some j->g1 i=g j)(hB:∀ b,S.B b->Bc b)(hvw:∀ r b,vw.contains r=true->b∈bl (g r)->Bc b):∀ {x y:X},dM σ1 l vw x y->∀ {v:Value},vr (SM F S.B) w g x v->vr (SM F Bc) w g1 y v
 | _,_,.d (m:=m) (m':=m') hm,v,h=>by
  rw[vr] at h ⊢;refine (h.mono (ox hm)).mono λb Y=>?_;cases m' with
  | fz=>exact Y
  | bo=>exact Y.imp id (hB b)
 | _,_,.same (m:=m),v,h=>by
  rw[vr] at h ⊢;refine h.mono λb Y=>?_;cases m with
  | fz=>exact Y
  | bo=>exact Y.imp id (hB b)
 | _,_,.ag hp,v,h=>by rw[vr] at h ⊢;obtain⟨vs,U,W⟩:=h;exact⟨vs,U,AN hs hg hB hvw hp W⟩
 | _,_,.pb (r:=r) (i:=i) U,v,h=>by
  rw[vr] at h ⊢;rw[hg i r U];exact h
 | _,_,.ref (r:=r) (i:=i) U,v,h=>by
  rw[vr] at h ⊢;rw[hg i r U];exact h
 | _,_,.rd (r:=r) (k:=k) (p:=p) (m:=m) (ys:=ys) hrow hc,v,h=>by
  obtain⟨A,cp,cs,U,W,h3,h4,h5⟩:=Am hs (x:=.ref r p) (by rw[cO];exact hrow) h;show rdC _ _ _ _;rw[rdC];refine⟨A,cp,cs,U,W,h3,h4.mono λb Y=>?_,h5.imp id λ⟨b,o,e1,e2,e3,e4⟩=>⟨b,o,e1,?_,e3,e2⟩⟩;cases m with
  | fz=>exact .inl Y
  | bo=>exact Y.imp id (hB b)
  rcases e4 with e4|⟨r',e5,e6⟩
  cases m with
  | fz=>exact .inl e4
  | bo=>exact e4.imp id (hB b)
  simp only[dq,Bpz] at e5;subst e5;exact .inr (hvw _ b hc e6)
 | _,_,.vd (r:=r) (k:=k) (a:=a) (b:=c) (p:=p) (m:=m) (zs:=zs) hrow hc,v,h=>by
  obtain⟨A,cp,cs,U,W,h3,h4,h5⟩:=Am hs (x:=.vs r p a c) (m:=m) (k:=k) (ys:=(zs.drop a).take c) (by rw[cO,hrow];rfl) h;show rdC _ _ _ _;rw[rdC];refine⟨A,cp,cs,U,W,h3,h4.mono λb Y=>?_,h5.imp id λ⟨b,o,e1,e2,e3,e4⟩=>⟨b,o,e1,?_,e3,e2⟩⟩;cases m with
  | fz=>exact .inl Y
  | bo=>exact Y.imp id (hB b)
  rcases e4 with e4|⟨r',e5,e6⟩
  cases m with
  | fz=>exact .inl e4
  | bo=>exact e4.imp id (hB b)
  simp only[dq,Bpz] at e5;subst e5;exact .inr (hvw _ b hc e6)
 | _,_,.dd (r:=r) (m:=m) (qs:=qs) h hc,v,hv=>by
  obtain⟨u,L,gs,cs,hg',U,W,h3⟩:=wF hs h;rw[vr,hg'] at hv;have hv:=hv _ _ rfl;subst hv;have hq:∀ q∈qs,vw.contains q=true:=List.all_eq_true.1 hc;rw[vr];refine wE U (W.mono λb Y=>?_) λb Y=>.inr (hvw r b (hq r h.mem) (h3 b Y));rcases Y with Y|⟨q,hq',Y⟩
  cases m with
  | fz=>exact .inl Y
  | bo=>exact Y.imp id (hB b)
  exact .inr (hvw q b (hq q hq') Y)
 | _,_,.nld,v,h=>by
  have h:v=.slice none 0 0:=by rw[vr] at h;exact h
  show rdC _ _ (.sl _ []) v;rw[rdC];exact⟨none,0,[],h,Nat.le_refl _,Nat.zero_le _,by rw[bg],.inl rfl⟩
 | _,_,.nl,v,h=>by
  have h:v=.slice none 0 0:=by rw[vr] at h;exact h
  rw[vr];exact h
 | _,_,.fn hp,v,h=>by rw[vr] at h ⊢;obtain⟨vs,U,W⟩:=h;exact⟨vs,U,AN hs hg hB hvw hp W⟩
 | _,_,.pf (m:=m) (m':=m') hm,v,h=>by
  rw[vr] at h ⊢;obtain⟨b,o,cs,U,W,h3,h4,h5⟩:=h;have up:∀ b,SM F S.B m b->SM F Bc m' b:=λb Y=>by
   have:=ox hm b Y;cases m' with
   | fz=>exact this
   | bo=>exact this.imp id (hB b)
  exact⟨b,o,cs,U,up b W,h3,h4,h5.mono up⟩
 | _,_,.u,v,_=>by rw[vr];trivial
theorem AN (hs:bp S F g σ1 w)(hg:∀ i j,aT l i=some j->g1 i=g j)(hB:∀ b,S.B b->Bc b)(hvw:∀ r b,vw.contains r=true->b∈bl (g r)->Bc b):∀ {xs ys:List X},cu σ1 l vw xs ys->∀ {vs:List Value},aQ (SM F S.B) w g xs vs->aQ (SM F Bc) w g1 ys vs
 | _,_,.nil,vs,h=>by rw[aQ] at h ⊢;exact h
 | _,_,.cons hp hp2,vs,h=>by
  rw[aQ] at h ⊢;obtain⟨v,r,U,W,h3⟩:=h;exact⟨v,r,U,Tx hs hg hB hvw hp W,AN hs hg hB hvw hp2 h3⟩
end
mutual
theorem W7 {σ2:Nat->aw}{rd:List Nat}(hc:∀ r∈rd,σ1 r=σ2 r)(hv:∀ r,vw.contains r=true->r∈rd):∀ {x y:X},dM σ2 l vw x y->dM σ1 l vw x y
 | _,_,.same=>.same
 | _,_,.d hm=>.d hm
 | _,_,.ag hp=>.ag (xR hc hv hp)
 | _,_,.pb h=>.pb h
 | _,_,.ref h=>.ref h
 | _,_,.rd h W=>.rd (by rw[hc _ (hv _ W)];exact h) W
 | _,_,.vd h W=>.vd (by rw[hc _ (hv _ W)];exact h) W
 | _,_,.dd h W=>.dd (h.congr λq hq=>hc q (hv q (List.all_eq_true.1 W q hq))) W
 | _,_,.nld=>.nld
 | _,_,.nl=>.nl
 | _,_,.fn hp=>.fn (xR hc hv hp)
 | _,_,.pf hm=>.pf hm
 | _,_,.u=>.u
theorem xR {σ2:Nat->aw}{rd:List Nat}(hc:∀ r∈rd,σ1 r=σ2 r)(hv:∀ r,vw.contains r=true->r∈rd):∀ {xs ys:List X},cu σ2 l vw xs ys->cu σ1 l vw xs ys
 | _,_,.nil=>.nil
 | _,_,.cons h W=>.cons (W7 hc hv h) (xR hc hv W)
end
end
def jW (p:Nat->aw->Bool):Nat->St->Bool
 | _,[]=>true
 | i,x::l=>p i x&&jW p (i+1) l
def isNone:aw->Bool
 | .none=>true
 | _=>false
def dp (σ pre:Nat->aw)(l0:List (Nat×Nat)):List (Nat×Nat)->Prop
 | []=>True
 | (i,j)::l=>σ j=iV l0 (pre i)/\dp σ pre l0 l
def j8:List Nat->Bool
 | []=>true
 | x::l=>!l.contains x&&j8 l
theorem py:∀ {l:List Nat},j8 l=true->l.Nodup
 | [],_=>Caz
 | x::l,h=>by
  simp only[j8,Afz,Bdz] at h;rw[Bzz];exact⟨λhm=>by simp[hm] at h,py h.2⟩
def mj (ren:List (Nat×Nat))(vw:List Nat)(pre post:St)(res:X):Bool:=
 j8 (ren.map (·.1))&&j8 (ren.map (·.2))&&vw.all (λr=>!(ren.map (·.2)).contains r) &&
 jW (λi x=>isNone x||((aT ren i).isSome&&oe ren false x)) 0 pre &&
 jW (λi x=>isNone x||((aT ren i).isSome&&oe ren (!vw.isEmpty) x)) 0 post&&gx ren (!vw.isEmpty) res
def fu (ren:List (Nat×Nat))(x:aw):aw:=match x with
 | .none=>.dead
 | x=>iV ren x
theorem AM {p:Nat->aw->Bool}:∀ {l:St} {k i:Nat},jW p k l=true->(isNone (ai l i)=true∨p (k+i) (ai l i)=true)
 | [],k,i,_=>.inl (by rw[mA];rfl)
 | x::l,k,0,h=>by simp only[jW,Afz] at h;exact .inr h.1
 | x::l,k,i+1,h=>by
  simp only[jW,Afz] at h;have:=AM (i:=i) h.2;rwa[show k+1+i=k+(i+1) by omega] at this
theorem Lw {x:aw}(h:isNone x=true):x=.none:=by cases x<;>first|rfl|cases h
theorem KG:∀ {l:St} {i:Nat},l.length<=i->ai l i=.none
 | [],i,_=>mA i
 | x::l,0,h=>by simp at h
 | x::l,i+1,h=>by simp only[ai];exact KG (by simpa using h)
theorem dp.get {σ pre:Nat->aw}{l0:List (Nat×Nat)}:∀ {l:List (Nat×Nat)} {i j:Nat},dp σ pre l0 l->aT l i=some j->σ j=iV l0 (pre i)
 | [],i,j,_,h=>by simp[aT] at h
 | (a,b)::l,i,j,hp,h=>by
  simp only[aT] at h;cases Y:Aaz a i with
  | true=>rw[Y] at h;simp at h;subst h;have:=Abz Y;subst this;exact hp.1
  | false=>rw[Y] at h;simp at h;exact hp.2.get h
theorem AK:∀ {l:List (Nat×Nat)} {i j:Nat},aT l i=some j->(i,j)∈l
 | [],i,j,h=>by simp[aT] at h
 | (a,b)::l,i,j,h=>by
  simp only[aT] at h;cases Y:Aaz a i with
  | true=>rw[Y] at h;simp at h;subst h;have:=Abz Y;subst this;simp
  | false=>rw[Y] at h;simp at h;exact List.mem_cons_of_mem _ (AK h)
theorem Ej {h:Nat->aw}:∀ (l:List (Nat×Nat)) (σ:Nat->aw) (j:Nat),(l.map (·.2)).Nodup->cg σ (l.map λp=>(p.2,h p.1)) j=match cM l j with|some i=>h i|none=>σ j
 | [],σ,j,_=>rfl
 | (a,b)::l,σ,j,hn=>by
  simp only[Blz,Bzz] at hn;rw[Blz,cg,Ej l _ j hn.2];simp only[cM];cases Y:Aaz b j with
  | true=>
   have:=Abz Y;subst this;have hi:cM l b=none:=by
    cases hi:cM l b with
    | none=>rfl
    | some i=>
     exfalso;apply hn.1;clear hn Y
     induction l with
     | nil=>simp[cM] at hi
     | cons p l ih=>
      simp only[cM] at hi;cases Y:Aaz p.2 b with
      | true=>have:=Abz Y;simp[this]
      | false=>rw[Y] at hi;simp at hi;have:=ih hi;simp;right;simpa using this
   rw[hi];simp
  | false=>
   have hne:j≠b:=λe=>by subst e;simp at Y
   simp only[cond_false];cases cM l j with
   | some i=>rfl
   | none=>simp[hne]
theorem MO {S1 S2:Md->Nat->Prop}{w:World}{m:Md}{xs:List D}{v:Value}{k:Nat}{L:List Nat}{gs:List (List GC)}(h:rowOk S1 w (xs.map (bN m)) v k L gs)(hm:∀ b,S1 m b->S2 m b):rowOk S2 w (xs.map (bN m)) v k L gs:=by
 have cells:∀ (ds:List D) (ge:List GC),aL (aP S1 w) (ds.map (Cell.d m)) ge->aL (aP S2 w) (ds.map (Cell.d m)) ge:=by
  intro ds
  induction ds with
  | nil=>exact λ_ h=>h
  | cons d ds ih=>exact λge ⟨gc,r,U,W,h3⟩=>⟨gc,r,U,⟨W.1,W.2.1,W.2.2.mono hm⟩,ih r h3⟩
 refine⟨h.1,?_⟩;have:=h.2;clear h
 induction xs generalizing gs with
 | nil=>exact this
 | cons x xs ih=>
  obtain⟨ge,r,U,W,h3⟩:=this;exact⟨ge,r,U,⟨W.1,cells _ _ W.2⟩,ih h3⟩
theorem kb {S1 S2:Md->Nat->Prop}{w:World}{es:List (List Cell)}{v:Value}{k:Nat}{L:List Nat}{gs:List (List GC)}(h:rowOk S1 w es v k L gs)(hm:∀ m b,S1 m b->S2 m b):rowOk S2 w es v k L gs:=
 h.keep (λm b o cs Y hl ha=>⟨hm m b Y,hl,ha⟩) λ_ _=>rfl
section
variable {P:Program}{S:Start}{n:Nat}{ρ:AE}{σ:St}{o:Oper}
theorem vI {f:Nat}{c:Call}{x:Operand}{caps axs args:List X}{pre post:St}{res:X}(ren:List (Nat×Nat))(vw:List Nat)(ho:o.op=.call c)(hc:c.callee=.value x)(hx:aE ρ x=.fn f caps)(hcb:iC P f=true)(ha:c.args.toList.map (aE ρ)++caps=axs)
  (ok:Ok P f args pre res post) (hp:cu (ai σ) ren vw axs args) (hpre:dp (ai σ) (ai pre) ren ren) (hchk:mj ren vw pre post res=true) :
  LT P S o ρ σ vw (ba ren res) (ren.map λp=>(p.2,fu ren (ai post p.1))):=by
 intro σ1 F g w ρc hs hrd hwr hv;simp only[mj,Afz] at hchk;obtain⟨⟨⟨⟨⟨hn1,hn2⟩,hvd⟩,hck1⟩,hck2⟩,hck3⟩:=hchk;have hn1:=py hn1;have hn2:=py hn2;have hσ:∀ i j,aT ren i=some j->σ1 j=iV ren (ai pre i):=λi j hij=>by
  rw[hwr (j,fu ren (ai post i)) (List.mem_map.2 ⟨(i,j),AK hij,rfl⟩)];exact hpre.get hij
 let gc:Nat->G:=λi=>match aT ren i with|some j=>g j|none=>.none
 let Bc:Nat->Prop:=λb=>S.B b∨∃ r,vw.contains r=true/\b∈bl (g r);have hgc:∀ i j,aT ren i=some j->gc i=g j:=λi j h=>by simp only[gc,h]
 have hgcn:∀ i,aT ren i=none->gc i=.none:=λi h=>by simp only[gc,h]
 have inj:∀ i i' j,aT ren i=some j->aT ren i'=some j->i=i':=λi i' j h h'=>Option.some.inj ((qA hn2 h hn1).symm.trans (qA hn2 h' hn1));have mem2:∀ i j,aT ren i=some j->j∈ren.map (·.2):=λi j h=>List.mem_map.2 ⟨(i,j),AK h,rfl⟩;have vwne:∀ r i j,vw.contains r=true->aT ren i=some j->j≠r:=λr i j Z hij e=>by
  have:=List.all_eq_true.1 hvd r (by simpa using Z);rw[← e] at this;simp only[Bdz,List.contains_eq_mem,decide_eq_false_iff_not] at this;exact this (mem2 i j hij)
 have blc:∀ i b,b∈bl (gc i)->∃ j,aT ren i=some j/\b∈bl (g j):=λi b Y=>by
  cases hi:aT ren i with
  | none=>rw[hgcn i hi] at Y;cases Y
  | some j=>rw[hgc i j hi] at Y;exact⟨j,rfl,Y⟩
 have hBlt:∀ b,Bc b->b<w.heap.size/\¬ ∃ i,b∈bl (gc i):=λb Y=>by
  rcases Y with Y|⟨r,Z,Y⟩
  refine⟨Nat.lt_of_lt_of_le (hs.bB b Y).1 hs.chg.size,λ⟨i,hi⟩=>?_⟩;obtain⟨j,_,hj⟩:=blc i b hi;exact (hs.own j b hj).2.2.1 Y;refine⟨(hs.own r b Y).1,λ⟨i,hi⟩=>?_⟩;obtain⟨j,hij,hj⟩:=blc i b hi;exact hs.disj j r (vwne r i j Z hij) b hj Y
 have hsub:∀ m b,SM F S.B m b->SM F Bc m b:=λm b Y=>by
  cases m with
  | fz=>exact Y
  | bo=>exact Y.imp id .inl
 have hstart:bp (oo w F Bc gc pre.length) F gc (ai pre) w:=by
  refine⟨cF.refl w,hBlt,λb Y=>Y,λb Y=>.inl Y,hs.flt,λi=>?_,λi hi=>?_,λi=>?_,λi=>?_,λi i' hne b Y hb'=>?_,λi b Y=>?_⟩;cases hi:aT ren i with
  | none=>
   rw[hgcn i hi];have hpi:ai pre i=.none:=by
    rcases AM (i:=i) hck1 with h|h;exact Lw h;rw[Adz,hi] at h;simp at h;exact Lw h
   rw[hpi];trivial
  | some j=>
   rw[hgc i j hi];have Z:=hs.roots j;rw[hσ i j hi] at Z;have hok:isNone (ai pre i)=true∨oe ren false (ai pre i)=true:=by
    rcases AM (i:=i) hck1 with h|h;exact .inl h;simp only[Bool.or_eq_true,Afz] at h;exact h.imp id (·.2)
   revert Z hok;cases ai pre i<;>intro Z hok<;>cases hg:g j<;>rw[hg] at Z<;>try exact Z.elim
   trivial;trivial;obtain⟨vs,U,W⟩:=Z;refine⟨vs,U,sO (S2:=SM F S.B) (g2:=g) (z:=false) hgc hsub ?_ W⟩;rcases hok with hok|hok;cases hok;exact hok;exact⟨Z.1,kb Z.2 hsub⟩;rename_i m k es hh v k' L gs;refine⟨⟨Z.1.1,kb Z.1.2 hsub⟩,?_,Z.2.2⟩;rcases hok with hok|hok;cases hok;simp only[oe,Afz] at hok;exact W8 Z.2.1 hok.2 hgc
  show gc i=.none;cases hi' : aT ren i with
  | none=>exact hgcn i hi'
  | some j=>
   rw[hgc i j hi'];refine El hs ?_;rw[hσ i j hi',KG hi];rfl
  show sn (gc i) (gc i);cases gc i with
  | none=>trivial
  | dead=>rfl
  | box b T=>exact .inl rfl
  | row v k L gs=>exact .inr ⟨L,gs,rfl⟩
  cases hi:aT ren i with
  | none=>rw[hgcn i hi];exact Caz
  | some j=>rw[hgc i j hi];exact hs.nodup j
  obtain⟨j,hj,hbj⟩:=blc i b Y;obtain⟨j',hj',hbj'⟩:=blc i' b hb';exact hs.disj j j' (λe=>hne (inj i i' j hj (e▸hj'))) b hbj hbj';obtain⟨j,hj,hbj⟩:=blc i b Y;refine⟨(hs.own j b hbj).1,(hs.own j b hbj).2.1,λhB=>(hBlt b hB).2 ⟨i,Y⟩,.inl ⟨i,Y⟩⟩
 -- the arguments
 have hxv:=hv x (by simp[ho,Op.operands,Call.operands,hc]);rw[hx,vr] at hxv;obtain⟨cvs,hfn,hcaps⟩:=hxv;have hargs:aQ (SM F S.B) w g axs (c.args.toList.map (E.ev ρc)++cvs):=by
  rw[← ha];refine aQ.append (Be λy hy=>hv y ?_) hcaps;simp only[ho,Op.operands,Call.operands,hc];simp only[Array.mem_append];exact .inr (by simpa using hy)
 have hp1:cu σ1 ren vw axs args:=xR (rd:=vw) (λr Z=>hrd r Z) (λr Z=>by simpa using Z) hp;have hvs:=AN (Bc:=Bc) hs hgc (λb Y=>.inl Y) (λr b Z Y=>.inr ⟨r,Z,Y⟩) hp1 hargs;have hret:=ok F Bc gc w _ hstart hvs;have he:(execOp (E.ev ρc) o).run P w=.ok (.enter f (c.args.toList.map (E.ev ρc)++cvs).toArray) w:=by
  simp only[execOp,ho];exact E4 hc hfn hcb (by simp)
 rw[he];refine Calls.mono hret λe w' ⟨v,hev,hchg,F',gc',hs',hres⟩=>⟨v,hev,?_⟩
 let g' : Nat->G:=λj=>match cM ren j with|some i=>(match gc' i with|.none=>.dead|y=>y)|none=>g j
 have hg'1:∀ i j,aT ren i=some j->g' j=(match gc' i with|.none=>.dead|y=>y):=λi j h=>by simp only[g',qA hn2 h hn1]
 have hg'2:∀ j,cM ren j=none->g' j=g j:=λj h=>by simp only[g',h]
 have hadv:∀ i j,aT ren i=some j->da (gc' i) (g' j):=λi j h=>by
  rw[hg'1 i j h];cases gc' i<;>first|trivial|exact da.refl _
 have blg:∀ i j,aT ren i=some j->bl (g' j)=bl (gc' i):=λi j h=>by
  rw[hg'1 i j h];cases gc' i<;>rfl
 have hz:(!vw.isEmpty)=false->∀ b,SM F' Bc .bo b->SM F' S.B .bo b:=λhz b Y=>by
  have:vw=[]:=by simpa using hz
  subst this;rcases Y with Y|Y|⟨r,Z,_⟩
  exact .inl Y;exact .inr Y;simp at Z
 have hck2' : ∀ i,isNone (ai post i)=true∨((aT ren i).isSome=true/\oe ren (!vw.isEmpty) (ai post i)=true):=λi=>by
  rcases AM (i:=i) hck2 with h|h;exact .inl h;simp only[Bool.or_eq_true,Afz,Adz] at h;exact h.imp id λh=>⟨h.1,h.2⟩
 obtain⟨U,W⟩:=hs.step (g':=g') (σ':=cg σ1 (ren.map λp=>(p.2,fu ren (ai post p.1)))) (F':=F') (w':=w') (λj=>∃ i,aT ren i=some j) hchg
  (λb Y _=>by
   obtain⟨i,hi⟩:=Y;obtain⟨j,hj,hbj⟩:=blc i b hi;exact⟨j,⟨i,hj⟩,hbj⟩)
  (λj hj=>by
   have hinv:cM ren j=none:=by
    cases hi:cM ren j with
    | none=>rfl
    | some i=>exact absurd ⟨i,EZ hi hn1⟩ hj
   refine⟨hg'2 j hinv,?_⟩;rw[Ej (h:=λi=>fu ren (ai post i)) ren σ1 j hn2,hinv])
  (λj ⟨i,hij⟩=>by
   rw[← hgc i j hij,hg'1 i j hij];have hh:=hs'.hdr i;have hroot:=hs'.roots i;have hsim:=hck2' i;simp only[oo] at hh;cases hg0:gc i with
   | none=>trivial
   | dead=>rw[hg0] at hh;rw[show gc' i=.dead from hh];rfl
   | box b T=>
    rw[hg0] at hh;rcases hh with hh|hh<;>rw[hh];exact .inl rfl;exact .inr rfl
   | row v0 k L gs=>
    rw[hg0] at hh;rcases hh with hh|⟨L',gs',hh⟩<;>rw[hh];exact .inl rfl;exact .inr ⟨L',gs',rfl⟩)
  (λb Y=>hs'.fmono b Y)
  (λb Y=>⟨hs'.flt b Y,by
   rcases hs'.fnew b Y with h|h|h;exact .inl h;obtain⟨i,hi⟩:=h;obtain⟨j,hj,hbj⟩:=blc i b hi;exact .inr (.inr ⟨j,⟨i,hj⟩,hbj⟩);exact .inr (.inl h)⟩)
  (λ_ _ j ⟨i,hij⟩=>by
   rw[Ej (h:=λi=>fu ren (ai post i)) ren σ1 j hn2,qA hn2 hij hn1,hg'1 i j hij];have hroot:=hs'.roots i;have hsim:=hck2' i;simp only;cases hpo:ai post i<;>rw[hpo] at hroot hsim<;>cases hgi:gc' i<;>rw[hgi] at hroot<;>try exact hroot.elim
   trivial;trivial;obtain⟨vs,k1,k2⟩:=hroot;refine⟨vs,k1,wh (S1:=SM F' Bc) (S2:=SM F' S.B) (g1:=gc') (z:=!vw.isEmpty) hadv (λ_ h=>h) hz ?_ k2⟩;rcases hsim with hsim|hsim;cases hsim;exact hsim.2;rename_i m k xs _ _ _ _;refine⟨hroot.1,MO (m:=m) (xs:=xs) hroot.2 λb Y=>?_⟩;cases m with
   | fz=>exact Y
   | bo=>
    rcases hsim with hsim|hsim;cases hsim;simp only[oe] at hsim;exact hz (by
     cases hv0:(!vw.isEmpty) with
     | false=>rfl
     | true=>rw[hv0] at hsim;exact absurd hsim.2 (by simp[oe,gL])) b Y
   rename_i m k es hh v k' L gs;rcases hsim with hsim|hsim;cases hsim;simp only[oe,Afz] at hsim;obtain⟨_,hsim,hho⟩:=hsim;refine⟨⟨hroot.1.1,?_⟩,US hroot.2.1 hho hadv,hroot.2.2⟩;cases hv0:(!vw.isEmpty) with
   | false=>
    have h0:=hz hv0;exact kb hroot.1.2 λm b Y=>by
     cases m with
     | fz=>exact Y
     | bo=>exact h0 b Y
   | true=>
    have hm:m=.fz:=by
     rw[hv0] at hsim;cases m;rfl;simp[gL] at hsim
    exact hroot.1.2.fz (hroot.2.2 hm) λb Y=>Y)
  (λj ⟨i,hij⟩=>by rw[blg i j hij];exact hs'.nodup i)
  (λj j' ⟨i,hij⟩ ⟨i',hij'⟩ hne b Y=>by
   rw[blg i j hij] at Y;rw[blg i' j' hij'];exact hs'.disj i i' (λe=>by subst e;rw[hij] at hij';exact hne (Option.some.inj hij')) b Y)
  (λj b ⟨i,hij⟩ Y=>by
   rw[blg i j hij] at Y;obtain⟨k1,k2,k3,k4⟩:=hs'.own i b Y;refine⟨k1,k2,?_⟩;rcases k4 with k4|k4;obtain⟨i',hi'⟩:=k4;obtain⟨j',hj',hbj⟩:=blc i' b hi';exact .inr ⟨j',⟨i',hj'⟩,hbj⟩;exact .inl k4)
 exact⟨F',g',U,W,Ib (S1:=SM F' Bc) (S2:=SM F' S.B) (g1:=gc') (z:=!vw.isEmpty) hadv (λ_ h=>h) hz hck3 hres⟩
end
def ofX:List (Nat×X)->AE
 | []=>λ_=>.u
 | (t,x)::l=>av (ofX l) t x
mutual
inductive Wk:X->X->Prop
 | rfl {x:X}:Wk x x
 | u {x:X}:Wk .u x
 | nld {k k' : Nat} {m:Md}:Wk (.d m (.sl k [])) (.nl k')
 | nl {k k' : Nat}:Wk (.nl k) (.nl k')
 | bo {x:D}:Wk (.d .bo x) (.d .fz x)
 | md {m m' : Md} {x:D} (h:fR m m'=true):Wk (.d m' x) (.d m x)
 | ag {cs cs' : List X} (h:jX cs cs'):Wk (.ag cs) (.ag cs')
 | tu {cs cs' : List X} (h:jX cs cs'):Wk (.tu cs) (.tu cs')
inductive jX:List X->List X->Prop
 | nil:jX [] []
 | cons {x y:X} {xs ys:List X} (h:Wk x y) (W:jX xs ys):jX (x::xs) (y::ys)
end
theorem Wk.of {x y:X}(h:x=y):Wk x y:=h ▸ .rfl
theorem Wk.vn {r lo n n' : Nat}{l:Option (Nat×Nat)}(h:n=n'):Wk (.vs r l lo n) (.vs r l lo n'):=h ▸ .rfl
def qk (ρ:AE):List (Nat×X)->Prop
 | []=>True
 | (t,x)::l=>Wk x (ρ t)/\qk ρ l
section
variable {S:Start}{F:Nat->Prop}{g:Nat->G}{w:World}{σ:St}{ρ:AE}
mutual
theorem Wk.vr {B:Nat->Prop}:∀ {x y:X},Wk x y->∀ {v:Value},vr (SM F B) w g y v->vr (SM F B) w g x v
 | _,_,.rfl,_,h=>h
 | _,_,.u,_,h=>by rw[Go.A.vr];trivial
 | _,_,.nld,v,h=>by
  have h:v=.slice none 0 0:=by rw[Go.A.vr] at h;exact h
  show rdC _ _ (.sl _ []) v;rw[rdC];exact⟨none,0,[],h,Nat.le_refl _,Nat.zero_le _,by rw[bg],.inl rfl⟩
 | _,_,.nl,v,h=>by
  have h:v=.slice none 0 0:=by rw[Go.A.vr] at h;exact h
  rw[Go.A.vr];exact h
 | _,_,.bo,v,h=>by rw[Go.A.vr] at h ⊢;exact h.mono λb Y=>.inl Y
 | _,_,.md hm,v,h=>by rw[Go.A.vr] at h ⊢;exact h.mono (ox hm)
 | _,_,.ag hs,v,h=>by rw[Go.A.vr] at h ⊢;obtain⟨vs,h3,h4⟩:=h;exact⟨vs,h3,jX.vr hs h4⟩
 | _,_,.tu hs,v,h=>by rw[Go.A.vr] at h ⊢;obtain⟨vs,h3,h4⟩:=h;exact⟨vs,h3,jX.vr hs h4⟩
theorem jX.vr {B:Nat->Prop}:∀ {xs ys:List X},jX xs ys->∀ {vs:List Value},aQ (SM F B) w g ys vs->aQ (SM F B) w g xs vs
 | _,_,.nil,_,h=>h
 | _,_,.cons U W,vs,h=>by
  rw[aQ] at h ⊢;obtain⟨v,r',h4,h5,h6⟩:=h;exact⟨v,r',h4,Wk.vr U h5,jX.vr W h6⟩
end
theorem VR.ofX {ρc:Env}(h:VR S F g w ρ ρc):∀ {L:List (Nat×X)},qk ρ L->VR S F g w (ofX L) ρc
 | [],_=>λt=>by simp only[Go.A.ofX];rw[Go.A.vr];trivial
 | (t,x)::L,hl=>λs=>by
  simp only[Go.A.ofX,av];cases Y:Aaz s t with
  | true=>have:=Abz Y;subst this;exact hl.1.vr (h _)
  | false=>exact VR.ofX h hl.2 s
theorem Qw (L:List (Nat×X))(hL:qk ρ L):GH S ρ σ (ofX L) σ:=λF g w ρc hs hv=>⟨F,g,hs,hv.ofX hL⟩
theorem GH.refl:GH S ρ σ ρ σ:=λF g w ρc hs hv=>⟨F,g,hs,hv⟩
theorem GH.trans {ρ1 ρ2:AE}{σ1 σ2:St}(h:GH S ρ σ ρ1 σ1)(k:GH S ρ1 σ1 ρ2 σ2):GH S ρ σ ρ2 σ2:=λF g w ρc hs hv=>
 let ⟨F',g',U,W⟩:=h F g w ρc hs hv
 k F' g' w ρc U W
end
def jk:List X->AE
 | [],_=>.u
 | x::_,0=>x
 | _::l,t+1=>jk l t
theorem JW {S1:Md->Nat->Prop}{w:World}{g:Nat->G}:∀ {xs:List X} {vs:List Value} {t:Nat},aQ S1 w g xs vs->vr S1 w g (jk xs t) ((vs.toArray:Array Value).getD t undef)
 | [],vs,t,h=>by unfold jk;rw[vr];trivial
 | x::xs,vs,0,h=>by rw[aQ] at h;obtain⟨v,r,rfl,U,W⟩:=h;simpa[jk] using U
 | x::xs,vs,t+1,h=>by
  rw[aQ] at h;obtain⟨v,r,rfl,U,W⟩:=h;have:=JW (t:=t) W;simpa[jk] using this
def Aa (P:Program)(ρ:AE)(σ:St):ResultVar->Option X
 | .tmp t=>some (ρ t)
 | .cell a T=>match ρ a with
  | .pb r c=>match ai σ r with
   | .box cs=>match cT P T,cn P T with
    | some true,some k=>if ((cs.drop c).take k).length=k then some (.ag ((cs.drop c).take k)) else none
    | some false,_=>cs[c]?
    | _,_=>none
   | _=>none
  | _=>none
theorem KF {P:Program}{w:World}{f:ResultVar->Sem Value}:∀ (l:List ResultVar) (vs:List Value),aL (λr v=>(f r).run P w=.ok v w) l vs->(l.mapM f).run P w=.ok vs w
 | [],vs,h=>by rw[show vs=[] from h];simp
 | r::l,_,⟨v,vs,e,U,W⟩=>by
  subst e;have ih:=KF l vs W;simp[List.mapM_cons,U,ih]
def iU (tmps:Array Value):ResultVar->Sem Value
 | .tmp t=>pure (tmps.getD t undef)
 | .cell a t=>do loadVar t (← asAddr (tmps.getD a undef))
def mI:List Value->Value
 | [v]=>v
 | vs=>.tuple vs.toArray
def jD:List X->X
 | [x]=>x
 | xs=>.tu xs
theorem XU {P:Program}{w:World}{fn:Func}{tmps:Array Value}{l:List ResultVar}{vs:List Value}(hl:fn.results=l.toArray)(h:aL (λr v=>(iU tmps r).run P w=.ok v w) l vs) :
  (results fn tmps).run P w=.ok (mI vs) w:=by
 have U:=KF l vs h;have e:results fn tmps=(fn.results.mapM (iU tmps) >>= λvs=>pure (if h:vs.size=1 then vs[0] else .tuple vs)):=by
  unfold results;congr 1
 rw[e,hl];simp only[List.mapM_toArray,map_eq_pure_bind,Sem.run_bind,U,Result.andThen_ok,Sem.run_pure]
 match vs with
 | []=>rfl
 | [v]=>rfl
 | a::b::l=>simp[mI]
theorem Si {S1:Md->Nat->Prop}{w:World}{g:Nat->G}{xs:List X}{vs:List Value}(h:aQ S1 w g xs vs):vr S1 w g (jD xs) (mI vs):=by
 match xs,h with
 | [],h=>
  rw[aQ] at h;subst h;show vr _ _ _ (.tu []) (.tuple _);rw[vr];exact⟨[],rfl,by rw[aQ]⟩
 | [x],h=>rw[aQ] at h;obtain⟨v,r,rfl,U,W⟩:=h;rw[aQ] at W;subst W;exact U
 | x::y::xs,h=>
  have h0:=h;rw[aQ] at h;obtain⟨v,r,rfl,U,W⟩:=h;rw[aQ] at W;obtain⟨v2,r2,rfl,_,_⟩:=W;show vr _ _ _ (.tu _) (.tuple _);rw[vr];exact⟨_,rfl,h0⟩
def qd (n:Nat):ResultVar->Bool
 | .tmp t=>Nat.blt t n
 | .cell a _=>Nat.blt a n
section
variable {P:Program}{S:Start}{F:Nat->Prop}{g:Nat->G}{w:World}{σ:St}{ρ:AE}
theorem WI {n:Nat}{ρc:Env}(hs:bp S F g (ai σ) w)(hv:VR S F g w ρ ρc){r:ResultVar}(ht:qd n r=true){x:X}(h:Aa P ρ σ r=some x):∃ v,(∀ a:Act,fL n ρc a->(iU a.tmps r).run P w=.ok v w)/\vr (SM F S.B) w g x v:=by
 cases r with
 | tmp t=>
  simp only[Aa] at h;cases h;simp only[qd] at ht;refine⟨ρc t,λa ha=>?_,hv t⟩;simp only[iU,Sem.run_pure];rw[ha.at_ t (by simpa using ht)]
 | cell t T=>
  simp only[Aa] at h;simp only[qd] at ht;split at h;rename_i r c hρ;split at h;rename_i cs hσ;obtain⟨b,T',vs,hg,Y,hcs⟩:=oA hs hσ;have hp:=hv t;rw[hρ,vr,hg] at hp;split at h;rename_i k hagg hk;split at h;rename_i hlen;cases h;have W:=(hcs.drop c).take k;refine⟨.agg ((vs.drop c).take k).toArray,λa ha=>?_,by rw[vr];exact⟨_,rfl,W⟩⟩;have h0:a.tmps.getD t undef=.pointer (some ⟨b,c,none⟩):=(ha.at_ t (by simpa using ht)).trans hp;have hl2:((vs.drop c).take k).length=k:=W.len.trans hlen;have g0:=Go.E.run_loadCellsFrom (P:=P) (w:=w) (b:=b) (off:=c) ((vs.drop c).take k) 0 #[] (Y.part c k);rw[hl2] at g0;simp only[Ajz] at h0;simp[iU,loadVar,loadCells,asAddr,h0,oR hagg,jL hk,g0];cases h;rename_i hagg;obtain⟨v,hv1,hv2⟩:=hcs.get h;refine⟨v,λa ha=>?_,hv2⟩;have h0:a.tmps.getD t undef=.pointer (some ⟨b,c,none⟩):=(ha.at_ t (by simpa using ht)).trans hp;simp only[Ajz] at h0;simp[iU,loadVar,asAddr,h0,oR hagg,load,Sem.run,Y.cell hv1];cases h;cases h;cases h
def nr (P:Program)(ρ:AE)(σ:St):List ResultVar->Option (List X)
 | []=>some []
 | r::l=>match Aa P ρ σ r,nr P ρ σ l with
  | some x,some xs=>some (x::xs)
  | _,_=>none
theorem Lv {n:Nat}{ρc:Env}(hs:bp S F g (ai σ) w)(hv:VR S F g w ρ ρc):∀ {l:List ResultVar},l.all (qd n)=true->∀ {xs:List X},nr P ρ σ l=some xs->∃ vs,(∀ a:Act,fL n ρc a->aL (λr v=>(iU a.tmps r).run P w=.ok v w) l vs)/\aQ (SM F S.B) w g xs vs
 | [],_,xs,h=>by simp only[nr] at h;cases h;exact⟨[],λ_ _=>rfl,by rw[aQ]⟩
 | r::l,ht,xs,h=>by
  simp only[List.all_cons,Afz] at ht;simp only[nr] at h;split at h;rename_i x xs' U W;cases h;obtain⟨v,h3,h4⟩:=WI hs hv ht.1 U;obtain⟨vs,h5,h6⟩:=Lv hs hv ht.2 W;exact⟨v::vs,λa ha=>⟨v,vs,rfl,h3 a ha,h5 a ha⟩,by rw[aQ];exact⟨v,vs,rfl,h4,h6⟩⟩;cases h
end
def cS (P:Program)(S:Start)(fn:Func)(res:X)(post:St):cQ:=λe ρ σ=>(e=.normal∨e=.ret) /\
 ∀ F g w ρc,bp S F g (ai σ) w->VR S F g w ρ ρc->∃ v,(∀ a:Act,fL fn.ntmps ρc a->(results fn a.tmps).run P w=.ok v w)/\∃ F' g',bp S F' g' (ai post) w/\vr (SM F' S.B) w g' res v
theorem Ok.enter {P:Program}{f:Nat}{fn:Func}{c:Code}{args:List X}{pre:St}{res:X}{post:St}{n0:Nat}(hn:pre.length=n0)(hf:P.funcs[f]?=some fn)(Y:fn.body=some c)(hok:gR fn.ntmps c=true)(hs:Nat.ble args.length fn.ntmps=true)
  (h:∀ S:Start,S.n0=n0->AW P S fn.ntmps c (cS P S fn res post) (jk args) pre):Ok P f args pre res post:=by
 intro F B g w vs hsim hvs;have hlen:=hvs.len;refine Go.E.enter (R:=λv w'=>∃ F' g',bp (oo w F B g pre.length) F' g' (ai post) w'/\vr (SM F' B) w' g' res v) hf Y hok (by simpa[hlen] using hs) ?_;refine (h (oo w F B g pre.length) hn F g w _ hsim (λt=>JW hvs)).mono λe ρc w' ⟨ρ,σ,F',g',U,W,he,h3⟩=>?_;obtain⟨v,h4,F2,g2,h5,h6⟩:=h3 F' g' w' ρc U W;have h7:cF (λb=>∃ i,b∈bl (g i)) w w':=h5.chg;rcases he with rfl|rfl<;>exact⟨v,h4,h7,F2,g2,h5,h6⟩
mutual
def dP (r:Nat)(m:Md)(k:Nat)(xs:List D):X->X
 | .ref q none=>bif Aaz q r then .d m (.sl k xs) else .ref q none
 | .vs q none lo n=>bif Aaz q r then .d m (.sl k ((xs.drop lo).take n)) else .vs q none lo n
 | .pe q none j c=>bif Aaz q r then .u else .pe q none j c
 | .ag cs=>.ag (il r m k xs cs)
 | .tu cs=>.tu (il r m k xs cs)
 | .fn f cs=>.fn f (il r m k xs cs)
 | .ref q (some l)=>.ref q (some l)
 | .vs q (some l) lo n=>.vs q (some l) lo n
 | .pe q (some l) j c=>.pe q (some l) j c
 | .d m x=>.d m x
 | .pb q c=>.pb q c
 | .pf m x=>.pf m x
 | .nl k=>.nl k
 | .u=>.u
def il (r:Nat)(m:Md)(k:Nat)(xs:List D):List X->List X
 | []=>[]
 | x::l=>dP r m k xs x::il r m k xs l
end
def FN (r:Nat)(m:Md)(k:Nat)(xs:List D):aw->aw
 | .box cs=>.box (il r m k xs cs)
 | x=>x
def gO (r:Nat)(m:Md)(k:Nat)(xs:List D):Nat->St->St
 | _,[]=>[]
 | i,x::l=>(bif Aaz i r then .dead else FN r m k xs x)::gO r m k xs (i+1) l
theorem sN {r:Nat}{m:Md}{k:Nat}{xs:List D}:∀ {l:St} {i j:Nat},ai l j≠.none->ai (gO r m k xs i l) j=if i+j=r then .dead else FN r m k xs (ai l j)
 | [],i,j,h=>absurd (mA j) h
 | x::l,i,0,h=>by
  simp only[gO,ai,Nat.add_zero];cases Y:Aaz i r with
  | true=>simp[Abz Y]
  | false=>
   have:i≠r:=λe=>by subst e;simp at Y
   simp[this]
 | x::l,i,j+1,h=>by
  simp only[gO,ai];rw[sN (l:=l) (by simpa[ai] using h),show i+1+j=i+(j+1) by omega]
theorem BS {r:Nat}{m:Md}{k:Nat}{xs:List D}:∀ {l:St} {i j:Nat},ai l j=.none->i+j≠r->ai (gO r m k xs i l) j=.none
 | [],i,j,h,_=>by rw[gO];exact mA j
 | x::l,i,0,h,hne=>by
  simp only[ai] at h;subst h;have:Aaz i r=false:=by
   cases Y:Aaz i r with
   | false=>rfl
   | true=>exact absurd (Abz Y) (by simpa using hne)
  simp only[gO,ai,this,FN,cond_false]
 | x::l,i,j+1,h,hne=>by
  simp only[gO,ai];exact BS (l:=l) (by simpa[ai] using h) (by omega)
section
variable {S:Start}{F:Nat->Prop}{g:Nat->G}{w:World}{σ:St}{ρ:AE}
section
variable {B F' : Nat->Prop}{r:Nat}{m:Md}{k:Nat}{xs:List D}{v0:Value}{L:List Nat}{gs:List (List GC)}
mutual
theorem wg (hg:g r=.row v0 k L gs)(hF:∀ b,F b->F' b)(hd:rdC (SM F' B m) w (.sl k xs) v0)(hpart:∀ lo n v,ml v0 k lo n v->rdC (SM F' B m) w (.sl k ((xs.drop lo).take n)) v):∀ {x:X} {v:Value},vr (SM F B) w g x v->vr (SM F' B) w (λi=>if i=r then .dead else g i) (dP r m k xs x) v
 | .ref q none,v,h=>by
  rw[dP];cases Y:Aaz q r with
  | true=>
   have:=Abz Y;subst this;rw[vr,hg] at h;rw[h _ _ rfl];show vr _ _ _ (.d m _) _;rw[vr];exact hd
  | false=>
   have hne:q≠r:=λe=>by subst e;simp at Y
   show vr _ _ _ (.ref q none) _;rw[vr] at h ⊢;simp only[al hne];exact h
 | .vs q none lo n,v,h=>by
  rw[dP];cases Y:Aaz q r with
  | true=>
   have:=Abz Y;subst this;rw[vr,hg] at h;show vr _ _ _ (.d m _) _;rw[vr];exact hpart lo n v (h _ _ rfl)
  | false=>
   have hne:q≠r:=λe=>by subst e;simp at Y
   show vr _ _ _ (.vs q none lo n) _;rw[vr] at h ⊢;simp only[al hne];exact h
 | .pe q none j c,v,h=>by
  rw[dP];cases Y:Aaz q r with
  | true=>show vr _ _ _ .u _;rw[vr];trivial
  | false=>
   have hne:q≠r:=λe=>by subst e;simp at Y
   show vr _ _ _ (.pe q none j c) _;rw[vr] at h ⊢;simp only[al hne];exact h
 | .ag cs,v,h=>by rw[dP];rw[vr] at h ⊢;obtain⟨vs,U,W⟩:=h;exact⟨vs,U,qx hg hF hd hpart W⟩
 | .tu cs,v,h=>by rw[dP];rw[vr] at h ⊢;obtain⟨vs,U,W⟩:=h;exact⟨vs,U,qx hg hF hd hpart W⟩
 | .fn f cs,v,h=>by rw[dP];rw[vr] at h ⊢;obtain⟨vs,U,W⟩:=h;exact⟨vs,U,qx hg hF hd hpart W⟩
 | .ref q (some l),v,h=>by
  rw[dP];rw[vr] at h ⊢;by_cases hq:q=r;simp only[ao hq];trivial;simp only[al hq];exact h
 | .vs q (some l) lo n,v,h=>by
  rw[dP];rw[vr] at h ⊢;by_cases hq:q=r;simp only[ao hq];trivial;simp only[al hq];exact h
 | .pe q (some l) j c,v,h=>by
  rw[dP];rw[vr] at h ⊢;by_cases hq:q=r;simp only[ao hq];trivial;simp only[al hq];exact h
 | .d m x,v,h=>by
  rw[dP];rw[vr] at h ⊢;refine h.mono λb Y=>?_;cases m with
  | fz=>exact hF b Y
  | bo=>exact Y.imp (hF b) id
 | .pb q c,v,h=>by
  rw[dP];rw[vr] at h ⊢;by_cases hq:q=r;simp only[ao hq];simp only[al hq];exact h
 | .pf m ds,v,h=>by
  rw[dP];rw[vr] at h ⊢;obtain⟨b,o,cs,U,W,h3,h4,h5⟩:=h;have up:∀ b,SM F B m b->SM F' B m b:=λb Y=>by
   cases m with
   | fz=>exact hF b Y
   | bo=>exact Y.imp (hF b) id
  exact⟨b,o,cs,U,up b W,h3,h4,h5.mono up⟩
 | .nl k,v,h=>by rw[dP];rw[vr] at h ⊢;exact h
 | .u,v,h=>by rw[dP,vr];trivial
theorem qx (hg:g r=.row v0 k L gs)(hF:∀ b,F b->F' b)(hd:rdC (SM F' B m) w (.sl k xs) v0)(hpart:∀ lo n v,ml v0 k lo n v->rdC (SM F' B m) w (.sl k ((xs.drop lo).take n)) v):∀ {xs' : List X} {vs:List Value},aQ (SM F B) w g xs' vs->aQ (SM F' B) w (λi=>if i=r then .dead else g i) (il r m k xs xs') vs
 | [],vs,h=>by rw[il];rw[aQ] at h ⊢;exact h
 | x::l,vs,h=>by
  rw[il];rw[aQ] at h ⊢;obtain⟨v,r',U,W,h3⟩:=h;exact⟨v,r',U,wg hg hF hd hpart W,qx hg hF hd hpart h3⟩
end
end
theorem zM {r:Nat}{m:Md}{k:Nat}{xs:List D}(hd0:b9 (ai σ) r m k xs [r]):GH S ρ σ (λt=>dP r m k xs (ρ t)) (gO r m k xs 0 σ):=by
 intro F g w ρc hs hv;obtain⟨v,L,gs,cs,hg,hown,hrd,hLb⟩:=wF hs hd0;have Z:ai σ r≠.none:=by cases hd0 with
  | row h _=>rw[h];intro h;cases h
  | deep h _ _ _=>rw[h];intro h;cases h
 let F' : Nat->Prop:=λb=>F b∨b∈bl (g r);have hF:∀ b,F b->F' b:=λb Y=>.inl Y;have up:∀ m b,SM F S.B m b->SM F' S.B m b:=λm b Y=>by
  cases m with
  | fz=>exact .inl Y
  | bo=>exact Y.imp .inl id
 have hL' : ∀ b∈bl (g r),SM F' S.B m b:=λb Y=>by
  cases m with
  | fz=>exact .inr Y
  | bo=>exact .inl (.inr Y)
 have hrd' : bg (SM F' S.B m) w k xs cs:=hrd.mono λb Y=>by
  rcases Y with Y|⟨q,hq,Y⟩
  exact up m b Y;rw[Bpz] at hq;subst hq;exact hL' b Y
 have hd:rdC (SM F' S.B m) w (.sl k xs) v:=wE hown hrd' λb Y=>hL' b (hLb b Y);have hpart:∀ lo n v',ml v k lo n v'->rdC (SM F' S.B m) w (.sl k ((xs.drop lo).take n)) v':=λlo n v' hp=>AO hown hrd' (λb Y=>hL' b (hLb b Y)) hp;have hlt:∀ b,F' b->b<w.heap.size:=λb Y=>Y.elim (hs.flt b) λY=>(hs.own r b Y).1;refine⟨F',λi=>if i=r then .dead else g i,⟨hs.chg,hs.bB,λb Y=>.inl (hs.fmono b Y),λb Y=>?_,hlt,λi=>?_,hs.low,λi=>?_,λi=>?_,λi j hij b Y=>?_,λi b Y=>?_⟩,λt=>wg hg hF hd hpart (hv t)⟩;rcases Y with Y|Y;exact hs.fnew b Y;exact .inr (hs.own r b Y).2.2.2;by_cases hi:i=r;subst hi;rw[sN Z];simp only[Adz,if_true];trivial;simp only[al hi];have U:=hs.roots i;by_cases hn:ai σ i=.none;rw[BS hn (by rw[Adz];exact hi)];rw[hn] at U;exact (by revert U;cases g i<;>intro h<;>first|exact h.elim|trivial);rw[sN hn,Adz,al hi];revert U;cases ai σ i<;>intro U<;>cases hgi:g i<;>rw[hgi] at U<;>try exact U.elim
 trivial;trivial;obtain⟨vs,W,h3⟩:=U;exact⟨vs,W,qx hg hF hd hpart h3⟩;exact⟨U.1,kb U.2 up⟩;exact⟨⟨U.1.1,kb U.1.2 up⟩,U.2.1.adv λq=>by
  by_cases hq:q=r;subst hq;simp only[if_true];rw[hg];exact .inl rfl;simp only[al hq];exact da.refl _,U.2.2⟩
 by_cases hi:i=r;subst hi;simp only[if_true];have:=hs.hdr i;rw[hg] at this;revert this;cases S.g0 i<;>intro h;trivial;cases h;rcases h with h|h<;>cases h;exact .inl rfl;simp only[al hi];exact hs.hdr i;by_cases hi:i=r;simp only[ao hi,bl];exact Caz;simp only[al hi];exact hs.nodup i;by_cases hi:i=r;simp only[ao hi,bl] at Y;cases Y;simp only[al hi] at Y;by_cases hj:j=r;simp only[ao hj,bl];exact List.not_mem_nil;simp only[al hj];exact hs.disj i j hij b Y;by_cases hi:i=r;simp only[ao hi,bl] at Y;cases Y;simp only[al hi] at Y;obtain⟨U,W,h3,h4⟩:=hs.own i b Y;refine⟨U,λhf=>?_,h3,h4⟩;rcases hf with hf|hf;exact W hf;exact hs.disj i r hi b Y hf
theorem vH {r:Nat}{m:Md}{k:Nat}{xs:List D}(Z:ai σ r=.row m k xs):GH S ρ σ (λt=>dP r m k xs (ρ t)) (gO r m k xs 0 σ):=zM (.row Z rfl)
theorem bp.nlRow (h:bp S F g (ai σ) w){r:Nat}(Z:ai σ r=.none)(m:Md)(k:Nat):∃ g',bp S F g' (ai (aK σ r (.row m k []))) w/\cj S.B F g w F g' w/\vr (SM F S.B) w g' (.ref r none) (.slice none 0 0):=by
 obtain⟨U,W⟩:=h.new (r:=r) (x:=.row m k []) (y:=.row (.slice none 0 0) k [] []) Z (cd.refl w) (λ_ _=>⟨rfl,⟨0,Own.nil w 0 0 k,rfl⟩,rfl⟩) (by simp[bl,cw]) (by simp[bl,cw]);refine⟨_,?_,W,?_⟩;have:ai (aK σ r (.row m k []))=λi=>if i=r then .row m k [] else ai σ i:=by
  funext j;exact iY σ r _ j
 rw[this];exact U;rw[vr];simp only[if_true];intro u q hu;simp only[G.at] at hu;cases hu;rfl
theorem CZ {t r k' : Nat}(m:Md)(k:Nat)(ht:ρ t=.nl k')(Z:ai σ r=.none):GH S ρ σ (av ρ t (.ref r none)) (aK σ r (.row m k [])):=by
 intro F g w ρc hs hv;obtain⟨g',U,W,h3⟩:=hs.nlRow Z m k;refine⟨F,g',U,λs=>?_⟩;simp only[av];cases Y:Aaz s t with
 | true=>
  have:=Abz Y;subst this;have h4:=hv s;have h4:ρc s=.slice none 0 0:=by rw[ht,vr] at h4;exact h4
  rw[h4];exact h3
 | false=>exact W _ _ (hv s)
theorem dt {q c r k' : Nat}{cs:List X}(m:Md)(k:Nat)(hq:ai σ q=.box cs)(hc:cs[c]?=some (.nl k'))(Z:ai σ r=.none):GH S ρ σ ρ (aK (aK σ r (.row m k [])) q (.box (cs.set c (.ref r none)))):=by
 intro F g w ρc hs hv;obtain⟨g',U,W,h3⟩:=hs.nlRow Z m k;have hne:q≠r:=λe=>by rw[e,Z] at hq;cases hq
 refine⟨F,g',⟨U.chg,U.bB,U.fmono,U.fnew,U.flt,λi=>?_,U.low,U.hdr,U.nodup,U.disj,U.own⟩,λs=>W _ _ (hv s)⟩;rw[iY];by_cases hi:i=q;subst hi;rw[ao rfl];have h4:=U.roots i;rw[iY,al hne,hq] at h4;cases hgi:g' i<;>rw[hgi] at h4<;>try exact h4.elim
 obtain⟨vs,h5,h6⟩:=h4;refine⟨vs,h5,?_⟩;obtain⟨v,h7,h8⟩:=h6.get hc;have h8:v=.slice none 0 0:=by rw[vr] at h8;exact h8
 have:=h6.set (c:=c) (x:=.ref r none) (v:=v) (by rw[h8];exact h3);rwa[show vs.set c v=vs from List.ext_getElem? λj=>by
  rw[List.getElem?_set];by_cases hj:c=j;subst hj;have hlt:=(List.getElem?_eq_some_iff.1 h7).1;rw[ao rfl,ao hlt,h7];simp[hj]] at this
 rw[al hi];exact U.roots i
end
end Go.A
