/- Abstract states of a walk: plain lemmas on the model, without conditions of their own. -/
import Derived.Test.YtnhofaohogianaaGreatAb3
set_option linter.unusedVariables false
set_option linter.unusedSimpArgs false
set_option linter.ambiguousOpen false
set_option linter.unusedSectionVars false
set_option linter.unnecessarySimpa false
open Nat renaming beq→Aaz,eq_of_beq_eq_true→Abz,zero_add→Adz
open List renaming map_cons→Bhz,nodup_cons→Bwz,mem_singleton→Blz,nodup_nil→Bxz
open Bool renaming and_eq_true→Afz,not_eq_true'→Baz
open Option renaming getD_some→Byz
open Array renaming getD_eq_getD_getElem?→Ajz
namespace Go.A
open Go Go.E
def j4B (w:World)(F B:Nat→Prop)(g:Nat→G)(n:Nat):Start:=⟨w,fun b=>∃ i,b∈bl (g i),F,B,g,n⟩
def Ok (P:Program)(f:Nat)(args:List X)(pre:St)(res:X)(post:St):Prop:=
 ∀ (F B:Nat→Prop) (g:Nat→G) (w:World) (vs:List Value),Sim (j4B w F B g pre.length) F g (fnOf pre) w→vrs (SM F B) w g args vs →
  Ret P f vs.toArray w (fun b=>∃ i,b∈bl (g i)) fun v w'=>∃ F' g',Sim (j4B w F B g pre.length) F' g' (fnOf post) w'∧vr (SM F' B) w' g' res v
def renI:List (Nat×Nat)→Nat→Option Nat
 | [],_=>none
 | (i,j)::l,k=>bif Aaz i k then some j else renI l k
def invI:List (Nat×Nat)→Nat→Option Nat
 | [],_=>none
 | (i,j)::l,k=>bif Aaz j k then some i else invI l k
mutual
def renX (l:List (Nat×Nat)):X→X
 | .ref r p=>match renI l r with|some j=>.ref j p|none=>.u
 | .vs r p a b=>match renI l r with|some j=>.vs j p a b|none=>.u
 | .pb r c=>match renI l r with|some j=>.pb j c|none=>.u
 | .pe r p j c=>match renI l r with|some i=>.pe i p j c|none=>.u
 | .ag cs=>.ag (z5c l cs)
 | .tu cs=>.tu (z5c l cs)
 | .fn f cs=>.fn f (z5c l cs)
 | .d m x=>.d m x
 | .pf m x=>.pf m x
 | .nl k=>.nl k
 | .kv v=>.kv v
 | .pv m v=>.pv m v
 | .u=>.u
def z5c (l:List (Nat×Nat)):List X→List X
 | []=>[]
 | x::xs=>renX l x::z5c l xs
end
def isFz:Md→Bool
 | .fz=>true
 | .bo=>false
def okM (z:Bool)(m:Md):D→Bool
 | .sl _ _=>bif z then isFz m else true
 | .a _=>bif z then isFz m else true
 | _=>true
mutual
def okX (l:List (Nat×Nat))(z:Bool):X→Bool
 | .ref r _=>(renI l r).isSome
 | .vs r _ _ _=>(renI l r).isSome
 | .pb r _=>(renI l r).isSome
 | .pe r _ _ _=>(renI l r).isSome
 | .ag cs=>okXs l z cs
 | .tu cs=>okXs l z cs
 | .fn _ cs=>okXs l z cs
 | .d m x=>okM z m x
 | .pf m _=>bif z then isFz m else true
 | .nl _=>true
 | .kv _=>true
 | .pv m _=>bif z then isFz m else true
 | .u=>true
def okXs (l:List (Nat×Nat))(z:Bool):List X→Bool
 | []=>true
 | x::xs=>okX l z x&&okXs l z xs
end
def renR (l:List (Nat×Nat)):Root→Root
 | .box cs=>.box (z5c l cs)
 | .deep m k es hs=>.deep m k es (hs.map fun p=>(p.1,p.2.1,(renI l p.2.2).getD 0))
 | x=>x
def okR (l:List (Nat×Nat))(z:Bool):Root→Bool
 | .box cs=>okXs l z cs
 | .row m _ _=>bif z then isFz m else true
 | .deep m _ _ hs=>(bif z then isFz m else true)&&hs.all fun p=>(renI l p.2.2).isSome
 | _=>true
theorem z6b:∀ {l:List (Nat×Nat)} {i j:Nat},(l.map (·.2)).Nodup→renI l i=some j→(l.map (·.1)).Nodup→invI l j=some i
 | [],i,j,_,h,_=>by simp[renI] at h
 | (a,b)::l,i,j,hn,h,hm=>by
  simp only[Bhz,Bwz] at hn hm
  simp only[renI] at h
  simp only[invI]
  cases hb:Aaz a i with
  | true=>
   rw[hb] at h
   simp only[cond_true,Option.some.injEq] at h
   subst h
   have:=Abz hb
   subst this
   simp
  | false=>
   rw[hb] at h
   simp only[cond_false] at h
   have ih:=z6b hn.2 h hm.2
   have hmem:j∈l.map (·.2):=by
    clear ih hn hm hb
    induction l with
    | nil=>simp[renI] at h
    | cons p l ihl=>
     simp only[renI] at h
     cases hb:Aaz p.1 i with
     | true=>rw[hb] at h;simp at h;simp[h]
     | false=>rw[hb] at h;simp at h;simp;right;have:=ihl h;simpa using this
   have hne:Aaz b j=false:=by
    cases hbj:Aaz b j with
    | false=>rfl
    | true=>exact absurd ((Abz hbj)▸hmem) hn.1
   rw[hne]
   exact ih
theorem j3c:∀ {l:List (Nat×Nat)} {i j:Nat},invI l j=some i→(l.map (·.1)).Nodup→renI l i=some j
 | [],i,j,h,_=>by simp[invI] at h
 | (a,b)::l,i,j,h,hm=>by
  simp only[Bhz,Bwz] at hm
  simp only[invI] at h
  simp only[renI]
  cases hb:Aaz b j with
  | true=>
   rw[hb] at h
   simp only[cond_true,Option.some.injEq] at h
   subst h
   have:=Abz hb
   subst this
   simp
  | false=>
   rw[hb] at h
   simp only[cond_false] at h
   have ih:=j3c h hm.2
   have hmem:i∈l.map (·.1):=by
    clear ih hm hb
    induction l with
    | nil=>simp[invI] at h
    | cons p l ihl=>
     simp only[invI] at h
     cases hb:Aaz p.2 j with
     | true=>rw[hb] at h;simp at h;simp[h]
     | false=>rw[hb] at h;simp at h;simp;right;have:=ihl h;simpa using this
   have hne:Aaz a i=false:=by
    cases hbj:Aaz a i with
    | false=>rfl
    | true=>exact absurd ((Abz hbj)▸hmem) hm.1
   rw[hne]
   exact ih
section
variable {S1 S2:Md→Nat→Prop}{w:World}{g1 g2:Nat→G}{l:List (Nat×Nat)}{z:Bool}
mutual
theorem k4E (hg:∀ i j,renI l i=some j→Adv (g1 i) (g2 j))(hfz:∀ b,S1 .fz b→S2 .fz b)(hbo:z=false→∀ b,S1 .bo b→S2 .bo b):∀ {x:X} {v:Value},okX l z x=true→vr S1 w g1 x v→vr S2 w g2 (renX l x) v
 | .d m x,v,ho,h=>by
  rw[renX]
  rw[vr] at h ⊢
  cases m with
  | fz=>exact h.mono hfz
  | bo=>
   cases x with
   | sl k xs=>cases z with
    | false=>exact h.mono (hbo rfl)
    | true=>simp[okX,okM,isFz] at ho
   | a cs=>rw[rdC] at h ⊢;exact h
   | i k n=>rw[rdC] at h ⊢;exact h
   | b y=>rw[rdC] at h ⊢;exact h
   | s t=>rw[rdC] at h ⊢;exact h
 | .ag cs,v,ho,h=>by rw[renX];rw[vr] at h ⊢;rw[okX] at ho;obtain⟨vs,h1,h2⟩:=h;exact⟨vs,h1,j4C hg hfz hbo ho h2⟩
 | .tu cs,v,ho,h=>by rw[renX];rw[vr] at h ⊢;rw[okX] at ho;obtain⟨vs,h1,h2⟩:=h;exact⟨vs,h1,j4C hg hfz hbo ho h2⟩
 | .ref r p,v,ho,h=>by
  rw[okX] at ho
  obtain⟨j,hj⟩:=Option.isSome_iff_exists.1 ho
  simp only[renX,hj]
  rw[vr] at h ⊢
  exact h.adv (hg r j hj)
 | .vs r p a b,v,ho,h=>by
  rw[okX] at ho
  obtain⟨j,hj⟩:=Option.isSome_iff_exists.1 ho
  simp only[renX,hj]
  rw[vr] at h ⊢
  exact h.adv (hg r j hj)
 | .pb r c,v,ho,h=>by
  rw[okX] at ho
  obtain⟨j,hj⟩:=Option.isSome_iff_exists.1 ho
  simp only[renX,hj]
  rw[vr] at h ⊢
  have:=hg r j hj
  revert h this
  cases g1 r with
  | none=>intro h;exact h.elim
  | row=>intro h;exact h.elim
  | dead=>intro h hd;rw[show g2 j=.dead from hd];trivial
  | box b T=>intro h hd;rcases hd with hd|hd<;>rw[hd];exact h;trivial
 | .pe r p i c,v,ho,h=>by
  rw[okX] at ho
  obtain⟨j,hj⟩:=Option.isSome_iff_exists.1 ho
  simp only[renX,hj]
  rw[vr] at h ⊢
  exact h.adv (hg r j hj)
 | .pf m xs,v,ho,h=>by
  rw[renX]
  rw[vr] at h ⊢
  obtain⟨b,o,cs,h1,h2,h3,h4,h5⟩:=h
  cases m with
  | fz=>exact⟨b,o,cs,h1,hfz b h2,h3,h4,h5.mono hfz⟩
  | bo=>cases z with
   | false=>exact⟨b,o,cs,h1,hbo rfl b h2,h3,h4,h5.mono (hbo rfl)⟩
   | true=>simp[okX,isFz] at ho
 | .fn f cs,v,ho,h=>by rw[renX];rw[vr] at h ⊢;rw[okX] at ho;obtain⟨vs,h1,h2⟩:=h;exact⟨vs,h1,j4C hg hfz hbo ho h2⟩
 | .nl _,v,ho,h=>by rw[renX];rw[vr] at h ⊢;exact h
 | .kv _,v,ho,h=>by rw[renX];rw[vr] at h ⊢;exact h
 | .pv m u,v,ho,h=>by
  rw[renX]
  rw[vr] at h ⊢
  obtain⟨b,o,h1,h2,h3,h4⟩:=h
  cases m with
  | fz=>exact⟨b,o,h1,hfz b h2,h3,h4⟩
  | bo=>cases z with
   | false=>exact⟨b,o,h1,hbo rfl b h2,h3,h4⟩
   | true=>simp[okX,isFz] at ho
 | .u,v,ho,h=>by rw[renX,vr];trivial
theorem j4C (hg:∀ i j,renI l i=some j→Adv (g1 i) (g2 j))(hfz:∀ b,S1 .fz b→S2 .fz b)(hbo:z=false→∀ b,S1 .bo b→S2 .bo b):∀ {xs:List X} {vs:List Value},okXs l z xs=true→vrs S1 w g1 xs vs→vrs S2 w g2 (z5c l xs) vs
 | [],vs,ho,h=>by rw[z5c];rw[vrs] at h ⊢;exact h
 | x::xs,vs,ho,h=>by
  rw[okXs,Afz] at ho
  rw[z5c]
  rw[vrs] at h ⊢
  obtain⟨v,r,h1,h2,h3⟩:=h
  exact⟨v,r,h1,k4E hg hfz hbo ho.1 h2,j4C hg hfz hbo ho.2 h3⟩
end
end
section
variable {S1 S2:Md→Nat→Prop}{w:World}{g1 g2:Nat→G}{l:List (Nat×Nat)}{z:Bool}
mutual
theorem k4F (hg:∀ i j,renI l i=some j→g1 i=g2 j)(hS:∀ m b,S2 m b→S1 m b):∀ {x:X} {v:Value},okX l z x=true→vr S2 w g2 (renX l x) v→vr S1 w g1 x v
 | .d m x,v,ho,h=>by rw[renX] at h;rw[vr] at h ⊢;exact h.mono (hS m)
 | .ag cs,v,ho,h=>by rw[renX] at h;rw[vr] at h ⊢;rw[okX] at ho;obtain⟨vs,h1,h2⟩:=h;exact⟨vs,h1,z7v hg hS ho h2⟩
 | .tu cs,v,ho,h=>by rw[renX] at h;rw[vr] at h ⊢;rw[okX] at ho;obtain⟨vs,h1,h2⟩:=h;exact⟨vs,h1,z7v hg hS ho h2⟩
 | .ref r p,v,ho,h=>by
  rw[okX] at ho
  obtain⟨j,hj⟩:=Option.isSome_iff_exists.1 ho
  simp only[renX,hj] at h
  rw[vr] at h ⊢
  rw[hg r j hj];exact h
 | .vs r p a b,v,ho,h=>by
  rw[okX] at ho
  obtain⟨j,hj⟩:=Option.isSome_iff_exists.1 ho
  simp only[renX,hj] at h
  rw[vr] at h ⊢
  rw[hg r j hj];exact h
 | .pb r c,v,ho,h=>by
  rw[okX] at ho
  obtain⟨j,hj⟩:=Option.isSome_iff_exists.1 ho
  simp only[renX,hj] at h
  rw[vr] at h ⊢
  rw[hg r j hj];exact h
 | .pe r p i c,v,ho,h=>by
  rw[okX] at ho
  obtain⟨j,hj⟩:=Option.isSome_iff_exists.1 ho
  simp only[renX,hj] at h
  rw[vr] at h ⊢
  rw[hg r j hj];exact h
 | .pf m xs,v,ho,h=>by
  rw[renX] at h
  rw[vr] at h ⊢
  obtain⟨b,o,cs,h1,h2,h3,h4,h5⟩:=h
  exact⟨b,o,cs,h1,hS m b h2,h3,h4,h5.mono (hS m)⟩
 | .fn f cs,v,ho,h=>by rw[renX] at h;rw[vr] at h ⊢;rw[okX] at ho;obtain⟨vs,h1,h2⟩:=h;exact⟨vs,h1,z7v hg hS ho h2⟩
 | .nl _,v,ho,h=>by rw[renX] at h;rw[vr] at h ⊢;exact h
 | .kv _,v,ho,h=>by rw[renX] at h;rw[vr] at h ⊢;exact h
 | .pv m u,v,ho,h=>by
  rw[renX] at h
  rw[vr] at h ⊢
  obtain⟨b,o,h1,h2,h3,h4⟩:=h
  exact⟨b,o,h1,hS m b h2,h3,h4⟩
 | .u,v,ho,h=>by rw[vr];trivial
theorem z7v (hg:∀ i j,renI l i=some j→g1 i=g2 j)(hS:∀ m b,S2 m b→S1 m b):∀ {xs:List X} {vs:List Value},okXs l z xs=true→vrs S2 w g2 (z5c l xs) vs→vrs S1 w g1 xs vs
 | [],vs,ho,h=>by rw[z5c] at h;rw[vrs] at h ⊢;exact h
 | x::xs,vs,ho,h=>by
  rw[okXs,Afz] at ho
  rw[z5c] at h
  rw[vrs] at h ⊢
  obtain⟨v,r,h1,h2,h3⟩:=h
  exact⟨v,r,h1,k4F hg hS ho.1 h2,z7v hg hS ho.2 h3⟩
end
end
theorem k2s {g1 g2:Nat→G}{l:List (Nat×Nat)}{hs:List (Nat×Nat×Nat)}{gs:List (List GC)}(h:holesOk g1 hs gs)(ho:(hs.all fun p=>(renI l p.2.2).isSome)=true)(hg:∀ i j,renI l i=some j→Adv (g1 i) (g2 j)):holesOk g2 (hs.map fun p=>(p.1,p.2.1,(renI l p.2.2).getD 0)) gs:=by
 intro p hp gc hgc
 obtain⟨q,hq,rfl⟩:=List.mem_map.1 hp
 obtain⟨j,hj⟩:=Option.isSome_iff_exists.1 (List.all_eq_true.1 ho q hq)
 simp only[hj,Byz]
 exact (h q hq gc hgc).adv (hg _ _ hj)
theorem j8x {g1 g2:Nat→G}{l:List (Nat×Nat)}{hs:List (Nat×Nat×Nat)}{gs:List (List GC)}(h:holesOk g2 (hs.map fun p=>(p.1,p.2.1,(renI l p.2.2).getD 0)) gs)(ho:(hs.all fun p=>(renI l p.2.2).isSome)=true)(hg:∀ i j,renI l i=some j→g1 i=g2 j):holesOk g1 hs gs:=by
 intro q hq gc hgc
 obtain⟨j,hj⟩:=Option.isSome_iff_exists.1 (List.all_eq_true.1 ho q hq)
 have:=h _ (List.mem_map.2 ⟨q,hq,rfl⟩) gc hgc
 simp only[hj,Byz] at this
 rw[hg _ _ hj];exact this
mutual
inductive Pass (σ:Nat→Root) (l:List (Nat×Nat)) (vw:List Nat):X→X→Prop
 | same {m:Md} {x:D}:Pass σ l vw (.d m x) (.d m x)
 | d {m m' : Md} {x:D} (h:mle m m'=true):Pass σ l vw (.d m x) (.d m' x)
 | ag {cs cs' : List X} (h:PassL σ l vw cs cs'):Pass σ l vw (.ag cs) (.ag cs')
 | pb {r i c:Nat} (h:renI l i=some r):Pass σ l vw (.pb r c) (.pb i c)
 | ref {r i:Nat} {p:Option (Nat×Nat)} (h:renI l i=some r):Pass σ l vw (.ref r p) (.ref i p)
 | rd {r k:Nat} {p:Option (Nat×Nat)} {m:Md} {ys:List D} (h:z6G (σ r) p=some (m,k,ys)) (hc:vw.contains r=true):Pass σ l vw (.ref r p) (.d .bo (.sl k ys))
 | vd {r k a b:Nat} {p:Option (Nat×Nat)} {m:Md} {zs:List D} (h:z6G (σ r) p=some (m,k,zs)) (hc:vw.contains r=true):Pass σ l vw (.vs r p a b) (.d .bo (.sl k ((zs.drop a).take b)))
 | dd {r k:Nat} {m:Md} {ds:List D} {qs:List Nat} (h:DataAt σ r m k ds qs) (hc:qs.all (vw.contains ·)=true):Pass σ l vw (.ref r none) (.d .bo (.sl k ds))
 | nld {k k' : Nat} {m:Md}:Pass σ l vw (.nl k) (.d m (.sl k' []))
 | nl {k k' : Nat}:Pass σ l vw (.nl k) (.nl k')
 | fn {f:Nat} {cs cs' : List X} (h:PassL σ l vw cs cs'):Pass σ l vw (.fn f cs) (.fn f cs')
 | pf {m m' : Md} {ds:List D} (h:mle m m'=true):Pass σ l vw (.pf m ds) (.pf m' ds)
 | u {x:X}:Pass σ l vw x .u
inductive PassL (σ:Nat→Root) (l:List (Nat×Nat)) (vw:List Nat):List X→List X→Prop
 | nil:PassL σ l vw [] []
 | cons {x y:X} {xs ys:List X} (h:Pass σ l vw x y) (h2:PassL σ l vw xs ys):PassL σ l vw (x::xs) (y::ys)
end
section
variable {S:Start}{F Bc:Nat→Prop}{g g1:Nat→G}{σ1:Nat→Root}{w:World}{l:List (Nat×Nat)}{vw:List Nat}
mutual
theorem j9Q (hs:Sim S F g σ1 w)(hg:∀ i j,renI l i=some j→g1 i=g j)(hB:∀ b,S.B b→Bc b)(hvw:∀ r b,vw.contains r=true→b∈bl (g r)→Bc b):∀ {x y:X},Pass σ1 l vw x y→∀ {v:Value},vr (SM F S.B) w g x v→vr (SM F Bc) w g1 y v
 | _,_,.d (m:=m) (m':=m') hm,v,h=>by
  rw[vr] at h ⊢
  refine (h.mono (z9k hm)).mono fun b hb=>?_
  cases m' with
  | fz=>exact hb
  | bo=>exact hb.imp id (hB b)
 | _,_,.same (m:=m),v,h=>by
  rw[vr] at h ⊢
  refine h.mono fun b hb=>?_
  cases m with
  | fz=>exact hb
  | bo=>exact hb.imp id (hB b)
 | _,_,.ag hp,v,h=>by rw[vr] at h ⊢;obtain⟨vs,h1,h2⟩:=h;exact⟨vs,h1,z7w hs hg hB hvw hp h2⟩
 | _,_,.pb (r:=r) (i:=i) h1,v,h=>by
  rw[vr] at h ⊢
  rw[hg i r h1];exact h
 | _,_,.ref (r:=r) (i:=i) h1,v,h=>by
  rw[vr] at h ⊢
  rw[hg i r h1];exact h
 | _,_,.rd (r:=r) (k:=k) (p:=p) (m:=m) (ys:=ys) hrow hc,v,h=>by
  obtain⟨A,cp,cs,h1,h2,h3,h4,h5⟩:=j7z hs (x:=.ref r p) (by rw[srcD];exact hrow) h
  show rdC _ _ _ _
  rw[rdC]
  refine⟨A,cp,cs,h1,h2,h3,h4.mono fun b hb=>?_,h5.imp id fun ⟨b,o,e1,e2,e3,e4⟩=>⟨b,o,e1,?_,e3,e2⟩⟩
  ·cases m with
   | fz=>exact .inl hb
   | bo=>exact hb.imp id (hB b)
  ·rcases e4 with e4|⟨r',e5,e6⟩
   ·cases m with
    | fz=>exact .inl e4
    | bo=>exact e4.imp id (hB b)
   ·simp only[q7C,Blz] at e5
    subst e5
    exact .inr (hvw _ b hc e6)
 | _,_,.vd (r:=r) (k:=k) (a:=a) (b:=c) (p:=p) (m:=m) (zs:=zs) hrow hc,v,h=>by
  obtain⟨A,cp,cs,h1,h2,h3,h4,h5⟩:=j7z hs (x:=.vs r p a c) (m:=m) (k:=k) (ys:=(zs.drop a).take c) (by rw[srcD,hrow];rfl) h
  show rdC _ _ _ _
  rw[rdC]
  refine⟨A,cp,cs,h1,h2,h3,h4.mono fun b hb=>?_,h5.imp id fun ⟨b,o,e1,e2,e3,e4⟩=>⟨b,o,e1,?_,e3,e2⟩⟩
  ·cases m with
   | fz=>exact .inl hb
   | bo=>exact hb.imp id (hB b)
  ·rcases e4 with e4|⟨r',e5,e6⟩
   ·cases m with
    | fz=>exact .inl e4
    | bo=>exact e4.imp id (hB b)
   ·simp only[q7C,Blz] at e5
    subst e5
    exact .inr (hvw _ b hc e6)
 | _,_,.dd (r:=r) (m:=m) (qs:=qs) h hc,v,hv=>by
  obtain⟨u,L,gs,cs,hg',h1,h2,h3⟩:=j9O hs h
  rw[vr,hg'] at hv
  have hv:=hv _ _ rfl
  subst hv
  have hq:∀ q∈qs,vw.contains q=true:=List.all_eq_true.1 hc
  rw[vr]
  refine j9P h1 (h2.mono fun b hb=>?_) fun b hb=>.inr (hvw r b (hq r h.mem) (h3 b hb))
  rcases hb with hb|⟨q,hq',hb⟩
  ·cases m with
   | fz=>exact .inl hb
   | bo=>exact hb.imp id (hB b)
  ·exact .inr (hvw q b (hq q hq') hb)
 | _,_,.nld,v,h=>by
  have h:v=.slice none 0 0:=by rw[vr] at h;exact h
  show rdC _ _ (.sl _ []) v
  rw[rdC]
  exact⟨none,0,[],h,Nat.le_refl _,Nat.zero_le _,by rw[rdE],.inl rfl⟩
 | _,_,.nl,v,h=>by
  have h:v=.slice none 0 0:=by rw[vr] at h;exact h
  rw[vr];exact h
 | _,_,.fn hp,v,h=>by rw[vr] at h ⊢;obtain⟨vs,h1,h2⟩:=h;exact⟨vs,h1,z7w hs hg hB hvw hp h2⟩
 | _,_,.pf (m:=m) (m':=m') hm,v,h=>by
  rw[vr] at h ⊢
  obtain⟨b,o,cs,h1,h2,h3,h4,h5⟩:=h
  have up:∀ b,SM F S.B m b→SM F Bc m' b:=fun b hb=>by
   have:=z9k hm b hb
   cases m' with
   | fz=>exact this
   | bo=>exact this.imp id (hB b)
  exact⟨b,o,cs,h1,up b h2,h3,h4,h5.mono up⟩
 | _,_,.u,v,_=>by rw[vr];trivial
theorem z7w (hs:Sim S F g σ1 w)(hg:∀ i j,renI l i=some j→g1 i=g j)(hB:∀ b,S.B b→Bc b)(hvw:∀ r b,vw.contains r=true→b∈bl (g r)→Bc b):∀ {xs ys:List X},PassL σ1 l vw xs ys→∀ {vs:List Value},vrs (SM F S.B) w g xs vs→vrs (SM F Bc) w g1 ys vs
 | _,_,.nil,vs,h=>by rw[vrs] at h ⊢;exact h
 | _,_,.cons hp hp2,vs,h=>by
  rw[vrs] at h ⊢
  obtain⟨v,r,h1,h2,h3⟩:=h
  exact⟨v,r,h1,j9Q hs hg hB hvw hp h2,z7w hs hg hB hvw hp2 h3⟩
end
mutual
theorem j8y {σ2:Nat→Root}{rd:List Nat}(hc:∀ r∈rd,σ1 r=σ2 r)(hv:∀ r,vw.contains r=true→r∈rd):∀ {x y:X},Pass σ2 l vw x y→Pass σ1 l vw x y
 | _,_,.same=>.same
 | _,_,.d hm=>.d hm
 | _,_,.ag hp=>.ag (z4t hc hv hp)
 | _,_,.pb h=>.pb h
 | _,_,.ref h=>.ref h
 | _,_,.rd h h2=>.rd (by rw[hc _ (hv _ h2)];exact h) h2
 | _,_,.vd h h2=>.vd (by rw[hc _ (hv _ h2)];exact h) h2
 | _,_,.dd h h2=>.dd (h.congr fun q hq=>hc q (hv q (List.all_eq_true.1 h2 q hq))) h2
 | _,_,.nld=>.nld
 | _,_,.nl=>.nl
 | _,_,.fn hp=>.fn (z4t hc hv hp)
 | _,_,.pf hm=>.pf hm
 | _,_,.u=>.u
theorem z4t {σ2:Nat→Root}{rd:List Nat}(hc:∀ r∈rd,σ1 r=σ2 r)(hv:∀ r,vw.contains r=true→r∈rd):∀ {xs ys:List X},PassL σ2 l vw xs ys→PassL σ1 l vw xs ys
 | _,_,.nil=>.nil
 | _,_,.cons h h2=>.cons (j8y hc hv h) (z4t hc hv h2)
end
end
def allI (p:Nat→Root→Bool):Nat→St→Bool
 | _,[]=>true
 | i,x::l=>p i x&&allI p (i+1) l
def isNone:Root→Bool
 | .none=>true
 | _=>false
def PreL (σ pre:Nat→Root)(l0:List (Nat×Nat)):List (Nat×Nat)→Prop
 | []=>True
 | (i,j)::l=>σ j=renR l0 (pre i)∧PreL σ pre l0 l
def z3J:List Nat→Bool
 | []=>true
 | x::l=>!l.contains x&&z3J l
theorem q8f:∀ {l:List Nat},z3J l=true→l.Nodup
 | [],_=>Bxz
 | x::l,h=>by
  simp only[z3J,Afz,Baz] at h
  rw[Bwz]
  exact⟨fun hm=>by simp[hm] at h,q8f h.2⟩
def j4D (ren:List (Nat×Nat))(vw:List Nat)(pre post:St)(res:X):Bool:=
 z3J (ren.map (·.1))&&z3J (ren.map (·.2))&&vw.all (fun r=>!(ren.map (·.2)).contains r) &&
 allI (fun i x=>isNone x||((renI ren i).isSome&&okR ren false x)) 0 pre &&
 allI (fun i x=>isNone x||((renI ren i).isSome&&okR ren (!vw.isEmpty) x)) 0 post&&okX ren (!vw.isEmpty) res
def j0m (ren:List (Nat×Nat))(x:Root):Root:=match x with
 | .none=>.dead
 | x=>renR ren x
theorem z9Z {p:Nat→Root→Bool}:∀ {l:St} {k i:Nat},allI p k l=true→(isNone (fnOf l i)=true∨p (k+i) (fnOf l i)=true)
 | [],k,i,_=>.inl (by rw[z0N];rfl)
 | x::l,k,0,h=>by simp only[allI,Afz] at h;exact .inr h.1
 | x::l,k,i+1,h=>by
  simp only[allI,Afz] at h
  have:=z9Z (i:=i) h.2
  rwa[show k+1+i=k+(i+1) by omega] at this
theorem j4E {x:Root}(h:isNone x=true):x=.none:=by cases x<;>first|rfl|cases h
theorem j7D:∀ {l:St} {i:Nat},l.length≤i→fnOf l i=.none
 | [],i,_=>z0N i
 | x::l,0,h=>by simp at h
 | x::l,i+1,h=>by simp only[fnOf];exact j7D (by simpa using h)
theorem PreL.get {σ pre:Nat→Root}{l0:List (Nat×Nat)}:∀ {l:List (Nat×Nat)} {i j:Nat},PreL σ pre l0 l→renI l i=some j→σ j=renR l0 (pre i)
 | [],i,j,_,h=>by simp[renI] at h
 | (a,b)::l,i,j,hp,h=>by
  simp only[renI] at h
  cases hb:Aaz a i with
  | true=>rw[hb] at h;simp at h;subst h;have:=Abz hb;subst this;exact hp.1
  | false=>rw[hb] at h;simp at h;exact hp.2.get h
theorem j0a:∀ {l:List (Nat×Nat)} {i j:Nat},renI l i=some j→(i,j)∈l
 | [],i,j,h=>by simp[renI] at h
 | (a,b)::l,i,j,h=>by
  simp only[renI] at h
  cases hb:Aaz a i with
  | true=>rw[hb] at h;simp at h;subst h;have:=Abz hb;subst this;simp
  | false=>rw[hb] at h;simp at h;exact List.mem_cons_of_mem _ (j0a h)
theorem j5Z {h:Nat→Root}:∀ (l:List (Nat×Nat)) (σ:Nat→Root) (j:Nat),(l.map (·.2)).Nodup→owr σ (l.map fun p=>(p.2,h p.1)) j=match invI l j with|some i=>h i|none=>σ j
 | [],σ,j,_=>rfl
 | (a,b)::l,σ,j,hn=>by
  simp only[Bhz,Bwz] at hn
  rw[Bhz,owr,j5Z l _ j hn.2]
  simp only[invI]
  cases hb:Aaz b j with
  | true=>
   have:=Abz hb
   subst this
   have hi:invI l b=none:=by
    cases hi:invI l b with
    | none=>rfl
    | some i=>
     exfalso
     apply hn.1
     clear hn hb
     induction l with
     | nil=>simp[invI] at hi
     | cons p l ih=>
      simp only[invI] at hi
      cases hb:Aaz p.2 b with
      | true=>have:=Abz hb;simp[this]
      | false=>rw[hb] at hi;simp at hi;have:=ih hi;simp;right;simpa using this
   rw[hi]
   simp
  | false=>
   have hne:j≠b:=fun e=>by subst e;simp at hb
   simp only[cond_false]
   cases invI l j with
   | some i=>rfl
   | none=>simp[hne]
theorem z8w {S1 S2:Md→Nat→Prop}{w:World}{m:Md}{xs:List D}{v:Value}{k:Nat}{L:List Nat}{gs:List (List GC)}(h:rowOk S1 w (xs.map (elOf m)) v k L gs)(hm:∀ b,S1 m b→S2 m b):rowOk S2 w (xs.map (elOf m)) v k L gs:=by
 have cells:∀ (ds:List D) (ge:List GC),all2 (cellOk S1 w) (ds.map (Cell.d m)) ge→all2 (cellOk S2 w) (ds.map (Cell.d m)) ge:=by
  intro ds
  induction ds with
  | nil=>exact fun _ h=>h
  | cons d ds ih=>exact fun ge ⟨gc,r,h1,h2,h3⟩=>⟨gc,r,h1,⟨h2.1,h2.2.1,h2.2.2.mono hm⟩,ih r h3⟩
 refine⟨h.1,?_⟩
 have:=h.2
 clear h
 induction xs generalizing gs with
 | nil=>exact this
 | cons x xs ih=>
  obtain⟨ge,r,h1,h2,h3⟩:=this
  exact⟨ge,r,h1,⟨h2.1,cells _ _ h2.2⟩,ih h3⟩
theorem z7x {S1 S2:Md→Nat→Prop}{w:World}{es:List (List Cell)}{v:Value}{k:Nat}{L:List Nat}{gs:List (List GC)}(h:rowOk S1 w es v k L gs)(hm:∀ m b,S1 m b→S2 m b):rowOk S2 w es v k L gs:=
 h.keep (fun m b o cs hb hl ha=>⟨hm m b hb,hl,ha⟩) fun _ _=>rfl
section
variable {P:Program}{S:Start}{n:Nat}{ρ:AE}{σ:St}{o:Oper}
theorem q1r {f:Nat}{c:Call}{x:Operand}{caps axs args:List X}{pre post:St}{res:X}(ren:List (Nat×Nat))(vw:List Nat)(ho:o.op=.call c)(hc:c.callee=.value x)(hx:evX ρ x=.fn f caps)(hcb:q9d P f=true)(ha:c.args.toList.map (evX ρ)++caps=axs)
  (ok:Ok P f args pre res post) (hp:PassL (fnOf σ) ren vw axs args) (hpre:PreL (fnOf σ) (fnOf pre) ren ren) (hchk:j4D ren vw pre post res=true) :
  LT P S o ρ σ vw (renX ren res) (ren.map fun p=>(p.2,j0m ren (fnOf post p.1))):=by
 intro σ1 F g w ρc hs hrd hwr hv
 simp only[j4D,Afz] at hchk
 obtain⟨⟨⟨⟨⟨hn1,hn2⟩,hvd⟩,hck1⟩,hck2⟩,hck3⟩:=hchk
 have hn1:=q8f hn1
 have hn2:=q8f hn2
 have hσ:∀ i j,renI ren i=some j→σ1 j=renR ren (fnOf pre i):=fun i j hij=>by
  rw[hwr (j,j0m ren (fnOf post i)) (List.mem_map.2 ⟨(i,j),j0a hij,rfl⟩)]
  exact hpre.get hij
 let gc:Nat→G:=fun i=>match renI ren i with|some j=>g j|none=>.none
 let Bc:Nat→Prop:=fun b=>S.B b∨∃ r,vw.contains r=true∧b∈bl (g r)
 have hgc:∀ i j,renI ren i=some j→gc i=g j:=fun i j h=>by simp only[gc,h]
 have hgcn:∀ i,renI ren i=none→gc i=.none:=fun i h=>by simp only[gc,h]
 have inj:∀ i i' j,renI ren i=some j→renI ren i'=some j→i=i':=fun i i' j h h'=>Option.some.inj ((z6b hn2 h hn1).symm.trans (z6b hn2 h' hn1))
 have mem2:∀ i j,renI ren i=some j→j∈ren.map (·.2):=fun i j h=>List.mem_map.2 ⟨(i,j),j0a h,rfl⟩
 have vwne:∀ r i j,vw.contains r=true→renI ren i=some j→j≠r:=fun r i j hr hij e=>by
  have:=List.all_eq_true.1 hvd r (by simpa using hr)
  rw[← e] at this
  simp only[Baz,List.contains_eq_mem,decide_eq_false_iff_not] at this
  exact this (mem2 i j hij)
 have blc:∀ i b,b∈bl (gc i)→∃ j,renI ren i=some j∧b∈bl (g j):=fun i b hb=>by
  cases hi:renI ren i with
  | none=>rw[hgcn i hi] at hb;cases hb
  | some j=>rw[hgc i j hi] at hb;exact⟨j,rfl,hb⟩
 have hBlt:∀ b,Bc b→b<w.heap.size∧¬ ∃ i,b∈bl (gc i):=fun b hb=>by
  rcases hb with hb|⟨r,hr,hb⟩
  ·refine⟨Nat.lt_of_lt_of_le (hs.bB b hb).1 hs.chg.size,fun ⟨i,hi⟩=>?_⟩
   obtain⟨j,_,hj⟩:=blc i b hi
   exact (hs.own j b hj).2.2.1 hb
  ·refine⟨(hs.own r b hb).1,fun ⟨i,hi⟩=>?_⟩
   obtain⟨j,hij,hj⟩:=blc i b hi
   exact hs.disj j r (vwne r i j hr hij) b hj hb
 have hsub:∀ m b,SM F S.B m b→SM F Bc m b:=fun m b hb=>by
  cases m with
  | fz=>exact hb
  | bo=>exact hb.imp id .inl
 have hstart:Sim (j4B w F Bc gc pre.length) F gc (fnOf pre) w:=by
  refine⟨Chg.refl w,hBlt,fun b hb=>hb,fun b hb=>.inl hb,hs.flt,fun i=>?_,fun i hi=>?_,fun i=>?_,fun i=>?_,fun i i' hne b hb hb'=>?_,fun i b hb=>?_⟩
  ·cases hi:renI ren i with
   | none=>
    rw[hgcn i hi]
    have hpi:fnOf pre i=.none:=by
     rcases z9Z (i:=i) hck1 with h|h
     ·exact j4E h
     ·rw[Adz,hi] at h
      simp at h
      exact j4E h
    rw[hpi];trivial
   | some j=>
    rw[hgc i j hi]
    have hr:=hs.roots j
    rw[hσ i j hi] at hr
    have hok:isNone (fnOf pre i)=true∨okR ren false (fnOf pre i)=true:=by
     rcases z9Z (i:=i) hck1 with h|h
     ·exact .inl h
     ·simp only[Bool.or_eq_true,Afz] at h
      exact h.imp id (·.2)
    revert hr hok
    cases fnOf pre i<;>intro hr hok<;>cases hg:g j<;>rw[hg] at hr<;>try exact hr.elim
    ·trivial
    ·trivial
    ·obtain⟨vs,h1,h2⟩:=hr
     refine⟨vs,h1,z7v (S2:=SM F S.B) (g2:=g) (z:=false) hgc hsub ?_ h2⟩
     rcases hok with hok|hok
     ·cases hok
     ·exact hok
    ·exact⟨hr.1,z7x hr.2 hsub⟩
    ·rename_i m k es hh v k' L gs
     refine⟨⟨hr.1.1,z7x hr.1.2 hsub⟩,?_,hr.2.2⟩
     rcases hok with hok|hok
     ·cases hok
     ·simp only[okR,Afz] at hok
      exact j8x hr.2.1 hok.2 hgc
  ·show gc i=.none
   cases hi' : renI ren i with
   | none=>exact hgcn i hi'
   | some j=>
    rw[hgc i j hi']
    refine j3b hs ?_
    rw[hσ i j hi',j7D hi]
    rfl
  ·show j2r (gc i) (gc i)
   cases gc i with
   | none=>trivial
   | dead=>rfl
   | box b T=>exact .inl rfl
   | row v k L gs=>exact .inr ⟨L,gs,rfl⟩
  ·cases hi:renI ren i with
   | none=>rw[hgcn i hi];exact Bxz
   | some j=>rw[hgc i j hi];exact hs.nodup j
  ·obtain⟨j,hj,hbj⟩:=blc i b hb
   obtain⟨j',hj',hbj'⟩:=blc i' b hb'
   exact hs.disj j j' (fun e=>hne (inj i i' j hj (e▸hj'))) b hbj hbj'
  ·obtain⟨j,hj,hbj⟩:=blc i b hb
   refine⟨(hs.own j b hbj).1,(hs.own j b hbj).2.1,fun hB=>(hBlt b hB).2 ⟨i,hb⟩,.inl ⟨i,hb⟩⟩
 -- the arguments
 have hxv:=hv x (by simp[ho,Op.operands,Call.operands,hc])
 rw[hx,vr] at hxv
 obtain⟨cvs,hfn,hcaps⟩:=hxv
 have hargs:vrs (SM F S.B) w g axs (c.args.toList.map (E.ev ρc)++cvs):=by
  rw[← ha]
  refine vrs.append (z8v fun y hy=>hv y ?_) hcaps
  simp only[ho,Op.operands,Call.operands,hc]
  simp only[Array.mem_append]
  exact .inr (by simpa using hy)
 have hp1:PassL σ1 ren vw axs args:=z4t (rd:=vw) (fun r hr=>hrd r hr) (fun r hr=>by simpa using hr) hp
 have hvs:=z7w (Bc:=Bc) hs hgc (fun b hb=>.inl hb) (fun r b hr hb=>.inr ⟨r,hr,hb⟩) hp1 hargs
 have hret:=ok F Bc gc w _ hstart hvs
 have he:(execOp (E.ev ρc) o).run P w=.ok (.enter f (c.args.toList.map (E.ev ρc)++cvs).toArray) w:=by
  simp only[execOp,ho]
  exact j2T hc hfn hcb (by simp)
 rw[he]
 refine Calls.mono hret fun e w' ⟨v,hev,hchg,F',gc',hs',hres⟩=>⟨v,hev,?_⟩
 let g' : Nat→G:=fun j=>match invI ren j with|some i=>(match gc' i with|.none=>.dead|y=>y)|none=>g j
 have hg'1:∀ i j,renI ren i=some j→g' j=(match gc' i with|.none=>.dead|y=>y):=fun i j h=>by simp only[g',z6b hn2 h hn1]
 have hg'2:∀ j,invI ren j=none→g' j=g j:=fun j h=>by simp only[g',h]
 have hadv:∀ i j,renI ren i=some j→Adv (gc' i) (g' j):=fun i j h=>by
  rw[hg'1 i j h]
  cases gc' i<;>first|trivial|exact Adv.refl _
 have blg:∀ i j,renI ren i=some j→bl (g' j)=bl (gc' i):=fun i j h=>by
  rw[hg'1 i j h]
  cases gc' i<;>rfl
 have hz:(!vw.isEmpty)=false→∀ b,SM F' Bc .bo b→SM F' S.B .bo b:=fun hz b hb=>by
  have:vw=[]:=by simpa using hz
  subst this
  rcases hb with hb|hb|⟨r,hr,_⟩
  ·exact .inl hb
  ·exact .inr hb
  ·simp at hr
 have hck2' : ∀ i,isNone (fnOf post i)=true∨((renI ren i).isSome=true∧okR ren (!vw.isEmpty) (fnOf post i)=true):=fun i=>by
  rcases z9Z (i:=i) hck2 with h|h
  ·exact .inl h
  ·simp only[Bool.or_eq_true,Afz,Adz] at h
   exact h.imp id fun h=>⟨h.1,h.2⟩
 obtain⟨h1,h2⟩:=hs.step (g':=g') (σ':=owr σ1 (ren.map fun p=>(p.2,j0m ren (fnOf post p.1)))) (F':=F') (w':=w') (fun j=>∃ i,renI ren i=some j) hchg
  (fun b hb _=>by
   obtain⟨i,hi⟩:=hb
   obtain⟨j,hj,hbj⟩:=blc i b hi
   exact⟨j,⟨i,hj⟩,hbj⟩)
  (fun j hj=>by
   have hinv:invI ren j=none:=by
    cases hi:invI ren j with
    | none=>rfl
    | some i=>exact absurd ⟨i,j3c hi hn1⟩ hj
   refine⟨hg'2 j hinv,?_⟩
   rw[j5Z (h:=fun i=>j0m ren (fnOf post i)) ren σ1 j hn2,hinv])
  (fun j ⟨i,hij⟩=>by
   rw[← hgc i j hij,hg'1 i j hij]
   have hh:=hs'.hdr i
   have hroot:=hs'.roots i
   have hsim:=hck2' i
   simp only[j4B] at hh
   cases hg0:gc i with
   | none=>trivial
   | dead=>rw[hg0] at hh;rw[show gc' i=.dead from hh];rfl
   | box b T=>
    rw[hg0] at hh
    rcases hh with hh|hh<;>rw[hh]
    ·exact .inl rfl
    ·exact .inr rfl
   | row v0 k L gs=>
    rw[hg0] at hh
    rcases hh with hh|⟨L',gs',hh⟩<;>rw[hh]
    ·exact .inl rfl
    ·exact .inr ⟨L',gs',rfl⟩)
  (fun b hb=>hs'.fmono b hb)
  (fun b hb=>⟨hs'.flt b hb,by
   rcases hs'.fnew b hb with h|h|h
   ·exact .inl h
   ·obtain⟨i,hi⟩:=h
    obtain⟨j,hj,hbj⟩:=blc i b hi
    exact .inr (.inr ⟨j,⟨i,hj⟩,hbj⟩)
   ·exact .inr (.inl h)⟩)
  (fun _ _ j ⟨i,hij⟩=>by
   rw[j5Z (h:=fun i=>j0m ren (fnOf post i)) ren σ1 j hn2,z6b hn2 hij hn1,hg'1 i j hij]
   have hroot:=hs'.roots i
   have hsim:=hck2' i
   simp only
   cases hpo:fnOf post i<;>rw[hpo] at hroot hsim<;>cases hgi:gc' i<;>rw[hgi] at hroot<;>try exact hroot.elim
   ·trivial
   ·trivial
   ·obtain⟨vs,k1,k2⟩:=hroot
    refine⟨vs,k1,j4C (S1:=SM F' Bc) (S2:=SM F' S.B) (g1:=gc') (z:=!vw.isEmpty) hadv (fun _ h=>h) hz ?_ k2⟩
    rcases hsim with hsim|hsim
    ·cases hsim
    ·exact hsim.2
   ·rename_i m k xs _ _ _ _
    refine⟨hroot.1,z8w (m:=m) (xs:=xs) hroot.2 fun b hb=>?_⟩
    cases m with
    | fz=>exact hb
    | bo=>
     rcases hsim with hsim|hsim
     ·cases hsim
     ·simp only[okR] at hsim
      exact hz (by
       cases hv0:(!vw.isEmpty) with
       | false=>rfl
       | true=>rw[hv0] at hsim;exact absurd hsim.2 (by simp[okR,isFz])) b hb
   ·rename_i m k es hh v k' L gs
    rcases hsim with hsim|hsim
    ·cases hsim
    ·simp only[okR,Afz] at hsim
     obtain⟨_,hsim,hho⟩:=hsim
     refine⟨⟨hroot.1.1,?_⟩,k2s hroot.2.1 hho hadv,hroot.2.2⟩
     cases hv0:(!vw.isEmpty) with
     | false=>
      have h0:=hz hv0
      exact z7x hroot.1.2 fun m b hb=>by
       cases m with
       | fz=>exact hb
       | bo=>exact h0 b hb
     | true=>
      have hm:m=.fz:=by
       rw[hv0] at hsim
       cases m
       ·rfl
       ·simp[isFz] at hsim
      exact hroot.1.2.fz (hroot.2.2 hm) fun b hb=>hb)
  (fun j ⟨i,hij⟩=>by rw[blg i j hij];exact hs'.nodup i)
  (fun j j' ⟨i,hij⟩ ⟨i',hij'⟩ hne b hb=>by
   rw[blg i j hij] at hb
   rw[blg i' j' hij']
   exact hs'.disj i i' (fun e=>by subst e;rw[hij] at hij';exact hne (Option.some.inj hij')) b hb)
  (fun j b ⟨i,hij⟩ hb=>by
   rw[blg i j hij] at hb
   obtain⟨k1,k2,k3,k4⟩:=hs'.own i b hb
   refine⟨k1,k2,?_⟩
   rcases k4 with k4|k4
   ·obtain⟨i',hi'⟩:=k4
    obtain⟨j',hj',hbj⟩:=blc i' b hi'
    exact .inr ⟨j',⟨i',hj'⟩,hbj⟩
   ·exact .inl k4)
 exact⟨F',g',h1,h2,k4E (S1:=SM F' Bc) (S2:=SM F' S.B) (g1:=gc') (z:=!vw.isEmpty) hadv (fun _ h=>h) hz hck3 hres⟩
end
def idl (K:List Nat):List (Nat×Nat):=K.map fun i=>(i,i)
theorem z0O:∀ {K:List Nat} {i:Nat},renI (idl K) i=if i∈K then some i else none
 | [],i=>rfl
 | a::K,i=>by
  have ih:=z0O (K:=K) (i:=i)
  simp only[idl,Bhz,renI]
  cases hb:Aaz a i with
  | true=>have:=Abz hb;subst this;simp
  | false=>
   have hne:i≠a:=fun e=>by subst e;simp at hb
   simp only[cond_false]
   rw[show List.map (fun i=>(i,i)) K=idl K from rfl,ih]
   simp[hne]
mutual
theorem j7E {K:List Nat}{z:Bool}:∀ {x:X},okX (idl K) z x=true→renX (idl K) x=x
 | .d m x,h=>by rw[renX]
 | .ag cs,h=>by rw[okX] at h;rw[renX,z7y h]
 | .tu cs,h=>by rw[okX] at h;rw[renX,z7y h]
 | .fn f cs,h=>by rw[okX] at h;rw[renX,z7y h]
 | .ref r p,h=>by rw[okX,z0O] at h;simp only[renX,z0O];by_cases hr:r∈K<;>simp[hr] at h ⊢
 | .vs r p a b,h=>by rw[okX,z0O] at h;simp only[renX,z0O];by_cases hr:r∈K<;>simp[hr] at h ⊢
 | .pb r c,h=>by rw[okX,z0O] at h;simp only[renX,z0O];by_cases hr:r∈K<;>simp[hr] at h ⊢
 | .pe r p j c,h=>by rw[okX,z0O] at h;simp only[renX,z0O];by_cases hr:r∈K<;>simp[hr] at h ⊢
 | .pf m x,h=>by rw[renX]
 | .nl k,h=>by rw[renX]
 | .kv _,h=>by rw[renX]
 | .pv _ _,h=>by rw[renX]
 | .u,h=>by rw[renX]
theorem z7y {K:List Nat}{z:Bool}:∀ {xs:List X},okXs (idl K) z xs=true→z5c (idl K) xs=xs
 | [],h=>by rw[z5c]
 | x::xs,h=>by rw[okXs,Afz] at h;rw[z5c,j7E h.1,z7y h.2]
end
def ofX:List (Nat×X)→AE
 | []=>fun _=>.u
 | (t,x)::l=>updX (ofX l) t x
mutual
inductive Wk:X→X→Prop
 | rfl {x:X}:Wk x x
 | u {x:X}:Wk .u x
 | nld {k k' : Nat} {m:Md}:Wk (.d m (.sl k [])) (.nl k')
 | nl {k k' : Nat}:Wk (.nl k) (.nl k')
 | bo {x:D}:Wk (.d .bo x) (.d .fz x)
 | md {m m' : Md} {x:D} (h:mle m m'=true):Wk (.d m' x) (.d m x)
 | ag {cs cs' : List X} (h:Wks cs cs'):Wk (.ag cs) (.ag cs')
 | tu {cs cs' : List X} (h:Wks cs cs'):Wk (.tu cs) (.tu cs')
inductive Wks:List X→List X→Prop
 | nil:Wks [] []
 | cons {x y:X} {xs ys:List X} (h:Wk x y) (h2:Wks xs ys):Wks (x::xs) (y::ys)
end
theorem Wk.of {x y:X}(h:x=y):Wk x y:=h ▸ .rfl
theorem Wk.vn {r lo n n' : Nat}{l:Option (Nat×Nat)}(h:n=n'):Wk (.vs r l lo n) (.vs r l lo n'):=h ▸ .rfl
def WkL (ρ:AE):List (Nat×X)→Prop
 | []=>True
 | (t,x)::l=>Wk x (ρ t)∧WkL ρ l
section
variable {S:Start}{F:Nat→Prop}{g:Nat→G}{w:World}{σ:St}{ρ:AE}
mutual
theorem Wk.vr {B:Nat→Prop}:∀ {x y:X},Wk x y→∀ {v:Value},vr (SM F B) w g y v→vr (SM F B) w g x v
 | _,_,.rfl,_,h=>h
 | _,_,.u,_,h=>by rw[Go.A.vr];trivial
 | _,_,.nld,v,h=>by
  have h:v=.slice none 0 0:=by rw[Go.A.vr] at h;exact h
  show rdC _ _ (.sl _ []) v
  rw[rdC]
  exact⟨none,0,[],h,Nat.le_refl _,Nat.zero_le _,by rw[rdE],.inl rfl⟩
 | _,_,.nl,v,h=>by
  have h:v=.slice none 0 0:=by rw[Go.A.vr] at h;exact h
  rw[Go.A.vr];exact h
 | _,_,.bo,v,h=>by rw[Go.A.vr] at h ⊢;exact h.mono fun b hb=>.inl hb
 | _,_,.md hm,v,h=>by rw[Go.A.vr] at h ⊢;exact h.mono (z9k hm)
 | _,_,.ag hs,v,h=>by rw[Go.A.vr] at h ⊢;obtain⟨vs,h3,h4⟩:=h;exact⟨vs,h3,Wks.vr hs h4⟩
 | _,_,.tu hs,v,h=>by rw[Go.A.vr] at h ⊢;obtain⟨vs,h3,h4⟩:=h;exact⟨vs,h3,Wks.vr hs h4⟩
theorem Wks.vr {B:Nat→Prop}:∀ {xs ys:List X},Wks xs ys→∀ {vs:List Value},vrs (SM F B) w g ys vs→vrs (SM F B) w g xs vs
 | _,_,.nil,_,h=>h
 | _,_,.cons h1 h2,vs,h=>by
  rw[vrs] at h ⊢
  obtain⟨v,r',h4,h5,h6⟩:=h
  exact⟨v,r',h4,Wk.vr h1 h5,Wks.vr h2 h6⟩
end
theorem VR.ofX {ρc:Env}(h:VR S F g w ρ ρc):∀ {L:List (Nat×X)},WkL ρ L→VR S F g w (ofX L) ρc
 | [],_=>fun t=>by simp only[Go.A.ofX];rw[Go.A.vr];trivial
 | (t,x)::L,hl=>fun s=>by
  simp only[Go.A.ofX,updX]
  cases hb:Aaz s t with
  | true=>have:=Abz hb;subst this;exact hl.1.vr (h _)
  | false=>exact VR.ofX h hl.2 s
theorem q3w (L:List (Nat×X))(hL:WkL ρ L):GH S ρ σ (ofX L) σ:=fun F g w ρc hs hv=>⟨F,g,hs,hv.ofX hL⟩
theorem GH.refl:GH S ρ σ ρ σ:=fun F g w ρc hs hv=>⟨F,g,hs,hv⟩
theorem GH.trans {ρ1 ρ2:AE}{σ1 σ2:St}(h:GH S ρ σ ρ1 σ1)(k:GH S ρ1 σ1 ρ2 σ2):GH S ρ σ ρ2 σ2:=fun F g w ρc hs hv=>
 let ⟨F',g',h1,h2⟩:=h F g w ρc hs hv
 k F' g' w ρc h1 h2
end
def argX:List X→AE
 | [],_=>.u
 | x::_,0=>x
 | _::l,t+1=>argX l t
theorem j9R {S1:Md→Nat→Prop}{w:World}{g:Nat→G}:∀ {xs:List X} {vs:List Value} {t:Nat},vrs S1 w g xs vs→vr S1 w g (argX xs t) ((vs.toArray:Array Value).getD t undef)
 | [],vs,t,h=>by unfold argX;rw[vr];trivial
 | x::xs,vs,0,h=>by rw[vrs] at h;obtain⟨v,r,rfl,h1,h2⟩:=h;simpa[argX] using h1
 | x::xs,vs,t+1,h=>by
  rw[vrs] at h
  obtain⟨v,r,rfl,h1,h2⟩:=h
  have:=j9R (t:=t) h2
  simpa[argX] using this
def k2t (P:Program)(ρ:AE)(σ:St):ResultVar→Option X
 | .tmp t=>some (ρ t)
 | .cell a T=>match ρ a with
  | .pb r c=>match fnOf σ r with
   | .box cs=>match aggT P T,szT P T with
    | some true,some k=>if ((cs.drop c).take k).length=k then some (.ag ((cs.drop c).take k)) else none
    | some false,_=>cs[c]?
    | _,_=>none
   | _=>none
  | _=>none
theorem j7F {P:Program}{w:World}{f:ResultVar→Sem Value}:∀ (l:List ResultVar) (vs:List Value),all2 (fun r v=>(f r).run P w=.ok v w) l vs→(l.mapM f).run P w=.ok vs w
 | [],vs,h=>by rw[show vs=[] from h];simp
 | r::l,_,⟨v,vs,e,h1,h2⟩=>by
  subst e
  have ih:=j7F l vs h2
  simp[List.mapM_cons,h1,ih]
def resF (tmps:Array Value):ResultVar→Sem Value
 | .tmp t=>pure (tmps.getD t undef)
 | .cell a t=>do loadVar t (← asAddr (tmps.getD a undef))
def tupV:List Value→Value
 | [v]=>v
 | vs=>.tuple vs.toArray
def tupX:List X→X
 | [x]=>x
 | xs=>.tu xs
theorem j6a {P:Program}{w:World}{fn:Func}{tmps:Array Value}{l:List ResultVar}{vs:List Value}(hl:fn.results=l.toArray)(h:all2 (fun r v=>(resF tmps r).run P w=.ok v w) l vs) :
  (results fn tmps).run P w=.ok (tupV vs) w:=by
 have h1:=j7F l vs h
 have e:results fn tmps=(fn.results.mapM (resF tmps) >>= fun vs=>pure (if h:vs.size=1 then vs[0] else .tuple vs)):=by
  unfold results
  congr 1
 rw[e,hl]
 simp only[List.mapM_toArray,map_eq_pure_bind,Sem.run_bind,h1,Result.andThen_ok,Sem.run_pure]
 match vs with
 | []=>rfl
 | [v]=>rfl
 | a::b::l=>simp[tupV]
theorem k6q {S1:Md→Nat→Prop}{w:World}{g:Nat→G}{xs:List X}{vs:List Value}(h:vrs S1 w g xs vs):vr S1 w g (tupX xs) (tupV vs):=by
 match xs,h with
 | [],h=>
  rw[vrs] at h;subst h
  show vr _ _ _ (.tu []) (.tuple _)
  rw[vr]
  exact⟨[],rfl,by rw[vrs]⟩
 | [x],h=>rw[vrs] at h;obtain⟨v,r,rfl,h1,h2⟩:=h;rw[vrs] at h2;subst h2;exact h1
 | x::y::xs,h=>
  have h0:=h
  rw[vrs] at h;obtain⟨v,r,rfl,h1,h2⟩:=h;rw[vrs] at h2;obtain⟨v2,r2,rfl,_,_⟩:=h2
  show vr _ _ _ (.tu _) (.tuple _)
  rw[vr]
  exact⟨_,rfl,h0⟩
def j0n (n:Nat):ResultVar→Bool
 | .tmp t=>Nat.blt t n
 | .cell a _=>Nat.blt a n
section
variable {P:Program}{S:Start}{F:Nat→Prop}{g:Nat→G}{w:World}{σ:St}{ρ:AE}
theorem j9S {n:Nat}{ρc:Env}(hs:Sim S F g (fnOf σ) w)(hv:VR S F g w ρ ρc){r:ResultVar}(ht:j0n n r=true){x:X}(h:k2t P ρ σ r=some x):∃ v,(∀ a:Act,Rel n ρc a→(resF a.tmps r).run P w=.ok v w)∧vr (SM F S.B) w g x v:=by
 cases r with
 | tmp t=>
  simp only[k2t] at h
  cases h
  simp only[j0n] at ht
  refine⟨ρc t,fun a ha=>?_,hv t⟩
  simp only[resF,Sem.run_pure]
  rw[ha.at_ t (by simpa using ht)]
 | cell t T=>
  simp only[k2t] at h
  simp only[j0n] at ht
  split at h
  ·rename_i r c hρ
   split at h
   ·rename_i cs hσ
    obtain⟨b,T',vs,hg,hb,hcs⟩:=z6u hs hσ
    have hp:=hv t
    rw[hρ,vr,hg] at hp
    split at h
    ·rename_i k hagg hk
     split at h
     ·rename_i hlen
      cases h
      have h2:=(hcs.drop c).take k
      refine⟨.agg ((vs.drop c).take k).toArray,fun a ha=>?_,by rw[vr];exact⟨_,rfl,h2⟩⟩
      have h0:a.tmps.getD t undef=.pointer (some ⟨b,c,none⟩):=(ha.at_ t (by simpa using ht)).trans hp
      have hl2:((vs.drop c).take k).length=k:=h2.len.trans hlen
      have g0:=Go.E.run_loadCellsFrom (P:=P) (w:=w) (b:=b) (off:=c) ((vs.drop c).take k) 0 #[] (hb.part c k)
      rw[hl2] at g0
      simp only[Ajz] at h0
      simp[resF,loadVar,loadCells,asAddr,h0,z2c hagg,q5R hk,g0]
     ·cases h
    ·rename_i hagg
     obtain⟨v,hv1,hv2⟩:=hcs.get h
     refine⟨v,fun a ha=>?_,hv2⟩
     have h0:a.tmps.getD t undef=.pointer (some ⟨b,c,none⟩):=(ha.at_ t (by simpa using ht)).trans hp
     simp only[Ajz] at h0
     simp[resF,loadVar,asAddr,h0,z2c hagg,load,Sem.run,hb.cell hv1]
    ·cases h
   ·cases h
  ·cases h
def j3d (P:Program)(ρ:AE)(σ:St):List ResultVar→Option (List X)
 | []=>some []
 | r::l=>match k2t P ρ σ r,j3d P ρ σ l with
  | some x,some xs=>some (x::xs)
  | _,_=>none
theorem j4F {n:Nat}{ρc:Env}(hs:Sim S F g (fnOf σ) w)(hv:VR S F g w ρ ρc):∀ {l:List ResultVar},l.all (j0n n)=true→∀ {xs:List X},j3d P ρ σ l=some xs→∃ vs,(∀ a:Act,Rel n ρc a→all2 (fun r v=>(resF a.tmps r).run P w=.ok v w) l vs)∧vrs (SM F S.B) w g xs vs
 | [],_,xs,h=>by simp only[j3d] at h;cases h;exact⟨[],fun _ _=>rfl,by rw[vrs]⟩
 | r::l,ht,xs,h=>by
  simp only[List.all_cons,Afz] at ht
  simp only[j3d] at h
  split at h
  ·rename_i x xs' h1 h2
   cases h
   obtain⟨v,h3,h4⟩:=j9S hs hv ht.1 h1
   obtain⟨vs,h5,h6⟩:=j4F hs hv ht.2 h2
   exact⟨v::vs,fun a ha=>⟨v,vs,rfl,h3 a ha,h5 a ha⟩,by rw[vrs];exact⟨v,vs,rfl,h4,h6⟩⟩
  ·cases h
end
def endA (P:Program)(S:Start)(fn:Func)(res:X)(post:St):q3Z:=fun e ρ σ=>(e=.normal∨e=.ret) ∧
 ∀ F g w ρc,Sim S F g (fnOf σ) w→VR S F g w ρ ρc→∃ v,(∀ a:Act,Rel fn.ntmps ρc a→(results fn a.tmps).run P w=.ok v w)∧∃ F' g',Sim S F' g' (fnOf post) w∧vr (SM F' S.B) w g' res v
theorem Ok.enter {P:Program}{f:Nat}{fn:Func}{c:Code}{args:List X}{pre:St}{res:X}{post:St}{n0:Nat}(hn:pre.length=n0)(hf:P.funcs[f]?=some fn)(hb:fn.body=some c)(hok:q9x fn.ntmps c=true)(hs:Nat.ble args.length fn.ntmps=true)
  (h:∀ S:Start,S.n0=n0→AW P S fn.ntmps c (endA P S fn res post) (argX args) pre):Ok P f args pre res post:=by
 intro F B g w vs hsim hvs
 have hlen:=hvs.len
 refine Go.E.enter (R:=fun v w'=>∃ F' g',Sim (j4B w F B g pre.length) F' g' (fnOf post) w'∧vr (SM F' B) w' g' res v) hf hb hok (by simpa[hlen] using hs) ?_
 refine (h (j4B w F B g pre.length) hn F g w _ hsim (fun t=>j9R hvs)).mono fun e ρc w' ⟨ρ,σ,F',g',h1,h2,he,h3⟩=>?_
 obtain⟨v,h4,F2,g2,h5,h6⟩:=h3 F' g' w' ρc h1 h2
 have h7:Chg (fun b=>∃ i,b∈bl (g i)) w w':=h5.chg
 rcases he with rfl|rfl<;>exact⟨v,h4,h7,F2,g2,h5,h6⟩
mutual
def frX (r:Nat)(m:Md)(k:Nat)(xs:List D):X→X
 | .ref q none=>bif Aaz q r then .d m (.sl k xs) else .ref q none
 | .vs q none lo n=>bif Aaz q r then .d m (.sl k ((xs.drop lo).take n)) else .vs q none lo n
 | .pe q none j c=>bif Aaz q r then .u else .pe q none j c
 | .ag cs=>.ag (frXs r m k xs cs)
 | .tu cs=>.tu (frXs r m k xs cs)
 | .fn f cs=>.fn f (frXs r m k xs cs)
 | .ref q (some l)=>.ref q (some l)
 | .vs q (some l) lo n=>.vs q (some l) lo n
 | .pe q (some l) j c=>.pe q (some l) j c
 | .d m x=>.d m x
 | .pb q c=>.pb q c
 | .pf m x=>.pf m x
 | .nl k=>.nl k
 | .kv v=>.kv v
 | .pv m v=>.pv m v
 | .u=>.u
def frXs (r:Nat)(m:Md)(k:Nat)(xs:List D):List X→List X
 | []=>[]
 | x::l=>frX r m k xs x::frXs r m k xs l
end
def frR (r:Nat)(m:Md)(k:Nat)(xs:List D):Root→Root
 | .box cs=>.box (frXs r m k xs cs)
 | x=>x
def frS (r:Nat)(m:Md)(k:Nat)(xs:List D):Nat→St→St
 | _,[]=>[]
 | i,x::l=>(bif Aaz i r then .dead else frR r m k xs x)::frS r m k xs (i+1) l
theorem j3e {r:Nat}{m:Md}{k:Nat}{xs:List D}:∀ {l:St} {i j:Nat},fnOf l j≠.none→fnOf (frS r m k xs i l) j=if i+j=r then .dead else frR r m k xs (fnOf l j)
 | [],i,j,h=>absurd (z0N j) h
 | x::l,i,0,h=>by
  simp only[frS,fnOf,Nat.add_zero]
  cases hb:Aaz i r with
  | true=>simp[Abz hb]
  | false=>
   have:i≠r:=fun e=>by subst e;simp at hb
   simp[this]
 | x::l,i,j+1,h=>by
  simp only[frS,fnOf]
  rw[j3e (l:=l) (by simpa[fnOf] using h),show i+1+j=i+(j+1) by omega]
theorem z7z {r:Nat}{m:Md}{k:Nat}{xs:List D}:∀ {l:St} {i j:Nat},fnOf l j=.none→i+j≠r→fnOf (frS r m k xs i l) j=.none
 | [],i,j,h,_=>by rw[frS];exact z0N j
 | x::l,i,0,h,hne=>by
  simp only[fnOf] at h
  subst h
  have:Aaz i r=false:=by
   cases hb:Aaz i r with
   | false=>rfl
   | true=>exact absurd (Abz hb) (by simpa using hne)
  simp only[frS,fnOf,this,frR,cond_false]
 | x::l,i,j+1,h,hne=>by
  simp only[frS,fnOf]
  exact z7z (l:=l) (by simpa[fnOf] using h) (by omega)
section
variable {S:Start}{F:Nat→Prop}{g:Nat→G}{w:World}{σ:St}{ρ:AE}
section
variable {B F' : Nat→Prop}{r:Nat}{m:Md}{k:Nat}{xs:List D}{v0:Value}{L:List Nat}{gs:List (List GC)}
mutual
theorem k4h (hg:g r=.row v0 k L gs)(hF:∀ b,F b→F' b)(hd:rdC (SM F' B m) w (.sl k xs) v0)(hpart:∀ lo n v,j2q v0 k lo n v→rdC (SM F' B m) w (.sl k ((xs.drop lo).take n)) v):∀ {x:X} {v:Value},vr (SM F B) w g x v→vr (SM F' B) w (fun i=>if i=r then .dead else g i) (frX r m k xs x) v
 | .ref q none,v,h=>by
  rw[frX]
  cases hb:Aaz q r with
  | true=>
   have:=Abz hb
   subst this
   rw[vr,hg] at h
   rw[h _ _ rfl]
   show vr _ _ _ (.d m _) _
   rw[vr];exact hd
  | false=>
   have hne:q≠r:=fun e=>by subst e;simp at hb
   show vr _ _ _ (.ref q none) _
   rw[vr] at h ⊢
   simp only[ifN hne];exact h
 | .vs q none lo n,v,h=>by
  rw[frX]
  cases hb:Aaz q r with
  | true=>
   have:=Abz hb
   subst this
   rw[vr,hg] at h
   show vr _ _ _ (.d m _) _
   rw[vr];exact hpart lo n v (h _ _ rfl)
  | false=>
   have hne:q≠r:=fun e=>by subst e;simp at hb
   show vr _ _ _ (.vs q none lo n) _
   rw[vr] at h ⊢
   simp only[ifN hne];exact h
 | .pe q none j c,v,h=>by
  rw[frX]
  cases hb:Aaz q r with
  | true=>show vr _ _ _ .u _;rw[vr];trivial
  | false=>
   have hne:q≠r:=fun e=>by subst e;simp at hb
   show vr _ _ _ (.pe q none j c) _
   rw[vr] at h ⊢
   simp only[ifN hne];exact h
 | .ag cs,v,h=>by rw[frX];rw[vr] at h ⊢;obtain⟨vs,h1,h2⟩:=h;exact⟨vs,h1,j0o hg hF hd hpart h2⟩
 | .tu cs,v,h=>by rw[frX];rw[vr] at h ⊢;obtain⟨vs,h1,h2⟩:=h;exact⟨vs,h1,j0o hg hF hd hpart h2⟩
 | .fn f cs,v,h=>by rw[frX];rw[vr] at h ⊢;obtain⟨vs,h1,h2⟩:=h;exact⟨vs,h1,j0o hg hF hd hpart h2⟩
 | .ref q (some l),v,h=>by
  rw[frX]
  rw[vr] at h ⊢
  by_cases hq:q=r
  ·simp only[ifP hq];trivial
  ·simp only[ifN hq];exact h
 | .vs q (some l) lo n,v,h=>by
  rw[frX]
  rw[vr] at h ⊢
  by_cases hq:q=r
  ·simp only[ifP hq];trivial
  ·simp only[ifN hq];exact h
 | .pe q (some l) j c,v,h=>by
  rw[frX]
  rw[vr] at h ⊢
  by_cases hq:q=r
  ·simp only[ifP hq];trivial
  ·simp only[ifN hq];exact h
 | .d m x,v,h=>by
  rw[frX]
  rw[vr] at h ⊢
  refine h.mono fun b hb=>?_
  cases m with
  | fz=>exact hF b hb
  | bo=>exact hb.imp (hF b) id
 | .pb q c,v,h=>by
  rw[frX]
  rw[vr] at h ⊢
  by_cases hq:q=r
  ·simp only[ifP hq]
  ·simp only[ifN hq];exact h
 | .pf m ds,v,h=>by
  rw[frX]
  rw[vr] at h ⊢
  obtain⟨b,o,cs,h1,h2,h3,h4,h5⟩:=h
  have up:∀ b,SM F B m b→SM F' B m b:=fun b hb=>by
   cases m with
   | fz=>exact hF b hb
   | bo=>exact hb.imp (hF b) id
  exact⟨b,o,cs,h1,up b h2,h3,h4,h5.mono up⟩
 | .nl k,v,h=>by rw[frX];rw[vr] at h ⊢;exact h
 | .kv _,v,h=>by rw[frX];rw[vr] at h ⊢;exact h
 | .pv m _,v,h=>by
  rw[frX]
  rw[vr] at h ⊢
  obtain⟨b,o,h1,h2,h3,h4⟩:=h
  have up:∀ b,SM F B m b→SM F' B m b:=fun b hb=>by
   cases m with
   | fz=>exact hF b hb
   | bo=>exact hb.imp (hF b) id
  exact⟨b,o,h1,up b h2,h3,h4⟩
 | .u,v,h=>by rw[frX,vr];trivial
theorem j0o (hg:g r=.row v0 k L gs)(hF:∀ b,F b→F' b)(hd:rdC (SM F' B m) w (.sl k xs) v0)(hpart:∀ lo n v,j2q v0 k lo n v→rdC (SM F' B m) w (.sl k ((xs.drop lo).take n)) v):∀ {xs' : List X} {vs:List Value},vrs (SM F B) w g xs' vs→vrs (SM F' B) w (fun i=>if i=r then .dead else g i) (frXs r m k xs xs') vs
 | [],vs,h=>by rw[frXs];rw[vrs] at h ⊢;exact h
 | x::l,vs,h=>by
  rw[frXs]
  rw[vrs] at h ⊢
  obtain⟨v,r',h1,h2,h3⟩:=h
  exact⟨v,r',h1,k4h hg hF hd hpart h2,j0o hg hF hd hpart h3⟩
end
end
theorem q0v {r:Nat}{m:Md}{k:Nat}{xs:List D}(hd0:DataAt (fnOf σ) r m k xs [r]):GH S ρ σ (fun t=>frX r m k xs (ρ t)) (frS r m k xs 0 σ):=by
 intro F g w ρc hs hv
 obtain⟨v,L,gs,cs,hg,hown,hrd,hLb⟩:=j9O hs hd0
 have hr:fnOf σ r≠.none:=by cases hd0 with
  | row h _=>rw[h];intro h;cases h
  | deep h _ _ _=>rw[h];intro h;cases h
 let F' : Nat→Prop:=fun b=>F b∨b∈bl (g r)
 have hF:∀ b,F b→F' b:=fun b hb=>.inl hb
 have up:∀ m b,SM F S.B m b→SM F' S.B m b:=fun m b hb=>by
  cases m with
  | fz=>exact .inl hb
  | bo=>exact hb.imp .inl id
 have hL' : ∀ b∈bl (g r),SM F' S.B m b:=fun b hb=>by
  cases m with
  | fz=>exact .inr hb
  | bo=>exact .inl (.inr hb)
 have hrd' : rdE (SM F' S.B m) w k xs cs:=hrd.mono fun b hb=>by
  rcases hb with hb|⟨q,hq,hb⟩
  ·exact up m b hb
  ·rw[Blz] at hq;subst hq;exact hL' b hb
 have hd:rdC (SM F' S.B m) w (.sl k xs) v:=j9P hown hrd' fun b hb=>hL' b (hLb b hb)
 have hpart:∀ lo n v',j2q v k lo n v'→rdC (SM F' S.B m) w (.sl k ((xs.drop lo).take n)) v':=fun lo n v' hp=>k2r hown hrd' (fun b hb=>hL' b (hLb b hb)) hp
 have hlt:∀ b,F' b→b<w.heap.size:=fun b hb=>hb.elim (hs.flt b) fun hb=>(hs.own r b hb).1
 refine⟨F',fun i=>if i=r then .dead else g i,⟨hs.chg,hs.bB,fun b hb=>.inl (hs.fmono b hb),fun b hb=>?_,hlt,fun i=>?_,hs.low,fun i=>?_,fun i=>?_,fun i j hij b hb=>?_,fun i b hb=>?_⟩,fun t=>k4h hg hF hd hpart (hv t)⟩
 ·rcases hb with hb|hb
  ·exact hs.fnew b hb
  ·exact .inr (hs.own r b hb).2.2.2
 ·by_cases hi:i=r
  ·subst hi
   rw[j3e hr]
   simp only[Adz,if_true];trivial
  ·simp only[ifN hi]
   have h1:=hs.roots i
   by_cases hn:fnOf σ i=.none
   ·rw[z7z hn (by rw[Adz];exact hi)]
    rw[hn] at h1
    exact (by revert h1;cases g i<;>intro h<;>first|exact h.elim|trivial)
   ·rw[j3e hn,Adz,ifN hi]
    revert h1
    cases fnOf σ i<;>intro h1<;>cases hgi:g i<;>rw[hgi] at h1<;>try exact h1.elim
    ·trivial
    ·trivial
    ·obtain⟨vs,h2,h3⟩:=h1
     exact⟨vs,h2,j0o hg hF hd hpart h3⟩
    ·exact⟨h1.1,z7x h1.2 up⟩
    ·exact⟨⟨h1.1.1,z7x h1.1.2 up⟩,h1.2.1.adv fun q=>by
      by_cases hq:q=r
      ·subst hq
       simp only[if_true]
       rw[hg];exact .inl rfl
      ·simp only[ifN hq];exact Adv.refl _,h1.2.2⟩
 ·by_cases hi:i=r
  ·subst hi
   simp only[if_true]
   have:=hs.hdr i
   rw[hg] at this
   revert this
   cases S.g0 i<;>intro h
   ·trivial
   ·cases h
   ·rcases h with h|h<;>cases h
   ·exact .inl rfl
  ·simp only[ifN hi];exact hs.hdr i
 ·by_cases hi:i=r
  ·simp only[ifP hi,bl];exact Bxz
  ·simp only[ifN hi];exact hs.nodup i
 ·by_cases hi:i=r
  ·simp only[ifP hi,bl] at hb;cases hb
  ·simp only[ifN hi] at hb
   by_cases hj:j=r
   ·simp only[ifP hj,bl];exact List.not_mem_nil
   ·simp only[ifN hj];exact hs.disj i j hij b hb
 ·by_cases hi:i=r
  ·simp only[ifP hi,bl] at hb;cases hb
  ·simp only[ifN hi] at hb
   obtain⟨h1,h2,h3,h4⟩:=hs.own i b hb
   refine⟨h1,fun hf=>?_,h3,h4⟩
   rcases hf with hf|hf
   ·exact h2 hf
   ·exact hs.disj i r hi b hb hf
theorem q0p {r:Nat}{m:Md}{k:Nat}{xs:List D}(hr:fnOf σ r=.row m k xs):GH S ρ σ (fun t=>frX r m k xs (ρ t)) (frS r m k xs 0 σ):=q0v (.row hr rfl)
theorem Sim.nlRow (h:Sim S F g (fnOf σ) w){r:Nat}(hr:fnOf σ r=.none)(m:Md)(k:Nat):∃ g',Sim S F g' (fnOf (setL σ r (.row m k []))) w∧Pres S.B F g w F g' w∧vr (SM F S.B) w g' (.ref r none) (.slice none 0 0):=by
 obtain⟨h1,h2⟩:=h.new (r:=r) (x:=.row m k []) (y:=.row (.slice none 0 0) k [] []) hr (Ext.refl w) (fun _ _=>⟨rfl,⟨0,Own.nil w 0 0 k,rfl⟩,rfl⟩) (by simp[bl,gbl]) (by simp[bl,gbl])
 refine⟨_,?_,h2,?_⟩
 ·have:fnOf (setL σ r (.row m k []))=fun i=>if i=r then .row m k [] else fnOf σ i:=by
   funext j;exact q6X σ r _ j
  rw[this];exact h1
 ·rw[vr]
  simp only[if_true]
  intro u q hu
  simp only[G.at] at hu
  cases hu
  rfl
theorem q1s {t r k' : Nat}(m:Md)(k:Nat)(ht:ρ t=.nl k')(hr:fnOf σ r=.none):GH S ρ σ (updX ρ t (.ref r none)) (setL σ r (.row m k [])):=by
 intro F g w ρc hs hv
 obtain⟨g',h1,h2,h3⟩:=hs.nlRow hr m k
 refine⟨F,g',h1,fun s=>?_⟩
 simp only[updX]
 cases hb:Aaz s t with
 | true=>
  have:=Abz hb
  subst this
  have h4:=hv s
  have h4:ρc s=.slice none 0 0:=by rw[ht,vr] at h4;exact h4
  rw[h4];exact h3
 | false=>exact h2 _ _ (hv s)
theorem q0o {q c r k' : Nat}{cs:List X}(m:Md)(k:Nat)(hq:fnOf σ q=.box cs)(hc:cs[c]?=some (.nl k'))(hr:fnOf σ r=.none):GH S ρ σ ρ (setL (setL σ r (.row m k [])) q (.box (cs.set c (.ref r none)))):=by
 intro F g w ρc hs hv
 obtain⟨g',h1,h2,h3⟩:=hs.nlRow hr m k
 have hne:q≠r:=fun e=>by rw[e,hr] at hq;cases hq
 refine⟨F,g',⟨h1.chg,h1.bB,h1.fmono,h1.fnew,h1.flt,fun i=>?_,h1.low,h1.hdr,h1.nodup,h1.disj,h1.own⟩,fun s=>h2 _ _ (hv s)⟩
 rw[q6X]
 by_cases hi:i=q
 ·subst hi
  rw[ifP rfl]
  have h4:=h1.roots i
  rw[q6X,ifN hne,hq] at h4
  cases hgi:g' i<;>rw[hgi] at h4<;>try exact h4.elim
  obtain⟨vs,h5,h6⟩:=h4
  refine⟨vs,h5,?_⟩
  obtain⟨v,h7,h8⟩:=h6.get hc
  have h8:v=.slice none 0 0:=by rw[vr] at h8;exact h8
  have:=h6.set (c:=c) (x:=.ref r none) (v:=v) (by rw[h8];exact h3)
  rwa[show vs.set c v=vs from List.ext_getElem? fun j=>by
   rw[List.getElem?_set]
   by_cases hj:c=j
   ·subst hj
    have hlt:=(List.getElem?_eq_some_iff.1 h7).1
    rw[ifP rfl,ifP hlt,h7]
   ·simp[hj]] at this
 ·rw[ifN hi];exact h1.roots i
end
end Go.A
