/- Abstract states of a walk: plain lemmas on the model, without conditions of their own. -/
import Derived.Test.YtnhofaohogianaaGreatAb6
set_option linter.unusedVariables false
set_option linter.unusedSimpArgs false
set_option linter.ambiguousOpen false
set_option linter.unusedSectionVars false
set_option linter.unnecessarySimpa false
open List renaming prefix_append→Csz,getD_eq_getElem?_getD→Ctz,getElem?_append_left→Cuz,range→Amz,getElem?_take→Anz,filter_cons→Aoz
open Nat renaming le_refl→Acz,add_zero→Cvz,eq_of_beq_eq_true→Abz,blt→Cwz,zero_add→Adz
open Bool renaming and_eq_true→Afz,or_eq_true→Agz,not_eq_true'→Baz
open Array renaming replicate→Alz
namespace Go.A
open Go Go.E
structure Stp where
 on:Bool
 rd:List Nat
 v:X
 wr:List (Nat×Root)
def Stp.ids (s:Stp):List Nat:=s.wr.map (·.1)
def Chain (P:Program)(S:Start)(ops:Array Oper):List Oper→List Stp→AE→St→Prop
 | [],[],_,_=>True
 | o::l,s::ss,ρ,σ=>q3O ops ρ o=some s.on∧(s.on=true→LT P S o ρ σ s.rd s.v s.wr)∧(s.on=false→s.v=.tu []∧s.wr=[])∧Chain P S ops l ss (putX ρ o.dst s.v) (owrL σ s.wr)
 | _,_,_,_=>False
def endR:List Oper→List Stp→AE→AE
 | o::l,s::ss,ρ=>endR l ss (putX ρ o.dst s.v)
 | _,_,ρ=>ρ
def endS:List Stp→St→St
 | s::ss,σ=>endS ss (owrL σ s.wr)
 | [],σ=>σ
theorem AT.final {P:Program}{S:Start}{ops:Array Oper}{K:AE→St→Lg→Option Nat→Prop}{k:Nat}{l:List Oper}{ρ:AE}{σ:St}{lg:Lg}{hd:Option Nat}(h:AT P S ops K k l ρ σ lg hd) :
  ∃ ρf σf lgf hdf,K ρf σf lgf hdf∧lg <+: lgf∧(∀ j,hd=some j→hdf=some j):=by
 induction h with
 | nil h=>exact⟨_,_,_,_,h,List.prefix_rfl,fun _ h=>h⟩
 | op _ _ _ ih=>obtain⟨a,b,c,d,h1,h2,h3⟩:=ih;exact⟨a,b,c,d,h1,(Csz _ _).trans h2,h3⟩
 | off _ _ ih=>obtain⟨a,b,c,d,h1,h2,h3⟩:=ih;exact⟨a,b,c,d,h1,(Csz _ _).trans h2,h3⟩
 | opT _ _ _ ih=>obtain⟨a,b,c,d,h1,h2,h3⟩:=ih;exact⟨a,b,c,d,h1,h2,fun j hj=>by subst hj;exact h3 j rfl⟩
 | gh _ _ ih=>obtain⟨a,b,c,d,h1,h2,h3⟩:=ih;exact⟨a,b,c,d,h1,h2,fun j hj=>by subst hj;exact h3 j rfl⟩
theorem AT.head {P:Program}{S:Start}{ops:Array Oper}{K:AE→St→Lg→Option Nat→Prop}{k:Nat}{l:List Oper}{ρ:AE}{σ:St}{lg:Lg}{hd:Option Nat}(h:AT P S ops K k l ρ σ lg hd):hd=none →
  ∃ ss:List Stp,ss.length≤l.length∧Chain P S ops (l.take ss.length) ss ρ σ∧(∃ lg' hd',AT P S ops K (k+ss.length) (l.drop ss.length) (endR (l.take ss.length) ss ρ) (endS ss σ) lg' hd') ∧
   ∃ ρf σf lgf hdf,K ρf σf lgf hdf∧(lg++ss.map fun s=>(s.rd,s.ids)) <+: lgf∧(hdf=some (k+ss.length)∨(hdf=none∧ss.length=l.length)):=by
 induction h with
 | nil h=>exact fun e=>⟨[],Acz _,trivial,⟨_,_,.nil h⟩,_,_,_,_,h,by simp,.inr ⟨e,rfl⟩⟩
 | @op k o rest ρ σ lg hd rd v wr hg hl _ ih=>
  intro e
  obtain⟨ss,h1,h2,⟨lg',hd',h3⟩,ρf,σf,lgf,hdf,h4,h5,h6⟩:=ih e
  refine⟨⟨true,rd,v,wr⟩::ss,by simpa using h1,⟨hg,fun _=>hl,(fun h=>nomatch h),h2⟩,⟨lg',hd',by rw[show k+(⟨true,rd,v,wr⟩::ss:List Stp).length=k+1+ss.length by simp;omega];exact h3⟩,ρf,σf,lgf,hdf,h4,by simpa[Stp.ids] using h5,?_⟩
  rcases h6 with h6|⟨h6,h7⟩
  ·exact .inl (by rw[h6,lnC];congr 1;omega)
  ·exact .inr ⟨h6,by simp[h7]⟩
 | @off k o rest ρ σ lg hd hg _ ih=>
  intro e
  obtain⟨ss,h1,h2,⟨lg',hd',h3⟩,ρf,σf,lgf,hdf,h4,h5,h6⟩:=ih e
  refine⟨⟨false,[],.tu [],[]⟩::ss,by simpa using h1,⟨hg,(fun h=>nomatch h),fun _=>⟨rfl,rfl⟩,h2⟩,⟨lg',hd',by rw[show k+(⟨false,[],.tu [],[]⟩::ss:List Stp).length=k+1+ss.length by simp;omega];exact h3⟩,ρf,σf,lgf,hdf,h4,by simpa[Stp.ids] using h5,?_⟩
  rcases h6 with h6|⟨h6,h7⟩
  ·exact .inl (by rw[h6,lnC];congr 1;omega)
  ·exact .inr ⟨h6,by simp[h7]⟩
 | @opT k o rest ρ ρ' σ σ' lg hd hg hl h _=>
  intro e
  subst e
  obtain⟨a,b,c,d,h1,h2,h3⟩:=h.final
  exact⟨[],Nat.zero_le _,trivial,⟨_,_,.opT hg hl h⟩,a,b,c,d,h1,by simpa using h2,.inl (h3 k rfl)⟩
 | @gh k l ρ ρ' σ σ' lg hd hl h _=>
  intro e
  subst e
  obtain⟨a,b,c,d,h1,h2,h3⟩:=h.final
  exact⟨[],Nat.zero_le _,trivial,⟨_,_,.gh hl h⟩,a,b,c,d,h1,by simpa using h2,.inl (h3 k rfl)⟩
def q5t (p:Nat→Bool):Nat→List Oper→List Stp→AE→AE
 | k,o::l,s::ss,ρ=>q5t p (k+1) l ss (bif p k then putX ρ o.dst s.v else ρ)
 | _,_,_,ρ=>ρ
def q7j (p:Nat→Bool):Nat→List Stp→(Nat→Root)→Nat→Root
 | k,s::ss,σ=>q7j p (k+1) ss (bif p k then owr σ s.wr else σ)
 | _,[],σ=>σ
theorem z6c {p q:Nat→Bool}{id:Nat}:∀ {ss:List Stp} {k:Nat} {σ τ:Nat→Root},(∀ j s,ss[j]?=some s→id∈s.ids→p (k+j)=q (k+j))→σ id=τ id→q7j p k ss σ id=q7j q k ss τ id
 | [],k,σ,τ,_,h=>h
 | s::ss,k,σ,τ,hp,h=>by
  rw[q7j,q7j]
  refine z6c (fun j s' hs hi=>by have:=hp (j+1) s' (by simpa using hs) hi;rwa[show k+1+j=k+(j+1) by omega]) ?_
  by_cases hi:id∈s.ids
  ·have:=hp 0 s rfl hi
   rw[Cvz] at this
   rw[this]
   cases q k with
   | true=>exact j0h _ _ _ _ (.inl h)
   | false=>exact h
  ·have hn:∀ x∈s.wr,x.1≠id:=fun x hx e=>hi (List.mem_map.2 ⟨x,hx,e⟩)
   have hn' : ∀ ρ:Nat→Root,owr ρ s.wr id=ρ id:=fun ρ=>z7s _ _ _ hn
   cases p k<;>cases q k<;>simp only[cond_true,cond_false,hn']<;>exact h
theorem z8x {p:Nat→Bool}{id i:Nat}{s:Stp}{τ:Nat→Root}:∀ {ss:List Stp} {k:Nat} {σ:Nat→Root},ss[i]?=some s→id∈s.ids→p (k+i)=true→(∀ j s',i<j→ss[j]?=some s'→id∈s'.ids→p (k+j)=false)→q7j p k ss σ id=owr τ s.wr id
 | [],_,_,h,_,_,_=>by simp at h
 | s0::ss,k,σ,h,hi,hp,hn=>by
  rw[q7j]
  cases i with
  | zero=>
   simp at h
   subst h
   rw[Cvz] at hp
   rw[hp,cond_true]
   have:q7j p (k+1) ss (owr σ s0.wr) id=q7j (fun _=>false) (k+1) ss (owr σ s0.wr) id:=z6c (fun j s' hs hi'=>by
    have:=hn (j+1) s' (by omega) (by simpa using hs) hi'
    rwa[show k+1+j=k+(j+1) by omega]) rfl
   rw[this]
   have key:∀ (ss:List Stp) (k:Nat) (σ:Nat→Root),q7j (fun _=>false) k ss σ=σ:=by
    intro ss
    induction ss with
    | nil=>exact fun _ _=>rfl
    | cons s ss ih=>exact fun k σ=>by rw[q7j];exact ih _ _
   rw[key]
   obtain⟨x,hx,e⟩:=List.mem_map.1 hi
   exact j0h _ _ _ _ (.inr ⟨x,hx,e⟩)
  | succ i=>
   exact z8x (i:=i) (by simpa using h) hi (by rwa[show k+1+i=k+(i+1) by omega]) fun j s' hj hs hi'=>by
    have:=hn (j+1) s' (by omega) (by simpa using hs) hi'
    rwa[show k+1+j=k+(j+1) by omega]
theorem z7A {p q:Nat→Bool}{t:Nat}:∀ {l:List Oper} {ss:List Stp} {k:Nat} {ρ τ:AE},(∀ j o,l[j]?=some o→o.dst=some t→p (k+j)=q (k+j))→ρ t=τ t→q5t p k l ss ρ t=q5t q k l ss τ t
 | [],ss,k,ρ,τ,_,h=>by simpa[q5t] using h
 | o::l,[],k,ρ,τ,_,h=>by simpa[q5t] using h
 | o::l,s::ss,k,ρ,τ,hp,h=>by
  rw[q5t,q5t]
  refine z7A (fun j o' ho hd=>by have:=hp (j+1) o' (by simpa using ho) hd;rwa[show k+1+j=k+(j+1) by omega]) ?_
  by_cases hd:o.dst=some t
  ·have:=hp 0 o rfl hd
   rw[Cvz] at this
   rw[this,hd]
   cases q k with
   | true=>simp[putX,updX]
   | false=>exact h
  ·have hn:∀ (ρ:AE) (v:X),putX ρ o.dst v t=ρ t:=fun ρ v=>by
    cases hdd:o.dst with
    | none=>rfl
    | some d=>
     have hne:t≠d:=fun e=>hd (by rw[hdd,e])
     simp only[putX,updX]
     cases hb:Nat.beq t d with
     | true=>exact absurd (Abz hb) hne
     | false=>rfl
   cases p k<;>cases q k<;>simp only[cond_true,cond_false,hn]<;>exact h
theorem j0u {p q:Nat→Bool}{i:Nat}{o:Oper}{s:Stp}:∀ {l:List Oper} {ss:List Stp} {k:Nat} {ρ:AE},l[i]?=some o→ss[i]?=some s→(∀ j,q (k+j)=(if j=i then true else p (k+j)))→p (k+i)=false→(∀ j o',l[j]?=some o'→j≠i→∀ t,o.dst=some t→o'.dst≠some t) →
  q5t q k l ss ρ=putX (q5t p k l ss ρ) o.dst s.v
 | [],_,_,_,h,_,_,_,_=>by simp at h
 | o0::l,[],_,_,_,h,_,_,_=>by simp at h
 | o0::l,s0::ss,k,ρ,ho,hs,hq,hp,hu=>by
  funext t
  cases i with
  | zero=>
   simp at ho hs
   subst ho;subst hs
   have h0:=hq 0
   rw[Cvz] at h0 hp
   rw[q5t,q5t,h0,hp]
   simp only[if_true,cond_true,cond_false]
   by_cases hd:o0.dst=some t
   ·have e1:q5t q (k+1) l ss (putX ρ o0.dst s0.v) t=q5t (fun _=>false) (k+1) l ss (putX ρ o0.dst s0.v) t:=z7A (fun j o' ho' hd'=>absurd hd' (hu (j+1) o' (by simpa using ho') (by omega) t hd)) rfl
    have key:∀ (l:List Oper) (ss:List Stp) (k:Nat) (ρ:AE),q5t (fun _=>false) k l ss ρ=ρ:=by
     intro l
     induction l with
     | nil=>intro ss k ρ;simp[q5t]
     | cons o l ih=>
      intro ss k ρ
      cases ss with
      | nil=>simp[q5t]
      | cons s ss=>rw[q5t];exact ih _ _ _
    rw[e1,key,hd]
    simp[putX,updX]
   ·have hn:∀ (ρ:AE) (v:X),putX ρ o0.dst v t=ρ t:=fun ρ v=>by
     cases hdd:o0.dst with
     | none=>rfl
     | some d=>
      have hne:t≠d:=fun e=>hd (by rw[hdd,e])
      simp only[putX,updX]
      cases hb:Nat.beq t d with
      | true=>exact absurd (Abz hb) hne
      | false=>rfl
    rw[hn]
    refine z7A (fun j o' ho' hd'=>?_) (hn _ _)
    have:=hq (j+1)
    rw[show k+1+j=k+(j+1) by omega,this,ifN (by omega)]
  | succ i=>
   rw[q5t,q5t]
   have h0:=hq 0
   rw[ifN (by omega)] at h0
   rw[Cvz] at h0
   rw[h0]
   have:=j0u (i:=i) (l:=l) (ss:=ss) (k:=k+1) (ρ:=bif p k then putX ρ o0.dst s0.v else ρ) (p:=p) (q:=q) (o:=o) (s:=s) (by simpa using ho) (by simpa using hs) (fun j=>by
    have:=hq (j+1)
    rw[show k+1+j=k+(j+1) by omega,this]
    by_cases hj:j=i<;>simp[hj]) (by rwa[show k+1+i=k+(i+1) by omega]) (fun j o' ho' hj=>hu (j+1) o' (by simpa using ho') (by omega))
   rw[this]
theorem Chain.get {P:Program}{S:Start}{ops:Array Oper}:∀ {l:List Oper} {ss:List Stp} {k:Nat} {ρ:AE} {σ:St},Chain P S ops l ss ρ σ→∀ {i:Nat} {o:Oper},l[i]?=some o→∃ s,ss[i]?=some s∧∃ σi:St,fnOf σi=q7j (fun j=>Cwz j (k+i)) k ss (fnOf σ) ∧
  q3O ops (q5t (fun j=>Cwz j (k+i)) k l ss ρ) o=some s.on∧(s.on=true→LT P S o (q5t (fun j=>Cwz j (k+i)) k l ss ρ) σi s.rd s.v s.wr)∧(s.on=false→s.v=.tu []∧s.wr=[])
 | [],_,_,_,_,_,i,o,h=>by simp at h
 | o0::l,[],_,_,_,h,_,_,_=>h.elim
 | o0::l,s0::ss,k,ρ,σ,h,0,o,ho=>by
  obtain⟨h1,h2,h3,h4⟩:=h
  simp at ho
  subst ho
  have nolt:∀ j,Cwz (k+j) (k+0)=false:=fun j=>by
   cases hb:Cwz (k+j) (k+0) with
   | false=>rfl
   | true=>simp at hb;omega
  have e1:q7j (fun j=>Cwz j (k+0)) k (s0::ss) (fnOf σ)=fnOf σ:=by
   have key:∀ (ss:List Stp) (m:Nat) (σ:Nat→Root),k≤m→q7j (fun j=>Cwz j (k+0)) m ss σ=σ:=by
    intro ss
    induction ss with
    | nil=>exact fun _ _ _=>rfl
    | cons s ss ih=>
     intro m σ hm
     have:Cwz m (k+0)=false:=by have:=nolt (m-k);rwa[show k+(m-k)=m by omega] at this
     rw[q7j,this];exact ih _ _ (by omega)
   exact key _ _ _ (Acz _)
  have e2:q5t (fun j=>Cwz j (k+0)) k (o0::l) (s0::ss) ρ=ρ:=by
   have key:∀ (l:List Oper) (ss:List Stp) (m:Nat) (ρ:AE),k≤m→q5t (fun j=>Cwz j (k+0)) m l ss ρ=ρ:=by
    intro l
    induction l with
    | nil=>intro ss m ρ _;simp[q5t]
    | cons o l ih=>
     intro ss m ρ hm
     cases ss with
     | nil=>simp[q5t]
     | cons s ss=>
      have:Cwz m (k+0)=false:=by have:=nolt (m-k);rwa[show k+(m-k)=m by omega] at this
      rw[q5t,this];exact ih _ _ _ (by omega)
   exact key _ _ _ _ (Acz _)
  exact⟨s0,rfl,σ,e1.symm,by rw[e2];exact h1,by rw[e2];exact h2,h3⟩
 | o0::l,s0::ss,k,ρ,σ,h,i+1,o,ho=>by
  obtain⟨h1,h2,h3,h4⟩:=h
  obtain⟨s,g1,σi,g2,g3,g4,g5⟩:=Chain.get (k:=k+1) h4 (i:=i) (o:=o) (by simpa using ho)
  have hb:Cwz k (k+1+i)=true:=by simp;omega
  refine⟨s,by simpa using g1,σi,?_,?_,?_,g5⟩
  ·rw[g2,q7j,show k+(i+1)=k+1+i by omega,hb,z7r];rfl
  ·rw[q5t,show k+(i+1)=k+1+i by omega,hb];exact g3
  ·rw[q5t,show k+(i+1)=k+1+i by omega,hb];exact g4
theorem j0v:∀ {l:List Oper} {ss:List Stp} {k:Nat} {ρ:AE} {p:Nat→Bool},(∀ j,j<l.length→p (k+j)=true)→q5t p k l ss ρ=endR l ss ρ
 | [],ss,k,ρ,p,_=>by simp[q5t,endR]
 | o::l,[],k,ρ,p,_=>by simp[q5t,endR]
 | o::l,s::ss,k,ρ,p,h=>by
  have h0:=h 0 (by simp)
  rw[Cvz] at h0
  rw[q5t,endR,h0,cond_true]
  exact j0v fun j hj=>by have:=h (j+1) (by simpa using hj);rwa[show k+1+j=k+(j+1) by omega]
theorem j0w:∀ {ss:List Stp} {k:Nat} {σ:St} {p:Nat→Bool},(∀ j,j<ss.length→p (k+j)=true)→q7j p k ss (fnOf σ)=fnOf (endS ss σ)
 | [],k,σ,p,_=>rfl
 | s::ss,k,σ,p,h=>by
  have h0:=h 0 (by simp)
  rw[Cvz] at h0
  rw[q7j,endS,h0,cond_true,← z7r]
  exact j0w fun j hj=>by have:=h (j+1) (by simpa using hj);rwa[show k+1+j=k+(j+1) by omega]
def addL (l m:List Nat):List Nat:=l.foldl (fun acc x=>bif acc.contains x then acc else x::acc) m
theorem j7K:∀ {l m:List Nat} {x:Nat},x∈addL l m→x∈l∨x∈m
 | [],m,x,h=>.inr h
 | y::l,m,x,h=>by
  simp only[addL,List.foldl_cons] at h
  rcases j7K (l:=l) h with h|h
  ·exact .inl (by simp[h])
  ·cases hc:m.contains y with
   | true=>rw[hc] at h;exact .inr h
   | false=>
    rw[hc] at h
    rcases List.mem_cons.1 h with rfl|h
    ·exact .inl (by simp)
    ·exact .inr h
def clos:List Oper→List (List Nat)→List (List Nat)
 | [],acc=>acc
 | o::l,acc=>clos l (acc++[(q5K o).foldl (fun m d=>addL (acc.getD d []) m) (q5K o)])
theorem j3h:∀ (l:List Oper) (acc:List (List Nat)) (j:Nat),j<acc.length→(clos l acc).getD j []=acc.getD j []
 | [],acc,j,_=>rfl
 | o::l,acc,j,h=>by
  rw[clos,j3h l _ j (by simp;omega)]
  simp only[Ctz]
  rw[Cuz h]
theorem j7L:∀ (l:List Oper) (acc:List (List Nat)) (j:Nat) (o:Oper) (x:Nat),l[j]?=some o→x∈(clos l acc).getD (acc.length+j) []→x∈q5K o∨∃ d∈q5K o,x∈(clos l acc).getD d []∧(d<acc.length+j∨(clos l acc).getD d []=[])
 | [],_,_,_,_,h,_=>by simp at h
 | o0::l,acc,0,o,x,h,hx=>by
  simp at h
  subst h
  rw[clos,j3h l _ _ (by simp)] at hx
  simp only[Cvz,Ctz,List.getElem?_concat_length,Option.getD_some] at hx
  have key:∀ (ds:List Nat) (m:List Nat),x∈ds.foldl (fun m d=>addL (acc.getD d []) m) m→x∈m∨∃ d∈ds,x∈acc.getD d []:=by
   intro ds
   induction ds with
   | nil=>exact fun m h=>.inl h
   | cons d ds ih=>
    intro m h
    rw[List.foldl_cons] at h
    rcases ih _ h with h|⟨d',h1,h2⟩
    ·rcases j7K h with h|h
     ·exact .inr ⟨d,by simp,h⟩
     ·exact .inl h
    ·exact .inr ⟨d',by simp[h1],h2⟩
  rcases key _ _ (by simpa only[Ctz] using hx) with h|⟨d,h1,h2⟩
  ·exact .inl h
  ·right
   have hlt:d<acc.length:=by
    rcases Nat.lt_or_ge d acc.length with h|h
    ·exact h
    ·rw[Ctz,List.getElem?_eq_none h] at h2;simp at h2
   refine⟨d,h1,?_,.inl (by omega)⟩
   rw[clos,j3h l _ _ (by simp;omega)]
   simp only[Ctz] at h2 ⊢
   rw[Cuz hlt];exact h2
 | o0::l,acc,j+1,o,x,h,hx=>by
  rw[clos] at hx ⊢
  have:=j7L l (acc++[(q5K o0).foldl (fun m d=>addL (acc.getD d []) m) (q5K o0)]) j o x (by simpa using h) (by simpa[Nat.add_assoc,Nat.add_comm 1 j] using hx)
  rcases this with h1|⟨d,h1,h2,h3⟩
  ·exact .inl h1
  ·exact .inr ⟨d,h1,h2,h3.imp (fun h=>by simp at h;omega) id⟩
def k0b (l m:List Nat):Bool:=l.any fun x=>m.contains x
def k6r (ops:Array Oper)(lg:Lg)(h:Nat):Bool:=
 let cl:=clos ops.toList []
 (Amz h).all fun j=>(Amz j).all fun i=>
  let a:=lg.getD i ([],[])
  let b:=lg.getD j ([],[])
  !(k0b a.2 b.2||k0b a.2 b.1||k0b a.1 b.2)||(cl.getD j []).contains i
def k4J (ops:Array Oper)(h:Nat):Bool:=
 let cl:=clos ops.toList []
 (Amz h).all fun i=>match ops[i]? with
  | some o=>(o.looksAt ops).all fun t=>(Amz h).all fun j=>match q6Q ops j with
    | some d=>!(Nat.beq d t)||(q5K o).contains j||(Nat.ble i j&&(cl.getD j []).contains i)
    | none=>true
  | none=>true
def j2A (ops:Array Oper)(lg:Lg)(hd:Option Nat):Bool:=
 let h:=hd.getD ops.size
 z2Q ops h (ownD ops)&&k4J ops h&&k6r ops lg h
section
variable {P:Program}{S:Start}{n:Nat}{Q:q3Z}{ρ:AE}{σ:St}{ops:Array Oper}
theorem z4u {h:Nat}{listed:Array Bool}(hB:z2Q ops h (ownD ops)=true)(hcl:∀ j oj,ops[j]?=some oj→listed.getD j false=true→∀ d∈q5K oj,listed.getD d false=true):∀ (j:Nat) (o:Oper),ops[j]?=some o→(∀ d∈q5K o,listed.getD d false=true)→∀ x∈(clos ops.toList []).getD j [],listed.getD x false=true:=by
 intro j
 induction j using Nat.strongRecOn with
 | _ j ih=>
  intro o ho hd x hx
  have:=j7L ops.toList [] j o x (by simpa using ho) (by simpa using hx)
  rcases this with h1|⟨d,h1,h2,h3⟩
  ·exact hd x h1
  ·have hdj:d<j:=q8e hB ho d h1
   have hod:∃ od,ops[d]?=some od:=by
    have hlt:d<ops.size:=Nat.lt_trans hdj (Array.getElem?_eq_some_iff.1 ho).1
    exact⟨ops[d],by simp[hlt]⟩
   obtain⟨od,hod⟩:=hod
   exact ih d hdj od hod (hcl d od hod (hd d h1)) x h2
theorem j4K {l m:List Nat}:k0b l m=false↔∀ x∈l,x∉m:=by
 simp[k0b]
theorem AW.draw {id:Nat}(hm:P.follows .mixedOrders=true)(h:AT P S ops (fun ρ σ lg hd=>Q .normal ρ σ∧j2A ops lg hd=true) 0 ops.toList ρ σ [] none):AW P S n (.region id ops true) Q ρ σ:=by
 intro F g w ρc hs hv hok a ha
 have hok' : ops.toList.all (q8M n)=true:=by simpa[q9x] using hok
 have hguards:z4q n ops=true:=z6D hok'
 obtain⟨ss,hss,hch,⟨lg',hd',htail⟩,ρf,σf,lgf,hdf,⟨_,hck⟩,hpre,hh⟩:=h.head rfl
 simp only[List.nil_append,Adz] at hpre hh htail
 have hlen:hdf.getD ops.size=ss.length:=by
  rcases hh with hh|⟨hh,h2⟩<;>rw[hh]
  ·rfl
  ·simpa using h2.symm
 simp only[j2A,hlen,Afz] at hck
 obtain⟨⟨hB,hlook⟩,hord⟩:=hck
 refine wp_region_any hm ?_
 generalize hgen:ss.length=hN at *
 have hB':=hB
 simp only[z2Q,Afz] at hB'
 have hle:hN≤ops.size:=by simpa using hB'.1.1.1
 have hseq:=hB'.2
 have hss' : hN≤ops.toList.length:=by simpa using hss
 -- logs
 have hlg:∀ i s,ss[i]?=some s→lgf.getD i ([],[])=(s.rd,s.ids):=fun i s hi=>by
  obtain⟨r,hr⟩:=hpre
  rw[← hr,Ctz,Cuz (by simp;exact (List.getElem?_eq_some_iff.1 hi).1)]
  simp[hi]
 have order:∀ i j si sj,i<j→j<hN→ss[i]?=some si→ss[j]?=some sj→(∃ x,(x∈si.ids∧(x∈sj.ids∨x∈sj.rd))∨(x∈si.rd∧x∈sj.ids))→i∈(clos ops.toList []).getD j []:=fun i j si sj hij hj hsi hsj hx=>by
  have h1:=List.all_eq_true.1 hord j (List.mem_range.2 hj)
  have h2:=List.all_eq_true.1 h1 i (List.mem_range.2 hij)
  rw[hlg i si hsi,hlg j sj hsj] at h2
  simp only[Agz,Baz,Bool.or_eq_false_iff,j4K] at h2
  rcases h2 with h2|h2
  ·exfalso
   obtain⟨x,hx⟩:=hx
   rcases hx with ⟨hx,hy|hy⟩|⟨hx,hy⟩
   ·exact h2.1.1 x hx hy
   ·exact h2.1.2 x hx hy
   ·exact h2.2 x hx hy
  ·simpa using h2
 let pl:Array Bool→Nat→Bool:=fun listed j=>listed.getD j false
 let hl:=ops.toList.take hN
 have hlget:∀ {j:Nat} {o:Oper},j<hN→ops[j]?=some o→hl[j]?=some o:=fun {j o} hj ho=>by
  show (ops.toList.take hN)[j]?=some o
  rw[Anz,ifP hj];simpa using ho
 have hlget' : ∀ {j:Nat} {o:Oper},hl[j]?=some o→j<hN∧ops[j]?=some o:=fun {j o} ho=>by
  have ho:(ops.toList.take hN)[j]?=some o:=ho
  rw[Anz] at ho
  split at ho
  ·exact⟨‹_›,by simpa using ho⟩
  ·cases ho
 let Inv:Array Bool→Env→World→Prop:=fun listed ρc w=>HeadInv .any ops hN listed∧∃ F g,Sim S F g (q7j (pl listed) 0 ss (fnOf σ)) w∧∀ t,vr (SM F S.B) w g (q5t (pl listed) 0 hl ss ρ t) (ρc t)
 have done:∀ (listed:Array Bool) (ρc:Env) (a:Act) (w' : World),Inv listed ρc w'→Rel n ρc a→(∀ j,j<hN→listed.getD j false=true)→wpAny P .any ops (lift n (Qc S Q)) (ops.size-hN) listed a w':=by
  intro listed ρc a w' ⟨hinv,F',g',k1,k2⟩ hr hall
  have hlisted:listed=Alz hN true++Alz (ops.size-hN) false:=by
   apply Array.ext
   ·simp[hinv.size];omega
   ·intro i h1 h2
    by_cases hi:i<hN
    ·have:=hall i hi
     simp[h1] at this
     rw[this,Array.getElem_append_left (by simpa using hi)]
     simp
    ·have:=hinv.tail i (by omega) (by rw[← hinv.size];exact h1)
     simp[h1] at this
     rw[this,Array.getElem_append_right (by simpa using Nat.le_of_not_lt hi)]
     simp
  have e1:q7j (pl listed) 0 ss (fnOf σ)=fnOf (endS ss σ):=j0w fun j hj=>by rw[Adz];exact hall j (by omega)
  have e2:q5t (pl listed) 0 hl ss ρ=endR hl ss ρ:=j0v fun j hj=>by
   rw[Adz]
   refine hall j ?_
   have:hl.length=hN:=by show (ops.toList.take hN).length=hN;simp;omega
   omega
  rw[e1] at k1
  simp only[e2] at k2
  subst hlisted
  have hw:=htail.wl (n:=n) (Qp:=Qc S Q) hguards (fun ρ σ lg hd hq F g w ρc hs hv=>⟨ρ,σ,F,g,hs,hv,hq.1⟩) F' g' w' ρc k1 k2 (by
   refine List.all_eq_true.2 fun o ho=>List.all_eq_true.1 hok' o (List.mem_of_mem_drop ho)) a hr
  have hlen2:(ops.toList.drop hN).length=ops.size-hN:=by simp
  have:=wpAny_of_seq (P:=P) (md:=.any) (ops:=ops) (Q':=lift n (Qc S Q)) (ops.toList.drop hN) hN (Alz hN true++Alz (ops.size-hN) false) a w'
   (fun j=>by simp[List.getElem?_drop]) (by rw[hlen2];exact hseq) hw
  rwa[hlen2] at this
 have main:∀ (c:Nat) (listed:Array Bool) (ρc:Env) (a:Act) (w' : World),((Amz hN).filter (fun j=>!listed.getD j false)).length=c→Inv listed ρc w'→Rel n ρc a →
   wpAny P .any ops (lift n (Qc S Q)) (c+(ops.size-hN)) listed a w':=by
  intro c
  induction c with
  | zero=>
   intro listed ρc a w' hc inv hr
   rw[Adz]
   refine done listed ρc a w' inv hr fun j hj=>?_
   have h0:(Amz hN).filter (fun j=>!listed.getD j false)=[]:=List.eq_nil_of_length_eq_zero hc
   have:=List.filter_eq_nil_iff.1 h0 j (List.mem_range.2 hj)
   simpa using this
  | succ c ih=>
   intro listed ρc a w' hc inv hr
   obtain⟨hinv,F',g',k1,k2⟩:=inv
   have hex:∃ j,j<hN∧listed.getD j true=false:=by
    have:((Amz hN).filter (fun j=>!listed.getD j false))≠[]:=fun e=>by rw[e] at hc;simp at hc
    obtain⟨j,hj⟩:=List.exists_mem_of_ne_nil _ this
    rw[List.mem_filter,List.mem_range] at hj
    exact⟨j,hj.1,getD_in (by rw[hinv.size];omega) (by simpa using hj.2)⟩
   obtain⟨j0,hj0,hl0⟩:=hex
   obtain⟨i0,hi0,_⟩:=z0t hB hinv.size j0 j0 (Acz _) (by omega) hl0
   rw[show c+1+(ops.size-hN)=(c+(ops.size-hN))+1 by omega]
   refine⟨fun h0=>(by rw[h0] at hi0;cases hi0),fun i hi=>?_⟩
   have hih:i<hN:=by
    rcases Nat.lt_or_ge i hN with hlt|hge
    ·exact hlt
    ·exfalso
     obtain⟨_,oi,hoi,_⟩:=mem_ready.1 hi
     have hlt:i<ops.size:=(Array.getElem?_eq_some_iff.1 hoi).1
     have hsc:Region.sinkB .any ops hN=true∧Region.chainB .any ops hN=true:=by
      have h3:=hB'.1.2
      simp only[Agz,Afz] at h3
      rcases h3 with h3|h3
      ·have:=Abz h3;omega
      ·exact h3
     exact tail_waits hsc.1 hsc.2 (by omega) hinv _ j0 rfl hj0 hl0 i hge hi
   obtain⟨hun,o,ho,hall⟩:=mem_ready.1 hi
   have hunf:listed.getD i false=false:=getD_both hun
   have hmem:o∈ops.toList:=by rw[Array.mem_toList_iff];exact Array.mem_of_getElem? ho
   have hoko:q8M n o=true:=List.all_eq_true.1 hok' o hmem
   obtain⟨s,hsi,σi,e1,e2,e3,e4⟩:=Chain.get (k:=0) hch (hlget hih ho)
   simp only[Adz] at e1 e2 e3
   have hdir:∀ d∈q5K o,listed.getD d false=true:=fun d hd=>by
    obtain⟨e,he,hb,rfl⟩:=q7p.1 hd
    exact hall e he hb
   have hclosed:∀ j oj,ops[j]?=some oj→listed.getD j false=true→∀ d∈q5K oj,listed.getD d false=true:=fun j oj hj hlj d hd=>by
    obtain⟨e,he,hb,rfl⟩:=q7p.1 hd
    exact hinv.closed j oj hj hlj e he hb
   have before:∀ x∈(clos ops.toList []).getD i [],listed.getD x false=true:=z4u hB hclosed i o ho hdir
   have behind:∀ j,j<hN→i∈(clos ops.toList []).getD j []→listed.getD j false=false:=fun j hj hij=>by
    cases hlj:listed.getD j false with
    | false=>rfl
    | true=>
     have hoj:ops[j]?=some (ops[j]'(by omega)):=Array.getElem?_eq_getElem (by omega)
     have:=z4u hB hclosed j _ hoj (hclosed j _ hoj hlj) i hij
     rw[hunf] at this;cases this
   -- what the operation looks at is as in the order of the text
   have hlooks:∀ t∈o.looksAt ops,q5t (pl listed) 0 hl ss ρ t=q5t (fun j=>Cwz j i) 0 hl ss ρ t:=fun t ht=>z7A (fun j o' ho' hd'=>by
    obtain⟨hjh,hoj⟩:=hlget' ho'
    have h1:=List.all_eq_true.1 hlook i (List.mem_range.2 hih)
    simp only[ho] at h1
    have h2:=List.all_eq_true.1 h1 t ht
    have h3:=List.all_eq_true.1 h2 j (List.mem_range.2 hjh)
    have hdj:q6Q ops j=some t:=by unfold q6Q;rw[hoj];exact hd'
    rw[hdj] at h3
    simp only[Agz,Baz,Afz] at h3
    rcases h3 with (h3|h3)|h3
    ·have:Nat.beq t t=true:=Nat.beq_refl t
     rw[this] at h3;cases h3
    ·have hjd:j∈q5K o:=by simpa using h3
     rw[Adz]
     have:Cwz j i=true:=by simp;exact q8e hB ho j hjd
     rw[this];exact hdir j hjd
    ·have hij:i≤j:=by simpa using h3.1
     rw[Adz]
     have:Cwz j i=false:=by cases hb:Cwz j i with|false=>rfl|true=>simp at hb;omega
     rw[this];exact behind j hjh (by simpa using h3.2)) rfl
   have hops:∀ x∈o.op.operands,vr (SM F' S.B) w' g' (evX (q5t (fun j=>Cwz j i) 0 hl ss ρ) x) (E.ev ρc x):=fun x hx=>by
    have hvr:VR S F' g' w' (q5t (pl listed) 0 hl ss ρ) ρc:=k2
    have:=hvr.ev x
    cases x with
    | tmp t=>
     simp only[evX] at this ⊢
     rw[← hlooks t (by simp only[Oper.looksAt,List.mem_append,List.mem_filterMap];exact .inl ⟨.tmp t,by simpa using hx,rfl⟩)]
     exact this
    | _=>exact this
   have hgate:gate ops ρc o=s.on:=by
    have hx:q3O ops (q5t (pl listed) 0 hl ss ρ) o=some s.on:=by
     rw[← e2]
     unfold q3O
     cases hgd:o.guard with
     | none=>rfl
     | some jw=>
      obtain⟨j,want⟩:=jw
      simp only
      cases hd:(ops[j]?).bind (·.dst) with
      | none=>rfl
      | some d=>
       simp only
       rw[hlooks d (by simp[Oper.looksAt,hgd,hd])]
    exact z3I hx k2
   have hroot:∀ id,(id∈s.rd∨id∈s.ids)→q7j (pl listed) 0 ss (fnOf σ) id=fnOf σi id:=fun id hid=>by
    rw[e1]
    refine z6c (fun j sj hsj hidj=>?_) rfl
    rw[Adz]
    have hjh:j<hN:=by have:=(List.getElem?_eq_some_iff.1 hsj).1;omega
    rcases Nat.lt_trichotomy j i with hlt|heq|hgt
    ·have:Cwz j i=true:=by simpa using hlt
     rw[this]
     exact before j (order j i sj s hlt hih hsj hsi ⟨id,.inl ⟨hidj,hid.symm⟩⟩)
    ·subst heq
     have:Cwz j j=false:=by cases hb:Cwz j j with|false=>rfl|true=>simp at hb
     rw[this];exact hunf
    ·have:Cwz j i=false:=by cases hb:Cwz j i with|false=>rfl|true=>simp at hb;omega
     rw[this]
     refine behind j hjh (order i j s sj hgt hjh hsi hsj ⟨id,?_⟩)
     rcases hid with hid|hid
     ·exact .inr ⟨hid,hidj⟩
     ·exact .inl ⟨hid,.inl hidj⟩
   have hisz:i<listed.size:=by rw[hinv.size];omega
   have hnewS:owr (q7j (pl listed) 0 ss (fnOf σ)) s.wr=q7j (pl (listed.setIfInBounds i true)) 0 ss (fnOf σ):=by
    have hpl:∀ j,j≠i→pl (listed.setIfInBounds i true) j=pl listed j:=fun j hj=>getD_set_ne false (Ne.symm hj)
    have hpi:pl (listed.setIfInBounds i true) i=true:=by simp[pl,hisz]
    funext id
    by_cases hid:id∈s.ids
    ·refine (z8x (τ:=q7j (pl listed) 0 ss (fnOf σ)) hsi hid (by rw[Adz];exact hpi) fun j sj hij hsj hidj=>?_).symm
     rw[Adz,hpl j (by omega)]
     have hjh:j<hN:=by have:=(List.getElem?_eq_some_iff.1 hsj).1;omega
     exact behind j hjh (order i j s sj hij hjh hsi hsj ⟨id,.inl ⟨hid,.inl hidj⟩⟩)
    ·rw[z7s _ _ _ fun x hx e=>hid (List.mem_map.2 ⟨x,hx,e⟩)]
     refine z6c (fun j sj hsj hidj=>?_) rfl
     rw[Adz]
     refine (hpl j fun e=>?_).symm
     subst e
     rw[hsi] at hsj
     cases hsj
     exact hid hidj
   have hnewR:q5t (pl (listed.setIfInBounds i true)) 0 hl ss ρ=putX (q5t (pl listed) 0 hl ss ρ) o.dst s.v:=by
    refine j0u (hlget hih ho) hsi (fun j=>?_) (by rw[Adz];exact hunf) fun j o' ho' hj t ht hd'=>?_
    ·rw[Adz]
     by_cases hj:j=i
     ·subst hj;rw[ifP rfl];simp[pl,hisz]
     ·rw[ifN hj];exact getD_set_ne false (Ne.symm hj)
    ·obtain⟨hjh,hoj⟩:=hlget' ho'
     have hdi:q6Q ops i=some t:=by unfold q6Q;rw[ho];exact ht
     exact (z2R hB hoj hdi (Ne.symm hj)).2 hd'
   have next:∀ v w'',(∃ F2 g2,Sim S F2 g2 (owr (q7j (pl listed) 0 ss (fnOf σ)) s.wr) w''∧Pres S.B F' g' w' F2 g2 w''∧vr (SM F2 S.B) w'' g2 s.v v)→wpAny P .any ops (lift n (Qc S Q)) (c+(ops.size-hN)) (listed.setIfInBounds i true) (a.put o.dst v) w'':=by
    intro v w'' ⟨F2,g2,m1,m2,m3⟩
    refine ih _ (E.put ρc o.dst v) _ _ ?_ ⟨hinv.set hi hih,F2,g2,by rw[← hnewS];exact m1,?_⟩ (hr.put _ _)
    ·have hcount:∀ (l:List Nat),l.Nodup→i∈l→(l.filter (fun j=>!listed.getD j false)).length=(l.filter (fun j=>!(listed.setIfInBounds i true).getD j false)).length+1:=by
      intro l
      induction l with
      | nil=>intro _ h;cases h
      | cons x l ihl=>
       intro hnd hmem
       rw[List.nodup_cons] at hnd
       by_cases hx:x=i
       ·subst hx
        have hsame:l.filter (fun j=>!listed.getD j false)=l.filter (fun j=>!(listed.setIfInBounds x true).getD j false):=
         List.filter_congr fun y hy=>by
          have hne:x≠y:=fun e=>hnd.1 (by rw[e];exact hy)
          rw[getD_set_ne false hne]
        have hset:(listed.setIfInBounds x true).getD x false=true:=by simp[hisz]
        rw[Aoz,Aoz,ifP (by rw[hunf];rfl),ifN (by rw[hset];decide),hsame,lnC]
       ·have hmem' : i∈l:=by rcases List.mem_cons.1 hmem with h|h;exact absurd h.symm hx;exact h
        have:=ihl hnd.2 hmem'
        rw[Aoz,Aoz,getD_set_ne false (Ne.symm hx)]
        split
        ·rw[lnC,lnC,this]
        ·exact this
     have:=hcount (Amz hN) List.nodup_range (List.mem_range.2 hih)
     omega
    ·rw[hnewR]
     have hvr:VR S F' g' w' (q5t (pl listed) 0 hl ss ρ) ρc:=k2
     exact (hvr.pres m2).put o.dst m3
   unfold wpOp
   simp only[ho]
   rw[z2b hguards hr,hgate]
   cases hon:s.on with
   | true=>
    rw[ifP rfl]
    have hlt:=e3 hon _ F' g' w' ρc k1 (fun id hid=>hroot id (.inl hid)) (fun p hp=>hroot p.1 (.inr (List.mem_map.2 ⟨p,hp,rfl⟩))) hops
    have hopx:OpX P ops o ρc w' (fun vc w''=>∃ F2 g2,Sim S F2 g2 (owr (q7j (pl listed) 0 ss (fnOf σ)) s.wr) w''∧Pres S.B F' g' w' F2 g2 w''∧vr (SM F2 S.B) w'' g2 s.v vc):=.inl ⟨by rw[hgate,hon],hlt⟩
    rcases (hopx.opW (n:=n)) with ⟨_,hop⟩|⟨hgf,_⟩
    ·exact .inl (hop a _ _ hr hoko next)
    ·rw[hgate,hon] at hgf;cases hgf
   | false=>
    rw[ifN (by decide)]
    obtain⟨h5,h6⟩:=e4 hon
    refine next undef w' ⟨F',g',by rw[h6];exact k1,Pres.refl,?_⟩
    rw[h5,vr];exact⟨[],rfl,by rw[vrs]⟩
 have hc0:((Amz hN).filter (fun j=>!(Alz ops.size false).getD j false)).length=hN:=by
  rw[List.filter_eq_self.2 (fun j _=>by rw[getD_replicate_false];rfl)]
  simp
 have h0S:q7j (pl (Alz ops.size false)) 0 ss (fnOf σ)=fnOf σ:=by
  have key:∀ (ss:List Stp) (k:Nat) (σ:Nat→Root),q7j (pl (Alz ops.size false)) k ss σ=σ:=by
   intro ss
   induction ss with
   | nil=>exact fun _ _=>rfl
   | cons s ss ih=>intro k σ;rw[q7j,show pl (Alz ops.size false) k=false from getD_replicate_false _ _];exact ih _ _
  exact key _ _ _
 have h0R:q5t (pl (Alz ops.size false)) 0 hl ss ρ=ρ:=by
  have key:∀ (l:List Oper) (ss:List Stp) (k:Nat) (ρ:AE),q5t (pl (Alz ops.size false)) k l ss ρ=ρ:=by
   intro l
   induction l with
   | nil=>intro ss k ρ;simp[q5t]
   | cons o l ih=>
    intro ss k ρ
    cases ss with
    | nil=>simp[q5t]
    | cons s ss=>rw[q5t,show pl (Alz ops.size false) k=false from getD_replicate_false _ _];exact ih _ _ _
  exact key _ _ _ _
 have hdrew:Ext w { w with drawn:=w.drawn+1 }:=Ext.drawn w _
 obtain⟨q1,q2⟩:=hs.ext (F':=F) hdrew (fun _ h=>h) (fun b hb=>⟨hs.flt b hb,.inl hb⟩)
 have:=main hN _ ρc a { w with drawn:=w.drawn+1 } hc0 ⟨⟨by simp,fun j oj _ hl=>(by rw[getD_replicate_false] at hl;cases hl),fun t _ ht=>by simp[ht]⟩,F,g,by rw[h0S];exact q1,fun t=>by rw[h0R];exact q2 _ _ (hv t)⟩ ha
 rwa[show hN+(ops.size-hN)=ops.size by omega] at this
end
theorem q9A {m:Md}:mle m m=true:=by cases m<;>rfl
theorem q9k {m:Md}:mle m .bo=true:=by cases m<;>rfl
class HasTab (P:Program) where
 tab:Tab
 ok:tab.ok P=true
abbrev Md2:=Option (Nat×Lg×Option Nat)
def q4a (md:Md2)(rd ids:List Nat):Md2:=match md with
 | none=>none
 | some (k,lg,hd)=>some (k+1,lg++[(rd,ids)],hd)
def ghM (md:Md2):Md2:=match md with
 | none=>none
 | some (k,lg,hd)=>some (k,lg,hmin hd k)
def okM2 (ops:Array Oper):Md2→Bool
 | none=>true
 | some (_,lg,hd)=>j2A ops lg hd
def AL (P:Program)(S:Start)(ops:Array Oper)(Q:AE→St→Prop)(md:Md2)(l:List Oper)(ρ:AE)(σ:St):Prop:=match md with
 | none=>∀ k lg hd,AT P S ops (fun ρ σ _ _=>Q ρ σ) k l ρ σ lg hd
 | some (k,lg,hd)=>AT P S ops (fun ρ σ lg hd=>Q ρ σ∧j2A ops lg hd=true) k l ρ σ lg hd
section
variable {P:Program}[HasTab P]{S:Start}{n:Nat}{ops:Array Oper}{Q:AE→St→Prop}{QP:q3Z}{o:Oper}{rest:List Oper}{ρ:AE}{σ:St}{d:Nat}{v:X}{rd:List Nat}{md:Md2}
theorem AL.nil (h:Q ρ σ)(hm:okM2 ops md=true:=by kernel_rfl):AL P S ops Q md [] ρ σ:=by
 cases md with
 | none=>exact fun _ _ _=>.nil h
 | some p=>exact .nil ⟨h,hm⟩
theorem q0f {wr:List (Nat×Root)}(hl:LT P S o ρ σ rd v wr)(h:AL P S ops Q (q4a md rd (wr.map (·.1))) rest (updX ρ d v) (owrL σ wr))(hd:o.dst=some d:=by rfl)(hg:q3O ops ρ o=some true:=by rfl):AL P S ops Q md (o::rest) ρ σ:=by
 cases md with
 | none=>exact fun k lg hd'=>.op hg hl (by rw[hd];exact h _ _ _)
 | some p=>obtain⟨k,lg,hd'⟩:=p;exact .op hg hl (by rw[hd];exact h)
theorem q0w {wr:List (Nat×Root)}(hl:LT P S o ρ σ rd v wr)(h:AL P S ops Q (q4a md rd (wr.map (·.1))) rest ρ (owrL σ wr))(hd:o.dst=none:=by rfl)(hg:q3O ops ρ o=some true:=by rfl):AL P S ops Q md (o::rest) ρ σ:=by
 cases md with
 | none=>exact fun k lg hd'=>.op hg hl (by rw[hd];exact h _ _ _)
 | some p=>obtain⟨k,lg,hd'⟩:=p;exact .op hg hl (by rw[hd];exact h)
theorem AL.off (h:AL P S ops Q (q4a md [] []) rest (updX ρ d (.tu [])) σ)(hd:o.dst=some d:=by rfl)(hg:q3O ops ρ o=some false:=by rfl):AL P S ops Q md (o::rest) ρ σ:=by
 cases md with
 | none=>exact fun k lg hd'=>.off hg (by rw[hd];exact h _ _ _)
 | some p=>obtain⟨k,lg,hd'⟩:=p;exact .off hg (by rw[hd];exact h)
theorem AL.gh {ρ' : AE}{σ' : St}(hl:GH S ρ σ ρ' σ')(h:AL P S ops Q (ghM md) rest ρ' σ'):AL P S ops Q md rest ρ σ:=by
 cases md with
 | none=>exact fun k lg hd'=>.gh hl (h _ _ _)
 | some p=>obtain⟨k,lg,hd'⟩:=p;exact .gh hl h
theorem q0i {id:Nat}(h:AL P S ops (fun ρ σ=>QP .normal ρ σ) none ops.toList ρ σ):AW P S n (.region id ops false) QP ρ σ:=q2e (h _ _ _)
theorem q0z {id:Nat}(hm:P.follows .mixedOrders=true:=by kernel_rfl)(h:AL P S ops (fun ρ σ=>QP .normal ρ σ) (some (0,[],none)) ops.toList ρ σ):AW P S n (.region id ops true) QP ρ σ:=AW.draw hm h
theorem AT.bind {K K1:AE→St→Lg→Option Nat→Prop}{l1 l2:List Oper}{k:Nat}{ρ:AE}{σ:St}{lg:Lg}{hd:Option Nat}(h:AT P S ops K1 k l1 ρ σ lg hd)(h2:∀ ρ' σ' lg' hd',K1 ρ' σ' lg' hd'→AT P S ops K (k+l1.length) l2 ρ' σ' lg' hd'):AT P S ops K k (l1++l2) ρ σ lg hd:=by
 induction h with
 | nil h=>exact h2 _ _ _ _ h
 | op hg hl _ ih=>exact .op hg hl (ih fun a b c d e=>by have:=h2 a b c d e;rwa[lnC,show ∀ k m:Nat,k+(m+1)=k+1+m from fun k m=>by omega] at this)
 | off hg _ ih=>exact .off hg (ih fun a b c d e=>by have:=h2 a b c d e;rwa[lnC,show ∀ k m:Nat,k+(m+1)=k+1+m from fun k m=>by omega] at this)
 | opT hg hl _ ih=>exact .opT hg hl (ih fun a b c d e=>by have:=h2 a b c d e;rwa[lnC,show ∀ k m:Nat,k+(m+1)=k+1+m from fun k m=>by omega] at this)
 | gh hl _ ih=>exact .gh hl (ih h2)
theorem V (hv:opV (HasTab.tab P) ρ σ o.op=some (v,rd))(h:AL P S ops Q (q4a md rd []) rest (updX ρ d v) σ)(hd:o.dst=some d:=by rfl)(hg:q3O ops ρ o=some true:=by rfl):AL P S ops Q md (o::rest) ρ σ:=
 q0f (wr:=[]) (q1u HasTab.ok hv) h hd hg
theorem q3P {T e:Nat}{t te:TI}(hT:(HasTab.tab P).get T=some t)(he:t.el=some e)(hE:(HasTab.tab P).get e=some te):q7i P T=some e∧szT P e=some te.sz:=⟨TI.el' (Tab.chk HasTab.ok hT) he,TI.sz' (Tab.chk HasTab.ok hE)⟩
variable {T e:Nat}{t te:TI}{z:Nat}
theorem NV {zs:List X}(r:Nat)(h:AL P S ops Q (q4a md [] [r]) rest (updX ρ d (.pb r 0)) (setL σ r (.box zs)))(ho:o.op=.alloc T:=by rfl)(hT:(HasTab.tab P).get T=some t:=by rfl)(hz:t.z=some zs:=by rfl)(hr:fnOf σ r=.none:=by rfl)(hd:o.dst=some d:=by rfl)(hg:q3O ops ρ o=some true:=by rfl):AL P S ops Q md (o::rest) ρ σ:=by
 obtain⟨z,h1,h2⟩:=TI.z' (Tab.chk HasTab.ok hT) hz
 exact q0f (LT.alloc ho h1 h2 hr) h hd hg
theorem BX {x:Operand}{X1:X}(r:Nat)(h:AL P S ops Q (q4a md (q7C X1) [r]) rest (updX ρ d (.pb r 0)) (setL σ r (.box X1.cells)))(ho:o.op=.box T x:=by rfl)(hx:evX ρ x=X1:=by rfl)(hs:z3r (fnOf σ) X1=true:=by rfl)(hr:fnOf σ r=.none:=by rfl)(hd:o.dst=some d:=by rfl)(hg:q3O ops ρ o=some true:=by rfl):AL P S ops Q md (o::rest) ρ σ:=
 q0f (LT.box ho hx hs hr) h hd hg
theorem SB {x y:Operand}{Y:X}{r c:Nat}{cs:List X}(h:AL P S ops Q (q4a md (Y.cells.flatMap q7C) [r]) rest ρ (setL σ r (.box (spl cs c Y.cells))))(ho:o.op=.store T x y:=by rfl)(hT:(HasTab.tab P).get T=some t:=by rfl)(hx:evX ρ x=.pb r c:=by rfl)(hσ:fnOf σ r=.box cs:=by rfl)(hy:evX ρ y=Y:=by rfl)(hl:Y.cells.length=t.sz:=by rfl)(hf:Nat.ble (c+t.sz) cs.length=true:=by rfl)(hs:Y.cells.all (z9B (fnOf σ))=true:=by rfl)(hd:o.dst=none:=by rfl)(hg:q3O ops ρ o=some true:=by rfl):AL P S ops Q md (o::rest) ρ σ:=
 q0w (q2g ho (TI.sz' (Tab.chk HasTab.ok hT)) hx hσ hy hl hf hs) h hd hg
theorem LF {α:Type}{x:Operand}{m:Md}{f:α→D}{xs:List α}{k:Nat}(h:AL P S ops Q (q4a md [] []) rest (updX ρ d (.d .fz (.i .i64 xs.length))) σ)(ho:o.op=.call { callee:=.builtin .len,args:=#[x],argTypes:=#[T] }:=by rfl)(hT:(HasTab.tab P).get T=some t:=by rfl)(he:t.el=some e:=by rfl)(hx:evX ρ x=.d m (.sl k (xs.map f)):=by rfl)(hd:o.dst=some d:=by rfl)(hg:q3O ops ρ o=some true:=by rfl):AL P S ops Q md (o::rest) ρ σ:=
 q0f (q1n ho (TI.el' (Tab.chk HasTab.ok hT) he) hx (by simp)) h hd hg
theorem q3I {α β:Type}{f:α→β}{xs:List α}{i:Nat}{x:α}(h:xs[i]?=some x):(xs.map f)[i]?=some (f x):=by simp[h]
theorem IF {α:Type}{x i:Operand}{m m' : Md}{f:α→D}{xs:List α}{q:IntKind}{j:Int}{y:α}(h0:0≤j)(hj:xs[j.toNat]?=some y)(h:AL P S ops Q (q4a md [] []) rest (updX ρ d (.pf m (f y).cells)) σ)(ho:o.op=.indexAddr T x i:=by rfl)(hT:(HasTab.tab P).get T=some t:=by rfl)(he:t.el=some e:=by rfl)(hE:(HasTab.tab P).get e=some te:=by rfl)(hx:evX ρ x=.d m (.sl te.sz (xs.map f)):=by rfl)(hi:evX ρ i=.d m' (.i q j):=by rfl)(hd:o.dst=some d:=by rfl)(hg:q3O ops ρ o=some true:=by rfl):AL P S ops Q md (o::rest) ρ σ:=
 q0f (q3o ho (q3P hT he hE).1 (q3P hT he hE).2 hx hi h0 (q3I hj)) h hd hg
theorem L0 {α:Type}(r:Nat)(f:α→D)(h:AL P S ops Q (q4a md [] [r]) rest (updX ρ d (.ref r none)) (setL σ r (.row .fz te.sz (([]:List α).map f))))(ho:o.op=.buildSlice T 0 #[]:=by rfl)(hT:(HasTab.tab P).get T=some t:=by rfl)(he:t.el=some e:=by rfl)(hE:(HasTab.tab P).get e=some te:=by rfl)(hr:fnOf σ r=.none:=by rfl)(hd:o.dst=some d:=by rfl)(hg:q3O ops ρ o=some true:=by rfl):AL P S ops Q md (o::rest) ρ σ:=
 q0f (q1p ho (q3P hT he hE).1 (q3P hT he hE).2 hr) h hd hg
theorem AP {α:Type}{s x:Operand}{X1:X}{m' m0:Md}{f:α→D}{xs ys:List α}{zs:List X}{r b1:Nat}(r' : Nat)(m:Md)(hmax:((xs.length:Int)+(ys.length:Int))*te.by_≤140737488355328∧(xs.length:Int)+(ys.length:Int)≤9223372036854775807)(h:AL P S ops Q (q4a md (q7C X1) [r,r']) rest (updX ρ d (.ref r' none)) (setL (setL σ r .dead) r' (.row m te.sz ((xs++ys).map f))))
  (ho:o.op=.call { callee:=.builtin .append,args:=#[s,x],argTypes:=#[T,T] }:=by rfl) (hT:(HasTab.tab P).get T=some t:=by rfl) (he:t.el=some e:=by rfl) (hE:(HasTab.tab P).get e=some te:=by rfl) (hs:evX ρ s=.ref r none:=by rfl) (hx:evX ρ x=X1:=by rfl) (hsrc:srcD (fnOf σ) X1=some (m',te.sz,ys.map f):=by rfl) (hσ:fnOf σ r=.row m0 te.sz (xs.map f):=by rfl) (hz:te.z=some zs:=by rfl) (hb:te.by_=b1+1:=by rfl) (hzl:zs.length=te.sz:=by rfl) (hk0:Cwz 0 te.sz=true:=by rfl) (hm:mle m' m=true:=by first|rfl|exact q9A|exact q9k) (hm0:mle m0 m=true:=by first|rfl|exact q9A|exact q9k) (hr:fnOf σ r'=.none:=by rfl) (hd:o.dst=some d:=by rfl) (hg:q3O ops ρ o=some true:=by rfl):AL P S ops Q md (o::rest) ρ σ:=by
 obtain⟨z,h1,h2⟩:=TI.z' (Tab.chk HasTab.ok hE) hz
 refine q0f (q1q (r':=r') ho (q3P hT he hE).1 (q3P hT he hE).2 (TI.by' (Tab.chk HasTab.ok hE) hb) h1 (by rw[← hzl,← (h2 (fun _ _=>True) default (fun _=>.none)).len]) hk0 hs hσ hx hsrc hm hm0 ?_ ?_ hr) (by rw[← List.map_append];exact h) hd hg
 ·simp only[lnM]
  have:=hmax.1
  rw[← Int.natCast_add,← Int.natCast_mul] at this
  omega
 ·simp only[lnM]
  show _≤9223372036854775807
  have:=hmax.2
  omega
theorem MK {l c:Operand}{m1 m2:Md}{q q' : IntKind}{j:Int}{zs:List X}{dd:D}{b1:Nat}(r:Nat)(hl:evX ρ l=.d m1 (.i q j))(hc:evX ρ c=.d m2 (.i q' j))(dz:D)(hdz:asCs .fz zs=some dz.cells)(h0:0≤j)(hm:j≤9223372036854775807)(hbm:(te.by_:Int)*j≤281474976710656)(h:AL P S ops Q (q4a md [] [r]) rest (updX ρ d (.ref r none)) (setL σ r (.row .fz te.sz (List.replicate j.toNat dz))))
  (ho:o.op=.makeSlice T l c:=by rfl) (hT:(HasTab.tab P).get T=some t:=by rfl) (he:t.el=some e:=by rfl) (hE:(HasTab.tab P).get e=some te:=by rfl) (hz:te.z=some zs:=by rfl) (hb:te.by_=b1+1:=by rfl) (hzl:zs.length=te.sz:=by rfl) (hr:fnOf σ r=.none:=by rfl) (hd:o.dst=some d:=by rfl) (hg:q3O ops ρ o=some true:=by rfl):AL P S ops Q md (o::rest) ρ σ:=by
 obtain⟨z,h1,h2⟩:=TI.z' (Tab.chk HasTab.ok hE) hz
 exact q0f (LT.mk ho (q3P hT he hE).1 (q3P hT he hE).2 (TI.by' (Tab.chk HasTab.ok hE) hb) h1 (by rw[← hzl,← (h2 (fun _ _=>True) default (fun _=>.none)).len]) hl hc h2 hdz h0 hm hbm hr) h hd hg
theorem OB {op:BinOp}{U:Nat}{x y:Operand}{X1 Y1:X}{u1 v1 r1:Value}(z:D)(hB:rngX X1→rngX Y1→Bin P op T u1 v1 r1∧rngD z)(h:AL P S ops Q (q4a md [] []) rest (updX ρ d (.d .fz z)) σ)(ho:o.op=.binOp op T x y U:=by rfl)(hx:evX ρ x=X1:=by rfl)(hy:evX ρ y=Y1:=by rfl)(hu:cvX X1=some u1:=by rfl)(hv:cvX Y1=some v1:=by rfl)(hz:cv z=some r1:=by rfl)(hd:o.dst=some d:=by rfl)(hg:q3O ops ρ o=some true:=by rfl):AL P S ops Q md (o::rest) ρ σ:=
 q0f (q0R ho hx hy hu hv hB hz) h hd hg
theorem CA {f:Nat}{c:Call}{x:Operand}{caps axs args:List X}{pre post:St}{res:X}(ren:List (Nat×Nat))(vw:List Nat)(ok:Ok P f args pre res post)(hp:PassL (fnOf σ) ren vw axs args)(h:AL P S ops Q (q4a md vw ((ren.map fun p=>(p.2,j0m ren (fnOf post p.1))).map (·.1))) rest (updX ρ d (renX ren res)) (owrL σ (ren.map fun p=>(p.2,j0m ren (fnOf post p.1)))))(hpre:PreL (fnOf σ) (fnOf pre) ren ren)
  (ho:o.op=.call c:=by rfl) (hc:c.callee=.value x:=by rfl) (hx:evX ρ x=.fn f caps:=by rfl) (hcb:q9d P f=true:=by kernel_rfl) (ha:c.args.toList.map (evX ρ)++caps=axs:=by rfl) (hchk:j4D ren vw pre post res=true:=by rfl) (hd:o.dst=some d:=by rfl) (hg:q3O ops ρ o=some true:=by rfl):AL P S ops Q md (o::rest) ρ σ:=
 q0f (q1r ren vw ho hc hx hcb ha ok hp hpre hchk) h hd hg
end
end Go.A
