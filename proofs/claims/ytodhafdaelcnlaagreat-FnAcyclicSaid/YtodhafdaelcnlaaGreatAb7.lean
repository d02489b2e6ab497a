/- Abstract states of a walk: plain lemmas on the model, without conditions of their own. -/
import Derived.Test.YtodhafdaelcnlaaGreatAb6
set_option linter.unusedVariables false
set_option linter.unusedSimpArgs false
set_option linter.ambiguousOpen false
set_option linter.unusedSectionVars false
set_option linter.unnecessarySimpa false
open List renaming prefix_append->Cvz,getD_eq_getElem?_getD->Cwz,getElem?_append_left->Atz,range->Amz,getElem?_take->Anz,filter_cons->Aoz
open Nat renaming le_refl->Acz,add_zero->Cxz,eq_of_beq_eq_true->Abz,blt->Cyz,zero_add->Adz
open Bool renaming and_eq_true->Afz,or_eq_true->Agz,not_eq_true'->Bdz
open Array renaming replicate->Alz
namespace Go.A
open Go Go.E
structure Stp where
 on:Bool
 rd:List Nat
 v:X
 wr:List (Nat×aw)
def Stp.ids (s:Stp):List Nat:=s.wr.map (·.1)
def gz (P:Program)(S:Start)(ops:Array Oper):List Oper->List Stp->AE->St->Prop
 | [],[],_,_=>True
 | o::l,s::ss,ρ,σ=>aV ops ρ o=some s.on/\(s.on=true->LT P S o ρ σ s.rd s.v s.wr)/\(s.on=false->s.v=.tu []/\s.wr=[])/\gz P S ops l ss (du ρ o.dst s.v) (bc σ s.wr)
 | _,_,_,_=>False
def jh:List Oper->List Stp->AE->AE
 | o::l,s::ss,ρ=>jh l ss (du ρ o.dst s.v)
 | _,_,ρ=>ρ
def lq:List Stp->St->St
 | s::ss,σ=>lq ss (bc σ s.wr)
 | [],σ=>σ
theorem AT.final {P:Program}{S:Start}{ops:Array Oper}{Z5:AE->St->Lg->Option Nat->Prop}{k:Nat}{l:List Oper}{ρ:AE}{σ:St}{lg:Lg}{hd:Option Nat}(h:AT P S ops Z5 k l ρ σ lg hd) :
  ∃ ρf σf lgf hdf,Z5 ρf σf lgf hdf/\lg <+: lgf/\(∀ j,hd=some j->hdf=some j):=by
 induction h with
 | nil h=>exact⟨_,_,_,_,h,List.prefix_rfl,λ_ h=>h⟩
 | op _ _ _ ih=>obtain⟨a,b,c,d,U,W,h3⟩:=ih;exact⟨a,b,c,d,U,(Cvz _ _).trans W,h3⟩
 | off _ _ ih=>obtain⟨a,b,c,d,U,W,h3⟩:=ih;exact⟨a,b,c,d,U,(Cvz _ _).trans W,h3⟩
 | opT _ _ _ ih=>obtain⟨a,b,c,d,U,W,h3⟩:=ih;exact⟨a,b,c,d,U,W,λj hj=>by subst hj;exact h3 j rfl⟩
 | gh _ _ ih=>obtain⟨a,b,c,d,U,W,h3⟩:=ih;exact⟨a,b,c,d,U,W,λj hj=>by subst hj;exact h3 j rfl⟩
theorem AT.head {P:Program}{S:Start}{ops:Array Oper}{Z5:AE->St->Lg->Option Nat->Prop}{k:Nat}{l:List Oper}{ρ:AE}{σ:St}{lg:Lg}{hd:Option Nat}(h:AT P S ops Z5 k l ρ σ lg hd):hd=none ->
  ∃ ss:List Stp,ss.length<=l.length/\gz P S ops (l.take ss.length) ss ρ σ/\(∃ lg' hd',AT P S ops Z5 (k+ss.length) (l.drop ss.length) (jh (l.take ss.length) ss ρ) (lq ss σ) lg' hd') /\
   ∃ ρf σf lgf hdf,Z5 ρf σf lgf hdf/\(lg++ss.map λs=>(s.rd,s.ids)) <+: lgf/\(hdf=some (k+ss.length)∨(hdf=none/\ss.length=l.length)):=by
 induction h with
 | nil h=>exact λe=>⟨[],Acz _,trivial,⟨_,_,.nil h⟩,_,_,_,_,h,by simp,.inr ⟨e,rfl⟩⟩
 | @op k o rest ρ σ lg hd rd v wr hg hl _ ih=>
  intro e;obtain⟨ss,U,W,⟨lg',hd',h3⟩,ρf,σf,lgf,hdf,h4,h5,h6⟩:=ih e;refine⟨⟨true,rd,v,wr⟩::ss,by simpa using U,⟨hg,λ_=>hl,(λh=>nomatch h),W⟩,⟨lg',hd',by rw[show k+(⟨true,rd,v,wr⟩::ss:List Stp).length=k+1+ss.length by simp;omega];exact h3⟩,ρf,σf,lgf,hdf,h4,by simpa[Stp.ids] using h5,?_⟩;rcases h6 with h6|⟨h6,h7⟩
  exact .inl (by rw[h6,bH];congr 1;omega);exact .inr ⟨h6,by simp[h7]⟩
 | @off k o rest ρ σ lg hd hg _ ih=>
  intro e;obtain⟨ss,U,W,⟨lg',hd',h3⟩,ρf,σf,lgf,hdf,h4,h5,h6⟩:=ih e;refine⟨⟨false,[],.tu [],[]⟩::ss,by simpa using U,⟨hg,(λh=>nomatch h),λ_=>⟨rfl,rfl⟩,W⟩,⟨lg',hd',by rw[show k+(⟨false,[],.tu [],[]⟩::ss:List Stp).length=k+1+ss.length by simp;omega];exact h3⟩,ρf,σf,lgf,hdf,h4,by simpa[Stp.ids] using h5,?_⟩;rcases h6 with h6|⟨h6,h7⟩
  exact .inl (by rw[h6,bH];congr 1;omega);exact .inr ⟨h6,by simp[h7]⟩
 | @opT k o rest ρ ρ' σ σ' lg hd hg hl h _=>
  intro e;subst e;obtain⟨a,b,c,d,U,W,h3⟩:=h.final;exact⟨[],Nat.zero_le _,trivial,⟨_,_,.opT hg hl h⟩,a,b,c,d,U,by simpa using W,.inl (h3 k rfl)⟩
 | @gh k l ρ ρ' σ σ' lg hd hl h _=>
  intro e;subst e;obtain⟨a,b,c,d,U,W,h3⟩:=h.final;exact⟨[],Nat.zero_le _,trivial,⟨_,_,.gh hl h⟩,a,b,c,d,U,by simpa using W,.inl (h3 k rfl)⟩
def cK (p:Nat->Bool):Nat->List Oper->List Stp->AE->AE
 | k,o::l,s::ss,ρ=>cK p (k+1) l ss (bif p k then du ρ o.dst s.v else ρ)
 | _,_,_,ρ=>ρ
def eD (p:Nat->Bool):Nat->List Stp->(Nat->aw)->Nat->aw
 | k,s::ss,σ=>eD p (k+1) ss (bif p k then cg σ s.wr else σ)
 | _,[],σ=>σ
theorem AJ {p q:Nat->Bool}{id:Nat}:∀ {ss:List Stp} {k:Nat} {σ τ:Nat->aw},(∀ j s,ss[j]?=some s->id∈s.ids->p (k+j)=q (k+j))->σ id=τ id->eD p k ss σ id=eD q k ss τ id
 | [],k,σ,τ,_,h=>h
 | s::ss,k,σ,τ,hp,h=>by
  rw[eD,eD];refine AJ (λj s' hs hi=>by have:=hp (j+1) s' (by simpa using hs) hi;rwa[show k+1+j=k+(j+1) by omega]) ?_;by_cases hi:id∈s.ids;have:=hp 0 s rfl hi;rw[Cxz] at this;rw[this];cases q k with
  | true=>exact Fx _ _ _ _ (.inl h)
  | false=>exact h
  have hn:∀ x∈s.wr,x.1≠id:=λx hx e=>hi (List.mem_map.2 ⟨x,hx,e⟩);have hn' : ∀ ρ:Nat->aw,cg ρ s.wr id=ρ id:=λρ=>Fy _ _ _ hn;cases p k<;>cases q k<;>simp only[cond_true,cond_false,hn']<;>exact h
theorem ML {p:Nat->Bool}{id i:Nat}{s:Stp}{τ:Nat->aw}:∀ {ss:List Stp} {k:Nat} {σ:Nat->aw},ss[i]?=some s->id∈s.ids->p (k+i)=true->(∀ j s',i<j->ss[j]?=some s'->id∈s'.ids->p (k+j)=false)->eD p k ss σ id=cg τ s.wr id
 | [],_,_,h,_,_,_=>by simp at h
 | s0::ss,k,σ,h,hi,hp,hn=>by
  rw[eD];cases i with
  | zero=>
   simp at h;subst h;rw[Cxz] at hp;rw[hp,cond_true];have:eD p (k+1) ss (cg σ s0.wr) id=eD (λ_=>false) (k+1) ss (cg σ s0.wr) id:=AJ (λj s' hs hi'=>by
    have:=hn (j+1) s' (by omega) (by simpa using hs) hi';rwa[show k+1+j=k+(j+1) by omega]) rfl
   rw[this];have key:∀ (ss:List Stp) (k:Nat) (σ:Nat->aw),eD (λ_=>false) k ss σ=σ:=by
    intro ss
    induction ss with
    | nil=>exact λ_ _=>rfl
    | cons s ss ih=>exact λk σ=>by rw[eD];exact ih _ _
   rw[key];obtain⟨x,hx,e⟩:=List.mem_map.1 hi;exact Fx _ _ _ _ (.inr ⟨x,hx,e⟩)
  | succ i=>
   exact ML (i:=i) (by simpa using h) hi (by rwa[show k+1+i=k+(i+1) by omega]) λj s' hj hs hi'=>by
    have:=hn (j+1) s' (by omega) (by simpa using hs) hi';rwa[show k+1+j=k+(j+1) by omega]
theorem AI {p q:Nat->Bool}{t:Nat}:∀ {l:List Oper} {ss:List Stp} {k:Nat} {ρ τ:AE},(∀ j o,l[j]?=some o->o.dst=some t->p (k+j)=q (k+j))->ρ t=τ t->cK p k l ss ρ t=cK q k l ss τ t
 | [],ss,k,ρ,τ,_,h=>by simpa[cK] using h
 | o::l,[],k,ρ,τ,_,h=>by simpa[cK] using h
 | o::l,s::ss,k,ρ,τ,hp,h=>by
  rw[cK,cK];refine AI (λj o' ho hd=>by have:=hp (j+1) o' (by simpa using ho) hd;rwa[show k+1+j=k+(j+1) by omega]) ?_;by_cases hd:o.dst=some t;have:=hp 0 o rfl hd;rw[Cxz] at this;rw[this,hd];cases q k with
  | true=>simp[du,av]
  | false=>exact h
  have hn:∀ (ρ:AE) (v:X),du ρ o.dst v t=ρ t:=λρ v=>by
   cases hdd:o.dst with
   | none=>rfl
   | some d=>
    have hne:t≠d:=λe=>hd (by rw[hdd,e]);simp only[du,av];cases Y:Nat.beq t d with
    | true=>exact absurd (Abz Y) hne
    | false=>rfl
  cases p k<;>cases q k<;>simp only[cond_true,cond_false,hn]<;>exact h
theorem LX {p q:Nat->Bool}{i:Nat}{o:Oper}{s:Stp}:∀ {l:List Oper} {ss:List Stp} {k:Nat} {ρ:AE},l[i]?=some o->ss[i]?=some s->(∀ j,q (k+j)=(if j=i then true else p (k+j)))->p (k+i)=false->(∀ j o',l[j]?=some o'->j≠i->∀ t,o.dst=some t->o'.dst≠some t) ->
  cK q k l ss ρ=du (cK p k l ss ρ) o.dst s.v
 | [],_,_,_,h,_,_,_,_=>by simp at h
 | o0::l,[],_,_,_,h,_,_,_=>by simp at h
 | o0::l,s0::ss,k,ρ,ho,hs,hq,hp,hu=>by
  funext t;cases i with
  | zero=>
   simp at ho hs;subst ho;subst hs;have h0:=hq 0;rw[Cxz] at h0 hp;rw[cK,cK,h0,hp];simp only[if_true,cond_true,cond_false];by_cases hd:o0.dst=some t;have e1:cK q (k+1) l ss (du ρ o0.dst s0.v) t=cK (λ_=>false) (k+1) l ss (du ρ o0.dst s0.v) t:=AI (λj o' ho' hd'=>absurd hd' (hu (j+1) o' (by simpa using ho') (by omega) t hd)) rfl;have key:∀ (l:List Oper) (ss:List Stp) (k:Nat) (ρ:AE),cK (λ_=>false) k l ss ρ=ρ:=by
    intro l
    induction l with
    | nil=>intro ss k ρ;simp[cK]
    | cons o l ih=>
     intro ss k ρ;cases ss with
     | nil=>simp[cK]
     | cons s ss=>rw[cK];exact ih _ _ _
   rw[e1,key,hd];simp[du,av];have hn:∀ (ρ:AE) (v:X),du ρ o0.dst v t=ρ t:=λρ v=>by
    cases hdd:o0.dst with
    | none=>rfl
    | some d=>
     have hne:t≠d:=λe=>hd (by rw[hdd,e]);simp only[du,av];cases Y:Nat.beq t d with
     | true=>exact absurd (Abz Y) hne
     | false=>rfl
   rw[hn];refine AI (λj o' ho' hd'=>?_) (hn _ _);have:=hq (j+1);rw[show k+1+j=k+(j+1) by omega,this,al (by omega)]
  | succ i=>
   rw[cK,cK];have h0:=hq 0;rw[al (by omega)] at h0;rw[Cxz] at h0;rw[h0];have:=LX (i:=i) (l:=l) (ss:=ss) (k:=k+1) (ρ:=bif p k then du ρ o0.dst s0.v else ρ) (p:=p) (q:=q) (o:=o) (s:=s) (by simpa using ho) (by simpa using hs) (λj=>by
    have:=hq (j+1);rw[show k+1+j=k+(j+1) by omega,this];by_cases hj:j=i<;>simp[hj]) (by rwa[show k+1+i=k+(i+1) by omega]) (λj o' ho' hj=>hu (j+1) o' (by simpa using ho') (by omega))
   rw[this]
theorem gz.get {P:Program}{S:Start}{ops:Array Oper}:∀ {l:List Oper} {ss:List Stp} {k:Nat} {ρ:AE} {σ:St},gz P S ops l ss ρ σ->∀ {i:Nat} {o:Oper},l[i]?=some o->∃ s,ss[i]?=some s/\∃ σi:St,ai σi=eD (λj=>Cyz j (k+i)) k ss (ai σ) /\
  aV ops (cK (λj=>Cyz j (k+i)) k l ss ρ) o=some s.on/\(s.on=true->LT P S o (cK (λj=>Cyz j (k+i)) k l ss ρ) σi s.rd s.v s.wr)/\(s.on=false->s.v=.tu []/\s.wr=[])
 | [],_,_,_,_,_,i,o,h=>by simp at h
 | o0::l,[],_,_,_,h,_,_,_=>h.elim
 | o0::l,s0::ss,k,ρ,σ,h,0,o,ho=>by
  obtain⟨U,W,h3,h4⟩:=h;simp at ho;subst ho;have nolt:∀ j,Cyz (k+j) (k+0)=false:=λj=>by
   cases Y:Cyz (k+j) (k+0) with
   | false=>rfl
   | true=>simp at Y;omega
  have e1:eD (λj=>Cyz j (k+0)) k (s0::ss) (ai σ)=ai σ:=by
   have key:∀ (ss:List Stp) (m:Nat) (σ:Nat->aw),k<=m->eD (λj=>Cyz j (k+0)) m ss σ=σ:=by
    intro ss
    induction ss with
    | nil=>exact λ_ _ _=>rfl
    | cons s ss ih=>
     intro m σ hm;have:Cyz m (k+0)=false:=by have:=nolt (m-k);rwa[show k+(m-k)=m by omega] at this
     rw[eD,this];exact ih _ _ (by omega)
   exact key _ _ _ (Acz _)
  have e2:cK (λj=>Cyz j (k+0)) k (o0::l) (s0::ss) ρ=ρ:=by
   have key:∀ (l:List Oper) (ss:List Stp) (m:Nat) (ρ:AE),k<=m->cK (λj=>Cyz j (k+0)) m l ss ρ=ρ:=by
    intro l
    induction l with
    | nil=>intro ss m ρ _;simp[cK]
    | cons o l ih=>
     intro ss m ρ hm;cases ss with
     | nil=>simp[cK]
     | cons s ss=>
      have:Cyz m (k+0)=false:=by have:=nolt (m-k);rwa[show k+(m-k)=m by omega] at this
      rw[cK,this];exact ih _ _ _ (by omega)
   exact key _ _ _ _ (Acz _)
  exact⟨s0,rfl,σ,e1.symm,by rw[e2];exact U,by rw[e2];exact W,h3⟩
 | o0::l,s0::ss,k,ρ,σ,h,i+1,o,ho=>by
  obtain⟨U,W,h3,h4⟩:=h;obtain⟨s,g1,σi,g2,g3,g4,g5⟩:=gz.get (k:=k+1) h4 (i:=i) (o:=o) (by simpa using ho);have Y:Cyz k (k+1+i)=true:=by simp;omega
  refine⟨s,by simpa using g1,σi,?_,?_,?_,g5⟩;rw[g2,eD,show k+(i+1)=k+1+i by omega,Y,xl];rfl;rw[cK,show k+(i+1)=k+1+i by omega,Y];exact g3;rw[cK,show k+(i+1)=k+1+i by omega,Y];exact g4
theorem LW:∀ {l:List Oper} {ss:List Stp} {k:Nat} {ρ:AE} {p:Nat->Bool},(∀ j,j<l.length->p (k+j)=true)->cK p k l ss ρ=jh l ss ρ
 | [],ss,k,ρ,p,_=>by simp[cK,jh]
 | o::l,[],k,ρ,p,_=>by simp[cK,jh]
 | o::l,s::ss,k,ρ,p,h=>by
  have h0:=h 0 (by simp);rw[Cxz] at h0;rw[cK,jh,h0,cond_true];exact LW λj hj=>by have:=h (j+1) (by simpa using hj);rwa[show k+1+j=k+(j+1) by omega]
theorem LV:∀ {ss:List Stp} {k:Nat} {σ:St} {p:Nat->Bool},(∀ j,j<ss.length->p (k+j)=true)->eD p k ss (ai σ)=ai (lq ss σ)
 | [],k,σ,p,_=>rfl
 | s::ss,k,σ,p,h=>by
  have h0:=h 0 (by simp);rw[Cxz] at h0;rw[eD,lq,h0,cond_true,← xl];exact LV λj hj=>by have:=h (j+1) (by simpa using hj);rwa[show k+1+j=k+(j+1) by omega]
def lB (l m:List Nat):List Nat:=l.foldl (λacc x=>bif acc.contains x then acc else x::acc) m
theorem Kh:∀ {l m:List Nat} {x:Nat},x∈lB l m->x∈l∨x∈m
 | [],m,x,h=>.inr h
 | y::l,m,x,h=>by
  simp only[lB,List.foldl_cons] at h;rcases Kh (l:=l) h with h|h;exact .inl (by simp[h]);cases hc:m.contains y with
  | true=>rw[hc] at h;exact .inr h
  | false=>
   rw[hc] at h;rcases List.mem_cons.1 h with rfl|h;exact .inl (by simp);exact .inr h
def ek:List Oper->List (List Nat)->List (List Nat)
 | [],acc=>acc
 | o::l,acc=>ek l (acc++[(fw o).foldl (λm d=>lB (acc.getD d []) m) (fw o)])
theorem EW:∀ (l:List Oper) (acc:List (List Nat)) (j:Nat),j<acc.length->(ek l acc).getD j []=acc.getD j []
 | [],acc,j,_=>rfl
 | o::l,acc,j,h=>by
  rw[ek,EW l _ j (by simp;omega)];simp only[Cwz];rw[Atz h]
theorem Kg:∀ (l:List Oper) (acc:List (List Nat)) (j:Nat) (o:Oper) (x:Nat),l[j]?=some o->x∈(ek l acc).getD (acc.length+j) []->x∈fw o∨∃ d∈fw o,x∈(ek l acc).getD d []/\(d<acc.length+j∨(ek l acc).getD d []=[])
 | [],_,_,_,_,h,_=>by simp at h
 | o0::l,acc,0,o,x,h,hx=>by
  simp at h;subst h;rw[ek,EW l _ _ (by simp)] at hx;simp only[Cxz,Cwz,List.getElem?_concat_length,Option.getD_some] at hx;have key:∀ (ds:List Nat) (m:List Nat),x∈ds.foldl (λm d=>lB (acc.getD d []) m) m->x∈m∨∃ d∈ds,x∈acc.getD d []:=by
   intro ds
   induction ds with
   | nil=>exact λm h=>.inl h
   | cons d ds ih=>
    intro m h;rw[List.foldl_cons] at h;rcases ih _ h with h|⟨d',U,W⟩
    rcases Kh h with h|h;exact .inr ⟨d,by simp,h⟩;exact .inl h;exact .inr ⟨d',by simp[U],W⟩
  rcases key _ _ (by simpa only[Cwz] using hx) with h|⟨d,U,W⟩
  exact .inl h;right;have hlt:d<acc.length:=by
   rcases Nat.lt_or_ge d acc.length with h|h;exact h;rw[Cwz,List.getElem?_eq_none h] at W;simp at W
  refine⟨d,U,?_,.inl (by omega)⟩;rw[ek,EW l _ _ (by simp;omega)];simp only[Cwz] at W ⊢;rw[Atz hlt];exact W
 | o0::l,acc,j+1,o,x,h,hx=>by
  rw[ek] at hx ⊢;have:=Kg l (acc++[(fw o0).foldl (λm d=>lB (acc.getD d []) m) (fw o0)]) j o x (by simpa using h) (by simpa[Nat.add_assoc,Nat.add_comm 1 j] using hx);rcases this with U|⟨d,U,W,h3⟩
  exact .inl U;exact .inr ⟨d,U,W,h3.imp (λh=>by simp at h;omega) id⟩
def vZ (l m:List Nat):Bool:=l.any λx=>m.contains x
def Sg (ops:Array Oper)(lg:Lg)(h:Nat):Bool:=
 let cl:=ek ops.toList []
 (Amz h).all λj=>(Amz j).all λi=>
  let a:=lg.getD i ([],[]);let b:=lg.getD j ([],[])
  !(vZ a.2 b.2||vZ a.2 b.1||vZ a.1 b.2)||(cl.getD j []).contains i
def T6 (ops:Array Oper)(h:Nat):Bool:=
 let cl:=ek ops.toList []
 (Amz h).all λi=>match ops[i]? with
  | some o=>(o.looksAt ops).all λt=>(Amz h).all λj=>match di ops j with
    | some d=>!(Nat.beq d t)||(fw o).contains j||(Nat.ble i j&&(cl.getD j []).contains i)
    | none=>true
  | none=>true
def Ag (ops:Array Oper)(lg:Lg)(hd:Option Nat):Bool:=
 let h:=hd.getD ops.size
 j9 ops h (ic ops)&&T6 ops h&&Sg ops lg h
section
variable {P:Program}{S:Start}{n:Nat}{Q:cQ}{ρ:AE}{σ:St}{ops:Array Oper}
theorem Nn {h:Nat}{listed:Array Bool}(hB:j9 ops h (ic ops)=true)(hcl:∀ j oj,ops[j]?=some oj->listed.getD j false=true->∀ d∈fw oj,listed.getD d false=true):∀ (j:Nat) (o:Oper),ops[j]?=some o->(∀ d∈fw o,listed.getD d false=true)->∀ x∈(ek ops.toList []).getD j [],listed.getD x false=true:=by
 intro j
 induction j using Nat.strongRecOn with
 | _ j ih=>
  intro o ho hd x hx;have:=Kg ops.toList [] j o x (by simpa using ho) (by simpa using hx);rcases this with U|⟨d,U,W,h3⟩
  exact hd x U;have hdj:d<j:=po hB ho d U;have hod:∃ od,ops[d]?=some od:=by
   have hlt:d<ops.size:=Nat.lt_trans hdj (Array.getElem?_eq_some_iff.1 ho).1;exact⟨ops[d],by simp[hlt]⟩
  obtain⟨od,hod⟩:=hod;exact ih d hdj od hod (hcl d od hod (hd d U)) x W
theorem WG {l m:List Nat}:vZ l m=false↔∀ x∈l,x∉m:=by
 simp[vZ]
theorem AW.draw {id:Nat}(hm:P.follows .mixedOrders=true)(h:AT P S ops (λρ σ lg hd=>Q .normal ρ σ/\Ag ops lg hd=true) 0 ops.toList ρ σ [] none):AW P S n (.region id ops true) Q ρ σ:=by
 intro F g w ρc hs hv hok a ha;have hok' : ops.toList.all (gD n)=true:=by simpa[gR] using hok
 have hguards:qB n ops=true:=Nr hok';obtain⟨ss,hss,hch,⟨lg',hd',htail⟩,ρf,σf,lgf,hdf,⟨_,hck⟩,hpre,hh⟩:=h.head rfl;simp only[List.nil_append,Adz] at hpre hh htail;have hlen:hdf.getD ops.size=ss.length:=by
  rcases hh with hh|⟨hh,W⟩<;>rw[hh];rfl;simpa using W.symm
 simp only[Ag,hlen,Afz] at hck;obtain⟨⟨hB,hlook⟩,hord⟩:=hck;refine wp_region_any hm ?_;generalize hgen:ss.length=hN at *;have hB':=hB;simp only[j9,Afz] at hB';have hle:hN<=ops.size:=by simpa using hB'.1.1.1
 have hseq:=hB'.2;have hss' : hN<=ops.toList.length:=by simpa using hss
 -- logs
 have hlg:∀ i s,ss[i]?=some s->lgf.getD i ([],[])=(s.rd,s.ids):=λi s hi=>by
  obtain⟨r,Z⟩:=hpre;rw[← Z,Cwz,Atz (by simp;exact (List.getElem?_eq_some_iff.1 hi).1)];simp[hi]
 have order:∀ i j si sj,i<j->j<hN->ss[i]?=some si->ss[j]?=some sj->(∃ x,(x∈si.ids/\(x∈sj.ids∨x∈sj.rd))∨(x∈si.rd/\x∈sj.ids))->i∈(ek ops.toList []).getD j []:=λi j si sj hij hj hsi hsj hx=>by
  have U:=List.all_eq_true.1 hord j (List.mem_range.2 hj);have W:=List.all_eq_true.1 U i (List.mem_range.2 hij);rw[hlg i si hsi,hlg j sj hsj] at W;simp only[Agz,Bdz,Bool.or_eq_false_iff,WG] at W;rcases W with W|W;exfalso;obtain⟨x,hx⟩:=hx;rcases hx with ⟨hx,hy|hy⟩|⟨hx,hy⟩
  exact W.1.1 x hx hy;exact W.1.2 x hx hy;exact W.2 x hx hy;simpa using W
 let pl:Array Bool->Nat->Bool:=λlisted j=>listed.getD j false;let hl:=ops.toList.take hN;have hlget:∀ {j:Nat} {o:Oper},j<hN->ops[j]?=some o->hl[j]?=some o:=λ{j o} hj ho=>by
  show (ops.toList.take hN)[j]?=some o;rw[Anz,ao hj];simpa using ho
 have hlget' : ∀ {j:Nat} {o:Oper},hl[j]?=some o->j<hN/\ops[j]?=some o:=λ{j o} ho=>by
  have ho:(ops.toList.take hN)[j]?=some o:=ho;rw[Anz] at ho;split at ho;exact⟨‹_›,by simpa using ho⟩;cases ho
 let Inv:Array Bool->Env->World->Prop:=λlisted ρc w=>HeadInv .any ops hN listed/\∃ F g,bp S F g (eD (pl listed) 0 ss (ai σ)) w/\∀ t,vr (SM F S.B) w g (cK (pl listed) 0 hl ss ρ t) (ρc t);have done:∀ (listed:Array Bool) (ρc:Env) (a:Act) (w' : World),Inv listed ρc w'->fL n ρc a->(∀ j,j<hN->listed.getD j false=true)->wpAny P .any ops (lift n (Qc S Q)) (ops.size-hN) listed a w':=by
  intro listed ρc a w' ⟨hinv,F',g',k1,k2⟩ Z hall;have hlisted:listed=Alz hN true++Alz (ops.size-hN) false:=by
   apply Array.ext;simp[hinv.size];omega;intro i U W;by_cases hi:i<hN;have:=hall i hi;simp[U] at this;rw[this,Array.getElem_append_left (by simpa using hi)];simp;have:=hinv.tail i (by omega) (by rw[← hinv.size];exact U);simp[U] at this;rw[this,Array.getElem_append_right (by simpa using Nat.le_of_not_lt hi)];simp
  have e1:eD (pl listed) 0 ss (ai σ)=ai (lq ss σ):=LV λj hj=>by rw[Adz];exact hall j (by omega)
  have e2:cK (pl listed) 0 hl ss ρ=jh hl ss ρ:=LW λj hj=>by
   rw[Adz];refine hall j ?_;have:hl.length=hN:=by show (ops.toList.take hN).length=hN;simp;omega
   omega
  rw[e1] at k1;simp only[e2] at k2;subst hlisted;have hw:=htail.wl (n:=n) (Qp:=Qc S Q) hguards (λρ σ lg hd hq F g w ρc hs hv=>⟨ρ,σ,F,g,hs,hv,hq.1⟩) F' g' w' ρc k1 k2 (by
   refine List.all_eq_true.2 λo ho=>List.all_eq_true.1 hok' o (List.mem_of_mem_drop ho)) a Z
  have hlen2:(ops.toList.drop hN).length=ops.size-hN:=by simp
  have:=wpAny_of_seq (P:=P) (md:=.any) (ops:=ops) (Q':=lift n (Qc S Q)) (ops.toList.drop hN) hN (Alz hN true++Alz (ops.size-hN) false) a w'
   (λj=>by simp[List.getElem?_drop]) (by rw[hlen2];exact hseq) hw
  rwa[hlen2] at this
 have main:∀ (c:Nat) (listed:Array Bool) (ρc:Env) (a:Act) (w' : World),((Amz hN).filter (λj=>!listed.getD j false)).length=c->Inv listed ρc w'->fL n ρc a ->
   wpAny P .any ops (lift n (Qc S Q)) (c+(ops.size-hN)) listed a w':=by
  intro c
  induction c with
  | zero=>
   intro listed ρc a w' hc inv Z;rw[Adz];refine done listed ρc a w' inv Z λj hj=>?_;have h0:(Amz hN).filter (λj=>!listed.getD j false)=[]:=List.eq_nil_of_length_eq_zero hc;have:=List.filter_eq_nil_iff.1 h0 j (List.mem_range.2 hj);simpa using this
  | succ c ih=>
   intro listed ρc a w' hc inv Z;obtain⟨hinv,F',g',k1,k2⟩:=inv;have hex:∃ j,j<hN/\listed.getD j true=false:=by
    have:((Amz hN).filter (λj=>!listed.getD j false))≠[]:=λe=>by rw[e] at hc;simp at hc
    obtain⟨j,hj⟩:=List.exists_mem_of_ne_nil _ this;rw[List.mem_filter,List.mem_range] at hj;exact⟨j,hj.1,getD_in (by rw[hinv.size];omega) (by simpa using hj.2)⟩
   obtain⟨j0,hj0,hl0⟩:=hex;obtain⟨i0,hi0,_⟩:=Hd hB hinv.size j0 j0 (Acz _) (by omega) hl0;rw[show c+1+(ops.size-hN)=(c+(ops.size-hN))+1 by omega];refine⟨λh0=>(by rw[h0] at hi0;cases hi0),λi hi=>?_⟩;have hih:i<hN:=by
    rcases Nat.lt_or_ge i hN with hlt|hge;exact hlt;exfalso;obtain⟨_,oi,hoi,_⟩:=mem_ready.1 hi;have hlt:i<ops.size:=(Array.getElem?_eq_some_iff.1 hoi).1;have hsc:Region.sinkB .any ops hN=true/\Region.chainB .any ops hN=true:=by
     have h3:=hB'.1.2;simp only[Agz,Afz] at h3;rcases h3 with h3|h3;have:=Abz h3;omega;exact h3
    exact tail_waits hsc.1 hsc.2 (by omega) hinv _ j0 rfl hj0 hl0 i hge hi
   obtain⟨hun,o,ho,hall⟩:=mem_ready.1 hi;have hunf:listed.getD i false=false:=getD_both hun;have hmem:o∈ops.toList:=by rw[Array.mem_toList_iff];exact Array.mem_of_getElem? ho
   have hoko:gD n o=true:=List.all_eq_true.1 hok' o hmem;obtain⟨s,hsi,σi,e1,e2,e3,e4⟩:=gz.get (k:=0) hch (hlget hih ho);simp only[Adz] at e1 e2 e3;have hdir:∀ d∈fw o,listed.getD d false=true:=λd hd=>by
    obtain⟨e,he,Y,rfl⟩:=pq.1 hd;exact hall e he Y
   have hclosed:∀ j oj,ops[j]?=some oj->listed.getD j false=true->∀ d∈fw oj,listed.getD d false=true:=λj oj hj hlj d hd=>by
    obtain⟨e,he,Y,rfl⟩:=pq.1 hd;exact hinv.closed j oj hj hlj e he Y
   have before:∀ x∈(ek ops.toList []).getD i [],listed.getD x false=true:=Nn hB hclosed i o ho hdir;have behind:∀ j,j<hN->i∈(ek ops.toList []).getD j []->listed.getD j false=false:=λj hj hij=>by
    cases hlj:listed.getD j false with
    | false=>rfl
    | true=>
     have hoj:ops[j]?=some (ops[j]'(by omega)):=Array.getElem?_eq_getElem (by omega);have:=Nn hB hclosed j _ hoj (hclosed j _ hoj hlj) i hij;rw[hunf] at this;cases this
   -- what the operation looks at is as in the order of the text
   have hlooks:∀ t∈o.looksAt ops,cK (pl listed) 0 hl ss ρ t=cK (λj=>Cyz j i) 0 hl ss ρ t:=λt ht=>AI (λj o' ho' hd'=>by
    obtain⟨hjh,hoj⟩:=hlget' ho';have U:=List.all_eq_true.1 hlook i (List.mem_range.2 hih);simp only[ho] at U;have W:=List.all_eq_true.1 U t ht;have h3:=List.all_eq_true.1 W j (List.mem_range.2 hjh);have hdj:di ops j=some t:=by unfold di;rw[hoj];exact hd'
    rw[hdj] at h3;simp only[Agz,Bdz,Afz] at h3;rcases h3 with (h3|h3)|h3;have:Nat.beq t t=true:=Nat.beq_refl t;rw[this] at h3;cases h3;have hjd:j∈fw o:=by simpa using h3
    rw[Adz];have:Cyz j i=true:=by simp;exact po hB ho j hjd
    rw[this];exact hdir j hjd;have hij:i<=j:=by simpa using h3.1
    rw[Adz];have:Cyz j i=false:=by cases Y:Cyz j i with|false=>rfl|true=>simp at Y;omega
    rw[this];exact behind j hjh (by simpa using h3.2)) rfl
   have hops:∀ x∈o.op.operands,vr (SM F' S.B) w' g' (aE (cK (λj=>Cyz j i) 0 hl ss ρ) x) (E.ev ρc x):=λx hx=>by
    have hvr:VR S F' g' w' (cK (pl listed) 0 hl ss ρ) ρc:=k2;have:=hvr.ev x;cases x with
    | tmp t=>
     simp only[aE] at this ⊢;rw[← hlooks t (by simp only[Oper.looksAt,List.mem_append,List.mem_filterMap];exact .inl ⟨.tmp t,by simpa using hx,rfl⟩)];exact this
    | _=>exact this
   have hgate:dV ops ρc o=s.on:=by
    have hx:aV ops (cK (pl listed) 0 hl ss ρ) o=some s.on:=by
     rw[← e2];unfold aV;cases hgd:o.guard with
     | none=>rfl
     | some jw=>
      obtain⟨j,want⟩:=jw;simp only;cases hd:(ops[j]?).bind (·.dst) with
      | none=>rfl
      | some d=>
       simp only;rw[hlooks d (by simp[Oper.looksAt,hgd,hd])]
    exact xC hx k2
   have hroot:∀ id,(id∈s.rd∨id∈s.ids)->eD (pl listed) 0 ss (ai σ) id=ai σi id:=λid hid=>by
    rw[e1];refine AJ (λj sj hsj hidj=>?_) rfl;rw[Adz];have hjh:j<hN:=by have:=(List.getElem?_eq_some_iff.1 hsj).1;omega
    rcases Nat.lt_trichotomy j i with hlt|heq|hgt;have:Cyz j i=true:=by simpa using hlt
    rw[this];exact before j (order j i sj s hlt hih hsj hsi ⟨id,.inl ⟨hidj,hid.symm⟩⟩);subst heq;have:Cyz j j=false:=by cases Y:Cyz j j with|false=>rfl|true=>simp at Y
    rw[this];exact hunf;have:Cyz j i=false:=by cases Y:Cyz j i with|false=>rfl|true=>simp at Y;omega
    rw[this];refine behind j hjh (order i j s sj hgt hjh hsi hsj ⟨id,?_⟩);rcases hid with hid|hid;exact .inr ⟨hid,hidj⟩;exact .inl ⟨hid,.inl hidj⟩
   have hisz:i<listed.size:=by rw[hinv.size];omega
   have hnewS:cg (eD (pl listed) 0 ss (ai σ)) s.wr=eD (pl (listed.setIfInBounds i true)) 0 ss (ai σ):=by
    have hpl:∀ j,j≠i->pl (listed.setIfInBounds i true) j=pl listed j:=λj hj=>getD_set_ne false (Ne.symm hj);have hpi:pl (listed.setIfInBounds i true) i=true:=by simp[pl,hisz]
    funext id;by_cases hid:id∈s.ids;refine (ML (τ:=eD (pl listed) 0 ss (ai σ)) hsi hid (by rw[Adz];exact hpi) λj sj hij hsj hidj=>?_).symm;rw[Adz,hpl j (by omega)];have hjh:j<hN:=by have:=(List.getElem?_eq_some_iff.1 hsj).1;omega
    exact behind j hjh (order i j s sj hij hjh hsi hsj ⟨id,.inl ⟨hid,.inl hidj⟩⟩);rw[Fy _ _ _ λx hx e=>hid (List.mem_map.2 ⟨x,hx,e⟩)];refine AJ (λj sj hsj hidj=>?_) rfl;rw[Adz];refine (hpl j λe=>?_).symm;subst e;rw[hsi] at hsj;cases hsj;exact hid hidj
   have hnewR:cK (pl (listed.setIfInBounds i true)) 0 hl ss ρ=du (cK (pl listed) 0 hl ss ρ) o.dst s.v:=by
    refine LX (hlget hih ho) hsi (λj=>?_) (by rw[Adz];exact hunf) λj o' ho' hj t ht hd'=>?_;rw[Adz];by_cases hj:j=i;subst hj;rw[ao rfl];simp[pl,hisz];rw[al hj];exact getD_set_ne false (Ne.symm hj);obtain⟨hjh,hoj⟩:=hlget' ho';have hdi:di ops i=some t:=by unfold di;rw[ho];exact ht
    exact (BK hB hoj hdi (Ne.symm hj)).2 hd'
   have next:∀ v w'',(∃ F2 g2,bp S F2 g2 (cg (eD (pl listed) 0 ss (ai σ)) s.wr) w''/\cj S.B F' g' w' F2 g2 w''/\vr (SM F2 S.B) w'' g2 s.v v)->wpAny P .any ops (lift n (Qc S Q)) (c+(ops.size-hN)) (listed.setIfInBounds i true) (a.put o.dst v) w'':=by
    intro v w'' ⟨F2,g2,m1,m2,m3⟩;refine ih _ (E.put ρc o.dst v) _ _ ?_ ⟨hinv.set hi hih,F2,g2,by rw[← hnewS];exact m1,?_⟩ (Z.put _ _);have hcount:∀ (l:List Nat),l.Nodup->i∈l->(l.filter (λj=>!listed.getD j false)).length=(l.filter (λj=>!(listed.setIfInBounds i true).getD j false)).length+1:=by
     intro l
     induction l with
     | nil=>intro _ h;cases h
     | cons x l ihl=>
      intro hnd hmem;rw[List.nodup_cons] at hnd;by_cases hx:x=i;subst hx;have hsame:l.filter (λj=>!listed.getD j false)=l.filter (λj=>!(listed.setIfInBounds x true).getD j false):=
       List.filter_congr λy hy=>by
        have hne:x≠y:=λe=>hnd.1 (by rw[e];exact hy);rw[getD_set_ne false hne]
      have hset:(listed.setIfInBounds x true).getD x false=true:=by simp[hisz]
      rw[Aoz,Aoz,ao (by rw[hunf];rfl),al (by rw[hset];decide),hsame,bH];have hmem' : i∈l:=by rcases List.mem_cons.1 hmem with h|h;exact absurd h.symm hx;exact h
      have:=ihl hnd.2 hmem';rw[Aoz,Aoz,getD_set_ne false (Ne.symm hx)];split;rw[bH,bH,this];exact this
    have:=hcount (Amz hN) List.nodup_range (List.mem_range.2 hih);omega;rw[hnewR];have hvr:VR S F' g' w' (cK (pl listed) 0 hl ss ρ) ρc:=k2;exact (hvr.pres m2).put o.dst m3
   unfold wpOp;simp only[ho];rw[xE hguards Z,hgate];cases hon:s.on with
   | true=>
    rw[ao rfl];have hlt:=e3 hon _ F' g' w' ρc k1 (λid hid=>hroot id (.inl hid)) (λp hp=>hroot p.1 (.inr (List.mem_map.2 ⟨p,hp,rfl⟩))) hops;have hopx:AV P ops o ρc w' (λvc w''=>∃ F2 g2,bp S F2 g2 (cg (eD (pl listed) 0 ss (ai σ)) s.wr) w''/\cj S.B F' g' w' F2 g2 w''/\vr (SM F2 S.B) w'' g2 s.v vc):=.inl ⟨by rw[hgate,hon],hlt⟩;rcases (hopx.opW (n:=n)) with ⟨_,hop⟩|⟨hgf,_⟩
    exact .inl (hop a _ _ Z hoko next);rw[hgate,hon] at hgf;cases hgf
   | false=>
    rw[al (by decide)];obtain⟨h5,h6⟩:=e4 hon;refine next undef w' ⟨F',g',by rw[h6];exact k1,cj.refl,?_⟩
    rw[h5,vr];exact⟨[],rfl,by rw[aQ]⟩
 have hc0:((Amz hN).filter (λj=>!(Alz ops.size false).getD j false)).length=hN:=by
  rw[List.filter_eq_self.2 (λj _=>by rw[getD_replicate_false];rfl)];simp
 have h0S:eD (pl (Alz ops.size false)) 0 ss (ai σ)=ai σ:=by
  have key:∀ (ss:List Stp) (k:Nat) (σ:Nat->aw),eD (pl (Alz ops.size false)) k ss σ=σ:=by
   intro ss
   induction ss with
   | nil=>exact λ_ _=>rfl
   | cons s ss ih=>intro k σ;rw[eD,show pl (Alz ops.size false) k=false from getD_replicate_false _ _];exact ih _ _
  exact key _ _ _
 have h0R:cK (pl (Alz ops.size false)) 0 hl ss ρ=ρ:=by
  have key:∀ (l:List Oper) (ss:List Stp) (k:Nat) (ρ:AE),cK (pl (Alz ops.size false)) k l ss ρ=ρ:=by
   intro l
   induction l with
   | nil=>intro ss k ρ;simp[cK]
   | cons o l ih=>
    intro ss k ρ;cases ss with
    | nil=>simp[cK]
    | cons s ss=>rw[cK,show pl (Alz ops.size false) k=false from getD_replicate_false _ _];exact ih _ _ _
  exact key _ _ _ _
 have hdrew:cd w { w with drawn:=w.drawn+1 }:=cd.drawn w _;obtain⟨q1,q2⟩:=hs.ext (F':=F) hdrew (λ_ h=>h) (λb Y=>⟨hs.flt b Y,.inl Y⟩);have:=main hN _ ρc a { w with drawn:=w.drawn+1 } hc0 ⟨⟨by simp,λj oj _ hl=>(by rw[getD_replicate_false] at hl;cases hl),λt _ ht=>by simp[ht]⟩,F,g,by rw[h0S];exact q1,λt=>by rw[h0R];exact q2 _ _ (hv t)⟩ ha;rwa[show hN+(ops.size-hN)=ops.size by omega] at this
end
theorem kL {m:Md}:fR m m=true:=by cases m<;>rfl
theorem iQ {m:Md}:fR m .bo=true:=by cases m<;>rfl
class ae (P:Program) where
 tab:bK
 ok:tab.ok P=true
abbrev cU:=Option (Nat×Lg×Option Nat)
def aZ (md:cU)(rd ids:List Nat):cU:=match md with
 | none=>none
 | some (k,lg,hd)=>some (k+1,lg++[(rd,ids)],hd)
def kC (md:cU):cU:=match md with
 | none=>none
 | some (k,lg,hd)=>some (k,lg,qe hd k)
def jg (ops:Array Oper):cU->Bool
 | none=>true
 | some (_,lg,hd)=>Ag ops lg hd
def AL (P:Program)(S:Start)(ops:Array Oper)(Q:AE->St->Prop)(md:cU)(l:List Oper)(ρ:AE)(σ:St):Prop:=match md with
 | none=>∀ k lg hd,AT P S ops (λρ σ _ _=>Q ρ σ) k l ρ σ lg hd
 | some (k,lg,hd)=>AT P S ops (λρ σ lg hd=>Q ρ σ/\Ag ops lg hd=true) k l ρ σ lg hd
section
variable {P:Program}[ae P]{S:Start}{n:Nat}{ops:Array Oper}{Q:AE->St->Prop}{QP:cQ}{o:Oper}{rest:List Oper}{ρ:AE}{σ:St}{d:Nat}{v:X}{rd:List Nat}{md:cU}
theorem AL.nil (h:Q ρ σ)(hm:jg ops md=true:=by kernel_rfl):AL P S ops Q md [] ρ σ:=by
 cases md with
 | none=>exact λ_ _ _=>.nil h
 | some p=>exact .nil ⟨h,hm⟩
theorem bX {wr:List (Nat×aw)}(hl:LT P S o ρ σ rd v wr)(h:AL P S ops Q (aZ md rd (wr.map (·.1))) rest (av ρ d v) (bc σ wr))(hd:o.dst=some d:=by rfl)(hg:aV ops ρ o=some true:=by rfl):AL P S ops Q md (o::rest) ρ σ:=by
 cases md with
 | none=>exact λk lg hd'=>.op hg hl (by rw[hd];exact h _ _ _)
 | some p=>obtain⟨k,lg,hd'⟩:=p;exact .op hg hl (by rw[hd];exact h)
theorem rW {wr:List (Nat×aw)}(hl:LT P S o ρ σ rd v wr)(h:AL P S ops Q (aZ md rd (wr.map (·.1))) rest ρ (bc σ wr))(hd:o.dst=none:=by rfl)(hg:aV ops ρ o=some true:=by rfl):AL P S ops Q md (o::rest) ρ σ:=by
 cases md with
 | none=>exact λk lg hd'=>.op hg hl (by rw[hd];exact h _ _ _)
 | some p=>obtain⟨k,lg,hd'⟩:=p;exact .op hg hl (by rw[hd];exact h)
theorem AL.off (h:AL P S ops Q (aZ md [] []) rest (av ρ d (.tu [])) σ)(hd:o.dst=some d:=by rfl)(hg:aV ops ρ o=some false:=by rfl):AL P S ops Q md (o::rest) ρ σ:=by
 cases md with
 | none=>exact λk lg hd'=>.off hg (by rw[hd];exact h _ _ _)
 | some p=>obtain⟨k,lg,hd'⟩:=p;exact .off hg (by rw[hd];exact h)
theorem AL.gh {ρ' : AE}{σ' : St}(hl:GH S ρ σ ρ' σ')(h:AL P S ops Q (kC md) rest ρ' σ'):AL P S ops Q md rest ρ σ:=by
 cases md with
 | none=>exact λk lg hd'=>.gh hl (h _ _ _)
 | some p=>obtain⟨k,lg,hd'⟩:=p;exact .gh hl h
theorem fj {id:Nat}(h:AL P S ops (λρ σ=>QP .normal ρ σ) none ops.toList ρ σ):AW P S n (.region id ops false) QP ρ σ:=HM (h _ _ _)
theorem nc {id:Nat}(hm:P.follows .mixedOrders=true:=by kernel_rfl)(h:AL P S ops (λρ σ=>QP .normal ρ σ) (some (0,[],none)) ops.toList ρ σ):AW P S n (.region id ops true) QP ρ σ:=AW.draw hm h
theorem AT.bind {Z5 K1:AE->St->Lg->Option Nat->Prop}{l1 l2:List Oper}{k:Nat}{ρ:AE}{σ:St}{lg:Lg}{hd:Option Nat}(h:AT P S ops K1 k l1 ρ σ lg hd)(W:∀ ρ' σ' lg' hd',K1 ρ' σ' lg' hd'->AT P S ops Z5 (k+l1.length) l2 ρ' σ' lg' hd'):AT P S ops Z5 k (l1++l2) ρ σ lg hd:=by
 induction h with
 | nil h=>exact W _ _ _ _ h
 | op hg hl _ ih=>exact .op hg hl (ih λa b c d e=>by have:=W a b c d e;rwa[bH,show ∀ k m:Nat,k+(m+1)=k+1+m from λk m=>by omega] at this)
 | off hg _ ih=>exact .off hg (ih λa b c d e=>by have:=W a b c d e;rwa[bH,show ∀ k m:Nat,k+(m+1)=k+1+m from λk m=>by omega] at this)
 | opT hg hl _ ih=>exact .opT hg hl (ih λa b c d e=>by have:=W a b c d e;rwa[bH,show ∀ k m:Nat,k+(m+1)=k+1+m from λk m=>by omega] at this)
 | gh hl _ ih=>exact .gh hl (ih W)
theorem V (hv:opV (ae.tab P) ρ σ o.op=some (v,rd))(h:AL P S ops Q (aZ md rd []) rest (av ρ d v) σ)(hd:o.dst=some d:=by rfl)(hg:aV ops ρ o=some true:=by rfl):AL P S ops Q md (o::rest) ρ σ:=
 bX (wr:=[]) (CY ae.ok hv) h hd hg
theorem cD {T e:Nat}{t te:TI}(hT:(ae.tab P).get T=some t)(he:t.el=some e)(hE:(ae.tab P).get e=some te):cY P T=some e/\cn P e=some te.sz:=⟨TI.el' (bK.chk ae.ok hT) he,TI.sz' (bK.chk ae.ok hE)⟩
variable {T e:Nat}{t te:TI}{z:Nat}
theorem NV {zs:List X}(r:Nat)(h:AL P S ops Q (aZ md [] [r]) rest (av ρ d (.pb r 0)) (aK σ r (.box zs)))(ho:o.op=.alloc T:=by rfl)(hT:(ae.tab P).get T=some t:=by rfl)(hz:t.z=some zs:=by rfl)(Z:ai σ r=.none:=by rfl)(hd:o.dst=some d:=by rfl)(hg:aV ops ρ o=some true:=by rfl):AL P S ops Q md (o::rest) ρ σ:=by
 obtain⟨z,U,W⟩:=TI.z' (bK.chk ae.ok hT) hz;exact bX (LT.alloc ho U W Z) h hd hg
theorem BX {x:Operand}{X1:X}(r:Nat)(h:AL P S ops Q (aZ md (dq X1) [r]) rest (av ρ d (.pb r 0)) (aK σ r (.box X1.cells)))(ho:o.op=.box T x:=by rfl)(hx:aE ρ x=X1:=by rfl)(hs:gm (ai σ) X1=true:=by rfl)(Z:ai σ r=.none:=by rfl)(hd:o.dst=some d:=by rfl)(hg:aV ops ρ o=some true:=by rfl):AL P S ops Q md (o::rest) ρ σ:=
 bX (LT.box ho hx hs Z) h hd hg
theorem SB {x y:Operand}{Z4:X}{r c:Nat}{cs:List X}(h:AL P S ops Q (aZ md (Z4.cells.flatMap dq) [r]) rest ρ (aK σ r (.box (spl cs c Z4.cells))))(ho:o.op=.store T x y:=by rfl)(hT:(ae.tab P).get T=some t:=by rfl)(hx:aE ρ x=.pb r c:=by rfl)(hσ:ai σ r=.box cs:=by rfl)(hy:aE ρ y=Z4:=by rfl)(hl:Z4.cells.length=t.sz:=by rfl)(hf:Nat.ble (c+t.sz) cs.length=true:=by rfl)(hs:Z4.cells.all (kz (ai σ))=true:=by rfl)(hd:o.dst=none:=by rfl)(hg:aV ops ρ o=some true:=by rfl):AL P S ops Q md (o::rest) ρ σ:=
 rW (HL ho (TI.sz' (bK.chk ae.ok hT)) hx hσ hy hl hf hs) h hd hg
theorem LF {α:Type}{x:Operand}{m:Md}{f:α->D}{xs:List α}{k:Nat}(h:AL P S ops Q (aZ md [] []) rest (av ρ d (.d .fz (.i .i64 xs.length))) σ)(ho:o.op=.call { callee:=.builtin .len,args:=#[x],argTypes:=#[T] }:=by rfl)(hT:(ae.tab P).get T=some t:=by rfl)(he:t.el=some e:=by rfl)(hx:aE ρ x=.d m (.sl k (xs.map f)):=by rfl)(hd:o.dst=some d:=by rfl)(hg:aV ops ρ o=some true:=by rfl):AL P S ops Q md (o::rest) ρ σ:=
 bX (HP ho (TI.el' (bK.chk ae.ok hT) he) hx (by simp)) h hd hg
theorem LE {α:Type}{x:Operand}{m:Md}{r:Nat}{f:α->D}{xs:List α}{k:Nat}(h:AL P S ops Q (aZ md [r] []) rest (av ρ d (.d .fz (.i .i64 xs.length))) σ)(ho:o.op=.call { callee:=.builtin .len,args:=#[x],argTypes:=#[T] }:=by rfl)(hT:(ae.tab P).get T=some t:=by rfl)(he:t.el=some e:=by rfl)(hx:aE ρ x=.ref r none:=by rfl)(hσ:ai σ r=.row m k (xs.map f):=by rfl)(hd:o.dst=some d:=by rfl)(hg:aV ops ρ o=some true:=by rfl):AL P S ops Q md (o::rest) ρ σ:=
 bX (C6 (k:=xs.length) ho (TI.el' (bK.chk ae.ok hT) he) hx (by rw[hσ];rfl) (by simp)) h hd hg
theorem aW {α β:Type}{f:α->β}{xs:List α}{i:Nat}{x:α}(h:xs[i]?=some x):(xs.map f)[i]?=some (f x):=by simp[h]
theorem IF {α:Type}{x i:Operand}{m m' : Md}{f:α->D}{xs:List α}{q:IntKind}{j:Int}{y:α}(h0:0<=j)(hj:xs[j.toNat]?=some y)(h:AL P S ops Q (aZ md [] []) rest (av ρ d (.pf m (f y).cells)) σ)(ho:o.op=.indexAddr T x i:=by rfl)(hT:(ae.tab P).get T=some t:=by rfl)(he:t.el=some e:=by rfl)(hE:(ae.tab P).get e=some te:=by rfl)(hx:aE ρ x=.d m (.sl te.sz (xs.map f)):=by rfl)(hi:aE ρ i=.d m' (.i q j):=by rfl)(hd:o.dst=some d:=by rfl)(hg:aV ops ρ o=some true:=by rfl):AL P S ops Q md (o::rest) ρ σ:=
 bX (PS ho (cD hT he hE).1 (cD hT he hE).2 hx hi h0 (aW hj)) h hd hg
theorem L0 {α:Type}(r:Nat)(f:α->D)(h:AL P S ops Q (aZ md [] [r]) rest (av ρ d (.ref r none)) (aK σ r (.row .fz te.sz (([]:List α).map f))))(ho:o.op=.buildSlice T 0 #[]:=by rfl)(hT:(ae.tab P).get T=some t:=by rfl)(he:t.el=some e:=by rfl)(hE:(ae.tab P).get e=some te:=by rfl)(Z:ai σ r=.none:=by rfl)(hd:o.dst=some d:=by rfl)(hg:aV ops ρ o=some true:=by rfl):AL P S ops Q md (o::rest) ρ σ:=
 bX (H0 ho (cD hT he hE).1 (cD hT he hE).2 Z) h hd hg
theorem AP {α:Type}{s x:Operand}{X1:X}{m' m0:Md}{f:α->D}{xs ys:List α}{zs:List X}{r b1:Nat}(r' : Nat)(m:Md)(hmax:((xs.length:Int)+(ys.length:Int))*te.by_<=140737488355328/\(xs.length:Int)+(ys.length:Int)<=9223372036854775807)(h:AL P S ops Q (aZ md (dq X1) [r,r']) rest (av ρ d (.ref r' none)) (aK (aK σ r .dead) r' (.row m te.sz ((xs++ys).map f))))
  (ho:o.op=.call { callee:=.builtin .append,args:=#[s,x],argTypes:=#[T,T] }:=by rfl) (hT:(ae.tab P).get T=some t:=by rfl) (he:t.el=some e:=by rfl) (hE:(ae.tab P).get e=some te:=by rfl) (hs:aE ρ s=.ref r none:=by rfl) (hx:aE ρ x=X1:=by rfl) (hsrc:cO (ai σ) X1=some (m',te.sz,ys.map f):=by rfl) (hσ:ai σ r=.row m0 te.sz (xs.map f):=by rfl) (hz:te.z=some zs:=by rfl) (Y:te.by_=b1+1:=by rfl) (hzl:zs.length=te.sz:=by rfl) (hk0:Cyz 0 te.sz=true:=by rfl) (hm:fR m' m=true:=by first|rfl|exact kL|exact iQ) (hm0:fR m0 m=true:=by first|rfl|exact kL|exact iQ) (Z:ai σ r'=.none:=by rfl) (hd:o.dst=some d:=by rfl) (hg:aV ops ρ o=some true:=by rfl):AL P S ops Q md (o::rest) ρ σ:=by
 obtain⟨z,U,W⟩:=TI.z' (bK.chk ae.ok hE) hz;refine bX (C0 (r':=r') ho (cD hT he hE).1 (cD hT he hE).2 (TI.by' (bK.chk ae.ok hE) Y) U (by rw[← hzl,← (W (λ_ _=>True) default (λ_=>.none)).len]) hk0 hs hσ hx hsrc hm hm0 ?_ ?_ Z) (by rw[← List.map_append];exact h) hd hg;simp only[bn];have:=hmax.1;rw[← Int.natCast_add,← Int.natCast_mul] at this;omega;simp only[bn];show _<=9223372036854775807;have:=hmax.2;omega
theorem MK {l c:Operand}{m1 m2:Md}{q q' : IntKind}{j:Int}{zs:List X}{dd:D}{b1:Nat}(r:Nat)(hl:aE ρ l=.d m1 (.i q j))(hc:aE ρ c=.d m2 (.i q' j))(dz:D)(hdz:eu .fz zs=some dz.cells)(h0:0<=j)(hm:j<=9223372036854775807)(hbm:(te.by_:Int)*j<=281474976710656)(h:AL P S ops Q (aZ md [] [r]) rest (av ρ d (.ref r none)) (aK σ r (.row .fz te.sz (List.replicate j.toNat dz))))
  (ho:o.op=.makeSlice T l c:=by rfl) (hT:(ae.tab P).get T=some t:=by rfl) (he:t.el=some e:=by rfl) (hE:(ae.tab P).get e=some te:=by rfl) (hz:te.z=some zs:=by rfl) (Y:te.by_=b1+1:=by rfl) (hzl:zs.length=te.sz:=by rfl) (Z:ai σ r=.none:=by rfl) (hd:o.dst=some d:=by rfl) (hg:aV ops ρ o=some true:=by rfl):AL P S ops Q md (o::rest) ρ σ:=by
 obtain⟨z,U,W⟩:=TI.z' (bK.chk ae.ok hE) hz;exact bX (LT.mk ho (cD hT he hE).1 (cD hT he hE).2 (TI.by' (bK.chk ae.ok hE) Y) U (by rw[← hzl,← (W (λ_ _=>True) default (λ_=>.none)).len]) hl hc W hdz h0 hm hbm Z) h hd hg
theorem OB {op:BinOp}{Z7:Nat}{x y:Operand}{X1 Y1:X}{u1 v1 r1:Value}(z:D)(hB:fX X1->fX Y1->cG P op T u1 v1 r1/\fF z)(h:AL P S ops Q (aZ md [] []) rest (av ρ d (.d .fz z)) σ)(ho:o.op=.binOp op T x y Z7:=by rfl)(hx:aE ρ x=X1:=by rfl)(hy:aE ρ y=Y1:=by rfl)(hu:iN X1=some u1:=by rfl)(hv:iN Y1=some v1:=by rfl)(hz:cv z=some r1:=by rfl)(hd:o.dst=some d:=by rfl)(hg:aV ops ρ o=some true:=by rfl):AL P S ops Q md (o::rest) ρ σ:=
 bX (zI ho hx hy hu hv hB hz) h hd hg
theorem CA {f:Nat}{c:Call}{x:Operand}{caps axs args:List X}{pre post:St}{res:X}(ren:List (Nat×Nat))(vw:List Nat)(ok:Ok P f args pre res post)(hp:cu (ai σ) ren vw axs args)(h:AL P S ops Q (aZ md vw ((ren.map λp=>(p.2,fu ren (ai post p.1))).map (·.1))) rest (av ρ d (ba ren res)) (bc σ (ren.map λp=>(p.2,fu ren (ai post p.1)))))(hpre:dp (ai σ) (ai pre) ren ren)
  (ho:o.op=.call c:=by rfl) (hc:c.callee=.value x:=by rfl) (hx:aE ρ x=.fn f caps:=by rfl) (hcb:iC P f=true:=by kernel_rfl) (ha:c.args.toList.map (aE ρ)++caps=axs:=by rfl) (hchk:mj ren vw pre post res=true:=by rfl) (hd:o.dst=some d:=by rfl) (hg:aV ops ρ o=some true:=by rfl):AL P S ops Q md (o::rest) ρ σ:=
 bX (vI ren vw ho hc hx hcb ha ok hp hpre hchk) h hd hg
end
end Go.A
