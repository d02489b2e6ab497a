/- What those partial functions come to: plain lemmas on data; each bears its conditions in its statement. -/
import Derived.Test.YtodhafdaelcnlaaGreatMath9
set_option linter.unusedVariables false
set_option linter.unusedSimpArgs false
set_option linter.ambiguousOpen false
set_option linter.unusedSectionVars false
set_option linter.unnecessarySimpa false
set_option maxRecDepth 100000
set_option maxHeartbeats 4000000
open List renaming getElem?_of_mem->Elz,mem_of_getElem?->Bvz,replicate->Bqz,length_replicate->Ddz,getD_eq_getElem?_getD->Cwz,getElem?_eq_getElem->Cmz,getElem?_set_self->Ffz,mem_singleton->Bpz,length_append->Axz,length_singleton->Coz,getElem?_replicate->Ewz,length_nil->Dyz,take_zero->Fkz,take_succ_cons->Bhz,map_cons->Blz,append_assoc->Azz,nil_append->Edz,mem_range'_1->Etz,pairwise_iff_getElem->Fuz,mem_of_find?_eq_some->Ecz,getElem_of_mem->Fvz,all_eq_true->Ekz
open Nat renaming zero_add->Adz,le_refl->Acz
open Bool renaming false_ne_true->Fpz,not_eq_false'->Fwz
namespace Go.Proofs.YtodhafdaelcnlaaGreat
open Go Go.E
def Eg (tb:List (List Int))(k j:Nat):Prop:=∃ row,tb[k]?=some row/\((j:Nat):Int)∈row
inductive Dp (tb:List (List Int)):Nat->Nat->Prop
 | one {k j:Nat} (h:Eg tb k j):Dp tb k j
 | step {k m j:Nat} (h:Eg tb k m) (K:Dp tb m j):Dp tb k j
theorem Dp.trans {tb:List (List Int)}{a b c:Nat}(h:Dp tb a b)(k:Dp tb b c):Dp tb a c:=by
 induction h with
 | one h=>exact .step h k
 | step h _ ih=>exact .step h (ih k)
def TB (tb:List (List Int)):Prop:=tb.length<=1000/\∀ row∈tb,∀ x∈row,-1<=x/\x<(tb.length:Int)
theorem Fv (l:List Int)(x:Int):rD l x=some (decide (x∈l)):=by
 have h:=Fu (c:=true) (xs:=l) (i:=0) (p:=λ_ y=>y=x) (f:=yd x) λk y _=>⟨λe=>by unfold yd;rw[ao e],λe=>by unfold yd;rw[an e]⟩
 unfold rD;by_cases hx:x∈l;obtain⟨k,hk⟩:=Elz hx;rw[h.1 ⟨k,x,hk,rfl⟩,decide_eq_true hx];rfl;rw[h.2 (λk y hk e=>hx (e▸Bvz hk)),decide_eq_false hx];rfl
theorem UT (tb:List (List Int))(h:tb.length<=1000):eachL xv 0 tb ([]:List Int)=some (Bqz tb.length (-1)):=by
 obtain⟨s',e,hp⟩:=iw (P:=λi (s:List Int)=>s=Bqz i (-1)) (xs:=tb) (i:=0) (s:=[]) (f:=xv) rfl λk x s hk hs=>by
  have hlt:=(List.getElem?_eq_some_iff.1 hk).1;refine⟨s++[-1],?_,?_⟩;unfold xv;rw[aE (by rw[hs,Ddz];constructor<;>omega)];rw[hs,List.replicate_succ']
 rw[e,hp,Adz]
def iP (l:List Int)(m:Int)(k:Nat)(row:List Int)(s:List Int×List Int):List Int×List Int:=
 if s.1.getD k 0<0/\(l.any λj=>row.contains j)=true then (s.1.set k m,s.2++[(k:Int)]) else s
theorem Em {n k:Nat}(hk:k<n){m:Int}(hm:0<m)(row:List Int):∀ (l:List Int) (i:Nat) (s:List Int×List Int),s.1.length=n->s.2.length<=1000000->eachL (kN m k row) i l s=some (iP l m k row s)
 | [],i,s,_,_=>by rw[eachL];unfold iP;rw[an (by simp)]
 | j::l,i,(far,nx),hl,hs=>by
  dsimp only at hl hs;have hg:far[k]?=some (far.getD k 0):=by rw[Cwz,Cmz (by omega)];rfl
  rw[eachL];by_cases h0:far.getD k 0<0;by_cases hj:j∈row;have e:kN m k row i j (far,nx)=some (far.set k m,nx++[(k:Int)]):=by
   unfold kN;dsimp only;rw[hg,aj,ao h0,Fv,aj,ao (decide_eq_true hj),aE (by constructor<;>omega)];rfl
  have hg2:(far.set k m).getD k 0=m:=by rw[Cwz,Ffz (by omega)];rfl
  have e2:∀ (l:List Int) (i:Nat),eachL (kN m k row) i l (far.set k m,nx++[(k:Int)])=some (far.set k m,nx++[(k:Int)]):=by
   intro l
   induction l with
   | nil=>intro i;rw[eachL]
   | cons x l ih=>
    intro i;rw[eachL,show kN m k row i x (far.set k m,nx++[(k:Int)])=some (far.set k m,nx++[(k:Int)]) by
     unfold kN;dsimp only;rw[Ffz (by omega),aj,an (by omega)];rfl,aj,ih]
  rw[e,aj,e2];unfold iP;rw[ao ⟨h0,by rw[List.any_cons,Bool.or_eq_true];exact .inl (List.contains_iff_mem.2 hj)⟩];have e:kN m k row i j (far,nx)=some (far,nx):=by
   unfold kN;dsimp only;rw[hg,aj,ao h0,Fv,aj,an (by rw[decide_eq_false hj];decide)];rfl
  rw[e,aj,Em hk hm row l (i+1) (far,nx) hl hs];unfold iP;dsimp only;have:(j::l).any (λj=>row.contains j)=l.any (λj=>row.contains j):=by
   rw[List.any_cons,show row.contains j=false by rw[Bool.eq_false_iff];exact λh=>hj (List.contains_iff_mem.1 h),Bool.false_or]
  rw[this];have e:kN m k row i j (far,nx)=some (far,nx):=by
   unfold kN;dsimp only;rw[hg,aj,an h0];rfl
  rw[e,aj,Em hk hm row l (i+1) (far,nx) hl hs];unfold iP;dsimp only;rw[an (λh=>h0 h.1),an (λh=>h0 h.1)]
structure FI (tb:List (List Int)) (i:Nat) (far l:List Int) (m:Int):Prop where
 len:far.length=tb.length
 m1:1<=m
 rng:∀ (k:Nat) (x:Int),far[k]?=some x->x = -1∨(1<=x/\x<m)
 sound:∀ k:Nat,0<far.getD k 0->Dp tb k i
 lst:∀ x∈l,∃ j:Nat,x=(j:Int)/\j<tb.length/\(j=i∨Dp tb j i)
 comp:∀ k j:Nat,Eg tb k j->(j=i∨0<far.getD j 0)->((j:Nat):Int)∉l->0<far.getD k 0
theorem FI.pos {tb:List (List Int)}{i:Nat}{far l:List Int}{m:Int}(h:FI tb i far l m){k:Nat}(hk:k<tb.length)(hn:¬ far.getD k 0<0):0<far.getD k 0:=by
 have hg:far[k]?=some (far.getD k 0):=by rw[Cwz,Cmz (by rw[h.len];exact hk)];rfl
 rcases h.rng k _ hg with e|e<;>omega
def fI (l:List Int):Nat:=l.countP λx=>decide (x<0)
structure FR (tb:List (List Int)) (i:Nat) (f0 l:List Int) (m:Int) (k:Nat) (s:List Int×List Int):Prop where
 len:s.1.length=tb.length
 old:∀ j:Nat,0<f0.getD j 0->s.1.getD j 0=f0.getD j 0
 val:∀ j:Nat,s.1.getD j 0=f0.getD j 0∨(f0.getD j 0<0/\s.1.getD j 0=m)
 new:∀ j:Nat,f0.getD j 0<0->0<s.1.getD j 0->((j:Nat):Int)∈s.2
 nx:∀ x∈s.2,∃ j:Nat,x=(j:Int)/\j<tb.length/\Dp tb j i
 nl:s.2.length<=k
 cnt:fI s.1+s.2.length=fI f0
 sound:∀ j:Nat,0<s.1.getD j 0->Dp tb j i
 comp:∀ q j:Nat,q<k->Eg tb q j->((j:Nat):Int)∈l->0<s.1.getD q 0
theorem US {l:List Int}{k:Nat}{m:Int}(hk:k<l.length)(h:l.getD k 0<0)(hm:0<m):fI (l.set k m)+1=fI l:=by
 unfold fI
 induction l generalizing k with
 | nil=>simp at hk
 | cons x l ih=>
  cases k with
  | zero=>
   have h:x<0:=h;rw[List.set_cons_zero,List.countP_cons_of_neg (by simp;omega),List.countP_cons_of_pos (by simpa using h)]
  | succ k=>
   rw[List.set_cons_succ,List.countP_cons,List.countP_cons];have:=ih (k:=k) (by simpa using hk) h;omega
theorem Tv {tb:List (List Int)}{i:Nat}{f0 l:List Int}{m:Int}(hF:FI tb i f0 l m){k:Nat}{row:List Int}(Z:tb[k]?=some row){s:List Int×List Int}(h:FR tb i f0 l m k s):FR tb i f0 l m (k+1) (iP l m k row s):=by
 have hk:=(List.getElem?_eq_some_iff.1 Z).1;have hm:=hF.m1;unfold iP;by_cases hc:s.1.getD k 0<0/\(l.any λj=>row.contains j)=true;rw[ao hc];obtain⟨h0,ha⟩:=hc;obtain⟨x,hx,hxr⟩:=List.any_eq_true.1 ha;have hxr:=List.contains_iff_mem.1 hxr;obtain⟨j0,e0,_,hj0⟩:=hF.lst x hx;have hE:Eg tb k j0:=⟨row,Z,e0▸hxr⟩
 have hD:Dp tb k i:=by
  rcases hj0 with e|e;subst e;exact .one hE;exact .step hE e
 have f0k:f0.getD k 0<0:=by
  rcases h.val k with e|e;rw[← e];exact h0;exact e.1
 have hset:∀ j:Nat,(s.1.set k m).getD j 0=if j=k then m else s.1.getD j 0:=λj=>by
  rw[Cwz,Cwz,List.getElem?_set];by_cases e:k=j;subst e;rw[ao rfl,ao (by rw[h.len];exact hk),ao rfl];rfl;rw[an e,an (λe2=>e e2.symm)]
 refine⟨by rw[List.length_set];exact h.len,λj hj=>?_,λj=>?_,λj hj hp=>?_,λx hx=>?_,by simp;have:=h.nl;omega,?_,λj hj=>?_,λq j hq hE hl=>?_⟩;rw[hset];by_cases e:j=k;subst e;omega;rw[an e];exact h.old j hj;rw[hset];by_cases e:j=k;subst e;exact .inr ⟨f0k,ao rfl⟩;rw[an e];exact h.val j;rw[hset] at hp;by_cases e:j=k;subst e;exact List.mem_append_right _ (by simp);rw[an e] at hp;exact List.mem_append_left _ (h.new j hj hp);rcases List.mem_append.1 hx with hx|hx;exact h.nx x hx;rw[Bpz] at hx;exact⟨k,hx,hk,hD⟩;have:=US (l:=s.1) (k:=k) (m:=m) (by rw[h.len];exact hk) h0 (by omega);have:=h.cnt;rw[Axz,Coz];dsimp only;omega;rw[hset] at hj;by_cases e:j=k;subst e;exact hD;rw[an e] at hj;exact h.sound j hj;rw[hset];by_cases e:q=k;rw[ao e];omega;rw[an e];exact h.comp q j (by omega) hE hl;rw[an hc];refine⟨h.len,h.old,h.val,h.new,h.nx,by have:=h.nl;omega,h.cnt,h.sound,λq j hq hE hl=>?_⟩;by_cases e:q=k;subst e;obtain⟨row',hr',hj⟩:=hE;rw[Z] at hr';cases hr';have ha:(l.any λj=>row.contains j)=true:=List.any_eq_true.2 ⟨_,hl,List.contains_iff_mem.2 hj⟩;have h0:¬ s.1.getD q 0<0:=λh0=>hc ⟨h0,ha⟩;rcases h.val q with e|e;rw[e] at h0 ⊢;exact hF.pos hk h0;rw[e.2];omega;exact h.comp q j (by omega) hE hl
theorem V4 {tb:List (List Int)}{i:Nat}{f0 l:List Int}{m:Int}(hT:tb.length<=1000)(hF:FI tb i f0 l m)(hm:m<=100000):∃ s,eachL (xu l m) 0 tb (f0,([]:List Int))=some s/\FI tb i s.1 s.2 (m+1)/\fI s.1+s.2.length=fI f0:=by
 have hm1:=hF.m1;obtain⟨s,e,hp⟩:=iw (P:=λk (s:List Int×List Int)=>FR tb i f0 l m k s) (xs:=tb) (i:=0) (s:=(f0,([]:List Int))) (f:=xu l m)
  ⟨hF.len,λ_ _=>rfl,λ_=>.inl rfl,λj U K=>(by dsimp only at K;omega),λx hx=>(nomatch hx),Acz _,rfl,hF.sound,λq j hq=>(by omega)⟩ λk row s hk hs=>by
  rw[Adz] at hs ⊢;have hlt:=(List.getElem?_eq_some_iff.1 hk).1;refine⟨_,?_,Tv hF hk hs⟩;obtain⟨far,nx⟩:=s;unfold xu;dsimp only;rw[Em (n:=tb.length) hlt (by omega) row l 0 (far,nx) hs.len (by have:=hs.nl;dsimp only at this ⊢;omega)];rfl
 rw[Adz] at hp;refine⟨s,e,⟨hp.len,by omega,λk x hx=>?_,hp.sound,λx hx=>?_,λk j hE hj hn=>?_⟩,hp.cnt⟩;have hg:s.1.getD k 0=x:=by rw[Cwz,hx];rfl
 rcases hp.val k with e|e;have hlt:=(List.getElem?_eq_some_iff.1 hx).1;rw[hp.len] at hlt;have hg0:f0[k]?=some (f0.getD k 0):=by rw[Cwz,Cmz (by rw[hF.len];exact hlt)];rfl
 rcases hF.rng k _ hg0 with e2|e2<;>omega;omega;obtain⟨j,e1,e2,e3⟩:=hp.nx x hx;exact⟨j,e1,e2,.inr e3⟩;have hk:k<tb.length:=by obtain⟨row,Z,_⟩:=hE;exact (List.getElem?_eq_some_iff.1 Z).1
 by_cases hl:((j:Nat):Int)∈l;exact hp.comp k j hk hE hl;have hold:j=i∨0<f0.getD j 0:=by
  rcases hj with e|e;exact .inl e;rcases hp.val j with e2|e2;rw[e2] at e;exact .inr e;exact absurd (hp.new j e2.1 e) hn
 have h0:=hF.comp k j hE hold hl;rw[hp.old k h0];exact h0
theorem UR {tb:List (List Int)}{i:Nat}(hT:tb.length<=1000):∀ (d:Nat) (f0 l:List Int) (m:Int),FI tb i f0 l m->m+fI f0<=90000->fI f0=d->∃ far x,bA (tT tb) (f0,l,m)=some (far,x)/\FI tb i far [] (far.length+90000):=by
 intro d
 induction d using Nat.strongRecOn with
 | ind d ih=>
  intro f0 l m hF Y hd;have done:∀ (f1:List Int) (m1:Int),FI tb i f1 [] m1->m1<=90001->∃ far x,bA (tT tb) (f1,[],m1)=some (far,x)/\FI tb i far [] (far.length+90000):=λf1 m1 U hm=>by
   refine⟨f1,[],cF (by unfold tT;dsimp only;rw[an (by simp)]),U.len,by omega,λk x hx=>?_,U.sound,U.lst,U.comp⟩;rcases U.rng k x hx with e|e;exact .inl e;have:0<f1.length:=Nat.lt_of_le_of_lt (Nat.zero_le _) (List.getElem?_eq_some_iff.1 hx).1;exact .inr ⟨e.1,by omega⟩
  cases l with
  | nil=>exact done f0 m hF (by omega)
  | cons y l=>
   obtain⟨s,e,U,K⟩:=V4 hT hF (by omega);have hm:=hF.m1;rw[eh (s':=(s.1,s.2,m+1)) (by unfold tT;dsimp only;rw[ao (by rw[bC];omega),e,aj,aE (by constructor<;>omega)])];cases hs:s.2 with
   | nil=>rw[hs] at U;exact done s.1 (m+1) U (by omega)
   | cons z t=>
    rw[hs,bC] at K;rw[← hs];exact ih (fI s.1) (by omega) s.1 s.2 (m+1) U (by omega) rfl
theorem Tu (l:List Int):fI l<=l.length:=List.countP_le_length
theorem P2 {tb:List (List Int)}(hT:tb.length<=1000){i:Nat}(hi:i<tb.length):∃ far,tC tb (i:Int)=some far/\far.length=tb.length/\(∀ x∈far,x<=100000)/\∀ k:Nat,0<far.getD k 0↔Dp tb k i:=by
 have hrep:∀ k:Nat,(Bqz tb.length (-1:Int)).getD k 0 = -1∨(Bqz tb.length (-1:Int)).getD k 0=0:=λk=>by
  rw[Cwz,Ewz];by_cases h:k<tb.length;rw[ao h];exact .inl rfl;rw[an h];exact .inr rfl
 have h0:FI tb i (Bqz tb.length (-1)) [(i:Int)] 1:=by
  refine⟨Ddz,by omega,λk x hx=>?_,λk hk=>?_,λx hx=>?_,λk j hE hj hn=>?_⟩;exact .inl (List.eq_of_mem_replicate (Bvz hx));rcases hrep k with e|e<;>omega;rw[Bpz] at hx;exact⟨i,hx,hi,.inl rfl⟩;rcases hj with e|e;subst e;exact absurd (List.mem_singleton.2 rfl) hn;rcases hrep j with e2|e2<;>omega
 have hn:=Tu (Bqz tb.length (-1:Int));rw[Ddz] at hn;obtain⟨far,x,e,hF⟩:=UR hT _ _ _ _ h0 (by omega) rfl;refine⟨far,?_,hF.len,λx hx=>?_,λk=>⟨hF.sound k,λh=>?_⟩⟩;unfold tC;rw[UT tb hT,aj,e];rfl;obtain⟨k,hk⟩:=Elz hx;have:=hF.len;rcases hF.rng k x hk with e|e<;>omega;have key:∀ {a b:Nat},Dp tb a b->b=i->0<far.getD a 0:=λh=>by
  induction h with
  | one h=>intro e;exact hF.comp _ _ h (.inl e) (λh=>nomatch h)
  | step h _ ih=>intro e;exact hF.comp _ _ h (.inr (ih e)) (λh=>nomatch h)
 exact key h rfl
def zd (far:List Int)(i n x:Int):Option Bool:=(if 1<n then ((if x=i then some (true,true) else grd (0<=x) <| (far[x.toNat]?).bind λx3=>grd (aW (n-1)) <| some (false,!(decide (x3=(n-1))))).bind λ(s13,s14)=>some (true,s14)) else some (false,false)).bind λ(s11,s12)=>some s12
def CL (i n x:Int):Option Bool:=if x<0 then some true else ((if n=1 then some (true,!(decide (x=i))) else some (false,false)).bind λ(s8,s9)=>some s9)
theorem Tt (far:List Int)(i n:Int)(j:Nat)(x s:Int):Cc i far n j x s=((CL i n x).bind λs7=>(if s7=true then some true else zd far i n x).bind λs10=>if s10=true then some s else ((if s<0 then some true else some (decide (x<s))).bind λs15=>if s15=true then some x else some s)).bind λs6=>some s6:=rfl
theorem P1 {far:List Int}{i n x:Int}(hn:0<n)(hn2:n<=200000)(h:0<=x)(hx:x<(far.length:Int)):∃ b,zd far i n x=some b:=by
 unfold zd;by_cases hn1:1<n;rw[ao hn1];by_cases hi:x=i;rw[ao hi];exact⟨_,rfl⟩;rw[an hi,aE h,Cmz (by omega),aj,aE (by constructor<;>omega)];exact⟨_,rfl⟩;rw[an hn1];exact⟨_,rfl⟩
theorem Jk {tb:List (List Int)}(hT:TB tb){far:List Int}(hl:far.length=tb.length)(i:Int){n:Int}(hn:0<n)(hn2:n<=200000):∀ (l:List Int) (j:Nat) (s:Int),(∀ x∈l,-1<=x/\x<(tb.length:Int))->-1<=s->s<(tb.length:Int)->∃ s',eachL (Cc i far n) j l s=some s'/\-1<=s'/\s'<(tb.length:Int)
 | [],j,s,_,U,K=>⟨s,rfl,U,K⟩
 | x::l,j,s,hx,U,K=>by
  have hx0:=hx x (by simp);have tail:∀ b:Bool,∃ s1,(if b=true then some s else ((if s<0 then some true else some (decide (x<s))).bind λs15=>if s15=true then some x else some s))=some s1/\-1<=s1/\s1<(tb.length:Int):=by
   intro b;cases b with
   | true=>exact⟨s,rfl,U,K⟩
   | false=>
    rw[an Fpz];by_cases h:s<0;rw[ao h];exact⟨x,rfl,hx0⟩;rw[an h,aj];by_cases h2' : x<s;rw[ao (decide_eq_true h2')];exact⟨x,rfl,hx0⟩;rw[an (by rw[decide_eq_false h2'];decide)];exact⟨s,rfl,U,K⟩
  have hA:∃ b,CL i n x=some b/\(b=false->0<=x):=by
   unfold CL;by_cases h:x<0;rw[ao h];exact⟨true,rfl,λe=>nomatch e⟩;rw[an h];by_cases hn1:n=1;rw[ao hn1];exact⟨_,rfl,λ_=>by omega⟩;rw[an hn1];exact⟨_,rfl,λ_=>by omega⟩
  obtain⟨a,ea,ha⟩:=hA;have mid:∃ b,(if a=true then some true else zd far i n x)=some b:=by
   cases a with
   | true=>exact⟨true,rfl⟩
   | false=>
    rw[an Fpz];exact P1 hn hn2 (ha rfl) (by rw[hl];exact hx0.2)
  obtain⟨b,eb⟩:=mid;obtain⟨s1,e1,e2,e3⟩:=tail b;obtain⟨s',f1,f2⟩:=Jk hT hl i hn hn2 l (j+1) s1 (λy hy=>hx y (by simp[hy])) e2 e3;refine⟨s',?_,f2⟩;rw[eachL,Tt,ea,aj,eb,aj,e1,aj,aj];exact f1
theorem DL (x:Int):jt x 0=some (if 0<x then x else 0):=by
 unfold jt;by_cases h:0<x;rw[ao h,ao h];rw[an h,an h]
theorem Kw {tb:List (List Int)}(hT:TB tb){far:List Int}(hl:far.length=tb.length)(hf:∀ x∈far,x<=100000)(i:Int):∀ (n:Nat) (out:List Int) (at' : Int),n+out.length<=200000->0<=at'->at'<(tb.length:Int)->∃ l,bA (uZ tb i far) (out,at',(n:Int))=some l/\l.length=out.length+n
 | 0,out,at',_,_,_=>⟨out,cF (by unfold uZ;dsimp only;rw[an (by omega)]),rfl⟩
 | n+1,out,at',hn,h0,U=>by
  have hlt:at'.toNat<tb.length:=by omega
  obtain⟨s,e,e2,e3⟩:=Jk hT hl i (n:=((n+1:Nat):Int)) (by omega) (by omega) tb[at'.toNat] 0 (-1) (hT.2 _ (List.getElem_mem hlt)) (by omega) (by omega);obtain⟨l,f1,f2⟩:=Kw hT hl hf i n (out++[at']) (if 0<s then s else 0) (by simp;omega) (by split<;>omega) (by split<;>omega);refine⟨l,?_,by rw[f2];simp;omega⟩;rw[eh (s':=(out++[at'],(if 0<s then s else 0),(n:Int)))];exact f1;unfold uZ;dsimp only;rw[ao (by omega),aE (by constructor<;>omega),aE h0,Cmz hlt,aj,e,aj,DL,aj,aE (by constructor<;>omega)];rw[show ((n+1:Nat):Int)-1=(n:Int) by omega]
theorem PZ {tb:List (List Int)}(hT:TB tb){i:Nat}(hi:i<tb.length):∃ l,uU tb (i:Int)=some l/\l.length<=100000/\(0<l.length↔Dp tb i i):=by
 obtain⟨far,e,hl,hf,hd⟩:=P2 hT.1 hi;have hg:far[i]?=some (far.getD i 0):=by rw[Cwz,Cmz (by omega)];rfl
 unfold uU;rw[e,aj,aE (by omega),cd,hg,aj];by_cases h0:0<far.getD i 0;have Y:=hf _ (Bvz hg);obtain⟨n,hn⟩:∃ n:Nat,far.getD i 0=(n:Int):=⟨(far.getD i 0).toNat,by omega⟩
 obtain⟨l,f1,f2⟩:=Kw hT hl hf (i:Int) n [] (i:Int) (by simp;omega) (by omega) (by omega);rw[hn,f1];simp only[Dyz] at f2;exact⟨l,rfl,by omega,⟨λ_=>(hd i).1 h0,λ_=>by omega⟩⟩;rw[cF (r:=([]:List Int)) (by unfold uZ;dsimp only;rw[an h0])];exact⟨[],rfl,by simp,⟨λh=>by simp at h,λh=>absurd ((hd i).2 h) h0⟩⟩
theorem UQ {tb:List (List Int)}(hT:TB tb):∃ l,eachL (uT tb) 0 tb ([]:List Int)=some l/\(0<l.length↔∃ k,Dp tb k k):=by
 obtain⟨s',e,hp⟩:=iw (P:=λi (s:List Int)=>0<s.length↔∃ k,k<i/\Dp tb k k) (xs:=tb) (i:=0) (s:=([]:List Int)) (f:=uT tb) ⟨λh=>by simp at h,λ⟨k,h,_⟩=>by omega⟩ λk row s hk hs=>by
  rw[Adz] at hs ⊢;have hlt:=(List.getElem?_eq_some_iff.1 hk).1;obtain⟨l,e,U,K⟩:=PZ hT hlt;have hval:uT tb k row s=some (if 0<l.length/\(s.length=0∨l.length<s.length) then l else s):=by
   unfold uT;rw[e,aj];by_cases c1:0<l.length;rw[ao (by omega:0<((l.length:Nat):Int))];by_cases c2:s.length=0;rw[ao (by omega:((s.length:Nat):Int)=0),ao ⟨c1,.inl c2⟩];rfl;rw[an (by omega:¬ ((s.length:Nat):Int)=0)];by_cases c3:l.length<s.length;rw[ao ⟨c1,.inr c3⟩,show decide (((l.length:Nat):Int)<((s.length:Nat):Int))=true from decide_eq_true (by omega)];rfl;rw[an (by omega),show decide (((l.length:Nat):Int)<((s.length:Nat):Int))=false from decide_eq_false (by omega)];rfl;rw[an (by omega:¬ 0<((l.length:Nat):Int)),an (λh=>c1 h.1)];rfl
  refine⟨_,hval,?_⟩;by_cases c:0<l.length/\(s.length=0∨l.length<s.length);rw[ao c];exact⟨λ_=>⟨k,by omega,K.1 c.1⟩,λ_=>c.1⟩;rw[an c];constructor;intro h;obtain⟨j,hj,hd⟩:=hs.1 h;exact⟨j,by omega,hd⟩;rintro⟨j,hj,hd⟩;by_cases e:j=k;subst e;have:=K.2 hd;omega;exact hs.2 ⟨j,by omega,hd⟩
 rw[Adz] at hp;refine⟨s',e,hp.trans ⟨λ⟨k,_,h⟩=>⟨k,h⟩,λ⟨k,h⟩=>⟨k,?_,h⟩⟩⟩;cases h with
 | one h=>obtain⟨row,Z,_⟩:=h;exact (List.getElem?_eq_some_iff.1 Z).1
 | step h _=>obtain⟨row,Z,_⟩:=h;exact (List.getElem?_eq_some_iff.1 Z).1
mutual
def iH (g:al)(N:List Node):Tr->Nat->Int->Int->ar->Prop
 | .node nm ks,i,p,q,s=>∃ x r,N[i]?=some x/\r∈g.rs_/\x.ae=r.Name/\r.Left=s/\x.Parent=p/\x.Place=q/\x.cn_=cR (i+1) ks/\ks.length=r.rt_.length/\lj x.ll_ 1=true/\(r.ll_=true∨x.ll_=0)/\r.Name=nm/\gf g N ks (i:Int) 1 (i+1) r.rt_
def gf (g:al)(N:List Node):List Tr->Int->Nat->Nat->List ar->Prop
 | [],_,_,_,_=>True
 | t::ts,p,k,b,ss=>∃ s ss',ss=s::ss'/\iH g N t b p (k:Int) s/\gf g N ts p (k+1) (b+t.sz) ss'
end
theorem EN:∀ (ts:List Tr) (b:Nat),(cR b ts).length=ts.length
 | [],b=>rfl
 | t::ts,b=>by rw[cR,bC,bC,EN ts]
theorem EM:∀ (ts:List Tr) (b j:Nat),j<ts.length->(cR b ts)[j]?=some (((b+Tr.szs (ts.take j):Nat)):Int)
 | [],b,j,h=>by simp at h
 | t::ts,b,0,h=>by rw[cR,Fkz,Tr.szs];rfl
 | t::ts,b,j+1,h=>by
  rw[cR,List.getElem?_cons_succ,EM ts (b+t.sz) j (by simpa using h),Bhz,Tr.szs];congr 2;omega
mutual
theorem HK {g:al}(h0:Sz.szd g<=1048576)(hS:Shape g){N:List Node}(hN:N.length<=100000):∀ (T:Tr) (i:Nat) (p q:Int) (s:ar),iH g N T i p q s->∃ n0,∀ n,n0<=n->pB n g ⟨N⟩ (i:Int) p q s=some ((i+T.sz:Nat):Int)
 | .node nm ks,i,p,q,s,h=>by
  obtain⟨x,r,hx,Z,e1,e2,e3,e4,e5,e6,e7,e8,en,hk⟩:=h;obtain⟨n0,hn⟩:=IG h0 hS hN ks [] i x r (i+1) (by rw[Dyz,e5];exact .inl rfl) r.rt_ (by rw[Dyz];exact hk);have hi:=(List.getElem?_eq_some_iff.1 hx).1;refine⟨n0+1,λn hle=>?_⟩;cases n with
  | zero=>omega
  | succ n=>
   rw[pB];unfold xx;dsimp only;rw[an (by omega),aE (by omega),cd,hx,aj,e1,xJ h0 hS Z,aj];dsimp only;rw[ao rfl,decide_eq_true e2,aj,an (by decide),decide_eq_true e3,aj,an (by decide),decide_eq_true e4,aj,an (by decide),decide_eq_true (by rw[e5,EN,e6]:(x.cn_.length:Int)=(r.rt_.length:Int)),aj,an (by decide),Kj,aj,ao e7];have hlit:((if r.ll_=true then some false else some (!(decide (x.ll_=0)))).bind λs6:Bool=>some s6)=some false:=by
    by_cases hl:r.ll_=true;rw[ao hl];rfl;rw[an hl,decide_eq_true (e8.resolve_left hl)];rfl
   rw[hlit,aj,an (by decide),aE (by constructor<;>omega),show (i:Int)+1=((i+1:Nat):Int) by omega];have hn:=hn n (by omega);rw[Dyz,e6,List.take_length] at hn;rw[hn];show some _=some _;congr 2;rw[Tr.sz];omega
theorem IG {g:al}(h0:Sz.szd g<=1048576)(hS:Shape g){N:List Node}(hN:N.length<=100000):∀ (ks pre:List Tr) (i:Nat) (x:Node) (r:ae) (b:Nat),(x.cn_.drop pre.length=cR b ks∨False)->∀ ss:List ar,gf g N ks (i:Int) (pre.length+1) b ss->∃ n0,∀ n,n0<=n->findL (xP (pB n) g ⟨N⟩ (i:Int) x) pre.length (ss.take ks.length) ((b:Nat):Int)=some (.inl ((b+Tr.szs ks:Nat):Int))
 | [],pre,i,x,r,b,_,ss,_=>⟨0,λn _=>by rw[Dyz,Fkz,Tr.szs];rfl⟩
 | t::ts,pre,i,x,r,b,hc,ss,h=>by
  obtain⟨s,ss',rfl,U,K⟩:=h;have hc:=hc.resolve_right id;obtain⟨n1,w1⟩:=HK h0 hS hN t b (i:Int) ((pre.length+1:Nat):Int) s U;obtain⟨n2,w2⟩:=IG h0 hS hN ts (pre++[t]) i x r (b+t.sz) (by
   left;rw[Axz,Coz,← List.drop_drop,hc,cR];rfl) ss' (by rw[Axz,Coz];exact K)
  refine⟨n1+n2,λn hn=>?_⟩;have hx:x.cn_[pre.length]?=some (b:Int):=by
   have:=congrArg (λl:List Int=>l[0]?) hc;simp only[List.getElem?_drop,Nat.add_zero] at this;rw[this,cR];rfl
  have w2:=w2 n (by omega);rw[Axz,Coz] at w2;rw[bC,Bhz,findL];have hstep:xP (pB n) g ⟨N⟩ (i:Int) x pre.length s ((b:Nat):Int)=some (.inl ((b+t.sz:Nat):Int)):=by
   unfold xP;rw[hx,aj,ao rfl,w1 n (by omega),aj,an (by omega)]
  rw[hstep,aj];dsimp only;rw[w2,Tr.szs];congr 3;omega
end
theorem iH.head {g:al}{N:List Node}:∀ {T:Tr} {i:Nat} {p q:Int} {s:ar},iH g N T i p q s->∃ y r,N[i]?=some y/\r∈g.rs_/\y.ae=r.Name/\r.Left=s/\y.Parent=p/\y.Place=q
 | .node nm ks,i,p,q,s,h=>by
  obtain⟨x,r,hx,Z,e1,e2,e3,e4,_⟩:=h;exact⟨x,r,hx,Z,e1,e2,e3,e4⟩
theorem gf.get {g:al}{N:List Node}:∀ {ks:List Tr} {p:Int} {k b:Nat} {ss:List ar},gf g N ks p k b ss->∀ {j:Nat} {t:Tr} {s:ar},ks[j]?=some t->ss[j]?=some s->iH g N t (b+Tr.szs (ks.take j)) p ((k+j:Nat):Int) s
 | [],p,k,b,ss,h,j,t,s,hj,_=>by simp at hj
 | t0::ts,p,k,b,ss,h,0,t,s,hj,hs=>by
  obtain⟨s0,ss',rfl,U,K⟩:=h;simp at hj hs;subst hj;subst hs;rw[Fkz,Tr.szs];exact U
 | t0::ts,p,k,b,ss,h,j+1,t,s,hj,hs=>by
  obtain⟨s0,ss',rfl,U,K⟩:=h;have:=gf.get K (j:=j) (by simpa using hj) (by simpa using hs);rw[Bhz,Tr.szs];rwa[show b+(t0.sz+Tr.szs (ts.take j))=b+t0.sz+Tr.szs (ts.take j) by omega,show k+(j+1)=k+1+j by omega]
def Aw (g:al)(N:List Node)(v:Nat):Prop:=∃ x r,N[v]?=some x/\r∈g.rs_/\x.ae=r.Name/\x.cn_.length=r.rt_.length /\
 ∀ (j:Nat) (n:ar),r.rt_[j]?=some n->∃ (c:Nat) (y:Node) (r' : ae),x.cn_[j]?=some (c:Int)/\v<c/\N[c]?=some y/\y.Parent=(v:Int)/\y.Place=((j+1:Nat):Int)/\r'∈g.rs_/\y.ae=r'.Name/\r'.Left=n
mutual
theorem ID {g:al}{N:List Node}:∀ (T:Tr) (i:Nat) (p q:Int) (s:ar),iH g N T i p q s->∀ v,i<=v->v<i+T.sz->Aw g N v
 | .node nm ks,i,p,q,s,h,v,U,K=>by
  obtain⟨x,r,hx,Z,e1,e2,e3,e4,e5,e6,e7,e8,en,hk⟩:=h;rw[Tr.sz] at K;by_cases hv:v=i;subst hv;refine⟨x,r,hx,Z,e1,by rw[e5,EN,e6],λj n hj=>?_⟩;have hlt:=(List.getElem?_eq_some_iff.1 hj).1;rw[← e6] at hlt;have hT:=gf.get hk (Cmz hlt) hj;obtain⟨y,r',hy,hr',f1,f2,f3,f4⟩:=hT.head;exact⟨v+1+Tr.szs (ks.take j),y,r',by rw[e5];exact EM ks (v+1) j hlt,by omega,hy,f3,by rw[f4];congr 1;omega,hr',f1,f2⟩;exact Jj ks (i:Int) 1 (i+1) r.rt_ hk v (by omega) (by omega)
theorem Jj {g:al}{N:List Node}:∀ (ks:List Tr) (p:Int) (k b:Nat) (ss:List ar),gf g N ks p k b ss->∀ v,b<=v->v<b+Tr.szs ks->Aw g N v
 | [],p,k,b,ss,h,v,U,K=>by rw[Tr.szs] at K;omega
 | t::ts,p,k,b,ss,h,v,U,K=>by
  obtain⟨s0,ss',rfl,h3,h4⟩:=h;rw[Tr.szs] at K;by_cases hv:v<b+t.sz;exact ID t b p (k:Int) s0 h3 v U hv;exact Jj ts p (k+1) (b+t.sz) ss' h4 v (by omega) (by omega)
end
theorem Kv:∀ (xs:List Node) (k:Nat) (s:List Int),(∀ x∈xs,1<=x.Id/\x.Id<=999)->(s++xs.map Node.Id).Nodup->s.length+xs.length<=1000->findL xy k xs s=some (.inl (s++xs.map Node.Id))
 | [],k,s,_,_,_=>by rw[List.map_nil,List.append_nil];rfl
 | x::xs,k,s,Z,hn,hl=>by
  simp only[bC] at hl;have hx:x.Id∉s:=λh=>by
   rw[Blz] at hn;exact (List.nodup_append.1 hn).2.2 x.Id h x.Id (by simp) rfl
  have e:xy k x s=some (.inl (s++[x.Id])):=by
   unfold xy;rw[gC,aj,ao (decide_eq_true (Z x (by simp))),Fv,aj,an (by rw[decide_eq_false hx];decide),aE (by constructor<;>omega)]
  have ih:=Kv xs (k+1) (s++[x.Id]) (λy hy=>Z y (by simp[hy])) (by rw[Azz];exact hn) (by simp;omega);rw[findL,e,aj];dsimp only;rw[ih,Azz];rfl
theorem PY {N:List Node}(U:1<=N.length)(K:N.length<=16)(Z:∀ x∈N,1<=x.Id/\x.Id<=999)(hn:(N.map Node.Id).Nodup):tD ⟨N⟩=some true:=by
 unfold tD;dsimp only;rw[Kv N 0 [] Z (by rw[Edz];exact hn) (by simp;omega),aj];show (cX (([]++N.map Node.Id:List Int).length:Int) 1 16).bind _=_;rw[gC,aj,Edz,bc];exact congrArg some (decide_eq_true (by omega))
theorem V3 {g:al}(h0:Sz.szd g<=1048576)(hS:Shape g){N:List Node}(U:1<=N.length)(K:N.length<=16)(Z:∀ x∈N,1<=x.Id/\x.Id<=999)(hn:(N.map Node.Id).Nodup){T:Tr}{s:ar}(hT:iH g N T 0 (-1) 0 s)(hz:T.sz=N.length):kc g ⟨N⟩ s=some true:=by
 obtain⟨n0,w⟩:=HK h0 hS (by omega) T 0 (-1) 0 s hT;have hw:xw g ⟨N⟩ 0 (-1) 0 s=some ((0+T.sz:Nat):Int):=by
  unfold xw;exact gY n0 w
 unfold kc;rw[PY U K Z hn,aj,ao rfl,hw,aj];exact congrArg some (decide_eq_true (by rw[Adz,hz]))
theorem El {g:al}(h0:Sz.szd g<=1048576)(hS:Shape g){N:List Node}{v:Nat}{x:Node}{r:ae}(hx:N[v]?=some x)(Z:r∈g.rs_)(e:x.ae=r.Name):jM g ⟨N⟩ (v:Int)=some r.Left:=by
 have hv:=(List.getElem?_eq_some_iff.1 hx).1;unfold jM;dsimp only;rw[gC,aj,ao (decide_eq_true (by omega)),aE (by omega),cd,hx,aj,e,xJ h0 hS Z,aj]
theorem PX {g:al}{a b:ar}(ha:(bR g a).2=true)(Y:(bR g b).2=true)(h:ba g a=ba g b):a=b:=by
 obtain⟨y,_,U,K⟩:=AY ha;obtain⟨z,_,h3,h4⟩:=AY Y;rw[h,h3] at U;cases U;rw[← K,← h4]
theorem J8 {g:al}(hS:Shape g){F:List (List aw)}{rec:aw->Option Tr}{N:List Node}(ih:∀ f t,(∃ l∈F,f∈l)->rec f=some t->∀ A B p q,N=A++bp cn t p q A.length++B->iH g N t A.length p q f.rule.Left)(hl:∀ n d f,(bR g n).2=true->cM g F n d=some f->f.rule.Left=n) :
  ∀ (ns:List ar) (ds:List Int) (ks:List Tr) (p:Int) (k:Nat) (A B:List Node),(∀ n∈ns,(bR g n).2=true)->fc rec g F ns ds=some ks->N=A++fF cn ks p k A.length++B->gf g N ks p k A.length ns
 | [],[],ks,p,k,A,B,_,h,_=>by cases h;trivial
 | n::ns,d::ds,ks,p,k,A,B,hn,h,e=>by
  rw[fc] at h;obtain⟨f,e1,h⟩:=Option.bind_eq_some_iff.1 h;obtain⟨t,e2,h⟩:=Option.bind_eq_some_iff.1 h;obtain⟨us,e3,h⟩:=Option.bind_eq_some_iff.1 h;cases h;obtain⟨l,_,_,hlF,hfl⟩:=sA e1;rw[fF] at e;refine⟨n,ns,rfl,?_,?_⟩;have:=ih f t ⟨l,hlF,hfl⟩ e2 A (fF cn us p (k+1) (A.length+t.sz)++B) p (k:Int) (by rw[e];simp only[Azz]);rwa[hl n d f (hn n (by simp)) e1] at this;have:=J8 hS ih hl ns ds us p (k+1) (A++bp cn t p (k:Int) A.length) B (λx hx=>hn x (by simp[hx])) e3 (by rw[e,Axz,mA];simp only[Azz]);rwa[Axz,mA] at this
 | [],_::_,ks,p,k,A,B,_,h,_=>by cases h
 | _::_,[],ks,p,k,A,B,_,h,_=>by cases h
theorem UP {g:al}(hS:Shape g){F:List (List aw)}(hD:fD g F)(hD2:dY g F)(n:ar)(d:Int)(f:aw)(hn:(bR g n).2=true)(h:cM g F n d=some f):f.rule.Left=n:=by
 obtain⟨l,hl,_,hlF,hfl⟩:=sA h;exact PX (hS.left (hD l hlF f hfl).1) hn (hD2 _ l hl f hfl).1
theorem IC {g:al}(hS:Shape g){F:List (List aw)}(hD:fD g F)(hD2:dY g F):∀ (n:Nat) (f:aw) (t:Tr),f.rule∈g.rs_->dZ g F n f=some t->∀ (N A B:List Node) (p q:Int),N=A++bp cn t p q A.length++B->iH g N t A.length p q f.rule.Left
 | 0,f,t,_,h=>by cases h
 | n+1,f,t,Z,h=>by
  intro N A B p q e;rw[dZ] at h;obtain⟨ks,e1,h⟩:=Option.bind_eq_some_iff.1 h;cases h;rw[bp] at e;have hx:N[A.length]?=some (⟨cn A.length,p,q,0,f.rule.Name,cR (A.length+1) ks⟩:Node):=by
   rw[e,Azz,List.getElem?_append_right (Acz _),Nat.sub_self];rfl
  have hk:=J8 hS (λf' t' ⟨l,hl,hf⟩ h' A B p q e=>IC hS hD hD2 n f' t' (hD l hl f' hf).1 h' N A B p q e) (UP hS hD hD2) f.rule.rt_ f.ca_ ks (A.length:Int) 1 (A++[(⟨cn A.length,p,q,0,f.rule.Name,cR (A.length+1) ks⟩:Node)]) B (λm hm=>hS.right Z hm) e1 (by
   rw[e,Axz,Coz];simp only[Azz,List.cons_append,Edz])
  rw[Axz,Coz] at hk;exact⟨_,f.rule,hx,Z,rfl,rfl,rfl,rfl,rfl,(ti _ _ _ e1).2,(show lj 0 1=true by decide),.inr rfl,rfl,hk⟩
mutual
theorem Ji:∀ (t:Tr) (p q:Int) (b:Nat),(bp cn t p q b).map Node.Id=(List.range' b t.sz).map cn
 | .node nm ks,p,q,b=>by
  rw[bp,Blz,J7 ks,Tr.sz,show 1+Tr.szs ks=Tr.szs ks+1 by omega,List.range'_succ,Blz]
theorem J7:∀ (ks:List Tr) (p:Int) (k b:Nat),(fF cn ks p k b).map Node.Id=(List.range' b (Tr.szs ks)).map cn
 | [],p,k,b=>by rw[fF,Tr.szs];rfl
 | t::ts,p,k,b=>by
  rw[fF,List.map_append,Ji t,J7 ts,Tr.szs,← List.map_append];congr 1;have:=List.range'_append (s:=b) (m:=t.sz) (n:=Tr.szs ts) (step:=1);rw[Nat.one_mul] at this;exact this
end
theorem UO {g:al}(h0:Sz.szd g<=1048576)(hS:Shape g){F:List (List aw)}(hD:fD g F)(hD2:dY g F){n:Nat}{f:aw}{t:Tr}(Z:f.rule∈g.rs_)(h:dZ g F n f=some t)(hz:t.sz<=16) :
  iH g (bp cn t (-1) 0 0) t 0 (-1) 0 f.rule.Left/\(∀ x∈bp cn t (-1) 0 0,1<=x.Id/\x.Id<=999)/\((bp cn t (-1) 0 0).map Node.Id).Nodup/\kc g ⟨bp cn t (-1) 0 0⟩ f.rule.Left=some true:=by
 have hT:iH g (bp cn t (-1) 0 0) t 0 (-1) 0 f.rule.Left:=IC hS hD hD2 n f t Z h _ [] [] (-1) 0 (by simp);have hid:=Ji t (-1) 0 0;have hlen:=mA cn t (-1) 0 0;have hpos:=t.pos;have hR:∀ x∈bp cn t (-1) 0 0,1<=x.Id/\x.Id<=999:=λx hx=>by
  have:x.Id∈(bp cn t (-1) 0 0).map Node.Id:=List.mem_map.2 ⟨x,hx,rfl⟩;rw[hid] at this;obtain⟨k,hk,e⟩:=List.mem_map.1 this;rw[Etz] at hk;rw[← e];unfold cn;omega
 have hN:((bp cn t (-1) 0 0).map Node.Id).Nodup:=by
  rw[hid];refine List.Pairwise.map _ (λa b hab e=>hab ?_) (List.nodup_range' (s:=0) (n:=t.sz) (step:=1));unfold cn at e;omega
 exact⟨hT,hR,hN,V3 h0 hS (by omega) (by omega) hR hN hT hlen.symm⟩
def Hp (A:List (List au))(hs:List Int):Prop:=∀ j,hs.getD j 0≠0->A.getD j []≠[]
theorem Hp.set {A:List (List au)}{hs:List Int}(h:Hp A hs){k:Nat}{v:Int}(hk:A.getD k []≠[]):Hp A (hs.set k v):=λj hj=>by
 by_cases e:k=j;rw[← e];exact hk;refine h j ?_;rw[Cwz,List.getElem?_set_ne e,← Cwz] at hj;exact hj
theorem WJ {α:Type}{nm:α->ar}{xs:List α}(h:qw nm xs=true):xs.Pairwise λa b=>nm a≠nm b:=by
 unfold qw at h;rw[Option.isNone_iff_eq_none] at h;rw[Fuz];intro i j hi hj hij he;have U:=py xs [] h j xs[j] (Cmz hj);unfold dw at U;rw[Edz,List.any_eq_false] at U;exact U xs[i] (List.mem_take_iff_getElem.2 ⟨i,by omega,rfl⟩) (by simpa using he)
theorem xe {y:ah}(h:symB y=true){a:aI}(ha:a∈y.as_):eS y a.Name=(a,true):=by
 unfold symB at h;simp only[Bool.and_eq_true] at h;have hd:=WJ h.2.2.2;unfold eS;cases hf:y.as_.find? (λb=>decide (b.Name=a.Name)) with
 | none=>rw[List.find?_eq_none] at hf;exact absurd (by simp) (hf a ha)
 | some b=>
  have Y:=Ecz hf;have he:b.Name=a.Name:=by simpa using List.find?_some hf
  have:b=a:=by
   rcases Fvz Y with ⟨i,hi,rfl⟩
   rcases Fvz ha with ⟨j,hj,rfl⟩
   rw[Fuz] at hd;rcases Nat.lt_trichotomy i j with h|h|h;exact absurd he (hd i j hi hj h);subst h;rfl;exact absurd he.symm (hd j i hj hi h)
  rw[this]
theorem Shape.find {g:al}(h:Shape g){r:ae}(Z:r∈g.rs_){k:Nat}(hk:k<r.rt_.length+1):Go.Proofs.YtodhafdaelcnlaaGreat.symB (bR g (cE r (k:Int))).1=true:=by
 have Y:=h.brk 3 (by omega) (by omega) r Z;unfold iq at Y;rw[ao rfl] at Y;simp only[Fwz] at Y;unfold qB at Y;rw[Ekz] at Y;have U:=Y k (by rw[Etz];omega);unfold bR at U ⊢;cases hf:g.ss_.find? (λy=>decide (y.Name=cE r (k:Int))) with
 | none=>rw[hf] at U;cases U
 | some y=>exact h.symB (Ecz hf)
theorem Shape.may {g:al}(h:Shape g){r:ae}(Z:r∈g.rs_){q:aZ}(hq:q∈r.es_){u:Oc}(hu:u∈Go.Proofs.YtodhafdaelcnlaaGreat.attrs q.Expr):fJ g r u=true/\u∉cy g r:=by
 have Y:=h.brk 6 (by omega) (by omega) r Z;unfold iq at Y;rw[an (by omega),an (by omega),an (by omega)] at Y;unfold jQ at Y;simp only[Fwz] at Y;rw[Ekz] at Y;have U:=Y q.Expr (by unfold oN;rw[List.mem_append];exact .inl (List.mem_map.2 ⟨q,hq,rfl⟩));unfold dp at U;rw[Ekz] at U;have hm:=U u hu;refine⟨hm,λhi=>?_⟩;unfold cy at hi;obtain⟨k,hk,hi⟩:=List.mem_flatMap.1 hi;rw[Etz] at hk;unfold eU at hi;obtain⟨a,ha,rfl⟩:=List.mem_map.1 hi;rw[List.mem_filter] at ha;have hs:=h.find Z (k:=k) (by omega);unfold fJ gp at hm;rw[ao (by dsimp only;omega)] at hm;dsimp only at hm;rw[xe hs ha.1] at hm;have K:=ha.2;simp only[decide_eq_true_eq,Bool.and_eq_true] at K hm;rw[K] at hm;by_cases h0:(k:Int)=0;rw[ao h0,ao h0] at hm;omega;rw[an h0,an h0] at hm;omega
theorem PW (l:List Oc)(o:Oc):mY l o=some (fw l o):=by
 have h:l8 l o=some (fw l o):=by
  unfold l8;refine Ft λk x=>⟨λe=>?_,λe=>?_⟩
  unfold na;rw[ao e.symm];unfold na;rw[an (λh=>e h.symm)]
 unfold mY;rw[h];rfl
theorem IB {l:List Oc}{u:Oc}{a:Nat}(h:(a:Int)=fw l u):l[a]?=some u:=by
 unfold fw at h;by_cases hm:u∈l;rw[ao hm] at h;obtain rfl:a=l.idxOf u:=by omega
 have hl:=List.idxOf_lt_length_of_mem hm;rw[Cmz hl,List.getElem_idxOf];rw[an hm] at h;omega
theorem PV {l:List Oc}{u:Oc}{a:Nat}(h:(a:Int)=fw l u):a<l.length:=(List.getElem?_eq_some_iff.1 (IB h)).1
theorem IA (l:List Oc)(k:Nat)(hk:k<l.length):∀ (us:List Oc) (i:Nat) (o:au),aL o->o.N=(l.length:Int) ->
  ∃ o',eachL (qf l k) i us (o.Rows,o.N)=some (o'.Rows,o'.N)/\aL o'/\o'.N=o.N/\∀ a c:Nat,Rl o'.Rows a c↔Rl o.Rows a c∨(c=k/\∃ u∈us,(a:Int)=fw l u)
 | [],i,o,hv,hN=>⟨o,rfl,hv,rfl,λa c=>by simp⟩
 | u::us,i,o,hv,hN=>by
  have hlen:o.Rows.length<=1048576:=by have:=hv.2.1;have:=hv.2.2.1;omega
  have e:qf l k i u (o.Rows,o.N)=some ((cC o (fw l u) (k:Int)).Rows,(cC o (fw l u) (k:Int)).N):=by
   unfold qf;dsimp only;rw[PW,aj,A7,wu hlen,aj]
  obtain⟨o',U,K,h3,h4⟩:=IA l k hk us (i+1) (cC o (fw l u) (k:Int)) (ue hv _ _) ((qV _ _ _).2.trans hN);refine⟨o',by rw[eachL,e,aj];exact U,K,h3.trans (qV _ _ _).2,λa c=>?_⟩;rw[h4,AM hv];have hin:(a:Int)=fw l u->jz o (fw l u):=λh=>⟨by omega,by have:=PV h;omega⟩
  constructor;rintro ((h|⟨_,_,U,K⟩)|⟨U,u',hu,K⟩);exact .inl h;exact .inr ⟨by omega,u,by simp,U⟩;exact .inr ⟨U,u',by simp[hu],K⟩;rintro (h|⟨U,u',hu,K⟩);exact .inl (.inl h);rcases List.mem_cons.1 hu with rfl|hu;exact .inl (.inr ⟨hin K,⟨by omega,by omega⟩,K,by omega⟩);exact .inr ⟨U,u',hu,K⟩
theorem Jh {r:ae}(Z:Sz.szd r<=1048576)(l:List Oc):∀ (m k:Nat) (o:au),k+m=l.length->aL o->o.N=(l.length:Int) ->
  ∃ o',eachL (qe r l) k (l.drop k) (o.Rows,o.N)=some (o'.Rows,o'.N)/\aL o'/\o'.N=o.N/\∀ a c:Nat,Rl o'.Rows a c↔Rl o.Rows a c∨(k<=c/\∃ x,l[c]?=some x/\∃ u∈attrs (cq r x).1,(a:Int)=fw l u)
 | 0,k,o,hk,hv,hN=>by
  refine⟨o,by rw[List.drop_eq_nil_of_le (by omega)];rfl,hv,rfl,λa c=>⟨.inl,?_⟩⟩;rintro (h|⟨U,x,K,_⟩);exact h;have:=(List.getElem?_eq_some_iff.1 K).1;omega
 | m+1,k,o,hk,hv,hN=>by
  have hk' : k<l.length:=by omega
  have hsz:=JI Z l[k];have hf:=JH Z l[k];obtain⟨o1,U,K,h3,h4⟩:=IA l k hk' (attrs (cq r l[k]).1) 0 o hv hN;obtain⟨o',k1,k2,k3,k4⟩:=Jh Z l m (k+1) o1 (by omega) K (h3.trans hN);have e1:qe r l k l[k] (o.Rows,o.N)=some (o1.Rows,o1.N):=by
   unfold qe;dsimp only;generalize cq r l[k]=z at hsz hf U;obtain⟨E,B⟩:=z;rw[hf.2,aj];dsimp only;rw[EI hsz,aj,U];rfl
  refine⟨o',by rw[List.drop_eq_getElem_cons hk',eachL,e1,aj];exact k1,k2,k3.trans h3,λa c=>?_⟩;rw[k4,h4];constructor;rintro ((h|⟨rfl,u,hu,h⟩)|⟨hc,h⟩);exact .inl h;exact .inr ⟨Acz _,l[c],Cmz hk',u,hu,h⟩;exact .inr ⟨by omega,h⟩;rintro (h|⟨hc,x,hx,u,hu,h⟩);exact .inl (.inl h);by_cases hck:c=k;subst hck;rw[Cmz hk'] at hx;cases hx;exact .inl (.inr ⟨rfl,u,hu,h⟩);exact .inr ⟨by omega,x,hx,u,hu,h⟩
theorem V2 (n i j:Nat):¬ Rl (Bqz n 0) i j:=by
 unfold Rl;rw[Cwz,Ewz];split<;>simp
theorem Lb {g:al}{r:ae}(hg:Sz.szd g<=1048576)(Z:Sz.szd r<=1048576)(hl:(bX g r).length<=16):aL (dv g r)/\(dv g r).N=((bX g r).length:Int) /\
  ∀ a c:Nat,Rl (dv g r).Rows a c↔∃ x,(bX g r)[c]?=some x/\∃ u∈attrs (cq r x).1,(a:Int)=fw (bX g r) u:=by
 have h:=(IN hg Z).2.1;unfold qb at h;rw[AN (gZ hg) (iv Z),aj,FP,ED (by omega) (by omega),aj,an (by omega)] at h;obtain⟨o',U,K,h3,h4⟩:=Jh Z (bX g r) (bX g r).length 0 ⟨((bX g r).length:Int),Bqz (((bX g r).length:Int)).toNat 0⟩ (by omega) (BJ (by omega) (by omega)) rfl;rw[List.drop_zero] at U;rw[U,aj] at h;have e:dv g r=o':=(Option.some.inj h).symm;rw[e];refine⟨K,h3,λa c=>?_⟩;rw[h4];constructor;rintro (h|⟨_,h⟩);exact absurd h (V2 _ _ _);exact h;exact λh=>.inr ⟨Nat.zero_le _,h⟩
end Go.Proofs.YtodhafdaelcnlaaGreat
