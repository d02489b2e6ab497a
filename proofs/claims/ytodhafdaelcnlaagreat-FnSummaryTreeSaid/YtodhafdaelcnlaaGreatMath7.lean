/- What those partial functions come to: plain lemmas on data; each bears its conditions in its statement. -/
import Derived.Test.YtodhafdaelcnlaaGreatMath6
set_option linter.unusedVariables false
set_option linter.unusedSimpArgs false
set_option linter.ambiguousOpen false
set_option linter.unusedSectionVars false
set_option linter.unnecessarySimpa false
open List renaming replicate->Bqz,replicate_succ->Dez,range->Amz,flatMap_append->Ewz,flatMap_cons->Bkz,mem_cons_self->Ckz,mem_cons_of_mem->Buz,map_map->Exz,getD_eq_getElem?_getD->Cwz,getElem?_eq_getElem->Cmz,getElem?_map->Czz,mem_of_getElem?->Bvz,append_nil->Cgz,map_cons->Blz,getElem?_of_mem->Ekz,length_append->Axz,getElem?_set_self->Eyz,mem_singleton->Bpz,getElem?_set_ne->Ezz,append_assoc->Azz,map_append->Diz,drop_zero->Faz,drop_eq_getElem_cons->Csz,take_add_one->Dvz,length_take->Brz,take_length->Fbz,length_nil->Dyz,findIdx?_eq_none_iff->Fcz,findIdx?_eq_some_iff_getElem->Epz,take_zero->Fdz,length_range->Fez,foldl_cons->Ffz,map_replicate->Dhz,nil_append->Ecz,length_take_le->Fgz,take_of_length_le->Biz
open Nat renaming pos_of_ne_zero->Fhz,mod_lt->Fiz,div_lt_iff_lt_mul->Fjz,mul_le_mul_right->Cpz,succ_mul->Fkz,mul_comm->Flz,add_mul_div_left->Fmz,zero_add->Adz,add_mul_mod_self_left->Fnz,mod_eq_of_lt->Foz,le_refl->Acz,le_trans->Bgz,sub_self->Fpz
open Option renaming map_some->Byz
open Bool renaming false_ne_true->Fqz
namespace Go.Proofs.YtodhafdaelcnlaaGreat
open Go Go.E
def cT:List Nat->Nat
 | []=>1
 | c::cs=>c*cT cs
def bP:List Nat->Nat->List Nat
 | [],_=>[]
 | _::cs,n=>(n / cT cs)::bP cs (n % cT cs)
def ka:List Nat->List Nat->Option (List Nat)
 | c::cs,d::ds=>match ka cs ds with
  | some ds'=>some (d::ds')
  | none=>if d+1<c then some ((d+1)::Bqz cs.length 0) else none
 | _,_=>none
theorem wM:∀ (cs:List Nat) (n:Nat),(bP cs n).length=cs.length
 | [],_=>rfl
 | _::cs,n=>by rw[bP,bE,wM cs,bE]
theorem Bl:∀ cs:List Nat,bP cs 0=Bqz cs.length 0
 | []=>rfl
 | c::cs=>by rw[bP,Nat.zero_div,Nat.zero_mod,Bl cs,bE,Dez]
theorem ET:∀ (cs:List Nat) (n:Nat),n<cT cs->ka cs (bP cs n)=if n+1<cT cs then some (bP cs (n+1)) else none
 | [],n,h=>by
  rw[cT] at h;rw[an (by rw[cT];omega)];rfl
 | c::cs,n,h=>by
  rw[cT] at h ⊢;have hP:0<cT cs:=Fhz λe=>by rw[e] at h;omega
  have Z:=Fiz n hP;have hq:n / cT cs<c:=(Fjz hP).2 h;have hn:=Nat.div_add_mod n (cT cs);rw[bP,ka,ET cs _ Z];generalize hQ:n / cT cs=q at hq hn ⊢;generalize hR:n % cT cs=r at Z hn ⊢;generalize hPe:cT cs=P at h hP Z hn ⊢;by_cases U:r+1<P;rw[ao U];have hc:n+1<c*P:=by
   have:(q+1)*P<=c*P:=Cpz _ hq;rw[Fkz,Flz] at this;omega
  have e1:(n+1) / P=q:=by
   rw[← hn];rw[show P*q+r+1=(r+1)+P*q by omega,Fmz _ _ hP,Nat.div_eq_of_lt U,Adz]
  have e2:(n+1) % P=r+1:=by
   rw[← hn,show P*q+r+1=(r+1)+P*q by omega,Fnz,Foz U]
  rw[ao hc,bP,hPe,e1,e2];rw[an U];have hr1:r+1=P:=by omega
  have hn1:n+1=P*(q+1):=by rw[Nat.mul_succ];omega
  have e1:(n+1) / P=q+1:=by rw[hn1,Nat.mul_div_cancel_left _ hP]
  have e2:(n+1) % P=0:=by rw[hn1,Nat.mul_mod_right]
  dsimp only;by_cases K:q+1<c;have hc:n+1<c*P:=by
   rw[hn1,Flz c P];exact (Nat.mul_lt_mul_left hP).2 K
  rw[ao K,ao hc,bP,hPe,e1,e2,Bl];have hc:¬ n+1<c*P:=by
   have:c=q+1:=by omega
   rw[hn1,this,Flz P];omega
  rw[an K,an hc]
theorem FA:∀ (cs:List Nat) (n:Nat),cT (cs++[n])=cT cs*n
 | [],n=>by simp[cT]
 | c::cs,n=>by rw[List.cons_append,cT,cT,FA cs,Nat.mul_assoc]
theorem KF (n:Nat):∀ (cs:List Nat) (m:Nat),m<cT cs*n->bP (cs++[n]) m=bP cs (m / n)++[m % n]
 | [],m,h=>by
  rw[cT,Nat.one_mul] at h;show [m / 1]=[m % n];rw[Nat.div_one,Foz h]
 | c::cs,m,h=>by
  rw[cT] at h;have hP:0<cT cs*n:=Fhz λe=>by rw[Nat.mul_assoc,e] at h;omega
  rw[List.cons_append,bP,bP,FA,KF n cs _ (Fiz _ hP),Nat.mod_mul_left_div_self,Nat.mod_mul_left_mod,Nat.div_div_eq_div_mul,Flz n];rfl
def dn (cs:List Nat):List (List Nat):=(Amz (cT cs)).map (bP cs)
theorem LQ (n:Nat):∀ p:Nat,Amz (p*n)=(Amz p).flatMap λi=>(Amz n).map λj=>i*n+j
 | 0=>by simp
 | p+1=>by
  rw[Fkz,List.range_add,LQ n p,List.range_succ,Ewz];simp
theorem Oj {α β:Type}{f g:α->List β}:∀ {l:List α},(∀ x∈l,f x=g x)->l.flatMap f=l.flatMap g
 | [],_=>rfl
 | x::l,h=>by rw[Bkz,Bkz,h x Ckz,Oj λy hy=>h y (Buz _ hy)]
theorem Tk (cs:List Nat)(n:Nat):dn (cs++[n])=(dn cs).flatMap λc=>(Amz n).map λj=>c++[j]:=by
 unfold dn;rw[FA,LQ,List.map_flatMap,List.flatMap_map];refine Oj λi hi=>?_;rw[Exz];refine List.map_congr_left λj hj=>?_;have U:=List.mem_range.1 hi;have K:=List.mem_range.1 hj;have hlt:i*n+j<cT cs*n:=by
  have:(i+1)*n<=cT cs*n:=Cpz _ U;rw[Fkz] at this;omega
 show bP (cs++[n]) (i*n+j)=bP cs i++[j];have hn:0<n:=by omega
 rw[KF n cs _ hlt];rw[show i*n+j=j+n*i by rw[Flz,Nat.add_comm],Fmz _ _ hn,Nat.div_eq_of_lt K,Adz,Fnz,Foz K]
theorem Bj:∀ {cs:List Nat},(∀ c∈cs,0<c)->0<cT cs
 | [],_=>Nat.one_pos
 | c::cs,h=>Nat.mul_pos (h c Ckz) (Bj λx hx=>h x (Buz _ hx))
theorem LO:∀ {cs:List Nat},0∈cs->cT cs=0
 | c::cs,h=>by
  rw[cT];rcases List.mem_cons.1 h with e|e;rw[← e,Nat.zero_mul];rw[LO e,Nat.mul_zero]
theorem JR {b:Nat}:∀ {cs:List Nat},(∀ c∈cs,c<=b)->cT cs<=b ^ cs.length
 | [],_=>Acz _
 | c::cs,h=>by
  rw[cT,bE,Nat.pow_succ,Flz];exact Nat.mul_le_mul (JR λx hx=>h x (Buz _ hx)) (h c Ckz)
theorem AD:∀ {cs:List Nat} {n:Nat},n<cT cs->∀ (i d c:Nat),(bP cs n)[i]?=some d->cs[i]?=some c->d<c
 | [],n,h,i,d,c,U,K=>by rw[List.getElem?_nil] at K;cases K
 | x::cs,n,h,0,d,c,U,K=>by
  cases U;cases K;rw[cT] at h;have hP:0<cT cs:=Fhz λe=>by rw[e] at h;omega
  exact (Fjz hP).2 h
 | x::cs,n,h,i+1,d,c,U,K=>by
  rw[cT] at h;have hP:0<cT cs:=Fhz λe=>by rw[e] at h;omega
  exact AD (Fiz _ hP) i d c U K
end Go.Proofs.YtodhafdaelcnlaaGreat
set_option maxRecDepth 100000
set_option maxHeartbeats 4000000
namespace Go.Proofs.YtodhafdaelcnlaaGreat
open Go Go.E
def DW:au:=⟨0,[]⟩
def bc (g:al)(n:ar):Nat:=(fS g n).getD 0
def aM (g:al)(A:List (List au)):Prop:=A.length=g.ss_.length/\∀ (k:Nat) (y:ah) (L:List au),g.ss_[k]?=some y->A[k]?=some L->L.Nodup/\∀ a∈L,kF (bJ g y.Name) a
def dK (g:al)(A:List (List au))(n:ar):List au:=A.getD (bc g n) []
theorem Bi {g:al}{n:ar}(hn:(bM g n).2=true):∃ y,eh g n=(bc g n:Int)/\g.ss_[bc g n]?=some y/\y.Name=n:=by
 obtain⟨j,y,U,K,h3,h4⟩:=KG hn;have e:bc g n=j:=by unfold bc;rw[U];rfl
 refine⟨y,?_,by rw[e];exact K,h4⟩;unfold eh;rw[U,e]
theorem aM.at_ {g:al}{A:List (List au)}(h:aM g A){n:ar}(hn:(bM g n).2=true):eh g n=(bc g n:Int)/\bc g n<A.length/\A[bc g n]?=some (dK g A n)/\(dK g A n).Nodup/\∀ a∈dK g A n,kF (bJ g n) a:=by
 obtain⟨y,U,K,h3⟩:=Bi hn;have hj:=(List.getElem?_eq_some_iff.1 K).1;have e:A[bc g n]?=some (dK g A n):=by
  unfold dK;rw[Cwz,Cmz (by rw[h.1];exact hj)];rfl
 have:=h.2 _ y _ K e;rw[h3] at this;exact⟨U,by rw[h.1];exact hj,e,this⟩
theorem aM.le {g:al}(hS:Shape g){A:List (List au)}(h:aM g A){n:ar}(hn:(bM g n).2=true):(dK g A n).length<=16:=
 yg (hS.plain n) (h.at_ hn).2.2.2.1 (h.at_ hn).2.2.2.2
def bA (g:al)(r:ae)(A:List (List au)):List Nat:=r.rt_.map λn=>(dK g A n).length
def eN (g:al)(r:ae)(A:List (List au))(c:List Nat):List au:=(r.rt_.zip c).map λp=>(dK g A p.1).getD p.2 DW
def iL (l:List Nat):List Int:=l.map (λn:Nat=>((n:Nat):Int))
def Ch (g:al)(r:ae)(A:List (List au))(c:List Nat):Prop:=c.length=r.rt_.length/\∀ (i:Nat) (n:ar) (d:Nat),r.rt_[i]?=some n->c[i]?=some d->d<(dK g A n).length
theorem wm {g:al}{r:ae}{A:List (List au)}{c:List Nat}(h:c∈dn (bA g r A)):Ch g r A c:=by
 unfold dn at h;obtain⟨m,hm,rfl⟩:=List.mem_map.1 h;refine⟨by rw[wM];unfold bA;rw[bh],λi n d U K=>?_⟩;refine AD (List.mem_range.1 hm) i d _ K ?_;unfold bA;rw[Czz,U];rfl
theorem ta {g:al}{r:ae}{A:List (List au)}{c:List Nat}(h:Ch g r A c):(eN g r A c).length=r.rt_.length:=by
 unfold eN;rw[bh,List.length_zip,h.1,Nat.min_self]
theorem ES {g:al}{r:ae}{A:List (List au)}{c:List Nat}(h:Ch g r A c){i:Nat}{n:ar}{d:Nat}(U:r.rt_[i]?=some n)(K:c[i]?=some d) :
  ∃ own,(eN g r A c)[i]?=some own/\(dK g A n)[d]?=some own:=by
 have hd:=h.2 i n d U K;refine⟨(dK g A n)[d],?_,Cmz hd⟩;unfold eN;have hz:(r.rt_.zip c)[i]?=some (n,d):=List.getElem?_zip_eq_some.2 ⟨U,K⟩;rw[Czz,hz];simp only[Byz];rw[Cwz,Cmz hd];rfl
theorem xo {g:al}(hS:Shape g){r:ae}(Z:r∈g.rs_){A:List (List au)}(hA:aM g A){c:List Nat}(h:Ch g r A c):kl g r (eN g r A c):=by
 refine⟨ta h,λk own hk=>?_⟩;have hlt:=(List.getElem?_eq_some_iff.1 hk).1;rw[ta h] at hlt;obtain⟨n,hn⟩:∃ n,r.rt_[k]?=some n:=⟨_,Cmz hlt⟩
 obtain⟨d,hd⟩:∃ d,c[k]?=some d:=⟨_,Cmz (by rw[h.1];exact hlt)⟩
 obtain⟨own',U,K⟩:=ES h hn hd;rw[hk] at U;cases U;have:=(hA.at_ (hS.right Z (Bvz hn))).2.2.2.2 own (Bvz K);rw[oA hn];exact⟨this.1,this.2.1⟩
noncomputable def ei (g:al) (r:ae) (A:List (List au)) (c:List Nat):au:=cw g r (eP g r (eN g r A c))
theorem qR {g:al}(h0:Sz.szd g<=1048576)(hS:Shape g)(r:ae)(x:au):kF (bJ g r.Left) (cw g r x):=by
 obtain⟨s,U,K⟩:=Wy (gJ h0) (r:=r) (by have:=hS.plain r.Left;omega) x;unfold cw;rw[U];exact K
noncomputable def stA (w:Nat) (s:au) (q:List (List au)×Bool):List (List au)×Bool:=if s∈q.1.getD w [] then q else (q.1.set w (q.1.getD w []++[s]),true)
def bO (A B:List (List au)):Prop:=B.length=A.length/\∀ (k:Nat) (L:List au),A[k]?=some L->∃ t,B[k]?=some (L++t)
theorem bO.rfl' (A:List (List au)):bO A A:=⟨rfl,λk L h=>⟨[],by rw[Cgz];exact h⟩⟩
def eB (A:List (List au)):Nat:=(A.map (·.length)).sum
theorem Ew:∀ (A:List (List au)) (k:Nat) (x a:List au),A[k]?=some a->eB (A.set k x)+a.length=eB A+x.length
 | [],k,x,a,h=>by simp at h
 | b::A,0,x,a,h=>by simp at h;subst h;unfold eB;simp;omega
 | b::A,k+1,x,a,h=>by
  have ih:=Ew A k x a (by simpa using h);unfold eB at ih ⊢;simp only[List.set_cons_succ,Blz,List.sum_cons];omega
theorem aM.bound {g:al}(hS:Shape g){A:List (List au)}(h:aM g A):eB A<=g.ss_.length*16:=by
 have key:∀ l:List (List au),(∀ a∈l,a.length<=16)->eB l<=l.length*16:=by
  intro l
  induction l with
  | nil=>intro _;simp[eB]
  | cons a l ih=>
   intro hv;have U:=hv a (by simp);have K:=ih λb Y=>hv b (by simp[Y]);unfold eB at K ⊢;simp only[Blz,List.sum_cons,bE];omega
 rw[← h.1];refine key A λL hL=>?_;obtain⟨k,hk⟩:=Ekz hL;have hlt:=(List.getElem?_eq_some_iff.1 hk).1;obtain⟨y,hy⟩:∃ y,g.ss_[k]?=some y:=⟨_,Cmz (by rw[← h.1];exact hlt)⟩
 exact yg (hS.plain y.Name) (h.2 k y L hy hk).1 (h.2 k y L hy hk).2
structure Mv (g:al) (A:List (List au)) (q q' : List (List au)×Bool):Prop where
 inv:aM g q'.1
 ext:bO A q'.1
 le:eB q.1<=eB q'.1
 up:q'.2=true->q.2=true∨eB q.1<eB q'.1
 no:q'.2=false->q'=q
theorem Mv.refl {g:al}{A:List (List au)}{q:List (List au)×Bool}(h:aM g q.1)(he:bO A q.1):Mv g A q q:=⟨h,he,Acz _,λh=>.inl h,λ_=>rfl⟩
theorem Mv.trans {g:al}{A:List (List au)}{p q s:List (List au)×Bool}(U:Mv g A p q)(K:Mv g A q s):Mv g A p s:=
 ⟨K.inv,K.ext,Bgz U.le K.le,λh=>by
  rcases K.up h with h|h;rcases U.up h with h|h;exact .inl h;exact .inr (Nat.lt_of_lt_of_le h K.le);exact .inr (Nat.lt_of_le_of_lt U.le h),λh=>by
  have e:=K.no h;rw[e] at h ⊢;exact U.no h⟩
theorem wk {g:al}(hS:Shape g){r:ae}(Z:r∈g.rs_){A:List (List au)}{q:List (List au)×Bool}(h:aM g q.1)(he:bO A q.1){s:au}(hs:kF (bJ g r.Left) s):Mv g A q (stA (bc g r.Left) s q):=by
 unfold stA;have hk:=hS.left Z;obtain⟨U,K,h3,h4,h5⟩:=h.at_ hk;have hg:q.1.getD (bc g r.Left) []=dK g q.1 r.Left:=rfl;rw[hg];by_cases hm:s∈dK g q.1 r.Left;rw[ao hm];exact .refl h he;rw[an hm];have ht:=Ew q.1 (bc g r.Left) (dK g q.1 r.Left++[s]) _ h3;rw[Axz,List.length_singleton] at ht;refine⟨⟨by rw[List.length_set];exact h.1,λk y L hy hL=>?_⟩,⟨by rw[List.length_set];exact he.1,λk L hL=>?_⟩,by dsimp only;omega,λ_=>.inr (by dsimp only;omega),λh=>by cases h⟩;dsimp only at hL;by_cases e:bc g r.Left=k;subst e;rw[Eyz K] at hL;cases hL;obtain⟨y',_,h7,h8⟩:=Bi hk;rw[hy] at h7;cases h7;rw[h8];refine⟨List.nodup_append.2 ⟨h4,by simp,λa ha b Y e=>?_⟩,λa ha=>?_⟩;rw[Bpz] at Y;subst Y;subst e;exact hm ha;rcases List.mem_append.1 ha with ha|ha;exact h5 a ha;rw[Bpz] at ha;subst ha;exact hs;rw[Ezz e] at hL;exact h.2 k y L hy hL;obtain⟨t,e2⟩:=he.2 k L hL;by_cases e:bc g r.Left=k;subst e;rw[h3] at e2;refine⟨t++[s],?_⟩;dsimp only;rw[Eyz K,Option.some.inj e2,Azz];exact⟨t,by dsimp only;rw[Ezz e];exact e2⟩
theorem Mv.fold {α:Type}{g:al}{A:List (List au)}{f:List (List au)×Bool->α->List (List au)×Bool}:∀ (l:List α) (q:List (List au)×Bool),aM g q.1->bO A q.1->(∀ q x,x∈l->aM g q.1->bO A q.1->Mv g A q (f q x))->Mv g A q (l.foldl f q)
 | [],q,h,he,_=>.refl h he
 | x::l,q,h,he,hf=>by
  have U:=hf q x (by simp) h he;exact U.trans (Mv.fold l _ U.inv U.ext λq y hy=>hf q y (by simp[hy]))
noncomputable def fG (g:al) (A:List (List au)) (q:List (List au)×Bool) (r:ae):List (List au)×Bool:=(dn (bA g r A)).foldl (λq c=>stA (bc g r.Left) (ei g r A c) q) q
theorem wE {g:al}(h0:Sz.szd g<=1048576)(hS:Shape g){r:ae}(Z:r∈g.rs_){A:List (List au)}{q:List (List au)×Bool}(h:aM g q.1)(he:bO A q.1):Mv g A q (fG g A q r):=
 Mv.fold _ q h he λq c _ h he=>wk hS Z h he (qR h0 hS r _)
theorem kK (l:List Nat)(i:Nat):(iL l)[i]?=(l[i]?).map λn:Nat=>(n:Int):=by unfold iL;rw[Czz]
theorem jH (l:List Nat):(iL l).length=l.length:=by unfold iL;rw[bh]
theorem PR (l m:List Nat):iL (l++m)=iL l++iL m:=by unfold iL;rw[Diz]
theorem PQ (l:List Nat)(i x:Nat):(iL l).set i (x:Int)=iL (l.set i x):=by unfold iL;rw[List.map_set]
theorem LN:∀ (m:Nat) (cs ds e:List Nat),ds.length=cs.length->ka (cs.drop m) (ds.drop m)=some e->ka cs ds=some (ds.take m++e)
 | 0,cs,ds,e,_,h=>by simpa using h
 | m+1,[],ds,e,hl,h=>by rw[List.drop_nil] at h;simp[ka] at h
 | m+1,c::cs,[],e,hl,h=>by simp at hl
 | m+1,c::cs,d::ds,e,hl,h=>by
  rw[ka,LN m cs ds e (by simpa using hl) (by simpa using h)];rfl
def sF (cs ds:List Nat)(q:Int×List Int):Prop:=match ka cs ds with
 | none=>q.1<0
 | some e=>0<=q.1/\∃ x:Nat,q.2[q.1.toNat]?=some (x:Int)/\x<=1048576/\q.2.set q.1.toNat ((x+1:Nat):Int)=iL e
theorem KE {cs ds:List Nat}{f:(Int×List Int)->Option ((Int×List Int) ⊕ (Int×List Int))}(hf:f=sA (iL cs))(hl:ds.length=cs.length)(hd:∀ (i d c:Nat),ds[i]?=some d->cs[i]?=some c->d<c/\c<=1048576)(hn:cs.length<=1048576) :
  ∀ m:Nat,m<=cs.length->ka (cs.drop m) (ds.drop m)=none->∃ q,bK f ((m:Int)-1,iL (ds.take m++Bqz (cs.length-m) 0))=some q/\sF cs ds q
 | 0,_,h=>by
  refine⟨_,c9 (r:=_) (by rw[hf];unfold sA;dsimp only;rw[an (by omega)]),?_⟩;unfold sF;rw[Faz,Faz] at h;rw[h];show (0:Int)-1<0;omega
 | m+1,hm,h=>by
  have hm1:m<cs.length:=hm;have hm2:m<ds.length:=by omega
  obtain⟨c,hc⟩:∃ c,cs[m]?=some c:=⟨_,Cmz hm1⟩
  obtain⟨d,hdd⟩:∃ d,ds[m]?=some d:=⟨_,Cmz hm2⟩
  obtain⟨U,K⟩:=hd m d c hdd hc;have ed:ds.drop m=d::ds.drop (m+1):=by rw[Csz hm2];rw[Cmz hm2] at hdd;rw[Option.some.inj hdd]
  have ec:cs.drop m=c::cs.drop (m+1):=by rw[Csz hm1];rw[Cmz hm1] at hc;rw[Option.some.inj hc]
  have et:ds.take (m+1)=ds.take m++[d]:=by rw[Dvz,hdd];rfl
  have hlen:(ds.take m).length=m:=by rw[Brz];omega
  have hg:(iL (ds.take (m+1)++Bqz (cs.length-(m+1)) 0))[m]?=some (d:Int):=by
   rw[kK,et,Azz,List.getElem?_append_right (by omega),hlen,Fpz];rfl
  have hset:∀ x:Nat,(iL (ds.take (m+1)++Bqz (cs.length-(m+1)) 0)).set m (x:Int)=iL (ds.take m++x::Bqz (cs.length-(m+1)) 0):=λx=>by
   rw[PQ,et,Azz,List.set_append_right _ _ (by omega),hlen,Fpz];rfl
  have hN:(((m+1:Nat):Int)-1)=(m:Int):=by omega
  by_cases e:d=c-1;have hs:f (((m+1:Nat):Int)-1,iL (ds.take (m+1)++Bqz (cs.length-(m+1)) 0))=some (.inl ((m:Int)-1,iL (ds.take m++Bqz (cs.length-m) 0))):=by
   rw[hf];unfold sA;dsimp only;rw[hN,ao (by omega),aF (by omega),b7,hg,aj,aF (by omega),kK,hc,Byz,aj,aF ⟨by omega,by omega⟩,ao (by omega),aF ⟨by omega,by omega⟩];have:=hset 0;rw[show ((0:Nat):Int)=0 from rfl] at this;rw[this,show cs.length-m=(cs.length-(m+1))+1 by omega,Dez]
  rw[eS hs];refine KE hf hl hd hn m (by omega) ?_;rw[ec,ed,ka,h];dsimp only;rw[an (by omega)];refine⟨_,c9 (r:=_) (by
   rw[hf];unfold sA;dsimp only;rw[hN,ao (by omega),aF (by omega),b7,hg,aj,aF (by omega),kK,hc,Byz,aj,aF ⟨by omega,by omega⟩,an (by omega)]),?_⟩
  have hx:ka cs ds=some (ds.take m++(d+1)::Bqz (cs.length-(m+1)) 0):=by
   refine LN m cs ds _ hl ?_;rw[ec,ed,ka,h];dsimp only;rw[ao (by omega),List.length_drop]
  unfold sF;rw[hx];dsimp only;refine⟨by omega,d,?_,by omega,?_⟩;rw[b7];exact hg;rw[b7];exact hset (d+1)
theorem Np {cs ds:List Nat}{f:(Int×List Int)->Option ((Int×List Int) ⊕ (Int×List Int))}(hf:f=sA (iL cs))(hl:ds.length=cs.length)(hd:∀ (i d c:Nat),ds[i]?=some d->cs[i]?=some c->d<c/\c<=1048576)(hn:cs.length<=1048576) :
  ∃ q,bK f (((iL cs).length:Int)-1,iL ds)=some q/\sF cs ds q:=by
 have:=KE hf hl hd hn cs.length (Acz _) (by rw[List.drop_length,ka];intro a b c d h;simp at h);rw[Fpz,List.replicate_zero,Cgz,← hl,Fbz] at this;rw[jH,← hl];exact this
def aN (F:List (List aB)):List (List au):=F.map λl=>l.map aB.sy_
theorem kt (F:List (List aB))(k:Nat):(aN F)[k]?=(F[k]?).map λl=>l.map aB.sy_:=by unfold aN;rw[Czz]
theorem KD (l:List Int)(h:l.length<=1048576):qn l=some l:=by
 unfold qn;rw[aF (by rw[Dyz];constructor<;>omega)]
theorem JA (fs:List aB)(s:au):wa fs s=some (decide (s∈fs.map aB.sy_)):=by
 unfold wa zB;rw[pG (q:=λf:aB=>decide (f.sy_=s)) (c:=λk=>(k:Int)) λj x hx=>by
  unfold H9 yM;rw[wN,aj,aj,← apply_ite some]]
 cases e:fs.findIdx? λf=>decide (f.sy_=s) with
 | none=>
  rw[Fcz] at e;have:¬ s∈fs.map aB.sy_:=λh=>by
   obtain⟨f,U,K⟩:=List.mem_map.1 h;have:=e f U;simp[K] at this
  rw[decide_eq_false this];rfl
 | some j=>
  rw[Epz] at e;obtain⟨hj,U,K⟩:=e;have:s∈fs.map aB.sy_:=List.mem_map.2 ⟨fs[j],List.getElem_mem hj,of_decide_eq_true U⟩;rw[decide_eq_true this];dsimp only;simp only[aj,rq];rw[decide_eq_true (by omega)]
theorem Tj {g:al}(h0:Sz.szd g<=1048576)(hS:Shape g){r:ae}(Z:r∈g.rs_){F:List (List aB)}{b:Bool}(hi:aM g (aN F)){c:List Int}(hc:c.length<=1048576)(x:au) :
  ∃ F',p9 c x g F b r (eh g r.Left)=some (true,F',(stA (bc g r.Left) (cw g r x) (aN F,b)).2)/\aN F'=(stA (bc g r.Left) (cw g r x) (aN F,b)).1:=by
 obtain⟨U,K,h3,h4,h5⟩:=hi.at_ (hS.left Z);have hle:=hi.le hS (hS.left Z);have hw:bc g r.Left<F.length:=by unfold aN at K;rwa[bh] at K
 obtain⟨fs,hf⟩:∃ fs,F[bc g r.Left]?=some fs:=⟨_,Cmz hw⟩
 have hm:dK g (aN F) r.Left=fs.map aB.sy_:=by
  rw[kt,hf] at h3;exact (Option.some.inj h3).symm
 have hgd:(aN F).getD (bc g r.Left) []=fs.map aB.sy_:=hm;rw[hm,bh] at hle;unfold p9 stA;dsimp only;rw[hgd,(sR (gJ h0) (by have:=gu hS Z;show r.rt_.length<=1048576;omega) x).2,aj,U,aF (by omega),b7,hf,aj,JA,aj];by_cases hs:cw g r x∈fs.map aB.sy_;rw[ao (decide_eq_true hs),ao hs];exact⟨F,rfl,rfl⟩;rw[decide_eq_false hs,an Fqz,an hs,KD c hc,aj,aF (by constructor<;>omega)];refine⟨_,rfl,?_⟩;unfold aN;rw[List.map_set,Diz];rfl
theorem KC {g:al}(hS:Shape g){r:ae}(Z:r∈g.rs_){A:List (List au)}(hA:aM g A){F:List (List aB)}(he:bO A (aN F)){c:List Nat}(h:Ch g r A c) :
  eachL (zG F (iL (r.rt_.map (bc g)))) 0 (iL c) []=some (eN g r A c):=by
 have h3:=gu hS Z;obtain⟨s',e,hp⟩:=jT (P:=λk s=>s=(eN g r A c).take k) (f:=zG F (iL (r.rt_.map (bc g)))) (xs:=iL c) (i:=0) (s:=[]) (by rw[Fdz]) λk x s hx hs=>by
  rw[Adz] at hs ⊢;rw[kK] at hx;cases hd:c[k]? with
  | none=>rw[hd] at hx;cases hx
  | some d=>
   rw[hd] at hx;cases hx;have hlt:=(List.getElem?_eq_some_iff.1 hd).1;rw[h.1] at hlt;obtain⟨n,hn⟩:∃ n,r.rt_[k]?=some n:=⟨_,Cmz hlt⟩
   obtain⟨own,U,K⟩:=ES h hn hd;obtain⟨t,ht⟩:=he.2 _ _ (hA.at_ (hS.right Z (Bvz hn))).2.2.1;rw[kt] at ht;cases hf:F[bc g n]? with
   | none=>rw[hf] at ht;cases ht
   | some fs=>
    rw[hf] at ht;have ht:fs.map aB.sy_=dK g A n++t:=Option.some.inj ht;have hd2:=h.2 k n d hn hd;have hfd:(fs.map aB.sy_)[d]?=some own:=by rw[ht,List.getElem?_append_left hd2];exact K
    rw[Czz] at hfd;cases hq:fs[d]? with
    | none=>rw[hq] at hfd;cases hfd
    | some q=>
     rw[hq] at hfd;have hfd:=Option.some.inj hfd;have hsl:s.length<=3:=by rw[hs,Brz,ta h];omega
     refine⟨s++[own],?_,?_⟩;unfold zG;rw[kK,Czz,hn];simp only[Byz,aj];rw[aF (by omega),b7,hf,aj,aF (by omega),b7,hq,aj,aF (by constructor<;>omega),hfd];rw[hs,Dvz,U];rfl
 rw[e,hp,jH,Adz,h.1,← ta h,Fbz]
theorem XO {g:al}(h0:Sz.szd g<=1048576)(hS:Shape g){r:ae}(Z:r∈g.rs_){A:List (List au)}(hA:aM g A){F:List (List aB)}{b:Bool}(hi:aM g (aN F))(he:bO A (aN F)){c:List Nat}(h:Ch g r A c) :
  ∃ F',qC (iL c) g F b r (eh g r.Left) g r F (iL (r.rt_.map (bc g)))=some (true,F',(stA (bc g r.Left) (ei g r A c) (aN F,b)).2,F')/\aN F'=(stA (bc g r.Left) (ei g r A c) (aN F,b)).1:=by
 have h3:=gu hS Z;obtain⟨_,e2,_⟩:=AR h0 (Bgz (ib Z) h0) (xo hS Z hA h);obtain⟨F',e,hF⟩:=Tj h0 hS Z (b:=b) hi (c:=iL c) (by rw[jH,h.1];omega) (eP g r (eN g r A c));refine⟨F',?_,hF⟩;unfold qC;rw[KC hS Z hA he h,aj,e2,aj,e];rfl
theorem D8 {g:al}(hS:Shape g){r:ae}(Z:r∈g.rs_){A:List (List au)}(hA:aM g A):∀ c∈bA g r A,c<=16:=λc hc=>by
 obtain⟨n,U,rfl⟩:=List.mem_map.1 hc;exact hA.le hS (hS.right Z U)
theorem nZ (g:al)(r:ae)(A:List (List au)):(bA g r A).length=r.rt_.length:=by unfold bA;rw[bh]
theorem I0 {g:al}{r:ae}{A:List (List au)}{n:Nat}(h:n<cT (bA g r A)):Ch g r A (bP (bA g r A) n):=wm (List.mem_map.2 ⟨n,List.mem_range.2 h,rfl⟩)
theorem KB {g:al}(h0:Sz.szd g<=1048576)(hS:Shape g){r:ae}(Z:r∈g.rs_){A:List (List au)}(hA:aM g A) :
  ∀ (d n:Nat) (F:List (List aB)) (b:Bool),n<cT (bA g r A)->cT (bA g r A)-n=d->aM g (aN F)->bO A (aN F) ->
   ∃ F' b',bK (nG (iL (bA g r A)) g r (eh g r.Left) g r (iL (r.rt_.map (bc g)))) (iL (bP (bA g r A) n),F,b)=some (.inr (F',b',F')) /\
    (aN F',b')=((dn (bA g r A)).drop n).foldl (λq c=>stA (bc g r.Left) (ei g r A c) q) (aN F,b)
 | 0,n,F,b,hn,hd,hi,he=>by omega
 | d+1,n,F,b,hn,hd,hi,he=>by
  have hch:=I0 hn;obtain⟨F1,e1,hF1⟩:=XO h0 hS Z hA (b:=b) hi he hch;have mv:=wk (A:=A) hS Z (q:=(aN F,b)) hi he (qR h0 hS r (eP g r (eN g r A (bP (bA g r A) n))));have h3:=gu hS Z;have hcl:=nZ g r A;obtain⟨q,e2,hq⟩:=Np (cs:=bA g r A) (ds:=bP (bA g r A) n) rfl (wM _ _) (λi d c U K=>⟨AD hn i d c U K,by have:=D8 hS Z hA c (Bvz K);omega⟩) (by omega);obtain⟨q1,q2⟩:=q;have hdrop:(dn (bA g r A)).drop n=bP (bA g r A) n::(dn (bA g r A)).drop (n+1):=by
   have hl:n<(dn (bA g r A)).length:=by unfold dn;rw[bh,Fez];exact hn
   have hg:(dn (bA g r A))[n]?=some (bP (bA g r A) n):=by
    unfold dn;rw[Czz,List.getElem?_range hn];rfl
   rw[Cmz hl] at hg;rw[Csz hl,Option.some.inj hg]
  rw[hdrop,Ffz];have e3:(aN F1,(stA (bc g r.Left) (ei g r A (bP (bA g r A) n)) (aN F,b)).2)=stA (bc g r.Left) (ei g r A (bP (bA g r A) n)) (aN F,b):=by rw[hF1]
  rw[← e3];have hi1:aM g (aN F1):=by rw[hF1];exact mv.inv
  have he1:bO A (aN F1):=by rw[hF1];exact mv.ext
  unfold sF at hq;rw[ET _ _ hn] at hq;by_cases hlast:n+1<cT (bA g r A);rw[ao hlast] at hq;obtain⟨k0,x,hx,hxl,hset⟩:=hq;dsimp only at k0 hx hset;have hs:nG (iL (bA g r A)) g r (eh g r.Left) g r (iL (r.rt_.map (bc g))) (iL (bP (bA g r A) n),F,b)=some (.inl (iL (bP (bA g r A) (n+1)),F1,(stA (bc g r.Left) (ei g r A (bP (bA g r A) n)) (aN F,b)).2)):=by
   unfold nG;dsimp only;rw[e1,aj];dsimp only;rw[ao rfl,e2,aj];dsimp only;rw[an (by omega),aF k0,hx,aj,aF ⟨by omega,by omega⟩,← hset];rfl
  rw[eS hs];exact KB h0 hS Z hA d (n+1) F1 _ hlast (by omega) hi1 he1;rw[an hlast] at hq;dsimp only at hq;refine⟨F1,_,c9 (by
   unfold nG;dsimp only;rw[e1,aj];dsimp only;rw[ao rfl,e2,aj];dsimp only;rw[ao hq]),?_⟩
  have:(dn (bA g r A)).drop (n+1)=[]:=List.drop_eq_nil_of_le (by unfold dn;rw[bh,Fez];omega);rw[this];rfl
theorem Oi (l:List Nat):vW (iL l) 0=some (decide (0∈l)):=by
 unfold vW zo;rw[pG (q:=λx:Int=>decide (x=0)) (c:=λk=>(k:Int)) λj x hx=>by
  unfold HH;by_cases h:x=0;rw[ao h.symm,ao (decide_eq_true h)];rw[an (λe=>h e.symm),an (by simpa using h)]]
 cases e:(iL l).findIdx? λx=>decide (x=0) with
 | none=>
  rw[Fcz] at e;have:¬ 0∈l:=λh=>by
   have:=e 0 (List.mem_map.2 ⟨0,h,rfl⟩);simp at this
  rw[decide_eq_false this];rfl
 | some j=>
  rw[Epz] at e;obtain⟨hj,U,K⟩:=e;have h3:(iL l)[j]=0:=of_decide_eq_true U;have:(0:Nat)∈l:=by
   have h4:(iL l)[j]?=some 0:=by rw[Cmz hj,h3]
   rw[kK] at h4;cases h5:l[j]? with
   | none=>rw[h5] at h4;cases h4
   | some n=>
    rw[h5] at h4;have h4:(n:Int)=0:=Option.some.inj h4;have:n=0:=by omega
    subst this;exact Bvz h5
  rw[decide_eq_true this];simp only[aj,rq];rw[decide_eq_true (by omega)]
theorem Jz {cs:List Nat}(h:0∈cs):dn cs=[]:=by unfold dn;rw[LO h];rfl
theorem Ti {g:al}(h0:Sz.szd g<=1048576)(hS:Shape g){r:ae}(Z:r∈g.rs_){A:List (List au)}(hA:aM g A){F:List (List aB)}(b:Bool)(hi:aM g (aN F))(he:bO A (aN F)) :
  ∃ F' b',qA (iL (bA g r A)) g F b r (eh g r.Left) g r F (iL (r.rt_.map (bc g)))=some (F',b',F')/\(aN F',b')=fG g A (aN F,b) r:=by
 unfold qA fG;rw[Oi,aj];have h3:=gu hS Z;have hcl:=nZ g r A;by_cases hz:0∈bA g r A;rw[ao (decide_eq_true hz),Jz hz];exact⟨F,b,rfl,rfl⟩;rw[decide_eq_false hz,an Fqz,jH,aF (by refine⟨?_,?_,?_⟩<;>omega)];have hp:0<cT (bA g r A):=Bj λc hc=>Fhz λe=>hz (e▸hc);obtain⟨F',b',e,hF⟩:=KB h0 hS Z hA _ 0 F b hp rfl hi he;rw[Bl,show iL (Bqz (bA g r A).length 0)=Bqz (bA g r A).length (0:Int) by unfold iL;rw[Dhz];rfl] at e;rw[e];rw[Faz] at hF;exact⟨F',b',rfl,hF⟩
theorem YH {F:List (List aB)}(h:F.length<=1048576):eachL BY 0 F ([]:List Int)=some (F.map λl:List aB=>(l.length:Int)):=by
 rw[oh (g:=λl:List aB=>(l.length:Int)) (B:=1048576) F 0 [] (λk x s hx hs=>by
  unfold BY;rw[aF (by constructor<;>omega)]) (by rw[Dyz];omega),Ecz]
theorem YG (F:List (List aB)):(F.map λl:List aB=>(l.length:Int))=iL ((aN F).map (·.length)):=by
 induction F with
 | nil=>rfl
 | cons l F ih=>
  unfold iL aN at ih ⊢;simp only[Blz,bh] at ih ⊢;rw[ih]
theorem No {F:List (List aB)}(h:F.length<=1048576):ug F=some (iL ((aN F).map (·.length))):=by
 unfold ug;rw[YH h,YG];rfl
theorem xd {l:List Int}(h:l.length<=3):((l.length:Int)+1)*8<=140737488355328/\(l.length:Int)+1<=9223372036854775807:=by constructor<;>omega
theorem NH {g:al}(hS:Shape g){r:ae}(Z:r∈g.rs_){A:List (List au)}(hA:aM g A){k:Nat}{n:ar}(hn:r.rt_[k]?=some n) :
  vY g (iL (A.map (·.length))) k n ((iL (bA g r A)).take k,(iL (r.rt_.map (bc g))).take k)=some ((iL (bA g r A)).take (k+1),(iL (r.rt_.map (bc g))).take (k+1)):=by
 have h3:=gu hS Z;have hlt:=(List.getElem?_eq_some_iff.1 hn).1;obtain⟨k1,k2,k3,_,_⟩:=hA.at_ (hS.right Z (Bvz hn));have e1:(iL (bA g r A)).take (k+1)=(iL (bA g r A)).take k++[((dK g A n).length:Int)]:=by
  rw[Dvz,kK];unfold bA;rw[Czz,hn];rfl
 have e2:(iL (r.rt_.map (bc g))).take (k+1)=(iL (r.rt_.map (bc g))).take k++[(bc g n:Int)]:=by
  rw[Dvz,kK,Czz,hn];rfl
 have b1:((iL (bA g r A)).take k).length<=3:=Bgz (Fgz _ _) (by omega);have b2:((iL (r.rt_.map (bc g))).take k).length<=3:=Bgz (Fgz _ _) (by omega);have hx:(iL (A.map (·.length)))[bc g n]?=some ((dK g A n).length:Int):=by rw[kK,Czz,k3];rfl
 rw[e1,e2];generalize (iL (bA g r A)).take k=s1 at b1;generalize (iL (r.rt_.map (bc g))).take k=s2 at b2;generalize iL (A.map (·.length))=cc at hx;unfold vY;dsimp only;rw[py,aj,k1,aF (by omega),b7,hx,aj,aF (xd b1),aF (xd b2)]
theorem V4 {g:al}(h0:Sz.szd g<=1048576)(hS:Shape g){r:ae}(Z:r∈g.rs_){A:List (List au)}(hA:aM g A){F:List (List aB)}(b:Bool)(hi:aM g (aN F))(he:bO A (aN F)) :
  ∃ F' b',qB g r F (iL (A.map (·.length))) g F b r (eh g r.Left)=some (F',b')/\(aN F',b')=fG g A (aN F,b) r:=by
 have h3:=gu hS Z;obtain⟨F',b',e,hF⟩:=Ti h0 hS Z hA b hi he;refine⟨F',b',?_,hF⟩;unfold qB;obtain⟨s',e2,hp⟩:=jT (P:=λk (s:List Int×List Int)=>s=((iL (bA g r A)).take k,(iL (r.rt_.map (bc g))).take k)) (f:=vY g (iL (A.map (·.length)))) (xs:=r.rt_) (i:=0) (s:=([],[])) (by rw[Fdz,Fdz]) λk n s hn hs=>by
  rw[Adz] at hs ⊢;rw[hs];exact⟨_,NH hS Z hA hn,rfl⟩
 rw[Adz] at hp;rw[e2,hp,Biz (by rw[jH,nZ];omega),Biz (by rw[jH,bh];omega),aj];dsimp only;rw[e];rfl
theorem KA {g:al}(h0:Sz.szd g<=1048576)(hS:Shape g){A:List (List au)}(hA:aM g A):∀ (rs:List ae) (i:Nat) (F:List (List aB)) (b:Bool),(∀ r∈rs,r∈g.rs_)->aM g (aN F)->bO A (aN F) ->
  ∃ F' b',eachL (pX g (iL (A.map (·.length)))) i rs (F,b)=some (F',b')/\(aN F',b')=rs.foldl (fG g A) (aN F,b)
 | [],i,F,b,_,hi,he=>⟨F,b,rfl,rfl⟩
 | r::rs,i,F,b,hrs,hi,he=>by
  have Z:=hrs r (by simp);obtain⟨F1,b1,e1,hF1⟩:=V4 h0 hS Z hA b hi he;have mv:=wE h0 hS Z (q:=(aN F,b)) hi he;rw[← hF1] at mv;obtain⟨F2,b2,e2,hF2⟩:=KA h0 hS hA rs (i+1) F1 b1 (λx hx=>hrs x (by simp[hx])) mv.inv mv.ext;refine⟨F2,b2,?_,by rw[Ffz,← hF1];exact hF2⟩;rw[eachL,show pX g (iL (A.map (·.length))) i r (F,b)=some (F1,b1) by
   unfold pX;dsimp only;rw[py,aj,e1];rfl,aj]
  exact e2
noncomputable def iF (g:al) (A:List (List au)):List (List au)×Bool:=g.rs_.foldl (fG g A) (A,false)
theorem tq {g:al}(h0:Sz.szd g<=1048576)(hS:Shape g){A:List (List au)}(hA:aM g A):Mv g A (A,false) (iF g A):=
 Mv.fold _ _ hA (.rfl' A) λq r Z h he=>wE h0 hS Z h he
theorem LK {g:al}(h0:Sz.szd g<=1048576)(hS:Shape g){F:List (List aB)}(hi:aM g (aN F)) :
  ∃ F',pW g F=some (if (iF g (aN F)).2=true then .inl F' else .inr F')/\aN F'=(iF g (aN F)).1:=by
 obtain⟨F',b',e,hF⟩:=KA h0 hS hi g.rs_ 0 F false (λ_ h=>h) hi (.rfl' _);have hl:F.length<=1048576:=by
  have U:=hi.1;have K:=hS.syms.2;unfold aN at U;rw[bh] at U;omega
 have Z:iF g (aN F)=(aN F',b'):=hF.symm;refine⟨F',?_,by rw[Z]⟩;unfold pW;rw[No hl,aj,e,aj,Z];dsimp only;cases b'<;>rfl
theorem Nn {A:List (List au)}(h:A.length<=1048576):sa A=some (iL (A.map (·.length))):=by
 unfold sa;rw[oh (g:=λl:List au=>(l.length:Int)) (B:=1048576) A 0 [] (λk x s hx hs=>by
  unfold G4;rw[aF (by constructor<;>omega)]) (by rw[Dyz];omega),aj,Ecz]
 unfold iL;rw[Exz];rfl
theorem Jy (n:Nat):kT 0 (n:Int)=some (n:Int):=by
 rw[ED];by_cases h:(n:Int) > 0;rw[ao h];rw[an h,show (n:Int)=0 by omega]
theorem NG {g:al}(hS:Shape g){r:ae}(Z:r∈g.rs_){A:List (List au)}(hA:aM g A):sf g r (iL (A.map (·.length)))=some ((dn (bA g r A)).map iL):=by
 have h3:=gu hS Z;unfold sf;have key:∀ (k:Nat),k<=r.rt_.length->(∀ c∈(bA g r A).take k,c<=16)/\((bA g r A).take k).length=k:=λk hk=>by
  refine⟨λc hc=>D8 hS Z hA c (List.mem_of_mem_take hc),?_⟩;rw[Brz,nZ];omega
 obtain⟨s',e2,hp⟩:=jT (P:=λk (s:List (List Int))=>s=(dn ((bA g r A).take k)).map iL) (f:=Cv g (iL (A.map (·.length)))) (xs:=r.rt_) (i:=0) (s:=[[]]) (by rw[Fdz];rfl) λk n s hn hs=>by
  rw[Adz] at hs ⊢;have hlt:=(List.getElem?_eq_some_iff.1 hn).1;have hkn:=hS.right Z (Bvz hn);obtain⟨k1,k2,k3,_,_⟩:=hA.at_ hkn;have hle:=hA.le hS hkn;have htk:(bA g r A).take (k+1)=(bA g r A).take k++[(dK g A n).length]:=by
   rw[Dvz];unfold bA;rw[Czz,hn];rfl
  have hcl:(dn ((bA g r A).take k)).length<=256:=by
   unfold dn;rw[bh,Fez];have h4:=JR (key k (by omega)).1;rw[(key k (by omega)).2] at h4;have h5:16 ^ k<=16 ^ 2:=Nat.pow_le_pow_right (by omega) (by omega);omega
  refine⟨(dn ((bA g r A).take (k+1))).map iL,?_,rfl⟩;unfold Cv;rw[oR,aj,k1,Jy (bc g n),aj,aF (by omega),b7,kK,Czz,k3];simp only[Byz,aj];rw[hs,htk,Tk];obtain⟨s2,e3,hp2⟩:=jT (P:=λj (s:List (List Int))=>s=(((dn ((bA g r A).take k)).take j).flatMap λc=>(Amz (dK g A n).length).map λd=>iL (c++[d]))) (f:=Ck ((dK g A n).length:Int)) (xs:=(dn ((bA g r A).take k)).map iL) (i:=0) (s:=[]) (by rw[Fdz];rfl) λj x s hx hs2=>by
   rw[Adz] at hs2 ⊢;rw[Czz] at hx;cases hc:(dn ((bA g r A).take k))[j]? with
   | none=>rw[hc] at hx;cases hx
   | some c=>
    rw[hc] at hx;cases hx;have hj:=(List.getElem?_eq_some_iff.1 hc).1;have hclen:c.length=k:=by
     obtain⟨m,hm,rfl⟩:=List.mem_map.1 (Bvz hc);rw[wM,(key k (by omega)).2]
    have hsl:s.length<=256*16:=by
     rw[hs2,F7 (n:=(dK g A n).length) λc=>by rw[bh,Fez]];rw[Brz];exact Nat.mul_le_mul (by omega) hle
    unfold Ck;rw[b7];obtain⟨s3,e4,hp3⟩:=rv (P:=λd (t:List (List Int))=>t=s++(Amz d).map λd=>iL (c++[d])) (f:=Cl (iL c)) (n:=(dK g A n).length) (i:=0) (s:=s) (by rw[List.range_zero,List.map_nil,Cgz]) λd t U K ht=>by
     have htl:t.length<=256*16+16:=by rw[ht,Axz,bh,Fez];omega
     refine⟨_,by
      unfold Cl;rw[aF (by rw[Dyz,jH];constructor<;>omega),aF (by rw[jH];constructor<;>omega),aF (by constructor<;>omega)],?_⟩
     rw[ht,List.range_succ,Diz,Azz,Blz,List.map_nil,PR c [d]];rfl
    refine⟨s3,by rw[e4];rfl,?_⟩;rw[hp3,Adz,hs2,Dvz,hc,Ewz];simp
  rw[e3];rw[Adz,bh,Fbz] at hp2;rw[hp2,List.map_flatMap];simp only[Exz,aj];rfl
 rw[e2,hp,Adz,Biz (by rw[nZ];omega)];rfl
theorem HN {l:List au}(h:l.length<=16):((l.length:Int)+1)*32<=140737488355328/\(l.length:Int)+1<=9223372036854775807:=by constructor<;>omega
theorem XN {g:al}(hS:Shape g){r:ae}(Z:r∈g.rs_){A:List (List au)}(hA:aM g A){c:List Nat}(h:Ch g r A c){k d:Nat}(hd:c[k]?=some d) :
  yr g r A k (d:Int) ((eN g r A c).take k)=some ((eN g r A c).take (k+1)):=by
 have h3:=gu hS Z;have hlt:=(List.getElem?_eq_some_iff.1 hd).1;rw[h.1] at hlt;obtain⟨n,hn⟩:∃ n,r.rt_[k]?=some n:=⟨_,Cmz hlt⟩
 obtain⟨own,U,K⟩:=ES h hn hd;obtain⟨k1,k2,k3,_,_⟩:=hA.at_ (hS.right Z (Bvz hn));have e1:(eN g r A c).take (k+1)=(eN g r A c).take k++[own]:=by rw[Dvz,U];rfl
 have b1:((eN g r A c).take k).length<=16:=Bgz (Fgz _ _) (by omega);rw[e1];generalize (eN g r A c).take k=s at b1;unfold yr;rw[hn,aj,oR,aj,k1,Jy,aj,aF (by omega),b7,k3,aj,aF (by omega),b7,K,aj,aF (HN b1)]
theorem Kz {g:al}(hS:Shape g){r:ae}(Z:r∈g.rs_){A:List (List au)}(hA:aM g A){c:List Nat}(h:Ch g r A c) :
  rL g r A (iL c)=some (eN g r A c):=by
 unfold rL;obtain⟨s',e,hp⟩:=jT (P:=λk s=>s=(eN g r A c).take k) (f:=yr g r A) (xs:=iL c) (i:=0) (s:=[]) (by rw[Fdz]) λk x s hx hs=>by
  rw[Adz] at hs ⊢;rw[kK] at hx;cases hd:c[k]? with
  | none=>rw[hd] at hx;cases hx
  | some d=>
   rw[hd] at hx;have hx:(d:Int)=x:=Option.some.inj hx;rw[hs,← hx];exact⟨_,XN hS Z hA h hd,rfl⟩
 rw[e,hp,jH,Adz,h.1,← ta h,Fbz];rfl
theorem Jx (l:List au)(s:au):rC l s=some (decide (s∈l)):=by
 unfold rC;rw[pG (q:=λf:au=>decide (f=s)) (c:=λ_=>true) λj x hx=>by
  unfold MV;rw[AU,aj,← apply_ite some]]
 cases e:l.findIdx? λf=>decide (f=s) with
 | none=>
  rw[Fcz] at e;have:¬ s∈l:=λh=>by
   have:=e s h;simp at this
  rw[decide_eq_false this];rfl
 | some j=>
  rw[Epz] at e;obtain⟨hj,U,K⟩:=e;have U:l[j]=s:=of_decide_eq_true U;have:s∈l:=U▸List.getElem_mem hj;rw[decide_eq_true this];rfl
theorem Tg {g:al}(h0:Sz.szd g<=1048576)(hS:Shape g){r:ae}(Z:r∈g.rs_){A:List (List au)}(hA:aM g A){q:List (List au)×Bool}(hi:aM g q.1){c:List Nat}(h:Ch g r A c)(k:Nat) :
  yE g A r (eh g r.Left) k (iL c) q=some (stA (bc g r.Left) (ei g r A c) q):=by
 obtain⟨B,b⟩:=q;obtain⟨U,K,h3,h4,h5⟩:=hi.at_ (hS.left Z);have hle:=hi.le hS (hS.left Z);dsimp only at U K h3 h4 h5 hle;have hgd:B.getD (bc g r.Left) []=dK g B r.Left:=rfl;obtain⟨e1,_,_⟩:=AR h0 (Bgz (ib Z) h0) (xo hS Z hA h);have h3r:=gu hS Z;unfold yE stA;dsimp only;rw[Kz hS Z hA h,aj,e1,aj,(sR (gJ h0) (by show r.rt_.length<=1048576;omega) _).1,aj,U,aF (by omega),b7,h3,aj,Jx,aj,hgd];rw[show cw g r (eP g r (eN g r A c))=ei g r A c from rfl];by_cases hm:ei g r A c∈dK g B r.Left;rw[ao (decide_eq_true hm),ao hm];rfl;rw[decide_eq_false hm,an Fqz,an hm,aF (HN hle)];rfl
theorem Jw {g:al}(h0:Sz.szd g<=1048576)(hS:Shape g){r:ae}(Z:r∈g.rs_){A:List (List au)}(hA:aM g A):∀ (cs:List (List Nat)) (k:Nat) (q:List (List au)×Bool),(∀ c∈cs,Ch g r A c)->aM g q.1->bO A q.1 ->
  eachL (yE g A r (eh g r.Left)) k (cs.map iL) q=some (cs.foldl (λq c=>stA (bc g r.Left) (ei g r A c) q) q)
 | [],k,q,_,_,_=>rfl
 | c::cs,k,q,hc,hi,he=>by
  have mv:=wk (A:=A) hS Z (q:=q) hi he (qR h0 hS r (eP g r (eN g r A c)));rw[Blz,eachL,Tg h0 hS Z hA hi (hc c (by simp)),aj,Ffz];exact Jw h0 hS Z hA cs (k+1) _ (λx hx=>hc x (by simp[hx])) mv.inv mv.ext
theorem Jv {g:al}(h0:Sz.szd g<=1048576)(hS:Shape g){A:List (List au)}(hA:aM g A):∀ (rs:List ae) (i:Nat) (q:List (List au)×Bool),(∀ r∈rs,r∈g.rs_)->aM g q.1->bO A q.1 ->
  eachL (yD g A) i rs q=some (rs.foldl (fG g A) q)
 | [],i,q,_,_,_=>rfl
 | r::rs,i,q,hrs,hi,he=>by
  have Z:=hrs r (by simp);have mv:=wE h0 hS Z hi he;have hl:A.length<=1048576:=by have U:=hA.1;have K:=hS.syms.2;omega
  have e:yD g A i r q=some (fG g A q r):=by
   unfold yD;obtain⟨B,b⟩:=q;dsimp only;rw[Nn hl,aj,NG hS Z hA,aj,oR,aj,Jw h0 hS Z hA _ 0 (B,b) (λc hc=>wm hc) hi he,aj];rfl
  rw[eachL,e,aj,Ffz];exact Jv h0 hS hA rs (i+1) _ (λx hx=>hrs x (by simp[hx])) mv.inv mv.ext
theorem xB {g:al}(h0:Sz.szd g<=1048576)(hS:Shape g){A:List (List au)}(hA:aM g A):rW g A=some (iF g A):=by
 have hl:A.length<=4:=by have U:=hA.1;have K:=hS.syms.2;omega
 unfold rW;rw[oh (g:=λl:List au=>l) (B:=1048576) A 0 [] (λk x s hx hs=>by
  obtain⟨j,hj⟩:=Ekz hx;have hlt:=(List.getElem?_eq_some_iff.1 hj).1;obtain⟨y,hy⟩:∃ y,g.ss_[j]?=some y:=⟨_,Cmz (by rw[← hA.1];exact hlt)⟩
  have hx16:x.length<=16:=yg (hS.plain y.Name) (hA.2 j y x hy hj).1 (hA.2 j y x hy hj).2;unfold Ox;rw[aF (by rw[Dyz];constructor<;>omega),aF (by constructor<;>omega)]) (by rw[Dyz];omega),aj,Ecz,List.map_id',Jv h0 hS hA g.rs_ 0 (A,false) (λ_ h=>h) hA (.rfl' A),aj]
 rfl
theorem PP {g:al}(h0:Sz.szd g<=1048576)(hS:Shape g):∀ (d:Nat) (F:List (List aB)),aM g (aN F)->g.ss_.length*16-eB (aN F)<=d ->
  ∃ F',bK (pW g) F=some F'/\bK (nv g) (aN F)=some (aN F',true)/\aM g (aN F'):=by
 intro d
 induction d with
 | zero=>
  intro F hi hd;obtain⟨F1,e1,hF⟩:=LK h0 hS hi;have mv:=tq h0 hS hi;have Y:=mv.inv.bound hS;have hc:(iF g (aN F)).2=false:=by
   cases hq:(iF g (aN F)).2 with
   | false=>rfl
   | true=>
    rcases mv.up hq with h|h;cases h;dsimp only at h;omega
  have hno:=mv.no hc;rw[hc,an Fqz] at e1;have hF1:aN F1=aN F:=by rw[hF,hno]
  refine⟨F1,c9 e1,?_,by rw[hF1];exact hi⟩;rw[hF1];exact c9 (by unfold nv;rw[xB h0 hS hi,aj,hno];rfl)
 | succ d ih=>
  intro F hi hd;obtain⟨F1,e1,hF⟩:=LK h0 hS hi;have mv:=tq h0 hS hi;have Y:=mv.inv.bound hS;cases hq:(iF g (aN F)).2 with
  | false=>
   have hno:=mv.no hq;rw[hq,an Fqz] at e1;have hF1:aN F1=aN F:=by rw[hF,hno]
   refine⟨F1,c9 e1,?_,by rw[hF1];exact hi⟩;rw[hF1];exact c9 (by unfold nv;rw[xB h0 hS hi,aj,hno];rfl)
  | true=>
   rw[hq,ao rfl] at e1;have hlt:eB (aN F)<eB (aN F1):=by
    rw[hF];rcases mv.up hq with h|h;cases h;exact h
   obtain⟨F',U,K,h3⟩:=ih F1 (by rw[hF];exact mv.inv) (by omega);refine⟨F',by rw[eS e1];exact U,?_,h3⟩;have s1:nv g (aN F)=some (.inl (aN F1)):=by
    unfold nv;rw[xB h0 hS hi,aj,hF];dsimp only;rw[hq];rfl
   rw[eS s1];exact K
theorem V3 {g:al}(h0:Sz.szd g<=1048576)(hS:Shape g):∃ F,ox g=some F/\bK (nv g) (Bqz g.ss_.length [])=some (aN F,true)/\aM g (aN F):=by
 have e:aN (Bqz g.ss_.length [])=Bqz g.ss_.length []:=by unfold aN;rw[Dhz];rfl
 obtain⟨F,U,K,h3⟩:=PP h0 hS _ (Bqz g.ss_.length []) (by
  rw[e];refine⟨by rw[List.length_replicate],λk y L _ hL=>?_⟩;rw[List.getElem?_replicate] at hL;split at hL;cases hL;exact⟨List.nodup_nil,λa ha=>by simp at ha⟩;cases hL) (Acz _)
 rw[e] at K;have hs:=hS.syms.2;refine⟨F,?_,K,h3⟩;unfold ox;rw[aF (by refine⟨?_,?_,?_⟩<;>omega),U];rfl
end Go.Proofs.YtodhafdaelcnlaaGreat
