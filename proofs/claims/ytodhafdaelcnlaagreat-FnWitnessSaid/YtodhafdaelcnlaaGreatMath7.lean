/- What those partial functions come to: plain lemmas on data; each bears its conditions in its statement. -/
import Derived.Test.YtodhafdaelcnlaaGreatMath6
set_option linter.unusedVariables false
set_option linter.unusedSimpArgs false
set_option linter.ambiguousOpen false
set_option linter.unusedSectionVars false
set_option linter.unnecessarySimpa false
set_option maxRecDepth 100000
set_option maxHeartbeats 4000000
open List renaming getD_eq_getElem?_getD->Cwz,getElem?_eq_getElem->Cmz,getElem?_map->Czz,mem_of_getElem?->Bvz,append_nil->Cgz,map_cons->Blz,getElem?_of_mem->Elz,length_append->Axz,getElem?_set_self->Ffz,mem_singleton->Bpz,getElem?_set_ne->Fgz,append_assoc->Azz,map_append->Diz,replicate->Bqz,drop_zero->Fhz,drop_eq_getElem_cons->Csz,take_add_one->Dvz,length_take->Brz,take_length->Fiz,length_nil->Dyz,findIdx?_eq_none_iff->Fjz,findIdx?_eq_some_iff_getElem->Eqz,take_zero->Fkz,length_range->Flz,foldl_cons->Fmz,map_replicate->Dhz,nil_append->Edz,length_take_le->Fnz,take_of_length_le->Biz
open Option renaming map_some->Byz
open Nat renaming le_refl->Acz,le_trans->Bgz,sub_self->Foz,zero_add->Adz
open Bool renaming false_ne_true->Fpz
namespace Go.Proofs.YtodhafdaelcnlaaGreat
open Go Go.E
def DG:au:=⟨0,[]⟩
def ba (g:al)(n:ar):Nat:=(ie g n).getD 0
def aH (g:al)(A:List (List au)):Prop:=A.length=g.ss_.length/\∀ (k:Nat) (y:ah) (L:List au),g.ss_[k]?=some y->A[k]?=some L->L.Nodup/\∀ a∈L,kr (ct g y.Name) a
def ei (g:al)(A:List (List au))(n:ar):List au:=A.getD (ba g n) []
theorem AY {g:al}{n:ar}(hn:(bR g n).2=true):∃ y,fl g n=(ba g n:Int)/\g.ss_[ba g n]?=some y/\y.Name=n:=by
 obtain⟨j,y,U,K,h3,h4⟩:=KJ hn;have e:ba g n=j:=by unfold ba;rw[U];rfl
 refine⟨y,?_,by rw[e];exact K,h4⟩;unfold fl;rw[U,e]
theorem aH.at_ {g:al}{A:List (List au)}(h:aH g A){n:ar}(hn:(bR g n).2=true):fl g n=(ba g n:Int)/\ba g n<A.length/\A[ba g n]?=some (ei g A n)/\(ei g A n).Nodup/\∀ a∈ei g A n,kr (ct g n) a:=by
 obtain⟨y,U,K,h3⟩:=AY hn;have hj:=(List.getElem?_eq_some_iff.1 K).1;have e:A[ba g n]?=some (ei g A n):=by
  unfold ei;rw[Cwz,Cmz (by rw[h.1];exact hj)];rfl
 have:=h.2 _ y _ K e;rw[h3] at this;exact⟨U,by rw[h.1];exact hj,e,this⟩
theorem aH.le {g:al}(hS:Shape g){A:List (List au)}(h:aH g A){n:ar}(hn:(bR g n).2=true):(ei g A n).length<=16:=
 xM (hS.plain n) (h.at_ hn).2.2.2.1 (h.at_ hn).2.2.2.2
def aV (g:al)(r:ae)(A:List (List au)):List Nat:=r.rt_.map λn=>(ei g A n).length
def dq (g:al)(r:ae)(A:List (List au))(c:List Nat):List au:=(r.rt_.zip c).map λp=>(ei g A p.1).getD p.2 DG
def iL (l:List Nat):List Int:=l.map (λn:Nat=>((n:Nat):Int))
def Ch (g:al)(r:ae)(A:List (List au))(c:List Nat):Prop:=c.length=r.rt_.length/\∀ (i:Nat) (n:ar) (d:Nat),r.rt_[i]?=some n->c[i]?=some d->d<(ei g A n).length
theorem mb {g:al}{r:ae}{A:List (List au)}{c:List Nat}(h:c∈bY (aV g r A)):Ch g r A c:=by
 unfold bY at h;obtain⟨m,hm,rfl⟩:=List.mem_map.1 h;refine⟨by rw[o8];unfold aV;rw[bc],λi n d U K=>?_⟩;refine sB (List.mem_range.1 hm) i d _ K ?_;unfold aV;rw[Czz,U];rfl
theorem tl {g:al}{r:ae}{A:List (List au)}{c:List Nat}(h:Ch g r A c):(dq g r A c).length=r.rt_.length:=by
 unfold dq;rw[bc,List.length_zip,h.1,Nat.min_self]
theorem ES {g:al}{r:ae}{A:List (List au)}{c:List Nat}(h:Ch g r A c){i:Nat}{n:ar}{d:Nat}(U:r.rt_[i]?=some n)(K:c[i]?=some d) :
  ∃ own,(dq g r A c)[i]?=some own/\(ei g A n)[d]?=some own:=by
 have hd:=h.2 i n d U K;refine⟨(ei g A n)[d],?_,Cmz hd⟩;unfold dq;have hz:(r.rt_.zip c)[i]?=some (n,d):=List.getElem?_zip_eq_some.2 ⟨U,K⟩;rw[Czz,hz];simp only[Byz];rw[Cwz,Cmz hd];rfl
theorem nM {g:al}(hS:Shape g){r:ae}(Z:r∈g.rs_){A:List (List au)}(hA:aH g A){c:List Nat}(h:Ch g r A c):lC g r (dq g r A c):=by
 refine⟨tl h,λk own hk=>?_⟩;have hlt:=(List.getElem?_eq_some_iff.1 hk).1;rw[tl h] at hlt;obtain⟨n,hn⟩:∃ n,r.rt_[k]?=some n:=⟨_,Cmz hlt⟩
 obtain⟨d,hd⟩:∃ d,c[k]?=some d:=⟨_,Cmz (by rw[h.1];exact hlt)⟩
 obtain⟨own',U,K⟩:=ES h hn hd;rw[hk] at U;cases U;have:=(hA.at_ (hS.right Z (Bvz hn))).2.2.2.2 own (Bvz K);rw[rC hn];exact⟨this.1,this.2.1⟩
noncomputable def eY (g:al) (r:ae) (A:List (List au)) (c:List Nat):au:=cG g r (dQ g r (dq g r A c))
theorem Az {g:al}(h0:Sz.szd g<=1048576)(hS:Shape g)(r:ae)(x:au):kr (ct g r.Left) (cG g r x):=by
 obtain⟨s,U,K⟩:=VO (gZ h0) (r:=r) (by have:=hS.plain r.Left;omega) x;unfold cG;rw[U];exact K
noncomputable def stA (w:Nat) (s:au) (q:List (List au)×Bool):List (List au)×Bool:=if s∈q.1.getD w [] then q else (q.1.set w (q.1.getD w []++[s]),true)
def bJ (A B:List (List au)):Prop:=B.length=A.length/\∀ (k:Nat) (L:List au),A[k]?=some L->∃ t,B[k]?=some (L++t)
theorem bJ.rfl' (A:List (List au)):bJ A A:=⟨rfl,λk L h=>⟨[],by rw[Cgz];exact h⟩⟩
def dm (A:List (List au)):Nat:=(A.map (·.length)).sum
theorem D8:∀ (A:List (List au)) (k:Nat) (x a:List au),A[k]?=some a->dm (A.set k x)+a.length=dm A+x.length
 | [],k,x,a,h=>by simp at h
 | b::A,0,x,a,h=>by simp at h;subst h;unfold dm;simp;omega
 | b::A,k+1,x,a,h=>by
  have ih:=D8 A k x a (by simpa using h);unfold dm at ih ⊢;simp only[List.set_cons_succ,Blz,List.sum_cons];omega
theorem aH.bound {g:al}(hS:Shape g){A:List (List au)}(h:aH g A):dm A<=g.ss_.length*16:=by
 have key:∀ l:List (List au),(∀ a∈l,a.length<=16)->dm l<=l.length*16:=by
  intro l
  induction l with
  | nil=>intro _;simp[dm]
  | cons a l ih=>
   intro hv;have U:=hv a (by simp);have K:=ih λb Y=>hv b (by simp[Y]);unfold dm at K ⊢;simp only[Blz,List.sum_cons,bC];omega
 rw[← h.1];refine key A λL hL=>?_;obtain⟨k,hk⟩:=Elz hL;have hlt:=(List.getElem?_eq_some_iff.1 hk).1;obtain⟨y,hy⟩:∃ y,g.ss_[k]?=some y:=⟨_,Cmz (by rw[← h.1];exact hlt)⟩
 exact xM (hS.plain y.Name) (h.2 k y L hy hk).1 (h.2 k y L hy hk).2
structure Mv (g:al) (A:List (List au)) (q q' : List (List au)×Bool):Prop where
 inv:aH g q'.1
 ext:bJ A q'.1
 le:dm q.1<=dm q'.1
 up:q'.2=true->q.2=true∨dm q.1<dm q'.1
 no:q'.2=false->q'=q
theorem Mv.refl {g:al}{A:List (List au)}{q:List (List au)×Bool}(h:aH g q.1)(he:bJ A q.1):Mv g A q q:=⟨h,he,Acz _,λh=>.inl h,λ_=>rfl⟩
theorem Mv.trans {g:al}{A:List (List au)}{p q s:List (List au)×Bool}(U:Mv g A p q)(K:Mv g A q s):Mv g A p s:=
 ⟨K.inv,K.ext,Bgz U.le K.le,λh=>by
  rcases K.up h with h|h;rcases U.up h with h|h;exact .inl h;exact .inr (Nat.lt_of_lt_of_le h K.le);exact .inr (Nat.lt_of_le_of_lt U.le h),λh=>by
  have e:=K.no h;rw[e] at h ⊢;exact U.no h⟩
theorem Ai {g:al}(hS:Shape g){r:ae}(Z:r∈g.rs_){A:List (List au)}{q:List (List au)×Bool}(h:aH g q.1)(he:bJ A q.1){s:au}(hs:kr (ct g r.Left) s):Mv g A q (stA (ba g r.Left) s q):=by
 unfold stA;have hk:=hS.left Z;obtain⟨U,K,h3,h4,h5⟩:=h.at_ hk;have hg:q.1.getD (ba g r.Left) []=ei g q.1 r.Left:=rfl;rw[hg];by_cases hm:s∈ei g q.1 r.Left;rw[ao hm];exact .refl h he;rw[an hm];have ht:=D8 q.1 (ba g r.Left) (ei g q.1 r.Left++[s]) _ h3;rw[Axz,List.length_singleton] at ht;refine⟨⟨by rw[List.length_set];exact h.1,λk y L hy hL=>?_⟩,⟨by rw[List.length_set];exact he.1,λk L hL=>?_⟩,by dsimp only;omega,λ_=>.inr (by dsimp only;omega),λh=>by cases h⟩;dsimp only at hL;by_cases e:ba g r.Left=k;subst e;rw[Ffz K] at hL;cases hL;obtain⟨y',_,h7,h8⟩:=AY hk;rw[hy] at h7;cases h7;rw[h8];refine⟨List.nodup_append.2 ⟨h4,by simp,λa ha b Y e=>?_⟩,λa ha=>?_⟩;rw[Bpz] at Y;subst Y;subst e;exact hm ha;rcases List.mem_append.1 ha with ha|ha;exact h5 a ha;rw[Bpz] at ha;subst ha;exact hs;rw[Fgz e] at hL;exact h.2 k y L hy hL;obtain⟨t,e2⟩:=he.2 k L hL;by_cases e:ba g r.Left=k;subst e;rw[h3] at e2;refine⟨t++[s],?_⟩;dsimp only;rw[Ffz K,Option.some.inj e2,Azz];exact⟨t,by dsimp only;rw[Fgz e];exact e2⟩
theorem Mv.fold {α:Type}{g:al}{A:List (List au)}{f:List (List au)×Bool->α->List (List au)×Bool}:∀ (l:List α) (q:List (List au)×Bool),aH g q.1->bJ A q.1->(∀ q x,x∈l->aH g q.1->bJ A q.1->Mv g A q (f q x))->Mv g A q (l.foldl f q)
 | [],q,h,he,_=>.refl h he
 | x::l,q,h,he,hf=>by
  have U:=hf q x (by simp) h he;exact U.trans (Mv.fold l _ U.inv U.ext λq y hy=>hf q y (by simp[hy]))
noncomputable def fW (g:al) (A:List (List au)) (q:List (List au)×Bool) (r:ae):List (List au)×Bool:=(bY (aV g r A)).foldl (λq c=>stA (ba g r.Left) (eY g r A c) q) q
theorem Ay {g:al}(h0:Sz.szd g<=1048576)(hS:Shape g){r:ae}(Z:r∈g.rs_){A:List (List au)}{q:List (List au)×Bool}(h:aH g q.1)(he:bJ A q.1):Mv g A q (fW g A q r):=
 Mv.fold _ q h he λq c _ h he=>Ai hS Z h he (Az h0 hS r _)
theorem kv (l:List Nat)(i:Nat):(iL l)[i]?=(l[i]?).map λn:Nat=>(n:Int):=by unfold iL;rw[Czz]
theorem fT (l:List Nat):(iL l).length=l.length:=by unfold iL;rw[bc]
theorem P5 (l m:List Nat):iL (l++m)=iL l++iL m:=by unfold iL;rw[Diz]
theorem P4 (l:List Nat)(i x:Nat):(iL l).set i (x:Int)=iL (l.set i x):=by unfold iL;rw[List.map_set]
theorem LK:∀ (m:Nat) (cs ds e:List Nat),ds.length=cs.length->jT (cs.drop m) (ds.drop m)=some e->jT cs ds=some (ds.take m++e)
 | 0,cs,ds,e,_,h=>by simpa using h
 | m+1,[],ds,e,hl,h=>by rw[List.drop_nil] at h;simp[jT] at h
 | m+1,c::cs,[],e,hl,h=>by simp at hl
 | m+1,c::cs,d::ds,e,hl,h=>by
  rw[jT,LK m cs ds e (by simpa using hl) (by simpa using h)];rfl
def oE (cs ds:List Nat)(q:Int×List Int):Prop:=match jT cs ds with
 | none=>q.1<0
 | some e=>0<=q.1/\∃ x:Nat,q.2[q.1.toNat]?=some (x:Int)/\x<=1048576/\q.2.set q.1.toNat ((x+1:Nat):Int)=iL e
theorem KH {cs ds:List Nat}{f:(Int×List Int)->Option ((Int×List Int) ⊕ (Int×List Int))}(hf:f=sd (iL cs))(hl:ds.length=cs.length)(hd:∀ (i d c:Nat),ds[i]?=some d->cs[i]?=some c->d<c/\c<=1048576)(hn:cs.length<=1048576) :
  ∀ m:Nat,m<=cs.length->jT (cs.drop m) (ds.drop m)=none->∃ q,bA f ((m:Int)-1,iL (ds.take m++Bqz (cs.length-m) 0))=some q/\oE cs ds q
 | 0,_,h=>by
  refine⟨_,cF (r:=_) (by rw[hf];unfold sd;dsimp only;rw[an (by omega)]),?_⟩;unfold oE;rw[Fhz,Fhz] at h;rw[h];show (0:Int)-1<0;omega
 | m+1,hm,h=>by
  have hm1:m<cs.length:=hm;have hm2:m<ds.length:=by omega
  obtain⟨c,hc⟩:∃ c,cs[m]?=some c:=⟨_,Cmz hm1⟩
  obtain⟨d,hdd⟩:∃ d,ds[m]?=some d:=⟨_,Cmz hm2⟩
  obtain⟨U,K⟩:=hd m d c hdd hc;have ed:ds.drop m=d::ds.drop (m+1):=by rw[Csz hm2];rw[Cmz hm2] at hdd;rw[Option.some.inj hdd]
  have ec:cs.drop m=c::cs.drop (m+1):=by rw[Csz hm1];rw[Cmz hm1] at hc;rw[Option.some.inj hc]
  have et:ds.take (m+1)=ds.take m++[d]:=by rw[Dvz,hdd];rfl
  have hlen:(ds.take m).length=m:=by rw[Brz];omega
  have hg:(iL (ds.take (m+1)++Bqz (cs.length-(m+1)) 0))[m]?=some (d:Int):=by
   rw[kv,et,Azz,List.getElem?_append_right (by omega),hlen,Foz];rfl
  have hset:∀ x:Nat,(iL (ds.take (m+1)++Bqz (cs.length-(m+1)) 0)).set m (x:Int)=iL (ds.take m++x::Bqz (cs.length-(m+1)) 0):=λx=>by
   rw[P4,et,Azz,List.set_append_right _ _ (by omega),hlen,Foz];rfl
  have hN:(((m+1:Nat):Int)-1)=(m:Int):=by omega
  by_cases e:d=c-1;have hs:f (((m+1:Nat):Int)-1,iL (ds.take (m+1)++Bqz (cs.length-(m+1)) 0))=some (.inl ((m:Int)-1,iL (ds.take m++Bqz (cs.length-m) 0))):=by
   rw[hf];unfold sd;dsimp only;rw[hN,ao (by omega),aE (by omega),cd,hg,aj,aE (by omega),kv,hc,Byz,aj,aE ⟨by omega,by omega⟩,ao (by omega),aE ⟨by omega,by omega⟩];have:=hset 0;rw[show ((0:Nat):Int)=0 from rfl] at this;rw[this,show cs.length-m=(cs.length-(m+1))+1 by omega,List.replicate_succ]
  rw[eh hs];refine KH hf hl hd hn m (by omega) ?_;rw[ec,ed,jT,h];dsimp only;rw[an (by omega)];refine⟨_,cF (r:=_) (by
   rw[hf];unfold sd;dsimp only;rw[hN,ao (by omega),aE (by omega),cd,hg,aj,aE (by omega),kv,hc,Byz,aj,aE ⟨by omega,by omega⟩,an (by omega)]),?_⟩
  have hx:jT cs ds=some (ds.take m++(d+1)::Bqz (cs.length-(m+1)) 0):=by
   refine LK m cs ds _ hl ?_;rw[ec,ed,jT,h];dsimp only;rw[ao (by omega),List.length_drop]
  unfold oE;rw[hx];dsimp only;refine⟨by omega,d,?_,by omega,?_⟩;rw[cd];exact hg;rw[cd];exact hset (d+1)
theorem xp {cs ds:List Nat}{f:(Int×List Int)->Option ((Int×List Int) ⊕ (Int×List Int))}(hf:f=sd (iL cs))(hl:ds.length=cs.length)(hd:∀ (i d c:Nat),ds[i]?=some d->cs[i]?=some c->d<c/\c<=1048576)(hn:cs.length<=1048576) :
  ∃ q,bA f (((iL cs).length:Int)-1,iL ds)=some q/\oE cs ds q:=by
 have:=KH hf hl hd hn cs.length (Acz _) (by rw[List.drop_length,jT];intro a b c d h;simp at h);rw[Foz,List.replicate_zero,Cgz,← hl,Fiz] at this;rw[fT,← hl];exact this
def aC (F:List (List aw)):List (List au):=F.map λl=>l.map aw.sy_
theorem lI (F:List (List aw))(k:Nat):(aC F)[k]?=(F[k]?).map λl=>l.map aw.sy_:=by unfold aC;rw[Czz]
theorem AX (l:List Int)(h:l.length<=1048576):ov l=some l:=by
 unfold ov;rw[aE (by rw[Dyz];constructor<;>omega)]
theorem I6 (fs:List aw)(s:au):vU fs s=some (decide (s∈fs.map aw.sy_)):=by
 unfold vU zp;rw[pk (q:=λf:aw=>decide (f.sy_=s)) (c:=λk=>(k:Int)) λj x hx=>by
  unfold H1 yB;rw[S0,aj,aj,← apply_ite some]]
 cases e:fs.findIdx? λf=>decide (f.sy_=s) with
 | none=>
  rw[Fjz] at e;have:¬ s∈fs.map aw.sy_:=λh=>by
   obtain⟨f,U,K⟩:=List.mem_map.1 h;have:=e f U;simp[K] at this
  rw[decide_eq_false this];rfl
 | some j=>
  rw[Eqz] at e;obtain⟨hj,U,K⟩:=e;have:s∈fs.map aw.sy_:=List.mem_map.2 ⟨fs[j],List.getElem_mem hj,of_decide_eq_true U⟩;rw[decide_eq_true this];dsimp only;simp only[aj,qS];rw[decide_eq_true (by omega)]
theorem TG {g:al}(h0:Sz.szd g<=1048576)(hS:Shape g){r:ae}(Z:r∈g.rs_){F:List (List aw)}{b:Bool}(hi:aH g (aC F)){c:List Int}(hc:c.length<=1048576)(x:au) :
  ∃ F',pT c x g F b r (fl g r.Left)=some (true,F',(stA (ba g r.Left) (cG g r x) (aC F,b)).2)/\aC F'=(stA (ba g r.Left) (cG g r x) (aC F,b)).1:=by
 obtain⟨U,K,h3,h4,h5⟩:=hi.at_ (hS.left Z);have hle:=hi.le hS (hS.left Z);have hw:ba g r.Left<F.length:=by unfold aC at K;rwa[bc] at K
 obtain⟨fs,hf⟩:∃ fs,F[ba g r.Left]?=some fs:=⟨_,Cmz hw⟩
 have hm:ei g (aC F) r.Left=fs.map aw.sy_:=by
  rw[lI,hf] at h3;exact (Option.some.inj h3).symm
 have hgd:(aC F).getD (ba g r.Left) []=fs.map aw.sy_:=hm;rw[hm,bc] at hle;unfold pT stA;dsimp only;rw[hgd,(wH (gZ h0) (by have:=eQ hS Z;show r.rt_.length<=1048576;omega) x).2,aj,U,aE (by omega),cd,hf,aj,I6,aj];by_cases hs:cG g r x∈fs.map aw.sy_;rw[ao (decide_eq_true hs),ao hs];exact⟨F,rfl,rfl⟩;rw[decide_eq_false hs,an Fpz,an hs,AX c hc,aj,aE (by constructor<;>omega)];refine⟨_,rfl,?_⟩;unfold aC;rw[List.map_set,Diz];rfl
theorem AV {g:al}(hS:Shape g){r:ae}(Z:r∈g.rs_){A:List (List au)}(hA:aH g A){F:List (List aw)}(he:bJ A (aC F)){c:List Nat}(h:Ch g r A c) :
  eachL (zm F (iL (r.rt_.map (ba g)))) 0 (iL c) []=some (dq g r A c):=by
 have h3:=eQ hS Z;obtain⟨s',e,hp⟩:=iw (P:=λk s=>s=(dq g r A c).take k) (f:=zm F (iL (r.rt_.map (ba g)))) (xs:=iL c) (i:=0) (s:=[]) (by rw[Fkz]) λk x s hx hs=>by
  rw[Adz] at hs ⊢;rw[kv] at hx;cases hd:c[k]? with
  | none=>rw[hd] at hx;cases hx
  | some d=>
   rw[hd] at hx;cases hx;have hlt:=(List.getElem?_eq_some_iff.1 hd).1;rw[h.1] at hlt;obtain⟨n,hn⟩:∃ n,r.rt_[k]?=some n:=⟨_,Cmz hlt⟩
   obtain⟨own,U,K⟩:=ES h hn hd;obtain⟨t,ht⟩:=he.2 _ _ (hA.at_ (hS.right Z (Bvz hn))).2.2.1;rw[lI] at ht;cases hf:F[ba g n]? with
   | none=>rw[hf] at ht;cases ht
   | some fs=>
    rw[hf] at ht;have ht:fs.map aw.sy_=ei g A n++t:=Option.some.inj ht;have hd2:=h.2 k n d hn hd;have hfd:(fs.map aw.sy_)[d]?=some own:=by rw[ht,List.getElem?_append_left hd2];exact K
    rw[Czz] at hfd;cases hq:fs[d]? with
    | none=>rw[hq] at hfd;cases hfd
    | some q=>
     rw[hq] at hfd;have hfd:=Option.some.inj hfd;have hsl:s.length<=3:=by rw[hs,Brz,tl h];omega
     refine⟨s++[own],?_,?_⟩;unfold zm;rw[kv,Czz,hn];simp only[Byz,aj];rw[aE (by omega),cd,hf,aj,aE (by omega),cd,hq,aj,aE (by constructor<;>omega),hfd];rw[hs,Dvz,U];rfl
 rw[e,hp,fT,Adz,h.1,← tl h,Fiz]
theorem WT {g:al}(h0:Sz.szd g<=1048576)(hS:Shape g){r:ae}(Z:r∈g.rs_){A:List (List au)}(hA:aH g A){F:List (List aw)}{b:Bool}(hi:aH g (aC F))(he:bJ A (aC F)){c:List Nat}(h:Ch g r A c) :
  ∃ F',qm (iL c) g F b r (fl g r.Left) g r F (iL (r.rt_.map (ba g)))=some (true,F',(stA (ba g r.Left) (eY g r A c) (aC F,b)).2,F')/\aC F'=(stA (ba g r.Left) (eY g r A c) (aC F,b)).1:=by
 have h3:=eQ hS Z;obtain⟨_,e2,_⟩:=nD h0 (Bgz (gv Z) h0) (nM hS Z hA h);obtain⟨F',e,hF⟩:=TG h0 hS Z (b:=b) hi (c:=iL c) (by rw[fT,h.1];omega) (dQ g r (dq g r A c));refine⟨F',?_,hF⟩;unfold qm;rw[AV hS Z hA he h,aj,e2,aj,e];rfl
theorem wv {g:al}(hS:Shape g){r:ae}(Z:r∈g.rs_){A:List (List au)}(hA:aH g A):∀ c∈aV g r A,c<=16:=λc hc=>by
 obtain⟨n,U,rfl⟩:=List.mem_map.1 hc;exact hA.le hS (hS.right Z U)
theorem jr (g:al)(r:ae)(A:List (List au)):(aV g r A).length=r.rt_.length:=by unfold aV;rw[bc]
theorem Ax {g:al}{r:ae}{A:List (List au)}{n:Nat}(h:n<cj (aV g r A)):Ch g r A (bh (aV g r A) n):=mb (List.mem_map.2 ⟨n,List.mem_range.2 h,rfl⟩)
theorem KG {g:al}(h0:Sz.szd g<=1048576)(hS:Shape g){r:ae}(Z:r∈g.rs_){A:List (List au)}(hA:aH g A) :
  ∀ (d n:Nat) (F:List (List aw)) (b:Bool),n<cj (aV g r A)->cj (aV g r A)-n=d->aH g (aC F)->bJ A (aC F) ->
   ∃ F' b',bA (nb (iL (aV g r A)) g r (fl g r.Left) g r (iL (r.rt_.map (ba g)))) (iL (bh (aV g r A) n),F,b)=some (.inr (F',b',F')) /\
    (aC F',b')=((bY (aV g r A)).drop n).foldl (λq c=>stA (ba g r.Left) (eY g r A c) q) (aC F,b)
 | 0,n,F,b,hn,hd,hi,he=>by omega
 | d+1,n,F,b,hn,hd,hi,he=>by
  have hch:=Ax hn;obtain⟨F1,e1,hF1⟩:=WT h0 hS Z hA (b:=b) hi he hch;have mv:=Ai (A:=A) hS Z (q:=(aC F,b)) hi he (Az h0 hS r (dQ g r (dq g r A (bh (aV g r A) n))));have h3:=eQ hS Z;have hcl:=jr g r A;obtain⟨q,e2,hq⟩:=xp (cs:=aV g r A) (ds:=bh (aV g r A) n) rfl (o8 _ _) (λi d c U K=>⟨sB hn i d c U K,by have:=wv hS Z hA c (Bvz K);omega⟩) (by omega);obtain⟨q1,q2⟩:=q;have hdrop:(bY (aV g r A)).drop n=bh (aV g r A) n::(bY (aV g r A)).drop (n+1):=by
   have hl:n<(bY (aV g r A)).length:=by unfold bY;rw[bc,Flz];exact hn
   have hg:(bY (aV g r A))[n]?=some (bh (aV g r A) n):=by
    unfold bY;rw[Czz,List.getElem?_range hn];rfl
   rw[Cmz hl] at hg;rw[Csz hl,Option.some.inj hg]
  rw[hdrop,Fmz];have e3:(aC F1,(stA (ba g r.Left) (eY g r A (bh (aV g r A) n)) (aC F,b)).2)=stA (ba g r.Left) (eY g r A (bh (aV g r A) n)) (aC F,b):=by rw[hF1]
  rw[← e3];have hi1:aH g (aC F1):=by rw[hF1];exact mv.inv
  have he1:bJ A (aC F1):=by rw[hF1];exact mv.ext
  unfold oE at hq;rw[tn _ _ hn] at hq;by_cases hlast:n+1<cj (aV g r A);rw[ao hlast] at hq;obtain⟨k0,x,hx,hxl,hset⟩:=hq;dsimp only at k0 hx hset;have hs:nb (iL (aV g r A)) g r (fl g r.Left) g r (iL (r.rt_.map (ba g))) (iL (bh (aV g r A) n),F,b)=some (.inl (iL (bh (aV g r A) (n+1)),F1,(stA (ba g r.Left) (eY g r A (bh (aV g r A) n)) (aC F,b)).2)):=by
   unfold nb;dsimp only;rw[e1,aj];dsimp only;rw[ao rfl,e2,aj];dsimp only;rw[an (by omega),aE k0,hx,aj,aE ⟨by omega,by omega⟩,← hset];rfl
  rw[eh hs];exact KG h0 hS Z hA d (n+1) F1 _ hlast (by omega) hi1 he1;rw[an hlast] at hq;dsimp only at hq;refine⟨F1,_,cF (by
   unfold nb;dsimp only;rw[e1,aj];dsimp only;rw[ao rfl,e2,aj];dsimp only;rw[ao hq]),?_⟩
  have:(bY (aV g r A)).drop (n+1)=[]:=List.drop_eq_nil_of_le (by unfold bY;rw[bc,Flz];omega);rw[this];rfl
theorem yl (l:List Nat):sb (iL l) 0=some (decide (0∈l)):=by
 unfold sb ze;rw[pk (q:=λx:Int=>decide (x=0)) (c:=λk=>(k:Int)) λj x hx=>by
  unfold Hz;by_cases h:x=0;rw[ao h.symm,ao (decide_eq_true h)];rw[an (λe=>h e.symm),an (by simpa using h)]]
 cases e:(iL l).findIdx? λx=>decide (x=0) with
 | none=>
  rw[Fjz] at e;have:¬ 0∈l:=λh=>by
   have:=e 0 (List.mem_map.2 ⟨0,h,rfl⟩);simp at this
  rw[decide_eq_false this];rfl
 | some j=>
  rw[Eqz] at e;obtain⟨hj,U,K⟩:=e;have h3:(iL l)[j]=0:=of_decide_eq_true U;have:(0:Nat)∈l:=by
   have h4:(iL l)[j]?=some 0:=by rw[Cmz hj,h3]
   rw[kv] at h4;cases h5:l[j]? with
   | none=>rw[h5] at h4;cases h4
   | some n=>
    rw[h5] at h4;have h4:(n:Int)=0:=Option.some.inj h4;have:n=0:=by omega
    subst this;exact Bvz h5
  rw[decide_eq_true this];simp only[aj,qS];rw[decide_eq_true (by omega)]
theorem AK {cs:List Nat}(h:0∈cs):bY cs=[]:=by unfold bY;rw[LN h];rfl
theorem TF {g:al}(h0:Sz.szd g<=1048576)(hS:Shape g){r:ae}(Z:r∈g.rs_){A:List (List au)}(hA:aH g A){F:List (List aw)}(b:Bool)(hi:aH g (aC F))(he:bJ A (aC F)) :
  ∃ F' b',qh (iL (aV g r A)) g F b r (fl g r.Left) g r F (iL (r.rt_.map (ba g)))=some (F',b',F')/\(aC F',b')=fW g A (aC F,b) r:=by
 unfold qh fW;rw[yl,aj];have h3:=eQ hS Z;have hcl:=jr g r A;by_cases hz:0∈aV g r A;rw[ao (decide_eq_true hz),AK hz];exact⟨F,b,rfl,rfl⟩;rw[decide_eq_false hz,an Fpz,fT,aE (by refine⟨?_,?_,?_⟩<;>omega)];have hp:0<cj (aV g r A):=tm λc hc=>Nat.pos_of_ne_zero λe=>hz (e▸hc);obtain⟨F',b',e,hF⟩:=KG h0 hS Z hA _ 0 F b hp rfl hi he;rw[qU,show iL (Bqz (aV g r A).length 0)=Bqz (aV g r A).length (0:Int) by unfold iL;rw[Dhz];rfl] at e;rw[e];rw[Fhz] at hF;exact⟨F',b',rfl,hF⟩
theorem XV {F:List (List aw)}(h:F.length<=1048576):eachL BD 0 F ([]:List Int)=some (F.map λl:List aw=>(l.length:Int)):=by
 rw[nH (g:=λl:List aw=>(l.length:Int)) (B:=1048576) F 0 [] (λk x s hx hs=>by
  unfold BD;rw[aE (by constructor<;>omega)]) (by rw[Dyz];omega),Edz]
theorem XU (F:List (List aw)):(F.map λl:List aw=>(l.length:Int))=iL ((aC F).map (·.length)):=by
 induction F with
 | nil=>rfl
 | cons l F ih=>
  unfold iL aC at ih ⊢;simp only[Blz,bc] at ih ⊢;rw[ih]
theorem ud {F:List (List aw)}(h:F.length<=1048576):ry F=some (iL ((aC F).map (·.length))):=by
 unfold ry;rw[XV h,XU];rfl
theorem wT {l:List Int}(h:l.length<=3):((l.length:Int)+1)*8<=140737488355328/\(l.length:Int)+1<=9223372036854775807:=by constructor<;>omega
theorem xL {g:al}(hS:Shape g){r:ae}(Z:r∈g.rs_){A:List (List au)}(hA:aH g A){k:Nat}{n:ar}(hn:r.rt_[k]?=some n) :
  vR g (iL (A.map (·.length))) k n ((iL (aV g r A)).take k,(iL (r.rt_.map (ba g))).take k)=some ((iL (aV g r A)).take (k+1),(iL (r.rt_.map (ba g))).take (k+1)):=by
 have h3:=eQ hS Z;have hlt:=(List.getElem?_eq_some_iff.1 hn).1;obtain⟨k1,k2,k3,_,_⟩:=hA.at_ (hS.right Z (Bvz hn));have e1:(iL (aV g r A)).take (k+1)=(iL (aV g r A)).take k++[((ei g A n).length:Int)]:=by
  rw[Dvz,kv];unfold aV;rw[Czz,hn];rfl
 have e2:(iL (r.rt_.map (ba g))).take (k+1)=(iL (r.rt_.map (ba g))).take k++[(ba g n:Int)]:=by
  rw[Dvz,kv,Czz,hn];rfl
 have b1:((iL (aV g r A)).take k).length<=3:=Bgz (Fnz _ _) (by omega);have b2:((iL (r.rt_.map (ba g))).take k).length<=3:=Bgz (Fnz _ _) (by omega);have hx:(iL (A.map (·.length)))[ba g n]?=some ((ei g A n).length:Int):=by rw[kv,Czz,k3];rfl
 rw[e1,e2];generalize (iL (aV g r A)).take k=s1 at b1;generalize (iL (r.rt_.map (ba g))).take k=s2 at b2;generalize iL (A.map (·.length))=cc at hx;unfold vR;dsimp only;rw[AZ,aj,k1,aE (by omega),cd,hx,aj,aE (wT b1),aE (wT b2)]
theorem V7 {g:al}(h0:Sz.szd g<=1048576)(hS:Shape g){r:ae}(Z:r∈g.rs_){A:List (List au)}(hA:aH g A){F:List (List aw)}(b:Bool)(hi:aH g (aC F))(he:bJ A (aC F)) :
  ∃ F' b',qj g r F (iL (A.map (·.length))) g F b r (fl g r.Left)=some (F',b')/\(aC F',b')=fW g A (aC F,b) r:=by
 have h3:=eQ hS Z;obtain⟨F',b',e,hF⟩:=TF h0 hS Z hA b hi he;refine⟨F',b',?_,hF⟩;unfold qj;obtain⟨s',e2,hp⟩:=iw (P:=λk (s:List Int×List Int)=>s=((iL (aV g r A)).take k,(iL (r.rt_.map (ba g))).take k)) (f:=vR g (iL (A.map (·.length)))) (xs:=r.rt_) (i:=0) (s:=([],[])) (by rw[Fkz,Fkz]) λk n s hn hs=>by
  rw[Adz] at hs ⊢;rw[hs];exact⟨_,xL hS Z hA hn,rfl⟩
 rw[Adz] at hp;rw[e2,hp,Biz (by rw[fT,jr];omega),Biz (by rw[fT,bc];omega),aj];dsimp only;rw[e];rfl
theorem KF {g:al}(h0:Sz.szd g<=1048576)(hS:Shape g){A:List (List au)}(hA:aH g A):∀ (rs:List ae) (i:Nat) (F:List (List aw)) (b:Bool),(∀ r∈rs,r∈g.rs_)->aH g (aC F)->bJ A (aC F) ->
  ∃ F' b',eachL (pE g (iL (A.map (·.length)))) i rs (F,b)=some (F',b')/\(aC F',b')=rs.foldl (fW g A) (aC F,b)
 | [],i,F,b,_,hi,he=>⟨F,b,rfl,rfl⟩
 | r::rs,i,F,b,hrs,hi,he=>by
  have Z:=hrs r (by simp);obtain⟨F1,b1,e1,hF1⟩:=V7 h0 hS Z hA b hi he;have mv:=Ay h0 hS Z (q:=(aC F,b)) hi he;rw[← hF1] at mv;obtain⟨F2,b2,e2,hF2⟩:=KF h0 hS hA rs (i+1) F1 b1 (λx hx=>hrs x (by simp[hx])) mv.inv mv.ext;refine⟨F2,b2,?_,by rw[Fmz,← hF1];exact hF2⟩;rw[eachL,show pE g (iL (A.map (·.length))) i r (F,b)=some (F1,b1) by
   unfold pE;dsimp only;rw[AZ,aj,e1];rfl,aj]
  exact e2
noncomputable def lD (g:al) (A:List (List au)):List (List au)×Bool:=g.rs_.foldl (fW g A) (A,false)
theorem tk {g:al}(h0:Sz.szd g<=1048576)(hS:Shape g){A:List (List au)}(hA:aH g A):Mv g A (A,false) (lD g A):=
 Mv.fold _ _ hA (.rfl' A) λq r Z h he=>Ay h0 hS Z h he
theorem LJ {g:al}(h0:Sz.szd g<=1048576)(hS:Shape g){F:List (List aw)}(hi:aH g (aC F)) :
  ∃ F',pL g F=some (if (lD g (aC F)).2=true then .inl F' else .inr F')/\aC F'=(lD g (aC F)).1:=by
 obtain⟨F',b',e,hF⟩:=KF h0 hS hi g.rs_ 0 F false (λ_ h=>h) hi (.rfl' _);have hl:F.length<=1048576:=by
  have U:=hi.1;have K:=hS.syms.2;unfold aC at U;rw[bc] at U;omega
 have Z:lD g (aC F)=(aC F',b'):=hF.symm;refine⟨F',?_,by rw[Z]⟩;unfold pL;rw[ud hl,aj,e,aj,Z];dsimp only;cases b'<;>rfl
theorem xo {A:List (List au)}(h:A.length<=1048576):nY A=some (iL (A.map (·.length))):=by
 unfold nY;rw[nH (g:=λl:List au=>(l.length:Int)) (B:=1048576) A 0 [] (λk x s hx hs=>by
  unfold GU;rw[aE (by constructor<;>omega)]) (by rw[Dyz];omega),aj,Edz]
 unfold iL;rw[List.map_map];rfl
theorem Jz (n:Nat):jt 0 (n:Int)=some (n:Int):=by
 rw[Eh];by_cases h:(n:Int) > 0;rw[ao h];rw[an h,show (n:Int)=0 by omega]
theorem xK {g:al}(hS:Shape g){r:ae}(Z:r∈g.rs_){A:List (List au)}(hA:aH g A):oq g r (iL (A.map (·.length)))=some ((bY (aV g r A)).map iL):=by
 have h3:=eQ hS Z;unfold oq;have key:∀ (k:Nat),k<=r.rt_.length->(∀ c∈(aV g r A).take k,c<=16)/\((aV g r A).take k).length=k:=λk hk=>by
  refine⟨λc hc=>wv hS Z hA c (List.mem_of_mem_take hc),?_⟩;rw[Brz,jr];omega
 obtain⟨s',e2,hp⟩:=iw (P:=λk (s:List (List Int))=>s=(bY ((aV g r A).take k)).map iL) (f:=Cf g (iL (A.map (·.length)))) (xs:=r.rt_) (i:=0) (s:=[[]]) (by rw[Fkz];rfl) λk n s hn hs=>by
  rw[Adz] at hs ⊢;have hlt:=(List.getElem?_eq_some_iff.1 hn).1;have hkn:=hS.right Z (Bvz hn);obtain⟨k1,k2,k3,_,_⟩:=hA.at_ hkn;have hle:=hA.le hS hkn;have htk:(aV g r A).take (k+1)=(aV g r A).take k++[(ei g A n).length]:=by
   rw[Dvz];unfold aV;rw[Czz,hn];rfl
  have hcl:(bY ((aV g r A).take k)).length<=256:=by
   unfold bY;rw[bc,Flz];have h4:=I7 (key k (by omega)).1;rw[(key k (by omega)).2] at h4;have h5:16 ^ k<=16 ^ 2:=Nat.pow_le_pow_right (by omega) (by omega);omega
  refine⟨(bY ((aV g r A).take (k+1))).map iL,?_,rfl⟩;unfold Cf;rw[qv,aj,k1,Jz (ba g n),aj,aE (by omega),cd,kv,Czz,k3];simp only[Byz,aj];rw[hs,htk,TH];obtain⟨s2,e3,hp2⟩:=iw (P:=λj (s:List (List Int))=>s=(((bY ((aV g r A).take k)).take j).flatMap λc=>(List.range (ei g A n).length).map λd=>iL (c++[d]))) (f:=Cg ((ei g A n).length:Int)) (xs:=(bY ((aV g r A).take k)).map iL) (i:=0) (s:=[]) (by rw[Fkz];rfl) λj x s hx hs2=>by
   rw[Adz] at hs2 ⊢;rw[Czz] at hx;cases hc:(bY ((aV g r A).take k))[j]? with
   | none=>rw[hc] at hx;cases hx
   | some c=>
    rw[hc] at hx;cases hx;have hj:=(List.getElem?_eq_some_iff.1 hc).1;have hclen:c.length=k:=by
     obtain⟨m,hm,rfl⟩:=List.mem_map.1 (Bvz hc);rw[o8,(key k (by omega)).2]
    have hsl:s.length<=256*16:=by
     rw[hs2,F8 (n:=(ei g A n).length) λc=>by rw[bc,Flz]];rw[Brz];exact Nat.mul_le_mul (by omega) hle
    unfold Cg;rw[cd];obtain⟨s3,e4,hp3⟩:=sU (P:=λd (t:List (List Int))=>t=s++(List.range d).map λd=>iL (c++[d])) (f:=Ci (iL c)) (n:=(ei g A n).length) (i:=0) (s:=s) (by rw[List.range_zero,List.map_nil,Cgz]) λd t U K ht=>by
     have htl:t.length<=256*16+16:=by rw[ht,Axz,bc,Flz];omega
     refine⟨_,by
      unfold Ci;rw[aE (by rw[Dyz,fT];constructor<;>omega),aE (by rw[fT];constructor<;>omega),aE (by constructor<;>omega)],?_⟩
     rw[ht,List.range_succ,Diz,Azz,Blz,List.map_nil,P5 c [d]];rfl
    refine⟨s3,by rw[e4];rfl,?_⟩;rw[hp3,Adz,hs2,Dvz,hc,List.flatMap_append];simp
  rw[e3];rw[Adz,bc,Fiz] at hp2;rw[hp2,List.map_flatMap];simp only[List.map_map,aj];rfl
 rw[e2,hp,Adz,Biz (by rw[jr];omega)];rfl
theorem HT {l:List au}(h:l.length<=16):((l.length:Int)+1)*32<=140737488355328/\(l.length:Int)+1<=9223372036854775807:=by constructor<;>omega
theorem WS {g:al}(hS:Shape g){r:ae}(Z:r∈g.rs_){A:List (List au)}(hA:aH g A){c:List Nat}(h:Ch g r A c){k d:Nat}(hd:c[k]?=some d) :
  xV g r A k (d:Int) ((dq g r A c).take k)=some ((dq g r A c).take (k+1)):=by
 have h3:=eQ hS Z;have hlt:=(List.getElem?_eq_some_iff.1 hd).1;rw[h.1] at hlt;obtain⟨n,hn⟩:∃ n,r.rt_[k]?=some n:=⟨_,Cmz hlt⟩
 obtain⟨own,U,K⟩:=ES h hn hd;obtain⟨k1,k2,k3,_,_⟩:=hA.at_ (hS.right Z (Bvz hn));have e1:(dq g r A c).take (k+1)=(dq g r A c).take k++[own]:=by rw[Dvz,U];rfl
 have b1:((dq g r A c).take k).length<=16:=Bgz (Fnz _ _) (by omega);rw[e1];generalize (dq g r A c).take k=s at b1;unfold xV;rw[hn,aj,qv,aj,k1,Jz,aj,aE (by omega),cd,k3,aj,aE (by omega),cd,K,aj,aE (HT b1)]
theorem tj {g:al}(hS:Shape g){r:ae}(Z:r∈g.rs_){A:List (List au)}(hA:aH g A){c:List Nat}(h:Ch g r A c) :
  nQ g r A (iL c)=some (dq g r A c):=by
 unfold nQ;obtain⟨s',e,hp⟩:=iw (P:=λk s=>s=(dq g r A c).take k) (f:=xV g r A) (xs:=iL c) (i:=0) (s:=[]) (by rw[Fkz]) λk x s hx hs=>by
  rw[Adz] at hs ⊢;rw[kv] at hx;cases hd:c[k]? with
  | none=>rw[hd] at hx;cases hx
  | some d=>
   rw[hd] at hx;have hx:(d:Int)=x:=Option.some.inj hx;rw[hs,← hx];exact⟨_,WS hS Z hA h hd,rfl⟩
 rw[e,hp,fT,Adz,h.1,← tl h,Fiz];rfl
theorem Jy (l:List au)(s:au):ra l s=some (decide (s∈l)):=by
 unfold ra;rw[pk (q:=λf:au=>decide (f=s)) (c:=λ_=>true) λj x hx=>by
  unfold M7;rw[Je,aj,← apply_ite some]]
 cases e:l.findIdx? λf=>decide (f=s) with
 | none=>
  rw[Fjz] at e;have:¬ s∈l:=λh=>by
   have:=e s h;simp at this
  rw[decide_eq_false this];rfl
 | some j=>
  rw[Eqz] at e;obtain⟨hj,U,K⟩:=e;have U:l[j]=s:=of_decide_eq_true U;have:s∈l:=U▸List.getElem_mem hj;rw[decide_eq_true this];rfl
theorem TE {g:al}(h0:Sz.szd g<=1048576)(hS:Shape g){r:ae}(Z:r∈g.rs_){A:List (List au)}(hA:aH g A){q:List (List au)×Bool}(hi:aH g q.1){c:List Nat}(h:Ch g r A c)(k:Nat) :
  yi g A r (fl g r.Left) k (iL c) q=some (stA (ba g r.Left) (eY g r A c) q):=by
 obtain⟨B,b⟩:=q;obtain⟨U,K,h3,h4,h5⟩:=hi.at_ (hS.left Z);have hle:=hi.le hS (hS.left Z);dsimp only at U K h3 h4 h5 hle;have hgd:B.getD (ba g r.Left) []=ei g B r.Left:=rfl;obtain⟨e1,_,_⟩:=nD h0 (Bgz (gv Z) h0) (nM hS Z hA h);have h3r:=eQ hS Z;unfold yi stA;dsimp only;rw[tj hS Z hA h,aj,e1,aj,(wH (gZ h0) (by show r.rt_.length<=1048576;omega) _).1,aj,U,aE (by omega),cd,h3,aj,Jy,aj,hgd];rw[show cG g r (dQ g r (dq g r A c))=eY g r A c from rfl];by_cases hm:eY g r A c∈ei g B r.Left;rw[ao (decide_eq_true hm),ao hm];rfl;rw[decide_eq_false hm,an Fpz,an hm,aE (HT hle)];rfl
theorem Jx {g:al}(h0:Sz.szd g<=1048576)(hS:Shape g){r:ae}(Z:r∈g.rs_){A:List (List au)}(hA:aH g A):∀ (cs:List (List Nat)) (k:Nat) (q:List (List au)×Bool),(∀ c∈cs,Ch g r A c)->aH g q.1->bJ A q.1 ->
  eachL (yi g A r (fl g r.Left)) k (cs.map iL) q=some (cs.foldl (λq c=>stA (ba g r.Left) (eY g r A c) q) q)
 | [],k,q,_,_,_=>rfl
 | c::cs,k,q,hc,hi,he=>by
  have mv:=Ai (A:=A) hS Z (q:=q) hi he (Az h0 hS r (dQ g r (dq g r A c)));rw[Blz,eachL,TE h0 hS Z hA hi (hc c (by simp)),aj,Fmz];exact Jx h0 hS Z hA cs (k+1) _ (λx hx=>hc x (by simp[hx])) mv.inv mv.ext
theorem Jw {g:al}(h0:Sz.szd g<=1048576)(hS:Shape g){A:List (List au)}(hA:aH g A):∀ (rs:List ae) (i:Nat) (q:List (List au)×Bool),(∀ r∈rs,r∈g.rs_)->aH g q.1->bJ A q.1 ->
  eachL (yh g A) i rs q=some (rs.foldl (fW g A) q)
 | [],i,q,_,_,_=>rfl
 | r::rs,i,q,hrs,hi,he=>by
  have Z:=hrs r (by simp);have mv:=Ay h0 hS Z hi he;have hl:A.length<=1048576:=by have U:=hA.1;have K:=hS.syms.2;omega
  have e:yh g A i r q=some (fW g A q r):=by
   unfold yh;obtain⟨B,b⟩:=q;dsimp only;rw[xo hl,aj,xK hS Z hA,aj,qv,aj,Jx h0 hS Z hA _ 0 (B,b) (λc hc=>mb hc) hi he,aj];rfl
  rw[eachL,e,aj,Fmz];exact Jw h0 hS hA rs (i+1) _ (λx hx=>hrs x (by simp[hx])) mv.inv mv.ext
theorem Fx {g:al}(h0:Sz.szd g<=1048576)(hS:Shape g){A:List (List au)}(hA:aH g A):uu g A=some (lD g A):=by
 have hl:A.length<=4:=by have U:=hA.1;have K:=hS.syms.2;omega
 unfold uu;rw[nH (g:=λl:List au=>l) (B:=1048576) A 0 [] (λk x s hx hs=>by
  obtain⟨j,hj⟩:=Elz hx;have hlt:=(List.getElem?_eq_some_iff.1 hj).1;obtain⟨y,hy⟩:∃ y,g.ss_[j]?=some y:=⟨_,Cmz (by rw[← hA.1];exact hlt)⟩
  have hx16:x.length<=16:=xM (hS.plain y.Name) (hA.2 j y x hy hj).1 (hA.2 j y x hy hj).2;unfold N7;rw[aE (by rw[Dyz];constructor<;>omega),aE (by constructor<;>omega)]) (by rw[Dyz];omega),aj,Edz,List.map_id',Jw h0 hS hA g.rs_ 0 (A,false) (λ_ h=>h) hA (.rfl' A),aj]
 rfl
theorem P3 {g:al}(h0:Sz.szd g<=1048576)(hS:Shape g):∀ (d:Nat) (F:List (List aw)),aH g (aC F)->g.ss_.length*16-dm (aC F)<=d ->
  ∃ F',bA (pL g) F=some F'/\bA (pY g) (aC F)=some (aC F',true)/\aH g (aC F'):=by
 intro d
 induction d with
 | zero=>
  intro F hi hd;obtain⟨F1,e1,hF⟩:=LJ h0 hS hi;have mv:=tk h0 hS hi;have Y:=mv.inv.bound hS;have hc:(lD g (aC F)).2=false:=by
   cases hq:(lD g (aC F)).2 with
   | false=>rfl
   | true=>
    rcases mv.up hq with h|h;cases h;dsimp only at h;omega
  have hno:=mv.no hc;rw[hc,an Fpz] at e1;have hF1:aC F1=aC F:=by rw[hF,hno]
  refine⟨F1,cF e1,?_,by rw[hF1];exact hi⟩;rw[hF1];exact cF (by unfold pY;rw[Fx h0 hS hi,aj,hno];rfl)
 | succ d ih=>
  intro F hi hd;obtain⟨F1,e1,hF⟩:=LJ h0 hS hi;have mv:=tk h0 hS hi;have Y:=mv.inv.bound hS;cases hq:(lD g (aC F)).2 with
  | false=>
   have hno:=mv.no hq;rw[hq,an Fpz] at e1;have hF1:aC F1=aC F:=by rw[hF,hno]
   refine⟨F1,cF e1,?_,by rw[hF1];exact hi⟩;rw[hF1];exact cF (by unfold pY;rw[Fx h0 hS hi,aj,hno];rfl)
  | true=>
   rw[hq,ao rfl] at e1;have hlt:dm (aC F)<dm (aC F1):=by
    rw[hF];rcases mv.up hq with h|h;cases h;exact h
   obtain⟨F',U,K,h3⟩:=ih F1 (by rw[hF];exact mv.inv) (by omega);refine⟨F',by rw[eh e1];exact U,?_,h3⟩;have s1:pY g (aC F)=some (.inl (aC F1)):=by
    unfold pY;rw[Fx h0 hS hi,aj,hF];dsimp only;rw[hq];rfl
   rw[eh s1];exact K
theorem LI {g:al}(h0:Sz.szd g<=1048576)(hS:Shape g):∃ F,kO g=some F/\bA (pY g) (Bqz g.ss_.length [])=some (aC F,true)/\aH g (aC F):=by
 have e:aC (Bqz g.ss_.length [])=Bqz g.ss_.length []:=by unfold aC;rw[Dhz];rfl
 obtain⟨F,U,K,h3⟩:=P3 h0 hS _ (Bqz g.ss_.length []) (by
  rw[e];refine⟨by rw[List.length_replicate],λk y L _ hL=>?_⟩;rw[List.getElem?_replicate] at hL;split at hL;cases hL;exact⟨List.nodup_nil,λa ha=>by simp at ha⟩;cases hL) (Acz _)
 rw[e] at K;have hs:=hS.syms.2;refine⟨F,?_,K,h3⟩;unfold kO;rw[aE (by refine⟨?_,?_,?_⟩<;>omega),U];rfl
end Go.Proofs.YtodhafdaelcnlaaGreat
