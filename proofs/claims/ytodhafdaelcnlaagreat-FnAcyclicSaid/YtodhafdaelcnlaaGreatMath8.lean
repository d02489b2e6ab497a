/- What those partial functions come to: plain lemmas on data; each bears its conditions in its statement. -/
import Derived.Test.YtodhafdaelcnlaaGreatMath7
set_option linter.unusedVariables false
set_option linter.unusedSimpArgs false
set_option linter.ambiguousOpen false
set_option linter.unusedSectionVars false
set_option linter.unnecessarySimpa false
set_option maxRecDepth 100000
set_option maxHeartbeats 4000000
open List renaming getElem?_map->Czz,map_append->Diz,replicate->Bqz,drop_zero->Fiz,getElem?_eq_getElem->Cmz,drop_eq_getElem_cons->Csz,take_add_one->Dvz,length_take->Brz,append_assoc->Azz,take_length->Fjz,length_nil->Dyz,findIdx?_eq_none_iff->Fkz,findIdx?_eq_some_iff_getElem->Eqz,getElem_mem->Flz,take_zero->Fmz,mem_of_getElem?->Bvz,length_range->Fnz,foldl_cons->Foz,map_replicate->Dhz,nil_append->Edz,map_cons->Blz,length_take_le->Fpz,take_of_length_le->Biz,length_append->Axz,getElem?_of_mem->Elz,getD_eq_getElem?_getD->Cwz
open Nat renaming sub_self->Fqz,zero_add->Adz,le_trans->Bgz
open Option renaming map_some->Byz
open Bool renaming false_ne_true->Evz
namespace Go.Proofs.YtodhafdaelcnlaaGreat
open Go Go.E
theorem kE (l:List Nat)(i:Nat):(iL l)[i]?=(l[i]?).map λn:Nat=>(n:Int):=by unfold iL;rw[Czz]
theorem jA (l:List Nat):(iL l).length=l.length:=by unfold iL;rw[bn]
theorem SG (l m:List Nat):iL (l++m)=iL l++iL m:=by unfold iL;rw[Diz]
theorem SF (l:List Nat)(i x:Nat):(iL l).set i (x:Int)=iL (l.set i x):=by unfold iL;rw[List.map_set]
theorem Ld:∀ (m:Nat) (cs ds e:List Nat),ds.length=cs.length->jR (cs.drop m) (ds.drop m)=some e->jR cs ds=some (ds.take m++e)
 | 0,cs,ds,e,_,h=>by simpa using h
 | m+1,[],ds,e,hl,h=>by rw[List.drop_nil] at h;simp[jR] at h
 | m+1,c::cs,[],e,hl,h=>by simp at hl
 | m+1,c::cs,d::ds,e,hl,h=>by
  rw[jR,Ld m cs ds e (by simpa using hl) (by simpa using h)];rfl
def rX (cs ds:List Nat)(q:Int×List Int):Prop:=match jR cs ds with
 | none=>q.1<0
 | some e=>0<=q.1/\∃ x:Nat,q.2[q.1.toNat]?=some (x:Int)/\x<=1048576/\q.2.set q.1.toNat ((x+1:Nat):Int)=iL e
theorem Kt {cs ds:List Nat}{f:(Int×List Int)->Option ((Int×List Int) ⊕ (Int×List Int))}(hf:f=rS (iL cs))(hl:ds.length=cs.length)(hd:∀ (i d c:Nat),ds[i]?=some d->cs[i]?=some c->d<c/\c<=1048576)(hn:cs.length<=1048576) :
  ∀ m:Nat,m<=cs.length->jR (cs.drop m) (ds.drop m)=none->∃ q,bE f ((m:Int)-1,iL (ds.take m++Bqz (cs.length-m) 0))=some q/\rX cs ds q
 | 0,_,h=>by
  refine⟨_,db (r:=_) (by rw[hf];unfold rS;dsimp only;rw[al (by omega)]),?_⟩;unfold rX;rw[Fiz,Fiz] at h;rw[h];show (0:Int)-1<0;omega
 | m+1,hm,h=>by
  have hm1:m<cs.length:=hm;have hm2:m<ds.length:=by omega
  obtain⟨c,hc⟩:∃ c,cs[m]?=some c:=⟨_,Cmz hm1⟩
  obtain⟨d,hdd⟩:∃ d,ds[m]?=some d:=⟨_,Cmz hm2⟩
  obtain⟨U,W⟩:=hd m d c hdd hc;have ed:ds.drop m=d::ds.drop (m+1):=by rw[Csz hm2];rw[Cmz hm2] at hdd;rw[Option.some.inj hdd]
  have ec:cs.drop m=c::cs.drop (m+1):=by rw[Csz hm1];rw[Cmz hm1] at hc;rw[Option.some.inj hc]
  have et:ds.take (m+1)=ds.take m++[d]:=by rw[Dvz,hdd];rfl
  have hlen:(ds.take m).length=m:=by rw[Brz];omega
  have hg:(iL (ds.take (m+1)++Bqz (cs.length-(m+1)) 0))[m]?=some (d:Int):=by
   rw[kE,et,Azz,List.getElem?_append_right (by omega),hlen,Fqz];rfl
  have hset:∀ x:Nat,(iL (ds.take (m+1)++Bqz (cs.length-(m+1)) 0)).set m (x:Int)=iL (ds.take m++x::Bqz (cs.length-(m+1)) 0):=λx=>by
   rw[SF,et,Azz,List.set_append_right _ _ (by omega),hlen,Fqz];rfl
  have hN:(((m+1:Nat):Int)-1)=(m:Int):=by omega
  by_cases e:d=c-1;have hs:f (((m+1:Nat):Int)-1,iL (ds.take (m+1)++Bqz (cs.length-(m+1)) 0))=some (.inl ((m:Int)-1,iL (ds.take m++Bqz (cs.length-m) 0))):=by
   rw[hf];unfold rS;dsimp only;rw[hN,ao (by omega),aD (by omega),cE,hg,aj,aD (by omega),kE,hc,Byz,aj,aD ⟨by omega,by omega⟩,ao (by omega),aD ⟨by omega,by omega⟩];have:=hset 0;rw[show ((0:Nat):Int)=0 from rfl] at this;rw[this,show cs.length-m=(cs.length-(m+1))+1 by omega,List.replicate_succ]
  rw[fi hs];refine Kt hf hl hd hn m (by omega) ?_;rw[ec,ed,jR,h];dsimp only;rw[al (by omega)];refine⟨_,db (r:=_) (by
   rw[hf];unfold rS;dsimp only;rw[hN,ao (by omega),aD (by omega),cE,hg,aj,aD (by omega),kE,hc,Byz,aj,aD ⟨by omega,by omega⟩,al (by omega)]),?_⟩
  have hx:jR cs ds=some (ds.take m++(d+1)::Bqz (cs.length-(m+1)) 0):=by
   refine Ld m cs ds _ hl ?_;rw[ec,ed,jR,h];dsimp only;rw[ao (by omega),List.length_drop]
  unfold rX;rw[hx];dsimp only;refine⟨by omega,d,?_,by omega,?_⟩;rw[cE];exact hg;rw[cE];exact hset (d+1)
theorem L5 {cs ds:List Nat}{f:(Int×List Int)->Option ((Int×List Int) ⊕ (Int×List Int))}(hf:f=rS (iL cs))(hl:ds.length=cs.length)(hd:∀ (i d c:Nat),ds[i]?=some d->cs[i]?=some c->d<c/\c<=1048576)(hn:cs.length<=1048576) :
  ∃ q,bE f (((iL cs).length:Int)-1,iL ds)=some q/\rX cs ds q:=by
 have:=Kt hf hl hd hn cs.length (Nat.le_refl _) (by rw[List.drop_length,jR];intro a b c d h;simp at h);rw[Fqz,List.replicate_zero,List.append_nil,← hl,Fjz] at this;rw[jA,← hl];exact this
def aY (F:List (List aJ)):List (List au):=F.map λl=>l.map aJ.sy_
theorem Jn (F:List (List aJ))(k:Nat):(aY F)[k]?=(F[k]?).map λl=>l.map aJ.sy_:=by unfold aY;rw[Czz]
theorem Ks (l:List Int)(h:l.length<=1048576):nV l=some l:=by
 unfold nV;rw[aD (by rw[Dyz];constructor<;>omega)]
theorem Tq (fs:List aJ)(s:au):vD fs s=some (decide (s∈fs.map aJ.sy_)):=by
 unfold vD yZ;rw[oS (q:=λf:aJ=>decide (f.sy_=s)) (c:=λk=>(k:Int)) λj x hx=>by
  unfold Hy yh;rw[SQ,aj,aj,← apply_ite some]]
 cases e:fs.findIdx? λf=>decide (f.sy_=s) with
 | none=>
  rw[Fkz] at e;have:¬ s∈fs.map aJ.sy_:=λh=>by
   obtain⟨f,U,W⟩:=List.mem_map.1 h;have:=e f U;simp[W] at this
  rw[decide_eq_false this];rfl
 | some j=>
  rw[Eqz] at e;obtain⟨hj,U,W⟩:=e;have:s∈fs.map aJ.sy_:=List.mem_map.2 ⟨fs[j],Flz hj,of_decide_eq_true U⟩;rw[decide_eq_true this];dsimp only;simp only[aj,qy];rw[decide_eq_true (by omega)]
theorem Tp {g:ak}(h0:Sz.szd g<=1048576)(hS:Shape g){r:aa}(Z:r∈g.rs_){F:List (List aJ)}{b:Bool}(hi:aX g (aY F)){c:List Int}(hc:c.length<=1048576)(x:au) :
  ∃ F',tZ c x g F b r (gy g r.Left)=some (true,F',(stA (cq g r.Left) (eU g r x) (aY F,b)).2)/\aY F'=(stA (cq g r.Left) (eU g r x) (aY F,b)).1:=by
 obtain⟨U,W,h3,h4,h5⟩:=hi.at_ (hS.left Z);have hle:=hi.le hS (hS.left Z);have hw:cq g r.Left<F.length:=by unfold aY at W;rwa[bn] at W
 obtain⟨fs,hf⟩:∃ fs,F[cq g r.Left]?=some fs:=⟨_,Cmz hw⟩
 have hm:eH g (aY F) r.Left=fs.map aJ.sy_:=by
  rw[Jn,hf] at h3;exact (Option.some.inj h3).symm
 have hgd:(aY F).getD (cq g r.Left) []=fs.map aJ.sy_:=hm;rw[hm,bn] at hle;unfold tZ stA;dsimp only;rw[hgd,(DZ (iP h0) (by have:=hJ hS Z;show r.rt_.length<=1048576;omega) x).2,aj,U,aD (by omega),cE,hf,aj,Tq,aj];by_cases hs:eU g r x∈fs.map aJ.sy_;rw[ao (decide_eq_true hs),ao hs];exact⟨F,rfl,rfl⟩;rw[decide_eq_false hs,al Evz,al hs,Ks c hc,aj,aD (by constructor<;>omega)];refine⟨_,rfl,?_⟩;unfold aY;rw[List.map_set,Diz];rfl
theorem Kr {g:ak}(hS:Shape g){r:aa}(Z:r∈g.rs_){A:List (List au)}(hA:aX g A){F:List (List aJ)}(he:cd A (aY F)){c:List Nat}(h:Ch g r A c) :
  eachL (zc F (iL (r.rt_.map (cq g)))) 0 (iL c) []=some (fy g r A c):=by
 have h3:=hJ hS Z;obtain⟨s',e,hp⟩:=iW (P:=λk s=>s=(fy g r A c).take k) (f:=zc F (iL (r.rt_.map (cq g)))) (xs:=iL c) (i:=0) (s:=[]) (by rw[Fmz]) λk x s hx hs=>by
  rw[Adz] at hs ⊢;rw[kE] at hx;cases hd:c[k]? with
  | none=>rw[hd] at hx;cases hx
  | some d=>
   rw[hd] at hx;cases hx;have hlt:=(List.getElem?_eq_some_iff.1 hd).1;rw[h.1] at hlt;obtain⟨n,hn⟩:∃ n,r.rt_[k]?=some n:=⟨_,Cmz hlt⟩
   obtain⟨own,U,W⟩:=EA h hn hd;obtain⟨t,ht⟩:=he.2 _ _ (hA.at_ (hS.right Z (Bvz hn))).2.2.1;rw[Jn] at ht;cases hf:F[cq g n]? with
   | none=>rw[hf] at ht;cases ht
   | some fs=>
    rw[hf] at ht;have ht:fs.map aJ.sy_=eH g A n++t:=Option.some.inj ht;have hd2:=h.2 k n d hn hd;have hfd:(fs.map aJ.sy_)[d]?=some own:=by rw[ht,List.getElem?_append_left hd2];exact W
    rw[Czz] at hfd;cases hq:fs[d]? with
    | none=>rw[hq] at hfd;cases hfd
    | some q=>
     rw[hq] at hfd;have hfd:=Option.some.inj hfd;have hsl:s.length<=3:=by rw[hs,Brz,sD h];omega
     refine⟨s++[own],?_,?_⟩;unfold zc;rw[kE,Czz,hn];simp only[Byz,aj];rw[aD (by omega),cE,hf,aj,aD (by omega),cE,hq,aj,aD (by constructor<;>omega),hfd];rw[hs,Dvz,U];rfl
 rw[e,hp,jA,Adz,h.1,← sD h,Fjz]
theorem Wr {g:ak}(h0:Sz.szd g<=1048576)(hS:Shape g){r:aa}(Z:r∈g.rs_){A:List (List au)}(hA:aX g A){F:List (List aJ)}{b:Bool}(hi:aX g (aY F))(he:cd A (aY F)){c:List Nat}(h:Ch g r A c) :
  ∃ F',vB (iL c) g F b r (gy g r.Left) g r F (iL (r.rt_.map (cq g)))=some (true,F',(stA (cq g r.Left) (eG g r A c) (aY F,b)).2,F')/\aY F'=(stA (cq g r.Left) (eG g r A c) (aY F,b)).1:=by
 have h3:=hJ hS Z;obtain⟨_,e2,_⟩:=Ao h0 (Bgz (ia Z) h0) (wX hS Z hA h);obtain⟨F',e,hF⟩:=Tp h0 hS Z (b:=b) hi (c:=iL c) (by rw[jA,h.1];omega) (fS g r (fy g r A c));refine⟨F',?_,hF⟩;unfold vB;rw[Kr hS Z hA he h,aj,e2,aj,e];rfl
theorem DN {g:ak}(hS:Shape g){r:aa}(Z:r∈g.rs_){A:List (List au)}(hA:aX g A):∀ c∈bC g r A,c<=16:=λc hc=>by
 obtain⟨n,U,rfl⟩:=List.mem_map.1 hc;exact hA.le hS (hS.right Z U)
theorem nA (g:ak)(r:aa)(A:List (List au)):(bC g r A).length=r.rt_.length:=by unfold bC;rw[bn]
theorem Ix {g:ak}{r:aa}{A:List (List au)}{n:Nat}(h:n<cJ (bC g r A)):Ch g r A (bO (bC g r A) n):=Dw (List.mem_map.2 ⟨n,List.mem_range.2 h,rfl⟩)
theorem Kq {g:ak}(h0:Sz.szd g<=1048576)(hS:Shape g){r:aa}(Z:r∈g.rs_){A:List (List au)}(hA:aX g A) :
  ∀ (d n:Nat) (F:List (List aJ)) (b:Bool),n<cJ (bC g r A)->cJ (bC g r A)-n=d->aX g (aY F)->cd A (aY F) ->
   ∃ F' b',bE (vF (iL (bC g r A)) g r (gy g r.Left) g r (iL (r.rt_.map (cq g)))) (iL (bO (bC g r A) n),F,b)=some (.inr (F',b',F')) /\
    (aY F',b')=((cP (bC g r A)).drop n).foldl (λq c=>stA (cq g r.Left) (eG g r A c) q) (aY F,b)
 | 0,n,F,b,hn,hd,hi,he=>by omega
 | d+1,n,F,b,hn,hd,hi,he=>by
  have hch:=Ix hn;obtain⟨F1,e1,hF1⟩:=Wr h0 hS Z hA (b:=b) hi he hch;have mv:=zX (A:=A) hS Z (q:=(aY F,b)) hi he (wb h0 hS r (fS g r (fy g r A (bO (bC g r A) n))));have h3:=hJ hS Z;have hcl:=nA g r A;obtain⟨q,e2,hq⟩:=L5 (cs:=bC g r A) (ds:=bO (bC g r A) n) rfl (wt _ _) (λi d c U W=>⟨Ak hn i d c U W,by have:=DN hS Z hA c (Bvz W);omega⟩) (by omega);obtain⟨q1,q2⟩:=q;have hdrop:(cP (bC g r A)).drop n=bO (bC g r A) n::(cP (bC g r A)).drop (n+1):=by
   have hl:n<(cP (bC g r A)).length:=by unfold cP;rw[bn,Fnz];exact hn
   have hg:(cP (bC g r A))[n]?=some (bO (bC g r A) n):=by
    unfold cP;rw[Czz,List.getElem?_range hn];rfl
   rw[Cmz hl] at hg;rw[Csz hl,Option.some.inj hg]
  rw[hdrop,Foz];have e3:(aY F1,(stA (cq g r.Left) (eG g r A (bO (bC g r A) n)) (aY F,b)).2)=stA (cq g r.Left) (eG g r A (bO (bC g r A) n)) (aY F,b):=by rw[hF1]
  rw[← e3];have hi1:aX g (aY F1):=by rw[hF1];exact mv.inv
  have he1:cd A (aY F1):=by rw[hF1];exact mv.ext
  unfold rX at hq;rw[EC _ _ hn] at hq;by_cases hlast:n+1<cJ (bC g r A);rw[ao hlast] at hq;obtain⟨k0,x,hx,hxl,hset⟩:=hq;dsimp only at k0 hx hset;have hs:vF (iL (bC g r A)) g r (gy g r.Left) g r (iL (r.rt_.map (cq g))) (iL (bO (bC g r A) n),F,b)=some (.inl (iL (bO (bC g r A) (n+1)),F1,(stA (cq g r.Left) (eG g r A (bO (bC g r A) n)) (aY F,b)).2)):=by
   unfold vF;dsimp only;rw[e1,aj];dsimp only;rw[ao rfl,e2,aj];dsimp only;rw[al (by omega),aD k0,hx,aj,aD ⟨by omega,by omega⟩,← hset];rfl
  rw[fi hs];exact Kq h0 hS Z hA d (n+1) F1 _ hlast (by omega) hi1 he1;rw[al hlast] at hq;dsimp only at hq;refine⟨F1,_,db (by
   unfold vF;dsimp only;rw[e1,aj];dsimp only;rw[ao rfl,e2,aj];dsimp only;rw[ao hq]),?_⟩
  have:(cP (bC g r A)).drop (n+1)=[]:=List.drop_eq_nil_of_le (by unfold cP;rw[bn,Fnz];omega);rw[this];rfl
theorem NB (l:List Nat):rR (iL l) 0=some (decide (0∈l)):=by
 unfold rR yR;rw[oS (q:=λx:Int=>decide (x=0)) (c:=λk=>(k:Int)) λj x hx=>by
  unfold Hh;by_cases h:x=0;rw[ao h.symm,ao (decide_eq_true h)];rw[al (λe=>h e.symm),al (by simpa using h)]]
 cases e:(iL l).findIdx? λx=>decide (x=0) with
 | none=>
  rw[Fkz] at e;have:¬ 0∈l:=λh=>by
   have:=e 0 (List.mem_map.2 ⟨0,h,rfl⟩);simp at this
  rw[decide_eq_false this];rfl
 | some j=>
  rw[Eqz] at e;obtain⟨hj,U,W⟩:=e;have h3:(iL l)[j]=0:=of_decide_eq_true U;have:(0:Nat)∈l:=by
   have h4:(iL l)[j]?=some 0:=by rw[Cmz hj,h3]
   rw[kE] at h4;cases h5:l[j]? with
   | none=>rw[h5] at h4;cases h4
   | some n=>
    rw[h5] at h4;have h4:(n:Int)=0:=Option.some.inj h4;have:n=0:=by omega
    subst this;exact Bvz h5
  rw[decide_eq_true this];simp only[aj,qy];rw[decide_eq_true (by omega)]
theorem Jm {cs:List Nat}(h:0∈cs):cP cs=[]:=by unfold cP;rw[Le h];rfl
theorem To {g:ak}(h0:Sz.szd g<=1048576)(hS:Shape g){r:aa}(Z:r∈g.rs_){A:List (List au)}(hA:aX g A){F:List (List aJ)}(b:Bool)(hi:aX g (aY F))(he:cd A (aY F)) :
  ∃ F' b',vE (iL (bC g r A)) g F b r (gy g r.Left) g r F (iL (r.rt_.map (cq g)))=some (F',b',F')/\(aY F',b')=fW g A (aY F,b) r:=by
 unfold vE fW;rw[NB,aj];have h3:=hJ hS Z;have hcl:=nA g r A;by_cases hz:0∈bC g r A;rw[ao (decide_eq_true hz),Jm hz];exact⟨F,b,rfl,rfl⟩;rw[decide_eq_false hz,al Evz,jA,aD (by refine⟨?_,?_,?_⟩<;>omega)];have hp:0<cJ (bC g r A):=EB λc hc=>Nat.pos_of_ne_zero λe=>hz (e▸hc);obtain⟨F',b',e,hF⟩:=Kq h0 hS Z hA _ 0 F b hp rfl hi he;rw[Ax,show iL (Bqz (bC g r A).length 0)=Bqz (bC g r A).length (0:Int) by unfold iL;rw[Dhz];rfl] at e;rw[e];rw[Fiz] at hF;exact⟨F',b',rfl,hF⟩
theorem XO {F:List (List aJ)}(h:F.length<=1048576):eachL BE 0 F ([]:List Int)=some (F.map λl:List aJ=>(l.length:Int)):=by
 rw[oL (g:=λl:List aJ=>(l.length:Int)) (B:=1048576) F 0 [] (λk x s hx hs=>by
  unfold BE;rw[aD (by constructor<;>omega)]) (by rw[Dyz];omega),Edz]
theorem XN (F:List (List aJ)):(F.map λl:List aJ=>(l.length:Int))=iL ((aY F).map (·.length)):=by
 induction F with
 | nil=>rfl
 | cons l F ih=>
  unfold iL aY at ih ⊢;simp only[Blz,bn] at ih ⊢;rw[ih]
theorem Fz {F:List (List aJ)}(h:F.length<=1048576):qQ F=some (iL ((aY F).map (·.length))):=by
 unfold qQ;rw[XO h,XN];rfl
theorem wM {l:List Int}(h:l.length<=3):((l.length:Int)+1)*8<=140737488355328/\(l.length:Int)+1<=9223372036854775807:=by constructor<;>omega
theorem MF {g:ak}(hS:Shape g){r:aa}(Z:r∈g.rs_){A:List (List au)}(hA:aX g A){k:Nat}{n:an}(hn:r.rt_[k]?=some n) :
  yV g (iL (A.map (·.length))) k n ((iL (bC g r A)).take k,(iL (r.rt_.map (cq g))).take k)=some ((iL (bC g r A)).take (k+1),(iL (r.rt_.map (cq g))).take (k+1)):=by
 have h3:=hJ hS Z;have hlt:=(List.getElem?_eq_some_iff.1 hn).1;obtain⟨k1,k2,k3,_,_⟩:=hA.at_ (hS.right Z (Bvz hn));have e1:(iL (bC g r A)).take (k+1)=(iL (bC g r A)).take k++[((eH g A n).length:Int)]:=by
  rw[Dvz,kE];unfold bC;rw[Czz,hn];rfl
 have e2:(iL (r.rt_.map (cq g))).take (k+1)=(iL (r.rt_.map (cq g))).take k++[(cq g n:Int)]:=by
  rw[Dvz,kE,Czz,hn];rfl
 have b1:((iL (bC g r A)).take k).length<=3:=Bgz (Fpz _ _) (by omega);have b2:((iL (r.rt_.map (cq g))).take k).length<=3:=Bgz (Fpz _ _) (by omega);have hx:(iL (A.map (·.length)))[cq g n]?=some ((eH g A n).length:Int):=by rw[kE,Czz,k3];rfl
 rw[e1,e2];generalize (iL (bC g r A)).take k=s1 at b1;generalize (iL (r.rt_.map (cq g))).take k=s2 at b2;generalize iL (A.map (·.length))=cc at hx;unfold yV;dsimp only;rw[Kz,aj,k1,aD (by omega),cE,hx,aj,aD (wM b1),aD (wM b2)]
theorem VJ {g:ak}(h0:Sz.szd g<=1048576)(hS:Shape g){r:aa}(Z:r∈g.rs_){A:List (List au)}(hA:aX g A){F:List (List aJ)}(b:Bool)(hi:aX g (aY F))(he:cd A (aY F)) :
  ∃ F' b',vy g r F (iL (A.map (·.length))) g F b r (gy g r.Left)=some (F',b')/\(aY F',b')=fW g A (aY F,b) r:=by
 have h3:=hJ hS Z;obtain⟨F',b',e,hF⟩:=To h0 hS Z hA b hi he;refine⟨F',b',?_,hF⟩;unfold vy;obtain⟨s',e2,hp⟩:=iW (P:=λk (s:List Int×List Int)=>s=((iL (bC g r A)).take k,(iL (r.rt_.map (cq g))).take k)) (f:=yV g (iL (A.map (·.length)))) (xs:=r.rt_) (i:=0) (s:=([],[])) (by rw[Fmz,Fmz]) λk n s hn hs=>by
  rw[Adz] at hs ⊢;rw[hs];exact⟨_,MF hS Z hA hn,rfl⟩
 rw[Adz] at hp;rw[e2,hp,Biz (by rw[jA,nA];omega),Biz (by rw[jA,bn];omega),aj];dsimp only;rw[e];rfl
theorem Kp {g:ak}(h0:Sz.szd g<=1048576)(hS:Shape g){A:List (List au)}(hA:aX g A):∀ (rs:List aa) (i:Nat) (F:List (List aJ)) (b:Bool),(∀ r∈rs,r∈g.rs_)->aX g (aY F)->cd A (aY F) ->
  ∃ F' b',eachL (xK g (iL (A.map (·.length)))) i rs (F,b)=some (F',b')/\(aY F',b')=rs.foldl (fW g A) (aY F,b)
 | [],i,F,b,_,hi,he=>⟨F,b,rfl,rfl⟩
 | r::rs,i,F,b,hrs,hi,he=>by
  have Z:=hrs r (by simp);obtain⟨F1,b1,e1,hF1⟩:=VJ h0 hS Z hA b hi he;have mv:=Aj h0 hS Z (q:=(aY F,b)) hi he;rw[← hF1] at mv;obtain⟨F2,b2,e2,hF2⟩:=Kp h0 hS hA rs (i+1) F1 b1 (λx hx=>hrs x (by simp[hx])) mv.inv mv.ext;refine⟨F2,b2,?_,by rw[Foz,← hF1];exact hF2⟩;rw[eachL,show xK g (iL (A.map (·.length))) i r (F,b)=some (F1,b1) by
   unfold xK;dsimp only;rw[Kz,aj,e1];rfl,aj]
  exact e2
noncomputable def jt (g:ak) (A:List (List au)):List (List au)×Bool:=g.rs_.foldl (fW g A) (A,false)
theorem Ko {g:ak}(h0:Sz.szd g<=1048576)(hS:Shape g){A:List (List au)}(hA:aX g A):Mv g A (A,false) (jt g A):=
 Mv.fold _ _ hA (.rfl' A) λq r Z h he=>Aj h0 hS Z h he
theorem Lc {g:ak}(h0:Sz.szd g<=1048576)(hS:Shape g){F:List (List aJ)}(hi:aX g (aY F)) :
  ∃ F',xJ g F=some (if (jt g (aY F)).2=true then .inl F' else .inr F')/\aY F'=(jt g (aY F)).1:=by
 obtain⟨F',b',e,hF⟩:=Kp h0 hS hi g.rs_ 0 F false (λ_ h=>h) hi (.rfl' _);have hl:F.length<=1048576:=by
  have U:=hi.1;have W:=hS.syms.2;unfold aY at U;rw[bn] at U;omega
 have Z:jt g (aY F)=(aY F',b'):=hF.symm;refine⟨F',?_,by rw[Z]⟩;unfold xJ;rw[Fz hl,aj,e,aj,Z];dsimp only;cases b'<;>rfl
theorem L4 {A:List (List au)}(h:A.length<=1048576):rn A=some (iL (A.map (·.length))):=by
 unfold rn;rw[oL (g:=λl:List au=>(l.length:Int)) (B:=1048576) A 0 [] (λk x s hx hs=>by
  unfold Gz;rw[aD (by constructor<;>omega)]) (by rw[Dyz];omega),aj,Edz]
 unfold iL;rw[List.map_map];rfl
theorem Jl (n:Nat):fZ 0 (n:Int)=some (n:Int):=by
 rw[D8];by_cases h:(n:Int) > 0;rw[ao h];rw[al h,show (n:Int)=0 by omega]
theorem ME {g:ak}(hS:Shape g){r:aa}(Z:r∈g.rs_){A:List (List au)}(hA:aX g A):rC g r (iL (A.map (·.length)))=some ((cP (bC g r A)).map iL):=by
 have h3:=hJ hS Z;unfold rC;have key:∀ (k:Nat),k<=r.rt_.length->(∀ c∈(bC g r A).take k,c<=16)/\((bC g r A).take k).length=k:=λk hk=>by
  refine⟨λc hc=>DN hS Z hA c (List.mem_of_mem_take hc),?_⟩;rw[Brz,nA];omega
 obtain⟨s',e2,hp⟩:=iW (P:=λk (s:List (List Int))=>s=(cP ((bC g r A).take k)).map iL) (f:=B9 g (iL (A.map (·.length)))) (xs:=r.rt_) (i:=0) (s:=[[]]) (by rw[Fmz];rfl) λk n s hn hs=>by
  rw[Adz] at hs ⊢;have hlt:=(List.getElem?_eq_some_iff.1 hn).1;have hkn:=hS.right Z (Bvz hn);obtain⟨k1,k2,k3,_,_⟩:=hA.at_ hkn;have hle:=hA.le hS hkn;have htk:(bC g r A).take (k+1)=(bC g r A).take k++[(eH g A n).length]:=by
   rw[Dvz];unfold bC;rw[Czz,hn];rfl
  have hcl:(cP ((bC g r A).take k)).length<=256:=by
   unfold cP;rw[bn,Fnz];have h4:=Jp (key k (by omega)).1;rw[(key k (by omega)).2] at h4;have h5:16 ^ k<=16 ^ 2:=Nat.pow_le_pow_right (by omega) (by omega);omega
  refine⟨(cP ((bC g r A).take (k+1))).map iL,?_,rfl⟩;unfold B9;rw[pX,aj,k1,Jl (cq g n),aj,aD (by omega),cE,kE,Czz,k3];simp only[Byz,aj];rw[hs,htk,IX];obtain⟨s2,e3,hp2⟩:=iW (P:=λj (s:List (List Int))=>s=(((cP ((bC g r A).take k)).take j).flatMap λc=>(List.range (eH g A n).length).map λd=>iL (c++[d]))) (f:=BU ((eH g A n).length:Int)) (xs:=(cP ((bC g r A).take k)).map iL) (i:=0) (s:=[]) (by rw[Fmz];rfl) λj x s hx hs2=>by
   rw[Adz] at hs2 ⊢;rw[Czz] at hx;cases hc:(cP ((bC g r A).take k))[j]? with
   | none=>rw[hc] at hx;cases hx
   | some c=>
    rw[hc] at hx;cases hx;have hj:=(List.getElem?_eq_some_iff.1 hc).1;have hclen:c.length=k:=by
     obtain⟨m,hm,rfl⟩:=List.mem_map.1 (Bvz hc);rw[wt,(key k (by omega)).2]
    have hsl:s.length<=256*16:=by
     rw[hs2,FA (n:=(eH g A n).length) λc=>by rw[bn,Fnz]];rw[Brz];exact Nat.mul_le_mul (by omega) hle
    unfold BU;rw[cE];obtain⟨s3,e4,hp3⟩:=sG (P:=λd (t:List (List Int))=>t=s++(List.range d).map λd=>iL (c++[d])) (f:=BV (iL c)) (n:=(eH g A n).length) (i:=0) (s:=s) (by rw[List.range_zero,List.map_nil,List.append_nil]) λd t U W ht=>by
     have htl:t.length<=256*16+16:=by rw[ht,Axz,bn,Fnz];omega
     refine⟨_,by
      unfold BV;rw[aD (by rw[Dyz,jA];constructor<;>omega),aD (by rw[jA];constructor<;>omega),aD (by constructor<;>omega)],?_⟩
     rw[ht,List.range_succ,Diz,Azz,Blz,List.map_nil,SG c [d]];rfl
    refine⟨s3,by rw[e4];rfl,?_⟩;rw[hp3,Adz,hs2,Dvz,hc,List.flatMap_append];simp
  rw[e3];rw[Adz,bn,Fjz] at hp2;rw[hp2,List.map_flatMap];simp only[List.map_map,aj];rfl
 rw[e2,hp,Adz,Biz (by rw[nA];omega)];rfl
theorem Il {l:List au}(h:l.length<=16):((l.length:Int)+1)*32<=140737488355328/\(l.length:Int)+1<=9223372036854775807:=by constructor<;>omega
theorem Wq {g:ak}(hS:Shape g){r:aa}(Z:r∈g.rs_){A:List (List au)}(hA:aX g A){c:List Nat}(h:Ch g r A c){k d:Nat}(hd:c[k]?=some d) :
  xP g r A k (d:Int) ((fy g r A c).take k)=some ((fy g r A c).take (k+1)):=by
 have h3:=hJ hS Z;have hlt:=(List.getElem?_eq_some_iff.1 hd).1;rw[h.1] at hlt;obtain⟨n,hn⟩:∃ n,r.rt_[k]?=some n:=⟨_,Cmz hlt⟩
 obtain⟨own,U,W⟩:=EA h hn hd;obtain⟨k1,k2,k3,_,_⟩:=hA.at_ (hS.right Z (Bvz hn));have e1:(fy g r A c).take (k+1)=(fy g r A c).take k++[own]:=by rw[Dvz,U];rfl
 have b1:((fy g r A c).take k).length<=16:=Bgz (Fpz _ _) (by omega);rw[e1];generalize (fy g r A c).take k=s at b1;unfold xP;rw[hn,aj,pX,aj,k1,Jl,aj,aD (by omega),cE,k3,aj,aD (by omega),cE,W,aj,aD (Il b1)]
theorem Kn {g:ak}(hS:Shape g){r:aa}(Z:r∈g.rs_){A:List (List au)}(hA:aX g A){c:List Nat}(h:Ch g r A c) :
  qT g r A (iL c)=some (fy g r A c):=by
 unfold qT;obtain⟨s',e,hp⟩:=iW (P:=λk s=>s=(fy g r A c).take k) (f:=xP g r A) (xs:=iL c) (i:=0) (s:=[]) (by rw[Fmz]) λk x s hx hs=>by
  rw[Adz] at hs ⊢;rw[kE] at hx;cases hd:c[k]? with
  | none=>rw[hd] at hx;cases hx
  | some d=>
   rw[hd] at hx;have hx:(d:Int)=x:=Option.some.inj hx;rw[hs,← hx];exact⟨_,Wq hS Z hA h hd,rfl⟩
 rw[e,hp,jA,Adz,h.1,← sD h,Fjz];rfl
theorem Tn (l:List au)(s:au):tl l s=some (decide (s∈l)):=by
 unfold tl;rw[oS (q:=λf:au=>decide (f=s)) (c:=λ_=>true) λj x hx=>by
  unfold Mo;rw[I7,aj,← apply_ite some]]
 cases e:l.findIdx? λf=>decide (f=s) with
 | none=>
  rw[Fkz] at e;have:¬ s∈l:=λh=>by
   have:=e s h;simp at this
  rw[decide_eq_false this];rfl
 | some j=>
  rw[Eqz] at e;obtain⟨hj,U,W⟩:=e;have U:l[j]=s:=of_decide_eq_true U;have:s∈l:=U▸Flz hj;rw[decide_eq_true this];rfl
theorem Tm {g:ak}(h0:Sz.szd g<=1048576)(hS:Shape g){r:aa}(Z:r∈g.rs_){A:List (List au)}(hA:aX g A){q:List (List au)×Bool}(hi:aX g q.1){c:List Nat}(h:Ch g r A c)(k:Nat) :
  xZ g A r (gy g r.Left) k (iL c) q=some (stA (cq g r.Left) (eG g r A c) q):=by
 obtain⟨B,b⟩:=q;obtain⟨U,W,h3,h4,h5⟩:=hi.at_ (hS.left Z);have hle:=hi.le hS (hS.left Z);dsimp only at U W h3 h4 h5 hle;have hgd:B.getD (cq g r.Left) []=eH g B r.Left:=rfl;obtain⟨e1,_,_⟩:=Ao h0 (Bgz (ia Z) h0) (wX hS Z hA h);have h3r:=hJ hS Z;unfold xZ stA;dsimp only;rw[Kn hS Z hA h,aj,e1,aj,(DZ (iP h0) (by show r.rt_.length<=1048576;omega) _).1,aj,U,aD (by omega),cE,h3,aj,Tn,aj,hgd];rw[show eU g r (fS g r (fy g r A c))=eG g r A c from rfl];by_cases hm:eG g r A c∈eH g B r.Left;rw[ao (decide_eq_true hm),ao hm];rfl;rw[decide_eq_false hm,al Evz,al hm,aD (Il hle)];rfl
theorem Jk {g:ak}(h0:Sz.szd g<=1048576)(hS:Shape g){r:aa}(Z:r∈g.rs_){A:List (List au)}(hA:aX g A):∀ (cs:List (List Nat)) (k:Nat) (q:List (List au)×Bool),(∀ c∈cs,Ch g r A c)->aX g q.1->cd A q.1 ->
  eachL (xZ g A r (gy g r.Left)) k (cs.map iL) q=some (cs.foldl (λq c=>stA (cq g r.Left) (eG g r A c) q) q)
 | [],k,q,_,_,_=>rfl
 | c::cs,k,q,hc,hi,he=>by
  have mv:=zX (A:=A) hS Z (q:=q) hi he (wb h0 hS r (fS g r (fy g r A c)));rw[Blz,eachL,Tm h0 hS Z hA hi (hc c (by simp)),aj,Foz];exact Jk h0 hS Z hA cs (k+1) _ (λx hx=>hc x (by simp[hx])) mv.inv mv.ext
theorem Jj {g:ak}(h0:Sz.szd g<=1048576)(hS:Shape g){A:List (List au)}(hA:aX g A):∀ (rs:List aa) (i:Nat) (q:List (List au)×Bool),(∀ r∈rs,r∈g.rs_)->aX g q.1->cd A q.1 ->
  eachL (xY g A) i rs q=some (rs.foldl (fW g A) q)
 | [],i,q,_,_,_=>rfl
 | r::rs,i,q,hrs,hi,he=>by
  have Z:=hrs r (by simp);have mv:=Aj h0 hS Z hi he;have hl:A.length<=1048576:=by have U:=hA.1;have W:=hS.syms.2;omega
  have e:xY g A i r q=some (fW g A q r):=by
   unfold xY;obtain⟨B,b⟩:=q;dsimp only;rw[L4 hl,aj,ME hS Z hA,aj,pX,aj,Jk h0 hS Z hA _ 0 (B,b) (λc hc=>Dw hc) hi he,aj];rfl
  rw[eachL,e,aj,Foz];exact Jj h0 hS hA rs (i+1) _ (λx hx=>hrs x (by simp[hx])) mv.inv mv.ext
theorem wW {g:ak}(h0:Sz.szd g<=1048576)(hS:Shape g){A:List (List au)}(hA:aX g A):rj g A=some (jt g A):=by
 have hl:A.length<=4:=by have U:=hA.1;have W:=hS.syms.2;omega
 unfold rj;rw[oL (g:=λl:List au=>l) (B:=1048576) A 0 [] (λk x s hx hs=>by
  obtain⟨j,hj⟩:=Elz hx;have hlt:=(List.getElem?_eq_some_iff.1 hj).1;obtain⟨y,hy⟩:∃ y,g.ss_[j]?=some y:=⟨_,Cmz (by rw[← hA.1];exact hlt)⟩
  have hx16:x.length<=16:=Bh (hS.plain y.Name) (hA.2 j y x hy hj).1 (hA.2 j y x hy hj).2;unfold Nx;rw[aD (by rw[Dyz];constructor<;>omega),aD (by constructor<;>omega)]) (by rw[Dyz];omega),aj,Edz,List.map_id',Jj h0 hS hA g.rs_ 0 (A,false) (λ_ h=>h) hA (.rfl' A),aj]
 rfl
theorem SE {g:ak}(h0:Sz.szd g<=1048576)(hS:Shape g):∀ (d:Nat) (F:List (List aJ)),aX g (aY F)->g.ss_.length*16-fU (aY F)<=d ->
  ∃ F',bE (xJ g) F=some F'/\bE (mT g) (aY F)=some (aY F',true)/\aX g (aY F'):=by
 intro d
 induction d with
 | zero=>
  intro F hi hd;obtain⟨F1,e1,hF⟩:=Lc h0 hS hi;have mv:=Ko h0 hS hi;have Y:=mv.inv.bound hS;have hc:(jt g (aY F)).2=false:=by
   cases hq:(jt g (aY F)).2 with
   | false=>rfl
   | true=>
    rcases mv.up hq with h|h;cases h;dsimp only at h;omega
  have hno:=mv.no hc;rw[hc,al Evz] at e1;have hF1:aY F1=aY F:=by rw[hF,hno]
  refine⟨F1,db e1,?_,by rw[hF1];exact hi⟩;rw[hF1];exact db (by unfold mT;rw[wW h0 hS hi,aj,hno];rfl)
 | succ d ih=>
  intro F hi hd;obtain⟨F1,e1,hF⟩:=Lc h0 hS hi;have mv:=Ko h0 hS hi;have Y:=mv.inv.bound hS;cases hq:(jt g (aY F)).2 with
  | false=>
   have hno:=mv.no hq;rw[hq,al Evz] at e1;have hF1:aY F1=aY F:=by rw[hF,hno]
   refine⟨F1,db e1,?_,by rw[hF1];exact hi⟩;rw[hF1];exact db (by unfold mT;rw[wW h0 hS hi,aj,hno];rfl)
  | true=>
   rw[hq,ao rfl] at e1;have hlt:fU (aY F)<fU (aY F1):=by
    rw[hF];rcases mv.up hq with h|h;cases h;exact h
   obtain⟨F',U,W,h3⟩:=ih F1 (by rw[hF];exact mv.inv) (by omega);refine⟨F',by rw[fi e1];exact U,?_,h3⟩;have s1:mT g (aY F)=some (.inl (aY F1)):=by
    unfold mT;rw[wW h0 hS hi,aj,hF];dsimp only;rw[hq];rfl
   rw[fi s1];exact W
theorem E8 {g:ak}(h0:Sz.szd g<=1048576)(hS:Shape g):∃ F,qP g=some F/\bE (mT g) (Bqz g.ss_.length [])=some (aY F,true)/\aX g (aY F):=by
 have e:aY (Bqz g.ss_.length [])=Bqz g.ss_.length []:=by unfold aY;rw[Dhz];rfl
 obtain⟨F,U,W,h3⟩:=SE h0 hS _ (Bqz g.ss_.length []) (by
  rw[e];refine⟨by rw[List.length_replicate],λk y L _ hL=>?_⟩;rw[List.getElem?_replicate] at hL;split at hL;cases hL;exact⟨List.nodup_nil,λa ha=>by simp at ha⟩;cases hL) (Nat.le_refl _)
 rw[e] at W;have hs:=hS.syms.2;refine⟨F,?_,W,h3⟩;unfold qP;rw[aD (by refine⟨?_,?_,?_⟩<;>omega),U];rfl
theorem Lb {σ ρ:Type}{f:σ->Option (σ ⊕ ρ)}{r:ρ}:∀ (n:Nat) (s:σ),js f n s=some r->∃ s',f s'=some (.inr r)
 | 0,s,h=>by cases h
 | n+1,s,h=>by
  rw[js] at h;cases e:f s with
  | none=>rw[e] at h;cases h
  | some x=>
   rw[e,aj] at h;cases x with
   | inl s'=>exact Lb n s' h
   | inr q=>cases h;exact⟨s,e⟩
theorem Wp {g:ak}(h0:Sz.szd g<=1048576)(hS:Shape g){A B:List (List au)}(hA:aX g A)(h:bE (mT g) B=some (A,true)):(jt g A).2=false:=by
 obtain⟨n,hn⟩:=tM.1 h;obtain⟨s,hs⟩:=Lb n B hn;unfold mT at hs;cases e:rj g s with
 | none=>rw[e] at hs;cases hs
 | some y=>
  obtain⟨y2,y3⟩:=y;rw[e,aj] at hs;cases y3 with
  | true=>cases hs
  | false=>
   cases hs;rw[wW h0 hS hA] at e;rw[Option.some.inj e]
theorem Eb {α:Type}{g:ak}{A:List (List au)}{f:List (List au)×Bool->α->List (List au)×Bool}:∀ (l:List α) (q:List (List au)×Bool),aX g q.1->cd A q.1->(∀ q x,x∈l->aX g q.1->cd A q.1->Mv g A q (f q x))->(l.foldl f q).2=false->∀ x∈l,f q x=q
 | [],q,h,he,_,_=>λx hx=>by simp at hx
 | y::l,q,h,he,hf,hn=>by
  have U:=hf q y (by simp) h he;have W:=Mv.fold l _ U.inv U.ext λq x hx=>hf q x (by simp[hx]);rw[Foz] at hn;have e2:=W.no hn;rw[e2] at hn;have e1:=U.no hn;intro x hx;rcases List.mem_cons.1 hx with e|e;rw[e];exact e1;have e3:(l.foldl f q).2=false:=by
   have:(l.foldl f (f q y)).2=false:=by rw[e2];exact hn
   rwa[e1] at this
  exact Eb l q h he (λq x hx=>hf q x (by simp[hx])) e3 x e
theorem Wo {g:ak}(h0:Sz.szd g<=1048576)(hS:Shape g){A:List (List au)}(hA:aX g A)(hc:(jt g A).2=false){r:aa}(Z:r∈g.rs_){c:List Nat}(hm:c∈cP (bC g r A)):eG g r A c∈eH g A r.Left:=by
 have U:=Eb (f:=fW g A) g.rs_ (A,false) hA (.rfl' A) (λq r Z h he=>Aj h0 hS Z h he) hc r Z;have W:(fW g A (A,false) r).2=false:=by rw[U]
 have h3:=Eb (f:=λq c=>stA (cq g r.Left) (eG g r A c) q) (cP (bC g r A)) (A,false) hA (.rfl' A) (λq c _ h he=>zX hS Z h he (wb h0 hS r _)) W c hm;unfold stA at h3;by_cases hq:eG g r A c∈(A,false).1.getD (cq g r.Left) [];exact hq;rw[al hq] at h3;have:=congrArg Prod.snd h3;cases this
def Hp (A:List (List au))(hs:List Int):Prop:=∀ j,hs.getD j 0≠0->A.getD j []≠[]
theorem Hp.set {A:List (List au)}{hs:List Int}(h:Hp A hs){k:Nat}{v:Int}(hk:A.getD k []≠[]):Hp A (hs.set k v):=λj hj=>by
 by_cases e:k=j;rw[← e];exact hk;refine h j ?_;rw[Cwz,List.getElem?_set_ne e,← Cwz] at hj;exact hj
theorem GB.gc2 {g:ak}(h:GB g):kD g:=⟨h.1,h.2.1,h.2.2.1,λr Z=>by obtain⟨a,c,d⟩:=h.2.2.2 r Z;exact⟨a,by omega,d⟩⟩
section
variable {b:List UInt8}{g:ak}
theorem OS {x:Int}(U:0<=x)(W:x<=1000000):aR (x*7)/\aR (x*7+3)/\aR ((x*7+3).tmod 97+1)/\0<=(x*7+3).tmod 97+1/\(x*7+3).tmod 97+1<=1000000:=by
 rw[Int.tmod_eq_emod_of_nonneg (by omega)];refine⟨by constructor<;>omega,by constructor<;>omega,by constructor<;>omega,by omega,by omega⟩
theorem OR {f:(Int×List Node)->Option ((Int×List Node) ⊕ List Node)}(hf:f=tR∨f=Bu){B L:Nat}(hL:L<=100000){l:List Node}(U:l.length=L)(W:∀ x∈l,kn B x):Ok (λr:List Node=>r.length=L/\∀ x∈r,kn B x) (bE f (0,l)):=by
 refine Ay (P:=λs:Int×List Node=>0<=s.1/\s.2.length=L/\∀ x∈s.2,kn B x) (λs=>L-s.1.toNat) ?_ (0,l) ⟨Int.le_refl _,U,W⟩;rintro⟨k,s⟩ ⟨p1,p2,p3⟩;dsimp only at p1 p2 p3;have e:f (k,s)=tR (k,s):=by
  rcases hf with h|h<;>rw[h];rfl
 rw[e];unfold tR;dsimp only;by_cases hk:k<(s.length:Int);have hlt:k.toNat<s.length:=by omega
 obtain⟨q1,q2⟩:=p3 _ (Flz hlt);obtain⟨r1,r2,r3,r4,r5⟩:=OS q2.1 q2.2;rw[ao hk,aD p1,Cmz hlt,aj,aD r1,aD r2,aD r3,aD (by constructor<;>omega)];refine⟨_,rfl,⟨by dsimp only;omega,by dsimp only;rw[List.length_set];exact p2,λx hx=>?_⟩,by dsimp only;omega⟩;rcases List.mem_or_eq_of_mem_set hx with hx|hx;exact p3 x hx;rw[hx];exact⟨q1,r4,r5⟩;rw[al hk];exact⟨_,rfl,p2,p3⟩
def qm (t:aC):Prop:=pU t/\1<=t.Nodes.length/\t.Nodes.length<=10000
theorem Ik (Y:b.length<=1048576){f:(Int×List Node)->Option ((Int×List Node) ⊕ List Node)}(hf:f=tR∨f=Bu){t:aC}(ht:qm t){i h:Int}(hi:0<=i):Dr b qm ((dO 3 (⟨b,i,h⟩:aB)).bind λ(y7,z5)=>if y7=true then ((bE f (0,t.Nodes)).bind λs1=>some ((⟨s1⟩:aC),(⟨b,z5.i,z5.h⟩:aB))) else some (t,(⟨b,z5.i,z5.h⟩:aB))):=by
 refine bz (fY Y _ (cb hi)) λy i1 U _ hi1=>?_;dsimp only;cases y with
 | false=>rw[al Evz];exact Dr.re ht hi1
 | true=>
  rw[ao rfl];refine Ok.bind (OR hf (by have:=ht.2.2;omega) rfl ht.1) λr Z=>?_;refine Dr.re ⟨λx hx=>?_,by dsimp only;rw[Z.1];exact ht.2.1,by dsimp only;rw[Z.1];exact ht.2.2⟩ hi1;dsimp only at hx ⊢;rw[Z.1];exact Z.2 x hx
structure qt (g:ak):Prop where
 sz:Sz.szd g<=1048576
 s1:1<=g.ss_.length
 s3:g.ss_.length<=3
 rt:∀ r∈g.rs_,r.rt_.length<=5
theorem kD.gr (h:kD g):qt g:=⟨Hj h,h.1.1,h.1.2.1,λr Z=>(h.2.2.2 r Z).1.2.2.1⟩
theorem Km (Y:b.length<=1048576)(hG:qt g){i h:Int}(hi:0<=i):Dr b qm (qM g ⟨b,i,h⟩):=by
 have hst:∃ s,ra g=some s:=by
  unfold ra;rw[al (by have:=hG.s1;omega),Cmz (by have:=hG.s1;omega)];exact⟨_,rfl⟩
 obtain⟨s,hs⟩:=hst;unfold qM;refine .eq hs ?_;refine bz (cR Y _ (cb hi)) λy2 i1 U hy2 hi1=>?_;have c2:=hy2.2.1 (by omega);dsimp only;refine .grd (by constructor<;>omega) ?_;refine bz (cR Y _ (cb hi1)) λy3 i2 W hy3 hi2=>?_;have c3:=hy3.2.1 (by omega);dsimp only;refine .grd (by constructor<;>omega) (.grd (by constructor<;>omega) ?_);refine bz (I0 Y hG.sz hG.s1 hG.s3 hG.rt s hi2 (by omega) (by omega) (by omega) (by omega)) λy4 i3 h3 hy4 hi3=>?_;dsimp only;refine .ite (λ_=>?_) λ_=>?_;refine .eq hs ?_;refine bz (I0 Y hG.sz hG.s1 hG.s3 hG.rt s hi3 (by omega) (by omega) (by omega) (by omega)) λy6 i4 h4 hy6 hi4=>?_;exact Ik Y (.inl rfl) hy6 hi4;exact Ik Y (.inr rfl) hy4 hi3
def fM (t:aC):Prop:=t.Nodes.length<=10001
theorem UE (Y:b.length<=1048576)(hG:qt g){i h:Int}(hi:0<=i):Dr b fM (tA g ⟨b,i,h⟩):=by
 unfold tA;refine bz (Km Y hG hi) λt i1 U ht hi1=>?_;obtain⟨ht,l1,l2⟩:=ht;dsimp only;refine bz (cR Y _ (cb hi1)) λk i2 W hk hi2=>?_;have ck:=hk.2.1 (by omega);have hkl:k.toNat<t.Nodes.length:=by omega
 have hst:∀ x:Node,(⟨t.Nodes.set k.toNat x⟩:aC).Nodes.length<=10001:=λx=>by dsimp only;rw[List.length_set];omega
 have hnd:=ht _ (Flz hkl);refine bz (cR Y _ (cb hi2)) λy3 i3 h3 hy3 hi3=>?_;dsimp only;refine .ite (λ_=>?_) λ_=>.ite (λ_=>?_) λ_=>.ite (λ_=>?_) λ_=>.ite (λ_=>?_) λ_=>.ite (λ_=>?_) λ_=>.ite (λ_=>?_) λ_=>.ite (λ_=>?_) λ_=>?_;rw[Cmz (by omega:0<t.Nodes.length),aj];refine bz (lS Y (by simp) (cb hi3)) λy i4 h4 _ hi4=>?_;dsimp only;rw[aD hk.1,Cmz hkl,aj];exact Dr.re (P:=fM) (hst _) hi4;refine bz (lS Y (by simp) (cb hi3)) λy i4 h4 _ hi4=>?_;dsimp only;rw[aD hk.1,Cmz hkl,aj];exact Dr.re (P:=fM) (hst _) hi4;refine bz (cR Y _ (cb hi3)) λy i4 h4 hy hi4=>?_;have:=hy.2.1 (by omega);dsimp only;rw[aD (by constructor<;>omega),aD hk.1,Cmz hkl,aj];exact Dr.re (P:=fM) (hst _) hi4;refine bz (ka Y (by simp) (cb hi3)) λy i4 h4 _ hi4=>?_;dsimp only;rw[aD hk.1,Cmz hkl,aj];exact Dr.re (P:=fM) (hst _) hi4;rw[aD hk.1,Cmz hkl,aj,aD (by have:=hnd.1.2.2;constructor<;>omega)];exact Dr.re (P:=fM) (hst _) hi3;rw[aD hk.1,Cmz hkl,aj,aD (by constructor<;>omega)];exact Dr.re (P:=fM) (by unfold fM;dsimp only;rw[Axz,List.length_singleton];omega) hi3;rw[aD hk.1,Cmz hkl,aj];exact Dr.re (P:=fM) (hst _) hi3;exact Dr.re (P:=fM) (by unfold fM;omega) hi3
theorem VI (Y:b.length<=1048576):Ok (λq:ak×aC=>kD q.1/\q.2.Nodes.length<=10001) (uj b):=by
 unfold uj;obtain⟨z,hz,hz1,hz2⟩:=R8 Y;obtain⟨zb,zi,zh⟩:=z;dsimp only at hz1 hz2;subst hz2;refine .eq hz ?_
 suffices h:Ok (λq:ak×aC×aB=>kD q.1/\q.2.1.Nodes.length<=10001) (tz ⟨zb,zi,zh⟩) by
  refine Ok.bind h λq hq=>?_;exact⟨_,rfl,hq⟩
 unfold tz;refine bz (fY Y _ (cb hz1)) λy1 i1 U _ hi1=>?_;dsimp only;refine bz (Ll Y y1 hi1) λg i2 W hg hi2=>?_;dsimp only;have hg:=GB.gc2 hg;refine bz (Km Y hg.gr hi2) λt i3 h3 ht hi3=>?_;have htl:t.Nodes.length<=10001:=by have:=ht.2.2;omega
 dsimp only;refine bz (fY Y _ (cb hi3)) λy4 i4 h4 _ hi4=>.ite (λ_=>?_) λ_=>?_;refine bz (UE Y hg.gr hi4) λt5 i5 h5 ht5 hi5=>?_;dsimp only;refine bz (fY Y _ (cb hi5)) λy6 i6 h6 _ hi6=>.ite (λ_=>?_) λ_=>⟨_,rfl,hg,ht5⟩
 refine bz (Lk Y hi6) λg7 i7 h7 hg7 hi7=>⟨_,rfl,hg7,ht5⟩
 dsimp only;refine bz (fY Y _ (cb hi4)) λy6 i6 h6 _ hi6=>.ite (λ_=>?_) λ_=>⟨_,rfl,hg,htl⟩
 refine bz (Lk Y hi6) λg7 i7 h7 hg7 hi7=>⟨_,rfl,hg7,htl⟩
end
inductive Tr:Type
 | node (rule:an) (ks:List Tr)
mutual
def Tr.sz:Tr->Nat
 | .node _ ks=>1+Tr.szs ks
def Tr.szs:List Tr->Nat
 | []=>0
 | t::ts=>Tr.sz t+Tr.szs ts
end
theorem Tr.pos:∀ t:Tr,0<t.sz
 | .node _ ks=>by rw[Tr.sz];omega
def dU:Nat->List Tr->List Int
 | _,[]=>[]
 | b,t::ts=>(b:Int)::dU (b+t.sz) ts
mutual
def vM (z:Nat->Int):Tr->Int->Int->Nat->List Node
 | .node r ks,p,q,b=>(⟨z b,p,q,0,r,dU (b+1) ks⟩:Node)::Ij z ks (b:Int) 1 (b+1)
def Ij (z:Nat->Int):List Tr->Int->Nat->Nat->List Node
 | [],_,_,_=>[]
 | t::ts,p,k,b=>vM z t p (k:Int) b++Ij z ts p (k+1) (b+t.sz)
end
theorem Shape.r3 {g:ak}(hS:Shape g){r:aa}(Z:r∈g.rs_):r.rt_.length<=3:=hJ hS Z
def NU:aa:=⟨⟨#[]⟩,⟨#[]⟩,[],false,[],[]⟩
theorem E7 {α:Type}{B:Nat}{f:Nat->α->List α->Option (List α)}:∀ (xs:List α) (i:Nat) (s:List α),(∀ k x s,x∈xs->s.length<B->f k x s=some (s++[x]))->s.length+xs.length<=B->eachL f i xs s=some (s++xs)
 | [],i,s,_,_=>by simp[eachL]
 | x::xs,i,s,hf,h=>by
  simp only[bH] at h;rw[eachL,hf i x s (by simp) (by omega),aj,E7 xs (i+1) _ (λk y s hy=>hf k y s (by simp[hy])) (by simp;omega)];simp
theorem OQ {r:aa}(h:Sz.szd r<=1048576):oW r=some r:=by
 have h0:=nE r;have U:=gG r.es_;have W:=gG r.cs_;have h3:=gG r.rt_;unfold oW;rw[aD (by simp only[Dyz];constructor<;>omega),E7 (B:=1048576) r.es_ 0 [] (λk x s hx hs=>by
  have q1:=lL hx;have q2:=uf x;have q3:=eX x.Expr;unfold A7;rw[oJ (by omega),aj,aD (by constructor<;>omega)]) (by simp;omega),aj,E7 (B:=1048576) r.cs_ 0 [] (λk x s hx hs=>by
  have q1:=lL hx;have q2:=yF x;have q3:=eX x.Target;have q4:=eX x.Value;unfold A6;rw[oJ (by omega),aj,oJ (by omega),aj,aD (by constructor<;>omega)]) (by simp;omega),aj]
 simp
theorem Shape.rnames {g:ak}(h:Shape g){k j:Nat}{x y:aa}(hk:g.rs_[k]?=some x)(hj:g.rs_[j]?=some y)(hn:x.Name=y.Name):k=j:=by
 have key:∀ {k j:Nat} {x y:aa},g.rs_[k]?=some x->g.rs_[j]?=some y->x.Name=y.Name->¬ k<j:=by
  intro k j x y hk hj hn hlt;have:=o8 _ _ h.rule j y hj;unfold jC at this;rw[Bool.or_eq_false_iff] at this;have W:=this.2;unfold dx at W;rw[Edz,List.any_eq_false] at W;exact W x (Bvz (i:=k) (by rw[List.getElem?_take,ao hlt];exact hk)) (by simpa using hn)
 have U:=key hk hj hn;have W:=key hj hk hn.symm;omega
theorem MD {g:ak}(h0:Sz.szd g<=1048576)(hS:Shape g){r:aa}(Z:r∈g.rs_):jy g r.Name=some (r,true):=by
 have key:∀ (xs:List aa) (i:Nat),(∀ x∈xs,x∈g.rs_)->r∈xs->findL (mV r.Name) i xs ()=some (.inr (r,true)):=by
  intro xs
  induction xs with
  | nil=>intro i _ h;exact nomatch h
  | cons x xs ih=>
   intro i hx hm;rw[findL];by_cases e:x.Name=r.Name;obtain⟨k,hk⟩:=Elz (hx x (by simp));obtain⟨j,hj⟩:=Elz Z;have:=hS.rnames hk hj e;subst this;rw[hk] at hj;have e2:x=r:=Option.some.inj hj;rw[e2];unfold mV;rw[ao rfl,OQ (Bgz (ia Z) h0),aj];rfl;unfold mV;rw[al e,aj];rcases List.mem_cons.1 hm with h|h;exact absurd (by rw[h]) e;exact ih (i+1) (λy hy=>hx y (by simp[hy])) h
 unfold jy;rw[key g.rs_ 0 (λ_ h=>h) Z];rfl
def z0 (_:Nat):Int:=0
def Al:List aC->Nat
 | []=>0
 | y::ys=>y.Nodes.length+Al ys
def RQ (B:Nat)(x:Node):Prop:=(-1<=x.Parent/\x.Parent<=(B:Int))/\(∀ c∈x.cn_,0<=c/\c<=(B:Int))/\x.cn_.length<=3
def RR (y:aC):Prop:=∀ x∈y.Nodes,RQ y.Nodes.length x
def vL (t:Tr):aC:=⟨vM z0 t (-1) 0 0⟩
def FM (y:aC)(t:Tr):Prop:=(y=vL t/\t.sz<=16)∨(16<y.Nodes.length/\16<t.sz)
def bt (n:Nat)(y:aC):Prop:=y.Nodes.length<=16*n+1/\RR y
def dp (n:Nat):List aC->List Tr->Prop
 | [],_=>True
 | y::ys,t::ts=>(FM y t/\bt n y)/\dp n ys ts
 | _::_,[]=>False
theorem dp.len {n:Nat}:∀ {ys:List aC} {ts:List Tr},dp n ys ts->ys.length<=ts.length
 | [],_,_=>Nat.zero_le _
 | y::ys,t::ts,h=>by have:=dp.len h.2;simp;omega
 | _::_,[],h=>h.elim
theorem dp.sum {n:Nat}:∀ {ys:List aC} {ts:List Tr},dp n ys ts->ys=(ts.take ys.length).map vL∨(16<Al ys/\16<Tr.szs ts)
 | [],_,_=>.inl rfl
 | y::ys,t::ts,h=>by
  rcases h.1.1 with ⟨e,_⟩|⟨e1,e2⟩
  rcases dp.sum h.2 with e'|⟨f1,f2⟩
  left;rw[bH,List.take_succ_cons,Blz,← e',e];right;rw[Al,Tr.szs];omega;right;rw[Al,Tr.szs];omega
 | _::_,[],h=>h.elim
end Go.Proofs.YtodhafdaelcnlaaGreat
