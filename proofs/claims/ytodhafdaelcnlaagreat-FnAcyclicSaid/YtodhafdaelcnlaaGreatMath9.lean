/- What those partial functions come to: plain lemmas on data; each bears its conditions in its statement. -/
import Derived.Test.YtodhafdaelcnlaaGreatMath8
set_option linter.unusedVariables false
set_option linter.unusedSimpArgs false
set_option linter.ambiguousOpen false
set_option linter.unusedSectionVars false
set_option linter.unnecessarySimpa false
set_option maxRecDepth 100000
set_option maxHeartbeats 4000000
open Bool renaming false_ne_true->Evz,false_or->Frz,and_eq_true->Afz,not_eq_false'->Fsz
open Nat renaming le_trans->Bgz,zero_add->Adz,zero_le->Aez,lt_trichotomy->Ftz,le_refl->Acz
open List renaming length_range->Fnz,getElem?_map->Czz,getElem?_eq_getElem->Cmz,drop_eq_getElem_cons->Csz,drop_eq_nil_of_le->Fuz,any_cons->Fvz,mem_of_getElem?->Bvz,replicate->Bqz,drop_zero->Fiz,take_zero->Fmz,take_of_length_le->Biz,take_succ_cons->Bhz,pairwise_iff_getElem->Fwz,find?_eq_none->Fxz,mem_of_find?_eq_some->Ecz,find?_some->Fyz,getElem_of_mem->Fzz,all_eq_true->Ekz,mem_range'_1->Gaz,idxOf_lt_length_of_mem->Gbz,getElem_idxOf->Gcz,getD_eq_getElem?_getD->Cwz,getElem?_of_mem->Elz,take_add_one->Dvz,flatMap_append->Gdz,length_append->Axz,flatMap_cons->Bkz,append_nil->Cgz
open Option renaming isNone_iff_eq_none->Gez
namespace Go.Proofs.YtodhafdaelcnlaaGreat
open Go Go.E
noncomputable def lD (g:ak) (r:aa) (A:List (List au)) (c:List Nat):Bool:=ng (fS g r (fy g r A c))
noncomputable def gk (g:ak) (A:List (List au)) (r:aa):Bool:=(cP (bC g r A)).any (lD g r A)
theorem Wn {c:List Int}(hc:c.length<=1048576){x:au}(hx:x.Rows.length<=1048576)(o:aJ)(b:Bool):∃ o',ux c x o b=some (!(ng x),o',ng x):=by
 unfold ux;rw[Un hx,aj];cases ng x with
 | true=>rw[ao rfl,Ks c hc];exact⟨_,rfl⟩
 | false=>rw[al Evz];exact⟨_,rfl⟩
theorem Wm {g:ak}(h0:Sz.szd g<=1048576)(hS:Shape g){r:aa}(Z:r∈g.rs_){F:List (List aJ)}(hA:aX g (aY F))(o:aJ)(b:Bool){c:List Nat}(h:Ch g r (aY F) c) :
  ∃ o',vx (iL c) o b g r F (iL (r.rt_.map (cq g)))=some (!(lD g r (aY F) c),o',lD g r (aY F) c):=by
 have h3:=hJ hS Z;obtain⟨_,e2,e3⟩:=Ao h0 (Bgz (ia Z) h0) (wX hS Z hA h);obtain⟨o',e⟩:=Wn (c:=iL c) (by rw[jA,h.1];omega) (x:=fS g r (fy g r (aY F) c)) (by omega) o b;have e1:eachL (Hl F (iL (r.rt_.map (cq g)))) 0 (iL c) []=some (fy g r (aY F) c):=Kr hS Z hA (.rfl' _) h;unfold vx;rw[e1,aj,e2,aj,e];exact⟨_,rfl⟩
def OP:((List Int×Int×List Int×an×an×Bool×List Int×Bool) ⊕ (aJ×Bool))->Bool
 | .inl s=>s.2.2.2.2.2.2.2
 | .inr p=>p.2
theorem Tl {cs:List Nat}{n:Nat}(hn:n<cJ cs):(cP cs).drop n=bO cs n::(cP cs).drop (n+1):=by
 have hl:n<(cP cs).length:=by unfold cP;rw[bn,Fnz];exact hn
 have hg:(cP cs)[n]?=some (bO cs n):=by
  unfold cP;rw[Czz,List.getElem?_range hn];rfl
 rw[Cmz hl] at hg;rw[Csz hl,Option.some.inj hg]
theorem SC {cs:List Nat}{n:Nat}(hn:¬ n<cJ cs):(cP cs).drop n=[]:=Fuz (by unfold cP;rw[bn,Fnz];omega)
theorem La {g:ak}(h0:Sz.szd g<=1048576)(hS:Shape g){r:aa}(Z:r∈g.rs_){F:List (List aJ)}(hA:aX g (aY F))(o:aJ) :
  ∀ (d n:Nat) (x1:Int) (x2:List Int) (x3 x4:an) (x5:Bool) (x6:List Int) (b:Bool),n<cJ (bC g r (aY F))->cJ (bC g r (aY F))-n=d ->
   ∃ X,bE (rT (iL (bC g r (aY F))) o g r F (iL (r.rt_.map (cq g)))) (iL (bO (bC g r (aY F)) n),x1,x2,x3,x4,x5,x6,b)=some X /\
    OP X=((cP (bC g r (aY F))).drop n).any (lD g r (aY F))
 | 0,n,x1,x2,x3,x4,x5,x6,b,hn,hd=>by omega
 | d+1,n,x1,x2,x3,x4,x5,x6,b,hn,hd=>by
  have hch:=Ix hn;obtain⟨o1,e1⟩:=Wm h0 hS Z hA (⟨⟨x1,x2⟩,⟨x3,x4,o.rule.rt_,x5,o.rule.es_,o.rule.cs_⟩,x6⟩:aJ) b hch;have h3:=hJ hS Z;have hcl:=nA g r (aY F);rw[Tl hn,Fvz];cases hL:lD g r (aY F) (bO (bC g r (aY F)) n) with
  | true=>
   rw[hL] at e1;refine⟨_,db (by
    unfold rT;dsimp only;rw[e1,aj];dsimp only;rw[al (by decide)]),rfl⟩
  | false=>
   rw[hL] at e1;rw[Frz];obtain⟨q,e2,hq⟩:=L5 (cs:=bC g r (aY F)) (ds:=bO (bC g r (aY F)) n) (f:=Hu (iL (bC g r (aY F)))) rfl (wt _ _) (λi d c U W=>⟨Ak hn i d c U W,by have:=DN hS Z hA c (Bvz W);omega⟩) (by omega);obtain⟨q1,q2⟩:=q;unfold rX at hq;rw[EC _ _ hn] at hq;by_cases hlast:n+1<cJ (bC g r (aY F));rw[ao hlast] at hq;obtain⟨k0,x,hx,hxl,hset⟩:=hq;dsimp only at k0 hx hset;have hs:rT (iL (bC g r (aY F))) o g r F (iL (r.rt_.map (cq g))) (iL (bO (bC g r (aY F)) n),x1,x2,x3,x4,x5,x6,b)=some (.inl (iL (bO (bC g r (aY F)) (n+1)),o1.sy_.N,o1.sy_.Rows,o1.rule.Name,o1.rule.Left,o1.rule.ll_,o1.children,false)):=by
    unfold rT;dsimp only;rw[e1,aj];dsimp only;rw[ao (by decide),e2,aj];dsimp only;rw[al (by omega),aD k0,hx,aj,aD ⟨by omega,by omega⟩,← hset];rfl
   rw[fi hs];exact La h0 hS Z hA o d (n+1) _ _ _ _ _ _ _ hlast (by omega);rw[al hlast] at hq;dsimp only at hq;rw[SC hlast];exact⟨_,db (by
    unfold rT;dsimp only;rw[e1,aj];dsimp only;rw[ao (by decide),e2,aj];dsimp only;rw[ao hq]),rfl⟩
theorem Wl {g:ak}(h0:Sz.szd g<=1048576)(hS:Shape g){r:aa}(Z:r∈g.rs_){F:List (List aJ)}(hA:aX g (aY F))(o:aJ) :
  ∃ o',vG (iL (bC g r (aY F))) o false g r F (iL (r.rt_.map (cq g)))=some (o',gk g (aY F) r):=by
 unfold vG gk;rw[NB,aj];have h3:=hJ hS Z;have hcl:=nA g r (aY F);by_cases hz:0∈bC g r (aY F);rw[ao (decide_eq_true hz),Jm hz];exact⟨o,rfl⟩;rw[decide_eq_false hz,al Evz,jA,aD (by refine⟨?_,?_,?_⟩<;>omega)];have hp:0<cJ (bC g r (aY F)):=EB λc hc=>Nat.pos_of_ne_zero λe=>hz (e▸hc);obtain⟨X,e,hF⟩:=La h0 hS Z hA o _ 0 o.sy_.N o.sy_.Rows o.rule.Name o.rule.Left o.rule.ll_ o.children false hp rfl;rw[Ax,show iL (Bqz (bC g r (aY F)).length 0)=Bqz (bC g r (aY F)).length (0:Int) by unfold iL;rw[List.map_replicate];rfl] at e;rw[Fiz] at hF;rw[e,aj,← hF];cases X with
 | inl s=>exact⟨_,rfl⟩
 | inr p=>exact⟨p.1,rfl⟩
theorem YF {g:ak}(h0:Sz.szd g<=1048576)(hS:Shape g){r:aa}(Z:r∈g.rs_){F:List (List aJ)}(hA:aX g (aY F))(o:aJ) :
  ∃ o',vA g r F (iL ((aY F).map (·.length))) o false=some (o',gk g (aY F) r):=by
 have h3:=hJ hS Z;obtain⟨o',e⟩:=Wl h0 hS Z hA o;unfold vA;obtain⟨s',e2,hp⟩:=iW (P:=λk (s:List Int×List Int)=>s=((iL (bC g r (aY F))).take k,(iL (r.rt_.map (cq g))).take k)) (f:=Hm g (iL ((aY F).map (·.length)))) (xs:=r.rt_) (i:=0) (s:=([],[])) (by rw[Fmz,Fmz]) λk n s hn hs=>by
  rw[Adz] at hs ⊢;rw[hs];exact⟨_,MF hS Z hA hn,rfl⟩
 rw[Adz] at hp;rw[e2,hp,Biz (by rw[jA,nA];omega),Biz (by rw[jA,bn];omega),aj];dsimp only;rw[e];exact⟨_,rfl⟩
theorem MB {g:ak}(h0:Sz.szd g<=1048576)(hS:Shape g){F:List (List aJ)}(hA:aX g (aY F)):∀ (rs:List aa) (i:Nat),(∀ r∈rs,r∈g.rs_) ->
  ∃ X,findL (rB g F) i rs ()=some X/\(match X with|.inl _=>rs.any (gk g (aY F))=false|.inr p=>p.2=true/\rs.any (gk g (aY F))=true)
 | [],i,_=>⟨_,rfl,rfl⟩
 | r::rs,i,hrs=>by
  have Z:=hrs r (by simp);have hl:F.length<=1048576:=by
   have U:=hA.1;have W:=hS.syms.2;unfold aY at U;rw[bn] at U;omega
  obtain⟨o',e⟩:=YF h0 hS Z hA (⟨(⟨0,[]⟩:au),r,[]⟩:aJ);rw[findL,Fvz];cases hc:gk g (aY F) r with
  | true=>
   rw[hc] at e;obtain⟨o2,hs⟩:∃ o,rB g F i r ()=some (.inr (o,true)):=⟨_,by
    unfold rB;rw[Fz hl,aj,e];rfl⟩
   exact⟨.inr (o2,true),by rw[hs];rfl,rfl,rfl⟩
  | false=>
   rw[hc] at e;obtain⟨X,U,W⟩:=MB h0 hS hA rs (i+1) λx hx=>hrs x (by simp[hx]);refine⟨X,?_,by rw[Frz];exact W⟩;rw[show rB g F i r ()=some (.inl ()) by unfold rB;rw[Fz hl,aj,e];rfl,aj];exact U
theorem Kl {g:ak}(h0:Sz.szd g<=1048576)(hS:Shape g){F:List (List aJ)}(hA:aX g (aY F)):∃ o,tY g F=some (o,g.rs_.any (gk g (aY F))):=by
 obtain⟨X,U,W⟩:=MB h0 hS hA g.rs_ 0 λ_ h=>h;unfold tY;rw[U,aj];cases X with
 | inl s=>exact⟨_,by rw[W];rfl⟩
 | inr p=>exact⟨p.1,by rw[W.2];show some p=some (p.1,true);rw[← W.1]⟩
theorem Mz {g:ak}(h0:Sz.szd g<=1048576)(hS:Shape g){r:aa}(Z:r∈g.rs_){A:List (List au)}(hA:aX g A):∀ (cs:List (List Nat)) (k:Nat),(∀ c∈cs,Ch g r A c) ->
  findL (yg g A r) k (cs.map iL) ()=some (if cs.any (lD g r A)=true then .inr true else .inl ())
 | [],k,_=>rfl
 | c::cs,k,hc=>by
  have h:=hc c (by simp);obtain⟨e1,_,e3⟩:=Ao h0 (Bgz (ia Z) h0) (wX hS Z hA h);have e:yg g A r k (iL c) ()=some (if lD g r A c=true then .inr true else .inl ()):=by
   unfold yg;rw[Kn hS Z hA h,aj,e1,aj,Um (by omega),aj,← apply_ite some];rfl
  rw[List.map_cons,findL,e,aj,Fvz];cases hl:lD g r A c with
  | true=>rfl
  | false=>
   rw[Frz];exact Mz h0 hS Z hA cs (k+1) λx hx=>hc x (by simp[hx])
theorem My {g:ak}(h0:Sz.szd g<=1048576)(hS:Shape g){A:List (List au)}(hA:aX g A):∀ (d i:Nat),g.rs_.length-i=d->i<=g.rs_.length ->
  bE (rI g A true) (i:Int)=some (if (g.rs_.drop i).any (gk g A)=true then .inr true else .inl ())
 | 0,i,hd,hi=>by
  have:g.rs_.drop i=[]:=Fuz (by omega);rw[this];exact db (by unfold rI;rw[al (by omega)];rfl)
 | d+1,i,hd,hi=>by
  have hlt:i<g.rs_.length:=by omega
  have hl:A.length<=1048576:=by have U:=hA.1;have W:=hS.syms.2;omega
  have hrl:=hS.rules.2;obtain⟨r,Z⟩:∃ r,g.rs_[i]?=some r:=⟨_,Cmz hlt⟩
  have hm:=Bvz Z;have hdrop:g.rs_.drop i=r::g.rs_.drop (i+1):=by
   rw[Csz hlt];rw[Cmz hlt] at Z;rw[Option.some.inj Z]
  have e:rI g A true (i:Int)=some (if gk g A r=true then .inr (.inr true) else .inl ((i+1:Nat):Int)):=by
   unfold rI;rw[ao (by omega),ao rfl,aD (by omega),cE,Z,aj,L4 hl,aj,ME hS hm hA,aj,Mz h0 hS hm hA _ 0 λc hc=>Dw hc,aj];rw[show ((cP (bC g r A)).any (lD g r A))=gk g A r from rfl];cases gk g A r with
   | true=>rfl
   | false=>rw[al Evz,al Evz,lH];exact aD ⟨by omega,by omega⟩
  rw[hdrop,Fvz];cases hc:gk g A r with
  | true=>rw[hc] at e;exact db e
  | false=>
   rw[hc] at e;rw[Frz,fi e];exact My h0 hS hA d (i+1) (by omega) (by omega)
theorem Gt {g:ak}(h0:Sz.szd g<=1048576):∃ b,pz g=some b/\rA g=some b:=by
 unfold pz rA xX;rw[JY h0,Uo h0];simp only[aj];cases hg:nh g with
 | false=>
  refine⟨false,?_,rfl⟩;simp only[Bool.false_eq_true,if_false,aj];rw[db (r:=.inl ()) (by unfold rI;by_cases h:(0:Int)<(g.rs_.length:Int)<;>simp[h])];rfl
 | true=>
  have hS:=FC hg;obtain⟨F,U,W,h3⟩:=E8 h0 hS;obtain⟨o,h4⟩:=Kl h0 hS h3;have hs:=hS.syms.2;refine⟨g.rs_.any (gk g (aY F)),?_,?_⟩;rw[ao rfl,aD (by refine⟨?_,?_,?_⟩<;>omega),W];simp only[aj];have:=My h0 hS h3 _ 0 rfl (Aez _);rw[show ((0:Nat):Int)=0 from rfl,Fiz] at this;rw[this,aj];cases g.rs_.any (gk g (aY F))<;>rfl;rw[ao rfl,U,aj,h4];rfl
mutual
def gK (g:ak)(N:List Node):Tr->Nat->Int->Int->an->Prop
 | .node nm ks,i,p,q,s=>∃ x r,N[i]?=some x/\r∈g.rs_/\x.aa=r.Name/\r.Left=s/\x.Parent=p/\x.Place=q/\x.cn_=dU (i+1) ks/\ks.length=r.rt_.length/\kt x.ll_ 1=true/\(r.ll_=true∨x.ll_=0)/\r.Name=nm/\cZ g N ks (i:Int) 1 (i+1) r.rt_
def cZ (g:ak)(N:List Node):List Tr->Int->Nat->Nat->List an->Prop
 | [],_,_,_,_=>True
 | t::ts,p,k,b,ss=>∃ s ss',ss=s::ss'/\gK g N t b p (k:Int) s/\cZ g N ts p (k+1) (b+t.sz) ss'
end
theorem Aw:∀ (ts:List Tr) (b:Nat),(dU b ts).length=ts.length
 | [],b=>rfl
 | t::ts,b=>by rw[dU,bH,bH,Aw ts]
theorem lJ:∀ (ts:List Tr) (b j:Nat),j<ts.length->(dU b ts)[j]?=some (((b+Tr.szs (ts.take j):Nat)):Int)
 | [],b,j,h=>by simp at h
 | t::ts,b,0,h=>by rw[dU,Fmz,Tr.szs];rfl
 | t::ts,b,j+1,h=>by
  rw[dU,List.getElem?_cons_succ,lJ ts (b+t.sz) j (by simpa using h),Bhz,Tr.szs];congr 2;omega
theorem gK.head {g:ak}{N:List Node}:∀ {T:Tr} {i:Nat} {p q:Int} {s:an},gK g N T i p q s->∃ y r,N[i]?=some y/\r∈g.rs_/\y.aa=r.Name/\r.Left=s/\y.Parent=p/\y.Place=q
 | .node nm ks,i,p,q,s,h=>by
  obtain⟨x,r,hx,Z,e1,e2,e3,e4,_⟩:=h;exact⟨x,r,hx,Z,e1,e2,e3,e4⟩
theorem cZ.get {g:ak}{N:List Node}:∀ {ks:List Tr} {p:Int} {k b:Nat} {ss:List an},cZ g N ks p k b ss->∀ {j:Nat} {t:Tr} {s:an},ks[j]?=some t->ss[j]?=some s->gK g N t (b+Tr.szs (ks.take j)) p ((k+j:Nat):Int) s
 | [],p,k,b,ss,h,j,t,s,hj,_=>by simp at hj
 | t0::ts,p,k,b,ss,h,0,t,s,hj,hs=>by
  obtain⟨s0,ss',rfl,U,W⟩:=h;simp at hj hs;subst hj;subst hs;rw[Fmz,Tr.szs];exact U
 | t0::ts,p,k,b,ss,h,j+1,t,s,hj,hs=>by
  obtain⟨s0,ss',rfl,U,W⟩:=h;have:=cZ.get W (j:=j) (by simpa using hj) (by simpa using hs);rw[Bhz,Tr.szs];rwa[show b+(t0.sz+Tr.szs (ts.take j))=b+t0.sz+Tr.szs (ts.take j) by omega,show k+(j+1)=k+1+j by omega]
def Ai (g:ak)(N:List Node)(v:Nat):Prop:=∃ x r,N[v]?=some x/\r∈g.rs_/\x.aa=r.Name/\x.cn_.length=r.rt_.length /\
 ∀ (j:Nat) (n:an),r.rt_[j]?=some n->∃ (c:Nat) (y:Node) (r' : aa),x.cn_[j]?=some (c:Int)/\v<c/\N[c]?=some y/\y.Parent=(v:Int)/\y.Place=((j+1:Nat):Int)/\r'∈g.rs_/\y.aa=r'.Name/\r'.Left=n
mutual
theorem Iw {g:ak}{N:List Node}:∀ (T:Tr) (i:Nat) (p q:Int) (s:an),gK g N T i p q s->∀ v,i<=v->v<i+T.sz->Ai g N v
 | .node nm ks,i,p,q,s,h,v,U,W=>by
  obtain⟨x,r,hx,Z,e1,e2,e3,e4,e5,e6,e7,e8,en,hk⟩:=h;rw[Tr.sz] at W;by_cases hv:v=i;subst hv;refine⟨x,r,hx,Z,e1,by rw[e5,Aw,e6],λj n hj=>?_⟩;have hlt:=(List.getElem?_eq_some_iff.1 hj).1;rw[← e6] at hlt;have hT:=cZ.get hk (Cmz hlt) hj;obtain⟨y,r',hy,hr',f1,f2,f3,f4⟩:=hT.head;exact⟨v+1+Tr.szs (ks.take j),y,r',by rw[e5];exact lJ ks (v+1) j hlt,by omega,hy,f3,by rw[f4];congr 1;omega,hr',f1,f2⟩;exact Ji ks (i:Int) 1 (i+1) r.rt_ hk v (by omega) (by omega)
theorem Ji {g:ak}{N:List Node}:∀ (ks:List Tr) (p:Int) (k b:Nat) (ss:List an),cZ g N ks p k b ss->∀ v,b<=v->v<b+Tr.szs ks->Ai g N v
 | [],p,k,b,ss,h,v,U,W=>by rw[Tr.szs] at W;omega
 | t::ts,p,k,b,ss,h,v,U,W=>by
  obtain⟨s0,ss',rfl,h3,h4⟩:=h;rw[Tr.szs] at W;by_cases hv:v<b+t.sz;exact Iw t b p (k:Int) s0 h3 v U hv;exact Ji ts p (k+1) (b+t.sz) ss' h4 v (by omega) (by omega)
end
theorem Jh {g:ak}(h0:Sz.szd g<=1048576)(hS:Shape g){N:List Node}{v:Nat}{x:Node}{r:aa}(hx:N[v]?=some x)(Z:r∈g.rs_)(e:x.aa=r.Name):kY g ⟨N⟩ (v:Int)=some r.Left:=by
 have hv:=(List.getElem?_eq_some_iff.1 hx).1;unfold kY;dsimp only;rw[fQ,aj,ao (decide_eq_true (by omega)),aD (by omega),cE,hx,aj,e,MD h0 hS Z,aj]
theorem Mx {α:Type}{nm:α->an}{xs:List α}(h:pY nm xs=true):xs.Pairwise λa b=>nm a≠nm b:=by
 unfold pY at h;rw[Gez] at h;rw[Fwz];intro i j hi hj hij he;have U:=o8 xs [] h j xs[j] (Cmz hj);unfold dx at U;rw[List.nil_append,List.any_eq_false] at U;exact U xs[i] (List.mem_take_iff_getElem.2 ⟨i,by omega,rfl⟩) (by simpa using he)
theorem wV {y:af}(h:symB y=true){a:aH}(ha:a∈y.as_):fc y a.Name=(a,true):=by
 unfold symB at h;simp only[Afz] at h;have hd:=Mx h.2.2.2;unfold fc;cases hf:y.as_.find? (λb=>decide (b.Name=a.Name)) with
 | none=>rw[Fxz] at hf;exact absurd (by simp) (hf a ha)
 | some b=>
  have Y:=Ecz hf;have he:b.Name=a.Name:=by simpa using Fyz hf
  have:b=a:=by
   rcases Fzz Y with ⟨i,hi,rfl⟩
   rcases Fzz ha with ⟨j,hj,rfl⟩
   rw[Fwz] at hd;rcases Ftz i j with h|h|h;exact absurd he (hd i j hi hj h);subst h;rfl;exact absurd he.symm (hd j i hj hi h)
  rw[this]
theorem Shape.find {g:ak}(h:Shape g){r:aa}(Z:r∈g.rs_){k:Nat}(hk:k<r.rt_.length+1):Go.Proofs.YtodhafdaelcnlaaGreat.symB (bT g (cy r (k:Int))).1=true:=by
 have Y:=h.brk 3 (by omega) (by omega) r Z;unfold iw at Y;rw[ao rfl] at Y;simp only[Fsz] at Y;unfold qa at Y;rw[Ekz] at Y;have U:=Y k (by rw[Gaz];omega);unfold bT at U ⊢;cases hf:g.ss_.find? (λy=>decide (y.Name=cy r (k:Int))) with
 | none=>rw[hf] at U;cases U
 | some y=>exact h.symB (Ecz hf)
theorem Shape.may {g:ak}(h:Shape g){r:aa}(Z:r∈g.rs_){q:aU}(hq:q∈r.es_){u:Oc}(hu:u∈Go.Proofs.YtodhafdaelcnlaaGreat.attrs q.Expr):fI g r u=true/\u∉cx g r:=by
 have Y:=h.brk 6 (by omega) (by omega) r Z;unfold iw at Y;rw[al (by omega),al (by omega),al (by omega)] at Y;unfold jP at Y;simp only[Fsz] at Y;rw[Ekz] at Y;have U:=Y q.Expr (by unfold oC;rw[List.mem_append];exact .inl (List.mem_map.2 ⟨q,hq,rfl⟩));unfold dr at U;rw[Ekz] at U;have hm:=U u hu;refine⟨hm,λhi=>?_⟩;unfold cx at hi;obtain⟨k,hk,hi⟩:=List.mem_flatMap.1 hi;rw[Gaz] at hk;unfold eW at hi;obtain⟨a,ha,rfl⟩:=List.mem_map.1 hi;rw[List.mem_filter] at ha;have hs:=h.find Z (k:=k) (by omega);unfold fI gu at hm;rw[ao (by dsimp only;omega)] at hm;dsimp only at hm;rw[wV hs ha.1] at hm;have W:=ha.2;simp only[decide_eq_true_eq,Afz] at W hm;rw[W] at hm;by_cases h0:(k:Int)=0;rw[ao h0,ao h0] at hm;omega;rw[al h0,al h0] at hm;omega
theorem SA (l:List Oc)(o:Oc):na l o=some (eT l o):=by
 have h:l5 l o=some (eT l o):=by
  unfold l5;refine Fl λk x=>⟨λe=>?_,λe=>?_⟩
  unfold nb;rw[ao e.symm];unfold nb;rw[al (λh=>e h.symm)]
 unfold na;rw[h];rfl
theorem Sy {l:List Oc}{u:Oc}{a:Nat}(h:(a:Int)=eT l u):l[a]?=some u:=by
 unfold eT at h;by_cases hm:u∈l;rw[ao hm] at h;obtain rfl:a=l.idxOf u:=by omega
 have hl:=Gbz hm;rw[Cmz hl,Gcz];rw[al hm] at h;omega
theorem Sx {l:List Oc}{u:Oc}{a:Nat}(h:(a:Int)=eT l u):a<l.length:=(List.getElem?_eq_some_iff.1 (Sy h)).1
theorem Sw {l:List Oc}(hn:l.Nodup){u:Oc}{a:Nat}(h:l[a]?=some u):(a:Int)=eT l u:=by
 have hm:=Bvz h;unfold eT;rw[ao hm];have hl:=Gbz hm;have he:l[l.idxOf u]=u:=Gcz hl;obtain⟨ha,e⟩:=List.getElem?_eq_some_iff.1 h;rw[List.Nodup,Fwz] at hn;rcases Ftz a (l.idxOf u) with q|q|q;exact absurd (e.trans he.symm) (hn _ _ ha hl q);omega;exact absurd (he.trans e.symm) (hn _ _ hl ha q)
theorem Iv (l:List Oc)(k:Nat)(hk:k<l.length):∀ (us:List Oc) (i:Nat) (o:au),aI o->o.N=(l.length:Int) ->
  ∃ o',eachL (pP l k) i us (o.Rows,o.N)=some (o'.Rows,o'.N)/\aI o'/\o'.N=o.N/\∀ a c:Nat,Rl o'.Rows a c↔Rl o.Rows a c∨(c=k/\∃ u∈us,(a:Int)=eT l u)
 | [],i,o,hv,hN=>⟨o,rfl,hv,rfl,λa c=>by simp⟩
 | u::us,i,o,hv,hN=>by
  have hlen:o.Rows.length<=1048576:=by have:=hv.2.1;have:=hv.2.2.1;omega
  have e:pP l k i u (o.Rows,o.N)=some ((cB o (eT l u) (k:Int)).Rows,(cB o (eT l u) (k:Int)).N):=by
   unfold pP;dsimp only;rw[SA,aj,AC,wa hlen,aj]
  obtain⟨o',U,W,h3,h4⟩:=Iv l k hk us (i+1) (cB o (eT l u) (k:Int)) (oZ hv _ _) ((nD _ _ _).2.trans hN);refine⟨o',by rw[eachL,e,aj];exact U,W,h3.trans (nD _ _ _).2,λa c=>?_⟩;rw[h4,wu hv];have hin:(a:Int)=eT l u->eh o (eT l u):=λh=>⟨by omega,by have:=Sx h;omega⟩
  constructor;rintro ((h|⟨_,_,U,W⟩)|⟨U,u',hu,W⟩);exact .inl h;exact .inr ⟨by omega,u,by simp,U⟩;exact .inr ⟨U,u',by simp[hu],W⟩;rintro (h|⟨U,u',hu,W⟩);exact .inl (.inl h);rcases List.mem_cons.1 hu with rfl|hu;exact .inl (.inr ⟨hin W,⟨by omega,by omega⟩,W,by omega⟩);exact .inr ⟨U,u',hu,W⟩
theorem Jg {r:aa}(Z:Sz.szd r<=1048576)(l:List Oc):∀ (m k:Nat) (o:au),k+m=l.length->aI o->o.N=(l.length:Int) ->
  ∃ o',eachL (pO r l) k (l.drop k) (o.Rows,o.N)=some (o'.Rows,o'.N)/\aI o'/\o'.N=o.N/\∀ a c:Nat,Rl o'.Rows a c↔Rl o.Rows a c∨(k<=c/\∃ x,l[c]?=some x/\∃ u∈attrs (bR r x).1,(a:Int)=eT l u)
 | 0,k,o,hk,hv,hN=>by
  refine⟨o,by rw[Fuz (by omega)];rfl,hv,rfl,λa c=>⟨.inl,?_⟩⟩;rintro (h|⟨U,x,W,_⟩);exact h;have:=(List.getElem?_eq_some_iff.1 W).1;omega
 | m+1,k,o,hk,hv,hN=>by
  have hk' : k<l.length:=by omega
  have hsz:=JB Z l[k];have hf:=JA Z l[k];obtain⟨o1,U,W,h3,h4⟩:=Iv l k hk' (attrs (bR r l[k]).1) 0 o hv hN;obtain⟨o',k1,k2,k3,k4⟩:=Jg Z l m (k+1) o1 (by omega) W (h3.trans hN);have e1:pO r l k l[k] (o.Rows,o.N)=some (o1.Rows,o1.N):=by
   unfold pO;dsimp only;generalize bR r l[k]=z at hsz hf U;obtain⟨E,B⟩:=z;rw[hf.2,aj];dsimp only;rw[Ew hsz,aj,U];rfl
  refine⟨o',by rw[Csz hk',eachL,e1,aj];exact k1,k2,k3.trans h3,λa c=>?_⟩;rw[k4,h4];constructor;rintro ((h|⟨rfl,u,hu,h⟩)|⟨hc,h⟩);exact .inl h;exact .inr ⟨Acz _,l[c],Cmz hk',u,hu,h⟩;exact .inr ⟨by omega,h⟩;rintro (h|⟨hc,x,hx,u,hu,h⟩);exact .inl (.inl h);by_cases hck:c=k;subst hck;rw[Cmz hk'] at hx;cases hx;exact .inl (.inr ⟨rfl,u,hu,h⟩);exact .inr ⟨by omega,x,hx,u,hu,h⟩
theorem VH (n i j:Nat):¬ Rl (Bqz n 0) i j:=by
 unfold Rl;rw[Cwz,List.getElem?_replicate];split<;>simp
theorem K9 {g:ak}{r:aa}(hg:Sz.szd g<=1048576)(Z:Sz.szd r<=1048576)(hl:(bk g r).length<=16):aI (b7 g r)/\(b7 g r).N=((bk g r).length:Int) /\
  ∀ a c:Nat,Rl (b7 g r).Rows a c↔∃ x,(bk g r)[c]?=some x/\∃ u∈attrs (bR r x).1,(a:Int)=eT (bk g r) u:=by
 have h:=(ID hg Z).2.1;unfold pL at h;rw[Ap (iP hg) (iB Z),aj,FH,EL (by omega) (by omega),aj,al (by omega)] at h;obtain⟨o',U,W,h3,h4⟩:=Jg Z (bk g r) (bk g r).length 0 ⟨((bk g r).length:Int),Bqz (((bk g r).length:Int)).toNat 0⟩ (by omega) (Bi (by omega) (by omega)) rfl;rw[Fiz] at U;rw[U,aj] at h;have e:b7 g r=o':=(Option.some.inj h).symm;rw[e];refine⟨W,h3,λa c=>?_⟩;rw[h4];constructor;rintro (h|⟨_,h⟩);exact absurd h (VH _ _ _);exact h;exact λh=>.inr ⟨Aez _,h⟩
theorem Shape.plainP {g:ak}(h:Shape g)(s:an):(cL g s).Pairwise λa b=>a.Name≠b.Name:=by
 unfold cL;refine List.Pairwise.filter _ ?_;unfold bT;cases hf:g.ss_.find? (λy=>decide (y.Name=s)) with
 | none=>exact List.Pairwise.nil
 | some y=>
  have:=h.symB (Ecz hf);unfold Go.Proofs.YtodhafdaelcnlaaGreat.symB at this;simp only[Afz] at this;exact Mx this.2.2.2
theorem Shape.occ_nodup {g:ak}(h:Shape g)(r:aa):(bk g r).Nodup:=by
 unfold bk;rw[List.Nodup,List.pairwise_flatMap];refine⟨λk hk=>?_,?_⟩;unfold b0;rw[List.pairwise_map];refine (h.plainP _).imp λ{a b} hab he=>hab ?_;injection he;have hp:(List.range' 0 (r.rt_.length+1)).Pairwise (·≠·):=List.nodup_range';refine hp.imp λ{a b} hab x hx y hy he=>hab ?_;unfold b0 at hx hy;obtain⟨_,_,rfl⟩:=List.mem_map.1 hx;obtain⟨_,_,rfl⟩:=List.mem_map.1 hy;injection he with e;omega
theorem Sv {g:ak}(h:Shape g){r:aa}(Z:r∈g.rs_){q:aU}(hq:q∈r.es_):q.At∈cx g r:=by
 have Y:=h.brk 5 (by omega) (by omega) r Z;unfold iw at Y;rw[al (by omega),al (by omega),ao rfl] at Y;unfold sf at Y;rw[Option.isSome_eq_false_iff,Gez] at Y;obtain⟨k,hk⟩:=Elz hq;have W:=o8 r.es_ [] Y k q hk;rw[Bool.or_eq_false_iff] at W;simpa using W.1
theorem Ea {r:aa}{o:Oc}(h:(bR r o).2=true):∃ q∈r.es_,q.At=o/\(bR r o).1=q.Expr:=by
 unfold bR at h ⊢;cases hf:r.es_.find? (λq=>decide (q.At=o)) with
 | none=>rw[hf] at h;cases h
 | some q=>exact⟨q,Ecz hf,by simpa using Fyz hf,rfl⟩
def zN:Node:=⟨0,0,0,0,⟨#[]⟩,[]⟩
def dh (g:ak)(nm:an):aa:=(g.rs_.find? λr=>decide (r.Name=nm)).getD NU
theorem gv {g:ak}(hS:Shape g){r:aa}(Z:r∈g.rs_):dh g r.Name=r:=by
 unfold dh;cases hf:g.rs_.find? (λx=>decide (x.Name=r.Name)) with
 | none=>rw[Fxz] at hf;exact absurd (by simp) (hf r Z)
 | some x=>
  have hx:=Ecz hf;have he:x.Name=r.Name:=by simpa using Fyz hf
  obtain⟨k,hk⟩:=Elz hx;obtain⟨j,hj⟩:=Elz Z;have:=hS.rnames hk hj he;subst this;rw[hk] at hj;exact Option.some.inj hj
def gg (g:ak)(x:Node):List aH:=(bT g (dh g x.aa).Left).1.as_
def cN (g:ak)(N:List Node):List a7:=N.flatMap λx=>(gg g x).map λa=>(⟨x.Id,a.Name⟩:a7)
theorem UD {g:ak}{n:an}(h:(bT g n).2=true):(bT g n).1∈g.ss_:=by
 unfold bT at h ⊢;cases hf:g.ss_.find? (λy=>decide (y.Name=n)) with
 | none=>rw[hf] at h;cases h
 | some y=>exact Ecz hf
theorem wq {g:ak}(hS:Shape g){x:Node}{r:aa}(Z:r∈g.rs_)(e:x.aa=r.Name):gg g x=(bT g r.Left).1.as_/\symB (bT g r.Left).1=true/\(bT g r.Left).1.as_.length<=4:=by
 have Y:=hS.symB (UD (hS.left Z));refine⟨by unfold gg;rw[e,gv hS Z],Y,?_⟩;unfold symB at Y;simp only[Afz,decide_eq_true_eq] at Y;exact Y.2.2.1
section
variable {g:ak}{N:List Node}
structure fp (g:ak) (N:List Node):Prop where
 n1:1<=N.length
 n16:N.length<=16
 ids:(N.map Node.Id).Nodup
 ok:∀ v,v<N.length->Ai g N v
 kid:∀ x∈N,x.cn_.length<=3
theorem fp.of (hS:Shape g)(U:1<=N.length)(W:N.length<=16)(hn:(N.map Node.Id).Nodup){T:Tr}{p q:Int}{s:an}(hT:gK g N T 0 p q s)(hz:T.sz=N.length):fp g N:=by
 have hok:∀ v,v<N.length->Ai g N v:=λv hv=>Iw T 0 p q s hT v (by omega) (by omega);refine⟨U,W,hn,hok,λx hx=>?_⟩;obtain⟨v,hv⟩:=Elz hx;obtain⟨x',r,U,W,h3,h4,_⟩:=hok v (List.getElem?_eq_some_iff.1 hv).1;rw[hv] at U;cases U;rw[h4];exact hJ hS W
theorem fp.nid (h:fp g N){i j:Nat}{x y:Node}(hi:N[i]?=some x)(hj:N[j]?=some y)(e:x.Id=y.Id):i=j:=by
 have hi':=(List.getElem?_eq_some_iff.1 hi).1;have hj':=(List.getElem?_eq_some_iff.1 hj).1;have a:(N.map Node.Id)[i]?=some x.Id:=by rw[Czz,hi];rfl
 have b:(N.map Node.Id)[j]?=some x.Id:=by rw[Czz,hj,e];rfl
 exact (List.getElem?_inj (by rw[bn];exact hi') h.ids).1 (a.trans b.symm)
theorem Su (h:fp g N){v:Nat}{x:Node}(hv:N[v]?=some x):pt ⟨N⟩ x.Id=some (v:Int):=by
 have hlt:=(List.getElem?_eq_some_iff.1 hv).1;have key:∀ (xs:List Node) (k:Nat),(∀ (j:Nat) y,xs[j]?=some y->N[k+j]?=some y)->k<=v->v<k+xs.length->findL (yt x.Id) k xs ()=some (.inr (v:Int)):=by
  intro xs
  induction xs with
  | nil=>intro k _ U W;simp at W;omega
  | cons y xs ih=>
   intro k hx U W;have hy:=hx 0 y rfl;rw[Nat.add_zero] at hy;rw[findL];by_cases e:y.Id=x.Id;have:k=v:=h.nid hy hv e;subst this;unfold yt;rw[ao e];rfl;unfold yt;rw[al e,aj];have hne:k≠v:=λe2=>by subst e2;rw[hv] at hy;cases hy;exact e rfl
   exact ih (k+1) (λj y hj=>by rw[show k+1+j=k+(j+1) by omega];exact hx (j+1) y (by simpa using hj)) (by omega) (by simp at W;omega)
 unfold pt;rw[key N 0 (λj y hj=>by rw[Adz];exact hj) (Aez _) (by omega)];rfl
theorem Tk (h0:Sz.szd g<=1048576)(hS:Shape g)(h:fp g N){s:an}(hs:kY g ⟨N⟩ 0=some s)(ht:pk g ⟨N⟩ s=some true):ru g ⟨N⟩=some (cN g N)/\(cN g N).length<=64:=by
 have hlen:∀ k,k<=N.length->(cN g (N.take k)).length<=4*k:=by
  intro k
  induction k with
  | zero=>intro _;rw[Fmz];exact Aez _
  | succ k ih=>
   intro hk;have hi:=ih (by omega);obtain⟨x,r,hx,Z,e,_⟩:=h.ok k (by omega);rw[Dvz,hx];unfold cN at hi ⊢;rw[Gdz,Axz];show _+((([x]:List Node).flatMap _).length)<=_;rw[Bkz,List.flatMap_nil,Cgz,bn,(wq hS Z e).1];have:=(wq hS Z e).2.2;omega
 have hl:(cN g N).length<=64:=by
  have:=hlen N.length (Acz _);rw[List.take_length] at this;have:=h.n16;omega
 refine⟨?_,hl⟩;unfold ru;rw[hs,aj,ht,aj,ao rfl];obtain⟨s',e,hp⟩:=iW (P:=λi (s:List a7)=>s=cN g (N.take i)) (xs:=N) (i:=0) (s:=([]:List a7)) (f:=yu g ⟨N⟩) (by rw[Fmz];rfl) λk x s hk hs=>by
  rw[Adz] at hs ⊢;have hlt:=(List.getElem?_eq_some_iff.1 hk).1;obtain⟨x',r,hx,Z,e,_⟩:=h.ok k hlt;rw[hk] at hx;cases hx;obtain⟨K,a2,a3⟩:=wq hS Z e;have Y:=hlen k (by omega);have hn:=h.n16;refine⟨s++(bT g r.Left).1.as_.map λa=>(⟨x.Id,a.Name⟩:a7),?_,?_⟩;unfold yu;rw[Jh h0 hS hk Z e,aj,lQ (iP h0),aj];dsimp only;rw[oL (g:=λa:aH=>(⟨x.Id,a.Name⟩:a7)) (B:=1000) (bT g r.Left).1.as_ 0 s (λk a s ha hs=>by
   unfold Gx;rw[aD (by constructor<;>omega)]) (by rw[hs];omega)];rfl
  rw[hs,Dvz,hk];unfold cN;rw[Gdz];show _=_++(([x]:List Node).flatMap _);rw[Bkz,List.flatMap_nil,Cgz,K]
 rw[Adz,List.take_length] at hp;show (eachL (yu g ⟨N⟩) 0 N []).bind _=_;rw[e,hp];rfl
def og (g:ak)(N:List Node)(u:Nat)(pos:Int)(nm:an):Option (Nat×Expr):=
 if (bR (dh g (N.getD u zN).aa) ⟨pos,nm⟩).2=true then some (u,(bR (dh g (N.getD u zN).aa) ⟨pos,nm⟩).1) else none
def oF (g:ak)(N:List Node)(v:Nat)(a:aH):Option (Nat×Expr):=
 if a.Mode=3 then none else if a.Mode=1 then (if 0<=(N.getD v zN).Parent/\(N.getD v zN).Parent<=(N.length:Int)-1 then og g N (N.getD v zN).Parent.toNat (N.getD v zN).Place a.Name else none) else og g N v 0 a.Name
theorem jQ {v:Nat}{x:Node}(h:N[v]?=some x):N.getD v zN=x:=by rw[Cwz,h];rfl
theorem Iu (h0:Sz.szd g<=1048576)(hS:Shape g)(h:fp g N){u:Nat}(hu:u<N.length)(pos:Int)(nm:an) :
  (grd (0<=(u:Int)) <| (N[((u:Nat):Int).toNat]?).bind λx2=>(jy g x2.aa).bind λ(y5,y6)=>(kj y5 (⟨pos,nm⟩:Oc)).bind λ(y7,y8)=>if y8=true then some ((⟨(u:Int),y7⟩:jo),true) else some ((⟨0,(⟨0,0,0,0,(⟨#[]⟩:an),(⟨#[]⟩:an),[]⟩:Expr)⟩:jo),false)) =
   some (match og g N u pos nm with|some (o,e)=>((⟨(o:Int),e⟩:jo),true)|none=>((⟨0,(⟨0,0,0,0,(⟨#[]⟩:an),(⟨#[]⟩:an),[]⟩:Expr)⟩:jo),false)):=by
 obtain⟨x,r,hx,Z,e,_⟩:=h.ok u hu;rw[aD (by omega),cE,hx,aj,e,MD h0 hS Z,aj];dsimp only;rw[Az (Bgz (ia Z) h0),aj];unfold og;rw[jQ hx,e,gv hS Z];cases hq:(bR r ⟨pos,nm⟩).2 with
 | true=>rw[ao rfl,ao rfl]
 | false=>rw[al Evz,al Evz]
theorem Ss (h0:Sz.szd g<=1048576)(hS:Shape g)(h:fp g N){v:Nat}{x:Node}(hv:N[v]?=some x){a:aH}(ha:a∈gg g x) :
  uN g ⟨N⟩ ⟨x.Id,a.Name⟩=some (match oF g N v a with|some (o,e)=>((⟨(o:Int),e⟩:jo),true)|none=>((⟨0,(⟨0,0,0,0,(⟨#[]⟩:an),(⟨#[]⟩:an),[]⟩:Expr)⟩:jo),false)):=by
 have hlt:=(List.getElem?_eq_some_iff.1 hv).1;obtain⟨x',r,hx,Z,e,_⟩:=h.ok v hlt;rw[hv] at hx;cases hx;obtain⟨K,a2,a3⟩:=wq hS Z e;have hix:=Su h hv;have hA:uR g ⟨N⟩ ⟨x.Id,a.Name⟩=some (a,true):=by
  unfold uR;dsimp only;rw[hix,aj,al (by omega),aj,Jh h0 hS hv Z e,aj,lQ (iP h0),aj];rw[w6,aj,wV a2 (by rw[← K];exact ha)]
 have hn16:=h.n16;unfold uN;dsimp only;rw[hA,aj];dsimp only;rw[hix,aj,ao rfl];unfold oF;rw[jQ hv];by_cases m3:a.Mode=3;rw[ao m3,ao m3];rw[al m3,al m3];by_cases m1:a.Mode=1;rw[ao m1,ao m1,aD (by omega),cE,hv,aj,aj];dsimp only;rw[fQ,aj];by_cases hp:0<=x.Parent/\x.Parent<=(N.length:Int)-1;obtain⟨u,hu⟩:∃ u:Nat,x.Parent=(u:Int):=⟨x.Parent.toNat,by omega⟩
 rw[ao (decide_eq_true hp),ao hp,hu,cE];exact Iu h0 hS h (by omega) x.Place a.Name;rw[al (by rw[decide_eq_false hp];decide),al hp];rw[al m1,al m1,aj];dsimp only;rw[fQ,aj,ao (decide_eq_true (by omega))];exact Iu h0 hS h hlt 0 a.Name
def eL (N:List Node)(u:Nat)(o:Oc):Option a7:=
 if 0<=o.Pos/\o.Pos<=((N.getD u zN).cn_.length:Int) then
  (if 0<o.Pos then (if 0<=(N.getD u zN).cn_.getD (o.Pos-1).toNat 0/\(N.getD u zN).cn_.getD (o.Pos-1).toNat 0<=(N.length:Int)-1 then some ⟨(N.getD ((N.getD u zN).cn_.getD (o.Pos-1).toNat 0).toNat zN).Id,o.Name⟩ else none)
   else some ⟨(N.getD u zN).Id,o.Name⟩) else none
theorem Sr (h:fp g N){u:Nat}(hu:u<N.length)(o:Oc):uk g ⟨N⟩ (u:Int) o=some (match eL N u o with|some y=>(y,true)|none=>((⟨0,(⟨#[]⟩:an)⟩:a7),false)):=by
 have hx:N[u]?=some N[u]:=Cmz hu;have hk:=h.kid N[u] (List.getElem_mem hu);have hn16:=h.n16;generalize hxe:N[u]=x at hx hk;unfold uk eL;rw[jQ hx];dsimp only;rw[fQ,aj,ao (decide_eq_true (by omega)),aD (by omega),cE,hx,aj,fQ,aj];by_cases hp:0<=o.Pos/\o.Pos<=(x.cn_.length:Int);rw[ao (decide_eq_true hp),ao hp];by_cases h0:0<o.Pos;have hc:x.cn_[(o.Pos-1).toNat]?=some (x.cn_.getD (o.Pos-1).toNat 0):=by rw[Cwz,Cmz (by omega)];rfl
 rw[ao h0,ao h0,aD (by constructor<;>omega),aD (by omega),hc,aj,fQ,aj];generalize x.cn_.getD (o.Pos-1).toNat 0=c;by_cases hcr:0<=c/\c<=(N.length:Int)-1;have hy:N[c.toNat]?=some (N.getD c.toNat zN):=by rw[Cwz,Cmz (by omega)];rfl
 rw[ao (decide_eq_true hcr),ao hcr,aD hcr.1,hy,aj];rw[al (by rw[decide_eq_false hcr];decide),al hcr];rw[al h0,al h0,aj,ao (decide_eq_true (by omega))];rw[al (by rw[decide_eq_false hp];decide),al hp]
def gM (g:ak)(N:List Node)(v:Nat)(a:aH):List a7:=match oF g N v a with
 | some (u,e)=>(attrs e).filterMap (eL N u)
 | none=>[]
theorem Eu {f:Nat->Oc->List a7->Option (List a7)}{p:Oc->Option a7}(hf:∀ k o s,s.length<1048577->f k o s=some (match p o with|some y=>s++[y]|none=>s)):∀ (xs:List Oc) (k:Nat) (s:List a7),s.length+xs.length<=1048577->eachL f k xs s=some (s++xs.filterMap p)
 | [],k,s,_=>by rw[List.filterMap_nil,Cgz];rfl
 | o::xs,k,s,h=>by
  simp only[bH] at h;rw[eachL,hf k o s (by omega),aj];cases hp:p o with
  | some y=>rw[List.filterMap_cons_some hp];dsimp only;rw[Eu hf xs (k+1) (s++[y]) (by simp;omega),List.append_assoc];rfl
  | none=>rw[List.filterMap_cons_none hp];dsimp only;exact Eu hf xs (k+1) s (by omega)
theorem Ii (h0:Sz.szd g<=1048576)(hS:Shape g)(h:fp g N){u w:Nat}{e:Expr}(hu:u<N.length){pos:Int}{nm:an}(hq:og g N u pos nm=some (w,e)):w=u/\Sz.szd e<=1048576/\∃ r∈g.rs_,(N.getD u zN).aa=r.Name/\∃ q∈r.es_,q.At=⟨pos,nm⟩/\q.Expr=e:=by
 obtain⟨x,r,hx,Z,e1,_⟩:=h.ok u hu;unfold og at hq;rw[jQ hx,e1,gv hS Z] at hq;by_cases hc:(bR r ⟨pos,nm⟩).2=true;rw[ao hc] at hq;obtain⟨q,q1,q2,q3⟩:=Ea hc;rw[q3] at hq;injection hq with hq;injection hq with hw he;refine⟨hw.symm,?_,r,Z,by rw[jQ hx];exact e1,q,q1,q2,he⟩;have K:=lL q1;have a2:=uf q;have a3:=nE r;have a4:=ia Z;have a5:=eX q.Expr;rw[← he];omega;rw[al hc] at hq;cases hq
theorem OO (h0:Sz.szd g<=1048576)(hS:Shape g)(h:fp g N){v w:Nat}{a:aH}{e:Expr}(hv:v<N.length)(hq:oF g N v a=some (w,e)):w<N.length/\Sz.szd e<=1048576:=by
 unfold oF at hq;by_cases m3:a.Mode=3;rw[ao m3] at hq;cases hq;rw[al m3] at hq;by_cases m1:a.Mode=1;rw[ao m1] at hq;by_cases hp:0<=(N.getD v zN).Parent/\(N.getD v zN).Parent<=(N.length:Int)-1;rw[ao hp] at hq;obtain⟨k1,k2,_⟩:=Ii h0 hS h (by omega) hq;exact⟨by omega,k2⟩;rw[al hp] at hq;cases hq;rw[al m1] at hq;obtain⟨k1,k2,_⟩:=Ii h0 hS h hv hq;exact⟨by omega,k2⟩
theorem Sq (h0:Sz.szd g<=1048576)(hS:Shape g)(h:fp g N){v:Nat}{x:Node}(hv:N[v]?=some x){a:aH}(ha:a∈gg g x):uM g ⟨N⟩ ⟨x.Id,a.Name⟩=some (gM g N v a)/\(gM g N v a).length<=1048577:=by
 have hlt:=(List.getElem?_eq_some_iff.1 hv).1;unfold uM gM;rw[Ss h0 hS h hv ha,aj];cases hd:oF g N v a with
 | none=>
  dsimp only;rw[al Evz];exact⟨rfl,Aez _⟩
 | some p=>
  obtain⟨u,e⟩:=p;obtain⟨U,W⟩:=OO h0 hS h hlt hd;have hl:=Bgz VS (D9 W);dsimp only;rw[ao rfl,EN W,aj,Eu (p:=eL N u) (λk o s hs=>by
   unfold GT;dsimp only;rw[Sr h U,aj];cases eL N u o with
   | some y=>
    dsimp only;rw[ao rfl,aD (by constructor<;>omega)];rfl
   | none=>
    dsimp only;rw[al Evz];rfl) (attrs e) 0 [] (by simp;omega)]
  exact⟨rfl,Bgz (List.length_filterMap_le _ _) hl⟩
end
theorem KY {α:Type}{f:Nat->List α}{p:α->Bool}{k:Nat}(U:∀ x∈f k,p x=true)(W:∀ j,j≠k->∀ x∈f j,p x=false):∀ (m s:Nat),s<=k->k<s+m->((List.range' s m).flatMap f).filter p=f k
 | 0,s,a,b=>by omega
 | m+1,s,a,b=>by
  rw[List.range'_succ,Bkz,List.filter_append];by_cases e:s=k;subst e;rw[List.filter_eq_self.2 U,List.filter_eq_nil_iff.2,Cgz];intro x hx;obtain⟨j,hj,hx⟩:=List.mem_flatMap.1 hx;rw[Gaz] at hj;rw[W j (by omega) x hx];decide;rw[KY U W m (s+1) (by omega) (by omega),List.filter_eq_nil_iff.2,List.nil_append];intro x hx;rw[W s e x hx];decide
theorem Wj (g:ak){r:aa}{k:Nat}(hk:k<=r.rt_.length):(bk g r).filter (λo=>decide (o.Pos=(k:Int)))=b0 g r k:=by
 unfold bk;refine KY (λx hx=>?_) (λj hj x hx=>?_) _ 0 (Aez _) (by omega);unfold b0 at hx;obtain⟨a,_,rfl⟩:=List.mem_map.1 hx;exact decide_eq_true rfl;unfold b0 at hx;obtain⟨a,_,rfl⟩:=List.mem_map.1 hx;exact decide_eq_false (by dsimp only;omega)
theorem Jf {g:ak}{r:aa}{k p:Nat}(hk:k<=r.rt_.length){a:Int}(h:(dv g r (k:Int))[p]?=some a):∃ (i:Nat) (at' : aH),a=(i:Int)/\(cL g (cy r (k:Int)))[p]?=some at'/\(bk g r)[i]?=some ⟨(k:Int),at'.Name⟩:=by
 unfold dv at h;rw[Czz] at h;cases hz:(((bk g r).zipIdx 0).filter λq=>decide (q.1.Pos=(k:Int)))[p]? with
 | none=>rw[hz] at h;cases h
 | some q=>
  rw[hz] at h;obtain⟨o,i⟩:=q;have h:(i:Int)=a:=Option.some.inj h;have hm:=Bvz hz;rw[List.mem_filter] at hm;have hi:=List.mem_zipIdx_iff_getElem?.1 hm.1;have hmap:(((bk g r).zipIdx 0).filter λq=>decide (q.1.Pos=(k:Int))).map (·.1)=b0 g r k:=by
   rw[← Wj g hk];have:∀ (l:List Oc) (n:Nat),((l.zipIdx n).filter λq=>decide (q.1.Pos=(k:Int))).map (·.1)=l.filter λo=>decide (o.Pos=(k:Int)):=by
    intro l
    induction l with
    | nil=>intro n;rfl
    | cons x l ih=>
     intro n;rw[List.zipIdx_cons,List.filter_cons,List.filter_cons];by_cases hx:decide (x.Pos=(k:Int))=true;rw[ao hx,ao hx,List.map_cons,ih];rw[al hx,al hx,ih]
   exact this _ 0
  have hp:(b0 g r k)[p]?=some o:=by rw[← hmap,Czz,hz];rfl
  unfold b0 at hp;rw[Czz] at hp;cases ha:(cL g (cy r (k:Int)))[p]? with
  | none=>rw[ha] at hp;cases hp
  | some at'=>
   rw[ha] at hp;have hp:(⟨(k:Int),at'.Name⟩:Oc)=o:=Option.some.inj hp;exact⟨i,at',h.symm,rfl,by rw[hp];simpa using hi⟩
theorem Bz {own:au}{a:Nat}{x:Int}:∀ (ys:List Int) (i:Nat) (o:au),aI o->aI (fP own a x i ys o)
 | [],i,o,hv=>hv
 | y::ys,i,o,hv=>by
  rw[fP];refine Bz ys (i+1) _ ?_;split;exact oZ hv x y;exact hv
theorem yf {own:au}{at' : List Int}:∀ (xs:List Int) (a:Nat) (o:au),aI o->aI (iy own at' a xs o)
 | [],a,o,hv=>hv
 | x::xs,a,o,hv=>by rw[iy];exact yf xs (a+1) _ (Bz at' 0 o hv)
section
variable {g:ak}{N:List Node}
theorem Je {y:a7}:y∈cN g N↔∃ (v:Nat) (x:Node) (a:aH),N[v]?=some x/\a∈gg g x/\y=(⟨x.Id,a.Name⟩:a7):=by
 unfold cN;rw[List.mem_flatMap];constructor;rintro⟨x,hx,hy⟩;obtain⟨v,hv⟩:=Elz hx;obtain⟨a,ha,rfl⟩:=List.mem_map.1 hy;exact⟨v,x,a,hv,ha,rfl⟩;rintro⟨v,x,a,hv,ha,rfl⟩;exact⟨x,Bvz hv,List.mem_map.2 ⟨a,ha,rfl⟩⟩
theorem Tj (hS:Shape g)(h:fp g N){v v' : Nat}{x x' : Node}{a a' : aH}(hv:N[v]?=some x)(hv' : N[v']?=some x')(ha:a∈gg g x)(ha' : a'∈gg g x')(e:(⟨x.Id,a.Name⟩:a7)=⟨x'.Id,a'.Name⟩):v=v'/\x=x'/\a=a':=by
 injection e with e1 e2;have:=h.nid hv hv' e1;subst this;rw[hv] at hv';cases hv';refine⟨rfl,rfl,?_⟩;obtain⟨x'',r,hx,Z,e,_⟩:=h.ok v (List.getElem?_eq_some_iff.1 hv).1;rw[hv] at hx;cases hx;obtain⟨K,a2,a3⟩:=wq hS Z e;rw[K] at ha ha';have f1:=wV a2 ha;have f2:=wV a2 ha';rw[e2,f2] at f1;exact (congrArg Prod.fst f1).symm
theorem Sn (l:List a7)(y:a7):va l y=some (eT l y):=by
 unfold va;exact Fl λk x=>⟨λe=>by unfold Cq;rw[ao e],λe=>by unfold Cq;rw[al e]⟩
theorem Ti (l:List a7)(y:a7):-1<=eT l y/\eT l y<(l.length:Int):=by
 unfold eT;by_cases h:y∈l;rw[ao h];have:=List.idxOf_lt_length_iff.2 h;omega;rw[al h];omega
structure NL (g:ak) (N:List Node) (tb:List (List Int)):Prop where
 ok:TB tb
 len:tb.length=(cN g N).length
 row:∀ (v:Nat) (x:Node) (a:aH),N[v]?=some x->a∈gg g x->∀ k:Nat,(cN g N)[k]?=some ⟨x.Id,a.Name⟩->tb[k]?=some ((gM g N v a).map (eT (cN g N)))
theorem UC (h0:Sz.szd g<=1048576)(hS:Shape g)(h:fp g N){s:an}(hs:kY g ⟨N⟩ 0=some s)(ht:pk g ⟨N⟩ s=some true):∃ tb,pA g ⟨N⟩=some tb/\NL g N tb:=by
 obtain⟨e1,hl⟩:=Tk h0 hS h hs ht;unfold pA;rw[e1,aj];generalize hL:cN g N=L at e1 hl;obtain⟨s',e,hp⟩:=iW (P:=λi (s:List (List Int))=>s.length=i/\(∀ row∈s,∀ x∈row,-1<=x/\x<(L.length:Int))/\∀ (v:Nat) (x:Node) (a:aH),N[v]?=some x->a∈gg g x->∀ k:Nat,k<i->L[k]?=some ⟨x.Id,a.Name⟩->s[k]?=some ((gM g N v a).map (eT L))) (xs:=L) (i:=0) (s:=([]:List (List Int))) (f:=B7 g ⟨N⟩ L) ⟨rfl,λrow Z=>(nomatch Z),λv x a _ _ k hk=>(by omega)⟩ λk y s hk hs=>by
  rw[Adz] at hs ⊢;obtain⟨s1,s2,s3⟩:=hs;have hlt:=(List.getElem?_eq_some_iff.1 hk).1;have hy:y∈cN g N:=by rw[hL];exact Bvz hk
  obtain⟨v,x,a,hv,ha,rfl⟩:=Je.1 hy;obtain⟨i1,i2⟩:=Sq h0 hS h hv ha;refine⟨s++[(gM g N v a).map (eT L)],?_,by rw[Axz,s1];rfl,λrow Z z hz=>?_,λv' x' a' hv' ha' k' hk' hk2=>?_⟩;unfold B7;rw[i1,aj,oL (g:=eT L) (B:=1048577) (gM g N v a) 0 [] (λk y s hy hs=>by
   unfold GK;rw[Sn,aj,aD (by constructor<;>omega)]) (by simp;omega),aj,aD (by constructor<;>omega)];rfl
  rcases List.mem_append.1 Z with Z|Z;exact s2 row Z z hz;rw[List.mem_singleton] at Z;subst Z;obtain⟨w,_,rfl⟩:=List.mem_map.1 hz;exact Ti L w;by_cases e:k'=k;subst e;rw[hk] at hk2;obtain⟨q1,q2,q3⟩:=Tj hS h hv hv' ha ha' (Option.some.inj hk2);subst q1;subst q2;subst q3;rw[← s1,List.getElem?_append_right (Acz _),Nat.sub_self];rfl;rw[List.getElem?_append_left (by omega)];exact s3 v' x' a' hv' ha' k' (by omega) hk2
 rw[Adz] at hp;obtain⟨p1,p2,p3⟩:=hp;refine⟨s',by rw[e];rfl,⟨by omega,λrow Z z hz=>by rw[p1];exact p2 row Z z hz⟩,by rw[hL];exact p1,λv x a hv ha k hk=>?_⟩;rw[hL] at hk ⊢;exact p3 v x a hv ha k (List.getElem?_eq_some_iff.1 hk).1 hk
def DpI (g:ak)(N:List Node)(tb:List (List Int))(x y:a7):Prop:=Dp tb ((cN g N).idxOf x) ((cN g N).idxOf y)
end
section
variable {g:ak}{N:List Node}{tb:List (List Int)}
def nw (g:ak)(N:List Node)(tb:List (List Int))(u:Nat)(r:aa)(a b:Nat):Prop:=∃ oa ob ya yb,(bk g r)[a]?=some oa/\(bk g r)[b]?=some ob/\eL N u oa=some ya/\eL N u ob=some yb/\DpI g N tb yb ya
theorem nw.trans {u:Nat}{r:aa}{a b c:Nat}(h:nw g N tb u r a b)(k:nw g N tb u r b c):nw g N tb u r a c:=by
 obtain⟨oa,ob,ya,yb,U,W,h3,h4,h5⟩:=h;obtain⟨ob',oc,yb',yc,k1,k2,k3,k4,k5⟩:=k;rw[W] at k1;cases k1;rw[h4] at k3;cases k3;exact⟨oa,oc,ya,yc,U,k2,h3,k4,k5.trans h5⟩
theorem vO {r:aa}{a:Nat}(ha:a<(cL g r.Left).length):∃ at' : aH,(cL g r.Left)[a]?=some at'/\(bk g r)[a]?=some ⟨0,at'.Name⟩:=by
 have hs:cy r ((0:Nat):Int)=r.Left:=ao rfl;have hp:=Dg (g:=g) (r:=r) (m:=a) (by rw[hs];exact ha);obtain⟨i,at',e1,U,W⟩:=Jf (k:=0) (Aez _) hp;rw[hs] at U;have:a=i:=by omega
 subst this;exact⟨at',U,W⟩
theorem Mu (h0:Sz.szd g<=1048576){r:aa}(Z:r∈g.rs_)(L:List au):aI (fS g r L):=by
 unfold fS;by_cases h16:16<(bk g r).length;rw[ao h16];exact⟨by decide,by decide,rfl,λx hx=>nomatch hx⟩;rw[al h16];obtain⟨lv,_,_⟩:=K9 h0 (Bgz (ia Z) h0) (r:=r) (by omega);have hcv:∀ (l:List au) (k:Nat) (o:au),aI o->aI (dN g r k l o):=by
  intro l
  induction l with
  | nil=>intro k o ho;exact ho
  | cons y l ih=>intro k o ho;rw[dN];exact ih (k+1) _ (yf _ 0 o ho)
 exact xS (hcv L 0 _ lv)
theorem VG (g:ak)(r:aa)(L:List au):cC (fS g r L)=fS g r L:=by
 unfold fS;by_cases h16:16<(bk g r).length;rw[ao h16];decide;rw[al h16,XG]
end
end Go.Proofs.YtodhafdaelcnlaaGreat
