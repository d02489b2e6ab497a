/- What those partial functions come to: plain lemmas on data; each bears its conditions in its statement. -/
import Derived.Test.YtodhafdaelcnlaaGreatMath9
set_option linter.unusedVariables false
set_option linter.unusedSimpArgs false
set_option linter.ambiguousOpen false
set_option linter.unusedSectionVars false
set_option linter.unnecessarySimpa false
set_option maxRecDepth 100000
set_option maxHeartbeats 4000000
open Bool renaming and_eq_true->Afz,not_eq_false'->Fsz,false_ne_true->Fqz
open List renaming getD_eq_getElem?_getD->Cwz,replicate->Bqz,getElem?_replicate->Evz,getElem?_of_mem->Ekz,getElem?_eq_getElem->Cmz,pairwise_iff_getElem->Ftz,find?_eq_none->Fuz,mem_of_find?_eq_some->Ebz,find?_some->Fvz,getElem_of_mem->Fwz,all_eq_true->Ejz,mem_range'_1->Esz,mem_filter->Fxz,idxOf_lt_length_of_mem->Fyz,getElem_idxOf->Fzz,mem_of_getElem?->Bvz,getElem?_map->Czz,take_add_one->Dvz,flatMap_append->Ewz,length_append->Axz,flatMap_cons->Bkz,append_nil->Cgz
open Nat renaming zero_add->Adz,lt_trichotomy->Gaz,le_refl->Acz,zero_le->Aez,le_trans->Bgz
open Option renaming isNone_iff_eq_none->Gbz
namespace Go.Proofs.YtodhafdaelcnlaaGreat
open Go Go.E
theorem Ma {σ ρ:Type}{f:σ->Option (σ ⊕ ρ)}{r:ρ}:∀ (n:Nat) (s:σ),jz f n s=some r->∃ s',f s'=some (.inr r)
 | 0,s,h=>by cases h
 | n+1,s,h=>by
  rw[jz] at h;cases e:f s with
  | none=>rw[e] at h;cases h
  | some x=>
   rw[e,aj] at h;cases x with
   | inl s'=>exact Ma n s' h
   | inr q=>cases h;exact⟨s,e⟩
theorem XK {g:al}(h0:Sz.szd g<=1048576)(hS:Shape g){A B:List (List au)}(hA:aM g A)(h:bK (nv g) B=some (A,true)):(iF g A).2=false:=by
 obtain⟨n,hn⟩:=uv.1 h;obtain⟨s,hs⟩:=Ma n B hn;unfold nv at hs;cases e:rW g s with
 | none=>rw[e] at hs;cases hs
 | some y=>
  obtain⟨y2,y3⟩:=y;rw[e,aj] at hs;cases y3 with
  | true=>cases hs
  | false=>
   cases hs;rw[xB h0 hS hA] at e;rw[Option.some.inj e]
theorem Em {α:Type}{g:al}{A:List (List au)}{f:List (List au)×Bool->α->List (List au)×Bool}:∀ (l:List α) (q:List (List au)×Bool),aM g q.1->bO A q.1->(∀ q x,x∈l->aM g q.1->bO A q.1->Mv g A q (f q x))->(l.foldl f q).2=false->∀ x∈l,f q x=q
 | [],q,h,he,_,_=>λx hx=>by simp at hx
 | y::l,q,h,he,hf,hn=>by
  have U:=hf q y (by simp) h he;have K:=Mv.fold l _ U.inv U.ext λq x hx=>hf q x (by simp[hx]);rw[List.foldl_cons] at hn;have e2:=K.no hn;rw[e2] at hn;have e1:=U.no hn;intro x hx;rcases List.mem_cons.1 hx with e|e;rw[e];exact e1;have e3:(l.foldl f q).2=false:=by
   have:(l.foldl f (f q y)).2=false:=by rw[e2];exact hn
   rwa[e1] at this
  exact Em l q h he (λq x hx=>hf q x (by simp[hx])) e3 x e
theorem XJ {g:al}(h0:Sz.szd g<=1048576)(hS:Shape g){A:List (List au)}(hA:aM g A)(hc:(iF g A).2=false){r:ae}(Z:r∈g.rs_){c:List Nat}(hm:c∈dn (bA g r A)):ei g r A c∈dK g A r.Left:=by
 have U:=Em (f:=fG g A) g.rs_ (A,false) hA (.rfl' A) (λq r Z h he=>wE h0 hS Z h he) hc r Z;have K:(fG g A (A,false) r).2=false:=by rw[U]
 have h3:=Em (f:=λq c=>stA (bc g r.Left) (ei g r A c) q) (dn (bA g r A)) (A,false) hA (.rfl' A) (λq c _ h he=>wk hS Z h he (qR h0 hS r _)) K c hm;unfold stA at h3;by_cases hq:ei g r A c∈(A,false).1.getD (bc g r.Left) [];exact hq;rw[an hq] at h3;have:=congrArg Prod.snd h3;cases this
def Hp (A:List (List au))(hs:List Int):Prop:=∀ j,hs.getD j 0≠0->A.getD j []≠[]
theorem VZ {g:al}(h0:Sz.szd g<=1048576)(hS:Shape g){A:List (List au)}(hA:aM g A)(hc:(iF g A).2=false){hs:List Int}(hq:Hp A hs){n:ar}(h:kL g hs n=true):A.getD (bc g n) []≠[]:=by
 unfold kL at h;obtain⟨r,Z,U⟩:=List.any_eq_true.1 h;rw[Afz] at U;obtain⟨U,K⟩:=U;have U:=of_decide_eq_true U;have hp:0<cT (bA g r A):=Bj λc hcm=>by
  obtain⟨m,hm,rfl⟩:=List.mem_map.1 hcm;have h3:=List.all_eq_true.1 K m hm;unfold dx at h3;cases hj:fS g m with
  | none=>rw[hj] at h3;cases h3
  | some j=>
   rw[hj] at h3;have h3:=of_decide_eq_true h3;have h4:=hq j (by omega);have:bc g m=j:=by unfold bc;rw[hj];rfl
   unfold dK;rw[this];exact List.length_pos_iff.2 h4
 have:=XJ h0 hS hA hc Z (List.mem_map.2 ⟨0,List.mem_range.2 hp,rfl⟩);rw[U] at this;intro e;unfold dK at this;rw[e] at this;simp at this
theorem Hp.set {A:List (List au)}{hs:List Int}(h:Hp A hs){k:Nat}{v:Int}(hk:A.getD k []≠[]):Hp A (hs.set k v):=λj hj=>by
 by_cases e:k=j;rw[← e];exact hk;refine h j ?_;rw[Cwz,List.getElem?_set_ne e,← Cwz] at hj;exact hj
theorem IT {g:al}(h0:Sz.szd g<=1048576)(hS:Shape g){A:List (List au)}(hA:aM g A)(hc:(iF g A).2=false){hs:List Int}(h:de g hs)(hq:Hp A hs){v:Int}(hv:0<=v):∀ (xs:List ah) (i:Nat) (s:List Int),i+xs.length=g.ss_.length->(∀ j x,xs[j]?=some x->g.ss_[i+j]?=some x)->de g s->Hp A s ->
  ∃ t,eachL (vv g hs v) i xs s=some t/\de g t/\Hp A t
 | [],i,s,_,_,hs',hp=>⟨s,rfl,hs',hp⟩
 | x::xs,i,s,hi,hx,hs',hp=>by
  simp only[bE] at hi;have e1:=HO (x:=x) h (v:=v) (k:=i) (by omega) hs'.1;have hxi:g.ss_[i]?=some x:=hx 0 x rfl;have hat:bc g x.Name=i:=by unfold bc;rw[hS.at_ hxi];rfl
  have hn:de g (if (decide (hs.getD i 0=0)&&kL g hs x.Name)=true then s.set i v else s)/\Hp A (if (decide (hs.getD i 0=0)&&kL g hs x.Name)=true then s.set i v else s):=by
   by_cases Y:(decide (hs.getD i 0=0)&&kL g hs x.Name)=true;rw[ao Y];rw[Afz] at Y;have:=VZ h0 hS hA hc hq Y.2;rw[hat] at this;exact⟨hs'.set hv,hp.set this⟩;rw[an Y];exact⟨hs',hp⟩
  obtain⟨t,U,h3,h4⟩:=IT h0 hS hA hc h hq hv xs (i+1) _ (by omega) (λj y hy=>by rw[show i+1+j=i+(j+1) by omega];exact hx (j+1) y hy) hn.1 hn.2;exact⟨t,by rw[eachL,e1,aj,U],h3,h4⟩
theorem Yh {g:al}(h0:Sz.szd g<=1048576)(hS:Shape g){A:List (List au)}(hA:aM g A)(hc:(iF g A).2=false):∃ l,qe g=some l/\de g l/\Hp A l:=by
 have hn:=hS.syms.2;have key:∀ (m k:Nat) (hs:List Int),k+m=g.ss_.length+1->1<=k->de g hs->Hp A hs->∃ t,bK (ly g) (hs,(k:Int))=some t/\de g t/\Hp A t:=by
  intro m
  induction m with
  | zero=>
   intro k hs hk _ h hp;refine⟨hs,c9 ?_,h,hp⟩;unfold ly;dsimp only;rw[an (by omega)]
  | succ m ih=>
   intro k hs hk U h hp;have hl:=h.1;obtain⟨t,e1,e3,e4⟩:=IT h0 hS hA hc h hp (v:=(k:Int)) (by omega) g.ss_ 0 hs (by omega) (λj x hx=>by rw[Adz];exact hx) h hp;obtain⟨q,f1,f3,f4⟩:=ih (k+1) t (by omega) (by omega) e3 e4;refine⟨q,?_,f3,f4⟩;have e:ly g (hs,(k:Int))=some (.inl (t,((k+1:Nat):Int))):=by
    unfold ly;dsimp only;rw[ao (by omega),aF (by simp only[List.length_nil];constructor<;>omega),e1,aj,aF (by constructor<;>omega)];rfl
   rw[eS e];exact f1
 have hz:∀ j,(Bqz g.ss_.length (0:Int)).getD j 0=0:=λj=>by rw[Cwz,Evz];split<;>simp
 obtain⟨t,f1,f3,f4⟩:=key g.ss_.length 1 (Bqz g.ss_.length 0) (by omega) (by omega) ⟨by simp,λj=>by rw[hz];omega⟩ (λj hj=>absurd (hz j) hj);refine⟨t,?_,f3,f4⟩;unfold qe;rw[aF (by refine⟨?_,?_,?_⟩<;>omega),show bK (ly g) (Bqz g.ss_.length 0,1)=some t from f1];rfl
theorem UL {g:al}(h0:Sz.szd g<=1048576)(hg:mu g=true){A:List (List au)}(hA:aM g A)(hc:(iF g A).2=false):∀ L∈A,L≠[]:=by
 have hS:=tZ hg;obtain⟨l,e0,e2,e3⟩:=Yh h0 hS hA hc;obtain⟨l',e1,e0',_⟩:=B6 (g:=g) (by have:=hS.syms.2;omega);rw[e0] at e0';obtain rfl:l=l':=Option.some.inj e0';have hne:∀ x∈l,x≠0:=by
  unfold mu at hg;rw[decide_eq_true_eq] at hg;unfold qM at hg;by_cases hz:(km g).1=0;rw[ao hz] at hg;cases ht:g.rs_.findIdx? λr=>!fW g r with
  | some k=>rw[ht] at hg;cases hg
  | none=>
   rw[ht] at hg;unfold nR at hg;rw[e1,Option.getD_some] at hg;cases hl:l.findIdx? λx=>decide (x=0) with
   | some k=>rw[hl] at hg;cases hg
   | none=>
    rw[List.findIdx?_eq_none_iff] at hl;intro x hx e;have:=hl x hx;simp[e] at this
  rw[an hz] at hg;exact absurd hg hz
 intro L hL;obtain⟨k,hk⟩:=Ekz hL;have hlt:=(List.getElem?_eq_some_iff.1 hk).1;have hkl:k<l.length:=by rw[e2.1,← hA.1];exact hlt
 have U:=e3 k (by rw[Cwz,Cmz hkl];exact hne _ (List.getElem_mem hkl));rw[Cwz,hk] at U;exact U
theorem Nj {α:Type}{nm:α->ar}{xs:List α}(h:qN nm xs=true):xs.Pairwise λa b=>nm a≠nm b:=by
 unfold qN at h;rw[Gbz] at h;rw[Ftz];intro i j hi hj hij he;have U:=pM xs [] h j xs[j] (Cmz hj);unfold dC at U;rw[List.nil_append,List.any_eq_false] at U;exact U xs[i] (List.mem_take_iff_getElem.2 ⟨i,by omega,rfl⟩) (by simpa using he)
theorem xA {y:ah}(h:symB y=true){a:aG}(ha:a∈y.as_):eY y a.Name=(a,true):=by
 unfold symB at h;simp only[Afz] at h;have hd:=Nj h.2.2.2;unfold eY;cases hf:y.as_.find? (λb=>decide (b.Name=a.Name)) with
 | none=>rw[Fuz] at hf;exact absurd (by simp) (hf a ha)
 | some b=>
  have Y:=Ebz hf;have he:b.Name=a.Name:=by simpa using Fvz hf
  have:b=a:=by
   rcases Fwz Y with ⟨i,hi,rfl⟩
   rcases Fwz ha with ⟨j,hj,rfl⟩
   rw[Ftz] at hd;rcases Gaz i j with h|h|h;exact absurd he (hd i j hi hj h);subst h;rfl;exact absurd he.symm (hd j i hj hi h)
  rw[this]
theorem Shape.find {g:al}(h:Shape g){r:ae}(Z:r∈g.rs_){k:Nat}(hk:k<r.rt_.length+1):Go.Proofs.YtodhafdaelcnlaaGreat.symB (bM g (cn r (k:Int))).1=true:=by
 have Y:=h.brk 3 (by omega) (by omega) r Z;unfold iG at Y;rw[ao rfl] at Y;simp only[Fsz] at Y;unfold qS at Y;rw[Ejz] at Y;have U:=Y k (by rw[Esz];omega);unfold bM at U ⊢;cases hf:g.ss_.find? (λy=>decide (y.Name=cn r (k:Int))) with
 | none=>rw[hf] at U;cases U
 | some y=>exact h.symB (Ebz hf)
theorem Shape.may {g:al}(h:Shape g){r:ae}(Z:r∈g.rs_){q:ba}(hq:q∈r.es_){u:Oc}(hu:u∈Go.Proofs.YtodhafdaelcnlaaGreat.attrs q.Expr):fK g r u=true/\u∉cB g r:=by
 have Y:=h.brk 6 (by omega) (by omega) r Z;unfold iG at Y;rw[an (by omega),an (by omega),an (by omega)] at Y;unfold j9 at Y;simp only[Fsz] at Y;rw[Ejz] at Y;have U:=Y q.Expr (by unfold o8;rw[List.mem_append];exact .inl (List.mem_map.2 ⟨q,hq,rfl⟩));unfold dv at U;rw[Ejz] at U;have hm:=U u hu;refine⟨hm,λhi=>?_⟩;unfold cB at hi;obtain⟨k,hk,hi⟩:=List.mem_flatMap.1 hi;rw[Esz] at hk;unfold eR at hi;obtain⟨a,ha,rfl⟩:=List.mem_map.1 hi;rw[Fxz] at ha;have hs:=h.find Z (k:=k) (by omega);unfold fK gv at hm;rw[ao (by dsimp only;omega)] at hm;dsimp only at hm;rw[xA hs ha.1] at hm;have K:=ha.2;simp only[decide_eq_true_eq,Afz] at K hm;rw[K] at hm;by_cases h0:(k:Int)=0;rw[ao h0,ao h0] at hm;omega;rw[an h0,an h0] at hm;omega
theorem Qn (l:List Oc)(o:Oc):nC l o=some (ej l o):=by
 have h:ml l o=some (ej l o):=by
  unfold ml;refine FV λk x=>⟨λe=>?_,λe=>?_⟩
  unfold nE;rw[ao e.symm];unfold nE;rw[an (λh=>e h.symm)]
 unfold nC;rw[h];rfl
theorem IS {l:List Oc}{u:Oc}{a:Nat}(h:(a:Int)=ej l u):l[a]?=some u:=by
 unfold ej at h;by_cases hm:u∈l;rw[ao hm] at h;obtain rfl:a=l.idxOf u:=by omega
 have hl:=Fyz hm;rw[Cmz hl,Fzz];rw[an hm] at h;omega
theorem Qm {l:List Oc}{u:Oc}{a:Nat}(h:(a:Int)=ej l u):a<l.length:=(List.getElem?_eq_some_iff.1 (IS h)).1
theorem Ql {l:List Oc}(hn:l.Nodup){u:Oc}{a:Nat}(h:l[a]?=some u):(a:Int)=ej l u:=by
 have hm:=Bvz h;unfold ej;rw[ao hm];have hl:=Fyz hm;have he:l[l.idxOf u]=u:=Fzz hl;obtain⟨ha,e⟩:=List.getElem?_eq_some_iff.1 h;rw[List.Nodup,Ftz] at hn;rcases Gaz a (l.idxOf u) with q|q|q;exact absurd (e.trans he.symm) (hn _ _ ha hl q);omega;exact absurd (he.trans e.symm) (hn _ _ hl ha q)
theorem IR (l:List Oc)(k:Nat)(hk:k<l.length):∀ (us:List Oc) (i:Nat) (o:au),aI o->o.N=(l.length:Int) ->
  ∃ o',eachL (qy l k) i us (o.Rows,o.N)=some (o'.Rows,o'.N)/\aI o'/\o'.N=o.N/\∀ a c:Nat,Rl o'.Rows a c↔Rl o.Rows a c∨(c=k/\∃ u∈us,(a:Int)=ej l u)
 | [],i,o,hv,hN=>⟨o,rfl,hv,rfl,λa c=>by simp⟩
 | u::us,i,o,hv,hN=>by
  have hlen:o.Rows.length<=1048576:=by have:=hv.2.1;have:=hv.2.2.1;omega
  have e:qy l k i u (o.Rows,o.N)=some ((ca o (ej l u) (k:Int)).Rows,(ca o (ej l u) (k:Int)).N):=by
   unfold qy;dsimp only;rw[Qn,aj,Bp,qU hlen,aj]
  obtain⟨o',U,K,h3,h4⟩:=IR l k hk us (i+1) (ca o (ej l u) (k:Int)) (nj hv _ _) ((lW _ _ _).2.trans hN);refine⟨o',by rw[eachL,e,aj];exact U,K,h3.trans (lW _ _ _).2,λa c=>?_⟩;rw[h4,pv hv];have hin:(a:Int)=ej l u->eE o (ej l u):=λh=>⟨by omega,by have:=Qm h;omega⟩
  constructor;rintro ((h|⟨_,_,U,K⟩)|⟨U,u',hu,K⟩);exact .inl h;exact .inr ⟨by omega,u,by simp,U⟩;exact .inr ⟨U,u',by simp[hu],K⟩;rintro (h|⟨U,u',hu,K⟩);exact .inl (.inl h);rcases List.mem_cons.1 hu with rfl|hu;exact .inl (.inr ⟨hin K,⟨by omega,by omega⟩,K,by omega⟩);exact .inr ⟨U,u',hu,K⟩
theorem JG {r:ae}(Z:Sz.szd r<=1048576)(l:List Oc):∀ (m k:Nat) (o:au),k+m=l.length->aI o->o.N=(l.length:Int) ->
  ∃ o',eachL (qx r l) k (l.drop k) (o.Rows,o.N)=some (o'.Rows,o'.N)/\aI o'/\o'.N=o.N/\∀ a c:Nat,Rl o'.Rows a c↔Rl o.Rows a c∨(k<=c/\∃ x,l[c]?=some x/\∃ u∈attrs (bI r x).1,(a:Int)=ej l u)
 | 0,k,o,hk,hv,hN=>by
  refine⟨o,by rw[List.drop_eq_nil_of_le (by omega)];rfl,hv,rfl,λa c=>⟨.inl,?_⟩⟩;rintro (h|⟨U,x,K,_⟩);exact h;have:=(List.getElem?_eq_some_iff.1 K).1;omega
 | m+1,k,o,hk,hv,hN=>by
  have hk' : k<l.length:=by omega
  have hsz:=JK Z l[k];have hf:=JJ Z l[k];obtain⟨o1,U,K,h3,h4⟩:=IR l k hk' (attrs (bI r l[k]).1) 0 o hv hN;obtain⟨o',k1,k2,k3,k4⟩:=JG Z l m (k+1) o1 (by omega) K (h3.trans hN);have e1:qx r l k l[k] (o.Rows,o.N)=some (o1.Rows,o1.N):=by
   unfold qx;dsimp only;generalize bI r l[k]=z at hsz hf U;obtain⟨E,B⟩:=z;rw[hf.2,aj];dsimp only;rw[Fw hsz,aj,U];rfl
  refine⟨o',by rw[List.drop_eq_getElem_cons hk',eachL,e1,aj];exact k1,k2,k3.trans h3,λa c=>?_⟩;rw[k4,h4];constructor;rintro ((h|⟨rfl,u,hu,h⟩)|⟨hc,h⟩);exact .inl h;exact .inr ⟨Acz _,l[c],Cmz hk',u,hu,h⟩;exact .inr ⟨by omega,h⟩;rintro (h|⟨hc,x,hx,u,hu,h⟩);exact .inl (.inl h);by_cases hck:c=k;subst hck;rw[Cmz hk'] at hx;cases hx;exact .inl (.inr ⟨rfl,u,hu,h⟩);exact .inr ⟨by omega,x,hx,u,hu,h⟩
theorem Wj (n i j:Nat):¬ Rl (Bqz n 0) i j:=by
 unfold Rl;rw[Cwz,Evz];split<;>simp
theorem FH {g:al}{r:ae}(hg:Sz.szd g<=1048576)(Z:Sz.szd r<=1048576)(hl:(br g r).length<=16):aI (cg g r)/\(cg g r).N=((br g r).length:Int) /\
  ∀ a c:Nat,Rl (cg g r).Rows a c↔∃ x,(br g r)[c]?=some x/\∃ u∈attrs (bI r x).1,(a:Int)=ej (br g r) u:=by
 have h:=(I3 hg Z).2.1;unfold qu at h;rw[AS (gJ hg) (iv Z),aj,Ge,tg (by omega) (by omega),aj,an (by omega)] at h;obtain⟨o',U,K,h3,h4⟩:=JG Z (br g r) (br g r).length 0 ⟨((br g r).length:Int),Bqz (((br g r).length:Int)).toNat 0⟩ (by omega) (yh (by omega) (by omega)) rfl;rw[List.drop_zero] at U;rw[U,aj] at h;have e:cg g r=o':=(Option.some.inj h).symm;rw[e];refine⟨K,h3,λa c=>?_⟩;rw[h4];constructor;rintro (h|⟨_,h⟩);exact absurd h (Wj _ _ _);exact h;exact λh=>.inr ⟨Aez _,h⟩
theorem Shape.plainP {g:al}(h:Shape g)(s:ar):(bJ g s).Pairwise λa b=>a.Name≠b.Name:=by
 unfold bJ;refine List.Pairwise.filter _ ?_;unfold bM;cases hf:g.ss_.find? (λy=>decide (y.Name=s)) with
 | none=>exact List.Pairwise.nil
 | some y=>
  have:=h.symB (Ebz hf);unfold Go.Proofs.YtodhafdaelcnlaaGreat.symB at this;simp only[Afz] at this;exact Nj this.2.2.2
theorem Shape.occ_nodup {g:al}(h:Shape g)(r:ae):(br g r).Nodup:=by
 unfold br;rw[List.Nodup,List.pairwise_flatMap];refine⟨λk hk=>?_,?_⟩;unfold b9;rw[List.pairwise_map];refine (h.plainP _).imp λ{a b} hab he=>hab ?_;injection he;have hp:(List.range' 0 (r.rt_.length+1)).Pairwise (·≠·):=List.nodup_range';refine hp.imp λ{a b} hab x hx y hy he=>hab ?_;unfold b9 at hx hy;obtain⟨_,_,rfl⟩:=List.mem_map.1 hx;obtain⟨_,_,rfl⟩:=List.mem_map.1 hy;injection he with e;omega
theorem IQ {g:al}(h:Shape g){r:ae}(Z:r∈g.rs_){q:ba}(hq:q∈r.es_):q.At∈cB g r:=by
 have Y:=h.brk 5 (by omega) (by omega) r Z;unfold iG at Y;rw[an (by omega),an (by omega),ao rfl] at Y;unfold sN at Y;rw[Option.isSome_eq_false_iff,Gbz] at Y;obtain⟨k,hk⟩:=Ekz hq;have K:=pM r.es_ [] Y k q hk;rw[Bool.or_eq_false_iff] at K;simpa using K.1
theorem AN {r:ae}{o:Oc}(h:(bI r o).2=true):∃ q∈r.es_,q.At=o/\(bI r o).1=q.Expr:=by
 unfold bI at h ⊢;cases hf:r.es_.find? (λq=>decide (q.At=o)) with
 | none=>rw[hf] at h;cases h
 | some q=>exact⟨q,Ebz hf,by simpa using Fvz hf,rfl⟩
def zN:Node:=⟨0,0,0,0,⟨#[]⟩,[]⟩
def dP (g:al)(nm:ar):ae:=(g.rs_.find? λr=>decide (r.Name=nm)).getD OM
theorem fP {g:al}(hS:Shape g){r:ae}(Z:r∈g.rs_):dP g r.Name=r:=by
 unfold dP;cases hf:g.rs_.find? (λx=>decide (x.Name=r.Name)) with
 | none=>rw[Fuz] at hf;exact absurd (by simp) (hf r Z)
 | some x=>
  have hx:=Ebz hf;have he:x.Name=r.Name:=by simpa using Fvz hf
  obtain⟨k,hk⟩:=Ekz hx;obtain⟨j,hj⟩:=Ekz Z;have:=hS.rnames hk hj he;subst this;rw[hk] at hj;exact Option.some.inj hj
def fL (g:al)(x:Node):List aG:=(bM g (dP g x.ae).Left).1.as_
def bw (g:al)(N:List Node):List aZ:=N.flatMap λx=>(fL g x).map λa=>(⟨x.Id,a.Name⟩:aZ)
theorem UK {g:al}{n:ar}(h:(bM g n).2=true):(bM g n).1∈g.ss_:=by
 unfold bM at h ⊢;cases hf:g.ss_.find? (λy=>decide (y.Name=n)) with
 | none=>rw[hf] at h;cases h
 | some y=>exact Ebz hf
theorem nY {g:al}(hS:Shape g){x:Node}{r:ae}(Z:r∈g.rs_)(e:x.ae=r.Name):fL g x=(bM g r.Left).1.as_/\symB (bM g r.Left).1=true/\(bM g r.Left).1.as_.length<=4:=by
 have Y:=hS.symB (UK (hS.left Z));refine⟨by unfold fL;rw[e,fP hS Z],Y,?_⟩;unfold symB at Y;simp only[Afz,decide_eq_true_eq] at Y;exact Y.2.2.1
section
variable {g:al}{N:List Node}
structure eW (g:al) (N:List Node):Prop where
 n1:1<=N.length
 n16:N.length<=16
 ids:(N.map Node.Id).Nodup
 ok:∀ v,v<N.length->AC g N v
 kid:∀ x∈N,x.cn_.length<=3
theorem eW.of (hS:Shape g)(U:1<=N.length)(K:N.length<=16)(hn:(N.map Node.Id).Nodup){T:Tr}{p q:Int}{s:ar}(hT:gm g N T 0 p q s)(hz:T.sz=N.length):eW g N:=by
 have hok:∀ v,v<N.length->AC g N v:=λv hv=>IW T 0 p q s hT v (by omega) (by omega);refine⟨U,K,hn,hok,λx hx=>?_⟩;obtain⟨v,hv⟩:=Ekz hx;obtain⟨x',r,U,K,h3,h4,_⟩:=hok v (List.getElem?_eq_some_iff.1 hv).1;rw[hv] at U;cases U;rw[h4];exact gu hS K
theorem eW.nid (h:eW g N){i j:Nat}{x y:Node}(hi:N[i]?=some x)(hj:N[j]?=some y)(e:x.Id=y.Id):i=j:=by
 have hi':=(List.getElem?_eq_some_iff.1 hi).1;have hj':=(List.getElem?_eq_some_iff.1 hj).1;have a:(N.map Node.Id)[i]?=some x.Id:=by rw[Czz,hi];rfl
 have b:(N.map Node.Id)[j]?=some x.Id:=by rw[Czz,hj,e];rfl
 exact (List.getElem?_inj (by rw[bh];exact hi') h.ids).1 (a.trans b.symm)
theorem Qk (h:eW g N){v:Nat}{x:Node}(hv:N[v]?=some x):p8 ⟨N⟩ x.Id=some (v:Int):=by
 have hlt:=(List.getElem?_eq_some_iff.1 hv).1;have key:∀ (xs:List Node) (k:Nat),(∀ (j:Nat) y,xs[j]?=some y->N[k+j]?=some y)->k<=v->v<k+xs.length->findL (yH x.Id) k xs ()=some (.inr (v:Int)):=by
  intro xs
  induction xs with
  | nil=>intro k _ U K;simp at K;omega
  | cons y xs ih=>
   intro k hx U K;have hy:=hx 0 y rfl;rw[Nat.add_zero] at hy;rw[findL];by_cases e:y.Id=x.Id;have:k=v:=h.nid hy hv e;subst this;unfold yH;rw[ao e];rfl;unfold yH;rw[an e,aj];have hne:k≠v:=λe2=>by subst e2;rw[hv] at hy;cases hy;exact e rfl
   exact ih (k+1) (λj y hj=>by rw[show k+1+j=k+(j+1) by omega];exact hx (j+1) y (by simpa using hj)) (by omega) (by simp at K;omega)
 unfold p8;rw[key N 0 (λj y hj=>by rw[Adz];exact hj) (Aez _) (by omega)];rfl
theorem JF (h0:Sz.szd g<=1048576)(hS:Shape g)(h:eW g N){s:ar}(hs:mg g ⟨N⟩ 0=some s)(ht:nr g ⟨N⟩ s=some true):r6 g ⟨N⟩=some (bw g N)/\(bw g N).length<=64:=by
 have hlen:∀ k,k<=N.length->(bw g (N.take k)).length<=4*k:=by
  intro k
  induction k with
  | zero=>intro _;rw[List.take_zero];exact Aez _
  | succ k ih=>
   intro hk;have hi:=ih (by omega);obtain⟨x,r,hx,Z,e,_⟩:=h.ok k (by omega);rw[Dvz,hx];unfold bw at hi ⊢;rw[Ewz,Axz];show _+((([x]:List Node).flatMap _).length)<=_;rw[Bkz,List.flatMap_nil,Cgz,bh,(nY hS Z e).1];have:=(nY hS Z e).2.2;omega
 have hl:(bw g N).length<=64:=by
  have:=hlen N.length (Acz _);rw[List.take_length] at this;have:=h.n16;omega
 refine⟨?_,hl⟩;unfold r6;rw[hs,aj,ht,aj,ao rfl];obtain⟨s',e,hp⟩:=jT (P:=λi (s:List aZ)=>s=bw g (N.take i)) (xs:=N) (i:=0) (s:=([]:List aZ)) (f:=yI g ⟨N⟩) (by rw[List.take_zero];rfl) λk x s hk hs=>by
  rw[Adz] at hs ⊢;have hlt:=(List.getElem?_eq_some_iff.1 hk).1;obtain⟨x',r,hx,Z,e,_⟩:=h.ok k hlt;rw[hk] at hx;cases hx;obtain⟨W,a2,a3⟩:=nY hS Z e;have Y:=hlen k (by omega);have hn:=h.n16;refine⟨s++(bM g r.Left).1.as_.map λa=>(⟨x.Id,a.Name⟩:aZ),?_,?_⟩;unfold yI;rw[En h0 hS hk Z e,aj,l7 (gJ h0),aj];dsimp only;rw[oh (g:=λa:aG=>(⟨x.Id,a.Name⟩:aZ)) (B:=1000) (bM g r.Left).1.as_ 0 s (λk a s ha hs=>by
   unfold G2;rw[aF (by constructor<;>omega)]) (by rw[hs];omega)];rfl
  rw[hs,Dvz,hk];unfold bw;rw[Ewz];show _=_++(([x]:List Node).flatMap _);rw[Bkz,List.flatMap_nil,Cgz,W]
 rw[Adz,List.take_length] at hp;show (eachL (yI g ⟨N⟩) 0 N []).bind _=_;rw[e,hp];rfl
def mr (g:al)(N:List Node)(u:Nat)(pos:Int)(nm:ar):Option (Nat×Expr):=
 if (bI (dP g (N.getD u zN).ae) ⟨pos,nm⟩).2=true then some (u,(bI (dP g (N.getD u zN).ae) ⟨pos,nm⟩).1) else none
def mE (g:al)(N:List Node)(v:Nat)(a:aG):Option (Nat×Expr):=
 if a.Mode=3 then none else if a.Mode=1 then (if 0<=(N.getD v zN).Parent/\(N.getD v zN).Parent<=(N.length:Int)-1 then mr g N (N.getD v zN).Parent.toNat (N.getD v zN).Place a.Name else none) else mr g N v 0 a.Name
theorem gG {v:Nat}{x:Node}(h:N[v]?=some x):N.getD v zN=x:=by rw[Cwz,h];rfl
theorem IP (h0:Sz.szd g<=1048576)(hS:Shape g)(h:eW g N){u:Nat}(hu:u<N.length)(pos:Int)(nm:ar) :
  (grd (0<=(u:Int)) <| (N[((u:Nat):Int).toNat]?).bind λx2=>(nu g x2.ae).bind λ(y5,y6)=>(kC y5 (⟨pos,nm⟩:Oc)).bind λ(y7,y8)=>if y8=true then some ((⟨(u:Int),y7⟩:jv),true) else some ((⟨0,(⟨0,0,0,0,(⟨#[]⟩:ar),(⟨#[]⟩:ar),[]⟩:Expr)⟩:jv),false)) =
   some (match mr g N u pos nm with|some (o,e)=>((⟨(o:Int),e⟩:jv),true)|none=>((⟨0,(⟨0,0,0,0,(⟨#[]⟩:ar),(⟨#[]⟩:ar),[]⟩:Expr)⟩:jv),false)):=by
 obtain⟨x,r,hx,Z,e,_⟩:=h.ok u hu;rw[aF (by omega),b7,hx,aj,e,yf h0 hS Z,aj];dsimp only;rw[Bm (Bgz (ib Z) h0),aj];unfold mr;rw[gG hx,e,fP hS Z];cases hq:(bI r ⟨pos,nm⟩).2 with
 | true=>rw[ao rfl,ao rfl]
 | false=>rw[an Fqz,an Fqz]
theorem Qj (h0:Sz.szd g<=1048576)(hS:Shape g)(h:eW g N){v:Nat}{x:Node}(hv:N[v]?=some x){a:aG}(ha:a∈fL g x) :
  vl g ⟨N⟩ ⟨x.Id,a.Name⟩=some (match mE g N v a with|some (o,e)=>((⟨(o:Int),e⟩:jv),true)|none=>((⟨0,(⟨0,0,0,0,(⟨#[]⟩:ar),(⟨#[]⟩:ar),[]⟩:Expr)⟩:jv),false)):=by
 have hlt:=(List.getElem?_eq_some_iff.1 hv).1;obtain⟨x',r,hx,Z,e,_⟩:=h.ok v hlt;rw[hv] at hx;cases hx;obtain⟨W,a2,a3⟩:=nY hS Z e;have hix:=Qk h hv;have hA:uZ g ⟨N⟩ ⟨x.Id,a.Name⟩=some (a,true):=by
  unfold uZ;dsimp only;rw[hix,aj,an (by omega),aj,En h0 hS hv Z e,aj,l7 (gJ h0),aj];rw[xp,aj,xA a2 (by rw[← W];exact ha)]
 have hn16:=h.n16;unfold vl;dsimp only;rw[hA,aj];dsimp only;rw[hix,aj,ao rfl];unfold mE;rw[gG hv];by_cases m3:a.Mode=3;rw[ao m3,ao m3];rw[an m3,an m3];by_cases m1:a.Mode=1;rw[ao m1,ao m1,aF (by omega),b7,hv,aj,aj];dsimp only;rw[gw,aj];by_cases hp:0<=x.Parent/\x.Parent<=(N.length:Int)-1;obtain⟨u,hu⟩:∃ u:Nat,x.Parent=(u:Int):=⟨x.Parent.toNat,by omega⟩
 rw[ao (decide_eq_true hp),ao hp,hu,b7];exact IP h0 hS h (by omega) x.Place a.Name;rw[an (by rw[decide_eq_false hp];decide),an hp];rw[an m1,an m1,aj];dsimp only;rw[gw,aj,ao (decide_eq_true (by omega))];exact IP h0 hS h hlt 0 a.Name
def dD (N:List Node)(u:Nat)(o:Oc):Option aZ:=
 if 0<=o.Pos/\o.Pos<=((N.getD u zN).cn_.length:Int) then
  (if 0<o.Pos then (if 0<=(N.getD u zN).cn_.getD (o.Pos-1).toNat 0/\(N.getD u zN).cn_.getD (o.Pos-1).toNat 0<=(N.length:Int)-1 then some ⟨(N.getD ((N.getD u zN).cn_.getD (o.Pos-1).toNat 0).toNat zN).Id,o.Name⟩ else none)
   else some ⟨(N.getD u zN).Id,o.Name⟩) else none
theorem Qi (h:eW g N){u:Nat}(hu:u<N.length)(o:Oc):uN g ⟨N⟩ (u:Int) o=some (match dD N u o with|some y=>(y,true)|none=>((⟨0,(⟨#[]⟩:ar)⟩:aZ),false)):=by
 have hx:N[u]?=some N[u]:=Cmz hu;have hk:=h.kid N[u] (List.getElem_mem hu);have hn16:=h.n16;generalize hxe:N[u]=x at hx hk;unfold uN dD;rw[gG hx];dsimp only;rw[gw,aj,ao (decide_eq_true (by omega)),aF (by omega),b7,hx,aj,gw,aj];by_cases hp:0<=o.Pos/\o.Pos<=(x.cn_.length:Int);rw[ao (decide_eq_true hp),ao hp];by_cases h0:0<o.Pos;have hc:x.cn_[(o.Pos-1).toNat]?=some (x.cn_.getD (o.Pos-1).toNat 0):=by rw[Cwz,Cmz (by omega)];rfl
 rw[ao h0,ao h0,aF (by constructor<;>omega),aF (by omega),hc,aj,gw,aj];generalize x.cn_.getD (o.Pos-1).toNat 0=c;by_cases hcr:0<=c/\c<=(N.length:Int)-1;have hy:N[c.toNat]?=some (N.getD c.toNat zN):=by rw[Cwz,Cmz (by omega)];rfl
 rw[ao (decide_eq_true hcr),ao hcr,aF hcr.1,hy,aj];rw[an (by rw[decide_eq_false hcr];decide),an hcr];rw[an h0,an h0,aj,ao (decide_eq_true (by omega))];rw[an (by rw[decide_eq_false hp];decide),an hp]
def gb (g:al)(N:List Node)(v:Nat)(a:aG):List aZ:=match mE g N v a with
 | some (u,e)=>(attrs e).filterMap (dD N u)
 | none=>[]
theorem E7 {f:Nat->Oc->List aZ->Option (List aZ)}{p:Oc->Option aZ}(hf:∀ k o s,s.length<1048577->f k o s=some (match p o with|some y=>s++[y]|none=>s)):∀ (xs:List Oc) (k:Nat) (s:List aZ),s.length+xs.length<=1048577->eachL f k xs s=some (s++xs.filterMap p)
 | [],k,s,_=>by rw[List.filterMap_nil,Cgz];rfl
 | o::xs,k,s,h=>by
  simp only[bE] at h;rw[eachL,hf k o s (by omega),aj];cases hp:p o with
  | some y=>rw[List.filterMap_cons_some hp];dsimp only;rw[E7 hf xs (k+1) (s++[y]) (by simp;omega),List.append_assoc];rfl
  | none=>rw[List.filterMap_cons_none hp];dsimp only;exact E7 hf xs (k+1) s (by omega)
theorem HU (h0:Sz.szd g<=1048576)(hS:Shape g)(h:eW g N){u w:Nat}{e:Expr}(hu:u<N.length){pos:Int}{nm:ar}(hq:mr g N u pos nm=some (w,e)):w=u/\Sz.szd e<=1048576/\∃ r∈g.rs_,(N.getD u zN).ae=r.Name/\∃ q∈r.es_,q.At=⟨pos,nm⟩/\q.Expr=e:=by
 obtain⟨x,r,hx,Z,e1,_⟩:=h.ok u hu;unfold mr at hq;rw[gG hx,e1,fP hS Z] at hq;by_cases hc:(bI r ⟨pos,nm⟩).2=true;rw[ao hc] at hq;obtain⟨q,q1,q2,q3⟩:=AN hc;rw[q3] at hq;injection hq with hq;injection hq with hw he;refine⟨hw.symm,?_,r,Z,by rw[gG hx];exact e1,q,q1,q2,he⟩;have W:=om q1;have a2:=yw q;have a3:=pA r;have a4:=ib Z;have a5:=fQ q.Expr;rw[← he];omega;rw[an hc] at hq;cases hq
theorem Pv (h0:Sz.szd g<=1048576)(hS:Shape g)(h:eW g N){v w:Nat}{a:aG}{e:Expr}(hv:v<N.length)(hq:mE g N v a=some (w,e)):w<N.length/\Sz.szd e<=1048576:=by
 unfold mE at hq;by_cases m3:a.Mode=3;rw[ao m3] at hq;cases hq;rw[an m3] at hq;by_cases m1:a.Mode=1;rw[ao m1] at hq;by_cases hp:0<=(N.getD v zN).Parent/\(N.getD v zN).Parent<=(N.length:Int)-1;rw[ao hp] at hq;obtain⟨k1,k2,_⟩:=HU h0 hS h (by omega) hq;exact⟨by omega,k2⟩;rw[an hp] at hq;cases hq;rw[an m1] at hq;obtain⟨k1,k2,_⟩:=HU h0 hS h hv hq;exact⟨by omega,k2⟩
theorem Qh (h0:Sz.szd g<=1048576)(hS:Shape g)(h:eW g N){v:Nat}{x:Node}(hv:N[v]?=some x){a:aG}(ha:a∈fL g x):vk g ⟨N⟩ ⟨x.Id,a.Name⟩=some (gb g N v a)/\(gb g N v a).length<=1048577:=by
 have hlt:=(List.getElem?_eq_some_iff.1 hv).1;unfold vk gb;rw[Qj h0 hS h hv ha,aj];cases hd:mE g N v a with
 | none=>
  dsimp only;rw[an Fqz];exact⟨rfl,Aez _⟩
 | some p=>
  obtain⟨u,e⟩:=p;obtain⟨U,K⟩:=Pv h0 hS h hlt hd;have hl:=Bgz MD (EE K);dsimp only;rw[ao rfl,Ft K,aj,E7 (p:=dD N u) (λk o s hs=>by
   unfold Hh;dsimp only;rw[Qi h U,aj];cases dD N u o with
   | some y=>
    dsimp only;rw[ao rfl,aF (by constructor<;>omega)];rfl
   | none=>
    dsimp only;rw[an Fqz];rfl) (attrs e) 0 [] (by simp;omega)]
  exact⟨rfl,Bgz (List.length_filterMap_le _ _) hl⟩
end
theorem L9 {α:Type}{f:Nat->List α}{p:α->Bool}{k:Nat}(U:∀ x∈f k,p x=true)(K:∀ j,j≠k->∀ x∈f j,p x=false):∀ (m s:Nat),s<=k->k<s+m->((List.range' s m).flatMap f).filter p=f k
 | 0,s,a,b=>by omega
 | m+1,s,a,b=>by
  rw[List.range'_succ,Bkz,List.filter_append];by_cases e:s=k;subst e;rw[List.filter_eq_self.2 U,List.filter_eq_nil_iff.2,Cgz];intro x hx;obtain⟨j,hj,hx⟩:=List.mem_flatMap.1 hx;rw[Esz] at hj;rw[K j (by omega) x hx];decide;rw[L9 U K m (s+1) (by omega) (by omega),List.filter_eq_nil_iff.2,List.nil_append];intro x hx;rw[K s e x hx];decide
theorem XI (g:al){r:ae}{k:Nat}(hk:k<=r.rt_.length):(br g r).filter (λo=>decide (o.Pos=(k:Int)))=b9 g r k:=by
 unfold br;refine L9 (λx hx=>?_) (λj hj x hx=>?_) _ 0 (Aez _) (by omega);unfold b9 at hx;obtain⟨a,_,rfl⟩:=List.mem_map.1 hx;exact decide_eq_true rfl;unfold b9 at hx;obtain⟨a,_,rfl⟩:=List.mem_map.1 hx;exact decide_eq_false (by dsimp only;omega)
theorem AY {g:al}{r:ae}{k p:Nat}(hk:k<=r.rt_.length){a:Int}(h:(dc g r (k:Int))[p]?=some a):∃ (i:Nat) (at' : aG),a=(i:Int)/\(bJ g (cn r (k:Int)))[p]?=some at'/\(br g r)[i]?=some ⟨(k:Int),at'.Name⟩:=by
 unfold dc at h;rw[Czz] at h;cases hz:(((br g r).zipIdx 0).filter λq=>decide (q.1.Pos=(k:Int)))[p]? with
 | none=>rw[hz] at h;cases h
 | some q=>
  rw[hz] at h;obtain⟨o,i⟩:=q;have h:(i:Int)=a:=Option.some.inj h;have hm:=Bvz hz;rw[Fxz] at hm;have hi:=List.mem_zipIdx_iff_getElem?.1 hm.1;have hmap:(((br g r).zipIdx 0).filter λq=>decide (q.1.Pos=(k:Int))).map (·.1)=b9 g r k:=by
   rw[← XI g hk];have:∀ (l:List Oc) (n:Nat),((l.zipIdx n).filter λq=>decide (q.1.Pos=(k:Int))).map (·.1)=l.filter λo=>decide (o.Pos=(k:Int)):=by
    intro l
    induction l with
    | nil=>intro n;rfl
    | cons x l ih=>
     intro n;rw[List.zipIdx_cons,List.filter_cons,List.filter_cons];by_cases hx:decide (x.Pos=(k:Int))=true;rw[ao hx,ao hx,List.map_cons,ih];rw[an hx,an hx,ih]
   exact this _ 0
  have hp:(b9 g r k)[p]?=some o:=by rw[← hmap,Czz,hz];rfl
  unfold b9 at hp;rw[Czz] at hp;cases ha:(bJ g (cn r (k:Int)))[p]? with
  | none=>rw[ha] at hp;cases hp
  | some at'=>
   rw[ha] at hp;have hp:(⟨(k:Int),at'.Name⟩:Oc)=o:=Option.some.inj hp;exact⟨i,at',h.symm,rfl,by rw[hp];simpa using hi⟩
theorem F3 {own:au}{a:Nat}{x:Int}:∀ (ys:List Int) (i:Nat) (o:au),aI o->∀ s t:Nat,Rl (fO own a x i ys o).Rows s t->Rl o.Rows s t∨∃ q:Nat,∃ y,ys[q]?=some y/\bG own (a:Int) ((i+q:Nat):Int)/\(s:Int)=x/\(t:Int)=y
 | [],i,o,hv,s,t,h=>.inl h
 | y::ys,i,o,hv,s,t,h=>by
  rw[fO] at h;by_cases hp:bG own (a:Int) (i:Int);rw[ao hp] at h;rcases F3 ys (i+1) _ (nj hv x y) s t h with h|⟨q,z,U,K,h3⟩
  rcases (pv hv x y s t).1 h with h|⟨_,_,U,K⟩
  exact .inl h;exact .inr ⟨0,y,rfl,hp,U,K⟩;exact .inr ⟨q+1,z,U,by rwa[show i+(q+1)=i+1+q by omega],h3⟩;rw[an hp] at h;rcases F3 ys (i+1) o hv s t h with h|⟨q,z,U,K,h3⟩
  exact .inl h;exact .inr ⟨q+1,z,U,by rwa[show i+(q+1)=i+1+q by omega],h3⟩
theorem yv {own:au}{a:Nat}{x:Int}:∀ (ys:List Int) (i:Nat) (o:au),aI o->aI (fO own a x i ys o)
 | [],i,o,hv=>hv
 | y::ys,i,o,hv=>by
  rw[fO];refine yv ys (i+1) _ ?_;split;exact nj hv x y;exact hv
theorem NM {own:au}{at' : List Int}:∀ (xs:List Int) (a:Nat) (o:au),aI o->∀ s t:Nat,Rl (ia own at' a xs o).Rows s t->Rl o.Rows s t∨∃ p q:Nat,∃ x y,xs[p]?=some x/\at'[q]?=some y/\bG own ((a+p:Nat):Int) ((q:Nat):Int)/\(s:Int)=x/\(t:Int)=y
 | [],a,o,hv,s,t,h=>.inl h
 | x::xs,a,o,hv,s,t,h=>by
  rw[ia] at h;rcases NM xs (a+1) _ (yv at' 0 o hv) s t h with h|⟨p,q,x',y,U,K,h3,h4⟩
  rcases F3 at' 0 o hv s t h with h|⟨q,y,U,K,h3,h4⟩
  exact .inl h;exact .inr ⟨0,q,x,y,rfl,U,by rwa[Adz] at K,h3,h4⟩;exact .inr ⟨p+1,q,x',y,U,K,by rwa[show a+(p+1)=a+1+p by omega],h4⟩
theorem sd {own:au}{at' : List Int}:∀ (xs:List Int) (a:Nat) (o:au),aI o->aI (ia own at' a xs o)
 | [],a,o,hv=>hv
 | x::xs,a,o,hv=>by rw[ia];exact sd xs (a+1) _ (yv at' 0 o hv)
theorem L8 {g:al}{r:ae}:∀ (l:List au) (k:Nat) (o:au),aI o->∀ s t:Nat,Rl (dq g r k l o).Rows s t->Rl o.Rows s t∨∃ (j p q:Nat) (own:au),l[j]?=some own/\bG own ((p:Nat):Int) ((q:Nat):Int)/\(dc g r ((k+j+1:Nat):Int))[p]?=some ((s:Nat):Int)/\(dc g r ((k+j+1:Nat):Int))[q]?=some ((t:Nat):Int)
 | [],k,o,hv,s,t,h=>.inl h
 | own::l,k,o,hv,s,t,h=>by
  rw[dq] at h;unfold jI at h;rcases L8 l (k+1) _ (sd _ 0 o hv) s t h with h|⟨j,p,q,own',U,K,h3,h4⟩
  rcases NM _ 0 o hv s t h with h|⟨p,q,x,y,U,K,h3,h4,h5⟩
  exact .inl h;exact .inr ⟨0,p,q,own,rfl,by rwa[Adz] at h3,by rw[h4];exact U,by rw[h5];exact K⟩;refine .inr ⟨j+1,p,q,own',U,K,?_,?_⟩;rw[show k+(j+1)+1=k+1+j+1 by omega];exact h3;rw[show k+(j+1)+1=k+1+j+1 by omega];exact h4
theorem xS {Q:Nat->Nat->Prop}(ht:∀ i k j,Q i k->Q k j->Q i j){n:Nat}{s:List Int}(h:jK n s)(Y:∀ i j,Rl s i j->Q i j):∀ m i j,Rl (iX s m) i j->Q i j
 | 0,i,j,hx=>Y i j hx
 | m+1,i,j,hx=>by
  have hi:=qT (Le (jU h m)) hx;rw[iX,wQ (jU h m) hi] at hx;rcases hx with hx|⟨U,K⟩
  exact xS ht h Y m i j hx;exact ht _ _ _ (xS ht h Y m i m U) (xS ht h Y m m j K)
theorem Wi {Q:Nat->Nat->Prop}(ht:∀ i k j,Q i k->Q k j->Q i j){x:au}(hv:aI x)(Y:∀ i j,Rl x.Rows i j->Q i j):∀ i j,Rl (fe x).Rows i j->Q i j:=by
 unfold fe;rw[ao hv];exact xS ht (l6 hv).1 Y _
section
variable {g:al}{N:List Node}
theorem sQ {y:aZ}:y∈bw g N↔∃ (v:Nat) (x:Node) (a:aG),N[v]?=some x/\a∈fL g x/\y=(⟨x.Id,a.Name⟩:aZ):=by
 unfold bw;rw[List.mem_flatMap];constructor;rintro⟨x,hx,hy⟩;obtain⟨v,hv⟩:=Ekz hx;obtain⟨a,ha,rfl⟩:=List.mem_map.1 hy;exact⟨v,x,a,hv,ha,rfl⟩;rintro⟨v,x,a,hv,ha,rfl⟩;exact⟨x,Bvz hv,List.mem_map.2 ⟨a,ha,rfl⟩⟩
theorem TV (hS:Shape g)(h:eW g N){v v' : Nat}{x x' : Node}{a a' : aG}(hv:N[v]?=some x)(hv' : N[v']?=some x')(ha:a∈fL g x)(ha' : a'∈fL g x')(e:(⟨x.Id,a.Name⟩:aZ)=⟨x'.Id,a'.Name⟩):v=v'/\x=x'/\a=a':=by
 injection e with e1 e2;have:=h.nid hv hv' e1;subst this;rw[hv] at hv';cases hv';refine⟨rfl,rfl,?_⟩;obtain⟨x'',r,hx,Z,e,_⟩:=h.ok v (List.getElem?_eq_some_iff.1 hv).1;rw[hv] at hx;cases hx;obtain⟨W,a2,a3⟩:=nY hS Z e;rw[W] at ha ha';have f1:=xA a2 ha;have f2:=xA a2 ha';rw[e2,f2] at f1;exact (congrArg Prod.fst f1).symm
theorem Eb (l:List aZ)(y:aZ):qh l y=some (ej l y):=by
 unfold qh;exact FV λk x=>⟨λe=>by unfold CP;rw[ao e],λe=>by unfold CP;rw[an e]⟩
theorem TU (l:List aZ)(y:aZ):-1<=ej l y/\ej l y<(l.length:Int):=by
 unfold ej;by_cases h:y∈l;rw[ao h];have:=List.idxOf_lt_length_iff.2 h;omega;rw[an h];omega
structure po (g:al) (N:List Node) (tb:List (List Int)):Prop where
 ok:TB tb
 len:tb.length=(bw g N).length
 row:∀ (v:Nat) (x:Node) (a:aG),N[v]?=some x->a∈fL g x->∀ k:Nat,(bw g N)[k]?=some ⟨x.Id,a.Name⟩->tb[k]?=some ((gb g N v a).map (ej (bw g N)))
theorem UJ (h0:Sz.szd g<=1048576)(hS:Shape g)(h:eW g N){s:ar}(hs:mg g ⟨N⟩ 0=some s)(ht:nr g ⟨N⟩ s=some true):∃ tb,se g ⟨N⟩=some tb/\po g N tb:=by
 obtain⟨e1,hl⟩:=JF h0 hS h hs ht;unfold se;rw[e1,aj];generalize hL:bw g N=L at e1 hl;obtain⟨s',e,hp⟩:=jT (P:=λi (s:List (List Int))=>s.length=i/\(∀ row∈s,∀ x∈row,-1<=x/\x<(L.length:Int))/\∀ (v:Nat) (x:Node) (a:aG),N[v]?=some x->a∈fL g x->∀ k:Nat,k<i->L[k]?=some ⟨x.Id,a.Name⟩->s[k]?=some ((gb g N v a).map (ej L))) (xs:=L) (i:=0) (s:=([]:List (List Int))) (f:=Ct g ⟨N⟩ L) ⟨rfl,λrow Z=>(nomatch Z),λv x a _ _ k hk=>(by omega)⟩ λk y s hk hs=>by
  rw[Adz] at hs ⊢;obtain⟨s1,s2,s3⟩:=hs;have hlt:=(List.getElem?_eq_some_iff.1 hk).1;have hy:y∈bw g N:=by rw[hL];exact Bvz hk
  obtain⟨v,x,a,hv,ha,rfl⟩:=sQ.1 hy;obtain⟨i1,i2⟩:=Qh h0 hS h hv ha;refine⟨s++[(gb g N v a).map (ej L)],?_,by rw[Axz,s1];rfl,λrow Z z hz=>?_,λv' x' a' hv' ha' k' hk' hk2=>?_⟩;unfold Ct;rw[i1,aj,oh (g:=ej L) (B:=1048577) (gb g N v a) 0 [] (λk y s hy hs=>by
   unfold Hc;rw[Eb,aj,aF (by constructor<;>omega)]) (by simp;omega),aj,aF (by constructor<;>omega)];rfl
  rcases List.mem_append.1 Z with Z|Z;exact s2 row Z z hz;rw[List.mem_singleton] at Z;subst Z;obtain⟨w,_,rfl⟩:=List.mem_map.1 hz;exact TU L w;by_cases e:k'=k;subst e;rw[hk] at hk2;obtain⟨q1,q2,q3⟩:=TV hS h hv hv' ha ha' (Option.some.inj hk2);subst q1;subst q2;subst q3;rw[← s1,List.getElem?_append_right (Acz _),Nat.sub_self];rfl;rw[List.getElem?_append_left (by omega)];exact s3 v' x' a' hv' ha' k' (by omega) hk2
 rw[Adz] at hp;obtain⟨p1,p2,p3⟩:=hp;refine⟨s',by rw[e];rfl,⟨by omega,λrow Z z hz=>by rw[p1];exact p2 row Z z hz⟩,by rw[hL];exact p1,λv x a hv ha k hk=>?_⟩;rw[hL] at hk ⊢;exact p3 v x a hv ha k (List.getElem?_eq_some_iff.1 hk).1 hk
def xi (g:al)(N:List Node)(tb:List (List Int))(x y:aZ):Prop:=Dp tb ((bw g N).idxOf x) ((bw g N).idxOf y)
theorem Qg {tb:List (List Int)}(hT:po g N tb){v:Nat}{x:Node}{a:aG}(hv:N[v]?=some x)(ha:a∈fL g x){y:aZ}(hy:y∈gb g N v a)(hm:y∈bw g N):xi g N tb ⟨x.Id,a.Name⟩ y:=by
 have hx:(⟨x.Id,a.Name⟩:aZ)∈bw g N:=sQ.2 ⟨v,x,a,hv,ha,rfl⟩;have hlt:=List.idxOf_lt_length_iff.2 hx;have hg:(bw g N)[(bw g N).idxOf (⟨x.Id,a.Name⟩:aZ)]?=some ⟨x.Id,a.Name⟩:=by rw[Cmz hlt,Fzz]
 refine .one ⟨_,hT.row v x a hv ha _ hg,?_⟩;refine List.mem_map.2 ⟨y,hy,?_⟩;unfold ej;rw[ao hm]
theorem Ea (h:eW g N)(hS:Shape g){u:Nat}{x:Node}{r:ae}(hu:N[u]?=some x)(Z:r∈g.rs_)(e:x.ae=r.Name){o:Oc}{a:aG}(U:0<=o.Pos)(K:o.Pos<=(r.rt_.length:Int))(ha:a∈(bM g (cn r o.Pos)).1.as_)(hn:a.Name=o.Name) :
  ∃ (v:Nat) (y:Node),N[v]?=some y/\a∈fL g y/\dD N u o=some ⟨y.Id,a.Name⟩/\((o.Pos=0/\v=u)∨(0<o.Pos/\y.Parent=(u:Int)/\y.Place=o.Pos/\x.cn_[(o.Pos-1).toNat]?=some (v:Int))):=by
 have hlt:=(List.getElem?_eq_some_iff.1 hu).1;obtain⟨x',r0,hx,hr0,e0,hc,hk⟩:=h.ok u hlt;rw[hu] at hx;cases hx;have:r0=r:=by rw[← fP hS hr0,← fP hS Z,← e0,← e]
 subst this;have hrng:0<=o.Pos/\o.Pos<=((N.getD u zN).cn_.length:Int):=by rw[gG hu,hc];exact⟨U,K⟩
 by_cases hz:o.Pos=0;refine⟨u,x,hu,?_,?_,.inl ⟨hz,rfl⟩⟩;rw[(nY hS Z e).1];rw[hz] at ha;unfold cn at ha;rwa[ao rfl] at ha;unfold dD;rw[ao hrng,an (by omega),gG hu,hn];obtain⟨j,hj⟩:∃ j:Nat,o.Pos=((j+1:Nat):Int):=⟨(o.Pos-1).toNat,by omega⟩
 have hjl:j<r0.rt_.length:=by omega
 obtain⟨c,y,r',c1,c2,c3,c4,c5,c6,c7,c8⟩:=hk j r0.rt_[j] (Cmz hjl);have hcl:=(List.getElem?_eq_some_iff.1 c3).1;have et:(o.Pos-1).toNat=j:=by omega
 refine⟨c,y,c3,?_,?_,.inr ⟨by omega,c4,by rw[c5,hj],by rw[et];exact c1⟩⟩;rw[(nY hS c6 c7).1,c8];rw[hj,oA (Cmz hjl)] at ha;exact ha;unfold dD;have hg:(N.getD u zN).cn_.getD (o.Pos-1).toNat 0=(c:Int):=by rw[gG hu,et,Cwz,c1];rfl
 rw[ao hrng,ao (by omega),hg,ao (by omega),b7,gG c3,hn]
theorem Qf (h0:Sz.szd g<=1048576)(hS:Shape g)(h:eW g N){tb:List (List Int)}(hT:po g N tb){u:Nat}{x:Node}{r:ae}(hu:N[u]?=some x)(Z:r∈g.rs_)(e:x.ae=r.Name){o' o:Oc}(hq:(bI r o').2=true)(ho:o∈attrs (bI r o').1) :
  ∃ y' y,dD N u o'=some y'/\dD N u o=some y/\y'∈bw g N/\y∈bw g N/\xi g N tb y' y:=by
 have hlt:=(List.getElem?_eq_some_iff.1 hu).1;obtain⟨q,q1,q2,q3⟩:=AN hq;have hreq:=IQ hS Z q1;rw[q2] at hreq;unfold cB at hreq;obtain⟨k,hk,hreq⟩:=List.mem_flatMap.1 hreq;rw[Esz] at hk;unfold eR at hreq;obtain⟨a,ha,eo⟩:=List.mem_map.1 hreq;rw[Fxz] at ha;have hmode:a.Mode=if (k:Int)=0 then 2 else 1:=by simpa using ha.2
 have ep:o'.Pos=(k:Int):=by rw[← eo]
 have en:a.Name=o'.Name:=by rw[← eo]
 obtain⟨v,yn,hv,hav,hat,hcase⟩:=Ea h hS hu Z e (o:=o') (a:=a) (by omega) (by omega) (by rw[ep];exact ha.1) en
 -- the used one
 rw[q3] at ho;obtain⟨hm,_⟩:=hS.may Z q1 ho;unfold fK gv at hm;by_cases hp:0<=o.Pos/\o.Pos<=(r.rt_.length:Int);rw[ao hp] at hm;have hf:(eY (bM g (cn r o.Pos)).1 o.Name).2=true:=by
  rw[Afz] at hm;exact hm.1
 have Y:∃ b∈(bM g (cn r o.Pos)).1.as_,b.Name=o.Name:=by
  unfold eY at hf;cases hff:(bM g (cn r o.Pos)).1.as_.find? (λa=>decide (a.Name=o.Name)) with
  | none=>rw[hff] at hf;cases hf
  | some b=>exact⟨b,Ebz hff,by simpa using Fvz hff⟩
 obtain⟨b,b1,b2⟩:=Y;obtain⟨w,wn,hw,haw,hatw,_⟩:=Ea h hS hu Z e (o:=o) (a:=b) hp.1 hp.2 b1 b2;have hmem:(⟨wn.Id,b.Name⟩:aZ)∈bw g N:=sQ.2 ⟨w,wn,b,hw,haw,rfl⟩;refine⟨_,_,hat,hatw,sQ.2 ⟨v,yn,a,hv,hav,rfl⟩,hmem,Qg hT hv hav ?_ hmem⟩;have hlk:∀ pos:Int,pos=o'.Pos->mr g N u pos a.Name=some (u,q.Expr):=λpos epos=>by
  unfold mr;have eo' : (⟨pos,a.Name⟩:Oc)=o':=by rw[epos,en]
  rw[gG hu,e,fP hS Z,eo',ao hq,q3]
 have hd:mE g N v a=some (u,q.Expr):=by
  unfold mE;rcases hcase with ⟨c1,c2⟩|⟨c1,c2,c3,_⟩
  rw[ao (by omega)] at hmode;rw[an (by omega),an (by omega),c2];exact hlk 0 c1.symm;rw[an (by omega)] at hmode;rw[an (by omega),ao hmode,gG hv,c2,ao (by omega),b7,c3];exact hlk _ rfl
 unfold gb;rw[hd];exact List.mem_filterMap.2 ⟨o,ho,hatw⟩;rw[an hp] at hm;cases hm
end
end Go.Proofs.YtodhafdaelcnlaaGreat
