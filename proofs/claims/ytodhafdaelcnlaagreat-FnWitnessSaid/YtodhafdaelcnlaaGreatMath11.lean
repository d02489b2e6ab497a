/- What those partial functions come to: plain lemmas on data; each bears its conditions in its statement. -/
import Derived.Test.YtodhafdaelcnlaaGreatMath10
set_option linter.unusedVariables false
set_option linter.unusedSimpArgs false
set_option linter.ambiguousOpen false
set_option linter.unusedSectionVars false
set_option linter.unnecessarySimpa false
set_option maxRecDepth 100000
set_option maxHeartbeats 4000000
open List renaming getElem?_of_mem->Elz,mem_of_find?_eq_some->Ecz,find?_some->Fxz,getElem?_map->Czz,take_add_one->Dvz,flatMap_append->Fyz,length_append->Axz,flatMap_cons->Bkz,append_nil->Cgz,getD_eq_getElem?_getD->Cwz,getElem?_eq_getElem->Cmz,mem_range'_1->Etz,mem_of_getElem?->Bvz
open Nat renaming add_zero->Cxz,zero_add->Adz,zero_le->Aez,le_trans->Bgz
open Bool renaming false_ne_true->Fpz
namespace Go.Proofs.YtodhafdaelcnlaaGreat
open Go Go.E
theorem PU {g:al}(h:Shape g){r:ae}(Z:r∈g.rs_){q:aZ}(hq:q∈r.es_):q.At∈cy g r:=by
 have Y:=h.brk 5 (by omega) (by omega) r Z;unfold iq at Y;rw[an (by omega),an (by omega),ao rfl] at Y;unfold sD at Y;rw[Option.isSome_eq_false_iff,Option.isNone_iff_eq_none] at Y;obtain⟨k,hk⟩:=Elz hq;have K:=py r.es_ [] Y k q hk;rw[Bool.or_eq_false_iff] at K;simpa using K.1
theorem I5 {r:ae}{o:Oc}(h:(cq r o).2=true):∃ q∈r.es_,q.At=o/\(cq r o).1=q.Expr:=by
 unfold cq at h ⊢;cases hf:r.es_.find? (λq=>decide (q.At=o)) with
 | none=>rw[hf] at h;cases h
 | some q=>exact⟨q,Ecz hf,by simpa using Fxz hf,rfl⟩
def zN:Node:=⟨0,0,0,0,⟨#[]⟩,[]⟩
def kL (g:al)(nm:ar):ae:=(g.rs_.find? λr=>decide (r.Name=nm)).getD Ol
theorem lH {g:al}(hS:Shape g){r:ae}(Z:r∈g.rs_):kL g r.Name=r:=by
 unfold kL;cases hf:g.rs_.find? (λx=>decide (x.Name=r.Name)) with
 | none=>rw[List.find?_eq_none] at hf;exact absurd (by simp) (hf r Z)
 | some x=>
  have hx:=Ecz hf;have he:x.Name=r.Name:=by simpa using Fxz hf
  obtain⟨k,hk⟩:=Elz hx;obtain⟨j,hj⟩:=Elz Z;have:=hS.rnames hk hj he;subst this;rw[hk] at hj;exact Option.some.inj hj
def fx (g:al)(x:Node):List aI:=(bR g (kL g x.ae).Left).1.as_
def cO (g:al)(N:List Node):List bw:=N.flatMap λx=>(fx g x).map λa=>(⟨x.Id,a.Name⟩:bw)
theorem UN {g:al}{n:ar}(h:(bR g n).2=true):(bR g n).1∈g.ss_:=by
 unfold bR at h ⊢;cases hf:g.ss_.find? (λy=>decide (y.Name=n)) with
 | none=>rw[hf] at h;cases h
 | some y=>exact Ecz hf
theorem oZ {g:al}(hS:Shape g){x:Node}{r:ae}(Z:r∈g.rs_)(e:x.ae=r.Name):fx g x=(bR g r.Left).1.as_/\symB (bR g r.Left).1=true/\(bR g r.Left).1.as_.length<=4:=by
 have Y:=hS.symB (UN (hS.left Z));refine⟨by unfold fx;rw[e,lH hS Z],Y,?_⟩;unfold symB at Y;simp only[Bool.and_eq_true,decide_eq_true_eq] at Y;exact Y.2.2.1
section
variable {g:al}{N:List Node}
structure gz (g:al) (N:List Node):Prop where
 n1:1<=N.length
 n16:N.length<=16
 ids:(N.map Node.Id).Nodup
 ok:∀ v,v<N.length->Aw g N v
 kid:∀ x∈N,x.cn_.length<=3
theorem gz.of (hS:Shape g)(U:1<=N.length)(K:N.length<=16)(hn:(N.map Node.Id).Nodup){T:Tr}{p q:Int}{s:ar}(hT:iH g N T 0 p q s)(hz:T.sz=N.length):gz g N:=by
 have hok:∀ v,v<N.length->Aw g N v:=λv hv=>ID T 0 p q s hT v (by omega) (by omega);refine⟨U,K,hn,hok,λx hx=>?_⟩;obtain⟨v,hv⟩:=Elz hx;obtain⟨x',r,U,K,h3,h4,_⟩:=hok v (List.getElem?_eq_some_iff.1 hv).1;rw[hv] at U;cases U;rw[h4];exact eQ hS K
theorem gz.nid (h:gz g N){i j:Nat}{x y:Node}(hi:N[i]?=some x)(hj:N[j]?=some y)(e:x.Id=y.Id):i=j:=by
 have hi':=(List.getElem?_eq_some_iff.1 hi).1;have hj':=(List.getElem?_eq_some_iff.1 hj).1;have a:(N.map Node.Id)[i]?=some x.Id:=by rw[Czz,hi];rfl
 have b:(N.map Node.Id)[j]?=some x.Id:=by rw[Czz,hj,e];rfl
 exact (List.getElem?_inj (by rw[bc];exact hi') h.ids).1 (a.trans b.symm)
theorem PT (h:gz g N){v:Nat}{x:Node}(hv:N[v]?=some x):pS ⟨N⟩ x.Id=some (v:Int):=by
 have hlt:=(List.getElem?_eq_some_iff.1 hv).1;have key:∀ (xs:List Node) (k:Nat),(∀ (j:Nat) y,xs[j]?=some y->N[k+j]?=some y)->k<=v->v<k+xs.length->findL (yt x.Id) k xs ()=some (.inr (v:Int)):=by
  intro xs
  induction xs with
  | nil=>intro k _ U K;simp at K;omega
  | cons y xs ih=>
   intro k hx U K;have hy:=hx 0 y rfl;rw[Cxz] at hy;rw[findL];by_cases e:y.Id=x.Id;have:k=v:=h.nid hy hv e;subst this;unfold yt;rw[ao e];rfl;unfold yt;rw[an e,aj];have hne:k≠v:=λe2=>by subst e2;rw[hv] at hy;cases hy;exact e rfl
   exact ih (k+1) (λj y hj=>by rw[show k+1+j=k+(j+1) by omega];exact hx (j+1) y (by simpa using hj)) (by omega) (by simp at K;omega)
 unfold pS;rw[key N 0 (λj y hj=>by rw[Adz];exact hj) (Aez _) (by omega)];rfl
theorem Ts (h0:Sz.szd g<=1048576)(hS:Shape g)(h:gz g N){s:ar}(hs:jM g ⟨N⟩ 0=some s)(ht:kc g ⟨N⟩ s=some true):uA g ⟨N⟩=some (cO g N)/\(cO g N).length<=64:=by
 have hlen:∀ k,k<=N.length->(cO g (N.take k)).length<=4*k:=by
  intro k
  induction k with
  | zero=>intro _;rw[List.take_zero];exact Aez _
  | succ k ih=>
   intro hk;have hi:=ih (by omega);obtain⟨x,r,hx,Z,e,_⟩:=h.ok k (by omega);rw[Dvz,hx];unfold cO at hi ⊢;rw[Fyz,Axz];show _+((([x]:List Node).flatMap _).length)<=_;rw[Bkz,List.flatMap_nil,Cgz,bc,(oZ hS Z e).1];have:=(oZ hS Z e).2.2;omega
 have hl:(cO g N).length<=64:=by
  have:=hlen N.length (Nat.le_refl _);rw[List.take_length] at this;have:=h.n16;omega
 refine⟨?_,hl⟩;unfold uA;rw[hs,aj,ht,aj,ao rfl];obtain⟨s',e,hp⟩:=iw (P:=λi (s:List bw)=>s=cO g (N.take i)) (xs:=N) (i:=0) (s:=([]:List bw)) (f:=yu g ⟨N⟩) (by rw[List.take_zero];rfl) λk x s hk hs=>by
  rw[Adz] at hs ⊢;have hlt:=(List.getElem?_eq_some_iff.1 hk).1;obtain⟨x',r,hx,Z,e,_⟩:=h.ok k hlt;rw[hk] at hx;cases hx;obtain⟨W,a2,a3⟩:=oZ hS Z e;have Y:=hlen k (by omega);have hn:=h.n16;refine⟨s++(bR g r.Left).1.as_.map λa=>(⟨x.Id,a.Name⟩:bw),?_,?_⟩;unfold yu;rw[El h0 hS hk Z e,aj,lR (gZ h0),aj];dsimp only;rw[nH (g:=λa:aI=>(⟨x.Id,a.Name⟩:bw)) (B:=1000) (bR g r.Left).1.as_ 0 s (λk a s ha hs=>by
   unfold GR;rw[aE (by constructor<;>omega)]) (by rw[hs];omega)];rfl
  rw[hs,Dvz,hk];unfold cO;rw[Fyz];show _=_++(([x]:List Node).flatMap _);rw[Bkz,List.flatMap_nil,Cgz,W]
 rw[Adz,List.take_length] at hp;show (eachL (yu g ⟨N⟩) 0 N []).bind _=_;rw[e,hp];rfl
def oC (g:al)(N:List Node)(u:Nat)(pos:Int)(nm:ar):Option (Nat×Expr):=
 if (cq (kL g (N.getD u zN).ae) ⟨pos,nm⟩).2=true then some (u,(cq (kL g (N.getD u zN).ae) ⟨pos,nm⟩).1) else none
def oV (g:al)(N:List Node)(v:Nat)(a:aI):Option (Nat×Expr):=
 if a.Mode=3 then none else if a.Mode=1 then (if 0<=(N.getD v zN).Parent/\(N.getD v zN).Parent<=(N.length:Int)-1 then oC g N (N.getD v zN).Parent.toNat (N.getD v zN).Place a.Name else none) else oC g N v 0 a.Name
theorem kp {v:Nat}{x:Node}(h:N[v]?=some x):N.getD v zN=x:=by rw[Cwz,h];rfl
theorem Iz (h0:Sz.szd g<=1048576)(hS:Shape g)(h:gz g N){u:Nat}(hu:u<N.length)(pos:Int)(nm:ar) :
  (grd (0<=(u:Int)) <| (N[((u:Nat):Int).toNat]?).bind λx2=>(mT g x2.ae).bind λ(y5,y6)=>(ki y5 (⟨pos,nm⟩:Oc)).bind λ(y7,y8)=>if y8=true then some ((⟨(u:Int),y7⟩:jl),true) else some ((⟨0,(⟨0,0,0,0,(⟨#[]⟩:ar),(⟨#[]⟩:ar),[]⟩:Expr)⟩:jl),false)) =
   some (match oC g N u pos nm with|some (o,e)=>((⟨(o:Int),e⟩:jl),true)|none=>((⟨0,(⟨0,0,0,0,(⟨#[]⟩:ar),(⟨#[]⟩:ar),[]⟩:Expr)⟩:jl),false)):=by
 obtain⟨x,r,hx,Z,e,_⟩:=h.ok u hu;rw[aE (by omega),cd,hx,aj,e,xJ h0 hS Z,aj];dsimp only;rw[A4 (Bgz (gv Z) h0),aj];unfold oC;rw[kp hx,e,lH hS Z];cases hq:(cq r ⟨pos,nm⟩).2 with
 | true=>rw[ao rfl,ao rfl]
 | false=>rw[an Fpz,an Fpz]
theorem Pq (h0:Sz.szd g<=1048576)(hS:Shape g)(h:gz g N){v:Nat}{x:Node}(hv:N[v]?=some x){a:aI}(ha:a∈fx g x) :
  vt g ⟨N⟩ ⟨x.Id,a.Name⟩=some (match oV g N v a with|some (o,e)=>((⟨(o:Int),e⟩:jl),true)|none=>((⟨0,(⟨0,0,0,0,(⟨#[]⟩:ar),(⟨#[]⟩:ar),[]⟩:Expr)⟩:jl),false)):=by
 have hlt:=(List.getElem?_eq_some_iff.1 hv).1;obtain⟨x',r,hx,Z,e,_⟩:=h.ok v hlt;rw[hv] at hx;cases hx;obtain⟨W,a2,a3⟩:=oZ hS Z e;have hix:=PT h hv;have hA:u0 g ⟨N⟩ ⟨x.Id,a.Name⟩=some (a,true):=by
  unfold u0;dsimp only;rw[hix,aj,an (by omega),aj,El h0 hS hv Z e,aj,lR (gZ h0),aj];rw[xf,aj,xe a2 (by rw[← W];exact ha)]
 have hn16:=h.n16;unfold vt;dsimp only;rw[hA,aj];dsimp only;rw[hix,aj,ao rfl];unfold oV;rw[kp hv];by_cases m3:a.Mode=3;rw[ao m3,ao m3];rw[an m3,an m3];by_cases m1:a.Mode=1;rw[ao m1,ao m1,aE (by omega),cd,hv,aj,aj];dsimp only;rw[gC,aj];by_cases hp:0<=x.Parent/\x.Parent<=(N.length:Int)-1;obtain⟨u,hu⟩:∃ u:Nat,x.Parent=(u:Int):=⟨x.Parent.toNat,by omega⟩
 rw[ao (decide_eq_true hp),ao hp,hu,cd];exact Iz h0 hS h (by omega) x.Place a.Name;rw[an (by rw[decide_eq_false hp];decide),an hp];rw[an m1,an m1,aj];dsimp only;rw[gC,aj,ao (decide_eq_true (by omega))];exact Iz h0 hS h hlt 0 a.Name
def jf (N:List Node)(u:Nat)(o:Oc):Option bw:=
 if 0<=o.Pos/\o.Pos<=((N.getD u zN).cn_.length:Int) then
  (if 0<o.Pos then (if 0<=(N.getD u zN).cn_.getD (o.Pos-1).toNat 0/\(N.getD u zN).cn_.getD (o.Pos-1).toNat 0<=(N.length:Int)-1 then some ⟨(N.getD ((N.getD u zN).cn_.getD (o.Pos-1).toNat 0).toNat zN).Id,o.Name⟩ else none)
   else some ⟨(N.getD u zN).Id,o.Name⟩) else none
theorem Pp (h:gz g N){u:Nat}(hu:u<N.length)(o:Oc):uW g ⟨N⟩ (u:Int) o=some (match jf N u o with|some y=>(y,true)|none=>((⟨0,(⟨#[]⟩:ar)⟩:bw),false)):=by
 have hx:N[u]?=some N[u]:=Cmz hu;have hk:=h.kid N[u] (List.getElem_mem hu);have hn16:=h.n16;generalize hxe:N[u]=x at hx hk;unfold uW jf;rw[kp hx];dsimp only;rw[gC,aj,ao (decide_eq_true (by omega)),aE (by omega),cd,hx,aj,gC,aj];by_cases hp:0<=o.Pos/\o.Pos<=(x.cn_.length:Int);rw[ao (decide_eq_true hp),ao hp];by_cases h0:0<o.Pos;have hc:x.cn_[(o.Pos-1).toNat]?=some (x.cn_.getD (o.Pos-1).toNat 0):=by rw[Cwz,Cmz (by omega)];rfl
 rw[ao h0,ao h0,aE (by constructor<;>omega),aE (by omega),hc,aj,gC,aj];generalize x.cn_.getD (o.Pos-1).toNat 0=c;by_cases hcr:0<=c/\c<=(N.length:Int)-1;have hy:N[c.toNat]?=some (N.getD c.toNat zN):=by rw[Cwz,Cmz (by omega)];rfl
 rw[ao (decide_eq_true hcr),ao hcr,aE hcr.1,hy,aj];rw[an (by rw[decide_eq_false hcr];decide),an hcr];rw[an h0,an h0,aj,ao (decide_eq_true (by omega))];rw[an (by rw[decide_eq_false hp];decide),an hp]
def gN (g:al)(N:List Node)(v:Nat)(a:aI):List bw:=match oV g N v a with
 | some (u,e)=>(attrs e).filterMap (jf N u)
 | none=>[]
theorem EL {f:Nat->Oc->List bw->Option (List bw)}{p:Oc->Option bw}(hf:∀ k o s,s.length<1048577->f k o s=some (match p o with|some y=>s++[y]|none=>s)):∀ (xs:List Oc) (k:Nat) (s:List bw),s.length+xs.length<=1048577->eachL f k xs s=some (s++xs.filterMap p)
 | [],k,s,_=>by rw[List.filterMap_nil,Cgz];rfl
 | o::xs,k,s,h=>by
  simp only[bC] at h;rw[eachL,hf k o s (by omega),aj];cases hp:p o with
  | some y=>rw[List.filterMap_cons_some hp];dsimp only;rw[EL hf xs (k+1) (s++[y]) (by simp;omega),List.append_assoc];rfl
  | none=>rw[List.filterMap_cons_none hp];dsimp only;exact EL hf xs (k+1) s (by omega)
theorem HB (h0:Sz.szd g<=1048576)(hS:Shape g)(h:gz g N){u w:Nat}{e:Expr}(hu:u<N.length){pos:Int}{nm:ar}(hq:oC g N u pos nm=some (w,e)):w=u/\Sz.szd e<=1048576/\∃ r∈g.rs_,(N.getD u zN).ae=r.Name/\∃ q∈r.es_,q.At=⟨pos,nm⟩/\q.Expr=e:=by
 obtain⟨x,r,hx,Z,e1,_⟩:=h.ok u hu;unfold oC at hq;rw[kp hx,e1,lH hS Z] at hq;by_cases hc:(cq r ⟨pos,nm⟩).2=true;rw[ao hc] at hq;obtain⟨q,q1,q2,q3⟩:=I5 hc;rw[q3] at hq;injection hq with hq;injection hq with hw he;refine⟨hw.symm,?_,r,Z,by rw[kp hx];exact e1,q,q1,q2,he⟩;have W:=nJ q1;have a2:=ym q;have a3:=pd r;have a4:=gv Z;have a5:=fB q.Expr;rw[← he];omega;rw[an hc] at hq;cases hq
theorem Pt (h0:Sz.szd g<=1048576)(hS:Shape g)(h:gz g N){v w:Nat}{a:aI}{e:Expr}(hv:v<N.length)(hq:oV g N v a=some (w,e)):w<N.length/\Sz.szd e<=1048576:=by
 unfold oV at hq;by_cases m3:a.Mode=3;rw[ao m3] at hq;cases hq;rw[an m3] at hq;by_cases m1:a.Mode=1;rw[ao m1] at hq;by_cases hp:0<=(N.getD v zN).Parent/\(N.getD v zN).Parent<=(N.length:Int)-1;rw[ao hp] at hq;obtain⟨k1,k2,_⟩:=HB h0 hS h (by omega) hq;exact⟨by omega,k2⟩;rw[an hp] at hq;cases hq;rw[an m1] at hq;obtain⟨k1,k2,_⟩:=HB h0 hS h hv hq;exact⟨by omega,k2⟩
theorem Po (h0:Sz.szd g<=1048576)(hS:Shape g)(h:gz g N){v:Nat}{x:Node}(hv:N[v]?=some x){a:aI}(ha:a∈fx g x):vp g ⟨N⟩ ⟨x.Id,a.Name⟩=some (gN g N v a)/\(gN g N v a).length<=1048577:=by
 have hlt:=(List.getElem?_eq_some_iff.1 hv).1;unfold vp gN;rw[Pq h0 hS h hv ha,aj];cases hd:oV g N v a with
 | none=>
  dsimp only;rw[an Fpz];exact⟨rfl,Aez _⟩
 | some p=>
  obtain⟨u,e⟩:=p;obtain⟨U,K⟩:=Pt h0 hS h hlt hd;have hl:=Bgz Lo (Ei K);dsimp only;rw[ao rfl,EF K,aj,EL (p:=jf N u) (λk o s hs=>by
   unfold Hc;dsimp only;rw[Pp h U,aj];cases jf N u o with
   | some y=>
    dsimp only;rw[ao rfl,aE (by constructor<;>omega)];rfl
   | none=>
    dsimp only;rw[an Fpz];rfl) (attrs e) 0 [] (by simp;omega)]
  exact⟨rfl,Bgz (List.length_filterMap_le _ _) hl⟩
end
theorem La {α:Type}{f:Nat->List α}{p:α->Bool}{k:Nat}(U:∀ x∈f k,p x=true)(K:∀ j,j≠k->∀ x∈f j,p x=false):∀ (m s:Nat),s<=k->k<s+m->((List.range' s m).flatMap f).filter p=f k
 | 0,s,a,b=>by omega
 | m+1,s,a,b=>by
  rw[List.range'_succ,Bkz,List.filter_append];by_cases e:s=k;subst e;rw[List.filter_eq_self.2 U,List.filter_eq_nil_iff.2,Cgz];intro x hx;obtain⟨j,hj,hx⟩:=List.mem_flatMap.1 hx;rw[Etz] at hj;rw[K j (by omega) x hx];decide;rw[La U K m (s+1) (by omega) (by omega),List.filter_eq_nil_iff.2,List.nil_append];intro x hx;rw[K s e x hx];decide
theorem WI (g:al){r:ae}{k:Nat}(hk:k<=r.rt_.length):(bX g r).filter (λo=>decide (o.Pos=(k:Int)))=cB g r k:=by
 unfold bX;refine La (λx hx=>?_) (λj hj x hx=>?_) _ 0 (Aez _) (by omega);unfold cB at hx;obtain⟨a,_,rfl⟩:=List.mem_map.1 hx;exact decide_eq_true rfl;unfold cB at hx;obtain⟨a,_,rfl⟩:=List.mem_map.1 hx;exact decide_eq_false (by dsimp only;omega)
theorem Ek {g:al}{r:ae}{k p:Nat}(hk:k<=r.rt_.length){a:Int}(h:(dU g r (k:Int))[p]?=some a):∃ (i:Nat) (at' : aI),a=(i:Int)/\(ct g (cE r (k:Int)))[p]?=some at'/\(bX g r)[i]?=some ⟨(k:Int),at'.Name⟩:=by
 unfold dU at h;rw[Czz] at h;cases hz:(((bX g r).zipIdx 0).filter λq=>decide (q.1.Pos=(k:Int)))[p]? with
 | none=>rw[hz] at h;cases h
 | some q=>
  rw[hz] at h;obtain⟨o,i⟩:=q;have h:(i:Int)=a:=Option.some.inj h;have hm:=Bvz hz;rw[List.mem_filter] at hm;have hi:=List.mem_zipIdx_iff_getElem?.1 hm.1;have hmap:(((bX g r).zipIdx 0).filter λq=>decide (q.1.Pos=(k:Int))).map (·.1)=cB g r k:=by
   rw[← WI g hk];have:∀ (l:List Oc) (n:Nat),((l.zipIdx n).filter λq=>decide (q.1.Pos=(k:Int))).map (·.1)=l.filter λo=>decide (o.Pos=(k:Int)):=by
    intro l
    induction l with
    | nil=>intro n;rfl
    | cons x l ih=>
     intro n;rw[List.zipIdx_cons,List.filter_cons,List.filter_cons];by_cases hx:decide (x.Pos=(k:Int))=true;rw[ao hx,ao hx,List.map_cons,ih];rw[an hx,an hx,ih]
   exact this _ 0
  have hp:(cB g r k)[p]?=some o:=by rw[← hmap,Czz,hz];rfl
  unfold cB at hp;rw[Czz] at hp;cases ha:(ct g (cE r (k:Int)))[p]? with
  | none=>rw[ha] at hp;cases hp
  | some at'=>
   rw[ha] at hp;have hp:(⟨(k:Int),at'.Name⟩:Oc)=o:=Option.some.inj hp;exact⟨i,at',h.symm,rfl,by rw[hp];simpa using hi⟩
theorem F4 {own:au}{a:Nat}{x:Int}:∀ (ys:List Int) (i:Nat) (o:au),aL o->∀ s t:Nat,Rl (gm own a x i ys o).Rows s t->Rl o.Rows s t∨∃ q:Nat,∃ y,ys[q]?=some y/\bG own (a:Int) ((i+q:Nat):Int)/\(s:Int)=x/\(t:Int)=y
 | [],i,o,hv,s,t,h=>.inl h
 | y::ys,i,o,hv,s,t,h=>by
  rw[gm] at h;by_cases hp:bG own (a:Int) (i:Int);rw[ao hp] at h;rcases F4 ys (i+1) _ (ue hv x y) s t h with h|⟨q,z,U,K,h3⟩
  rcases (AM hv x y s t).1 h with h|⟨_,_,U,K⟩
  exact .inl h;exact .inr ⟨0,y,rfl,hp,U,K⟩;exact .inr ⟨q+1,z,U,by rwa[show i+(q+1)=i+1+q by omega],h3⟩;rw[an hp] at h;rcases F4 ys (i+1) o hv s t h with h|⟨q,z,U,K,h3⟩
  exact .inl h;exact .inr ⟨q+1,z,U,by rwa[show i+(q+1)=i+1+q by omega],h3⟩
theorem BS {own:au}{a:Nat}{x:Int}:∀ (ys:List Int) (i:Nat) (o:au),aL o->aL (gm own a x i ys o)
 | [],i,o,hv=>hv
 | y::ys,i,o,hv=>by
  rw[gm];refine BS ys (i+1) _ ?_;split;exact ue hv x y;exact hv
theorem Nl {own:au}{at' : List Int}:∀ (xs:List Int) (a:Nat) (o:au),aL o->∀ s t:Nat,Rl (js own at' a xs o).Rows s t->Rl o.Rows s t∨∃ p q:Nat,∃ x y,xs[p]?=some x/\at'[q]?=some y/\bG own ((a+p:Nat):Int) ((q:Nat):Int)/\(s:Int)=x/\(t:Int)=y
 | [],a,o,hv,s,t,h=>.inl h
 | x::xs,a,o,hv,s,t,h=>by
  rw[js] at h;rcases Nl xs (a+1) _ (BS at' 0 o hv) s t h with h|⟨p,q,x',y,U,K,h3,h4⟩
  rcases F4 at' 0 o hv s t h with h|⟨q,y,U,K,h3,h4⟩
  exact .inl h;exact .inr ⟨0,q,x,y,rfl,U,by rwa[Adz] at K,h3,h4⟩;exact .inr ⟨p+1,q,x',y,U,K,by rwa[show a+(p+1)=a+1+p by omega],h4⟩
theorem yq {own:au}{at' : List Int}:∀ (xs:List Int) (a:Nat) (o:au),aL o->aL (js own at' a xs o)
 | [],a,o,hv=>hv
 | x::xs,a,o,hv=>by rw[js];exact yq xs (a+1) _ (BS at' 0 o hv)
theorem K9 {g:al}{r:ae}:∀ (l:List au) (k:Nat) (o:au),aL o->∀ s t:Nat,Rl (fO g r k l o).Rows s t->Rl o.Rows s t∨∃ (j p q:Nat) (own:au),l[j]?=some own/\bG own ((p:Nat):Int) ((q:Nat):Int)/\(dU g r ((k+j+1:Nat):Int))[p]?=some ((s:Nat):Int)/\(dU g r ((k+j+1:Nat):Int))[q]?=some ((t:Nat):Int)
 | [],k,o,hv,s,t,h=>.inl h
 | own::l,k,o,hv,s,t,h=>by
  rw[fO] at h;unfold lE at h;rcases K9 l (k+1) _ (yq _ 0 o hv) s t h with h|⟨j,p,q,own',U,K,h3,h4⟩
  rcases Nl _ 0 o hv s t h with h|⟨p,q,x,y,U,K,h3,h4,h5⟩
  exact .inl h;exact .inr ⟨0,p,q,own,rfl,by rwa[Adz] at h3,by rw[h4];exact U,by rw[h5];exact K⟩;refine .inr ⟨j+1,p,q,own',U,K,?_,?_⟩;rw[show k+(j+1)+1=k+1+j+1 by omega];exact h3;rw[show k+(j+1)+1=k+1+j+1 by omega];exact h4
theorem xn {Q:Nat->Nat->Prop}(ht:∀ i k j,Q i k->Q k j->Q i j){n:Nat}{s:List Int}(h:jq n s)(Y:∀ i j,Rl s i j->Q i j):∀ m i j,Rl (gu s m) i j->Q i j
 | 0,i,j,hx=>Y i j hx
 | m+1,i,j,hx=>by
  have hi:=wt (Kf (kb h m)) hx;rw[gu,AF (kb h m) hi] at hx;rcases hx with hx|⟨U,K⟩
  exact xn ht h Y m i j hx;exact ht _ _ _ (xn ht h Y m i m U) (xn ht h Y m m j K)
theorem Vk {Q:Nat->Nat->Prop}(ht:∀ i k j,Q i k->Q k j->Q i j){x:au}(hv:aL x)(Y:∀ i j,Rl x.Rows i j->Q i j):∀ i j,Rl (dr x).Rows i j->Q i j:=by
 unfold dr;rw[ao hv];exact xn ht (nI hv).1 Y _
section
variable {g:al}{N:List Node}
theorem AH {y:bw}:y∈cO g N↔∃ (v:Nat) (x:Node) (a:aI),N[v]?=some x/\a∈fx g x/\y=(⟨x.Id,a.Name⟩:bw):=by
 unfold cO;rw[List.mem_flatMap];constructor;rintro⟨x,hx,hy⟩;obtain⟨v,hv⟩:=Elz hx;obtain⟨a,ha,rfl⟩:=List.mem_map.1 hy;exact⟨v,x,a,hv,ha,rfl⟩;rintro⟨v,x,a,hv,ha,rfl⟩;exact⟨x,Bvz hv,List.mem_map.2 ⟨a,ha,rfl⟩⟩
theorem Tq (hS:Shape g)(h:gz g N){v v' : Nat}{x x' : Node}{a a' : aI}(hv:N[v]?=some x)(hv' : N[v']?=some x')(ha:a∈fx g x)(ha' : a'∈fx g x')(e:(⟨x.Id,a.Name⟩:bw)=⟨x'.Id,a'.Name⟩):v=v'/\x=x'/\a=a':=by
 injection e with e1 e2;have:=h.nid hv hv' e1;subst this;rw[hv] at hv';cases hv';refine⟨rfl,rfl,?_⟩;obtain⟨x'',r,hx,Z,e,_⟩:=h.ok v (List.getElem?_eq_some_iff.1 hv).1;rw[hv] at hx;cases hx;obtain⟨W,a2,a3⟩:=oZ hS Z e;rw[W] at ha ha';have f1:=xe a2 ha;have f2:=xe a2 ha';rw[e2,f2] at f1;exact (congrArg Prod.fst f1).symm
theorem Pn (l:List bw)(y:bw):vm l y=some (fw l y):=by
 unfold vm;exact Ft λk x=>⟨λe=>by unfold Cv;rw[ao e],λe=>by unfold Cv;rw[an e]⟩
theorem Tp (l:List bw)(y:bw):-1<=fw l y/\fw l y<(l.length:Int):=by
 unfold fw;by_cases h:y∈l;rw[ao h];have:=List.idxOf_lt_length_iff.2 h;omega;rw[an h];omega
structure sR (g:al) (N:List Node) (tb:List (List Int)):Prop where
 ok:TB tb
 len:tb.length=(cO g N).length
 row:∀ (v:Nat) (x:Node) (a:aI),N[v]?=some x->a∈fx g x->∀ k:Nat,(cO g N)[k]?=some ⟨x.Id,a.Name⟩->tb[k]?=some ((gN g N v a).map (fw (cO g N)))
theorem UM (h0:Sz.szd g<=1048576)(hS:Shape g)(h:gz g N){s:ar}(hs:jM g ⟨N⟩ 0=some s)(ht:kc g ⟨N⟩ s=some true):∃ tb,uV g ⟨N⟩=some tb/\sR g N tb:=by
 obtain⟨e1,hl⟩:=Ts h0 hS h hs ht;unfold uV;rw[e1,aj];generalize hL:cO g N=L at e1 hl;obtain⟨s',e,hp⟩:=iw (P:=λi (s:List (List Int))=>s.length=i/\(∀ row∈s,∀ x∈row,-1<=x/\x<(L.length:Int))/\∀ (v:Nat) (x:Node) (a:aI),N[v]?=some x->a∈fx g x->∀ k:Nat,k<i->L[k]?=some ⟨x.Id,a.Name⟩->s[k]?=some ((gN g N v a).map (fw L))) (xs:=L) (i:=0) (s:=([]:List (List Int))) (f:=Cd g ⟨N⟩ L) ⟨rfl,λrow Z=>(nomatch Z),λv x a _ _ k hk=>(by omega)⟩ λk y s hk hs=>by
  rw[Adz] at hs ⊢;obtain⟨s1,s2,s3⟩:=hs;have hlt:=(List.getElem?_eq_some_iff.1 hk).1;have hy:y∈cO g N:=by rw[hL];exact Bvz hk
  obtain⟨v,x,a,hv,ha,rfl⟩:=AH.1 hy;obtain⟨i1,i2⟩:=Po h0 hS h hv ha;refine⟨s++[(gN g N v a).map (fw L)],?_,by rw[Axz,s1];rfl,λrow Z z hz=>?_,λv' x' a' hv' ha' k' hk' hk2=>?_⟩;unfold Cd;rw[i1,aj,nH (g:=fw L) (B:=1048577) (gN g N v a) 0 [] (λk y s hy hs=>by
   unfold G1;rw[Pn,aj,aE (by constructor<;>omega)]) (by simp;omega),aj,aE (by constructor<;>omega)];rfl
  rcases List.mem_append.1 Z with Z|Z;exact s2 row Z z hz;rw[List.mem_singleton] at Z;subst Z;obtain⟨w,_,rfl⟩:=List.mem_map.1 hz;exact Tp L w;by_cases e:k'=k;subst e;rw[hk] at hk2;obtain⟨q1,q2,q3⟩:=Tq hS h hv hv' ha ha' (Option.some.inj hk2);subst q1;subst q2;subst q3;rw[← s1,List.getElem?_append_right (Nat.le_refl _),Nat.sub_self];rfl;rw[List.getElem?_append_left (by omega)];exact s3 v' x' a' hv' ha' k' (by omega) hk2
 rw[Adz] at hp;obtain⟨p1,p2,p3⟩:=hp;refine⟨s',by rw[e];rfl,⟨by omega,λrow Z z hz=>by rw[p1];exact p2 row Z z hz⟩,by rw[hL];exact p1,λv x a hv ha k hk=>?_⟩;rw[hL] at hk ⊢;exact p3 v x a hv ha k (List.getElem?_eq_some_iff.1 hk).1 hk
def Br (g:al)(N:List Node)(tb:List (List Int))(x y:bw):Prop:=Dp tb ((cO g N).idxOf x) ((cO g N).idxOf y)
theorem Pm {tb:List (List Int)}(hT:sR g N tb){v:Nat}{x:Node}{a:aI}(hv:N[v]?=some x)(ha:a∈fx g x){y:bw}(hy:y∈gN g N v a)(hm:y∈cO g N):Br g N tb ⟨x.Id,a.Name⟩ y:=by
 have hx:(⟨x.Id,a.Name⟩:bw)∈cO g N:=AH.2 ⟨v,x,a,hv,ha,rfl⟩;have hlt:=List.idxOf_lt_length_iff.2 hx;have hg:(cO g N)[(cO g N).idxOf (⟨x.Id,a.Name⟩:bw)]?=some ⟨x.Id,a.Name⟩:=by rw[Cmz hlt,List.getElem_idxOf]
 refine .one ⟨_,hT.row v x a hv ha _ hg,?_⟩;refine List.mem_map.2 ⟨y,hy,?_⟩;unfold fw;rw[ao hm]
theorem DY (h:gz g N)(hS:Shape g){u:Nat}{x:Node}{r:ae}(hu:N[u]?=some x)(Z:r∈g.rs_)(e:x.ae=r.Name){o:Oc}{a:aI}(U:0<=o.Pos)(K:o.Pos<=(r.rt_.length:Int))(ha:a∈(bR g (cE r o.Pos)).1.as_)(hn:a.Name=o.Name) :
  ∃ (v:Nat) (y:Node),N[v]?=some y/\a∈fx g y/\jf N u o=some ⟨y.Id,a.Name⟩/\((o.Pos=0/\v=u)∨(0<o.Pos/\y.Parent=(u:Int)/\y.Place=o.Pos/\x.cn_[(o.Pos-1).toNat]?=some (v:Int))):=by
 have hlt:=(List.getElem?_eq_some_iff.1 hu).1;obtain⟨x',r0,hx,hr0,e0,hc,hk⟩:=h.ok u hlt;rw[hu] at hx;cases hx;have:r0=r:=by rw[← lH hS hr0,← lH hS Z,← e0,← e]
 subst this;have hrng:0<=o.Pos/\o.Pos<=((N.getD u zN).cn_.length:Int):=by rw[kp hu,hc];exact⟨U,K⟩
 by_cases hz:o.Pos=0;refine⟨u,x,hu,?_,?_,.inl ⟨hz,rfl⟩⟩;rw[(oZ hS Z e).1];rw[hz] at ha;unfold cE at ha;rwa[ao rfl] at ha;unfold jf;rw[ao hrng,an (by omega),kp hu,hn];obtain⟨j,hj⟩:∃ j:Nat,o.Pos=((j+1:Nat):Int):=⟨(o.Pos-1).toNat,by omega⟩
 have hjl:j<r0.rt_.length:=by omega
 obtain⟨c,y,r',c1,c2,c3,c4,c5,c6,c7,c8⟩:=hk j r0.rt_[j] (Cmz hjl);have hcl:=(List.getElem?_eq_some_iff.1 c3).1;have et:(o.Pos-1).toNat=j:=by omega
 refine⟨c,y,c3,?_,?_,.inr ⟨by omega,c4,by rw[c5,hj],by rw[et];exact c1⟩⟩;rw[(oZ hS c6 c7).1,c8];rw[hj,rC (Cmz hjl)] at ha;exact ha;unfold jf;have hg:(N.getD u zN).cn_.getD (o.Pos-1).toNat 0=(c:Int):=by rw[kp hu,et,Cwz,c1];rfl
 rw[ao hrng,ao (by omega),hg,ao (by omega),cd,kp c3,hn]
theorem Pj (h0:Sz.szd g<=1048576)(hS:Shape g)(h:gz g N){tb:List (List Int)}(hT:sR g N tb){u:Nat}{x:Node}{r:ae}(hu:N[u]?=some x)(Z:r∈g.rs_)(e:x.ae=r.Name){o' o:Oc}(hq:(cq r o').2=true)(ho:o∈attrs (cq r o').1) :
  ∃ y' y,jf N u o'=some y'/\jf N u o=some y/\y'∈cO g N/\y∈cO g N/\Br g N tb y' y:=by
 have hlt:=(List.getElem?_eq_some_iff.1 hu).1;obtain⟨q,q1,q2,q3⟩:=I5 hq;have hreq:=PU hS Z q1;rw[q2] at hreq;unfold cy at hreq;obtain⟨k,hk,hreq⟩:=List.mem_flatMap.1 hreq;rw[Etz] at hk;unfold eU at hreq;obtain⟨a,ha,eo⟩:=List.mem_map.1 hreq;rw[List.mem_filter] at ha;have hmode:a.Mode=if (k:Int)=0 then 2 else 1:=by simpa using ha.2
 have ep:o'.Pos=(k:Int):=by rw[← eo]
 have en:a.Name=o'.Name:=by rw[← eo]
 obtain⟨v,yn,hv,hav,hat,hcase⟩:=DY h hS hu Z e (o:=o') (a:=a) (by omega) (by omega) (by rw[ep];exact ha.1) en
 -- the used one
 rw[q3] at ho;obtain⟨hm,_⟩:=hS.may Z q1 ho;unfold fJ gp at hm;by_cases hp:0<=o.Pos/\o.Pos<=(r.rt_.length:Int);rw[ao hp] at hm;have hf:(eS (bR g (cE r o.Pos)).1 o.Name).2=true:=by
  rw[Bool.and_eq_true] at hm;exact hm.1
 have Y:∃ b∈(bR g (cE r o.Pos)).1.as_,b.Name=o.Name:=by
  unfold eS at hf;cases hff:(bR g (cE r o.Pos)).1.as_.find? (λa=>decide (a.Name=o.Name)) with
  | none=>rw[hff] at hf;cases hf
  | some b=>exact⟨b,Ecz hff,by simpa using Fxz hff⟩
 obtain⟨b,b1,b2⟩:=Y;obtain⟨w,wn,hw,haw,hatw,_⟩:=DY h hS hu Z e (o:=o) (a:=b) hp.1 hp.2 b1 b2;have hmem:(⟨wn.Id,b.Name⟩:bw)∈cO g N:=AH.2 ⟨w,wn,b,hw,haw,rfl⟩;refine⟨_,_,hat,hatw,AH.2 ⟨v,yn,a,hv,hav,rfl⟩,hmem,Pm hT hv hav ?_ hmem⟩;have hlk:∀ pos:Int,pos=o'.Pos->oC g N u pos a.Name=some (u,q.Expr):=λpos epos=>by
  unfold oC;have eo' : (⟨pos,a.Name⟩:Oc)=o':=by rw[epos,en]
  rw[kp hu,e,lH hS Z,eo',ao hq,q3]
 have hd:oV g N v a=some (u,q.Expr):=by
  unfold oV;rcases hcase with ⟨c1,c2⟩|⟨c1,c2,c3,_⟩
  rw[ao (by omega)] at hmode;rw[an (by omega),an (by omega),c2];exact hlk 0 c1.symm;rw[an (by omega)] at hmode;rw[an (by omega),ao hmode,kp hv,c2,ao (by omega),cd,c3];exact hlk _ rfl
 unfold gN;rw[hd];exact List.mem_filterMap.2 ⟨o,ho,hatw⟩;rw[an hp] at hm;cases hm
end
section
variable {g:al}{N:List Node}{tb:List (List Int)}
def ij (g:al)(N:List Node)(tb:List (List Int))(u:Nat)(r:ae)(a b:Nat):Prop:=∃ oa ob ya yb,(bX g r)[a]?=some oa/\(bX g r)[b]?=some ob/\jf N u oa=some ya/\jf N u ob=some yb/\Br g N tb yb ya
theorem ij.trans {u:Nat}{r:ae}{a b c:Nat}(h:ij g N tb u r a b)(k:ij g N tb u r b c):ij g N tb u r a c:=by
 obtain⟨oa,ob,ya,yb,U,K,h3,h4,h5⟩:=h;obtain⟨ob',oc,yb',yc,k1,k2,k3,k4,k5⟩:=k;rw[K] at k1;cases k1;rw[h4] at k3;cases k3;exact⟨oa,oc,ya,yc,U,k2,h3,k4,k5.trans h5⟩
def qN (g:al)(N:List Node)(tb:List (List Int))(c:Nat)(s:ar)(own:au):Prop:=∀ p q:Nat,Rl own.Rows p q->∃ ap aq y,(ct g s)[p]?=some ap/\(ct g s)[q]?=some aq/\N[c]?=some y/\Br g N tb ⟨y.Id,aq.Name⟩ ⟨y.Id,ap.Name⟩
theorem WH {r:ae}{o u:Oc}(h:u∈attrs (cq r o).1):(cq r o).2=true:=by
 unfold cq at h ⊢;cases hf:r.es_.find? (λq=>decide (q.At=o)) with
 | none=>
  rw[hf] at h;have h:u∈attrs nj:=h;have hz:(fS nj).length<=0:=by decide
  rw[List.eq_nil_of_length_eq_zero (Nat.le_zero.1 (Bgz Lo hz))] at h;exact nomatch h
 | some q=>rfl
theorem To (h0:Sz.szd g<=1048576)(hS:Shape g)(h:gz g N)(hT:sR g N tb){u:Nat}{x:Node}{r:ae}(hu:N[u]?=some x)(Z:r∈g.rs_)(e:x.ae=r.Name){L:List au}(hL:lC g r L)
  (hk:∀ (j:Nat) (own:au) (n:ar) (c:Nat),L[j]?=some own->r.rt_[j]?=some n->x.cn_[j]?=some (c:Int)->qN g N tb c n own):∀ a b:Nat,Rl (dQ g r L).Rows a b->ij g N tb u r a b:=by
 intro a b hab;unfold dQ at hab;by_cases h16:16<(bX g r).length;rw[ao h16] at hab;exact absurd hab (by unfold Rl;simp);rw[an h16] at hab;obtain⟨lv,ln,lp⟩:=Lb h0 (Bgz (gv Z) h0) (r:=r) (by omega);have hcv:∀ (l:List au) (k:Nat) (o:au),aL o->aL (fO g r k l o):=by
  intro l
  induction l with
  | nil=>intro k o ho;exact ho
  | cons y l ih=>intro k o ho;rw[fO];exact ih (k+1) _ (yq _ 0 o ho)
 refine Vk (Q:=ij g N tb u r) (λi k j=>ij.trans) (hcv L 0 _ lv) (λi j hij=>?_) a b hab;rcases K9 L 0 _ lv i j hij with hij|⟨j',p,q,own,c1,c2,c3,c4⟩
 obtain⟨o',U,o,K,h3⟩:=(lp i j).1 hij;obtain⟨y',y,k1,k2,_,_,k5⟩:=Pj h0 hS h hT hu Z e (WH K) K;exact⟨o,o',y,y',IB h3,U,k2,k1,k5⟩;rw[Adz] at c3 c4;have hj:=(List.getElem?_eq_some_iff.1 c1).1;rw[hL.1] at hj;obtain⟨i1,ap,e1,p1,o1⟩:=Ek (k:=j'+1) (by omega) c3;obtain⟨i2,aq,e2,p2,o2⟩:=Ek (k:=j'+1) (by omega) c4;have hsym:cE r ((j'+1:Nat):Int)=r.rt_[j']:=rC (Cmz hj);rw[hsym] at p1 p2;have f1:i=i1:=by omega
 have f2:j=i2:=by omega
 subst f1;subst f2;obtain⟨x',r0,hx,hr0,e0,hc,hkk⟩:=h.ok u (List.getElem?_eq_some_iff.1 hu).1;rw[hu] at hx;cases hx;have:r0=r:=by rw[← lH hS hr0,← lH hS Z,← e0,← e]
 subst this;obtain⟨c,y,r',d1,d2,d3,d4,d5,d6,d7,d8⟩:=hkk j' r0.rt_[j'] (Cmz hj);have hR:Rl own.Rows p q:=(Ee (hL.2 j' own c1).1 p q).1 c2;obtain⟨ap',aq',y',g1,g2,g3,g4⟩:=hk j' own r0.rt_[j'] c c1 (Cmz hj) d1 p q hR;rw[p1] at g1;cases g1;rw[p2] at g2;cases g2;rw[d3] at g3;cases g3;have hatk:∀ (b:aI),b∈ct g r0.rt_[j']->jf N u ⟨((j'+1:Nat):Int),b.Name⟩=some ⟨y.Id,b.Name⟩:=λb Y=>by
  unfold ct at Y;obtain⟨v,yn,w1,w2,w3,w4⟩:=DY h hS hu Z e (o:=⟨((j'+1:Nat):Int),b.Name⟩) (a:=b) (by dsimp only;omega) (by dsimp only;omega) (by rw[hsym];exact (List.mem_filter.1 Y).1) rfl;rcases w4 with ⟨w4,_⟩|⟨_,_,_,w4⟩
  dsimp only at w4;omega;dsimp only at w4;rw[show (((j'+1:Nat):Int)-1).toNat=j' by omega,d1] at w4;have:c=v:=by injection w4 with w4;omega
  subst this;rw[d3] at w1;cases w1;exact w3
 exact⟨_,_,_,_,o1,o2,hatk ap (Bvz p1),hatk aq (Bvz p2),g4⟩
theorem Pi (h0:Sz.szd g<=1048576)(hS:Shape g){r:ae}(Z:r∈g.rs_){c:au}(hc:aL c){a b:Nat}(h:Rl (cG g r c).Rows a b):Rl c.Rows a b/\a<(ct g r.Left).length/\b<(ct g r.Left).length:=by
 have hpl:(ct g r.Left).length<=16:=by have:=hS.plain r.Left;omega
 obtain⟨s,e1,hv,hN,hp⟩:=TL (gZ h0) (r:=r) hpl c;have hs:cG g r c=s:=by
  have:=(wH (gZ h0) (iv (Bgz (gv Z) h0)) (r:=r) c).1;rw[e1] at this;exact (Option.some.inj this).symm
 rw[hs] at h;have hok:=(nI hv).1;have U:=wt hok h;have K:=HC hok h;refine⟨(Ee hc a b).1 (hp a b h),by omega,by omega⟩
theorem v8 {r:ae}{a:Nat}(ha:a<(ct g r.Left).length):∃ at' : aI,(ct g r.Left)[a]?=some at'/\(bX g r)[a]?=some ⟨0,at'.Name⟩:=by
 have hs:cE r ((0:Nat):Int)=r.Left:=ao rfl;have hp:=Dy (g:=g) (r:=r) (m:=a) (by rw[hs];exact ha);obtain⟨i,at',e1,U,K⟩:=Ek (k:=0) (Aez _) hp;rw[hs] at U;have:a=i:=by omega
 subst this;exact⟨at',U,K⟩
theorem Mo (h0:Sz.szd g<=1048576){r:ae}(Z:r∈g.rs_)(L:List au):aL (dQ g r L):=by
 unfold dQ;by_cases h16:16<(bX g r).length;rw[ao h16];exact⟨by decide,by decide,rfl,λx hx=>nomatch hx⟩;rw[an h16];obtain⟨lv,_,_⟩:=Lb h0 (Bgz (gv Z) h0) (r:=r) (by omega);have hcv:∀ (l:List au) (k:Nat) (o:au),aL o->aL (fO g r k l o):=by
  intro l
  induction l with
  | nil=>intro k o ho;exact ho
  | cons y l ih=>intro k o ho;rw[fO];exact ih (k+1) _ (yq _ 0 o ho)
 exact NS (hcv L 0 _ lv)
theorem Ej {rec:aw->Option Tr}{F:List (List aw)}:∀ (ns:List ar) (ds:List Int) (ks:List Tr) (L:List au),fc rec g F ns ds=some ks->jS g F ns ds=some L->L.length=ns.length/\∀ (j:Nat) (own:au) (n:ar),L[j]?=some own->ns[j]?=some n->∃ f t,ks[j]?=some t/\rec f=some t/\f.sy_=own/\∃ d,cM g F n d=some f
 | [],[],ks,L,h,k=>by cases h;cases k;exact⟨rfl,λj own n hj=>by simp at hj⟩
 | n::ns,d::ds,ks,L,h,k=>by
  rw[fc] at h;rw[jS] at k;obtain⟨f,e1,h⟩:=Option.bind_eq_some_iff.1 h;obtain⟨t,e2,h⟩:=Option.bind_eq_some_iff.1 h;obtain⟨us,e3,h⟩:=Option.bind_eq_some_iff.1 h;cases h;obtain⟨f',k1,k⟩:=Option.bind_eq_some_iff.1 k;obtain⟨L',k3,k⟩:=Option.bind_eq_some_iff.1 k;cases k;rw[e1] at k1;cases k1;obtain⟨i1,i2⟩:=Ej ns ds us L' e3 k3;refine⟨by simp[i1],λj own m hj hm=>?_⟩;cases j with
  | zero=>simp at hj hm;subst hj;subst hm;exact⟨f,t,rfl,e2,rfl,d,e1⟩
  | succ j=>exact i2 j own m (by simpa using hj) (by simpa using hm)
 | [],_::_,ks,L,h,_=>by cases h
 | _::_,[],ks,L,h,_=>by cases h
theorem UL (h0:Sz.szd g<=1048576)(hS:Shape g){F:List (List aw)}(hA:aH g (aC F)){r:ae}(Z:r∈g.rs_){rec:aw->Option Tr}{ds:List Int}{ks:List Tr}{L:List au}(h:fc rec g F r.rt_ ds=some ks)(k:jS g F r.rt_ ds=some L):lC g r L:=by
 obtain⟨U,K⟩:=Ej _ _ _ _ h k;refine⟨U,λj own hj=>?_⟩;have hlt:=(List.getElem?_eq_some_iff.1 hj).1;rw[U] at hlt;obtain⟨f,t,_,_,e,d,hd⟩:=K j own r.rt_[j] hj (Cmz hlt);obtain⟨l,hl,_,_,hfl⟩:=sA hd;obtain⟨_,_,h3,_,h5⟩:=hA.at_ (hS.right Z (List.getElem_mem hlt));rw[lI,hl] at h3;have h3:l.map aw.sy_=ei g (aC F) r.rt_[j]:=Option.some.inj h3;have:=h5 own (by rw[← h3,← e];exact List.mem_map.2 ⟨f,hfl,rfl⟩);rw[rC (Cmz hlt)];exact⟨this.1,this.2.1⟩
theorem K8 (h0:Sz.szd g<=1048576)(hS:Shape g)(h:gz g N)(hT:sR g N tb){F:List (List aw)}(hA:aH g (aC F)){rec:aw->Option Tr}{r:ae}(Z:r∈g.rs_){ds:List Int}{ks:List Tr}{L:List au}(hk:fc rec g F r.rt_ ds=some ks)(hR:jS g F r.rt_ ds=some L)
  (ih:∀ f t,(∃ l∈F,f∈l)->rec f=some t->∀ i p q s,iH g N t i p q s->qN g N tb i s f.sy_) {i:Nat} {p q:Int} {s:ar} (ht:iH g N (.node r.Name ks) i p q s):∃ x,N[i]?=some x/\x.ae=r.Name/\s=r.Left/\∀ a b:Nat,Rl (dQ g r L).Rows a b->ij g N tb i r a b:=by
 obtain⟨x,r0,hx,hr0,e1,e2,e3,e4,e5,e6,e7,e8,en,hks⟩:=ht;have:r0=r:=by rw[← lH hS hr0,← lH hS Z,en]
 subst this;refine⟨x,hx,e1,e2.symm,To h0 hS h hT hx Z e1 (UL h0 hS hA Z hk hR) λj own n c hj hn hc=>?_⟩;obtain⟨_,K⟩:=Ej _ _ _ _ hk hR;obtain⟨f,t,q1,q2,q3,d,hd⟩:=K j own n hj hn;obtain⟨l,hl,_,hlF,hfl⟩:=sA hd;have hlt:=(List.getElem?_eq_some_iff.1 q1).1;have hT':=gf.get hks q1 hn;have:=ih f t ⟨l,hlF,hfl⟩ q2 _ _ _ _ hT';rw[q3] at this;rw[e5,EM ks (i+1) j hlt] at hc;have:c=i+1+Tr.szs (ks.take j):=by injection hc with hc;omega
 rw[this];assumption
theorem J6 (h0:Sz.szd g<=1048576)(hS:Shape g)(h:gz g N)(hT:sR g N tb){F:List (List aw)}(hA:aH g (aC F))(hD:fD g F)(hD2:dY g F):∀ (n:Nat) (f:aw) (t:Tr),(∃ l∈F,f∈l)->dZ g F n f=some t->∀ i p q s,iH g N t i p q s->qN g N tb i s f.sy_
 | 0,f,t,_,ht=>by cases ht
 | n+1,f,t,⟨l,hl,hf⟩,ht=>by
  intro i p q s hi;rw[dZ] at ht;obtain⟨ks,e1,ht⟩:=Option.bind_eq_some_iff.1 ht;cases ht;have Z:=(hD l hl f hf).1;obtain⟨k,hk⟩:=Elz hl;obtain⟨_,L,hR,hsum⟩:=hD2 k l hk f hf;obtain⟨x,hx,ex,es,hc⟩:=K8 h0 hS h hT hA Z e1 hR (λf' t' U K=>J6 h0 hS h hT hA hD hD2 n f' t' U K) hi;intro a b hab;rw[hsum] at hab;obtain⟨q1,q2,q3⟩:=Pi h0 hS Z (Mo h0 Z L) hab;obtain⟨oa,ob,ya,yb,d1,d2,d3,d4,d5⟩:=hc a b q1;obtain⟨aa,w1,w2⟩:=v8 q2;obtain⟨ab,w3,w4⟩:=v8 q3;rw[w2] at d1;cases d1;rw[w4] at d2;cases d2;have hat:∀ b:aI,jf N i ⟨0,b.Name⟩=some ⟨x.Id,b.Name⟩:=λb=>by
   unfold jf;rw[ao ⟨by dsimp only;omega,by dsimp only;omega⟩,an (by dsimp only;omega),kp hx]
  rw[hat] at d3 d4;cases d3;cases d4;subst es;exact⟨aa,ab,x,w1,w3,hx,d5⟩
theorem PS {c:au}(h:jn c=true)(hi:dr c=c)(hv:aL c):∃ k:Nat,Rl c.Rows k k:=by
 unfold jn at h;obtain⟨k,_,hk⟩:=of_decide_eq_true h;rw[hi] at hk;exact⟨k,(Ee hv k k).1 hk⟩
theorem Vj (g:al)(r:ae)(L:List au):dr (dQ g r L)=dQ g r L:=by
 unfold dQ;by_cases h16:16<(bX g r).length;rw[ao h16];decide;rw[an h16,X3]
end
theorem Vi {g:al}(h0:Sz.szd g<=1048576)(hS:Shape g){F:List (List aw)}(hA:aH g (aC F))(hD:fD g F)(hD2:dY g F){r:ae}(Z:r∈g.rs_){c:List Nat}(hc:Ch g r (aC F) c)(hl:ee g r (aC F) c=true){ts:List Tr}(hts:fc (dZ g F (dm (aC F))) g F r.rt_ (iL c)=some ts)(hz:(Tr.node r.Name ts).sz<=16) :
  ∃ l,jM g ⟨bp cn (.node r.Name ts) (-1) 0 0⟩ 0=some r.Left/\kc g ⟨bp cn (.node r.Name ts) (-1) 0 0⟩ r.Left=some true/\rL g ⟨bp cn (.node r.Name ts) (-1) 0 0⟩=some l/\0<l.length:=by
 have htr:dZ g F (dm (aC F)+1) (fX r c)=some (.node r.Name ts):=by
  rw[dZ];show (fc (dZ g F (dm (aC F))) g F r.rt_ (iL c)).bind _=_;rw[hts];rfl
 obtain⟨t1,t2,t3,t4⟩:=UO h0 hS hD hD2 (f:=fX r c) Z htr hz;have t1:iH g (bp cn (.node r.Name ts) (-1) 0 0) (.node r.Name ts) 0 (-1) 0 r.Left:=t1;have t4:kc g ⟨bp cn (.node r.Name ts) (-1) 0 0⟩ r.Left=some true:=t4;have hlen:=mA cn (.node r.Name ts) (-1) 0 0;have hpos:=(Tr.node r.Name ts).pos;generalize bp cn (.node r.Name ts) (-1) 0 0=N at t1 t2 t3 t4 hlen;have hN:gz g N:=.of hS (by omega) (by omega) t3 t1 hlen.symm;obtain⟨x,r0,hx,hr0,e1,e2,_⟩:=t1.head;have hsym:jM g ⟨N⟩ 0=some r.Left:=by
  have:=El h0 hS hx hr0 e1;rw[e2] at this;exact this
 obtain⟨tb,b1,b2⟩:=UM h0 hS hN hsym t4;have hR:=Jt hS Z hA (.rfl' _) hc;obtain⟨x',q1,q2,q3,q4⟩:=K8 h0 hS hN b2 hA Z hts hR (λf' t' U K=>J6 h0 hS hN b2 hA hD hD2 _ f' t' U K) t1;obtain⟨k,hk⟩:=PS hl (Vj g r _) (Mo h0 Z _);obtain⟨oa,ob,ya,yb,d1,d2,d3,d4,d5⟩:=q4 k k hk;rw[d1] at d2;cases d2;rw[d3] at d4;cases d4;obtain⟨l,f1,f2⟩:=UQ b2.ok;refine⟨l,hsym,t4,?_,f2.2 ⟨_,d5⟩⟩;unfold rL;rw[b1,aj,f1];rfl
theorem GB.gc2 {g:al}(h:GB g):nB g:=⟨h.1,h.2.1,h.2.2.1,λr Z=>by obtain⟨a,c,d⟩:=h.2.2.2 r Z;exact⟨a,by omega,d⟩⟩
theorem Vh {b:List UInt8}(Y:b.length<=1048576):Ok nB (vD b):=by
 unfold vD;obtain⟨z,hz,hz1,hz2⟩:=PC Y;obtain⟨zb,zi,zh⟩:=z;dsimp only at hz1 hz2;subst hz2;refine .eq hz ?_;refine bS (iu Y _ (cb hz1)) λy i1 U _ hi1=>.ite (λ_=>?_) λ_=>?_;exact bS (VQ Y hi1) λg i2 K hg hi2=>.ret hg;exact bS (LQ Y true hi1) λg i2 K hg hi2=>.ret (GB.gc2 hg)
theorem BI {g:al}{A:List (List au)}{r:ae}{c:List Nat}:∀ {rs:List ae},j5 g A rs=some (r,c)->r∈rs/\c∈bY (aV g r A)/\ee g r A c=true
 | [],h=>by cases h
 | x::rs,h=>by
  rw[j5] at h;cases e:(bY (aV g x A)).find? (ee g x A) with
  | none=>
   rw[e] at h;obtain⟨U,K⟩:=BI h;exact⟨by simp[U],K⟩
  | some c'=>
   rw[e] at h;cases h;exact⟨by simp,Ecz e,Fxz e⟩
theorem WG {g:al}(h0:Sz.szd g<=1048576)(hg:nq g=true):∃ F,kO g=some F/\aH g (aC F)/\fD g F/\dY g F /\
  ((l4 g=some (⟨[]⟩,false)/\kZ g=some (⟨[]⟩,false)) ∨
   ∃ r c ts,j5 g (aC F) g.rs_=some (r,c)/\fc (dZ g F (dm (aC F))) g F r.rt_ (iL c)=some ts/\(Tr.node r.Name ts).sz<=16/\l4 g=some (⟨bp cn (.node r.Name ts) (-1) 0 0⟩,true)/\kZ g=some (⟨bp cn (.node r.Name ts) (-1) 0 0⟩,true)):=by
 obtain⟨R,e1,e2,_⟩:=WK h0;have hS:=uf hg;obtain⟨F,f1,f2,f3,f4,f5⟩:=Mt h0 hS;refine⟨F,f1,f3,f4,f5,?_⟩;have e3:=e2;unfold kZ at e3;rw[tq h0,aj,hg,ao rfl,f1,aj] at e3;unfold nX at e3;dsimp only at e3;rw[BU h0 hS f3 g.rs_ 0 λ_ h=>h,aj] at e3;cases hX:j5 g (aC F) g.rs_ with
 | none=>
  rw[hX] at e3;have e3:some ((⟨[]⟩:ay),false)=some R:=e3;cases e3;exact .inl ⟨e1,e2⟩
 | some p=>
  obtain⟨r,c⟩:=p;obtain⟨m1,m2,m3⟩:=BI hX;have hc:=mb m2;obtain⟨ts,hts⟩:=Ep hS m1 f3 (.rfl' _) f4 hc;have htr:dZ g F (dm (aC F)+1) (fX r c)=some (.node r.Name ts):=by
   rw[dZ];show (fc (dZ g F (dm (aC F))) g F r.rt_ (iL c)).bind _=_;rw[hts];rfl
  rw[hX] at e3;have e3:(jH g F (fX r c)).bind (λ(y5,y6)=>some (y5,y6))=some R:=e3;rw[KD hS f3 f4 (f:=fX r c) m1 (DT c) htr,aj] at e3;by_cases hz:(Tr.node r.Name ts).sz<=16;rw[ao hz] at e3;cases e3;exact .inr ⟨r,c,ts,rfl,hts,hz,e1,e2⟩;rw[an hz] at e3;cases e3;exact .inl ⟨e1,e2⟩
theorem Vg (l:List Int):pr l l=some true:=by
 unfold pr;rw[ao rfl];have key:∀ (xs:List Int) (k:Nat),(∀ (j:Nat) x,xs[j]?=some x->l[k+j]?=some x)->findL (FV l) k xs ()=some (.inl ()):=by
  intro xs
  induction xs with
  | nil=>intro k _;rfl
  | cons x xs ih=>
   intro k hx;have h:=hx 0 x rfl;rw[Cxz] at h;rw[findL];unfold FV;rw[h,aj,ao rfl,aj];exact ih (k+1) λj y hj=>by rw[show k+1+j=k+(j+1) by omega];exact hx (j+1) y (by simpa using hj)
 rw[key l 0 λj x hj=>by rw[Adz];exact hj];rfl
theorem K7 (t:ay):rM t t=some true:=by
 unfold rM xz;rw[ao rfl];have key:∀ (xs:List Node) (k:Nat),(∀ (j:Nat) x,xs[j]?=some x->t.ns_[k+j]?=some x)->findL (Bz t true) k xs ()=some (.inl ()):=by
  intro xs
  induction xs with
  | nil=>intro k _;rfl
  | cons x xs ih=>
   intro k hx;have h:=hx 0 x rfl;rw[Cxz] at h;rw[findL];unfold Bz;rw[h,aj];simp only[if_true,decide_true,Bool.not_true,aj,Bool.false_eq_true,if_false,Vg];exact ih (k+1) λj y hj=>by rw[show k+1+j=k+(j+1) by omega];exact hx (j+1) y (by simpa using hj)
 rw[key t.ns_ 0 λj x hj=>by rw[Adz];exact hj];rfl
theorem UK {g:al}(h0:Sz.szd g<=1048576)(hg:nq g=true){F:List (List aw)}(hF:kO g=some F):om g=some (g.rs_.any (iK g (aC F))):=by
 obtain⟨b,U,K⟩:=Zm h0;have hS:=uf hg;obtain⟨F',k1,k2,k3⟩:=LI h0 hS;rw[hF] at k1;cases k1;obtain⟨o,h4⟩:=Kx h0 hS k3;rw[U,← K];unfold B0;rw[tq h0,aj,hg,ao rfl,hF,aj,h4];rfl
theorem Yi (a:List UInt8):xZ a=some true:=by
 unfold xZ Ar;rw[aj];by_cases Y:1048576<(a.length:Int);rw[ao (by simpa using Y)];rw[an (by simpa using Y)];have Y:a.length<=1048576:=by omega
 obtain⟨g,e,hg⟩:=Vh Y;have hG:=Qd hg;have hd:vL a=some g:=by unfold vL;rw[e];rfl
 rw[hd,aj];have no:∀ {t:ay×Bool},t=(⟨[]⟩,false)->l4 g=some t->kZ g=some t->(kZ g).bind (λ(y3,y4)=>(l4 g).bind λ(y5,y6)=>if y4=y6 then (rM y3 y5).bind λy7=>if y7=true then if y4=true then (om g).bind λy8=>if y8=true then (jM g y3 0).bind λy9=>(kc g y3 y9).bind λy10=>if y10=true then (rL g y3).bind λy11=>some (decide (0<(y11.length:Int))) else some false else some false else some (decide ((y3.ns_.length:Int)=0)) else some false else some false)=some true:=by
  intro t ht U K;subst ht;rw[K,aj];dsimp only;rw[U,aj];dsimp only;rw[ao rfl,K7,aj,ao rfl,an Fpz];rfl
 cases hgb:nq g with
 | false=>
  refine no rfl ?_ ?_;unfold l4;rw[EZ hG,aj,hgb];rfl;unfold kZ;rw[tq hG,aj,hgb];rfl
 | true=>
  have hS:=uf hgb;obtain⟨F,f1,f3,f4,f5,hc⟩:=WG hG hgb;rcases hc with ⟨U,K⟩|⟨r,c,ts,hX,hts,hz,U,K⟩
  exact no rfl U K;obtain⟨m1,m2,m3⟩:=BI hX;obtain⟨l,w1,w2,w3,w4⟩:=Vi hG hS f3 f4 f5 m1 (mb m2) m3 hts hz;have hcirc:om g=some true:=by
   rw[UK hG hgb f1];congr 1;rw[List.any_eq_true];exact⟨r,m1,List.any_eq_true.2 ⟨c,m2,m3⟩⟩
  rw[K,aj];dsimp only;rw[U,aj];dsimp only;rw[ao rfl,K7,aj,ao rfl,ao rfl,hcirc,aj,ao rfl,w1,aj,w2,aj,ao rfl,w3,aj];exact congrArg some (decide_eq_true (by omega))
end Go.Proofs.YtodhafdaelcnlaaGreat
