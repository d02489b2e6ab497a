/- What those partial functions come to: plain lemmas on data; each bears its conditions in its statement. -/
import Derived.Test.YtodhafdaelcnlaaGreatMath10
set_option linter.unusedVariables false
set_option linter.unusedSimpArgs false
set_option linter.ambiguousOpen false
set_option linter.unusedSectionVars false
set_option linter.unnecessarySimpa false
set_option maxRecDepth 100000
set_option maxHeartbeats 4000000
open Nat renaming le_trans->Bgz,zero_add->Adz,zero_le->Aez,add_zero->Cxz,lt_trichotomy->Gaz
open List renaming getElem?_eq_getElem->Cmz,mem_of_getElem?->Bvz,getElem?_of_mem->Ekz,length_append->Axz,length_singleton->Coz,find?_eq_none->Fuz,mem_of_find?_eq_some->Ebz,getD_eq_getElem?_getD->Cwz,getElem?_cons_succ->Apz,take_zero->Fdz,take_succ_cons->Bhz
open Bool renaming false_eq_true->Dzz
namespace Go.Proofs.YtodhafdaelcnlaaGreat
open Go Go.E
section
variable {g:al}{N:List Node}{tb:List (List Int)}
def iC (g:al)(N:List Node)(tb:List (List Int))(u:Nat)(r:ae)(a b:Nat):Prop:=∃ oa ob ya yb,(br g r)[a]?=some oa/\(br g r)[b]?=some ob/\dD N u oa=some ya/\dD N u ob=some yb/\xi g N tb yb ya
theorem iC.trans {u:Nat}{r:ae}{a b c:Nat}(h:iC g N tb u r a b)(k:iC g N tb u r b c):iC g N tb u r a c:=by
 obtain⟨oa,ob,ya,yb,U,K,h3,h4,h5⟩:=h;obtain⟨ob',oc,yb',yc,k1,k2,k3,k4,k5⟩:=k;rw[K] at k1;cases k1;rw[h4] at k3;cases k3;exact⟨oa,oc,ya,yc,U,k2,h3,k4,k5.trans h5⟩
def rk (g:al)(N:List Node)(tb:List (List Int))(c:Nat)(s:ar)(own:au):Prop:=∀ p q:Nat,Rl own.Rows p q->∃ ap aq y,(bJ g s)[p]?=some ap/\(bJ g s)[q]?=some aq/\N[c]?=some y/\xi g N tb ⟨y.Id,aq.Name⟩ ⟨y.Id,ap.Name⟩
theorem XH {r:ae}{o u:Oc}(h:u∈attrs (bI r o).1):(bI r o).2=true:=by
 unfold bI at h ⊢;cases hf:r.es_.find? (λq=>decide (q.At=o)) with
 | none=>
  rw[hf] at h;have h:u∈attrs nL:=h;have hz:(gp nL).length<=0:=by decide
  rw[List.eq_nil_of_length_eq_zero (Nat.le_zero.1 (Bgz MD hz))] at h;exact nomatch h
 | some q=>rfl
theorem TS (h0:Sz.szd g<=1048576)(hS:Shape g)(h:eW g N)(hT:po g N tb){u:Nat}{x:Node}{r:ae}(hu:N[u]?=some x)(Z:r∈g.rs_)(e:x.ae=r.Name){L:List au}(hL:kl g r L)
  (hk:∀ (j:Nat) (own:au) (n:ar) (c:Nat),L[j]?=some own->r.rt_[j]?=some n->x.cn_[j]?=some (c:Int)->rk g N tb c n own):∀ a b:Nat,Rl (eP g r L).Rows a b->iC g N tb u r a b:=by
 intro a b hab;unfold eP at hab;by_cases h16:16<(br g r).length;rw[ao h16] at hab;exact absurd hab (by unfold Rl;simp);rw[an h16] at hab;obtain⟨lv,ln,lp⟩:=FH h0 (Bgz (ib Z) h0) (r:=r) (by omega);have hcv:∀ (l:List au) (k:Nat) (o:au),aI o->aI (dq g r k l o):=by
  intro l
  induction l with
  | nil=>intro k o ho;exact ho
  | cons y l ih=>intro k o ho;rw[dq];exact ih (k+1) _ (sd _ 0 o ho)
 refine Wi (Q:=iC g N tb u r) (λi k j=>iC.trans) (hcv L 0 _ lv) (λi j hij=>?_) a b hab;rcases L8 L 0 _ lv i j hij with hij|⟨j',p,q,own,c1,c2,c3,c4⟩
 obtain⟨o',U,o,K,h3⟩:=(lp i j).1 hij;obtain⟨y',y,k1,k2,_,_,k5⟩:=Qf h0 hS h hT hu Z e (XH K) K;exact⟨o,o',y,y',IS h3,U,k2,k1,k5⟩;rw[Adz] at c3 c4;have hj:=(List.getElem?_eq_some_iff.1 c1).1;rw[hL.1] at hj;obtain⟨i1,ap,e1,p1,o1⟩:=AY (k:=j'+1) (by omega) c3;obtain⟨i2,aq,e2,p2,o2⟩:=AY (k:=j'+1) (by omega) c4;have hsym:cn r ((j'+1:Nat):Int)=r.rt_[j']:=oA (Cmz hj);rw[hsym] at p1 p2;have f1:i=i1:=by omega
 have f2:j=i2:=by omega
 subst f1;subst f2;obtain⟨x',r0,hx,hr0,e0,hc,hkk⟩:=h.ok u (List.getElem?_eq_some_iff.1 hu).1;rw[hu] at hx;cases hx;have:r0=r:=by rw[← fP hS hr0,← fP hS Z,← e0,← e]
 subst this;obtain⟨c,y,r',d1,d2,d3,d4,d5,d6,d7,d8⟩:=hkk j' r0.rt_[j'] (Cmz hj);have hR:Rl own.Rows p q:=(wP (hL.2 j' own c1).1 p q).1 c2;obtain⟨ap',aq',y',g1,g2,g3,g4⟩:=hk j' own r0.rt_[j'] c c1 (Cmz hj) d1 p q hR;rw[p1] at g1;cases g1;rw[p2] at g2;cases g2;rw[d3] at g3;cases g3;have hatk:∀ (b:aG),b∈bJ g r0.rt_[j']->dD N u ⟨((j'+1:Nat):Int),b.Name⟩=some ⟨y.Id,b.Name⟩:=λb Y=>by
  unfold bJ at Y;obtain⟨v,yn,w1,w2,w3,w4⟩:=Ea h hS hu Z e (o:=⟨((j'+1:Nat):Int),b.Name⟩) (a:=b) (by dsimp only;omega) (by dsimp only;omega) (by rw[hsym];exact (List.mem_filter.1 Y).1) rfl;rcases w4 with ⟨w4,_⟩|⟨_,_,_,w4⟩
  dsimp only at w4;omega;dsimp only at w4;rw[show (((j'+1:Nat):Int)-1).toNat=j' by omega,d1] at w4;have:c=v:=by injection w4 with w4;omega
  subst this;rw[d3] at w1;cases w1;exact w3
 exact⟨_,_,_,_,o1,o2,hatk ap (Bvz p1),hatk aq (Bvz p2),g4⟩
theorem Qe (h0:Sz.szd g<=1048576)(hS:Shape g){r:ae}(Z:r∈g.rs_){c:au}(hc:aI c){a b:Nat}(h:Rl (cw g r c).Rows a b):Rl c.Rows a b/\a<(bJ g r.Left).length/\b<(bJ g r.Left).length:=by
 have hpl:(bJ g r.Left).length<=16:=by have:=hS.plain r.Left;omega
 obtain⟨s,e1,hv,hN,hp⟩:=Tn (gJ h0) (r:=r) hpl c;have hs:cw g r c=s:=by
  have:=(sR (gJ h0) (iv (Bgz (ib Z) h0)) (r:=r) c).1;rw[e1] at this;exact (Option.some.inj this).symm
 rw[hs] at h;have hok:=(l6 hv).1;have U:=qT hok h;have K:=HP hok h;refine⟨(wP hc a b).1 (hp a b h),by omega,by omega⟩
theorem nJ {r:ae}{a:Nat}(ha:a<(bJ g r.Left).length):∃ at' : aG,(bJ g r.Left)[a]?=some at'/\(br g r)[a]?=some ⟨0,at'.Name⟩:=by
 have hs:cn r ((0:Nat):Int)=r.Left:=ao rfl;have hp:=DT (g:=g) (r:=r) (m:=a) (by rw[hs];exact ha);obtain⟨i,at',e1,U,K⟩:=AY (k:=0) (Aez _) hp;rw[hs] at U;have:a=i:=by omega
 subst this;exact⟨at',U,K⟩
theorem Ni (h0:Sz.szd g<=1048576){r:ae}(Z:r∈g.rs_)(L:List au):aI (eP g r L):=by
 unfold eP;by_cases h16:16<(br g r).length;rw[ao h16];exact⟨by decide,by decide,rfl,λx hx=>nomatch hx⟩;rw[an h16];obtain⟨lv,_,_⟩:=FH h0 (Bgz (ib Z) h0) (r:=r) (by omega);have hcv:∀ (l:List au) (k:Nat) (o:au),aI o->aI (dq g r k l o):=by
  intro l
  induction l with
  | nil=>intro k o ho;exact ho
  | cons y l ih=>intro k o ho;rw[dq];exact ih (k+1) _ (sd _ 0 o ho)
 exact B7 (hcv L 0 _ lv)
theorem El {rec:aB->Option Tr}{F:List (List aB)}:∀ (ns:List ar) (ds:List Int) (ks:List Tr) (L:List au),fV rec g F ns ds=some ks->iV g F ns ds=some L->L.length=ns.length/\∀ (j:Nat) (own:au) (n:ar),L[j]?=some own->ns[j]?=some n->∃ f t,ks[j]?=some t/\rec f=some t/\f.sy_=own/\∃ d,cP g F n d=some f
 | [],[],ks,L,h,k=>by cases h;cases k;exact⟨rfl,λj own n hj=>by simp at hj⟩
 | n::ns,d::ds,ks,L,h,k=>by
  rw[fV] at h;rw[iV] at k;obtain⟨f,e1,h⟩:=Option.bind_eq_some_iff.1 h;obtain⟨t,e2,h⟩:=Option.bind_eq_some_iff.1 h;obtain⟨us,e3,h⟩:=Option.bind_eq_some_iff.1 h;cases h;obtain⟨f',k1,k⟩:=Option.bind_eq_some_iff.1 k;obtain⟨L',k3,k⟩:=Option.bind_eq_some_iff.1 k;cases k;rw[e1] at k1;cases k1;obtain⟨i1,i2⟩:=El ns ds us L' e3 k3;refine⟨by simp[i1],λj own m hj hm=>?_⟩;cases j with
  | zero=>simp at hj hm;subst hj;subst hm;exact⟨f,t,rfl,e2,rfl,d,e1⟩
  | succ j=>exact i2 j own m (by simpa using hj) (by simpa using hm)
 | [],_::_,ks,L,h,_=>by cases h
 | _::_,[],ks,L,h,_=>by cases h
theorem UI (h0:Sz.szd g<=1048576)(hS:Shape g){F:List (List aB)}(hA:aM g (aN F)){r:ae}(Z:r∈g.rs_){rec:aB->Option Tr}{ds:List Int}{ks:List Tr}{L:List au}(h:fV rec g F r.rt_ ds=some ks)(k:iV g F r.rt_ ds=some L):kl g r L:=by
 obtain⟨U,K⟩:=El _ _ _ _ h k;refine⟨U,λj own hj=>?_⟩;have hlt:=(List.getElem?_eq_some_iff.1 hj).1;rw[U] at hlt;obtain⟨f,t,_,_,e,d,hd⟩:=K j own r.rt_[j] hj (Cmz hlt);obtain⟨l,hl,_,_,hfl⟩:=qQ hd;obtain⟨_,_,h3,_,h5⟩:=hA.at_ (hS.right Z (List.getElem_mem hlt));rw[kt,hl] at h3;have h3:l.map aB.sy_=dK g (aN F) r.rt_[j]:=Option.some.inj h3;have:=h5 own (by rw[← h3,← e];exact List.mem_map.2 ⟨f,hfl,rfl⟩);rw[oA (Cmz hlt)];exact⟨this.1,this.2.1⟩
theorem Wh (h0:Sz.szd g<=1048576)(hS:Shape g)(h:eW g N)(hT:po g N tb){F:List (List aB)}(hA:aM g (aN F)){rec:aB->Option Tr}{r:ae}(Z:r∈g.rs_){ds:List Int}{ks:List Tr}{L:List au}(hk:fV rec g F r.rt_ ds=some ks)(hR:iV g F r.rt_ ds=some L)
  (ih:∀ f t,(∃ l∈F,f∈l)->rec f=some t->∀ i p q s,gm g N t i p q s->rk g N tb i s f.sy_) {i:Nat} {p q:Int} {s:ar} (ht:gm g N (.node r.Name ks) i p q s):∃ x,N[i]?=some x/\x.ae=r.Name/\s=r.Left/\∀ a b:Nat,Rl (eP g r L).Rows a b->iC g N tb i r a b:=by
 obtain⟨x,r0,hx,hr0,e1,e2,e3,e4,e5,e6,e7,e8,en,hks⟩:=ht;have:r0=r:=by rw[← fP hS hr0,← fP hS Z,en]
 subst this;refine⟨x,hx,e1,e2.symm,TS h0 hS h hT hx Z e1 (UI h0 hS hA Z hk hR) λj own n c hj hn hc=>?_⟩;obtain⟨_,K⟩:=El _ _ _ _ hk hR;obtain⟨f,t,q1,q2,q3,d,hd⟩:=K j own n hj hn;obtain⟨l,hl,_,hlF,hfl⟩:=qQ hd;have hlt:=(List.getElem?_eq_some_iff.1 q1).1;have hT':=dm.get hks q1 hn;have:=ih f t ⟨l,hlF,hfl⟩ q2 _ _ _ _ hT';rw[q3] at this;rw[e5,kR ks (i+1) j hlt] at hc;have:c=i+1+Tr.szs (ks.take j):=by injection hc with hc;omega
 rw[this];assumption
theorem Ko (h0:Sz.szd g<=1048576)(hS:Shape g)(h:eW g N)(hT:po g N tb){F:List (List aB)}(hA:aM g (aN F))(hD:fM g F)(hD2:dG g F):∀ (n:Nat) (f:aB) (t:Tr),(∃ l∈F,f∈l)->fi g F n f=some t->∀ i p q s,gm g N t i p q s->rk g N tb i s f.sy_
 | 0,f,t,_,ht=>by cases ht
 | n+1,f,t,⟨l,hl,hf⟩,ht=>by
  intro i p q s hi;rw[fi] at ht;obtain⟨ks,e1,ht⟩:=Option.bind_eq_some_iff.1 ht;cases ht;have Z:=(hD l hl f hf).1;obtain⟨k,hk⟩:=Ekz hl;obtain⟨_,L,hR,hsum⟩:=hD2 k l hk f hf;obtain⟨x,hx,ex,es,hc⟩:=Wh h0 hS h hT hA Z e1 hR (λf' t' U K=>Ko h0 hS h hT hA hD hD2 n f' t' U K) hi;intro a b hab;rw[hsum] at hab;obtain⟨q1,q2,q3⟩:=Qe h0 hS Z (Ni h0 Z L) hab;obtain⟨oa,ob,ya,yb,d1,d2,d3,d4,d5⟩:=hc a b q1;obtain⟨aa,w1,w2⟩:=nJ q2;obtain⟨ab,w3,w4⟩:=nJ q3;rw[w2] at d1;cases d1;rw[w4] at d2;cases d2;have hat:∀ b:aG,dD N i ⟨0,b.Name⟩=some ⟨x.Id,b.Name⟩:=λb=>by
   unfold dD;rw[ao ⟨by dsimp only;omega,by dsimp only;omega⟩,an (by dsimp only;omega),gG hx]
  rw[hat] at d3 d4;cases d3;cases d4;subst es;exact⟨aa,ab,x,w1,w3,hx,d5⟩
end
theorem L6 {own:au}{a:Nat}{x:Int}:∀ (ys:List Int) (i:Nat) (o:au),aI o->∀ (q s t:Nat) (y:Int),ys[q]?=some y->bG own (a:Int) ((i+q:Nat):Int)->eE o x->eE o y->(s:Int)=x->(t:Int)=y->Rl (fO own a x i ys o).Rows s t
 | [],i,o,hv,q,s,t,y,h,_,_,_,_,_=>by simp at h
 | z::ys,i,o,hv,q,s,t,y,h,hp,n1,n2,e1,e2=>by
  rw[fO];have hv' : aI (if bG own (a:Int) (i:Int) then ca o x z else o):=by
   split;exact nj hv x z;exact hv
  have hN:(if bG own (a:Int) (i:Int) then ca o x z else o).N=o.N:=by
   split;exact (lW _ _ _).2;rfl
  cases q with
  | zero=>
   simp at h;subst h;rw[Cxz] at hp;refine (xT own a x ys (i+1) _ hv').2.2.2 s t ?_;rw[ao hp];exact (pv hv x z s t).2 (.inr ⟨n1,n2,e1,e2⟩)
  | succ q=>exact L6 ys (i+1) _ hv' q s t y (by simpa using h) (by rwa[show i+1+q=i+(q+1) by omega]) (lR hN.symm _ n1) (lR hN.symm _ n2) e1 e2
theorem Nh {own:au}{at' : List Int}:∀ (xs:List Int) (a:Nat) (o:au),aI o->∀ (p q s t:Nat) (x y:Int),xs[p]?=some x->at'[q]?=some y->bG own ((a+p:Nat):Int) ((q:Nat):Int)->eE o x->eE o y->(s:Int)=x->(t:Int)=y->Rl (ia own at' a xs o).Rows s t
 | [],a,o,hv,p,q,s,t,x,y,h,_,_,_,_,_,_=>by simp at h
 | z::xs,a,o,hv,p,q,s,t,x,y,h,K,hp,n1,n2,e1,e2=>by
  rw[ia];have hv':=yv (own:=own) (a:=a) (x:=z) at' 0 o hv;have hN:=(xU own a z at' 0 o).2;cases p with
  | zero=>
   simp at h;subst h;refine (B5 own at' xs (a+1) _ hv').2.2.2 s t ?_;exact L6 at' 0 o hv q s t y K (by rw[Adz];rwa[Cxz] at hp) n1 n2 e1 e2
  | succ p=>exact Nh xs (a+1) _ hv' p q s t x y (by simpa using h) K (by rwa[show a+1+p=a+(p+1) by omega]) (lR hN.symm _ n1) (lR hN.symm _ n2) e1 e2
theorem KQ {g:al}{r:ae}:∀ (l:List au) (k:Nat) (o:au),aI o->∀ (j p q s t:Nat) (own:au),l[j]?=some own->bG own ((p:Nat):Int) ((q:Nat):Int)->(dc g r ((k+j+1:Nat):Int))[p]?=some ((s:Nat):Int)->(dc g r ((k+j+1:Nat):Int))[q]?=some ((t:Nat):Int)->eE o (s:Int)->eE o (t:Int)->Rl (dq g r k l o).Rows s t
 | [],k,o,hv,j,p,q,s,t,own,h,_,_,_,_,_=>by simp at h
 | z::l,k,o,hv,j,p,q,s,t,own,h,hp,U,K,n1,n2=>by
  rw[dq];have hv' : aI (jI g r o ((k+1:Nat):Int) z):=sd _ 0 o hv;have hN:(jI g r o ((k+1:Nat):Int) z).N=o.N:=(BL z _ _ 0 o).2;cases j with
  | zero=>
   simp at h;subst h;refine (FB g r l (k+1) _ hv').2.2.2 s t ?_;rw[Cxz] at U K;exact Nh _ 0 o hv p q s t _ _ U K (by rw[Adz];exact hp) n1 n2 rfl rfl
  | succ j=>exact KQ l (k+1) _ hv' j p q s t own (by simpa using h) hp (by rwa[show k+1+j+1=k+(j+1)+1 by omega]) (by rwa[show k+1+j+1=k+(j+1)+1 by omega]) (lR hN.symm _ n1) (lR hN.symm _ n2)
theorem NL {g:al}{r:ae}:∀ (l:List au) (k:Nat) (o:au),aI o->aI (dq g r k l o)
 | [],k,o,h=>h
 | z::l,k,o,h=>by rw[dq];exact NL l (k+1) _ (sd _ 0 o h)
theorem Yg {x:au}(hv:aI x){i k j:Nat}(U:Rl (fe x).Rows i k)(K:Rl (fe x).Rows k j):Rl (fe x).Rows i j:=by
 have hok:=(l6 hv).1;have hk:=qT (l6 (B7 hv)).1 K;rw[(Gd x).2] at hk;unfold fe at U K ⊢;rw[ao hv] at U K ⊢;exact VN hok _ k i j hk (Nat.le_refl _) U K
theorem D9 {g:al}{r:ae}{k p:Nat}(hk:k<=r.rt_.length){a:aG}(ha:(bJ g (cn r (k:Int)))[p]?=some a):∃ i:Nat,(dc g r (k:Int))[p]?=some (i:Int)/\(br g r)[i]?=some ⟨(k:Int),a.Name⟩:=by
 have hlt:=(List.getElem?_eq_some_iff.1 ha).1;have hp:p<(dc g r (k:Int)).length:=by rw[JY g hk];exact hlt
 obtain⟨i,a',e1,U,K⟩:=AY hk (Cmz hp);rw[ha] at U;cases U;exact⟨i,by rw[Cmz hp,e1],K⟩
section
variable {g:al}{N:List Node}
def rj (g:al)(N:List Node)(w:Nat)(x y:aZ):Prop:=∃ (xn:Node) (r:ae) (o' o:Oc),N[w]?=some xn/\r∈g.rs_/\xn.ae=r.Name/\(bI r o').2=true/\o∈attrs (bI r o').1/\dD N w o'=some x/\dD N w o=some y
inductive cS (g:al) (N:List Node) (lo hi:Nat):aZ->aZ->Prop
 | one {w:Nat} {x y:aZ} (U:lo<=w) (K:w<hi) (h:rj g N w x y):cS g N lo hi x y
 | snoc {w:Nat} {x y z:aZ} (h:cS g N lo hi x y) (U:lo<=w) (K:w<hi) (h3:rj g N w y z):cS g N lo hi x z
theorem cS.trans {lo hi:Nat}{x y z:aZ}(h:cS g N lo hi x y)(k:cS g N lo hi y z):cS g N lo hi x z:=by
 induction k with
 | one U K h3=>exact .snoc h U K h3
 | snoc _ U K h3 ih=>exact .snoc (ih h) U K h3
def wo (N:List Node)(v:Nat):Prop:=∃ (x px:Node) (p j:Nat),N[v]?=some x/\x.Parent=(p:Int)/\N[p]?=some px/\px.cn_[j]?=some (v:Int)/\x.Place=((j+1:Nat):Int)
mutual
theorem wh {g:al}{N:List Node}:∀ (T:Tr) (i:Nat) (p q:Int) (s:ar),gm g N T i p q s->∀ v,i<v->v<i+T.sz->wo N v
 | .node nm ks,i,p,q,s,h,v,U,K=>by
  obtain⟨x,r,hx,Z,e1,e2,e3,e4,e5,e6,e7,e8,en,hk⟩:=h;rw[Tr.sz] at K;exact HT ks [] i x (i+1) r.rt_ hx (by rw[List.length_nil,e5];rfl) (by rw[List.length_nil];exact hk) v (by omega) (by omega)
theorem HT {g:al}{N:List Node}:∀ (ks pre:List Tr) (i:Nat) (x:Node) (b:Nat) (ss:List ar),N[i]?=some x->x.cn_.drop pre.length=cz b ks->dm g N ks (i:Int) (pre.length+1) b ss->∀ v,b<=v->v<b+Tr.szs ks->wo N v
 | [],pre,i,x,b,ss,hx,hc,h,v,U,K=>by rw[Tr.szs] at K;omega
 | t::ts,pre,i,x,b,ss,hx,hc,h,v,U,K=>by
  obtain⟨s0,ss',rfl,h3,h4⟩:=h;rw[Tr.szs] at K;by_cases hv:v<b+t.sz;by_cases Y:v=b;subst Y;obtain⟨y,r',hy,hr',f1,f2,f3,f4⟩:=h3.head;have hx2:x.cn_[pre.length]?=some (v:Int):=by
   have:=congrArg (λl:List Int=>l[0]?) hc;simp only[List.getElem?_drop,Cxz] at this;rw[this,cz];rfl
  exact⟨y,x,i,pre.length,hy,f3,hx,hx2,f4⟩;exact wh t b (i:Int) ((pre.length+1:Nat):Int) s0 h3 v (by omega) hv;exact HT ts (pre++[t]) i x (b+t.sz) ss' hx (by
   rw[Axz,Coz,← List.drop_drop,hc,cz];rfl) (by rw[Axz,Coz];exact h4) v (by omega) (by omega)
end
theorem E6 {u:Nat}{x:Node}(hu:N[u]?=some x)(nm:ar):dD N u ⟨0,nm⟩=some ⟨x.Id,nm⟩:=by
 unfold dD;rw[ao ⟨by dsimp only;omega,by dsimp only;omega⟩,an (by dsimp only;omega),gG hu]
theorem TR (h:eW g N)(hp:∀ v,0<v->v<N.length->wo N v)(hr0:∀ x,N[0]?=some x->x.Parent = -1){v:Nat}{x:Node}(hv:N[v]?=some x){a:aG}{y:aZ}(hy:y∈gb g N v a):∃ w,w<N.length/\rj g N w ⟨x.Id,a.Name⟩ y:=by
 unfold gb at hy;cases hd:mE g N v a with
 | none=>rw[hd] at hy;exact nomatch hy
 | some p=>
  obtain⟨u,e⟩:=p;rw[hd] at hy;obtain⟨o,ho,hat⟩:=List.mem_filterMap.1 hy;have hlt:=(List.getElem?_eq_some_iff.1 hv).1;have lk:∀ (w:Nat) (pos:Int),w<N.length->mr g N w pos a.Name=some (u,e)->dD N w ⟨pos,a.Name⟩=some ⟨x.Id,a.Name⟩->∃ w,w<N.length/\rj g N w ⟨x.Id,a.Name⟩ y:=λw pos hw hl hat2=>by
   obtain⟨xn,r,hx,Z,e1,_⟩:=h.ok w hw;unfold mr at hl;by_cases hc:(bI (dP g (N.getD w zN).ae) ⟨pos,a.Name⟩).2=true;rw[ao hc] at hl;injection hl with hl;injection hl with U K;subst U;refine⟨w,hw,xn,dP g (N.getD w zN).ae,⟨pos,a.Name⟩,o,hx,?_,?_,hc,by rw[K];exact ho,hat2,hat⟩;rw[gG hx,e1];unfold dP;cases hf:g.rs_.find? (λq=>decide (q.Name=r.Name)) with
   | none=>rw[Fuz] at hf;exact absurd (by simp) (hf r Z)
   | some q=>exact Ebz hf
   rw[gG hx,e1];unfold dP;cases hf:g.rs_.find? (λq=>decide (q.Name=r.Name)) with
   | none=>rw[Fuz] at hf;exact absurd (by simp) (hf r Z)
   | some q=>have:=List.find?_some hf;simp at this;exact this.symm
   rw[an hc] at hl;cases hl
  unfold mE at hd;rw[gG hv] at hd;by_cases m3:a.Mode=3;rw[ao m3] at hd;cases hd;rw[an m3] at hd;by_cases m1:a.Mode=1;rw[ao m1] at hd;by_cases hpr:0<=x.Parent/\x.Parent<=(N.length:Int)-1;rw[ao hpr] at hd;have hv0:0<v:=by
   rcases Nat.eq_zero_or_pos v with e0|e0;subst e0;have:=hr0 x hv;omega;exact e0
  obtain⟨x',px,p,j,q1,q2,q3,q4,q5⟩:=hp v hv0 hlt;rw[hv] at q1;cases q1;have hpl:=(List.getElem?_eq_some_iff.1 q3).1;have hjl:=(List.getElem?_eq_some_iff.1 q4).1;refine lk p x.Place hpl (by rw[q2,b7] at hd;exact hd) ?_;unfold dD;rw[gG q3];have hg:px.cn_.getD (x.Place-1).toNat 0=(v:Int):=by rw[q5,show (((j+1:Nat):Int)-1).toNat=j by omega,Cwz,q4];rfl
  rw[ao (by dsimp only;omega),ao (by dsimp only;omega)];dsimp only;rw[hg,ao (by omega),b7,gG hv];rw[an hpr] at hd;cases hd;rw[an m1] at hd;exact lk v 0 hlt hd (E6 hv _)
theorem TQ (h:eW g N)(hp:∀ v,0<v->v<N.length->wo N v)(hr0:∀ x,N[0]?=some x->x.Parent = -1){tb:List (List Int)}(hT:po g N tb){k j:Nat}(hd:Dp tb k j):∃ x y,(bw g N)[k]?=some x/\(bw g N)[j]?=some y/\cS g N 0 N.length x y:=by
 have edge:∀ {k j:Nat},Eg tb k j->∃ x y w,(bw g N)[k]?=some x/\(bw g N)[j]?=some y/\w<N.length/\rj g N w x y:=λ{k j} hE=>by
  obtain⟨row,Z,hj⟩:=hE;have hlt:=(List.getElem?_eq_some_iff.1 Z).1;rw[hT.len] at hlt;have hx:=Cmz hlt;obtain⟨v,xn,a,hv,ha,ex⟩:=sQ.1 (List.getElem_mem hlt);rw[ex] at hx;have hrow:=hT.row v xn a hv ha k hx;rw[Z] at hrow;cases hrow;obtain⟨y,hy,hix⟩:=List.mem_map.1 hj;obtain⟨w,hw,hE⟩:=TR h hp hr0 hv hy;have hm:y∈bw g N:=by
   unfold ej at hix;by_cases hm:y∈bw g N;exact hm;rw[an hm] at hix;omega
  have hidx:(bw g N).idxOf y=j:=by
   unfold ej at hix;rw[ao hm] at hix;omega
  refine⟨_,y,w,hx,?_,hw,hE⟩;rw[← hidx,Cmz (List.idxOf_lt_length_iff.2 hm),List.getElem_idxOf]
 induction hd with
 | one U=>
  obtain⟨x,y,w,a,b,c,d⟩:=edge U;exact⟨x,y,a,b,.one (Aez _) c d⟩
 | step U _ ih=>
  obtain⟨x,y,w,a,b,c,d⟩:=edge U;obtain⟨y',z,a',b',p⟩:=ih;rw[b] at a';cases a';exact⟨x,z,a,b',cS.trans (.one (Aez _) c d) p⟩
end
theorem JE {c:au}{k:Nat}{x:aG}:∀ (xs:List aG) (i:Nat) (s:List Int×Int),aI ⟨s.2,s.1⟩->k<16->∃ s',eachL (lj c k x) i xs s=some s'/\s'.2=s.2/\ew ⟨s.2,s.1⟩ ⟨s'.2,s'.1⟩/\∀ (j:Nat) (y:aG),xs[j]?=some y->x.Mode=1->y.Mode=2->bG c (k:Int) ((i+j:Nat):Int)->eE ⟨s.2,s.1⟩ (k:Int)->eE ⟨s.2,s.1⟩ ((i+j:Nat):Int)->Rl s'.1 k (i+j)
 | [],i,s,hv,hk=>⟨s,rfl,rfl,ew.refl hv,λj y h=>by simp at h⟩
 | y::xs,i,(t1,t2),hv,hk=>by
  have hl:t1.length<=1048576:=by have:=hv.2.1;have:=hv.2.2.1;dsimp only at *;omega
  have step:∃ s1:List Int×Int,lj c k x i y (t1,t2)=some s1/\aI ⟨s1.2,s1.1⟩/\s1.2=t2/\ew ⟨t2,t1⟩ ⟨s1.2,s1.1⟩/\(x.Mode=1->y.Mode=2->bG c (k:Int) (i:Int)->eE ⟨t2,t1⟩ (k:Int)->eE ⟨t2,t1⟩ (i:Int)->Rl s1.1 k i):=by
   unfold lj;dsimp only;rw[oB,qU (r:=⟨t2,t1⟩) hl];simp only[aj];have old:∀ P:Prop,(x.Mode=1->y.Mode=2->bG c (k:Int) (i:Int)->False)->∃ s1:List Int×Int,some (t1,t2)=some s1/\aI ⟨s1.2,s1.1⟩/\s1.2=t2/\ew ⟨t2,t1⟩ ⟨s1.2,s1.1⟩/\(x.Mode=1->y.Mode=2->bG c (k:Int) (i:Int)->eE ⟨t2,t1⟩ (k:Int)->eE ⟨t2,t1⟩ (i:Int)->Rl s1.1 k i):=λ_ h=>⟨_,rfl,hv,rfl,ew.refl hv,λa b d=>(h a b d).elim⟩
   by_cases p1:bG c (k:Int) (i:Int);by_cases m1:x.Mode=1;by_cases m2:y.Mode=2;simp only[m1,m2,p1,if_true,decide_true,aj];exact⟨_,rfl,nj hv _ _,(lW _ _ _).2,(ew.refl hv).add _ _,λ_ _ _ n1 n2=>(pv hv _ _ _ _).2 (.inr ⟨n1,n2,rfl,rfl⟩)⟩;simp only[m1,m2,if_true,if_false,decide_false,aj,Dzz];exact⟨_,rfl,hv,rfl,ew.refl hv,λ_ b=>b.elim⟩;simp only[m1,if_false,aj,Dzz];exact⟨_,rfl,hv,rfl,ew.refl hv,λa=>a.elim⟩;by_cases m1:x.Mode=1;by_cases m2:y.Mode=2;simp only[m1,m2,p1,if_true,if_false,decide_true,decide_false,aj,Dzz];exact⟨_,rfl,hv,rfl,ew.refl hv,λ_ _ d=>d.elim⟩;simp only[m1,m2,if_true,if_false,decide_false,aj,Dzz];exact⟨_,rfl,hv,rfl,ew.refl hv,λ_ b=>b.elim⟩;simp only[m1,if_false,aj,Dzz];exact⟨_,rfl,hv,rfl,ew.refl hv,λa=>a.elim⟩
  obtain⟨s1,e1,v1,n1,sb1,r1⟩:=step;obtain⟨s',e2,n2,sb2,r2⟩:=JE (c:=c) (k:=k) (x:=x) xs (i+1) s1 v1 hk;refine⟨s',by rw[eachL,e1,aj,e2],n2.trans n1,sb1.trans sb2,λj z hj m1 m2 hp a b=>?_⟩;cases j with
  | zero=>
   simp at hj;subst hj;exact sb2.2.2.2 k i (r1 m1 m2 hp a b)
  | succ j=>
   have:=r2 j z (by simpa using hj) m1 m2 (by rwa[show i+1+j=i+(j+1) by omega]) (lR (a:=⟨t2,t1⟩) (b:=⟨s1.2,s1.1⟩) n1.symm _ a) (lR (a:=⟨t2,t1⟩) (b:=⟨s1.2,s1.1⟩) n1.symm _ (by rwa[show i+1+j=i+(j+1) by omega]));rwa[show i+(j+1)=i+1+j by omega]
theorem JD {c:au}{L:List aG}:∀ (xs:List aG) (i:Nat) (s:List Int×Int),aI ⟨s.2,s.1⟩->i+xs.length<=16->∃ s',eachL (me c L) i xs s=some s'/\s'.2=s.2/\ew ⟨s.2,s.1⟩ ⟨s'.2,s'.1⟩/\∀ (k j:Nat) (x y:aG),xs[k]?=some x->L[j]?=some y->x.Mode=1->y.Mode=2->bG c ((i+k:Nat):Int) (j:Int)->eE ⟨s.2,s.1⟩ ((i+k:Nat):Int)->eE ⟨s.2,s.1⟩ (j:Int)->Rl s'.1 (i+k) j
 | [],i,s,hv,_=>⟨s,rfl,rfl,ew.refl hv,λk j x y h=>by simp at h⟩
 | x::xs,i,(t1,t2),hv,hi=>by
  simp only[bE] at hi;obtain⟨s1,e1,n1,sb1,r1⟩:=JE (c:=c) (k:=i) (x:=x) L 0 (t1,t2) hv (by omega);obtain⟨s',e2,n2,sb2,r2⟩:=JD (c:=c) (L:=L) xs (i+1) s1 sb1.2.1 (by omega);refine⟨s',?_,n2.trans n1,sb1.trans sb2,λk j x' y hk hj m1 m2 hp a b=>?_⟩;rw[eachL,show me c L i x (t1,t2)=some s1 by unfold me;dsimp only;rw[e1];rfl,aj,e2];cases k with
  | zero=>
   simp at hk;subst hk;have:=r1 j y hj m1 m2 (by rw[Adz];exact hp) a (by rw[Adz];exact b);rw[Adz] at this;exact sb2.2.2.2 i j this
  | succ k=>
   have:=r2 k j x' y (by simpa using hk) hj m1 m2 (by rwa[show i+1+k=i+(k+1) by omega]) (lR (a:=⟨t2,t1⟩) (b:=⟨s1.2,s1.1⟩) n1.symm _ (by rwa[show i+1+k=i+(k+1) by omega])) (lR (a:=⟨t2,t1⟩) (b:=⟨s1.2,s1.1⟩) n1.symm _ b);rwa[show i+(k+1)=i+1+k by omega]
theorem Qd {g:al}(h0:Sz.szd g<=1048576)(hS:Shape g){r:ae}(Z:r∈g.rs_){c:au}(hc:aI c){a b:Nat}{x y:aG}(ha:(bJ g r.Left)[a]?=some x)(Y:(bJ g r.Left)[b]?=some y)(m1:x.Mode=1)(m2:y.Mode=2)(h:Rl c.Rows a b):Rl (cw g r c).Rows a b:=by
 have hpl:(bJ g r.Left).length<=16:=by have:=hS.plain r.Left;omega
 have hla:=(List.getElem?_eq_some_iff.1 ha).1;have hlb:=(List.getElem?_eq_some_iff.1 Y).1;have hv:=yh (n:=((bJ g r.Left).length:Int)) (by omega) (by omega);obtain⟨s',e,n1,_,hr'⟩:=JD (c:=c) (L:=bJ g r.Left) (bJ g r.Left) 0 (List.replicate ((bJ g r.Left).length:Int).toNat 0,((bJ g r.Left).length:Int)) hv (by omega);have hs:cw g r c=⟨s'.2,s'.1⟩:=by
  have:=(sR (gJ h0) (iv (Bgz (ib Z) h0)) (r:=r) c).1;unfold jX at this;rw[tC (gJ h0),aj,tg (by omega) (by omega),aj] at this;dsimp only at this;rw[e,aj] at this;exact (Option.some.inj this).symm
 rw[hs];have:=hr' a b x y ha Y m1 m2 (by rw[Adz];exact (wP hc a b).2 h) (by rw[Adz];exact⟨by omega,by dsimp only;omega⟩) ⟨by omega,by dsimp only;omega⟩;rwa[Adz] at this
mutual
noncomputable def fX (g:al):Tr->au
 | .node nm ks=>cw g (dP g nm) (eP g (dP g nm) (eX g ks))
noncomputable def eX (g:al):List Tr->List au
 | []=>[]
 | t::ts=>fX g t::eX g ts
end
theorem L5 (g:al):∀ ks:List Tr,(eX g ks).length=ks.length
 | []=>rfl
 | t::ts=>by rw[eX,bE,bE,L5 g ts]
theorem FG (g:al):∀ (ks:List Tr) (j:Nat),(eX g ks)[j]?=(ks[j]?).map (fX g)
 | [],j=>by rw[eX];rfl
 | t::ts,0=>by rw[eX];rfl
 | t::ts,j+1=>by rw[eX,Apz,Apz,FG g ts]
theorem L4 {g:al}{F:List (List aB)}{rec:aB->Option Tr}(ih:∀ f t,(∃ l∈F,f∈l)->rec f=some t->f.sy_=fX g t):∀ (ns:List ar) (ds:List Int) (ks:List Tr) (L:List au),fV rec g F ns ds=some ks->iV g F ns ds=some L->L=eX g ks
 | [],[],ks,L,h,k=>by cases h;cases k;rfl
 | n::ns,d::ds,ks,L,h,k=>by
  rw[fV] at h;rw[iV] at k;obtain⟨f,e1,h⟩:=Option.bind_eq_some_iff.1 h;obtain⟨t,e2,h⟩:=Option.bind_eq_some_iff.1 h;obtain⟨us,e3,h⟩:=Option.bind_eq_some_iff.1 h;cases h;obtain⟨f',k1,k⟩:=Option.bind_eq_some_iff.1 k;obtain⟨L',k3,k⟩:=Option.bind_eq_some_iff.1 k;cases k;rw[e1] at k1;cases k1;obtain⟨l,_,_,hl,hf⟩:=qQ e1;rw[eX,L4 ih ns ds us L' e3 k3,ih f t ⟨l,hl,hf⟩ e2]
 | [],_::_,ks,L,h,_=>by cases h
 | _::_,[],ks,L,h,_=>by cases h
theorem Gi {g:al}(hS:Shape g){F:List (List aB)}(hD:fM g F)(hD2:dG g F):∀ (n:Nat) (f:aB) (t:Tr),(∃ l∈F,f∈l)->fi g F n f=some t->f.sy_=fX g t
 | 0,f,t,_,h=>by cases h
 | n+1,f,t,⟨l,hl,hf⟩,h=>by
  rw[fi] at h;obtain⟨ks,e1,h⟩:=Option.bind_eq_some_iff.1 h;cases h;obtain⟨k,hk⟩:=Ekz hl;obtain⟨_,L,hR,hs⟩:=hD2 k l hk f hf;rw[hs,fX,fP hS (hD l hl f hf).1,L4 (λf t U K=>Gi hS hD hD2 n f t U K) _ _ _ _ e1 hR]
theorem Shape.occ16' {g:al}(h:Shape g){r:ae}(Z:r∈g.rs_):(br g r).length<=16:=by
 have h3:=gu h Z;have key:∀ (m s:Nat),((List.range' s m).flatMap (b9 g r)).length<=4*m:=by
  intro m
  induction m with
  | zero=>intro s;exact Aez _
  | succ m ih=>
   intro s;rw[List.range'_succ,List.flatMap_cons,Axz];have U:=ih (s+1);have K:(b9 g r s).length<=4:=by unfold b9;rw[bh];exact h.plain _
   omega
 have:=key (r.rt_.length+1) 0;unfold br;omega
section
variable {g:al}{N:List Node}
mutual
theorem wj:∀ (T:Tr) (i:Nat) (p q:Int) (s:ar),gm g N T i p q s->∀ w x,i<=w->w<i+T.sz->N[w]?=some x->∀ c:Nat,(c:Int)∈x.cn_->w<c/\c<i+T.sz
 | .node nm ks,i,p,q,s,h,w,x,U,K,hx,c,hc=>by
  obtain⟨x',r,hx',Z,e1,e2,e3,e4,e5,e6,e7,e8,en,hk⟩:=h;rw[Tr.sz] at K ⊢;by_cases hw:w=i;subst hw;rw[hx] at hx';cases hx';rw[e5] at hc;obtain⟨j,hj⟩:=Ekz hc;have hjl:j<ks.length:=by have:=(List.getElem?_eq_some_iff.1 hj).1;rwa[tn] at this
  rw[kR ks (w+1) j hjl] at hj;have hj:c=w+1+Tr.szs (ks.take j):=by injection hj with hj;omega
  have:=IN ks j hjl;omega;have:=HS ks (i:Int) 1 (i+1) r.rt_ hk w x (by omega) (by omega) hx c hc;omega
theorem HS:∀ (ks:List Tr) (p:Int) (k b:Nat) (ss:List ar),dm g N ks p k b ss->∀ w x,b<=w->w<b+Tr.szs ks->N[w]?=some x->∀ c:Nat,(c:Int)∈x.cn_->w<c/\c<b+Tr.szs ks
 | [],p,k,b,ss,h,w,x,U,K,hx,c,hc=>by rw[Tr.szs] at K;omega
 | t::ts,p,k,b,ss,h,w,x,U,K,hx,c,hc=>by
  obtain⟨s0,ss',rfl,h3,h4⟩:=h;rw[Tr.szs] at K ⊢;by_cases hw:w<b+t.sz;have:=wj t b p (k:Int) s0 h3 w x U hw hx c hc;omega;have:=HS ts p (k+1) (b+t.sz) ss' h4 w x (by omega) (by omega) hx c hc;omega
theorem IN:∀ (ks:List Tr) (j:Nat),j<ks.length->Tr.szs (ks.take j)<Tr.szs ks
 | [],j,h=>by simp at h
 | t::ts,0,h=>by rw[Fdz,Tr.szs,Tr.szs];have:=t.pos;omega
 | t::ts,j+1,h=>by
  rw[Bhz,Tr.szs,Tr.szs];have:=IN ts j (by simpa using h);omega
end
theorem wT:∀ (ks:List Tr) (j:Nat) (t:Tr),ks[j]?=some t->Tr.szs (ks.take j)+t.sz<=Tr.szs ks/\Tr.szs (ks.take (j+1))=Tr.szs (ks.take j)+t.sz
 | [],j,t,h=>by simp at h
 | t0::ts,0,t,h=>by simp at h;subst h;simp only[Bhz,Fdz,Tr.szs];omega
 | t0::ts,j+1,t,h=>by
  have:=wT ts j t (by simpa using h);rw[Bhz,Bhz,Tr.szs,Tr.szs,Tr.szs];omega
theorem tm:∀ (ks:List Tr) (i j:Nat),i<=j->Tr.szs (ks.take i)<=Tr.szs (ks.take j)
 | [],i,j,h=>by simp
 | t::ts,0,j,h=>by rw[Fdz,Tr.szs];exact Aez _
 | t::ts,i+1,0,h=>by omega
 | t::ts,i+1,j+1,h=>by rw[Bhz,Bhz,Tr.szs,Tr.szs];have:=tm ts i j (by omega);omega
theorem IM:∀ (ks:List Tr) (n:Nat),n<Tr.szs ks->∃ (j:Nat) (t:Tr),ks[j]?=some t/\Tr.szs (ks.take j)<=n/\n<Tr.szs (ks.take j)+t.sz
 | [],n,h=>by rw[Tr.szs] at h;omega
 | t::ts,n,h=>by
  rw[Tr.szs] at h;by_cases hn:n<t.sz;exact⟨0,t,rfl,by rw[Fdz,Tr.szs];omega,by rw[Fdz,Tr.szs];omega⟩;obtain⟨j,t',U,K,h3⟩:=IM ts (n-t.sz) (by omega);exact⟨j+1,t',U,by rw[Bhz,Tr.szs];omega,by rw[Bhz,Tr.szs];omega⟩
theorem KP {ks:List Tr}{n i j:Nat}{s t:Tr}(hi:ks[i]?=some s)(hj:ks[j]?=some t)(W:Tr.szs (ks.take i)<=n)(a2:n<Tr.szs (ks.take i)+s.sz)(b1:Tr.szs (ks.take j)<=n)(b2:n<Tr.szs (ks.take j)+t.sz):i=j:=by
 have U:=(wT ks i s hi).2;have K:=(wT ks j t hj).2;rcases Gaz i j with h|h|h;have:=tm ks (i+1) j h;omega;exact h;have:=tm ks (j+1) i h;omega
def fu (N:List Node)(v:Nat)(x:aZ):Prop:=∃ xn,N[v]?=some xn/\x.Node=xn.Id
theorem fu.uniq (h:eW g N){v w:Nat}{x:aZ}(a:fu N v x)(b:fu N w x):v=w:=by
 obtain⟨x1,U,e1⟩:=a;obtain⟨x2,K,e2⟩:=b;exact h.nid U K (e1.symm.trans e2)
theorem lQ {u:Nat}{xn:Node}(hu:N[u]?=some xn){o:Oc}{x:aZ}(h:dD N u o=some x):x.Name=o.Name/\0<=o.Pos/\((o.Pos=0/\fu N u x)∨(0<o.Pos/\∃ c:Nat,xn.cn_[(o.Pos-1).toNat]?=some (c:Int)/\fu N c x)):=by
 unfold dD at h;rw[gG hu] at h;by_cases U:0<=o.Pos/\o.Pos<=(xn.cn_.length:Int);rw[ao U] at h;by_cases K:0<o.Pos;rw[ao K] at h;have hl:(o.Pos-1).toNat<xn.cn_.length:=by omega
 by_cases h3:0<=xn.cn_.getD (o.Pos-1).toNat 0/\xn.cn_.getD (o.Pos-1).toNat 0<=(N.length:Int)-1;rw[ao h3] at h;cases h;have hg:xn.cn_[(o.Pos-1).toNat]?=some (xn.cn_.getD (o.Pos-1).toNat 0):=by rw[Cwz,Cmz hl];rfl
 generalize xn.cn_.getD (o.Pos-1).toNat 0=c at h3 hg;refine⟨rfl,U.1,.inr ⟨K,c.toNat,by rw[hg];congr 1;omega,?_⟩⟩;have hc:c.toNat<N.length:=by omega
 exact⟨N[c.toNat],Cmz hc,by rw[gG (Cmz hc)]⟩;rw[an h3] at h;cases h;rw[an K] at h;cases h;exact⟨rfl,U.1,.inl ⟨by omega,xn,hu,rfl⟩⟩;rw[an U] at h;cases h
theorem AF (h:eW g N){T:Tr}{i:Nat}{p q:Int}{s:ar}(hT:gm g N T i p q s){w:Nat}(U:i<=w)(K:w<i+T.sz){xn:Node}(hw:N[w]?=some xn){o:Oc}{x:aZ}(hx:dD N w o=some x):∃ v,fu N v x/\i<=v/\v<i+T.sz/\(v=i->w=i/\o.Pos=0):=by
 obtain⟨_,_,hc⟩:=lQ hw hx;rcases hc with ⟨h3,h4⟩|⟨h3,c,h4,h5⟩
 exact⟨w,h4,U,K,λe=>⟨e,h3⟩⟩;have:=wj T i p q s hT w xn U K hw c (Bvz h4);exact⟨c,h5,by omega,this.2,λe=>by omega⟩
theorem xz (h:eW g N){T:Tr}{i:Nat}{p q:Int}{s:ar}(hT:gm g N T i p q s){x y:aZ}(hp:cS g N i (i+T.sz) x y) :
  (∃ v,fu N v x/\i<=v/\v<i+T.sz)/\(∃ v,fu N v y/\i<=v/\v<i+T.sz) /\
  (fu N i x->∃ (r:ae) (xn:Node) (o:Oc),N[i]?=some xn/\r∈g.rs_/\xn.ae=r.Name/\o.Pos=0/\o.Name=x.Name/\(bI r o).2=true) /\
  (fu N i y->∃ (r:ae) (xn:Node) (o' o:Oc),N[i]?=some xn/\r∈g.rs_/\xn.ae=r.Name/\o.Pos=0/\o.Name=y.Name/\(bI r o').2=true/\o∈attrs (bI r o').1):=by
 have edge:∀ {w:Nat} {x y:aZ},i<=w->w<i+T.sz->rj g N w x y->(∃ v,fu N v x/\i<=v/\v<i+T.sz)/\(∃ v,fu N v y/\i<=v/\v<i+T.sz) /\
  (fu N i x->∃ (r:ae) (xn:Node) (o:Oc),N[i]?=some xn/\r∈g.rs_/\xn.ae=r.Name/\o.Pos=0/\o.Name=x.Name/\(bI r o).2=true) /\
  (fu N i y->∃ (r:ae) (xn:Node) (o' o:Oc),N[i]?=some xn/\r∈g.rs_/\xn.ae=r.Name/\o.Pos=0/\o.Name=y.Name/\(bI r o').2=true/\o∈attrs (bI r o').1):=λ{w x y} U K hE=>by
  obtain⟨xn,r,o',o,e1,e2,e3,e4,e5,e6,e7⟩:=hE;obtain⟨v,v1,v2,v3,v4⟩:=AF h hT U K e1 e6;obtain⟨v',u1,u2,u3,u4⟩:=AF h hT U K e1 e7;refine⟨⟨v,v1,v2,v3⟩,⟨v',u1,u2,u3⟩,λha=>?_,λha=>?_⟩;obtain⟨q1,q2⟩:=v4 (v1.uniq h ha);subst q1;exact⟨r,xn,o',e1,e2,e3,q2,((lQ e1 e6).1).symm,e4⟩;obtain⟨q1,q2⟩:=u4 (u1.uniq h ha);subst q1;exact⟨r,xn,o',o,e1,e2,e3,q2,((lQ e1 e7).1).symm,e4,e5⟩
 induction hp with
 | one U K h3=>exact edge U K h3
 | snoc _ U K h3 ih=>exact⟨(ih).1,(edge U K h3).2.1,ih.2.2.1,(edge U K h3).2.2.2⟩
end
section
variable {g:al}{N:List Node}
def GO (g:al)(N:List Node)(T:Tr):Prop:=∀ (u:Nat) (p q:Int) (s:ar),gm g N T u p q s->∀ (nm:ar) (ks:List Tr),T=.node nm ks->∀ (a b:Nat) (oa ob:Oc) (x y:aZ),(br g (dP g nm))[a]?=some oa->(br g (dP g nm))[b]?=some ob->dD N u ob=some x->dD N u oa=some y->cS g N u (u+T.sz) x y->Rl (eP g (dP g nm) (eX g ks)).Rows a b
theorem E5 {s:ar}{a:aG}(ha:a∈(bM g s).1.as_)(hm:a.Mode=1∨a.Mode=2):∃ k:Nat,(bJ g s)[k]?=some a:=
 Ekz (List.mem_filter.2 ⟨ha,decide_eq_true hm⟩)
theorem KO (hS:Shape g){r:ae}(Z:r∈g.rs_){o:Oc}(hq:(bI r o).2=true):0<=o.Pos/\o.Pos<=(r.rt_.length:Int)/\∃ a∈(bM g (cn r o.Pos)).1.as_,a.Name=o.Name/\a.Mode=if o.Pos=0 then 2 else 1:=by
 obtain⟨q,q1,q2,q3⟩:=AN hq;have hreq:=IQ hS Z q1;rw[q2] at hreq;unfold cB at hreq;obtain⟨k,hk,hreq⟩:=List.mem_flatMap.1 hreq;rw[List.mem_range'_1] at hk;unfold eR at hreq;obtain⟨a,ha,eo⟩:=List.mem_map.1 hreq;rw[List.mem_filter] at ha;have hmode:a.Mode=if (k:Int)=0 then 2 else 1:=by simpa using ha.2
 have ep:o.Pos=(k:Int):=by rw[← eo]
 rw[ep];exact⟨by omega,by omega,a,ha.1,by rw[← eo],hmode⟩
theorem L3 (hS:Shape g){r:ae}(Z:r∈g.rs_){o' o:Oc}(hq:(bI r o').2=true)(ho:o∈attrs (bI r o').1):0<=o.Pos/\o.Pos<=(r.rt_.length:Int)/\∃ a∈(bM g (cn r o.Pos)).1.as_,a.Name=o.Name/\a.Mode=if o.Pos=0 then 1 else 2:=by
 obtain⟨q,q1,q2,q3⟩:=AN hq;rw[q3] at ho;obtain⟨hm,_⟩:=hS.may Z q1 ho;unfold fK gv at hm;by_cases hp:0<=o.Pos/\o.Pos<=(r.rt_.length:Int);rw[ao hp,Bool.and_eq_true] at hm;obtain⟨U,K⟩:=hm;unfold eY at U K;cases hff:(bM g (cn r o.Pos)).1.as_.find? (λa=>decide (a.Name=o.Name)) with
 | none=>rw[hff] at U;cases U
 | some b=>
  rw[hff] at K;exact⟨hp.1,hp.2,b,Ebz hff,by simpa using List.find?_some hff,of_decide_eq_true K⟩
 rw[an hp] at hm;cases hm
theorem IL {r:ae}{o:Oc}{a:aG}(U:0<=o.Pos)(K:o.Pos<=(r.rt_.length:Int))(ha:a∈(bM g (cn r o.Pos)).1.as_)(hn:a.Name=o.Name)(hm:a.Mode=1∨a.Mode=2):∃ i:Nat,(br g r)[i]?=some o:=by
 obtain⟨k,hk⟩:=E5 ha hm;obtain⟨p,hp⟩:∃ p:Nat,o.Pos=(p:Int):=⟨o.Pos.toNat,by omega⟩
 rw[hp] at hk;obtain⟨i,_,hi⟩:=D9 (r:=r) (k:=p) (by omega) hk;refine⟨i,?_⟩;rw[hi,hn,← hp]
theorem w9 (h0:Sz.szd g<=1048576)(hS:Shape g)(h:eW g N){t:Tr}(hC:GO g N t){c:Nat}{p q:Int}{s:ar}(hT:gm g N t c p q s){x y:aZ}(hx:fu N c x)(hy:fu N c y)(hp:cS g N c (c+t.sz) x y) :
  ∃ (k1 k2:Nat) (W a2:aG),(bJ g s)[k1]?=some W/\W.Name=x.Name/\(bJ g s)[k2]?=some a2/\a2.Name=y.Name/\Rl (fX g t).Rows k2 k1:=by
 obtain⟨_,_,ex,ey⟩:=xz h hT hp;obtain⟨r,xn,o,e1,e2,e3,e4,e5,e6⟩:=ex hx;obtain⟨r',xn',o',o2,f1,f2,f3,f4,f5,f6,f7⟩:=ey hy;rw[e1] at f1;cases f1;have:r'=r:=by rw[← fP hS f2,← fP hS e2,← f3,← e3]
 subst this;obtain⟨yn,r0,g1,g2,g3,g4,_,_⟩:=hT.head;rw[e1] at g1;cases g1;have:r0=r':=by rw[← fP hS g2,← fP hS e2,← g3,← e3]
 subst this;obtain⟨_,_,W,m1,n1,k1⟩:=KO hS e2 e6;obtain⟨_,_,a2,m2,n2,k2⟩:=L3 hS e2 f6 f7;rw[ao e4] at k1;rw[ao f4] at k2;have hs0:cn r0 0=r0.Left:=ao rfl;rw[e4,hs0] at m1;rw[f4,hs0] at m2;obtain⟨i1,p1⟩:=E5 m1 (.inr k1);obtain⟨i2,p2⟩:=E5 m2 (.inl k2);obtain⟨b1,q1,w1⟩:=nJ (r:=r0) (List.getElem?_eq_some_iff.1 p1).1;obtain⟨b2,q2,w2⟩:=nJ (r:=r0) (List.getElem?_eq_some_iff.1 p2).1;rw[p1] at q1;cases q1;rw[p2] at q2;cases q2;cases t with
 | node nm ks=>
  have hT':=hT;obtain⟨x0,r1,j1,j2,j3,_,_,_,_,_,_,_,en,_⟩:=hT';rw[e1] at j1;cases j1;have:r1=r0:=by rw[← fP hS j2,← fP hS e2,← j3,← e3]
  subst this;have hrl:dP g nm=r1:=by rw[← en];exact fP hS e2
  obtain⟨z1,u1,u2⟩:=hx;rw[e1] at u1;cases u1;obtain⟨z2,v1,v2⟩:=hy;rw[e1] at v1;cases v1;have ax:dD N c ⟨0,W.Name⟩=some x:=by
   rw[E6 e1,n1,e5,← u2]
  have ay:dD N c ⟨0,a2.Name⟩=some y:=by
   rw[E6 e1,n2,f5,← v2]
  have hR:=hC c p q s hT nm ks rfl i2 i1 _ _ x y (by rw[hrl];exact w2) (by rw[hrl];exact w1) ax ay hp;rw[hrl] at hR;refine⟨i1,i2,W,a2,by rw[← g4];exact p1,by rw[n1,e5],by rw[← g4];exact p2,by rw[n2,f5],?_⟩;rw[fX,hrl];exact Qd h0 hS e2 (Ni h0 e2 _) p2 p1 k2 k1 hR
theorem Pu (h0:Sz.szd g<=1048576)(hS:Shape g){ks:List Tr}{p:Int}{k b:Nat}{r:ae}(hl:ks.length=r.rt_.length)(hk:dm g N ks p k b r.rt_):kl g r (eX g ks):=by
 refine⟨by rw[L5];exact hl,λj own hj=>?_⟩;rw[FG] at hj;cases ht:ks[j]? with
 | none=>rw[ht] at hj;cases hj
 | some t=>
  rw[ht] at hj;have hj:fX g t=own:=Option.some.inj hj;have hlt:=(List.getElem?_eq_some_iff.1 ht).1;rw[hl] at hlt;have hT:=dm.get hk ht (Cmz hlt);rw[oA (Cmz hlt),← hj];cases t with
  | node nm ks'=>
   obtain⟨x0,r1,j1,j2,j3,j4,_,_,_,_,_,_,en,_⟩:=hT;have hrl:dP g nm=r1:=by rw[← en];exact fP hS j2
   rw[fX,hrl];have:=qR h0 hS r1 (eP g r1 (eX g ks'));rw[j4] at this;exact⟨this.1,this.2.1⟩
theorem KN {ks:List Tr}{b i j:Nat}(hi:i<ks.length)(hj:j<ks.length)(e:(cz b ks)[i]?=(cz b ks)[j]?):i=j:=by
 rw[kR ks b i hi,kR ks b j hj] at e;have e:b+Tr.szs (ks.take i)=b+Tr.szs (ks.take j):=by injection e with e;omega
 have U:=(wT ks i _ (Cmz hi)).2;have K:=(wT ks j _ (Cmz hj)).2;have p1:=(ks[i]).pos;have p2:=(ks[j]).pos;rcases Gaz i j with h|h|h;have:=tm ks (i+1) j h;omega;exact h;have:=tm ks (j+1) i h;omega
mutual
theorem IK (h0:Sz.szd g<=1048576)(hS:Shape g)(h:eW g N):∀ T:Tr,GO g N T
 | .node nm ks=>by
  have ih:=JC h0 hS h ks;intro u p q s hT nm' ks' he a b oa ob x y ha Y hx hy hp;cases he;have hT0:=hT;obtain⟨xn,r,hxn,Z,e1,e2,e3,e4,e5,e6,e7,e8,en,hk⟩:=hT;have hrl:dP g nm=r:=by rw[← en];exact fP hS Z
  rw[hrl] at ha Y ⊢;have hnd:=hS.occ_nodup r;have h16:=hS.occ16' Z;have hcomp:eP g r (eX g ks)=fe (dq g r 0 (eX g ks) (cg g r)):=an (by omega);obtain⟨lv,ln,lp⟩:=FH h0 (Bgz (ib Z) h0) h16;have hcv:=NL (g:=g) (r:=r) (eX g ks) 0 _ lv;have hfit:=Pu h0 hS e6 hk;rw[hcomp];have up:∀ {i j:Nat},Rl (dq g r 0 (eX g ks) (cg g r)).Rows i j->Rl (fe (dq g r 0 (eX g ks) (cg g r))).Rows i j:=λhij=>(ew.close hcv).2.2.2 _ _ hij;have tr:∀ {i k j:Nat},Rl (fe (dq g r 0 (eX g ks) (cg g r))).Rows i k->Rl (fe (dq g r 0 (eX g ks) (cg g r))).Rows k j->Rl (fe (dq g r 0 (eX g ks) (cg g r))).Rows i j:=λU K=>Yg hcv U K;have inN' : ∀ {i:Nat} {o:Oc},(br g r)[i]?=some o->eE (cg g r) (i:Int):=λ{i o} hi=>by
   have:=(List.getElem?_eq_some_iff.1 hi).1;exact⟨by omega,by omega⟩
  have oinj:∀ {i i' : Nat} {o:Oc},(br g r)[i]?=some o->(br g r)[i']?=some o->i=i':=λ{i i' o} U K=>
   (List.getElem?_inj (List.getElem?_eq_some_iff.1 U).1 hnd).1 (U.trans K.symm)
  -- an occurrence is told by its instance
  have kidAt:∀ {o:Oc} {z:aZ},0<o.Pos->dD N u o=some z->∃ (j:Nat) (t:Tr),o.Pos=((j+1:Nat):Int)/\ks[j]?=some t/\fu N (u+1+Tr.szs (ks.take j)) z:=λ{o z} hpos hz=>by
   obtain⟨_,_,hc⟩:=lQ hxn hz;rcases hc with ⟨hc,_⟩|⟨_,c,h4,h5⟩
   omega;have hjl:(o.Pos-1).toNat<ks.length:=by have:=(List.getElem?_eq_some_iff.1 h4).1;rwa[e5,tn] at this
   rw[e5,kR ks (u+1) _ hjl] at h4;have:c=u+1+Tr.szs (ks.take (o.Pos-1).toNat):=by injection h4 with h4;omega
   subst this;exact⟨(o.Pos-1).toNat,ks[(o.Pos-1).toNat],by omega,Cmz hjl,h5⟩
  have binj:∀ {o o' : Oc} {z:aZ},dD N u o=some z->dD N u o'=some z->o=o':=λ{o o' z} U K=>by
   obtain⟨n1,p1,c1⟩:=lQ hxn U;obtain⟨n2,p2,c2⟩:=lQ hxn K;have hpos:o.Pos=o'.Pos:=by
    by_cases z1:o.Pos=0;by_cases z2:o'.Pos=0;rw[z1,z2];obtain⟨j,t,q1,q2,q3⟩:=kidAt (by omega) K;have hA:fu N u z:=by
     rcases c1 with ⟨_,c1⟩|⟨c1,_⟩
     exact c1;omega
    have:=hA.uniq h q3;omega;obtain⟨j,t,q1,q2,q3⟩:=kidAt (by omega) U;by_cases z2:o'.Pos=0;have hA:fu N u z:=by
     rcases c2 with ⟨_,c2⟩|⟨c2,_⟩
     exact c2;omega
    have:=hA.uniq h q3;omega;obtain⟨j',t',q1',q2',q3'⟩:=kidAt (by omega) K;have e:=q3.uniq h q3';have hj:j=j':=KN (b:=u+1) (List.getElem?_eq_some_iff.1 q2).1 (List.getElem?_eq_some_iff.1 q2').1 (by rw[kR ks (u+1) j (List.getElem?_eq_some_iff.1 q2).1,kR ks (u+1) j' (List.getElem?_eq_some_iff.1 q2').1,e]);rw[q1,q1',hj]
   cases o;cases o';simp only at n1 n2 hpos;rw[hpos,← n1,n2]
  -- a local use
  have loc:∀ {o' o:Oc} {i' : Nat},(bI r o').2=true->o∈attrs (bI r o').1->(br g r)[i']?=some o'->∃ i:Nat,(br g r)[i]?=some o/\Rl (fe (dq g r 0 (eX g ks) (cg g r))).Rows i i':=λ{o' o i'} hq ho hi'=>by
   obtain⟨b1,b2,a2,m2,n2,k2⟩:=L3 hS Z hq ho;obtain⟨i,hi⟩:=IL b1 b2 m2 n2 (by split at k2<;>simp[k2]);refine⟨i,hi,up ((FB g r (eX g ks) 0 _ lv).2.2.2 i i' ((lp i i').2 ⟨o',hi',o,ho,Ql hnd hi⟩))⟩
  -- from a child's root to a child's root
  have kid:∀ {j:Nat} {t:Tr} {s' i0:Nat} {os oz:Oc} {z1 z2:aZ},ks[j]?=some t->(br g r)[s']?=some os->(br g r)[i0]?=some oz->dD N u os=some z1->dD N u oz=some z2->fu N (u+1+Tr.szs (ks.take j)) z1->fu N (u+1+Tr.szs (ks.take j)) z2->cS g N (u+1+Tr.szs (ks.take j)) (u+1+Tr.szs (ks.take j)+t.sz) z1 z2->Rl (fe (dq g r 0 (eX g ks) (cg g r))).Rows i0 s':=λ{j t s' i0 os oz z1 z2} hj hs hz W a2 at1 at2 hpath=>by
   have hjl:=(List.getElem?_eq_some_iff.1 hj).1;have hjr:j<r.rt_.length:=by rw[← e6];exact hjl
   have hTj:=dm.get hk hj (Cmz hjr);obtain⟨k1,k2,b1,b2,w1,w2,w3,w4,w5⟩:=w9 h0 hS h (ih t (Bvz hj)) hTj at1 at2 hpath;have posj:∀ {o:Oc} {z:aZ},dD N u o=some z->fu N (u+1+Tr.szs (ks.take j)) z->o.Pos=((j+1:Nat):Int):=λ{o z} ho hz=>by
    obtain⟨_,p1,c1⟩:=lQ hxn ho;rcases c1 with ⟨_,c1⟩|⟨c1,_⟩
    have:=c1.uniq h hz;omega;obtain⟨j',t',q1,q2,q3⟩:=kidAt c1 ho;have e:=q3.uniq h hz;have hjj:j'=j:=KN (b:=u+1) (List.getElem?_eq_some_iff.1 q2).1 hjl (by rw[kR ks (u+1) j' (List.getElem?_eq_some_iff.1 q2).1,kR ks (u+1) j hjl,e]);rw[q1,hjj]
   have hsym:cn r ((j+1:Nat):Int)=r.rt_[j]:=oA (Cmz hjr);obtain⟨i1,v1,v2⟩:=D9 (r:=r) (k:=j+1) (by omega) (by rw[hsym];exact w1);obtain⟨i2,v3,v4⟩:=D9 (r:=r) (k:=j+1) (by omega) (by rw[hsym];exact w3);have es:(⟨((j+1:Nat):Int),b1.Name⟩:Oc)=os:=by
    have:=posj W at1;have hn:=(lQ hxn W).1;cases os;simp only at this hn;rw[this,w2,hn]
   have ez:(⟨((j+1:Nat):Int),b2.Name⟩:Oc)=oz:=by
    have:=posj a2 at2;have hn:=(lQ hxn a2).1;cases oz;simp only at this hn;rw[this,w4,hn]
   rw[es] at v2;rw[ez] at v4;have f1:=oinj v2 hs;have f2:=oinj v4 hz;subst f1;subst f2;have hown:(eX g ks)[j]?=some (fX g t):=by rw[FG,hj];rfl
   have hvo:=(hfit.2 j _ hown).1;exact up (KQ (eX g ks) 0 _ lv j k2 k1 i2 i1 _ hown ((wP hvo k2 k1).2 w5) (by rw[Adz];exact v3) (by rw[Adz];exact v1) (inN' v4) (inN' v2))
  -- where an edge's ends lie
  have inKid:∀ {w:Nat} {z1 z2:aZ},u<w->w<u+(Tr.node nm ks).sz->rj g N w z1 z2->∃ (j:Nat) (t:Tr) (v1 v2:Nat),ks[j]?=some t/\u+1+Tr.szs (ks.take j)<=w/\w<u+1+Tr.szs (ks.take j)+t.sz/\fu N v1 z1/\u+1+Tr.szs (ks.take j)<=v1/\v1<u+1+Tr.szs (ks.take j)+t.sz/\fu N v2 z2/\u+1+Tr.szs (ks.take j)<=v2/\v2<u+1+Tr.szs (ks.take j)+t.sz:=λ{w z1 z2} U K hE=>by
   rw[Tr.sz] at K;obtain⟨j,t,hj,b1,b2⟩:=IM ks (w-(u+1)) (by omega);have hjr:j<r.rt_.length:=by rw[← e6];exact (List.getElem?_eq_some_iff.1 hj).1
   have hTj:=dm.get hk hj (Cmz hjr);obtain⟨wn,r',o',o,q1,q2,q3,q4,q5,q6,q7⟩:=hE;obtain⟨v,c1,c2,c3,_⟩:=AF h hTj (w:=w) (by omega) (by omega) q1 q6;obtain⟨v',d1,d2,d3,_⟩:=AF h hTj (w:=w) (by omega) (by omega) q1 q7;exact⟨j,t,v,v',hj,by omega,by omega,c1,c2,c3,d1,d2,d3⟩
  -- a boundary instance within a child's tree is at the child
  have bdKid:∀ {o:Oc} {z:aZ} {j v:Nat} {t:Tr},dD N u o=some z->ks[j]?=some t->fu N v z->u+1+Tr.szs (ks.take j)<=v->v<u+1+Tr.szs (ks.take j)+t.sz->fu N (u+1+Tr.szs (ks.take j)) z:=λ{o z j v t} ho hj hv U K=>by
   obtain⟨_,p1,c1⟩:=lQ hxn ho;rcases c1 with ⟨_,c1⟩|⟨c1,_⟩
   have:=c1.uniq h hv;omega;obtain⟨j',t',q1,q2,q3⟩:=kidAt c1 ho;have e:=q3.uniq h hv;have hjj:j'=j:=KP (n:=v-(u+1)) q2 hj (by omega) (by have:=t'.pos;omega) (by omega) (by omega);subst hjj;exact q3
  -- what is so of all that is reached
  have key:∀ {z:aZ},cS g N u (u+(Tr.node nm ks).sz) x z ->
    (∃ (i:Nat) (o:Oc),(br g r)[i]?=some o/\dD N u o=some z/\Rl (fe (dq g r 0 (eX g ks) (cg g r))).Rows i b) ∨
    (∃ (j:Nat) (t:Tr) (s' : Nat) (os:Oc) (z1:aZ),ks[j]?=some t/\(br g r)[s']?=some os/\dD N u os=some z1/\fu N (u+1+Tr.szs (ks.take j)) z1/\(s'=b∨Rl (fe (dq g r 0 (eX g ks) (cg g r))).Rows s' b)/\cS g N (u+1+Tr.szs (ks.take j)) (u+1+Tr.szs (ks.take j)+t.sz) z1 z):=λ{z} hpz=>by
   induction hpz with
   | one w1 w2 hE=>
    rename_i w x y;by_cases hw:w=u;subst hw;obtain⟨xn',r',o',o,q1,q2,q3,q4,q5,q6,q7⟩:=hE;rw[hxn] at q1;cases q1;have:r'=r:=by rw[← fP hS q2,← fP hS Z,← q3,← e1]
    subst this;have:=binj q6 hx;subst this;obtain⟨i,i1,i2⟩:=loc q4 q5 Y;exact .inl ⟨i,o,i1,q7,i2⟩;obtain⟨j,t,v1,v2,hj,b1,b2,c1,c2,c3,d1,d2,d3⟩:=inKid (by omega) w2 hE;exact .inr ⟨j,t,b,ob,x,hj,Y,hx,bdKid hx hj c1 c2 c3,.inl rfl,.one b1 b2 hE⟩
   | snoc hpz w1 w2 hE ih2=>
    rename_i w x z z';have ih2:=ih2 hx hp;by_cases hw:w=u;subst hw;obtain⟨xn',r',o',o,q1,q2,q3,q4,q5,q6,q7⟩:=hE;rw[hxn] at q1;cases q1;have:r'=r:=by rw[← fP hS q2,← fP hS Z,← q3,← e1]
    subst this;rcases ih2 with ⟨i,o1,i1,i2,i3⟩|⟨j,t,s',os,z1,hj,s1,s2,s3,s4,s5⟩
    have:=binj q6 i2;subst this;obtain⟨i',j1,j2⟩:=loc q4 q5 i1;exact .inl ⟨i',o,j1,q7,tr j2 i3⟩;obtain⟨c1,c2,W,m1,n1,k1⟩:=KO hS Z q4;obtain⟨i0,hi0⟩:=IL c1 c2 m1 n1 (by split at k1<;>simp[k1]);have hjr:j<r'.rt_.length:=by rw[← e6];exact (List.getElem?_eq_some_iff.1 hj).1
    have hTj:=dm.get hk hj (Cmz hjr);obtain⟨_,⟨v,v1,v2,v3⟩,_,_⟩:=xz h hTj s5;have hzk:=bdKid q6 hj v1 v2 v3;have hR:=kid hj s1 hi0 s2 q6 s3 hzk s5;obtain⟨i',j1,j2⟩:=loc q4 q5 hi0;rcases s4 with s4|s4;subst s4;exact .inl ⟨i',o,j1,q7,tr j2 hR⟩;exact .inl ⟨i',o,j1,q7,tr j2 (tr hR s4)⟩;obtain⟨j,t,v1,v2,hj,b1,b2,c1,c2,c3,d1,d2,d3⟩:=inKid (by omega) w2 hE;rcases ih2 with ⟨i,o1,i1,i2,i3⟩|⟨j',t',s',os,z1,hj',s1,s2,s3,s4,s5⟩
    exact .inr ⟨j,t,i,o1,z,hj,i1,i2,bdKid i2 hj c1 c2 c3,.inr i3,.one b1 b2 hE⟩;have hjr:j'<r.rt_.length:=by rw[← e6];exact (List.getElem?_eq_some_iff.1 hj').1
    have hTj:=dm.get hk hj' (Cmz hjr);obtain⟨_,⟨v,u1,u2,u3⟩,_,_⟩:=xz h hTj s5;have:=u1.uniq h c1;subst this;have hjj:j'=j:=KP (n:=v-(u+1)) hj' hj (by omega) (by omega) (by omega) (by omega);subst hjj;rw[hj] at hj';cases hj';exact .inr ⟨j',t,s',os,z1,hj,s1,s2,s3,s4,.snoc s5 b1 b2 hE⟩
  rcases key hp with ⟨i,o,i1,i2,i3⟩|⟨j,t,s',os,z1,hj,s1,s2,s3,s4,s5⟩
  have:=binj i2 hy;subst this;rw[oinj ha i1];exact i3;have hjr:j<r.rt_.length:=by rw[← e6];exact (List.getElem?_eq_some_iff.1 hj).1
  have hTj:=dm.get hk hj (Cmz hjr);obtain⟨_,⟨v,v1,v2,v3⟩,_,_⟩:=xz h hTj s5;have hR:=kid hj s1 ha s2 hy s3 (bdKid hy hj v1 v2 v3) s5;rcases s4 with s4|s4;subst s4;exact hR;exact tr hR s4
theorem JC (h0:Sz.szd g<=1048576)(hS:Shape g)(h:eW g N):∀ (ks:List Tr) (t:Tr),t∈ks->GO g N t
 | [],t,ht=>nomatch ht
 | t0::ts,t,ht=>by
  rcases List.mem_cons.1 ht with e|e;rw[e];exact IK h0 hS h t0;exact JC h0 hS h ts t e
end
end
end Go.Proofs.YtodhafdaelcnlaaGreat
