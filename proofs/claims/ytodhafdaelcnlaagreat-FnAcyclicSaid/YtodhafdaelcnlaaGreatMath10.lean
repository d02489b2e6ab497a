/- What those partial functions come to: plain lemmas on data; each bears its conditions in its statement. -/
import Derived.Test.YtodhafdaelcnlaaGreatMath9
set_option linter.unusedVariables false
set_option linter.unusedSimpArgs false
set_option linter.ambiguousOpen false
set_option linter.unusedSectionVars false
set_option linter.unnecessarySimpa false
set_option maxRecDepth 100000
set_option maxHeartbeats 4000000
open Nat renaming add_zero->Cxz,zero_add->Adz,zero_le->Aez,lt_trichotomy->Ftz
open List renaming getElem?_eq_getElem->Cmz,length_append->Axz,length_singleton->Coz,find?_eq_none->Fxz,mem_of_find?_eq_some->Ecz,getD_eq_getElem?_getD->Cwz,getElem?_cons_succ->Apz,getElem?_of_mem->Elz,take_zero->Fmz,take_succ_cons->Bhz,mem_of_getElem?->Bvz
open Bool renaming false_eq_true->Eaz
namespace Go.Proofs.YtodhafdaelcnlaaGreat
open Go Go.E
theorem KX {own:au}{a:Nat}{x:Int}:∀ (ys:List Int) (i:Nat) (o:au),aI o->∀ (q s t:Nat) (y:Int),ys[q]?=some y->bD own (a:Int) ((i+q:Nat):Int)->eh o x->eh o y->(s:Int)=x->(t:Int)=y->Rl (fP own a x i ys o).Rows s t
 | [],i,o,hv,q,s,t,y,h,_,_,_,_,_=>by simp at h
 | z::ys,i,o,hv,q,s,t,y,h,hp,n1,n2,e1,e2=>by
  rw[fP];have hv' : aI (if bD own (a:Int) (i:Int) then cB o x z else o):=by
   split;exact oZ hv x z;exact hv
  have hN:(if bD own (a:Int) (i:Int) then cB o x z else o).N=o.N:=by
   split;exact (nD _ _ _).2;rfl
  cases q with
  | zero=>
   simp at h;subst h;rw[Cxz] at hp;refine (xD own a x ys (i+1) _ hv').2.2.2 s t ?_;rw[ao hp];exact (wu hv x z s t).2 (.inr ⟨n1,n2,e1,e2⟩)
  | succ q=>exact KX ys (i+1) _ hv' q s t y (by simpa using h) (by rwa[show i+1+q=i+(q+1) by omega]) (lE hN.symm _ n1) (lE hN.symm _ n2) e1 e2
theorem Mt {own:au}{at' : List Int}:∀ (xs:List Int) (a:Nat) (o:au),aI o->∀ (p q s t:Nat) (x y:Int),xs[p]?=some x->at'[q]?=some y->bD own ((a+p:Nat):Int) ((q:Nat):Int)->eh o x->eh o y->(s:Int)=x->(t:Int)=y->Rl (iy own at' a xs o).Rows s t
 | [],a,o,hv,p,q,s,t,x,y,h,_,_,_,_,_,_=>by simp at h
 | z::xs,a,o,hv,p,q,s,t,x,y,h,W,hp,n1,n2,e1,e2=>by
  rw[iy];have hv':=Bz (own:=own) (a:=a) (x:=z) at' 0 o hv;have hN:=(xm own a z at' 0 o).2;cases p with
  | zero=>
   simp at h;subst h;refine (Bj own at' xs (a+1) _ hv').2.2.2 s t ?_;exact KX at' 0 o hv q s t y W (by rw[Adz];rwa[Cxz] at hp) n1 n2 e1 e2
  | succ p=>exact Mt xs (a+1) _ hv' p q s t x y (by simpa using h) W (by rwa[show a+1+p=a+(p+1) by omega]) (lE hN.symm _ n1) (lE hN.symm _ n2) e1 e2
theorem Kk {g:ak}{r:aa}:∀ (l:List au) (k:Nat) (o:au),aI o->∀ (j p q s t:Nat) (own:au),l[j]?=some own->bD own ((p:Nat):Int) ((q:Nat):Int)->(dv g r ((k+j+1:Nat):Int))[p]?=some ((s:Nat):Int)->(dv g r ((k+j+1:Nat):Int))[q]?=some ((t:Nat):Int)->eh o (s:Int)->eh o (t:Int)->Rl (dN g r k l o).Rows s t
 | [],k,o,hv,j,p,q,s,t,own,h,_,_,_,_,_=>by simp at h
 | z::l,k,o,hv,j,p,q,s,t,own,h,hp,U,W,n1,n2=>by
  rw[dN];have hv' : aI (j5 g r o ((k+1:Nat):Int) z):=yf _ 0 o hv;have hN:(j5 g r o ((k+1:Nat):Int) z).N=o.N:=(Bl z _ _ 0 o).2;cases j with
  | zero=>
   simp at h;subst h;refine (Fa g r l (k+1) _ hv').2.2.2 s t ?_;rw[Cxz] at U W;exact Mt _ 0 o hv p q s t _ _ U W (by rw[Adz];exact hp) n1 n2 rfl rfl
  | succ j=>exact Kk l (k+1) _ hv' j p q s t own (by simpa using h) hp (by rwa[show k+1+j+1=k+(j+1)+1 by omega]) (by rwa[show k+1+j+1=k+(j+1)+1 by omega]) (lE hN.symm _ n1) (lE hN.symm _ n2)
theorem MA {g:ak}{r:aa}:∀ (l:List au) (k:Nat) (o:au),aI o->aI (dN g r k l o)
 | [],k,o,h=>h
 | z::l,k,o,h=>by rw[dN];exact MA l (k+1) _ (yf _ 0 o h)
theorem XM {x:au}(hv:aI x){i k j:Nat}(U:Rl (cC x).Rows i k)(W:Rl (cC x).Rows k j):Rl (cC x).Rows i j:=by
 have hok:=(mw hv).1;have hk:=v8 (mw (xS hv)).1 W;rw[(xo x).2] at hk;unfold cC at U W ⊢;rw[ao hv] at U W ⊢;exact J7 hok _ k i j hk (Nat.le_refl _) U W
theorem DL {g:ak}{r:aa}{k p:Nat}(hk:k<=r.rt_.length){a:aH}(ha:(cL g (cy r (k:Int)))[p]?=some a):∃ i:Nat,(dv g r (k:Int))[p]?=some (i:Int)/\(bk g r)[i]?=some ⟨(k:Int),a.Name⟩:=by
 have hlt:=(List.getElem?_eq_some_iff.1 ha).1;have hp:p<(dv g r (k:Int)).length:=by rw[I5 g hk];exact hlt
 obtain⟨i,a',e1,U,W⟩:=Jf hk (Cmz hp);rw[ha] at U;cases U;exact⟨i,by rw[Cmz hp,e1],W⟩
section
variable {g:ak}{N:List Node}
def oG (g:ak)(N:List Node)(w:Nat)(x y:a7):Prop:=∃ (xn:Node) (r:aa) (o' o:Oc),N[w]?=some xn/\r∈g.rs_/\xn.aa=r.Name/\(bR r o').2=true/\o∈attrs (bR r o').1/\eL N w o'=some x/\eL N w o=some y
inductive bG (g:ak) (N:List Node) (lo hi:Nat):a7->a7->Prop
 | one {w:Nat} {x y:a7} (U:lo<=w) (W:w<hi) (h:oG g N w x y):bG g N lo hi x y
 | snoc {w:Nat} {x y z:a7} (h:bG g N lo hi x y) (U:lo<=w) (W:w<hi) (h3:oG g N w y z):bG g N lo hi x z
theorem bG.trans {lo hi:Nat}{x y z:a7}(h:bG g N lo hi x y)(k:bG g N lo hi y z):bG g N lo hi x z:=by
 induction k with
 | one U W h3=>exact .snoc h U W h3
 | snoc _ U W h3 ih=>exact .snoc (ih h) U W h3
def zW (N:List Node)(v:Nat):Prop:=∃ (x px:Node) (p j:Nat),N[v]?=some x/\x.Parent=(p:Int)/\N[p]?=some px/\px.cn_[j]?=some (v:Int)/\x.Place=((j+1:Nat):Int)
mutual
theorem vN {g:ak}{N:List Node}:∀ (T:Tr) (i:Nat) (p q:Int) (s:an),gK g N T i p q s->∀ v,i<v->v<i+T.sz->zW N v
 | .node nm ks,i,p,q,s,h,v,U,W=>by
  obtain⟨x,r,hx,Z,e1,e2,e3,e4,e5,e6,e7,e8,en,hk⟩:=h;rw[Tr.sz] at W;exact Ih ks [] i x (i+1) r.rt_ hx (by rw[List.length_nil,e5];rfl) (by rw[List.length_nil];exact hk) v (by omega) (by omega)
theorem Ih {g:ak}{N:List Node}:∀ (ks pre:List Tr) (i:Nat) (x:Node) (b:Nat) (ss:List an),N[i]?=some x->x.cn_.drop pre.length=dU b ks->cZ g N ks (i:Int) (pre.length+1) b ss->∀ v,b<=v->v<b+Tr.szs ks->zW N v
 | [],pre,i,x,b,ss,hx,hc,h,v,U,W=>by rw[Tr.szs] at W;omega
 | t::ts,pre,i,x,b,ss,hx,hc,h,v,U,W=>by
  obtain⟨s0,ss',rfl,h3,h4⟩:=h;rw[Tr.szs] at W;by_cases hv:v<b+t.sz;by_cases Y:v=b;subst Y;obtain⟨y,r',hy,hr',f1,f2,f3,f4⟩:=h3.head;have hx2:x.cn_[pre.length]?=some (v:Int):=by
   have:=congrArg (λl:List Int=>l[0]?) hc;simp only[List.getElem?_drop,Cxz] at this;rw[this,dU];rfl
  exact⟨y,x,i,pre.length,hy,f3,hx,hx2,f4⟩;exact vN t b (i:Int) ((pre.length+1:Nat):Int) s0 h3 v (by omega) hv;exact Ih ts (pre++[t]) i x (b+t.sz) ss' hx (by
   rw[Axz,Coz,← List.drop_drop,hc,dU];rfl) (by rw[Axz,Coz];exact h4) v (by omega) (by omega)
end
theorem Et {u:Nat}{x:Node}(hu:N[u]?=some x)(nm:an):eL N u ⟨0,nm⟩=some ⟨x.Id,nm⟩:=by
 unfold eL;rw[ao ⟨by dsimp only;omega,by dsimp only;omega⟩,al (by dsimp only;omega),jQ hu]
theorem Tg (h:fp g N)(hp:∀ v,0<v->v<N.length->zW N v)(hr0:∀ x,N[0]?=some x->x.Parent = -1){v:Nat}{x:Node}(hv:N[v]?=some x){a:aH}{y:a7}(hy:y∈gM g N v a):∃ w,w<N.length/\oG g N w ⟨x.Id,a.Name⟩ y:=by
 unfold gM at hy;cases hd:oF g N v a with
 | none=>rw[hd] at hy;exact nomatch hy
 | some p=>
  obtain⟨u,e⟩:=p;rw[hd] at hy;obtain⟨o,ho,hat⟩:=List.mem_filterMap.1 hy;have hlt:=(List.getElem?_eq_some_iff.1 hv).1;have lk:∀ (w:Nat) (pos:Int),w<N.length->og g N w pos a.Name=some (u,e)->eL N w ⟨pos,a.Name⟩=some ⟨x.Id,a.Name⟩->∃ w,w<N.length/\oG g N w ⟨x.Id,a.Name⟩ y:=λw pos hw hl hat2=>by
   obtain⟨xn,r,hx,Z,e1,_⟩:=h.ok w hw;unfold og at hl;by_cases hc:(bR (dh g (N.getD w zN).aa) ⟨pos,a.Name⟩).2=true;rw[ao hc] at hl;injection hl with hl;injection hl with U W;subst U;refine⟨w,hw,xn,dh g (N.getD w zN).aa,⟨pos,a.Name⟩,o,hx,?_,?_,hc,by rw[W];exact ho,hat2,hat⟩;rw[jQ hx,e1];unfold dh;cases hf:g.rs_.find? (λq=>decide (q.Name=r.Name)) with
   | none=>rw[Fxz] at hf;exact absurd (by simp) (hf r Z)
   | some q=>exact Ecz hf
   rw[jQ hx,e1];unfold dh;cases hf:g.rs_.find? (λq=>decide (q.Name=r.Name)) with
   | none=>rw[Fxz] at hf;exact absurd (by simp) (hf r Z)
   | some q=>have:=List.find?_some hf;simp at this;exact this.symm
   rw[al hc] at hl;cases hl
  unfold oF at hd;rw[jQ hv] at hd;by_cases m3:a.Mode=3;rw[ao m3] at hd;cases hd;rw[al m3] at hd;by_cases m1:a.Mode=1;rw[ao m1] at hd;by_cases hpr:0<=x.Parent/\x.Parent<=(N.length:Int)-1;rw[ao hpr] at hd;have hv0:0<v:=by
   rcases Nat.eq_zero_or_pos v with e0|e0;subst e0;have:=hr0 x hv;omega;exact e0
  obtain⟨x',px,p,j,q1,q2,q3,q4,q5⟩:=hp v hv0 hlt;rw[hv] at q1;cases q1;have hpl:=(List.getElem?_eq_some_iff.1 q3).1;have hjl:=(List.getElem?_eq_some_iff.1 q4).1;refine lk p x.Place hpl (by rw[q2,cE] at hd;exact hd) ?_;unfold eL;rw[jQ q3];have hg:px.cn_.getD (x.Place-1).toNat 0=(v:Int):=by rw[q5,show (((j+1:Nat):Int)-1).toNat=j by omega,Cwz,q4];rfl
  rw[ao (by dsimp only;omega),ao (by dsimp only;omega)];dsimp only;rw[hg,ao (by omega),cE,jQ hv];rw[al hpr] at hd;cases hd;rw[al m1] at hd;exact lk v 0 hlt hd (Et hv _)
theorem Tf (h:fp g N)(hp:∀ v,0<v->v<N.length->zW N v)(hr0:∀ x,N[0]?=some x->x.Parent = -1){tb:List (List Int)}(hT:NL g N tb){k j:Nat}(hd:Dp tb k j):∃ x y,(cN g N)[k]?=some x/\(cN g N)[j]?=some y/\bG g N 0 N.length x y:=by
 have edge:∀ {k j:Nat},Eg tb k j->∃ x y w,(cN g N)[k]?=some x/\(cN g N)[j]?=some y/\w<N.length/\oG g N w x y:=λ{k j} hE=>by
  obtain⟨row,Z,hj⟩:=hE;have hlt:=(List.getElem?_eq_some_iff.1 Z).1;rw[hT.len] at hlt;have hx:=Cmz hlt;obtain⟨v,xn,a,hv,ha,ex⟩:=Je.1 (List.getElem_mem hlt);rw[ex] at hx;have hrow:=hT.row v xn a hv ha k hx;rw[Z] at hrow;cases hrow;obtain⟨y,hy,hix⟩:=List.mem_map.1 hj;obtain⟨w,hw,hE⟩:=Tg h hp hr0 hv hy;have hm:y∈cN g N:=by
   unfold eT at hix;by_cases hm:y∈cN g N;exact hm;rw[al hm] at hix;omega
  have hidx:(cN g N).idxOf y=j:=by
   unfold eT at hix;rw[ao hm] at hix;omega
  refine⟨_,y,w,hx,?_,hw,hE⟩;rw[← hidx,Cmz (List.idxOf_lt_length_iff.2 hm),List.getElem_idxOf]
 induction hd with
 | one U=>
  obtain⟨x,y,w,a,b,c,d⟩:=edge U;exact⟨x,y,a,b,.one (Aez _) c d⟩
 | step U _ ih=>
  obtain⟨x,y,w,a,b,c,d⟩:=edge U;obtain⟨y',z,a',b',p⟩:=ih;rw[b] at a';cases a';exact⟨x,z,a,b',bG.trans (.one (Aez _) c d) p⟩
end
theorem Jd {c:au}{k:Nat}{x:aH}:∀ (xs:List aH) (i:Nat) (s:List Int×Int),aI ⟨s.2,s.1⟩->k<16->∃ s',eachL (mU c k x) i xs s=some s'/\s'.2=s.2/\dW ⟨s.2,s.1⟩ ⟨s'.2,s'.1⟩/\∀ (j:Nat) (y:aH),xs[j]?=some y->x.Mode=1->y.Mode=2->bD c (k:Int) ((i+j:Nat):Int)->eh ⟨s.2,s.1⟩ (k:Int)->eh ⟨s.2,s.1⟩ ((i+j:Nat):Int)->Rl s'.1 k (i+j)
 | [],i,s,hv,hk=>⟨s,rfl,rfl,dW.refl hv,λj y h=>by simp at h⟩
 | y::xs,i,(t1,t2),hv,hk=>by
  have hl:t1.length<=1048576:=by have:=hv.2.1;have:=hv.2.2.1;dsimp only at *;omega
  have step:∃ s1:List Int×Int,mU c k x i y (t1,t2)=some s1/\aI ⟨s1.2,s1.1⟩/\s1.2=t2/\dW ⟨t2,t1⟩ ⟨s1.2,s1.1⟩/\(x.Mode=1->y.Mode=2->bD c (k:Int) (i:Int)->eh ⟨t2,t1⟩ (k:Int)->eh ⟨t2,t1⟩ (i:Int)->Rl s1.1 k i):=by
   unfold mU;dsimp only;rw[pg,wa (r:=⟨t2,t1⟩) hl];simp only[aj];have old:∀ P:Prop,(x.Mode=1->y.Mode=2->bD c (k:Int) (i:Int)->False)->∃ s1:List Int×Int,some (t1,t2)=some s1/\aI ⟨s1.2,s1.1⟩/\s1.2=t2/\dW ⟨t2,t1⟩ ⟨s1.2,s1.1⟩/\(x.Mode=1->y.Mode=2->bD c (k:Int) (i:Int)->eh ⟨t2,t1⟩ (k:Int)->eh ⟨t2,t1⟩ (i:Int)->Rl s1.1 k i):=λ_ h=>⟨_,rfl,hv,rfl,dW.refl hv,λa b d=>(h a b d).elim⟩
   by_cases p1:bD c (k:Int) (i:Int);by_cases m1:x.Mode=1;by_cases m2:y.Mode=2;simp only[m1,m2,p1,if_true,decide_true,aj];exact⟨_,rfl,oZ hv _ _,(nD _ _ _).2,(dW.refl hv).add _ _,λ_ _ _ n1 n2=>(wu hv _ _ _ _).2 (.inr ⟨n1,n2,rfl,rfl⟩)⟩;simp only[m1,m2,if_true,if_false,decide_false,aj,Eaz];exact⟨_,rfl,hv,rfl,dW.refl hv,λ_ b=>b.elim⟩;simp only[m1,if_false,aj,Eaz];exact⟨_,rfl,hv,rfl,dW.refl hv,λa=>a.elim⟩;by_cases m1:x.Mode=1;by_cases m2:y.Mode=2;simp only[m1,m2,p1,if_true,if_false,decide_true,decide_false,aj,Eaz];exact⟨_,rfl,hv,rfl,dW.refl hv,λ_ _ d=>d.elim⟩;simp only[m1,m2,if_true,if_false,decide_false,aj,Eaz];exact⟨_,rfl,hv,rfl,dW.refl hv,λ_ b=>b.elim⟩;simp only[m1,if_false,aj,Eaz];exact⟨_,rfl,hv,rfl,dW.refl hv,λa=>a.elim⟩
  obtain⟨s1,e1,v1,n1,sb1,r1⟩:=step;obtain⟨s',e2,n2,sb2,r2⟩:=Jd (c:=c) (k:=k) (x:=x) xs (i+1) s1 v1 hk;refine⟨s',by rw[eachL,e1,aj,e2],n2.trans n1,sb1.trans sb2,λj z hj m1 m2 hp a b=>?_⟩;cases j with
  | zero=>
   simp at hj;subst hj;exact sb2.2.2.2 k i (r1 m1 m2 hp a b)
  | succ j=>
   have:=r2 j z (by simpa using hj) m1 m2 (by rwa[show i+1+j=i+(j+1) by omega]) (lE (a:=⟨t2,t1⟩) (b:=⟨s1.2,s1.1⟩) n1.symm _ a) (lE (a:=⟨t2,t1⟩) (b:=⟨s1.2,s1.1⟩) n1.symm _ (by rwa[show i+1+j=i+(j+1) by omega]));rwa[show i+(j+1)=i+1+j by omega]
theorem Jc {c:au}{L:List aH}:∀ (xs:List aH) (i:Nat) (s:List Int×Int),aI ⟨s.2,s.1⟩->i+xs.length<=16->∃ s',eachL (nQ c L) i xs s=some s'/\s'.2=s.2/\dW ⟨s.2,s.1⟩ ⟨s'.2,s'.1⟩/\∀ (k j:Nat) (x y:aH),xs[k]?=some x->L[j]?=some y->x.Mode=1->y.Mode=2->bD c ((i+k:Nat):Int) (j:Int)->eh ⟨s.2,s.1⟩ ((i+k:Nat):Int)->eh ⟨s.2,s.1⟩ (j:Int)->Rl s'.1 (i+k) j
 | [],i,s,hv,_=>⟨s,rfl,rfl,dW.refl hv,λk j x y h=>by simp at h⟩
 | x::xs,i,(t1,t2),hv,hi=>by
  simp only[bH] at hi;obtain⟨s1,e1,n1,sb1,r1⟩:=Jd (c:=c) (k:=i) (x:=x) L 0 (t1,t2) hv (by omega);obtain⟨s',e2,n2,sb2,r2⟩:=Jc (c:=c) (L:=L) xs (i+1) s1 sb1.2.1 (by omega);refine⟨s',?_,n2.trans n1,sb1.trans sb2,λk j x' y hk hj m1 m2 hp a b=>?_⟩;rw[eachL,show nQ c L i x (t1,t2)=some s1 by unfold nQ;dsimp only;rw[e1];rfl,aj,e2];cases k with
  | zero=>
   simp at hk;subst hk;have:=r1 j y hj m1 m2 (by rw[Adz];exact hp) a (by rw[Adz];exact b);rw[Adz] at this;exact sb2.2.2.2 i j this
  | succ k=>
   have:=r2 k j x' y (by simpa using hk) hj m1 m2 (by rwa[show i+1+k=i+(k+1) by omega]) (lE (a:=⟨t2,t1⟩) (b:=⟨s1.2,s1.1⟩) n1.symm _ (by rwa[show i+1+k=i+(k+1) by omega])) (lE (a:=⟨t2,t1⟩) (b:=⟨s1.2,s1.1⟩) n1.symm _ b);rwa[show i+(k+1)=i+1+k by omega]
theorem Sm {g:ak}(h0:Sz.szd g<=1048576)(hS:Shape g){r:aa}(Z:r∈g.rs_){c:au}(hc:aI c){a b:Nat}{x y:aH}(ha:(cL g r.Left)[a]?=some x)(Y:(cL g r.Left)[b]?=some y)(m1:x.Mode=1)(m2:y.Mode=2)(h:Rl c.Rows a b):Rl (eU g r c).Rows a b:=by
 have hpl:(cL g r.Left).length<=16:=by have:=hS.plain r.Left;omega
 have hla:=(List.getElem?_eq_some_iff.1 ha).1;have hlb:=(List.getElem?_eq_some_iff.1 Y).1;have hv:=Bi (n:=((cL g r.Left).length:Int)) (by omega) (by omega);obtain⟨s',e,n1,_,hr'⟩:=Jc (c:=c) (L:=cL g r.Left) (cL g r.Left) 0 (List.replicate ((cL g r.Left).length:Int).toNat 0,((cL g r.Left).length:Int)) hv (by omega);have hs:eU g r c=⟨s'.2,s'.1⟩:=by
  have:=(DZ (iP h0) (iB (Nat.le_trans (ia Z) h0)) (r:=r) c).1;unfold lU at this;rw[Fc (iP h0),aj,EL (by omega) (by omega),aj] at this;dsimp only at this;rw[e,aj] at this;exact (Option.some.inj this).symm
 rw[hs];have:=hr' a b x y ha Y m1 m2 (by rw[Adz];exact (D6 hc a b).2 h) (by rw[Adz];exact⟨by omega,by dsimp only;omega⟩) ⟨by omega,by dsimp only;omega⟩;rwa[Adz] at this
mutual
noncomputable def gE (g:ak):Tr->au
 | .node nm ks=>eU g (dh g nm) (fS g (dh g nm) (eN g ks))
noncomputable def eN (g:ak):List Tr->List au
 | []=>[]
 | t::ts=>gE g t::eN g ts
end
theorem KW (g:ak):∀ ks:List Tr,(eN g ks).length=ks.length
 | []=>rfl
 | t::ts=>by rw[eN,bH,bH,KW g ts]
theorem E6 (g:ak):∀ (ks:List Tr) (j:Nat),(eN g ks)[j]?=(ks[j]?).map (gE g)
 | [],j=>by rw[eN];rfl
 | t::ts,0=>by rw[eN];rfl
 | t::ts,j+1=>by rw[eN,Apz,Apz,E6 g ts]
theorem Shape.occ16' {g:ak}(h:Shape g){r:aa}(Z:r∈g.rs_):(bk g r).length<=16:=by
 have h3:=hJ h Z;have key:∀ (m s:Nat),((List.range' s m).flatMap (b0 g r)).length<=4*m:=by
  intro m
  induction m with
  | zero=>intro s;exact Aez _
  | succ m ih=>
   intro s;rw[List.range'_succ,List.flatMap_cons,Axz];have U:=ih (s+1);have W:(b0 g r s).length<=4:=by unfold b0;rw[bn];exact h.plain _
   omega
 have:=key (r.rt_.length+1) 0;unfold bk;omega
section
variable {g:ak}{N:List Node}
mutual
theorem vP:∀ (T:Tr) (i:Nat) (p q:Int) (s:an),gK g N T i p q s->∀ w x,i<=w->w<i+T.sz->N[w]?=some x->∀ c:Nat,(c:Int)∈x.cn_->w<c/\c<i+T.sz
 | .node nm ks,i,p,q,s,h,w,x,U,W,hx,c,hc=>by
  obtain⟨x',r,hx',Z,e1,e2,e3,e4,e5,e6,e7,e8,en,hk⟩:=h;rw[Tr.sz] at W ⊢;by_cases hw:w=i;subst hw;rw[hx] at hx';cases hx';rw[e5] at hc;obtain⟨j,hj⟩:=Elz hc;have hjl:j<ks.length:=by have:=(List.getElem?_eq_some_iff.1 hj).1;rwa[Aw] at this
  rw[lJ ks (w+1) j hjl] at hj;have hj:c=w+1+Tr.szs (ks.take j):=by injection hj with hj;omega
  have:=Is ks j hjl;omega;have:=Ig ks (i:Int) 1 (i+1) r.rt_ hk w x (by omega) (by omega) hx c hc;omega
theorem Ig:∀ (ks:List Tr) (p:Int) (k b:Nat) (ss:List an),cZ g N ks p k b ss->∀ w x,b<=w->w<b+Tr.szs ks->N[w]?=some x->∀ c:Nat,(c:Int)∈x.cn_->w<c/\c<b+Tr.szs ks
 | [],p,k,b,ss,h,w,x,U,W,hx,c,hc=>by rw[Tr.szs] at W;omega
 | t::ts,p,k,b,ss,h,w,x,U,W,hx,c,hc=>by
  obtain⟨s0,ss',rfl,h3,h4⟩:=h;rw[Tr.szs] at W ⊢;by_cases hw:w<b+t.sz;have:=vP t b p (k:Int) s0 h3 w x U hw hx c hc;omega;have:=Ig ts p (k+1) (b+t.sz) ss' h4 w x (by omega) (by omega) hx c hc;omega
theorem Is:∀ (ks:List Tr) (j:Nat),j<ks.length->Tr.szs (ks.take j)<Tr.szs ks
 | [],j,h=>by simp at h
 | t::ts,0,h=>by rw[Fmz,Tr.szs,Tr.szs];have:=t.pos;omega
 | t::ts,j+1,h=>by
  rw[Bhz,Tr.szs,Tr.szs];have:=Is ts j (by simpa using h);omega
end
theorem wo:∀ (ks:List Tr) (j:Nat) (t:Tr),ks[j]?=some t->Tr.szs (ks.take j)+t.sz<=Tr.szs ks/\Tr.szs (ks.take (j+1))=Tr.szs (ks.take j)+t.sz
 | [],j,t,h=>by simp at h
 | t0::ts,0,t,h=>by simp at h;subst h;simp only[Bhz,Fmz,Tr.szs];omega
 | t0::ts,j+1,t,h=>by
  have:=wo ts j t (by simpa using h);rw[Bhz,Bhz,Tr.szs,Tr.szs,Tr.szs];omega
theorem sC:∀ (ks:List Tr) (i j:Nat),i<=j->Tr.szs (ks.take i)<=Tr.szs (ks.take j)
 | [],i,j,h=>by simp
 | t::ts,0,j,h=>by rw[Fmz,Tr.szs];exact Aez _
 | t::ts,i+1,0,h=>by omega
 | t::ts,i+1,j+1,h=>by rw[Bhz,Bhz,Tr.szs,Tr.szs];have:=sC ts i j (by omega);omega
theorem DK:∀ (ks:List Tr) (n:Nat),n<Tr.szs ks->∃ (j:Nat) (t:Tr),ks[j]?=some t/\Tr.szs (ks.take j)<=n/\n<Tr.szs (ks.take j)+t.sz
 | [],n,h=>by rw[Tr.szs] at h;omega
 | t::ts,n,h=>by
  rw[Tr.szs] at h;by_cases hn:n<t.sz;exact⟨0,t,rfl,by rw[Fmz,Tr.szs];omega,by rw[Fmz,Tr.szs];omega⟩;obtain⟨j,t',U,W,h3⟩:=DK ts (n-t.sz) (by omega);exact⟨j+1,t',U,by rw[Bhz,Tr.szs];omega,by rw[Bhz,Tr.szs];omega⟩
theorem Es {ks:List Tr}{n i j:Nat}{s t:Tr}(hi:ks[i]?=some s)(hj:ks[j]?=some t)(K:Tr.szs (ks.take i)<=n)(a2:n<Tr.szs (ks.take i)+s.sz)(b1:Tr.szs (ks.take j)<=n)(b2:n<Tr.szs (ks.take j)+t.sz):i=j:=by
 have U:=(wo ks i s hi).2;have W:=(wo ks j t hj).2;rcases Ftz i j with h|h|h;have:=sC ks (i+1) j h;omega;exact h;have:=sC ks (j+1) i h;omega
def e9 (N:List Node)(v:Nat)(x:a7):Prop:=∃ xn,N[v]?=some xn/\x.Node=xn.Id
theorem e9.uniq (h:fp g N){v w:Nat}{x:a7}(a:e9 N v x)(b:e9 N w x):v=w:=by
 obtain⟨x1,U,e1⟩:=a;obtain⟨x2,W,e2⟩:=b;exact h.nid U W (e1.symm.trans e2)
theorem lC {u:Nat}{xn:Node}(hu:N[u]?=some xn){o:Oc}{x:a7}(h:eL N u o=some x):x.Name=o.Name/\0<=o.Pos/\((o.Pos=0/\e9 N u x)∨(0<o.Pos/\∃ c:Nat,xn.cn_[(o.Pos-1).toNat]?=some (c:Int)/\e9 N c x)):=by
 unfold eL at h;rw[jQ hu] at h;by_cases U:0<=o.Pos/\o.Pos<=(xn.cn_.length:Int);rw[ao U] at h;by_cases W:0<o.Pos;rw[ao W] at h;have hl:(o.Pos-1).toNat<xn.cn_.length:=by omega
 by_cases h3:0<=xn.cn_.getD (o.Pos-1).toNat 0/\xn.cn_.getD (o.Pos-1).toNat 0<=(N.length:Int)-1;rw[ao h3] at h;cases h;have hg:xn.cn_[(o.Pos-1).toNat]?=some (xn.cn_.getD (o.Pos-1).toNat 0):=by rw[Cwz,Cmz hl];rfl
 generalize xn.cn_.getD (o.Pos-1).toNat 0=c at h3 hg;refine⟨rfl,U.1,.inr ⟨W,c.toNat,by rw[hg];congr 1;omega,?_⟩⟩;have hc:c.toNat<N.length:=by omega
 exact⟨N[c.toNat],Cmz hc,by rw[jQ (Cmz hc)]⟩;rw[al h3] at h;cases h;rw[al W] at h;cases h;exact⟨rfl,U.1,.inl ⟨by omega,xn,hu,rfl⟩⟩;rw[al U] at h;cases h
theorem v7 (h:fp g N){T:Tr}{i:Nat}{p q:Int}{s:an}(hT:gK g N T i p q s){w:Nat}(U:i<=w)(W:w<i+T.sz){xn:Node}(hw:N[w]?=some xn){o:Oc}{x:a7}(hx:eL N w o=some x):∃ v,e9 N v x/\i<=v/\v<i+T.sz/\(v=i->w=i/\o.Pos=0):=by
 obtain⟨_,_,hc⟩:=lC hw hx;rcases hc with ⟨h3,h4⟩|⟨h3,c,h4,h5⟩
 exact⟨w,h4,U,W,λe=>⟨e,h3⟩⟩;have:=vP T i p q s hT w xn U W hw c (Bvz h4);exact⟨c,h5,by omega,this.2,λe=>by omega⟩
theorem sP (h:fp g N){T:Tr}{i:Nat}{p q:Int}{s:an}(hT:gK g N T i p q s){x y:a7}(hp:bG g N i (i+T.sz) x y) :
  (∃ v,e9 N v x/\i<=v/\v<i+T.sz)/\(∃ v,e9 N v y/\i<=v/\v<i+T.sz) /\
  (e9 N i x->∃ (r:aa) (xn:Node) (o:Oc),N[i]?=some xn/\r∈g.rs_/\xn.aa=r.Name/\o.Pos=0/\o.Name=x.Name/\(bR r o).2=true) /\
  (e9 N i y->∃ (r:aa) (xn:Node) (o' o:Oc),N[i]?=some xn/\r∈g.rs_/\xn.aa=r.Name/\o.Pos=0/\o.Name=y.Name/\(bR r o').2=true/\o∈attrs (bR r o').1):=by
 have edge:∀ {w:Nat} {x y:a7},i<=w->w<i+T.sz->oG g N w x y->(∃ v,e9 N v x/\i<=v/\v<i+T.sz)/\(∃ v,e9 N v y/\i<=v/\v<i+T.sz) /\
  (e9 N i x->∃ (r:aa) (xn:Node) (o:Oc),N[i]?=some xn/\r∈g.rs_/\xn.aa=r.Name/\o.Pos=0/\o.Name=x.Name/\(bR r o).2=true) /\
  (e9 N i y->∃ (r:aa) (xn:Node) (o' o:Oc),N[i]?=some xn/\r∈g.rs_/\xn.aa=r.Name/\o.Pos=0/\o.Name=y.Name/\(bR r o').2=true/\o∈attrs (bR r o').1):=λ{w x y} U W hE=>by
  obtain⟨xn,r,o',o,e1,e2,e3,e4,e5,e6,e7⟩:=hE;obtain⟨v,v1,v2,v3,v4⟩:=v7 h hT U W e1 e6;obtain⟨v',u1,u2,u3,u4⟩:=v7 h hT U W e1 e7;refine⟨⟨v,v1,v2,v3⟩,⟨v',u1,u2,u3⟩,λha=>?_,λha=>?_⟩;obtain⟨q1,q2⟩:=v4 (v1.uniq h ha);subst q1;exact⟨r,xn,o',e1,e2,e3,q2,((lC e1 e6).1).symm,e4⟩;obtain⟨q1,q2⟩:=u4 (u1.uniq h ha);subst q1;exact⟨r,xn,o',o,e1,e2,e3,q2,((lC e1 e7).1).symm,e4,e5⟩
 induction hp with
 | one U W h3=>exact edge U W h3
 | snoc _ U W h3 ih=>exact⟨(ih).1,(edge U W h3).2.1,ih.2.2.1,(edge U W h3).2.2.2⟩
end
section
variable {g:ak}{N:List Node}
def Gg (g:ak)(N:List Node)(T:Tr):Prop:=∀ (u:Nat) (p q:Int) (s:an),gK g N T u p q s->∀ (nm:an) (ks:List Tr),T=.node nm ks->∀ (a b:Nat) (oa ob:Oc) (x y:a7),(bk g (dh g nm))[a]?=some oa->(bk g (dh g nm))[b]?=some ob->eL N u ob=some x->eL N u oa=some y->bG g N u (u+T.sz) x y->Rl (fS g (dh g nm) (eN g ks)).Rows a b
theorem Er {s:an}{a:aH}(ha:a∈(bT g s).1.as_)(hm:a.Mode=1∨a.Mode=2):∃ k:Nat,(cL g s)[k]?=some a:=
 Elz (List.mem_filter.2 ⟨ha,decide_eq_true hm⟩)
theorem Ep (hS:Shape g){r:aa}(Z:r∈g.rs_){o:Oc}(hq:(bR r o).2=true):0<=o.Pos/\o.Pos<=(r.rt_.length:Int)/\∃ a∈(bT g (cy r o.Pos)).1.as_,a.Name=o.Name/\a.Mode=if o.Pos=0 then 2 else 1:=by
 obtain⟨q,q1,q2,q3⟩:=Ea hq;have hreq:=Sv hS Z q1;rw[q2] at hreq;unfold cx at hreq;obtain⟨k,hk,hreq⟩:=List.mem_flatMap.1 hreq;rw[List.mem_range'_1] at hk;unfold eW at hreq;obtain⟨a,ha,eo⟩:=List.mem_map.1 hreq;rw[List.mem_filter] at ha;have hmode:a.Mode=if (k:Int)=0 then 2 else 1:=by simpa using ha.2
 have ep:o.Pos=(k:Int):=by rw[← eo]
 rw[ep];exact⟨by omega,by omega,a,ha.1,by rw[← eo],hmode⟩
theorem KV (hS:Shape g){r:aa}(Z:r∈g.rs_){o' o:Oc}(hq:(bR r o').2=true)(ho:o∈attrs (bR r o').1):0<=o.Pos/\o.Pos<=(r.rt_.length:Int)/\∃ a∈(bT g (cy r o.Pos)).1.as_,a.Name=o.Name/\a.Mode=if o.Pos=0 then 1 else 2:=by
 obtain⟨q,q1,q2,q3⟩:=Ea hq;rw[q3] at ho;obtain⟨hm,_⟩:=hS.may Z q1 ho;unfold fI gu at hm;by_cases hp:0<=o.Pos/\o.Pos<=(r.rt_.length:Int);rw[ao hp,Bool.and_eq_true] at hm;obtain⟨U,W⟩:=hm;unfold fc at U W;cases hff:(bT g (cy r o.Pos)).1.as_.find? (λa=>decide (a.Name=o.Name)) with
 | none=>rw[hff] at U;cases U
 | some b=>
  rw[hff] at W;exact⟨hp.1,hp.2,b,Ecz hff,by simpa using List.find?_some hff,of_decide_eq_true W⟩
 rw[al hp] at hm;cases hm
theorem DJ {r:aa}{o:Oc}{a:aH}(U:0<=o.Pos)(W:o.Pos<=(r.rt_.length:Int))(ha:a∈(bT g (cy r o.Pos)).1.as_)(hn:a.Name=o.Name)(hm:a.Mode=1∨a.Mode=2):∃ i:Nat,(bk g r)[i]?=some o:=by
 obtain⟨k,hk⟩:=Er ha hm;obtain⟨p,hp⟩:∃ p:Nat,o.Pos=(p:Int):=⟨o.Pos.toNat,by omega⟩
 rw[hp] at hk;obtain⟨i,_,hi⟩:=DL (r:=r) (k:=p) (by omega) hk;refine⟨i,?_⟩;rw[hi,hn,← hp]
theorem FQ (h0:Sz.szd g<=1048576)(hS:Shape g)(h:fp g N){t:Tr}(hC:Gg g N t){c:Nat}{p q:Int}{s:an}(hT:gK g N t c p q s){x y:a7}(hx:e9 N c x)(hy:e9 N c y)(hp:bG g N c (c+t.sz) x y) :
  ∃ (k1 k2:Nat) (K a2:aH),(cL g s)[k1]?=some K/\K.Name=x.Name/\(cL g s)[k2]?=some a2/\a2.Name=y.Name/\Rl (gE g t).Rows k2 k1:=by
 obtain⟨_,_,ex,ey⟩:=sP h hT hp;obtain⟨r,xn,o,e1,e2,e3,e4,e5,e6⟩:=ex hx;obtain⟨r',xn',o',o2,f1,f2,f3,f4,f5,f6,f7⟩:=ey hy;rw[e1] at f1;cases f1;have:r'=r:=by rw[← gv hS f2,← gv hS e2,← f3,← e3]
 subst this;obtain⟨yn,r0,g1,g2,g3,g4,_,_⟩:=hT.head;rw[e1] at g1;cases g1;have:r0=r':=by rw[← gv hS g2,← gv hS e2,← g3,← e3]
 subst this;obtain⟨_,_,K,m1,n1,k1⟩:=Ep hS e2 e6;obtain⟨_,_,a2,m2,n2,k2⟩:=KV hS e2 f6 f7;rw[ao e4] at k1;rw[ao f4] at k2;have hs0:cy r0 0=r0.Left:=ao rfl;rw[e4,hs0] at m1;rw[f4,hs0] at m2;obtain⟨i1,p1⟩:=Er m1 (.inr k1);obtain⟨i2,p2⟩:=Er m2 (.inl k2);obtain⟨b1,q1,w1⟩:=vO (r:=r0) (List.getElem?_eq_some_iff.1 p1).1;obtain⟨b2,q2,w2⟩:=vO (r:=r0) (List.getElem?_eq_some_iff.1 p2).1;rw[p1] at q1;cases q1;rw[p2] at q2;cases q2;cases t with
 | node nm ks=>
  have hT':=hT;obtain⟨x0,r1,j1,j2,j3,_,_,_,_,_,_,_,en,_⟩:=hT';rw[e1] at j1;cases j1;have:r1=r0:=by rw[← gv hS j2,← gv hS e2,← j3,← e3]
  subst this;have hrl:dh g nm=r1:=by rw[← en];exact gv hS e2
  obtain⟨z1,u1,u2⟩:=hx;rw[e1] at u1;cases u1;obtain⟨z2,v1,v2⟩:=hy;rw[e1] at v1;cases v1;have ax:eL N c ⟨0,K.Name⟩=some x:=by
   rw[Et e1,n1,e5,← u2]
  have ay:eL N c ⟨0,a2.Name⟩=some y:=by
   rw[Et e1,n2,f5,← v2]
  have hR:=hC c p q s hT nm ks rfl i2 i1 _ _ x y (by rw[hrl];exact w2) (by rw[hrl];exact w1) ax ay hp;rw[hrl] at hR;refine⟨i1,i2,K,a2,by rw[← g4];exact p1,by rw[n1,e5],by rw[← g4];exact p2,by rw[n2,f5],?_⟩;rw[gE,hrl];exact Sm h0 hS e2 (Mu h0 e2 _) p2 p1 k2 k1 hR
theorem ON (h0:Sz.szd g<=1048576)(hS:Shape g){ks:List Tr}{p:Int}{k b:Nat}{r:aa}(hl:ks.length=r.rt_.length)(hk:cZ g N ks p k b r.rt_):ny g r (eN g ks):=by
 refine⟨by rw[KW];exact hl,λj own hj=>?_⟩;rw[E6] at hj;cases ht:ks[j]? with
 | none=>rw[ht] at hj;cases hj
 | some t=>
  rw[ht] at hj;have hj:gE g t=own:=Option.some.inj hj;have hlt:=(List.getElem?_eq_some_iff.1 ht).1;rw[hl] at hlt;have hT:=cZ.get hk ht (Cmz hlt);rw[tP (Cmz hlt),← hj];cases t with
  | node nm ks'=>
   obtain⟨x0,r1,j1,j2,j3,j4,_,_,_,_,_,_,en,_⟩:=hT;have hrl:dh g nm=r1:=by rw[← en];exact gv hS j2
   rw[gE,hrl];have:=wb h0 hS r1 (fS g r1 (eN g ks'));rw[j4] at this;exact⟨this.1,this.2.1⟩
theorem Kj {ks:List Tr}{b i j:Nat}(hi:i<ks.length)(hj:j<ks.length)(e:(dU b ks)[i]?=(dU b ks)[j]?):i=j:=by
 rw[lJ ks b i hi,lJ ks b j hj] at e;have e:b+Tr.szs (ks.take i)=b+Tr.szs (ks.take j):=by injection e with e;omega
 have U:=(wo ks i _ (Cmz hi)).2;have W:=(wo ks j _ (Cmz hj)).2;have p1:=(ks[i]).pos;have p2:=(ks[j]).pos;rcases Ftz i j with h|h|h;have:=sC ks (i+1) j h;omega;exact h;have:=sC ks (j+1) i h;omega
mutual
theorem Ir (h0:Sz.szd g<=1048576)(hS:Shape g)(h:fp g N):∀ T:Tr,Gg g N T
 | .node nm ks=>by
  have ih:=Jb h0 hS h ks;intro u p q s hT nm' ks' he a b oa ob x y ha Y hx hy hp;cases he;have hT0:=hT;obtain⟨xn,r,hxn,Z,e1,e2,e3,e4,e5,e6,e7,e8,en,hk⟩:=hT;have hrl:dh g nm=r:=by rw[← en];exact gv hS Z
  rw[hrl] at ha Y ⊢;have hnd:=hS.occ_nodup r;have h16:=hS.occ16' Z;have hcomp:fS g r (eN g ks)=cC (dN g r 0 (eN g ks) (b7 g r)):=al (by omega);obtain⟨lv,ln,lp⟩:=K9 h0 (Nat.le_trans (ia Z) h0) h16;have hcv:=MA (g:=g) (r:=r) (eN g ks) 0 _ lv;have hfit:=ON h0 hS e6 hk;rw[hcomp];have up:∀ {i j:Nat},Rl (dN g r 0 (eN g ks) (b7 g r)).Rows i j->Rl (cC (dN g r 0 (eN g ks) (b7 g r))).Rows i j:=λhij=>(dW.close hcv).2.2.2 _ _ hij;have tr:∀ {i k j:Nat},Rl (cC (dN g r 0 (eN g ks) (b7 g r))).Rows i k->Rl (cC (dN g r 0 (eN g ks) (b7 g r))).Rows k j->Rl (cC (dN g r 0 (eN g ks) (b7 g r))).Rows i j:=λU W=>XM hcv U W;have inN' : ∀ {i:Nat} {o:Oc},(bk g r)[i]?=some o->eh (b7 g r) (i:Int):=λ{i o} hi=>by
   have:=(List.getElem?_eq_some_iff.1 hi).1;exact⟨by omega,by omega⟩
  have oinj:∀ {i i' : Nat} {o:Oc},(bk g r)[i]?=some o->(bk g r)[i']?=some o->i=i':=λ{i i' o} U W=>
   (List.getElem?_inj (List.getElem?_eq_some_iff.1 U).1 hnd).1 (U.trans W.symm)
  -- an occurrence is told by its instance
  have kidAt:∀ {o:Oc} {z:a7},0<o.Pos->eL N u o=some z->∃ (j:Nat) (t:Tr),o.Pos=((j+1:Nat):Int)/\ks[j]?=some t/\e9 N (u+1+Tr.szs (ks.take j)) z:=λ{o z} hpos hz=>by
   obtain⟨_,_,hc⟩:=lC hxn hz;rcases hc with ⟨hc,_⟩|⟨_,c,h4,h5⟩
   omega;have hjl:(o.Pos-1).toNat<ks.length:=by have:=(List.getElem?_eq_some_iff.1 h4).1;rwa[e5,Aw] at this
   rw[e5,lJ ks (u+1) _ hjl] at h4;have:c=u+1+Tr.szs (ks.take (o.Pos-1).toNat):=by injection h4 with h4;omega
   subst this;exact⟨(o.Pos-1).toNat,ks[(o.Pos-1).toNat],by omega,Cmz hjl,h5⟩
  have binj:∀ {o o' : Oc} {z:a7},eL N u o=some z->eL N u o'=some z->o=o':=λ{o o' z} U W=>by
   obtain⟨n1,p1,c1⟩:=lC hxn U;obtain⟨n2,p2,c2⟩:=lC hxn W;have hpos:o.Pos=o'.Pos:=by
    by_cases z1:o.Pos=0;by_cases z2:o'.Pos=0;rw[z1,z2];obtain⟨j,t,q1,q2,q3⟩:=kidAt (by omega) W;have hA:e9 N u z:=by
     rcases c1 with ⟨_,c1⟩|⟨c1,_⟩
     exact c1;omega
    have:=hA.uniq h q3;omega;obtain⟨j,t,q1,q2,q3⟩:=kidAt (by omega) U;by_cases z2:o'.Pos=0;have hA:e9 N u z:=by
     rcases c2 with ⟨_,c2⟩|⟨c2,_⟩
     exact c2;omega
    have:=hA.uniq h q3;omega;obtain⟨j',t',q1',q2',q3'⟩:=kidAt (by omega) W;have e:=q3.uniq h q3';have hj:j=j':=Kj (b:=u+1) (List.getElem?_eq_some_iff.1 q2).1 (List.getElem?_eq_some_iff.1 q2').1 (by rw[lJ ks (u+1) j (List.getElem?_eq_some_iff.1 q2).1,lJ ks (u+1) j' (List.getElem?_eq_some_iff.1 q2').1,e]);rw[q1,q1',hj]
   cases o;cases o';simp only at n1 n2 hpos;rw[hpos,← n1,n2]
  -- a local use
  have loc:∀ {o' o:Oc} {i' : Nat},(bR r o').2=true->o∈attrs (bR r o').1->(bk g r)[i']?=some o'->∃ i:Nat,(bk g r)[i]?=some o/\Rl (cC (dN g r 0 (eN g ks) (b7 g r))).Rows i i':=λ{o' o i'} hq ho hi'=>by
   obtain⟨b1,b2,a2,m2,n2,k2⟩:=KV hS Z hq ho;obtain⟨i,hi⟩:=DJ b1 b2 m2 n2 (by split at k2<;>simp[k2]);refine⟨i,hi,up ((Fa g r (eN g ks) 0 _ lv).2.2.2 i i' ((lp i i').2 ⟨o',hi',o,ho,Sw hnd hi⟩))⟩
  -- from a child's root to a child's root
  have kid:∀ {j:Nat} {t:Tr} {s' i0:Nat} {os oz:Oc} {z1 z2:a7},ks[j]?=some t->(bk g r)[s']?=some os->(bk g r)[i0]?=some oz->eL N u os=some z1->eL N u oz=some z2->e9 N (u+1+Tr.szs (ks.take j)) z1->e9 N (u+1+Tr.szs (ks.take j)) z2->bG g N (u+1+Tr.szs (ks.take j)) (u+1+Tr.szs (ks.take j)+t.sz) z1 z2->Rl (cC (dN g r 0 (eN g ks) (b7 g r))).Rows i0 s':=λ{j t s' i0 os oz z1 z2} hj hs hz K a2 at1 at2 hpath=>by
   have hjl:=(List.getElem?_eq_some_iff.1 hj).1;have hjr:j<r.rt_.length:=by rw[← e6];exact hjl
   have hTj:=cZ.get hk hj (Cmz hjr);obtain⟨k1,k2,b1,b2,w1,w2,w3,w4,w5⟩:=FQ h0 hS h (ih t (Bvz hj)) hTj at1 at2 hpath;have posj:∀ {o:Oc} {z:a7},eL N u o=some z->e9 N (u+1+Tr.szs (ks.take j)) z->o.Pos=((j+1:Nat):Int):=λ{o z} ho hz=>by
    obtain⟨_,p1,c1⟩:=lC hxn ho;rcases c1 with ⟨_,c1⟩|⟨c1,_⟩
    have:=c1.uniq h hz;omega;obtain⟨j',t',q1,q2,q3⟩:=kidAt c1 ho;have e:=q3.uniq h hz;have hjj:j'=j:=Kj (b:=u+1) (List.getElem?_eq_some_iff.1 q2).1 hjl (by rw[lJ ks (u+1) j' (List.getElem?_eq_some_iff.1 q2).1,lJ ks (u+1) j hjl,e]);rw[q1,hjj]
   have hsym:cy r ((j+1:Nat):Int)=r.rt_[j]:=tP (Cmz hjr);obtain⟨i1,v1,v2⟩:=DL (r:=r) (k:=j+1) (by omega) (by rw[hsym];exact w1);obtain⟨i2,v3,v4⟩:=DL (r:=r) (k:=j+1) (by omega) (by rw[hsym];exact w3);have es:(⟨((j+1:Nat):Int),b1.Name⟩:Oc)=os:=by
    have:=posj K at1;have hn:=(lC hxn K).1;cases os;simp only at this hn;rw[this,w2,hn]
   have ez:(⟨((j+1:Nat):Int),b2.Name⟩:Oc)=oz:=by
    have:=posj a2 at2;have hn:=(lC hxn a2).1;cases oz;simp only at this hn;rw[this,w4,hn]
   rw[es] at v2;rw[ez] at v4;have f1:=oinj v2 hs;have f2:=oinj v4 hz;subst f1;subst f2;have hown:(eN g ks)[j]?=some (gE g t):=by rw[E6,hj];rfl
   have hvo:=(hfit.2 j _ hown).1;exact up (Kk (eN g ks) 0 _ lv j k2 k1 i2 i1 _ hown ((D6 hvo k2 k1).2 w5) (by rw[Adz];exact v3) (by rw[Adz];exact v1) (inN' v4) (inN' v2))
  -- where an edge's ends lie
  have inKid:∀ {w:Nat} {z1 z2:a7},u<w->w<u+(Tr.node nm ks).sz->oG g N w z1 z2->∃ (j:Nat) (t:Tr) (v1 v2:Nat),ks[j]?=some t/\u+1+Tr.szs (ks.take j)<=w/\w<u+1+Tr.szs (ks.take j)+t.sz/\e9 N v1 z1/\u+1+Tr.szs (ks.take j)<=v1/\v1<u+1+Tr.szs (ks.take j)+t.sz/\e9 N v2 z2/\u+1+Tr.szs (ks.take j)<=v2/\v2<u+1+Tr.szs (ks.take j)+t.sz:=λ{w z1 z2} U W hE=>by
   rw[Tr.sz] at W;obtain⟨j,t,hj,b1,b2⟩:=DK ks (w-(u+1)) (by omega);have hjr:j<r.rt_.length:=by rw[← e6];exact (List.getElem?_eq_some_iff.1 hj).1
   have hTj:=cZ.get hk hj (Cmz hjr);obtain⟨wn,r',o',o,q1,q2,q3,q4,q5,q6,q7⟩:=hE;obtain⟨v,c1,c2,c3,_⟩:=v7 h hTj (w:=w) (by omega) (by omega) q1 q6;obtain⟨v',d1,d2,d3,_⟩:=v7 h hTj (w:=w) (by omega) (by omega) q1 q7;exact⟨j,t,v,v',hj,by omega,by omega,c1,c2,c3,d1,d2,d3⟩
  -- a boundary instance within a child's tree is at the child
  have bdKid:∀ {o:Oc} {z:a7} {j v:Nat} {t:Tr},eL N u o=some z->ks[j]?=some t->e9 N v z->u+1+Tr.szs (ks.take j)<=v->v<u+1+Tr.szs (ks.take j)+t.sz->e9 N (u+1+Tr.szs (ks.take j)) z:=λ{o z j v t} ho hj hv U W=>by
   obtain⟨_,p1,c1⟩:=lC hxn ho;rcases c1 with ⟨_,c1⟩|⟨c1,_⟩
   have:=c1.uniq h hv;omega;obtain⟨j',t',q1,q2,q3⟩:=kidAt c1 ho;have e:=q3.uniq h hv;have hjj:j'=j:=Es (n:=v-(u+1)) q2 hj (by omega) (by have:=t'.pos;omega) (by omega) (by omega);subst hjj;exact q3
  -- what is so of all that is reached
  have key:∀ {z:a7},bG g N u (u+(Tr.node nm ks).sz) x z ->
    (∃ (i:Nat) (o:Oc),(bk g r)[i]?=some o/\eL N u o=some z/\Rl (cC (dN g r 0 (eN g ks) (b7 g r))).Rows i b) ∨
    (∃ (j:Nat) (t:Tr) (s' : Nat) (os:Oc) (z1:a7),ks[j]?=some t/\(bk g r)[s']?=some os/\eL N u os=some z1/\e9 N (u+1+Tr.szs (ks.take j)) z1/\(s'=b∨Rl (cC (dN g r 0 (eN g ks) (b7 g r))).Rows s' b)/\bG g N (u+1+Tr.szs (ks.take j)) (u+1+Tr.szs (ks.take j)+t.sz) z1 z):=λ{z} hpz=>by
   induction hpz with
   | one w1 w2 hE=>
    rename_i w x y;by_cases hw:w=u;subst hw;obtain⟨xn',r',o',o,q1,q2,q3,q4,q5,q6,q7⟩:=hE;rw[hxn] at q1;cases q1;have:r'=r:=by rw[← gv hS q2,← gv hS Z,← q3,← e1]
    subst this;have:=binj q6 hx;subst this;obtain⟨i,i1,i2⟩:=loc q4 q5 Y;exact .inl ⟨i,o,i1,q7,i2⟩;obtain⟨j,t,v1,v2,hj,b1,b2,c1,c2,c3,d1,d2,d3⟩:=inKid (by omega) w2 hE;exact .inr ⟨j,t,b,ob,x,hj,Y,hx,bdKid hx hj c1 c2 c3,.inl rfl,.one b1 b2 hE⟩
   | snoc hpz w1 w2 hE ih2=>
    rename_i w x z z';have ih2:=ih2 hx hp;by_cases hw:w=u;subst hw;obtain⟨xn',r',o',o,q1,q2,q3,q4,q5,q6,q7⟩:=hE;rw[hxn] at q1;cases q1;have:r'=r:=by rw[← gv hS q2,← gv hS Z,← q3,← e1]
    subst this;rcases ih2 with ⟨i,o1,i1,i2,i3⟩|⟨j,t,s',os,z1,hj,s1,s2,s3,s4,s5⟩
    have:=binj q6 i2;subst this;obtain⟨i',j1,j2⟩:=loc q4 q5 i1;exact .inl ⟨i',o,j1,q7,tr j2 i3⟩;obtain⟨c1,c2,K,m1,n1,k1⟩:=Ep hS Z q4;obtain⟨i0,hi0⟩:=DJ c1 c2 m1 n1 (by split at k1<;>simp[k1]);have hjr:j<r'.rt_.length:=by rw[← e6];exact (List.getElem?_eq_some_iff.1 hj).1
    have hTj:=cZ.get hk hj (Cmz hjr);obtain⟨_,⟨v,v1,v2,v3⟩,_,_⟩:=sP h hTj s5;have hzk:=bdKid q6 hj v1 v2 v3;have hR:=kid hj s1 hi0 s2 q6 s3 hzk s5;obtain⟨i',j1,j2⟩:=loc q4 q5 hi0;rcases s4 with s4|s4;subst s4;exact .inl ⟨i',o,j1,q7,tr j2 hR⟩;exact .inl ⟨i',o,j1,q7,tr j2 (tr hR s4)⟩;obtain⟨j,t,v1,v2,hj,b1,b2,c1,c2,c3,d1,d2,d3⟩:=inKid (by omega) w2 hE;rcases ih2 with ⟨i,o1,i1,i2,i3⟩|⟨j',t',s',os,z1,hj',s1,s2,s3,s4,s5⟩
    exact .inr ⟨j,t,i,o1,z,hj,i1,i2,bdKid i2 hj c1 c2 c3,.inr i3,.one b1 b2 hE⟩;have hjr:j'<r.rt_.length:=by rw[← e6];exact (List.getElem?_eq_some_iff.1 hj').1
    have hTj:=cZ.get hk hj' (Cmz hjr);obtain⟨_,⟨v,u1,u2,u3⟩,_,_⟩:=sP h hTj s5;have:=u1.uniq h c1;subst this;have hjj:j'=j:=Es (n:=v-(u+1)) hj' hj (by omega) (by omega) (by omega) (by omega);subst hjj;rw[hj] at hj';cases hj';exact .inr ⟨j',t,s',os,z1,hj,s1,s2,s3,s4,.snoc s5 b1 b2 hE⟩
  rcases key hp with ⟨i,o,i1,i2,i3⟩|⟨j,t,s',os,z1,hj,s1,s2,s3,s4,s5⟩
  have:=binj i2 hy;subst this;rw[oinj ha i1];exact i3;have hjr:j<r.rt_.length:=by rw[← e6];exact (List.getElem?_eq_some_iff.1 hj).1
  have hTj:=cZ.get hk hj (Cmz hjr);obtain⟨_,⟨v,v1,v2,v3⟩,_,_⟩:=sP h hTj s5;have hR:=kid hj s1 ha s2 hy s3 (bdKid hy hj v1 v2 v3) s5;rcases s4 with s4|s4;subst s4;exact hR;exact tr hR s4
theorem Jb (h0:Sz.szd g<=1048576)(hS:Shape g)(h:fp g N):∀ (ks:List Tr) (t:Tr),t∈ks->Gg g N t
 | [],t,ht=>nomatch ht
 | t0::ts,t,ht=>by
  rcases List.mem_cons.1 ht with e|e;rw[e];exact Ir h0 hS h t0;exact Jb h0 hS h ts t e
end
end
section
variable {g:ak}{N:List Node}
def mG (x:Node)(r:aa)(bb:Bool)(p q:Int)(s:an):Prop:=bb=true/\r.Left=s/\x.Parent=p/\x.Place=q/\x.cn_.length=r.rt_.length/\kt x.ll_ 1=true/\(r.ll_=true∨x.ll_=0)
theorem If {i:Nat}(hi:i<1000000){x:Node}{r:aa}{bb:Bool}(hx:N[i]?=some x)(hf:jy g x.aa=some (r,bb))(rec:ak->aC->Int->Int->Int->an->Option Int)(p q:Int)(s:an) :
  (mG x r bb p q s->mO rec g ⟨N⟩ (i:Int) p q s=(findL (pn rec g ⟨N⟩ (i:Int) x) 0 r.rt_ ((i+1:Nat):Int)).bind (bf (λr1=>some r1) λs7=>some s7))/\(¬ mG x r bb p q s->mO rec g ⟨N⟩ (i:Int) p q s=some (-1)):=by
 have hlt:=(List.getElem?_eq_some_iff.1 hx).1;have e1:¬ ((N.length:Int)<=(i:Int)):=by omega
 have e2:(i:Int)+1=((i+1:Nat):Int):=by omega
 unfold mG;refine⟨λ⟨c1,c2,c3,c4,c5,c6,c7⟩=>?_,λhn=>?_⟩;have hlit:((if r.ll_=true then some false else some (!(decide (x.ll_=0)))).bind λs6:Bool=>some s6)=some false:=by
  by_cases hl:r.ll_=true;rw[ao hl];rfl;rw[al hl,decide_eq_true (c7.resolve_left hl)];rfl
 unfold mO;dsimp only;rw[al e1,aD (by omega),cE,hx,aj,hf,aj];dsimp only;rw[EO,e2,ao c1,decide_eq_true c2,aj,al (by decide),decide_eq_true c3,aj,al (by decide),decide_eq_true c4,aj,al (by decide),decide_eq_true (by rw[c5]:(x.cn_.length:Int)=(r.rt_.length:Int)),aj,al (by decide),aj,ao c6,hlit,aj,al (by decide),aD (by constructor<;>omega)];unfold mO;dsimp only;rw[al e1,aD (by omega),cE,hx,aj,hf,aj];dsimp only;rw[EO,e2];by_cases c1:bb=true;by_cases c2:r.Left=s;by_cases c3:x.Parent=p;by_cases c4:x.Place=q;by_cases c5:x.cn_.length=r.rt_.length;by_cases c6:kt x.ll_ 1=true;have c7:¬ (r.ll_=true∨x.ll_=0):=λh=>hn ⟨c1,c2,c3,c4,c5,c6,h⟩;have c8:¬ r.ll_=true:=λh=>c7 (.inl h);have c9:¬ x.ll_=0:=λh=>c7 (.inr h);simp[c1,c2,c3,c4,c5,c6,c8,c9];simp[c1,c2,c3,c4,c5,c6];have:¬ ((x.cn_.length:Int)=(r.rt_.length:Int)):=by omega
 simp[c1,c2,c3,c4,this];simp[c1,c2,c3,c4];simp[c1,c2,c3];simp[c1,c2];simp[c1]
theorem Ie {d i:Nat}{x:Node}(hi:i<=1000000)(ih:∀ (i:Nat) (p q:Int) (s:an),N.length<=i+d->∃ len:Int,(∀ n,d+1<=n->iZ n g ⟨N⟩ (i:Int) p q s=some len)/\(len<0->len = -1)/\(0<=len->∃ T,gK g N T i p q s/\len=((i+T.sz:Nat):Int)))(hd:N.length<=i+1+d):∀ (ss:List an) (k b:Nat),i+1<=b->x.cn_.length=k+ss.length ->
  ∃ res:Int ⊕ Int,(∀ n,d+1<=n->findL (pn (iZ n) g ⟨N⟩ (i:Int) x) k ss (b:Int)=some res)/\(∀ r,res=.inr r->r = -1)/\(∀ e,res=.inl e->∃ ks:List Tr,ks.length=ss.length/\x.cn_.drop k=dU b ks/\cZ g N ks (i:Int) (k+1) b ss/\e=((b+Tr.szs ks:Nat):Int))
 | [],k,b,Y,hl=>⟨.inl (b:Int),λn _=>rfl,λr h=>(nomatch h),λe h=>by
   cases h;refine⟨[],rfl,?_,trivial,by rw[Tr.szs];rfl⟩;rw[List.drop_eq_nil_of_le (by simp at hl;omega),dU]⟩
 | s::ss,k,b,Y,hl=>by
  simp only[bH] at hl;have hk:k<x.cn_.length:=by omega
  by_cases hx2:x.cn_[k]=(b:Int);obtain⟨len,w1,w2,w3⟩:=ih b (i:Int) ((k+1:Nat):Int) s (by omega);have hstep:∀ n,d+1<=n->pn (iZ n) g ⟨N⟩ (i:Int) x k s (b:Int)=if len<0 then some (.inr (-1)) else some (.inl len):=λn hn=>by
   unfold pn;rw[Cmz hk,aj,ao hx2,w1 n hn,aj]
  by_cases hneg:len<0;refine⟨.inr (-1),λn hn=>?_,λr h=>by cases h;rfl,λe h=>nomatch h⟩;rw[findL,hstep n hn,ao hneg];rfl;obtain⟨T,hT,hlen⟩:=w3 (by omega);obtain⟨res,v1,v2,v3⟩:=Ie (x:=x) hi ih hd ss (k+1) (b+T.sz) (by omega) (by omega);refine⟨res,λn hn=>?_,v2,λe h=>?_⟩;rw[findL,hstep n hn,al hneg,aj,hlen];exact v1 n hn;obtain⟨ks,u1,u2,u3,u4⟩:=v3 e h;refine⟨T::ks,by simp[u1],?_,⟨s,ss,rfl,hT,u3⟩,by rw[u4,Tr.szs];congr 1;omega⟩;rw[List.drop_eq_getElem_cons hk,hx2,u2,dU];refine⟨.inr (-1),λn hn=>?_,λr h=>by cases h;rfl,λe h=>nomatch h⟩;have hstep:pn (iZ n) g ⟨N⟩ (i:Int) x k s (b:Int)=some (.inr (-1)):=by
   unfold pn;rw[Cmz hk,aj,al hx2]
  rw[findL,hstep];rfl
theorem UB (h0:Sz.szd g<=1048576)(hN:N.length<=100000):∀ (d i:Nat) (p q:Int) (s:an),N.length<=i+d->∃ len:Int,(∀ n,d+1<=n->iZ n g ⟨N⟩ (i:Int) p q s=some len)/\(len<0->len = -1)/\(0<=len->∃ T,gK g N T i p q s/\len=((i+T.sz:Nat):Int)):=by
 intro d
 induction d with
 | zero=>
  intro i p q s hd;refine⟨-1,λn hn=>?_,λ_=>rfl,λh=>by omega⟩;obtain⟨m,rfl⟩:∃ m,n=m+1:=⟨n-1,by omega⟩
  rw[iZ];unfold mO;dsimp only;rw[ao (by omega)]
 | succ d ih=>
  intro i p q s hd;by_cases hi:i<N.length;have hx:N[i]?=some N[i]:=Cmz hi;generalize N[i]=x at hx;obtain⟨r,bb,hf,hf1,_⟩:=wY h0 x.aa;by_cases hc:mG x r bb p q s;obtain⟨res,v1,v2,v3⟩:=Ie (x:=x) (i:=i) (by omega) ih (by omega) r.rt_ 0 (i+1) (Nat.le_refl _) (by rw[Adz];exact hc.2.2.2.2.1);have hrun:∀ n,d+1+1<=n->iZ n g ⟨N⟩ (i:Int) p q s=some (match res with|.inl e=>e|.inr e=>e):=λn hn=>by
   obtain⟨m,rfl⟩:∃ m,n=m+1:=⟨n-1,by omega⟩
   rw[iZ,(If (by omega) hx hf (iZ m) p q s).1 hc,v1 m (by omega)];cases res<;>rfl
  cases res with
  | inr e=>
   have:=v2 e rfl;subst this;exact⟨-1,hrun,λ_=>rfl,λh=>by omega⟩
  | inl e=>
   obtain⟨ks,u1,u2,u3,u4⟩:=v3 e rfl;refine⟨e,hrun,λh=>by omega,λ_=>⟨.node r.Name ks,?_,by rw[u4,Tr.sz];congr 1;omega⟩⟩;obtain⟨c1,c2,c3,c4,c5,c6,c7⟩:=hc;obtain⟨Z,hnm⟩:=hf1 c1;exact⟨x,r,hx,Z,hnm.symm,c2,c3,c4,by rw[← u2];rfl,u1,c6,c7,rfl,u3⟩
  refine⟨-1,λn hn=>?_,λ_=>rfl,λh=>by omega⟩;obtain⟨m,rfl⟩:∃ m,n=m+1:=⟨n-1,by omega⟩
  rw[iZ];exact (If (by omega) hx hf (iZ m) p q s).2 hc;refine⟨-1,λn hn=>?_,λ_=>rfl,λh=>by omega⟩;obtain⟨m,rfl⟩:∃ m,n=m+1:=⟨n-1,by omega⟩
  rw[iZ];unfold mO;dsimp only;rw[ao (by omega)]
theorem Ja:∀ (xs:List Node) (k:Nat) (s:List Int),s.Nodup->s.length+xs.length<=1000000->findL mP k xs s=some (.inr false)∨(findL mP k xs s=some (.inl (s++xs.map Node.Id))/\(s++xs.map Node.Id).Nodup)
 | [],k,s,hs,_=>.inr (by rw[List.map_nil,List.append_nil];exact⟨rfl,hs⟩)
 | x::xs,k,s,hs,hl=>by
  simp only[bH] at hl;rw[findL];by_cases U:1<=x.Id/\x.Id<=999;by_cases W:x.Id∈s;left;have e:mP k x s=some (.inr false):=by
   unfold mP;rw[fQ,aj,ao (decide_eq_true U),wZ,aj,ao (decide_eq_true W)]
  rw[e];rfl;have e:mP k x s=some (.inl (s++[x.Id])):=by
   unfold mP;rw[fQ,aj,ao (decide_eq_true U),wZ,aj,al (by rw[decide_eq_false W];decide),aD (by constructor<;>omega)]
  rw[e,aj];dsimp only;have:=Ja xs (k+1) (s++[x.Id]) (by
   rw[List.nodup_append];refine⟨hs,by simp,λa ha b Y=>?_⟩;rw[List.mem_singleton] at Y;subst Y;intro e;subst e;exact W ha) (by simp;omega)
  rw[List.append_assoc] at this;exact this;left;have e:mP k x s=some (.inr false):=by
   unfold mP;rw[fQ,aj,al (by rw[decide_eq_false U];decide)]
  rw[e];rfl
theorem Wi (h0:Sz.szd g<=1048576)(hN:N.length<=100000)(s:an):∃ bt,pk g ⟨N⟩ s=some bt/\(bt=true->1<=N.length/\N.length<=16/\(N.map Node.Id).Nodup/\∃ T,gK g N T 0 (-1) 0 s/\T.sz=N.length):=by
 have hids:qE ⟨N⟩=some false∨(qE ⟨N⟩=some (decide (1<=(N.length:Int)/\(N.length:Int)<=16))/\(N.map Node.Id).Nodup):=by
  unfold qE;dsimp only;rcases Ja N 0 [] List.nodup_nil (by simp;omega) with h|⟨h,hn⟩
  left;rw[h];rfl;right;rw[h,aj];rw[List.nil_append] at hn ⊢;refine⟨?_,hn⟩;show (cW ((N.map Node.Id:List Int).length:Int) 1 16).bind _=_;rw[fQ,aj,bn]
 unfold pk;rcases hids with h|⟨h,hn⟩
 rw[h,aj,al Bool.false_ne_true];exact⟨false,rfl,λh=>nomatch h⟩;rw[h,aj];by_cases Z:1<=(N.length:Int)/\(N.length:Int)<=16;obtain⟨len,w1,w2,w3⟩:=UB (N:=N) h0 hN N.length 0 (-1) 0 s (by omega);have hw:xx g ⟨N⟩ 0 (-1) 0 s=some len:=by
  unfold xx;exact iA _ w1
 rw[ao (decide_eq_true Z),hw,aj];refine⟨_,rfl,λhe=>?_⟩;have he:len=(N.length:Int):=of_decide_eq_true he;obtain⟨T,hT,hz⟩:=w3 (by omega);exact⟨by omega,by omega,hn,T,hT,by omega⟩;rw[al (by rw[decide_eq_false Z];decide)];exact⟨false,rfl,λh=>nomatch h⟩
end
theorem UA {g:ak}(h0:Sz.szd g<=1048576)(hg:nh g=true){F:List (List aJ)}(hF:qP g=some F):pz g=some (g.rs_.any (gk g (aY F))):=by
 obtain⟨b,U,W⟩:=Gt h0;have hS:=FC hg;obtain⟨F',k1,k2,k3⟩:=E8 h0 hS;rw[hF] at k1;cases k1;obtain⟨o,h4⟩:=Kl h0 hS k3;rw[U,← W];unfold rA;rw[JY h0,aj,hg,ao rfl,hF,aj,h4];rfl
end Go.Proofs.YtodhafdaelcnlaaGreat
