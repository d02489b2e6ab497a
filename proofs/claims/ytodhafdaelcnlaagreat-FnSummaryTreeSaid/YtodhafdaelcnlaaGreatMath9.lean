/- What those partial functions come to: plain lemmas on data; each bears its conditions in its statement. -/
import Derived.Test.YtodhafdaelcnlaaGreatMath8
set_option linter.unusedVariables false
set_option linter.unusedSimpArgs false
set_option linter.ambiguousOpen false
set_option linter.unusedSectionVars false
set_option linter.unnecessarySimpa false
set_option maxRecDepth 100000
set_option maxHeartbeats 4000000
open List renaming length_nil->Dyz,nil_append->Ecz,mem_of_getElem?->Bvz,getElem?_of_mem->Ekz,length_append->Axz,set_cons_zero->Cdz,map_cons->Blz,map_append->Diz,take_zero->Fdz,take_succ_cons->Bhz,append_nil->Cgz,getElem?_map->Czz,append_assoc->Azz,take_length->Fbz,getElem?_append_right->Auz,replicate->Bqz,length_replicate->Ddz,getD_eq_getElem?_getD->Cwz,getElem?_eq_getElem->Cmz,getElem?_set_self->Eyz,mem_singleton->Bpz,length_singleton->Coz
open Nat renaming zero_le->Aez,zero_add->Adz,le_refl->Acz,sub_self->Fpz
namespace Go.Proofs.YtodhafdaelcnlaaGreat
open Go Go.E
def OM:ae:=⟨⟨#[]⟩,⟨#[]⟩,[],false,[],[]⟩
theorem Fz {α:Type}{B:Nat}{f:Nat->α->List α->Option (List α)}:∀ (xs:List α) (i:Nat) (s:List α),(∀ k x s,x∈xs->s.length<B->f k x s=some (s++[x]))->s.length+xs.length<=B->eachL f i xs s=some (s++xs)
 | [],i,s,_,_=>by simp[eachL]
 | x::xs,i,s,hf,h=>by
  simp only[bE] at h;rw[eachL,hf i x s (by simp) (by omega),aj,Fz xs (i+1) _ (λk y s hy=>hf k y s (by simp[hy])) (by simp;omega)];simp
theorem Pw {r:ae}(h:Sz.szd r<=1048576):tU r=some r:=by
 have h0:=pA r;have U:=jj r.es_;have K:=jj r.cs_;have h3:=jj r.rt_;unfold tU;rw[aF (by simp only[Dyz];constructor<;>omega),Fz (B:=1048576) r.es_ 0 [] (λk x s hx hs=>by
  have q1:=om hx;have q2:=yw x;have q3:=fQ x.Expr;unfold MU;rw[AV (by omega),aj,aF (by constructor<;>omega)]) (by simp;omega),aj,Fz (B:=1048576) r.cs_ 0 [] (λk x s hx hs=>by
  have q1:=om hx;have q2:=CI x;have q3:=fQ x.Target;have q4:=fQ x.Value;unfold MS;rw[AV (by omega),aj,AV (by omega),aj,aF (by constructor<;>omega)]) (by simp;omega),aj]
 simp
theorem Shape.rnames {g:al}(h:Shape g){k j:Nat}{x y:ae}(hk:g.rs_[k]?=some x)(hj:g.rs_[j]?=some y)(hn:x.Name=y.Name):k=j:=by
 have key:∀ {k j:Nat} {x y:ae},g.rs_[k]?=some x->g.rs_[j]?=some y->x.Name=y.Name->¬ k<j:=by
  intro k j x y hk hj hn hlt;have:=pM _ _ h.rule j y hj;unfold jL at this;rw[Bool.or_eq_false_iff] at this;have K:=this.2;unfold dC at K;rw[Ecz,List.any_eq_false] at K;exact K x (Bvz (i:=k) (by rw[List.getElem?_take,ao hlt];exact hk)) (by simpa using hn)
 have U:=key hk hj hn;have K:=key hj hk hn.symm;omega
theorem yf {g:al}(h0:Sz.szd g<=1048576)(hS:Shape g){r:ae}(Z:r∈g.rs_):nu g r.Name=some (r,true):=by
 have key:∀ (xs:List ae) (i:Nat),(∀ x∈xs,x∈g.rs_)->r∈xs->findL (yA r.Name) i xs ()=some (.inr (r,true)):=by
  intro xs
  induction xs with
  | nil=>intro i _ h;exact nomatch h
  | cons x xs ih=>
   intro i hx hm;rw[findL];by_cases e:x.Name=r.Name;obtain⟨k,hk⟩:=Ekz (hx x (by simp));obtain⟨j,hj⟩:=Ekz Z;have:=hS.rnames hk hj e;subst this;rw[hk] at hj;have e2:x=r:=Option.some.inj hj;rw[e2];unfold yA;rw[ao rfl,Pw (Nat.le_trans (ib Z) h0),aj];rfl;unfold yA;rw[an e,aj];rcases List.mem_cons.1 hm with h|h;exact absurd (by rw[h]) e;exact ih (i+1) (λy hy=>hx y (by simp[hy])) h
 unfold nu;rw[key g.rs_ 0 (λ_ h=>h) Z];rfl
def z0 (_:Nat):Int:=0
def oy (b:Int)(x:Node):Node:=⟨x.Id,x.Parent+b,x.Place,x.ll_,x.ae,x.cn_.map λc=>c+b⟩
def l9 (b:Int)(k:Nat):List Node->List Node
 | []=>[]
 | x::xs=>(⟨x.Id,0,((k+1:Nat):Int),x.ll_,x.ae,x.cn_.map λc=>c+b⟩:Node)::xs.map (oy b)
theorem Er (b:Int)(k:Nat):∀ l:List Node,(l9 b k l).length=l.length
 | []=>rfl
 | x::xs=>by simp[l9]
def fy:List az->Nat
 | []=>0
 | y::ys=>y.ns_.length+fy ys
def iA:Nat->List az->List Int
 | _,[]=>[]
 | b,y::ys=>(b:Int)::iA (b+y.ns_.length) ys
def iS:Nat->Nat->List az->List Node
 | _,_,[]=>[]
 | k,b,y::ys=>l9 (b:Int) k y.ns_++iS (k+1) (b+y.ns_.length) ys
theorem AO:∀ (ys:List az) (k b:Nat),(iS k b ys).length=fy ys
 | [],_,_=>rfl
 | y::ys,k,b=>by rw[iS,fy,Axz,Er,AO ys]
theorem Jq:∀ (ys:List az) (b:Nat),(iA b ys).length=ys.length
 | [],_=>rfl
 | y::ys,b=>by rw[iA,bE,bE,Jq ys]
def sD (B:Nat)(x:Node):Prop:=(-1<=x.Parent/\x.Parent<=(B:Int))/\(∀ c∈x.cn_,0<=c/\c<=(B:Int))/\x.cn_.length<=3
def wi (y:az):Prop:=∀ x∈y.ns_,sD y.ns_.length x
theorem HX {s1:List Node}(U:s1.length<=100000){cs:List Int}{B:Nat}(hB:B<=100000)(hc:∀ c∈cs,0<=c/\c<=(B:Int))(hl:cs.length<=3):eachL (BV s1) 0 cs ([]:List Int)=some (cs.map λc=>c+(s1.length:Int))/\eachL (BU s1) 0 cs ([]:List Int)=some (cs.map λc=>c+(s1.length:Int)):=by
 constructor;rw[oh (g:=λc:Int=>c+(s1.length:Int)) (B:=1048576) cs 0 [] (λk x s hx hs=>by
  have:=hc x hx;unfold BV;rw[aF (by constructor<;>omega),aF (by constructor<;>omega)]) (by simp;omega),Ecz]
 rw[oh (g:=λc:Int=>c+(s1.length:Int)) (B:=1048576) cs 0 [] (λk x s hx hs=>by
  have:=hc x hx;unfold BU;rw[aF (by constructor<;>omega),aF (by constructor<;>omega)]) (by simp;omega),Ecz]
theorem Lw {s1:List Node}(U:s1.length<=100000){B:Nat}(hB:B<=100000)(k:Nat):∀ (xs:List Node) (i:Nat) (s:List Node),1<=i->(∀ x∈xs,sD B x)->s.length+xs.length<=1000000->eachL (pV s1 k) i xs s=some (s++xs.map (oy (s1.length:Int)))
 | [],i,s,_,_,_=>by rw[eachL];simp
 | x::xs,i,s,hi,hx,hl=>by
  simp only[bE] at hl;obtain⟨⟨p1,p2⟩,p3,p4⟩:=hx x (by simp);have e:pV s1 k i x s=some (s++[oy (s1.length:Int) x]):=by
   unfold pV;rw[aF (by constructor<;>omega),an (by omega),(HX U hB p3 p4).2,aj,aF (by constructor<;>omega),aj];rfl
  rw[eachL,e,aj,Lw U hB k xs (i+1) _ (by omega) (λy hy=>hx y (by simp[hy])) (by simp;omega)];simp
theorem UR {s1:List Node}(U:s1.length<=100000){B:Nat}(hB:B<=100000)(k:Nat)(xs:List Node)(s:List Node)(hx:∀ x∈xs,sD B x)(hl:s.length+xs.length<=1000000):eachL (pV s1 k) 0 xs s=some (s++l9 (s1.length:Int) k xs):=by
 cases xs with
 | nil=>rw[eachL,l9];simp
 | cons x xs=>
  simp only[bE] at hl;obtain⟨⟨p1,p2⟩,p3,p4⟩:=hx x (by simp);have e:pV s1 k 0 x s=some (s++[(⟨x.Id,0,((k+1:Nat):Int),x.ll_,x.ae,x.cn_.map λc=>c+(s1.length:Int)⟩:Node)]):=by
   unfold pV;rw[aF (by constructor<;>omega),ao (show ((0:Nat):Int)=0 from rfl),(HX U hB p3 p4).1,aj,aF (by constructor<;>omega),aj]
  rw[eachL,e,aj,Lw U hB k xs 1 _ (by omega) (λy hy=>hx y (by simp[hy])) (by simp;omega),l9];simp
theorem Kw (nm:ar):∀ (ys:List az) (k:Nat) (ch:List Int) (M:List Node),(∀ y∈ys,wi y)->ch.length+ys.length<=1000->1+M.length+fy ys<=100000 ->
  eachL yl k ys ((⟨0,-1,0,0,nm,ch⟩:Node)::M)=some ((⟨0,-1,0,0,nm,ch++iA (1+M.length) ys⟩:Node)::(M++iS k (1+M.length) ys))
 | [],k,ch,M,_,_,_=>by rw[eachL,iA,iS];simp
 | y::ys,k,ch,M,hy,hc,hl=>by
  simp only[bE] at hc;rw[fy] at hl;have hs1:((⟨0,-1,0,0,nm,ch⟩:Node)::M).length=1+M.length:=by simp;omega
  have e:yl k y ((⟨0,-1,0,0,nm,ch⟩:Node)::M)=some ((⟨0,-1,0,0,nm,ch++[((1+M.length:Nat):Int)]⟩:Node)::(M++l9 ((1+M.length:Nat):Int) k y.ns_)):=by
   unfold yl;rw[show ((⟨0,-1,0,0,nm,ch⟩:Node)::M)[0]?=some ⟨0,-1,0,0,nm,ch⟩ from rfl,aj];dsimp only;rw[aF (by constructor<;>omega),Cdz,UR (by rw[hs1];omega) (B:=y.ns_.length) (by omega) k y.ns_ _ (hy y (by simp)) (by simp;omega),aj,hs1];rfl
  rw[eachL,e,aj,Kw nm ys (k+1) _ _ (λz hz=>hy z (by simp[hz])) (by simp;omega) (by rw[Axz,Er];omega),iA,iS,Axz,Er,show 1+(M.length+y.ns_.length)=1+M.length+y.ns_.length by omega];simp
theorem T3 (nm:ar){ys:List az}(hy:∀ y∈ys,wi y)(hc:ys.length<=1000)(hl:1+fy ys<=100000):uf ⟨0,0,0,0,nm,[]⟩ ys=some ⟨(⟨0,-1,0,0,nm,iA 1 ys⟩:Node)::iS 0 1 ys⟩:=by
 unfold uf;dsimp only;rw[Kw nm ys 0 [] [] hy (by simp;omega) (by simp;omega),aj];simp
theorem Ep (b:Nat):∀ (ts:List Tr) (c:Nat),(cz c ts).map (λx=>x+(b:Int))=cz (c+b) ts
 | [],c=>rfl
 | t::ts,c=>by
  rw[cz,cz,Blz,Ep b ts,show c+t.sz+b=c+b+t.sz by omega];congr 1
mutual
theorem TZ (b:Nat):∀ (t:Tr) (p q:Int) (c:Nat),(bD z0 t p q c).map (oy (b:Int))=bD z0 t (p+b) q (c+b)
 | .node r ks,p,q,c=>by
  rw[bD,bD,Blz,EP b ks];unfold oy;dsimp only;rw[Ep b,show c+1+b=c+b+1 by omega];rfl
theorem EP (b:Nat):∀ (ts:List Tr) (p:Int) (k c:Nat),(fU z0 ts p k c).map (oy (b:Int))=fU z0 ts (p+b) k (c+b)
 | [],_,_,_=>rfl
 | t::ts,p,k,c=>by
  rw[fU,fU,Diz,TZ b t,EP b ts,show c+t.sz+b=c+b+t.sz by omega]
end
def fp (t:Tr):az:=⟨bD z0 t (-1) 0 0⟩
theorem Bg (t:Tr):(fp t).ns_.length=t.sz:=mQ z0 t _ _ _
theorem TY (b k:Nat):∀ t:Tr,l9 (b:Int) k (fp t).ns_=bD z0 t 0 ((k+1:Nat):Int) b
 | .node r ks=>by
  unfold fp;dsimp only;rw[bD,l9,bD];dsimp only;rw[Ep b,EP b,show 0+1+b=b+1 by omega];congr 2;omega
theorem Jp:∀ (ts:List Tr) (b:Nat),iA b (ts.map fp)=cz b ts
 | [],b=>rfl
 | t::ts,b=>by rw[Blz,iA,cz,Bg,Jp ts]
theorem Jo:∀ (ts:List Tr) (k b:Nat),iS k b (ts.map fp)=fU z0 ts 0 (k+1) b
 | [],k,b=>rfl
 | t::ts,k,b=>by rw[Blz,iS,fU,Bg,TY,Jo ts]
theorem Jn:∀ ts:List Tr,fy (ts.map fp)=Tr.szs ts
 | []=>rfl
 | t::ts=>by rw[Blz,fy,Tr.szs,Bg,Jn ts]
theorem Kv:∀ (ts:List Tr) (n:Nat),Tr.szs (ts.take n)<=Tr.szs ts
 | [],n=>by simp
 | t::ts,0=>by rw[Fdz,Tr.szs];omega
 | t::ts,n+1=>by rw[Bhz,Tr.szs,Tr.szs];have:=Kv ts n;omega
def qZ (y:az)(t:Tr):Prop:=(y=fp t/\t.sz<=16)∨(16<y.ns_.length/\16<t.sz)
def bt (n:Nat)(y:az):Prop:=y.ns_.length<=16*n+1/\wi y
def cR (n:Nat):List az->List Tr->Prop
 | [],_=>True
 | y::ys,t::ts=>(qZ y t/\bt n y)/\cR n ys ts
 | _::_,[]=>False
theorem cR.len {n:Nat}:∀ {ys:List az} {ts:List Tr},cR n ys ts->ys.length<=ts.length
 | [],_,_=>Aez _
 | y::ys,t::ts,h=>by have:=cR.len h.2;simp;omega
 | _::_,[],h=>h.elim
theorem cR.nd {n:Nat}:∀ {ys:List az} {ts:List Tr},cR n ys ts->∀ y∈ys,wi y
 | [],_,_,y,hy=>nomatch hy
 | x::ys,t::ts,h,y,hy=>by
  rcases List.mem_cons.1 hy with e|e;rw[e];exact h.1.2.2;exact cR.nd h.2 y e
 | _::_,[],h,_,_=>h.elim
theorem cR.sum {n:Nat}:∀ {ys:List az} {ts:List Tr},cR n ys ts->ys=(ts.take ys.length).map fp∨(16<fy ys/\16<Tr.szs ts)
 | [],_,_=>.inl rfl
 | y::ys,t::ts,h=>by
  rcases h.1.1 with ⟨e,_⟩|⟨e1,e2⟩
  rcases cR.sum h.2 with e'|⟨f1,f2⟩
  left;rw[bE,Bhz,Blz,← e',e];right;rw[fy,Tr.szs];omega;right;rw[fy,Tr.szs];omega
 | _::_,[],h=>h.elim
section
variable {g:al}{F:List (List aB)}
def xl (g:al)(F:List (List aB))(n:Nat)(f:aB)(t:Tr):Prop:=
 ∃ y:az,(∀ m,n<=m->pU m g (dp F) f.rule.Name f.children=some y)/\qZ y t/\bt n y
theorem IZ (hS:Shape g)(hA:aM g (aN F)){n:Nat}(hn:n<=1000)(ih:∀ f t,(∃ l∈F,f∈l)->fi g F n f=some t->xl g F n f t){r:ae}(Z:r∈g.rs_){d0:List Int}(h0:∀ d∈d0,0<=d) :
  ∀ (ds:List Int) (ns:List ar) (ks:List Tr) (k w:Nat) (Z4:List az),fV (fi g F n) g F ns ds=some ks->(∀ (j:Nat) x,ds[j]?=some x->d0[k+j]?=some x)->(∀ (j:Nat) x,ns[j]?=some x->r.rt_[k+j]?=some x)->k+ds.length=d0.length->d0.length<=3->Z4.length=k->w<=16*(n+1)+1 ->
   ∃ ys,(∀ m,n<=m->bK (r7 (pU m) g (dp F) d0 r) (Z4,(w:Int),(k:Int))=some (Z4++ys))/\cR n ys ks/\(ys.length=ks.length∨16<w+fy ys)/\w+fy ys<=16*(n+1)+1
 | [],ns,ks,k,w,Z4,hk,_,_,hl,_,_,hw=>by
  cases ns with
  | cons _ _=>cases hk
  | nil=>
   cases hk;simp only[Dyz] at hl;refine⟨[],λm hm=>c9 ?_,trivial,.inl rfl,by rw[fy];omega⟩;unfold r7;dsimp only;rw[an (by omega),Cgz]
 | d::ds,ns,ks,k,w,Z4,hk,hd,hx,hl,h3,hY,hw=>by
  cases ns with
  | nil=>cases hk
  | cons x ns=>
   rw[fV] at hk;obtain⟨f',e1,hk⟩:=Option.bind_eq_some_iff.1 hk;obtain⟨t,e2,hk⟩:=Option.bind_eq_some_iff.1 hk;obtain⟨ts,e3,hk⟩:=Option.bind_eq_some_iff.1 hk;cases hk;simp only[bE] at hl;have hdk:=hd 0 d rfl;have hxk:=hx 0 x rfl;rw[Nat.add_zero] at hdk hxk;have hd0:=h0 d (Bvz hdk);by_cases hw16:w<=16;obtain⟨l,k1,k2,k3,k4⟩:=qQ e1;obtain⟨W,_⟩:=hA.at_ (hS.right Z (Bvz hxk));obtain⟨y,y1,y2,y3,y4⟩:=ih f' t ⟨l,k3,k4⟩ e2;have hrc:(dp F)[bc g x]?=some ⟨l.map λf=>f.rule.Name,l.map aB.children⟩:=by rw[Es,k1];rfl
   have step:∀ m,n<=m->r7 (pU m) g (dp F) d0 r (Z4,(w:Int),(k:Int))=some (.inl (Z4++[y],((w+y.ns_.length:Nat):Int),((k+1:Nat):Int))):=λm hm=>by
    unfold r7;dsimp only;rw[ao (by omega),ao (by omega),aF (by omega),b7,hxk,aj,oR,aj,W,aF (by omega),b7,hrc,aj,aF (by omega),hdk,aj,aF hd0];dsimp only;rw[Czz,k2,Option.map_some,aj,aF hd0,Czz,k2,Option.map_some,aj,y1 m hm,aj,aF (by constructor<;>omega),aF (by constructor<;>omega),aF (by constructor<;>omega)];rfl
   obtain⟨ys,g1,g2,g3,g4⟩:=IZ hS hA hn ih Z h0 ds ns ts (k+1) (w+y.ns_.length) (Z4++[y]) e3 (λj z hz=>by rw[show k+1+j=k+(j+1) by omega];exact hd (j+1) z hz) (λj z hz=>by rw[show k+1+j=k+(j+1) by omega];exact hx (j+1) z hz) (by omega) h3 (by simp[hY]) (by omega);refine⟨y::ys,λm hm=>?_,⟨⟨y2,y3,y4⟩,g2⟩,?_,by rw[fy];omega⟩;rw[eS (step m hm),g1 m hm,Azz];rfl;rcases g3 with g3|g3;exact .inl (by simp[g3]);exact .inr (by rw[fy];omega);refine⟨[],λm hm=>c9 ?_,trivial,.inr (by omega),by rw[fy];omega⟩;unfold r7;dsimp only;rw[ao (by omega),an (by omega),Cgz]
theorem HW:∀ (ys:List az) (k b:Nat),(∀ y∈ys,wi y)->∀ x∈iS k b ys,sD (b+fy ys) x
 | [],k,b,_,x,hx=>nomatch hx
 | y::ys,k,b,hy,x,hx=>by
  rw[iS] at hx;rw[fy];have sh:∀ z∈y.ns_,sD (b+(y.ns_.length+fy ys)) (oy (b:Int) z):=λz hz=>by
   obtain⟨⟨p1,p2⟩,p3,p4⟩:=hy y (by simp) z hz;refine⟨⟨by show -1<=z.Parent+(b:Int);omega,by show z.Parent+(b:Int)<=_;omega⟩,λc hc=>?_,by unfold oy;rw[bh];exact p4⟩;obtain⟨c0,hc0,rfl⟩:=List.mem_map.1 hc;have:=p3 c0 hc0;constructor<;>omega
  rcases List.mem_append.1 hx with hx|hx;cases hN:y.ns_ with
  | nil=>rw[hN] at hx;exact nomatch hx
  | cons z zs=>
   rw[hN,l9] at hx;rcases List.mem_cons.1 hx with e|e;rw[e];obtain⟨_,q2,q3⟩:=sh z (by rw[hN];simp);rw[← hN];exact⟨⟨by show (-1:Int)<=0;omega,by show (0:Int)<=_;omega⟩,q2,q3⟩;obtain⟨u,hu,rfl⟩:=List.mem_map.1 e;rw[← hN];exact sh u (by rw[hN];simp[hu])
  obtain⟨⟨p1,p2⟩,p3,p4⟩:=HW ys (k+1) (b+y.ns_.length) (λz hz=>hy z (by simp[hz])) x hx;refine⟨⟨p1,by omega⟩,λc hc=>?_,p4⟩;have:=p3 c hc;constructor<;>omega
theorem IY:∀ (ys:List az) (b:Nat),∀ c∈iA b ys,0<=c/\c<=((b+fy ys:Nat):Int)
 | [],b,c,hc=>nomatch hc
 | y::ys,b,c,hc=>by
  rw[iA] at hc;rw[fy];rcases List.mem_cons.1 hc with e|e;omega;have:=IY ys (b+y.ns_.length) c e;omega
theorem Ku (hz:Sz.szd g<=1048576)(hS:Shape g)(hA:aM g (aN F))(hD:fM g F):∀ (n:Nat) (f:aB) (t:Tr),n<=1000->f.rule∈g.rs_->(∀ d∈f.children,0<=d)->fi g F n f=some t->xl g F n f t
 | 0,f,t,_,_,_,h=>by cases h
 | n+1,f,t,hn,Z,hc,h=>by
  rw[fi] at h;obtain⟨ks,e1,h⟩:=Option.bind_eq_some_iff.1 h;cases h;have hk3:=(tp _ _ _ e1).1;have hk4:=(tp _ _ _ e1).2;have hR:=gu hS Z;obtain⟨ys,g1,g2,g3,g4⟩:=IZ hS hA (n:=n) (by omega) (λf' t' ⟨l,hl,hf⟩ ht=>Ku hz hS hA hD n f' t' (by omega) (hD l hl f' hf).1 (hD l hl f' hf).2.1 ht) Z hc f.children f.rule.rt_ ks 0 1 [] e1 (λj x hx=>by rw[Adz];exact hx) (λj x hx=>by rw[Adz];exact hx) (by omega) (by omega) rfl (by omega);rw[Ecz] at g1;have hyl:=g2.len;have hnd:=g2.nd;have hj:=T3 f.rule.Name hnd (by omega) (by omega);refine⟨⟨(⟨0,-1,0,0,f.rule.Name,iA 1 ys⟩:Node)::iS 0 1 ys⟩,λm hm=>?_,?_,?_,?_⟩;cases m with
  | zero=>omega
  | succ m=>
   show uy (pU m) g (dp F) f.rule.Name f.children=_;unfold uy;rw[yf hz hS Z,aj];dsimp only;have:=g1 m (by omega);rw[show ((1:Nat):Int)=1 from rfl,show ((0:Nat):Int)=0 from rfl] at this;rw[this,aj,hj,aj]
  have hlen:((⟨0,-1,0,0,f.rule.Name,iA 1 ys⟩:Node)::iS 0 1 ys).length=1+fy ys:=by rw[bE,AO];omega
  unfold qZ;dsimp only;rw[hlen,Tr.sz];rcases g2.sum with e|⟨e1,e2⟩
  have hs:fy ys=Tr.szs (ks.take ys.length):=by rw[e,Jn,← e]
  have hle:=Kv ks ys.length;rcases g3 with g3|g3;rw[g3,Fbz] at hs;by_cases h16:1+Tr.szs ks<=16;left;refine⟨?_,h16⟩;rw[g3,Fbz] at e;rw[e,Jp,Jo];unfold fp;rw[bD];rfl;right;omega;right;omega;right;omega;show ((⟨0,-1,0,0,f.rule.Name,iA 1 ys⟩:Node)::iS 0 1 ys).length<=_;rw[bE,AO];omega;intro x hx;have hx:x∈(⟨0,-1,0,0,f.rule.Name,iA 1 ys⟩:Node)::iS 0 1 ys:=hx;show sD ((⟨0,-1,0,0,f.rule.Name,iA 1 ys⟩:Node)::iS 0 1 ys).length x;rw[bE,AO,show fy ys+1=1+fy ys by omega];rcases List.mem_cons.1 hx with e|e;rw[e];exact⟨⟨by show (-1:Int)<=-1;omega,by show (-1:Int)<=_;omega⟩,IY ys 1,by show (iA 1 ys).length<=3;rw[Jq];omega⟩;exact HW ys 0 1 hnd x e
def dU:Nat->List Node->List Node
 | _,[]=>[]
 | i,x::xs=>(⟨((i+1:Nat):Int),x.Parent,x.Place,x.ll_,x.ae,x.cn_⟩:Node)::dU (i+1) xs
theorem Kt:∀ (xs ys:List Node) (i:Nat),dU i (xs++ys)=dU i xs++dU (i+xs.length) ys
 | [],ys,i=>by simp[dU]
 | x::xs,ys,i=>by
  rw[List.cons_append,dU,dU,Kt xs ys,bE,show i+1+xs.length=i+(xs.length+1) by omega];rfl
mutual
theorem EO:∀ (t:Tr) (p q:Int) (b:Nat),dU b (bD z0 t p q b)=bD cH t p q b
 | .node r ks,p,q,b=>by rw[bD,bD,dU,Lv ks];rfl
theorem Lv:∀ (ts:List Tr) (p:Int) (k b:Nat),dU b (fU z0 ts p k b)=fU cH ts p k b
 | [],_,_,_=>rfl
 | t::ts,p,k,b=>by rw[fU,fU,Kt,EO t,mQ,Lv ts]
end
theorem Ks:∀ (xs pre:List Node),pre.length+xs.length<=100->bK vm ((pre.length:Int),pre++xs)=some (pre++dU pre.length xs)
 | [],pre,_=>by
  refine c9 ?_;unfold vm;dsimp only;rw[an (by simp),dU]
 | x::xs,pre,h=>by
  simp only[bE] at h;have e:vm ((pre.length:Int),pre++x::xs)=some (.inl (((pre++[(⟨((pre.length+1:Nat):Int),x.Parent,x.Place,x.ll_,x.ae,x.cn_⟩:Node)]).length:Int),(pre++[(⟨((pre.length+1:Nat):Int),x.Parent,x.Place,x.ll_,x.ae,x.cn_⟩:Node)])++xs)):=by
   unfold vm;dsimp only;rw[ao (by simp;omega),aF (by constructor<;>omega),aF (by omega),b7,Auz (Acz _),Fpz,show (x::xs)[0]?=some x from rfl,aj,aF (by constructor<;>omega),List.set_append_right _ _ (Acz _),Fpz,Cdz];simp
  rw[eS e,Ks xs _ (by simp;omega),dU];simp
theorem V2 (hz:Sz.szd g<=1048576)(hS:Shape g)(hA:aM g (aN F))(hD:fM g F){n:Nat}(hn:n<=1000){f:aB}{t:Tr}(Z:f.rule∈g.rs_)(hc:∀ d∈f.children,0<=d)(h:fi g F n f=some t) :
  ∃ (R:az×Bool) (y:az) (z:List Node),kQ g F f=some R/\oC g (dp F) f.rule.Name f.children=some y/\ny y=some (R.1,R.2,z)/\R.1.ns_.length<=16/\(∀ x∈R.1.ns_,x.cn_.length<=16):=by
 obtain⟨y,y1,y2,y3⟩:=Ku hz hS hA hD n f t hn Z hc h;have Y:oC g (dp F) f.rule.Name f.children=some y:=by
  unfold oC;exact iu n y1
 rw[Kx hS hA hD Z hc h];rcases y2 with ⟨e,h16⟩|⟨e1,e2⟩
 rw[ao h16];subst e;have hl:=Bg t;refine⟨_,fp t,dU 0 (fp t).ns_,rfl,Y,?_,?_,?_⟩;unfold ny;rw[an (by omega)];have:=Ks (fp t).ns_ [] (by simp;omega);simp only[Dyz,Ecz] at this;rw[show ((0:Nat):Int)=0 from rfl] at this;rw[this,aj];rw[show dU 0 (fp t).ns_=bD cH t (-1) 0 0 from EO t _ _ _];show (bD cH t (-1) 0 0).length<=16;rw[mQ];exact h16;intro x hx;have hx:x∈bD cH t (-1) 0 0:=hx;rw[← EO t] at hx;have key:∀ (l:List Node) (i:Nat),(∀ x∈l,x.cn_.length<=3)->∀ x∈dU i l,x.cn_.length<=16:=by
  intro l
  induction l with
  | nil=>intro i _ x hx;exact nomatch hx
  | cons a l ih=>
   intro i ha x hx;rw[dU] at hx;rcases List.mem_cons.1 hx with e|e;rw[e];have:=ha a (by simp);show a.cn_.length<=16;omega;exact ih (i+1) (λz hz=>ha z (by simp[hz])) x e
 exact key _ 0 (λz hz=>(y3.2 z hz).2.2) x hx;rw[an (by omega)];refine⟨_,y,y.ns_,rfl,Y,?_,Aez _,λx hx=>nomatch hx⟩;unfold ny;rw[ao (by omega)]
end
def As (R:az×Bool):Prop:=R.1.ns_.length<=16/\∀ x∈R.1.ns_,x.cn_.length<=16
theorem D7 (b:Bool):As (⟨[]⟩,b):=⟨Aez _,λx hx=>nomatch hx⟩
def Eg (tb:List (List Int))(k j:Nat):Prop:=∃ row,tb[k]?=some row/\((j:Nat):Int)∈row
inductive Dp (tb:List (List Int)):Nat->Nat->Prop
 | one {k j:Nat} (h:Eg tb k j):Dp tb k j
 | step {k m j:Nat} (h:Eg tb k m) (K:Dp tb m j):Dp tb k j
theorem Dp.trans {tb:List (List Int)}{a b c:Nat}(h:Dp tb a b)(k:Dp tb b c):Dp tb a c:=by
 induction h with
 | one h=>exact .step h k
 | step h _ ih=>exact .step h (ih k)
def TB (tb:List (List Int)):Prop:=tb.length<=1000/\∀ row∈tb,∀ x∈row,-1<=x/\x<(tb.length:Int)
theorem FJ (l:List Int)(x:Int):rS l x=some (decide (x∈l)):=by
 have h:=MG (c:=true) (xs:=l) (i:=0) (p:=λ_ y=>y=x) (f:=yz x) λk y _=>⟨λe=>by unfold yz;rw[ao e],λe=>by unfold yz;rw[an e]⟩
 unfold rS;by_cases hx:x∈l;obtain⟨k,hk⟩:=Ekz hx;rw[h.1 ⟨k,x,hk,rfl⟩,decide_eq_true hx];rfl;rw[h.2 (λk y hk e=>hx (e▸Bvz hk)),decide_eq_false hx];rfl
theorem UQ (tb:List (List Int))(h:tb.length<=1000):eachL xZ 0 tb ([]:List Int)=some (Bqz tb.length (-1)):=by
 obtain⟨s',e,hp⟩:=jT (P:=λi (s:List Int)=>s=Bqz i (-1)) (xs:=tb) (i:=0) (s:=[]) (f:=xZ) rfl λk x s hk hs=>by
  have hlt:=(List.getElem?_eq_some_iff.1 hk).1;refine⟨s++[-1],?_,?_⟩;unfold xZ;rw[aF (by rw[hs,Ddz];constructor<;>omega)];rw[hs,List.replicate_succ']
 rw[e,hp,Adz]
def jb (l:List Int)(m:Int)(k:Nat)(row:List Int)(s:List Int×List Int):List Int×List Int:=
 if s.1.getD k 0<0/\(l.any λj=>row.contains j)=true then (s.1.set k m,s.2++[(k:Int)]) else s
theorem Eo {n k:Nat}(hk:k<n){m:Int}(hm:0<m)(row:List Int):∀ (l:List Int) (i:Nat) (s:List Int×List Int),s.1.length=n->s.2.length<=1000000->eachL (k9 m k row) i l s=some (jb l m k row s)
 | [],i,s,_,_=>by rw[eachL];unfold jb;rw[an (by simp)]
 | j::l,i,(far,nx),hl,hs=>by
  dsimp only at hl hs;have hg:far[k]?=some (far.getD k 0):=by rw[Cwz,Cmz (by omega)];rfl
  rw[eachL];by_cases h0:far.getD k 0<0;by_cases hj:j∈row;have e:k9 m k row i j (far,nx)=some (far.set k m,nx++[(k:Int)]):=by
   unfold k9;dsimp only;rw[hg,aj,ao h0,FJ,aj,ao (decide_eq_true hj),aF (by constructor<;>omega)];rfl
  have hg2:(far.set k m).getD k 0=m:=by rw[Cwz,Eyz (by omega)];rfl
  have e2:∀ (l:List Int) (i:Nat),eachL (k9 m k row) i l (far.set k m,nx++[(k:Int)])=some (far.set k m,nx++[(k:Int)]):=by
   intro l
   induction l with
   | nil=>intro i;rw[eachL]
   | cons x l ih=>
    intro i;rw[eachL,show k9 m k row i x (far.set k m,nx++[(k:Int)])=some (far.set k m,nx++[(k:Int)]) by
     unfold k9;dsimp only;rw[Eyz (by omega),aj,an (by omega)];rfl,aj,ih]
  rw[e,aj,e2];unfold jb;rw[ao ⟨h0,by rw[List.any_cons,Bool.or_eq_true];exact .inl (List.contains_iff_mem.2 hj)⟩];have e:k9 m k row i j (far,nx)=some (far,nx):=by
   unfold k9;dsimp only;rw[hg,aj,ao h0,FJ,aj,an (by rw[decide_eq_false hj];decide)];rfl
  rw[e,aj,Eo hk hm row l (i+1) (far,nx) hl hs];unfold jb;dsimp only;have:(j::l).any (λj=>row.contains j)=l.any (λj=>row.contains j):=by
   rw[List.any_cons,show row.contains j=false by rw[Bool.eq_false_iff];exact λh=>hj (List.contains_iff_mem.1 h),Bool.false_or]
  rw[this];have e:k9 m k row i j (far,nx)=some (far,nx):=by
   unfold k9;dsimp only;rw[hg,aj,an h0];rfl
  rw[e,aj,Eo hk hm row l (i+1) (far,nx) hl hs];unfold jb;dsimp only;rw[an (λh=>h0 h.1),an (λh=>h0 h.1)]
structure FI (tb:List (List Int)) (i:Nat) (far l:List Int) (m:Int):Prop where
 len:far.length=tb.length
 m1:1<=m
 rng:∀ (k:Nat) (x:Int),far[k]?=some x->x = -1∨(1<=x/\x<m)
 sound:∀ k:Nat,0<far.getD k 0->Dp tb k i
 lst:∀ x∈l,∃ j:Nat,x=(j:Int)/\j<tb.length/\(j=i∨Dp tb j i)
 comp:∀ k j:Nat,Eg tb k j->(j=i∨0<far.getD j 0)->((j:Nat):Int)∉l->0<far.getD k 0
theorem FI.pos {tb:List (List Int)}{i:Nat}{far l:List Int}{m:Int}(h:FI tb i far l m){k:Nat}(hk:k<tb.length)(hn:¬ far.getD k 0<0):0<far.getD k 0:=by
 have hg:far[k]?=some (far.getD k 0):=by rw[Cwz,Cmz (by rw[h.len];exact hk)];rfl
 rcases h.rng k _ hg with e|e<;>omega
def fZ (l:List Int):Nat:=l.countP λx=>decide (x<0)
structure FR (tb:List (List Int)) (i:Nat) (f0 l:List Int) (m:Int) (k:Nat) (s:List Int×List Int):Prop where
 len:s.1.length=tb.length
 old:∀ j:Nat,0<f0.getD j 0->s.1.getD j 0=f0.getD j 0
 val:∀ j:Nat,s.1.getD j 0=f0.getD j 0∨(f0.getD j 0<0/\s.1.getD j 0=m)
 new:∀ j:Nat,f0.getD j 0<0->0<s.1.getD j 0->((j:Nat):Int)∈s.2
 nx:∀ x∈s.2,∃ j:Nat,x=(j:Int)/\j<tb.length/\Dp tb j i
 nl:s.2.length<=k
 cnt:fZ s.1+s.2.length=fZ f0
 sound:∀ j:Nat,0<s.1.getD j 0->Dp tb j i
 comp:∀ q j:Nat,q<k->Eg tb q j->((j:Nat):Int)∈l->0<s.1.getD q 0
theorem UP {l:List Int}{k:Nat}{m:Int}(hk:k<l.length)(h:l.getD k 0<0)(hm:0<m):fZ (l.set k m)+1=fZ l:=by
 unfold fZ
 induction l generalizing k with
 | nil=>simp at hk
 | cons x l ih=>
  cases k with
  | zero=>
   have h:x<0:=h;rw[Cdz,List.countP_cons_of_neg (by simp;omega),List.countP_cons_of_pos (by simpa using h)]
  | succ k=>
   rw[List.set_cons_succ,List.countP_cons,List.countP_cons];have:=ih (k:=k) (by simpa using hk) h;omega
theorem TX {tb:List (List Int)}{i:Nat}{f0 l:List Int}{m:Int}(hF:FI tb i f0 l m){k:Nat}{row:List Int}(Z:tb[k]?=some row){s:List Int×List Int}(h:FR tb i f0 l m k s):FR tb i f0 l m (k+1) (jb l m k row s):=by
 have hk:=(List.getElem?_eq_some_iff.1 Z).1;have hm:=hF.m1;unfold jb;by_cases hc:s.1.getD k 0<0/\(l.any λj=>row.contains j)=true;rw[ao hc];obtain⟨h0,ha⟩:=hc;obtain⟨x,hx,hxr⟩:=List.any_eq_true.1 ha;have hxr:=List.contains_iff_mem.1 hxr;obtain⟨j0,e0,_,hj0⟩:=hF.lst x hx;have hE:Eg tb k j0:=⟨row,Z,e0▸hxr⟩
 have hD:Dp tb k i:=by
  rcases hj0 with e|e;subst e;exact .one hE;exact .step hE e
 have f0k:f0.getD k 0<0:=by
  rcases h.val k with e|e;rw[← e];exact h0;exact e.1
 have hset:∀ j:Nat,(s.1.set k m).getD j 0=if j=k then m else s.1.getD j 0:=λj=>by
  rw[Cwz,Cwz,List.getElem?_set];by_cases e:k=j;subst e;rw[ao rfl,ao (by rw[h.len];exact hk),ao rfl];rfl;rw[an e,an (λe2=>e e2.symm)]
 refine⟨by rw[List.length_set];exact h.len,λj hj=>?_,λj=>?_,λj hj hp=>?_,λx hx=>?_,by simp;have:=h.nl;omega,?_,λj hj=>?_,λq j hq hE hl=>?_⟩;rw[hset];by_cases e:j=k;subst e;omega;rw[an e];exact h.old j hj;rw[hset];by_cases e:j=k;subst e;exact .inr ⟨f0k,ao rfl⟩;rw[an e];exact h.val j;rw[hset] at hp;by_cases e:j=k;subst e;exact List.mem_append_right _ (by simp);rw[an e] at hp;exact List.mem_append_left _ (h.new j hj hp);rcases List.mem_append.1 hx with hx|hx;exact h.nx x hx;rw[Bpz] at hx;exact⟨k,hx,hk,hD⟩;have:=UP (l:=s.1) (k:=k) (m:=m) (by rw[h.len];exact hk) h0 (by omega);have:=h.cnt;rw[Axz,Coz];dsimp only;omega;rw[hset] at hj;by_cases e:j=k;subst e;exact hD;rw[an e] at hj;exact h.sound j hj;rw[hset];by_cases e:q=k;rw[ao e];omega;rw[an e];exact h.comp q j (by omega) hE hl;rw[an hc];refine⟨h.len,h.old,h.val,h.new,h.nx,by have:=h.nl;omega,h.cnt,h.sound,λq j hq hE hl=>?_⟩;by_cases e:q=k;subst e;obtain⟨row',hr',hj⟩:=hE;rw[Z] at hr';cases hr';have ha:(l.any λj=>row.contains j)=true:=List.any_eq_true.2 ⟨_,hl,List.contains_iff_mem.2 hj⟩;have h0:¬ s.1.getD q 0<0:=λh0=>hc ⟨h0,ha⟩;rcases h.val q with e|e;rw[e] at h0 ⊢;exact hF.pos hk h0;rw[e.2];omega;exact h.comp q j (by omega) hE hl
theorem V1 {tb:List (List Int)}{i:Nat}{f0 l:List Int}{m:Int}(hT:tb.length<=1000)(hF:FI tb i f0 l m)(hm:m<=100000):∃ s,eachL (xY l m) 0 tb (f0,([]:List Int))=some s/\FI tb i s.1 s.2 (m+1)/\fZ s.1+s.2.length=fZ f0:=by
 have hm1:=hF.m1;obtain⟨s,e,hp⟩:=jT (P:=λk (s:List Int×List Int)=>FR tb i f0 l m k s) (xs:=tb) (i:=0) (s:=(f0,([]:List Int))) (f:=xY l m)
  ⟨hF.len,λ_ _=>rfl,λ_=>.inl rfl,λj U K=>(by dsimp only at K;omega),λx hx=>(nomatch hx),Acz _,rfl,hF.sound,λq j hq=>(by omega)⟩ λk row s hk hs=>by
  rw[Adz] at hs ⊢;have hlt:=(List.getElem?_eq_some_iff.1 hk).1;refine⟨_,?_,TX hF hk hs⟩;obtain⟨far,nx⟩:=s;unfold xY;dsimp only;rw[Eo (n:=tb.length) hlt (by omega) row l 0 (far,nx) hs.len (by have:=hs.nl;dsimp only at this ⊢;omega)];rfl
 rw[Adz] at hp;refine⟨s,e,⟨hp.len,by omega,λk x hx=>?_,hp.sound,λx hx=>?_,λk j hE hj hn=>?_⟩,hp.cnt⟩;have hg:s.1.getD k 0=x:=by rw[Cwz,hx];rfl
 rcases hp.val k with e|e;have hlt:=(List.getElem?_eq_some_iff.1 hx).1;rw[hp.len] at hlt;have hg0:f0[k]?=some (f0.getD k 0):=by rw[Cwz,Cmz (by rw[hF.len];exact hlt)];rfl
 rcases hF.rng k _ hg0 with e2|e2<;>omega;omega;obtain⟨j,e1,e2,e3⟩:=hp.nx x hx;exact⟨j,e1,e2,.inr e3⟩;have hk:k<tb.length:=by obtain⟨row,Z,_⟩:=hE;exact (List.getElem?_eq_some_iff.1 Z).1
 by_cases hl:((j:Nat):Int)∈l;exact hp.comp k j hk hE hl;have hold:j=i∨0<f0.getD j 0:=by
  rcases hj with e|e;exact .inl e;rcases hp.val j with e2|e2;rw[e2] at e;exact .inr e;exact absurd (hp.new j e2.1 e) hn
 have h0:=hF.comp k j hE hold hl;rw[hp.old k h0];exact h0
theorem UO {tb:List (List Int)}{i:Nat}(hT:tb.length<=1000):∀ (d:Nat) (f0 l:List Int) (m:Int),FI tb i f0 l m->m+fZ f0<=90000->fZ f0=d->∃ far x,bK (ue tb) (f0,l,m)=some (far,x)/\FI tb i far [] (far.length+90000):=by
 intro d
 induction d using Nat.strongRecOn with
 | ind d ih=>
  intro f0 l m hF Y hd;have done:∀ (f1:List Int) (m1:Int),FI tb i f1 [] m1->m1<=90001->∃ far x,bK (ue tb) (f1,[],m1)=some (far,x)/\FI tb i far [] (far.length+90000):=λf1 m1 U hm=>by
   refine⟨f1,[],c9 (by unfold ue;dsimp only;rw[an (by simp)]),U.len,by omega,λk x hx=>?_,U.sound,U.lst,U.comp⟩;rcases U.rng k x hx with e|e;exact .inl e;have:0<f1.length:=Nat.lt_of_le_of_lt (Aez _) (List.getElem?_eq_some_iff.1 hx).1;exact .inr ⟨e.1,by omega⟩
  cases l with
  | nil=>exact done f0 m hF (by omega)
  | cons y l=>
   obtain⟨s,e,U,K⟩:=V1 hT hF (by omega);have hm:=hF.m1;rw[eS (s':=(s.1,s.2,m+1)) (by unfold ue;dsimp only;rw[ao (by rw[bE];omega),e,aj,aF (by constructor<;>omega)])];cases hs:s.2 with
   | nil=>rw[hs] at U;exact done s.1 (m+1) U (by omega)
   | cons z t=>
    rw[hs,bE] at K;rw[← hs];exact ih (fZ s.1) (by omega) s.1 s.2 (m+1) U (by omega) rfl
theorem TW (l:List Int):fZ l<=l.length:=List.countP_le_length
theorem Qq {tb:List (List Int)}(hT:tb.length<=1000){i:Nat}(hi:i<tb.length):∃ far,tS tb (i:Int)=some far/\far.length=tb.length/\(∀ x∈far,x<=100000)/\∀ k:Nat,0<far.getD k 0↔Dp tb k i:=by
 have hrep:∀ k:Nat,(Bqz tb.length (-1:Int)).getD k 0 = -1∨(Bqz tb.length (-1:Int)).getD k 0=0:=λk=>by
  rw[Cwz,List.getElem?_replicate];by_cases h:k<tb.length;rw[ao h];exact .inl rfl;rw[an h];exact .inr rfl
 have h0:FI tb i (Bqz tb.length (-1)) [(i:Int)] 1:=by
  refine⟨Ddz,by omega,λk x hx=>?_,λk hk=>?_,λx hx=>?_,λk j hE hj hn=>?_⟩;exact .inl (List.eq_of_mem_replicate (Bvz hx));rcases hrep k with e|e<;>omega;rw[Bpz] at hx;exact⟨i,hx,hi,.inl rfl⟩;rcases hj with e|e;subst e;exact absurd (List.mem_singleton.2 rfl) hn;rcases hrep j with e2|e2<;>omega
 have hn:=TW (Bqz tb.length (-1:Int));rw[Ddz] at hn;obtain⟨far,x,e,hF⟩:=UO hT _ _ _ _ h0 (by omega) rfl;refine⟨far,?_,hF.len,λx hx=>?_,λk=>⟨hF.sound k,λh=>?_⟩⟩;unfold tS;rw[UQ tb hT,aj,e];rfl;obtain⟨k,hk⟩:=Ekz hx;have:=hF.len;rcases hF.rng k x hk with e|e<;>omega;have key:∀ {a b:Nat},Dp tb a b->b=i->0<far.getD a 0:=λh=>by
  induction h with
  | one h=>intro e;exact hF.comp _ _ h (.inl e) (λh=>nomatch h)
  | step h _ ih=>intro e;exact hF.comp _ _ h (.inr (ih e)) (λh=>nomatch h)
 exact key h rfl
mutual
def gm (g:al)(N:List Node):Tr->Nat->Int->Int->ar->Prop
 | .node nm ks,i,p,q,s=>∃ x r,N[i]?=some x/\r∈g.rs_/\x.ae=r.Name/\r.Left=s/\x.Parent=p/\x.Place=q/\x.cn_=cz (i+1) ks/\ks.length=r.rt_.length/\lG x.ll_ 1=true/\(r.ll_=true∨x.ll_=0)/\r.Name=nm/\dm g N ks (i:Int) 1 (i+1) r.rt_
def dm (g:al)(N:List Node):List Tr->Int->Nat->Nat->List ar->Prop
 | [],_,_,_,_=>True
 | t::ts,p,k,b,ss=>∃ s ss',ss=s::ss'/\gm g N t b p (k:Int) s/\dm g N ts p (k+1) (b+t.sz) ss'
end
theorem tn:∀ (ts:List Tr) (b:Nat),(cz b ts).length=ts.length
 | [],b=>rfl
 | t::ts,b=>by rw[cz,bE,bE,tn ts]
theorem kR:∀ (ts:List Tr) (b j:Nat),j<ts.length->(cz b ts)[j]?=some (((b+Tr.szs (ts.take j):Nat)):Int)
 | [],b,j,h=>by simp at h
 | t::ts,b,0,h=>by rw[cz,Fdz,Tr.szs];rfl
 | t::ts,b,j+1,h=>by
  rw[cz,List.getElem?_cons_succ,kR ts (b+t.sz) j (by simpa using h),Bhz,Tr.szs];congr 2;omega
mutual
theorem HV {g:al}(h0:Sz.szd g<=1048576)(hS:Shape g){N:List Node}(hN:N.length<=100000):∀ (T:Tr) (i:Nat) (p q:Int) (s:ar),gm g N T i p q s->∃ n0,∀ n,n0<=n->pO n g ⟨N⟩ (i:Int) p q s=some ((i+T.sz:Nat):Int)
 | .node nm ks,i,p,q,s,h=>by
  obtain⟨x,r,hx,Z,e1,e2,e3,e4,e5,e6,e7,e8,en,hk⟩:=h;obtain⟨n0,hn⟩:=IX h0 hS hN ks [] i x r (i+1) (by rw[Dyz,e5];exact .inl rfl) r.rt_ (by rw[Dyz];exact hk);have hi:=(List.getElem?_eq_some_iff.1 hx).1;refine⟨n0+1,λn hle=>?_⟩;cases n with
  | zero=>omega
  | succ n=>
   rw[pO];unfold xH;dsimp only;rw[an (by omega),aF (by omega),b7,hx,aj,e1,yf h0 hS Z,aj];dsimp only;rw[ao rfl,decide_eq_true e2,aj,an (by decide),decide_eq_true e3,aj,an (by decide),decide_eq_true e4,aj,an (by decide),decide_eq_true (by rw[e5,tn,e6]:(x.cn_.length:Int)=(r.rt_.length:Int)),aj,an (by decide),Lj,aj,ao e7];have hlit:((if r.ll_=true then some false else some (!(decide (x.ll_=0)))).bind λs6:Bool=>some s6)=some false:=by
    by_cases hl:r.ll_=true;rw[ao hl];rfl;rw[an hl,decide_eq_true (e8.resolve_left hl)];rfl
   rw[hlit,aj,an (by decide),aF (by constructor<;>omega),show (i:Int)+1=((i+1:Nat):Int) by omega];have hn:=hn n (by omega);rw[Dyz,e6,Fbz] at hn;rw[hn];show some _=some _;congr 2;rw[Tr.sz];omega
theorem IX {g:al}(h0:Sz.szd g<=1048576)(hS:Shape g){N:List Node}(hN:N.length<=100000):∀ (ks pre:List Tr) (i:Nat) (x:Node) (r:ae) (b:Nat),(x.cn_.drop pre.length=cz b ks∨False)->∀ ss:List ar,dm g N ks (i:Int) (pre.length+1) b ss->∃ n0,∀ n,n0<=n->findL (yk (pO n) g ⟨N⟩ (i:Int) x) pre.length (ss.take ks.length) ((b:Nat):Int)=some (.inl ((b+Tr.szs ks:Nat):Int))
 | [],pre,i,x,r,b,_,ss,_=>⟨0,λn _=>by rw[Dyz,Fdz,Tr.szs];rfl⟩
 | t::ts,pre,i,x,r,b,hc,ss,h=>by
  obtain⟨s,ss',rfl,U,K⟩:=h;have hc:=hc.resolve_right id;obtain⟨n1,w1⟩:=HV h0 hS hN t b (i:Int) ((pre.length+1:Nat):Int) s U;obtain⟨n2,w2⟩:=IX h0 hS hN ts (pre++[t]) i x r (b+t.sz) (by
   left;rw[Axz,Coz,← List.drop_drop,hc,cz];rfl) ss' (by rw[Axz,Coz];exact K)
  refine⟨n1+n2,λn hn=>?_⟩;have hx:x.cn_[pre.length]?=some (b:Int):=by
   have:=congrArg (λl:List Int=>l[0]?) hc;simp only[List.getElem?_drop,Nat.add_zero] at this;rw[this,cz];rfl
  have w2:=w2 n (by omega);rw[Axz,Coz] at w2;rw[bE,Bhz,findL];have hstep:yk (pO n) g ⟨N⟩ (i:Int) x pre.length s ((b:Nat):Int)=some (.inl ((b+t.sz:Nat):Int)):=by
   unfold yk;rw[hx,aj,ao rfl,w1 n (by omega),aj,an (by omega)]
  rw[hstep,aj];dsimp only;rw[w2,Tr.szs];congr 3;omega
end
theorem gm.head {g:al}{N:List Node}:∀ {T:Tr} {i:Nat} {p q:Int} {s:ar},gm g N T i p q s->∃ y r,N[i]?=some y/\r∈g.rs_/\y.ae=r.Name/\r.Left=s/\y.Parent=p/\y.Place=q
 | .node nm ks,i,p,q,s,h=>by
  obtain⟨x,r,hx,Z,e1,e2,e3,e4,_⟩:=h;exact⟨x,r,hx,Z,e1,e2,e3,e4⟩
theorem dm.get {g:al}{N:List Node}:∀ {ks:List Tr} {p:Int} {k b:Nat} {ss:List ar},dm g N ks p k b ss->∀ {j:Nat} {t:Tr} {s:ar},ks[j]?=some t->ss[j]?=some s->gm g N t (b+Tr.szs (ks.take j)) p ((k+j:Nat):Int) s
 | [],p,k,b,ss,h,j,t,s,hj,_=>by simp at hj
 | t0::ts,p,k,b,ss,h,0,t,s,hj,hs=>by
  obtain⟨s0,ss',rfl,U,K⟩:=h;simp at hj hs;subst hj;subst hs;rw[Fdz,Tr.szs];exact U
 | t0::ts,p,k,b,ss,h,j+1,t,s,hj,hs=>by
  obtain⟨s0,ss',rfl,U,K⟩:=h;have:=dm.get K (j:=j) (by simpa using hj) (by simpa using hs);rw[Bhz,Tr.szs];rwa[show b+(t0.sz+Tr.szs (ts.take j))=b+t0.sz+Tr.szs (ts.take j) by omega,show k+(j+1)=k+1+j by omega]
def AC (g:al)(N:List Node)(v:Nat):Prop:=∃ x r,N[v]?=some x/\r∈g.rs_/\x.ae=r.Name/\x.cn_.length=r.rt_.length /\
 ∀ (j:Nat) (n:ar),r.rt_[j]?=some n->∃ (c:Nat) (y:Node) (r' : ae),x.cn_[j]?=some (c:Int)/\v<c/\N[c]?=some y/\y.Parent=(v:Int)/\y.Place=((j+1:Nat):Int)/\r'∈g.rs_/\y.ae=r'.Name/\r'.Left=n
mutual
theorem IW {g:al}{N:List Node}:∀ (T:Tr) (i:Nat) (p q:Int) (s:ar),gm g N T i p q s->∀ v,i<=v->v<i+T.sz->AC g N v
 | .node nm ks,i,p,q,s,h,v,U,K=>by
  obtain⟨x,r,hx,Z,e1,e2,e3,e4,e5,e6,e7,e8,en,hk⟩:=h;rw[Tr.sz] at K;by_cases hv:v=i;subst hv;refine⟨x,r,hx,Z,e1,by rw[e5,tn,e6],λj n hj=>?_⟩;have hlt:=(List.getElem?_eq_some_iff.1 hj).1;rw[← e6] at hlt;have hT:=dm.get hk (Cmz hlt) hj;obtain⟨y,r',hy,hr',f1,f2,f3,f4⟩:=hT.head;exact⟨v+1+Tr.szs (ks.take j),y,r',by rw[e5];exact kR ks (v+1) j hlt,by omega,hy,f3,by rw[f4];congr 1;omega,hr',f1,f2⟩;exact Jm ks (i:Int) 1 (i+1) r.rt_ hk v (by omega) (by omega)
theorem Jm {g:al}{N:List Node}:∀ (ks:List Tr) (p:Int) (k b:Nat) (ss:List ar),dm g N ks p k b ss->∀ v,b<=v->v<b+Tr.szs ks->AC g N v
 | [],p,k,b,ss,h,v,U,K=>by rw[Tr.szs] at K;omega
 | t::ts,p,k,b,ss,h,v,U,K=>by
  obtain⟨s0,ss',rfl,h3,h4⟩:=h;rw[Tr.szs] at K;by_cases hv:v<b+t.sz;exact IW t b p (k:Int) s0 h3 v U hv;exact Jm ts p (k+1) (b+t.sz) ss' h4 v (by omega) (by omega)
end
theorem Kr:∀ (xs:List Node) (k:Nat) (s:List Int),(∀ x∈xs,1<=x.Id/\x.Id<=999)->(s++xs.map Node.Id).Nodup->s.length+xs.length<=1000->findL xI k xs s=some (.inl (s++xs.map Node.Id))
 | [],k,s,_,_,_=>by rw[List.map_nil,Cgz];rfl
 | x::xs,k,s,Z,hn,hl=>by
  simp only[bE] at hl;have hx:x.Id∉s:=λh=>by
   rw[Blz] at hn;exact (List.nodup_append.1 hn).2.2 x.Id h x.Id (by simp) rfl
  have e:xI k x s=some (.inl (s++[x.Id])):=by
   unfold xI;rw[gw,aj,ao (decide_eq_true (Z x (by simp))),FJ,aj,an (by rw[decide_eq_false hx];decide),aF (by constructor<;>omega)]
  have ih:=Kr xs (k+1) (s++[x.Id]) (λy hy=>Z y (by simp[hy])) (by rw[Azz];exact hn) (by simp;omega);rw[findL,e,aj];dsimp only;rw[ih,Azz];rfl
theorem Qo {N:List Node}(U:1<=N.length)(K:N.length<=16)(Z:∀ x∈N,1<=x.Id/\x.Id<=999)(hn:(N.map Node.Id).Nodup):tT ⟨N⟩=some true:=by
 unfold tT;dsimp only;rw[Kr N 0 [] Z (by rw[Ecz];exact hn) (by simp;omega),aj];show (cV (([]++N.map Node.Id:List Int).length:Int) 1 16).bind _=_;rw[gw,aj,Ecz,bh];exact congrArg some (decide_eq_true (by omega))
theorem V0 {g:al}(h0:Sz.szd g<=1048576)(hS:Shape g){N:List Node}(U:1<=N.length)(K:N.length<=16)(Z:∀ x∈N,1<=x.Id/\x.Id<=999)(hn:(N.map Node.Id).Nodup){T:Tr}{s:ar}(hT:gm g N T 0 (-1) 0 s)(hz:T.sz=N.length):nr g ⟨N⟩ s=some true:=by
 obtain⟨n0,w⟩:=HV h0 hS (by omega) T 0 (-1) 0 s hT;have hw:yd g ⟨N⟩ 0 (-1) 0 s=some ((0+T.sz:Nat):Int):=by
  unfold yd;exact iu n0 w
 unfold nr;rw[Qo U K Z hn,aj,ao rfl,hw,aj];exact congrArg some (decide_eq_true (by rw[Adz,hz]))
theorem En {g:al}(h0:Sz.szd g<=1048576)(hS:Shape g){N:List Node}{v:Nat}{x:Node}{r:ae}(hx:N[v]?=some x)(Z:r∈g.rs_)(e:x.ae=r.Name):mg g ⟨N⟩ (v:Int)=some r.Left:=by
 have hv:=(List.getElem?_eq_some_iff.1 hx).1;unfold mg;dsimp only;rw[gw,aj,ao (decide_eq_true (by omega)),aF (by omega),b7,hx,aj,e,yf h0 hS Z,aj]
theorem IV {g:al}{a b:ar}(ha:(bM g a).2=true)(Y:(bM g b).2=true)(h:bc g a=bc g b):a=b:=by
 obtain⟨y,_,U,K⟩:=Bi ha;obtain⟨z,_,h3,h4⟩:=Bi Y;rw[h,h3] at U;cases U;rw[← K,← h4]
theorem Kq {g:al}(hS:Shape g){F:List (List aB)}{rec:aB->Option Tr}{N:List Node}(ih:∀ f t,(∃ l∈F,f∈l)->rec f=some t->∀ A B p q,N=A++bD cH t p q A.length++B->gm g N t A.length p q f.rule.Left)(hl:∀ n d f,(bM g n).2=true->cP g F n d=some f->f.rule.Left=n) :
  ∀ (ns:List ar) (ds:List Int) (ks:List Tr) (p:Int) (k:Nat) (A B:List Node),(∀ n∈ns,(bM g n).2=true)->fV rec g F ns ds=some ks->N=A++fU cH ks p k A.length++B->dm g N ks p k A.length ns
 | [],[],ks,p,k,A,B,_,h,_=>by cases h;trivial
 | n::ns,d::ds,ks,p,k,A,B,hn,h,e=>by
  rw[fV] at h;obtain⟨f,e1,h⟩:=Option.bind_eq_some_iff.1 h;obtain⟨t,e2,h⟩:=Option.bind_eq_some_iff.1 h;obtain⟨us,e3,h⟩:=Option.bind_eq_some_iff.1 h;cases h;obtain⟨l,_,_,hlF,hfl⟩:=qQ e1;rw[fU] at e;refine⟨n,ns,rfl,?_,?_⟩;have:=ih f t ⟨l,hlF,hfl⟩ e2 A (fU cH us p (k+1) (A.length+t.sz)++B) p (k:Int) (by rw[e];simp only[Azz]);rwa[hl n d f (hn n (by simp)) e1] at this;have:=Kq hS ih hl ns ds us p (k+1) (A++bD cH t p (k:Int) A.length) B (λx hx=>hn x (by simp[hx])) e3 (by rw[e,Axz,mQ];simp only[Azz]);rwa[Axz,mQ] at this
 | [],_::_,ks,p,k,A,B,_,h,_=>by cases h
 | _::_,[],ks,p,k,A,B,_,h,_=>by cases h
theorem UN {g:al}(hS:Shape g){F:List (List aB)}(hD:fM g F)(hD2:dG g F)(n:ar)(d:Int)(f:aB)(hn:(bM g n).2=true)(h:cP g F n d=some f):f.rule.Left=n:=by
 obtain⟨l,hl,_,hlF,hfl⟩:=qQ h;exact IV (hS.left (hD l hlF f hfl).1) hn (hD2 _ l hl f hfl).1
theorem IU {g:al}(hS:Shape g){F:List (List aB)}(hD:fM g F)(hD2:dG g F):∀ (n:Nat) (f:aB) (t:Tr),f.rule∈g.rs_->fi g F n f=some t->∀ (N A B:List Node) (p q:Int),N=A++bD cH t p q A.length++B->gm g N t A.length p q f.rule.Left
 | 0,f,t,_,h=>by cases h
 | n+1,f,t,Z,h=>by
  intro N A B p q e;rw[fi] at h;obtain⟨ks,e1,h⟩:=Option.bind_eq_some_iff.1 h;cases h;rw[bD] at e;have hx:N[A.length]?=some (⟨cH A.length,p,q,0,f.rule.Name,cz (A.length+1) ks⟩:Node):=by
   rw[e,Azz,Auz (Acz _),Fpz];rfl
  have hk:=Kq hS (λf' t' ⟨l,hl,hf⟩ h' A B p q e=>IU hS hD hD2 n f' t' (hD l hl f' hf).1 h' N A B p q e) (UN hS hD hD2) f.rule.rt_ f.children ks (A.length:Int) 1 (A++[(⟨cH A.length,p,q,0,f.rule.Name,cz (A.length+1) ks⟩:Node)]) B (λm hm=>hS.right Z hm) e1 (by
   rw[e,Axz,Coz];simp only[Azz,List.cons_append,Ecz])
  rw[Axz,Coz] at hk;exact⟨_,f.rule,hx,Z,rfl,rfl,rfl,rfl,rfl,(tp _ _ _ e1).2,(show lG 0 1=true by decide),.inr rfl,rfl,hk⟩
mutual
theorem Jl:∀ (t:Tr) (p q:Int) (b:Nat),(bD cH t p q b).map Node.Id=(List.range' b t.sz).map cH
 | .node nm ks,p,q,b=>by
  rw[bD,Blz,Kp ks,Tr.sz,show 1+Tr.szs ks=Tr.szs ks+1 by omega,List.range'_succ,Blz]
theorem Kp:∀ (ks:List Tr) (p:Int) (k b:Nat),(fU cH ks p k b).map Node.Id=(List.range' b (Tr.szs ks)).map cH
 | [],p,k,b=>by rw[fU,Tr.szs];rfl
 | t::ts,p,k,b=>by
  rw[fU,Diz,Jl t,Kp ts,Tr.szs,← Diz];congr 1;have:=List.range'_append (s:=b) (m:=t.sz) (n:=Tr.szs ts) (step:=1);rw[Nat.one_mul] at this;exact this
end
theorem UM {g:al}(h0:Sz.szd g<=1048576)(hS:Shape g){F:List (List aB)}(hD:fM g F)(hD2:dG g F){n:Nat}{f:aB}{t:Tr}(Z:f.rule∈g.rs_)(h:fi g F n f=some t)(hz:t.sz<=16) :
  gm g (bD cH t (-1) 0 0) t 0 (-1) 0 f.rule.Left/\(∀ x∈bD cH t (-1) 0 0,1<=x.Id/\x.Id<=999)/\((bD cH t (-1) 0 0).map Node.Id).Nodup/\nr g ⟨bD cH t (-1) 0 0⟩ f.rule.Left=some true:=by
 have hT:gm g (bD cH t (-1) 0 0) t 0 (-1) 0 f.rule.Left:=IU hS hD hD2 n f t Z h _ [] [] (-1) 0 (by simp);have hid:=Jl t (-1) 0 0;have hlen:=mQ cH t (-1) 0 0;have hpos:=t.pos;have hR:∀ x∈bD cH t (-1) 0 0,1<=x.Id/\x.Id<=999:=λx hx=>by
  have:x.Id∈(bD cH t (-1) 0 0).map Node.Id:=List.mem_map.2 ⟨x,hx,rfl⟩;rw[hid] at this;obtain⟨k,hk,e⟩:=List.mem_map.1 this;rw[List.mem_range'_1] at hk;rw[← e];unfold cH;omega
 have hN:((bD cH t (-1) 0 0).map Node.Id).Nodup:=by
  rw[hid];refine List.Pairwise.map _ (λa b hab e=>hab ?_) (List.nodup_range' (s:=0) (n:=t.sz) (step:=1));unfold cH at e;omega
 exact⟨hT,hR,hN,V0 h0 hS (by omega) (by omega) hR hN hT hlen.symm⟩
end Go.Proofs.YtodhafdaelcnlaaGreat
