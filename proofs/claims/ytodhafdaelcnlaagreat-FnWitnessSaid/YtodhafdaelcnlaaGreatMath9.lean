/- What those partial functions come to: plain lemmas on data; each bears its conditions in its statement. -/
import Derived.Test.YtodhafdaelcnlaaGreatMath8
set_option linter.unusedVariables false
set_option linter.unusedSimpArgs false
set_option linter.ambiguousOpen false
set_option linter.unusedSectionVars false
set_option linter.unnecessarySimpa false
set_option maxRecDepth 100000
set_option maxHeartbeats 4000000
open List renaming length_nil->Dyz,nil_append->Edz,mem_of_getElem?->Bvz,getElem?_of_mem->Elz,length_append->Axz,set_cons_zero->Cdz,map_cons->Blz,take_zero->Fkz,take_succ_cons->Bhz,getElem?_map->Czz,length_range->Flz,getElem?_eq_getElem->Cmz,drop_eq_getElem_cons->Csz,drop_eq_nil_of_le->Frz,any_cons->Fsz,replicate->Bqz,map_replicate->Dhz,drop_zero->Fhz,take_of_length_le->Biz
open Nat renaming le_trans->Bgz,zero_le->Aez,zero_add->Adz,pos_of_ne_zero->Eyz
open Bool renaming false_ne_true->Fpz,false_or->Ftz
namespace Go.Proofs.YtodhafdaelcnlaaGreat
open Go Go.E
def Ol:ae:=⟨⟨#[]⟩,⟨#[]⟩,[],false,[],[]⟩
theorem Fw {α:Type}{B:Nat}{f:Nat->α->List α->Option (List α)}:∀ (xs:List α) (i:Nat) (s:List α),(∀ k x s,x∈xs->s.length<B->f k x s=some (s++[x]))->s.length+xs.length<=B->eachL f i xs s=some (s++xs)
 | [],i,s,_,_=>by simp[eachL]
 | x::xs,i,s,hf,h=>by
  simp only[bC] at h;rw[eachL,hf i x s (by simp) (by omega),aj,Fw xs (i+1) _ (λk y s hy=>hf k y s (by simp[hy])) (by simp;omega)];simp
theorem Pv {r:ae}(h:Sz.szd r<=1048576):tE r=some r:=by
 have h0:=pd r;have U:=iW r.es_;have K:=iW r.cs_;have h3:=iW r.rt_;unfold tE;rw[aE (by simp only[Dyz];constructor<;>omega),Fw (B:=1048576) r.es_ 0 [] (λk x s hx hs=>by
  have q1:=nJ hx;have q2:=ym x;have q3:=fB x.Expr;unfold M6;rw[AC (by omega),aj,aE (by constructor<;>omega)]) (by simp;omega),aj,Fw (B:=1048576) r.cs_ 0 [] (λk x s hx hs=>by
  have q1:=nJ hx;have q2:=Co x;have q3:=fB x.Target;have q4:=fB x.Value;unfold M5;rw[AC (by omega),aj,AC (by omega),aj,aE (by constructor<;>omega)]) (by simp;omega),aj]
 simp
theorem Shape.rnames {g:al}(h:Shape g){k j:Nat}{x y:ae}(hk:g.rs_[k]?=some x)(hj:g.rs_[j]?=some y)(hn:x.Name=y.Name):k=j:=by
 have key:∀ {k j:Nat} {x y:ae},g.rs_[k]?=some x->g.rs_[j]?=some y->x.Name=y.Name->¬ k<j:=by
  intro k j x y hk hj hn hlt;have:=py _ _ h.rule j y hj;unfold jB at this;rw[Bool.or_eq_false_iff] at this;have K:=this.2;unfold dw at K;rw[Edz,List.any_eq_false] at K;exact K x (Bvz (i:=k) (by rw[List.getElem?_take,ao hlt];exact hk)) (by simpa using hn)
 have U:=key hk hj hn;have K:=key hj hk hn.symm;omega
theorem xJ {g:al}(h0:Sz.szd g<=1048576)(hS:Shape g){r:ae}(Z:r∈g.rs_):mT g r.Name=some (r,true):=by
 have key:∀ (xs:List ae) (i:Nat),(∀ x∈xs,x∈g.rs_)->r∈xs->findL (ye r.Name) i xs ()=some (.inr (r,true)):=by
  intro xs
  induction xs with
  | nil=>intro i _ h;exact nomatch h
  | cons x xs ih=>
   intro i hx hm;rw[findL];by_cases e:x.Name=r.Name;obtain⟨k,hk⟩:=Elz (hx x (by simp));obtain⟨j,hj⟩:=Elz Z;have:=hS.rnames hk hj e;subst this;rw[hk] at hj;have e2:x=r:=Option.some.inj hj;rw[e2];unfold ye;rw[ao rfl,Pv (Bgz (gv Z) h0),aj];rfl;unfold ye;rw[an e,aj];rcases List.mem_cons.1 hm with h|h;exact absurd (by rw[h]) e;exact ih (i+1) (λy hy=>hx y (by simp[hy])) h
 unfold mT;rw[key g.rs_ 0 (λ_ h=>h) Z];rfl
def z0 (_:Nat):Int:=0
def nR (b:Int)(x:Node):Node:=⟨x.Id,x.Parent+b,x.Place,x.ll_,x.ae,x.cn_.map λc=>c+b⟩
def lV (b:Int)(k:Nat):List Node->List Node
 | []=>[]
 | x::xs=>(⟨x.Id,0,((k+1:Nat):Int),x.ll_,x.ae,x.cn_.map λc=>c+b⟩:Node)::xs.map (nR b)
theorem Eo (b:Int)(k:Nat):∀ l:List Node,(lV b k l).length=l.length
 | []=>rfl
 | x::xs=>by simp[lV]
def fj:List ay->Nat
 | []=>0
 | y::ys=>y.ns_.length+fj ys
def ib:Nat->List ay->List Int
 | _,[]=>[]
 | b,y::ys=>(b:Int)::ib (b+y.ns_.length) ys
def iG:Nat->Nat->List ay->List Node
 | _,_,[]=>[]
 | k,b,y::ys=>lV (b:Int) k y.ns_++iG (k+1) (b+y.ns_.length) ys
theorem AI:∀ (ys:List ay) (k b:Nat),(iG k b ys).length=fj ys
 | [],_,_=>rfl
 | y::ys,k,b=>by rw[iG,fj,Axz,Eo,AI ys]
theorem Jp:∀ (ys:List ay) (b:Nat),(ib b ys).length=ys.length
 | [],_=>rfl
 | y::ys,b=>by rw[ib,bC,bC,Jp ys]
def sg (B:Nat)(x:Node):Prop:=(-1<=x.Parent/\x.Parent<=(B:Int))/\(∀ c∈x.cn_,0<=c/\c<=(B:Int))/\x.cn_.length<=3
def wa (y:ay):Prop:=∀ x∈y.ns_,sg y.ns_.length x
theorem HM {s1:List Node}(U:s1.length<=100000){cs:List Int}{B:Nat}(hB:B<=100000)(hc:∀ c∈cs,0<=c/\c<=(B:Int))(hl:cs.length<=3):eachL (BB s1) 0 cs ([]:List Int)=some (cs.map λc=>c+(s1.length:Int))/\eachL (BA s1) 0 cs ([]:List Int)=some (cs.map λc=>c+(s1.length:Int)):=by
 constructor;rw[nH (g:=λc:Int=>c+(s1.length:Int)) (B:=1048576) cs 0 [] (λk x s hx hs=>by
  have:=hc x hx;unfold BB;rw[aE (by constructor<;>omega),aE (by constructor<;>omega)]) (by simp;omega),Edz]
 rw[nH (g:=λc:Int=>c+(s1.length:Int)) (B:=1048576) cs 0 [] (λk x s hx hs=>by
  have:=hc x hx;unfold BA;rw[aE (by constructor<;>omega),aE (by constructor<;>omega)]) (by simp;omega),Edz]
theorem Lu {s1:List Node}(U:s1.length<=100000){B:Nat}(hB:B<=100000)(k:Nat):∀ (xs:List Node) (i:Nat) (s:List Node),1<=i->(∀ x∈xs,sg B x)->s.length+xs.length<=1000000->eachL (pK s1 k) i xs s=some (s++xs.map (nR (s1.length:Int)))
 | [],i,s,_,_,_=>by rw[eachL];simp
 | x::xs,i,s,hi,hx,hl=>by
  simp only[bC] at hl;obtain⟨⟨p1,p2⟩,p3,p4⟩:=hx x (by simp);have e:pK s1 k i x s=some (s++[nR (s1.length:Int) x]):=by
   unfold pK;rw[aE (by constructor<;>omega),an (by omega),(HM U hB p3 p4).2,aj,aE (by constructor<;>omega),aj];rfl
  rw[eachL,e,aj,Lu U hB k xs (i+1) _ (by omega) (λy hy=>hx y (by simp[hy])) (by simp;omega)];simp
theorem UU {s1:List Node}(U:s1.length<=100000){B:Nat}(hB:B<=100000)(k:Nat)(xs:List Node)(s:List Node)(hx:∀ x∈xs,sg B x)(hl:s.length+xs.length<=1000000):eachL (pK s1 k) 0 xs s=some (s++lV (s1.length:Int) k xs):=by
 cases xs with
 | nil=>rw[eachL,lV];simp
 | cons x xs=>
  simp only[bC] at hl;obtain⟨⟨p1,p2⟩,p3,p4⟩:=hx x (by simp);have e:pK s1 k 0 x s=some (s++[(⟨x.Id,0,((k+1:Nat):Int),x.ll_,x.ae,x.cn_.map λc=>c+(s1.length:Int)⟩:Node)]):=by
   unfold pK;rw[aE (by constructor<;>omega),ao (show ((0:Nat):Int)=0 from rfl),(HM U hB p3 p4).1,aj,aE (by constructor<;>omega),aj]
  rw[eachL,e,aj,Lu U hB k xs 1 _ (by omega) (λy hy=>hx y (by simp[hy])) (by simp;omega),lV];simp
theorem KC (nm:ar):∀ (ys:List ay) (k:Nat) (ch:List Int) (M:List Node),(∀ y∈ys,wa y)->ch.length+ys.length<=1000->1+M.length+fj ys<=100000 ->
  eachL xQ k ys ((⟨0,-1,0,0,nm,ch⟩:Node)::M)=some ((⟨0,-1,0,0,nm,ch++ib (1+M.length) ys⟩:Node)::(M++iG k (1+M.length) ys))
 | [],k,ch,M,_,_,_=>by rw[eachL,ib,iG];simp
 | y::ys,k,ch,M,hy,hc,hl=>by
  simp only[bC] at hc;rw[fj] at hl;have hs1:((⟨0,-1,0,0,nm,ch⟩:Node)::M).length=1+M.length:=by simp;omega
  have e:xQ k y ((⟨0,-1,0,0,nm,ch⟩:Node)::M)=some ((⟨0,-1,0,0,nm,ch++[((1+M.length:Nat):Int)]⟩:Node)::(M++lV ((1+M.length:Nat):Int) k y.ns_)):=by
   unfold xQ;rw[show ((⟨0,-1,0,0,nm,ch⟩:Node)::M)[0]?=some ⟨0,-1,0,0,nm,ch⟩ from rfl,aj];dsimp only;rw[aE (by constructor<;>omega),Cdz,UU (by rw[hs1];omega) (B:=y.ns_.length) (by omega) k y.ns_ _ (hy y (by simp)) (by simp;omega),aj,hs1];rfl
  rw[eachL,e,aj,KC nm ys (k+1) _ _ (λz hz=>hy z (by simp[hz])) (by simp;omega) (by rw[Axz,Eo];omega),ib,iG,Axz,Eo,show 1+(M.length+y.ns_.length)=1+M.length+y.ns_.length by omega];simp
theorem TA (nm:ar){ys:List ay}(hy:∀ y∈ys,wa y)(hc:ys.length<=1000)(hl:1+fj ys<=100000):tU ⟨0,0,0,0,nm,[]⟩ ys=some ⟨(⟨0,-1,0,0,nm,ib 1 ys⟩:Node)::iG 0 1 ys⟩:=by
 unfold tU;dsimp only;rw[KC nm ys 0 [] [] hy (by simp;omega) (by simp;omega),aj];simp
theorem En (b:Nat):∀ (ts:List Tr) (c:Nat),(cR c ts).map (λx=>x+(b:Int))=cR (c+b) ts
 | [],c=>rfl
 | t::ts,c=>by
  rw[cR,cR,Blz,En b ts,show c+t.sz+b=c+b+t.sz by omega];congr 1
mutual
theorem Tz (b:Nat):∀ (t:Tr) (p q:Int) (c:Nat),(bp z0 t p q c).map (nR (b:Int))=bp z0 t (p+b) q (c+b)
 | .node r ks,p,q,c=>by
  rw[bp,bp,Blz,EP b ks];unfold nR;dsimp only;rw[En b,show c+1+b=c+b+1 by omega];rfl
theorem EP (b:Nat):∀ (ts:List Tr) (p:Int) (k c:Nat),(fF z0 ts p k c).map (nR (b:Int))=fF z0 ts (p+b) k (c+b)
 | [],_,_,_=>rfl
 | t::ts,p,k,c=>by
  rw[fF,fF,List.map_append,Tz b t,EP b ts,show c+t.sz+b=c+b+t.sz by omega]
end
def eX (t:Tr):ay:=⟨bp z0 t (-1) 0 0⟩
theorem AS (t:Tr):(eX t).ns_.length=t.sz:=mA z0 t _ _ _
theorem Ty (b k:Nat):∀ t:Tr,lV (b:Int) k (eX t).ns_=bp z0 t 0 ((k+1:Nat):Int) b
 | .node r ks=>by
  unfold eX;dsimp only;rw[bp,lV,bp];dsimp only;rw[En b,EP b,show 0+1+b=b+1 by omega];congr 2;omega
theorem Jo:∀ (ts:List Tr) (b:Nat),ib b (ts.map eX)=cR b ts
 | [],b=>rfl
 | t::ts,b=>by rw[Blz,ib,cR,AS,Jo ts]
theorem Jn:∀ (ts:List Tr) (k b:Nat),iG k b (ts.map eX)=fF z0 ts 0 (k+1) b
 | [],k,b=>rfl
 | t::ts,k,b=>by rw[Blz,iG,fF,AS,Ty,Jn ts]
theorem Jm:∀ ts:List Tr,fj (ts.map eX)=Tr.szs ts
 | []=>rfl
 | t::ts=>by rw[Blz,fj,Tr.szs,AS,Jm ts]
theorem KB:∀ (ts:List Tr) (n:Nat),Tr.szs (ts.take n)<=Tr.szs ts
 | [],n=>by simp
 | t::ts,0=>by rw[Fkz,Tr.szs];omega
 | t::ts,n+1=>by rw[Bhz,Tr.szs,Tr.szs];have:=KB ts n;omega
def qG (y:ay)(t:Tr):Prop:=(y=eX t/\t.sz<=16)∨(16<y.ns_.length/\16<t.sz)
def bt (n:Nat)(y:ay):Prop:=y.ns_.length<=16*n+1/\wa y
def cP (n:Nat):List ay->List Tr->Prop
 | [],_=>True
 | y::ys,t::ts=>(qG y t/\bt n y)/\cP n ys ts
 | _::_,[]=>False
theorem cP.len {n:Nat}:∀ {ys:List ay} {ts:List Tr},cP n ys ts->ys.length<=ts.length
 | [],_,_=>Aez _
 | y::ys,t::ts,h=>by have:=cP.len h.2;simp;omega
 | _::_,[],h=>h.elim
theorem cP.nd {n:Nat}:∀ {ys:List ay} {ts:List Tr},cP n ys ts->∀ y∈ys,wa y
 | [],_,_,y,hy=>nomatch hy
 | x::ys,t::ts,h,y,hy=>by
  rcases List.mem_cons.1 hy with e|e;rw[e];exact h.1.2.2;exact cP.nd h.2 y e
 | _::_,[],h,_,_=>h.elim
theorem cP.sum {n:Nat}:∀ {ys:List ay} {ts:List Tr},cP n ys ts->ys=(ts.take ys.length).map eX∨(16<fj ys/\16<Tr.szs ts)
 | [],_,_=>.inl rfl
 | y::ys,t::ts,h=>by
  rcases h.1.1 with ⟨e,_⟩|⟨e1,e2⟩
  rcases cP.sum h.2 with e'|⟨f1,f2⟩
  left;rw[bC,Bhz,Blz,← e',e];right;rw[fj,Tr.szs];omega;right;rw[fj,Tr.szs];omega
 | _::_,[],h=>h.elim
section
variable {g:al}{F:List (List aw)}
def w6 (g:al)(F:List (List aw))(n:Nat)(f:aw)(t:Tr):Prop:=
 ∃ y:ay,(∀ m,n<=m->pJ m g (db F) f.rule.Name f.ca_=some y)/\qG y t/\bt n y
theorem IK (hS:Shape g)(hA:aH g (aC F)){n:Nat}(hn:n<=1000)(ih:∀ f t,(∃ l∈F,f∈l)->dZ g F n f=some t->w6 g F n f t){r:ae}(Z:r∈g.rs_){d0:List Int}(h0:∀ d∈d0,0<=d) :
  ∀ (ds:List Int) (ns:List ar) (ks:List Tr) (k w:Nat) (Z4:List ay),fc (dZ g F n) g F ns ds=some ks->(∀ (j:Nat) x,ds[j]?=some x->d0[k+j]?=some x)->(∀ (j:Nat) x,ns[j]?=some x->r.rt_[k+j]?=some x)->k+ds.length=d0.length->d0.length<=3->Z4.length=k->w<=16*(n+1)+1 ->
   ∃ ys,(∀ m,n<=m->bA (rN (pJ m) g (db F) d0 r) (Z4,(w:Int),(k:Int))=some (Z4++ys))/\cP n ys ks/\(ys.length=ks.length∨16<w+fj ys)/\w+fj ys<=16*(n+1)+1
 | [],ns,ks,k,w,Z4,hk,_,_,hl,_,_,hw=>by
  cases ns with
  | cons _ _=>cases hk
  | nil=>
   cases hk;simp only[Dyz] at hl;refine⟨[],λm hm=>cF ?_,trivial,.inl rfl,by rw[fj];omega⟩;unfold rN;dsimp only;rw[an (by omega),List.append_nil]
 | d::ds,ns,ks,k,w,Z4,hk,hd,hx,hl,h3,hY,hw=>by
  cases ns with
  | nil=>cases hk
  | cons x ns=>
   rw[fc] at hk;obtain⟨f',e1,hk⟩:=Option.bind_eq_some_iff.1 hk;obtain⟨t,e2,hk⟩:=Option.bind_eq_some_iff.1 hk;obtain⟨ts,e3,hk⟩:=Option.bind_eq_some_iff.1 hk;cases hk;simp only[bC] at hl;have hdk:=hd 0 d rfl;have hxk:=hx 0 x rfl;rw[Nat.add_zero] at hdk hxk;have hd0:=h0 d (Bvz hdk);by_cases hw16:w<=16;obtain⟨l,k1,k2,k3,k4⟩:=sA e1;obtain⟨W,_⟩:=hA.at_ (hS.right Z (Bvz hxk));obtain⟨y,y1,y2,y3,y4⟩:=ih f' t ⟨l,k3,k4⟩ e2;have hrc:(db F)[ba g x]?=some ⟨l.map λf=>f.rule.Name,l.map aw.ca_⟩:=by rw[Ju,k1];rfl
   have step:∀ m,n<=m->rN (pJ m) g (db F) d0 r (Z4,(w:Int),(k:Int))=some (.inl (Z4++[y],((w+y.ns_.length:Nat):Int),((k+1:Nat):Int))):=λm hm=>by
    unfold rN;dsimp only;rw[ao (by omega),ao (by omega),aE (by omega),cd,hxk,aj,qv,aj,W,aE (by omega),cd,hrc,aj,aE (by omega),hdk,aj,aE hd0];dsimp only;rw[Czz,k2,Option.map_some,aj,aE hd0,Czz,k2,Option.map_some,aj,y1 m hm,aj,aE (by constructor<;>omega),aE (by constructor<;>omega),aE (by constructor<;>omega)];rfl
   obtain⟨ys,g1,g2,g3,g4⟩:=IK hS hA hn ih Z h0 ds ns ts (k+1) (w+y.ns_.length) (Z4++[y]) e3 (λj z hz=>by rw[show k+1+j=k+(j+1) by omega];exact hd (j+1) z hz) (λj z hz=>by rw[show k+1+j=k+(j+1) by omega];exact hx (j+1) z hz) (by omega) h3 (by simp[hY]) (by omega);refine⟨y::ys,λm hm=>?_,⟨⟨y2,y3,y4⟩,g2⟩,?_,by rw[fj];omega⟩;rw[eh (step m hm),g1 m hm,List.append_assoc];rfl;rcases g3 with g3|g3;exact .inl (by simp[g3]);exact .inr (by rw[fj];omega);refine⟨[],λm hm=>cF ?_,trivial,.inr (by omega),by rw[fj];omega⟩;unfold rN;dsimp only;rw[ao (by omega),an (by omega),List.append_nil]
theorem HL:∀ (ys:List ay) (k b:Nat),(∀ y∈ys,wa y)->∀ x∈iG k b ys,sg (b+fj ys) x
 | [],k,b,_,x,hx=>nomatch hx
 | y::ys,k,b,hy,x,hx=>by
  rw[iG] at hx;rw[fj];have sh:∀ z∈y.ns_,sg (b+(y.ns_.length+fj ys)) (nR (b:Int) z):=λz hz=>by
   obtain⟨⟨p1,p2⟩,p3,p4⟩:=hy y (by simp) z hz;refine⟨⟨by show -1<=z.Parent+(b:Int);omega,by show z.Parent+(b:Int)<=_;omega⟩,λc hc=>?_,by unfold nR;rw[bc];exact p4⟩;obtain⟨c0,hc0,rfl⟩:=List.mem_map.1 hc;have:=p3 c0 hc0;constructor<;>omega
  rcases List.mem_append.1 hx with hx|hx;cases hN:y.ns_ with
  | nil=>rw[hN] at hx;exact nomatch hx
  | cons z zs=>
   rw[hN,lV] at hx;rcases List.mem_cons.1 hx with e|e;rw[e];obtain⟨_,q2,q3⟩:=sh z (by rw[hN];simp);rw[← hN];exact⟨⟨by show (-1:Int)<=0;omega,by show (0:Int)<=_;omega⟩,q2,q3⟩;obtain⟨u,hu,rfl⟩:=List.mem_map.1 e;rw[← hN];exact sh u (by rw[hN];simp[hu])
  obtain⟨⟨p1,p2⟩,p3,p4⟩:=HL ys (k+1) (b+y.ns_.length) (λz hz=>hy z (by simp[hz])) x hx;refine⟨⟨p1,by omega⟩,λc hc=>?_,p4⟩;have:=p3 c hc;constructor<;>omega
theorem IJ:∀ (ys:List ay) (b:Nat),∀ c∈ib b ys,0<=c/\c<=((b+fj ys:Nat):Int)
 | [],b,c,hc=>nomatch hc
 | y::ys,b,c,hc=>by
  rw[ib] at hc;rw[fj];rcases List.mem_cons.1 hc with e|e;omega;have:=IJ ys (b+y.ns_.length) c e;omega
theorem KA (hz:Sz.szd g<=1048576)(hS:Shape g)(hA:aH g (aC F))(hD:fD g F):∀ (n:Nat) (f:aw) (t:Tr),n<=1000->f.rule∈g.rs_->(∀ d∈f.ca_,0<=d)->dZ g F n f=some t->w6 g F n f t
 | 0,f,t,_,_,_,h=>by cases h
 | n+1,f,t,hn,Z,hc,h=>by
  rw[dZ] at h;obtain⟨ks,e1,h⟩:=Option.bind_eq_some_iff.1 h;cases h;have hk3:=(ti _ _ _ e1).1;have hk4:=(ti _ _ _ e1).2;have hR:=eQ hS Z;obtain⟨ys,g1,g2,g3,g4⟩:=IK hS hA (n:=n) (by omega) (λf' t' ⟨l,hl,hf⟩ ht=>KA hz hS hA hD n f' t' (by omega) (hD l hl f' hf).1 (hD l hl f' hf).2.1 ht) Z hc f.ca_ f.rule.rt_ ks 0 1 [] e1 (λj x hx=>by rw[Adz];exact hx) (λj x hx=>by rw[Adz];exact hx) (by omega) (by omega) rfl (by omega);rw[Edz] at g1;have hyl:=g2.len;have hnd:=g2.nd;have hj:=TA f.rule.Name hnd (by omega) (by omega);refine⟨⟨(⟨0,-1,0,0,f.rule.Name,ib 1 ys⟩:Node)::iG 0 1 ys⟩,λm hm=>?_,?_,?_,?_⟩;cases m with
  | zero=>omega
  | succ m=>
   show um (pJ m) g (db F) f.rule.Name f.ca_=_;unfold um;rw[xJ hz hS Z,aj];dsimp only;have:=g1 m (by omega);rw[show ((1:Nat):Int)=1 from rfl,show ((0:Nat):Int)=0 from rfl] at this;rw[this,aj,hj,aj]
  have hlen:((⟨0,-1,0,0,f.rule.Name,ib 1 ys⟩:Node)::iG 0 1 ys).length=1+fj ys:=by rw[bC,AI];omega
  unfold qG;dsimp only;rw[hlen,Tr.sz];rcases g2.sum with e|⟨e1,e2⟩
  have hs:fj ys=Tr.szs (ks.take ys.length):=by rw[e,Jm,← e]
  have hle:=KB ks ys.length;rcases g3 with g3|g3;rw[g3,List.take_length] at hs;by_cases h16:1+Tr.szs ks<=16;left;refine⟨?_,h16⟩;rw[g3,List.take_length] at e;rw[e,Jo,Jn];unfold eX;rw[bp];rfl;right;omega;right;omega;right;omega;show ((⟨0,-1,0,0,f.rule.Name,ib 1 ys⟩:Node)::iG 0 1 ys).length<=_;rw[bC,AI];omega;intro x hx;have hx:x∈(⟨0,-1,0,0,f.rule.Name,ib 1 ys⟩:Node)::iG 0 1 ys:=hx;show sg ((⟨0,-1,0,0,f.rule.Name,ib 1 ys⟩:Node)::iG 0 1 ys).length x;rw[bC,AI,show fj ys+1=1+fj ys by omega];rcases List.mem_cons.1 hx with e|e;rw[e];exact⟨⟨by show (-1:Int)<=-1;omega,by show (-1:Int)<=_;omega⟩,IJ ys 1,by show (ib 1 ys).length<=3;rw[Jp];omega⟩;exact HL ys 0 1 hnd x e
def dK:Nat->List Node->List Node
 | _,[]=>[]
 | i,x::xs=>(⟨((i+1:Nat):Int),x.Parent,x.Place,x.ll_,x.ae,x.cn_⟩:Node)::dK (i+1) xs
theorem Kz:∀ (xs ys:List Node) (i:Nat),dK i (xs++ys)=dK i xs++dK (i+xs.length) ys
 | [],ys,i=>by simp[dK]
 | x::xs,ys,i=>by
  rw[List.cons_append,dK,dK,Kz xs ys,bC,show i+1+xs.length=i+(xs.length+1) by omega];rfl
mutual
theorem EO:∀ (t:Tr) (p q:Int) (b:Nat),dK b (bp z0 t p q b)=bp cn t p q b
 | .node r ks,p,q,b=>by rw[bp,bp,dK,Lt ks];rfl
theorem Lt:∀ (ts:List Tr) (p:Int) (k b:Nat),dK b (fF z0 ts p k b)=fF cn ts p k b
 | [],_,_,_=>rfl
 | t::ts,p,k,b=>by rw[fF,fF,Kz,EO t,mA,Lt ts]
end
theorem Ky:∀ (xs pre:List Node),pre.length+xs.length<=100->bA vu ((pre.length:Int),pre++xs)=some (pre++dK pre.length xs)
 | [],pre,_=>by
  refine cF ?_;unfold vu;dsimp only;rw[an (by simp),dK]
 | x::xs,pre,h=>by
  simp only[bC] at h;have e:vu ((pre.length:Int),pre++x::xs)=some (.inl (((pre++[(⟨((pre.length+1:Nat):Int),x.Parent,x.Place,x.ll_,x.ae,x.cn_⟩:Node)]).length:Int),(pre++[(⟨((pre.length+1:Nat):Int),x.Parent,x.Place,x.ll_,x.ae,x.cn_⟩:Node)])++xs)):=by
   unfold vu;dsimp only;rw[ao (by simp;omega),aE (by constructor<;>omega),aE (by omega),cd,List.getElem?_append_right (Nat.le_refl _),Nat.sub_self,show (x::xs)[0]?=some x from rfl,aj,aE (by constructor<;>omega),List.set_append_right _ _ (Nat.le_refl _),Nat.sub_self,Cdz];simp
  rw[eh e,Ky xs _ (by simp;omega),dK];simp
theorem V6 (hz:Sz.szd g<=1048576)(hS:Shape g)(hA:aH g (aC F))(hD:fD g F){n:Nat}(hn:n<=1000){f:aw}{t:Tr}(Z:f.rule∈g.rs_)(hc:∀ d∈f.ca_,0<=d)(h:dZ g F n f=some t) :
  ∃ (R:ay×Bool) (y:ay) (z:List Node),jH g F f=some R/\lW g (db F) f.rule.Name f.ca_=some y/\kW y=some (R.1,R.2,z)/\R.1.ns_.length<=16/\(∀ x∈R.1.ns_,x.cn_.length<=16):=by
 obtain⟨y,y1,y2,y3⟩:=KA hz hS hA hD n f t hn Z hc h;have Y:lW g (db F) f.rule.Name f.ca_=some y:=by
  unfold lW;exact gY n y1
 rw[KD hS hA hD Z hc h];rcases y2 with ⟨e,h16⟩|⟨e1,e2⟩
 rw[ao h16];subst e;have hl:=AS t;refine⟨_,eX t,dK 0 (eX t).ns_,rfl,Y,?_,?_,?_⟩;unfold kW;rw[an (by omega)];have:=Ky (eX t).ns_ [] (by simp;omega);simp only[Dyz,Edz] at this;rw[show ((0:Nat):Int)=0 from rfl] at this;rw[this,aj];rw[show dK 0 (eX t).ns_=bp cn t (-1) 0 0 from EO t _ _ _];show (bp cn t (-1) 0 0).length<=16;rw[mA];exact h16;intro x hx;have hx:x∈bp cn t (-1) 0 0:=hx;rw[← EO t] at hx;have key:∀ (l:List Node) (i:Nat),(∀ x∈l,x.cn_.length<=3)->∀ x∈dK i l,x.cn_.length<=16:=by
  intro l
  induction l with
  | nil=>intro i _ x hx;exact nomatch hx
  | cons a l ih=>
   intro i ha x hx;rw[dK] at hx;rcases List.mem_cons.1 hx with e|e;rw[e];have:=ha a (by simp);show a.cn_.length<=16;omega;exact ih (i+1) (λz hz=>ha z (by simp[hz])) x e
 exact key _ 0 (λz hz=>(y3.2 z hz).2.2) x hx;rw[an (by omega)];refine⟨_,y,y.ns_,rfl,Y,?_,Aez _,λx hx=>nomatch hx⟩;unfold kW;rw[ao (by omega)]
end
noncomputable def ee (g:al) (r:ae) (A:List (List au)) (c:List Nat):Bool:=jn (dQ g r (dq g r A c))
noncomputable def iK (g:al) (A:List (List au)) (r:ae):Bool:=(bY (aV g r A)).any (ee g r A)
theorem WO {c:List Int}(hc:c.length<=1048576){x:au}(hx:x.Rows.length<=1048576)(o:aw)(b:Bool):∃ o',pU c x o b=some (!(jn x),o',jn x):=by
 unfold pU;rw[KQ hx,aj];cases jn x with
 | true=>rw[ao rfl,AX c hc];exact⟨_,rfl⟩
 | false=>rw[an Fpz];exact⟨_,rfl⟩
theorem WN {g:al}(h0:Sz.szd g<=1048576)(hS:Shape g){r:ae}(Z:r∈g.rs_){F:List (List aw)}(hA:aH g (aC F))(o:aw)(b:Bool){c:List Nat}(h:Ch g r (aC F) c) :
  ∃ o',qn (iL c) o b g r F (iL (r.rt_.map (ba g)))=some (!(ee g r (aC F) c),o',ee g r (aC F) c):=by
 have h3:=eQ hS Z;obtain⟨_,e2,e3⟩:=nD h0 (Bgz (gv Z) h0) (nM hS Z hA h);obtain⟨o',e⟩:=WO (c:=iL c) (by rw[fT,h.1];omega) (x:=dQ g r (dq g r (aC F) c)) (by omega) o b;have e1:eachL (CY F (iL (r.rt_.map (ba g)))) 0 (iL c) []=some (dq g r (aC F) c):=AV hS Z hA (.rfl' _) h;unfold qn;rw[e1,aj,e2,aj,e];exact⟨_,rfl⟩
def Pu:((List Int×Int×List Int×ar×ar×Bool×List Int×Bool) ⊕ (aw×Bool))->Bool
 | .inl s=>s.2.2.2.2.2.2.2
 | .inr p=>p.2
theorem Jl {cs:List Nat}{n:Nat}(hn:n<cj cs):(bY cs).drop n=bh cs n::(bY cs).drop (n+1):=by
 have hl:n<(bY cs).length:=by unfold bY;rw[bc,Flz];exact hn
 have hg:(bY cs)[n]?=some (bh cs n):=by
  unfold bY;rw[Czz,List.getElem?_range hn];rfl
 rw[Cmz hl] at hg;rw[Csz hl,Option.some.inj hg]
theorem II {cs:List Nat}{n:Nat}(hn:¬ n<cj cs):(bY cs).drop n=[]:=Frz (by unfold bY;rw[bc,Flz];omega)
theorem Ls {g:al}(h0:Sz.szd g<=1048576)(hS:Shape g){r:ae}(Z:r∈g.rs_){F:List (List aw)}(hA:aH g (aC F))(o:aw) :
  ∀ (d n:Nat) (x1:Int) (x2:List Int) (x3 x4:ar) (x5:Bool) (x6:List Int) (b:Bool),n<cj (aV g r (aC F))->cj (aV g r (aC F))-n=d ->
   ∃ X,bA (k9 (iL (aV g r (aC F))) o g r F (iL (r.rt_.map (ba g)))) (iL (bh (aV g r (aC F)) n),x1,x2,x3,x4,x5,x6,b)=some X /\
    Pu X=((bY (aV g r (aC F))).drop n).any (ee g r (aC F))
 | 0,n,x1,x2,x3,x4,x5,x6,b,hn,hd=>by omega
 | d+1,n,x1,x2,x3,x4,x5,x6,b,hn,hd=>by
  have hch:=Ax hn;obtain⟨o1,e1⟩:=WN h0 hS Z hA (⟨⟨x1,x2⟩,⟨x3,x4,o.rule.rt_,x5,o.rule.es_,o.rule.cs_⟩,x6⟩:aw) b hch;have h3:=eQ hS Z;have hcl:=jr g r (aC F);rw[Jl hn,Fsz];cases hL:ee g r (aC F) (bh (aV g r (aC F)) n) with
  | true=>
   rw[hL] at e1;refine⟨_,cF (by
    unfold k9;dsimp only;rw[e1,aj];dsimp only;rw[an (by decide)]),rfl⟩
  | false=>
   rw[hL] at e1;rw[Ftz];obtain⟨q,e2,hq⟩:=xp (cs:=aV g r (aC F)) (ds:=bh (aV g r (aC F)) n) (f:=CZ (iL (aV g r (aC F)))) rfl (o8 _ _) (λi d c U K=>⟨sB hn i d c U K,by have:=wv hS Z hA c (Bvz K);omega⟩) (by omega);obtain⟨q1,q2⟩:=q;unfold oE at hq;rw[tn _ _ hn] at hq;by_cases hlast:n+1<cj (aV g r (aC F));rw[ao hlast] at hq;obtain⟨k0,x,hx,hxl,hset⟩:=hq;dsimp only at k0 hx hset;have hs:k9 (iL (aV g r (aC F))) o g r F (iL (r.rt_.map (ba g))) (iL (bh (aV g r (aC F)) n),x1,x2,x3,x4,x5,x6,b)=some (.inl (iL (bh (aV g r (aC F)) (n+1)),o1.sy_.N,o1.sy_.Rows,o1.rule.Name,o1.rule.Left,o1.rule.ll_,o1.ca_,false)):=by
    unfold k9;dsimp only;rw[e1,aj];dsimp only;rw[ao (by decide),e2,aj];dsimp only;rw[an (by omega),aE k0,hx,aj,aE ⟨by omega,by omega⟩,← hset];rfl
   rw[eh hs];exact Ls h0 hS Z hA o d (n+1) _ _ _ _ _ _ _ hlast (by omega);rw[an hlast] at hq;dsimp only at hq;rw[II hlast];exact⟨_,cF (by
    unfold k9;dsimp only;rw[e1,aj];dsimp only;rw[ao (by decide),e2,aj];dsimp only;rw[ao hq]),rfl⟩
theorem WM {g:al}(h0:Sz.szd g<=1048576)(hS:Shape g){r:ae}(Z:r∈g.rs_){F:List (List aw)}(hA:aH g (aC F))(o:aw) :
  ∃ o',qi (iL (aV g r (aC F))) o false g r F (iL (r.rt_.map (ba g)))=some (o',iK g (aC F) r):=by
 unfold qi iK;rw[yl,aj];have h3:=eQ hS Z;have hcl:=jr g r (aC F);by_cases hz:0∈aV g r (aC F);rw[ao (decide_eq_true hz),AK hz];exact⟨o,rfl⟩;rw[decide_eq_false hz,an Fpz,fT,aE (by refine⟨?_,?_,?_⟩<;>omega)];have hp:0<cj (aV g r (aC F)):=tm λc hc=>Eyz λe=>hz (e▸hc);obtain⟨X,e,hF⟩:=Ls h0 hS Z hA o _ 0 o.sy_.N o.sy_.Rows o.rule.Name o.rule.Left o.rule.ll_ o.ca_ false hp rfl;rw[qU,show iL (Bqz (aV g r (aC F)).length 0)=Bqz (aV g r (aC F)).length (0:Int) by unfold iL;rw[Dhz];rfl] at e;rw[Fhz] at hF;rw[e,aj,← hF];cases X with
 | inl s=>exact⟨_,rfl⟩
 | inr p=>exact⟨p.1,rfl⟩
theorem Yj {g:al}(h0:Sz.szd g<=1048576)(hS:Shape g){r:ae}(Z:r∈g.rs_){F:List (List aw)}(hA:aH g (aC F))(o:aw) :
  ∃ o',qk g r F (iL ((aC F).map (·.length))) o false=some (o',iK g (aC F) r):=by
 have h3:=eQ hS Z;obtain⟨o',e⟩:=WM h0 hS Z hA o;unfold qk;obtain⟨s',e2,hp⟩:=iw (P:=λk (s:List Int×List Int)=>s=((iL (aV g r (aC F))).take k,(iL (r.rt_.map (ba g))).take k)) (f:=CV g (iL ((aC F).map (·.length)))) (xs:=r.rt_) (i:=0) (s:=([],[])) (by rw[Fkz,Fkz]) λk n s hn hs=>by
  rw[Adz] at hs ⊢;rw[hs];exact⟨_,xL hS Z hA hn,rfl⟩
 rw[Adz] at hp;rw[e2,hp,Biz (by rw[fT,jr];omega),Biz (by rw[fT,bc];omega),aj];dsimp only;rw[e];exact⟨_,rfl⟩
theorem Nn {g:al}(h0:Sz.szd g<=1048576)(hS:Shape g){F:List (List aw)}(hA:aH g (aC F)):∀ (rs:List ae) (i:Nat),(∀ r∈rs,r∈g.rs_) ->
  ∃ X,findL (mU g F) i rs ()=some X/\(match X with|.inl _=>rs.any (iK g (aC F))=false|.inr p=>p.2=true/\rs.any (iK g (aC F))=true)
 | [],i,_=>⟨_,rfl,rfl⟩
 | r::rs,i,hrs=>by
  have Z:=hrs r (by simp);have hl:F.length<=1048576:=by
   have U:=hA.1;have K:=hS.syms.2;unfold aC at U;rw[bc] at U;omega
  obtain⟨o',e⟩:=Yj h0 hS Z hA (⟨(⟨0,[]⟩:au),r,[]⟩:aw);rw[findL,Fsz];cases hc:iK g (aC F) r with
  | true=>
   rw[hc] at e;obtain⟨o2,hs⟩:∃ o,mU g F i r ()=some (.inr (o,true)):=⟨_,by
    unfold mU;rw[ud hl,aj,e];rfl⟩
   exact⟨.inr (o2,true),by rw[hs];rfl,rfl,rfl⟩
  | false=>
   rw[hc] at e;obtain⟨X,U,K⟩:=Nn h0 hS hA rs (i+1) λx hx=>hrs x (by simp[hx]);refine⟨X,?_,by rw[Ftz];exact K⟩;rw[show mU g F i r ()=some (.inl ()) by unfold mU;rw[ud hl,aj,e];rfl,aj];exact U
theorem Kx {g:al}(h0:Sz.szd g<=1048576)(hS:Shape g){F:List (List aw)}(hA:aH g (aC F)):∃ o,nX g F=some (o,g.rs_.any (iK g (aC F))):=by
 obtain⟨X,U,K⟩:=Nn h0 hS hA g.rs_ 0 λ_ h=>h;unfold nX;rw[U,aj];cases X with
 | inl s=>exact⟨_,by rw[K];rfl⟩
 | inr p=>exact⟨p.1,by rw[K.2];show some p=some (p.1,true);rw[← K.1]⟩
theorem Ms {g:al}(h0:Sz.szd g<=1048576)(hS:Shape g){r:ae}(Z:r∈g.rs_){A:List (List au)}(hA:aH g A):∀ (cs:List (List Nat)) (k:Nat),(∀ c∈cs,Ch g r A c) ->
  findL (yA g A r) k (cs.map iL) ()=some (if cs.any (ee g r A)=true then .inr true else .inl ())
 | [],k,_=>rfl
 | c::cs,k,hc=>by
  have h:=hc c (by simp);obtain⟨e1,_,e3⟩:=nD h0 (Bgz (gv Z) h0) (nM hS Z hA h);have e:yA g A r k (iL c) ()=some (if ee g r A c=true then .inr true else .inl ()):=by
   unfold yA;rw[tj hS Z hA h,aj,e1,aj,KP (by omega),aj,← apply_ite some];rfl
  rw[Blz,findL,e,aj,Fsz];cases hl:ee g r A c with
  | true=>rfl
  | false=>
   rw[Ftz];exact Ms h0 hS Z hA cs (k+1) λx hx=>hc x (by simp[hx])
theorem Mr {g:al}(h0:Sz.szd g<=1048576)(hS:Shape g){A:List (List au)}(hA:aH g A):∀ (d i:Nat),g.rs_.length-i=d->i<=g.rs_.length ->
  bA (rT g A true) (i:Int)=some (if (g.rs_.drop i).any (iK g A)=true then .inr true else .inl ())
 | 0,i,hd,hi=>by
  have:g.rs_.drop i=[]:=Frz (by omega);rw[this];exact cF (by unfold rT;rw[an (by omega)];rfl)
 | d+1,i,hd,hi=>by
  have hlt:i<g.rs_.length:=by omega
  have hl:A.length<=1048576:=by have U:=hA.1;have K:=hS.syms.2;omega
  have hrl:=hS.rules.2;obtain⟨r,Z⟩:∃ r,g.rs_[i]?=some r:=⟨_,Cmz hlt⟩
  have hm:=Bvz Z;have hdrop:g.rs_.drop i=r::g.rs_.drop (i+1):=by
   rw[Csz hlt];rw[Cmz hlt] at Z;rw[Option.some.inj Z]
  have e:rT g A true (i:Int)=some (if iK g A r=true then .inr (.inr true) else .inl ((i+1:Nat):Int)):=by
   unfold rT;rw[ao (by omega),ao rfl,aE (by omega),cd,Z,aj,xo hl,aj,xK hS hm hA,aj,Ms h0 hS hm hA _ 0 λc hc=>mb hc,aj];rw[show ((bY (aV g r A)).any (ee g r A))=iK g A r from rfl];cases iK g A r with
   | true=>rfl
   | false=>rw[an Fpz,an Fpz,lL];exact aE ⟨by omega,by omega⟩
  rw[hdrop,Fsz];cases hc:iK g A r with
  | true=>rw[hc] at e;exact cF e
  | false=>
   rw[hc] at e;rw[Ftz,eh e];exact Mr h0 hS hA d (i+1) (by omega) (by omega)
theorem Zm {g:al}(h0:Sz.szd g<=1048576):∃ b,om g=some b/\B0 g=some b:=by
 unfold om B0 yg;rw[tq h0,EZ h0];simp only[aj];cases hg:nq g with
 | false=>
  refine⟨false,?_,rfl⟩;simp only[Bool.false_eq_true,if_false,aj];rw[cF (r:=.inl ()) (by unfold rT;by_cases h:(0:Int)<(g.rs_.length:Int)<;>simp[h])];rfl
 | true=>
  have hS:=uf hg;obtain⟨F,U,K,h3⟩:=LI h0 hS;obtain⟨o,h4⟩:=Kx h0 hS h3;have hs:=hS.syms.2;refine⟨g.rs_.any (iK g (aC F)),?_,?_⟩;rw[ao rfl,aE (by refine⟨?_,?_,?_⟩<;>omega),K];simp only[aj];have:=Mr h0 hS h3 _ 0 rfl (Aez _);rw[show ((0:Nat):Int)=0 from rfl,Fhz] at this;rw[this,aj];cases g.rs_.any (iK g (aC F))<;>rfl;rw[ao rfl,U,aj,h4];rfl
theorem Ya {c:List Int}(hc:c.length<=1048576){x:au}(hx:x.Rows.length<=1048576)(o:aw)(b:Bool):pU c x o b=some (!(jn x),(if jn x=true then (⟨o.sy_,o.rule,c⟩:aw) else o),jn x):=by
 unfold pU;rw[KQ hx,aj];cases jn x with
 | true=>rw[ao rfl,AX c hc];rfl
 | false=>rw[an Fpz];rfl
theorem X9 {g:al}(h0:Sz.szd g<=1048576)(hS:Shape g){r:ae}(Z:r∈g.rs_){F:List (List aw)}(hA:aH g (aC F))(o:aw)(b:Bool){c:List Nat}(h:Ch g r (aC F) c) :
  qn (iL c) o b g r F (iL (r.rt_.map (ba g)))=some (!(ee g r (aC F) c),(if ee g r (aC F) c=true then (⟨o.sy_,o.rule,iL c⟩:aw) else o),ee g r (aC F) c):=by
 have h3:=eQ hS Z;obtain⟨_,e2,e3⟩:=nD h0 (Bgz (gv Z) h0) (nM hS Z hA h);have e:=Ya (c:=iL c) (by rw[fT,h.1];omega) (x:=dQ g r (dq g r (aC F) c)) (by omega) o b;have e1:eachL (CY F (iL (r.rt_.map (ba g)))) 0 (iL c) []=some (dq g r (aC F) c):=AV hS Z hA (.rfl' _) h;unfold qn;rw[e1,aj,e2,aj,e,aj];unfold ee;cases jn (dQ g r (dq g r (aC F) c))<;>rfl
def Dz (o:aw):((List Int×Int×List Int×ar×ar×Bool×List Int×Bool) ⊕ (aw×Bool))->aw×Bool
 | .inl (_,a,b,c,d,e,f,x)=>((⟨(⟨a,b⟩:au),(⟨c,d,o.rule.rt_,e,o.rule.es_,o.rule.cs_⟩:ae),f⟩:aw),x)
 | .inr p=>p
noncomputable def ma (o:aw) (q:Option (List Nat)):aw×Bool:=match q with
 | some c=>(⟨o.sy_,o.rule,iL c⟩,true)
 | none=>(o,false)
theorem Mq {g:al}(h0:Sz.szd g<=1048576)(hS:Shape g){r:ae}(Z:r∈g.rs_){F:List (List aw)}(hA:aH g (aC F))(o:aw) :
  ∀ (d n:Nat) (b:Bool),n<cj (aV g r (aC F))->cj (aV g r (aC F))-n=d ->
   ∃ X,bA (k9 (iL (aV g r (aC F))) o g r F (iL (r.rt_.map (ba g)))) (iL (bh (aV g r (aC F)) n),o.sy_.N,o.sy_.Rows,o.rule.Name,o.rule.Left,o.rule.ll_,o.ca_,b)=some X /\
    Dz o X=ma o (((bY (aV g r (aC F))).drop n).find? (ee g r (aC F)))
 | 0,n,b,hn,hd=>by omega
 | d+1,n,b,hn,hd=>by
  have hch:=Ax hn;have e1:=X9 h0 hS Z hA o b hch;have h3:=eQ hS Z;have hcl:=jr g r (aC F);rw[Jl hn,List.find?_cons];cases hL:ee g r (aC F) (bh (aV g r (aC F)) n) with
  | true=>
   rw[hL] at e1;exact⟨_,cF (by
    unfold k9;dsimp only;rw[e1,aj];dsimp only;rw[an (by decide)]),rfl⟩
  | false=>
   rw[hL] at e1;obtain⟨q,e2,hq⟩:=xp (cs:=aV g r (aC F)) (ds:=bh (aV g r (aC F)) n) (f:=CZ (iL (aV g r (aC F)))) rfl (o8 _ _) (λi d c U K=>⟨sB hn i d c U K,by have:=wv hS Z hA c (Bvz K);omega⟩) (by omega);obtain⟨q1,q2⟩:=q;unfold oE at hq;rw[tn _ _ hn] at hq;by_cases hlast:n+1<cj (aV g r (aC F));rw[ao hlast] at hq;obtain⟨k0,x,hx,hxl,hset⟩:=hq;dsimp only at k0 hx hset;have hs:k9 (iL (aV g r (aC F))) o g r F (iL (r.rt_.map (ba g))) (iL (bh (aV g r (aC F)) n),o.sy_.N,o.sy_.Rows,o.rule.Name,o.rule.Left,o.rule.ll_,o.ca_,b)=some (.inl (iL (bh (aV g r (aC F)) (n+1)),o.sy_.N,o.sy_.Rows,o.rule.Name,o.rule.Left,o.rule.ll_,o.ca_,false)):=by
    unfold k9;dsimp only;rw[e1,aj];dsimp only;rw[ao (by decide),e2,aj];dsimp only;rw[an (by omega),aE k0,hx,aj,aE ⟨by omega,by omega⟩,← hset];rfl
   rw[eh hs];exact Mq h0 hS Z hA o d (n+1) _ hlast (by omega);rw[an hlast] at hq;dsimp only at hq;rw[II hlast];exact⟨_,cF (by
    unfold k9;dsimp only;rw[e1,aj];dsimp only;rw[ao (by decide),e2,aj];dsimp only;rw[ao hq]),rfl⟩
theorem X8 {g:al}(h0:Sz.szd g<=1048576)(hS:Shape g){r:ae}(Z:r∈g.rs_){F:List (List aw)}(hA:aH g (aC F))(o:aw) :
  qi (iL (aV g r (aC F))) o false g r F (iL (r.rt_.map (ba g)))=some (ma o ((bY (aV g r (aC F))).find? (ee g r (aC F)))):=by
 unfold qi;rw[yl,aj];have h3:=eQ hS Z;have hcl:=jr g r (aC F);by_cases hz:0∈aV g r (aC F);rw[ao (decide_eq_true hz),AK hz];rfl;rw[decide_eq_false hz,an Fpz,fT,aE (by refine⟨?_,?_,?_⟩<;>omega)];have hp:0<cj (aV g r (aC F)):=tm λc hc=>Eyz λe=>hz (e▸hc);obtain⟨X,e,hF⟩:=Mq h0 hS Z hA o _ 0 false hp rfl;rw[qU,show iL (Bqz (aV g r (aC F)).length 0)=Bqz (aV g r (aC F)).length (0:Int) by unfold iL;rw[Dhz];rfl] at e;rw[Fhz] at hF;rw[e,aj,← hF];cases X with
 | inl s=>obtain⟨_,_,_,_,_,_,_,_⟩:=s;rfl
 | inr p=>rfl
theorem V5 (o:aw)(q:Option (List Nat)):((⟨(ma o q).1.sy_,(⟨(ma o q).1.rule.Name,(ma o q).1.rule.Left,o.rule.rt_,(ma o q).1.rule.ll_,o.rule.es_,o.rule.cs_⟩:ae),(ma o q).1.ca_⟩:aw),(ma o q).2)=ma o q:=by
 cases q<;>rfl
theorem Zl {g:al}(h0:Sz.szd g<=1048576)(hS:Shape g){r:ae}(Z:r∈g.rs_){F:List (List aw)}(hA:aH g (aC F))(o:aw) :
  qk g r F (iL ((aC F).map (·.length))) o false=some (ma o ((bY (aV g r (aC F))).find? (ee g r (aC F)))):=by
 have h3:=eQ hS Z;have e:=X8 h0 hS Z hA o;unfold qk;obtain⟨s',e2,hp⟩:=iw (P:=λk (s:List Int×List Int)=>s=((iL (aV g r (aC F))).take k,(iL (r.rt_.map (ba g))).take k)) (f:=CV g (iL ((aC F).map (·.length)))) (xs:=r.rt_) (i:=0) (s:=([],[])) (by rw[Fkz,Fkz]) λk n s hn hs=>by
  rw[Adz] at hs ⊢;rw[hs];exact⟨_,xL hS Z hA hn,rfl⟩
 rw[Adz] at hp;rw[e2,hp,Biz (by rw[fT,jr];omega),Biz (by rw[fT,bc];omega),aj];dsimp only;rw[e,aj];exact congrArg some (V5 o _)
noncomputable def j5 (g:al) (A:List (List au)):List ae->Option (ae×List Nat)
 | []=>none
 | r::rs=>match (bY (aV g r A)).find? (ee g r A) with
  | some c=>some (r,c)
  | none=>j5 g A rs
theorem Mp {g:al}{A:List (List au)}{r:ae}{c:List Nat}:∀ {rs:List ae},j5 g A rs=some (r,c)->r∈rs/\Ch g r A c
 | [],h=>by cases h
 | x::rs,h=>by
  rw[j5] at h;cases e:(bY (aV g x A)).find? (ee g x A) with
  | none=>
   rw[e] at h;obtain⟨U,K⟩:=Mp h;exact⟨by simp[U],K⟩
  | some c'=>
   rw[e] at h;cases h;exact⟨by simp,mb (List.mem_of_find?_eq_some e)⟩
theorem Tx {g:al}(hS:Shape g){F:List (List aw)}(hA:aH g (aC F)):F.length<=1048576:=by
 have U:=hA.1;have K:=hS.syms.2;unfold aC at U;rw[bc] at U;omega
def fX (r:ae)(c:List Nat):aw:=⟨⟨0,[]⟩,r,iL c⟩
theorem BU {g:al}(h0:Sz.szd g<=1048576)(hS:Shape g){F:List (List aw)}(hA:aH g (aC F)):∀ (rs:List ae) (i:Nat),(∀ r∈rs,r∈g.rs_) ->
  findL (mU g F) i rs ()=some (match j5 g (aC F) rs with|some (r,c)=>.inr (fX r c,true)|none=>.inl ())
 | [],i,_=>rfl
 | r::rs,i,hrs=>by
  have Z:=hrs r (by simp);have e:=Zl h0 hS Z hA (⟨(⟨0,[]⟩:au),r,[]⟩:aw);have hs:mU g F i r ()=some (match (bY (aV g r (aC F))).find? (ee g r (aC F)) with|some c=>.inr (fX r c,true)|none=>.inl ()):=by
   unfold mU;rw[ud (Tx hS hA),aj,e,aj];cases (bY (aV g r (aC F))).find? (ee g r (aC F))<;>rfl
  rw[findL,hs,aj,j5];cases (bY (aV g r (aC F))).find? (ee g r (aC F)) with
  | some c=>rfl
  | none=>exact BU h0 hS hA rs (i+1) λx hx=>hrs x (by simp[hx])
def we (R:ay×Bool):Prop:=R.1.ns_.length<=16/\∀ x∈R.1.ns_,x.cn_.length<=16
theorem IH (b:Bool):we (⟨[]⟩,b):=⟨Aez _,λx hx=>nomatch hx⟩
theorem Tw {g:al}(h0:Sz.szd g<=1048576)(hS:Shape g){F:List (List aw)}(hA:aH g (aC F))(hD:fD g F){r:ae}(Z:r∈g.rs_){c:List Nat}(h:Ch g r (aC F) c) :
  ∃ (R:ay×Bool) (y:ay) (z:List Node),jH g F (fX r c)=some R/\lW g (db F) r.Name (iL c)=some y/\kW y=some (R.1,R.2,z)/\we R:=by
 obtain⟨ts,hts⟩:=Ep hS Z hA (.rfl' _) hD h;have Y:=hA.bound hS;have hs:=hS.syms.2;obtain⟨R,y,z,U,K,h3,h4⟩:=V6 h0 hS hA hD (n:=dm (aC F)+1) (by omega) (f:=fX r c) (t:=.node r.Name ts) Z (DT c) (by
  rw[dZ];show (fc (dZ g F (dm (aC F))) g F r.rt_ (iL c)).bind _=_;rw[hts];rfl)
 exact⟨R,y,z,U,K,h3,h4⟩
theorem Nm {g:al}(h0:Sz.szd g<=1048576)(hS:Shape g){F:List (List aw)}(hA:aH g (aC F)){r:ae}(Z:r∈g.rs_)(B:List Nat->ay×Bool)(hB:∀ c,Ch g r (aC F) c->ee g r (aC F) c=true->∃ y z,lW g (db F) r.Name (iL c)=some y/\kW y=some ((B c).1,(B c).2,z)):∀ (cs:List (List Nat)) (k:Nat),(∀ c∈cs,Ch g r (aC F) c) ->
  findL (rZ g (aC F) (db F) r) k (cs.map iL) ()=some (match cs.find? (ee g r (aC F)) with|some c=>.inr (B c)|none=>.inl ())
 | [],k,_=>rfl
 | c::cs,k,hc=>by
  have h:=hc c (by simp);obtain⟨e1,_,e3⟩:=nD h0 (Bgz (gv Z) h0) (nM hS Z hA h);have e0:pA (dQ g r (dq g r (aC F) c))=some (ee g r (aC F) c):=KP (by omega);rw[Blz,findL,List.find?_cons];cases hl:ee g r (aC F) c with
  | true=>
   obtain⟨y,z,b1,b2⟩:=hB c h hl;have e:rZ g (aC F) (db F) r k (iL c) ()=some (.inr (B c)):=by
    unfold rZ;rw[tj hS Z hA h,aj,e1,aj,e0,hl,aj,ao rfl,b1,aj,b2,aj]
   rw[e];rfl
  | false=>
   have e:rZ g (aC F) (db F) r k (iL c) ()=some (.inl ()):=by
    unfold rZ;rw[tj hS Z hA h,aj,e1,aj,e0,hl,aj,an Fpz]
   rw[e,aj];exact Nm h0 hS hA Z B hB cs (k+1) λx hx=>hc x (by simp[hx])
theorem NO {g:al}(h0:Sz.szd g<=1048576)(hS:Shape g){F:List (List aw)}(hA:aH g (aC F))(B:ae->List Nat->ay×Bool)(hB:∀ r∈g.rs_,∀ c,Ch g r (aC F) c->∃ y z,lW g (db F) r.Name (iL c)=some y/\kW y=some ((B r c).1,(B r c).2,z)):∀ (rs:List ae) (i:Nat),(∀ r∈rs,r∈g.rs_) ->
  findL (yY g (aC F) (db F)) i rs ()=some (match j5 g (aC F) rs with|some (r,c)=>.inr (B r c)|none=>.inl ())
 | [],i,_=>rfl
 | r::rs,i,hrs=>by
  have Z:=hrs r (by simp);have hl:(aC F).length<=1048576:=by have U:=hA.1;have K:=hS.syms.2;omega
  have hs:yY g (aC F) (db F) i r ()=some (match (bY (aV g r (aC F))).find? (ee g r (aC F)) with|some c=>.inr (B r c)|none=>.inl ()):=by
   unfold yY;rw[xo hl,aj,xK hS Z hA,aj,Nm h0 hS hA Z (B r) (λc hc _=>hB r Z c hc) _ 0 λc hc=>mb hc,aj];cases (bY (aV g r (aC F))).find? (ee g r (aC F))<;>rfl
  rw[findL,hs,aj,j5];cases (bY (aV g r (aC F))).find? (ee g r (aC F)) with
  | some c=>rfl
  | none=>exact NO h0 hS hA B hB rs (i+1) λx hx=>hrs x (by simp[hx])
theorem WK {g:al}(h0:Sz.szd g<=1048576):∃ R,l4 g=some R/\kZ g=some R/\we R:=by
 unfold l4 kZ;rw[tq h0,EZ h0];simp only[aj];cases hg:nq g with
 | false=>exact⟨_,rfl,rfl,IH _⟩
 | true=>
  have hS:=uf hg;obtain⟨F,f1,f2,f3,f4⟩:=WQ h0 hS;have hall:∀ r∈g.rs_,∀ c,Ch g r (aC F) c->∃ R:ay×Bool,(jH g F (fX r c)=some R/\we R)/\∃ y z,lW g (db F) r.Name (iL c)=some y/\kW y=some (R.1,R.2,z):=λr Z c hc=>by
   obtain⟨R,y,z,U,K,h3,h4⟩:=Tw h0 hS f3 f4 Z hc;exact⟨R,⟨U,h4⟩,y,z,K,h3⟩
  let B:ae->List Nat->ay×Bool:=λr c=>(jH g F (fX r c)).getD (⟨[]⟩,false);have hB:∀ r∈g.rs_,∀ c,Ch g r (aC F) c->jH g F (fX r c)=some (B r c)/\we (B r c)/\∃ y z,lW g (db F) r.Name (iL c)=some y/\kW y=some ((B r c).1,(B r c).2,z):=λr Z c hc=>by
   obtain⟨R,⟨U,K⟩,h3⟩:=hall r Z c hc;have:B r c=R:=by show (jH g F (fX r c)).getD _=R;rw[U];rfl
   rw[this];exact⟨U,K,h3⟩
  have e1:=BU h0 hS f3 g.rs_ 0 λ_ h=>h;have e2:=NO h0 hS f3 B (λr Z c hc=>(hB r Z c hc).2.2) g.rs_ 0 λ_ h=>h;rw[ao rfl,ao rfl,f1,f2,aj,aj];unfold nX;dsimp only;rw[e1,e2,aj,aj];cases hX:j5 g (aC F) g.rs_ with
  | none=>exact⟨_,rfl,rfl,IH _⟩
  | some p=>
   obtain⟨r,c⟩:=p;obtain⟨m1,m2⟩:=Mp hX;obtain⟨b1,b2,_⟩:=hB r m1 c m2;refine⟨B r c,rfl,?_,b2⟩;show (if true=true then (jH g F (fX r c)).bind λ(y5,y6)=>some (y5,y6) else some ((⟨[]⟩:ay),false))=_;rw[ao rfl,b1];rfl
end Go.Proofs.YtodhafdaelcnlaaGreat
