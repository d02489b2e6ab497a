/- What those partial functions come to: plain lemmas on data; each bears its conditions in its statement. -/
import Derived.Test.YtodhafdaelcnlaaGreatDef
set_option linter.unusedVariables false
set_option linter.unusedSimpArgs false
set_option linter.ambiguousOpen false
set_option linter.unusedSectionVars false
set_option linter.unnecessarySimpa false
open Nat renaming add_zero->Cxz,le_refl->Acz,zero_add->Adz,add_sub_cancel->Drz
open List renaming mem_cons->Dsz,pairwise_cons->Dtz,pairwise_append->Duz,take_add_one->Dvz,length_append->Axz,length_drop->Bsz,getElem?_eq_getElem->Cmz,getElem?_drop->Baz,length_mergeSort->Dwz,findIdx_cons->Dxz
namespace Go.E
section
variable {α σ ρ:Type}
theorem Fu {c:ρ}:∀ {xs:List α} {i:Nat} {p:Nat->α->Prop} {f:Nat->α->Unit->Option (Unit ⊕ ρ)},(∀ k x,xs[k]?=some x->(p (i+k) x->f (i+k) x ()=some (.inr c))/\(¬ p (i+k) x->f (i+k) x ()=some (.inl ()))) ->
  ((∃ k x,xs[k]?=some x/\p (i+k) x)->findL f i xs ()=some (.inr c))/\((∀ k x,xs[k]?=some x->¬ p (i+k) x)->findL f i xs ()=some (.inl ()))
 | [],i,p,f,_=>⟨λ⟨k,x,h,_⟩=>by simp at h,λ_=>rfl⟩
 | x::xs,i,p,f,h=>by
  have h0:=h 0 x rfl;simp only[Cxz] at h0;have ih:=Fu (c:=c) (xs:=xs) (i:=i+1) (p:=p) (f:=f) λk y hy=>by
   have:=h (k+1) y hy;rwa[show i+(k+1)=i+1+k by omega] at this
  by_cases hp:p i x;refine⟨λ_=>by simp[findL,h0.1 hp],λhn=>absurd hp (hn 0 x rfl)⟩;simp only[findL,h0.2 hp,aj];refine⟨?_,?_⟩;rintro⟨k,y,hy,hpy⟩;cases k with
  | zero=>simp at hy;subst hy;exact absurd hpy hp
  | succ k=>exact ih.1 ⟨k,y,hy,by rwa[show i+1+k=i+(k+1) by omega]⟩
  intro hn;exact ih.2 λk y hy hpy=>hn (k+1) y hy (by rwa[show i+(k+1)=i+1+k by omega])
theorem Lr {c:ρ}:∀ {n i:Nat} {p:Nat->Prop} {f:Nat->Unit->Option (Unit ⊕ ρ)},(∀ k,k<n->(p (i+k)->f (i+k) ()=some (.inr c))/\(¬ p (i+k)->f (i+k) ()=some (.inl ()))) ->
  ((∃ k,k<n/\p (i+k))->findN f i n ()=some (.inr c))/\((∀ k,k<n->¬ p (i+k))->findN f i n ()=some (.inl ()))
 | 0,i,p,f,_=>⟨λ⟨k,h,_⟩=>by omega,λ_=>rfl⟩
 | n+1,i,p,f,h=>by
  have h0:=h 0 (by omega);simp only[Cxz] at h0;have ih:=Lr (c:=c) (n:=n) (i:=i+1) (p:=p) (f:=f) λk hk=>by
   have:=h (k+1) (by omega);rwa[show i+(k+1)=i+1+k by omega] at this
  by_cases hp:p i;refine⟨λ_=>by simp[findN,h0.1 hp],λhn=>absurd hp (hn 0 (by omega))⟩;simp only[findN,h0.2 hp,aj];refine⟨?_,?_⟩;rintro⟨k,hk,hpk⟩;cases k with
  | zero=>exact absurd hpk hp
  | succ k=>exact ih.1 ⟨k,by omega,by rwa[show i+1+k=i+(k+1) by omega]⟩
  intro hn;exact ih.2 λk hk hpk=>hn (k+1) (by omega) (by rwa[show i+(k+1)=i+1+k by omega])
theorem Km [DecidableEq α]{y:α}:∀ {xs:List α} {i:Nat} {f:Nat->α->Unit->Option (Unit ⊕ Int)},(∀ k x,(x=y->f k x ()=some (.inr (k:Int)))/\(x≠y->f k x ()=some (.inl ()))) ->
  findL f i xs ()=some (if y∈xs then .inr ((i+xs.idxOf y:Nat):Int) else .inl ())
 | [],i,f,_=>by simp[findL]
 | x::xs,i,f,h=>by
  by_cases hx:x=y;subst hx;simp[findL,(h i x).1 rfl];have hx' : (x == y)=false:=by simpa using hx
  simp only[findL,(h i x).2 hx,aj,Km (xs:=xs) (i:=i+1) h,Dsz,List.idxOf_cons,hx',cond_false];by_cases hy:y∈xs;simp[hy];omega;have:¬ y=x:=λe=>hx e.symm;simp[hy,this]
theorem Ft [DecidableEq α]{y:α}{xs:List α}{f:Nat->α->Unit->Option (Unit ⊕ Int)}(h:∀ k x,(x=y->f k x ()=some (.inr (k:Int)))/\(x≠y->f k x ()=some (.inl ()))) :
  (findL f 0 xs ()).bind (bb (λr1=>some r1) λ_=>some (-1))=some (fw xs y):=by
 rw[Km h];unfold fw;by_cases hy:y∈xs<;>simp[hy]
theorem iw {P:Nat->σ->Prop}:∀ {xs:List α} {i:Nat} {s:σ} {f:Nat->α->σ->Option σ},P i s->(∀ k x s,xs[k]?=some x->P (i+k) s->∃ s',f (i+k) x s=some s'/\P (i+k+1) s')->∃ s',eachL f i xs s=some s'/\P (i+xs.length) s'
 | [],i,s,f,h,_=>⟨s,rfl,h⟩
 | x::xs,i,s,f,h,hs=>by
  obtain⟨s1,U,K⟩:=hs 0 x s rfl h;simp only[Cxz] at U K;obtain⟨s2,h3,h4⟩:=iw (P:=P) (xs:=xs) (i:=i+1) (f:=f) K λk y s hy hp=>by
   have:=hs (k+1) y s hy (by rwa[show i+(k+1)=i+1+k by omega]);rwa[show i+(k+1)=i+1+k by omega] at this
  exact⟨s2,by simp[eachL,U,h3],by rw[bC,show i+(xs.length+1)=i+1+xs.length by omega];exact h4⟩
theorem sU {P:Nat->σ->Prop}:∀ {n i:Nat} {s:σ} {f:Nat->σ->Option σ},P i s->(∀ k s,i<=k->k<i+n->P k s->∃ s',f k s=some s'/\P (k+1) s')->∃ s',eachN f i n s=some s'/\P (i+n) s'
 | 0,i,s,f,h,_=>⟨s,rfl,h⟩
 | n+1,i,s,f,h,hs=>by
  obtain⟨s1,U,K⟩:=hs i s (Acz _) (by omega) h;obtain⟨s2,h3,h4⟩:=sU (P:=P) (n:=n) (i:=i+1) (f:=f) K λk s hk hk2 hp=>hs k s (by omega) (by omega) hp;exact⟨s2,by simp[eachN,U,h3],by rw[show i+(n+1)=i+1+n by omega];exact h4⟩
end
end Go.E
set_option maxRecDepth 100000
set_option maxHeartbeats 4000000
noncomputable section
namespace Go.Proofs.YtodhafdaelcnlaaGreat
open Go Go.E
open Go.E.Sz (szd)
instance:Sz aI where
 szd x:=x.Name.size
theorem Za (x:aI):Sz.szd x=x.Name.size:=rfl
instance:Sz ah where
 szd x:=x.Name.size+bQ x.as_
theorem MX (x:ah):Sz.szd x=x.Name.size+bQ x.as_:=rfl
mutual
def kG:Expr->Nat
 | ⟨H,W,a2,a3,a4,a5,a6⟩=>a4.size+a5.size+nK a6
def nK:List Expr->Nat
 | []=>0
 | x::xs=>1+kG x+nK xs
end
instance:Sz Expr:=⟨kG⟩
theorem X7 (a:List Expr):nK a=bQ a:=by
 induction a with
 | nil=>rfl
 | cons x xs ih=>simp only[nK,bQ,ih];rfl
theorem fB (x:Expr):Sz.szd x=x.ah.size+x.Name.size+bQ x.Args:=by
 cases x;show kG _=_;simp only[kG,X7]
instance:Sz aZ where
 szd x:=x.At.Name.size+x.Expr.ah.size+x.Expr.Name.size+bQ x.Expr.Args
theorem ym (x:aZ):Sz.szd x=x.At.Name.size+x.Expr.ah.size+x.Expr.Name.size+bQ x.Expr.Args:=rfl
instance:Sz Cn where
 szd x:=x.ah.size+x.Name.size+x.Target.ah.size+x.Target.Name.size+bQ x.Target.Args+x.Value.ah.size+x.Value.Name.size+bQ x.Value.Args
theorem Co (x:Cn):Sz.szd x=x.ah.size+x.Name.size+x.Target.ah.size+x.Target.Name.size+bQ x.Target.Args+x.Value.ah.size+x.Value.Name.size+bQ x.Value.Args:=rfl
instance:Sz ae where
 szd x:=x.Name.size+x.Left.size+bQ x.rt_+bQ x.es_+bQ x.cs_
theorem pd (x:ae):Sz.szd x=x.Name.size+x.Left.size+bQ x.rt_+bQ x.es_+bQ x.cs_:=rfl
instance:Sz al where
 szd x:=bQ x.ss_+bQ x.rs_
theorem xN (x:al):Sz.szd x=bQ x.ss_+bQ x.rs_:=rfl
end Go.Proofs.YtodhafdaelcnlaaGreat
namespace Go.E
section
variable {α:Type}{lt:α->α->Bool}
theorem MW (irr:∀ a,lt a a=false)(tr:∀ a b c,lt a b=true->lt b c=true->lt a c=true) :
  ∀ {xs ys:List α},xs.Pairwise (λa b=>lt a b=true)->ys.Pairwise (λa b=>lt a b=true)->(∀ a,a∈xs↔a∈ys)->xs=ys
 | [],[],_,_,_=>rfl
 | [],y::ys,_,_,h=>absurd ((h y).2 (by simp)) (by simp)
 | x::xs,[],_,_,h=>absurd ((h x).1 (by simp)) (by simp)
 | x::xs,y::ys,hx,hy,h=>by
  rw[Dtz] at hx hy;have asym:∀ a b,lt a b=true->lt b a=true->False:=λa b U K=>by have:=tr a b a U K;rw[irr] at this;cases this
  have hxy:x=y:=by
   have U:=(h x).1 (by simp);have K:=(h y).2 (by simp);rcases List.mem_cons.1 U with e|U;exact e;rcases List.mem_cons.1 K with e|K;exact e.symm;exact (asym x y (hx.1 y K) (hy.1 x U)).elim
  subst hxy;congr 1;refine MW irr tr hx.2 hy.2 λa=>?_;constructor;intro ha;rcases List.mem_cons.1 ((h a).1 (by simp[ha])) with e|U;subst e;have:=hx.1 _ ha;rw[irr] at this;cases this;exact U;intro ha;rcases List.mem_cons.1 ((h a).2 (by simp[ha])) with e|U;subst e;have:=hy.1 _ ha;rw[irr] at this;cases this;exact U
theorem XF (tr:∀ a b c,lt a b=true->lt b c=true->lt a c=true)(dm:∀ a b,lt a b=false->lt b a=false->a=b){l:List α}{o:α}{k:Nat}(hl:l.Pairwise (λa b=>lt a b=true))
  (Y:∀ a∈l.take k,lt a o=true) (ha:∀ y,l[k]?=some y->lt y o=false/\y≠o):(l.take k++o::l.drop k).Pairwise (λa b=>lt a b=true):=by
 have hs:(l.take k++l.drop k).Pairwise (λa b=>lt a b=true):=by rw[List.take_append_drop];exact hl
 rw[Duz] at hs;have ho:∀ z∈l.drop k,lt o z=true:=by
  cases hd:l.drop k with
  | nil=>intro z hz;cases hz
  | cons y r=>
   have hy:l[k]?=some y:=by
    have:(l.drop k)[0]?=some y:=by rw[hd];rfl
    simpa using this
   obtain⟨U,K⟩:=ha y hy;have h3:lt o y=true:=by
    cases h:lt o y with
    | true=>rfl
    | false=>exact absurd (dm _ _ U h) K
   intro z hz;rcases List.mem_cons.1 hz with e|hz;rw[e];exact h3;have:=hs.2.1;rw[hd,Dtz] at this;exact tr _ _ _ h3 (this.1 z hz)
 rw[Duz,Dtz];refine⟨hs.1,⟨ho,hs.2.1⟩,λa U b K=>?_⟩;rcases List.mem_cons.1 K with e|K;rw[e];exact Y a U;exact hs.2.2 a U b K
end
section
variable {α:Type}[DecidableEq α]{lt:α->α->Bool}
def ef:List α->List α
 | []=>[]
 | [x]=>[x]
 | x::y::l=>if x=y then ef (y::l) else x::ef (y::l)
theorem BV {a:α}:∀ {l:List α},a∈ef l↔a∈l
 | []=>Iff.rfl
 | [x]=>Iff.rfl
 | x::y::l=>by
  unfold ef;have ih:=BV (a:=a) (l:=y::l);split;rename_i e;subst e;rw[ih];simp;rw[Dsz,ih];simp
theorem NT:∀ {l:List α},(ef l).length<=l.length
 | []=>Acz _
 | [x]=>Acz _
 | x::y::l=>by
  unfold ef;have ih:=NT (l:=y::l);simp only[bC] at ih ⊢;split;omega;simp only[bC];omega
theorem G7 (tr:∀ a b c,lt a b=true->lt b c=true->lt a c=true)(dm:∀ a b,lt a b=false->lt b a=false->a=b) :
  ∀ {l:List α},l.Pairwise (λa b=>lt b a=false)->(ef l).Pairwise (λa b=>lt a b=true)
 | [],_=>List.Pairwise.nil
 | [x],_=>by simp[ef]
 | x::y::l,h=>by
  unfold ef;rw[Dtz] at h;have ih:=G7 tr dm h.2;split;exact ih;rename_i hne;rw[Dtz];refine⟨λz hz=>?_,ih⟩;have U:lt x y=true:=by
   cases e:lt x y with
   | true=>rfl
   | false=>exact absurd (dm _ _ e (h.1 y (by simp))) hne
  rcases List.mem_cons.1 (BV.1 hz) with e|hz;rw[e];exact U;have K:=(List.pairwise_cons.1 h.2).1 z hz;cases e:lt y z with
  | true=>exact tr _ _ _ U e
  | false=>rw[← dm _ _ e K];exact U
theorem GZ {a:α}:∀ {l:List α},ef (l++[a])=if l.getLast?=some a then ef l else ef l++[a]
 | []=>by simp[ef]
 | [x]=>by
  simp only[ef,List.cons_append,List.nil_append,List.getLast?_singleton,Option.some.injEq];by_cases e:x=a;subst e;simp;simp[e]
 | x::y::l=>by
  have ih:=GZ (a:=a) (l:=y::l);simp only[List.cons_append] at ih ⊢;have e:(x::y::l).getLast?=(y::l).getLast?:=by simp[List.getLast?_cons_cons]
  rw[e];show (if x=y then ef (y::(l++[a])) else x::ef (y::(l++[a])))=_;rw[ih];show _=if (y::l).getLast?=some a then (if x=y then ef (y::l) else x::ef (y::l)) else (if x=y then ef (y::l) else x::ef (y::l))++[a]
  split<;>split<;>simp
theorem GY {l:List α}{i:Nat}{a b:α}(ha:l[i]?=some a)(Y:l[i+1]?=some b):ef (l.take (i+2))=if a=b then ef (l.take (i+1)) else ef (l.take (i+1))++[b]:=by
 have U:l.take (i+2)=l.take (i+1)++[b]:=by rw[show i+2=(i+1)+1 from rfl,Dvz,Y];rfl
 have K:(l.take (i+1)).getLast?=some a:=by rw[Dvz,ha];simp
 rw[U,GZ,K];by_cases e:a=b;simp[e];simp[e]
end
end Go.E
namespace Go.Proofs.YtodhafdaelcnlaaGreat
open Go Go.E
mutual
def fS:Expr->List Oc
 | ⟨H,W,a2,a3,a4,a5,a6⟩=>(if H=3 then [⟨a2,a5⟩] else [])++gD a6
def gD:List Expr->List Oc
 | []=>[]
 | x::xs=>fS x++gD xs
end
mutual
def dD:Expr->Nat
 | ⟨_,_,_,_,_,_,a6⟩=>gO a6+1
def gO:List Expr->Nat
 | []=>0
 | x::xs=>max (dD x) (gO xs)
end
theorem oP (e:Expr):dD e=gO e.Args+1:=by cases e;rfl
theorem EJ:∀ {l:List Expr} {x:Expr},x∈l->dD x<=gO l
 | y::l,x,h=>by
  simp only[gO];rcases List.mem_cons.1 h with e|h;subst e;omega;have:=EJ h;omega
theorem pc (e:Expr):fS e=(if e.Kind=3 then [⟨e.Pos,e.Name⟩] else [])++gD e.Args:=by cases e;rfl
mutual
theorem Lp:∀ e:Expr,(fS e).length<=1+kG e
 | ⟨H,W,a2,a3,a4,a5,a6⟩=>by
  have:=MV a6;simp only[fS,kG,Axz];split<;>simp<;>omega
theorem MV:∀ l:List Expr,(gD l).length<=nK l
 | []=>by simp[gD]
 | x::xs=>by
  have U:=Lp x;have K:=MV xs;simp only[gD,nK,Axz];omega
end
theorem nJ {α:Type}[Sz α]{x:α}:∀ {l:List α},x∈l->Sz.szd x<bQ l
 | [],h=>by simp at h
 | y::l,h=>by
  rcases List.mem_cons.1 h with rfl|h;simp only[bQ];omega;have:=nJ h;simp only[bQ];omega
theorem IU {e x:Expr}(h:x∈e.Args):Sz.szd x<Sz.szd e:=by
 have U:=fB e;have K:=nJ h;omega
theorem Ei {e:Expr}(h:Sz.szd e<=1048576):(fS e).length<=1048577:=by
 have U:=Lp e;have K:kG e=Sz.szd e:=rfl;omega
theorem X6:∀ (m:Nat) (e:Expr) (o:List Oc),dD e<=m->o.length+(fS e).length<=4398046511104->sc m e o=some (true,o++fS e):=by
 intro m
 induction m with
 | zero=>intro e o h;rw[oP] at h;omega
 | succ m ih=>
  have hl:∀ (l:List Expr) (i:Nat) (o:List Oc),gO l<=m->o.length+(gD l).length<=4398046511104->findL (C1 (sc m)) i l o=some (.inl (o++gD l)):=by
   intro l
   induction l with
   | nil=>intro i o _ _;simp[findL,gD]
   | cons x l ihl=>
    intro i o hf Y;simp only[gO] at hf;simp only[gD,Axz] at Y;have hx:=ih x o (by omega) (by omega);simp only[findL,C1,zw,hx,aj,Bool.not_true,Bool.false_eq_true,if_false];rw[ihl _ _ (by omega) (by rw[Axz];omega),gD,List.append_assoc]
  intro e o hf Y;rw[oP] at hf;show vQ (sc m) e o=_;have hb':=Y;rw[pc,Axz] at hb';have U:vI e o=some (true,o++if e.Kind=3 then [⟨e.Pos,e.Name⟩] else []):=by
   unfold vI;by_cases hk:e.Kind=3;rw[ao hk] at hb' ⊢;rw[ao hk,aE];simp only[bC,List.length_nil] at hb';constructor<;>omega;rw[an hk,an hk,List.append_nil]
  unfold vQ;rw[U,aj];dsimp only;rw[ao rfl];unfold zD zC;rw[hl _ _ _ (by omega) (by rw[Axz];omega),pc];simp[bb]
theorem VE {e:Expr}(h:(fS e).length<=4398046511104):CX e []=some (true,fS e):=
 gY (dD e) λm hm=>by simpa using X6 m e [] hm (by simpa using h)
theorem X5 {α:Type}{s:List α}{k:Nat}{x:α}(h:k<s.length):(s.set k x).take (k+1)=s.take k++[x]:=by
 rw[Dvz,List.take_set,List.set_eq_of_length_le (by simp;omega)];simp[List.getElem?_set,h]
theorem XE {a:List Oc}{b:Nat}(ha:a.length<=4398046511104)(Y:1<=b)(hba:b<a.length):∀ (m j k:Nat) (s:List Oc),b+j+m=a.length->1<=j->1<=k->k<=b+j-1->s.length=a.length->s.take k=ef (a.take (b+j))->s.drop (b+j-1)=a.drop (b+j-1) ->
  ∃ s' k',bA (oz (b:Int)) (s,(k:Int),(j:Int))=some (s',((k' : Nat):Int))/\k'<=s'.length/\s'.take k'=ef a:=by
 intro m
 induction m with
 | zero=>
  intro j k s hm hj hk hkj hs ht hd;refine⟨s,k,cF ?_,by omega,?_⟩;unfold oz;dsimp only;rw[an (by simp only[cd,Bsz];omega)];rw[ht,show b+j=a.length by omega,List.take_length]
 | succ m ih=>
  intro j k s hm hj hk hkj hs ht hd;obtain⟨x,hx⟩:∃ x,a[b+j]?=some x:=⟨_,Cmz (by omega)⟩
  obtain⟨y,hy⟩:∃ y,a[b+j-1]?=some y:=⟨_,Cmz (by omega)⟩
  obtain⟨z,hz⟩:∃ z,s[k]?=some z:=⟨_,Cmz (by omega)⟩
  have hsx:s[b+j]?=some x:=by
   have:=congrArg (λl=>l[1]?) hd;simp only[Baz] at this;rw[show b+j-1+1=b+j by omega] at this;rw[this,hx]
  have hsy:s[b+(j-1)]?=some y:=by
   have:=congrArg (λl=>l[0]?) hd;simp only[Baz,Cxz] at this;rw[show b+(j-1)=b+j-1 by omega,this,hy]
  have hc:=GY (i:=b+j-1) (b:=x) hy (by rw[show b+j-1+1=b+j by omega];exact hx);rw[show b+j-1+2=b+(j+1) by omega,show b+j-1+1=b+j by omega] at hc;have hd2:s.drop (b+(j+1)-1)=a.drop (b+(j+1)-1):=by
   have:=congrArg (λl=>l.drop 1) hd;simp only[List.drop_drop] at this;rw[show b+(j+1)-1=b+j-1+1 by omega];exact this
  have e1:((j:Int)-1).toNat=j-1:=by omega
  by_cases hxy:x=y;have e:oz (b:Int) (s,(k:Int),(j:Int))=some (.inl (s,(k:Int),((j+1:Nat):Int))):=by
   unfold oz;dsimp only;rw[ao (by simp only[cd,Bsz];omega),aE (by omega)];simp only[cd];rw[hsx,aj,aE (by constructor<;>omega),aE (by omega),e1,hsy,aj,ao hxy,aj];dsimp only;rw[aE (by constructor<;>omega)];rfl
  rw[eh e];exact ih (j+1) k s (by omega) (by omega) hk (by omega) hs (by rw[hc,ao hxy.symm,ht]) hd2;have e:oz (b:Int) (s,(k:Int),(j:Int))=some (.inl (s.set k x,((k+1:Nat):Int),((j+1:Nat):Int))):=by
   unfold oz;dsimp only;rw[ao (by simp only[cd,Bsz];omega),aE (by omega)];simp only[cd];rw[hsx,aj,aE (by constructor<;>omega),aE (by omega),e1,hsy,aj,an hxy,aE (by omega),aE (by omega),hz,aj,aE (by constructor<;>omega),aj];dsimp only;rw[aE (by constructor<;>omega)];rfl
  rw[eh e];refine ih (j+1) (k+1) _ (by omega) (by omega) (by omega) (by omega) (by rw[List.length_set];exact hs) ?_ ?_;rw[X5 (by omega),ht,hc,an (λh=>hxy h.symm)];rw[List.drop_set,ao (by omega)];exact hd2
theorem X4 {a:List Oc}(ha:a.length<=4398046511104):∀ (m k:Nat),k+m=a.length->1<=k->ef (a.take k)=a.take k ->
  (bA (oy a) (k:Int)).bind (bb (λr1=>some r1) λ_=>some a)=some (ef a):=by
 intro m
 induction m with
 | zero=>
  intro k hm hk hc;have e:oy a (k:Int)=some (.inr (.inl ())):=by
   unfold oy;dsimp only;rw[an (by omega)]
  rw[cF e,aj];show some a=_;rw[show k=a.length by omega,List.take_length] at hc;rw[hc]
 | succ m ih=>
  intro k hm hk hc;obtain⟨x,hx⟩:∃ x,a[k]?=some x:=⟨_,Cmz (by omega)⟩
  obtain⟨y,hy⟩:∃ y,a[k-1]?=some y:=⟨_,Cmz (by omega)⟩
  have hct:=GY (i:=k-1) (b:=x) hy (by rw[show k-1+1=k by omega];exact hx);rw[show k-1+2=k+1 by omega,show k-1+1=k by omega] at hct;have htk:a.take (k+1)=a.take k++[x]:=by rw[Dvz,hx];rfl
  have e1:((k:Int)-1).toNat=k-1:=by omega
  by_cases hxy:x=y;obtain⟨s',k',U,K,h3⟩:=XE (b:=k) ha hk (by omega) m 1 k a (by omega) (by omega) hk (by omega) rfl (by rw[hct,ao hxy.symm,hc]) rfl;have hl:(s'.take k'++List.replicate (s'.length-k') (⟨(0:Int),(⟨#[]⟩:ar)⟩:Oc)).take k'=ef a:=by
   rw[List.take_append_of_le_length (by simp;omega),List.take_take,Nat.min_self,h3]
  have e:oy a (k:Int)=some (.inr (.inr (ef a))):=by
   unfold oy;dsimp only;rw[ao (by omega),aE (by omega)];simp only[cd];rw[hx,aj,aE (by constructor<;>omega),aE (by omega),e1,hy,aj,ao hxy,aE (by omega),aE (by omega)];have h1' : bA (oz (k:Int)) (a,(k:Int),1)=some (s',((k' : Nat):Int)):=U;rw[h1',aj];dsimp only;simp only[cd];rw[aE (by omega),aE (by omega),aE (by omega),aE (by simp;omega),hl]
  rw[cF e,aj];rfl;have e:oy a (k:Int)=some (.inl ((k+1:Nat):Int)):=by
   unfold oy;dsimp only;rw[ao (by omega),aE (by omega)];simp only[cd];rw[hx,aj,aE (by constructor<;>omega),aE (by omega),e1,hy,aj,an hxy,aE (by constructor<;>omega)];rfl
  rw[eh e];exact ih (k+1) (by omega) (by omega) (by rw[hct,an (λh=>hxy h.symm),hc,htk])
theorem XD {a:List Oc}(ha:a.length<=4398046511104):vS a=some (ef a):=by
 unfold vS;by_cases h:(a.length:Int)<2;rw[ao h]
 match a,h with
 | [],_=>rfl
 | [x],_=>rfl
 | x::y::l,h=>simp only[bC] at h;omega
 rw[an h];refine X4 ha (a.length-1) 1 (by omega) (Acz _) ?_
 match a,h with
 | x::l,_=>rfl
def attrs (e:Expr):List Oc:=ef (nr (fS e))
theorem We {o:Oc}{e:Expr}:o∈attrs e↔o∈fS e:=by
 unfold attrs nr;rw[BV,List.mem_mergeSort]
theorem Lo {e:Expr}:(attrs e).length<=(fS e).length:=by
 unfold attrs;refine Nat.le_trans NT ?_;unfold nr;rw[Dwz];exact Acz _
theorem EI {e:Expr}(h:Sz.szd e<=1048576):r8 e=some (attrs e):=by
 have hl:=Ei h;have hs:(nr (fS e)).length=(fS e).length:=by unfold nr;exact Dwz _
 unfold r8;rw[VE (by omega),aj];dsimp only;unfold zl;rw[aE (by omega),aj,XD (by omega)];rfl
theorem kA (e:Expr):1<=dD e:=by rw[oP];omega
theorem j6 {e x:Expr}(hx:x∈e.Args):dD x+1<=dD e:=by
 have:=EJ hx;have:=oP e;omega
theorem lQ {P:Expr->Prop}(h:∀ e,(∀ x∈e.Args,P x)->P e)(e:Expr):P e:=by
 have:∀ n e,dD e<=n->P e:=by
  intro n
  induction n with
  | zero=>intro e he;have:=kA e;omega
  | succ n ih=>intro e he;exact h e λx hx=>ih x (by have:=j6 hx;omega)
 exact this _ e (Acz _)
theorem ga {α ρ:Type}{c:ρ}{q:α->Bool}:∀ {xs:List α} {i:Nat} {f:Nat->α->Unit->Option (Unit ⊕ ρ)},(∀ k x,x∈xs->f k x ()=some (if q x=true then .inl () else .inr c))->findL f i xs ()=some (if xs.all q=true then .inl () else .inr c)
 | [],i,f,h=>rfl
 | x::xs,i,f,h=>by
  rw[findL,h i x (by simp)];by_cases hx:q x=true;rw[ao hx,aj];show findL f (i+1) xs ()=_;rw[ga λk y hy=>h k y (by simp[hy])];simp[hx];rw[an hx];simp[hx]
theorem Fs {α:Type}{q:α->Bool}:∀ {xs:List α} {i:Nat} {f:Nat->α->Unit->Option (Unit ⊕ Int)},(∀ k x,x∈xs->f k x ()=some (if q x=true then .inr (k:Int) else .inl ()))->findL f i xs ()=some (if xs.any q=true then .inr ((i+xs.findIdx q:Nat):Int) else .inl ())
 | [],i,f,h=>rfl
 | x::xs,i,f,h=>by
  rw[findL,h i x (by simp)];by_cases hx:q x=true;rw[ao hx];simp[hx,Dxz];rw[an hx,aj];show findL f (i+1) xs ()=_;rw[Fs λk y hy=>h k y (by simp[hy])];have hx' : q x=false:=by simpa using hx
  simp only[List.any_cons,hx',Bool.false_or,Dxz,cond_false];rw[show i+1+xs.findIdx q=i+(xs.findIdx q+1) by omega]
mutual
def dx (p:Expr->Bool):Expr->Bool
 | ⟨H,W,a2,a3,a4,a5,a6⟩=>p ⟨H,W,a2,a3,a4,a5,a6⟩&&Aq p a6
def Aq (p:Expr->Bool):List Expr->Bool
 | []=>true
 | x::xs=>dx p x&&Aq p xs
end
mutual
def bO:Expr->Nat
 | ⟨_,_,_,_,_,_,a6⟩=>gB a6+1
def gB:List Expr->Nat
 | []=>0
 | x::xs=>bO x+gB xs
end
mutual
def eA:Expr->Nat
 | ⟨_,_,_,_,_,_,a6⟩=>mc a6+1
def mc:List Expr->Nat
 | []=>0
 | x::xs=>max (eA x) (mc xs)
end
theorem Kl (p:Expr->Bool):∀ l,Aq p l=l.all (dx p)
 | []=>rfl
 | x::xs=>by rw[Aq,Kl p xs];rfl
theorem AG (p:Expr->Bool)(e:Expr):dx p e=(p e&&e.Args.all (dx p)):=by
 cases e;rw[dx,Kl]
theorem sK (e:Expr):bO e=gB e.Args+1:=by cases e;rfl
theorem JE (e:Expr):eA e=mc e.Args+1:=by cases e;rfl
mutual
theorem EH:∀ e:Expr,bO e<=1+kG e
 | ⟨H,W,a2,a3,a4,a5,a6⟩=>by
  have:=Ln a6;simp only[bO,kG];omega
theorem Ln:∀ l:List Expr,gB l<=nK l
 | []=>by simp[gB]
 | x::xs=>by
  have U:=EH x;have K:=Ln xs;simp only[gB,nK];omega
end
theorem IT {e:Expr}(h:Sz.szd e<=1048576):bO e<=1048577:=by
 have U:=EH e;have K:kG e=Sz.szd e:=rfl;omega
mutual
theorem JD:∀ e:Expr,eA e<=bO e
 | ⟨_,_,_,_,_,_,a6⟩=>by
  have:=Kk a6;simp only[eA,bO];omega
theorem Kk:∀ l:List Expr,mc l<=gB l
 | []=>Acz _
 | x::xs=>by
  have U:=JD x;have K:=Kk xs;simp only[mc,gB];omega
end
theorem Lm:∀ {l:List Expr} {x:Expr},x∈l->bO x<=gB l
 | y::l,x,h=>by
  simp only[gB];rcases List.mem_cons.1 h with e|h;subst e;omega;have:=Lm h;omega
theorem JC {e x:Expr}(hx:x∈e.Args):bO x+1<=bO e:=by
 have:=Lm hx;have:=sK e;omega
theorem XC (e:Expr):∀ m,dD e<=m->bO e<=1099511627776->rP m e=some (bO e:Int):=by
 induction e using lQ with
 | h e ih=>
  intro m hm hc;obtain⟨m,rfl⟩:∃ q,m=q+1:=⟨m-1,by have:=kA e;omega⟩
  show uD (rP m) e=_;unfold uD;have key:∀ (l:List Expr) (i s:Nat),(∀ x∈l,x∈e.Args)->s+gB l<=1099511627776->eachL (yw (rP m)) i l (s:Int)=some ((s+gB l:Nat):Int):=by
   intro l
   induction l with
   | nil=>intro i s _ _;rfl
   | cons x l ihl=>
    intro i s hx hs;have hxm:=hx x (by simp);simp only[gB] at hs;have U:=ih x hxm m (by have:=j6 hxm;omega) (by omega);rw[eachL];unfold yw;rw[U,aj,aE (by constructor<;>omega),aj];have:=ihl (i+1) (s+bO x) (λy hy=>hx y (by simp[hy])) (by omega);rw[Int.natCast_add] at this;unfold yw at this;rw[this,gB];congr 1;omega
  rw[sK] at hc;have:=key e.Args 0 1 (λ_ h=>h) (by omega);rw[show ((1:Nat):Int)=1 from rfl] at this;rw[this,aj,sK,Nat.add_comm]
theorem Wd {e:Expr}(h:bO e<=1099511627776):B5 e=some (bO e:Int):=gY (dD e) λm hm=>XC e m hm h
theorem PF (a b:Nat):(if (b:Int) > (a:Int) then (b:Int) else (a:Int))=((max a b:Nat):Int):=by
 split<;>omega
theorem Fq {f:Expr->Option Int}{g:Nat->Expr->Int->Option Int}(hg:∀ k x s,g k x s=(f x).bind λy=>some (if y > s then y else s)):∀ (l:List Expr) (i s:Nat),(∀ x∈l,f x=some (eA x:Int))->eachL g i l (s:Int)=some ((max s (mc l):Nat):Int)
 | [],i,s,_=>by rw[eachL,mc,Nat.max_zero]
 | x::l,i,s,h=>by
  rw[eachL,hg,h x (by simp),aj,aj,PF,Fq hg l (i+1) _ λy hy=>h y (by simp[hy]),mc,Nat.max_assoc]
theorem Eh (a b:Int):jt a b=some (if b > a then b else a):=by
 unfold jt;by_cases h:b<a;rw[ao h,an (by omega)];rw[an h];split;rfl;congr 1;omega
theorem MU (e:Expr):∀ m,dD e<=m->bO e<=1099511627776->nZ m e=some (eA e:Int)/\oh m e=some (eA e:Int):=by
 induction e using lQ with
 | h e ih=>
  intro m hm hc;obtain⟨m,rfl⟩:∃ q,m=q+1:=⟨m-1,by have:=kA e;omega⟩
  show u6 (nZ m) e=_/\vb (oh m) e=_;unfold u6 vb;have hx:∀ x∈e.Args,nZ m x=some (eA x:Int)/\oh m x=some (eA x:Int):=λx hx=>ih x hx m (by have:=j6 hx;omega) (by have:=JC hx;omega);have k1:=Fq (f:=nZ m) (g:=Hh (nZ m)) (λk x s=>rfl) e.Args 0 0 λx h=>(hx x h).1;have k2:=Fq (f:=oh m) (g:=Cq (oh m)) (λk x s=>by
   unfold Cq;congr 1;funext y;rw[Eh,aj]) e.Args 0 0 λx h=>(hx x h).2
  rw[show ((0:Nat):Int)=0 from rfl] at k1 k2;have hd:=JD e;rw[JE] at hd;rw[k1,k2];have hg:aW (((max 0 (mc e.Args):Nat):Int)+1):=by constructor<;>omega
  have he:((max 0 (mc e.Args):Nat):Int)+1=(eA e:Int):=by rw[JE];omega
  refine⟨?_,?_⟩;rw[aj,aE hg,he];rw[aj,aE hg,he]
theorem Wc {e:Expr}(h:bO e<=1099511627776):Ce e=some (eA e:Int):=gY (dD e) λm hm=>(MU e m hm h).1
theorem Wb {e:Expr}(h:bO e<=1099511627776):Ck e=some (eA e:Int):=gY (dD e) λm hm=>(MU e m hm h).2
def ku (a:Int)(n:Nat):Int:=if (n:Int)<=a then a-n else -1
theorem Wa (e:Expr):∀ m,dD e<=m->∀ a:Int,0<=a->a<=1048576->bO e<=1099511627776->pv m e a=some (ku a (bO e)):=by
 induction e using lQ with
 | h e ih=>
  intro m hm a h0 U hc;obtain⟨m,rfl⟩:∃ q,m=q+1:=⟨m-1,by have:=kA e;omega⟩
  show tR (pv m) e a=_;unfold tR;rw[aE (by constructor<;>omega)];have hlen:e.Args.length<=bO e:=by
   rw[sK];have:∀ l:List Expr,l.length<=gB l:=by
    intro l
    induction l with
    | nil=>simp
    | cons x l ih=>
     have:=sK x;simp only[gB,bC];omega
   have:=this e.Args;omega
  have key:∀ (n k:Nat) (s:Int),k+n=e.Args.length->-1<=s->s<=1048576->bA (rr (pv m) e) (s,(k:Int))=some (if 0<=s then ku s (gB (e.Args.drop k)) else s):=by
   intro n
   induction n with
   | zero=>
    intro k s hk _ _;have hdrop:e.Args.drop k=[]:=List.drop_eq_nil_of_le (by omega);refine cF ?_;unfold rr;dsimp only;rw[an (by omega),hdrop];congr 2;split;unfold ku;simp[gB];omega;rfl
   | succ n ihn=>
    intro k s hk hs1 hs2;have hkl:k<e.Args.length:=by omega
    by_cases hs:0<=s;have hxm:e.Args[k]∈e.Args:=List.getElem_mem hkl;have Z:=ih _ hxm m (by have:=j6 hxm;omega) s hs hs2 (by have:=JC hxm;omega);have hstep:rr (pv m) e (s,(k:Int))=some (.inl (ku s (bO e.Args[k]),((k+1:Nat):Int))):=by
     unfold rr;dsimp only;rw[ao (by omega),ao hs,aE (by omega),cd,Cmz hkl,aj,Z,aj,aE (by constructor<;>omega)];rfl
    have hb1:-1<=ku s (bO e.Args[k]):=by unfold ku;split<;>omega
    have hb2:ku s (bO e.Args[k])<=1048576:=by unfold ku;split<;>omega
    rw[eh hstep,ihn (k+1) _ (by omega) hb1 hb2,ao hs];have hd:e.Args.drop k=e.Args[k]::e.Args.drop (k+1):=List.drop_eq_getElem_cons hkl;rw[hd,gB];congr 1;unfold ku;split<;>split<;>(try split)<;>omega;refine cF ?_;unfold rr;dsimp only;rw[ao (by omega),an hs,an hs]
  have:=key e.Args.length 0 (a-1) (by omega) (by omega) (by omega);rw[show ((0:Nat):Int)=0 from rfl] at this;rw[this,aj,List.drop_zero,sK];congr 1;unfold ku;split<;>(try split)<;>(try split)<;>omega
theorem VC {e:Expr}{a:Int}(h0:0<=a)(U:a<=1048576)(h:bO e<=1099511627776):FM e a=some (ku a (bO e)):=gY (dD e) λm hm=>Wa e m hm a h0 U h
theorem sx (x lo hi:Int):dA x lo hi=some (decide (lo<=x/\x<=hi)):=by
 unfold dA;by_cases h:lo<=x<;>simp[h]
theorem np (x lo hi:Int):cX x lo hi=some (decide (lo<=x/\x<=hi)):=by
 unfold cX;by_cases h:lo<=x<;>simp[h]
def du (c:UInt8):Bool:=decide (97<=(c.toNat:Int)/\(c.toNat:Int)<=122)
def ez (c:UInt8):Bool:=decide (48<=(c.toNat:Int)/\(c.toNat:Int)<=57)
theorem FT (c:UInt8):rA c=some (du c):=by
 unfold rA du;by_cases h:97<=(c.toNat:Int)<;>simp[h]
theorem XB (c:UInt8):tY c=some (ez c):=by
 unfold tY ez;by_cases h:48<=(c.toNat:Int)<;>simp[h]
def eD (q:Nat->Bool):Nat->Nat->Bool
 | _,0=>true
 | i,n+1=>q i&&eD q (i+1) n
theorem MS {q r:Nat->Bool}:∀ {n i:Nat},(∀ k,i<=k->q k=r k)->eD q i n=eD r i n
 | 0,_,_=>rfl
 | n+1,i,h=>by rw[eD,eD,h i (Acz _),MS λk hk=>h k (by omega)]
theorem FS {ρ:Type}{c:ρ}{q:Nat->Bool}:∀ {n i:Nat} {f:Nat->Unit->Option (Unit ⊕ ρ)},(∀ k,k<n->f (i+k) ()=some (if q (i+k)=true then .inl () else .inr c))->findN f i n ()=some (if eD q i n=true then .inl () else .inr c)
 | 0,i,f,h=>rfl
 | n+1,i,f,h=>by
  have h0:=h 0 (by omega);rw[Cxz] at h0;rw[findN,h0];by_cases hx:q i=true;rw[ao hx,aj];show findN f (i+1) n ()=_;rw[FS λk hk=>by have:=h (k+1) (by omega);rwa[show i+(k+1)=i+1+k by omega] at this];simp[eD,hx];rw[an hx];simp[eD,hx]
def dN (s:ar)(k:Nat):UInt8:=s.data.getD k 0
theorem EG {s:ar}{k:Nat}(h:k<s.size):s.data[k]?=some (dN s k):=by
 have h' : k<s.data.size:=h;unfold dN;rw[Array.getD_eq_getD_getElem?,Array.getElem?_eq_getElem h'];rfl
def xk:List ar:=[⟨#[105,102]⟩,⟨#[116,104,101,110]⟩,⟨#[101,108,115,101]⟩,⟨#[116,114,117,101]⟩,⟨#[102,97,108,115,101]⟩,⟨#[108,105,116]⟩,⟨#[110,111,110,101]⟩,⟨#[115,101,108,102]⟩,⟨#[111,102]⟩,⟨#[109,97,120]⟩,⟨#[109,105,110]⟩,⟨#[119,105,116,104]⟩,⟨#[104,97,115]⟩]
def gd (s:ar)(l:List ar):Bool:=l.any λx=>decide (x=s)
theorem VB {s:ar}{l:List ar}:gd s l=true↔s∈l:=by
 unfold gd;rw[List.any_eq_true];exact⟨λ⟨x,U,K⟩=>by simp at K;exact K▸U,λh=>⟨s,h,by simp⟩⟩
theorem Vz {s:ar}{l:List ar}(h:s∉l):gd s l=false:=by
 cases Y:gd s l with
 | false=>rfl
 | true=>exact absurd (VB.1 Y) h
def mP (s:ar):Bool:=gd s xk
theorem Vy (l:List ar)(s:ar):lM l s=some (gd s l):=by
 unfold lM;have:∀ (l:List ar) (i:Nat),findL (xd s) i l ()=some (if gd s l=true then .inr true else .inl ()):=by
  intro l
  induction l with
  | nil=>intro i;rfl
  | cons x l ih=>
   intro i;rw[findL];unfold xd at ih ⊢;have hc:gd s (x::l)=(decide (x=s)||gd s l):=rfl;by_cases h:x=s;rw[ao h,hc];simp[h];rw[an h,aj];show findL _ (i+1) l ()=_;rw[ih,hc];simp[h]
 rw[this,aj];cases gd s l<;>rfl
theorem TY (s:ar):uS s=some (mP s):=by
 unfold uS yx;rw[aj,Vy];rfl
theorem TX (s:ar):uK s=some (mP s):=by
 by_cases h:s∈xk;unfold xk at h;simp only[Dsz,List.not_mem_nil,or_false] at h;rcases h with h|h|h|h|h|h|h|h|h|h|h|h|h<;>subst h<;>rfl;unfold mP;rw[Vz h];unfold xk at h;simp only[Dsz,List.not_mem_nil,or_false,not_or] at h;obtain⟨U,K,h3,h4,h5,h6,h7,h8,h9,h10,h11,h12,h13⟩:=h;unfold uK;rw[an U,an K,an h3,an h4,an h5,an h6,an h7,an h8,an h9,an h10,an h11,an h12];simp[h13]
def dh (s:ar):Bool:=decide (0<s.size/\s.size<=8)&&(du (dN s 0)&&eD (λk=>du (dN s k)||ez (dN s k)) 1 (s.size-1) && !mP s)
theorem mC (s:ar):iD s=some (dh s):=by
 unfold iD;rw[FS (c:=false) (q:=λk=>du (dN s k)||ez (dN s k)) λk hk=>by
  rw[Adz];unfold Hi;rw[EG hk,aj,FT,aj];cases du (dN s k) with
  | true=>rfl
  | false=>
   rw[an (by simp),XB,aj];cases ez (dN s k)<;>rfl]
 rw[aj];by_cases h0:0<s.size;obtain⟨n,hn⟩:∃ n,s.size=n+1:=⟨s.size-1,by omega⟩
 unfold dh;rw[hn,eD,Drz];cases ha:eD (λk=>du (dN s k)||ez (dN s k)) (0+1) n with
 | false=>
  rw[Bool.and_false,an (by simp)];rw[Adz] at ha;simp[bb,ha]
 | true=>
  rw[Adz] at ha
  try rw[ha]
  simp only[Bool.and_true];have hc:=EG h0;cases hl:du (dN s 0) with
  | false=>
   cases hd:ez (dN s 0) with
   | false=>simp[bb]
   | true=>
    rw[ao (by simp)];show (dA _ 1 8).bind _=_;rw[sx,aj];split;rw[hc,aj,FT,hl];simp;simp
  | true=>
   rw[ao (by simp)];show (dA _ 1 8).bind _=_;rw[sx,aj];by_cases h8:n+1<=8;rw[ao (by simp;omega),hc,aj,FT,hl];simp[TX,h8];rw[an (by simp;omega)];simp[h8]
 have hs:s.size=0:=by omega
 unfold dh;rw[hs,eD,ao rfl,lL,sx,aj];simp
theorem kF (s:ar):iX s=some (dh s):=by
 unfold iX xG;rw[FS (c:=false) (q:=λk=>du (dN s k)||(decide (k≠0)&&ez (dN s k))) λk hk=>by
  rw[Adz];unfold NM;rw[EG hk,aj];have e1:(if 97<=((dN s k).toNat:Int) then some (decide (((dN s k).toNat:Int)<=122)) else some false)=some (du (dN s k)):=by
   unfold du;by_cases h:97<=((dN s k).toNat:Int)<;>simp[h]
  have e2:(if 48<=((dN s k).toNat:Int) then some (decide (((dN s k).toNat:Int)<=57)) else some false)=some (ez (dN s k)):=by
   unfold ez;by_cases h:48<=((dN s k).toNat:Int)<;>simp[h]
  rw[e1,e2,aj,aj];cases du (dN s k) with
  | true=>rfl
  | false=>
   by_cases hk0:k=0;subst hk0;simp;have:¬ ((k:Int)=0):=by omega
   rw[an (by simp),an this];cases ez (dN s k)<;>simp[hk0]]
 rw[aj];by_cases h0:0<s.size;obtain⟨n,hn⟩:∃ n,s.size=n+1:=⟨s.size-1,by omega⟩
 unfold dh;rw[hn,eD,Drz,Adz,MS (n:=n) (i:=1) (q:=λk=>du (dN s k)||(decide (k≠0)&&ez (dN s k))) (r:=λk=>du (dN s k)||ez (dN s k)) λk hk=>by simp[show k≠0 by omega]];have e0:(du (dN s 0)||(decide ((0:Nat)≠0)&&ez (dN s 0)))=du (dN s 0):=by simp
 rw[e0];cases hA:(du (dN s 0)&&eD (λk=>du (dN s k)||ez (dN s k)) 1 n) with
 | false=>simp[bb]
 | true=>
  rw[ao rfl];simp only[bb,aj];by_cases h8:n+1<=8;simp[TY,h8];omega;simp[h8];omega
 have hs:s.size=0:=by omega
 unfold dh;rw[hs];simp[bb,eD]
def mN (v:Int):Int:=if (-1000000:Int) > (if (1000000:Int)<v then (1000000:Int) else v) then (-1000000:Int) else (if (1000000:Int)<v then (1000000:Int) else v)
def kH (b:Bool):Int:=if b=true then 1 else 0
def wi (v k:Int):Int:=if k=1 then mN v else if k=2 then jo v 4095 else if k=3 then kH (!decide (v=0)) else if k=4 then (if 0<=v/\v<=999 then v else 0) else 0
theorem TW (v:Int):xU v=some (mN v):=rfl
theorem TV (a b:Int):tc a b=some (if b<a then b else a):=by
 unfold tc;by_cases h:a<b;rw[ao h,an (by omega)];rw[an h];split;rfl;congr 1;omega
theorem Tn (v:Int):ux v=some (mN v):=by
 unfold ux;rw[TV,aj,Eh,aj];congr 1;unfold mN;split<;>split<;>(try split)<;>(try split)<;>omega
theorem Tm (b:Bool):wN b=some (kH b):=by unfold wN kH;cases b<;>rfl
theorem Vx (b:Bool):uc b=some (kH b):=by unfold uc kH;cases b<;>rfl
theorem Vw (v k:Int):tG v k=some (wi v k):=by
 unfold tG wi;rw[TW,Tm,sx];by_cases U:k=1;rw[ao U,ao U];rfl;by_cases K:k=2;rw[an U,an U,ao K,ao K];by_cases h3:k=3;rw[an U,an U,an K,an K,ao h3,ao h3];rfl;by_cases h4:k=4;rw[an U,an U,an K,an K,an h3,an h3,ao h4,ao h4,aj];by_cases h:0<=v/\v<=999<;>simp[h];rw[an U,an U,an K,an K,an h3,an h3,an h4,an h4]
theorem Vv (v k:Int):tP v k=some (wi v k):=by
 unfold tP wi;rw[Tn,Vx,np];by_cases U:k=1;rw[ao U,ao U];rfl;by_cases K:k=2;rw[an U,an U,ao K,ao K];by_cases h3:k=3;rw[an U,an U,an K,an K,ao h3,ao h3];rfl;by_cases h4:k=4;rw[an U,an U,an K,an K,an h3,an h3,ao h4,ao h4,aj];by_cases h:0<=v/\v<=999<;>simp[h];rw[an U,an U,an K,an K,an h3,an h3,an h4,an h4]
def lj (v k:Int):Bool:=decide (1<=k/\k<=4)&&decide (wi v k=v)
theorem Vu (v k:Int):uq v k=some (lj v k):=by
 unfold uq qZ lj;rw[sx,aj,aj,Vw,aj];by_cases h:1<=k/\k<=4<;>simp[h]
theorem Kj (v k:Int):rJ v k=some (lj v k):=by
 unfold rJ lj;rw[np,aj,Vv,aj];by_cases h:1<=k/\k<=4<;>simp[h]
def opT (n:Int):Int×Int×Int:=
 if 1<=n/\n<=5 then (1,1,1) else if 6<=n/\n<=8 then (2,2,2) else if n=9∨n=10 then (1,1,3) else if n=11 then (2,1,3) else if n=12 then (2,1,2) else (0,0,0)
theorem PE {n a b c d e:Int}:(if n=a then some (decide (n=a)) else if n=b then some (decide (n=b)) else if n=c then some (decide (n=c)) else if n=d then some (decide (n=d)) else some (decide (n=e)))=some (decide (n=a∨n=b∨n=c∨n=d∨n=e)):=by
 by_cases U:n=a;simp[U];by_cases K:n=b;simp[U,K];by_cases h3:n=c;rw[an U,an K,ao h3];simp[h3];by_cases h4:n=d;rw[an U,an K,an h3,ao h4];simp[h4];simp[U,K,h3,h4]
theorem PD {n a b c:Int}:(if n=a then some (decide (n=a)) else if n=b then some (decide (n=b)) else some (decide (n=c)))=some (decide (n=a∨n=b∨n=c)):=by
 by_cases U:n=a;simp[U];by_cases K:n=b;simp[U,K];simp[U,K]
theorem Tl (n:Int):vx n=some (opT n):=by
 unfold vx opT;rw[PE,PD];simp only[aj];by_cases U:1<=n/\n<=5;rw[ao (by simp;omega),ao U];rw[an (by simp;omega),an U];by_cases K:6<=n/\n<=8;rw[ao (by simp;omega),ao K];rw[an (by simp;omega),an K];by_cases h3:n=9;simp[h3];by_cases h3' : n=10;simp[h3'];by_cases h4:n=11;simp[h4];by_cases h5:n=12;simp[h5];simp[h3,h3',h4,h5]
theorem Tk (n:Int):jN n=some (opT n):=by
 unfold jN opT;rw[np,np];simp only[aj];by_cases U:1<=n/\n<=5;rw[ao (by simpa using U),ao U];rw[an (by simpa using U),an U];by_cases K:6<=n/\n<=8;rw[ao (by simpa using K),ao K];rw[an (by simpa using K),an K];by_cases h3:n=9;rw[ao h3,ao (.inl h3)];rw[an h3];by_cases h3' : n=10;rw[ao h3',ao (.inr h3')];have h33:¬(n=9∨n=10):=by omega
 rw[an h3',an h33];by_cases h4:n=11;rw[ao h4,ao h4];rw[an h4,an h4];by_cases h5:n=12;rw[ao h5,ao h5];rw[an h5,an h5]
theorem Tj (a b:Expr):kh a b=some (decide (a.Kind=b.Kind)&&(decide (a.N=b.N)&&(decide (a.Pos=b.Pos)&&(decide (a.t__=b.t__)&&(decide (a.ah=b.ah)&&decide (a.Name=b.Name)))))):=by
 unfold kh;by_cases U:a.Kind=b.Kind;rw[ao U,aj];by_cases K:a.N=b.N;by_cases h3:a.Pos=b.Pos;by_cases h4:a.t__=b.t__;by_cases h5:a.ah=b.ah;simp[U,K,h3,h4,h5];simp[U,K,h3,h4,h5];simp[U,K,h3,h4];simp[U,K,h3];simp[U,K];simp[U]
def wh (k:Int):Int:=if k=4 then 2 else if k=5 then 3 else if k=8 then 1 else 0
def wg (e:Expr):Bool:=decide ((e.Args.length:Int)=wh e.Kind)&&((decide (e.Kind=3∨e.Kind=6)||decide (e.Pos=0))&&((decide (e.Kind=3∨e.Kind=8)||decide (e.Name=⟨#[]⟩))&&((decide (e.Kind=1∨e.Kind=4)||decide (e.N=0))&&((decide (e.Kind=1)||decide (e.t__=0))&&(decide (e.Kind=8)||decide (e.ah=⟨#[]⟩))))))
theorem Ti (e:Expr):tQ e=some (wg e):=by
 unfold tQ;have h0:(if e.Kind=4 then some 2 else if e.Kind=5 then some 3 else if e.Kind=8 then some 1 else some (0:Int))=some (wh e.Kind):=by
  unfold wh;split;rfl;split;rfl;split<;>rfl
 have or2:∀ a b:Prop,[Decidable a]->[Decidable b]->(if a then some true else some (decide b))=some (decide (a∨b)):=λa b _ _=>by
  by_cases h:a<;>simp[h]
 have or1:∀ (a:Prop) (b:Bool),[Decidable a]->(if a then some true else some b)=some (decide a||b):=λa b _=>by
  by_cases h:a<;>simp[h]
 have orB:∀ a b:Bool,(if a=true then some true else some b)=some (a||b):=λa b=>by cases a<;>rfl
 have andB:∀ a b:Bool,(if a=true then some b else some false)=some (a&&b):=λa b=>by cases a<;>rfl
 rw[h0,aj];unfold wg;by_cases hl:(e.Args.length:Int)=wh e.Kind;rw[ao hl];simp only[or2,or1,orB,andB,aj];simp[hl,Bool.and_assoc];rw[an hl];simp[hl]
def DO (e:Expr):Bool:=
 if e.Kind=1 then (decide (1<=e.t__/\e.t__<=3)&&lj e.N e.t__)&&decide (0<=e.N)
 else if e.Kind=3 then decide (0<=e.Pos/\e.Pos<=3)&&dh e.Name
 else if e.Kind=6 then decide (0<=e.Pos/\e.Pos<=3)
 else if e.Kind=4 then decide (1<=e.N/\e.N<=12)
 else if e.Kind=8 then dh e.ah&&dh e.Name
 else true
def gV (e:Expr):Bool:=(decide (1<=e.Kind/\e.Kind<=8)&&wg e)&&DO e
theorem Vt (e:Expr):tO e=some (gV e):=by
 unfold tO gV;rw[np,aj,Ti,aj];by_cases hk:1<=e.Kind/\e.Kind<=8;rw[ao (by simpa using hk),aj];cases wg e with
 | false=>simp
 | true=>
  rw[an (by simp)];unfold DO;by_cases k1:e.Kind=1;rw[ao k1,ao k1,np,aj,Kj,aj];by_cases h:1<=e.t__/\e.t__<=3;cases lj e.N e.t__<;>simp[h,hk];simp[h,hk];rw[an k1,an k1];by_cases k3:e.Kind=3;rw[ao k3,ao k3,np,aj,kF];by_cases h:0<=e.Pos/\e.Pos<=3;simp[h,hk];simp[h,hk];rw[an k3,an k3];by_cases k6:e.Kind=6;rw[ao k6,ao k6,np];simp[hk];rw[an k6,an k6];by_cases k4:e.Kind=4;rw[ao k4,ao k4,np];simp[hk];rw[an k4,an k4];by_cases k8:e.Kind=8;rw[ao k8,ao k8,kF,aj,kF];cases dh e.ah<;>simp[hk];rw[an k8,an k8];simp[hk]
 rw[an (by simpa using hk)];simp[hk]
theorem Vs (e:Expr):uJ e=some (gV e):=by
 unfold uJ gV wg DO wh;simp only[Tj,sx,Vu,mC,aj];have hp3:e.Pos=0->(0<=e.Pos/\e.Pos<=3):=λh=>by omega
 by_cases k1:e.Kind=1;simp[k1];have ht:lj e.N e.t__=true->1<=e.t__/\e.t__<=4:=λh=>by
  unfold lj at h;simp at h;exact h.1
 cases Y:lj e.N e.t__ with
 | false=>by_cases h4:e.t__=4<;>simp[h4]
 | true=>
  obtain⟨t1,t2⟩:=ht Y;by_cases h4:e.t__=4;simp[h4];by_cases hn:e.N<0;have:¬ 0<=e.N:=by omega
  simp[h4,hn,this];have h0:0<=e.N:=by omega
  have h3:e.t__<=3:=by omega
  by_cases a:e.Args=[];by_cases p:e.Pos=0;simp[h4,hn,h0,h3,t1,a,p,Bool.and_comm];simp[h4,hn,h0,h3,t1,a,p];simp[h4,hn,h0,h3,t1,a]
 by_cases k3:e.Kind=3;simp[k1,k3];cases dh e.Name with
 | false=>simp
 | true=>
  by_cases a:e.Args=[];by_cases p:0<=e.Pos/\e.Pos<=3;simp[a,p];have:(decide (0<=e.Pos)&&decide (e.Pos<=3))=false:=by simp;omega
  simp[a,this];simp[a]
 by_cases k4:e.Kind=4;simp[k1,k3,k4];by_cases n:1<=e.N/\e.N<=12;by_cases a:(e.Args.length:Int)=2;by_cases p:e.Pos=0;simp[n,a,p];cases decide (e.t__=0)<;>cases decide (e.ah=⟨#[]⟩)<;>cases decide (e.Name=⟨#[]⟩)<;>rfl;simp[n,a,p];simp[n,a];have:(decide (1<=e.N)&&decide (e.N<=12))=false:=by simp;omega
 rw[an n,this];simp;have close3:∀ c:Bool,((if c=true then some (decide (0<=e.Pos)&&decide (e.Pos<=3)) else some false).bind λs9=>
   if s9=true then some (decide (e.N=0)&&(decide (e.Pos=0)&&(decide (e.t__=0)&&(decide (e.ah=⟨#[]⟩)&&decide (e.Name=⟨#[]⟩))))) else some false) =
  some (c&&(decide (e.Pos=0)&&(decide (e.Name=⟨#[]⟩)&&(decide (e.N=0)&&(decide (e.t__=0)&&decide (e.ah=⟨#[]⟩)))))):=λc=>by
  cases c with
  | false=>simp
  | true=>
   by_cases p:e.Pos=0;simp[p];cases decide (e.N=0)<;>cases decide (e.t__=0)<;>cases decide (e.ah=⟨#[]⟩)<;>cases decide (e.Name=⟨#[]⟩)<;>rfl;simp[p]
 by_cases k5:e.Kind=5;simp[k1,k3,k4,k5];simpa using close3 (decide ((e.Args.length:Int)=3));by_cases k6:e.Kind=6;simp[k1,k3,k4,k5,k6];by_cases a:e.Args=[];by_cases p:0<=e.Pos/\e.Pos<=3;simp[a,p];cases decide (e.N=0)<;>cases decide (e.t__=0)<;>cases decide (e.ah=⟨#[]⟩)<;>cases decide (e.Name=⟨#[]⟩)<;>rfl;have:(decide (0<=e.Pos)&&decide (e.Pos<=3))=false:=by simp;omega
 simp[a,this];simp[a];by_cases k8:e.Kind=8;simp[k1,k3,k4,k5,k6,k8];cases dh e.ah with
 | false=>simp
 | true=>
  cases dh e.Name with
  | false=>simp
  | true=>
   by_cases a:(e.Args.length:Int)=1;by_cases p:e.Pos=0;simp[a,p];simp[a,p];simp[a]
 by_cases k2:e.Kind=2;simp[k1,k3,k4,k5,k6,k8,k2];simpa using close3 (decide (e.Args=[]));by_cases k7:e.Kind=7;simp[k1,k3,k4,k5,k6,k8,k2,k7];simpa using close3 (decide (e.Args=[]));simp[k1,k3,k4,k5,k6,k8,k2,k7];intro U K;omega
theorem Vr (e:Expr):∀ m,dD e<=m->sZ m e=some (dx gV e):=by
 induction e using lQ with
 | h e ih=>
  intro m hm;obtain⟨m,rfl⟩:∃ q,m=q+1:=⟨m-1,by have:=kA e;omega⟩
  show ta (sZ m) e=_;unfold ta;rw[ga (c:=false) (q:=dx gV) λk x hx=>by
   unfold Mc;rw[ih x hx m (by have:=j6 hx;omega),aj];cases dx gV x<;>rfl]
  rw[AG,aj];cases e.Args.all (dx gV) with
  | true=>rw[ao rfl,lL,Vt,Bool.and_true];rfl
  | false=>rw[an (by simp),qS,Bool.and_false]
theorem Tg (e:Expr):Fa e=some (dx gV e):=gY (dD e) λm hm=>Vr e m hm
theorem wG {α:Type}(q:α->Bool)(l:List α):(!l.any λx=>!q x)=l.all q:=by
 induction l with
 | nil=>rfl
 | cons x l ih=>simp[← ih]
theorem Vq (e:Expr):∀ m,dD e<=m->vO m e=some (dx gV e):=by
 induction e using lQ with
 | h e ih=>
  intro m hm;obtain⟨m,rfl⟩:∃ q,m=q+1:=⟨m-1,by have:=kA e;omega⟩
  show vP (vO m) e=_;unfold vP zB zy;rw[Vs,aj,AG];cases gV e with
  | false=>rfl
  | true=>
   rw[ao rfl,Fs (q:=λx=>!dx gV x) λk x hx=>by
    unfold H7 zn;rw[ih x hx m (by have:=j6 hx;omega),aj,aj];cases dx gV x<;>rfl]
   rw[Bool.true_and,← wG];cases e.Args.any λx=>!dx gV x with
   | true=>
    have:(0:Int)<=((0+e.Args.findIdx λx=>!dx gV x:Nat):Int):=Int.natCast_nonneg _;rw[ao rfl,aj,qS,aj,aj,decide_eq_true this]
   | false=>rfl
theorem Tf (e:Expr):CQ e=some (dx gV e):=gY (dD e) λm hm=>Vq e m hm
def qA (e:Expr):Bool:=decide (bO e<=24)&&(decide (eA e<=6)&&dx gV e)
theorem V9 {e:Expr}(h:bO e<=1099511627776):u5 e=some (qA e):=by
 unfold u5 qA;rw[Wd h,aj,Wc h,Tf];by_cases U:bO e<=24;rw[ao (by omega),aj,aj];by_cases K:eA e<=6;rw[ao (by simp;omega),aj];simp[U,K];rw[an (by simp;omega)];simp[U,K];rw[an (by omega)];simp[U]
theorem xj {e:Expr}(h:bO e<=1099511627776):pW e=some (qA e):=by
 unfold pW qA;rw[VC (by omega) (by omega) h,aj,Wb h,Tg];unfold ku;by_cases U:bO e<=24;have h24:((bO e:Nat):Int)<=24:=by omega
 rw[ao h24,ao (by omega:(0:Int)<=24-((bO e:Nat):Int)),aj,aj];by_cases K:eA e<=6;rw[ao (by simp;omega),aj];simp[U,K];rw[an (by simp;omega)];simp[U,K];have h24:¬ ((bO e:Nat):Int)<=24:=by omega
 rw[an h24,an (by omega:¬ (0:Int)<=-1)];simp[U]
end Go.Proofs.YtodhafdaelcnlaaGreat
