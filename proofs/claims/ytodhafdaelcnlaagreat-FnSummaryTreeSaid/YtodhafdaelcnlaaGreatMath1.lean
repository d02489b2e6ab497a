/- What those partial functions come to: plain lemmas on data; each bears its conditions in its statement. -/
import Derived.Test.YtodhafdaelcnlaaGreatDef
set_option linter.unusedVariables false
set_option linter.unusedSimpArgs false
set_option linter.ambiguousOpen false
set_option linter.unusedSectionVars false
set_option linter.unnecessarySimpa false
open Nat renaming add_zero->Cxz,le_refl->Acz,zero_add->Adz,add_sub_cancel->Drz
open List renaming mem_cons->Dsz,pairwise_cons->Dtz,pairwise_append->Duz,take_add_one->Dvz,length_append->Axz,length_drop->Bsz,getElem?_eq_getElem->Cmz,getElem?_drop->Baz,length_mergeSort->Dwz,findIdx_cons->Dxz
namespace Go.E
section
variable {α σ ρ:Type}
theorem MG {c:ρ}:∀ {xs:List α} {i:Nat} {p:Nat->α->Prop} {f:Nat->α->Unit->Option (Unit ⊕ ρ)},(∀ k x,xs[k]?=some x->(p (i+k) x->f (i+k) x ()=some (.inr c))/\(¬ p (i+k) x->f (i+k) x ()=some (.inl ()))) ->
  ((∃ k x,xs[k]?=some x/\p (i+k) x)->findL f i xs ()=some (.inr c))/\((∀ k x,xs[k]?=some x->¬ p (i+k) x)->findL f i xs ()=some (.inl ()))
 | [],i,p,f,_=>⟨λ⟨k,x,h,_⟩=>by simp at h,λ_=>rfl⟩
 | x::xs,i,p,f,h=>by
  have h0:=h 0 x rfl;simp only[Cxz] at h0;have ih:=MG (c:=c) (xs:=xs) (i:=i+1) (p:=p) (f:=f) λk y hy=>by
   have:=h (k+1) y hy;rwa[show i+(k+1)=i+1+k by omega] at this
  by_cases hp:p i x;refine⟨λ_=>by simp[findL,h0.1 hp],λhn=>absurd hp (hn 0 x rfl)⟩;simp only[findL,h0.2 hp,aj];refine⟨?_,?_⟩;rintro⟨k,y,hy,hpy⟩;cases k with
  | zero=>simp at hy;subst hy;exact absurd hpy hp
  | succ k=>exact ih.1 ⟨k,y,hy,by rwa[show i+1+k=i+(k+1) by omega]⟩
  intro hn;exact ih.2 λk y hy hpy=>hn (k+1) y hy (by rwa[show i+(k+1)=i+1+k by omega])
theorem MF {c:ρ}:∀ {n i:Nat} {p:Nat->Prop} {f:Nat->Unit->Option (Unit ⊕ ρ)},(∀ k,k<n->(p (i+k)->f (i+k) ()=some (.inr c))/\(¬ p (i+k)->f (i+k) ()=some (.inl ()))) ->
  ((∃ k,k<n/\p (i+k))->findN f i n ()=some (.inr c))/\((∀ k,k<n->¬ p (i+k))->findN f i n ()=some (.inl ()))
 | 0,i,p,f,_=>⟨λ⟨k,h,_⟩=>by omega,λ_=>rfl⟩
 | n+1,i,p,f,h=>by
  have h0:=h 0 (by omega);simp only[Cxz] at h0;have ih:=MF (c:=c) (n:=n) (i:=i+1) (p:=p) (f:=f) λk hk=>by
   have:=h (k+1) (by omega);rwa[show i+(k+1)=i+1+k by omega] at this
  by_cases hp:p i;refine⟨λ_=>by simp[findN,h0.1 hp],λhn=>absurd hp (hn 0 (by omega))⟩;simp only[findN,h0.2 hp,aj];refine⟨?_,?_⟩;rintro⟨k,hk,hpk⟩;cases k with
  | zero=>exact absurd hpk hp
  | succ k=>exact ih.1 ⟨k,by omega,by rwa[show i+1+k=i+(k+1) by omega]⟩
  intro hn;exact ih.2 λk hk hpk=>hn (k+1) (by omega) (by rwa[show i+(k+1)=i+1+k by omega])
theorem Lm [DecidableEq α]{y:α}:∀ {xs:List α} {i:Nat} {f:Nat->α->Unit->Option (Unit ⊕ Int)},(∀ k x,(x=y->f k x ()=some (.inr (k:Int)))/\(x≠y->f k x ()=some (.inl ()))) ->
  findL f i xs ()=some (if y∈xs then .inr ((i+xs.idxOf y:Nat):Int) else .inl ())
 | [],i,f,_=>by simp[findL]
 | x::xs,i,f,h=>by
  by_cases hx:x=y;subst hx;simp[findL,(h i x).1 rfl];have hx' : (x == y)=false:=by simpa using hx
  simp only[findL,(h i x).2 hx,aj,Lm (xs:=xs) (i:=i+1) h,Dsz,List.idxOf_cons,hx',cond_false];by_cases hy:y∈xs;simp[hy];omega;have:¬ y=x:=λe=>hx e.symm;simp[hy,this]
theorem FV [DecidableEq α]{y:α}{xs:List α}{f:Nat->α->Unit->Option (Unit ⊕ Int)}(h:∀ k x,(x=y->f k x ()=some (.inr (k:Int)))/\(x≠y->f k x ()=some (.inl ()))) :
  (findL f 0 xs ()).bind (bg (λr1=>some r1) λ_=>some (-1))=some (ej xs y):=by
 rw[Lm h];unfold ej;by_cases hy:y∈xs<;>simp[hy]
theorem jT {P:Nat->σ->Prop}:∀ {xs:List α} {i:Nat} {s:σ} {f:Nat->α->σ->Option σ},P i s->(∀ k x s,xs[k]?=some x->P (i+k) s->∃ s',f (i+k) x s=some s'/\P (i+k+1) s')->∃ s',eachL f i xs s=some s'/\P (i+xs.length) s'
 | [],i,s,f,h,_=>⟨s,rfl,h⟩
 | x::xs,i,s,f,h,hs=>by
  obtain⟨s1,U,K⟩:=hs 0 x s rfl h;simp only[Cxz] at U K;obtain⟨s2,h3,h4⟩:=jT (P:=P) (xs:=xs) (i:=i+1) (f:=f) K λk y s hy hp=>by
   have:=hs (k+1) y s hy (by rwa[show i+(k+1)=i+1+k by omega]);rwa[show i+(k+1)=i+1+k by omega] at this
  exact⟨s2,by simp[eachL,U,h3],by rw[bE,show i+(xs.length+1)=i+1+xs.length by omega];exact h4⟩
theorem rv {P:Nat->σ->Prop}:∀ {n i:Nat} {s:σ} {f:Nat->σ->Option σ},P i s->(∀ k s,i<=k->k<i+n->P k s->∃ s',f k s=some s'/\P (k+1) s')->∃ s',eachN f i n s=some s'/\P (i+n) s'
 | 0,i,s,f,h,_=>⟨s,rfl,h⟩
 | n+1,i,s,f,h,hs=>by
  obtain⟨s1,U,K⟩:=hs i s (Acz _) (by omega) h;obtain⟨s2,h3,h4⟩:=rv (P:=P) (n:=n) (i:=i+1) (f:=f) K λk s hk hk2 hp=>hs k s (by omega) (by omega) hp;exact⟨s2,by simp[eachN,U,h3],by rw[show i+(n+1)=i+1+n by omega];exact h4⟩
end
end Go.E
set_option maxRecDepth 100000
set_option maxHeartbeats 4000000
noncomputable section
namespace Go.Proofs.YtodhafdaelcnlaaGreat
open Go Go.E
open Go.E.Sz (szd)
instance:Sz aG where
 szd x:=x.Name.size
theorem Zu (x:aG):Sz.szd x=x.Name.size:=rfl
instance:Sz ah where
 szd x:=x.Name.size+bW x.as_
theorem Ny (x:ah):Sz.szd x=x.Name.size+bW x.as_:=rfl
mutual
def kP:Expr->Nat
 | ⟨H,W,a2,a3,a4,a5,a6⟩=>a4.size+a5.size+oo a6
def oo:List Expr->Nat
 | []=>0
 | x::xs=>1+kP x+oo xs
end
instance:Sz Expr:=⟨kP⟩
theorem YQ (a:List Expr):oo a=bW a:=by
 induction a with
 | nil=>rfl
 | cons x xs ih=>simp only[oo,bW,ih];rfl
theorem fQ (x:Expr):Sz.szd x=x.ah.size+x.Name.size+bW x.Args:=by
 cases x;show kP _=_;simp only[kP,YQ]
instance:Sz ba where
 szd x:=x.At.Name.size+x.Expr.ah.size+x.Expr.Name.size+bW x.Expr.Args
theorem yw (x:ba):Sz.szd x=x.At.Name.size+x.Expr.ah.size+x.Expr.Name.size+bW x.Expr.Args:=rfl
instance:Sz Cn where
 szd x:=x.ah.size+x.Name.size+x.Target.ah.size+x.Target.Name.size+bW x.Target.Args+x.Value.ah.size+x.Value.Name.size+bW x.Value.Args
theorem CI (x:Cn):Sz.szd x=x.ah.size+x.Name.size+x.Target.ah.size+x.Target.Name.size+bW x.Target.Args+x.Value.ah.size+x.Value.Name.size+bW x.Value.Args:=rfl
instance:Sz ae where
 szd x:=x.Name.size+x.Left.size+bW x.rt_+bW x.es_+bW x.cs_
theorem pA (x:ae):Sz.szd x=x.Name.size+x.Left.size+bW x.rt_+bW x.es_+bW x.cs_:=rfl
instance:Sz al where
 szd x:=bW x.ss_+bW x.rs_
theorem yi (x:al):Sz.szd x=bW x.ss_+bW x.rs_:=rfl
end Go.Proofs.YtodhafdaelcnlaaGreat
namespace Go.E
section
variable {α:Type}{lt:α->α->Bool}
theorem Nx (irr:∀ a,lt a a=false)(tr:∀ a b c,lt a b=true->lt b c=true->lt a c=true) :
  ∀ {xs ys:List α},xs.Pairwise (λa b=>lt a b=true)->ys.Pairwise (λa b=>lt a b=true)->(∀ a,a∈xs↔a∈ys)->xs=ys
 | [],[],_,_,_=>rfl
 | [],y::ys,_,_,h=>absurd ((h y).2 (by simp)) (by simp)
 | x::xs,[],_,_,h=>absurd ((h x).1 (by simp)) (by simp)
 | x::xs,y::ys,hx,hy,h=>by
  rw[Dtz] at hx hy;have asym:∀ a b,lt a b=true->lt b a=true->False:=λa b U K=>by have:=tr a b a U K;rw[irr] at this;cases this
  have hxy:x=y:=by
   have U:=(h x).1 (by simp);have K:=(h y).2 (by simp);rcases List.mem_cons.1 U with e|U;exact e;rcases List.mem_cons.1 K with e|K;exact e.symm;exact (asym x y (hx.1 y K) (hy.1 x U)).elim
  subst hxy;congr 1;refine Nx irr tr hx.2 hy.2 λa=>?_;constructor;intro ha;rcases List.mem_cons.1 ((h a).1 (by simp[ha])) with e|U;subst e;have:=hx.1 _ ha;rw[irr] at this;cases this;exact U;intro ha;rcases List.mem_cons.1 ((h a).2 (by simp[ha])) with e|U;subst e;have:=hy.1 _ ha;rw[irr] at this;cases this;exact U
theorem Xq (tr:∀ a b c,lt a b=true->lt b c=true->lt a c=true)(eB:∀ a b,lt a b=false->lt b a=false->a=b){l:List α}{o:α}{k:Nat}(hl:l.Pairwise (λa b=>lt a b=true))
  (Y:∀ a∈l.take k,lt a o=true) (ha:∀ y,l[k]?=some y->lt y o=false/\y≠o):(l.take k++o::l.drop k).Pairwise (λa b=>lt a b=true):=by
 have hs:(l.take k++l.drop k).Pairwise (λa b=>lt a b=true):=by rw[List.take_append_drop];exact hl
 rw[Duz] at hs;have ho:∀ z∈l.drop k,lt o z=true:=by
  cases hd:l.drop k with
  | nil=>intro z hz;cases hz
  | cons y r=>
   have hy:l[k]?=some y:=by
    have:(l.drop k)[0]?=some y:=by rw[hd];rfl
    simpa using this
   obtain⟨U,K⟩:=ha y hy;have h3:lt o y=true:=by
    cases h:lt o y with
    | true=>rfl
    | false=>exact absurd (eB _ _ U h) K
   intro z hz;rcases List.mem_cons.1 hz with e|hz;rw[e];exact h3;have:=hs.2.1;rw[hd,Dtz] at this;exact tr _ _ _ h3 (this.1 z hz)
 rw[Duz,Dtz];refine⟨hs.1,⟨ho,hs.2.1⟩,λa U b K=>?_⟩;rcases List.mem_cons.1 K with e|K;rw[e];exact Y a U;exact hs.2.2 a U b K
end
section
variable {α:Type}[DecidableEq α]{lt:α->α->Bool}
def eA:List α->List α
 | []=>[]
 | [x]=>[x]
 | x::y::l=>if x=y then eA (y::l) else x::eA (y::l)
theorem Cd {a:α}:∀ {l:List α},a∈eA l↔a∈l
 | []=>Iff.rfl
 | [x]=>Iff.rfl
 | x::y::l=>by
  unfold eA;have ih:=Cd (a:=a) (l:=y::l);split;rename_i e;subst e;rw[ih];simp;rw[Dsz,ih];simp
theorem Om:∀ {l:List α},(eA l).length<=l.length
 | []=>Acz _
 | [x]=>Acz _
 | x::y::l=>by
  unfold eA;have ih:=Om (l:=y::l);simp only[bE] at ih ⊢;split;omega;simp only[bE];omega
theorem Hl (tr:∀ a b c,lt a b=true->lt b c=true->lt a c=true)(eB:∀ a b,lt a b=false->lt b a=false->a=b) :
  ∀ {l:List α},l.Pairwise (λa b=>lt b a=false)->(eA l).Pairwise (λa b=>lt a b=true)
 | [],_=>List.Pairwise.nil
 | [x],_=>by simp[eA]
 | x::y::l,h=>by
  unfold eA;rw[Dtz] at h;have ih:=Hl tr eB h.2;split;exact ih;rename_i hne;rw[Dtz];refine⟨λz hz=>?_,ih⟩;have U:lt x y=true:=by
   cases e:lt x y with
   | true=>rfl
   | false=>exact absurd (eB _ _ e (h.1 y (by simp))) hne
  rcases List.mem_cons.1 (Cd.1 hz) with e|hz;rw[e];exact U;have K:=(List.pairwise_cons.1 h.2).1 z hz;cases e:lt y z with
  | true=>exact tr _ _ _ U e
  | false=>rw[← eB _ _ e K];exact U
theorem GY {a:α}:∀ {l:List α},eA (l++[a])=if l.getLast?=some a then eA l else eA l++[a]
 | []=>by simp[eA]
 | [x]=>by
  simp only[eA,List.cons_append,List.nil_append,List.getLast?_singleton,Option.some.injEq];by_cases e:x=a;subst e;simp;simp[e]
 | x::y::l=>by
  have ih:=GY (a:=a) (l:=y::l);simp only[List.cons_append] at ih ⊢;have e:(x::y::l).getLast?=(y::l).getLast?:=by simp[List.getLast?_cons_cons]
  rw[e];show (if x=y then eA (y::(l++[a])) else x::eA (y::(l++[a])))=_;rw[ih];show _=if (y::l).getLast?=some a then (if x=y then eA (y::l) else x::eA (y::l)) else (if x=y then eA (y::l) else x::eA (y::l))++[a]
  split<;>split<;>simp
theorem GX {l:List α}{i:Nat}{a b:α}(ha:l[i]?=some a)(Y:l[i+1]?=some b):eA (l.take (i+2))=if a=b then eA (l.take (i+1)) else eA (l.take (i+1))++[b]:=by
 have U:l.take (i+2)=l.take (i+1)++[b]:=by rw[show i+2=(i+1)+1 from rfl,Dvz,Y];rfl
 have K:(l.take (i+1)).getLast?=some a:=by rw[Dvz,ha];simp
 rw[U,GY,K];by_cases e:a=b;simp[e];simp[e]
end
end Go.E
namespace Go.Proofs.YtodhafdaelcnlaaGreat
open Go Go.E
mutual
def gp:Expr->List Oc
 | ⟨H,W,a2,a3,a4,a5,a6⟩=>(if H=3 then [⟨a2,a5⟩] else [])++gO a6
def gO:List Expr->List Oc
 | []=>[]
 | x::xs=>gp x++gO xs
end
mutual
def dL:Expr->Nat
 | ⟨_,_,_,_,_,_,a6⟩=>gX a6+1
def gX:List Expr->Nat
 | []=>0
 | x::xs=>max (dL x) (gX xs)
end
theorem pc (e:Expr):dL e=gX e.Args+1:=by cases e;rfl
theorem Fx:∀ {l:List Expr} {x:Expr},x∈l->dL x<=gX l
 | y::l,x,h=>by
  simp only[gX];rcases List.mem_cons.1 h with e|h;subst e;omega;have:=Fx h;omega
theorem pz (e:Expr):gp e=(if e.Kind=3 then [⟨e.Pos,e.Name⟩] else [])++gO e.Args:=by cases e;rfl
mutual
theorem ME:∀ e:Expr,(gp e).length<=1+kP e
 | ⟨H,W,a2,a3,a4,a5,a6⟩=>by
  have:=Nw a6;simp only[gp,kP,Axz];split<;>simp<;>omega
theorem Nw:∀ l:List Expr,(gO l).length<=oo l
 | []=>by simp[gO]
 | x::xs=>by
  have U:=ME x;have K:=Nw xs;simp only[gO,oo,Axz];omega
end
theorem om {α:Type}[Sz α]{x:α}:∀ {l:List α},x∈l->Sz.szd x<bW l
 | [],h=>by simp at h
 | y::l,h=>by
  rcases List.mem_cons.1 h with rfl|h;simp only[bW];omega;have:=om h;simp only[bW];omega
theorem Ja {e x:Expr}(h:x∈e.Args):Sz.szd x<Sz.szd e:=by
 have U:=fQ e;have K:=om h;omega
theorem EE {e:Expr}(h:Sz.szd e<=1048576):(gp e).length<=1048577:=by
 have U:=ME e;have K:kP e=Sz.szd e:=rfl;omega
theorem YP:∀ (m:Nat) (e:Expr) (o:List Oc),dL e<=m->o.length+(gp e).length<=4398046511104->sB m e o=some (true,o++gp e):=by
 intro m
 induction m with
 | zero=>intro e o h;rw[pc] at h;omega
 | succ m ih=>
  have hl:∀ (l:List Expr) (i:Nat) (o:List Oc),gX l<=m->o.length+(gO l).length<=4398046511104->findL (Db (sB m)) i l o=some (.inl (o++gO l)):=by
   intro l
   induction l with
   | nil=>intro i o _ _;simp[findL,gO]
   | cons x l ihl=>
    intro i o hf Y;simp only[gX] at hf;simp only[gO,Axz] at Y;have hx:=ih x o (by omega) (by omega);simp only[findL,Db,zH,hx,aj,Bool.not_true,Bool.false_eq_true,if_false];rw[ihl _ _ (by omega) (by rw[Axz];omega),gO,List.append_assoc]
  intro e o hf Y;rw[pc] at hf;show vX (sB m) e o=_;have hb':=Y;rw[pz,Axz] at hb';have U:vQ e o=some (true,o++if e.Kind=3 then [⟨e.Pos,e.Name⟩] else []):=by
   unfold vQ;by_cases hk:e.Kind=3;rw[ao hk] at hb' ⊢;rw[ao hk,aF];simp only[bE,List.length_nil] at hb';constructor<;>omega;rw[an hk,an hk,List.append_nil]
  unfold vX;rw[U,aj];dsimp only;rw[ao rfl];unfold zO zM;rw[hl _ _ _ (by omega) (by rw[Axz];omega),pz];simp[bg]
theorem Vf {e:Expr}(h:(gp e).length<=4398046511104):C9 e []=some (true,gp e):=
 iu (dL e) λm hm=>by simpa using YP m e [] hm (by simpa using h)
theorem YO {α:Type}{s:List α}{k:Nat}{x:α}(h:k<s.length):(s.set k x).take (k+1)=s.take k++[x]:=by
 rw[Dvz,List.take_set,List.set_eq_of_length_le (by simp;omega)];simp[List.getElem?_set,h]
theorem Xp {a:List Oc}{b:Nat}(ha:a.length<=4398046511104)(Y:1<=b)(hba:b<a.length):∀ (m j k:Nat) (s:List Oc),b+j+m=a.length->1<=j->1<=k->k<=b+j-1->s.length=a.length->s.take k=eA (a.take (b+j))->s.drop (b+j-1)=a.drop (b+j-1) ->
  ∃ s' k',bK (oN (b:Int)) (s,(k:Int),(j:Int))=some (s',((k' : Nat):Int))/\k'<=s'.length/\s'.take k'=eA a:=by
 intro m
 induction m with
 | zero=>
  intro j k s hm hj hk hkj hs ht hd;refine⟨s,k,c9 ?_,by omega,?_⟩;unfold oN;dsimp only;rw[an (by simp only[b7,Bsz];omega)];rw[ht,show b+j=a.length by omega,List.take_length]
 | succ m ih=>
  intro j k s hm hj hk hkj hs ht hd;obtain⟨x,hx⟩:∃ x,a[b+j]?=some x:=⟨_,Cmz (by omega)⟩
  obtain⟨y,hy⟩:∃ y,a[b+j-1]?=some y:=⟨_,Cmz (by omega)⟩
  obtain⟨z,hz⟩:∃ z,s[k]?=some z:=⟨_,Cmz (by omega)⟩
  have hsx:s[b+j]?=some x:=by
   have:=congrArg (λl=>l[1]?) hd;simp only[Baz] at this;rw[show b+j-1+1=b+j by omega] at this;rw[this,hx]
  have hsy:s[b+(j-1)]?=some y:=by
   have:=congrArg (λl=>l[0]?) hd;simp only[Baz,Cxz] at this;rw[show b+(j-1)=b+j-1 by omega,this,hy]
  have hc:=GX (i:=b+j-1) (b:=x) hy (by rw[show b+j-1+1=b+j by omega];exact hx);rw[show b+j-1+2=b+(j+1) by omega,show b+j-1+1=b+j by omega] at hc;have hd2:s.drop (b+(j+1)-1)=a.drop (b+(j+1)-1):=by
   have:=congrArg (λl=>l.drop 1) hd;simp only[List.drop_drop] at this;rw[show b+(j+1)-1=b+j-1+1 by omega];exact this
  have e1:((j:Int)-1).toNat=j-1:=by omega
  by_cases hxy:x=y;have e:oN (b:Int) (s,(k:Int),(j:Int))=some (.inl (s,(k:Int),((j+1:Nat):Int))):=by
   unfold oN;dsimp only;rw[ao (by simp only[b7,Bsz];omega),aF (by omega)];simp only[b7];rw[hsx,aj,aF (by constructor<;>omega),aF (by omega),e1,hsy,aj,ao hxy,aj];dsimp only;rw[aF (by constructor<;>omega)];rfl
  rw[eS e];exact ih (j+1) k s (by omega) (by omega) hk (by omega) hs (by rw[hc,ao hxy.symm,ht]) hd2;have e:oN (b:Int) (s,(k:Int),(j:Int))=some (.inl (s.set k x,((k+1:Nat):Int),((j+1:Nat):Int))):=by
   unfold oN;dsimp only;rw[ao (by simp only[b7,Bsz];omega),aF (by omega)];simp only[b7];rw[hsx,aj,aF (by constructor<;>omega),aF (by omega),e1,hsy,aj,an hxy,aF (by omega),aF (by omega),hz,aj,aF (by constructor<;>omega),aj];dsimp only;rw[aF (by constructor<;>omega)];rfl
  rw[eS e];refine ih (j+1) (k+1) _ (by omega) (by omega) (by omega) (by omega) (by rw[List.length_set];exact hs) ?_ ?_;rw[YO (by omega),ht,hc,an (λh=>hxy h.symm)];rw[List.drop_set,ao (by omega)];exact hd2
theorem YN {a:List Oc}(ha:a.length<=4398046511104):∀ (m k:Nat),k+m=a.length->1<=k->eA (a.take k)=a.take k ->
  (bK (oM a) (k:Int)).bind (bg (λr1=>some r1) λ_=>some a)=some (eA a):=by
 intro m
 induction m with
 | zero=>
  intro k hm hk hc;have e:oM a (k:Int)=some (.inr (.inl ())):=by
   unfold oM;dsimp only;rw[an (by omega)]
  rw[c9 e,aj];show some a=_;rw[show k=a.length by omega,List.take_length] at hc;rw[hc]
 | succ m ih=>
  intro k hm hk hc;obtain⟨x,hx⟩:∃ x,a[k]?=some x:=⟨_,Cmz (by omega)⟩
  obtain⟨y,hy⟩:∃ y,a[k-1]?=some y:=⟨_,Cmz (by omega)⟩
  have hct:=GX (i:=k-1) (b:=x) hy (by rw[show k-1+1=k by omega];exact hx);rw[show k-1+2=k+1 by omega,show k-1+1=k by omega] at hct;have htk:a.take (k+1)=a.take k++[x]:=by rw[Dvz,hx];rfl
  have e1:((k:Int)-1).toNat=k-1:=by omega
  by_cases hxy:x=y;obtain⟨s',k',U,K,h3⟩:=Xp (b:=k) ha hk (by omega) m 1 k a (by omega) (by omega) hk (by omega) rfl (by rw[hct,ao hxy.symm,hc]) rfl;have hl:(s'.take k'++List.replicate (s'.length-k') (⟨(0:Int),(⟨#[]⟩:ar)⟩:Oc)).take k'=eA a:=by
   rw[List.take_append_of_le_length (by simp;omega),List.take_take,Nat.min_self,h3]
  have e:oM a (k:Int)=some (.inr (.inr (eA a))):=by
   unfold oM;dsimp only;rw[ao (by omega),aF (by omega)];simp only[b7];rw[hx,aj,aF (by constructor<;>omega),aF (by omega),e1,hy,aj,ao hxy,aF (by omega),aF (by omega)];have h1' : bK (oN (k:Int)) (a,(k:Int),1)=some (s',((k' : Nat):Int)):=U;rw[h1',aj];dsimp only;simp only[b7];rw[aF (by omega),aF (by omega),aF (by omega),aF (by simp;omega),hl]
  rw[c9 e,aj];rfl;have e:oM a (k:Int)=some (.inl ((k+1:Nat):Int)):=by
   unfold oM;dsimp only;rw[ao (by omega),aF (by omega)];simp only[b7];rw[hx,aj,aF (by constructor<;>omega),aF (by omega),e1,hy,aj,an hxy,aF (by constructor<;>omega)];rfl
  rw[eS e];exact ih (k+1) (by omega) (by omega) (by rw[hct,an (λh=>hxy h.symm),hc,htk])
theorem Xo {a:List Oc}(ha:a.length<=4398046511104):vZ a=some (eA a):=by
 unfold vZ;by_cases h:(a.length:Int)<2;rw[ao h]
 match a,h with
 | [],_=>rfl
 | [x],_=>rfl
 | x::y::l,h=>simp only[bE] at h;omega
 rw[an h];refine YN ha (a.length-1) 1 (by omega) (Acz _) ?_
 match a,h with
 | x::l,_=>rfl
def attrs (e:Expr):List Oc:=eA (nN (gp e))
theorem W7 {o:Oc}{e:Expr}:o∈attrs e↔o∈gp e:=by
 unfold attrs nN;rw[Cd,List.mem_mergeSort]
theorem MD {e:Expr}:(attrs e).length<=(gp e).length:=by
 unfold attrs;refine Nat.le_trans Om ?_;unfold nN;rw[Dwz];exact Acz _
theorem Fw {e:Expr}(h:Sz.szd e<=1048576):sv e=some (attrs e):=by
 have hl:=EE h;have hs:(nN (gp e)).length=(gp e).length:=by unfold nN;exact Dwz _
 unfold sv;rw[Vf (by omega),aj];dsimp only;unfold zx;rw[aF (by omega),aj,Xo (by omega)];rfl
theorem kM (e:Expr):1<=dL e:=by rw[pc];omega
theorem kn {e x:Expr}(hx:x∈e.Args):dL x+1<=dL e:=by
 have:=Fx hx;have:=pc e;omega
theorem lX {P:Expr->Prop}(h:∀ e,(∀ x∈e.Args,P x)->P e)(e:Expr):P e:=by
 have:∀ n e,dL e<=n->P e:=by
  intro n
  induction n with
  | zero=>intro e he;have:=kM e;omega
  | succ n ih=>intro e he;exact h e λx hx=>ih x (by have:=kn hx;omega)
 exact this _ e (Acz _)
theorem gz {α ρ:Type}{c:ρ}{q:α->Bool}:∀ {xs:List α} {i:Nat} {f:Nat->α->Unit->Option (Unit ⊕ ρ)},(∀ k x,x∈xs->f k x ()=some (if q x=true then .inl () else .inr c))->findL f i xs ()=some (if xs.all q=true then .inl () else .inr c)
 | [],i,f,h=>rfl
 | x::xs,i,f,h=>by
  rw[findL,h i x (by simp)];by_cases hx:q x=true;rw[ao hx,aj];show findL f (i+1) xs ()=_;rw[gz λk y hy=>h k y (by simp[hy])];simp[hx];rw[an hx];simp[hx]
theorem FU {α:Type}{q:α->Bool}:∀ {xs:List α} {i:Nat} {f:Nat->α->Unit->Option (Unit ⊕ Int)},(∀ k x,x∈xs->f k x ()=some (if q x=true then .inr (k:Int) else .inl ()))->findL f i xs ()=some (if xs.any q=true then .inr ((i+xs.findIdx q:Nat):Int) else .inl ())
 | [],i,f,h=>rfl
 | x::xs,i,f,h=>by
  rw[findL,h i x (by simp)];by_cases hx:q x=true;rw[ao hx];simp[hx,Dxz];rw[an hx,aj];show findL f (i+1) xs ()=_;rw[FU λk y hy=>h k y (by simp[hy])];have hx' : q x=false:=by simpa using hx
  simp only[List.any_cons,hx',Bool.false_or,Dxz,cond_false];rw[show i+1+xs.findIdx q=i+(xs.findIdx q+1) by omega]
mutual
def dE (p:Expr->Bool):Expr->Bool
 | ⟨H,W,a2,a3,a4,a5,a6⟩=>p ⟨H,W,a2,a3,a4,a5,a6⟩&&Av p a6
def Av (p:Expr->Bool):List Expr->Bool
 | []=>true
 | x::xs=>dE p x&&Av p xs
end
mutual
def bV:Expr->Nat
 | ⟨_,_,_,_,_,_,a6⟩=>gN a6+1
def gN:List Expr->Nat
 | []=>0
 | x::xs=>bV x+gN xs
end
mutual
def eH:Expr->Nat
 | ⟨_,_,_,_,_,_,a6⟩=>mw a6+1
def mw:List Expr->Nat
 | []=>0
 | x::xs=>max (eH x) (mw xs)
end
theorem Ll (p:Expr->Bool):∀ l,Av p l=l.all (dE p)
 | []=>rfl
 | x::xs=>by rw[Av,Ll p xs];rfl
theorem A6 (p:Expr->Bool)(e:Expr):dE p e=(p e&&e.Args.all (dE p)):=by
 cases e;rw[dE,Ll]
theorem sU (e:Expr):bV e=gN e.Args+1:=by cases e;rfl
theorem Kk (e:Expr):eH e=mw e.Args+1:=by cases e;rfl
mutual
theorem Fv:∀ e:Expr,bV e<=1+kP e
 | ⟨H,W,a2,a3,a4,a5,a6⟩=>by
  have:=MB a6;simp only[bV,kP];omega
theorem MB:∀ l:List Expr,gN l<=oo l
 | []=>by simp[gN]
 | x::xs=>by
  have U:=Fv x;have K:=MB xs;simp only[gN,oo];omega
end
theorem I9 {e:Expr}(h:Sz.szd e<=1048576):bV e<=1048577:=by
 have U:=Fv e;have K:kP e=Sz.szd e:=rfl;omega
mutual
theorem Kj:∀ e:Expr,eH e<=bV e
 | ⟨_,_,_,_,_,_,a6⟩=>by
  have:=Lk a6;simp only[eH,bV];omega
theorem Lk:∀ l:List Expr,mw l<=gN l
 | []=>Acz _
 | x::xs=>by
  have U:=Kj x;have K:=Lk xs;simp only[mw,gN];omega
end
theorem MA:∀ {l:List Expr} {x:Expr},x∈l->bV x<=gN l
 | y::l,x,h=>by
  simp only[gN];rcases List.mem_cons.1 h with e|h;subst e;omega;have:=MA h;omega
theorem Ki {e x:Expr}(hx:x∈e.Args):bV x+1<=bV e:=by
 have:=MA hx;have:=sU e;omega
theorem Xn (e:Expr):∀ m,dL e<=m->bV e<=1099511627776->r9 m e=some (bV e:Int):=by
 induction e using lX with
 | h e ih=>
  intro m hm hc;obtain⟨m,rfl⟩:∃ q,m=q+1:=⟨m-1,by have:=kM e;omega⟩
  show uK (r9 m) e=_;unfold uK;have key:∀ (l:List Expr) (i s:Nat),(∀ x∈l,x∈e.Args)->s+gN l<=1099511627776->eachL (yK (r9 m)) i l (s:Int)=some ((s+gN l:Nat):Int):=by
   intro l
   induction l with
   | nil=>intro i s _ _;rfl
   | cons x l ihl=>
    intro i s hx hs;have hxm:=hx x (by simp);simp only[gN] at hs;have U:=ih x hxm m (by have:=kn hxm;omega) (by omega);rw[eachL];unfold yK;rw[U,aj,aF (by constructor<;>omega),aj];have:=ihl (i+1) (s+bV x) (λy hy=>hx y (by simp[hy])) (by omega);rw[Int.natCast_add] at this;unfold yK at this;rw[this,gN];congr 1;omega
  rw[sU] at hc;have:=key e.Args 0 1 (λ_ h=>h) (by omega);rw[show ((1:Nat):Int)=1 from rfl] at this;rw[this,aj,sU,Nat.add_comm]
theorem W6 {e:Expr}(h:bV e<=1099511627776):Cg e=some (bV e:Int):=iu (dL e) λm hm=>Xn e m hm h
theorem P1 (a b:Nat):(if (b:Int) > (a:Int) then (b:Int) else (a:Int))=((max a b:Nat):Int):=by
 split<;>omega
theorem FT {f:Expr->Option Int}{g:Nat->Expr->Int->Option Int}(hg:∀ k x s,g k x s=(f x).bind λy=>some (if y > s then y else s)):∀ (l:List Expr) (i s:Nat),(∀ x∈l,f x=some (eH x:Int))->eachL g i l (s:Int)=some ((max s (mw l):Nat):Int)
 | [],i,s,_=>by rw[eachL,mw,Nat.max_zero]
 | x::l,i,s,h=>by
  rw[eachL,hg,h x (by simp),aj,aj,P1,FT hg l (i+1) _ λy hy=>h y (by simp[hy]),mw,Nat.max_assoc]
theorem ED (a b:Int):kT a b=some (if b > a then b else a):=by
 unfold kT;by_cases h:b<a;rw[ao h,an (by omega)];rw[an h];split;rfl;congr 1;omega
theorem Nv (e:Expr):∀ m,dL e<=m->bV e<=1099511627776->oG m e=some (eH e:Int)/\oI m e=some (eH e:Int):=by
 induction e using lX with
 | h e ih=>
  intro m hm hc;obtain⟨m,rfl⟩:∃ q,m=q+1:=⟨m-1,by have:=kM e;omega⟩
  show va (oG m) e=_/\vA (oI m) e=_;unfold va vA;have hx:∀ x∈e.Args,oG m x=some (eH x:Int)/\oI m x=some (eH x:Int):=λx hx=>ih x hx m (by have:=kn hx;omega) (by have:=Ki hx;omega);have k1:=FT (f:=oG m) (g:=Hr (oG m)) (λk x s=>rfl) e.Args 0 0 λx h=>(hx x h).1;have k2:=FT (f:=oI m) (g:=Cy (oI m)) (λk x s=>by
   unfold Cy;congr 1;funext y;rw[ED,aj]) e.Args 0 0 λx h=>(hx x h).2
  rw[show ((0:Nat):Int)=0 from rfl] at k1 k2;have hd:=Kj e;rw[Kk] at hd;rw[k1,k2];have hg:aX (((max 0 (mw e.Args):Nat):Int)+1):=by constructor<;>omega
  have he:((max 0 (mw e.Args):Nat):Int)+1=(eH e:Int):=by rw[Kk];omega
  refine⟨?_,?_⟩;rw[aj,aF hg,he];rw[aj,aF hg,he]
theorem W0 {e:Expr}(h:bV e<=1099511627776):Cu e=some (eH e:Int):=iu (dL e) λm hm=>(Nv e m hm h).1
theorem WZ {e:Expr}(h:bV e<=1099511627776):Co e=some (eH e:Int):=iu (dL e) λm hm=>(Nv e m hm h).2
def kG (a:Int)(n:Nat):Int:=if (n:Int)<=a then a-n else -1
theorem WY (e:Expr):∀ m,dL e<=m->∀ a:Int,0<=a->a<=1048576->bV e<=1099511627776->pD m e a=some (kG a (bV e)):=by
 induction e using lX with
 | h e ih=>
  intro m hm a h0 U hc;obtain⟨m,rfl⟩:∃ q,m=q+1:=⟨m-1,by have:=kM e;omega⟩
  show tP (pD m) e a=_;unfold tP;rw[aF (by constructor<;>omega)];have hlen:e.Args.length<=bV e:=by
   rw[sU];have:∀ l:List Expr,l.length<=gN l:=by
    intro l
    induction l with
    | nil=>simp
    | cons x l ih=>
     have:=sU x;simp only[gN,bE];omega
   have:=this e.Args;omega
  have key:∀ (n k:Nat) (s:Int),k+n=e.Args.length->-1<=s->s<=1048576->bK (rQ (pD m) e) (s,(k:Int))=some (if 0<=s then kG s (gN (e.Args.drop k)) else s):=by
   intro n
   induction n with
   | zero=>
    intro k s hk _ _;have hdrop:e.Args.drop k=[]:=List.drop_eq_nil_of_le (by omega);refine c9 ?_;unfold rQ;dsimp only;rw[an (by omega),hdrop];congr 2;split;unfold kG;simp[gN];omega;rfl
   | succ n ihn=>
    intro k s hk hs1 hs2;have hkl:k<e.Args.length:=by omega
    by_cases hs:0<=s;have hxm:e.Args[k]∈e.Args:=List.getElem_mem hkl;have Z:=ih _ hxm m (by have:=kn hxm;omega) s hs hs2 (by have:=Ki hxm;omega);have hstep:rQ (pD m) e (s,(k:Int))=some (.inl (kG s (bV e.Args[k]),((k+1:Nat):Int))):=by
     unfold rQ;dsimp only;rw[ao (by omega),ao hs,aF (by omega),b7,Cmz hkl,aj,Z,aj,aF (by constructor<;>omega)];rfl
    have hb1:-1<=kG s (bV e.Args[k]):=by unfold kG;split<;>omega
    have hb2:kG s (bV e.Args[k])<=1048576:=by unfold kG;split<;>omega
    rw[eS hstep,ihn (k+1) _ (by omega) hb1 hb2,ao hs];have hd:e.Args.drop k=e.Args[k]::e.Args.drop (k+1):=List.drop_eq_getElem_cons hkl;rw[hd,gN];congr 1;unfold kG;split<;>split<;>(try split)<;>omega;refine c9 ?_;unfold rQ;dsimp only;rw[ao (by omega),an hs,an hs]
  have:=key e.Args.length 0 (a-1) (by omega) (by omega) (by omega);rw[show ((0:Nat):Int)=0 from rfl] at this;rw[this,aj,List.drop_zero,sU];congr 1;unfold kG;split<;>(try split)<;>(try split)<;>omega
theorem Ve {e:Expr}{a:Int}(h0:0<=a)(U:a<=1048576)(h:bV e<=1099511627776):FM e a=some (kG a (bV e)):=iu (dL e) λm hm=>WY e m hm a h0 U h
theorem sE (x lo hi:Int):dJ x lo hi=some (decide (lo<=x/\x<=hi)):=by
 unfold dJ;by_cases h:lo<=x<;>simp[h]
theorem nQ (x lo hi:Int):cV x lo hi=some (decide (lo<=x/\x<=hi)):=by
 unfold cV;by_cases h:lo<=x<;>simp[h]
def dy (c:UInt8):Bool:=decide (97<=(c.toNat:Int)/\(c.toNat:Int)<=122)
def eG (c:UInt8):Bool:=decide (48<=(c.toNat:Int)/\(c.toNat:Int)<=57)
theorem Gh (c:UInt8):rK c=some (dy c):=by
 unfold rK dy;by_cases h:97<=(c.toNat:Int)<;>simp[h]
theorem Xm (c:UInt8):uk c=some (eG c):=by
 unfold uk eG;by_cases h:48<=(c.toNat:Int)<;>simp[h]
def eL (q:Nat->Bool):Nat->Nat->Bool
 | _,0=>true
 | i,n+1=>q i&&eL q (i+1) n
theorem Nu {q r:Nat->Bool}:∀ {n i:Nat},(∀ k,i<=k->q k=r k)->eL q i n=eL r i n
 | 0,_,_=>rfl
 | n+1,i,h=>by rw[eL,eL,h i (Acz _),Nu λk hk=>h k (by omega)]
theorem Gg {ρ:Type}{c:ρ}{q:Nat->Bool}:∀ {n i:Nat} {f:Nat->Unit->Option (Unit ⊕ ρ)},(∀ k,k<n->f (i+k) ()=some (if q (i+k)=true then .inl () else .inr c))->findN f i n ()=some (if eL q i n=true then .inl () else .inr c)
 | 0,i,f,h=>rfl
 | n+1,i,f,h=>by
  have h0:=h 0 (by omega);rw[Cxz] at h0;rw[findN,h0];by_cases hx:q i=true;rw[ao hx,aj];show findN f (i+1) n ()=_;rw[Gg λk hk=>by have:=h (k+1) (by omega);rwa[show i+(k+1)=i+1+k by omega] at this];simp[eL,hx];rw[an hx];simp[eL,hx]
def dY (s:ar)(k:Nat):UInt8:=s.data.getD k 0
theorem Fu {s:ar}{k:Nat}(h:k<s.size):s.data[k]?=some (dY s k):=by
 have h' : k<s.data.size:=h;unfold dY;rw[Array.getD_eq_getD_getElem?,Array.getElem?_eq_getElem h'];rfl
def xu:List ar:=[⟨#[105,102]⟩,⟨#[116,104,101,110]⟩,⟨#[101,108,115,101]⟩,⟨#[116,114,117,101]⟩,⟨#[102,97,108,115,101]⟩,⟨#[108,105,116]⟩,⟨#[110,111,110,101]⟩,⟨#[115,101,108,102]⟩,⟨#[111,102]⟩,⟨#[109,97,120]⟩,⟨#[109,105,110]⟩,⟨#[119,105,116,104]⟩,⟨#[104,97,115]⟩]
def gC (s:ar)(l:List ar):Bool:=l.any λx=>decide (x=s)
theorem Vd {s:ar}{l:List ar}:gC s l=true↔s∈l:=by
 unfold gC;rw[List.any_eq_true];exact⟨λ⟨x,U,K⟩=>by simp at K;exact K▸U,λh=>⟨s,h,by simp⟩⟩
theorem Vb {s:ar}{l:List ar}(h:s∉l):gC s l=false:=by
 cases Y:gC s l with
 | false=>rfl
 | true=>exact absurd (Vd.1 Y) h
def ni (s:ar):Bool:=gC s xu
theorem U9 (l:List ar)(s:ar):lY l s=some (gC s l):=by
 unfold lY;have:∀ (l:List ar) (i:Nat),findL (xE s) i l ()=some (if gC s l=true then .inr true else .inl ()):=by
  intro l
  induction l with
  | nil=>intro i;rfl
  | cons x l ih=>
   intro i;rw[findL];unfold xE at ih ⊢;have hc:gC s (x::l)=(decide (x=s)||gC s l):=rfl;by_cases h:x=s;rw[ao h,hc];simp[h];rw[an h,aj];show findL _ (i+1) l ()=_;rw[ih,hc];simp[h]
 rw[this,aj];cases gC s l<;>rfl
theorem Uw (s:ar):ve s=some (ni s):=by
 unfold ve yL;rw[aj,U9];rfl
theorem Uv (s:ar):uT s=some (ni s):=by
 by_cases h:s∈xu;unfold xu at h;simp only[Dsz,List.not_mem_nil,or_false] at h;rcases h with h|h|h|h|h|h|h|h|h|h|h|h|h<;>subst h<;>rfl;unfold ni;rw[Vb h];unfold xu at h;simp only[Dsz,List.not_mem_nil,or_false,not_or] at h;obtain⟨U,K,h3,h4,h5,h6,h7,h8,h9,h10,h11,h12,h13⟩:=h;unfold uT;rw[an U,an K,an h3,an h4,an h5,an h6,an h7,an h8,an h9,an h10,an h11,an h12];simp[h13]
def dj (s:ar):Bool:=decide (0<s.size/\s.size<=8)&&(dy (dY s 0)&&eL (λk=>dy (dY s k)||eG (dY s k)) 1 (s.size-1) && !ni s)
theorem mS (s:ar):iN s=some (dj s):=by
 unfold iN;rw[Gg (c:=false) (q:=λk=>dy (dY s k)||eG (dY s k)) λk hk=>by
  rw[Adz];unfold Hs;rw[Fu hk,aj,Gh,aj];cases dy (dY s k) with
  | true=>rfl
  | false=>
   rw[an (by simp),Xm,aj];cases eG (dY s k)<;>rfl]
 rw[aj];by_cases h0:0<s.size;obtain⟨n,hn⟩:∃ n,s.size=n+1:=⟨s.size-1,by omega⟩
 unfold dj;rw[hn,eL,Drz];cases ha:eL (λk=>dy (dY s k)||eG (dY s k)) (0+1) n with
 | false=>
  rw[Bool.and_false,an (by simp)];rw[Adz] at ha;simp[bg,ha]
 | true=>
  rw[Adz] at ha
  try rw[ha]
  simp only[Bool.and_true];have hc:=Fu h0;cases hl:dy (dY s 0) with
  | false=>
   cases hd:eG (dY s 0) with
   | false=>simp[bg]
   | true=>
    rw[ao (by simp)];show (dJ _ 1 8).bind _=_;rw[sE,aj];split;rw[hc,aj,Gh,hl];simp;simp
  | true=>
   rw[ao (by simp)];show (dJ _ 1 8).bind _=_;rw[sE,aj];by_cases h8:n+1<=8;rw[ao (by simp;omega),hc,aj,Gh,hl];simp[Uv,h8];rw[an (by simp;omega)];simp[h8]
 have hs:s.size=0:=by omega
 unfold dj;rw[hs,eL,ao rfl,mP,sE,aj];simp
theorem kS (s:ar):jk s=some (dj s):=by
 unfold jk xQ;rw[Gg (c:=false) (q:=λk=>dy (dY s k)||(decide (k≠0)&&eG (dY s k))) λk hk=>by
  rw[Adz];unfold NY;rw[Fu hk,aj];have e1:(if 97<=((dY s k).toNat:Int) then some (decide (((dY s k).toNat:Int)<=122)) else some false)=some (dy (dY s k)):=by
   unfold dy;by_cases h:97<=((dY s k).toNat:Int)<;>simp[h]
  have e2:(if 48<=((dY s k).toNat:Int) then some (decide (((dY s k).toNat:Int)<=57)) else some false)=some (eG (dY s k)):=by
   unfold eG;by_cases h:48<=((dY s k).toNat:Int)<;>simp[h]
  rw[e1,e2,aj,aj];cases dy (dY s k) with
  | true=>rfl
  | false=>
   by_cases hk0:k=0;subst hk0;simp;have:¬ ((k:Int)=0):=by omega
   rw[an (by simp),an this];cases eG (dY s k)<;>simp[hk0]]
 rw[aj];by_cases h0:0<s.size;obtain⟨n,hn⟩:∃ n,s.size=n+1:=⟨s.size-1,by omega⟩
 unfold dj;rw[hn,eL,Drz,Adz,Nu (n:=n) (i:=1) (q:=λk=>dy (dY s k)||(decide (k≠0)&&eG (dY s k))) (r:=λk=>dy (dY s k)||eG (dY s k)) λk hk=>by simp[show k≠0 by omega]];have e0:(dy (dY s 0)||(decide ((0:Nat)≠0)&&eG (dY s 0)))=dy (dY s 0):=by simp
 rw[e0];cases hA:(dy (dY s 0)&&eL (λk=>dy (dY s k)||eG (dY s k)) 1 n) with
 | false=>simp[bg]
 | true=>
  rw[ao rfl];simp only[bg,aj];by_cases h8:n+1<=8;simp[Uw,h8];omega;simp[h8];omega
 have hs:s.size=0:=by omega
 unfold dj;rw[hs];simp[bg,eL]
def nf (v:Int):Int:=if (-1000000:Int) > (if (1000000:Int)<v then (1000000:Int) else v) then (-1000000:Int) else (if (1000000:Int)<v then (1000000:Int) else v)
def kV (b:Bool):Int:=if b=true then 1 else 0
def wB (v k:Int):Int:=if k=1 then nf v else if k=2 then jy v 4095 else if k=3 then kV (!decide (v=0)) else if k=4 then (if 0<=v/\v<=999 then v else 0) else 0
theorem Uu (v:Int):yq v=some (nf v):=rfl
theorem Ut (a b:Int):tz a b=some (if b<a then b else a):=by
 unfold tz;by_cases h:a<b;rw[ao h,an (by omega)];rw[an h];split;rfl;congr 1;omega
theorem Us (v:Int):uE v=some (nf v):=by
 unfold uE;rw[Ut,aj,ED,aj];congr 1;unfold nf;split<;>split<;>(try split)<;>(try split)<;>omega
theorem Ur (b:Bool):wU b=some (kV b):=by unfold wU kV;cases b<;>rfl
theorem U8 (b:Bool):uu b=some (kV b):=by unfold uu kV;cases b<;>rfl
theorem U7 (v k:Int):tW v k=some (wB v k):=by
 unfold tW wB;rw[Uu,Ur,sE];by_cases U:k=1;rw[ao U,ao U];rfl;by_cases K:k=2;rw[an U,an U,ao K,ao K];by_cases h3:k=3;rw[an U,an U,an K,an K,ao h3,ao h3];rfl;by_cases h4:k=4;rw[an U,an U,an K,an K,an h3,an h3,ao h4,ao h4,aj];by_cases h:0<=v/\v<=999<;>simp[h];rw[an U,an U,an K,an K,an h3,an h3,an h4,an h4]
theorem U6 (v k:Int):tN v k=some (wB v k):=by
 unfold tN wB;rw[Us,U8,nQ];by_cases U:k=1;rw[ao U,ao U];rfl;by_cases K:k=2;rw[an U,an U,ao K,ao K];by_cases h3:k=3;rw[an U,an U,an K,an K,ao h3,ao h3];rfl;by_cases h4:k=4;rw[an U,an U,an K,an K,an h3,an h3,ao h4,ao h4,aj];by_cases h:0<=v/\v<=999<;>simp[h];rw[an U,an U,an K,an K,an h3,an h3,an h4,an h4]
def lG (v k:Int):Bool:=decide (1<=k/\k<=4)&&decide (wB v k=v)
theorem VY (v k:Int):uB v k=some (lG v k):=by
 unfold uB rB lG;rw[sE,aj,aj,U7,aj];by_cases h:1<=k/\k<=4<;>simp[h]
theorem Lj (v k:Int):rY v k=some (lG v k):=by
 unfold rY lG;rw[nQ,aj,U6,aj];by_cases h:1<=k/\k<=4<;>simp[h]
def opT (n:Int):Int×Int×Int:=
 if 1<=n/\n<=5 then (1,1,1) else if 6<=n/\n<=8 then (2,2,2) else if n=9∨n=10 then (1,1,3) else if n=11 then (2,1,3) else if n=12 then (2,1,2) else (0,0,0)
theorem PZ {n a b c d e:Int}:(if n=a then some (decide (n=a)) else if n=b then some (decide (n=b)) else if n=c then some (decide (n=c)) else if n=d then some (decide (n=d)) else some (decide (n=e)))=some (decide (n=a∨n=b∨n=c∨n=d∨n=e)):=by
 by_cases U:n=a;simp[U];by_cases K:n=b;simp[U,K];by_cases h3:n=c;rw[an U,an K,ao h3];simp[h3];by_cases h4:n=d;rw[an U,an K,an h3,ao h4];simp[h4];simp[U,K,h3,h4]
theorem PY {n a b c:Int}:(if n=a then some (decide (n=a)) else if n=b then some (decide (n=b)) else some (decide (n=c)))=some (decide (n=a∨n=b∨n=c)):=by
 by_cases U:n=a;simp[U];by_cases K:n=b;simp[U,K];simp[U,K]
theorem Uq (n:Int):vp n=some (opT n):=by
 unfold vp opT;rw[PZ,PY];simp only[aj];by_cases U:1<=n/\n<=5;rw[ao (by simp;omega),ao U];rw[an (by simp;omega),an U];by_cases K:6<=n/\n<=8;rw[ao (by simp;omega),ao K];rw[an (by simp;omega),an K];by_cases h3:n=9;simp[h3];by_cases h3' : n=10;simp[h3'];by_cases h4:n=11;simp[h4];by_cases h5:n=12;simp[h5];simp[h3,h3',h4,h5]
theorem Up (n:Int):jZ n=some (opT n):=by
 unfold jZ opT;rw[nQ,nQ];simp only[aj];by_cases U:1<=n/\n<=5;rw[ao (by simpa using U),ao U];rw[an (by simpa using U),an U];by_cases K:6<=n/\n<=8;rw[ao (by simpa using K),ao K];rw[an (by simpa using K),an K];by_cases h3:n=9;rw[ao h3,ao (.inl h3)];rw[an h3];by_cases h3' : n=10;rw[ao h3',ao (.inr h3')];have h33:¬(n=9∨n=10):=by omega
 rw[an h3',an h33];by_cases h4:n=11;rw[ao h4,ao h4];rw[an h4,an h4];by_cases h5:n=12;rw[ao h5,ao h5];rw[an h5,an h5]
theorem Uo (a b:Expr):kB a b=some (decide (a.Kind=b.Kind)&&(decide (a.N=b.N)&&(decide (a.Pos=b.Pos)&&(decide (a.t__=b.t__)&&(decide (a.ah=b.ah)&&decide (a.Name=b.Name)))))):=by
 unfold kB;by_cases U:a.Kind=b.Kind;rw[ao U,aj];by_cases K:a.N=b.N;by_cases h3:a.Pos=b.Pos;by_cases h4:a.t__=b.t__;by_cases h5:a.ah=b.ah;simp[U,K,h3,h4,h5];simp[U,K,h3,h4,h5];simp[U,K,h3,h4];simp[U,K,h3];simp[U,K];simp[U]
def wA (k:Int):Int:=if k=4 then 2 else if k=5 then 3 else if k=8 then 1 else 0
def wz (e:Expr):Bool:=decide ((e.Args.length:Int)=wA e.Kind)&&((decide (e.Kind=3∨e.Kind=6)||decide (e.Pos=0))&&((decide (e.Kind=3∨e.Kind=8)||decide (e.Name=⟨#[]⟩))&&((decide (e.Kind=1∨e.Kind=4)||decide (e.N=0))&&((decide (e.Kind=1)||decide (e.t__=0))&&(decide (e.Kind=8)||decide (e.ah=⟨#[]⟩))))))
theorem Un (e:Expr):tO e=some (wz e):=by
 unfold tO;have h0:(if e.Kind=4 then some 2 else if e.Kind=5 then some 3 else if e.Kind=8 then some 1 else some (0:Int))=some (wA e.Kind):=by
  unfold wA;split;rfl;split;rfl;split<;>rfl
 have or2:∀ a b:Prop,[Decidable a]->[Decidable b]->(if a then some true else some (decide b))=some (decide (a∨b)):=λa b _ _=>by
  by_cases h:a<;>simp[h]
 have or1:∀ (a:Prop) (b:Bool),[Decidable a]->(if a then some true else some b)=some (decide a||b):=λa b _=>by
  by_cases h:a<;>simp[h]
 have orB:∀ a b:Bool,(if a=true then some true else some b)=some (a||b):=λa b=>by cases a<;>rfl
 have andB:∀ a b:Bool,(if a=true then some b else some false)=some (a&&b):=λa b=>by cases a<;>rfl
 rw[h0,aj];unfold wz;by_cases hl:(e.Args.length:Int)=wA e.Kind;rw[ao hl];simp only[or2,or1,orB,andB,aj];simp[hl,Bool.and_assoc];rw[an hl];simp[hl]
def D4 (e:Expr):Bool:=
 if e.Kind=1 then (decide (1<=e.t__/\e.t__<=3)&&lG e.N e.t__)&&decide (0<=e.N)
 else if e.Kind=3 then decide (0<=e.Pos/\e.Pos<=3)&&dj e.Name
 else if e.Kind=6 then decide (0<=e.Pos/\e.Pos<=3)
 else if e.Kind=4 then decide (1<=e.N/\e.N<=12)
 else if e.Kind=8 then dj e.ah&&dj e.Name
 else true
def il (e:Expr):Bool:=(decide (1<=e.Kind/\e.Kind<=8)&&wz e)&&D4 e
theorem VX (e:Expr):tM e=some (il e):=by
 unfold tM il;rw[nQ,aj,Un,aj];by_cases hk:1<=e.Kind/\e.Kind<=8;rw[ao (by simpa using hk),aj];cases wz e with
 | false=>simp
 | true=>
  rw[an (by simp)];unfold D4;by_cases k1:e.Kind=1;rw[ao k1,ao k1,nQ,aj,Lj,aj];by_cases h:1<=e.t__/\e.t__<=3;cases lG e.N e.t__<;>simp[h,hk];simp[h,hk];rw[an k1,an k1];by_cases k3:e.Kind=3;rw[ao k3,ao k3,nQ,aj,kS];by_cases h:0<=e.Pos/\e.Pos<=3;simp[h,hk];simp[h,hk];rw[an k3,an k3];by_cases k6:e.Kind=6;rw[ao k6,ao k6,nQ];simp[hk];rw[an k6,an k6];by_cases k4:e.Kind=4;rw[ao k4,ao k4,nQ];simp[hk];rw[an k4,an k4];by_cases k8:e.Kind=8;rw[ao k8,ao k8,kS,aj,kS];cases dj e.ah<;>simp[hk];rw[an k8,an k8];simp[hk]
 rw[an (by simpa using hk)];simp[hk]
theorem VW (e:Expr):uS e=some (il e):=by
 unfold uS il wz D4 wA;simp only[Uo,sE,VY,mS,aj];have hp3:e.Pos=0->(0<=e.Pos/\e.Pos<=3):=λh=>by omega
 by_cases k1:e.Kind=1;simp[k1];have ht:lG e.N e.t__=true->1<=e.t__/\e.t__<=4:=λh=>by
  unfold lG at h;simp at h;exact h.1
 cases Y:lG e.N e.t__ with
 | false=>by_cases h4:e.t__=4<;>simp[h4]
 | true=>
  obtain⟨t1,t2⟩:=ht Y;by_cases h4:e.t__=4;simp[h4];by_cases hn:e.N<0;have:¬ 0<=e.N:=by omega
  simp[h4,hn,this];have h0:0<=e.N:=by omega
  have h3:e.t__<=3:=by omega
  by_cases a:e.Args=[];by_cases p:e.Pos=0;simp[h4,hn,h0,h3,t1,a,p,Bool.and_comm];simp[h4,hn,h0,h3,t1,a,p];simp[h4,hn,h0,h3,t1,a]
 by_cases k3:e.Kind=3;simp[k1,k3];cases dj e.Name with
 | false=>simp
 | true=>
  by_cases a:e.Args=[];by_cases p:0<=e.Pos/\e.Pos<=3;simp[a,p];have:(decide (0<=e.Pos)&&decide (e.Pos<=3))=false:=by simp;omega
  simp[a,this];simp[a]
 by_cases k4:e.Kind=4;simp[k1,k3,k4];by_cases n:1<=e.N/\e.N<=12;by_cases a:(e.Args.length:Int)=2;by_cases p:e.Pos=0;simp[n,a,p];cases decide (e.t__=0)<;>cases decide (e.ah=⟨#[]⟩)<;>cases decide (e.Name=⟨#[]⟩)<;>rfl;simp[n,a,p];simp[n,a];have:(decide (1<=e.N)&&decide (e.N<=12))=false:=by simp;omega
 rw[an n,this];simp;have close3:∀ c:Bool,((if c=true then some (decide (0<=e.Pos)&&decide (e.Pos<=3)) else some false).bind λs9=>
   if s9=true then some (decide (e.N=0)&&(decide (e.Pos=0)&&(decide (e.t__=0)&&(decide (e.ah=⟨#[]⟩)&&decide (e.Name=⟨#[]⟩))))) else some false) =
  some (c&&(decide (e.Pos=0)&&(decide (e.Name=⟨#[]⟩)&&(decide (e.N=0)&&(decide (e.t__=0)&&decide (e.ah=⟨#[]⟩)))))):=λc=>by
  cases c with
  | false=>simp
  | true=>
   by_cases p:e.Pos=0;simp[p];cases decide (e.N=0)<;>cases decide (e.t__=0)<;>cases decide (e.ah=⟨#[]⟩)<;>cases decide (e.Name=⟨#[]⟩)<;>rfl;simp[p]
 by_cases k5:e.Kind=5;simp[k1,k3,k4,k5];simpa using close3 (decide ((e.Args.length:Int)=3));by_cases k6:e.Kind=6;simp[k1,k3,k4,k5,k6];by_cases a:e.Args=[];by_cases p:0<=e.Pos/\e.Pos<=3;simp[a,p];cases decide (e.N=0)<;>cases decide (e.t__=0)<;>cases decide (e.ah=⟨#[]⟩)<;>cases decide (e.Name=⟨#[]⟩)<;>rfl;have:(decide (0<=e.Pos)&&decide (e.Pos<=3))=false:=by simp;omega
 simp[a,this];simp[a];by_cases k8:e.Kind=8;simp[k1,k3,k4,k5,k6,k8];cases dj e.ah with
 | false=>simp
 | true=>
  cases dj e.Name with
  | false=>simp
  | true=>
   by_cases a:(e.Args.length:Int)=1;by_cases p:e.Pos=0;simp[a,p];simp[a,p];simp[a]
 by_cases k2:e.Kind=2;simp[k1,k3,k4,k5,k6,k8,k2];simpa using close3 (decide (e.Args=[]));by_cases k7:e.Kind=7;simp[k1,k3,k4,k5,k6,k8,k2,k7];simpa using close3 (decide (e.Args=[]));simp[k1,k3,k4,k5,k6,k8,k2,k7];intro U K;omega
theorem VV (e:Expr):∀ m,dL e<=m->tw m e=some (dE il e):=by
 induction e using lX with
 | h e ih=>
  intro m hm;obtain⟨m,rfl⟩:∃ q,m=q+1:=⟨m-1,by have:=kM e;omega⟩
  show tx (tw m) e=_;unfold tx;rw[gz (c:=false) (q:=dE il) λk x hx=>by
   unfold Me;rw[ih x hx m (by have:=kn hx;omega),aj];cases dE il x<;>rfl]
  rw[A6,aj];cases e.Args.all (dE il) with
  | true=>rw[ao rfl,mP,VX,Bool.and_true];rfl
  | false=>rw[an (by simp),rq,Bool.and_false]
theorem Um (e:Expr):E8 e=some (dE il e):=iu (dL e) λm hm=>VV e m hm
theorem wS {α:Type}(q:α->Bool)(l:List α):(!l.any λx=>!q x)=l.all q:=by
 induction l with
 | nil=>rfl
 | cons x l ih=>simp[← ih]
theorem VU (e:Expr):∀ m,dL e<=m->vU m e=some (dE il e):=by
 induction e using lX with
 | h e ih=>
  intro m hm;obtain⟨m,rfl⟩:∃ q,m=q+1:=⟨m-1,by have:=kM e;omega⟩
  show vV (vU m) e=_;unfold vV zL zJ;rw[VW,aj,A6];cases il e with
  | false=>rfl
  | true=>
   rw[ao rfl,FU (q:=λx=>!dE il x) λk x hx=>by
    unfold Ie zw;rw[ih x hx m (by have:=kn hx;omega),aj,aj];cases dE il x<;>rfl]
   rw[Bool.true_and,← wS];cases e.Args.any λx=>!dE il x with
   | true=>
    have:(0:Int)<=((0+e.Args.findIdx λx=>!dE il x:Nat):Int):=Int.natCast_nonneg _;rw[ao rfl,aj,rq,aj,aj,decide_eq_true this]
   | false=>rfl
theorem Ul (e:Expr):C7 e=some (dE il e):=iu (dL e) λm hm=>VU e m hm
def qV (e:Expr):Bool:=decide (bV e<=24)&&(decide (eH e<=6)&&dE il e)
theorem WX {e:Expr}(h:bV e<=1099511627776):u9 e=some (qV e):=by
 unfold u9 qV;rw[W6 h,aj,W0 h,Ul];by_cases U:bV e<=24;rw[ao (by omega),aj,aj];by_cases K:eH e<=6;rw[ao (by simp;omega),aj];simp[U,K];rw[an (by simp;omega)];simp[U,K];rw[an (by omega)];simp[U]
theorem xt {e:Expr}(h:bV e<=1099511627776):qj e=some (qV e):=by
 unfold qj qV;rw[Ve (by omega) (by omega) h,aj,WZ h,Um];unfold kG;by_cases U:bV e<=24;have h24:((bV e:Nat):Int)<=24:=by omega
 rw[ao h24,ao (by omega:(0:Int)<=24-((bV e:Nat):Int)),aj,aj];by_cases K:eH e<=6;rw[ao (by simp;omega),aj];simp[U,K];rw[an (by simp;omega)];simp[U,K];have h24:¬ ((bV e:Nat):Int)<=24:=by omega
 rw[an h24,an (by omega:¬ (0:Int)<=-1)];simp[U]
end Go.Proofs.YtodhafdaelcnlaaGreat
