/- What those partial functions come to: plain lemmas on data; each bears its conditions in its statement. -/
import Derived.Test.YtodhafdaelcnlaaGreatDef
set_option linter.unusedVariables false
set_option linter.unusedSimpArgs false
set_option linter.ambiguousOpen false
set_option linter.unusedSectionVars false
set_option linter.unnecessarySimpa false
open Nat renaming add_zero->Cxz,le_refl->Acz,zero_add->Adz,add_sub_cancel->Drz
open List renaming mem_cons->Dsz,pairwise_cons->Dtz,pairwise_append->Duz,take_add_one->Dvz,length_append->Axz,length_drop->Bsz,getElem?_eq_getElem->Cmz,getElem?_drop->Baz,length_mergeSort->Dwz,findIdx_cons->Dxz
namespace Go.E
section
variable {α σ ρ:Type}
theorem Fo {c:ρ}:∀ {xs:List α} {i:Nat} {p:Nat->α->Prop} {f:Nat->α->Unit->Option (Unit ⊕ ρ)},(∀ k x,xs[k]?=some x->(p (i+k) x->f (i+k) x ()=some (.inr c))/\(¬ p (i+k) x->f (i+k) x ()=some (.inl ()))) ->
  ((∃ k x,xs[k]?=some x/\p (i+k) x)->findL f i xs ()=some (.inr c))/\((∀ k x,xs[k]?=some x->¬ p (i+k) x)->findL f i xs ()=some (.inl ()))
 | [],i,p,f,_=>⟨λ⟨k,x,h,_⟩=>by simp at h,λ_=>rfl⟩
 | x::xs,i,p,f,h=>by
  have h0:=h 0 x rfl;simp only[Cxz] at h0;have ih:=Fo (c:=c) (xs:=xs) (i:=i+1) (p:=p) (f:=f) λk y hy=>by
   have:=h (k+1) y hy;rwa[show i+(k+1)=i+1+k by omega] at this
  by_cases hp:p i x;refine⟨λ_=>by simp[findL,h0.1 hp],λhn=>absurd hp (hn 0 x rfl)⟩;simp only[findL,h0.2 hp,aj];refine⟨?_,?_⟩;rintro⟨k,y,hy,hpy⟩;cases k with
  | zero=>simp at hy;subst hy;exact absurd hpy hp
  | succ k=>exact ih.1 ⟨k,y,hy,by rwa[show i+1+k=i+(k+1) by omega]⟩
  intro hn;exact ih.2 λk y hy hpy=>hn (k+1) y hy (by rwa[show i+(k+1)=i+1+k by omega])
theorem K8 {c:ρ}:∀ {n i:Nat} {p:Nat->Prop} {f:Nat->Unit->Option (Unit ⊕ ρ)},(∀ k,k<n->(p (i+k)->f (i+k) ()=some (.inr c))/\(¬ p (i+k)->f (i+k) ()=some (.inl ()))) ->
  ((∃ k,k<n/\p (i+k))->findN f i n ()=some (.inr c))/\((∀ k,k<n->¬ p (i+k))->findN f i n ()=some (.inl ()))
 | 0,i,p,f,_=>⟨λ⟨k,h,_⟩=>by omega,λ_=>rfl⟩
 | n+1,i,p,f,h=>by
  have h0:=h 0 (by omega);simp only[Cxz] at h0;have ih:=K8 (c:=c) (n:=n) (i:=i+1) (p:=p) (f:=f) λk hk=>by
   have:=h (k+1) (by omega);rwa[show i+(k+1)=i+1+k by omega] at this
  by_cases hp:p i;refine⟨λ_=>by simp[findN,h0.1 hp],λhn=>absurd hp (hn 0 (by omega))⟩;simp only[findN,h0.2 hp,aj];refine⟨?_,?_⟩;rintro⟨k,hk,hpk⟩;cases k with
  | zero=>exact absurd hpk hp
  | succ k=>exact ih.1 ⟨k,by omega,by rwa[show i+1+k=i+(k+1) by omega]⟩
  intro hn;exact ih.2 λk hk hpk=>hn (k+1) (by omega) (by rwa[show i+(k+1)=i+1+k by omega])
theorem Kd [DecidableEq α]{y:α}:∀ {xs:List α} {i:Nat} {f:Nat->α->Unit->Option (Unit ⊕ Int)},(∀ k x,(x=y->f k x ()=some (.inr (k:Int)))/\(x≠y->f k x ()=some (.inl ()))) ->
  findL f i xs ()=some (if y∈xs then .inr ((i+xs.idxOf y:Nat):Int) else .inl ())
 | [],i,f,_=>by simp[findL]
 | x::xs,i,f,h=>by
  by_cases hx:x=y;subst hx;simp[findL,(h i x).1 rfl];have hx' : (x == y)=false:=by simpa using hx
  simp only[findL,(h i x).2 hx,aj,Kd (xs:=xs) (i:=i+1) h,Dsz,List.idxOf_cons,hx',cond_false];by_cases hy:y∈xs;simp[hy];omega;have:¬ y=x:=λe=>hx e.symm;simp[hy,this]
theorem Fl [DecidableEq α]{y:α}{xs:List α}{f:Nat->α->Unit->Option (Unit ⊕ Int)}(h:∀ k x,(x=y->f k x ()=some (.inr (k:Int)))/\(x≠y->f k x ()=some (.inl ()))) :
  (findL f 0 xs ()).bind (bf (λr1=>some r1) λ_=>some (-1))=some (eT xs y):=by
 rw[Kd h];unfold eT;by_cases hy:y∈xs<;>simp[hy]
theorem iW {P:Nat->σ->Prop}:∀ {xs:List α} {i:Nat} {s:σ} {f:Nat->α->σ->Option σ},P i s->(∀ k x s,xs[k]?=some x->P (i+k) s->∃ s',f (i+k) x s=some s'/\P (i+k+1) s')->∃ s',eachL f i xs s=some s'/\P (i+xs.length) s'
 | [],i,s,f,h,_=>⟨s,rfl,h⟩
 | x::xs,i,s,f,h,hs=>by
  obtain⟨s1,U,W⟩:=hs 0 x s rfl h;simp only[Cxz] at U W;obtain⟨s2,h3,h4⟩:=iW (P:=P) (xs:=xs) (i:=i+1) (f:=f) W λk y s hy hp=>by
   have:=hs (k+1) y s hy (by rwa[show i+(k+1)=i+1+k by omega]);rwa[show i+(k+1)=i+1+k by omega] at this
  exact⟨s2,by simp[eachL,U,h3],by rw[bH,show i+(xs.length+1)=i+1+xs.length by omega];exact h4⟩
theorem sG {P:Nat->σ->Prop}:∀ {n i:Nat} {s:σ} {f:Nat->σ->Option σ},P i s->(∀ k s,i<=k->k<i+n->P k s->∃ s',f k s=some s'/\P (k+1) s')->∃ s',eachN f i n s=some s'/\P (i+n) s'
 | 0,i,s,f,h,_=>⟨s,rfl,h⟩
 | n+1,i,s,f,h,hs=>by
  obtain⟨s1,U,W⟩:=hs i s (Acz _) (by omega) h;obtain⟨s2,h3,h4⟩:=sG (P:=P) (n:=n) (i:=i+1) (f:=f) W λk s hk hk2 hp=>hs k s (by omega) (by omega) hp;exact⟨s2,by simp[eachN,U,h3],by rw[show i+(n+1)=i+1+n by omega];exact h4⟩
end
end Go.E
set_option maxRecDepth 100000
set_option maxHeartbeats 4000000
noncomputable section
namespace Go.Proofs.YtodhafdaelcnlaaGreat
open Go Go.E
open Go.E.Sz (szd)
instance:Sz aH where
 szd x:=x.Name.size
theorem YS (x:aH):Sz.szd x=x.Name.size:=rfl
instance:Sz af where
 szd x:=x.Name.size+bP x.as_
theorem Mi (x:af):Sz.szd x=x.Name.size+bP x.as_:=rfl
mutual
def kJ:Expr->Nat
 | ⟨H,K,a2,a3,a4,a5,a6⟩=>a4.size+a5.size+nG a6
def nG:List Expr->Nat
 | []=>0
 | x::xs=>1+kJ x+nG xs
end
instance:Sz Expr:=⟨kJ⟩
theorem XK (a:List Expr):nG a=bP a:=by
 induction a with
 | nil=>rfl
 | cons x xs ih=>simp only[nG,bP,ih];rfl
theorem eX (x:Expr):Sz.szd x=x.af.size+x.Name.size+bP x.Args:=by
 cases x;show kJ _=_;simp only[kJ,XK]
instance:Sz aU where
 szd x:=x.At.Name.size+x.Expr.af.size+x.Expr.Name.size+bP x.Expr.Args
theorem uf (x:aU):Sz.szd x=x.At.Name.size+x.Expr.af.size+x.Expr.Name.size+bP x.Expr.Args:=rfl
instance:Sz Cn where
 szd x:=x.af.size+x.Name.size+x.Target.af.size+x.Target.Name.size+bP x.Target.Args+x.Value.af.size+x.Value.Name.size+bP x.Value.Args
theorem yF (x:Cn):Sz.szd x=x.af.size+x.Name.size+x.Target.af.size+x.Target.Name.size+bP x.Target.Args+x.Value.af.size+x.Value.Name.size+bP x.Value.Args:=rfl
instance:Sz aa where
 szd x:=x.Name.size+x.Left.size+bP x.rt_+bP x.es_+bP x.cs_
theorem nE (x:aa):Sz.szd x=x.Name.size+x.Left.size+bP x.rt_+bP x.es_+bP x.cs_:=rfl
instance:Sz ak where
 szd x:=bP x.ss_+bP x.rs_
theorem xF (x:ak):Sz.szd x=bP x.ss_+bP x.rs_:=rfl
end Go.Proofs.YtodhafdaelcnlaaGreat
namespace Go.E
section
variable {α:Type}{lt:α->α->Bool}
theorem Mh (irr:∀ a,lt a a=false)(tr:∀ a b c,lt a b=true->lt b c=true->lt a c=true) :
  ∀ {xs ys:List α},xs.Pairwise (λa b=>lt a b=true)->ys.Pairwise (λa b=>lt a b=true)->(∀ a,a∈xs↔a∈ys)->xs=ys
 | [],[],_,_,_=>rfl
 | [],y::ys,_,_,h=>absurd ((h y).2 (by simp)) (by simp)
 | x::xs,[],_,_,h=>absurd ((h x).1 (by simp)) (by simp)
 | x::xs,y::ys,hx,hy,h=>by
  rw[Dtz] at hx hy;have asym:∀ a b,lt a b=true->lt b a=true->False:=λa b U W=>by have:=tr a b a U W;rw[irr] at this;cases this
  have hxy:x=y:=by
   have U:=(h x).1 (by simp);have W:=(h y).2 (by simp);rcases List.mem_cons.1 U with e|U;exact e;rcases List.mem_cons.1 W with e|W;exact e.symm;exact (asym x y (hx.1 y W) (hy.1 x U)).elim
  subst hxy;congr 1;refine Mh irr tr hx.2 hy.2 λa=>?_;constructor;intro ha;rcases List.mem_cons.1 ((h a).1 (by simp[ha])) with e|U;subst e;have:=hx.1 _ ha;rw[irr] at this;cases this;exact U;intro ha;rcases List.mem_cons.1 ((h a).2 (by simp[ha])) with e|U;subst e;have:=hy.1 _ ha;rw[irr] at this;cases this;exact U
theorem Xk (tr:∀ a b c,lt a b=true->lt b c=true->lt a c=true)(fU:∀ a b,lt a b=false->lt b a=false->a=b){l:List α}{o:α}{k:Nat}(hl:l.Pairwise (λa b=>lt a b=true))
  (Y:∀ a∈l.take k,lt a o=true) (ha:∀ y,l[k]?=some y->lt y o=false/\y≠o):(l.take k++o::l.drop k).Pairwise (λa b=>lt a b=true):=by
 have hs:(l.take k++l.drop k).Pairwise (λa b=>lt a b=true):=by rw[List.take_append_drop];exact hl
 rw[Duz] at hs;have ho:∀ z∈l.drop k,lt o z=true:=by
  cases hd:l.drop k with
  | nil=>intro z hz;cases hz
  | cons y r=>
   have hy:l[k]?=some y:=by
    have:(l.drop k)[0]?=some y:=by rw[hd];rfl
    simpa using this
   obtain⟨U,W⟩:=ha y hy;have h3:lt o y=true:=by
    cases h:lt o y with
    | true=>rfl
    | false=>exact absurd (fU _ _ U h) W
   intro z hz;rcases List.mem_cons.1 hz with e|hz;rw[e];exact h3;have:=hs.2.1;rw[hd,Dtz] at this;exact tr _ _ _ h3 (this.1 z hz)
 rw[Duz,Dtz];refine⟨hs.1,⟨ho,hs.2.1⟩,λa U b W=>?_⟩;rcases List.mem_cons.1 W with e|W;rw[e];exact Y a U;exact hs.2.2 a U b W
end
section
variable {α:Type}[DecidableEq α]{lt:α->α->Bool}
def dZ:List α->List α
 | []=>[]
 | [x]=>[x]
 | x::y::l=>if x=y then dZ (y::l) else x::dZ (y::l)
theorem BL {a:α}:∀ {l:List α},a∈dZ l↔a∈l
 | []=>Iff.rfl
 | [x]=>Iff.rfl
 | x::y::l=>by
  unfold dZ;have ih:=BL (a:=a) (l:=y::l);split;rename_i e;subst e;rw[ih];simp;rw[Dsz,ih];simp
theorem NG:∀ {l:List α},(dZ l).length<=l.length
 | []=>Acz _
 | [x]=>Acz _
 | x::y::l=>by
  unfold dZ;have ih:=NG (l:=y::l);simp only[bH] at ih ⊢;split;omega;simp only[bH];omega
theorem GX (tr:∀ a b c,lt a b=true->lt b c=true->lt a c=true)(fU:∀ a b,lt a b=false->lt b a=false->a=b) :
  ∀ {l:List α},l.Pairwise (λa b=>lt b a=false)->(dZ l).Pairwise (λa b=>lt a b=true)
 | [],_=>List.Pairwise.nil
 | [x],_=>by simp[dZ]
 | x::y::l,h=>by
  unfold dZ;rw[Dtz] at h;have ih:=GX tr fU h.2;split;exact ih;rename_i hne;rw[Dtz];refine⟨λz hz=>?_,ih⟩;have U:lt x y=true:=by
   cases e:lt x y with
   | true=>rfl
   | false=>exact absurd (fU _ _ e (h.1 y (by simp))) hne
  rcases List.mem_cons.1 (BL.1 hz) with e|hz;rw[e];exact U;have W:=(List.pairwise_cons.1 h.2).1 z hz;cases e:lt y z with
  | true=>exact tr _ _ _ U e
  | false=>rw[← fU _ _ e W];exact U
theorem Gv {a:α}:∀ {l:List α},dZ (l++[a])=if l.getLast?=some a then dZ l else dZ l++[a]
 | []=>by simp[dZ]
 | [x]=>by
  simp only[dZ,List.cons_append,List.nil_append,List.getLast?_singleton,Option.some.injEq];by_cases e:x=a;subst e;simp;simp[e]
 | x::y::l=>by
  have ih:=Gv (a:=a) (l:=y::l);simp only[List.cons_append] at ih ⊢;have e:(x::y::l).getLast?=(y::l).getLast?:=by simp[List.getLast?_cons_cons]
  rw[e];show (if x=y then dZ (y::(l++[a])) else x::dZ (y::(l++[a])))=_;rw[ih];show _=if (y::l).getLast?=some a then (if x=y then dZ (y::l) else x::dZ (y::l)) else (if x=y then dZ (y::l) else x::dZ (y::l))++[a]
  split<;>split<;>simp
theorem Gu {l:List α}{i:Nat}{a b:α}(ha:l[i]?=some a)(Y:l[i+1]?=some b):dZ (l.take (i+2))=if a=b then dZ (l.take (i+1)) else dZ (l.take (i+1))++[b]:=by
 have U:l.take (i+2)=l.take (i+1)++[b]:=by rw[show i+2=(i+1)+1 from rfl,Dvz,Y];rfl
 have W:(l.take (i+1)).getLast?=some a:=by rw[Dvz,ha];simp
 rw[U,Gv,W];by_cases e:a=b;simp[e];simp[e]
end
end Go.E
namespace Go.Proofs.YtodhafdaelcnlaaGreat
open Go Go.E
mutual
def gl:Expr->List Oc
 | ⟨H,K,a2,a3,a4,a5,a6⟩=>(if H=3 then [⟨a2,a5⟩] else [])++gC a6
def gC:List Expr->List Oc
 | []=>[]
 | x::xs=>gl x++gC xs
end
mutual
def dD:Expr->Nat
 | ⟨_,_,_,_,_,_,a6⟩=>gN a6+1
def gN:List Expr->Nat
 | []=>0
 | x::xs=>max (dD x) (gN xs)
end
theorem oE (e:Expr):dD e=gN e.Args+1:=by cases e;rfl
theorem Ex:∀ {l:List Expr} {x:Expr},x∈l->dD x<=gN l
 | y::l,x,h=>by
  simp only[gN];rcases List.mem_cons.1 h with e|h;subst e;omega;have:=Ex h;omega
theorem oM (e:Expr):gl e=(if e.Kind=3 then [⟨e.Pos,e.Name⟩] else [])++gC e.Args:=by cases e;rfl
mutual
theorem K7:∀ e:Expr,(gl e).length<=1+kJ e
 | ⟨H,K,a2,a3,a4,a5,a6⟩=>by
  have:=Mg a6;simp only[gl,kJ,Axz];split<;>simp<;>omega
theorem Mg:∀ l:List Expr,(gC l).length<=nG l
 | []=>by simp[gC]
 | x::xs=>by
  have U:=K7 x;have W:=Mg xs;simp only[gC,nG,Axz];omega
end
theorem lL {α:Type}[Sz α]{x:α}:∀ {l:List α},x∈l->Sz.szd x<bP l
 | [],h=>by simp at h
 | y::l,h=>by
  rcases List.mem_cons.1 h with rfl|h;simp only[bP];omega;have:=lL h;simp only[bP];omega
theorem IL {e x:Expr}(h:x∈e.Args):Sz.szd x<Sz.szd e:=by
 have U:=eX e;have W:=lL h;omega
theorem D9 {e:Expr}(h:Sz.szd e<=1048576):(gl e).length<=1048577:=by
 have U:=K7 e;have W:kJ e=Sz.szd e:=rfl;omega
theorem XJ:∀ (m:Nat) (e:Expr) (o:List Oc),dD e<=m->o.length+(gl e).length<=4398046511104->rU m e o=some (true,o++gl e):=by
 intro m
 induction m with
 | zero=>intro e o h;rw[oE] at h;omega
 | succ m ih=>
  have hl:∀ (l:List Expr) (i:Nat) (o:List Oc),gN l<=m->o.length+(gC l).length<=4398046511104->findL (CO (rU m)) i l o=some (.inl (o++gC l)):=by
   intro l
   induction l with
   | nil=>intro i o _ _;simp[findL,gC]
   | cons x l ihl=>
    intro i o hf Y;simp only[gN] at hf;simp only[gC,Axz] at Y;have hx:=ih x o (by omega) (by omega);simp only[findL,CO,zd,hx,aj,Bool.not_true,Bool.false_eq_true,if_false];rw[ihl _ _ (by omega) (by rw[Axz];omega),gC,List.append_assoc]
  intro e o hf Y;rw[oE] at hf;show vv (rU m) e o=_;have hb':=Y;rw[oM,Axz] at hb';have U:vk e o=some (true,o++if e.Kind=3 then [⟨e.Pos,e.Name⟩] else []):=by
   unfold vk;by_cases hk:e.Kind=3;rw[ao hk] at hb' ⊢;rw[ao hk,aD];simp only[bH,List.length_nil] at hb';constructor<;>omega;rw[al hk,al hk,List.append_nil]
  unfold vv;rw[U,aj];dsimp only;rw[ao rfl];unfold zn zm;rw[hl _ _ _ (by omega) (by rw[Axz];omega),oM];simp[bf]
theorem UG {e:Expr}(h:(gl e).length<=4398046511104):CM e []=some (true,gl e):=
 iA (dD e) λm hm=>by simpa using XJ m e [] hm (by simpa using h)
theorem XI {α:Type}{s:List α}{k:Nat}{x:α}(h:k<s.length):(s.set k x).take (k+1)=s.take k++[x]:=by
 rw[Dvz,List.take_set,List.set_eq_of_length_le (by simp;omega)];simp[List.getElem?_set,h]
theorem Xj {a:List Oc}{b:Nat}(ha:a.length<=4398046511104)(Y:1<=b)(hba:b<a.length):∀ (m j k:Nat) (s:List Oc),b+j+m=a.length->1<=j->1<=k->k<=b+j-1->s.length=a.length->s.take k=dZ (a.take (b+j))->s.drop (b+j-1)=a.drop (b+j-1) ->
  ∃ s' k',bE (nY (b:Int)) (s,(k:Int),(j:Int))=some (s',((k' : Nat):Int))/\k'<=s'.length/\s'.take k'=dZ a:=by
 intro m
 induction m with
 | zero=>
  intro j k s hm hj hk hkj hs ht hd;refine⟨s,k,db ?_,by omega,?_⟩;unfold nY;dsimp only;rw[al (by simp only[cE,Bsz];omega)];rw[ht,show b+j=a.length by omega,List.take_length]
 | succ m ih=>
  intro j k s hm hj hk hkj hs ht hd;obtain⟨x,hx⟩:∃ x,a[b+j]?=some x:=⟨_,Cmz (by omega)⟩
  obtain⟨y,hy⟩:∃ y,a[b+j-1]?=some y:=⟨_,Cmz (by omega)⟩
  obtain⟨z,hz⟩:∃ z,s[k]?=some z:=⟨_,Cmz (by omega)⟩
  have hsx:s[b+j]?=some x:=by
   have:=congrArg (λl=>l[1]?) hd;simp only[Baz] at this;rw[show b+j-1+1=b+j by omega] at this;rw[this,hx]
  have hsy:s[b+(j-1)]?=some y:=by
   have:=congrArg (λl=>l[0]?) hd;simp only[Baz,Cxz] at this;rw[show b+(j-1)=b+j-1 by omega,this,hy]
  have hc:=Gu (i:=b+j-1) (b:=x) hy (by rw[show b+j-1+1=b+j by omega];exact hx);rw[show b+j-1+2=b+(j+1) by omega,show b+j-1+1=b+j by omega] at hc;have hd2:s.drop (b+(j+1)-1)=a.drop (b+(j+1)-1):=by
   have:=congrArg (λl=>l.drop 1) hd;simp only[List.drop_drop] at this;rw[show b+(j+1)-1=b+j-1+1 by omega];exact this
  have e1:((j:Int)-1).toNat=j-1:=by omega
  by_cases hxy:x=y;have e:nY (b:Int) (s,(k:Int),(j:Int))=some (.inl (s,(k:Int),((j+1:Nat):Int))):=by
   unfold nY;dsimp only;rw[ao (by simp only[cE,Bsz];omega),aD (by omega)];simp only[cE];rw[hsx,aj,aD (by constructor<;>omega),aD (by omega),e1,hsy,aj,ao hxy,aj];dsimp only;rw[aD (by constructor<;>omega)];rfl
  rw[fi e];exact ih (j+1) k s (by omega) (by omega) hk (by omega) hs (by rw[hc,ao hxy.symm,ht]) hd2;have e:nY (b:Int) (s,(k:Int),(j:Int))=some (.inl (s.set k x,((k+1:Nat):Int),((j+1:Nat):Int))):=by
   unfold nY;dsimp only;rw[ao (by simp only[cE,Bsz];omega),aD (by omega)];simp only[cE];rw[hsx,aj,aD (by constructor<;>omega),aD (by omega),e1,hsy,aj,al hxy,aD (by omega),aD (by omega),hz,aj,aD (by constructor<;>omega),aj];dsimp only;rw[aD (by constructor<;>omega)];rfl
  rw[fi e];refine ih (j+1) (k+1) _ (by omega) (by omega) (by omega) (by omega) (by rw[List.length_set];exact hs) ?_ ?_;rw[XI (by omega),ht,hc,al (λh=>hxy h.symm)];rw[List.drop_set,ao (by omega)];exact hd2
theorem XH {a:List Oc}(ha:a.length<=4398046511104):∀ (m k:Nat),k+m=a.length->1<=k->dZ (a.take k)=a.take k ->
  (bE (nX a) (k:Int)).bind (bf (λr1=>some r1) λ_=>some a)=some (dZ a):=by
 intro m
 induction m with
 | zero=>
  intro k hm hk hc;have e:nX a (k:Int)=some (.inr (.inl ())):=by
   unfold nX;dsimp only;rw[al (by omega)]
  rw[db e,aj];show some a=_;rw[show k=a.length by omega,List.take_length] at hc;rw[hc]
 | succ m ih=>
  intro k hm hk hc;obtain⟨x,hx⟩:∃ x,a[k]?=some x:=⟨_,Cmz (by omega)⟩
  obtain⟨y,hy⟩:∃ y,a[k-1]?=some y:=⟨_,Cmz (by omega)⟩
  have hct:=Gu (i:=k-1) (b:=x) hy (by rw[show k-1+1=k by omega];exact hx);rw[show k-1+2=k+1 by omega,show k-1+1=k by omega] at hct;have htk:a.take (k+1)=a.take k++[x]:=by rw[Dvz,hx];rfl
  have e1:((k:Int)-1).toNat=k-1:=by omega
  by_cases hxy:x=y;obtain⟨s',k',U,W,h3⟩:=Xj (b:=k) ha hk (by omega) m 1 k a (by omega) (by omega) hk (by omega) rfl (by rw[hct,ao hxy.symm,hc]) rfl;have hl:(s'.take k'++List.replicate (s'.length-k') (⟨(0:Int),(⟨#[]⟩:an)⟩:Oc)).take k'=dZ a:=by
   rw[List.take_append_of_le_length (by simp;omega),List.take_take,Nat.min_self,h3]
  have e:nX a (k:Int)=some (.inr (.inr (dZ a))):=by
   unfold nX;dsimp only;rw[ao (by omega),aD (by omega)];simp only[cE];rw[hx,aj,aD (by constructor<;>omega),aD (by omega),e1,hy,aj,ao hxy,aD (by omega),aD (by omega)];have h1' : bE (nY (k:Int)) (a,(k:Int),1)=some (s',((k' : Nat):Int)):=U;rw[h1',aj];dsimp only;simp only[cE];rw[aD (by omega),aD (by omega),aD (by omega),aD (by simp;omega),hl]
  rw[db e,aj];rfl;have e:nX a (k:Int)=some (.inl ((k+1:Nat):Int)):=by
   unfold nX;dsimp only;rw[ao (by omega),aD (by omega)];simp only[cE];rw[hx,aj,aD (by constructor<;>omega),aD (by omega),e1,hy,aj,al hxy,aD (by constructor<;>omega)];rfl
  rw[fi e];exact ih (k+1) (by omega) (by omega) (by rw[hct,al (λh=>hxy h.symm),hc,htk])
theorem Xi {a:List Oc}(ha:a.length<=4398046511104):vz a=some (dZ a):=by
 unfold vz;by_cases h:(a.length:Int)<2;rw[ao h]
 match a,h with
 | [],_=>rfl
 | [x],_=>rfl
 | x::y::l,h=>simp only[bH] at h;omega
 rw[al h];refine XH ha (a.length-1) 1 (by omega) (Acz _) ?_
 match a,h with
 | x::l,_=>rfl
def attrs (e:Expr):List Oc:=dZ (nk (gl e))
theorem VU {o:Oc}{e:Expr}:o∈attrs e↔o∈gl e:=by
 unfold attrs nk;rw[BL,List.mem_mergeSort]
theorem VS {e:Expr}:(attrs e).length<=(gl e).length:=by
 unfold attrs;refine Nat.le_trans NG ?_;unfold nk;rw[Dwz];exact Acz _
theorem Ew {e:Expr}(h:Sz.szd e<=1048576):rO e=some (attrs e):=by
 have hl:=D9 h;have hs:(nk (gl e)).length=(gl e).length:=by unfold nk;exact Dwz _
 unfold rO;rw[UG (by omega),aj];dsimp only;unfold yW;rw[aD (by omega),aj,Xi (by omega)];rfl
theorem kG (e:Expr):1<=dD e:=by rw[oE];omega
theorem j6 {e x:Expr}(hx:x∈e.Args):dD x+1<=dD e:=by
 have:=Ex hx;have:=oE e;omega
theorem lK {P:Expr->Prop}(h:∀ e,(∀ x∈e.Args,P x)->P e)(e:Expr):P e:=by
 have:∀ n e,dD e<=n->P e:=by
  intro n
  induction n with
  | zero=>intro e he;have:=kG e;omega
  | succ n ih=>intro e he;exact h e λx hx=>ih x (by have:=j6 hx;omega)
 exact this _ e (Acz _)
theorem gb {α ρ:Type}{c:ρ}{q:α->Bool}:∀ {xs:List α} {i:Nat} {f:Nat->α->Unit->Option (Unit ⊕ ρ)},(∀ k x,x∈xs->f k x ()=some (if q x=true then .inl () else .inr c))->findL f i xs ()=some (if xs.all q=true then .inl () else .inr c)
 | [],i,f,h=>rfl
 | x::xs,i,f,h=>by
  rw[findL,h i x (by simp)];by_cases hx:q x=true;rw[ao hx,aj];show findL f (i+1) xs ()=_;rw[gb λk y hy=>h k y (by simp[hy])];simp[hx];rw[al hx];simp[hx]
theorem Fj {α:Type}{q:α->Bool}:∀ {xs:List α} {i:Nat} {f:Nat->α->Unit->Option (Unit ⊕ Int)},(∀ k x,x∈xs->f k x ()=some (if q x=true then .inr (k:Int) else .inl ()))->findL f i xs ()=some (if xs.any q=true then .inr ((i+xs.findIdx q:Nat):Int) else .inl ())
 | [],i,f,h=>rfl
 | x::xs,i,f,h=>by
  rw[findL,h i x (by simp)];by_cases hx:q x=true;rw[ao hx];simp[hx,Dxz];rw[al hx,aj];show findL f (i+1) xs ()=_;rw[Fj λk y hy=>h k y (by simp[hy])];have hx' : q x=false:=by simpa using hx
  simp only[List.any_cons,hx',Bool.false_or,Dxz,cond_false];rw[show i+1+xs.findIdx q=i+(xs.findIdx q+1) by omega]
mutual
def dy (p:Expr->Bool):Expr->Bool
 | ⟨H,K,a2,a3,a4,a5,a6⟩=>p ⟨H,K,a2,a3,a4,a5,a6⟩&&Ad p a6
def Ad (p:Expr->Bool):List Expr->Bool
 | []=>true
 | x::xs=>dy p x&&Ad p xs
end
mutual
def bS:Expr->Nat
 | ⟨_,_,_,_,_,_,a6⟩=>gA a6+1
def gA:List Expr->Nat
 | []=>0
 | x::xs=>bS x+gA xs
end
mutual
def ej:Expr->Nat
 | ⟨_,_,_,_,_,_,a6⟩=>mc a6+1
def mc:List Expr->Nat
 | []=>0
 | x::xs=>max (ej x) (mc xs)
end
theorem Kc (p:Expr->Bool):∀ l,Ad p l=l.all (dy p)
 | []=>rfl
 | x::xs=>by rw[Ad,Kc p xs];rfl
theorem As (p:Expr->Bool)(e:Expr):dy p e=(p e&&e.Args.all (dy p)):=by
 cases e;rw[dy,Kc]
theorem qv (e:Expr):bS e=gA e.Args+1:=by cases e;rfl
theorem Jx (e:Expr):ej e=mc e.Args+1:=by cases e;rfl
mutual
theorem ER:∀ e:Expr,bS e<=1+kJ e
 | ⟨H,K,a2,a3,a4,a5,a6⟩=>by
  have:=K6 a6;simp only[bS,kJ];omega
theorem K6:∀ l:List Expr,gA l<=nG l
 | []=>by simp[gA]
 | x::xs=>by
  have U:=ER x;have W:=K6 xs;simp only[gA,nG];omega
end
theorem IK {e:Expr}(h:Sz.szd e<=1048576):bS e<=1048577:=by
 have U:=ER e;have W:kJ e=Sz.szd e:=rfl;omega
mutual
theorem Jw:∀ e:Expr,ej e<=bS e
 | ⟨_,_,_,_,_,_,a6⟩=>by
  have:=Kb a6;simp only[ej,bS];omega
theorem Kb:∀ l:List Expr,mc l<=gA l
 | []=>Acz _
 | x::xs=>by
  have U:=Jw x;have W:=Kb xs;simp only[mc,gA];omega
end
theorem K5:∀ {l:List Expr} {x:Expr},x∈l->bS x<=gA l
 | y::l,x,h=>by
  simp only[gA];rcases List.mem_cons.1 h with e|h;subst e;omega;have:=K5 h;omega
theorem Jv {e x:Expr}(hx:x∈e.Args):bS x+1<=bS e:=by
 have:=K5 hx;have:=qv e;omega
theorem Xh (e:Expr):∀ m,dD e<=m->bS e<=1099511627776->rm m e=some (bS e:Int):=by
 induction e using lK with
 | h e ih=>
  intro m hm hc;obtain⟨m,rfl⟩:∃ q,m=q+1:=⟨m-1,by have:=kG e;omega⟩
  show uc (rm m) e=_;unfold uc;have key:∀ (l:List Expr) (i s:Nat),(∀ x∈l,x∈e.Args)->s+gA l<=1099511627776->eachL (yw (rm m)) i l (s:Int)=some ((s+gA l:Nat):Int):=by
   intro l
   induction l with
   | nil=>intro i s _ _;rfl
   | cons x l ihl=>
    intro i s hx hs;have hxm:=hx x (by simp);simp only[gA] at hs;have U:=ih x hxm m (by have:=j6 hxm;omega) (by omega);rw[eachL];unfold yw;rw[U,aj,aD (by constructor<;>omega),aj];have:=ihl (i+1) (s+bS x) (λy hy=>hx y (by simp[hy])) (by omega);rw[Int.natCast_add] at this;unfold yw at this;rw[this,gA];congr 1;omega
  rw[qv] at hc;have:=key e.Args 0 1 (λ_ h=>h) (by omega);rw[show ((1:Nat):Int)=1 from rfl] at this;rw[this,aj,qv,Nat.add_comm]
theorem VQ {e:Expr}(h:bS e<=1099511627776):BO e=some (bS e:Int):=iA (dD e) λm hm=>Xh e m hm h
theorem Sb (a b:Nat):(if (b:Int) > (a:Int) then (b:Int) else (a:Int))=((max a b:Nat):Int):=by
 split<;>omega
theorem Fi {f:Expr->Option Int}{g:Nat->Expr->Int->Option Int}(hg:∀ k x s,g k x s=(f x).bind λy=>some (if y > s then y else s)):∀ (l:List Expr) (i s:Nat),(∀ x∈l,f x=some (ej x:Int))->eachL g i l (s:Int)=some ((max s (mc l):Nat):Int)
 | [],i,s,_=>by rw[eachL,mc,Nat.max_zero]
 | x::l,i,s,h=>by
  rw[eachL,hg,h x (by simp),aj,aj,Sb,Fi hg l (i+1) _ λy hy=>h y (by simp[hy]),mc,Nat.max_assoc]
theorem D8 (a b:Int):fZ a b=some (if b > a then b else a):=by
 unfold fZ;by_cases h:b<a;rw[ao h,al (by omega)];rw[al h];split;rfl;congr 1;omega
theorem Mf (e:Expr):∀ m,dD e<=m->bS e<=1099511627776->nO m e=some (ej e:Int)/\nP m e=some (ej e:Int):=by
 induction e using lK with
 | h e ih=>
  intro m hm hc;obtain⟨m,rfl⟩:∃ q,m=q+1:=⟨m-1,by have:=kG e;omega⟩
  show uW (nO m) e=_/\u0 (nP m) e=_;unfold uW u0;have hx:∀ x∈e.Args,nO m x=some (ej x:Int)/\nP m x=some (ej x:Int):=λx hx=>ih x hx m (by have:=j6 hx;omega) (by have:=Jv hx;omega);have k1:=Fi (f:=nO m) (g:=G3 (nO m)) (λk x s=>rfl) e.Args 0 0 λx h=>(hx x h).1;have k2:=Fi (f:=nP m) (g:=Ca (nP m)) (λk x s=>by
   unfold Ca;congr 1;funext y;rw[D8,aj]) e.Args 0 0 λx h=>(hx x h).2
  rw[show ((0:Nat):Int)=0 from rfl] at k1 k2;have hd:=Jw e;rw[Jx] at hd;rw[k1,k2];have hg:aR (((max 0 (mc e.Args):Nat):Int)+1):=by constructor<;>omega
  have he:((max 0 (mc e.Args):Nat):Int)+1=(ej e:Int):=by rw[Jx];omega
  refine⟨?_,?_⟩;rw[aj,aD hg,he];rw[aj,aD hg,he]
theorem VP {e:Expr}(h:bS e<=1099511627776):B8 e=some (ej e:Int):=iA (dD e) λm hm=>(Mf e m hm h).1
theorem VO {e:Expr}(h:bS e<=1099511627776):BY e=some (ej e:Int):=iA (dD e) λm hm=>(Mf e m hm h).2
def ku (a:Int)(n:Nat):Int:=if (n:Int)<=a then a-n else -1
theorem VN (e:Expr):∀ m,dD e<=m->∀ a:Int,0<=a->a<=1048576->bS e<=1099511627776->oP m e a=some (ku a (bS e)):=by
 induction e using lK with
 | h e ih=>
  intro m hm a h0 U hc;obtain⟨m,rfl⟩:∃ q,m=q+1:=⟨m-1,by have:=kG e;omega⟩
  show ta (oP m) e a=_;unfold ta;rw[aD (by constructor<;>omega)];have hlen:e.Args.length<=bS e:=by
   rw[qv];have:∀ l:List Expr,l.length<=gA l:=by
    intro l
    induction l with
    | nil=>simp
    | cons x l ih=>
     have:=qv x;simp only[gA,bH];omega
   have:=this e.Args;omega
  have key:∀ (n k:Nat) (s:Int),k+n=e.Args.length->-1<=s->s<=1048576->bE (qY (oP m) e) (s,(k:Int))=some (if 0<=s then ku s (gA (e.Args.drop k)) else s):=by
   intro n
   induction n with
   | zero=>
    intro k s hk _ _;have hdrop:e.Args.drop k=[]:=List.drop_eq_nil_of_le (by omega);refine db ?_;unfold qY;dsimp only;rw[al (by omega),hdrop];congr 2;split;unfold ku;simp[gA];omega;rfl
   | succ n ihn=>
    intro k s hk hs1 hs2;have hkl:k<e.Args.length:=by omega
    by_cases hs:0<=s;have hxm:e.Args[k]∈e.Args:=List.getElem_mem hkl;have Z:=ih _ hxm m (by have:=j6 hxm;omega) s hs hs2 (by have:=Jv hxm;omega);have hstep:qY (oP m) e (s,(k:Int))=some (.inl (ku s (bS e.Args[k]),((k+1:Nat):Int))):=by
     unfold qY;dsimp only;rw[ao (by omega),ao hs,aD (by omega),cE,Cmz hkl,aj,Z,aj,aD (by constructor<;>omega)];rfl
    have hb1:-1<=ku s (bS e.Args[k]):=by unfold ku;split<;>omega
    have hb2:ku s (bS e.Args[k])<=1048576:=by unfold ku;split<;>omega
    rw[fi hstep,ihn (k+1) _ (by omega) hb1 hb2,ao hs];have hd:e.Args.drop k=e.Args[k]::e.Args.drop (k+1):=List.drop_eq_getElem_cons hkl;rw[hd,gA];congr 1;unfold ku;split<;>split<;>(try split)<;>omega;refine db ?_;unfold qY;dsimp only;rw[ao (by omega),al hs,al hs]
  have:=key e.Args.length 0 (a-1) (by omega) (by omega) (by omega);rw[show ((0:Nat):Int)=0 from rfl] at this;rw[this,aj,List.drop_zero,qv];congr 1;unfold ku;split<;>(try split)<;>(try split)<;>omega
theorem Vr {e:Expr}{a:Int}(h0:0<=a)(U:a<=1048576)(h:bS e<=1099511627776):Fp e a=some (ku a (bS e)):=iA (dD e) λm hm=>VN e m hm a h0 U h
theorem sd (x lo hi:Int):dC x lo hi=some (decide (lo<=x/\x<=hi)):=by
 unfold dC;by_cases h:lo<=x<;>simp[h]
theorem nj (x lo hi:Int):cW x lo hi=some (decide (lo<=x/\x<=hi)):=by
 unfold cW;by_cases h:lo<=x<;>simp[h]
def dw (c:UInt8):Bool:=decide (97<=(c.toNat:Int)/\(c.toNat:Int)<=122)
def ei (c:UInt8):Bool:=decide (48<=(c.toNat:Int)/\(c.toNat:Int)<=57)
theorem A5 (c:UInt8):qS c=some (dw c):=by
 unfold qS dw;by_cases h:97<=(c.toNat:Int)<;>simp[h]
theorem Xg (c:UInt8):tH c=some (ei c):=by
 unfold tH ei;by_cases h:48<=(c.toNat:Int)<;>simp[h]
def ew (q:Nat->Bool):Nat->Nat->Bool
 | _,0=>true
 | i,n+1=>q i&&ew q (i+1) n
theorem Me {q r:Nat->Bool}:∀ {n i:Nat},(∀ k,i<=k->q k=r k)->ew q i n=ew r i n
 | 0,_,_=>rfl
 | n+1,i,h=>by rw[ew,ew,h i (Acz _),Me λk hk=>h k (by omega)]
theorem A4 {ρ:Type}{c:ρ}{q:Nat->Bool}:∀ {n i:Nat} {f:Nat->Unit->Option (Unit ⊕ ρ)},(∀ k,k<n->f (i+k) ()=some (if q (i+k)=true then .inl () else .inr c))->findN f i n ()=some (if ew q i n=true then .inl () else .inr c)
 | 0,i,f,h=>rfl
 | n+1,i,f,h=>by
  have h0:=h 0 (by omega);rw[Cxz] at h0;rw[findN,h0];by_cases hx:q i=true;rw[ao hx,aj];show findN f (i+1) n ()=_;rw[A4 λk hk=>by have:=h (k+1) (by omega);rwa[show i+(k+1)=i+1+k by omega] at this];simp[ew,hx];rw[al hx];simp[ew,hx]
def dL (s:an)(k:Nat):UInt8:=s.data.getD k 0
theorem EP {s:an}{k:Nat}(h:k<s.size):s.data[k]?=some (dL s k):=by
 have h' : k<s.data.size:=h;unfold dL;rw[Array.getD_eq_getD_getElem?,Array.getElem?_eq_getElem h'];rfl
def xb:List an:=[⟨#[105,102]⟩,⟨#[116,104,101,110]⟩,⟨#[101,108,115,101]⟩,⟨#[116,114,117,101]⟩,⟨#[102,97,108,115,101]⟩,⟨#[108,105,116]⟩,⟨#[110,111,110,101]⟩,⟨#[115,101,108,102]⟩,⟨#[111,102]⟩,⟨#[109,97,120]⟩,⟨#[109,105,110]⟩,⟨#[119,105,116,104]⟩,⟨#[104,97,115]⟩]
def gd (s:an)(l:List an):Bool:=l.any λx=>decide (x=s)
theorem Vq {s:an}{l:List an}:gd s l=true↔s∈l:=by
 unfold gd;rw[List.any_eq_true];exact⟨λ⟨x,U,W⟩=>by simp at W;exact W▸U,λh=>⟨s,h,by simp⟩⟩
theorem Vp {s:an}{l:List an}(h:s∉l):gd s l=false:=by
 cases Y:gd s l with
 | false=>rfl
 | true=>exact absurd (Vq.1 Y) h
def mN (s:an):Bool:=gd s xb
theorem Vo (l:List an)(s:an):lM l s=some (gd s l):=by
 unfold lM;have:∀ (l:List an) (i:Nat),findL (xk s) i l ()=some (if gd s l=true then .inr true else .inl ()):=by
  intro l
  induction l with
  | nil=>intro i;rfl
  | cons x l ih=>
   intro i;rw[findL];unfold xk at ih ⊢;have hc:gd s (x::l)=(decide (x=s)||gd s l):=rfl;by_cases h:x=s;rw[ao h,hc];simp[h];rw[al h,aj];show findL _ (i+1) l ()=_;rw[ih,hc];simp[h]
 rw[this,aj];cases gd s l<;>rfl
theorem TP (s:an):uF s=some (mN s):=by
 unfold uF yx;rw[aj,Vo];rfl
theorem TO (s:an):uy s=some (mN s):=by
 by_cases h:s∈xb;unfold xb at h;simp only[Dsz,List.not_mem_nil,or_false] at h;rcases h with h|h|h|h|h|h|h|h|h|h|h|h|h<;>subst h<;>rfl;unfold mN;rw[Vp h];unfold xb at h;simp only[Dsz,List.not_mem_nil,or_false,not_or] at h;obtain⟨U,W,h3,h4,h5,h6,h7,h8,h9,h10,h11,h12,h13⟩:=h;unfold uy;rw[al U,al W,al h3,al h4,al h5,al h6,al h7,al h8,al h9,al h10,al h11,al h12];simp[h13]
def dj (s:an):Bool:=decide (0<s.size/\s.size<=8)&&(dw (dL s 0)&&ew (λk=>dw (dL s k)||ei (dL s k)) 1 (s.size-1) && !mN s)
theorem mz (s:an):iH s=some (dj s):=by
 unfold iH;rw[A4 (c:=false) (q:=λk=>dw (dL s k)||ei (dL s k)) λk hk=>by
  rw[Adz];unfold G4;rw[EP hk,aj,A5,aj];cases dw (dL s k) with
  | true=>rfl
  | false=>
   rw[al (by simp),Xg,aj];cases ei (dL s k)<;>rfl]
 rw[aj];by_cases h0:0<s.size;obtain⟨n,hn⟩:∃ n,s.size=n+1:=⟨s.size-1,by omega⟩
 unfold dj;rw[hn,ew,Drz];cases ha:ew (λk=>dw (dL s k)||ei (dL s k)) (0+1) n with
 | false=>
  rw[Bool.and_false,al (by simp)];rw[Adz] at ha;simp[bf,ha]
 | true=>
  rw[Adz] at ha
  try rw[ha]
  simp only[Bool.and_true];have hc:=EP h0;cases hl:dw (dL s 0) with
  | false=>
   cases hd:ei (dL s 0) with
   | false=>simp[bf]
   | true=>
    rw[ao (by simp)];show (dC _ 1 8).bind _=_;rw[sd,aj];split;rw[hc,aj,A5,hl];simp;simp
  | true=>
   rw[ao (by simp)];show (dC _ 1 8).bind _=_;rw[sd,aj];by_cases h8:n+1<=8;rw[ao (by simp;omega),hc,aj,A5,hl];simp[TO,h8];rw[al (by simp;omega)];simp[h8]
 have hs:s.size=0:=by omega
 unfold dj;rw[hs,ew,ao rfl,lH,sd,aj];simp
theorem kI (s:an):jd s=some (dj s):=by
 unfold jd xB;rw[A4 (c:=false) (q:=λk=>dw (dL s k)||(decide (k≠0)&&ei (dL s k))) λk hk=>by
  rw[Adz];unfold Nk;rw[EP hk,aj];have e1:(if 97<=((dL s k).toNat:Int) then some (decide (((dL s k).toNat:Int)<=122)) else some false)=some (dw (dL s k)):=by
   unfold dw;by_cases h:97<=((dL s k).toNat:Int)<;>simp[h]
  have e2:(if 48<=((dL s k).toNat:Int) then some (decide (((dL s k).toNat:Int)<=57)) else some false)=some (ei (dL s k)):=by
   unfold ei;by_cases h:48<=((dL s k).toNat:Int)<;>simp[h]
  rw[e1,e2,aj,aj];cases dw (dL s k) with
  | true=>rfl
  | false=>
   by_cases hk0:k=0;subst hk0;simp;have:¬ ((k:Int)=0):=by omega
   rw[al (by simp),al this];cases ei (dL s k)<;>simp[hk0]]
 rw[aj];by_cases h0:0<s.size;obtain⟨n,hn⟩:∃ n,s.size=n+1:=⟨s.size-1,by omega⟩
 unfold dj;rw[hn,ew,Drz,Adz,Me (n:=n) (i:=1) (q:=λk=>dw (dL s k)||(decide (k≠0)&&ei (dL s k))) (r:=λk=>dw (dL s k)||ei (dL s k)) λk hk=>by simp[show k≠0 by omega]];have e0:(dw (dL s 0)||(decide ((0:Nat)≠0)&&ei (dL s 0)))=dw (dL s 0):=by simp
 rw[e0];cases hA:(dw (dL s 0)&&ew (λk=>dw (dL s k)||ei (dL s k)) 1 n) with
 | false=>simp[bf]
 | true=>
  rw[ao rfl];simp only[bf,aj];by_cases h8:n+1<=8;simp[TP,h8];omega;simp[h8];omega
 have hs:s.size=0:=by omega
 unfold dj;rw[hs];simp[bf,ew]
def mL (v:Int):Int:=if (-1000000:Int) > (if (1000000:Int)<v then (1000000:Int) else v) then (-1000000:Int) else (if (1000000:Int)<v then (1000000:Int) else v)
def kM (b:Bool):Int:=if b=true then 1 else 0
def vU (v k:Int):Int:=if k=1 then mL v else if k=2 then jr v 4095 else if k=3 then kM (!decide (v=0)) else if k=4 then (if 0<=v/\v<=999 then v else 0) else 0
theorem TN (v:Int):xO v=some (mL v):=rfl
theorem TM (a b:Int):sM a b=some (if b<a then b else a):=by
 unfold sM;by_cases h:a<b;rw[ao h,al (by omega)];rw[al h];split;rfl;congr 1;omega
theorem TL (v:Int):tX v=some (mL v):=by
 unfold tX;rw[TM,aj,D8,aj];congr 1;unfold mL;split<;>split<;>(try split)<;>(try split)<;>omega
theorem TK (b:Bool):wx b=some (kM b):=by unfold wx kM;cases b<;>rfl
theorem Vn (b:Bool):tL b=some (kM b):=by unfold tL kM;cases b<;>rfl
theorem Vm (v k:Int):tk v k=some (vU v k):=by
 unfold tk vU;rw[TN,TK,sd];by_cases U:k=1;rw[ao U,ao U];rfl;by_cases W:k=2;rw[al U,al U,ao W,ao W];by_cases h3:k=3;rw[al U,al U,al W,al W,ao h3,ao h3];rfl;by_cases h4:k=4;rw[al U,al U,al W,al W,al h3,al h3,ao h4,ao h4,aj];by_cases h:0<=v/\v<=999<;>simp[h];rw[al U,al U,al W,al W,al h3,al h3,al h4,al h4]
theorem Vl (v k:Int):sY v k=some (vU v k):=by
 unfold sY vU;rw[TL,Vn,nj];by_cases U:k=1;rw[ao U,ao U];rfl;by_cases W:k=2;rw[al U,al U,ao W,ao W];by_cases h3:k=3;rw[al U,al U,al W,al W,ao h3,ao h3];rfl;by_cases h4:k=4;rw[al U,al U,al W,al W,al h3,al h3,ao h4,ao h4,aj];by_cases h:0<=v/\v<=999<;>simp[h];rw[al U,al U,al W,al W,al h3,al h3,al h4,al h4]
def kt (v k:Int):Bool:=decide (1<=k/\k<=4)&&decide (vU v k=v)
theorem Vk (v k:Int):tU v k=some (kt v k):=by
 unfold tU qF kt;rw[sd,aj,aj,Vm,aj];by_cases h:1<=k/\k<=4<;>simp[h]
theorem EO (v k:Int):rl v k=some (kt v k):=by
 unfold rl kt;rw[nj,aj,Vl,aj];by_cases h:1<=k/\k<=4<;>simp[h]
def opT (n:Int):Int×Int×Int:=
 if 1<=n/\n<=5 then (1,1,1) else if 6<=n/\n<=8 then (2,2,2) else if n=9∨n=10 then (1,1,3) else if n=11 then (2,1,3) else if n=12 then (2,1,2) else (0,0,0)
theorem Sa {n a b c d e:Int}:(if n=a then some (decide (n=a)) else if n=b then some (decide (n=b)) else if n=c then some (decide (n=c)) else if n=d then some (decide (n=d)) else some (decide (n=e)))=some (decide (n=a∨n=b∨n=c∨n=d∨n=e)):=by
 by_cases U:n=a;simp[U];by_cases W:n=b;simp[U,W];by_cases h3:n=c;rw[al U,al W,ao h3];simp[h3];by_cases h4:n=d;rw[al U,al W,al h3,ao h4];simp[h4];simp[U,W,h3,h4]
theorem R9 {n a b c:Int}:(if n=a then some (decide (n=a)) else if n=b then some (decide (n=b)) else some (decide (n=c)))=some (decide (n=a∨n=b∨n=c)):=by
 by_cases U:n=a;simp[U];by_cases W:n=b;simp[U,W];simp[U,W]
theorem TJ (n:Int):uP n=some (opT n):=by
 unfold uP opT;rw[Sa,R9];simp only[aj];by_cases U:1<=n/\n<=5;rw[ao (by simp;omega),ao U];rw[al (by simp;omega),al U];by_cases W:6<=n/\n<=8;rw[ao (by simp;omega),ao W];rw[al (by simp;omega),al W];by_cases h3:n=9;simp[h3];by_cases h3' : n=10;simp[h3'];by_cases h4:n=11;simp[h4];by_cases h5:n=12;simp[h5];simp[h3,h3',h4,h5]
theorem TH (n:Int):jM n=some (opT n):=by
 unfold jM opT;rw[nj,nj];simp only[aj];by_cases U:1<=n/\n<=5;rw[ao (by simpa using U),ao U];rw[al (by simpa using U),al U];by_cases W:6<=n/\n<=8;rw[ao (by simpa using W),ao W];rw[al (by simpa using W),al W];by_cases h3:n=9;rw[ao h3,ao (.inl h3)];rw[al h3];by_cases h3' : n=10;rw[ao h3',ao (.inr h3')];have h33:¬(n=9∨n=10):=by omega
 rw[al h3',al h33];by_cases h4:n=11;rw[ao h4,ao h4];rw[al h4,al h4];by_cases h5:n=12;rw[ao h5,ao h5];rw[al h5,al h5]
theorem TG (a b:Expr):ki a b=some (decide (a.Kind=b.Kind)&&(decide (a.N=b.N)&&(decide (a.Pos=b.Pos)&&(decide (a.t__=b.t__)&&(decide (a.af=b.af)&&decide (a.Name=b.Name)))))):=by
 unfold ki;by_cases U:a.Kind=b.Kind;rw[ao U,aj];by_cases W:a.N=b.N;by_cases h3:a.Pos=b.Pos;by_cases h4:a.t__=b.t__;by_cases h5:a.af=b.af;simp[U,W,h3,h4,h5];simp[U,W,h3,h4,h5];simp[U,W,h3,h4];simp[U,W,h3];simp[U,W];simp[U]
def vT (k:Int):Int:=if k=4 then 2 else if k=5 then 3 else if k=8 then 1 else 0
def vS (e:Expr):Bool:=decide ((e.Args.length:Int)=vT e.Kind)&&((decide (e.Kind=3∨e.Kind=6)||decide (e.Pos=0))&&((decide (e.Kind=3∨e.Kind=8)||decide (e.Name=⟨#[]⟩))&&((decide (e.Kind=1∨e.Kind=4)||decide (e.N=0))&&((decide (e.Kind=1)||decide (e.t__=0))&&(decide (e.Kind=8)||decide (e.af=⟨#[]⟩))))))
theorem S9 (e:Expr):sZ e=some (vS e):=by
 unfold sZ;have h0:(if e.Kind=4 then some 2 else if e.Kind=5 then some 3 else if e.Kind=8 then some 1 else some (0:Int))=some (vT e.Kind):=by
  unfold vT;split;rfl;split;rfl;split<;>rfl
 have or2:∀ a b:Prop,[Decidable a]->[Decidable b]->(if a then some true else some (decide b))=some (decide (a∨b)):=λa b _ _=>by
  by_cases h:a<;>simp[h]
 have or1:∀ (a:Prop) (b:Bool),[Decidable a]->(if a then some true else some b)=some (decide a||b):=λa b _=>by
  by_cases h:a<;>simp[h]
 have orB:∀ a b:Bool,(if a=true then some true else some b)=some (a||b):=λa b=>by cases a<;>rfl
 have andB:∀ a b:Bool,(if a=true then some b else some false)=some (a&&b):=λa b=>by cases a<;>rfl
 rw[h0,aj];unfold vS;by_cases hl:(e.Args.length:Int)=vT e.Kind;rw[ao hl];simp only[or2,or1,orB,andB,aj];simp[hl,Bool.and_assoc];rw[al hl];simp[hl]
def Du (e:Expr):Bool:=
 if e.Kind=1 then (decide (1<=e.t__/\e.t__<=3)&&kt e.N e.t__)&&decide (0<=e.N)
 else if e.Kind=3 then decide (0<=e.Pos/\e.Pos<=3)&&dj e.Name
 else if e.Kind=6 then decide (0<=e.Pos/\e.Pos<=3)
 else if e.Kind=4 then decide (1<=e.N/\e.N<=12)
 else if e.Kind=8 then dj e.af&&dj e.Name
 else true
def gZ (e:Expr):Bool:=(decide (1<=e.Kind/\e.Kind<=8)&&vS e)&&Du e
theorem Vj (e:Expr):sX e=some (gZ e):=by
 unfold sX gZ;rw[nj,aj,S9,aj];by_cases hk:1<=e.Kind/\e.Kind<=8;rw[ao (by simpa using hk),aj];cases vS e with
 | false=>simp
 | true=>
  rw[al (by simp)];unfold Du;by_cases k1:e.Kind=1;rw[ao k1,ao k1,nj,aj,EO,aj];by_cases h:1<=e.t__/\e.t__<=3;cases kt e.N e.t__<;>simp[h,hk];simp[h,hk];rw[al k1,al k1];by_cases k3:e.Kind=3;rw[ao k3,ao k3,nj,aj,kI];by_cases h:0<=e.Pos/\e.Pos<=3;simp[h,hk];simp[h,hk];rw[al k3,al k3];by_cases k6:e.Kind=6;rw[ao k6,ao k6,nj];simp[hk];rw[al k6,al k6];by_cases k4:e.Kind=4;rw[ao k4,ao k4,nj];simp[hk];rw[al k4,al k4];by_cases k8:e.Kind=8;rw[ao k8,ao k8,kI,aj,kI];cases dj e.af<;>simp[hk];rw[al k8,al k8];simp[hk]
 rw[al (by simpa using hk)];simp[hk]
theorem Vi (e:Expr):uv e=some (gZ e):=by
 unfold uv gZ vS Du vT;simp only[TG,sd,Vk,mz,aj];have hp3:e.Pos=0->(0<=e.Pos/\e.Pos<=3):=λh=>by omega
 by_cases k1:e.Kind=1;simp[k1];have ht:kt e.N e.t__=true->1<=e.t__/\e.t__<=4:=λh=>by
  unfold kt at h;simp at h;exact h.1
 cases Y:kt e.N e.t__ with
 | false=>by_cases h4:e.t__=4<;>simp[h4]
 | true=>
  obtain⟨t1,t2⟩:=ht Y;by_cases h4:e.t__=4;simp[h4];by_cases hn:e.N<0;have:¬ 0<=e.N:=by omega
  simp[h4,hn,this];have h0:0<=e.N:=by omega
  have h3:e.t__<=3:=by omega
  by_cases a:e.Args=[];by_cases p:e.Pos=0;simp[h4,hn,h0,h3,t1,a,p,Bool.and_comm];simp[h4,hn,h0,h3,t1,a,p];simp[h4,hn,h0,h3,t1,a]
 by_cases k3:e.Kind=3;simp[k1,k3];cases dj e.Name with
 | false=>simp
 | true=>
  by_cases a:e.Args=[];by_cases p:0<=e.Pos/\e.Pos<=3;simp[a,p];have:(decide (0<=e.Pos)&&decide (e.Pos<=3))=false:=by simp;omega
  simp[a,this];simp[a]
 by_cases k4:e.Kind=4;simp[k1,k3,k4];by_cases n:1<=e.N/\e.N<=12;by_cases a:(e.Args.length:Int)=2;by_cases p:e.Pos=0;simp[n,a,p];cases decide (e.t__=0)<;>cases decide (e.af=⟨#[]⟩)<;>cases decide (e.Name=⟨#[]⟩)<;>rfl;simp[n,a,p];simp[n,a];have:(decide (1<=e.N)&&decide (e.N<=12))=false:=by simp;omega
 rw[al n,this];simp;have close3:∀ c:Bool,((if c=true then some (decide (0<=e.Pos)&&decide (e.Pos<=3)) else some false).bind λs9=>
   if s9=true then some (decide (e.N=0)&&(decide (e.Pos=0)&&(decide (e.t__=0)&&(decide (e.af=⟨#[]⟩)&&decide (e.Name=⟨#[]⟩))))) else some false) =
  some (c&&(decide (e.Pos=0)&&(decide (e.Name=⟨#[]⟩)&&(decide (e.N=0)&&(decide (e.t__=0)&&decide (e.af=⟨#[]⟩)))))):=λc=>by
  cases c with
  | false=>simp
  | true=>
   by_cases p:e.Pos=0;simp[p];cases decide (e.N=0)<;>cases decide (e.t__=0)<;>cases decide (e.af=⟨#[]⟩)<;>cases decide (e.Name=⟨#[]⟩)<;>rfl;simp[p]
 by_cases k5:e.Kind=5;simp[k1,k3,k4,k5];simpa using close3 (decide ((e.Args.length:Int)=3));by_cases k6:e.Kind=6;simp[k1,k3,k4,k5,k6];by_cases a:e.Args=[];by_cases p:0<=e.Pos/\e.Pos<=3;simp[a,p];cases decide (e.N=0)<;>cases decide (e.t__=0)<;>cases decide (e.af=⟨#[]⟩)<;>cases decide (e.Name=⟨#[]⟩)<;>rfl;have:(decide (0<=e.Pos)&&decide (e.Pos<=3))=false:=by simp;omega
 simp[a,this];simp[a];by_cases k8:e.Kind=8;simp[k1,k3,k4,k5,k6,k8];cases dj e.af with
 | false=>simp
 | true=>
  cases dj e.Name with
  | false=>simp
  | true=>
   by_cases a:(e.Args.length:Int)=1;by_cases p:e.Pos=0;simp[a,p];simp[a,p];simp[a]
 by_cases k2:e.Kind=2;simp[k1,k3,k4,k5,k6,k8,k2];simpa using close3 (decide (e.Args=[]));by_cases k7:e.Kind=7;simp[k1,k3,k4,k5,k6,k8,k2,k7];simpa using close3 (decide (e.Args=[]));simp[k1,k3,k4,k5,k6,k8,k2,k7];intro U W;omega
theorem Vh (e:Expr):∀ m,dD e<=m->sK m e=some (dy gZ e):=by
 induction e using lK with
 | h e ih=>
  intro m hm;obtain⟨m,rfl⟩:∃ q,m=q+1:=⟨m-1,by have:=kG e;omega⟩
  show sL (sK m) e=_;unfold sL;rw[gb (c:=false) (q:=dy gZ) λk x hx=>by
   unfold LJ;rw[ih x hx m (by have:=j6 hx;omega),aj];cases dy gZ x<;>rfl]
  rw[As,aj];cases e.Args.all (dy gZ) with
  | true=>rw[ao rfl,lH,Vj,Bool.and_true];rfl
  | false=>rw[al (by simp),qy,Bool.and_false]
theorem S8 (e:Expr):Ez e=some (dy gZ e):=iA (dD e) λm hm=>Vh e m hm
theorem wA {α:Type}(q:α->Bool)(l:List α):(!l.any λx=>!q x)=l.all q:=by
 induction l with
 | nil=>rfl
 | cons x l ih=>simp[← ih]
theorem Vg (e:Expr):∀ m,dD e<=m->vo m e=some (dy gZ e):=by
 induction e using lK with
 | h e ih=>
  intro m hm;obtain⟨m,rfl⟩:∃ q,m=q+1:=⟨m-1,by have:=kG e;omega⟩
  show vp (vo m) e=_;unfold vp zl zj;rw[Vi,aj,As];cases gZ e with
  | false=>rfl
  | true=>
   rw[ao rfl,Fj (q:=λx=>!dy gZ x) λk x hx=>by
    unfold HC yU;rw[ih x hx m (by have:=j6 hx;omega),aj,aj];cases dy gZ x<;>rfl]
   rw[Bool.true_and,← wA];cases e.Args.any λx=>!dy gZ x with
   | true=>
    have:(0:Int)<=((0+e.Args.findIdx λx=>!dy gZ x:Nat):Int):=Int.natCast_nonneg _;rw[ao rfl,aj,qy,aj,aj,decide_eq_true this]
   | false=>rfl
theorem S7 (e:Expr):CK e=some (dy gZ e):=iA (dD e) λm hm=>Vg e m hm
def qb (e:Expr):Bool:=decide (bS e<=24)&&(decide (ej e<=6)&&dy gZ e)
theorem VL {e:Expr}(h:bS e<=1099511627776):uV e=some (qb e):=by
 unfold uV qb;rw[VQ h,aj,VP h,S7];by_cases U:bS e<=24;rw[ao (by omega),aj,aj];by_cases W:ej e<=6;rw[ao (by simp;omega),aj];simp[U,W];rw[al (by simp;omega)];simp[U,W];rw[al (by omega)];simp[U]
theorem xa {e:Expr}(h:bS e<=1099511627776):pF e=some (qb e):=by
 unfold pF qb;rw[Vr (by omega) (by omega) h,aj,VO h,S8];unfold ku;by_cases U:bS e<=24;have h24:((bS e:Nat):Int)<=24:=by omega
 rw[ao h24,ao (by omega:(0:Int)<=24-((bS e:Nat):Int)),aj,aj];by_cases W:ej e<=6;rw[ao (by simp;omega),aj];simp[U,W];rw[al (by simp;omega)];simp[U,W];have h24:¬ ((bS e:Nat):Int)<=24:=by omega
 rw[al h24,al (by omega:¬ (0:Int)<=-1)];simp[U]
end Go.Proofs.YtodhafdaelcnlaaGreat
