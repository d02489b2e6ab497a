/- What those partial functions come to: plain lemmas on data; each bears its conditions in its statement. -/
import Derived.Test.YtomdlgffolbdkaaGreatDef
set_option linter.unusedVariables false
set_option linter.unusedSimpArgs false
set_option linter.ambiguousOpen false
set_option linter.unusedSectionVars false
set_option linter.unnecessarySimpa false
namespace Go.E
section
variable {α σ ρ:Type}
theorem j3N {c:ρ}:∀ {n i:Nat} {p:Nat→Prop} {f:Nat→Unit→Option (Unit ⊕ ρ)},(∀ k,k<n→(p (i+k)→f (i+k) ()=some (.inr c))∧(¬ p (i+k)→f (i+k) ()=some (.inl ()))) →
  ((∃ k,k<n∧p (i+k))→findN f i n ()=some (.inr c))∧((∀ k,k<n→¬ p (i+k))→findN f i n ()=some (.inl ()))
 | 0,i,p,f,_=>⟨fun ⟨k,h,_⟩=>by omega,fun _=>rfl⟩
 | n+1,i,p,f,h=>by
  have h0:=h 0 (by omega)
  simp only[Nat.add_zero] at h0
  have ih:=j3N (c:=c) (n:=n) (i:=i+1) (p:=p) (f:=f) fun k hk=>by
   have:=h (k+1) (by omega)
   rwa[show i+(k+1)=i+1+k by omega] at this
  by_cases hp:p i
  ·refine⟨fun _=>by simp[findN,h0.1 hp],fun hn=>absurd hp (hn 0 (by omega))⟩
  ·simp only[findN,h0.2 hp,bsS]
   refine⟨?_,?_⟩
   ·rintro⟨k,hk,hpk⟩
    cases k with
    | zero=>exact absurd hpk hp
    | succ k=>exact ih.1 ⟨k,by omega,by rwa[show i+1+k=i+(k+1) by omega]⟩
   ·intro hn
    exact ih.2 fun k hk hpk=>hn (k+1) (by omega) (by rwa[show i+(k+1)=i+1+k by omega])
theorem j6v [DecidableEq α]{y:α}:∀ {xs:List α} {i:Nat} {f:Nat→α→Unit→Option (Unit ⊕ Int)},(∀ k x,(x=y→f k x ()=some (.inr (k:Int)))∧(x≠y→f k x ()=some (.inl ()))) →
  findL f i xs ()=some (if y∈xs then .inr ((i+xs.idxOf y:Nat):Int) else .inl ())
 | [],i,f,_=>by simp[findL]
 | x::xs,i,f,h=>by
  by_cases hx:x=y
  ·subst hx;simp[findL,(h i x).1 rfl]
  ·have hx' : (x == y)=false:=by simpa using hx
   simp only[findL,(h i x).2 hx,bsS,j6v (xs:=xs) (i:=i+1) h,List.mem_cons,List.idxOf_cons,hx',cond_false]
   by_cases hy:y∈xs
   ·simp[hy];omega
   ·have:¬ y=x:=fun e=>hx e.symm
    simp[hy,this]
theorem j9e [DecidableEq α]{y:α}{xs:List α}{f:Nat→α→Unit→Option (Unit ⊕ Int)}(h:∀ k x,(x=y→f k x ()=some (.inr (k:Int)))∧(x≠y→f k x ()=some (.inl ()))) :
  (findL f 0 xs ()).bind (onr (fun r1=>some r1) fun _=>some (-1))=some (ixF xs y):=by
 rw[j6v h]
 unfold ixF
 by_cases hy:y∈xs<;>simp[hy]
theorem z2H {P:Nat→σ→Prop}:∀ {xs:List α} {i:Nat} {s:σ} {f:Nat→α→σ→Option σ},P i s→(∀ k x s,xs[k]?=some x→P (i+k) s→∃ s',f (i+k) x s=some s'∧P (i+k+1) s')→∃ s',eachL f i xs s=some s'∧P (i+xs.length) s'
 | [],i,s,f,h,_=>⟨s,rfl,h⟩
 | x::xs,i,s,f,h,hs=>by
  obtain⟨s1,h1,h2⟩:=hs 0 x s rfl h
  simp only[Nat.add_zero] at h1 h2
  obtain⟨s2,h3,h4⟩:=z2H (P:=P) (xs:=xs) (i:=i+1) (f:=f) h2 fun k y s hy hp=>by
   have:=hs (k+1) y s hy (by rwa[show i+(k+1)=i+1+k by omega])
   rwa[show i+(k+1)=i+1+k by omega] at this
  exact⟨s2,by simp[eachL,h1,h3],by rw[lnC,show i+(xs.length+1)=i+1+xs.length by omega];exact h4⟩
theorem z6Q {P:Nat→σ→Prop}:∀ {n i:Nat} {s:σ} {f:Nat→σ→Option σ},P i s→(∀ k s,i≤k→k<i+n→P k s→∃ s',f k s=some s'∧P (k+1) s')→∃ s',eachN f i n s=some s'∧P (i+n) s'
 | 0,i,s,f,h,_=>⟨s,rfl,h⟩
 | n+1,i,s,f,h,hs=>by
  obtain⟨s1,h1,h2⟩:=hs i s (Nat.le_refl _) (by omega) h
  obtain⟨s2,h3,h4⟩:=z6Q (P:=P) (n:=n) (i:=i+1) (f:=f) h2 fun k s hk hk2 hp=>hs k s (by omega) (by omega) hp
  exact⟨s2,by simp[eachN,h1,h3],by rw[show i+(n+1)=i+1+n by omega];exact h4⟩
end
end Go.E
set_option maxRecDepth 100000
set_option maxHeartbeats 4000000
noncomputable section
namespace Go.Proofs.YtomdlgffolbdkaaGreat
open Go Go.E
open Go.E.Sz (szd)
instance:Sz At_ where
 szd x:=x.Name.size
theorem j2i (x:At_):Sz.szd x=x.Name.size:=rfl
instance:Sz Symbol where
 szd x:=x.Name.size+szL x.Attributes
theorem j1e (x:Symbol):Sz.szd x=x.Name.size+szL x.Attributes:=rfl
mutual
def z0r:Expr→Nat
 | ⟨a0,a1,a2,a3,a4,a5,a6⟩=>a4.size+a5.size+z2I a6
def z2I:List Expr→Nat
 | []=>0
 | x::xs=>1+z0r x+z2I xs
end
instance:Sz Expr:=⟨z0r⟩
theorem j5q (a:List Expr):z2I a=szL a:=by
 induction a with
 | nil=>rfl
 | cons x xs ih=>simp only[z2I,szL,ih];rfl
theorem q6u (x:Expr):Sz.szd x=x.Symbol.size+x.Name.size+szL x.Args:=by
 cases x;show z0r _=_;simp only[z0r,j5q]
instance:Sz Eqn where
 szd x:=x.At.Name.size+x.Expr.Symbol.size+x.Expr.Name.size+szL x.Expr.Args
theorem z8d (x:Eqn):Sz.szd x=x.At.Name.size+x.Expr.Symbol.size+x.Expr.Name.size+szL x.Expr.Args:=rfl
instance:Sz Cn where
 szd x:=x.Symbol.size+x.Name.size+x.Target.Symbol.size+x.Target.Name.size+szL x.Target.Args+x.Value.Symbol.size+x.Value.Name.size+szL x.Value.Args
theorem z4o (x:Cn):Sz.szd x=x.Symbol.size+x.Name.size+x.Target.Symbol.size+x.Target.Name.size+szL x.Target.Args+x.Value.Symbol.size+x.Value.Name.size+szL x.Value.Args:=rfl
instance:Sz Rule where
 szd x:=x.Name.size+x.Left.size+szL x.Right+szL x.Equations+szL x.Contributions
theorem z6R (x:Rule):Sz.szd x=x.Name.size+x.Left.size+szL x.Right+szL x.Equations+szL x.Contributions:=rfl
instance:Sz Gm_ where
 szd x:=szL x.Symbols+szL x.Rules
theorem z4a (x:Gm_):Sz.szd x=szL x.Symbols+szL x.Rules:=rfl
end Go.Proofs.YtomdlgffolbdkaaGreat
namespace Go.E
section
variable {α:Type}{lt:α→α→Bool}
theorem j1f (irr:∀ a,lt a a=false)(tr:∀ a b c,lt a b=true→lt b c=true→lt a c=true) :
  ∀ {xs ys:List α},xs.Pairwise (fun a b=>lt a b=true)→ys.Pairwise (fun a b=>lt a b=true)→(∀ a,a∈xs↔a∈ys)→xs=ys
 | [],[],_,_,_=>rfl
 | [],y::ys,_,_,h=>absurd ((h y).2 (by simp)) (by simp)
 | x::xs,[],_,_,h=>absurd ((h x).1 (by simp)) (by simp)
 | x::xs,y::ys,hx,hy,h=>by
  rw[List.pairwise_cons] at hx hy
  have asym:∀ a b,lt a b=true→lt b a=true→False:=fun a b h1 h2=>by have:=tr a b a h1 h2;rw[irr] at this;cases this
  have hxy:x=y:=by
   have h1:=(h x).1 (by simp)
   have h2:=(h y).2 (by simp)
   rcases List.mem_cons.1 h1 with e|h1
   ·exact e
   rcases List.mem_cons.1 h2 with e|h2
   ·exact e.symm
   exact (asym x y (hx.1 y h2) (hy.1 x h1)).elim
  subst hxy
  congr 1
  refine j1f irr tr hx.2 hy.2 fun a=>?_
  constructor
  ·intro ha
   rcases List.mem_cons.1 ((h a).1 (by simp[ha])) with e|h1
   ·subst e;have:=hx.1 _ ha;rw[irr] at this;cases this
   ·exact h1
  ·intro ha
   rcases List.mem_cons.1 ((h a).2 (by simp[ha])) with e|h1
   ·subst e;have:=hy.1 _ ha;rw[irr] at this;cases this
   ·exact h1
theorem j7M (tr:∀ a b c,lt a b=true→lt b c=true→lt a c=true)(tot:∀ a b,lt a b=false→lt b a=false→a=b){l:List α}{o:α}{k:Nat}(hl:l.Pairwise (fun a b=>lt a b=true))
  (hb:∀ a∈l.take k,lt a o=true) (ha:∀ y,l[k]?=some y→lt y o=false∧y≠o):(l.take k++o::l.drop k).Pairwise (fun a b=>lt a b=true):=by
 have hs:(l.take k++l.drop k).Pairwise (fun a b=>lt a b=true):=by rw[List.take_append_drop];exact hl
 rw[List.pairwise_append] at hs
 have ho:∀ z∈l.drop k,lt o z=true:=by
  cases hd:l.drop k with
  | nil=>intro z hz;cases hz
  | cons y r=>
   have hy:l[k]?=some y:=by
    have:(l.drop k)[0]?=some y:=by rw[hd];rfl
    simpa using this
   obtain⟨h1,h2⟩:=ha y hy
   have h3:lt o y=true:=by
    cases h:lt o y with
    | true=>rfl
    | false=>exact absurd (tot _ _ h1 h) h2
   intro z hz
   rcases List.mem_cons.1 hz with e|hz
   ·rw[e];exact h3
   ·have:=hs.2.1;rw[hd,List.pairwise_cons] at this
    exact tr _ _ _ h3 (this.1 z hz)
 rw[List.pairwise_append,List.pairwise_cons]
 refine⟨hs.1,⟨ho,hs.2.1⟩,fun a h1 b h2=>?_⟩
 rcases List.mem_cons.1 h2 with e|h2
 ·rw[e];exact hb a h1
 ·exact hs.2.2 a h1 b h2
end
section
variable {α:Type}[DecidableEq α]{lt:α→α→Bool}
def q5h:List α→List α
 | []=>[]
 | [x]=>[x]
 | x::y::l=>if x=y then q5h (y::l) else x::q5h (y::l)
theorem z5c {a:α}:∀ {l:List α},a∈q5h l↔a∈l
 | []=>Iff.rfl
 | [x]=>Iff.rfl
 | x::y::l=>by
  unfold q5h
  have ih:=z5c (a:=a) (l:=y::l)
  split
  ·rename_i e;subst e;rw[ih];simp
  ·rw[List.mem_cons,ih];simp
theorem z5d (tr:∀ a b c,lt a b=true→lt b c=true→lt a c=true)(tot:∀ a b,lt a b=false→lt b a=false→a=b) :
  ∀ {l:List α},l.Pairwise (fun a b=>lt b a=false)→(q5h l).Pairwise (fun a b=>lt a b=true)
 | [],_=>List.Pairwise.nil
 | [x],_=>by simp[q5h]
 | x::y::l,h=>by
  unfold q5h
  rw[List.pairwise_cons] at h
  have ih:=z5d tr tot h.2
  split
  ·exact ih
  ·rename_i hne
   rw[List.pairwise_cons]
   refine⟨fun z hz=>?_,ih⟩
   have h1:lt x y=true:=by
    cases e:lt x y with
    | true=>rfl
    | false=>exact absurd (tot _ _ e (h.1 y (by simp))) hne
   rcases List.mem_cons.1 (z5c.1 hz) with e|hz
   ·rw[e];exact h1
   ·have h2:=(List.pairwise_cons.1 h.2).1 z hz
    cases e:lt y z with
    | true=>exact tr _ _ _ h1 e
    | false=>rw[← tot _ _ e h2];exact h1
theorem z6S {a:α}:∀ {l:List α},q5h (l++[a])=if l.getLast?=some a then q5h l else q5h l++[a]
 | []=>by simp[q5h]
 | [x]=>by
  simp only[q5h,List.cons_append,List.nil_append,List.getLast?_singleton,Option.some.injEq]
  by_cases e:x=a
  ·subst e;simp
  ·simp[e]
 | x::y::l=>by
  have ih:=z6S (a:=a) (l:=y::l)
  simp only[List.cons_append] at ih ⊢
  have e:(x::y::l).getLast?=(y::l).getLast?:=by simp[List.getLast?_cons_cons]
  rw[e]
  show (if x=y then q5h (y::(l++[a])) else x::q5h (y::(l++[a])))=_
  rw[ih]
  show _=if (y::l).getLast?=some a then (if x=y then q5h (y::l) else x::q5h (y::l)) else (if x=y then q5h (y::l) else x::q5h (y::l))++[a]
  split<;>split<;>simp
theorem z6T {l:List α}{i:Nat}{a b:α}(ha:l[i]?=some a)(hb:l[i+1]?=some b):q5h (l.take (i+2))=if a=b then q5h (l.take (i+1)) else q5h (l.take (i+1))++[b]:=by
 have h1:l.take (i+2)=l.take (i+1)++[b]:=by rw[show i+2=(i+1)+1 from rfl,List.take_add_one,hb];rfl
 have h2:(l.take (i+1)).getLast?=some a:=by rw[List.take_add_one,ha];simp
 rw[h1,z6S,h2]
 by_cases e:a=b
 ·simp[e]
 ·simp[e]
end
end Go.E
namespace Go.Proofs.YtomdlgffolbdkaaGreat
open Go Go.E
mutual
def z4b:Expr→List Oc
 | ⟨a0,a1,a2,a3,a4,a5,a6⟩=>(if a0=3 then [⟨a2,a5⟩] else [])++z0s a6
def z0s:List Expr→List Oc
 | []=>[]
 | x::xs=>z4b x++z0s xs
end
mutual
def fuE:Expr→Nat
 | ⟨_,_,_,_,_,_,a6⟩=>fuEs a6+1
def fuEs:List Expr→Nat
 | []=>0
 | x::xs=>max (fuE x) (fuEs xs)
end
theorem z8e (e:Expr):fuE e=fuEs e.Args+1:=by cases e;rfl
theorem j2j:∀ {l:List Expr} {x:Expr},x∈l→fuE x≤fuEs l
 | y::l,x,h=>by
  simp only[fuEs]
  rcases List.mem_cons.1 h with e|h
  ·subst e;omega
  ·have:=j2j h;omega
theorem z4c (e:Expr):z4b e=(if e.Kind=3 then [⟨e.Pos,e.Name⟩] else [])++z0s e.Args:=by cases e;rfl
mutual
theorem j3O:∀ e:Expr,(z4b e).length≤1+z0r e
 | ⟨a0,a1,a2,a3,a4,a5,a6⟩=>by
  have:=j1g a6
  simp only[z4b,z0r,List.length_append]
  split<;>simp<;>omega
theorem j1g:∀ l:List Expr,(z0s l).length≤z2I l
 | []=>by simp[z0s]
 | x::xs=>by
  have h1:=j3O x
  have h2:=j1g xs
  simp only[z0s,z2I,List.length_append];omega
end
theorem z6U {α:Type}[Sz α]{x:α}:∀ {l:List α},x∈l→Sz.szd x<szL l
 | [],h=>by simp at h
 | y::l,h=>by
  rcases List.mem_cons.1 h with rfl|h
  ·simp only[szL];omega
  ·have:=z6U h;simp only[szL];omega
theorem k2w {e x:Expr}(h:x∈e.Args):Sz.szd x<Sz.szd e:=by
 have h1:=q6u e
 have h2:=z6U h
 omega
theorem j9f {e:Expr}(h:Sz.szd e≤1048576):(z4b e).length≤1048577:=by
 have h1:=j3O e
 have h2:z0r e=Sz.szd e:=rfl
 omega
theorem j5r:∀ (m:Nat) (e:Expr) (o:List Oc),fuE e≤m→o.length+(z4b e).length≤4398046511104→q4N m e o=some (true,o++z4b e):=by
 intro m
 induction m with
 | zero=>intro e o h;rw[z8e] at h;omega
 | succ m ih=>
  have hl:∀ (l:List Expr) (i:Nat) (o:List Oc),fuEs l≤m→o.length+(z0s l).length≤4398046511104→findL (q4w (q4N m)) i l o=some (.inl (o++z0s l)):=by
   intro l
   induction l with
   | nil=>intro i o _ _;simp[findL,z0s]
   | cons x l ihl=>
    intro i o hf hb
    simp only[fuEs] at hf
    simp only[z0s,List.length_append] at hb
    have hx:=ih x o (by omega) (by omega)
    simp only[findL,q4w,q5v,hx,bsS,Bool.not_true,Bool.false_eq_true,if_false]
    rw[ihl _ _ (by omega) (by rw[List.length_append];omega),z0s,List.append_assoc]
  intro e o hf hb
  rw[z8e] at hf
  show q5d (q4N m) e o=_
  have hb':=hb
  rw[z4c,List.length_append] at hb'
  have h1:q7o e o=some (true,o++if e.Kind=3 then [⟨e.Pos,e.Name⟩] else []):=by
   unfold q7o
   by_cases hk:e.Kind=3
   ·rw[ifP hk] at hb' ⊢
    rw[ifP hk,q3U]
    simp only[lnC,List.length_nil] at hb'
    constructor<;>omega
   ·rw[ifN hk,ifN hk,List.append_nil]
  unfold q5d
  rw[h1,bsS]
  dsimp only
  rw[ifP rfl]
  unfold q4a q4c
  rw[hl _ _ _ (by omega) (by rw[List.length_append];omega),z4c]
  simp[onr]
theorem k1i {e:Expr}(h:(z4b e).length≤4398046511104):q6x e []=some (true,z4b e):=
 q9H (fuE e) fun m hm=>by simpa using j5r m e [] hm (by simpa using h)
theorem j5s {α:Type}{s:List α}{k:Nat}{x:α}(h:k<s.length):(s.set k x).take (k+1)=s.take k++[x]:=by
 rw[List.take_add_one,List.take_set,List.set_eq_of_length_le (by simp;omega)]
 simp[List.getElem?_set,h]
theorem j7N {a:List Oc}{b:Nat}(ha:a.length≤4398046511104)(hb:1≤b)(hba:b<a.length):∀ (m j k:Nat) (s:List Oc),b+j+m=a.length→1≤j→1≤k→k≤b+j-1→s.length=a.length→s.take k=q5h (a.take (b+j))→s.drop (b+j-1)=a.drop (b+j-1) →
  ∃ s' k',q5w (q4l (b:Int)) (s,(k:Int),(j:Int))=some (s',((k' : Nat):Int))∧k'≤s'.length∧s'.take k'=q5h a:=by
 intro m
 induction m with
 | zero=>
  intro j k s hm hj hk hkj hs ht hd
  refine⟨s,k,q4g ?_,by omega,?_⟩
  ·unfold q4l
   dsimp only
   rw[ifN (by simp only[tnC,List.length_drop];omega)]
  ·rw[ht,show b+j=a.length by omega,List.take_length]
 | succ m ih=>
  intro j k s hm hj hk hkj hs ht hd
  obtain⟨x,hx⟩:∃ x,a[b+j]?=some x:=⟨_,List.getElem?_eq_getElem (by omega)⟩
  obtain⟨y,hy⟩:∃ y,a[b+j-1]?=some y:=⟨_,List.getElem?_eq_getElem (by omega)⟩
  obtain⟨z,hz⟩:∃ z,s[k]?=some z:=⟨_,List.getElem?_eq_getElem (by omega)⟩
  have hsx:s[b+j]?=some x:=by
   have:=congrArg (fun l=>l[1]?) hd
   simp only[List.getElem?_drop] at this
   rw[show b+j-1+1=b+j by omega] at this
   rw[this,hx]
  have hsy:s[b+(j-1)]?=some y:=by
   have:=congrArg (fun l=>l[0]?) hd
   simp only[List.getElem?_drop,Nat.add_zero] at this
   rw[show b+(j-1)=b+j-1 by omega,this,hy]
  have hc:=z6T (i:=b+j-1) (b:=x) hy (by rw[show b+j-1+1=b+j by omega];exact hx)
  rw[show b+j-1+2=b+(j+1) by omega,show b+j-1+1=b+j by omega] at hc
  have hd2:s.drop (b+(j+1)-1)=a.drop (b+(j+1)-1):=by
   have:=congrArg (fun l=>l.drop 1) hd
   simp only[List.drop_drop] at this
   rw[show b+(j+1)-1=b+j-1+1 by omega];exact this
  have e1:((j:Int)-1).toNat=j-1:=by omega
  by_cases hxy:x=y
  ·have e:q4l (b:Int) (s,(k:Int),(j:Int))=some (.inl (s,(k:Int),((j+1:Nat):Int))):=by
    unfold q4l
    dsimp only
    rw[ifP (by simp only[tnC,List.length_drop];omega),q3U (by omega)]
    simp only[tnC]
    rw[hsx,bsS,q3U (by constructor<;>omega),q3U (by omega),e1,hsy,bsS,ifP hxy,bsS]
    dsimp only
    rw[q3U (by constructor<;>omega)];rfl
   rw[q4X e]
   exact ih (j+1) k s (by omega) (by omega) hk (by omega) hs (by rw[hc,ifP hxy.symm,ht]) hd2
  ·have e:q4l (b:Int) (s,(k:Int),(j:Int))=some (.inl (s.set k x,((k+1:Nat):Int),((j+1:Nat):Int))):=by
    unfold q4l
    dsimp only
    rw[ifP (by simp only[tnC,List.length_drop];omega),q3U (by omega)]
    simp only[tnC]
    rw[hsx,bsS,q3U (by constructor<;>omega),q3U (by omega),e1,hsy,bsS,ifN hxy,q3U (by omega),q3U (by omega),hz,bsS,q3U (by constructor<;>omega),bsS]
    dsimp only
    rw[q3U (by constructor<;>omega)];rfl
   rw[q4X e]
   refine ih (j+1) (k+1) _ (by omega) (by omega) (by omega) (by omega) (by rw[List.length_set];exact hs) ?_ ?_
   ·rw[j5s (by omega),ht,hc,ifN (fun h=>hxy h.symm)]
   ·rw[List.drop_set,ifP (by omega)];exact hd2
theorem j5t {a:List Oc}(ha:a.length≤4398046511104):∀ (m k:Nat),k+m=a.length→1≤k→q5h (a.take k)=a.take k →
  (q5w (q4m a) (k:Int)).bind (onr (fun r1=>some r1) fun _=>some a)=some (q5h a):=by
 intro m
 induction m with
 | zero=>
  intro k hm hk hc
  have e:q4m a (k:Int)=some (.inr (.inl ())):=by
   unfold q4m
   dsimp only
   rw[ifN (by omega)]
  rw[q4g e,bsS]
  show some a=_
  rw[show k=a.length by omega,List.take_length] at hc
  rw[hc]
 | succ m ih=>
  intro k hm hk hc
  obtain⟨x,hx⟩:∃ x,a[k]?=some x:=⟨_,List.getElem?_eq_getElem (by omega)⟩
  obtain⟨y,hy⟩:∃ y,a[k-1]?=some y:=⟨_,List.getElem?_eq_getElem (by omega)⟩
  have hct:=z6T (i:=k-1) (b:=x) hy (by rw[show k-1+1=k by omega];exact hx)
  rw[show k-1+2=k+1 by omega,show k-1+1=k by omega] at hct
  have htk:a.take (k+1)=a.take k++[x]:=by rw[List.take_add_one,hx];rfl
  have e1:((k:Int)-1).toNat=k-1:=by omega
  by_cases hxy:x=y
  ·obtain⟨s',k',h1,h2,h3⟩:=j7N (b:=k) ha hk (by omega) m 1 k a (by omega) (by omega) hk (by omega) rfl (by rw[hct,ifP hxy.symm,hc]) rfl
   have hl:(s'.take k'++List.replicate (s'.length-k') (⟨(0:Int),(⟨#[]⟩:ByteArray)⟩:Oc)).take k'=q5h a:=by
    rw[List.take_append_of_le_length (by simp;omega),List.take_take,Nat.min_self,h3]
   have e:q4m a (k:Int)=some (.inr (.inr (q5h a))):=by
    unfold q4m
    dsimp only
    rw[ifP (by omega),q3U (by omega)]
    simp only[tnC]
    rw[hx,bsS,q3U (by constructor<;>omega),q3U (by omega),e1,hy,bsS,ifP hxy,q3U (by omega),q3U (by omega)]
    have h1' : q5w (q4l (k:Int)) (a,(k:Int),1)=some (s',((k' : Nat):Int)):=h1
    rw[h1',bsS]
    dsimp only
    simp only[tnC]
    rw[q3U (by omega),q3U (by omega),q3U (by omega),q3U (by simp;omega),hl]
   rw[q4g e,bsS];rfl
  ·have e:q4m a (k:Int)=some (.inl ((k+1:Nat):Int)):=by
    unfold q4m
    dsimp only
    rw[ifP (by omega),q3U (by omega)]
    simp only[tnC]
    rw[hx,bsS,q3U (by constructor<;>omega),q3U (by omega),e1,hy,bsS,ifN hxy,q3U (by constructor<;>omega)];rfl
   rw[q4X e]
   exact ih (k+1) (by omega) (by omega) (by rw[hct,ifN (fun h=>hxy h.symm),hc,htk])
theorem j7O {a:List Oc}(ha:a.length≤4398046511104):q5s a=some (q5h a):=by
 unfold q5s
 by_cases h:(a.length:Int)<2
 ·rw[ifP h]
  match a,h with
  | [],_=>rfl
  | [x],_=>rfl
  | x::y::l,h=>simp only[lnC] at h;omega
 ·rw[ifN h]
  refine j5t ha (a.length-1) 1 (by omega) (Nat.le_refl _) ?_
  match a,h with
  | x::l,_=>rfl
def attrs (e:Expr):List Oc:=q5h (j3u (z4b e))
theorem j9g {o:Oc}{e:Expr}:o∈attrs e↔o∈z4b e:=by
 unfold attrs j3u
 rw[z5c,List.mem_mergeSort]
theorem j6w {e:Expr}(h:Sz.szd e≤1048576):q7j e=some (attrs e):=by
 have hl:=j9f h
 have hs:(j3u (z4b e)).length=(z4b e).length:=by unfold j3u;exact List.length_mergeSort _
 unfold q7j
 rw[k1i (by omega),bsS]
 dsimp only
 unfold q5T
 rw[q3U (by omega),bsS,j7O (by omega)];rfl
theorem z5e (e:Expr):1≤fuE e:=by rw[z8e];omega
theorem z4p {e x:Expr}(hx:x∈e.Args):fuE x+1≤fuE e:=by
 have:=j2j hx
 have:=z8e e
 omega
theorem z1g {P:Expr→Prop}(h:∀ e,(∀ x∈e.Args,P x)→P e)(e:Expr):P e:=by
 have:∀ n e,fuE e≤n→P e:=by
  intro n
  induction n with
  | zero=>intro e he;have:=z5e e;omega
  | succ n ih=>intro e he;exact h e fun x hx=>ih x (by have:=z4p hx;omega)
 exact this _ e (Nat.le_refl _)
theorem q5k {α ρ:Type}{c:ρ}{q:α→Bool}:∀ {xs:List α} {i:Nat} {f:Nat→α→Unit→Option (Unit ⊕ ρ)},(∀ k x,x∈xs→f k x ()=some (if q x=true then .inl () else .inr c))→findL f i xs ()=some (if xs.all q=true then .inl () else .inr c)
 | [],i,f,h=>rfl
 | x::xs,i,f,h=>by
  rw[findL,h i x (by simp)]
  by_cases hx:q x=true
  ·rw[ifP hx,bsS]
   show findL f (i+1) xs ()=_
   rw[q5k fun k y hy=>h k y (by simp[hy])]
   simp[hx]
  ·rw[ifN hx];simp[hx]
theorem z9R {α:Type}{q:α→Bool}:∀ {xs:List α} {i:Nat} {f:Nat→α→Unit→Option (Unit ⊕ Int)},(∀ k x,x∈xs→f k x ()=some (if q x=true then .inr (k:Int) else .inl ()))→findL f i xs ()=some (if xs.any q=true then .inr ((i+xs.findIdx q:Nat):Int) else .inl ())
 | [],i,f,h=>rfl
 | x::xs,i,f,h=>by
  rw[findL,h i x (by simp)]
  by_cases hx:q x=true
  ·rw[ifP hx];simp[hx,List.findIdx_cons]
  ·rw[ifN hx,bsS]
   show findL f (i+1) xs ()=_
   rw[z9R fun k y hy=>h k y (by simp[hy])]
   have hx' : q x=false:=by simpa using hx
   simp only[List.any_cons,hx',Bool.false_or,List.findIdx_cons,cond_false]
   rw[show i+1+xs.findIdx q=i+(xs.findIdx q+1) by omega]
mutual
def allE (p:Expr→Bool):Expr→Bool
 | ⟨a0,a1,a2,a3,a4,a5,a6⟩=>p ⟨a0,a1,a2,a3,a4,a5,a6⟩&&k1j p a6
def k1j (p:Expr→Bool):List Expr→Bool
 | []=>true
 | x::xs=>allE p x&&k1j p xs
end
mutual
def cntE:Expr→Nat
 | ⟨_,_,_,_,_,_,a6⟩=>z4d a6+1
def z4d:List Expr→Nat
 | []=>0
 | x::xs=>cntE x+z4d xs
end
mutual
def depE:Expr→Nat
 | ⟨_,_,_,_,_,_,a6⟩=>j0C a6+1
def j0C:List Expr→Nat
 | []=>0
 | x::xs=>max (depE x) (j0C xs)
end
theorem j6x (p:Expr→Bool):∀ l,k1j p l=l.all (allE p)
 | []=>rfl
 | x::xs=>by rw[k1j,j6x p xs];rfl
theorem j2k (p:Expr→Bool)(e:Expr):allE p e=(p e&&e.Args.all (allE p)):=by
 cases e;rw[allE,j6x]
theorem z7D (e:Expr):cntE e=z4d e.Args+1:=by cases e;rfl
theorem j9h (e:Expr):depE e=j0C e.Args+1:=by cases e;rfl
mutual
theorem j2l:∀ e:Expr,cntE e≤1+z0r e
 | ⟨a0,a1,a2,a3,a4,a5,a6⟩=>by
  have:=j3P a6
  simp only[cntE,z0r];omega
theorem j3P:∀ l:List Expr,z4d l≤z2I l
 | []=>by simp[z4d]
 | x::xs=>by
  have h1:=j2l x
  have h2:=j3P xs
  simp only[z4d,z2I];omega
end
theorem k2x {e:Expr}(h:Sz.szd e≤1048576):cntE e≤1048577:=by
 have h1:=j2l e
 have h2:z0r e=Sz.szd e:=rfl
 omega
mutual
theorem j9i:∀ e:Expr,depE e≤cntE e
 | ⟨_,_,_,_,_,_,a6⟩=>by
  have:=j6y a6
  simp only[depE,cntE];omega
theorem j6y:∀ l:List Expr,j0C l≤z4d l
 | []=>Nat.le_refl _
 | x::xs=>by
  have h1:=j9i x
  have h2:=j6y xs
  simp only[j0C,z4d];omega
end
theorem j3Q:∀ {l:List Expr} {x:Expr},x∈l→cntE x≤z4d l
 | y::l,x,h=>by
  simp only[z4d]
  rcases List.mem_cons.1 h with e|h
  ·subst e;omega
  ·have:=j3Q h;omega
theorem j9j {e x:Expr}(hx:x∈e.Args):cntE x+1≤cntE e:=by
 have:=j3Q hx
 have:=z7D e
 omega
theorem j7P (e:Expr):∀ m,fuE e≤m→cntE e≤1099511627776→q9z m e=some (cntE e:Int):=by
 induction e using z1g with
 | h e ih=>
  intro m hm hc
  obtain⟨m,rfl⟩:∃ q,m=q+1:=⟨m-1,by have:=z5e e;omega⟩
  show z1h (q9z m) e=_
  unfold z1h
  have key:∀ (l:List Expr) (i s:Nat),(∀ x∈l,x∈e.Args)→s+z4d l≤1099511627776→eachL (z1B (q9z m)) i l (s:Int)=some ((s+z4d l:Nat):Int):=by
   intro l
   induction l with
   | nil=>intro i s _ _;rfl
   | cons x l ihl=>
    intro i s hx hs
    have hxm:=hx x (by simp)
    simp only[z4d] at hs
    have h1:=ih x hxm m (by have:=z4p hxm;omega) (by omega)
    rw[eachL]
    unfold z1B
    rw[h1,bsS,q3U (by constructor<;>omega),bsS]
    have:=ihl (i+1) (s+cntE x) (fun y hy=>hx y (by simp[hy])) (by omega)
    rw[Int.natCast_add] at this
    unfold z1B at this
    rw[this,z4d]
    congr 1;omega
  rw[z7D] at hc
  have:=key e.Args 0 1 (fun _ h=>h) (by omega)
  rw[show ((1:Nat):Int)=1 from rfl] at this
  rw[this,bsS,z7D,Nat.add_comm]
theorem j9k {e:Expr}(h:cntE e≤1099511627776):z4I e=some (cntE e:Int):=q9H (fuE e) fun m hm=>j7P e m hm h
theorem k4x (a b:Nat):(if (b:Int) > (a:Int) then (b:Int) else (a:Int))=((max a b:Nat):Int):=by
 split<;>omega
theorem z9S {f:Expr→Option Int}{g:Nat→Expr→Int→Option Int}(hg:∀ k x s,g k x s=(f x).bind fun y=>some (if y > s then y else s)):∀ (l:List Expr) (i s:Nat),(∀ x∈l,f x=some (depE x:Int))→eachL g i l (s:Int)=some ((max s (j0C l):Nat):Int)
 | [],i,s,_=>by rw[eachL,j0C,Nat.max_zero]
 | x::l,i,s,h=>by
  rw[eachL,hg,h x (by simp),bsS,bsS,k4x,z9S hg l (i+1) _ fun y hy=>h y (by simp[hy]),j0C,Nat.max_assoc]
theorem j5u (a b:Int):q9L a b=some (if b > a then b else a):=by
 unfold q9L
 by_cases h:b<a
 ·rw[ifP h,ifN (by omega)]
 ·rw[ifN h]
  split
  ·rfl
  ·congr 1;omega
theorem j1h (e:Expr):∀ m,fuE e≤m→cntE e≤1099511627776→q6O m e=some (depE e:Int)∧q6N m e=some (depE e:Int):=by
 induction e using z1g with
 | h e ih=>
  intro m hm hc
  obtain⟨m,rfl⟩:∃ q,m=q+1:=⟨m-1,by have:=z5e e;omega⟩
  show q9a (q6O m) e=_∧q8Y (q6N m) e=_
  unfold q9a q8Y
  have hx:∀ x∈e.Args,q6O m x=some (depE x:Int)∧q6N m x=some (depE x:Int):=fun x hx=>ih x hx m (by have:=z4p hx;omega) (by have:=j9j hx;omega)
  have k1:=z9S (f:=q6O m) (g:=z4J (q6O m)) (fun k x s=>rfl) e.Args 0 0 fun x h=>(hx x h).1
  have k2:=z9S (f:=q6N m) (g:=z1V (q6N m)) (fun k x s=>by
   unfold z1V
   congr 1;funext y
   rw[j5u,bsS]) e.Args 0 0 fun x h=>(hx x h).2
  rw[show ((0:Nat):Int)=0 from rfl] at k1 k2
  have hd:=j9i e
  rw[j9h] at hd
  rw[k1,k2]
  have hg:I64 (((max 0 (j0C e.Args):Nat):Int)+1):=by constructor<;>omega
  have he:((max 0 (j0C e.Args):Nat):Int)+1=(depE e:Int):=by rw[j9h];omega
  refine⟨?_,?_⟩
  ·rw[bsS,q3U hg,he]
  ·rw[bsS,q3U hg,he]
theorem j9l {e:Expr}(h:cntE e≤1099511627776):z2N e=some (depE e:Int):=q9H (fuE e) fun m hm=>(j1h e m hm h).1
theorem j9m {e:Expr}(h:cntE e≤1099511627776):z2M e=some (depE e:Int):=q9H (fuE e) fun m hm=>(j1h e m hm h).2
def z8w (a:Int)(n:Nat):Int:=if (n:Int)≤a then a-n else -1
theorem j9n (e:Expr):∀ m,fuE e≤m→∀ a:Int,0≤a→a≤1048576→cntE e≤1099511627776→z1U m e a=some (z8w a (cntE e)):=by
 induction e using z1g with
 | h e ih=>
  intro m hm a h0 h1 hc
  obtain⟨m,rfl⟩:∃ q,m=q+1:=⟨m-1,by have:=z5e e;omega⟩
  show z4y (z1U m) e a=_
  unfold z4y
  rw[q3U (by constructor<;>omega)]
  have hlen:e.Args.length≤cntE e:=by
   rw[z7D]
   have:∀ l:List Expr,l.length≤z4d l:=by
    intro l
    induction l with
    | nil=>simp
    | cons x l ih=>
     have:=z7D x
     simp only[z4d,lnC];omega
   have:=this e.Args;omega
  have key:∀ (n k:Nat) (s:Int),k+n=e.Args.length→-1≤s→s≤1048576→q5w (z1I (z1U m) e) (s,(k:Int))=some (if 0≤s then z8w s (z4d (e.Args.drop k)) else s):=by
   intro n
   induction n with
   | zero=>
    intro k s hk _ _
    have hdrop:e.Args.drop k=[]:=List.drop_eq_nil_of_le (by omega)
    refine q4g ?_
    unfold z1I
    dsimp only
    rw[ifN (by omega),hdrop]
    congr 2
    split
    ·unfold z8w;simp[z4d];omega
    ·rfl
   | succ n ihn=>
    intro k s hk hs1 hs2
    have hkl:k<e.Args.length:=by omega
    by_cases hs:0≤s
    ·have hxm:e.Args[k]∈e.Args:=List.getElem_mem hkl
     have hr:=ih _ hxm m (by have:=z4p hxm;omega) s hs hs2 (by have:=j9j hxm;omega)
     have hstep:z1I (z1U m) e (s,(k:Int))=some (.inl (z8w s (cntE e.Args[k]),((k+1:Nat):Int))):=by
      unfold z1I
      dsimp only
      rw[ifP (by omega),ifP hs,q3U (by omega),tnC,List.getElem?_eq_getElem hkl,bsS,hr,bsS,q3U (by constructor<;>omega)]
      rfl
     have hb1:-1≤z8w s (cntE e.Args[k]):=by unfold z8w;split<;>omega
     have hb2:z8w s (cntE e.Args[k])≤1048576:=by unfold z8w;split<;>omega
     rw[q4X hstep,ihn (k+1) _ (by omega) hb1 hb2,ifP hs]
     have hd:e.Args.drop k=e.Args[k]::e.Args.drop (k+1):=List.drop_eq_getElem_cons hkl
     rw[hd,z4d]
     congr 1
     unfold z8w
     split<;>split<;>(try split)<;>omega
    ·refine q4g ?_
     unfold z1I
     dsimp only
     rw[ifP (by omega),ifN hs,ifN hs]
  have:=key e.Args.length 0 (a-1) (by omega) (by omega) (by omega)
  rw[show ((0:Nat):Int)=0 from rfl] at this
  rw[this,bsS,List.drop_zero,z7D]
  congr 1
  unfold z8w
  split<;>(try split)<;>(try split)<;>omega
theorem k1k {e:Expr}{a:Int}(h0:0≤a)(h1:a≤1048576)(h:cntE e≤1099511627776):z9h e a=some (z8w a (cntE e)):=q9H (fuE e) fun m hm=>j9n e m hm a h0 h1 h
theorem j7Q (x lo hi:Int):q4n x lo hi=some (decide (lo≤x∧x≤hi)):=by
 unfold q4n;by_cases h:lo≤x<;>simp[h]
theorem j2m (x lo hi:Int):q5z x lo hi=some (decide (lo≤x∧x≤hi)):=by
 unfold q5z;by_cases h:lo≤x<;>simp[h]
def lowB (c:UInt8):Bool:=decide (97≤(c.toNat:Int)∧(c.toNat:Int)≤122)
def digB (c:UInt8):Bool:=decide (48≤(c.toNat:Int)∧(c.toNat:Int)≤57)
theorem z7E (c:UInt8):z1K c=some (lowB c):=by
 unfold z1K lowB;by_cases h:97≤(c.toNat:Int)<;>simp[h]
theorem j7R (c:UInt8):z3k c=some (digB c):=by
 unfold z3k digB;by_cases h:48≤(c.toNat:Int)<;>simp[h]
def allN (q:Nat→Bool):Nat→Nat→Bool
 | _,0=>true
 | i,n+1=>q i&&allN q (i+1) n
theorem j1i {q r:Nat→Bool}:∀ {n i:Nat},(∀ k,i≤k→q k=r k)→allN q i n=allN r i n
 | 0,_,_=>rfl
 | n+1,i,h=>by rw[allN,allN,h i (Nat.le_refl _),j1i fun k hk=>h k (by omega)]
theorem z7F {ρ:Type}{c:ρ}{q:Nat→Bool}:∀ {n i:Nat} {f:Nat→Unit→Option (Unit ⊕ ρ)},(∀ k,k<n→f (i+k) ()=some (if q (i+k)=true then .inl () else .inr c))→findN f i n ()=some (if allN q i n=true then .inl () else .inr c)
 | 0,i,f,h=>rfl
 | n+1,i,f,h=>by
  have h0:=h 0 (by omega)
  rw[Nat.add_zero] at h0
  rw[findN,h0]
  by_cases hx:q i=true
  ·rw[ifP hx,bsS]
   show findN f (i+1) n ()=_
   rw[z7F fun k hk=>by have:=h (k+1) (by omega);rwa[show i+(k+1)=i+1+k by omega] at this]
   simp[allN,hx]
  ·rw[ifN hx];simp[allN,hx]
def chr (s:ByteArray)(k:Nat):UInt8:=s.data.getD k 0
theorem j2n {s:ByteArray}{k:Nat}(h:k<s.size):s.data[k]?=some (chr s k):=by
 have h' : k<s.data.size:=h
 unfold chr
 rw[Array.getD_eq_getD_getElem?,Array.getElem?_eq_getElem h'];rfl
def z6V:List ByteArray:=[⟨#[105,102]⟩,⟨#[116,104,101,110]⟩,⟨#[101,108,115,101]⟩,⟨#[116,114,117,101]⟩,⟨#[102,97,108,115,101]⟩,⟨#[108,105,116]⟩,⟨#[110,111,110,101]⟩,⟨#[115,101,108,102]⟩,⟨#[111,102]⟩,⟨#[109,97,120]⟩,⟨#[109,105,110]⟩,⟨#[119,105,116,104]⟩,⟨#[104,97,115]⟩]
def memB (s:ByteArray)(l:List ByteArray):Bool:=l.any fun x=>decide (x=s)
theorem k1l {s:ByteArray}{l:List ByteArray}:memB s l=true↔s∈l:=by
 unfold memB;rw[List.any_eq_true]
 exact⟨fun ⟨x,h1,h2⟩=>by simp at h2;exact h2▸h1,fun h=>⟨s,h,by simp⟩⟩
theorem k1m {s:ByteArray}{l:List ByteArray}(h:s∉l):memB s l=false:=by
 cases hb:memB s l with
 | false=>rfl
 | true=>exact absurd (k1l.1 hb) h
def resB (s:ByteArray):Bool:=memB s z6V
theorem k1n (l:List ByteArray)(s:ByteArray):z0V l s=some (memB s l):=by
 unfold z0V
 have:∀ (l:List ByteArray) (i:Nat),findL (z6x s) i l ()=some (if memB s l=true then .inr true else .inl ()):=by
  intro l
  induction l with
  | nil=>intro i;rfl
  | cons x l ih=>
   intro i
   rw[findL]
   unfold z6x at ih ⊢
   have hc:memB s (x::l)=(decide (x=s)||memB s l):=rfl
   by_cases h:x=s
   ·rw[ifP h,hc];simp[h]
   ·rw[ifN h,bsS]
    show findL _ (i+1) l ()=_
    rw[ih,hc];simp[h]
 rw[this,bsS]
 cases memB s l<;>rfl
theorem k3i (s:ByteArray):q9M s=some (resB s):=by
 unfold q9M z1A
 rw[bsS,k1n];rfl
theorem k3j (s:ByteArray):q9O s=some (resB s):=by
 by_cases h:s∈z6V
 ·unfold z6V at h
  simp only[List.mem_cons,List.not_mem_nil,or_false] at h
  rcases h with h|h|h|h|h|h|h|h|h|h|h|h|h<;>subst h<;>rfl
 ·unfold resB
  rw[k1m h]
  unfold z6V at h
  simp only[List.mem_cons,List.not_mem_nil,or_false,not_or] at h
  obtain⟨h1,h2,h3,h4,h5,h6,h7,h8,h9,h10,h11,h12,h13⟩:=h
  unfold q9O
  rw[ifN h1,ifN h2,ifN h3,ifN h4,ifN h5,ifN h6,ifN h7,ifN h8,ifN h9,ifN h10,ifN h11,ifN h12]
  simp[h13]
def q8d (s:ByteArray):Bool:=decide (0<s.size∧s.size≤8)&&(lowB (chr s 0)&&allN (fun k=>lowB (chr s k)||digB (chr s k)) 1 (s.size-1) && !resB s)
theorem z1F (s:ByteArray):q4G s=some (q8d s):=by
 unfold q4G
 rw[z7F (c:=false) (q:=fun k=>lowB (chr s k)||digB (chr s k)) fun k hk=>by
  rw[Nat.zero_add]
  unfold z4H
  rw[j2n hk,bsS,z7E,bsS]
  cases lowB (chr s k) with
  | true=>rfl
  | false=>
   rw[ifN (by simp),j7R,bsS]
   cases digB (chr s k)<;>rfl]
 rw[bsS]
 by_cases h0:0<s.size
 ·obtain⟨n,hn⟩:∃ n,s.size=n+1:=⟨s.size-1,by omega⟩
  unfold q8d
  rw[hn,allN,Nat.add_sub_cancel]
  cases ha:allN (fun k=>lowB (chr s k)||digB (chr s k)) (0+1) n with
  | false=>
   rw[Bool.and_false,ifN (by simp)]
   rw[Nat.zero_add] at ha
   simp[onr,ha]
  | true=>
   rw[Nat.zero_add] at ha
   try rw[ha]
   simp only[Bool.and_true]
   have hc:=j2n h0
   cases hl:lowB (chr s 0) with
   | false=>
    cases hd:digB (chr s 0) with
    | false=>simp[onr]
    | true=>
     rw[ifP (by simp)]
     show (q4n _ 1 8).bind _=_
     rw[j7Q,bsS]
     split
     ·rw[hc,bsS,z7E,hl];simp
     ·simp
   | true=>
    rw[ifP (by simp)]
    show (q4n _ 1 8).bind _=_
    rw[j7Q,bsS]
    by_cases h8:n+1≤8
    ·rw[ifP (by simp;omega),hc,bsS,z7E,hl]
     simp[k3j,h8]
    ·rw[ifN (by simp;omega)];simp[h8]
 ·have hs:s.size=0:=by omega
  unfold q8d
  rw[hs,allN,ifP rfl,z3L,j7Q,bsS]
  simp
theorem z0t (s:ByteArray):q4S s=some (q8d s):=by
 unfold q4S z5v
 rw[z7F (c:=false) (q:=fun k=>lowB (chr s k)||(decide (k≠0)&&digB (chr s k))) fun k hk=>by
  rw[Nat.zero_add]
  unfold z9i
  rw[j2n hk,bsS]
  have e1:(if 97≤((chr s k).toNat:Int) then some (decide (((chr s k).toNat:Int)≤122)) else some false)=some (lowB (chr s k)):=by
   unfold lowB;by_cases h:97≤((chr s k).toNat:Int)<;>simp[h]
  have e2:(if 48≤((chr s k).toNat:Int) then some (decide (((chr s k).toNat:Int)≤57)) else some false)=some (digB (chr s k)):=by
   unfold digB;by_cases h:48≤((chr s k).toNat:Int)<;>simp[h]
  rw[e1,e2,bsS,bsS]
  cases lowB (chr s k) with
  | true=>rfl
  | false=>
   by_cases hk0:k=0
   ·subst hk0;simp
   ·have:¬ ((k:Int)=0):=by omega
    rw[ifN (by simp),ifN this]
    cases digB (chr s k)<;>simp[hk0]]
 rw[bsS]
 by_cases h0:0<s.size
 ·obtain⟨n,hn⟩:∃ n,s.size=n+1:=⟨s.size-1,by omega⟩
  unfold q8d
  rw[hn,allN,Nat.add_sub_cancel,Nat.zero_add,j1i (n:=n) (i:=1) (q:=fun k=>lowB (chr s k)||(decide (k≠0)&&digB (chr s k))) (r:=fun k=>lowB (chr s k)||digB (chr s k)) fun k hk=>by simp[show k≠0 by omega]]
  have e0:(lowB (chr s 0)||(decide ((0:Nat)≠0)&&digB (chr s 0)))=lowB (chr s 0):=by simp
  rw[e0]
  cases hA:(lowB (chr s 0)&&allN (fun k=>lowB (chr s k)||digB (chr s k)) 1 n) with
  | false=>simp[onr]
  | true=>
   rw[ifP rfl]
   simp only[onr,bsS]
   by_cases h8:n+1≤8
   ·simp[k3i,h8];omega
   ·simp[h8];omega
 ·have hs:s.size=0:=by omega
  unfold q8d
  rw[hs]
  simp[onr,allN]
def satI (v:Int):Int:=if (-1000000:Int) > (if (1000000:Int)<v then (1000000:Int) else v) then (-1000000:Int) else (if (1000000:Int)<v then (1000000:Int) else v)
def truI (b:Bool):Int:=if b=true then 1 else 0
def j9o (v k:Int):Int:=if k=1 then satI v else if k=2 then z6q v 4095 else if k=3 then truI (!decide (v=0)) else if k=4 then (if 0≤v∧v≤999 then v else 0) else 0
theorem k3k (v:Int):z3Q v=some (satI v):=rfl
theorem k3l (a b:Int):z6w a b=some (if b<a then b else a):=by
 unfold z6w
 by_cases h:a<b
 ·rw[ifP h,ifN (by omega)]
 ·rw[ifN h]
  split
  ·rfl
  ·congr 1;omega
theorem k3m (v:Int):z1W v=some (satI v):=by
 unfold z1W
 rw[k3l,bsS,j5u,bsS]
 congr 1
 unfold satI
 split<;>split<;>(try split)<;>(try split)<;>omega
theorem k3n (b:Bool):z9o b=some (truI b):=by unfold z9o truI;cases b<;>rfl
theorem k1o (b:Bool):z3g b=some (truI b):=by unfold z3g truI;cases b<;>rfl
theorem k1p (v k:Int):z4K v k=some (j9o v k):=by
 unfold z4K j9o
 rw[k3k,k3n,j7Q]
 by_cases h1:k=1
 ·rw[ifP h1,ifP h1];rfl
 by_cases h2:k=2
 ·rw[ifN h1,ifN h1,ifP h2,ifP h2]
 by_cases h3:k=3
 ·rw[ifN h1,ifN h1,ifN h2,ifN h2,ifP h3,ifP h3];rfl
 by_cases h4:k=4
 ·rw[ifN h1,ifN h1,ifN h2,ifN h2,ifN h3,ifN h3,ifP h4,ifP h4,bsS]
  by_cases h:0≤v∧v≤999<;>simp[h]
 ·rw[ifN h1,ifN h1,ifN h2,ifN h2,ifN h3,ifN h3,ifN h4,ifN h4]
theorem k1q (v k:Int):z4A v k=some (j9o v k):=by
 unfold z4A j9o
 rw[k3m,k1o,j2m]
 by_cases h1:k=1
 ·rw[ifP h1,ifP h1];rfl
 by_cases h2:k=2
 ·rw[ifN h1,ifN h1,ifP h2,ifP h2]
 by_cases h3:k=3
 ·rw[ifN h1,ifN h1,ifN h2,ifN h2,ifP h3,ifP h3];rfl
 by_cases h4:k=4
 ·rw[ifN h1,ifN h1,ifN h2,ifN h2,ifN h3,ifN h3,ifP h4,ifP h4,bsS]
  by_cases h:0≤v∧v≤999<;>simp[h]
 ·rw[ifN h1,ifN h1,ifN h2,ifN h2,ifN h3,ifN h3,ifN h4,ifN h4]
def j2o (v k:Int):Bool:=decide (1≤k∧k≤4)&&decide (j9o v k=v)
theorem k1r (v k:Int):z1Y v k=some (j2o v k):=by
 unfold z1Y z3l j2o
 rw[j7Q,bsS,bsS,k1p,bsS]
 by_cases h:1≤k∧k≤4<;>simp[h]
theorem k1s (v k:Int):z1X v k=some (j2o v k):=by
 unfold z1X j2o
 rw[j2m,bsS,k1q,bsS]
 by_cases h:1≤k∧k≤4<;>simp[h]
def opT (n:Int):Int×Int×Int:=
 if 1≤n∧n≤5 then (1,1,1) else if 6≤n∧n≤8 then (2,2,2) else if n=9∨n=10 then (1,1,3) else if n=11 then (2,1,3) else if n=12 then (2,1,2) else (0,0,0)
theorem k4y {n a b c d e:Int}:(if n=a then some (decide (n=a)) else if n=b then some (decide (n=b)) else if n=c then some (decide (n=c)) else if n=d then some (decide (n=d)) else some (decide (n=e)))=some (decide (n=a∨n=b∨n=c∨n=d∨n=e)):=by
 by_cases h1:n=a
 ·simp[h1]
 by_cases h2:n=b
 ·simp[h1,h2]
 by_cases h3:n=c
 ·rw[ifN h1,ifN h2,ifP h3];simp[h3]
 by_cases h4:n=d
 ·rw[ifN h1,ifN h2,ifN h3,ifP h4];simp[h4]
 ·simp[h1,h2,h3,h4]
theorem k4z {n a b c:Int}:(if n=a then some (decide (n=a)) else if n=b then some (decide (n=b)) else some (decide (n=c)))=some (decide (n=a∨n=b∨n=c)):=by
 by_cases h1:n=a
 ·simp[h1]
 by_cases h2:n=b
 ·simp[h1,h2]
 ·simp[h1,h2]
theorem k3o (n:Int):q8C n=some (opT n):=by
 unfold q8C opT
 rw[k4y,k4z]
 simp only[bsS]
 by_cases h1:1≤n∧n≤5
 ·rw[ifP (by simp;omega),ifP h1]
 rw[ifN (by simp;omega),ifN h1]
 by_cases h2:6≤n∧n≤8
 ·rw[ifP (by simp;omega),ifP h2]
 rw[ifN (by simp;omega),ifN h2]
 by_cases h3:n=9
 ·simp[h3]
 by_cases h3' : n=10
 ·simp[h3']
 by_cases h4:n=11
 ·simp[h4]
 by_cases h5:n=12
 ·simp[h5]
 simp[h3,h3',h4,h5]
theorem k3p (n:Int):q4Z n=some (opT n):=by
 unfold q4Z opT
 rw[j2m,j2m]
 simp only[bsS]
 by_cases h1:1≤n∧n≤5
 ·rw[ifP (by simpa using h1),ifP h1]
 rw[ifN (by simpa using h1),ifN h1]
 by_cases h2:6≤n∧n≤8
 ·rw[ifP (by simpa using h2),ifP h2]
 rw[ifN (by simpa using h2),ifN h2]
 by_cases h3:n=9
 ·rw[ifP h3,ifP (.inl h3)]
 rw[ifN h3]
 by_cases h3' : n=10
 ·rw[ifP h3',ifP (.inr h3')]
 have h33:¬(n=9∨n=10):=by omega
 rw[ifN h3',ifN h33]
 by_cases h4:n=11
 ·rw[ifP h4,ifP h4]
 rw[ifN h4,ifN h4]
 by_cases h5:n=12
 ·rw[ifP h5,ifP h5]
 rw[ifN h5,ifN h5]
theorem k3q (a b:Expr):q6w a b=some (decide (a.Kind=b.Kind)&&(decide (a.N=b.N)&&(decide (a.Pos=b.Pos)&&(decide (a.Type_=b.Type_)&&(decide (a.Symbol=b.Symbol)&&decide (a.Name=b.Name)))))):=by
 unfold q6w
 by_cases h1:a.Kind=b.Kind
 ·rw[ifP h1,bsS]
  by_cases h2:a.N=b.N
  ·by_cases h3:a.Pos=b.Pos
   ·by_cases h4:a.Type_=b.Type_
    ·by_cases h5:a.Symbol=b.Symbol
     ·simp[h1,h2,h3,h4,h5]
     ·simp[h1,h2,h3,h4,h5]
    ·simp[h1,h2,h3,h4]
   ·simp[h1,h2,h3]
  ·simp[h1,h2]
 ·simp[h1]
def j9p (k:Int):Int:=if k=4 then 2 else if k=5 then 3 else if k=8 then 1 else 0
def j9q (e:Expr):Bool:=decide ((e.Args.length:Int)=j9p e.Kind)&&((decide (e.Kind=3∨e.Kind=6)||decide (e.Pos=0))&&((decide (e.Kind=3∨e.Kind=8)||decide (e.Name=⟨#[]⟩))&&((decide (e.Kind=1∨e.Kind=4)||decide (e.N=0))&&((decide (e.Kind=1)||decide (e.Type_=0))&&(decide (e.Kind=8)||decide (e.Symbol=⟨#[]⟩))))))
theorem k3r (e:Expr):z4z e=some (j9q e):=by
 unfold z4z
 have h0:(if e.Kind=4 then some 2 else if e.Kind=5 then some 3 else if e.Kind=8 then some 1 else some (0:Int))=some (j9p e.Kind):=by
  unfold j9p
  split
  ·rfl
  ·split
   ·rfl
   ·split<;>rfl
 have or2:∀ a b:Prop,[Decidable a]→[Decidable b]→(if a then some true else some (decide b))=some (decide (a∨b)):=fun a b _ _=>by
  by_cases h:a<;>simp[h]
 have or1:∀ (a:Prop) (b:Bool),[Decidable a]→(if a then some true else some b)=some (decide a||b):=fun a b _=>by
  by_cases h:a<;>simp[h]
 have orB:∀ a b:Bool,(if a=true then some true else some b)=some (a||b):=fun a b=>by cases a<;>rfl
 have andB:∀ a b:Bool,(if a=true then some b else some false)=some (a&&b):=fun a b=>by cases a<;>rfl
 rw[h0,bsS]
 unfold j9q
 by_cases hl:(e.Args.length:Int)=j9p e.Kind
 ·rw[ifP hl]
  simp only[or2,or1,orB,andB,bsS]
  simp[hl,Bool.and_assoc]
 ·rw[ifN hl];simp[hl]
def k3s (e:Expr):Bool:=
 if e.Kind=1 then (decide (1≤e.Type_∧e.Type_≤3)&&j2o e.N e.Type_)&&decide (0≤e.N)
 else if e.Kind=3 then decide (0≤e.Pos∧e.Pos≤3)&&q8d e.Name
 else if e.Kind=6 then decide (0≤e.Pos∧e.Pos≤3)
 else if e.Kind=4 then decide (1≤e.N∧e.N≤12)
 else if e.Kind=8 then q8d e.Symbol&&q8d e.Name
 else true
def z5f (e:Expr):Bool:=(decide (1≤e.Kind∧e.Kind≤8)&&j9q e)&&k3s e
theorem k1t (e:Expr):z4B e=some (z5f e):=by
 unfold z4B z5f
 rw[j2m,bsS,k3r,bsS]
 by_cases hk:1≤e.Kind∧e.Kind≤8
 ·rw[ifP (by simpa using hk),bsS]
  cases j9q e with
  | false=>simp
  | true=>
   rw[ifN (by simp)]
   unfold k3s
   by_cases k1:e.Kind=1
   ·rw[ifP k1,ifP k1,j2m,bsS,k1s,bsS]
    by_cases h:1≤e.Type_∧e.Type_≤3
    ·cases j2o e.N e.Type_<;>simp[h,hk]
    ·simp[h,hk]
   rw[ifN k1,ifN k1]
   by_cases k3:e.Kind=3
   ·rw[ifP k3,ifP k3,j2m,bsS,z0t]
    by_cases h:0≤e.Pos∧e.Pos≤3
    ·simp[h,hk]
    ·simp[h,hk]
   rw[ifN k3,ifN k3]
   by_cases k6:e.Kind=6
   ·rw[ifP k6,ifP k6,j2m];simp[hk]
   rw[ifN k6,ifN k6]
   by_cases k4:e.Kind=4
   ·rw[ifP k4,ifP k4,j2m];simp[hk]
   rw[ifN k4,ifN k4]
   by_cases k8:e.Kind=8
   ·rw[ifP k8,ifP k8,z0t,bsS,z0t]
    cases q8d e.Symbol<;>simp[hk]
   rw[ifN k8,ifN k8];simp[hk]
 ·rw[ifN (by simpa using hk)];simp[hk]
theorem k1u (e:Expr):q9Q e=some (z5f e):=by
 unfold q9Q z5f j9q k3s j9p
 simp only[k3q,j7Q,k1r,z1F,bsS]
 have hp3:e.Pos=0→(0≤e.Pos∧e.Pos≤3):=fun h=>by omega
 by_cases k1:e.Kind=1
 ·simp[k1]
  have ht:j2o e.N e.Type_=true→1≤e.Type_∧e.Type_≤4:=fun h=>by
   unfold j2o at h;simp at h;exact h.1
  cases hb:j2o e.N e.Type_ with
  | false=>by_cases h4:e.Type_=4<;>simp[h4]
  | true=>
   obtain⟨t1,t2⟩:=ht hb
   by_cases h4:e.Type_=4
   ·simp[h4]
   ·by_cases hn:e.N<0
    ·have:¬ 0≤e.N:=by omega
     simp[h4,hn,this]
    ·have h0:0≤e.N:=by omega
     have h3:e.Type_≤3:=by omega
     by_cases a:e.Args=[]
     ·by_cases p:e.Pos=0
      ·simp[h4,hn,h0,h3,t1,a,p,Bool.and_comm]
      ·simp[h4,hn,h0,h3,t1,a,p]
     ·simp[h4,hn,h0,h3,t1,a]
 by_cases k3:e.Kind=3
 ·simp[k1,k3]
  cases q8d e.Name with
  | false=>simp
  | true=>
   by_cases a:e.Args=[]
   ·by_cases p:0≤e.Pos∧e.Pos≤3
    ·simp[a,p]
    ·have:(decide (0≤e.Pos)&&decide (e.Pos≤3))=false:=by simp;omega
     simp[a,this]
   ·simp[a]
 by_cases k4:e.Kind=4
 ·simp[k1,k3,k4]
  by_cases n:1≤e.N∧e.N≤12
  ·by_cases a:(e.Args.length:Int)=2
   ·by_cases p:e.Pos=0
    ·simp[n,a,p];cases decide (e.Type_=0)<;>cases decide (e.Symbol=⟨#[]⟩)<;>cases decide (e.Name=⟨#[]⟩)<;>rfl
    ·simp[n,a,p]
   ·simp[n,a]
  ·have:(decide (1≤e.N)&&decide (e.N≤12))=false:=by simp;omega
   rw[ifN n,this];simp
 have close3:∀ c:Bool,((if c=true then some (decide (0≤e.Pos)&&decide (e.Pos≤3)) else some false).bind fun s9=>
   if s9=true then some (decide (e.N=0)&&(decide (e.Pos=0)&&(decide (e.Type_=0)&&(decide (e.Symbol=⟨#[]⟩)&&decide (e.Name=⟨#[]⟩))))) else some false) =
  some (c&&(decide (e.Pos=0)&&(decide (e.Name=⟨#[]⟩)&&(decide (e.N=0)&&(decide (e.Type_=0)&&decide (e.Symbol=⟨#[]⟩)))))):=fun c=>by
  cases c with
  | false=>simp
  | true=>
   by_cases p:e.Pos=0
   ·simp[p];cases decide (e.N=0)<;>cases decide (e.Type_=0)<;>cases decide (e.Symbol=⟨#[]⟩)<;>cases decide (e.Name=⟨#[]⟩)<;>rfl
   ·simp[p]
 by_cases k5:e.Kind=5
 ·simp[k1,k3,k4,k5]
  simpa using close3 (decide ((e.Args.length:Int)=3))
 by_cases k6:e.Kind=6
 ·simp[k1,k3,k4,k5,k6]
  by_cases a:e.Args=[]
  ·by_cases p:0≤e.Pos∧e.Pos≤3
   ·simp[a,p];cases decide (e.N=0)<;>cases decide (e.Type_=0)<;>cases decide (e.Symbol=⟨#[]⟩)<;>cases decide (e.Name=⟨#[]⟩)<;>rfl
   ·have:(decide (0≤e.Pos)&&decide (e.Pos≤3))=false:=by simp;omega
    simp[a,this]
  ·simp[a]
 by_cases k8:e.Kind=8
 ·simp[k1,k3,k4,k5,k6,k8]
  cases q8d e.Symbol with
  | false=>simp
  | true=>
   cases q8d e.Name with
   | false=>simp
   | true=>
    by_cases a:(e.Args.length:Int)=1
    ·by_cases p:e.Pos=0
     ·simp[a,p]
     ·simp[a,p]
    ·simp[a]
 by_cases k2:e.Kind=2
 ·simp[k1,k3,k4,k5,k6,k8,k2]
  simpa using close3 (decide (e.Args=[]))
 by_cases k7:e.Kind=7
 ·simp[k1,k3,k4,k5,k6,k8,k2,k7]
  simpa using close3 (decide (e.Args=[]))
 ·simp[k1,k3,k4,k5,k6,k8,k2,k7]
  intro h1 h2;omega
theorem k1v (e:Expr):∀ m,fuE e≤m→z6z m e=some (allE z5f e):=by
 induction e using z1g with
 | h e ih=>
  intro m hm
  obtain⟨m,rfl⟩:∃ q,m=q+1:=⟨m-1,by have:=z5e e;omega⟩
  show z6y (z6z m) e=_
  unfold z6y
  rw[q5k (c:=false) (q:=allE z5f) fun k x hx=>by
   unfold j3x
   rw[ih x hx m (by have:=z4p hx;omega),bsS]
   cases allE z5f x<;>rfl]
  rw[j2k,bsS]
  cases e.Args.all (allE z5f) with
  | true=>rw[ifP rfl,z3L,k1t,Bool.and_true];rfl
  | false=>rw[ifN (by simp),z7l,Bool.and_false]
theorem k3t (e:Expr):j1N e=some (allE z5f e):=q9H (fuE e) fun m hm=>k1v e m hm
theorem z9T {α:Type}(q:α→Bool)(l:List α):(!l.any fun x=>!q x)=l.all q:=by
 induction l with
 | nil=>rfl
 | cons x l ih=>simp[← ih]
theorem k1w (e:Expr):∀ m,fuE e≤m→q5Q m e=some (allE z5f e):=by
 induction e using z1g with
 | h e ih=>
  intro m hm
  obtain⟨m,rfl⟩:∃ q,m=q+1:=⟨m-1,by have:=z5e e;omega⟩
  show q5P (q5Q m) e=_
  unfold q5P q4e q4k
  rw[k1u,bsS,j2k]
  cases z5f e with
  | false=>rfl
  | true=>
   rw[ifP rfl,z9R (q:=fun x=>!allE z5f x) fun k x hx=>by
    unfold q5x q6f
    rw[ih x hx m (by have:=z4p hx;omega),bsS,bsS]
    cases allE z5f x<;>rfl]
   rw[Bool.true_and,← z9T]
   cases e.Args.any fun x=>!allE z5f x with
   | true=>
    have:(0:Int)≤((0+e.Args.findIdx fun x=>!allE z5f x:Nat):Int):=Int.natCast_nonneg _
    rw[ifP rfl,bsS,z7l,bsS,bsS,decide_eq_true this]
   | false=>rfl
theorem k3u (e:Expr):q7D e=some (allE z5f e):=q9H (fuE e) fun m hm=>k1w e m hm
def z9U (e:Expr):Bool:=decide (cntE e≤24)&&(decide (depE e≤6)&&allE z5f e)
theorem j9r {e:Expr}(h:cntE e≤1099511627776):q9b e=some (z9U e):=by
 unfold q9b z9U
 rw[j9k h,bsS,j9l h,k3u]
 by_cases h1:cntE e≤24
 ·rw[ifP (by omega),bsS,bsS]
  by_cases h2:depE e≤6
  ·rw[ifP (by simp;omega),bsS];simp[h1,h2]
  ·rw[ifN (by simp;omega)];simp[h1,h2]
 ·rw[ifN (by omega)];simp[h1]
theorem z6W {e:Expr}(h:cntE e≤1099511627776):q7t e=some (z9U e):=by
 unfold q7t z9U
 rw[k1k (by omega) (by omega) h,bsS,j9m h,k3t]
 unfold z8w
 by_cases h1:cntE e≤24
 ·have h24:((cntE e:Nat):Int)≤24:=by omega
  rw[ifP h24,ifP (by omega:(0:Int)≤24-((cntE e:Nat):Int)),bsS,bsS]
  by_cases h2:depE e≤6
  ·rw[ifP (by simp;omega),bsS];simp[h1,h2]
  ·rw[ifN (by simp;omega)];simp[h1,h2]
 ·have h24:¬ ((cntE e:Nat):Int)≤24:=by omega
  rw[ifN h24,ifN (by omega:¬ (0:Int)≤-1)];simp[h1]
theorem z8G {x m:Int}(h0:0≤m)(h1:m<9223372036854775808):0≤z6q x m∧z6q x m≤m:=by
 unfold z6q
 have h2:(BitVec.ofInt 64 m).toNat=m.toNat:=by
  rw[BitVec.toNat_ofInt]
  have:m % ((2 ^ 64:Nat):Int)=m:=Int.emod_eq_of_lt h0 (by omega)
  rw[this]
 have h3:(BitVec.ofInt 64 x &&& BitVec.ofInt 64 m).toNat≤m.toNat:=by
  rw[BitVec.toNat_and,h2];exact Nat.and_le_right
 rw[IntWalk.i64_in _ (by omega)]
 omega
def j2p (o:l1Cur):Prop:=0≤o.i∧o.b.length≤1048576
theorem k1x {a:List UInt8}(h:a.length≤1048576):∃ o,z5u a=some o∧j2p o∧o.b=a:=by
 have key:∀ (m j:Nat) (s:Int),j+m=a.length→∃ q,q5w (z3e a) (s,(j:Int))=some q:=by
  intro m
  induction m with
  | zero=>
   intro j s hj
   exact⟨s,q4g (by unfold z3e;dsimp only;rw[ifN (by omega)])⟩
  | succ m ih=>
   intro j s hj
   by_cases hlt:(j:Int)<4000
   ·obtain⟨x,hx⟩:∃ x,a[j]?=some x:=⟨_,List.getElem?_eq_getElem (by omega)⟩
    obtain⟨q,hq⟩:=ih (j+1) (z6q (IntKind.i64.wrap ((IntKind.i64.wrap ((IntKind.i64.wrap (s*131))+(x.toNat:Int)))+7)) 1073741823) (by omega)
    refine⟨q,(q4X ?_).trans hq⟩
    have hw:IntKind.i64.wrap ((j:Int)+1)=((j+1:Nat):Int):=by rw[IntWalk.i64_in _ (by omega)];rfl
    unfold z3e
    dsimp only
    rw[ifP (by omega),ifP hlt,q3U (by omega),tnC,hx,bsS,hw]
   ·exact⟨s,q4g (by unfold z3e;dsimp only;rw[ifP (by omega),ifN hlt])⟩
 obtain⟨q,hq⟩:=key a.length 0 (IntKind.i64.wrap (26583+(a.length:Int))) (by omega)
 have hq' : q5w (z3e a) ((IntKind.i64.wrap (26583+(a.length:Int))),0)=some q:=hq
 refine⟨⟨a,0,q⟩,?_,⟨Int.le_refl _,h⟩,rfl⟩
 unfold z5u
 rw[hq',bsS]
theorem z5g {o:l1Cur}(h:j2p o):∃ y z,q9K o=some (y,z)∧0≤y∧y≤255∧j2p z∧z.b=o.b:=by
 obtain⟨h0,h1⟩:=h
 unfold q9K
 by_cases hi:o.i<(o.b.length:Int)
 ·obtain⟨x,hx⟩:∃ x,o.b[o.i.toNat]?=some x:=⟨_,List.getElem?_eq_getElem (by omega)⟩
  rw[ifP hi,q3U h0,hx,bsS]
  refine⟨_,_,rfl,(z8G (by omega) (by omega)).1,(z8G (by omega) (by omega)).2,⟨?_,h1⟩,rfl⟩
  show 0≤IntKind.i64.wrap (o.i+1)
  rw[IntWalk.i64_in _ (by omega)];omega
 ·rw[ifN hi]
  exact⟨_,_,rfl,(z8G (by omega) (by omega)).1,(z8G (by omega) (by omega)).2,⟨h0,h1⟩,rfl⟩
theorem j9s {y n:Int}(hy:0≤y)(hn:0<n):0≤y.tmod n∧y.tmod n<n:=by
 rw[Int.tmod_eq_emod_of_nonneg hy]
 exact⟨Int.emod_nonneg _ (by omega),Int.emod_lt_of_pos _ hn⟩
theorem j1j {o:l1Cur}(h:j2p o)(n:Int):∃ y z,q3V n o=some (y,z)∧0≤y∧(0<n→y<n)∧(n≤0→y=0)∧j2p z∧z.b=o.b:=by
 unfold q3V
 by_cases hn:n≤0
 ·rw[ifP hn];exact⟨0,o,rfl,Int.le_refl _,fun h=>absurd h (by omega),fun _=>rfl,h,rfl⟩
 ·rw[ifN hn]
  by_cases h2:n≤256
  ·obtain⟨y,z,h3,h4,h5,h6,h7⟩:=z5g h
   rw[ifP h2,h3,bsS]
   dsimp only
   rw[q3U (by omega)]
   have:=j9s h4 (show 0<n by omega)
   exact⟨_,_,rfl,this.1,fun _=>this.2,fun h=>absurd h hn,⟨h6.1,h.2⟩,rfl⟩
  ·obtain⟨y1,z1,a1,a2,a3,a4,a5⟩:=z5g h
   obtain⟨y2,z2,b1,b2,b3,b4,b5⟩:=z5g (o:=⟨o.b,z1.i,z1.h⟩) ⟨a4.1,h.2⟩
   obtain⟨y3,z3,c1,c2,c3,c4,c5⟩:=z5g (o:=⟨o.b,z2.i,z2.h⟩) ⟨b4.1,h.2⟩
   obtain⟨y4,z4,d1,d2,d3,d4,d5⟩:=z5g (o:=⟨o.b,z3.i,z3.h⟩) ⟨c4.1,h.2⟩
   rw[ifN h2,a1,bsS]
   dsimp only
   rw[b1,bsS]
   dsimp only
   rw[c1,bsS]
   dsimp only
   rw[d1,bsS]
   dsimp only
   rw[q3U (by constructor<;>omega),q3U (by constructor<;>omega),q3U (by constructor<;>omega),q3U (by constructor<;>omega),q3U (by constructor<;>omega),q3U (by constructor<;>omega),q3U (by omega)]
   have:=j9s (y:=y1*16777216+y2*65536+y3*256+y4) (by omega) (show 0<n by omega)
   exact⟨_,_,rfl,this.1,fun _=>this.2,fun h=>absurd h hn,⟨d4.1,h.2⟩,rfl⟩
theorem j3R {o:l1Cur}(h:j2p o){l:List Int}(hl:l≠[]):∃ y z,q5l l o=some (y,z)∧y∈l∧j2p z∧z.b=o.b:=by
 have hpos:=List.length_pos_iff.2 hl
 obtain⟨y,z,h1,h2,h3,_,h5,h6⟩:=j1j h (l.length:Int)
 have:=h3 (by omega)
 obtain⟨x,hx⟩:∃ x,l[y.toNat]?=some x:=⟨_,List.getElem?_eq_getElem (by omega)⟩
 unfold q5l
 rw[h1,bsS]
 dsimp only
 rw[q3U h2,hx,bsS]
 exact⟨_,_,rfl,List.mem_of_getElem? hx,⟨h5.1,h.2⟩,rfl⟩
theorem j9t {ρ:Type}{g:Nat→Option ρ}(hm:∀ n r,g n=some r→g (n+1)=some r){n:Nat}{r:ρ}(h:g n=some r):recO g=some r:=by
 have up:∀ (k n:Nat) (r:ρ),g n=some r→g (n+k)=some r:=by
  intro k
  induction k with
  | zero=>intro n r h;exact h
  | succ k ih=>intro n r h;exact hm _ _ (ih n r h)
 refine q9H n fun m hm=>?_
 have h1:=up (m-n) n r h
 rwa[show n+(m-n)=m by omega] at h1
theorem z7G {α σ:Type}{f g:Nat→α→σ→Option σ}(h:∀ k x s q,f k x s=some q→g k x s=some q):∀ (xs:List α) (i:Nat) (s q:σ),eachL f i xs s=some q→eachL g i xs s=some q
 | [],i,s,q,hq=>hq
 | x::xs,i,s,q,hq=>by
  simp only[eachL] at hq ⊢
  obtain⟨t,h1,h2⟩:=bd hq
  rw[h _ _ _ _ h1]
  exact z7G h xs _ _ _ h2
theorem j3S (a b:Oc):z2e a b=some (z1S a b):=by
 unfold z2e z1S
 by_cases h1:a.Pos<b.Pos
 ·simp[h1]
 ·by_cases h2:a.Pos=b.Pos
  ·simp[h2]
  ·simp[h1,h2]
abbrev z5h (l:List Oc):Prop:=l.Pairwise fun a b=>z1S a b=true
theorem k1y {l:List Oc}{o:Oc}(hl:l.length≤4398046511104):∀ (m j:Nat),j+m=l.length→(∀ a∈l.take j,z1S a o=true) →
  ∃ k:Nat,q5w (z2f l o) (j:Int)=some ((k:Nat):Int)∧k≤l.length∧(∀ a∈l.take k,z1S a o=true)∧∀ y,l[k]?=some y→z1S y o=false:=by
 intro m
 induction m with
 | zero=>
  intro j hj ha
  refine⟨j,q4g ?_,by omega,ha,fun y hy=>?_⟩
  ·unfold z2f;rw[ifN (by omega)]
  ·rw[List.getElem?_eq_none (by omega)] at hy;cases hy
 | succ m ih=>
  intro j hj ha
  obtain⟨x,hx⟩:∃ x,l[j]?=some x:=⟨_,List.getElem?_eq_getElem (by omega)⟩
  cases hb:z1S x o with
  | false=>
   refine⟨j,q4g ?_,by omega,ha,fun y hy=>?_⟩
   ·unfold z2f
    rw[ifP (by omega),q3U (by omega)]
    simp only[tnC]
    rw[hx,bsS,j3S,bsS,ifN (by rw[hb];simp)]
   ·rw[hx] at hy;cases hy;exact hb
  | true=>
   have e:z2f l o (j:Int)=some (.inl ((j+1:Nat):Int)):=by
    unfold z2f
    rw[ifP (by omega),q3U (by omega)]
    simp only[tnC]
    rw[hx,bsS,j3S,bsS,ifP hb,q3U (by constructor<;>omega)];rfl
   rw[q4X e]
   refine ih (j+1) (by omega) fun a h=>?_
   rw[List.take_add_one,hx] at h
   rcases List.mem_append.1 h with h|h
   ·exact ha a h
   ·simp at h;rw[h];exact hb
theorem j9u {l:List Oc}{o:Oc}(hl:l.length<4398046511104)(hs:z5h l):∃ q,z6K l o=some q∧z5h q∧(∀ a,a∈q↔a=o∨a∈l)∧q.length≤l.length+1:=by
 obtain⟨k,h1,h2,h3,h4⟩:=k1y (l:=l) (o:=o) (by omega) l.length 0 (by omega) (by simp)
 have h1' : q5w (z2f l o) 0=some ((k:Nat):Int):=h1
 have hput:∀ (hne:∀ y,l[k]?=some y→y≠o),z5h (l.take k++[o]++l.drop k)∧(∀ a,a∈l.take k++[o]++l.drop k↔a=o∨a∈l)∧(l.take k++[o]++l.drop k).length≤l.length+1:=fun hne=>by
  refine⟨?_,fun a=>?_,by simp;omega⟩
  ·have:=j7M (lt:=z1S) lessO_swo.trans z5Q (k:=k) hs h3 fun y hy=>⟨h4 y hy,hne y hy⟩
   simpa using this
  ·have:a∈l↔a∈l.take k∨a∈l.drop k:=by rw[← List.mem_append,List.take_append_drop]
   rw[this]
   simp only[List.mem_append,List.mem_singleton]
   constructor
   ·rintro ((h|h)|h)<;>simp[h]
   ·rintro (h|h|h)<;>simp[h]
 unfold z6K
 rw[h1',bsS]
 by_cases hk:k<l.length
 ·obtain⟨x,hx⟩:∃ x,l[k]?=some x:=⟨_,List.getElem?_eq_getElem hk⟩
  rw[ifP (by omega),q3U (by omega)]
  simp only[tnC]
  rw[hx,bsS]
  by_cases hxo:x=o
  ·rw[ifP hxo]
   refine⟨l,rfl,hs,fun a=>?_,by omega⟩
   have:=List.mem_of_getElem? hx
   constructor
   ·exact .inr
   ·rintro (h|h)
    ·rw[h,← hxo];exact this
    ·exact h
  ·rw[ifN hxo,q3U (by omega),q3U (by omega),q3U (by simp;omega),q3U (by simp;omega),q3U (by omega),q3U (by omega),q3U (by simp;omega)]
   exact⟨_,rfl,hput fun y hy=>by rw[hx] at hy;cases hy;exact hxo⟩
 ·rw[ifN (by omega)]
  simp only[tnC]
  rw[q3U (by omega),q3U (by omega),q3U (by simp;omega),q3U (by simp;omega),q3U (by omega),q3U (by omega),q3U (by simp;omega)]
  exact⟨_,rfl,hput fun y hy=>by rw[List.getElem?_eq_none (by omega)] at hy;cases hy⟩
theorem k3v:∀ (n:Nat) (e:Expr) (l q:List Oc),q7p n e l=some q→q7p (n+1) e l=some q:=by
 intro n
 induction n with
 | zero=>intro e l q h;cases h
 | succ n ih=>
  intro e l q h
  have h' : z1l (q7p n) e l=some q:=h
  show z1l (q7p (n+1)) e l=some q
  have m1:∀ (xs:List Expr) (i:Nat) (s q:List Oc),eachL (z1N (q7p n)) i xs s=some q→eachL (z1N (q7p (n+1))) i xs s=some q:=z7G fun k x s q hq=>by
   unfold z1N at hq ⊢
   obtain⟨y,h3,h4⟩:=bd hq
   rw[ih _ _ _ h3];exact h4
  unfold z1l at h' ⊢
  by_cases hk:e.Kind=3
  ·rw[ifP hk] at h' ⊢
   obtain⟨y,h1,h2⟩:=bd h'
   obtain⟨s,h3,h4⟩:=bd h2
   rw[h1,bsS,m1 _ _ _ _ h3];exact h4
  ·rw[ifN hk] at h' ⊢
   obtain⟨s,h3,h4⟩:=bd h'
   have m2:eachL (z7t (q7p (n+1))) 0 e.Args l=some s:=m1 _ _ _ _ h3
   rw[m2];exact h4
theorem j7S:∀ (m:Nat) (e:Expr) (l:List Oc),fuE e≤m→z5h l→l.length+(z4b e).length≤1099511627776 →
  ∃ q,q7p m e l=some q∧z5h q∧(∀ a,a∈q↔a∈l∨a∈z4b e)∧q.length≤l.length+(z4b e).length:=by
 intro m
 induction m with
 | zero=>intro e l h;rw[z8e] at h;omega
 | succ m ih=>
  intro e l h hs hb
  rw[z8e] at h
  rw[z4c,List.length_append] at hb
  have hl:∀ (xs:List Expr) (i:Nat) (s:List Oc),fuEs xs≤m→z5h s→s.length+(z0s xs).length≤1099511627776 →
    ∃ q,eachL (z1N (q7p m)) i xs s=some q∧z5h q∧(∀ a,a∈q↔a∈s∨a∈z0s xs)∧q.length≤s.length+(z0s xs).length:=by
   intro xs
   induction xs with
   | nil=>intro i s _ hs _;exact⟨s,rfl,hs,by simp[z0s],by omega⟩
   | cons x xs ihl=>
    intro i s hf hs hb
    simp only[fuEs] at hf
    simp only[z0s,List.length_append] at hb
    obtain⟨q,h1,h2,h3,h4⟩:=ih x s (by omega) hs (by omega)
    obtain⟨q2,k1,k2,k3,k4⟩:=ihl (i+1) q (by omega) h2 (by omega)
    refine⟨q2,?_,k2,fun a=>?_,by simp only[z0s,List.length_append];omega⟩
    ·simp only[eachL,z1N,h1,bsS];exact k1
    ·rw[k3,h3,z0s,List.mem_append,or_assoc]
  show ∃ q,z1l (q7p m) e l=some q∧_
  unfold z1l
  by_cases hk:e.Kind=3
  ·rw[ifP hk] at hb ⊢
   simp only[lnC,List.length_nil] at hb
   obtain⟨y,h1,h2,h3,h4⟩:=j9u (l:=l) (o:=⟨e.Pos,e.Name⟩) (by omega) hs
   obtain⟨q,k1,k2,k3,k4⟩:=hl e.Args 0 y (by omega) h2 (by omega)
   refine⟨q,?_,k2,fun a=>?_,?_⟩
   ·rw[h1,bsS,k1];rfl
   ·rw[k3,h3,z4c,ifP hk,List.mem_append,List.mem_singleton]
    constructor
    ·rintro ((h|h)|h)<;>simp[h]
    ·rintro (h|h|h)<;>simp[h]
   ·rw[z4c,ifP hk];simp;omega
  ·rw[ifN hk] at hb ⊢
   simp only[List.length_nil] at hb
   obtain⟨q,k1,k2,k3,k4⟩:=hl e.Args 0 l (by omega) hs (by omega)
   have k1' : eachL (z7t (q7p m)) 0 e.Args l=some q:=k1
   refine⟨q,?_,k2,fun a=>?_,?_⟩
   ·rw[k1'];rfl
   ·rw[k3,z4c,ifN hk];simp
   ·rw[z4c,ifN hk];simpa using k4
theorem j3T (e:Expr):z5h (attrs e):=by
 refine z5d lessO_swo.trans z5Q ?_
 have h:=List.pairwise_mergeSort (le:=fun x y=>!z1S y x) (fun a b c h1 h2=>by
  simp only[Bool.not_eq_true'] at h1 h2 ⊢
  exact lessO_swo.ntrans _ _ _ h2 h1) (fun a b=>by
  cases h:z1S a b with
  | false=>simp[h]
  | true=>
   cases h2:z1S b a with
   | false=>simp
   | true=>have:=lessO_swo.trans _ _ _ h h2;rw[lessO_swo.irrefl] at this;cases this) (z4b e)
 unfold j3u
 exact h.imp fun {a b} h=>by simpa using h
theorem j6z {e:Expr}(h:Sz.szd e≤1048576):q6z e=some (attrs e):=by
 have hl:=j9f h
 obtain⟨q,h1,h2,h3,h4⟩:=j7S _ e [] (Nat.le_refl _) List.Pairwise.nil (by simp;omega)
 have hq:q=attrs e:=j1f (lt:=z1S) lessO_swo.irrefl lessO_swo.trans h2 (j3T e) fun a=>by rw[h3,j9g];simp
 subst hq
 have hr:z9q e []=some (attrs e):=j9t (fun n q=>k3v n e [] q) h1
 unfold q6z
 rw[hr];rfl
def Ok {ρ:Type}(Q:ρ→Prop)(o:Option ρ):Prop:=∃ r,o=some r∧Q r
section
variable {ρ τ σ α:Type}{Q:ρ→Prop}{R:τ→Prop}
theorem Ok.ret {r:ρ}(h:Q r):Ok Q (some r):=⟨r,rfl,h⟩
theorem Ok.bind {o:Option ρ}{f:ρ→Option τ}(h:Ok Q o)(hf:∀ r,Q r→Ok R (f r)):Ok R (o.bind f):=by
 obtain⟨r,rfl,hr⟩:=h;exact hf r hr
theorem Ok.grd {c:Prop}[Decidable c]{k:Option τ}(hc:c)(h:Ok R k):Ok R (Go.E.grd c k):=by rw[q3U hc];exact h
theorem Ok.ite {c:Prop}[Decidable c]{a b:Option τ}(h1:c→Ok R a)(h2:¬ c→Ok R b):Ok R (if c then a else b):=by
 by_cases hc:c
 ·rw[ifP hc];exact h1 hc
 ·rw[ifN hc];exact h2 hc
theorem Ok.mono {Q' : ρ→Prop}{o:Option ρ}(h:Ok Q o)(hq:∀ r,Q r→Q' r):Ok Q' o:=by
 obtain⟨r,rfl,hr⟩:=h;exact⟨r,rfl,hq r hr⟩
theorem j2q {P:Nat→σ→Prop}{f:Nat→σ→Option σ}:∀ {n i:Nat} {s:σ},P i s→(∀ k s,i≤k→k<i+n→P k s→Ok (P (k+1)) (f k s))→Ok (P (i+n)) (eachN f i n s)
 | 0,i,s,h,_=>⟨s,rfl,h⟩
 | n+1,i,s,h,hf=>by
  rw[eachN]
  refine (hf i s (Nat.le_refl _) (by omega) h).bind fun r hr=>?_
  have:=j2q (n:=n) hr fun k s h1 h2=>hf k s (by omega) (by omega)
  rwa[show i+1+n=i+(n+1) by omega] at this
theorem j2r {P:Nat→σ→Prop}{f:Nat→α→σ→Option σ}:∀ {xs:List α} {i:Nat} {s:σ},P i s→(∀ k x s,x∈xs→i≤k→k<i+xs.length→P k s→Ok (P (k+1)) (f k x s))→Ok (P (i+xs.length)) (eachL f i xs s)
 | [],i,s,h,_=>⟨s,rfl,h⟩
 | x::xs,i,s,h,hf=>by
  rw[eachL]
  refine (hf i x s (by simp) (Nat.le_refl _) (by simp) h).bind fun r hr=>?_
  have:=j2r (xs:=xs) hr fun k y s hy h1 h2=>hf k y s (by simp[hy]) (by omega) (by simp;omega)
  rwa[show i+1+xs.length=i+(x::xs).length by simp;omega] at this
theorem j9v {g:Nat→Option ρ}{N:Nat}(h:∀ n,N≤n→g (n+1)=g n)(h2:Ok Q (g N)):Ok Q (recO g):=by
 obtain⟨r,h3,h4⟩:=h2
 have:∀ k,g (N+k)=some r:=by
  intro k
  induction k with
  | zero=>exact h3
  | succ k ih=>rw[← Nat.add_assoc,h _ (by omega),ih]
 exact⟨r,q9H N fun n hn=>by have:=this (n-N);rwa[show N+(n-N)=n by omega] at this,h4⟩
end
def CB (b:List UInt8)(z:l1Cur):Prop:=0≤z.i∧z.b=b
theorem CB.mk' {b:List UInt8}{o z:l1Cur}(h:CB b o)(hz:CB b z):CB b ⟨o.b,z.i,z.h⟩:=⟨hz.1,h.2⟩
def Dr {α:Type}(b:List UInt8)(P:α→Prop)(o:Option (α×l1Cur)):Prop:=Ok (fun r=>P r.1∧CB b r.2) o
theorem Dr.of {α:Type}{b:List UInt8}{P:α→Prop}{o:Option (α×l1Cur)}(hb:b.length≤1048576)(h:∃ y z,o=some (y,z)∧P y∧j2p z∧z.b=b):Dr b P o:=by
 obtain⟨y,z,e,h1,h2,h3⟩:=h
 exact⟨(y,z),e,h1,h2.1,h3⟩
theorem CB.ok {b:List UInt8}{z:l1Cur}(hb:b.length≤1048576)(h:CB b z):j2p z:=⟨h.1,by rw[h.2];exact hb⟩
section
variable {b:List UInt8}{o:l1Cur}(hb:b.length≤1048576)
include hb
theorem k4A:Ok (fun z=>CB b z) (z5u b):=by
 obtain⟨o,h1,h2,h3⟩:=k1x hb
 exact⟨o,h1,h2.1,h3⟩
theorem q4L (n:Int)(h:CB b o):Dr b (fun y=>0≤y∧(0<n→y<n)∧(n≤0→y=0)) (q3V n o):=by
 obtain⟨y,z,h1,h2,h3,h4,h5,h6⟩:=j1j (h.ok hb) n
 exact⟨(y,z),h1,⟨h2,h3,h4⟩,h5.1,h6.trans h.2⟩
theorem q8V (n:Int)(h:CB b o):Dr b (fun _=>True) (q4Y n o):=by
 unfold q4Y
 refine (q4L hb n h).bind ?_
 rintro⟨y,z⟩ ⟨_,hz⟩
 exact .ret ⟨trivial,h.mk' hz⟩
theorem z2n {l:List ByteArray}(hl:l≠[])(h:CB b o):Dr b (fun y=>y∈l) (q6V l o):=by
 have hpos:=List.length_pos_iff.2 hl
 unfold q6V
 refine (q4L hb _ h).bind ?_
 rintro⟨y,z⟩ ⟨⟨h1,h2,_⟩,hz⟩
 dsimp only at h1 h2 hz ⊢
 have:=h2 (by omega)
 obtain⟨x,hx⟩:∃ x,l[y.toNat]?=some x:=⟨_,List.getElem?_eq_getElem (by omega)⟩
 rw[hx]
 exact .grd h1 (.ret ⟨List.mem_of_getElem? hx,h.mk' hz⟩)
theorem q9C {l:List Int}(hl:l≠[])(h:CB b o):Dr b (fun y=>y∈l) (q5l l o):=by
 obtain⟨y,z,h1,h2,h3,h4⟩:=j3R (h.ok hb) hl
 exact⟨(y,z),h1,h2,h3.1,h4.trans h.2⟩
theorem j5v (h:CB b o):Dr b (fun y=>y.size=1) (q9N o):=by
 unfold q9N
 refine (z2n hb (by simp) h).bind ?_
 rintro⟨y,z⟩ ⟨h1,hz⟩
 refine .ret ⟨?_,h.mk' hz⟩
 simp only[List.mem_cons,List.not_mem_nil,or_false] at h1
 rcases h1 with h1|h1|h1|h1|h1|h1|h1|h1<;>rw[h1]<;>rfl
theorem j1k (k n p t:Int)(s m:ByteArray):Sz.szd (⟨k,n,p,t,s,m,[]⟩:Expr)=s.size+m.size:=by rw[q6u];rfl
theorem j9w (k n p t:Int)(s m:ByteArray)(x y:Expr):Sz.szd (⟨k,n,p,t,s,m,[x,y]⟩:Expr)=s.size+m.size+(1+Sz.szd x+(1+Sz.szd y+0)):=by rw[q6u];rfl
theorem k2y (k n p t:Int)(s m:ByteArray)(x:Expr):Sz.szd (⟨k,n,p,t,s,m,[x]⟩:Expr)=s.size+m.size+(1+Sz.szd x+0):=by rw[q6u];rfl
theorem j6A (k n p t:Int)(s m:ByteArray)(x y z:Expr):Sz.szd (⟨k,n,p,t,s,m,[x,y,z]⟩:Expr)=s.size+m.size+(1+Sz.szd x+(1+Sz.szd y+(1+Sz.szd z+0))):=by rw[q6u];rfl
theorem z1G:(⟨#[]⟩:ByteArray).size=0:=rfl
theorem z7H (k:Int){l:List Oc}(hl:∀ q∈l,q.Name.size≤8)(h:CB b o):Dr b (fun e=>Sz.szd e≤8) (q7n k l o):=by
 have bare:∀ {o:l1Cur},CB b o→∀ {R:Option (Expr×l1Cur)},R=(if k=4 then
   (q4Y 3 o).bind fun (y10,z7)=>if y10=true then some ((⟨7,0,0,0,(⟨#[]⟩:ByteArray),(⟨#[]⟩:ByteArray),[]⟩:Expr),(⟨o.b,z7.i,z7.h⟩:l1Cur)) else some ((⟨6,0,0,0,(⟨#[]⟩:ByteArray),(⟨#[]⟩:ByteArray),[]⟩:Expr),(⟨o.b,z7.i,z7.h⟩:l1Cur))
  else if k=3 then (q3V 2 o).bind fun (y11,z8)=>(q7i y11 k).bind fun y12=>some (y12,(⟨o.b,z8.i,z8.h⟩:l1Cur))
  else if k=2 then (q3V 12 o).bind fun (y13,z9)=>grd (0≤y13) <| grd (0≤y13∧y13<63) <| (q7i ((2 ^ y13.toNat:Nat):Int) k).bind fun y14=>some (y14,(⟨o.b,z9.i,z9.h⟩:l1Cur))
  else (q3V 9 o).bind fun (y15,z10)=>(q7i y15 1).bind fun y16=>some (y16,(⟨o.b,z10.i,z10.h⟩:l1Cur)))→Dr b (fun e=>Sz.szd e≤8) R:=by
  rintro o h R rfl
  refine .ite (fun _=>?_) fun _=>.ite (fun _=>?_) fun _=>.ite (fun _=>?_) fun _=>?_
  ·refine (q8V hb 3 h).bind ?_
   rintro⟨y,z⟩ ⟨_,hz⟩
   refine .ite (fun _=>.ret ⟨?_,h.mk' hz⟩) fun _=>.ret ⟨?_,h.mk' hz⟩
   ·exact Nat.zero_le _
   ·exact Nat.zero_le _
  ·refine (q4L hb 2 h).bind ?_
   rintro⟨y,z⟩ ⟨_,hz⟩
   refine .ret ⟨?_,h.mk' hz⟩
   exact Nat.zero_le _
  ·refine (q4L hb 12 h).bind ?_
   rintro⟨y,z⟩ ⟨⟨h1,h2,_⟩,hz⟩
   have:=h2 (by omega)
   dsimp only at h1 this
   refine .grd h1 (.grd (by omega) (.ret ⟨?_,h.mk' hz⟩))
   exact Nat.zero_le _
  ·refine (q4L hb 9 h).bind ?_
   rintro⟨y,z⟩ ⟨_,hz⟩
   refine .ret ⟨?_,h.mk' hz⟩
   exact Nat.zero_le _
 unfold q7n
 refine .ite (fun hl0=>?_) fun _=>bare h rfl
 refine (q8V hb 4 h).bind ?_
 rintro⟨y,z⟩ ⟨_,hz⟩
 have h':=h.mk' hz
 refine .ite (fun _=>?_) fun _=>?_
 ·exact bare h' rfl
 ·refine (q4L hb _ h').bind ?_
  rintro⟨y,z⟩ ⟨⟨h1,h2,_⟩,hz⟩
  have:=h2 (by omega)
  dsimp only at h1 this
  obtain⟨x,hx⟩:∃ x,l[y.toNat]?=some x:=⟨_,List.getElem?_eq_getElem (by omega)⟩
  dsimp only
  rw[hx]
  refine .grd h1 (.ret ⟨?_,h.mk' hz⟩)
  dsimp only
  rw[j1k hb,z1G hb]
  have:=hl x (List.mem_of_getElem? hx)
  omega
def fb (d:Nat):Nat:=20*4 ^ d
theorem j1l (d:Nat):20≤fb d:=by
 have:1≤4 ^ d:=Nat.one_le_pow _ _ (by omega)
 unfold fb;omega
theorem j9x (d:Nat):fb (d+1)=4*fb d:=by unfold fb;rw[Nat.pow_succ];omega
theorem z6h (h:CB b o){R:Option (Expr×l1Cur)}(hR:R=(
 (q4Y 5 o).bind fun (y1,z1)=>
 if y1=true then (
 some ((⟨2,0,0,0,(⟨#[]⟩:ByteArray),(⟨#[]⟩:ByteArray),[]⟩:Expr),(⟨o.b,z1.i,z1.h⟩:l1Cur))
 ) else (
 (q4Y 6 (⟨o.b,z1.i,z1.h⟩:l1Cur)).bind fun (y2,z2)=>
 if y2=true then (
 (q3V 4 (⟨o.b,z2.i,z2.h⟩:l1Cur)).bind fun (y3,z3)=>
 some ((⟨6,0,y3,0,(⟨#[]⟩:ByteArray),(⟨#[]⟩:ByteArray),[]⟩:Expr),(⟨o.b,z3.i,z3.h⟩:l1Cur))
 ) else (
 (q3V 4 (⟨o.b,z2.i,z2.h⟩:l1Cur)).bind fun (y4,z4)=>
 grd (I64 (1+y4)) <|
 (q3V 4 (⟨o.b,z4.i,z4.h⟩:l1Cur)).bind fun (y5,z5)=>
 (q9N (⟨o.b,z5.i,z5.h⟩:l1Cur)).bind fun (y6,z6)=>
 (q7n (1+y4) [(⟨y5,y6⟩:Oc)] (⟨o.b,z6.i,z6.h⟩:l1Cur)).bind fun (y7,z7)=>
 some (y7,(⟨o.b,z7.i,z7.h⟩:l1Cur))
 )
 ))):Dr b (fun e=>Sz.szd e≤20) R:=by
 subst hR
 refine (q8V hb 5 h).bind ?_
 rintro⟨y1,z1⟩ ⟨_,h1⟩
 refine .ite (fun _=>.ret ⟨?_,h.mk' h1⟩) fun _=>?_
 ·exact Nat.zero_le _
 refine (q8V hb 6 (h.mk' h1)).bind ?_
 rintro⟨y2,z2⟩ ⟨_,h2⟩
 refine .ite (fun _=>?_) fun _=>?_
 ·refine (q4L hb 4 (h.mk' h2)).bind ?_
  rintro⟨y3,z3⟩ ⟨_,h3⟩
  refine .ret ⟨?_,h.mk' h3⟩
  exact Nat.zero_le _
 ·refine (q4L hb 4 (h.mk' h2)).bind ?_
  rintro⟨y4,z4⟩ ⟨⟨a1,a2,_⟩,h4⟩
  have:=a2 (by omega)
  dsimp only at a1 this
  refine .grd (by constructor<;>omega) ?_
  refine (q4L hb 4 (h.mk' h4)).bind ?_
  rintro⟨y5,z5⟩ ⟨_,h5⟩
  refine (j5v hb (h.mk' h5)).bind ?_
  rintro⟨y6,z6⟩ ⟨hn,h6⟩
  refine (z7H hb _ (by simpa using (show y6.size≤8 by dsimp only at hn;omega)) (h.mk' h6)).bind ?_
  rintro⟨y7,z7⟩ ⟨hs,h7⟩
  exact .ret ⟨by have hs' : Sz.szd y7≤8:=hs;show Sz.szd y7≤20;omega,h.mk' h7⟩
theorem k3w:∀ (d:Nat) (m:Nat),d<m→∀ (a:Int) (o:l1Cur),a≤d+1→q6E (m+1) a o=q6E m a o:=by
 intro d
 induction d with
 | zero=>
  intro m hm a o ha
  obtain⟨m,rfl⟩:∃ q,m=q+1:=⟨m-1,by omega⟩
  show q7C (q6E (m+1)) a o=q7C (q6E m) a o
  unfold q7C
  rw[ifP (by omega),ifP (by omega)]
 | succ d ih=>
  intro m hm a o ha
  obtain⟨m,rfl⟩:∃ q,m=q+1:=⟨m-1,by omega⟩
  have e:q6E (m+1) (a-1)=q6E m (a-1):=funext fun o=>ih m (by omega) (a-1) o (by omega)
  show q7C (q6E (m+1)) a o=q7C (q6E m) a o
  unfold q7C
  rw[e]
theorem k1z:∀ (d:Nat) (m:Nat),d<m→∀ (a:Int) (o:l1Cur),a≤d+1→-1000000≤a→d≤100000→CB b o→Dr b (fun e=>Sz.szd e≤fb d) (q6E m a o):=by
 intro d
 induction d with
 | zero=>
  intro m hm a o ha _ _ h
  obtain⟨m,rfl⟩:∃ q,m=q+1:=⟨m-1,by omega⟩
  show Dr b _ (q7C (q6E m) a o)
  unfold q7C
  rw[ifP (by omega)]
  exact (z6h hb h rfl).mono fun r hr=>⟨Nat.le_trans hr.1 (j1l hb 0),hr.2⟩
 | succ d ih=>
  intro m hm a o ha h0 hd h
  obtain⟨m,rfl⟩:∃ q,m=q+1:=⟨m-1,by omega⟩
  have hf:=j1l hb d
  have hs:=j9x hb d
  show Dr b _ (q7C (q6E m) a o)
  unfold q7C
  by_cases ha2:a<2
  ·rw[ifP ha2];exact (z6h hb h rfl).mono fun r hr=>⟨Nat.le_trans hr.1 (j1l hb _),hr.2⟩
  rw[ifN ha2]
  have ih' : ∀ {o:l1Cur},CB b o→Dr b (fun e=>Sz.szd e≤fb d) (q6E m (a-1) o):=fun h=>ih m (by omega) (a-1) _ (by omega) (by omega) (by omega) h
  have hg:I64 (a-1):=by constructor<;>omega
  refine (q8V hb 4 h).bind ?_
  rintro⟨y8,z8⟩ ⟨_,h8⟩
  refine .ite (fun _=>(z6h hb (h.mk' h8) rfl).mono fun r hr=>⟨Nat.le_trans hr.1 (j1l hb _),hr.2⟩) fun _=>?_
  refine (q4L hb 5 (h.mk' h8)).bind ?_
  rintro⟨y16,z16⟩ ⟨_,h16⟩
  refine .ite (fun _=>?_) fun _=>.ite (fun _=>?_) fun _=>?_
  ·refine .grd hg ((ih' (h.mk' h16)).bind ?_)
   rintro⟨e1,z1⟩ ⟨s1,h1⟩
   refine .grd hg ((ih' (h.mk' h1)).bind ?_)
   rintro⟨e2,z2⟩ ⟨s2,h2⟩
   refine .grd hg ((ih' (h.mk' h2)).bind ?_)
   rintro⟨e3,z3⟩ ⟨s3,h3⟩
   refine .ret ⟨?_,h.mk' h3⟩
   dsimp only at s1 s2 s3 ⊢
   rw[j6A hb,z1G hb];omega
  ·refine (z2n hb (by simp) (h.mk' h16)).bind ?_
   rintro⟨y20,z20⟩ ⟨h20,c20⟩
   refine (j5v hb (h.mk' c20)).bind ?_
   rintro⟨y21,z21⟩ ⟨h21,c21⟩
   refine .grd hg ((ih' (h.mk' c21)).bind ?_)
   rintro⟨e1,z1⟩ ⟨s1,h1⟩
   refine .ret ⟨?_,h.mk' h1⟩
   have:y20.size=1:=by
    simp only[List.mem_cons,List.not_mem_nil,or_false] at h20
    rcases h20 with h20|h20<;>rw[h20]<;>rfl
   dsimp only at s1 h21 ⊢
   rw[k2y hb];omega
  ·refine (q4L hb 12 (h.mk' h16)).bind ?_
   rintro⟨y23,z23⟩ ⟨⟨a1,a2,_⟩,h23⟩
   have:=a2 (by omega)
   dsimp only at a1 this
   refine .grd (by constructor<;>omega) (.grd hg ((ih' (h.mk' h23)).bind ?_))
   rintro⟨e1,z1⟩ ⟨s1,h1⟩
   refine .grd hg ((ih' (h.mk' h1)).bind ?_)
   rintro⟨e2,z2⟩ ⟨s2,h2⟩
   refine .ret ⟨?_,h.mk' h2⟩
   dsimp only at s1 s2 ⊢
   rw[j9w hb,z1G hb];omega
theorem j9y (d:Nat){a:Int}(ha:a≤d+1)(h0:-1000000≤a)(hd:d≤100000)(h:CB b o):Dr b (fun e=>Sz.szd e≤fb d) (z6A a o):=
 j9v (g:=fun n=>q6E n a o) (N:=d+1) (fun n hn=>k3w hb d n (by omega) a o ha) (k1z hb d (d+1) (by omega) a o ha h0 hd h)
theorem j9z {e:Expr}{n:Nat}(h:Sz.szd e≤n):cntE e≤n+1:=by
 have h1:=j2l e
 have h2:z0r e=Sz.szd e:=rfl
 omega
theorem j9A (h:CB b o):Dr b (fun e=>Sz.szd e≤20480) (z3i o):=by
 unfold z3i
 refine (q4L hb 5 h).bind ?_
 rintro⟨y1,z1⟩ ⟨⟨a1,a2,_⟩,h1⟩
 have:=a2 (by omega)
 dsimp only at a1 this
 refine .grd (by constructor<;>omega) ?_
 refine (j9y hb 5 (a:=1+y1) (by omega) (by omega) (by omega) (h.mk' h1)).bind ?_
 rintro⟨e,z2⟩ ⟨s2,h2⟩
 have s2' : Sz.szd e≤20480:=s2
 dsimp only
 rw[z6W (by have:=j9z hb s2';omega)]
 refine Ok.bind (Q:=fun _=>True) (.ret trivial) fun y3 _=>.ite (fun _=>.ret ⟨s2',h.mk' h2⟩) fun _=>.ret ⟨?_,h.mk' h2⟩
 exact Nat.zero_le _
theorem k3x (h:CB b o):Dr b (fun e=>Sz.szd e≤30000) (z4E o):=by
 unfold z4E
 refine (j9A hb h).bind ?_
 rintro⟨e,z1⟩ ⟨s1,h1⟩
 have s1' : Sz.szd e≤20480:=s1
 have s2:=q6u e
 refine (q4L hb 14 (h.mk' h1)).bind ?_
 rintro⟨y2,z2⟩ ⟨_,h2⟩
 dsimp only
 refine .ite (fun _=>?_) fun _=>.ite (fun _=>?_) fun _=>.ite (fun _=>?_) fun _=>.ite (fun _=>?_) fun _=>.ite (fun _=>?_) fun _=>.ite (fun _=>?_) fun _=>?_
 ·refine (q4L hb 11 (h.mk' h2)).bind ?_
  rintro⟨y3,z3⟩ ⟨_,h3⟩
  refine .ret ⟨?_,h.mk' h3⟩
  dsimp only;rw[q6u];dsimp only;omega
 ·have hl:=q7g e.Args
  refine .grd (by constructor<;>omega) (.ret ⟨?_,h.mk' h2⟩)
  dsimp only;rw[q6u];dsimp only;rw[z7k]
  have:szL [(⟨7,0,0,0,(⟨#[]⟩:ByteArray),(⟨#[]⟩:ByteArray),[]⟩:Expr)]=1:=rfl
  omega
 ·refine (q9C hb (by simp) (h.mk' h2)).bind ?_
  rintro⟨y3,z3⟩ ⟨_,h3⟩
  refine .ret ⟨?_,h.mk' h3⟩
  dsimp only;rw[q6u];dsimp only;omega
 ·refine (q9C hb (by simp) (h.mk' h2)).bind ?_
  rintro⟨y3,z3⟩ ⟨_,h3⟩
  refine .ret ⟨?_,h.mk' h3⟩
  dsimp only;rw[q6u];dsimp only;omega
 ·refine (z2n hb (by simp) (h.mk' h2)).bind ?_
  rintro⟨y3,z3⟩ ⟨h30,h3⟩
  have:y3.size≤2:=by
   simp only[List.mem_cons,List.not_mem_nil,or_false] at h30
   rcases h30 with h30|h30|h30<;>rw[h30]<;>decide
  refine .ret ⟨?_,h.mk' h3⟩
  dsimp only;rw[q6u];dsimp only;omega
 ·have hL:Ok (fun q=>Sz.szd (⟨q.2.1,q.2.2.1,q.2.2.2.1,q.2.2.2.2.1,q.2.2.2.2.2.1,q.2.2.2.2.2.2,q.1⟩:Expr)≤20480+5*2) (eachN z7s 0 5 (e.Args,e.Kind,e.N,e.Pos,e.Type_,e.Symbol,e.Name)):=by
   refine (j2q (P:=fun k q=>Sz.szd (⟨q.2.1,q.2.2.1,q.2.2.2.1,q.2.2.2.2.1,q.2.2.2.2.2.1,q.2.2.2.2.2.2,q.1⟩:Expr)≤20480+k*2) (by dsimp only;rw[q6u];dsimp only;omega) fun k q _ _ hq=>?_).mono fun q hq=>by simpa using hq
   obtain⟨q1,q2,q3,q4,q5,q6,q7⟩:=q
   dsimp only at hq
   refine .ret ?_
   dsimp only
   rw[j9w hb,j1k hb,z1G hb];omega
  refine hL.bind ?_
  rintro⟨q1,q2,q3,q4,q5,q6,q7⟩ hq
  refine .ret ⟨?_,h.mk' h2⟩
  dsimp only at hq ⊢;omega
 ·exact .ret ⟨by dsimp only;omega,h.mk' h2⟩
end
def Valid (r:Rl_):Prop:=0≤r.N∧r.N≤16∧(r.Rows.length:Int)=r.N∧∀ x∈r.Rows,0≤x∧x≤((2 ^ r.N.toNat:Nat):Int)-1
instance (r:Rl_):Decidable (Valid r):=by unfold Valid;infer_instance
def z5O (r:Rl_)(i:Int):Int:=r.Rows.getD i.toNat 0
def bit (x:Int)(k:Int):Prop:=x.toNat >>> k.toNat &&& 1=1
instance (x k:Int):Decidable (bit x k):=by unfold bit;infer_instance
def inN (r:Rl_)(i:Int):Prop:=0≤i∧i≤r.N-1
instance (r:Rl_) (i:Int):Decidable (inN r i):=by unfold inN;infer_instance
def hasP (r:Rl_)(i k:Int):Prop:=Valid r∧inN r i∧inN r k∧bit (z5O r i) k
instance (r:Rl_) (i k:Int):Decidable (hasP r i k):=by unfold hasP;infer_instance
def z9V (r:Rl_)(i:Int)(x:Int):Rl_:=⟨r.N,r.Rows.set i.toNat x⟩
def orI (x y:Int):Int:=((x.toNat ||| y.toNat:Nat):Int)
def addP (r:Rl_)(i k:Int):Rl_:=if Valid r∧inN r i∧inN r k then z9V r i (orI (z5O r i) ((2 ^ k.toNat:Nat):Int)) else r
theorem Valid.row {r:Rl_}(h:Valid r){i:Int}(hi:inN r i){x:Int}(hx:r.Rows[i.toNat]?=some x):z5O r i=x∧0≤x∧x≤65535:=by
 have hm:=h.2.2.2 x (List.mem_of_getElem? hx)
 have hp:2 ^ r.N.toNat≤2 ^ 16:=Nat.pow_le_pow_right (by decide) (by have:=h.2.1;omega)
 refine⟨by unfold z5O;simp[hx],hm.1,by omega⟩
theorem k5a {n:Int}(h:n≤16):2 ^ n.toNat≤65536:=by
 have:2 ^ n.toNat≤2 ^ 16:=Nat.pow_le_pow_right (by decide) (by omega)
 simpa using this
theorem k1A (n:Int):1≤2 ^ n.toNat:=Nat.one_le_two_pow
theorem j9B {r:Rl_}(h0:0≤r.N)(h1:r.N≤16)(h2:(r.Rows.length:Int)=r.N):decide (Valid r)=!(r.Rows.any fun x=>!decide (0≤x∧x≤((2 ^ r.N.toNat:Nat):Int)-1)):=by
 by_cases hv:Valid r
 ·rw[decide_eq_true hv,eq_comm,Bool.not_eq_true',List.any_eq_false]
  intro x hx
  simp only[Bool.not_eq_true',decide_eq_false_iff_not,Decidable.not_not]
  exact hv.2.2.2 x hx
 ·rw[decide_eq_false hv,eq_comm,Bool.not_eq_false',List.any_eq_true]
  refine Classical.byContradiction fun hn=>hv ⟨h0,h1,h2,fun x hx=>Classical.byContradiction fun hb=>hn ⟨x,hx,?_⟩⟩
  rw[decide_eq_false hb];rfl
theorem k2z {x k:Int}(h:(((((x.toNat >>> k.toNat:Nat):Int)).toNat &&& (1:Int).toNat:Nat):Int)=1):x.toNat >>> k.toNat &&& 1=1:=by
 have:(1:Int).toNat=1:=rfl
 rw[tnC,this] at h
 exact_mod_cast h
theorem k2A {x k:Int}(h:x.toNat >>> k.toNat &&& 1=1):(((((x.toNat >>> k.toNat:Nat):Int)).toNat &&& (1:Int).toNat:Nat):Int)=1:=by
 have:(1:Int).toNat=1:=rfl
 rw[tnC,this]
 exact_mod_cast h
theorem q8R (x lo hi:Int):q5z x lo hi=some (decide (lo≤x∧x≤hi)):=by
 unfold q5z;split<;>simp_all<;>omega
theorem z3C (x lo hi:Int):q4n x lo hi=some (decide (lo≤x∧x≤hi)):=by
 unfold q4n;split<;>simp_all<;>omega
theorem q9x (r:Rl_):q5C r=some (decide (Valid r)):=by
 unfold q5C
 simp only[q8R,bsS,decide_eq_true_eq]
 by_cases h1:0≤r.N∧r.N≤16
 ·rw[ifP h1]
  by_cases h2:(r.Rows.length:Int)=r.N
  ·rw[ifP h2]
   have key:=j3N (c:=false) (n:=r.N.toNat) (i:=0) (p:=fun k=>∃ x,r.Rows[k]?=some x∧¬ (0≤x∧x≤((2 ^ r.N.toNat:Nat):Int)-1)) (f:=q9s r) fun k hk=>by
    have hk' : k<r.Rows.length:=by omega
    obtain⟨x,hx⟩:∃ x,r.Rows[k]?=some x:=⟨_,List.getElem?_eq_getElem hk'⟩
    simp only[Nat.zero_add]
    unfold q9s
    rw[hx,bsS,q3U h1.1,q3U (by omega),q8R,bsS]
    simp only[decide_eq_true_eq]
    refine⟨fun ⟨y,hy,hn⟩=>?_,fun hn=>?_⟩
    ·cases hy;rw[ifN hn]
    ·by_cases hb:0≤x∧x≤((2 ^ r.N.toNat:Nat):Int)-1
     ·rw[ifP hb]
     ·exact absurd ⟨x,rfl,hb⟩ hn
   simp only[Nat.zero_add] at key
   by_cases hv:Valid r
   ·rw[key.2 fun k hk ⟨x,hx,hn⟩=>hn (hv.2.2.2 x (List.mem_of_getElem? hx))]
    simp[hv]
   ·rw[key.1 (Classical.byContradiction fun hn=>hv ⟨h1.1,h1.2,h2,fun x hx=>?_⟩)]
    ·simp[hv]
    ·obtain⟨k,hk⟩:=List.getElem?_of_mem hx
     have hk':=k4R hk
     exact Classical.byContradiction fun hb=>hn ⟨k,by omega,x,hk,hb⟩
  ·rw[ifN h2,decide_eq_false fun hv=>h2 hv.2.2.1]
 ·rw[ifN h1,decide_eq_false fun hv=>h1 ⟨hv.1,hv.2.1⟩]
theorem z6i (r:Rl_):q6a r=some (decide (Valid r)):=by
 unfold q6a
 simp only[z3C,bsS,decide_eq_true_eq]
 by_cases h1:0≤r.N∧r.N≤16
 ·rw[ifP h1]
  simp only[bsS,Bool.false_eq_true,if_true,if_false,decide_eq_true_eq]
  by_cases h2:(r.Rows.length:Int)=r.N
  ·rw[ifP h2]
   have h3:∀ x,q6I x r=some (!decide (0≤x∧x≤((2 ^ r.N.toNat:Nat):Int)-1)):=fun x=>by
    unfold q6I
    rw[q3U h1.1,q3U (by omega),z3C];rfl
   have h4:∀ (xs:List Int) (i:Nat),∃ z,findL (q5f r) i xs ()=some z∧((xs.any fun x=>!decide (0≤x∧x≤((2 ^ r.N.toNat:Nat):Int)-1))=true→∃ k:Nat,z=.inr (k:Int))∧((xs.any fun x=>!decide (0≤x∧x≤((2 ^ r.N.toNat:Nat):Int)-1))=false→z=.inl ()):=by
    intro xs
    induction xs with
    | nil=>intro i;exact⟨_,rfl,by simp,by simp⟩
    | cons x xs ih=>
     intro i
     simp only[findL,q5f,h3,bsS,List.any_cons]
     by_cases hb:0≤x∧x≤((2 ^ r.N.toNat:Nat):Int)-1
     ·simp only[hb,and_self,decide_true,Bool.not_true,Bool.false_eq_true,if_false,bsS,Bool.false_or]
      exact ih (i+1)
     ·simp only[hb,decide_false,Bool.not_false,if_true,bsS,Bool.true_or]
      exact⟨_,rfl,fun _=>⟨i,rfl⟩,by simp⟩
   unfold q4v q4E
   obtain⟨z,hz,hz1,hz2⟩:=h4 r.Rows 0
   rw[hz,j9B h1.1 h1.2 h2]
   cases ha:(r.Rows.any fun x=>!decide (0≤x∧x≤((2 ^ r.N.toNat:Nat):Int)-1)) with
   | true=>obtain⟨k,rfl⟩:=hz1 ha;simp
   | false=>rw[hz2 ha];simp
  ·rw[ifN h2,decide_eq_false fun hv=>h2 hv.2.2.1];simp only[bsS,Bool.false_eq_true,if_true,if_false,decide_eq_true_eq]
 ·rw[ifN h1,decide_eq_false fun hv=>h1 ⟨hv.1,hv.2.1⟩];simp only[bsS,Bool.false_eq_true,if_true,if_false,decide_eq_true_eq]
theorem z2o (r:Rl_)(i k:Int):q9B r i k=some (decide (hasP r i k)):=by
 unfold q9B
 simp only[q9x,q8R,bsS,decide_eq_true_eq]
 by_cases hv:Valid r
 ·have hv1:=hv.1;have hv2:=hv.2.1;have hv3:=hv.2.2.1
  rw[ifP hv,q3U (by constructor<;>omega)];simp only[bsS,Bool.false_eq_true,if_true,if_false,decide_eq_true_eq]
  by_cases hi:0≤i∧i≤r.N-1
  ·rw[ifP hi,q3U (by constructor<;>omega)];simp only[bsS,Bool.false_eq_true,if_true,if_false,decide_eq_true_eq]
   by_cases hk:0≤k∧k≤r.N-1
   ·obtain⟨x,hx⟩:∃ x,r.Rows[i.toNat]?=some x:=⟨_,List.getElem?_eq_getElem (by omega)⟩
    have hrow:=hv.row (i:=i) hi hx
    rw[ifP hk,q3U hi.1,hx,bsS,q3U hk.1,q3U ⟨hrow.2.1,hk.1,by omega⟩,q3U ⟨Int.natCast_nonneg _,by decide⟩]
    simp only[bsS,Bool.false_eq_true,if_true,if_false,decide_eq_true_eq]
    congr 1
    refine decide_eq_decide.2 ⟨fun hb=>⟨hv,hi,hk,?_⟩,fun hb=>?_⟩
    ·unfold bit;rw[hrow.1];exact k2z hb
    ·have:=hb.2.2.2;unfold bit at this;rw[hrow.1] at this;exact k2A this
   ·rw[ifN hk];simp only[bsS,Bool.false_eq_true,if_true,if_false,decide_eq_true_eq];rw[ decide_eq_false fun h=>hk h.2.2.1]
  ·rw[ifN hi];simp only[bsS,Bool.false_eq_true,if_true,if_false,decide_eq_true_eq];rw[ decide_eq_false fun h=>hi h.2.1]
 ·rw[ifN hv];simp only[bsS,Bool.false_eq_true,if_true,if_false,decide_eq_true_eq];rw[ decide_eq_false fun h=>hv h.1]
theorem z9W (r:Rl_)(i k:Int):z0F r i k=some (decide (hasP r i k)):=by
 rw[← z2o]
 unfold z0F q9B
 simp only[q9x,z6i,q8R,z3C]
theorem j3U:q7F=q8K:=by
 funext r;unfold q7F q8K q5Z
 by_cases h:((([]:List Int).length:Int)+(r.Rows.length:Int))*8≤140737488355328∧(([]:List Int).length:Int)+(r.Rows.length:Int)≤9223372036854775807
 ·rw[q3U h,q3U h];rfl
 ·unfold grd;rw[ifN h,ifN h];rfl
theorem k1B:z0F=q9B:=by
 funext r i k;rw[z9W,z2o]
theorem j2s:z0E=q6R:=by
 funext r i k;unfold z0E q6R;simp only[j3U,q9x,z6i,q8R,z3C]
theorem j1m:q7k=q4W:=by
 funext n;unfold q7k q4W;simp only[q8R,z3C]
theorem z6X {r:Rl_}(h:r.Rows.length≤1048576):q8K r=some r:=by
 unfold q8K;rw[q3U (by simp only[List.length_nil];constructor<;>omega)]
theorem j6B {r:Rl_}(h:r.Rows.length≤1048576)(i k:Int):∃ x,q6R r i k=some x∧x.Rows.length=r.Rows.length:=by
 unfold q6R
 simp only[z6X h,q9x,q8R,bsS,decide_eq_true_eq]
 by_cases hv:Valid r
 ·have hv1:=hv.1;have hv2:=hv.2.1;have hv3:=hv.2.2.1
  rw[ifP hv,q3U (by constructor<;>omega)];simp only[bsS,Bool.false_eq_true,if_true,if_false,decide_eq_true_eq]
  by_cases hi:0≤i∧i≤r.N-1
  ·rw[ifP hi,q3U (by constructor<;>omega)];simp only[bsS,Bool.false_eq_true,if_true,if_false,decide_eq_true_eq]
   by_cases hk:0≤k∧k≤r.N-1
   ·obtain⟨x,hx⟩:∃ x,r.Rows[i.toNat]?=some x:=⟨_,List.getElem?_eq_getElem (by omega)⟩
    have hrow:=hv.row (i:=i) hi hx
    rw[ifP hk,q3U hi.1,hx,bsS,q3U hk.1,q3U ⟨hk.1,by omega⟩,q3U ⟨hrow.2.1,Int.natCast_nonneg _⟩]
    exact⟨_,rfl,by simp⟩
   ·rw[ifN hk];exact⟨_,rfl,rfl⟩
  ·rw[ifN hi];simp only[bsS,Bool.false_eq_true,if_true,if_false,decide_eq_true_eq];exact⟨_,rfl,rfl⟩
 ·rw[ifN hv];simp only[bsS,Bool.false_eq_true,if_true,if_false,decide_eq_true_eq];exact⟨_,rfl,rfl⟩
theorem j7T (n:Nat):∃ x,q4W (n:Int)=some x∧x.Rows.length≤16:=by
 unfold q4W;simp only[q8R,bsS,decide_eq_true_eq]
 by_cases h:0≤(n:Int)∧(n:Int)≤16
 ·rw[ifP h,q3U (by refine⟨by omega,by omega,by omega⟩)];exact⟨_,rfl,by simp;omega⟩
 ·rw[ifN h];exact⟨_,rfl,by simp⟩
theorem j9C {r:Rl_}(h:r.Rows.length≤1048576)(i k:Int):q6R r i k=some (addP r i k):=by
 unfold q6R
 simp only[z6X h,q9x,q8R,bsS,decide_eq_true_eq]
 by_cases hv:Valid r
 ·have hv1:=hv.1;have hv2:=hv.2.1;have hv3:=hv.2.2.1
  rw[ifP hv,q3U (by constructor<;>omega)];simp only[bsS,Bool.false_eq_true,if_true,if_false,decide_eq_true_eq]
  by_cases hi:0≤i∧i≤r.N-1
  ·rw[ifP hi,q3U (by constructor<;>omega)];simp only[bsS,Bool.false_eq_true,if_true,if_false,decide_eq_true_eq]
   by_cases hk:0≤k∧k≤r.N-1
   ·obtain⟨x,hx⟩:∃ x,r.Rows[i.toNat]?=some x:=⟨_,List.getElem?_eq_getElem (by omega)⟩
    have hrow:=hv.row (i:=i) hi hx
    rw[ifP hk,q3U hi.1,hx,bsS,q3U hk.1,q3U ⟨hk.1,by omega⟩,q3U ⟨hrow.2.1,Int.natCast_nonneg _⟩]
    have e:addP r i k=z9V r i (orI (z5O r i) ((2 ^ k.toNat:Nat):Int)):=ifP ⟨hv,hi,hk⟩
    rw[e,hrow.1];rfl
   ·rw[ifN hk]
    have e:addP r i k=r:=ifN fun h=>hk h.2.2
    rw[e]
  ·rw[ifN hi];simp only[bsS,Bool.false_eq_true,if_true,if_false,decide_eq_true_eq]
   have e:addP r i k=r:=ifN fun h=>hi h.2.1
   rw[e]
 ·rw[ifN hv];simp only[bsS,Bool.false_eq_true,if_true,if_false,decide_eq_true_eq]
  have e:addP r i k=r:=ifN fun h=>hv h.1
  rw[e]
theorem k1C {n:Int}(h0:0≤n)(h1:n≤16):q4W n=some ⟨n,List.replicate n.toNat 0⟩:=by
 unfold q4W
 rw[q8R,bsS,ifP (by simp;omega),q3U (by omega)]
theorem j2t (r:Rl_)(i k:Int):(addP r i k).Rows.length=r.Rows.length∧(addP r i k).N=r.N:=by
 unfold addP
 split
 ·exact⟨by simp[z9V],rfl⟩
 ·exact⟨rfl,rfl⟩
theorem j6C (x k:Int):bit x k↔x.toNat.testBit k.toNat=true:=by
 unfold bit
 rw[Nat.testBit_eq_decide_div_mod_eq,Nat.shiftRight_eq_div_pow]
 simp[Nat.and_one_is_mod]
def j7U (k:Nat)(s:List Int):List Int:=s.map fun x=>if x.toNat.testBit k=true then orI x (s.getD k 0) else x
def j1n (s:List Int):Nat→List Int
 | 0=>s
 | m+1=>j7U m (j1n s m)
def z9X (n:Nat)(s:List Int):Prop:=s.length=n∧∀ x∈s,0≤x∧x.toNat<2 ^ n
theorem j7V (x y:Int):0≤orI x y:=by unfold orI;omega
theorem j3V (x y:Int):(orI x y).toNat=x.toNat ||| y.toNat:=by unfold orI;omega
theorem k3y {n:Nat}{s:List Int}(h:z9X n s)(k:Nat):0≤s.getD k 0∧(s.getD k 0).toNat<2 ^ n:=by
 rw[List.getD_eq_getElem?_getD]
 cases hk:s[k]? with
 | none=>simp;exact Nat.two_pow_pos n
 | some x=>exact h.2 x (List.mem_of_getElem? hk)
theorem k1D {n k:Nat}{s:List Int}(h:z9X n s):z9X n (j7U k s):=by
 refine⟨by unfold j7U;rw[lnM];exact h.1,fun x hx=>?_⟩
 unfold j7U at hx
 obtain⟨y,hy,rfl⟩:=List.mem_map.1 hx
 have h1:=h.2 y hy
 split
 ·exact⟨j7V _ _,by rw[j3V];exact Nat.or_lt_two_pow h1.2 (k3y h k).2⟩
 ·exact h1
theorem z5i {n:Nat}{s:List Int}(h:z9X n s):∀ m,z9X n (j1n s m)
 | 0=>h
 | m+1=>k1D (z5i h m)
def Rl (s:List Int)(i j:Nat):Prop:=(s.getD i 0).toNat.testBit j=true
theorem j6D {n k:Nat}{s:List Int}(h:z9X n s)(hk:k<n)(hn:n≤16):eachN (q7I k) 0 n s=some (j7U k s):=by
 have hkk:∃ y,s[k]?=some y:=⟨_,List.getElem?_eq_getElem (by rw[h.1];exact hk)⟩
 obtain⟨y,hy⟩:=hkk
 have ey:s.getD k 0=y:=by rw[List.getD_eq_getElem?_getD,hy];rfl
 let f:Int→Int:=fun x=>if x.toNat.testBit k=true then orI x y else x
 have hf:f y=y:=by
  show (if y.toNat.testBit k=true then orI y y else y)=y
  have:=(h.2 y (List.mem_of_getElem? hy)).1
  split
  ·unfold orI;rw[Nat.or_self];omega
  ·rfl
 obtain⟨s',h1,h2⟩:=z6Q (P:=fun m t=>t=(s.take m).map f++s.drop m) (f:=q7I k) (n:=n) (i:=0) (s:=s) (by simp) (fun m t _ hm ht=>by
  subst ht
  have hms:m<s.length:=by rw[h.1];omega
  obtain⟨x,hx⟩:∃ x,s[m]?=some x:=⟨_,List.getElem?_eq_getElem hms⟩
  have hx0:=h.2 x (List.mem_of_getElem? hx)
  have hy0:=h.2 y (List.mem_of_getElem? hy)
  have g1:((s.take m).map f++s.drop m)[m]?=some x:=by
   rw[List.getElem?_append_right (by simp;omega)]
   simp only[lnM,List.length_take]
   rw[show m-min m s.length=0 by omega,List.getElem?_drop,Nat.add_zero,hx]
  have g2:((s.take m).map f++s.drop m)[k]?=some y:=by
   by_cases hkm:k<m
   ·rw[List.getElem?_append_left (by simp;omega),List.getElem?_map,List.getElem?_take,ifP hkm,hy]
    show some (f y)=_
    rw[hf]
   ·rw[List.getElem?_append_right (by simp;omega)]
    simp only[lnM,List.length_take]
    rw[List.getElem?_drop,show m+(k-min m s.length)=k by omega,hy]
  have hset:(((s.take m).map f++s.drop m).set m (f x))=(s.take (m+1)).map f++s.drop (m+1):=by
   rw[List.set_append_right _ _ (by simp;omega)]
   simp only[lnM,List.length_take]
   rw[show m-min m s.length=0 by omega,List.take_add_one,hx,List.map_append,List.append_assoc]
   congr 1
   rw[List.drop_eq_getElem_cons hms];rfl
  have hno:f x=x→((s.take m).map f++s.drop m)=(s.take (m+1)).map f++s.drop (m+1):=fun e=>by
   rw[← hset,e]
   apply List.ext_getElem?
   intro q
   rw[List.getElem?_set]
   by_cases hq:m=q
   ·subst hq
    rw[ifP rfl,g1]
    split
    ·rfl
    ·rename_i hl;exact absurd (by simp;omega) hl
   ·rw[ifN hq]
  refine⟨_,?_,rfl⟩
  unfold q7I
  rw[g1,bsS,q3U (by refine⟨hx0.1,by omega,by omega⟩),q3U ⟨Int.natCast_nonneg _,by decide⟩]
  by_cases hb:bit x (k:Int)
  ·have hb':=(j6C x k).1 hb
   rw[tnC] at hb'
   rw[ifP (k2A hb),g2,bsS,q3U ⟨hx0.1,hy0.1⟩,bsS,← hset]
   show some (List.set _ m (orI x y))=some (List.set _ m (f x))
   have:f x=orI x y:=ifP hb'
   rw[this]
  ·have hb' : ¬ x.toNat.testBit k=true:=fun h=>hb ((j6C x k).2 (by rw[tnC];exact h))
   rw[ifN (fun h=>hb (k2z h)),bsS,← hno (ifN hb')])
 rw[h1]
 subst h2
 unfold j7U
 rw[Nat.zero_add,List.take_of_length_le (by rw[h.1];exact Nat.le_refl _),List.drop_eq_nil_of_le (by rw[h.1];exact Nat.le_refl _),List.append_nil,ey]
theorem j2u {r:Rl_}(h:Valid r):z9X r.N.toNat r.Rows∧r.N.toNat≤16:=by
 obtain⟨h0,h1,h2,h3⟩:=h
 have:=k1A r.N
 exact⟨⟨by omega,fun x hx=>⟨(h3 x hx).1,by have:=(h3 x hx).2;omega⟩⟩,by omega⟩
def z6Y (r:Rl_):Rl_:=if Valid r then ⟨r.N,j1n r.Rows r.N.toNat⟩ else r
theorem k3z:z3q=q7I:=rfl
theorem j9D {r:Rl_}(h:r.Rows.length≤1048576):q8j r=some (z6Y r):=by
 unfold q8j z6Y
 rw[z6X h,bsS,q9x,bsS]
 by_cases hv:Valid r
 ·rw[ifP (by simpa using hv),ifP hv]
  obtain⟨hok,hn⟩:=j2u hv
  obtain⟨t,h1,h2⟩:=z6Q (P:=fun m t=>t=j1n r.Rows m) (f:=z0J r) (n:=r.N.toNat) (i:=0) (s:=r.Rows) rfl (fun k s _ hk hs=>by
   subst hs
   refine⟨_,?_,rfl⟩
   unfold z0J
   rw[j6D (z5i hok k) (by omega) hn];rfl)
  rw[h1,bsS,h2,Nat.zero_add]
 ·rw[ifN (by simpa using hv),ifN hv]
theorem j9E {r:Rl_}(h:r.Rows.length≤1048576):q8h r=some (z6Y r):=by
 unfold q8h z6Y
 rw[j3U,z6X h,bsS,z6i,bsS]
 by_cases hv:Valid r
 ·rw[ifP (by simpa using hv),ifP hv]
  obtain⟨hok,hn⟩:=j2u hv
  obtain⟨t,h1,h2⟩:=z6Q (P:=fun m t=>t=j1n r.Rows m) (f:=z0G) (n:=r.Rows.length) (i:=0) (s:=r.Rows) rfl (fun k s _ hk hs=>by
   subst hs
   refine⟨_,?_,rfl⟩
   unfold z0G
   have hl:=(z5i hok k).1
   rw[hl,k3z,j6D (z5i hok k) (by rw[hok.1] at hk;omega) hn];rfl)
  rw[h1,bsS,h2,Nat.zero_add,hok.1]
 ·rw[ifN (by simpa using hv),ifN hv]
theorem j7W (r:Rl_):(z6Y r).Rows.length=r.Rows.length∧(z6Y r).N=r.N:=by
 unfold z6Y
 by_cases hv:Valid r
 ·rw[ifP hv]
  obtain⟨hok,_⟩:=j2u hv
  exact⟨by show (j1n r.Rows r.N.toNat).length=_;rw[(z5i hok _).1,hok.1],rfl⟩
 ·rw[ifN hv];exact⟨rfl,rfl⟩
theorem z0R {α ρ:Type}{p:α→Bool}{r:α→ρ}:∀ {xs:List α} {i:Nat} {f:Nat→α→Unit→Option (Unit ⊕ ρ)},(∀ k x,x∈xs→(p x=true→f k x ()=some (.inr (r x)))∧(p x=false→f k x ()=some (.inl ()))) →
  findL f i xs ()=some (match xs.find? p with|some x=>.inr (r x)|none=>.inl ())
 | [],_,_,_=>rfl
 | x::xs,i,f,h=>by
  have h0:=h i x (by simp)
  cases hp:p x with
  | true=>simp[findL,h0.1 hp,List.find?,hp]
  | false=>
   have ih:=z0R (p:=p) (r:=r) (xs:=xs) (i:=i+1) (f:=f) fun k y hy=>h k y (by simp[hy])
   simp[findL,h0.2 hp,List.find?,hp,ih]
theorem q9D {α β:Type}{p:α→Bool}{g:Nat→α→β}{B:Nat}{f:Nat→α→List β→Option (List β)}(hf:∀ k x s,s.length<B→f k x s=some (if p x=true then s++[g k x] else s)):∀ (xs:List α) (i:Nat) (s:List β),s.length+xs.length≤B →
  ∃ ys,eachL f i xs s=some (s++ys)∧ys.length≤xs.length
 | [],i,s,_=>⟨[],by simp[eachL],by simp⟩
 | x::xs,i,s,h=>by
  simp only[lnC] at h
  by_cases hp:p x=true
  ·obtain⟨ys,h1,h2⟩:=q9D hf xs (i+1) (s++[g i x]) (by simp;omega)
   exact⟨g i x::ys,by simp[eachL,hf i x s (by omega),hp,h1],by simp;omega⟩
  ·obtain⟨ys,h1,h2⟩:=q9D hf xs (i+1) s (by omega)
   exact⟨ys,by simp[eachL,hf i x s (by omega),hp,h1],by simp;omega⟩
theorem z5j (x lo hi:Int):q5z x lo hi=some (decide (lo≤x∧x≤hi)):=by
 unfold q5z;split<;>simp_all<;>omega
theorem z8f (x lo hi:Int):q4n x lo hi=some (decide (lo≤x∧x≤hi)):=by
 unfold q4n;split<;>simp_all<;>omega
theorem z7I (r:Rule)(k:Int):q6Y r k=q5A r k:=by
 unfold q6Y q5A;rw[z5j,z8f]
def z7J (a:At_):Bool:=decide (a.Mode=1∨a.Mode=2)
theorem j1o:z2c=q5M:=rfl
theorem z5K:q5c=q5N:=rfl
theorem j9F {g:Gm_}(h:∀ y∈g.Symbols,y.Attributes.length≤1048576)(s:ByteArray):∃ y b,q5n g s=some (y,b)∧q5H g s=some (y,b)∧y.Attributes.length≤1048576:=by
 have h1:=z0R (p:=fun y:Symbol=>decide (y.Name=s)) (r:=fun y=>(y,true)) (xs:=g.Symbols) (i:=0) (f:=q8X s) fun k y hy=>by
  have hg:q8z y=some y:=by
   unfold q8z;have:=h y hy;rw[q3U (by simp only[List.length_nil];constructor<;>omega)]
  unfold q8X;rw[hg];constructor<;>intro hp<;>simp_all
 have h2:=z0R (p:=fun y:Symbol=>decide (y.Name=s)) (r:=fun y=>(y,true)) (xs:=g.Symbols) (i:=0) (f:=q9d s) fun k y hy=>by
  unfold q9d;constructor<;>intro hp<;>simp_all
 unfold q5n q5H
 rw[h1,h2]
 cases hf:g.Symbols.find? (fun y:Symbol=>decide (y.Name=s)) with
 | none=>exact⟨_,_,rfl,rfl,by simp⟩
 | some y=>exact⟨_,_,rfl,rfl,h y (List.mem_of_find?_eq_some hf)⟩
theorem z3D {g:Gm_}(h:∀ y∈g.Symbols,y.Attributes.length≤1048576)(s:ByteArray):∃ l,q5B g s=some l∧q4Q g s=some l∧l.length≤1048576:=by
 obtain⟨y,b,h1,h2,h3⟩:=j9F h s
 obtain⟨l,h4,h5⟩:=q9D (p:=z7J) (g:=fun _ x=>x) (B:=1048577) (f:=q5M) (fun k x s hs=>by
  have hg:((s.length:Int)+1)*40≤140737488355328∧(s.length:Int)+1≤9223372036854775807:=by constructor<;>omega
  unfold q5M z7J
  rw[q3U hg]
  by_cases m1:x.Mode=1
  ·rw[ifP m1,ifP (by simp[m1])];rfl
  ·rw[ifN m1]
   by_cases m2:x.Mode=2
   ·rw[ifP m2,ifP (by simp[m2])];rfl
   ·rw[ifN m2,ifN (by simp[m1,m2])];rfl) y.Attributes 0 [] (by simp;omega)
 simp only[List.nil_append] at h4
 refine⟨l,?_,?_,by omega⟩
 ·unfold q5B;rw[h1];dsimp only[bsS];rw[h4];rfl
 ·unfold q4Q;rw[h2];dsimp only[bsS];rw[j1o,h4];rfl
theorem j1p (r:Rule)(k:Nat)(hk:k≤r.Right.length)(hl:r.Right.length≤1048576):∃ x,q5A r (k:Int)=some x:=by
 unfold q5A
 by_cases h0:(k:Int)=0
 ·exact⟨_,ifP h0⟩
 ·rw[ifN h0,z5j,bsS,ifP (by simp;omega),q3U (by constructor<;>omega),q3U (by omega)]
  obtain⟨x,hx⟩:∃ x,r.Right[((k:Int)-1).toNat]?=some x:=⟨_,List.getElem?_eq_getElem (by omega)⟩
  exact⟨x,by rw[hx];rfl⟩
theorem j9G (k:Nat)(B:Nat)(hB:B≤4398046511104):∀ (l:List At_) (i:Nat) (s:List Oc),s.length+l.length≤B→∃ ys,eachL (q5S k) i l s=some (s++ys)∧ys.length≤l.length:=fun l i s h=>
 q9D (p:=fun _=>true) (g:=fun _ x=>(⟨(k:Int),x.Name⟩:Oc)) (B:=B) (f:=q5S k) (fun j x s hs=>by
  have hg:((s.length:Int)+1)*24≤140737488355328∧(s.length:Int)+1≤9223372036854775807:=by constructor<;>omega
  unfold q5S
  rw[q3U hg,ifP rfl]) l i s h
theorem j6E (k:Nat):z3v (k:Int)=q5S k:=rfl
theorem z8H {g:Gm_}{r:Rule}(h:∀ y∈g.Symbols,y.Attributes.length≤1048576)(hr:r.Right.length≤1048576):∃ l,q5J g r=some l∧q5e g r=some l∧l.length≤1099512676352:=by
 have key:∀ m k (s:List Oc),k+m=r.Right.length+1→s.length≤k*1048576→∃ l,eachN (q4A g r) k m s=some l∧q5w (q5i g r) (s,(k:Int))=some l∧l.length≤(k+m)*1048576:=by
  intro m
  induction m with
  | zero=>
   intro k s hk hs
   refine⟨s,rfl,q4g ?_,by simpa using hs⟩
   unfold q5i;dsimp only;rw[ifN (by omega)]
  | succ m ih=>
   intro k s hk hs
   obtain⟨x,hx⟩:=j1p r k (by omega) hr
   obtain⟨p,hp1,hp2,hp3⟩:=z3D h x
   obtain⟨ys,hy1,hy2⟩:=j9G k 4398046511104 (by omega) p 0 s (by omega)
   obtain⟨l,h1,h2,h3⟩:=ih (k+1) (s++ys) (by omega) (by simp;omega)
   refine⟨l,?_,?_,by rw[show k+(m+1)=k+1+m by omega];exact h3⟩
   ·have e:q4A g r k s=some (s++ys):=by
     unfold q4A;rw[z7I,hx,bsS,hp2,bsS,hy1];rfl
    simp only[eachN,e,bsS];exact h1
   ·have e:q5i g r (s,(k:Int))=some (.inl (s++ys,((k+1:Nat):Int))):=by
     unfold q5i;dsimp only
     rw[ifP (by omega),hx,bsS,hp1,bsS,j6E,hy1,bsS,q3U (by constructor<;>omega)];rfl
    rw[q4X e];exact h2
 obtain⟨l,h1,h2,h3⟩:=key (r.Right.length+1) 0 [] (by omega) (by simp)
 refine⟨l,?_,?_,by omega⟩
 ·unfold q5J
  have e:q5w (q5i g r) (([]:List Oc),0)=some l:=h2
  rw[e];rfl
 ·unfold q5e
  rw[q3U (by constructor<;>omega),h1];rfl
theorem k1E {g:Gm_}{r:Rule}(k:Int)(h:∀ y∈g.Symbols,y.Attributes.length≤1048576)(hr:r.Right.length≤1048576):∃ l,q6c g r k=some l∧q5b g r k=some l∧l.length≤1099512676352:=by
 obtain⟨o,h1,h2,h3⟩:=z8H h hr
 obtain⟨l,h4,h5⟩:=q9D (p:=fun x:Oc=>decide (x.Pos=k)) (g:=fun i _=>((i:Nat):Int)) (B:=4398046511104) (f:=q5N k) (fun i x s hs=>by
  have hg:((s.length:Int)+1)*8≤140737488355328∧(s.length:Int)+1≤9223372036854775807:=by constructor<;>omega
  unfold q5N
  rw[q3U hg]
  by_cases m1:x.Pos=k
  ·rw[ifP m1,ifP (by simp[m1])];rfl
  ·rw[ifN m1,ifN (by simp[m1])];rfl) o 0 [] (by simp;omega)
 simp only[List.nil_append] at h4
 refine⟨l,?_,?_,by omega⟩
 ·unfold q6c;rw[h1];dsimp only[bsS];rw[h4];rfl
 ·unfold q5b;rw[h2];dsimp only[bsS];rw[z5K,h4];rfl
theorem j2v {α:Type}[Sz α]{x:α}:∀ {l:List α},x∈l→Sz.szd x≤szL l
 | [],h=>by simp at h
 | y::l,h=>by
  rcases List.mem_cons.1 h with rfl|h
  ·simp only[szL];omega
  ·have:=j2v h;simp only[szL];omega
theorem z2V {g:Gm_}(h:Sz.szd g≤1048576):∀ y∈g.Symbols,y.Attributes.length≤1048576:=fun y hy=>by
 have h1:=j2v hy
 have h2:=j1e y
 have h3:=z4a g
 have h4:=q7g y.Attributes
 omega
theorem q8v {r:Rule}(h:Sz.szd r≤1048576):r.Right.length≤1048576:=by
 have h1:=z6R r
 have h2:=q7g r.Right
 omega
theorem z8g {α σ:Type}{f:Nat→α→σ→Option σ}:∀ (xs ys:List α) (i:Nat) (s:σ),eachL f i (xs++ys) s=(eachL f i xs s).bind fun t=>eachL f (i+xs.length) ys t
 | [],ys,i,s=>rfl
 | x::xs,ys,i,s=>by
  simp only[List.cons_append,eachL]
  cases f i x s with
  | none=>rfl
  | some t=>simp only[bsS];rw[z8g xs ys (i+1) t,lnC,show i+1+xs.length=i+(xs.length+1) by omega]
theorem z5k (k:Nat):∀ (l:List At_) (i:Nat) (s:List Oc),s.length+l.length≤4398046511104→eachL (q5S k) i l s=some (s++l.map fun x=>(⟨(k:Int),x.Name⟩:Oc))
 | [],i,s,_=>by simp[eachL]
 | x::l,i,s,h=>by
  simp only[lnC] at h
  have hg:((s.length:Int)+1)*24≤140737488355328∧(s.length:Int)+1≤9223372036854775807:=by constructor<;>omega
  have e:q5S k i x s=some (s++[(⟨(k:Int),x.Name⟩:Oc)]):=by unfold q5S;rw[q3U hg]
  simp only[eachL,e,bsS]
  rw[z5k k l (i+1) _ (by simp;omega)];simp
theorem k3A {g:Gm_}{r:Rule}(h:∀ y∈g.Symbols,y.Attributes.length≤1048576)(hr:r.Right.length≤1048576){l:List At_}{o:List Oc}(hl:q4Q g r.Left=some l)(ho:q5e g r=some o) :
  ∃ ys,o=(l.map fun x=>(⟨0,x.Name⟩:Oc))++ys:=by
 have key:∀ m k (s:List Oc),k+m=r.Right.length+1→s.length≤k*1048576→∀ q,eachN (q4A g r) k m s=some q→∃ ys,q=s++ys:=by
  intro m
  induction m with
  | zero=>intro k s _ _ q hq;cases hq;exact⟨[],by simp⟩
  | succ m ih=>
   intro k s hk hs q hq
   obtain⟨x,hx⟩:=j1p r k (by omega) hr
   obtain⟨p,hp1,hp2,hp3⟩:=z3D h x
   have hy:=z5k k p 0 s (by omega)
   have e:q4A g r k s=some (s++p.map fun x=>(⟨(k:Int),x.Name⟩:Oc)):=by
    unfold q4A;rw[z7I,hx,bsS,hp2,bsS,hy];rfl
   simp only[eachN,e,bsS] at hq
   obtain⟨ys,hys⟩:=ih (k+1) _ (by omega) (by simp;omega) q hq
   exact⟨_,by rw[hys,List.append_assoc]⟩
 unfold q5e at ho
 rw[q3U (by constructor<;>omega)] at ho
 have e1:eachN (q4A g r) 0 (r.Right.length+1) []=some o:=by
  cases hq:eachN (q4A g r) 0 (r.Right.length+1) [] with
  | none=>rw[hq] at ho;cases ho
  | some q=>rw[hq] at ho;exact ho
 have hl3:l.length≤1048576:=by
  obtain⟨p,_,h2,h3⟩:=z3D h r.Left
  rw[hl] at h2;cases h2;exact h3
 have hx:q6Y r ((0:Nat):Int)=some r.Left:=by unfold q6Y;exact ifP rfl
 have e:q4A g r 0 []=some ([]++l.map fun x=>(⟨((0:Nat):Int),x.Name⟩:Oc)):=by
  unfold q4A;rw[hx,bsS,hl,bsS,z5k 0 l 0 [] (by simp;omega)];rfl
 simp only[eachN,e,bsS] at e1
 obtain⟨ys,hys⟩:=key r.Right.length 1 _ (by omega) (by simp;omega) o e1
 exact⟨ys,by simpa using hys⟩
theorem j9H:∀ (xs:List Oc) (i:Nat) (s:List Int),s.length+xs.length≤4398046511104→(∀ x∈xs,x.Pos=0)→eachL (q5c 0) i xs s=some (s++(List.range' i xs.length).map fun (j:Nat)=>(j:Int))
 | [],i,s,_,_=>by simp[eachL]
 | x::xs,i,s,h,h0=>by
  simp only[lnC] at h
  have hg:((s.length:Int)+1)*8≤140737488355328∧(s.length:Int)+1≤9223372036854775807:=by constructor<;>omega
  have e:q5c 0 i x s=some (s++[(i:Int)]):=by
   unfold q5c;rw[ifP (h0 x (by simp)),q3U hg];rfl
  simp only[eachL,e,bsS]
  rw[j9H xs (i+1) _ (by simp;omega) fun y hy=>h0 y (by simp[hy])]
  simp[List.range'_succ]
theorem k3B {g:Gm_}{r:Rule}(h:∀ y∈g.Symbols,y.Attributes.length≤1048576)(hr:r.Right.length≤1048576){l:List At_}{y:List Int}(hl:q4Q g r.Left=some l)(hy:q5b g r 0=some y):∀ k:Nat,k<l.length→y[k]?=some (k:Int):=by
 obtain⟨o,_,ho,ho3⟩:=z8H h hr
 obtain⟨ys,hys⟩:=k3A h hr hl ho
 have hl3:l.length≤1048576:=by
  obtain⟨p,_,h2,h3⟩:=z3D h r.Left
  rw[hl] at h2;cases h2;exact h3
 unfold q5b at hy
 rw[ho,bsS] at hy
 have hy' : eachL (q5c 0) 0 o []=some y:=by
  cases hq:eachL (q5c 0) 0 o [] with
  | none=>rw[hq] at hy;cases hy
  | some q=>rw[hq] at hy;exact hy
 have hlen:=congrArg List.length hys
 simp only[List.length_append,lnM] at hlen
 rw[hys,z8g,j9H _ 0 [] (by simp;omega) (by intro x hx;obtain⟨a,_,rfl⟩:=List.mem_map.1 hx;rfl),bsS] at hy'
 obtain⟨zs,h4,h5⟩:=q9D (p:=fun x:Oc=>decide (x.Pos=0)) (g:=fun i _=>((i:Nat):Int)) (B:=4398046511104) (f:=q5c 0) (fun i x s hs=>by
  have hg:((s.length:Int)+1)*8≤140737488355328∧(s.length:Int)+1≤9223372036854775807:=by constructor<;>omega
  unfold q5c
  rw[q3U hg]
  by_cases m1:x.Pos=0
  ·rw[ifP m1,ifP (by simp[m1])];rfl
  ·rw[ifN m1,ifN (by simp[m1])];rfl) ys (0+(l.map fun x=>(⟨0,x.Name⟩:Oc)).length) ([]++(List.range' 0 (l.map fun x=>(⟨0,x.Name⟩:Oc)).length).map fun (j:Nat)=>(j:Int)) (by simp;omega)
 rw[h4] at hy'
 cases hy'
 intro k hk
 rw[List.getElem?_append_left (by simpa using hk)]
 simp[hk]
theorem z7K {α σ:Type}{P:σ→Prop}{f g:Nat→α→σ→Option σ}:∀ (xs:List α) (i:Nat) (s:σ),P s→(∀ k x s,k<i+xs.length→x∈xs→P s→∃ s',f k x s=some s'∧g k x s=some s'∧P s')→∃ s',eachL f i xs s=some s'∧eachL g i xs s=some s'∧P s'
 | [],i,s,hs,_=>⟨s,rfl,rfl,hs⟩
 | x::xs,i,s,hs,h=>by
  obtain⟨t,h1,h2,h3⟩:=h i x s (by simp) (by simp) hs
  obtain⟨u,h4,h5,h6⟩:=z7K xs (i+1) t h3 fun k y s hk hy=>h k y s (by simp;omega) (by simp[hy])
  exact⟨u,by simp only[eachL,h1,bsS,h4],by simp only[eachL,h2,bsS,h5],h6⟩
theorem j3W {g:Gm_}{r:Rule}{c:Rl_}(h:∀ y∈g.Symbols,y.Attributes.length≤1048576)(hr:r.Right.length≤1048576):∃ x,q7r g r c=some x∧q9A g r c=some x∧x.Rows.length≤16:=by
 obtain⟨l,l1,l2,l3⟩:=z3D h r.Left
 obtain⟨y,_,y2,_⟩:=k1E 0 h hr
 have hy:=k3B h hr l2 y2
 obtain⟨e,e1,e2⟩:=j7T l.length
 have step:∀ k1 x1,k1<l.length→∀ k2 x2 s,k2<l.length→s.1.length≤16→∃ s',q8L c k1 x1 k2 x2 s=some s'∧z1C c y k1 x1 k2 x2 s=some s'∧s'.1.length≤16:=by
  intro k1 x1 hk1 k2 x2 ⟨s3,s4⟩ hk2 hs
  dsimp only at hs
  obtain⟨z,z1,z2⟩:=j6B (r:=⟨s4,s3⟩) (by show s3.length≤_;omega) (k1:Int) (k2:Int)
  unfold q8L z1C
  rw[k1B,j2s,hy k1 hk1,hy k2 hk2]
  simp only[bsS,z2o,z1,decide_eq_true_eq]
  by_cases m1:x1.Mode=1
  ·by_cases m2:x2.Mode=2
   ·by_cases m3:hasP c (k1:Int) (k2:Int)
    ·simp only[m1,m2,m3,if_true,decide_true,bsS];exact⟨_,rfl,rfl,by rw[z2];exact hs⟩
    ·simp only[m1,m2,m3,if_true,if_false,decide_true,decide_false,bsS];exact⟨_,rfl,rfl,hs⟩
   ·simp[m1,m2,hs]
  ·simp[m1,hs]
 obtain⟨⟨s1,s2⟩,h1,h2,h3⟩:=z7K (P:=fun s:List Int×Int=>s.1.length≤16) (f:=z0n c l) (g:=z3U c l y) l 0 (e.Rows,e.N) e2 fun k x s hk _ hs=>by
  obtain⟨s',t1,t2,t3⟩:=z7K (P:=fun s:List Int×Int=>s.1.length≤16) (f:=q8L c k x) (g:=z1C c y k x) l 0 s hs fun k2 x2 s hk2 _ hs=>step k x (by omega) k2 x2 s (by omega) hs
  obtain⟨s3,s4⟩:=s
  exact⟨s',by unfold z0n;dsimp only;rw[t1];rfl,by unfold z3U;dsimp only;rw[t2];rfl,t3⟩
 refine⟨⟨s2,s1⟩,?_,?_,h3⟩
 ·unfold q7r;rw[l1,bsS,e1,bsS,h1];rfl
 ·unfold q9A;rw[l2,bsS,y2,bsS,j1m,e1,bsS,h2];rfl
theorem k3C:∀ (n:Nat) (e q:Expr),q7b n e=some q→q7b (n+1) e=some q:=by
 intro n
 induction n with
 | zero=>intro e q h;cases h
 | succ n ih=>
  intro e q h
  have h' : z0d (q7b n) e=some q:=h
  show z0d (q7b (n+1)) e=some q
  unfold z0d at h' ⊢
  obtain⟨s,h1,h2⟩:=bd h'
  rw[z7G (g:=z1M (q7b (n+1))) (fun k x s q hq=>by
   unfold z1M at hq ⊢
   obtain⟨y,h3,h4⟩:=bd hq
   rw[ih _ _ h3,bsS];exact h4) _ _ _ _ h1]
  exact h2
theorem j7X:∀ (m:Nat) (e:Expr),fuE e≤m→Sz.szd e≤1048576→q7b m e=some e:=by
 intro m
 induction m with
 | zero=>intro e h;rw[z8e] at h;omega
 | succ m ih=>
  intro e h hs
  rw[z8e] at h
  have hl:∀ (l:List Expr) (i:Nat) (s:List Expr),(∀ x∈l,fuE x≤m∧Sz.szd x≤1048576)→s.length+l.length≤4398046511→eachL (z1M (q7b m)) i l s=some (s++l):=by
   intro l
   induction l with
   | nil=>intro i s _ _;simp[eachL]
   | cons x l ihl=>
    intro i s hx hb
    simp only[lnC] at hb
    have h1:=ih x (hx x (by simp)).1 (hx x (by simp)).2
    have e1:z1M (q7b m) i x s=some (s++[x]):=by
     unfold z1M;rw[h1,bsS,q3U (by constructor<;>omega)]
    simp only[eachL,e1,bsS]
    rw[ihl _ _ (fun y hy=>hx y (by simp[hy])) (by simp;omega)];simp
  show z0d (q7b m) e=some e
  unfold z0d
  have h2:=q6u e
  have h3:=q7g e.Args
  rw[hl e.Args 0 [] (fun x hx=>⟨by have:=j2j hx;omega,by have:=k2w hx;omega⟩) (by simp;omega),List.nil_append,bsS]
  cases e;rfl
theorem k3D {e:Expr}(h:Sz.szd e≤1048576):z6J e=some e:=j9t (fun n q=>k3C n e q) (j7X _ e (Nat.le_refl _) h)
theorem j7Y:z5V=z6J:=by
 have h:∀ n,z0D n=q7b n:=by
  intro n
  induction n with
  | zero=>rfl
  | succ n ih=>funext e;show z3T (z0D n) e=z0d (q7b n) e;rw[ih];rfl
 funext e
 show recO (fun n=>z0D n e)=recO fun n=>q7b n e
 congr 1;funext n;rw[h]
def j5w:Expr:=⟨0,0,0,0,⟨#[]⟩,⟨#[]⟩,[]⟩
def eqAt (r:Rule)(o:Oc):Expr×Bool:=match r.Equations.find? fun q=>decide (q.At=o) with
 | some q=>(q.Expr,true)
 | none=>(j5w,false)
theorem z6j {r:Rule}{q:Eqn}(h:q∈r.Equations):Sz.szd q.Expr≤Sz.szd r:=by
 have h1:=z6R r
 have h2:=z8d q
 have h3:=z6U h
 have h4:=q6u q.Expr
 omega
theorem k3E {r:Rule}(h:Sz.szd r≤1048576)(o:Oc):Sz.szd (eqAt r o).1≤1048576:=by
 unfold eqAt
 cases hf:r.Equations.find? (fun q=>decide (q.At=o)) with
 | none=>show Sz.szd j5w≤_;have:Sz.szd j5w=0:=rfl;omega
 | some q=>have:=z6j (List.mem_of_find?_eq_some hf);show Sz.szd q.Expr≤_;omega
theorem j2w {r:Rule}(h:Sz.szd r≤1048576)(o:Oc):q5D r o=some (eqAt r o):=by
 have key:∀ (l:List Eqn) (i:Nat),(∀ q∈l,Sz.szd q.Expr≤1048576)→findL (q7m o) i l ()=some (match l.find? fun q=>decide (q.At=o) with
   | some q=>.inr (q.Expr,true)
   | none=>.inl ()):=by
  intro l
  induction l with
  | nil=>intro i _;rfl
  | cons q l ih=>
   intro i hq
   by_cases hp:q.At=o
   ·simp[findL,q7m,hp,k3D (hq q (by simp))]
   ·simp[findL,q7m,hp]
    exact ih _ fun y hy=>hq y (by simp[hy])
 unfold q5D eqAt
 rw[key _ _ fun q hq=>by have:=z6j hq;omega]
 cases r.Equations.find? (fun q=>decide (q.At=o))<;>rfl
theorem k3F {r:Rule}(h:Sz.szd r≤1048576)(o:Oc):q5D r o=some (eqAt r o)∧q7E r o=some (eqAt r o):=by
 have e:q7E=q5D:=by
  have e1:z1r=q7m:=by funext a k x u;unfold z1r q7m;rw[j7Y]
  funext r o;unfold q7E q5D;rw[e1]
 rw[e]
 exact⟨j2w h o,j2w h o⟩
theorem j7Z:q7q=q5Y:=by
 funext l o
 unfold q7q q5Y q4z
 have e:q9r o=q4M o:=by
  funext k x u
  unfold q9r q4M
  by_cases h:x=o
  ·rw[ifP h,ifP h.symm]
  ·rw[ifN h,ifN fun e=>h e.symm]
 rw[e]
 cases ((findL (q4M o) 0 l ()).bind <| onr (fun r1=>some r1) fun _=>some (-1))<;>rfl
theorem j8a (l:List Oc)(o:Oc):∃ k,q5Y l o=some k:=by
 have h:q4z l o=some (ixF l o):=by
  unfold q4z
  refine j9e fun k x=>⟨fun e=>?_,fun e=>?_⟩
  ·unfold q4M;rw[ifP e.symm]
  ·unfold q4M;rw[ifN (fun h=>e h.symm)]
 exact⟨_,by unfold q5Y;rw[h];rfl⟩
theorem k5b {r x:Rl_}{i k:Int}(h:q6R r i k=some x):x.N=r.N:=by
 unfold q6R at h
 obtain⟨y,h1,h⟩:=bd h
 have hy:y=r:=by unfold q8K at h1;obtain⟨_,h1⟩:=z3K h1;exact (Option.some.inj h1).symm
 subst hy
 obtain⟨y2,_,h⟩:=bd h
 obtain⟨s1,_,h⟩:=bd h
 obtain⟨s2,_,h⟩:=bd h
 by_cases hs:s2=true
 ·rw[ifP hs] at h
  obtain⟨_,h⟩:=z3K h
  obtain⟨_,_,h⟩:=bd h
  obtain⟨_,h⟩:=z3K h
  obtain⟨_,h⟩:=z3K h
  obtain⟨_,h⟩:=z3K h
  cases h;rfl
 ·rw[ifN hs] at h
  cases h;rfl
theorem k1F (l:List Oc)(k:Nat):∀ (us:List Oc) (i:Nat) (rows:List Int) (n:Int),rows.length≤1048576 →
  ∃ rows',eachL (q8G l k) i us (rows,n)=some (rows',n)∧eachL (q7H l (k:Int)) i us (rows,n)=some (rows',n)∧rows'.length=rows.length:=by
 intro us
 induction us with
 | nil=>intro i rows n _;exact⟨rows,rfl,rfl,rfl⟩
 | cons u us ih=>
  intro i rows n h
  obtain⟨j,hj⟩:=j8a l u
  obtain⟨x,hx,hxl⟩:=j6B (r:=⟨n,rows⟩) h j (k:Int)
  have hN:=k5b hx
  obtain⟨rows',h1,h2,h3⟩:=ih (i+1) x.Rows n (by rw[hxl];exact h)
  have e1:q8G l k i u (rows,n)=some (x.Rows,n):=by
   unfold q8G
   dsimp only
   rw[hj,bsS,j2s,hx,bsS,hN]
  have e2:q7H l (k:Int) i u (rows,n)=some (x.Rows,n):=by
   unfold q7H
   dsimp only
   rw[j7Z,hj,bsS,hx,bsS,hN]
  exact⟨rows',by simp only[eachL,e1,bsS];exact h1,by simp only[eachL,e2,bsS];exact h2,h3.trans hxl⟩
theorem j8b:attrs j5w=[]:=by
 have:z4b j5w=[]:=by simp[j5w,z4b,z0s]
 unfold attrs j3u
 rw[this];simp[q5h]
theorem j9I {r:Rule}(hr:Sz.szd r≤1048576)(l:List Oc)(hl:l.length≤16):∀ (m k:Nat) (rows:List Int) (n:Int),k+m=l.length→0<n→rows.length≤1048576 →
  ∃ rows',eachL (q8H r l) k (l.drop k) (rows,n)=some (rows',n)∧q5w (q5j r l) ((k:Int),rows,n)=some (rows',n)∧rows'.length=rows.length:=by
 intro m
 induction m with
 | zero=>
  intro k rows n hk hn h
  refine⟨rows,by rw[List.drop_eq_nil_of_le (by omega)];rfl,q4g ?_,rfl⟩
  unfold q5j
  dsimp only
  rw[ifN (by omega)]
 | succ m ih=>
  intro k rows n hk hn h
  obtain⟨x,hx⟩:∃ x,l[k]?=some x:=⟨_,List.getElem?_eq_getElem (by omega)⟩
  have hd:l.drop k=x::l.drop (k+1):=by
   rw[List.drop_eq_getElem_cons (by omega)]
   have:l[k]=x:=by rw[List.getElem?_eq_getElem (by omega)] at hx;exact Option.some.inj hx
   rw[this]
  obtain⟨E,B,hq⟩:∃ E B,eqAt r x=(E,B):=⟨_,_,rfl⟩
  obtain⟨rows1,h1,h2,h3⟩:=k1F l k (attrs E) 0 rows n h
  obtain⟨rows',k1,k2,k3⟩:=ih (k+1) rows1 n (by omega) hn (by omega)
  have hsz:=k3E hr x
  have hf:=k3F hr x
  rw[hq] at hsz hf
  have e1:q8H r l k x (rows,n)=some (rows1,n):=by
   unfold q8H
   dsimp only
   rw[hf.2,bsS]
   dsimp only
   rw[j6w hsz,bsS,h1];rfl
  have hin:(grd (0≤(k:Int)) <| (l[(k:Int).toNat]?).bind fun x1=>(q5D r x1).bind fun (y3,y4)=>if y4=true then ((q6z y3).bind fun y5=>(eachL (q7H l (k:Int)) 0 y5 (rows,n)).bind fun (s8,s9)=>some (s8,s9)) else some (rows,n))=some (rows1,n):=by
   rw[q3U (by omega),tnC,hx,bsS,hf.1,bsS]
   dsimp only
   cases hb:B with
   | true=>rw[ifP rfl,j6z hsz,bsS,h2,bsS]
   | false=>
    have hz:E=j5w:=by
     unfold eqAt at hq
     cases hf:r.Equations.find? (fun q=>decide (q.At=x)) with
     | none=>rw[hf] at hq;cases hq;rfl
     | some q=>rw[hf] at hq;cases hq;cases hb
    rw[hz,j8b] at h1
    simp only[eachL,Option.some.injEq,Prod.mk.injEq] at h1
    rw[ifN (by simp),h1.1]
  have e2:q5j r l ((k:Int),rows,n)=some (.inl (((k+1:Nat):Int),rows1,n)):=by
   unfold q5j
   dsimp only
   rw[ifP (by omega),ifP hn,hin,bsS]
   dsimp only
   rw[q3U (by constructor<;>omega)];rfl
  exact⟨rows',by rw[hd];simp only[eachL,e1,bsS];exact k1,by rw[q4X e2];exact k2,k3.trans h3⟩
theorem j8c {g:Gm_}{r:Rule}(h:Sz.szd g≤1048576)(hr:Sz.szd r≤1048576):∃ x,q6A g r=some x∧q7l g r=some x∧x.Rows.length≤16:=by
 obtain⟨l,h1,h2,_⟩:=z8H (z2V h) (q8v hr)
 have hem:∀ n:Nat,q4W (n:Int)=if n≤16 then some ⟨(n:Int),List.replicate n 0⟩ else some ⟨0,[]⟩:=fun n=>by
  unfold q4W
  rw[q8R,bsS]
  by_cases hn:n≤16
  ·rw[ifP (by simp;omega),q3U (by omega),ifP hn];rfl
  ·rw[ifN (by simp;omega),ifN hn]
 unfold q6A q7l
 rw[h1,h2,bsS,bsS,j1m,hem]
 by_cases hl:l.length≤16
 ·rw[ifP hl,bsS,bsS,ifN (by omega)]
  dsimp only
  by_cases h0:l.length=0
  ·have:l=[]:=List.eq_nil_of_length_eq_zero h0
   subst this
   have e:q5w (q5j r ([]:List Oc)) (0,List.replicate ([]:List Oc).length 0,((([]:List Oc).length:Nat):Int))=some (List.replicate ([]:List Oc).length 0,((([]:List Oc).length:Nat):Int)):=q4g (by unfold q5j;dsimp only;rw[ifN (by simp)])
   rw[e]
   exact⟨_,rfl,rfl,by simp⟩
  ·obtain⟨rows',k1,k2,k3⟩:=j9I hr l hl l.length 0 (List.replicate l.length 0) (l.length:Int) (by omega) (by omega) (by simp;omega)
   have k2' : q5w (q5j r l) (0,List.replicate l.length 0,(l.length:Int))=some (rows',(l.length:Int)):=k2
   rw[List.drop_zero] at k1
   rw[k1,k2']
   exact⟨_,rfl,rfl,by show rows'.length≤16;simp at k3;omega⟩
 ·rw[ifN hl,bsS,bsS,ifP (by omega)]
  have e:q5w (q5j r l) (0,([]:List Int),(0:Int))=some ([],0):=q4g (by unfold q5j;dsimp only;rw[ifP (by omega),ifN (by omega)])
  rw[e]
  exact⟨_,rfl,rfl,by simp⟩
theorem z3E {α β:Type}{p:α→Bool}{g:α→β}{B:Nat}{f:Nat→α→List β→Option (List β)}(hf:∀ k x s,s.length<B→f k x s=some (if p x=true then s++[g x] else s)):∀ (xs:List α) (i:Nat) (s:List β),s.length+xs.length≤B →
  eachL f i xs s=some (s++(xs.filter p).map g)
 | [],i,s,_=>by simp[eachL]
 | x::xs,i,s,h=>by
  simp only[lnC] at h
  by_cases hp:p x=true
  ·have ih:=z3E hf xs (i+1) (s++[g x]) (by simp;omega)
   simp[eachL,hf i x s (by omega),hp,ih]
  ·have ih:=z3E hf xs (i+1) s (by omega)
   simp[eachL,hf i x s (by omega),hp,ih]
theorem z9Y {α β:Type}{p:α→Bool}{g:Nat→β}{B:Nat}{f:Nat→α→List β→Option (List β)}(hf:∀ k x s,s.length<B→f k x s=some (if p x=true then s++[g k] else s)):∀ (xs:List α) (i:Nat) (s:List β),s.length+xs.length≤B →
  eachL f i xs s=some (s++((xs.zipIdx i).filter fun q=>p q.1).map fun q=>g q.2)
 | [],i,s,_=>by simp[eachL]
 | x::xs,i,s,h=>by
  simp only[lnC] at h
  by_cases hp:p x=true
  ·have ih:=z9Y hf xs (i+1) (s++[g i]) (by simp;omega)
   simp[eachL,hf i x s (by omega),hp,ih,List.zipIdx_cons]
  ·have ih:=z9Y hf xs (i+1) s (by omega)
   simp[eachL,hf i x s (by omega),hp,ih,List.zipIdx_cons]
theorem z7L {β:Type}{h:Nat→List β}{C n:Nat}{f:Nat→List β→Option (List β)}(hf:∀ k s,k<n→s.length≤k*C→f k s=some (s++h k))(hh:∀ k,k<n→(h k).length≤C) :
  ∀ (m k:Nat) (s:List β),k+m=n→s.length≤k*C→eachN f k m s=some (s++(List.range' k m).flatMap h)
 | 0,k,s,_,_=>by simp[eachN]
 | m+1,k,s,hk,hs=>by
  have hl:=hh k (by omega)
  have e:(k+1)*C=k*C+C:=Nat.succ_mul k C
  have ih:=z7L hf hh m (k+1) (s++h k) (by omega) (by rw[List.length_append];omega)
  simp[eachN,hf k s (by omega) hs,ih,List.range'_succ]
theorem z9Z {β:Type}{h:Nat→List β}{C n:Nat}{f:(List β×Int)→Option ((List β×Int) ⊕ List β)}(hf:∀ (k:Nat) s,k<n→s.length≤k*C→f (s,(k:Int))=some (.inl (s++h k,((k+1:Nat):Int))))(he:∀ s,f (s,(n:Int))=some (.inr s))(hh:∀ k,k<n→(h k).length≤C) :
  ∀ (m k:Nat) (s:List β),k+m=n→s.length≤k*C→q5w f (s,(k:Int))=some (s++(List.range' k m).flatMap h)
 | 0,k,s,hk,_=>by
  obtain rfl:k=n:=by omega
  rw[q4g (he s)];simp
 | m+1,k,s,hk,hs=>by
  have hl:=hh k (by omega)
  have e:(k+1)*C=k*C+C:=Nat.succ_mul k C
  have ih:=z9Z hf he hh m (k+1) (s++h k) (by omega) (by rw[List.length_append];omega)
  rw[q4X (hf k s (by omega) hs),ih];simp[List.range'_succ]
abbrev GOk (g:Gm_):Prop:=∀ y∈g.Symbols,y.Attributes.length≤1048576
def zS:Symbol:=⟨⟨#[]⟩,[]⟩
def zA:At_:=⟨⟨#[]⟩,0,0,false⟩
def q6M (g:Gm_)(s:ByteArray):Symbol×Bool:=match g.Symbols.find? fun y=>decide (y.Name=s) with
 | some y=>(y,true)
 | none=>(zS,false)
def z2p (y:Symbol)(s:ByteArray):At_×Bool:=match y.Attributes.find? fun a=>decide (a.Name=s) with
 | some a=>(a,true)
 | none=>(zA,false)
theorem z1q {g:Gm_}(h:GOk g)(s:ByteArray):q5n g s=some (q6M g s):=by
 have h1:=z0R (p:=fun y:Symbol=>decide (y.Name=s)) (r:=fun y=>(y,true)) (xs:=g.Symbols) (i:=0) (f:=q8X s) fun k y hy=>by
  have hg:q8z y=some y:=by
   unfold q8z;have:=h y hy;rw[q3U (by simp only[List.length_nil];constructor<;>omega)]
  unfold q8X;rw[hg];constructor<;>intro hp<;>simp_all
 unfold q5n q6M
 rw[h1]
 cases hf:g.Symbols.find? (fun y:Symbol=>decide (y.Name=s)) with
 | none=>rfl
 | some y=>rfl
theorem z2q (g:Gm_)(s:ByteArray):q5H g s=some (q6M g s):=by
 have h2:=z0R (p:=fun y:Symbol=>decide (y.Name=s)) (r:=fun y=>(y,true)) (xs:=g.Symbols) (i:=0) (f:=q9d s) fun k y hy=>by
  unfold q9d;constructor<;>intro hp<;>simp_all
 unfold q5H q6M
 rw[h2]
 cases hf:g.Symbols.find? (fun y:Symbol=>decide (y.Name=s)) with
 | none=>rfl
 | some y=>rfl
theorem z2r {g:Gm_}(h:GOk g)(s:ByteArray):(q6M g s).1.Attributes.length≤1048576:=by
 unfold q6M
 cases hf:g.Symbols.find? (fun y:Symbol=>decide (y.Name=s)) with
 | none=>simp[zS]
 | some y=>exact h y (List.mem_of_find?_eq_some hf)
theorem z6Z (y:Symbol)(s:ByteArray):q6y y s=some (z2p y s):=by
 have h2:=z0R (p:=fun y:At_=>decide (y.Name=s)) (r:=fun y=>(y,true)) (xs:=y.Attributes) (i:=0) (f:=z0B s) fun k y hy=>by
  unfold z0B;constructor<;>intro hp<;>simp_all
 unfold q6y z2p
 rw[h2]
 cases hf:y.Attributes.find? (fun y:At_=>decide (y.Name=s)) with
 | none=>rfl
 | some y=>rfl
theorem j0a (y:Symbol)(s:ByteArray):q5G y s=some (z2p y s):=z6Z y s
def q8l (r:Rule)(k:Int):ByteArray:=if k=0 then r.Left else if 1≤k∧k≤(r.Right.length:Int) then r.Right.getD (k-1).toNat ⟨#[]⟩ else ⟨#[]⟩
abbrev ROk (r:Rule):Prop:=r.Right.length≤1048576
theorem z4e {r:Rule}(hl:ROk r)(k:Int):q5A r k=some (q8l r k):=by
 unfold q5A q8l
 by_cases h0:k=0
 ·rw[ifP h0,ifP h0]
 ·rw[ifN h0,ifN h0,z5j,bsS]
  by_cases h1:1≤k∧k≤(r.Right.length:Int)
  ·rw[ifP (by simpa using h1),ifP h1,q3U (by constructor<;>omega),q3U (by omega)]
   have:(k-1).toNat<r.Right.length:=by omega
   rw[List.getElem?_eq_getElem this,List.getD_eq_getElem?_getD,List.getElem?_eq_getElem this];rfl
  ·rw[ifN (by simpa using h1),ifN h1]
theorem j0b {r:Rule}(hl:ROk r)(k:Int):q6Y r k=some (q8l r k):=by rw[z7I,z4e hl]
def z0y (g:Gm_)(r:Rule)(o:Oc):At_×Bool:=if 0≤o.Pos∧o.Pos≤(r.Right.length:Int) then z2p (q6M g (q8l r o.Pos)).1 o.Name else (zA,false)
theorem z7M (g:Gm_){r:Rule}(hl:ROk r)(o:Oc):q7u g r o=some (z0y g r o):=by
 unfold q7u z0y
 rw[z8f,bsS]
 by_cases h0:0≤o.Pos∧o.Pos≤(r.Right.length:Int)
 ·rw[ifP (by simpa using h0),ifP h0,j0b hl,bsS,z2q,bsS]
  dsimp only
  rw[z6Z];rfl
 ·rw[ifN (by simpa using h0),ifN h0];rfl
def mayB (g:Gm_)(r:Rule)(o:Oc):Bool:=(z0y g r o).2&&decide ((z0y g r o).1.Mode=if o.Pos=0 then 1 else 2)
theorem k3G (g:Gm_){r:Rule}(hl:ROk r)(o:Oc):z4Q g r o=some (mayB g r o):=by
 unfold z4Q mayB
 rw[z7M g hl,bsS]
 dsimp only
 by_cases h0:o.Pos=0
 ·rw[ifP h0,ifP h0]
  by_cases h1:(z0y g r o).2=true
  ·rw[ifP h1,h1];rfl
  ·rw[ifN h1,Bool.eq_false_iff.2 h1];rfl
 ·rw[ifN h0,ifN h0]
  by_cases h1:(z0y g r o).2=true
  ·rw[ifP h1,h1];rfl
  ·rw[ifN h1,Bool.eq_false_iff.2 h1];rfl
theorem k3H {g:Gm_}(h:GOk g){r:Rule}(hl:ROk r)(o:Oc):z4V g r o=some (mayB g r o):=by
 unfold z4V mayB z0y
 rw[z5j,bsS]
 by_cases hp:0≤o.Pos∧o.Pos≤(r.Right.length:Int)
 ·rw[ifP (by simpa using hp),ifP hp,z4e hl,bsS,z1q h,bsS]
  dsimp only
  rw[j0a,bsS]
  skip
  by_cases h0:o.Pos=0
  ·rw[ifP h0,ifP h0]
   by_cases h1:(z2p (q6M g (q8l r o.Pos)).1 o.Name).2=true
   ·rw[ifP h1,h1];rfl
   ·rw[ifN h1,Bool.eq_false_iff.2 h1];rfl
  ·rw[ifN h0,ifN h0]
   by_cases h1:(z2p (q6M g (q8l r o.Pos)).1 o.Name).2=true
   ·rw[ifP h1,h1];rfl
   ·rw[ifN h1,Bool.eq_false_iff.2 h1];rfl
 ·rw[ifN (by simpa using hp),ifN hp];rfl
def reqK (g:Gm_)(r:Rule)(k:Nat):List Oc:=((q6M g (q8l r (k:Int))).1.Attributes.filter fun a=>decide (a.Mode=if (k:Int)=0 then 2 else 1)).map fun a=>(⟨(k:Int),a.Name⟩:Oc)
def reqL (g:Gm_)(r:Rule):List Oc:=(List.range' 0 (r.Right.length+1)).flatMap (reqK g r)
theorem j6F {g:Gm_}(h:GOk g)(r:Rule)(k:Nat):(reqK g r k).length≤1048576:=by
 unfold reqK;rw[lnM]
 exact Nat.le_trans (List.length_filter_le _ _) (z2r h _)
theorem j9J {g:Gm_}(h:GOk g){r:Rule}(hl:ROk r):z0A g r=some (reqL g r):=by
 have hl' : r.Right.length≤1048576:=hl
 have key:=z7L (h:=reqK g r) (C:=1048576) (n:=r.Right.length+1) (f:=z4P g r) (fun k s hk hs=>by
  have hin:∀ m:Int,eachL (z4O k m) 0 (q6M g (q8l r (k:Int))).1.Attributes s=some (s++((q6M g (q8l r (k:Int))).1.Attributes.filter fun a=>decide (a.Mode=m)).map fun a=>(⟨(k:Int),a.Name⟩:Oc)):=fun m=>
   z3E (B:=4398046511104) (fun j x s hs=>by
    unfold z4O
    by_cases hm:x.Mode=m
    ·rw[ifP hm,ifP (by simpa using hm),q3U (by constructor<;>omega)];rfl
    ·rw[ifN hm,ifN (by simpa using hm)];rfl) _ 0 s (by have:=z2r h (q8l r (k:Int));omega)
  unfold z4P reqK
  by_cases h0:(k:Int)=0
  ·rw[ifP h0,ifP h0,bsS,j0b hl,bsS,z2q,bsS]
   dsimp only
   rw[hin];rfl
  ·rw[ifN h0,ifN h0,bsS,j0b hl,bsS,z2q,bsS]
   dsimp only
   rw[hin];rfl) (fun k _=>j6F h r k) (r.Right.length+1) 0 [] (by omega) (by simp)
 unfold z0A
 rw[q3U (by constructor<;>omega),key];rfl
theorem j5x {g:Gm_}(h:GOk g){r:Rule}(hl:ROk r):q5m g r=some (reqL g r):=by
 have hl' : r.Right.length≤1048576:=hl
 have key:=z9Z (h:=reqK g r) (C:=1048576) (n:=r.Right.length+1) (f:=q5V g r) (fun k s hk hs=>by
  have hin2:eachL (q7T (k:Int)) 0 (q6M g (q8l r (k:Int))).1.Attributes s=some (s++((q6M g (q8l r (k:Int))).1.Attributes.filter fun a=>decide (a.Mode=2)).map fun a=>(⟨(k:Int),a.Name⟩:Oc)):=
   z3E (B:=4398046511104) (fun j x s hs=>by
    unfold q7T
    by_cases hm:x.Mode=2
    ·rw[ifP hm,ifP (by simpa using hm),q3U (by constructor<;>omega)];rfl
    ·rw[ifN hm,ifN (by simpa using hm)];rfl) _ 0 s (by have:=z2r h (q8l r (k:Int));omega)
  have hin1:eachL (q7U (k:Int)) 0 (q6M g (q8l r (k:Int))).1.Attributes s=some (s++((q6M g (q8l r (k:Int))).1.Attributes.filter fun a=>decide (a.Mode=1)).map fun a=>(⟨(k:Int),a.Name⟩:Oc)):=
   z3E (B:=4398046511104) (fun j x s hs=>by
    unfold q7U
    by_cases hm:x.Mode=1
    ·rw[ifP hm,ifP (by simpa using hm),q3U (by constructor<;>omega)];rfl
    ·rw[ifN hm,ifN (by simpa using hm)];rfl) _ 0 s (by have:=z2r h (q8l r (k:Int));omega)
  unfold q5V reqK
  dsimp only
  rw[ifP (by omega),z4e hl,bsS,z1q h,bsS]
  skip
  by_cases h0:(k:Int)=0
  ·rw[ifP h0,ifP h0,hin2,bsS,bsS,q3U (by constructor<;>omega)];rfl
  ·rw[ifN h0,ifN h0,hin1,bsS,bsS,q3U (by constructor<;>omega)];rfl) (fun s=>by
  unfold q5V;dsimp only;rw[ifN (by omega)]) (fun k _=>j6F h r k) (r.Right.length+1) 0 [] (by omega) (by simp)
 unfold q5m
 have e:q5w (q5V g r) (([]:List Oc),0)=some ([]++(List.range' 0 (r.Right.length+1)).flatMap (reqK g r)):=key
 rw[e];rfl
theorem q6r {α:Type}{q:α→Bool}{xs:List α}{f:Nat→α→Unit→Option (Unit ⊕ Int)}(h:∀ k x,x∈xs→f k x ()=some (if q x=true then .inr (k:Int) else .inl ())) :
  ((findL f 0 xs ()).bind <| onr (fun r1=>some r1) fun _=>some (-1)).bind (fun y1=>some (decide (0≤y1)))=some (xs.any q):=by
 rw[z9R h]
 cases hq:xs.any q with
 | true=>
  have:(0:Int)≤((0+xs.findIdx q:Nat):Int):=Int.natCast_nonneg _
  rw[ifP rfl,bsS,z7l,bsS,decide_eq_true this]
 | false=>rfl
def q4R {α:Type}(bad:List α→α→Bool):List α→List α→Option Nat
 | _,[]=>none
 | pre,x::xs=>if bad pre x=true then some pre.length else q4R bad (pre++[x]) xs
theorem z3F {α β ρ:Type}{bad:List α→α→Bool}{nm:α→β}{c:Nat→ρ}{all:List α}{f:Nat→α→Unit→Option (Unit ⊕ ρ)}{h:Nat→α→List β→Option (List β ⊕ ρ)}
  (hf:∀ pre x post,all=pre++x::post→f pre.length x ()=some (if bad pre x=true then .inr (c pre.length) else .inl ()))
  (hh:∀ pre x post,all=pre++x::post→h pre.length x (pre.map nm)=some (if bad pre x=true then .inr (c pre.length) else .inl ((pre++[x]).map nm))) :
  ∀ (ys pre:List α),all=pre++ys→findL f pre.length ys ()=some (match q4R bad pre ys with|none=>.inl ()|some k=>.inr (c k)) ∧
   findL h pre.length ys (pre.map nm)=some (match q4R bad pre ys with|none=>.inl (all.map nm)|some k=>.inr (c k))
 | [],pre,e=>by
  rw[List.append_nil] at e
  subst e;exact⟨rfl,rfl⟩
 | x::ys,pre,e=>by
  have h1:=hf pre x ys e
  have h2:=hh pre x ys e
  by_cases hb:bad pre x=true
  ·rw[ifP hb] at h1 h2
   simp only[findL,h1,h2,q4R,hb,if_true,bsS]
   exact⟨trivial,trivial⟩
  ·rw[ifN hb] at h1 h2
   have ih:=z3F hf hh ys (pre++[x]) (by rw[e];simp)
   simp only[List.length_append,lnC,List.length_nil,Nat.zero_add] at ih
   simp only[findL,h1,h2,q4R,hb,bsS]
   exact ih
theorem j6G {α:Type}{a:α→Bool}{b:List α→α→Bool}:∀ (xs pre:List α),(q4R (fun p x=>a x||b p x) pre xs).isNone=(xs.all (fun x=>!a x)&&(q4R b pre xs).isNone)
 | [],pre=>rfl
 | x::xs,pre=>by
  have ih:=j6G (a:=a) (b:=b) xs (pre++[x])
  simp only[q4R,List.all_cons]
  by_cases ha:a x=true
  ·simp[ha]
  ·by_cases hb:b pre x=true
   ·simp[ha,hb]
   ·simpa[ha,hb] using ih
def dupB {α:Type}(nm:α→ByteArray)(pre:List α)(x:α):Bool:=pre.any fun o=>decide (nm o=nm x)
def j9K {α:Type}(nm:α→ByteArray)(xs:List α):Bool:=(q4R (dupB nm) [] xs).isNone
theorem j3X {α:Type}{nm:α→ByteArray}:∀ (xs pre:List α),(q4R (dupB id) (pre.map nm) (xs.map nm))=q4R (dupB nm) pre xs
 | [],pre=>rfl
 | x::xs,pre=>by
  have ih:=j3X (nm:=nm) xs (pre++[x])
  have e:dupB id (pre.map nm) (nm x)=dupB nm pre x:=by simp[dupB,List.any_map,Function.comp_def]
  rw[List.map_cons,q4R,q4R,e,lnM]
  rw[List.map_append] at ih
  rw[show [nm x]=[x].map nm from rfl,ih]
theorem z5l {α ρ:Type}{bad:List α→α→Bool}{c:Nat→ρ}{all:List α}{f:Nat→α→Unit→Option (Unit ⊕ ρ)}
  (hf:∀ pre x post,all=pre++x::post→f pre.length x ()=some (if bad pre x=true then .inr (c pre.length) else .inl ())) :
  ∀ (ys pre:List α),all=pre++ys→findL f pre.length ys ()=some (match q4R bad pre ys with|none=>.inl ()|some k=>.inr (c k)):=fun ys pre e=>
 (z3F (nm:=fun _=>()) (h:=fun k x s=>(f k x ()).map fun|.inl _=>.inl (s++[()])|.inr r=>.inr r) hf (fun pre x post e=>by
  rw[hf pre x post e]
  by_cases hb:bad pre x=true
  ·rw[ifP hb,ifP hb];rfl
  ·rw[ifN hb,ifN hb];simp) ys pre e).1
theorem j9L (l:List ByteArray)(s:ByteArray):z0V l s=some (l.any fun o=>decide (o=s)):=by
 unfold z0V
 rw[q5k (c:=true) (q:=fun o=>!decide (o=s)) fun k x hx=>by
  unfold z6x
  by_cases h:x=s
  ·rw[ifP h,ifN (by simp[h])]
  ·rw[ifN h,ifP (by simp[h])]]
 have e:(l.all fun o=>!decide (o=s))=!(l.any fun o=>decide (o=s)):=by rw[List.not_any_eq_all_not]
 rw[e]
 cases l.any fun o=>decide (o=s)<;>rfl
theorem j8d (l:List ByteArray):q9g l=some (j9K id l):=by
 unfold q9g j9K
 rw[show findL (z0b l) 0 l ()=_ from z5l (bad:=dupB id) (c:=fun _=>false) (all:=l) (f:=z0b l) (fun pre x post e=>by
  unfold z0b
  rw[q3U (by rw[e];simp),show l.take pre.length=pre by rw[e];simp,j9L,bsS,← apply_ite some];rfl) l [] rfl]
 cases q4R (dupB id) [] l<;>rfl
def z2x (a:At_):Bool:=q8d a.Name&&(decide (1≤a.Type_∧a.Type_≤4)&&(decide (1≤a.Mode∧a.Mode≤3)&&if a.Mode=3 then decide (a.Type_=2) && !a.Circular else !a.Circular||decide (a.Type_=2)))
theorem j9M (a:At_):q6X a=some (z2x a):=by
 unfold q6X z2x z3l
 rw[z1F,bsS]
 cases q8d a.Name with
 | false=>rfl
 | true=>
  rw[ifP rfl,z8f,bsS,bsS,bsS]
  by_cases h1:1≤a.Type_∧a.Type_≤4
  ·rw[decide_eq_true h1,Bool.not_true,ifN (by simp),z8f,bsS,bsS]
   by_cases h2:1≤a.Mode∧a.Mode≤3
   ·rw[decide_eq_true h2,Bool.not_true,ifN (by simp)]
    by_cases h3:a.Mode=3
    ·rw[ifP h3,ifP h3]
     by_cases h4:a.Type_=2
     ·rw[ifP h4,decide_eq_true h4];simp
     ·rw[ifN h4,decide_eq_false h4];rfl
    ·rw[ifN h3,ifN h3]
     cases hc:a.Circular with
     | true=>rw[ifP rfl];simp
     | false=>rw[ifN (by simp)];simp
   ·rw[decide_eq_false h2];rfl
  ·rw[decide_eq_false h1];rfl
theorem j9N (a:At_):q7a a=some (z2x a):=by
 unfold q7a z2x
 rw[z0t,bsS]
 cases q8d a.Name with
 | false=>rfl
 | true=>
  rw[ifP rfl,z5j,bsS,bsS]
  by_cases h1:1≤a.Type_∧a.Type_≤4
  ·rw[decide_eq_true h1,Bool.not_true,ifN (by simp),z5j,bsS,bsS]
   by_cases h2:1≤a.Mode∧a.Mode≤3
   ·rw[decide_eq_true h2,Bool.not_true,ifN (by simp)]
    by_cases h3:a.Mode=3
    ·rw[ifP h3,ifP h3]
     by_cases h4:a.Type_=2
     ·rw[ifP h4,decide_eq_true h4]
      cases hc:a.Circular with
      | true=>rfl
      | false=>rfl
     ·rw[ifN h4,decide_eq_false h4];rfl
    ·rw[ifN h3,ifN h3]
     cases hc:a.Circular with
     | true=>simp
     | false=>simp
   ·rw[decide_eq_false h2];rfl
  ·rw[decide_eq_false h1];rfl
def symB (s:Symbol):Bool:=s.Attributes.all z2x&&(q8d s.Name&&(decide (s.Attributes.length≤4)&&j9K (fun a:At_=>a.Name) s.Attributes))
theorem k1G (s:Symbol):q8g s=some (symB s):=by
 unfold q8g symB
 rw[show findL (q8F s) 0 s.Attributes ()=_ from z5l (bad:=fun p x=>!z2x x||dupB (fun a:At_=>a.Name) p x) (c:=fun _=>false) (all:=s.Attributes) (f:=q8F s) (fun pre x post e=>by
  unfold q8F
  rw[j9M,bsS]
  cases z2x x with
  | false=>rfl
  | true=>
   rw[ifP rfl,q3U (by rw[e];simp),show s.Attributes.take pre.length=pre by rw[e];simp]
   unfold q4j q4r
   rw[q6r (q:=fun o:At_=>decide (o.Name=x.Name)) fun k y hy=>by
    unfold q5L q8t
    rw[bsS]
    by_cases h:y.Name=x.Name
    ·rw[decide_eq_true h];rfl
    ·rw[decide_eq_false h];rfl]
   rw[bsS,← apply_ite some];rfl) s.Attributes [] rfl]
 have hor:=j6G (a:=fun x:At_=>!z2x x) (b:=dupB (fun a:At_=>a.Name)) s.Attributes []
 simp only[Bool.not_not] at hor
 have e2:(s.Attributes.all fun x=>z2x x)=s.Attributes.all z2x:=rfl
 unfold j9K
 rw[e2] at hor
 cases hb:q4R (fun p x=>!z2x x||dupB (fun a:At_=>a.Name) p x) [] s.Attributes with
 | some k=>
  rw[hb] at hor
  show some false=_
  have:(s.Attributes.all z2x&&(q4R (dupB fun a:At_=>a.Name) [] s.Attributes).isNone)=false:=hor.symm
  congr 1
  cases h1:s.Attributes.all z2x with
  | false=>rfl
  | true=>rw[h1] at this;simp at this;simp[this]
 | none=>
  rw[hb] at hor
  have:(s.Attributes.all z2x&&(q4R (dupB fun a:At_=>a.Name) [] s.Attributes).isNone)=true:=hor.symm
  rw[Bool.and_eq_true] at this
  show ((q4G s.Name).bind _)=_
  rw[z1F,bsS,this.1,this.2]
  cases q8d s.Name with
  | false=>rfl
  | true=>
   rw[ifP rfl,bsS]
   congr 1
   simp;omega
theorem k1H {s:Symbol}(h:s.Attributes.length≤1048576):q8i s=some (symB s):=by
 unfold q8i symB
 have hloop:∀ (ys:List At_) (i:Nat) (t:List ByteArray),t.length+ys.length≤1048576→findL q8I i ys t=some (if ys.all z2x=true then .inl (t++ys.map fun a=>a.Name) else .inr false):=by
  intro ys
  induction ys with
  | nil=>intro i t _;simp[findL]
  | cons y ys ih=>
   intro i t ht
   simp only[lnC] at ht
   simp only[findL]
   have e:q8I i y t=some (if z2x y=true then .inl (t++[y.Name]) else .inr false):=by
    unfold q8I
    rw[j9N,bsS]
    cases z2x y with
    | false=>rfl
    | true=>rw[ifP rfl,ifP rfl,q3U (by constructor<;>omega)]
   rw[e,bsS]
   by_cases hy:z2x y=true
   ·rw[ifP hy,show (y::ys).all z2x=ys.all z2x by simp[hy]]
    dsimp only
    rw[ih _ _ (by simp;omega)]
    simp
   ·rw[ifN hy,show (y::ys).all z2x=false by simp[hy]];rfl
 rw[hloop _ _ _ (by simpa using h)]
 cases hA:s.Attributes.all z2x with
 | false=>rfl
 | true=>
  rw[ifP rfl,bsS,z3L,List.nil_append,z0t,bsS]
  cases q8d s.Name with
  | false=>rfl
  | true=>
   rw[ifP rfl,bsS,lnM]
   by_cases hl:s.Attributes.length≤4
   ·rw[decide_eq_true (by omega:(s.Attributes.length:Int)≤4),ifP rfl,j8d,bsS,bsS,decide_eq_true hl]
    have:=j3X (nm:=fun a:At_=>a.Name) s.Attributes []
    unfold j9K
    rw[List.map_nil] at this
    rw[this];rfl
   ·rw[decide_eq_false (by omega:¬ (s.Attributes.length:Int)≤4),ifN (by simp),decide_eq_false hl];rfl
theorem z7a {r:Rule}{q:Cn}(h:q∈r.Contributions):Sz.szd q.Target≤Sz.szd r∧Sz.szd q.Value≤Sz.szd r:=by
 have h1:=z6R r
 have h2:=z4o q
 have h3:=z6U h
 have h4:=q6u q.Target
 have h5:=q6u q.Value
 omega
theorem z5m {g:Gm_}{r:Rule}(h:r∈g.Rules):Sz.szd r≤Sz.szd g:=by
 have h1:=z4a g
 have h3:=z6U h
 omega
theorem k2B {r:Rule}(h:Sz.szd r≤1048576):r.Equations.length≤1048576∧r.Contributions.length≤1048576:=by
 have h1:=z6R r
 have h2:=q7g r.Equations
 have h3:=q7g r.Contributions
 omega
def q8W (n:Int)(e:Expr):Bool:=allE (fun x=>decide (x.Pos≤n)) e
theorem j5y (n:Int)(e:Expr):∀ m,fuE e≤m→q6W m e n=some (q8W n e):=by
 induction e using z1g with
 | h e ih=>
  intro m hm
  obtain⟨m,rfl⟩:∃ q,m=q+1:=⟨m-1,by have:=z5e e;omega⟩
  show q8B (q6W m) e n=_
  unfold q8B
  rw[q5k (c:=false) (q:=q8W n) fun k x hx=>by
   unfold q8A
   rw[ih x hx m (by have:=z4p hx;omega),bsS]
   cases q8W n x<;>rfl]
  have e1:q8W n e=(decide (e.Pos≤n)&&e.Args.all (q8W n)):=by unfold q8W;rw[j2k]
  rw[e1,bsS]
  cases e.Args.all (q8W n) with
  | true=>rw[ifP rfl,z3L,Bool.and_true]
  | false=>rw[ifN (by simp),z7l,Bool.and_false]
theorem j8e (n:Int)(e:Expr):z3P e n=some (q8W n e):=q9H (fuE e) fun m hm=>j5y n e m hm
theorem j5z (n:Int)(e:Expr):∀ m,fuE e≤m→q6G m e n=some (q8W n e):=by
 induction e using z1g with
 | h e ih=>
  intro m hm
  obtain⟨m,rfl⟩:∃ q,m=q+1:=⟨m-1,by have:=z5e e;omega⟩
  show q6F (q6G m) e n=_
  unfold q6F q4p q4u z6B
  have e1:q8W n e=(decide (e.Pos≤n)&&e.Args.all (q8W n)):=by unfold q8W;rw[j2k]
  rw[bsS,e1]
  cases decide (e.Pos≤n) with
  | false=>rfl
  | true=>
   rw[ifP rfl,q6r (q:=fun x=>!q8W n x) fun k x hx=>by
    unfold q5R q7d
    rw[ih x hx m (by have:=z4p hx;omega),bsS,bsS]
    cases q8W n x<;>rfl]
   rw[Bool.true_and,← z9T];rfl
theorem j8f (n:Int)(e:Expr):q8T e n=some (q8W n e):=q9H (fuE e) fun m hm=>j5z n e m hm
def z3a (e:Expr)(n:Int):Bool:=z9U e&&q8W n e
theorem j2x {e:Expr}(h:Sz.szd e≤1048576)(n:Int):z5S e n=some (z3a e n):=by
 unfold z5S z3a
 have:=k2x h
 rw[j9r (by omega),bsS]
 cases z9U e with
 | false=>rfl
 | true=>rw[ifP rfl,j8f];rfl
theorem j2y {e:Expr}(h:Sz.szd e≤1048576)(n:Int):q8Z e n=some (z3a e n):=by
 unfold q8Z z3a
 have:=k2x h
 rw[z6W (by omega),bsS]
 cases z9U e with
 | false=>rfl
 | true=>rw[ifP rfl,j8e];rfl
def eqnB (n:Int)(q:Eqn):Bool:=z3a q.Expr n&&(q8d q.At.Name&&decide (0≤q.At.Pos∧q.At.Pos≤n))
def conB (n:Int)(q:Cn):Bool:=(z3a q.Target n&&z3a q.Value n)&&(q8d q.Symbol&&q8d q.Name)
def ruleB (r:Rule):Bool:=(q8d r.Name&&q8d r.Left)&&((decide (r.Right.length≤3)&&decide (r.Contributions.length≤2))&&(r.Right.all q8d&&(r.Equations.all (eqnB (r.Right.length:Int))&&r.Contributions.all (conB (r.Right.length:Int)))))
theorem j3Y {α β γ:Type}{p:α→Bool}{q:β→Bool}{t:γ→Bool}(xs:List α)(ys:List β)(zs:List γ) :
  ((some (if xs.all p=true then (.inl ():Unit ⊕ Bool) else .inr false)).bind <| onr (fun r1=>some r1) fun _=>
   (some (if ys.all q=true then (.inl ():Unit ⊕ Bool) else .inr false)).bind <| onr (fun r1=>some r1) fun _=>
   (some (if zs.all t=true then (.inl ():Unit ⊕ Bool) else .inr false)).bind <| onr (fun r1=>some r1) fun _=>some true)=some (xs.all p&&(ys.all q&&zs.all t)):=by
 cases xs.all p<;>cases ys.all q<;>cases zs.all t<;>rfl
theorem j9O {r:Rule}(h:Sz.szd r≤1048576):q9c r=some (ruleB r):=by
 unfold q9c ruleB
 rw[z1F,bsS]
 cases q8d r.Name with
 | false=>rfl
 | true=>
  rw[ifP rfl,z1F,bsS,bsS]
  cases q8d r.Left with
  | false=>rfl
  | true=>
   rw[Bool.not_true,ifN (by simp),bsS]
   by_cases h3:r.Right.length≤3
   ·rw[decide_eq_true h3,decide_eq_false (by omega),ifN (by simp),bsS]
    by_cases h2:r.Contributions.length≤2
    ·rw[decide_eq_true h2,decide_eq_false (by omega),ifN (by simp)]
     rw[q5k (c:=false) (q:=q8d) fun k x hx=>by
      unfold z4L;rw[z1F,bsS];cases q8d x<;>rfl]
     rw[q5k (c:=false) (q:=eqnB (r.Right.length:Int)) fun k x hx=>by
      unfold z4M eqnB
      rw[j2x (Nat.le_trans (z6j hx) h),bsS]
      cases z3a x.Expr (r.Right.length:Int) with
      | false=>rfl
      | true=>
       rw[ifP rfl,z1F,bsS,bsS]
       cases q8d x.At.Name with
       | false=>rfl
       | true=>
        rw[Bool.not_true,ifN (by simp),z8f,bsS,bsS]
        cases decide (0≤x.At.Pos∧x.At.Pos≤(r.Right.length:Int))<;>rfl]
     rw[q5k (c:=false) (q:=conB (r.Right.length:Int)) fun k x hx=>by
      have hs:=z7a hx
      unfold z4N conB
      rw[j2x (Nat.le_trans hs.1 h),bsS]
      cases z3a x.Target (r.Right.length:Int) with
      | false=>rfl
      | true=>
       rw[ifP rfl,j2x (Nat.le_trans hs.2 h),bsS,bsS]
       cases z3a x.Value (r.Right.length:Int) with
       | false=>rfl
       | true=>
        rw[Bool.not_true,ifN (by simp),z1F,bsS,bsS]
        cases q8d x.Symbol with
        | false=>rfl
        | true=>
         rw[Bool.not_true,ifN (by simp),z1F,bsS,bsS]
         cases q8d x.Name<;>rfl]
     exact j3Y _ _ _
    ·rw[decide_eq_false h2,decide_eq_true (by omega)];rfl
   ·rw[decide_eq_false h3,decide_eq_true (by omega)];rfl
theorem j9P {r:Rule}(h:Sz.szd r≤1048576):q9h r=some (ruleB r):=by
 unfold q9h ruleB
 rw[z0t,bsS]
 cases q8d r.Name with
 | false=>rfl
 | true=>
  rw[ifP rfl,z0t,bsS,bsS]
  cases q8d r.Left with
  | false=>rfl
  | true=>
   rw[Bool.not_true,ifN (by simp),bsS]
   by_cases h3:r.Right.length≤3
   ·rw[decide_eq_true h3,decide_eq_false (by omega),ifN (by simp),bsS]
    by_cases h2:r.Contributions.length≤2
    ·rw[decide_eq_true h2,decide_eq_false (by omega),ifN (by simp)]
     rw[q5k (c:=false) (q:=q8d) fun k x hx=>by
      unfold z4R;rw[z0t,bsS];cases q8d x<;>rfl]
     rw[q5k (c:=false) (q:=eqnB (r.Right.length:Int)) fun k x hx=>by
      unfold z4S eqnB
      rw[z0t,bsS]
      cases q8d x.At.Name with
      | false=>rw[Bool.false_and,Bool.and_false];rfl
      | true=>
       rw[ifP rfl,z5j,bsS,bsS]
       cases decide (0≤x.At.Pos∧x.At.Pos≤(r.Right.length:Int)) with
       | false=>rw[Bool.and_false,Bool.and_false];rfl
       | true=>
        rw[Bool.not_true,ifN (by simp),j2y (Nat.le_trans (z6j hx) h),bsS,bsS]
        cases z3a x.Expr (r.Right.length:Int)<;>rfl]
     rw[q5k (c:=false) (q:=conB (r.Right.length:Int)) fun k x hx=>by
      have hs:=z7a hx
      unfold z4T conB
      rw[z0t,bsS]
      cases q8d x.Symbol with
      | false=>rw[Bool.false_and,Bool.and_false];rfl
      | true=>
       rw[ifP rfl,z0t,bsS,bsS]
       cases q8d x.Name with
       | false=>rw[Bool.and_false,Bool.and_false];rfl
       | true=>
        rw[Bool.not_true,ifN (by simp),j2y (Nat.le_trans hs.1 h),bsS,bsS]
        cases z3a x.Target (r.Right.length:Int) with
        | false=>rfl
        | true=>
         rw[Bool.not_true,ifN (by simp),j2y (Nat.le_trans hs.2 h),bsS,bsS]
         cases z3a x.Value (r.Right.length:Int)<;>rfl]
     exact j3Y _ _ _
    ·rw[decide_eq_false h2,decide_eq_true (by omega)];rfl
   ·rw[decide_eq_false h3,decide_eq_true (by omega)];rfl
def z3G (p:List Symbol)(x:Symbol):Bool:=!symB x||dupB (fun y:Symbol=>y.Name) p x
def z1w (p:List Rule)(x:Rule):Bool:=!ruleB x||dupB (fun y:Rule=>y.Name) p x
def z5L (g:Gm_):Int:=match q4R z3G [] g.Symbols with
 | some k=>(k:Int)
 | none=>match q4R z1w [] g.Rules with
  | some k=>(k:Int)
  | none=>-1
theorem j9Q {g:Gm_}(h:Sz.szd g≤1048576):q9S g=some (z5L g):=by
 unfold q9S z5L
 rw[show findL (z0W g) 0 g.Symbols ()=_ from z5l (bad:=z3G) (c:=fun k=>(k:Int)) (all:=g.Symbols) (f:=z0W g) (fun pre x post e=>by
  unfold z0W z3G
  rw[k1G,bsS]
  cases symB x with
  | false=>rfl
  | true=>
   rw[ifP rfl,q3U (by rw[e];simp),show g.Symbols.take pre.length=pre by rw[e];simp]
   unfold q4B q4O
   rw[q6r (q:=fun o:Symbol=>decide (o.Name=x.Name)) fun k y hy=>by
    unfold q6m q9P
    rw[bsS]
    by_cases h:y.Name=x.Name
    ·rw[decide_eq_true h];rfl
    ·rw[decide_eq_false h];rfl]
   rw[bsS,← apply_ite some];rfl) g.Symbols [] rfl]
 rw[show findL (z0X g) 0 g.Rules ()=_ from z5l (bad:=z1w) (c:=fun k=>(k:Int)) (all:=g.Rules) (f:=z0X g) (fun pre x post e=>by
  unfold z0X z1w
  rw[j9O (Nat.le_trans (z5m (by rw[e];simp)) h),bsS]
  cases ruleB x with
  | false=>rfl
  | true=>
   rw[ifP rfl,q3U (by rw[e];simp),show g.Rules.take pre.length=pre by rw[e];simp]
   unfold q4H q4T
   rw[q6r (q:=fun o:Rule=>decide (o.Name=x.Name)) fun k y hy=>by
    unfold q6s q9R
    rw[bsS]
    by_cases h:y.Name=x.Name
    ·rw[decide_eq_true h];rfl
    ·rw[decide_eq_false h];rfl]
   rw[bsS,← apply_ite some];rfl) g.Rules [] rfl]
 cases q4R z3G [] g.Symbols with
 | some k=>rfl
 | none=>cases q4R z1w [] g.Rules<;>rfl
theorem j5A {g:Gm_}(h:Sz.szd g≤1048576):g.Symbols.length≤1048576∧g.Rules.length≤1048576:=by
 have h1:=z4a g
 have h2:=q7g g.Symbols
 have h3:=q7g g.Rules
 omega
theorem j9R {g:Gm_}(h:Sz.szd g≤1048576):z4U g=some (z5L g):=by
 have hl:=j5A h
 unfold z4U z5L
 have h1:=(z3F (bad:=z3G) (nm:=fun y:Symbol=>y.Name) (c:=fun k=>(k:Int)) (all:=g.Symbols) (f:=fun k x _=>some (if z3G (g.Symbols.take k) x=true then .inr (k:Int) else .inl ())) (h:=z5x) (fun pre x post e=>by
   rw[show g.Symbols.take pre.length=pre by rw[e];simp]) (fun pre x post e=>by
  unfold z5x z3G
  rw[k1H (z2V h x (by rw[e];simp)),bsS]
  cases symB x with
  | false=>rfl
  | true=>
   have hp:pre.length≤1048576:=by
     have:g.Symbols.length=pre.length+(post.length+1):=by rw[e];simp
     omega
   rw[ifP rfl,j9L,bsS,List.any_map,q3U (by rw[lnM];constructor<;>omega),List.map_append,← apply_ite some];rfl) g.Symbols [] rfl).2
 have h2:=(z3F (bad:=z1w) (nm:=fun y:Rule=>y.Name) (c:=fun k=>(k:Int)) (all:=g.Rules) (f:=fun k x _=>some (if z1w (g.Rules.take k) x=true then .inr (k:Int) else .inl ())) (h:=z5y) (fun pre x post e=>by
   rw[show g.Rules.take pre.length=pre by rw[e];simp]) (fun pre x post e=>by
  unfold z5y z1w
  rw[j9P (Nat.le_trans (z5m (by rw[e];simp)) h),bsS]
  cases ruleB x with
  | false=>rfl
  | true=>
   have hp:pre.length≤1048576:=by
     have:g.Rules.length=pre.length+(post.length+1):=by rw[e];simp
     omega
   rw[ifP rfl,j9L,bsS,List.any_map,q3U (by rw[lnM];constructor<;>omega),List.map_append,← apply_ite some];rfl) g.Rules [] rfl).2
 rw[show findL z5x 0 g.Symbols []=_ from h1,show findL z5y 0 g.Rules []=_ from h2]
 cases q4R z3G [] g.Symbols with
 | some k=>rfl
 | none=>cases q4R z1w [] g.Rules<;>rfl
theorem j3Z {ρ:Type}{c:ρ}{q:Nat→Bool}{n:Nat}{f:Nat→Unit→Option (Unit ⊕ ρ)}(h:∀ k,k<n→f k ()=some (if q k=true then .inl () else .inr c)):∀ (m k:Nat),k+m=n→findN f k m ()=some (if (List.range' k m).all q=true then .inl () else .inr c)
 | 0,k,_=>rfl
 | m+1,k,hk=>by
  have ih:=j3Z h m (k+1) (by omega)
  rw[findN,h k (by omega),bsS]
  by_cases hq:q k=true
  ·rw[ifP hq,show (List.range' k (m+1)).all q=(List.range' (k+1) m).all q by simp[List.range'_succ,hq]]
   exact ih
  ·rw[ifN hq,show (List.range' k (m+1)).all q=false by simp[List.range'_succ,hq]];rfl
theorem j6H {ρ:Type}{c:ρ}{q:Nat→Bool}{n:Nat}{f:Int→Option (Int ⊕ (Unit ⊕ ρ))}(h:∀ k:Nat,k<n→f (k:Int)=some (if q k=true then .inl ((k+1:Nat):Int) else .inr (.inr c)))(he:f (n:Int)=some (.inr (.inl ()))):∀ (m k:Nat),k+m=n→q5w f (k:Int)=some (if (List.range' k m).all q=true then .inl () else .inr c)
 | 0,k,hk=>by
  obtain rfl:k=n:=by omega
  exact q4g he
 | m+1,k,hk=>by
  have ih:=j6H h he m (k+1) (by omega)
  have h1:=h k (by omega)
  by_cases hq:q k=true
  ·rw[ifP hq] at h1
   rw[q4X h1,show (List.range' k (m+1)).all q=(List.range' (k+1) m).all q by simp[List.range'_succ,hq]]
   exact ih
  ·rw[ifN hq] at h1
   rw[q4g h1,show (List.range' k (m+1)).all q=false by simp[List.range'_succ,hq]];rfl
def j1q (g:Gm_)(r:Rule):Bool:=(List.range' 0 (r.Right.length+1)).all fun k=>(q6M g (q8l r (k:Int))).2
theorem j5B (g:Gm_){r:Rule}(hl:ROk r):z3m g r=some (!j1q g r):=by
 have hl' : r.Right.length≤1048576:=hl
 unfold z3m
 rw[q3U (by constructor<;>omega),j3Z (c:=true) (n:=r.Right.length+1) (q:=fun k=>(q6M g (q8l r (k:Int))).2) (fun k hk=>by
  unfold z9p
  rw[j0b hl,bsS,z2q,bsS]
  dsimp only
  rw[← apply_ite some]) (r.Right.length+1) 0 (by omega)]
 unfold j1q
 cases (List.range' 0 (r.Right.length+1)).all fun k=>(q6M g (q8l r (k:Int))).2<;>rfl
theorem j5C {g:Gm_}(h:GOk g){r:Rule}(hl:ROk r):z0c g r=some (j1q g r):=by
 have hl' : r.Right.length≤1048576:=hl
 unfold z0c
 have e:=j6H (c:=false) (q:=fun k=>(q6M g (q8l r (k:Int))).2) (n:=r.Right.length+1) (f:=q9i g r) (fun k hk=>by
  unfold q9i
  rw[ifP (by omega),z4e hl,bsS,z1q h,bsS]
  dsimp only
  rw[q3U (by constructor<;>omega),← apply_ite some];rfl) (by
  unfold q9i;rw[ifN (by omega)]) (r.Right.length+1) 0 (by omega)
 rw[show q5w (q9i g r) 0=_ from e]
 unfold j1q
 cases (List.range' 0 (r.Right.length+1)).all fun k=>(q6M g (q8l r (k:Int))).2<;>rfl
theorem k3I (K:List Oc)(o:Oc):q5o K o=some (decide (o∈K)):=by
 unfold q5o q4z
 rw[q6r (q:=fun x=>decide (o=x)) fun k x hx=>by
  unfold q4M
  by_cases h:o=x
  ·rw[ifP h,ifP (by simpa using h)]
  ·rw[ifN h,ifN (by simpa using h)]]
 congr 1
 by_cases h:o∈K
 ·rw[decide_eq_true h,List.any_eq_true];exact⟨o,h,by simp⟩
 ·rw[decide_eq_false h,List.any_eq_false];intro x hx he;simp at he;exact h (he▸hx)
theorem j9S (K:List Oc)(o:Oc):z0H K o=some (decide (o∈K)):=by
 unfold z0H
 rw[q5k (c:=true) (q:=fun x=>!decide (x=o)) fun k x hx=>by
  unfold z7Z
  by_cases h:x=o
  ·rw[ifP h,ifN (by simp[h])]
  ·rw[ifN h,ifP (by simp[h])]]
 by_cases h:o∈K
 ·rw[decide_eq_true h,ifN];· rfl
  rw[List.all_eq_true];intro hh;have:=hh o h;simp at this
 ·rw[decide_eq_false h,ifP];· rfl
  rw[List.all_eq_true];intro x hx;simp;exact fun e=>h (e▸hx)
def j4a (r:Rule)(o:Oc):Bool:=r.Equations.any fun q=>decide (q.At=o)
theorem k1I (r:Rule)(o:Oc):(eqAt r o).2=j4a r o:=by
 unfold eqAt j4a
 cases hf:r.Equations.find? (fun q=>decide (q.At=o)) with
 | none=>rw[List.find?_eq_none] at hf;symm;rw[List.any_eq_false];exact hf
 | some q=>symm;rw[List.any_eq_true];exact⟨q,List.mem_of_find?_eq_some hf,List.find?_some (p:=fun q:Eqn=>decide (q.At=o)) hf⟩
def j9T (g:Gm_)(r:Rule):Bool:=(reqL g r).any fun o=>!j4a r o
theorem k1J {g:Gm_}(h:GOk g){r:Rule}(hl:ROk r):z3n g r=some (j9T g r):=by
 unfold z3n j9T
 rw[j9J h hl,bsS]
 unfold q4y q4J
 rw[q6r (q:=fun o=>!j4a r o) fun k o ho=>by
  unfold q6h z2y q4x q4I
  rw[q6r (q:=fun q:Eqn=>decide (q.At=o)) fun k y hy=>by
   unfold q6g z0Y
   rw[bsS]
   by_cases h:y.At=o
   ·rw[decide_eq_true h];rfl
   ·rw[decide_eq_false h];rfl]
  rw[bsS,bsS,← apply_ite some];rfl]
 rfl
theorem k1K {g:Gm_}(h:GOk g){r:Rule}(hr:Sz.szd r≤1048576):z0e g r=some (j9T g r):=by
 unfold z0e j9T
 rw[j5x h (q8v hr),bsS,q5k (c:=true) (q:=j4a r) fun k o ho=>by
  unfold z5H
  rw[j2w hr o,bsS]
  dsimp only
  rw[k1I,← apply_ite some]]
 have e:((reqL g r).all (j4a r))=!((reqL g r).any fun o=>!j4a r o):=by rw[z9T]
 rw[e]
 cases (reqL g r).any fun o=>!j4a r o<;>rfl
def j4b (g:Gm_)(r:Rule):Bool:=(q4R (fun p (x:Eqn)=>!decide (x.At∈reqL g r)||p.any fun o=>decide (o.At=x.At)) [] r.Equations).isSome
theorem j9U {g:Gm_}(h:GOk g){r:Rule}(hl:ROk r):z6D g r=some (j4b g r):=by
 unfold z6D j4b
 rw[j9J h hl,bsS]
 rw[show findL (z6C r (reqL g r)) 0 r.Equations ()=_ from z5l (bad:=fun p (x:Eqn)=>!decide (x.At∈reqL g r)||p.any fun o=>decide (o.At=x.At)) (c:=fun _=>true) (all:=r.Equations) (f:=z6C r (reqL g r)) (fun pre x post e=>by
  unfold z6C
  rw[k3I,bsS]
  cases decide (x.At∈reqL g r) with
  | false=>rfl
  | true=>
   rw[ifP rfl,q3U (by rw[e];simp),show r.Equations.take pre.length=pre by rw[e];simp]
   unfold q4P q5a
   rw[q6r (q:=fun o:Eqn=>decide (o.At=x.At)) fun k y hy=>by
    unfold q6H z5w
    rw[bsS]
    by_cases h:y.At=x.At
    ·rw[decide_eq_true h];rfl
    ·rw[decide_eq_false h];rfl]
   rw[bsS,← apply_ite some];rfl) r.Equations [] rfl]
 cases q4R (fun p (x:Eqn)=>!decide (x.At∈reqL g r)||p.any fun o=>decide (o.At=x.At)) [] r.Equations<;>rfl
theorem j9V {g:Gm_}(h:GOk g){r:Rule}(hr:Sz.szd r≤1048576):z2d g r=some (j4b g r):=by
 have hl:=(k2B hr).1
 unfold z2d j4b
 rw[j5x h (q8v hr),bsS]
 have h1:=(z3F (bad:=fun p (x:Eqn)=>!decide (x.At∈reqL g r)||p.any fun o=>decide (o.At=x.At)) (nm:=fun y:Eqn=>y.At) (c:=fun _=>true) (all:=r.Equations)
  (f:=fun k x _=>some (if (!decide (x.At∈reqL g r)||(r.Equations.take k).any fun o=>decide (o.At=x.At))=true then .inr true else .inl ())) (h:=z2A (reqL g r)) (fun pre x post e=>by
   rw[show r.Equations.take pre.length=pre by rw[e];simp]) (fun pre x post e=>by
  unfold z2A
  rw[j9S,bsS]
  cases decide (x.At∈reqL g r) with
  | false=>rfl
  | true=>
   have hp:pre.length≤1048576:=by
     have:r.Equations.length=pre.length+(post.length+1):=by rw[e];simp
     omega
   have e2:decide (x.At∈pre.map fun y:Eqn=>y.At)=pre.any fun o=>decide (o.At=x.At):=by
    by_cases hm:x.At∈pre.map fun y:Eqn=>y.At
    ·rw[decide_eq_true hm];symm;rw[List.any_eq_true]
     obtain⟨y,hy,he⟩:=List.mem_map.1 hm
     exact⟨y,hy,by simpa using he⟩
    ·rw[decide_eq_false hm];symm;rw[List.any_eq_false]
     intro y hy he
     exact hm (List.mem_map.2 ⟨y,hy,by simpa using he⟩)
   rw[ifP rfl,j9S,bsS,e2,q3U (by rw[lnM];constructor<;>omega),List.map_append,← apply_ite some];rfl) r.Equations [] rfl).2
 rw[show findL (z2A (reqL g r)) 0 r.Equations []=_ from h1]
 cases q4R (fun p (x:Eqn)=>!decide (x.At∈reqL g r)||p.any fun o=>decide (o.At=x.At)) [] r.Equations<;>rfl
def useB (g:Gm_)(r:Rule)(e:Expr):Bool:=(attrs e).all (mayB g r)
theorem j2z {g:Gm_}(h:GOk g){r:Rule}(hl:ROk r){e:Expr}(he:Sz.szd e≤1048576):z0I g r e=some (useB g r e):=by
 unfold z0I useB
 rw[j6z he,bsS,q5k (c:=false) (q:=mayB g r) fun k x hx=>by
  unfold z9r
  rw[k3H h hl,bsS,← apply_ite some]]
 cases (attrs e).all (mayB g r)<;>rfl
theorem k1L (g:Gm_){r:Rule}(hl:ROk r){e:Expr}(he:Sz.szd e≤1048576):z1i e g r=some (!useB g r e):=by
 unfold z1i useB
 rw[j6w he,bsS]
 unfold q4t q4D
 rw[q6r (q:=fun o=>!mayB g r o) fun k o ho=>by
  unfold q5X z0Z
  rw[k3G g hl,bsS,bsS,← apply_ite some]]
 rw[bsS,← z9T,Bool.not_not]
def j0c (r:Rule):List Expr:=r.Equations.map (fun q=>q.Expr)++r.Contributions.flatMap fun q=>[q.Target,q.Value]
theorem k1M {r:Rule}(hr:Sz.szd r≤1048576):q9e r=some (j0c r):=by
 have hl:=k2B hr
 have h1:∀ (xs:List Eqn) (i:Nat) (s:List Expr),s.length+xs.length≤1048576→eachL q9U i xs s=some (s++xs.map fun q=>q.Expr):=by
  intro xs
  induction xs with
  | nil=>intro i s _;simp[eachL]
  | cons x xs ih=>
   intro i s hs
   simp only[lnC] at hs
   have e:q9U i x s=some (s++[x.Expr]):=by unfold q9U;rw[q3U (by constructor<;>omega)]
   rw[eachL,e,bsS,ih _ _ (by simp;omega)];simp
 have h2:∀ (xs:List Cn) (i:Nat) (s:List Expr),s.length+2*xs.length≤4194304→eachL q9V i xs s=some (s++xs.flatMap fun q=>[q.Target,q.Value]):=by
  intro xs
  induction xs with
  | nil=>intro i s _;simp[eachL]
  | cons x xs ih=>
   intro i s hs
   simp only[lnC] at hs
   have e:q9V i x s=some (s++[x.Target,x.Value]):=by
    unfold q9V;rw[q3U (by simp only[lnC,List.length_nil];constructor<;>omega)]
   rw[eachL,e,bsS,ih _ _ (by simp;omega)];simp
 unfold q9e j0c
 rw[h1 _ _ _ (by simpa using hl.1),bsS,h2 _ _ _ (by simp;omega)];simp
theorem k1N {r:Rule}{e:Expr}(h:e∈j0c r):Sz.szd e≤Sz.szd r:=by
 unfold j0c at h
 rcases List.mem_append.1 h with h|h
 ·obtain⟨q,hq,rfl⟩:=List.mem_map.1 h;exact z6j hq
 ·obtain⟨q,hq,he⟩:=List.mem_flatMap.1 h
  have:=z7a hq
  simp at he
  rcases he with rfl|rfl
  ·exact this.1
  ·exact this.2
def misB (g:Gm_)(r:Rule):Bool:=!(j0c r).all (useB g r)
theorem k3J (g:Gm_){r:Rule}(hr:Sz.szd r≤1048576):z3o g r=some (misB g r):=by
 unfold z3o misB
 rw[k1M hr,bsS]
 unfold q4U q5g
 rw[q6r (q:=fun e=>!useB g r e) fun k e he=>by
  unfold q6Z
  rw[k1L g (q8v hr) (Nat.le_trans (k1N he) hr),bsS,← apply_ite some]]
 rw[bsS,← z9T,Bool.not_not]
theorem k3K {g:Gm_}(h:GOk g){r:Rule}(hr:Sz.szd r≤1048576):z1m g r=some (misB g r):=by
 unfold z1m misB
 rw[q5k (c:=true) (q:=fun q:Eqn=>useB g r q.Expr) fun k x hx=>by
  unfold z6L
  rw[j2z h (q8v hr) (Nat.le_trans (z6j hx) hr),bsS,← apply_ite some]]
 rw[q5k (c:=true) (q:=fun q:Cn=>useB g r q.Target&&useB g r q.Value) fun k x hx=>by
  have hs:=z7a hx
  unfold z6M
  rw[j2z h (q8v hr) (Nat.le_trans hs.1 hr),bsS]
  cases useB g r x.Target with
  | false=>rfl
  | true=>rw[ifP rfl,j2z h (q8v hr) (Nat.le_trans hs.2 hr),bsS,← apply_ite some];rfl]
 have e:(j0c r).all (useB g r)=((r.Equations.all fun q=>useB g r q.Expr)&&r.Contributions.all fun q=>useB g r q.Target&&useB g r q.Value):=by
  unfold j0c
  rw[List.all_append,List.all_map,List.all_flatMap]
  congr 1
  congr 1;funext q;simp
 rw[e]
 cases r.Equations.all fun q=>useB g r q.Expr with
 | false=>rfl
 | true=>cases r.Contributions.all fun q=>useB g r q.Target&&useB g r q.Value<;>rfl
def z3H (g:Gm_)(r:Rule)(k:Int):Bool:=if k=3 then !j1q g r else if k=4 then j9T g r else if k=5 then j4b g r else misB g r
theorem j9W {g:Gm_}(h:GOk g){r:Rule}(hr:Sz.szd r≤1048576)(k:Int):z1n g r k=some (z3H g r k):=by
 unfold z1n z3H
 by_cases h3:k=3
 ·rw[ifP h3,ifP h3,j5C h (q8v hr)];rfl
 ·rw[ifN h3,ifN h3]
  by_cases h4:k=4
  ·rw[ifP h4,ifP h4,k1K h hr];rfl
  ·rw[ifN h4,ifN h4]
   by_cases h5:k=5
   ·rw[ifP h5,ifP h5,j9V h hr];rfl
   ·rw[ifN h5,ifN h5,k3K h hr];rfl
theorem j4c {g:Gm_}(h:GOk g){r:Rule}(hr:Sz.szd r≤1048576)(k:Int)(i:Nat):z1a g k i r ()=some (if z3H g r k=true then .inr (k,(i:Int)) else .inl ()):=by
 unfold z1a z3H
 by_cases h3:k=3
 ·rw[ifP h3,ifP h3,j5B g (q8v hr),bsS,← apply_ite some]
 ·rw[ifN h3,ifN h3]
  by_cases h4:k=4
  ·rw[ifP h4,ifP h4,k1J h (q8v hr),bsS,← apply_ite some]
  ·rw[ifN h4,ifN h4]
   by_cases h5:k=5
   ·rw[ifP h5,ifP h5,j9U h (q8v hr),bsS,← apply_ite some]
   ·rw[ifN h5,ifN h5,k3J g hr,bsS,← apply_ite some]
theorem j9X {g:Gm_}(h:GOk g){r:Rule}(hr:Sz.szd r≤1048576)(k:Int)(i:Nat):z1d g k i r ()=some (if z3H g r k=true then .inr (k,(i:Int)) else .inl ()):=by
 unfold z1d
 rw[j9W h hr,bsS,← apply_ite some]
theorem j0d {α σ ρ:Type}{f g:Nat→α→σ→Option (σ ⊕ ρ)}:∀ {xs:List α} {i:Nat} {s:σ},(∀ k x s,x∈xs→f k x s=g k x s)→findL f i xs s=findL g i xs s
 | [],_,_,_=>rfl
 | x::xs,i,s,h=>by
  rw[findL,findL,h i x s (by simp)]
  congr 1;funext z
  cases z with
  | inl s'=>exact j0d fun k y s hy=>h k y s (by simp[hy])
  | inr r=>rfl
theorem j5D {g:Gm_}(h:Sz.szd g≤1048576)(k:Int):z1e g k=q6o g k:=by
 unfold z1e q6o
 have e:findL (z1d g k) 0 g.Rules ()=findL (z1a g k) 0 g.Rules ():=j0d fun i x _ hx=>by
  have hr:=Nat.le_trans (z5m hx) h
  rw[j9X (z2V h) hr,j4c (z2V h) hr]
 rw[e]
def q7Q (g:Gm_)(k:Int):Option (Int×Int):=match g.Rules.findIdx? fun r=>z3H g r k with
 | some i=>some (k,(i:Int))
 | none=>none
theorem z5n {α ρ:Type}{q:α→Bool}{c:Nat→ρ}:∀ {xs:List α} {i:Nat} {f:Nat→α→Unit→Option (Unit ⊕ ρ)},(∀ k x,x∈xs→f k x ()=some (if q x=true then .inr (c k) else .inl ())) →
  findL f i xs ()=some (match xs.findIdx? q with|some j=>.inr (c (i+j))|none=>.inl ())
 | [],_,_,_=>rfl
 | x::xs,i,f,h=>by
  rw[findL,h i x (by simp),bsS,List.findIdx?_cons]
  by_cases hq:q x=true
  ·rw[ifP hq,ifP hq];rfl
  ·rw[ifN hq,ifN hq]
   have ih:=z5n (q:=q) (c:=c) (xs:=xs) (i:=i+1) (f:=f) fun k y hy=>h k y (by simp[hy])
   dsimp only
   rw[ih]
   cases xs.findIdx? q with
   | none=>rfl
   | some j=>simp only[Option.map_some];rw[show i+1+j=i+(j+1) by omega]
def z4q (g:Gm_):Int×Int:=
 if !decide (1≤g.Symbols.length∧g.Symbols.length≤4) || !decide (1≤g.Rules.length∧g.Rules.length≤8) then (1,0)
 else if 0≤z5L g then (1,z5L g)
 else if (g.Symbols.getD 0 zS).Attributes.any fun a=>decide (a.Mode=1) then (2,0)
 else (q7Q g 3 <|> (q7Q g 4 <|> (q7Q g 5 <|> q7Q g 6))).getD (0,0)
theorem j0e {g:Gm_}(h:Sz.szd g≤1048576):(q5w (q6o g) 3).bind (onr (fun r2=>some r2) fun ()=>some (0,0))=some ((q7Q g 3 <|> (q7Q g 4 <|> (q7Q g 5 <|> q7Q g 6))).getD (0,0)):=by
 have hstep:∀ k:Int,3≤k→k≤6→q6o g k=match q7Q g k with|some z=>some (.inr (.inr z))|none=>some (.inl (k+1)):=by
  intro k h3 h6
  unfold q6o q7Q
  rw[ifP h6,z5n (q:=fun r=>z3H g r k) (c:=fun i=>(k,(i:Int))) fun i x hx=>j4c (z2V h) (Nat.le_trans (z5m hx) h) k i]
  cases g.Rules.findIdx? fun r=>z3H g r k with
  | some i=>simp
  | none=>rw[bsS];dsimp only[onr];rw[q3U (by constructor<;>omega)]
 have hend:q6o g 7=some (.inr (.inl ())):=by unfold q6o;rw[ifN (by omega)]
 have h3:=hstep 3 (by omega) (by omega)
 have h4:=hstep 4 (by omega) (by omega)
 have h5:=hstep 5 (by omega) (by omega)
 have h6:=hstep 6 (by omega) (by omega)
 cases s3:q7Q g 3 with
 | some z=>rw[s3] at h3;rw[q4g h3];rfl
 | none=>
  rw[s3] at h3
  rw[q4X h3,show (3:Int)+1=4 by rfl]
  cases s4:q7Q g 4 with
  | some z=>rw[s4] at h4;rw[q4g h4];rfl
  | none=>
   rw[s4] at h4
   rw[q4X h4,show (4:Int)+1=5 by rfl]
   cases s5:q7Q g 5 with
   | some z=>rw[s5] at h5;rw[q4g h5];rfl
   | none=>
    rw[s5] at h5
    rw[q4X h5,show (5:Int)+1=6 by rfl]
    cases s6:q7Q g 6 with
    | some z=>rw[s6] at h6;rw[q4g h6];rfl
    | none=>
     rw[s6] at h6
     rw[q4X h6,show (6:Int)+1=7 by rfl,q4g hend];rfl
theorem j9Y {g:Gm_}(h:Sz.szd g≤1048576):q9W g=some (z4q g):=by
 unfold q9W z4q
 rw[z8f,bsS]
 by_cases h1:1≤g.Symbols.length∧g.Symbols.length≤4
 ·rw[decide_eq_true (by omega),ifP rfl,z8f,bsS,decide_eq_true h1]
  by_cases h2:1≤g.Rules.length∧g.Rules.length≤8
  ·rw[decide_eq_true (by omega),ifP rfl,j9Q h,bsS,decide_eq_true h2]
   simp only[Bool.not_true,Bool.or_self,Bool.false_eq_true,if_false]
   by_cases h3:0≤z5L g
   ·rw[ifP h3,ifP h3]
   ·rw[ifN h3,ifN h3,List.getD_eq_getElem?_getD,List.getElem?_eq_getElem (by omega:0<g.Symbols.length),bsS,Option.getD_some]
    unfold q4s q4C
    rw[q6r (q:=fun a:At_=>decide (a.Mode=1)) fun k y hy=>by
     unfold q5W q9T
     rw[bsS,← apply_ite some]]
    rw[bsS]
    by_cases h4:(g.Symbols[0].Attributes.any fun a=>decide (a.Mode=1))=true
    ·rw[ifP h4,ifP h4]
    ·rw[ifN h4,ifN h4]
     exact j0e h
  ·rw[decide_eq_false (by omega),decide_eq_false h2];rfl
 ·rw[decide_eq_false (by omega),decide_eq_false h1];rfl
theorem j9Z {g:Gm_}(h:Sz.szd g≤1048576):z0f g=some (z4q g):=by
 unfold z0f z4q
 rw[z5j,bsS]
 by_cases h1:1≤g.Symbols.length∧g.Symbols.length≤4
 ·rw[decide_eq_true (by omega),ifP rfl,z5j,bsS,decide_eq_true h1]
  by_cases h2:1≤g.Rules.length∧g.Rules.length≤8
  ·rw[decide_eq_true (by omega),ifP rfl,j9R h,bsS,decide_eq_true h2]
   simp only[Bool.not_true,Bool.or_self,Bool.false_eq_true,if_false]
   by_cases h3:0≤z5L g
   ·rw[ifP h3,ifP h3]
   ·rw[ifN h3,ifN h3,List.getD_eq_getElem?_getD,List.getElem?_eq_getElem (by omega:0<g.Symbols.length),bsS,Option.getD_some]
    rw[q5k (c:=((2:Int),(0:Int))) (q:=fun a:At_=>!decide (a.Mode=1)) fun k y hy=>by
     unfold z5I
     by_cases hm:y.Mode=1
     ·rw[ifP hm,ifN (by simp[hm])]
     ·rw[ifN hm,ifP (by simp[hm])]]
    have e:(g.Symbols[0].Attributes.all fun a=>!decide (a.Mode=1))=!(g.Symbols[0].Attributes.any fun a=>decide (a.Mode=1)):=by rw[List.not_any_eq_all_not]
    rw[e]
    cases (g.Symbols[0].Attributes.any fun a=>decide (a.Mode=1)) with
    | true=>rfl
    | false=>
     rw[Bool.not_false,ifP rfl,bsS,z3L,ifN (by simp),show z1e g=q6o g from funext fun k=>j5D h k]
     exact j0e h
  ·rw[decide_eq_false (by omega),decide_eq_false h2];rfl
 ·rw[decide_eq_false (by omega),decide_eq_false h1];rfl
theorem z5B {α:Type}{bad:List α→α→Bool}:∀ (xs pre:List α),q4R bad pre xs=none→∀ k x,xs[k]?=some x→bad (pre++xs.take k) x=false
 | [],pre,h,k,x,hx=>by simp at hx
 | y::xs,pre,h,k,x,hx=>by
  rw[q4R] at h
  by_cases hb:bad pre y=true
  ·rw[ifP hb] at h;cases h
  ·rw[ifN hb] at h
   cases k with
   | zero=>simp at hx;subst hx;simpa using hb
   | succ k=>
    have:=z5B xs (pre++[y]) h k x (by simpa using hx)
    simpa using this
structure Shape (g:Gm_):Prop where
 syms:1≤g.Symbols.length∧g.Symbols.length≤4
 rules:1≤g.Rules.length∧g.Rules.length≤8
 sym:q4R z3G [] g.Symbols=none
 rule:q4R z1w [] g.Rules=none
 brk:∀ k:Int,3≤k→k≤6→∀ r∈g.Rules,z3H g r k=false
 j3a:∀ y a,g.Symbols[0]?=some y→a∈y.Attributes→a.Mode≠1
theorem j6I {g:Gm_}(h:(z4q g).1=0):Shape g:=by
 unfold z4q at h
 by_cases h1:1≤g.Symbols.length∧g.Symbols.length≤4
 ·by_cases h2:1≤g.Rules.length∧g.Rules.length≤8
  ·rw[decide_eq_true h1,decide_eq_true h2] at h
   simp only[Bool.not_true,Bool.or_self,Bool.false_eq_true,if_false] at h
   by_cases h3:0≤z5L g
   ·rw[ifP h3] at h;simp at h
   ·rw[ifN h3] at h
    by_cases h4:((g.Symbols.getD 0 zS).Attributes.any fun a=>decide (a.Mode=1))=true
    ·rw[ifP h4] at h;simp at h
    ·rw[ifN h4] at h
     have hf:q4R z3G [] g.Symbols=none∧q4R z1w [] g.Rules=none:=by
      unfold z5L at h3
      cases e1:q4R z3G [] g.Symbols with
      | some k=>rw[e1] at h3;exact absurd (Int.natCast_nonneg k) h3
      | none=>
       cases e2:q4R z1w [] g.Rules with
       | some k=>rw[e1,e2] at h3;exact absurd (Int.natCast_nonneg k) h3
       | none=>exact⟨rfl,rfl⟩
     have hk:∀ k:Int,q7Q g k=none→∀ r∈g.Rules,z3H g r k=false:=by
      intro k hk r hr
      unfold q7Q at hk
      cases e:g.Rules.findIdx? fun r=>z3H g r k with
      | some i=>rw[e] at hk;cases hk
      | none=>
       rw[List.findIdx?_eq_none_iff] at e
       exact e r hr
     have hc:∀ k:Int,3≤k→∀ z,q7Q g k=some z→z.1≠0:=by
      intro k h3 z hz
      unfold q7Q at hz
      cases e:g.Rules.findIdx? fun r=>z3H g r k with
      | none=>rw[e] at hz;cases hz
      | some i=>rw[e] at hz;cases hz;show k≠0;omega
     have n3:q7Q g 3=none:=by
      cases e:q7Q g 3 with
      | none=>rfl
      | some z=>rw[e] at h;exact absurd h (hc 3 (by omega) z e)
     rw[n3] at h
     have n4:q7Q g 4=none:=by
      cases e:q7Q g 4 with
      | none=>rfl
      | some z=>rw[e] at h;exact absurd h (hc 4 (by omega) z e)
     rw[n4] at h
     have n5:q7Q g 5=none:=by
      cases e:q7Q g 5 with
      | none=>rfl
      | some z=>rw[e] at h;exact absurd h (hc 5 (by omega) z e)
     rw[n5] at h
     have n6:q7Q g 6=none:=by
      cases e:q7Q g 6 with
      | none=>rfl
      | some z=>rw[e] at h;exact absurd h (hc 6 (by omega) z e)
     refine⟨h1,h2,hf.1,hf.2,fun k k3 k6=>?_,fun y a hy ha hm=>h4 ?_⟩
     ·have:k=3∨k=4∨k=5∨k=6:=by omega
      rcases this with rfl|rfl|rfl|rfl
      ·exact hk _ n3
      ·exact hk _ n4
      ·exact hk _ n5
      ·exact hk _ n6
     ·rw[List.getD_eq_getElem?_getD,hy,List.any_eq_true]
      exact⟨a,ha,by simpa using hm⟩
  ·rw[decide_eq_false h2] at h;simp at h
 ·rw[decide_eq_false h1] at h;simp at h
theorem Shape.ruleB {g:Gm_}(h:Shape g){r:Rule}(hr:r∈g.Rules):ruleB r=true:=by
 obtain⟨k,hk⟩:=List.getElem?_of_mem hr
 have:=z5B _ _ h.rule k r hk
 unfold z1w at this
 rw[Bool.or_eq_false_iff] at this
 simpa using this.1
theorem Shape.symB {g:Gm_}(h:Shape g){y:Symbol}(hy:y∈g.Symbols):symB y=true:=by
 obtain⟨k,hk⟩:=List.getElem?_of_mem hy
 have:=z5B _ _ h.sym k y hk
 unfold z3G at this
 rw[Bool.or_eq_false_iff] at this
 simpa using this.1
theorem Shape.pos {g:Gm_}(h:Shape g){r:Rule}(hr:r∈g.Rules){q:Eqn}(hq:q∈r.Equations):0≤q.At.Pos∧q.At.Pos≤(r.Right.length:Int):=by
 have:=h.ruleB hr
 unfold Go.Proofs.YtomdlgffolbdkaaGreat.ruleB at this
 simp only[Bool.and_eq_true,List.all_eq_true] at this
 have:=this.2.2.2.1 q hq
 unfold eqnB at this
 simp only[Bool.and_eq_true,decide_eq_true_eq] at this
 exact this.2.2
def typK (g:Gm_)(r:Rule)(k n p t:Int)(sy nm:ByteArray)(ts:List Int):Int:=
 if k=1 then t else if k=2 then (if r.Literal=true then 1 else 0) else if k=3 then (z0y g r ⟨p,nm⟩).1.Type_
 else if k=4 then (if ts.length=2∧ts.getD 0 0=(opT n).1∧ts.getD 1 0=(opT n).2.1 then (opT n).2.2 else 0)
 else if k=5 then (if ts.length=3∧ts.getD 0 0=3∧ts.getD 1 0=ts.getD 2 0 then ts.getD 1 0 else 0)
 else if k=6 then (if 0≤p∧p≤(r.Right.length:Int) then 4 else 0) else if k=7 then 4
 else if k=8 then (if ts.length=1∧ts.getD 0 0=4 then (z2p (q6M g sy).1 nm).1.Type_ else 0) else 0
mutual
def typE (g:Gm_)(r:Rule):Expr→Int
 | ⟨k,n,p,t,sy,nm,a⟩=>typK g r k n p t sy nm (k1O g r a)
def k1O (g:Gm_)(r:Rule):List Expr→List Int
 | []=>[]
 | x::xs=>typE g r x::k1O g r xs
end
theorem j6J (g:Gm_)(r:Rule):∀ l,k1O g r l=l.map (typE g r)
 | []=>rfl
 | x::xs=>by rw[k1O,j6J g r xs];rfl
theorem k0a (g:Gm_)(r:Rule)(e:Expr):typE g r e=typK g r e.Kind e.N e.Pos e.Type_ e.Symbol e.Name (e.Args.map (typE g r)):=by
 cases e;rw[typE,j6J]
theorem j4d {y:Symbol}{s:ByteArray}(h:(z2p y s).2≠true):(z2p y s).1=zA:=by
 unfold z2p at h ⊢
 cases hf:y.Attributes.find? (fun a=>decide (a.Name=s)) with
 | none=>rfl
 | some a=>rw[hf] at h;exact absurd rfl h
theorem j5E {g:Gm_}(h:GOk g)(s nm:ByteArray):q7c g s nm=some (z2p (q6M g s).1 nm).1.Type_:=by
 unfold q7c
 rw[z1q h,bsS]
 try dsimp only
 rw[j0a,bsS]
 try dsimp only
 by_cases hb:(z2p (q6M g s).1 nm).2=true
 ·rw[ifP hb]
 ·rw[ifN hb,j4d hb];rfl
theorem k1P (g:Gm_){r:Rule}(hl:ROk r)(e:Expr):∀ m,fuE e≤m→Sz.szd e≤1048576→q7V m g r e=some (typE g r e):=by
 induction e using z1g with
 | h e ih=>
  intro m hm hs
  obtain⟨m,rfl⟩:∃ q,m=q+1:=⟨m-1,by have:=z5e e;omega⟩
  show q9X (q7V m) g r e=_
  have hlen:e.Args.length≤1048576:=by have:=q6u e;have:=q7g e.Args;omega
  have hloop:∀ (xs:List Expr) (i:Nat) (s:List Int),(∀ x∈xs,x∈e.Args)→s.length+xs.length≤1048576→eachL (z1b (q7V m) g r) i xs s=some (s++xs.map (typE g r)):=by
   intro xs
   induction xs with
   | nil=>intro i s _ _;simp[eachL]
   | cons x xs ihx=>
    intro i s hx hn
    simp only[lnC] at hn
    have e1:z1b (q7V m) g r i x s=some (s++[typE g r x]):=by
     unfold z1b
     have hxe:=hx x (by simp)
     rw[ih x hxe m (by have:=z4p hxe;omega) (by have:=k2w hxe;omega),bsS,q3U (by constructor<;>omega)]
    rw[eachL,e1,bsS,ihx _ _ (fun y hy=>hx y (by simp[hy])) (by simp;omega)];simp
  unfold q9X
  rw[hloop e.Args 0 [] (fun _ h=>h) (by simpa using hlen),bsS,List.nil_append,k0a]
  generalize e.Args.map (typE g r)=ts
  unfold typK
  by_cases k1:e.Kind=1
  ·rw[ifP k1,ifP k1]
  rw[ifN k1,ifN k1]
  by_cases k2:e.Kind=2
  ·rw[ifP k2,ifP k2,bsS]
   by_cases hL:r.Literal=true
   ·rw[ifP hL,ifP hL]
   ·rw[ifN hL,ifN hL]
    simp[k2]
  rw[ifN k2,ifN k2,bsS,ifN (by simp)]
  by_cases k3:e.Kind=3
  ·rw[ifP k3,ifP k3,z7M g hl];rfl
  rw[ifN k3,ifN k3]
  by_cases k4:e.Kind=4
  ·rw[ifP k4,ifP k4,bsS]
   by_cases hn:ts.length=2
   ·obtain⟨a,b,rfl⟩:∃ a b,ts=[a,b]:=by
     match ts,hn with
     | [a,b],_=>exact⟨a,b,rfl⟩
    rw[ifP (by simp),k3o,bsS]
    simp only[List.getElem?_cons_zero,List.getElem?_cons_succ,bsS,List.getD_cons_zero,List.getD_cons_succ]
    by_cases ha:a=(opT e.N).1
    ·rw[ifP ha,bsS]
     by_cases hb:b=(opT e.N).2.1
     ·rw[ifP (by simp[hb]),ifP ⟨hn,ha,hb⟩]
     ·rw[ifN (by simp[hb]),ifN fun h=>hb h.2.2]
    ·rw[ifN ha,bsS,ifN (by simp),ifN fun h=>ha h.2.1]
   ·have hz:(if ts.length=2∧ts.getD 0 0=(opT e.N).1∧ts.getD 1 0=(opT e.N).2.1 then (opT e.N).2.2 else 0)=0:=ifN fun h=>hn h.1
    rw[hz,ifN (by simp;omega)]
    simp[k4]
  rw[ifN k4,ifN k4,bsS,ifN (by simp)]
  by_cases k5:e.Kind=5
  ·rw[ifP k5,ifP k5,bsS]
   by_cases hn:ts.length=3
   ·obtain⟨a,b,c,rfl⟩:∃ a b c,ts=[a,b,c]:=by
     match ts,hn with
     | [a,b,c],_=>exact⟨a,b,c,rfl⟩
    rw[ifP (by simp)]
    simp only[List.getElem?_cons_zero,List.getElem?_cons_succ,bsS,List.getD_cons_zero,List.getD_cons_succ]
    by_cases ha:a=3
    ·rw[ifP ha]
     by_cases hb:b=c
     ·rw[ifP hb,ifP ⟨hn,ha,hb⟩]
     ·rw[ifN hb,ifN fun h=>hb h.2.2]
    ·rw[ifN ha,ifN fun h=>ha h.2.1]
   ·have hz:(if ts.length=3∧ts.getD 0 0=3∧ts.getD 1 0=ts.getD 2 0 then ts.getD 1 0 else 0)=0:=ifN fun h=>hn h.1
    rw[hz,ifN (by simp;omega)]
    simp[k5]
  rw[ifN k5,ifN k5,bsS,ifN (by simp)]
  by_cases k6:e.Kind=6
  ·rw[ifP k6,ifP k6,z8f,bsS,bsS]
   by_cases hp:0≤e.Pos∧e.Pos≤(r.Right.length:Int)
   ·rw[decide_eq_true hp,ifP hp];rfl
   ·rw[decide_eq_false hp,ifN hp]
    simp[k6]
  rw[ifN k6,ifN k6,bsS,ifN (by simp),bsS]
  by_cases k7:e.Kind=7
  ·rw[ifP (by simp[k7]),ifP k7]
  rw[ifN (by simp[k7]),ifN k7]
  by_cases k8:e.Kind=8
  ·rw[ifP k8,ifP k8,bsS]
   by_cases hn:ts.length=1
   ·obtain⟨a,rfl⟩:∃ a,ts=[a]:=by
     match ts,hn with
     | [a],_=>exact⟨a,rfl⟩
    rw[ifP (by simp)]
    simp only[List.getElem?_cons_zero,bsS,List.getD_cons_zero]
    by_cases ha:a=4
    ·rw[ifP (by simp[ha]),ifP ⟨hn,ha⟩,z2q,bsS]
     try dsimp only
     rw[z6Z];rfl
    ·rw[ifN (by simp[ha]),ifN fun h=>ha h.2]
   ·rw[ifN (by simp;omega),ifN fun h=>hn h.1];rfl
  rw[ifN k8,ifN k8];rfl
theorem j5F (g:Gm_){r:Rule}(hl:ROk r){e:Expr}(hs:Sz.szd e≤1048576):q9Y g r e=some (typE g r e):=q9H (fuE e) fun m hm=>k1P g hl e m hm hs
theorem k1Q {g:Gm_}(h:GOk g){r:Rule}(hl:ROk r)(e:Expr):∀ m,fuE e≤m→q8J m g r e=some (typE g r e):=by
 induction e using z1g with
 | h e ih=>
  intro m hm
  obtain⟨m,rfl⟩:∃ q,m=q+1:=⟨m-1,by have:=z5e e;omega⟩
  show z0g (q8J m) g r e=_
  have hx:∀ x∈e.Args,q8J m g r x=some (typE g r x):=fun x hxe=>ih x hxe m (by have:=z4p hxe;omega)
  unfold z0g
  rw[k0a]
  unfold typK
  by_cases k1:e.Kind=1
  ·rw[ifP k1,ifP k1]
  rw[ifN k1,ifN k1]
  by_cases k2:e.Kind=2
  ·rw[ifP k2,ifP k2,← apply_ite some]
  rw[ifN k2,ifN k2]
  by_cases k3:e.Kind=3
  ·rw[ifP k3,ifP k3,z5j,bsS]
   unfold z0y
   by_cases hp:0≤e.Pos∧e.Pos≤(r.Right.length:Int)
   ·rw[ifP (by simpa using hp),ifP hp,z4e hl,bsS,j5E h];rfl
   ·rw[ifN (by simpa using hp),ifN hp];rfl
  rw[ifN k3,ifN k3]
  by_cases k4:e.Kind=4
  ·rw[ifP k4,ifP k4]
   unfold z8E
   rw[k3p,bsS]
   try dsimp only
   by_cases hn:e.Args.length=2
   ·obtain⟨a,b,hab⟩:∃ a b,e.Args=[a,b]:=by
     match e.Args,hn with
     | [a,b],_=>exact⟨a,b,rfl⟩
    rw[hab] at hx
    rw[hab,ifP (by simp)]
    simp only[List.getElem?_cons_zero,List.getElem?_cons_succ,bsS,List.map_cons,List.map_nil,List.getD_cons_zero,List.getD_cons_succ]
    rw[hx a (by simp),bsS]
    by_cases ha:typE g r a=(opT e.N).1
    ·rw[ifP ha,hx b (by simp),bsS]
     by_cases hb:typE g r b=(opT e.N).2.1
     ·rw[ifP hb,ifP ⟨by simp,ha,hb⟩];rfl
     ·rw[ifN hb,ifN fun h=>hb h.2.2];rfl
    ·rw[ifN ha,ifN fun h=>ha h.2.1];rfl
   ·rw[ifN (by omega),ifN fun h=>hn (by simpa using h.1)];rfl
  rw[ifN k4,ifN k4]
  by_cases k5:e.Kind=5
  ·rw[ifP k5,ifP k5]
   unfold z8F
   by_cases hn:e.Args.length=3
   ·obtain⟨a,b,c,hab⟩:∃ a b c,e.Args=[a,b,c]:=by
     match e.Args,hn with
     | [a,b,c],_=>exact⟨a,b,c,rfl⟩
    rw[hab] at hx
    rw[hab,ifP (by simp)]
    simp only[List.getElem?_cons_zero,List.getElem?_cons_succ,bsS,List.map_cons,List.map_nil,List.getD_cons_zero,List.getD_cons_succ]
    rw[hx a (by simp),bsS]
    by_cases ha:typE g r a=3
    ·rw[ifP ha,hx b (by simp),bsS,hx c (by simp),bsS]
     by_cases hb:typE g r b=typE g r c
     ·rw[ifP hb,ifP ⟨by simp,ha,hb⟩];rfl
     ·rw[ifN hb,ifN fun h=>hb h.2.2];rfl
    ·rw[ifN ha,ifN fun h=>ha h.2.1];rfl
   ·rw[ifN (by omega),ifN fun h=>hn (by simpa using h.1)];rfl
  rw[ifN k5,ifN k5]
  by_cases k6:e.Kind=6
  ·rw[ifP k6,ifP k6,z5j,bsS]
   by_cases hp:0≤e.Pos∧e.Pos≤(r.Right.length:Int)
   ·rw[ifP (by simpa using hp),ifP hp]
   ·rw[ifN (by simpa using hp),ifN hp]
  rw[ifN k6,ifN k6]
  by_cases k7:e.Kind=7
  ·rw[ifP k7,ifP k7]
  rw[ifN k7,ifN k7]
  by_cases k8:e.Kind=8
  ·rw[ifP k8,ifP k8]
   by_cases hn:e.Args.length=1
   ·obtain⟨a,hab⟩:∃ a,e.Args=[a]:=by
     match e.Args,hn with
     | [a],_=>exact⟨a,rfl⟩
    rw[hab] at hx
    rw[hab,ifP (by simp)]
    simp only[List.getElem?_cons_zero,bsS,List.map_cons,List.map_nil,List.getD_cons_zero]
    rw[hx a (by simp),bsS]
    by_cases ha:typE g r a=4
    ·rw[ifP ha,ifP ⟨by simp,ha⟩,j5E h];rfl
    ·rw[ifN ha,ifN fun h=>ha h.2]
   ·rw[ifN (by omega),ifN fun h=>hn (by simpa using h.1)]
  rw[ifN k8,ifN k8]
theorem j5G {g:Gm_}(h:GOk g){r:Rule}(hl:ROk r)(e:Expr):z0h g r e=some (typE g r e):=q9H (fuE e) fun m hm=>k1Q h hl e m hm
def conT (g:Gm_)(r:Rule)(q:Cn):Bool:=(decide (typE g r q.Target=4)&&decide (typE g r q.Value=2))&&decide ((z2p (q6M g q.Symbol).1 q.Name).1.Mode=3)
def typR (g:Gm_)(r:Rule):Bool:=(r.Equations.all fun q=>decide (typE g r q.Expr=(z0y g r q.At).1.Type_))&&r.Contributions.all (conT g r)
theorem k1R (g:Gm_){r:Rule}(hr:Sz.szd r≤1048576):z1Z g r=some (!typR g r):=by
 have hl:=q8v hr
 unfold z1Z typR
 rw[q5k (c:=true) (q:=fun q:Eqn=>decide (typE g r q.Expr=(z0y g r q.At).1.Type_)) fun k x hx=>by
  unfold z7X
  rw[z7M g hl,bsS]
  try dsimp only
  rw[j5F g hl (Nat.le_trans (z6j hx) hr),bsS]
  by_cases hp:typE g r x.Expr=(z0y g r x.At).1.Type_
  ·rw[ifP hp,ifP (by simpa using hp)]
  ·rw[ifN hp,ifN (by simpa using hp)]]
 rw[q5k (c:=true) (q:=conT g r) fun k x hx=>by
  have hs:=z7a hx
  unfold z7Y conT
  rw[z2q,bsS]
  try dsimp only
  rw[z6Z,bsS]
  try dsimp only
  rw[j5F g hl (Nat.le_trans hs.1 hr),bsS]
  by_cases h1:typE g r x.Target=4
  ·rw[ifP h1,j5F g hl (Nat.le_trans hs.2 hr),bsS,bsS,decide_eq_true h1]
   cases decide (typE g r x.Value=2) with
   | false=>rfl
   | true=>
    rw[Bool.not_true,ifN (by simp),bsS]
    cases decide ((z2p (q6M g x.Symbol).1 x.Name).1.Mode=3)<;>rfl
  ·rw[ifN h1,decide_eq_false h1];rfl]
 cases r.Equations.all fun q=>decide (typE g r q.Expr=(z0y g r q.At).1.Type_) with
 | false=>rfl
 | true=>cases r.Contributions.all (conT g r)<;>rfl
theorem k1S {g:Gm_}(h:GOk g){r:Rule}(hr:Sz.szd r≤1048576)(hp:∀ q∈r.Equations,0≤q.At.Pos∧q.At.Pos≤(r.Right.length:Int)):z3s g r=some (typR g r):=by
 have hl:=q8v hr
 unfold z3s typR
 rw[q5k (c:=false) (q:=fun q:Eqn=>decide (typE g r q.Expr=(z0y g r q.At).1.Type_)) fun k x hx=>by
  unfold z9s
  rw[j5G h hl,bsS,z4e hl,bsS,j5E h,bsS]
  have e:(z2p (q6M g (q8l r x.At.Pos)).1 x.At.Name).1.Type_=(z0y g r x.At).1.Type_:=by unfold z0y;rw[ifP (hp x hx)]
  rw[e]
  by_cases hp:typE g r x.Expr=(z0y g r x.At).1.Type_
  ·rw[ifP hp,ifP (by simpa using hp)]
  ·rw[ifN hp,ifN (by simpa using hp)]]
 rw[q5k (c:=false) (q:=conT g r) fun k x hx=>by
  unfold z9t conT
  rw[z1q h,bsS]
  try dsimp only
  rw[j0a,bsS]
  try dsimp only
  have e:(if (z2p (q6M g x.Symbol).1 x.Name).2=true then some (!decide ((z2p (q6M g x.Symbol).1 x.Name).1.Mode=3)) else some true)=some (!decide ((z2p (q6M g x.Symbol).1 x.Name).1.Mode=3)):=by
   by_cases hb:(z2p (q6M g x.Symbol).1 x.Name).2=true
   ·rw[ifP hb]
   ·rw[ifN hb,j4d hb];rfl
  rw[e,bsS]
  cases decide ((z2p (q6M g x.Symbol).1 x.Name).1.Mode=3) with
  | false=>rw[Bool.and_false];rfl
  | true=>
   rw[Bool.not_true,ifN (by simp),j5G h hl,bsS,bsS]
   cases decide (typE g r x.Target=4) with
   | false=>rfl
   | true=>
    rw[Bool.not_true,ifN (by simp),j5G h hl,bsS,bsS]
    cases decide (typE g r x.Value=2)<;>rfl]
 cases r.Equations.all fun q=>decide (typE g r q.Expr=(z0y g r q.At).1.Type_) with
 | false=>rfl
 | true=>cases r.Contributions.all (conT g r)<;>rfl
def atS (g:Gm_)(n:ByteArray):Option Nat:=g.Symbols.findIdx? fun y=>decide (y.Name=n)
def atI (g:Gm_)(n:ByteArray):Int:=match atS g n with
 | some j=>(j:Int)
 | none=>-1
theorem z2s {α ρ:Type}{q:α→Bool}{c:Nat→ρ}:∀ {xs:List α} {i:Nat} {f:Nat→α→Unit→Option (Unit ⊕ ρ)},(∀ j x,xs[j]?=some x→f (i+j) x ()=some (if q x=true then .inr (c (i+j)) else .inl ())) →
  findL f i xs ()=some (match xs.findIdx? q with|some j=>.inr (c (i+j))|none=>.inl ())
 | [],_,_,_=>rfl
 | x::xs,i,f,h=>by
  rw[findL,show f i x ()=_ from h 0 x rfl,bsS,List.findIdx?_cons]
  by_cases hq:q x=true
  ·rw[ifP hq,ifP hq]
  ·rw[ifN hq,ifN hq]
   have ih:=z2s (q:=q) (c:=c) (xs:=xs) (i:=i+1) (f:=f) fun j y hy=>by
    have:=h (j+1) y (by simpa using hy)
    rw[show i+1+j=i+(j+1) by omega];exact this
   dsimp only
   rw[ih]
   cases xs.findIdx? q with
   | none=>rfl
   | some j=>simp only[Option.map_some];rw[show i+1+j=i+(j+1) by omega]
theorem k0b (g:Gm_)(n:ByteArray):z1D g n=some (atI g n):=by
 unfold z1D atI atS
 rw[z2s (q:=fun y:Symbol=>decide (y.Name=n)) (c:=fun k=>(k:Int)) fun j x hx=>by
  unfold j3z
  by_cases hn:x.Name=n
  ·rw[ifP hn,ifP (by simpa using hn)]
  ·rw[ifN hn,ifN (by simpa using hn)]]
 cases g.Symbols.findIdx? fun y=>decide (y.Name=n) with
 | none=>rfl
 | some j=>dsimp only;rw[Nat.zero_add];rfl
theorem k4B {g:Gm_}{n:ByteArray}{j:Nat}(h:atS g n=some j):j<g.Symbols.length:=by
 unfold atS at h
 rw[List.findIdx?_eq_some_iff_getElem] at h
 exact h.1
def okAt (g:Gm_)(hs:List Int)(n:ByteArray):Bool:=match atS g n with
 | some j=>decide (0<hs.getD j 0)
 | none=>false
def z5o (g:Gm_)(hs:List Int)(n:ByteArray):Bool:=g.Rules.any fun r=>decide (r.Left=n)&&r.Right.all (okAt g hs)
theorem j0f {α:Type}{q:α→Bool}{f:Nat→α→Bool→Option Bool}:∀ (xs:List α) (i:Nat) (b:Bool),(∀ k x s,x∈xs→f k x s=some (s&&q x))→eachL f i xs b=some (b&&xs.all q)
 | [],_,b,_=>by simp[eachL]
 | x::xs,i,b,h=>by
  rw[eachL,h i x b (by simp),bsS,j0f xs (i+1) _ fun k y s hy=>h k y s (by simp[hy]),List.all_cons,Bool.and_assoc]
theorem getD_some {hs:List Int}{j:Nat}(h:j<hs.length):hs[j]?=some (hs.getD j 0):=by
 rw[List.getD_eq_getElem?_getD,List.getElem?_eq_getElem h];rfl
theorem k4C {g:Gm_}{hs:List Int}(hl:hs.length=g.Symbols.length)(n:ByteArray):z1j n g hs=some (match atS g n with|some j=>hs.getD j 0|none=>0):=by
 unfold z1j atS
 rw[z2s (q:=fun y:Symbol=>decide (y.Name=n)) (c:=fun k=>hs.getD k 0) fun j x hx=>by
  unfold z6E
  have hj:j<g.Symbols.length:=(List.getElem?_eq_some_iff.1 hx).1
  by_cases hn:x.Name=n
  ·rw[ifP hn,ifP (by simpa using hn),Nat.zero_add,getD_some (by omega)];rfl
  ·rw[ifN hn,ifN (by simpa using hn)]]
 cases g.Symbols.findIdx? fun y=>decide (y.Name=n) with
 | none=>rfl
 | some j=>dsimp only;rw[Nat.zero_add];rfl
theorem j8g {g:Gm_}{hs:List Int}(hl:hs.length=g.Symbols.length)(xs:List ByteArray)(b:Bool):eachL (z5T g hs) 0 xs b=some (b&&xs.all (okAt g hs)):=
 j0f xs 0 b fun k x s _=>by
  unfold z5T okAt
  cases s with
  | false=>rfl
  | true=>
   rw[ifP rfl,k4C hl,bsS,bsS,Bool.true_and]
   cases atS g x<;>rfl
theorem j8h {g:Gm_}{hs:List Int}(hl:hs.length=g.Symbols.length)(xs:List ByteArray)(b:Bool):eachL (z2O g hs) 0 xs b=some (b&&xs.all (okAt g hs)):=
 j0f xs 0 b fun k x s _=>by
  unfold z2O okAt
  rw[k0b,bsS]
  unfold atI
  cases s with
  | false=>rfl
  | true=>
   cases hj:atS g x with
   | none=>rfl
   | some j=>
    have:=k4B hj
    dsimp only
    rw[ifP rfl,bsS,decide_eq_true (Int.natCast_nonneg j),ifP rfl]
    unfold q9L
    by_cases h0:(0:Int)<(j:Int)
    ·rw[ifP h0,bsS,q3U (Int.natCast_nonneg j),tnC,getD_some (by omega)];rfl
    ·obtain rfl:j=0:=by omega
     rw[ifN h0,bsS,q3U (by omega),show (0:Int).toNat=0 from rfl,getD_some (by omega)];rfl
theorem k0c {g:Gm_}{hs:List Int}(hl:hs.length=g.Symbols.length)(n:ByteArray):z0i g n hs=some (z5o g hs n):=by
 unfold z0i z5o
 rw[q5k (c:=true) (q:=fun r:Rule=>!(decide (r.Left=n)&&r.Right.all (okAt g hs))) fun k x hx=>by
  unfold z5J
  rw[j8h hl,bsS]
  cases (decide (x.Left=n)&&x.Right.all (okAt g hs))<;>rfl]
 have e:(g.Rules.all fun r=>!(decide (r.Left=n)&&r.Right.all (okAt g hs)))=!(g.Rules.any fun r=>decide (r.Left=n)&&r.Right.all (okAt g hs)):=by rw[List.not_any_eq_all_not]
 rw[e]
 cases g.Rules.any fun r=>decide (r.Left=n)&&r.Right.all (okAt g hs)<;>rfl
def HsOk (g:Gm_)(hs:List Int):Prop:=hs.length=g.Symbols.length∧∀ j,0≤hs.getD j 0
theorem HsOk.set {g:Gm_}{hs:List Int}(h:HsOk g hs){k:Nat}{v:Int}(hv:0≤v):HsOk g (hs.set k v):=by
 refine⟨by simpa using h.1,fun j=>?_⟩
 rw[List.getD_eq_getElem?_getD,List.getElem?_set]
 split
 ·split
  ·exact hv
  ·simp
 ·rw[← List.getD_eq_getElem?_getD];exact h.2 j
theorem k0d {g:Gm_}{hs:List Int}(hl:hs.length=g.Symbols.length){v:Int}(k:Nat)(x:Symbol)(hk:k<g.Symbols.length):∀ (rs:List Rule) (i:Nat) (s:List Int),s.length=g.Symbols.length →
  eachL (z3R g v hs k x) i rs s=some (if (rs.any fun r=>decide (r.Left=x.Name)&&r.Right.all (okAt g hs))=true then s.set k v else s)
 | [],i,s,_=>by simp[eachL]
 | r::rs,i,s,hs'=>by
  have e:z3R g v hs k x i r s=some (if (decide (r.Left=x.Name)&&r.Right.all (okAt g hs))=true then s.set k v else s):=by
   unfold z3R
   rw[j8g hl,bsS]
   cases (decide (r.Left=x.Name)&&r.Right.all (okAt g hs)) with
   | false=>rfl
   | true=>rw[ifP rfl,ifP rfl,List.getElem?_eq_getElem (by omega)];rfl
  rw[eachL,e,bsS]
  by_cases hb:(decide (r.Left=x.Name)&&r.Right.all (okAt g hs))=true
  ·rw[ifP hb,k0d hl k x hk rs (i+1) (s.set k v) (by simpa using hs')]
   have:(r::rs).any (fun r=>decide (r.Left=x.Name)&&r.Right.all (okAt g hs))=true:=by rw[List.any_cons,hb];rfl
   rw[ifP this,List.set_set,ite_self]
  ·rw[ifN hb,k0d hl k x hk rs (i+1) s hs']
   have:(r::rs).any (fun r=>decide (r.Left=x.Name)&&r.Right.all (okAt g hs))=rs.any (fun r=>decide (r.Left=x.Name)&&r.Right.all (okAt g hs)):=by rw[List.any_cons,Bool.eq_false_iff.2 hb];rfl
   rw[this]
theorem k5c {g:Gm_}{hs:List Int}(h:HsOk g hs){v:Int}{k:Nat}{x:Symbol}(hk:k<g.Symbols.length){s:List Int}(hs' : s.length=g.Symbols.length) :
  z3S g v hs k x s=some (if (decide (hs.getD k 0=0)&&z5o g hs x.Name)=true then s.set k v else s):=by
 have h0:=h.2 k
 unfold z3S
 rw[getD_some (by rw[h.1];exact hk),bsS]
 by_cases hz:hs.getD k 0=0
 ·rw[ifN (by omega),decide_eq_true hz,k0d h.1 k x hk _ _ _ hs'];rfl
 ·rw[ifP (by omega),decide_eq_false hz];rfl
theorem k4D {g:Gm_}{hs:List Int}(h:HsOk g hs){v:Int}{k:Nat}{x:Symbol}(hk:k<g.Symbols.length){s:List Int}(hs' : s.length=g.Symbols.length) :
  q9j g hs v k x s=some (if (decide (hs.getD k 0=0)&&z5o g hs x.Name)=true then s.set k v else s):=by
 unfold q9j
 rw[getD_some (by rw[h.1];exact hk),bsS]
 by_cases hz:hs.getD k 0=0
 ·rw[ifP hz,decide_eq_true hz,k0c h.1,bsS,Bool.true_and]
  cases z5o g hs x.Name with
  | false=>rfl
  | true=>rw[ifP rfl,ifP rfl,List.getElem?_eq_getElem (by omega)];rfl
 ·rw[ifN hz,decide_eq_false hz];rfl
theorem j1r {g:Gm_}{hs:List Int}(h:HsOk g hs){v:Int}(hv:0≤v):∀ (xs:List Symbol) (i:Nat) (s:List Int),i+xs.length=g.Symbols.length→HsOk g s →
  ∃ t,eachL (z3S g v hs) i xs s=some t∧eachL (q9j g hs v) i xs s=some t∧HsOk g t
 | [],i,s,_,hs'=>⟨s,rfl,rfl,hs'⟩
 | x::xs,i,s,hi,hs'=>by
  simp only[lnC] at hi
  have e1:=k5c (x:=x) h (v:=v) (k:=i) (by omega) hs'.1
  have e2:=k4D (x:=x) h (v:=v) (k:=i) (by omega) hs'.1
  have hn:HsOk g (if (decide (hs.getD i 0=0)&&z5o g hs x.Name)=true then s.set i v else s):=by
   split
   ·exact hs'.set hv
   ·exact hs'
  obtain⟨t,h1,h2,h3⟩:=j1r h hv xs (i+1) _ (by omega) hn
  exact⟨t,by rw[eachL,e1,bsS,h1],by rw[eachL,e2,bsS,h2],h3⟩
theorem z5p {g:Gm_}(hn:g.Symbols.length≤1048576):∃ l,z1L g=some l∧q7W g=some l∧HsOk g l:=by
 have key:∀ (m k:Nat) (hs:List Int),k+m=g.Symbols.length+1→1≤k→HsOk g hs→∃ t,q5w (z0C g) ((k:Int),hs)=some t∧q5w (q5E g) (hs,(k:Int))=some t∧HsOk g t:=by
  intro m
  induction m with
  | zero=>
   intro k hs hk _ h
   refine⟨hs,q4g ?_,q4g ?_,h⟩
   ·unfold z0C;dsimp only;rw[ifN (by omega)]
   ·unfold q5E;dsimp only;rw[ifN (by omega)]
  | succ m ih=>
   intro k hs hk h1 h
   have hl:=h.1
   obtain⟨t,e1,e2,e3⟩:=j1r h (v:=(k:Int)) (by omega) g.Symbols 0 hs (by omega) h
   obtain⟨q,f1,f2,f3⟩:=ih (k+1) t (by omega) (by omega) e3
   refine⟨q,?_,?_,f3⟩
   ·have e:z0C g ((k:Int),hs)=some (.inl (((k+1:Nat):Int),t)):=by
     unfold z0C;dsimp only
     rw[ifP (by omega),q3U (by refine⟨?_,?_,?_⟩<;>omega),q3U (by simp),e1,bsS,q3U (by constructor<;>omega)];rfl
    rw[q4X e];exact f1
   ·have e:q5E g (hs,(k:Int))=some (.inl (t,((k+1:Nat):Int))):=by
     unfold q5E;dsimp only
     rw[ifP (by omega),q3U (by simp only[List.length_nil];constructor<;>omega),e2,bsS,q3U (by constructor<;>omega)];rfl
    rw[q4X e];exact f2
 have h0:HsOk g (List.replicate g.Symbols.length (0:Int)):=⟨by simp,fun j=>by rw[List.getD_eq_getElem?_getD,List.getElem?_replicate];split<;>simp⟩
 obtain⟨t,f1,f2,f3⟩:=key g.Symbols.length 1 (List.replicate g.Symbols.length 0) (by omega) (by omega) h0
 refine⟨t,?_,?_,f3⟩
 ·unfold z1L
  rw[q3U (by refine⟨?_,?_,?_⟩<;>omega),show q5w (z0C g) (1,List.replicate g.Symbols.length 0)=some t from f1];rfl
 ·unfold q7W
  rw[q3U (by refine⟨?_,?_,?_⟩<;>omega),show q5w (q5E g) (List.replicate g.Symbols.length 0,1)=some t from f2];rfl
theorem Shape.names {g:Gm_}(h:Shape g){k j:Nat}{x y:Symbol}(hk:g.Symbols[k]?=some x)(hj:g.Symbols[j]?=some y)(hn:x.Name=y.Name):k=j:=by
 have key:∀ {k j:Nat} {x y:Symbol},g.Symbols[k]?=some x→g.Symbols[j]?=some y→x.Name=y.Name→¬ k<j:=by
  intro k j x y hk hj hn hlt
  have:=z5B _ _ h.sym j y hj
  unfold z3G at this
  rw[Bool.or_eq_false_iff] at this
  have h2:=this.2
  unfold dupB at h2
  rw[List.nil_append,List.any_eq_false] at h2
  exact h2 x (List.mem_of_getElem? (i:=k) (by rw[List.getElem?_take,ifP hlt];exact hk)) (by simpa using hn)
 have h1:=key hk hj hn
 have h2:=key hj hk hn.symm
 omega
theorem Shape.at_ {g:Gm_}(h:Shape g){k:Nat}{x:Symbol}(hk:g.Symbols[k]?=some x):atS g x.Name=some k:=by
 unfold atS
 cases he:g.Symbols.findIdx? fun y=>decide (y.Name=x.Name) with
 | none=>
  rw[List.findIdx?_eq_none_iff] at he
  have:=he x (List.mem_of_getElem? hk)
  simp at this
 | some j=>
  rw[List.findIdx?_eq_some_iff_getElem] at he
  obtain⟨hj,h1,_⟩:=he
  rw[h.names (List.getElem?_eq_getElem hj) hk (by simpa using h1)]
noncomputable def hgtL (g:Gm_):List Int:=(z1L g).getD []
noncomputable def j5H (g:Gm_):Int×Int:=
 if (z4q g).1=0 then
  match g.Rules.findIdx? fun r=>!typR g r with
  | some k=>(7,(k:Int))
  | none=>match (hgtL g).findIdx? fun x=>decide (x=0) with
   | some k=>(8,(k:Int))
   | none=>(0,0)
 else z4q g
theorem k1T {g:Gm_}(h:Sz.szd g≤1048576):q8D g=some (j5H g):=by
 unfold q8D j5H
 rw[j9Y h,bsS]
 dsimp only
 by_cases h0:(z4q g).1=0
 ·rw[ifP h0,ifP h0]
  rw[z5n (q:=fun r=>!typR g r) (c:=fun k=>((7:Int),(k:Int))) fun k r hr=>by
   unfold z4i
   rw[k1R g (Nat.le_trans (z5m hr) h),bsS,← apply_ite some]]
  cases g.Rules.findIdx? fun r=>!typR g r with
  | some k=>dsimp only;rw[Nat.zero_add];rfl
  | none=>
   obtain⟨l,e1,e2,e3⟩:=z5p (g:=g) (j5A h).1
   rw[bsS,z3L,e1,bsS]
   unfold hgtL
   rw[e1,Option.getD_some]
   rw[z5n (q:=fun x:Int=>decide (x=0)) (c:=fun k=>((8:Int),(k:Int))) fun k x hx=>by
    unfold z4j
    by_cases hz:x=0
    ·rw[ifP hz,ifP (by simpa using hz)]
    ·rw[ifN hz,ifN (by simpa using hz)]]
   dsimp only
   cases l.findIdx? fun x=>decide (x=0) with
   | some k=>dsimp only;rw[Nat.zero_add];rfl
   | none=>rfl
 ·rw[ifN h0,ifN h0]
theorem j6K {g:Gm_}(h:Sz.szd g≤1048576):q7G g=some (j5H g):=by
 unfold q7G j5H
 rw[j9Z h,bsS]
 dsimp only
 by_cases h0:(z4q g).1=0
 ·have hS:=j6I h0
  rw[ifP h0,ifP h0]
  rw[z5n (q:=fun r=>!typR g r) (c:=fun k=>((7:Int),(k:Int))) fun k r hr=>by
   unfold z4k
   rw[k1S (z2V h) (Nat.le_trans (z5m hr) h) fun q hq=>hS.pos hr hq,bsS]
   cases typR g r<;>rfl]
  cases g.Rules.findIdx? fun r=>!typR g r with
  | some k=>dsimp only;rw[Nat.zero_add];rfl
  | none=>
   obtain⟨l,e1,e2,e3⟩:=z5p (g:=g) (j5A h).1
   rw[bsS,z3L]
   unfold hgtL
   rw[e1,Option.getD_some]
   have hprod:∀ k x,g.Symbols[k]?=some x→q8E g x.Name=some (!decide (l.getD k 0=0)):=by
    intro k x hk
    have hk' : k<g.Symbols.length:=(List.getElem?_eq_some_iff.1 hk).1
    have ha:atI g x.Name=(k:Int):=by unfold atI;rw[hS.at_ hk]
    unfold q8E z2B
    rw[k0b,ha,bsS,ifN (by omega),e2,bsS,q3U (by omega),tnC,getD_some (by rw[e3.1];exact hk'),bsS,bsS]
    have:=e3.2 k
    congr 1
    by_cases hz:l.getD k 0=0
    ·rw[decide_eq_true hz,decide_eq_false (by omega)];rfl
    ·rw[decide_eq_false hz,decide_eq_true (by omega)];rfl
   have hrun:∀ (xs:List Symbol) (ys:List Int) (i:Nat),(∀ j x,xs[j]?=some x→g.Symbols[i+j]?=some x)→ys.length=xs.length→(∀ j y,ys[j]?=some y→l.getD (i+j) 0=y) →
     findL (q9n g) i xs ()=some (match ys.findIdx? fun x=>decide (x=0) with|some j=>.inr (8,((i+j:Nat):Int))|none=>.inl ()):=by
    intro xs
    induction xs with
    | nil=>
     intro ys i _ hl _
     obtain rfl:=List.eq_nil_of_length_eq_zero hl
     rfl
    | cons x xs ih=>
     intro ys i hx hl hy
     cases ys with
     | nil=>simp at hl
     | cons y ys=>
      have h1:=hprod i x (by simpa using hx 0 x rfl)
      have h2:l.getD i 0=y:=by simpa using hy 0 y rfl
      have ih:=ih ys (i+1) (fun j z hz=>by rw[show i+1+j=i+(j+1) by omega];exact hx (j+1) z (by simpa using hz)) (by simpa using hl) fun j z hz=>by
       rw[show i+1+j=i+(j+1) by omega];exact hy (j+1) z (by simpa using hz)
      rw[h2] at h1
      have e:q9n g i x ()=some (if y=0 then .inr (8,(i:Int)) else .inl ()):=by
       unfold q9n
       rw[h1,bsS]
       by_cases hz:y=0
       ·rw[decide_eq_true hz,ifP hz];rfl
       ·rw[decide_eq_false hz,ifN hz];rfl
      rw[findL,e,bsS,List.findIdx?_cons]
      by_cases hz:y=0
      ·rw[ifP hz,ifP (by simpa using hz)];rfl
      ·rw[ifN hz,ifN (by simpa using hz)]
       dsimp only
       rw[ih]
       cases ys.findIdx? fun x=>decide (x=0) with
       | none=>rfl
       | some j=>simp only[Option.map_some];rw[show i+1+j=i+(j+1) by omega]
   rw[hrun g.Symbols l 0 (fun j x hx=>by rw[Nat.zero_add];exact hx) e3.1 fun j y hy=>by rw[Nat.zero_add,List.getD_eq_getElem?_getD,hy];rfl]
   dsimp only
   cases l.findIdx? fun x=>decide (x=0) with
   | some k=>dsimp only;rw[Nat.zero_add];rfl
   | none=>rfl
 ·rw[ifN h0,ifN h0]
noncomputable def j4e (g:Gm_):Bool:=decide ((j5H g).1=0)
theorem k1U {g:Gm_}(h:Sz.szd g≤1048576):z2a g=some (j4e g):=by
 unfold z2a;rw[k1T h];rfl
theorem k1V {g:Gm_}(h:Sz.szd g≤1048576):z3t g=some (j4e g):=by
 unfold z3t;rw[j6K h];rfl
theorem j1s {g:Gm_}(h:j4e g=true):Shape g:=by
 refine j6I ?_
 unfold j4e at h
 rw[decide_eq_true_eq] at h
 unfold j5H at h
 by_cases h0:(z4q g).1=0
 ·exact h0
 ·rw[ifN h0] at h;exact h
theorem k4E {n:Nat}{x y:Int}(hx:0≤x∧x≤((2 ^ n:Nat):Int)-1)(hy:0≤y∧y≤((2 ^ n:Nat):Int)-1):0≤orI x y∧orI x y≤((2 ^ n:Nat):Int)-1:=by
 have:=Nat.or_lt_two_pow (n:=n) (x:=x.toNat) (y:=y.toNat) (by omega) (by omega)
 unfold orI;omega
def sumR (a:Rl_):Nat:=(a.Rows.map Int.toNat).sum
theorem k0e {a:Rl_}(ha:Valid a):sumR a≤16*65535:=by
 have key:∀ l:List Int,(∀ x∈l,x.toNat≤65535)→(l.map Int.toNat).sum≤l.length*65535:=by
  intro l
  induction l with
  | nil=>intro _;simp
  | cons x l ih=>
   intro h
   have h1:=h x (by simp)
   have h2:=ih fun y hy=>h y (by simp[hy])
   simp only[List.map_cons,List.sum_cons,lnC]
   omega
 have h1:=key a.Rows fun x hx=>by
  have:=ha.2.2.2 x hx
  have:=k5a ha.2.1
  omega
 have hl:a.Rows.length≤16:=by have:=ha.2.2.1;have:=ha.2.1;omega
 exact Nat.le_trans h1 (Nat.mul_le_mul_right 65535 hl)
theorem k0f {b:List Int}{f:Nat→Int→Unit→Option (Unit ⊕ Bool)}(hf:∀ k x,f k x ()=(b[k]?).bind fun x2=>if x=x2 then some (.inl ()) else some (.inr false)) :
  ∀ (xs ys:List Int) (i:Nat),xs.length=ys.length→(∀ j,b[i+j]?=ys[j]?)→findL f i xs ()=some (if xs=ys then .inl () else .inr false)
 | [],ys,i,hl,_=>by obtain rfl:=List.eq_nil_of_length_eq_zero hl.symm;rfl
 | x::xs,[],i,hl,_=>by simp at hl
 | x::xs,y::ys,i,hl,hb=>by
  have h0:b[i]?=some y:=by simpa using hb 0
  rw[findL,hf,h0,bsS]
  by_cases hx:x=y
  ·rw[ifP hx,bsS]
   dsimp only
   rw[k0f hf xs ys (i+1) (by simpa using hl) fun j=>by have:=hb (j+1);rw[show i+1+j=i+(j+1) by omega];simpa using this]
   subst hx
   by_cases he:xs=ys
   ·rw[ifP he,ifP (by rw[he])]
   ·rw[ifN he,ifN (by intro hh;injection hh with _ h2;exact he h2)]
  ·rw[ifN hx,bsS]
   dsimp only
   rw[ifN (by intro hh;injection hh with h2 _;exact hx h2)]
theorem j2A (a b:Rl_):q6B a b=some (decide (a=b)):=by
 obtain⟨n,xs⟩:=a
 obtain⟨m,ys⟩:=b
 unfold q6B z6O
 dsimp only
 by_cases hn:n=m
 ·rw[ifP hn]
  by_cases hl:xs.length=ys.length
  ·rw[ifP (by omega),k0f (b:=ys) (fun k x=>rfl) xs ys 0 hl fun j=>by rw[Nat.zero_add]]
   by_cases he:xs=ys
   ·rw[ifP he,decide_eq_true (by rw[hn,he])];rfl
   ·rw[ifN he,decide_eq_false (by intro hh;injection hh with _ h2;exact he h2)];rfl
  ·rw[ifN (by omega),decide_eq_false (by intro hh;injection hh with _ h2;exact hl (by rw[h2]))];rfl
 ·rw[ifN hn,decide_eq_false (by intro hh;injection hh with h1 _;exact hn h1)]
theorem k3L (a b:Rl_):q9m a b=some (decide (a=b)):=by
 rw[← j2A];rfl
def q7v (g:Gm_)(s:ByteArray):List At_:=(q6M g s).1.Attributes.filter z7J
theorem z7N {g:Gm_}(h:GOk g)(s:ByteArray):(q7v g s).length≤1048576:=Nat.le_trans (List.length_filter_le _ _) (z2r h s)
theorem j4f {l:List At_}(h:l.length≤1048576):eachL q5M 0 l []=some (l.filter z7J):=by
 have:=z3E (p:=z7J) (g:=fun x:At_=>x) (B:=1048577) (f:=q5M) (fun k x s hs=>by
  have hg:((s.length:Int)+1)*40≤140737488355328∧(s.length:Int)+1≤9223372036854775807:=by constructor<;>omega
  unfold q5M z7J
  rw[q3U hg]
  by_cases m1:x.Mode=1
  ·rw[ifP m1,ifP (by simp[m1])];rfl
  ·rw[ifN m1]
   by_cases m2:x.Mode=2
   ·rw[ifP m2,ifP (by simp[m2])];rfl
   ·rw[ifN m2,ifN (by simp[m1,m2])];rfl) l 0 [] (by simp;omega)
 rw[this];simp
theorem j4g {g:Gm_}(h:GOk g)(s:ByteArray):q5B g s=some (q7v g s):=by
 unfold q5B q7v
 rw[z1q h,bsS]
 try dsimp only
 rw[j4f (z2r h s)];rfl
theorem j4h {g:Gm_}(h:GOk g)(s:ByteArray):q4Q g s=some (q7v g s):=by
 unfold q4Q q7v
 rw[z2q,bsS]
 try dsimp only
 rw[j1o,j4f (z2r h s)];rfl
def occK (g:Gm_)(r:Rule)(k:Nat):List Oc:=(q7v g (q8l r (k:Int))).map fun x=>(⟨(k:Int),x.Name⟩:Oc)
def occL (g:Gm_)(r:Rule):List Oc:=(List.range' 0 (r.Right.length+1)).flatMap (occK g r)
theorem j6L {g:Gm_}(h:GOk g)(r:Rule)(k:Nat):(occK g r k).length≤1048576:=by unfold occK;rw[lnM];exact z7N h _
theorem j5I {g:Gm_}(h:GOk g){r:Rule}(hl:ROk r):q5e g r=some (occL g r):=by
 have hl' : r.Right.length≤1048576:=hl
 have key:=z7L (h:=occK g r) (C:=1048576) (n:=r.Right.length+1) (f:=q4A g r) (fun k s hk hs=>by
  unfold q4A
  rw[j0b hl,bsS,j4h h,bsS,z5k k _ 0 s (by have:=z7N h (q8l r (k:Int));omega)];rfl)
  (fun k _=>j6L h r k) (r.Right.length+1) 0 [] (by omega) (by simp)
 unfold q5e
 rw[q3U (by constructor<;>omega),key];rfl
theorem k0g {g:Gm_}(h:GOk g){r:Rule}(hl:ROk r):q5J g r=some (occL g r):=by
 have hl' : r.Right.length≤1048576:=hl
 have key:=z9Z (h:=occK g r) (C:=1048576) (n:=r.Right.length+1) (f:=q5i g r) (fun k s hk hs=>by
  unfold q5i
  dsimp only
  rw[ifP (by omega),z4e hl,bsS,j4g h,bsS,j6E,z5k k _ 0 s (by have:=z7N h (q8l r (k:Int));omega),bsS,q3U (by constructor<;>omega)];rfl) (fun s=>by
  unfold q5i;dsimp only;rw[ifN (by omega)]) (fun k _=>j6L h r k) (r.Right.length+1) 0 [] (by omega) (by simp)
 unfold q5J
 have e:q5w (q5i g r) (([]:List Oc),0)=some ([]++(List.range' 0 (r.Right.length+1)).flatMap (occK g r)):=key
 rw[e];rfl
theorem j6M {g:Gm_}(h:GOk g){r:Rule}(hl:ROk r):(occL g r).length≤1099512676352:=by
 obtain⟨l,_,h2,h3⟩:=z8H h hl
 rw[j5I h hl] at h2
 cases h2;exact h3
def posL (g:Gm_)(r:Rule)(k:Int):List Int:=(((occL g r).zipIdx 0).filter fun q=>decide (q.1.Pos=k)).map fun q=>(q.2:Int)
theorem j6N (k:Int){l:List Oc}(h:l.length≤1099512676352):eachL (q5N k) 0 l []=some (((l.zipIdx 0).filter fun q=>decide (q.1.Pos=k)).map fun q=>(q.2:Int)):=by
 have:=z9Y (p:=fun x:Oc=>decide (x.Pos=k)) (g:=fun i:Nat=>(i:Int)) (B:=4398046511104) (f:=q5N k) (fun i x s hs=>by
  have hg:((s.length:Int)+1)*8≤140737488355328∧(s.length:Int)+1≤9223372036854775807:=by constructor<;>omega
  unfold q5N
  rw[q3U hg]
  by_cases m1:x.Pos=k
  ·rw[ifP m1,ifP (by simp[m1])];rfl
  ·rw[ifN m1,ifN (by simp[m1])];rfl) l 0 [] (by simp;omega)
 rw[this];simp
theorem k3M {g:Gm_}(h:GOk g){r:Rule}(hl:ROk r)(k:Int):q6c g r k=some (posL g r k):=by
 unfold q6c posL
 rw[k0g h hl,bsS,j6N k (j6M h hl)];rfl
theorem k3N {g:Gm_}(h:GOk g){r:Rule}(hl:ROk r)(k:Int):q5b g r k=some (posL g r k):=by
 unfold q5b posL
 rw[j5I h hl,bsS,z5K,j6N k (j6M h hl)];rfl
theorem j4i {α:Type}(p:α→Bool):∀ (l:List α) (i:Nat),((l.zipIdx i).filter fun q=>p q.1).length=l.countP p
 | [],i=>rfl
 | x::l,i=>by
  rw[List.zipIdx_cons,List.filter_cons,List.countP_cons]
  have ih:=j4i p l (i+1)
  by_cases hp:p x=true
  ·rw[ifP hp,ifP hp,lnC,ih]
  ·rw[ifN hp,ifN hp,ih];rfl
theorem k3O (g:Gm_){r:Rule}{k:Nat}(hk:k≤r.Right.length):(posL g r (k:Int)).length=(q7v g (q8l r (k:Int))).length:=by
 unfold posL
 rw[lnM,j4i (fun x:Oc=>decide (x.Pos=(k:Int)))]
 unfold occL
 rw[List.countP_flatMap]
 have hK:∀ j:Nat,(occK g r j).countP (fun x=>decide (x.Pos=(k:Int)))=if j=k then (q7v g (q8l r (k:Int))).length else 0:=by
  intro j
  unfold occK
  rw[List.countP_map]
  by_cases hj:j=k
  ·subst hj
   rw[ifP rfl,List.countP_eq_length.2 (by simp)]
  ·rw[ifN hj,List.countP_eq_zero.2]
   intro a _
   simp;omega
 have hsum:∀ m i,((List.range' i m).map (List.countP (fun x:Oc=>decide (x.Pos=(k:Int))) ∘ occK g r)).sum=if i≤k∧k<i+m then (q7v g (q8l r (k:Int))).length else 0:=by
  intro m
  induction m with
  | zero=>intro i;rw[ifN (by omega)];rfl
  | succ m ih=>
   intro i
   rw[List.range'_succ,List.map_cons,List.sum_cons,ih (i+1),Function.comp,hK i]
   by_cases h1:i=k
   ·rw[ifP h1,ifN (by omega),ifP (by omega)];rfl
   ·rw[ifN h1,Nat.zero_add]
    by_cases h2:i+1≤k∧k<i+1+m
    ·rw[ifP h2,ifP (by omega)]
    ·rw[ifN h2,ifN (by omega)]
 rw[hsum,ifP (by omega)]
noncomputable def z1x (own:Rl_) (a:Nat) (x:Int):Nat→List Int→Rl_→Rl_
 | _,[],o=>o
 | i,y::ys,o=>z1x own a x (i+1) ys (if hasP own (a:Int) (i:Int) then addP o x y else o)
noncomputable def z2W (own:Rl_) (at' : List Int):Nat→List Int→Rl_→Rl_
 | _,[],o=>o
 | a,x::xs,o=>z2W own at' (a+1) xs (z1x own a x 0 at' o)
theorem z7O (own:Rl_)(a:Nat)(x:Int):∀ (ys:List Int) (i:Nat) (o:Rl_),(z1x own a x i ys o).Rows.length=o.Rows.length∧(z1x own a x i ys o).N=o.N
 | [],i,o=>⟨rfl,rfl⟩
 | y::ys,i,o=>by
  rw[z1x]
  have ih:=z7O own a x ys (i+1) (if hasP own (a:Int) (i:Int) then addP o x y else o)
  by_cases h:hasP own (a:Int) (i:Int)
  ·rw[ifP h] at ih ⊢
   have:=j2t o x y
   exact⟨ih.1.trans this.1,ih.2.trans this.2⟩
  ·rw[ifN h] at ih ⊢;exact ih
theorem j0g (own:Rl_)(at' : List Int):∀ (xs:List Int) (a:Nat) (o:Rl_),(z2W own at' a xs o).Rows.length=o.Rows.length∧(z2W own at' a xs o).N=o.N
 | [],a,o=>⟨rfl,rfl⟩
 | x::xs,a,o=>by
  rw[z2W]
  have ih:=j0g own at' xs (a+1) (z1x own a x 0 at' o)
  have:=z7O own a x at' 0 o
  exact⟨ih.1.trans this.1,ih.2.trans this.2⟩
theorem k0h (own:Rl_)(a:Nat)(x:Int):∀ (ys:List Int) (i:Nat) (o:Rl_),o.Rows.length≤1048576 →
  eachL (z0k own a x) i ys (o.Rows,o.N)=some ((z1x own a x i ys o).Rows,(z1x own a x i ys o).N)∧eachL (z6F own a x) i ys (o.N,o.Rows)=some ((z1x own a x i ys o).N,(z1x own a x i ys o).Rows)
 | [],i,o,_=>⟨rfl,rfl⟩
 | y::ys,i,o,h=>by
  have e1:z0k own a x i y (o.Rows,o.N)=some ((if hasP own (a:Int) (i:Int) then addP o x y else o).Rows,(if hasP own (a:Int) (i:Int) then addP o x y else o).N):=by
   unfold z0k
   dsimp only
   rw[z2o,bsS]
   by_cases hp:hasP own (a:Int) (i:Int)
   ·rw[decide_eq_true hp,ifP rfl,ifP hp,j9C h];rfl
   ·rw[decide_eq_false hp,ifN (by simp),ifN hp];rfl
  have e2:z6F own a x i y (o.N,o.Rows)=some ((if hasP own (a:Int) (i:Int) then addP o x y else o).N,(if hasP own (a:Int) (i:Int) then addP o x y else o).Rows):=by
   unfold z6F
   dsimp only
   rw[z9W,bsS]
   by_cases hp:hasP own (a:Int) (i:Int)
   ·rw[decide_eq_true hp,ifP rfl,ifP hp,j2s,j9C h];rfl
   ·rw[decide_eq_false hp,ifN (by simp),ifN hp];rfl
  have hl:(if hasP own (a:Int) (i:Int) then addP o x y else o).Rows.length≤1048576:=by
   split
   ·rw[(j2t o x y).1];exact h
   ·exact h
  have ih:=k0h own a x ys (i+1) _ hl
  rw[eachL,eachL,e1,e2,bsS,bsS,z1x]
  exact ih
theorem j2B (own:Rl_)(at' : List Int):∀ (xs:List Int) (a:Nat) (o:Rl_),o.Rows.length≤1048576 →
  eachL (z0l own at') a xs (o.Rows,o.N)=some ((z2W own at' a xs o).Rows,(z2W own at' a xs o).N)∧eachL (z6G own at') a xs (o.N,o.Rows)=some ((z2W own at' a xs o).N,(z2W own at' a xs o).Rows)
 | [],a,o,_=>⟨rfl,rfl⟩
 | x::xs,a,o,h=>by
  have h1:=k0h own a x at' 0 o h
  have hl:(z1x own a x 0 at' o).Rows.length≤1048576:=by rw[(z7O own a x at' 0 o).1];exact h
  have ih:=j2B own at' xs (a+1) _ hl
  have e1:z0l own at' a x (o.Rows,o.N)=some ((z1x own a x 0 at' o).Rows,(z1x own a x 0 at' o).N):=by
   unfold z0l;dsimp only;rw[h1.1];rfl
  have e2:z6G own at' a x (o.N,o.Rows)=some ((z1x own a x 0 at' o).N,(z1x own a x 0 at' o).Rows):=by
   unfold z6G;dsimp only;rw[h1.2];rfl
  rw[eachL,eachL,e1,e2,bsS,bsS,z2W]
  exact ih
noncomputable def z7b (g:Gm_) (r:Rule) (o:Rl_) (pos:Int) (own:Rl_):Rl_:=z2W own (posL g r pos) 0 (posL g r pos) o
theorem k0i {g:Gm_}(h:GOk g){r:Rule}(hl:ROk r){o:Rl_}(ho:o.Rows.length≤1048576)(pos:Int)(own:Rl_):z6H g r o pos own=some (z7b g r o pos own):=by
 unfold z6H z7b
 rw[k3N h hl,bsS,(j2B own (posL g r pos) (posL g r pos) 0 o ho).2];rfl
theorem z6k {r:Rule}{k:Nat}{x:ByteArray}(h:r.Right[k]?=some x):q8l r ((k+1:Nat):Int)=x:=by
 have hk:=(List.getElem?_eq_some_iff.1 h).1
 unfold q8l
 rw[ifN (by omega),ifP (by omega),show (((k+1:Nat):Int)-1).toNat=k by omega,List.getD_eq_getElem?_getD,h];rfl
noncomputable def z5F (g:Gm_) (r:Rule):Nat→List Rl_→Rl_→Rl_
 | _,[],o=>o
 | k,own::l,o=>z5F g r (k+1) l (z7b g r o ((k+1:Nat):Int) own)
theorem j8i (g:Gm_)(r:Rule)(o:Rl_)(pos:Int)(own:Rl_):(z7b g r o pos own).Rows.length=o.Rows.length:=(j0g own _ _ 0 o).1
def FitL (g:Gm_)(r:Rule)(list:List Rl_):Prop:=list.length=r.Right.length∧∀ k own,list[k]?=some own→Valid own∧own.N=((q7v g (q8l r ((k+1:Nat):Int))).length:Int)
theorem j4j {g:Gm_}(h:GOk g){r:Rule}(hl:ROk r){list:List Rl_}(hf:FitL g r list):∀ (m k:Nat) (o:Rl_),k+m=list.length→o.Rows.length≤1048576 →
  findL (z0m g r) k (list.drop k) (o.Rows,o.N)=some (.inl ((z5F g r k (list.drop k) o).Rows,(z5F g r k (list.drop k) o).N)) ∧
  findL (q9Z g r) k (list.drop k) (o.Rows,o.N)=some (.inl ((z5F g r k (list.drop k) o).Rows,(z5F g r k (list.drop k) o).N))∧(z5F g r k (list.drop k) o).Rows.length=o.Rows.length
 | 0,k,o,hk,_=>by rw[List.drop_eq_nil_of_le (by omega)];exact⟨rfl,rfl,rfl⟩
 | m+1,k,o,hk,ho=>by
  have hk' : k<list.length:=by omega
  rw[List.drop_eq_getElem_cons hk']
  have hv:=hf.2 k list[k] (List.getElem?_eq_getElem hk')
  have hR:k<r.Right.length:=by rw[← hf.1];exact hk'
  have hsym:=z6k (r:=r) (k:=k) (List.getElem?_eq_getElem hR)
  have hpl:=k3O g (r:=r) (k:=k+1) (by omega)
  have e1:z0m g r k list[k] (o.Rows,o.N)=some (.inl ((z7b g r o ((k+1:Nat):Int) list[k]).Rows,(z7b g r o ((k+1:Nat):Int) list[k]).N)):=by
   unfold z0m
   dsimp only
   rw[k3M h hl,bsS,q9x,bsS,decide_eq_true hv.1,ifP rfl,ifP (by rw[hpl];exact hv.2),(j2B list[k] _ _ 0 o ho).1];rfl
  have e2:q9Z g r k list[k] (o.Rows,o.N)=some (.inl ((z7b g r o ((k+1:Nat):Int) list[k]).Rows,(z7b g r o ((k+1:Nat):Int) list[k]).N)):=by
   unfold q9Z
   dsimp only
   rw[List.getElem?_eq_getElem hR,bsS,j4h h,bsS,ifP (by rw[← hsym];exact hv.2),k0i h hl ho];rfl
  have hlen:=j8i g r o ((k+1:Nat):Int) list[k]
  have ih:=j4j h hl hf m (k+1) (z7b g r o ((k+1:Nat):Int) list[k]) (by omega) (by rw[hlen];exact ho)
  rw[findL,findL,e1,e2,bsS,bsS,z5F]
  exact⟨ih.1,ih.2.1,ih.2.2.trans hlen⟩
noncomputable def locR (g:Gm_) (r:Rule):Rl_:=(q6A g r).getD ⟨0,[]⟩
theorem k4F {g:Gm_}{r:Rule}(h:Sz.szd g≤1048576)(hr:Sz.szd r≤1048576):q6A g r=some (locR g r)∧q7l g r=some (locR g r)∧(locR g r).Rows.length≤16:=by
 obtain⟨x,h1,h2,h3⟩:=j8c h hr
 unfold locR
 rw[h1,h2];exact⟨rfl,rfl,h3⟩
noncomputable def j0D (g:Gm_) (r:Rule) (list:List Rl_):Rl_:=if 16<(occL g r).length then ⟨0,[]⟩ else z6Y (z5F g r 0 list (locR g r))
theorem k0j {g:Gm_}{r:Rule}(h:Sz.szd g≤1048576)(hr:Sz.szd r≤1048576){list:List Rl_}(hf:FitL g r list):q9k g r list=some (j0D g r list)∧q9f g r list=some (j0D g r list)∧(j0D g r list).Rows.length≤16:=by
 have hg:=z2V h
 have hl:=q8v hr
 obtain⟨l1,l2,l3⟩:=k4F h hr
 have hn:(list.length:Int)=(r.Right.length:Int):=by rw[hf.1]
 unfold q9k q9f
 rw[k0g hg hl,j5I hg hl]
 simp only[bsS]
 rw[ifP hn,ifP hn]
 simp only[bsS]
 by_cases h16:16<(occL g r).length
 ·have hi:(16:Int)<((occL g r).length:Int):=by omega
  have hc:j0D g r list=⟨0,[]⟩:=ifP h16
  rw[hc,decide_eq_true hi,ifP rfl,ifP hi]
  exact⟨rfl,rfl,by simp⟩
 ·have hi:¬ (16:Int)<((occL g r).length:Int):=by omega
  have hc:j0D g r list=z6Y (z5F g r 0 list (locR g r)):=ifN h16
  rw[hc,decide_eq_false hi,ifN (by simp),ifN hi,l1,l2,bsS,bsS]
  have key:=j4j hg hl hf list.length 0 (locR g r) (by omega) (by omega)
  rw[List.drop_zero] at key
  have hlen:(z5F g r 0 list (locR g r)).Rows.length≤16:=by rw[key.2.2];exact l3
  rw[key.1,key.2.1,bsS,bsS,z3L,z3L]
  dsimp only
  rw[j9D (r:=⟨(z5F g r 0 list (locR g r)).N,(z5F g r 0 list (locR g r)).Rows⟩) (by show (z5F g r 0 list (locR g r)).Rows.length≤_;omega),j9E (r:=⟨(z5F g r 0 list (locR g r)).N,(z5F g r 0 list (locR g r)).Rows⟩) (by show (z5F g r 0 list (locR g r)).Rows.length≤_;omega)]
  exact⟨rfl,rfl,by rw[(j7W _).1];exact hlen⟩
section
variable {α β ρ σ:Type}{Q:β→Prop}{b:List UInt8}
theorem Ok.bif {c:Prop}[Decidable c]{A B:Option α}{k:α→Option β}(h1:c→Ok Q (A.bind k))(h2:¬ c→Ok Q (B.bind k)):Ok Q ((if c then A else B).bind k):=by
 by_cases hc:c
 ·rw[ifP hc];exact h1 hc
 ·rw[ifN hc];exact h2 hc
theorem Ok.bso {x:α}{k:α→Option β}(h:Ok Q (k x)):Ok Q ((some x).bind k):=h
theorem Ok.bbi {γ:Type}{A:Option α}{B:α→Option γ}{k:γ→Option β}(h:Ok Q (A.bind fun x=>(B x).bind k)):Ok Q ((A.bind B).bind k):=by
 rw[Option.bind_assoc];exact h
theorem Ok.bgr {c:Prop}[Decidable c]{A:Option α}{k:α→Option β}(hc:c)(h:Ok Q (A.bind k)):Ok Q ((Go.E.grd c A).bind k):=by rw[q3U hc];exact h
theorem Ok.get {l:List α}{j:Nat}{k:α→Option β}(hj:j<l.length)(h:∀ x,x∈l→Ok Q (k x)):Ok Q ((l[j]?).bind k):=by
 obtain⟨x,hx⟩:∃ x,l[j]?=some x:=⟨_,List.getElem?_eq_getElem hj⟩
 rw[hx];exact h x (List.mem_of_getElem? hx)
theorem Ok.eq {A:Option α}{x:α}{k:α→Option β}(hA:A=some x)(h:Ok Q (k x)):Ok Q (A.bind k):=by rw[hA];exact h
theorem drK {P:α→Prop}{o:Option (α×l1Cur)}(ho:Dr b P o){k:α×l1Cur→Option β}(hk:∀ y i' h',P y→0≤i'→Ok Q (k (y,⟨b,i',h'⟩))):Ok Q (o.bind k):=by
 obtain⟨⟨y,z⟩,rfl,hy,hz,he⟩:=ho
 obtain⟨zb,zi,zh⟩:=z
 dsimp only at he hz hy
 subst he
 exact hk y zi zh hy hz
theorem cb {i h:Int}(hi:0≤i):CB b ⟨b,i,h⟩:=⟨hi,rfl⟩
theorem Dr.re {P:α→Prop}{y:α}{i h:Int}(hy:P y)(hi:0≤i):Dr b P (some (y,(⟨b,i,h⟩:l1Cur))):=⟨_,rfl,hy,hi,rfl⟩
theorem j2C {P:σ→Prop}{Q:ρ→Prop}{f:σ→Option (σ ⊕ ρ)}(μ:σ→Nat)(hf:∀ s,P s→Ok (fun z=>match z with|.inl s'=>P s'∧μ s'<μ s|.inr r=>Q r) (f s)):∀ s,P s→Ok Q (q5w f s):=by
 have key:∀ n s,μ s<n→P s→Ok Q (q5w f s):=by
  intro n
  induction n with
  | zero=>intro s h;omega
  | succ n ih=>
   intro s h hp
   obtain⟨z,hz,hq⟩:=hf s hp
   cases z with
   | inl s'=>rw[q4X hz];exact ih s' (by have:=hq.2;omega) hq.1
   | inr r=>exact⟨r,q4g hz,hq⟩
 exact fun s hs=>key _ s (Nat.lt_succ_self _) hs
end
theorem j5J {α β:Type}{Q:β→Prop}(P:Nat→List α→Prop){f:Nat→Int×Int×List α→Option (Int×Int×List α)}{k:Int×Int×List α→Option β}{n:Nat}{i h:Int}{l:List α}(hi:0≤i)(h0:P 0 l)
  (hf:∀ j l i h,j<n→0≤i→P j l→Ok (fun s:Int×Int×List α=>0≤s.1∧P (j+1) s.2.2) (f j (i,h,l))) (hk:∀ l i h,0≤i→P n l→Ok Q (k (i,h,l))):Ok Q ((eachN f 0 n (i,h,l)).bind k):=by
 obtain⟨s,e,h1⟩:=j2q (P:=fun k (s:Int×Int×List α)=>0≤s.1∧P k s.2.2) (f:=f) (n:=n) (i:=0) (s:=(i,h,l)) ⟨hi,h0⟩ fun j s _ hj hs=>hf j _ _ _ (by omega) hs.1 hs.2
 rw[e]
 rw[Nat.zero_add] at h1
 exact hk _ _ _ h1.1 h1.2
theorem k3P {γ α β:Type}{Q:β→Prop}(P:Nat→List α→Prop){f:Nat→γ→Int×Int×List α→Option (Int×Int×List α)}{k:Int×Int×List α→Option β}{xs:List γ}{i h:Int}{l:List α}(hi:0≤i)(h0:P 0 l)
  (hf:∀ j x l i h,x∈xs→j<xs.length→0≤i→P j l→Ok (fun s:Int×Int×List α=>0≤s.1∧P (j+1) s.2.2) (f j x (i,h,l))) (hk:∀ l i h,0≤i→P xs.length l→Ok Q (k (i,h,l))):Ok Q ((eachL f 0 xs (i,h,l)).bind k):=by
 obtain⟨s,e,h1⟩:=j2r (P:=fun k (s:Int×Int×List α)=>0≤s.1∧P k s.2.2) (f:=f) (xs:=xs) (i:=0) (s:=(i,h,l)) ⟨hi,h0⟩ fun j x s hx _ hj hs=>hf j x _ _ _ hx (by omega) hs.1 hs.2
 rw[e]
 rw[Nat.zero_add] at h1
 exact hk _ _ _ h1.1 h1.2
def SB (s:Symbol):Prop:=s.Name.size≤8∧1≤s.Attributes.length∧s.Attributes.length≤5∧∀ a∈s.Attributes,a.Name.size≤8
def RB (r:Rule):Prop:=r.Name.size≤8∧r.Left.size≤8∧r.Right.length≤5∧(∀ x∈r.Right,x.size≤8)
def SBs (l:List Symbol):Prop:=1≤l.length∧l.length≤3∧∀ s∈l,SB s
theorem j4k {α:Type}[Sz α]{m:Nat}:∀ {l:List α},(∀ x∈l,Sz.szd x≤m)→szL l≤l.length*(m+1)
 | [],_=>by simp[szL]
 | x::l,h=>by
  have h1:=j4k (m:=m) (l:=l) fun y hy=>h y (by simp[hy])
  have h2:=h x (by simp)
  simp only[szL,lnC,Nat.add_mul];omega
theorem RB.rok {r:Rule}(h:RB r):ROk r:=by have:=h.2.2.1;show r.Right.length≤1048576;omega
section
variable {b:List UInt8}(hb:b.length≤1048576)
include hb
theorem k4G {x:ByteArray}(h:x∈[(⟨#[97]⟩:ByteArray),(⟨#[98]⟩:ByteArray),(⟨#[99]⟩:ByteArray),(⟨#[100]⟩:ByteArray)]):x.size≤8:=by
 simp only[List.mem_cons,List.not_mem_nil,or_false] at h
 rcases h with h|h|h|h<;>rw[h]<;>decide
theorem k2C {nm:ByteArray}(hn:nm.size≤8)(a2 a3:Bool){i h:Int}(hi:0≤i):Dr b SB (z3f nm a2 a3 ⟨b,i,h⟩):=by
 unfold z3f
 refine drK (q4L hb 4 ⟨hi,rfl⟩) fun y i1 h1 hy hi1=>?_
 have h4:=hy.2.1 (by omega)
 refine .grd (by constructor<;>omega) ?_
 refine j5J (fun k l=>l.length=k∧∀ a∈l,a.Name.size≤8) hi1 ⟨rfl,by simp⟩ (fun k s1 s2 s3 hk hs1 hs=>?_) fun s1 i2 h2 p1 hs=>?_
 ·obtain⟨hs2,hs3⟩:=hs
  unfold j0T
  dsimp only
  refine .bbi (.get (by simp;omega) fun x1 hx1=>?_)
  have hx1:=k4G hb hx1
  have fin:∀ (t m:Int) (i' h' : Int),0≤i'→Ok (fun s:Int×Int×List At_=>0≤s.1∧(s.2.2.length=k+1∧∀ a∈s.2.2,a.Name.size≤8)) (some (i',h',s1++[(⟨x1,t,m,false⟩:At_)])):=fun t m i' h' hi'=>by
   refine .ret ⟨hi',by simp[hs2],fun a ha=>?_⟩
   simp only[List.mem_append,List.mem_cons,List.not_mem_nil,or_false] at ha
   rcases ha with ha|ha
   ·exact hs3 a ha
   ·rw[ha];exact hx1
  refine .bbi (drK (q9C hb (by simp) ⟨hs1,rfl⟩) fun t i2 h2 _ hi2=>?_)
  refine .bbi (drK (q9C hb (by simp) ⟨hi2,rfl⟩) fun m i3 h3 _ hi3=>?_)
  cases a2<;>cases a3<;>dsimp only
  all_goals
   repeat' first
    | ((with_reducible refine .bso ?_);try dsimp only)
    | (with_reducible exact fin _ _ _ _ (by assumption))
    | ((with_reducible refine .bbi ?_);try dsimp only)
    | (with_reducible refine .bif (fun _=>?_) fun _=>?_)
    | (with_reducible refine .ite (fun _=>?_) fun _=>?_)
    | ((with_reducible refine drK (q8V hb _ (cb (by assumption))) fun _ _ _ _ _=>?_);try dsimp only)
    | ((with_reducible refine drK (q9C hb (by simp) (cb (by assumption))) fun _ _ _ _ _=>?_);try dsimp only)
    | ((with_reducible refine drK (q4L hb _ (cb (by assumption))) fun _ _ _ _ _=>?_);try dsimp only)
    | (refine .bgr (by constructor<;>omega) ?_)
    | (refine .grd (by constructor<;>omega) ?_)
 ·obtain⟨p2,p3⟩:=hs
  dsimp only
  exact Dr.re ⟨hn,by dsimp only;omega,by dsimp only;omega,p3⟩ p1
end
end Go.Proofs.YtomdlgffolbdkaaGreat
