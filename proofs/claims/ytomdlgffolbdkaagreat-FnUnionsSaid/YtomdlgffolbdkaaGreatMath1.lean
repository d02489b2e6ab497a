/- What those partial functions come to: plain lemmas on data; each bears its conditions in its statement. -/
import Derived.Test.YtomdlgffolbdkaaGreatDef
set_option linter.unusedVariables false
set_option linter.unusedSimpArgs false
set_option linter.ambiguousOpen false
set_option linter.unusedSectionVars false
set_option linter.unnecessarySimpa false
namespace Go.E
section
variable {α σ ρ:Type}
theorem j4G {c:ρ}:∀ {xs:List α} {i:Nat} {p:Nat→α→Prop} {f:Nat→α→Unit→Option (Unit ⊕ ρ)},(∀ k x,xs[k]?=some x→(p (i+k) x→f (i+k) x ()=some (.inr c))∧(¬ p (i+k) x→f (i+k) x ()=some (.inl ()))) →
  ((∃ k x,xs[k]?=some x∧p (i+k) x)→findL f i xs ()=some (.inr c))∧((∀ k x,xs[k]?=some x→¬ p (i+k) x)→findL f i xs ()=some (.inl ()))
 | [],i,p,f,_=>⟨fun ⟨k,x,h,_⟩=>by simp at h,fun _=>rfl⟩
 | x::xs,i,p,f,h=>by
  have h0:=h 0 x rfl
  simp only[Nat.add_zero] at h0
  have ih:=j4G (c:=c) (xs:=xs) (i:=i+1) (p:=p) (f:=f) fun k y hy=>by
   have:=h (k+1) y hy
   rwa[show i+(k+1)=i+1+k by omega] at this
  by_cases hp:p i x
  ·refine⟨fun _=>by simp[findL,h0.1 hp],fun hn=>absurd hp (hn 0 x rfl)⟩
  ·simp only[findL,h0.2 hp,bsS]
   refine⟨?_,?_⟩
   ·rintro⟨k,y,hy,hpy⟩
    cases k with
    | zero=>simp at hy;subst hy;exact absurd hpy hp
    | succ k=>exact ih.1 ⟨k,y,hy,by rwa[show i+1+k=i+(k+1) by omega]⟩
   ·intro hn
    exact ih.2 fun k y hy hpy=>hn (k+1) y hy (by rwa[show i+(k+1)=i+1+k by omega])
theorem j4H {c:ρ}:∀ {n i:Nat} {p:Nat→Prop} {f:Nat→Unit→Option (Unit ⊕ ρ)},(∀ k,k<n→(p (i+k)→f (i+k) ()=some (.inr c))∧(¬ p (i+k)→f (i+k) ()=some (.inl ()))) →
  ((∃ k,k<n∧p (i+k))→findN f i n ()=some (.inr c))∧((∀ k,k<n→¬ p (i+k))→findN f i n ()=some (.inl ()))
 | 0,i,p,f,_=>⟨fun ⟨k,h,_⟩=>by omega,fun _=>rfl⟩
 | n+1,i,p,f,h=>by
  have h0:=h 0 (by omega)
  simp only[Nat.add_zero] at h0
  have ih:=j4H (c:=c) (n:=n) (i:=i+1) (p:=p) (f:=f) fun k hk=>by
   have:=h (k+1) (by omega)
   rwa[show i+(k+1)=i+1+k by omega] at this
  by_cases hp:p i
  ·refine⟨fun _=>by simp[findN,h0.1 hp],fun hn=>absurd hp (hn 0 (by omega))⟩
  ·simp only[findN,h0.2 hp,bsS]
   refine⟨?_,?_⟩
   ·rintro⟨k,hk,hpk⟩
    cases k with
    | zero=>exact absurd hpk hp
    | succ k=>exact ih.1 ⟨k,by omega,by rwa[show i+1+k=i+(k+1) by omega]⟩
   ·intro hn
    exact ih.2 fun k hk hpk=>hn (k+1) (by omega) (by rwa[show i+(k+1)=i+1+k by omega])
theorem j7h [DecidableEq α]{y:α}:∀ {xs:List α} {i:Nat} {f:Nat→α→Unit→Option (Unit ⊕ Int)},(∀ k x,(x=y→f k x ()=some (.inr (k:Int)))∧(x≠y→f k x ()=some (.inl ()))) →
  findL f i xs ()=some (if y∈xs then .inr ((i+xs.idxOf y:Nat):Int) else .inl ())
 | [],i,f,_=>by simp[findL]
 | x::xs,i,f,h=>by
  by_cases hx:x=y
  ·subst hx;simp[findL,(h i x).1 rfl]
  ·have hx' : (x == y)=false:=by simpa using hx
   simp only[findL,(h i x).2 hx,bsS,j7h (xs:=xs) (i:=i+1) h,List.mem_cons,List.idxOf_cons,hx',cond_false]
   by_cases hy:y∈xs
   ·simp[hy];omega
   ·have:¬ y=x:=fun e=>hx e.symm
    simp[hy,this]
theorem j9N [DecidableEq α]{y:α}{xs:List α}{f:Nat→α→Unit→Option (Unit ⊕ Int)}(h:∀ k x,(x=y→f k x ()=some (.inr (k:Int)))∧(x≠y→f k x ()=some (.inl ()))) :
  (findL f 0 xs ()).bind (onr (fun r1=>some r1) fun _=>some (-1))=some (ixF xs y):=by
 rw[j7h h]
 unfold ixF
 by_cases hy:y∈xs<;>simp[hy]
theorem z5U {P:Nat→σ→Prop}:∀ {xs:List α} {i:Nat} {s:σ} {f:Nat→α→σ→Option σ},P i s→(∀ k x s,xs[k]?=some x→P (i+k) s→∃ s',f (i+k) x s=some s'∧P (i+k+1) s')→∃ s',eachL f i xs s=some s'∧P (i+xs.length) s'
 | [],i,s,f,h,_=>⟨s,rfl,h⟩
 | x::xs,i,s,f,h,hs=>by
  obtain⟨s1,h1,h2⟩:=hs 0 x s rfl h
  simp only[Nat.add_zero] at h1 h2
  obtain⟨s2,h3,h4⟩:=z5U (P:=P) (xs:=xs) (i:=i+1) (f:=f) h2 fun k y s hy hp=>by
   have:=hs (k+1) y s hy (by rwa[show i+(k+1)=i+1+k by omega])
   rwa[show i+(k+1)=i+1+k by omega] at this
  exact⟨s2,by simp[eachL,h1,h3],by rw[lnC,show i+(xs.length+1)=i+1+xs.length by omega];exact h4⟩
theorem z7t {P:Nat→σ→Prop}:∀ {n i:Nat} {s:σ} {f:Nat→σ→Option σ},P i s→(∀ k s,i≤k→k<i+n→P k s→∃ s',f k s=some s'∧P (k+1) s')→∃ s',eachN f i n s=some s'∧P (i+n) s'
 | 0,i,s,f,h,_=>⟨s,rfl,h⟩
 | n+1,i,s,f,h,hs=>by
  obtain⟨s1,h1,h2⟩:=hs i s (Nat.le_refl _) (by omega) h
  obtain⟨s2,h3,h4⟩:=z7t (P:=P) (n:=n) (i:=i+1) (f:=f) h2 fun k s hk hk2 hp=>hs k s (by omega) (by omega) hp
  exact⟨s2,by simp[eachN,h1,h3],by rw[show i+(n+1)=i+1+n by omega];exact h4⟩
end
end Go.E
set_option maxRecDepth 100000
set_option maxHeartbeats 4000000
noncomputable section
namespace Go.Proofs.YtomdlgffolbdkaaGreat
open Go Go.E
open Go.E.Sz (szd)
instance:Sz At_ where
 szd x:=x.Name.size
theorem j3d (x:At_):Sz.szd x=x.Name.size:=rfl
instance:Sz Symbol where
 szd x:=x.Name.size+szL x.Attributes
theorem j1W (x:Symbol):Sz.szd x=x.Name.size+szL x.Attributes:=rfl
mutual
def z0w:Expr→Nat
 | ⟨a0,a1,a2,a3,a4,a5,a6⟩=>a4.size+a5.size+z2V a6
def z2V:List Expr→Nat
 | []=>0
 | x::xs=>1+z0w x+z2V xs
end
instance:Sz Expr:=⟨z0w⟩
theorem j6c (a:List Expr):z2V a=szL a:=by
 induction a with
 | nil=>rfl
 | cons x xs ih=>simp only[z2V,szL,ih];rfl
theorem q6o (x:Expr):Sz.szd x=x.Symbol.size+x.Name.size+szL x.Args:=by
 cases x;show z0w _=_;simp only[z0w,j6c]
instance:Sz Eqn where
 szd x:=x.At.Name.size+x.Expr.Symbol.size+x.Expr.Name.size+szL x.Expr.Args
theorem z8G (x:Eqn):Sz.szd x=x.At.Name.size+x.Expr.Symbol.size+x.Expr.Name.size+szL x.Expr.Args:=rfl
instance:Sz Cn where
 szd x:=x.Symbol.size+x.Name.size+x.Target.Symbol.size+x.Target.Name.size+szL x.Target.Args+x.Value.Symbol.size+x.Value.Name.size+szL x.Value.Args
theorem z4D (x:Cn):Sz.szd x=x.Symbol.size+x.Name.size+x.Target.Symbol.size+x.Target.Name.size+szL x.Target.Args+x.Value.Symbol.size+x.Value.Name.size+szL x.Value.Args:=rfl
instance:Sz Rule where
 szd x:=x.Name.size+x.Left.size+szL x.Right+szL x.Equations+szL x.Contributions
theorem z7u (x:Rule):Sz.szd x=x.Name.size+x.Left.size+szL x.Right+szL x.Equations+szL x.Contributions:=rfl
instance:Sz Gm_ where
 szd x:=szL x.Symbols+szL x.Rules
theorem z4n (x:Gm_):Sz.szd x=szL x.Symbols+szL x.Rules:=rfl
end Go.Proofs.YtomdlgffolbdkaaGreat
namespace Go.E
section
variable {α:Type}{lt:α→α→Bool}
theorem j1X (irr:∀ a,lt a a=false)(tr:∀ a b c,lt a b=true→lt b c=true→lt a c=true) :
  ∀ {xs ys:List α},xs.Pairwise (fun a b=>lt a b=true)→ys.Pairwise (fun a b=>lt a b=true)→(∀ a,a∈xs↔a∈ys)→xs=ys
 | [],[],_,_,_=>rfl
 | [],y::ys,_,_,h=>absurd ((h y).2 (by simp)) (by simp)
 | x::xs,[],_,_,h=>absurd ((h x).1 (by simp)) (by simp)
 | x::xs,y::ys,hx,hy,h=>by
  rw[List.pairwise_cons] at hx hy
  have asym:∀ a b,lt a b=true→lt b a=true→False:=fun a b h1 h2=>by have:=tr a b a h1 h2;rw[irr] at this;cases this
  have hxy:x=y:=by
   have h1:=(h x).1 (by simp)
   have h2:=(h y).2 (by simp)
   rcases List.mem_cons.1 h1 with e|h1
   ·exact e
   rcases List.mem_cons.1 h2 with e|h2
   ·exact e.symm
   exact (asym x y (hx.1 y h2) (hy.1 x h1)).elim
  subst hxy
  congr 1
  refine j1X irr tr hx.2 hy.2 fun a=>?_
  constructor
  ·intro ha
   rcases List.mem_cons.1 ((h a).1 (by simp[ha])) with e|h1
   ·subst e;have:=hx.1 _ ha;rw[irr] at this;cases this
   ·exact h1
  ·intro ha
   rcases List.mem_cons.1 ((h a).2 (by simp[ha])) with e|h1
   ·subst e;have:=hy.1 _ ha;rw[irr] at this;cases this
   ·exact h1
theorem j8A (tr:∀ a b c,lt a b=true→lt b c=true→lt a c=true)(tot:∀ a b,lt a b=false→lt b a=false→a=b){l:List α}{o:α}{k:Nat}(hl:l.Pairwise (fun a b=>lt a b=true))
  (hb:∀ a∈l.take k,lt a o=true) (ha:∀ y,l[k]?=some y→lt y o=false∧y≠o):(l.take k++o::l.drop k).Pairwise (fun a b=>lt a b=true):=by
 have hs:(l.take k++l.drop k).Pairwise (fun a b=>lt a b=true):=by rw[List.take_append_drop];exact hl
 rw[List.pairwise_append] at hs
 have ho:∀ z∈l.drop k,lt o z=true:=by
  cases hd:l.drop k with
  | nil=>intro z hz;cases hz
  | cons y r=>
   have hy:l[k]?=some y:=by
    have:(l.drop k)[0]?=some y:=by rw[hd];rfl
    simpa using this
   obtain⟨h1,h2⟩:=ha y hy
   have h3:lt o y=true:=by
    cases h:lt o y with
    | true=>rfl
    | false=>exact absurd (tot _ _ h1 h) h2
   intro z hz
   rcases List.mem_cons.1 hz with e|hz
   ·rw[e];exact h3
   ·have:=hs.2.1;rw[hd,List.pairwise_cons] at this
    exact tr _ _ _ h3 (this.1 z hz)
 rw[List.pairwise_append,List.pairwise_cons]
 refine⟨hs.1,⟨ho,hs.2.1⟩,fun a h1 b h2=>?_⟩
 rcases List.mem_cons.1 h2 with e|h2
 ·rw[e];exact hb a h1
 ·exact hs.2.2 a h1 b h2
end
section
variable {α:Type}[DecidableEq α]{lt:α→α→Bool}
def q5a:List α→List α
 | []=>[]
 | [x]=>[x]
 | x::y::l=>if x=y then q5a (y::l) else x::q5a (y::l)
theorem z5v {a:α}:∀ {l:List α},a∈q5a l↔a∈l
 | []=>Iff.rfl
 | [x]=>Iff.rfl
 | x::y::l=>by
  unfold q5a
  have ih:=z5v (a:=a) (l:=y::l)
  split
  ·rename_i e;subst e;rw[ih];simp
  ·rw[List.mem_cons,ih];simp
theorem z5w (tr:∀ a b c,lt a b=true→lt b c=true→lt a c=true)(tot:∀ a b,lt a b=false→lt b a=false→a=b) :
  ∀ {l:List α},l.Pairwise (fun a b=>lt b a=false)→(q5a l).Pairwise (fun a b=>lt a b=true)
 | [],_=>List.Pairwise.nil
 | [x],_=>by simp[q5a]
 | x::y::l,h=>by
  unfold q5a
  rw[List.pairwise_cons] at h
  have ih:=z5w tr tot h.2
  split
  ·exact ih
  ·rename_i hne
   rw[List.pairwise_cons]
   refine⟨fun z hz=>?_,ih⟩
   have h1:lt x y=true:=by
    cases e:lt x y with
    | true=>rfl
    | false=>exact absurd (tot _ _ e (h.1 y (by simp))) hne
   rcases List.mem_cons.1 (z5v.1 hz) with e|hz
   ·rw[e];exact h1
   ·have h2:=(List.pairwise_cons.1 h.2).1 z hz
    cases e:lt y z with
    | true=>exact tr _ _ _ h1 e
    | false=>rw[← tot _ _ e h2];exact h1
theorem z7v {a:α}:∀ {l:List α},q5a (l++[a])=if l.getLast?=some a then q5a l else q5a l++[a]
 | []=>by simp[q5a]
 | [x]=>by
  simp only[q5a,List.cons_append,List.nil_append,List.getLast?_singleton,Option.some.injEq]
  by_cases e:x=a
  ·subst e;simp
  ·simp[e]
 | x::y::l=>by
  have ih:=z7v (a:=a) (l:=y::l)
  simp only[List.cons_append] at ih ⊢
  have e:(x::y::l).getLast?=(y::l).getLast?:=by simp[List.getLast?_cons_cons]
  rw[e]
  show (if x=y then q5a (y::(l++[a])) else x::q5a (y::(l++[a])))=_
  rw[ih]
  show _=if (y::l).getLast?=some a then (if x=y then q5a (y::l) else x::q5a (y::l)) else (if x=y then q5a (y::l) else x::q5a (y::l))++[a]
  split<;>split<;>simp
theorem z7w {l:List α}{i:Nat}{a b:α}(ha:l[i]?=some a)(hb:l[i+1]?=some b):q5a (l.take (i+2))=if a=b then q5a (l.take (i+1)) else q5a (l.take (i+1))++[b]:=by
 have h1:l.take (i+2)=l.take (i+1)++[b]:=by rw[show i+2=(i+1)+1 from rfl,List.take_add_one,hb];rfl
 have h2:(l.take (i+1)).getLast?=some a:=by rw[List.take_add_one,ha];simp
 rw[h1,z7v,h2]
 by_cases e:a=b
 ·simp[e]
 ·simp[e]
end
end Go.E
namespace Go.Proofs.YtomdlgffolbdkaaGreat
open Go Go.E
mutual
def z4o:Expr→List Oc
 | ⟨a0,a1,a2,a3,a4,a5,a6⟩=>(if a0=3 then [⟨a2,a5⟩] else [])++z0x a6
def z0x:List Expr→List Oc
 | []=>[]
 | x::xs=>z4o x++z0x xs
end
mutual
def fuE:Expr→Nat
 | ⟨_,_,_,_,_,_,a6⟩=>fuEs a6+1
def fuEs:List Expr→Nat
 | []=>0
 | x::xs=>max (fuE x) (fuEs xs)
end
theorem z8H (e:Expr):fuE e=fuEs e.Args+1:=by cases e;rfl
theorem j3e:∀ {l:List Expr} {x:Expr},x∈l→fuE x≤fuEs l
 | y::l,x,h=>by
  simp only[fuEs]
  rcases List.mem_cons.1 h with e|h
  ·subst e;omega
  ·have:=j3e h;omega
theorem z4p (e:Expr):z4o e=(if e.Kind=3 then [⟨e.Pos,e.Name⟩] else [])++z0x e.Args:=by cases e;rfl
mutual
theorem j4I:∀ e:Expr,(z4o e).length≤1+z0w e
 | ⟨a0,a1,a2,a3,a4,a5,a6⟩=>by
  have:=j1Y a6
  simp only[z4o,z0w,List.length_append]
  split<;>simp<;>omega
theorem j1Y:∀ l:List Expr,(z0x l).length≤z2V l
 | []=>by simp[z0x]
 | x::xs=>by
  have h1:=j4I x
  have h2:=j1Y xs
  simp only[z0x,z2V,List.length_append];omega
end
theorem z7x {α:Type}[Sz α]{x:α}:∀ {l:List α},x∈l→Sz.szd x<szL l
 | [],h=>by simp at h
 | y::l,h=>by
  rcases List.mem_cons.1 h with rfl|h
  ·simp only[szL];omega
  ·have:=z7x h;simp only[szL];omega
theorem k3f {e x:Expr}(h:x∈e.Args):Sz.szd x<Sz.szd e:=by
 have h1:=q6o e
 have h2:=z7x h
 omega
theorem j9O {e:Expr}(h:Sz.szd e≤1048576):(z4o e).length≤1048577:=by
 have h1:=j4I e
 have h2:z0w e=Sz.szd e:=rfl
 omega
theorem j6d:∀ (m:Nat) (e:Expr) (o:List Oc),fuE e≤m→o.length+(z4o e).length≤4398046511104→q4H m e o=some (true,o++z4o e):=by
 intro m
 induction m with
 | zero=>intro e o h;rw[z8H] at h;omega
 | succ m ih=>
  have hl:∀ (l:List Expr) (i:Nat) (o:List Oc),fuEs l≤m→o.length+(z0x l).length≤4398046511104→findL (q4n (q4H m)) i l o=some (.inl (o++z0x l)):=by
   intro l
   induction l with
   | nil=>intro i o _ _;simp[findL,z0x]
   | cons x l ihl=>
    intro i o hf hb
    simp only[fuEs] at hf
    simp only[z0x,List.length_append] at hb
    have hx:=ih x o (by omega) (by omega)
    simp only[findL,q4n,q5t,hx,bsS,Bool.not_true,Bool.false_eq_true,if_false]
    rw[ihl _ _ (by omega) (by rw[List.length_append];omega),z0x,List.append_assoc]
  intro e o hf hb
  rw[z8H] at hf
  show q4W (q4H m) e o=_
  have hb':=hb
  rw[z4p,List.length_append] at hb'
  have h1:q7r e o=some (true,o++if e.Kind=3 then [⟨e.Pos,e.Name⟩] else []):=by
   unfold q7r
   by_cases hk:e.Kind=3
   ·rw[ifP hk] at hb' ⊢
    rw[ifP hk,q3P]
    simp only[lnC,List.length_nil] at hb'
    constructor<;>omega
   ·rw[ifN hk,ifN hk,List.append_nil]
  unfold q4W
  rw[h1,bsS]
  dsimp only
  rw[ifP rfl]
  unfold q3S q3V
  rw[hl _ _ _ (by omega) (by rw[List.length_append];omega),z4p]
  simp[onr]
theorem k1S {e:Expr}(h:(z4o e).length≤4398046511104):q6r e []=some (true,z4o e):=
 q9N (fuE e) fun m hm=>by simpa using j6d m e [] hm (by simpa using h)
theorem j6e {α:Type}{s:List α}{k:Nat}{x:α}(h:k<s.length):(s.set k x).take (k+1)=s.take k++[x]:=by
 rw[List.take_add_one,List.take_set,List.set_eq_of_length_le (by simp;omega)]
 simp[List.getElem?_set,h]
theorem j8B {a:List Oc}{b:Nat}(ha:a.length≤4398046511104)(hb:1≤b)(hba:b<a.length):∀ (m j k:Nat) (s:List Oc),b+j+m=a.length→1≤j→1≤k→k≤b+j-1→s.length=a.length→s.take k=q5a (a.take (b+j))→s.drop (b+j-1)=a.drop (b+j-1) →
  ∃ s' k',q5s (q4c (b:Int)) (s,(k:Int),(j:Int))=some (s',((k' : Nat):Int))∧k'≤s'.length∧s'.take k'=q5a a:=by
 intro m
 induction m with
 | zero=>
  intro j k s hm hj hk hkj hs ht hd
  refine⟨s,k,q3U ?_,by omega,?_⟩
  ·unfold q4c
   dsimp only
   rw[ifN (by simp only[tnC,List.length_drop];omega)]
  ·rw[ht,show b+j=a.length by omega,List.take_length]
 | succ m ih=>
  intro j k s hm hj hk hkj hs ht hd
  obtain⟨x,hx⟩:∃ x,a[b+j]?=some x:=⟨_,List.getElem?_eq_getElem (by omega)⟩
  obtain⟨y,hy⟩:∃ y,a[b+j-1]?=some y:=⟨_,List.getElem?_eq_getElem (by omega)⟩
  obtain⟨z,hz⟩:∃ z,s[k]?=some z:=⟨_,List.getElem?_eq_getElem (by omega)⟩
  have hsx:s[b+j]?=some x:=by
   have:=congrArg (fun l=>l[1]?) hd
   simp only[List.getElem?_drop] at this
   rw[show b+j-1+1=b+j by omega] at this
   rw[this,hx]
  have hsy:s[b+(j-1)]?=some y:=by
   have:=congrArg (fun l=>l[0]?) hd
   simp only[List.getElem?_drop,Nat.add_zero] at this
   rw[show b+(j-1)=b+j-1 by omega,this,hy]
  have hc:=z7w (i:=b+j-1) (b:=x) hy (by rw[show b+j-1+1=b+j by omega];exact hx)
  rw[show b+j-1+2=b+(j+1) by omega,show b+j-1+1=b+j by omega] at hc
  have hd2:s.drop (b+(j+1)-1)=a.drop (b+(j+1)-1):=by
   have:=congrArg (fun l=>l.drop 1) hd
   simp only[List.drop_drop] at this
   rw[show b+(j+1)-1=b+j-1+1 by omega];exact this
  have e1:((j:Int)-1).toNat=j-1:=by omega
  by_cases hxy:x=y
  ·have e:q4c (b:Int) (s,(k:Int),(j:Int))=some (.inl (s,(k:Int),((j+1:Nat):Int))):=by
    unfold q4c
    dsimp only
    rw[ifP (by simp only[tnC,List.length_drop];omega),q3P (by omega)]
    simp only[tnC]
    rw[hsx,bsS,q3P (by constructor<;>omega),q3P (by omega),e1,hsy,bsS,ifP hxy,bsS]
    dsimp only
    rw[q3P (by constructor<;>omega)];rfl
   rw[q4G e]
   exact ih (j+1) k s (by omega) (by omega) hk (by omega) hs (by rw[hc,ifP hxy.symm,ht]) hd2
  ·have e:q4c (b:Int) (s,(k:Int),(j:Int))=some (.inl (s.set k x,((k+1:Nat):Int),((j+1:Nat):Int))):=by
    unfold q4c
    dsimp only
    rw[ifP (by simp only[tnC,List.length_drop];omega),q3P (by omega)]
    simp only[tnC]
    rw[hsx,bsS,q3P (by constructor<;>omega),q3P (by omega),e1,hsy,bsS,ifN hxy,q3P (by omega),q3P (by omega),hz,bsS,q3P (by constructor<;>omega),bsS]
    dsimp only
    rw[q3P (by constructor<;>omega)];rfl
   rw[q4G e]
   refine ih (j+1) (k+1) _ (by omega) (by omega) (by omega) (by omega) (by rw[List.length_set];exact hs) ?_ ?_
   ·rw[j6e (by omega),ht,hc,ifN (fun h=>hxy h.symm)]
   ·rw[List.drop_set,ifP (by omega)];exact hd2
theorem j6f {a:List Oc}(ha:a.length≤4398046511104):∀ (m k:Nat),k+m=a.length→1≤k→q5a (a.take k)=a.take k →
  (q5s (q4d a) (k:Int)).bind (onr (fun r1=>some r1) fun _=>some a)=some (q5a a):=by
 intro m
 induction m with
 | zero=>
  intro k hm hk hc
  have e:q4d a (k:Int)=some (.inr (.inl ())):=by
   unfold q4d
   dsimp only
   rw[ifN (by omega)]
  rw[q3U e,bsS]
  show some a=_
  rw[show k=a.length by omega,List.take_length] at hc
  rw[hc]
 | succ m ih=>
  intro k hm hk hc
  obtain⟨x,hx⟩:∃ x,a[k]?=some x:=⟨_,List.getElem?_eq_getElem (by omega)⟩
  obtain⟨y,hy⟩:∃ y,a[k-1]?=some y:=⟨_,List.getElem?_eq_getElem (by omega)⟩
  have hct:=z7w (i:=k-1) (b:=x) hy (by rw[show k-1+1=k by omega];exact hx)
  rw[show k-1+2=k+1 by omega,show k-1+1=k by omega] at hct
  have htk:a.take (k+1)=a.take k++[x]:=by rw[List.take_add_one,hx];rfl
  have e1:((k:Int)-1).toNat=k-1:=by omega
  by_cases hxy:x=y
  ·obtain⟨s',k',h1,h2,h3⟩:=j8B (b:=k) ha hk (by omega) m 1 k a (by omega) (by omega) hk (by omega) rfl (by rw[hct,ifP hxy.symm,hc]) rfl
   have hl:(s'.take k'++List.replicate (s'.length-k') (⟨(0:Int),(⟨#[]⟩:ByteArray)⟩:Oc)).take k'=q5a a:=by
    rw[List.take_append_of_le_length (by simp;omega),List.take_take,Nat.min_self,h3]
   have e:q4d a (k:Int)=some (.inr (.inr (q5a a))):=by
    unfold q4d
    dsimp only
    rw[ifP (by omega),q3P (by omega)]
    simp only[tnC]
    rw[hx,bsS,q3P (by constructor<;>omega),q3P (by omega),e1,hy,bsS,ifP hxy,q3P (by omega),q3P (by omega)]
    have h1' : q5s (q4c (k:Int)) (a,(k:Int),1)=some (s',((k' : Nat):Int)):=h1
    rw[h1',bsS]
    dsimp only
    simp only[tnC]
    rw[q3P (by omega),q3P (by omega),q3P (by omega),q3P (by simp;omega),hl]
   rw[q3U e,bsS];rfl
  ·have e:q4d a (k:Int)=some (.inl ((k+1:Nat):Int)):=by
    unfold q4d
    dsimp only
    rw[ifP (by omega),q3P (by omega)]
    simp only[tnC]
    rw[hx,bsS,q3P (by constructor<;>omega),q3P (by omega),e1,hy,bsS,ifN hxy,q3P (by constructor<;>omega)];rfl
   rw[q4G e]
   exact ih (k+1) (by omega) (by omega) (by rw[hct,ifN (fun h=>hxy h.symm),hc,htk])
theorem j8C {a:List Oc}(ha:a.length≤4398046511104):q5o a=some (q5a a):=by
 unfold q5o
 by_cases h:(a.length:Int)<2
 ·rw[ifP h]
  match a,h with
  | [],_=>rfl
  | [x],_=>rfl
  | x::y::l,h=>simp only[lnC] at h;omega
 ·rw[ifN h]
  refine j6f ha (a.length-1) 1 (by omega) (Nat.le_refl _) ?_
  match a,h with
  | x::l,_=>rfl
def attrs (e:Expr):List Oc:=q5a (j4n (z4o e))
theorem j9P {o:Oc}{e:Expr}:o∈attrs e↔o∈z4o e:=by
 unfold attrs j4n
 rw[z5v,List.mem_mergeSort]
theorem j7i {e:Expr}(h:Sz.szd e≤1048576):q7i e=some (attrs e):=by
 have hl:=j9O h
 have hs:(j4n (z4o e)).length=(z4o e).length:=by unfold j4n;exact List.length_mergeSort _
 unfold q7i
 rw[k1S (by omega),bsS]
 dsimp only
 unfold q5O
 rw[q3P (by omega),bsS,j8C (by omega)];rfl
theorem z5x (e:Expr):1≤fuE e:=by rw[z8H];omega
theorem z4E {e x:Expr}(hx:x∈e.Args):fuE x+1≤fuE e:=by
 have:=j3e hx
 have:=z8H e
 omega
theorem z1s {P:Expr→Prop}(h:∀ e,(∀ x∈e.Args,P x)→P e)(e:Expr):P e:=by
 have:∀ n e,fuE e≤n→P e:=by
  intro n
  induction n with
  | zero=>intro e he;have:=z5x e;omega
  | succ n ih=>intro e he;exact h e fun x hx=>ih x (by have:=z4E hx;omega)
 exact this _ e (Nat.le_refl _)
theorem q5e {α ρ:Type}{c:ρ}{q:α→Bool}:∀ {xs:List α} {i:Nat} {f:Nat→α→Unit→Option (Unit ⊕ ρ)},(∀ k x,x∈xs→f k x ()=some (if q x=true then .inl () else .inr c))→findL f i xs ()=some (if xs.all q=true then .inl () else .inr c)
 | [],i,f,h=>rfl
 | x::xs,i,f,h=>by
  rw[findL,h i x (by simp)]
  by_cases hx:q x=true
  ·rw[ifP hx,bsS]
   show findL f (i+1) xs ()=_
   rw[q5e fun k y hy=>h k y (by simp[hy])]
   simp[hx]
  ·rw[ifN hx];simp[hx]
theorem j0A {α:Type}{q:α→Bool}:∀ {xs:List α} {i:Nat} {f:Nat→α→Unit→Option (Unit ⊕ Int)},(∀ k x,x∈xs→f k x ()=some (if q x=true then .inr (k:Int) else .inl ()))→findL f i xs ()=some (if xs.any q=true then .inr ((i+xs.findIdx q:Nat):Int) else .inl ())
 | [],i,f,h=>rfl
 | x::xs,i,f,h=>by
  rw[findL,h i x (by simp)]
  by_cases hx:q x=true
  ·rw[ifP hx];simp[hx,List.findIdx_cons]
  ·rw[ifN hx,bsS]
   show findL f (i+1) xs ()=_
   rw[j0A fun k y hy=>h k y (by simp[hy])]
   have hx' : q x=false:=by simpa using hx
   simp only[List.any_cons,hx',Bool.false_or,List.findIdx_cons,cond_false]
   rw[show i+1+xs.findIdx q=i+(xs.findIdx q+1) by omega]
mutual
def allE (p:Expr→Bool):Expr→Bool
 | ⟨a0,a1,a2,a3,a4,a5,a6⟩=>p ⟨a0,a1,a2,a3,a4,a5,a6⟩&&k1T p a6
def k1T (p:Expr→Bool):List Expr→Bool
 | []=>true
 | x::xs=>allE p x&&k1T p xs
end
mutual
def cntE:Expr→Nat
 | ⟨_,_,_,_,_,_,a6⟩=>z4q a6+1
def z4q:List Expr→Nat
 | []=>0
 | x::xs=>cntE x+z4q xs
end
mutual
def depE:Expr→Nat
 | ⟨_,_,_,_,_,_,a6⟩=>j1v a6+1
def j1v:List Expr→Nat
 | []=>0
 | x::xs=>max (depE x) (j1v xs)
end
theorem j7j (p:Expr→Bool):∀ l,k1T p l=l.all (allE p)
 | []=>rfl
 | x::xs=>by rw[k1T,j7j p xs];rfl
theorem j3f (p:Expr→Bool)(e:Expr):allE p e=(p e&&e.Args.all (allE p)):=by
 cases e;rw[allE,j7j]
theorem z8c (e:Expr):cntE e=z4q e.Args+1:=by cases e;rfl
theorem j9Q (e:Expr):depE e=j1v e.Args+1:=by cases e;rfl
mutual
theorem j3g:∀ e:Expr,cntE e≤1+z0w e
 | ⟨a0,a1,a2,a3,a4,a5,a6⟩=>by
  have:=j4J a6
  simp only[cntE,z0w];omega
theorem j4J:∀ l:List Expr,z4q l≤z2V l
 | []=>by simp[z4q]
 | x::xs=>by
  have h1:=j3g x
  have h2:=j4J xs
  simp only[z4q,z2V];omega
end
theorem k3g {e:Expr}(h:Sz.szd e≤1048576):cntE e≤1048577:=by
 have h1:=j3g e
 have h2:z0w e=Sz.szd e:=rfl
 omega
mutual
theorem j9R:∀ e:Expr,depE e≤cntE e
 | ⟨_,_,_,_,_,_,a6⟩=>by
  have:=j7k a6
  simp only[depE,cntE];omega
theorem j7k:∀ l:List Expr,j1v l≤z4q l
 | []=>Nat.le_refl _
 | x::xs=>by
  have h1:=j9R x
  have h2:=j7k xs
  simp only[j1v,z4q];omega
end
theorem j4K:∀ {l:List Expr} {x:Expr},x∈l→cntE x≤z4q l
 | y::l,x,h=>by
  simp only[z4q]
  rcases List.mem_cons.1 h with e|h
  ·subst e;omega
  ·have:=j4K h;omega
theorem j9S {e x:Expr}(hx:x∈e.Args):cntE x+1≤cntE e:=by
 have:=j4K hx
 have:=z8c e
 omega
theorem j8D (e:Expr):∀ m,fuE e≤m→cntE e≤1099511627776→q9E m e=some (cntE e:Int):=by
 induction e using z1s with
 | h e ih=>
  intro m hm hc
  obtain⟨m,rfl⟩:∃ q,m=q+1:=⟨m-1,by have:=z5x e;omega⟩
  show z1t (q9E m) e=_
  unfold z1t
  have key:∀ (l:List Expr) (i s:Nat),(∀ x∈l,x∈e.Args)→s+z4q l≤1099511627776→eachL (z1L (q9E m)) i l (s:Int)=some ((s+z4q l:Nat):Int):=by
   intro l
   induction l with
   | nil=>intro i s _ _;rfl
   | cons x l ihl=>
    intro i s hx hs
    have hxm:=hx x (by simp)
    simp only[z4q] at hs
    have h1:=ih x hxm m (by have:=z4E hxm;omega) (by omega)
    rw[eachL]
    unfold z1L
    rw[h1,bsS,q3P (by constructor<;>omega),bsS]
    have:=ihl (i+1) (s+cntE x) (fun y hy=>hx y (by simp[hy])) (by omega)
    rw[Int.natCast_add] at this
    unfold z1L at this
    rw[this,z4q]
    congr 1;omega
  rw[z8c] at hc
  have:=key e.Args 0 1 (fun _ h=>h) (by omega)
  rw[show ((1:Nat):Int)=1 from rfl] at this
  rw[this,bsS,z8c,Nat.add_comm]
theorem j9T {e:Expr}(h:cntE e≤1099511627776):z5b e=some (cntE e:Int):=q9N (fuE e) fun m hm=>j8D e m hm h
theorem k5j (a b:Nat):(if (b:Int) > (a:Int) then (b:Int) else (a:Int))=((max a b:Nat):Int):=by
 split<;>omega
theorem j0B {f:Expr→Option Int}{g:Nat→Expr→Int→Option Int}(hg:∀ k x s,g k x s=(f x).bind fun y=>some (if y > s then y else s)):∀ (l:List Expr) (i s:Nat),(∀ x∈l,f x=some (depE x:Int))→eachL g i l (s:Int)=some ((max s (j1v l):Nat):Int)
 | [],i,s,_=>by rw[eachL,j1v,Nat.max_zero]
 | x::l,i,s,h=>by
  rw[eachL,hg,h x (by simp),bsS,bsS,k5j,j0B hg l (i+1) _ fun y hy=>h y (by simp[hy]),j1v,Nat.max_assoc]
theorem j6g (a b:Int):q8L a b=some (if b > a then b else a):=by
 unfold q8L
 by_cases h:b<a
 ·rw[ifP h,ifN (by omega)]
 ·rw[ifN h]
  split
  ·rfl
  ·congr 1;omega
theorem j1Z (e:Expr):∀ m,fuE e≤m→cntE e≤1099511627776→q6I m e=some (depE e:Int)∧q6H m e=some (depE e:Int):=by
 induction e using z1s with
 | h e ih=>
  intro m hm hc
  obtain⟨m,rfl⟩:∃ q,m=q+1:=⟨m-1,by have:=z5x e;omega⟩
  show q9k (q6I m) e=_∧q9i (q6H m) e=_
  unfold q9k q9i
  have hx:∀ x∈e.Args,q6I m x=some (depE x:Int)∧q6H m x=some (depE x:Int):=fun x hx=>ih x hx m (by have:=z4E hx;omega) (by have:=j9S hx;omega)
  have k1:=j0B (f:=q6I m) (g:=z5c (q6I m)) (fun k x s=>rfl) e.Args 0 0 fun x h=>(hx x h).1
  have k2:=j0B (f:=q6H m) (g:=z2h (q6H m)) (fun k x s=>by
   unfold z2h
   congr 1;funext y
   rw[j6g,bsS]) e.Args 0 0 fun x h=>(hx x h).2
  rw[show ((0:Nat):Int)=0 from rfl] at k1 k2
  have hd:=j9R e
  rw[j9Q] at hd
  rw[k1,k2]
  have hg:I64 (((max 0 (j1v e.Args):Nat):Int)+1):=by constructor<;>omega
  have he:((max 0 (j1v e.Args):Nat):Int)+1=(depE e:Int):=by rw[j9Q];omega
  refine⟨?_,?_⟩
  ·rw[bsS,q3P hg,he]
  ·rw[bsS,q3P hg,he]
theorem j9U {e:Expr}(h:cntE e≤1099511627776):z2Z e=some (depE e:Int):=q9N (fuE e) fun m hm=>(j1Z e m hm h).1
theorem j9V {e:Expr}(h:cntE e≤1099511627776):z2Y e=some (depE e:Int):=q9N (fuE e) fun m hm=>(j1Z e m hm h).2
def z9d (a:Int)(n:Nat):Int:=if (n:Int)≤a then a-n else -1
theorem j9W (e:Expr):∀ m,fuE e≤m→∀ a:Int,0≤a→a≤1048576→cntE e≤1099511627776→z2g m e a=some (z9d a (cntE e)):=by
 induction e using z1s with
 | h e ih=>
  intro m hm a h0 h1 hc
  obtain⟨m,rfl⟩:∃ q,m=q+1:=⟨m-1,by have:=z5x e;omega⟩
  show z4R (z2g m) e a=_
  unfold z4R
  rw[q3P (by constructor<;>omega)]
  have hlen:e.Args.length≤cntE e:=by
   rw[z8c]
   have:∀ l:List Expr,l.length≤z4q l:=by
    intro l
    induction l with
    | nil=>simp
    | cons x l ih=>
     have:=z8c x
     simp only[z4q,lnC];omega
   have:=this e.Args;omega
  have key:∀ (n k:Nat) (s:Int),k+n=e.Args.length→-1≤s→s≤1048576→q5s (z1R (z2g m) e) (s,(k:Int))=some (if 0≤s then z9d s (z4q (e.Args.drop k)) else s):=by
   intro n
   induction n with
   | zero=>
    intro k s hk _ _
    have hdrop:e.Args.drop k=[]:=List.drop_eq_nil_of_le (by omega)
    refine q3U ?_
    unfold z1R
    dsimp only
    rw[ifN (by omega),hdrop]
    congr 2
    split
    ·unfold z9d;simp[z4q];omega
    ·rfl
   | succ n ihn=>
    intro k s hk hs1 hs2
    have hkl:k<e.Args.length:=by omega
    by_cases hs:0≤s
    ·have hxm:e.Args[k]∈e.Args:=List.getElem_mem hkl
     have hr:=ih _ hxm m (by have:=z4E hxm;omega) s hs hs2 (by have:=j9S hxm;omega)
     have hstep:z1R (z2g m) e (s,(k:Int))=some (.inl (z9d s (cntE e.Args[k]),((k+1:Nat):Int))):=by
      unfold z1R
      dsimp only
      rw[ifP (by omega),ifP hs,q3P (by omega),tnC,List.getElem?_eq_getElem hkl,bsS,hr,bsS,q3P (by constructor<;>omega)]
      rfl
     have hb1:-1≤z9d s (cntE e.Args[k]):=by unfold z9d;split<;>omega
     have hb2:z9d s (cntE e.Args[k])≤1048576:=by unfold z9d;split<;>omega
     rw[q4G hstep,ihn (k+1) _ (by omega) hb1 hb2,ifP hs]
     have hd:e.Args.drop k=e.Args[k]::e.Args.drop (k+1):=List.drop_eq_getElem_cons hkl
     rw[hd,z4q]
     congr 1
     unfold z9d
     split<;>split<;>(try split)<;>omega
    ·refine q3U ?_
     unfold z1R
     dsimp only
     rw[ifP (by omega),ifN hs,ifN hs]
  have:=key e.Args.length 0 (a-1) (by omega) (by omega) (by omega)
  rw[show ((0:Nat):Int)=0 from rfl] at this
  rw[this,bsS,List.drop_zero,z8c]
  congr 1
  unfold z9d
  split<;>(try split)<;>(try split)<;>omega
theorem k1U {e:Expr}{a:Int}(h0:0≤a)(h1:a≤1048576)(h:cntE e≤1099511627776):z9R e a=some (z9d a (cntE e)):=q9N (fuE e) fun m hm=>j9W e m hm a h0 h1 h
theorem j8E (x lo hi:Int):q4e x lo hi=some (decide (lo≤x∧x≤hi)):=by
 unfold q4e;by_cases h:lo≤x<;>simp[h]
theorem j3h (x lo hi:Int):q5v x lo hi=some (decide (lo≤x∧x≤hi)):=by
 unfold q5v;by_cases h:lo≤x<;>simp[h]
def lowB (c:UInt8):Bool:=decide (97≤(c.toNat:Int)∧(c.toNat:Int)≤122)
def digB (c:UInt8):Bool:=decide (48≤(c.toNat:Int)∧(c.toNat:Int)≤57)
theorem z8d (c:UInt8):z1T c=some (lowB c):=by
 unfold z1T lowB;by_cases h:97≤(c.toNat:Int)<;>simp[h]
theorem j8F (c:UInt8):z3t c=some (digB c):=by
 unfold z3t digB;by_cases h:48≤(c.toNat:Int)<;>simp[h]
def allN (q:Nat→Bool):Nat→Nat→Bool
 | _,0=>true
 | i,n+1=>q i&&allN q (i+1) n
theorem j2a {q r:Nat→Bool}:∀ {n i:Nat},(∀ k,i≤k→q k=r k)→allN q i n=allN r i n
 | 0,_,_=>rfl
 | n+1,i,h=>by rw[allN,allN,h i (Nat.le_refl _),j2a fun k hk=>h k (by omega)]
theorem z8e {ρ:Type}{c:ρ}{q:Nat→Bool}:∀ {n i:Nat} {f:Nat→Unit→Option (Unit ⊕ ρ)},(∀ k,k<n→f (i+k) ()=some (if q (i+k)=true then .inl () else .inr c))→findN f i n ()=some (if allN q i n=true then .inl () else .inr c)
 | 0,i,f,h=>rfl
 | n+1,i,f,h=>by
  have h0:=h 0 (by omega)
  rw[Nat.add_zero] at h0
  rw[findN,h0]
  by_cases hx:q i=true
  ·rw[ifP hx,bsS]
   show findN f (i+1) n ()=_
   rw[z8e fun k hk=>by have:=h (k+1) (by omega);rwa[show i+(k+1)=i+1+k by omega] at this]
   simp[allN,hx]
  ·rw[ifN hx];simp[allN,hx]
def chr (s:ByteArray)(k:Nat):UInt8:=s.data.getD k 0
theorem j3i {s:ByteArray}{k:Nat}(h:k<s.size):s.data[k]?=some (chr s k):=by
 have h' : k<s.data.size:=h
 unfold chr
 rw[Array.getD_eq_getD_getElem?,Array.getElem?_eq_getElem h'];rfl
def z7y:List ByteArray:=[⟨#[105,102]⟩,⟨#[116,104,101,110]⟩,⟨#[101,108,115,101]⟩,⟨#[116,114,117,101]⟩,⟨#[102,97,108,115,101]⟩,⟨#[108,105,116]⟩,⟨#[110,111,110,101]⟩,⟨#[115,101,108,102]⟩,⟨#[111,102]⟩,⟨#[109,97,120]⟩,⟨#[109,105,110]⟩,⟨#[119,105,116,104]⟩,⟨#[104,97,115]⟩]
def memB (s:ByteArray)(l:List ByteArray):Bool:=l.any fun x=>decide (x=s)
theorem k1V {s:ByteArray}{l:List ByteArray}:memB s l=true↔s∈l:=by
 unfold memB;rw[List.any_eq_true]
 exact⟨fun ⟨x,h1,h2⟩=>by simp at h2;exact h2▸h1,fun h=>⟨s,h,by simp⟩⟩
theorem k1W {s:ByteArray}{l:List ByteArray}(h:s∉l):memB s l=false:=by
 cases hb:memB s l with
 | false=>rfl
 | true=>exact absurd (k1V.1 hb) h
def resB (s:ByteArray):Bool:=memB s z7y
theorem k1X (l:List ByteArray)(s:ByteArray):z1h l s=some (memB s l):=by
 unfold z1h
 have:∀ (l:List ByteArray) (i:Nat),findL (z6Y s) i l ()=some (if memB s l=true then .inr true else .inl ()):=by
  intro l
  induction l with
  | nil=>intro i;rfl
  | cons x l ih=>
   intro i
   rw[findL]
   unfold z6Y at ih ⊢
   have hc:memB s (x::l)=(decide (x=s)||memB s l):=rfl
   by_cases h:x=s
   ·rw[ifP h,hc];simp[h]
   ·rw[ifN h,bsS]
    show findL _ (i+1) l ()=_
    rw[ih,hc];simp[h]
 rw[this,bsS]
 cases memB s l<;>rfl
theorem k3V (s:ByteArray):q9R s=some (resB s):=by
 unfold q9R z1K
 rw[bsS,k1X];rfl
theorem k3W (s:ByteArray):q9T s=some (resB s):=by
 by_cases h:s∈z7y
 ·unfold z7y at h
  simp only[List.mem_cons,List.not_mem_nil,or_false] at h
  rcases h with h|h|h|h|h|h|h|h|h|h|h|h|h<;>subst h<;>rfl
 ·unfold resB
  rw[k1W h]
  unfold z7y at h
  simp only[List.mem_cons,List.not_mem_nil,or_false,not_or] at h
  obtain⟨h1,h2,h3,h4,h5,h6,h7,h8,h9,h10,h11,h12,h13⟩:=h
  unfold q9T
  rw[ifN h1,ifN h2,ifN h3,ifN h4,ifN h5,ifN h6,ifN h7,ifN h8,ifN h9,ifN h10,ifN h11,ifN h12]
  simp[h13]
def q8e (s:ByteArray):Bool:=decide (0<s.size∧s.size≤8)&&(lowB (chr s 0)&&allN (fun k=>lowB (chr s k)||digB (chr s k)) 1 (s.size-1) && !resB s)
theorem z1O (s:ByteArray):q4z s=some (q8e s):=by
 unfold q4z
 rw[z8e (c:=false) (q:=fun k=>lowB (chr s k)||digB (chr s k)) fun k hk=>by
  rw[Nat.zero_add]
  unfold z5a
  rw[j3i hk,bsS,z8d,bsS]
  cases lowB (chr s k) with
  | true=>rfl
  | false=>
   rw[ifN (by simp),j8F,bsS]
   cases digB (chr s k)<;>rfl]
 rw[bsS]
 by_cases h0:0<s.size
 ·obtain⟨n,hn⟩:∃ n,s.size=n+1:=⟨s.size-1,by omega⟩
  unfold q8e
  rw[hn,allN,Nat.add_sub_cancel]
  cases ha:allN (fun k=>lowB (chr s k)||digB (chr s k)) (0+1) n with
  | false=>
   rw[Bool.and_false,ifN (by simp)]
   rw[Nat.zero_add] at ha
   simp[onr,ha]
  | true=>
   rw[Nat.zero_add] at ha
   try rw[ha]
   simp only[Bool.and_true]
   have hc:=j3i h0
   cases hl:lowB (chr s 0) with
   | false=>
    cases hd:digB (chr s 0) with
    | false=>simp[onr]
    | true=>
     rw[ifP (by simp)]
     show (q4e _ 1 8).bind _=_
     rw[j8E,bsS]
     split
     ·rw[hc,bsS,z8d,hl];simp
     ·simp
   | true=>
    rw[ifP (by simp)]
    show (q4e _ 1 8).bind _=_
    rw[j8E,bsS]
    by_cases h8:n+1≤8
    ·rw[ifP (by simp;omega),hc,bsS,z8d,hl]
     simp[k3W,h8]
    ·rw[ifN (by simp;omega)];simp[h8]
 ·have hs:s.size=0:=by omega
  unfold q8e
  rw[hs,allN,ifP rfl,z2c,j8E,bsS]
  simp
theorem z0y (s:ByteArray):q4O s=some (q8e s):=by
 unfold q4O z5O
 rw[z8e (c:=false) (q:=fun k=>lowB (chr s k)||(decide (k≠0)&&digB (chr s k))) fun k hk=>by
  rw[Nat.zero_add]
  unfold z9S
  rw[j3i hk,bsS]
  have e1:(if 97≤((chr s k).toNat:Int) then some (decide (((chr s k).toNat:Int)≤122)) else some false)=some (lowB (chr s k)):=by
   unfold lowB;by_cases h:97≤((chr s k).toNat:Int)<;>simp[h]
  have e2:(if 48≤((chr s k).toNat:Int) then some (decide (((chr s k).toNat:Int)≤57)) else some false)=some (digB (chr s k)):=by
   unfold digB;by_cases h:48≤((chr s k).toNat:Int)<;>simp[h]
  rw[e1,e2,bsS,bsS]
  cases lowB (chr s k) with
  | true=>rfl
  | false=>
   by_cases hk0:k=0
   ·subst hk0;simp
   ·have:¬ ((k:Int)=0):=by omega
    rw[ifN (by simp),ifN this]
    cases digB (chr s k)<;>simp[hk0]]
 rw[bsS]
 by_cases h0:0<s.size
 ·obtain⟨n,hn⟩:∃ n,s.size=n+1:=⟨s.size-1,by omega⟩
  unfold q8e
  rw[hn,allN,Nat.add_sub_cancel,Nat.zero_add,j2a (n:=n) (i:=1) (q:=fun k=>lowB (chr s k)||(decide (k≠0)&&digB (chr s k))) (r:=fun k=>lowB (chr s k)||digB (chr s k)) fun k hk=>by simp[show k≠0 by omega]]
  have e0:(lowB (chr s 0)||(decide ((0:Nat)≠0)&&digB (chr s 0)))=lowB (chr s 0):=by simp
  rw[e0]
  cases hA:(lowB (chr s 0)&&allN (fun k=>lowB (chr s k)||digB (chr s k)) 1 n) with
  | false=>simp[onr]
  | true=>
   rw[ifP rfl]
   simp only[onr,bsS]
   by_cases h8:n+1≤8
   ·simp[k3V,h8];omega
   ·simp[h8];omega
 ·have hs:s.size=0:=by omega
  unfold q8e
  rw[hs]
  simp[onr,allN]
def satI (v:Int):Int:=if (-1000000:Int) > (if (1000000:Int)<v then (1000000:Int) else v) then (-1000000:Int) else (if (1000000:Int)<v then (1000000:Int) else v)
def truI (b:Bool):Int:=if b=true then 1 else 0
def j9X (v k:Int):Int:=if k=1 then satI v else if k=2 then z6S v 4095 else if k=3 then truI (!decide (v=0)) else if k=4 then (if 0≤v∧v≤999 then v else 0) else 0
theorem k3X (v:Int):z4d v=some (satI v):=rfl
theorem k3Y (a b:Int):z6X a b=some (if b<a then b else a):=by
 unfold z6X
 by_cases h:a<b
 ·rw[ifP h,ifN (by omega)]
 ·rw[ifN h]
  split
  ·rfl
  ·congr 1;omega
theorem k3Z (v:Int):z2i v=some (satI v):=by
 unfold z2i
 rw[k3Y,bsS,j6g,bsS]
 congr 1
 unfold satI
 split<;>split<;>(try split)<;>(try split)<;>omega
theorem k4a (b:Bool):z9Y b=some (truI b):=by unfold z9Y truI;cases b<;>rfl
theorem k1Y (b:Bool):z3p b=some (truI b):=by unfold z3p truI;cases b<;>rfl
theorem k1Z (v k:Int):z5d v k=some (j9X v k):=by
 unfold z5d j9X
 rw[k3X,k4a,j8E]
 by_cases h1:k=1
 ·rw[ifP h1,ifP h1];rfl
 by_cases h2:k=2
 ·rw[ifN h1,ifN h1,ifP h2,ifP h2]
 by_cases h3:k=3
 ·rw[ifN h1,ifN h1,ifN h2,ifN h2,ifP h3,ifP h3];rfl
 by_cases h4:k=4
 ·rw[ifN h1,ifN h1,ifN h2,ifN h2,ifN h3,ifN h3,ifP h4,ifP h4,bsS]
  by_cases h:0≤v∧v≤999<;>simp[h]
 ·rw[ifN h1,ifN h1,ifN h2,ifN h2,ifN h3,ifN h3,ifN h4,ifN h4]
theorem k2a (v k:Int):z4T v k=some (j9X v k):=by
 unfold z4T j9X
 rw[k3Z,k1Y,j3h]
 by_cases h1:k=1
 ·rw[ifP h1,ifP h1];rfl
 by_cases h2:k=2
 ·rw[ifN h1,ifN h1,ifP h2,ifP h2]
 by_cases h3:k=3
 ·rw[ifN h1,ifN h1,ifN h2,ifN h2,ifP h3,ifP h3];rfl
 by_cases h4:k=4
 ·rw[ifN h1,ifN h1,ifN h2,ifN h2,ifN h3,ifN h3,ifP h4,ifP h4,bsS]
  by_cases h:0≤v∧v≤999<;>simp[h]
 ·rw[ifN h1,ifN h1,ifN h2,ifN h2,ifN h3,ifN h3,ifN h4,ifN h4]
def j3j (v k:Int):Bool:=decide (1≤k∧k≤4)&&decide (j9X v k=v)
theorem k2b (v k:Int):z2k v k=some (j3j v k):=by
 unfold z2k z3u j3j
 rw[j8E,bsS,bsS,k1Z,bsS]
 by_cases h:1≤k∧k≤4<;>simp[h]
theorem k2c (v k:Int):z2j v k=some (j3j v k):=by
 unfold z2j j3j
 rw[j3h,bsS,k2a,bsS]
 by_cases h:1≤k∧k≤4<;>simp[h]
def opT (n:Int):Int×Int×Int:=
 if 1≤n∧n≤5 then (1,1,1) else if 6≤n∧n≤8 then (2,2,2) else if n=9∨n=10 then (1,1,3) else if n=11 then (2,1,3) else if n=12 then (2,1,2) else (0,0,0)
theorem k5k {n a b c d e:Int}:(if n=a then some (decide (n=a)) else if n=b then some (decide (n=b)) else if n=c then some (decide (n=c)) else if n=d then some (decide (n=d)) else some (decide (n=e)))=some (decide (n=a∨n=b∨n=c∨n=d∨n=e)):=by
 by_cases h1:n=a
 ·simp[h1]
 by_cases h2:n=b
 ·simp[h1,h2]
 by_cases h3:n=c
 ·rw[ifN h1,ifN h2,ifP h3];simp[h3]
 by_cases h4:n=d
 ·rw[ifN h1,ifN h2,ifN h3,ifP h4];simp[h4]
 ·simp[h1,h2,h3,h4]
theorem k5l {n a b c:Int}:(if n=a then some (decide (n=a)) else if n=b then some (decide (n=b)) else some (decide (n=c)))=some (decide (n=a∨n=b∨n=c)):=by
 by_cases h1:n=a
 ·simp[h1]
 by_cases h2:n=b
 ·simp[h1,h2]
 ·simp[h1,h2]
theorem k4b (n:Int):q8H n=some (opT n):=by
 unfold q8H opT
 rw[k5k,k5l]
 simp only[bsS]
 by_cases h1:1≤n∧n≤5
 ·rw[ifP (by simp;omega),ifP h1]
 rw[ifN (by simp;omega),ifN h1]
 by_cases h2:6≤n∧n≤8
 ·rw[ifP (by simp;omega),ifP h2]
 rw[ifN (by simp;omega),ifN h2]
 by_cases h3:n=9
 ·simp[h3]
 by_cases h3' : n=10
 ·simp[h3']
 by_cases h4:n=11
 ·simp[h4]
 by_cases h5:n=12
 ·simp[h5]
 simp[h3,h3',h4,h5]
theorem k4c (n:Int):q4S n=some (opT n):=by
 unfold q4S opT
 rw[j3h,j3h]
 simp only[bsS]
 by_cases h1:1≤n∧n≤5
 ·rw[ifP (by simpa using h1),ifP h1]
 rw[ifN (by simpa using h1),ifN h1]
 by_cases h2:6≤n∧n≤8
 ·rw[ifP (by simpa using h2),ifP h2]
 rw[ifN (by simpa using h2),ifN h2]
 by_cases h3:n=9
 ·rw[ifP h3,ifP (.inl h3)]
 rw[ifN h3]
 by_cases h3' : n=10
 ·rw[ifP h3',ifP (.inr h3')]
 have h33:¬(n=9∨n=10):=by omega
 rw[ifN h3',ifN h33]
 by_cases h4:n=11
 ·rw[ifP h4,ifP h4]
 rw[ifN h4,ifN h4]
 by_cases h5:n=12
 ·rw[ifP h5,ifP h5]
 rw[ifN h5,ifN h5]
theorem k4d (a b:Expr):q6q a b=some (decide (a.Kind=b.Kind)&&(decide (a.N=b.N)&&(decide (a.Pos=b.Pos)&&(decide (a.Type_=b.Type_)&&(decide (a.Symbol=b.Symbol)&&decide (a.Name=b.Name)))))):=by
 unfold q6q
 by_cases h1:a.Kind=b.Kind
 ·rw[ifP h1,bsS]
  by_cases h2:a.N=b.N
  ·by_cases h3:a.Pos=b.Pos
   ·by_cases h4:a.Type_=b.Type_
    ·by_cases h5:a.Symbol=b.Symbol
     ·simp[h1,h2,h3,h4,h5]
     ·simp[h1,h2,h3,h4,h5]
    ·simp[h1,h2,h3,h4]
   ·simp[h1,h2,h3]
  ·simp[h1,h2]
 ·simp[h1]
def j9Y (k:Int):Int:=if k=4 then 2 else if k=5 then 3 else if k=8 then 1 else 0
def j9Z (e:Expr):Bool:=decide ((e.Args.length:Int)=j9Y e.Kind)&&((decide (e.Kind=3∨e.Kind=6)||decide (e.Pos=0))&&((decide (e.Kind=3∨e.Kind=8)||decide (e.Name=⟨#[]⟩))&&((decide (e.Kind=1∨e.Kind=4)||decide (e.N=0))&&((decide (e.Kind=1)||decide (e.Type_=0))&&(decide (e.Kind=8)||decide (e.Symbol=⟨#[]⟩))))))
theorem k4e (e:Expr):z4S e=some (j9Z e):=by
 unfold z4S
 have h0:(if e.Kind=4 then some 2 else if e.Kind=5 then some 3 else if e.Kind=8 then some 1 else some (0:Int))=some (j9Y e.Kind):=by
  unfold j9Y
  split
  ·rfl
  ·split
   ·rfl
   ·split<;>rfl
 have or2:∀ a b:Prop,[Decidable a]→[Decidable b]→(if a then some true else some (decide b))=some (decide (a∨b)):=fun a b _ _=>by
  by_cases h:a<;>simp[h]
 have or1:∀ (a:Prop) (b:Bool),[Decidable a]→(if a then some true else some b)=some (decide a||b):=fun a b _=>by
  by_cases h:a<;>simp[h]
 have orB:∀ a b:Bool,(if a=true then some true else some b)=some (a||b):=fun a b=>by cases a<;>rfl
 have andB:∀ a b:Bool,(if a=true then some b else some false)=some (a&&b):=fun a b=>by cases a<;>rfl
 rw[h0,bsS]
 unfold j9Z
 by_cases hl:(e.Args.length:Int)=j9Y e.Kind
 ·rw[ifP hl]
  simp only[or2,or1,orB,andB,bsS]
  simp[hl,Bool.and_assoc]
 ·rw[ifN hl];simp[hl]
def k4f (e:Expr):Bool:=
 if e.Kind=1 then (decide (1≤e.Type_∧e.Type_≤3)&&j3j e.N e.Type_)&&decide (0≤e.N)
 else if e.Kind=3 then decide (0≤e.Pos∧e.Pos≤3)&&q8e e.Name
 else if e.Kind=6 then decide (0≤e.Pos∧e.Pos≤3)
 else if e.Kind=4 then decide (1≤e.N∧e.N≤12)
 else if e.Kind=8 then q8e e.Symbol&&q8e e.Name
 else true
def z5y (e:Expr):Bool:=(decide (1≤e.Kind∧e.Kind≤8)&&j9Z e)&&k4f e
theorem k2d (e:Expr):z4U e=some (z5y e):=by
 unfold z4U z5y
 rw[j3h,bsS,k4e,bsS]
 by_cases hk:1≤e.Kind∧e.Kind≤8
 ·rw[ifP (by simpa using hk),bsS]
  cases j9Z e with
  | false=>simp
  | true=>
   rw[ifN (by simp)]
   unfold k4f
   by_cases k1:e.Kind=1
   ·rw[ifP k1,ifP k1,j3h,bsS,k2c,bsS]
    by_cases h:1≤e.Type_∧e.Type_≤3
    ·cases j3j e.N e.Type_<;>simp[h,hk]
    ·simp[h,hk]
   rw[ifN k1,ifN k1]
   by_cases k3:e.Kind=3
   ·rw[ifP k3,ifP k3,j3h,bsS,z0y]
    by_cases h:0≤e.Pos∧e.Pos≤3
    ·simp[h,hk]
    ·simp[h,hk]
   rw[ifN k3,ifN k3]
   by_cases k6:e.Kind=6
   ·rw[ifP k6,ifP k6,j3h];simp[hk]
   rw[ifN k6,ifN k6]
   by_cases k4:e.Kind=4
   ·rw[ifP k4,ifP k4,j3h];simp[hk]
   rw[ifN k4,ifN k4]
   by_cases k8:e.Kind=8
   ·rw[ifP k8,ifP k8,z0y,bsS,z0y]
    cases q8e e.Symbol<;>simp[hk]
   rw[ifN k8,ifN k8];simp[hk]
 ·rw[ifN (by simpa using hk)];simp[hk]
theorem k2e (e:Expr):q9V e=some (z5y e):=by
 unfold q9V z5y j9Z k4f j9Y
 simp only[k4d,j8E,k2b,z1O,bsS]
 have hp3:e.Pos=0→(0≤e.Pos∧e.Pos≤3):=fun h=>by omega
 by_cases k1:e.Kind=1
 ·simp[k1]
  have ht:j3j e.N e.Type_=true→1≤e.Type_∧e.Type_≤4:=fun h=>by
   unfold j3j at h;simp at h;exact h.1
  cases hb:j3j e.N e.Type_ with
  | false=>by_cases h4:e.Type_=4<;>simp[h4]
  | true=>
   obtain⟨t1,t2⟩:=ht hb
   by_cases h4:e.Type_=4
   ·simp[h4]
   ·by_cases hn:e.N<0
    ·have:¬ 0≤e.N:=by omega
     simp[h4,hn,this]
    ·have h0:0≤e.N:=by omega
     have h3:e.Type_≤3:=by omega
     by_cases a:e.Args=[]
     ·by_cases p:e.Pos=0
      ·simp[h4,hn,h0,h3,t1,a,p,Bool.and_comm]
      ·simp[h4,hn,h0,h3,t1,a,p]
     ·simp[h4,hn,h0,h3,t1,a]
 by_cases k3:e.Kind=3
 ·simp[k1,k3]
  cases q8e e.Name with
  | false=>simp
  | true=>
   by_cases a:e.Args=[]
   ·by_cases p:0≤e.Pos∧e.Pos≤3
    ·simp[a,p]
    ·have:(decide (0≤e.Pos)&&decide (e.Pos≤3))=false:=by simp;omega
     simp[a,this]
   ·simp[a]
 by_cases k4:e.Kind=4
 ·simp[k1,k3,k4]
  by_cases n:1≤e.N∧e.N≤12
  ·by_cases a:(e.Args.length:Int)=2
   ·by_cases p:e.Pos=0
    ·simp[n,a,p];cases decide (e.Type_=0)<;>cases decide (e.Symbol=⟨#[]⟩)<;>cases decide (e.Name=⟨#[]⟩)<;>rfl
    ·simp[n,a,p]
   ·simp[n,a]
  ·have:(decide (1≤e.N)&&decide (e.N≤12))=false:=by simp;omega
   rw[ifN n,this];simp
 have close3:∀ c:Bool,((if c=true then some (decide (0≤e.Pos)&&decide (e.Pos≤3)) else some false).bind fun s9=>
   if s9=true then some (decide (e.N=0)&&(decide (e.Pos=0)&&(decide (e.Type_=0)&&(decide (e.Symbol=⟨#[]⟩)&&decide (e.Name=⟨#[]⟩))))) else some false) =
  some (c&&(decide (e.Pos=0)&&(decide (e.Name=⟨#[]⟩)&&(decide (e.N=0)&&(decide (e.Type_=0)&&decide (e.Symbol=⟨#[]⟩)))))):=fun c=>by
  cases c with
  | false=>simp
  | true=>
   by_cases p:e.Pos=0
   ·simp[p];cases decide (e.N=0)<;>cases decide (e.Type_=0)<;>cases decide (e.Symbol=⟨#[]⟩)<;>cases decide (e.Name=⟨#[]⟩)<;>rfl
   ·simp[p]
 by_cases k5:e.Kind=5
 ·simp[k1,k3,k4,k5]
  simpa using close3 (decide ((e.Args.length:Int)=3))
 by_cases k6:e.Kind=6
 ·simp[k1,k3,k4,k5,k6]
  by_cases a:e.Args=[]
  ·by_cases p:0≤e.Pos∧e.Pos≤3
   ·simp[a,p];cases decide (e.N=0)<;>cases decide (e.Type_=0)<;>cases decide (e.Symbol=⟨#[]⟩)<;>cases decide (e.Name=⟨#[]⟩)<;>rfl
   ·have:(decide (0≤e.Pos)&&decide (e.Pos≤3))=false:=by simp;omega
    simp[a,this]
  ·simp[a]
 by_cases k8:e.Kind=8
 ·simp[k1,k3,k4,k5,k6,k8]
  cases q8e e.Symbol with
  | false=>simp
  | true=>
   cases q8e e.Name with
   | false=>simp
   | true=>
    by_cases a:(e.Args.length:Int)=1
    ·by_cases p:e.Pos=0
     ·simp[a,p]
     ·simp[a,p]
    ·simp[a]
 by_cases k2:e.Kind=2
 ·simp[k1,k3,k4,k5,k6,k8,k2]
  simpa using close3 (decide (e.Args=[]))
 by_cases k7:e.Kind=7
 ·simp[k1,k3,k4,k5,k6,k8,k2,k7]
  simpa using close3 (decide (e.Args=[]))
 ·simp[k1,k3,k4,k5,k6,k8,k2,k7]
  intro h1 h2;omega
theorem k2f (e:Expr):∀ m,fuE e≤m→z7a m e=some (allE z5y e):=by
 induction e using z1s with
 | h e ih=>
  intro m hm
  obtain⟨m,rfl⟩:∃ q,m=q+1:=⟨m-1,by have:=z5x e;omega⟩
  show z6Z (z7a m) e=_
  unfold z6Z
  rw[q5e (c:=false) (q:=allE z5y) fun k x hx=>by
   unfold j4q
   rw[ih x hx m (by have:=z4E hx;omega),bsS]
   cases allE z5y x<;>rfl]
  rw[j3f,bsS]
  cases e.Args.all (allE z5y) with
  | true=>rw[ifP rfl,z2c,k2d,Bool.and_true];rfl
  | false=>rw[ifN (by simp),j2y,Bool.and_false]
theorem k4g (e:Expr):j2N e=some (allE z5y e):=q9N (fuE e) fun m hm=>k2f e m hm
theorem j0C {α:Type}(q:α→Bool)(l:List α):(!l.any fun x=>!q x)=l.all q:=by
 induction l with
 | nil=>rfl
 | cons x l ih=>simp[← ih]
theorem k2g (e:Expr):∀ m,fuE e≤m→q5L m e=some (allE z5y e):=by
 induction e using z1s with
 | h e ih=>
  intro m hm
  obtain⟨m,rfl⟩:∃ q,m=q+1:=⟨m-1,by have:=z5x e;omega⟩
  show q5K (q5L m) e=_
  unfold q5K q3W q4b
  rw[k2e,bsS,j3f]
  cases z5y e with
  | false=>rfl
  | true=>
   rw[ifP rfl,j0A (q:=fun x=>!allE z5y x) fun k x hx=>by
    unfold q5u q5W
    rw[ih x hx m (by have:=z4E hx;omega),bsS,bsS]
    cases allE z5y x<;>rfl]
   rw[Bool.true_and,← j0C]
   cases e.Args.any fun x=>!allE z5y x with
   | true=>
    have:(0:Int)≤((0+e.Args.findIdx fun x=>!allE z5y x:Nat):Int):=Int.natCast_nonneg _
    rw[ifP rfl,bsS,j2y,bsS,bsS,decide_eq_true this]
   | false=>rfl
theorem k4h (e:Expr):q7F e=some (allE z5y e):=q9N (fuE e) fun m hm=>k2g e m hm
def j0D (e:Expr):Bool:=decide (cntE e≤24)&&(decide (depE e≤6)&&allE z5y e)
theorem k0a {e:Expr}(h:cntE e≤1099511627776):q9l e=some (j0D e):=by
 unfold q9l j0D
 rw[j9T h,bsS,j9U h,k4h]
 by_cases h1:cntE e≤24
 ·rw[ifP (by omega),bsS,bsS]
  by_cases h2:depE e≤6
  ·rw[ifP (by simp;omega),bsS];simp[h1,h2]
  ·rw[ifN (by simp;omega)];simp[h1,h2]
 ·rw[ifN (by omega)];simp[h1]
theorem z7z {e:Expr}(h:cntE e≤1099511627776):q7w e=some (j0D e):=by
 unfold q7w j0D
 rw[k1U (by omega) (by omega) h,bsS,j9V h,k4g]
 unfold z9d
 by_cases h1:cntE e≤24
 ·have h24:((cntE e:Nat):Int)≤24:=by omega
  rw[ifP h24,ifP (by omega:(0:Int)≤24-((cntE e:Nat):Int)),bsS,bsS]
  by_cases h2:depE e≤6
  ·rw[ifP (by simp;omega),bsS];simp[h1,h2]
  ·rw[ifN (by simp;omega)];simp[h1,h2]
 ·have h24:¬ ((cntE e:Nat):Int)≤24:=by omega
  rw[ifN h24,ifN (by omega:¬ (0:Int)≤-1)];simp[h1]
theorem z9n {x m:Int}(h0:0≤m)(h1:m<9223372036854775808):0≤z6S x m∧z6S x m≤m:=by
 unfold z6S
 have h2:(BitVec.ofInt 64 m).toNat=m.toNat:=by
  rw[BitVec.toNat_ofInt]
  have:m % ((2 ^ 64:Nat):Int)=m:=Int.emod_eq_of_lt h0 (by omega)
  rw[this]
 have h3:(BitVec.ofInt 64 x &&& BitVec.ofInt 64 m).toNat≤m.toNat:=by
  rw[BitVec.toNat_and,h2];exact Nat.and_le_right
 rw[IntWalk.i64_in _ (by omega)]
 omega
def j3k (o:l1Cur):Prop:=0≤o.i∧o.b.length≤1048576
theorem k2h {a:List UInt8}(h:a.length≤1048576):∃ o,z5N a=some o∧j3k o∧o.b=a:=by
 have key:∀ (m j:Nat) (s:Int),j+m=a.length→∃ q,q5s (z3n a) (s,(j:Int))=some q:=by
  intro m
  induction m with
  | zero=>
   intro j s hj
   exact⟨s,q3U (by unfold z3n;dsimp only;rw[ifN (by omega)])⟩
  | succ m ih=>
   intro j s hj
   by_cases hlt:(j:Int)<4000
   ·obtain⟨x,hx⟩:∃ x,a[j]?=some x:=⟨_,List.getElem?_eq_getElem (by omega)⟩
    obtain⟨q,hq⟩:=ih (j+1) (z6S (IntKind.i64.wrap ((IntKind.i64.wrap ((IntKind.i64.wrap (s*131))+(x.toNat:Int)))+7)) 1073741823) (by omega)
    refine⟨q,(q4G ?_).trans hq⟩
    have hw:IntKind.i64.wrap ((j:Int)+1)=((j+1:Nat):Int):=by rw[IntWalk.i64_in _ (by omega)];rfl
    unfold z3n
    dsimp only
    rw[ifP (by omega),ifP hlt,q3P (by omega),tnC,hx,bsS,hw]
   ·exact⟨s,q3U (by unfold z3n;dsimp only;rw[ifP (by omega),ifN hlt])⟩
 obtain⟨q,hq⟩:=key a.length 0 (IntKind.i64.wrap (26583+(a.length:Int))) (by omega)
 have hq' : q5s (z3n a) ((IntKind.i64.wrap (26583+(a.length:Int))),0)=some q:=hq
 refine⟨⟨a,0,q⟩,?_,⟨Int.le_refl _,h⟩,rfl⟩
 unfold z5N
 rw[hq',bsS]
theorem z5z {o:l1Cur}(h:j3k o):∃ y z,q9Q o=some (y,z)∧0≤y∧y≤255∧j3k z∧z.b=o.b:=by
 obtain⟨h0,h1⟩:=h
 unfold q9Q
 by_cases hi:o.i<(o.b.length:Int)
 ·obtain⟨x,hx⟩:∃ x,o.b[o.i.toNat]?=some x:=⟨_,List.getElem?_eq_getElem (by omega)⟩
  rw[ifP hi,q3P h0,hx,bsS]
  refine⟨_,_,rfl,(z9n (by omega) (by omega)).1,(z9n (by omega) (by omega)).2,⟨?_,h1⟩,rfl⟩
  show 0≤IntKind.i64.wrap (o.i+1)
  rw[IntWalk.i64_in _ (by omega)];omega
 ·rw[ifN hi]
  exact⟨_,_,rfl,(z9n (by omega) (by omega)).1,(z9n (by omega) (by omega)).2,⟨h0,h1⟩,rfl⟩
theorem k0b {y n:Int}(hy:0≤y)(hn:0<n):0≤y.tmod n∧y.tmod n<n:=by
 rw[Int.tmod_eq_emod_of_nonneg hy]
 exact⟨Int.emod_nonneg _ (by omega),Int.emod_lt_of_pos _ hn⟩
theorem j2b {o:l1Cur}(h:j3k o)(n:Int):∃ y z,q3Q n o=some (y,z)∧0≤y∧(0<n→y<n)∧(n≤0→y=0)∧j3k z∧z.b=o.b:=by
 unfold q3Q
 by_cases hn:n≤0
 ·rw[ifP hn];exact⟨0,o,rfl,Int.le_refl _,fun h=>absurd h (by omega),fun _=>rfl,h,rfl⟩
 ·rw[ifN hn]
  by_cases h2:n≤256
  ·obtain⟨y,z,h3,h4,h5,h6,h7⟩:=z5z h
   rw[ifP h2,h3,bsS]
   dsimp only
   rw[q3P (by omega)]
   have:=k0b h4 (show 0<n by omega)
   exact⟨_,_,rfl,this.1,fun _=>this.2,fun h=>absurd h hn,⟨h6.1,h.2⟩,rfl⟩
  ·obtain⟨y1,z1,a1,a2,a3,a4,a5⟩:=z5z h
   obtain⟨y2,z2,b1,b2,b3,b4,b5⟩:=z5z (o:=⟨o.b,z1.i,z1.h⟩) ⟨a4.1,h.2⟩
   obtain⟨y3,z3,c1,c2,c3,c4,c5⟩:=z5z (o:=⟨o.b,z2.i,z2.h⟩) ⟨b4.1,h.2⟩
   obtain⟨y4,z4,d1,d2,d3,d4,d5⟩:=z5z (o:=⟨o.b,z3.i,z3.h⟩) ⟨c4.1,h.2⟩
   rw[ifN h2,a1,bsS]
   dsimp only
   rw[b1,bsS]
   dsimp only
   rw[c1,bsS]
   dsimp only
   rw[d1,bsS]
   dsimp only
   rw[q3P (by constructor<;>omega),q3P (by constructor<;>omega),q3P (by constructor<;>omega),q3P (by constructor<;>omega),q3P (by constructor<;>omega),q3P (by constructor<;>omega),q3P (by omega)]
   have:=k0b (y:=y1*16777216+y2*65536+y3*256+y4) (by omega) (show 0<n by omega)
   exact⟨_,_,rfl,this.1,fun _=>this.2,fun h=>absurd h hn,⟨d4.1,h.2⟩,rfl⟩
theorem j4L {o:l1Cur}(h:j3k o){l:List Int}(hl:l≠[]):∃ y z,q5f l o=some (y,z)∧y∈l∧j3k z∧z.b=o.b:=by
 have hpos:=List.length_pos_iff.2 hl
 obtain⟨y,z,h1,h2,h3,_,h5,h6⟩:=j2b h (l.length:Int)
 have:=h3 (by omega)
 obtain⟨x,hx⟩:∃ x,l[y.toNat]?=some x:=⟨_,List.getElem?_eq_getElem (by omega)⟩
 unfold q5f
 rw[h1,bsS]
 dsimp only
 rw[q3P h2,hx,bsS]
 exact⟨_,_,rfl,List.mem_of_getElem? hx,⟨h5.1,h.2⟩,rfl⟩
theorem k0c {ρ:Type}{g:Nat→Option ρ}(hm:∀ n r,g n=some r→g (n+1)=some r){n:Nat}{r:ρ}(h:g n=some r):recO g=some r:=by
 have up:∀ (k n:Nat) (r:ρ),g n=some r→g (n+k)=some r:=by
  intro k
  induction k with
  | zero=>intro n r h;exact h
  | succ k ih=>intro n r h;exact hm _ _ (ih n r h)
 refine q9N n fun m hm=>?_
 have h1:=up (m-n) n r h
 rwa[show n+(m-n)=m by omega] at h1
theorem z8f {α σ:Type}{f g:Nat→α→σ→Option σ}(h:∀ k x s q,f k x s=some q→g k x s=some q):∀ (xs:List α) (i:Nat) (s q:σ),eachL f i xs s=some q→eachL g i xs s=some q
 | [],i,s,q,hq=>hq
 | x::xs,i,s,q,hq=>by
  simp only[eachL] at hq ⊢
  obtain⟨t,h1,h2⟩:=bd hq
  rw[h _ _ _ _ h1]
  exact z8f h xs _ _ _ h2
theorem j4M (a b:Oc):z2o a b=some (z2e a b):=by
 unfold z2o z2e
 by_cases h1:a.Pos<b.Pos
 ·simp[h1]
 ·by_cases h2:a.Pos=b.Pos
  ·simp[h2]
  ·simp[h1,h2]
abbrev z5A (l:List Oc):Prop:=l.Pairwise fun a b=>z2e a b=true
theorem k2i {l:List Oc}{o:Oc}(hl:l.length≤4398046511104):∀ (m j:Nat),j+m=l.length→(∀ a∈l.take j,z2e a o=true) →
  ∃ k:Nat,q5s (z2p l o) (j:Int)=some ((k:Nat):Int)∧k≤l.length∧(∀ a∈l.take k,z2e a o=true)∧∀ y,l[k]?=some y→z2e y o=false:=by
 intro m
 induction m with
 | zero=>
  intro j hj ha
  refine⟨j,q3U ?_,by omega,ha,fun y hy=>?_⟩
  ·unfold z2p;rw[ifN (by omega)]
  ·rw[List.getElem?_eq_none (by omega)] at hy;cases hy
 | succ m ih=>
  intro j hj ha
  obtain⟨x,hx⟩:∃ x,l[j]?=some x:=⟨_,List.getElem?_eq_getElem (by omega)⟩
  cases hb:z2e x o with
  | false=>
   refine⟨j,q3U ?_,by omega,ha,fun y hy=>?_⟩
   ·unfold z2p
    rw[ifP (by omega),q3P (by omega)]
    simp only[tnC]
    rw[hx,bsS,j4M,bsS,ifN (by rw[hb];simp)]
   ·rw[hx] at hy;cases hy;exact hb
  | true=>
   have e:z2p l o (j:Int)=some (.inl ((j+1:Nat):Int)):=by
    unfold z2p
    rw[ifP (by omega),q3P (by omega)]
    simp only[tnC]
    rw[hx,bsS,j4M,bsS,ifP hb,q3P (by constructor<;>omega)];rfl
   rw[q4G e]
   refine ih (j+1) (by omega) fun a h=>?_
   rw[List.take_add_one,hx] at h
   rcases List.mem_append.1 h with h|h
   ·exact ha a h
   ·simp at h;rw[h];exact hb
theorem k0d {l:List Oc}{o:Oc}(hl:l.length<4398046511104)(hs:z5A l):∃ q,z7k l o=some q∧z5A q∧(∀ a,a∈q↔a=o∨a∈l)∧q.length≤l.length+1:=by
 obtain⟨k,h1,h2,h3,h4⟩:=k2i (l:=l) (o:=o) (by omega) l.length 0 (by omega) (by simp)
 have h1' : q5s (z2p l o) 0=some ((k:Nat):Int):=h1
 have hput:∀ (hne:∀ y,l[k]?=some y→y≠o),z5A (l.take k++[o]++l.drop k)∧(∀ a,a∈l.take k++[o]++l.drop k↔a=o∨a∈l)∧(l.take k++[o]++l.drop k).length≤l.length+1:=fun hne=>by
  refine⟨?_,fun a=>?_,by simp;omega⟩
  ·have:=j8A (lt:=z2e) lessO_swo.trans z6n (k:=k) hs h3 fun y hy=>⟨h4 y hy,hne y hy⟩
   simpa using this
  ·have:a∈l↔a∈l.take k∨a∈l.drop k:=by rw[← List.mem_append,List.take_append_drop]
   rw[this]
   simp only[List.mem_append,List.mem_singleton]
   constructor
   ·rintro ((h|h)|h)<;>simp[h]
   ·rintro (h|h|h)<;>simp[h]
 unfold z7k
 rw[h1',bsS]
 by_cases hk:k<l.length
 ·obtain⟨x,hx⟩:∃ x,l[k]?=some x:=⟨_,List.getElem?_eq_getElem hk⟩
  rw[ifP (by omega),q3P (by omega)]
  simp only[tnC]
  rw[hx,bsS]
  by_cases hxo:x=o
  ·rw[ifP hxo]
   refine⟨l,rfl,hs,fun a=>?_,by omega⟩
   have:=List.mem_of_getElem? hx
   constructor
   ·exact .inr
   ·rintro (h|h)
    ·rw[h,← hxo];exact this
    ·exact h
  ·rw[ifN hxo,q3P (by omega),q3P (by omega),q3P (by simp;omega),q3P (by simp;omega),q3P (by omega),q3P (by omega),q3P (by simp;omega)]
   exact⟨_,rfl,hput fun y hy=>by rw[hx] at hy;cases hy;exact hxo⟩
 ·rw[ifN (by omega)]
  simp only[tnC]
  rw[q3P (by omega),q3P (by omega),q3P (by simp;omega),q3P (by simp;omega),q3P (by omega),q3P (by omega),q3P (by simp;omega)]
  exact⟨_,rfl,hput fun y hy=>by rw[List.getElem?_eq_none (by omega)] at hy;cases hy⟩
theorem k4i:∀ (n:Nat) (e:Expr) (l q:List Oc),q7s n e l=some q→q7s (n+1) e l=some q:=by
 intro n
 induction n with
 | zero=>intro e l q h;cases h
 | succ n ih=>
  intro e l q h
  have h' : z1w (q7s n) e l=some q:=h
  show z1w (q7s (n+1)) e l=some q
  have m1:∀ (xs:List Expr) (i:Nat) (s q:List Oc),eachL (z1W (q7s n)) i xs s=some q→eachL (z1W (q7s (n+1))) i xs s=some q:=z8f fun k x s q hq=>by
   unfold z1W at hq ⊢
   obtain⟨y,h3,h4⟩:=bd hq
   rw[ih _ _ _ h3];exact h4
  unfold z1w at h' ⊢
  by_cases hk:e.Kind=3
  ·rw[ifP hk] at h' ⊢
   obtain⟨y,h1,h2⟩:=bd h'
   obtain⟨s,h3,h4⟩:=bd h2
   rw[h1,bsS,m1 _ _ _ _ h3];exact h4
  ·rw[ifN hk] at h' ⊢
   obtain⟨s,h3,h4⟩:=bd h'
   have m2:eachL (z7S (q7s (n+1))) 0 e.Args l=some s:=m1 _ _ _ _ h3
   rw[m2];exact h4
theorem j8G:∀ (m:Nat) (e:Expr) (l:List Oc),fuE e≤m→z5A l→l.length+(z4o e).length≤1099511627776 →
  ∃ q,q7s m e l=some q∧z5A q∧(∀ a,a∈q↔a∈l∨a∈z4o e)∧q.length≤l.length+(z4o e).length:=by
 intro m
 induction m with
 | zero=>intro e l h;rw[z8H] at h;omega
 | succ m ih=>
  intro e l h hs hb
  rw[z8H] at h
  rw[z4p,List.length_append] at hb
  have hl:∀ (xs:List Expr) (i:Nat) (s:List Oc),fuEs xs≤m→z5A s→s.length+(z0x xs).length≤1099511627776 →
    ∃ q,eachL (z1W (q7s m)) i xs s=some q∧z5A q∧(∀ a,a∈q↔a∈s∨a∈z0x xs)∧q.length≤s.length+(z0x xs).length:=by
   intro xs
   induction xs with
   | nil=>intro i s _ hs _;exact⟨s,rfl,hs,by simp[z0x],by omega⟩
   | cons x xs ihl=>
    intro i s hf hs hb
    simp only[fuEs] at hf
    simp only[z0x,List.length_append] at hb
    obtain⟨q,h1,h2,h3,h4⟩:=ih x s (by omega) hs (by omega)
    obtain⟨q2,k1,k2,k3,k4⟩:=ihl (i+1) q (by omega) h2 (by omega)
    refine⟨q2,?_,k2,fun a=>?_,by simp only[z0x,List.length_append];omega⟩
    ·simp only[eachL,z1W,h1,bsS];exact k1
    ·rw[k3,h3,z0x,List.mem_append,or_assoc]
  show ∃ q,z1w (q7s m) e l=some q∧_
  unfold z1w
  by_cases hk:e.Kind=3
  ·rw[ifP hk] at hb ⊢
   simp only[lnC,List.length_nil] at hb
   obtain⟨y,h1,h2,h3,h4⟩:=k0d (l:=l) (o:=⟨e.Pos,e.Name⟩) (by omega) hs
   obtain⟨q,k1,k2,k3,k4⟩:=hl e.Args 0 y (by omega) h2 (by omega)
   refine⟨q,?_,k2,fun a=>?_,?_⟩
   ·rw[h1,bsS,k1];rfl
   ·rw[k3,h3,z4p,ifP hk,List.mem_append,List.mem_singleton]
    constructor
    ·rintro ((h|h)|h)<;>simp[h]
    ·rintro (h|h|h)<;>simp[h]
   ·rw[z4p,ifP hk];simp;omega
  ·rw[ifN hk] at hb ⊢
   simp only[List.length_nil] at hb
   obtain⟨q,k1,k2,k3,k4⟩:=hl e.Args 0 l (by omega) hs (by omega)
   have k1' : eachL (z7S (q7s m)) 0 e.Args l=some q:=k1
   refine⟨q,?_,k2,fun a=>?_,?_⟩
   ·rw[k1'];rfl
   ·rw[k3,z4p,ifN hk];simp
   ·rw[z4p,ifN hk];simpa using k4
theorem j4N (e:Expr):z5A (attrs e):=by
 refine z5w lessO_swo.trans z6n ?_
 have h:=List.pairwise_mergeSort (le:=fun x y=>!z2e y x) (fun a b c h1 h2=>by
  simp only[Bool.not_eq_true'] at h1 h2 ⊢
  exact lessO_swo.ntrans _ _ _ h2 h1) (fun a b=>by
  cases h:z2e a b with
  | false=>simp[h]
  | true=>
   cases h2:z2e b a with
   | false=>simp
   | true=>have:=lessO_swo.trans _ _ _ h h2;rw[lessO_swo.irrefl] at this;cases this) (z4o e)
 unfold j4n
 exact h.imp fun {a b} h=>by simpa using h
theorem j7l {e:Expr}(h:Sz.szd e≤1048576):q6u e=some (attrs e):=by
 have hl:=j9O h
 obtain⟨q,h1,h2,h3,h4⟩:=j8G _ e [] (Nat.le_refl _) List.Pairwise.nil (by simp;omega)
 have hq:q=attrs e:=j1X (lt:=z2e) lessO_swo.irrefl lessO_swo.trans h2 (j4N e) fun a=>by rw[h3,j9P];simp
 subst hq
 have hr:j0a e []=some (attrs e):=k0c (fun n q=>k4i n e [] q) h1
 unfold q6u
 rw[hr];rfl
def Ok {ρ:Type}(Q:ρ→Prop)(o:Option ρ):Prop:=∃ r,o=some r∧Q r
section
variable {ρ τ σ α:Type}{Q:ρ→Prop}{R:τ→Prop}
theorem Ok.ret {r:ρ}(h:Q r):Ok Q (some r):=⟨r,rfl,h⟩
theorem Ok.bind {o:Option ρ}{f:ρ→Option τ}(h:Ok Q o)(hf:∀ r,Q r→Ok R (f r)):Ok R (o.bind f):=by
 obtain⟨r,rfl,hr⟩:=h;exact hf r hr
theorem Ok.grd {c:Prop}[Decidable c]{k:Option τ}(hc:c)(h:Ok R k):Ok R (Go.E.grd c k):=by rw[q3P hc];exact h
theorem Ok.ite {c:Prop}[Decidable c]{a b:Option τ}(h1:c→Ok R a)(h2:¬ c→Ok R b):Ok R (if c then a else b):=by
 by_cases hc:c
 ·rw[ifP hc];exact h1 hc
 ·rw[ifN hc];exact h2 hc
theorem Ok.mono {Q' : ρ→Prop}{o:Option ρ}(h:Ok Q o)(hq:∀ r,Q r→Q' r):Ok Q' o:=by
 obtain⟨r,rfl,hr⟩:=h;exact⟨r,rfl,hq r hr⟩
theorem j3l {P:Nat→σ→Prop}{f:Nat→σ→Option σ}:∀ {n i:Nat} {s:σ},P i s→(∀ k s,i≤k→k<i+n→P k s→Ok (P (k+1)) (f k s))→Ok (P (i+n)) (eachN f i n s)
 | 0,i,s,h,_=>⟨s,rfl,h⟩
 | n+1,i,s,h,hf=>by
  rw[eachN]
  refine (hf i s (Nat.le_refl _) (by omega) h).bind fun r hr=>?_
  have:=j3l (n:=n) hr fun k s h1 h2=>hf k s (by omega) (by omega)
  rwa[show i+1+n=i+(n+1) by omega] at this
theorem j3m {P:Nat→σ→Prop}{f:Nat→α→σ→Option σ}:∀ {xs:List α} {i:Nat} {s:σ},P i s→(∀ k x s,x∈xs→i≤k→k<i+xs.length→P k s→Ok (P (k+1)) (f k x s))→Ok (P (i+xs.length)) (eachL f i xs s)
 | [],i,s,h,_=>⟨s,rfl,h⟩
 | x::xs,i,s,h,hf=>by
  rw[eachL]
  refine (hf i x s (by simp) (Nat.le_refl _) (by simp) h).bind fun r hr=>?_
  have:=j3m (xs:=xs) hr fun k y s hy h1 h2=>hf k y s (by simp[hy]) (by omega) (by simp;omega)
  rwa[show i+1+xs.length=i+(x::xs).length by simp;omega] at this
theorem k0e {g:Nat→Option ρ}{N:Nat}(h:∀ n,N≤n→g (n+1)=g n)(h2:Ok Q (g N)):Ok Q (recO g):=by
 obtain⟨r,h3,h4⟩:=h2
 have:∀ k,g (N+k)=some r:=by
  intro k
  induction k with
  | zero=>exact h3
  | succ k ih=>rw[← Nat.add_assoc,h _ (by omega),ih]
 exact⟨r,q9N N fun n hn=>by have:=this (n-N);rwa[show N+(n-N)=n by omega] at this,h4⟩
end
def CB (b:List UInt8)(z:l1Cur):Prop:=0≤z.i∧z.b=b
theorem CB.mk' {b:List UInt8}{o z:l1Cur}(h:CB b o)(hz:CB b z):CB b ⟨o.b,z.i,z.h⟩:=⟨hz.1,h.2⟩
def Dr {α:Type}(b:List UInt8)(P:α→Prop)(o:Option (α×l1Cur)):Prop:=Ok (fun r=>P r.1∧CB b r.2) o
theorem Dr.of {α:Type}{b:List UInt8}{P:α→Prop}{o:Option (α×l1Cur)}(hb:b.length≤1048576)(h:∃ y z,o=some (y,z)∧P y∧j3k z∧z.b=b):Dr b P o:=by
 obtain⟨y,z,e,h1,h2,h3⟩:=h
 exact⟨(y,z),e,h1,h2.1,h3⟩
theorem CB.ok {b:List UInt8}{z:l1Cur}(hb:b.length≤1048576)(h:CB b z):j3k z:=⟨h.1,by rw[h.2];exact hb⟩
section
variable {b:List UInt8}{o:l1Cur}(hb:b.length≤1048576)
include hb
theorem k5m:Ok (fun z=>CB b z) (z5N b):=by
 obtain⟨o,h1,h2,h3⟩:=k2h hb
 exact⟨o,h1,h2.1,h3⟩
theorem q4E (n:Int)(h:CB b o):Dr b (fun y=>0≤y∧(0<n→y<n)∧(n≤0→y=0)) (q3Q n o):=by
 obtain⟨y,z,h1,h2,h3,h4,h5,h6⟩:=j2b (h.ok hb) n
 exact⟨(y,z),h1,⟨h2,h3,h4⟩,h5.1,h6.trans h.2⟩
theorem q9e (n:Int)(h:CB b o):Dr b (fun _=>True) (q4R n o):=by
 unfold q4R
 refine (q4E hb n h).bind ?_
 rintro⟨y,z⟩ ⟨_,hz⟩
 exact .ret ⟨trivial,h.mk' hz⟩
theorem z2x {l:List ByteArray}(hl:l≠[])(h:CB b o):Dr b (fun y=>y∈l) (q6R l o):=by
 have hpos:=List.length_pos_iff.2 hl
 unfold q6R
 refine (q4E hb _ h).bind ?_
 rintro⟨y,z⟩ ⟨⟨h1,h2,_⟩,hz⟩
 dsimp only at h1 h2 hz ⊢
 have:=h2 (by omega)
 obtain⟨x,hx⟩:∃ x,l[y.toNat]?=some x:=⟨_,List.getElem?_eq_getElem (by omega)⟩
 rw[hx]
 exact .grd h1 (.ret ⟨List.mem_of_getElem? hx,h.mk' hz⟩)
theorem q9I {l:List Int}(hl:l≠[])(h:CB b o):Dr b (fun y=>y∈l) (q5f l o):=by
 obtain⟨y,z,h1,h2,h3,h4⟩:=j4L (h.ok hb) hl
 exact⟨(y,z),h1,h2,h3.1,h4.trans h.2⟩
theorem j6h (h:CB b o):Dr b (fun y=>y.size=1) (q9S o):=by
 unfold q9S
 refine (z2x hb (by simp) h).bind ?_
 rintro⟨y,z⟩ ⟨h1,hz⟩
 refine .ret ⟨?_,h.mk' hz⟩
 simp only[List.mem_cons,List.not_mem_nil,or_false] at h1
 rcases h1 with h1|h1|h1|h1|h1|h1|h1|h1<;>rw[h1]<;>rfl
theorem j2c (k n p t:Int)(s m:ByteArray):Sz.szd (⟨k,n,p,t,s,m,[]⟩:Expr)=s.size+m.size:=by rw[q6o];rfl
theorem k0f (k n p t:Int)(s m:ByteArray)(x y:Expr):Sz.szd (⟨k,n,p,t,s,m,[x,y]⟩:Expr)=s.size+m.size+(1+Sz.szd x+(1+Sz.szd y+0)):=by rw[q6o];rfl
theorem k3h (k n p t:Int)(s m:ByteArray)(x:Expr):Sz.szd (⟨k,n,p,t,s,m,[x]⟩:Expr)=s.size+m.size+(1+Sz.szd x+0):=by rw[q6o];rfl
theorem j7m (k n p t:Int)(s m:ByteArray)(x y z:Expr):Sz.szd (⟨k,n,p,t,s,m,[x,y,z]⟩:Expr)=s.size+m.size+(1+Sz.szd x+(1+Sz.szd y+(1+Sz.szd z+0))):=by rw[q6o];rfl
theorem z1P:(⟨#[]⟩:ByteArray).size=0:=rfl
theorem z8g (k:Int){l:List Oc}(hl:∀ q∈l,q.Name.size≤8)(h:CB b o):Dr b (fun e=>Sz.szd e≤8) (q7p k l o):=by
 have bare:∀ {o:l1Cur},CB b o→∀ {R:Option (Expr×l1Cur)},R=(if k=4 then
   (q4R 3 o).bind fun (y10,z7)=>if y10=true then some ((⟨7,0,0,0,(⟨#[]⟩:ByteArray),(⟨#[]⟩:ByteArray),[]⟩:Expr),(⟨o.b,z7.i,z7.h⟩:l1Cur)) else some ((⟨6,0,0,0,(⟨#[]⟩:ByteArray),(⟨#[]⟩:ByteArray),[]⟩:Expr),(⟨o.b,z7.i,z7.h⟩:l1Cur))
  else if k=3 then (q3Q 2 o).bind fun (y11,z8)=>(q7h y11 k).bind fun y12=>some (y12,(⟨o.b,z8.i,z8.h⟩:l1Cur))
  else if k=2 then (q3Q 12 o).bind fun (y13,z9)=>grd (0≤y13) <| grd (0≤y13∧y13<63) <| (q7h ((2 ^ y13.toNat:Nat):Int) k).bind fun y14=>some (y14,(⟨o.b,z9.i,z9.h⟩:l1Cur))
  else (q3Q 9 o).bind fun (y15,z10)=>(q7h y15 1).bind fun y16=>some (y16,(⟨o.b,z10.i,z10.h⟩:l1Cur)))→Dr b (fun e=>Sz.szd e≤8) R:=by
  rintro o h R rfl
  refine .ite (fun _=>?_) fun _=>.ite (fun _=>?_) fun _=>.ite (fun _=>?_) fun _=>?_
  ·refine (q9e hb 3 h).bind ?_
   rintro⟨y,z⟩ ⟨_,hz⟩
   refine .ite (fun _=>.ret ⟨?_,h.mk' hz⟩) fun _=>.ret ⟨?_,h.mk' hz⟩
   ·exact Nat.zero_le _
   ·exact Nat.zero_le _
  ·refine (q4E hb 2 h).bind ?_
   rintro⟨y,z⟩ ⟨_,hz⟩
   refine .ret ⟨?_,h.mk' hz⟩
   exact Nat.zero_le _
  ·refine (q4E hb 12 h).bind ?_
   rintro⟨y,z⟩ ⟨⟨h1,h2,_⟩,hz⟩
   have:=h2 (by omega)
   dsimp only at h1 this
   refine .grd h1 (.grd (by omega) (.ret ⟨?_,h.mk' hz⟩))
   exact Nat.zero_le _
  ·refine (q4E hb 9 h).bind ?_
   rintro⟨y,z⟩ ⟨_,hz⟩
   refine .ret ⟨?_,h.mk' hz⟩
   exact Nat.zero_le _
 unfold q7p
 refine .ite (fun hl0=>?_) fun _=>bare h rfl
 refine (q9e hb 4 h).bind ?_
 rintro⟨y,z⟩ ⟨_,hz⟩
 have h':=h.mk' hz
 refine .ite (fun _=>?_) fun _=>?_
 ·exact bare h' rfl
 ·refine (q4E hb _ h').bind ?_
  rintro⟨y,z⟩ ⟨⟨h1,h2,_⟩,hz⟩
  have:=h2 (by omega)
  dsimp only at h1 this
  obtain⟨x,hx⟩:∃ x,l[y.toNat]?=some x:=⟨_,List.getElem?_eq_getElem (by omega)⟩
  dsimp only
  rw[hx]
  refine .grd h1 (.ret ⟨?_,h.mk' hz⟩)
  dsimp only
  rw[j2c hb,z1P hb]
  have:=hl x (List.mem_of_getElem? hx)
  omega
def fb (d:Nat):Nat:=20*4 ^ d
theorem j2d (d:Nat):20≤fb d:=by
 have:1≤4 ^ d:=Nat.one_le_pow _ _ (by omega)
 unfold fb;omega
theorem k0g (d:Nat):fb (d+1)=4*fb d:=by unfold fb;rw[Nat.pow_succ];omega
theorem z6H (h:CB b o){R:Option (Expr×l1Cur)}(hR:R=(
 (q4R 5 o).bind fun (y1,z1)=>
 if y1=true then (
 some ((⟨2,0,0,0,(⟨#[]⟩:ByteArray),(⟨#[]⟩:ByteArray),[]⟩:Expr),(⟨o.b,z1.i,z1.h⟩:l1Cur))
 ) else (
 (q4R 6 (⟨o.b,z1.i,z1.h⟩:l1Cur)).bind fun (y2,z2)=>
 if y2=true then (
 (q3Q 4 (⟨o.b,z2.i,z2.h⟩:l1Cur)).bind fun (y3,z3)=>
 some ((⟨6,0,y3,0,(⟨#[]⟩:ByteArray),(⟨#[]⟩:ByteArray),[]⟩:Expr),(⟨o.b,z3.i,z3.h⟩:l1Cur))
 ) else (
 (q3Q 4 (⟨o.b,z2.i,z2.h⟩:l1Cur)).bind fun (y4,z4)=>
 grd (I64 (1+y4)) <|
 (q3Q 4 (⟨o.b,z4.i,z4.h⟩:l1Cur)).bind fun (y5,z5)=>
 (q9S (⟨o.b,z5.i,z5.h⟩:l1Cur)).bind fun (y6,z6)=>
 (q7p (1+y4) [(⟨y5,y6⟩:Oc)] (⟨o.b,z6.i,z6.h⟩:l1Cur)).bind fun (y7,z7)=>
 some (y7,(⟨o.b,z7.i,z7.h⟩:l1Cur))
 )
 ))):Dr b (fun e=>Sz.szd e≤20) R:=by
 subst hR
 refine (q9e hb 5 h).bind ?_
 rintro⟨y1,z1⟩ ⟨_,h1⟩
 refine .ite (fun _=>.ret ⟨?_,h.mk' h1⟩) fun _=>?_
 ·exact Nat.zero_le _
 refine (q9e hb 6 (h.mk' h1)).bind ?_
 rintro⟨y2,z2⟩ ⟨_,h2⟩
 refine .ite (fun _=>?_) fun _=>?_
 ·refine (q4E hb 4 (h.mk' h2)).bind ?_
  rintro⟨y3,z3⟩ ⟨_,h3⟩
  refine .ret ⟨?_,h.mk' h3⟩
  exact Nat.zero_le _
 ·refine (q4E hb 4 (h.mk' h2)).bind ?_
  rintro⟨y4,z4⟩ ⟨⟨a1,a2,_⟩,h4⟩
  have:=a2 (by omega)
  dsimp only at a1 this
  refine .grd (by constructor<;>omega) ?_
  refine (q4E hb 4 (h.mk' h4)).bind ?_
  rintro⟨y5,z5⟩ ⟨_,h5⟩
  refine (j6h hb (h.mk' h5)).bind ?_
  rintro⟨y6,z6⟩ ⟨hn,h6⟩
  refine (z8g hb _ (by simpa using (show y6.size≤8 by dsimp only at hn;omega)) (h.mk' h6)).bind ?_
  rintro⟨y7,z7⟩ ⟨hs,h7⟩
  exact .ret ⟨by have hs' : Sz.szd y7≤8:=hs;show Sz.szd y7≤20;omega,h.mk' h7⟩
theorem k4j:∀ (d:Nat) (m:Nat),d<m→∀ (a:Int) (o:l1Cur),a≤d+1→q6y (m+1) a o=q6y m a o:=by
 intro d
 induction d with
 | zero=>
  intro m hm a o ha
  obtain⟨m,rfl⟩:∃ q,m=q+1:=⟨m-1,by omega⟩
  show q7E (q6y (m+1)) a o=q7E (q6y m) a o
  unfold q7E
  rw[ifP (by omega),ifP (by omega)]
 | succ d ih=>
  intro m hm a o ha
  obtain⟨m,rfl⟩:∃ q,m=q+1:=⟨m-1,by omega⟩
  have e:q6y (m+1) (a-1)=q6y m (a-1):=funext fun o=>ih m (by omega) (a-1) o (by omega)
  show q7E (q6y (m+1)) a o=q7E (q6y m) a o
  unfold q7E
  rw[e]
theorem k2j:∀ (d:Nat) (m:Nat),d<m→∀ (a:Int) (o:l1Cur),a≤d+1→-1000000≤a→d≤100000→CB b o→Dr b (fun e=>Sz.szd e≤fb d) (q6y m a o):=by
 intro d
 induction d with
 | zero=>
  intro m hm a o ha _ _ h
  obtain⟨m,rfl⟩:∃ q,m=q+1:=⟨m-1,by omega⟩
  show Dr b _ (q7E (q6y m) a o)
  unfold q7E
  rw[ifP (by omega)]
  exact (z6H hb h rfl).mono fun r hr=>⟨Nat.le_trans hr.1 (j2d hb 0),hr.2⟩
 | succ d ih=>
  intro m hm a o ha h0 hd h
  obtain⟨m,rfl⟩:∃ q,m=q+1:=⟨m-1,by omega⟩
  have hf:=j2d hb d
  have hs:=k0g hb d
  show Dr b _ (q7E (q6y m) a o)
  unfold q7E
  by_cases ha2:a<2
  ·rw[ifP ha2];exact (z6H hb h rfl).mono fun r hr=>⟨Nat.le_trans hr.1 (j2d hb _),hr.2⟩
  rw[ifN ha2]
  have ih' : ∀ {o:l1Cur},CB b o→Dr b (fun e=>Sz.szd e≤fb d) (q6y m (a-1) o):=fun h=>ih m (by omega) (a-1) _ (by omega) (by omega) (by omega) h
  have hg:I64 (a-1):=by constructor<;>omega
  refine (q9e hb 4 h).bind ?_
  rintro⟨y8,z8⟩ ⟨_,h8⟩
  refine .ite (fun _=>(z6H hb (h.mk' h8) rfl).mono fun r hr=>⟨Nat.le_trans hr.1 (j2d hb _),hr.2⟩) fun _=>?_
  refine (q4E hb 5 (h.mk' h8)).bind ?_
  rintro⟨y16,z16⟩ ⟨_,h16⟩
  refine .ite (fun _=>?_) fun _=>.ite (fun _=>?_) fun _=>?_
  ·refine .grd hg ((ih' (h.mk' h16)).bind ?_)
   rintro⟨e1,z1⟩ ⟨s1,h1⟩
   refine .grd hg ((ih' (h.mk' h1)).bind ?_)
   rintro⟨e2,z2⟩ ⟨s2,h2⟩
   refine .grd hg ((ih' (h.mk' h2)).bind ?_)
   rintro⟨e3,z3⟩ ⟨s3,h3⟩
   refine .ret ⟨?_,h.mk' h3⟩
   dsimp only at s1 s2 s3 ⊢
   rw[j7m hb,z1P hb];omega
  ·refine (z2x hb (by simp) (h.mk' h16)).bind ?_
   rintro⟨y20,z20⟩ ⟨h20,c20⟩
   refine (j6h hb (h.mk' c20)).bind ?_
   rintro⟨y21,z21⟩ ⟨h21,c21⟩
   refine .grd hg ((ih' (h.mk' c21)).bind ?_)
   rintro⟨e1,z1⟩ ⟨s1,h1⟩
   refine .ret ⟨?_,h.mk' h1⟩
   have:y20.size=1:=by
    simp only[List.mem_cons,List.not_mem_nil,or_false] at h20
    rcases h20 with h20|h20<;>rw[h20]<;>rfl
   dsimp only at s1 h21 ⊢
   rw[k3h hb];omega
  ·refine (q4E hb 12 (h.mk' h16)).bind ?_
   rintro⟨y23,z23⟩ ⟨⟨a1,a2,_⟩,h23⟩
   have:=a2 (by omega)
   dsimp only at a1 this
   refine .grd (by constructor<;>omega) (.grd hg ((ih' (h.mk' h23)).bind ?_))
   rintro⟨e1,z1⟩ ⟨s1,h1⟩
   refine .grd hg ((ih' (h.mk' h1)).bind ?_)
   rintro⟨e2,z2⟩ ⟨s2,h2⟩
   refine .ret ⟨?_,h.mk' h2⟩
   dsimp only at s1 s2 ⊢
   rw[k0f hb,z1P hb];omega
theorem k0h (d:Nat){a:Int}(ha:a≤d+1)(h0:-1000000≤a)(hd:d≤100000)(h:CB b o):Dr b (fun e=>Sz.szd e≤fb d) (z7b a o):=
 k0e (g:=fun n=>q6y n a o) (N:=d+1) (fun n hn=>k4j hb d n (by omega) a o ha) (k2j hb d (d+1) (by omega) a o ha h0 hd h)
theorem k0i {e:Expr}{n:Nat}(h:Sz.szd e≤n):cntE e≤n+1:=by
 have h1:=j3g e
 have h2:z0w e=Sz.szd e:=rfl
 omega
theorem k0j (h:CB b o):Dr b (fun e=>Sz.szd e≤20480) (z3r o):=by
 unfold z3r
 refine (q4E hb 5 h).bind ?_
 rintro⟨y1,z1⟩ ⟨⟨a1,a2,_⟩,h1⟩
 have:=a2 (by omega)
 dsimp only at a1 this
 refine .grd (by constructor<;>omega) ?_
 refine (k0h hb 5 (a:=1+y1) (by omega) (by omega) (by omega) (h.mk' h1)).bind ?_
 rintro⟨e,z2⟩ ⟨s2,h2⟩
 have s2' : Sz.szd e≤20480:=s2
 dsimp only
 rw[z7z (by have:=k0i hb s2';omega)]
 refine Ok.bind (Q:=fun _=>True) (.ret trivial) fun y3 _=>.ite (fun _=>.ret ⟨s2',h.mk' h2⟩) fun _=>.ret ⟨?_,h.mk' h2⟩
 exact Nat.zero_le _
theorem k4k (h:CB b o):Dr b (fun e=>Sz.szd e≤30000) (z4X o):=by
 unfold z4X
 refine (k0j hb h).bind ?_
 rintro⟨e,z1⟩ ⟨s1,h1⟩
 have s1' : Sz.szd e≤20480:=s1
 have s2:=q6o e
 refine (q4E hb 14 (h.mk' h1)).bind ?_
 rintro⟨y2,z2⟩ ⟨_,h2⟩
 dsimp only
 refine .ite (fun _=>?_) fun _=>.ite (fun _=>?_) fun _=>.ite (fun _=>?_) fun _=>.ite (fun _=>?_) fun _=>.ite (fun _=>?_) fun _=>.ite (fun _=>?_) fun _=>?_
 ·refine (q4E hb 11 (h.mk' h2)).bind ?_
  rintro⟨y3,z3⟩ ⟨_,h3⟩
  refine .ret ⟨?_,h.mk' h3⟩
  dsimp only;rw[q6o];dsimp only;omega
 ·have hl:=q7f e.Args
  refine .grd (by constructor<;>omega) (.ret ⟨?_,h.mk' h2⟩)
  dsimp only;rw[q6o];dsimp only;rw[z7K]
  have:szL [(⟨7,0,0,0,(⟨#[]⟩:ByteArray),(⟨#[]⟩:ByteArray),[]⟩:Expr)]=1:=rfl
  omega
 ·refine (q9I hb (by simp) (h.mk' h2)).bind ?_
  rintro⟨y3,z3⟩ ⟨_,h3⟩
  refine .ret ⟨?_,h.mk' h3⟩
  dsimp only;rw[q6o];dsimp only;omega
 ·refine (q9I hb (by simp) (h.mk' h2)).bind ?_
  rintro⟨y3,z3⟩ ⟨_,h3⟩
  refine .ret ⟨?_,h.mk' h3⟩
  dsimp only;rw[q6o];dsimp only;omega
 ·refine (z2x hb (by simp) (h.mk' h2)).bind ?_
  rintro⟨y3,z3⟩ ⟨h30,h3⟩
  have:y3.size≤2:=by
   simp only[List.mem_cons,List.not_mem_nil,or_false] at h30
   rcases h30 with h30|h30|h30<;>rw[h30]<;>decide
  refine .ret ⟨?_,h.mk' h3⟩
  dsimp only;rw[q6o];dsimp only;omega
 ·have hL:Ok (fun q=>Sz.szd (⟨q.2.1,q.2.2.1,q.2.2.2.1,q.2.2.2.2.1,q.2.2.2.2.2.1,q.2.2.2.2.2.2,q.1⟩:Expr)≤20480+5*2) (eachN z7R 0 5 (e.Args,e.Kind,e.N,e.Pos,e.Type_,e.Symbol,e.Name)):=by
   refine (j3l (P:=fun k q=>Sz.szd (⟨q.2.1,q.2.2.1,q.2.2.2.1,q.2.2.2.2.1,q.2.2.2.2.2.1,q.2.2.2.2.2.2,q.1⟩:Expr)≤20480+k*2) (by dsimp only;rw[q6o];dsimp only;omega) fun k q _ _ hq=>?_).mono fun q hq=>by simpa using hq
   obtain⟨q1,q2,q3,q4,q5,q6,q7⟩:=q
   dsimp only at hq
   refine .ret ?_
   dsimp only
   rw[k0f hb,j2c hb,z1P hb];omega
  refine hL.bind ?_
  rintro⟨q1,q2,q3,q4,q5,q6,q7⟩ hq
  refine .ret ⟨?_,h.mk' h2⟩
  dsimp only at hq ⊢;omega
 ·exact .ret ⟨by dsimp only;omega,h.mk' h2⟩
end
def Valid (r:Rl_):Prop:=0≤r.N∧r.N≤16∧(r.Rows.length:Int)=r.N∧∀ x∈r.Rows,0≤x∧x≤((2 ^ r.N.toNat:Nat):Int)-1
instance (r:Rl_):Decidable (Valid r):=by unfold Valid;infer_instance
def z4N (r:Rl_)(i:Int):Int:=r.Rows.getD i.toNat 0
def bit (x:Int)(k:Int):Prop:=x.toNat >>> k.toNat &&& 1=1
instance (x k:Int):Decidable (bit x k):=by unfold bit;infer_instance
def inN (r:Rl_)(i:Int):Prop:=0≤i∧i≤r.N-1
instance (r:Rl_) (i:Int):Decidable (inN r i):=by unfold inN;infer_instance
def hasP (r:Rl_)(i k:Int):Prop:=Valid r∧inN r i∧inN r k∧bit (z4N r i) k
instance (r:Rl_) (i k:Int):Decidable (hasP r i k):=by unfold hasP;infer_instance
def j0E (r:Rl_)(i:Int)(x:Int):Rl_:=⟨r.N,r.Rows.set i.toNat x⟩
def orI (x y:Int):Int:=((x.toNat ||| y.toNat:Nat):Int)
def addP (r:Rl_)(i k:Int):Rl_:=if Valid r∧inN r i∧inN r k then j0E r i (orI (z4N r i) ((2 ^ k.toNat:Nat):Int)) else r
theorem Valid.row {r:Rl_}(h:Valid r){i:Int}(hi:inN r i){x:Int}(hx:r.Rows[i.toNat]?=some x):z4N r i=x∧0≤x∧x≤65535:=by
 have hm:=h.2.2.2 x (List.mem_of_getElem? hx)
 have hp:2 ^ r.N.toNat≤2 ^ 16:=Nat.pow_le_pow_right (by decide) (by have:=h.2.1;omega)
 refine⟨by unfold z4N;simp[hx],hm.1,by omega⟩
theorem k5J {n:Int}(h:n≤16):2 ^ n.toNat≤65536:=by
 have:2 ^ n.toNat≤2 ^ 16:=Nat.pow_le_pow_right (by decide) (by omega)
 simpa using this
theorem j7n (n:Int):1≤2 ^ n.toNat:=Nat.one_le_two_pow
theorem k0k {r:Rl_}(h0:0≤r.N)(h1:r.N≤16)(h2:(r.Rows.length:Int)=r.N):decide (Valid r)=!(r.Rows.any fun x=>!decide (0≤x∧x≤((2 ^ r.N.toNat:Nat):Int)-1)):=by
 by_cases hv:Valid r
 ·rw[decide_eq_true hv,eq_comm,Bool.not_eq_true',List.any_eq_false]
  intro x hx
  simp only[Bool.not_eq_true',decide_eq_false_iff_not,Decidable.not_not]
  exact hv.2.2.2 x hx
 ·rw[decide_eq_false hv,eq_comm,Bool.not_eq_false',List.any_eq_true]
  refine Classical.byContradiction fun hn=>hv ⟨h0,h1,h2,fun x hx=>Classical.byContradiction fun hb=>hn ⟨x,hx,?_⟩⟩
  rw[decide_eq_false hb];rfl
theorem k3i {x k:Int}(h:(((((x.toNat >>> k.toNat:Nat):Int)).toNat &&& (1:Int).toNat:Nat):Int)=1):x.toNat >>> k.toNat &&& 1=1:=by
 have:(1:Int).toNat=1:=rfl
 rw[tnC,this] at h
 exact_mod_cast h
theorem k3j {x k:Int}(h:x.toNat >>> k.toNat &&& 1=1):(((((x.toNat >>> k.toNat:Nat):Int)).toNat &&& (1:Int).toNat:Nat):Int)=1:=by
 have:(1:Int).toNat=1:=rfl
 rw[tnC,this]
 exact_mod_cast h
theorem q8Y (x lo hi:Int):q5v x lo hi=some (decide (lo≤x∧x≤hi)):=by
 unfold q5v;split<;>simp_all<;>omega
theorem z3M (x lo hi:Int):q4e x lo hi=some (decide (lo≤x∧x≤hi)):=by
 unfold q4e;split<;>simp_all<;>omega
theorem q7y (r:Rl_):q4L r=some (decide (Valid r)):=by
 unfold q4L
 simp only[q8Y,bsS,decide_eq_true_eq]
 by_cases h1:0≤r.N∧r.N≤16
 ·rw[ifP h1]
  by_cases h2:(r.Rows.length:Int)=r.N
  ·rw[ifP h2]
   have key:=j4H (c:=false) (n:=r.N.toNat) (i:=0) (p:=fun k=>∃ x,r.Rows[k]?=some x∧¬ (0≤x∧x≤((2 ^ r.N.toNat:Nat):Int)-1)) (f:=q9z r) fun k hk=>by
    have hk' : k<r.Rows.length:=by omega
    obtain⟨x,hx⟩:∃ x,r.Rows[k]?=some x:=⟨_,List.getElem?_eq_getElem hk'⟩
    simp only[Nat.zero_add]
    unfold q9z
    rw[hx,bsS,q3P h1.1,q3P (by omega),q8Y,bsS]
    simp only[decide_eq_true_eq]
    refine⟨fun ⟨y,hy,hn⟩=>?_,fun hn=>?_⟩
    ·cases hy;rw[ifN hn]
    ·by_cases hb:0≤x∧x≤((2 ^ r.N.toNat:Nat):Int)-1
     ·rw[ifP hb]
     ·exact absurd ⟨x,rfl,hb⟩ hn
   simp only[Nat.zero_add] at key
   by_cases hv:Valid r
   ·rw[key.2 fun k hk ⟨x,hx,hn⟩=>hn (hv.2.2.2 x (List.mem_of_getElem? hx))]
    simp[hv]
   ·rw[key.1 (Classical.byContradiction fun hn=>hv ⟨h1.1,h1.2,h2,fun x hx=>?_⟩)]
    ·simp[hv]
    ·obtain⟨k,hk⟩:=List.getElem?_of_mem hx
     have hk':=k5A hk
     exact Classical.byContradiction fun hb=>hn ⟨k,by omega,x,hk,hb⟩
  ·rw[ifN h2,decide_eq_false fun hv=>h2 hv.2.2.1]
 ·rw[ifN h1,decide_eq_false fun hv=>h1 ⟨hv.1,hv.2.1⟩]
theorem z2y (r:Rl_):q5j r=some (decide (Valid r)):=by
 unfold q5j
 simp only[z3M,bsS,decide_eq_true_eq]
 by_cases h1:0≤r.N∧r.N≤16
 ·rw[ifP h1]
  simp only[bsS,Bool.false_eq_true,if_true,if_false,decide_eq_true_eq]
  by_cases h2:(r.Rows.length:Int)=r.N
  ·rw[ifP h2]
   have h3:∀ x,q6C x r=some (!decide (0≤x∧x≤((2 ^ r.N.toNat:Nat):Int)-1)):=fun x=>by
    unfold q6C
    rw[q3P h1.1,q3P (by omega),z3M];rfl
   have h4:∀ (xs:List Int) (i:Nat),∃ z,findL (q4Y r) i xs ()=some z∧((xs.any fun x=>!decide (0≤x∧x≤((2 ^ r.N.toNat:Nat):Int)-1))=true→∃ k:Nat,z=.inr (k:Int))∧((xs.any fun x=>!decide (0≤x∧x≤((2 ^ r.N.toNat:Nat):Int)-1))=false→z=.inl ()):=by
    intro xs
    induction xs with
    | nil=>intro i;exact⟨_,rfl,by simp,by simp⟩
    | cons x xs ih=>
     intro i
     simp only[findL,q4Y,h3,bsS,List.any_cons]
     by_cases hb:0≤x∧x≤((2 ^ r.N.toNat:Nat):Int)-1
     ·simp only[hb,and_self,decide_true,Bool.not_true,Bool.false_eq_true,if_false,bsS,Bool.false_or]
      exact ih (i+1)
     ·simp only[hb,decide_false,Bool.not_false,if_true,bsS,Bool.true_or]
      exact⟨_,rfl,fun _=>⟨i,rfl⟩,by simp⟩
   unfold q4m q4x
   obtain⟨z,hz,hz1,hz2⟩:=h4 r.Rows 0
   rw[hz,k0k h1.1 h1.2 h2]
   cases ha:(r.Rows.any fun x=>!decide (0≤x∧x≤((2 ^ r.N.toNat:Nat):Int)-1)) with
   | true=>obtain⟨k,rfl⟩:=hz1 ha;simp
   | false=>rw[hz2 ha];simp
  ·rw[ifN h2,decide_eq_false fun hv=>h2 hv.2.2.1];simp only[bsS,Bool.false_eq_true,if_true,if_false,decide_eq_true_eq]
 ·rw[ifN h1,decide_eq_false fun hv=>h1 ⟨hv.1,hv.2.1⟩];simp only[bsS,Bool.false_eq_true,if_true,if_false,decide_eq_true_eq]
theorem q8K (r:Rl_)(i k:Int):q8R r i k=some (decide (hasP r i k)):=by
 unfold q8R
 simp only[q7y,q8Y,bsS,decide_eq_true_eq]
 by_cases hv:Valid r
 ·have hv1:=hv.1;have hv2:=hv.2.1;have hv3:=hv.2.2.1
  rw[ifP hv,q3P (by constructor<;>omega)];simp only[bsS,Bool.false_eq_true,if_true,if_false,decide_eq_true_eq]
  by_cases hi:0≤i∧i≤r.N-1
  ·rw[ifP hi,q3P (by constructor<;>omega)];simp only[bsS,Bool.false_eq_true,if_true,if_false,decide_eq_true_eq]
   by_cases hk:0≤k∧k≤r.N-1
   ·obtain⟨x,hx⟩:∃ x,r.Rows[i.toNat]?=some x:=⟨_,List.getElem?_eq_getElem (by omega)⟩
    have hrow:=hv.row (i:=i) hi hx
    rw[ifP hk,q3P hi.1,hx,bsS,q3P hk.1,q3P ⟨hrow.2.1,hk.1,by omega⟩,q3P ⟨Int.natCast_nonneg _,by decide⟩]
    simp only[bsS,Bool.false_eq_true,if_true,if_false,decide_eq_true_eq]
    congr 1
    refine decide_eq_decide.2 ⟨fun hb=>⟨hv,hi,hk,?_⟩,fun hb=>?_⟩
    ·unfold bit;rw[hrow.1];exact k3i hb
    ·have:=hb.2.2.2;unfold bit at this;rw[hrow.1] at this;exact k3j this
   ·rw[ifN hk];simp only[bsS,Bool.false_eq_true,if_true,if_false,decide_eq_true_eq];rw[ decide_eq_false fun h=>hk h.2.2.1]
  ·rw[ifN hi];simp only[bsS,Bool.false_eq_true,if_true,if_false,decide_eq_true_eq];rw[ decide_eq_false fun h=>hi h.2.1]
 ·rw[ifN hv];simp only[bsS,Bool.false_eq_true,if_true,if_false,decide_eq_true_eq];rw[ decide_eq_false fun h=>hv h.1]
theorem z6I (r:Rl_)(i k:Int):q9F r i k=some (decide (hasP r i k)):=by
 rw[← q8K]
 unfold q9F q8R
 simp only[q7y,z2y,q8Y,z3M]
theorem j0F:q6W=q8q:=by
 funext r;unfold q6W q8q q8z
 by_cases h:((([]:List Int).length:Int)+(r.Rows.length:Int))*8≤140737488355328∧(([]:List Int).length:Int)+(r.Rows.length:Int)≤9223372036854775807
 ·rw[q3P h,q3P h];rfl
 ·unfold grd;rw[ifN h,ifN h];rfl
theorem k2k:q9F=q8R:=by
 funext r i k;rw[z6I,q8K]
theorem j3n:z0M=q6M:=by
 funext r i k;unfold z0M q6M;simp only[j0F,q7y,z2y,q8Y,z3M]
theorem z8h:q6t=q4I:=by
 funext n;unfold q6t q4I;simp only[q8Y,z3M]
theorem z3N {r:Rl_}(h:r.Rows.length≤1048576):q8q r=some r:=by
 unfold q8q;rw[q3P (by simp only[List.length_nil];constructor<;>omega)]
theorem j7o {r:Rl_}(h:r.Rows.length≤1048576)(i k:Int):∃ x,q6M r i k=some x∧x.Rows.length=r.Rows.length:=by
 unfold q6M
 simp only[z3N h,q7y,q8Y,bsS,decide_eq_true_eq]
 by_cases hv:Valid r
 ·have hv1:=hv.1;have hv2:=hv.2.1;have hv3:=hv.2.2.1
  rw[ifP hv,q3P (by constructor<;>omega)];simp only[bsS,Bool.false_eq_true,if_true,if_false,decide_eq_true_eq]
  by_cases hi:0≤i∧i≤r.N-1
  ·rw[ifP hi,q3P (by constructor<;>omega)];simp only[bsS,Bool.false_eq_true,if_true,if_false,decide_eq_true_eq]
   by_cases hk:0≤k∧k≤r.N-1
   ·obtain⟨x,hx⟩:∃ x,r.Rows[i.toNat]?=some x:=⟨_,List.getElem?_eq_getElem (by omega)⟩
    have hrow:=hv.row (i:=i) hi hx
    rw[ifP hk,q3P hi.1,hx,bsS,q3P hk.1,q3P ⟨hk.1,by omega⟩,q3P ⟨hrow.2.1,Int.natCast_nonneg _⟩]
    exact⟨_,rfl,by simp⟩
   ·rw[ifN hk];exact⟨_,rfl,rfl⟩
  ·rw[ifN hi];simp only[bsS,Bool.false_eq_true,if_true,if_false,decide_eq_true_eq];exact⟨_,rfl,rfl⟩
 ·rw[ifN hv];simp only[bsS,Bool.false_eq_true,if_true,if_false,decide_eq_true_eq];exact⟨_,rfl,rfl⟩
theorem j8H (n:Nat):∃ x,q4I (n:Int)=some x∧x.Rows.length≤16:=by
 unfold q4I;simp only[q8Y,bsS,decide_eq_true_eq]
 by_cases h:0≤(n:Int)∧(n:Int)≤16
 ·rw[ifP h,q3P (by refine⟨by omega,by omega,by omega⟩)];exact⟨_,rfl,by simp;omega⟩
 ·rw[ifN h];exact⟨_,rfl,by simp⟩
theorem j4O {r:Rl_}(h:r.Rows.length≤1048576)(i k:Int):q6M r i k=some (addP r i k):=by
 unfold q6M
 simp only[z3N h,q7y,q8Y,bsS,decide_eq_true_eq]
 by_cases hv:Valid r
 ·have hv1:=hv.1;have hv2:=hv.2.1;have hv3:=hv.2.2.1
  rw[ifP hv,q3P (by constructor<;>omega)];simp only[bsS,Bool.false_eq_true,if_true,if_false,decide_eq_true_eq]
  by_cases hi:0≤i∧i≤r.N-1
  ·rw[ifP hi,q3P (by constructor<;>omega)];simp only[bsS,Bool.false_eq_true,if_true,if_false,decide_eq_true_eq]
   by_cases hk:0≤k∧k≤r.N-1
   ·obtain⟨x,hx⟩:∃ x,r.Rows[i.toNat]?=some x:=⟨_,List.getElem?_eq_getElem (by omega)⟩
    have hrow:=hv.row (i:=i) hi hx
    rw[ifP hk,q3P hi.1,hx,bsS,q3P hk.1,q3P ⟨hk.1,by omega⟩,q3P ⟨hrow.2.1,Int.natCast_nonneg _⟩]
    have e:addP r i k=j0E r i (orI (z4N r i) ((2 ^ k.toNat:Nat):Int)):=ifP ⟨hv,hi,hk⟩
    rw[e,hrow.1];rfl
   ·rw[ifN hk]
    have e:addP r i k=r:=ifN fun h=>hk h.2.2
    rw[e]
  ·rw[ifN hi];simp only[bsS,Bool.false_eq_true,if_true,if_false,decide_eq_true_eq]
   have e:addP r i k=r:=ifN fun h=>hi h.2.1
   rw[e]
 ·rw[ifN hv];simp only[bsS,Bool.false_eq_true,if_true,if_false,decide_eq_true_eq]
  have e:addP r i k=r:=ifN fun h=>hv h.1
  rw[e]
theorem z7A {n:Int}(h0:0≤n)(h1:n≤16):q4I n=some ⟨n,List.replicate n.toNat 0⟩:=by
 unfold q4I
 rw[q8Y,bsS,ifP (by simp;omega),q3P (by omega)]
theorem z5V (r:Rl_)(i k:Int):(addP r i k).Rows.length=r.Rows.length∧(addP r i k).N=r.N:=by
 unfold addP
 split
 ·exact⟨by simp[j0E],rfl⟩
 ·exact⟨rfl,rfl⟩
theorem z9o (x k:Int):bit x k↔x.toNat.testBit k.toNat=true:=by
 unfold bit
 rw[Nat.testBit_eq_decide_div_mod_eq,Nat.shiftRight_eq_div_pow]
 simp[Nat.and_one_is_mod]
def j3o (k:Nat)(s:List Int):List Int:=s.map fun x=>if x.toNat.testBit k=true then orI x (s.getD k 0) else x
def z5B (s:List Int):Nat→List Int
 | 0=>s
 | m+1=>j3o m (z5B s m)
def z4F (n:Nat)(s:List Int):Prop:=s.length=n∧∀ x∈s,0≤x∧x.toNat<2 ^ n
theorem j8I (x y:Int):0≤orI x y:=by unfold orI;omega
theorem j0G (x y:Int):(orI x y).toNat=x.toNat ||| y.toNat:=by unfold orI;omega
theorem k0l {n:Nat}{s:List Int}(h:z4F n s)(k:Nat):0≤s.getD k 0∧(s.getD k 0).toNat<2 ^ n:=by
 rw[List.getD_eq_getElem?_getD]
 cases hk:s[k]? with
 | none=>simp;exact Nat.two_pow_pos n
 | some x=>exact h.2 x (List.mem_of_getElem? hk)
theorem j7p {n k:Nat}{s:List Int}(h:z4F n s):z4F n (j3o k s):=by
 refine⟨by unfold j3o;rw[lnM];exact h.1,fun x hx=>?_⟩
 unfold j3o at hx
 obtain⟨y,hy,rfl⟩:=List.mem_map.1 hx
 have h1:=h.2 y hy
 split
 ·exact⟨j8I _ _,by rw[j0G];exact Nat.or_lt_two_pow h1.2 (k0l h k).2⟩
 ·exact h1
theorem z0z {n:Nat}{s:List Int}(h:z4F n s):∀ m,z4F n (z5B s m)
 | 0=>h
 | m+1=>j7p (z0z h m)
def Rl (s:List Int)(i j:Nat):Prop:=(s.getD i 0).toNat.testBit j=true
theorem k0m {n k:Nat}{s:List Int}(h:z4F n s){i:Nat}(hi:i<n)(j:Nat):Rl (j3o k s) i j↔Rl s i j∨(Rl s i k∧Rl s k j):=by
 unfold Rl
 have hs:∃ x,s[i]?=some x:=⟨_,List.getElem?_eq_getElem (by rw[h.1];exact hi)⟩
 obtain⟨x,hx⟩:=hs
 have e1:s.getD i 0=x:=by rw[List.getD_eq_getElem?_getD,hx];rfl
 have e2:(j3o k s).getD i 0=if x.toNat.testBit k=true then orI x (s.getD k 0) else x:=by
  unfold j3o
  rw[List.getD_eq_getElem?_getD,List.getElem?_map,hx];rfl
 rw[e1,e2]
 by_cases hb:x.toNat.testBit k=true
 ·rw[ifP hb,j0G,Nat.testBit_or,Bool.or_eq_true];simp[hb]
 ·rw[ifN hb];simp[hb]
theorem k5K {n:Nat}{s:List Int}(h:z4F n s){i j:Nat}(hR:Rl s i j):j<n:=by
 unfold Rl at hR
 have h1:=(k0l h i).2
 apply Decidable.byContradiction
 intro hj
 have:(s.getD i 0).toNat.testBit j=false:=Nat.testBit_lt_two_pow (Nat.lt_of_lt_of_le h1 (Nat.pow_le_pow_right (by omega) (by omega)))
 rw[this] at hR;cases hR
theorem k3k {n:Nat}{s:List Int}(h:z4F n s){i j:Nat}(hR:Rl s i j):i<n:=by
 unfold Rl at hR
 apply Decidable.byContradiction
 intro hi
 have:s.getD i 0=0:=by rw[List.getD_eq_getElem?_getD,List.getElem?_eq_none (by rw[h.1];omega)];rfl
 rw[this] at hR;simp at hR
theorem j7q {n k:Nat}{s:List Int}(h:z4F n s)(hk:k<n)(hn:n≤16):eachN (q7L k) 0 n s=some (j3o k s):=by
 have hkk:∃ y,s[k]?=some y:=⟨_,List.getElem?_eq_getElem (by rw[h.1];exact hk)⟩
 obtain⟨y,hy⟩:=hkk
 have ey:s.getD k 0=y:=by rw[List.getD_eq_getElem?_getD,hy];rfl
 let f:Int→Int:=fun x=>if x.toNat.testBit k=true then orI x y else x
 have hf:f y=y:=by
  show (if y.toNat.testBit k=true then orI y y else y)=y
  have:=(h.2 y (List.mem_of_getElem? hy)).1
  split
  ·unfold orI;rw[Nat.or_self];omega
  ·rfl
 obtain⟨s',h1,h2⟩:=z7t (P:=fun m t=>t=(s.take m).map f++s.drop m) (f:=q7L k) (n:=n) (i:=0) (s:=s) (by simp) (fun m t _ hm ht=>by
  subst ht
  have hms:m<s.length:=by rw[h.1];omega
  obtain⟨x,hx⟩:∃ x,s[m]?=some x:=⟨_,List.getElem?_eq_getElem hms⟩
  have hx0:=h.2 x (List.mem_of_getElem? hx)
  have hy0:=h.2 y (List.mem_of_getElem? hy)
  have g1:((s.take m).map f++s.drop m)[m]?=some x:=by
   rw[List.getElem?_append_right (by simp;omega)]
   simp only[lnM,List.length_take]
   rw[show m-min m s.length=0 by omega,List.getElem?_drop,Nat.add_zero,hx]
  have g2:((s.take m).map f++s.drop m)[k]?=some y:=by
   by_cases hkm:k<m
   ·rw[List.getElem?_append_left (by simp;omega),List.getElem?_map,List.getElem?_take,ifP hkm,hy]
    show some (f y)=_
    rw[hf]
   ·rw[List.getElem?_append_right (by simp;omega)]
    simp only[lnM,List.length_take]
    rw[List.getElem?_drop,show m+(k-min m s.length)=k by omega,hy]
  have hset:(((s.take m).map f++s.drop m).set m (f x))=(s.take (m+1)).map f++s.drop (m+1):=by
   rw[List.set_append_right _ _ (by simp;omega)]
   simp only[lnM,List.length_take]
   rw[show m-min m s.length=0 by omega,List.take_add_one,hx,List.map_append,List.append_assoc]
   congr 1
   rw[List.drop_eq_getElem_cons hms];rfl
  have hno:f x=x→((s.take m).map f++s.drop m)=(s.take (m+1)).map f++s.drop (m+1):=fun e=>by
   rw[← hset,e]
   apply List.ext_getElem?
   intro q
   rw[List.getElem?_set]
   by_cases hq:m=q
   ·subst hq
    rw[ifP rfl,g1]
    split
    ·rfl
    ·rename_i hl;exact absurd (by simp;omega) hl
   ·rw[ifN hq]
  refine⟨_,?_,rfl⟩
  unfold q7L
  rw[g1,bsS,q3P (by refine⟨hx0.1,by omega,by omega⟩),q3P ⟨Int.natCast_nonneg _,by decide⟩]
  by_cases hb:bit x (k:Int)
  ·have hb':=(z9o x k).1 hb
   rw[tnC] at hb'
   rw[ifP (k3j hb),g2,bsS,q3P ⟨hx0.1,hy0.1⟩,bsS,← hset]
   show some (List.set _ m (orI x y))=some (List.set _ m (f x))
   have:f x=orI x y:=ifP hb'
   rw[this]
  ·have hb' : ¬ x.toNat.testBit k=true:=fun h=>hb ((z9o x k).2 (by rw[tnC];exact h))
   rw[ifN (fun h=>hb (k3i h)),bsS,← hno (ifN hb')])
 rw[h1]
 subst h2
 unfold j3o
 rw[Nat.zero_add,List.take_of_length_le (by rw[h.1];exact Nat.le_refl _),List.drop_eq_nil_of_le (by rw[h.1];exact Nat.le_refl _),List.append_nil,ey]
theorem z4r {r:Rl_}(h:Valid r):z4F r.N.toNat r.Rows∧r.N.toNat≤16:=by
 obtain⟨h0,h1,h2,h3⟩:=h
 have:=j7n r.N
 exact⟨⟨by omega,fun x hx=>⟨(h3 x hx).1,by have:=(h3 x hx).2;omega⟩⟩,by omega⟩
def q7c (r:Rl_):Rl_:=if Valid r then ⟨r.N,z5B r.Rows r.N.toNat⟩ else r
theorem k4l:z3y=q7L:=rfl
theorem j4P {r:Rl_}(h:r.Rows.length≤1048576):q7m r=some (q7c r):=by
 unfold q7m q7c
 rw[z3N h,bsS,q7y,bsS]
 by_cases hv:Valid r
 ·rw[ifP (by simpa using hv),ifP hv]
  obtain⟨hok,hn⟩:=z4r hv
  obtain⟨t,h1,h2⟩:=z7t (P:=fun m t=>t=z5B r.Rows m) (f:=z0R r) (n:=r.N.toNat) (i:=0) (s:=r.Rows) rfl (fun k s _ hk hs=>by
   subst hs
   refine⟨_,?_,rfl⟩
   unfold z0R
   rw[j7q (z0z hok k) (by omega) hn];rfl)
  rw[h1,bsS,h2,Nat.zero_add]
 ·rw[ifN (by simpa using hv),ifN hv]
theorem j4Q {r:Rl_}(h:r.Rows.length≤1048576):q7k r=some (q7c r):=by
 unfold q7k q7c
 rw[j0F,z3N h,bsS,z2y,bsS]
 by_cases hv:Valid r
 ·rw[ifP (by simpa using hv),ifP hv]
  obtain⟨hok,hn⟩:=z4r hv
  obtain⟨t,h1,h2⟩:=z7t (P:=fun m t=>t=z5B r.Rows m) (f:=z0N) (n:=r.Rows.length) (i:=0) (s:=r.Rows) rfl (fun k s _ hk hs=>by
   subst hs
   refine⟨_,?_,rfl⟩
   unfold z0N
   have hl:=(z0z hok k).1
   rw[hl,k4l,j7q (z0z hok k) (by rw[hok.1] at hk;omega) hn];rfl)
  rw[h1,bsS,h2,Nat.zero_add,hok.1]
 ·rw[ifN (by simpa using hv),ifN hv]
theorem z5W (r:Rl_):(q7c r).Rows.length=r.Rows.length∧(q7c r).N=r.N:=by
 unfold q7c
 by_cases hv:Valid r
 ·rw[ifP hv]
  obtain⟨hok,_⟩:=z4r hv
  exact⟨by show (z5B r.Rows r.N.toNat).length=_;rw[(z0z hok _).1,hok.1],rfl⟩
 ·rw[ifN hv];exact⟨rfl,rfl⟩
theorem z8I {r:Rl_}(h:Valid r):Valid (q7c r):=by
 obtain⟨hok,hn⟩:=z4r h
 obtain⟨k1,k2⟩:=z0z hok r.N.toNat
 obtain⟨h0,h1,h2,h3⟩:=h
 unfold q7c
 rw[ifP ⟨h0,h1,h2,h3⟩]
 refine⟨h0,h1,by show ((z5B r.Rows r.N.toNat).length:Int)=r.N;omega,fun x hx=>?_⟩
 have:=k2 x hx
 have:=j7n r.N
 exact⟨(k2 x hx).1,by show x≤((2 ^ r.N.toNat:Nat):Int)-1;omega⟩
theorem z8i {r:Rl_}(h:Valid r)(i j:Nat):hasP r (i:Int) (j:Int)↔Rl r.Rows i j:=by
 obtain⟨hok,hn⟩:=z4r h
 unfold hasP
 have h0:=h.1
 constructor
 ·rintro⟨_,_,_,hb⟩
  have:=(z9o _ _).1 hb
  simpa[Rl,z4N] using this
 ·intro hR
  have hi:=k3k hok hR
  have hj:=k5K hok hR
  refine⟨h,⟨by omega,by omega⟩,⟨by omega,by omega⟩,(z9o _ _).2 ?_⟩
  simpa[Rl,z4N] using hR
theorem k0n (l:List Int):∀ (f:Nat→Int→Unit→Option (Unit ⊕ Bool)),(∀ k x,f k x ()=(l[k]?).bind fun x2=>if x=x2 then some (.inl ()) else some (.inr false))→findL f 0 l ()=some (.inl ()):=by
 intro f hf
 have key:∀ (m k:Nat),k+m=l.length→findL f k (l.drop k) ()=some (.inl ()):=by
  intro m
  induction m with
  | zero=>intro k hk;rw[List.drop_eq_nil_of_le (by omega)];rfl
  | succ m ih=>
   intro k hk
   rw[List.drop_eq_getElem_cons (by omega)]
   simp only[findL,hf,List.getElem?_eq_getElem (show k<l.length by omega),bsS,if_true]
   exact ih (k+1) (by omega)
 have:=key l.length 0 (by omega)
 rwa[List.drop_zero] at this
theorem j6i (r:Rl_):q5r r r=some true:=by
 unfold q5r z5p
 rw[ifP rfl,ifP rfl,k0n r.Rows _ (fun k x=>rfl)];rfl
theorem j6j {r:Rl_}(h:r.Rows.length≤1048576):z0S r=some (decide (∃ k:Nat,k<r.Rows.length∧hasP (q7c r) (k:Int) (k:Int))):=by
 unfold z0S
 rw[j4Q h,bsS]
 have hl:=(z5W r).1
 have hf:∀ (k:Nat) (x:Int),(hasP (q7c r) (k:Int) (k:Int)→z2r (q7c r) k x ()=some (.inr true))∧(¬ hasP (q7c r) (k:Int) (k:Int)→z2r (q7c r) k x ()=some (.inl ())):=fun k x=>by
  unfold z2r
  rw[z6I,bsS]
  exact⟨fun hp=>ifP (by simpa using hp),fun hp=>ifN (by simpa using hp)⟩
 have hany:=j4G (c:=true) (xs:=(q7c r).Rows) (i:=0) (p:=fun k _=>hasP (q7c r) (k:Int) (k:Int)) (f:=z2r (q7c r)) fun k x _=>by
  rw[Nat.zero_add];exact hf k x
 by_cases hp:∃ k:Nat,k<r.Rows.length∧hasP (q7c r) (k:Int) (k:Int)
 ·rw[decide_eq_true hp]
  obtain⟨k,hk,hpk⟩:=hp
  rw[hany.1 ⟨k,_,List.getElem?_eq_getElem (by omega),by rw[Nat.zero_add];exact hpk⟩];rfl
 ·rw[decide_eq_false hp]
  rw[hany.2 fun k x hx hpk=>hp ⟨k,by rw[← hl];exact (List.getElem?_eq_some_iff.1 hx).1,by rw[Nat.zero_add] at hpk;exact hpk⟩];rfl
theorem z1b {α ρ:Type}{p:α→Bool}{r:α→ρ}:∀ {xs:List α} {i:Nat} {f:Nat→α→Unit→Option (Unit ⊕ ρ)},(∀ k x,x∈xs→(p x=true→f k x ()=some (.inr (r x)))∧(p x=false→f k x ()=some (.inl ()))) →
  findL f i xs ()=some (match xs.find? p with|some x=>.inr (r x)|none=>.inl ())
 | [],_,_,_=>rfl
 | x::xs,i,f,h=>by
  have h0:=h i x (by simp)
  cases hp:p x with
  | true=>simp[findL,h0.1 hp,List.find?,hp]
  | false=>
   have ih:=z1b (p:=p) (r:=r) (xs:=xs) (i:=i+1) (f:=f) fun k y hy=>h k y (by simp[hy])
   simp[findL,h0.2 hp,List.find?,hp,ih]
theorem q9J {α β:Type}{p:α→Bool}{g:Nat→α→β}{B:Nat}{f:Nat→α→List β→Option (List β)}(hf:∀ k x s,s.length<B→f k x s=some (if p x=true then s++[g k x] else s)):∀ (xs:List α) (i:Nat) (s:List β),s.length+xs.length≤B →
  ∃ ys,eachL f i xs s=some (s++ys)∧ys.length≤xs.length
 | [],i,s,_=>⟨[],by simp[eachL],by simp⟩
 | x::xs,i,s,h=>by
  simp only[lnC] at h
  by_cases hp:p x=true
  ·obtain⟨ys,h1,h2⟩:=q9J hf xs (i+1) (s++[g i x]) (by simp;omega)
   exact⟨g i x::ys,by simp[eachL,hf i x s (by omega),hp,h1],by simp;omega⟩
  ·obtain⟨ys,h1,h2⟩:=q9J hf xs (i+1) s (by omega)
   exact⟨ys,by simp[eachL,hf i x s (by omega),hp,h1],by simp;omega⟩
theorem z5C (x lo hi:Int):q5v x lo hi=some (decide (lo≤x∧x≤hi)):=by
 unfold q5v;split<;>simp_all<;>omega
theorem z8J (x lo hi:Int):q4e x lo hi=some (decide (lo≤x∧x≤hi)):=by
 unfold q4e;split<;>simp_all<;>omega
theorem z8j (r:Rule)(k:Int):q6U r k=q5w r k:=by
 unfold q6U q5w;rw[z5C,z8J]
def z8k (a:At_):Bool:=decide (a.Mode=1∨a.Mode=2)
theorem j2e:z2m=q5G:=rfl
theorem z6g:q4V=q5H:=rfl
theorem k0o {g:Gm_}(h:∀ y∈g.Symbols,y.Attributes.length≤1048576)(s:ByteArray):∃ y b,q5h g s=some (y,b)∧q5C g s=some (y,b)∧y.Attributes.length≤1048576:=by
 have h1:=z1b (p:=fun y:Symbol=>decide (y.Name=s)) (r:=fun y=>(y,true)) (xs:=g.Symbols) (i:=0) (f:=q9h s) fun k y hy=>by
  have hg:q8E y=some y:=by
   unfold q8E;have:=h y hy;rw[q3P (by simp only[List.length_nil];constructor<;>omega)]
  unfold q9h;rw[hg];constructor<;>intro hp<;>simp_all
 have h2:=z1b (p:=fun y:Symbol=>decide (y.Name=s)) (r:=fun y=>(y,true)) (xs:=g.Symbols) (i:=0) (f:=q9n s) fun k y hy=>by
  unfold q9n;constructor<;>intro hp<;>simp_all
 unfold q5h q5C
 rw[h1,h2]
 cases hf:g.Symbols.find? (fun y:Symbol=>decide (y.Name=s)) with
 | none=>exact⟨_,_,rfl,rfl,by simp⟩
 | some y=>exact⟨_,_,rfl,rfl,h y (List.mem_of_find?_eq_some hf)⟩
theorem z3O {g:Gm_}(h:∀ y∈g.Symbols,y.Attributes.length≤1048576)(s:ByteArray):∃ l,q5k g s=some l∧q4v g s=some l∧l.length≤1048576:=by
 obtain⟨y,b,h1,h2,h3⟩:=k0o h s
 obtain⟨l,h4,h5⟩:=q9J (p:=z8k) (g:=fun _ x=>x) (B:=1048577) (f:=q5G) (fun k x s hs=>by
  have hg:((s.length:Int)+1)*40≤140737488355328∧(s.length:Int)+1≤9223372036854775807:=by constructor<;>omega
  unfold q5G z8k
  rw[q3P hg]
  by_cases m1:x.Mode=1
  ·rw[ifP m1,ifP (by simp[m1])];rfl
  ·rw[ifN m1]
   by_cases m2:x.Mode=2
   ·rw[ifP m2,ifP (by simp[m2])];rfl
   ·rw[ifN m2,ifN (by simp[m1,m2])];rfl) y.Attributes 0 [] (by simp;omega)
 simp only[List.nil_append] at h4
 refine⟨l,?_,?_,by omega⟩
 ·unfold q5k;rw[h1];dsimp only[bsS];rw[h4];rfl
 ·unfold q4v;rw[h2];dsimp only[bsS];rw[j2e,h4];rfl
theorem j2f (r:Rule)(k:Nat)(hk:k≤r.Right.length)(hl:r.Right.length≤1048576):∃ x,q5w r (k:Int)=some x:=by
 unfold q5w
 by_cases h0:(k:Int)=0
 ·exact⟨_,ifP h0⟩
 ·rw[ifN h0,z5C,bsS,ifP (by simp;omega),q3P (by constructor<;>omega),q3P (by omega)]
  obtain⟨x,hx⟩:∃ x,r.Right[((k:Int)-1).toNat]?=some x:=⟨_,List.getElem?_eq_getElem (by omega)⟩
  exact⟨x,by rw[hx];rfl⟩
theorem k0p (k:Nat)(B:Nat)(hB:B≤4398046511104):∀ (l:List At_) (i:Nat) (s:List Oc),s.length+l.length≤B→∃ ys,eachL (q5N k) i l s=some (s++ys)∧ys.length≤l.length:=fun l i s h=>
 q9J (p:=fun _=>true) (g:=fun _ x=>(⟨(k:Int),x.Name⟩:Oc)) (B:=B) (f:=q5N k) (fun j x s hs=>by
  have hg:((s.length:Int)+1)*24≤140737488355328∧(s.length:Int)+1≤9223372036854775807:=by constructor<;>omega
  unfold q5N
  rw[q3P hg,ifP rfl]) l i s h
theorem j7r (k:Nat):z3B (k:Int)=q5N k:=rfl
theorem z9p {g:Gm_}{r:Rule}(h:∀ y∈g.Symbols,y.Attributes.length≤1048576)(hr:r.Right.length≤1048576):∃ l,q5D g r=some l∧q4X g r=some l∧l.length≤1099512676352:=by
 have key:∀ m k (s:List Oc),k+m=r.Right.length+1→s.length≤k*1048576→∃ l,eachN (q4r g r) k m s=some l∧q5s (q5b g r) (s,(k:Int))=some l∧l.length≤(k+m)*1048576:=by
  intro m
  induction m with
  | zero=>
   intro k s hk hs
   refine⟨s,rfl,q3U ?_,by simpa using hs⟩
   unfold q5b;dsimp only;rw[ifN (by omega)]
  | succ m ih=>
   intro k s hk hs
   obtain⟨x,hx⟩:=j2f r k (by omega) hr
   obtain⟨p,hp1,hp2,hp3⟩:=z3O h x
   obtain⟨ys,hy1,hy2⟩:=k0p k 4398046511104 (by omega) p 0 s (by omega)
   obtain⟨l,h1,h2,h3⟩:=ih (k+1) (s++ys) (by omega) (by simp;omega)
   refine⟨l,?_,?_,by rw[show k+(m+1)=k+1+m by omega];exact h3⟩
   ·have e:q4r g r k s=some (s++ys):=by
     unfold q4r;rw[z8j,hx,bsS,hp2,bsS,hy1];rfl
    simp only[eachN,e,bsS];exact h1
   ·have e:q5b g r (s,(k:Int))=some (.inl (s++ys,((k+1:Nat):Int))):=by
     unfold q5b;dsimp only
     rw[ifP (by omega),hx,bsS,hp1,bsS,j7r,hy1,bsS,q3P (by constructor<;>omega)];rfl
    rw[q4G e];exact h2
 obtain⟨l,h1,h2,h3⟩:=key (r.Right.length+1) 0 [] (by omega) (by simp)
 refine⟨l,?_,?_,by omega⟩
 ·unfold q5D
  have e:q5s (q5b g r) (([]:List Oc),0)=some l:=h2
  rw[e];rfl
 ·unfold q4X
  rw[q3P (by constructor<;>omega),h1];rfl
theorem k2l {g:Gm_}{r:Rule}(k:Int)(h:∀ y∈g.Symbols,y.Attributes.length≤1048576)(hr:r.Right.length≤1048576):∃ l,q5U g r k=some l∧q4U g r k=some l∧l.length≤1099512676352:=by
 obtain⟨o,h1,h2,h3⟩:=z9p h hr
 obtain⟨l,h4,h5⟩:=q9J (p:=fun x:Oc=>decide (x.Pos=k)) (g:=fun i _=>((i:Nat):Int)) (B:=4398046511104) (f:=q5H k) (fun i x s hs=>by
  have hg:((s.length:Int)+1)*8≤140737488355328∧(s.length:Int)+1≤9223372036854775807:=by constructor<;>omega
  unfold q5H
  rw[q3P hg]
  by_cases m1:x.Pos=k
  ·rw[ifP m1,ifP (by simp[m1])];rfl
  ·rw[ifN m1,ifN (by simp[m1])];rfl) o 0 [] (by simp;omega)
 simp only[List.nil_append] at h4
 refine⟨l,?_,?_,by omega⟩
 ·unfold q5U;rw[h1];dsimp only[bsS];rw[h4];rfl
 ·unfold q4U;rw[h2];dsimp only[bsS];rw[z6g,h4];rfl
theorem j3p {α:Type}[Sz α]{x:α}:∀ {l:List α},x∈l→Sz.szd x≤szL l
 | [],h=>by simp at h
 | y::l,h=>by
  rcases List.mem_cons.1 h with rfl|h
  ·simp only[szL];omega
  ·have:=j3p h;simp only[szL];omega
theorem z0A {g:Gm_}(h:Sz.szd g≤1048576):∀ y∈g.Symbols,y.Attributes.length≤1048576:=fun y hy=>by
 have h1:=j3p hy
 have h2:=j1W y
 have h3:=z4n g
 have h4:=q7f y.Attributes
 omega
theorem q7C {r:Rule}(h:Sz.szd r≤1048576):r.Right.length≤1048576:=by
 have h1:=z7u r
 have h2:=q7f r.Right
 omega
theorem z8K {α σ:Type}{f:Nat→α→σ→Option σ}:∀ (xs ys:List α) (i:Nat) (s:σ),eachL f i (xs++ys) s=(eachL f i xs s).bind fun t=>eachL f (i+xs.length) ys t
 | [],ys,i,s=>rfl
 | x::xs,ys,i,s=>by
  simp only[List.cons_append,eachL]
  cases f i x s with
  | none=>rfl
  | some t=>simp only[bsS];rw[z8K xs ys (i+1) t,lnC,show i+1+xs.length=i+(xs.length+1) by omega]
theorem z5D (k:Nat):∀ (l:List At_) (i:Nat) (s:List Oc),s.length+l.length≤4398046511104→eachL (q5N k) i l s=some (s++l.map fun x=>(⟨(k:Int),x.Name⟩:Oc))
 | [],i,s,_=>by simp[eachL]
 | x::l,i,s,h=>by
  simp only[lnC] at h
  have hg:((s.length:Int)+1)*24≤140737488355328∧(s.length:Int)+1≤9223372036854775807:=by constructor<;>omega
  have e:q5N k i x s=some (s++[(⟨(k:Int),x.Name⟩:Oc)]):=by unfold q5N;rw[q3P hg]
  simp only[eachL,e,bsS]
  rw[z5D k l (i+1) _ (by simp;omega)];simp
theorem k4m {g:Gm_}{r:Rule}(h:∀ y∈g.Symbols,y.Attributes.length≤1048576)(hr:r.Right.length≤1048576){l:List At_}{o:List Oc}(hl:q4v g r.Left=some l)(ho:q4X g r=some o) :
  ∃ ys,o=(l.map fun x=>(⟨0,x.Name⟩:Oc))++ys:=by
 have key:∀ m k (s:List Oc),k+m=r.Right.length+1→s.length≤k*1048576→∀ q,eachN (q4r g r) k m s=some q→∃ ys,q=s++ys:=by
  intro m
  induction m with
  | zero=>intro k s _ _ q hq;cases hq;exact⟨[],by simp⟩
  | succ m ih=>
   intro k s hk hs q hq
   obtain⟨x,hx⟩:=j2f r k (by omega) hr
   obtain⟨p,hp1,hp2,hp3⟩:=z3O h x
   have hy:=z5D k p 0 s (by omega)
   have e:q4r g r k s=some (s++p.map fun x=>(⟨(k:Int),x.Name⟩:Oc)):=by
    unfold q4r;rw[z8j,hx,bsS,hp2,bsS,hy];rfl
   simp only[eachN,e,bsS] at hq
   obtain⟨ys,hys⟩:=ih (k+1) _ (by omega) (by simp;omega) q hq
   exact⟨_,by rw[hys,List.append_assoc]⟩
 unfold q4X at ho
 rw[q3P (by constructor<;>omega)] at ho
 have e1:eachN (q4r g r) 0 (r.Right.length+1) []=some o:=by
  cases hq:eachN (q4r g r) 0 (r.Right.length+1) [] with
  | none=>rw[hq] at ho;cases ho
  | some q=>rw[hq] at ho;exact ho
 have hl3:l.length≤1048576:=by
  obtain⟨p,_,h2,h3⟩:=z3O h r.Left
  rw[hl] at h2;cases h2;exact h3
 have hx:q6U r ((0:Nat):Int)=some r.Left:=by unfold q6U;exact ifP rfl
 have e:q4r g r 0 []=some ([]++l.map fun x=>(⟨((0:Nat):Int),x.Name⟩:Oc)):=by
  unfold q4r;rw[hx,bsS,hl,bsS,z5D 0 l 0 [] (by simp;omega)];rfl
 simp only[eachN,e,bsS] at e1
 obtain⟨ys,hys⟩:=key r.Right.length 1 _ (by omega) (by simp;omega) o e1
 exact⟨ys,by simpa using hys⟩
theorem k0q:∀ (xs:List Oc) (i:Nat) (s:List Int),s.length+xs.length≤4398046511104→(∀ x∈xs,x.Pos=0)→eachL (q4V 0) i xs s=some (s++(List.range' i xs.length).map fun (j:Nat)=>(j:Int))
 | [],i,s,_,_=>by simp[eachL]
 | x::xs,i,s,h,h0=>by
  simp only[lnC] at h
  have hg:((s.length:Int)+1)*8≤140737488355328∧(s.length:Int)+1≤9223372036854775807:=by constructor<;>omega
  have e:q4V 0 i x s=some (s++[(i:Int)]):=by
   unfold q4V;rw[ifP (h0 x (by simp)),q3P hg];rfl
  simp only[eachL,e,bsS]
  rw[k0q xs (i+1) _ (by simp;omega) fun y hy=>h0 y (by simp[hy])]
  simp[List.range'_succ]
theorem k4n {g:Gm_}{r:Rule}(h:∀ y∈g.Symbols,y.Attributes.length≤1048576)(hr:r.Right.length≤1048576){l:List At_}{y:List Int}(hl:q4v g r.Left=some l)(hy:q4U g r 0=some y):∀ k:Nat,k<l.length→y[k]?=some (k:Int):=by
 obtain⟨o,_,ho,ho3⟩:=z9p h hr
 obtain⟨ys,hys⟩:=k4m h hr hl ho
 have hl3:l.length≤1048576:=by
  obtain⟨p,_,h2,h3⟩:=z3O h r.Left
  rw[hl] at h2;cases h2;exact h3
 unfold q4U at hy
 rw[ho,bsS] at hy
 have hy' : eachL (q4V 0) 0 o []=some y:=by
  cases hq:eachL (q4V 0) 0 o [] with
  | none=>rw[hq] at hy;cases hy
  | some q=>rw[hq] at hy;exact hy
 have hlen:=congrArg List.length hys
 simp only[List.length_append,lnM] at hlen
 rw[hys,z8K,k0q _ 0 [] (by simp;omega) (by intro x hx;obtain⟨a,_,rfl⟩:=List.mem_map.1 hx;rfl),bsS] at hy'
 obtain⟨zs,h4,h5⟩:=q9J (p:=fun x:Oc=>decide (x.Pos=0)) (g:=fun i _=>((i:Nat):Int)) (B:=4398046511104) (f:=q4V 0) (fun i x s hs=>by
  have hg:((s.length:Int)+1)*8≤140737488355328∧(s.length:Int)+1≤9223372036854775807:=by constructor<;>omega
  unfold q4V
  rw[q3P hg]
  by_cases m1:x.Pos=0
  ·rw[ifP m1,ifP (by simp[m1])];rfl
  ·rw[ifN m1,ifN (by simp[m1])];rfl) ys (0+(l.map fun x=>(⟨0,x.Name⟩:Oc)).length) ([]++(List.range' 0 (l.map fun x=>(⟨0,x.Name⟩:Oc)).length).map fun (j:Nat)=>(j:Int)) (by simp;omega)
 rw[h4] at hy'
 cases hy'
 intro k hk
 rw[List.getElem?_append_left (by simpa using hk)]
 simp[hk]
theorem z8l {α σ:Type}{P:σ→Prop}{f g:Nat→α→σ→Option σ}:∀ (xs:List α) (i:Nat) (s:σ),P s→(∀ k x s,k<i+xs.length→x∈xs→P s→∃ s',f k x s=some s'∧g k x s=some s'∧P s')→∃ s',eachL f i xs s=some s'∧eachL g i xs s=some s'∧P s'
 | [],i,s,hs,_=>⟨s,rfl,rfl,hs⟩
 | x::xs,i,s,hs,h=>by
  obtain⟨t,h1,h2,h3⟩:=h i x s (by simp) (by simp) hs
  obtain⟨u,h4,h5,h6⟩:=z8l xs (i+1) t h3 fun k y s hk hy=>h k y s (by simp;omega) (by simp[hy])
  exact⟨u,by simp only[eachL,h1,bsS,h4],by simp only[eachL,h2,bsS,h5],h6⟩
theorem j4R {g:Gm_}{r:Rule}{c:Rl_}(h:∀ y∈g.Symbols,y.Attributes.length≤1048576)(hr:r.Right.length≤1048576):∃ x,q5x g r c=some x∧q9G g r c=some x∧x.Rows.length≤16:=by
 obtain⟨l,l1,l2,l3⟩:=z3O h r.Left
 obtain⟨y,_,y2,_⟩:=k2l 0 h hr
 have hy:=k4n h hr l2 y2
 obtain⟨e,e1,e2⟩:=j8H l.length
 have step:∀ k1 x1,k1<l.length→∀ k2 x2 s,k2<l.length→s.1.length≤16→∃ s',q6F c k1 x1 k2 x2 s=some s'∧z1M c y k1 x1 k2 x2 s=some s'∧s'.1.length≤16:=by
  intro k1 x1 hk1 k2 x2 ⟨s3,s4⟩ hk2 hs
  dsimp only at hs
  obtain⟨z,z1,z2⟩:=j7o (r:=⟨s4,s3⟩) (by show s3.length≤_;omega) (k1:Int) (k2:Int)
  unfold q6F z1M
  rw[k2k,j3n,hy k1 hk1,hy k2 hk2]
  simp only[bsS,q8K,z1,decide_eq_true_eq]
  by_cases m1:x1.Mode=1
  ·by_cases m2:x2.Mode=2
   ·by_cases m3:hasP c (k1:Int) (k2:Int)
    ·simp only[m1,m2,m3,if_true,decide_true,bsS];exact⟨_,rfl,rfl,by rw[z2];exact hs⟩
    ·simp only[m1,m2,m3,if_true,if_false,decide_true,decide_false,bsS];exact⟨_,rfl,rfl,hs⟩
   ·simp[m1,m2,hs]
  ·simp[m1,hs]
 obtain⟨⟨s1,s2⟩,h1,h2,h3⟩:=z8l (P:=fun s:List Int×Int=>s.1.length≤16) (f:=q6G c l) (g:=z4h c l y) l 0 (e.Rows,e.N) e2 fun k x s hk _ hs=>by
  obtain⟨s',t1,t2,t3⟩:=z8l (P:=fun s:List Int×Int=>s.1.length≤16) (f:=q6F c k x) (g:=z1M c y k x) l 0 s hs fun k2 x2 s hk2 _ hs=>step k x (by omega) k2 x2 s (by omega) hs
  obtain⟨s3,s4⟩:=s
  exact⟨s',by unfold q6G;dsimp only;rw[t1];rfl,by unfold z4h;dsimp only;rw[t2];rfl,t3⟩
 refine⟨⟨s2,s1⟩,?_,?_,h3⟩
 ·unfold q5x;rw[l1,bsS,e1,bsS,h1];rfl
 ·unfold q9G;rw[l2,bsS,y2,bsS,z8h,e1,bsS,h2];rfl
theorem k4o:∀ (n:Nat) (e q:Expr),q6Y n e=some q→q6Y (n+1) e=some q:=by
 intro n
 induction n with
 | zero=>intro e q h;cases h
 | succ n ih=>
  intro e q h
  have h' : z0i (q6Y n) e=some q:=h
  show z0i (q6Y (n+1)) e=some q
  unfold z0i at h' ⊢
  obtain⟨s,h1,h2⟩:=bd h'
  rw[z8f (g:=z1V (q6Y (n+1))) (fun k x s q hq=>by
   unfold z1V at hq ⊢
   obtain⟨y,h3,h4⟩:=bd hq
   rw[ih _ _ h3,bsS];exact h4) _ _ _ _ h1]
  exact h2
theorem j8J:∀ (m:Nat) (e:Expr),fuE e≤m→Sz.szd e≤1048576→q6Y m e=some e:=by
 intro m
 induction m with
 | zero=>intro e h;rw[z8H] at h;omega
 | succ m ih=>
  intro e h hs
  rw[z8H] at h
  have hl:∀ (l:List Expr) (i:Nat) (s:List Expr),(∀ x∈l,fuE x≤m∧Sz.szd x≤1048576)→s.length+l.length≤4398046511→eachL (z1V (q6Y m)) i l s=some (s++l):=by
   intro l
   induction l with
   | nil=>intro i s _ _;simp[eachL]
   | cons x l ihl=>
    intro i s hx hb
    simp only[lnC] at hb
    have h1:=ih x (hx x (by simp)).1 (hx x (by simp)).2
    have e1:z1V (q6Y m) i x s=some (s++[x]):=by
     unfold z1V;rw[h1,bsS,q3P (by constructor<;>omega)]
    simp only[eachL,e1,bsS]
    rw[ihl _ _ (fun y hy=>hx y (by simp[hy])) (by simp;omega)];simp
  show z0i (q6Y m) e=some e
  unfold z0i
  have h2:=q6o e
  have h3:=q7f e.Args
  rw[hl e.Args 0 [] (fun x hx=>⟨by have:=j3e hx;omega,by have:=k3f hx;omega⟩) (by simp;omega),List.nil_append,bsS]
  cases e;rfl
theorem k4p {e:Expr}(h:Sz.szd e≤1048576):z7j e=some e:=k0c (fun n q=>k4o n e q) (j8J _ e (Nat.le_refl _) h)
theorem j8K:z6r=z7j:=by
 have h:∀ n,z0L n=q6Y n:=by
  intro n
  induction n with
  | zero=>rfl
  | succ n ih=>funext e;show z4g (z0L n) e=z0i (q6Y n) e;rw[ih];rfl
 funext e
 show recO (fun n=>z0L n e)=recO fun n=>q6Y n e
 congr 1;funext n;rw[h]
def j6k:Expr:=⟨0,0,0,0,⟨#[]⟩,⟨#[]⟩,[]⟩
def eqAt (r:Rule)(o:Oc):Expr×Bool:=match r.Equations.find? fun q=>decide (q.At=o) with
 | some q=>(q.Expr,true)
 | none=>(j6k,false)
theorem z6J {r:Rule}{q:Eqn}(h:q∈r.Equations):Sz.szd q.Expr≤Sz.szd r:=by
 have h1:=z7u r
 have h2:=z8G q
 have h3:=z7x h
 have h4:=q6o q.Expr
 omega
theorem k4q {r:Rule}(h:Sz.szd r≤1048576)(o:Oc):Sz.szd (eqAt r o).1≤1048576:=by
 unfold eqAt
 cases hf:r.Equations.find? (fun q=>decide (q.At=o)) with
 | none=>show Sz.szd j6k≤_;have:Sz.szd j6k=0:=rfl;omega
 | some q=>have:=z6J (List.mem_of_find?_eq_some hf);show Sz.szd q.Expr≤_;omega
theorem j3q {r:Rule}(h:Sz.szd r≤1048576)(o:Oc):q5z r o=some (eqAt r o):=by
 have key:∀ (l:List Eqn) (i:Nat),(∀ q∈l,Sz.szd q.Expr≤1048576)→findL (q7l o) i l ()=some (match l.find? fun q=>decide (q.At=o) with
   | some q=>.inr (q.Expr,true)
   | none=>.inl ()):=by
  intro l
  induction l with
  | nil=>intro i _;rfl
  | cons q l ih=>
   intro i hq
   by_cases hp:q.At=o
   ·simp[findL,q7l,hp,k4p (hq q (by simp))]
   ·simp[findL,q7l,hp]
    exact ih _ fun y hy=>hq y (by simp[hy])
 unfold q5z eqAt
 rw[key _ _ fun q hq=>by have:=z6J hq;omega]
 cases r.Equations.find? (fun q=>decide (q.At=o))<;>rfl
theorem k4r {r:Rule}(h:Sz.szd r≤1048576)(o:Oc):q5z r o=some (eqAt r o)∧q7H r o=some (eqAt r o):=by
 have e:q7H=q5z:=by
  have e1:z1B=q7l:=by funext a k x u;unfold z1B q7l;rw[j8K]
  funext r o;unfold q7H q5z;rw[e1]
 rw[e]
 exact⟨j3q h o,j3q h o⟩
theorem j8L:q7t=q5T:=by
 funext l o
 unfold q7t q5T q4q
 have e:q9y o=q4F o:=by
  funext k x u
  unfold q9y q4F
  by_cases h:x=o
  ·rw[ifP h,ifP h.symm]
  ·rw[ifN h,ifN fun e=>h e.symm]
 rw[e]
 cases ((findL (q4F o) 0 l ()).bind <| onr (fun r1=>some r1) fun _=>some (-1))<;>rfl
theorem j8M (l:List Oc)(o:Oc):∃ k,q5T l o=some k:=by
 have h:q4q l o=some (ixF l o):=by
  unfold q4q
  refine j9N fun k x=>⟨fun e=>?_,fun e=>?_⟩
  ·unfold q4F;rw[ifP e.symm]
  ·unfold q4F;rw[ifN (fun h=>e h.symm)]
 exact⟨_,by unfold q5T;rw[h];rfl⟩
theorem k5L {r x:Rl_}{i k:Int}(h:q6M r i k=some x):x.N=r.N:=by
 unfold q6M at h
 obtain⟨y,h1,h⟩:=bd h
 have hy:y=r:=by unfold q8q at h1;obtain⟨_,h1⟩:=z3X h1;exact (Option.some.inj h1).symm
 subst hy
 obtain⟨y2,_,h⟩:=bd h
 obtain⟨s1,_,h⟩:=bd h
 obtain⟨s2,_,h⟩:=bd h
 by_cases hs:s2=true
 ·rw[ifP hs] at h
  obtain⟨_,h⟩:=z3X h
  obtain⟨_,_,h⟩:=bd h
  obtain⟨_,h⟩:=z3X h
  obtain⟨_,h⟩:=z3X h
  obtain⟨_,h⟩:=z3X h
  cases h;rfl
 ·rw[ifN hs] at h
  cases h;rfl
theorem k2m (l:List Oc)(k:Nat):∀ (us:List Oc) (i:Nat) (rows:List Int) (n:Int),rows.length≤1048576 →
  ∃ rows',eachL (q8N l k) i us (rows,n)=some (rows',n)∧eachL (q7K l (k:Int)) i us (rows,n)=some (rows',n)∧rows'.length=rows.length:=by
 intro us
 induction us with
 | nil=>intro i rows n _;exact⟨rows,rfl,rfl,rfl⟩
 | cons u us ih=>
  intro i rows n h
  obtain⟨j,hj⟩:=j8M l u
  obtain⟨x,hx,hxl⟩:=j7o (r:=⟨n,rows⟩) h j (k:Int)
  have hN:=k5L hx
  obtain⟨rows',h1,h2,h3⟩:=ih (i+1) x.Rows n (by rw[hxl];exact h)
  have e1:q8N l k i u (rows,n)=some (x.Rows,n):=by
   unfold q8N
   dsimp only
   rw[hj,bsS,j3n,hx,bsS,hN]
  have e2:q7K l (k:Int) i u (rows,n)=some (x.Rows,n):=by
   unfold q7K
   dsimp only
   rw[j8L,hj,bsS,hx,bsS,hN]
  exact⟨rows',by simp only[eachL,e1,bsS];exact h1,by simp only[eachL,e2,bsS];exact h2,h3.trans hxl⟩
theorem j8N:attrs j6k=[]:=by
 have:z4o j6k=[]:=by simp[j6k,z4o,z0x]
 unfold attrs j4n
 rw[this];simp[q5a]
theorem k0r {r:Rule}(hr:Sz.szd r≤1048576)(l:List Oc)(hl:l.length≤16):∀ (m k:Nat) (rows:List Int) (n:Int),k+m=l.length→0<n→rows.length≤1048576 →
  ∃ rows',eachL (q8O r l) k (l.drop k) (rows,n)=some (rows',n)∧q5s (q5c r l) ((k:Int),rows,n)=some (rows',n)∧rows'.length=rows.length:=by
 intro m
 induction m with
 | zero=>
  intro k rows n hk hn h
  refine⟨rows,by rw[List.drop_eq_nil_of_le (by omega)];rfl,q3U ?_,rfl⟩
  unfold q5c
  dsimp only
  rw[ifN (by omega)]
 | succ m ih=>
  intro k rows n hk hn h
  obtain⟨x,hx⟩:∃ x,l[k]?=some x:=⟨_,List.getElem?_eq_getElem (by omega)⟩
  have hd:l.drop k=x::l.drop (k+1):=by
   rw[List.drop_eq_getElem_cons (by omega)]
   have:l[k]=x:=by rw[List.getElem?_eq_getElem (by omega)] at hx;exact Option.some.inj hx
   rw[this]
  obtain⟨E,B,hq⟩:∃ E B,eqAt r x=(E,B):=⟨_,_,rfl⟩
  obtain⟨rows1,h1,h2,h3⟩:=k2m l k (attrs E) 0 rows n h
  obtain⟨rows',k1,k2,k3⟩:=ih (k+1) rows1 n (by omega) hn (by omega)
  have hsz:=k4q hr x
  have hf:=k4r hr x
  rw[hq] at hsz hf
  have e1:q8O r l k x (rows,n)=some (rows1,n):=by
   unfold q8O
   dsimp only
   rw[hf.2,bsS]
   dsimp only
   rw[j7i hsz,bsS,h1];rfl
  have hin:(grd (0≤(k:Int)) <| (l[(k:Int).toNat]?).bind fun x1=>(q5z r x1).bind fun (y3,y4)=>if y4=true then ((q6u y3).bind fun y5=>(eachL (q7K l (k:Int)) 0 y5 (rows,n)).bind fun (s8,s9)=>some (s8,s9)) else some (rows,n))=some (rows1,n):=by
   rw[q3P (by omega),tnC,hx,bsS,hf.1,bsS]
   dsimp only
   cases hb:B with
   | true=>rw[ifP rfl,j7l hsz,bsS,h2,bsS]
   | false=>
    have hz:E=j6k:=by
     unfold eqAt at hq
     cases hf:r.Equations.find? (fun q=>decide (q.At=x)) with
     | none=>rw[hf] at hq;cases hq;rfl
     | some q=>rw[hf] at hq;cases hq;cases hb
    rw[hz,j8N] at h1
    simp only[eachL,Option.some.injEq,Prod.mk.injEq] at h1
    rw[ifN (by simp),h1.1]
  have e2:q5c r l ((k:Int),rows,n)=some (.inl (((k+1:Nat):Int),rows1,n)):=by
   unfold q5c
   dsimp only
   rw[ifP (by omega),ifP hn,hin,bsS]
   dsimp only
   rw[q3P (by constructor<;>omega)];rfl
  exact⟨rows',by rw[hd];simp only[eachL,e1,bsS];exact k1,by rw[q4G e2];exact k2,k3.trans h3⟩
theorem j8O {g:Gm_}{r:Rule}(h:Sz.szd g≤1048576)(hr:Sz.szd r≤1048576):∃ x,q6v g r=some x∧q7j g r=some x∧x.Rows.length≤16:=by
 obtain⟨l,h1,h2,_⟩:=z9p (z0A h) (q7C hr)
 have hem:∀ n:Nat,q4I (n:Int)=if n≤16 then some ⟨(n:Int),List.replicate n 0⟩ else some ⟨0,[]⟩:=fun n=>by
  unfold q4I
  rw[q8Y,bsS]
  by_cases hn:n≤16
  ·rw[ifP (by simp;omega),q3P (by omega),ifP hn];rfl
  ·rw[ifN (by simp;omega),ifN hn]
 unfold q6v q7j
 rw[h1,h2,bsS,bsS,z8h,hem]
 by_cases hl:l.length≤16
 ·rw[ifP hl,bsS,bsS,ifN (by omega)]
  dsimp only
  by_cases h0:l.length=0
  ·have:l=[]:=List.eq_nil_of_length_eq_zero h0
   subst this
   have e:q5s (q5c r ([]:List Oc)) (0,List.replicate ([]:List Oc).length 0,((([]:List Oc).length:Nat):Int))=some (List.replicate ([]:List Oc).length 0,((([]:List Oc).length:Nat):Int)):=q3U (by unfold q5c;dsimp only;rw[ifN (by simp)])
   rw[e]
   exact⟨_,rfl,rfl,by simp⟩
  ·obtain⟨rows',k1,k2,k3⟩:=k0r hr l hl l.length 0 (List.replicate l.length 0) (l.length:Int) (by omega) (by omega) (by simp;omega)
   have k2' : q5s (q5c r l) (0,List.replicate l.length 0,(l.length:Int))=some (rows',(l.length:Int)):=k2
   rw[List.drop_zero] at k1
   rw[k1,k2']
   exact⟨_,rfl,rfl,by show rows'.length≤16;simp at k3;omega⟩
 ·rw[ifN hl,bsS,bsS,ifP (by omega)]
  have e:q5s (q5c r l) (0,([]:List Int),(0:Int))=some ([],0):=q3U (by unfold q5c;dsimp only;rw[ifP (by omega),ifN (by omega)])
  rw[e]
  exact⟨_,rfl,rfl,by simp⟩
theorem z3P {α β:Type}{p:α→Bool}{g:α→β}{B:Nat}{f:Nat→α→List β→Option (List β)}(hf:∀ k x s,s.length<B→f k x s=some (if p x=true then s++[g x] else s)):∀ (xs:List α) (i:Nat) (s:List β),s.length+xs.length≤B →
  eachL f i xs s=some (s++(xs.filter p).map g)
 | [],i,s,_=>by simp[eachL]
 | x::xs,i,s,h=>by
  simp only[lnC] at h
  by_cases hp:p x=true
  ·have ih:=z3P hf xs (i+1) (s++[g x]) (by simp;omega)
   simp[eachL,hf i x s (by omega),hp,ih]
  ·have ih:=z3P hf xs (i+1) s (by omega)
   simp[eachL,hf i x s (by omega),hp,ih]
theorem j0H {α β:Type}{p:α→Bool}{g:Nat→β}{B:Nat}{f:Nat→α→List β→Option (List β)}(hf:∀ k x s,s.length<B→f k x s=some (if p x=true then s++[g k] else s)):∀ (xs:List α) (i:Nat) (s:List β),s.length+xs.length≤B →
  eachL f i xs s=some (s++((xs.zipIdx i).filter fun q=>p q.1).map fun q=>g q.2)
 | [],i,s,_=>by simp[eachL]
 | x::xs,i,s,h=>by
  simp only[lnC] at h
  by_cases hp:p x=true
  ·have ih:=j0H hf xs (i+1) (s++[g i]) (by simp;omega)
   simp[eachL,hf i x s (by omega),hp,ih,List.zipIdx_cons]
  ·have ih:=j0H hf xs (i+1) s (by omega)
   simp[eachL,hf i x s (by omega),hp,ih,List.zipIdx_cons]
theorem z8m {β:Type}{h:Nat→List β}{C n:Nat}{f:Nat→List β→Option (List β)}(hf:∀ k s,k<n→s.length≤k*C→f k s=some (s++h k))(hh:∀ k,k<n→(h k).length≤C) :
  ∀ (m k:Nat) (s:List β),k+m=n→s.length≤k*C→eachN f k m s=some (s++(List.range' k m).flatMap h)
 | 0,k,s,_,_=>by simp[eachN]
 | m+1,k,s,hk,hs=>by
  have hl:=hh k (by omega)
  have e:(k+1)*C=k*C+C:=Nat.succ_mul k C
  have ih:=z8m hf hh m (k+1) (s++h k) (by omega) (by rw[List.length_append];omega)
  simp[eachN,hf k s (by omega) hs,ih,List.range'_succ]
theorem j0I {β:Type}{h:Nat→List β}{C n:Nat}{f:(List β×Int)→Option ((List β×Int) ⊕ List β)}(hf:∀ (k:Nat) s,k<n→s.length≤k*C→f (s,(k:Int))=some (.inl (s++h k,((k+1:Nat):Int))))(he:∀ s,f (s,(n:Int))=some (.inr s))(hh:∀ k,k<n→(h k).length≤C) :
  ∀ (m k:Nat) (s:List β),k+m=n→s.length≤k*C→q5s f (s,(k:Int))=some (s++(List.range' k m).flatMap h)
 | 0,k,s,hk,_=>by
  obtain rfl:k=n:=by omega
  rw[q3U (he s)];simp
 | m+1,k,s,hk,hs=>by
  have hl:=hh k (by omega)
  have e:(k+1)*C=k*C+C:=Nat.succ_mul k C
  have ih:=j0I hf he hh m (k+1) (s++h k) (by omega) (by rw[List.length_append];omega)
  rw[q4G (hf k s (by omega) hs),ih];simp[List.range'_succ]
abbrev GOk (g:Gm_):Prop:=∀ y∈g.Symbols,y.Attributes.length≤1048576
def zS:Symbol:=⟨⟨#[]⟩,[]⟩
def zA:At_:=⟨⟨#[]⟩,0,0,false⟩
def q6l (g:Gm_)(s:ByteArray):Symbol×Bool:=match g.Symbols.find? fun y=>decide (y.Name=s) with
 | some y=>(y,true)
 | none=>(zS,false)
def z2z (y:Symbol)(s:ByteArray):At_×Bool:=match y.Attributes.find? fun a=>decide (a.Name=s) with
 | some a=>(a,true)
 | none=>(zA,false)
theorem z1A {g:Gm_}(h:GOk g)(s:ByteArray):q5h g s=some (q6l g s):=by
 have h1:=z1b (p:=fun y:Symbol=>decide (y.Name=s)) (r:=fun y=>(y,true)) (xs:=g.Symbols) (i:=0) (f:=q9h s) fun k y hy=>by
  have hg:q8E y=some y:=by
   unfold q8E;have:=h y hy;rw[q3P (by simp only[List.length_nil];constructor<;>omega)]
  unfold q9h;rw[hg];constructor<;>intro hp<;>simp_all
 unfold q5h q6l
 rw[h1]
 cases hf:g.Symbols.find? (fun y:Symbol=>decide (y.Name=s)) with
 | none=>rfl
 | some y=>rfl
theorem z2A (g:Gm_)(s:ByteArray):q5C g s=some (q6l g s):=by
 have h2:=z1b (p:=fun y:Symbol=>decide (y.Name=s)) (r:=fun y=>(y,true)) (xs:=g.Symbols) (i:=0) (f:=q9n s) fun k y hy=>by
  unfold q9n;constructor<;>intro hp<;>simp_all
 unfold q5C q6l
 rw[h2]
 cases hf:g.Symbols.find? (fun y:Symbol=>decide (y.Name=s)) with
 | none=>rfl
 | some y=>rfl
theorem z2B {g:Gm_}(h:GOk g)(s:ByteArray):(q6l g s).1.Attributes.length≤1048576:=by
 unfold q6l
 cases hf:g.Symbols.find? (fun y:Symbol=>decide (y.Name=s)) with
 | none=>simp[zS]
 | some y=>exact h y (List.mem_of_find?_eq_some hf)
theorem z7B (y:Symbol)(s:ByteArray):q6s y s=some (z2z y s):=by
 have h2:=z1b (p:=fun y:At_=>decide (y.Name=s)) (r:=fun y=>(y,true)) (xs:=y.Attributes) (i:=0) (f:=z0I s) fun k y hy=>by
  unfold z0I;constructor<;>intro hp<;>simp_all
 unfold q6s z2z
 rw[h2]
 cases hf:y.Attributes.find? (fun y:At_=>decide (y.Name=s)) with
 | none=>rfl
 | some y=>rfl
theorem j0J (y:Symbol)(s:ByteArray):q5B y s=some (z2z y s):=z7B y s
def q8n (r:Rule)(k:Int):ByteArray:=if k=0 then r.Left else if 1≤k∧k≤(r.Right.length:Int) then r.Right.getD (k-1).toNat ⟨#[]⟩ else ⟨#[]⟩
abbrev ROk (r:Rule):Prop:=r.Right.length≤1048576
theorem z4s {r:Rule}(hl:ROk r)(k:Int):q5w r k=some (q8n r k):=by
 unfold q5w q8n
 by_cases h0:k=0
 ·rw[ifP h0,ifP h0]
 ·rw[ifN h0,ifN h0,z5C,bsS]
  by_cases h1:1≤k∧k≤(r.Right.length:Int)
  ·rw[ifP (by simpa using h1),ifP h1,q3P (by constructor<;>omega),q3P (by omega)]
   have:(k-1).toNat<r.Right.length:=by omega
   rw[List.getElem?_eq_getElem this,List.getD_eq_getElem?_getD,List.getElem?_eq_getElem this];rfl
  ·rw[ifN (by simpa using h1),ifN h1]
theorem j0K {r:Rule}(hl:ROk r)(k:Int):q6U r k=some (q8n r k):=by rw[z8j,z4s hl]
def z0E (g:Gm_)(r:Rule)(o:Oc):At_×Bool:=if 0≤o.Pos∧o.Pos≤(r.Right.length:Int) then z2z (q6l g (q8n r o.Pos)).1 o.Name else (zA,false)
theorem z8n (g:Gm_){r:Rule}(hl:ROk r)(o:Oc):q7x g r o=some (z0E g r o):=by
 unfold q7x z0E
 rw[z8J,bsS]
 by_cases h0:0≤o.Pos∧o.Pos≤(r.Right.length:Int)
 ·rw[ifP (by simpa using h0),ifP h0,j0K hl,bsS,z2A,bsS]
  dsimp only
  rw[z7B];rfl
 ·rw[ifN (by simpa using h0),ifN h0];rfl
def mayB (g:Gm_)(r:Rule)(o:Oc):Bool:=(z0E g r o).2&&decide ((z0E g r o).1.Mode=if o.Pos=0 then 1 else 2)
theorem k4s (g:Gm_){r:Rule}(hl:ROk r)(o:Oc):z5j g r o=some (mayB g r o):=by
 unfold z5j mayB
 rw[z8n g hl,bsS]
 dsimp only
 by_cases h0:o.Pos=0
 ·rw[ifP h0,ifP h0]
  by_cases h1:(z0E g r o).2=true
  ·rw[ifP h1,h1];rfl
  ·rw[ifN h1,Bool.eq_false_iff.2 h1];rfl
 ·rw[ifN h0,ifN h0]
  by_cases h1:(z0E g r o).2=true
  ·rw[ifP h1,h1];rfl
  ·rw[ifN h1,Bool.eq_false_iff.2 h1];rfl
theorem k4t {g:Gm_}(h:GOk g){r:Rule}(hl:ROk r)(o:Oc):z5o g r o=some (mayB g r o):=by
 unfold z5o mayB z0E
 rw[z5C,bsS]
 by_cases hp:0≤o.Pos∧o.Pos≤(r.Right.length:Int)
 ·rw[ifP (by simpa using hp),ifP hp,z4s hl,bsS,z1A h,bsS]
  dsimp only
  rw[j0J,bsS]
  skip
  by_cases h0:o.Pos=0
  ·rw[ifP h0,ifP h0]
   by_cases h1:(z2z (q6l g (q8n r o.Pos)).1 o.Name).2=true
   ·rw[ifP h1,h1];rfl
   ·rw[ifN h1,Bool.eq_false_iff.2 h1];rfl
  ·rw[ifN h0,ifN h0]
   by_cases h1:(z2z (q6l g (q8n r o.Pos)).1 o.Name).2=true
   ·rw[ifP h1,h1];rfl
   ·rw[ifN h1,Bool.eq_false_iff.2 h1];rfl
 ·rw[ifN (by simpa using hp),ifN hp];rfl
def reqK (g:Gm_)(r:Rule)(k:Nat):List Oc:=((q6l g (q8n r (k:Int))).1.Attributes.filter fun a=>decide (a.Mode=if (k:Int)=0 then 2 else 1)).map fun a=>(⟨(k:Int),a.Name⟩:Oc)
def reqL (g:Gm_)(r:Rule):List Oc:=(List.range' 0 (r.Right.length+1)).flatMap (reqK g r)
theorem j7s {g:Gm_}(h:GOk g)(r:Rule)(k:Nat):(reqK g r k).length≤1048576:=by
 unfold reqK;rw[lnM]
 exact Nat.le_trans (List.length_filter_le _ _) (z2B h _)
theorem k0s {g:Gm_}(h:GOk g){r:Rule}(hl:ROk r):z0H g r=some (reqL g r):=by
 have hl' : r.Right.length≤1048576:=hl
 have key:=z8m (h:=reqK g r) (C:=1048576) (n:=r.Right.length+1) (f:=z5i g r) (fun k s hk hs=>by
  have hin:∀ m:Int,eachL (z5h k m) 0 (q6l g (q8n r (k:Int))).1.Attributes s=some (s++((q6l g (q8n r (k:Int))).1.Attributes.filter fun a=>decide (a.Mode=m)).map fun a=>(⟨(k:Int),a.Name⟩:Oc)):=fun m=>
   z3P (B:=4398046511104) (fun j x s hs=>by
    unfold z5h
    by_cases hm:x.Mode=m
    ·rw[ifP hm,ifP (by simpa using hm),q3P (by constructor<;>omega)];rfl
    ·rw[ifN hm,ifN (by simpa using hm)];rfl) _ 0 s (by have:=z2B h (q8n r (k:Int));omega)
  unfold z5i reqK
  by_cases h0:(k:Int)=0
  ·rw[ifP h0,ifP h0,bsS,j0K hl,bsS,z2A,bsS]
   dsimp only
   rw[hin];rfl
  ·rw[ifN h0,ifN h0,bsS,j0K hl,bsS,z2A,bsS]
   dsimp only
   rw[hin];rfl) (fun k _=>j7s h r k) (r.Right.length+1) 0 [] (by omega) (by simp)
 unfold z0H
 rw[q3P (by constructor<;>omega),key];rfl
theorem j6l {g:Gm_}(h:GOk g){r:Rule}(hl:ROk r):q5g g r=some (reqL g r):=by
 have hl' : r.Right.length≤1048576:=hl
 have key:=j0I (h:=reqK g r) (C:=1048576) (n:=r.Right.length+1) (f:=q5Q g r) (fun k s hk hs=>by
  have hin2:eachL (q7V (k:Int)) 0 (q6l g (q8n r (k:Int))).1.Attributes s=some (s++((q6l g (q8n r (k:Int))).1.Attributes.filter fun a=>decide (a.Mode=2)).map fun a=>(⟨(k:Int),a.Name⟩:Oc)):=
   z3P (B:=4398046511104) (fun j x s hs=>by
    unfold q7V
    by_cases hm:x.Mode=2
    ·rw[ifP hm,ifP (by simpa using hm),q3P (by constructor<;>omega)];rfl
    ·rw[ifN hm,ifN (by simpa using hm)];rfl) _ 0 s (by have:=z2B h (q8n r (k:Int));omega)
  have hin1:eachL (q7W (k:Int)) 0 (q6l g (q8n r (k:Int))).1.Attributes s=some (s++((q6l g (q8n r (k:Int))).1.Attributes.filter fun a=>decide (a.Mode=1)).map fun a=>(⟨(k:Int),a.Name⟩:Oc)):=
   z3P (B:=4398046511104) (fun j x s hs=>by
    unfold q7W
    by_cases hm:x.Mode=1
    ·rw[ifP hm,ifP (by simpa using hm),q3P (by constructor<;>omega)];rfl
    ·rw[ifN hm,ifN (by simpa using hm)];rfl) _ 0 s (by have:=z2B h (q8n r (k:Int));omega)
  unfold q5Q reqK
  dsimp only
  rw[ifP (by omega),z4s hl,bsS,z1A h,bsS]
  skip
  by_cases h0:(k:Int)=0
  ·rw[ifP h0,ifP h0,hin2,bsS,bsS,q3P (by constructor<;>omega)];rfl
  ·rw[ifN h0,ifN h0,hin1,bsS,bsS,q3P (by constructor<;>omega)];rfl) (fun s=>by
  unfold q5Q;dsimp only;rw[ifN (by omega)]) (fun k _=>j7s h r k) (r.Right.length+1) 0 [] (by omega) (by simp)
 unfold q5g
 have e:q5s (q5Q g r) (([]:List Oc),0)=some ([]++(List.range' 0 (r.Right.length+1)).flatMap (reqK g r)):=key
 rw[e];rfl
theorem q6k {α:Type}{q:α→Bool}{xs:List α}{f:Nat→α→Unit→Option (Unit ⊕ Int)}(h:∀ k x,x∈xs→f k x ()=some (if q x=true then .inr (k:Int) else .inl ())) :
  ((findL f 0 xs ()).bind <| onr (fun r1=>some r1) fun _=>some (-1)).bind (fun y1=>some (decide (0≤y1)))=some (xs.any q):=by
 rw[j0A h]
 cases hq:xs.any q with
 | true=>
  have:(0:Int)≤((0+xs.findIdx q:Nat):Int):=Int.natCast_nonneg _
  rw[ifP rfl,bsS,j2y,bsS,decide_eq_true this]
 | false=>rfl
def q4N {α:Type}(bad:List α→α→Bool):List α→List α→Option Nat
 | _,[]=>none
 | pre,x::xs=>if bad pre x=true then some pre.length else q4N bad (pre++[x]) xs
theorem z3Q {α β ρ:Type}{bad:List α→α→Bool}{nm:α→β}{c:Nat→ρ}{all:List α}{f:Nat→α→Unit→Option (Unit ⊕ ρ)}{h:Nat→α→List β→Option (List β ⊕ ρ)}
  (hf:∀ pre x post,all=pre++x::post→f pre.length x ()=some (if bad pre x=true then .inr (c pre.length) else .inl ()))
  (hh:∀ pre x post,all=pre++x::post→h pre.length x (pre.map nm)=some (if bad pre x=true then .inr (c pre.length) else .inl ((pre++[x]).map nm))) :
  ∀ (ys pre:List α),all=pre++ys→findL f pre.length ys ()=some (match q4N bad pre ys with|none=>.inl ()|some k=>.inr (c k)) ∧
   findL h pre.length ys (pre.map nm)=some (match q4N bad pre ys with|none=>.inl (all.map nm)|some k=>.inr (c k))
 | [],pre,e=>by
  rw[List.append_nil] at e
  subst e;exact⟨rfl,rfl⟩
 | x::ys,pre,e=>by
  have h1:=hf pre x ys e
  have h2:=hh pre x ys e
  by_cases hb:bad pre x=true
  ·rw[ifP hb] at h1 h2
   simp only[findL,h1,h2,q4N,hb,if_true,bsS]
   exact⟨trivial,trivial⟩
  ·rw[ifN hb] at h1 h2
   have ih:=z3Q hf hh ys (pre++[x]) (by rw[e];simp)
   simp only[List.length_append,lnC,List.length_nil,Nat.zero_add] at ih
   simp only[findL,h1,h2,q4N,hb,bsS]
   exact ih
theorem j7t {α:Type}{a:α→Bool}{b:List α→α→Bool}:∀ (xs pre:List α),(q4N (fun p x=>a x||b p x) pre xs).isNone=(xs.all (fun x=>!a x)&&(q4N b pre xs).isNone)
 | [],pre=>rfl
 | x::xs,pre=>by
  have ih:=j7t (a:=a) (b:=b) xs (pre++[x])
  simp only[q4N,List.all_cons]
  by_cases ha:a x=true
  ·simp[ha]
  ·by_cases hb:b pre x=true
   ·simp[ha,hb]
   ·simpa[ha,hb] using ih
def dupB {α:Type}(nm:α→ByteArray)(pre:List α)(x:α):Bool:=pre.any fun o=>decide (nm o=nm x)
def k0t {α:Type}(nm:α→ByteArray)(xs:List α):Bool:=(q4N (dupB nm) [] xs).isNone
theorem j4S {α:Type}{nm:α→ByteArray}:∀ (xs pre:List α),(q4N (dupB id) (pre.map nm) (xs.map nm))=q4N (dupB nm) pre xs
 | [],pre=>rfl
 | x::xs,pre=>by
  have ih:=j4S (nm:=nm) xs (pre++[x])
  have e:dupB id (pre.map nm) (nm x)=dupB nm pre x:=by simp[dupB,List.any_map,Function.comp_def]
  rw[List.map_cons,q4N,q4N,e,lnM]
  rw[List.map_append] at ih
  rw[show [nm x]=[x].map nm from rfl,ih]
theorem z5E {α ρ:Type}{bad:List α→α→Bool}{c:Nat→ρ}{all:List α}{f:Nat→α→Unit→Option (Unit ⊕ ρ)}
  (hf:∀ pre x post,all=pre++x::post→f pre.length x ()=some (if bad pre x=true then .inr (c pre.length) else .inl ())) :
  ∀ (ys pre:List α),all=pre++ys→findL f pre.length ys ()=some (match q4N bad pre ys with|none=>.inl ()|some k=>.inr (c k)):=fun ys pre e=>
 (z3Q (nm:=fun _=>()) (h:=fun k x s=>(f k x ()).map fun|.inl _=>.inl (s++[()])|.inr r=>.inr r) hf (fun pre x post e=>by
  rw[hf pre x post e]
  by_cases hb:bad pre x=true
  ·rw[ifP hb,ifP hb];rfl
  ·rw[ifN hb,ifN hb];simp) ys pre e).1
theorem k0u (l:List ByteArray)(s:ByteArray):z1h l s=some (l.any fun o=>decide (o=s)):=by
 unfold z1h
 rw[q5e (c:=true) (q:=fun o=>!decide (o=s)) fun k x hx=>by
  unfold z6Y
  by_cases h:x=s
  ·rw[ifP h,ifN (by simp[h])]
  ·rw[ifN h,ifP (by simp[h])]]
 have e:(l.all fun o=>!decide (o=s))=!(l.any fun o=>decide (o=s)):=by rw[List.not_any_eq_all_not]
 rw[e]
 cases l.any fun o=>decide (o=s)<;>rfl
theorem j8P (l:List ByteArray):q9q l=some (k0t id l):=by
 unfold q9q k0t
 rw[show findL (z0g l) 0 l ()=_ from z5E (bad:=dupB id) (c:=fun _=>false) (all:=l) (f:=z0g l) (fun pre x post e=>by
  unfold z0g
  rw[q3P (by rw[e];simp),show l.take pre.length=pre by rw[e];simp,k0u,bsS,← apply_ite some];rfl) l [] rfl]
 cases q4N (dupB id) [] l<;>rfl
def z2F (a:At_):Bool:=q8e a.Name&&(decide (1≤a.Type_∧a.Type_≤4)&&(decide (1≤a.Mode∧a.Mode≤3)&&if a.Mode=3 then decide (a.Type_=2) && !a.Circular else !a.Circular||decide (a.Type_=2)))
theorem k0v (a:At_):q6T a=some (z2F a):=by
 unfold q6T z2F z3u
 rw[z1O,bsS]
 cases q8e a.Name with
 | false=>rfl
 | true=>
  rw[ifP rfl,z8J,bsS,bsS,bsS]
  by_cases h1:1≤a.Type_∧a.Type_≤4
  ·rw[decide_eq_true h1,Bool.not_true,ifN (by simp),z8J,bsS,bsS]
   by_cases h2:1≤a.Mode∧a.Mode≤3
   ·rw[decide_eq_true h2,Bool.not_true,ifN (by simp)]
    by_cases h3:a.Mode=3
    ·rw[ifP h3,ifP h3]
     by_cases h4:a.Type_=2
     ·rw[ifP h4,decide_eq_true h4];simp
     ·rw[ifN h4,decide_eq_false h4];rfl
    ·rw[ifN h3,ifN h3]
     cases hc:a.Circular with
     | true=>rw[ifP rfl];simp
     | false=>rw[ifN (by simp)];simp
   ·rw[decide_eq_false h2];rfl
  ·rw[decide_eq_false h1];rfl
theorem k0w (a:At_):q6X a=some (z2F a):=by
 unfold q6X z2F
 rw[z0y,bsS]
 cases q8e a.Name with
 | false=>rfl
 | true=>
  rw[ifP rfl,z5C,bsS,bsS]
  by_cases h1:1≤a.Type_∧a.Type_≤4
  ·rw[decide_eq_true h1,Bool.not_true,ifN (by simp),z5C,bsS,bsS]
   by_cases h2:1≤a.Mode∧a.Mode≤3
   ·rw[decide_eq_true h2,Bool.not_true,ifN (by simp)]
    by_cases h3:a.Mode=3
    ·rw[ifP h3,ifP h3]
     by_cases h4:a.Type_=2
     ·rw[ifP h4,decide_eq_true h4]
      cases hc:a.Circular with
      | true=>rfl
      | false=>rfl
     ·rw[ifN h4,decide_eq_false h4];rfl
    ·rw[ifN h3,ifN h3]
     cases hc:a.Circular with
     | true=>simp
     | false=>simp
   ·rw[decide_eq_false h2];rfl
  ·rw[decide_eq_false h1];rfl
def symB (s:Symbol):Bool:=s.Attributes.all z2F&&(q8e s.Name&&(decide (s.Attributes.length≤4)&&k0t (fun a:At_=>a.Name) s.Attributes))
theorem k2n (s:Symbol):q8i s=some (symB s):=by
 unfold q8i symB
 rw[show findL (q8M s) 0 s.Attributes ()=_ from z5E (bad:=fun p x=>!z2F x||dupB (fun a:At_=>a.Name) p x) (c:=fun _=>false) (all:=s.Attributes) (f:=q8M s) (fun pre x post e=>by
  unfold q8M
  rw[k0v,bsS]
  cases z2F x with
  | false=>rfl
  | true=>
   rw[ifP rfl,q3P (by rw[e];simp),show s.Attributes.take pre.length=pre by rw[e];simp]
   unfold q4a q4i
   rw[q6k (q:=fun o:At_=>decide (o.Name=x.Name)) fun k y hy=>by
    unfold q5F q8y
    rw[bsS]
    by_cases h:y.Name=x.Name
    ·rw[decide_eq_true h];rfl
    ·rw[decide_eq_false h];rfl]
   rw[bsS,← apply_ite some];rfl) s.Attributes [] rfl]
 have hor:=j7t (a:=fun x:At_=>!z2F x) (b:=dupB (fun a:At_=>a.Name)) s.Attributes []
 simp only[Bool.not_not] at hor
 have e2:(s.Attributes.all fun x=>z2F x)=s.Attributes.all z2F:=rfl
 unfold k0t
 rw[e2] at hor
 cases hb:q4N (fun p x=>!z2F x||dupB (fun a:At_=>a.Name) p x) [] s.Attributes with
 | some k=>
  rw[hb] at hor
  show some false=_
  have:(s.Attributes.all z2F&&(q4N (dupB fun a:At_=>a.Name) [] s.Attributes).isNone)=false:=hor.symm
  congr 1
  cases h1:s.Attributes.all z2F with
  | false=>rfl
  | true=>rw[h1] at this;simp at this;simp[this]
 | none=>
  rw[hb] at hor
  have:(s.Attributes.all z2F&&(q4N (dupB fun a:At_=>a.Name) [] s.Attributes).isNone)=true:=hor.symm
  rw[Bool.and_eq_true] at this
  show ((q4z s.Name).bind _)=_
  rw[z1O,bsS,this.1,this.2]
  cases q8e s.Name with
  | false=>rfl
  | true=>
   rw[ifP rfl,bsS]
   congr 1
   simp;omega
theorem k2o {s:Symbol}(h:s.Attributes.length≤1048576):q8k s=some (symB s):=by
 unfold q8k symB
 have hloop:∀ (ys:List At_) (i:Nat) (t:List ByteArray),t.length+ys.length≤1048576→findL q8P i ys t=some (if ys.all z2F=true then .inl (t++ys.map fun a=>a.Name) else .inr false):=by
  intro ys
  induction ys with
  | nil=>intro i t _;simp[findL]
  | cons y ys ih=>
   intro i t ht
   simp only[lnC] at ht
   simp only[findL]
   have e:q8P i y t=some (if z2F y=true then .inl (t++[y.Name]) else .inr false):=by
    unfold q8P
    rw[k0w,bsS]
    cases z2F y with
    | false=>rfl
    | true=>rw[ifP rfl,ifP rfl,q3P (by constructor<;>omega)]
   rw[e,bsS]
   by_cases hy:z2F y=true
   ·rw[ifP hy,show (y::ys).all z2F=ys.all z2F by simp[hy]]
    dsimp only
    rw[ih _ _ (by simp;omega)]
    simp
   ·rw[ifN hy,show (y::ys).all z2F=false by simp[hy]];rfl
 rw[hloop _ _ _ (by simpa using h)]
 cases hA:s.Attributes.all z2F with
 | false=>rfl
 | true=>
  rw[ifP rfl,bsS,z2c,List.nil_append,z0y,bsS]
  cases q8e s.Name with
  | false=>rfl
  | true=>
   rw[ifP rfl,bsS,lnM]
   by_cases hl:s.Attributes.length≤4
   ·rw[decide_eq_true (by omega:(s.Attributes.length:Int)≤4),ifP rfl,j8P,bsS,bsS,decide_eq_true hl]
    have:=j4S (nm:=fun a:At_=>a.Name) s.Attributes []
    unfold k0t
    rw[List.map_nil] at this
    rw[this];rfl
   ·rw[decide_eq_false (by omega:¬ (s.Attributes.length:Int)≤4),ifN (by simp),decide_eq_false hl];rfl
theorem z7C {r:Rule}{q:Cn}(h:q∈r.Contributions):Sz.szd q.Target≤Sz.szd r∧Sz.szd q.Value≤Sz.szd r:=by
 have h1:=z7u r
 have h2:=z4D q
 have h3:=z7x h
 have h4:=q6o q.Target
 have h5:=q6o q.Value
 omega
theorem z1c {g:Gm_}{r:Rule}(h:r∈g.Rules):Sz.szd r≤Sz.szd g:=by
 have h1:=z4n g
 have h3:=z7x h
 omega
theorem k3l {r:Rule}(h:Sz.szd r≤1048576):r.Equations.length≤1048576∧r.Contributions.length≤1048576:=by
 have h1:=z7u r
 have h2:=q7f r.Equations
 have h3:=q7f r.Contributions
 omega
def q9f (n:Int)(e:Expr):Bool:=allE (fun x=>decide (x.Pos≤n)) e
theorem j6m (n:Int)(e:Expr):∀ m,fuE e≤m→q6S m e n=some (q9f n e):=by
 induction e using z1s with
 | h e ih=>
  intro m hm
  obtain⟨m,rfl⟩:∃ q,m=q+1:=⟨m-1,by have:=z5x e;omega⟩
  show q8G (q6S m) e n=_
  unfold q8G
  rw[q5e (c:=false) (q:=q9f n) fun k x hx=>by
   unfold q8F
   rw[ih x hx m (by have:=z4E hx;omega),bsS]
   cases q9f n x<;>rfl]
  have e1:q9f n e=(decide (e.Pos≤n)&&e.Args.all (q9f n)):=by unfold q9f;rw[j3f]
  rw[e1,bsS]
  cases e.Args.all (q9f n) with
  | true=>rw[ifP rfl,z2c,Bool.and_true]
  | false=>rw[ifN (by simp),j2y,Bool.and_false]
theorem j8Q (n:Int)(e:Expr):z4c e n=some (q9f n e):=q9N (fuE e) fun m hm=>j6m n e m hm
theorem j6n (n:Int)(e:Expr):∀ m,fuE e≤m→q6A m e n=some (q9f n e):=by
 induction e using z1s with
 | h e ih=>
  intro m hm
  obtain⟨m,rfl⟩:∃ q,m=q+1:=⟨m-1,by have:=z5x e;omega⟩
  show q6z (q6A m) e n=_
  unfold q6z q4g q4l z7c
  have e1:q9f n e=(decide (e.Pos≤n)&&e.Args.all (q9f n)):=by unfold q9f;rw[j3f]
  rw[bsS,e1]
  cases decide (e.Pos≤n) with
  | false=>rfl
  | true=>
   rw[ifP rfl,q6k (q:=fun x=>!q9f n x) fun k x hx=>by
    unfold q5M q7b
    rw[ih x hx m (by have:=z4E hx;omega),bsS,bsS]
    cases q9f n x<;>rfl]
   rw[Bool.true_and,← j0C];rfl
theorem j8R (n:Int)(e:Expr):q9c e n=some (q9f n e):=q9N (fuE e) fun m hm=>j6n n e m hm
def z3k (e:Expr)(n:Int):Bool:=j0D e&&q9f n e
theorem j3r {e:Expr}(h:Sz.szd e≤1048576)(n:Int):z6p e n=some (z3k e n):=by
 unfold z6p z3k
 have:=k3g h
 rw[k0a (by omega),bsS]
 cases j0D e with
 | false=>rfl
 | true=>rw[ifP rfl,j8R];rfl
theorem j3s {e:Expr}(h:Sz.szd e≤1048576)(n:Int):q9j e n=some (z3k e n):=by
 unfold q9j z3k
 have:=k3g h
 rw[z7z (by omega),bsS]
 cases j0D e with
 | false=>rfl
 | true=>rw[ifP rfl,j8Q];rfl
def eqnB (n:Int)(q:Eqn):Bool:=z3k q.Expr n&&(q8e q.At.Name&&decide (0≤q.At.Pos∧q.At.Pos≤n))
def conB (n:Int)(q:Cn):Bool:=(z3k q.Target n&&z3k q.Value n)&&(q8e q.Symbol&&q8e q.Name)
def ruleB (r:Rule):Bool:=(q8e r.Name&&q8e r.Left)&&((decide (r.Right.length≤3)&&decide (r.Contributions.length≤2))&&(r.Right.all q8e&&(r.Equations.all (eqnB (r.Right.length:Int))&&r.Contributions.all (conB (r.Right.length:Int)))))
theorem j4T {α β γ:Type}{p:α→Bool}{q:β→Bool}{t:γ→Bool}(xs:List α)(ys:List β)(zs:List γ) :
  ((some (if xs.all p=true then (.inl ():Unit ⊕ Bool) else .inr false)).bind <| onr (fun r1=>some r1) fun _=>
   (some (if ys.all q=true then (.inl ():Unit ⊕ Bool) else .inr false)).bind <| onr (fun r1=>some r1) fun _=>
   (some (if zs.all t=true then (.inl ():Unit ⊕ Bool) else .inr false)).bind <| onr (fun r1=>some r1) fun _=>some true)=some (xs.all p&&(ys.all q&&zs.all t)):=by
 cases xs.all p<;>cases ys.all q<;>cases zs.all t<;>rfl
theorem k0x {r:Rule}(h:Sz.szd r≤1048576):q9m r=some (ruleB r):=by
 unfold q9m ruleB
 rw[z1O,bsS]
 cases q8e r.Name with
 | false=>rfl
 | true=>
  rw[ifP rfl,z1O,bsS,bsS]
  cases q8e r.Left with
  | false=>rfl
  | true=>
   rw[Bool.not_true,ifN (by simp),bsS]
   by_cases h3:r.Right.length≤3
   ·rw[decide_eq_true h3,decide_eq_false (by omega),ifN (by simp),bsS]
    by_cases h2:r.Contributions.length≤2
    ·rw[decide_eq_true h2,decide_eq_false (by omega),ifN (by simp)]
     rw[q5e (c:=false) (q:=q8e) fun k x hx=>by
      unfold z5e;rw[z1O,bsS];cases q8e x<;>rfl]
     rw[q5e (c:=false) (q:=eqnB (r.Right.length:Int)) fun k x hx=>by
      unfold z5f eqnB
      rw[j3r (Nat.le_trans (z6J hx) h),bsS]
      cases z3k x.Expr (r.Right.length:Int) with
      | false=>rfl
      | true=>
       rw[ifP rfl,z1O,bsS,bsS]
       cases q8e x.At.Name with
       | false=>rfl
       | true=>
        rw[Bool.not_true,ifN (by simp),z8J,bsS,bsS]
        cases decide (0≤x.At.Pos∧x.At.Pos≤(r.Right.length:Int))<;>rfl]
     rw[q5e (c:=false) (q:=conB (r.Right.length:Int)) fun k x hx=>by
      have hs:=z7C hx
      unfold z5g conB
      rw[j3r (Nat.le_trans hs.1 h),bsS]
      cases z3k x.Target (r.Right.length:Int) with
      | false=>rfl
      | true=>
       rw[ifP rfl,j3r (Nat.le_trans hs.2 h),bsS,bsS]
       cases z3k x.Value (r.Right.length:Int) with
       | false=>rfl
       | true=>
        rw[Bool.not_true,ifN (by simp),z1O,bsS,bsS]
        cases q8e x.Symbol with
        | false=>rfl
        | true=>
         rw[Bool.not_true,ifN (by simp),z1O,bsS,bsS]
         cases q8e x.Name<;>rfl]
     exact j4T _ _ _
    ·rw[decide_eq_false h2,decide_eq_true (by omega)];rfl
   ·rw[decide_eq_false h3,decide_eq_true (by omega)];rfl
theorem k0y {r:Rule}(h:Sz.szd r≤1048576):q9r r=some (ruleB r):=by
 unfold q9r ruleB
 rw[z0y,bsS]
 cases q8e r.Name with
 | false=>rfl
 | true=>
  rw[ifP rfl,z0y,bsS,bsS]
  cases q8e r.Left with
  | false=>rfl
  | true=>
   rw[Bool.not_true,ifN (by simp),bsS]
   by_cases h3:r.Right.length≤3
   ·rw[decide_eq_true h3,decide_eq_false (by omega),ifN (by simp),bsS]
    by_cases h2:r.Contributions.length≤2
    ·rw[decide_eq_true h2,decide_eq_false (by omega),ifN (by simp)]
     rw[q5e (c:=false) (q:=q8e) fun k x hx=>by
      unfold z5k;rw[z0y,bsS];cases q8e x<;>rfl]
     rw[q5e (c:=false) (q:=eqnB (r.Right.length:Int)) fun k x hx=>by
      unfold z5l eqnB
      rw[z0y,bsS]
      cases q8e x.At.Name with
      | false=>rw[Bool.false_and,Bool.and_false];rfl
      | true=>
       rw[ifP rfl,z5C,bsS,bsS]
       cases decide (0≤x.At.Pos∧x.At.Pos≤(r.Right.length:Int)) with
       | false=>rw[Bool.and_false,Bool.and_false];rfl
       | true=>
        rw[Bool.not_true,ifN (by simp),j3s (Nat.le_trans (z6J hx) h),bsS,bsS]
        cases z3k x.Expr (r.Right.length:Int)<;>rfl]
     rw[q5e (c:=false) (q:=conB (r.Right.length:Int)) fun k x hx=>by
      have hs:=z7C hx
      unfold z5m conB
      rw[z0y,bsS]
      cases q8e x.Symbol with
      | false=>rw[Bool.false_and,Bool.and_false];rfl
      | true=>
       rw[ifP rfl,z0y,bsS,bsS]
       cases q8e x.Name with
       | false=>rw[Bool.and_false,Bool.and_false];rfl
       | true=>
        rw[Bool.not_true,ifN (by simp),j3s (Nat.le_trans hs.1 h),bsS,bsS]
        cases z3k x.Target (r.Right.length:Int) with
        | false=>rfl
        | true=>
         rw[Bool.not_true,ifN (by simp),j3s (Nat.le_trans hs.2 h),bsS,bsS]
         cases z3k x.Value (r.Right.length:Int)<;>rfl]
     exact j4T _ _ _
    ·rw[decide_eq_false h2,decide_eq_true (by omega)];rfl
   ·rw[decide_eq_false h3,decide_eq_true (by omega)];rfl
def z3R (p:List Symbol)(x:Symbol):Bool:=!symB x||dupB (fun y:Symbol=>y.Name) p x
def z1G (p:List Rule)(x:Rule):Bool:=!ruleB x||dupB (fun y:Rule=>y.Name) p x
def z6h (g:Gm_):Int:=match q4N z3R [] g.Symbols with
 | some k=>(k:Int)
 | none=>match q4N z1G [] g.Rules with
  | some k=>(k:Int)
  | none=>-1
theorem k0z {g:Gm_}(h:Sz.szd g≤1048576):q9X g=some (z6h g):=by
 unfold q9X z6h
 rw[show findL (z1i g) 0 g.Symbols ()=_ from z5E (bad:=z3R) (c:=fun k=>(k:Int)) (all:=g.Symbols) (f:=z1i g) (fun pre x post e=>by
  unfold z1i z3R
  rw[k2n,bsS]
  cases symB x with
  | false=>rfl
  | true=>
   rw[ifP rfl,q3P (by rw[e];simp),show g.Symbols.take pre.length=pre by rw[e];simp]
   unfold q4s q4J
   rw[q6k (q:=fun o:Symbol=>decide (o.Name=x.Name)) fun k y hy=>by
    unfold q6g q9U
    rw[bsS]
    by_cases h:y.Name=x.Name
    ·rw[decide_eq_true h];rfl
    ·rw[decide_eq_false h];rfl]
   rw[bsS,← apply_ite some];rfl) g.Symbols [] rfl]
 rw[show findL (z1j g) 0 g.Rules ()=_ from z5E (bad:=z1G) (c:=fun k=>(k:Int)) (all:=g.Rules) (f:=z1j g) (fun pre x post e=>by
  unfold z1j z1G
  rw[k0x (Nat.le_trans (z1c (by rw[e];simp)) h),bsS]
  cases ruleB x with
  | false=>rfl
  | true=>
   rw[ifP rfl,q3P (by rw[e];simp),show g.Rules.take pre.length=pre by rw[e];simp]
   unfold q4A q4P
   rw[q6k (q:=fun o:Rule=>decide (o.Name=x.Name)) fun k y hy=>by
    unfold q6n q9W
    rw[bsS]
    by_cases h:y.Name=x.Name
    ·rw[decide_eq_true h];rfl
    ·rw[decide_eq_false h];rfl]
   rw[bsS,← apply_ite some];rfl) g.Rules [] rfl]
 cases q4N z3R [] g.Symbols with
 | some k=>rfl
 | none=>cases q4N z1G [] g.Rules<;>rfl
theorem j6o {g:Gm_}(h:Sz.szd g≤1048576):g.Symbols.length≤1048576∧g.Rules.length≤1048576:=by
 have h1:=z4n g
 have h2:=q7f g.Symbols
 have h3:=q7f g.Rules
 omega
theorem k0A {g:Gm_}(h:Sz.szd g≤1048576):z5n g=some (z6h g):=by
 have hl:=j6o h
 unfold z5n z6h
 have h1:=(z3Q (bad:=z3R) (nm:=fun y:Symbol=>y.Name) (c:=fun k=>(k:Int)) (all:=g.Symbols) (f:=fun k x _=>some (if z3R (g.Symbols.take k) x=true then .inr (k:Int) else .inl ())) (h:=z5Q) (fun pre x post e=>by
   rw[show g.Symbols.take pre.length=pre by rw[e];simp]) (fun pre x post e=>by
  unfold z5Q z3R
  rw[k2o (z0A h x (by rw[e];simp)),bsS]
  cases symB x with
  | false=>rfl
  | true=>
   have hp:pre.length≤1048576:=by
     have:g.Symbols.length=pre.length+(post.length+1):=by rw[e];simp
     omega
   rw[ifP rfl,k0u,bsS,List.any_map,q3P (by rw[lnM];constructor<;>omega),List.map_append,← apply_ite some];rfl) g.Symbols [] rfl).2
 have h2:=(z3Q (bad:=z1G) (nm:=fun y:Rule=>y.Name) (c:=fun k=>(k:Int)) (all:=g.Rules) (f:=fun k x _=>some (if z1G (g.Rules.take k) x=true then .inr (k:Int) else .inl ())) (h:=z5R) (fun pre x post e=>by
   rw[show g.Rules.take pre.length=pre by rw[e];simp]) (fun pre x post e=>by
  unfold z5R z1G
  rw[k0y (Nat.le_trans (z1c (by rw[e];simp)) h),bsS]
  cases ruleB x with
  | false=>rfl
  | true=>
   have hp:pre.length≤1048576:=by
     have:g.Rules.length=pre.length+(post.length+1):=by rw[e];simp
     omega
   rw[ifP rfl,k0u,bsS,List.any_map,q3P (by rw[lnM];constructor<;>omega),List.map_append,← apply_ite some];rfl) g.Rules [] rfl).2
 rw[show findL z5Q 0 g.Symbols []=_ from h1,show findL z5R 0 g.Rules []=_ from h2]
 cases q4N z3R [] g.Symbols with
 | some k=>rfl
 | none=>cases q4N z1G [] g.Rules<;>rfl
theorem j0L {ρ:Type}{c:ρ}{q:Nat→Bool}{n:Nat}{f:Nat→Unit→Option (Unit ⊕ ρ)}(h:∀ k,k<n→f k ()=some (if q k=true then .inl () else .inr c)):∀ (m k:Nat),k+m=n→findN f k m ()=some (if (List.range' k m).all q=true then .inl () else .inr c)
 | 0,k,_=>rfl
 | m+1,k,hk=>by
  have ih:=j0L h m (k+1) (by omega)
  rw[findN,h k (by omega),bsS]
  by_cases hq:q k=true
  ·rw[ifP hq,show (List.range' k (m+1)).all q=(List.range' (k+1) m).all q by simp[List.range'_succ,hq]]
   exact ih
  ·rw[ifN hq,show (List.range' k (m+1)).all q=false by simp[List.range'_succ,hq]];rfl
theorem j7u {ρ:Type}{c:ρ}{q:Nat→Bool}{n:Nat}{f:Int→Option (Int ⊕ (Unit ⊕ ρ))}(h:∀ k:Nat,k<n→f (k:Int)=some (if q k=true then .inl ((k+1:Nat):Int) else .inr (.inr c)))(he:f (n:Int)=some (.inr (.inl ()))):∀ (m k:Nat),k+m=n→q5s f (k:Int)=some (if (List.range' k m).all q=true then .inl () else .inr c)
 | 0,k,hk=>by
  obtain rfl:k=n:=by omega
  exact q3U he
 | m+1,k,hk=>by
  have ih:=j7u h he m (k+1) (by omega)
  have h1:=h k (by omega)
  by_cases hq:q k=true
  ·rw[ifP hq] at h1
   rw[q4G h1,show (List.range' k (m+1)).all q=(List.range' (k+1) m).all q by simp[List.range'_succ,hq]]
   exact ih
  ·rw[ifN hq] at h1
   rw[q3U h1,show (List.range' k (m+1)).all q=false by simp[List.range'_succ,hq]];rfl
def j2g (g:Gm_)(r:Rule):Bool:=(List.range' 0 (r.Right.length+1)).all fun k=>(q6l g (q8n r (k:Int))).2
theorem j6p (g:Gm_){r:Rule}(hl:ROk r):z3v g r=some (!j2g g r):=by
 have hl' : r.Right.length≤1048576:=hl
 unfold z3v
 rw[q3P (by constructor<;>omega),j0L (c:=true) (n:=r.Right.length+1) (q:=fun k=>(q6l g (q8n r (k:Int))).2) (fun k hk=>by
  unfold z9Z
  rw[j0K hl,bsS,z2A,bsS]
  dsimp only
  rw[← apply_ite some]) (r.Right.length+1) 0 (by omega)]
 unfold j2g
 cases (List.range' 0 (r.Right.length+1)).all fun k=>(q6l g (q8n r (k:Int))).2<;>rfl
theorem j6q {g:Gm_}(h:GOk g){r:Rule}(hl:ROk r):z0h g r=some (j2g g r):=by
 have hl' : r.Right.length≤1048576:=hl
 unfold z0h
 have e:=j7u (c:=false) (q:=fun k=>(q6l g (q8n r (k:Int))).2) (n:=r.Right.length+1) (f:=q9s g r) (fun k hk=>by
  unfold q9s
  rw[ifP (by omega),z4s hl,bsS,z1A h,bsS]
  dsimp only
  rw[q3P (by constructor<;>omega),← apply_ite some];rfl) (by
  unfold q9s;rw[ifN (by omega)]) (r.Right.length+1) 0 (by omega)
 rw[show q5s (q9s g r) 0=_ from e]
 unfold j2g
 cases (List.range' 0 (r.Right.length+1)).all fun k=>(q6l g (q8n r (k:Int))).2<;>rfl
theorem k4u (K:List Oc)(o:Oc):q5i K o=some (decide (o∈K)):=by
 unfold q5i q4q
 rw[q6k (q:=fun x=>decide (o=x)) fun k x hx=>by
  unfold q4F
  by_cases h:o=x
  ·rw[ifP h,ifP (by simpa using h)]
  ·rw[ifN h,ifN (by simpa using h)]]
 congr 1
 by_cases h:o∈K
 ·rw[decide_eq_true h,List.any_eq_true];exact⟨o,h,by simp⟩
 ·rw[decide_eq_false h,List.any_eq_false];intro x hx he;simp at he;exact h (he▸hx)
theorem k0B (K:List Oc)(o:Oc):z0O K o=some (decide (o∈K)):=by
 unfold z0O
 rw[q5e (c:=true) (q:=fun x=>!decide (x=o)) fun k x hx=>by
  unfold z8B
  by_cases h:x=o
  ·rw[ifP h,ifN (by simp[h])]
  ·rw[ifN h,ifP (by simp[h])]]
 by_cases h:o∈K
 ·rw[decide_eq_true h,ifN];· rfl
  rw[List.all_eq_true];intro hh;have:=hh o h;simp at this
 ·rw[decide_eq_false h,ifP];· rfl
  rw[List.all_eq_true];intro x hx;simp;exact fun e=>h (e▸hx)
def j4U (r:Rule)(o:Oc):Bool:=r.Equations.any fun q=>decide (q.At=o)
theorem k2p (r:Rule)(o:Oc):(eqAt r o).2=j4U r o:=by
 unfold eqAt j4U
 cases hf:r.Equations.find? (fun q=>decide (q.At=o)) with
 | none=>rw[List.find?_eq_none] at hf;symm;rw[List.any_eq_false];exact hf
 | some q=>symm;rw[List.any_eq_true];exact⟨q,List.mem_of_find?_eq_some hf,List.find?_some (p:=fun q:Eqn=>decide (q.At=o)) hf⟩
def k0C (g:Gm_)(r:Rule):Bool:=(reqL g r).any fun o=>!j4U r o
theorem k2q {g:Gm_}(h:GOk g){r:Rule}(hl:ROk r):z3w g r=some (k0C g r):=by
 unfold z3w k0C
 rw[k0s h hl,bsS]
 unfold q4p q4C
 rw[q6k (q:=fun o=>!j4U r o) fun k o ho=>by
  unfold q5Y z2J q4o q4B
  rw[q6k (q:=fun q:Eqn=>decide (q.At=o)) fun k y hy=>by
   unfold q5X z1k
   rw[bsS]
   by_cases h:y.At=o
   ·rw[decide_eq_true h];rfl
   ·rw[decide_eq_false h];rfl]
  rw[bsS,bsS,← apply_ite some];rfl]
 rfl
theorem k2r {g:Gm_}(h:GOk g){r:Rule}(hr:Sz.szd r≤1048576):z0j g r=some (k0C g r):=by
 unfold z0j k0C
 rw[j6l h (q7C hr),bsS,q5e (c:=true) (q:=j4U r) fun k o ho=>by
  unfold z6c
  rw[j3q hr o,bsS]
  dsimp only
  rw[k2p,← apply_ite some]]
 have e:((reqL g r).all (j4U r))=!((reqL g r).any fun o=>!j4U r o):=by rw[j0C]
 rw[e]
 cases (reqL g r).any fun o=>!j4U r o<;>rfl
def j4V (g:Gm_)(r:Rule):Bool:=(q4N (fun p (x:Eqn)=>!decide (x.At∈reqL g r)||p.any fun o=>decide (o.At=x.At)) [] r.Equations).isSome
theorem k0D {g:Gm_}(h:GOk g){r:Rule}(hl:ROk r):z7e g r=some (j4V g r):=by
 unfold z7e j4V
 rw[k0s h hl,bsS]
 rw[show findL (z7d r (reqL g r)) 0 r.Equations ()=_ from z5E (bad:=fun p (x:Eqn)=>!decide (x.At∈reqL g r)||p.any fun o=>decide (o.At=x.At)) (c:=fun _=>true) (all:=r.Equations) (f:=z7d r (reqL g r)) (fun pre x post e=>by
  unfold z7d
  rw[k4u,bsS]
  cases decide (x.At∈reqL g r) with
  | false=>rfl
  | true=>
   rw[ifP rfl,q3P (by rw[e];simp),show r.Equations.take pre.length=pre by rw[e];simp]
   unfold q4K q4T
   rw[q6k (q:=fun o:Eqn=>decide (o.At=x.At)) fun k y hy=>by
    unfold q6B z5P
    rw[bsS]
    by_cases h:y.At=x.At
    ·rw[decide_eq_true h];rfl
    ·rw[decide_eq_false h];rfl]
   rw[bsS,← apply_ite some];rfl) r.Equations [] rfl]
 cases q4N (fun p (x:Eqn)=>!decide (x.At∈reqL g r)||p.any fun o=>decide (o.At=x.At)) [] r.Equations<;>rfl
theorem k0E {g:Gm_}(h:GOk g){r:Rule}(hr:Sz.szd r≤1048576):z2n g r=some (j4V g r):=by
 have hl:=(k3l hr).1
 unfold z2n j4V
 rw[j6l h (q7C hr),bsS]
 have h1:=(z3Q (bad:=fun p (x:Eqn)=>!decide (x.At∈reqL g r)||p.any fun o=>decide (o.At=x.At)) (nm:=fun y:Eqn=>y.At) (c:=fun _=>true) (all:=r.Equations)
  (f:=fun k x _=>some (if (!decide (x.At∈reqL g r)||(r.Equations.take k).any fun o=>decide (o.At=x.At))=true then .inr true else .inl ())) (h:=z2L (reqL g r)) (fun pre x post e=>by
   rw[show r.Equations.take pre.length=pre by rw[e];simp]) (fun pre x post e=>by
  unfold z2L
  rw[k0B,bsS]
  cases decide (x.At∈reqL g r) with
  | false=>rfl
  | true=>
   have hp:pre.length≤1048576:=by
     have:r.Equations.length=pre.length+(post.length+1):=by rw[e];simp
     omega
   have e2:decide (x.At∈pre.map fun y:Eqn=>y.At)=pre.any fun o=>decide (o.At=x.At):=by
    by_cases hm:x.At∈pre.map fun y:Eqn=>y.At
    ·rw[decide_eq_true hm];symm;rw[List.any_eq_true]
     obtain⟨y,hy,he⟩:=List.mem_map.1 hm
     exact⟨y,hy,by simpa using he⟩
    ·rw[decide_eq_false hm];symm;rw[List.any_eq_false]
     intro y hy he
     exact hm (List.mem_map.2 ⟨y,hy,by simpa using he⟩)
   rw[ifP rfl,k0B,bsS,e2,q3P (by rw[lnM];constructor<;>omega),List.map_append,← apply_ite some];rfl) r.Equations [] rfl).2
 rw[show findL (z2L (reqL g r)) 0 r.Equations []=_ from h1]
 cases q4N (fun p (x:Eqn)=>!decide (x.At∈reqL g r)||p.any fun o=>decide (o.At=x.At)) [] r.Equations<;>rfl
def useB (g:Gm_)(r:Rule)(e:Expr):Bool:=(attrs e).all (mayB g r)
theorem j3t {g:Gm_}(h:GOk g){r:Rule}(hl:ROk r){e:Expr}(he:Sz.szd e≤1048576):z0P g r e=some (useB g r e):=by
 unfold z0P useB
 rw[j7l he,bsS,q5e (c:=false) (q:=mayB g r) fun k x hx=>by
  unfold j0b
  rw[k4t h hl,bsS,← apply_ite some]]
 cases (attrs e).all (mayB g r)<;>rfl
theorem k2s (g:Gm_){r:Rule}(hl:ROk r){e:Expr}(he:Sz.szd e≤1048576):z1u e g r=some (!useB g r e):=by
 unfold z1u useB
 rw[j7i he,bsS]
 unfold q4k q4u
 rw[q6k (q:=fun o=>!mayB g r o) fun k o ho=>by
  unfold q5S z1l
  rw[k4s g hl,bsS,bsS,← apply_ite some]]
 rw[bsS,← j0C,Bool.not_not]
def j0M (r:Rule):List Expr:=r.Equations.map (fun q=>q.Expr)++r.Contributions.flatMap fun q=>[q.Target,q.Value]
theorem k2t {r:Rule}(hr:Sz.szd r≤1048576):q9o r=some (j0M r):=by
 have hl:=k3l hr
 have h1:∀ (xs:List Eqn) (i:Nat) (s:List Expr),s.length+xs.length≤1048576→eachL q9Z i xs s=some (s++xs.map fun q=>q.Expr):=by
  intro xs
  induction xs with
  | nil=>intro i s _;simp[eachL]
  | cons x xs ih=>
   intro i s hs
   simp only[lnC] at hs
   have e:q9Z i x s=some (s++[x.Expr]):=by unfold q9Z;rw[q3P (by constructor<;>omega)]
   rw[eachL,e,bsS,ih _ _ (by simp;omega)];simp
 have h2:∀ (xs:List Cn) (i:Nat) (s:List Expr),s.length+2*xs.length≤4194304→eachL z0a i xs s=some (s++xs.flatMap fun q=>[q.Target,q.Value]):=by
  intro xs
  induction xs with
  | nil=>intro i s _;simp[eachL]
  | cons x xs ih=>
   intro i s hs
   simp only[lnC] at hs
   have e:z0a i x s=some (s++[x.Target,x.Value]):=by
    unfold z0a;rw[q3P (by simp only[lnC,List.length_nil];constructor<;>omega)]
   rw[eachL,e,bsS,ih _ _ (by simp;omega)];simp
 unfold q9o j0M
 rw[h1 _ _ _ (by simpa using hl.1),bsS,h2 _ _ _ (by simp;omega)];simp
theorem k2u {r:Rule}{e:Expr}(h:e∈j0M r):Sz.szd e≤Sz.szd r:=by
 unfold j0M at h
 rcases List.mem_append.1 h with h|h
 ·obtain⟨q,hq,rfl⟩:=List.mem_map.1 h;exact z6J hq
 ·obtain⟨q,hq,he⟩:=List.mem_flatMap.1 h
  have:=z7C hq
  simp at he
  rcases he with rfl|rfl
  ·exact this.1
  ·exact this.2
def misB (g:Gm_)(r:Rule):Bool:=!(j0M r).all (useB g r)
theorem k4v (g:Gm_){r:Rule}(hr:Sz.szd r≤1048576):z3x g r=some (misB g r):=by
 unfold z3x misB
 rw[k2t hr,bsS]
 unfold q4Q q4Z
 rw[q6k (q:=fun e=>!useB g r e) fun k e he=>by
  unfold q6V
  rw[k2s g (q7C hr) (Nat.le_trans (k2u he) hr),bsS,← apply_ite some]]
 rw[bsS,← j0C,Bool.not_not]
theorem k4w {g:Gm_}(h:GOk g){r:Rule}(hr:Sz.szd r≤1048576):z1x g r=some (misB g r):=by
 unfold z1x misB
 rw[q5e (c:=true) (q:=fun q:Eqn=>useB g r q.Expr) fun k x hx=>by
  unfold z7l
  rw[j3t h (q7C hr) (Nat.le_trans (z6J hx) hr),bsS,← apply_ite some]]
 rw[q5e (c:=true) (q:=fun q:Cn=>useB g r q.Target&&useB g r q.Value) fun k x hx=>by
  have hs:=z7C hx
  unfold z7m
  rw[j3t h (q7C hr) (Nat.le_trans hs.1 hr),bsS]
  cases useB g r x.Target with
  | false=>rfl
  | true=>rw[ifP rfl,j3t h (q7C hr) (Nat.le_trans hs.2 hr),bsS,← apply_ite some];rfl]
 have e:(j0M r).all (useB g r)=((r.Equations.all fun q=>useB g r q.Expr)&&r.Contributions.all fun q=>useB g r q.Target&&useB g r q.Value):=by
  unfold j0M
  rw[List.all_append,List.all_map,List.all_flatMap]
  congr 1
  congr 1;funext q;simp
 rw[e]
 cases r.Equations.all fun q=>useB g r q.Expr with
 | false=>rfl
 | true=>cases r.Contributions.all fun q=>useB g r q.Target&&useB g r q.Value<;>rfl
def z3S (g:Gm_)(r:Rule)(k:Int):Bool:=if k=3 then !j2g g r else if k=4 then k0C g r else if k=5 then j4V g r else misB g r
theorem k0F {g:Gm_}(h:GOk g){r:Rule}(hr:Sz.szd r≤1048576)(k:Int):z1y g r k=some (z3S g r k):=by
 unfold z1y z3S
 by_cases h3:k=3
 ·rw[ifP h3,ifP h3,j6q h (q7C hr)];rfl
 ·rw[ifN h3,ifN h3]
  by_cases h4:k=4
  ·rw[ifP h4,ifP h4,k2r h hr];rfl
  ·rw[ifN h4,ifN h4]
   by_cases h5:k=5
   ·rw[ifP h5,ifP h5,k0E h hr];rfl
   ·rw[ifN h5,ifN h5,k4w h hr];rfl
theorem j4W {g:Gm_}(h:GOk g){r:Rule}(hr:Sz.szd r≤1048576)(k:Int)(i:Nat):z1m g k i r ()=some (if z3S g r k=true then .inr (k,(i:Int)) else .inl ()):=by
 unfold z1m z3S
 by_cases h3:k=3
 ·rw[ifP h3,ifP h3,j6p g (q7C hr),bsS,← apply_ite some]
 ·rw[ifN h3,ifN h3]
  by_cases h4:k=4
  ·rw[ifP h4,ifP h4,k2q h (q7C hr),bsS,← apply_ite some]
  ·rw[ifN h4,ifN h4]
   by_cases h5:k=5
   ·rw[ifP h5,ifP h5,k0D h (q7C hr),bsS,← apply_ite some]
   ·rw[ifN h5,ifN h5,k4v g hr,bsS,← apply_ite some]
theorem k0G {g:Gm_}(h:GOk g){r:Rule}(hr:Sz.szd r≤1048576)(k:Int)(i:Nat):z1o g k i r ()=some (if z3S g r k=true then .inr (k,(i:Int)) else .inl ()):=by
 unfold z1o
 rw[k0F h hr,bsS,← apply_ite some]
theorem j0N {α σ ρ:Type}{f g:Nat→α→σ→Option (σ ⊕ ρ)}:∀ {xs:List α} {i:Nat} {s:σ},(∀ k x s,x∈xs→f k x s=g k x s)→findL f i xs s=findL g i xs s
 | [],_,_,_=>rfl
 | x::xs,i,s,h=>by
  rw[findL,findL,h i x s (by simp)]
  congr 1;funext z
  cases z with
  | inl s'=>exact j0N fun k y s hy=>h k y s (by simp[hy])
  | inr r=>rfl
theorem j6r {g:Gm_}(h:Sz.szd g≤1048576)(k:Int):z1p g k=q6i g k:=by
 unfold z1p q6i
 have e:findL (z1o g k) 0 g.Rules ()=findL (z1m g k) 0 g.Rules ():=j0N fun i x _ hx=>by
  have hr:=Nat.le_trans (z1c hx) h
  rw[k0G (z0A h) hr,j4W (z0A h) hr]
 rw[e]
def q7T (g:Gm_)(k:Int):Option (Int×Int):=match g.Rules.findIdx? fun r=>z3S g r k with
 | some i=>some (k,(i:Int))
 | none=>none
theorem z5F {α ρ:Type}{q:α→Bool}{c:Nat→ρ}:∀ {xs:List α} {i:Nat} {f:Nat→α→Unit→Option (Unit ⊕ ρ)},(∀ k x,x∈xs→f k x ()=some (if q x=true then .inr (c k) else .inl ())) →
  findL f i xs ()=some (match xs.findIdx? q with|some j=>.inr (c (i+j))|none=>.inl ())
 | [],_,_,_=>rfl
 | x::xs,i,f,h=>by
  rw[findL,h i x (by simp),bsS,List.findIdx?_cons]
  by_cases hq:q x=true
  ·rw[ifP hq,ifP hq];rfl
  ·rw[ifN hq,ifN hq]
   have ih:=z5F (q:=q) (c:=c) (xs:=xs) (i:=i+1) (f:=f) fun k y hy=>h k y (by simp[hy])
   dsimp only
   rw[ih]
   cases xs.findIdx? q with
   | none=>rfl
   | some j=>simp only[Option.map_some];rw[show i+1+j=i+(j+1) by omega]
def z5G (g:Gm_):Int×Int:=
 if !decide (1≤g.Symbols.length∧g.Symbols.length≤4) || !decide (1≤g.Rules.length∧g.Rules.length≤8) then (1,0)
 else if 0≤z6h g then (1,z6h g)
 else if (g.Symbols.getD 0 zS).Attributes.any fun a=>decide (a.Mode=1) then (2,0)
 else (q7T g 3 <|> (q7T g 4 <|> (q7T g 5 <|> q7T g 6))).getD (0,0)
theorem j0O {g:Gm_}(h:Sz.szd g≤1048576):(q5s (q6i g) 3).bind (onr (fun r2=>some r2) fun ()=>some (0,0))=some ((q7T g 3 <|> (q7T g 4 <|> (q7T g 5 <|> q7T g 6))).getD (0,0)):=by
 have hstep:∀ k:Int,3≤k→k≤6→q6i g k=match q7T g k with|some z=>some (.inr (.inr z))|none=>some (.inl (k+1)):=by
  intro k h3 h6
  unfold q6i q7T
  rw[ifP h6,z5F (q:=fun r=>z3S g r k) (c:=fun i=>(k,(i:Int))) fun i x hx=>j4W (z0A h) (Nat.le_trans (z1c hx) h) k i]
  cases g.Rules.findIdx? fun r=>z3S g r k with
  | some i=>simp
  | none=>rw[bsS];dsimp only[onr];rw[q3P (by constructor<;>omega)]
 have hend:q6i g 7=some (.inr (.inl ())):=by unfold q6i;rw[ifN (by omega)]
 have h3:=hstep 3 (by omega) (by omega)
 have h4:=hstep 4 (by omega) (by omega)
 have h5:=hstep 5 (by omega) (by omega)
 have h6:=hstep 6 (by omega) (by omega)
 cases s3:q7T g 3 with
 | some z=>rw[s3] at h3;rw[q3U h3];rfl
 | none=>
  rw[s3] at h3
  rw[q4G h3,show (3:Int)+1=4 by rfl]
  cases s4:q7T g 4 with
  | some z=>rw[s4] at h4;rw[q3U h4];rfl
  | none=>
   rw[s4] at h4
   rw[q4G h4,show (4:Int)+1=5 by rfl]
   cases s5:q7T g 5 with
   | some z=>rw[s5] at h5;rw[q3U h5];rfl
   | none=>
    rw[s5] at h5
    rw[q4G h5,show (5:Int)+1=6 by rfl]
    cases s6:q7T g 6 with
    | some z=>rw[s6] at h6;rw[q3U h6];rfl
    | none=>
     rw[s6] at h6
     rw[q4G h6,show (6:Int)+1=7 by rfl,q3U hend];rfl
theorem k0H {g:Gm_}(h:Sz.szd g≤1048576):z0b g=some (z5G g):=by
 unfold z0b z5G
 rw[z8J,bsS]
 by_cases h1:1≤g.Symbols.length∧g.Symbols.length≤4
 ·rw[decide_eq_true (by omega),ifP rfl,z8J,bsS,decide_eq_true h1]
  by_cases h2:1≤g.Rules.length∧g.Rules.length≤8
  ·rw[decide_eq_true (by omega),ifP rfl,k0z h,bsS,decide_eq_true h2]
   simp only[Bool.not_true,Bool.or_self,Bool.false_eq_true,if_false]
   by_cases h3:0≤z6h g
   ·rw[ifP h3,ifP h3]
   ·rw[ifN h3,ifN h3,List.getD_eq_getElem?_getD,List.getElem?_eq_getElem (by omega:0<g.Symbols.length),bsS,Option.getD_some]
    unfold q4j q4t
    rw[q6k (q:=fun a:At_=>decide (a.Mode=1)) fun k y hy=>by
     unfold q5R q9Y
     rw[bsS,← apply_ite some]]
    rw[bsS]
    by_cases h4:(g.Symbols[0].Attributes.any fun a=>decide (a.Mode=1))=true
    ·rw[ifP h4,ifP h4]
    ·rw[ifN h4,ifN h4]
     exact j0O h
  ·rw[decide_eq_false (by omega),decide_eq_false h2];rfl
 ·rw[decide_eq_false (by omega),decide_eq_false h1];rfl
theorem k0I {g:Gm_}(h:Sz.szd g≤1048576):z0k g=some (z5G g):=by
 unfold z0k z5G
 rw[z5C,bsS]
 by_cases h1:1≤g.Symbols.length∧g.Symbols.length≤4
 ·rw[decide_eq_true (by omega),ifP rfl,z5C,bsS,decide_eq_true h1]
  by_cases h2:1≤g.Rules.length∧g.Rules.length≤8
  ·rw[decide_eq_true (by omega),ifP rfl,k0A h,bsS,decide_eq_true h2]
   simp only[Bool.not_true,Bool.or_self,Bool.false_eq_true,if_false]
   by_cases h3:0≤z6h g
   ·rw[ifP h3,ifP h3]
   ·rw[ifN h3,ifN h3,List.getD_eq_getElem?_getD,List.getElem?_eq_getElem (by omega:0<g.Symbols.length),bsS,Option.getD_some]
    rw[q5e (c:=((2:Int),(0:Int))) (q:=fun a:At_=>!decide (a.Mode=1)) fun k y hy=>by
     unfold z6d
     by_cases hm:y.Mode=1
     ·rw[ifP hm,ifN (by simp[hm])]
     ·rw[ifN hm,ifP (by simp[hm])]]
    have e:(g.Symbols[0].Attributes.all fun a=>!decide (a.Mode=1))=!(g.Symbols[0].Attributes.any fun a=>decide (a.Mode=1)):=by rw[List.not_any_eq_all_not]
    rw[e]
    cases (g.Symbols[0].Attributes.any fun a=>decide (a.Mode=1)) with
    | true=>rfl
    | false=>
     rw[Bool.not_false,ifP rfl,bsS,z2c,ifN (by simp),show z1p g=q6i g from funext fun k=>j6r h k]
     exact j0O h
  ·rw[decide_eq_false (by omega),decide_eq_false h2];rfl
 ·rw[decide_eq_false (by omega),decide_eq_false h1];rfl
theorem z5X {α:Type}{bad:List α→α→Bool}:∀ (xs pre:List α),q4N bad pre xs=none→∀ k x,xs[k]?=some x→bad (pre++xs.take k) x=false
 | [],pre,h,k,x,hx=>by simp at hx
 | y::xs,pre,h,k,x,hx=>by
  rw[q4N] at h
  by_cases hb:bad pre y=true
  ·rw[ifP hb] at h;cases h
  ·rw[ifN hb] at h
   cases k with
   | zero=>simp at hx;subst hx;simpa using hb
   | succ k=>
    have:=z5X xs (pre++[y]) h k x (by simpa using hx)
    simpa using this
structure Shape (g:Gm_):Prop where
 syms:1≤g.Symbols.length∧g.Symbols.length≤4
 rules:1≤g.Rules.length∧g.Rules.length≤8
 sym:q4N z3R [] g.Symbols=none
 rule:q4N z1G [] g.Rules=none
 brk:∀ k:Int,3≤k→k≤6→∀ r∈g.Rules,z3S g r k=false
 j3T:∀ y a,g.Symbols[0]?=some y→a∈y.Attributes→a.Mode≠1
theorem j7v {g:Gm_}(h:(z5G g).1=0):Shape g:=by
 unfold z5G at h
 by_cases h1:1≤g.Symbols.length∧g.Symbols.length≤4
 ·by_cases h2:1≤g.Rules.length∧g.Rules.length≤8
  ·rw[decide_eq_true h1,decide_eq_true h2] at h
   simp only[Bool.not_true,Bool.or_self,Bool.false_eq_true,if_false] at h
   by_cases h3:0≤z6h g
   ·rw[ifP h3] at h;simp at h
   ·rw[ifN h3] at h
    by_cases h4:((g.Symbols.getD 0 zS).Attributes.any fun a=>decide (a.Mode=1))=true
    ·rw[ifP h4] at h;simp at h
    ·rw[ifN h4] at h
     have hf:q4N z3R [] g.Symbols=none∧q4N z1G [] g.Rules=none:=by
      unfold z6h at h3
      cases e1:q4N z3R [] g.Symbols with
      | some k=>rw[e1] at h3;exact absurd (Int.natCast_nonneg k) h3
      | none=>
       cases e2:q4N z1G [] g.Rules with
       | some k=>rw[e1,e2] at h3;exact absurd (Int.natCast_nonneg k) h3
       | none=>exact⟨rfl,rfl⟩
     have hk:∀ k:Int,q7T g k=none→∀ r∈g.Rules,z3S g r k=false:=by
      intro k hk r hr
      unfold q7T at hk
      cases e:g.Rules.findIdx? fun r=>z3S g r k with
      | some i=>rw[e] at hk;cases hk
      | none=>
       rw[List.findIdx?_eq_none_iff] at e
       exact e r hr
     have hc:∀ k:Int,3≤k→∀ z,q7T g k=some z→z.1≠0:=by
      intro k h3 z hz
      unfold q7T at hz
      cases e:g.Rules.findIdx? fun r=>z3S g r k with
      | none=>rw[e] at hz;cases hz
      | some i=>rw[e] at hz;cases hz;show k≠0;omega
     have n3:q7T g 3=none:=by
      cases e:q7T g 3 with
      | none=>rfl
      | some z=>rw[e] at h;exact absurd h (hc 3 (by omega) z e)
     rw[n3] at h
     have n4:q7T g 4=none:=by
      cases e:q7T g 4 with
      | none=>rfl
      | some z=>rw[e] at h;exact absurd h (hc 4 (by omega) z e)
     rw[n4] at h
     have n5:q7T g 5=none:=by
      cases e:q7T g 5 with
      | none=>rfl
      | some z=>rw[e] at h;exact absurd h (hc 5 (by omega) z e)
     rw[n5] at h
     have n6:q7T g 6=none:=by
      cases e:q7T g 6 with
      | none=>rfl
      | some z=>rw[e] at h;exact absurd h (hc 6 (by omega) z e)
     refine⟨h1,h2,hf.1,hf.2,fun k k3 k6=>?_,fun y a hy ha hm=>h4 ?_⟩
     ·have:k=3∨k=4∨k=5∨k=6:=by omega
      rcases this with rfl|rfl|rfl|rfl
      ·exact hk _ n3
      ·exact hk _ n4
      ·exact hk _ n5
      ·exact hk _ n6
     ·rw[List.getD_eq_getElem?_getD,hy,List.any_eq_true]
      exact⟨a,ha,by simpa using hm⟩
  ·rw[decide_eq_false h2] at h;simp at h
 ·rw[decide_eq_false h1] at h;simp at h
theorem Shape.ruleB {g:Gm_}(h:Shape g){r:Rule}(hr:r∈g.Rules):ruleB r=true:=by
 obtain⟨k,hk⟩:=List.getElem?_of_mem hr
 have:=z5X _ _ h.rule k r hk
 unfold z1G at this
 rw[Bool.or_eq_false_iff] at this
 simpa using this.1
theorem Shape.symB {g:Gm_}(h:Shape g){y:Symbol}(hy:y∈g.Symbols):symB y=true:=by
 obtain⟨k,hk⟩:=List.getElem?_of_mem hy
 have:=z5X _ _ h.sym k y hk
 unfold z3R at this
 rw[Bool.or_eq_false_iff] at this
 simpa using this.1
theorem Shape.pos {g:Gm_}(h:Shape g){r:Rule}(hr:r∈g.Rules){q:Eqn}(hq:q∈r.Equations):0≤q.At.Pos∧q.At.Pos≤(r.Right.length:Int):=by
 have:=h.ruleB hr
 unfold Go.Proofs.YtomdlgffolbdkaaGreat.ruleB at this
 simp only[Bool.and_eq_true,List.all_eq_true] at this
 have:=this.2.2.2.1 q hq
 unfold eqnB at this
 simp only[Bool.and_eq_true,decide_eq_true_eq] at this
 exact this.2.2
def typK (g:Gm_)(r:Rule)(k n p t:Int)(sy nm:ByteArray)(ts:List Int):Int:=
 if k=1 then t else if k=2 then (if r.Literal=true then 1 else 0) else if k=3 then (z0E g r ⟨p,nm⟩).1.Type_
 else if k=4 then (if ts.length=2∧ts.getD 0 0=(opT n).1∧ts.getD 1 0=(opT n).2.1 then (opT n).2.2 else 0)
 else if k=5 then (if ts.length=3∧ts.getD 0 0=3∧ts.getD 1 0=ts.getD 2 0 then ts.getD 1 0 else 0)
 else if k=6 then (if 0≤p∧p≤(r.Right.length:Int) then 4 else 0) else if k=7 then 4
 else if k=8 then (if ts.length=1∧ts.getD 0 0=4 then (z2z (q6l g sy).1 nm).1.Type_ else 0) else 0
mutual
def typE (g:Gm_)(r:Rule):Expr→Int
 | ⟨k,n,p,t,sy,nm,a⟩=>typK g r k n p t sy nm (k2v g r a)
def k2v (g:Gm_)(r:Rule):List Expr→List Int
 | []=>[]
 | x::xs=>typE g r x::k2v g r xs
end
theorem j7w (g:Gm_)(r:Rule):∀ l,k2v g r l=l.map (typE g r)
 | []=>rfl
 | x::xs=>by rw[k2v,j7w g r xs];rfl
theorem k0J (g:Gm_)(r:Rule)(e:Expr):typE g r e=typK g r e.Kind e.N e.Pos e.Type_ e.Symbol e.Name (e.Args.map (typE g r)):=by
 cases e;rw[typE,j7w]
theorem j4X {y:Symbol}{s:ByteArray}(h:(z2z y s).2≠true):(z2z y s).1=zA:=by
 unfold z2z at h ⊢
 cases hf:y.Attributes.find? (fun a=>decide (a.Name=s)) with
 | none=>rfl
 | some a=>rw[hf] at h;exact absurd rfl h
theorem j6s {g:Gm_}(h:GOk g)(s nm:ByteArray):q6Z g s nm=some (z2z (q6l g s).1 nm).1.Type_:=by
 unfold q6Z
 rw[z1A h,bsS]
 try dsimp only
 rw[j0J,bsS]
 try dsimp only
 by_cases hb:(z2z (q6l g s).1 nm).2=true
 ·rw[ifP hb]
 ·rw[ifN hb,j4X hb];rfl
theorem k2w (g:Gm_){r:Rule}(hl:ROk r)(e:Expr):∀ m,fuE e≤m→Sz.szd e≤1048576→q7X m g r e=some (typE g r e):=by
 induction e using z1s with
 | h e ih=>
  intro m hm hs
  obtain⟨m,rfl⟩:∃ q,m=q+1:=⟨m-1,by have:=z5x e;omega⟩
  show z0c (q7X m) g r e=_
  have hlen:e.Args.length≤1048576:=by have:=q6o e;have:=q7f e.Args;omega
  have hloop:∀ (xs:List Expr) (i:Nat) (s:List Int),(∀ x∈xs,x∈e.Args)→s.length+xs.length≤1048576→eachL (z1n (q7X m) g r) i xs s=some (s++xs.map (typE g r)):=by
   intro xs
   induction xs with
   | nil=>intro i s _ _;simp[eachL]
   | cons x xs ihx=>
    intro i s hx hn
    simp only[lnC] at hn
    have e1:z1n (q7X m) g r i x s=some (s++[typE g r x]):=by
     unfold z1n
     have hxe:=hx x (by simp)
     rw[ih x hxe m (by have:=z4E hxe;omega) (by have:=k3f hxe;omega),bsS,q3P (by constructor<;>omega)]
    rw[eachL,e1,bsS,ihx _ _ (fun y hy=>hx y (by simp[hy])) (by simp;omega)];simp
  unfold z0c
  rw[hloop e.Args 0 [] (fun _ h=>h) (by simpa using hlen),bsS,List.nil_append,k0J]
  generalize e.Args.map (typE g r)=ts
  unfold typK
  by_cases k1:e.Kind=1
  ·rw[ifP k1,ifP k1]
  rw[ifN k1,ifN k1]
  by_cases k2:e.Kind=2
  ·rw[ifP k2,ifP k2,bsS]
   by_cases hL:r.Literal=true
   ·rw[ifP hL,ifP hL]
   ·rw[ifN hL,ifN hL]
    simp[k2]
  rw[ifN k2,ifN k2,bsS,ifN (by simp)]
  by_cases k3:e.Kind=3
  ·rw[ifP k3,ifP k3,z8n g hl];rfl
  rw[ifN k3,ifN k3]
  by_cases k4:e.Kind=4
  ·rw[ifP k4,ifP k4,bsS]
   by_cases hn:ts.length=2
   ·obtain⟨a,b,rfl⟩:∃ a b,ts=[a,b]:=by
     match ts,hn with
     | [a,b],_=>exact⟨a,b,rfl⟩
    rw[ifP (by simp),k4b,bsS]
    simp only[List.getElem?_cons_zero,List.getElem?_cons_succ,bsS,List.getD_cons_zero,List.getD_cons_succ]
    by_cases ha:a=(opT e.N).1
    ·rw[ifP ha,bsS]
     by_cases hb:b=(opT e.N).2.1
     ·rw[ifP (by simp[hb]),ifP ⟨hn,ha,hb⟩]
     ·rw[ifN (by simp[hb]),ifN fun h=>hb h.2.2]
    ·rw[ifN ha,bsS,ifN (by simp),ifN fun h=>ha h.2.1]
   ·have hz:(if ts.length=2∧ts.getD 0 0=(opT e.N).1∧ts.getD 1 0=(opT e.N).2.1 then (opT e.N).2.2 else 0)=0:=ifN fun h=>hn h.1
    rw[hz,ifN (by simp;omega)]
    simp[k4]
  rw[ifN k4,ifN k4,bsS,ifN (by simp)]
  by_cases k5:e.Kind=5
  ·rw[ifP k5,ifP k5,bsS]
   by_cases hn:ts.length=3
   ·obtain⟨a,b,c,rfl⟩:∃ a b c,ts=[a,b,c]:=by
     match ts,hn with
     | [a,b,c],_=>exact⟨a,b,c,rfl⟩
    rw[ifP (by simp)]
    simp only[List.getElem?_cons_zero,List.getElem?_cons_succ,bsS,List.getD_cons_zero,List.getD_cons_succ]
    by_cases ha:a=3
    ·rw[ifP ha]
     by_cases hb:b=c
     ·rw[ifP hb,ifP ⟨hn,ha,hb⟩]
     ·rw[ifN hb,ifN fun h=>hb h.2.2]
    ·rw[ifN ha,ifN fun h=>ha h.2.1]
   ·have hz:(if ts.length=3∧ts.getD 0 0=3∧ts.getD 1 0=ts.getD 2 0 then ts.getD 1 0 else 0)=0:=ifN fun h=>hn h.1
    rw[hz,ifN (by simp;omega)]
    simp[k5]
  rw[ifN k5,ifN k5,bsS,ifN (by simp)]
  by_cases k6:e.Kind=6
  ·rw[ifP k6,ifP k6,z8J,bsS,bsS]
   by_cases hp:0≤e.Pos∧e.Pos≤(r.Right.length:Int)
   ·rw[decide_eq_true hp,ifP hp];rfl
   ·rw[decide_eq_false hp,ifN hp]
    simp[k6]
  rw[ifN k6,ifN k6,bsS,ifN (by simp),bsS]
  by_cases k7:e.Kind=7
  ·rw[ifP (by simp[k7]),ifP k7]
  rw[ifN (by simp[k7]),ifN k7]
  by_cases k8:e.Kind=8
  ·rw[ifP k8,ifP k8,bsS]
   by_cases hn:ts.length=1
   ·obtain⟨a,rfl⟩:∃ a,ts=[a]:=by
     match ts,hn with
     | [a],_=>exact⟨a,rfl⟩
    rw[ifP (by simp)]
    simp only[List.getElem?_cons_zero,bsS,List.getD_cons_zero]
    by_cases ha:a=4
    ·rw[ifP (by simp[ha]),ifP ⟨hn,ha⟩,z2A,bsS]
     try dsimp only
     rw[z7B];rfl
    ·rw[ifN (by simp[ha]),ifN fun h=>ha h.2]
   ·rw[ifN (by simp;omega),ifN fun h=>hn h.1];rfl
  rw[ifN k8,ifN k8];rfl
theorem j6t (g:Gm_){r:Rule}(hl:ROk r){e:Expr}(hs:Sz.szd e≤1048576):z0d g r e=some (typE g r e):=q9N (fuE e) fun m hm=>k2w g hl e m hm hs
theorem k2x {g:Gm_}(h:GOk g){r:Rule}(hl:ROk r)(e:Expr):∀ m,fuE e≤m→q8Q m g r e=some (typE g r e):=by
 induction e using z1s with
 | h e ih=>
  intro m hm
  obtain⟨m,rfl⟩:∃ q,m=q+1:=⟨m-1,by have:=z5x e;omega⟩
  show z0l (q8Q m) g r e=_
  have hx:∀ x∈e.Args,q8Q m g r x=some (typE g r x):=fun x hxe=>ih x hxe m (by have:=z4E hxe;omega)
  unfold z0l
  rw[k0J]
  unfold typK
  by_cases k1:e.Kind=1
  ·rw[ifP k1,ifP k1]
  rw[ifN k1,ifN k1]
  by_cases k2:e.Kind=2
  ·rw[ifP k2,ifP k2,← apply_ite some]
  rw[ifN k2,ifN k2]
  by_cases k3:e.Kind=3
  ·rw[ifP k3,ifP k3,z5C,bsS]
   unfold z0E
   by_cases hp:0≤e.Pos∧e.Pos≤(r.Right.length:Int)
   ·rw[ifP (by simpa using hp),ifP hp,z4s hl,bsS,j6s h];rfl
   ·rw[ifN (by simpa using hp),ifN hp];rfl
  rw[ifN k3,ifN k3]
  by_cases k4:e.Kind=4
  ·rw[ifP k4,ifP k4]
   unfold z9l
   rw[k4c,bsS]
   try dsimp only
   by_cases hn:e.Args.length=2
   ·obtain⟨a,b,hab⟩:∃ a b,e.Args=[a,b]:=by
     match e.Args,hn with
     | [a,b],_=>exact⟨a,b,rfl⟩
    rw[hab] at hx
    rw[hab,ifP (by simp)]
    simp only[List.getElem?_cons_zero,List.getElem?_cons_succ,bsS,List.map_cons,List.map_nil,List.getD_cons_zero,List.getD_cons_succ]
    rw[hx a (by simp),bsS]
    by_cases ha:typE g r a=(opT e.N).1
    ·rw[ifP ha,hx b (by simp),bsS]
     by_cases hb:typE g r b=(opT e.N).2.1
     ·rw[ifP hb,ifP ⟨by simp,ha,hb⟩];rfl
     ·rw[ifN hb,ifN fun h=>hb h.2.2];rfl
    ·rw[ifN ha,ifN fun h=>ha h.2.1];rfl
   ·rw[ifN (by omega),ifN fun h=>hn (by simpa using h.1)];rfl
  rw[ifN k4,ifN k4]
  by_cases k5:e.Kind=5
  ·rw[ifP k5,ifP k5]
   unfold z9m
   by_cases hn:e.Args.length=3
   ·obtain⟨a,b,c,hab⟩:∃ a b c,e.Args=[a,b,c]:=by
     match e.Args,hn with
     | [a,b,c],_=>exact⟨a,b,c,rfl⟩
    rw[hab] at hx
    rw[hab,ifP (by simp)]
    simp only[List.getElem?_cons_zero,List.getElem?_cons_succ,bsS,List.map_cons,List.map_nil,List.getD_cons_zero,List.getD_cons_succ]
    rw[hx a (by simp),bsS]
    by_cases ha:typE g r a=3
    ·rw[ifP ha,hx b (by simp),bsS,hx c (by simp),bsS]
     by_cases hb:typE g r b=typE g r c
     ·rw[ifP hb,ifP ⟨by simp,ha,hb⟩];rfl
     ·rw[ifN hb,ifN fun h=>hb h.2.2];rfl
    ·rw[ifN ha,ifN fun h=>ha h.2.1];rfl
   ·rw[ifN (by omega),ifN fun h=>hn (by simpa using h.1)];rfl
  rw[ifN k5,ifN k5]
  by_cases k6:e.Kind=6
  ·rw[ifP k6,ifP k6,z5C,bsS]
   by_cases hp:0≤e.Pos∧e.Pos≤(r.Right.length:Int)
   ·rw[ifP (by simpa using hp),ifP hp]
   ·rw[ifN (by simpa using hp),ifN hp]
  rw[ifN k6,ifN k6]
  by_cases k7:e.Kind=7
  ·rw[ifP k7,ifP k7]
  rw[ifN k7,ifN k7]
  by_cases k8:e.Kind=8
  ·rw[ifP k8,ifP k8]
   by_cases hn:e.Args.length=1
   ·obtain⟨a,hab⟩:∃ a,e.Args=[a]:=by
     match e.Args,hn with
     | [a],_=>exact⟨a,rfl⟩
    rw[hab] at hx
    rw[hab,ifP (by simp)]
    simp only[List.getElem?_cons_zero,bsS,List.map_cons,List.map_nil,List.getD_cons_zero]
    rw[hx a (by simp),bsS]
    by_cases ha:typE g r a=4
    ·rw[ifP ha,ifP ⟨by simp,ha⟩,j6s h];rfl
    ·rw[ifN ha,ifN fun h=>ha h.2]
   ·rw[ifN (by omega),ifN fun h=>hn (by simpa using h.1)]
  rw[ifN k8,ifN k8]
theorem j6u {g:Gm_}(h:GOk g){r:Rule}(hl:ROk r)(e:Expr):z0m g r e=some (typE g r e):=q9N (fuE e) fun m hm=>k2x h hl e m hm
def conT (g:Gm_)(r:Rule)(q:Cn):Bool:=(decide (typE g r q.Target=4)&&decide (typE g r q.Value=2))&&decide ((z2z (q6l g q.Symbol).1 q.Name).1.Mode=3)
def typR (g:Gm_)(r:Rule):Bool:=(r.Equations.all fun q=>decide (typE g r q.Expr=(z0E g r q.At).1.Type_))&&r.Contributions.all (conT g r)
theorem k2y (g:Gm_){r:Rule}(hr:Sz.szd r≤1048576):z2l g r=some (!typR g r):=by
 have hl:=q7C hr
 unfold z2l typR
 rw[q5e (c:=true) (q:=fun q:Eqn=>decide (typE g r q.Expr=(z0E g r q.At).1.Type_)) fun k x hx=>by
  unfold z8z
  rw[z8n g hl,bsS]
  try dsimp only
  rw[j6t g hl (Nat.le_trans (z6J hx) hr),bsS]
  by_cases hp:typE g r x.Expr=(z0E g r x.At).1.Type_
  ·rw[ifP hp,ifP (by simpa using hp)]
  ·rw[ifN hp,ifN (by simpa using hp)]]
 rw[q5e (c:=true) (q:=conT g r) fun k x hx=>by
  have hs:=z7C hx
  unfold z8A conT
  rw[z2A,bsS]
  try dsimp only
  rw[z7B,bsS]
  try dsimp only
  rw[j6t g hl (Nat.le_trans hs.1 hr),bsS]
  by_cases h1:typE g r x.Target=4
  ·rw[ifP h1,j6t g hl (Nat.le_trans hs.2 hr),bsS,bsS,decide_eq_true h1]
   cases decide (typE g r x.Value=2) with
   | false=>rfl
   | true=>
    rw[Bool.not_true,ifN (by simp),bsS]
    cases decide ((z2z (q6l g x.Symbol).1 x.Name).1.Mode=3)<;>rfl
  ·rw[ifN h1,decide_eq_false h1];rfl]
 cases r.Equations.all fun q=>decide (typE g r q.Expr=(z0E g r q.At).1.Type_) with
 | false=>rfl
 | true=>cases r.Contributions.all (conT g r)<;>rfl
theorem k2z {g:Gm_}(h:GOk g){r:Rule}(hr:Sz.szd r≤1048576)(hp:∀ q∈r.Equations,0≤q.At.Pos∧q.At.Pos≤(r.Right.length:Int)):z3A g r=some (typR g r):=by
 have hl:=q7C hr
 unfold z3A typR
 rw[q5e (c:=false) (q:=fun q:Eqn=>decide (typE g r q.Expr=(z0E g r q.At).1.Type_)) fun k x hx=>by
  unfold j0c
  rw[j6u h hl,bsS,z4s hl,bsS,j6s h,bsS]
  have e:(z2z (q6l g (q8n r x.At.Pos)).1 x.At.Name).1.Type_=(z0E g r x.At).1.Type_:=by unfold z0E;rw[ifP (hp x hx)]
  rw[e]
  by_cases hp:typE g r x.Expr=(z0E g r x.At).1.Type_
  ·rw[ifP hp,ifP (by simpa using hp)]
  ·rw[ifN hp,ifN (by simpa using hp)]]
 rw[q5e (c:=false) (q:=conT g r) fun k x hx=>by
  unfold j0d conT
  rw[z1A h,bsS]
  try dsimp only
  rw[j0J,bsS]
  try dsimp only
  have e:(if (z2z (q6l g x.Symbol).1 x.Name).2=true then some (!decide ((z2z (q6l g x.Symbol).1 x.Name).1.Mode=3)) else some true)=some (!decide ((z2z (q6l g x.Symbol).1 x.Name).1.Mode=3)):=by
   by_cases hb:(z2z (q6l g x.Symbol).1 x.Name).2=true
   ·rw[ifP hb]
   ·rw[ifN hb,j4X hb];rfl
  rw[e,bsS]
  cases decide ((z2z (q6l g x.Symbol).1 x.Name).1.Mode=3) with
  | false=>rw[Bool.and_false];rfl
  | true=>
   rw[Bool.not_true,ifN (by simp),j6u h hl,bsS,bsS]
   cases decide (typE g r x.Target=4) with
   | false=>rfl
   | true=>
    rw[Bool.not_true,ifN (by simp),j6u h hl,bsS,bsS]
    cases decide (typE g r x.Value=2)<;>rfl]
 cases r.Equations.all fun q=>decide (typE g r q.Expr=(z0E g r q.At).1.Type_) with
 | false=>rfl
 | true=>cases r.Contributions.all (conT g r)<;>rfl
def atS (g:Gm_)(n:ByteArray):Option Nat:=g.Symbols.findIdx? fun y=>decide (y.Name=n)
def atI (g:Gm_)(n:ByteArray):Int:=match atS g n with
 | some j=>(j:Int)
 | none=>-1
theorem z5H {α ρ:Type}{q:α→Bool}{c:Nat→ρ}:∀ {xs:List α} {i:Nat} {f:Nat→α→Unit→Option (Unit ⊕ ρ)},(∀ j x,xs[j]?=some x→f (i+j) x ()=some (if q x=true then .inr (c (i+j)) else .inl ())) →
  findL f i xs ()=some (match xs.findIdx? q with|some j=>.inr (c (i+j))|none=>.inl ())
 | [],_,_,_=>rfl
 | x::xs,i,f,h=>by
  rw[findL,show f i x ()=_ from h 0 x rfl,bsS,List.findIdx?_cons]
  by_cases hq:q x=true
  ·rw[ifP hq,ifP hq]
  ·rw[ifN hq,ifN hq]
   have ih:=z5H (q:=q) (c:=c) (xs:=xs) (i:=i+1) (f:=f) fun j y hy=>by
    have:=h (j+1) y (by simpa using hy)
    rw[show i+1+j=i+(j+1) by omega];exact this
   dsimp only
   rw[ih]
   cases xs.findIdx? q with
   | none=>rfl
   | some j=>simp only[Option.map_some];rw[show i+1+j=i+(j+1) by omega]
theorem j4Y (g:Gm_)(n:ByteArray):z0n g n=some (atI g n):=by
 unfold z0n atI atS
 rw[z5H (q:=fun y:Symbol=>decide (y.Name=n)) (c:=fun k=>(k:Int)) fun j x hx=>by
  unfold j4s
  by_cases hn:x.Name=n
  ·rw[ifP hn,ifP (by simpa using hn)]
  ·rw[ifN hn,ifN (by simpa using hn)]]
 cases g.Symbols.findIdx? fun y=>decide (y.Name=n) with
 | none=>rfl
 | some j=>dsimp only;rw[Nat.zero_add];rfl
theorem k5n {g:Gm_}{n:ByteArray}{j:Nat}(h:atS g n=some j):j<g.Symbols.length:=by
 unfold atS at h
 rw[List.findIdx?_eq_some_iff_getElem] at h
 exact h.1
def okAt (g:Gm_)(hs:List Int)(n:ByteArray):Bool:=match atS g n with
 | some j=>decide (0<hs.getD j 0)
 | none=>false
def j2h (g:Gm_)(hs:List Int)(n:ByteArray):Bool:=g.Rules.any fun r=>decide (r.Left=n)&&r.Right.all (okAt g hs)
theorem j0P {α:Type}{q:α→Bool}{f:Nat→α→Bool→Option Bool}:∀ (xs:List α) (i:Nat) (b:Bool),(∀ k x s,x∈xs→f k x s=some (s&&q x))→eachL f i xs b=some (b&&xs.all q)
 | [],_,b,_=>by simp[eachL]
 | x::xs,i,b,h=>by
  rw[eachL,h i x b (by simp),bsS,j0P xs (i+1) _ fun k y s hy=>h k y s (by simp[hy]),List.all_cons,Bool.and_assoc]
theorem getD_some {hs:List Int}{j:Nat}(h:j<hs.length):hs[j]?=some (hs.getD j 0):=by
 rw[List.getD_eq_getElem?_getD,List.getElem?_eq_getElem h];rfl
theorem k5o {g:Gm_}{hs:List Int}(hl:hs.length=g.Symbols.length)(n:ByteArray):z1v n g hs=some (match atS g n with|some j=>hs.getD j 0|none=>0):=by
 unfold z1v atS
 rw[z5H (q:=fun y:Symbol=>decide (y.Name=n)) (c:=fun k=>hs.getD k 0) fun j x hx=>by
  unfold z7f
  have hj:j<g.Symbols.length:=(List.getElem?_eq_some_iff.1 hx).1
  by_cases hn:x.Name=n
  ·rw[ifP hn,ifP (by simpa using hn),Nat.zero_add,getD_some (by omega)];rfl
  ·rw[ifN hn,ifN (by simpa using hn)]]
 cases g.Symbols.findIdx? fun y=>decide (y.Name=n) with
 | none=>rfl
 | some j=>dsimp only;rw[Nat.zero_add];rfl
theorem j8S {g:Gm_}{hs:List Int}(hl:hs.length=g.Symbols.length)(xs:List ByteArray)(b:Bool):eachL (z6q g hs) 0 xs b=some (b&&xs.all (okAt g hs)):=
 j0P xs 0 b fun k x s _=>by
  unfold z6q okAt
  cases s with
  | false=>rfl
  | true=>
   rw[ifP rfl,k5o hl,bsS,bsS,Bool.true_and]
   cases atS g x<;>rfl
theorem j8T {g:Gm_}{hs:List Int}(hl:hs.length=g.Symbols.length)(xs:List ByteArray)(b:Bool):eachL (z3a g hs) 0 xs b=some (b&&xs.all (okAt g hs)):=
 j0P xs 0 b fun k x s _=>by
  unfold z3a okAt
  rw[j4Y,bsS]
  unfold atI
  cases s with
  | false=>rfl
  | true=>
   cases hj:atS g x with
   | none=>rfl
   | some j=>
    have:=k5n hj
    dsimp only
    rw[ifP rfl,bsS,decide_eq_true (Int.natCast_nonneg j),ifP rfl]
    unfold q8L
    by_cases h0:(0:Int)<(j:Int)
    ·rw[ifP h0,bsS,q3P (Int.natCast_nonneg j),tnC,getD_some (by omega)];rfl
    ·obtain rfl:j=0:=by omega
     rw[ifN h0,bsS,q3P (by omega),show (0:Int).toNat=0 from rfl,getD_some (by omega)];rfl
theorem k0K {g:Gm_}{hs:List Int}(hl:hs.length=g.Symbols.length)(n:ByteArray):z0o g n hs=some (j2h g hs n):=by
 unfold z0o j2h
 rw[q5e (c:=true) (q:=fun r:Rule=>!(decide (r.Left=n)&&r.Right.all (okAt g hs))) fun k x hx=>by
  unfold z6e
  rw[j8T hl,bsS]
  cases (decide (x.Left=n)&&x.Right.all (okAt g hs))<;>rfl]
 have e:(g.Rules.all fun r=>!(decide (r.Left=n)&&r.Right.all (okAt g hs)))=!(g.Rules.any fun r=>decide (r.Left=n)&&r.Right.all (okAt g hs)):=by rw[List.not_any_eq_all_not]
 rw[e]
 cases g.Rules.any fun r=>decide (r.Left=n)&&r.Right.all (okAt g hs)<;>rfl
def HsOk (g:Gm_)(hs:List Int):Prop:=hs.length=g.Symbols.length∧∀ j,0≤hs.getD j 0
theorem HsOk.set {g:Gm_}{hs:List Int}(h:HsOk g hs){k:Nat}{v:Int}(hv:0≤v):HsOk g (hs.set k v):=by
 refine⟨by simpa using h.1,fun j=>?_⟩
 rw[List.getD_eq_getElem?_getD,List.getElem?_set]
 split
 ·split
  ·exact hv
  ·simp
 ·rw[← List.getD_eq_getElem?_getD];exact h.2 j
theorem k0L {g:Gm_}{hs:List Int}(hl:hs.length=g.Symbols.length){v:Int}(k:Nat)(x:Symbol)(hk:k<g.Symbols.length):∀ (rs:List Rule) (i:Nat) (s:List Int),s.length=g.Symbols.length →
  eachL (z4e g v hs k x) i rs s=some (if (rs.any fun r=>decide (r.Left=x.Name)&&r.Right.all (okAt g hs))=true then s.set k v else s)
 | [],i,s,_=>by simp[eachL]
 | r::rs,i,s,hs'=>by
  have e:z4e g v hs k x i r s=some (if (decide (r.Left=x.Name)&&r.Right.all (okAt g hs))=true then s.set k v else s):=by
   unfold z4e
   rw[j8S hl,bsS]
   cases (decide (r.Left=x.Name)&&r.Right.all (okAt g hs)) with
   | false=>rfl
   | true=>rw[ifP rfl,ifP rfl,List.getElem?_eq_getElem (by omega)];rfl
  rw[eachL,e,bsS]
  by_cases hb:(decide (r.Left=x.Name)&&r.Right.all (okAt g hs))=true
  ·rw[ifP hb,k0L hl k x hk rs (i+1) (s.set k v) (by simpa using hs')]
   have:(r::rs).any (fun r=>decide (r.Left=x.Name)&&r.Right.all (okAt g hs))=true:=by rw[List.any_cons,hb];rfl
   rw[ifP this,List.set_set,ite_self]
  ·rw[ifN hb,k0L hl k x hk rs (i+1) s hs']
   have:(r::rs).any (fun r=>decide (r.Left=x.Name)&&r.Right.all (okAt g hs))=rs.any (fun r=>decide (r.Left=x.Name)&&r.Right.all (okAt g hs)):=by rw[List.any_cons,Bool.eq_false_iff.2 hb];rfl
   rw[this]
theorem k5M {g:Gm_}{hs:List Int}(h:HsOk g hs){v:Int}{k:Nat}{x:Symbol}(hk:k<g.Symbols.length){s:List Int}(hs' : s.length=g.Symbols.length) :
  z4f g v hs k x s=some (if (decide (hs.getD k 0=0)&&j2h g hs x.Name)=true then s.set k v else s):=by
 have h0:=h.2 k
 unfold z4f
 rw[getD_some (by rw[h.1];exact hk),bsS]
 by_cases hz:hs.getD k 0=0
 ·rw[ifN (by omega),decide_eq_true hz,k0L h.1 k x hk _ _ _ hs'];rfl
 ·rw[ifP (by omega),decide_eq_false hz];rfl
theorem k5N {g:Gm_}{hs:List Int}(h:HsOk g hs){v:Int}{k:Nat}{x:Symbol}(hk:k<g.Symbols.length){s:List Int}(hs' : s.length=g.Symbols.length) :
  z1q g hs v k x s=some (if (decide (hs.getD k 0=0)&&j2h g hs x.Name)=true then s.set k v else s):=by
 unfold z1q
 rw[getD_some (by rw[h.1];exact hk),bsS]
 by_cases hz:hs.getD k 0=0
 ·rw[ifP hz,decide_eq_true hz,k0K h.1,bsS,Bool.true_and]
  cases j2h g hs x.Name with
  | false=>rfl
  | true=>rw[ifP rfl,ifP rfl,List.getElem?_eq_getElem (by omega)];rfl
 ·rw[ifN hz,decide_eq_false hz];rfl
theorem j2i {g:Gm_}{hs:List Int}(h:HsOk g hs){v:Int}(hv:0≤v):∀ (xs:List Symbol) (i:Nat) (s:List Int),i+xs.length=g.Symbols.length→HsOk g s →
  ∃ t,eachL (z4f g v hs) i xs s=some t∧eachL (z1q g hs v) i xs s=some t∧HsOk g t
 | [],i,s,_,hs'=>⟨s,rfl,rfl,hs'⟩
 | x::xs,i,s,hi,hs'=>by
  simp only[lnC] at hi
  have e1:=k5M (x:=x) h (v:=v) (k:=i) (by omega) hs'.1
  have e2:=k5N (x:=x) h (v:=v) (k:=i) (by omega) hs'.1
  have hn:HsOk g (if (decide (hs.getD i 0=0)&&j2h g hs x.Name)=true then s.set i v else s):=by
   split
   ·exact hs'.set hv
   ·exact hs'
  obtain⟨t,h1,h2,h3⟩:=j2i h hv xs (i+1) _ (by omega) hn
  exact⟨t,by rw[eachL,e1,bsS,h1],by rw[eachL,e2,bsS,h2],h3⟩
theorem z8L {g:Gm_}(hn:g.Symbols.length≤1048576):∃ l,z1U g=some l∧z0p g=some l∧HsOk g l:=by
 have key:∀ (m k:Nat) (hs:List Int),k+m=g.Symbols.length+1→1≤k→HsOk g hs→∃ t,q5s (z0J g) ((k:Int),hs)=some t∧q5s (q8p g) (hs,(k:Int))=some t∧HsOk g t:=by
  intro m
  induction m with
  | zero=>
   intro k hs hk _ h
   refine⟨hs,q3U ?_,q3U ?_,h⟩
   ·unfold z0J;dsimp only;rw[ifN (by omega)]
   ·unfold q8p;dsimp only;rw[ifN (by omega)]
  | succ m ih=>
   intro k hs hk h1 h
   have hl:=h.1
   obtain⟨t,e1,e2,e3⟩:=j2i h (v:=(k:Int)) (by omega) g.Symbols 0 hs (by omega) h
   obtain⟨q,f1,f2,f3⟩:=ih (k+1) t (by omega) (by omega) e3
   refine⟨q,?_,?_,f3⟩
   ·have e:z0J g ((k:Int),hs)=some (.inl (((k+1:Nat):Int),t)):=by
     unfold z0J;dsimp only
     rw[ifP (by omega),q3P (by refine⟨?_,?_,?_⟩<;>omega),q3P (by simp),e1,bsS,q3P (by constructor<;>omega)];rfl
    rw[q4G e];exact f1
   ·have e:q8p g (hs,(k:Int))=some (.inl (t,((k+1:Nat):Int))):=by
     unfold q8p;dsimp only
     rw[ifP (by omega),q3P (by simp only[List.length_nil];constructor<;>omega),e2,bsS,q3P (by constructor<;>omega)];rfl
    rw[q4G e];exact f2
 have h0:HsOk g (List.replicate g.Symbols.length (0:Int)):=⟨by simp,fun j=>by rw[List.getD_eq_getElem?_getD,List.getElem?_replicate];split<;>simp⟩
 obtain⟨t,f1,f2,f3⟩:=key g.Symbols.length 1 (List.replicate g.Symbols.length 0) (by omega) (by omega) h0
 refine⟨t,?_,?_,f3⟩
 ·unfold z1U
  rw[q3P (by refine⟨?_,?_,?_⟩<;>omega),show q5s (z0J g) (1,List.replicate g.Symbols.length 0)=some t from f1];rfl
 ·unfold z0p
  rw[q3P (by refine⟨?_,?_,?_⟩<;>omega),show q5s (q8p g) (List.replicate g.Symbols.length 0,1)=some t from f2];rfl
theorem Shape.names {g:Gm_}(h:Shape g){k j:Nat}{x y:Symbol}(hk:g.Symbols[k]?=some x)(hj:g.Symbols[j]?=some y)(hn:x.Name=y.Name):k=j:=by
 have key:∀ {k j:Nat} {x y:Symbol},g.Symbols[k]?=some x→g.Symbols[j]?=some y→x.Name=y.Name→¬ k<j:=by
  intro k j x y hk hj hn hlt
  have:=z5X _ _ h.sym j y hj
  unfold z3R at this
  rw[Bool.or_eq_false_iff] at this
  have h2:=this.2
  unfold dupB at h2
  rw[List.nil_append,List.any_eq_false] at h2
  exact h2 x (List.mem_of_getElem? (i:=k) (by rw[List.getElem?_take,ifP hlt];exact hk)) (by simpa using hn)
 have h1:=key hk hj hn
 have h2:=key hj hk hn.symm
 omega
theorem Shape.at_ {g:Gm_}(h:Shape g){k:Nat}{x:Symbol}(hk:g.Symbols[k]?=some x):atS g x.Name=some k:=by
 unfold atS
 cases he:g.Symbols.findIdx? fun y=>decide (y.Name=x.Name) with
 | none=>
  rw[List.findIdx?_eq_none_iff] at he
  have:=he x (List.mem_of_getElem? hk)
  simp at this
 | some j=>
  rw[List.findIdx?_eq_some_iff_getElem] at he
  obtain⟨hj,h1,_⟩:=he
  rw[h.names (List.getElem?_eq_getElem hj) hk (by simpa using h1)]
noncomputable def hgtL (g:Gm_):List Int:=(z1U g).getD []
noncomputable def j8U (g:Gm_):Int×Int:=
 if (z5G g).1=0 then
  match g.Rules.findIdx? fun r=>!typR g r with
  | some k=>(7,(k:Int))
  | none=>match (hgtL g).findIdx? fun x=>decide (x=0) with
   | some k=>(8,(k:Int))
   | none=>(0,0)
 else z5G g
theorem k2A {g:Gm_}(h:Sz.szd g≤1048576):q8I g=some (j8U g):=by
 unfold q8I j8U
 rw[k0H h,bsS]
 dsimp only
 by_cases h0:(z5G g).1=0
 ·rw[ifP h0,ifP h0]
  rw[z5F (q:=fun r=>!typR g r) (c:=fun k=>((7:Int),(k:Int))) fun k r hr=>by
   unfold z4w
   rw[k2y g (Nat.le_trans (z1c hr) h),bsS,← apply_ite some]]
  cases g.Rules.findIdx? fun r=>!typR g r with
  | some k=>dsimp only;rw[Nat.zero_add];rfl
  | none=>
   obtain⟨l,e1,e2,e3⟩:=z8L (g:=g) (j6o h).1
   rw[bsS,z2c,e1,bsS]
   unfold hgtL
   rw[e1,Option.getD_some]
   rw[z5F (q:=fun x:Int=>decide (x=0)) (c:=fun k=>((8:Int),(k:Int))) fun k x hx=>by
    unfold z4x
    by_cases hz:x=0
    ·rw[ifP hz,ifP (by simpa using hz)]
    ·rw[ifN hz,ifN (by simpa using hz)]]
   dsimp only
   cases l.findIdx? fun x=>decide (x=0) with
   | some k=>dsimp only;rw[Nat.zero_add];rfl
   | none=>rfl
 ·rw[ifN h0,ifN h0]
theorem j7x {g:Gm_}(h:Sz.szd g≤1048576):q7J g=some (j8U g):=by
 unfold q7J j8U
 rw[k0I h,bsS]
 dsimp only
 by_cases h0:(z5G g).1=0
 ·have hS:=j7v h0
  rw[ifP h0,ifP h0]
  rw[z5F (q:=fun r=>!typR g r) (c:=fun k=>((7:Int),(k:Int))) fun k r hr=>by
   unfold z4z
   rw[k2z (z0A h) (Nat.le_trans (z1c hr) h) fun q hq=>hS.pos hr hq,bsS]
   cases typR g r<;>rfl]
  cases g.Rules.findIdx? fun r=>!typR g r with
  | some k=>dsimp only;rw[Nat.zero_add];rfl
  | none=>
   obtain⟨l,e1,e2,e3⟩:=z8L (g:=g) (j6o h).1
   rw[bsS,z2c]
   unfold hgtL
   rw[e1,Option.getD_some]
   have hprod:∀ k x,g.Symbols[k]?=some x→q8J g x.Name=some (!decide (l.getD k 0=0)):=by
    intro k x hk
    have hk' : k<g.Symbols.length:=(List.getElem?_eq_some_iff.1 hk).1
    have ha:atI g x.Name=(k:Int):=by unfold atI;rw[hS.at_ hk]
    unfold q8J z2M
    rw[j4Y,ha,bsS,ifN (by omega),e2,bsS,q3P (by omega),tnC,getD_some (by rw[e3.1];exact hk'),bsS,bsS]
    have:=e3.2 k
    congr 1
    by_cases hz:l.getD k 0=0
    ·rw[decide_eq_true hz,decide_eq_false (by omega)];rfl
    ·rw[decide_eq_false hz,decide_eq_true (by omega)];rfl
   have hrun:∀ (xs:List Symbol) (ys:List Int) (i:Nat),(∀ j x,xs[j]?=some x→g.Symbols[i+j]?=some x)→ys.length=xs.length→(∀ j y,ys[j]?=some y→l.getD (i+j) 0=y) →
     findL (q9v g) i xs ()=some (match ys.findIdx? fun x=>decide (x=0) with|some j=>.inr (8,((i+j:Nat):Int))|none=>.inl ()):=by
    intro xs
    induction xs with
    | nil=>
     intro ys i _ hl _
     obtain rfl:=List.eq_nil_of_length_eq_zero hl
     rfl
    | cons x xs ih=>
     intro ys i hx hl hy
     cases ys with
     | nil=>simp at hl
     | cons y ys=>
      have h1:=hprod i x (by simpa using hx 0 x rfl)
      have h2:l.getD i 0=y:=by simpa using hy 0 y rfl
      have ih:=ih ys (i+1) (fun j z hz=>by rw[show i+1+j=i+(j+1) by omega];exact hx (j+1) z (by simpa using hz)) (by simpa using hl) fun j z hz=>by
       rw[show i+1+j=i+(j+1) by omega];exact hy (j+1) z (by simpa using hz)
      rw[h2] at h1
      have e:q9v g i x ()=some (if y=0 then .inr (8,(i:Int)) else .inl ()):=by
       unfold q9v
       rw[h1,bsS]
       by_cases hz:y=0
       ·rw[decide_eq_true hz,ifP hz];rfl
       ·rw[decide_eq_false hz,ifN hz];rfl
      rw[findL,e,bsS,List.findIdx?_cons]
      by_cases hz:y=0
      ·rw[ifP hz,ifP (by simpa using hz)];rfl
      ·rw[ifN hz,ifN (by simpa using hz)]
       dsimp only
       rw[ih]
       cases ys.findIdx? fun x=>decide (x=0) with
       | none=>rfl
       | some j=>simp only[Option.map_some];rw[show i+1+j=i+(j+1) by omega]
   rw[hrun g.Symbols l 0 (fun j x hx=>by rw[Nat.zero_add];exact hx) e3.1 fun j y hy=>by rw[Nat.zero_add,List.getD_eq_getElem?_getD,hy];rfl]
   dsimp only
   cases l.findIdx? fun x=>decide (x=0) with
   | some k=>dsimp only;rw[Nat.zero_add];rfl
   | none=>rfl
 ·rw[ifN h0,ifN h0]
noncomputable def z5I (g:Gm_):Bool:=decide ((j8U g).1=0)
theorem j7y {g:Gm_}(h:Sz.szd g≤1048576):z0K g=some (z5I g):=by
 unfold z0K;rw[k2A h];rfl
theorem z7D {g:Gm_}(h:Sz.szd g≤1048576):z0Q g=some (z5I g):=by
 unfold z0Q;rw[j7x h];rfl
theorem z3T {g:Gm_}(h:z5I g=true):Shape g:=by
 refine j7v ?_
 unfold z5I at h
 rw[decide_eq_true_eq] at h
 unfold j8U at h
 by_cases h0:(z5G g).1=0
 ·exact h0
 ·rw[ifN h0] at h;exact h
theorem j4Z {n:Nat}{h:Nat→Int→Int}{f:Nat→List Int→Option (List Int)}(hf:∀ k s,k<n→s.length=n→f k s=some (s.set k (h k (s.getD k 0)))) :
  ∀ (m k:Nat) (s:List Int),k+m=n→s.length=n→eachN f k m s=some (s.mapIdx fun j x=>if k≤j then h j x else x)
 | 0,k,s,hk,hs=>by
  show some s=_
  congr 1
  symm
  apply List.ext_getElem?
  intro j
  rw[List.getElem?_mapIdx]
  cases hj:s[j]? with
  | none=>rfl
  | some x=>
   have:=(List.getElem?_eq_some_iff.1 hj).1
   rw[Option.map_some,ifN (by omega)]
 | m+1,k,s,hk,hs=>by
  rw[eachN,hf k s (by omega) hs,bsS,j4Z hf m (k+1) _ (by omega) (by simpa using hs)]
  congr 1
  apply List.ext_getElem?
  intro j
  rw[List.getElem?_mapIdx,List.getElem?_mapIdx,List.getElem?_set]
  by_cases hj:k=j
  ·subst hj
   have hk' : k<s.length:=by omega
   rw[ifP rfl,ifP hk',List.getElem?_eq_getElem hk',List.getD_eq_getElem?_getD,List.getElem?_eq_getElem hk',Option.map_some,Option.map_some,ifN (by omega),ifP (Nat.le_refl _)]
   rfl
  ·rw[ifN hj]
   cases hx:s[j]? with
   | none=>rfl
   | some x=>
    rw[Option.map_some,Option.map_some]
    by_cases h1:k+1≤j
    ·rw[ifP h1,ifP (by omega)]
    ·rw[ifN h1,ifN (by omega)]
def uniR (a b:Rl_):Rl_:=if Valid a∧Valid b∧a.N=b.N then ⟨a.N,a.Rows.mapIdx fun j x=>orI x (b.Rows.getD j 0)⟩ else a
theorem j8V {b:Rl_}(h:Valid b)(k:Nat):0≤b.Rows.getD k 0:=by
 rw[List.getD_eq_getElem?_getD]
 cases hx:b.Rows[k]? with
 | none=>simp
 | some x=>exact (h.2.2.2 x (List.mem_of_getElem? hx)).1
theorem j7z {a b:Rl_}(ha:Valid a)(hb:Valid b)(hN:a.N=b.N){f:Nat→List Int→Option (List Int)}(hf:f=q6N b):eachN f 0 a.Rows.length a.Rows=some (a.Rows.mapIdx fun j x=>orI x (b.Rows.getD j 0)):=by
 subst hf
 have hl:a.Rows.length=b.Rows.length:=by have:=ha.2.2.1;have:=hb.2.2.1;omega
 -- all rows stay at least 0
 have key:∀ (m k:Nat) (s:List Int),k+m=a.Rows.length→s.length=a.Rows.length→(∀ x∈s,0≤x)→eachN (q6N b) k m s=eachN (fun k s=>some (s.set k (orI (s.getD k 0) (b.Rows.getD k 0)))) k m s:=by
  intro m
  induction m with
  | zero=>intro k s _ _ _;rfl
  | succ m ih=>
   intro k s hk hs h0
   have e:q6N b k s=some (s.set k (orI (s.getD k 0) (b.Rows.getD k 0))):=by
    have hx:0≤s.getD k 0:=by
     rw[List.getD_eq_getElem?_getD,List.getElem?_eq_getElem (by omega:k<s.length)]
     exact h0 _ (List.getElem_mem _)
    unfold q6N
    rw[getD_some (by omega),bsS,getD_some (by omega),bsS]
    exact q3P ⟨hx,j8V hb k⟩
   rw[eachN,eachN,e,bsS,bsS]
   refine ih (k+1) _ (by omega) (by simpa using hs) fun x hx=>?_
   rcases List.mem_or_eq_of_mem_set hx with h|rfl
   ·exact h0 x h
   ·unfold orI;omega
 rw[key _ 0 a.Rows (by omega) rfl (fun x hx=>(ha.2.2.2 x hx).1),j4Z (h:=fun k x=>orI x (b.Rows.getD k 0)) (n:=a.Rows.length) (fun k s _ _=>rfl) _ 0 a.Rows (by omega) rfl]
 simp
theorem j6v {a:Rl_}(h:a.Rows.length≤1048576)(b:Rl_):q7n a b=some (uniR a b):=by
 unfold q7n uniR
 rw[z3N h,bsS,q7y,bsS]
 by_cases ha:Valid a
 ·rw[decide_eq_true ha,ifP rfl,q7y,bsS,bsS]
  by_cases hb:Valid b
  ·rw[decide_eq_true hb,Bool.not_true,ifN (by simp),bsS]
   by_cases hN:a.N=b.N
   ·rw[decide_eq_true hN,Bool.not_true,ifN (by simp),ifP ⟨ha,hb,hN⟩,show a.N.toNat=a.Rows.length by have:=ha.2.2.1;omega,j7z ha hb hN rfl];rfl
   ·rw[decide_eq_false hN,Bool.not_false,ifP rfl,ifN fun hh=>hN hh.2.2]
  ·have hz:(if Valid a∧Valid b∧a.N=b.N then (⟨a.N,a.Rows.mapIdx fun j x=>orI x (b.Rows.getD j 0)⟩:Rl_) else a)=a:=ifN fun hh=>hb hh.2.1
   rw[hz,decide_eq_false hb];rfl
 ·have hz:(if Valid a∧Valid b∧a.N=b.N then (⟨a.N,a.Rows.mapIdx fun j x=>orI x (b.Rows.getD j 0)⟩:Rl_) else a)=a:=ifN fun hh=>ha hh.1
  rw[hz,decide_eq_false ha];rfl
theorem k0M (b:Rl_):z3z b=q6N b:=rfl
theorem k4x {a:Rl_}(h:a.Rows.length≤1048576)(b:Rl_):q8j a b=some (uniR a b):=by
 unfold q8j uniR
 rw[j0F,z3N h,bsS,z2y,bsS]
 by_cases ha:Valid a
 ·rw[decide_eq_true ha,ifP rfl,z2y,bsS,bsS]
  by_cases hb:Valid b
  ·rw[decide_eq_true hb,ifP rfl,bsS]
   by_cases hN:a.N=b.N
   ·rw[ifP (by simpa using hN),ifP ⟨ha,hb,hN⟩,k0M,j7z ha hb hN rfl];rfl
   ·rw[ifN (by simpa using hN),ifN fun hh=>hN hh.2.2]
  ·have hz:(if Valid a∧Valid b∧a.N=b.N then (⟨a.N,a.Rows.mapIdx fun j x=>orI x (b.Rows.getD j 0)⟩:Rl_) else a)=a:=ifN fun hh=>hb hh.2.1
   rw[hz,decide_eq_false hb];rfl
 ·have hz:(if Valid a∧Valid b∧a.N=b.N then (⟨a.N,a.Rows.mapIdx fun j x=>orI x (b.Rows.getD j 0)⟩:Rl_) else a)=a:=ifN fun hh=>ha hh.1
  rw[hz,decide_eq_false ha];rfl
theorem k3m {n:Nat}{x y:Int}(hx:0≤x∧x≤((2 ^ n:Nat):Int)-1)(hy:0≤y∧y≤((2 ^ n:Nat):Int)-1):0≤orI x y∧orI x y≤((2 ^ n:Nat):Int)-1:=by
 have:=Nat.or_lt_two_pow (n:=n) (x:=x.toNat) (y:=y.toNat) (by omega) (by omega)
 unfold orI;omega
theorem k0N {a b:Rl_}(ha:Valid a):Valid (uniR a b)∧(uniR a b).N=a.N:=by
 unfold uniR
 by_cases h:Valid a∧Valid b∧a.N=b.N
 ·rw[ifP h]
  refine⟨⟨ha.1,ha.2.1,by simpa using ha.2.2.1,fun x hx=>?_⟩,rfl⟩
  obtain⟨j,hj⟩:=List.getElem?_of_mem hx
  rw[List.getElem?_mapIdx] at hj
  cases hy:a.Rows[j]? with
  | none=>rw[hy] at hj;cases hj
  | some y=>
   rw[hy] at hj
   cases hj
   have hyv:=ha.2.2.2 y (List.mem_of_getElem? hy)
   refine k3m hyv ?_
   rw[List.getD_eq_getElem?_getD]
   cases hz:b.Rows[j]? with
   | none=>
    have:=Nat.one_le_two_pow (n:=a.N.toNat)
    show (0:Int)≤0∧(0:Int)≤((2 ^ a.N.toNat:Nat):Int)-1
    constructor<;>omega
   | some z=>have:=h.2.1.2.2.2 z (List.mem_of_getElem? hz);rw[← h.2.2] at this;exact this
 ·rw[ifN h];exact⟨ha,rfl⟩
def sumR (a:Rl_):Nat:=(a.Rows.map Int.toNat).sum
theorem j2j:∀ (l:List Int) (f:Nat→Int→Int),(∀ j x,x∈l→x.toNat≤(f j x).toNat)→(l.map Int.toNat).sum≤((l.mapIdx f).map Int.toNat).sum∧((∀ x∈l,0≤x)→(∀ j x,0≤f j x)→(l.map Int.toNat).sum=((l.mapIdx f).map Int.toNat).sum→l.mapIdx f=l)
 | [],f,_=>⟨by simp,fun _ _ _=>by simp⟩
 | x::l,f,h=>by
  have ih:=j2j l (fun j=>f (j+1)) fun j y hy=>h (j+1) y (by simp[hy])
  have h0:=h 0 x (by simp)
  rw[List.mapIdx_cons]
  simp only[List.map_cons,List.sum_cons]
  refine⟨by have:=ih.1;omega,fun h1 h2 he=>?_⟩
  have a1:=ih.1
  have e1:(l.map Int.toNat).sum=((l.mapIdx fun j=>f (j+1)).map Int.toNat).sum:=by omega
  have e2:x.toNat=(f 0 x).toNat:=by omega
  have p1:=h1 x (by simp)
  have p2:=h2 0 x
  rw[ih.2 (fun y hy=>h1 y (by simp[hy])) (fun j y=>h2 (j+1) y) e1,show f 0 x=x by omega]
theorem k4y {a b:Rl_}(ha:Valid a):sumR a≤sumR (uniR a b)∧(sumR a=sumR (uniR a b)→uniR a b=a):=by
 unfold uniR
 by_cases h:Valid a∧Valid b∧a.N=b.N
 ·rw[ifP h]
  have key:=j2j a.Rows (fun j x=>orI x (b.Rows.getD j 0)) fun j x _=>by
   unfold orI;have:=@Nat.left_le_or x.toNat (b.Rows.getD j 0).toNat;omega
  refine⟨key.1,fun he=>?_⟩
  have:=key.2 (fun x hx=>(ha.2.2.2 x hx).1) (fun j x=>by unfold orI;omega) he
  show (⟨a.N,_⟩:Rl_)=a
  rw[this]
 ·rw[ifN h];exact⟨Nat.le_refl _,fun _=>rfl⟩
theorem k0O {a:Rl_}(ha:Valid a):sumR a≤16*65535:=by
 have key:∀ l:List Int,(∀ x∈l,x.toNat≤65535)→(l.map Int.toNat).sum≤l.length*65535:=by
  intro l
  induction l with
  | nil=>intro _;simp
  | cons x l ih=>
   intro h
   have h1:=h x (by simp)
   have h2:=ih fun y hy=>h y (by simp[hy])
   simp only[List.map_cons,List.sum_cons,lnC]
   omega
 have h1:=key a.Rows fun x hx=>by
  have:=ha.2.2.2 x hx
  have:=k5J ha.2.1
  omega
 have hl:a.Rows.length≤16:=by have:=ha.2.2.1;have:=ha.2.1;omega
 exact Nat.le_trans h1 (Nat.mul_le_mul_right 65535 hl)
theorem k0P {b:List Int}{f:Nat→Int→Unit→Option (Unit ⊕ Bool)}(hf:∀ k x,f k x ()=(b[k]?).bind fun x2=>if x=x2 then some (.inl ()) else some (.inr false)) :
  ∀ (xs ys:List Int) (i:Nat),xs.length=ys.length→(∀ j,b[i+j]?=ys[j]?)→findL f i xs ()=some (if xs=ys then .inl () else .inr false)
 | [],ys,i,hl,_=>by obtain rfl:=List.eq_nil_of_length_eq_zero hl.symm;rfl
 | x::xs,[],i,hl,_=>by simp at hl
 | x::xs,y::ys,i,hl,hb=>by
  have h0:b[i]?=some y:=by simpa using hb 0
  rw[findL,hf,h0,bsS]
  by_cases hx:x=y
  ·rw[ifP hx,bsS]
   dsimp only
   rw[k0P hf xs ys (i+1) (by simpa using hl) fun j=>by have:=hb (j+1);rw[show i+1+j=i+(j+1) by omega];simpa using this]
   subst hx
   by_cases he:xs=ys
   ·rw[ifP he,ifP (by rw[he])]
   ·rw[ifN he,ifN (by intro hh;injection hh with _ h2;exact he h2)]
  ·rw[ifN hx,bsS]
   dsimp only
   rw[ifN (by intro hh;injection hh with h2 _;exact hx h2)]
theorem z6K (a b:Rl_):q5r a b=some (decide (a=b)):=by
 obtain⟨n,xs⟩:=a
 obtain⟨m,ys⟩:=b
 unfold q5r z5p
 dsimp only
 by_cases hn:n=m
 ·rw[ifP hn]
  by_cases hl:xs.length=ys.length
  ·rw[ifP (by omega),k0P (b:=ys) (fun k x=>rfl) xs ys 0 hl fun j=>by rw[Nat.zero_add]]
   by_cases he:xs=ys
   ·rw[ifP he,decide_eq_true (by rw[hn,he])];rfl
   ·rw[ifN he,decide_eq_false (by intro hh;injection hh with _ h2;exact he h2)];rfl
  ·rw[ifN (by omega),decide_eq_false (by intro hh;injection hh with _ h2;exact hl (by rw[h2]))];rfl
 ·rw[ifN hn,decide_eq_false (by intro hh;injection hh with h1 _;exact hn h1)]
theorem k4z (a b:Rl_):q9u a b=some (decide (a=b)):=by
 rw[← z6K];rfl
noncomputable def j1w (r:Rl_):Bool:=decide (∃ k:Nat,k<r.Rows.length∧hasP (q7c r) (k:Int) (k:Int))
theorem k2B {r:Rl_}(h:r.Rows.length≤1048576):z0S r=some (j1w r):=j6j h
theorem j7A {r:Rl_}(h:r.Rows.length≤1048576):z0T r=some (j1w r):=by
 unfold z0T j1w
 rw[q7y,bsS]
 by_cases hv:Valid r
 ·rw[decide_eq_true hv,ifP rfl,j4P h,bsS]
  have hN:r.N.toNat=r.Rows.length:=by have:=hv.2.2.1;omega
  rw[hN,j0L (c:=true) (n:=r.Rows.length) (q:=fun k=>!decide (hasP (q7c r) (k:Int) (k:Int))) (fun k hk=>by
   unfold j0f
   rw[q8K,bsS]
   by_cases hp:hasP (q7c r) (k:Int) (k:Int)
   ·rw[decide_eq_true hp];rfl
   ·rw[decide_eq_false hp];rfl) r.Rows.length 0 (by omega)]
  by_cases he:∃ k:Nat,k<r.Rows.length∧hasP (q7c r) (k:Int) (k:Int)
  ·rw[decide_eq_true he,ifN];· rfl
   obtain⟨k,hk,hp⟩:=he
   rw[List.all_eq_true]
   intro hh
   have:=hh k (by simp;omega)
   simp[hp] at this
  ·rw[decide_eq_false he,ifP];· rfl
   rw[List.all_eq_true]
   intro k hk
   simp at hk
   have:¬ hasP (q7c r) (k:Int) (k:Int):=fun hp=>he ⟨k,hk,hp⟩
   simp[this]
 ·rw[decide_eq_false hv,ifN (by simp),decide_eq_false]
  rintro⟨k,hk,hp⟩
  have:q7c r=r:=by unfold q7c;rw[ifN hv]
  rw[this] at hp
  exact hv hp.1
end Go.Proofs.YtomdlgffolbdkaaGreat
