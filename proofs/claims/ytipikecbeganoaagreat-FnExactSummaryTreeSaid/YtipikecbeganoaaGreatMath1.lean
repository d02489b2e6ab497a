/- What those partial functions come to: plain lemmas on data; each bears its conditions in its statement. -/
import Derived.Test.YtipikecbeganoaaGreatDef
set_option linter.unusedVariables false
set_option linter.unusedSimpArgs false
set_option linter.ambiguousOpen false
set_option linter.unusedSectionVars false
set_option linter.unnecessarySimpa false
namespace Go.E
section
variable {α σ ρ:Type}
theorem j7H {c:ρ}:∀ {xs:List α} {i:Nat} {p:Nat→α→Prop} {f:Nat→α→Unit→Option (Unit ⊕ ρ)},(∀ k x,xs[k]?=some x→(p (i+k) x→f (i+k) x ()=some (.inr c))∧(¬ p (i+k) x→f (i+k) x ()=some (.inl ()))) →
  ((∃ k x,xs[k]?=some x∧p (i+k) x)→findL f i xs ()=some (.inr c))∧((∀ k x,xs[k]?=some x→¬ p (i+k) x)→findL f i xs ()=some (.inl ()))
 | [],i,p,f,_=>⟨fun ⟨k,x,h,_⟩=>by simp at h,fun _=>rfl⟩
 | x::xs,i,p,f,h=>by
  have h0:=h 0 x rfl
  simp only[Nat.add_zero] at h0
  have ih:=j7H (c:=c) (xs:=xs) (i:=i+1) (p:=p) (f:=f) fun k y hy=>by
   have:=h (k+1) y hy
   rwa[show i+(k+1)=i+1+k by omega] at this
  by_cases hp:p i x
  ·refine⟨fun _=>by simp[findL,h0.1 hp],fun hn=>absurd hp (hn 0 x rfl)⟩
  ·simp only[findL,h0.2 hp,bsS]
   refine⟨?_,?_⟩
   ·rintro⟨k,y,hy,hpy⟩
    cases k with
    | zero=>simp at hy;subst hy;exact absurd hpy hp
    | succ k=>exact ih.1 ⟨k,y,hy,by rwa[show i+1+k=i+(k+1) by omega]⟩
   ·intro hn
    exact ih.2 fun k y hy hpy=>hn (k+1) y hy (by rwa[show i+(k+1)=i+1+k by omega])
theorem j7I {c:ρ}:∀ {n i:Nat} {p:Nat→Prop} {f:Nat→Unit→Option (Unit ⊕ ρ)},(∀ k,k<n→(p (i+k)→f (i+k) ()=some (.inr c))∧(¬ p (i+k)→f (i+k) ()=some (.inl ()))) →
  ((∃ k,k<n∧p (i+k))→findN f i n ()=some (.inr c))∧((∀ k,k<n→¬ p (i+k))→findN f i n ()=some (.inl ()))
 | 0,i,p,f,_=>⟨fun ⟨k,h,_⟩=>by omega,fun _=>rfl⟩
 | n+1,i,p,f,h=>by
  have h0:=h 0 (by omega)
  simp only[Nat.add_zero] at h0
  have ih:=j7I (c:=c) (n:=n) (i:=i+1) (p:=p) (f:=f) fun k hk=>by
   have:=h (k+1) (by omega)
   rwa[show i+(k+1)=i+1+k by omega] at this
  by_cases hp:p i
  ·refine⟨fun _=>by simp[findN,h0.1 hp],fun hn=>absurd hp (hn 0 (by omega))⟩
  ·simp only[findN,h0.2 hp,bsS]
   refine⟨?_,?_⟩
   ·rintro⟨k,hk,hpk⟩
    cases k with
    | zero=>exact absurd hpk hp
    | succ k=>exact ih.1 ⟨k,by omega,by rwa[show i+1+k=i+(k+1) by omega]⟩
   ·intro hn
    exact ih.2 fun k hk hpk=>hn (k+1) (by omega) (by rwa[show i+(k+1)=i+1+k by omega])
theorem k0I [DecidableEq α]{y:α}:∀ {xs:List α} {i:Nat} {f:Nat→α→Unit→Option (Unit ⊕ Int)},(∀ k x,(x=y→f k x ()=some (.inr (k:Int)))∧(x≠y→f k x ()=some (.inl ()))) →
  findL f i xs ()=some (if y∈xs then .inr ((i+xs.idxOf y:Nat):Int) else .inl ())
 | [],i,f,_=>by simp[findL]
 | x::xs,i,f,h=>by
  by_cases hx:x=y
  ·subst hx;simp[findL,(h i x).1 rfl]
  ·have hx' : (x == y)=false:=by simpa using hx
   simp only[findL,(h i x).2 hx,bsS,k0I (xs:=xs) (i:=i+1) h,List.mem_cons,List.idxOf_cons,hx',cond_false]
   by_cases hy:y∈xs
   ·simp[hy];omega
   ·have:¬ y=x:=fun e=>hx e.symm
    simp[hy,this]
theorem k3B [DecidableEq α]{y:α}{xs:List α}{f:Nat→α→Unit→Option (Unit ⊕ Int)}(h:∀ k x,(x=y→f k x ()=some (.inr (k:Int)))∧(x≠y→f k x ()=some (.inl ()))) :
  (findL f 0 xs ()).bind (onr (fun r1=>some r1) fun _=>some (-1))=some (ixF xs y):=by
 rw[k0I h]
 unfold ixF
 by_cases hy:y∈xs<;>simp[hy]
theorem z2L {P:Nat→σ→Prop}:∀ {xs:List α} {i:Nat} {s:σ} {f:Nat→α→σ→Option σ},P i s→(∀ k x s,xs[k]?=some x→P (i+k) s→∃ s',f (i+k) x s=some s'∧P (i+k+1) s')→∃ s',eachL f i xs s=some s'∧P (i+xs.length) s'
 | [],i,s,f,h,_=>⟨s,rfl,h⟩
 | x::xs,i,s,f,h,hs=>by
  obtain⟨s1,h1,h2⟩:=hs 0 x s rfl h
  simp only[Nat.add_zero] at h1 h2
  obtain⟨s2,h3,h4⟩:=z2L (P:=P) (xs:=xs) (i:=i+1) (f:=f) h2 fun k y s hy hp=>by
   have:=hs (k+1) y s hy (by rwa[show i+(k+1)=i+1+k by omega])
   rwa[show i+(k+1)=i+1+k by omega] at this
  exact⟨s2,by simp[eachL,h1,h3],by rw[lnC,show i+(xs.length+1)=i+1+xs.length by omega];exact h4⟩
theorem z9G {P:Nat→σ→Prop}:∀ {n i:Nat} {s:σ} {f:Nat→σ→Option σ},P i s→(∀ k s,i≤k→k<i+n→P k s→∃ s',f k s=some s'∧P (k+1) s')→∃ s',eachN f i n s=some s'∧P (i+n) s'
 | 0,i,s,f,h,_=>⟨s,rfl,h⟩
 | n+1,i,s,f,h,hs=>by
  obtain⟨s1,h1,h2⟩:=hs i s (Nat.le_refl _) (by omega) h
  obtain⟨s2,h3,h4⟩:=z9G (P:=P) (n:=n) (i:=i+1) (f:=f) h2 fun k s hk hk2 hp=>hs k s (by omega) (by omega) hp
  exact⟨s2,by simp[eachN,h1,h3],by rw[show i+(n+1)=i+1+n by omega];exact h4⟩
end
end Go.E
set_option maxRecDepth 100000
set_option maxHeartbeats 4000000
noncomputable section
namespace Go.Proofs.YtipikecbeganoaaGreat
open Go Go.E
open Go.E.Sz (szd)
instance:Sz At_ where
 szd x:=x.Name.size
instance:Sz Symbol where
 szd x:=x.Name.size+szL x.Attributes
theorem j0p (x:Symbol):Sz.szd x=x.Name.size+szL x.Attributes:=rfl
instance:Sz Oc where
 szd x:=x.Name.size
theorem j4i (x:Oc):Sz.szd x=x.Name.size:=rfl
mutual
def z2a:Expr→Nat
 | ⟨a0,a1,a2,a3,a4,a5,a6⟩=>a4.size+a5.size+z4l a6
def z4l:List Expr→Nat
 | []=>0
 | x::xs=>1+z2a x+z4l xs
end
instance:Sz Expr:=⟨z2a⟩
theorem j9x (a:List Expr):z4l a=szL a:=by
 induction a with
 | nil=>rfl
 | cons x xs ih=>simp only[z4l,szL,ih];rfl
theorem q6X (x:Expr):Sz.szd x=x.Symbol.size+x.Name.size+szL x.Args:=by
 cases x;show z2a _=_;simp only[z2a,j9x]
instance:Sz Eqn where
 szd x:=x.At.Name.size+x.Expr.Symbol.size+x.Expr.Name.size+szL x.Expr.Args
theorem z2p (x:Eqn):Sz.szd x=x.At.Name.size+x.Expr.Symbol.size+x.Expr.Name.size+szL x.Expr.Args:=rfl
instance:Sz Cn where
 szd x:=x.Symbol.size+x.Name.size+x.Target.Symbol.size+x.Target.Name.size+szL x.Target.Args+x.Value.Symbol.size+x.Value.Name.size+szL x.Value.Args
theorem q8i (x:Cn):Sz.szd x=x.Symbol.size+x.Name.size+x.Target.Symbol.size+x.Target.Name.size+szL x.Target.Args+x.Value.Symbol.size+x.Value.Name.size+szL x.Value.Args:=rfl
instance:Sz Rule where
 szd x:=x.Name.size+x.Left.size+szL x.Right+szL x.Equations+szL x.Contributions
theorem z4m (x:Rule):Sz.szd x=x.Name.size+x.Left.size+szL x.Right+szL x.Equations+szL x.Contributions:=rfl
instance:Sz Gm_ where
 szd x:=szL x.Symbols+szL x.Rules
theorem q9Y (x:Gm_):Sz.szd x=szL x.Symbols+szL x.Rules:=rfl
theorem z3c {α ρ:Type}{p:α→Bool}{r:α→ρ}:∀ {xs:List α} {i:Nat} {f:Nat→α→Unit→Option (Unit ⊕ ρ)},(∀ k x,x∈xs→(p x=true→f k x ()=some (.inr (r x)))∧(p x=false→f k x ()=some (.inl ()))) →
  findL f i xs ()=some (match xs.find? p with|some x=>.inr (r x)|none=>.inl ())
 | [],_,_,_=>rfl
 | x::xs,i,f,h=>by
  have h0:=h i x (by simp)
  cases hp:p x with
  | true=>simp[findL,h0.1 hp,List.find?,hp]
  | false=>
   have ih:=z3c (p:=p) (r:=r) (xs:=xs) (i:=i+1) (f:=f) fun k y hy=>h k y (by simp[hy])
   simp[findL,h0.2 hp,List.find?,hp,ih]
theorem z0g {α β:Type}{p:α→Bool}{g:Nat→α→β}{B:Nat}{f:Nat→α→List β→Option (List β)}(hf:∀ k x s,s.length<B→f k x s=some (if p x=true then s++[g k x] else s)):∀ (xs:List α) (i:Nat) (s:List β),s.length+xs.length≤B →
  ∃ ys,eachL f i xs s=some (s++ys)∧ys.length≤xs.length
 | [],i,s,_=>⟨[],by simp[eachL],by simp⟩
 | x::xs,i,s,h=>by
  simp only[lnC] at h
  by_cases hp:p x=true
  ·obtain⟨ys,h1,h2⟩:=z0g hf xs (i+1) (s++[g i x]) (by simp;omega)
   exact⟨g i x::ys,by simp[eachL,hf i x s (by omega),hp,h1],by simp;omega⟩
  ·obtain⟨ys,h1,h2⟩:=z0g hf xs (i+1) s (by omega)
   exact⟨ys,by simp[eachL,hf i x s (by omega),hp,h1],by simp;omega⟩
theorem z7b (x lo hi:Int):q5v x lo hi=some (decide (lo≤x∧x≤hi)):=by
 unfold q5v;split<;>simp_all<;>omega
theorem j0W (x lo hi:Int):q4g x lo hi=some (decide (lo≤x∧x≤hi)):=by
 unfold q4g;split<;>simp_all<;>omega
theorem j0q (r:Rule)(k:Int):q6R r k=q5S r k:=by
 unfold q6R q5S;rw[z7b,j0W]
def j0r (a:At_):Bool:=decide (a.Mode=1∨a.Mode=2)
theorem j4F:z3A=q5H:=rfl
theorem z7V:q5a=q5I:=rfl
theorem k3C {g:Gm_}(h:∀ y∈g.Symbols,y.Attributes.length≤1048576)(s:ByteArray):∃ y b,q5B g s=some (y,b)∧q5D g s=some (y,b)∧y.Attributes.length≤1048576:=by
 have h1:=z3c (p:=fun y:Symbol=>decide (y.Name=s)) (r:=fun y=>(y,true)) (xs:=g.Symbols) (i:=0) (f:=q9x s) fun k y hy=>by
  have hg:q8K y=some y:=by
   unfold q8K;have:=h y hy;rw[q3N (by simp only[List.length_nil];constructor<;>omega)]
  unfold q9x;rw[hg];constructor<;>intro hp<;>simp_all
 have h2:=z3c (p:=fun y:Symbol=>decide (y.Name=s)) (r:=fun y=>(y,true)) (xs:=g.Symbols) (i:=0) (f:=q9D s) fun k y hy=>by
  unfold q9D;constructor<;>intro hp<;>simp_all
 unfold q5B q5D
 rw[h1,h2]
 cases hf:g.Symbols.find? (fun y:Symbol=>decide (y.Name=s)) with
 | none=>exact⟨_,_,rfl,rfl,by simp⟩
 | some y=>exact⟨_,_,rfl,rfl,h y (List.mem_of_find?_eq_some hf)⟩
theorem z5i {g:Gm_}(h:∀ y∈g.Symbols,y.Attributes.length≤1048576)(s:ByteArray):∃ l,q5w g s=some l∧q4K g s=some l∧l.length≤1048576:=by
 obtain⟨y,b,h1,h2,h3⟩:=k3C h s
 obtain⟨l,h4,h5⟩:=z0g (p:=j0r) (g:=fun _ x=>x) (B:=1048577) (f:=q5H) (fun k x s hs=>by
  have hg:((s.length:Int)+1)*40≤140737488355328∧(s.length:Int)+1≤9223372036854775807:=by constructor<;>omega
  unfold q5H j0r
  rw[q3N hg]
  by_cases m1:x.Mode=1
  ·rw[ifP m1,ifP (by simp[m1])];rfl
  ·rw[ifN m1]
   by_cases m2:x.Mode=2
   ·rw[ifP m2,ifP (by simp[m2])];rfl
   ·rw[ifN m2,ifN (by simp[m1,m2])];rfl) y.Attributes 0 [] (by simp;omega)
 simp only[List.nil_append] at h4
 refine⟨l,?_,?_,by omega⟩
 ·unfold q5w;rw[h1];dsimp only[bsS];rw[h4];rfl
 ·unfold q4K;rw[h2];dsimp only[bsS];rw[j4F,h4];rfl
theorem j4G (r:Rule)(k:Nat)(hk:k≤r.Right.length)(hl:r.Right.length≤1048576):∃ x,q5S r (k:Int)=some x:=by
 unfold q5S
 by_cases h0:(k:Int)=0
 ·exact⟨_,ifP h0⟩
 ·rw[ifN h0,z7b,bsS,ifP (by simp;omega),q3N (by constructor<;>omega),q3N (by omega)]
  obtain⟨x,hx⟩:∃ x,r.Right[((k:Int)-1).toNat]?=some x:=⟨_,List.getElem?_eq_getElem (by omega)⟩
  exact⟨x,by rw[hx];rfl⟩
theorem k3D (k:Nat)(B:Nat)(hB:B≤4398046511104):∀ (l:List At_) (i:Nat) (s:List Oc),s.length+l.length≤B→∃ ys,eachL (q5O k) i l s=some (s++ys)∧ys.length≤l.length:=fun l i s h=>
 z0g (p:=fun _=>true) (g:=fun _ x=>(⟨(k:Int),x.Name⟩:Oc)) (B:=B) (f:=q5O k) (fun j x s hs=>by
  have hg:((s.length:Int)+1)*24≤140737488355328∧(s.length:Int)+1≤9223372036854775807:=by constructor<;>omega
  unfold q5O
  rw[q3N hg,ifP rfl]) l i s h
theorem k0J (k:Nat):z4P (k:Int)=q5O k:=rfl
theorem j1N {g:Gm_}{r:Rule}(h:∀ y∈g.Symbols,y.Attributes.length≤1048576)(hr:r.Right.length≤1048576):∃ l,q5C g r=some l∧q5c g r=some l∧l.length≤1099512676352:=by
 have key:∀ m k (s:List Oc),k+m=r.Right.length+1→s.length≤k*1048576→∃ l,eachN (q4v g r) k m s=some l∧q5g (q5h g r) (s,(k:Int))=some l∧l.length≤(k+m)*1048576:=by
  intro m
  induction m with
  | zero=>
   intro k s hk hs
   refine⟨s,rfl,q3U ?_,by simpa using hs⟩
   unfold q5h;dsimp only;rw[ifN (by omega)]
  | succ m ih=>
   intro k s hk hs
   obtain⟨x,hx⟩:=j4G r k (by omega) hr
   obtain⟨p,hp1,hp2,hp3⟩:=z5i h x
   obtain⟨ys,hy1,hy2⟩:=k3D k 4398046511104 (by omega) p 0 s (by omega)
   obtain⟨l,h1,h2,h3⟩:=ih (k+1) (s++ys) (by omega) (by simp;omega)
   refine⟨l,?_,?_,by rw[show k+(m+1)=k+1+m by omega];exact h3⟩
   ·have e:q4v g r k s=some (s++ys):=by
     unfold q4v;rw[j0q,hx,bsS,hp2,bsS,hy1];rfl
    simp only[eachN,e,bsS];exact h1
   ·have e:q5h g r (s,(k:Int))=some (.inl (s++ys,((k+1:Nat):Int))):=by
     unfold q5h;dsimp only
     rw[ifP (by omega),hx,bsS,hp1,bsS,k0J,hy1,bsS,q3N (by constructor<;>omega)];rfl
    rw[q4Q e];exact h2
 obtain⟨l,h1,h2,h3⟩:=key (r.Right.length+1) 0 [] (by omega) (by simp)
 refine⟨l,?_,?_,by omega⟩
 ·unfold q5C
  have e:q5g (q5h g r) (([]:List Oc),0)=some l:=h2
  rw[e];rfl
 ·unfold q5c
  rw[q3N (by constructor<;>omega),h1];rfl
theorem k5S {g:Gm_}{r:Rule}(k:Int)(h:∀ y∈g.Symbols,y.Attributes.length≤1048576)(hr:r.Right.length≤1048576):∃ l,q5U g r k=some l∧q4Y g r k=some l∧l.length≤1099512676352:=by
 obtain⟨o,h1,h2,h3⟩:=j1N h hr
 obtain⟨l,h4,h5⟩:=z0g (p:=fun x:Oc=>decide (x.Pos=k)) (g:=fun i _=>((i:Nat):Int)) (B:=4398046511104) (f:=q5I k) (fun i x s hs=>by
  have hg:((s.length:Int)+1)*8≤140737488355328∧(s.length:Int)+1≤9223372036854775807:=by constructor<;>omega
  unfold q5I
  rw[q3N hg]
  by_cases m1:x.Pos=k
  ·rw[ifP m1,ifP (by simp[m1])];rfl
  ·rw[ifN m1,ifN (by simp[m1])];rfl) o 0 [] (by simp;omega)
 simp only[List.nil_append] at h4
 refine⟨l,?_,?_,by omega⟩
 ·unfold q5U;rw[h1];dsimp only[bsS];rw[h4];rfl
 ·unfold q4Y;rw[h2];dsimp only[bsS];rw[z7V,h4];rfl
theorem k3E {α:Type}[Sz α]{x:α}:∀ {l:List α},x∈l→Sz.szd x≤szL l
 | [],h=>by simp at h
 | y::l,h=>by
  rcases List.mem_cons.1 h with rfl|h
  ·simp only[szL];omega
  ·have:=k3E h;simp only[szL];omega
theorem z4C {g:Gm_}(h:Sz.szd g≤1048576):∀ y∈g.Symbols,y.Attributes.length≤1048576:=fun y hy=>by
 have h1:=k3E hy
 have h2:=j0p y
 have h3:=q9Y g
 have h4:=q4P y.Attributes
 omega
theorem q8F {r:Rule}(h:Sz.szd r≤1048576):r.Right.length≤1048576:=by
 have h1:=z4m r
 have h2:=q4P r.Right
 omega
def Valid (r:Rl_):Prop:=0≤r.N∧r.N≤16∧(r.Rows.length:Int)=r.N∧∀ x∈r.Rows,0≤x∧x≤((2 ^ r.N.toNat:Nat):Int)-1
instance (r:Rl_):Decidable (Valid r):=by unfold Valid;infer_instance
def z8b (r:Rl_)(i:Int):Int:=r.Rows.getD i.toNat 0
def bit (x:Int)(k:Int):Prop:=x.toNat >>> k.toNat &&& 1=1
instance (x k:Int):Decidable (bit x k):=by unfold bit;infer_instance
def inN (r:Rl_)(i:Int):Prop:=0≤i∧i≤r.N-1
instance (r:Rl_) (i:Int):Decidable (inN r i):=by unfold inN;infer_instance
def hasP (r:Rl_)(i k:Int):Prop:=Valid r∧inN r i∧inN r k∧bit (z8b r i) k
instance (r:Rl_) (i k:Int):Decidable (hasP r i k):=by unfold hasP;infer_instance
def j3m (r:Rl_)(i:Int)(x:Int):Rl_:=⟨r.N,r.Rows.set i.toNat x⟩
def orI (x y:Int):Int:=((x.toNat ||| y.toNat:Nat):Int)
def addP (r:Rl_)(i k:Int):Rl_:=if Valid r∧inN r i∧inN r k then j3m r i (orI (z8b r i) ((2 ^ k.toNat:Nat):Int)) else r
theorem Valid.row {r:Rl_}(h:Valid r){i:Int}(hi:inN r i){x:Int}(hx:r.Rows[i.toNat]?=some x):z8b r i=x∧0≤x∧x≤65535:=by
 have hm:=h.2.2.2 x (List.mem_of_getElem? hx)
 have hp:2 ^ r.N.toNat≤2 ^ 16:=Nat.pow_le_pow_right (by decide) (by have:=h.2.1;omega)
 refine⟨by unfold z8b;simp[hx],hm.1,by omega⟩
theorem x0r {n:Int}(h:n≤16):2 ^ n.toNat≤65536:=by
 have:2 ^ n.toNat≤2 ^ 16:=Nat.pow_le_pow_right (by decide) (by omega)
 simpa using this
theorem k5T (n:Int):1≤2 ^ n.toNat:=Nat.one_le_two_pow
theorem k3F {r:Rl_}(h0:0≤r.N)(h1:r.N≤16)(h2:(r.Rows.length:Int)=r.N):decide (Valid r)=!(r.Rows.any fun x=>!decide (0≤x∧x≤((2 ^ r.N.toNat:Nat):Int)-1)):=by
 by_cases hv:Valid r
 ·rw[decide_eq_true hv,eq_comm,Bool.not_eq_true',List.any_eq_false]
  intro x hx
  simp only[Bool.not_eq_true',decide_eq_false_iff_not,Decidable.not_not]
  exact hv.2.2.2 x hx
 ·rw[decide_eq_false hv,eq_comm,Bool.not_eq_false',List.any_eq_true]
  refine Classical.byContradiction fun hn=>hv ⟨h0,h1,h2,fun x hx=>Classical.byContradiction fun hb=>hn ⟨x,hx,?_⟩⟩
  rw[decide_eq_false hb];rfl
theorem k7w {x k:Int}(h:(((((x.toNat >>> k.toNat:Nat):Int)).toNat &&& (1:Int).toNat:Nat):Int)=1):x.toNat >>> k.toNat &&& 1=1:=by
 have:(1:Int).toNat=1:=rfl
 rw[tnC,this] at h
 exact_mod_cast h
theorem k7x {x k:Int}(h:x.toNat >>> k.toNat &&& 1=1):(((((x.toNat >>> k.toNat:Nat):Int)).toNat &&& (1:Int).toNat:Nat):Int)=1:=by
 have:(1:Int).toNat=1:=rfl
 rw[tnC,this]
 exact_mod_cast h
theorem z1a (x lo hi:Int):q5v x lo hi=some (decide (lo≤x∧x≤hi)):=by
 unfold q5v;split<;>simp_all<;>omega
theorem z5j (x lo hi:Int):q4g x lo hi=some (decide (lo≤x∧x≤hi)):=by
 unfold q4g;split<;>simp_all<;>omega
theorem q8W (r:Rl_):q5k r=some (decide (Valid r)):=by
 unfold q5k
 simp only[z1a,bsS,decide_eq_true_eq]
 by_cases h1:0≤r.N∧r.N≤16
 ·rw[ifP h1]
  by_cases h2:(r.Rows.length:Int)=r.N
  ·rw[ifP h2]
   have key:=j7I (c:=false) (n:=r.N.toNat) (i:=0) (p:=fun k=>∃ x,r.Rows[k]?=some x∧¬ (0≤x∧x≤((2 ^ r.N.toNat:Nat):Int)-1)) (f:=q9R r) fun k hk=>by
    have hk' : k<r.Rows.length:=by omega
    obtain⟨x,hx⟩:∃ x,r.Rows[k]?=some x:=⟨_,List.getElem?_eq_getElem hk'⟩
    simp only[Nat.zero_add]
    unfold q9R
    rw[hx,bsS,q3N h1.1,q3N (by omega),z1a,bsS]
    simp only[decide_eq_true_eq]
    refine⟨fun ⟨y,hy,hn⟩=>?_,fun hn=>?_⟩
    ·cases hy;rw[ifN hn]
    ·by_cases hb:0≤x∧x≤((2 ^ r.N.toNat:Nat):Int)-1
     ·rw[ifP hb]
     ·exact absurd ⟨x,rfl,hb⟩ hn
   simp only[Nat.zero_add] at key
   by_cases hv:Valid r
   ·rw[key.2 fun k hk ⟨x,hx,hn⟩=>hn (hv.2.2.2 x (List.mem_of_getElem? hx))]
    simp[hv]
   ·rw[key.1 (Classical.byContradiction fun hn=>hv ⟨h1.1,h1.2,h2,fun x hx=>?_⟩)]
    ·simp[hv]
    ·obtain⟨k,hk⟩:=List.getElem?_of_mem hx
     have hk':=x0i hk
     exact Classical.byContradiction fun hb=>hn ⟨k,by omega,x,hk,hb⟩
  ·rw[ifN h2,decide_eq_false fun hv=>h2 hv.2.2.1]
 ·rw[ifN h1,decide_eq_false fun hv=>h1 ⟨hv.1,hv.2.1⟩]
theorem z8G (r:Rl_):q5Z r=some (decide (Valid r)):=by
 unfold q5Z
 simp only[z5j,bsS,decide_eq_true_eq]
 by_cases h1:0≤r.N∧r.N≤16
 ·rw[ifP h1]
  simp only[bsS,Bool.false_eq_true,if_true,if_false,decide_eq_true_eq]
  by_cases h2:(r.Rows.length:Int)=r.N
  ·rw[ifP h2]
   have h3:∀ x,q6y x r=some (!decide (0≤x∧x≤((2 ^ r.N.toNat:Nat):Int)-1)):=fun x=>by
    unfold q6y
    rw[q3N h1.1,q3N (by omega),z5j];rfl
   have h4:∀ (xs:List Int) (i:Nat),∃ z,findL (q5d r) i xs ()=some z∧((xs.any fun x=>!decide (0≤x∧x≤((2 ^ r.N.toNat:Nat):Int)-1))=true→∃ k:Nat,z=.inr (k:Int))∧((xs.any fun x=>!decide (0≤x∧x≤((2 ^ r.N.toNat:Nat):Int)-1))=false→z=.inl ()):=by
    intro xs
    induction xs with
    | nil=>intro i;exact⟨_,rfl,by simp,by simp⟩
    | cons x xs ih=>
     intro i
     simp only[findL,q5d,h3,bsS,List.any_cons]
     by_cases hb:0≤x∧x≤((2 ^ r.N.toNat:Nat):Int)-1
     ·simp only[hb,and_self,decide_true,Bool.not_true,Bool.false_eq_true,if_false,bsS,Bool.false_or]
      exact ih (i+1)
     ·simp only[hb,decide_false,Bool.not_false,if_true,bsS,Bool.true_or]
      exact⟨_,rfl,fun _=>⟨i,rfl⟩,by simp⟩
   unfold q4p q4z
   obtain⟨z,hz,hz1,hz2⟩:=h4 r.Rows 0
   rw[hz,k3F h1.1 h1.2 h2]
   cases ha:(r.Rows.any fun x=>!decide (0≤x∧x≤((2 ^ r.N.toNat:Nat):Int)-1)) with
   | true=>obtain⟨k,rfl⟩:=hz1 ha;simp
   | false=>rw[hz2 ha];simp
  ·rw[ifN h2,decide_eq_false fun hv=>h2 hv.2.2.1];simp only[bsS,Bool.false_eq_true,if_true,if_false,decide_eq_true_eq]
 ·rw[ifN h1,decide_eq_false fun hv=>h1 ⟨hv.1,hv.2.1⟩];simp only[bsS,Bool.false_eq_true,if_true,if_false,decide_eq_true_eq]
theorem z1E (r:Rl_)(i k:Int):q9d r i k=some (decide (hasP r i k)):=by
 unfold q9d
 simp only[q8W,z1a,bsS,decide_eq_true_eq]
 by_cases hv:Valid r
 ·have hv1:=hv.1;have hv2:=hv.2.1;have hv3:=hv.2.2.1
  rw[ifP hv,q3N (by constructor<;>omega)];simp only[bsS,Bool.false_eq_true,if_true,if_false,decide_eq_true_eq]
  by_cases hi:0≤i∧i≤r.N-1
  ·rw[ifP hi,q3N (by constructor<;>omega)];simp only[bsS,Bool.false_eq_true,if_true,if_false,decide_eq_true_eq]
   by_cases hk:0≤k∧k≤r.N-1
   ·obtain⟨x,hx⟩:∃ x,r.Rows[i.toNat]?=some x:=⟨_,List.getElem?_eq_getElem (by omega)⟩
    have hrow:=hv.row (i:=i) hi hx
    rw[ifP hk,q3N hi.1,hx,bsS,q3N hk.1,q3N ⟨hrow.2.1,hk.1,by omega⟩,q3N ⟨Int.natCast_nonneg _,by decide⟩]
    simp only[bsS,Bool.false_eq_true,if_true,if_false,decide_eq_true_eq]
    congr 1
    refine decide_eq_decide.2 ⟨fun hb=>⟨hv,hi,hk,?_⟩,fun hb=>?_⟩
    ·unfold bit;rw[hrow.1];exact k7w hb
    ·have:=hb.2.2.2;unfold bit at this;rw[hrow.1] at this;exact k7x this
   ·rw[ifN hk];simp only[bsS,Bool.false_eq_true,if_true,if_false,decide_eq_true_eq];rw[ decide_eq_false fun h=>hk h.2.2.1]
  ·rw[ifN hi];simp only[bsS,Bool.false_eq_true,if_true,if_false,decide_eq_true_eq];rw[ decide_eq_false fun h=>hi h.2.1]
 ·rw[ifN hv];simp only[bsS,Bool.false_eq_true,if_true,if_false,decide_eq_true_eq];rw[ decide_eq_false fun h=>hv h.1]
theorem z8H (r:Rl_)(i k:Int):z0c r i k=some (decide (hasP r i k)):=by
 rw[← z1E]
 unfold z0c q9d
 simp only[q8W,z8G,z1a,z5j]
theorem j7J:q7H=q9c:=by
 funext r;unfold q7H q9c q5x
 by_cases h:((([]:List Int).length:Int)+(r.Rows.length:Int))*8≤140737488355328∧(([]:List Int).length:Int)+(r.Rows.length:Int)≤9223372036854775807
 ·rw[q3N h,q3N h];rfl
 ·unfold grd;rw[ifN h,ifN h];rfl
theorem k5U:z0c=q9d:=by
 funext r i k;rw[z8H,z1E]
theorem j6d:z1t=q6G:=by
 funext r i k;unfold z1t q6G;simp only[j7J,q8W,z8G,z1a,z5j]
theorem j4H:q7g=q4W:=by
 funext n;unfold q7g q4W;simp only[z1a,z5j]
theorem z9H {r:Rl_}(h:r.Rows.length≤1048576):q9c r=some r:=by
 unfold q9c;rw[q3N (by simp only[List.length_nil];constructor<;>omega)]
theorem k0K {r:Rl_}(h:r.Rows.length≤1048576)(i k:Int):∃ x,q6G r i k=some x∧x.Rows.length=r.Rows.length:=by
 unfold q6G
 simp only[z9H h,q8W,z1a,bsS,decide_eq_true_eq]
 by_cases hv:Valid r
 ·have hv1:=hv.1;have hv2:=hv.2.1;have hv3:=hv.2.2.1
  rw[ifP hv,q3N (by constructor<;>omega)];simp only[bsS,Bool.false_eq_true,if_true,if_false,decide_eq_true_eq]
  by_cases hi:0≤i∧i≤r.N-1
  ·rw[ifP hi,q3N (by constructor<;>omega)];simp only[bsS,Bool.false_eq_true,if_true,if_false,decide_eq_true_eq]
   by_cases hk:0≤k∧k≤r.N-1
   ·obtain⟨x,hx⟩:∃ x,r.Rows[i.toNat]?=some x:=⟨_,List.getElem?_eq_getElem (by omega)⟩
    have hrow:=hv.row (i:=i) hi hx
    rw[ifP hk,q3N hi.1,hx,bsS,q3N hk.1,q3N ⟨hk.1,by omega⟩,q3N ⟨hrow.2.1,Int.natCast_nonneg _⟩]
    exact⟨_,rfl,by simp⟩
   ·rw[ifN hk];exact⟨_,rfl,rfl⟩
  ·rw[ifN hi];simp only[bsS,Bool.false_eq_true,if_true,if_false,decide_eq_true_eq];exact⟨_,rfl,rfl⟩
 ·rw[ifN hv];simp only[bsS,Bool.false_eq_true,if_true,if_false,decide_eq_true_eq];exact⟨_,rfl,rfl⟩
theorem k2i (n:Nat):∃ x,q4W (n:Int)=some x∧x.Rows.length≤16:=by
 unfold q4W;simp only[z1a,bsS,decide_eq_true_eq]
 by_cases h:0≤(n:Int)∧(n:Int)≤16
 ·rw[ifP h,q3N (by refine⟨by omega,by omega,by omega⟩)];exact⟨_,rfl,by simp;omega⟩
 ·rw[ifN h];exact⟨_,rfl,by simp⟩
theorem j0X {α σ:Type}{f:Nat→α→σ→Option σ}:∀ (xs ys:List α) (i:Nat) (s:σ),eachL f i (xs++ys) s=(eachL f i xs s).bind fun t=>eachL f (i+xs.length) ys t
 | [],ys,i,s=>rfl
 | x::xs,ys,i,s=>by
  simp only[List.cons_append,eachL]
  cases f i x s with
  | none=>rfl
  | some t=>simp only[bsS];rw[j0X xs ys (i+1) t,lnC,show i+1+xs.length=i+(xs.length+1) by omega]
theorem z7c (k:Nat):∀ (l:List At_) (i:Nat) (s:List Oc),s.length+l.length≤4398046511104→eachL (q5O k) i l s=some (s++l.map fun x=>(⟨(k:Int),x.Name⟩:Oc))
 | [],i,s,_=>by simp[eachL]
 | x::l,i,s,h=>by
  simp only[lnC] at h
  have hg:((s.length:Int)+1)*24≤140737488355328∧(s.length:Int)+1≤9223372036854775807:=by constructor<;>omega
  have e:q5O k i x s=some (s++[(⟨(k:Int),x.Name⟩:Oc)]):=by unfold q5O;rw[q3N hg]
  simp only[eachL,e,bsS]
  rw[z7c k l (i+1) _ (by simp;omega)];simp
theorem k8i {g:Gm_}{r:Rule}(h:∀ y∈g.Symbols,y.Attributes.length≤1048576)(hr:r.Right.length≤1048576){l:List At_}{o:List Oc}(hl:q4K g r.Left=some l)(ho:q5c g r=some o) :
  ∃ ys,o=(l.map fun x=>(⟨0,x.Name⟩:Oc))++ys:=by
 have key:∀ m k (s:List Oc),k+m=r.Right.length+1→s.length≤k*1048576→∀ q,eachN (q4v g r) k m s=some q→∃ ys,q=s++ys:=by
  intro m
  induction m with
  | zero=>intro k s _ _ q hq;cases hq;exact⟨[],by simp⟩
  | succ m ih=>
   intro k s hk hs q hq
   obtain⟨x,hx⟩:=j4G r k (by omega) hr
   obtain⟨p,hp1,hp2,hp3⟩:=z5i h x
   have hy:=z7c k p 0 s (by omega)
   have e:q4v g r k s=some (s++p.map fun x=>(⟨(k:Int),x.Name⟩:Oc)):=by
    unfold q4v;rw[j0q,hx,bsS,hp2,bsS,hy];rfl
   simp only[eachN,e,bsS] at hq
   obtain⟨ys,hys⟩:=ih (k+1) _ (by omega) (by simp;omega) q hq
   exact⟨_,by rw[hys,List.append_assoc]⟩
 unfold q5c at ho
 rw[q3N (by constructor<;>omega)] at ho
 have e1:eachN (q4v g r) 0 (r.Right.length+1) []=some o:=by
  cases hq:eachN (q4v g r) 0 (r.Right.length+1) [] with
  | none=>rw[hq] at ho;cases ho
  | some q=>rw[hq] at ho;exact ho
 have hl3:l.length≤1048576:=by
  obtain⟨p,_,h2,h3⟩:=z5i h r.Left
  rw[hl] at h2;cases h2;exact h3
 have hx:q6R r ((0:Nat):Int)=some r.Left:=by unfold q6R;exact ifP rfl
 have e:q4v g r 0 []=some ([]++l.map fun x=>(⟨((0:Nat):Int),x.Name⟩:Oc)):=by
  unfold q4v;rw[hx,bsS,hl,bsS,z7c 0 l 0 [] (by simp;omega)];rfl
 simp only[eachN,e,bsS] at e1
 obtain⟨ys,hys⟩:=key r.Right.length 1 _ (by omega) (by simp;omega) o e1
 exact⟨ys,by simpa using hys⟩
theorem k3G:∀ (xs:List Oc) (i:Nat) (s:List Int),s.length+xs.length≤4398046511104→(∀ x∈xs,x.Pos=0)→eachL (q5a 0) i xs s=some (s++(List.range' i xs.length).map fun (j:Nat)=>(j:Int))
 | [],i,s,_,_=>by simp[eachL]
 | x::xs,i,s,h,h0=>by
  simp only[lnC] at h
  have hg:((s.length:Int)+1)*8≤140737488355328∧(s.length:Int)+1≤9223372036854775807:=by constructor<;>omega
  have e:q5a 0 i x s=some (s++[(i:Int)]):=by
   unfold q5a;rw[ifP (h0 x (by simp)),q3N hg];rfl
  simp only[eachL,e,bsS]
  rw[k3G xs (i+1) _ (by simp;omega) fun y hy=>h0 y (by simp[hy])]
  simp[List.range'_succ]
theorem k8j {g:Gm_}{r:Rule}(h:∀ y∈g.Symbols,y.Attributes.length≤1048576)(hr:r.Right.length≤1048576){l:List At_}{y:List Int}(hl:q4K g r.Left=some l)(hy:q4Y g r 0=some y):∀ k:Nat,k<l.length→y[k]?=some (k:Int):=by
 obtain⟨o,_,ho,ho3⟩:=j1N h hr
 obtain⟨ys,hys⟩:=k8i h hr hl ho
 have hl3:l.length≤1048576:=by
  obtain⟨p,_,h2,h3⟩:=z5i h r.Left
  rw[hl] at h2;cases h2;exact h3
 unfold q4Y at hy
 rw[ho,bsS] at hy
 have hy' : eachL (q5a 0) 0 o []=some y:=by
  cases hq:eachL (q5a 0) 0 o [] with
  | none=>rw[hq] at hy;cases hy
  | some q=>rw[hq] at hy;exact hy
 have hlen:=congrArg List.length hys
 simp only[List.length_append,lnM] at hlen
 rw[hys,j0X,k3G _ 0 [] (by simp;omega) (by intro x hx;obtain⟨a,_,rfl⟩:=List.mem_map.1 hx;rfl),bsS] at hy'
 obtain⟨zs,h4,h5⟩:=z0g (p:=fun x:Oc=>decide (x.Pos=0)) (g:=fun i _=>((i:Nat):Int)) (B:=4398046511104) (f:=q5a 0) (fun i x s hs=>by
  have hg:((s.length:Int)+1)*8≤140737488355328∧(s.length:Int)+1≤9223372036854775807:=by constructor<;>omega
  unfold q5a
  rw[q3N hg]
  by_cases m1:x.Pos=0
  ·rw[ifP m1,ifP (by simp[m1])];rfl
  ·rw[ifN m1,ifN (by simp[m1])];rfl) ys (0+(l.map fun x=>(⟨0,x.Name⟩:Oc)).length) ([]++(List.range' 0 (l.map fun x=>(⟨0,x.Name⟩:Oc)).length).map fun (j:Nat)=>(j:Int)) (by simp;omega)
 rw[h4] at hy'
 cases hy'
 intro k hk
 rw[List.getElem?_append_left (by simpa using hk)]
 simp[hk]
theorem j0s {α σ:Type}{P:σ→Prop}{f g:Nat→α→σ→Option σ}:∀ (xs:List α) (i:Nat) (s:σ),P s→(∀ k x s,k<i+xs.length→x∈xs→P s→∃ s',f k x s=some s'∧g k x s=some s'∧P s')→∃ s',eachL f i xs s=some s'∧eachL g i xs s=some s'∧P s'
 | [],i,s,hs,_=>⟨s,rfl,rfl,hs⟩
 | x::xs,i,s,hs,h=>by
  obtain⟨t,h1,h2,h3⟩:=h i x s (by simp) (by simp) hs
  obtain⟨u,h4,h5,h6⟩:=j0s xs (i+1) t h3 fun k y s hk hy=>h k y s (by simp;omega) (by simp[hy])
  exact⟨u,by simp only[eachL,h1,bsS,h4],by simp only[eachL,h2,bsS,h5],h6⟩
theorem j7K {g:Gm_}{r:Rule}{c:Rl_}(h:∀ y∈g.Symbols,y.Attributes.length≤1048576)(hr:r.Right.length≤1048576):∃ x,q7o g r c=some x∧z0d g r c=some x∧x.Rows.length≤16:=by
 obtain⟨l,l1,l2,l3⟩:=z5i h r.Left
 obtain⟨y,_,y2,_⟩:=k5S 0 h hr
 have hy:=k8j h hr l2 y2
 obtain⟨e,e1,e2⟩:=k2i l.length
 have step:∀ k1 x1,k1<l.length→∀ k2 x2 s,k2<l.length→s.1.length≤16→∃ s',q9e c k1 x1 k2 x2 s=some s'∧z2G c y k1 x1 k2 x2 s=some s'∧s'.1.length≤16:=by
  intro k1 x1 hk1 k2 x2 ⟨s3,s4⟩ hk2 hs
  dsimp only at hs
  obtain⟨z,z1,z2⟩:=k0K (r:=⟨s4,s3⟩) (by show s3.length≤_;omega) (k1:Int) (k2:Int)
  unfold q9e z2G
  rw[k5U,j6d,hy k1 hk1,hy k2 hk2]
  simp only[bsS,z1E,z1,decide_eq_true_eq]
  by_cases m1:x1.Mode=1
  ·by_cases m2:x2.Mode=2
   ·by_cases m3:hasP c (k1:Int) (k2:Int)
    ·simp only[m1,m2,m3,if_true,decide_true,bsS];exact⟨_,rfl,rfl,by rw[z2];exact hs⟩
    ·simp only[m1,m2,m3,if_true,if_false,decide_true,decide_false,bsS];exact⟨_,rfl,rfl,hs⟩
   ·simp[m1,m2,hs]
  ·simp[m1,hs]
 obtain⟨⟨s1,s2⟩,h1,h2,h3⟩:=j0s (P:=fun s:List Int×Int=>s.1.length≤16) (f:=z0H c l) (g:=z5E c l y) l 0 (e.Rows,e.N) e2 fun k x s hk _ hs=>by
  obtain⟨s',t1,t2,t3⟩:=j0s (P:=fun s:List Int×Int=>s.1.length≤16) (f:=q9e c k x) (g:=z2G c y k x) l 0 s hs fun k2 x2 s hk2 _ hs=>step k x (by omega) k2 x2 s (by omega) hs
  obtain⟨s3,s4⟩:=s
  exact⟨s',by unfold z0H;dsimp only;rw[t1];rfl,by unfold z5E;dsimp only;rw[t2];rfl,t3⟩
 refine⟨⟨s2,s1⟩,?_,?_,h3⟩
 ·unfold q7o;rw[l1,bsS,e1,bsS,h1];rfl
 ·unfold z0d;rw[l2,bsS,y2,bsS,j4H,e1,bsS,h2];rfl
end Go.Proofs.YtipikecbeganoaaGreat
namespace Go.E
section
variable {α:Type}{lt:α→α→Bool}
theorem j4I (irr:∀ a,lt a a=false)(tr:∀ a b c,lt a b=true→lt b c=true→lt a c=true) :
  ∀ {xs ys:List α},xs.Pairwise (fun a b=>lt a b=true)→ys.Pairwise (fun a b=>lt a b=true)→(∀ a,a∈xs↔a∈ys)→xs=ys
 | [],[],_,_,_=>rfl
 | [],y::ys,_,_,h=>absurd ((h y).2 (by simp)) (by simp)
 | x::xs,[],_,_,h=>absurd ((h x).1 (by simp)) (by simp)
 | x::xs,y::ys,hx,hy,h=>by
  rw[List.pairwise_cons] at hx hy
  have asym:∀ a b,lt a b=true→lt b a=true→False:=fun a b h1 h2=>by have:=tr a b a h1 h2;rw[irr] at this;cases this
  have hxy:x=y:=by
   have h1:=(h x).1 (by simp)
   have h2:=(h y).2 (by simp)
   rcases List.mem_cons.1 h1 with e|h1
   ·exact e
   rcases List.mem_cons.1 h2 with e|h2
   ·exact e.symm
   exact (asym x y (hx.1 y h2) (hy.1 x h1)).elim
  subst hxy
  congr 1
  refine j4I irr tr hx.2 hy.2 fun a=>?_
  constructor
  ·intro ha
   rcases List.mem_cons.1 ((h a).1 (by simp[ha])) with e|h1
   ·subst e;have:=hx.1 _ ha;rw[irr] at this;cases this
   ·exact h1
  ·intro ha
   rcases List.mem_cons.1 ((h a).2 (by simp[ha])) with e|h1
   ·subst e;have:=hy.1 _ ha;rw[irr] at this;cases this
   ·exact h1
theorem k2j (tr:∀ a b c,lt a b=true→lt b c=true→lt a c=true)(tot:∀ a b,lt a b=false→lt b a=false→a=b){l:List α}{o:α}{k:Nat}(hl:l.Pairwise (fun a b=>lt a b=true))
  (hb:∀ a∈l.take k,lt a o=true) (ha:∀ y,l[k]?=some y→lt y o=false∧y≠o):(l.take k++o::l.drop k).Pairwise (fun a b=>lt a b=true):=by
 have hs:(l.take k++l.drop k).Pairwise (fun a b=>lt a b=true):=by rw[List.take_append_drop];exact hl
 rw[List.pairwise_append] at hs
 have ho:∀ z∈l.drop k,lt o z=true:=by
  cases hd:l.drop k with
  | nil=>intro z hz;cases hz
  | cons y r=>
   have hy:l[k]?=some y:=by
    have:(l.drop k)[0]?=some y:=by rw[hd];rfl
    simpa using this
   obtain⟨h1,h2⟩:=ha y hy
   have h3:lt o y=true:=by
    cases h:lt o y with
    | true=>rfl
    | false=>exact absurd (tot _ _ h1 h) h2
   intro z hz
   rcases List.mem_cons.1 hz with e|hz
   ·rw[e];exact h3
   ·have:=hs.2.1;rw[hd,List.pairwise_cons] at this
    exact tr _ _ _ h3 (this.1 z hz)
 rw[List.pairwise_append,List.pairwise_cons]
 refine⟨hs.1,⟨ho,hs.2.1⟩,fun a h1 b h2=>?_⟩
 rcases List.mem_cons.1 h2 with e|h2
 ·rw[e];exact hb a h1
 ·exact hs.2.2 a h1 b h2
end
section
variable {α:Type}[DecidableEq α]{lt:α→α→Bool}
def q5f:List α→List α
 | []=>[]
 | [x]=>[x]
 | x::y::l=>if x=y then q5f (y::l) else x::q5f (y::l)
theorem z7d {a:α}:∀ {l:List α},a∈q5f l↔a∈l
 | []=>Iff.rfl
 | [x]=>Iff.rfl
 | x::y::l=>by
  unfold q5f
  have ih:=z7d (a:=a) (l:=y::l)
  split
  ·rename_i e;subst e;rw[ih];simp
  ·rw[List.mem_cons,ih];simp
theorem z7e (tr:∀ a b c,lt a b=true→lt b c=true→lt a c=true)(tot:∀ a b,lt a b=false→lt b a=false→a=b) :
  ∀ {l:List α},l.Pairwise (fun a b=>lt b a=false)→(q5f l).Pairwise (fun a b=>lt a b=true)
 | [],_=>List.Pairwise.nil
 | [x],_=>by simp[q5f]
 | x::y::l,h=>by
  unfold q5f
  rw[List.pairwise_cons] at h
  have ih:=z7e tr tot h.2
  split
  ·exact ih
  ·rename_i hne
   rw[List.pairwise_cons]
   refine⟨fun z hz=>?_,ih⟩
   have h1:lt x y=true:=by
    cases e:lt x y with
    | true=>rfl
    | false=>exact absurd (tot _ _ e (h.1 y (by simp))) hne
   rcases List.mem_cons.1 (z7d.1 hz) with e|hz
   ·rw[e];exact h1
   ·have h2:=(List.pairwise_cons.1 h.2).1 z hz
    cases e:lt y z with
    | true=>exact tr _ _ _ h1 e
    | false=>rw[← tot _ _ e h2];exact h1
theorem z9I {a:α}:∀ {l:List α},q5f (l++[a])=if l.getLast?=some a then q5f l else q5f l++[a]
 | []=>by simp[q5f]
 | [x]=>by
  simp only[q5f,List.cons_append,List.nil_append,List.getLast?_singleton,Option.some.injEq]
  by_cases e:x=a
  ·subst e;simp
  ·simp[e]
 | x::y::l=>by
  have ih:=z9I (a:=a) (l:=y::l)
  simp only[List.cons_append] at ih ⊢
  have e:(x::y::l).getLast?=(y::l).getLast?:=by simp[List.getLast?_cons_cons]
  rw[e]
  show (if x=y then q5f (y::(l++[a])) else x::q5f (y::(l++[a])))=_
  rw[ih]
  show _=if (y::l).getLast?=some a then (if x=y then q5f (y::l) else x::q5f (y::l)) else (if x=y then q5f (y::l) else x::q5f (y::l))++[a]
  split<;>split<;>simp
theorem z9J {l:List α}{i:Nat}{a b:α}(ha:l[i]?=some a)(hb:l[i+1]?=some b):q5f (l.take (i+2))=if a=b then q5f (l.take (i+1)) else q5f (l.take (i+1))++[b]:=by
 have h1:l.take (i+2)=l.take (i+1)++[b]:=by rw[show i+2=(i+1)+1 from rfl,List.take_add_one,hb];rfl
 have h2:(l.take (i+1)).getLast?=some a:=by rw[List.take_add_one,ha];simp
 rw[h1,z9I,h2]
 by_cases e:a=b
 ·simp[e]
 ·simp[e]
end
end Go.E
namespace Go.Proofs.YtipikecbeganoaaGreat
open Go Go.E
mutual
def z5L:Expr→List Oc
 | ⟨a0,a1,a2,a3,a4,a5,a6⟩=>(if a0=3 then [⟨a2,a5⟩] else [])++z1b a6
def z1b:List Expr→List Oc
 | []=>[]
 | x::xs=>z5L x++z1b xs
end
mutual
def fuE:Expr→Nat
 | ⟨_,_,_,_,_,_,a6⟩=>fuEs a6+1
def fuEs:List Expr→Nat
 | []=>0
 | x::xs=>max (fuE x) (fuEs xs)
end
theorem z2x (e:Expr):fuE e=fuEs e.Args+1:=by cases e;rfl
theorem z4n:∀ {l:List Expr} {x:Expr},x∈l→fuE x≤fuEs l
 | y::l,x,h=>by
  simp only[fuEs]
  rcases List.mem_cons.1 h with e|h
  ·subst e;omega
  ·have:=z4n h;omega
theorem z5M (e:Expr):z5L e=(if e.Kind=3 then [⟨e.Pos,e.Name⟩] else [])++z1b e.Args:=by cases e;rfl
mutual
theorem j7L:∀ e:Expr,(z5L e).length≤1+z2a e
 | ⟨a0,a1,a2,a3,a4,a5,a6⟩=>by
  have:=j4J a6
  simp only[z5L,z2a,List.length_append]
  split<;>simp<;>omega
theorem j4J:∀ l:List Expr,(z1b l).length≤z4l l
 | []=>by simp[z1b]
 | x::xs=>by
  have h1:=j7L x
  have h2:=j4J xs
  simp only[z1b,z4l,List.length_append];omega
end
theorem z1c {α:Type}[Sz α]{x:α}:∀ {l:List α},x∈l→Sz.szd x<szL l
 | [],h=>by simp at h
 | y::l,h=>by
  rcases List.mem_cons.1 h with rfl|h
  ·simp only[szL];omega
  ·have:=z1c h;simp only[szL];omega
theorem k3H {e x:Expr}(h:x∈e.Args):Sz.szd x<Sz.szd e:=by
 have h1:=q6X e
 have h2:=z1c h
 omega
theorem k3I {e:Expr}(h:Sz.szd e≤1048576):(z5L e).length≤1048577:=by
 have h1:=j7L e
 have h2:z2a e=Sz.szd e:=rfl
 omega
theorem j9y:∀ (m:Nat) (e:Expr) (o:List Oc),fuE e≤m→o.length+(z5L e).length≤4398046511104→q4H m e o=some (true,o++z5L e):=by
 intro m
 induction m with
 | zero=>intro e o h;rw[z2x] at h;omega
 | succ m ih=>
  have hl:∀ (l:List Expr) (i:Nat) (o:List Oc),fuEs l≤m→o.length+(z1b l).length≤4398046511104→findL (q4q (q4H m)) i l o=some (.inl (o++z1b l)):=by
   intro l
   induction l with
   | nil=>intro i o _ _;simp[findL,z1b]
   | cons x l ihl=>
    intro i o hf hb
    simp only[fuEs] at hf
    simp only[z1b,List.length_append] at hb
    have hx:=ih x o (by omega) (by omega)
    simp only[findL,q4q,q5s,hx,bsS,Bool.not_true,Bool.false_eq_true,if_false]
    rw[ihl _ _ (by omega) (by rw[List.length_append];omega),z1b,List.append_assoc]
  intro e o hf hb
  rw[z2x] at hf
  show q5b (q4H m) e o=_
  have hb':=hb
  rw[z5M,List.length_append] at hb'
  have h1:q7p e o=some (true,o++if e.Kind=3 then [⟨e.Pos,e.Name⟩] else []):=by
   unfold q7p
   by_cases hk:e.Kind=3
   ·rw[ifP hk] at hb' ⊢
    rw[ifP hk,q3N]
    simp only[lnC,List.length_nil] at hb'
    constructor<;>omega
   ·rw[ifN hk,ifN hk,List.append_nil]
  unfold q5b
  rw[h1,bsS]
  dsimp only
  rw[ifP rfl]
  unfold q3T q3V
  rw[hl _ _ _ (by omega) (by rw[List.length_append];omega),z5M]
  simp[onr]
theorem k5V {e:Expr}(h:(z5L e).length≤4398046511104):q6t e []=some (true,z5L e):=
 q8s (fuE e) fun m hm=>by simpa using j9y m e [] hm (by simpa using h)
theorem j9z {α:Type}{s:List α}{k:Nat}{x:α}(h:k<s.length):(s.set k x).take (k+1)=s.take k++[x]:=by
 rw[List.take_add_one,List.take_set,List.set_eq_of_length_le (by simp;omega)]
 simp[List.getElem?_set,h]
theorem k2k {a:List Oc}{b:Nat}(ha:a.length≤4398046511104)(hb:1≤b)(hba:b<a.length):∀ (m j k:Nat) (s:List Oc),b+j+m=a.length→1≤j→1≤k→k≤b+j-1→s.length=a.length→s.take k=q5f (a.take (b+j))→s.drop (b+j-1)=a.drop (b+j-1) →
  ∃ s' k',q5g (q4e (b:Int)) (s,(k:Int),(j:Int))=some (s',((k' : Nat):Int))∧k'≤s'.length∧s'.take k'=q5f a:=by
 intro m
 induction m with
 | zero=>
  intro j k s hm hj hk hkj hs ht hd
  refine⟨s,k,q3U ?_,by omega,?_⟩
  ·unfold q4e
   dsimp only
   rw[ifN (by simp only[tnC,List.length_drop];omega)]
  ·rw[ht,show b+j=a.length by omega,List.take_length]
 | succ m ih=>
  intro j k s hm hj hk hkj hs ht hd
  obtain⟨x,hx⟩:∃ x,a[b+j]?=some x:=⟨_,List.getElem?_eq_getElem (by omega)⟩
  obtain⟨y,hy⟩:∃ y,a[b+j-1]?=some y:=⟨_,List.getElem?_eq_getElem (by omega)⟩
  obtain⟨z,hz⟩:∃ z,s[k]?=some z:=⟨_,List.getElem?_eq_getElem (by omega)⟩
  have hsx:s[b+j]?=some x:=by
   have:=congrArg (fun l=>l[1]?) hd
   simp only[List.getElem?_drop] at this
   rw[show b+j-1+1=b+j by omega] at this
   rw[this,hx]
  have hsy:s[b+(j-1)]?=some y:=by
   have:=congrArg (fun l=>l[0]?) hd
   simp only[List.getElem?_drop,Nat.add_zero] at this
   rw[show b+(j-1)=b+j-1 by omega,this,hy]
  have hc:=z9J (i:=b+j-1) (b:=x) hy (by rw[show b+j-1+1=b+j by omega];exact hx)
  rw[show b+j-1+2=b+(j+1) by omega,show b+j-1+1=b+j by omega] at hc
  have hd2:s.drop (b+(j+1)-1)=a.drop (b+(j+1)-1):=by
   have:=congrArg (fun l=>l.drop 1) hd
   simp only[List.drop_drop] at this
   rw[show b+(j+1)-1=b+j-1+1 by omega];exact this
  have e1:((j:Int)-1).toNat=j-1:=by omega
  by_cases hxy:x=y
  ·have e:q4e (b:Int) (s,(k:Int),(j:Int))=some (.inl (s,(k:Int),((j+1:Nat):Int))):=by
    unfold q4e
    dsimp only
    rw[ifP (by simp only[tnC,List.length_drop];omega),q3N (by omega)]
    simp only[tnC]
    rw[hsx,bsS,q3N (by constructor<;>omega),q3N (by omega),e1,hsy,bsS,ifP hxy,bsS]
    dsimp only
    rw[q3N (by constructor<;>omega)];rfl
   rw[q4Q e]
   exact ih (j+1) k s (by omega) (by omega) hk (by omega) hs (by rw[hc,ifP hxy.symm,ht]) hd2
  ·have e:q4e (b:Int) (s,(k:Int),(j:Int))=some (.inl (s.set k x,((k+1:Nat):Int),((j+1:Nat):Int))):=by
    unfold q4e
    dsimp only
    rw[ifP (by simp only[tnC,List.length_drop];omega),q3N (by omega)]
    simp only[tnC]
    rw[hsx,bsS,q3N (by constructor<;>omega),q3N (by omega),e1,hsy,bsS,ifN hxy,q3N (by omega),q3N (by omega),hz,bsS,q3N (by constructor<;>omega),bsS]
    dsimp only
    rw[q3N (by constructor<;>omega)];rfl
   rw[q4Q e]
   refine ih (j+1) (k+1) _ (by omega) (by omega) (by omega) (by omega) (by rw[List.length_set];exact hs) ?_ ?_
   ·rw[j9z (by omega),ht,hc,ifN (fun h=>hxy h.symm)]
   ·rw[List.drop_set,ifP (by omega)];exact hd2
theorem j9A {a:List Oc}(ha:a.length≤4398046511104):∀ (m k:Nat),k+m=a.length→1≤k→q5f (a.take k)=a.take k →
  (q5g (q4f a) (k:Int)).bind (onr (fun r1=>some r1) fun _=>some a)=some (q5f a):=by
 intro m
 induction m with
 | zero=>
  intro k hm hk hc
  have e:q4f a (k:Int)=some (.inr (.inl ())):=by
   unfold q4f
   dsimp only
   rw[ifN (by omega)]
  rw[q3U e,bsS]
  show some a=_
  rw[show k=a.length by omega,List.take_length] at hc
  rw[hc]
 | succ m ih=>
  intro k hm hk hc
  obtain⟨x,hx⟩:∃ x,a[k]?=some x:=⟨_,List.getElem?_eq_getElem (by omega)⟩
  obtain⟨y,hy⟩:∃ y,a[k-1]?=some y:=⟨_,List.getElem?_eq_getElem (by omega)⟩
  have hct:=z9J (i:=k-1) (b:=x) hy (by rw[show k-1+1=k by omega];exact hx)
  rw[show k-1+2=k+1 by omega,show k-1+1=k by omega] at hct
  have htk:a.take (k+1)=a.take k++[x]:=by rw[List.take_add_one,hx];rfl
  have e1:((k:Int)-1).toNat=k-1:=by omega
  by_cases hxy:x=y
  ·obtain⟨s',k',h1,h2,h3⟩:=k2k (b:=k) ha hk (by omega) m 1 k a (by omega) (by omega) hk (by omega) rfl (by rw[hct,ifP hxy.symm,hc]) rfl
   have hl:(s'.take k'++List.replicate (s'.length-k') (⟨(0:Int),(⟨#[]⟩:ByteArray)⟩:Oc)).take k'=q5f a:=by
    rw[List.take_append_of_le_length (by simp;omega),List.take_take,Nat.min_self,h3]
   have e:q4f a (k:Int)=some (.inr (.inr (q5f a))):=by
    unfold q4f
    dsimp only
    rw[ifP (by omega),q3N (by omega)]
    simp only[tnC]
    rw[hx,bsS,q3N (by constructor<;>omega),q3N (by omega),e1,hy,bsS,ifP hxy,q3N (by omega),q3N (by omega)]
    have h1' : q5g (q4e (k:Int)) (a,(k:Int),1)=some (s',((k' : Nat):Int)):=h1
    rw[h1',bsS]
    dsimp only
    simp only[tnC]
    rw[q3N (by omega),q3N (by omega),q3N (by omega),q3N (by simp;omega),hl]
   rw[q3U e,bsS];rfl
  ·have e:q4f a (k:Int)=some (.inl ((k+1:Nat):Int)):=by
    unfold q4f
    dsimp only
    rw[ifP (by omega),q3N (by omega)]
    simp only[tnC]
    rw[hx,bsS,q3N (by constructor<;>omega),q3N (by omega),e1,hy,bsS,ifN hxy,q3N (by constructor<;>omega)];rfl
   rw[q4Q e]
   exact ih (k+1) (by omega) (by omega) (by rw[hct,ifN (fun h=>hxy h.symm),hc,htk])
theorem k2l {a:List Oc}(ha:a.length≤4398046511104):q5p a=some (q5f a):=by
 unfold q5p
 by_cases h:(a.length:Int)<2
 ·rw[ifP h]
  match a,h with
  | [],_=>rfl
  | [x],_=>rfl
  | x::y::l,h=>simp only[lnC] at h;omega
 ·rw[ifN h]
  refine j9A ha (a.length-1) 1 (by omega) (Nat.le_refl _) ?_
  match a,h with
  | x::l,_=>rfl
def attrs (e:Expr):List Oc:=q5f (j7o (z5L e))
theorem k3J {o:Oc}{e:Expr}:o∈attrs e↔o∈z5L e:=by
 unfold attrs j7o
 rw[z7d,List.mem_mergeSort]
theorem k0L {e:Expr}(h:Sz.szd e≤1048576):q7f e=some (attrs e):=by
 have hl:=k3I h
 have hs:(j7o (z5L e)).length=(z5L e).length:=by unfold j7o;exact List.length_mergeSort _
 unfold q7f
 rw[k5V (by omega),bsS]
 dsimp only
 unfold q5Q
 rw[q3N (by omega),bsS,k2l (by omega)];rfl
end Go.Proofs.YtipikecbeganoaaGreat
