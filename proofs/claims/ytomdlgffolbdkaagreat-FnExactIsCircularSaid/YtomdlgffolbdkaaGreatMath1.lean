/- What those partial functions come to: plain lemmas on data; each bears its conditions in its statement. -/
import Derived.Test.YtomdlgffolbdkaaGreatDef
set_option linter.unusedVariables false
set_option linter.unusedSimpArgs false
set_option linter.ambiguousOpen false
set_option linter.unusedSectionVars false
set_option linter.unnecessarySimpa false
namespace Go.E
section
variable {α σ ρ:Type}
theorem j4G {c:ρ}:∀ {xs:List α} {i:Nat} {p:Nat→α→Prop} {f:Nat→α→Unit→Option (Unit ⊕ ρ)},(∀ k x,xs[k]?=some x→(p (i+k) x→f (i+k) x ()=some (.inr c))∧(¬ p (i+k) x→f (i+k) x ()=some (.inl ()))) →
  ((∃ k x,xs[k]?=some x∧p (i+k) x)→findL f i xs ()=some (.inr c))∧((∀ k x,xs[k]?=some x→¬ p (i+k) x)→findL f i xs ()=some (.inl ()))
 | [],i,p,f,_=>⟨fun ⟨k,x,h,_⟩=>by simp at h,fun _=>rfl⟩
 | x::xs,i,p,f,h=>by
  have h0:=h 0 x rfl
  simp only[Nat.add_zero] at h0
  have ih:=j4G (c:=c) (xs:=xs) (i:=i+1) (p:=p) (f:=f) fun k y hy=>by
   have:=h (k+1) y hy
   rwa[show i+(k+1)=i+1+k by omega] at this
  by_cases hp:p i x
  ·refine⟨fun _=>by simp[findL,h0.1 hp],fun hn=>absurd hp (hn 0 x rfl)⟩
  ·simp only[findL,h0.2 hp,bsS]
   refine⟨?_,?_⟩
   ·rintro⟨k,y,hy,hpy⟩
    cases k with
    | zero=>simp at hy;subst hy;exact absurd hpy hp
    | succ k=>exact ih.1 ⟨k,y,hy,by rwa[show i+1+k=i+(k+1) by omega]⟩
   ·intro hn
    exact ih.2 fun k y hy hpy=>hn (k+1) y hy (by rwa[show i+(k+1)=i+1+k by omega])
theorem j4H {c:ρ}:∀ {n i:Nat} {p:Nat→Prop} {f:Nat→Unit→Option (Unit ⊕ ρ)},(∀ k,k<n→(p (i+k)→f (i+k) ()=some (.inr c))∧(¬ p (i+k)→f (i+k) ()=some (.inl ()))) →
  ((∃ k,k<n∧p (i+k))→findN f i n ()=some (.inr c))∧((∀ k,k<n→¬ p (i+k))→findN f i n ()=some (.inl ()))
 | 0,i,p,f,_=>⟨fun ⟨k,h,_⟩=>by omega,fun _=>rfl⟩
 | n+1,i,p,f,h=>by
  have h0:=h 0 (by omega)
  simp only[Nat.add_zero] at h0
  have ih:=j4H (c:=c) (n:=n) (i:=i+1) (p:=p) (f:=f) fun k hk=>by
   have:=h (k+1) (by omega)
   rwa[show i+(k+1)=i+1+k by omega] at this
  by_cases hp:p i
  ·refine⟨fun _=>by simp[findN,h0.1 hp],fun hn=>absurd hp (hn 0 (by omega))⟩
  ·simp only[findN,h0.2 hp,bsS]
   refine⟨?_,?_⟩
   ·rintro⟨k,hk,hpk⟩
    cases k with
    | zero=>exact absurd hpk hp
    | succ k=>exact ih.1 ⟨k,by omega,by rwa[show i+1+k=i+(k+1) by omega]⟩
   ·intro hn
    exact ih.2 fun k hk hpk=>hn (k+1) (by omega) (by rwa[show i+(k+1)=i+1+k by omega])
theorem j7h [DecidableEq α]{y:α}:∀ {xs:List α} {i:Nat} {f:Nat→α→Unit→Option (Unit ⊕ Int)},(∀ k x,(x=y→f k x ()=some (.inr (k:Int)))∧(x≠y→f k x ()=some (.inl ()))) →
  findL f i xs ()=some (if y∈xs then .inr ((i+xs.idxOf y:Nat):Int) else .inl ())
 | [],i,f,_=>by simp[findL]
 | x::xs,i,f,h=>by
  by_cases hx:x=y
  ·subst hx;simp[findL,(h i x).1 rfl]
  ·have hx' : (x == y)=false:=by simpa using hx
   simp only[findL,(h i x).2 hx,bsS,j7h (xs:=xs) (i:=i+1) h,List.mem_cons,List.idxOf_cons,hx',cond_false]
   by_cases hy:y∈xs
   ·simp[hy];omega
   ·have:¬ y=x:=fun e=>hx e.symm
    simp[hy,this]
theorem j9N [DecidableEq α]{y:α}{xs:List α}{f:Nat→α→Unit→Option (Unit ⊕ Int)}(h:∀ k x,(x=y→f k x ()=some (.inr (k:Int)))∧(x≠y→f k x ()=some (.inl ()))) :
  (findL f 0 xs ()).bind (onr (fun r1=>some r1) fun _=>some (-1))=some (ixF xs y):=by
 rw[j7h h]
 unfold ixF
 by_cases hy:y∈xs<;>simp[hy]
theorem z1w {P:Nat→σ→Prop}:∀ {xs:List α} {i:Nat} {s:σ} {f:Nat→α→σ→Option σ},P i s→(∀ k x s,xs[k]?=some x→P (i+k) s→∃ s',f (i+k) x s=some s'∧P (i+k+1) s')→∃ s',eachL f i xs s=some s'∧P (i+xs.length) s'
 | [],i,s,f,h,_=>⟨s,rfl,h⟩
 | x::xs,i,s,f,h,hs=>by
  obtain⟨s1,h1,h2⟩:=hs 0 x s rfl h
  simp only[Nat.add_zero] at h1 h2
  obtain⟨s2,h3,h4⟩:=z1w (P:=P) (xs:=xs) (i:=i+1) (f:=f) h2 fun k y s hy hp=>by
   have:=hs (k+1) y s hy (by rwa[show i+(k+1)=i+1+k by omega])
   rwa[show i+(k+1)=i+1+k by omega] at this
  exact⟨s2,by simp[eachL,h1,h3],by rw[lnC,show i+(xs.length+1)=i+1+xs.length by omega];exact h4⟩
theorem z7A {P:Nat→σ→Prop}:∀ {n i:Nat} {s:σ} {f:Nat→σ→Option σ},P i s→(∀ k s,i≤k→k<i+n→P k s→∃ s',f k s=some s'∧P (k+1) s')→∃ s',eachN f i n s=some s'∧P (i+n) s'
 | 0,i,s,f,h,_=>⟨s,rfl,h⟩
 | n+1,i,s,f,h,hs=>by
  obtain⟨s1,h1,h2⟩:=hs i s (Nat.le_refl _) (by omega) h
  obtain⟨s2,h3,h4⟩:=z7A (P:=P) (n:=n) (i:=i+1) (f:=f) h2 fun k s hk hk2 hp=>hs k s (by omega) (by omega) hp
  exact⟨s2,by simp[eachN,h1,h3],by rw[show i+(n+1)=i+1+n by omega];exact h4⟩
end
end Go.E
set_option maxRecDepth 100000
set_option maxHeartbeats 4000000
noncomputable section
namespace Go.Proofs.YtomdlgffolbdkaaGreat
open Go Go.E
open Go.E.Sz (szd)
instance:Sz At_ where
 szd x:=x.Name.size
instance:Sz Symbol where
 szd x:=x.Name.size+szL x.Attributes
theorem j1T (x:Symbol):Sz.szd x=x.Name.size+szL x.Attributes:=rfl
instance:Sz Oc where
 szd x:=x.Name.size
theorem j1C (x:Oc):Sz.szd x=x.Name.size:=rfl
mutual
def z0P:Expr→Nat
 | ⟨a0,a1,a2,a3,a4,a5,a6⟩=>a4.size+a5.size+z2N a6
def z2N:List Expr→Nat
 | []=>0
 | x::xs=>1+z0P x+z2N xs
end
instance:Sz Expr:=⟨z0P⟩
theorem j6k (a:List Expr):z2N a=szL a:=by
 induction a with
 | nil=>rfl
 | cons x xs ih=>simp only[z2N,szL,ih];rfl
theorem q7R (x:Expr):Sz.szd x=x.Symbol.size+x.Name.size+szL x.Args:=by
 cases x;show z0P _=_;simp only[z0P,j6k]
instance:Sz Eqn where
 szd x:=x.At.Name.size+x.Expr.Symbol.size+x.Expr.Name.size+szL x.Expr.Args
theorem z5k (x:Eqn):Sz.szd x=x.At.Name.size+x.Expr.Symbol.size+x.Expr.Name.size+szL x.Expr.Args:=rfl
instance:Sz Cn where
 szd x:=x.Symbol.size+x.Name.size+x.Target.Symbol.size+x.Target.Name.size+szL x.Target.Args+x.Value.Symbol.size+x.Value.Name.size+szL x.Value.Args
theorem z1j (x:Cn):Sz.szd x=x.Symbol.size+x.Name.size+x.Target.Symbol.size+x.Target.Name.size+szL x.Target.Args+x.Value.Symbol.size+x.Value.Name.size+szL x.Value.Args:=rfl
instance:Sz Rule where
 szd x:=x.Name.size+x.Left.size+szL x.Right+szL x.Equations+szL x.Contributions
theorem z5M (x:Rule):Sz.szd x=x.Name.size+x.Left.size+szL x.Right+szL x.Equations+szL x.Contributions:=rfl
instance:Sz Gm_ where
 szd x:=szL x.Symbols+szL x.Rules
theorem z2q (x:Gm_):Sz.szd x=szL x.Symbols+szL x.Rules:=rfl
theorem z1K {α ρ:Type}{p:α→Bool}{r:α→ρ}:∀ {xs:List α} {i:Nat} {f:Nat→α→Unit→Option (Unit ⊕ ρ)},(∀ k x,x∈xs→(p x=true→f k x ()=some (.inr (r x)))∧(p x=false→f k x ()=some (.inl ()))) →
  findL f i xs ()=some (match xs.find? p with|some x=>.inr (r x)|none=>.inl ())
 | [],_,_,_=>rfl
 | x::xs,i,f,h=>by
  have h0:=h i x (by simp)
  cases hp:p x with
  | true=>simp[findL,h0.1 hp,List.find?,hp]
  | false=>
   have ih:=z1K (p:=p) (r:=r) (xs:=xs) (i:=i+1) (f:=f) fun k y hy=>h k y (by simp[hy])
   simp[findL,h0.2 hp,List.find?,hp,ih]
theorem q9f {α β:Type}{p:α→Bool}{g:Nat→α→β}{B:Nat}{f:Nat→α→List β→Option (List β)}(hf:∀ k x s,s.length<B→f k x s=some (if p x=true then s++[g k x] else s)):∀ (xs:List α) (i:Nat) (s:List β),s.length+xs.length≤B →
  ∃ ys,eachL f i xs s=some (s++ys)∧ys.length≤xs.length
 | [],i,s,_=>⟨[],by simp[eachL],by simp⟩
 | x::xs,i,s,h=>by
  simp only[lnC] at h
  by_cases hp:p x=true
  ·obtain⟨ys,h1,h2⟩:=q9f hf xs (i+1) (s++[g i x]) (by simp;omega)
   exact⟨g i x::ys,by simp[eachL,hf i x s (by omega),hp,h1],by simp;omega⟩
  ·obtain⟨ys,h1,h2⟩:=q9f hf xs (i+1) s (by omega)
   exact⟨ys,by simp[eachL,hf i x s (by omega),hp,h1],by simp;omega⟩
theorem z5l (x lo hi:Int):q4X x lo hi=some (decide (lo≤x∧x≤hi)):=by
 unfold q4X;split<;>simp_all<;>omega
theorem z8H (x lo hi:Int):q3N x lo hi=some (decide (lo≤x∧x≤hi)):=by
 unfold q3N;split<;>simp_all<;>omega
theorem z8h (r:Rule)(k:Int):q6o r k=q5w r k:=by
 unfold q6o q5w;rw[z5l,z8H]
def z8i (a:At_):Bool:=decide (a.Mode=1∨a.Mode=2)
theorem j1U:z2h=q5l:=rfl
theorem z5Z:q4B=q5m:=rfl
theorem j9O {g:Gm_}(h:∀ y∈g.Symbols,y.Attributes.length≤1048576)(s:ByteArray):∃ y b,q5e g s=some (y,b)∧q5g g s=some (y,b)∧y.Attributes.length≤1048576:=by
 have h1:=z1K (p:=fun y:Symbol=>decide (y.Name=s)) (r:=fun y=>(y,true)) (xs:=g.Symbols) (i:=0) (f:=q8F s) fun k y hy=>by
  have hg:q7Y y=some y:=by
   unfold q7Y;have:=h y hy;rw[q3y (by simp only[List.length_nil];constructor<;>omega)]
  unfold q8F;rw[hg];constructor<;>intro hp<;>simp_all
 have h2:=z1K (p:=fun y:Symbol=>decide (y.Name=s)) (r:=fun y=>(y,true)) (xs:=g.Symbols) (i:=0) (f:=q8K s) fun k y hy=>by
  unfold q8K;constructor<;>intro hp<;>simp_all
 unfold q5e q5g
 rw[h1,h2]
 cases hf:g.Symbols.find? (fun y:Symbol=>decide (y.Name=s)) with
 | none=>exact⟨_,_,rfl,rfl,by simp⟩
 | some y=>exact⟨_,_,rfl,rfl,h y (List.mem_of_find?_eq_some hf)⟩
theorem z3H {g:Gm_}(h:∀ y∈g.Symbols,y.Attributes.length≤1048576)(s:ByteArray):∃ l,q4Y g s=some l∧q4r g s=some l∧l.length≤1048576:=by
 obtain⟨y,b,h1,h2,h3⟩:=j9O h s
 obtain⟨l,h4,h5⟩:=q9f (p:=z8i) (g:=fun _ x=>x) (B:=1048577) (f:=q5l) (fun k x s hs=>by
  have hg:((s.length:Int)+1)*40≤140737488355328∧(s.length:Int)+1≤9223372036854775807:=by constructor<;>omega
  unfold q5l z8i
  rw[q3y hg]
  by_cases m1:x.Mode=1
  ·rw[ifP m1,ifP (by simp[m1])];rfl
  ·rw[ifN m1]
   by_cases m2:x.Mode=2
   ·rw[ifP m2,ifP (by simp[m2])];rfl
   ·rw[ifN m2,ifN (by simp[m1,m2])];rfl) y.Attributes 0 [] (by simp;omega)
 simp only[List.nil_append] at h4
 refine⟨l,?_,?_,by omega⟩
 ·unfold q4Y;rw[h1];dsimp only[bsS];rw[h4];rfl
 ·unfold q4r;rw[h2];dsimp only[bsS];rw[j1U,h4];rfl
theorem j1V (r:Rule)(k:Nat)(hk:k≤r.Right.length)(hl:r.Right.length≤1048576):∃ x,q5w r (k:Int)=some x:=by
 unfold q5w
 by_cases h0:(k:Int)=0
 ·exact⟨_,ifP h0⟩
 ·rw[ifN h0,z5l,bsS,ifP (by simp;omega),q3y (by constructor<;>omega),q3y (by omega)]
  obtain⟨x,hx⟩:∃ x,r.Right[((k:Int)-1).toNat]?=some x:=⟨_,List.getElem?_eq_getElem (by omega)⟩
  exact⟨x,by rw[hx];rfl⟩
theorem j9P (k:Nat)(B:Nat)(hB:B≤4398046511104):∀ (l:List At_) (i:Nat) (s:List Oc),s.length+l.length≤B→∃ ys,eachL (q5r k) i l s=some (s++ys)∧ys.length≤l.length:=fun l i s h=>
 q9f (p:=fun _=>true) (g:=fun _ x=>(⟨(k:Int),x.Name⟩:Oc)) (B:=B) (f:=q5r k) (fun j x s hs=>by
  have hg:((s.length:Int)+1)*24≤140737488355328∧(s.length:Int)+1≤9223372036854775807:=by constructor<;>omega
  unfold q5r
  rw[q3y hg,ifP rfl]) l i s h
theorem j7i (k:Nat):z3r (k:Int)=q5r k:=rfl
theorem z9u {g:Gm_}{r:Rule}(h:∀ y∈g.Symbols,y.Attributes.length≤1048576)(hr:r.Right.length≤1048576):∃ l,q5f g r=some l∧q4D g r=some l∧l.length≤1099512676352:=by
 have key:∀ m k (s:List Oc),k+m=r.Right.length+1→s.length≤k*1048576→∃ l,eachN (q4c g r) k m s=some l∧q5u (q4J g r) (s,(k:Int))=some l∧l.length≤(k+m)*1048576:=by
  intro m
  induction m with
  | zero=>
   intro k s hk hs
   refine⟨s,rfl,q3G ?_,by simpa using hs⟩
   unfold q4J;dsimp only;rw[ifN (by omega)]
  | succ m ih=>
   intro k s hk hs
   obtain⟨x,hx⟩:=j1V r k (by omega) hr
   obtain⟨p,hp1,hp2,hp3⟩:=z3H h x
   obtain⟨ys,hy1,hy2⟩:=j9P k 4398046511104 (by omega) p 0 s (by omega)
   obtain⟨l,h1,h2,h3⟩:=ih (k+1) (s++ys) (by omega) (by simp;omega)
   refine⟨l,?_,?_,by rw[show k+(m+1)=k+1+m by omega];exact h3⟩
   ·have e:q4c g r k s=some (s++ys):=by
     unfold q4c;rw[z8h,hx,bsS,hp2,bsS,hy1];rfl
    simp only[eachN,e,bsS];exact h1
   ·have e:q4J g r (s,(k:Int))=some (.inl (s++ys,((k+1:Nat):Int))):=by
     unfold q4J;dsimp only
     rw[ifP (by omega),hx,bsS,hp1,bsS,j7i,hy1,bsS,q3y (by constructor<;>omega)];rfl
    rw[q4I e];exact h2
 obtain⟨l,h1,h2,h3⟩:=key (r.Right.length+1) 0 [] (by omega) (by simp)
 refine⟨l,?_,?_,by omega⟩
 ·unfold q5f
  have e:q5u (q4J g r) (([]:List Oc),0)=some l:=h2
  rw[e];rfl
 ·unfold q4D
  rw[q3y (by constructor<;>omega),h1];rfl
theorem k1U {g:Gm_}{r:Rule}(k:Int)(h:∀ y∈g.Symbols,y.Attributes.length≤1048576)(hr:r.Right.length≤1048576):∃ l,q5y g r k=some l∧q4z g r k=some l∧l.length≤1099512676352:=by
 obtain⟨o,h1,h2,h3⟩:=z9u h hr
 obtain⟨l,h4,h5⟩:=q9f (p:=fun x:Oc=>decide (x.Pos=k)) (g:=fun i _=>((i:Nat):Int)) (B:=4398046511104) (f:=q5m k) (fun i x s hs=>by
  have hg:((s.length:Int)+1)*8≤140737488355328∧(s.length:Int)+1≤9223372036854775807:=by constructor<;>omega
  unfold q5m
  rw[q3y hg]
  by_cases m1:x.Pos=k
  ·rw[ifP m1,ifP (by simp[m1])];rfl
  ·rw[ifN m1,ifN (by simp[m1])];rfl) o 0 [] (by simp;omega)
 simp only[List.nil_append] at h4
 refine⟨l,?_,?_,by omega⟩
 ·unfold q5y;rw[h1];dsimp only[bsS];rw[h4];rfl
 ·unfold q4z;rw[h2];dsimp only[bsS];rw[z5Z,h4];rfl
theorem j9Q {α:Type}[Sz α]{x:α}:∀ {l:List α},x∈l→Sz.szd x≤szL l
 | [],h=>by simp at h
 | y::l,h=>by
  rcases List.mem_cons.1 h with rfl|h
  ·simp only[szL];omega
  ·have:=j9Q h;simp only[szL];omega
theorem z3c {g:Gm_}(h:Sz.szd g≤1048576):∀ y∈g.Symbols,y.Attributes.length≤1048576:=fun y hy=>by
 have h1:=j9Q hy
 have h2:=j1T y
 have h3:=z2q g
 have h4:=q5a y.Attributes
 omega
theorem q7S {r:Rule}(h:Sz.szd r≤1048576):r.Right.length≤1048576:=by
 have h1:=z5M r
 have h2:=q5a r.Right
 omega
def Valid (r:Rl_):Prop:=0≤r.N∧r.N≤16∧(r.Rows.length:Int)=r.N∧∀ x∈r.Rows,0≤x∧x≤((2 ^ r.N.toNat:Nat):Int)-1
instance (r:Rl_):Decidable (Valid r):=by unfold Valid;infer_instance
def z6f (r:Rl_)(i:Int):Int:=r.Rows.getD i.toNat 0
def bit (x:Int)(k:Int):Prop:=x.toNat >>> k.toNat &&& 1=1
instance (x k:Int):Decidable (bit x k):=by unfold bit;infer_instance
def inN (r:Rl_)(i:Int):Prop:=0≤i∧i≤r.N-1
instance (r:Rl_) (i:Int):Decidable (inN r i):=by unfold inN;infer_instance
def hasP (r:Rl_)(i k:Int):Prop:=Valid r∧inN r i∧inN r k∧bit (z6f r i) k
instance (r:Rl_) (i k:Int):Decidable (hasP r i k):=by unfold hasP;infer_instance
def j0J (r:Rl_)(i:Int)(x:Int):Rl_:=⟨r.N,r.Rows.set i.toNat x⟩
def orI (x y:Int):Int:=((x.toNat ||| y.toNat:Nat):Int)
def addP (r:Rl_)(i k:Int):Rl_:=if Valid r∧inN r i∧inN r k then j0J r i (orI (z6f r i) ((2 ^ k.toNat:Nat):Int)) else r
theorem Valid.row {r:Rl_}(h:Valid r){i:Int}(hi:inN r i){x:Int}(hx:r.Rows[i.toNat]?=some x):z6f r i=x∧0≤x∧x≤65535:=by
 have hm:=h.2.2.2 x (List.mem_of_getElem? hx)
 have hp:2 ^ r.N.toNat≤2 ^ 16:=Nat.pow_le_pow_right (by decide) (by have:=h.2.1;omega)
 refine⟨by unfold z6f;simp[hx],hm.1,by omega⟩
theorem k5O {n:Int}(h:n≤16):2 ^ n.toNat≤65536:=by
 have:2 ^ n.toNat≤2 ^ 16:=Nat.pow_le_pow_right (by decide) (by omega)
 simpa using this
theorem k1V (n:Int):1≤2 ^ n.toNat:=Nat.one_le_two_pow
theorem j9R {r:Rl_}(h0:0≤r.N)(h1:r.N≤16)(h2:(r.Rows.length:Int)=r.N):decide (Valid r)=!(r.Rows.any fun x=>!decide (0≤x∧x≤((2 ^ r.N.toNat:Nat):Int)-1)):=by
 by_cases hv:Valid r
 ·rw[decide_eq_true hv,eq_comm,Bool.not_eq_true',List.any_eq_false]
  intro x hx
  simp only[Bool.not_eq_true',decide_eq_false_iff_not,Decidable.not_not]
  exact hv.2.2.2 x hx
 ·rw[decide_eq_false hv,eq_comm,Bool.not_eq_false',List.any_eq_true]
  refine Classical.byContradiction fun hn=>hv ⟨h0,h1,h2,fun x hx=>Classical.byContradiction fun hb=>hn ⟨x,hx,?_⟩⟩
  rw[decide_eq_false hb];rfl
theorem k3s {x k:Int}(h:(((((x.toNat >>> k.toNat:Nat):Int)).toNat &&& (1:Int).toNat:Nat):Int)=1):x.toNat >>> k.toNat &&& 1=1:=by
 have:(1:Int).toNat=1:=rfl
 rw[tnC,this] at h
 exact_mod_cast h
theorem k3t {x k:Int}(h:x.toNat >>> k.toNat &&& 1=1):(((((x.toNat >>> k.toNat:Nat):Int)).toNat &&& (1:Int).toNat:Nat):Int)=1:=by
 have:(1:Int).toNat=1:=rfl
 rw[tnC,this]
 exact_mod_cast h
theorem q9V (x lo hi:Int):q4X x lo hi=some (decide (lo≤x∧x≤hi)):=by
 unfold q4X;split<;>simp_all<;>omega
theorem z3I (x lo hi:Int):q3N x lo hi=some (decide (lo≤x∧x≤hi)):=by
 unfold q3N;split<;>simp_all<;>omega
theorem q8f (r:Rl_):q4M r=some (decide (Valid r)):=by
 unfold q4M
 simp only[q9V,bsS,decide_eq_true_eq]
 by_cases h1:0≤r.N∧r.N≤16
 ·rw[ifP h1]
  by_cases h2:(r.Rows.length:Int)=r.N
  ·rw[ifP h2]
   have key:=j4H (c:=false) (n:=r.N.toNat) (i:=0) (p:=fun k=>∃ x,r.Rows[k]?=some x∧¬ (0≤x∧x≤((2 ^ r.N.toNat:Nat):Int)-1)) (f:=q8V r) fun k hk=>by
    have hk' : k<r.Rows.length:=by omega
    obtain⟨x,hx⟩:∃ x,r.Rows[k]?=some x:=⟨_,List.getElem?_eq_getElem hk'⟩
    simp only[Nat.zero_add]
    unfold q8V
    rw[hx,bsS,q3y h1.1,q3y (by omega),q9V,bsS]
    simp only[decide_eq_true_eq]
    refine⟨fun ⟨y,hy,hn⟩=>?_,fun hn=>?_⟩
    ·cases hy;rw[ifN hn]
    ·by_cases hb:0≤x∧x≤((2 ^ r.N.toNat:Nat):Int)-1
     ·rw[ifP hb]
     ·exact absurd ⟨x,rfl,hb⟩ hn
   simp only[Nat.zero_add] at key
   by_cases hv:Valid r
   ·rw[key.2 fun k hk ⟨x,hx,hn⟩=>hn (hv.2.2.2 x (List.mem_of_getElem? hx))]
    simp[hv]
   ·rw[key.1 (Classical.byContradiction fun hn=>hv ⟨h1.1,h1.2,h2,fun x hx=>?_⟩)]
    ·simp[hv]
    ·obtain⟨k,hk⟩:=List.getElem?_of_mem hx
     have hk':=k5D hk
     exact Classical.byContradiction fun hb=>hn ⟨k,by omega,x,hk,hb⟩
  ·rw[ifN h2,decide_eq_false fun hv=>h2 hv.2.2.1]
 ·rw[ifN h1,decide_eq_false fun hv=>h1 ⟨hv.1,hv.2.1⟩]
theorem z6G (r:Rl_):q5C r=some (decide (Valid r)):=by
 unfold q5C
 simp only[z3I,bsS,decide_eq_true_eq]
 by_cases h1:0≤r.N∧r.N≤16
 ·rw[ifP h1]
  simp only[bsS,Bool.false_eq_true,if_true,if_false,decide_eq_true_eq]
  by_cases h2:(r.Rows.length:Int)=r.N
  ·rw[ifP h2]
   have h3:∀ x,q6a x r=some (!decide (0≤x∧x≤((2 ^ r.N.toNat:Nat):Int)-1)):=fun x=>by
    unfold q6a
    rw[q3y h1.1,q3y (by omega),z3I];rfl
   have h4:∀ (xs:List Int) (i:Nat),∃ z,findL (q4E r) i xs ()=some z∧((xs.any fun x=>!decide (0≤x∧x≤((2 ^ r.N.toNat:Nat):Int)-1))=true→∃ k:Nat,z=.inr (k:Int))∧((xs.any fun x=>!decide (0≤x∧x≤((2 ^ r.N.toNat:Nat):Int)-1))=false→z=.inl ()):=by
    intro xs
    induction xs with
    | nil=>intro i;exact⟨_,rfl,by simp,by simp⟩
    | cons x xs ih=>
     intro i
     simp only[findL,q4E,h3,bsS,List.any_cons]
     by_cases hb:0≤x∧x≤((2 ^ r.N.toNat:Nat):Int)-1
     ·simp only[hb,and_self,decide_true,Bool.not_true,Bool.false_eq_true,if_false,bsS,Bool.false_or]
      exact ih (i+1)
     ·simp only[hb,decide_false,Bool.not_false,if_true,bsS,Bool.true_or]
      exact⟨_,rfl,fun _=>⟨i,rfl⟩,by simp⟩
   unfold q3X q4g
   obtain⟨z,hz,hz1,hz2⟩:=h4 r.Rows 0
   rw[hz,j9R h1.1 h1.2 h2]
   cases ha:(r.Rows.any fun x=>!decide (0≤x∧x≤((2 ^ r.N.toNat:Nat):Int)-1)) with
   | true=>obtain⟨k,rfl⟩:=hz1 ha;simp
   | false=>rw[hz2 ha];simp
  ·rw[ifN h2,decide_eq_false fun hv=>h2 hv.2.2.1];simp only[bsS,Bool.false_eq_true,if_true,if_false,decide_eq_true_eq]
 ·rw[ifN h1,decide_eq_false fun hv=>h1 ⟨hv.1,hv.2.1⟩];simp only[bsS,Bool.false_eq_true,if_true,if_false,decide_eq_true_eq]
theorem z0w (r:Rl_)(i k:Int):q8m r i k=some (decide (hasP r i k)):=by
 unfold q8m
 simp only[q8f,q9V,bsS,decide_eq_true_eq]
 by_cases hv:Valid r
 ·have hv1:=hv.1;have hv2:=hv.2.1;have hv3:=hv.2.2.1
  rw[ifP hv,q3y (by constructor<;>omega)];simp only[bsS,Bool.false_eq_true,if_true,if_false,decide_eq_true_eq]
  by_cases hi:0≤i∧i≤r.N-1
  ·rw[ifP hi,q3y (by constructor<;>omega)];simp only[bsS,Bool.false_eq_true,if_true,if_false,decide_eq_true_eq]
   by_cases hk:0≤k∧k≤r.N-1
   ·obtain⟨x,hx⟩:∃ x,r.Rows[i.toNat]?=some x:=⟨_,List.getElem?_eq_getElem (by omega)⟩
    have hrow:=hv.row (i:=i) hi hx
    rw[ifP hk,q3y hi.1,hx,bsS,q3y hk.1,q3y ⟨hrow.2.1,hk.1,by omega⟩,q3y ⟨Int.natCast_nonneg _,by decide⟩]
    simp only[bsS,Bool.false_eq_true,if_true,if_false,decide_eq_true_eq]
    congr 1
    refine decide_eq_decide.2 ⟨fun hb=>⟨hv,hi,hk,?_⟩,fun hb=>?_⟩
    ·unfold bit;rw[hrow.1];exact k3s hb
    ·have:=hb.2.2.2;unfold bit at this;rw[hrow.1] at this;exact k3t this
   ·rw[ifN hk];simp only[bsS,Bool.false_eq_true,if_true,if_false,decide_eq_true_eq];rw[ decide_eq_false fun h=>hk h.2.2.1]
  ·rw[ifN hi];simp only[bsS,Bool.false_eq_true,if_true,if_false,decide_eq_true_eq];rw[ decide_eq_false fun h=>hi h.2.1]
 ·rw[ifN hv];simp only[bsS,Bool.false_eq_true,if_true,if_false,decide_eq_true_eq];rw[ decide_eq_false fun h=>hv h.1]
theorem z6H (r:Rl_)(i k:Int):q9c r i k=some (decide (hasP r i k)):=by
 rw[← z0w]
 unfold q9c q8m
 simp only[q8f,z6G,q9V,z3I]
theorem j4I:q6Z=q8l:=by
 funext r;unfold q6Z q8l q4Z
 by_cases h:((([]:List Int).length:Int)+(r.Rows.length:Int))*8≤140737488355328∧(([]:List Int).length:Int)+(r.Rows.length:Int)≤9223372036854775807
 ·rw[q3y h,q3y h];rfl
 ·unfold grd;rw[ifN h,ifN h];rfl
theorem k1W:q9c=q8m:=by
 funext r i k;rw[z6H,z0w]
theorem j3m:z0m=q6g:=by
 funext r i k;unfold z0m q6g;simp only[j4I,q8f,z6G,q9V,z3I]
theorem j1W:q6B=q4x:=by
 funext n;unfold q6B q4x;simp only[q9V,z3I]
theorem z7B {r:Rl_}(h:r.Rows.length≤1048576):q8l r=some r:=by
 unfold q8l;rw[q3y (by simp only[List.length_nil];constructor<;>omega)]
theorem j7j {r:Rl_}(h:r.Rows.length≤1048576)(i k:Int):∃ x,q6g r i k=some x∧x.Rows.length=r.Rows.length:=by
 unfold q6g
 simp only[z7B h,q8f,q9V,bsS,decide_eq_true_eq]
 by_cases hv:Valid r
 ·have hv1:=hv.1;have hv2:=hv.2.1;have hv3:=hv.2.2.1
  rw[ifP hv,q3y (by constructor<;>omega)];simp only[bsS,Bool.false_eq_true,if_true,if_false,decide_eq_true_eq]
  by_cases hi:0≤i∧i≤r.N-1
  ·rw[ifP hi,q3y (by constructor<;>omega)];simp only[bsS,Bool.false_eq_true,if_true,if_false,decide_eq_true_eq]
   by_cases hk:0≤k∧k≤r.N-1
   ·obtain⟨x,hx⟩:∃ x,r.Rows[i.toNat]?=some x:=⟨_,List.getElem?_eq_getElem (by omega)⟩
    have hrow:=hv.row (i:=i) hi hx
    rw[ifP hk,q3y hi.1,hx,bsS,q3y hk.1,q3y ⟨hk.1,by omega⟩,q3y ⟨hrow.2.1,Int.natCast_nonneg _⟩]
    exact⟨_,rfl,by simp⟩
   ·rw[ifN hk];exact⟨_,rfl,rfl⟩
  ·rw[ifN hi];simp only[bsS,Bool.false_eq_true,if_true,if_false,decide_eq_true_eq];exact⟨_,rfl,rfl⟩
 ·rw[ifN hv];simp only[bsS,Bool.false_eq_true,if_true,if_false,decide_eq_true_eq];exact⟨_,rfl,rfl⟩
theorem j8t (n:Nat):∃ x,q4x (n:Int)=some x∧x.Rows.length≤16:=by
 unfold q4x;simp only[q9V,bsS,decide_eq_true_eq]
 by_cases h:0≤(n:Int)∧(n:Int)≤16
 ·rw[ifP h,q3y (by refine⟨by omega,by omega,by omega⟩)];exact⟨_,rfl,by simp;omega⟩
 ·rw[ifN h];exact⟨_,rfl,by simp⟩
theorem z8I {α σ:Type}{f:Nat→α→σ→Option σ}:∀ (xs ys:List α) (i:Nat) (s:σ),eachL f i (xs++ys) s=(eachL f i xs s).bind fun t=>eachL f (i+xs.length) ys t
 | [],ys,i,s=>rfl
 | x::xs,ys,i,s=>by
  simp only[List.cons_append,eachL]
  cases f i x s with
  | none=>rfl
  | some t=>simp only[bsS];rw[z8I xs ys (i+1) t,lnC,show i+1+xs.length=i+(xs.length+1) by omega]
theorem z5m (k:Nat):∀ (l:List At_) (i:Nat) (s:List Oc),s.length+l.length≤4398046511104→eachL (q5r k) i l s=some (s++l.map fun x=>(⟨(k:Int),x.Name⟩:Oc))
 | [],i,s,_=>by simp[eachL]
 | x::l,i,s,h=>by
  simp only[lnC] at h
  have hg:((s.length:Int)+1)*24≤140737488355328∧(s.length:Int)+1≤9223372036854775807:=by constructor<;>omega
  have e:q5r k i x s=some (s++[(⟨(k:Int),x.Name⟩:Oc)]):=by unfold q5r;rw[q3y hg]
  simp only[eachL,e,bsS]
  rw[z5m k l (i+1) _ (by simp;omega)];simp
theorem k3X {g:Gm_}{r:Rule}(h:∀ y∈g.Symbols,y.Attributes.length≤1048576)(hr:r.Right.length≤1048576){l:List At_}{o:List Oc}(hl:q4r g r.Left=some l)(ho:q4D g r=some o) :
  ∃ ys,o=(l.map fun x=>(⟨0,x.Name⟩:Oc))++ys:=by
 have key:∀ m k (s:List Oc),k+m=r.Right.length+1→s.length≤k*1048576→∀ q,eachN (q4c g r) k m s=some q→∃ ys,q=s++ys:=by
  intro m
  induction m with
  | zero=>intro k s _ _ q hq;cases hq;exact⟨[],by simp⟩
  | succ m ih=>
   intro k s hk hs q hq
   obtain⟨x,hx⟩:=j1V r k (by omega) hr
   obtain⟨p,hp1,hp2,hp3⟩:=z3H h x
   have hy:=z5m k p 0 s (by omega)
   have e:q4c g r k s=some (s++p.map fun x=>(⟨(k:Int),x.Name⟩:Oc)):=by
    unfold q4c;rw[z8h,hx,bsS,hp2,bsS,hy];rfl
   simp only[eachN,e,bsS] at hq
   obtain⟨ys,hys⟩:=ih (k+1) _ (by omega) (by simp;omega) q hq
   exact⟨_,by rw[hys,List.append_assoc]⟩
 unfold q4D at ho
 rw[q3y (by constructor<;>omega)] at ho
 have e1:eachN (q4c g r) 0 (r.Right.length+1) []=some o:=by
  cases hq:eachN (q4c g r) 0 (r.Right.length+1) [] with
  | none=>rw[hq] at ho;cases ho
  | some q=>rw[hq] at ho;exact ho
 have hl3:l.length≤1048576:=by
  obtain⟨p,_,h2,h3⟩:=z3H h r.Left
  rw[hl] at h2;cases h2;exact h3
 have hx:q6o r ((0:Nat):Int)=some r.Left:=by unfold q6o;exact ifP rfl
 have e:q4c g r 0 []=some ([]++l.map fun x=>(⟨((0:Nat):Int),x.Name⟩:Oc)):=by
  unfold q4c;rw[hx,bsS,hl,bsS,z5m 0 l 0 [] (by simp;omega)];rfl
 simp only[eachN,e,bsS] at e1
 obtain⟨ys,hys⟩:=key r.Right.length 1 _ (by omega) (by simp;omega) o e1
 exact⟨ys,by simpa using hys⟩
theorem j9S:∀ (xs:List Oc) (i:Nat) (s:List Int),s.length+xs.length≤4398046511104→(∀ x∈xs,x.Pos=0)→eachL (q4B 0) i xs s=some (s++(List.range' i xs.length).map fun (j:Nat)=>(j:Int))
 | [],i,s,_,_=>by simp[eachL]
 | x::xs,i,s,h,h0=>by
  simp only[lnC] at h
  have hg:((s.length:Int)+1)*8≤140737488355328∧(s.length:Int)+1≤9223372036854775807:=by constructor<;>omega
  have e:q4B 0 i x s=some (s++[(i:Int)]):=by
   unfold q4B;rw[ifP (h0 x (by simp)),q3y hg];rfl
  simp only[eachL,e,bsS]
  rw[j9S xs (i+1) _ (by simp;omega) fun y hy=>h0 y (by simp[hy])]
  simp[List.range'_succ]
theorem k3Y {g:Gm_}{r:Rule}(h:∀ y∈g.Symbols,y.Attributes.length≤1048576)(hr:r.Right.length≤1048576){l:List At_}{y:List Int}(hl:q4r g r.Left=some l)(hy:q4z g r 0=some y):∀ k:Nat,k<l.length→y[k]?=some (k:Int):=by
 obtain⟨o,_,ho,ho3⟩:=z9u h hr
 obtain⟨ys,hys⟩:=k3X h hr hl ho
 have hl3:l.length≤1048576:=by
  obtain⟨p,_,h2,h3⟩:=z3H h r.Left
  rw[hl] at h2;cases h2;exact h3
 unfold q4z at hy
 rw[ho,bsS] at hy
 have hy' : eachL (q4B 0) 0 o []=some y:=by
  cases hq:eachL (q4B 0) 0 o [] with
  | none=>rw[hq] at hy;cases hy
  | some q=>rw[hq] at hy;exact hy
 have hlen:=congrArg List.length hys
 simp only[List.length_append,lnM] at hlen
 rw[hys,z8I,j9S _ 0 [] (by simp;omega) (by intro x hx;obtain⟨a,_,rfl⟩:=List.mem_map.1 hx;rfl),bsS] at hy'
 obtain⟨zs,h4,h5⟩:=q9f (p:=fun x:Oc=>decide (x.Pos=0)) (g:=fun i _=>((i:Nat):Int)) (B:=4398046511104) (f:=q4B 0) (fun i x s hs=>by
  have hg:((s.length:Int)+1)*8≤140737488355328∧(s.length:Int)+1≤9223372036854775807:=by constructor<;>omega
  unfold q4B
  rw[q3y hg]
  by_cases m1:x.Pos=0
  ·rw[ifP m1,ifP (by simp[m1])];rfl
  ·rw[ifN m1,ifN (by simp[m1])];rfl) ys (0+(l.map fun x=>(⟨0,x.Name⟩:Oc)).length) ([]++(List.range' 0 (l.map fun x=>(⟨0,x.Name⟩:Oc)).length).map fun (j:Nat)=>(j:Int)) (by simp;omega)
 rw[h4] at hy'
 cases hy'
 intro k hk
 rw[List.getElem?_append_left (by simpa using hk)]
 simp[hk]
theorem z8j {α σ:Type}{P:σ→Prop}{f g:Nat→α→σ→Option σ}:∀ (xs:List α) (i:Nat) (s:σ),P s→(∀ k x s,k<i+xs.length→x∈xs→P s→∃ s',f k x s=some s'∧g k x s=some s'∧P s')→∃ s',eachL f i xs s=some s'∧eachL g i xs s=some s'∧P s'
 | [],i,s,hs,_=>⟨s,rfl,rfl,hs⟩
 | x::xs,i,s,hs,h=>by
  obtain⟨t,h1,h2,h3⟩:=h i x s (by simp) (by simp) hs
  obtain⟨u,h4,h5,h6⟩:=z8j xs (i+1) t h3 fun k y s hk hy=>h k y s (by simp;omega) (by simp[hy])
  exact⟨u,by simp only[eachL,h1,bsS,h4],by simp only[eachL,h2,bsS,h5],h6⟩
theorem j4J {g:Gm_}{r:Rule}{c:Rl_}(h:∀ y∈g.Symbols,y.Attributes.length≤1048576)(hr:r.Right.length≤1048576):∃ x,q6G g r c=some x∧q9d g r c=some x∧x.Rows.length≤16:=by
 obtain⟨l,l1,l2,l3⟩:=z3H h r.Left
 obtain⟨y,_,y2,_⟩:=k1U 0 h hr
 have hy:=k3Y h hr l2 y2
 obtain⟨e,e1,e2⟩:=j8t l.length
 have step:∀ k1 x1,k1<l.length→∀ k2 x2 s,k2<l.length→s.1.length≤16→∃ s',q8n c k1 x1 k2 x2 s=some s'∧z1u c y k1 x1 k2 x2 s=some s'∧s'.1.length≤16:=by
  intro k1 x1 hk1 k2 x2 ⟨s3,s4⟩ hk2 hs
  dsimp only at hs
  obtain⟨z,z1,z2⟩:=j7j (r:=⟨s4,s3⟩) (by show s3.length≤_;omega) (k1:Int) (k2:Int)
  unfold q8n z1u
  rw[k1W,j3m,hy k1 hk1,hy k2 hk2]
  simp only[bsS,z0w,z1,decide_eq_true_eq]
  by_cases m1:x1.Mode=1
  ·by_cases m2:x2.Mode=2
   ·by_cases m3:hasP c (k1:Int) (k2:Int)
    ·simp only[m1,m2,m3,if_true,decide_true,bsS];exact⟨_,rfl,rfl,by rw[z2];exact hs⟩
    ·simp only[m1,m2,m3,if_true,if_false,decide_true,decide_false,bsS];exact⟨_,rfl,rfl,hs⟩
   ·simp[m1,m2,hs]
  ·simp[m1,hs]
 obtain⟨⟨s1,s2⟩,h1,h2,h3⟩:=z8j (P:=fun s:List Int×Int=>s.1.length≤16) (f:=q9D c l) (g:=z4c c l y) l 0 (e.Rows,e.N) e2 fun k x s hk _ hs=>by
  obtain⟨s',t1,t2,t3⟩:=z8j (P:=fun s:List Int×Int=>s.1.length≤16) (f:=q8n c k x) (g:=z1u c y k x) l 0 s hs fun k2 x2 s hk2 _ hs=>step k x (by omega) k2 x2 s (by omega) hs
  obtain⟨s3,s4⟩:=s
  exact⟨s',by unfold q9D;dsimp only;rw[t1];rfl,by unfold z4c;dsimp only;rw[t2];rfl,t3⟩
 refine⟨⟨s2,s1⟩,?_,?_,h3⟩
 ·unfold q6G;rw[l1,bsS,e1,bsS,h1];rfl
 ·unfold q9d;rw[l2,bsS,y2,bsS,j1W,e1,bsS,h2];rfl
end Go.Proofs.YtomdlgffolbdkaaGreat
namespace Go.E
section
variable {α:Type}{lt:α→α→Bool}
theorem j1X (irr:∀ a,lt a a=false)(tr:∀ a b c,lt a b=true→lt b c=true→lt a c=true) :
  ∀ {xs ys:List α},xs.Pairwise (fun a b=>lt a b=true)→ys.Pairwise (fun a b=>lt a b=true)→(∀ a,a∈xs↔a∈ys)→xs=ys
 | [],[],_,_,_=>rfl
 | [],y::ys,_,_,h=>absurd ((h y).2 (by simp)) (by simp)
 | x::xs,[],_,_,h=>absurd ((h x).1 (by simp)) (by simp)
 | x::xs,y::ys,hx,hy,h=>by
  rw[List.pairwise_cons] at hx hy
  have asym:∀ a b,lt a b=true→lt b a=true→False:=fun a b h1 h2=>by have:=tr a b a h1 h2;rw[irr] at this;cases this
  have hxy:x=y:=by
   have h1:=(h x).1 (by simp)
   have h2:=(h y).2 (by simp)
   rcases List.mem_cons.1 h1 with e|h1
   ·exact e
   rcases List.mem_cons.1 h2 with e|h2
   ·exact e.symm
   exact (asym x y (hx.1 y h2) (hy.1 x h1)).elim
  subst hxy
  congr 1
  refine j1X irr tr hx.2 hy.2 fun a=>?_
  constructor
  ·intro ha
   rcases List.mem_cons.1 ((h a).1 (by simp[ha])) with e|h1
   ·subst e;have:=hx.1 _ ha;rw[irr] at this;cases this
   ·exact h1
  ·intro ha
   rcases List.mem_cons.1 ((h a).2 (by simp[ha])) with e|h1
   ·subst e;have:=hy.1 _ ha;rw[irr] at this;cases this
   ·exact h1
theorem j8u (tr:∀ a b c,lt a b=true→lt b c=true→lt a c=true)(tot:∀ a b,lt a b=false→lt b a=false→a=b){l:List α}{o:α}{k:Nat}(hl:l.Pairwise (fun a b=>lt a b=true))
  (hb:∀ a∈l.take k,lt a o=true) (ha:∀ y,l[k]?=some y→lt y o=false∧y≠o):(l.take k++o::l.drop k).Pairwise (fun a b=>lt a b=true):=by
 have hs:(l.take k++l.drop k).Pairwise (fun a b=>lt a b=true):=by rw[List.take_append_drop];exact hl
 rw[List.pairwise_append] at hs
 have ho:∀ z∈l.drop k,lt o z=true:=by
  cases hd:l.drop k with
  | nil=>intro z hz;cases hz
  | cons y r=>
   have hy:l[k]?=some y:=by
    have:(l.drop k)[0]?=some y:=by rw[hd];rfl
    simpa using this
   obtain⟨h1,h2⟩:=ha y hy
   have h3:lt o y=true:=by
    cases h:lt o y with
    | true=>rfl
    | false=>exact absurd (tot _ _ h1 h) h2
   intro z hz
   rcases List.mem_cons.1 hz with e|hz
   ·rw[e];exact h3
   ·have:=hs.2.1;rw[hd,List.pairwise_cons] at this
    exact tr _ _ _ h3 (this.1 z hz)
 rw[List.pairwise_append,List.pairwise_cons]
 refine⟨hs.1,⟨ho,hs.2.1⟩,fun a h1 b h2=>?_⟩
 rcases List.mem_cons.1 h2 with e|h2
 ·rw[e];exact hb a h1
 ·exact hs.2.2 a h1 b h2
end
section
variable {α:Type}[DecidableEq α]{lt:α→α→Bool}
def q4H:List α→List α
 | []=>[]
 | [x]=>[x]
 | x::y::l=>if x=y then q4H (y::l) else x::q4H (y::l)
theorem z5n {a:α}:∀ {l:List α},a∈q4H l↔a∈l
 | []=>Iff.rfl
 | [x]=>Iff.rfl
 | x::y::l=>by
  unfold q4H
  have ih:=z5n (a:=a) (l:=y::l)
  split
  ·rename_i e;subst e;rw[ih];simp
  ·rw[List.mem_cons,ih];simp
theorem z5o (tr:∀ a b c,lt a b=true→lt b c=true→lt a c=true)(tot:∀ a b,lt a b=false→lt b a=false→a=b) :
  ∀ {l:List α},l.Pairwise (fun a b=>lt b a=false)→(q4H l).Pairwise (fun a b=>lt a b=true)
 | [],_=>List.Pairwise.nil
 | [x],_=>by simp[q4H]
 | x::y::l,h=>by
  unfold q4H
  rw[List.pairwise_cons] at h
  have ih:=z5o tr tot h.2
  split
  ·exact ih
  ·rename_i hne
   rw[List.pairwise_cons]
   refine⟨fun z hz=>?_,ih⟩
   have h1:lt x y=true:=by
    cases e:lt x y with
    | true=>rfl
    | false=>exact absurd (tot _ _ e (h.1 y (by simp))) hne
   rcases List.mem_cons.1 (z5n.1 hz) with e|hz
   ·rw[e];exact h1
   ·have h2:=(List.pairwise_cons.1 h.2).1 z hz
    cases e:lt y z with
    | true=>exact tr _ _ _ h1 e
    | false=>rw[← tot _ _ e h2];exact h1
theorem z7C {a:α}:∀ {l:List α},q4H (l++[a])=if l.getLast?=some a then q4H l else q4H l++[a]
 | []=>by simp[q4H]
 | [x]=>by
  simp only[q4H,List.cons_append,List.nil_append,List.getLast?_singleton,Option.some.injEq]
  by_cases e:x=a
  ·subst e;simp
  ·simp[e]
 | x::y::l=>by
  have ih:=z7C (a:=a) (l:=y::l)
  simp only[List.cons_append] at ih ⊢
  have e:(x::y::l).getLast?=(y::l).getLast?:=by simp[List.getLast?_cons_cons]
  rw[e]
  show (if x=y then q4H (y::(l++[a])) else x::q4H (y::(l++[a])))=_
  rw[ih]
  show _=if (y::l).getLast?=some a then (if x=y then q4H (y::l) else x::q4H (y::l)) else (if x=y then q4H (y::l) else x::q4H (y::l))++[a]
  split<;>split<;>simp
theorem z7D {l:List α}{i:Nat}{a b:α}(ha:l[i]?=some a)(hb:l[i+1]?=some b):q4H (l.take (i+2))=if a=b then q4H (l.take (i+1)) else q4H (l.take (i+1))++[b]:=by
 have h1:l.take (i+2)=l.take (i+1)++[b]:=by rw[show i+2=(i+1)+1 from rfl,List.take_add_one,hb];rfl
 have h2:(l.take (i+1)).getLast?=some a:=by rw[List.take_add_one,ha];simp
 rw[h1,z7C,h2]
 by_cases e:a=b
 ·simp[e]
 ·simp[e]
end
end Go.E
namespace Go.Proofs.YtomdlgffolbdkaaGreat
open Go Go.E
mutual
def z4i:Expr→List Oc
 | ⟨a0,a1,a2,a3,a4,a5,a6⟩=>(if a0=3 then [⟨a2,a5⟩] else [])++q9W a6
def q9W:List Expr→List Oc
 | []=>[]
 | x::xs=>z4i x++q9W xs
end
mutual
def fuE:Expr→Nat
 | ⟨_,_,_,_,_,_,a6⟩=>fuEs a6+1
def fuEs:List Expr→Nat
 | []=>0
 | x::xs=>max (fuE x) (fuEs xs)
end
theorem z2O (e:Expr):fuE e=fuEs e.Args+1:=by cases e;rfl
theorem z5N:∀ {l:List Expr} {x:Expr},x∈l→fuE x≤fuEs l
 | y::l,x,h=>by
  simp only[fuEs]
  rcases List.mem_cons.1 h with e|h
  ·subst e;omega
  ·have:=z5N h;omega
theorem z4j (e:Expr):z4i e=(if e.Kind=3 then [⟨e.Pos,e.Name⟩] else [])++q9W e.Args:=by cases e;rfl
mutual
theorem j4K:∀ e:Expr,(z4i e).length≤1+z0P e
 | ⟨a0,a1,a2,a3,a4,a5,a6⟩=>by
  have:=j1Y a6
  simp only[z4i,z0P,List.length_append]
  split<;>simp<;>omega
theorem j1Y:∀ l:List Expr,(q9W l).length≤z2N l
 | []=>by simp[q9W]
 | x::xs=>by
  have h1:=j4K x
  have h2:=j1Y xs
  simp only[q9W,z2N,List.length_append];omega
end
theorem z1x {α:Type}[Sz α]{x:α}:∀ {l:List α},x∈l→Sz.szd x<szL l
 | [],h=>by simp at h
 | y::l,h=>by
  rcases List.mem_cons.1 h with rfl|h
  ·simp only[szL];omega
  ·have:=z1x h;simp only[szL];omega
theorem j9T {e x:Expr}(h:x∈e.Args):Sz.szd x<Sz.szd e:=by
 have h1:=q7R e
 have h2:=z1x h
 omega
theorem j9U {e:Expr}(h:Sz.szd e≤1048576):(z4i e).length≤1048577:=by
 have h1:=j4K e
 have h2:z0P e=Sz.szd e:=rfl
 omega
theorem j6l:∀ (m:Nat) (e:Expr) (o:List Oc),fuE e≤m→o.length+(z4i e).length≤4398046511104→q4o m e o=some (true,o++z4i e):=by
 intro m
 induction m with
 | zero=>intro e o h;rw[z2O] at h;omega
 | succ m ih=>
  have hl:∀ (l:List Expr) (i:Nat) (o:List Oc),fuEs l≤m→o.length+(q9W l).length≤4398046511104→findL (q3Y (q4o m)) i l o=some (.inl (o++q9W l)):=by
   intro l
   induction l with
   | nil=>intro i o _ _;simp[findL,q9W]
   | cons x l ihl=>
    intro i o hf hb
    simp only[fuEs] at hf
    simp only[q9W,List.length_append] at hb
    have hx:=ih x o (by omega) (by omega)
    simp only[findL,q3Y,q4U,hx,bsS,Bool.not_true,Bool.false_eq_true,if_false]
    rw[ihl _ _ (by omega) (by rw[List.length_append];omega),q9W,List.append_assoc]
  intro e o hf hb
  rw[z2O] at hf
  show q4C (q4o m) e o=_
  have hb':=hb
  rw[z4j,List.length_append] at hb'
  have h1:q6H e o=some (true,o++if e.Kind=3 then [⟨e.Pos,e.Name⟩] else []):=by
   unfold q6H
   by_cases hk:e.Kind=3
   ·rw[ifP hk] at hb' ⊢
    rw[ifP hk,q3y]
    simp only[lnC,List.length_nil] at hb'
    constructor<;>omega
   ·rw[ifN hk,ifN hk,List.append_nil]
  unfold q4C
  rw[h1,bsS]
  dsimp only
  rw[ifP rfl]
  unfold q3B q3C
  rw[hl _ _ _ (by omega) (by rw[List.length_append];omega),z4j]
  simp[onr]
theorem k1X {e:Expr}(h:(z4i e).length≤4398046511104):q5V e []=some (true,z4i e):=
 q8S (fuE e) fun m hm=>by simpa using j6l m e [] hm (by simpa using h)
theorem j6m {α:Type}{s:List α}{k:Nat}{x:α}(h:k<s.length):(s.set k x).take (k+1)=s.take k++[x]:=by
 rw[List.take_add_one,List.take_set,List.set_eq_of_length_le (by simp;omega)]
 simp[List.getElem?_set,h]
theorem j8v {a:List Oc}{b:Nat}(ha:a.length≤4398046511104)(hb:1≤b)(hba:b<a.length):∀ (m j k:Nat) (s:List Oc),b+j+m=a.length→1≤j→1≤k→k≤b+j-1→s.length=a.length→s.take k=q4H (a.take (b+j))→s.drop (b+j-1)=a.drop (b+j-1) →
  ∃ s' k',q5u (q3K (b:Int)) (s,(k:Int),(j:Int))=some (s',((k' : Nat):Int))∧k'≤s'.length∧s'.take k'=q4H a:=by
 intro m
 induction m with
 | zero=>
  intro j k s hm hj hk hkj hs ht hd
  refine⟨s,k,q3G ?_,by omega,?_⟩
  ·unfold q3K
   dsimp only
   rw[ifN (by simp only[tnC,List.length_drop];omega)]
  ·rw[ht,show b+j=a.length by omega,List.take_length]
 | succ m ih=>
  intro j k s hm hj hk hkj hs ht hd
  obtain⟨x,hx⟩:∃ x,a[b+j]?=some x:=⟨_,List.getElem?_eq_getElem (by omega)⟩
  obtain⟨y,hy⟩:∃ y,a[b+j-1]?=some y:=⟨_,List.getElem?_eq_getElem (by omega)⟩
  obtain⟨z,hz⟩:∃ z,s[k]?=some z:=⟨_,List.getElem?_eq_getElem (by omega)⟩
  have hsx:s[b+j]?=some x:=by
   have:=congrArg (fun l=>l[1]?) hd
   simp only[List.getElem?_drop] at this
   rw[show b+j-1+1=b+j by omega] at this
   rw[this,hx]
  have hsy:s[b+(j-1)]?=some y:=by
   have:=congrArg (fun l=>l[0]?) hd
   simp only[List.getElem?_drop,Nat.add_zero] at this
   rw[show b+(j-1)=b+j-1 by omega,this,hy]
  have hc:=z7D (i:=b+j-1) (b:=x) hy (by rw[show b+j-1+1=b+j by omega];exact hx)
  rw[show b+j-1+2=b+(j+1) by omega,show b+j-1+1=b+j by omega] at hc
  have hd2:s.drop (b+(j+1)-1)=a.drop (b+(j+1)-1):=by
   have:=congrArg (fun l=>l.drop 1) hd
   simp only[List.drop_drop] at this
   rw[show b+(j+1)-1=b+j-1+1 by omega];exact this
  have e1:((j:Int)-1).toNat=j-1:=by omega
  by_cases hxy:x=y
  ·have e:q3K (b:Int) (s,(k:Int),(j:Int))=some (.inl (s,(k:Int),((j+1:Nat):Int))):=by
    unfold q3K
    dsimp only
    rw[ifP (by simp only[tnC,List.length_drop];omega),q3y (by omega)]
    simp only[tnC]
    rw[hsx,bsS,q3y (by constructor<;>omega),q3y (by omega),e1,hsy,bsS,ifP hxy,bsS]
    dsimp only
    rw[q3y (by constructor<;>omega)];rfl
   rw[q4I e]
   exact ih (j+1) k s (by omega) (by omega) hk (by omega) hs (by rw[hc,ifP hxy.symm,ht]) hd2
  ·have e:q3K (b:Int) (s,(k:Int),(j:Int))=some (.inl (s.set k x,((k+1:Nat):Int),((j+1:Nat):Int))):=by
    unfold q3K
    dsimp only
    rw[ifP (by simp only[tnC,List.length_drop];omega),q3y (by omega)]
    simp only[tnC]
    rw[hsx,bsS,q3y (by constructor<;>omega),q3y (by omega),e1,hsy,bsS,ifN hxy,q3y (by omega),q3y (by omega),hz,bsS,q3y (by constructor<;>omega),bsS]
    dsimp only
    rw[q3y (by constructor<;>omega)];rfl
   rw[q4I e]
   refine ih (j+1) (k+1) _ (by omega) (by omega) (by omega) (by omega) (by rw[List.length_set];exact hs) ?_ ?_
   ·rw[j6m (by omega),ht,hc,ifN (fun h=>hxy h.symm)]
   ·rw[List.drop_set,ifP (by omega)];exact hd2
theorem j6n {a:List Oc}(ha:a.length≤4398046511104):∀ (m k:Nat),k+m=a.length→1≤k→q4H (a.take k)=a.take k →
  (q5u (q3L a) (k:Int)).bind (onr (fun r1=>some r1) fun _=>some a)=some (q4H a):=by
 intro m
 induction m with
 | zero=>
  intro k hm hk hc
  have e:q3L a (k:Int)=some (.inr (.inl ())):=by
   unfold q3L
   dsimp only
   rw[ifN (by omega)]
  rw[q3G e,bsS]
  show some a=_
  rw[show k=a.length by omega,List.take_length] at hc
  rw[hc]
 | succ m ih=>
  intro k hm hk hc
  obtain⟨x,hx⟩:∃ x,a[k]?=some x:=⟨_,List.getElem?_eq_getElem (by omega)⟩
  obtain⟨y,hy⟩:∃ y,a[k-1]?=some y:=⟨_,List.getElem?_eq_getElem (by omega)⟩
  have hct:=z7D (i:=k-1) (b:=x) hy (by rw[show k-1+1=k by omega];exact hx)
  rw[show k-1+2=k+1 by omega,show k-1+1=k by omega] at hct
  have htk:a.take (k+1)=a.take k++[x]:=by rw[List.take_add_one,hx];rfl
  have e1:((k:Int)-1).toNat=k-1:=by omega
  by_cases hxy:x=y
  ·obtain⟨s',k',h1,h2,h3⟩:=j8v (b:=k) ha hk (by omega) m 1 k a (by omega) (by omega) hk (by omega) rfl (by rw[hct,ifP hxy.symm,hc]) rfl
   have hl:(s'.take k'++List.replicate (s'.length-k') (⟨(0:Int),(⟨#[]⟩:ByteArray)⟩:Oc)).take k'=q4H a:=by
    rw[List.take_append_of_le_length (by simp;omega),List.take_take,Nat.min_self,h3]
   have e:q3L a (k:Int)=some (.inr (.inr (q4H a))):=by
    unfold q3L
    dsimp only
    rw[ifP (by omega),q3y (by omega)]
    simp only[tnC]
    rw[hx,bsS,q3y (by constructor<;>omega),q3y (by omega),e1,hy,bsS,ifP hxy,q3y (by omega),q3y (by omega)]
    have h1' : q5u (q3K (k:Int)) (a,(k:Int),1)=some (s',((k' : Nat):Int)):=h1
    rw[h1',bsS]
    dsimp only
    simp only[tnC]
    rw[q3y (by omega),q3y (by omega),q3y (by omega),q3y (by simp;omega),hl]
   rw[q3G e,bsS];rfl
  ·have e:q3L a (k:Int)=some (.inl ((k+1:Nat):Int)):=by
    unfold q3L
    dsimp only
    rw[ifP (by omega),q3y (by omega)]
    simp only[tnC]
    rw[hx,bsS,q3y (by constructor<;>omega),q3y (by omega),e1,hy,bsS,ifN hxy,q3y (by constructor<;>omega)];rfl
   rw[q4I e]
   exact ih (k+1) (by omega) (by omega) (by rw[hct,ifN (fun h=>hxy h.symm),hc,htk])
theorem j8w {a:List Oc}(ha:a.length≤4398046511104):q4R a=some (q4H a):=by
 unfold q4R
 by_cases h:(a.length:Int)<2
 ·rw[ifP h]
  match a,h with
  | [],_=>rfl
  | [x],_=>rfl
  | x::y::l,h=>simp only[lnC] at h;omega
 ·rw[ifN h]
  refine j6n ha (a.length-1) 1 (by omega) (Nat.le_refl _) ?_
  match a,h with
  | x::l,_=>rfl
def attrs (e:Expr):List Oc:=q4H (j4o (z4i e))
theorem j9V {o:Oc}{e:Expr}:o∈attrs e↔o∈z4i e:=by
 unfold attrs j4o
 rw[z5n,List.mem_mergeSort]
theorem j7k {e:Expr}(h:Sz.szd e≤1048576):q6A e=some (attrs e):=by
 have hl:=j9U h
 have hs:(j4o (z4i e)).length=(z4i e).length:=by unfold j4o;exact List.length_mergeSort _
 unfold q6A
 rw[k1X (by omega),bsS]
 dsimp only
 unfold q5t
 rw[q3y (by omega),bsS,j8w (by omega)];rfl
theorem j9W {ρ:Type}{g:Nat→Option ρ}(hm:∀ n r,g n=some r→g (n+1)=some r){n:Nat}{r:ρ}(h:g n=some r):recO g=some r:=by
 have up:∀ (k n:Nat) (r:ρ),g n=some r→g (n+k)=some r:=by
  intro k
  induction k with
  | zero=>intro n r h;exact h
  | succ k ih=>intro n r h;exact hm _ _ (ih n r h)
 refine q8S n fun m hm=>?_
 have h1:=up (m-n) n r h
 rwa[show n+(m-n)=m by omega] at h1
theorem z8k {α σ:Type}{f g:Nat→α→σ→Option σ}(h:∀ k x s q,f k x s=some q→g k x s=some q):∀ (xs:List α) (i:Nat) (s q:σ),eachL f i xs s=some q→eachL g i xs s=some q
 | [],i,s,q,hq=>hq
 | x::xs,i,s,q,hq=>by
  simp only[eachL] at hq ⊢
  obtain⟨t,h1,h2⟩:=bd hq
  rw[h _ _ _ _ h1]
  exact z8k h xs _ _ _ h2
theorem j4L (a b:Oc):z2a a b=some (z1P a b):=by
 unfold z2a z1P
 by_cases h1:a.Pos<b.Pos
 ·simp[h1]
 ·by_cases h2:a.Pos=b.Pos
  ·simp[h2]
  ·simp[h1,h2]
abbrev z5p (l:List Oc):Prop:=l.Pairwise fun a b=>z1P a b=true
theorem k1Y {l:List Oc}{o:Oc}(hl:l.length≤4398046511104):∀ (m j:Nat),j+m=l.length→(∀ a∈l.take j,z1P a o=true) →
  ∃ k:Nat,q5u (z2b l o) (j:Int)=some ((k:Nat):Int)∧k≤l.length∧(∀ a∈l.take k,z1P a o=true)∧∀ y,l[k]?=some y→z1P y o=false:=by
 intro m
 induction m with
 | zero=>
  intro j hj ha
  refine⟨j,q3G ?_,by omega,ha,fun y hy=>?_⟩
  ·unfold z2b;rw[ifN (by omega)]
  ·rw[List.getElem?_eq_none (by omega)] at hy;cases hy
 | succ m ih=>
  intro j hj ha
  obtain⟨x,hx⟩:∃ x,l[j]?=some x:=⟨_,List.getElem?_eq_getElem (by omega)⟩
  cases hb:z1P x o with
  | false=>
   refine⟨j,q3G ?_,by omega,ha,fun y hy=>?_⟩
   ·unfold z2b
    rw[ifP (by omega),q3y (by omega)]
    simp only[tnC]
    rw[hx,bsS,j4L,bsS,ifN (by rw[hb];simp)]
   ·rw[hx] at hy;cases hy;exact hb
  | true=>
   have e:z2b l o (j:Int)=some (.inl ((j+1:Nat):Int)):=by
    unfold z2b
    rw[ifP (by omega),q3y (by omega)]
    simp only[tnC]
    rw[hx,bsS,j4L,bsS,ifP hb,q3y (by constructor<;>omega)];rfl
   rw[q4I e]
   refine ih (j+1) (by omega) fun a h=>?_
   rw[List.take_add_one,hx] at h
   rcases List.mem_append.1 h with h|h
   ·exact ha a h
   ·simp at h;rw[h];exact hb
theorem j9X {l:List Oc}{o:Oc}(hl:l.length<4398046511104)(hs:z5p l):∃ q,z7i l o=some q∧z5p q∧(∀ a,a∈q↔a=o∨a∈l)∧q.length≤l.length+1:=by
 obtain⟨k,h1,h2,h3,h4⟩:=k1Y (l:=l) (o:=o) (by omega) l.length 0 (by omega) (by simp)
 have h1' : q5u (z2b l o) 0=some ((k:Nat):Int):=h1
 have hput:∀ (hne:∀ y,l[k]?=some y→y≠o),z5p (l.take k++[o]++l.drop k)∧(∀ a,a∈l.take k++[o]++l.drop k↔a=o∨a∈l)∧(l.take k++[o]++l.drop k).length≤l.length+1:=fun hne=>by
  refine⟨?_,fun a=>?_,by simp;omega⟩
  ·have:=j8u (lt:=z1P) lessO_swo.trans z6j (k:=k) hs h3 fun y hy=>⟨h4 y hy,hne y hy⟩
   simpa using this
  ·have:a∈l↔a∈l.take k∨a∈l.drop k:=by rw[← List.mem_append,List.take_append_drop]
   rw[this]
   simp only[List.mem_append,List.mem_singleton]
   constructor
   ·rintro ((h|h)|h)<;>simp[h]
   ·rintro (h|h|h)<;>simp[h]
 unfold z7i
 rw[h1',bsS]
 by_cases hk:k<l.length
 ·obtain⟨x,hx⟩:∃ x,l[k]?=some x:=⟨_,List.getElem?_eq_getElem hk⟩
  rw[ifP (by omega),q3y (by omega)]
  simp only[tnC]
  rw[hx,bsS]
  by_cases hxo:x=o
  ·rw[ifP hxo]
   refine⟨l,rfl,hs,fun a=>?_,by omega⟩
   have:=List.mem_of_getElem? hx
   constructor
   ·exact .inr
   ·rintro (h|h)
    ·rw[h,← hxo];exact this
    ·exact h
  ·rw[ifN hxo,q3y (by omega),q3y (by omega),q3y (by simp;omega),q3y (by simp;omega),q3y (by omega),q3y (by omega),q3y (by simp;omega)]
   exact⟨_,rfl,hput fun y hy=>by rw[hx] at hy;cases hy;exact hxo⟩
 ·rw[ifN (by omega)]
  simp only[tnC]
  rw[q3y (by omega),q3y (by omega),q3y (by simp;omega),q3y (by simp;omega),q3y (by omega),q3y (by omega),q3y (by simp;omega)]
  exact⟨_,rfl,hput fun y hy=>by rw[List.getElem?_eq_none (by omega)] at hy;cases hy⟩
theorem k3Z:∀ (n:Nat) (e:Expr) (l q:List Oc),q6E n e l=some q→q6E (n+1) e l=some q:=by
 intro n
 induction n with
 | zero=>intro e l q h;cases h
 | succ n ih=>
  intro e l q h
  have h' : z0R (q6E n) e l=some q:=h
  show z0R (q6E (n+1)) e l=some q
  have m1:∀ (xs:List Expr) (i:Nat) (s q:List Oc),eachL (z1E (q6E n)) i xs s=some q→eachL (z1E (q6E (n+1))) i xs s=some q:=z8k fun k x s q hq=>by
   unfold z1E at hq ⊢
   obtain⟨y,h3,h4⟩:=bd hq
   rw[ih _ _ _ h3];exact h4
  unfold z0R at h' ⊢
  by_cases hk:e.Kind=3
  ·rw[ifP hk] at h' ⊢
   obtain⟨y,h1,h2⟩:=bd h'
   obtain⟨s,h3,h4⟩:=bd h2
   rw[h1,bsS,m1 _ _ _ _ h3];exact h4
  ·rw[ifN hk] at h' ⊢
   obtain⟨s,h3,h4⟩:=bd h'
   have m2:eachL (z7U (q6E (n+1))) 0 e.Args l=some s:=m1 _ _ _ _ h3
   rw[m2];exact h4
theorem j8x:∀ (m:Nat) (e:Expr) (l:List Oc),fuE e≤m→z5p l→l.length+(z4i e).length≤1099511627776 →
  ∃ q,q6E m e l=some q∧z5p q∧(∀ a,a∈q↔a∈l∨a∈z4i e)∧q.length≤l.length+(z4i e).length:=by
 intro m
 induction m with
 | zero=>intro e l h;rw[z2O] at h;omega
 | succ m ih=>
  intro e l h hs hb
  rw[z2O] at h
  rw[z4j,List.length_append] at hb
  have hl:∀ (xs:List Expr) (i:Nat) (s:List Oc),fuEs xs≤m→z5p s→s.length+(q9W xs).length≤1099511627776 →
    ∃ q,eachL (z1E (q6E m)) i xs s=some q∧z5p q∧(∀ a,a∈q↔a∈s∨a∈q9W xs)∧q.length≤s.length+(q9W xs).length:=by
   intro xs
   induction xs with
   | nil=>intro i s _ hs _;exact⟨s,rfl,hs,by simp[q9W],by omega⟩
   | cons x xs ihl=>
    intro i s hf hs hb
    simp only[fuEs] at hf
    simp only[q9W,List.length_append] at hb
    obtain⟨q,h1,h2,h3,h4⟩:=ih x s (by omega) hs (by omega)
    obtain⟨q2,k1,k2,k3,k4⟩:=ihl (i+1) q (by omega) h2 (by omega)
    refine⟨q2,?_,k2,fun a=>?_,by simp only[q9W,List.length_append];omega⟩
    ·simp only[eachL,z1E,h1,bsS];exact k1
    ·rw[k3,h3,q9W,List.mem_append,or_assoc]
  show ∃ q,z0R (q6E m) e l=some q∧_
  unfold z0R
  by_cases hk:e.Kind=3
  ·rw[ifP hk] at hb ⊢
   simp only[lnC,List.length_nil] at hb
   obtain⟨y,h1,h2,h3,h4⟩:=j9X (l:=l) (o:=⟨e.Pos,e.Name⟩) (by omega) hs
   obtain⟨q,k1,k2,k3,k4⟩:=hl e.Args 0 y (by omega) h2 (by omega)
   refine⟨q,?_,k2,fun a=>?_,?_⟩
   ·rw[h1,bsS,k1];rfl
   ·rw[k3,h3,z4j,ifP hk,List.mem_append,List.mem_singleton]
    constructor
    ·rintro ((h|h)|h)<;>simp[h]
    ·rintro (h|h|h)<;>simp[h]
   ·rw[z4j,ifP hk];simp;omega
  ·rw[ifN hk] at hb ⊢
   simp only[List.length_nil] at hb
   obtain⟨q,k1,k2,k3,k4⟩:=hl e.Args 0 l (by omega) hs (by omega)
   have k1' : eachL (z7U (q6E m)) 0 e.Args l=some q:=k1
   refine⟨q,?_,k2,fun a=>?_,?_⟩
   ·rw[k1'];rfl
   ·rw[k3,z4j,ifN hk];simp
   ·rw[z4j,ifN hk];simpa using k4
theorem j4M (e:Expr):z5p (attrs e):=by
 refine z5o lessO_swo.trans z6j ?_
 have h:=List.pairwise_mergeSort (le:=fun x y=>!z1P y x) (fun a b c h1 h2=>by
  simp only[Bool.not_eq_true'] at h1 h2 ⊢
  exact lessO_swo.ntrans _ _ _ h2 h1) (fun a b=>by
  cases h:z1P a b with
  | false=>simp[h]
  | true=>
   cases h2:z1P b a with
   | false=>simp
   | true=>have:=lessO_swo.trans _ _ _ h h2;rw[lessO_swo.irrefl] at this;cases this) (z4i e)
 unfold j4o
 exact h.imp fun {a b} h=>by simpa using h
theorem j7l {e:Expr}(h:Sz.szd e≤1048576):q5S e=some (attrs e):=by
 have hl:=j9U h
 obtain⟨q,h1,h2,h3,h4⟩:=j8x _ e [] (Nat.le_refl _) List.Pairwise.nil (by simp;omega)
 have hq:q=attrs e:=j1X (lt:=z1P) lessO_swo.irrefl lessO_swo.trans h2 (j4M e) fun a=>by rw[h3,j9V];simp
 subst hq
 have hr:j0a e []=some (attrs e):=j9W (fun n q=>k3Z n e [] q) h1
 unfold q5S
 rw[hr];rfl
theorem k4a:∀ (n:Nat) (e q:Expr),q6l n e=some q→q6l (n+1) e=some q:=by
 intro n
 induction n with
 | zero=>intro e q h;cases h
 | succ n ih=>
  intro e q h
  have h' : q9t (q6l n) e=some q:=h
  show q9t (q6l (n+1)) e=some q
  unfold q9t at h' ⊢
  obtain⟨s,h1,h2⟩:=bd h'
  rw[z8k (g:=z1D (q6l (n+1))) (fun k x s q hq=>by
   unfold z1D at hq ⊢
   obtain⟨y,h3,h4⟩:=bd hq
   rw[ih _ _ h3,bsS];exact h4) _ _ _ _ h1]
  exact h2
theorem j8y:∀ (m:Nat) (e:Expr),fuE e≤m→Sz.szd e≤1048576→q6l m e=some e:=by
 intro m
 induction m with
 | zero=>intro e h;rw[z2O] at h;omega
 | succ m ih=>
  intro e h hs
  rw[z2O] at h
  have hl:∀ (l:List Expr) (i:Nat) (s:List Expr),(∀ x∈l,fuE x≤m∧Sz.szd x≤1048576)→s.length+l.length≤4398046511→eachL (z1D (q6l m)) i l s=some (s++l):=by
   intro l
   induction l with
   | nil=>intro i s _ _;simp[eachL]
   | cons x l ihl=>
    intro i s hx hb
    simp only[lnC] at hb
    have h1:=ih x (hx x (by simp)).1 (hx x (by simp)).2
    have e1:z1D (q6l m) i x s=some (s++[x]):=by
     unfold z1D;rw[h1,bsS,q3y (by constructor<;>omega)]
    simp only[eachL,e1,bsS]
    rw[ihl _ _ (fun y hy=>hx y (by simp[hy])) (by simp;omega)];simp
  show q9t (q6l m) e=some e
  unfold q9t
  have h2:=q7R e
  have h3:=q5a e.Args
  rw[hl e.Args 0 [] (fun x hx=>⟨by have:=z5N hx;omega,by have:=j9T hx;omega⟩) (by simp;omega),List.nil_append,bsS]
  cases e;rfl
theorem k4b {e:Expr}(h:Sz.szd e≤1048576):z7h e=some e:=j9W (fun n q=>k4a n e q) (j8y _ e (Nat.le_refl _) h)
theorem j8z:z6p=z7h:=by
 have h:∀ n,z0l n=q6l n:=by
  intro n
  induction n with
  | zero=>rfl
  | succ n ih=>funext e;show z4b (z0l n) e=q9t (q6l n) e;rw[ih];rfl
 funext e
 show recO (fun n=>z0l n e)=recO fun n=>q6l n e
 congr 1;funext n;rw[h]
def j6o:Expr:=⟨0,0,0,0,⟨#[]⟩,⟨#[]⟩,[]⟩
def eqAt (r:Rule)(o:Oc):Expr×Bool:=match r.Equations.find? fun q=>decide (q.At=o) with
 | some q=>(q.Expr,true)
 | none=>(j6o,false)
theorem z6I {r:Rule}{q:Eqn}(h:q∈r.Equations):Sz.szd q.Expr≤Sz.szd r:=by
 have h1:=z5M r
 have h2:=z5k q
 have h3:=z1x h
 have h4:=q7R q.Expr
 omega
theorem k4c {r:Rule}(h:Sz.szd r≤1048576)(o:Oc):Sz.szd (eqAt r o).1≤1048576:=by
 unfold eqAt
 cases hf:r.Equations.find? (fun q=>decide (q.At=o)) with
 | none=>show Sz.szd j6o≤_;have:Sz.szd j6o=0:=rfl;omega
 | some q=>have:=z6I (List.mem_of_find?_eq_some hf);show Sz.szd q.Expr≤_;omega
theorem j3n {r:Rule}(h:Sz.szd r≤1048576)(o:Oc):q5d r o=some (eqAt r o):=by
 have key:∀ (l:List Eqn) (i:Nat),(∀ q∈l,Sz.szd q.Expr≤1048576)→findL (q6x o) i l ()=some (match l.find? fun q=>decide (q.At=o) with
   | some q=>.inr (q.Expr,true)
   | none=>.inl ()):=by
  intro l
  induction l with
  | nil=>intro i _;rfl
  | cons q l ih=>
   intro i hq
   by_cases hp:q.At=o
   ·simp[findL,q6x,hp,k4b (hq q (by simp))]
   ·simp[findL,q6x,hp]
    exact ih _ fun y hy=>hq y (by simp[hy])
 unfold q5d eqAt
 rw[key _ _ fun q hq=>by have:=z6I hq;omega]
 cases r.Equations.find? (fun q=>decide (q.At=o))<;>rfl
theorem k4d {r:Rule}(h:Sz.szd r≤1048576)(o:Oc):q5d r o=some (eqAt r o)∧q6Y r o=some (eqAt r o):=by
 have e:q6Y=q5d:=by
  have e1:z1d=q6x:=by funext a k x u;unfold z1d q6x;rw[j8z]
  funext r o;unfold q6Y q5d;rw[e1]
 rw[e]
 exact⟨j3n h o,j3n h o⟩
theorem j8A:q6F=q5B:=by
 funext l o
 unfold q6F q5B q4b
 have e:q8U o=q4n o:=by
  funext k x u
  unfold q8U q4n
  by_cases h:x=o
  ·rw[ifP h,ifP h.symm]
  ·rw[ifN h,ifN fun e=>h e.symm]
 rw[e]
 cases ((findL (q4n o) 0 l ()).bind <| onr (fun r1=>some r1) fun _=>some (-1))<;>rfl
theorem j8B (l:List Oc)(o:Oc):∃ k,q5B l o=some k:=by
 have h:q4b l o=some (ixF l o):=by
  unfold q4b
  refine j9N fun k x=>⟨fun e=>?_,fun e=>?_⟩
  ·unfold q4n;rw[ifP e.symm]
  ·unfold q4n;rw[ifN (fun h=>e h.symm)]
 exact⟨_,by unfold q5B;rw[h];rfl⟩
theorem k5P {r x:Rl_}{i k:Int}(h:q6g r i k=some x):x.N=r.N:=by
 unfold q6g at h
 obtain⟨y,h1,h⟩:=bd h
 have hy:y=r:=by unfold q8l at h1;obtain⟨_,h1⟩:=z3S h1;exact (Option.some.inj h1).symm
 subst hy
 obtain⟨y2,_,h⟩:=bd h
 obtain⟨s1,_,h⟩:=bd h
 obtain⟨s2,_,h⟩:=bd h
 by_cases hs:s2=true
 ·rw[ifP hs] at h
  obtain⟨_,h⟩:=z3S h
  obtain⟨_,_,h⟩:=bd h
  obtain⟨_,h⟩:=z3S h
  obtain⟨_,h⟩:=z3S h
  obtain⟨_,h⟩:=z3S h
  cases h;rfl
 ·rw[ifN hs] at h
  cases h;rfl
theorem k1Z (l:List Oc)(k:Nat):∀ (us:List Oc) (i:Nat) (rows:List Int) (n:Int),rows.length≤1048576 →
  ∃ rows',eachL (q8p l k) i us (rows,n)=some (rows',n)∧eachL (q6V l (k:Int)) i us (rows,n)=some (rows',n)∧rows'.length=rows.length:=by
 intro us
 induction us with
 | nil=>intro i rows n _;exact⟨rows,rfl,rfl,rfl⟩
 | cons u us ih=>
  intro i rows n h
  obtain⟨j,hj⟩:=j8B l u
  obtain⟨x,hx,hxl⟩:=j7j (r:=⟨n,rows⟩) h j (k:Int)
  have hN:=k5P hx
  obtain⟨rows',h1,h2,h3⟩:=ih (i+1) x.Rows n (by rw[hxl];exact h)
  have e1:q8p l k i u (rows,n)=some (x.Rows,n):=by
   unfold q8p
   dsimp only
   rw[hj,bsS,j3m,hx,bsS,hN]
  have e2:q6V l (k:Int) i u (rows,n)=some (x.Rows,n):=by
   unfold q6V
   dsimp only
   rw[j8A,hj,bsS,hx,bsS,hN]
  exact⟨rows',by simp only[eachL,e1,bsS];exact h1,by simp only[eachL,e2,bsS];exact h2,h3.trans hxl⟩
theorem j8C:attrs j6o=[]:=by
 have:z4i j6o=[]:=by simp[j6o,z4i,q9W]
 unfold attrs j4o
 rw[this];simp[q4H]
theorem j9Y {r:Rule}(hr:Sz.szd r≤1048576)(l:List Oc)(hl:l.length≤16):∀ (m k:Nat) (rows:List Int) (n:Int),k+m=l.length→0<n→rows.length≤1048576 →
  ∃ rows',eachL (q8q r l) k (l.drop k) (rows,n)=some (rows',n)∧q5u (q4K r l) ((k:Int),rows,n)=some (rows',n)∧rows'.length=rows.length:=by
 intro m
 induction m with
 | zero=>
  intro k rows n hk hn h
  refine⟨rows,by rw[List.drop_eq_nil_of_le (by omega)];rfl,q3G ?_,rfl⟩
  unfold q4K
  dsimp only
  rw[ifN (by omega)]
 | succ m ih=>
  intro k rows n hk hn h
  obtain⟨x,hx⟩:∃ x,l[k]?=some x:=⟨_,List.getElem?_eq_getElem (by omega)⟩
  have hd:l.drop k=x::l.drop (k+1):=by
   rw[List.drop_eq_getElem_cons (by omega)]
   have:l[k]=x:=by rw[List.getElem?_eq_getElem (by omega)] at hx;exact Option.some.inj hx
   rw[this]
  obtain⟨E,B,hq⟩:∃ E B,eqAt r x=(E,B):=⟨_,_,rfl⟩
  obtain⟨rows1,h1,h2,h3⟩:=k1Z l k (attrs E) 0 rows n h
  obtain⟨rows',k1,k2,k3⟩:=ih (k+1) rows1 n (by omega) hn (by omega)
  have hsz:=k4c hr x
  have hf:=k4d hr x
  rw[hq] at hsz hf
  have e1:q8q r l k x (rows,n)=some (rows1,n):=by
   unfold q8q
   dsimp only
   rw[hf.2,bsS]
   dsimp only
   rw[j7k hsz,bsS,h1];rfl
  have hin:(grd (0≤(k:Int)) <| (l[(k:Int).toNat]?).bind fun x1=>(q5d r x1).bind fun (y3,y4)=>if y4=true then ((q5S y3).bind fun y5=>(eachL (q6V l (k:Int)) 0 y5 (rows,n)).bind fun (s8,s9)=>some (s8,s9)) else some (rows,n))=some (rows1,n):=by
   rw[q3y (by omega),tnC,hx,bsS,hf.1,bsS]
   dsimp only
   cases hb:B with
   | true=>rw[ifP rfl,j7l hsz,bsS,h2,bsS]
   | false=>
    have hz:E=j6o:=by
     unfold eqAt at hq
     cases hf:r.Equations.find? (fun q=>decide (q.At=x)) with
     | none=>rw[hf] at hq;cases hq;rfl
     | some q=>rw[hf] at hq;cases hq;cases hb
    rw[hz,j8C] at h1
    simp only[eachL,Option.some.injEq,Prod.mk.injEq] at h1
    rw[ifN (by simp),h1.1]
  have e2:q4K r l ((k:Int),rows,n)=some (.inl (((k+1:Nat):Int),rows1,n)):=by
   unfold q4K
   dsimp only
   rw[ifP (by omega),ifP hn,hin,bsS]
   dsimp only
   rw[q3y (by constructor<;>omega)];rfl
  exact⟨rows',by rw[hd];simp only[eachL,e1,bsS];exact k1,by rw[q4I e2];exact k2,k3.trans h3⟩
theorem j8D {g:Gm_}{r:Rule}(h:Sz.szd g≤1048576)(hr:Sz.szd r≤1048576):∃ x,q5T g r=some x∧q6C g r=some x∧x.Rows.length≤16:=by
 obtain⟨l,h1,h2,_⟩:=z9u (z3c h) (q7S hr)
 have hem:∀ n:Nat,q4x (n:Int)=if n≤16 then some ⟨(n:Int),List.replicate n 0⟩ else some ⟨0,[]⟩:=fun n=>by
  unfold q4x
  rw[q9V,bsS]
  by_cases hn:n≤16
  ·rw[ifP (by simp;omega),q3y (by omega),ifP hn];rfl
  ·rw[ifN (by simp;omega),ifN hn]
 unfold q5T q6C
 rw[h1,h2,bsS,bsS,j1W,hem]
 by_cases hl:l.length≤16
 ·rw[ifP hl,bsS,bsS,ifN (by omega)]
  dsimp only
  by_cases h0:l.length=0
  ·have:l=[]:=List.eq_nil_of_length_eq_zero h0
   subst this
   have e:q5u (q4K r ([]:List Oc)) (0,List.replicate ([]:List Oc).length 0,((([]:List Oc).length:Nat):Int))=some (List.replicate ([]:List Oc).length 0,((([]:List Oc).length:Nat):Int)):=q3G (by unfold q4K;dsimp only;rw[ifN (by simp)])
   rw[e]
   exact⟨_,rfl,rfl,by simp⟩
  ·obtain⟨rows',k1,k2,k3⟩:=j9Y hr l hl l.length 0 (List.replicate l.length 0) (l.length:Int) (by omega) (by omega) (by simp;omega)
   have k2' : q5u (q4K r l) (0,List.replicate l.length 0,(l.length:Int))=some (rows',(l.length:Int)):=k2
   rw[List.drop_zero] at k1
   rw[k1,k2']
   exact⟨_,rfl,rfl,by show rows'.length≤16;simp at k3;omega⟩
 ·rw[ifN hl,bsS,bsS,ifP (by omega)]
  have e:q5u (q4K r l) (0,([]:List Int),(0:Int))=some ([],0):=q3G (by unfold q4K;dsimp only;rw[ifP (by omega),ifN (by omega)])
  rw[e]
  exact⟨_,rfl,rfl,by simp⟩
theorem j9Z {r:Rl_}(h:r.Rows.length≤1048576)(i k:Int):q6g r i k=some (addP r i k):=by
 unfold q6g
 simp only[z7B h,q8f,q9V,bsS,decide_eq_true_eq]
 by_cases hv:Valid r
 ·have hv1:=hv.1;have hv2:=hv.2.1;have hv3:=hv.2.2.1
  rw[ifP hv,q3y (by constructor<;>omega)];simp only[bsS,Bool.false_eq_true,if_true,if_false,decide_eq_true_eq]
  by_cases hi:0≤i∧i≤r.N-1
  ·rw[ifP hi,q3y (by constructor<;>omega)];simp only[bsS,Bool.false_eq_true,if_true,if_false,decide_eq_true_eq]
   by_cases hk:0≤k∧k≤r.N-1
   ·obtain⟨x,hx⟩:∃ x,r.Rows[i.toNat]?=some x:=⟨_,List.getElem?_eq_getElem (by omega)⟩
    have hrow:=hv.row (i:=i) hi hx
    rw[ifP hk,q3y hi.1,hx,bsS,q3y hk.1,q3y ⟨hk.1,by omega⟩,q3y ⟨hrow.2.1,Int.natCast_nonneg _⟩]
    have e:addP r i k=j0J r i (orI (z6f r i) ((2 ^ k.toNat:Nat):Int)):=ifP ⟨hv,hi,hk⟩
    rw[e,hrow.1];rfl
   ·rw[ifN hk]
    have e:addP r i k=r:=ifN fun h=>hk h.2.2
    rw[e]
  ·rw[ifN hi];simp only[bsS,Bool.false_eq_true,if_true,if_false,decide_eq_true_eq]
   have e:addP r i k=r:=ifN fun h=>hi h.2.1
   rw[e]
 ·rw[ifN hv];simp only[bsS,Bool.false_eq_true,if_true,if_false,decide_eq_true_eq]
  have e:addP r i k=r:=ifN fun h=>hv h.1
  rw[e]
theorem k2a {n:Int}(h0:0≤n)(h1:n≤16):q4x n=some ⟨n,List.replicate n.toNat 0⟩:=by
 unfold q4x
 rw[q9V,bsS,ifP (by simp;omega),q3y (by omega)]
theorem j3o (r:Rl_)(i k:Int):(addP r i k).Rows.length=r.Rows.length∧(addP r i k).N=r.N:=by
 unfold addP
 split
 ·exact⟨by simp[j0J],rfl⟩
 ·exact⟨rfl,rfl⟩
theorem j7m (x k:Int):bit x k↔x.toNat.testBit k.toNat=true:=by
 unfold bit
 rw[Nat.testBit_eq_decide_div_mod_eq,Nat.shiftRight_eq_div_pow]
 simp[Nat.and_one_is_mod]
def j8E (k:Nat)(s:List Int):List Int:=s.map fun x=>if x.toNat.testBit k=true then orI x (s.getD k 0) else x
def j1Z (s:List Int):Nat→List Int
 | 0=>s
 | m+1=>j8E m (j1Z s m)
def j0K (n:Nat)(s:List Int):Prop:=s.length=n∧∀ x∈s,0≤x∧x.toNat<2 ^ n
theorem j8F (x y:Int):0≤orI x y:=by unfold orI;omega
theorem j4N (x y:Int):(orI x y).toNat=x.toNat ||| y.toNat:=by unfold orI;omega
theorem k4e {n:Nat}{s:List Int}(h:j0K n s)(k:Nat):0≤s.getD k 0∧(s.getD k 0).toNat<2 ^ n:=by
 rw[List.getD_eq_getElem?_getD]
 cases hk:s[k]? with
 | none=>simp;exact Nat.two_pow_pos n
 | some x=>exact h.2 x (List.mem_of_getElem? hk)
theorem k2b {n k:Nat}{s:List Int}(h:j0K n s):j0K n (j8E k s):=by
 refine⟨by unfold j8E;rw[lnM];exact h.1,fun x hx=>?_⟩
 unfold j8E at hx
 obtain⟨y,hy,rfl⟩:=List.mem_map.1 hx
 have h1:=h.2 y hy
 split
 ·exact⟨j8F _ _,by rw[j4N];exact Nat.or_lt_two_pow h1.2 (k4e h k).2⟩
 ·exact h1
theorem z5q {n:Nat}{s:List Int}(h:j0K n s):∀ m,j0K n (j1Z s m)
 | 0=>h
 | m+1=>k2b (z5q h m)
def Rl (s:List Int)(i j:Nat):Prop:=(s.getD i 0).toNat.testBit j=true
theorem j7n {n k:Nat}{s:List Int}(h:j0K n s)(hk:k<n)(hn:n≤16):eachN (q6W k) 0 n s=some (j8E k s):=by
 have hkk:∃ y,s[k]?=some y:=⟨_,List.getElem?_eq_getElem (by rw[h.1];exact hk)⟩
 obtain⟨y,hy⟩:=hkk
 have ey:s.getD k 0=y:=by rw[List.getD_eq_getElem?_getD,hy];rfl
 let f:Int→Int:=fun x=>if x.toNat.testBit k=true then orI x y else x
 have hf:f y=y:=by
  show (if y.toNat.testBit k=true then orI y y else y)=y
  have:=(h.2 y (List.mem_of_getElem? hy)).1
  split
  ·unfold orI;rw[Nat.or_self];omega
  ·rfl
 obtain⟨s',h1,h2⟩:=z7A (P:=fun m t=>t=(s.take m).map f++s.drop m) (f:=q6W k) (n:=n) (i:=0) (s:=s) (by simp) (fun m t _ hm ht=>by
  subst ht
  have hms:m<s.length:=by rw[h.1];omega
  obtain⟨x,hx⟩:∃ x,s[m]?=some x:=⟨_,List.getElem?_eq_getElem hms⟩
  have hx0:=h.2 x (List.mem_of_getElem? hx)
  have hy0:=h.2 y (List.mem_of_getElem? hy)
  have g1:((s.take m).map f++s.drop m)[m]?=some x:=by
   rw[List.getElem?_append_right (by simp;omega)]
   simp only[lnM,List.length_take]
   rw[show m-min m s.length=0 by omega,List.getElem?_drop,Nat.add_zero,hx]
  have g2:((s.take m).map f++s.drop m)[k]?=some y:=by
   by_cases hkm:k<m
   ·rw[List.getElem?_append_left (by simp;omega),List.getElem?_map,List.getElem?_take,ifP hkm,hy]
    show some (f y)=_
    rw[hf]
   ·rw[List.getElem?_append_right (by simp;omega)]
    simp only[lnM,List.length_take]
    rw[List.getElem?_drop,show m+(k-min m s.length)=k by omega,hy]
  have hset:(((s.take m).map f++s.drop m).set m (f x))=(s.take (m+1)).map f++s.drop (m+1):=by
   rw[List.set_append_right _ _ (by simp;omega)]
   simp only[lnM,List.length_take]
   rw[show m-min m s.length=0 by omega,List.take_add_one,hx,List.map_append,List.append_assoc]
   congr 1
   rw[List.drop_eq_getElem_cons hms];rfl
  have hno:f x=x→((s.take m).map f++s.drop m)=(s.take (m+1)).map f++s.drop (m+1):=fun e=>by
   rw[← hset,e]
   apply List.ext_getElem?
   intro q
   rw[List.getElem?_set]
   by_cases hq:m=q
   ·subst hq
    rw[ifP rfl,g1]
    split
    ·rfl
    ·rename_i hl;exact absurd (by simp;omega) hl
   ·rw[ifN hq]
  refine⟨_,?_,rfl⟩
  unfold q6W
  rw[g1,bsS,q3y (by refine⟨hx0.1,by omega,by omega⟩),q3y ⟨Int.natCast_nonneg _,by decide⟩]
  by_cases hb:bit x (k:Int)
  ·have hb':=(j7m x k).1 hb
   rw[tnC] at hb'
   rw[ifP (k3t hb),g2,bsS,q3y ⟨hx0.1,hy0.1⟩,bsS,← hset]
   show some (List.set _ m (orI x y))=some (List.set _ m (f x))
   have:f x=orI x y:=ifP hb'
   rw[this]
  ·have hb' : ¬ x.toNat.testBit k=true:=fun h=>hb ((j7m x k).2 (by rw[tnC];exact h))
   rw[ifN (fun h=>hb (k3s h)),bsS,← hno (ifN hb')])
 rw[h1]
 subst h2
 unfold j8E
 rw[Nat.zero_add,List.take_of_length_le (by rw[h.1];exact Nat.le_refl _),List.drop_eq_nil_of_le (by rw[h.1];exact Nat.le_refl _),List.append_nil,ey]
theorem j3p {r:Rl_}(h:Valid r):j0K r.N.toNat r.Rows∧r.N.toNat≤16:=by
 obtain⟨h0,h1,h2,h3⟩:=h
 have:=k1V r.N
 exact⟨⟨by omega,fun x hx=>⟨(h3 x hx).1,by have:=(h3 x hx).2;omega⟩⟩,by omega⟩
def q7y (r:Rl_):Rl_:=if Valid r then ⟨r.N,j1Z r.Rows r.N.toNat⟩ else r
theorem k4f:z3y=q6W:=rfl
theorem j4O {r:Rl_}(h:r.Rows.length≤1048576):q6z r=some (q7y r):=by
 unfold q6z q7y
 rw[z7B h,bsS,q8f,bsS]
 by_cases hv:Valid r
 ·rw[ifP (by simpa using hv),ifP hv]
  obtain⟨hok,hn⟩:=j3p hv
  obtain⟨t,h1,h2⟩:=z7A (P:=fun m t=>t=j1Z r.Rows m) (f:=z0h r) (n:=r.N.toNat) (i:=0) (s:=r.Rows) rfl (fun k s _ hk hs=>by
   subst hs
   refine⟨_,?_,rfl⟩
   unfold z0h
   rw[j7n (z5q hok k) (by omega) hn];rfl)
  rw[h1,bsS,h2,Nat.zero_add]
 ·rw[ifN (by simpa using hv),ifN hv]
theorem j4P {r:Rl_}(h:r.Rows.length≤1048576):q6D r=some (q7y r):=by
 unfold q6D q7y
 rw[j4I,z7B h,bsS,z6G,bsS]
 by_cases hv:Valid r
 ·rw[ifP (by simpa using hv),ifP hv]
  obtain⟨hok,hn⟩:=j3p hv
  obtain⟨t,h1,h2⟩:=z7A (P:=fun m t=>t=j1Z r.Rows m) (f:=z0n) (n:=r.Rows.length) (i:=0) (s:=r.Rows) rfl (fun k s _ hk hs=>by
   subst hs
   refine⟨_,?_,rfl⟩
   unfold z0n
   have hl:=(z5q hok k).1
   rw[hl,k4f,j7n (z5q hok k) (by rw[hok.1] at hk;omega) hn];rfl)
  rw[h1,bsS,h2,Nat.zero_add,hok.1]
 ·rw[ifN (by simpa using hv),ifN hv]
theorem j2a (r:Rl_):(q7y r).Rows.length=r.Rows.length∧(q7y r).N=r.N:=by
 unfold q7y
 by_cases hv:Valid r
 ·rw[ifP hv]
  obtain⟨hok,_⟩:=j3p hv
  exact⟨by show (j1Z r.Rows r.N.toNat).length=_;rw[(z5q hok _).1,hok.1],rfl⟩
 ·rw[ifN hv];exact⟨rfl,rfl⟩
theorem j6p {r:Rl_}(h:r.Rows.length≤1048576):z1J r=some (decide (∃ k:Nat,k<r.Rows.length∧hasP (q7y r) (k:Int) (k:Int))):=by
 unfold z1J
 rw[j4P h,bsS]
 have hl:=(j2a r).1
 have hf:∀ (k:Nat) (x:Int),(hasP (q7y r) (k:Int) (k:Int)→z2i (q7y r) k x ()=some (.inr true))∧(¬ hasP (q7y r) (k:Int) (k:Int)→z2i (q7y r) k x ()=some (.inl ())):=fun k x=>by
  unfold z2i
  rw[z6H,bsS]
  exact⟨fun hp=>ifP (by simpa using hp),fun hp=>ifN (by simpa using hp)⟩
 have hany:=j4G (c:=true) (xs:=(q7y r).Rows) (i:=0) (p:=fun k _=>hasP (q7y r) (k:Int) (k:Int)) (f:=z2i (q7y r)) fun k x _=>by
  rw[Nat.zero_add];exact hf k x
 by_cases hp:∃ k:Nat,k<r.Rows.length∧hasP (q7y r) (k:Int) (k:Int)
 ·rw[decide_eq_true hp]
  obtain⟨k,hk,hpk⟩:=hp
  rw[hany.1 ⟨k,_,List.getElem?_eq_getElem (by omega),by rw[Nat.zero_add];exact hpk⟩];rfl
 ·rw[decide_eq_false hp]
  rw[hany.2 fun k x hx hpk=>hp ⟨k,by rw[← hl];exact (List.getElem?_eq_some_iff.1 hx).1,by rw[Nat.zero_add] at hpk;exact hpk⟩];rfl
theorem z3J {α β:Type}{p:α→Bool}{g:α→β}{B:Nat}{f:Nat→α→List β→Option (List β)}(hf:∀ k x s,s.length<B→f k x s=some (if p x=true then s++[g x] else s)):∀ (xs:List α) (i:Nat) (s:List β),s.length+xs.length≤B →
  eachL f i xs s=some (s++(xs.filter p).map g)
 | [],i,s,_=>by simp[eachL]
 | x::xs,i,s,h=>by
  simp only[lnC] at h
  by_cases hp:p x=true
  ·have ih:=z3J hf xs (i+1) (s++[g x]) (by simp;omega)
   simp[eachL,hf i x s (by omega),hp,ih]
  ·have ih:=z3J hf xs (i+1) s (by omega)
   simp[eachL,hf i x s (by omega),hp,ih]
theorem j0L {α β:Type}{p:α→Bool}{g:Nat→β}{B:Nat}{f:Nat→α→List β→Option (List β)}(hf:∀ k x s,s.length<B→f k x s=some (if p x=true then s++[g k] else s)):∀ (xs:List α) (i:Nat) (s:List β),s.length+xs.length≤B →
  eachL f i xs s=some (s++((xs.zipIdx i).filter fun q=>p q.1).map fun q=>g q.2)
 | [],i,s,_=>by simp[eachL]
 | x::xs,i,s,h=>by
  simp only[lnC] at h
  by_cases hp:p x=true
  ·have ih:=j0L hf xs (i+1) (s++[g i]) (by simp;omega)
   simp[eachL,hf i x s (by omega),hp,ih,List.zipIdx_cons]
  ·have ih:=j0L hf xs (i+1) s (by omega)
   simp[eachL,hf i x s (by omega),hp,ih,List.zipIdx_cons]
theorem z8l {β:Type}{h:Nat→List β}{C n:Nat}{f:Nat→List β→Option (List β)}(hf:∀ k s,k<n→s.length≤k*C→f k s=some (s++h k))(hh:∀ k,k<n→(h k).length≤C) :
  ∀ (m k:Nat) (s:List β),k+m=n→s.length≤k*C→eachN f k m s=some (s++(List.range' k m).flatMap h)
 | 0,k,s,_,_=>by simp[eachN]
 | m+1,k,s,hk,hs=>by
  have hl:=hh k (by omega)
  have e:(k+1)*C=k*C+C:=Nat.succ_mul k C
  have ih:=z8l hf hh m (k+1) (s++h k) (by omega) (by rw[List.length_append];omega)
  simp[eachN,hf k s (by omega) hs,ih,List.range'_succ]
theorem j0M {β:Type}{h:Nat→List β}{C n:Nat}{f:(List β×Int)→Option ((List β×Int) ⊕ List β)}(hf:∀ (k:Nat) s,k<n→s.length≤k*C→f (s,(k:Int))=some (.inl (s++h k,((k+1:Nat):Int))))(he:∀ s,f (s,(n:Int))=some (.inr s))(hh:∀ k,k<n→(h k).length≤C) :
  ∀ (m k:Nat) (s:List β),k+m=n→s.length≤k*C→q5u f (s,(k:Int))=some (s++(List.range' k m).flatMap h)
 | 0,k,s,hk,_=>by
  obtain rfl:k=n:=by omega
  rw[q3G (he s)];simp
 | m+1,k,s,hk,hs=>by
  have hl:=hh k (by omega)
  have e:(k+1)*C=k*C+C:=Nat.succ_mul k C
  have ih:=j0M hf he hh m (k+1) (s++h k) (by omega) (by rw[List.length_append];omega)
  rw[q4I (hf k s (by omega) hs),ih];simp[List.range'_succ]
abbrev GOk (g:Gm_):Prop:=∀ y∈g.Symbols,y.Attributes.length≤1048576
def zS:Symbol:=⟨⟨#[]⟩,[]⟩
def zA:At_:=⟨⟨#[]⟩,0,0,false⟩
def q6J (g:Gm_)(s:ByteArray):Symbol×Bool:=match g.Symbols.find? fun y=>decide (y.Name=s) with
 | some y=>(y,true)
 | none=>(zS,false)
def z3K (y:Symbol)(s:ByteArray):At_×Bool:=match y.Attributes.find? fun a=>decide (a.Name=s) with
 | some a=>(a,true)
 | none=>(zA,false)
theorem z3L {g:Gm_}(h:GOk g)(s:ByteArray):q5e g s=some (q6J g s):=by
 have h1:=z1K (p:=fun y:Symbol=>decide (y.Name=s)) (r:=fun y=>(y,true)) (xs:=g.Symbols) (i:=0) (f:=q8F s) fun k y hy=>by
  have hg:q7Y y=some y:=by
   unfold q7Y;have:=h y hy;rw[q3y (by simp only[List.length_nil];constructor<;>omega)]
  unfold q8F;rw[hg];constructor<;>intro hp<;>simp_all
 unfold q5e q6J
 rw[h1]
 cases hf:g.Symbols.find? (fun y:Symbol=>decide (y.Name=s)) with
 | none=>rfl
 | some y=>rfl
theorem z2r (g:Gm_)(s:ByteArray):q5g g s=some (q6J g s):=by
 have h2:=z1K (p:=fun y:Symbol=>decide (y.Name=s)) (r:=fun y=>(y,true)) (xs:=g.Symbols) (i:=0) (f:=q8K s) fun k y hy=>by
  unfold q8K;constructor<;>intro hp<;>simp_all
 unfold q5g q6J
 rw[h2]
 cases hf:g.Symbols.find? (fun y:Symbol=>decide (y.Name=s)) with
 | none=>rfl
 | some y=>rfl
theorem z2s {g:Gm_}(h:GOk g)(s:ByteArray):(q6J g s).1.Attributes.length≤1048576:=by
 unfold q6J
 cases hf:g.Symbols.find? (fun y:Symbol=>decide (y.Name=s)) with
 | none=>simp[zS]
 | some y=>exact h y (List.mem_of_find?_eq_some hf)
theorem z7E (y:Symbol)(s:ByteArray):q5W y s=some (z3K y s):=by
 have h2:=z1K (p:=fun y:At_=>decide (y.Name=s)) (r:=fun y=>(y,true)) (xs:=y.Attributes) (i:=0) (f:=z0j s) fun k y hy=>by
  unfold z0j;constructor<;>intro hp<;>simp_all
 unfold q5W z3K
 rw[h2]
 cases hf:y.Attributes.find? (fun y:At_=>decide (y.Name=s)) with
 | none=>rfl
 | some y=>rfl
theorem j0N (y:Symbol)(s:ByteArray):q6y y s=some (z3K y s):=z7E y s
def q8z (r:Rule)(k:Int):ByteArray:=if k=0 then r.Left else if 1≤k∧k≤(r.Right.length:Int) then r.Right.getD (k-1).toNat ⟨#[]⟩ else ⟨#[]⟩
abbrev ROk (r:Rule):Prop:=r.Right.length≤1048576
theorem z6J {r:Rule}(hl:ROk r)(k:Int):q5w r k=some (q8z r k):=by
 unfold q5w q8z
 by_cases h0:k=0
 ·rw[ifP h0,ifP h0]
 ·rw[ifN h0,ifN h0,z5l,bsS]
  by_cases h1:1≤k∧k≤(r.Right.length:Int)
  ·rw[ifP (by simpa using h1),ifP h1,q3y (by constructor<;>omega),q3y (by omega)]
   have:(k-1).toNat<r.Right.length:=by omega
   rw[List.getElem?_eq_getElem this,List.getD_eq_getElem?_getD,List.getElem?_eq_getElem this];rfl
  ·rw[ifN (by simpa using h1),ifN h1]
theorem j0O {r:Rule}(hl:ROk r)(k:Int):q6o r k=some (q8z r k):=by rw[z8h,z6J hl]
def z0d (g:Gm_)(r:Rule)(o:Oc):At_×Bool:=if 0≤o.Pos∧o.Pos≤(r.Right.length:Int) then z3K (q6J g (q8z r o.Pos)).1 o.Name else (zA,false)
theorem z8m (g:Gm_){r:Rule}(hl:ROk r)(o:Oc):q6L g r o=some (z0d g r o):=by
 unfold q6L z0d
 rw[z8H,bsS]
 by_cases h0:0≤o.Pos∧o.Pos≤(r.Right.length:Int)
 ·rw[ifP (by simpa using h0),ifP h0,j0O hl,bsS,z2r,bsS]
  dsimp only
  rw[z7E];rfl
 ·rw[ifN (by simpa using h0),ifN h0];rfl
def mayB (g:Gm_)(r:Rule)(o:Oc):Bool:=(z0d g r o).2&&decide ((z0d g r o).1.Mode=if o.Pos=0 then 1 else 2)
theorem k4g (g:Gm_){r:Rule}(hl:ROk r)(o:Oc):z4Z g r o=some (mayB g r o):=by
 unfold z4Z mayB
 rw[z8m g hl,bsS]
 dsimp only
 by_cases h0:o.Pos=0
 ·rw[ifP h0,ifP h0]
  by_cases h1:(z0d g r o).2=true
  ·rw[ifP h1,h1];rfl
  ·rw[ifN h1,Bool.eq_false_iff.2 h1];rfl
 ·rw[ifN h0,ifN h0]
  by_cases h1:(z0d g r o).2=true
  ·rw[ifP h1,h1];rfl
  ·rw[ifN h1,Bool.eq_false_iff.2 h1];rfl
theorem k4h {g:Gm_}(h:GOk g){r:Rule}(hl:ROk r)(o:Oc):z4O g r o=some (mayB g r o):=by
 unfold z4O mayB z0d
 rw[z5l,bsS]
 by_cases hp:0≤o.Pos∧o.Pos≤(r.Right.length:Int)
 ·rw[ifP (by simpa using hp),ifP hp,z6J hl,bsS,z3L h,bsS]
  dsimp only
  rw[j0N,bsS]
  skip
  by_cases h0:o.Pos=0
  ·rw[ifP h0,ifP h0]
   by_cases h1:(z3K (q6J g (q8z r o.Pos)).1 o.Name).2=true
   ·rw[ifP h1,h1];rfl
   ·rw[ifN h1,Bool.eq_false_iff.2 h1];rfl
  ·rw[ifN h0,ifN h0]
   by_cases h1:(z3K (q6J g (q8z r o.Pos)).1 o.Name).2=true
   ·rw[ifP h1,h1];rfl
   ·rw[ifN h1,Bool.eq_false_iff.2 h1];rfl
 ·rw[ifN (by simpa using hp),ifN hp];rfl
def reqK (g:Gm_)(r:Rule)(k:Nat):List Oc:=((q6J g (q8z r (k:Int))).1.Attributes.filter fun a=>decide (a.Mode=if (k:Int)=0 then 2 else 1)).map fun a=>(⟨(k:Int),a.Name⟩:Oc)
def reqL (g:Gm_)(r:Rule):List Oc:=(List.range' 0 (r.Right.length+1)).flatMap (reqK g r)
theorem j7o {g:Gm_}(h:GOk g)(r:Rule)(k:Nat):(reqK g r k).length≤1048576:=by
 unfold reqK;rw[lnM]
 exact Nat.le_trans (List.length_filter_le _ _) (z2s h _)
theorem k0a {g:Gm_}(h:GOk g){r:Rule}(hl:ROk r):z0i g r=some (reqL g r):=by
 have hl' : r.Right.length≤1048576:=hl
 have key:=z8l (h:=reqK g r) (C:=1048576) (n:=r.Right.length+1) (f:=z4Y g r) (fun k s hk hs=>by
  have hin:∀ m:Int,eachL (z4X k m) 0 (q6J g (q8z r (k:Int))).1.Attributes s=some (s++((q6J g (q8z r (k:Int))).1.Attributes.filter fun a=>decide (a.Mode=m)).map fun a=>(⟨(k:Int),a.Name⟩:Oc)):=fun m=>
   z3J (B:=4398046511104) (fun j x s hs=>by
    unfold z4X
    by_cases hm:x.Mode=m
    ·rw[ifP hm,ifP (by simpa using hm),q3y (by constructor<;>omega)];rfl
    ·rw[ifN hm,ifN (by simpa using hm)];rfl) _ 0 s (by have:=z2s h (q8z r (k:Int));omega)
  unfold z4Y reqK
  by_cases h0:(k:Int)=0
  ·rw[ifP h0,ifP h0,bsS,j0O hl,bsS,z2r,bsS]
   dsimp only
   rw[hin];rfl
  ·rw[ifN h0,ifN h0,bsS,j0O hl,bsS,z2r,bsS]
   dsimp only
   rw[hin];rfl) (fun k _=>j7o h r k) (r.Right.length+1) 0 [] (by omega) (by simp)
 unfold z0i
 rw[q3y (by constructor<;>omega),key];rfl
theorem k0b {g:Gm_}(h:GOk g){r:Rule}(hl:ROk r):q5b g r=some (reqL g r):=by
 have hl' : r.Right.length≤1048576:=hl
 have key:=j0M (h:=reqK g r) (C:=1048576) (n:=r.Right.length+1) (f:=q5x g r) (fun k s hk hs=>by
  have hin2:eachL (q7j (k:Int)) 0 (q6J g (q8z r (k:Int))).1.Attributes s=some (s++((q6J g (q8z r (k:Int))).1.Attributes.filter fun a=>decide (a.Mode=2)).map fun a=>(⟨(k:Int),a.Name⟩:Oc)):=
   z3J (B:=4398046511104) (fun j x s hs=>by
    unfold q7j
    by_cases hm:x.Mode=2
    ·rw[ifP hm,ifP (by simpa using hm),q3y (by constructor<;>omega)];rfl
    ·rw[ifN hm,ifN (by simpa using hm)];rfl) _ 0 s (by have:=z2s h (q8z r (k:Int));omega)
  have hin1:eachL (q7k (k:Int)) 0 (q6J g (q8z r (k:Int))).1.Attributes s=some (s++((q6J g (q8z r (k:Int))).1.Attributes.filter fun a=>decide (a.Mode=1)).map fun a=>(⟨(k:Int),a.Name⟩:Oc)):=
   z3J (B:=4398046511104) (fun j x s hs=>by
    unfold q7k
    by_cases hm:x.Mode=1
    ·rw[ifP hm,ifP (by simpa using hm),q3y (by constructor<;>omega)];rfl
    ·rw[ifN hm,ifN (by simpa using hm)];rfl) _ 0 s (by have:=z2s h (q8z r (k:Int));omega)
  unfold q5x reqK
  dsimp only
  rw[ifP (by omega),z6J hl,bsS,z3L h,bsS]
  skip
  by_cases h0:(k:Int)=0
  ·rw[ifP h0,ifP h0,hin2,bsS,bsS,q3y (by constructor<;>omega)];rfl
  ·rw[ifN h0,ifN h0,hin1,bsS,bsS,q3y (by constructor<;>omega)];rfl) (fun s=>by
  unfold q5x;dsimp only;rw[ifN (by omega)]) (fun k _=>j7o h r k) (r.Right.length+1) 0 [] (by omega) (by simp)
 unfold q5b
 have e:q5u (q5x g r) (([]:List Oc),0)=some ([]++(List.range' 0 (r.Right.length+1)).flatMap (reqK g r)):=key
 rw[e];rfl
theorem z6a (e:Expr):1≤fuE e:=by rw[z2O];omega
theorem z6b {e x:Expr}(hx:x∈e.Args):fuE x+1≤fuE e:=by
 have:=z5N hx
 have:=z2O e
 omega
theorem z1y {P:Expr→Prop}(h:∀ e,(∀ x∈e.Args,P x)→P e)(e:Expr):P e:=by
 have:∀ n e,fuE e≤n→P e:=by
  intro n
  induction n with
  | zero=>intro e he;have:=z6a e;omega
  | succ n ih=>intro e he;exact h e fun x hx=>ih x (by have:=z6b hx;omega)
 exact this _ e (Nat.le_refl _)
theorem q4L {α ρ:Type}{c:ρ}{q:α→Bool}:∀ {xs:List α} {i:Nat} {f:Nat→α→Unit→Option (Unit ⊕ ρ)},(∀ k x,x∈xs→f k x ()=some (if q x=true then .inl () else .inr c))→findL f i xs ()=some (if xs.all q=true then .inl () else .inr c)
 | [],i,f,h=>rfl
 | x::xs,i,f,h=>by
  rw[findL,h i x (by simp)]
  by_cases hx:q x=true
  ·rw[ifP hx,bsS]
   show findL f (i+1) xs ()=_
   rw[q4L fun k y hy=>h k y (by simp[hy])]
   simp[hx]
  ·rw[ifN hx];simp[hx]
theorem j0P {α:Type}{q:α→Bool}:∀ {xs:List α} {i:Nat} {f:Nat→α→Unit→Option (Unit ⊕ Int)},(∀ k x,x∈xs→f k x ()=some (if q x=true then .inr (k:Int) else .inl ()))→findL f i xs ()=some (if xs.any q=true then .inr ((i+xs.findIdx q:Nat):Int) else .inl ())
 | [],i,f,h=>rfl
 | x::xs,i,f,h=>by
  rw[findL,h i x (by simp)]
  by_cases hx:q x=true
  ·rw[ifP hx];simp[hx,List.findIdx_cons]
  ·rw[ifN hx,bsS]
   show findL f (i+1) xs ()=_
   rw[j0P fun k y hy=>h k y (by simp[hy])]
   have hx' : q x=false:=by simpa using hx
   simp only[List.any_cons,hx',Bool.false_or,List.findIdx_cons,cond_false]
   rw[show i+1+xs.findIdx q=i+(xs.findIdx q+1) by omega]
mutual
def allE (p:Expr→Bool):Expr→Bool
 | ⟨a0,a1,a2,a3,a4,a5,a6⟩=>p ⟨a0,a1,a2,a3,a4,a5,a6⟩&&k2c p a6
def k2c (p:Expr→Bool):List Expr→Bool
 | []=>true
 | x::xs=>allE p x&&k2c p xs
end
mutual
def cntE:Expr→Nat
 | ⟨_,_,_,_,_,_,a6⟩=>z4k a6+1
def z4k:List Expr→Nat
 | []=>0
 | x::xs=>cntE x+z4k xs
end
mutual
def depE:Expr→Nat
 | ⟨_,_,_,_,_,_,a6⟩=>j1D a6+1
def j1D:List Expr→Nat
 | []=>0
 | x::xs=>max (depE x) (j1D xs)
end
theorem j7p (p:Expr→Bool):∀ l,k2c p l=l.all (allE p)
 | []=>rfl
 | x::xs=>by rw[k2c,j7p p xs];rfl
theorem j3q (p:Expr→Bool)(e:Expr):allE p e=(p e&&e.Args.all (allE p)):=by
 cases e;rw[allE,j7p]
theorem z8n (e:Expr):cntE e=z4k e.Args+1:=by cases e;rfl
theorem k0c (e:Expr):depE e=j1D e.Args+1:=by cases e;rfl
mutual
theorem j7q:∀ e:Expr,cntE e≤1+z0P e
 | ⟨a0,a1,a2,a3,a4,a5,a6⟩=>by
  have:=j4Q a6
  simp only[cntE,z0P];omega
theorem j4Q:∀ l:List Expr,z4k l≤z2N l
 | []=>by simp[z4k]
 | x::xs=>by
  have h1:=j7q x
  have h2:=j4Q xs
  simp only[z4k,z2N];omega
end
theorem k3u {e:Expr}(h:Sz.szd e≤1048576):cntE e≤1048577:=by
 have h1:=j7q e
 have h2:z0P e=Sz.szd e:=rfl
 omega
mutual
theorem k0d:∀ e:Expr,depE e≤cntE e
 | ⟨_,_,_,_,_,_,a6⟩=>by
  have:=j7r a6
  simp only[depE,cntE];omega
theorem j7r:∀ l:List Expr,j1D l≤z4k l
 | []=>Nat.le_refl _
 | x::xs=>by
  have h1:=k0d x
  have h2:=j7r xs
  simp only[j1D,z4k];omega
end
theorem j4R:∀ {l:List Expr} {x:Expr},x∈l→cntE x≤z4k l
 | y::l,x,h=>by
  simp only[z4k]
  rcases List.mem_cons.1 h with e|h
  ·subst e;omega
  ·have:=j4R h;omega
theorem k0e {e x:Expr}(hx:x∈e.Args):cntE x+1≤cntE e:=by
 have:=j4R hx
 have:=z8n e
 omega
theorem j8G (e:Expr):∀ m,fuE e≤m→cntE e≤1099511627776→q9b m e=some (cntE e:Int):=by
 induction e using z1y with
 | h e ih=>
  intro m hm hc
  obtain⟨m,rfl⟩:∃ q,m=q+1:=⟨m-1,by have:=z6a e;omega⟩
  show z0U (q9b m) e=_
  unfold z0U
  have key:∀ (l:List Expr) (i s:Nat),(∀ x∈l,x∈e.Args)→s+z4k l≤1099511627776→eachL (z1t (q9b m)) i l (s:Int)=some ((s+z4k l:Nat):Int):=by
   intro l
   induction l with
   | nil=>intro i s _ _;rfl
   | cons x l ihl=>
    intro i s hx hs
    have hxm:=hx x (by simp)
    simp only[z4k] at hs
    have h1:=ih x hxm m (by have:=z6b hxm;omega) (by omega)
    rw[eachL]
    unfold z1t
    rw[h1,bsS,q3y (by constructor<;>omega),bsS]
    have:=ihl (i+1) (s+cntE x) (fun y hy=>hx y (by simp[hy])) (by omega)
    rw[Int.natCast_add] at this
    unfold z1t at this
    rw[this,z4k]
    congr 1;omega
  rw[z8n] at hc
  have:=key e.Args 0 1 (fun _ h=>h) (by omega)
  rw[show ((1:Nat):Int)=1 from rfl] at this
  rw[this,bsS,z8n,Nat.add_comm]
theorem k0f {e:Expr}(h:cntE e≤1099511627776):z4R e=some (cntE e:Int):=q8S (fuE e) fun m hm=>j8G e m hm h
theorem k5q (a b:Nat):(if (b:Int) > (a:Int) then (b:Int) else (a:Int))=((max a b:Nat):Int):=by
 split<;>omega
theorem j0Q {f:Expr→Option Int}{g:Nat→Expr→Int→Option Int}(hg:∀ k x s,g k x s=(f x).bind fun y=>some (if y > s then y else s)):∀ (l:List Expr) (i s:Nat),(∀ x∈l,f x=some (depE x:Int))→eachL g i l (s:Int)=some ((max s (j1D l):Nat):Int)
 | [],i,s,_=>by rw[eachL,j1D,Nat.max_zero]
 | x::l,i,s,h=>by
  rw[eachL,hg,h x (by simp),bsS,bsS,k5q,j0Q hg l (i+1) _ fun y hy=>h y (by simp[hy]),j1D,Nat.max_assoc]
theorem j6q (a b:Int):q9r a b=some (if b > a then b else a):=by
 unfold q9r
 by_cases h:b<a
 ·rw[ifP h,ifN (by omega)]
 ·rw[ifN h]
  split
  ·rfl
  ·congr 1;omega
theorem j2b (e:Expr):∀ m,fuE e≤m→cntE e≤1099511627776→q6d m e=some (depE e:Int)∧q6c m e=some (depE e:Int):=by
 induction e using z1y with
 | h e ih=>
  intro m hm hc
  obtain⟨m,rfl⟩:∃ q,m=q+1:=⟨m-1,by have:=z6a e;omega⟩
  show q8H (q6d m) e=_∧q8C (q6c m) e=_
  unfold q8H q8C
  have hx:∀ x∈e.Args,q6d m x=some (depE x:Int)∧q6c m x=some (depE x:Int):=fun x hx=>ih x hx m (by have:=z6b hx;omega) (by have:=k0e hx;omega)
  have k1:=j0Q (f:=q6d m) (g:=z4S (q6d m)) (fun k x s=>rfl) e.Args 0 0 fun x h=>(hx x h).1
  have k2:=j0Q (f:=q6c m) (g:=z1T (q6c m)) (fun k x s=>by
   unfold z1T
   congr 1;funext y
   rw[j6q,bsS]) e.Args 0 0 fun x h=>(hx x h).2
  rw[show ((0:Nat):Int)=0 from rfl] at k1 k2
  have hd:=k0d e
  rw[k0c] at hd
  rw[k1,k2]
  have hg:I64 (((max 0 (j1D e.Args):Nat):Int)+1):=by constructor<;>omega
  have he:((max 0 (j1D e.Args):Nat):Int)+1=(depE e:Int):=by rw[k0c];omega
  refine⟨?_,?_⟩
  ·rw[bsS,q3y hg,he]
  ·rw[bsS,q3y hg,he]
theorem k0g {e:Expr}(h:cntE e≤1099511627776):z2Y e=some (depE e:Int):=q8S (fuE e) fun m hm=>(j2b e m hm h).1
theorem k0h {e:Expr}(h:cntE e≤1099511627776):z2T e=some (depE e:Int):=q8S (fuE e) fun m hm=>(j2b e m hm h).2
def z9k (a:Int)(n:Nat):Int:=if (n:Int)≤a then a-n else -1
theorem k0i (e:Expr):∀ m,fuE e≤m→∀ a:Int,0≤a→a≤1048576→cntE e≤1099511627776→z1S m e a=some (z9k a (cntE e)):=by
 induction e using z1y with
 | h e ih=>
  intro m hm a h0 h1 hc
  obtain⟨m,rfl⟩:∃ q,m=q+1:=⟨m-1,by have:=z6a e;omega⟩
  show z4G (z1S m) e a=_
  unfold z4G
  rw[q3y (by constructor<;>omega)]
  have hlen:e.Args.length≤cntE e:=by
   rw[z8n]
   have:∀ l:List Expr,l.length≤z4k l:=by
    intro l
    induction l with
    | nil=>simp
    | cons x l ih=>
     have:=z8n x
     simp only[z4k,lnC];omega
   have:=this e.Args;omega
  have key:∀ (n k:Nat) (s:Int),k+n=e.Args.length→-1≤s→s≤1048576→q5u (z1C (z1S m) e) (s,(k:Int))=some (if 0≤s then z9k s (z4k (e.Args.drop k)) else s):=by
   intro n
   induction n with
   | zero=>
    intro k s hk _ _
    have hdrop:e.Args.drop k=[]:=List.drop_eq_nil_of_le (by omega)
    refine q3G ?_
    unfold z1C
    dsimp only
    rw[ifN (by omega),hdrop]
    congr 2
    split
    ·unfold z9k;simp[z4k];omega
    ·rfl
   | succ n ihn=>
    intro k s hk hs1 hs2
    have hkl:k<e.Args.length:=by omega
    by_cases hs:0≤s
    ·have hxm:e.Args[k]∈e.Args:=List.getElem_mem hkl
     have hr:=ih _ hxm m (by have:=z6b hxm;omega) s hs hs2 (by have:=k0e hxm;omega)
     have hstep:z1C (z1S m) e (s,(k:Int))=some (.inl (z9k s (cntE e.Args[k]),((k+1:Nat):Int))):=by
      unfold z1C
      dsimp only
      rw[ifP (by omega),ifP hs,q3y (by omega),tnC,List.getElem?_eq_getElem hkl,bsS,hr,bsS,q3y (by constructor<;>omega)]
      rfl
     have hb1:-1≤z9k s (cntE e.Args[k]):=by unfold z9k;split<;>omega
     have hb2:z9k s (cntE e.Args[k])≤1048576:=by unfold z9k;split<;>omega
     rw[q4I hstep,ihn (k+1) _ (by omega) hb1 hb2,ifP hs]
     have hd:e.Args.drop k=e.Args[k]::e.Args.drop (k+1):=List.drop_eq_getElem_cons hkl
     rw[hd,z4k]
     congr 1
     unfold z9k
     split<;>split<;>(try split)<;>omega
    ·refine q3G ?_
     unfold z1C
     dsimp only
     rw[ifP (by omega),ifN hs,ifN hs]
  have:=key e.Args.length 0 (a-1) (by omega) (by omega) (by omega)
  rw[show ((0:Nat):Int)=0 from rfl] at this
  rw[this,bsS,List.drop_zero,z8n]
  congr 1
  unfold z9k
  split<;>(try split)<;>(try split)<;>omega
theorem k2d {e:Expr}{a:Int}(h0:0≤a)(h1:a≤1048576)(h:cntE e≤1099511627776):z9Z e a=some (z9k a (cntE e)):=q8S (fuE e) fun m hm=>k0i e m hm a h0 h1 h
theorem j8H (x lo hi:Int):q3N x lo hi=some (decide (lo≤x∧x≤hi)):=by
 unfold q3N;by_cases h:lo≤x<;>simp[h]
theorem j3r (x lo hi:Int):q4X x lo hi=some (decide (lo≤x∧x≤hi)):=by
 unfold q4X;by_cases h:lo≤x<;>simp[h]
def lowB (c:UInt8):Bool:=decide (97≤(c.toNat:Int)∧(c.toNat:Int)≤122)
def digB (c:UInt8):Bool:=decide (48≤(c.toNat:Int)∧(c.toNat:Int)≤57)
theorem z8o (c:UInt8):z1G c=some (lowB c):=by
 unfold z1G lowB;by_cases h:97≤(c.toNat:Int)<;>simp[h]
theorem j8I (c:UInt8):z3t c=some (digB c):=by
 unfold z3t digB;by_cases h:48≤(c.toNat:Int)<;>simp[h]
def allN (q:Nat→Bool):Nat→Nat→Bool
 | _,0=>true
 | i,n+1=>q i&&allN q (i+1) n
theorem j2c {q r:Nat→Bool}:∀ {n i:Nat},(∀ k,i≤k→q k=r k)→allN q i n=allN r i n
 | 0,_,_=>rfl
 | n+1,i,h=>by rw[allN,allN,h i (Nat.le_refl _),j2c fun k hk=>h k (by omega)]
theorem z8p {ρ:Type}{c:ρ}{q:Nat→Bool}:∀ {n i:Nat} {f:Nat→Unit→Option (Unit ⊕ ρ)},(∀ k,k<n→f (i+k) ()=some (if q (i+k)=true then .inl () else .inr c))→findN f i n ()=some (if allN q i n=true then .inl () else .inr c)
 | 0,i,f,h=>rfl
 | n+1,i,f,h=>by
  have h0:=h 0 (by omega)
  rw[Nat.add_zero] at h0
  rw[findN,h0]
  by_cases hx:q i=true
  ·rw[ifP hx,bsS]
   show findN f (i+1) n ()=_
   rw[z8p fun k hk=>by have:=h (k+1) (by omega);rwa[show i+(k+1)=i+1+k by omega] at this]
   simp[allN,hx]
  ·rw[ifN hx];simp[allN,hx]
def chr (s:ByteArray)(k:Nat):UInt8:=s.data.getD k 0
theorem j3s {s:ByteArray}{k:Nat}(h:k<s.size):s.data[k]?=some (chr s k):=by
 have h' : k<s.data.size:=h
 unfold chr
 rw[Array.getD_eq_getD_getElem?,Array.getElem?_eq_getElem h'];rfl
def z7F:List ByteArray:=[⟨#[105,102]⟩,⟨#[116,104,101,110]⟩,⟨#[101,108,115,101]⟩,⟨#[116,114,117,101]⟩,⟨#[102,97,108,115,101]⟩,⟨#[108,105,116]⟩,⟨#[110,111,110,101]⟩,⟨#[115,101,108,102]⟩,⟨#[111,102]⟩,⟨#[109,97,120]⟩,⟨#[109,105,110]⟩,⟨#[119,105,116,104]⟩,⟨#[104,97,115]⟩]
def memB (s:ByteArray)(l:List ByteArray):Bool:=l.any fun x=>decide (x=s)
theorem k2e {s:ByteArray}{l:List ByteArray}:memB s l=true↔s∈l:=by
 unfold memB;rw[List.any_eq_true]
 exact⟨fun ⟨x,h1,h2⟩=>by simp at h2;exact h2▸h1,fun h=>⟨s,h,by simp⟩⟩
theorem k2f {s:ByteArray}{l:List ByteArray}(h:s∉l):memB s l=false:=by
 cases hb:memB s l with
 | false=>rfl
 | true=>exact absurd (k2e.1 hb) h
def resB (s:ByteArray):Bool:=memB s z7F
theorem k2g (l:List ByteArray)(s:ByteArray):z0C l s=some (memB s l):=by
 unfold z0C
 have:∀ (l:List ByteArray) (i:Nat),findL (z7d s) i l ()=some (if memB s l=true then .inr true else .inl ()):=by
  intro l
  induction l with
  | nil=>intro i;rfl
  | cons x l ih=>
   intro i
   rw[findL]
   unfold z7d at ih ⊢
   have hc:memB s (x::l)=(decide (x=s)||memB s l):=rfl
   by_cases h:x=s
   ·rw[ifP h,hc];simp[h]
   ·rw[ifN h,bsS]
    show findL _ (i+1) l ()=_
    rw[ih,hc];simp[h]
 rw[this,bsS]
 cases memB s l<;>rfl
theorem k4i (s:ByteArray):q9p s=some (resB s):=by
 unfold q9p z1r
 rw[bsS,k2g];rfl
theorem k4j (s:ByteArray):q9F s=some (resB s):=by
 by_cases h:s∈z7F
 ·unfold z7F at h
  simp only[List.mem_cons,List.not_mem_nil,or_false] at h
  rcases h with h|h|h|h|h|h|h|h|h|h|h|h|h<;>subst h<;>rfl
 ·unfold resB
  rw[k2f h]
  unfold z7F at h
  simp only[List.mem_cons,List.not_mem_nil,or_false,not_or] at h
  obtain⟨h1,h2,h3,h4,h5,h6,h7,h8,h9,h10,h11,h12,h13⟩:=h
  unfold q9F
  rw[ifN h1,ifN h2,ifN h3,ifN h4,ifN h5,ifN h6,ifN h7,ifN h8,ifN h9,ifN h10,ifN h11,ifN h12]
  simp[h13]
def q7r (s:ByteArray):Bool:=decide (0<s.size∧s.size≤8)&&(lowB (chr s 0)&&allN (fun k=>lowB (chr s k)||digB (chr s k)) 1 (s.size-1) && !resB s)
theorem z1z (s:ByteArray):q4i s=some (q7r s):=by
 unfold q4i
 rw[z8p (c:=false) (q:=fun k=>lowB (chr s k)||digB (chr s k)) fun k hk=>by
  rw[Nat.zero_add]
  unfold z4Q
  rw[j3s hk,bsS,z8o,bsS]
  cases lowB (chr s k) with
  | true=>rfl
  | false=>
   rw[ifN (by simp),j8I,bsS]
   cases digB (chr s k)<;>rfl]
 rw[bsS]
 by_cases h0:0<s.size
 ·obtain⟨n,hn⟩:∃ n,s.size=n+1:=⟨s.size-1,by omega⟩
  unfold q7r
  rw[hn,allN,Nat.add_sub_cancel]
  cases ha:allN (fun k=>lowB (chr s k)||digB (chr s k)) (0+1) n with
  | false=>
   rw[Bool.and_false,ifN (by simp)]
   rw[Nat.zero_add] at ha
   simp[onr,ha]
  | true=>
   rw[Nat.zero_add] at ha
   try rw[ha]
   simp only[Bool.and_true]
   have hc:=j3s h0
   cases hl:lowB (chr s 0) with
   | false=>
    cases hd:digB (chr s 0) with
    | false=>simp[onr]
    | true=>
     rw[ifP (by simp)]
     show (q3N _ 1 8).bind _=_
     rw[j8H,bsS]
     split
     ·rw[hc,bsS,z8o,hl];simp
     ·simp
   | true=>
    rw[ifP (by simp)]
    show (q3N _ 1 8).bind _=_
    rw[j8H,bsS]
    by_cases h8:n+1≤8
    ·rw[ifP (by simp;omega),hc,bsS,z8o,hl]
     simp[k4j,h8]
    ·rw[ifN (by simp;omega)];simp[h8]
 ·have hs:s.size=0:=by omega
  unfold q7r
  rw[hs,allN,ifP rfl,z1N,j8H,bsS]
  simp
theorem q9X (s:ByteArray):q4t s=some (q7r s):=by
 unfold q4t z5G
 rw[z8p (c:=false) (q:=fun k=>lowB (chr s k)||(decide (k≠0)&&digB (chr s k))) fun k hk=>by
  rw[Nat.zero_add]
  unfold z9Y
  rw[j3s hk,bsS]
  have e1:(if 97≤((chr s k).toNat:Int) then some (decide (((chr s k).toNat:Int)≤122)) else some false)=some (lowB (chr s k)):=by
   unfold lowB;by_cases h:97≤((chr s k).toNat:Int)<;>simp[h]
  have e2:(if 48≤((chr s k).toNat:Int) then some (decide (((chr s k).toNat:Int)≤57)) else some false)=some (digB (chr s k)):=by
   unfold digB;by_cases h:48≤((chr s k).toNat:Int)<;>simp[h]
  rw[e1,e2,bsS,bsS]
  cases lowB (chr s k) with
  | true=>rfl
  | false=>
   by_cases hk0:k=0
   ·subst hk0;simp
   ·have:¬ ((k:Int)=0):=by omega
    rw[ifN (by simp),ifN this]
    cases digB (chr s k)<;>simp[hk0]]
 rw[bsS]
 by_cases h0:0<s.size
 ·obtain⟨n,hn⟩:∃ n,s.size=n+1:=⟨s.size-1,by omega⟩
  unfold q7r
  rw[hn,allN,Nat.add_sub_cancel,Nat.zero_add,j2c (n:=n) (i:=1) (q:=fun k=>lowB (chr s k)||(decide (k≠0)&&digB (chr s k))) (r:=fun k=>lowB (chr s k)||digB (chr s k)) fun k hk=>by simp[show k≠0 by omega]]
  have e0:(lowB (chr s 0)||(decide ((0:Nat)≠0)&&digB (chr s 0)))=lowB (chr s 0):=by simp
  rw[e0]
  cases hA:(lowB (chr s 0)&&allN (fun k=>lowB (chr s k)||digB (chr s k)) 1 n) with
  | false=>simp[onr]
  | true=>
   rw[ifP rfl]
   simp only[onr,bsS]
   by_cases h8:n+1≤8
   ·simp[k4i,h8];omega
   ·simp[h8];omega
 ·have hs:s.size=0:=by omega
  unfold q7r
  rw[hs]
  simp[onr,allN]
def satI (v:Int):Int:=if (-1000000:Int) > (if (1000000:Int)<v then (1000000:Int) else v) then (-1000000:Int) else (if (1000000:Int)<v then (1000000:Int) else v)
def truI (b:Bool):Int:=if b=true then 1 else 0
def k0j (v k:Int):Int:=if k=1 then satI v else if k=2 then j7Q v 4095 else if k=3 then truI (!decide (v=0)) else if k=4 then (if 0≤v∧v≤999 then v else 0) else 0
theorem k4k (v:Int):z3Y v=some (satI v):=rfl
theorem k4l (a b:Int):z7e a b=some (if b<a then b else a):=by
 unfold z7e
 by_cases h:a<b
 ·rw[ifP h,ifN (by omega)]
 ·rw[ifN h]
  split
  ·rfl
  ·congr 1;omega
theorem k4m (v:Int):z1U v=some (satI v):=by
 unfold z1U
 rw[k4l,bsS,j6q,bsS]
 congr 1
 unfold satI
 split<;>split<;>(try split)<;>(try split)<;>omega
theorem k4n (b:Bool):j0f b=some (truI b):=by unfold j0f truI;cases b<;>rfl
theorem k2h (b:Bool):z3o b=some (truI b):=by unfold z3o truI;cases b<;>rfl
theorem k2i (v k:Int):z4T v k=some (k0j v k):=by
 unfold z4T k0j
 rw[k4k,k4n,j8H]
 by_cases h1:k=1
 ·rw[ifP h1,ifP h1];rfl
 by_cases h2:k=2
 ·rw[ifN h1,ifN h1,ifP h2,ifP h2]
 by_cases h3:k=3
 ·rw[ifN h1,ifN h1,ifN h2,ifN h2,ifP h3,ifP h3];rfl
 by_cases h4:k=4
 ·rw[ifN h1,ifN h1,ifN h2,ifN h2,ifN h3,ifN h3,ifP h4,ifP h4,bsS]
  by_cases h:0≤v∧v≤999<;>simp[h]
 ·rw[ifN h1,ifN h1,ifN h2,ifN h2,ifN h3,ifN h3,ifN h4,ifN h4]
theorem k2j (v k:Int):z4I v k=some (k0j v k):=by
 unfold z4I k0j
 rw[k4m,k2h,j3r]
 by_cases h1:k=1
 ·rw[ifP h1,ifP h1];rfl
 by_cases h2:k=2
 ·rw[ifN h1,ifN h1,ifP h2,ifP h2]
 by_cases h3:k=3
 ·rw[ifN h1,ifN h1,ifN h2,ifN h2,ifP h3,ifP h3];rfl
 by_cases h4:k=4
 ·rw[ifN h1,ifN h1,ifN h2,ifN h2,ifN h3,ifN h3,ifP h4,ifP h4,bsS]
  by_cases h:0≤v∧v≤999<;>simp[h]
 ·rw[ifN h1,ifN h1,ifN h2,ifN h2,ifN h3,ifN h3,ifN h4,ifN h4]
def j3t (v k:Int):Bool:=decide (1≤k∧k≤4)&&decide (k0j v k=v)
theorem k2k (v k:Int):z2d v k=some (j3t v k):=by
 unfold z2d z3u j3t
 rw[j8H,bsS,bsS,k2i,bsS]
 by_cases h:1≤k∧k≤4<;>simp[h]
theorem k2l (v k:Int):z1V v k=some (j3t v k):=by
 unfold z1V j3t
 rw[j3r,bsS,k2j,bsS]
 by_cases h:1≤k∧k≤4<;>simp[h]
def opT (n:Int):Int×Int×Int:=
 if 1≤n∧n≤5 then (1,1,1) else if 6≤n∧n≤8 then (2,2,2) else if n=9∨n=10 then (1,1,3) else if n=11 then (2,1,3) else if n=12 then (2,1,2) else (0,0,0)
theorem k5r {n a b c d e:Int}:(if n=a then some (decide (n=a)) else if n=b then some (decide (n=b)) else if n=c then some (decide (n=c)) else if n=d then some (decide (n=d)) else some (decide (n=e)))=some (decide (n=a∨n=b∨n=c∨n=d∨n=e)):=by
 by_cases h1:n=a
 ·simp[h1]
 by_cases h2:n=b
 ·simp[h1,h2]
 by_cases h3:n=c
 ·rw[ifN h1,ifN h2,ifP h3];simp[h3]
 by_cases h4:n=d
 ·rw[ifN h1,ifN h2,ifN h3,ifP h4];simp[h4]
 ·simp[h1,h2,h3,h4]
theorem k5s {n a b c:Int}:(if n=a then some (decide (n=a)) else if n=b then some (decide (n=b)) else some (decide (n=c)))=some (decide (n=a∨n=b∨n=c)):=by
 by_cases h1:n=a
 ·simp[h1]
 by_cases h2:n=b
 ·simp[h1,h2]
 ·simp[h1,h2]
theorem k4o (n:Int):q8c n=some (opT n):=by
 unfold q8c opT
 rw[k5r,k5s]
 simp only[bsS]
 by_cases h1:1≤n∧n≤5
 ·rw[ifP (by simp;omega),ifP h1]
 rw[ifN (by simp;omega),ifN h1]
 by_cases h2:6≤n∧n≤8
 ·rw[ifP (by simp;omega),ifP h2]
 rw[ifN (by simp;omega),ifN h2]
 by_cases h3:n=9
 ·simp[h3]
 by_cases h3' : n=10
 ·simp[h3']
 by_cases h4:n=11
 ·simp[h4]
 by_cases h5:n=12
 ·simp[h5]
 simp[h3,h3',h4,h5]
theorem k4p (n:Int):q7Z n=some (opT n):=by
 unfold q7Z opT
 rw[j3r,j3r]
 simp only[bsS]
 by_cases h1:1≤n∧n≤5
 ·rw[ifP (by simpa using h1),ifP h1]
 rw[ifN (by simpa using h1),ifN h1]
 by_cases h2:6≤n∧n≤8
 ·rw[ifP (by simpa using h2),ifP h2]
 rw[ifN (by simpa using h2),ifN h2]
 by_cases h3:n=9
 ·rw[ifP h3,ifP (.inl h3)]
 rw[ifN h3]
 by_cases h3' : n=10
 ·rw[ifP h3',ifP (.inr h3')]
 have h33:¬(n=9∨n=10):=by omega
 rw[ifN h3',ifN h33]
 by_cases h4:n=11
 ·rw[ifP h4,ifP h4]
 rw[ifN h4,ifN h4]
 by_cases h5:n=12
 ·rw[ifP h5,ifP h5]
 rw[ifN h5,ifN h5]
theorem k4q (a b:Expr):q5U a b=some (decide (a.Kind=b.Kind)&&(decide (a.N=b.N)&&(decide (a.Pos=b.Pos)&&(decide (a.Type_=b.Type_)&&(decide (a.Symbol=b.Symbol)&&decide (a.Name=b.Name)))))):=by
 unfold q5U
 by_cases h1:a.Kind=b.Kind
 ·rw[ifP h1,bsS]
  by_cases h2:a.N=b.N
  ·by_cases h3:a.Pos=b.Pos
   ·by_cases h4:a.Type_=b.Type_
    ·by_cases h5:a.Symbol=b.Symbol
     ·simp[h1,h2,h3,h4,h5]
     ·simp[h1,h2,h3,h4,h5]
    ·simp[h1,h2,h3,h4]
   ·simp[h1,h2,h3]
  ·simp[h1,h2]
 ·simp[h1]
def k0k (k:Int):Int:=if k=4 then 2 else if k=5 then 3 else if k=8 then 1 else 0
def k0l (e:Expr):Bool:=decide ((e.Args.length:Int)=k0k e.Kind)&&((decide (e.Kind=3∨e.Kind=6)||decide (e.Pos=0))&&((decide (e.Kind=3∨e.Kind=8)||decide (e.Name=⟨#[]⟩))&&((decide (e.Kind=1∨e.Kind=4)||decide (e.N=0))&&((decide (e.Kind=1)||decide (e.Type_=0))&&(decide (e.Kind=8)||decide (e.Symbol=⟨#[]⟩))))))
theorem k4r (e:Expr):z4H e=some (k0l e):=by
 unfold z4H
 have h0:(if e.Kind=4 then some 2 else if e.Kind=5 then some 3 else if e.Kind=8 then some 1 else some (0:Int))=some (k0k e.Kind):=by
  unfold k0k
  split
  ·rfl
  ·split
   ·rfl
   ·split<;>rfl
 have or2:∀ a b:Prop,[Decidable a]→[Decidable b]→(if a then some true else some (decide b))=some (decide (a∨b)):=fun a b _ _=>by
  by_cases h:a<;>simp[h]
 have or1:∀ (a:Prop) (b:Bool),[Decidable a]→(if a then some true else some b)=some (decide a||b):=fun a b _=>by
  by_cases h:a<;>simp[h]
 have orB:∀ a b:Bool,(if a=true then some true else some b)=some (a||b):=fun a b=>by cases a<;>rfl
 have andB:∀ a b:Bool,(if a=true then some b else some false)=some (a&&b):=fun a b=>by cases a<;>rfl
 rw[h0,bsS]
 unfold k0l
 by_cases hl:(e.Args.length:Int)=k0k e.Kind
 ·rw[ifP hl]
  simp only[or2,or1,orB,andB,bsS]
  simp[hl,Bool.and_assoc]
 ·rw[ifN hl];simp[hl]
def k4s (e:Expr):Bool:=
 if e.Kind=1 then (decide (1≤e.Type_∧e.Type_≤3)&&j3t e.N e.Type_)&&decide (0≤e.N)
 else if e.Kind=3 then decide (0≤e.Pos∧e.Pos≤3)&&q7r e.Name
 else if e.Kind=6 then decide (0≤e.Pos∧e.Pos≤3)
 else if e.Kind=4 then decide (1≤e.N∧e.N≤12)
 else if e.Kind=8 then q7r e.Symbol&&q7r e.Name
 else true
def z5r (e:Expr):Bool:=(decide (1≤e.Kind∧e.Kind≤8)&&k0l e)&&k4s e
theorem k2m (e:Expr):z4J e=some (z5r e):=by
 unfold z4J z5r
 rw[j3r,bsS,k4r,bsS]
 by_cases hk:1≤e.Kind∧e.Kind≤8
 ·rw[ifP (by simpa using hk),bsS]
  cases k0l e with
  | false=>simp
  | true=>
   rw[ifN (by simp)]
   unfold k4s
   by_cases k1:e.Kind=1
   ·rw[ifP k1,ifP k1,j3r,bsS,k2l,bsS]
    by_cases h:1≤e.Type_∧e.Type_≤3
    ·cases j3t e.N e.Type_<;>simp[h,hk]
    ·simp[h,hk]
   rw[ifN k1,ifN k1]
   by_cases k3:e.Kind=3
   ·rw[ifP k3,ifP k3,j3r,bsS,q9X]
    by_cases h:0≤e.Pos∧e.Pos≤3
    ·simp[h,hk]
    ·simp[h,hk]
   rw[ifN k3,ifN k3]
   by_cases k6:e.Kind=6
   ·rw[ifP k6,ifP k6,j3r];simp[hk]
   rw[ifN k6,ifN k6]
   by_cases k4:e.Kind=4
   ·rw[ifP k4,ifP k4,j3r];simp[hk]
   rw[ifN k4,ifN k4]
   by_cases k8:e.Kind=8
   ·rw[ifP k8,ifP k8,q9X,bsS,q9X]
    cases q7r e.Symbol<;>simp[hk]
   rw[ifN k8,ifN k8];simp[hk]
 ·rw[ifN (by simpa using hk)];simp[hk]
theorem k2n (e:Expr):q9H e=some (z5r e):=by
 unfold q9H z5r k0l k4s k0k
 simp only[k4q,j8H,k2k,z1z,bsS]
 have hp3:e.Pos=0→(0≤e.Pos∧e.Pos≤3):=fun h=>by omega
 by_cases k1:e.Kind=1
 ·simp[k1]
  have ht:j3t e.N e.Type_=true→1≤e.Type_∧e.Type_≤4:=fun h=>by
   unfold j3t at h;simp at h;exact h.1
  cases hb:j3t e.N e.Type_ with
  | false=>by_cases h4:e.Type_=4<;>simp[h4]
  | true=>
   obtain⟨t1,t2⟩:=ht hb
   by_cases h4:e.Type_=4
   ·simp[h4]
   ·by_cases hn:e.N<0
    ·have:¬ 0≤e.N:=by omega
     simp[h4,hn,this]
    ·have h0:0≤e.N:=by omega
     have h3:e.Type_≤3:=by omega
     by_cases a:e.Args=[]
     ·by_cases p:e.Pos=0
      ·simp[h4,hn,h0,h3,t1,a,p,Bool.and_comm]
      ·simp[h4,hn,h0,h3,t1,a,p]
     ·simp[h4,hn,h0,h3,t1,a]
 by_cases k3:e.Kind=3
 ·simp[k1,k3]
  cases q7r e.Name with
  | false=>simp
  | true=>
   by_cases a:e.Args=[]
   ·by_cases p:0≤e.Pos∧e.Pos≤3
    ·simp[a,p]
    ·have:(decide (0≤e.Pos)&&decide (e.Pos≤3))=false:=by simp;omega
     simp[a,this]
   ·simp[a]
 by_cases k4:e.Kind=4
 ·simp[k1,k3,k4]
  by_cases n:1≤e.N∧e.N≤12
  ·by_cases a:(e.Args.length:Int)=2
   ·by_cases p:e.Pos=0
    ·simp[n,a,p];cases decide (e.Type_=0)<;>cases decide (e.Symbol=⟨#[]⟩)<;>cases decide (e.Name=⟨#[]⟩)<;>rfl
    ·simp[n,a,p]
   ·simp[n,a]
  ·have:(decide (1≤e.N)&&decide (e.N≤12))=false:=by simp;omega
   rw[ifN n,this];simp
 have close3:∀ c:Bool,((if c=true then some (decide (0≤e.Pos)&&decide (e.Pos≤3)) else some false).bind fun s9=>
   if s9=true then some (decide (e.N=0)&&(decide (e.Pos=0)&&(decide (e.Type_=0)&&(decide (e.Symbol=⟨#[]⟩)&&decide (e.Name=⟨#[]⟩))))) else some false) =
  some (c&&(decide (e.Pos=0)&&(decide (e.Name=⟨#[]⟩)&&(decide (e.N=0)&&(decide (e.Type_=0)&&decide (e.Symbol=⟨#[]⟩)))))):=fun c=>by
  cases c with
  | false=>simp
  | true=>
   by_cases p:e.Pos=0
   ·simp[p];cases decide (e.N=0)<;>cases decide (e.Type_=0)<;>cases decide (e.Symbol=⟨#[]⟩)<;>cases decide (e.Name=⟨#[]⟩)<;>rfl
   ·simp[p]
 by_cases k5:e.Kind=5
 ·simp[k1,k3,k4,k5]
  simpa using close3 (decide ((e.Args.length:Int)=3))
 by_cases k6:e.Kind=6
 ·simp[k1,k3,k4,k5,k6]
  by_cases a:e.Args=[]
  ·by_cases p:0≤e.Pos∧e.Pos≤3
   ·simp[a,p];cases decide (e.N=0)<;>cases decide (e.Type_=0)<;>cases decide (e.Symbol=⟨#[]⟩)<;>cases decide (e.Name=⟨#[]⟩)<;>rfl
   ·have:(decide (0≤e.Pos)&&decide (e.Pos≤3))=false:=by simp;omega
    simp[a,this]
  ·simp[a]
 by_cases k8:e.Kind=8
 ·simp[k1,k3,k4,k5,k6,k8]
  cases q7r e.Symbol with
  | false=>simp
  | true=>
   cases q7r e.Name with
   | false=>simp
   | true=>
    by_cases a:(e.Args.length:Int)=1
    ·by_cases p:e.Pos=0
     ·simp[a,p]
     ·simp[a,p]
    ·simp[a]
 by_cases k2:e.Kind=2
 ·simp[k1,k3,k4,k5,k6,k8,k2]
  simpa using close3 (decide (e.Args=[]))
 by_cases k7:e.Kind=7
 ·simp[k1,k3,k4,k5,k6,k8,k2,k7]
  simpa using close3 (decide (e.Args=[]))
 ·simp[k1,k3,k4,k5,k6,k8,k2,k7]
  intro h1 h2;omega
theorem k2o (e:Expr):∀ m,fuE e≤m→z7g m e=some (allE z5r e):=by
 induction e using z1y with
 | h e ih=>
  intro m hm
  obtain⟨m,rfl⟩:∃ q,m=q+1:=⟨m-1,by have:=z6a e;omega⟩
  show z7f (z7g m) e=_
  unfold z7f
  rw[q4L (c:=false) (q:=allE z5r) fun k x hx=>by
   unfold j4p
   rw[ih x hx m (by have:=z6b hx;omega),bsS]
   cases allE z5r x<;>rfl]
  rw[j3q,bsS]
  cases e.Args.all (allE z5r) with
  | true=>rw[ifP rfl,z1N,k2m,Bool.and_true];rfl
  | false=>rw[ifN (by simp),z6e,Bool.and_false]
theorem k4t (e:Expr):j2L e=some (allE z5r e):=q8S (fuE e) fun m hm=>k2o e m hm
theorem j0R {α:Type}(q:α→Bool)(l:List α):(!l.any fun x=>!q x)=l.all q:=by
 induction l with
 | nil=>rfl
 | cons x l ih=>simp[← ih]
theorem k2p (e:Expr):∀ m,fuE e≤m→q5o m e=some (allE z5r e):=by
 induction e using z1y with
 | h e ih=>
  intro m hm
  obtain⟨m,rfl⟩:∃ q,m=q+1:=⟨m-1,by have:=z6a e;omega⟩
  show q5n (q5o m) e=_
  unfold q5n q3E q3J
  rw[k2n,bsS,j3q]
  cases z5r e with
  | false=>rfl
  | true=>
   rw[ifP rfl,j0P (q:=fun x=>!allE z5r x) fun k x hx=>by
    unfold q4V q5E
    rw[ih x hx m (by have:=z6b hx;omega),bsS,bsS]
    cases allE z5r x<;>rfl]
   rw[Bool.true_and,← j0R]
   cases e.Args.any fun x=>!allE z5r x with
   | true=>
    have:(0:Int)≤((0+e.Args.findIdx fun x=>!allE z5r x:Nat):Int):=Int.natCast_nonneg _
    rw[ifP rfl,bsS,z6e,bsS,bsS,decide_eq_true this]
   | false=>rfl
theorem k4u (e:Expr):q6X e=some (allE z5r e):=q8S (fuE e) fun m hm=>k2p e m hm
def j0S (e:Expr):Bool:=decide (cntE e≤24)&&(decide (depE e≤6)&&allE z5r e)
theorem k0m {e:Expr}(h:cntE e≤1099511627776):q8I e=some (j0S e):=by
 unfold q8I j0S
 rw[k0f h,bsS,k0g h,k4u]
 by_cases h1:cntE e≤24
 ·rw[ifP (by omega),bsS,bsS]
  by_cases h2:depE e≤6
  ·rw[ifP (by simp;omega),bsS];simp[h1,h2]
  ·rw[ifN (by simp;omega)];simp[h1,h2]
 ·rw[ifN (by omega)];simp[h1]
theorem k0n {e:Expr}(h:cntE e≤1099511627776):q8D e=some (j0S e):=by
 unfold q8D j0S
 rw[k2d (by omega) (by omega) h,bsS,k0h h,k4t]
 unfold z9k
 by_cases h1:cntE e≤24
 ·have h24:((cntE e:Nat):Int)≤24:=by omega
  rw[ifP h24,ifP (by omega:(0:Int)≤24-((cntE e:Nat):Int)),bsS,bsS]
  by_cases h2:depE e≤6
  ·rw[ifP (by simp;omega),bsS];simp[h1,h2]
  ·rw[ifN (by simp;omega)];simp[h1,h2]
 ·have h24:¬ ((cntE e:Nat):Int)≤24:=by omega
  rw[ifN h24,ifN (by omega:¬ (0:Int)≤-1)];simp[h1]
theorem q5N {α:Type}{q:α→Bool}{xs:List α}{f:Nat→α→Unit→Option (Unit ⊕ Int)}(h:∀ k x,x∈xs→f k x ()=some (if q x=true then .inr (k:Int) else .inl ())) :
  ((findL f 0 xs ()).bind <| onr (fun r1=>some r1) fun _=>some (-1)).bind (fun y1=>some (decide (0≤y1)))=some (xs.any q):=by
 rw[j0P h]
 cases hq:xs.any q with
 | true=>
  have:(0:Int)≤((0+xs.findIdx q:Nat):Int):=Int.natCast_nonneg _
  rw[ifP rfl,bsS,z6e,bsS,decide_eq_true this]
 | false=>rfl
def q4s {α:Type}(bad:List α→α→Bool):List α→List α→Option Nat
 | _,[]=>none
 | pre,x::xs=>if bad pre x=true then some pre.length else q4s bad (pre++[x]) xs
theorem z3M {α β ρ:Type}{bad:List α→α→Bool}{nm:α→β}{c:Nat→ρ}{all:List α}{f:Nat→α→Unit→Option (Unit ⊕ ρ)}{h:Nat→α→List β→Option (List β ⊕ ρ)}
  (hf:∀ pre x post,all=pre++x::post→f pre.length x ()=some (if bad pre x=true then .inr (c pre.length) else .inl ()))
  (hh:∀ pre x post,all=pre++x::post→h pre.length x (pre.map nm)=some (if bad pre x=true then .inr (c pre.length) else .inl ((pre++[x]).map nm))) :
  ∀ (ys pre:List α),all=pre++ys→findL f pre.length ys ()=some (match q4s bad pre ys with|none=>.inl ()|some k=>.inr (c k)) ∧
   findL h pre.length ys (pre.map nm)=some (match q4s bad pre ys with|none=>.inl (all.map nm)|some k=>.inr (c k))
 | [],pre,e=>by
  rw[List.append_nil] at e
  subst e;exact⟨rfl,rfl⟩
 | x::ys,pre,e=>by
  have h1:=hf pre x ys e
  have h2:=hh pre x ys e
  by_cases hb:bad pre x=true
  ·rw[ifP hb] at h1 h2
   simp only[findL,h1,h2,q4s,hb,if_true,bsS]
   exact⟨trivial,trivial⟩
  ·rw[ifN hb] at h1 h2
   have ih:=z3M hf hh ys (pre++[x]) (by rw[e];simp)
   simp only[List.length_append,lnC,List.length_nil,Nat.zero_add] at ih
   simp only[findL,h1,h2,q4s,hb,bsS]
   exact ih
theorem j7s {α:Type}{a:α→Bool}{b:List α→α→Bool}:∀ (xs pre:List α),(q4s (fun p x=>a x||b p x) pre xs).isNone=(xs.all (fun x=>!a x)&&(q4s b pre xs).isNone)
 | [],pre=>rfl
 | x::xs,pre=>by
  have ih:=j7s (a:=a) (b:=b) xs (pre++[x])
  simp only[q4s,List.all_cons]
  by_cases ha:a x=true
  ·simp[ha]
  ·by_cases hb:b pre x=true
   ·simp[ha,hb]
   ·simpa[ha,hb] using ih
def dupB {α:Type}(nm:α→ByteArray)(pre:List α)(x:α):Bool:=pre.any fun o=>decide (nm o=nm x)
def k0o {α:Type}(nm:α→ByteArray)(xs:List α):Bool:=(q4s (dupB nm) [] xs).isNone
theorem j4S {α:Type}{nm:α→ByteArray}:∀ (xs pre:List α),(q4s (dupB id) (pre.map nm) (xs.map nm))=q4s (dupB nm) pre xs
 | [],pre=>rfl
 | x::xs,pre=>by
  have ih:=j4S (nm:=nm) xs (pre++[x])
  have e:dupB id (pre.map nm) (nm x)=dupB nm pre x:=by simp[dupB,List.any_map,Function.comp_def]
  rw[List.map_cons,q4s,q4s,e,lnM]
  rw[List.map_append] at ih
  rw[show [nm x]=[x].map nm from rfl,ih]
theorem z5s {α ρ:Type}{bad:List α→α→Bool}{c:Nat→ρ}{all:List α}{f:Nat→α→Unit→Option (Unit ⊕ ρ)}
  (hf:∀ pre x post,all=pre++x::post→f pre.length x ()=some (if bad pre x=true then .inr (c pre.length) else .inl ())) :
  ∀ (ys pre:List α),all=pre++ys→findL f pre.length ys ()=some (match q4s bad pre ys with|none=>.inl ()|some k=>.inr (c k)):=fun ys pre e=>
 (z3M (nm:=fun _=>()) (h:=fun k x s=>(f k x ()).map fun|.inl _=>.inl (s++[()])|.inr r=>.inr r) hf (fun pre x post e=>by
  rw[hf pre x post e]
  by_cases hb:bad pre x=true
  ·rw[ifP hb,ifP hb];rfl
  ·rw[ifN hb,ifN hb];simp) ys pre e).1
theorem k0p (l:List ByteArray)(s:ByteArray):z0C l s=some (l.any fun o=>decide (o=s)):=by
 unfold z0C
 rw[q4L (c:=true) (q:=fun o=>!decide (o=s)) fun k x hx=>by
  unfold z7d
  by_cases h:x=s
  ·rw[ifP h,ifN (by simp[h])]
  ·rw[ifN h,ifP (by simp[h])]]
 have e:(l.all fun o=>!decide (o=s))=!(l.any fun o=>decide (o=s)):=by rw[List.not_any_eq_all_not]
 rw[e]
 cases l.any fun o=>decide (o=s)<;>rfl
theorem j8J (l:List ByteArray):q8B l=some (k0o id l):=by
 unfold q8B k0o
 rw[show findL (q9q l) 0 l ()=_ from z5s (bad:=dupB id) (c:=fun _=>false) (all:=l) (f:=q9q l) (fun pre x post e=>by
  unfold q9q
  rw[q3y (by rw[e];simp),show l.take pre.length=pre by rw[e];simp,k0p,bsS,← apply_ite some];rfl) l [] rfl]
 cases q4s (dupB id) [] l<;>rfl
def z2y (a:At_):Bool:=q7r a.Name&&(decide (1≤a.Type_∧a.Type_≤4)&&(decide (1≤a.Mode∧a.Mode≤3)&&if a.Mode=3 then decide (a.Type_=2) && !a.Circular else !a.Circular||decide (a.Type_=2)))
theorem k0q (a:At_):q6n a=some (z2y a):=by
 unfold q6n z2y z3u
 rw[z1z,bsS]
 cases q7r a.Name with
 | false=>rfl
 | true=>
  rw[ifP rfl,z8H,bsS,bsS,bsS]
  by_cases h1:1≤a.Type_∧a.Type_≤4
  ·rw[decide_eq_true h1,Bool.not_true,ifN (by simp),z8H,bsS,bsS]
   by_cases h2:1≤a.Mode∧a.Mode≤3
   ·rw[decide_eq_true h2,Bool.not_true,ifN (by simp)]
    by_cases h3:a.Mode=3
    ·rw[ifP h3,ifP h3]
     by_cases h4:a.Type_=2
     ·rw[ifP h4,decide_eq_true h4];simp
     ·rw[ifN h4,decide_eq_false h4];rfl
    ·rw[ifN h3,ifN h3]
     cases hc:a.Circular with
     | true=>rw[ifP rfl];simp
     | false=>rw[ifN (by simp)];simp
   ·rw[decide_eq_false h2];rfl
  ·rw[decide_eq_false h1];rfl
theorem k0r (a:At_):q6k a=some (z2y a):=by
 unfold q6k z2y
 rw[q9X,bsS]
 cases q7r a.Name with
 | false=>rfl
 | true=>
  rw[ifP rfl,z5l,bsS,bsS]
  by_cases h1:1≤a.Type_∧a.Type_≤4
  ·rw[decide_eq_true h1,Bool.not_true,ifN (by simp),z5l,bsS,bsS]
   by_cases h2:1≤a.Mode∧a.Mode≤3
   ·rw[decide_eq_true h2,Bool.not_true,ifN (by simp)]
    by_cases h3:a.Mode=3
    ·rw[ifP h3,ifP h3]
     by_cases h4:a.Type_=2
     ·rw[ifP h4,decide_eq_true h4]
      cases hc:a.Circular with
      | true=>rfl
      | false=>rfl
     ·rw[ifN h4,decide_eq_false h4];rfl
    ·rw[ifN h3,ifN h3]
     cases hc:a.Circular with
     | true=>simp
     | false=>simp
   ·rw[decide_eq_false h2];rfl
  ·rw[decide_eq_false h1];rfl
def symB (s:Symbol):Bool:=s.Attributes.all z2y&&(q7r s.Name&&(decide (s.Attributes.length≤4)&&k0o (fun a:At_=>a.Name) s.Attributes))
theorem k2q (s:Symbol):q7v s=some (symB s):=by
 unfold q7v symB
 rw[show findL (q8o s) 0 s.Attributes ()=_ from z5s (bad:=fun p x=>!z2y x||dupB (fun a:At_=>a.Name) p x) (c:=fun _=>false) (all:=s.Attributes) (f:=q8o s) (fun pre x post e=>by
  unfold q8o
  rw[k0q,bsS]
  cases z2y x with
  | false=>rfl
  | true=>
   rw[ifP rfl,q3y (by rw[e];simp),show s.Attributes.take pre.length=pre by rw[e];simp]
   unfold q3I q3S
   rw[q5N (q:=fun o:At_=>decide (o.Name=x.Name)) fun k y hy=>by
    unfold q5j q7O
    rw[bsS]
    by_cases h:y.Name=x.Name
    ·rw[decide_eq_true h];rfl
    ·rw[decide_eq_false h];rfl]
   rw[bsS,← apply_ite some];rfl) s.Attributes [] rfl]
 have hor:=j7s (a:=fun x:At_=>!z2y x) (b:=dupB (fun a:At_=>a.Name)) s.Attributes []
 simp only[Bool.not_not] at hor
 have e2:(s.Attributes.all fun x=>z2y x)=s.Attributes.all z2y:=rfl
 unfold k0o
 rw[e2] at hor
 cases hb:q4s (fun p x=>!z2y x||dupB (fun a:At_=>a.Name) p x) [] s.Attributes with
 | some k=>
  rw[hb] at hor
  show some false=_
  have:(s.Attributes.all z2y&&(q4s (dupB fun a:At_=>a.Name) [] s.Attributes).isNone)=false:=hor.symm
  congr 1
  cases h1:s.Attributes.all z2y with
  | false=>rfl
  | true=>rw[h1] at this;simp at this;simp[this]
 | none=>
  rw[hb] at hor
  have:(s.Attributes.all z2y&&(q4s (dupB fun a:At_=>a.Name) [] s.Attributes).isNone)=true:=hor.symm
  rw[Bool.and_eq_true] at this
  show ((q4i s.Name).bind _)=_
  rw[z1z,bsS,this.1,this.2]
  cases q7r s.Name with
  | false=>rfl
  | true=>
   rw[ifP rfl,bsS]
   congr 1
   simp;omega
theorem k2r {s:Symbol}(h:s.Attributes.length≤1048576):q7t s=some (symB s):=by
 unfold q7t symB
 have hloop:∀ (ys:List At_) (i:Nat) (t:List ByteArray),t.length+ys.length≤1048576→findL q8i i ys t=some (if ys.all z2y=true then .inl (t++ys.map fun a=>a.Name) else .inr false):=by
  intro ys
  induction ys with
  | nil=>intro i t _;simp[findL]
  | cons y ys ih=>
   intro i t ht
   simp only[lnC] at ht
   simp only[findL]
   have e:q8i i y t=some (if z2y y=true then .inl (t++[y.Name]) else .inr false):=by
    unfold q8i
    rw[k0r,bsS]
    cases z2y y with
    | false=>rfl
    | true=>rw[ifP rfl,ifP rfl,q3y (by constructor<;>omega)]
   rw[e,bsS]
   by_cases hy:z2y y=true
   ·rw[ifP hy,show (y::ys).all z2y=ys.all z2y by simp[hy]]
    dsimp only
    rw[ih _ _ (by simp;omega)]
    simp
   ·rw[ifN hy,show (y::ys).all z2y=false by simp[hy]];rfl
 rw[hloop _ _ _ (by simpa using h)]
 cases hA:s.Attributes.all z2y with
 | false=>rfl
 | true=>
  rw[ifP rfl,bsS,z1N,List.nil_append,q9X,bsS]
  cases q7r s.Name with
  | false=>rfl
  | true=>
   rw[ifP rfl,bsS,lnM]
   by_cases hl:s.Attributes.length≤4
   ·rw[decide_eq_true (by omega:(s.Attributes.length:Int)≤4),ifP rfl,j8J,bsS,bsS,decide_eq_true hl]
    have:=j4S (nm:=fun a:At_=>a.Name) s.Attributes []
    unfold k0o
    rw[List.map_nil] at this
    rw[this];rfl
   ·rw[decide_eq_false (by omega:¬ (s.Attributes.length:Int)≤4),ifN (by simp),decide_eq_false hl];rfl
theorem z7G {r:Rule}{q:Cn}(h:q∈r.Contributions):Sz.szd q.Target≤Sz.szd r∧Sz.szd q.Value≤Sz.szd r:=by
 have h1:=z5M r
 have h2:=z1j q
 have h3:=z1x h
 have h4:=q7R q.Target
 have h5:=q7R q.Value
 omega
theorem z3d {g:Gm_}{r:Rule}(h:r∈g.Rules):Sz.szd r≤Sz.szd g:=by
 have h1:=z2q g
 have h3:=z1x h
 omega
theorem k3v {r:Rule}(h:Sz.szd r≤1048576):r.Equations.length≤1048576∧r.Contributions.length≤1048576:=by
 have h1:=z5M r
 have h2:=q5a r.Equations
 have h3:=q5a r.Contributions
 omega
def q8A (n:Int)(e:Expr):Bool:=allE (fun x=>decide (x.Pos≤n)) e
theorem j6r (n:Int)(e:Expr):∀ m,fuE e≤m→z1X m e n=some (q8A n e):=by
 induction e using z1y with
 | h e ih=>
  intro m hm
  obtain⟨m,rfl⟩:∃ q,m=q+1:=⟨m-1,by have:=z6a e;omega⟩
  show z1W (z1X m) e n=_
  unfold z1W
  rw[q4L (c:=false) (q:=q8A n) fun k x hx=>by
   unfold z8A
   rw[ih x hx m (by have:=z6b hx;omega),bsS]
   cases q8A n x<;>rfl]
  have e1:q8A n e=(decide (e.Pos≤n)&&e.Args.all (q8A n)):=by unfold q8A;rw[j3q]
  rw[e1,bsS]
  cases e.Args.all (q8A n) with
  | true=>rw[ifP rfl,z1N,Bool.and_true]
  | false=>rw[ifN (by simp),z6e,Bool.and_false]
theorem j8K (n:Int)(e:Expr):z6l e n=some (q8A n e):=q8S (fuE e) fun m hm=>j6r n e m hm
theorem j6s (n:Int)(e:Expr):∀ m,fuE e≤m→q5Y m e n=some (q8A n e):=by
 induction e using z1y with
 | h e ih=>
  intro m hm
  obtain⟨m,rfl⟩:∃ q,m=q+1:=⟨m-1,by have:=z6a e;omega⟩
  show q5X (q5Y m) e n=_
  unfold q5X q3P q3W z7n
  have e1:q8A n e=(decide (e.Pos≤n)&&e.Args.all (q8A n)):=by unfold q8A;rw[j3q]
  rw[bsS,e1]
  cases decide (e.Pos≤n) with
  | false=>rfl
  | true=>
   rw[ifP rfl,q5N (q:=fun x=>!q8A n x) fun k x hx=>by
    unfold q5p q6t
    rw[ih x hx m (by have:=z6b hx;omega),bsS,bsS]
    cases q8A n x<;>rfl]
   rw[Bool.true_and,← j0R];rfl
theorem j8L (n:Int)(e:Expr):q8x e n=some (q8A n e):=q8S (fuE e) fun m hm=>j6s n e m hm
def z3j (e:Expr)(n:Int):Bool:=j0S e&&q8A n e
theorem j3u {e:Expr}(h:Sz.szd e≤1048576)(n:Int):z6m e n=some (z3j e n):=by
 unfold z6m z3j
 have:=k3u h
 rw[k0m (by omega),bsS]
 cases j0S e with
 | false=>rfl
 | true=>rw[ifP rfl,j8L];rfl
theorem j3v {e:Expr}(h:Sz.szd e≤1048576)(n:Int):z1Y e n=some (z3j e n):=by
 unfold z1Y z3j
 have:=k3u h
 rw[k0n (by omega),bsS]
 cases j0S e with
 | false=>rfl
 | true=>rw[ifP rfl,j8K];rfl
def eqnB (n:Int)(q:Eqn):Bool:=z3j q.Expr n&&(q7r q.At.Name&&decide (0≤q.At.Pos∧q.At.Pos≤n))
def conB (n:Int)(q:Cn):Bool:=(z3j q.Target n&&z3j q.Value n)&&(q7r q.Symbol&&q7r q.Name)
def ruleB (r:Rule):Bool:=(q7r r.Name&&q7r r.Left)&&((decide (r.Right.length≤3)&&decide (r.Contributions.length≤2))&&(r.Right.all q7r&&(r.Equations.all (eqnB (r.Right.length:Int))&&r.Contributions.all (conB (r.Right.length:Int)))))
theorem j4T {α β γ:Type}{p:α→Bool}{q:β→Bool}{t:γ→Bool}(xs:List α)(ys:List β)(zs:List γ) :
  ((some (if xs.all p=true then (.inl ():Unit ⊕ Bool) else .inr false)).bind <| onr (fun r1=>some r1) fun _=>
   (some (if ys.all q=true then (.inl ():Unit ⊕ Bool) else .inr false)).bind <| onr (fun r1=>some r1) fun _=>
   (some (if zs.all t=true then (.inl ():Unit ⊕ Bool) else .inr false)).bind <| onr (fun r1=>some r1) fun _=>some true)=some (xs.all p&&(ys.all q&&zs.all t)):=by
 cases xs.all p<;>cases ys.all q<;>cases zs.all t<;>rfl
theorem k0s {r:Rule}(h:Sz.szd r≤1048576):q8J r=some (ruleB r):=by
 unfold q8J ruleB
 rw[z1z,bsS]
 cases q7r r.Name with
 | false=>rfl
 | true=>
  rw[ifP rfl,z1z,bsS,bsS]
  cases q7r r.Left with
  | false=>rfl
  | true=>
   rw[Bool.not_true,ifN (by simp),bsS]
   by_cases h3:r.Right.length≤3
   ·rw[decide_eq_true h3,decide_eq_false (by omega),ifN (by simp),bsS]
    by_cases h2:r.Contributions.length≤2
    ·rw[decide_eq_true h2,decide_eq_false (by omega),ifN (by simp)]
     rw[q4L (c:=false) (q:=q7r) fun k x hx=>by
      unfold z4U;rw[z1z,bsS];cases q7r x<;>rfl]
     rw[q4L (c:=false) (q:=eqnB (r.Right.length:Int)) fun k x hx=>by
      unfold z4V eqnB
      rw[j3u (Nat.le_trans (z6I hx) h),bsS]
      cases z3j x.Expr (r.Right.length:Int) with
      | false=>rfl
      | true=>
       rw[ifP rfl,z1z,bsS,bsS]
       cases q7r x.At.Name with
       | false=>rfl
       | true=>
        rw[Bool.not_true,ifN (by simp),z8H,bsS,bsS]
        cases decide (0≤x.At.Pos∧x.At.Pos≤(r.Right.length:Int))<;>rfl]
     rw[q4L (c:=false) (q:=conB (r.Right.length:Int)) fun k x hx=>by
      have hs:=z7G hx
      unfold z4W conB
      rw[j3u (Nat.le_trans hs.1 h),bsS]
      cases z3j x.Target (r.Right.length:Int) with
      | false=>rfl
      | true=>
       rw[ifP rfl,j3u (Nat.le_trans hs.2 h),bsS,bsS]
       cases z3j x.Value (r.Right.length:Int) with
       | false=>rfl
       | true=>
        rw[Bool.not_true,ifN (by simp),z1z,bsS,bsS]
        cases q7r x.Symbol with
        | false=>rfl
        | true=>
         rw[Bool.not_true,ifN (by simp),z1z,bsS,bsS]
         cases q7r x.Name<;>rfl]
     exact j4T _ _ _
    ·rw[decide_eq_false h2,decide_eq_true (by omega)];rfl
   ·rw[decide_eq_false h3,decide_eq_true (by omega)];rfl
theorem k0t {r:Rule}(h:Sz.szd r≤1048576):q8E r=some (ruleB r):=by
 unfold q8E ruleB
 rw[q9X,bsS]
 cases q7r r.Name with
 | false=>rfl
 | true=>
  rw[ifP rfl,q9X,bsS,bsS]
  cases q7r r.Left with
  | false=>rfl
  | true=>
   rw[Bool.not_true,ifN (by simp),bsS]
   by_cases h3:r.Right.length≤3
   ·rw[decide_eq_true h3,decide_eq_false (by omega),ifN (by simp),bsS]
    by_cases h2:r.Contributions.length≤2
    ·rw[decide_eq_true h2,decide_eq_false (by omega),ifN (by simp)]
     rw[q4L (c:=false) (q:=q7r) fun k x hx=>by
      unfold z4K;rw[q9X,bsS];cases q7r x<;>rfl]
     rw[q4L (c:=false) (q:=eqnB (r.Right.length:Int)) fun k x hx=>by
      unfold z4L eqnB
      rw[q9X,bsS]
      cases q7r x.At.Name with
      | false=>rw[Bool.false_and,Bool.and_false];rfl
      | true=>
       rw[ifP rfl,z5l,bsS,bsS]
       cases decide (0≤x.At.Pos∧x.At.Pos≤(r.Right.length:Int)) with
       | false=>rw[Bool.and_false,Bool.and_false];rfl
       | true=>
        rw[Bool.not_true,ifN (by simp),j3v (Nat.le_trans (z6I hx) h),bsS,bsS]
        cases z3j x.Expr (r.Right.length:Int)<;>rfl]
     rw[q4L (c:=false) (q:=conB (r.Right.length:Int)) fun k x hx=>by
      have hs:=z7G hx
      unfold z4M conB
      rw[q9X,bsS]
      cases q7r x.Symbol with
      | false=>rw[Bool.false_and,Bool.and_false];rfl
      | true=>
       rw[ifP rfl,q9X,bsS,bsS]
       cases q7r x.Name with
       | false=>rw[Bool.and_false,Bool.and_false];rfl
       | true=>
        rw[Bool.not_true,ifN (by simp),j3v (Nat.le_trans hs.1 h),bsS,bsS]
        cases z3j x.Target (r.Right.length:Int) with
        | false=>rfl
        | true=>
         rw[Bool.not_true,ifN (by simp),j3v (Nat.le_trans hs.2 h),bsS,bsS]
         cases z3j x.Value (r.Right.length:Int)<;>rfl]
     exact j4T _ _ _
    ·rw[decide_eq_false h2,decide_eq_true (by omega)];rfl
   ·rw[decide_eq_false h3,decide_eq_true (by omega)];rfl
def z3N (p:List Symbol)(x:Symbol):Bool:=!symB x||dupB (fun y:Symbol=>y.Name) p x
def z1k (p:List Rule)(x:Rule):Bool:=!ruleB x||dupB (fun y:Rule=>y.Name) p x
def z6c (g:Gm_):Int:=match q4s z3N [] g.Symbols with
 | some k=>(k:Int)
 | none=>match q4s z1k [] g.Rules with
  | some k=>(k:Int)
  | none=>-1
theorem k0u {g:Gm_}(h:Sz.szd g≤1048576):q9J g=some (z6c g):=by
 unfold q9J z6c
 rw[show findL (z0H g) 0 g.Symbols ()=_ from z5s (bad:=z3N) (c:=fun k=>(k:Int)) (all:=g.Symbols) (f:=z0H g) (fun pre x post e=>by
  unfold z0H z3N
  rw[k2q,bsS]
  cases symB x with
  | false=>rfl
  | true=>
   rw[ifP rfl,q3y (by rw[e];simp),show g.Symbols.take pre.length=pre by rw[e];simp]
   unfold q4d q4p
   rw[q5N (q:=fun o:Symbol=>decide (o.Name=x.Name)) fun k y hy=>by
    unfold q5J q9G
    rw[bsS]
    by_cases h:y.Name=x.Name
    ·rw[decide_eq_true h];rfl
    ·rw[decide_eq_false h];rfl]
   rw[bsS,← apply_ite some];rfl) g.Symbols [] rfl]
 rw[show findL (z0I g) 0 g.Rules ()=_ from z5s (bad:=z1k) (c:=fun k=>(k:Int)) (all:=g.Rules) (f:=z0I g) (fun pre x post e=>by
  unfold z0I z1k
  rw[k0s (Nat.le_trans (z3d (by rw[e];simp)) h),bsS]
  cases ruleB x with
  | false=>rfl
  | true=>
   rw[ifP rfl,q3y (by rw[e];simp),show g.Rules.take pre.length=pre by rw[e];simp]
   unfold q4j q4u
   rw[q5N (q:=fun o:Rule=>decide (o.Name=x.Name)) fun k y hy=>by
    unfold q5P q9I
    rw[bsS]
    by_cases h:y.Name=x.Name
    ·rw[decide_eq_true h];rfl
    ·rw[decide_eq_false h];rfl]
   rw[bsS,← apply_ite some];rfl) g.Rules [] rfl]
 cases q4s z3N [] g.Symbols with
 | some k=>rfl
 | none=>cases q4s z1k [] g.Rules<;>rfl
theorem j6t {g:Gm_}(h:Sz.szd g≤1048576):g.Symbols.length≤1048576∧g.Rules.length≤1048576:=by
 have h1:=z2q g
 have h2:=q5a g.Symbols
 have h3:=q5a g.Rules
 omega
theorem k0v {g:Gm_}(h:Sz.szd g≤1048576):z4N g=some (z6c g):=by
 have hl:=j6t h
 unfold z4N z6c
 have h1:=(z3M (bad:=z3N) (nm:=fun y:Symbol=>y.Name) (c:=fun k=>(k:Int)) (all:=g.Symbols) (f:=fun k x _=>some (if z3N (g.Symbols.take k) x=true then .inr (k:Int) else .inl ())) (h:=z5H) (fun pre x post e=>by
   rw[show g.Symbols.take pre.length=pre by rw[e];simp]) (fun pre x post e=>by
  unfold z5H z3N
  rw[k2r (z3c h x (by rw[e];simp)),bsS]
  cases symB x with
  | false=>rfl
  | true=>
   have hp:pre.length≤1048576:=by
     have:g.Symbols.length=pre.length+(post.length+1):=by rw[e];simp
     omega
   rw[ifP rfl,k0p,bsS,List.any_map,q3y (by rw[lnM];constructor<;>omega),List.map_append,← apply_ite some];rfl) g.Symbols [] rfl).2
 have h2:=(z3M (bad:=z1k) (nm:=fun y:Rule=>y.Name) (c:=fun k=>(k:Int)) (all:=g.Rules) (f:=fun k x _=>some (if z1k (g.Rules.take k) x=true then .inr (k:Int) else .inl ())) (h:=z5I) (fun pre x post e=>by
   rw[show g.Rules.take pre.length=pre by rw[e];simp]) (fun pre x post e=>by
  unfold z5I z1k
  rw[k0t (Nat.le_trans (z3d (by rw[e];simp)) h),bsS]
  cases ruleB x with
  | false=>rfl
  | true=>
   have hp:pre.length≤1048576:=by
     have:g.Rules.length=pre.length+(post.length+1):=by rw[e];simp
     omega
   rw[ifP rfl,k0p,bsS,List.any_map,q3y (by rw[lnM];constructor<;>omega),List.map_append,← apply_ite some];rfl) g.Rules [] rfl).2
 rw[show findL z5H 0 g.Symbols []=_ from h1,show findL z5I 0 g.Rules []=_ from h2]
 cases q4s z3N [] g.Symbols with
 | some k=>rfl
 | none=>cases q4s z1k [] g.Rules<;>rfl
theorem j0T {ρ:Type}{c:ρ}{q:Nat→Bool}{n:Nat}{f:Nat→Unit→Option (Unit ⊕ ρ)}(h:∀ k,k<n→f k ()=some (if q k=true then .inl () else .inr c)):∀ (m k:Nat),k+m=n→findN f k m ()=some (if (List.range' k m).all q=true then .inl () else .inr c)
 | 0,k,_=>rfl
 | m+1,k,hk=>by
  have ih:=j0T h m (k+1) (by omega)
  rw[findN,h k (by omega),bsS]
  by_cases hq:q k=true
  ·rw[ifP hq,show (List.range' k (m+1)).all q=(List.range' (k+1) m).all q by simp[List.range'_succ,hq]]
   exact ih
  ·rw[ifN hq,show (List.range' k (m+1)).all q=false by simp[List.range'_succ,hq]];rfl
theorem j7t {ρ:Type}{c:ρ}{q:Nat→Bool}{n:Nat}{f:Int→Option (Int ⊕ (Unit ⊕ ρ))}(h:∀ k:Nat,k<n→f (k:Int)=some (if q k=true then .inl ((k+1:Nat):Int) else .inr (.inr c)))(he:f (n:Int)=some (.inr (.inl ()))):∀ (m k:Nat),k+m=n→q5u f (k:Int)=some (if (List.range' k m).all q=true then .inl () else .inr c)
 | 0,k,hk=>by
  obtain rfl:k=n:=by omega
  exact q3G he
 | m+1,k,hk=>by
  have ih:=j7t h he m (k+1) (by omega)
  have h1:=h k (by omega)
  by_cases hq:q k=true
  ·rw[ifP hq] at h1
   rw[q4I h1,show (List.range' k (m+1)).all q=(List.range' (k+1) m).all q by simp[List.range'_succ,hq]]
   exact ih
  ·rw[ifN hq] at h1
   rw[q3G h1,show (List.range' k (m+1)).all q=false by simp[List.range'_succ,hq]];rfl
def j2d (g:Gm_)(r:Rule):Bool:=(List.range' 0 (r.Right.length+1)).all fun k=>(q6J g (q8z r (k:Int))).2
theorem j6u (g:Gm_){r:Rule}(hl:ROk r):z3v g r=some (!j2d g r):=by
 have hl' : r.Right.length≤1048576:=hl
 unfold z3v
 rw[q3y (by constructor<;>omega),j0T (c:=true) (n:=r.Right.length+1) (q:=fun k=>(q6J g (q8z r (k:Int))).2) (fun k hk=>by
  unfold j0g
  rw[j0O hl,bsS,z2r,bsS]
  dsimp only
  rw[← apply_ite some]) (r.Right.length+1) 0 (by omega)]
 unfold j2d
 cases (List.range' 0 (r.Right.length+1)).all fun k=>(q6J g (q8z r (k:Int))).2<;>rfl
theorem j6v {g:Gm_}(h:GOk g){r:Rule}(hl:ROk r):q9s g r=some (j2d g r):=by
 have hl' : r.Right.length≤1048576:=hl
 unfold q9s
 have e:=j7t (c:=false) (q:=fun k=>(q6J g (q8z r (k:Int))).2) (n:=r.Right.length+1) (f:=q8G g r) (fun k hk=>by
  unfold q8G
  rw[ifP (by omega),z6J hl,bsS,z3L h,bsS]
  dsimp only
  rw[q3y (by constructor<;>omega),← apply_ite some];rfl) (by
  unfold q8G;rw[ifN (by omega)]) (r.Right.length+1) 0 (by omega)
 rw[show q5u (q8G g r) 0=_ from e]
 unfold j2d
 cases (List.range' 0 (r.Right.length+1)).all fun k=>(q6J g (q8z r (k:Int))).2<;>rfl
theorem k4v (K:List Oc)(o:Oc):q4N K o=some (decide (o∈K)):=by
 unfold q4N q4b
 rw[q5N (q:=fun x=>decide (o=x)) fun k x hx=>by
  unfold q4n
  by_cases h:o=x
  ·rw[ifP h,ifP (by simpa using h)]
  ·rw[ifN h,ifN (by simpa using h)]]
 congr 1
 by_cases h:o∈K
 ·rw[decide_eq_true h,List.any_eq_true];exact⟨o,h,by simp⟩
 ·rw[decide_eq_false h,List.any_eq_false];intro x hx he;simp at he;exact h (he▸hx)
theorem k0w (K:List Oc)(o:Oc):z0f K o=some (decide (o∈K)):=by
 unfold z0f
 rw[q4L (c:=true) (q:=fun x=>!decide (x=o)) fun k x hx=>by
  unfold z8B
  by_cases h:x=o
  ·rw[ifP h,ifN (by simp[h])]
  ·rw[ifN h,ifP (by simp[h])]]
 by_cases h:o∈K
 ·rw[decide_eq_true h,ifN];· rfl
  rw[List.all_eq_true];intro hh;have:=hh o h;simp at this
 ·rw[decide_eq_false h,ifP];· rfl
  rw[List.all_eq_true];intro x hx;simp;exact fun e=>h (e▸hx)
def j4U (r:Rule)(o:Oc):Bool:=r.Equations.any fun q=>decide (q.At=o)
theorem k2s (r:Rule)(o:Oc):(eqAt r o).2=j4U r o:=by
 unfold eqAt j4U
 cases hf:r.Equations.find? (fun q=>decide (q.At=o)) with
 | none=>rw[List.find?_eq_none] at hf;symm;rw[List.any_eq_false];exact hf
 | some q=>symm;rw[List.any_eq_true];exact⟨q,List.mem_of_find?_eq_some hf,List.find?_some (p:=fun q:Eqn=>decide (q.At=o)) hf⟩
def k0x (g:Gm_)(r:Rule):Bool:=(reqL g r).any fun o=>!j4U r o
theorem k2t {g:Gm_}(h:GOk g){r:Rule}(hl:ROk r):z3w g r=some (k0x g r):=by
 unfold z3w k0x
 rw[k0a h hl,bsS]
 unfold q4a q4l
 rw[q5N (q:=fun o=>!j4U r o) fun k o ho=>by
  unfold q5G z2J q3Z q4k
  rw[q5N (q:=fun q:Eqn=>decide (q.At=o)) fun k y hy=>by
   unfold q5F z0J
   rw[bsS]
   by_cases h:y.At=o
   ·rw[decide_eq_true h];rfl
   ·rw[decide_eq_false h];rfl]
  rw[bsS,bsS,← apply_ite some];rfl]
 rfl
theorem k2u {g:Gm_}(h:GOk g){r:Rule}(hr:Sz.szd r≤1048576):q9u g r=some (k0x g r):=by
 unfold q9u k0x
 rw[k0b h (q7S hr),bsS,q4L (c:=true) (q:=j4U r) fun k o ho=>by
  unfold z5V
  rw[j3n hr o,bsS]
  dsimp only
  rw[k2s,← apply_ite some]]
 have e:((reqL g r).all (j4U r))=!((reqL g r).any fun o=>!j4U r o):=by rw[j0R]
 rw[e]
 cases (reqL g r).any fun o=>!j4U r o<;>rfl
def j4V (g:Gm_)(r:Rule):Bool:=(q4s (fun p (x:Eqn)=>!decide (x.At∈reqL g r)||p.any fun o=>decide (o.At=x.At)) [] r.Equations).isSome
theorem k0y {g:Gm_}(h:GOk g){r:Rule}(hl:ROk r):z7p g r=some (j4V g r):=by
 unfold z7p j4V
 rw[k0a h hl,bsS]
 rw[show findL (z7o r (reqL g r)) 0 r.Equations ()=_ from z5s (bad:=fun p (x:Eqn)=>!decide (x.At∈reqL g r)||p.any fun o=>decide (o.At=x.At)) (c:=fun _=>true) (all:=r.Equations) (f:=z7o r (reqL g r)) (fun pre x post e=>by
  unfold z7o
  rw[k4v,bsS]
  cases decide (x.At∈reqL g r) with
  | false=>rfl
  | true=>
   rw[ifP rfl,q3y (by rw[e];simp),show r.Equations.take pre.length=pre by rw[e];simp]
   unfold q4q q4y
   rw[q5N (q:=fun o:Eqn=>decide (o.At=x.At)) fun k y hy=>by
    unfold q5Z z5J
    rw[bsS]
    by_cases h:y.At=x.At
    ·rw[decide_eq_true h];rfl
    ·rw[decide_eq_false h];rfl]
   rw[bsS,← apply_ite some];rfl) r.Equations [] rfl]
 cases q4s (fun p (x:Eqn)=>!decide (x.At∈reqL g r)||p.any fun o=>decide (o.At=x.At)) [] r.Equations<;>rfl
theorem k0z {g:Gm_}(h:GOk g){r:Rule}(hr:Sz.szd r≤1048576):z1Z g r=some (j4V g r):=by
 have hl:=(k3v hr).1
 unfold z1Z j4V
 rw[k0b h (q7S hr),bsS]
 have h1:=(z3M (bad:=fun p (x:Eqn)=>!decide (x.At∈reqL g r)||p.any fun o=>decide (o.At=x.At)) (nm:=fun y:Eqn=>y.At) (c:=fun _=>true) (all:=r.Equations)
  (f:=fun k x _=>some (if (!decide (x.At∈reqL g r)||(r.Equations.take k).any fun o=>decide (o.At=x.At))=true then .inr true else .inl ())) (h:=z2E (reqL g r)) (fun pre x post e=>by
   rw[show r.Equations.take pre.length=pre by rw[e];simp]) (fun pre x post e=>by
  unfold z2E
  rw[k0w,bsS]
  cases decide (x.At∈reqL g r) with
  | false=>rfl
  | true=>
   have hp:pre.length≤1048576:=by
     have:r.Equations.length=pre.length+(post.length+1):=by rw[e];simp
     omega
   have e2:decide (x.At∈pre.map fun y:Eqn=>y.At)=pre.any fun o=>decide (o.At=x.At):=by
    by_cases hm:x.At∈pre.map fun y:Eqn=>y.At
    ·rw[decide_eq_true hm];symm;rw[List.any_eq_true]
     obtain⟨y,hy,he⟩:=List.mem_map.1 hm
     exact⟨y,hy,by simpa using he⟩
    ·rw[decide_eq_false hm];symm;rw[List.any_eq_false]
     intro y hy he
     exact hm (List.mem_map.2 ⟨y,hy,by simpa using he⟩)
   rw[ifP rfl,k0w,bsS,e2,q3y (by rw[lnM];constructor<;>omega),List.map_append,← apply_ite some];rfl) r.Equations [] rfl).2
 rw[show findL (z2E (reqL g r)) 0 r.Equations []=_ from h1]
 cases q4s (fun p (x:Eqn)=>!decide (x.At∈reqL g r)||p.any fun o=>decide (o.At=x.At)) [] r.Equations<;>rfl
def useB (g:Gm_)(r:Rule)(e:Expr):Bool:=(attrs e).all (mayB g r)
theorem j3w {g:Gm_}(h:GOk g){r:Rule}(hl:ROk r){e:Expr}(he:Sz.szd e≤1048576):z0g g r e=some (useB g r e):=by
 unfold z0g useB
 rw[j7l he,bsS,q4L (c:=false) (q:=mayB g r) fun k x hx=>by
  unfold j0b
  rw[k4h h hl,bsS,← apply_ite some]]
 cases (attrs e).all (mayB g r)<;>rfl
theorem k2v (g:Gm_){r:Rule}(hl:ROk r){e:Expr}(he:Sz.szd e≤1048576):z0V e g r=some (!useB g r e):=by
 unfold z0V useB
 rw[j7k he,bsS]
 unfold q3U q4f
 rw[q5N (q:=fun o=>!mayB g r o) fun k o ho=>by
  unfold q5A z0K
  rw[k4g g hl,bsS,bsS,← apply_ite some]]
 rw[bsS,← j0R,Bool.not_not]
def j0U (r:Rule):List Expr:=r.Equations.map (fun q=>q.Expr)++r.Contributions.flatMap fun q=>[q.Target,q.Value]
theorem k2w {r:Rule}(hr:Sz.szd r≤1048576):q8L r=some (j0U r):=by
 have hl:=k3v hr
 have h1:∀ (xs:List Eqn) (i:Nat) (s:List Expr),s.length+xs.length≤1048576→eachL q9L i xs s=some (s++xs.map fun q=>q.Expr):=by
  intro xs
  induction xs with
  | nil=>intro i s _;simp[eachL]
  | cons x xs ih=>
   intro i s hs
   simp only[lnC] at hs
   have e:q9L i x s=some (s++[x.Expr]):=by unfold q9L;rw[q3y (by constructor<;>omega)]
   rw[eachL,e,bsS,ih _ _ (by simp;omega)];simp
 have h2:∀ (xs:List Cn) (i:Nat) (s:List Expr),s.length+2*xs.length≤4194304→eachL q9M i xs s=some (s++xs.flatMap fun q=>[q.Target,q.Value]):=by
  intro xs
  induction xs with
  | nil=>intro i s _;simp[eachL]
  | cons x xs ih=>
   intro i s hs
   simp only[lnC] at hs
   have e:q9M i x s=some (s++[x.Target,x.Value]):=by
    unfold q9M;rw[q3y (by simp only[lnC,List.length_nil];constructor<;>omega)]
   rw[eachL,e,bsS,ih _ _ (by simp;omega)];simp
 unfold q8L j0U
 rw[h1 _ _ _ (by simpa using hl.1),bsS,h2 _ _ _ (by simp;omega)];simp
theorem k2x {r:Rule}{e:Expr}(h:e∈j0U r):Sz.szd e≤Sz.szd r:=by
 unfold j0U at h
 rcases List.mem_append.1 h with h|h
 ·obtain⟨q,hq,rfl⟩:=List.mem_map.1 h;exact z6I hq
 ·obtain⟨q,hq,he⟩:=List.mem_flatMap.1 h
  have:=z7G hq
  simp at he
  rcases he with rfl|rfl
  ·exact this.1
  ·exact this.2
def misB (g:Gm_)(r:Rule):Bool:=!(j0U r).all (useB g r)
theorem k4w (g:Gm_){r:Rule}(hr:Sz.szd r≤1048576):z3x g r=some (misB g r):=by
 unfold z3x misB
 rw[k2w hr,bsS]
 unfold q4v q4G
 rw[q5N (q:=fun e=>!useB g r e) fun k e he=>by
  unfold q6p
  rw[k2v g (q7S hr) (Nat.le_trans (k2x he) hr),bsS,← apply_ite some]]
 rw[bsS,← j0R,Bool.not_not]
theorem k4x {g:Gm_}(h:GOk g){r:Rule}(hr:Sz.szd r≤1048576):z0S g r=some (misB g r):=by
 unfold z0S misB
 rw[q4L (c:=true) (q:=fun q:Eqn=>useB g r q.Expr) fun k x hx=>by
  unfold z7j
  rw[j3w h (q7S hr) (Nat.le_trans (z6I hx) hr),bsS,← apply_ite some]]
 rw[q4L (c:=true) (q:=fun q:Cn=>useB g r q.Target&&useB g r q.Value) fun k x hx=>by
  have hs:=z7G hx
  unfold z7k
  rw[j3w h (q7S hr) (Nat.le_trans hs.1 hr),bsS]
  cases useB g r x.Target with
  | false=>rfl
  | true=>rw[ifP rfl,j3w h (q7S hr) (Nat.le_trans hs.2 hr),bsS,← apply_ite some];rfl]
 have e:(j0U r).all (useB g r)=((r.Equations.all fun q=>useB g r q.Expr)&&r.Contributions.all fun q=>useB g r q.Target&&useB g r q.Value):=by
  unfold j0U
  rw[List.all_append,List.all_map,List.all_flatMap]
  congr 1
  congr 1;funext q;simp
 rw[e]
 cases r.Equations.all fun q=>useB g r q.Expr with
 | false=>rfl
 | true=>cases r.Contributions.all fun q=>useB g r q.Target&&useB g r q.Value<;>rfl
def z3O (g:Gm_)(r:Rule)(k:Int):Bool:=if k=3 then !j2d g r else if k=4 then k0x g r else if k=5 then j4V g r else misB g r
theorem k0A {g:Gm_}(h:GOk g){r:Rule}(hr:Sz.szd r≤1048576)(k:Int):z0T g r k=some (z3O g r k):=by
 unfold z0T z3O
 by_cases h3:k=3
 ·rw[ifP h3,ifP h3,j6v h (q7S hr)];rfl
 ·rw[ifN h3,ifN h3]
  by_cases h4:k=4
  ·rw[ifP h4,ifP h4,k2u h hr];rfl
  ·rw[ifN h4,ifN h4]
   by_cases h5:k=5
   ·rw[ifP h5,ifP h5,k0z h hr];rfl
   ·rw[ifN h5,ifN h5,k4x h hr];rfl
theorem j4W {g:Gm_}(h:GOk g){r:Rule}(hr:Sz.szd r≤1048576)(k:Int)(i:Nat):z0L g k i r ()=some (if z3O g r k=true then .inr (k,(i:Int)) else .inl ()):=by
 unfold z0L z3O
 by_cases h3:k=3
 ·rw[ifP h3,ifP h3,j6u g (q7S hr),bsS,← apply_ite some]
 ·rw[ifN h3,ifN h3]
  by_cases h4:k=4
  ·rw[ifP h4,ifP h4,k2t h (q7S hr),bsS,← apply_ite some]
  ·rw[ifN h4,ifN h4]
   by_cases h5:k=5
   ·rw[ifP h5,ifP h5,k0y h (q7S hr),bsS,← apply_ite some]
   ·rw[ifN h5,ifN h5,k4w g hr,bsS,← apply_ite some]
theorem k0B {g:Gm_}(h:GOk g){r:Rule}(hr:Sz.szd r≤1048576)(k:Int)(i:Nat):z0D g k i r ()=some (if z3O g r k=true then .inr (k,(i:Int)) else .inl ()):=by
 unfold z0D
 rw[k0A h hr,bsS,← apply_ite some]
theorem j0V {α σ ρ:Type}{f g:Nat→α→σ→Option (σ ⊕ ρ)}:∀ {xs:List α} {i:Nat} {s:σ},(∀ k x s,x∈xs→f k x s=g k x s)→findL f i xs s=findL g i xs s
 | [],_,_,_=>rfl
 | x::xs,i,s,h=>by
  rw[findL,findL,h i x s (by simp)]
  congr 1;funext z
  cases z with
  | inl s'=>exact j0V fun k y s hy=>h k y s (by simp[hy])
  | inr r=>rfl
theorem j6w {g:Gm_}(h:Sz.szd g≤1048576)(k:Int):z0E g k=q5K g k:=by
 unfold z0E q5K
 have e:findL (z0D g k) 0 g.Rules ()=findL (z0L g k) 0 g.Rules ():=j0V fun i x _ hx=>by
  have hr:=Nat.le_trans (z3d hx) h
  rw[k0B (z3c h) hr,j4W (z3c h) hr]
 rw[e]
def q7h (g:Gm_)(k:Int):Option (Int×Int):=match g.Rules.findIdx? fun r=>z3O g r k with
 | some i=>some (k,(i:Int))
 | none=>none
theorem z5t {α ρ:Type}{q:α→Bool}{c:Nat→ρ}:∀ {xs:List α} {i:Nat} {f:Nat→α→Unit→Option (Unit ⊕ ρ)},(∀ k x,x∈xs→f k x ()=some (if q x=true then .inr (c k) else .inl ())) →
  findL f i xs ()=some (match xs.findIdx? q with|some j=>.inr (c (i+j))|none=>.inl ())
 | [],_,_,_=>rfl
 | x::xs,i,f,h=>by
  rw[findL,h i x (by simp),bsS,List.findIdx?_cons]
  by_cases hq:q x=true
  ·rw[ifP hq,ifP hq];rfl
  ·rw[ifN hq,ifN hq]
   have ih:=z5t (q:=q) (c:=c) (xs:=xs) (i:=i+1) (f:=f) fun k y hy=>h k y (by simp[hy])
   dsimp only
   rw[ih]
   cases xs.findIdx? q with
   | none=>rfl
   | some j=>simp only[Option.map_some];rw[show i+1+j=i+(j+1) by omega]
def z5u (g:Gm_):Int×Int:=
 if !decide (1≤g.Symbols.length∧g.Symbols.length≤4) || !decide (1≤g.Rules.length∧g.Rules.length≤8) then (1,0)
 else if 0≤z6c g then (1,z6c g)
 else if (g.Symbols.getD 0 zS).Attributes.any fun a=>decide (a.Mode=1) then (2,0)
 else (q7h g 3 <|> (q7h g 4 <|> (q7h g 5 <|> q7h g 6))).getD (0,0)
theorem j0W {g:Gm_}(h:Sz.szd g≤1048576):(q5u (q5K g) 3).bind (onr (fun r2=>some r2) fun ()=>some (0,0))=some ((q7h g 3 <|> (q7h g 4 <|> (q7h g 5 <|> q7h g 6))).getD (0,0)):=by
 have hstep:∀ k:Int,3≤k→k≤6→q5K g k=match q7h g k with|some z=>some (.inr (.inr z))|none=>some (.inl (k+1)):=by
  intro k h3 h6
  unfold q5K q7h
  rw[ifP h6,z5t (q:=fun r=>z3O g r k) (c:=fun i=>(k,(i:Int))) fun i x hx=>j4W (z3c h) (Nat.le_trans (z3d hx) h) k i]
  cases g.Rules.findIdx? fun r=>z3O g r k with
  | some i=>simp
  | none=>rw[bsS];dsimp only[onr];rw[q3y (by constructor<;>omega)]
 have hend:q5K g 7=some (.inr (.inl ())):=by unfold q5K;rw[ifN (by omega)]
 have h3:=hstep 3 (by omega) (by omega)
 have h4:=hstep 4 (by omega) (by omega)
 have h5:=hstep 5 (by omega) (by omega)
 have h6:=hstep 6 (by omega) (by omega)
 cases s3:q7h g 3 with
 | some z=>rw[s3] at h3;rw[q3G h3];rfl
 | none=>
  rw[s3] at h3
  rw[q4I h3,show (3:Int)+1=4 by rfl]
  cases s4:q7h g 4 with
  | some z=>rw[s4] at h4;rw[q3G h4];rfl
  | none=>
   rw[s4] at h4
   rw[q4I h4,show (4:Int)+1=5 by rfl]
   cases s5:q7h g 5 with
   | some z=>rw[s5] at h5;rw[q3G h5];rfl
   | none=>
    rw[s5] at h5
    rw[q4I h5,show (5:Int)+1=6 by rfl]
    cases s6:q7h g 6 with
    | some z=>rw[s6] at h6;rw[q3G h6];rfl
    | none=>
     rw[s6] at h6
     rw[q4I h6,show (6:Int)+1=7 by rfl,q3G hend];rfl
theorem k0C {g:Gm_}(h:Sz.szd g≤1048576):q9N g=some (z5u g):=by
 unfold q9N z5u
 rw[z8H,bsS]
 by_cases h1:1≤g.Symbols.length∧g.Symbols.length≤4
 ·rw[decide_eq_true (by omega),ifP rfl,z8H,bsS,decide_eq_true h1]
  by_cases h2:1≤g.Rules.length∧g.Rules.length≤8
  ·rw[decide_eq_true (by omega),ifP rfl,k0u h,bsS,decide_eq_true h2]
   simp only[Bool.not_true,Bool.or_self,Bool.false_eq_true,if_false]
   by_cases h3:0≤z6c g
   ·rw[ifP h3,ifP h3]
   ·rw[ifN h3,ifN h3,List.getD_eq_getElem?_getD,List.getElem?_eq_getElem (by omega:0<g.Symbols.length),bsS,Option.getD_some]
    unfold q3T q4e
    rw[q5N (q:=fun a:At_=>decide (a.Mode=1)) fun k y hy=>by
     unfold q5z q9K
     rw[bsS,← apply_ite some]]
    rw[bsS]
    by_cases h4:(g.Symbols[0].Attributes.any fun a=>decide (a.Mode=1))=true
    ·rw[ifP h4,ifP h4]
    ·rw[ifN h4,ifN h4]
     exact j0W h
  ·rw[decide_eq_false (by omega),decide_eq_false h2];rfl
 ·rw[decide_eq_false (by omega),decide_eq_false h1];rfl
theorem k0D {g:Gm_}(h:Sz.szd g≤1048576):q9v g=some (z5u g):=by
 unfold q9v z5u
 rw[z5l,bsS]
 by_cases h1:1≤g.Symbols.length∧g.Symbols.length≤4
 ·rw[decide_eq_true (by omega),ifP rfl,z5l,bsS,decide_eq_true h1]
  by_cases h2:1≤g.Rules.length∧g.Rules.length≤8
  ·rw[decide_eq_true (by omega),ifP rfl,k0v h,bsS,decide_eq_true h2]
   simp only[Bool.not_true,Bool.or_self,Bool.false_eq_true,if_false]
   by_cases h3:0≤z6c g
   ·rw[ifP h3,ifP h3]
   ·rw[ifN h3,ifN h3,List.getD_eq_getElem?_getD,List.getElem?_eq_getElem (by omega:0<g.Symbols.length),bsS,Option.getD_some]
    rw[q4L (c:=((2:Int),(0:Int))) (q:=fun a:At_=>!decide (a.Mode=1)) fun k y hy=>by
     unfold z5W
     by_cases hm:y.Mode=1
     ·rw[ifP hm,ifN (by simp[hm])]
     ·rw[ifN hm,ifP (by simp[hm])]]
    have e:(g.Symbols[0].Attributes.all fun a=>!decide (a.Mode=1))=!(g.Symbols[0].Attributes.any fun a=>decide (a.Mode=1)):=by rw[List.not_any_eq_all_not]
    rw[e]
    cases (g.Symbols[0].Attributes.any fun a=>decide (a.Mode=1)) with
    | true=>rfl
    | false=>
     rw[Bool.not_false,ifP rfl,bsS,z1N,ifN (by simp),show z0E g=q5K g from funext fun k=>j6w h k]
     exact j0W h
  ·rw[decide_eq_false (by omega),decide_eq_false h2];rfl
 ·rw[decide_eq_false (by omega),decide_eq_false h1];rfl
theorem z5O {α:Type}{bad:List α→α→Bool}:∀ (xs pre:List α),q4s bad pre xs=none→∀ k x,xs[k]?=some x→bad (pre++xs.take k) x=false
 | [],pre,h,k,x,hx=>by simp at hx
 | y::xs,pre,h,k,x,hx=>by
  rw[q4s] at h
  by_cases hb:bad pre y=true
  ·rw[ifP hb] at h;cases h
  ·rw[ifN hb] at h
   cases k with
   | zero=>simp at hx;subst hx;simpa using hb
   | succ k=>
    have:=z5O xs (pre++[y]) h k x (by simpa using hx)
    simpa using this
structure Shape (g:Gm_):Prop where
 syms:1≤g.Symbols.length∧g.Symbols.length≤4
 rules:1≤g.Rules.length∧g.Rules.length≤8
 sym:q4s z3N [] g.Symbols=none
 rule:q4s z1k [] g.Rules=none
 brk:∀ k:Int,3≤k→k≤6→∀ r∈g.Rules,z3O g r k=false
 j3V:∀ y a,g.Symbols[0]?=some y→a∈y.Attributes→a.Mode≠1
theorem j7u {g:Gm_}(h:(z5u g).1=0):Shape g:=by
 unfold z5u at h
 by_cases h1:1≤g.Symbols.length∧g.Symbols.length≤4
 ·by_cases h2:1≤g.Rules.length∧g.Rules.length≤8
  ·rw[decide_eq_true h1,decide_eq_true h2] at h
   simp only[Bool.not_true,Bool.or_self,Bool.false_eq_true,if_false] at h
   by_cases h3:0≤z6c g
   ·rw[ifP h3] at h;simp at h
   ·rw[ifN h3] at h
    by_cases h4:((g.Symbols.getD 0 zS).Attributes.any fun a=>decide (a.Mode=1))=true
    ·rw[ifP h4] at h;simp at h
    ·rw[ifN h4] at h
     have hf:q4s z3N [] g.Symbols=none∧q4s z1k [] g.Rules=none:=by
      unfold z6c at h3
      cases e1:q4s z3N [] g.Symbols with
      | some k=>rw[e1] at h3;exact absurd (Int.natCast_nonneg k) h3
      | none=>
       cases e2:q4s z1k [] g.Rules with
       | some k=>rw[e1,e2] at h3;exact absurd (Int.natCast_nonneg k) h3
       | none=>exact⟨rfl,rfl⟩
     have hk:∀ k:Int,q7h g k=none→∀ r∈g.Rules,z3O g r k=false:=by
      intro k hk r hr
      unfold q7h at hk
      cases e:g.Rules.findIdx? fun r=>z3O g r k with
      | some i=>rw[e] at hk;cases hk
      | none=>
       rw[List.findIdx?_eq_none_iff] at e
       exact e r hr
     have hc:∀ k:Int,3≤k→∀ z,q7h g k=some z→z.1≠0:=by
      intro k h3 z hz
      unfold q7h at hz
      cases e:g.Rules.findIdx? fun r=>z3O g r k with
      | none=>rw[e] at hz;cases hz
      | some i=>rw[e] at hz;cases hz;show k≠0;omega
     have n3:q7h g 3=none:=by
      cases e:q7h g 3 with
      | none=>rfl
      | some z=>rw[e] at h;exact absurd h (hc 3 (by omega) z e)
     rw[n3] at h
     have n4:q7h g 4=none:=by
      cases e:q7h g 4 with
      | none=>rfl
      | some z=>rw[e] at h;exact absurd h (hc 4 (by omega) z e)
     rw[n4] at h
     have n5:q7h g 5=none:=by
      cases e:q7h g 5 with
      | none=>rfl
      | some z=>rw[e] at h;exact absurd h (hc 5 (by omega) z e)
     rw[n5] at h
     have n6:q7h g 6=none:=by
      cases e:q7h g 6 with
      | none=>rfl
      | some z=>rw[e] at h;exact absurd h (hc 6 (by omega) z e)
     refine⟨h1,h2,hf.1,hf.2,fun k k3 k6=>?_,fun y a hy ha hm=>h4 ?_⟩
     ·have:k=3∨k=4∨k=5∨k=6:=by omega
      rcases this with rfl|rfl|rfl|rfl
      ·exact hk _ n3
      ·exact hk _ n4
      ·exact hk _ n5
      ·exact hk _ n6
     ·rw[List.getD_eq_getElem?_getD,hy,List.any_eq_true]
      exact⟨a,ha,by simpa using hm⟩
  ·rw[decide_eq_false h2] at h;simp at h
 ·rw[decide_eq_false h1] at h;simp at h
theorem Shape.ruleB {g:Gm_}(h:Shape g){r:Rule}(hr:r∈g.Rules):ruleB r=true:=by
 obtain⟨k,hk⟩:=List.getElem?_of_mem hr
 have:=z5O _ _ h.rule k r hk
 unfold z1k at this
 rw[Bool.or_eq_false_iff] at this
 simpa using this.1
theorem Shape.symB {g:Gm_}(h:Shape g){y:Symbol}(hy:y∈g.Symbols):symB y=true:=by
 obtain⟨k,hk⟩:=List.getElem?_of_mem hy
 have:=z5O _ _ h.sym k y hk
 unfold z3N at this
 rw[Bool.or_eq_false_iff] at this
 simpa using this.1
theorem Shape.pos {g:Gm_}(h:Shape g){r:Rule}(hr:r∈g.Rules){q:Eqn}(hq:q∈r.Equations):0≤q.At.Pos∧q.At.Pos≤(r.Right.length:Int):=by
 have:=h.ruleB hr
 unfold Go.Proofs.YtomdlgffolbdkaaGreat.ruleB at this
 simp only[Bool.and_eq_true,List.all_eq_true] at this
 have:=this.2.2.2.1 q hq
 unfold eqnB at this
 simp only[Bool.and_eq_true,decide_eq_true_eq] at this
 exact this.2.2
def typK (g:Gm_)(r:Rule)(k n p t:Int)(sy nm:ByteArray)(ts:List Int):Int:=
 if k=1 then t else if k=2 then (if r.Literal=true then 1 else 0) else if k=3 then (z0d g r ⟨p,nm⟩).1.Type_
 else if k=4 then (if ts.length=2∧ts.getD 0 0=(opT n).1∧ts.getD 1 0=(opT n).2.1 then (opT n).2.2 else 0)
 else if k=5 then (if ts.length=3∧ts.getD 0 0=3∧ts.getD 1 0=ts.getD 2 0 then ts.getD 1 0 else 0)
 else if k=6 then (if 0≤p∧p≤(r.Right.length:Int) then 4 else 0) else if k=7 then 4
 else if k=8 then (if ts.length=1∧ts.getD 0 0=4 then (z3K (q6J g sy).1 nm).1.Type_ else 0) else 0
mutual
def typE (g:Gm_)(r:Rule):Expr→Int
 | ⟨k,n,p,t,sy,nm,a⟩=>typK g r k n p t sy nm (k2y g r a)
def k2y (g:Gm_)(r:Rule):List Expr→List Int
 | []=>[]
 | x::xs=>typE g r x::k2y g r xs
end
theorem j7v (g:Gm_)(r:Rule):∀ l,k2y g r l=l.map (typE g r)
 | []=>rfl
 | x::xs=>by rw[k2y,j7v g r xs];rfl
theorem k0E (g:Gm_)(r:Rule)(e:Expr):typE g r e=typK g r e.Kind e.N e.Pos e.Type_ e.Symbol e.Name (e.Args.map (typE g r)):=by
 cases e;rw[typE,j7v]
theorem j4X {y:Symbol}{s:ByteArray}(h:(z3K y s).2≠true):(z3K y s).1=zA:=by
 unfold z3K at h ⊢
 cases hf:y.Attributes.find? (fun a=>decide (a.Name=s)) with
 | none=>rfl
 | some a=>rw[hf] at h;exact absurd rfl h
theorem j6x {g:Gm_}(h:GOk g)(s nm:ByteArray):q6m g s nm=some (z3K (q6J g s).1 nm).1.Type_:=by
 unfold q6m
 rw[z3L h,bsS]
 try dsimp only
 rw[j0N,bsS]
 try dsimp only
 by_cases hb:(z3K (q6J g s).1 nm).2=true
 ·rw[ifP hb]
 ·rw[ifN hb,j4X hb];rfl
theorem k2z (g:Gm_){r:Rule}(hl:ROk r)(e:Expr):∀ m,fuE e≤m→Sz.szd e≤1048576→q7m m g r e=some (typE g r e):=by
 induction e using z1y with
 | h e ih=>
  intro m hm hs
  obtain⟨m,rfl⟩:∃ q,m=q+1:=⟨m-1,by have:=z6a e;omega⟩
  show q9O (q7m m) g r e=_
  have hlen:e.Args.length≤1048576:=by have:=q7R e;have:=q5a e.Args;omega
  have hloop:∀ (xs:List Expr) (i:Nat) (s:List Int),(∀ x∈xs,x∈e.Args)→s.length+xs.length≤1048576→eachL (z0M (q7m m) g r) i xs s=some (s++xs.map (typE g r)):=by
   intro xs
   induction xs with
   | nil=>intro i s _ _;simp[eachL]
   | cons x xs ihx=>
    intro i s hx hn
    simp only[lnC] at hn
    have e1:z0M (q7m m) g r i x s=some (s++[typE g r x]):=by
     unfold z0M
     have hxe:=hx x (by simp)
     rw[ih x hxe m (by have:=z6b hxe;omega) (by have:=j9T hxe;omega),bsS,q3y (by constructor<;>omega)]
    rw[eachL,e1,bsS,ihx _ _ (fun y hy=>hx y (by simp[hy])) (by simp;omega)];simp
  unfold q9O
  rw[hloop e.Args 0 [] (fun _ h=>h) (by simpa using hlen),bsS,List.nil_append,k0E]
  generalize e.Args.map (typE g r)=ts
  unfold typK
  by_cases k1:e.Kind=1
  ·rw[ifP k1,ifP k1]
  rw[ifN k1,ifN k1]
  by_cases k2:e.Kind=2
  ·rw[ifP k2,ifP k2,bsS]
   by_cases hL:r.Literal=true
   ·rw[ifP hL,ifP hL]
   ·rw[ifN hL,ifN hL]
    simp[k2]
  rw[ifN k2,ifN k2,bsS,ifN (by simp)]
  by_cases k3:e.Kind=3
  ·rw[ifP k3,ifP k3,z8m g hl];rfl
  rw[ifN k3,ifN k3]
  by_cases k4:e.Kind=4
  ·rw[ifP k4,ifP k4,bsS]
   by_cases hn:ts.length=2
   ·obtain⟨a,b,rfl⟩:∃ a b,ts=[a,b]:=by
     match ts,hn with
     | [a,b],_=>exact⟨a,b,rfl⟩
    rw[ifP (by simp),k4o,bsS]
    simp only[List.getElem?_cons_zero,List.getElem?_cons_succ,bsS,List.getD_cons_zero,List.getD_cons_succ]
    by_cases ha:a=(opT e.N).1
    ·rw[ifP ha,bsS]
     by_cases hb:b=(opT e.N).2.1
     ·rw[ifP (by simp[hb]),ifP ⟨hn,ha,hb⟩]
     ·rw[ifN (by simp[hb]),ifN fun h=>hb h.2.2]
    ·rw[ifN ha,bsS,ifN (by simp),ifN fun h=>ha h.2.1]
   ·have hz:(if ts.length=2∧ts.getD 0 0=(opT e.N).1∧ts.getD 1 0=(opT e.N).2.1 then (opT e.N).2.2 else 0)=0:=ifN fun h=>hn h.1
    rw[hz,ifN (by simp;omega)]
    simp[k4]
  rw[ifN k4,ifN k4,bsS,ifN (by simp)]
  by_cases k5:e.Kind=5
  ·rw[ifP k5,ifP k5,bsS]
   by_cases hn:ts.length=3
   ·obtain⟨a,b,c,rfl⟩:∃ a b c,ts=[a,b,c]:=by
     match ts,hn with
     | [a,b,c],_=>exact⟨a,b,c,rfl⟩
    rw[ifP (by simp)]
    simp only[List.getElem?_cons_zero,List.getElem?_cons_succ,bsS,List.getD_cons_zero,List.getD_cons_succ]
    by_cases ha:a=3
    ·rw[ifP ha]
     by_cases hb:b=c
     ·rw[ifP hb,ifP ⟨hn,ha,hb⟩]
     ·rw[ifN hb,ifN fun h=>hb h.2.2]
    ·rw[ifN ha,ifN fun h=>ha h.2.1]
   ·have hz:(if ts.length=3∧ts.getD 0 0=3∧ts.getD 1 0=ts.getD 2 0 then ts.getD 1 0 else 0)=0:=ifN fun h=>hn h.1
    rw[hz,ifN (by simp;omega)]
    simp[k5]
  rw[ifN k5,ifN k5,bsS,ifN (by simp)]
  by_cases k6:e.Kind=6
  ·rw[ifP k6,ifP k6,z8H,bsS,bsS]
   by_cases hp:0≤e.Pos∧e.Pos≤(r.Right.length:Int)
   ·rw[decide_eq_true hp,ifP hp];rfl
   ·rw[decide_eq_false hp,ifN hp]
    simp[k6]
  rw[ifN k6,ifN k6,bsS,ifN (by simp),bsS]
  by_cases k7:e.Kind=7
  ·rw[ifP (by simp[k7]),ifP k7]
  rw[ifN (by simp[k7]),ifN k7]
  by_cases k8:e.Kind=8
  ·rw[ifP k8,ifP k8,bsS]
   by_cases hn:ts.length=1
   ·obtain⟨a,rfl⟩:∃ a,ts=[a]:=by
     match ts,hn with
     | [a],_=>exact⟨a,rfl⟩
    rw[ifP (by simp)]
    simp only[List.getElem?_cons_zero,bsS,List.getD_cons_zero]
    by_cases ha:a=4
    ·rw[ifP (by simp[ha]),ifP ⟨hn,ha⟩,z2r,bsS]
     try dsimp only
     rw[z7E];rfl
    ·rw[ifN (by simp[ha]),ifN fun h=>ha h.2]
   ·rw[ifN (by simp;omega),ifN fun h=>hn h.1];rfl
  rw[ifN k8,ifN k8];rfl
theorem j6y (g:Gm_){r:Rule}(hl:ROk r){e:Expr}(hs:Sz.szd e≤1048576):q9P g r e=some (typE g r e):=q8S (fuE e) fun m hm=>k2z g hl e m hm hs
theorem k2A {g:Gm_}(h:GOk g){r:Rule}(hl:ROk r)(e:Expr):∀ m,fuE e≤m→q8j m g r e=some (typE g r e):=by
 induction e using z1y with
 | h e ih=>
  intro m hm
  obtain⟨m,rfl⟩:∃ q,m=q+1:=⟨m-1,by have:=z6a e;omega⟩
  show q9w (q8j m) g r e=_
  have hx:∀ x∈e.Args,q8j m g r x=some (typE g r x):=fun x hxe=>ih x hxe m (by have:=z6b hxe;omega)
  unfold q9w
  rw[k0E]
  unfold typK
  by_cases k1:e.Kind=1
  ·rw[ifP k1,ifP k1]
  rw[ifN k1,ifN k1]
  by_cases k2:e.Kind=2
  ·rw[ifP k2,ifP k2,← apply_ite some]
  rw[ifN k2,ifN k2]
  by_cases k3:e.Kind=3
  ·rw[ifP k3,ifP k3,z5l,bsS]
   unfold z0d
   by_cases hp:0≤e.Pos∧e.Pos≤(r.Right.length:Int)
   ·rw[ifP (by simpa using hp),ifP hp,z6J hl,bsS,j6x h];rfl
   ·rw[ifN (by simpa using hp),ifN hp];rfl
  rw[ifN k3,ifN k3]
  by_cases k4:e.Kind=4
  ·rw[ifP k4,ifP k4]
   unfold z9s
   rw[k4p,bsS]
   try dsimp only
   by_cases hn:e.Args.length=2
   ·obtain⟨a,b,hab⟩:∃ a b,e.Args=[a,b]:=by
     match e.Args,hn with
     | [a,b],_=>exact⟨a,b,rfl⟩
    rw[hab] at hx
    rw[hab,ifP (by simp)]
    simp only[List.getElem?_cons_zero,List.getElem?_cons_succ,bsS,List.map_cons,List.map_nil,List.getD_cons_zero,List.getD_cons_succ]
    rw[hx a (by simp),bsS]
    by_cases ha:typE g r a=(opT e.N).1
    ·rw[ifP ha,hx b (by simp),bsS]
     by_cases hb:typE g r b=(opT e.N).2.1
     ·rw[ifP hb,ifP ⟨by simp,ha,hb⟩];rfl
     ·rw[ifN hb,ifN fun h=>hb h.2.2];rfl
    ·rw[ifN ha,ifN fun h=>ha h.2.1];rfl
   ·rw[ifN (by omega),ifN fun h=>hn (by simpa using h.1)];rfl
  rw[ifN k4,ifN k4]
  by_cases k5:e.Kind=5
  ·rw[ifP k5,ifP k5]
   unfold z9t
   by_cases hn:e.Args.length=3
   ·obtain⟨a,b,c,hab⟩:∃ a b c,e.Args=[a,b,c]:=by
     match e.Args,hn with
     | [a,b,c],_=>exact⟨a,b,c,rfl⟩
    rw[hab] at hx
    rw[hab,ifP (by simp)]
    simp only[List.getElem?_cons_zero,List.getElem?_cons_succ,bsS,List.map_cons,List.map_nil,List.getD_cons_zero,List.getD_cons_succ]
    rw[hx a (by simp),bsS]
    by_cases ha:typE g r a=3
    ·rw[ifP ha,hx b (by simp),bsS,hx c (by simp),bsS]
     by_cases hb:typE g r b=typE g r c
     ·rw[ifP hb,ifP ⟨by simp,ha,hb⟩];rfl
     ·rw[ifN hb,ifN fun h=>hb h.2.2];rfl
    ·rw[ifN ha,ifN fun h=>ha h.2.1];rfl
   ·rw[ifN (by omega),ifN fun h=>hn (by simpa using h.1)];rfl
  rw[ifN k5,ifN k5]
  by_cases k6:e.Kind=6
  ·rw[ifP k6,ifP k6,z5l,bsS]
   by_cases hp:0≤e.Pos∧e.Pos≤(r.Right.length:Int)
   ·rw[ifP (by simpa using hp),ifP hp]
   ·rw[ifN (by simpa using hp),ifN hp]
  rw[ifN k6,ifN k6]
  by_cases k7:e.Kind=7
  ·rw[ifP k7,ifP k7]
  rw[ifN k7,ifN k7]
  by_cases k8:e.Kind=8
  ·rw[ifP k8,ifP k8]
   by_cases hn:e.Args.length=1
   ·obtain⟨a,hab⟩:∃ a,e.Args=[a]:=by
     match e.Args,hn with
     | [a],_=>exact⟨a,rfl⟩
    rw[hab] at hx
    rw[hab,ifP (by simp)]
    simp only[List.getElem?_cons_zero,bsS,List.map_cons,List.map_nil,List.getD_cons_zero]
    rw[hx a (by simp),bsS]
    by_cases ha:typE g r a=4
    ·rw[ifP ha,ifP ⟨by simp,ha⟩,j6x h];rfl
    ·rw[ifN ha,ifN fun h=>ha h.2]
   ·rw[ifN (by omega),ifN fun h=>hn (by simpa using h.1)]
  rw[ifN k8,ifN k8]
theorem j6z {g:Gm_}(h:GOk g){r:Rule}(hl:ROk r)(e:Expr):q9x g r e=some (typE g r e):=q8S (fuE e) fun m hm=>k2A h hl e m hm
def conT (g:Gm_)(r:Rule)(q:Cn):Bool:=(decide (typE g r q.Target=4)&&decide (typE g r q.Value=2))&&decide ((z3K (q6J g q.Symbol).1 q.Name).1.Mode=3)
def typR (g:Gm_)(r:Rule):Bool:=(r.Equations.all fun q=>decide (typE g r q.Expr=(z0d g r q.At).1.Type_))&&r.Contributions.all (conT g r)
theorem k2B (g:Gm_){r:Rule}(hr:Sz.szd r≤1048576):z2e g r=some (!typR g r):=by
 have hl:=q7S hr
 unfold z2e typR
 rw[q4L (c:=true) (q:=fun q:Eqn=>decide (typE g r q.Expr=(z0d g r q.At).1.Type_)) fun k x hx=>by
  unfold z8D
  rw[z8m g hl,bsS]
  try dsimp only
  rw[j6y g hl (Nat.le_trans (z6I hx) hr),bsS]
  by_cases hp:typE g r x.Expr=(z0d g r x.At).1.Type_
  ·rw[ifP hp,ifP (by simpa using hp)]
  ·rw[ifN hp,ifN (by simpa using hp)]]
 rw[q4L (c:=true) (q:=conT g r) fun k x hx=>by
  have hs:=z7G hx
  unfold z8E conT
  rw[z2r,bsS]
  try dsimp only
  rw[z7E,bsS]
  try dsimp only
  rw[j6y g hl (Nat.le_trans hs.1 hr),bsS]
  by_cases h1:typE g r x.Target=4
  ·rw[ifP h1,j6y g hl (Nat.le_trans hs.2 hr),bsS,bsS,decide_eq_true h1]
   cases decide (typE g r x.Value=2) with
   | false=>rfl
   | true=>
    rw[Bool.not_true,ifN (by simp),bsS]
    cases decide ((z3K (q6J g x.Symbol).1 x.Name).1.Mode=3)<;>rfl
  ·rw[ifN h1,decide_eq_false h1];rfl]
 cases r.Equations.all fun q=>decide (typE g r q.Expr=(z0d g r q.At).1.Type_) with
 | false=>rfl
 | true=>cases r.Contributions.all (conT g r)<;>rfl
theorem k2C {g:Gm_}(h:GOk g){r:Rule}(hr:Sz.szd r≤1048576)(hp:∀ q∈r.Equations,0≤q.At.Pos∧q.At.Pos≤(r.Right.length:Int)):z3p g r=some (typR g r):=by
 have hl:=q7S hr
 unfold z3p typR
 rw[q4L (c:=false) (q:=fun q:Eqn=>decide (typE g r q.Expr=(z0d g r q.At).1.Type_)) fun k x hx=>by
  unfold j0c
  rw[j6z h hl,bsS,z6J hl,bsS,j6x h,bsS]
  have e:(z3K (q6J g (q8z r x.At.Pos)).1 x.At.Name).1.Type_=(z0d g r x.At).1.Type_:=by unfold z0d;rw[ifP (hp x hx)]
  rw[e]
  by_cases hp:typE g r x.Expr=(z0d g r x.At).1.Type_
  ·rw[ifP hp,ifP (by simpa using hp)]
  ·rw[ifN hp,ifN (by simpa using hp)]]
 rw[q4L (c:=false) (q:=conT g r) fun k x hx=>by
  unfold j0d conT
  rw[z3L h,bsS]
  try dsimp only
  rw[j0N,bsS]
  try dsimp only
  have e:(if (z3K (q6J g x.Symbol).1 x.Name).2=true then some (!decide ((z3K (q6J g x.Symbol).1 x.Name).1.Mode=3)) else some true)=some (!decide ((z3K (q6J g x.Symbol).1 x.Name).1.Mode=3)):=by
   by_cases hb:(z3K (q6J g x.Symbol).1 x.Name).2=true
   ·rw[ifP hb]
   ·rw[ifN hb,j4X hb];rfl
  rw[e,bsS]
  cases decide ((z3K (q6J g x.Symbol).1 x.Name).1.Mode=3) with
  | false=>rw[Bool.and_false];rfl
  | true=>
   rw[Bool.not_true,ifN (by simp),j6z h hl,bsS,bsS]
   cases decide (typE g r x.Target=4) with
   | false=>rfl
   | true=>
    rw[Bool.not_true,ifN (by simp),j6z h hl,bsS,bsS]
    cases decide (typE g r x.Value=2)<;>rfl]
 cases r.Equations.all fun q=>decide (typE g r q.Expr=(z0d g r q.At).1.Type_) with
 | false=>rfl
 | true=>cases r.Contributions.all (conT g r)<;>rfl
def atS (g:Gm_)(n:ByteArray):Option Nat:=g.Symbols.findIdx? fun y=>decide (y.Name=n)
def atI (g:Gm_)(n:ByteArray):Int:=match atS g n with
 | some j=>(j:Int)
 | none=>-1
theorem z2t {α ρ:Type}{q:α→Bool}{c:Nat→ρ}:∀ {xs:List α} {i:Nat} {f:Nat→α→Unit→Option (Unit ⊕ ρ)},(∀ j x,xs[j]?=some x→f (i+j) x ()=some (if q x=true then .inr (c (i+j)) else .inl ())) →
  findL f i xs ()=some (match xs.findIdx? q with|some j=>.inr (c (i+j))|none=>.inl ())
 | [],_,_,_=>rfl
 | x::xs,i,f,h=>by
  rw[findL,show f i x ()=_ from h 0 x rfl,bsS,List.findIdx?_cons]
  by_cases hq:q x=true
  ·rw[ifP hq,ifP hq]
  ·rw[ifN hq,ifN hq]
   have ih:=z2t (q:=q) (c:=c) (xs:=xs) (i:=i+1) (f:=f) fun j y hy=>by
    have:=h (j+1) y (by simpa using hy)
    rw[show i+1+j=i+(j+1) by omega];exact this
   dsimp only
   rw[ih]
   cases xs.findIdx? q with
   | none=>rfl
   | some j=>simp only[Option.map_some];rw[show i+1+j=i+(j+1) by omega]
theorem k0F (g:Gm_)(n:ByteArray):z1s g n=some (atI g n):=by
 unfold z1s atI atS
 rw[z2t (q:=fun y:Symbol=>decide (y.Name=n)) (c:=fun k=>(k:Int)) fun j x hx=>by
  unfold j4q
  by_cases hn:x.Name=n
  ·rw[ifP hn,ifP (by simpa using hn)]
  ·rw[ifN hn,ifN (by simpa using hn)]]
 cases g.Symbols.findIdx? fun y=>decide (y.Name=n) with
 | none=>rfl
 | some j=>dsimp only;rw[Nat.zero_add];rfl
theorem k5t {g:Gm_}{n:ByteArray}{j:Nat}(h:atS g n=some j):j<g.Symbols.length:=by
 unfold atS at h
 rw[List.findIdx?_eq_some_iff_getElem] at h
 exact h.1
def okAt (g:Gm_)(hs:List Int)(n:ByteArray):Bool:=match atS g n with
 | some j=>decide (0<hs.getD j 0)
 | none=>false
def j2e (g:Gm_)(hs:List Int)(n:ByteArray):Bool:=g.Rules.any fun r=>decide (r.Left=n)&&r.Right.all (okAt g hs)
theorem j0X {α:Type}{q:α→Bool}{f:Nat→α→Bool→Option Bool}:∀ (xs:List α) (i:Nat) (b:Bool),(∀ k x s,x∈xs→f k x s=some (s&&q x))→eachL f i xs b=some (b&&xs.all q)
 | [],_,b,_=>by simp[eachL]
 | x::xs,i,b,h=>by
  rw[eachL,h i x b (by simp),bsS,j0X xs (i+1) _ fun k y s hy=>h k y s (by simp[hy]),List.all_cons,Bool.and_assoc]
theorem getD_some {hs:List Int}{j:Nat}(h:j<hs.length):hs[j]?=some (hs.getD j 0):=by
 rw[List.getD_eq_getElem?_getD,List.getElem?_eq_getElem h];rfl
theorem k5u {g:Gm_}{hs:List Int}(hl:hs.length=g.Symbols.length)(n:ByteArray):z0W n g hs=some (match atS g n with|some j=>hs.getD j 0|none=>0):=by
 unfold z0W atS
 rw[z2t (q:=fun y:Symbol=>decide (y.Name=n)) (c:=fun k=>hs.getD k 0) fun j x hx=>by
  unfold z7q
  have hj:j<g.Symbols.length:=(List.getElem?_eq_some_iff.1 hx).1
  by_cases hn:x.Name=n
  ·rw[ifP hn,ifP (by simpa using hn),Nat.zero_add,getD_some (by omega)];rfl
  ·rw[ifN hn,ifN (by simpa using hn)]]
 cases g.Symbols.findIdx? fun y=>decide (y.Name=n) with
 | none=>rfl
 | some j=>dsimp only;rw[Nat.zero_add];rfl
theorem j8M {g:Gm_}{hs:List Int}(hl:hs.length=g.Symbols.length)(xs:List ByteArray)(b:Bool):eachL (z6n g hs) 0 xs b=some (b&&xs.all (okAt g hs)):=
 j0X xs 0 b fun k x s _=>by
  unfold z6n okAt
  cases s with
  | false=>rfl
  | true=>
   rw[ifP rfl,k5u hl,bsS,bsS,Bool.true_and]
   cases atS g x<;>rfl
theorem j8N {g:Gm_}{hs:List Int}(hl:hs.length=g.Symbols.length)(xs:List ByteArray)(b:Bool):eachL (z2U g hs) 0 xs b=some (b&&xs.all (okAt g hs)):=
 j0X xs 0 b fun k x s _=>by
  unfold z2U okAt
  rw[k0F,bsS]
  unfold atI
  cases s with
  | false=>rfl
  | true=>
   cases hj:atS g x with
   | none=>rfl
   | some j=>
    have:=k5t hj
    dsimp only
    rw[ifP rfl,bsS,decide_eq_true (Int.natCast_nonneg j),ifP rfl]
    unfold q9r
    by_cases h0:(0:Int)<(j:Int)
    ·rw[ifP h0,bsS,q3y (Int.natCast_nonneg j),tnC,getD_some (by omega)];rfl
    ·obtain rfl:j=0:=by omega
     rw[ifN h0,bsS,q3y (by omega),show (0:Int).toNat=0 from rfl,getD_some (by omega)];rfl
theorem k0G {g:Gm_}{hs:List Int}(hl:hs.length=g.Symbols.length)(n:ByteArray):q9y g n hs=some (j2e g hs n):=by
 unfold q9y j2e
 rw[q4L (c:=true) (q:=fun r:Rule=>!(decide (r.Left=n)&&r.Right.all (okAt g hs))) fun k x hx=>by
  unfold z5X
  rw[j8N hl,bsS]
  cases (decide (x.Left=n)&&x.Right.all (okAt g hs))<;>rfl]
 have e:(g.Rules.all fun r=>!(decide (r.Left=n)&&r.Right.all (okAt g hs)))=!(g.Rules.any fun r=>decide (r.Left=n)&&r.Right.all (okAt g hs)):=by rw[List.not_any_eq_all_not]
 rw[e]
 cases g.Rules.any fun r=>decide (r.Left=n)&&r.Right.all (okAt g hs)<;>rfl
def HsOk (g:Gm_)(hs:List Int):Prop:=hs.length=g.Symbols.length∧∀ j,0≤hs.getD j 0
theorem HsOk.set {g:Gm_}{hs:List Int}(h:HsOk g hs){k:Nat}{v:Int}(hv:0≤v):HsOk g (hs.set k v):=by
 refine⟨by simpa using h.1,fun j=>?_⟩
 rw[List.getD_eq_getElem?_getD,List.getElem?_set]
 split
 ·split
  ·exact hv
  ·simp
 ·rw[← List.getD_eq_getElem?_getD];exact h.2 j
theorem k0H {g:Gm_}{hs:List Int}(hl:hs.length=g.Symbols.length){v:Int}(k:Nat)(x:Symbol)(hk:k<g.Symbols.length):∀ (rs:List Rule) (i:Nat) (s:List Int),s.length=g.Symbols.length →
  eachL (z3Z g v hs k x) i rs s=some (if (rs.any fun r=>decide (r.Left=x.Name)&&r.Right.all (okAt g hs))=true then s.set k v else s)
 | [],i,s,_=>by simp[eachL]
 | r::rs,i,s,hs'=>by
  have e:z3Z g v hs k x i r s=some (if (decide (r.Left=x.Name)&&r.Right.all (okAt g hs))=true then s.set k v else s):=by
   unfold z3Z
   rw[j8M hl,bsS]
   cases (decide (r.Left=x.Name)&&r.Right.all (okAt g hs)) with
   | false=>rfl
   | true=>rw[ifP rfl,ifP rfl,List.getElem?_eq_getElem (by omega)];rfl
  rw[eachL,e,bsS]
  by_cases hb:(decide (r.Left=x.Name)&&r.Right.all (okAt g hs))=true
  ·rw[ifP hb,k0H hl k x hk rs (i+1) (s.set k v) (by simpa using hs')]
   have:(r::rs).any (fun r=>decide (r.Left=x.Name)&&r.Right.all (okAt g hs))=true:=by rw[List.any_cons,hb];rfl
   rw[ifP this,List.set_set,ite_self]
  ·rw[ifN hb,k0H hl k x hk rs (i+1) s hs']
   have:(r::rs).any (fun r=>decide (r.Left=x.Name)&&r.Right.all (okAt g hs))=rs.any (fun r=>decide (r.Left=x.Name)&&r.Right.all (okAt g hs)):=by rw[List.any_cons,Bool.eq_false_iff.2 hb];rfl
   rw[this]
theorem k5Q {g:Gm_}{hs:List Int}(h:HsOk g hs){v:Int}{k:Nat}{x:Symbol}(hk:k<g.Symbols.length){s:List Int}(hs' : s.length=g.Symbols.length) :
  z4a g v hs k x s=some (if (decide (hs.getD k 0=0)&&j2e g hs x.Name)=true then s.set k v else s):=by
 have h0:=h.2 k
 unfold z4a
 rw[getD_some (by rw[h.1];exact hk),bsS]
 by_cases hz:hs.getD k 0=0
 ·rw[ifN (by omega),decide_eq_true hz,k0H h.1 k x hk _ _ _ hs'];rfl
 ·rw[ifP (by omega),decide_eq_false hz];rfl
theorem k5R {g:Gm_}{hs:List Int}(h:HsOk g hs){v:Int}{k:Nat}{x:Symbol}(hk:k<g.Symbols.length){s:List Int}(hs' : s.length=g.Symbols.length) :
  z0F g hs v k x s=some (if (decide (hs.getD k 0=0)&&j2e g hs x.Name)=true then s.set k v else s):=by
 unfold z0F
 rw[getD_some (by rw[h.1];exact hk),bsS]
 by_cases hz:hs.getD k 0=0
 ·rw[ifP hz,decide_eq_true hz,k0G h.1,bsS,Bool.true_and]
  cases j2e g hs x.Name with
  | false=>rfl
  | true=>rw[ifP rfl,ifP rfl,List.getElem?_eq_getElem (by omega)];rfl
 ·rw[ifN hz,decide_eq_false hz];rfl
theorem j2f {g:Gm_}{hs:List Int}(h:HsOk g hs){v:Int}(hv:0≤v):∀ (xs:List Symbol) (i:Nat) (s:List Int),i+xs.length=g.Symbols.length→HsOk g s →
  ∃ t,eachL (z4a g v hs) i xs s=some t∧eachL (z0F g hs v) i xs s=some t∧HsOk g t
 | [],i,s,_,hs'=>⟨s,rfl,rfl,hs'⟩
 | x::xs,i,s,hi,hs'=>by
  simp only[lnC] at hi
  have e1:=k5Q (x:=x) h (v:=v) (k:=i) (by omega) hs'.1
  have e2:=k5R (x:=x) h (v:=v) (k:=i) (by omega) hs'.1
  have hn:HsOk g (if (decide (hs.getD i 0=0)&&j2e g hs x.Name)=true then s.set i v else s):=by
   split
   ·exact hs'.set hv
   ·exact hs'
  obtain⟨t,h1,h2,h3⟩:=j2f h hv xs (i+1) _ (by omega) hn
  exact⟨t,by rw[eachL,e1,bsS,h1],by rw[eachL,e2,bsS,h2],h3⟩
theorem z8J {g:Gm_}(hn:g.Symbols.length≤1048576):∃ l,z1H g=some l∧q9z g=some l∧HsOk g l:=by
 have key:∀ (m k:Nat) (hs:List Int),k+m=g.Symbols.length+1→1≤k→HsOk g hs→∃ t,q5u (z0k g) ((k:Int),hs)=some t∧q5u (q7z g) (hs,(k:Int))=some t∧HsOk g t:=by
  intro m
  induction m with
  | zero=>
   intro k hs hk _ h
   refine⟨hs,q3G ?_,q3G ?_,h⟩
   ·unfold z0k;dsimp only;rw[ifN (by omega)]
   ·unfold q7z;dsimp only;rw[ifN (by omega)]
  | succ m ih=>
   intro k hs hk h1 h
   have hl:=h.1
   obtain⟨t,e1,e2,e3⟩:=j2f h (v:=(k:Int)) (by omega) g.Symbols 0 hs (by omega) h
   obtain⟨q,f1,f2,f3⟩:=ih (k+1) t (by omega) (by omega) e3
   refine⟨q,?_,?_,f3⟩
   ·have e:z0k g ((k:Int),hs)=some (.inl (((k+1:Nat):Int),t)):=by
     unfold z0k;dsimp only
     rw[ifP (by omega),q3y (by refine⟨?_,?_,?_⟩<;>omega),q3y (by simp),e1,bsS,q3y (by constructor<;>omega)];rfl
    rw[q4I e];exact f1
   ·have e:q7z g (hs,(k:Int))=some (.inl (t,((k+1:Nat):Int))):=by
     unfold q7z;dsimp only
     rw[ifP (by omega),q3y (by simp only[List.length_nil];constructor<;>omega),e2,bsS,q3y (by constructor<;>omega)];rfl
    rw[q4I e];exact f2
 have h0:HsOk g (List.replicate g.Symbols.length (0:Int)):=⟨by simp,fun j=>by rw[List.getD_eq_getElem?_getD,List.getElem?_replicate];split<;>simp⟩
 obtain⟨t,f1,f2,f3⟩:=key g.Symbols.length 1 (List.replicate g.Symbols.length 0) (by omega) (by omega) h0
 refine⟨t,?_,?_,f3⟩
 ·unfold z1H
  rw[q3y (by refine⟨?_,?_,?_⟩<;>omega),show q5u (z0k g) (1,List.replicate g.Symbols.length 0)=some t from f1];rfl
 ·unfold q9z
  rw[q3y (by refine⟨?_,?_,?_⟩<;>omega),show q5u (q7z g) (List.replicate g.Symbols.length 0,1)=some t from f2];rfl
theorem Shape.names {g:Gm_}(h:Shape g){k j:Nat}{x y:Symbol}(hk:g.Symbols[k]?=some x)(hj:g.Symbols[j]?=some y)(hn:x.Name=y.Name):k=j:=by
 have key:∀ {k j:Nat} {x y:Symbol},g.Symbols[k]?=some x→g.Symbols[j]?=some y→x.Name=y.Name→¬ k<j:=by
  intro k j x y hk hj hn hlt
  have:=z5O _ _ h.sym j y hj
  unfold z3N at this
  rw[Bool.or_eq_false_iff] at this
  have h2:=this.2
  unfold dupB at h2
  rw[List.nil_append,List.any_eq_false] at h2
  exact h2 x (List.mem_of_getElem? (i:=k) (by rw[List.getElem?_take,ifP hlt];exact hk)) (by simpa using hn)
 have h1:=key hk hj hn
 have h2:=key hj hk hn.symm
 omega
theorem Shape.at_ {g:Gm_}(h:Shape g){k:Nat}{x:Symbol}(hk:g.Symbols[k]?=some x):atS g x.Name=some k:=by
 unfold atS
 cases he:g.Symbols.findIdx? fun y=>decide (y.Name=x.Name) with
 | none=>
  rw[List.findIdx?_eq_none_iff] at he
  have:=he x (List.mem_of_getElem? hk)
  simp at this
 | some j=>
  rw[List.findIdx?_eq_some_iff_getElem] at he
  obtain⟨hj,h1,_⟩:=he
  rw[h.names (List.getElem?_eq_getElem hj) hk (by simpa using h1)]
noncomputable def hgtL (g:Gm_):List Int:=(z1H g).getD []
noncomputable def j8O (g:Gm_):Int×Int:=
 if (z5u g).1=0 then
  match g.Rules.findIdx? fun r=>!typR g r with
  | some k=>(7,(k:Int))
  | none=>match (hgtL g).findIdx? fun x=>decide (x=0) with
   | some k=>(8,(k:Int))
   | none=>(0,0)
 else z5u g
theorem k2D {g:Gm_}(h:Sz.szd g≤1048576):q8d g=some (j8O g):=by
 unfold q8d j8O
 rw[k0C h,bsS]
 dsimp only
 by_cases h0:(z5u g).1=0
 ·rw[ifP h0,ifP h0]
  rw[z5t (q:=fun r=>!typR g r) (c:=fun k=>((7:Int),(k:Int))) fun k r hr=>by
   unfold z4q
   rw[k2B g (Nat.le_trans (z3d hr) h),bsS,← apply_ite some]]
  cases g.Rules.findIdx? fun r=>!typR g r with
  | some k=>dsimp only;rw[Nat.zero_add];rfl
  | none=>
   obtain⟨l,e1,e2,e3⟩:=z8J (g:=g) (j6t h).1
   rw[bsS,z1N,e1,bsS]
   unfold hgtL
   rw[e1,Option.getD_some]
   rw[z5t (q:=fun x:Int=>decide (x=0)) (c:=fun k=>((8:Int),(k:Int))) fun k x hx=>by
    unfold z4r
    by_cases hz:x=0
    ·rw[ifP hz,ifP (by simpa using hz)]
    ·rw[ifN hz,ifN (by simpa using hz)]]
   dsimp only
   cases l.findIdx? fun x=>decide (x=0) with
   | some k=>dsimp only;rw[Nat.zero_add];rfl
   | none=>rfl
 ·rw[ifN h0,ifN h0]
theorem k2E {g:Gm_}(h:Sz.szd g≤1048576):q8b g=some (j8O g):=by
 unfold q8b j8O
 rw[k0D h,bsS]
 dsimp only
 by_cases h0:(z5u g).1=0
 ·have hS:=j7u h0
  rw[ifP h0,ifP h0]
  rw[z5t (q:=fun r=>!typR g r) (c:=fun k=>((7:Int),(k:Int))) fun k r hr=>by
   unfold z4p
   rw[k2C (z3c h) (Nat.le_trans (z3d hr) h) fun q hq=>hS.pos hr hq,bsS]
   cases typR g r<;>rfl]
  cases g.Rules.findIdx? fun r=>!typR g r with
  | some k=>dsimp only;rw[Nat.zero_add];rfl
  | none=>
   obtain⟨l,e1,e2,e3⟩:=z8J (g:=g) (j6t h).1
   rw[bsS,z1N]
   unfold hgtL
   rw[e1,Option.getD_some]
   have hprod:∀ k x,g.Symbols[k]?=some x→q8a g x.Name=some (!decide (l.getD k 0=0)):=by
    intro k x hk
    have hk' : k<g.Symbols.length:=(List.getElem?_eq_some_iff.1 hk).1
    have ha:atI g x.Name=(k:Int):=by unfold atI;rw[hS.at_ hk]
    unfold q8a z2F
    rw[k0F,ha,bsS,ifN (by omega),e2,bsS,q3y (by omega),tnC,getD_some (by rw[e3.1];exact hk'),bsS,bsS]
    have:=e3.2 k
    congr 1
    by_cases hz:l.getD k 0=0
    ·rw[decide_eq_true hz,decide_eq_false (by omega)];rfl
    ·rw[decide_eq_false hz,decide_eq_true (by omega)];rfl
   have hrun:∀ (xs:List Symbol) (ys:List Int) (i:Nat),(∀ j x,xs[j]?=some x→g.Symbols[i+j]?=some x)→ys.length=xs.length→(∀ j y,ys[j]?=some y→l.getD (i+j) 0=y) →
     findL (q8N g) i xs ()=some (match ys.findIdx? fun x=>decide (x=0) with|some j=>.inr (8,((i+j:Nat):Int))|none=>.inl ()):=by
    intro xs
    induction xs with
    | nil=>
     intro ys i _ hl _
     obtain rfl:=List.eq_nil_of_length_eq_zero hl
     rfl
    | cons x xs ih=>
     intro ys i hx hl hy
     cases ys with
     | nil=>simp at hl
     | cons y ys=>
      have h1:=hprod i x (by simpa using hx 0 x rfl)
      have h2:l.getD i 0=y:=by simpa using hy 0 y rfl
      have ih:=ih ys (i+1) (fun j z hz=>by rw[show i+1+j=i+(j+1) by omega];exact hx (j+1) z (by simpa using hz)) (by simpa using hl) fun j z hz=>by
       rw[show i+1+j=i+(j+1) by omega];exact hy (j+1) z (by simpa using hz)
      rw[h2] at h1
      have e:q8N g i x ()=some (if y=0 then .inr (8,(i:Int)) else .inl ()):=by
       unfold q8N
       rw[h1,bsS]
       by_cases hz:y=0
       ·rw[decide_eq_true hz,ifP hz];rfl
       ·rw[decide_eq_false hz,ifN hz];rfl
      rw[findL,e,bsS,List.findIdx?_cons]
      by_cases hz:y=0
      ·rw[ifP hz,ifP (by simpa using hz)];rfl
      ·rw[ifN hz,ifN (by simpa using hz)]
       dsimp only
       rw[ih]
       cases ys.findIdx? fun x=>decide (x=0) with
       | none=>rfl
       | some j=>simp only[Option.map_some];rw[show i+1+j=i+(j+1) by omega]
   rw[hrun g.Symbols l 0 (fun j x hx=>by rw[Nat.zero_add];exact hx) e3.1 fun j y hy=>by rw[Nat.zero_add,List.getD_eq_getElem?_getD,hy];rfl]
   dsimp only
   cases l.findIdx? fun x=>decide (x=0) with
   | some k=>dsimp only;rw[Nat.zero_add];rfl
   | none=>rfl
 ·rw[ifN h0,ifN h0]
noncomputable def k0I (g:Gm_):Bool:=decide ((j8O g).1=0)
theorem k2F {g:Gm_}(h:Sz.szd g≤1048576):z2f g=some (k0I g):=by
 unfold z2f;rw[k2D h];rfl
theorem k2G {g:Gm_}(h:Sz.szd g≤1048576):z3q g=some (k0I g):=by
 unfold z3q;rw[k2E h];rfl
theorem j8P {g:Gm_}(h:k0I g=true):Shape g:=by
 refine j7u ?_
 unfold k0I at h
 rw[decide_eq_true_eq] at h
 unfold j8O at h
 by_cases h0:(z5u g).1=0
 ·exact h0
 ·rw[ifN h0] at h;exact h
theorem k5v {n:Nat}{x y:Int}(hx:0≤x∧x≤((2 ^ n:Nat):Int)-1)(hy:0≤y∧y≤((2 ^ n:Nat):Int)-1):0≤orI x y∧orI x y≤((2 ^ n:Nat):Int)-1:=by
 have:=Nat.or_lt_two_pow (n:=n) (x:=x.toNat) (y:=y.toNat) (by omega) (by omega)
 unfold orI;omega
def sumR (a:Rl_):Nat:=(a.Rows.map Int.toNat).sum
theorem k0J {a:Rl_}(ha:Valid a):sumR a≤16*65535:=by
 have key:∀ l:List Int,(∀ x∈l,x.toNat≤65535)→(l.map Int.toNat).sum≤l.length*65535:=by
  intro l
  induction l with
  | nil=>intro _;simp
  | cons x l ih=>
   intro h
   have h1:=h x (by simp)
   have h2:=ih fun y hy=>h y (by simp[hy])
   simp only[List.map_cons,List.sum_cons,lnC]
   omega
 have h1:=key a.Rows fun x hx=>by
  have:=ha.2.2.2 x hx
  have:=k5O ha.2.1
  omega
 have hl:a.Rows.length≤16:=by have:=ha.2.2.1;have:=ha.2.1;omega
 exact Nat.le_trans h1 (Nat.mul_le_mul_right 65535 hl)
theorem k0K {b:List Int}{f:Nat→Int→Unit→Option (Unit ⊕ Bool)}(hf:∀ k x,f k x ()=(b[k]?).bind fun x2=>if x=x2 then some (.inl ()) else some (.inr false)) :
  ∀ (xs ys:List Int) (i:Nat),xs.length=ys.length→(∀ j,b[i+j]?=ys[j]?)→findL f i xs ()=some (if xs=ys then .inl () else .inr false)
 | [],ys,i,hl,_=>by obtain rfl:=List.eq_nil_of_length_eq_zero hl.symm;rfl
 | x::xs,[],i,hl,_=>by simp at hl
 | x::xs,y::ys,i,hl,hb=>by
  have h0:b[i]?=some y:=by simpa using hb 0
  rw[findL,hf,h0,bsS]
  by_cases hx:x=y
  ·rw[ifP hx,bsS]
   dsimp only
   rw[k0K hf xs ys (i+1) (by simpa using hl) fun j=>by have:=hb (j+1);rw[show i+1+j=i+(j+1) by omega];simpa using this]
   subst hx
   by_cases he:xs=ys
   ·rw[ifP he,ifP (by rw[he])]
   ·rw[ifN he,ifN (by intro hh;injection hh with _ h2;exact he h2)]
  ·rw[ifN hx,bsS]
   dsimp only
   rw[ifN (by intro hh;injection hh with h2 _;exact hx h2)]
theorem k0L (a b:Rl_):q7u a b=some (decide (a=b)):=by
 obtain⟨n,xs⟩:=a
 obtain⟨m,ys⟩:=b
 unfold q7u z7m
 dsimp only
 by_cases hn:n=m
 ·rw[ifP hn]
  by_cases hl:xs.length=ys.length
  ·rw[ifP (by omega),k0K (b:=ys) (fun k x=>rfl) xs ys 0 hl fun j=>by rw[Nat.zero_add]]
   by_cases he:xs=ys
   ·rw[ifP he,decide_eq_true (by rw[hn,he])];rfl
   ·rw[ifN he,decide_eq_false (by intro hh;injection hh with _ h2;exact he h2)];rfl
  ·rw[ifN (by omega),decide_eq_false (by intro hh;injection hh with _ h2;exact hl (by rw[h2]))];rfl
 ·rw[ifN hn,decide_eq_false (by intro hh;injection hh with h1 _;exact hn h1)]
theorem k4y (a b:Rl_):q8P a b=some (decide (a=b)):=by
 rw[← k0L];rfl
noncomputable def j6A (r:Rl_):Bool:=decide (∃ k:Nat,k<r.Rows.length∧hasP (q7y r) (k:Int) (k:Int))
theorem k2H {r:Rl_}(h:r.Rows.length≤1048576):z1J r=some (j6A r):=j6p h
theorem k2I {r:Rl_}(h:r.Rows.length≤1048576):z3s r=some (j6A r):=by
 unfold z3s j6A
 rw[q8f,bsS]
 by_cases hv:Valid r
 ·rw[decide_eq_true hv,ifP rfl,j4O h,bsS]
  have hN:r.N.toNat=r.Rows.length:=by have:=hv.2.2.1;omega
  rw[hN,j0T (c:=true) (n:=r.Rows.length) (q:=fun k=>!decide (hasP (q7y r) (k:Int) (k:Int))) (fun k hk=>by
   unfold j0e
   rw[z0w,bsS]
   by_cases hp:hasP (q7y r) (k:Int) (k:Int)
   ·rw[decide_eq_true hp];rfl
   ·rw[decide_eq_false hp];rfl) r.Rows.length 0 (by omega)]
  by_cases he:∃ k:Nat,k<r.Rows.length∧hasP (q7y r) (k:Int) (k:Int)
  ·rw[decide_eq_true he,ifN];· rfl
   obtain⟨k,hk,hp⟩:=he
   rw[List.all_eq_true]
   intro hh
   have:=hh k (by simp;omega)
   simp[hp] at this
  ·rw[decide_eq_false he,ifP];· rfl
   rw[List.all_eq_true]
   intro k hk
   simp at hk
   have:¬ hasP (q7y r) (k:Int) (k:Int):=fun hp=>he ⟨k,hk,hp⟩
   simp[this]
 ·rw[decide_eq_false hv,ifN (by simp),decide_eq_false]
  rintro⟨k,hk,hp⟩
  have:q7y r=r:=by unfold q7y;rw[ifN hv]
  rw[this] at hp
  exact hv hp.1
def q6N (g:Gm_)(s:ByteArray):List At_:=(q6J g s).1.Attributes.filter z8i
theorem z8q {g:Gm_}(h:GOk g)(s:ByteArray):(q6N g s).length≤1048576:=Nat.le_trans (List.length_filter_le _ _) (z2s h s)
theorem j4Y {l:List At_}(h:l.length≤1048576):eachL q5l 0 l []=some (l.filter z8i):=by
 have:=z3J (p:=z8i) (g:=fun x:At_=>x) (B:=1048577) (f:=q5l) (fun k x s hs=>by
  have hg:((s.length:Int)+1)*40≤140737488355328∧(s.length:Int)+1≤9223372036854775807:=by constructor<;>omega
  unfold q5l z8i
  rw[q3y hg]
  by_cases m1:x.Mode=1
  ·rw[ifP m1,ifP (by simp[m1])];rfl
  ·rw[ifN m1]
   by_cases m2:x.Mode=2
   ·rw[ifP m2,ifP (by simp[m2])];rfl
   ·rw[ifN m2,ifN (by simp[m1,m2])];rfl) l 0 [] (by simp;omega)
 rw[this];simp
theorem j4Z {g:Gm_}(h:GOk g)(s:ByteArray):q4Y g s=some (q6N g s):=by
 unfold q4Y q6N
 rw[z3L h,bsS]
 try dsimp only
 rw[j4Y (z2s h s)];rfl
theorem j5a {g:Gm_}(h:GOk g)(s:ByteArray):q4r g s=some (q6N g s):=by
 unfold q4r q6N
 rw[z2r,bsS]
 try dsimp only
 rw[j1U,j4Y (z2s h s)];rfl
def occK (g:Gm_)(r:Rule)(k:Nat):List Oc:=(q6N g (q8z r (k:Int))).map fun x=>(⟨(k:Int),x.Name⟩:Oc)
def occL (g:Gm_)(r:Rule):List Oc:=(List.range' 0 (r.Right.length+1)).flatMap (occK g r)
theorem j7w {g:Gm_}(h:GOk g)(r:Rule)(k:Nat):(occK g r k).length≤1048576:=by unfold occK;rw[lnM];exact z8q h _
theorem j6B {g:Gm_}(h:GOk g){r:Rule}(hl:ROk r):q4D g r=some (occL g r):=by
 have hl' : r.Right.length≤1048576:=hl
 have key:=z8l (h:=occK g r) (C:=1048576) (n:=r.Right.length+1) (f:=q4c g r) (fun k s hk hs=>by
  unfold q4c
  rw[j0O hl,bsS,j5a h,bsS,z5m k _ 0 s (by have:=z8q h (q8z r (k:Int));omega)];rfl)
  (fun k _=>j7w h r k) (r.Right.length+1) 0 [] (by omega) (by simp)
 unfold q4D
 rw[q3y (by constructor<;>omega),key];rfl
theorem k0M {g:Gm_}(h:GOk g){r:Rule}(hl:ROk r):q5f g r=some (occL g r):=by
 have hl' : r.Right.length≤1048576:=hl
 have key:=j0M (h:=occK g r) (C:=1048576) (n:=r.Right.length+1) (f:=q4J g r) (fun k s hk hs=>by
  unfold q4J
  dsimp only
  rw[ifP (by omega),z6J hl,bsS,j4Z h,bsS,j7i,z5m k _ 0 s (by have:=z8q h (q8z r (k:Int));omega),bsS,q3y (by constructor<;>omega)];rfl) (fun s=>by
  unfold q4J;dsimp only;rw[ifN (by omega)]) (fun k _=>j7w h r k) (r.Right.length+1) 0 [] (by omega) (by simp)
 unfold q5f
 have e:q5u (q4J g r) (([]:List Oc),0)=some ([]++(List.range' 0 (r.Right.length+1)).flatMap (occK g r)):=key
 rw[e];rfl
theorem j7x {g:Gm_}(h:GOk g){r:Rule}(hl:ROk r):(occL g r).length≤1099512676352:=by
 obtain⟨l,_,h2,h3⟩:=z9u h hl
 rw[j6B h hl] at h2
 cases h2;exact h3
def posL (g:Gm_)(r:Rule)(k:Int):List Int:=(((occL g r).zipIdx 0).filter fun q=>decide (q.1.Pos=k)).map fun q=>(q.2:Int)
theorem j7y (k:Int){l:List Oc}(h:l.length≤1099512676352):eachL (q5m k) 0 l []=some (((l.zipIdx 0).filter fun q=>decide (q.1.Pos=k)).map fun q=>(q.2:Int)):=by
 have:=j0L (p:=fun x:Oc=>decide (x.Pos=k)) (g:=fun i:Nat=>(i:Int)) (B:=4398046511104) (f:=q5m k) (fun i x s hs=>by
  have hg:((s.length:Int)+1)*8≤140737488355328∧(s.length:Int)+1≤9223372036854775807:=by constructor<;>omega
  unfold q5m
  rw[q3y hg]
  by_cases m1:x.Pos=k
  ·rw[ifP m1,ifP (by simp[m1])];rfl
  ·rw[ifN m1,ifN (by simp[m1])];rfl) l 0 [] (by simp;omega)
 rw[this];simp
theorem k4z {g:Gm_}(h:GOk g){r:Rule}(hl:ROk r)(k:Int):q5y g r k=some (posL g r k):=by
 unfold q5y posL
 rw[k0M h hl,bsS,j7y k (j7x h hl)];rfl
theorem k4A {g:Gm_}(h:GOk g){r:Rule}(hl:ROk r)(k:Int):q4z g r k=some (posL g r k):=by
 unfold q4z posL
 rw[j6B h hl,bsS,z5Z,j7y k (j7x h hl)];rfl
theorem j5b {α:Type}(p:α→Bool):∀ (l:List α) (i:Nat),((l.zipIdx i).filter fun q=>p q.1).length=l.countP p
 | [],i=>rfl
 | x::l,i=>by
  rw[List.zipIdx_cons,List.filter_cons,List.countP_cons]
  have ih:=j5b p l (i+1)
  by_cases hp:p x=true
  ·rw[ifP hp,ifP hp,lnC,ih]
  ·rw[ifN hp,ifN hp,ih];rfl
theorem k4B (g:Gm_){r:Rule}{k:Nat}(hk:k≤r.Right.length):(posL g r (k:Int)).length=(q6N g (q8z r (k:Int))).length:=by
 unfold posL
 rw[lnM,j5b (fun x:Oc=>decide (x.Pos=(k:Int)))]
 unfold occL
 rw[List.countP_flatMap]
 have hK:∀ j:Nat,(occK g r j).countP (fun x=>decide (x.Pos=(k:Int)))=if j=k then (q6N g (q8z r (k:Int))).length else 0:=by
  intro j
  unfold occK
  rw[List.countP_map]
  by_cases hj:j=k
  ·subst hj
   rw[ifP rfl,List.countP_eq_length.2 (by simp)]
  ·rw[ifN hj,List.countP_eq_zero.2]
   intro a _
   simp;omega
 have hsum:∀ m i,((List.range' i m).map (List.countP (fun x:Oc=>decide (x.Pos=(k:Int))) ∘ occK g r)).sum=if i≤k∧k<i+m then (q6N g (q8z r (k:Int))).length else 0:=by
  intro m
  induction m with
  | zero=>intro i;rw[ifN (by omega)];rfl
  | succ m ih=>
   intro i
   rw[List.range'_succ,List.map_cons,List.sum_cons,ih (i+1),Function.comp,hK i]
   by_cases h1:i=k
   ·rw[ifP h1,ifN (by omega),ifP (by omega)];rfl
   ·rw[ifN h1,Nat.zero_add]
    by_cases h2:i+1≤k∧k<i+1+m
    ·rw[ifP h2,ifP (by omega)]
    ·rw[ifN h2,ifN (by omega)]
 rw[hsum,ifP (by omega)]
noncomputable def z1m (own:Rl_) (a:Nat) (x:Int):Nat→List Int→Rl_→Rl_
 | _,[],o=>o
 | i,y::ys,o=>z1m own a x (i+1) ys (if hasP own (a:Int) (i:Int) then addP o x y else o)
noncomputable def z3e (own:Rl_) (at' : List Int):Nat→List Int→Rl_→Rl_
 | _,[],o=>o
 | a,x::xs,o=>z3e own at' (a+1) xs (z1m own a x 0 at' o)
theorem z8r (own:Rl_)(a:Nat)(x:Int):∀ (ys:List Int) (i:Nat) (o:Rl_),(z1m own a x i ys o).Rows.length=o.Rows.length∧(z1m own a x i ys o).N=o.N
 | [],i,o=>⟨rfl,rfl⟩
 | y::ys,i,o=>by
  rw[z1m]
  have ih:=z8r own a x ys (i+1) (if hasP own (a:Int) (i:Int) then addP o x y else o)
  by_cases h:hasP own (a:Int) (i:Int)
  ·rw[ifP h] at ih ⊢
   have:=j3o o x y
   exact⟨ih.1.trans this.1,ih.2.trans this.2⟩
  ·rw[ifN h] at ih ⊢;exact ih
theorem j0Y (own:Rl_)(at' : List Int):∀ (xs:List Int) (a:Nat) (o:Rl_),(z3e own at' a xs o).Rows.length=o.Rows.length∧(z3e own at' a xs o).N=o.N
 | [],a,o=>⟨rfl,rfl⟩
 | x::xs,a,o=>by
  rw[z3e]
  have ih:=j0Y own at' xs (a+1) (z1m own a x 0 at' o)
  have:=z8r own a x at' 0 o
  exact⟨ih.1.trans this.1,ih.2.trans this.2⟩
theorem k0N (own:Rl_)(a:Nat)(x:Int):∀ (ys:List Int) (i:Nat) (o:Rl_),o.Rows.length≤1048576 →
  eachL (q9A own a x) i ys (o.Rows,o.N)=some ((z1m own a x i ys o).Rows,(z1m own a x i ys o).N)∧eachL (z7r own a x) i ys (o.N,o.Rows)=some ((z1m own a x i ys o).N,(z1m own a x i ys o).Rows)
 | [],i,o,_=>⟨rfl,rfl⟩
 | y::ys,i,o,h=>by
  have e1:q9A own a x i y (o.Rows,o.N)=some ((if hasP own (a:Int) (i:Int) then addP o x y else o).Rows,(if hasP own (a:Int) (i:Int) then addP o x y else o).N):=by
   unfold q9A
   dsimp only
   rw[z0w,bsS]
   by_cases hp:hasP own (a:Int) (i:Int)
   ·rw[decide_eq_true hp,ifP rfl,ifP hp,j9Z h];rfl
   ·rw[decide_eq_false hp,ifN (by simp),ifN hp];rfl
  have e2:z7r own a x i y (o.N,o.Rows)=some ((if hasP own (a:Int) (i:Int) then addP o x y else o).N,(if hasP own (a:Int) (i:Int) then addP o x y else o).Rows):=by
   unfold z7r
   dsimp only
   rw[z6H,bsS]
   by_cases hp:hasP own (a:Int) (i:Int)
   ·rw[decide_eq_true hp,ifP rfl,ifP hp,j3m,j9Z h];rfl
   ·rw[decide_eq_false hp,ifN (by simp),ifN hp];rfl
  have hl:(if hasP own (a:Int) (i:Int) then addP o x y else o).Rows.length≤1048576:=by
   split
   ·rw[(j3o o x y).1];exact h
   ·exact h
  have ih:=k0N own a x ys (i+1) _ hl
  rw[eachL,eachL,e1,e2,bsS,bsS,z1m]
  exact ih
theorem j3x (own:Rl_)(at' : List Int):∀ (xs:List Int) (a:Nat) (o:Rl_),o.Rows.length≤1048576 →
  eachL (q9B own at') a xs (o.Rows,o.N)=some ((z3e own at' a xs o).Rows,(z3e own at' a xs o).N)∧eachL (z7s own at') a xs (o.N,o.Rows)=some ((z3e own at' a xs o).N,(z3e own at' a xs o).Rows)
 | [],a,o,_=>⟨rfl,rfl⟩
 | x::xs,a,o,h=>by
  have h1:=k0N own a x at' 0 o h
  have hl:(z1m own a x 0 at' o).Rows.length≤1048576:=by rw[(z8r own a x at' 0 o).1];exact h
  have ih:=j3x own at' xs (a+1) _ hl
  have e1:q9B own at' a x (o.Rows,o.N)=some ((z1m own a x 0 at' o).Rows,(z1m own a x 0 at' o).N):=by
   unfold q9B;dsimp only;rw[h1.1];rfl
  have e2:z7s own at' a x (o.N,o.Rows)=some ((z1m own a x 0 at' o).N,(z1m own a x 0 at' o).Rows):=by
   unfold z7s;dsimp only;rw[h1.2];rfl
  rw[eachL,eachL,e1,e2,bsS,bsS,z3e]
  exact ih
noncomputable def z7H (g:Gm_) (r:Rule) (o:Rl_) (pos:Int) (own:Rl_):Rl_:=z3e own (posL g r pos) 0 (posL g r pos) o
theorem k0O {g:Gm_}(h:GOk g){r:Rule}(hl:ROk r){o:Rl_}(ho:o.Rows.length≤1048576)(pos:Int)(own:Rl_):z7t g r o pos own=some (z7H g r o pos own):=by
 unfold z7t z7H
 rw[k4A h hl,bsS,(j3x own (posL g r pos) (posL g r pos) 0 o ho).2];rfl
theorem z6K {r:Rule}{k:Nat}{x:ByteArray}(h:r.Right[k]?=some x):q8z r ((k+1:Nat):Int)=x:=by
 have hk:=(List.getElem?_eq_some_iff.1 h).1
 unfold q8z
 rw[ifN (by omega),ifP (by omega),show (((k+1:Nat):Int)-1).toNat=k by omega,List.getD_eq_getElem?_getD,h];rfl
noncomputable def z5R (g:Gm_) (r:Rule):Nat→List Rl_→Rl_→Rl_
 | _,[],o=>o
 | k,own::l,o=>z5R g r (k+1) l (z7H g r o ((k+1:Nat):Int) own)
theorem j8Q (g:Gm_)(r:Rule)(o:Rl_)(pos:Int)(own:Rl_):(z7H g r o pos own).Rows.length=o.Rows.length:=(j0Y own _ _ 0 o).1
def FitL (g:Gm_)(r:Rule)(list:List Rl_):Prop:=list.length=r.Right.length∧∀ k own,list[k]?=some own→Valid own∧own.N=((q6N g (q8z r ((k+1:Nat):Int))).length:Int)
theorem j5c {g:Gm_}(h:GOk g){r:Rule}(hl:ROk r){list:List Rl_}(hf:FitL g r list):∀ (m k:Nat) (o:Rl_),k+m=list.length→o.Rows.length≤1048576 →
  findL (q9C g r) k (list.drop k) (o.Rows,o.N)=some (.inl ((z5R g r k (list.drop k) o).Rows,(z5R g r k (list.drop k) o).N)) ∧
  findL (q9Q g r) k (list.drop k) (o.Rows,o.N)=some (.inl ((z5R g r k (list.drop k) o).Rows,(z5R g r k (list.drop k) o).N))∧(z5R g r k (list.drop k) o).Rows.length=o.Rows.length
 | 0,k,o,hk,_=>by rw[List.drop_eq_nil_of_le (by omega)];exact⟨rfl,rfl,rfl⟩
 | m+1,k,o,hk,ho=>by
  have hk' : k<list.length:=by omega
  rw[List.drop_eq_getElem_cons hk']
  have hv:=hf.2 k list[k] (List.getElem?_eq_getElem hk')
  have hR:k<r.Right.length:=by rw[← hf.1];exact hk'
  have hsym:=z6K (r:=r) (k:=k) (List.getElem?_eq_getElem hR)
  have hpl:=k4B g (r:=r) (k:=k+1) (by omega)
  have e1:q9C g r k list[k] (o.Rows,o.N)=some (.inl ((z7H g r o ((k+1:Nat):Int) list[k]).Rows,(z7H g r o ((k+1:Nat):Int) list[k]).N)):=by
   unfold q9C
   dsimp only
   rw[k4z h hl,bsS,q8f,bsS,decide_eq_true hv.1,ifP rfl,ifP (by rw[hpl];exact hv.2),(j3x list[k] _ _ 0 o ho).1];rfl
  have e2:q9Q g r k list[k] (o.Rows,o.N)=some (.inl ((z7H g r o ((k+1:Nat):Int) list[k]).Rows,(z7H g r o ((k+1:Nat):Int) list[k]).N)):=by
   unfold q9Q
   dsimp only
   rw[List.getElem?_eq_getElem hR,bsS,j5a h,bsS,ifP (by rw[← hsym];exact hv.2),k0O h hl ho];rfl
  have hlen:=j8Q g r o ((k+1:Nat):Int) list[k]
  have ih:=j5c h hl hf m (k+1) (z7H g r o ((k+1:Nat):Int) list[k]) (by omega) (by rw[hlen];exact ho)
  rw[findL,findL,e1,e2,bsS,bsS,z5R]
  exact⟨ih.1,ih.2.1,ih.2.2.trans hlen⟩
noncomputable def locR (g:Gm_) (r:Rule):Rl_:=(q5T g r).getD ⟨0,[]⟩
theorem k5w {g:Gm_}{r:Rule}(h:Sz.szd g≤1048576)(hr:Sz.szd r≤1048576):q5T g r=some (locR g r)∧q6C g r=some (locR g r)∧(locR g r).Rows.length≤16:=by
 obtain⟨x,h1,h2,h3⟩:=j8D h hr
 unfold locR
 rw[h1,h2];exact⟨rfl,rfl,h3⟩
noncomputable def z9l (g:Gm_) (r:Rule) (list:List Rl_):Rl_:=if 16<(occL g r).length then ⟨0,[]⟩ else q7y (z5R g r 0 list (locR g r))
theorem j3y {g:Gm_}{r:Rule}(h:Sz.szd g≤1048576)(hr:Sz.szd r≤1048576){list:List Rl_}(hf:FitL g r list):q7A g r list=some (z9l g r list)∧q7C g r list=some (z9l g r list)∧(z9l g r list).Rows.length≤16:=by
 have hg:=z3c h
 have hl:=q7S hr
 obtain⟨l1,l2,l3⟩:=k5w h hr
 have hn:(list.length:Int)=(r.Right.length:Int):=by rw[hf.1]
 unfold q7A q7C
 rw[k0M hg hl,j6B hg hl]
 simp only[bsS]
 rw[ifP hn,ifP hn]
 simp only[bsS]
 by_cases h16:16<(occL g r).length
 ·have hi:(16:Int)<((occL g r).length:Int):=by omega
  have hc:z9l g r list=⟨0,[]⟩:=ifP h16
  rw[hc,decide_eq_true hi,ifP rfl,ifP hi]
  exact⟨rfl,rfl,by simp⟩
 ·have hi:¬ (16:Int)<((occL g r).length:Int):=by omega
  have hc:z9l g r list=q7y (z5R g r 0 list (locR g r)):=ifN h16
  rw[hc,decide_eq_false hi,ifN (by simp),ifN hi,l1,l2,bsS,bsS]
  have key:=j5c hg hl hf list.length 0 (locR g r) (by omega) (by omega)
  rw[List.drop_zero] at key
  have hlen:(z5R g r 0 list (locR g r)).Rows.length≤16:=by rw[key.2.2];exact l3
  rw[key.1,key.2.1,bsS,bsS,z1N,z1N]
  dsimp only
  rw[j4O (r:=⟨(z5R g r 0 list (locR g r)).N,(z5R g r 0 list (locR g r)).Rows⟩) (by show (z5R g r 0 list (locR g r)).Rows.length≤_;omega),j4P (r:=⟨(z5R g r 0 list (locR g r)).N,(z5R g r 0 list (locR g r)).Rows⟩) (by show (z5R g r 0 list (locR g r)).Rows.length≤_;omega)]
  exact⟨rfl,rfl,by rw[(j2a _).1];exact hlen⟩
theorem j3z {α β:Type}{p:α→Bool}{g:α→β}{B:Nat}{f:Nat→α→List β→Option (List β)}:∀ (xs:List α) (i:Nat) (s:List β),(∀ k x s,x∈xs→s.length<B→f k x s=some (if p x=true then s++[g x] else s))→s.length+xs.length≤B →
  eachL f i xs s=some (s++(xs.filter p).map g)
 | [],i,s,_,_=>by simp[eachL]
 | x::xs,i,s,hf,h=>by
  simp only[lnC] at h
  by_cases hp:p x=true
  ·have ih:=j3z xs (i+1) (s++[g x]) (fun k y s hy=>hf k y s (by simp[hy])) (by simp;omega)
   simp[eachL,hf i x s (by simp) (by omega),hp,ih]
  ·have ih:=j3z xs (i+1) s (fun k y s hy=>hf k y s (by simp[hy])) (by omega)
   simp[eachL,hf i x s (by simp) (by omega),hp,ih]
theorem j3A {α β:Type}{g:α→β}{B:Nat}{f:Nat→α→List β→Option (List β)}(xs:List α)(i:Nat)(s:List β)(hf:∀ k x s,x∈xs→s.length<B→f k x s=some (s++[g x]))(h:s.length+xs.length≤B) :
  eachL f i xs s=some (s++xs.map g):=by
 have:=j3z (p:=fun _=>true) (g:=g) (B:=B) (f:=f) xs i s (fun k x s hx hs=>by rw[hf k x s hx hs,ifP rfl]) h
 rw[this];congr 2;congr 1;simp
theorem j7z {g:Gm_}{n:ByteArray}(h:(q6J g n).2=true):∃ j y,atS g n=some j∧g.Symbols[j]?=some y∧q6J g n=(y,true)∧y.Name=n:=by
 unfold q6J at h ⊢
 cases hf:g.Symbols.find? fun y=>decide (y.Name=n) with
 | none=>rw[hf] at h;cases h
 | some y=>
  have hn:y.Name=n:=by simpa using List.find?_some (p:=fun y:Symbol=>decide (y.Name=n)) hf
  unfold atS
  cases he:g.Symbols.findIdx? fun y=>decide (y.Name=n) with
  | none=>
   rw[List.findIdx?_eq_none_iff] at he
   have:=he y (List.mem_of_find?_eq_some hf)
   simp[hn] at this
  | some j=>
   refine⟨j,y,rfl,?_,rfl,hn⟩
   rw[List.findIdx?_eq_some_iff_getElem] at he
   obtain⟨hj,h1,h2⟩:=he
   rw[List.find?_eq_some_iff_getElem] at hf
   obtain⟨_,i,hi,hy,h3⟩:=hf
   have:i=j:=by
    rcases Nat.lt_trichotomy i j with hlt|heq|hgt
    ·have:=h2 i hlt;rw[hy] at this;simp[hn] at this
    ·exact heq
    ·have:=h3 j hgt;simp at this;simp at h1;exact absurd h1 this
   subst this
   rw[List.getElem?_eq_getElem hi,hy]
theorem Shape.known {g:Gm_}(h:Shape g){r:Rule}(hr:r∈g.Rules){k:Nat}(hk:k≤r.Right.length):(q6J g (q8z r (k:Int))).2=true:=by
 have h3:=h.brk 3 (by omega) (by omega) r hr
 unfold z3O at h3
 rw[ifP rfl,Bool.not_eq_false'] at h3
 unfold j2d at h3
 rw[List.all_eq_true] at h3
 exact h3 k (by rw[List.mem_range'_1];omega)
theorem Shape.right {g:Gm_}(h:Shape g){r:Rule}(hr:r∈g.Rules){n:ByteArray}(hn:n∈r.Right):(q6J g n).2=true:=by
 obtain⟨k,hk⟩:=List.getElem?_of_mem hn
 have hlt:=(List.getElem?_eq_some_iff.1 hk).1
 have:=h.known hr (k:=k+1) (by omega)
 rwa[z6K hk] at this
theorem Shape.left {g:Gm_}(h:Shape g){r:Rule}(hr:r∈g.Rules):(q6J g r.Left).2=true:=by
 have:=h.known hr (k:=0) (by omega)
 unfold q8z at this
 rwa[ifP (by rfl)] at this
theorem Shape.attrs {g:Gm_}(h:Shape g){y:Symbol}(hy:y∈g.Symbols):y.Attributes.length≤4:=by
 have:=h.symB hy
 unfold Go.Proofs.YtomdlgffolbdkaaGreat.symB at this
 simp only[Bool.and_eq_true,decide_eq_true_eq] at this
 exact this.2.2.1
theorem Shape.plain {g:Gm_}(h:Shape g)(n:ByteArray):(q6N g n).length≤4:=by
 refine Nat.le_trans (List.length_filter_le _ _) ?_
 unfold q6J
 cases hf:g.Symbols.find? fun y=>decide (y.Name=n) with
 | none=>simp[zS]
 | some y=>exact h.attrs (List.mem_of_find?_eq_some hf)
theorem j7A (g:Gm_)(n:ByteArray):q6M g n=some (atI g n):=by
 unfold q6M q4m atI atS
 rw[z2t (q:=fun y:Symbol=>decide (y.Name=n)) (c:=fun k=>(k:Int)) fun j x hx=>by
  unfold q5H q8O
  rw[bsS,← apply_ite some]]
 cases g.Symbols.findIdx? fun y=>decide (y.Name=n) with
 | none=>rfl
 | some j=>dsimp only;rw[Nat.zero_add];rfl
def Inv (g:Gm_)(all:List Rl_):Prop:=all.length=g.Symbols.length∧∀ (k:Nat) (y:Symbol) (a:Rl_),g.Symbols[k]?=some y→all[k]?=some a→Valid a∧a.N=((q6N g y.Name).length:Int)
def zR:Rl_:=⟨0,[]⟩
def k0P (g:Gm_)(all:List Rl_)(n:ByteArray):Rl_:=all.getD ((atS g n).getD 0) zR
theorem Inv.at_ {g:Gm_}{all:List Rl_}(h:Inv g all){n:ByteArray}(hn:(q6J g n).2=true):∃ j,atS g n=some j∧j<g.Symbols.length∧all[j]?=some (k0P g all n)∧Valid (k0P g all n)∧(k0P g all n).N=((q6N g n).length:Int):=by
 obtain⟨j,y,h1,h2,h3,h4⟩:=j7z hn
 have hj:=(List.getElem?_eq_some_iff.1 h2).1
 have e:all[j]?=some (k0P g all n):=by
  unfold k0P
  rw[h1,Option.getD_some,List.getD_eq_getElem?_getD,List.getElem?_eq_getElem (by rw[h.1];exact hj)];rfl
 have:=h.2 j y _ h2 e
 rw[h4] at this
 exact⟨j,h1,hj,e,this⟩
theorem z2P {g:Gm_}(hS:Shape g){r:Rule}(hr:r∈g.Rules):r.Right.length≤3:=by
 have:=hS.ruleB hr
 unfold Go.Proofs.YtomdlgffolbdkaaGreat.ruleB at this
 simp only[Bool.and_eq_true,decide_eq_true_eq] at this
 exact this.2.1.1
noncomputable def sumS (g:Gm_) (r:Rule) (c:Rl_):Rl_:=(q6G g r c).getD ⟨0,[]⟩
theorem k0Q {g:Gm_}(h:GOk g){r:Rule}(hl:ROk r)(c:Rl_):q6G g r c=some (sumS g r c)∧q9d g r c=some (sumS g r c):=by
 obtain⟨x,h1,h2,_⟩:=j4J (c:=c) h hl
 unfold sumS
 rw[h1,h2];exact⟨rfl,rfl⟩
def sumA (all:List Rl_):Nat:=(all.map sumR).sum
theorem Inv.bound {g:Gm_}{all:List Rl_}(h:Inv g all):sumA all≤all.length*(16*65535):=by
 have key:∀ l:List Rl_,(∀ a∈l,Valid a)→sumA l≤l.length*(16*65535):=by
  intro l
  induction l with
  | nil=>intro _;simp[sumA]
  | cons a l ih=>
   intro hv
   have h1:=k0J (hv a (by simp))
   have h2:=ih fun b hb=>hv b (by simp[hb])
   unfold sumA at h2 ⊢
   simp only[List.map_cons,List.sum_cons,lnC]
   omega
 refine key all fun a ha=>?_
 obtain⟨k,hk⟩:=List.getElem?_of_mem ha
 have hlt:=(List.getElem?_eq_some_iff.1 hk).1
 exact (h.2 k _ a (List.getElem?_eq_getElem (by rw[← h.1];exact hlt)) hk).1
theorem j8R {r:Rl_}(h:Valid r)(i k:Int):Valid (addP r i k):=by
 unfold addP
 by_cases hc:Valid r∧inN r i∧inN r k
 ·rw[ifP hc]
  obtain⟨_,hi,hk⟩:=hc
  unfold j0J
  refine⟨h.1,h.2.1,by dsimp only;rw[List.length_set];exact h.2.2.1,fun x hx=>?_⟩
  rcases List.mem_or_eq_of_mem_set hx with hx|hx
  ·exact h.2.2.2 x hx
  ·rw[hx]
   have h1:=h.1
   have hk1:=hk.1
   have hk2:=hk.2
   refine k5v ?_ ?_
   ·unfold z6f
    rw[List.getD_eq_getElem?_getD]
    cases hq:r.Rows[i.toNat]? with
    | none=>show (0:Int)≤0∧(0:Int)≤((2 ^ r.N.toNat:Nat):Int)-1;have:=Nat.two_pow_pos r.N.toNat;omega
    | some y=>exact h.2.2.2 y (List.mem_of_getElem? hq)
   ·have h2:2 ^ k.toNat<2 ^ r.N.toNat:=Nat.pow_lt_pow_right (by decide) (by omega)
    constructor
    ·exact Int.natCast_nonneg _
    ·dsimp only;omega
 ·rw[ifN hc];exact h
theorem k4C {r:Rl_}(h:Valid r)(i k:Int)(a c:Nat):Rl (addP r i k).Rows a c↔Rl r.Rows a c∨(inN r i∧inN r k∧(a:Int)=i∧(c:Int)=k):=by
 unfold addP
 by_cases hc:Valid r∧inN r i∧inN r k
 ·rw[ifP hc]
  obtain⟨_,hi,hk⟩:=hc
  have hi1:=hi.1
  have hi2:=hi.2
  have hk1:=hk.1
  have hl:=h.2.2.1
  unfold j0J Rl
  dsimp only
  rw[List.getD_eq_getElem?_getD,List.getElem?_set]
  by_cases e:i.toNat=a
  ·rw[ifP e,ifP (by omega),Option.getD_some,j4N,Nat.testBit_or,tnC,Nat.testBit_two_pow]
   unfold z6f
   rw[e]
   simp only[Bool.or_eq_true,decide_eq_true_eq]
   constructor
   ·rintro (h1|h1)
    ·exact .inl h1
    ·exact .inr ⟨hi,hk,by omega,by omega⟩
   ·rintro (h1|⟨_,_,_,h1⟩)
    ·exact .inl h1
    ·exact .inr (by omega)
  ·rw[ifN e,← List.getD_eq_getElem?_getD]
   constructor
   ·exact fun h1=>.inl h1
   ·rintro (h1|⟨_,_,h1,_⟩)
    ·exact h1
    ·omega
 ·rw[ifN hc]
  constructor
  ·exact fun h1=>.inl h1
  ·rintro (h1|⟨h1,h2,_⟩)
   ·exact h1
   ·exact absurd ⟨h,h1,h2⟩ hc
def Sub (a b:Rl_):Prop:=Valid a∧Valid b∧a.N=b.N∧∀ i j:Nat,Rl a.Rows i j→Rl b.Rows i j
theorem Sub.refl {a:Rl_}(h:Valid a):Sub a a:=⟨h,h,rfl,fun _ _ h=>h⟩
theorem Sub.trans {a b c:Rl_}(h:Sub a b)(k:Sub b c):Sub a c:=⟨h.1,k.2.1,h.2.2.1.trans k.2.2.1,fun i j x=>k.2.2.2 i j (h.2.2.2 i j x)⟩
theorem j6C {n:Int}(h0:0≤n)(h1:n≤16):Valid ⟨n,List.replicate n.toNat 0⟩:=by
 refine⟨h0,h1,by simp;omega,fun x hx=>?_⟩
 have:=(List.mem_replicate.1 hx).2
 have h2:=Nat.two_pow_pos n.toNat
 dsimp only
 omega
theorem j3B:∀ (n:Nat) (l:List Nat),l.Nodup→(∀ x∈l,x<n)→l.length≤n
 | 0,[],_,_=>Nat.le_refl _
 | 0,x::l,_,h=>absurd (h x List.mem_cons_self) (Nat.not_lt_zero _)
 | n+1,l,hd,h=>by
  by_cases hn:n∈l
  ·have h1:=j3B n (l.erase n) (hd.erase n) fun x hx=>by
    have h2:=(List.Nodup.mem_erase_iff hd).1 hx
    have:=h x h2.2
    have:=h2.1
    omega
   rw[List.length_erase_of_mem hn] at h1
   omega
  ·have:=j3B n l hd fun x hx=>by
    have h2:=h x hx
    have:x≠n:=fun e=>hn (e▸hx)
    omega
   omega
def j5d:List Bool→Nat
 | []=>0
 | b::bs=>(if b=true then 1 else 0)+2*j5d bs
theorem k0R:∀ l:List Bool,j5d l<2 ^ l.length
 | []=>by decide
 | b::bs=>by
  have:=k0R bs
  rw[j5d,lnC,Nat.pow_succ]
  split<;>omega
theorem j3C:∀ {l m:List Bool},l.length=m.length→j5d l=j5d m→l=m
 | [],[],_,_=>rfl
 | [],_::_,h,_=>by simp at h
 | _::_,[],h,_=>by simp at h
 | b::bs,c::cs,h,e=>by
  rw[j5d,j5d] at e
  have h' : bs.length=cs.length:=by simpa using h
  cases b<;>cases c<;>simp at e
  ·rw[j3C h' (by omega)]
  ·omega
  ·omega
  ·rw[j3C h' (by omega)]
theorem k0S {α:Type}{p q:α→Bool}(h:∀ x,p x=true→q x=true→False):∀ l:List α,(l.filter p).length+(l.filter q).length≤l.length
 | []=>Nat.le_refl _
 | x::l=>by
  have:=k0S h l
  rw[List.filter_cons,List.filter_cons,lnC]
  cases hp:p x<;>cases hq:q x
  ·simp;omega
  ·simp;omega
  ·simp;omega
  ·exact absurd hq (fun hq=>h x hp hq)
theorem k4D {a b:Rl_}(ha:Valid a)(hb:Valid b)(hN:a.N=b.N)(h:∀ i j:Nat,Rl a.Rows i j↔Rl b.Rows i j):a=b:=by
 obtain⟨n,xs⟩:=a
 obtain⟨m,ys⟩:=b
 have h1:=ha.2.2.1
 have h2:=hb.2.2.1
 dsimp only at h1 h2 hN
 have e:xs=ys:=by
  apply List.ext_getElem?
  intro i
  by_cases hi:i<xs.length
  ·obtain⟨x,hx⟩:∃ x,xs[i]?=some x:=⟨_,List.getElem?_eq_getElem hi⟩
   obtain⟨y,hy⟩:∃ y,ys[i]?=some y:=⟨_,List.getElem?_eq_getElem (by omega)⟩
   have hx0:=(ha.2.2.2 x (List.mem_of_getElem? hx)).1
   have hy0:=(hb.2.2.2 y (List.mem_of_getElem? hy)).1
   have:x.toNat=y.toNat:=by
    apply Nat.eq_of_testBit_eq
    intro j
    have:=h i j
    unfold Rl at this
    dsimp only at this
    rw[List.getD_eq_getElem?_getD,List.getD_eq_getElem?_getD,hx,hy,Option.getD_some,Option.getD_some] at this
    exact Bool.eq_iff_iff.2 this
   rw[hx,hy]
   congr 1
   omega
  ·rw[List.getElem?_eq_none (by omega),List.getElem?_eq_none (by omega)]
 rw[e,hN]
def z9m (L:List At_)(s:Rl_):Prop:=Valid s∧s.N=(L.length:Int)∧∀ a b:Nat,Rl s.Rows a b→∃ x y,L[a]?=some x∧x.Mode=1∧L[b]?=some y∧y.Mode=2
def z3f (L:List At_)(m:Int)(a:Nat):Bool:=decide ((L[a]?).map (·.Mode)=some m)
def z7I (L:List At_):List (Nat×Nat):=((List.range L.length).filter (z3f L 1)).flatMap fun a=>((List.range L.length).filter (z3f L 2)).map fun b=>(a,b)
theorem z8s {α β:Type}{f:α→List β}{n:Nat}(h:∀ x,(f x).length=n):∀ l:List α,(l.flatMap f).length=l.length*n
 | []=>by simp
 | x::l=>by rw[List.flatMap_cons,List.length_append,h,z8s h l,lnC,Nat.succ_mul];omega
theorem k0T {L:List At_}(h:L.length≤4):(z7I L).length≤4:=by
 unfold z7I
 rw[z8s (n:=((List.range L.length).filter (z3f L 2)).length) fun x=>by rw[lnM]]
 have h1:=k0S (p:=z3f L 1) (q:=z3f L 2) (fun x h1 h2=>by
  unfold z3f at h1 h2
  have h1:=of_decide_eq_true h1
  have h2:=of_decide_eq_true h2
  rw[h1] at h2
  cases h2) (List.range L.length)
 rw[List.length_range] at h1
 generalize ((List.range L.length).filter (z3f L 1)).length=x at h1
 generalize ((List.range L.length).filter (z3f L 2)).length=y at h1
 have:x=0∨x=1∨x=2∨x=3∨x=4:=by omega
 rcases this with e|e|e|e|e<;>subst e<;>omega
noncomputable def k0U (L:List At_) (s:Rl_):Nat:=j5d ((z7I L).map fun p=>s.Rows.getD p.1 0 |>.toNat.testBit p.2)
theorem k4E {L:List At_}(h:L.length≤4)(s:Rl_):k0U L s<16:=by
 have h1:=k0R ((z7I L).map fun p=>s.Rows.getD p.1 0 |>.toNat.testBit p.2)
 have h2:=k0T h
 rw[lnM] at h1
 have h3:2 ^ (z7I L).length≤2 ^ 4:=Nat.pow_le_pow_right (by decide) h2
 unfold k0U
 omega
theorem k2J {L:List At_}{s t:Rl_}(hs:z9m L s)(ht:z9m L t)(h:k0U L s=k0U L t):s=t:=by
 have e:=j3C (by simp) h
 have key:∀ {s t:Rl_},z9m L s→((z7I L).map fun p=>(s.Rows.getD p.1 0).toNat.testBit p.2)=((z7I L).map fun p=>(t.Rows.getD p.1 0).toNat.testBit p.2)→∀ i j:Nat,Rl s.Rows i j→Rl t.Rows i j:=by
  intro s t hs e i j h
  obtain⟨x,y,h1,h2,h3,h4⟩:=hs.2.2 i j h
  have hm:(i,j)∈z7I L:=by
   unfold z7I
   refine List.mem_flatMap.2 ⟨i,List.mem_filter.2 ⟨List.mem_range.2 (List.getElem?_eq_some_iff.1 h1).1,by unfold z3f;rw[h1];simp[h2]⟩,?_⟩
   exact List.mem_map.2 ⟨j,List.mem_filter.2 ⟨List.mem_range.2 (List.getElem?_eq_some_iff.1 h3).1,by unfold z3f;rw[h3];simp[h4]⟩,rfl⟩
  have:=(List.map_inj_left.1 e) (i,j) hm
  unfold Rl at h ⊢
  dsimp only at this
  rw[← this];exact h
 exact k4D hs.1 ht.1 (hs.2.1.trans ht.2.1.symm) fun i j=>⟨key hs e i j,key ht e.symm i j⟩
theorem z6L {L:List At_}(h:L.length≤4){l:List Rl_}(hn:l.Nodup)(hl:∀ s∈l,z9m L s):l.length≤16:=by
 have:=j3B 16 (l.map (k0U L)) (by
  rw[List.Nodup,List.pairwise_map]
  refine List.Pairwise.imp_of_mem ?_ hn
  intro a b ha hb hne hc
  exact hne (k2J (hl a ha) (hl b hb) hc)) fun x hx=>by
  obtain⟨s,_,rfl⟩:=List.mem_map.1 hx
  exact k4E h s
 rwa[lnM] at this
theorem k0V {g:Gm_}(hg:GOk g){r:Rule}(hn:(q6N g r.Left).length≤16)(c:Rl_):∃ s,q6G g r c=some s∧z9m (q6N g r.Left) s:=by
 have hv:=j6C (n:=((q6N g r.Left).length:Int)) (by omega) (by omega)
 have P0:∀ s:List Int×Int,z9m (q6N g r.Left) ⟨s.2,s.1⟩→s.1.length≤1048576:=fun s h=>by have:=h.1.2.2.1;have:=h.1.2.1;dsimp only at *;omega
 obtain⟨s',e,h3⟩:=z1w (P:=fun _ (s:List Int×Int)=>z9m (q6N g r.Left) ⟨s.2,s.1⟩) (f:=q9D c (q6N g r.Left)) (xs:=q6N g r.Left) (i:=0) (s:=(List.replicate ((q6N g r.Left).length:Int).toNat 0,((q6N g r.Left).length:Int))) ⟨hv,rfl,fun a b h=>by
   exfalso
   unfold Rl at h
   rw[List.getD_eq_getElem?_getD,List.getElem?_replicate] at h
   split at h<;>simp at h⟩ fun k x s hx hs=>by
  rw[Nat.zero_add]
  obtain⟨s1,s2⟩:=s
  obtain⟨s',e,h3⟩:=z1w (P:=fun _ (s:List Int×Int)=>z9m (q6N g r.Left) ⟨s.2,s.1⟩) (f:=q8n c k x) (xs:=q6N g r.Left) (i:=0) (s:=(s1,s2)) hs fun k2 x2 s hx2 hs=>by
   rw[Nat.zero_add]
   obtain⟨t1,t2⟩:=s
   have hl:=P0 _ hs
   dsimp only at hs hl
   unfold q8n
   dsimp only
   rw[z0w,j9Z (r:=⟨t2,t1⟩) hl]
   simp only[bsS]
   by_cases p1:hasP c (k:Int) (k2:Int)
   ·by_cases m1:x.Mode=1
    ·by_cases m2:x2.Mode=2
     ·simp only[m1,m2,p1,if_true,decide_true,bsS]
      refine⟨_,rfl,j8R hs.1 _ _,(j3o _ _ _).2.trans hs.2.1,fun a b h=>?_⟩
      rcases (k4C hs.1 _ _ a b).1 h with h|⟨_,_,h1,h2⟩
      ·exact hs.2.2 a b h
      ·have e1:a=k:=by omega
       have e2:b=k2:=by omega
       subst e1;subst e2
       exact⟨x,x2,hx,m1,hx2,m2⟩
     ·simp only[m1,m2,if_true,if_false,decide_false,bsS,Bool.false_eq_true];exact⟨_,rfl,hs⟩
    ·simp only[m1,if_false,bsS,Bool.false_eq_true];exact⟨_,rfl,hs⟩
   ·by_cases m1:x.Mode=1
    ·by_cases m2:x2.Mode=2
     ·simp only[m1,m2,p1,if_true,if_false,decide_true,decide_false,bsS,Bool.false_eq_true];exact⟨_,rfl,hs⟩
     ·simp only[m1,m2,if_true,if_false,decide_false,bsS,Bool.false_eq_true];exact⟨_,rfl,hs⟩
    ·simp only[m1,if_false,bsS,Bool.false_eq_true];exact⟨_,rfl,hs⟩
  exact⟨s',by unfold q9D;dsimp only;rw[e];rfl,h3⟩
 obtain⟨s1,s2⟩:=s'
 refine⟨⟨s2,s1⟩,?_,h3⟩
 unfold q6G
 rw[j4Z hg,bsS,k2a (by omega) (by omega),bsS]
 dsimp only
 rw[e];rfl
def q6r:List Nat→Nat
 | []=>1
 | c::cs=>c*q6r cs
def digL:List Nat→Nat→List Nat
 | [],_=>[]
 | _::cs,n=>(n / q6r cs)::digL cs (n % q6r cs)
def z8t:List Nat→List Nat→Option (List Nat)
 | c::cs,d::ds=>match z8t cs ds with
  | some ds'=>some (d::ds')
  | none=>if d+1<c then some ((d+1)::List.replicate cs.length 0) else none
 | _,_=>none
theorem j0Z:∀ (cs:List Nat) (n:Nat),(digL cs n).length=cs.length
 | [],_=>rfl
 | _::cs,n=>by rw[digL,lnC,j0Z cs,lnC]
theorem z9v:∀ cs:List Nat,digL cs 0=List.replicate cs.length 0
 | []=>rfl
 | c::cs=>by rw[digL,Nat.zero_div,Nat.zero_mod,z9v cs,lnC,List.replicate_succ]
theorem j3D:∀ (cs:List Nat) (n:Nat),n<q6r cs→z8t cs (digL cs n)=if n+1<q6r cs then some (digL cs (n+1)) else none
 | [],n,h=>by
  rw[q6r] at h
  rw[ifN (by rw[q6r];omega)];rfl
 | c::cs,n,h=>by
  rw[q6r] at h ⊢
  have hP:0<q6r cs:=Nat.pos_of_ne_zero fun e=>by rw[e] at h;omega
  have hr:=Nat.mod_lt n hP
  have hq:n / q6r cs<c:=(Nat.div_lt_iff_lt_mul hP).2 h
  have hn:=Nat.div_add_mod n (q6r cs)
  rw[digL,z8t,j3D cs _ hr]
  generalize hQ:n / q6r cs=q at hq hn ⊢
  generalize hR:n % q6r cs=r at hr hn ⊢
  generalize hPe:q6r cs=P at h hP hr hn ⊢
  by_cases h1:r+1<P
  ·rw[ifP h1]
   have hc:n+1<c*P:=by
    have:(q+1)*P≤c*P:=Nat.mul_le_mul_right _ hq
    rw[Nat.succ_mul,Nat.mul_comm] at this
    omega
   have e1:(n+1) / P=q:=by
    rw[← hn]
    rw[show P*q+r+1=(r+1)+P*q by omega,Nat.add_mul_div_left _ _ hP,Nat.div_eq_of_lt h1,Nat.zero_add]
   have e2:(n+1) % P=r+1:=by
    rw[← hn,show P*q+r+1=(r+1)+P*q by omega,Nat.add_mul_mod_self_left,Nat.mod_eq_of_lt h1]
   rw[ifP hc,digL,hPe,e1,e2]
  ·rw[ifN h1]
   have hr1:r+1=P:=by omega
   have hn1:n+1=P*(q+1):=by rw[Nat.mul_succ];omega
   have e1:(n+1) / P=q+1:=by rw[hn1,Nat.mul_div_cancel_left _ hP]
   have e2:(n+1) % P=0:=by rw[hn1,Nat.mul_mod_right]
   dsimp only
   by_cases h2:q+1<c
   ·have hc:n+1<c*P:=by
     rw[hn1,Nat.mul_comm c P]
     exact (Nat.mul_lt_mul_left hP).2 h2
    rw[ifP h2,ifP hc,digL,hPe,e1,e2,z9v]
   ·have hc:¬ n+1<c*P:=by
     have:c=q+1:=by omega
     rw[hn1,this,Nat.mul_comm P];omega
    rw[ifN h2,ifN hc]
theorem j1a:∀ (cs:List Nat) (n:Nat),q6r (cs++[n])=q6r cs*n
 | [],n=>by simp[q6r]
 | c::cs,n=>by rw[List.cons_append,q6r,q6r,j1a cs,Nat.mul_assoc]
theorem j7B (n:Nat):∀ (cs:List Nat) (m:Nat),m<q6r cs*n→digL (cs++[n]) m=digL cs (m / n)++[m % n]
 | [],m,h=>by
  rw[q6r,Nat.one_mul] at h
  show [m / 1]=[m % n]
  rw[Nat.div_one,Nat.mod_eq_of_lt h]
 | c::cs,m,h=>by
  rw[q6r] at h
  have hP:0<q6r cs*n:=Nat.pos_of_ne_zero fun e=>by rw[Nat.mul_assoc,e] at h;omega
  rw[List.cons_append,digL,digL,j1a,j7B n cs _ (Nat.mod_lt _ hP),Nat.mod_mul_left_div_self,Nat.mod_mul_left_mod,Nat.div_div_eq_div_mul,Nat.mul_comm n]
  rfl
def chL (cs:List Nat):List (List Nat):=(List.range (q6r cs)).map (digL cs)
theorem j5e (n:Nat):∀ p:Nat,List.range (p*n)=(List.range p).flatMap fun i=>(List.range n).map fun j=>i*n+j
 | 0=>by simp
 | p+1=>by
  rw[Nat.succ_mul,List.range_add,j5e n p,List.range_succ,List.flatMap_append]
  simp
theorem z8K {α β:Type}{f g:α→List β}:∀ {l:List α},(∀ x∈l,f x=g x)→l.flatMap f=l.flatMap g
 | [],_=>rfl
 | x::l,h=>by rw[List.flatMap_cons,List.flatMap_cons,h x List.mem_cons_self,z8K fun y hy=>h y (List.mem_cons_of_mem _ hy)]
theorem k4F (cs:List Nat)(n:Nat):chL (cs++[n])=(chL cs).flatMap fun c=>(List.range n).map fun j=>c++[j]:=by
 unfold chL
 rw[j1a,j5e,List.map_flatMap,List.flatMap_map]
 refine z8K fun i hi=>?_
 rw[List.map_map]
 refine List.map_congr_left fun j hj=>?_
 have h1:=List.mem_range.1 hi
 have h2:=List.mem_range.1 hj
 have hlt:i*n+j<q6r cs*n:=by
  have:(i+1)*n≤q6r cs*n:=Nat.mul_le_mul_right _ h1
  rw[Nat.succ_mul] at this
  omega
 show digL (cs++[n]) (i*n+j)=digL cs i++[j]
 have hn:0<n:=by omega
 rw[j7B n cs _ hlt]
 rw[show i*n+j=j+n*i by rw[Nat.mul_comm,Nat.add_comm],Nat.add_mul_div_left _ _ hn,Nat.div_eq_of_lt h2,Nat.zero_add,Nat.add_mul_mod_self_left,Nat.mod_eq_of_lt h2]
theorem j3E:∀ {cs:List Nat},(∀ c∈cs,0<c)→0<q6r cs
 | [],_=>Nat.one_pos
 | c::cs,h=>Nat.mul_pos (h c List.mem_cons_self) (j3E fun x hx=>h x (List.mem_cons_of_mem _ hx))
theorem j5f:∀ {cs:List Nat},0∈cs→q6r cs=0
 | c::cs,h=>by
  rw[q6r]
  rcases List.mem_cons.1 h with e|e
  ·rw[← e,Nat.zero_mul]
  ·rw[j5f e,Nat.mul_zero]
theorem k0W {b:Nat}:∀ {cs:List Nat},(∀ c∈cs,c≤b)→q6r cs≤b ^ cs.length
 | [],_=>Nat.le_refl _
 | c::cs,h=>by
  rw[q6r,lnC,Nat.pow_succ,Nat.mul_comm]
  exact Nat.mul_le_mul (k0W fun x hx=>h x (List.mem_cons_of_mem _ hx)) (h c List.mem_cons_self)
theorem j7C:∀ {cs:List Nat} {n:Nat},n<q6r cs→∀ (i d c:Nat),(digL cs n)[i]?=some d→cs[i]?=some c→d<c
 | [],n,h,i,d,c,h1,h2=>by rw[List.getElem?_nil] at h2;cases h2
 | x::cs,n,h,0,d,c,h1,h2=>by
  cases h1
  cases h2
  rw[q6r] at h
  have hP:0<q6r cs:=Nat.pos_of_ne_zero fun e=>by rw[e] at h;omega
  exact (Nat.div_lt_iff_lt_mul hP).2 h
 | x::cs,n,h,i+1,d,c,h1,h2=>by
  rw[q6r] at h
  have hP:0<q6r cs:=Nat.pos_of_ne_zero fun e=>by rw[e] at h;omega
  exact j7C (Nat.mod_lt _ hP) i d c h1 h2
end Go.Proofs.YtomdlgffolbdkaaGreat
