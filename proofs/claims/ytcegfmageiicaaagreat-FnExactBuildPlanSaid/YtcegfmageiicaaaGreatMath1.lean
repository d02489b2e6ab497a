/- What those partial functions come to: plain lemmas on data; each bears its conditions in its statement. -/
import Derived.Test.YtcegfmageiicaaaGreatDef
set_option linter.unusedVariables false
set_option linter.unusedSimpArgs false
set_option linter.ambiguousOpen false
set_option linter.unusedSectionVars false
set_option linter.unnecessarySimpa false
namespace Go.E
section
variable {α σ ρ:Type}
theorem z8r {c:ρ}:∀ {xs:List α} {i:Nat} {p:Nat→α→Prop} {f:Nat→α→Unit→Option (Unit ⊕ ρ)},(∀ k x,xs[k]?=some x→(p (i+k) x→f (i+k) x ()=some (.inr c))∧(¬ p (i+k) x→f (i+k) x ()=some (.inl ()))) →
  ((∃ k x,xs[k]?=some x∧p (i+k) x)→findL f i xs ()=some (.inr c))∧((∀ k x,xs[k]?=some x→¬ p (i+k) x)→findL f i xs ()=some (.inl ()))
 | [],i,p,f,_=>⟨fun ⟨k,x,h,_⟩=>by simp at h,fun _=>rfl⟩
 | x::xs,i,p,f,h=>by
  have h0:=h 0 x rfl
  simp only[Nat.add_zero] at h0
  have ih:=z8r (c:=c) (xs:=xs) (i:=i+1) (p:=p) (f:=f) fun k y hy=>by
   have:=h (k+1) y hy
   rwa[show i+(k+1)=i+1+k by omega] at this
  by_cases hp:p i x
  ·refine⟨fun _=>by simp[findL,h0.1 hp],fun hn=>absurd hp (hn 0 x rfl)⟩
  ·simp only[findL,h0.2 hp,bsS]
   refine⟨?_,?_⟩
   ·rintro⟨k,y,hy,hpy⟩
    cases k with
    | zero=>simp at hy;subst hy;exact absurd hpy hp
    | succ k=>exact ih.1 ⟨k,y,hy,by rwa[show i+1+k=i+(k+1) by omega]⟩
   ·intro hn
    exact ih.2 fun k y hy hpy=>hn (k+1) y hy (by rwa[show i+(k+1)=i+1+k by omega])
theorem j0J {c:ρ}:∀ {n i:Nat} {p:Nat→Prop} {f:Nat→Unit→Option (Unit ⊕ ρ)},(∀ k,k<n→(p (i+k)→f (i+k) ()=some (.inr c))∧(¬ p (i+k)→f (i+k) ()=some (.inl ()))) →
  ((∃ k,k<n∧p (i+k))→findN f i n ()=some (.inr c))∧((∀ k,k<n→¬ p (i+k))→findN f i n ()=some (.inl ()))
 | 0,i,p,f,_=>⟨fun ⟨k,h,_⟩=>by omega,fun _=>rfl⟩
 | n+1,i,p,f,h=>by
  have h0:=h 0 (by omega)
  simp only[Nat.add_zero] at h0
  have ih:=j0J (c:=c) (n:=n) (i:=i+1) (p:=p) (f:=f) fun k hk=>by
   have:=h (k+1) (by omega)
   rwa[show i+(k+1)=i+1+k by omega] at this
  by_cases hp:p i
  ·refine⟨fun _=>by simp[findN,h0.1 hp],fun hn=>absurd hp (hn 0 (by omega))⟩
  ·simp only[findN,h0.2 hp,bsS]
   refine⟨?_,?_⟩
   ·rintro⟨k,hk,hpk⟩
    cases k with
    | zero=>exact absurd hpk hp
    | succ k=>exact ih.1 ⟨k,by omega,by rwa[show i+1+k=i+(k+1) by omega]⟩
   ·intro hn
    exact ih.2 fun k hk hpk=>hn (k+1) (by omega) (by rwa[show i+(k+1)=i+1+k by omega])
theorem k1m [DecidableEq α]{y:α}:∀ {xs:List α} {i:Nat} {f:Nat→α→Unit→Option (Unit ⊕ Int)},(∀ k x,(x=y→f k x ()=some (.inr (k:Int)))∧(x≠y→f k x ()=some (.inl ()))) →
  findL f i xs ()=some (if y∈xs then .inr ((i+xs.idxOf y:Nat):Int) else .inl ())
 | [],i,f,_=>by simp[findL]
 | x::xs,i,f,h=>by
  by_cases hx:x=y
  ·subst hx;simp[findL,(h i x).1 rfl]
  ·have hx' : (x == y)=false:=by simpa using hx
   simp only[findL,(h i x).2 hx,bsS,k1m (xs:=xs) (i:=i+1) h,List.mem_cons,List.idxOf_cons,hx',cond_false]
   by_cases hy:y∈xs
   ·simp[hy];omega
   ·have:¬ y=x:=fun e=>hx e.symm
    simp[hy,this]
theorem j4m [DecidableEq α]{y:α}{xs:List α}{f:Nat→α→Unit→Option (Unit ⊕ Int)}(h:∀ k x,(x=y→f k x ()=some (.inr (k:Int)))∧(x≠y→f k x ()=some (.inl ()))) :
  (findL f 0 xs ()).bind (onr (fun r1=>some r1) fun _=>some (-1))=some (ixF xs y):=by
 rw[k1m h]
 unfold ixF
 by_cases hy:y∈xs<;>simp[hy]
theorem j2O {P:Nat→σ→Prop}:∀ {n i:Nat} {s:σ} {f:Nat→σ→Option σ},P i s→(∀ k s,i≤k→k<i+n→P k s→∃ s',f k s=some s'∧P (k+1) s')→∃ s',eachN f i n s=some s'∧P (i+n) s'
 | 0,i,s,f,h,_=>⟨s,rfl,h⟩
 | n+1,i,s,f,h,hs=>by
  obtain⟨s1,h1,h2⟩:=hs i s (Nat.le_refl _) (by omega) h
  obtain⟨s2,h3,h4⟩:=j2O (P:=P) (n:=n) (i:=i+1) (f:=f) h2 fun k s hk hk2 hp=>hs k s (by omega) (by omega) hp
  exact⟨s2,by simp[eachN,h1,h3],by rw[show i+(n+1)=i+1+n by omega];exact h4⟩
end
end Go.E
set_option maxRecDepth 100000
set_option maxHeartbeats 4000000
noncomputable section
namespace Go.Proofs.YtcegfmageiicaaaGreat
open Go Go.E
open Go.E.Sz (szd)
instance:Sz At_ where
 szd x:=x.Name.size
instance:Sz Symbol where
 szd x:=x.Name.size+szL x.Attributes
theorem j1s (x:Symbol):Sz.szd x=x.Name.size+szL x.Attributes:=rfl
instance:Sz Oc where
 szd x:=x.Name.size
theorem j5r (x:Oc):Sz.szd x=x.Name.size:=rfl
mutual
def z2Z:Expr→Nat
 | ⟨a0,a1,a2,a3,a4,a5,a6⟩=>a4.size+a5.size+z5x a6
def z5x:List Expr→Nat
 | []=>0
 | x::xs=>1+z2Z x+z5x xs
end
instance:Sz Expr:=⟨z2Z⟩
theorem k0e (a:List Expr):z5x a=szL a:=by
 induction a with
 | nil=>rfl
 | cons x xs ih=>simp only[z5x,szL,ih];rfl
theorem q8Z (x:Expr):Sz.szd x=x.Symbol.size+x.Name.size+szL x.Args:=by
 cases x;show z2Z _=_;simp only[z2Z,k0e]
instance:Sz Eqn where
 szd x:=x.At.Name.size+x.Expr.Symbol.size+x.Expr.Name.size+szL x.Expr.Args
theorem z5y (x:Eqn):Sz.szd x=x.At.Name.size+x.Expr.Symbol.size+x.Expr.Name.size+szL x.Expr.Args:=rfl
instance:Sz Cn where
 szd x:=x.Symbol.size+x.Name.size+x.Target.Symbol.size+x.Target.Name.size+szL x.Target.Args+x.Value.Symbol.size+x.Value.Name.size+szL x.Value.Args
theorem z0Q (x:Cn):Sz.szd x=x.Symbol.size+x.Name.size+x.Target.Symbol.size+x.Target.Name.size+szL x.Target.Args+x.Value.Symbol.size+x.Value.Name.size+szL x.Value.Args:=rfl
instance:Sz Rule where
 szd x:=x.Name.size+x.Left.size+szL x.Right+szL x.Equations+szL x.Contributions
theorem z6Z (x:Rule):Sz.szd x=x.Name.size+x.Left.size+szL x.Right+szL x.Equations+szL x.Contributions:=rfl
instance:Sz Grammar where
 szd x:=szL x.Symbols+szL x.Rules
theorem z2D (x:Grammar):Sz.szd x=szL x.Symbols+szL x.Rules:=rfl
end Go.Proofs.YtcegfmageiicaaaGreat
namespace Go.Proofs.YtcegfmageiicaaaGreat
open Go Go.E
theorem z4h {α ρ:Type}{p:α→Bool}{r:α→ρ}:∀ {xs:List α} {i:Nat} {f:Nat→α→Unit→Option (Unit ⊕ ρ)},(∀ k x,x∈xs→(p x=true→f k x ()=some (.inr (r x)))∧(p x=false→f k x ()=some (.inl ()))) →
  findL f i xs ()=some (match xs.find? p with|some x=>.inr (r x)|none=>.inl ())
 | [],_,_,_=>rfl
 | x::xs,i,f,h=>by
  have h0:=h i x (by simp)
  cases hp:p x with
  | true=>simp[findL,h0.1 hp,List.find?,hp]
  | false=>
   have ih:=z4h (p:=p) (r:=r) (xs:=xs) (i:=i+1) (f:=f) fun k y hy=>h k y (by simp[hy])
   simp[findL,h0.2 hp,List.find?,hp,ih]
theorem z5z {α β:Type}{p:α→Bool}{g:Nat→α→β}{B:Nat}{f:Nat→α→List β→Option (List β)}(hf:∀ k x s,s.length<B→f k x s=some (if p x=true then s++[g k x] else s)):∀ (xs:List α) (i:Nat) (s:List β),s.length+xs.length≤B →
  ∃ ys,eachL f i xs s=some (s++ys)∧ys.length≤xs.length
 | [],i,s,_=>⟨[],by simp[eachL],by simp⟩
 | x::xs,i,s,h=>by
  simp only[lnC] at h
  by_cases hp:p x=true
  ·obtain⟨ys,h1,h2⟩:=z5z hf xs (i+1) (s++[g i x]) (by simp;omega)
   exact⟨g i x::ys,by simp[eachL,hf i x s (by omega),hp,h1],by simp;omega⟩
  ·obtain⟨ys,h1,h2⟩:=z5z hf xs (i+1) s (by omega)
   exact⟨ys,by simp[eachL,hf i x s (by omega),hp,h1],by simp;omega⟩
theorem z4V (x lo hi:Int):q5I x lo hi=some (decide (lo≤x∧x≤hi)):=by
 unfold q5I;split<;>simp_all<;>omega
theorem z9h (x lo hi:Int):q4a x lo hi=some (decide (lo≤x∧x≤hi)):=by
 unfold q4a;split<;>simp_all<;>omega
theorem j1t (r:Rule)(k:Int):q6R r k=q4P r k:=by
 unfold q6R q4P;rw[z4V,z9h]
def j1u (a:At_):Bool:=decide (a.Mode=1∨a.Mode=2)
theorem j5J:z4E=q5X:=rfl
theorem j5s:z4F=q7B:=rfl
theorem k3X {g:Grammar}(h:∀ y∈g.Symbols,y.Attributes.length≤1048576)(s:ByteArray):∃ y b,q5T g s=some (y,b)∧q5U g s=some (y,b)∧y.Attributes.length≤1048576:=by
 have h1:=z4h (p:=fun y:Symbol=>decide (y.Name=s)) (r:=fun y=>(y,true)) (xs:=g.Symbols) (i:=0) (f:=z0E s) fun k y hy=>by
  have hg:q9P y=some y:=by
   unfold q9P;have:=h y hy;rw[q3C (by simp only[List.length_nil];constructor<;>omega)]
  unfold z0E;rw[hg];constructor<;>intro hp<;>simp_all
 have h2:=z4h (p:=fun y:Symbol=>decide (y.Name=s)) (r:=fun y=>(y,true)) (xs:=g.Symbols) (i:=0) (f:=z0J s) fun k y hy=>by
  unfold z0J;constructor<;>intro hp<;>simp_all
 unfold q5T q5U
 rw[h1,h2]
 cases hf:g.Symbols.find? (fun y:Symbol=>decide (y.Name=s)) with
 | none=>exact⟨_,_,rfl,rfl,by simp⟩
 | some y=>exact⟨_,_,rfl,rfl,h y (List.mem_of_find?_eq_some hf)⟩
theorem k2E {g:Grammar}(h:∀ y∈g.Symbols,y.Attributes.length≤1048576)(s:ByteArray):∃ l,q5v g s=some l∧q5w g s=some l∧l.length≤1048576:=by
 obtain⟨y,b,h1,h2,h3⟩:=k3X h s
 obtain⟨l,h4,h5⟩:=z5z (p:=j1u) (g:=fun _ x=>x) (B:=1048577) (f:=q5X) (fun k x s hs=>by
  have hg:((s.length:Int)+1)*40≤140737488355328∧(s.length:Int)+1≤9223372036854775807:=by constructor<;>omega
  unfold q5X j1u
  rw[q3C hg]
  by_cases m1:x.Mode=1
  ·rw[ifP m1,ifP (by simp[m1])];rfl
  ·rw[ifN m1]
   by_cases m2:x.Mode=2
   ·rw[ifP m2,ifP (by simp[m2])];rfl
   ·rw[ifN m2,ifN (by simp[m1,m2])];rfl) y.Attributes 0 [] (by simp;omega)
 simp only[List.nil_append] at h4
 refine⟨l,?_,?_,by omega⟩
 ·unfold q5v;rw[h1];dsimp only[bsS];rw[h4];rfl
 ·unfold q5w;rw[h2];dsimp only[bsS];rw[j5J,h4];rfl
theorem k2F (r:Rule)(k:Nat)(hk:k≤r.Right.length)(hl:r.Right.length≤1048576):∃ x,q4P r (k:Int)=some x:=by
 unfold q4P
 by_cases h0:(k:Int)=0
 ·exact⟨_,ifP h0⟩
 ·rw[ifN h0,z4V,bsS,ifP (by simp;omega),q3C (by constructor<;>omega),q3C (by omega)]
  obtain⟨x,hx⟩:∃ x,r.Right[((k:Int)-1).toNat]?=some x:=⟨_,List.getElem?_eq_getElem (by omega)⟩
  exact⟨x,by rw[hx];rfl⟩
theorem k3Y (k:Nat)(B:Nat)(hB:B≤4398046511104):∀ (l:List At_) (i:Nat) (s:List Oc),s.length+l.length≤B→∃ ys,eachL (q6d k) i l s=some (s++ys)∧ys.length≤l.length:=fun l i s h=>
 z5z (p:=fun _=>true) (g:=fun _ x=>(⟨(k:Int),x.Name⟩:Oc)) (B:=B) (f:=q6d k) (fun j x s hs=>by
  have hg:((s.length:Int)+1)*24≤140737488355328∧(s.length:Int)+1≤9223372036854775807:=by constructor<;>omega
  unfold q6d
  rw[q3C hg,ifP rfl]) l i s h
theorem k1n (k:Nat):z5Z (k:Int)=q6d k:=rfl
theorem k1o {g:Grammar}{r:Rule}(h:∀ y∈g.Symbols,y.Attributes.length≤1048576)(hr:r.Right.length≤1048576):∃ l,q6p g r=some l∧q6q g r=some l∧l.length≤1099512676352:=by
 have key:∀ m k (s:List Oc),k+m=r.Right.length+1→s.length≤k*1048576→∃ l,eachN (q7r g r) k m s=some l∧q4l (q5s g r) (s,(k:Int))=some l∧l.length≤(k+m)*1048576:=by
  intro m
  induction m with
  | zero=>
   intro k s hk hs
   refine⟨s,rfl,q3F ?_,by simpa using hs⟩
   unfold q5s;dsimp only;rw[ifN (by omega)]
  | succ m ih=>
   intro k s hk hs
   obtain⟨x,hx⟩:=k2F r k (by omega) hr
   obtain⟨p,hp1,hp2,hp3⟩:=k2E h x
   obtain⟨ys,hy1,hy2⟩:=k3Y k 4398046511104 (by omega) p 0 s (by omega)
   obtain⟨l,h1,h2,h3⟩:=ih (k+1) (s++ys) (by omega) (by simp;omega)
   refine⟨l,?_,?_,by rw[show k+(m+1)=k+1+m by omega];exact h3⟩
   ·have e:q7r g r k s=some (s++ys):=by
     unfold q7r;rw[j1t,hx,bsS,hp2,bsS,hy1];rfl
    simp only[eachN,e,bsS];exact h1
   ·have e:q5s g r (s,(k:Int))=some (.inl (s++ys,((k+1:Nat):Int))):=by
     unfold q5s;dsimp only
     rw[ifP (by omega),hx,bsS,hp1,bsS,k1n,hy1,bsS,q3C (by constructor<;>omega)];rfl
    rw[q3S e];exact h2
 obtain⟨l,h1,h2,h3⟩:=key (r.Right.length+1) 0 [] (by omega) (by simp)
 refine⟨l,?_,?_,by omega⟩
 ·unfold q6p
  have e:q4l (q5s g r) (([]:List Oc),0)=some l:=h2
  rw[e];rfl
 ·unfold q6q
  rw[q3C (by constructor<;>omega),h1];rfl
theorem k3Z {α:Type}[Sz α]{x:α}:∀ {l:List α},x∈l→Sz.szd x≤szL l
 | [],h=>by simp at h
 | y::l,h=>by
  rcases List.mem_cons.1 h with rfl|h
  ·simp only[szL];omega
  ·have:=k3Z h;simp only[szL];omega
theorem q9B {g:Grammar}(h:Sz.szd g≤1048576):∀ y∈g.Symbols,y.Attributes.length≤1048576:=fun y hy=>by
 have h1:=k3Z hy
 have h2:=j1s y
 have h3:=z2D g
 have h4:=q5r y.Attributes
 omega
theorem q5i {r:Rule}(h:Sz.szd r≤1048576):r.Right.length≤1048576:=by
 have h1:=z6Z r
 have h2:=q5r r.Right
 omega
end Go.Proofs.YtcegfmageiicaaaGreat
namespace Go.Proofs.YtcegfmageiicaaaGreat
open Go Go.E
def Valid (r:Rl_):Prop:=0≤r.N∧r.N≤16∧(r.Rows.length:Int)=r.N∧∀ x∈r.Rows,0≤x∧x≤((2 ^ r.N.toNat:Nat):Int)-1
instance (r:Rl_):Decidable (Valid r):=by unfold Valid;infer_instance
def z7C (r:Rl_)(i:Int):Int:=r.Rows.getD i.toNat 0
def bit (x:Int)(k:Int):Prop:=x.toNat >>> k.toNat &&& 1=1
instance (x k:Int):Decidable (bit x k):=by unfold bit;infer_instance
def inN (r:Rl_)(i:Int):Prop:=0≤i∧i≤r.N-1
instance (r:Rl_) (i:Int):Decidable (inN r i):=by unfold inN;infer_instance
def hasP (r:Rl_)(i k:Int):Prop:=Valid r∧inN r i∧inN r k∧bit (z7C r i) k
instance (r:Rl_) (i k:Int):Decidable (hasP r i k):=by unfold hasP;infer_instance
def j4n (r:Rl_)(i:Int)(x:Int):Rl_:=⟨r.N,r.Rows.set i.toNat x⟩
def orI (x y:Int):Int:=((x.toNat ||| y.toNat:Nat):Int)
def addP (r:Rl_)(i k:Int):Rl_:=if Valid r∧inN r i∧inN r k then j4n r i (orI (z7C r i) ((2 ^ k.toNat:Nat):Int)) else r
theorem Valid.row {r:Rl_}(h:Valid r){i:Int}(hi:inN r i){x:Int}(hx:r.Rows[i.toNat]?=some x):z7C r i=x∧0≤x∧x≤65535:=by
 have hm:=h.2.2.2 x (List.mem_of_getElem? hx)
 have hp:2 ^ r.N.toNat≤2 ^ 16:=Nat.pow_le_pow_right (by decide) (by have:=h.2.1;omega)
 refine⟨by unfold z7C;simp[hx],hm.1,by omega⟩
theorem x0L {n:Int}(h:n≤16):2 ^ n.toNat≤65536:=by
 have:2 ^ n.toNat≤2 ^ 16:=Nat.pow_le_pow_right (by decide) (by omega)
 simpa using this
theorem j7c (n:Int):1≤2 ^ n.toNat:=Nat.one_le_two_pow
theorem k4a {r:Rl_}(h0:0≤r.N)(h1:r.N≤16)(h2:(r.Rows.length:Int)=r.N):decide (Valid r)=!(r.Rows.any fun x=>!decide (0≤x∧x≤((2 ^ r.N.toNat:Nat):Int)-1)):=by
 by_cases hv:Valid r
 ·rw[decide_eq_true hv,eq_comm,Bool.not_eq_true',List.any_eq_false]
  intro x hx
  simp only[Bool.not_eq_true',decide_eq_false_iff_not,Decidable.not_not]
  exact hv.2.2.2 x hx
 ·rw[decide_eq_false hv,eq_comm,Bool.not_eq_false',List.any_eq_true]
  refine Classical.byContradiction fun hn=>hv ⟨h0,h1,h2,fun x hx=>Classical.byContradiction fun hb=>hn ⟨x,hx,?_⟩⟩
  rw[decide_eq_false hb];rfl
theorem k8b {x k:Int}(h:(((((x.toNat >>> k.toNat:Nat):Int)).toNat &&& (1:Int).toNat:Nat):Int)=1):x.toNat >>> k.toNat &&& 1=1:=by
 have:(1:Int).toNat=1:=rfl
 rw[tnC,this] at h
 exact_mod_cast h
theorem k8c {x k:Int}(h:x.toNat >>> k.toNat &&& 1=1):(((((x.toNat >>> k.toNat:Nat):Int)).toNat &&& (1:Int).toNat:Nat):Int)=1:=by
 have:(1:Int).toNat=1:=rfl
 rw[tnC,this]
 exact_mod_cast h
theorem z3a (x lo hi:Int):q5I x lo hi=some (decide (lo≤x∧x≤hi)):=by
 unfold q5I;split<;>simp_all<;>omega
theorem z6t (x lo hi:Int):q4a x lo hi=some (decide (lo≤x∧x≤hi)):=by
 unfold q4a;split<;>simp_all<;>omega
theorem q6A (r:Rl_):q4A r=some (decide (Valid r)):=by
 unfold q4A
 simp only[z3a,bsS,decide_eq_true_eq]
 by_cases h1:0≤r.N∧r.N≤16
 ·rw[ifP h1]
  by_cases h2:(r.Rows.length:Int)=r.N
  ·rw[ifP h2]
   have key:=j0J (c:=false) (n:=r.N.toNat) (i:=0) (p:=fun k=>∃ x,r.Rows[k]?=some x∧¬ (0≤x∧x≤((2 ^ r.N.toNat:Nat):Int)-1)) (f:=z0U r) fun k hk=>by
    have hk' : k<r.Rows.length:=by omega
    obtain⟨x,hx⟩:∃ x,r.Rows[k]?=some x:=⟨_,List.getElem?_eq_getElem hk'⟩
    simp only[Nat.zero_add]
    unfold z0U
    rw[hx,bsS,q3C h1.1,q3C (by omega),z3a,bsS]
    simp only[decide_eq_true_eq]
    refine⟨fun ⟨y,hy,hn⟩=>?_,fun hn=>?_⟩
    ·cases hy;rw[ifN hn]
    ·by_cases hb:0≤x∧x≤((2 ^ r.N.toNat:Nat):Int)-1
     ·rw[ifP hb]
     ·exact absurd ⟨x,rfl,hb⟩ hn
   simp only[Nat.zero_add] at key
   by_cases hv:Valid r
   ·rw[key.2 fun k hk ⟨x,hx,hn⟩=>hn (hv.2.2.2 x (List.mem_of_getElem? hx))]
    simp[hv]
   ·rw[key.1 (Classical.byContradiction fun hn=>hv ⟨h1.1,h1.2,h2,fun x hx=>?_⟩)]
    ·simp[hv]
    ·obtain⟨k,hk⟩:=List.getElem?_of_mem hx
     have hk':=x0B hk
     exact Classical.byContradiction fun hb=>hn ⟨k,by omega,x,hk,hb⟩
  ·rw[ifN h2,decide_eq_false fun hv=>h2 hv.2.2.1]
 ·rw[ifN h1,decide_eq_false fun hv=>h1 ⟨hv.1,hv.2.1⟩]
theorem z1d (r:Rl_):q4V r=some (decide (Valid r)):=by
 unfold q4V
 simp only[z6t,bsS,decide_eq_true_eq]
 by_cases h1:0≤r.N∧r.N≤16
 ·rw[ifP h1]
  simp only[bsS,Bool.false_eq_true,if_true,if_false,decide_eq_true_eq]
  by_cases h2:(r.Rows.length:Int)=r.N
  ·rw[ifP h2]
   have h3:∀ x,q7c x r=some (!decide (0≤x∧x≤((2 ^ r.N.toNat:Nat):Int)-1)):=fun x=>by
    unfold q7c
    rw[q3C h1.1,q3C (by omega),z6t];rfl
   have h4:∀ (xs:List Int) (i:Nat),∃ z,findL (q5l r) i xs ()=some z∧((xs.any fun x=>!decide (0≤x∧x≤((2 ^ r.N.toNat:Nat):Int)-1))=true→∃ k:Nat,z=.inr (k:Int))∧((xs.any fun x=>!decide (0≤x∧x≤((2 ^ r.N.toNat:Nat):Int)-1))=false→z=.inl ()):=by
    intro xs
    induction xs with
    | nil=>intro i;exact⟨_,rfl,by simp,by simp⟩
    | cons x xs ih=>
     intro i
     simp only[findL,q5l,h3,bsS,List.any_cons]
     by_cases hb:0≤x∧x≤((2 ^ r.N.toNat:Nat):Int)-1
     ·simp only[hb,and_self,decide_true,Bool.not_true,Bool.false_eq_true,if_false,bsS,Bool.false_or]
      exact ih (i+1)
     ·simp only[hb,decide_false,Bool.not_false,if_true,bsS,Bool.true_or]
      exact⟨_,rfl,fun _=>⟨i,rfl⟩,by simp⟩
   unfold q4r q4F
   obtain⟨z,hz,hz1,hz2⟩:=h4 r.Rows 0
   rw[hz,k4a h1.1 h1.2 h2]
   cases ha:(r.Rows.any fun x=>!decide (0≤x∧x≤((2 ^ r.N.toNat:Nat):Int)-1)) with
   | true=>obtain⟨k,rfl⟩:=hz1 ha;simp
   | false=>rw[hz2 ha];simp
  ·rw[ifN h2,decide_eq_false fun hv=>h2 hv.2.2.1];simp only[bsS,Bool.false_eq_true,if_true,if_false,decide_eq_true_eq]
 ·rw[ifN h1,decide_eq_false fun hv=>h1 ⟨hv.1,hv.2.1⟩];simp only[bsS,Bool.false_eq_true,if_true,if_false,decide_eq_true_eq]
theorem q9a (r:Rl_)(i k:Int):q7V r i k=some (decide (hasP r i k)):=by
 unfold q7V
 simp only[q6A,z3a,bsS,decide_eq_true_eq]
 by_cases hv:Valid r
 ·have hv1:=hv.1;have hv2:=hv.2.1;have hv3:=hv.2.2.1
  rw[ifP hv,q3C (by constructor<;>omega)];simp only[bsS,Bool.false_eq_true,if_true,if_false,decide_eq_true_eq]
  by_cases hi:0≤i∧i≤r.N-1
  ·rw[ifP hi,q3C (by constructor<;>omega)];simp only[bsS,Bool.false_eq_true,if_true,if_false,decide_eq_true_eq]
   by_cases hk:0≤k∧k≤r.N-1
   ·obtain⟨x,hx⟩:∃ x,r.Rows[i.toNat]?=some x:=⟨_,List.getElem?_eq_getElem (by omega)⟩
    have hrow:=hv.row (i:=i) hi hx
    rw[ifP hk,q3C hi.1,hx,bsS,q3C hk.1,q3C ⟨hrow.2.1,hk.1,by omega⟩,q3C ⟨Int.natCast_nonneg _,by decide⟩]
    simp only[bsS,Bool.false_eq_true,if_true,if_false,decide_eq_true_eq]
    congr 1
    refine decide_eq_decide.2 ⟨fun hb=>⟨hv,hi,hk,?_⟩,fun hb=>?_⟩
    ·unfold bit;rw[hrow.1];exact k8b hb
    ·have:=hb.2.2.2;unfold bit at this;rw[hrow.1] at this;exact k8c this
   ·rw[ifN hk];simp only[bsS,Bool.false_eq_true,if_true,if_false,decide_eq_true_eq];rw[ decide_eq_false fun h=>hk h.2.2.1]
  ·rw[ifN hi];simp only[bsS,Bool.false_eq_true,if_true,if_false,decide_eq_true_eq];rw[ decide_eq_false fun h=>hi h.2.1]
 ·rw[ifN hv];simp only[bsS,Bool.false_eq_true,if_true,if_false,decide_eq_true_eq];rw[ decide_eq_false fun h=>hv h.1]
theorem z7a (r:Rl_)(i k:Int):z0g r i k=some (decide (hasP r i k)):=by
 rw[← q9a]
 unfold z0g q7V
 simp only[q6A,z1d,z3a,z6t]
theorem j4o:q7F=q9o:=by
 funext r;unfold q7F q9o q9G
 by_cases h:((([]:List Int).length:Int)+(r.Rows.length:Int))*8≤140737488355328∧(([]:List Int).length:Int)+(r.Rows.length:Int)≤9223372036854775807
 ·rw[q3C h,q3C h];rfl
 ·unfold grd;rw[ifN h,ifN h];rfl
theorem k6m:z0g=q7V:=by
 funext r i k;rw[z7a,q9a]
theorem j7d:z4e=q7p:=by
 funext r i k;unfold z4e q7p;simp only[j4o,q6A,z1d,z3a,z6t]
theorem z8P:q6V=q5j:=by
 funext n;unfold q6V q5j;simp only[z3a,z6t]
theorem z6u {r:Rl_}(h:r.Rows.length≤1048576):q9o r=some r:=by
 unfold q9o;rw[q3C (by simp only[List.length_nil];constructor<;>omega)]
theorem k6n {r:Rl_}(h:r.Rows.length≤1048576)(i k:Int):∃ x,q7p r i k=some x∧x.Rows.length=r.Rows.length:=by
 unfold q7p
 simp only[z6u h,q6A,z3a,bsS,decide_eq_true_eq]
 by_cases hv:Valid r
 ·have hv1:=hv.1;have hv2:=hv.2.1;have hv3:=hv.2.2.1
  rw[ifP hv,q3C (by constructor<;>omega)];simp only[bsS,Bool.false_eq_true,if_true,if_false,decide_eq_true_eq]
  by_cases hi:0≤i∧i≤r.N-1
  ·rw[ifP hi,q3C (by constructor<;>omega)];simp only[bsS,Bool.false_eq_true,if_true,if_false,decide_eq_true_eq]
   by_cases hk:0≤k∧k≤r.N-1
   ·obtain⟨x,hx⟩:∃ x,r.Rows[i.toNat]?=some x:=⟨_,List.getElem?_eq_getElem (by omega)⟩
    have hrow:=hv.row (i:=i) hi hx
    rw[ifP hk,q3C hi.1,hx,bsS,q3C hk.1,q3C ⟨hk.1,by omega⟩,q3C ⟨hrow.2.1,Int.natCast_nonneg _⟩]
    exact⟨_,rfl,by simp⟩
   ·rw[ifN hk];exact⟨_,rfl,rfl⟩
  ·rw[ifN hi];simp only[bsS,Bool.false_eq_true,if_true,if_false,decide_eq_true_eq];exact⟨_,rfl,rfl⟩
 ·rw[ifN hv];simp only[bsS,Bool.false_eq_true,if_true,if_false,decide_eq_true_eq];exact⟨_,rfl,rfl⟩
end Go.Proofs.YtcegfmageiicaaaGreat
namespace Go.Proofs.YtcegfmageiicaaaGreat
open Go Go.E
theorem j4p (k:Nat):∀ (l:List At_) (i:Nat) (s:List Oc),s.length+l.length≤4398046511104→eachL (q6d k) i l s=some (s++l.map fun x=>(⟨(k:Int),x.Name⟩:Oc))
 | [],i,s,_=>by simp[eachL]
 | x::l,i,s,h=>by
  simp only[lnC] at h
  have hg:((s.length:Int)+1)*24≤140737488355328∧(s.length:Int)+1≤9223372036854775807:=by constructor<;>omega
  have e:q6d k i x s=some (s++[(⟨(k:Int),x.Name⟩:Oc)]):=by unfold q6d;rw[q3C hg]
  simp only[eachL,e,bsS]
  rw[j4p k l (i+1) _ (by simp;omega)];simp
end Go.Proofs.YtcegfmageiicaaaGreat
namespace Go.E
section
variable {α:Type}{lt:α→α→Bool}
theorem j5K (irr:∀ a,lt a a=false)(tr:∀ a b c,lt a b=true→lt b c=true→lt a c=true) :
  ∀ {xs ys:List α},xs.Pairwise (fun a b=>lt a b=true)→ys.Pairwise (fun a b=>lt a b=true)→(∀ a,a∈xs↔a∈ys)→xs=ys
 | [],[],_,_,_=>rfl
 | [],y::ys,_,_,h=>absurd ((h y).2 (by simp)) (by simp)
 | x::xs,[],_,_,h=>absurd ((h x).1 (by simp)) (by simp)
 | x::xs,y::ys,hx,hy,h=>by
  rw[List.pairwise_cons] at hx hy
  have asym:∀ a b,lt a b=true→lt b a=true→False:=fun a b h1 h2=>by have:=tr a b a h1 h2;rw[irr] at this;cases this
  have hxy:x=y:=by
   have h1:=(h x).1 (by simp)
   have h2:=(h y).2 (by simp)
   rcases List.mem_cons.1 h1 with e|h1
   ·exact e
   rcases List.mem_cons.1 h2 with e|h2
   ·exact e.symm
   exact (asym x y (hx.1 y h2) (hy.1 x h1)).elim
  subst hxy
  congr 1
  refine j5K irr tr hx.2 hy.2 fun a=>?_
  constructor
  ·intro ha
   rcases List.mem_cons.1 ((h a).1 (by simp[ha])) with e|h1
   ·subst e;have:=hx.1 _ ha;rw[irr] at this;cases this
   ·exact h1
  ·intro ha
   rcases List.mem_cons.1 ((h a).2 (by simp[ha])) with e|h1
   ·subst e;have:=hy.1 _ ha;rw[irr] at this;cases this
   ·exact h1
theorem k2G (tr:∀ a b c,lt a b=true→lt b c=true→lt a c=true)(tot:∀ a b,lt a b=false→lt b a=false→a=b){l:List α}{o:α}{k:Nat}(hl:l.Pairwise (fun a b=>lt a b=true))
  (hb:∀ a∈l.take k,lt a o=true) (ha:∀ y,l[k]?=some y→lt y o=false∧y≠o):(l.take k++o::l.drop k).Pairwise (fun a b=>lt a b=true):=by
 have hs:(l.take k++l.drop k).Pairwise (fun a b=>lt a b=true):=by rw[List.take_append_drop];exact hl
 rw[List.pairwise_append] at hs
 have ho:∀ z∈l.drop k,lt o z=true:=by
  cases hd:l.drop k with
  | nil=>intro z hz;cases hz
  | cons y r=>
   have hy:l[k]?=some y:=by
    have:(l.drop k)[0]?=some y:=by rw[hd];rfl
    simpa using this
   obtain⟨h1,h2⟩:=ha y hy
   have h3:lt o y=true:=by
    cases h:lt o y with
    | true=>rfl
    | false=>exact absurd (tot _ _ h1 h) h2
   intro z hz
   rcases List.mem_cons.1 hz with e|hz
   ·rw[e];exact h3
   ·have:=hs.2.1;rw[hd,List.pairwise_cons] at this
    exact tr _ _ _ h3 (this.1 z hz)
 rw[List.pairwise_append,List.pairwise_cons]
 refine⟨hs.1,⟨ho,hs.2.1⟩,fun a h1 b h2=>?_⟩
 rcases List.mem_cons.1 h2 with e|h2
 ·rw[e];exact hb a h1
 ·exact hs.2.2 a h1 b h2
end
section
variable {α:Type}[DecidableEq α]{lt:α→α→Bool}
def q5q:List α→List α
 | []=>[]
 | [x]=>[x]
 | x::y::l=>if x=y then q5q (y::l) else x::q5q (y::l)
theorem z8s {a:α}:∀ {l:List α},a∈q5q l↔a∈l
 | []=>Iff.rfl
 | [x]=>Iff.rfl
 | x::y::l=>by
  unfold q5q
  have ih:=z8s (a:=a) (l:=y::l)
  split
  ·rename_i e;subst e;rw[ih];simp
  ·rw[List.mem_cons,ih];simp
theorem z8t (tr:∀ a b c,lt a b=true→lt b c=true→lt a c=true)(tot:∀ a b,lt a b=false→lt b a=false→a=b) :
  ∀ {l:List α},l.Pairwise (fun a b=>lt b a=false)→(q5q l).Pairwise (fun a b=>lt a b=true)
 | [],_=>List.Pairwise.nil
 | [x],_=>by simp[q5q]
 | x::y::l,h=>by
  unfold q5q
  rw[List.pairwise_cons] at h
  have ih:=z8t tr tot h.2
  split
  ·exact ih
  ·rename_i hne
   rw[List.pairwise_cons]
   refine⟨fun z hz=>?_,ih⟩
   have h1:lt x y=true:=by
    cases e:lt x y with
    | true=>rfl
    | false=>exact absurd (tot _ _ e (h.1 y (by simp))) hne
   rcases List.mem_cons.1 (z8s.1 hz) with e|hz
   ·rw[e];exact h1
   ·have h2:=(List.pairwise_cons.1 h.2).1 z hz
    cases e:lt y z with
    | true=>exact tr _ _ _ h1 e
    | false=>rw[← tot _ _ e h2];exact h1
theorem j0K {a:α}:∀ {l:List α},q5q (l++[a])=if l.getLast?=some a then q5q l else q5q l++[a]
 | []=>by simp[q5q]
 | [x]=>by
  simp only[q5q,List.cons_append,List.nil_append,List.getLast?_singleton,Option.some.injEq]
  by_cases e:x=a
  ·subst e;simp
  ·simp[e]
 | x::y::l=>by
  have ih:=j0K (a:=a) (l:=y::l)
  simp only[List.cons_append] at ih ⊢
  have e:(x::y::l).getLast?=(y::l).getLast?:=by simp[List.getLast?_cons_cons]
  rw[e]
  show (if x=y then q5q (y::(l++[a])) else x::q5q (y::(l++[a])))=_
  rw[ih]
  show _=if (y::l).getLast?=some a then (if x=y then q5q (y::l) else x::q5q (y::l)) else (if x=y then q5q (y::l) else x::q5q (y::l))++[a]
  split<;>split<;>simp
theorem j0L {l:List α}{i:Nat}{a b:α}(ha:l[i]?=some a)(hb:l[i+1]?=some b):q5q (l.take (i+2))=if a=b then q5q (l.take (i+1)) else q5q (l.take (i+1))++[b]:=by
 have h1:l.take (i+2)=l.take (i+1)++[b]:=by rw[show i+2=(i+1)+1 from rfl,List.take_add_one,hb];rfl
 have h2:(l.take (i+1)).getLast?=some a:=by rw[List.take_add_one,ha];simp
 rw[h1,j0K,h2]
 by_cases e:a=b
 ·simp[e]
 ·simp[e]
end
end Go.E
namespace Go.Proofs.YtcegfmageiicaaaGreat
open Go Go.E
mutual
def z7b:Expr→List Oc
 | ⟨a0,a1,a2,a3,a4,a5,a6⟩=>(if a0=3 then [⟨a2,a5⟩] else [])++z1V a6
def z1V:List Expr→List Oc
 | []=>[]
 | x::xs=>z7b x++z1V xs
end
mutual
def fuE:Expr→Nat
 | ⟨_,_,_,_,_,_,a6⟩=>fuEs a6+1
def fuEs:List Expr→Nat
 | []=>0
 | x::xs=>max (fuE x) (fuEs xs)
end
theorem z3I (e:Expr):fuE e=fuEs e.Args+1:=by cases e;rfl
theorem z5A:∀ {l:List Expr} {x:Expr},x∈l→fuE x≤fuEs l
 | y::l,x,h=>by
  simp only[fuEs]
  rcases List.mem_cons.1 h with e|h
  ·subst e;omega
  ·have:=z5A h;omega
theorem z7c (e:Expr):z7b e=(if e.Kind=3 then [⟨e.Pos,e.Name⟩] else [])++z1V e.Args:=by cases e;rfl
mutual
theorem j8z:∀ e:Expr,(z7b e).length≤1+z2Z e
 | ⟨a0,a1,a2,a3,a4,a5,a6⟩=>by
  have:=j5L a6
  simp only[z7b,z2Z,List.length_append]
  split<;>simp<;>omega
theorem j5L:∀ l:List Expr,(z1V l).length≤z5x l
 | []=>by simp[z1V]
 | x::xs=>by
  have h1:=j8z x
  have h2:=j5L xs
  simp only[z1V,z5x,List.length_append];omega
end
theorem z3V {α:Type}[Sz α]{x:α}:∀ {l:List α},x∈l→Sz.szd x<szL l
 | [],h=>by simp at h
 | y::l,h=>by
  rcases List.mem_cons.1 h with rfl|h
  ·simp only[szL];omega
  ·have:=z3V h;simp only[szL];omega
theorem k4b {e x:Expr}(h:x∈e.Args):Sz.szd x<Sz.szd e:=by
 have h1:=q8Z e
 have h2:=z3V h
 omega
theorem k4c {e:Expr}(h:Sz.szd e≤1048576):(z7b e).length≤1048577:=by
 have h1:=j8z e
 have h2:z2Z e=Sz.szd e:=rfl
 omega
theorem k0f:∀ (m:Nat) (e:Expr) (o:List Oc),fuE e≤m→o.length+(z7b e).length≤4398046511104→q4R m e o=some (true,o++z7b e):=by
 intro m
 induction m with
 | zero=>intro e o h;rw[z3I] at h;omega
 | succ m ih=>
  have hl:∀ (l:List Expr) (i:Nat) (o:List Oc),fuEs l≤m→o.length+(z1V l).length≤4398046511104→findL (q4u (q4R m)) i l o=some (.inl (o++z1V l)):=by
   intro l
   induction l with
   | nil=>intro i o _ _;simp[findL,z1V]
   | cons x l ihl=>
    intro i o hf hb
    simp only[fuEs] at hf
    simp only[z1V,List.length_append] at hb
    have hx:=ih x o (by omega) (by omega)
    simp only[findL,q4u,q5J,hx,bsS,Bool.not_true,Bool.false_eq_true,if_false]
    rw[ihl _ _ (by omega) (by rw[List.length_append];omega),z1V,List.append_assoc]
  intro e o hf hb
  rw[z3I] at hf
  show q5k (q4R m) e o=_
  have hb':=hb
  rw[z7c,List.length_append] at hb'
  have h1:q8b e o=some (true,o++if e.Kind=3 then [⟨e.Pos,e.Name⟩] else []):=by
   unfold q8b
   by_cases hk:e.Kind=3
   ·rw[ifP hk] at hb' ⊢
    rw[ifP hk,q3C]
    simp only[lnC,List.length_nil] at hb'
    constructor<;>omega
   ·rw[ifN hk,ifN hk,List.append_nil]
  unfold q5k
  rw[h1,bsS]
  dsimp only
  rw[ifP rfl]
  unfold q3N q3T
  rw[hl _ _ _ (by omega) (by rw[List.length_append];omega),z7c]
  simp[onr]
theorem k6o {e:Expr}(h:(z7b e).length≤4398046511104):q6S e []=some (true,z7b e):=
 q9u (fuE e) fun m hm=>by simpa using k0f m e [] hm (by simpa using h)
theorem k0g {α:Type}{s:List α}{k:Nat}{x:α}(h:k<s.length):(s.set k x).take (k+1)=s.take k++[x]:=by
 rw[List.take_add_one,List.take_set,List.set_eq_of_length_le (by simp;omega)]
 simp[List.getElem?_set,h]
theorem k2H {a:List Oc}{b:Nat}(ha:a.length≤4398046511104)(hb:1≤b)(hba:b<a.length):∀ (m j k:Nat) (s:List Oc),b+j+m=a.length→1≤j→1≤k→k≤b+j-1→s.length=a.length→s.take k=q5q (a.take (b+j))→s.drop (b+j-1)=a.drop (b+j-1) →
  ∃ s' k',q4l (q4e (b:Int)) (s,(k:Int),(j:Int))=some (s',((k' : Nat):Int))∧k'≤s'.length∧s'.take k'=q5q a:=by
 intro m
 induction m with
 | zero=>
  intro j k s hm hj hk hkj hs ht hd
  refine⟨s,k,q3F ?_,by omega,?_⟩
  ·unfold q4e
   dsimp only
   rw[ifN (by simp only[tnC,List.length_drop];omega)]
  ·rw[ht,show b+j=a.length by omega,List.take_length]
 | succ m ih=>
  intro j k s hm hj hk hkj hs ht hd
  obtain⟨x,hx⟩:∃ x,a[b+j]?=some x:=⟨_,List.getElem?_eq_getElem (by omega)⟩
  obtain⟨y,hy⟩:∃ y,a[b+j-1]?=some y:=⟨_,List.getElem?_eq_getElem (by omega)⟩
  obtain⟨z,hz⟩:∃ z,s[k]?=some z:=⟨_,List.getElem?_eq_getElem (by omega)⟩
  have hsx:s[b+j]?=some x:=by
   have:=congrArg (fun l=>l[1]?) hd
   simp only[List.getElem?_drop] at this
   rw[show b+j-1+1=b+j by omega] at this
   rw[this,hx]
  have hsy:s[b+(j-1)]?=some y:=by
   have:=congrArg (fun l=>l[0]?) hd
   simp only[List.getElem?_drop,Nat.add_zero] at this
   rw[show b+(j-1)=b+j-1 by omega,this,hy]
  have hc:=j0L (i:=b+j-1) (b:=x) hy (by rw[show b+j-1+1=b+j by omega];exact hx)
  rw[show b+j-1+2=b+(j+1) by omega,show b+j-1+1=b+j by omega] at hc
  have hd2:s.drop (b+(j+1)-1)=a.drop (b+(j+1)-1):=by
   have:=congrArg (fun l=>l.drop 1) hd
   simp only[List.drop_drop] at this
   rw[show b+(j+1)-1=b+j-1+1 by omega];exact this
  have e1:((j:Int)-1).toNat=j-1:=by omega
  by_cases hxy:x=y
  ·have e:q4e (b:Int) (s,(k:Int),(j:Int))=some (.inl (s,(k:Int),((j+1:Nat):Int))):=by
    unfold q4e
    dsimp only
    rw[ifP (by simp only[tnC,List.length_drop];omega),q3C (by omega)]
    simp only[tnC]
    rw[hsx,bsS,q3C (by constructor<;>omega),q3C (by omega),e1,hsy,bsS,ifP hxy,bsS]
    dsimp only
    rw[q3C (by constructor<;>omega)];rfl
   rw[q3S e]
   exact ih (j+1) k s (by omega) (by omega) hk (by omega) hs (by rw[hc,ifP hxy.symm,ht]) hd2
  ·have e:q4e (b:Int) (s,(k:Int),(j:Int))=some (.inl (s.set k x,((k+1:Nat):Int),((j+1:Nat):Int))):=by
    unfold q4e
    dsimp only
    rw[ifP (by simp only[tnC,List.length_drop];omega),q3C (by omega)]
    simp only[tnC]
    rw[hsx,bsS,q3C (by constructor<;>omega),q3C (by omega),e1,hsy,bsS,ifN hxy,q3C (by omega),q3C (by omega),hz,bsS,q3C (by constructor<;>omega),bsS]
    dsimp only
    rw[q3C (by constructor<;>omega)];rfl
   rw[q3S e]
   refine ih (j+1) (k+1) _ (by omega) (by omega) (by omega) (by omega) (by rw[List.length_set];exact hs) ?_ ?_
   ·rw[k0g (by omega),ht,hc,ifN (fun h=>hxy h.symm)]
   ·rw[List.drop_set,ifP (by omega)];exact hd2
theorem k0h {a:List Oc}(ha:a.length≤4398046511104):∀ (m k:Nat),k+m=a.length→1≤k→q5q (a.take k)=a.take k →
  (q4l (q4f a) (k:Int)).bind (onr (fun r1=>some r1) fun _=>some a)=some (q5q a):=by
 intro m
 induction m with
 | zero=>
  intro k hm hk hc
  have e:q4f a (k:Int)=some (.inr (.inl ())):=by
   unfold q4f
   dsimp only
   rw[ifN (by omega)]
  rw[q3F e,bsS]
  show some a=_
  rw[show k=a.length by omega,List.take_length] at hc
  rw[hc]
 | succ m ih=>
  intro k hm hk hc
  obtain⟨x,hx⟩:∃ x,a[k]?=some x:=⟨_,List.getElem?_eq_getElem (by omega)⟩
  obtain⟨y,hy⟩:∃ y,a[k-1]?=some y:=⟨_,List.getElem?_eq_getElem (by omega)⟩
  have hct:=j0L (i:=k-1) (b:=x) hy (by rw[show k-1+1=k by omega];exact hx)
  rw[show k-1+2=k+1 by omega,show k-1+1=k by omega] at hct
  have htk:a.take (k+1)=a.take k++[x]:=by rw[List.take_add_one,hx];rfl
  have e1:((k:Int)-1).toNat=k-1:=by omega
  by_cases hxy:x=y
  ·obtain⟨s',k',h1,h2,h3⟩:=k2H (b:=k) ha hk (by omega) m 1 k a (by omega) (by omega) hk (by omega) rfl (by rw[hct,ifP hxy.symm,hc]) rfl
   have hl:(s'.take k'++List.replicate (s'.length-k') (⟨(0:Int),(⟨#[]⟩:ByteArray)⟩:Oc)).take k'=q5q a:=by
    rw[List.take_append_of_le_length (by simp;omega),List.take_take,Nat.min_self,h3]
   have e:q4f a (k:Int)=some (.inr (.inr (q5q a))):=by
    unfold q4f
    dsimp only
    rw[ifP (by omega),q3C (by omega)]
    simp only[tnC]
    rw[hx,bsS,q3C (by constructor<;>omega),q3C (by omega),e1,hy,bsS,ifP hxy,q3C (by omega),q3C (by omega)]
    have h1' : q4l (q4e (k:Int)) (a,(k:Int),1)=some (s',((k' : Nat):Int)):=h1
    rw[h1',bsS]
    dsimp only
    simp only[tnC]
    rw[q3C (by omega),q3C (by omega),q3C (by omega),q3C (by simp;omega),hl]
   rw[q3F e,bsS];rfl
  ·have e:q4f a (k:Int)=some (.inl ((k+1:Nat):Int)):=by
    unfold q4f
    dsimp only
    rw[ifP (by omega),q3C (by omega)]
    simp only[tnC]
    rw[hx,bsS,q3C (by constructor<;>omega),q3C (by omega),e1,hy,bsS,ifN hxy,q3C (by constructor<;>omega)];rfl
   rw[q3S e]
   exact ih (k+1) (by omega) (by omega) (by rw[hct,ifN (fun h=>hxy h.symm),hc,htk])
theorem k2I {a:List Oc}(ha:a.length≤4398046511104):q5C a=some (q5q a):=by
 unfold q5C
 by_cases h:(a.length:Int)<2
 ·rw[ifP h]
  match a,h with
  | [],_=>rfl
  | [x],_=>rfl
  | x::y::l,h=>simp only[lnC] at h;omega
 ·rw[ifN h]
  refine k0h ha (a.length-1) 1 (by omega) (Nat.le_refl _) ?_
  match a,h with
  | x::l,_=>rfl
def attrs (e:Expr):List Oc:=q5q (j8b (z7b e))
theorem k4d {o:Oc}{e:Expr}:o∈attrs e↔o∈z7b e:=by
 unfold attrs j8b
 rw[z8s,List.mem_mergeSort]
theorem j2P {e:Expr}(h:Sz.szd e≤1048576):q6T e=some (attrs e):=by
 have hl:=k4c h
 have hs:(j8b (z7b e)).length=(z7b e).length:=by unfold j8b;exact List.length_mergeSort _
 unfold q6T
 rw[k6o (by omega),bsS]
 dsimp only
 unfold q6e
 rw[q3C (by omega),bsS,k2I (by omega)];rfl
end Go.Proofs.YtcegfmageiicaaaGreat
namespace Go.Proofs.YtcegfmageiicaaaGreat
open Go Go.E
theorem k4e {ρ:Type}{g:Nat→Option ρ}(hm:∀ n r,g n=some r→g (n+1)=some r){n:Nat}{r:ρ}(h:g n=some r):recO g=some r:=by
 have up:∀ (k n:Nat) (r:ρ),g n=some r→g (n+k)=some r:=by
  intro k
  induction k with
  | zero=>intro n r h;exact h
  | succ k ih=>intro n r h;exact hm _ _ (ih n r h)
 refine q9u n fun m hm=>?_
 have h1:=up (m-n) n r h
 rwa[show n+(m-n)=m by omega] at h1
theorem j1v {α σ:Type}{f g:Nat→α→σ→Option σ}(h:∀ k x s q,f k x s=some q→g k x s=some q):∀ (xs:List α) (i:Nat) (s q:σ),eachL f i xs s=some q→eachL g i xs s=some q
 | [],i,s,q,hq=>hq
 | x::xs,i,s,q,hq=>by
  simp only[eachL] at hq ⊢
  obtain⟨t,h1,h2⟩:=bd hq
  rw[h _ _ _ _ h1]
  exact j1v h xs _ _ _ h2
theorem j8A (a b:Oc):z4y a b=some (z4n a b):=by
 unfold z4y z4n
 by_cases h1:a.Pos<b.Pos
 ·simp[h1]
 ·by_cases h2:a.Pos=b.Pos
  ·simp[h2]
  ·simp[h1,h2]
abbrev z8u (l:List Oc):Prop:=l.Pairwise fun a b=>z4n a b=true
theorem k6p {l:List Oc}{o:Oc}(hl:l.length≤4398046511104):∀ (m j:Nat),j+m=l.length→(∀ a∈l.take j,z4n a o=true) →
  ∃ k:Nat,q4l (z4z l o) (j:Int)=some ((k:Nat):Int)∧k≤l.length∧(∀ a∈l.take k,z4n a o=true)∧∀ y,l[k]?=some y→z4n y o=false:=by
 intro m
 induction m with
 | zero=>
  intro j hj ha
  refine⟨j,q3F ?_,by omega,ha,fun y hy=>?_⟩
  ·unfold z4z;rw[ifN (by omega)]
  ·rw[List.getElem?_eq_none (by omega)] at hy;cases hy
 | succ m ih=>
  intro j hj ha
  obtain⟨x,hx⟩:∃ x,l[j]?=some x:=⟨_,List.getElem?_eq_getElem (by omega)⟩
  cases hb:z4n x o with
  | false=>
   refine⟨j,q3F ?_,by omega,ha,fun y hy=>?_⟩
   ·unfold z4z
    rw[ifP (by omega),q3C (by omega)]
    simp only[tnC]
    rw[hx,bsS,j8A,bsS,ifN (by rw[hb];simp)]
   ·rw[hx] at hy;cases hy;exact hb
  | true=>
   have e:z4z l o (j:Int)=some (.inl ((j+1:Nat):Int)):=by
    unfold z4z
    rw[ifP (by omega),q3C (by omega)]
    simp only[tnC]
    rw[hx,bsS,j8A,bsS,ifP hb,q3C (by constructor<;>omega)];rfl
   rw[q3S e]
   refine ih (j+1) (by omega) fun a h=>?_
   rw[List.take_add_one,hx] at h
   rcases List.mem_append.1 h with h|h
   ·exact ha a h
   ·simp at h;rw[h];exact hb
theorem k4f {l:List Oc}{o:Oc}(hl:l.length<4398046511104)(hs:z8u l):∃ q,j0j l o=some q∧z8u q∧(∀ a,a∈q↔a=o∨a∈l)∧q.length≤l.length+1:=by
 obtain⟨k,h1,h2,h3,h4⟩:=k6p (l:=l) (o:=o) (by omega) l.length 0 (by omega) (by simp)
 have h1' : q4l (z4z l o) 0=some ((k:Nat):Int):=h1
 have hput:∀ (hne:∀ y,l[k]?=some y→y≠o),z8u (l.take k++[o]++l.drop k)∧(∀ a,a∈l.take k++[o]++l.drop k↔a=o∨a∈l)∧(l.take k++[o]++l.drop k).length≤l.length+1:=fun hne=>by
  refine⟨?_,fun a=>?_,by simp;omega⟩
  ·have:=k2G (lt:=z4n) lessO_swo.trans z9n (k:=k) hs h3 fun y hy=>⟨h4 y hy,hne y hy⟩
   simpa using this
  ·have:a∈l↔a∈l.take k∨a∈l.drop k:=by rw[← List.mem_append,List.take_append_drop]
   rw[this]
   simp only[List.mem_append,List.mem_singleton]
   constructor
   ·rintro ((h|h)|h)<;>simp[h]
   ·rintro (h|h|h)<;>simp[h]
 unfold j0j
 rw[h1',bsS]
 by_cases hk:k<l.length
 ·obtain⟨x,hx⟩:∃ x,l[k]?=some x:=⟨_,List.getElem?_eq_getElem hk⟩
  rw[ifP (by omega),q3C (by omega)]
  simp only[tnC]
  rw[hx,bsS]
  by_cases hxo:x=o
  ·rw[ifP hxo]
   refine⟨l,rfl,hs,fun a=>?_,by omega⟩
   have:=List.mem_of_getElem? hx
   constructor
   ·exact .inr
   ·rintro (h|h)
    ·rw[h,← hxo];exact this
    ·exact h
  ·rw[ifN hxo,q3C (by omega),q3C (by omega),q3C (by simp;omega),q3C (by simp;omega),q3C (by omega),q3C (by omega),q3C (by simp;omega)]
   exact⟨_,rfl,hput fun y hy=>by rw[hx] at hy;cases hy;exact hxo⟩
 ·rw[ifN (by omega)]
  simp only[tnC]
  rw[q3C (by omega),q3C (by omega),q3C (by simp;omega),q3C (by simp;omega),q3C (by omega),q3C (by omega),q3C (by simp;omega)]
  exact⟨_,rfl,hput fun y hy=>by rw[List.getElem?_eq_none (by omega)] at hy;cases hy⟩
theorem k8N:∀ (n:Nat) (e:Expr) (l q:List Oc),q7Z n e l=some q→q7Z (n+1) e l=some q:=by
 intro n
 induction n with
 | zero=>intro e l q h;cases h
 | succ n ih=>
  intro e l q h
  have h' : z3c (q7Z n) e l=some q:=h
  show z3c (q7Z (n+1)) e l=some q
  have m1:∀ (xs:List Expr) (i:Nat) (s q:List Oc),eachL (z4b (q7Z n)) i xs s=some q→eachL (z4b (q7Z (n+1))) i xs s=some q:=j1v fun k x s q hq=>by
   unfold z4b at hq ⊢
   obtain⟨y,h3,h4⟩:=bd hq
   rw[ih _ _ _ h3];exact h4
  unfold z3c at h' ⊢
  by_cases hk:e.Kind=3
  ·rw[ifP hk] at h' ⊢
   obtain⟨y,h1,h2⟩:=bd h'
   obtain⟨s,h3,h4⟩:=bd h2
   rw[h1,bsS,m1 _ _ _ _ h3];exact h4
  ·rw[ifN hk] at h' ⊢
   obtain⟨s,h3,h4⟩:=bd h'
   have m2:eachL (j1b (q7Z (n+1))) 0 e.Args l=some s:=m1 _ _ _ _ h3
   rw[m2];exact h4
theorem k2J:∀ (m:Nat) (e:Expr) (l:List Oc),fuE e≤m→z8u l→l.length+(z7b e).length≤1099511627776 →
  ∃ q,q7Z m e l=some q∧z8u q∧(∀ a,a∈q↔a∈l∨a∈z7b e)∧q.length≤l.length+(z7b e).length:=by
 intro m
 induction m with
 | zero=>intro e l h;rw[z3I] at h;omega
 | succ m ih=>
  intro e l h hs hb
  rw[z3I] at h
  rw[z7c,List.length_append] at hb
  have hl:∀ (xs:List Expr) (i:Nat) (s:List Oc),fuEs xs≤m→z8u s→s.length+(z1V xs).length≤1099511627776 →
    ∃ q,eachL (z4b (q7Z m)) i xs s=some q∧z8u q∧(∀ a,a∈q↔a∈s∨a∈z1V xs)∧q.length≤s.length+(z1V xs).length:=by
   intro xs
   induction xs with
   | nil=>intro i s _ hs _;exact⟨s,rfl,hs,by simp[z1V],by omega⟩
   | cons x xs ihl=>
    intro i s hf hs hb
    simp only[fuEs] at hf
    simp only[z1V,List.length_append] at hb
    obtain⟨q,h1,h2,h3,h4⟩:=ih x s (by omega) hs (by omega)
    obtain⟨q2,k1,k2,k3,k4⟩:=ihl (i+1) q (by omega) h2 (by omega)
    refine⟨q2,?_,k2,fun a=>?_,by simp only[z1V,List.length_append];omega⟩
    ·simp only[eachL,z4b,h1,bsS];exact k1
    ·rw[k3,h3,z1V,List.mem_append,or_assoc]
  show ∃ q,z3c (q7Z m) e l=some q∧_
  unfold z3c
  by_cases hk:e.Kind=3
  ·rw[ifP hk] at hb ⊢
   simp only[lnC,List.length_nil] at hb
   obtain⟨y,h1,h2,h3,h4⟩:=k4f (l:=l) (o:=⟨e.Pos,e.Name⟩) (by omega) hs
   obtain⟨q,k1,k2,k3,k4⟩:=hl e.Args 0 y (by omega) h2 (by omega)
   refine⟨q,?_,k2,fun a=>?_,?_⟩
   ·rw[h1,bsS,k1];rfl
   ·rw[k3,h3,z7c,ifP hk,List.mem_append,List.mem_singleton]
    constructor
    ·rintro ((h|h)|h)<;>simp[h]
    ·rintro (h|h|h)<;>simp[h]
   ·rw[z7c,ifP hk];simp;omega
  ·rw[ifN hk] at hb ⊢
   simp only[List.length_nil] at hb
   obtain⟨q,k1,k2,k3,k4⟩:=hl e.Args 0 l (by omega) hs (by omega)
   have k1' : eachL (j1b (q7Z m)) 0 e.Args l=some q:=k1
   refine⟨q,?_,k2,fun a=>?_,?_⟩
   ·rw[k1'];rfl
   ·rw[k3,z7c,ifN hk];simp
   ·rw[z7c,ifN hk];simpa using k4
theorem j8B (e:Expr):z8u (attrs e):=by
 refine z8t lessO_swo.trans z9n ?_
 have h:=List.pairwise_mergeSort (le:=fun x y=>!z4n y x) (fun a b c h1 h2=>by
  simp only[Bool.not_eq_true'] at h1 h2 ⊢
  exact lessO_swo.ntrans _ _ _ h2 h1) (fun a b=>by
  cases h:z4n a b with
  | false=>simp[h]
  | true=>
   cases h2:z4n b a with
   | false=>simp
   | true=>have:=lessO_swo.trans _ _ _ h h2;rw[lessO_swo.irrefl] at this;cases this) (z7b e)
 unfold j8b
 exact h.imp fun {a b} h=>by simpa using h
theorem j7e {e:Expr}(h:Sz.szd e≤1048576):q6o e=some (attrs e):=by
 have hl:=k4c h
 obtain⟨q,h1,h2,h3,h4⟩:=k2J _ e [] (Nat.le_refl _) List.Pairwise.nil (by simp;omega)
 have hq:q=attrs e:=j5K (lt:=z4n) lessO_swo.irrefl lessO_swo.trans h2 (j8B e) fun a=>by rw[h3,k4d];simp
 subst hq
 have hr:j3x e []=some (attrs e):=k4e (fun n q=>k8N n e [] q) h1
 unfold q6o
 rw[hr];rfl
end Go.Proofs.YtcegfmageiicaaaGreat
namespace Go.Proofs.YtcegfmageiicaaaGreat
open Go Go.E
theorem k8O:∀ (n:Nat) (e q:Expr),q7z n e=some q→q7z (n+1) e=some q:=by
 intro n
 induction n with
 | zero=>intro e q h;cases h
 | succ n ih=>
  intro e q h
  have h' : z1x (q7z n) e=some q:=h
  show z1x (q7z (n+1)) e=some q
  unfold z1x at h' ⊢
  obtain⟨s,h1,h2⟩:=bd h'
  rw[j1v (g:=z4a (q7z (n+1))) (fun k x s q hq=>by
   unfold z4a at hq ⊢
   obtain⟨y,h3,h4⟩:=bd hq
   rw[ih _ _ h3,bsS];exact h4) _ _ _ _ h1]
  exact h2
theorem k2K:∀ (m:Nat) (e:Expr),fuE e≤m→Sz.szd e≤1048576→q7z m e=some e:=by
 intro m
 induction m with
 | zero=>intro e h;rw[z3I] at h;omega
 | succ m ih=>
  intro e h hs
  rw[z3I] at h
  have hl:∀ (l:List Expr) (i:Nat) (s:List Expr),(∀ x∈l,fuE x≤m∧Sz.szd x≤1048576)→s.length+l.length≤4398046511→eachL (z4a (q7z m)) i l s=some (s++l):=by
   intro l
   induction l with
   | nil=>intro i s _ _;simp[eachL]
   | cons x l ihl=>
    intro i s hx hb
    simp only[lnC] at hb
    have h1:=ih x (hx x (by simp)).1 (hx x (by simp)).2
    have e1:z4a (q7z m) i x s=some (s++[x]):=by
     unfold z4a;rw[h1,bsS,q3C (by constructor<;>omega)]
    simp only[eachL,e1,bsS]
    rw[ihl _ _ (fun y hy=>hx y (by simp[hy])) (by simp;omega)];simp
  show z1x (q7z m) e=some e
  unfold z1x
  have h2:=q8Z e
  have h3:=q5r e.Args
  rw[hl e.Args 0 [] (fun x hx=>⟨by have:=z5A hx;omega,by have:=k4b hx;omega⟩) (by simp;omega),List.nil_append,bsS]
  cases e;rfl
theorem k8P {e:Expr}(h:Sz.szd e≤1048576):j0i e=some e:=k4e (fun n q=>k8O n e q) (k2K _ e (Nat.le_refl _) h)
theorem k2L:z9s=j0i:=by
 have h:∀ n,z2j n=q7z n:=by
  intro n
  induction n with
  | zero=>rfl
  | succ n ih=>funext e;show z6O (z2j n) e=z1x (q7z n) e;rw[ih];rfl
 funext e
 show recO (fun n=>z2j n e)=recO fun n=>q7z n e
 congr 1;funext n;rw[h]
def k0i:Expr:=⟨0,0,0,0,⟨#[]⟩,⟨#[]⟩,[]⟩
def eqAt (r:Rule)(o:Oc):Expr×Bool:=match r.Equations.find? fun q=>decide (q.At=o) with
 | some q=>(q.Expr,true)
 | none=>(k0i,false)
theorem z9J {r:Rule}{q:Eqn}(h:q∈r.Equations):Sz.szd q.Expr≤Sz.szd r:=by
 have h1:=z6Z r
 have h2:=z5y q
 have h3:=z3V h
 have h4:=q8Z q.Expr
 omega
theorem j7f {r:Rule}(h:Sz.szd r≤1048576)(o:Oc):Sz.szd (eqAt r o).1≤1048576:=by
 unfold eqAt
 cases hf:r.Equations.find? (fun q=>decide (q.At=o)) with
 | none=>show Sz.szd k0i≤_;have:Sz.szd k0i=0:=rfl;omega
 | some q=>have:=z9J (List.mem_of_find?_eq_some hf);show Sz.szd q.Expr≤_;omega
theorem j2Q {r:Rule}(h:Sz.szd r≤1048576)(o:Oc):q5B r o=some (eqAt r o):=by
 have key:∀ (l:List Eqn) (i:Nat),(∀ q∈l,Sz.szd q.Expr≤1048576)→findL (q7T o) i l ()=some (match l.find? fun q=>decide (q.At=o) with
   | some q=>.inr (q.Expr,true)
   | none=>.inl ()):=by
  intro l
  induction l with
  | nil=>intro i _;rfl
  | cons q l ih=>
   intro i hq
   by_cases hp:q.At=o
   ·simp[findL,q7T,hp,k8P (hq q (by simp))]
   ·simp[findL,q7T,hp]
    exact ih _ fun y hy=>hq y (by simp[hy])
 unfold q5B eqAt
 rw[key _ _ fun q hq=>by have:=z9J hq;omega]
 cases r.Equations.find? (fun q=>decide (q.At=o))<;>rfl
theorem k0j {r:Rule}(h:Sz.szd r≤1048576)(o:Oc):q5B r o=some (eqAt r o)∧q7E r o=some (eqAt r o):=by
 have e:q7E=q5B:=by
  have e1:z3A=q7T:=by funext a k x u;unfold z3A q7T;rw[k2L]
  funext r o;unfold q7E q5B;rw[e1]
 rw[e]
 exact⟨j2Q h o,j2Q h o⟩
theorem k2M:q8a=q5x:=by
 funext l o
 unfold q8a q5x q3P
 have e:z0T o=q3J o:=by
  funext k x u
  unfold z0T q3J
  by_cases h:x=o
  ·rw[ifP h,ifP h.symm]
  ·rw[ifN h,ifN fun e=>h e.symm]
 rw[e]
 cases ((findL (q3J o) 0 l ()).bind <| onr (fun r1=>some r1) fun _=>some (-1))<;>rfl
theorem k2N (l:List Oc)(o:Oc):∃ k,q5x l o=some k:=by
 have h:q3P l o=some (ixF l o):=by
  unfold q3P
  refine j4m fun k x=>⟨fun e=>?_,fun e=>?_⟩
  ·unfold q3J;rw[ifP e.symm]
  ·unfold q3J;rw[ifN (fun h=>e h.symm)]
 exact⟨_,by unfold q5x;rw[h];rfl⟩
theorem x0M {r x:Rl_}{i k:Int}(h:q7p r i k=some x):x.N=r.N:=by
 unfold q7p at h
 obtain⟨y,h1,h⟩:=bd h
 have hy:y=r:=by unfold q9o at h1;obtain⟨_,h1⟩:=z6E h1;exact (Option.some.inj h1).symm
 subst hy
 obtain⟨y2,_,h⟩:=bd h
 obtain⟨s1,_,h⟩:=bd h
 obtain⟨s2,_,h⟩:=bd h
 by_cases hs:s2=true
 ·rw[ifP hs] at h
  obtain⟨_,h⟩:=z6E h
  obtain⟨_,_,h⟩:=bd h
  obtain⟨_,h⟩:=z6E h
  obtain⟨_,h⟩:=z6E h
  obtain⟨_,h⟩:=z6E h
  cases h;rfl
 ·rw[ifN hs] at h
  cases h;rfl
theorem k6q (l:List Oc)(k:Nat):∀ (us:List Oc) (i:Nat) (rows:List Int) (n:Int),rows.length≤1048576 →
  ∃ rows',eachL (q6x l k) i us (rows,n)=some (rows',n)∧eachL (q8s l (k:Int)) i us (rows,n)=some (rows',n)∧rows'.length=rows.length:=by
 intro us
 induction us with
 | nil=>intro i rows n _;exact⟨rows,rfl,rfl,rfl⟩
 | cons u us ih=>
  intro i rows n h
  obtain⟨j,hj⟩:=k2N l u
  obtain⟨x,hx,hxl⟩:=k6n (r:=⟨n,rows⟩) h j (k:Int)
  have hN:=x0M hx
  obtain⟨rows',h1,h2,h3⟩:=ih (i+1) x.Rows n (by rw[hxl];exact h)
  have e1:q6x l k i u (rows,n)=some (x.Rows,n):=by
   unfold q6x
   dsimp only
   rw[hj,bsS,j7d,hx,bsS,hN]
  have e2:q8s l (k:Int) i u (rows,n)=some (x.Rows,n):=by
   unfold q8s
   dsimp only
   rw[k2M,hj,bsS,hx,bsS,hN]
  exact⟨rows',by simp only[eachL,e1,bsS];exact h1,by simp only[eachL,e2,bsS];exact h2,h3.trans hxl⟩
theorem k2O:attrs k0i=[]:=by
 have:z7b k0i=[]:=by simp[k0i,z7b,z1V]
 unfold attrs j8b
 rw[this];simp[q5q]
theorem k4g {r:Rule}(hr:Sz.szd r≤1048576)(l:List Oc)(hl:l.length≤16):∀ (m k:Nat) (rows:List Int) (n:Int),k+m=l.length→0<n→rows.length≤1048576 →
  ∃ rows',eachL (q6y r l) k (l.drop k) (rows,n)=some (rows',n)∧q4l (q5t r l) ((k:Int),rows,n)=some (rows',n)∧rows'.length=rows.length:=by
 intro m
 induction m with
 | zero=>
  intro k rows n hk hn h
  refine⟨rows,by rw[List.drop_eq_nil_of_le (by omega)];rfl,q3F ?_,rfl⟩
  unfold q5t
  dsimp only
  rw[ifN (by omega)]
 | succ m ih=>
  intro k rows n hk hn h
  obtain⟨x,hx⟩:∃ x,l[k]?=some x:=⟨_,List.getElem?_eq_getElem (by omega)⟩
  have hd:l.drop k=x::l.drop (k+1):=by
   rw[List.drop_eq_getElem_cons (by omega)]
   have:l[k]=x:=by rw[List.getElem?_eq_getElem (by omega)] at hx;exact Option.some.inj hx
   rw[this]
  obtain⟨E,B,hq⟩:∃ E B,eqAt r x=(E,B):=⟨_,_,rfl⟩
  obtain⟨rows1,h1,h2,h3⟩:=k6q l k (attrs E) 0 rows n h
  obtain⟨rows',k1,k2,k3⟩:=ih (k+1) rows1 n (by omega) hn (by omega)
  have hsz:=j7f hr x
  have hf:=k0j hr x
  rw[hq] at hsz hf
  have e1:q6y r l k x (rows,n)=some (rows1,n):=by
   unfold q6y
   dsimp only
   rw[hf.2,bsS]
   dsimp only
   rw[j2P hsz,bsS,h1];rfl
  have hin:(grd (0≤(k:Int)) <| (l[(k:Int).toNat]?).bind fun x1=>(q5B r x1).bind fun (y3,y4)=>if y4=true then ((q6o y3).bind fun y5=>(eachL (q8s l (k:Int)) 0 y5 (rows,n)).bind fun (s8,s9)=>some (s8,s9)) else some (rows,n))=some (rows1,n):=by
   rw[q3C (by omega),tnC,hx,bsS,hf.1,bsS]
   dsimp only
   cases hb:B with
   | true=>rw[ifP rfl,j7e hsz,bsS,h2,bsS]
   | false=>
    have hz:E=k0i:=by
     unfold eqAt at hq
     cases hf:r.Equations.find? (fun q=>decide (q.At=x)) with
     | none=>rw[hf] at hq;cases hq;rfl
     | some q=>rw[hf] at hq;cases hq;cases hb
    rw[hz,k2O] at h1
    simp only[eachL,Option.some.injEq,Prod.mk.injEq] at h1
    rw[ifN (by simp),h1.1]
  have e2:q5t r l ((k:Int),rows,n)=some (.inl (((k+1:Nat):Int),rows1,n)):=by
   unfold q5t
   dsimp only
   rw[ifP (by omega),ifP hn,hin,bsS]
   dsimp only
   rw[q3C (by constructor<;>omega)];rfl
  exact⟨rows',by rw[hd];simp only[eachL,e1,bsS];exact k1,by rw[q3S e2];exact k2,k3.trans h3⟩
theorem k2P {g:Grammar}{r:Rule}(h:Sz.szd g≤1048576)(hr:Sz.szd r≤1048576):∃ x,q6P g r=some x∧q6W g r=some x∧x.Rows.length≤16:=by
 obtain⟨l,h1,h2,_⟩:=k1o (q9B h) (q5i hr)
 have hem:∀ n:Nat,q5j (n:Int)=if n≤16 then some ⟨(n:Int),List.replicate n 0⟩ else some ⟨0,[]⟩:=fun n=>by
  unfold q5j
  rw[z3a,bsS]
  by_cases hn:n≤16
  ·rw[ifP (by simp;omega),q3C (by omega),ifP hn];rfl
  ·rw[ifN (by simp;omega),ifN hn]
 unfold q6P q6W
 rw[h1,h2,bsS,bsS,z8P,hem]
 by_cases hl:l.length≤16
 ·rw[ifP hl,bsS,bsS,ifN (by omega)]
  dsimp only
  by_cases h0:l.length=0
  ·have:l=[]:=List.eq_nil_of_length_eq_zero h0
   subst this
   have e:q4l (q5t r ([]:List Oc)) (0,List.replicate ([]:List Oc).length 0,((([]:List Oc).length:Nat):Int))=some (List.replicate ([]:List Oc).length 0,((([]:List Oc).length:Nat):Int)):=q3F (by unfold q5t;dsimp only;rw[ifN (by simp)])
   rw[e]
   exact⟨_,rfl,rfl,by simp⟩
  ·obtain⟨rows',k1,k2,k3⟩:=k4g hr l hl l.length 0 (List.replicate l.length 0) (l.length:Int) (by omega) (by omega) (by simp;omega)
   have k2' : q4l (q5t r l) (0,List.replicate l.length 0,(l.length:Int))=some (rows',(l.length:Int)):=k2
   rw[List.drop_zero] at k1
   rw[k1,k2']
   exact⟨_,rfl,rfl,by show rows'.length≤16;simp at k3;omega⟩
 ·rw[ifN hl,bsS,bsS,ifP (by omega)]
  have e:q4l (q5t r l) (0,([]:List Int),(0:Int))=some ([],0):=q3F (by unfold q5t;dsimp only;rw[ifP (by omega),ifN (by omega)])
  rw[e]
  exact⟨_,rfl,rfl,by simp⟩
end Go.Proofs.YtcegfmageiicaaaGreat
namespace Go.Proofs.YtcegfmageiicaaaGreat
open Go Go.E
theorem k1p {r:Rl_}(h:r.Rows.length≤1048576)(i k:Int):q7p r i k=some (addP r i k):=by
 unfold q7p
 simp only[z6u h,q6A,z3a,bsS,decide_eq_true_eq]
 by_cases hv:Valid r
 ·have hv1:=hv.1;have hv2:=hv.2.1;have hv3:=hv.2.2.1
  rw[ifP hv,q3C (by constructor<;>omega)];simp only[bsS,Bool.false_eq_true,if_true,if_false,decide_eq_true_eq]
  by_cases hi:0≤i∧i≤r.N-1
  ·rw[ifP hi,q3C (by constructor<;>omega)];simp only[bsS,Bool.false_eq_true,if_true,if_false,decide_eq_true_eq]
   by_cases hk:0≤k∧k≤r.N-1
   ·obtain⟨x,hx⟩:∃ x,r.Rows[i.toNat]?=some x:=⟨_,List.getElem?_eq_getElem (by omega)⟩
    have hrow:=hv.row (i:=i) hi hx
    rw[ifP hk,q3C hi.1,hx,bsS,q3C hk.1,q3C ⟨hk.1,by omega⟩,q3C ⟨hrow.2.1,Int.natCast_nonneg _⟩]
    have e:addP r i k=j4n r i (orI (z7C r i) ((2 ^ k.toNat:Nat):Int)):=ifP ⟨hv,hi,hk⟩
    rw[e,hrow.1];rfl
   ·rw[ifN hk]
    have e:addP r i k=r:=ifN fun h=>hk h.2.2
    rw[e]
  ·rw[ifN hi];simp only[bsS,Bool.false_eq_true,if_true,if_false,decide_eq_true_eq]
   have e:addP r i k=r:=ifN fun h=>hi h.2.1
   rw[e]
 ·rw[ifN hv];simp only[bsS,Bool.false_eq_true,if_true,if_false,decide_eq_true_eq]
  have e:addP r i k=r:=ifN fun h=>hv h.1
  rw[e]
theorem j2R {n:Int}(h0:0≤n)(h1:n≤16):q5j n=some ⟨n,List.replicate n.toNat 0⟩:=by
 unfold q5j
 rw[z3a,bsS,ifP (by simp;omega),q3C (by omega)]
theorem z8Q (r:Rl_)(i k:Int):(addP r i k).Rows.length=r.Rows.length∧(addP r i k).N=r.N:=by
 unfold addP
 split
 ·exact⟨by simp[j4n],rfl⟩
 ·exact⟨rfl,rfl⟩
theorem j2S (x k:Int):bit x k↔x.toNat.testBit k.toNat=true:=by
 unfold bit
 rw[Nat.testBit_eq_decide_div_mod_eq,Nat.shiftRight_eq_div_pow]
 simp[Nat.and_one_is_mod]
def j7g (k:Nat)(s:List Int):List Int:=s.map fun x=>if x.toNat.testBit k=true then orI x (s.getD k 0) else x
def j1Z (s:List Int):Nat→List Int
 | 0=>s
 | m+1=>j7g m (j1Z s m)
def z4W (n:Nat)(s:List Int):Prop:=s.length=n∧∀ x∈s,0≤x∧x.toNat<2 ^ n
theorem j5M (x y:Int):0≤orI x y:=by unfold orI;omega
theorem j0M (x y:Int):(orI x y).toNat=x.toNat ||| y.toNat:=by unfold orI;omega
theorem k4h {n:Nat}{s:List Int}(h:z4W n s)(k:Nat):0≤s.getD k 0∧(s.getD k 0).toNat<2 ^ n:=by
 rw[List.getD_eq_getElem?_getD]
 cases hk:s[k]? with
 | none=>simp;exact Nat.two_pow_pos n
 | some x=>exact h.2 x (List.mem_of_getElem? hk)
theorem k6r {n k:Nat}{s:List Int}(h:z4W n s):z4W n (j7g k s):=by
 refine⟨by unfold j7g;rw[lnM];exact h.1,fun x hx=>?_⟩
 unfold j7g at hx
 obtain⟨y,hy,rfl⟩:=List.mem_map.1 hx
 have h1:=h.2 y hy
 split
 ·exact⟨j5M _ _,by rw[j0M];exact Nat.or_lt_two_pow h1.2 (k4h h k).2⟩
 ·exact h1
theorem z3x {n:Nat}{s:List Int}(h:z4W n s):∀ m,z4W n (j1Z s m)
 | 0=>h
 | m+1=>k6r (z3x h m)
def Rl (s:List Int)(i j:Nat):Prop:=(s.getD i 0).toNat.testBit j=true
theorem k8Q {n k:Nat}{s:List Int}(h:z4W n s){i:Nat}(hi:i<n)(j:Nat):Rl (j7g k s) i j↔Rl s i j∨(Rl s i k∧Rl s k j):=by
 unfold Rl
 have hs:∃ x,s[i]?=some x:=⟨_,List.getElem?_eq_getElem (by rw[h.1];exact hi)⟩
 obtain⟨x,hx⟩:=hs
 have e1:s.getD i 0=x:=by rw[List.getD_eq_getElem?_getD,hx];rfl
 have e2:(j7g k s).getD i 0=if x.toNat.testBit k=true then orI x (s.getD k 0) else x:=by
  unfold j7g
  rw[List.getD_eq_getElem?_getD,List.getElem?_map,hx];rfl
 rw[e1,e2]
 by_cases hb:x.toNat.testBit k=true
 ·rw[ifP hb,j0M,Nat.testBit_or,Bool.or_eq_true];simp[hb]
 ·rw[ifN hb];simp[hb]
theorem x0N {n:Nat}{s:List Int}(h:z4W n s){i j:Nat}(hR:Rl s i j):j<n:=by
 unfold Rl at hR
 have h1:=(k4h h i).2
 apply Decidable.byContradiction
 intro hj
 have:(s.getD i 0).toNat.testBit j=false:=Nat.testBit_lt_two_pow (Nat.lt_of_lt_of_le h1 (Nat.pow_le_pow_right (by omega) (by omega)))
 rw[this] at hR;cases hR
theorem k8d {n:Nat}{s:List Int}(h:z4W n s){i j:Nat}(hR:Rl s i j):i<n:=by
 unfold Rl at hR
 apply Decidable.byContradiction
 intro hi
 have:s.getD i 0=0:=by rw[List.getD_eq_getElem?_getD,List.getElem?_eq_none (by rw[h.1];omega)];rfl
 rw[this] at hR;simp at hR
theorem k4i {n:Nat}{s:List Int}(h:z4W n s):∀ (m i j:Nat),Rl s i j→Rl (j1Z s m) i j
 | 0,_,_,hR=>hR
 | m+1,i,j,hR=>by
  have hR':=k4i h m i j hR
  exact (k8Q (z3x h m) (k8d (z3x h m) hR') j).2 (.inl hR')
theorem k1q {n k:Nat}{s:List Int}(h:z4W n s)(hk:k<n)(hn:n≤16):eachN (q8t k) 0 n s=some (j7g k s):=by
 have hkk:∃ y,s[k]?=some y:=⟨_,List.getElem?_eq_getElem (by rw[h.1];exact hk)⟩
 obtain⟨y,hy⟩:=hkk
 have ey:s.getD k 0=y:=by rw[List.getD_eq_getElem?_getD,hy];rfl
 let f:Int→Int:=fun x=>if x.toNat.testBit k=true then orI x y else x
 have hf:f y=y:=by
  show (if y.toNat.testBit k=true then orI y y else y)=y
  have:=(h.2 y (List.mem_of_getElem? hy)).1
  split
  ·unfold orI;rw[Nat.or_self];omega
  ·rfl
 obtain⟨s',h1,h2⟩:=j2O (P:=fun m t=>t=(s.take m).map f++s.drop m) (f:=q8t k) (n:=n) (i:=0) (s:=s) (by simp) (fun m t _ hm ht=>by
  subst ht
  have hms:m<s.length:=by rw[h.1];omega
  obtain⟨x,hx⟩:∃ x,s[m]?=some x:=⟨_,List.getElem?_eq_getElem hms⟩
  have hx0:=h.2 x (List.mem_of_getElem? hx)
  have hy0:=h.2 y (List.mem_of_getElem? hy)
  have g1:((s.take m).map f++s.drop m)[m]?=some x:=by
   rw[List.getElem?_append_right (by simp;omega)]
   simp only[lnM,List.length_take]
   rw[show m-min m s.length=0 by omega,List.getElem?_drop,Nat.add_zero,hx]
  have g2:((s.take m).map f++s.drop m)[k]?=some y:=by
   by_cases hkm:k<m
   ·rw[List.getElem?_append_left (by simp;omega),List.getElem?_map,List.getElem?_take,ifP hkm,hy]
    show some (f y)=_
    rw[hf]
   ·rw[List.getElem?_append_right (by simp;omega)]
    simp only[lnM,List.length_take]
    rw[List.getElem?_drop,show m+(k-min m s.length)=k by omega,hy]
  have hset:(((s.take m).map f++s.drop m).set m (f x))=(s.take (m+1)).map f++s.drop (m+1):=by
   rw[List.set_append_right _ _ (by simp;omega)]
   simp only[lnM,List.length_take]
   rw[show m-min m s.length=0 by omega,List.take_add_one,hx,List.map_append,List.append_assoc]
   congr 1
   rw[List.drop_eq_getElem_cons hms];rfl
  have hno:f x=x→((s.take m).map f++s.drop m)=(s.take (m+1)).map f++s.drop (m+1):=fun e=>by
   rw[← hset,e]
   apply List.ext_getElem?
   intro q
   rw[List.getElem?_set]
   by_cases hq:m=q
   ·subst hq
    rw[ifP rfl,g1]
    split
    ·rfl
    ·rename_i hl;exact absurd (by simp;omega) hl
   ·rw[ifN hq]
  refine⟨_,?_,rfl⟩
  unfold q8t
  rw[g1,bsS,q3C (by refine⟨hx0.1,by omega,by omega⟩),q3C ⟨Int.natCast_nonneg _,by decide⟩]
  by_cases hb:bit x (k:Int)
  ·have hb':=(j2S x k).1 hb
   rw[tnC] at hb'
   rw[ifP (k8c hb),g2,bsS,q3C ⟨hx0.1,hy0.1⟩,bsS,← hset]
   show some (List.set _ m (orI x y))=some (List.set _ m (f x))
   have:f x=orI x y:=ifP hb'
   rw[this]
  ·have hb' : ¬ x.toNat.testBit k=true:=fun h=>hb ((j2S x k).2 (by rw[tnC];exact h))
   rw[ifN (fun h=>hb (k8b h)),bsS,← hno (ifN hb')])
 rw[h1]
 subst h2
 unfold j7g
 rw[Nat.zero_add,List.take_of_length_le (by rw[h.1];exact Nat.le_refl _),List.drop_eq_nil_of_le (by rw[h.1];exact Nat.le_refl _),List.append_nil,ey]
theorem z8R {r:Rl_}(h:Valid r):z4W r.N.toNat r.Rows∧r.N.toNat≤16:=by
 obtain⟨h0,h1,h2,h3⟩:=h
 have:=j7c r.N
 exact⟨⟨by omega,fun x hx=>⟨(h3 x hx).1,by have:=(h3 x hx).2;omega⟩⟩,by omega⟩
def q6l (r:Rl_):Rl_:=if Valid r then ⟨r.N,j1Z r.Rows r.N.toNat⟩ else r
theorem k8R:z6f=q8t:=rfl
theorem j4q {r:Rl_}(h:r.Rows.length≤1048576):q7W r=some (q6l r):=by
 unfold q7W q6l
 rw[z6u h,bsS,q6A,bsS]
 by_cases hv:Valid r
 ·rw[ifP (by simpa using hv),ifP hv]
  obtain⟨hok,hn⟩:=z8R hv
  obtain⟨t,h1,h2⟩:=j2O (P:=fun m t=>t=j1Z r.Rows m) (f:=z2f r) (n:=r.N.toNat) (i:=0) (s:=r.Rows) rfl (fun k s _ hk hs=>by
   subst hs
   refine⟨_,?_,rfl⟩
   unfold z2f
   rw[k1q (z3x hok k) (by omega) hn];rfl)
  rw[h1,bsS,h2,Nat.zero_add]
 ·rw[ifN (by simpa using hv),ifN hv]
theorem j4r {r:Rl_}(h:r.Rows.length≤1048576):q7X r=some (q6l r):=by
 unfold q7X q6l
 rw[j4o,z6u h,bsS,z1d,bsS]
 by_cases hv:Valid r
 ·rw[ifP (by simpa using hv),ifP hv]
  obtain⟨hok,hn⟩:=z8R hv
  obtain⟨t,h1,h2⟩:=j2O (P:=fun m t=>t=j1Z r.Rows m) (f:=z2k) (n:=r.Rows.length) (i:=0) (s:=r.Rows) rfl (fun k s _ hk hs=>by
   subst hs
   refine⟨_,?_,rfl⟩
   unfold z2k
   have hl:=(z3x hok k).1
   rw[hl,k8R,k1q (z3x hok k) (by rw[hok.1] at hk;omega) hn];rfl)
  rw[h1,bsS,h2,Nat.zero_add,hok.1]
 ·rw[ifN (by simpa using hv),ifN hv]
theorem j5N (r:Rl_):(q6l r).Rows.length=r.Rows.length∧(q6l r).N=r.N:=by
 unfold q6l
 by_cases hv:Valid r
 ·rw[ifP hv]
  obtain⟨hok,_⟩:=z8R hv
  exact⟨by show (j1Z r.Rows r.N.toNat).length=_;rw[(z3x hok _).1,hok.1],rfl⟩
 ·rw[ifN hv];exact⟨rfl,rfl⟩
theorem j8C {r:Rl_}(h:Valid r):Valid (q6l r):=by
 obtain⟨hok,hn⟩:=z8R h
 obtain⟨k1,k2⟩:=z3x hok r.N.toNat
 obtain⟨h0,h1,h2,h3⟩:=h
 unfold q6l
 rw[ifP ⟨h0,h1,h2,h3⟩]
 refine⟨h0,h1,by show ((j1Z r.Rows r.N.toNat).length:Int)=r.N;omega,fun x hx=>?_⟩
 have:=k2 x hx
 have:=j7c r.N
 exact⟨(k2 x hx).1,by show x≤((2 ^ r.N.toNat:Nat):Int)-1;omega⟩
theorem k8S {r:Rl_}(h:Valid r)(i j:Nat):hasP r (i:Int) (j:Int)↔Rl r.Rows i j:=by
 obtain⟨hok,hn⟩:=z8R h
 unfold hasP
 have h0:=h.1
 constructor
 ·rintro⟨_,_,_,hb⟩
  have:=(j2S _ _).1 hb
  simpa[Rl,z7C] using this
 ·intro hR
  have hi:=k8d hok hR
  have hj:=x0N hok hR
  refine⟨h,⟨by omega,by omega⟩,⟨by omega,by omega⟩,(j2S _ _).2 ?_⟩
  simpa[Rl,z7C] using hR
theorem j4s {r:Rl_}(h:r.Rows.length≤1048576):z2l r=some (decide (∃ k:Nat,k<r.Rows.length∧hasP (q6l r) (k:Int) (k:Int))):=by
 unfold z2l
 rw[j4r h,bsS]
 have hl:=(j5N r).1
 have hf:∀ (k:Nat) (x:Int),(hasP (q6l r) (k:Int) (k:Int)→z4G (q6l r) k x ()=some (.inr true))∧(¬ hasP (q6l r) (k:Int) (k:Int)→z4G (q6l r) k x ()=some (.inl ())):=fun k x=>by
  unfold z4G
  rw[z7a,bsS]
  exact⟨fun hp=>ifP (by simpa using hp),fun hp=>ifN (by simpa using hp)⟩
 have hany:=z8r (c:=true) (xs:=(q6l r).Rows) (i:=0) (p:=fun k _=>hasP (q6l r) (k:Int) (k:Int)) (f:=z4G (q6l r)) fun k x _=>by
  rw[Nat.zero_add];exact hf k x
 by_cases hp:∃ k:Nat,k<r.Rows.length∧hasP (q6l r) (k:Int) (k:Int)
 ·rw[decide_eq_true hp]
  obtain⟨k,hk,hpk⟩:=hp
  rw[hany.1 ⟨k,_,List.getElem?_eq_getElem (by omega),by rw[Nat.zero_add];exact hpk⟩];rfl
 ·rw[decide_eq_false hp]
  rw[hany.2 fun k x hx hpk=>hp ⟨k,by rw[← hl];exact (List.getElem?_eq_some_iff.1 hx).1,by rw[Nat.zero_add] at hpk;exact hpk⟩];rfl
end Go.Proofs.YtcegfmageiicaaaGreat
namespace Go.Proofs.YtcegfmageiicaaaGreat
open Go Go.E
theorem z6v {α β:Type}{p:α→Bool}{g:α→β}{B:Nat}{f:Nat→α→List β→Option (List β)}(hf:∀ k x s,s.length<B→f k x s=some (if p x=true then s++[g x] else s)):∀ (xs:List α) (i:Nat) (s:List β),s.length+xs.length≤B →
  eachL f i xs s=some (s++(xs.filter p).map g)
 | [],i,s,_=>by simp[eachL]
 | x::xs,i,s,h=>by
  simp only[lnC] at h
  by_cases hp:p x=true
  ·have ih:=z6v hf xs (i+1) (s++[g x]) (by simp;omega)
   simp[eachL,hf i x s (by omega),hp,ih]
  ·have ih:=z6v hf xs (i+1) s (by omega)
   simp[eachL,hf i x s (by omega),hp,ih]
theorem j4t {α β:Type}{p:α→Bool}{g:Nat→β}{B:Nat}{f:Nat→α→List β→Option (List β)}(hf:∀ k x s,s.length<B→f k x s=some (if p x=true then s++[g k] else s)):∀ (xs:List α) (i:Nat) (s:List β),s.length+xs.length≤B →
  eachL f i xs s=some (s++((xs.zipIdx i).filter fun q=>p q.1).map fun q=>g q.2)
 | [],i,s,_=>by simp[eachL]
 | x::xs,i,s,h=>by
  simp only[lnC] at h
  by_cases hp:p x=true
  ·have ih:=j4t hf xs (i+1) (s++[g i]) (by simp;omega)
   simp[eachL,hf i x s (by omega),hp,ih,List.zipIdx_cons]
  ·have ih:=j4t hf xs (i+1) s (by omega)
   simp[eachL,hf i x s (by omega),hp,ih,List.zipIdx_cons]
theorem j1w {β:Type}{h:Nat→List β}{C n:Nat}{f:Nat→List β→Option (List β)}(hf:∀ k s,k<n→s.length≤k*C→f k s=some (s++h k))(hh:∀ k,k<n→(h k).length≤C) :
  ∀ (m k:Nat) (s:List β),k+m=n→s.length≤k*C→eachN f k m s=some (s++(List.range' k m).flatMap h)
 | 0,k,s,_,_=>by simp[eachN]
 | m+1,k,s,hk,hs=>by
  have hl:=hh k (by omega)
  have e:(k+1)*C=k*C+C:=Nat.succ_mul k C
  have ih:=j1w hf hh m (k+1) (s++h k) (by omega) (by rw[List.length_append];omega)
  simp[eachN,hf k s (by omega) hs,ih,List.range'_succ]
theorem j4u {β:Type}{h:Nat→List β}{C n:Nat}{f:(List β×Int)→Option ((List β×Int) ⊕ List β)}(hf:∀ (k:Nat) s,k<n→s.length≤k*C→f (s,(k:Int))=some (.inl (s++h k,((k+1:Nat):Int))))(he:∀ s,f (s,(n:Int))=some (.inr s))(hh:∀ k,k<n→(h k).length≤C) :
  ∀ (m k:Nat) (s:List β),k+m=n→s.length≤k*C→q4l f (s,(k:Int))=some (s++(List.range' k m).flatMap h)
 | 0,k,s,hk,_=>by
  obtain rfl:k=n:=by omega
  rw[q3F (he s)];simp
 | m+1,k,s,hk,hs=>by
  have hl:=hh k (by omega)
  have e:(k+1)*C=k*C+C:=Nat.succ_mul k C
  have ih:=j4u hf he hh m (k+1) (s++h k) (by omega) (by rw[List.length_append];omega)
  rw[q3S (hf k s (by omega) hs),ih];simp[List.range'_succ]
abbrev GOk (g:Grammar):Prop:=∀ y∈g.Symbols,y.Attributes.length≤1048576
def zS:Symbol:=⟨⟨#[]⟩,[]⟩
def zA:At_:=⟨⟨#[]⟩,0,0,false⟩
def q8k (g:Grammar)(s:ByteArray):Symbol×Bool:=match g.Symbols.find? fun y=>decide (y.Name=s) with
 | some y=>(y,true)
 | none=>(zS,false)
def z5N (y:Symbol)(s:ByteArray):At_×Bool:=match y.Attributes.find? fun a=>decide (a.Name=s) with
 | some a=>(a,true)
 | none=>(zA,false)
theorem z6w {g:Grammar}(h:GOk g)(s:ByteArray):q5T g s=some (q8k g s):=by
 have h1:=z4h (p:=fun y:Symbol=>decide (y.Name=s)) (r:=fun y=>(y,true)) (xs:=g.Symbols) (i:=0) (f:=z0E s) fun k y hy=>by
  have hg:q9P y=some y:=by
   unfold q9P;have:=h y hy;rw[q3C (by simp only[List.length_nil];constructor<;>omega)]
  unfold z0E;rw[hg];constructor<;>intro hp<;>simp_all
 unfold q5T q8k
 rw[h1]
 cases hf:g.Symbols.find? (fun y:Symbol=>decide (y.Name=s)) with
 | none=>rfl
 | some y=>rfl
theorem z4X (g:Grammar)(s:ByteArray):q5U g s=some (q8k g s):=by
 have h2:=z4h (p:=fun y:Symbol=>decide (y.Name=s)) (r:=fun y=>(y,true)) (xs:=g.Symbols) (i:=0) (f:=z0J s) fun k y hy=>by
  unfold z0J;constructor<;>intro hp<;>simp_all
 unfold q5U q8k
 rw[h2]
 cases hf:g.Symbols.find? (fun y:Symbol=>decide (y.Name=s)) with
 | none=>rfl
 | some y=>rfl
theorem z4Y {g:Grammar}(h:GOk g)(s:ByteArray):(q8k g s).1.Attributes.length≤1048576:=by
 unfold q8k
 cases hf:g.Symbols.find? (fun y:Symbol=>decide (y.Name=s)) with
 | none=>simp[zS]
 | some y=>exact h y (List.mem_of_find?_eq_some hf)
theorem j0N (y:Symbol)(s:ByteArray):q6U y s=some (z5N y s):=by
 have h2:=z4h (p:=fun y:At_=>decide (y.Name=s)) (r:=fun y=>(y,true)) (xs:=y.Attributes) (i:=0) (f:=z2h s) fun k y hy=>by
  unfold z2h;constructor<;>intro hp<;>simp_all
 unfold q6U z5N
 rw[h2]
 cases hf:y.Attributes.find? (fun y:At_=>decide (y.Name=s)) with
 | none=>rfl
 | some y=>rfl
theorem j4v (y:Symbol)(s:ByteArray):q7U y s=some (z5N y s):=j0N y s
def q6G (r:Rule)(k:Int):ByteArray:=if k=0 then r.Left else if 1≤k∧k≤(r.Right.length:Int) then r.Right.getD (k-1).toNat ⟨#[]⟩ else ⟨#[]⟩
abbrev ROk (r:Rule):Prop:=r.Right.length≤1048576
theorem z7d {r:Rule}(hl:ROk r)(k:Int):q4P r k=some (q6G r k):=by
 unfold q4P q6G
 by_cases h0:k=0
 ·rw[ifP h0,ifP h0]
 ·rw[ifN h0,ifN h0,z4V,bsS]
  by_cases h1:1≤k∧k≤(r.Right.length:Int)
  ·rw[ifP (by simpa using h1),ifP h1,q3C (by constructor<;>omega),q3C (by omega)]
   have:(k-1).toNat<r.Right.length:=by omega
   rw[List.getElem?_eq_getElem this,List.getD_eq_getElem?_getD,List.getElem?_eq_getElem this];rfl
  ·rw[ifN (by simpa using h1),ifN h1]
theorem z9K {r:Rule}(hl:ROk r)(k:Int):q6R r k=some (q6G r k):=by rw[j1t,z7d hl]
def z2c (g:Grammar)(r:Rule)(o:Oc):At_×Bool:=if 0≤o.Pos∧o.Pos≤(r.Right.length:Int) then z5N (q8k g (q6G r o.Pos)).1 o.Name else (zA,false)
theorem j1x (g:Grammar){r:Rule}(hl:ROk r)(o:Oc):q8h g r o=some (z2c g r o):=by
 unfold q8h z2c
 rw[z9h,bsS]
 by_cases h0:0≤o.Pos∧o.Pos≤(r.Right.length:Int)
 ·rw[ifP (by simpa using h0),ifP h0,z9K hl,bsS,z4X,bsS]
  dsimp only
  rw[j0N];rfl
 ·rw[ifN (by simpa using h0),ifN h0];rfl
def mayB (g:Grammar)(r:Rule)(o:Oc):Bool:=(z2c g r o).2&&decide ((z2c g r o).1.Mode=if o.Pos=0 then 1 else 2)
theorem k8T (g:Grammar){r:Rule}(hl:ROk r)(o:Oc):z8b g r o=some (mayB g r o):=by
 unfold z8b mayB
 rw[j1x g hl,bsS]
 dsimp only
 by_cases h0:o.Pos=0
 ·rw[ifP h0,ifP h0]
  by_cases h1:(z2c g r o).2=true
  ·rw[ifP h1,h1];rfl
  ·rw[ifN h1,Bool.eq_false_iff.2 h1];rfl
 ·rw[ifN h0,ifN h0]
  by_cases h1:(z2c g r o).2=true
  ·rw[ifP h1,h1];rfl
  ·rw[ifN h1,Bool.eq_false_iff.2 h1];rfl
theorem k8U {g:Grammar}(h:GOk g){r:Rule}(hl:ROk r)(o:Oc):z7R g r o=some (mayB g r o):=by
 unfold z7R mayB z2c
 rw[z4V,bsS]
 by_cases hp:0≤o.Pos∧o.Pos≤(r.Right.length:Int)
 ·rw[ifP (by simpa using hp),ifP hp,z7d hl,bsS,z6w h,bsS]
  dsimp only
  rw[j4v,bsS]
  skip
  by_cases h0:o.Pos=0
  ·rw[ifP h0,ifP h0]
   by_cases h1:(z5N (q8k g (q6G r o.Pos)).1 o.Name).2=true
   ·rw[ifP h1,h1];rfl
   ·rw[ifN h1,Bool.eq_false_iff.2 h1];rfl
  ·rw[ifN h0,ifN h0]
   by_cases h1:(z5N (q8k g (q6G r o.Pos)).1 o.Name).2=true
   ·rw[ifP h1,h1];rfl
   ·rw[ifN h1,Bool.eq_false_iff.2 h1];rfl
 ·rw[ifN (by simpa using hp),ifN hp];rfl
def reqK (g:Grammar)(r:Rule)(k:Nat):List Oc:=((q8k g (q6G r (k:Int))).1.Attributes.filter fun a=>decide (a.Mode=if (k:Int)=0 then 2 else 1)).map fun a=>(⟨(k:Int),a.Name⟩:Oc)
def reqL (g:Grammar)(r:Rule):List Oc:=(List.range' 0 (r.Right.length+1)).flatMap (reqK g r)
theorem j7h {g:Grammar}(h:GOk g)(r:Rule)(k:Nat):(reqK g r k).length≤1048576:=by
 unfold reqK;rw[lnM]
 exact Nat.le_trans (List.length_filter_le _ _) (z4Y h _)
theorem k0k {g:Grammar}(h:GOk g){r:Rule}(hl:ROk r):q9T g r=some (reqL g r):=by
 have hl' : r.Right.length≤1048576:=hl
 have key:=j1w (h:=reqK g r) (C:=1048576) (n:=r.Right.length+1) (f:=z8a g r) (fun k s hk hs=>by
  have hin:∀ m:Int,eachL (z7Z k m) 0 (q8k g (q6G r (k:Int))).1.Attributes s=some (s++((q8k g (q6G r (k:Int))).1.Attributes.filter fun a=>decide (a.Mode=m)).map fun a=>(⟨(k:Int),a.Name⟩:Oc)):=fun m=>
   z6v (B:=4398046511104) (fun j x s hs=>by
    unfold z7Z
    by_cases hm:x.Mode=m
    ·rw[ifP hm,ifP (by simpa using hm),q3C (by constructor<;>omega)];rfl
    ·rw[ifN hm,ifN (by simpa using hm)];rfl) _ 0 s (by have:=z4Y h (q6G r (k:Int));omega)
  unfold z8a reqK
  by_cases h0:(k:Int)=0
  ·rw[ifP h0,ifP h0,bsS,z9K hl,bsS,z4X,bsS]
   dsimp only
   rw[hin];rfl
  ·rw[ifN h0,ifN h0,bsS,z9K hl,bsS,z4X,bsS]
   dsimp only
   rw[hin];rfl) (fun k _=>j7h h r k) (r.Right.length+1) 0 [] (by omega) (by simp)
 unfold q9T
 rw[q3C (by constructor<;>omega),key];rfl
theorem k0l {g:Grammar}(h:GOk g){r:Rule}(hl:ROk r):q3M g r=some (reqL g r):=by
 have hl' : r.Right.length≤1048576:=hl
 have key:=j4u (h:=reqK g r) (C:=1048576) (n:=r.Right.length+1) (f:=q6g g r) (fun k s hk hs=>by
  have hin2:eachL (q8O (k:Int)) 0 (q8k g (q6G r (k:Int))).1.Attributes s=some (s++((q8k g (q6G r (k:Int))).1.Attributes.filter fun a=>decide (a.Mode=2)).map fun a=>(⟨(k:Int),a.Name⟩:Oc)):=
   z6v (B:=4398046511104) (fun j x s hs=>by
    unfold q8O
    by_cases hm:x.Mode=2
    ·rw[ifP hm,ifP (by simpa using hm),q3C (by constructor<;>omega)];rfl
    ·rw[ifN hm,ifN (by simpa using hm)];rfl) _ 0 s (by have:=z4Y h (q6G r (k:Int));omega)
  have hin1:eachL (q8P (k:Int)) 0 (q8k g (q6G r (k:Int))).1.Attributes s=some (s++((q8k g (q6G r (k:Int))).1.Attributes.filter fun a=>decide (a.Mode=1)).map fun a=>(⟨(k:Int),a.Name⟩:Oc)):=
   z6v (B:=4398046511104) (fun j x s hs=>by
    unfold q8P
    by_cases hm:x.Mode=1
    ·rw[ifP hm,ifP (by simpa using hm),q3C (by constructor<;>omega)];rfl
    ·rw[ifN hm,ifN (by simpa using hm)];rfl) _ 0 s (by have:=z4Y h (q6G r (k:Int));omega)
  unfold q6g reqK
  dsimp only
  rw[ifP (by omega),z7d hl,bsS,z6w h,bsS]
  skip
  by_cases h0:(k:Int)=0
  ·rw[ifP h0,ifP h0,hin2,bsS,bsS,q3C (by constructor<;>omega)];rfl
  ·rw[ifN h0,ifN h0,hin1,bsS,bsS,q3C (by constructor<;>omega)];rfl) (fun s=>by
  unfold q6g;dsimp only;rw[ifN (by omega)]) (fun k _=>j7h h r k) (r.Right.length+1) 0 [] (by omega) (by simp)
 unfold q3M
 have e:q4l (q6g g r) (([]:List Oc),0)=some ([]++(List.range' 0 (r.Right.length+1)).flatMap (reqK g r)):=key
 rw[e];rfl
end Go.Proofs.YtcegfmageiicaaaGreat
namespace Go.Proofs.YtcegfmageiicaaaGreat
open Go Go.E
theorem z7s (e:Expr):1≤fuE e:=by rw[z3I];omega
theorem z7t {e x:Expr}(hx:x∈e.Args):fuE x+1≤fuE e:=by
 have:=z5A hx
 have:=z3I e
 omega
theorem z1W {P:Expr→Prop}(h:∀ e,(∀ x∈e.Args,P x)→P e)(e:Expr):P e:=by
 have:∀ n e,fuE e≤n→P e:=by
  intro n
  induction n with
  | zero=>intro e he;have:=z7s e;omega
  | succ n ih=>intro e he;exact h e fun x hx=>ih x (by have:=z7t hx;omega)
 exact this _ e (Nat.le_refl _)
theorem q4J {α ρ:Type}{c:ρ}{q:α→Bool}:∀ {xs:List α} {i:Nat} {f:Nat→α→Unit→Option (Unit ⊕ ρ)},(∀ k x,x∈xs→f k x ()=some (if q x=true then .inl () else .inr c))→findL f i xs ()=some (if xs.all q=true then .inl () else .inr c)
 | [],i,f,h=>rfl
 | x::xs,i,f,h=>by
  rw[findL,h i x (by simp)]
  by_cases hx:q x=true
  ·rw[ifP hx,bsS]
   show findL f (i+1) xs ()=_
   rw[q4J fun k y hy=>h k y (by simp[hy])]
   simp[hx]
  ·rw[ifN hx];simp[hx]
theorem j4w {α:Type}{q:α→Bool}:∀ {xs:List α} {i:Nat} {f:Nat→α→Unit→Option (Unit ⊕ Int)},(∀ k x,x∈xs→f k x ()=some (if q x=true then .inr (k:Int) else .inl ()))→findL f i xs ()=some (if xs.any q=true then .inr ((i+xs.findIdx q:Nat):Int) else .inl ())
 | [],i,f,h=>rfl
 | x::xs,i,f,h=>by
  rw[findL,h i x (by simp)]
  by_cases hx:q x=true
  ·rw[ifP hx];simp[hx,List.findIdx_cons]
  ·rw[ifN hx,bsS]
   show findL f (i+1) xs ()=_
   rw[j4w fun k y hy=>h k y (by simp[hy])]
   have hx' : q x=false:=by simpa using hx
   simp only[List.any_cons,hx',Bool.false_or,List.findIdx_cons,cond_false]
   rw[show i+1+xs.findIdx q=i+(xs.findIdx q+1) by omega]
mutual
def allE (p:Expr→Bool):Expr→Bool
 | ⟨a0,a1,a2,a3,a4,a5,a6⟩=>p ⟨a0,a1,a2,a3,a4,a5,a6⟩&&k6s p a6
def k6s (p:Expr→Bool):List Expr→Bool
 | []=>true
 | x::xs=>allE p x&&k6s p xs
end
mutual
def cntE:Expr→Nat
 | ⟨_,_,_,_,_,_,a6⟩=>z7e a6+1
def z7e:List Expr→Nat
 | []=>0
 | x::xs=>cntE x+z7e xs
end
mutual
def depE:Expr→Nat
 | ⟨_,_,_,_,_,_,a6⟩=>j5t a6+1
def j5t:List Expr→Nat
 | []=>0
 | x::xs=>max (depE x) (j5t xs)
end
theorem k1r (p:Expr→Bool):∀ l,k6s p l=l.all (allE p)
 | []=>rfl
 | x::xs=>by rw[k6s,k1r p xs];rfl
theorem j1y (p:Expr→Bool)(e:Expr):allE p e=(p e&&e.Args.all (allE p)):=by
 cases e;rw[allE,k1r]
theorem j1z (e:Expr):cntE e=z7e e.Args+1:=by cases e;rfl
theorem k4j (e:Expr):depE e=j5t e.Args+1:=by cases e;rfl
mutual
theorem k1s:∀ e:Expr,cntE e≤1+z2Z e
 | ⟨a0,a1,a2,a3,a4,a5,a6⟩=>by
  have:=j8D a6
  simp only[cntE,z2Z];omega
theorem j8D:∀ l:List Expr,z7e l≤z5x l
 | []=>by simp[z7e]
 | x::xs=>by
  have h1:=k1s x
  have h2:=j8D xs
  simp only[z7e,z5x];omega
end
theorem k8e {e:Expr}(h:Sz.szd e≤1048576):cntE e≤1048577:=by
 have h1:=k1s e
 have h2:z2Z e=Sz.szd e:=rfl
 omega
mutual
theorem k4k:∀ e:Expr,depE e≤cntE e
 | ⟨_,_,_,_,_,_,a6⟩=>by
  have:=k1t a6
  simp only[depE,cntE];omega
theorem k1t:∀ l:List Expr,j5t l≤z7e l
 | []=>Nat.le_refl _
 | x::xs=>by
  have h1:=k4k x
  have h2:=k1t xs
  simp only[j5t,z7e];omega
end
theorem j8E:∀ {l:List Expr} {x:Expr},x∈l→cntE x≤z7e l
 | y::l,x,h=>by
  simp only[z7e]
  rcases List.mem_cons.1 h with e|h
  ·subst e;omega
  ·have:=j8E h;omega
theorem k4l {e x:Expr}(hx:x∈e.Args):cntE x+1≤cntE e:=by
 have:=j8E hx
 have:=j1z e
 omega
theorem k2Q (e:Expr):∀ m,fuE e≤m→cntE e≤1099511627776→z1g m e=some (cntE e:Int):=by
 induction e using z1W with
 | h e ih=>
  intro m hm hc
  obtain⟨m,rfl⟩:∃ q,m=q+1:=⟨m-1,by have:=z7s e;omega⟩
  show z3f (z1g m) e=_
  unfold z3f
  have key:∀ (l:List Expr) (i s:Nat),(∀ x∈l,x∈e.Args)→s+z7e l≤1099511627776→eachL (z3N (z1g m)) i l (s:Int)=some ((s+z7e l:Nat):Int):=by
   intro l
   induction l with
   | nil=>intro i s _ _;rfl
   | cons x l ihl=>
    intro i s hx hs
    have hxm:=hx x (by simp)
    simp only[z7e] at hs
    have h1:=ih x hxm m (by have:=z7t hxm;omega) (by omega)
    rw[eachL]
    unfold z3N
    rw[h1,bsS,q3C (by constructor<;>omega),bsS]
    have:=ihl (i+1) (s+cntE x) (fun y hy=>hx y (by simp[hy])) (by omega)
    rw[Int.natCast_add] at this
    unfold z3N at this
    rw[this,z7e]
    congr 1;omega
  rw[j1z] at hc
  have:=key e.Args 0 1 (fun _ h=>h) (by omega)
  rw[show ((1:Nat):Int)=1 from rfl] at this
  rw[this,bsS,j1z,Nat.add_comm]
theorem k4m {e:Expr}(h:cntE e≤1099511627776):z7T e=some (cntE e:Int):=q9u (fuE e) fun m hm=>k2Q e m hm h
theorem x0h (a b:Nat):(if (b:Int) > (a:Int) then (b:Int) else (a:Int))=((max a b:Nat):Int):=by
 split<;>omega
theorem j4x {f:Expr→Option Int}{g:Nat→Expr→Int→Option Int}(hg:∀ k x s,g k x s=(f x).bind fun y=>some (if y > s then y else s)):∀ (l:List Expr) (i s:Nat),(∀ x∈l,f x=some (depE x:Int))→eachL g i l (s:Int)=some ((max s (j5t l):Nat):Int)
 | [],i,s,_=>by rw[eachL,j5t,Nat.max_zero]
 | x::l,i,s,h=>by
  rw[eachL,hg,h x (by simp),bsS,bsS,x0h,j4x hg l (i+1) _ fun y hy=>h y (by simp[hy]),j5t,Nat.max_assoc]
theorem k4n (a b:Int):z2K a b=some (if b > a then b else a):=by
 unfold z2K
 by_cases h:b<a
 ·rw[ifP h,ifN (by omega)]
 ·rw[ifN h]
  split
  ·rfl
  ·congr 1;omega
theorem j5O (e:Expr):∀ m,fuE e≤m→cntE e≤1099511627776→q7m m e=some (depE e:Int)∧q7l m e=some (depE e:Int):=by
 induction e using z1W with
 | h e ih=>
  intro m hm hc
  obtain⟨m,rfl⟩:∃ q,m=q+1:=⟨m-1,by have:=z7s e;omega⟩
  show z0G (q7m m) e=_∧z0B (q7l m) e=_
  unfold z0G z0B
  have hx:∀ x∈e.Args,q7m m x=some (depE x:Int)∧q7l m x=some (depE x:Int):=fun x hx=>ih x hx m (by have:=z7t hx;omega) (by have:=k4l hx;omega)
  have k1:=j4x (f:=q7m m) (g:=z7U (q7m m)) (fun k x s=>rfl) e.Args 0 0 fun x h=>(hx x h).1
  have k2:=j4x (f:=q7l m) (g:=z4r (q7l m)) (fun k x s=>by
   unfold z4r
   congr 1;funext y
   rw[k4n,bsS]) e.Args 0 0 fun x h=>(hx x h).2
  rw[show ((0:Nat):Int)=0 from rfl] at k1 k2
  have hd:=k4k e
  rw[k4j] at hd
  rw[k1,k2]
  have hg:I64 (((max 0 (j5t e.Args):Nat):Int)+1):=by constructor<;>omega
  have he:((max 0 (j5t e.Args):Nat):Int)+1=(depE e:Int):=by rw[k4j];omega
  refine⟨?_,?_⟩
  ·rw[bsS,q3C hg,he]
  ·rw[bsS,q3C hg,he]
theorem k4o {e:Expr}(h:cntE e≤1099511627776):z5I e=some (depE e:Int):=q9u (fuE e) fun m hm=>(j5O e m hm h).1
theorem k4p {e:Expr}(h:cntE e≤1099511627776):z5G e=some (depE e:Int):=q9u (fuE e) fun m hm=>(j5O e m hm h).2
def j2D (a:Int)(n:Nat):Int:=if (n:Int)≤a then a-n else -1
theorem k4q (e:Expr):∀ m,fuE e≤m→∀ a:Int,0≤a→a≤1048576→cntE e≤1099511627776→z4q m e a=some (j2D a (cntE e)):=by
 induction e using z1W with
 | h e ih=>
  intro m hm a h0 h1 hc
  obtain⟨m,rfl⟩:∃ q,m=q+1:=⟨m-1,by have:=z7s e;omega⟩
  show z7J (z4q m) e a=_
  unfold z7J
  rw[q3C (by constructor<;>omega)]
  have hlen:e.Args.length≤cntE e:=by
   rw[j1z]
   have:∀ l:List Expr,l.length≤z7e l:=by
    intro l
    induction l with
    | nil=>simp
    | cons x l ih=>
     have:=j1z x
     simp only[z7e,lnC];omega
   have:=this e.Args;omega
  have key:∀ (n k:Nat) (s:Int),k+n=e.Args.length→-1≤s→s≤1048576→q4l (z3Z (z4q m) e) (s,(k:Int))=some (if 0≤s then j2D s (z7e (e.Args.drop k)) else s):=by
   intro n
   induction n with
   | zero=>
    intro k s hk _ _
    have hdrop:e.Args.drop k=[]:=List.drop_eq_nil_of_le (by omega)
    refine q3F ?_
    unfold z3Z
    dsimp only
    rw[ifN (by omega),hdrop]
    congr 2
    split
    ·unfold j2D;simp[z7e];omega
    ·rfl
   | succ n ihn=>
    intro k s hk hs1 hs2
    have hkl:k<e.Args.length:=by omega
    by_cases hs:0≤s
    ·have hxm:e.Args[k]∈e.Args:=List.getElem_mem hkl
     have hr:=ih _ hxm m (by have:=z7t hxm;omega) s hs hs2 (by have:=k4l hxm;omega)
     have hstep:z3Z (z4q m) e (s,(k:Int))=some (.inl (j2D s (cntE e.Args[k]),((k+1:Nat):Int))):=by
      unfold z3Z
      dsimp only
      rw[ifP (by omega),ifP hs,q3C (by omega),tnC,List.getElem?_eq_getElem hkl,bsS,hr,bsS,q3C (by constructor<;>omega)]
      rfl
     have hb1:-1≤j2D s (cntE e.Args[k]):=by unfold j2D;split<;>omega
     have hb2:j2D s (cntE e.Args[k])≤1048576:=by unfold j2D;split<;>omega
     rw[q3S hstep,ihn (k+1) _ (by omega) hb1 hb2,ifP hs]
     have hd:e.Args.drop k=e.Args[k]::e.Args.drop (k+1):=List.drop_eq_getElem_cons hkl
     rw[hd,z7e]
     congr 1
     unfold j2D
     split<;>split<;>(try split)<;>omega
    ·refine q3F ?_
     unfold z3Z
     dsimp only
     rw[ifP (by omega),ifN hs,ifN hs]
  have:=key e.Args.length 0 (a-1) (by omega) (by omega) (by omega)
  rw[show ((0:Nat):Int)=0 from rfl] at this
  rw[this,bsS,List.drop_zero,j1z]
  congr 1
  unfold j2D
  split<;>(try split)<;>(try split)<;>omega
theorem k6t {e:Expr}{a:Int}(h0:0≤a)(h1:a≤1048576)(h:cntE e≤1099511627776):j3w e a=some (j2D a (cntE e)):=q9u (fuE e) fun m hm=>k4q e m hm a h0 h1 h
end Go.Proofs.YtcegfmageiicaaaGreat
namespace Go.Proofs.YtcegfmageiicaaaGreat
open Go Go.E
theorem k2R (x lo hi:Int):q4a x lo hi=some (decide (lo≤x∧x≤hi)):=by
 unfold q4a;by_cases h:lo≤x<;>simp[h]
theorem j7i (x lo hi:Int):q5I x lo hi=some (decide (lo≤x∧x≤hi)):=by
 unfold q5I;by_cases h:lo≤x<;>simp[h]
def lowB (c:UInt8):Bool:=decide (97≤(c.toNat:Int)∧(c.toNat:Int)≤122)
def digB (c:UInt8):Bool:=decide (48≤(c.toNat:Int)∧(c.toNat:Int)≤57)
theorem j1A (c:UInt8):z4c c=some (lowB c):=by
 unfold z4c lowB;by_cases h:97≤(c.toNat:Int)<;>simp[h]
theorem k2S (c:UInt8):z6a c=some (digB c):=by
 unfold z6a digB;by_cases h:48≤(c.toNat:Int)<;>simp[h]
def allN (q:Nat→Bool):Nat→Nat→Bool
 | _,0=>true
 | i,n+1=>q i&&allN q (i+1) n
theorem j5P {q r:Nat→Bool}:∀ {n i:Nat},(∀ k,i≤k→q k=r k)→allN q i n=allN r i n
 | 0,_,_=>rfl
 | n+1,i,h=>by rw[allN,allN,h i (Nat.le_refl _),j5P fun k hk=>h k (by omega)]
theorem j1B {ρ:Type}{c:ρ}{q:Nat→Bool}:∀ {n i:Nat} {f:Nat→Unit→Option (Unit ⊕ ρ)},(∀ k,k<n→f (i+k) ()=some (if q (i+k)=true then .inl () else .inr c))→findN f i n ()=some (if allN q i n=true then .inl () else .inr c)
 | 0,i,f,h=>rfl
 | n+1,i,f,h=>by
  have h0:=h 0 (by omega)
  rw[Nat.add_zero] at h0
  rw[findN,h0]
  by_cases hx:q i=true
  ·rw[ifP hx,bsS]
   show findN f (i+1) n ()=_
   rw[j1B fun k hk=>by have:=h (k+1) (by omega);rwa[show i+(k+1)=i+1+k by omega] at this]
   simp[allN,hx]
  ·rw[ifN hx];simp[allN,hx]
def chr (s:ByteArray)(k:Nat):UInt8:=s.data.getD k 0
theorem j7j {s:ByteArray}{k:Nat}(h:k<s.size):s.data[k]?=some (chr s k):=by
 have h' : k<s.data.size:=h
 unfold chr
 rw[Array.getD_eq_getD_getElem?,Array.getElem?_eq_getElem h'];rfl
def j0O:List ByteArray:=[⟨#[105,102]⟩,⟨#[116,104,101,110]⟩,⟨#[101,108,115,101]⟩,⟨#[116,114,117,101]⟩,⟨#[102,97,108,115,101]⟩,⟨#[108,105,116]⟩,⟨#[110,111,110,101]⟩,⟨#[115,101,108,102]⟩,⟨#[111,102]⟩,⟨#[109,97,120]⟩,⟨#[109,105,110]⟩,⟨#[119,105,116,104]⟩,⟨#[104,97,115]⟩]
def memB (s:ByteArray)(l:List ByteArray):Bool:=l.any fun x=>decide (x=s)
theorem k6u {s:ByteArray}{l:List ByteArray}:memB s l=true↔s∈l:=by
 unfold memB;rw[List.any_eq_true]
 exact⟨fun ⟨x,h1,h2⟩=>by simp at h2;exact h2▸h1,fun h=>⟨s,h,by simp⟩⟩
theorem k6v {s:ByteArray}{l:List ByteArray}(h:s∉l):memB s l=false:=by
 cases hb:memB s l with
 | false=>rfl
 | true=>exact absurd (k6u.1 hb) h
def resB (s:ByteArray):Bool:=memB s j0O
theorem k6w (l:List ByteArray)(s:ByteArray):z2J l s=some (memB s l):=by
 unfold z2J
 have:∀ (l:List ByteArray) (i:Nat),findL (j0e s) i l ()=some (if memB s l=true then .inr true else .inl ()):=by
  intro l
  induction l with
  | nil=>intro i;rfl
  | cons x l ih=>
   intro i
   rw[findL]
   unfold j0e at ih ⊢
   have hc:memB s (x::l)=(decide (x=s)||memB s l):=rfl
   by_cases h:x=s
   ·rw[ifP h,hc];simp[h]
   ·rw[ifN h,bsS]
    show findL _ (i+1) l ()=_
    rw[ih,hc];simp[h]
 rw[this,bsS]
 cases memB s l<;>rfl
theorem k8V (s:ByteArray):z1u s=some (resB s):=by
 unfold z1u z3M
 rw[bsS,k6w];rfl
theorem k8W (s:ByteArray):z1F s=some (resB s):=by
 by_cases h:s∈j0O
 ·unfold j0O at h
  simp only[List.mem_cons,List.not_mem_nil,or_false] at h
  rcases h with h|h|h|h|h|h|h|h|h|h|h|h|h<;>subst h<;>rfl
 ·unfold resB
  rw[k6v h]
  unfold j0O at h
  simp only[List.mem_cons,List.not_mem_nil,or_false,not_or] at h
  obtain⟨h1,h2,h3,h4,h5,h6,h7,h8,h9,h10,h11,h12,h13⟩:=h
  unfold z1F
  rw[ifN h1,ifN h2,ifN h3,ifN h4,ifN h5,ifN h6,ifN h7,ifN h8,ifN h9,ifN h10,ifN h11,ifN h12]
  simp[h13]
def q9b (s:ByteArray):Bool:=decide (0<s.size∧s.size≤8)&&(lowB (chr s 0)&&allN (fun k=>lowB (chr s k)||digB (chr s k)) 1 (s.size-1) && !resB s)
theorem z3W (s:ByteArray):q4K s=some (q9b s):=by
 unfold q4K
 rw[j1B (c:=false) (q:=fun k=>lowB (chr s k)||digB (chr s k)) fun k hk=>by
  rw[Nat.zero_add]
  unfold z7S
  rw[j7j hk,bsS,j1A,bsS]
  cases lowB (chr s k) with
  | true=>rfl
  | false=>
   rw[ifN (by simp),k2S,bsS]
   cases digB (chr s k)<;>rfl]
 rw[bsS]
 by_cases h0:0<s.size
 ·obtain⟨n,hn⟩:∃ n,s.size=n+1:=⟨s.size-1,by omega⟩
  unfold q9b
  rw[hn,allN,Nat.add_sub_cancel]
  cases ha:allN (fun k=>lowB (chr s k)||digB (chr s k)) (0+1) n with
  | false=>
   rw[Bool.and_false,ifN (by simp)]
   rw[Nat.zero_add] at ha
   simp[onr,ha]
  | true=>
   rw[Nat.zero_add] at ha
   try rw[ha]
   simp only[Bool.and_true]
   have hc:=j7j h0
   cases hl:lowB (chr s 0) with
   | false=>
    cases hd:digB (chr s 0) with
    | false=>simp[onr]
    | true=>
     rw[ifP (by simp)]
     show (q4a _ 1 8).bind _=_
     rw[k2R,bsS]
     split
     ·rw[hc,bsS,j1A,hl];simp
     ·simp
   | true=>
    rw[ifP (by simp)]
    show (q4a _ 1 8).bind _=_
    rw[k2R,bsS]
    by_cases h8:n+1≤8
    ·rw[ifP (by simp;omega),hc,bsS,j1A,hl]
     simp[k8W,h8]
    ·rw[ifN (by simp;omega)];simp[h8]
 ·have hs:s.size=0:=by omega
  unfold q9b
  rw[hs,allN,ifP rfl,z4l,k2R,bsS]
  simp
theorem z1X (s:ByteArray):q4Z s=some (q9b s):=by
 unfold q4Z z8I
 rw[j1B (c:=false) (q:=fun k=>lowB (chr s k)||(decide (k≠0)&&digB (chr s k))) fun k hk=>by
  rw[Nat.zero_add]
  unfold j3v
  rw[j7j hk,bsS]
  have e1:(if 97≤((chr s k).toNat:Int) then some (decide (((chr s k).toNat:Int)≤122)) else some false)=some (lowB (chr s k)):=by
   unfold lowB;by_cases h:97≤((chr s k).toNat:Int)<;>simp[h]
  have e2:(if 48≤((chr s k).toNat:Int) then some (decide (((chr s k).toNat:Int)≤57)) else some false)=some (digB (chr s k)):=by
   unfold digB;by_cases h:48≤((chr s k).toNat:Int)<;>simp[h]
  rw[e1,e2,bsS,bsS]
  cases lowB (chr s k) with
  | true=>rfl
  | false=>
   by_cases hk0:k=0
   ·subst hk0;simp
   ·have:¬ ((k:Int)=0):=by omega
    rw[ifN (by simp),ifN this]
    cases digB (chr s k)<;>simp[hk0]]
 rw[bsS]
 by_cases h0:0<s.size
 ·obtain⟨n,hn⟩:∃ n,s.size=n+1:=⟨s.size-1,by omega⟩
  unfold q9b
  rw[hn,allN,Nat.add_sub_cancel,Nat.zero_add,j5P (n:=n) (i:=1) (q:=fun k=>lowB (chr s k)||(decide (k≠0)&&digB (chr s k))) (r:=fun k=>lowB (chr s k)||digB (chr s k)) fun k hk=>by simp[show k≠0 by omega]]
  have e0:(lowB (chr s 0)||(decide ((0:Nat)≠0)&&digB (chr s 0)))=lowB (chr s 0):=by simp
  rw[e0]
  cases hA:(lowB (chr s 0)&&allN (fun k=>lowB (chr s k)||digB (chr s k)) 1 n) with
  | false=>simp[onr]
  | true=>
   rw[ifP rfl]
   simp only[onr,bsS]
   by_cases h8:n+1≤8
   ·simp[k8V,h8];omega
   ·simp[h8];omega
 ·have hs:s.size=0:=by omega
  unfold q9b
  rw[hs]
  simp[onr,allN]
end Go.Proofs.YtcegfmageiicaaaGreat
namespace Go.Proofs.YtcegfmageiicaaaGreat
open Go Go.E
def satI (v:Int):Int:=if (-1000000:Int) > (if (1000000:Int)<v then (1000000:Int) else v) then (-1000000:Int) else (if (1000000:Int)<v then (1000000:Int) else v)
def truI (b:Bool):Int:=if b=true then 1 else 0
def k4r (v k:Int):Int:=if k=1 then satI v else if k=2 then k1Z v 4095 else if k=3 then truI (!decide (v=0)) else if k=4 then (if 0≤v∧v≤999 then v else 0) else 0
theorem k8X (v:Int):z6L v=some (satI v):=rfl
theorem k8Y (a b:Int):j0f a b=some (if b<a then b else a):=by
 unfold j0f
 by_cases h:a<b
 ·rw[ifP h,ifN (by omega)]
 ·rw[ifN h]
  split
  ·rfl
  ·congr 1;omega
theorem k8Z (v:Int):z4s v=some (satI v):=by
 unfold z4s
 rw[k8Y,bsS,k4n,bsS]
 congr 1
 unfold satI
 split<;>split<;>(try split)<;>(try split)<;>omega
theorem k9a (b:Bool):j3B b=some (truI b):=by unfold j3B truI;cases b<;>rfl
theorem k6x (b:Bool):z5V b=some (truI b):=by unfold z5V truI;cases b<;>rfl
theorem k6y (v k:Int):z7V v k=some (k4r v k):=by
 unfold z7V k4r
 rw[k8X,k9a,k2R]
 by_cases h1:k=1
 ·rw[ifP h1,ifP h1];rfl
 by_cases h2:k=2
 ·rw[ifN h1,ifN h1,ifP h2,ifP h2]
 by_cases h3:k=3
 ·rw[ifN h1,ifN h1,ifN h2,ifN h2,ifP h3,ifP h3];rfl
 by_cases h4:k=4
 ·rw[ifN h1,ifN h1,ifN h2,ifN h2,ifN h3,ifN h3,ifP h4,ifP h4,bsS]
  by_cases h:0≤v∧v≤999<;>simp[h]
 ·rw[ifN h1,ifN h1,ifN h2,ifN h2,ifN h3,ifN h3,ifN h4,ifN h4]
theorem k6z (v k:Int):z7L v k=some (k4r v k):=by
 unfold z7L k4r
 rw[k8Z,k6x,j7i]
 by_cases h1:k=1
 ·rw[ifP h1,ifP h1];rfl
 by_cases h2:k=2
 ·rw[ifN h1,ifN h1,ifP h2,ifP h2]
 by_cases h3:k=3
 ·rw[ifN h1,ifN h1,ifN h2,ifN h2,ifP h3,ifP h3];rfl
 by_cases h4:k=4
 ·rw[ifN h1,ifN h1,ifN h2,ifN h2,ifN h3,ifN h3,ifP h4,ifP h4,bsS]
  by_cases h:0≤v∧v≤999<;>simp[h]
 ·rw[ifN h1,ifN h1,ifN h2,ifN h2,ifN h3,ifN h3,ifN h4,ifN h4]
def j7k (v k:Int):Bool:=decide (1≤k∧k≤4)&&decide (k4r v k=v)
theorem k6A (v k:Int):z4B v k=some (j7k v k):=by
 unfold z4B z6b j7k
 rw[k2R,bsS,bsS,k6y,bsS]
 by_cases h:1≤k∧k≤4<;>simp[h]
theorem k6B (v k:Int):z4t v k=some (j7k v k):=by
 unfold z4t j7k
 rw[j7i,bsS,k6z,bsS]
 by_cases h:1≤k∧k≤4<;>simp[h]
def opT (n:Int):Int×Int×Int:=
 if 1≤n∧n≤5 then (1,1,1) else if 6≤n∧n≤8 then (2,2,2) else if n=9∨n=10 then (1,1,3) else if n=11 then (2,1,3) else if n=12 then (2,1,2) else (0,0,0)
theorem x0i {n a b c d e:Int}:(if n=a then some (decide (n=a)) else if n=b then some (decide (n=b)) else if n=c then some (decide (n=c)) else if n=d then some (decide (n=d)) else some (decide (n=e)))=some (decide (n=a∨n=b∨n=c∨n=d∨n=e)):=by
 by_cases h1:n=a
 ·simp[h1]
 by_cases h2:n=b
 ·simp[h1,h2]
 by_cases h3:n=c
 ·rw[ifN h1,ifN h2,ifP h3];simp[h3]
 by_cases h4:n=d
 ·rw[ifN h1,ifN h2,ifN h3,ifP h4];simp[h4]
 ·simp[h1,h2,h3,h4]
theorem x0j {n a b c:Int}:(if n=a then some (decide (n=a)) else if n=b then some (decide (n=b)) else some (decide (n=c)))=some (decide (n=a∨n=b∨n=c)):=by
 by_cases h1:n=a
 ·simp[h1]
 by_cases h2:n=b
 ·simp[h1,h2]
 ·simp[h1,h2]
theorem k9b (n:Int):q9U n=some (opT n):=by
 unfold q9U opT
 rw[x0i,x0j]
 simp only[bsS]
 by_cases h1:1≤n∧n≤5
 ·rw[ifP (by simp;omega),ifP h1]
 rw[ifN (by simp;omega),ifN h1]
 by_cases h2:6≤n∧n≤8
 ·rw[ifP (by simp;omega),ifP h2]
 rw[ifN (by simp;omega),ifN h2]
 by_cases h3:n=9
 ·simp[h3]
 by_cases h3' : n=10
 ·simp[h3']
 by_cases h4:n=11
 ·simp[h4]
 by_cases h5:n=12
 ·simp[h5]
 simp[h3,h3',h4,h5]
theorem k9c (n:Int):q9Q n=some (opT n):=by
 unfold q9Q opT
 rw[j7i,j7i]
 simp only[bsS]
 by_cases h1:1≤n∧n≤5
 ·rw[ifP (by simpa using h1),ifP h1]
 rw[ifN (by simpa using h1),ifN h1]
 by_cases h2:6≤n∧n≤8
 ·rw[ifP (by simpa using h2),ifP h2]
 rw[ifN (by simpa using h2),ifN h2]
 by_cases h3:n=9
 ·rw[ifP h3,ifP (.inl h3)]
 rw[ifN h3]
 by_cases h3' : n=10
 ·rw[ifP h3',ifP (.inr h3')]
 have h33:¬(n=9∨n=10):=by omega
 rw[ifN h3',ifN h33]
 by_cases h4:n=11
 ·rw[ifP h4,ifP h4]
 rw[ifN h4,ifN h4]
 by_cases h5:n=12
 ·rw[ifP h5,ifP h5]
 rw[ifN h5,ifN h5]
end Go.Proofs.YtcegfmageiicaaaGreat
namespace Go.Proofs.YtcegfmageiicaaaGreat
open Go Go.E
theorem k9d (a b:Expr):q6Q a b=some (decide (a.Kind=b.Kind)&&(decide (a.N=b.N)&&(decide (a.Pos=b.Pos)&&(decide (a.Type_=b.Type_)&&(decide (a.Symbol=b.Symbol)&&decide (a.Name=b.Name)))))):=by
 unfold q6Q
 by_cases h1:a.Kind=b.Kind
 ·rw[ifP h1,bsS]
  by_cases h2:a.N=b.N
  ·by_cases h3:a.Pos=b.Pos
   ·by_cases h4:a.Type_=b.Type_
    ·by_cases h5:a.Symbol=b.Symbol
     ·simp[h1,h2,h3,h4,h5]
     ·simp[h1,h2,h3,h4,h5]
    ·simp[h1,h2,h3,h4]
   ·simp[h1,h2,h3]
  ·simp[h1,h2]
 ·simp[h1]
def k4s (k:Int):Int:=if k=4 then 2 else if k=5 then 3 else if k=8 then 1 else 0
def k4t (e:Expr):Bool:=decide ((e.Args.length:Int)=k4s e.Kind)&&((decide (e.Kind=3∨e.Kind=6)||decide (e.Pos=0))&&((decide (e.Kind=3∨e.Kind=8)||decide (e.Name=⟨#[]⟩))&&((decide (e.Kind=1∨e.Kind=4)||decide (e.N=0))&&((decide (e.Kind=1)||decide (e.Type_=0))&&(decide (e.Kind=8)||decide (e.Symbol=⟨#[]⟩))))))
theorem k9e (e:Expr):z7K e=some (k4t e):=by
 unfold z7K
 have h0:(if e.Kind=4 then some 2 else if e.Kind=5 then some 3 else if e.Kind=8 then some 1 else some (0:Int))=some (k4s e.Kind):=by
  unfold k4s
  split
  ·rfl
  ·split
   ·rfl
   ·split<;>rfl
 have or2:∀ a b:Prop,[Decidable a]→[Decidable b]→(if a then some true else some (decide b))=some (decide (a∨b)):=fun a b _ _=>by
  by_cases h:a<;>simp[h]
 have or1:∀ (a:Prop) (b:Bool),[Decidable a]→(if a then some true else some b)=some (decide a||b):=fun a b _=>by
  by_cases h:a<;>simp[h]
 have orB:∀ a b:Bool,(if a=true then some true else some b)=some (a||b):=fun a b=>by cases a<;>rfl
 have andB:∀ a b:Bool,(if a=true then some b else some false)=some (a&&b):=fun a b=>by cases a<;>rfl
 rw[h0,bsS]
 unfold k4t
 by_cases hl:(e.Args.length:Int)=k4s e.Kind
 ·rw[ifP hl]
  simp only[or2,or1,orB,andB,bsS]
  simp[hl,Bool.and_assoc]
 ·rw[ifN hl];simp[hl]
def k9f (e:Expr):Bool:=
 if e.Kind=1 then (decide (1≤e.Type_∧e.Type_≤3)&&j7k e.N e.Type_)&&decide (0≤e.N)
 else if e.Kind=3 then decide (0≤e.Pos∧e.Pos≤3)&&q9b e.Name
 else if e.Kind=6 then decide (0≤e.Pos∧e.Pos≤3)
 else if e.Kind=4 then decide (1≤e.N∧e.N≤12)
 else if e.Kind=8 then q9b e.Symbol&&q9b e.Name
 else true
def z8v (e:Expr):Bool:=(decide (1≤e.Kind∧e.Kind≤8)&&k4t e)&&k9f e
theorem k6C (e:Expr):z7M e=some (z8v e):=by
 unfold z7M z8v
 rw[j7i,bsS,k9e,bsS]
 by_cases hk:1≤e.Kind∧e.Kind≤8
 ·rw[ifP (by simpa using hk),bsS]
  cases k4t e with
  | false=>simp
  | true=>
   rw[ifN (by simp)]
   unfold k9f
   by_cases k1:e.Kind=1
   ·rw[ifP k1,ifP k1,j7i,bsS,k6B,bsS]
    by_cases h:1≤e.Type_∧e.Type_≤3
    ·cases j7k e.N e.Type_<;>simp[h,hk]
    ·simp[h,hk]
   rw[ifN k1,ifN k1]
   by_cases k3:e.Kind=3
   ·rw[ifP k3,ifP k3,j7i,bsS,z1X]
    by_cases h:0≤e.Pos∧e.Pos≤3
    ·simp[h,hk]
    ·simp[h,hk]
   rw[ifN k3,ifN k3]
   by_cases k6:e.Kind=6
   ·rw[ifP k6,ifP k6,j7i];simp[hk]
   rw[ifN k6,ifN k6]
   by_cases k4:e.Kind=4
   ·rw[ifP k4,ifP k4,j7i];simp[hk]
   rw[ifN k4,ifN k4]
   by_cases k8:e.Kind=8
   ·rw[ifP k8,ifP k8,z1X,bsS,z1X]
    cases q9b e.Symbol<;>simp[hk]
   rw[ifN k8,ifN k8];simp[hk]
 ·rw[ifN (by simpa using hk)];simp[hk]
theorem k6D (e:Expr):z1H e=some (z8v e):=by
 unfold z1H z8v k4t k9f k4s
 simp only[k9d,k2R,k6A,z3W,bsS]
 have hp3:e.Pos=0→(0≤e.Pos∧e.Pos≤3):=fun h=>by omega
 by_cases k1:e.Kind=1
 ·simp[k1]
  have ht:j7k e.N e.Type_=true→1≤e.Type_∧e.Type_≤4:=fun h=>by
   unfold j7k at h;simp at h;exact h.1
  cases hb:j7k e.N e.Type_ with
  | false=>by_cases h4:e.Type_=4<;>simp[h4]
  | true=>
   obtain⟨t1,t2⟩:=ht hb
   by_cases h4:e.Type_=4
   ·simp[h4]
   ·by_cases hn:e.N<0
    ·have:¬ 0≤e.N:=by omega
     simp[h4,hn,this]
    ·have h0:0≤e.N:=by omega
     have h3:e.Type_≤3:=by omega
     by_cases a:e.Args=[]
     ·by_cases p:e.Pos=0
      ·simp[h4,hn,h0,h3,t1,a,p,Bool.and_comm]
      ·simp[h4,hn,h0,h3,t1,a,p]
     ·simp[h4,hn,h0,h3,t1,a]
 by_cases k3:e.Kind=3
 ·simp[k1,k3]
  cases q9b e.Name with
  | false=>simp
  | true=>
   by_cases a:e.Args=[]
   ·by_cases p:0≤e.Pos∧e.Pos≤3
    ·simp[a,p]
    ·have:(decide (0≤e.Pos)&&decide (e.Pos≤3))=false:=by simp;omega
     simp[a,this]
   ·simp[a]
 by_cases k4:e.Kind=4
 ·simp[k1,k3,k4]
  by_cases n:1≤e.N∧e.N≤12
  ·by_cases a:(e.Args.length:Int)=2
   ·by_cases p:e.Pos=0
    ·simp[n,a,p];cases decide (e.Type_=0)<;>cases decide (e.Symbol=⟨#[]⟩)<;>cases decide (e.Name=⟨#[]⟩)<;>rfl
    ·simp[n,a,p]
   ·simp[n,a]
  ·have:(decide (1≤e.N)&&decide (e.N≤12))=false:=by simp;omega
   rw[ifN n,this];simp
 have close3:∀ c:Bool,((if c=true then some (decide (0≤e.Pos)&&decide (e.Pos≤3)) else some false).bind fun s9=>
   if s9=true then some (decide (e.N=0)&&(decide (e.Pos=0)&&(decide (e.Type_=0)&&(decide (e.Symbol=⟨#[]⟩)&&decide (e.Name=⟨#[]⟩))))) else some false) =
  some (c&&(decide (e.Pos=0)&&(decide (e.Name=⟨#[]⟩)&&(decide (e.N=0)&&(decide (e.Type_=0)&&decide (e.Symbol=⟨#[]⟩)))))):=fun c=>by
  cases c with
  | false=>simp
  | true=>
   by_cases p:e.Pos=0
   ·simp[p];cases decide (e.N=0)<;>cases decide (e.Type_=0)<;>cases decide (e.Symbol=⟨#[]⟩)<;>cases decide (e.Name=⟨#[]⟩)<;>rfl
   ·simp[p]
 by_cases k5:e.Kind=5
 ·simp[k1,k3,k4,k5]
  simpa using close3 (decide ((e.Args.length:Int)=3))
 by_cases k6:e.Kind=6
 ·simp[k1,k3,k4,k5,k6]
  by_cases a:e.Args=[]
  ·by_cases p:0≤e.Pos∧e.Pos≤3
   ·simp[a,p];cases decide (e.N=0)<;>cases decide (e.Type_=0)<;>cases decide (e.Symbol=⟨#[]⟩)<;>cases decide (e.Name=⟨#[]⟩)<;>rfl
   ·have:(decide (0≤e.Pos)&&decide (e.Pos≤3))=false:=by simp;omega
    simp[a,this]
  ·simp[a]
 by_cases k8:e.Kind=8
 ·simp[k1,k3,k4,k5,k6,k8]
  cases q9b e.Symbol with
  | false=>simp
  | true=>
   cases q9b e.Name with
   | false=>simp
   | true=>
    by_cases a:(e.Args.length:Int)=1
    ·by_cases p:e.Pos=0
     ·simp[a,p]
     ·simp[a,p]
    ·simp[a]
 by_cases k2:e.Kind=2
 ·simp[k1,k3,k4,k5,k6,k8,k2]
  simpa using close3 (decide (e.Args=[]))
 by_cases k7:e.Kind=7
 ·simp[k1,k3,k4,k5,k6,k8,k2,k7]
  simpa using close3 (decide (e.Args=[]))
 ·simp[k1,k3,k4,k5,k6,k8,k2,k7]
  intro h1 h2;omega
end Go.Proofs.YtcegfmageiicaaaGreat
namespace Go.Proofs.YtcegfmageiicaaaGreat
open Go Go.E
theorem k6E (e:Expr):∀ m,fuE e≤m→j0h m e=some (allE z8v e):=by
 induction e using z1W with
 | h e ih=>
  intro m hm
  obtain⟨m,rfl⟩:∃ q,m=q+1:=⟨m-1,by have:=z7s e;omega⟩
  show j0g (j0h m) e=_
  unfold j0g
  rw[q4J (c:=false) (q:=allE z8v) fun k x hx=>by
   unfold j8c
   rw[ih x hx m (by have:=z7t hx;omega),bsS]
   cases allE z8v x<;>rfl]
  rw[j1y,bsS]
  cases e.Args.all (allE z8v) with
  | true=>rw[ifP rfl,z4l,k6C,Bool.and_true];rfl
  | false=>rw[ifN (by simp),j0V,Bool.and_false]
theorem k9g (e:Expr):j6x e=some (allE z8v e):=q9u (fuE e) fun m hm=>k6E e m hm
theorem j4y {α:Type}(q:α→Bool)(l:List α):(!l.any fun x=>!q x)=l.all q:=by
 induction l with
 | nil=>rfl
 | cons x l ih=>simp[← ih]
theorem k6F (e:Expr):∀ m,fuE e≤m→q6b m e=some (allE z8v e):=by
 induction e using z1W with
 | h e ih=>
  intro m hm
  obtain⟨m,rfl⟩:∃ q,m=q+1:=⟨m-1,by have:=z7s e;omega⟩
  show q6a (q6b m) e=_
  unfold q6a q3X q4d
  rw[k6D,bsS,j1y]
  cases z8v e with
  | false=>rfl
  | true=>
   rw[ifP rfl,j4w (q:=fun x=>!allE z8v x) fun k x hx=>by
    unfold q5K q6s
    rw[ih x hx m (by have:=z7t hx;omega),bsS,bsS]
    cases allE z8v x<;>rfl]
   rw[Bool.true_and,← j4y]
   cases e.Args.any fun x=>!allE z8v x with
   | true=>
    have:(0:Int)≤((0+e.Args.findIdx fun x=>!allE z8v x:Nat):Int):=Int.natCast_nonneg _
    rw[ifP rfl,bsS,j0V,bsS,bsS,decide_eq_true this]
   | false=>rfl
theorem k9h (e:Expr):q8u e=some (allE z8v e):=q9u (fuE e) fun m hm=>k6F e m hm
def j4z (e:Expr):Bool:=decide (cntE e≤24)&&(decide (depE e≤6)&&allE z8v e)
theorem k4u {e:Expr}(h:cntE e≤1099511627776):z0H e=some (j4z e):=by
 unfold z0H j4z
 rw[k4m h,bsS,k4o h,k9h]
 by_cases h1:cntE e≤24
 ·rw[ifP (by omega),bsS,bsS]
  by_cases h2:depE e≤6
  ·rw[ifP (by simp;omega),bsS];simp[h1,h2]
  ·rw[ifN (by simp;omega)];simp[h1,h2]
 ·rw[ifN (by omega)];simp[h1]
theorem k4v {e:Expr}(h:cntE e≤1099511627776):z0C e=some (j4z e):=by
 unfold z0C j4z
 rw[k6t (by omega) (by omega) h,bsS,k4p h,k9g]
 unfold j2D
 by_cases h1:cntE e≤24
 ·have h24:((cntE e:Nat):Int)≤24:=by omega
  rw[ifP h24,ifP (by omega:(0:Int)≤24-((cntE e:Nat):Int)),bsS,bsS]
  by_cases h2:depE e≤6
  ·rw[ifP (by simp;omega),bsS];simp[h1,h2]
  ·rw[ifN (by simp;omega)];simp[h1,h2]
 ·have h24:¬ ((cntE e:Nat):Int)≤24:=by omega
  rw[ifN h24,ifN (by omega:¬ (0:Int)≤-1)];simp[h1]
end Go.Proofs.YtcegfmageiicaaaGreat
namespace Go.Proofs.YtcegfmageiicaaaGreat
open Go Go.E
theorem q5a {α:Type}{q:α→Bool}{xs:List α}{f:Nat→α→Unit→Option (Unit ⊕ Int)}(h:∀ k x,x∈xs→f k x ()=some (if q x=true then .inr (k:Int) else .inl ())) :
  ((findL f 0 xs ()).bind <| onr (fun r1=>some r1) fun _=>some (-1)).bind (fun y1=>some (decide (0≤y1)))=some (xs.any q):=by
 rw[j4w h]
 cases hq:xs.any q with
 | true=>
  have:(0:Int)≤((0+xs.findIdx q:Nat):Int):=Int.natCast_nonneg _
  rw[ifP rfl,bsS,j0V,bsS,decide_eq_true this]
 | false=>rfl
def q4Y {α:Type}(bad:List α→α→Bool):List α→List α→Option Nat
 | _,[]=>none
 | pre,x::xs=>if bad pre x=true then some pre.length else q4Y bad (pre++[x]) xs
theorem z6x {α β ρ:Type}{bad:List α→α→Bool}{nm:α→β}{c:Nat→ρ}{all:List α}{f:Nat→α→Unit→Option (Unit ⊕ ρ)}{h:Nat→α→List β→Option (List β ⊕ ρ)}
  (hf:∀ pre x post,all=pre++x::post→f pre.length x ()=some (if bad pre x=true then .inr (c pre.length) else .inl ()))
  (hh:∀ pre x post,all=pre++x::post→h pre.length x (pre.map nm)=some (if bad pre x=true then .inr (c pre.length) else .inl ((pre++[x]).map nm))) :
  ∀ (ys pre:List α),all=pre++ys→findL f pre.length ys ()=some (match q4Y bad pre ys with|none=>.inl ()|some k=>.inr (c k)) ∧
   findL h pre.length ys (pre.map nm)=some (match q4Y bad pre ys with|none=>.inl (all.map nm)|some k=>.inr (c k))
 | [],pre,e=>by
  rw[List.append_nil] at e
  subst e;exact⟨rfl,rfl⟩
 | x::ys,pre,e=>by
  have h1:=hf pre x ys e
  have h2:=hh pre x ys e
  by_cases hb:bad pre x=true
  ·rw[ifP hb] at h1 h2
   simp only[findL,h1,h2,q4Y,hb,if_true,bsS]
   exact⟨trivial,trivial⟩
  ·rw[ifN hb] at h1 h2
   have ih:=z6x hf hh ys (pre++[x]) (by rw[e];simp)
   simp only[List.length_append,lnC,List.length_nil,Nat.zero_add] at ih
   simp only[findL,h1,h2,q4Y,hb,bsS]
   exact ih
theorem k1u {α:Type}{a:α→Bool}{b:List α→α→Bool}:∀ (xs pre:List α),(q4Y (fun p x=>a x||b p x) pre xs).isNone=(xs.all (fun x=>!a x)&&(q4Y b pre xs).isNone)
 | [],pre=>rfl
 | x::xs,pre=>by
  have ih:=k1u (a:=a) (b:=b) xs (pre++[x])
  simp only[q4Y,List.all_cons]
  by_cases ha:a x=true
  ·simp[ha]
  ·by_cases hb:b pre x=true
   ·simp[ha,hb]
   ·simpa[ha,hb] using ih
def dupB {α:Type}(nm:α→ByteArray)(pre:List α)(x:α):Bool:=pre.any fun o=>decide (nm o=nm x)
def k4w {α:Type}(nm:α→ByteArray)(xs:List α):Bool:=(q4Y (dupB nm) [] xs).isNone
theorem j8F {α:Type}{nm:α→ByteArray}:∀ (xs pre:List α),(q4Y (dupB id) (pre.map nm) (xs.map nm))=q4Y (dupB nm) pre xs
 | [],pre=>rfl
 | x::xs,pre=>by
  have ih:=j8F (nm:=nm) xs (pre++[x])
  have e:dupB id (pre.map nm) (nm x)=dupB nm pre x:=by simp[dupB,List.any_map,Function.comp_def]
  rw[List.map_cons,q4Y,q4Y,e,lnM]
  rw[List.map_append] at ih
  rw[show [nm x]=[x].map nm from rfl,ih]
theorem z8w {α ρ:Type}{bad:List α→α→Bool}{c:Nat→ρ}{all:List α}{f:Nat→α→Unit→Option (Unit ⊕ ρ)}
  (hf:∀ pre x post,all=pre++x::post→f pre.length x ()=some (if bad pre x=true then .inr (c pre.length) else .inl ())) :
  ∀ (ys pre:List α),all=pre++ys→findL f pre.length ys ()=some (match q4Y bad pre ys with|none=>.inl ()|some k=>.inr (c k)):=fun ys pre e=>
 (z6x (nm:=fun _=>()) (h:=fun k x s=>(f k x ()).map fun|.inl _=>.inl (s++[()])|.inr r=>.inr r) hf (fun pre x post e=>by
  rw[hf pre x post e]
  by_cases hb:bad pre x=true
  ·rw[ifP hb,ifP hb];rfl
  ·rw[ifN hb,ifN hb];simp) ys pre e).1
theorem k4x (l:List ByteArray)(s:ByteArray):z2J l s=some (l.any fun o=>decide (o=s)):=by
 unfold z2J
 rw[q4J (c:=true) (q:=fun o=>!decide (o=s)) fun k x hx=>by
  unfold j0e
  by_cases h:x=s
  ·rw[ifP h,ifN (by simp[h])]
  ·rw[ifN h,ifP (by simp[h])]]
 have e:(l.all fun o=>!decide (o=s))=!(l.any fun o=>decide (o=s)):=by rw[List.not_any_eq_all_not]
 rw[e]
 cases l.any fun o=>decide (o=s)<;>rfl
theorem k2T (l:List ByteArray):z0A l=some (k4w id l):=by
 unfold z0A k4w
 rw[show findL (z1v l) 0 l ()=_ from z8w (bad:=dupB id) (c:=fun _=>false) (all:=l) (f:=z1v l) (fun pre x post e=>by
  unfold z1v
  rw[q3C (by rw[e];simp),show l.take pre.length=pre by rw[e];simp,k4x,bsS,← apply_ite some];rfl) l [] rfl]
 cases q4Y (dupB id) [] l<;>rfl
def z5f (a:At_):Bool:=q9b a.Name&&(decide (1≤a.Type_∧a.Type_≤4)&&(decide (1≤a.Mode∧a.Mode≤3)&&if a.Mode=3 then decide (a.Type_=2) && !a.Circular else !a.Circular||decide (a.Type_=2)))
theorem k4y (a:At_):q7C a=some (z5f a):=by
 unfold q7C z5f z6b
 rw[z3W,bsS]
 cases q9b a.Name with
 | false=>rfl
 | true=>
  rw[ifP rfl,z9h,bsS,bsS,bsS]
  by_cases h1:1≤a.Type_∧a.Type_≤4
  ·rw[decide_eq_true h1,Bool.not_true,ifN (by simp),z9h,bsS,bsS]
   by_cases h2:1≤a.Mode∧a.Mode≤3
   ·rw[decide_eq_true h2,Bool.not_true,ifN (by simp)]
    by_cases h3:a.Mode=3
    ·rw[ifP h3,ifP h3]
     by_cases h4:a.Type_=2
     ·rw[ifP h4,decide_eq_true h4];simp
     ·rw[ifN h4,decide_eq_false h4];rfl
    ·rw[ifN h3,ifN h3]
     cases hc:a.Circular with
     | true=>rw[ifP rfl];simp
     | false=>rw[ifN (by simp)];simp
   ·rw[decide_eq_false h2];rfl
  ·rw[decide_eq_false h1];rfl
theorem k4z (a:At_):q7y a=some (z5f a):=by
 unfold q7y z5f
 rw[z1X,bsS]
 cases q9b a.Name with
 | false=>rfl
 | true=>
  rw[ifP rfl,z4V,bsS,bsS]
  by_cases h1:1≤a.Type_∧a.Type_≤4
  ·rw[decide_eq_true h1,Bool.not_true,ifN (by simp),z4V,bsS,bsS]
   by_cases h2:1≤a.Mode∧a.Mode≤3
   ·rw[decide_eq_true h2,Bool.not_true,ifN (by simp)]
    by_cases h3:a.Mode=3
    ·rw[ifP h3,ifP h3]
     by_cases h4:a.Type_=2
     ·rw[ifP h4,decide_eq_true h4]
      cases hc:a.Circular with
      | true=>rfl
      | false=>rfl
     ·rw[ifN h4,decide_eq_false h4];rfl
    ·rw[ifN h3,ifN h3]
     cases hc:a.Circular with
     | true=>simp
     | false=>simp
   ·rw[decide_eq_false h2];rfl
  ·rw[decide_eq_false h1];rfl
def symB (s:Symbol):Bool:=s.Attributes.all z5f&&(q9b s.Name&&(decide (s.Attributes.length≤4)&&k4w (fun a:At_=>a.Name) s.Attributes))
theorem k6G (s:Symbol):q9g s=some (symB s):=by
 unfold q9g symB
 rw[show findL (z0f s) 0 s.Attributes ()=_ from z8w (bad:=fun p x=>!z5f x||dupB (fun a:At_=>a.Name) p x) (c:=fun _=>false) (all:=s.Attributes) (f:=z0f s) (fun pre x post e=>by
  unfold z0f
  rw[k4y,bsS]
  cases z5f x with
  | false=>rfl
  | true=>
   rw[ifP rfl,q3C (by rw[e];simp),show s.Attributes.take pre.length=pre by rw[e];simp]
   unfold q4c q4n
   rw[q5a (q:=fun o:At_=>decide (o.Name=x.Name)) fun k y hy=>by
    unfold q5W q9F
    rw[bsS]
    by_cases h:y.Name=x.Name
    ·rw[decide_eq_true h];rfl
    ·rw[decide_eq_false h];rfl]
   rw[bsS,← apply_ite some];rfl) s.Attributes [] rfl]
 have hor:=k1u (a:=fun x:At_=>!z5f x) (b:=dupB (fun a:At_=>a.Name)) s.Attributes []
 simp only[Bool.not_not] at hor
 have e2:(s.Attributes.all fun x=>z5f x)=s.Attributes.all z5f:=rfl
 unfold k4w
 rw[e2] at hor
 cases hb:q4Y (fun p x=>!z5f x||dupB (fun a:At_=>a.Name) p x) [] s.Attributes with
 | some k=>
  rw[hb] at hor
  show some false=_
  have:(s.Attributes.all z5f&&(q4Y (dupB fun a:At_=>a.Name) [] s.Attributes).isNone)=false:=hor.symm
  congr 1
  cases h1:s.Attributes.all z5f with
  | false=>rfl
  | true=>rw[h1] at this;simp at this;simp[this]
 | none=>
  rw[hb] at hor
  have:(s.Attributes.all z5f&&(q4Y (dupB fun a:At_=>a.Name) [] s.Attributes).isNone)=true:=hor.symm
  rw[Bool.and_eq_true] at this
  show ((q4K s.Name).bind _)=_
  rw[z3W,bsS,this.1,this.2]
  cases q9b s.Name with
  | false=>rfl
  | true=>
   rw[ifP rfl,bsS]
   congr 1
   simp;omega
theorem k6H {s:Symbol}(h:s.Attributes.length≤1048576):q9d s=some (symB s):=by
 unfold q9d symB
 have hloop:∀ (ys:List At_) (i:Nat) (t:List ByteArray),t.length+ys.length≤1048576→findL z0c i ys t=some (if ys.all z5f=true then .inl (t++ys.map fun a=>a.Name) else .inr false):=by
  intro ys
  induction ys with
  | nil=>intro i t _;simp[findL]
  | cons y ys ih=>
   intro i t ht
   simp only[lnC] at ht
   simp only[findL]
   have e:z0c i y t=some (if z5f y=true then .inl (t++[y.Name]) else .inr false):=by
    unfold z0c
    rw[k4z,bsS]
    cases z5f y with
    | false=>rfl
    | true=>rw[ifP rfl,ifP rfl,q3C (by constructor<;>omega)]
   rw[e,bsS]
   by_cases hy:z5f y=true
   ·rw[ifP hy,show (y::ys).all z5f=ys.all z5f by simp[hy]]
    dsimp only
    rw[ih _ _ (by simp;omega)]
    simp
   ·rw[ifN hy,show (y::ys).all z5f=false by simp[hy]];rfl
 rw[hloop _ _ _ (by simpa using h)]
 cases hA:s.Attributes.all z5f with
 | false=>rfl
 | true=>
  rw[ifP rfl,bsS,z4l,List.nil_append,z1X,bsS]
  cases q9b s.Name with
  | false=>rfl
  | true=>
   rw[ifP rfl,bsS,lnM]
   by_cases hl:s.Attributes.length≤4
   ·rw[decide_eq_true (by omega:(s.Attributes.length:Int)≤4),ifP rfl,k2T,bsS,bsS,decide_eq_true hl]
    have:=j8F (nm:=fun a:At_=>a.Name) s.Attributes []
    unfold k4w
    rw[List.map_nil] at this
    rw[this];rfl
   ·rw[decide_eq_false (by omega:¬ (s.Attributes.length:Int)≤4),ifN (by simp),decide_eq_false hl];rfl
end Go.Proofs.YtcegfmageiicaaaGreat
namespace Go.Proofs.YtcegfmageiicaaaGreat
open Go Go.E
theorem j0P {r:Rule}{q:Cn}(h:q∈r.Contributions):Sz.szd q.Target≤Sz.szd r∧Sz.szd q.Value≤Sz.szd r:=by
 have h1:=z6Z r
 have h2:=z0Q q
 have h3:=z3V h
 have h4:=q8Z q.Target
 have h5:=q8Z q.Value
 omega
theorem z3G {g:Grammar}{r:Rule}(h:r∈g.Rules):Sz.szd r≤Sz.szd g:=by
 have h1:=z2D g
 have h3:=z3V h
 omega
theorem k8f {r:Rule}(h:Sz.szd r≤1048576):r.Equations.length≤1048576∧r.Contributions.length≤1048576:=by
 have h1:=z6Z r
 have h2:=q5r r.Equations
 have h3:=q5r r.Contributions
 omega
def z0z (n:Int)(e:Expr):Bool:=allE (fun x=>decide (x.Pos≤n)) e
theorem k0m (n:Int)(e:Expr):∀ m,fuE e≤m→z4v m e n=some (z0z n e):=by
 induction e using z1W with
 | h e ih=>
  intro m hm
  obtain⟨m,rfl⟩:∃ q,m=q+1:=⟨m-1,by have:=z7s e;omega⟩
  show z4u (z4v m) e n=_
  unfold z4u
  rw[q4J (c:=false) (q:=z0z n) fun k x hx=>by
   unfold j1N
   rw[ih x hx m (by have:=z7t hx;omega),bsS]
   cases z0z n x<;>rfl]
  have e1:z0z n e=(decide (e.Pos≤n)&&e.Args.all (z0z n)):=by unfold z0z;rw[j1y]
  rw[e1,bsS]
  cases e.Args.all (z0z n) with
  | true=>rw[ifP rfl,z4l,Bool.and_true]
  | false=>rw[ifN (by simp),j0V,Bool.and_false]
theorem k2U (n:Int)(e:Expr):z9p e n=some (z0z n e):=q9u (fuE e) fun m hm=>k0m n e m hm
theorem k0n (n:Int)(e:Expr):∀ m,fuE e≤m→q7a m e n=some (z0z n e):=by
 induction e using z1W with
 | h e ih=>
  intro m hm
  obtain⟨m,rfl⟩:∃ q,m=q+1:=⟨m-1,by have:=z7s e;omega⟩
  show q6Z (q7a m) e n=_
  unfold q6Z q4j q4q j0n
  have e1:z0z n e=(decide (e.Pos≤n)&&e.Args.all (z0z n)):=by unfold z0z;rw[j1y]
  rw[bsS,e1]
  cases decide (e.Pos≤n) with
  | false=>rfl
  | true=>
   rw[ifP rfl,q5a (q:=fun x=>!z0z n x) fun k x hx=>by
    unfold q6c q7N
    rw[ih x hx m (by have:=z7t hx;omega),bsS,bsS]
    cases z0z n x<;>rfl]
   rw[Bool.true_and,← j4y];rfl
theorem k2V (n:Int)(e:Expr):z0u e n=some (z0z n e):=q9u (fuE e) fun m hm=>k0n n e m hm
def z5R (e:Expr)(n:Int):Bool:=j4z e&&z0z n e
theorem j7l {e:Expr}(h:Sz.szd e≤1048576)(n:Int):z9q e n=some (z5R e n):=by
 unfold z9q z5R
 have:=k8e h
 rw[k4u (by omega),bsS]
 cases j4z e with
 | false=>rfl
 | true=>rw[ifP rfl,k2V];rfl
theorem j7m {e:Expr}(h:Sz.szd e≤1048576)(n:Int):z4w e n=some (z5R e n):=by
 unfold z4w z5R
 have:=k8e h
 rw[k4v (by omega),bsS]
 cases j4z e with
 | false=>rfl
 | true=>rw[ifP rfl,k2U];rfl
def eqnB (n:Int)(q:Eqn):Bool:=z5R q.Expr n&&(q9b q.At.Name&&decide (0≤q.At.Pos∧q.At.Pos≤n))
def conB (n:Int)(q:Cn):Bool:=(z5R q.Target n&&z5R q.Value n)&&(q9b q.Symbol&&q9b q.Name)
def ruleB (r:Rule):Bool:=(q9b r.Name&&q9b r.Left)&&((decide (r.Right.length≤3)&&decide (r.Contributions.length≤2))&&(r.Right.all q9b&&(r.Equations.all (eqnB (r.Right.length:Int))&&r.Contributions.all (conB (r.Right.length:Int)))))
theorem j8G {α β γ:Type}{p:α→Bool}{q:β→Bool}{t:γ→Bool}(xs:List α)(ys:List β)(zs:List γ) :
  ((some (if xs.all p=true then (.inl ():Unit ⊕ Bool) else .inr false)).bind <| onr (fun r1=>some r1) fun _=>
   (some (if ys.all q=true then (.inl ():Unit ⊕ Bool) else .inr false)).bind <| onr (fun r1=>some r1) fun _=>
   (some (if zs.all t=true then (.inl ():Unit ⊕ Bool) else .inr false)).bind <| onr (fun r1=>some r1) fun _=>some true)=some (xs.all p&&(ys.all q&&zs.all t)):=by
 cases xs.all p<;>cases ys.all q<;>cases zs.all t<;>rfl
theorem k4A {r:Rule}(h:Sz.szd r≤1048576):z0I r=some (ruleB r):=by
 unfold z0I ruleB
 rw[z3W,bsS]
 cases q9b r.Name with
 | false=>rfl
 | true=>
  rw[ifP rfl,z3W,bsS,bsS]
  cases q9b r.Left with
  | false=>rfl
  | true=>
   rw[Bool.not_true,ifN (by simp),bsS]
   by_cases h3:r.Right.length≤3
   ·rw[decide_eq_true h3,decide_eq_false (by omega),ifN (by simp),bsS]
    by_cases h2:r.Contributions.length≤2
    ·rw[decide_eq_true h2,decide_eq_false (by omega),ifN (by simp)]
     rw[q4J (c:=false) (q:=q9b) fun k x hx=>by
      unfold z7W;rw[z3W,bsS];cases q9b x<;>rfl]
     rw[q4J (c:=false) (q:=eqnB (r.Right.length:Int)) fun k x hx=>by
      unfold z7X eqnB
      rw[j7l (Nat.le_trans (z9J hx) h),bsS]
      cases z5R x.Expr (r.Right.length:Int) with
      | false=>rfl
      | true=>
       rw[ifP rfl,z3W,bsS,bsS]
       cases q9b x.At.Name with
       | false=>rfl
       | true=>
        rw[Bool.not_true,ifN (by simp),z9h,bsS,bsS]
        cases decide (0≤x.At.Pos∧x.At.Pos≤(r.Right.length:Int))<;>rfl]
     rw[q4J (c:=false) (q:=conB (r.Right.length:Int)) fun k x hx=>by
      have hs:=j0P hx
      unfold z7Y conB
      rw[j7l (Nat.le_trans hs.1 h),bsS]
      cases z5R x.Target (r.Right.length:Int) with
      | false=>rfl
      | true=>
       rw[ifP rfl,j7l (Nat.le_trans hs.2 h),bsS,bsS]
       cases z5R x.Value (r.Right.length:Int) with
       | false=>rfl
       | true=>
        rw[Bool.not_true,ifN (by simp),z3W,bsS,bsS]
        cases q9b x.Symbol with
        | false=>rfl
        | true=>
         rw[Bool.not_true,ifN (by simp),z3W,bsS,bsS]
         cases q9b x.Name<;>rfl]
     exact j8G _ _ _
    ·rw[decide_eq_false h2,decide_eq_true (by omega)];rfl
   ·rw[decide_eq_false h3,decide_eq_true (by omega)];rfl
theorem k4B {r:Rule}(h:Sz.szd r≤1048576):z0D r=some (ruleB r):=by
 unfold z0D ruleB
 rw[z1X,bsS]
 cases q9b r.Name with
 | false=>rfl
 | true=>
  rw[ifP rfl,z1X,bsS,bsS]
  cases q9b r.Left with
  | false=>rfl
  | true=>
   rw[Bool.not_true,ifN (by simp),bsS]
   by_cases h3:r.Right.length≤3
   ·rw[decide_eq_true h3,decide_eq_false (by omega),ifN (by simp),bsS]
    by_cases h2:r.Contributions.length≤2
    ·rw[decide_eq_true h2,decide_eq_false (by omega),ifN (by simp)]
     rw[q4J (c:=false) (q:=q9b) fun k x hx=>by
      unfold z7N;rw[z1X,bsS];cases q9b x<;>rfl]
     rw[q4J (c:=false) (q:=eqnB (r.Right.length:Int)) fun k x hx=>by
      unfold z7O eqnB
      rw[z1X,bsS]
      cases q9b x.At.Name with
      | false=>rw[Bool.false_and,Bool.and_false];rfl
      | true=>
       rw[ifP rfl,z4V,bsS,bsS]
       cases decide (0≤x.At.Pos∧x.At.Pos≤(r.Right.length:Int)) with
       | false=>rw[Bool.and_false,Bool.and_false];rfl
       | true=>
        rw[Bool.not_true,ifN (by simp),j7m (Nat.le_trans (z9J hx) h),bsS,bsS]
        cases z5R x.Expr (r.Right.length:Int)<;>rfl]
     rw[q4J (c:=false) (q:=conB (r.Right.length:Int)) fun k x hx=>by
      have hs:=j0P hx
      unfold z7P conB
      rw[z1X,bsS]
      cases q9b x.Symbol with
      | false=>rw[Bool.false_and,Bool.and_false];rfl
      | true=>
       rw[ifP rfl,z1X,bsS,bsS]
       cases q9b x.Name with
       | false=>rw[Bool.and_false,Bool.and_false];rfl
       | true=>
        rw[Bool.not_true,ifN (by simp),j7m (Nat.le_trans hs.1 h),bsS,bsS]
        cases z5R x.Target (r.Right.length:Int) with
        | false=>rfl
        | true=>
         rw[Bool.not_true,ifN (by simp),j7m (Nat.le_trans hs.2 h),bsS,bsS]
         cases z5R x.Value (r.Right.length:Int)<;>rfl]
     exact j8G _ _ _
    ·rw[decide_eq_false h2,decide_eq_true (by omega)];rfl
   ·rw[decide_eq_false h3,decide_eq_true (by omega)];rfl
def z6y (p:List Symbol)(x:Symbol):Bool:=!symB x||dupB (fun y:Symbol=>y.Name) p x
def z3H (p:List Rule)(x:Rule):Bool:=!ruleB x||dupB (fun y:Rule=>y.Name) p x
def z9i (g:Grammar):Int:=match q4Y z6y [] g.Symbols with
 | some k=>(k:Int)
 | none=>match q4Y z3H [] g.Rules with
  | some k=>(k:Int)
  | none=>-1
theorem k4C {g:Grammar}(h:Sz.szd g≤1048576):z1J g=some (z9i g):=by
 unfold z1J z9i
 rw[show findL (z2O g) 0 g.Symbols ()=_ from z8w (bad:=z6y) (c:=fun k=>(k:Int)) (all:=g.Symbols) (f:=z2O g) (fun pre x post e=>by
  unfold z2O z6y
  rw[k6G,bsS]
  cases symB x with
  | false=>rfl
  | true=>
   rw[ifP rfl,q3C (by rw[e];simp),show g.Symbols.take pre.length=pre by rw[e];simp]
   unfold q4B q4T
   rw[q5a (q:=fun o:Symbol=>decide (o.Name=x.Name)) fun k y hy=>by
    unfold q6B z1G
    rw[bsS]
    by_cases h:y.Name=x.Name
    ·rw[decide_eq_true h];rfl
    ·rw[decide_eq_false h];rfl]
   rw[bsS,← apply_ite some];rfl) g.Symbols [] rfl]
 rw[show findL (z2P g) 0 g.Rules ()=_ from z8w (bad:=z3H) (c:=fun k=>(k:Int)) (all:=g.Rules) (f:=z2P g) (fun pre x post e=>by
  unfold z2P z3H
  rw[k4A (Nat.le_trans (z3G (by rw[e];simp)) h),bsS]
  cases ruleB x with
  | false=>rfl
  | true=>
   rw[ifP rfl,q3C (by rw[e];simp),show g.Rules.take pre.length=pre by rw[e];simp]
   unfold q4L q5b
   rw[q5a (q:=fun o:Rule=>decide (o.Name=x.Name)) fun k y hy=>by
    unfold q6L z1I
    rw[bsS]
    by_cases h:y.Name=x.Name
    ·rw[decide_eq_true h];rfl
    ·rw[decide_eq_false h];rfl]
   rw[bsS,← apply_ite some];rfl) g.Rules [] rfl]
 cases q4Y z6y [] g.Symbols with
 | some k=>rfl
 | none=>cases q4Y z3H [] g.Rules<;>rfl
theorem k0o {g:Grammar}(h:Sz.szd g≤1048576):g.Symbols.length≤1048576∧g.Rules.length≤1048576:=by
 have h1:=z2D g
 have h2:=q5r g.Symbols
 have h3:=q5r g.Rules
 omega
theorem k4D {g:Grammar}(h:Sz.szd g≤1048576):z7Q g=some (z9i g):=by
 have hl:=k0o h
 unfold z7Q z9i
 have h1:=(z6x (bad:=z6y) (nm:=fun y:Symbol=>y.Name) (c:=fun k=>(k:Int)) (all:=g.Symbols) (f:=fun k x _=>some (if z6y (g.Symbols.take k) x=true then .inr (k:Int) else .inl ())) (h:=z8J) (fun pre x post e=>by
   rw[show g.Symbols.take pre.length=pre by rw[e];simp]) (fun pre x post e=>by
  unfold z8J z6y
  rw[k6H (q9B h x (by rw[e];simp)),bsS]
  cases symB x with
  | false=>rfl
  | true=>
   have hp:pre.length≤1048576:=by
     have:g.Symbols.length=pre.length+(post.length+1):=by rw[e];simp
     omega
   rw[ifP rfl,k4x,bsS,List.any_map,q3C (by rw[lnM];constructor<;>omega),List.map_append,← apply_ite some];rfl) g.Symbols [] rfl).2
 have h2:=(z6x (bad:=z3H) (nm:=fun y:Rule=>y.Name) (c:=fun k=>(k:Int)) (all:=g.Rules) (f:=fun k x _=>some (if z3H (g.Rules.take k) x=true then .inr (k:Int) else .inl ())) (h:=z8K) (fun pre x post e=>by
   rw[show g.Rules.take pre.length=pre by rw[e];simp]) (fun pre x post e=>by
  unfold z8K z3H
  rw[k4B (Nat.le_trans (z3G (by rw[e];simp)) h),bsS]
  cases ruleB x with
  | false=>rfl
  | true=>
   have hp:pre.length≤1048576:=by
     have:g.Rules.length=pre.length+(post.length+1):=by rw[e];simp
     omega
   rw[ifP rfl,k4x,bsS,List.any_map,q3C (by rw[lnM];constructor<;>omega),List.map_append,← apply_ite some];rfl) g.Rules [] rfl).2
 rw[show findL z8J 0 g.Symbols []=_ from h1,show findL z8K 0 g.Rules []=_ from h2]
 cases q4Y z6y [] g.Symbols with
 | some k=>rfl
 | none=>cases q4Y z3H [] g.Rules<;>rfl
end Go.Proofs.YtcegfmageiicaaaGreat
namespace Go.Proofs.YtcegfmageiicaaaGreat
open Go Go.E
theorem j4A {ρ:Type}{c:ρ}{q:Nat→Bool}{n:Nat}{f:Nat→Unit→Option (Unit ⊕ ρ)}(h:∀ k,k<n→f k ()=some (if q k=true then .inl () else .inr c)):∀ (m k:Nat),k+m=n→findN f k m ()=some (if (List.range' k m).all q=true then .inl () else .inr c)
 | 0,k,_=>rfl
 | m+1,k,hk=>by
  have ih:=j4A h m (k+1) (by omega)
  rw[findN,h k (by omega),bsS]
  by_cases hq:q k=true
  ·rw[ifP hq,show (List.range' k (m+1)).all q=(List.range' (k+1) m).all q by simp[List.range'_succ,hq]]
   exact ih
  ·rw[ifN hq,show (List.range' k (m+1)).all q=false by simp[List.range'_succ,hq]];rfl
theorem k1v {ρ:Type}{c:ρ}{q:Nat→Bool}{n:Nat}{f:Int→Option (Int ⊕ (Unit ⊕ ρ))}(h:∀ k:Nat,k<n→f (k:Int)=some (if q k=true then .inl ((k+1:Nat):Int) else .inr (.inr c)))(he:f (n:Int)=some (.inr (.inl ()))):∀ (m k:Nat),k+m=n→q4l f (k:Int)=some (if (List.range' k m).all q=true then .inl () else .inr c)
 | 0,k,hk=>by
  obtain rfl:k=n:=by omega
  exact q3F he
 | m+1,k,hk=>by
  have ih:=k1v h he m (k+1) (by omega)
  have h1:=h k (by omega)
  by_cases hq:q k=true
  ·rw[ifP hq] at h1
   rw[q3S h1,show (List.range' k (m+1)).all q=(List.range' (k+1) m).all q by simp[List.range'_succ,hq]]
   exact ih
  ·rw[ifN hq] at h1
   rw[q3F h1,show (List.range' k (m+1)).all q=false by simp[List.range'_succ,hq]];rfl
def j5Q (g:Grammar)(r:Rule):Bool:=(List.range' 0 (r.Right.length+1)).all fun k=>(q8k g (q6G r (k:Int))).2
theorem k0p (g:Grammar){r:Rule}(hl:ROk r):z6c g r=some (!j5Q g r):=by
 have hl' : r.Right.length≤1048576:=hl
 unfold z6c
 rw[q3C (by constructor<;>omega),j4A (c:=true) (n:=r.Right.length+1) (q:=fun k=>(q8k g (q6G r (k:Int))).2) (fun k hk=>by
  unfold j3C
  rw[z9K hl,bsS,z4X,bsS]
  dsimp only
  rw[← apply_ite some]) (r.Right.length+1) 0 (by omega)]
 unfold j5Q
 cases (List.range' 0 (r.Right.length+1)).all fun k=>(q8k g (q6G r (k:Int))).2<;>rfl
theorem k0q {g:Grammar}(h:GOk g){r:Rule}(hl:ROk r):z1w g r=some (j5Q g r):=by
 have hl' : r.Right.length≤1048576:=hl
 unfold z1w
 have e:=k1v (c:=false) (q:=fun k=>(q8k g (q6G r (k:Int))).2) (n:=r.Right.length+1) (f:=z0F g r) (fun k hk=>by
  unfold z0F
  rw[ifP (by omega),z7d hl,bsS,z6w h,bsS]
  dsimp only
  rw[q3C (by constructor<;>omega),← apply_ite some];rfl) (by
  unfold z0F;rw[ifN (by omega)]) (r.Right.length+1) 0 (by omega)
 rw[show q4l (z0F g r) 0=_ from e]
 unfold j5Q
 cases (List.range' 0 (r.Right.length+1)).all fun k=>(q8k g (q6G r (k:Int))).2<;>rfl
theorem k9i (K:List Oc)(o:Oc):q3H K o=some (decide (o∈K)):=by
 unfold q3H q3P
 rw[q5a (q:=fun x=>decide (o=x)) fun k x hx=>by
  unfold q3J
  by_cases h:o=x
  ·rw[ifP h,ifP (by simpa using h)]
  ·rw[ifN h,ifN (by simpa using h)]]
 congr 1
 by_cases h:o∈K
 ·rw[decide_eq_true h,List.any_eq_true];exact⟨o,h,by simp⟩
 ·rw[decide_eq_false h,List.any_eq_false];intro x hx he;simp at he;exact h (he▸hx)
theorem k4E (K:List Oc)(o:Oc):q6O K o=some (decide (o∈K)):=by
 unfold q6O
 rw[q4J (c:=true) (q:=fun x=>!decide (x=o)) fun k x hx=>by
  unfold z5m
  by_cases h:x=o
  ·rw[ifP h,ifN (by simp[h])]
  ·rw[ifN h,ifP (by simp[h])]]
 by_cases h:o∈K
 ·rw[decide_eq_true h,ifN];· rfl
  rw[List.all_eq_true];intro hh;have:=hh o h;simp at this
 ·rw[decide_eq_false h,ifP];· rfl
  rw[List.all_eq_true];intro x hx;simp;exact fun e=>h (e▸hx)
def j8H (r:Rule)(o:Oc):Bool:=r.Equations.any fun q=>decide (q.At=o)
theorem k6I (r:Rule)(o:Oc):(eqAt r o).2=j8H r o:=by
 unfold eqAt j8H
 cases hf:r.Equations.find? (fun q=>decide (q.At=o)) with
 | none=>rw[List.find?_eq_none] at hf;symm;rw[List.any_eq_false];exact hf
 | some q=>symm;rw[List.any_eq_true];exact⟨q,List.mem_of_find?_eq_some hf,List.find?_some (p:=fun q:Eqn=>decide (q.At=o)) hf⟩
def k4F (g:Grammar)(r:Rule):Bool:=(reqL g r).any fun o=>!j8H r o
theorem k6J {g:Grammar}(h:GOk g){r:Rule}(hl:ROk r):z6d g r=some (k4F g r):=by
 unfold z6d k4F
 rw[k0k h hl,bsS]
 unfold q4x q4N
 rw[q5a (q:=fun o=>!j8H r o) fun k o ho=>by
  unfold q6u z5p q4w q4M
  rw[q5a (q:=fun q:Eqn=>decide (q.At=o)) fun k y hy=>by
   unfold q6t z2Q
   rw[bsS]
   by_cases h:y.At=o
   ·rw[decide_eq_true h];rfl
   ·rw[decide_eq_false h];rfl]
  rw[bsS,bsS,← apply_ite some];rfl]
 rfl
theorem k6K {g:Grammar}(h:GOk g){r:Rule}(hr:Sz.szd r≤1048576):z1y g r=some (k4F g r):=by
 unfold z1y k4F
 rw[k0l h (q5i hr),bsS,q4J (c:=true) (q:=j8H r) fun k o ho=>by
  unfold z9e
  rw[j2Q hr o,bsS]
  dsimp only
  rw[k6I,← apply_ite some]]
 have e:((reqL g r).all (j8H r))=!((reqL g r).any fun o=>!j8H r o):=by rw[j4y]
 rw[e]
 cases (reqL g r).any fun o=>!j8H r o<;>rfl
def j8I (g:Grammar)(r:Rule):Bool:=(q4Y (fun p (x:Eqn)=>!decide (x.At∈reqL g r)||p.any fun o=>decide (o.At=x.At)) [] r.Equations).isSome
theorem k4G {g:Grammar}(h:GOk g){r:Rule}(hl:ROk r):j0p g r=some (j8I g r):=by
 unfold j0p j8I
 rw[k0k h hl,bsS]
 rw[show findL (j0o r (reqL g r)) 0 r.Equations ()=_ from z8w (bad:=fun p (x:Eqn)=>!decide (x.At∈reqL g r)||p.any fun o=>decide (o.At=x.At)) (c:=fun _=>true) (all:=r.Equations) (f:=j0o r (reqL g r)) (fun pre x post e=>by
  unfold j0o
  rw[k9i,bsS]
  cases decide (x.At∈reqL g r) with
  | false=>rfl
  | true=>
   rw[ifP rfl,q3C (by rw[e];simp),show r.Equations.take pre.length=pre by rw[e];simp]
   unfold q4U q5f
   rw[q5a (q:=fun o:Eqn=>decide (o.At=x.At)) fun k y hy=>by
    unfold q7b z8L
    rw[bsS]
    by_cases h:y.At=x.At
    ·rw[decide_eq_true h];rfl
    ·rw[decide_eq_false h];rfl]
   rw[bsS,← apply_ite some];rfl) r.Equations [] rfl]
 cases q4Y (fun p (x:Eqn)=>!decide (x.At∈reqL g r)||p.any fun o=>decide (o.At=x.At)) [] r.Equations<;>rfl
theorem k4H {g:Grammar}(h:GOk g){r:Rule}(hr:Sz.szd r≤1048576):z4x g r=some (j8I g r):=by
 have hl:=(k8f hr).1
 unfold z4x j8I
 rw[k0l h (q5i hr),bsS]
 have h1:=(z6x (bad:=fun p (x:Eqn)=>!decide (x.At∈reqL g r)||p.any fun o=>decide (o.At=x.At)) (nm:=fun y:Eqn=>y.At) (c:=fun _=>true) (all:=r.Equations)
  (f:=fun k x _=>some (if (!decide (x.At∈reqL g r)||(r.Equations.take k).any fun o=>decide (o.At=x.At))=true then .inr true else .inl ())) (h:=z5n (reqL g r)) (fun pre x post e=>by
   rw[show r.Equations.take pre.length=pre by rw[e];simp]) (fun pre x post e=>by
  unfold z5n
  rw[k4E,bsS]
  cases decide (x.At∈reqL g r) with
  | false=>rfl
  | true=>
   have hp:pre.length≤1048576:=by
     have:r.Equations.length=pre.length+(post.length+1):=by rw[e];simp
     omega
   have e2:decide (x.At∈pre.map fun y:Eqn=>y.At)=pre.any fun o=>decide (o.At=x.At):=by
    by_cases hm:x.At∈pre.map fun y:Eqn=>y.At
    ·rw[decide_eq_true hm];symm;rw[List.any_eq_true]
     obtain⟨y,hy,he⟩:=List.mem_map.1 hm
     exact⟨y,hy,by simpa using he⟩
    ·rw[decide_eq_false hm];symm;rw[List.any_eq_false]
     intro y hy he
     exact hm (List.mem_map.2 ⟨y,hy,by simpa using he⟩)
   rw[ifP rfl,k4E,bsS,e2,q3C (by rw[lnM];constructor<;>omega),List.map_append,← apply_ite some];rfl) r.Equations [] rfl).2
 rw[show findL (z5n (reqL g r)) 0 r.Equations []=_ from h1]
 cases q4Y (fun p (x:Eqn)=>!decide (x.At∈reqL g r)||p.any fun o=>decide (o.At=x.At)) [] r.Equations<;>rfl
def useB (g:Grammar)(r:Rule)(e:Expr):Bool:=(attrs e).all (mayB g r)
theorem j7n {g:Grammar}(h:GOk g){r:Rule}(hl:ROk r){e:Expr}(he:Sz.szd e≤1048576):z2e g r e=some (useB g r e):=by
 unfold z2e useB
 rw[j7e he,bsS,q4J (c:=false) (q:=mayB g r) fun k x hx=>by
  unfold j3y
  rw[k8U h hl,bsS,← apply_ite some]]
 cases (attrs e).all (mayB g r)<;>rfl
theorem k6L (g:Grammar){r:Rule}(hl:ROk r){e:Expr}(he:Sz.szd e≤1048576):z3g e g r=some (!useB g r e):=by
 unfold z3g useB
 rw[j2P he,bsS]
 unfold q4p q4D
 rw[q5a (q:=fun o=>!mayB g r o) fun k o ho=>by
  unfold q6i z2R
  rw[k8T g hl,bsS,bsS,← apply_ite some]]
 rw[bsS,← j4y,Bool.not_not]
def z6z (r:Rule):List Expr:=r.Equations.map (fun q=>q.Expr)++r.Contributions.flatMap fun q=>[q.Target,q.Value]
theorem k1w {r:Rule}(hr:Sz.szd r≤1048576):q9p r=some (z6z r):=by
 have hl:=k8f hr
 have h1:∀ (xs:List Eqn) (i:Nat) (s:List Expr),s.length+xs.length≤1048576→eachL z1L i xs s=some (s++xs.map fun q=>q.Expr):=by
  intro xs
  induction xs with
  | nil=>intro i s _;simp[eachL]
  | cons x xs ih=>
   intro i s hs
   simp only[lnC] at hs
   have e:z1L i x s=some (s++[x.Expr]):=by unfold z1L;rw[q3C (by constructor<;>omega)]
   rw[eachL,e,bsS,ih _ _ (by simp;omega)];simp
 have h2:∀ (xs:List Cn) (i:Nat) (s:List Expr),s.length+2*xs.length≤4194304→eachL z1M i xs s=some (s++xs.flatMap fun q=>[q.Target,q.Value]):=by
  intro xs
  induction xs with
  | nil=>intro i s _;simp[eachL]
  | cons x xs ih=>
   intro i s hs
   simp only[lnC] at hs
   have e:z1M i x s=some (s++[x.Target,x.Value]):=by
    unfold z1M;rw[q3C (by simp only[lnC,List.length_nil];constructor<;>omega)]
   rw[eachL,e,bsS,ih _ _ (by simp;omega)];simp
 unfold q9p z6z
 rw[h1 _ _ _ (by simpa using hl.1),bsS,h2 _ _ _ (by simp;omega)];simp
theorem k6M {r:Rule}{e:Expr}(h:e∈z6z r):Sz.szd e≤Sz.szd r:=by
 unfold z6z at h
 rcases List.mem_append.1 h with h|h
 ·obtain⟨q,hq,rfl⟩:=List.mem_map.1 h;exact z9J hq
 ·obtain⟨q,hq,he⟩:=List.mem_flatMap.1 h
  have:=j0P hq
  simp at he
  rcases he with rfl|rfl
  ·exact this.1
  ·exact this.2
def misB (g:Grammar)(r:Rule):Bool:=!(z6z r).all (useB g r)
theorem k9j (g:Grammar){r:Rule}(hr:Sz.szd r≤1048576):z6e g r=some (misB g r):=by
 unfold z6e misB
 rw[k1w hr,bsS]
 unfold q5c q5o
 rw[q5a (q:=fun e=>!useB g r e) fun k e he=>by
  unfold q7D
  rw[k6L g (q5i hr) (Nat.le_trans (k6M he) hr),bsS,← apply_ite some]]
 rw[bsS,← j4y,Bool.not_not]
theorem k9k {g:Grammar}(h:GOk g){r:Rule}(hr:Sz.szd r≤1048576):z3d g r=some (misB g r):=by
 unfold z3d misB
 rw[q4J (c:=true) (q:=fun q:Eqn=>useB g r q.Expr) fun k x hx=>by
  unfold j0k
  rw[j7n h (q5i hr) (Nat.le_trans (z9J hx) hr),bsS,← apply_ite some]]
 rw[q4J (c:=true) (q:=fun q:Cn=>useB g r q.Target&&useB g r q.Value) fun k x hx=>by
  have hs:=j0P hx
  unfold j0l
  rw[j7n h (q5i hr) (Nat.le_trans hs.1 hr),bsS]
  cases useB g r x.Target with
  | false=>rfl
  | true=>rw[ifP rfl,j7n h (q5i hr) (Nat.le_trans hs.2 hr),bsS,← apply_ite some];rfl]
 have e:(z6z r).all (useB g r)=((r.Equations.all fun q=>useB g r q.Expr)&&r.Contributions.all fun q=>useB g r q.Target&&useB g r q.Value):=by
  unfold z6z
  rw[List.all_append,List.all_map,List.all_flatMap]
  congr 1
  congr 1;funext q;simp
 rw[e]
 cases r.Equations.all fun q=>useB g r q.Expr with
 | false=>rfl
 | true=>cases r.Contributions.all fun q=>useB g r q.Target&&useB g r q.Value<;>rfl
end Go.Proofs.YtcegfmageiicaaaGreat
namespace Go.Proofs.YtcegfmageiicaaaGreat
open Go Go.E
def z6A (g:Grammar)(r:Rule)(k:Int):Bool:=if k=3 then !j5Q g r else if k=4 then k4F g r else if k=5 then j8I g r else misB g r
theorem k4I {g:Grammar}(h:GOk g){r:Rule}(hr:Sz.szd r≤1048576)(k:Int):z3e g r k=some (z6A g r k):=by
 unfold z3e z6A
 by_cases h3:k=3
 ·rw[ifP h3,ifP h3,k0q h (q5i hr)];rfl
 ·rw[ifN h3,ifN h3]
  by_cases h4:k=4
  ·rw[ifP h4,ifP h4,k6K h hr];rfl
  ·rw[ifN h4,ifN h4]
   by_cases h5:k=5
   ·rw[ifP h5,ifP h5,k4H h hr];rfl
   ·rw[ifN h5,ifN h5,k9k h hr];rfl
theorem j8J {g:Grammar}(h:GOk g){r:Rule}(hr:Sz.szd r≤1048576)(k:Int)(i:Nat):z2S g k i r ()=some (if z6A g r k=true then .inr (k,(i:Int)) else .inl ()):=by
 unfold z2S z6A
 by_cases h3:k=3
 ·rw[ifP h3,ifP h3,k0p g (q5i hr),bsS,← apply_ite some]
 ·rw[ifN h3,ifN h3]
  by_cases h4:k=4
  ·rw[ifP h4,ifP h4,k6J h (q5i hr),bsS,← apply_ite some]
  ·rw[ifN h4,ifN h4]
   by_cases h5:k=5
   ·rw[ifP h5,ifP h5,k4G h (q5i hr),bsS,← apply_ite some]
   ·rw[ifN h5,ifN h5,k9j g hr,bsS,← apply_ite some]
theorem k4J {g:Grammar}(h:GOk g){r:Rule}(hr:Sz.szd r≤1048576)(k:Int)(i:Nat):z2L g k i r ()=some (if z6A g r k=true then .inr (k,(i:Int)) else .inl ()):=by
 unfold z2L
 rw[k4I h hr,bsS,← apply_ite some]
theorem j4B {α σ ρ:Type}{f g:Nat→α→σ→Option (σ ⊕ ρ)}:∀ {xs:List α} {i:Nat} {s:σ},(∀ k x s,x∈xs→f k x s=g k x s)→findL f i xs s=findL g i xs s
 | [],_,_,_=>rfl
 | x::xs,i,s,h=>by
  rw[findL,findL,h i x s (by simp)]
  congr 1;funext z
  cases z with
  | inl s'=>exact j4B fun k y s hy=>h k y s (by simp[hy])
  | inr r=>rfl
theorem k0r {g:Grammar}(h:Sz.szd g≤1048576)(k:Int):z2M g k=q6D g k:=by
 unfold z2M q6D
 have e:findL (z2L g k) 0 g.Rules ()=findL (z2S g k) 0 g.Rules ():=j4B fun i x _ hx=>by
  have hr:=Nat.le_trans (z3G hx) h
  rw[k4J (q9B h) hr,j8J (q9B h) hr]
 rw[e]
def q8M (g:Grammar)(k:Int):Option (Int×Int):=match g.Rules.findIdx? fun r=>z6A g r k with
 | some i=>some (k,(i:Int))
 | none=>none
theorem z8x {α ρ:Type}{q:α→Bool}{c:Nat→ρ}:∀ {xs:List α} {i:Nat} {f:Nat→α→Unit→Option (Unit ⊕ ρ)},(∀ k x,x∈xs→f k x ()=some (if q x=true then .inr (c k) else .inl ())) →
  findL f i xs ()=some (match xs.findIdx? q with|some j=>.inr (c (i+j))|none=>.inl ())
 | [],_,_,_=>rfl
 | x::xs,i,f,h=>by
  rw[findL,h i x (by simp),bsS,List.findIdx?_cons]
  by_cases hq:q x=true
  ·rw[ifP hq,ifP hq];rfl
  ·rw[ifN hq,ifN hq]
   have ih:=z8x (q:=q) (c:=c) (xs:=xs) (i:=i+1) (f:=f) fun k y hy=>h k y (by simp[hy])
   dsimp only
   rw[ih]
   cases xs.findIdx? q with
   | none=>rfl
   | some j=>simp only[Option.map_some];rw[show i+1+j=i+(j+1) by omega]
def z7u (g:Grammar):Int×Int:=
 if !decide (1≤g.Symbols.length∧g.Symbols.length≤4) || !decide (1≤g.Rules.length∧g.Rules.length≤8) then (1,0)
 else if 0≤z9i g then (1,z9i g)
 else if (g.Symbols.getD 0 zS).Attributes.any fun a=>decide (a.Mode=1) then (2,0)
 else (q8M g 3 <|> (q8M g 4 <|> (q8M g 5 <|> q8M g 6))).getD (0,0)
theorem j4C {g:Grammar}(h:Sz.szd g≤1048576):(q4l (q6D g) 3).bind (onr (fun r2=>some r2) fun ()=>some (0,0))=some ((q8M g 3 <|> (q8M g 4 <|> (q8M g 5 <|> q8M g 6))).getD (0,0)):=by
 have hstep:∀ k:Int,3≤k→k≤6→q6D g k=match q8M g k with|some z=>some (.inr (.inr z))|none=>some (.inl (k+1)):=by
  intro k h3 h6
  unfold q6D q8M
  rw[ifP h6,z8x (q:=fun r=>z6A g r k) (c:=fun i=>(k,(i:Int))) fun i x hx=>j8J (q9B h) (Nat.le_trans (z3G hx) h) k i]
  cases g.Rules.findIdx? fun r=>z6A g r k with
  | some i=>simp
  | none=>rw[bsS];dsimp only[onr];rw[q3C (by constructor<;>omega)]
 have hend:q6D g 7=some (.inr (.inl ())):=by unfold q6D;rw[ifN (by omega)]
 have h3:=hstep 3 (by omega) (by omega)
 have h4:=hstep 4 (by omega) (by omega)
 have h5:=hstep 5 (by omega) (by omega)
 have h6:=hstep 6 (by omega) (by omega)
 cases s3:q8M g 3 with
 | some z=>rw[s3] at h3;rw[q3F h3];rfl
 | none=>
  rw[s3] at h3
  rw[q3S h3,show (3:Int)+1=4 by rfl]
  cases s4:q8M g 4 with
  | some z=>rw[s4] at h4;rw[q3F h4];rfl
  | none=>
   rw[s4] at h4
   rw[q3S h4,show (4:Int)+1=5 by rfl]
   cases s5:q8M g 5 with
   | some z=>rw[s5] at h5;rw[q3F h5];rfl
   | none=>
    rw[s5] at h5
    rw[q3S h5,show (5:Int)+1=6 by rfl]
    cases s6:q8M g 6 with
    | some z=>rw[s6] at h6;rw[q3F h6];rfl
    | none=>
     rw[s6] at h6
     rw[q3S h6,show (6:Int)+1=7 by rfl,q3F hend];rfl
theorem k4K {g:Grammar}(h:Sz.szd g≤1048576):z1N g=some (z7u g):=by
 unfold z1N z7u
 rw[z9h,bsS]
 by_cases h1:1≤g.Symbols.length∧g.Symbols.length≤4
 ·rw[decide_eq_true (by omega),ifP rfl,z9h,bsS,decide_eq_true h1]
  by_cases h2:1≤g.Rules.length∧g.Rules.length≤8
  ·rw[decide_eq_true (by omega),ifP rfl,k4C h,bsS,decide_eq_true h2]
   simp only[Bool.not_true,Bool.or_self,Bool.false_eq_true,if_false]
   by_cases h3:0≤z9i g
   ·rw[ifP h3,ifP h3]
   ·rw[ifN h3,ifN h3,List.getD_eq_getElem?_getD,List.getElem?_eq_getElem (by omega:0<g.Symbols.length),bsS,Option.getD_some]
    unfold q4o q4C
    rw[q5a (q:=fun a:At_=>decide (a.Mode=1)) fun k y hy=>by
     unfold q6h z1K
     rw[bsS,← apply_ite some]]
    rw[bsS]
    by_cases h4:(g.Symbols[0].Attributes.any fun a=>decide (a.Mode=1))=true
    ·rw[ifP h4,ifP h4]
    ·rw[ifN h4,ifN h4]
     exact j4C h
  ·rw[decide_eq_false (by omega),decide_eq_false h2];rfl
 ·rw[decide_eq_false (by omega),decide_eq_false h1];rfl
theorem k4L {g:Grammar}(h:Sz.szd g≤1048576):z1z g=some (z7u g):=by
 unfold z1z z7u
 rw[z4V,bsS]
 by_cases h1:1≤g.Symbols.length∧g.Symbols.length≤4
 ·rw[decide_eq_true (by omega),ifP rfl,z4V,bsS,decide_eq_true h1]
  by_cases h2:1≤g.Rules.length∧g.Rules.length≤8
  ·rw[decide_eq_true (by omega),ifP rfl,k4D h,bsS,decide_eq_true h2]
   simp only[Bool.not_true,Bool.or_self,Bool.false_eq_true,if_false]
   by_cases h3:0≤z9i g
   ·rw[ifP h3,ifP h3]
   ·rw[ifN h3,ifN h3,List.getD_eq_getElem?_getD,List.getElem?_eq_getElem (by omega:0<g.Symbols.length),bsS,Option.getD_some]
    rw[q4J (c:=((2:Int),(0:Int))) (q:=fun a:At_=>!decide (a.Mode=1)) fun k y hy=>by
     unfold z9f
     by_cases hm:y.Mode=1
     ·rw[ifP hm,ifN (by simp[hm])]
     ·rw[ifN hm,ifP (by simp[hm])]]
    have e:(g.Symbols[0].Attributes.all fun a=>!decide (a.Mode=1))=!(g.Symbols[0].Attributes.any fun a=>decide (a.Mode=1)):=by rw[List.not_any_eq_all_not]
    rw[e]
    cases (g.Symbols[0].Attributes.any fun a=>decide (a.Mode=1)) with
    | true=>rfl
    | false=>
     rw[Bool.not_false,ifP rfl,bsS,z4l,ifN (by simp),show z2M g=q6D g from funext fun k=>k0r h k]
     exact j4C h
  ·rw[decide_eq_false (by omega),decide_eq_false h2];rfl
 ·rw[decide_eq_false (by omega),decide_eq_false h1];rfl
theorem z8S {α:Type}{bad:List α→α→Bool}:∀ (xs pre:List α),q4Y bad pre xs=none→∀ k x,xs[k]?=some x→bad (pre++xs.take k) x=false
 | [],pre,h,k,x,hx=>by simp at hx
 | y::xs,pre,h,k,x,hx=>by
  rw[q4Y] at h
  by_cases hb:bad pre y=true
  ·rw[ifP hb] at h;cases h
  ·rw[ifN hb] at h
   cases k with
   | zero=>simp at hx;subst hx;simpa using hb
   | succ k=>
    have:=z8S xs (pre++[y]) h k x (by simpa using hx)
    simpa using this
structure Shape (g:Grammar):Prop where
 syms:1≤g.Symbols.length∧g.Symbols.length≤4
 rules:1≤g.Rules.length∧g.Rules.length≤8
 sym:q4Y z6y [] g.Symbols=none
 rule:q4Y z3H [] g.Rules=none
 brk:∀ k:Int,3≤k→k≤6→∀ r∈g.Rules,z6A g r k=false
 j7J:∀ y a,g.Symbols[0]?=some y→a∈y.Attributes→a.Mode≠1
theorem k1x {g:Grammar}(h:(z7u g).1=0):Shape g:=by
 unfold z7u at h
 by_cases h1:1≤g.Symbols.length∧g.Symbols.length≤4
 ·by_cases h2:1≤g.Rules.length∧g.Rules.length≤8
  ·rw[decide_eq_true h1,decide_eq_true h2] at h
   simp only[Bool.not_true,Bool.or_self,Bool.false_eq_true,if_false] at h
   by_cases h3:0≤z9i g
   ·rw[ifP h3] at h;simp at h
   ·rw[ifN h3] at h
    by_cases h4:((g.Symbols.getD 0 zS).Attributes.any fun a=>decide (a.Mode=1))=true
    ·rw[ifP h4] at h;simp at h
    ·rw[ifN h4] at h
     have hf:q4Y z6y [] g.Symbols=none∧q4Y z3H [] g.Rules=none:=by
      unfold z9i at h3
      cases e1:q4Y z6y [] g.Symbols with
      | some k=>rw[e1] at h3;exact absurd (Int.natCast_nonneg k) h3
      | none=>
       cases e2:q4Y z3H [] g.Rules with
       | some k=>rw[e1,e2] at h3;exact absurd (Int.natCast_nonneg k) h3
       | none=>exact⟨rfl,rfl⟩
     have hk:∀ k:Int,q8M g k=none→∀ r∈g.Rules,z6A g r k=false:=by
      intro k hk r hr
      unfold q8M at hk
      cases e:g.Rules.findIdx? fun r=>z6A g r k with
      | some i=>rw[e] at hk;cases hk
      | none=>
       rw[List.findIdx?_eq_none_iff] at e
       exact e r hr
     have hc:∀ k:Int,3≤k→∀ z,q8M g k=some z→z.1≠0:=by
      intro k h3 z hz
      unfold q8M at hz
      cases e:g.Rules.findIdx? fun r=>z6A g r k with
      | none=>rw[e] at hz;cases hz
      | some i=>rw[e] at hz;cases hz;show k≠0;omega
     have n3:q8M g 3=none:=by
      cases e:q8M g 3 with
      | none=>rfl
      | some z=>rw[e] at h;exact absurd h (hc 3 (by omega) z e)
     rw[n3] at h
     have n4:q8M g 4=none:=by
      cases e:q8M g 4 with
      | none=>rfl
      | some z=>rw[e] at h;exact absurd h (hc 4 (by omega) z e)
     rw[n4] at h
     have n5:q8M g 5=none:=by
      cases e:q8M g 5 with
      | none=>rfl
      | some z=>rw[e] at h;exact absurd h (hc 5 (by omega) z e)
     rw[n5] at h
     have n6:q8M g 6=none:=by
      cases e:q8M g 6 with
      | none=>rfl
      | some z=>rw[e] at h;exact absurd h (hc 6 (by omega) z e)
     refine⟨h1,h2,hf.1,hf.2,fun k k3 k6=>?_,fun y a hy ha hm=>h4 ?_⟩
     ·have:k=3∨k=4∨k=5∨k=6:=by omega
      rcases this with rfl|rfl|rfl|rfl
      ·exact hk _ n3
      ·exact hk _ n4
      ·exact hk _ n5
      ·exact hk _ n6
     ·rw[List.getD_eq_getElem?_getD,hy,List.any_eq_true]
      exact⟨a,ha,by simpa using hm⟩
  ·rw[decide_eq_false h2] at h;simp at h
 ·rw[decide_eq_false h1] at h;simp at h
theorem Shape.ruleB {g:Grammar}(h:Shape g){r:Rule}(hr:r∈g.Rules):ruleB r=true:=by
 obtain⟨k,hk⟩:=List.getElem?_of_mem hr
 have:=z8S _ _ h.rule k r hk
 unfold z3H at this
 rw[Bool.or_eq_false_iff] at this
 simpa using this.1
theorem Shape.symB {g:Grammar}(h:Shape g){y:Symbol}(hy:y∈g.Symbols):symB y=true:=by
 obtain⟨k,hk⟩:=List.getElem?_of_mem hy
 have:=z8S _ _ h.sym k y hk
 unfold z6y at this
 rw[Bool.or_eq_false_iff] at this
 simpa using this.1
theorem Shape.pos {g:Grammar}(h:Shape g){r:Rule}(hr:r∈g.Rules){q:Eqn}(hq:q∈r.Equations):0≤q.At.Pos∧q.At.Pos≤(r.Right.length:Int):=by
 have:=h.ruleB hr
 unfold Go.Proofs.YtcegfmageiicaaaGreat.ruleB at this
 simp only[Bool.and_eq_true,List.all_eq_true] at this
 have:=this.2.2.2.1 q hq
 unfold eqnB at this
 simp only[Bool.and_eq_true,decide_eq_true_eq] at this
 exact this.2.2
end Go.Proofs.YtcegfmageiicaaaGreat
namespace Go.Proofs.YtcegfmageiicaaaGreat
open Go Go.E
def typK (g:Grammar)(r:Rule)(k n p t:Int)(sy nm:ByteArray)(ts:List Int):Int:=
 if k=1 then t else if k=2 then (if r.Literal=true then 1 else 0) else if k=3 then (z2c g r ⟨p,nm⟩).1.Type_
 else if k=4 then (if ts.length=2∧ts.getD 0 0=(opT n).1∧ts.getD 1 0=(opT n).2.1 then (opT n).2.2 else 0)
 else if k=5 then (if ts.length=3∧ts.getD 0 0=3∧ts.getD 1 0=ts.getD 2 0 then ts.getD 1 0 else 0)
 else if k=6 then (if 0≤p∧p≤(r.Right.length:Int) then 4 else 0) else if k=7 then 4
 else if k=8 then (if ts.length=1∧ts.getD 0 0=4 then (z5N (q8k g sy).1 nm).1.Type_ else 0) else 0
mutual
def typE (g:Grammar)(r:Rule):Expr→Int
 | ⟨k,n,p,t,sy,nm,a⟩=>typK g r k n p t sy nm (k6N g r a)
def k6N (g:Grammar)(r:Rule):List Expr→List Int
 | []=>[]
 | x::xs=>typE g r x::k6N g r xs
end
theorem k1y (g:Grammar)(r:Rule):∀ l,k6N g r l=l.map (typE g r)
 | []=>rfl
 | x::xs=>by rw[k6N,k1y g r xs];rfl
theorem k4M (g:Grammar)(r:Rule)(e:Expr):typE g r e=typK g r e.Kind e.N e.Pos e.Type_ e.Symbol e.Name (e.Args.map (typE g r)):=by
 cases e;rw[typE,k1y]
theorem j8K {y:Symbol}{s:ByteArray}(h:(z5N y s).2≠true):(z5N y s).1=zA:=by
 unfold z5N at h ⊢
 cases hf:y.Attributes.find? (fun a=>decide (a.Name=s)) with
 | none=>rfl
 | some a=>rw[hf] at h;exact absurd rfl h
theorem k0s {g:Grammar}(h:GOk g)(s nm:ByteArray):q7A g s nm=some (z5N (q8k g s).1 nm).1.Type_:=by
 unfold q7A
 rw[z6w h,bsS]
 try dsimp only
 rw[j4v,bsS]
 try dsimp only
 by_cases hb:(z5N (q8k g s).1 nm).2=true
 ·rw[ifP hb]
 ·rw[ifN hb,j8K hb];rfl
theorem k6O (g:Grammar){r:Rule}(hl:ROk r)(e:Expr):∀ m,fuE e≤m→Sz.szd e≤1048576→q8Q m g r e=some (typE g r e):=by
 induction e using z1W with
 | h e ih=>
  intro m hm hs
  obtain⟨m,rfl⟩:∃ q,m=q+1:=⟨m-1,by have:=z7s e;omega⟩
  show z1O (q8Q m) g r e=_
  have hlen:e.Args.length≤1048576:=by have:=q8Z e;have:=q5r e.Args;omega
  have hloop:∀ (xs:List Expr) (i:Nat) (s:List Int),(∀ x∈xs,x∈e.Args)→s.length+xs.length≤1048576→eachL (z2T (q8Q m) g r) i xs s=some (s++xs.map (typE g r)):=by
   intro xs
   induction xs with
   | nil=>intro i s _ _;simp[eachL]
   | cons x xs ihx=>
    intro i s hx hn
    simp only[lnC] at hn
    have e1:z2T (q8Q m) g r i x s=some (s++[typE g r x]):=by
     unfold z2T
     have hxe:=hx x (by simp)
     rw[ih x hxe m (by have:=z7t hxe;omega) (by have:=k4b hxe;omega),bsS,q3C (by constructor<;>omega)]
    rw[eachL,e1,bsS,ihx _ _ (fun y hy=>hx y (by simp[hy])) (by simp;omega)];simp
  unfold z1O
  rw[hloop e.Args 0 [] (fun _ h=>h) (by simpa using hlen),bsS,List.nil_append,k4M]
  generalize e.Args.map (typE g r)=ts
  unfold typK
  by_cases k1:e.Kind=1
  ·rw[ifP k1,ifP k1]
  rw[ifN k1,ifN k1]
  by_cases k2:e.Kind=2
  ·rw[ifP k2,ifP k2,bsS]
   by_cases hL:r.Literal=true
   ·rw[ifP hL,ifP hL]
   ·rw[ifN hL,ifN hL]
    simp[k2]
  rw[ifN k2,ifN k2,bsS,ifN (by simp)]
  by_cases k3:e.Kind=3
  ·rw[ifP k3,ifP k3,j1x g hl];rfl
  rw[ifN k3,ifN k3]
  by_cases k4:e.Kind=4
  ·rw[ifP k4,ifP k4,bsS]
   by_cases hn:ts.length=2
   ·obtain⟨a,b,rfl⟩:∃ a b,ts=[a,b]:=by
     match ts,hn with
     | [a,b],_=>exact⟨a,b,rfl⟩
    rw[ifP (by simp),k9b,bsS]
    simp only[List.getElem?_cons_zero,List.getElem?_cons_succ,bsS,List.getD_cons_zero,List.getD_cons_succ]
    by_cases ha:a=(opT e.N).1
    ·rw[ifP ha,bsS]
     by_cases hb:b=(opT e.N).2.1
     ·rw[ifP (by simp[hb]),ifP ⟨hn,ha,hb⟩]
     ·rw[ifN (by simp[hb]),ifN fun h=>hb h.2.2]
    ·rw[ifN ha,bsS,ifN (by simp),ifN fun h=>ha h.2.1]
   ·have hz:(if ts.length=2∧ts.getD 0 0=(opT e.N).1∧ts.getD 1 0=(opT e.N).2.1 then (opT e.N).2.2 else 0)=0:=ifN fun h=>hn h.1
    rw[hz,ifN (by simp;omega)]
    simp[k4]
  rw[ifN k4,ifN k4,bsS,ifN (by simp)]
  by_cases k5:e.Kind=5
  ·rw[ifP k5,ifP k5,bsS]
   by_cases hn:ts.length=3
   ·obtain⟨a,b,c,rfl⟩:∃ a b c,ts=[a,b,c]:=by
     match ts,hn with
     | [a,b,c],_=>exact⟨a,b,c,rfl⟩
    rw[ifP (by simp)]
    simp only[List.getElem?_cons_zero,List.getElem?_cons_succ,bsS,List.getD_cons_zero,List.getD_cons_succ]
    by_cases ha:a=3
    ·rw[ifP ha]
     by_cases hb:b=c
     ·rw[ifP hb,ifP ⟨hn,ha,hb⟩]
     ·rw[ifN hb,ifN fun h=>hb h.2.2]
    ·rw[ifN ha,ifN fun h=>ha h.2.1]
   ·have hz:(if ts.length=3∧ts.getD 0 0=3∧ts.getD 1 0=ts.getD 2 0 then ts.getD 1 0 else 0)=0:=ifN fun h=>hn h.1
    rw[hz,ifN (by simp;omega)]
    simp[k5]
  rw[ifN k5,ifN k5,bsS,ifN (by simp)]
  by_cases k6:e.Kind=6
  ·rw[ifP k6,ifP k6,z9h,bsS,bsS]
   by_cases hp:0≤e.Pos∧e.Pos≤(r.Right.length:Int)
   ·rw[decide_eq_true hp,ifP hp];rfl
   ·rw[decide_eq_false hp,ifN hp]
    simp[k6]
  rw[ifN k6,ifN k6,bsS,ifN (by simp),bsS]
  by_cases k7:e.Kind=7
  ·rw[ifP (by simp[k7]),ifP k7]
  rw[ifN (by simp[k7]),ifN k7]
  by_cases k8:e.Kind=8
  ·rw[ifP k8,ifP k8,bsS]
   by_cases hn:ts.length=1
   ·obtain⟨a,rfl⟩:∃ a,ts=[a]:=by
     match ts,hn with
     | [a],_=>exact⟨a,rfl⟩
    rw[ifP (by simp)]
    simp only[List.getElem?_cons_zero,bsS,List.getD_cons_zero]
    by_cases ha:a=4
    ·rw[ifP (by simp[ha]),ifP ⟨hn,ha⟩,z4X,bsS]
     try dsimp only
     rw[j0N];rfl
    ·rw[ifN (by simp[ha]),ifN fun h=>ha h.2]
   ·rw[ifN (by simp;omega),ifN fun h=>hn h.1];rfl
  rw[ifN k8,ifN k8];rfl
theorem k0t (g:Grammar){r:Rule}(hl:ROk r){e:Expr}(hs:Sz.szd e≤1048576):z1P g r e=some (typE g r e):=q9u (fuE e) fun m hm=>k6O g hl e m hm hs
theorem k6P {g:Grammar}(h:GOk g){r:Rule}(hl:ROk r)(e:Expr):∀ m,fuE e≤m→z0d m g r e=some (typE g r e):=by
 induction e using z1W with
 | h e ih=>
  intro m hm
  obtain⟨m,rfl⟩:∃ q,m=q+1:=⟨m-1,by have:=z7s e;omega⟩
  show z1A (z0d m) g r e=_
  have hx:∀ x∈e.Args,z0d m g r x=some (typE g r x):=fun x hxe=>ih x hxe m (by have:=z7t hxe;omega)
  unfold z1A
  rw[k4M]
  unfold typK
  by_cases k1:e.Kind=1
  ·rw[ifP k1,ifP k1]
  rw[ifN k1,ifN k1]
  by_cases k2:e.Kind=2
  ·rw[ifP k2,ifP k2,← apply_ite some]
  rw[ifN k2,ifN k2]
  by_cases k3:e.Kind=3
  ·rw[ifP k3,ifP k3,z4V,bsS]
   unfold z2c
   by_cases hp:0≤e.Pos∧e.Pos≤(r.Right.length:Int)
   ·rw[ifP (by simpa using hp),ifP hp,z7d hl,bsS,k0s h];rfl
   ·rw[ifN (by simpa using hp),ifN hp];rfl
  rw[ifN k3,ifN k3]
  by_cases k4:e.Kind=4
  ·rw[ifP k4,ifP k4]
   unfold j2M
   rw[k9c,bsS]
   try dsimp only
   by_cases hn:e.Args.length=2
   ·obtain⟨a,b,hab⟩:∃ a b,e.Args=[a,b]:=by
     match e.Args,hn with
     | [a,b],_=>exact⟨a,b,rfl⟩
    rw[hab] at hx
    rw[hab,ifP (by simp)]
    simp only[List.getElem?_cons_zero,List.getElem?_cons_succ,bsS,List.map_cons,List.map_nil,List.getD_cons_zero,List.getD_cons_succ]
    rw[hx a (by simp),bsS]
    by_cases ha:typE g r a=(opT e.N).1
    ·rw[ifP ha,hx b (by simp),bsS]
     by_cases hb:typE g r b=(opT e.N).2.1
     ·rw[ifP hb,ifP ⟨by simp,ha,hb⟩];rfl
     ·rw[ifN hb,ifN fun h=>hb h.2.2];rfl
    ·rw[ifN ha,ifN fun h=>ha h.2.1];rfl
   ·rw[ifN (by omega),ifN fun h=>hn (by simpa using h.1)];rfl
  rw[ifN k4,ifN k4]
  by_cases k5:e.Kind=5
  ·rw[ifP k5,ifP k5]
   unfold j2N
   by_cases hn:e.Args.length=3
   ·obtain⟨a,b,c,hab⟩:∃ a b c,e.Args=[a,b,c]:=by
     match e.Args,hn with
     | [a,b,c],_=>exact⟨a,b,c,rfl⟩
    rw[hab] at hx
    rw[hab,ifP (by simp)]
    simp only[List.getElem?_cons_zero,List.getElem?_cons_succ,bsS,List.map_cons,List.map_nil,List.getD_cons_zero,List.getD_cons_succ]
    rw[hx a (by simp),bsS]
    by_cases ha:typE g r a=3
    ·rw[ifP ha,hx b (by simp),bsS,hx c (by simp),bsS]
     by_cases hb:typE g r b=typE g r c
     ·rw[ifP hb,ifP ⟨by simp,ha,hb⟩];rfl
     ·rw[ifN hb,ifN fun h=>hb h.2.2];rfl
    ·rw[ifN ha,ifN fun h=>ha h.2.1];rfl
   ·rw[ifN (by omega),ifN fun h=>hn (by simpa using h.1)];rfl
  rw[ifN k5,ifN k5]
  by_cases k6:e.Kind=6
  ·rw[ifP k6,ifP k6,z4V,bsS]
   by_cases hp:0≤e.Pos∧e.Pos≤(r.Right.length:Int)
   ·rw[ifP (by simpa using hp),ifP hp]
   ·rw[ifN (by simpa using hp),ifN hp]
  rw[ifN k6,ifN k6]
  by_cases k7:e.Kind=7
  ·rw[ifP k7,ifP k7]
  rw[ifN k7,ifN k7]
  by_cases k8:e.Kind=8
  ·rw[ifP k8,ifP k8]
   by_cases hn:e.Args.length=1
   ·obtain⟨a,hab⟩:∃ a,e.Args=[a]:=by
     match e.Args,hn with
     | [a],_=>exact⟨a,rfl⟩
    rw[hab] at hx
    rw[hab,ifP (by simp)]
    simp only[List.getElem?_cons_zero,bsS,List.map_cons,List.map_nil,List.getD_cons_zero]
    rw[hx a (by simp),bsS]
    by_cases ha:typE g r a=4
    ·rw[ifP ha,ifP ⟨by simp,ha⟩,k0s h];rfl
    ·rw[ifN ha,ifN fun h=>ha h.2]
   ·rw[ifN (by omega),ifN fun h=>hn (by simpa using h.1)]
  rw[ifN k8,ifN k8]
theorem k0u {g:Grammar}(h:GOk g){r:Rule}(hl:ROk r)(e:Expr):z1B g r e=some (typE g r e):=q9u (fuE e) fun m hm=>k6P h hl e m hm
def conT (g:Grammar)(r:Rule)(q:Cn):Bool:=(decide (typE g r q.Target=4)&&decide (typE g r q.Value=2))&&decide ((z5N (q8k g q.Symbol).1 q.Name).1.Mode=3)
def typR (g:Grammar)(r:Rule):Bool:=(r.Equations.all fun q=>decide (typE g r q.Expr=(z2c g r q.At).1.Type_))&&r.Contributions.all (conT g r)
theorem k6Q (g:Grammar){r:Rule}(hr:Sz.szd r≤1048576):z4C g r=some (!typR g r):=by
 have hl:=q5i hr
 unfold z4C typR
 rw[q4J (c:=true) (q:=fun q:Eqn=>decide (typE g r q.Expr=(z2c g r q.At).1.Type_)) fun k x hx=>by
  unfold j1O
  rw[j1x g hl,bsS]
  try dsimp only
  rw[k0t g hl (Nat.le_trans (z9J hx) hr),bsS]
  by_cases hp:typE g r x.Expr=(z2c g r x.At).1.Type_
  ·rw[ifP hp,ifP (by simpa using hp)]
  ·rw[ifN hp,ifN (by simpa using hp)]]
 rw[q4J (c:=true) (q:=conT g r) fun k x hx=>by
  have hs:=j0P hx
  unfold j1P conT
  rw[z4X,bsS]
  try dsimp only
  rw[j0N,bsS]
  try dsimp only
  rw[k0t g hl (Nat.le_trans hs.1 hr),bsS]
  by_cases h1:typE g r x.Target=4
  ·rw[ifP h1,k0t g hl (Nat.le_trans hs.2 hr),bsS,bsS,decide_eq_true h1]
   cases decide (typE g r x.Value=2) with
   | false=>rfl
   | true=>
    rw[Bool.not_true,ifN (by simp),bsS]
    cases decide ((z5N (q8k g x.Symbol).1 x.Name).1.Mode=3)<;>rfl
  ·rw[ifN h1,decide_eq_false h1];rfl]
 cases r.Equations.all fun q=>decide (typE g r q.Expr=(z2c g r q.At).1.Type_) with
 | false=>rfl
 | true=>cases r.Contributions.all (conT g r)<;>rfl
theorem k6R {g:Grammar}(h:GOk g){r:Rule}(hr:Sz.szd r≤1048576)(hp:∀ q∈r.Equations,0≤q.At.Pos∧q.At.Pos≤(r.Right.length:Int)):z5W g r=some (typR g r):=by
 have hl:=q5i hr
 unfold z5W typR
 rw[q4J (c:=false) (q:=fun q:Eqn=>decide (typE g r q.Expr=(z2c g r q.At).1.Type_)) fun k x hx=>by
  unfold j3z
  rw[k0u h hl,bsS,z7d hl,bsS,k0s h,bsS]
  have e:(z5N (q8k g (q6G r x.At.Pos)).1 x.At.Name).1.Type_=(z2c g r x.At).1.Type_:=by unfold z2c;rw[ifP (hp x hx)]
  rw[e]
  by_cases hp:typE g r x.Expr=(z2c g r x.At).1.Type_
  ·rw[ifP hp,ifP (by simpa using hp)]
  ·rw[ifN hp,ifN (by simpa using hp)]]
 rw[q4J (c:=false) (q:=conT g r) fun k x hx=>by
  unfold j3A conT
  rw[z6w h,bsS]
  try dsimp only
  rw[j4v,bsS]
  try dsimp only
  have e:(if (z5N (q8k g x.Symbol).1 x.Name).2=true then some (!decide ((z5N (q8k g x.Symbol).1 x.Name).1.Mode=3)) else some true)=some (!decide ((z5N (q8k g x.Symbol).1 x.Name).1.Mode=3)):=by
   by_cases hb:(z5N (q8k g x.Symbol).1 x.Name).2=true
   ·rw[ifP hb]
   ·rw[ifN hb,j8K hb];rfl
  rw[e,bsS]
  cases decide ((z5N (q8k g x.Symbol).1 x.Name).1.Mode=3) with
  | false=>rw[Bool.and_false];rfl
  | true=>
   rw[Bool.not_true,ifN (by simp),k0u h hl,bsS,bsS]
   cases decide (typE g r x.Target=4) with
   | false=>rfl
   | true=>
    rw[Bool.not_true,ifN (by simp),k0u h hl,bsS,bsS]
    cases decide (typE g r x.Value=2)<;>rfl]
 cases r.Equations.all fun q=>decide (typE g r q.Expr=(z2c g r q.At).1.Type_) with
 | false=>rfl
 | true=>cases r.Contributions.all (conT g r)<;>rfl
end Go.Proofs.YtcegfmageiicaaaGreat
namespace Go.Proofs.YtcegfmageiicaaaGreat
open Go Go.E
def atS (g:Grammar)(n:ByteArray):Option Nat:=g.Symbols.findIdx? fun y=>decide (y.Name=n)
def atI (g:Grammar)(n:ByteArray):Int:=match atS g n with
 | some j=>(j:Int)
 | none=>-1
theorem j0Q {α ρ:Type}{q:α→Bool}{c:Nat→ρ}:∀ {xs:List α} {i:Nat} {f:Nat→α→Unit→Option (Unit ⊕ ρ)},(∀ j x,xs[j]?=some x→f (i+j) x ()=some (if q x=true then .inr (c (i+j)) else .inl ())) →
  findL f i xs ()=some (match xs.findIdx? q with|some j=>.inr (c (i+j))|none=>.inl ())
 | [],_,_,_=>rfl
 | x::xs,i,f,h=>by
  rw[findL,show f i x ()=_ from h 0 x rfl,bsS,List.findIdx?_cons]
  by_cases hq:q x=true
  ·rw[ifP hq,ifP hq]
  ·rw[ifN hq,ifN hq]
   have ih:=j0Q (q:=q) (c:=c) (xs:=xs) (i:=i+1) (f:=f) fun j y hy=>by
    have:=h (j+1) y (by simpa using hy)
    rw[show i+1+j=i+(j+1) by omega];exact this
   dsimp only
   rw[ih]
   cases xs.findIdx? q with
   | none=>rfl
   | some j=>simp only[Option.map_some];rw[show i+1+j=i+(j+1) by omega]
theorem k6S (g:Grammar)(n:ByteArray):z0e g n=some (atI g n):=by
 unfold z0e atI atS
 rw[j0Q (q:=fun y:Symbol=>decide (y.Name=n)) (c:=fun k=>(k:Int)) fun j x hx=>by
  unfold z5X
  by_cases hn:x.Name=n
  ·rw[ifP hn,ifP (by simpa using hn)]
  ·rw[ifN hn,ifN (by simpa using hn)]]
 cases g.Symbols.findIdx? fun y=>decide (y.Name=n) with
 | none=>rfl
 | some j=>dsimp only;rw[Nat.zero_add];rfl
theorem x0k {g:Grammar}{n:ByteArray}{j:Nat}(h:atS g n=some j):j<g.Symbols.length:=by
 unfold atS at h
 rw[List.findIdx?_eq_some_iff_getElem] at h
 exact h.1
def okAt (g:Grammar)(hs:List Int)(n:ByteArray):Bool:=match atS g n with
 | some j=>decide (0<hs.getD j 0)
 | none=>false
def j5R (g:Grammar)(hs:List Int)(n:ByteArray):Bool:=g.Rules.any fun r=>decide (r.Left=n)&&r.Right.all (okAt g hs)
theorem j4D {α:Type}{q:α→Bool}{f:Nat→α→Bool→Option Bool}:∀ (xs:List α) (i:Nat) (b:Bool),(∀ k x s,x∈xs→f k x s=some (s&&q x))→eachL f i xs b=some (b&&xs.all q)
 | [],_,b,_=>by simp[eachL]
 | x::xs,i,b,h=>by
  rw[eachL,h i x b (by simp),bsS,j4D xs (i+1) _ fun k y s hy=>h k y s (by simp[hy]),List.all_cons,Bool.and_assoc]
theorem getD_some {hs:List Int}{j:Nat}(h:j<hs.length):hs[j]?=some (hs.getD j 0):=by
 rw[List.getD_eq_getElem?_getD,List.getElem?_eq_getElem h];rfl
theorem x0l {g:Grammar}{hs:List Int}(hl:hs.length=g.Symbols.length)(n:ByteArray):z3h n g hs=some (match atS g n with|some j=>hs.getD j 0|none=>0):=by
 unfold z3h atS
 rw[j0Q (q:=fun y:Symbol=>decide (y.Name=n)) (c:=fun k=>hs.getD k 0) fun j x hx=>by
  unfold j0q
  have hj:j<g.Symbols.length:=(List.getElem?_eq_some_iff.1 hx).1
  by_cases hn:x.Name=n
  ·rw[ifP hn,ifP (by simpa using hn),Nat.zero_add,getD_some (by omega)];rfl
  ·rw[ifN hn,ifN (by simpa using hn)]]
 cases g.Symbols.findIdx? fun y=>decide (y.Name=n) with
 | none=>rfl
 | some j=>dsimp only;rw[Nat.zero_add];rfl
theorem k2W {g:Grammar}{hs:List Int}(hl:hs.length=g.Symbols.length)(xs:List ByteArray)(b:Bool):eachL (z9r g hs) 0 xs b=some (b&&xs.all (okAt g hs)):=
 j4D xs 0 b fun k x s _=>by
  unfold z9r okAt
  cases s with
  | false=>rfl
  | true=>
   rw[ifP rfl,x0l hl,bsS,bsS,Bool.true_and]
   cases atS g x<;>rfl
theorem k2X {g:Grammar}{hs:List Int}(hl:hs.length=g.Symbols.length)(xs:List ByteArray)(b:Bool):eachL (z5H g hs) 0 xs b=some (b&&xs.all (okAt g hs)):=
 j4D xs 0 b fun k x s _=>by
  unfold z5H okAt
  rw[k6S,bsS]
  unfold atI
  cases s with
  | false=>rfl
  | true=>
   cases hj:atS g x with
   | none=>rfl
   | some j=>
    have:=x0k hj
    dsimp only
    rw[ifP rfl,bsS,decide_eq_true (Int.natCast_nonneg j),ifP rfl]
    unfold z2K
    by_cases h0:(0:Int)<(j:Int)
    ·rw[ifP h0,bsS,q3C (Int.natCast_nonneg j),tnC,getD_some (by omega)];rfl
    ·obtain rfl:j=0:=by omega
     rw[ifN h0,bsS,q3C (by omega),show (0:Int).toNat=0 from rfl,getD_some (by omega)];rfl
theorem k4N {g:Grammar}{hs:List Int}(hl:hs.length=g.Symbols.length)(n:ByteArray):z1C g n hs=some (j5R g hs n):=by
 unfold z1C j5R
 rw[q4J (c:=true) (q:=fun r:Rule=>!(decide (r.Left=n)&&r.Right.all (okAt g hs))) fun k x hx=>by
  unfold z9g
  rw[k2X hl,bsS]
  cases (decide (x.Left=n)&&x.Right.all (okAt g hs))<;>rfl]
 have e:(g.Rules.all fun r=>!(decide (r.Left=n)&&r.Right.all (okAt g hs)))=!(g.Rules.any fun r=>decide (r.Left=n)&&r.Right.all (okAt g hs)):=by rw[List.not_any_eq_all_not]
 rw[e]
 cases g.Rules.any fun r=>decide (r.Left=n)&&r.Right.all (okAt g hs)<;>rfl
def HsOk (g:Grammar)(hs:List Int):Prop:=hs.length=g.Symbols.length∧∀ j,0≤hs.getD j 0
theorem HsOk.set {g:Grammar}{hs:List Int}(h:HsOk g hs){k:Nat}{v:Int}(hv:0≤v):HsOk g (hs.set k v):=by
 refine⟨by simpa using h.1,fun j=>?_⟩
 rw[List.getD_eq_getElem?_getD,List.getElem?_set]
 split
 ·split
  ·exact hv
  ·simp
 ·rw[← List.getD_eq_getElem?_getD];exact h.2 j
theorem k4O {g:Grammar}{hs:List Int}(hl:hs.length=g.Symbols.length){v:Int}(k:Nat)(x:Symbol)(hk:k<g.Symbols.length):∀ (rs:List Rule) (i:Nat) (s:List Int),s.length=g.Symbols.length →
  eachL (z6M g v hs k x) i rs s=some (if (rs.any fun r=>decide (r.Left=x.Name)&&r.Right.all (okAt g hs))=true then s.set k v else s)
 | [],i,s,_=>by simp[eachL]
 | r::rs,i,s,hs'=>by
  have e:z6M g v hs k x i r s=some (if (decide (r.Left=x.Name)&&r.Right.all (okAt g hs))=true then s.set k v else s):=by
   unfold z6M
   rw[k2W hl,bsS]
   cases (decide (r.Left=x.Name)&&r.Right.all (okAt g hs)) with
   | false=>rfl
   | true=>rw[ifP rfl,ifP rfl,List.getElem?_eq_getElem (by omega)];rfl
  rw[eachL,e,bsS]
  by_cases hb:(decide (r.Left=x.Name)&&r.Right.all (okAt g hs))=true
  ·rw[ifP hb,k4O hl k x hk rs (i+1) (s.set k v) (by simpa using hs')]
   have:(r::rs).any (fun r=>decide (r.Left=x.Name)&&r.Right.all (okAt g hs))=true:=by rw[List.any_cons,hb];rfl
   rw[ifP this,List.set_set,ite_self]
  ·rw[ifN hb,k4O hl k x hk rs (i+1) s hs']
   have:(r::rs).any (fun r=>decide (r.Left=x.Name)&&r.Right.all (okAt g hs))=rs.any (fun r=>decide (r.Left=x.Name)&&r.Right.all (okAt g hs)):=by rw[List.any_cons,Bool.eq_false_iff.2 hb];rfl
   rw[this]
theorem x0O {g:Grammar}{hs:List Int}(h:HsOk g hs){v:Int}{k:Nat}{x:Symbol}(hk:k<g.Symbols.length){s:List Int}(hs' : s.length=g.Symbols.length) :
  z6N g v hs k x s=some (if (decide (hs.getD k 0=0)&&j5R g hs x.Name)=true then s.set k v else s):=by
 have h0:=h.2 k
 unfold z6N
 rw[getD_some (by rw[h.1];exact hk),bsS]
 by_cases hz:hs.getD k 0=0
 ·rw[ifN (by omega),decide_eq_true hz,k4O h.1 k x hk _ _ _ hs'];rfl
 ·rw[ifP (by omega),decide_eq_false hz];rfl
theorem x0P {g:Grammar}{hs:List Int}(h:HsOk g hs){v:Int}{k:Nat}{x:Symbol}(hk:k<g.Symbols.length){s:List Int}(hs' : s.length=g.Symbols.length) :
  z2N g hs v k x s=some (if (decide (hs.getD k 0=0)&&j5R g hs x.Name)=true then s.set k v else s):=by
 unfold z2N
 rw[getD_some (by rw[h.1];exact hk),bsS]
 by_cases hz:hs.getD k 0=0
 ·rw[ifP hz,decide_eq_true hz,k4N h.1,bsS,Bool.true_and]
  cases j5R g hs x.Name with
  | false=>rfl
  | true=>rw[ifP rfl,ifP rfl,List.getElem?_eq_getElem (by omega)];rfl
 ·rw[ifN hz,decide_eq_false hz];rfl
theorem j5S {g:Grammar}{hs:List Int}(h:HsOk g hs){v:Int}(hv:0≤v):∀ (xs:List Symbol) (i:Nat) (s:List Int),i+xs.length=g.Symbols.length→HsOk g s →
  ∃ t,eachL (z6N g v hs) i xs s=some t∧eachL (z2N g hs v) i xs s=some t∧HsOk g t
 | [],i,s,_,hs'=>⟨s,rfl,rfl,hs'⟩
 | x::xs,i,s,hi,hs'=>by
  simp only[lnC] at hi
  have e1:=x0O (x:=x) h (v:=v) (k:=i) (by omega) hs'.1
  have e2:=x0P (x:=x) h (v:=v) (k:=i) (by omega) hs'.1
  have hn:HsOk g (if (decide (hs.getD i 0=0)&&j5R g hs x.Name)=true then s.set i v else s):=by
   split
   ·exact hs'.set hv
   ·exact hs'
  obtain⟨t,h1,h2,h3⟩:=j5S h hv xs (i+1) _ (by omega) hn
  exact⟨t,by rw[eachL,e1,bsS,h1],by rw[eachL,e2,bsS,h2],h3⟩
theorem j2a {g:Grammar}(hn:g.Symbols.length≤1048576):∃ l,z4d g=some l∧z1D g=some l∧HsOk g l:=by
 have key:∀ (m k:Nat) (hs:List Int),k+m=g.Symbols.length+1→1≤k→HsOk g hs→∃ t,q4l (z2i g) ((k:Int),hs)=some t∧q4l (q9n g) (hs,(k:Int))=some t∧HsOk g t:=by
  intro m
  induction m with
  | zero=>
   intro k hs hk _ h
   refine⟨hs,q3F ?_,q3F ?_,h⟩
   ·unfold z2i;dsimp only;rw[ifN (by omega)]
   ·unfold q9n;dsimp only;rw[ifN (by omega)]
  | succ m ih=>
   intro k hs hk h1 h
   have hl:=h.1
   obtain⟨t,e1,e2,e3⟩:=j5S h (v:=(k:Int)) (by omega) g.Symbols 0 hs (by omega) h
   obtain⟨q,f1,f2,f3⟩:=ih (k+1) t (by omega) (by omega) e3
   refine⟨q,?_,?_,f3⟩
   ·have e:z2i g ((k:Int),hs)=some (.inl (((k+1:Nat):Int),t)):=by
     unfold z2i;dsimp only
     rw[ifP (by omega),q3C (by refine⟨?_,?_,?_⟩<;>omega),q3C (by simp),e1,bsS,q3C (by constructor<;>omega)];rfl
    rw[q3S e];exact f1
   ·have e:q9n g (hs,(k:Int))=some (.inl (t,((k+1:Nat):Int))):=by
     unfold q9n;dsimp only
     rw[ifP (by omega),q3C (by simp only[List.length_nil];constructor<;>omega),e2,bsS,q3C (by constructor<;>omega)];rfl
    rw[q3S e];exact f2
 have h0:HsOk g (List.replicate g.Symbols.length (0:Int)):=⟨by simp,fun j=>by rw[List.getD_eq_getElem?_getD,List.getElem?_replicate];split<;>simp⟩
 obtain⟨t,f1,f2,f3⟩:=key g.Symbols.length 1 (List.replicate g.Symbols.length 0) (by omega) (by omega) h0
 refine⟨t,?_,?_,f3⟩
 ·unfold z4d
  rw[q3C (by refine⟨?_,?_,?_⟩<;>omega),show q4l (z2i g) (1,List.replicate g.Symbols.length 0)=some t from f1];rfl
 ·unfold z1D
  rw[q3C (by refine⟨?_,?_,?_⟩<;>omega),show q4l (q9n g) (List.replicate g.Symbols.length 0,1)=some t from f2];rfl
theorem Shape.names {g:Grammar}(h:Shape g){k j:Nat}{x y:Symbol}(hk:g.Symbols[k]?=some x)(hj:g.Symbols[j]?=some y)(hn:x.Name=y.Name):k=j:=by
 have key:∀ {k j:Nat} {x y:Symbol},g.Symbols[k]?=some x→g.Symbols[j]?=some y→x.Name=y.Name→¬ k<j:=by
  intro k j x y hk hj hn hlt
  have:=z8S _ _ h.sym j y hj
  unfold z6y at this
  rw[Bool.or_eq_false_iff] at this
  have h2:=this.2
  unfold dupB at h2
  rw[List.nil_append,List.any_eq_false] at h2
  exact h2 x (List.mem_of_getElem? (i:=k) (by rw[List.getElem?_take,ifP hlt];exact hk)) (by simpa using hn)
 have h1:=key hk hj hn
 have h2:=key hj hk hn.symm
 omega
theorem Shape.at_ {g:Grammar}(h:Shape g){k:Nat}{x:Symbol}(hk:g.Symbols[k]?=some x):atS g x.Name=some k:=by
 unfold atS
 cases he:g.Symbols.findIdx? fun y=>decide (y.Name=x.Name) with
 | none=>
  rw[List.findIdx?_eq_none_iff] at he
  have:=he x (List.mem_of_getElem? hk)
  simp at this
 | some j=>
  rw[List.findIdx?_eq_some_iff_getElem] at he
  obtain⟨hj,h1,_⟩:=he
  rw[h.names (List.getElem?_eq_getElem hj) hk (by simpa using h1)]
noncomputable def hgtL (g:Grammar):List Int:=(z4d g).getD []
noncomputable def k0v (g:Grammar):Int×Int:=
 if (z7u g).1=0 then
  match g.Rules.findIdx? fun r=>!typR g r with
  | some k=>(7,(k:Int))
  | none=>match (hgtL g).findIdx? fun x=>decide (x=0) with
   | some k=>(8,(k:Int))
   | none=>(0,0)
 else z7u g
theorem k6T {g:Grammar}(h:Sz.szd g≤1048576):q9V g=some (k0v g):=by
 unfold q9V k0v
 rw[k4K h,bsS]
 dsimp only
 by_cases h0:(z7u g).1=0
 ·rw[ifP h0,ifP h0]
  rw[z8x (q:=fun r=>!typR g r) (c:=fun k=>((7:Int),(k:Int))) fun k r hr=>by
   unfold z7l
   rw[k6Q g (Nat.le_trans (z3G hr) h),bsS,← apply_ite some]]
  cases g.Rules.findIdx? fun r=>!typR g r with
  | some k=>dsimp only;rw[Nat.zero_add];rfl
  | none=>
   obtain⟨l,e1,e2,e3⟩:=j2a (g:=g) (k0o h).1
   rw[bsS,z4l,e1,bsS]
   unfold hgtL
   rw[e1,Option.getD_some]
   rw[z8x (q:=fun x:Int=>decide (x=0)) (c:=fun k=>((8:Int),(k:Int))) fun k x hx=>by
    unfold z7m
    by_cases hz:x=0
    ·rw[ifP hz,ifP (by simpa using hz)]
    ·rw[ifN hz,ifN (by simpa using hz)]]
   dsimp only
   cases l.findIdx? fun x=>decide (x=0) with
   | some k=>dsimp only;rw[Nat.zero_add];rfl
   | none=>rfl
 ·rw[ifN h0,ifN h0]
theorem k6U {g:Grammar}(h:Sz.szd g≤1048576):q9S g=some (k0v g):=by
 unfold q9S k0v
 rw[k4L h,bsS]
 dsimp only
 by_cases h0:(z7u g).1=0
 ·have hS:=k1x h0
  rw[ifP h0,ifP h0]
  rw[z8x (q:=fun r=>!typR g r) (c:=fun k=>((7:Int),(k:Int))) fun k r hr=>by
   unfold z7k
   rw[k6R (q9B h) (Nat.le_trans (z3G hr) h) fun q hq=>hS.pos hr hq,bsS]
   cases typR g r<;>rfl]
  cases g.Rules.findIdx? fun r=>!typR g r with
  | some k=>dsimp only;rw[Nat.zero_add];rfl
  | none=>
   obtain⟨l,e1,e2,e3⟩:=j2a (g:=g) (k0o h).1
   rw[bsS,z4l]
   unfold hgtL
   rw[e1,Option.getD_some]
   have hprod:∀ k x,g.Symbols[k]?=some x→q9R g x.Name=some (!decide (l.getD k 0=0)):=by
    intro k x hk
    have hk' : k<g.Symbols.length:=(List.getElem?_eq_some_iff.1 hk).1
    have ha:atI g x.Name=(k:Int):=by unfold atI;rw[hS.at_ hk]
    unfold q9R z5o
    rw[k6S,ha,bsS,ifN (by omega),e2,bsS,q3C (by omega),tnC,getD_some (by rw[e3.1];exact hk'),bsS,bsS]
    have:=e3.2 k
    congr 1
    by_cases hz:l.getD k 0=0
    ·rw[decide_eq_true hz,decide_eq_false (by omega)];rfl
    ·rw[decide_eq_false hz,decide_eq_true (by omega)];rfl
   have hrun:∀ (xs:List Symbol) (ys:List Int) (i:Nat),(∀ j x,xs[j]?=some x→g.Symbols[i+j]?=some x)→ys.length=xs.length→(∀ j y,ys[j]?=some y→l.getD (i+j) 0=y) →
     findL (z0M g) i xs ()=some (match ys.findIdx? fun x=>decide (x=0) with|some j=>.inr (8,((i+j:Nat):Int))|none=>.inl ()):=by
    intro xs
    induction xs with
    | nil=>
     intro ys i _ hl _
     obtain rfl:=List.eq_nil_of_length_eq_zero hl
     rfl
    | cons x xs ih=>
     intro ys i hx hl hy
     cases ys with
     | nil=>simp at hl
     | cons y ys=>
      have h1:=hprod i x (by simpa using hx 0 x rfl)
      have h2:l.getD i 0=y:=by simpa using hy 0 y rfl
      have ih:=ih ys (i+1) (fun j z hz=>by rw[show i+1+j=i+(j+1) by omega];exact hx (j+1) z (by simpa using hz)) (by simpa using hl) fun j z hz=>by
       rw[show i+1+j=i+(j+1) by omega];exact hy (j+1) z (by simpa using hz)
      rw[h2] at h1
      have e:z0M g i x ()=some (if y=0 then .inr (8,(i:Int)) else .inl ()):=by
       unfold z0M
       rw[h1,bsS]
       by_cases hz:y=0
       ·rw[decide_eq_true hz,ifP hz];rfl
       ·rw[decide_eq_false hz,ifN hz];rfl
      rw[findL,e,bsS,List.findIdx?_cons]
      by_cases hz:y=0
      ·rw[ifP hz,ifP (by simpa using hz)];rfl
      ·rw[ifN hz,ifN (by simpa using hz)]
       dsimp only
       rw[ih]
       cases ys.findIdx? fun x=>decide (x=0) with
       | none=>rfl
       | some j=>simp only[Option.map_some];rw[show i+1+j=i+(j+1) by omega]
   rw[hrun g.Symbols l 0 (fun j x hx=>by rw[Nat.zero_add];exact hx) e3.1 fun j y hy=>by rw[Nat.zero_add,List.getD_eq_getElem?_getD,hy];rfl]
   dsimp only
   cases l.findIdx? fun x=>decide (x=0) with
   | some k=>dsimp only;rw[Nat.zero_add];rfl
   | none=>rfl
 ·rw[ifN h0,ifN h0]
noncomputable def z9L (g:Grammar):Bool:=decide ((k0v g).1=0)
theorem k6V {g:Grammar}(h:Sz.szd g≤1048576):z4D g=some (z9L g):=by
 unfold z4D;rw[k6T h];rfl
theorem k6W {g:Grammar}(h:Sz.szd g≤1048576):z5Y g=some (z9L g):=by
 unfold z5Y;rw[k6U h];rfl
theorem j1C {g:Grammar}(h:z9L g=true):Shape g:=by
 refine k1x ?_
 unfold z9L at h
 rw[decide_eq_true_eq] at h
 unfold k0v at h
 by_cases h0:(z7u g).1=0
 ·exact h0
 ·rw[ifN h0] at h;exact h
end Go.Proofs.YtcegfmageiicaaaGreat
namespace Go.Proofs.YtcegfmageiicaaaGreat
open Go Go.E
def farB (e:Expr):Bool:=!allE (fun x=>!decide (x.Kind=8)) e
theorem k6X (e:Expr):∀ m,fuE e≤m→z3o m e=some (farB e):=by
 induction e using z1W with
 | h e ih=>
  intro m hm
  obtain⟨m,rfl⟩:∃ q,m=q+1:=⟨m-1,by have:=z7s e;omega⟩
  show z3n (z3o m) e=_
  unfold z3n
  rw[q4J (c:=true) (q:=fun x=>!farB x) fun k x hx=>by
   unfold j0v
   rw[ih x hx m (by have:=z7t hx;omega),bsS]
   cases farB x<;>rfl]
  have e1:farB e=!(!decide (e.Kind=8)&&e.Args.all fun x=>!farB x):=by
   unfold farB
   rw[j1y]
   congr 2
   congr 1;funext x;rw[Bool.not_not]
  rw[e1,bsS]
  cases e.Args.all fun x=>!farB x with
  | true=>rw[ifP rfl,z4l,Bool.and_true,Bool.not_not]
  | false=>rw[ifN (by simp),j0V,Bool.and_false];rfl
theorem k9l (e:Expr):z8f e=some (farB e):=q9u (fuE e) fun m hm=>k6X e m hm
theorem k6Y (e:Expr):∀ m,fuE e≤m→q5R m e=some (!farB e):=by
 induction e using z1W with
 | h e ih=>
  intro m hm
  obtain⟨m,rfl⟩:∃ q,m=q+1:=⟨m-1,by have:=z7s e;omega⟩
  show q5Q (q5R m) e=_
  unfold q5Q q3W q4b z2W
  have e1:(!farB e)=(!decide (e.Kind=8)&&e.Args.all fun x=>!farB x):=by
   unfold farB
   rw[j1y,Bool.not_not]
   congr 1
   congr 1;funext x;rw[Bool.not_not]
  rw[bsS,e1]
  cases decide (e.Kind=8) with
  | true=>rfl
  | false=>
   rw[Bool.not_false,ifP rfl,q5a (q:=fun x=>farB x) fun k x hx=>by
    unfold q5H q6j
    rw[ih x hx m (by have:=z7t hx;omega),bsS,bsS]
    cases farB x<;>rfl]
   rw[Bool.true_and,bsS,List.not_any_eq_all_not]
theorem k9m (e:Expr):z3q e=some (farB e):=by
 unfold z3q
 rw[show q8i e=some (!farB e) from q9u (fuE e) fun m hm=>k6Y e m hm,bsS,Bool.not_not]
def farR (r:Rule):Bool:=r.Equations.any fun q=>farB q.Expr
theorem k6Z (r:Rule):z3p r=some (farR r):=by
 unfold z3p farR
 rw[q4J (c:=true) (q:=fun q:Eqn=>!farB q.Expr) fun k x hx=>by
  unfold j0w
  rw[k9l,bsS]
  cases farB x.Expr<;>rfl]
 have e:(r.Equations.all fun q=>!farB q.Expr)=!(r.Equations.any fun q=>farB q.Expr):=by rw[List.not_any_eq_all_not]
 rw[e]
 cases r.Equations.any fun q=>farB q.Expr<;>rfl
theorem k7a {g:Grammar}(h:Sz.szd g≤1048576):z3r g=some (g.Rules.any fun r=>(z6z r).any farB):=by
 unfold z3r q4W q5g
 rw[q5a (q:=fun r=>(z6z r).any farB) fun k r hr=>by
  unfold q7d z2X
  rw[k1w (Nat.le_trans (z3G hr) h),bsS]
  unfold q5e q5p
  rw[q5a (q:=farB) fun k e he=>by
   unfold q7H
   rw[k9m,bsS,← apply_ite some]]
  rw[bsS,bsS,← apply_ite some]]
 rfl
def colG (g:Grammar):Bool:=g.Symbols.any fun y=>y.Attributes.any fun a=>decide (a.Mode=3)
theorem k4P (g:Grammar):q5z g=some (colG g):=by
 unfold q5z q3L q3Q colG
 rw[q5a (q:=fun y:Symbol=>y.Attributes.any fun a=>decide (a.Mode=3)) fun k y hy=>by
  unfold q5m q5M q4s q4G
  rw[q5a (q:=fun a:At_=>decide (a.Mode=3)) fun k a ha=>by
   unfold q6r z2Y
   rw[bsS,← apply_ite some]]
  rw[bsS,bsS,← apply_ite some]]
 rfl
theorem k2Y {g:Grammar}(h:z9L g=true):∀ r∈g.Rules,typR g r=true:=by
 intro r hr
 unfold z9L at h
 rw[decide_eq_true_eq] at h
 unfold k0v at h
 by_cases h0:(z7u g).1=0
 ·rw[ifP h0] at h
  cases e:g.Rules.findIdx? fun r=>!typR g r with
  | some k=>rw[e] at h;simp at h
  | none=>
   rw[List.findIdx?_eq_none_iff] at e
   have:=e r hr
   simpa using this
 ·rw[ifN h0] at h;exact absurd h h0
theorem k7b {g:Grammar}(h:z9L g=true)(hc:colG g=false){r:Rule}(hr:r∈g.Rules):r.Contributions=[]:=by
 have ht:=k2Y h r hr
 unfold typR at ht
 rw[Bool.and_eq_true,List.all_eq_true,List.all_eq_true] at ht
 cases hq:r.Contributions with
 | nil=>rfl
 | cons q qs=>
  have h1:=ht.2 q (by rw[hq];simp)
  unfold conT at h1
  simp only[Bool.and_eq_true,decide_eq_true_eq] at h1
  have h3:=h1.2
  unfold z5N at h3
  cases ha:(q8k g q.Symbol).1.Attributes.find? fun a=>decide (a.Name=q.Name) with
  | none=>rw[ha] at h3;exact absurd h3 (by simp[zA])
  | some a=>
   rw[ha] at h3
   have hm:=List.mem_of_find?_eq_some ha
   unfold q8k at hm
   cases hs:g.Symbols.find? fun y=>decide (y.Name=q.Symbol) with
   | none=>rw[hs] at hm;simp[zS] at hm
   | some y=>
    rw[hs] at hm
    unfold colG at hc
    rw[List.any_eq_false] at hc
    exact absurd (List.any_eq_true.2 ⟨a,hm,by simpa using h3⟩) (hc y (List.mem_of_find?_eq_some hs))
end Go.Proofs.YtcegfmageiicaaaGreat
namespace Go.Proofs.YtcegfmageiicaaaGreat
open Go Go.E
theorem j8L {n:Nat}{h:Nat→Int→Int}{f:Nat→List Int→Option (List Int)}(hf:∀ k s,k<n→s.length=n→f k s=some (s.set k (h k (s.getD k 0)))) :
  ∀ (m k:Nat) (s:List Int),k+m=n→s.length=n→eachN f k m s=some (s.mapIdx fun j x=>if k≤j then h j x else x)
 | 0,k,s,hk,hs=>by
  show some s=_
  congr 1
  symm
  apply List.ext_getElem?
  intro j
  rw[List.getElem?_mapIdx]
  cases hj:s[j]? with
  | none=>rfl
  | some x=>
   have:=(List.getElem?_eq_some_iff.1 hj).1
   rw[Option.map_some,ifN (by omega)]
 | m+1,k,s,hk,hs=>by
  rw[eachN,hf k s (by omega) hs,bsS,j8L hf m (k+1) _ (by omega) (by simpa using hs)]
  congr 1
  apply List.ext_getElem?
  intro j
  rw[List.getElem?_mapIdx,List.getElem?_mapIdx,List.getElem?_set]
  by_cases hj:k=j
  ·subst hj
   have hk' : k<s.length:=by omega
   rw[ifP rfl,ifP hk',List.getElem?_eq_getElem hk',List.getD_eq_getElem?_getD,List.getElem?_eq_getElem hk',Option.map_some,Option.map_some,ifN (by omega),ifP (Nat.le_refl _)]
   rfl
  ·rw[ifN hj]
   cases hx:s[j]? with
   | none=>rfl
   | some x=>
    rw[Option.map_some,Option.map_some]
    by_cases h1:k+1≤j
    ·rw[ifP h1,ifP (by omega)]
    ·rw[ifN h1,ifN (by omega)]
def uniR (a b:Rl_):Rl_:=if Valid a∧Valid b∧a.N=b.N then ⟨a.N,a.Rows.mapIdx fun j x=>orI x (b.Rows.getD j 0)⟩ else a
theorem k2Z {b:Rl_}(h:Valid b)(k:Nat):0≤b.Rows.getD k 0:=by
 rw[List.getD_eq_getElem?_getD]
 cases hx:b.Rows[k]? with
 | none=>simp
 | some x=>exact (h.2.2.2 x (List.mem_of_getElem? hx)).1
theorem k1z {a b:Rl_}(ha:Valid a)(hb:Valid b)(hN:a.N=b.N){f:Nat→List Int→Option (List Int)}(hf:f=q7q b):eachN f 0 a.Rows.length a.Rows=some (a.Rows.mapIdx fun j x=>orI x (b.Rows.getD j 0)):=by
 subst hf
 have hl:a.Rows.length=b.Rows.length:=by have:=ha.2.2.1;have:=hb.2.2.1;omega
 -- all rows stay at least 0
 have key:∀ (m k:Nat) (s:List Int),k+m=a.Rows.length→s.length=a.Rows.length→(∀ x∈s,0≤x)→eachN (q7q b) k m s=eachN (fun k s=>some (s.set k (orI (s.getD k 0) (b.Rows.getD k 0)))) k m s:=by
  intro m
  induction m with
  | zero=>intro k s _ _ _;rfl
  | succ m ih=>
   intro k s hk hs h0
   have e:q7q b k s=some (s.set k (orI (s.getD k 0) (b.Rows.getD k 0))):=by
    have hx:0≤s.getD k 0:=by
     rw[List.getD_eq_getElem?_getD,List.getElem?_eq_getElem (by omega:k<s.length)]
     exact h0 _ (List.getElem_mem _)
    unfold q7q
    rw[getD_some (by omega),bsS,getD_some (by omega),bsS]
    exact q3C ⟨hx,k2Z hb k⟩
   rw[eachN,eachN,e,bsS,bsS]
   refine ih (k+1) _ (by omega) (by simpa using hs) fun x hx=>?_
   rcases List.mem_or_eq_of_mem_set hx with h|rfl
   ·exact h0 x h
   ·unfold orI;omega
 rw[key _ 0 a.Rows (by omega) rfl (fun x hx=>(ha.2.2.2 x hx).1),j8L (h:=fun k x=>orI x (b.Rows.getD k 0)) (n:=a.Rows.length) (fun k s _ _=>rfl) _ 0 a.Rows (by omega) rfl]
 simp
theorem k9n {a:Rl_}(h:a.Rows.length≤1048576)(b:Rl_):q9e a b=some (uniR a b):=by
 unfold q9e uniR
 rw[z6u h,bsS,q6A,bsS]
 by_cases ha:Valid a
 ·rw[decide_eq_true ha,ifP rfl,q6A,bsS,bsS]
  by_cases hb:Valid b
  ·rw[decide_eq_true hb,Bool.not_true,ifN (by simp),bsS]
   by_cases hN:a.N=b.N
   ·rw[decide_eq_true hN,Bool.not_true,ifN (by simp),ifP ⟨ha,hb,hN⟩,show a.N.toNat=a.Rows.length by have:=ha.2.2.1;omega,k1z ha hb hN rfl];rfl
   ·rw[decide_eq_false hN,Bool.not_false,ifP rfl,ifN fun hh=>hN hh.2.2]
  ·have hz:(if Valid a∧Valid b∧a.N=b.N then (⟨a.N,a.Rows.mapIdx fun j x=>orI x (b.Rows.getD j 0)⟩:Rl_) else a)=a:=ifN fun hh=>hb hh.2.1
   rw[hz,decide_eq_false hb];rfl
 ·have hz:(if Valid a∧Valid b∧a.N=b.N then (⟨a.N,a.Rows.mapIdx fun j x=>orI x (b.Rows.getD j 0)⟩:Rl_) else a)=a:=ifN fun hh=>ha hh.1
  rw[hz,decide_eq_false ha];rfl
theorem k4Q (b:Rl_):z6g b=q7q b:=rfl
theorem k9o {a:Rl_}(h:a.Rows.length≤1048576)(b:Rl_):q9i a b=some (uniR a b):=by
 unfold q9i uniR
 rw[j4o,z6u h,bsS,z1d,bsS]
 by_cases ha:Valid a
 ·rw[decide_eq_true ha,ifP rfl,z1d,bsS,bsS]
  by_cases hb:Valid b
  ·rw[decide_eq_true hb,ifP rfl,bsS]
   by_cases hN:a.N=b.N
   ·rw[ifP (by simpa using hN),ifP ⟨ha,hb,hN⟩,k4Q,k1z ha hb hN rfl];rfl
   ·rw[ifN (by simpa using hN),ifN fun hh=>hN hh.2.2]
  ·have hz:(if Valid a∧Valid b∧a.N=b.N then (⟨a.N,a.Rows.mapIdx fun j x=>orI x (b.Rows.getD j 0)⟩:Rl_) else a)=a:=ifN fun hh=>hb hh.2.1
   rw[hz,decide_eq_false hb];rfl
 ·have hz:(if Valid a∧Valid b∧a.N=b.N then (⟨a.N,a.Rows.mapIdx fun j x=>orI x (b.Rows.getD j 0)⟩:Rl_) else a)=a:=ifN fun hh=>ha hh.1
  rw[hz,decide_eq_false ha];rfl
theorem k8g {n:Nat}{x y:Int}(hx:0≤x∧x≤((2 ^ n:Nat):Int)-1)(hy:0≤y∧y≤((2 ^ n:Nat):Int)-1):0≤orI x y∧orI x y≤((2 ^ n:Nat):Int)-1:=by
 have:=Nat.or_lt_two_pow (n:=n) (x:=x.toNat) (y:=y.toNat) (by omega) (by omega)
 unfold orI;omega
theorem k4R {a b:Rl_}(ha:Valid a):Valid (uniR a b)∧(uniR a b).N=a.N:=by
 unfold uniR
 by_cases h:Valid a∧Valid b∧a.N=b.N
 ·rw[ifP h]
  refine⟨⟨ha.1,ha.2.1,by simpa using ha.2.2.1,fun x hx=>?_⟩,rfl⟩
  obtain⟨j,hj⟩:=List.getElem?_of_mem hx
  rw[List.getElem?_mapIdx] at hj
  cases hy:a.Rows[j]? with
  | none=>rw[hy] at hj;cases hj
  | some y=>
   rw[hy] at hj
   cases hj
   have hyv:=ha.2.2.2 y (List.mem_of_getElem? hy)
   refine k8g hyv ?_
   rw[List.getD_eq_getElem?_getD]
   cases hz:b.Rows[j]? with
   | none=>
    have:=Nat.one_le_two_pow (n:=a.N.toNat)
    show (0:Int)≤0∧(0:Int)≤((2 ^ a.N.toNat:Nat):Int)-1
    constructor<;>omega
   | some z=>have:=h.2.1.2.2.2 z (List.mem_of_getElem? hz);rw[← h.2.2] at this;exact this
 ·rw[ifN h];exact⟨ha,rfl⟩
def sumR (a:Rl_):Nat:=(a.Rows.map Int.toNat).sum
theorem j5T:∀ (l:List Int) (f:Nat→Int→Int),(∀ j x,x∈l→x.toNat≤(f j x).toNat)→(l.map Int.toNat).sum≤((l.mapIdx f).map Int.toNat).sum∧((∀ x∈l,0≤x)→(∀ j x,0≤f j x)→(l.map Int.toNat).sum=((l.mapIdx f).map Int.toNat).sum→l.mapIdx f=l)
 | [],f,_=>⟨by simp,fun _ _ _=>by simp⟩
 | x::l,f,h=>by
  have ih:=j5T l (fun j=>f (j+1)) fun j y hy=>h (j+1) y (by simp[hy])
  have h0:=h 0 x (by simp)
  rw[List.mapIdx_cons]
  simp only[List.map_cons,List.sum_cons]
  refine⟨by have:=ih.1;omega,fun h1 h2 he=>?_⟩
  have a1:=ih.1
  have e1:(l.map Int.toNat).sum=((l.mapIdx fun j=>f (j+1)).map Int.toNat).sum:=by omega
  have e2:x.toNat=(f 0 x).toNat:=by omega
  have p1:=h1 x (by simp)
  have p2:=h2 0 x
  rw[ih.2 (fun y hy=>h1 y (by simp[hy])) (fun j y=>h2 (j+1) y) e1,show f 0 x=x by omega]
theorem k9p {a b:Rl_}(ha:Valid a):sumR a≤sumR (uniR a b)∧(sumR a=sumR (uniR a b)→uniR a b=a):=by
 unfold uniR
 by_cases h:Valid a∧Valid b∧a.N=b.N
 ·rw[ifP h]
  have key:=j5T a.Rows (fun j x=>orI x (b.Rows.getD j 0)) fun j x _=>by
   unfold orI;have:=@Nat.left_le_or x.toNat (b.Rows.getD j 0).toNat;omega
  refine⟨key.1,fun he=>?_⟩
  have:=key.2 (fun x hx=>(ha.2.2.2 x hx).1) (fun j x=>by unfold orI;omega) he
  show (⟨a.N,_⟩:Rl_)=a
  rw[this]
 ·rw[ifN h];exact⟨Nat.le_refl _,fun _=>rfl⟩
theorem k4S {a:Rl_}(ha:Valid a):sumR a≤16*65535:=by
 have key:∀ l:List Int,(∀ x∈l,x.toNat≤65535)→(l.map Int.toNat).sum≤l.length*65535:=by
  intro l
  induction l with
  | nil=>intro _;simp
  | cons x l ih=>
   intro h
   have h1:=h x (by simp)
   have h2:=ih fun y hy=>h y (by simp[hy])
   simp only[List.map_cons,List.sum_cons,lnC]
   omega
 have h1:=key a.Rows fun x hx=>by
  have:=ha.2.2.2 x hx
  have:=x0L ha.2.1
  omega
 have hl:a.Rows.length≤16:=by have:=ha.2.2.1;have:=ha.2.1;omega
 exact Nat.le_trans h1 (Nat.mul_le_mul_right 65535 hl)
theorem k4T {b:List Int}{f:Nat→Int→Unit→Option (Unit ⊕ Bool)}(hf:∀ k x,f k x ()=(b[k]?).bind fun x2=>if x=x2 then some (.inl ()) else some (.inr false)) :
  ∀ (xs ys:List Int) (i:Nat),xs.length=ys.length→(∀ j,b[i+j]?=ys[j]?)→findL f i xs ()=some (if xs=ys then .inl () else .inr false)
 | [],ys,i,hl,_=>by obtain rfl:=List.eq_nil_of_length_eq_zero hl.symm;rfl
 | x::xs,[],i,hl,_=>by simp at hl
 | x::xs,y::ys,i,hl,hb=>by
  have h0:b[i]?=some y:=by simpa using hb 0
  rw[findL,hf,h0,bsS]
  by_cases hx:x=y
  ·rw[ifP hx,bsS]
   dsimp only
   rw[k4T hf xs ys (i+1) (by simpa using hl) fun j=>by have:=hb (j+1);rw[show i+1+j=i+(j+1) by omega];simpa using this]
   subst hx
   by_cases he:xs=ys
   ·rw[ifP he,ifP (by rw[he])]
   ·rw[ifN he,ifN (by intro hh;injection hh with _ h2;exact he h2)]
  ·rw[ifN hx,bsS]
   dsimp only
   rw[ifN (by intro hh;injection hh with h2 _;exact hx h2)]
theorem k4U (a b:Rl_):q9f a b=some (decide (a=b)):=by
 obtain⟨n,xs⟩:=a
 obtain⟨m,ys⟩:=b
 unfold q9f j0m
 dsimp only
 by_cases hn:n=m
 ·rw[ifP hn]
  by_cases hl:xs.length=ys.length
  ·rw[ifP (by omega),k4T (b:=ys) (fun k x=>rfl) xs ys 0 hl fun j=>by rw[Nat.zero_add]]
   by_cases he:xs=ys
   ·rw[ifP he,decide_eq_true (by rw[hn,he])];rfl
   ·rw[ifN he,decide_eq_false (by intro hh;injection hh with _ h2;exact he h2)];rfl
  ·rw[ifN (by omega),decide_eq_false (by intro hh;injection hh with _ h2;exact hl (by rw[h2]))];rfl
 ·rw[ifN hn,decide_eq_false (by intro hh;injection hh with h1 _;exact hn h1)]
theorem k9q (a b:Rl_):z0N a b=some (decide (a=b)):=by
 rw[← k4U];rfl
noncomputable def k4V (r:Rl_):Bool:=decide (∃ k:Nat,k<r.Rows.length∧hasP (q6l r) (k:Int) (k:Int))
theorem k1A {r:Rl_}(h:r.Rows.length≤1048576):z2l r=some (k4V r):=j4s h
theorem k1B {r:Rl_}(h:r.Rows.length≤1048576):z1f r=some (k4V r):=by
 unfold z1f k4V
 rw[q6A,bsS]
 by_cases hv:Valid r
 ·rw[decide_eq_true hv,ifP rfl,j4q h,bsS]
  have hN:r.N.toNat=r.Rows.length:=by have:=hv.2.2.1;omega
  rw[hN,j4A (c:=true) (n:=r.Rows.length) (q:=fun k=>!decide (hasP (q6l r) (k:Int) (k:Int))) (fun k hk=>by
   unfold z2g
   rw[q9a,bsS]
   by_cases hp:hasP (q6l r) (k:Int) (k:Int)
   ·rw[decide_eq_true hp];rfl
   ·rw[decide_eq_false hp];rfl) r.Rows.length 0 (by omega)]
  by_cases he:∃ k:Nat,k<r.Rows.length∧hasP (q6l r) (k:Int) (k:Int)
  ·rw[decide_eq_true he,ifN];· rfl
   obtain⟨k,hk,hp⟩:=he
   rw[List.all_eq_true]
   intro hh
   have:=hh k (by simp;omega)
   simp[hp] at this
  ·rw[decide_eq_false he,ifP];· rfl
   rw[List.all_eq_true]
   intro k hk
   simp at hk
   have:¬ hasP (q6l r) (k:Int) (k:Int):=fun hp=>he ⟨k,hk,hp⟩
   simp[this]
 ·rw[decide_eq_false hv,ifN (by simp),decide_eq_false]
  rintro⟨k,hk,hp⟩
  have:q6l r=r:=by unfold q6l;rw[ifN hv]
  rw[this] at hp
  exact hv hp.1
end Go.Proofs.YtcegfmageiicaaaGreat
namespace Go.Proofs.YtcegfmageiicaaaGreat
open Go Go.E
def q7M (g:Grammar)(s:ByteArray):List At_:=(q8k g s).1.Attributes.filter j1u
theorem j1D {g:Grammar}(h:GOk g)(s:ByteArray):(q7M g s).length≤1048576:=Nat.le_trans (List.length_filter_le _ _) (z4Y h s)
theorem j8M {l:List At_}(h:l.length≤1048576):eachL q5X 0 l []=some (l.filter j1u):=by
 have:=z6v (p:=j1u) (g:=fun x:At_=>x) (B:=1048577) (f:=q5X) (fun k x s hs=>by
  have hg:((s.length:Int)+1)*40≤140737488355328∧(s.length:Int)+1≤9223372036854775807:=by constructor<;>omega
  unfold q5X j1u
  rw[q3C hg]
  by_cases m1:x.Mode=1
  ·rw[ifP m1,ifP (by simp[m1])];rfl
  ·rw[ifN m1]
   by_cases m2:x.Mode=2
   ·rw[ifP m2,ifP (by simp[m2])];rfl
   ·rw[ifN m2,ifN (by simp[m1,m2])];rfl) l 0 [] (by simp;omega)
 rw[this];simp
theorem j4E {g:Grammar}(h:GOk g)(s:ByteArray):q5v g s=some (q7M g s):=by
 unfold q5v q7M
 rw[z6w h,bsS]
 try dsimp only
 rw[j8M (z4Y h s)];rfl
theorem j4F {g:Grammar}(h:GOk g)(s:ByteArray):q5w g s=some (q7M g s):=by
 unfold q5w q7M
 rw[z4X,bsS]
 try dsimp only
 rw[j5J,j8M (z4Y h s)];rfl
def occK (g:Grammar)(r:Rule)(k:Nat):List Oc:=(q7M g (q6G r (k:Int))).map fun x=>(⟨(k:Int),x.Name⟩:Oc)
def occL (g:Grammar)(r:Rule):List Oc:=(List.range' 0 (r.Right.length+1)).flatMap (occK g r)
theorem k1C {g:Grammar}(h:GOk g)(r:Rule)(k:Nat):(occK g r k).length≤1048576:=by unfold occK;rw[lnM];exact j1D h _
theorem k0w {g:Grammar}(h:GOk g){r:Rule}(hl:ROk r):q6q g r=some (occL g r):=by
 have hl' : r.Right.length≤1048576:=hl
 have key:=j1w (h:=occK g r) (C:=1048576) (n:=r.Right.length+1) (f:=q7r g r) (fun k s hk hs=>by
  unfold q7r
  rw[z9K hl,bsS,j4F h,bsS,j4p k _ 0 s (by have:=j1D h (q6G r (k:Int));omega)];rfl)
  (fun k _=>k1C h r k) (r.Right.length+1) 0 [] (by omega) (by simp)
 unfold q6q
 rw[q3C (by constructor<;>omega),key];rfl
theorem k9r {g:Grammar}(h:GOk g){r:Rule}(hl:ROk r):q6p g r=some (occL g r):=by
 have hl' : r.Right.length≤1048576:=hl
 have key:=j4u (h:=occK g r) (C:=1048576) (n:=r.Right.length+1) (f:=q5s g r) (fun k s hk hs=>by
  unfold q5s
  dsimp only
  rw[ifP (by omega),z7d hl,bsS,j4E h,bsS,k1n,j4p k _ 0 s (by have:=j1D h (q6G r (k:Int));omega),bsS,q3C (by constructor<;>omega)];rfl) (fun s=>by
  unfold q5s;dsimp only;rw[ifN (by omega)]) (fun k _=>k1C h r k) (r.Right.length+1) 0 [] (by omega) (by simp)
 unfold q6p
 have e:q4l (q5s g r) (([]:List Oc),0)=some ([]++(List.range' 0 (r.Right.length+1)).flatMap (occK g r)):=key
 rw[e];rfl
theorem k1D {g:Grammar}(h:GOk g){r:Rule}(hl:ROk r):(occL g r).length≤1099512676352:=by
 obtain⟨l,_,h2,h3⟩:=k1o h hl
 rw[k0w h hl] at h2
 cases h2;exact h3
def posL (g:Grammar)(r:Rule)(k:Int):List Int:=(((occL g r).zipIdx 0).filter fun q=>decide (q.1.Pos=k)).map fun q=>(q.2:Int)
theorem k1E (k:Int){l:List Oc}(h:l.length≤1099512676352):eachL (q7B k) 0 l []=some (((l.zipIdx 0).filter fun q=>decide (q.1.Pos=k)).map fun q=>(q.2:Int)):=by
 have:=j4t (p:=fun x:Oc=>decide (x.Pos=k)) (g:=fun i:Nat=>(i:Int)) (B:=4398046511104) (f:=q7B k) (fun i x s hs=>by
  have hg:((s.length:Int)+1)*8≤140737488355328∧(s.length:Int)+1≤9223372036854775807:=by constructor<;>omega
  unfold q7B
  rw[q3C hg]
  by_cases m1:x.Pos=k
  ·rw[ifP m1,ifP (by simp[m1])];rfl
  ·rw[ifN m1,ifN (by simp[m1])];rfl) l 0 [] (by simp;omega)
 rw[this];simp
theorem k4W {g:Grammar}(h:GOk g){r:Rule}(hl:ROk r)(k:Int):q6K g r k=some (posL g r k):=by
 unfold q6K posL
 rw[k9r h hl,bsS,k1E k (k1D h hl)];rfl
theorem k4X {g:Grammar}(h:GOk g){r:Rule}(hl:ROk r)(k:Int):q6M g r k=some (posL g r k):=by
 unfold q6M posL
 rw[k0w h hl,bsS,j5s,k1E k (k1D h hl)];rfl
theorem j8N {α:Type}(p:α→Bool):∀ (l:List α) (i:Nat),((l.zipIdx i).filter fun q=>p q.1).length=l.countP p
 | [],i=>rfl
 | x::l,i=>by
  rw[List.zipIdx_cons,List.filter_cons,List.countP_cons]
  have ih:=j8N p l (i+1)
  by_cases hp:p x=true
  ·rw[ifP hp,ifP hp,lnC,ih]
  ·rw[ifN hp,ifN hp,ih];rfl
theorem k9s (g:Grammar){r:Rule}{k:Nat}(hk:k≤r.Right.length):(posL g r (k:Int)).length=(q7M g (q6G r (k:Int))).length:=by
 unfold posL
 rw[lnM,j8N (fun x:Oc=>decide (x.Pos=(k:Int)))]
 unfold occL
 rw[List.countP_flatMap]
 have hK:∀ j:Nat,(occK g r j).countP (fun x=>decide (x.Pos=(k:Int)))=if j=k then (q7M g (q6G r (k:Int))).length else 0:=by
  intro j
  unfold occK
  rw[List.countP_map]
  by_cases hj:j=k
  ·subst hj
   rw[ifP rfl,List.countP_eq_length.2 (by simp)]
  ·rw[ifN hj,List.countP_eq_zero.2]
   intro a _
   simp;omega
 have hsum:∀ m i,((List.range' i m).map (List.countP (fun x:Oc=>decide (x.Pos=(k:Int))) ∘ occK g r)).sum=if i≤k∧k<i+m then (q7M g (q6G r (k:Int))).length else 0:=by
  intro m
  induction m with
  | zero=>intro i;rw[ifN (by omega)];rfl
  | succ m ih=>
   intro i
   rw[List.range'_succ,List.map_cons,List.sum_cons,ih (i+1),Function.comp,hK i]
   by_cases h1:i=k
   ·rw[ifP h1,ifN (by omega),ifP (by omega)];rfl
   ·rw[ifN h1,Nat.zero_add]
    by_cases h2:i+1≤k∧k<i+1+m
    ·rw[ifP h2,ifP (by omega)]
    ·rw[ifN h2,ifN (by omega)]
 rw[hsum,ifP (by omega)]
noncomputable def q9J (own:Rl_) (a:Nat) (x:Int):Nat→List Int→Rl_→Rl_
 | _,[],o=>o
 | i,y::ys,o=>q9J own a x (i+1) ys (if hasP own (a:Int) (i:Int) then addP o x y else o)
noncomputable def z1e (own:Rl_) (at' : List Int):Nat→List Int→Rl_→Rl_
 | _,[],o=>o
 | a,x::xs,o=>z1e own at' (a+1) xs (q9J own a x 0 at' o)
theorem z8T (own:Rl_)(a:Nat)(x:Int):∀ (ys:List Int) (i:Nat) (o:Rl_),(q9J own a x i ys o).Rows.length=o.Rows.length∧(q9J own a x i ys o).N=o.N
 | [],i,o=>⟨rfl,rfl⟩
 | y::ys,i,o=>by
  rw[q9J]
  have ih:=z8T own a x ys (i+1) (if hasP own (a:Int) (i:Int) then addP o x y else o)
  by_cases h:hasP own (a:Int) (i:Int)
  ·rw[ifP h] at ih ⊢
   have:=z8Q o x y
   exact⟨ih.1.trans this.1,ih.2.trans this.2⟩
  ·rw[ifN h] at ih ⊢;exact ih
theorem z9M (own:Rl_)(at' : List Int):∀ (xs:List Int) (a:Nat) (o:Rl_),(z1e own at' a xs o).Rows.length=o.Rows.length∧(z1e own at' a xs o).N=o.N
 | [],a,o=>⟨rfl,rfl⟩
 | x::xs,a,o=>by
  rw[z1e]
  have ih:=z9M own at' xs (a+1) (q9J own a x 0 at' o)
  have:=z8T own a x at' 0 o
  exact⟨ih.1.trans this.1,ih.2.trans this.2⟩
theorem k4Y (own:Rl_)(a:Nat)(x:Int):∀ (ys:List Int) (i:Nat) (o:Rl_),o.Rows.length≤1048576 →
  eachL (z1E own a x) i ys (o.Rows,o.N)=some ((q9J own a x i ys o).Rows,(q9J own a x i ys o).N)∧eachL (j0r own a x) i ys (o.N,o.Rows)=some ((q9J own a x i ys o).N,(q9J own a x i ys o).Rows)
 | [],i,o,_=>⟨rfl,rfl⟩
 | y::ys,i,o,h=>by
  have e1:z1E own a x i y (o.Rows,o.N)=some ((if hasP own (a:Int) (i:Int) then addP o x y else o).Rows,(if hasP own (a:Int) (i:Int) then addP o x y else o).N):=by
   unfold z1E
   dsimp only
   rw[q9a,bsS]
   by_cases hp:hasP own (a:Int) (i:Int)
   ·rw[decide_eq_true hp,ifP rfl,ifP hp,k1p h];rfl
   ·rw[decide_eq_false hp,ifN (by simp),ifN hp];rfl
  have e2:j0r own a x i y (o.N,o.Rows)=some ((if hasP own (a:Int) (i:Int) then addP o x y else o).N,(if hasP own (a:Int) (i:Int) then addP o x y else o).Rows):=by
   unfold j0r
   dsimp only
   rw[z7a,bsS]
   by_cases hp:hasP own (a:Int) (i:Int)
   ·rw[decide_eq_true hp,ifP rfl,ifP hp,j7d,k1p h];rfl
   ·rw[decide_eq_false hp,ifN (by simp),ifN hp];rfl
  have hl:(if hasP own (a:Int) (i:Int) then addP o x y else o).Rows.length≤1048576:=by
   split
   ·rw[(z8Q o x y).1];exact h
   ·exact h
  have ih:=k4Y own a x ys (i+1) _ hl
  rw[eachL,eachL,e1,e2,bsS,bsS,q9J]
  exact ih
theorem k1F (own:Rl_)(at' : List Int):∀ (xs:List Int) (a:Nat) (o:Rl_),o.Rows.length≤1048576 →
  eachL (z4A own at') a xs (o.Rows,o.N)=some ((z1e own at' a xs o).Rows,(z1e own at' a xs o).N)∧eachL (j0s own at') a xs (o.N,o.Rows)=some ((z1e own at' a xs o).N,(z1e own at' a xs o).Rows)
 | [],a,o,_=>⟨rfl,rfl⟩
 | x::xs,a,o,h=>by
  have h1:=k4Y own a x at' 0 o h
  have hl:(q9J own a x 0 at' o).Rows.length≤1048576:=by rw[(z8T own a x at' 0 o).1];exact h
  have ih:=k1F own at' xs (a+1) _ hl
  have e1:z4A own at' a x (o.Rows,o.N)=some ((q9J own a x 0 at' o).Rows,(q9J own a x 0 at' o).N):=by
   unfold z4A;dsimp only;rw[h1.1];rfl
  have e2:j0s own at' a x (o.N,o.Rows)=some ((q9J own a x 0 at' o).N,(q9J own a x 0 at' o).Rows):=by
   unfold j0s;dsimp only;rw[h1.2];rfl
  rw[eachL,eachL,e1,e2,bsS,bsS,z1e]
  exact ih
noncomputable def z7v (g:Grammar) (r:Rule) (o:Rl_) (pos:Int) (own:Rl_):Rl_:=z1e own (posL g r pos) 0 (posL g r pos) o
theorem k4Z {g:Grammar}(h:GOk g){r:Rule}(hl:ROk r){o:Rl_}(ho:o.Rows.length≤1048576)(pos:Int)(own:Rl_):j0t g r o pos own=some (z7v g r o pos own):=by
 unfold j0t z7v
 rw[k4X h hl,bsS,(k1F own (posL g r pos) (posL g r pos) 0 o ho).2];rfl
theorem k0x {r:Rule}{k:Nat}{x:ByteArray}(h:r.Right[k]?=some x):q6G r ((k+1:Nat):Int)=x:=by
 have hk:=(List.getElem?_eq_some_iff.1 h).1
 unfold q6G
 rw[ifN (by omega),ifP (by omega),show (((k+1:Nat):Int)-1).toNat=k by omega,List.getD_eq_getElem?_getD,h];rfl
theorem j5U (g:Grammar)(r:Rule)(o:Rl_)(pos:Int)(own:Rl_):(z7v g r o pos own).Rows.length=o.Rows.length:=(z9M own _ _ 0 o).1
noncomputable def locR (g:Grammar) (r:Rule):Rl_:=(q6P g r).getD ⟨0,[]⟩
theorem k8h {g:Grammar}{r:Rule}(h:Sz.szd g≤1048576)(hr:Sz.szd r≤1048576):q6P g r=some (locR g r)∧q6W g r=some (locR g r)∧(locR g r).Rows.length≤16:=by
 obtain⟨x,h1,h2,h3⟩:=k2P h hr
 unfold locR
 rw[h1,h2];exact⟨rfl,rfl,h3⟩
end Go.Proofs.YtcegfmageiicaaaGreat
namespace Go.Proofs.YtcegfmageiicaaaGreat
open Go Go.E
theorem j7o {α β:Type}{p:α→Bool}{g:α→β}{B:Nat}{f:Nat→α→List β→Option (List β)}:∀ (xs:List α) (i:Nat) (s:List β),(∀ k x s,x∈xs→s.length<B→f k x s=some (if p x=true then s++[g x] else s))→s.length+xs.length≤B →
  eachL f i xs s=some (s++(xs.filter p).map g)
 | [],i,s,_,_=>by simp[eachL]
 | x::xs,i,s,hf,h=>by
  simp only[lnC] at h
  by_cases hp:p x=true
  ·have ih:=j7o xs (i+1) (s++[g x]) (fun k y s hy=>hf k y s (by simp[hy])) (by simp;omega)
   simp[eachL,hf i x s (by simp) (by omega),hp,ih]
  ·have ih:=j7o xs (i+1) s (fun k y s hy=>hf k y s (by simp[hy])) (by omega)
   simp[eachL,hf i x s (by simp) (by omega),hp,ih]
theorem k1G {α β:Type}{g:α→β}{B:Nat}{f:Nat→α→List β→Option (List β)}(xs:List α)(i:Nat)(s:List β)(hf:∀ k x s,x∈xs→s.length<B→f k x s=some (s++[g x]))(h:s.length+xs.length≤B) :
  eachL f i xs s=some (s++xs.map g):=by
 have:=j7o (p:=fun _=>true) (g:=g) (B:=B) (f:=f) xs i s (fun k x s hx hs=>by rw[hf k x s hx hs,ifP rfl]) h
 rw[this];congr 2;congr 1;simp
theorem k7c {g:Grammar}{n:ByteArray}(h:(q8k g n).2=true):∃ j y,atS g n=some j∧g.Symbols[j]?=some y∧q8k g n=(y,true)∧y.Name=n:=by
 unfold q8k at h ⊢
 cases hf:g.Symbols.find? fun y=>decide (y.Name=n) with
 | none=>rw[hf] at h;cases h
 | some y=>
  have hn:y.Name=n:=by simpa using List.find?_some (p:=fun y:Symbol=>decide (y.Name=n)) hf
  unfold atS
  cases he:g.Symbols.findIdx? fun y=>decide (y.Name=n) with
  | none=>
   rw[List.findIdx?_eq_none_iff] at he
   have:=he y (List.mem_of_find?_eq_some hf)
   simp[hn] at this
  | some j=>
   refine⟨j,y,rfl,?_,rfl,hn⟩
   rw[List.findIdx?_eq_some_iff_getElem] at he
   obtain⟨hj,h1,h2⟩:=he
   rw[List.find?_eq_some_iff_getElem] at hf
   obtain⟨_,i,hi,hy,h3⟩:=hf
   have:i=j:=by
    rcases Nat.lt_trichotomy i j with hlt|heq|hgt
    ·have:=h2 i hlt;rw[hy] at this;simp[hn] at this
    ·exact heq
    ·have:=h3 j hgt;simp at this;simp at h1;exact absurd h1 this
   subst this
   rw[List.getElem?_eq_getElem hi,hy]
theorem Shape.known {g:Grammar}(h:Shape g){r:Rule}(hr:r∈g.Rules){k:Nat}(hk:k≤r.Right.length):(q8k g (q6G r (k:Int))).2=true:=by
 have h3:=h.brk 3 (by omega) (by omega) r hr
 unfold z6A at h3
 rw[ifP rfl,Bool.not_eq_false'] at h3
 unfold j5Q at h3
 rw[List.all_eq_true] at h3
 exact h3 k (by rw[List.mem_range'_1];omega)
theorem Shape.right {g:Grammar}(h:Shape g){r:Rule}(hr:r∈g.Rules){n:ByteArray}(hn:n∈r.Right):(q8k g n).2=true:=by
 obtain⟨k,hk⟩:=List.getElem?_of_mem hn
 have hlt:=(List.getElem?_eq_some_iff.1 hk).1
 have:=h.known hr (k:=k+1) (by omega)
 rwa[k0x hk] at this
theorem Shape.left {g:Grammar}(h:Shape g){r:Rule}(hr:r∈g.Rules):(q8k g r.Left).2=true:=by
 have:=h.known hr (k:=0) (by omega)
 unfold q6G at this
 rwa[ifP (by rfl)] at this
theorem Shape.attrs {g:Grammar}(h:Shape g){y:Symbol}(hy:y∈g.Symbols):y.Attributes.length≤4:=by
 have:=h.symB hy
 unfold Go.Proofs.YtcegfmageiicaaaGreat.symB at this
 simp only[Bool.and_eq_true,decide_eq_true_eq] at this
 exact this.2.2.1
theorem Shape.plain {g:Grammar}(h:Shape g)(n:ByteArray):(q7M g n).length≤4:=by
 refine Nat.le_trans (List.length_filter_le _ _) ?_
 unfold q8k
 cases hf:g.Symbols.find? fun y=>decide (y.Name=n) with
 | none=>simp[zS]
 | some y=>exact h.attrs (List.mem_of_find?_eq_some hf)
theorem k1H (g:Grammar)(n:ByteArray):q6E g n=some (atI g n):=by
 unfold q6E q4i atI atS
 rw[j0Q (q:=fun y:Symbol=>decide (y.Name=n)) (c:=fun k=>(k:Int)) fun j x hx=>by
  unfold q4E q9h
  rw[bsS,← apply_ite some]]
 cases g.Symbols.findIdx? fun y=>decide (y.Name=n) with
 | none=>rfl
 | some j=>dsimp only;rw[Nat.zero_add];rfl
def Inv (g:Grammar)(all:List Rl_):Prop:=all.length=g.Symbols.length∧∀ (k:Nat) (y:Symbol) (a:Rl_),g.Symbols[k]?=some y→all[k]?=some a→Valid a∧a.N=((q7M g y.Name).length:Int)
def zR:Rl_:=⟨0,[]⟩
def q7j (g:Grammar)(all:List Rl_)(n:ByteArray):Rl_:=all.getD ((atS g n).getD 0) zR
theorem Inv.at_ {g:Grammar}{all:List Rl_}(h:Inv g all){n:ByteArray}(hn:(q8k g n).2=true):∃ j,atS g n=some j∧j<g.Symbols.length∧all[j]?=some (q7j g all n)∧Valid (q7j g all n)∧(q7j g all n).N=((q7M g n).length:Int):=by
 obtain⟨j,y,h1,h2,h3,h4⟩:=k7c hn
 have hj:=(List.getElem?_eq_some_iff.1 h2).1
 have e:all[j]?=some (q7j g all n):=by
  unfold q7j
  rw[h1,Option.getD_some,List.getD_eq_getElem?_getD,List.getElem?_eq_getElem (by rw[h.1];exact hj)];rfl
 have:=h.2 j y _ h2 e
 rw[h4] at this
 exact⟨j,h1,hj,e,this⟩
theorem j8O {g:Grammar}(hS:Shape g){r:Rule}(hr:r∈g.Rules):r.Right.length≤3:=by
 have:=hS.ruleB hr
 unfold Go.Proofs.YtcegfmageiicaaaGreat.ruleB at this
 simp only[Bool.and_eq_true,decide_eq_true_eq] at this
 exact this.2.1.1
def sumA (all:List Rl_):Nat:=(all.map sumR).sum
theorem k1I:∀ (all:List Rl_) (k:Nat) (x a:Rl_),all[k]?=some a→sumA (all.set k x)+sumR a=sumA all+sumR x
 | [],k,x,a,h=>by simp at h
 | b::all,0,x,a,h=>by simp at h;subst h;unfold sumA;simp;omega
 | b::all,k+1,x,a,h=>by
  have ih:=k1I all k x a (by simpa using h)
  unfold sumA at ih ⊢
  simp only[List.set_cons_succ,List.map_cons,List.sum_cons];omega
theorem Inv.bound {g:Grammar}{all:List Rl_}(h:Inv g all):sumA all≤all.length*(16*65535):=by
 have key:∀ l:List Rl_,(∀ a∈l,Valid a)→sumA l≤l.length*(16*65535):=by
  intro l
  induction l with
  | nil=>intro _;simp[sumA]
  | cons a l ih=>
   intro hv
   have h1:=k4S (hv a (by simp))
   have h2:=ih fun b hb=>hv b (by simp[hb])
   unfold sumA at h2 ⊢
   simp only[List.map_cons,List.sum_cons,lnC]
   omega
 refine key all fun a ha=>?_
 obtain⟨k,hk⟩:=List.getElem?_of_mem ha
 have hlt:=(List.getElem?_eq_some_iff.1 hk).1
 exact (h.2 k _ a (List.getElem?_eq_getElem (by rw[← h.1];exact hlt)) hk).1
theorem Valid.len {a:Rl_}(h:Valid a):a.Rows.length≤16:=by have:=h.2.2.1;have:=h.2.1;omega
def j2b (g:Grammar):List Rl_:=g.Symbols.map fun y=>⟨((q7M g y.Name).length:Int),List.replicate (q7M g y.Name).length 0⟩
theorem k5a {g:Grammar}(hS:Shape g):Inv g (j2b g):=by
 refine⟨by unfold j2b;simp,fun k y a hk ha=>?_⟩
 unfold j2b at ha
 rw[List.getElem?_map,hk] at ha
 cases ha
 have h4:=hS.plain y.Name
 refine⟨⟨by show (0:Int)≤((q7M g y.Name).length:Int);omega,by show ((q7M g y.Name).length:Int)≤16;omega,by simp,fun x hx=>?_⟩,rfl⟩
 rw[List.mem_replicate] at hx
 have:=Nat.one_le_two_pow (n:=((q7M g y.Name).length:Int).toNat)
 show 0≤x∧x≤((2 ^ ((q7M g y.Name).length:Int).toNat:Nat):Int)-1
 omega
theorem j4G {g:Grammar}(h0:Sz.szd g≤1048576)(hS:Shape g):q8v g=some (j2b g):=by
 have hl:=hS.syms
 unfold q8v j2b
 rw[k1G (g:=fun y:Symbol=>(⟨((q7M g y.Name).length:Int),List.replicate (q7M g y.Name).length 0⟩:Rl_)) (B:=1048576) g.Symbols 0 [] (fun k y s hy hs=>by
  unfold z5q
  have:=hS.plain y.Name
  rw[j4F (q9B h0),bsS,z8P,j2R (by omega) (by omega),bsS,q3C (by constructor<;>omega),tnC]) (by simp;omega)]
 simp
end Go.Proofs.YtcegfmageiicaaaGreat
