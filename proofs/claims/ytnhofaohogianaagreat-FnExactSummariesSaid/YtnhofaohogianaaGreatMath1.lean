/- What those partial functions come to: plain lemmas on data; each bears its conditions in its statement. -/
import Derived.Test.YtnhofaohogianaaGreatDef
set_option linter.unusedVariables false
set_option linter.unusedSimpArgs false
set_option linter.ambiguousOpen false
set_option linter.unusedSectionVars false
set_option linter.unnecessarySimpa false
open Nat renaming add_zero→Cvz,pow_le_pow_right→Doz
open List renaming length_nil→Dpz,nil_append→Dqz,getElem?_eq_getElem→Ckz,mem_of_getElem?→Bsz,cons_append→Drz,append_assoc→Ayz,length_append→Awz,pairwise_cons→Dsz,pairwise_append→Dtz,take_add_one→Duz,length_drop→Bpz,getElem?_drop→Azz
open Bool renaming not_eq_true'→Baz,false_eq_true→Dvz
open Int renaming natCast_nonneg→Dmz
namespace Go.E
section
variable {α σ ρ:Type}
theorem j5m {c:ρ}:∀ {n i:Nat} {p:Nat→Prop} {f:Nat→Unit→Option (Unit ⊕ ρ)},(∀ k,k<n→(p (i+k)→f (i+k) ()=some (.inr c))∧(¬ p (i+k)→f (i+k) ()=some (.inl ()))) →
  ((∃ k,k<n∧p (i+k))→findN f i n ()=some (.inr c))∧((∀ k,k<n→¬ p (i+k))→findN f i n ()=some (.inl ()))
 | 0,i,p,f,_=>⟨fun ⟨k,h,_⟩=>by omega,fun _=>rfl⟩
 | n+1,i,p,f,h=>by
  have h0:=h 0 (by omega)
  simp only[Cvz] at h0
  have ih:=j5m (c:=c) (n:=n) (i:=i+1) (p:=p) (f:=f) fun k hk=>by
   have:=h (k+1) (by omega)
   rwa[show i+(k+1)=i+1+k by omega] at this
  by_cases hp:p i
  ·refine⟨fun _=>by simp[findN,h0.1 hp],fun hn=>absurd hp (hn 0 (by omega))⟩
  ·simp only[findN,h0.2 hp,bsS]
   refine⟨?_,?_⟩
   ·rintro⟨k,hk,hpk⟩
    cases k with
    | zero=>exact absurd hpk hp
    | succ k=>exact ih.1 ⟨k,by omega,by rwa[show i+1+k=i+(k+1) by omega]⟩
   ·intro hn
    exact ih.2 fun k hk hpk=>hn (k+1) (by omega) (by rwa[show i+(k+1)=i+1+k by omega])
theorem j7O [DecidableEq α]{y:α}:∀ {xs:List α} {i:Nat} {f:Nat→α→Unit→Option (Unit ⊕ Int)},(∀ k x,(x=y→f k x ()=some (.inr (k:Int)))∧(x≠y→f k x ()=some (.inl ()))) →
  findL f i xs ()=some (if y∈xs then .inr ((i+xs.idxOf y:Nat):Int) else .inl ())
 | [],i,f,_=>by simp[findL]
 | x::xs,i,f,h=>by
  by_cases hx:x=y
  ·subst hx;simp[findL,(h i x).1 rfl]
  ·have hx' : (x == y)=false:=by simpa using hx
   simp only[findL,(h i x).2 hx,bsS,j7O (xs:=xs) (i:=i+1) h,List.mem_cons,List.idxOf_cons,hx',cond_false]
   by_cases hy:y∈xs
   ·simp[hy];omega
   ·have:¬ y=x:=fun e=>hx e.symm
    simp[hy,this]
theorem k0v [DecidableEq α]{y:α}{xs:List α}{f:Nat→α→Unit→Option (Unit ⊕ Int)}(h:∀ k x,(x=y→f k x ()=some (.inr (k:Int)))∧(x≠y→f k x ()=some (.inl ()))) :
  (findL f 0 xs ()).bind (onr (fun r1=>some r1) fun _=>some (-1))=some (ixF xs y):=by
 rw[j7O h]
 unfold ixF
 by_cases hy:y∈xs<;>simp[hy]
theorem z3k {P:Nat→σ→Prop}:∀ {xs:List α} {i:Nat} {s:σ} {f:Nat→α→σ→Option σ},P i s→(∀ k x s,xs[k]?=some x→P (i+k) s→∃ s',f (i+k) x s=some s'∧P (i+k+1) s')→∃ s',eachL f i xs s=some s'∧P (i+xs.length) s'
 | [],i,s,f,h,_=>⟨s,rfl,h⟩
 | x::xs,i,s,f,h,hs=>by
  obtain⟨s1,h1,h2⟩:=hs 0 x s rfl h
  simp only[Cvz] at h1 h2
  obtain⟨s2,h3,h4⟩:=z3k (P:=P) (xs:=xs) (i:=i+1) (f:=f) h2 fun k y s hy hp=>by
   have:=hs (k+1) y s hy (by rwa[show i+(k+1)=i+1+k by omega])
   rwa[show i+(k+1)=i+1+k by omega] at this
  exact⟨s2,by simp[eachL,h1,h3],by rw[lnC,show i+(xs.length+1)=i+1+xs.length by omega];exact h4⟩
theorem z8g {P:Nat→σ→Prop}:∀ {n i:Nat} {s:σ} {f:Nat→σ→Option σ},P i s→(∀ k s,i≤k→k<i+n→P k s→∃ s',f k s=some s'∧P (k+1) s')→∃ s',eachN f i n s=some s'∧P (i+n) s'
 | 0,i,s,f,h,_=>⟨s,rfl,h⟩
 | n+1,i,s,f,h,hs=>by
  obtain⟨s1,h1,h2⟩:=hs i s (Nat.le_refl _) (by omega) h
  obtain⟨s2,h3,h4⟩:=z8g (P:=P) (n:=n) (i:=i+1) (f:=f) h2 fun k s hk hk2 hp=>hs k s (by omega) (by omega) hp
  exact⟨s2,by simp[eachN,h1,h3],by rw[show i+(n+1)=i+1+n by omega];exact h4⟩
end
end Go.E
set_option maxRecDepth 100000
set_option maxHeartbeats 4000000
noncomputable section
namespace Go.Proofs.YtnhofaohogianaaGreat
open Go Go.E
open Go.E.Sz (szd)
instance:Sz At_ where
 szd x:=x.Name.size
instance:Sz Symbol where
 szd x:=x.Name.size+szL x.as_
theorem z8T (x:Symbol):Sz.szd x=x.Name.size+szL x.as_:=rfl
instance:Sz Oc where
 szd x:=x.Name.size
theorem j2n (x:Oc):Sz.szd x=x.Name.size:=rfl
mutual
def z1h:Expr→Nat
 | ⟨a0,a1,a2,a3,a4,a5,a6⟩=>a4.size+a5.size+z3l a6
def z3l:List Expr→Nat
 | []=>0
 | x::xs=>1+z1h x+z3l xs
end
instance:Sz Expr:=⟨z1h⟩
theorem j6O (a:List Expr):z3l a=szL a:=by
 induction a with
 | nil=>rfl
 | cons x xs ih=>simp only[z3l,szL,ih];rfl
theorem q7A (x:Expr):Sz.szd x=x.Symbol.size+x.Name.size+szL x.Args:=by
 cases x;show z1h _=_;simp only[z1h,j6O]
instance:Sz Eqn where
 szd x:=x.At.Name.size+x.Expr.Symbol.size+x.Expr.Name.size+szL x.Expr.Args
theorem z3m (x:Eqn):Sz.szd x=x.At.Name.size+x.Expr.Symbol.size+x.Expr.Name.size+szL x.Expr.Args:=rfl
instance:Sz Cn where
 szd x:=x.Symbol.size+x.Name.size+x.tt_.Symbol.size+x.tt_.Name.size+szL x.tt_.Args+x.Value.Symbol.size+x.Value.Name.size+szL x.Value.Args
theorem q9j (x:Cn):Sz.szd x=x.Symbol.size+x.Name.size+x.tt_.Symbol.size+x.tt_.Name.size+szL x.tt_.Args+x.Value.Symbol.size+x.Value.Name.size+szL x.Value.Args:=rfl
instance:Sz Rule where
 szd x:=x.Name.size+x.Left.size+szL x.rt_+szL x.es_+szL x.cs_
theorem z4K (x:Rule):Sz.szd x=x.Name.size+x.Left.size+szL x.rt_+szL x.es_+szL x.cs_:=rfl
instance:Sz Gm_ where
 szd x:=szL x.ss_+szL x.rs_
theorem z0M (x:Gm_):Sz.szd x=szL x.ss_+szL x.rs_:=rfl
theorem z2a {α ρ:Type}{p:α→Bool}{r:α→ρ}:∀ {xs:List α} {i:Nat} {f:Nat→α→Unit→Option (Unit ⊕ ρ)},(∀ k x,x∈xs→(p x=true→f k x ()=some (.inr (r x)))∧(p x=false→f k x ()=some (.inl ()))) →
  findL f i xs ()=some (match xs.find? p with|some x=>.inr (r x)|none=>.inl ())
 | [],_,_,_=>rfl
 | x::xs,i,f,h=>by
  have h0:=h i x (by simp)
  cases hp:p x with
  | true=>simp[findL,h0.1 hp,List.find?,hp]
  | false=>
   have ih:=z2a (p:=p) (r:=r) (xs:=xs) (i:=i+1) (f:=f) fun k y hy=>h k y (by simp[hy])
   simp[findL,h0.2 hp,List.find?,hp,ih]
theorem q9w {α β:Type}{p:α→Bool}{g:Nat→α→β}{B:Nat}{f:Nat→α→List β→Option (List β)}(hf:∀ k x s,s.length<B→f k x s=some (if p x=true then s++[g k x] else s)):∀ (xs:List α) (i:Nat) (s:List β),s.length+xs.length≤B →
  ∃ ys,eachL f i xs s=some (s++ys)∧ys.length≤xs.length
 | [],i,s,_=>⟨[],by simp[eachL],by simp⟩
 | x::xs,i,s,h=>by
  simp only[lnC] at h
  by_cases hp:p x=true
  ·obtain⟨ys,h1,h2⟩:=q9w hf xs (i+1) (s++[g i x]) (by simp;omega)
   exact⟨g i x::ys,by simp[eachL,hf i x s (by omega),hp,h1],by simp;omega⟩
  ·obtain⟨ys,h1,h2⟩:=q9w hf xs (i+1) s (by omega)
   exact⟨ys,by simp[eachL,hf i x s (by omega),hp,h1],by simp;omega⟩
theorem z5O (x lo hi:Int):q5f x lo hi=some (decide (lo≤x∧x≤hi)):=by
 unfold q5f;split<;>simp_all<;>omega
theorem z9t (x lo hi:Int):q3W x lo hi=some (decide (lo≤x∧x≤hi)):=by
 unfold q3W;split<;>simp_all<;>omega
theorem z8U (r:Rule)(k:Int):q6y r k=q5A r k:=by
 unfold q6y q5A;rw[z5O,z9t]
def z8V (a:At_):Bool:=decide (a.Mode=1∨a.Mode=2)
theorem j2F:z2y=q5r:=rfl
theorem z6y:q4J=q5s:=rfl
theorem k0w {g:Gm_}(h:∀ y∈g.ss_,y.as_.length≤1048576)(s:BA_):∃ y b,q5l g s=some (y,b)∧q5n g s=some (y,b)∧y.as_.length≤1048576:=by
 have h1:=z2a (p:=fun y:Symbol=>decide (y.Name=s)) (r:=fun y=>(y,true)) (xs:=g.ss_) (i:=0) (f:=q8R s) fun k y hy=>by
  have hg:q8h y=some y:=by
   unfold q8h;have:=h y hy;rw[q3G (by simp only[Dpz];constructor<;>omega)]
  unfold q8R;rw[hg];constructor<;>intro hp<;>simp_all
 have h2:=z2a (p:=fun y:Symbol=>decide (y.Name=s)) (r:=fun y=>(y,true)) (xs:=g.ss_) (i:=0) (f:=q8X s) fun k y hy=>by
  unfold q8X;constructor<;>intro hp<;>simp_all
 unfold q5l q5n
 rw[h1,h2]
 cases hf:g.ss_.find? (fun y:Symbol=>decide (y.Name=s)) with
 | none=>exact⟨_,_,rfl,rfl,by simp⟩
 | some y=>exact⟨_,_,rfl,rfl,h y (List.mem_of_find?_eq_some hf)⟩
theorem z4h {g:Gm_}(h:∀ y∈g.ss_,y.as_.length≤1048576)(s:BA_):∃ l,q5g g s=some l∧q4z g s=some l∧l.length≤1048576:=by
 obtain⟨y,b,h1,h2,h3⟩:=k0w h s
 obtain⟨l,h4,h5⟩:=q9w (p:=z8V) (g:=fun _ x=>x) (B:=1048577) (f:=q5r) (fun k x s hs=>by
  have hg:((s.length:Int)+1)*40≤140737488355328∧(s.length:Int)+1≤9223372036854775807:=by constructor<;>omega
  unfold q5r z8V
  rw[q3G hg]
  by_cases m1:x.Mode=1
  ·rw[ifP m1,ifP (by simp[m1])];rfl
  ·rw[ifN m1]
   by_cases m2:x.Mode=2
   ·rw[ifP m2,ifP (by simp[m2])];rfl
   ·rw[ifN m2,ifN (by simp[m1,m2])];rfl) y.as_ 0 [] (by simp;omega)
 simp only[Dqz] at h4
 refine⟨l,?_,?_,by omega⟩
 ·unfold q5g;rw[h1];dsimp only[bsS];rw[h4];rfl
 ·unfold q4z;rw[h2];dsimp only[bsS];rw[j2F,h4];rfl
theorem j2G (r:Rule)(k:Nat)(hk:k≤r.rt_.length)(hl:r.rt_.length≤1048576):∃ x,q5A r (k:Int)=some x:=by
 unfold q5A
 by_cases h0:(k:Int)=0
 ·exact⟨_,ifP h0⟩
 ·rw[ifN h0,z5O,bsS,ifP (by simp;omega),q3G (by constructor<;>omega),q3G (by omega)]
  obtain⟨x,hx⟩:∃ x,r.rt_[((k:Int)-1).toNat]?=some x:=⟨_,Ckz (by omega)⟩
  exact⟨x,by rw[hx];rfl⟩
theorem k0x (k:Nat)(B:Nat)(hB:B≤4398046511104):∀ (l:List At_) (i:Nat) (s:List Oc),s.length+l.length≤B→∃ ys,eachL (q5x k) i l s=some (s++ys)∧ys.length≤l.length:=fun l i s h=>
 q9w (p:=fun _=>true) (g:=fun _ x=>(⟨(k:Int),x.Name⟩:Oc)) (B:=B) (f:=q5x k) (fun j x s hs=>by
  have hg:((s.length:Int)+1)*24≤140737488355328∧(s.length:Int)+1≤9223372036854775807:=by constructor<;>omega
  unfold q5x
  rw[q3G hg,ifP rfl]) l i s h
theorem j7P (k:Nat):z3S (k:Int)=q5x k:=rfl
theorem j0d {g:Gm_}{r:Rule}(h:∀ y∈g.ss_,y.as_.length≤1048576)(hr:r.rt_.length≤1048576):∃ l,q5m g r=some l∧q4L g r=some l∧l.length≤1099512676352:=by
 have key:∀ m k (s:List Oc),k+m=r.rt_.length+1→s.length≤k*1048576→∃ l,eachN (q4k g r) k m s=some l∧q4Y (q4R g r) (s,(k:Int))=some l∧l.length≤(k+m)*1048576:=by
  intro m
  induction m with
  | zero=>
   intro k s hk hs
   refine⟨s,rfl,q3V ?_,by simpa using hs⟩
   unfold q4R;dsimp only;rw[ifN (by omega)]
  | succ m ih=>
   intro k s hk hs
   obtain⟨x,hx⟩:=j2G r k (by omega) hr
   obtain⟨p,hp1,hp2,hp3⟩:=z4h h x
   obtain⟨ys,hy1,hy2⟩:=k0x k 4398046511104 (by omega) p 0 s (by omega)
   obtain⟨l,h1,h2,h3⟩:=ih (k+1) (s++ys) (by omega) (by simp;omega)
   refine⟨l,?_,?_,by rw[show k+(m+1)=k+1+m by omega];exact h3⟩
   ·have e:q4k g r k s=some (s++ys):=by
     unfold q4k;rw[z8U,hx,bsS,hp2,bsS,hy1];rfl
    simp only[eachN,e,bsS];exact h1
   ·have e:q4R g r (s,(k:Int))=some (.inl (s++ys,((k+1:Nat):Int))):=by
     unfold q4R;dsimp only
     rw[ifP (by omega),hx,bsS,hp1,bsS,j7P,hy1,bsS,q3G (by constructor<;>omega)];rfl
    rw[q4Q e];exact h2
 obtain⟨l,h1,h2,h3⟩:=key (r.rt_.length+1) 0 [] (by omega) (by simp)
 refine⟨l,?_,?_,by omega⟩
 ·unfold q5m
  have e:q4Y (q4R g r) (([]:List Oc),0)=some l:=h2
  rw[e];rfl
 ·unfold q4L
  rw[q3G (by constructor<;>omega),h1];rfl
theorem k2J {g:Gm_}{r:Rule}(k:Int)(h:∀ y∈g.ss_,y.as_.length≤1048576)(hr:r.rt_.length≤1048576):∃ l,q5C g r k=some l∧q4I g r k=some l∧l.length≤1099512676352:=by
 obtain⟨o,h1,h2,h3⟩:=j0d h hr
 obtain⟨l,h4,h5⟩:=q9w (p:=fun x:Oc=>decide (x.Pos=k)) (g:=fun i _=>((i:Nat):Int)) (B:=4398046511104) (f:=q5s k) (fun i x s hs=>by
  have hg:((s.length:Int)+1)*8≤140737488355328∧(s.length:Int)+1≤9223372036854775807:=by constructor<;>omega
  unfold q5s
  rw[q3G hg]
  by_cases m1:x.Pos=k
  ·rw[ifP m1,ifP (by simp[m1])];rfl
  ·rw[ifN m1,ifN (by simp[m1])];rfl) o 0 [] (by simp;omega)
 simp only[Dqz] at h4
 refine⟨l,?_,?_,by omega⟩
 ·unfold q5C;rw[h1];dsimp only[bsS];rw[h4];rfl
 ·unfold q4I;rw[h2];dsimp only[bsS];rw[z6y,h4];rfl
theorem k0y {α:Type}[Sz α]{x:α}:∀ {l:List α},x∈l→Sz.szd x≤szL l
 | [],h=>by simp at h
 | y::l,h=>by
  rcases List.mem_cons.1 h with rfl|h
  ·simp only[szL];omega
  ·have:=k0y h;simp only[szL];omega
theorem z3C {g:Gm_}(h:Sz.szd g≤1048576):∀ y∈g.ss_,y.as_.length≤1048576:=fun y hy=>by
 have h1:=k0y hy
 have h2:=z8T y
 have h3:=z0M g
 have h4:=q4P y.as_
 omega
theorem q8b {r:Rule}(h:Sz.szd r≤1048576):r.rt_.length≤1048576:=by
 have h1:=z4K r
 have h2:=q4P r.rt_
 omega
def Valid (r:Rl_):Prop:=0≤r.N∧r.N≤16∧(r.Rows.length:Int)=r.N∧∀ x∈r.Rows,0≤x∧x≤((2 ^ r.N.toNat:Nat):Int)-1
instance (r:Rl_):Decidable (Valid r):=by unfold Valid;infer_instance
def z6G (r:Rl_)(i:Int):Int:=r.Rows.getD i.toNat 0
def bit (x:Int)(k:Int):Prop:=x.toNat >>> k.toNat &&& 1=1
instance (x k:Int):Decidable (bit x k):=by unfold bit;infer_instance
def inN (r:Rl_)(i:Int):Prop:=0≤i∧i≤r.N-1
instance (r:Rl_) (i:Int):Decidable (inN r i):=by unfold inN;infer_instance
def hasP (r:Rl_)(i k:Int):Prop:=Valid r∧inN r i∧inN r k∧bit (z6G r i) k
instance (r:Rl_) (i k:Int):Decidable (hasP r i k):=by unfold hasP;infer_instance
def j1u (r:Rl_)(i:Int)(x:Int):Rl_:=⟨r.N,r.Rows.set i.toNat x⟩
def orI (x y:Int):Int:=((x.toNat ||| y.toNat:Nat):Int)
def addP (r:Rl_)(i k:Int):Rl_:=if Valid r∧inN r i∧inN r k then j1u r i (orI (z6G r i) ((2 ^ k.toNat:Nat):Int)) else r
theorem Valid.row {r:Rl_}(h:Valid r){i:Int}(hi:inN r i){x:Int}(hx:r.Rows[i.toNat]?=some x):z6G r i=x∧0≤x∧x≤65535:=by
 have hm:=h.2.2.2 x (Bsz hx)
 have hp:2 ^ r.N.toNat≤2 ^ 16:=Doz (by decide) (by have:=h.2.1;omega)
 refine⟨by unfold z6G;simp[hx],hm.1,by omega⟩
theorem k7g {n:Int}(h:n≤16):2 ^ n.toNat≤65536:=by
 have:2 ^ n.toNat≤2 ^ 16:=Doz (by decide) (by omega)
 simpa using this
theorem k2K (n:Int):1≤2 ^ n.toNat:=Nat.one_le_two_pow
theorem k0z {r:Rl_}(h0:0≤r.N)(h1:r.N≤16)(h2:(r.Rows.length:Int)=r.N):decide (Valid r)=!(r.Rows.any fun x=>!decide (0≤x∧x≤((2 ^ r.N.toNat:Nat):Int)-1)):=by
 by_cases hv:Valid r
 ·rw[decide_eq_true hv,eq_comm,Baz,List.any_eq_false]
  intro x hx
  simp only[Baz,decide_eq_false_iff_not,Decidable.not_not]
  exact hv.2.2.2 x hx
 ·rw[decide_eq_false hv,eq_comm,Bool.not_eq_false',List.any_eq_true]
  refine Classical.byContradiction fun hn=>hv ⟨h0,h1,h2,fun x hx=>Classical.byContradiction fun hb=>hn ⟨x,hx,?_⟩⟩
  rw[decide_eq_false hb];rfl
theorem k4p {x k:Int}(h:(((((x.toNat >>> k.toNat:Nat):Int)).toNat &&& (1:Int).toNat:Nat):Int)=1):x.toNat >>> k.toNat &&& 1=1:=by
 have:(1:Int).toNat=1:=rfl
 rw[tnC,this] at h
 exact_mod_cast h
theorem k4q {x k:Int}(h:x.toNat >>> k.toNat &&& 1=1):(((((x.toNat >>> k.toNat:Nat):Int)).toNat &&& (1:Int).toNat:Nat):Int)=1:=by
 have:(1:Int).toNat=1:=rfl
 rw[tnC,this]
 exact_mod_cast h
theorem z0m (x lo hi:Int):q5f x lo hi=some (decide (lo≤x∧x≤hi)):=by
 unfold q5f;split<;>simp_all<;>omega
theorem z4i (x lo hi:Int):q3W x lo hi=some (decide (lo≤x∧x≤hi)):=by
 unfold q3W;split<;>simp_all<;>omega
theorem q9q (r:Rl_):q5h r=some (decide (Valid r)):=by
 unfold q5h
 simp only[z0m,bsS,decide_eq_true_eq]
 by_cases h1:0≤r.N∧r.N≤16
 ·rw[ifP h1]
  by_cases h2:(r.Rows.length:Int)=r.N
  ·rw[ifP h2]
   have key:=j5m (c:=false) (n:=r.N.toNat) (i:=0) (p:=fun k=>∃ x,r.Rows[k]?=some x∧¬ (0≤x∧x≤((2 ^ r.N.toNat:Nat):Int)-1)) (f:=q9m r) fun k hk=>by
    have hk' : k<r.Rows.length:=by omega
    obtain⟨x,hx⟩:∃ x,r.Rows[k]?=some x:=⟨_,Ckz hk'⟩
    simp only[Nat.zero_add]
    unfold q9m
    rw[hx,bsS,q3G h1.1,q3G (by omega),z0m,bsS]
    simp only[decide_eq_true_eq]
    refine⟨fun ⟨y,hy,hn⟩=>?_,fun hn=>?_⟩
    ·cases hy;rw[ifN hn]
    ·by_cases hb:0≤x∧x≤((2 ^ r.N.toNat:Nat):Int)-1
     ·rw[ifP hb]
     ·exact absurd ⟨x,rfl,hb⟩ hn
   simp only[Nat.zero_add] at key
   by_cases hv:Valid r
   ·rw[key.2 fun k hk ⟨x,hx,hn⟩=>hn (hv.2.2.2 x (Bsz hx))]
    simp[hv]
   ·rw[key.1 (Classical.byContradiction fun hn=>hv ⟨h1.1,h1.2,h2,fun x hx=>?_⟩)]
    ·simp[hv]
    ·obtain⟨k,hk⟩:=List.getElem?_of_mem hx
     have hk':=k6V hk
     exact Classical.byContradiction fun hb=>hn ⟨k,by omega,x,hk,hb⟩
  ·rw[ifN h2,decide_eq_false fun hv=>h2 hv.2.2.1]
 ·rw[ifN h1,decide_eq_false fun hv=>h1 ⟨hv.1,hv.2.1⟩]
theorem z7g (r:Rl_):q5H r=some (decide (Valid r)):=by
 unfold q5H
 simp only[z4i,bsS,decide_eq_true_eq]
 by_cases h1:0≤r.N∧r.N≤16
 ·rw[ifP h1]
  simp only[bsS,Dvz,if_true,if_false,decide_eq_true_eq]
  by_cases h2:(r.Rows.length:Int)=r.N
  ·rw[ifP h2]
   have h3:∀ x,q6i x r=some (!decide (0≤x∧x≤((2 ^ r.N.toNat:Nat):Int)-1)):=fun x=>by
    unfold q6i
    rw[q3G h1.1,q3G (by omega),z4i];rfl
   have h4:∀ (xs:List Int) (i:Nat),∃ z,findL (q4M r) i xs ()=some z∧((xs.any fun x=>!decide (0≤x∧x≤((2 ^ r.N.toNat:Nat):Int)-1))=true→∃ k:Nat,z=.inr (k:Int))∧((xs.any fun x=>!decide (0≤x∧x≤((2 ^ r.N.toNat:Nat):Int)-1))=false→z=.inl ()):=by
    intro xs
    induction xs with
    | nil=>intro i;exact⟨_,rfl,by simp,by simp⟩
    | cons x xs ih=>
     intro i
     simp only[findL,q4M,h3,bsS,List.any_cons]
     by_cases hb:0≤x∧x≤((2 ^ r.N.toNat:Nat):Int)-1
     ·simp only[hb,and_self,decide_true,Bool.not_true,Dvz,if_false,bsS,Bool.false_or]
      exact ih (i+1)
     ·simp only[hb,decide_false,Bool.not_false,if_true,bsS,Bool.true_or]
      exact⟨_,rfl,fun _=>⟨i,rfl⟩,by simp⟩
   unfold q4f q4o
   obtain⟨z,hz,hz1,hz2⟩:=h4 r.Rows 0
   rw[hz,k0z h1.1 h1.2 h2]
   cases ha:(r.Rows.any fun x=>!decide (0≤x∧x≤((2 ^ r.N.toNat:Nat):Int)-1)) with
   | true=>obtain⟨k,rfl⟩:=hz1 ha;simp
   | false=>rw[hz2 ha];simp
  ·rw[ifN h2,decide_eq_false fun hv=>h2 hv.2.2.1];simp only[bsS,Dvz,if_true,if_false,decide_eq_true_eq]
 ·rw[ifN h1,decide_eq_false fun hv=>h1 ⟨hv.1,hv.2.1⟩];simp only[bsS,Dvz,if_true,if_false,decide_eq_true_eq]
theorem z2H (r:Rl_)(i k:Int):q9r r i k=some (decide (hasP r i k)):=by
 unfold q9r
 simp only[q9q,z0m,bsS,decide_eq_true_eq]
 by_cases hv:Valid r
 ·have hv1:=hv.1;have hv2:=hv.2.1;have hv3:=hv.2.2.1
  rw[ifP hv,q3G (by constructor<;>omega)];simp only[bsS,Dvz,if_true,if_false,decide_eq_true_eq]
  by_cases hi:0≤i∧i≤r.N-1
  ·rw[ifP hi,q3G (by constructor<;>omega)];simp only[bsS,Dvz,if_true,if_false,decide_eq_true_eq]
   by_cases hk:0≤k∧k≤r.N-1
   ·obtain⟨x,hx⟩:∃ x,r.Rows[i.toNat]?=some x:=⟨_,Ckz (by omega)⟩
    have hrow:=hv.row (i:=i) hi hx
    rw[ifP hk,q3G hi.1,hx,bsS,q3G hk.1,q3G ⟨hrow.2.1,hk.1,by omega⟩,q3G ⟨Dmz _,by decide⟩]
    simp only[bsS,Dvz,if_true,if_false,decide_eq_true_eq]
    congr 1
    refine decide_eq_decide.2 ⟨fun hb=>⟨hv,hi,hk,?_⟩,fun hb=>?_⟩
    ·unfold bit;rw[hrow.1];exact k4p hb
    ·have:=hb.2.2.2;unfold bit at this;rw[hrow.1] at this;exact k4q this
   ·rw[ifN hk];simp only[bsS,Dvz,if_true,if_false,decide_eq_true_eq];rw[ decide_eq_false fun h=>hk h.2.2.1]
  ·rw[ifN hi];simp only[bsS,Dvz,if_true,if_false,decide_eq_true_eq];rw[ decide_eq_false fun h=>hi h.2.1]
 ·rw[ifN hv];simp only[bsS,Dvz,if_true,if_false,decide_eq_true_eq];rw[ decide_eq_false fun h=>hv h.1]
theorem j1v (r:Rl_)(i k:Int):z0D r i k=some (decide (hasP r i k)):=by
 rw[← z2H]
 unfold z0D q9r
 simp only[q9q,z7g,z0m,z4i]
theorem j5n:q7c=q8s:=by
 funext r;unfold q7c q8s q5G
 by_cases h:((([]:List Int).length:Int)+(r.Rows.length:Int))*8≤140737488355328∧(([]:List Int).length:Int)+(r.Rows.length:Int)≤9223372036854775807
 ·rw[q3G h,q3G h];rfl
 ·unfold grd;rw[ifN h,ifN h];rfl
theorem k2L:z0D=q9r:=by
 funext r i k;rw[j1v,z2H]
theorem j3R:z0C=q6o:=by
 funext r i k;unfold z0C q6o;simp only[j5n,q9q,z7g,z0m,z4i]
theorem j2H:q6H=q4G:=by
 funext n;unfold q6H q4G;simp only[z0m,z4i]
theorem z8h {r:Rl_}(h:r.Rows.length≤1048576):q8s r=some r:=by
 unfold q8s;rw[q3G (by simp only[Dpz];constructor<;>omega)]
theorem j7Q {r:Rl_}(h:r.Rows.length≤1048576)(i k:Int):∃ x,q6o r i k=some x∧x.Rows.length=r.Rows.length:=by
 unfold q6o
 simp only[z8h h,q9q,z0m,bsS,decide_eq_true_eq]
 by_cases hv:Valid r
 ·have hv1:=hv.1;have hv2:=hv.2.1;have hv3:=hv.2.2.1
  rw[ifP hv,q3G (by constructor<;>omega)];simp only[bsS,Dvz,if_true,if_false,decide_eq_true_eq]
  by_cases hi:0≤i∧i≤r.N-1
  ·rw[ifP hi,q3G (by constructor<;>omega)];simp only[bsS,Dvz,if_true,if_false,decide_eq_true_eq]
   by_cases hk:0≤k∧k≤r.N-1
   ·obtain⟨x,hx⟩:∃ x,r.Rows[i.toNat]?=some x:=⟨_,Ckz (by omega)⟩
    have hrow:=hv.row (i:=i) hi hx
    rw[ifP hk,q3G hi.1,hx,bsS,q3G hk.1,q3G ⟨hk.1,by omega⟩,q3G ⟨hrow.2.1,Dmz _⟩]
    exact⟨_,rfl,by simp⟩
   ·rw[ifN hk];exact⟨_,rfl,rfl⟩
  ·rw[ifN hi];simp only[bsS,Dvz,if_true,if_false,decide_eq_true_eq];exact⟨_,rfl,rfl⟩
 ·rw[ifN hv];simp only[bsS,Dvz,if_true,if_false,decide_eq_true_eq];exact⟨_,rfl,rfl⟩
theorem j9a (n:Nat):∃ x,q4G (n:Int)=some x∧x.Rows.length≤16:=by
 unfold q4G;simp only[z0m,bsS,decide_eq_true_eq]
 by_cases h:0≤(n:Int)∧(n:Int)≤16
 ·rw[ifP h,q3G (by refine⟨by omega,by omega,by omega⟩)];exact⟨_,rfl,by simp;omega⟩
 ·rw[ifN h];exact⟨_,rfl,by simp⟩
theorem z9u {α σ:Type}{f:Nat→α→σ→Option σ}:∀ (xs ys:List α) (i:Nat) (s:σ),eachL f i (xs++ys) s=(eachL f i xs s).bind fun t=>eachL f (i+xs.length) ys t
 | [],ys,i,s=>rfl
 | x::xs,ys,i,s=>by
  simp only[Drz,eachL]
  cases f i x s with
  | none=>rfl
  | some t=>simp only[bsS];rw[z9u xs ys (i+1) t,lnC,show i+1+xs.length=i+(xs.length+1) by omega]
theorem z5P (k:Nat):∀ (l:List At_) (i:Nat) (s:List Oc),s.length+l.length≤4398046511104→eachL (q5x k) i l s=some (s++l.map fun x=>(⟨(k:Int),x.Name⟩:Oc))
 | [],i,s,_=>by simp[eachL]
 | x::l,i,s,h=>by
  simp only[lnC] at h
  have hg:((s.length:Int)+1)*24≤140737488355328∧(s.length:Int)+1≤9223372036854775807:=by constructor<;>omega
  have e:q5x k i x s=some (s++[(⟨(k:Int),x.Name⟩:Oc)]):=by unfold q5x;rw[q3G hg]
  simp only[eachL,e,bsS]
  rw[z5P k l (i+1) _ (by simp;omega)];simp
theorem k4X {g:Gm_}{r:Rule}(h:∀ y∈g.ss_,y.as_.length≤1048576)(hr:r.rt_.length≤1048576){l:List At_}{o:List Oc}(hl:q4z g r.Left=some l)(ho:q4L g r=some o) :
  ∃ ys,o=(l.map fun x=>(⟨0,x.Name⟩:Oc))++ys:=by
 have key:∀ m k (s:List Oc),k+m=r.rt_.length+1→s.length≤k*1048576→∀ q,eachN (q4k g r) k m s=some q→∃ ys,q=s++ys:=by
  intro m
  induction m with
  | zero=>intro k s _ _ q hq;cases hq;exact⟨[],by simp⟩
  | succ m ih=>
   intro k s hk hs q hq
   obtain⟨x,hx⟩:=j2G r k (by omega) hr
   obtain⟨p,hp1,hp2,hp3⟩:=z4h h x
   have hy:=z5P k p 0 s (by omega)
   have e:q4k g r k s=some (s++p.map fun x=>(⟨(k:Int),x.Name⟩:Oc)):=by
    unfold q4k;rw[z8U,hx,bsS,hp2,bsS,hy];rfl
   simp only[eachN,e,bsS] at hq
   obtain⟨ys,hys⟩:=ih (k+1) _ (by omega) (by simp;omega) q hq
   exact⟨_,by rw[hys,Ayz]⟩
 unfold q4L at ho
 rw[q3G (by constructor<;>omega)] at ho
 have e1:eachN (q4k g r) 0 (r.rt_.length+1) []=some o:=by
  cases hq:eachN (q4k g r) 0 (r.rt_.length+1) [] with
  | none=>rw[hq] at ho;cases ho
  | some q=>rw[hq] at ho;exact ho
 have hl3:l.length≤1048576:=by
  obtain⟨p,_,h2,h3⟩:=z4h h r.Left
  rw[hl] at h2;cases h2;exact h3
 have hx:q6y r ((0:Nat):Int)=some r.Left:=by unfold q6y;exact ifP rfl
 have e:q4k g r 0 []=some ([]++l.map fun x=>(⟨((0:Nat):Int),x.Name⟩:Oc)):=by
  unfold q4k;rw[hx,bsS,hl,bsS,z5P 0 l 0 [] (by simp;omega)];rfl
 simp only[eachN,e,bsS] at e1
 obtain⟨ys,hys⟩:=key r.rt_.length 1 _ (by omega) (by simp;omega) o e1
 exact⟨ys,by simpa using hys⟩
theorem k0A:∀ (xs:List Oc) (i:Nat) (s:List Int),s.length+xs.length≤4398046511104→(∀ x∈xs,x.Pos=0)→eachL (q4J 0) i xs s=some (s++(List.range' i xs.length).map fun (j:Nat)=>(j:Int))
 | [],i,s,_,_=>by simp[eachL]
 | x::xs,i,s,h,h0=>by
  simp only[lnC] at h
  have hg:((s.length:Int)+1)*8≤140737488355328∧(s.length:Int)+1≤9223372036854775807:=by constructor<;>omega
  have e:q4J 0 i x s=some (s++[(i:Int)]):=by
   unfold q4J;rw[ifP (h0 x (by simp)),q3G hg];rfl
  simp only[eachL,e,bsS]
  rw[k0A xs (i+1) _ (by simp;omega) fun y hy=>h0 y (by simp[hy])]
  simp[List.range'_succ]
theorem k4Y {g:Gm_}{r:Rule}(h:∀ y∈g.ss_,y.as_.length≤1048576)(hr:r.rt_.length≤1048576){l:List At_}{y:List Int}(hl:q4z g r.Left=some l)(hy:q4I g r 0=some y):∀ k:Nat,k<l.length→y[k]?=some (k:Int):=by
 obtain⟨o,_,ho,ho3⟩:=j0d h hr
 obtain⟨ys,hys⟩:=k4X h hr hl ho
 have hl3:l.length≤1048576:=by
  obtain⟨p,_,h2,h3⟩:=z4h h r.Left
  rw[hl] at h2;cases h2;exact h3
 unfold q4I at hy
 rw[ho,bsS] at hy
 have hy' : eachL (q4J 0) 0 o []=some y:=by
  cases hq:eachL (q4J 0) 0 o [] with
  | none=>rw[hq] at hy;cases hy
  | some q=>rw[hq] at hy;exact hy
 have hlen:=congrArg List.length hys
 simp only[Awz,lnM] at hlen
 rw[hys,z9u,k0A _ 0 [] (by simp;omega) (by intro x hx;obtain⟨a,_,rfl⟩:=List.mem_map.1 hx;rfl),bsS] at hy'
 obtain⟨zs,h4,h5⟩:=q9w (p:=fun x:Oc=>decide (x.Pos=0)) (g:=fun i _=>((i:Nat):Int)) (B:=4398046511104) (f:=q4J 0) (fun i x s hs=>by
  have hg:((s.length:Int)+1)*8≤140737488355328∧(s.length:Int)+1≤9223372036854775807:=by constructor<;>omega
  unfold q4J
  rw[q3G hg]
  by_cases m1:x.Pos=0
  ·rw[ifP m1,ifP (by simp[m1])];rfl
  ·rw[ifN m1,ifN (by simp[m1])];rfl) ys (0+(l.map fun x=>(⟨0,x.Name⟩:Oc)).length) ([]++(List.range' 0 (l.map fun x=>(⟨0,x.Name⟩:Oc)).length).map fun (j:Nat)=>(j:Int)) (by simp;omega)
 rw[h4] at hy'
 cases hy'
 intro k hk
 rw[List.getElem?_append_left (by simpa using hk)]
 simp[hk]
theorem z8W {α σ:Type}{P:σ→Prop}{f g:Nat→α→σ→Option σ}:∀ (xs:List α) (i:Nat) (s:σ),P s→(∀ k x s,k<i+xs.length→x∈xs→P s→∃ s',f k x s=some s'∧g k x s=some s'∧P s')→∃ s',eachL f i xs s=some s'∧eachL g i xs s=some s'∧P s'
 | [],i,s,hs,_=>⟨s,rfl,rfl,hs⟩
 | x::xs,i,s,hs,h=>by
  obtain⟨t,h1,h2,h3⟩:=h i x s (by simp) (by simp) hs
  obtain⟨u,h4,h5,h6⟩:=z8W xs (i+1) t h3 fun k y s hk hy=>h k y s (by simp;omega) (by simp[hy])
  exact⟨u,by simp only[eachL,h1,bsS,h4],by simp only[eachL,h2,bsS,h5],h6⟩
theorem j5o {g:Gm_}{r:Rule}{c:Rl_}(h:∀ y∈g.ss_,y.as_.length≤1048576)(hr:r.rt_.length≤1048576):∃ x,q6L g r c=some x∧q9t g r c=some x∧x.Rows.length≤16:=by
 obtain⟨l,l1,l2,l3⟩:=z4h h r.Left
 obtain⟨y,_,y2,_⟩:=k2J 0 h hr
 have hy:=k4Y h hr l2 y2
 obtain⟨e,e1,e2⟩:=j9a l.length
 have step:∀ k1 x1,k1<l.length→∀ k2 x2 s,k2<l.length→s.1.length≤16→∃ s',q8t c k1 x1 k2 x2 s=some s'∧z1M c y k1 x1 k2 x2 s=some s'∧s'.1.length≤16:=by
  intro k1 x1 hk1 k2 x2 ⟨s3,s4⟩ hk2 hs
  dsimp only at hs
  obtain⟨z,z1,z2⟩:=j7Q (r:=⟨s4,s3⟩) (by show s3.length≤_;omega) (k1:Int) (k2:Int)
  unfold q8t z1M
  rw[k2L,j3R,hy k1 hk1,hy k2 hk2]
  simp only[bsS,z2H,z1,decide_eq_true_eq]
  by_cases m1:x1.Mode=1
  ·by_cases m2:x2.Mode=2
   ·by_cases m3:hasP c (k1:Int) (k2:Int)
    ·simp only[m1,m2,m3,if_true,decide_true,bsS];exact⟨_,rfl,rfl,by rw[z2];exact hs⟩
    ·simp only[m1,m2,m3,if_true,if_false,decide_true,decide_false,bsS];exact⟨_,rfl,rfl,hs⟩
   ·simp[m1,m2,hs]
  ·simp[m1,hs]
 obtain⟨⟨s1,s2⟩,h1,h2,h3⟩:=z8W (P:=fun s:List Int×Int=>s.1.length≤16) (f:=q9U c l) (g:=z4C c l y) l 0 (e.Rows,e.N) e2 fun k x s hk _ hs=>by
  obtain⟨s',t1,t2,t3⟩:=z8W (P:=fun s:List Int×Int=>s.1.length≤16) (f:=q8t c k x) (g:=z1M c y k x) l 0 s hs fun k2 x2 s hk2 _ hs=>step k x (by omega) k2 x2 s (by omega) hs
  obtain⟨s3,s4⟩:=s
  exact⟨s',by unfold q9U;dsimp only;rw[t1];rfl,by unfold z4C;dsimp only;rw[t2];rfl,t3⟩
 refine⟨⟨s2,s1⟩,?_,?_,h3⟩
 ·unfold q6L;rw[l1,bsS,e1,bsS,h1];rfl
 ·unfold q9t;rw[l2,bsS,y2,bsS,j2H,e1,bsS,h2];rfl
end Go.Proofs.YtnhofaohogianaaGreat
namespace Go.E
section
variable {α:Type}{lt:α→α→Bool}
theorem j2I (irr:∀ a,lt a a=false)(tr:∀ a b c,lt a b=true→lt b c=true→lt a c=true) :
  ∀ {xs ys:List α},xs.Pairwise (fun a b=>lt a b=true)→ys.Pairwise (fun a b=>lt a b=true)→(∀ a,a∈xs↔a∈ys)→xs=ys
 | [],[],_,_,_=>rfl
 | [],y::ys,_,_,h=>absurd ((h y).2 (by simp)) (by simp)
 | x::xs,[],_,_,h=>absurd ((h x).1 (by simp)) (by simp)
 | x::xs,y::ys,hx,hy,h=>by
  rw[Dsz] at hx hy
  have asym:∀ a b,lt a b=true→lt b a=true→False:=fun a b h1 h2=>by have:=tr a b a h1 h2;rw[irr] at this;cases this
  have hxy:x=y:=by
   have h1:=(h x).1 (by simp)
   have h2:=(h y).2 (by simp)
   rcases List.mem_cons.1 h1 with e|h1
   ·exact e
   rcases List.mem_cons.1 h2 with e|h2
   ·exact e.symm
   exact (asym x y (hx.1 y h2) (hy.1 x h1)).elim
  subst hxy
  congr 1
  refine j2I irr tr hx.2 hy.2 fun a=>?_
  constructor
  ·intro ha
   rcases List.mem_cons.1 ((h a).1 (by simp[ha])) with e|h1
   ·subst e;have:=hx.1 _ ha;rw[irr] at this;cases this
   ·exact h1
  ·intro ha
   rcases List.mem_cons.1 ((h a).2 (by simp[ha])) with e|h1
   ·subst e;have:=hy.1 _ ha;rw[irr] at this;cases this
   ·exact h1
theorem j9b (tr:∀ a b c,lt a b=true→lt b c=true→lt a c=true)(tot:∀ a b,lt a b=false→lt b a=false→a=b){l:List α}{o:α}{k:Nat}(hl:l.Pairwise (fun a b=>lt a b=true))
  (hb:∀ a∈l.take k,lt a o=true) (ha:∀ y,l[k]?=some y→lt y o=false∧y≠o):(l.take k++o::l.drop k).Pairwise (fun a b=>lt a b=true):=by
 have hs:(l.take k++l.drop k).Pairwise (fun a b=>lt a b=true):=by rw[List.take_append_drop];exact hl
 rw[Dtz] at hs
 have ho:∀ z∈l.drop k,lt o z=true:=by
  cases hd:l.drop k with
  | nil=>intro z hz;cases hz
  | cons y r=>
   have hy:l[k]?=some y:=by
    have:(l.drop k)[0]?=some y:=by rw[hd];rfl
    simpa using this
   obtain⟨h1,h2⟩:=ha y hy
   have h3:lt o y=true:=by
    cases h:lt o y with
    | true=>rfl
    | false=>exact absurd (tot _ _ h1 h) h2
   intro z hz
   rcases List.mem_cons.1 hz with e|hz
   ·rw[e];exact h3
   ·have:=hs.2.1;rw[hd,Dsz] at this
    exact tr _ _ _ h3 (this.1 z hz)
 rw[Dtz,Dsz]
 refine⟨hs.1,⟨ho,hs.2.1⟩,fun a h1 b h2=>?_⟩
 rcases List.mem_cons.1 h2 with e|h2
 ·rw[e];exact hb a h1
 ·exact hs.2.2 a h1 b h2
end
section
variable {α:Type}[DecidableEq α]{lt:α→α→Bool}
def q4O:List α→List α
 | []=>[]
 | [x]=>[x]
 | x::y::l=>if x=y then q4O (y::l) else x::q4O (y::l)
theorem z5Q {a:α}:∀ {l:List α},a∈q4O l↔a∈l
 | []=>Iff.rfl
 | [x]=>Iff.rfl
 | x::y::l=>by
  unfold q4O
  have ih:=z5Q (a:=a) (l:=y::l)
  split
  ·rename_i e;subst e;rw[ih];simp
  ·rw[List.mem_cons,ih];simp
theorem z5R (tr:∀ a b c,lt a b=true→lt b c=true→lt a c=true)(tot:∀ a b,lt a b=false→lt b a=false→a=b) :
  ∀ {l:List α},l.Pairwise (fun a b=>lt b a=false)→(q4O l).Pairwise (fun a b=>lt a b=true)
 | [],_=>List.Pairwise.nil
 | [x],_=>by simp[q4O]
 | x::y::l,h=>by
  unfold q4O
  rw[Dsz] at h
  have ih:=z5R tr tot h.2
  split
  ·exact ih
  ·rename_i hne
   rw[Dsz]
   refine⟨fun z hz=>?_,ih⟩
   have h1:lt x y=true:=by
    cases e:lt x y with
    | true=>rfl
    | false=>exact absurd (tot _ _ e (h.1 y (by simp))) hne
   rcases List.mem_cons.1 (z5Q.1 hz) with e|hz
   ·rw[e];exact h1
   ·have h2:=(List.pairwise_cons.1 h.2).1 z hz
    cases e:lt y z with
    | true=>exact tr _ _ _ h1 e
    | false=>rw[← tot _ _ e h2];exact h1
theorem z8i {a:α}:∀ {l:List α},q4O (l++[a])=if l.getLast?=some a then q4O l else q4O l++[a]
 | []=>by simp[q4O]
 | [x]=>by
  simp only[q4O,Drz,Dqz,List.getLast?_singleton,Option.some.injEq]
  by_cases e:x=a
  ·subst e;simp
  ·simp[e]
 | x::y::l=>by
  have ih:=z8i (a:=a) (l:=y::l)
  simp only[Drz] at ih ⊢
  have e:(x::y::l).getLast?=(y::l).getLast?:=by simp[List.getLast?_cons_cons]
  rw[e]
  show (if x=y then q4O (y::(l++[a])) else x::q4O (y::(l++[a])))=_
  rw[ih]
  show _=if (y::l).getLast?=some a then (if x=y then q4O (y::l) else x::q4O (y::l)) else (if x=y then q4O (y::l) else x::q4O (y::l))++[a]
  split<;>split<;>simp
theorem z8j {l:List α}{i:Nat}{a b:α}(ha:l[i]?=some a)(hb:l[i+1]?=some b):q4O (l.take (i+2))=if a=b then q4O (l.take (i+1)) else q4O (l.take (i+1))++[b]:=by
 have h1:l.take (i+2)=l.take (i+1)++[b]:=by rw[show i+2=(i+1)+1 from rfl,Duz,hb];rfl
 have h2:(l.take (i+1)).getLast?=some a:=by rw[Duz,ha];simp
 rw[h1,z8i,h2]
 by_cases e:a=b
 ·simp[e]
 ·simp[e]
end
end Go.E
namespace Go.Proofs.YtnhofaohogianaaGreat
open Go Go.E
mutual
def z4L:Expr→List Oc
 | ⟨a0,a1,a2,a3,a4,a5,a6⟩=>(if a0=3 then [⟨a2,a5⟩] else [])++z0n a6
def z0n:List Expr→List Oc
 | []=>[]
 | x::xs=>z4L x++z0n xs
end
mutual
def fuE:Expr→Nat
 | ⟨_,_,_,_,_,_,a6⟩=>fuEs a6+1
def fuEs:List Expr→Nat
 | []=>0
 | x::xs=>max (fuE x) (fuEs xs)
end
theorem z1E (e:Expr):fuE e=fuEs e.Args+1:=by cases e;rfl
theorem z3n:∀ {l:List Expr} {x:Expr},x∈l→fuE x≤fuEs l
 | y::l,x,h=>by
  simp only[fuEs]
  rcases List.mem_cons.1 h with e|h
  ·subst e;omega
  ·have:=z3n h;omega
theorem z4M (e:Expr):z4L e=(if e.Kind=3 then [⟨e.Pos,e.Name⟩] else [])++z0n e.Args:=by cases e;rfl
mutual
theorem j5p:∀ e:Expr,(z4L e).length≤1+z1h e
 | ⟨a0,a1,a2,a3,a4,a5,a6⟩=>by
  have:=j2J a6
  simp only[z4L,z1h,Awz]
  split<;>simp<;>omega
theorem j2J:∀ l:List Expr,(z0n l).length≤z3l l
 | []=>by simp[z0n]
 | x::xs=>by
  have h1:=j5p x
  have h2:=j2J xs
  simp only[z0n,z3l,Awz];omega
end
theorem z1Q {α:Type}[Sz α]{x:α}:∀ {l:List α},x∈l→Sz.szd x<szL l
 | [],h=>by simp at h
 | y::l,h=>by
  rcases List.mem_cons.1 h with rfl|h
  ·simp only[szL];omega
  ·have:=z1Q h;simp only[szL];omega
theorem k0B {e x:Expr}(h:x∈e.Args):Sz.szd x<Sz.szd e:=by
 have h1:=q7A e
 have h2:=z1Q h
 omega
theorem k0C {e:Expr}(h:Sz.szd e≤1048576):(z4L e).length≤1048577:=by
 have h1:=j5p e
 have h2:z1h e=Sz.szd e:=rfl
 omega
theorem j6P:∀ (m:Nat) (e:Expr) (o:List Oc),fuE e≤m→o.length+(z4L e).length≤4398046511104→q4w m e o=some (true,o++z4L e):=by
 intro m
 induction m with
 | zero=>intro e o h;rw[z1E] at h;omega
 | succ m ih=>
  have hl:∀ (l:List Expr) (i:Nat) (o:List Oc),fuEs l≤m→o.length+(z0n l).length≤4398046511104→findL (q4g (q4w m)) i l o=some (.inl (o++z0n l)):=by
   intro l
   induction l with
   | nil=>intro i o _ _;simp[findL,z0n]
   | cons x l ihl=>
    intro i o hf hb
    simp only[fuEs] at hf
    simp only[z0n,Awz] at hb
    have hx:=ih x o (by omega) (by omega)
    simp only[findL,q4g,q5c,hx,bsS,Bool.not_true,Dvz,if_false]
    rw[ihl _ _ (by omega) (by rw[Awz];omega),z0n,Ayz]
  intro e o hf hb
  rw[z1E] at hf
  show q4K (q4w m) e o=_
  have hb':=hb
  rw[z4M,Awz] at hb'
  have h1:q6M e o=some (true,o++if e.Kind=3 then [⟨e.Pos,e.Name⟩] else []):=by
   unfold q6M
   by_cases hk:e.Kind=3
   ·rw[ifP hk] at hb' ⊢
    rw[ifP hk,q3G]
    simp only[lnC,Dpz] at hb'
    constructor<;>omega
   ·rw[ifN hk,ifN hk,List.append_nil]
  unfold q4K
  rw[h1,bsS]
  dsimp only
  rw[ifP rfl]
  unfold q3K q3L
  rw[hl _ _ _ (by omega) (by rw[Awz];omega),z4M]
  simp[onr]
theorem k2M {e:Expr}(h:(z4L e).length≤4398046511104):q6d e []=some (true,z4L e):=
 q8H (fuE e) fun m hm=>by simpa using j6P m e [] hm (by simpa using h)
theorem j6Q {α:Type}{s:List α}{k:Nat}{x:α}(h:k<s.length):(s.set k x).take (k+1)=s.take k++[x]:=by
 rw[Duz,List.take_set,List.set_eq_of_length_le (by simp;omega)]
 simp[List.getElem?_set,h]
theorem j9c {a:List Oc}{b:Nat}(ha:a.length≤4398046511104)(hb:1≤b)(hba:b<a.length):∀ (m j k:Nat) (s:List Oc),b+j+m=a.length→1≤j→1≤k→k≤b+j-1→s.length=a.length→s.take k=q4O (a.take (b+j))→s.drop (b+j-1)=a.drop (b+j-1) →
  ∃ s' k',q4Y (q3T (b:Int)) (s,(k:Int),(j:Int))=some (s',((k' : Nat):Int))∧k'≤s'.length∧s'.take k'=q4O a:=by
 intro m
 induction m with
 | zero=>
  intro j k s hm hj hk hkj hs ht hd
  refine⟨s,k,q3V ?_,by omega,?_⟩
  ·unfold q3T
   dsimp only
   rw[ifN (by simp only[tnC,Bpz];omega)]
  ·rw[ht,show b+j=a.length by omega,List.take_length]
 | succ m ih=>
  intro j k s hm hj hk hkj hs ht hd
  obtain⟨x,hx⟩:∃ x,a[b+j]?=some x:=⟨_,Ckz (by omega)⟩
  obtain⟨y,hy⟩:∃ y,a[b+j-1]?=some y:=⟨_,Ckz (by omega)⟩
  obtain⟨z,hz⟩:∃ z,s[k]?=some z:=⟨_,Ckz (by omega)⟩
  have hsx:s[b+j]?=some x:=by
   have:=congrArg (fun l=>l[1]?) hd
   simp only[Azz] at this
   rw[show b+j-1+1=b+j by omega] at this
   rw[this,hx]
  have hsy:s[b+(j-1)]?=some y:=by
   have:=congrArg (fun l=>l[0]?) hd
   simp only[Azz,Cvz] at this
   rw[show b+(j-1)=b+j-1 by omega,this,hy]
  have hc:=z8j (i:=b+j-1) (b:=x) hy (by rw[show b+j-1+1=b+j by omega];exact hx)
  rw[show b+j-1+2=b+(j+1) by omega,show b+j-1+1=b+j by omega] at hc
  have hd2:s.drop (b+(j+1)-1)=a.drop (b+(j+1)-1):=by
   have:=congrArg (fun l=>l.drop 1) hd
   simp only[List.drop_drop] at this
   rw[show b+(j+1)-1=b+j-1+1 by omega];exact this
  have e1:((j:Int)-1).toNat=j-1:=by omega
  by_cases hxy:x=y
  ·have e:q3T (b:Int) (s,(k:Int),(j:Int))=some (.inl (s,(k:Int),((j+1:Nat):Int))):=by
    unfold q3T
    dsimp only
    rw[ifP (by simp only[tnC,Bpz];omega),q3G (by omega)]
    simp only[tnC]
    rw[hsx,bsS,q3G (by constructor<;>omega),q3G (by omega),e1,hsy,bsS,ifP hxy,bsS]
    dsimp only
    rw[q3G (by constructor<;>omega)];rfl
   rw[q4Q e]
   exact ih (j+1) k s (by omega) (by omega) hk (by omega) hs (by rw[hc,ifP hxy.symm,ht]) hd2
  ·have e:q3T (b:Int) (s,(k:Int),(j:Int))=some (.inl (s.set k x,((k+1:Nat):Int),((j+1:Nat):Int))):=by
    unfold q3T
    dsimp only
    rw[ifP (by simp only[tnC,Bpz];omega),q3G (by omega)]
    simp only[tnC]
    rw[hsx,bsS,q3G (by constructor<;>omega),q3G (by omega),e1,hsy,bsS,ifN hxy,q3G (by omega),q3G (by omega),hz,bsS,q3G (by constructor<;>omega),bsS]
    dsimp only
    rw[q3G (by constructor<;>omega)];rfl
   rw[q4Q e]
   refine ih (j+1) (k+1) _ (by omega) (by omega) (by omega) (by omega) (by rw[List.length_set];exact hs) ?_ ?_
   ·rw[j6Q (by omega),ht,hc,ifN (fun h=>hxy h.symm)]
   ·rw[List.drop_set,ifP (by omega)];exact hd2
theorem j6R {a:List Oc}(ha:a.length≤4398046511104):∀ (m k:Nat),k+m=a.length→1≤k→q4O (a.take k)=a.take k →
  (q4Y (q3U a) (k:Int)).bind (onr (fun r1=>some r1) fun _=>some a)=some (q4O a):=by
 intro m
 induction m with
 | zero=>
  intro k hm hk hc
  have e:q3U a (k:Int)=some (.inr (.inl ())):=by
   unfold q3U
   dsimp only
   rw[ifN (by omega)]
  rw[q3V e,bsS]
  show some a=_
  rw[show k=a.length by omega,List.take_length] at hc
  rw[hc]
 | succ m ih=>
  intro k hm hk hc
  obtain⟨x,hx⟩:∃ x,a[k]?=some x:=⟨_,Ckz (by omega)⟩
  obtain⟨y,hy⟩:∃ y,a[k-1]?=some y:=⟨_,Ckz (by omega)⟩
  have hct:=z8j (i:=k-1) (b:=x) hy (by rw[show k-1+1=k by omega];exact hx)
  rw[show k-1+2=k+1 by omega,show k-1+1=k by omega] at hct
  have htk:a.take (k+1)=a.take k++[x]:=by rw[Duz,hx];rfl
  have e1:((k:Int)-1).toNat=k-1:=by omega
  by_cases hxy:x=y
  ·obtain⟨s',k',h1,h2,h3⟩:=j9c (b:=k) ha hk (by omega) m 1 k a (by omega) (by omega) hk (by omega) rfl (by rw[hct,ifP hxy.symm,hc]) rfl
   have hl:(s'.take k'++List.replicate (s'.length-k') (⟨(0:Int),(⟨#[]⟩:BA_)⟩:Oc)).take k'=q4O a:=by
    rw[List.take_append_of_le_length (by simp;omega),List.take_take,Nat.min_self,h3]
   have e:q3U a (k:Int)=some (.inr (.inr (q4O a))):=by
    unfold q3U
    dsimp only
    rw[ifP (by omega),q3G (by omega)]
    simp only[tnC]
    rw[hx,bsS,q3G (by constructor<;>omega),q3G (by omega),e1,hy,bsS,ifP hxy,q3G (by omega),q3G (by omega)]
    have h1' : q4Y (q3T (k:Int)) (a,(k:Int),1)=some (s',((k' : Nat):Int)):=h1
    rw[h1',bsS]
    dsimp only
    simp only[tnC]
    rw[q3G (by omega),q3G (by omega),q3G (by omega),q3G (by simp;omega),hl]
   rw[q3V e,bsS];rfl
  ·have e:q3U a (k:Int)=some (.inl ((k+1:Nat):Int)):=by
    unfold q3U
    dsimp only
    rw[ifP (by omega),q3G (by omega)]
    simp only[tnC]
    rw[hx,bsS,q3G (by constructor<;>omega),q3G (by omega),e1,hy,bsS,ifN hxy,q3G (by constructor<;>omega)];rfl
   rw[q4Q e]
   exact ih (k+1) (by omega) (by omega) (by rw[hct,ifN (fun h=>hxy h.symm),hc,htk])
theorem j9d {a:List Oc}(ha:a.length≤4398046511104):q4Z a=some (q4O a):=by
 unfold q4Z
 by_cases h:(a.length:Int)<2
 ·rw[ifP h]
  match a,h with
  | [],_=>rfl
  | [x],_=>rfl
  | x::y::l,h=>simp only[lnC] at h;omega
 ·rw[ifN h]
  refine j6R ha (a.length-1) 1 (by omega) (Nat.le_refl _) ?_
  match a,h with
  | x::l,_=>rfl
def attrs (e:Expr):List Oc:=q4O (j4S (z4L e))
theorem k0D {o:Oc}{e:Expr}:o∈attrs e↔o∈z4L e:=by
 unfold attrs j4S
 rw[z5Q,List.mem_mergeSort]
theorem j7R {e:Expr}(h:Sz.szd e≤1048576):q6G e=some (attrs e):=by
 have hl:=k0C h
 have hs:(j4S (z4L e)).length=(z4L e).length:=by unfold j4S;exact List.length_mergeSort _
 unfold q6G
 rw[k2M (by omega),bsS]
 dsimp only
 unfold q5y
 rw[q3G (by omega),bsS,j9d (by omega)];rfl
end Go.Proofs.YtnhofaohogianaaGreat
