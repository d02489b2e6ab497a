/- A small engine for walks through a Go program: plain lemmas on the model, without conditions of their own. -/
import Derived.Test.YtaholdflpgcndaaGreatDef
set_option linter.unusedVariables false
set_option linter.unusedSimpArgs false
set_option linter.ambiguousOpen false
set_option linter.unusedSectionVars false
set_option linter.unnecessarySimpa false
namespace Go.E
section
variable {α σ ρ:Type}
theorem z5o {c:ρ}:∀ {xs:List α} {i:Nat} {p:Nat→α→Prop} {f:Nat→α→Unit→Option (Unit ⊕ ρ)},(∀ k x,xs[k]? = some x→(p (i+k) x→f (i+k) x ()=some (.inr c))∧(¬ p (i+k) x→f (i+k) x ()=some (.inl ()))) →
  ((∃ k x,xs[k]? = some x∧p (i+k) x)→findL f i xs ()=some (.inr c))∧((∀ k x,xs[k]? = some x→¬ p (i+k) x)→findL f i xs ()=some (.inl ()))
 | [],i,p,f,_=>⟨fun ⟨k,x,h,_⟩=>by simp at h,fun _=>rfl⟩
 | x :: xs,i,p,f,h=>by
  have h0:=h 0 x rfl
  simp only [Nat.add_zero] at h0
  have ih:=z5o (c:=c) (xs:=xs) (i:=i+1) (p:=p) (f:=f) fun k y hy=>by
   have:=h (k+1) y hy
   rwa [show i+(k+1)=i+1+k by omega] at this
  by_cases hp:p i x
  ·refine⟨fun _=>by simp [findL,h0.1 hp],fun hn=>absurd hp (hn 0 x rfl)⟩
  ·simp only [findL,h0.2 hp,Option.bind_some]
   refine⟨?_,?_⟩
   ·rintro⟨k,y,hy,hpy⟩
    cases k with
    | zero=>simp at hy; subst hy; exact absurd hpy hp
    | succ k=>exact ih.1 ⟨k,y,hy,by rwa [show i+1+k=i+(k+1) by omega]⟩
   ·intro hn
    exact ih.2 fun k y hy hpy=>hn (k+1) y hy (by rwa [show i+(k+1)=i+1+k by omega])
theorem z8v {c:ρ}:∀ {n i:Nat} {p:Nat→Prop} {f:Nat→Unit→Option (Unit ⊕ ρ)},(∀ k,k < n→(p (i+k)→f (i+k) ()=some (.inr c))∧(¬ p (i+k)→f (i+k) ()=some (.inl ()))) →
  ((∃ k,k < n∧p (i+k))→findN f i n ()=some (.inr c))∧((∀ k,k < n→¬ p (i+k))→findN f i n ()=some (.inl ()))
 | 0,i,p,f,_=>⟨fun ⟨k,h,_⟩=>by omega,fun _=>rfl⟩
 | n+1,i,p,f,h=>by
  have h0:=h 0 (by omega)
  simp only [Nat.add_zero] at h0
  have ih:=z8v (c:=c) (n:=n) (i:=i+1) (p:=p) (f:=f) fun k hk=>by
   have:=h (k+1) (by omega)
   rwa [show i+(k+1)=i+1+k by omega] at this
  by_cases hp:p i
  ·refine⟨fun _=>by simp [findN,h0.1 hp],fun hn=>absurd hp (hn 0 (by omega))⟩
  ·simp only [findN,h0.2 hp,Option.bind_some]
   refine⟨?_,?_⟩
   ·rintro⟨k,hk,hpk⟩
    cases k with
    | zero=>exact absurd hpk hp
    | succ k=>exact ih.1 ⟨k,by omega,by rwa [show i+1+k=i+(k+1) by omega]⟩
   ·intro hn
    exact ih.2 fun k hk hpk=>hn (k+1) (by omega) (by rwa [show i+(k+1)=i+1+k by omega])
theorem j0J [DecidableEq α]{y:α}:∀ {xs:List α} {i:Nat} {f:Nat→α→Unit→Option (Unit ⊕ Int)},(∀ k x,(x=y→f k x ()=some (.inr (k:Int)))∧(x≠y→f k x ()=some (.inl ()))) →
  findL f i xs ()=some (if y∈xs then .inr ((i+xs.idxOf y:Nat):Int) else .inl ())
 | [],i,f,_=>by simp [findL]
 | x :: xs,i,f,h=>by
  by_cases hx:x=y
  ·subst hx; simp [findL,(h i x).1 rfl]
  ·have hx' : (x == y)=false:=by simpa using hx
   simp only [findL,(h i x).2 hx,Option.bind_some,j0J (xs:=xs) (i:=i+1) h,List.mem_cons,List.idxOf_cons,hx',cond_false]
   by_cases hy:y∈xs
   ·simp [hy]; omega
   ·have:¬ y=x:=fun e=>hx e.symm
    simp [hy,this]
theorem z5p [DecidableEq α]{y:α}{xs:List α}{f:Nat→α→Unit→Option (Unit ⊕ Int)}(h:∀ k x,(x=y→f k x ()=some (.inr (k:Int)))∧(x≠y→f k x ()=some (.inl ()))) :
  (findL f 0 xs ()).bind (onr (fun r1=>some r1) fun _=>some (-1))=some (ixF xs y):=by
 rw [j0J h]
 unfold ixF
 by_cases hy:y∈xs<;>simp [hy]
theorem j0K {P:Nat→σ→Prop}:∀ {n i:Nat} {s:σ} {f:Nat→σ→Option σ},P i s→(∀ k s,i≤k→k < i+n→P k s→∃ s',f k s=some s'∧P (k+1) s')→∃ s',eachN f i n s=some s'∧P (i+n) s'
 | 0,i,s,f,h,_=>⟨s,rfl,h⟩
 | n+1,i,s,f,h,hs=>by
  obtain⟨s1,h1,h2⟩:=hs i s (Nat.le_refl _) (by omega) h
  obtain⟨s2,h3,h4⟩:=j0K (P:=P) (n:=n) (i:=i+1) (f:=f) h2 fun k s hk hk2 hp=>hs k s (by omega) (by omega) hp
  exact⟨s2,by simp [eachN,h1,h3],by rw [show i+(n+1)=i+1+n by omega]; exact h4⟩
end
end Go.E
