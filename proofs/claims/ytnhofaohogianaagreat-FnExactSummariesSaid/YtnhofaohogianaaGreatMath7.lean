/- What those partial functions come to: plain lemmas on data; each bears its conditions in its statement. -/
import Derived.Test.YtnhofaohogianaaGreatMath6
set_option linter.unusedVariables false
set_option linter.unusedSimpArgs false
set_option linter.ambiguousOpen false
set_option linter.unusedSectionVars false
set_option linter.unnecessarySimpa false
set_option maxRecDepth 100000
set_option maxHeartbeats 4000000
open List renaming length_append→Awz,length_nil→Dpz,append_assoc→Ayz,nil_append→Dqz,getElem?_set_self→Euz,length_set→Cjz,set_set→Dnz,getElem?_of_mem→Elz,getElem?_eq_getElem→Ckz
namespace Go.Proofs.YtnhofaohogianaaGreat
open Go Go.E
theorem k3W:∀ (n:Nat),n≤1000000000000→∀ s:BA_,s.size+n≤2000000000000→∃ r,q4Y z3e ((n:Int),s)=some r∧r.size≤s.size+n:=by
 intro n
 induction n using Nat.strongRecOn with
 | _ n ih=>
  intro hn s hs
  by_cases h0:n=0
  ·subst h0
   exact⟨s,q3V (by unfold z3e;exact ifN (by decide)),by omega⟩
  ·have hd:((n:Int).tdiv 10)=((n / 10:Nat):Int):=rfl
   have hm:((n:Int).tmod 10)=((n % 10:Nat):Int):=rfl
   obtain⟨r,h1,h2⟩:=ih (n / 10) (by omega) (by omega) ((⟨#[(UInt8.ofNat ((48+((n:Int).tmod 10)) % 256).toNat)]⟩:BA_)++s) (by
    rw[ByteArray.size_append];show 1+s.size+n / 10≤_;omega)
   refine⟨r,?_,?_⟩
   ·rw[← h1,← hd]
    refine q4Q ?_
    unfold z3e
    dsimp only
    rw[ifP (by omega),q3G (by rw[hm];constructor<;>omega),q3G (by show 1+s.size≤_;omega),q3G (by rw[hd];constructor<;>omega)]
   ·rw[ByteArray.size_append] at h2
    have h2:r.size≤1+s.size+n / 10:=h2
    omega
theorem z6r {k:Int}(h0:0≤k)(h1:k≤1000000000000):∃ t,q4C k=some t:=by
 unfold q4C
 by_cases h2:k≤0
 ·rw[ifP h2];exact⟨_,rfl⟩
 ·rw[ifN h2]
  obtain⟨r,h3,h4⟩:=k3W k.toNat (by omega) ⟨#[]⟩ (by show 0+k.toNat≤_;omega)
  rw[Int.toNat_of_nonneg h0] at h3
  rw[h3,bsS]
  have h4:r.size≤0+k.toNat:=h4
  rw[q3G (by show 1+r.size≤_;omega)]
  exact⟨_,rfl⟩
def RL {α:Type}(R:Int→α→Int→Prop):Int→List α→Int→Prop
 | k,[],k'=>k=k'
 | k,y::ys,k'=>∃ m,R k y m∧RL R m ys k'
def sumC {α:Type}(c:α→Nat):List α→Nat
 | []=>0
 | x::xs=>c x+sumC c xs
theorem j4j {α:Type}[Sz α]:∀ xs:List α,sumC (fun x=>16*(1+Sz.szd x)) xs=16*szL xs
 | []=>rfl
 | x::xs=>by simp only[sumC,szL,j4j xs];omega
theorem j7m {α:Type}{c:α→Nat}{b:Nat}:∀ {xs:List α},(∀ x∈xs,c x≤b)→sumC c xs≤b*xs.length
 | [],_=>Nat.zero_le _
 | x::xs,h=>by
  have h1:=h x (by simp)
  have h2:=j7m (xs:=xs) fun y hy=>h y (by simp[hy])
  simp only[sumC,lnC,Nat.mul_add,Nat.mul_one];omega
theorem j8r {α ι:Type}{Q:ι→Prop}{R:Int→α→Int→Prop}{c:α→Nat}{P:α→Prop}{L:ι→Int×Int×List α→Option ((Int×Int×List α) ⊕ (Int×List α))}
  (hin:∀ (k:Int) (i:Nat) (a:List α) (x:α),P x→a[i]?=some x→0≤k→k+(c x:Nat)≤10000000000→i≤1000000000→∃ k' x',(∀ n,Q n→L n (k,(i:Int),a)=some (.inl (k',((i+1:Nat):Int),a.set i x')))∧k≤k'∧k'≤k+(c x:Nat)∧R k x' k')
  (hout:∀ (n:ι) (k i:Int) (a:List α),¬ i<(a.length:Int)→L n (k,i,a)=some (.inr (k,a))) :
  ∀ (xs pre:List α) (k:Int),(∀ x∈xs,P x)→0≤k→k+(sumC c xs:Nat)≤10000000000→pre.length+xs.length≤1000000000→∃ k' ys,(∀ n,Q n→q4Y (L n) (k,(pre.length:Int),pre++xs)=some (k',pre++ys))∧k≤k'∧k'≤k+(sumC c xs:Nat)∧RL R k ys k'∧ys.length=xs.length
 | [],pre,k,_,h0,h1,_=>⟨k,[],fun n _=>by rw[List.append_nil];exact q3V (hout _ _ _ _ (by omega)),Int.le_refl _,by omega,rfl,rfl⟩
 | x::xs,pre,k,hP,h0,h1,h2=>by
  have e:sumC c (x::xs)=c x+sumC c xs:=rfl
  rw[e] at h1
  obtain⟨k',x',h3,h4,h5,h6⟩:=hin k pre.length (pre++x::xs) x (hP x (by simp)) (by simp) h0 (by omega) (by omega)
  obtain⟨k2,ys,h7,h8,h10,h11,h12⟩:=j8r hin hout xs (pre++[x']) k' (fun y hy=>hP y (by simp[hy])) (by omega) (by omega) (by simp only[Awz,lnC,Dpz] at *;omega)
  refine⟨k2,x'::ys,fun n hn=>?_,by omega,by rw[e];omega,⟨k',h6,h11⟩,by rw[lnC,lnC,h12]⟩
  rw[q4Q (h3 n hn)]
  rw[List.set_append_right _ _ (Nat.le_refl _),Nat.sub_self,List.set_cons_zero]
  have h7:=h7 n hn
  rw[Awz,List.length_singleton,Ayz,Ayz] at h7
  exact h7
theorem k2c {α ι:Type}{Q:ι→Prop}{R:Int→α→Int→Prop}{c:α→Nat}{P:α→Prop}{L:ι→Int×Int×List α→Option ((Int×Int×List α) ⊕ (Int×List α))}
  (hin:∀ (k:Int) (i:Nat) (a:List α) (x:α),P x→a[i]?=some x→0≤k→k+(c x:Nat)≤10000000000→i≤1000000000→∃ k' x',(∀ n,Q n→L n (k,(i:Int),a)=some (.inl (k',((i+1:Nat):Int),a.set i x')))∧k≤k'∧k'≤k+(c x:Nat)∧R k x' k')
  (hout:∀ (n:ι) (k i:Int) (a:List α),¬ i<(a.length:Int)→L n (k,i,a)=some (.inr (k,a))) (xs:List α) {k:Int} (hP:∀ x∈xs,P x) (h0:0≤k) (h1:k+(sumC c xs:Nat)≤10000000000) (h2:xs.length≤1000000000) :
  ∃ k' ys,(∀ n,Q n→((q4Y (L n) (k,0,xs)).bind fun (s1,s2)=>some (s1,s2))=some (k',ys))∧k≤k'∧k'≤k+(sumC c xs:Nat)∧RL R k ys k'∧ys.length=xs.length:=by
 obtain⟨k',ys,h3,h4⟩:=j8r hin hout xs [] k hP h0 h1 (by simp only[Dpz];omega)
 refine⟨k',ys,fun n hn=>?_,h4⟩
 have h3:=h3 n hn
 simp only[Dpz,Dqz] at h3
 rw[show ((0:Nat):Int)=0 from rfl] at h3
 rw[h3];rfl
theorem j5P {α:Type}{R:Int→α→Int→Prop}{c:α→Nat}{P:α→Prop}{L:Int×Int×List α→Option ((Int×Int×List α) ⊕ (Int×List α))}
  (hin:∀ (k:Int) (i:Nat) (a:List α) (x:α),P x→a[i]?=some x→0≤k→k+(c x:Nat)≤10000000000→i≤1000000000→∃ k' x',L (k,(i:Int),a)=some (.inl (k',((i+1:Nat):Int),a.set i x'))∧k≤k'∧k'≤k+(c x:Nat)∧R k x' k')
  (hout:∀ (k i:Int) (a:List α),¬ i<(a.length:Int)→L (k,i,a)=some (.inr (k,a))) (xs:List α) {k:Int} (hP:∀ x∈xs,P x) (h0:0≤k) (h1:k+(sumC c xs:Nat)≤10000000000) (h2:xs.length≤1000000000) :
  ∃ k' ys,((q4Y L (k,0,xs)).bind fun (s1,s2)=>some (s1,s2))=some (k',ys)∧k≤k'∧k'≤k+(sumC c xs:Nat)∧RL R k ys k'∧ys.length=xs.length:=by
 obtain⟨k',ys,e1,e2⟩:=k2c (ι:=Unit) (Q:=fun _=>True) (L:=fun _=>L) (fun k i a x h1 h2 h3 h4 h5=>by
  obtain⟨k',x',e1,e2⟩:=hin k i a x h1 h2 h3 h4 h5
  exact⟨k',x',fun _ _=>e1,e2⟩) (fun _=>hout) xs hP h0 h1 h2
 exact⟨k',ys,e1 () trivial,e2⟩
theorem j5Q {α:Type}[Sz α]{L:Int×Int×List α→Option ((Int×Int×List α) ⊕ (Int×List α))}
  (hin:∀ (k:Int) (i:Nat) (a:List α) (x:α),a[i]?=some x→0≤k→k+16*(1+Sz.szd x:Nat)≤10000000000→i≤1000000000→1+Sz.szd x≤1048576→∃ k' x',L (k,(i:Int),a)=some (.inl (k',((i+1:Nat):Int),a.set i x'))∧k≤k'∧k'≤k+16*(1+Sz.szd x:Nat))
  (hout:∀ (k i:Int) (a:List α),¬ i<(a.length:Int)→L (k,i,a)=some (.inr (k,a))) (xs:List α) {k:Int} (h0:0≤k) (h1:k+16*(szL xs:Nat)≤10000000000) (h2:szL xs≤1048576) :
  ∃ k' ys,((q4Y L (k,0,xs)).bind fun (s1,s2)=>some (s1,s2))=some (k',ys)∧k≤k'∧k'≤k+16*(szL xs:Nat):=by
 have hs:=j4j xs
 have hl:=q4P xs
 have hP:∀ x∈xs,1+Sz.szd x≤1048576:=by
  clear h1 hs hl
  induction xs with
  | nil=>intro x hx;cases hx
  | cons y ys ih=>
   simp only[szL] at h2
   intro x hx
   rcases List.mem_cons.1 hx with rfl|hx
   ·omega
   ·exact ih (by omega) x hx
 obtain⟨k',ys,h3,h4,h5,_⟩:=j5P (R:=fun _ _ _=>True) (c:=fun x=>16*(1+Sz.szd x)) (P:=fun x=>1+Sz.szd x≤1048576) (L:=L) (fun k i a x hp hx h0 h1 hi=>by
  obtain⟨k',x',e1,e2,e3⟩:=hin k i a x hx h0 (by omega) hi hp
  exact⟨k',x',e1,e2,by omega,trivial⟩) hout xs hP h0 (by omega) (by omega)
 exact⟨k',ys,h3,h4,by omega⟩
def RS (k:Int)(t:BA_)(k' : Int):Prop:=q4C k=some t∧k'=k+1
theorem k6O (k:Int)(i:Nat)(a:List BA_)(x:BA_)(hx:a[i]?=some x)(h0:0≤k)(h1:k+1≤10000000000)(hi:i≤1000000000):∃ x',q7e (k,(i:Int),a)=some (.inl (k+1,((i+1:Nat):Int),a.set i x'))∧RS k x' (k+1):=by
 obtain⟨t,ht⟩:=z6r h0 (by omega)
 have hl:=(List.getElem?_eq_some_iff.1 hx).1
 refine⟨t,?_,ht,rfl⟩
 unfold q7e
 dsimp only
 rw[ifP (by omega),ht,bsS,q3G (by omega),tnC,hx,bsS,q3G (by constructor<;>omega),q3G (by constructor<;>omega)]
 rfl
theorem k5X (k i:Int)(a:List BA_)(h:¬ i<(a.length:Int)):q7e (k,i,a)=some (.inr (k,a)):=by unfold q7e;dsimp only;exact ifN h
theorem j4k {α:Type}:∀ xs:List α,sumC (fun _=>1) xs=xs.length
 | []=>rfl
 | x::xs=>by simp only[sumC,j4k xs,lnC];omega
theorem k6P (xs:List BA_){k:Int}(h0:0≤k)(h1:k+xs.length≤10000000000)(h2:xs.length≤1000000000):∃ k' ys,q9b xs k=some (k',ys)∧k≤k'∧k'≤k+xs.length∧RL RS k ys k'∧ys.length=xs.length:=by
 have hs:=j4k xs
 obtain⟨k',ys,e1,e2,e3,e4⟩:=j5P (R:=RS) (c:=fun _=>1) (P:=fun _=>True) (L:=q7e) (fun k i a x _ hx h0 h1 hi=>by
  obtain⟨x',e1,e2⟩:=k6O k i a x hx h0 (by omega) hi
  exact⟨k+1,x',e1,by omega,by omega,e2⟩) k5X xs (fun _ _=>trivial) h0 (by rw[hs];exact h1) h2
 rw[hs] at e3
 exact⟨k',ys,e1,e2,e3,e4⟩
theorem k6Q (xs:List BA_){k:Int}(h0:0≤k)(h1:k+16*(szL xs:Nat)≤10000000000)(h2:szL xs≤1048576):∃ k' ys,q9b xs k=some (k',ys)∧k≤k'∧k'≤k+16*(szL xs:Nat):=by
 have hl:=q4P xs
 obtain⟨k',ys,e1,e2,e3,_⟩:=k6P xs h0 (by omega) (by omega)
 exact⟨k',ys,e1,e2,by omega⟩
theorem k5Y (xs:List At_){k:Int}(h0:0≤k)(h1:k+16*(szL xs:Nat)≤10000000000)(h2:szL xs≤1048576):∃ k' ys,q8z xs k=some (k',ys)∧k≤k'∧k'≤k+16*(szL xs:Nat):=
 j5Q (L:=q7Z) (fun k i a x hx h0 h1 hi _=>by
  obtain⟨t,ht⟩:=z6r h0 (by omega)
  have hl:=(List.getElem?_eq_some_iff.1 hx).1
  have hI:∀ m:Int,k≤m→m≤k+16→I64 m:=fun m _ _=>by constructor<;>omega
  have hI2:I64 ((i:Int)+1):=by constructor<;>omega
  have hi0:(0:Int)≤(i:Int):=by omega
  refine⟨k+1+1+1+1,⟨t,k+1,k+1+1,decide (((k+1+1+1).tmod 3)=0)⟩,?_,by omega,by omega⟩
  unfold q7Z
  dsimp only
  rw[ifP (by omega),ht,bsS,q3G hi0,tnC,hx,bsS,q3G (hI _ (by omega) (by omega)),q3G hi0,Euz hl,bsS,q3G (hI _ (by omega) (by omega)),q3G hi0,Euz (by rw[Cjz];exact hl),bsS,q3G (hI _ (by omega) (by omega)),q3G hi0,Euz (by rw[Cjz,Cjz];exact hl),bsS,q3G (hI _ (by omega) (by omega)),q3G hI2,Dnz,Dnz,Dnz]
  rfl) (fun k i a h=>by unfold q7Z;dsimp only;exact ifN h) xs h0 h1 h2
theorem k6R (xs:List Symbol){k:Int}(h0:0≤k)(h1:k+16*(szL xs:Nat)≤10000000000)(h2:szL xs≤1048576):∃ k' ys,z1g xs k=some (k',ys)∧k≤k'∧k'≤k+16*(szL xs:Nat):=
 j5Q (L:=z0j) (fun k i a x hx h0 h1 hi h3=>by
  obtain⟨t,ht⟩:=z6r h0 (by omega)
  have hl:=(List.getElem?_eq_some_iff.1 hx).1
  have hI:∀ m:Int,k≤m→m≤k+16→I64 m:=fun m _ _=>by constructor<;>omega
  have hI2:I64 ((i:Int)+1):=by constructor<;>omega
  have hi0:(0:Int)≤(i:Int):=by omega
  rw[z8T] at h1 h3 ⊢
  obtain⟨k',z,e1,e2,e3⟩:=k5Y x.as_ (k:=k+1) (by omega) (by omega) (by omega)
  refine⟨k',⟨t,z⟩,?_,by omega,by omega⟩
  unfold z0j
  dsimp only
  rw[ifP (by omega),ht,bsS,q3G hi0,tnC,hx,bsS,q3G (hI _ (by omega) (by omega)),e1,bsS]
  dsimp only
  rw[q3G hI2]
  rfl) (fun k i a h=>by unfold z0j;dsimp only;exact ifN h) xs h0 h1 h2
theorem k3X:∀ (N:Nat) (xs:List Expr),fuEs xs≤N→∀ {k:Int},0≤k→k+16*(szL xs:Nat)≤10000000000→szL xs≤1048576→∃ k' ys,(∀ n,N≤n→z1u (n+1) xs k=some (k',ys))∧k≤k'∧k'≤k+16*(szL xs:Nat):=by
 intro N
 induction N with
 | zero=>
  intro xs hn k h0 h1 h2
  cases xs with
  | nil=>exact⟨k,[],fun n _=>by show z1t _ _ _=_;unfold z1t;rw[q3V (r:=(k,[])) (by unfold z0k;dsimp only;exact ifN (by simp))];rfl,by omega,by omega⟩
  | cons x xs=>have:=z3n (x:=x) (l:=x::xs) (by simp);rw[z1E] at this;omega
 | succ N ih=>
  intro xs hn k h0 h1 h2
  have hq:∀ x∈xs,1+Sz.szd x≤1048576:=by
   clear h1 hn
   induction xs with
   | nil=>intro x hx;cases hx
   | cons y ys ih=>
    simp only[szL] at h2
    intro x hx
    rcases List.mem_cons.1 hx with rfl|hx
    ·omega
    ·exact ih (by omega) x hx
  have hf:∀ x∈xs,fuEs x.Args≤N:=fun x hx=>by have:=z3n hx;rw[z1E] at this;omega
  obtain⟨k',ys,e1,e2,e3,_⟩:=k2c (ι:=Nat) (Q:=fun n=>N+1≤n) (R:=fun _ _ _=>True) (c:=fun x:Expr=>16*(1+Sz.szd x)) (P:=fun x=>fuEs x.Args≤N∧1+Sz.szd x≤1048576) (L:=fun n=>z0k (z1u n)) (fun k i a x hp hx h0 h1 hi=>by
    have hl:=(List.getElem?_eq_some_iff.1 hx).1
    have hI:∀ m:Int,k≤m→m≤k+16→I64 m:=fun m _ _=>by constructor<;>omega
    have hI2:I64 ((i:Int)+1):=by constructor<;>omega
    have hi0:(0:Int)≤(i:Int):=by omega
    obtain⟨hp,hq⟩:=hp
    rw[q7A] at h1 hq ⊢
    obtain⟨t1,ht1⟩:=z6r (k:=k+1+1+1+1) (by omega) (by omega)
    obtain⟨t2,ht2⟩:=z6r (k:=k+1+1+1+1+1) (by omega) (by omega)
    obtain⟨k1,z,e1,e2,e3⟩:=ih x.Args hp (k:=k+1+1+1+1+1+1) (by omega) (by omega) (by omega)
    refine⟨k1,⟨k,k+1,k+1+1,k+1+1+1,t1,t2,z⟩,fun n hn=>?_,by omega,by omega,trivial⟩
    obtain⟨j,rfl⟩:∃ j,n=j+1:=⟨n-1,by omega⟩
    have e1:=e1 j (by omega)
    unfold z0k
    dsimp only
    rw[ifP (by omega),q3G hi0,tnC,hx,bsS,q3G (hI _ (by omega) (by omega)),q3G (hI _ (by omega) (by omega)),q3G (hI _ (by omega) (by omega)),q3G (hI _ (by omega) (by omega)),ht1,bsS,q3G (hI _ (by omega) (by omega)),ht2,bsS,q3G (hI _ (by omega) (by omega)),e1,bsS]
    dsimp only
    rw[q3G hI2]
    rfl) (fun n k i a h=>by unfold z0k;dsimp only;exact ifN h) xs (k:=k) (fun x hx=>⟨hf x hx,hq x hx⟩) h0 (by rw[j4j];omega) (by have:=q4P xs;omega)
  rw[j4j] at e3
  exact⟨k',ys,fun n hn=>e1 n hn,e2,by omega⟩
theorem j7n (xs:List Expr){k:Int}(h0:0≤k)(h1:k+16*(szL xs:Nat)≤10000000000)(h2:szL xs≤1048576):∃ k' ys,z1v xs k=some (k',ys)∧k≤k'∧k'≤k+16*(szL xs:Nat):=by
 obtain⟨k',ys,e1,e2,e3⟩:=k3X (fuEs xs) xs (Nat.le_refl _) h0 h1 h2
 refine⟨k',ys,q8H (fuEs xs+1) fun n hn=>?_,e2,e3⟩
 obtain⟨j,rfl⟩:∃ j,n=j+1:=⟨n-1,by omega⟩
 exact e1 j (by omega)
theorem k6S (xs:List Eqn){k:Int}(h0:0≤k)(h1:k+16*(szL xs:Nat)≤10000000000)(h2:szL xs≤1048576):∃ k' ys,q9h xs k=some (k',ys)∧k≤k'∧k'≤k+16*(szL xs:Nat):=
 j5Q (L:=q8A) (fun k i a x hx h0 h1 hi h3=>by
  have hl:=(List.getElem?_eq_some_iff.1 hx).1
  have hI:∀ m:Int,k≤m→m≤k+16→I64 m:=fun m _ _=>by constructor<;>omega
  have hI2:I64 ((i:Int)+1):=by constructor<;>omega
  have hi0:(0:Int)≤(i:Int):=by omega
  rw[z3m] at h1 h3 ⊢
  obtain⟨t1,ht1⟩:=z6r (k:=k+1) (by omega) (by omega)
  obtain⟨t2,ht2⟩:=z6r (k:=k+1+1+1+1+1+1) (by omega) (by omega)
  obtain⟨t3,ht3⟩:=z6r (k:=k+1+1+1+1+1+1+1) (by omega) (by omega)
  obtain⟨k',z,e1,e2,e3⟩:=j7n x.Expr.Args (k:=k+1+1+1+1+1+1+1+1) (by omega) (by omega) (by omega)
  refine⟨k',⟨⟨k,t1⟩,⟨k+1+1,k+1+1+1,k+1+1+1+1,k+1+1+1+1+1,t2,t3,z⟩⟩,?_,by omega,by omega⟩
  unfold q8A
  dsimp only
  rw[ifP (by omega),q3G hi0,tnC,hx,bsS,q3G (hI _ (by omega) (by omega)),ht1,bsS,q3G (hI _ (by omega) (by omega)),q3G (hI _ (by omega) (by omega)),q3G (hI _ (by omega) (by omega)),q3G (hI _ (by omega) (by omega)),q3G (hI _ (by omega) (by omega)),ht2,bsS,q3G (hI _ (by omega) (by omega)),ht3,bsS,q3G (hI _ (by omega) (by omega)),e1,bsS]
  dsimp only
  rw[q3G hI2]
  rfl) (fun k i a h=>by unfold q8A;dsimp only;exact ifN h) xs h0 h1 h2
theorem k6T (xs:List Cn){k:Int}(h0:0≤k)(h1:k+16*(szL xs:Nat)≤10000000000)(h2:szL xs≤1048576):∃ k' ys,q6W xs k=some (k',ys)∧k≤k'∧k'≤k+16*(szL xs:Nat):=
 j5Q (L:=q6N) (fun k i a x hx h0 h1 hi h3=>by
  have hl:=(List.getElem?_eq_some_iff.1 hx).1
  have hI:∀ m:Int,k≤m→m≤k+16→I64 m:=fun m _ _=>by constructor<;>omega
  have hI2:I64 ((i:Int)+1):=by constructor<;>omega
  have hi0:(0:Int)≤(i:Int):=by omega
  rw[q9j] at h1 h3 ⊢
  obtain⟨t0,ht0⟩:=z6r (k:=k) (by omega) (by omega)
  obtain⟨t1,ht1⟩:=z6r (k:=k+1) (by omega) (by omega)
  obtain⟨t2,ht2⟩:=z6r (k:=k+1+1+1+1+1+1) (by omega) (by omega)
  obtain⟨t3,ht3⟩:=z6r (k:=k+1+1+1+1+1+1+1) (by omega) (by omega)
  obtain⟨k',z,e1,e2,e3⟩:=j7n x.tt_.Args (k:=k+1+1+1+1+1+1+1+1) (by omega) (by omega) (by omega)
  obtain⟨t4,ht4⟩:=z6r (k:=k'+1+1+1+1) (by omega) (by omega)
  obtain⟨t5,ht5⟩:=z6r (k:=k'+1+1+1+1+1) (by omega) (by omega)
  obtain⟨k2,z2,f1,f2,f3⟩:=j7n x.Value.Args (k:=k'+1+1+1+1+1+1) (by omega) (by omega) (by omega)
  have hI' : ∀ m:Int,k'≤m→m≤k'+16→I64 m:=fun m _ _=>by constructor<;>omega
  refine⟨k2,⟨t0,t1,⟨k+1+1,k+1+1+1,k+1+1+1+1,k+1+1+1+1+1,t2,t3,z⟩,⟨k',k'+1,k'+1+1,k'+1+1+1,t4,t5,z2⟩⟩,?_,by omega,by omega⟩
  unfold q6N
  dsimp only
  rw[ifP (by omega),ht0,bsS,q3G hi0,tnC,hx,bsS,q3G (hI _ (by omega) (by omega)),ht1,bsS,q3G (hI _ (by omega) (by omega)),q3G (hI _ (by omega) (by omega)),q3G (hI _ (by omega) (by omega)),q3G (hI _ (by omega) (by omega)),q3G (hI _ (by omega) (by omega)),ht2,bsS,q3G (hI _ (by omega) (by omega)),ht3,bsS,q3G (hI _ (by omega) (by omega)),e1,bsS]
  dsimp only
  rw[q3G (hI' _ (by omega) (by omega)),q3G (hI' _ (by omega) (by omega)),q3G (hI' _ (by omega) (by omega)),q3G (hI' _ (by omega) (by omega)),ht4,bsS,q3G (hI' _ (by omega) (by omega)),ht5,bsS,q3G (hI' _ (by omega) (by omega)),f1,bsS]
  dsimp only
  rw[q3G hI2]
  rfl) (fun k i a h=>by unfold q6N;dsimp only;exact ifN h) xs h0 h1 h2
theorem k5Z (xs:List Rule){k:Int}(h0:0≤k)(h1:k+16*(szL xs:Nat)≤10000000000)(h2:szL xs≤1048576):∃ k' ys,z3f xs k=some (k',ys)∧k≤k'∧k'≤k+16*(szL xs:Nat):=
 j5Q (L:=z1N) (fun k i a x hx h0 h1 hi h3=>by
  have hl:=(List.getElem?_eq_some_iff.1 hx).1
  have hI2:I64 ((i:Int)+1):=by constructor<;>omega
  have hi0:(0:Int)≤(i:Int):=by omega
  rw[z4K] at h1 h3 ⊢
  obtain⟨t0,ht0⟩:=z6r (k:=k) (by omega) (by omega)
  obtain⟨t1,ht1⟩:=z6r (k:=k+1) (by omega) (by omega)
  obtain⟨k1,z1,e1,e2,e3⟩:=k6Q x.rt_ (k:=k+1+1) (by omega) (by omega) (by omega)
  obtain⟨k2,z2,f1,f2,f3⟩:=k6S x.es_ (k:=k1+1) (by omega) (by omega) (by omega)
  obtain⟨k3,z3,g1,g2,g3⟩:=k6T x.cs_ (k:=k2) (by omega) (by omega) (by omega)
  refine⟨k3,⟨t0,t1,z1,decide ((k1.tmod 3)=0),z2,z3⟩,?_,by omega,by omega⟩
  unfold z1N
  dsimp only
  rw[ifP (by omega),ht0,bsS,q3G hi0,tnC,hx,bsS,q3G (by constructor<;>omega),ht1,bsS,q3G (by constructor<;>omega),e1,bsS]
  dsimp only
  rw[q3G (by constructor<;>omega),f1,bsS]
  dsimp only
  rw[g1,bsS]
  dsimp only
  rw[q3G hI2]
  rfl) (fun k i a h=>by unfold z1N;dsimp only;exact ifN h) xs h0 h1 h2
theorem k6a {g:Gm_}(h:Sz.szd g≤1048576):∃ k' z1 z2,q9c g 1=some (k',z1,z2)∧0≤k':=by
 rw[z0M] at h
 obtain⟨k1,z1,e1,e2,e3⟩:=k6R g.ss_ (k:=1) (by omega) (by omega) (by omega)
 obtain⟨k2,z2,f1,f2,f3⟩:=k5Z g.rs_ (k:=k1) (by omega) (by omega) (by omega)
 refine⟨k2,z1,z2,?_,by omega⟩
 unfold q9c
 rw[e1,bsS]
 dsimp only
 rw[f1];rfl
theorem j9F {α:Type}{R:Int→α→Int→Prop}(hR:∀ k x m,R k x m→k≤m):∀ (xs:List α) (k k' : Int),RL R k xs k'→k≤k'
 | [],k,k',h=>by rw[show k=k' from h];exact Int.le_refl _
 | x::xs,k,k',⟨m,h1,h2⟩=>Int.le_trans (hR _ _ _ h1) (j9F hR xs m k' h2)
theorem j4l {α:Type}{R:Int→α→Int→Prop}{L:Nat→α→Int→Option (Int ⊕ Int)}(hR:∀ k x m,R k x m→k≤m)(hL:∀ (i:Nat) (x:α) (k m:Int),R k x m→0≤k→m≤10000000000→L i x k=some (.inl m)):∀ (xs:List α) (k k' : Int) (i:Nat),RL R k xs k'→0≤k→k'≤10000000000→findL L i xs k=some (.inl k')
 | [],k,k',i,h,_,_=>by rw[show k=k' from h];rfl
 | x::xs,k,k',i,⟨m,h1,h2⟩,h3,h4=>by
  have h5:=j9F hR xs m k' h2
  have h6:=hR _ _ _ h1
  show (L i x k).bind _=_
  rw[hL i x k m h1 h3 (by omega),bsS]
  exact j4l hR hL xs m k' (i+1) h2 (by omega) h4
def RI (k:Int)(n:Int)(m:Int):Prop:=n=k∧m=k+1
theorem k6b (k:Int)(x:Int)(m:Int)(h:RI k x m):k≤m:=by have:=h.2;omega
theorem k6c (xs:List Int){k:Int}(h0:0≤k)(h1:k+xs.length≤10000000000)(h2:xs.length≤1000000000):∃ k' ys,z4H xs k=some (k',ys)∧k≤k'∧k'≤k+xs.length∧RL RI k ys k'∧ys.length=xs.length:=by
 have hs:=j4k xs
 obtain⟨k',ys,e1,e2,e3,e4⟩:=j5P (R:=RI) (c:=fun _=>1) (P:=fun _=>True) (L:=z3g) (fun k i a x _ hx h0 h1 hi=>by
  have hl:=(List.getElem?_eq_some_iff.1 hx).1
  refine⟨k+1,k,?_,by omega,by omega,rfl,rfl⟩
  unfold z3g
  dsimp only
  rw[ifP (by omega),q3G (by omega),tnC,hx,bsS,q3G (by constructor<;>omega),q3G (by constructor<;>omega)]
  rfl) (fun k i a h=>by unfold z3g;dsimp only;exact ifN h) xs (fun _ _=>trivial) h0 (by rw[hs];exact h1) h2
 rw[hs] at e3
 exact⟨k',ys,e1,e2,e3,e4⟩
theorem k6d {xs:List Int}{k k' : Int}(h:RL RI k xs k')(h0:0≤k)(h1:k'≤10000000000):z2A xs k=some k':=by
 unfold z2A
 rw[j4l k6b (fun i x k m h h0 h1=>by
  unfold z9q
  obtain⟨h2,h3⟩:=h
  rw[ifP h2,q3G (by constructor<;>omega),h3]) xs k k' 0 h h0 h1];rfl
def RR (k:Int)(x:Rl_)(m:Int):Prop:=x.N=k∧RL RI (k+1) x.Rows m
theorem k6e (k:Int)(x:Rl_)(m:Int)(h:RR k x m):k≤m:=by have:=j9F k6b _ _ _ h.2;omega
theorem k6f (xs:List Rl_){k:Int}(hP:∀ x∈xs,x.Rows.length≤16)(h0:0≤k)(h1:k+17*xs.length≤10000000000)(h2:xs.length≤1000000):∃ k' ys,q9i xs k=some (k',ys)∧k≤k'∧k'≤k+17*xs.length∧RL RR k ys k':=by
 have hs:=j7m (c:=fun x:Rl_=>1+x.Rows.length) (b:=17) (xs:=xs) fun x hx=>by have:=hP x hx;omega
 obtain⟨k',ys,e1,e2,e3,e4,_⟩:=j5P (R:=RR) (c:=fun x:Rl_=>1+x.Rows.length) (P:=fun x=>x.Rows.length≤16) (L:=q8B) (fun k i a x hp hx h0 h1 hi=>by
  have hl:=(List.getElem?_eq_some_iff.1 hx).1
  obtain⟨k1,z,e1,e2,e3,e4,_⟩:=k6c x.Rows (k:=k+1) (by omega) (by omega) (by omega)
  refine⟨k1,⟨k,z⟩,?_,by omega,by omega,rfl,e4⟩
  unfold q8B
  dsimp only
  rw[ifP (by omega),q3G (by omega),tnC,hx,bsS,q3G (by constructor<;>omega),e1,bsS]
  dsimp only
  rw[q3G (by constructor<;>omega)]
  rfl) (fun k i a h=>by unfold q8B;dsimp only;exact ifN h) xs hP h0 (by omega) (by omega)
 exact⟨k',ys,e1,e2,by omega,e4⟩
theorem k6g {xs:List Rl_}{k k' : Int}(h:RL RR k xs k')(h0:0≤k)(h1:k'≤10000000000):q7I xs k=some k':=by
 unfold q7I
 rw[j4l k6e (fun i x k m h h0 h1=>by
  unfold z4c
  obtain⟨h2,h3⟩:=h
  have h4:=j9F k6b _ _ _ h3
  rw[ifP h2,q3G (by constructor<;>omega),k6d h3 (by omega) h1,bsS,ifN (by omega)]) xs k k' 0 h h0 h1];rfl
theorem k3Y (xs:List Int):z7X xs xs=some true:=z3F (f:=z8C xs) fun k x h=>by unfold z8C;rw[h,bsS,ifP rfl]
theorem k6h (x:Rl_):q8x x x=some true:=by simp[q8x,k3Y]
theorem k3Z (xs:List Rl_):q9a xs xs=some true:=z3F (f:=z5E xs) (z9y (g:=q8x) fun x _=>k6h x)
theorem k4a (xs:List (List Rl_)){k:Int}(hP:∀ x∈xs,(∀ y∈x,y.Rows.length≤16)∧x.length≤16)(h0:0≤k)(h1:k+272*xs.length≤10000000000)(h2:xs.length≤1000000):∃ k' ys,q8C xs k=some (k',ys)∧k≤k'∧k'≤k+272*xs.length∧RL (RL RR) k ys k':=by
 have hs:=j7m (c:=fun x:List Rl_=>17*x.length) (b:=272) (xs:=xs) fun x hx=>by have:=(hP x hx).2;omega
 obtain⟨k',ys,e1,e2,e3,e4,_⟩:=j5P (R:=RL RR) (c:=fun x:List Rl_=>17*x.length) (P:=fun x=>(∀ y∈x,y.Rows.length≤16)∧x.length≤16) (L:=q8a) (fun k i a x hp hx h0 h1 hi=>by
  have hl:=(List.getElem?_eq_some_iff.1 hx).1
  obtain⟨k1,z,e1,e2,e3,e4⟩:=k6f x (k:=k) hp.1 h0 (by omega) (by have:=hp.2;omega)
  refine⟨k1,z,?_,e2,by omega,e4⟩
  unfold q8a
  dsimp only
  rw[ifP (by omega),q3G (by omega),tnC,hx,bsS,e1,bsS]
  dsimp only
  rw[q3G (by constructor<;>omega)]
  rfl) (fun k i a h=>by unfold q8a;dsimp only;exact ifN h) xs hP h0 (by omega) (by omega)
 exact⟨k',ys,e1,e2,by omega,e4⟩
theorem k4b {xs:List (List Rl_)}{k k' : Int}(h:RL (RL RR) k xs k')(h0:0≤k)(h1:k'≤10000000000):q6q xs k=some k':=by
 unfold q6q
 rw[j4l (R:=RL RR) (fun k x m h=>j9F k6e x k m h) (fun i x k m h h0 h1=>by
  unfold z3h
  have h4:=j9F k6e _ _ _ h
  rw[k6g h h0 h1,bsS,ifN (by omega)]) xs k k' 0 h h0 h1];rfl
theorem k2d (xs:List (List Rl_)):q7d xs xs=some true:=z3F (f:=z4T xs) (z9y (g:=q9a) fun x _=>k3Z x)
theorem k2e {g:Gm_}(hS:Shape g){F:List (List Fo_)}(hA:InvS g (sms F)):eachL z4F 0 F ([]:List (List Rl_))=some (sms F):=by
 have hl:F.length≤4:=by
  have h1:=hA.1
  have h2:=hS.syms.2
  unfold sms at h1
  rw[lnM] at h1
  omega
 rw[z8p (g:=fun l:List Fo_=>l.map Fo_.summary) (B:=1048576) F 0 [] (fun k x s hx hs=>by
  obtain⟨j,hj⟩:=Elz hx
  have hlt:=(List.getElem?_eq_some_iff.1 hj).1
  have hsm:(sms F)[j]?=some (x.map Fo_.summary):=by rw[j7f,hj];rfl
  have hlt2:=(List.getElem?_eq_some_iff.1 hsm).1
  obtain⟨y,hy⟩:∃ y,g.ss_[j]?=some y:=⟨_,Ckz (by rw[← hA.1];exact hlt2)⟩
  have hx16:(x.map Fo_.summary).length≤16:=z2L (hS.plain y.Name) (hA.2 j y _ hy hsm).1 (hA.2 j y _ hy hsm).2
  rw[lnM] at hx16
  unfold z4F
  rw[z8p (g:=Fo_.summary) (B:=1048576) x 0 [] (fun k x s hx hs=>by
   unfold z7W
   rw[q3G (by constructor<;>omega)]) (by rw[Dpz];omega),bsS,q3G (by constructor<;>omega),Dqz]) (by rw[Dpz];omega),Dqz]
 rfl
theorem k2f {g:Gm_}(h0:Sz.szd g≤1048576):∃ q b,q9u g=some (q,b)∧z1m g=some (q,b)∧q.length≤4∧∀ x∈q,(∀ y∈x,y.Rows.length≤16)∧x.length≤16:=by
 unfold q9u z1m
 rw[k3u h0,k3v h0]
 simp only[bsS]
 cases hg:k1s g with
 | false=>exact⟨[],false,rfl,rfl,by simp,fun x hx=>(nomatch hx)⟩
 | true=>
  have hS:=j9x hg
  obtain⟨F,h1,h2,h3⟩:=k1R h0 hS
  have hs:=hS.syms.2
  refine⟨sms F,true,?_,?_,by rw[h3.1];exact hs,fun x hx=>?_⟩
  ·rw[ifP rfl,h1,bsS,k2e hS h3];rfl
  ·rw[ifP rfl,q3G (by refine⟨?_,?_,?_⟩<;>omega),h2];rfl
  ·obtain⟨j,hj⟩:=Elz hx
   have hlt:=(List.getElem?_eq_some_iff.1 hj).1
   obtain⟨y,hy⟩:∃ y,g.ss_[j]?=some y:=⟨_,Ckz (by rw[← h3.1];exact hlt)⟩
   have hI:=h3.2 j y x hy hj
   exact⟨fun z hz=>(hI.2 z hz).1.len,z2L (hS.plain y.Name) hI.1 hI.2⟩
theorem j4m {g:Gm_}(h:A.boCs (Gm_.l g)):q7u g=some true:=by
 unfold q7u
 rw[k3G h 1048576 (by omega) (by omega),bsS]
 by_cases h1:(Sz.szd g:Int)≤1048576
 ·have h2:Sz.szd g≤1048576:=by omega
  obtain⟨q,b,e1,e2,hl,hq⟩:=k2f h2
  obtain⟨k',z1,z2,e3,e4⟩:=k6a h2
  obtain⟨k2,z3,f1,f2,f3,f4⟩:=k4a q (k:=1) hq (by omega) (by omega) (by omega)
  have f6:=k4b f4 (by omega) (by omega)
  rw[ifP h1,ifN (by omega)]
  simp only[k3N h2,e1,e2,k2d,k3V,e3,f1,f6,bsS,reduceIte,ifN (show ¬ k'<0 by omega),ifN (show ¬ k2<0 by omega),decide_true,Bool.not_true,Bool.false_eq_true]
 ·rw[ifN h1,ifP (by omega)]
end Go.Proofs.YtnhofaohogianaaGreat
