/- What those partial functions come to: plain lemmas on data; each bears its conditions in its statement. -/
import Derived.Test.YtipikecbeganoaaGreatMath7
set_option linter.unusedVariables false
set_option linter.unusedSimpArgs false
set_option linter.ambiguousOpen false
set_option linter.unusedSectionVars false
set_option linter.unnecessarySimpa false
set_option maxRecDepth 100000
set_option maxHeartbeats 4000000
namespace Go.Proofs.YtipikecbeganoaaGreat
open Go Go.E
theorem k7f:∀ (n:Nat),n≤1000000000000→∀ s:ByteArray,s.size+n≤2000000000000→∃ r,q5g z4e ((n:Int),s)=some r∧r.size≤s.size+n:=by
 intro n
 induction n using Nat.strongRecOn with
 | _ n ih=>
  intro hn s hs
  by_cases h0:n=0
  ·subst h0
   exact⟨s,q3U (by unfold z4e;exact ifN (by decide)),by omega⟩
  ·have hd:((n:Int).tdiv 10)=((n / 10:Nat):Int):=rfl
   have hm:((n:Int).tmod 10)=((n % 10:Nat):Int):=rfl
   obtain⟨r,h1,h2⟩:=ih (n / 10) (by omega) (by omega) ((⟨#[(UInt8.ofNat ((48+((n:Int).tmod 10)) % 256).toNat)]⟩:ByteArray)++s) (by
    rw[ByteArray.size_append];show 1+s.size+n / 10≤_;omega)
   refine⟨r,?_,?_⟩
   ·rw[← h1,← hd]
    refine q4Q ?_
    unfold z4e
    dsimp only
    rw[ifP (by omega),q3N (by rw[hm];constructor<;>omega),q3N (by show 1+s.size≤_;omega),q3N (by rw[hd];constructor<;>omega)]
   ·rw[ByteArray.size_append] at h2
    have h2:r.size≤1+s.size+n / 10:=h2
    omega
theorem z7q {k:Int}(h0:0≤k)(h1:k≤1000000000000):∃ t,q4t k=some t:=by
 unfold q4t
 by_cases h2:k≤0
 ·rw[ifP h2];exact⟨_,rfl⟩
 ·rw[ifN h2]
  obtain⟨r,h3,h4⟩:=k7f k.toNat (by omega) ⟨#[]⟩ (by show 0+k.toNat≤_;omega)
  rw[Int.toNat_of_nonneg h0] at h3
  rw[h3,bsS]
  have h4:r.size≤0+k.toNat:=h4
  rw[q3N (by show 1+r.size≤_;omega)]
  exact⟨_,rfl⟩
def RL {α:Type}(R:Int→α→Int→Prop):Int→List α→Int→Prop
 | k,[],k'=>k=k'
 | k,y::ys,k'=>∃ m,R k y m∧RL R m ys k'
def sumC {α:Type}(c:α→Nat):List α→Nat
 | []=>0
 | x::xs=>c x+sumC c xs
theorem j6G {α:Type}[Sz α]:∀ xs:List α,sumC (fun x=>16*(1+Sz.szd x)) xs=16*szL xs
 | []=>rfl
 | x::xs=>by simp only[sumC,szL,j6G xs];omega
theorem k5e {α:Type}{c:α→Nat}{b:Nat}:∀ {xs:List α},(∀ x∈xs,c x≤b)→sumC c xs≤b*xs.length
 | [],_=>Nat.zero_le _
 | x::xs,h=>by
  have h1:=h x (by simp)
  have h2:=k5e (xs:=xs) fun y hy=>h y (by simp[hy])
  simp only[sumC,lnC,Nat.mul_add,Nat.mul_one];omega
theorem k1t {α ι:Type}{Q:ι→Prop}{R:Int→α→Int→Prop}{c:α→Nat}{P:α→Prop}{L:ι→Int×Int×List α→Option ((Int×Int×List α) ⊕ (Int×List α))}
  (hin:∀ (k:Int) (i:Nat) (a:List α) (x:α),P x→a[i]?=some x→0≤k→k+(c x:Nat)≤10000000000→i≤1000000000→∃ k' x',(∀ n,Q n→L n (k,(i:Int),a)=some (.inl (k',((i+1:Nat):Int),a.set i x')))∧k≤k'∧k'≤k+(c x:Nat)∧R k x' k')
  (hout:∀ (n:ι) (k i:Int) (a:List α),¬ i<(a.length:Int)→L n (k,i,a)=some (.inr (k,a))) :
  ∀ (xs pre:List α) (k:Int),(∀ x∈xs,P x)→0≤k→k+(sumC c xs:Nat)≤10000000000→pre.length+xs.length≤1000000000→∃ k' ys,(∀ n,Q n→q5g (L n) (k,(pre.length:Int),pre++xs)=some (k',pre++ys))∧k≤k'∧k'≤k+(sumC c xs:Nat)∧RL R k ys k'∧ys.length=xs.length
 | [],pre,k,_,h0,h1,_=>⟨k,[],fun n _=>by rw[List.append_nil];exact q3U (hout _ _ _ _ (by omega)),Int.le_refl _,by omega,rfl,rfl⟩
 | x::xs,pre,k,hP,h0,h1,h2=>by
  have e:sumC c (x::xs)=c x+sumC c xs:=rfl
  rw[e] at h1
  obtain⟨k',x',h3,h4,h5,h6⟩:=hin k pre.length (pre++x::xs) x (hP x (by simp)) (by simp) h0 (by omega) (by omega)
  obtain⟨k2,ys,h7,h8,h10,h11,h12⟩:=k1t hin hout xs (pre++[x']) k' (fun y hy=>hP y (by simp[hy])) (by omega) (by omega) (by simp only[List.length_append,lnC,List.length_nil] at *;omega)
  refine⟨k2,x'::ys,fun n hn=>?_,by omega,by rw[e];omega,⟨k',h6,h11⟩,by rw[lnC,lnC,h12]⟩
  rw[q4Q (h3 n hn)]
  rw[List.set_append_right _ _ (Nat.le_refl _),Nat.sub_self,List.set_cons_zero]
  have h7:=h7 n hn
  rw[List.length_append,List.length_singleton,List.append_assoc,List.append_assoc] at h7
  exact h7
theorem k5f {α ι:Type}{Q:ι→Prop}{R:Int→α→Int→Prop}{c:α→Nat}{P:α→Prop}{L:ι→Int×Int×List α→Option ((Int×Int×List α) ⊕ (Int×List α))}
  (hin:∀ (k:Int) (i:Nat) (a:List α) (x:α),P x→a[i]?=some x→0≤k→k+(c x:Nat)≤10000000000→i≤1000000000→∃ k' x',(∀ n,Q n→L n (k,(i:Int),a)=some (.inl (k',((i+1:Nat):Int),a.set i x')))∧k≤k'∧k'≤k+(c x:Nat)∧R k x' k')
  (hout:∀ (n:ι) (k i:Int) (a:List α),¬ i<(a.length:Int)→L n (k,i,a)=some (.inr (k,a))) (xs:List α) {k:Int} (hP:∀ x∈xs,P x) (h0:0≤k) (h1:k+(sumC c xs:Nat)≤10000000000) (h2:xs.length≤1000000000) :
  ∃ k' ys,(∀ n,Q n→((q5g (L n) (k,0,xs)).bind fun (s1,s2)=>some (s1,s2))=some (k',ys))∧k≤k'∧k'≤k+(sumC c xs:Nat)∧RL R k ys k'∧ys.length=xs.length:=by
 obtain⟨k',ys,h3,h4⟩:=k1t hin hout xs [] k hP h0 h1 (by simp only[List.length_nil];omega)
 refine⟨k',ys,fun n hn=>?_,h4⟩
 have h3:=h3 n hn
 simp only[List.length_nil,List.nil_append] at h3
 rw[show ((0:Nat):Int)=0 from rfl] at h3
 rw[h3];rfl
theorem k1u {α:Type}{R:Int→α→Int→Prop}{c:α→Nat}{P:α→Prop}{L:Int×Int×List α→Option ((Int×Int×List α) ⊕ (Int×List α))}
  (hin:∀ (k:Int) (i:Nat) (a:List α) (x:α),P x→a[i]?=some x→0≤k→k+(c x:Nat)≤10000000000→i≤1000000000→∃ k' x',L (k,(i:Int),a)=some (.inl (k',((i+1:Nat):Int),a.set i x'))∧k≤k'∧k'≤k+(c x:Nat)∧R k x' k')
  (hout:∀ (k i:Int) (a:List α),¬ i<(a.length:Int)→L (k,i,a)=some (.inr (k,a))) (xs:List α) {k:Int} (hP:∀ x∈xs,P x) (h0:0≤k) (h1:k+(sumC c xs:Nat)≤10000000000) (h2:xs.length≤1000000000) :
  ∃ k' ys,((q5g L (k,0,xs)).bind fun (s1,s2)=>some (s1,s2))=some (k',ys)∧k≤k'∧k'≤k+(sumC c xs:Nat)∧RL R k ys k'∧ys.length=xs.length:=by
 obtain⟨k',ys,e1,e2⟩:=k5f (ι:=Unit) (Q:=fun _=>True) (L:=fun _=>L) (fun k i a x h1 h2 h3 h4 h5=>by
  obtain⟨k',x',e1,e2⟩:=hin k i a x h1 h2 h3 h4 h5
  exact⟨k',x',fun _ _=>e1,e2⟩) (fun _=>hout) xs hP h0 h1 h2
 exact⟨k',ys,e1 () trivial,e2⟩
theorem j8u {α:Type}[Sz α]{L:Int×Int×List α→Option ((Int×Int×List α) ⊕ (Int×List α))}
  (hin:∀ (k:Int) (i:Nat) (a:List α) (x:α),a[i]?=some x→0≤k→k+16*(1+Sz.szd x:Nat)≤10000000000→i≤1000000000→1+Sz.szd x≤1048576→∃ k' x',L (k,(i:Int),a)=some (.inl (k',((i+1:Nat):Int),a.set i x'))∧k≤k'∧k'≤k+16*(1+Sz.szd x:Nat))
  (hout:∀ (k i:Int) (a:List α),¬ i<(a.length:Int)→L (k,i,a)=some (.inr (k,a))) (xs:List α) {k:Int} (h0:0≤k) (h1:k+16*(szL xs:Nat)≤10000000000) (h2:szL xs≤1048576) :
  ∃ k' ys,((q5g L (k,0,xs)).bind fun (s1,s2)=>some (s1,s2))=some (k',ys)∧k≤k'∧k'≤k+16*(szL xs:Nat):=by
 have hs:=j6G xs
 have hl:=q4P xs
 have hP:∀ x∈xs,1+Sz.szd x≤1048576:=by
  clear h1 hs hl
  induction xs with
  | nil=>intro x hx;cases hx
  | cons y ys ih=>
   simp only[szL] at h2
   intro x hx
   rcases List.mem_cons.1 hx with rfl|hx
   ·omega
   ·exact ih (by omega) x hx
 obtain⟨k',ys,h3,h4,h5,_⟩:=k1u (R:=fun _ _ _=>True) (c:=fun x=>16*(1+Sz.szd x)) (P:=fun x=>1+Sz.szd x≤1048576) (L:=L) (fun k i a x hp hx h0 h1 hi=>by
  obtain⟨k',x',e1,e2,e3⟩:=hin k i a x hx h0 (by omega) hi hp
  exact⟨k',x',e1,e2,by omega,trivial⟩) hout xs hP h0 (by omega) (by omega)
 exact⟨k',ys,h3,h4,by omega⟩
def RS (k:Int)(t:ByteArray)(k' : Int):Prop:=q4t k=some t∧k'=k+1
theorem x0c (k:Int)(i:Nat)(a:List ByteArray)(x:ByteArray)(hx:a[i]?=some x)(h0:0≤k)(h1:k+1≤10000000000)(hi:i≤1000000000):∃ x',q7I (k,(i:Int),a)=some (.inl (k+1,((i+1:Nat):Int),a.set i x'))∧RS k x' (k+1):=by
 obtain⟨t,ht⟩:=z7q h0 (by omega)
 have hl:=(List.getElem?_eq_some_iff.1 hx).1
 refine⟨t,?_,ht,rfl⟩
 unfold q7I
 dsimp only
 rw[ifP (by omega),ht,bsS,q3N (by omega),tnC,hx,bsS,q3N (by constructor<;>omega),q3N (by constructor<;>omega)]
 rfl
theorem k9h (k i:Int)(a:List ByteArray)(h:¬ i<(a.length:Int)):q7I (k,i,a)=some (.inr (k,a)):=by unfold q7I;dsimp only;exact ifN h
theorem j6H {α:Type}:∀ xs:List α,sumC (fun _=>1) xs=xs.length
 | []=>rfl
 | x::xs=>by simp only[sumC,j6H xs,lnC];omega
theorem x0d (xs:List ByteArray){k:Int}(h0:0≤k)(h1:k+xs.length≤10000000000)(h2:xs.length≤1000000000):∃ k' ys,q9G xs k=some (k',ys)∧k≤k'∧k'≤k+xs.length∧RL RS k ys k'∧ys.length=xs.length:=by
 have hs:=j6H xs
 obtain⟨k',ys,e1,e2,e3,e4⟩:=k1u (R:=RS) (c:=fun _=>1) (P:=fun _=>True) (L:=q7I) (fun k i a x _ hx h0 h1 hi=>by
  obtain⟨x',e1,e2⟩:=x0c k i a x hx h0 (by omega) hi
  exact⟨k+1,x',e1,by omega,by omega,e2⟩) k9h xs (fun _ _=>trivial) h0 (by rw[hs];exact h1) h2
 rw[hs] at e3
 exact⟨k',ys,e1,e2,e3,e4⟩
theorem x0e (xs:List ByteArray){k:Int}(h0:0≤k)(h1:k+16*(szL xs:Nat)≤10000000000)(h2:szL xs≤1048576):∃ k' ys,q9G xs k=some (k',ys)∧k≤k'∧k'≤k+16*(szL xs:Nat):=by
 have hl:=q4P xs
 obtain⟨k',ys,e1,e2,e3,_⟩:=x0d xs h0 (by omega) (by omega)
 exact⟨k',ys,e1,e2,by omega⟩
theorem k9i (xs:List At_){k:Int}(h0:0≤k)(h1:k+16*(szL xs:Nat)≤10000000000)(h2:szL xs≤1048576):∃ k' ys,q9j xs k=some (k',ys)∧k≤k'∧k'≤k+16*(szL xs:Nat):=
 j8u (L:=q8E) (fun k i a x hx h0 h1 hi _=>by
  obtain⟨t,ht⟩:=z7q h0 (by omega)
  have hl:=(List.getElem?_eq_some_iff.1 hx).1
  have hI:∀ m:Int,k≤m→m≤k+16→I64 m:=fun m _ _=>by constructor<;>omega
  have hI2:I64 ((i:Int)+1):=by constructor<;>omega
  have hi0:(0:Int)≤(i:Int):=by omega
  refine⟨k+1+1+1+1,⟨t,k+1,k+1+1,decide (((k+1+1+1).tmod 3)=0)⟩,?_,by omega,by omega⟩
  unfold q8E
  dsimp only
  rw[ifP (by omega),ht,bsS,q3N hi0,tnC,hx,bsS,q3N (hI _ (by omega) (by omega)),q3N hi0,List.getElem?_set_self hl,bsS,q3N (hI _ (by omega) (by omega)),q3N hi0,List.getElem?_set_self (by rw[List.length_set];exact hl),bsS,q3N (hI _ (by omega) (by omega)),q3N hi0,List.getElem?_set_self (by rw[List.length_set,List.length_set];exact hl),bsS,q3N (hI _ (by omega) (by omega)),q3N hI2,List.set_set,List.set_set,List.set_set]
  rfl) (fun k i a h=>by unfold q8E;dsimp only;exact ifN h) xs h0 h1 h2
theorem k7H (xs:List Symbol){k:Int}(h0:0≤k)(h1:k+16*(szL xs:Nat)≤10000000000)(h2:szL xs≤1048576):∃ k' ys,z1Y xs k=some (k',ys)∧k≤k'∧k'≤k+16*(szL xs:Nat):=
 j8u (L:=z0X) (fun k i a x hx h0 h1 hi h3=>by
  obtain⟨t,ht⟩:=z7q h0 (by omega)
  have hl:=(List.getElem?_eq_some_iff.1 hx).1
  have hI:∀ m:Int,k≤m→m≤k+16→I64 m:=fun m _ _=>by constructor<;>omega
  have hI2:I64 ((i:Int)+1):=by constructor<;>omega
  have hi0:(0:Int)≤(i:Int):=by omega
  rw[j0p] at h1 h3 ⊢
  obtain⟨k',z,e1,e2,e3⟩:=k9i x.Attributes (k:=k+1) (by omega) (by omega) (by omega)
  refine⟨k',⟨t,z⟩,?_,by omega,by omega⟩
  unfold z0X
  dsimp only
  rw[ifP (by omega),ht,bsS,q3N hi0,tnC,hx,bsS,q3N (hI _ (by omega) (by omega)),e1,bsS]
  dsimp only
  rw[q3N hI2]
  rfl) (fun k i a h=>by unfold z0X;dsimp only;exact ifN h) xs h0 h1 h2
theorem k7g:∀ (N:Nat) (xs:List Expr),fuEs xs≤N→∀ {k:Int},0≤k→k+16*(szL xs:Nat)≤10000000000→szL xs≤1048576→∃ k' ys,(∀ n,N≤n→z2l (n+1) xs k=some (k',ys))∧k≤k'∧k'≤k+16*(szL xs:Nat):=by
 intro N
 induction N with
 | zero=>
  intro xs hn k h0 h1 h2
  cases xs with
  | nil=>exact⟨k,[],fun n _=>by show z2k _ _ _=_;unfold z2k;rw[q3U (r:=(k,[])) (by unfold z0Y;dsimp only;exact ifN (by simp))];rfl,by omega,by omega⟩
  | cons x xs=>have:=z4n (x:=x) (l:=x::xs) (by simp);rw[z2x] at this;omega
 | succ N ih=>
  intro xs hn k h0 h1 h2
  have hq:∀ x∈xs,1+Sz.szd x≤1048576:=by
   clear h1 hn
   induction xs with
   | nil=>intro x hx;cases hx
   | cons y ys ih=>
    simp only[szL] at h2
    intro x hx
    rcases List.mem_cons.1 hx with rfl|hx
    ·omega
    ·exact ih (by omega) x hx
  have hf:∀ x∈xs,fuEs x.Args≤N:=fun x hx=>by have:=z4n hx;rw[z2x] at this;omega
  obtain⟨k',ys,e1,e2,e3,_⟩:=k5f (ι:=Nat) (Q:=fun n=>N+1≤n) (R:=fun _ _ _=>True) (c:=fun x:Expr=>16*(1+Sz.szd x)) (P:=fun x=>fuEs x.Args≤N∧1+Sz.szd x≤1048576) (L:=fun n=>z0Y (z2l n)) (fun k i a x hp hx h0 h1 hi=>by
    have hl:=(List.getElem?_eq_some_iff.1 hx).1
    have hI:∀ m:Int,k≤m→m≤k+16→I64 m:=fun m _ _=>by constructor<;>omega
    have hI2:I64 ((i:Int)+1):=by constructor<;>omega
    have hi0:(0:Int)≤(i:Int):=by omega
    obtain⟨hp,hq⟩:=hp
    rw[q6X] at h1 hq ⊢
    obtain⟨t1,ht1⟩:=z7q (k:=k+1+1+1+1) (by omega) (by omega)
    obtain⟨t2,ht2⟩:=z7q (k:=k+1+1+1+1+1) (by omega) (by omega)
    obtain⟨k1,z,e1,e2,e3⟩:=ih x.Args hp (k:=k+1+1+1+1+1+1) (by omega) (by omega) (by omega)
    refine⟨k1,⟨k,k+1,k+1+1,k+1+1+1,t1,t2,z⟩,fun n hn=>?_,by omega,by omega,trivial⟩
    obtain⟨j,rfl⟩:∃ j,n=j+1:=⟨n-1,by omega⟩
    have e1:=e1 j (by omega)
    unfold z0Y
    dsimp only
    rw[ifP (by omega),q3N hi0,tnC,hx,bsS,q3N (hI _ (by omega) (by omega)),q3N (hI _ (by omega) (by omega)),q3N (hI _ (by omega) (by omega)),q3N (hI _ (by omega) (by omega)),ht1,bsS,q3N (hI _ (by omega) (by omega)),ht2,bsS,q3N (hI _ (by omega) (by omega)),e1,bsS]
    dsimp only
    rw[q3N hI2]
    rfl) (fun n k i a h=>by unfold z0Y;dsimp only;exact ifN h) xs (k:=k) (fun x hx=>⟨hf x hx,hq x hx⟩) h0 (by rw[j6G];omega) (by have:=q4P xs;omega)
  rw[j6G] at e3
  exact⟨k',ys,fun n hn=>e1 n hn,e2,by omega⟩
theorem k0c (xs:List Expr){k:Int}(h0:0≤k)(h1:k+16*(szL xs:Nat)≤10000000000)(h2:szL xs≤1048576):∃ k' ys,z2m xs k=some (k',ys)∧k≤k'∧k'≤k+16*(szL xs:Nat):=by
 obtain⟨k',ys,e1,e2,e3⟩:=k7g (fuEs xs) xs (Nat.le_refl _) h0 h1 h2
 refine⟨k',ys,q8s (fuEs xs+1) fun n hn=>?_,e2,e3⟩
 obtain⟨j,rfl⟩:∃ j,n=j+1:=⟨n-1,by omega⟩
 exact e1 j (by omega)
theorem x0f (xs:List Eqn){k:Int}(h0:0≤k)(h1:k+16*(szL xs:Nat)≤10000000000)(h2:szL xs≤1048576):∃ k' ys,q9K xs k=some (k',ys)∧k≤k'∧k'≤k+16*(szL xs:Nat):=
 j8u (L:=q9k) (fun k i a x hx h0 h1 hi h3=>by
  have hl:=(List.getElem?_eq_some_iff.1 hx).1
  have hI:∀ m:Int,k≤m→m≤k+16→I64 m:=fun m _ _=>by constructor<;>omega
  have hI2:I64 ((i:Int)+1):=by constructor<;>omega
  have hi0:(0:Int)≤(i:Int):=by omega
  rw[z2p] at h1 h3 ⊢
  obtain⟨t1,ht1⟩:=z7q (k:=k+1) (by omega) (by omega)
  obtain⟨t2,ht2⟩:=z7q (k:=k+1+1+1+1+1+1) (by omega) (by omega)
  obtain⟨t3,ht3⟩:=z7q (k:=k+1+1+1+1+1+1+1) (by omega) (by omega)
  obtain⟨k',z,e1,e2,e3⟩:=k0c x.Expr.Args (k:=k+1+1+1+1+1+1+1+1) (by omega) (by omega) (by omega)
  refine⟨k',⟨⟨k,t1⟩,⟨k+1+1,k+1+1+1,k+1+1+1+1,k+1+1+1+1+1,t2,t3,z⟩⟩,?_,by omega,by omega⟩
  unfold q9k
  dsimp only
  rw[ifP (by omega),q3N hi0,tnC,hx,bsS,q3N (hI _ (by omega) (by omega)),ht1,bsS,q3N (hI _ (by omega) (by omega)),q3N (hI _ (by omega) (by omega)),q3N (hI _ (by omega) (by omega)),q3N (hI _ (by omega) (by omega)),q3N (hI _ (by omega) (by omega)),ht2,bsS,q3N (hI _ (by omega) (by omega)),ht3,bsS,q3N (hI _ (by omega) (by omega)),e1,bsS]
  dsimp only
  rw[q3N hI2]
  rfl) (fun k i a h=>by unfold q9k;dsimp only;exact ifN h) xs h0 h1 h2
theorem x0g (xs:List Cn){k:Int}(h0:0≤k)(h1:k+16*(szL xs:Nat)≤10000000000)(h2:szL xs≤1048576):∃ k' ys,q7C xs k=some (k',ys)∧k≤k'∧k'≤k+16*(szL xs:Nat):=
 j8u (L:=q7r) (fun k i a x hx h0 h1 hi h3=>by
  have hl:=(List.getElem?_eq_some_iff.1 hx).1
  have hI:∀ m:Int,k≤m→m≤k+16→I64 m:=fun m _ _=>by constructor<;>omega
  have hI2:I64 ((i:Int)+1):=by constructor<;>omega
  have hi0:(0:Int)≤(i:Int):=by omega
  rw[q8i] at h1 h3 ⊢
  obtain⟨t0,ht0⟩:=z7q (k:=k) (by omega) (by omega)
  obtain⟨t1,ht1⟩:=z7q (k:=k+1) (by omega) (by omega)
  obtain⟨t2,ht2⟩:=z7q (k:=k+1+1+1+1+1+1) (by omega) (by omega)
  obtain⟨t3,ht3⟩:=z7q (k:=k+1+1+1+1+1+1+1) (by omega) (by omega)
  obtain⟨k',z,e1,e2,e3⟩:=k0c x.Target.Args (k:=k+1+1+1+1+1+1+1+1) (by omega) (by omega) (by omega)
  obtain⟨t4,ht4⟩:=z7q (k:=k'+1+1+1+1) (by omega) (by omega)
  obtain⟨t5,ht5⟩:=z7q (k:=k'+1+1+1+1+1) (by omega) (by omega)
  obtain⟨k2,z2,f1,f2,f3⟩:=k0c x.Value.Args (k:=k'+1+1+1+1+1+1) (by omega) (by omega) (by omega)
  have hI' : ∀ m:Int,k'≤m→m≤k'+16→I64 m:=fun m _ _=>by constructor<;>omega
  refine⟨k2,⟨t0,t1,⟨k+1+1,k+1+1+1,k+1+1+1+1,k+1+1+1+1+1,t2,t3,z⟩,⟨k',k'+1,k'+1+1,k'+1+1+1,t4,t5,z2⟩⟩,?_,by omega,by omega⟩
  unfold q7r
  dsimp only
  rw[ifP (by omega),ht0,bsS,q3N hi0,tnC,hx,bsS,q3N (hI _ (by omega) (by omega)),ht1,bsS,q3N (hI _ (by omega) (by omega)),q3N (hI _ (by omega) (by omega)),q3N (hI _ (by omega) (by omega)),q3N (hI _ (by omega) (by omega)),q3N (hI _ (by omega) (by omega)),ht2,bsS,q3N (hI _ (by omega) (by omega)),ht3,bsS,q3N (hI _ (by omega) (by omega)),e1,bsS]
  dsimp only
  rw[q3N (hI' _ (by omega) (by omega)),q3N (hI' _ (by omega) (by omega)),q3N (hI' _ (by omega) (by omega)),q3N (hI' _ (by omega) (by omega)),ht4,bsS,q3N (hI' _ (by omega) (by omega)),ht5,bsS,q3N (hI' _ (by omega) (by omega)),f1,bsS]
  dsimp only
  rw[q3N hI2]
  rfl) (fun k i a h=>by unfold q7r;dsimp only;exact ifN h) xs h0 h1 h2
theorem k5g (xs:List Rule){k:Int}(h0:0≤k)(h1:k+16*(szL xs:Nat)≤10000000000)(h2:szL xs≤1048576):∃ k' ys,z4f xs k=some (k',ys)∧k≤k'∧k'≤k+16*(szL xs:Nat):=
 j8u (L:=z2H) (fun k i a x hx h0 h1 hi h3=>by
  have hl:=(List.getElem?_eq_some_iff.1 hx).1
  have hI2:I64 ((i:Int)+1):=by constructor<;>omega
  have hi0:(0:Int)≤(i:Int):=by omega
  rw[z4m] at h1 h3 ⊢
  obtain⟨t0,ht0⟩:=z7q (k:=k) (by omega) (by omega)
  obtain⟨t1,ht1⟩:=z7q (k:=k+1) (by omega) (by omega)
  obtain⟨k1,z1,e1,e2,e3⟩:=x0e x.Right (k:=k+1+1) (by omega) (by omega) (by omega)
  obtain⟨k2,z2,f1,f2,f3⟩:=x0f x.Equations (k:=k1+1) (by omega) (by omega) (by omega)
  obtain⟨k3,z3,g1,g2,g3⟩:=x0g x.Contributions (k:=k2) (by omega) (by omega) (by omega)
  refine⟨k3,⟨t0,t1,z1,decide ((k1.tmod 3)=0),z2,z3⟩,?_,by omega,by omega⟩
  unfold z2H
  dsimp only
  rw[ifP (by omega),ht0,bsS,q3N hi0,tnC,hx,bsS,q3N (by constructor<;>omega),ht1,bsS,q3N (by constructor<;>omega),e1,bsS]
  dsimp only
  rw[q3N (by constructor<;>omega),f1,bsS]
  dsimp only
  rw[g1,bsS]
  dsimp only
  rw[q3N hI2]
  rfl) (fun k i a h=>by unfold z2H;dsimp only;exact ifN h) xs h0 h1 h2
theorem k9j {g:Gm_}(h:Sz.szd g≤1048576):∃ k' z1 z2,q6D g 1=some (k',z1,z2)∧0≤k':=by
 rw[q9Y] at h
 obtain⟨k1,z1,e1,e2,e3⟩:=k7H g.Symbols (k:=1) (by omega) (by omega) (by omega)
 obtain⟨k2,z2,f1,f2,f3⟩:=k5g g.Rules (k:=k1) (by omega) (by omega) (by omega)
 refine⟨k2,z1,z2,?_,by omega⟩
 unfold q6D
 rw[e1,bsS]
 dsimp only
 rw[f1];rfl
theorem k7h {α:Type}{R:Int→α→Int→Prop}(hR:∀ k x m,R k x m→k≤m):∀ (xs:List α) (k k' : Int),RL R k xs k'→k≤k'
 | [],k,k',h=>by rw[show k=k' from h];exact Int.le_refl _
 | x::xs,k,k',⟨m,h1,h2⟩=>Int.le_trans (hR _ _ _ h1) (k7h hR xs m k' h2)
theorem k0d {α:Type}{R:Int→α→Int→Prop}{L:Nat→α→Int→Option (Int ⊕ Int)}(hR:∀ k x m,R k x m→k≤m)(hL:∀ (i:Nat) (x:α) (k m:Int),R k x m→0≤k→m≤10000000000→L i x k=some (.inl m)):∀ (xs:List α) (k k' : Int) (i:Nat),RL R k xs k'→0≤k→k'≤10000000000→findL L i xs k=some (.inl k')
 | [],k,k',i,h,_,_=>by rw[show k=k' from h];rfl
 | x::xs,k,k',i,⟨m,h1,h2⟩,h3,h4=>by
  have h5:=k7h hR xs m k' h2
  have h6:=hR _ _ _ h1
  show (L i x k).bind _=_
  rw[hL i x k m h1 h3 (by omega),bsS]
  exact k0d hR hL xs m k' (i+1) h2 (by omega) h4
def RI (k:Int)(n:Int)(m:Int):Prop:=n=k∧m=k+1
theorem k9k (k:Int)(x:Int)(m:Int)(h:RI k x m):k≤m:=by have:=h.2;omega
theorem k5h (xs:List Int){k:Int}(h0:0≤k)(h1:k+xs.length≤10000000000)(h2:xs.length≤1000000000):∃ k' ys,z3C xs k=some (k',ys)∧k≤k'∧k'≤k+xs.length∧RL RI k ys k'∧ys.length=xs.length:=by
 have hs:=j6H xs
 obtain⟨k',ys,e1,e2,e3,e4⟩:=k1u (R:=RI) (c:=fun _=>1) (P:=fun _=>True) (L:=z4g) (fun k i a x _ hx h0 h1 hi=>by
  have hl:=(List.getElem?_eq_some_iff.1 hx).1
  refine⟨k+1,k,?_,by omega,by omega,rfl,rfl⟩
  unfold z4g
  dsimp only
  rw[ifP (by omega),q3N (by omega),tnC,hx,bsS,q3N (by constructor<;>omega),q3N (by constructor<;>omega)]
  rfl) (fun k i a h=>by unfold z4g;dsimp only;exact ifN h) xs (fun _ _=>trivial) h0 (by rw[hs];exact h1) h2
 rw[hs] at e3
 exact⟨k',ys,e1,e2,e3,e4⟩
theorem k9l {xs:List Int}{k k' : Int}(h:RL RI k xs k')(h0:0≤k)(h1:k'≤10000000000):z3D xs k=some k':=by
 unfold z3D
 rw[k0d k9k (fun i x k m h h0 h1=>by
  unfold j0P
  obtain⟨h2,h3⟩:=h
  rw[ifP h2,q3N (by constructor<;>omega),h3]) xs k k' 0 h h0 h1];rfl
theorem k1v (xs:List Int):z6O xs xs=some true:=z5O (f:=j0d xs) fun k x h=>by unfold j0d;rw[h,bsS,ifP rfl]
theorem k9m (x:Rl_):z0W x x=some true:=by simp[z0W,k1v]
theorem k0e {c:List Int}(hc:c.length≤1048576){x:Rl_}(hx:x.Rows.length≤1048576)(o:found)(b:Bool):q9H c x o b=some (!(j6q x),(if j6q x=true then (⟨o.summary,o.rule,c⟩:found) else o),j6q x):=by
 unfold q9H
 rw[k6D hx,bsS]
 cases j6q x with
 | true=>rw[ifP rfl,k1h c hc];rfl
 | false=>rw[ifN Bool.false_ne_true];rfl
theorem k0f {g:Gm_}(h0:Sz.szd g≤1048576)(hS:Shape g){r:Rule}(hr:r∈g.Rules){F:List (List found)}(hA:InvS g (sms F))(o:found)(b:Bool){c:List Nat}(h:Ch g r (sms F) c) :
  q4Z (iL c) o b g r F (iL (r.Right.map (atN g)))=some (!(z0h g r (sms F) c),(if z0h g r (sms F) c=true then (⟨o.summary,o.rule,iL c⟩:found) else o),z0h g r (sms F) c):=by
 have h3:=z2z hS hr
 obtain⟨_,e2,e3⟩:=j6s h0 (Nat.le_trans (z3N hr) h0) (z9R hS hr hA h)
 have e:=k0e (c:=iL c) (by rw[z5r,h.1];omega) (x:=z7P g r (z1G g r (sms F) c)) (by omega) o b
 have e1:eachL (q7J F (iL (r.Right.map (atN g)))) 0 (iL c) []=some (z1G g r (sms F) c):=k1i hS hr hA (.rfl' _) h
 unfold q4Z
 rw[e1,bsS,e2,bsS,e,bsS]
 unfold z0h
 cases j6q (z7P g r (z1G g r (sms F) c))<;>rfl
def outX (o:found):((List Int×Int×List Int×ByteArray×ByteArray×Bool×List Int×Bool) ⊕ (found×Bool))→found×Bool
 | .inl (_,a,b,c,d,e,f,x)=>((⟨(⟨a,b⟩:Rl_),(⟨c,d,o.rule.Right,e,o.rule.Equations,o.rule.Contributions⟩:Rule),f⟩:found),x)
 | .inr p=>p
noncomputable def j4k (o:found) (q:Option (List Nat)):found×Bool:=match q with
 | some c=>(⟨o.summary,o.rule,iL c⟩,true)
 | none=>(o,false)
theorem j5a {g:Gm_}(h0:Sz.szd g≤1048576)(hS:Shape g){r:Rule}(hr:r∈g.Rules){F:List (List found)}(hA:InvS g (sms F))(o:found) :
  ∀ (d n:Nat) (b:Bool),n<q6U (q4R g r (sms F))→q6U (q4R g r (sms F))-n=d →
   ∃ X,q5g (q3R (iL (q4R g r (sms F))) o g r F (iL (r.Right.map (atN g)))) (iL (digL (q4R g r (sms F)) n),o.summary.N,o.summary.Rows,o.rule.Name,o.rule.Left,o.rule.Literal,o.children,b)=some X ∧
    outX o X=j4k o (((chL (q4R g r (sms F))).drop n).find? (z0h g r (sms F)))
 | 0,n,b,hn,hd=>by omega
 | d+1,n,b,hn,hd=>by
  have hch:=k7C hn
  have e1:=k0f h0 hS hr hA o b hch
  have h3:=z2z hS hr
  have hcl:=z7n g r (sms F)
  rw[k8W hn,List.find?_cons]
  cases hL:z0h g r (sms F) (digL (q4R g r (sms F)) n) with
  | true=>
   rw[hL] at e1
   exact⟨_,q3U (by
    unfold q3R
    dsimp only
    rw[e1,bsS]
    dsimp only
    rw[ifN (by decide)]),rfl⟩
  | false=>
   rw[hL] at e1
   obtain⟨q,e2,hq⟩:=j4S (cs:=q4R g r (sms F)) (ds:=digL (q4R g r (sms F)) n) (f:=q5P (iL (q4R g r (sms F)))) rfl (j3C _ _) (fun i d c h1 h2=>⟨k1e hn i d c h1 h2,by have:=k4J hS hr hA c (List.mem_of_getElem? h2);omega⟩) (by omega)
   obtain⟨q1,q2⟩:=q
   unfold k2H at hq
   rw[j6w _ _ hn] at hq
   by_cases hlast:n+1<q6U (q4R g r (sms F))
   ·rw[ifP hlast] at hq
    obtain⟨k0,x,hx,hxl,hset⟩:=hq
    dsimp only at k0 hx hset
    have hs:q3R (iL (q4R g r (sms F))) o g r F (iL (r.Right.map (atN g))) (iL (digL (q4R g r (sms F)) n),o.summary.N,o.summary.Rows,o.rule.Name,o.rule.Left,o.rule.Literal,o.children,b)=some (.inl (iL (digL (q4R g r (sms F)) (n+1)),o.summary.N,o.summary.Rows,o.rule.Name,o.rule.Left,o.rule.Literal,o.children,false)):=by
     unfold q3R
     dsimp only
     rw[e1,bsS]
     dsimp only
     rw[ifP (by decide),e2,bsS]
     dsimp only
     rw[ifN (by omega),q3N k0,hx,bsS,q3N ⟨by omega,by omega⟩,← hset]
     rfl
    rw[q4Q hs]
    exact j5a h0 hS hr hA o d (n+1) _ hlast (by omega)
   ·rw[ifN hlast] at hq
    dsimp only at hq
    rw[x0b hlast]
    exact⟨_,q3U (by
     unfold q3R
     dsimp only
     rw[e1,bsS]
     dsimp only
     rw[ifP (by decide),e2,bsS]
     dsimp only
     rw[ifP hq]),rfl⟩
theorem k0g {g:Gm_}(h0:Sz.szd g≤1048576)(hS:Shape g){r:Rule}(hr:r∈g.Rules){F:List (List found)}(hA:InvS g (sms F))(o:found) :
  q3W (iL (q4R g r (sms F))) o false g r F (iL (r.Right.map (atN g)))=some (j4k o ((chL (q4R g r (sms F))).find? (z0h g r (sms F)))):=by
 unfold q3W
 rw[j1a,bsS]
 have h3:=z2z hS hr
 have hcl:=z7n g r (sms F)
 by_cases hz:0∈q4R g r (sms F)
 ·rw[ifP (decide_eq_true hz),k4K hz];rfl
 ·rw[decide_eq_false hz,ifN Bool.false_ne_true,z5r,q3N (by refine⟨?_,?_,?_⟩<;>omega)]
  have hp:0<q6U (q4R g r (sms F)):=j6x fun c hc=>Nat.pos_of_ne_zero fun e=>hz (e▸hc)
  obtain⟨X,e,hF⟩:=j5a h0 hS hr hA o _ 0 false hp rfl
  rw[j1P,show iL (List.replicate (q4R g r (sms F)).length 0)=List.replicate (q4R g r (sms F)).length (0:Int) by unfold iL;rw[List.map_replicate];rfl] at e
  rw[List.drop_zero] at hF
  rw[e,bsS,← hF]
  cases X with
  | inl s=>obtain⟨_,_,_,_,_,_,_,_⟩:=s;rfl
  | inr p=>rfl
theorem k5i (o:found)(q:Option (List Nat)):((⟨(j4k o q).1.summary,(⟨(j4k o q).1.rule.Name,(j4k o q).1.rule.Left,o.rule.Right,(j4k o q).1.rule.Literal,o.rule.Equations,o.rule.Contributions⟩:Rule),(j4k o q).1.children⟩:found),(j4k o q).2)=j4k o q:=by
 cases q<;>rfl
theorem j6I {g:Gm_}(h0:Sz.szd g≤1048576)(hS:Shape g){r:Rule}(hr:r∈g.Rules){F:List (List found)}(hA:InvS g (sms F))(o:found) :
  q5n g r F (iL ((sms F).map (·.length))) o false=some (j4k o ((chL (q4R g r (sms F))).find? (z0h g r (sms F)))):=by
 have h3:=z2z hS hr
 have e:=k0g h0 hS hr hA o
 unfold q5n
 obtain⟨s',e2,hp⟩:=z2L (P:=fun k (s:List Int×List Int)=>s=((iL (q4R g r (sms F))).take k,(iL (r.Right.map (atN g))).take k)) (f:=q8g g (iL ((sms F).map (·.length)))) (xs:=r.Right) (i:=0) (s:=([],[])) (by rw[List.take_zero,List.take_zero]) fun k n s hn hs=>by
  rw[Nat.zero_add] at hs ⊢
  rw[hs]
  exact⟨_,j3E hS hr hA hn,rfl⟩
 rw[Nat.zero_add] at hp
 rw[e2,hp,List.take_of_length_le (by rw[z5r,z7n];omega),List.take_of_length_le (by rw[z5r,lnM];omega),bsS]
 dsimp only
 rw[e,bsS]
 exact congrArg some (k5i o _)
noncomputable def j1b (g:Gm_) (A:List (List Rl_)):List Rule→Option (Rule×List Nat)
 | []=>none
 | r::rs=>match (chL (q4R g r A)).find? (z0h g r A) with
  | some c=>some (r,c)
  | none=>j1b g A rs
theorem j5b {g:Gm_}{A:List (List Rl_)}{r:Rule}{c:List Nat}:∀ {rs:List Rule},j1b g A rs=some (r,c)→r∈rs∧Ch g r A c
 | [],h=>by cases h
 | x::rs,h=>by
  rw[j1b] at h
  cases e:(chL (q4R g x A)).find? (z0h g x A) with
  | none=>
   rw[e] at h
   obtain⟨h1,h2⟩:=j5b h
   exact⟨by simp[h1],h2⟩
  | some c'=>
   rw[e] at h
   cases h
   exact⟨by simp,k4I (List.mem_of_find?_eq_some e)⟩
theorem k9n {g:Gm_}(hS:Shape g){F:List (List found)}(hA:InvS g (sms F)):F.length≤1048576:=by
 have h1:=hA.1
 have h2:=hS.syms.2
 unfold sms at h1
 rw[lnM] at h1
 omega
def fX (r:Rule)(c:List Nat):found:=⟨⟨0,[]⟩,r,iL c⟩
theorem j1c {g:Gm_}(h0:Sz.szd g≤1048576)(hS:Shape g){F:List (List found)}(hA:InvS g (sms F)):∀ (rs:List Rule) (i:Nat),(∀ r∈rs,r∈g.Rules) →
  findL (z2J g F) i rs ()=some (match j1b g (sms F) rs with|some (r,c)=>.inr (fX r c,true)|none=>.inl ())
 | [],i,_=>rfl
 | r::rs,i,hrs=>by
  have hr:=hrs r (by simp)
  have e:=j6I h0 hS hr hA (⟨(⟨0,[]⟩:Rl_),r,[]⟩:found)
  have hs:z2J g F i r ()=some (match (chL (q4R g r (sms F))).find? (z0h g r (sms F)) with|some c=>.inr (fX r c,true)|none=>.inl ()):=by
   unfold z2J
   rw[j4T (k9n hS hA),bsS,e,bsS]
   cases (chL (q4R g r (sms F))).find? (z0h g r (sms F))<;>rfl
  rw[findL,hs,bsS,j1b]
  cases (chL (q4R g r (sms F))).find? (z0h g r (sms F)) with
  | some c=>rfl
  | none=>exact j1c h0 hS hA rs (i+1) fun x hx=>hrs x (by simp[hx])
def j8v (R:Tree×Bool):Prop:=R.1.Nodes.length≤16∧∀ x∈R.1.Nodes,x.Children.length≤16
theorem j8w (b:Bool):j8v (⟨[]⟩,b):=⟨Nat.zero_le _,fun x hx=>nomatch hx⟩
theorem k9o {g:Gm_}(h0:Sz.szd g≤1048576)(hS:Shape g){F:List (List found)}(hA:InvS g (sms F))(hD:Der g F){r:Rule}(hr:r∈g.Rules){c:List Nat}(h:Ch g r (sms F) c) :
  ∃ (R:Tree×Bool) (y:Tree) (z:List Node),q7q g F (fX r c)=some R∧q5V g (rcs F) r.Name (iL c)=some y∧q4O y=some (R.1,R.2,z)∧j8v R:=by
 obtain⟨ts,hts⟩:=k4O hS hr hA (.rfl' _) hD h
 have hb:=hA.bound hS
 have hs:=hS.syms.2
 obtain⟨R,y,z,h1,h2,h3,h4⟩:=j8s h0 hS hA hD (n:=tot (sms F)+1) (by omega) (f:=fX r c) (t:=.node r.Name ts) hr (k9W c) (by
  rw[trF]
  show (z7Q (trF g F (tot (sms F))) g F r.Right (iL c)).bind _=_
  rw[hts];rfl)
 exact⟨R,y,z,h1,h2,h3,h4⟩
theorem j3J {g:Gm_}(h0:Sz.szd g≤1048576)(hS:Shape g){F:List (List found)}(hA:InvS g (sms F)){r:Rule}(hr:r∈g.Rules)(B:List Nat→Tree×Bool)(hB:∀ c,Ch g r (sms F) c→z0h g r (sms F) c=true→∃ y z,q5V g (rcs F) r.Name (iL c)=some y∧q4O y=some ((B c).1,(B c).2,z)):∀ (cs:List (List Nat)) (k:Nat),(∀ c∈cs,Ch g r (sms F) c) →
  findL (q7j g (sms F) (rcs F) r) k (cs.map iL) ()=some (match cs.find? (z0h g r (sms F)) with|some c=>.inr (B c)|none=>.inl ())
 | [],k,_=>rfl
 | c::cs,k,hc=>by
  have h:=hc c (by simp)
  obtain⟨e1,_,e3⟩:=j6s h0 (Nat.le_trans (z3N hr) h0) (z9R hS hr hA h)
  have e0:z2Z (z7P g r (z1G g r (sms F) c))=some (z0h g r (sms F) c):=k6E (by omega)
  rw[List.map_cons,findL,List.find?_cons]
  cases hl:z0h g r (sms F) c with
  | true=>
   obtain⟨y,z,b1,b2⟩:=hB c h hl
   have e:q7j g (sms F) (rcs F) r k (iL c) ()=some (.inr (B c)):=by
    unfold q7j
    rw[j6A hS hr hA h,bsS,e1,bsS,e0,hl,bsS,ifP rfl,b1,bsS,b2,bsS]
   rw[e];rfl
  | false=>
   have e:q7j g (sms F) (rcs F) r k (iL c) ()=some (.inl ()):=by
    unfold q7j
    rw[j6A hS hr hA h,bsS,e1,bsS,e0,hl,bsS,ifN Bool.false_ne_true]
   rw[e,bsS]
   exact j3J h0 hS hA hr B hB cs (k+1) fun x hx=>hc x (by simp[hx])
theorem j1d {g:Gm_}(h0:Sz.szd g≤1048576)(hS:Shape g){F:List (List found)}(hA:InvS g (sms F))(B:Rule→List Nat→Tree×Bool)(hB:∀ r∈g.Rules,∀ c,Ch g r (sms F) c→∃ y z,q5V g (rcs F) r.Name (iL c)=some y∧q4O y=some ((B r c).1,(B r c).2,z)):∀ (rs:List Rule) (i:Nat),(∀ r∈rs,r∈g.Rules) →
  findL (q9L g (sms F) (rcs F)) i rs ()=some (match j1b g (sms F) rs with|some (r,c)=>.inr (B r c)|none=>.inl ())
 | [],i,_=>rfl
 | r::rs,i,hrs=>by
  have hr:=hrs r (by simp)
  have hl:(sms F).length≤1048576:=by have h1:=hA.1;have h2:=hS.syms.2;omega
  have hs:q9L g (sms F) (rcs F) i r ()=some (match (chL (q4R g r (sms F))).find? (z0h g r (sms F)) with|some c=>.inr (B r c)|none=>.inl ()):=by
   unfold q9L
   rw[j4U hl,bsS,j3F hS hr hA,bsS,j3J h0 hS hA hr (B r) (fun c hc _=>hB r hr c hc) _ 0 fun c hc=>k4I hc,bsS]
   cases (chL (q4R g r (sms F))).find? (z0h g r (sms F))<;>rfl
  rw[findL,hs,bsS,j1b]
  cases (chL (q4R g r (sms F))).find? (z0h g r (sms F)) with
  | some c=>rfl
  | none=>exact j1d h0 hS hA B hB rs (i+1) fun x hx=>hrs x (by simp[hx])
theorem k2K {g:Gm_}(h0:Sz.szd g≤1048576):∃ R,q8U g=some R∧q7K g=some R∧j8v R:=by
 unfold q8U q7K
 rw[k0X h0,k0Y h0]
 simp only[bsS]
 cases hg:k2E g with
 | false=>exact⟨_,rfl,rfl,j8w _⟩
 | true=>
  have hS:=j4R hg
  obtain⟨F,f1,f2,f3,f4⟩:=j4X h0 hS
  have hall:∀ r∈g.Rules,∀ c,Ch g r (sms F) c→∃ R:Tree×Bool,(q7q g F (fX r c)=some R∧j8v R)∧∃ y z,q5V g (rcs F) r.Name (iL c)=some y∧q4O y=some (R.1,R.2,z):=fun r hr c hc=>by
   obtain⟨R,y,z,h1,h2,h3,h4⟩:=k9o h0 hS f3 f4 hr hc
   exact⟨R,⟨h1,h4⟩,y,z,h2,h3⟩
  let B:Rule→List Nat→Tree×Bool:=fun r c=>(q7q g F (fX r c)).getD (⟨[]⟩,false)
  have hB:∀ r∈g.Rules,∀ c,Ch g r (sms F) c→q7q g F (fX r c)=some (B r c)∧j8v (B r c)∧∃ y z,q5V g (rcs F) r.Name (iL c)=some y∧q4O y=some ((B r c).1,(B r c).2,z):=fun r hr c hc=>by
   obtain⟨R,⟨h1,h2⟩,h3⟩:=hall r hr c hc
   have:B r c=R:=by show (q7q g F (fX r c)).getD _=R;rw[h1];rfl
   rw[this]
   exact⟨h1,h2,h3⟩
  have e1:=j1c h0 hS f3 g.Rules 0 fun _ h=>h
  have e2:=j1d h0 hS f3 B (fun r hr c hc=>(hB r hr c hc).2.2) g.Rules 0 fun _ h=>h
  rw[ifP rfl,ifP rfl,f1,f2,bsS,bsS]
  unfold z4i
  dsimp only
  rw[e1,e2,bsS,bsS]
  cases hX:j1b g (sms F) g.Rules with
  | none=>exact⟨_,rfl,rfl,j8w _⟩
  | some p=>
   obtain⟨r,c⟩:=p
   obtain⟨m1,m2⟩:=j5b hX
   obtain⟨b1,b2,_⟩:=hB r m1 c m2
   refine⟨B r c,rfl,?_,b2⟩
   show (if true=true then (q7q g F (fX r c)).bind fun (y5,y6)=>some (y5,y6) else some ((⟨[]⟩:Tree),false))=_
   rw[ifP rfl,b1];rfl
theorem k7i (x:Node):z4Y x x=some true:=by simp[z4Y,k1v]
theorem k5j (xs:List Node):z7I xs xs=some true:=z5O (f:=j2D xs) (j3I (g:=z4Y) fun x _=>k7i x)
theorem k1w (t:Tree):q9F t t=some true:=by simp[q9F,k5j]
def RN (k:Int)(x:Node)(m:Int):Prop:=x.Id=k∧x.Parent=k+1∧x.Place=k+1+1∧x.Literal=k+1+1+1∧q4t (k+1+1+1+1)=some x.Rule∧RL RI (k+1+1+1+1+1) x.Children m
theorem x0z (k:Int)(x:Node)(m:Int)(h:RN k x m):k≤m:=by have:=k7h k9k _ _ _ h.2.2.2.2.2;omega
theorem k7j (xs:List Node){k:Int}(hP:∀ x∈xs,x.Children.length≤16)(h0:0≤k)(h1:k+21*xs.length≤1000000000)(h2:xs.length≤1000000):∃ k' ys,z4h xs k=some (k',ys)∧k≤k'∧k'≤k+21*xs.length∧RL RN k ys k':=by
 have hs:=k5e (c:=fun x:Node=>5+x.Children.length) (b:=21) (xs:=xs) fun x hx=>by have:=hP x hx;omega
 obtain⟨k',ys,e1,e2,e3,e4,_⟩:=k1u (R:=RN) (c:=fun x:Node=>5+x.Children.length) (P:=fun x=>x.Children.length≤16) (L:=z2I) (fun k i a x hp hx h0 h1 hi=>by
  have hl:=(List.getElem?_eq_some_iff.1 hx).1
  obtain⟨t,ht⟩:=z7q (k:=k+1+1+1+1) (by omega) (by omega)
  obtain⟨k1,z,e1,e2,e3,e4,_⟩:=k5h x.Children (k:=k+1+1+1+1+1) (by omega) (by omega) (by omega)
  refine⟨k1,⟨k,k+1,k+1+1,k+1+1+1,t,z⟩,?_,by omega,by omega,rfl,rfl,rfl,rfl,ht,e4⟩
  unfold z2I
  dsimp only
  rw[ifP (by omega),q3N (by omega),tnC,hx,bsS,q3N (by constructor<;>omega),q3N (by constructor<;>omega),q3N (by constructor<;>omega),q3N (by constructor<;>omega),ht,bsS,q3N (by constructor<;>omega),e1,bsS]
  dsimp only
  rw[q3N (by constructor<;>omega)]
  rfl) (fun k i a h=>by unfold z2I;dsimp only;exact ifN h) xs hP h0 (by omega) (by omega)
 exact⟨k',ys,e1,e2,by omega,e4⟩
theorem k7k {xs:List Node}{k k' : Int}(h:RL RN k xs k')(h0:0≤k)(h1:k'≤10000000000):z2n xs k=some k':=by
 unfold z2n
 rw[k0d x0z (fun i x k m h h0 h1=>by
  unfold z9x
  obtain⟨a1,a2,a3,a4,a5,a6⟩:=h
  have h4:=k7h k9k _ _ _ a6
  rw[ifP a1,q3N (by constructor<;>omega),ifP a2,q3N (by constructor<;>omega),ifP a3,q3N (by constructor<;>omega),ifP a4,q3N (by constructor<;>omega),a5,bsS,ifP rfl,q3N (by constructor<;>omega),k9l a6 (by omega) h1,bsS,ifN (by omega)]) xs k k' 0 h h0 h1];rfl
theorem k5k {t:Tree}(h1:t.Nodes.length≤16)(h2:∀ x∈t.Nodes,x.Children.length≤16):∃ k' ys,z1w t 1=some (k',ys)∧q8T ⟨ys⟩ 1=some k'∧1≤k':=by
 obtain⟨k',ys,e1,e2,e3,e4⟩:=k7j t.Nodes (k:=1) h2 (by omega) (by omega) (by omega)
 refine⟨k',ys,by unfold z1w;rw[e1];rfl,?_,e2⟩
 unfold q8T
 dsimp only
 rw[k7k e4 (by omega) (by omega),bsS,ifN (by omega)]
theorem j8x {g:Gm_}(h:A.boCs (Gm_.l g)):q6W g=some true:=by
 unfold q6W
 rw[k1p h 1048576 (by omega) (by omega),bsS]
 by_cases h1:(Sz.szd g:Int)≤1048576
 ·have h2:Sz.szd g≤1048576:=by omega
  obtain⟨⟨t,b⟩,e1,e2,hl,hq⟩:=k2K h2
  obtain⟨k',z1,z2,e3,e4⟩:=k9j h2
  obtain⟨k2,z3,f1,f6,f2⟩:=k5k (t:=t) hl hq
  rw[ifP h1,ifN (by omega)]
  simp only[k1q h2,e1,e2,k1w,k1s,e3,f1,f6,bsS,reduceIte,ifN (show ¬ k'<0 by omega),ifN (show ¬ k2<0 by omega),decide_true,Bool.not_true,Bool.false_eq_true]
 ·rw[ifN h1,ifP (by omega)]
theorem k5l {g:Gm_}{F:List (List found)}{w:Nat}{fs:List found}(hF:F[w]?=some fs)(x:Rl_)(T:found→Tree×Bool)(hT:∀ f∈fs,∃ y z,q5V g (rcs F) f.rule.Name f.children=some y∧q4O y=some ((T f).1,(T f).2,z)) :
  ∀ (gs:List found) (k:Nat),(∀ (j:Nat) f,gs[j]?=some f→fs[k+j]?=some f) →
   (∃ (j:Nat) (f:found),fs[j]?=some f∧findL (q3Q x) k gs ()=some (.inr (j:Int))∧findL (q6P g x (w:Int) (rcs F)) k (gs.map found.summary) ()=some (.inr (T f))) ∨
   (findL (q3Q x) k gs ()=some (.inl ())∧findL (q6P g x (w:Int) (rcs F)) k (gs.map found.summary) ()=some (.inl ()))
 | [],k,_=>.inr ⟨rfl,rfl⟩
 | f::gs,k,h=>by
  have hk:=h 0 f rfl
  rw[Nat.add_zero] at hk
  rw[List.map_cons,findL,findL]
  by_cases e:f.summary=x
  ·left
   refine⟨k,f,hk,?_,?_⟩
   ·rw[show q3Q x k f ()=some (.inr (k:Int)) by
     unfold q3Q q8f
     rw[j9O,bsS,bsS,decide_eq_true e,ifP rfl]]
    rfl
   ·obtain⟨y,z,b1,b2⟩:=hT f (List.mem_of_getElem? hk)
    have hrc:(rcs F)[w]?=some ⟨fs.map fun f=>f.rule.Name,fs.map found.children⟩:=by rw[j9W,hF];rfl
    rw[show q6P g x (w:Int) (rcs F) k f.summary ()=some (.inr (T f)) by
     unfold q6P
     rw[j6p,bsS,decide_eq_true e,ifP rfl,q3N (by omega),tnC,hrc,bsS]
     dsimp only
     rw[List.getElem?_map,hk,Option.map_some,bsS,List.getElem?_map,hk,Option.map_some,bsS,b1,bsS,b2,bsS]]
    rfl
  ·rw[show q3Q x k f ()=some (.inl ()) by
     unfold q3Q q8f
     rw[j9O,bsS,bsS,decide_eq_false e,ifN Bool.false_ne_true],bsS,
    show q6P g x (w:Int) (rcs F) k f.summary ()=some (.inl ()) by
     unfold q6P
     rw[j6p,bsS,decide_eq_false e,ifN Bool.false_ne_true],bsS]
   exact k5l hF x T hT gs (k+1) fun j y hy=>by rw[show k+1+j=k+(j+1) by omega];exact h (j+1) y hy
theorem k5m {g:Gm_}(h0:Sz.szd g≤1048576)(s:ByteArray)(x:Rl_):∃ R,q9z g s x=some R∧q8o g s x=some R∧j8v R:=by
 unfold q9z q8o
 rw[k0X h0,k0Y h0,j9N,j1O]
 simp only[bsS]
 cases hg:k2E g with
 | false=>exact⟨_,rfl,rfl,j8w _⟩
 | true=>
  have hS:=j4R hg
  rw[ifP rfl,ifP rfl]
  cases ha:atS g s with
  | none=>
   have e:atI g s = -1:=by unfold atI;rw[ha]
   rw[e,ifP (by omega),ifP (by omega)]
   exact⟨_,rfl,rfl,j8w _⟩
  | some w=>
   have e:atI g s=(w:Int):=by unfold atI;rw[ha]
   obtain⟨F,f1,f2,f3,f4⟩:=j4X h0 hS
   have hwl:w<g.Symbols.length:=by
    unfold atS at ha
    exact (List.findIdx?_eq_some_iff_getElem.1 ha).1
   have hFl:F.length=g.Symbols.length:=by
    have:=f3.1
    unfold sms at this
    rwa[lnM] at this
   obtain⟨fs,hF⟩:∃ fs,F[w]?=some fs:=⟨_,List.getElem?_eq_getElem (by omega)⟩
   have hb:=f3.bound hS
   have hs:=hS.syms.2
   have hall:∀ f∈fs,∃ R:Tree×Bool,(q7q g F f=some R∧j8v R)∧∃ y z,q5V g (rcs F) f.rule.Name f.children=some y∧q4O y=some (R.1,R.2,z):=fun f hf=>by
    obtain⟨o1,o2,t,o3⟩:=f4 fs (List.mem_of_getElem? hF) f hf
    obtain⟨R,y,z,h1,h2,h3,h4⟩:=j8s h0 hS f3 f4 (n:=tot (sms F)) (by omega) o1 o2 o3
    exact⟨R,⟨h1,h4⟩,y,z,h2,h3⟩
   let T:found→Tree×Bool:=fun f=>(q7q g F f).getD (⟨[]⟩,false)
   have hT:∀ f∈fs,q7q g F f=some (T f)∧j8v (T f)∧∃ y z,q5V g (rcs F) f.rule.Name f.children=some y∧q4O y=some ((T f).1,(T f).2,z):=fun f hf=>by
    obtain⟨R,⟨h1,h2⟩,h3⟩:=hall f hf
    have:T f=R:=by show (q7q g F f).getD _=R;rw[h1];rfl
    rw[this]
    exact⟨h1,h2,h3⟩
   have hsm:(sms F)[w]?=some (fs.map found.summary):=by rw[z7m,hF];rfl
   rw[e,ifN (by omega),ifN (by omega),f1,f2,bsS,bsS]
   dsimp only
   rw[q3N (by omega),q3N (by omega),tnC,hF,hsm,bsS,bsS]
   unfold q4L
   rcases k5l hF x T (fun f hf=>(hT f hf).2.2) fs 0 (fun j f h=>by rw[Nat.zero_add];exact h) with ⟨j,f,hj,i1,i2⟩|⟨i1,i2⟩
   ·obtain⟨t1,t2,_⟩:=hT f (List.mem_of_getElem? hj)
    rw[i1,i2,bsS,bsS]
    refine⟨T f,rfl,?_,t2⟩
    show ((some (j:Int)).bind fun y4=>_)=_
    rw[bsS,ifN (by omega),q3N (by omega),tnC,hj,bsS,t1];rfl
   ·rw[i1,i2]
    exact⟨_,rfl,rfl,j8w _⟩
theorem k5n {n:Nat}{s:Int}{o:Option Int}{k:Int→Option Bool}{P:Prop}(ho:o=some (if (n:Int)≤s then s-n else -1))(hs:0≤s)(h:(n:Int)≤s→k (s-n)=some true):(o.bind fun y=>if y<0 then some true else k y)=some true:=by
 rw[ho,bsS]
 by_cases h2:(n:Int)≤s
 ·rw[ifP h2,ifN (by omega)];exact h h2
 ·rw[ifN h2,ifP (by omega)]
theorem k7l {k:Nat}{ds:List A.D}(h:A.boD (.sl k ds)):ds.length≤9223372036854775807:=by
 rw[A.boD] at h;exact h.1
theorem k9p {x:Rl_}(h:A.boCs (Rl_.l x)){s:Int}(h0:0≤s)(h1:s≤1048576):z0p x s=some (if (x.Rows.length:Int)≤s then s-x.Rows.length else -1):=by
 have hl:x.Rows.length≤9223372036854775807:=by
  have:=k7l (A.boCs_cons.1 (A.boCs_cons.1 h).2).1
  rwa[lnM] at this
 unfold z0p z9c
 rw[q3N (by constructor<;>omega)]
 by_cases h2:(x.Rows.length:Int)≤s
 ·rw[ifN (by omega),ifP h2,bsS,ifN (by omega)]
 ·rw[ifP (by omega),ifN h2,bsS,ifP (by omega)]
theorem k9q {x:Rl_}(h:x.Rows.length≤1048576):q7l x=some x:=by
 have e:z9e x.Rows=some x.Rows:=z7p (g:=some) (by omega) h fun k x s _ hk=>by unfold j4y;rw[List.getElem?_eq_getElem hk];rfl
 unfold q7l
 rw[e];rfl
theorem k7m {g:Gm_}(h:Sz.szd g≤1048576):∃ k' z1 z2,q6D g 1=some (k',z1,z2)∧0≤k'∧k'≤1+16*(Sz.szd g:Nat):=by
 rw[q9Y] at h ⊢
 obtain⟨k1,z1,e1,e2,e3⟩:=k7H g.Symbols (k:=1) (by omega) (by omega) (by omega)
 obtain⟨k2,z2,f1,f2,f3⟩:=k5g g.Rules (k:=k1) (by omega) (by omega) (by omega)
 refine⟨k2,z1,z2,?_,by omega,by omega⟩
 unfold q6D
 rw[e1,bsS]
 dsimp only
 rw[f1];rfl
theorem k0h {a0:Gm_}{a1:ByteArray}{a2:Rl_}(h0:A.boCs (Gm_.l a0))(h1:A.boCs [A.D.s a1])(h2:A.boCs (Rl_.l a2)):q7s a0 a1 a2=some true:=by
 unfold q7s
 by_cases hb:1048576<(a1.size:Int)
 ·exact ifP hb
 rw[ifN hb]
 refine k5n (P:=True) (k1p h0 1048576 (by omega) (by omega)) (by omega) fun q0=>?_
 refine k5n (P:=True) (k9p h2 (by omega) (by omega)) (by omega) fun q1=>?_
 have g0:Sz.szd a0≤1048576:=by omega
 have g2:a2.Rows.length≤1048576:=by omega
 obtain⟨⟨t,b⟩,e1,e2,hl,hq⟩:=k5m g0 a1 a2
 obtain⟨k1,z1,z2,m1,m2,m3⟩:=k7m g0
 obtain⟨k',z3,n1,n2,n3,_⟩:=k5h a2.Rows (k:=k1) (by omega) (by omega) (by omega)
 have n0:q8S a2 k1=some (k',z3):=by unfold q8S;rw[n1];rfl
 obtain⟨k2,z4,f1,f6,f2⟩:=k5k (t:=t) hl hq
 simp only[k1q g0,k9q g2,e1,e2,k1w,k1s,k9m,m1,n0,f1,f6,bsS,reduceIte,ifN (show ¬ k'<0 by omega),ifN (show ¬ k2<0 by omega),decide_true,Bool.not_true,Bool.false_eq_true]
end Go.Proofs.YtipikecbeganoaaGreat
