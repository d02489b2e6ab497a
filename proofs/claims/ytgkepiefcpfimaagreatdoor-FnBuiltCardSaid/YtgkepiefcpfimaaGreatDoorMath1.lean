/- What those partial functions come to: plain lemmas on data; each bears its conditions in its statement. -/
import Derived.Test.YtgkepiefcpfimaaGreatDoorDef
set_option linter.unusedVariables false
set_option linter.unusedSimpArgs false
set_option linter.ambiguousOpen false
set_option linter.unusedSectionVars false
set_option linter.unnecessarySimpa false
set_option maxRecDepth 100000
set_option maxHeartbeats 4000000
noncomputable section
open Nat renaming add_zero→Cxz,le_refl→Acz,zero_add→Adz,add_sub_cancel→Drz
open List renaming mem_cons→Dsz,pairwise_cons→Dtz,pairwise_append→Duz,take_add_one→Dvz,length_append→Axz,length_drop→Bsz,getElem?_eq_getElem→Cmz,getElem?_drop→Baz,findIdx_cons→Dwz
namespace Go.Proofs.YtgkepiefcpfimaaGreatDoor
open Go Go.E
def z2j (xk1:Rl_)(k2:Nat)(xk2:Int):Nat→Int→((List Int)×Int)→Option ((List Int)×Int):=fun k3 xk3 (s6,s7)=>
(
(q8A xk1 (k2:Int) (k3:Int)).bind fun y5=>
if y5=true then (
(q7W (⟨s7,s6⟩:Rl_) xk2 xk3).bind fun y6=>
some (y6.Rows,y6.N)
) else (
some (s6,s7)
)
).bind fun (s8,s9)=>
some (s8,s9)
def z4U (xk1:Rl_)(y3:(List Int)):Nat→Int→((List Int)×Int)→Option ((List Int)×Int):=fun k2 xk2 (s4,s5)=>
(eachL (z2j xk1 k2 xk2) 0 y3 (s4,s5)).bind fun (s6,s7)=>
some (s6,s7)
end Go.Proofs.YtgkepiefcpfimaaGreatDoor
namespace Go.E
section
variable {α σ ρ:Type}
theorem z7V {c:ρ}:∀ {xs:List α} {i:Nat} {p:Nat→α→Prop} {f:Nat→α→Unit→Option (Unit ⊕ ρ)},(∀ k x,xs[k]?=some x→(p (i+k) x→f (i+k) x ()=some (.inr c))∧(¬ p (i+k) x→f (i+k) x ()=some (.inl ()))) →
  ((∃ k x,xs[k]?=some x∧p (i+k) x)→findL f i xs ()=some (.inr c))∧((∀ k x,xs[k]?=some x→¬ p (i+k) x)→findL f i xs ()=some (.inl ()))
 | [],i,p,f,_=>⟨fun ⟨k,x,h,_⟩=>by simp at h,fun _=>rfl⟩
 | x::xs,i,p,f,h=>by
  have h0:=h 0 x rfl
  simp only[Cxz] at h0
  have ih:=z7V (c:=c) (xs:=xs) (i:=i+1) (p:=p) (f:=f) fun k y hy=>by
   have:=h (k+1) y hy
   rwa[show i+(k+1)=i+1+k by omega] at this
  by_cases hp:p i x
  ·refine⟨fun _=>by simp[findL,h0.1 hp],fun hn=>absurd hp (hn 0 x rfl)⟩
  ·simp only[findL,h0.2 hp,bsS]
   refine⟨?_,?_⟩
   ·rintro⟨k,y,hy,hpy⟩
    cases k with
    | zero=>simp at hy;subst hy;exact absurd hpy hp
    | succ k=>exact ih.1 ⟨k,y,hy,by rwa[show i+1+k=i+(k+1) by omega]⟩
   ·intro hn
    exact ih.2 fun k y hy hpy=>hn (k+1) y hy (by rwa[show i+(k+1)=i+1+k by omega])
theorem j0h {c:ρ}:∀ {n i:Nat} {p:Nat→Prop} {f:Nat→Unit→Option (Unit ⊕ ρ)},(∀ k,k<n→(p (i+k)→f (i+k) ()=some (.inr c))∧(¬ p (i+k)→f (i+k) ()=some (.inl ()))) →
  ((∃ k,k<n∧p (i+k))→findN f i n ()=some (.inr c))∧((∀ k,k<n→¬ p (i+k))→findN f i n ()=some (.inl ()))
 | 0,i,p,f,_=>⟨fun ⟨k,h,_⟩=>by omega,fun _=>rfl⟩
 | n+1,i,p,f,h=>by
  have h0:=h 0 (by omega)
  simp only[Cxz] at h0
  have ih:=j0h (c:=c) (n:=n) (i:=i+1) (p:=p) (f:=f) fun k hk=>by
   have:=h (k+1) (by omega)
   rwa[show i+(k+1)=i+1+k by omega] at this
  by_cases hp:p i
  ·refine⟨fun _=>by simp[findN,h0.1 hp],fun hn=>absurd hp (hn 0 (by omega))⟩
  ·simp only[findN,h0.2 hp,bsS]
   refine⟨?_,?_⟩
   ·rintro⟨k,hk,hpk⟩
    cases k with
    | zero=>exact absurd hpk hp
    | succ k=>exact ih.1 ⟨k,by omega,by rwa[show i+1+k=i+(k+1) by omega]⟩
   ·intro hn
    exact ih.2 fun k hk hpk=>hn (k+1) (by omega) (by rwa[show i+(k+1)=i+1+k by omega])
theorem k0C [DecidableEq α]{y:α}:∀ {xs:List α} {i:Nat} {f:Nat→α→Unit→Option (Unit ⊕ Int)},(∀ k x,(x=y→f k x ()=some (.inr (k:Int)))∧(x≠y→f k x ()=some (.inl ()))) →
  findL f i xs ()=some (if y∈xs then .inr ((i+xs.idxOf y:Nat):Int) else .inl ())
 | [],i,f,_=>by simp[findL]
 | x::xs,i,f,h=>by
  by_cases hx:x=y
  ·subst hx;simp[findL,(h i x).1 rfl]
  ·have hx' : (x == y)=false:=by simpa using hx
   simp only[findL,(h i x).2 hx,bsS,k0C (xs:=xs) (i:=i+1) h,Dsz,List.idxOf_cons,hx',cond_false]
   by_cases hy:y∈xs
   ·simp[hy];omega
   ·have:¬ y=x:=fun e=>hx e.symm
    simp[hy,this]
theorem j3B [DecidableEq α]{y:α}{xs:List α}{f:Nat→α→Unit→Option (Unit ⊕ Int)}(h:∀ k x,(x=y→f k x ()=some (.inr (k:Int)))∧(x≠y→f k x ()=some (.inl ()))) :
  (findL f 0 xs ()).bind (onr (fun r1=>some r1) fun _=>some (-1))=some (ixF xs y):=by
 rw[k0C h]
 unfold ixF
 by_cases hy:y∈xs<;>simp[hy]
theorem j2g {P:Nat→σ→Prop}:∀ {n i:Nat} {s:σ} {f:Nat→σ→Option σ},P i s→(∀ k s,i≤k→k<i+n→P k s→∃ s',f k s=some s'∧P (k+1) s')→∃ s',eachN f i n s=some s'∧P (i+n) s'
 | 0,i,s,f,h,_=>⟨s,rfl,h⟩
 | n+1,i,s,f,h,hs=>by
  obtain⟨s1,h1,h2⟩:=hs i s (Acz _) (by omega) h
  obtain⟨s2,h3,h4⟩:=j2g (P:=P) (n:=n) (i:=i+1) (f:=f) h2 fun k s hk hk2 hp=>hs k s (by omega) (by omega) hp
  exact⟨s2,by simp[eachN,h1,h3],by rw[show i+(n+1)=i+1+n by omega];exact h4⟩
end
end Go.E
noncomputable section
namespace Go.Proofs.YtgkepiefcpfimaaGreatDoor
open Go Go.E
open Go.E.Sz (szd)
instance:Sz At_ where
 szd x:=x.Name.size
theorem j0i (x:At_):Sz.szd x=x.Name.size:=rfl
instance:Sz Symbol where
 szd x:=x.Name.size+szL x.as_
theorem j0U (x:Symbol):Sz.szd x=x.Name.size+szL x.as_:=rfl
mutual
def z2k:Expr→Nat
 | ⟨a0,a1,a2,a3,a4,a5,a6⟩=>a4.size+a5.size+z5o a6
def z5o:List Expr→Nat
 | []=>0
 | x::xs=>1+z2k x+z5o xs
end
instance:Sz Expr:=⟨z2k⟩
theorem j9x (a:List Expr):z5o a=szL a:=by
 induction a with
 | nil=>rfl
 | cons x xs ih=>simp only[z5o,szL,ih];rfl
theorem q7o (x:Expr):Sz.szd x=x.Symbol.size+x.Name.size+szL x.Args:=by
 cases x;show z2k _=_;simp only[z2k,j9x]
instance:Sz Eqn where
 szd x:=x.At.Name.size+x.Expr.Symbol.size+x.Expr.Name.size+szL x.Expr.Args
theorem j1A (x:Eqn):Sz.szd x=x.At.Name.size+x.Expr.Symbol.size+x.Expr.Name.size+szL x.Expr.Args:=rfl
instance:Sz Cn where
 szd x:=x.Symbol.size+x.Name.size+x.Target.Symbol.size+x.Target.Name.size+szL x.Target.Args+x.Value.Symbol.size+x.Value.Name.size+szL x.Value.Args
theorem z7b (x:Cn):Sz.szd x=x.Symbol.size+x.Name.size+x.Target.Symbol.size+x.Target.Name.size+szL x.Target.Args+x.Value.Symbol.size+x.Value.Name.size+szL x.Value.Args:=rfl
instance:Sz Rule where
 szd x:=x.Name.size+x.Left.size+szL x.rt_+szL x.es_+szL x.cs_
theorem j0j (x:Rule):Sz.szd x=x.Name.size+x.Left.size+szL x.rt_+szL x.es_+szL x.cs_:=rfl
instance:Sz Gm_ where
 szd x:=szL x.ss_+szL x.rs_
theorem z4V (x:Gm_):Sz.szd x=szL x.ss_+szL x.rs_:=rfl
end Go.Proofs.YtgkepiefcpfimaaGreatDoor
namespace Go.E
section
variable {α:Type}{lt:α→α→Bool}
theorem j5f (irr:∀ a,lt a a=false)(tr:∀ a b c,lt a b=true→lt b c=true→lt a c=true) :
  ∀ {xs ys:List α},xs.Pairwise (fun a b=>lt a b=true)→ys.Pairwise (fun a b=>lt a b=true)→(∀ a,a∈xs↔a∈ys)→xs=ys
 | [],[],_,_,_=>rfl
 | [],y::ys,_,_,h=>absurd ((h y).2 (by simp)) (by simp)
 | x::xs,[],_,_,h=>absurd ((h x).1 (by simp)) (by simp)
 | x::xs,y::ys,hx,hy,h=>by
  rw[Dtz] at hx hy
  have asym:∀ a b,lt a b=true→lt b a=true→False:=fun a b h1 h2=>by have:=tr a b a h1 h2;rw[irr] at this;cases this
  have hxy:x=y:=by
   have h1:=(h x).1 (by simp)
   have h2:=(h y).2 (by simp)
   rcases List.mem_cons.1 h1 with e|h1
   ·exact e
   rcases List.mem_cons.1 h2 with e|h2
   ·exact e.symm
   exact (asym x y (hx.1 y h2) (hy.1 x h1)).elim
  subst hxy
  congr 1
  refine j5f irr tr hx.2 hy.2 fun a=>?_
  constructor
  ·intro ha
   rcases List.mem_cons.1 ((h a).1 (by simp[ha])) with e|h1
   ·subst e;have:=hx.1 _ ha;rw[irr] at this;cases this
   ·exact h1
  ·intro ha
   rcases List.mem_cons.1 ((h a).2 (by simp[ha])) with e|h1
   ·subst e;have:=hy.1 _ ha;rw[irr] at this;cases this
   ·exact h1
theorem k1P (tr:∀ a b c,lt a b=true→lt b c=true→lt a c=true)(tot:∀ a b,lt a b=false→lt b a=false→a=b){l:List α}{o:α}{k:Nat}(hl:l.Pairwise (fun a b=>lt a b=true))
  (hb:∀ a∈l.take k,lt a o=true) (ha:∀ y,l[k]?=some y→lt y o=false∧y≠o):(l.take k++o::l.drop k).Pairwise (fun a b=>lt a b=true):=by
 have hs:(l.take k++l.drop k).Pairwise (fun a b=>lt a b=true):=by rw[List.take_append_drop];exact hl
 rw[Duz] at hs
 have ho:∀ z∈l.drop k,lt o z=true:=by
  cases hd:l.drop k with
  | nil=>intro z hz;cases hz
  | cons y r=>
   have hy:l[k]?=some y:=by
    have:(l.drop k)[0]?=some y:=by rw[hd];rfl
    simpa using this
   obtain⟨h1,h2⟩:=ha y hy
   have h3:lt o y=true:=by
    cases h:lt o y with
    | true=>rfl
    | false=>exact absurd (tot _ _ h1 h) h2
   intro z hz
   rcases List.mem_cons.1 hz with e|hz
   ·rw[e];exact h3
   ·have:=hs.2.1;rw[hd,Dtz] at this
    exact tr _ _ _ h3 (this.1 z hz)
 rw[Duz,Dtz]
 refine⟨hs.1,⟨ho,hs.2.1⟩,fun a h1 b h2=>?_⟩
 rcases List.mem_cons.1 h2 with e|h2
 ·rw[e];exact hb a h1
 ·exact hs.2.2 a h1 b h2
end
section
variable {α:Type}[DecidableEq α]{lt:α→α→Bool}
def q5G:List α→List α
 | []=>[]
 | [x]=>[x]
 | x::y::l=>if x=y then q5G (y::l) else x::q5G (y::l)
theorem z7W {a:α}:∀ {l:List α},a∈q5G l↔a∈l
 | []=>Iff.rfl
 | [x]=>Iff.rfl
 | x::y::l=>by
  unfold q5G
  have ih:=z7W (a:=a) (l:=y::l)
  split
  ·rename_i e;subst e;rw[ih];simp
  ·rw[Dsz,ih];simp
theorem z7X (tr:∀ a b c,lt a b=true→lt b c=true→lt a c=true)(tot:∀ a b,lt a b=false→lt b a=false→a=b) :
  ∀ {l:List α},l.Pairwise (fun a b=>lt b a=false)→(q5G l).Pairwise (fun a b=>lt a b=true)
 | [],_=>List.Pairwise.nil
 | [x],_=>by simp[q5G]
 | x::y::l,h=>by
  unfold q5G
  rw[Dtz] at h
  have ih:=z7X tr tot h.2
  split
  ·exact ih
  ·rename_i hne
   rw[Dtz]
   refine⟨fun z hz=>?_,ih⟩
   have h1:lt x y=true:=by
    cases e:lt x y with
    | true=>rfl
    | false=>exact absurd (tot _ _ e (h.1 y (by simp))) hne
   rcases List.mem_cons.1 (z7W.1 hz) with e|hz
   ·rw[e];exact h1
   ·have h2:=(List.pairwise_cons.1 h.2).1 z hz
    cases e:lt y z with
    | true=>exact tr _ _ _ h1 e
    | false=>rw[← tot _ _ e h2];exact h1
theorem j0k {a:α}:∀ {l:List α},q5G (l++[a])=if l.getLast?=some a then q5G l else q5G l++[a]
 | []=>by simp[q5G]
 | [x]=>by
  simp only[q5G,List.cons_append,List.nil_append,List.getLast?_singleton,Option.some.injEq]
  by_cases e:x=a
  ·subst e;simp
  ·simp[e]
 | x::y::l=>by
  have ih:=j0k (a:=a) (l:=y::l)
  simp only[List.cons_append] at ih ⊢
  have e:(x::y::l).getLast?=(y::l).getLast?:=by simp[List.getLast?_cons_cons]
  rw[e]
  show (if x=y then q5G (y::(l++[a])) else x::q5G (y::(l++[a])))=_
  rw[ih]
  show _=if (y::l).getLast?=some a then (if x=y then q5G (y::l) else x::q5G (y::l)) else (if x=y then q5G (y::l) else x::q5G (y::l))++[a]
  split<;>split<;>simp
theorem j0l {l:List α}{i:Nat}{a b:α}(ha:l[i]?=some a)(hb:l[i+1]?=some b):q5G (l.take (i+2))=if a=b then q5G (l.take (i+1)) else q5G (l.take (i+1))++[b]:=by
 have h1:l.take (i+2)=l.take (i+1)++[b]:=by rw[show i+2=(i+1)+1 from rfl,Dvz,hb];rfl
 have h2:(l.take (i+1)).getLast?=some a:=by rw[Dvz,ha];simp
 rw[h1,j0k,h2]
 by_cases e:a=b
 ·simp[e]
 ·simp[e]
end
end Go.E
namespace Go.Proofs.YtgkepiefcpfimaaGreatDoor
open Go Go.E
mutual
def z6M:Expr→List Oc
 | ⟨a0,a1,a2,a3,a4,a5,a6⟩=>(if a0=3 then [⟨a2,a5⟩] else [])++z2l a6
def z2l:List Expr→List Oc
 | []=>[]
 | x::xs=>z6M x++z2l xs
end
mutual
def fuE:Expr→Nat
 | ⟨_,_,_,_,_,_,a6⟩=>fuEs a6+1
def fuEs:List Expr→Nat
 | []=>0
 | x::xs=>max (fuE x) (fuEs xs)
end
theorem j1B (e:Expr):fuE e=fuEs e.Args+1:=by cases e;rfl
theorem j6r:∀ {l:List Expr} {x:Expr},x∈l→fuE x≤fuEs l
 | y::l,x,h=>by
  simp only[fuEs]
  rcases List.mem_cons.1 h with e|h
  ·subst e;omega
  ·have:=j6r h;omega
theorem z6N (e:Expr):z6M e=(if e.Kind=3 then [⟨e.Pos,e.Name⟩] else [])++z2l e.Args:=by cases e;rfl
mutual
theorem j7Y:∀ e:Expr,(z6M e).length≤1+z2k e
 | ⟨a0,a1,a2,a3,a4,a5,a6⟩=>by
  have:=j5g a6
  simp only[z6M,z2k,Axz]
  split<;>simp<;>omega
theorem j5g:∀ l:List Expr,(z2l l).length≤z5o l
 | []=>by simp[z2l]
 | x::xs=>by
  have h1:=j7Y x
  have h2:=j5g xs
  simp only[z2l,z5o,Axz];omega
end
theorem z6O {α:Type}[Sz α]{x:α}:∀ {l:List α},x∈l→Sz.szd x<szL l
 | [],h=>by simp at h
 | y::l,h=>by
  rcases List.mem_cons.1 h with rfl|h
  ·simp only[szL];omega
  ·have:=z6O h;simp only[szL];omega
theorem k6X {e x:Expr}(h:x∈e.Args):Sz.szd x<Sz.szd e:=by
 have h1:=q7o e
 have h2:=z6O h
 omega
theorem k3l {e:Expr}(h:Sz.szd e≤1048576):(z6M e).length≤1048577:=by
 have h1:=j7Y e
 have h2:z2k e=Sz.szd e:=rfl
 omega
theorem j9y:∀ (m:Nat) (e:Expr) (o:List Oc),fuE e≤m→o.length+(z6M e).length≤4398046511104→q5f m e o=some (true,o++z6M e):=by
 intro m
 induction m with
 | zero=>intro e o h;rw[j1B] at h;omega
 | succ m ih=>
  have hl:∀ (l:List Expr) (i:Nat) (o:List Oc),fuEs l≤m→o.length+(z2l l).length≤4398046511104→findL (q4I (q5f m)) i l o=some (.inl (o++z2l l)):=by
   intro l
   induction l with
   | nil=>intro i o _ _;simp[findL,z2l]
   | cons x l ihl=>
    intro i o hf hb
    simp only[fuEs] at hf
    simp only[z2l,Axz] at hb
    have hx:=ih x o (by omega) (by omega)
    simp only[findL,q4I,q6b,hx,bsS,Bool.not_true,Bool.false_eq_true,if_false]
    rw[ihl _ _ (by omega) (by rw[Axz];omega),z2l,List.append_assoc]
  intro e o hf hb
  rw[j1B] at hf
  show q5z (q5f m) e o=_
  have hb':=hb
  rw[z6N,Axz] at hb'
  have h1:q8F e o=some (true,o++if e.Kind=3 then [⟨e.Pos,e.Name⟩] else []):=by
   unfold q8F
   by_cases hk:e.Kind=3
   ·rw[ifP hk] at hb' ⊢
    rw[ifP hk,q3P]
    simp only[lnC,List.length_nil] at hb'
    constructor<;>omega
   ·rw[ifN hk,ifN hk,List.append_nil]
  unfold q5z
  rw[h1,bsS]
  dsimp only
  rw[ifP rfl]
  unfold q4b q4g
  rw[hl _ _ _ (by omega) (by rw[Axz];omega),z6N]
  simp[onr]
theorem k5B {e:Expr}(h:(z6M e).length≤4398046511104):q7s e []=some (true,z6M e):=
 z0K (fuE e) fun m hm=>by simpa using j9y m e [] hm (by simpa using h)
theorem j9z {α:Type}{s:List α}{k:Nat}{x:α}(h:k<s.length):(s.set k x).take (k+1)=s.take k++[x]:=by
 rw[Dvz,List.take_set,List.set_eq_of_length_le (by simp;omega)]
 simp[List.getElem?_set,h]
theorem k1Q {a:List Oc}{b:Nat}(ha:a.length≤4398046511104)(hb:1≤b)(hba:b<a.length):∀ (m j k:Nat) (s:List Oc),b+j+m=a.length→1≤j→1≤k→k≤b+j-1→s.length=a.length→s.take k=q5G (a.take (b+j))→s.drop (b+j-1)=a.drop (b+j-1) →
  ∃ s' k',q4D (q4s (b:Int)) (s,(k:Int),(j:Int))=some (s',((k' : Nat):Int))∧k'≤s'.length∧s'.take k'=q5G a:=by
 intro m
 induction m with
 | zero=>
  intro j k s hm hj hk hkj hs ht hd
  refine⟨s,k,q3Q ?_,by omega,?_⟩
  ·unfold q4s
   dsimp only
   rw[ifN (by simp only[tnC,Bsz];omega)]
  ·rw[ht,show b+j=a.length by omega,List.take_length]
 | succ m ih=>
  intro j k s hm hj hk hkj hs ht hd
  obtain⟨x,hx⟩:∃ x,a[b+j]?=some x:=⟨_,Cmz (by omega)⟩
  obtain⟨y,hy⟩:∃ y,a[b+j-1]?=some y:=⟨_,Cmz (by omega)⟩
  obtain⟨z,hz⟩:∃ z,s[k]?=some z:=⟨_,Cmz (by omega)⟩
  have hsx:s[b+j]?=some x:=by
   have:=congrArg (fun l=>l[1]?) hd
   simp only[Baz] at this
   rw[show b+j-1+1=b+j by omega] at this
   rw[this,hx]
  have hsy:s[b+(j-1)]?=some y:=by
   have:=congrArg (fun l=>l[0]?) hd
   simp only[Baz,Cxz] at this
   rw[show b+(j-1)=b+j-1 by omega,this,hy]
  have hc:=j0l (i:=b+j-1) (b:=x) hy (by rw[show b+j-1+1=b+j by omega];exact hx)
  rw[show b+j-1+2=b+(j+1) by omega,show b+j-1+1=b+j by omega] at hc
  have hd2:s.drop (b+(j+1)-1)=a.drop (b+(j+1)-1):=by
   have:=congrArg (fun l=>l.drop 1) hd
   simp only[List.drop_drop] at this
   rw[show b+(j+1)-1=b+j-1+1 by omega];exact this
  have e1:((j:Int)-1).toNat=j-1:=by omega
  by_cases hxy:x=y
  ·have e:q4s (b:Int) (s,(k:Int),(j:Int))=some (.inl (s,(k:Int),((j+1:Nat):Int))):=by
    unfold q4s
    dsimp only
    rw[ifP (by simp only[tnC,Bsz];omega),q3P (by omega)]
    simp only[tnC]
    rw[hsx,bsS,q3P (by constructor<;>omega),q3P (by omega),e1,hsy,bsS,ifP hxy,bsS]
    dsimp only
    rw[q3P (by constructor<;>omega)];rfl
   rw[q4a e]
   exact ih (j+1) k s (by omega) (by omega) hk (by omega) hs (by rw[hc,ifP hxy.symm,ht]) hd2
  ·have e:q4s (b:Int) (s,(k:Int),(j:Int))=some (.inl (s.set k x,((k+1:Nat):Int),((j+1:Nat):Int))):=by
    unfold q4s
    dsimp only
    rw[ifP (by simp only[tnC,Bsz];omega),q3P (by omega)]
    simp only[tnC]
    rw[hsx,bsS,q3P (by constructor<;>omega),q3P (by omega),e1,hsy,bsS,ifN hxy,q3P (by omega),q3P (by omega),hz,bsS,q3P (by constructor<;>omega),bsS]
    dsimp only
    rw[q3P (by constructor<;>omega)];rfl
   rw[q4a e]
   refine ih (j+1) (k+1) _ (by omega) (by omega) (by omega) (by omega) (by rw[List.length_set];exact hs) ?_ ?_
   ·rw[j9z (by omega),ht,hc,ifN (fun h=>hxy h.symm)]
   ·rw[List.drop_set,ifP (by omega)];exact hd2
theorem j9A {a:List Oc}(ha:a.length≤4398046511104):∀ (m k:Nat),k+m=a.length→1≤k→q5G (a.take k)=a.take k →
  (q4D (q4t a) (k:Int)).bind (onr (fun r1=>some r1) fun _=>some a)=some (q5G a):=by
 intro m
 induction m with
 | zero=>
  intro k hm hk hc
  have e:q4t a (k:Int)=some (.inr (.inl ())):=by
   unfold q4t
   dsimp only
   rw[ifN (by omega)]
  rw[q3Q e,bsS]
  show some a=_
  rw[show k=a.length by omega,List.take_length] at hc
  rw[hc]
 | succ m ih=>
  intro k hm hk hc
  obtain⟨x,hx⟩:∃ x,a[k]?=some x:=⟨_,Cmz (by omega)⟩
  obtain⟨y,hy⟩:∃ y,a[k-1]?=some y:=⟨_,Cmz (by omega)⟩
  have hct:=j0l (i:=k-1) (b:=x) hy (by rw[show k-1+1=k by omega];exact hx)
  rw[show k-1+2=k+1 by omega,show k-1+1=k by omega] at hct
  have htk:a.take (k+1)=a.take k++[x]:=by rw[Dvz,hx];rfl
  have e1:((k:Int)-1).toNat=k-1:=by omega
  by_cases hxy:x=y
  ·obtain⟨s',k',h1,h2,h3⟩:=k1Q (b:=k) ha hk (by omega) m 1 k a (by omega) (by omega) hk (by omega) rfl (by rw[hct,ifP hxy.symm,hc]) rfl
   have hl:(s'.take k'++List.replicate (s'.length-k') (⟨(0:Int),(⟨#[]⟩:BA_)⟩:Oc)).take k'=q5G a:=by
    rw[List.take_append_of_le_length (by simp;omega),List.take_take,Nat.min_self,h3]
   have e:q4t a (k:Int)=some (.inr (.inr (q5G a))):=by
    unfold q4t
    dsimp only
    rw[ifP (by omega),q3P (by omega)]
    simp only[tnC]
    rw[hx,bsS,q3P (by constructor<;>omega),q3P (by omega),e1,hy,bsS,ifP hxy,q3P (by omega),q3P (by omega)]
    have h1' : q4D (q4s (k:Int)) (a,(k:Int),1)=some (s',((k' : Nat):Int)):=h1
    rw[h1',bsS]
    dsimp only
    simp only[tnC]
    rw[q3P (by omega),q3P (by omega),q3P (by omega),q3P (by simp;omega),hl]
   rw[q3Q e,bsS];rfl
  ·have e:q4t a (k:Int)=some (.inl ((k+1:Nat):Int)):=by
    unfold q4t
    dsimp only
    rw[ifP (by omega),q3P (by omega)]
    simp only[tnC]
    rw[hx,bsS,q3P (by constructor<;>omega),q3P (by omega),e1,hy,bsS,ifN hxy,q3P (by constructor<;>omega)];rfl
   rw[q4a e]
   exact ih (k+1) (by omega) (by omega) (by rw[hct,ifN (fun h=>hxy h.symm),hc,htk])
theorem k1R {a:List Oc}(ha:a.length≤4398046511104):q5T a=some (q5G a):=by
 unfold q5T
 by_cases h:(a.length:Int)<2
 ·rw[ifP h]
  match a,h with
  | [],_=>rfl
  | [x],_=>rfl
  | x::y::l,h=>simp only[lnC] at h;omega
 ·rw[ifN h]
  refine j9A ha (a.length-1) 1 (by omega) (Acz _) ?_
  match a,h with
  | x::l,_=>rfl
def attrs (e:Expr):List Oc:=q5G (j7y (z6M e))
theorem k3m {o:Oc}{e:Expr}:o∈attrs e↔o∈z6M e:=by
 unfold attrs j7y
 rw[z7W,List.mem_mergeSort]
theorem j2h {e:Expr}(h:Sz.szd e≤1048576):q7t e=some (attrs e):=by
 have hl:=k3l h
 have hs:(j7y (z6M e)).length=(z6M e).length:=by unfold j7y;exact List.length_mergeSort _
 unfold q7t
 rw[k5B (by omega),bsS]
 dsimp only
 unfold q6A
 rw[q3P (by omega),bsS,k1R (by omega)];rfl
theorem z6l (e:Expr):1≤fuE e:=by rw[j1B];omega
theorem z5p {e x:Expr}(hx:x∈e.Args):fuE x+1≤fuE e:=by
 have:=j6r hx
 have:=j1B e
 omega
theorem z1f {P:Expr→Prop}(h:∀ e,(∀ x∈e.Args,P x)→P e)(e:Expr):P e:=by
 have:∀ n e,fuE e≤n→P e:=by
  intro n
  induction n with
  | zero=>intro e he;have:=z6l e;omega
  | succ n ih=>intro e he;exact h e fun x hx=>ih x (by have:=z5p hx;omega)
 exact this _ e (Acz _)
theorem q4X {α ρ:Type}{c:ρ}{q:α→Bool}:∀ {xs:List α} {i:Nat} {f:Nat→α→Unit→Option (Unit ⊕ ρ)},(∀ k x,x∈xs→f k x ()=some (if q x=true then .inl () else .inr c))→findL f i xs ()=some (if xs.all q=true then .inl () else .inr c)
 | [],i,f,h=>rfl
 | x::xs,i,f,h=>by
  rw[findL,h i x (by simp)]
  by_cases hx:q x=true
  ·rw[ifP hx,bsS]
   show findL f (i+1) xs ()=_
   rw[q4X fun k y hy=>h k y (by simp[hy])]
   simp[hx]
  ·rw[ifN hx];simp[hx]
theorem j3C {α:Type}{q:α→Bool}:∀ {xs:List α} {i:Nat} {f:Nat→α→Unit→Option (Unit ⊕ Int)},(∀ k x,x∈xs→f k x ()=some (if q x=true then .inr (k:Int) else .inl ()))→findL f i xs ()=some (if xs.any q=true then .inr ((i+xs.findIdx q:Nat):Int) else .inl ())
 | [],i,f,h=>rfl
 | x::xs,i,f,h=>by
  rw[findL,h i x (by simp)]
  by_cases hx:q x=true
  ·rw[ifP hx];simp[hx,Dwz]
  ·rw[ifN hx,bsS]
   show findL f (i+1) xs ()=_
   rw[j3C fun k y hy=>h k y (by simp[hy])]
   have hx' : q x=false:=by simpa using hx
   simp only[List.any_cons,hx',Bool.false_or,Dwz,cond_false]
   rw[show i+1+xs.findIdx q=i+(xs.findIdx q+1) by omega]
mutual
def allE (p:Expr→Bool):Expr→Bool
 | ⟨a0,a1,a2,a3,a4,a5,a6⟩=>p ⟨a0,a1,a2,a3,a4,a5,a6⟩&&k5C p a6
def k5C (p:Expr→Bool):List Expr→Bool
 | []=>true
 | x::xs=>allE p x&&k5C p xs
end
mutual
def cntE:Expr→Nat
 | ⟨_,_,_,_,_,_,a6⟩=>z6P a6+1
def z6P:List Expr→Nat
 | []=>0
 | x::xs=>cntE x+z6P xs
end
mutual
def depE:Expr→Nat
 | ⟨_,_,_,_,_,_,a6⟩=>j4E a6+1
def j4E:List Expr→Nat
 | []=>0
 | x::xs=>max (depE x) (j4E xs)
end
theorem k0D (p:Expr→Bool):∀ l,k5C p l=l.all (allE p)
 | []=>rfl
 | x::xs=>by rw[k5C,k0D p xs];rfl
theorem j0V (p:Expr→Bool)(e:Expr):allE p e=(p e&&e.Args.all (allE p)):=by
 cases e;rw[allE,k0D]
theorem j0W (e:Expr):cntE e=z6P e.Args+1:=by cases e;rfl
theorem k3n (e:Expr):depE e=j4E e.Args+1:=by cases e;rfl
mutual
theorem j6s:∀ e:Expr,cntE e≤1+z2k e
 | ⟨a0,a1,a2,a3,a4,a5,a6⟩=>by
  have:=j7Z a6
  simp only[cntE,z2k];omega
theorem j7Z:∀ l:List Expr,z6P l≤z5o l
 | []=>by simp[z6P]
 | x::xs=>by
  have h1:=j6s x
  have h2:=j7Z xs
  simp only[z6P,z5o];omega
end
theorem k6Y {e:Expr}(h:Sz.szd e≤1048576):cntE e≤1048577:=by
 have h1:=j6s e
 have h2:z2k e=Sz.szd e:=rfl
 omega
mutual
theorem k3o:∀ e:Expr,depE e≤cntE e
 | ⟨_,_,_,_,_,_,a6⟩=>by
  have:=k0E a6
  simp only[depE,cntE];omega
theorem k0E:∀ l:List Expr,j4E l≤z6P l
 | []=>Acz _
 | x::xs=>by
  have h1:=k3o x
  have h2:=k0E xs
  simp only[j4E,z6P];omega
end
theorem j8a:∀ {l:List Expr} {x:Expr},x∈l→cntE x≤z6P l
 | y::l,x,h=>by
  simp only[z6P]
  rcases List.mem_cons.1 h with e|h
  ·subst e;omega
  ·have:=j8a h;omega
theorem k3p {e x:Expr}(hx:x∈e.Args):cntE x+1≤cntE e:=by
 have:=j8a hx
 have:=j0W e
 omega
theorem k1S (e:Expr):∀ m,fuE e≤m→cntE e≤1099511627776→z1w m e=some (cntE e:Int):=by
 induction e using z1f with
 | h e ih=>
  intro m hm hc
  obtain⟨m,rfl⟩:∃ q,m=q+1:=⟨m-1,by have:=z6l e;omega⟩
  show z3n (z1w m) e=_
  unfold z3n
  have key:∀ (l:List Expr) (i s:Nat),(∀ x∈l,x∈e.Args)→s+z6P l≤1099511627776→eachL (z3U (z1w m)) i l (s:Int)=some ((s+z6P l:Nat):Int):=by
   intro l
   induction l with
   | nil=>intro i s _ _;rfl
   | cons x l ihl=>
    intro i s hx hs
    have hxm:=hx x (by simp)
    simp only[z6P] at hs
    have h1:=ih x hxm m (by have:=z5p hxm;omega) (by omega)
    rw[eachL]
    unfold z3U
    rw[h1,bsS,q3P (by constructor<;>omega),bsS]
    have:=ihl (i+1) (s+cntE x) (fun y hy=>hx y (by simp[hy])) (by omega)
    rw[Int.natCast_add] at this
    unfold z3U at this
    rw[this,z6P]
    congr 1;omega
  rw[j0W] at hc
  have:=key e.Args 0 1 (fun _ h=>h) (by omega)
  rw[show ((1:Nat):Int)=1 from rfl] at this
  rw[this,bsS,j0W,Nat.add_comm]
theorem k3q {e:Expr}(h:cntE e≤1099511627776):z7x e=some (cntE e:Int):=z0K (fuE e) fun m hm=>k1S e m hm h
theorem k9f (a b:Nat):(if (b:Int) > (a:Int) then (b:Int) else (a:Int))=((max a b:Nat):Int):=by
 split<;>omega
theorem j3D {f:Expr→Option Int}{g:Nat→Expr→Int→Option Int}(hg:∀ k x s,g k x s=(f x).bind fun y=>some (if y > s then y else s)):∀ (l:List Expr) (i s:Nat),(∀ x∈l,f x=some (depE x:Int))→eachL g i l (s:Int)=some ((max s (j4E l):Nat):Int)
 | [],i,s,_=>by rw[eachL,j4E,Nat.max_zero]
 | x::l,i,s,h=>by
  rw[eachL,hg,h x (by simp),bsS,bsS,k9f,j3D hg l (i+1) _ fun y hy=>h y (by simp[hy]),j4E,Nat.max_assoc]
theorem k3r (a b:Int):z2Y a b=some (if b > a then b else a):=by
 unfold z2Y
 by_cases h:b<a
 ·rw[ifP h,ifN (by omega)]
 ·rw[ifN h]
  split
  ·rfl
  ·congr 1;omega
theorem j5h (e:Expr):∀ m,fuE e≤m→cntE e≤1099511627776→q7R m e=some (depE e:Int)∧q7Q m e=some (depE e:Int):=by
 induction e using z1f with
 | h e ih=>
  intro m hm hc
  obtain⟨m,rfl⟩:∃ q,m=q+1:=⟨m-1,by have:=z6l e;omega⟩
  show z0V (q7R m) e=_∧z0T (q7Q m) e=_
  unfold z0V z0T
  have hx:∀ x∈e.Args,q7R m x=some (depE x:Int)∧q7Q m x=some (depE x:Int):=fun x hx=>ih x hx m (by have:=z5p hx;omega) (by have:=k3p hx;omega)
  have k1:=j3D (f:=q7R m) (g:=z7y (q7R m)) (fun k x s=>rfl) e.Args 0 0 fun x h=>(hx x h).1
  have k2:=j3D (f:=q7Q m) (g:=z4v (q7Q m)) (fun k x s=>by
   unfold z4v
   congr 1;funext y
   rw[k3r,bsS]) e.Args 0 0 fun x h=>(hx x h).2
  rw[show ((0:Nat):Int)=0 from rfl] at k1 k2
  have hd:=k3o e
  rw[k3n] at hd
  rw[k1,k2]
  have hg:I64 (((max 0 (j4E e.Args):Nat):Int)+1):=by constructor<;>omega
  have he:((max 0 (j4E e.Args):Nat):Int)+1=(depE e:Int):=by rw[k3n];omega
  refine⟨?_,?_⟩
  ·rw[bsS,q3P hg,he]
  ·rw[bsS,q3P hg,he]
theorem k3s {e:Expr}(h:cntE e≤1099511627776):z5w e=some (depE e:Int):=z0K (fuE e) fun m hm=>(j5h e m hm h).1
theorem k3t {e:Expr}(h:cntE e≤1099511627776):z5v e=some (depE e:Int):=z0K (fuE e) fun m hm=>(j5h e m hm h).2
def j1W (a:Int)(n:Nat):Int:=if (n:Int)≤a then a-n else -1
theorem k3u (e:Expr):∀ m,fuE e≤m→∀ a:Int,0≤a→a≤1048576→cntE e≤1099511627776→z4u m e a=some (j1W a (cntE e)):=by
 induction e using z1f with
 | h e ih=>
  intro m hm a h0 h1 hc
  obtain⟨m,rfl⟩:∃ q,m=q+1:=⟨m-1,by have:=z6l e;omega⟩
  show z7n (z4u m) e a=_
  unfold z7n
  rw[q3P (by constructor<;>omega)]
  have hlen:e.Args.length≤cntE e:=by
   rw[j0W]
   have:∀ l:List Expr,l.length≤z6P l:=by
    intro l
    induction l with
    | nil=>simp
    | cons x l ih=>
     have:=j0W x
     simp only[z6P,lnC];omega
   have:=this e.Args;omega
  have key:∀ (n k:Nat) (s:Int),k+n=e.Args.length→-1≤s→s≤1048576→q4D (z4d (z4u m) e) (s,(k:Int))=some (if 0≤s then j1W s (z6P (e.Args.drop k)) else s):=by
   intro n
   induction n with
   | zero=>
    intro k s hk _ _
    have hdrop:e.Args.drop k=[]:=List.drop_eq_nil_of_le (by omega)
    refine q3Q ?_
    unfold z4d
    dsimp only
    rw[ifN (by omega),hdrop]
    congr 2
    split
    ·unfold j1W;simp[z6P];omega
    ·rfl
   | succ n ihn=>
    intro k s hk hs1 hs2
    have hkl:k<e.Args.length:=by omega
    by_cases hs:0≤s
    ·have hxm:e.Args[k]∈e.Args:=List.getElem_mem hkl
     have hr:=ih _ hxm m (by have:=z5p hxm;omega) s hs hs2 (by have:=k3p hxm;omega)
     have hstep:z4d (z4u m) e (s,(k:Int))=some (.inl (j1W s (cntE e.Args[k]),((k+1:Nat):Int))):=by
      unfold z4d
      dsimp only
      rw[ifP (by omega),ifP hs,q3P (by omega),tnC,Cmz hkl,bsS,hr,bsS,q3P (by constructor<;>omega)]
      rfl
     have hb1:-1≤j1W s (cntE e.Args[k]):=by unfold j1W;split<;>omega
     have hb2:j1W s (cntE e.Args[k])≤1048576:=by unfold j1W;split<;>omega
     rw[q4a hstep,ihn (k+1) _ (by omega) hb1 hb2,ifP hs]
     have hd:e.Args.drop k=e.Args[k]::e.Args.drop (k+1):=List.drop_eq_getElem_cons hkl
     rw[hd,z6P]
     congr 1
     unfold j1W
     split<;>split<;>(try split)<;>omega
    ·refine q3Q ?_
     unfold z4d
     dsimp only
     rw[ifP (by omega),ifN hs,ifN hs]
  have:=key e.Args.length 0 (a-1) (by omega) (by omega) (by omega)
  rw[show ((0:Nat):Int)=0 from rfl] at this
  rw[this,bsS,List.drop_zero,j0W]
  congr 1
  unfold j1W
  split<;>(try split)<;>(try split)<;>omega
theorem k5D {e:Expr}{a:Int}(h0:0≤a)(h1:a≤1048576)(h:cntE e≤1099511627776):j2Q e a=some (j1W a (cntE e)):=z0K (fuE e) fun m hm=>k3u e m hm a h0 h1 h
theorem k1T (x lo hi:Int):q4n x lo hi=some (decide (lo≤x∧x≤hi)):=by
 unfold q4n;by_cases h:lo≤x<;>simp[h]
theorem j6t (x lo hi:Int):q6a x lo hi=some (decide (lo≤x∧x≤hi)):=by
 unfold q6a;by_cases h:lo≤x<;>simp[h]
def lowB (c:UInt8):Bool:=decide (97≤(c.toNat:Int)∧(c.toNat:Int)≤122)
def digB (c:UInt8):Bool:=decide (48≤(c.toNat:Int)∧(c.toNat:Int)≤57)
theorem j0X (c:UInt8):z4f c=some (lowB c):=by
 unfold z4f lowB;by_cases h:97≤(c.toNat:Int)<;>simp[h]
theorem k1U (c:UInt8):z5P c=some (digB c):=by
 unfold z5P digB;by_cases h:48≤(c.toNat:Int)<;>simp[h]
def allN (q:Nat→Bool):Nat→Nat→Bool
 | _,0=>true
 | i,n+1=>q i&&allN q (i+1) n
theorem j5i {q r:Nat→Bool}:∀ {n i:Nat},(∀ k,i≤k→q k=r k)→allN q i n=allN r i n
 | 0,_,_=>rfl
 | n+1,i,h=>by rw[allN,allN,h i (Acz _),j5i fun k hk=>h k (by omega)]
theorem j0Y {ρ:Type}{c:ρ}{q:Nat→Bool}:∀ {n i:Nat} {f:Nat→Unit→Option (Unit ⊕ ρ)},(∀ k,k<n→f (i+k) ()=some (if q (i+k)=true then .inl () else .inr c))→findN f i n ()=some (if allN q i n=true then .inl () else .inr c)
 | 0,i,f,h=>rfl
 | n+1,i,f,h=>by
  have h0:=h 0 (by omega)
  rw[Cxz] at h0
  rw[findN,h0]
  by_cases hx:q i=true
  ·rw[ifP hx,bsS]
   show findN f (i+1) n ()=_
   rw[j0Y fun k hk=>by have:=h (k+1) (by omega);rwa[show i+(k+1)=i+1+k by omega] at this]
   simp[allN,hx]
  ·rw[ifN hx];simp[allN,hx]
def chr (s:BA_)(k:Nat):UInt8:=s.data.getD k 0
theorem j6u {s:BA_}{k:Nat}(h:k<s.size):s.data[k]?=some (chr s k):=by
 have h' : k<s.data.size:=h
 unfold chr
 rw[Array.getD_eq_getD_getElem?,Array.getElem?_eq_getElem h'];rfl
def j0m:List BA_:=[⟨#[105,102]⟩,⟨#[116,104,101,110]⟩,⟨#[101,108,115,101]⟩,⟨#[116,114,117,101]⟩,⟨#[102,97,108,115,101]⟩,⟨#[108,105,116]⟩,⟨#[110,111,110,101]⟩,⟨#[115,101,108,102]⟩,⟨#[111,102]⟩,⟨#[109,97,120]⟩,⟨#[109,105,110]⟩,⟨#[119,105,116,104]⟩,⟨#[104,97,115]⟩]
def memB (s:BA_)(l:List BA_):Bool:=l.any fun x=>decide (x=s)
theorem k5E {s:BA_}{l:List BA_}:memB s l=true↔s∈l:=by
 unfold memB;rw[List.any_eq_true]
 exact⟨fun ⟨x,h1,h2⟩=>by simp at h2;exact h2▸h1,fun h=>⟨s,h,by simp⟩⟩
theorem k5F {s:BA_}{l:List BA_}(h:s∉l):memB s l=false:=by
 cases hb:memB s l with
 | false=>rfl
 | true=>exact absurd (k5E.1 hb) h
def resB (s:BA_):Bool:=memB s j0m
theorem k5G (l:List BA_)(s:BA_):z2Z l s=some (memB s l):=by
 unfold z2Z
 have:∀ (l:List BA_) (i:Nat),findL (z9H s) i l ()=some (if memB s l=true then .inr true else .inl ()):=by
  intro l
  induction l with
  | nil=>intro i;rfl
  | cons x l ih=>
   intro i
   rw[findL]
   unfold z9H at ih ⊢
   have hc:memB s (x::l)=(decide (x=s)||memB s l):=rfl
   by_cases h:x=s
   ·rw[ifP h,hc];simp[h]
   ·rw[ifN h,bsS]
    show findL _ (i+1) l ()=_
    rw[ih,hc];simp[h]
 rw[this,bsS]
 cases memB s l<;>rfl
theorem k7S (s:BA_):z1K s=some (resB s):=by
 unfold z1K z3T
 rw[bsS,k5G];rfl
theorem k7T (s:BA_):z1M s=some (resB s):=by
 by_cases h:s∈j0m
 ·unfold j0m at h
  simp only[Dsz,List.not_mem_nil,or_false] at h
  rcases h with h|h|h|h|h|h|h|h|h|h|h|h|h<;>subst h<;>rfl
 ·unfold resB
  rw[k5F h]
  unfold j0m at h
  simp only[Dsz,List.not_mem_nil,or_false,not_or] at h
  obtain⟨h1,h2,h3,h4,h5,h6,h7,h8,h9,h10,h11,h12,h13⟩:=h
  unfold z1M
  rw[ifN h1,ifN h2,ifN h3,ifN h4,ifN h5,ifN h6,ifN h7,ifN h8,ifN h9,ifN h10,ifN h11,ifN h12]
  simp[h13]
def q9G (s:BA_):Bool:=decide (0<s.size∧s.size≤8)&&(lowB (chr s 0)&&allN (fun k=>lowB (chr s k)||digB (chr s k)) 1 (s.size-1) && !resB s)
theorem z4a (s:BA_):q4Y s=some (q9G s):=by
 unfold q4Y
 rw[j0Y (c:=false) (q:=fun k=>lowB (chr s k)||digB (chr s k)) fun k hk=>by
  rw[Adz]
  unfold z7w
  rw[j6u hk,bsS,j0X,bsS]
  cases lowB (chr s k) with
  | true=>rfl
  | false=>
   rw[ifN (by simp),k1U,bsS]
   cases digB (chr s k)<;>rfl]
 rw[bsS]
 by_cases h0:0<s.size
 ·obtain⟨n,hn⟩:∃ n,s.size=n+1:=⟨s.size-1,by omega⟩
  unfold q9G
  rw[hn,allN,Drz]
  cases ha:allN (fun k=>lowB (chr s k)||digB (chr s k)) (0+1) n with
  | false=>
   rw[Bool.and_false,ifN (by simp)]
   rw[Adz] at ha
   simp[onr,ha]
  | true=>
   rw[Adz] at ha
   try rw[ha]
   simp only[Bool.and_true]
   have hc:=j6u h0
   cases hl:lowB (chr s 0) with
   | false=>
    cases hd:digB (chr s 0) with
    | false=>simp[onr]
    | true=>
     rw[ifP (by simp)]
     show (q4n _ 1 8).bind _=_
     rw[k1T,bsS]
     split
     ·rw[hc,bsS,j0X,hl];simp
     ·simp
   | true=>
    rw[ifP (by simp)]
    show (q4n _ 1 8).bind _=_
    rw[k1T,bsS]
    by_cases h8:n+1≤8
    ·rw[ifP (by simp;omega),hc,bsS,j0X,hl]
     simp[k7T,h8]
    ·rw[ifN (by simp;omega)];simp[h8]
 ·have hs:s.size=0:=by omega
  unfold q9G
  rw[hs,allN,ifP rfl,z4p,k1T,bsS]
  simp
theorem z2m (s:BA_):q5n s=some (q9G s):=by
 unfold q5n z8p
 rw[j0Y (c:=false) (q:=fun k=>lowB (chr s k)||(decide (k≠0)&&digB (chr s k))) fun k hk=>by
  rw[Adz]
  unfold j2R
  rw[j6u hk,bsS]
  have e1:(if 97≤((chr s k).toNat:Int) then some (decide (((chr s k).toNat:Int)≤122)) else some false)=some (lowB (chr s k)):=by
   unfold lowB;by_cases h:97≤((chr s k).toNat:Int)<;>simp[h]
  have e2:(if 48≤((chr s k).toNat:Int) then some (decide (((chr s k).toNat:Int)≤57)) else some false)=some (digB (chr s k)):=by
   unfold digB;by_cases h:48≤((chr s k).toNat:Int)<;>simp[h]
  rw[e1,e2,bsS,bsS]
  cases lowB (chr s k) with
  | true=>rfl
  | false=>
   by_cases hk0:k=0
   ·subst hk0;simp
   ·have:¬ ((k:Int)=0):=by omega
    rw[ifN (by simp),ifN this]
    cases digB (chr s k)<;>simp[hk0]]
 rw[bsS]
 by_cases h0:0<s.size
 ·obtain⟨n,hn⟩:∃ n,s.size=n+1:=⟨s.size-1,by omega⟩
  unfold q9G
  rw[hn,allN,Drz,Adz,j5i (n:=n) (i:=1) (q:=fun k=>lowB (chr s k)||(decide (k≠0)&&digB (chr s k))) (r:=fun k=>lowB (chr s k)||digB (chr s k)) fun k hk=>by simp[show k≠0 by omega]]
  have e0:(lowB (chr s 0)||(decide ((0:Nat)≠0)&&digB (chr s 0)))=lowB (chr s 0):=by simp
  rw[e0]
  cases hA:(lowB (chr s 0)&&allN (fun k=>lowB (chr s k)||digB (chr s k)) 1 n) with
  | false=>simp[onr]
  | true=>
   rw[ifP rfl]
   simp only[onr,bsS]
   by_cases h8:n+1≤8
   ·simp[k7S,h8];omega
   ·simp[h8];omega
 ·have hs:s.size=0:=by omega
  unfold q9G
  rw[hs]
  simp[onr,allN]
def satI (v:Int):Int:=if (-1000000:Int) > (if (1000000:Int)<v then (1000000:Int) else v) then (-1000000:Int) else (if (1000000:Int)<v then (1000000:Int) else v)
def truI (b:Bool):Int:=if b=true then 1 else 0
def k3v (v k:Int):Int:=if k=1 then satI v else if k=2 then z9x v 4095 else if k=3 then truI (!decide (v=0)) else if k=4 then (if 0≤v∧v≤999 then v else 0) else 0
theorem k7U (v:Int):z6z v=some (satI v):=rfl
theorem k7V (a b:Int):z9G a b=some (if b<a then b else a):=by
 unfold z9G
 by_cases h:a<b
 ·rw[ifP h,ifN (by omega)]
 ·rw[ifN h]
  split
  ·rfl
  ·congr 1;omega
theorem k7W (v:Int):z4w v=some (satI v):=by
 unfold z4w
 rw[k7V,bsS,k3r,bsS]
 congr 1
 unfold satI
 split<;>split<;>(try split)<;>(try split)<;>omega
theorem k7X (b:Bool):j2X b=some (truI b):=by unfold j2X truI;cases b<;>rfl
theorem k5H (b:Bool):z5L b=some (truI b):=by unfold z5L truI;cases b<;>rfl
theorem k5I (v k:Int):z7z v k=some (k3v v k):=by
 unfold z7z k3v
 rw[k7U,k7X,k1T]
 by_cases h1:k=1
 ·rw[ifP h1,ifP h1];rfl
 by_cases h2:k=2
 ·rw[ifN h1,ifN h1,ifP h2,ifP h2]
 by_cases h3:k=3
 ·rw[ifN h1,ifN h1,ifN h2,ifN h2,ifP h3,ifP h3];rfl
 by_cases h4:k=4
 ·rw[ifN h1,ifN h1,ifN h2,ifN h2,ifN h3,ifN h3,ifP h4,ifP h4,bsS]
  by_cases h:0≤v∧v≤999<;>simp[h]
 ·rw[ifN h1,ifN h1,ifN h2,ifN h2,ifN h3,ifN h3,ifN h4,ifN h4]
theorem k5J (v k:Int):z7p v k=some (k3v v k):=by
 unfold z7p k3v
 rw[k7W,k5H,j6t]
 by_cases h1:k=1
 ·rw[ifP h1,ifP h1];rfl
 by_cases h2:k=2
 ·rw[ifN h1,ifN h1,ifP h2,ifP h2]
 by_cases h3:k=3
 ·rw[ifN h1,ifN h1,ifN h2,ifN h2,ifP h3,ifP h3];rfl
 by_cases h4:k=4
 ·rw[ifN h1,ifN h1,ifN h2,ifN h2,ifN h3,ifN h3,ifP h4,ifP h4,bsS]
  by_cases h:0≤v∧v≤999<;>simp[h]
 ·rw[ifN h1,ifN h1,ifN h2,ifN h2,ifN h3,ifN h3,ifN h4,ifN h4]
def j6v (v k:Int):Bool:=decide (1≤k∧k≤4)&&decide (k3v v k=v)
theorem k5K (v k:Int):z4y v k=some (j6v v k):=by
 unfold z4y z5Q j6v
 rw[k1T,bsS,bsS,k5I,bsS]
 by_cases h:1≤k∧k≤4<;>simp[h]
theorem k5L (v k:Int):z4x v k=some (j6v v k):=by
 unfold z4x j6v
 rw[j6t,bsS,k5J,bsS]
 by_cases h:1≤k∧k≤4<;>simp[h]
def opT (n:Int):Int×Int×Int:=
 if 1≤n∧n≤5 then (1,1,1) else if 6≤n∧n≤8 then (2,2,2) else if n=9∨n=10 then (1,1,3) else if n=11 then (2,1,3) else if n=12 then (2,1,2) else (0,0,0)
theorem k9g {n a b c d e:Int}:(if n=a then some (decide (n=a)) else if n=b then some (decide (n=b)) else if n=c then some (decide (n=c)) else if n=d then some (decide (n=d)) else some (decide (n=e)))=some (decide (n=a∨n=b∨n=c∨n=d∨n=e)):=by
 by_cases h1:n=a
 ·simp[h1]
 by_cases h2:n=b
 ·simp[h1,h2]
 by_cases h3:n=c
 ·rw[ifN h1,ifN h2,ifP h3];simp[h3]
 by_cases h4:n=d
 ·rw[ifN h1,ifN h2,ifN h3,ifP h4];simp[h4]
 ·simp[h1,h2,h3,h4]
theorem k9h {n a b c:Int}:(if n=a then some (decide (n=a)) else if n=b then some (decide (n=b)) else some (decide (n=c)))=some (decide (n=a∨n=b∨n=c)):=by
 by_cases h1:n=a
 ·simp[h1]
 by_cases h2:n=b
 ·simp[h1,h2]
 ·simp[h1,h2]
theorem k7Y (n:Int):z0o n=some (opT n):=by
 unfold z0o opT
 rw[k9g,k9h]
 simp only[bsS]
 by_cases h1:1≤n∧n≤5
 ·rw[ifP (by simp;omega),ifP h1]
 rw[ifN (by simp;omega),ifN h1]
 by_cases h2:6≤n∧n≤8
 ·rw[ifP (by simp;omega),ifP h2]
 rw[ifN (by simp;omega),ifN h2]
 by_cases h3:n=9
 ·simp[h3]
 by_cases h3' : n=10
 ·simp[h3']
 by_cases h4:n=11
 ·simp[h4]
 by_cases h5:n=12
 ·simp[h5]
 simp[h3,h3',h4,h5]
theorem k7Z (n:Int):q5v n=some (opT n):=by
 unfold q5v opT
 rw[j6t,j6t]
 simp only[bsS]
 by_cases h1:1≤n∧n≤5
 ·rw[ifP (by simpa using h1),ifP h1]
 rw[ifN (by simpa using h1),ifN h1]
 by_cases h2:6≤n∧n≤8
 ·rw[ifP (by simpa using h2),ifP h2]
 rw[ifN (by simpa using h2),ifN h2]
 by_cases h3:n=9
 ·rw[ifP h3,ifP (.inl h3)]
 rw[ifN h3]
 by_cases h3' : n=10
 ·rw[ifP h3',ifP (.inr h3')]
 have h33:¬(n=9∨n=10):=by omega
 rw[ifN h3',ifN h33]
 by_cases h4:n=11
 ·rw[ifP h4,ifP h4]
 rw[ifN h4,ifN h4]
 by_cases h5:n=12
 ·rw[ifP h5,ifP h5]
 rw[ifN h5,ifN h5]
theorem k8a (a b:Expr):q7q a b=some (decide (a.Kind=b.Kind)&&(decide (a.N=b.N)&&(decide (a.Pos=b.Pos)&&(decide (a.t__=b.t__)&&(decide (a.Symbol=b.Symbol)&&decide (a.Name=b.Name)))))):=by
 unfold q7q
 by_cases h1:a.Kind=b.Kind
 ·rw[ifP h1,bsS]
  by_cases h2:a.N=b.N
  ·by_cases h3:a.Pos=b.Pos
   ·by_cases h4:a.t__=b.t__
    ·by_cases h5:a.Symbol=b.Symbol
     ·simp[h1,h2,h3,h4,h5]
     ·simp[h1,h2,h3,h4,h5]
    ·simp[h1,h2,h3,h4]
   ·simp[h1,h2,h3]
  ·simp[h1,h2]
 ·simp[h1]
def k3w (k:Int):Int:=if k=4 then 2 else if k=5 then 3 else if k=8 then 1 else 0
def k3x (e:Expr):Bool:=decide ((e.Args.length:Int)=k3w e.Kind)&&((decide (e.Kind=3∨e.Kind=6)||decide (e.Pos=0))&&((decide (e.Kind=3∨e.Kind=8)||decide (e.Name=⟨#[]⟩))&&((decide (e.Kind=1∨e.Kind=4)||decide (e.N=0))&&((decide (e.Kind=1)||decide (e.t__=0))&&(decide (e.Kind=8)||decide (e.Symbol=⟨#[]⟩))))))
theorem k8b (e:Expr):z7o e=some (k3x e):=by
 unfold z7o
 have h0:(if e.Kind=4 then some 2 else if e.Kind=5 then some 3 else if e.Kind=8 then some 1 else some (0:Int))=some (k3w e.Kind):=by
  unfold k3w
  split
  ·rfl
  ·split
   ·rfl
   ·split<;>rfl
 have or2:∀ a b:Prop,[Decidable a]→[Decidable b]→(if a then some true else some (decide b))=some (decide (a∨b)):=fun a b _ _=>by
  by_cases h:a<;>simp[h]
 have or1:∀ (a:Prop) (b:Bool),[Decidable a]→(if a then some true else some b)=some (decide a||b):=fun a b _=>by
  by_cases h:a<;>simp[h]
 have orB:∀ a b:Bool,(if a=true then some true else some b)=some (a||b):=fun a b=>by cases a<;>rfl
 have andB:∀ a b:Bool,(if a=true then some b else some false)=some (a&&b):=fun a b=>by cases a<;>rfl
 rw[h0,bsS]
 unfold k3x
 by_cases hl:(e.Args.length:Int)=k3w e.Kind
 ·rw[ifP hl]
  simp only[or2,or1,orB,andB,bsS]
  simp[hl,Bool.and_assoc]
 ·rw[ifN hl];simp[hl]
def k8c (e:Expr):Bool:=
 if e.Kind=1 then (decide (1≤e.t__∧e.t__≤3)&&j6v e.N e.t__)&&decide (0≤e.N)
 else if e.Kind=3 then decide (0≤e.Pos∧e.Pos≤3)&&q9G e.Name
 else if e.Kind=6 then decide (0≤e.Pos∧e.Pos≤3)
 else if e.Kind=4 then decide (1≤e.N∧e.N≤12)
 else if e.Kind=8 then q9G e.Symbol&&q9G e.Name
 else true
def z7Y (e:Expr):Bool:=(decide (1≤e.Kind∧e.Kind≤8)&&k3x e)&&k8c e
theorem k5M (e:Expr):z7q e=some (z7Y e):=by
 unfold z7q z7Y
 rw[j6t,bsS,k8b,bsS]
 by_cases hk:1≤e.Kind∧e.Kind≤8
 ·rw[ifP (by simpa using hk),bsS]
  cases k3x e with
  | false=>simp
  | true=>
   rw[ifN (by simp)]
   unfold k8c
   by_cases k1:e.Kind=1
   ·rw[ifP k1,ifP k1,j6t,bsS,k5L,bsS]
    by_cases h:1≤e.t__∧e.t__≤3
    ·cases j6v e.N e.t__<;>simp[h,hk]
    ·simp[h,hk]
   rw[ifN k1,ifN k1]
   by_cases k3:e.Kind=3
   ·rw[ifP k3,ifP k3,j6t,bsS,z2m]
    by_cases h:0≤e.Pos∧e.Pos≤3
    ·simp[h,hk]
    ·simp[h,hk]
   rw[ifN k3,ifN k3]
   by_cases k6:e.Kind=6
   ·rw[ifP k6,ifP k6,j6t];simp[hk]
   rw[ifN k6,ifN k6]
   by_cases k4:e.Kind=4
   ·rw[ifP k4,ifP k4,j6t];simp[hk]
   rw[ifN k4,ifN k4]
   by_cases k8:e.Kind=8
   ·rw[ifP k8,ifP k8,z2m,bsS,z2m]
    cases q9G e.Symbol<;>simp[hk]
   rw[ifN k8,ifN k8];simp[hk]
 ·rw[ifN (by simpa using hk)];simp[hk]
theorem k5N (e:Expr):z1O e=some (z7Y e):=by
 unfold z1O z7Y k3x k8c k3w
 simp only[k8a,k1T,k5K,z4a,bsS]
 have hp3:e.Pos=0→(0≤e.Pos∧e.Pos≤3):=fun h=>by omega
 by_cases k1:e.Kind=1
 ·simp[k1]
  have ht:j6v e.N e.t__=true→1≤e.t__∧e.t__≤4:=fun h=>by
   unfold j6v at h;simp at h;exact h.1
  cases hb:j6v e.N e.t__ with
  | false=>by_cases h4:e.t__=4<;>simp[h4]
  | true=>
   obtain⟨t1,t2⟩:=ht hb
   by_cases h4:e.t__=4
   ·simp[h4]
   ·by_cases hn:e.N<0
    ·have:¬ 0≤e.N:=by omega
     simp[h4,hn,this]
    ·have h0:0≤e.N:=by omega
     have h3:e.t__≤3:=by omega
     by_cases a:e.Args=[]
     ·by_cases p:e.Pos=0
      ·simp[h4,hn,h0,h3,t1,a,p,Bool.and_comm]
      ·simp[h4,hn,h0,h3,t1,a,p]
     ·simp[h4,hn,h0,h3,t1,a]
 by_cases k3:e.Kind=3
 ·simp[k1,k3]
  cases q9G e.Name with
  | false=>simp
  | true=>
   by_cases a:e.Args=[]
   ·by_cases p:0≤e.Pos∧e.Pos≤3
    ·simp[a,p]
    ·have:(decide (0≤e.Pos)&&decide (e.Pos≤3))=false:=by simp;omega
     simp[a,this]
   ·simp[a]
 by_cases k4:e.Kind=4
 ·simp[k1,k3,k4]
  by_cases n:1≤e.N∧e.N≤12
  ·by_cases a:(e.Args.length:Int)=2
   ·by_cases p:e.Pos=0
    ·simp[n,a,p];cases decide (e.t__=0)<;>cases decide (e.Symbol=⟨#[]⟩)<;>cases decide (e.Name=⟨#[]⟩)<;>rfl
    ·simp[n,a,p]
   ·simp[n,a]
  ·have:(decide (1≤e.N)&&decide (e.N≤12))=false:=by simp;omega
   rw[ifN n,this];simp
 have close3:∀ c:Bool,((if c=true then some (decide (0≤e.Pos)&&decide (e.Pos≤3)) else some false).bind fun s9=>
   if s9=true then some (decide (e.N=0)&&(decide (e.Pos=0)&&(decide (e.t__=0)&&(decide (e.Symbol=⟨#[]⟩)&&decide (e.Name=⟨#[]⟩))))) else some false) =
  some (c&&(decide (e.Pos=0)&&(decide (e.Name=⟨#[]⟩)&&(decide (e.N=0)&&(decide (e.t__=0)&&decide (e.Symbol=⟨#[]⟩)))))):=fun c=>by
  cases c with
  | false=>simp
  | true=>
   by_cases p:e.Pos=0
   ·simp[p];cases decide (e.N=0)<;>cases decide (e.t__=0)<;>cases decide (e.Symbol=⟨#[]⟩)<;>cases decide (e.Name=⟨#[]⟩)<;>rfl
   ·simp[p]
 by_cases k5:e.Kind=5
 ·simp[k1,k3,k4,k5]
  simpa using close3 (decide ((e.Args.length:Int)=3))
 by_cases k6:e.Kind=6
 ·simp[k1,k3,k4,k5,k6]
  by_cases a:e.Args=[]
  ·by_cases p:0≤e.Pos∧e.Pos≤3
   ·simp[a,p];cases decide (e.N=0)<;>cases decide (e.t__=0)<;>cases decide (e.Symbol=⟨#[]⟩)<;>cases decide (e.Name=⟨#[]⟩)<;>rfl
   ·have:(decide (0≤e.Pos)&&decide (e.Pos≤3))=false:=by simp;omega
    simp[a,this]
  ·simp[a]
 by_cases k8:e.Kind=8
 ·simp[k1,k3,k4,k5,k6,k8]
  cases q9G e.Symbol with
  | false=>simp
  | true=>
   cases q9G e.Name with
   | false=>simp
   | true=>
    by_cases a:(e.Args.length:Int)=1
    ·by_cases p:e.Pos=0
     ·simp[a,p]
     ·simp[a,p]
    ·simp[a]
 by_cases k2:e.Kind=2
 ·simp[k1,k3,k4,k5,k6,k8,k2]
  simpa using close3 (decide (e.Args=[]))
 by_cases k7:e.Kind=7
 ·simp[k1,k3,k4,k5,k6,k8,k2,k7]
  simpa using close3 (decide (e.Args=[]))
 ·simp[k1,k3,k4,k5,k6,k8,k2,k7]
  intro h1 h2;omega
theorem k5O (e:Expr):∀ m,fuE e≤m→z9J m e=some (allE z7Y e):=by
 induction e using z1f with
 | h e ih=>
  intro m hm
  obtain⟨m,rfl⟩:∃ q,m=q+1:=⟨m-1,by have:=z6l e;omega⟩
  show z9I (z9J m) e=_
  unfold z9I
  rw[q4X (c:=false) (q:=allE z7Y) fun k x hx=>by
   unfold j7C
   rw[ih x hx m (by have:=z5p hx;omega),bsS]
   cases allE z7Y x<;>rfl]
  rw[j0V,bsS]
  cases e.Args.all (allE z7Y) with
  | true=>rw[ifP rfl,z4p,k5M,Bool.and_true];rfl
  | false=>rw[ifN (by simp),j0A,Bool.and_false]
theorem k8d (e:Expr):j5U e=some (allE z7Y e):=z0K (fuE e) fun m hm=>k5O e m hm
theorem j3E {α:Type}(q:α→Bool)(l:List α):(!l.any fun x=>!q x)=l.all q:=by
 induction l with
 | nil=>rfl
 | cons x l ih=>simp[← ih]
theorem k5P (e:Expr):∀ m,fuE e≤m→q6x m e=some (allE z7Y e):=by
 induction e using z1f with
 | h e ih=>
  intro m hm
  obtain⟨m,rfl⟩:∃ q,m=q+1:=⟨m-1,by have:=z6l e;omega⟩
  show q6w (q6x m) e=_
  unfold q6w q4k q4r
  rw[k5N,bsS,j0V]
  cases z7Y e with
  | false=>rfl
  | true=>
   rw[ifP rfl,j3C (q:=fun x=>!allE z7Y x) fun k x hx=>by
    unfold q6c q6Q
    rw[ih x hx m (by have:=z5p hx;omega),bsS,bsS]
    cases allE z7Y x<;>rfl]
   rw[Bool.true_and,← j3E]
   cases e.Args.any fun x=>!allE z7Y x with
   | true=>
    have:(0:Int)≤((0+e.Args.findIdx fun x=>!allE z7Y x:Nat):Int):=Int.natCast_nonneg _
    rw[ifP rfl,bsS,j0A,bsS,bsS,decide_eq_true this]
   | false=>rfl
theorem k8e (e:Expr):q8Z e=some (allE z7Y e):=z0K (fuE e) fun m hm=>k5P e m hm
def j3F (e:Expr):Bool:=decide (cntE e≤24)&&(decide (depE e≤6)&&allE z7Y e)
theorem k3y {e:Expr}(h:cntE e≤1099511627776):z0W e=some (j3F e):=by
 unfold z0W j3F
 rw[k3q h,bsS,k3s h,k8e]
 by_cases h1:cntE e≤24
 ·rw[ifP (by omega),bsS,bsS]
  by_cases h2:depE e≤6
  ·rw[ifP (by simp;omega),bsS];simp[h1,h2]
  ·rw[ifN (by simp;omega)];simp[h1,h2]
 ·rw[ifN (by omega)];simp[h1]
theorem j0n {e:Expr}(h:cntE e≤1099511627776):q8N e=some (j3F e):=by
 unfold q8N j3F
 rw[k5D (by omega) (by omega) h,bsS,k3t h,k8d]
 unfold j1W
 by_cases h1:cntE e≤24
 ·have h24:((cntE e:Nat):Int)≤24:=by omega
  rw[ifP h24,ifP (by omega:(0:Int)≤24-((cntE e:Nat):Int)),bsS,bsS]
  by_cases h2:depE e≤6
  ·rw[ifP (by simp;omega),bsS];simp[h1,h2]
  ·rw[ifN (by simp;omega)];simp[h1,h2]
 ·have h24:¬ ((cntE e:Nat):Int)≤24:=by omega
  rw[ifN h24,ifN (by omega:¬ (0:Int)≤-1)];simp[h1]
end Go.Proofs.YtgkepiefcpfimaaGreatDoor
