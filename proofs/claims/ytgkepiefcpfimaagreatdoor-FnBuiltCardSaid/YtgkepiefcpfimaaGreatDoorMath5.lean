/- What those partial functions come to: plain lemmas on data; each bears its conditions in its statement. -/
import Derived.Test.YtgkepiefcpfimaaGreatDoorMath4
set_option linter.unusedVariables false
set_option linter.unusedSimpArgs false
set_option linter.ambiguousOpen false
set_option linter.unusedSectionVars false
set_option linter.unnecessarySimpa false
open Bool renaming not_not→Esz
open List renaming not_any_eq_all_not→Ekz,all_eq_true→Eiz,mem_of_find?_eq_some→Eaz,ext_getElem?→Etz,getElem?_mapIdx→Euz,getElem?_eq_getElem→Cmz,getD_eq_getElem?_getD→Cwz,mem_of_getElem?→Bvz,map_cons→Blz,sum_cons→Evz,length_filter_le→Ewz,range'→Dhz,mem_cons→Dsz,not_mem_nil→Daz,length_append→Axz
open Nat renaming le_trans→Bgz,zero_add→Adz
open Option renaming map_some→Byz
open Int renaming toNat→Exz
namespace Go.Proofs.YtgkepiefcpfimaaGreatDoor
open Go Go.E
def farB (e:Expr):Bool:=!allE (fun x=>!decide (x.Kind=8)) e
theorem k6n (e:Expr):∀ m,fuE e≤m→z3u m e=some (farB e):=by
 induction e using z1f with
 | h e ih=>
  intro m hm
  obtain⟨m,rfl⟩:∃ q,m=q+1:=⟨m-1,by have:=z6l e;omega⟩
  show z3t (z3u m) e=_
  unfold z3t
  rw[q4X (c:=true) (q:=fun x=>!farB x) fun k x hx=>by
   unfold z9S
   rw[ih x hx m (by have:=z5p hx;omega),bsS]
   cases farB x<;>rfl]
  have e1:farB e=!(!decide (e.Kind=8)&&e.Args.all fun x=>!farB x):=by
   unfold farB
   rw[j0V]
   congr 2
   congr 1;funext x;rw[Esz]
  rw[e1,bsS]
  cases e.Args.all fun x=>!farB x with
  | true=>rw[ifP rfl,z4p,Bool.and_true,Esz]
  | false=>rw[ifN (by simp),j0A,Bool.and_false];rfl
theorem k8s (e:Expr):z7H e=some (farB e):=z0K (fuE e) fun m hm=>k6n e m hm
theorem k6o (e:Expr):∀ m,fuE e≤m→q6k m e=some (!farB e):=by
 induction e using z1f with
 | h e ih=>
  intro m hm
  obtain⟨m,rfl⟩:∃ q,m=q+1:=⟨m-1,by have:=z6l e;omega⟩
  show q6j (q6k m) e=_
  unfold q6j q4i q4o z3g
  have e1:(!farB e)=(!decide (e.Kind=8)&&e.Args.all fun x=>!farB x):=by
   unfold farB
   rw[j0V,Esz]
   congr 1
   congr 1;funext x;rw[Esz]
  rw[bsS,e1]
  cases decide (e.Kind=8) with
  | true=>rfl
  | false=>
   rw[Bool.not_false,ifP rfl,q5p (q:=fun x=>farB x) fun k x hx=>by
    unfold q5Z q6F
    rw[ih x hx m (by have:=z5p hx;omega),bsS,bsS]
    cases farB x<;>rfl]
   rw[Bool.true_and,bsS,Ekz]
theorem k8t (e:Expr):z3q e=some (farB e):=by
 unfold z3q
 rw[show q8P e=some (!farB e) from z0K (fuE e) fun m hm=>k6o e m hm,bsS,Esz]
def farR (r:Rule):Bool:=r.es_.any fun q=>farB q.Expr
theorem k6p (r:Rule):z3v r=some (farR r):=by
 unfold z3v farR
 rw[q4X (c:=true) (q:=fun q:Eqn=>!farB q.Expr) fun k x hx=>by
  unfold z9T
  rw[k8s,bsS]
  cases farB x.Expr<;>rfl]
 have e:(r.es_.all fun q=>!farB q.Expr)=!(r.es_.any fun q=>farB q.Expr):=by rw[Ekz]
 rw[e]
 cases r.es_.any fun q=>farB q.Expr<;>rfl
theorem k6q {g:Gm_}(h:Sz.szd g≤1048576):z3r g=some (g.rs_.any fun r=>(z5r r).any farB):=by
 unfold z3r q5j q5x
 rw[q5p (q:=fun r=>(z5r r).any farB) fun k r hr=>by
  unfold q7H z3h
  rw[k0M (Bgz (z2R hr) h),bsS]
  unfold q5s q5F
  rw[q5p (q:=farB) fun k e he=>by
   unfold q8g
   rw[k8t,bsS,← apply_ite some]]
  rw[bsS,bsS,← apply_ite some]]
 rfl
def colG (g:Gm_):Bool:=g.ss_.any fun y=>y.as_.any fun a=>decide (a.Mode=3)
theorem k4h (g:Gm_):q5M g=some (colG g):=by
 unfold q5M q3Z q4f colG
 rw[q5p (q:=fun y:Symbol=>y.as_.any fun a=>decide (a.Mode=3)) fun k y hy=>by
  unfold q5A q6f q4F q4T
  rw[q5p (q:=fun a:At_=>decide (a.Mode=3)) fun k a ha=>by
   unfold q6M z3i
   rw[bsS,← apply_ite some]]
  rw[bsS,bsS,← apply_ite some]]
 rfl
theorem k2j {g:Gm_}(h:z8J g=true):∀ r∈g.rs_,typR g r=true:=by
 intro r hr
 unfold z8J at h
 rw[decide_eq_true_eq] at h
 unfold j9P at h
 by_cases h0:(z7c g).1=0
 ·rw[ifP h0] at h
  cases e:g.rs_.findIdx? fun r=>!typR g r with
  | some k=>rw[e] at h;simp at h
  | none=>
   rw[List.findIdx?_eq_none_iff] at e
   have:=e r hr
   simpa using this
 ·rw[ifN h0] at h;exact absurd h h0
theorem k6r {g:Gm_}(h:z8J g=true)(hc:colG g=false){r:Rule}(hr:r∈g.rs_):r.cs_=[]:=by
 have ht:=k2j h r hr
 unfold typR at ht
 rw[Bool.and_eq_true,Eiz,Eiz] at ht
 cases hq:r.cs_ with
 | nil=>rfl
 | cons q qs=>
  have h1:=ht.2 q (by rw[hq];simp)
  unfold conT at h1
  simp only[Bool.and_eq_true,decide_eq_true_eq] at h1
  have h3:=h1.2
  unfold z3G at h3
  cases ha:(q7C g q.Symbol).1.as_.find? fun a=>decide (a.Name=q.Name) with
  | none=>rw[ha] at h3;exact absurd h3 (by simp[zA])
  | some a=>
   rw[ha] at h3
   have hm:=Eaz ha
   unfold q7C at hm
   cases hs:g.ss_.find? fun y=>decide (y.Name=q.Symbol) with
   | none=>rw[hs] at hm;simp[zS] at hm
   | some y=>
    rw[hs] at hm
    unfold colG at hc
    rw[List.any_eq_false] at hc
    exact absurd (List.any_eq_true.2 ⟨a,hm,by simpa using h3⟩) (hc y (Eaz hs))
theorem j8l {n:Nat}{h:Nat→Int→Int}{f:Nat→List Int→Option (List Int)}(hf:∀ k s,k<n→s.length=n→f k s=some (s.set k (h k (s.getD k 0)))) :
  ∀ (m k:Nat) (s:List Int),k+m=n→s.length=n→eachN f k m s=some (s.mapIdx fun j x=>if k≤j then h j x else x)
 | 0,k,s,hk,hs=>by
  show some s=_
  congr 1
  symm
  apply Etz
  intro j
  rw[Euz]
  cases hj:s[j]? with
  | none=>rfl
  | some x=>
   have:=(List.getElem?_eq_some_iff.1 hj).1
   rw[Byz,ifN (by omega)]
 | m+1,k,s,hk,hs=>by
  rw[eachN,hf k s (by omega) hs,bsS,j8l hf m (k+1) _ (by omega) (by simpa using hs)]
  congr 1
  apply Etz
  intro j
  rw[Euz,Euz,List.getElem?_set]
  by_cases hj:k=j
  ·subst hj
   have hk' : k<s.length:=by omega
   rw[ifP rfl,ifP hk',Cmz hk',Cwz,Cmz hk',Byz,Byz,ifN (by omega),ifP (Nat.le_refl _)]
   rfl
  ·rw[ifN hj]
   cases hx:s[j]? with
   | none=>rfl
   | some x=>
    rw[Byz,Byz]
    by_cases h1:k+1≤j
    ·rw[ifP h1,ifP (by omega)]
    ·rw[ifN h1,ifN (by omega)]
def uniR (a b:Rl_):Rl_:=if Valid a∧Valid b∧a.N=b.N then ⟨a.N,a.Rows.mapIdx fun j x=>orI x (b.Rows.getD j 0)⟩ else a
theorem k2k {b:Rl_}(h:Valid b)(k:Nat):0≤b.Rows.getD k 0:=by
 rw[Cwz]
 cases hx:b.Rows[k]? with
 | none=>simp
 | some x=>exact (h.2.2.2 x (Bvz hx)).1
theorem k0P {a b:Rl_}(ha:Valid a)(hb:Valid b)(hN:a.N=b.N){f:Nat→List Int→Option (List Int)}(hf:f=q7X b):eachN f 0 a.Rows.length a.Rows=some (a.Rows.mapIdx fun j x=>orI x (b.Rows.getD j 0)):=by
 subst hf
 have hl:a.Rows.length=b.Rows.length:=by have:=ha.2.2.1;have:=hb.2.2.1;omega
 -- all rows stay at least 0
 have key:∀ (m k:Nat) (s:List Int),k+m=a.Rows.length→s.length=a.Rows.length→(∀ x∈s,0≤x)→eachN (q7X b) k m s=eachN (fun k s=>some (s.set k (orI (s.getD k 0) (b.Rows.getD k 0)))) k m s:=by
  intro m
  induction m with
  | zero=>intro k s _ _ _;rfl
  | succ m ih=>
   intro k s hk hs h0
   have e:q7X b k s=some (s.set k (orI (s.getD k 0) (b.Rows.getD k 0))):=by
    have hx:0≤s.getD k 0:=by
     rw[Cwz,Cmz (by omega:k<s.length)]
     exact h0 _ (List.getElem_mem _)
    unfold q7X
    rw[getD_some (by omega),bsS,getD_some (by omega),bsS]
    exact q3P ⟨hx,k2k hb k⟩
   rw[eachN,eachN,e,bsS,bsS]
   refine ih (k+1) _ (by omega) (by simpa using hs) fun x hx=>?_
   rcases List.mem_or_eq_of_mem_set hx with h|rfl
   ·exact h0 x h
   ·unfold orI;omega
 rw[key _ 0 a.Rows (by omega) rfl (fun x hx=>(ha.2.2.2 x hx).1),j8l (h:=fun k x=>orI x (b.Rows.getD k 0)) (n:=a.Rows.length) (fun k s _ _=>rfl) _ 0 a.Rows (by omega) rfl]
 simp
theorem k8u {a:Rl_}(h:a.Rows.length≤1048576)(b:Rl_):q9Q a b=some (uniR a b):=by
 unfold q9Q uniR
 rw[z6n h,bsS,q7b,bsS]
 by_cases ha:Valid a
 ·rw[decide_eq_true ha,ifP rfl,q7b,bsS,bsS]
  by_cases hb:Valid b
  ·rw[decide_eq_true hb,Bool.not_true,ifN (by simp),bsS]
   by_cases hN:a.N=b.N
   ·rw[decide_eq_true hN,Bool.not_true,ifN (by simp),ifP ⟨ha,hb,hN⟩,show a.N.toNat=a.Rows.length by have:=ha.2.2.1;omega,k0P ha hb hN rfl];rfl
   ·rw[decide_eq_false hN,Bool.not_false,ifP rfl,ifN fun hh=>hN hh.2.2]
  ·have hz:(if Valid a∧Valid b∧a.N=b.N then (⟨a.N,a.Rows.mapIdx fun j x=>orI x (b.Rows.getD j 0)⟩:Rl_) else a)=a:=ifN fun hh=>hb hh.2.1
   rw[hz,decide_eq_false hb];rfl
 ·have hz:(if Valid a∧Valid b∧a.N=b.N then (⟨a.N,a.Rows.mapIdx fun j x=>orI x (b.Rows.getD j 0)⟩:Rl_) else a)=a:=ifN fun hh=>ha hh.1
  rw[hz,decide_eq_false ha];rfl
theorem k4i (b:Rl_):z5V b=q7X b:=rfl
theorem k8v {a:Rl_}(h:a.Rows.length≤1048576)(b:Rl_):q9O a b=some (uniR a b):=by
 unfold q9O uniR
 rw[j3H,z6n h,bsS,z1u,bsS]
 by_cases ha:Valid a
 ·rw[decide_eq_true ha,ifP rfl,z1u,bsS,bsS]
  by_cases hb:Valid b
  ·rw[decide_eq_true hb,ifP rfl,bsS]
   by_cases hN:a.N=b.N
   ·rw[ifP (by simpa using hN),ifP ⟨ha,hb,hN⟩,k4i,k0P ha hb hN rfl];rfl
   ·rw[ifN (by simpa using hN),ifN fun hh=>hN hh.2.2]
  ·have hz:(if Valid a∧Valid b∧a.N=b.N then (⟨a.N,a.Rows.mapIdx fun j x=>orI x (b.Rows.getD j 0)⟩:Rl_) else a)=a:=ifN fun hh=>hb hh.2.1
   rw[hz,decide_eq_false hb];rfl
 ·have hz:(if Valid a∧Valid b∧a.N=b.N then (⟨a.N,a.Rows.mapIdx fun j x=>orI x (b.Rows.getD j 0)⟩:Rl_) else a)=a:=ifN fun hh=>ha hh.1
  rw[hz,decide_eq_false ha];rfl
theorem k7e {n:Nat}{x y:Int}(hx:0≤x∧x≤((2 ^ n:Nat):Int)-1)(hy:0≤y∧y≤((2 ^ n:Nat):Int)-1):0≤orI x y∧orI x y≤((2 ^ n:Nat):Int)-1:=by
 have:=Nat.or_lt_two_pow (n:=n) (x:=x.toNat) (y:=y.toNat) (by omega) (by omega)
 unfold orI;omega
theorem k4j {a b:Rl_}(ha:Valid a):Valid (uniR a b)∧(uniR a b).N=a.N:=by
 unfold uniR
 by_cases h:Valid a∧Valid b∧a.N=b.N
 ·rw[ifP h]
  refine⟨⟨ha.1,ha.2.1,by simpa using ha.2.2.1,fun x hx=>?_⟩,rfl⟩
  obtain⟨j,hj⟩:=List.getElem?_of_mem hx
  rw[Euz] at hj
  cases hy:a.Rows[j]? with
  | none=>rw[hy] at hj;cases hj
  | some y=>
   rw[hy] at hj
   cases hj
   have hyv:=ha.2.2.2 y (Bvz hy)
   refine k7e hyv ?_
   rw[Cwz]
   cases hz:b.Rows[j]? with
   | none=>
    have:=Nat.one_le_two_pow (n:=a.N.toNat)
    show (0:Int)≤0∧(0:Int)≤((2 ^ a.N.toNat:Nat):Int)-1
    constructor<;>omega
   | some z=>have:=h.2.1.2.2.2 z (Bvz hz);rw[← h.2.2] at this;exact this
 ·rw[ifN h];exact⟨ha,rfl⟩
def sumR (a:Rl_):Nat:=(a.Rows.map Exz).sum
theorem j5r:∀ (l:List Int) (f:Nat→Int→Int),(∀ j x,x∈l→x.toNat≤(f j x).toNat)→(l.map Exz).sum≤((l.mapIdx f).map Exz).sum∧((∀ x∈l,0≤x)→(∀ j x,0≤f j x)→(l.map Exz).sum=((l.mapIdx f).map Exz).sum→l.mapIdx f=l)
 | [],f,_=>⟨by simp,fun _ _ _=>by simp⟩
 | x::l,f,h=>by
  have ih:=j5r l (fun j=>f (j+1)) fun j y hy=>h (j+1) y (by simp[hy])
  have h0:=h 0 x (by simp)
  rw[List.mapIdx_cons]
  simp only[Blz,Evz]
  refine⟨by have:=ih.1;omega,fun h1 h2 he=>?_⟩
  have a1:=ih.1
  have e1:(l.map Exz).sum=((l.mapIdx fun j=>f (j+1)).map Exz).sum:=by omega
  have e2:x.toNat=(f 0 x).toNat:=by omega
  have p1:=h1 x (by simp)
  have p2:=h2 0 x
  rw[ih.2 (fun y hy=>h1 y (by simp[hy])) (fun j y=>h2 (j+1) y) e1,show f 0 x=x by omega]
theorem k8w {a b:Rl_}(ha:Valid a):sumR a≤sumR (uniR a b)∧(sumR a=sumR (uniR a b)→uniR a b=a):=by
 unfold uniR
 by_cases h:Valid a∧Valid b∧a.N=b.N
 ·rw[ifP h]
  have key:=j5r a.Rows (fun j x=>orI x (b.Rows.getD j 0)) fun j x _=>by
   unfold orI;have:=@Nat.left_le_or x.toNat (b.Rows.getD j 0).toNat;omega
  refine⟨key.1,fun he=>?_⟩
  have:=key.2 (fun x hx=>(ha.2.2.2 x hx).1) (fun j x=>by unfold orI;omega) he
  show (⟨a.N,_⟩:Rl_)=a
  rw[this]
 ·rw[ifN h];exact⟨Nat.le_refl _,fun _=>rfl⟩
theorem k4k {a:Rl_}(ha:Valid a):sumR a≤16*65535:=by
 have key:∀ l:List Int,(∀ x∈l,x.toNat≤65535)→(l.map Exz).sum≤l.length*65535:=by
  intro l
  induction l with
  | nil=>intro _;simp
  | cons x l ih=>
   intro h
   have h1:=h x (by simp)
   have h2:=ih fun y hy=>h y (by simp[hy])
   simp only[Blz,Evz,lnC]
   omega
 have h1:=key a.Rows fun x hx=>by
  have:=ha.2.2.2 x hx
  have:=k9L ha.2.1
  omega
 have hl:a.Rows.length≤16:=by have:=ha.2.2.1;have:=ha.2.1;omega
 exact Bgz h1 (Nat.mul_le_mul_right 65535 hl)
theorem k4l {b:List Int}{f:Nat→Int→Unit→Option (Unit ⊕ Bool)}(hf:∀ k x,f k x ()=(b[k]?).bind fun x2=>if x=x2 then some (.inl ()) else some (.inr false)) :
  ∀ (xs ys:List Int) (i:Nat),xs.length=ys.length→(∀ j,b[i+j]?=ys[j]?)→findL f i xs ()=some (if xs=ys then .inl () else .inr false)
 | [],ys,i,hl,_=>by obtain rfl:=List.eq_nil_of_length_eq_zero hl.symm;rfl
 | x::xs,[],i,hl,_=>by simp at hl
 | x::xs,y::ys,i,hl,hb=>by
  have h0:b[i]?=some y:=by simpa using hb 0
  rw[findL,hf,h0,bsS]
  by_cases hx:x=y
  ·rw[ifP hx,bsS]
   dsimp only
   rw[k4l hf xs ys (i+1) (by simpa using hl) fun j=>by have:=hb (j+1);rw[show i+1+j=i+(j+1) by omega];simpa using this]
   subst hx
   by_cases he:xs=ys
   ·rw[ifP he,ifP (by rw[he])]
   ·rw[ifN he,ifN (by intro hh;injection hh with _ h2;exact he h2)]
  ·rw[ifN hx,bsS]
   dsimp only
   rw[ifN (by intro hh;injection hh with h2 _;exact hx h2)]
theorem k4m (a b:Rl_):q9R a b=some (decide (a=b)):=by
 obtain⟨n,xs⟩:=a
 obtain⟨m,ys⟩:=b
 unfold q9R z9Y
 dsimp only
 by_cases hn:n=m
 ·rw[ifP hn]
  by_cases hl:xs.length=ys.length
  ·rw[ifP (by omega),k4l (b:=ys) (fun k x=>rfl) xs ys 0 hl fun j=>by rw[Adz]]
   by_cases he:xs=ys
   ·rw[ifP he,decide_eq_true (by rw[hn,he])];rfl
   ·rw[ifN he,decide_eq_false (by intro hh;injection hh with _ h2;exact he h2)];rfl
  ·rw[ifN (by omega),decide_eq_false (by intro hh;injection hh with _ h2;exact hl (by rw[h2]))];rfl
 ·rw[ifN hn,decide_eq_false (by intro hh;injection hh with h1 _;exact hn h1)]
theorem k8x (a b:Rl_):z1d a b=some (decide (a=b)):=by
 rw[← k4m];rfl
noncomputable def k4n (r:Rl_):Bool:=decide (∃ k:Nat,k<r.Rows.length∧hasP (q6J r) (k:Int) (k:Int))
theorem k0Q {r:Rl_}(h:r.Rows.length≤1048576):z2w r=some (k4n r):=j3K h
theorem k0R {r:Rl_}(h:r.Rows.length≤1048576):z1y r=some (k4n r):=by
 unfold z1y k4n
 rw[q7b,bsS]
 by_cases hv:Valid r
 ·rw[decide_eq_true hv,ifP rfl,j3I h,bsS]
  have hN:r.N.toNat=r.Rows.length:=by have:=hv.2.2.1;omega
  rw[hN,j3P (c:=true) (n:=r.Rows.length) (q:=fun k=>!decide (hasP (q6J r) (k:Int) (k:Int))) (fun k hk=>by
   unfold z2A
   rw[q9H,bsS]
   by_cases hp:hasP (q6J r) (k:Int) (k:Int)
   ·rw[decide_eq_true hp];rfl
   ·rw[decide_eq_false hp];rfl) r.Rows.length 0 (by omega)]
  by_cases he:∃ k:Nat,k<r.Rows.length∧hasP (q6J r) (k:Int) (k:Int)
  ·rw[decide_eq_true he,ifN];· rfl
   obtain⟨k,hk,hp⟩:=he
   rw[Eiz]
   intro hh
   have:=hh k (by simp;omega)
   simp[hp] at this
  ·rw[decide_eq_false he,ifP];· rfl
   rw[Eiz]
   intro k hk
   simp at hk
   have:¬ hasP (q6J r) (k:Int) (k:Int):=fun hp=>he ⟨k,hk,hp⟩
   simp[this]
 ·rw[decide_eq_false hv,ifN (by simp),decide_eq_false]
  rintro⟨k,hk,hp⟩
  have:q6J r=r:=by unfold q6J;rw[ifN hv]
  rw[this] at hp
  exact hv hp.1
def q7d (g:Gm_)(s:BA_):List At_:=(q7C g s).1.as_.filter j1c
theorem j1f {g:Gm_}(h:GOk g)(s:BA_):(q7d g s).length≤1048576:=Bgz (Ewz _ _) (z4Z h s)
theorem j8m {l:List At_}(h:l.length≤1048576):eachL q6s 0 l []=some (l.filter j1c):=by
 have:=z6o (p:=j1c) (g:=fun x:At_=>x) (B:=1048577) (f:=q6s) (fun k x s hs=>by
  have hg:((s.length:Int)+1)*40≤140737488355328∧(s.length:Int)+1≤9223372036854775807:=by constructor<;>omega
  unfold q6s j1c
  rw[q3P hg]
  by_cases m1:x.Mode=1
  ·rw[ifP m1,ifP (by simp[m1])];rfl
  ·rw[ifN m1]
   by_cases m2:x.Mode=2
   ·rw[ifP m2,ifP (by simp[m2])];rfl
   ·rw[ifN m2,ifN (by simp[m1,m2])];rfl) l 0 [] (by simp;omega)
 rw[this];simp
theorem j3U {g:Gm_}(h:GOk g)(s:BA_):q5P g s=some (q7d g s):=by
 unfold q5P q7d
 rw[z3H h,bsS]
 try dsimp only
 rw[j8m (z4Z h s)];rfl
theorem j0s {g:Gm_}(h:GOk g)(s:BA_):q5N g s=some (q7d g s):=by
 unfold q5N q7d
 rw[z4Y,bsS]
 try dsimp only
 rw[j5o,j8m (z4Z h s)];rfl
def occK (g:Gm_)(r:Rule)(k:Nat):List Oc:=(q7d g (q6q r (k:Int))).map fun x=>(⟨(k:Int),x.Name⟩:Oc)
def occL (g:Gm_)(r:Rule):List Oc:=(Dhz 0 (r.rt_.length+1)).flatMap (occK g r)
theorem k0S {g:Gm_}(h:GOk g)(r:Rule)(k:Nat):(occK g r k).length≤1048576:=by unfold occK;rw[lnM];exact j1f h _
theorem j9Q {g:Gm_}(h:GOk g){r:Rule}(hl:ROk r):q6N g r=some (occL g r):=by
 have hl' : r.rt_.length≤1048576:=hl
 have key:=j1d (h:=occK g r) (C:=1048576) (n:=r.rt_.length+1) (f:=q7V g r) (fun k s hk hs=>by
  unfold q7V
  rw[z9q hl,bsS,j0s h,bsS,j3L k _ 0 s (by have:=j1f h (q6q r (k:Int));omega)];rfl)
  (fun k _=>k0S h r k) (r.rt_.length+1) 0 [] (by omega) (by simp)
 unfold q6N
 rw[q3P (by constructor<;>omega),key];rfl
theorem k8y {g:Gm_}(h:GOk g){r:Rule}(hl:ROk r):q6P g r=some (occL g r):=by
 have hl' : r.rt_.length≤1048576:=hl
 have key:=j3N (h:=occK g r) (C:=1048576) (n:=r.rt_.length+1) (f:=q5H g r) (fun k s hk hs=>by
  unfold q5H
  dsimp only
  rw[ifP (by omega),z3O hl,bsS,j3U h,bsS,k0I,j3L k _ 0 s (by have:=j1f h (q6q r (k:Int));omega),bsS,q3P (by constructor<;>omega)];rfl) (fun s=>by
  unfold q5H;dsimp only;rw[ifN (by omega)]) (fun k _=>k0S h r k) (r.rt_.length+1) 0 [] (by omega) (by simp)
 unfold q6P
 have e:q4D (q5H g r) (([]:List Oc),0)=some ([]++(Dhz 0 (r.rt_.length+1)).flatMap (occK g r)):=key
 rw[e];rfl
theorem k0T {g:Gm_}(h:GOk g){r:Rule}(hl:ROk r):(occL g r).length≤1099512676352:=by
 obtain⟨l,_,h2,h3⟩:=k0J h hl
 rw[j9Q h hl] at h2
 cases h2;exact h3
def posL (g:Gm_)(r:Rule)(k:Int):List Int:=(((occL g r).zipIdx 0).filter fun q=>decide (q.1.Pos=k)).map fun q=>(q.2:Int)
theorem k0U (k:Int){l:List Oc}(h:l.length≤1099512676352):eachL (q8o k) 0 l []=some (((l.zipIdx 0).filter fun q=>decide (q.1.Pos=k)).map fun q=>(q.2:Int)):=by
 have:=j3M (p:=fun x:Oc=>decide (x.Pos=k)) (g:=fun i:Nat=>(i:Int)) (B:=4398046511104) (f:=q8o k) (fun i x s hs=>by
  have hg:((s.length:Int)+1)*8≤140737488355328∧(s.length:Int)+1≤9223372036854775807:=by constructor<;>omega
  unfold q8o
  rw[q3P hg]
  by_cases m1:x.Pos=k
  ·rw[ifP m1,ifP (by simp[m1])];rfl
  ·rw[ifN m1,ifN (by simp[m1])];rfl) l 0 [] (by simp;omega)
 rw[this];simp
theorem k4o {g:Gm_}(h:GOk g){r:Rule}(hl:ROk r)(k:Int):q7n g r k=some (posL g r k):=by
 unfold q7n posL
 rw[k8y h hl,bsS,k0U k (k0T h hl)];rfl
theorem k4p {g:Gm_}(h:GOk g){r:Rule}(hl:ROk r)(k:Int):q7m g r k=some (posL g r k):=by
 unfold q7m posL
 rw[j9Q h hl,bsS,j4F,k0U k (k0T h hl)];rfl
theorem j8n {α:Type}(p:α→Bool):∀ (l:List α) (i:Nat),((l.zipIdx i).filter fun q=>p q.1).length=l.countP p
 | [],i=>rfl
 | x::l,i=>by
  rw[List.zipIdx_cons,List.filter_cons,List.countP_cons]
  have ih:=j8n p l (i+1)
  by_cases hp:p x=true
  ·rw[ifP hp,ifP hp,lnC,ih]
  ·rw[ifN hp,ifN hp,ih];rfl
theorem k8z (g:Gm_){r:Rule}{k:Nat}(hk:k≤r.rt_.length):(posL g r (k:Int)).length=(q7d g (q6q r (k:Int))).length:=by
 unfold posL
 rw[lnM,j8n (fun x:Oc=>decide (x.Pos=(k:Int)))]
 unfold occL
 rw[List.countP_flatMap]
 have hK:∀ j:Nat,(occK g r j).countP (fun x=>decide (x.Pos=(k:Int)))=if j=k then (q7d g (q6q r (k:Int))).length else 0:=by
  intro j
  unfold occK
  rw[List.countP_map]
  by_cases hj:j=k
  ·subst hj
   rw[ifP rfl,List.countP_eq_length.2 (by simp)]
  ·rw[ifN hj,List.countP_eq_zero.2]
   intro a _
   simp;omega
 have hsum:∀ m i,((Dhz i m).map (List.countP (fun x:Oc=>decide (x.Pos=(k:Int))) ∘ occK g r)).sum=if i≤k∧k<i+m then (q7d g (q6q r (k:Int))).length else 0:=by
  intro m
  induction m with
  | zero=>intro i;rw[ifN (by omega)];rfl
  | succ m ih=>
   intro i
   rw[List.range'_succ,Blz,Evz,ih (i+1),Function.comp,hK i]
   by_cases h1:i=k
   ·rw[ifP h1,ifN (by omega),ifP (by omega)];rfl
   ·rw[ifN h1,Adz]
    by_cases h2:i+1≤k∧k<i+1+m
    ·rw[ifP h2,ifP (by omega)]
    ·rw[ifN h2,ifN (by omega)]
 rw[hsum,ifP (by omega)]
noncomputable def z0g (own:Rl_) (a:Nat) (x:Int):Nat→List Int→Rl_→Rl_
 | _,[],o=>o
 | i,y::ys,o=>z0g own a x (i+1) ys (if hasP own (a:Int) (i:Int) then addP o x y else o)
noncomputable def z1v (own:Rl_) (at' : List Int):Nat→List Int→Rl_→Rl_
 | _,[],o=>o
 | a,x::xs,o=>z1v own at' (a+1) xs (z0g own a x 0 at' o)
theorem z8B (own:Rl_)(a:Nat)(x:Int):∀ (ys:List Int) (i:Nat) (o:Rl_),(z0g own a x i ys o).Rows.length=o.Rows.length∧(z0g own a x i ys o).N=o.N
 | [],i,o=>⟨rfl,rfl⟩
 | y::ys,i,o=>by
  rw[z0g]
  have ih:=z8B own a x ys (i+1) (if hasP own (a:Int) (i:Int) then addP o x y else o)
  by_cases h:hasP own (a:Int) (i:Int)
  ·rw[ifP h] at ih ⊢
   have:=z8y o x y
   exact⟨ih.1.trans this.1,ih.2.trans this.2⟩
  ·rw[ifN h] at ih ⊢;exact ih
theorem z9r (own:Rl_)(at' : List Int):∀ (xs:List Int) (a:Nat) (o:Rl_),(z1v own at' a xs o).Rows.length=o.Rows.length∧(z1v own at' a xs o).N=o.N
 | [],a,o=>⟨rfl,rfl⟩
 | x::xs,a,o=>by
  rw[z1v]
  have ih:=z9r own at' xs (a+1) (z0g own a x 0 at' o)
  have:=z8B own a x at' 0 o
  exact⟨ih.1.trans this.1,ih.2.trans this.2⟩
theorem k4q (own:Rl_)(a:Nat)(x:Int):∀ (ys:List Int) (i:Nat) (o:Rl_),o.Rows.length≤1048576 →
  eachL (z2j own a x) i ys (o.Rows,o.N)=some ((z0g own a x i ys o).Rows,(z0g own a x i ys o).N)∧eachL (z9P own a x) i ys (o.N,o.Rows)=some ((z0g own a x i ys o).N,(z0g own a x i ys o).Rows)
 | [],i,o,_=>⟨rfl,rfl⟩
 | y::ys,i,o,h=>by
  have e1:z2j own a x i y (o.Rows,o.N)=some ((if hasP own (a:Int) (i:Int) then addP o x y else o).Rows,(if hasP own (a:Int) (i:Int) then addP o x y else o).N):=by
   unfold z2j
   dsimp only
   rw[q9H,bsS]
   by_cases hp:hasP own (a:Int) (i:Int)
   ·rw[decide_eq_true hp,ifP rfl,ifP hp,k0G h];rfl
   ·rw[decide_eq_false hp,ifN (by simp),ifN hp];rfl
  have e2:z9P own a x i y (o.N,o.Rows)=some ((if hasP own (a:Int) (i:Int) then addP o x y else o).N,(if hasP own (a:Int) (i:Int) then addP o x y else o).Rows):=by
   unfold z9P
   dsimp only
   rw[z6Q,bsS]
   by_cases hp:hasP own (a:Int) (i:Int)
   ·rw[decide_eq_true hp,ifP rfl,ifP hp,j6B,k0G h];rfl
   ·rw[decide_eq_false hp,ifN (by simp),ifN hp];rfl
  have hl:(if hasP own (a:Int) (i:Int) then addP o x y else o).Rows.length≤1048576:=by
   split
   ·rw[(z8y o x y).1];exact h
   ·exact h
  have ih:=k4q own a x ys (i+1) _ hl
  rw[eachL,eachL,e1,e2,bsS,bsS,z0g]
  exact ih
theorem k0V (own:Rl_)(at' : List Int):∀ (xs:List Int) (a:Nat) (o:Rl_),o.Rows.length≤1048576 →
  eachL (z4U own at') a xs (o.Rows,o.N)=some ((z1v own at' a xs o).Rows,(z1v own at' a xs o).N)∧eachL (z9Q own at') a xs (o.N,o.Rows)=some ((z1v own at' a xs o).N,(z1v own at' a xs o).Rows)
 | [],a,o,_=>⟨rfl,rfl⟩
 | x::xs,a,o,h=>by
  have h1:=k4q own a x at' 0 o h
  have hl:(z0g own a x 0 at' o).Rows.length≤1048576:=by rw[(z8B own a x at' 0 o).1];exact h
  have ih:=k0V own at' xs (a+1) _ hl
  have e1:z4U own at' a x (o.Rows,o.N)=some ((z0g own a x 0 at' o).Rows,(z0g own a x 0 at' o).N):=by
   unfold z4U;dsimp only;rw[h1.1];rfl
  have e2:z9Q own at' a x (o.N,o.Rows)=some ((z0g own a x 0 at' o).N,(z0g own a x 0 at' o).Rows):=by
   unfold z9Q;dsimp only;rw[h1.2];rfl
  rw[eachL,eachL,e1,e2,bsS,bsS,z1v]
  exact ih
noncomputable def z7d (g:Gm_) (r:Rule) (o:Rl_) (pos:Int) (own:Rl_):Rl_:=z1v own (posL g r pos) 0 (posL g r pos) o
theorem k4r {g:Gm_}(h:GOk g){r:Rule}(hl:ROk r){o:Rl_}(ho:o.Rows.length≤1048576)(pos:Int)(own:Rl_):z9R g r o pos own=some (z7d g r o pos own):=by
 unfold z9R z7d
 rw[k4p h hl,bsS,(k0V own (posL g r pos) (posL g r pos) 0 o ho).2];rfl
theorem j9R {r:Rule}{k:Nat}{x:BA_}(h:r.rt_[k]?=some x):q6q r ((k+1:Nat):Int)=x:=by
 have hk:=(List.getElem?_eq_some_iff.1 h).1
 unfold q6q
 rw[ifN (by omega),ifP (by omega),show (((k+1:Nat):Int)-1).toNat=k by omega,Cwz,h];rfl
theorem j5s (g:Gm_)(r:Rule)(o:Rl_)(pos:Int)(own:Rl_):(z7d g r o pos own).Rows.length=o.Rows.length:=(z9r own _ _ 0 o).1
noncomputable def locR (g:Gm_) (r:Rule):Rl_:=(q7y g r).getD ⟨0,[]⟩
theorem k7f {g:Gm_}{r:Rule}(h:Sz.szd g≤1048576)(hr:Sz.szd r≤1048576):q7y g r=some (locR g r)∧q7w g r=some (locR g r)∧(locR g r).Rows.length≤16:=by
 obtain⟨x,h1,h2,h3⟩:=k2d h hr
 unfold locR
 rw[h1,h2];exact⟨rfl,rfl,h3⟩
section
variable {α β ρ σ:Type}{Q:β→Prop}{b:List UInt8}
theorem Ok.bif {c:Prop}[Decidable c]{A B:Option α}{k:α→Option β}(h1:c→Ok Q (A.bind k))(h2:¬ c→Ok Q (B.bind k)):Ok Q ((if c then A else B).bind k):=by
 by_cases hc:c
 ·rw[ifP hc];exact h1 hc
 ·rw[ifN hc];exact h2 hc
theorem Ok.bso {x:α}{k:α→Option β}(h:Ok Q (k x)):Ok Q ((some x).bind k):=h
theorem Ok.bbi {γ:Type}{A:Option α}{B:α→Option γ}{k:γ→Option β}(h:Ok Q (A.bind fun x=>(B x).bind k)):Ok Q ((A.bind B).bind k):=by
 rw[Option.bind_assoc];exact h
theorem Ok.bgr {c:Prop}[Decidable c]{A:Option α}{k:α→Option β}(hc:c)(h:Ok Q (A.bind k)):Ok Q ((Go.E.grd c A).bind k):=by rw[q3P hc];exact h
theorem Ok.get {l:List α}{j:Nat}{k:α→Option β}(hj:j<l.length)(h:∀ x,x∈l→Ok Q (k x)):Ok Q ((l[j]?).bind k):=by
 obtain⟨x,hx⟩:∃ x,l[j]?=some x:=⟨_,Cmz hj⟩
 rw[hx];exact h x (Bvz hx)
theorem Ok.eq {A:Option α}{x:α}{k:α→Option β}(hA:A=some x)(h:Ok Q (k x)):Ok Q (A.bind k):=by rw[hA];exact h
theorem drK {P:α→Prop}{o:Option (α×L1_)}(ho:Dr b P o){k:α×L1_→Option β}(hk:∀ y i' h',P y→0≤i'→Ok Q (k (y,⟨b,i',h'⟩))):Ok Q (o.bind k):=by
 obtain⟨⟨y,z⟩,rfl,hy,hz,he⟩:=ho
 obtain⟨zb,zi,zh⟩:=z
 dsimp only at he hz hy
 subst he
 exact hk y zi zh hy hz
theorem cb {i h:Int}(hi:0≤i):CB b ⟨b,i,h⟩:=⟨hi,rfl⟩
theorem Dr.re {P:α→Prop}{y:α}{i h:Int}(hy:P y)(hi:0≤i):Dr b P (some (y,(⟨b,i,h⟩:L1_))):=⟨_,rfl,hy,hi,rfl⟩
theorem j6K {P:σ→Prop}{Q:ρ→Prop}{f:σ→Option (σ ⊕ ρ)}(μ:σ→Nat)(hf:∀ s,P s→Ok (fun z=>match z with|.inl s'=>P s'∧μ s'<μ s|.inr r=>Q r) (f s)):∀ s,P s→Ok Q (q4D f s):=by
 have key:∀ n s,μ s<n→P s→Ok Q (q4D f s):=by
  intro n
  induction n with
  | zero=>intro s h;omega
  | succ n ih=>
   intro s h hp
   obtain⟨z,hz,hq⟩:=hf s hp
   cases z with
   | inl s'=>rw[q4a hz];exact ih s' (by have:=hq.2;omega) hq.1
   | inr r=>exact⟨r,q3Q hz,hq⟩
 exact fun s hs=>key _ s (Nat.lt_succ_self _) hs
end
theorem j9S {α β:Type}{Q:β→Prop}(P:Nat→List α→Prop){f:Nat→Int×Int×List α→Option (Int×Int×List α)}{k:Int×Int×List α→Option β}{n:Nat}{i h:Int}{l:List α}(hi:0≤i)(h0:P 0 l)
  (hf:∀ j l i h,j<n→0≤i→P j l→Ok (fun s:Int×Int×List α=>0≤s.1∧P (j+1) s.2.2) (f j (i,h,l))) (hk:∀ l i h,0≤i→P n l→Ok Q (k (i,h,l))):Ok Q ((eachN f 0 n (i,h,l)).bind k):=by
 obtain⟨s,e,h1⟩:=j6y (P:=fun k (s:Int×Int×List α)=>0≤s.1∧P k s.2.2) (f:=f) (n:=n) (i:=0) (s:=(i,h,l)) ⟨hi,h0⟩ fun j s _ hj hs=>hf j _ _ _ (by omega) hs.1 hs.2
 rw[e]
 rw[Adz] at h1
 exact hk _ _ _ h1.1 h1.2
theorem k8A {γ α β:Type}{Q:β→Prop}(P:Nat→List α→Prop){f:Nat→γ→Int×Int×List α→Option (Int×Int×List α)}{k:Int×Int×List α→Option β}{xs:List γ}{i h:Int}{l:List α}(hi:0≤i)(h0:P 0 l)
  (hf:∀ j x l i h,x∈xs→j<xs.length→0≤i→P j l→Ok (fun s:Int×Int×List α=>0≤s.1∧P (j+1) s.2.2) (f j x (i,h,l))) (hk:∀ l i h,0≤i→P xs.length l→Ok Q (k (i,h,l))):Ok Q ((eachL f 0 xs (i,h,l)).bind k):=by
 obtain⟨s,e,h1⟩:=j6z (P:=fun k (s:Int×Int×List α)=>0≤s.1∧P k s.2.2) (f:=f) (xs:=xs) (i:=0) (s:=(i,h,l)) ⟨hi,h0⟩ fun j x s hx _ hj hs=>hf j x _ _ _ hx (by omega) hs.1 hs.2
 rw[e]
 rw[Adz] at h1
 exact hk _ _ _ h1.1 h1.2
def SB (s:Symbol):Prop:=s.Name.size≤8∧1≤s.as_.length∧s.as_.length≤5∧∀ a∈s.as_,a.Name.size≤8
def RB (r:Rule):Prop:=r.Name.size≤8∧r.Left.size≤8∧r.rt_.length≤5∧(∀ x∈r.rt_,x.size≤8)
def SBs (l:List Symbol):Prop:=1≤l.length∧l.length≤3∧∀ s∈l,SB s
theorem j8o {α:Type}[Sz α]{m:Nat}:∀ {l:List α},(∀ x∈l,Sz.szd x≤m)→szL l≤l.length*(m+1)
 | [],_=>by simp[szL]
 | x::l,h=>by
  have h1:=j8o (m:=m) (l:=l) fun y hy=>h y (by simp[hy])
  have h2:=h x (by simp)
  simp only[szL,lnC,Nat.add_mul];omega
theorem RB.rok {r:Rule}(h:RB r):ROk r:=by have:=h.2.2.1;show r.rt_.length≤1048576;omega
section
variable {b:List UInt8}(hb:b.length≤1048576)
include hb
theorem k9l {x:BA_}(h:x∈[(⟨#[97]⟩:BA_),(⟨#[98]⟩:BA_),(⟨#[99]⟩:BA_),(⟨#[100]⟩:BA_)]):x.size≤8:=by
 simp only[Dsz,Daz,or_false] at h
 rcases h with h|h|h|h<;>rw[h]<;>decide
theorem k7g {nm:BA_}(hn:nm.size≤8)(a2 a3:Bool){i h:Int}(hi:0≤i):Dr b SB (z5K nm a2 a3 ⟨b,i,h⟩):=by
 unfold z5K
 refine drK (q5d hb 4 ⟨hi,rfl⟩) fun y i1 h1 hy hi1=>?_
 have h4:=hy.2.1 (by omega)
 refine .grd (by constructor<;>omega) ?_
 refine j9S (fun k l=>l.length=k∧∀ a∈l,a.Name.size≤8) hi1 ⟨rfl,by simp⟩ (fun k s1 s2 s3 hk hs1 hs=>?_) fun s1 i2 h2 p1 hs=>?_
 ·obtain⟨hs2,hs3⟩:=hs
  unfold j4V
  dsimp only
  refine .bbi (.get (by simp;omega) fun x1 hx1=>?_)
  have hx1:=k9l hb hx1
  have fin:∀ (t m:Int) (i' h' : Int),0≤i'→Ok (fun s:Int×Int×List At_=>0≤s.1∧(s.2.2.length=k+1∧∀ a∈s.2.2,a.Name.size≤8)) (some (i',h',s1++[(⟨x1,t,m,false⟩:At_)])):=fun t m i' h' hi'=>by
   refine .ret ⟨hi',by simp[hs2],fun a ha=>?_⟩
   simp only[List.mem_append,Dsz,Daz,or_false] at ha
   rcases ha with ha|ha
   ·exact hs3 a ha
   ·rw[ha];exact hx1
  refine .bbi (drK (z1C hb (by simp) ⟨hs1,rfl⟩) fun t i2 h2 _ hi2=>?_)
  refine .bbi (drK (z1C hb (by simp) ⟨hi2,rfl⟩) fun m i3 h3 _ hi3=>?_)
  cases a2<;>cases a3<;>dsimp only
  all_goals
   repeat' first
    | ((with_reducible refine .bso ?_);try dsimp only)
    | (with_reducible exact fin _ _ _ _ (by assumption))
    | ((with_reducible refine .bbi ?_);try dsimp only)
    | (with_reducible refine .bif (fun _=>?_) fun _=>?_)
    | (with_reducible refine .ite (fun _=>?_) fun _=>?_)
    | ((with_reducible refine drK (z0Q hb _ (cb (by assumption))) fun _ _ _ _ _=>?_);try dsimp only)
    | ((with_reducible refine drK (z1C hb (by simp) (cb (by assumption))) fun _ _ _ _ _=>?_);try dsimp only)
    | ((with_reducible refine drK (q5d hb _ (cb (by assumption))) fun _ _ _ _ _=>?_);try dsimp only)
    | (refine .bgr (by constructor<;>omega) ?_)
    | (refine .grd (by constructor<;>omega) ?_)
 ·obtain⟨p2,p3⟩:=hs
  dsimp only
  exact Dr.re ⟨hn,by dsimp only;omega,by dsimp only;omega,p3⟩ p1
end
theorem j6L {g:Gm_}(h:SBs g.ss_)(nm:BA_):(q7C g nm).1.as_.length≤5∧∀ a∈(q7C g nm).1.as_,a.Name.size≤8:=by
 unfold q7C
 split
 ·rename_i y hy
  have:=h.2.2 y (Eaz hy)
  exact⟨this.2.2.1,this.2.2.2⟩
 ·exact⟨by simp[zS],by simp[zS]⟩
theorem k6s {y:Symbol}(h:∀ a∈y.as_,a.Name.size≤8)(nm:BA_):q6m y nm=some (z3G y nm):=by
 unfold q6m z3G
 rw[z2Q (p:=fun a=>decide (a.Name=nm)) (r:=fun a=>(a,true)) fun k x _=>⟨fun hp=>by unfold z2r;rw[ifP (by simpa using hp)],fun hp=>by unfold z2r;rw[ifN (by simpa using hp)]⟩]
 cases y.as_.find? fun a=>decide (a.Name=nm)<;>rfl
theorem SBs.g {g:Gm_}(h:SBs g.ss_):GOk g:=fun y hy=>by have:=(h.2.2 y hy).2.2.1;omega
theorem k6t {g:Gm_}(hs:SBs g.ss_){r:Rule}(hr:r.rt_.length≤5)(k:Int):Ok (fun q=>∀ o∈q,o.Name.size≤8) (z2X g r k):=by
 unfold z2X
 refine Ok.bind (Q:=fun q=>∀ o∈q,o.Name.size≤8) (j6K (P:=fun s:List Oc×Int=>0≤s.2∧s.2≤r.rt_.length+1∧(s.1.length:Int)≤5*s.2∧∀ o∈s.1,o.Name.size≤8) (fun s=>(r.rt_.length+1-s.2).toNat) ?_ _ ⟨by simp,by simp;omega,by simp,by simp⟩) fun q hq=>.ret hq
 rintro⟨q,p⟩ ⟨h1,h2,h3,h4⟩
 dsimp only at h1 h2 h3 h4
 unfold j7B
 dsimp only
 refine .ite (fun hp=>?_) fun _=>.ret h4
 refine .eq (z3O (show r.rt_.length≤1048576 by omega) p) ?_
 refine .eq (z3H hs.g _) ?_
 have hff:=j6L hs (q6q r p)
 generalize q7C g (q6q r p)=fs at hff
 obtain⟨y,yb⟩:=fs
 obtain⟨f1,f2⟩:=hff
 dsimp only at f1 f2 ⊢
 refine Ok.bind (Q:=fun q'=>q'.length≤q.length+5∧∀ o∈q',o.Name.size≤8) ((j6z (P:=fun k q'=>q'.length≤q.length+k∧∀ o∈q',o.Name.size≤8) (i:=0) ⟨by omega,h4⟩ ?_).mono fun q' hq=>⟨by omega,hq.2⟩) fun q' hq=>.grd (by constructor<;>omega) (.ret ⟨⟨by dsimp only;omega,by dsimp only;omega,by dsimp only;omega,hq.2⟩,by dsimp only;omega⟩)
 intro j a l ha _ hj hl
 have hl1:=hl.1
 have hl2:=hl.2
 have ha:=f2 a ha
 unfold j7A
 dsimp only
 have e1:Ok (fun q' : List Oc=>q'.length≤q.length+(j+1)∧∀ o∈q',o.Name.size≤8) (some l):=.ret ⟨by omega,hl2⟩
 have e2:Ok (fun q' : List Oc=>q'.length≤q.length+(j+1)∧∀ o∈q',o.Name.size≤8) (some (l++[(⟨p,a.Name⟩:Oc)])):=.ret ⟨by simp;omega,fun o ho=>by
  simp only[List.mem_append,Dsz,Daz,or_false] at ho
  rcases ho with ho|ho
  ·exact hl2 o ho
  ·rw[ho];exact ha⟩
 have hb:([]:List UInt8).length≤1048576:=by simp
 repeat' first
  | ((with_reducible refine .bso ?_);try dsimp only)
  | (with_reducible exact e1)
  | (with_reducible exact e2)
  | ((with_reducible refine .bbi ?_);try dsimp only)
  | (with_reducible refine .bif (fun _=>?_) fun _=>?_)
  | (with_reducible refine .ite (fun _=>?_) fun _=>?_)
  | ((with_reducible refine drK (z0Q hb _ (cb (by assumption))) fun _ _ _ _ _=>?_);try dsimp only)
  | ((with_reducible refine drK (z1C hb (by simp) (cb (by assumption))) fun _ _ _ _ _=>?_);try dsimp only)
  | ((with_reducible refine drK (q5d hb _ (cb (by assumption))) fun _ _ _ _ _=>?_);try dsimp only)
  | (refine .bgr (by constructor<;>omega) ?_)
  | (refine .grd (by constructor<;>omega) ?_)
theorem k9Q (a:Int):Ok (fun _=>True) (q5v a):=by
 unfold q5v
 rw[z1g,bsS,z1g,bsS]
 repeat' first
  | exact .ret trivial
  | refine .ite (fun _=>?_) fun _=>?_
theorem k9R (a:Int)(x y:Expr):z4t a x y=some (⟨4,a,0,0,(⟨#[]⟩:BA_),(⟨#[]⟩:BA_),[x,y]⟩:Expr):=rfl
theorem k8B (g:Gm_)(r:Rule)(rem:Bool):∀ (m n1 n2:Nat),m<n1→m<n2→∀ (k d:Int) (o:L1_),d≤m+1→q6W n1 g r k d rem o=q6W n2 g r k d rem o:=by
 intro m
 induction m with
 | zero=>
  intro n1 n2 h1 h2 k d o hd
  obtain⟨n1,rfl⟩:∃ q,n1=q+1:=⟨n1-1,by omega⟩
  obtain⟨n2,rfl⟩:∃ q,n2=q+1:=⟨n2-1,by omega⟩
  show q7U (q6W n1) g r k d rem o=q7U (q6W n2) g r k d rem o
  unfold q7U
  simp only[ifP (show d<2 by omega),bsS,if_true]
 | succ m ih=>
  intro n1 n2 h1 h2 k d o hd
  obtain⟨n1,rfl⟩:∃ q,n1=q+1:=⟨n1-1,by omega⟩
  obtain⟨n2,rfl⟩:∃ q,n2=q+1:=⟨n2-1,by omega⟩
  show q7U (q6W n1) g r k d rem o=q7U (q6W n2) g r k d rem o
  have h:∀ k o,q6W n1 g r k (d-1) rem o=q6W n2 g r k (d-1) rem o:=fun k o=>ih n1 n2 (by omega) (by omega) k (d-1) o (by omega)
  unfold q7U
  simp only[h]
section
variable {b:List UInt8}(hb:b.length≤1048576)
include hb
theorem k6u {g:Gm_}(hs:SBs g.ss_){r:Rule}(hr:r.rt_.length≤5)(rem:Bool):∀ (m n:Nat),m<n→∀ (k d i h:Int),d≤m+1→-1000+m≤d→d≤1000→0≤i→Dr b (fun e=>Sz.szd e≤fb m) (q6W n g r k d rem ⟨b,i,h⟩):=by
 intro m
 induction m with
 | zero=>
  intro n hn k d i h hd hd0 hd1 hi
  obtain⟨n,rfl⟩:∃ q,n=q+1:=⟨n-1,by omega⟩
  show Dr b _ (q7U (q6W n) g r k d rem ⟨b,i,h⟩)
  unfold q7U
  rw[ifP (show d<2 by omega)]
  dsimp only
  rw[bsS]
  dsimp only
  rw[ifP rfl]
  unfold Dr
  have hf:=j5l hb 0
  repeat' first
   | ((with_reducible refine .bso ?_);try dsimp only)
   | ((with_reducible refine .bind (k6t hs hr _) fun _ _=>?_))
   | ((with_reducible refine drK (j1a hb _ (by assumption) (cb (by assumption))) fun _ _ _ _ _=>?_);try dsimp only)
   | ((with_reducible refine .bbi ?_);try dsimp only)
   | (with_reducible refine .bif (fun _=>?_) fun _=>?_)
   | (with_reducible refine .ite (fun _=>?_) fun _=>?_)
   | ((with_reducible refine drK (z0Q hb _ (cb (by assumption))) fun _ _ _ _ _=>?_);try dsimp only)
   | ((with_reducible refine drK (z1C hb (by simp) (cb (by assumption))) fun _ _ _ _ _=>?_);try dsimp only)
   | ((with_reducible refine drK (q5d hb _ (cb (by assumption))) fun _ _ _ _ _=>?_);try dsimp only)
   | (refine .bgr (by constructor<;>omega) ?_)
   | (refine .grd (by constructor<;>omega) ?_)
  all_goals refine⟨_,rfl,?_,by assumption,rfl⟩
  all_goals dsimp only
  all_goals first
   | (rw[j5k hb,z4b hb];omega)
   | omega
 | succ m ih=>
  intro n hn k d i h hd hd0 hd1 hi
  obtain⟨n,rfl⟩:∃ q,n=q+1:=⟨n-1,by omega⟩
  have hr1:∀ k i h,0≤i→Dr b (fun e=>Sz.szd e≤fb m) (q6W n g r k (d-1) rem ⟨b,i,h⟩):=fun k i h hi=>ih n (by omega) k (d-1) i h (by omega) (by omega) (by omega) hi
  show Dr b _ (q7U (q6W n) g r k d rem ⟨b,i,h⟩)
  unfold q7U Dr
  dsimp only
  have hl:=hs.1
  have hf:=j5l hb m
  have hg:=k3E hb m
  have hid:I64 (d-1):=by constructor<;>omega
  repeat' first
   | ((with_reducible refine .bso ?_);try dsimp only)
   | ((with_reducible refine .bind (k6t hs hr _) fun _ _=>?_))
   | ((with_reducible refine drK (j1a hb _ (by assumption) (cb (by assumption))) fun _ _ _ _ _=>?_);try dsimp only)
   | ((with_reducible refine drK (hr1 _ _ _ (by assumption)) fun _ _ _ _ _=>?_);try dsimp only)
   | ((with_reducible refine .bind (k9Q _) fun _ _=>?_);try dsimp only)
   | ((with_reducible refine .eq (k9R _ _ _) ?_);try dsimp only)
   | ((with_reducible refine .grd hid ?_))
   | ((with_reducible refine .grd (by omega) ?_))
   | ((with_reducible refine .get (l:=g.ss_) (by omega) fun x hx=>?_);obtain⟨_,_,_,hat⟩:=hs.2.2 x hx)
   | ((with_reducible refine .get (by omega) fun x hx=>?_);have hxn:=hat x hx)
   | ((with_reducible refine .bbi ?_);try dsimp only)
   | (with_reducible refine .bif (fun _=>?_) fun _=>?_)
   | (with_reducible refine .ite (fun _=>?_) fun _=>?_)
   | ((with_reducible refine drK (z0Q hb _ (cb (by assumption))) fun _ _ _ _ _=>?_);try dsimp only)
   | ((with_reducible refine drK (z1C hb (by simp) (cb (by assumption))) fun _ _ _ _ _=>?_);try dsimp only)
   | ((with_reducible refine drK (q5d hb _ (cb (by assumption))) fun _ _ _ _ _=>?_);try dsimp only)
   | (refine .bgr (by constructor<;>omega) ?_)
   | (refine .grd (by constructor<;>omega) ?_)
  all_goals refine⟨_,rfl,?_,by assumption,rfl⟩
  all_goals dsimp only at *
  all_goals first
   | (rw[j5k hb,z4b hb];omega)
   | (rw[k6Z hb];omega)
   | (rw[k3D hb,z4b hb];omega)
   | (rw[k0F hb,z4b hb];omega)
   | omega
theorem k8C {g:Gm_}(hs:SBs g.ss_){r:Rule}(hr:r.rt_.length≤5)(rem:Bool)(k d i h:Int)(h0:0≤d)(h3:d≤3)(hi:0≤i):Dr b (fun e=>Sz.szd e≤320) (j0G g r k d rem ⟨b,i,h⟩):=
 k3C (N:=3) (fun n hn=>k8B g r rem 2 (n+1) n (by omega) (by omega) k d _ (by omega)) (k6u hb hs hr rem 2 3 (by omega) k d i h (by omega) (by omega) (by omega) hi)
end
theorem j2m {α β:Type}{f:α→List β}{C:Nat}(h:∀ x,(f x).length≤C):∀ l:List α,(l.flatMap f).length≤l.length*C
 | []=>by simp
 | x::l=>by
  have h1:=j2m h l
  have h2:=h x
  simp only[List.flatMap_cons,Axz,lnC,Nat.add_mul];omega
theorem k4s {g:Gm_}(hs:SBs g.ss_)(r:Rule)(k:Nat):(reqK g r k).length≤5∧∀ o∈reqK g r k,o.Name.size≤8:=by
 obtain⟨f1,f2⟩:=j6L hs (q6q r (k:Int))
 unfold reqK
 refine⟨by rw[lnM];exact Bgz (Ewz _ _) f1,fun o ho=>?_⟩
 obtain⟨a,ha,rfl⟩:=List.mem_map.1 ho
 exact f2 a (List.mem_filter.1 ha).1
theorem k8D {g:Gm_}(hs:SBs g.ss_){r:Rule}(hr:r.rt_.length≤5):(reqL g r).length≤30∧∀ o∈reqL g r,o.Name.size≤8:=by
 unfold reqL
 refine⟨?_,fun o ho=>?_⟩
 ·have:=j2m (C:=5) (fun k=>(k4s hs r k).1) (Dhz 0 (r.rt_.length+1))
  rw[List.length_range'] at this
  omega
 ·obtain⟨k,_,hk⟩:=List.mem_flatMap.1 ho
  exact (k4s hs r k).2 o hk
theorem j0t {α:Type}[Sz α](l:List α)(x:α):szL (l++[x])=szL l+(1+Sz.szd x):=by rw[j0z];rfl
theorem j8p (o:Oc)(e:Expr):Sz.szd (⟨o,e⟩:Eqn)=o.Name.size+Sz.szd e:=by rw[j1A,q7o];dsimp only;omega
theorem k7h (s m:BA_)(e f:Expr):Sz.szd (⟨s,m,e,f⟩:Cn)=s.size+m.size+Sz.szd e+Sz.szd f:=by rw[z7b,q7o,q7o];dsimp only;omega
section
variable {b:List UInt8}(hb:b.length≤1048576)
include hb
theorem k8E {g:Gm_}(hs:SBs g.ss_){r:Rule}(hr:RB r)(he:r.es_=[])(rem:Bool){i h:Int}(hi:0≤i):Dr b (fun q=>RB q∧(szL q.es_≤12000∧q.es_.length≤30)∧q.cs_=r.cs_) (z5M g r rem ⟨b,i,h⟩):=by
 have h5:=hr.2.2.1
 obtain⟨q1,q2⟩:=k8D hs h5
 unfold z5M
 refine .eq (j6G hs.g hr.rok) ?_
 refine k8A (fun j (l:List Eqn)=>l.length=j∧szL l≤j*400) hi (by rw[he];exact⟨rfl,by simp[szL]⟩) (fun j x l i h hx hj hi hl=>?_) fun l i h hi hl=>?_
 ·obtain⟨hl1,hl2⟩:=hl
  have hx:=q2 x hx
  have fin:∀ (e:Expr) (i' h' : Int),Sz.szd e≤320→0≤i'→Ok (fun s:Int×Int×List Eqn=>0≤s.1∧(s.2.2.length=j+1∧szL s.2.2≤(j+1)*400)) (some (i',h',l++[(⟨x,e⟩:Eqn)])):=fun e i' h' h1 hi'=>.ret ⟨hi',by simp[hl1],by dsimp only;rw[j0t,j8p];omega⟩
  unfold j2S
  dsimp only
  refine .bbi (.eq (z3O (show r.rt_.length≤1048576 by omega) _) ?_)
  refine .bbi (.eq (z3H hs.g _) ?_)
  have hff:=j6L hs (q6q r x.Pos)
  generalize q7C g (q6q r x.Pos)=fs at hff
  obtain⟨y,yb⟩:=fs
  obtain⟨f1,f2⟩:=hff
  dsimp only at f1 f2 ⊢
  refine .bbi (.eq (k6s f2 _) ?_)
  generalize z3G y x.Name=fa
  obtain⟨a,ab⟩:=fa
  dsimp only
  refine .bbi (drK (q5d hb 3 (cb hi)) fun d i1 h1 hd hi1=>?_)
  have hd3:=hd.2.1 (by omega)
  refine .bgr (by constructor<;>omega) ?_
  refine .bbi (drK (k8C hb hs (r:=⟨r.Name,r.Left,r.rt_,r.ll_,l,r.cs_⟩) h5 rem _ _ _ _ (by omega) (by omega) hi1) fun e i2 h2 he2 hi2=>?_)
  dsimp only at he2 ⊢
  refine .bbi (.eq (j0n (by have:=k3G hb he2;omega)) ?_)
  refine .bif (fun _=>?_) fun _=>?_
  ·refine .bgr (by constructor<;>omega) ?_
   exact fin _ _ _ he2 hi2
  ·refine .bbi (drK (j1a hb _ (by simp) (cb hi2)) fun e3 i3 h3 he3 hi3=>?_)
   refine .bgr (by constructor<;>omega) ?_
   exact fin _ _ _ (by show Sz.szd e3≤320;have:Sz.szd e3≤8:=he3;omega) hi3
 ·exact⟨_,rfl,⟨hr,⟨by have:=hl.2;dsimp only;omega,by have:=hl.1;dsimp only;omega⟩,rfl⟩,hi,rfl⟩
theorem k9m {g:Gm_}(hs:SBs g.ss_){r:Rule}(hr:RB r)(hc:r.cs_=[]){i h:Int}(hi:0≤i):Dr b (fun q=>RB q∧q.es_=r.es_∧szL q.cs_≤200) (z7r g r ⟨b,i,h⟩):=by
 have h5:=hr.2.2.1
 unfold z7r
 refine k8A (fun _ (l:List Cn)=>l.length≤2∧szL l≤l.length*40) hi (by rw[hc];simp[szL]) (fun j x l i h hx hj hi hl=>?_) fun l i h hi hl=>?_
 ·obtain⟨s1,_,_,s2⟩:=hs.2.2 x hx
  unfold j4X
  dsimp only
  refine k8A (fun _ (l:List Cn)=>l.length≤2∧szL l≤l.length*40) hi hl (fun j2 a l i h ha hj hi hl=>?_) fun l i h hi hl=>.ret ⟨hi,hl⟩
  have ha:=s2 a ha
  unfold j4W
  dsimp only
  refine .bbi ?_
  refine .bif (fun _=>.bso ?_) fun _=>.bso ?_
  ·refine .bbi ?_
   refine .bif (fun h2=>?_) fun _=>.bso ?_
   ·have hl2:l.length<2:=by have:=of_decide_eq_true h2;omega
    refine .bbi (drK (z0Q hb _ (cb hi)) fun y i1 h1 _ hi1=>?_)
    refine .bso ?_
    dsimp only
    refine .bif (fun _=>?_) fun _=>.bso ?_
    ·refine .bbi (.bind (k6t hs (r:=⟨r.Name,r.Left,r.rt_,r.ll_,r.es_,l⟩) h5 _) fun q hq=>?_)
     refine .bbi (drK (j1a hb _ hq (cb hi1)) fun e i2 h2 he hi2=>?_)
     refine .bbi (.bind (k6t hs (r:=⟨r.Name,r.Left,r.rt_,r.ll_,r.es_,l⟩) h5 _) fun q3 hq3=>?_)
     refine .bbi (drK (j1a hb _ hq3 (cb hi2)) fun e3 i3 h3 he3 hi3=>?_)
     refine .bgr (by constructor<;>omega) ?_
     refine .bso (.ret ⟨hi3,by dsimp only;simp;omega,?_⟩)
     dsimp only at he he3 ⊢
     rw[j0t,k7h,Axz,List.length_singleton]
     have:=hl.2
     omega
    ·exact .ret ⟨hi1,hl⟩
   ·dsimp only
    refine .bif (fun h=>by cases h) fun _=>.bso (.ret ⟨hi,hl⟩)
  ·refine .bbi ?_
   refine .bif (fun h=>by cases h) fun _=>.bso ?_
   dsimp only
   refine .bif (fun h=>by cases h) fun _=>.bso (.ret ⟨hi,hl⟩)
 ·refine⟨_,rfl,⟨hr,rfl,?_⟩,hi,rfl⟩
  have:=hl.1
  have:=hl.2
  dsimp only
  have h80:l.length*40≤80:=by omega
  omega
end
theorem k9n {k:Nat}(hk:k<2):Ok (fun x=>x.size≤1) (q6e (k:Int)):=by
 have:k=0∨k=1:=by omega
 rcases this with rfl|rfl
 ·exact⟨⟨#[48]⟩,by unfold q6e;rfl,by decide⟩
 ·refine⟨⟨#[49]⟩,?_,by decide⟩
  unfold q6e
  rw[ifN (by decide)]
  have h1:q7M (((1:Nat):Int),(⟨#[]⟩:BA_))=some (.inl (0,⟨#[49]⟩)):=by
   unfold q7M
   dsimp only
   rw[ifN (by decide),ifN (by decide),q3P (by constructor<;>decide),q3P (by decide),q3P (by constructor<;>decide)]
   rfl
  have h2:q7M (0,(⟨#[49]⟩:BA_))=some (.inr ⟨#[49]⟩):=rfl
  rw[q4a h1,q3Q h2]
  rfl
end Go.Proofs.YtgkepiefcpfimaaGreatDoor
