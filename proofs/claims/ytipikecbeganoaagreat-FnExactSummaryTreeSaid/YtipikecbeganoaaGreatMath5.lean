/- What those partial functions come to: plain lemmas on data; each bears its conditions in its statement. -/
import Derived.Test.YtipikecbeganoaaGreatMath4
set_option linter.unusedVariables false
set_option linter.unusedSimpArgs false
set_option linter.ambiguousOpen false
set_option linter.unusedSectionVars false
set_option linter.unnecessarySimpa false
namespace Go.Proofs.YtipikecbeganoaaGreat
open Go Go.E
theorem k9O {n:Nat}{x y:Int}(hx:0≤x∧x≤((2 ^ n:Nat):Int)-1)(hy:0≤y∧y≤((2 ^ n:Nat):Int)-1):0≤orI x y∧orI x y≤((2 ^ n:Nat):Int)-1:=by
 have:=Nat.or_lt_two_pow (n:=n) (x:=x.toNat) (y:=y.toNat) (by omega) (by omega)
 unfold orI;omega
def sumR (a:Rl_):Nat:=(a.Rows.map Int.toNat).sum
theorem k4v {a:Rl_}(ha:Valid a):sumR a≤16*65535:=by
 have key:∀ l:List Int,(∀ x∈l,x.toNat≤65535)→(l.map Int.toNat).sum≤l.length*65535:=by
  intro l
  induction l with
  | nil=>intro _;simp
  | cons x l ih=>
   intro h
   have h1:=h x (by simp)
   have h2:=ih fun y hy=>h y (by simp[hy])
   simp only[List.map_cons,List.sum_cons,lnC]
   omega
 have h1:=key a.Rows fun x hx=>by
  have:=ha.2.2.2 x hx
  have:=x0r ha.2.1
  omega
 have hl:a.Rows.length≤16:=by have:=ha.2.2.1;have:=ha.2.1;omega
 exact Nat.le_trans h1 (Nat.mul_le_mul_right 65535 hl)
theorem k4w {b:List Int}{f:Nat→Int→Unit→Option (Unit ⊕ Bool)}(hf:∀ k x,f k x ()=(b[k]?).bind fun x2=>if x=x2 then some (.inl ()) else some (.inr false)) :
  ∀ (xs ys:List Int) (i:Nat),xs.length=ys.length→(∀ j,b[i+j]?=ys[j]?)→findL f i xs ()=some (if xs=ys then .inl () else .inr false)
 | [],ys,i,hl,_=>by obtain rfl:=List.eq_nil_of_length_eq_zero hl.symm;rfl
 | x::xs,[],i,hl,_=>by simp at hl
 | x::xs,y::ys,i,hl,hb=>by
  have h0:b[i]?=some y:=by simpa using hb 0
  rw[findL,hf,h0,bsS]
  by_cases hx:x=y
  ·rw[ifP hx,bsS]
   dsimp only
   rw[k4w hf xs ys (i+1) (by simpa using hl) fun j=>by have:=hb (j+1);rw[show i+1+j=i+(j+1) by omega];simpa using this]
   subst hx
   by_cases he:xs=ys
   ·rw[ifP he,ifP (by rw[he])]
   ·rw[ifN he,ifN (by intro hh;injection hh with _ h2;exact he h2)]
  ·rw[ifN hx,bsS]
   dsimp only
   rw[ifN (by intro hh;injection hh with h2 _;exact hx h2)]
theorem j6p (a b:Rl_):q7e a b=some (decide (a=b)):=by
 obtain⟨n,xs⟩:=a
 obtain⟨m,ys⟩:=b
 unfold q7e z9n
 dsimp only
 by_cases hn:n=m
 ·rw[ifP hn]
  by_cases hl:xs.length=ys.length
  ·rw[ifP (by omega),k4w (b:=ys) (fun k x=>rfl) xs ys 0 hl fun j=>by rw[Nat.zero_add]]
   by_cases he:xs=ys
   ·rw[ifP he,decide_eq_true (by rw[hn,he])];rfl
   ·rw[ifN he,decide_eq_false (by intro hh;injection hh with _ h2;exact he h2)];rfl
  ·rw[ifN (by omega),decide_eq_false (by intro hh;injection hh with _ h2;exact hl (by rw[h2]))];rfl
 ·rw[ifN hn,decide_eq_false (by intro hh;injection hh with h1 _;exact hn h1)]
theorem j9O (a b:Rl_):q8e a b=some (decide (a=b)):=by
 rw[← j6p];rfl
noncomputable def j6q (r:Rl_):Bool:=decide (∃ k:Nat,k<r.Rows.length∧hasP (q8j r) (k:Int) (k:Int))
theorem k6D {r:Rl_}(h:r.Rows.length≤1048576):z3a r=some (j6q r):=j9C h
theorem k6E {r:Rl_}(h:r.Rows.length≤1048576):z2Z r=some (j6q r):=by
 unfold z2Z j6q
 rw[q8W,bsS]
 by_cases hv:Valid r
 ·rw[decide_eq_true hv,ifP rfl,j7P h,bsS]
  have hN:r.N.toNat=r.Rows.length:=by have:=hv.2.2.1;omega
  rw[hN,j3w (c:=true) (n:=r.Rows.length) (q:=fun k=>!decide (hasP (q8j r) (k:Int) (k:Int))) (fun k hk=>by
   unfold j2G
   rw[z1E,bsS]
   by_cases hp:hasP (q8j r) (k:Int) (k:Int)
   ·rw[decide_eq_true hp];rfl
   ·rw[decide_eq_false hp];rfl) r.Rows.length 0 (by omega)]
  by_cases he:∃ k:Nat,k<r.Rows.length∧hasP (q8j r) (k:Int) (k:Int)
  ·rw[decide_eq_true he,ifN];· rfl
   obtain⟨k,hk,hp⟩:=he
   rw[List.all_eq_true]
   intro hh
   have:=hh k (by simp;omega)
   simp[hp] at this
  ·rw[decide_eq_false he,ifP];· rfl
   rw[List.all_eq_true]
   intro k hk
   simp at hk
   have:¬ hasP (q8j r) (k:Int) (k:Int):=fun hp=>he ⟨k,hk,hp⟩
   simp[this]
 ·rw[decide_eq_false hv,ifN (by simp),decide_eq_false]
  rintro⟨k,hk,hp⟩
  have:q8j r=r:=by unfold q8j;rw[ifN hv]
  rw[this] at hp
  exact hv hp.1
def q7x (g:Gm_)(s:ByteArray):List At_:=(q7v g s).1.Attributes.filter j0r
theorem j0z {g:Gm_}(h:GOk g)(s:ByteArray):(q7x g s).length≤1048576:=Nat.le_trans (List.length_filter_le _ _) (z3M h s)
theorem j7Z {l:List At_}(h:l.length≤1048576):eachL q5H 0 l []=some (l.filter j0r):=by
 have:=z5k (p:=j0r) (g:=fun x:At_=>x) (B:=1048577) (f:=q5H) (fun k x s hs=>by
  have hg:((s.length:Int)+1)*40≤140737488355328∧(s.length:Int)+1≤9223372036854775807:=by constructor<;>omega
  unfold q5H j0r
  rw[q3N hg]
  by_cases m1:x.Mode=1
  ·rw[ifP m1,ifP (by simp[m1])];rfl
  ·rw[ifN m1]
   by_cases m2:x.Mode=2
   ·rw[ifP m2,ifP (by simp[m2])];rfl
   ·rw[ifN m2,ifN (by simp[m1,m2])];rfl) l 0 [] (by simp;omega)
 rw[this];simp
theorem j8a {g:Gm_}(h:GOk g)(s:ByteArray):q5w g s=some (q7x g s):=by
 unfold q5w q7x
 rw[z5m h,bsS]
 try dsimp only
 rw[j7Z (z3M h s)];rfl
theorem j8b {g:Gm_}(h:GOk g)(s:ByteArray):q4K g s=some (q7x g s):=by
 unfold q4K q7x
 rw[z3L,bsS]
 try dsimp only
 rw[j4F,j7Z (z3M h s)];rfl
def occK (g:Gm_)(r:Rule)(k:Nat):List Oc:=(q7x g (q9r r (k:Int))).map fun x=>(⟨(k:Int),x.Name⟩:Oc)
def occL (g:Gm_)(r:Rule):List Oc:=(List.range' 0 (r.Right.length+1)).flatMap (occK g r)
theorem k0Z {g:Gm_}(h:GOk g)(r:Rule)(k:Nat):(occK g r k).length≤1048576:=by unfold occK;rw[lnM];exact j0z h _
theorem j9P {g:Gm_}(h:GOk g){r:Rule}(hl:ROk r):q5c g r=some (occL g r):=by
 have hl' : r.Right.length≤1048576:=hl
 have key:=j0u (h:=occK g r) (C:=1048576) (n:=r.Right.length+1) (f:=q4v g r) (fun k s hk hs=>by
  unfold q4v
  rw[j3r hl,bsS,j8b h,bsS,z7c k _ 0 s (by have:=j0z h (q9r r (k:Int));omega)];rfl)
  (fun k _=>k0Z h r k) (r.Right.length+1) 0 [] (by omega) (by simp)
 unfold q5c
 rw[q3N (by constructor<;>omega),key];rfl
theorem k4x {g:Gm_}(h:GOk g){r:Rule}(hl:ROk r):q5C g r=some (occL g r):=by
 have hl' : r.Right.length≤1048576:=hl
 have key:=j3p (h:=occK g r) (C:=1048576) (n:=r.Right.length+1) (f:=q5h g r) (fun k s hk hs=>by
  unfold q5h
  dsimp only
  rw[ifP (by omega),z8J hl,bsS,j8a h,bsS,k0J,z7c k _ 0 s (by have:=j0z h (q9r r (k:Int));omega),bsS,q3N (by constructor<;>omega)];rfl) (fun s=>by
  unfold q5h;dsimp only;rw[ifN (by omega)]) (fun k _=>k0Z h r k) (r.Right.length+1) 0 [] (by omega) (by simp)
 unfold q5C
 have e:q5g (q5h g r) (([]:List Oc),0)=some ([]++(List.range' 0 (r.Right.length+1)).flatMap (occK g r)):=key
 rw[e];rfl
theorem k1a {g:Gm_}(h:GOk g){r:Rule}(hl:ROk r):(occL g r).length≤1099512676352:=by
 obtain⟨l,_,h2,h3⟩:=j1N h hl
 rw[j9P h hl] at h2
 cases h2;exact h3
def posL (g:Gm_)(r:Rule)(k:Int):List Int:=(((occL g r).zipIdx 0).filter fun q=>decide (q.1.Pos=k)).map fun q=>(q.2:Int)
theorem k1b (k:Int){l:List Oc}(h:l.length≤1099512676352):eachL (q5I k) 0 l []=some (((l.zipIdx 0).filter fun q=>decide (q.1.Pos=k)).map fun q=>(q.2:Int)):=by
 have:=j3o (p:=fun x:Oc=>decide (x.Pos=k)) (g:=fun i:Nat=>(i:Int)) (B:=4398046511104) (f:=q5I k) (fun i x s hs=>by
  have hg:((s.length:Int)+1)*8≤140737488355328∧(s.length:Int)+1≤9223372036854775807:=by constructor<;>omega
  unfold q5I
  rw[q3N hg]
  by_cases m1:x.Pos=k
  ·rw[ifP m1,ifP (by simp[m1])];rfl
  ·rw[ifN m1,ifN (by simp[m1])];rfl) l 0 [] (by simp;omega)
 rw[this];simp
theorem k8I {g:Gm_}(h:GOk g){r:Rule}(hl:ROk r)(k:Int):q5U g r k=some (posL g r k):=by
 unfold q5U posL
 rw[k4x h hl,bsS,k1b k (k1a h hl)];rfl
theorem k8J {g:Gm_}(h:GOk g){r:Rule}(hl:ROk r)(k:Int):q4Y g r k=some (posL g r k):=by
 unfold q4Y posL
 rw[j9P h hl,bsS,z7V,k1b k (k1a h hl)];rfl
theorem j8c {α:Type}(p:α→Bool):∀ (l:List α) (i:Nat),((l.zipIdx i).filter fun q=>p q.1).length=l.countP p
 | [],i=>rfl
 | x::l,i=>by
  rw[List.zipIdx_cons,List.filter_cons,List.countP_cons]
  have ih:=j8c p l (i+1)
  by_cases hp:p x=true
  ·rw[ifP hp,ifP hp,lnC,ih]
  ·rw[ifN hp,ifN hp,ih];rfl
theorem k8K (g:Gm_){r:Rule}{k:Nat}(hk:k≤r.Right.length):(posL g r (k:Int)).length=(q7x g (q9r r (k:Int))).length:=by
 unfold posL
 rw[lnM,j8c (fun x:Oc=>decide (x.Pos=(k:Int)))]
 unfold occL
 rw[List.countP_flatMap]
 have hK:∀ j:Nat,(occK g r j).countP (fun x=>decide (x.Pos=(k:Int)))=if j=k then (q7x g (q9r r (k:Int))).length else 0:=by
  intro j
  unfold occK
  rw[List.countP_map]
  by_cases hj:j=k
  ·subst hj
   rw[ifP rfl,List.countP_eq_length.2 (by simp)]
  ·rw[ifN hj,List.countP_eq_zero.2]
   intro a _
   simp;omega
 have hsum:∀ m i,((List.range' i m).map (List.countP (fun x:Oc=>decide (x.Pos=(k:Int))) ∘ occK g r)).sum=if i≤k∧k<i+m then (q7x g (q9r r (k:Int))).length else 0:=by
  intro m
  induction m with
  | zero=>intro i;rw[ifN (by omega)];rfl
  | succ m ih=>
   intro i
   rw[List.range'_succ,List.map_cons,List.sum_cons,ih (i+1),Function.comp,hK i]
   by_cases h1:i=k
   ·rw[ifP h1,ifN (by omega),ifP (by omega)];rfl
   ·rw[ifN h1,Nat.zero_add]
    by_cases h2:i+1≤k∧k<i+1+m
    ·rw[ifP h2,ifP (by omega)]
    ·rw[ifN h2,ifN (by omega)]
 rw[hsum,ifP (by omega)]
noncomputable def z2y (own:Rl_) (a:Nat) (x:Int):Nat→List Int→Rl_→Rl_
 | _,[],o=>o
 | i,y::ys,o=>z2y own a x (i+1) ys (if hasP own (a:Int) (i:Int) then addP o x y else o)
noncomputable def z4D (own:Rl_) (at' : List Int):Nat→List Int→Rl_→Rl_
 | _,[],o=>o
 | a,x::xs,o=>z4D own at' (a+1) xs (z2y own a x 0 at' o)
theorem j0A (own:Rl_)(a:Nat)(x:Int):∀ (ys:List Int) (i:Nat) (o:Rl_),(z2y own a x i ys o).Rows.length=o.Rows.length∧(z2y own a x i ys o).N=o.N
 | [],i,o=>⟨rfl,rfl⟩
 | y::ys,i,o=>by
  rw[z2y]
  have ih:=j0A own a x ys (i+1) (if hasP own (a:Int) (i:Int) then addP o x y else o)
  by_cases h:hasP own (a:Int) (i:Int)
  ·rw[ifP h] at ih ⊢
   have:=j6g o x y
   exact⟨ih.1.trans this.1,ih.2.trans this.2⟩
  ·rw[ifN h] at ih ⊢;exact ih
theorem j3B (own:Rl_)(at' : List Int):∀ (xs:List Int) (a:Nat) (o:Rl_),(z4D own at' a xs o).Rows.length=o.Rows.length∧(z4D own at' a xs o).N=o.N
 | [],a,o=>⟨rfl,rfl⟩
 | x::xs,a,o=>by
  rw[z4D]
  have ih:=j3B own at' xs (a+1) (z2y own a x 0 at' o)
  have:=j0A own a x at' 0 o
  exact⟨ih.1.trans this.1,ih.2.trans this.2⟩
theorem k4y (own:Rl_)(a:Nat)(x:Int):∀ (ys:List Int) (i:Nat) (o:Rl_),o.Rows.length≤1048576 →
  eachL (z0E own a x) i ys (o.Rows,o.N)=some ((z2y own a x i ys o).Rows,(z2y own a x i ys o).N)∧eachL (z9s own a x) i ys (o.N,o.Rows)=some ((z2y own a x i ys o).N,(z2y own a x i ys o).Rows)
 | [],i,o,_=>⟨rfl,rfl⟩
 | y::ys,i,o,h=>by
  have e1:z0E own a x i y (o.Rows,o.N)=some ((if hasP own (a:Int) (i:Int) then addP o x y else o).Rows,(if hasP own (a:Int) (i:Int) then addP o x y else o).N):=by
   unfold z0E
   dsimp only
   rw[z1E,bsS]
   by_cases hp:hasP own (a:Int) (i:Int)
   ·rw[decide_eq_true hp,ifP rfl,ifP hp,k3N h];rfl
   ·rw[decide_eq_false hp,ifN (by simp),ifN hp];rfl
  have e2:z9s own a x i y (o.N,o.Rows)=some ((if hasP own (a:Int) (i:Int) then addP o x y else o).N,(if hasP own (a:Int) (i:Int) then addP o x y else o).Rows):=by
   unfold z9s
   dsimp only
   rw[z8H,bsS]
   by_cases hp:hasP own (a:Int) (i:Int)
   ·rw[decide_eq_true hp,ifP rfl,ifP hp,j6d,k3N h];rfl
   ·rw[decide_eq_false hp,ifN (by simp),ifN hp];rfl
  have hl:(if hasP own (a:Int) (i:Int) then addP o x y else o).Rows.length≤1048576:=by
   split
   ·rw[(j6g o x y).1];exact h
   ·exact h
  have ih:=k4y own a x ys (i+1) _ hl
  rw[eachL,eachL,e1,e2,bsS,bsS,z2y]
  exact ih
theorem j6r (own:Rl_)(at' : List Int):∀ (xs:List Int) (a:Nat) (o:Rl_),o.Rows.length≤1048576 →
  eachL (z0F own at') a xs (o.Rows,o.N)=some ((z4D own at' a xs o).Rows,(z4D own at' a xs o).N)∧eachL (z9t own at') a xs (o.N,o.Rows)=some ((z4D own at' a xs o).N,(z4D own at' a xs o).Rows)
 | [],a,o,_=>⟨rfl,rfl⟩
 | x::xs,a,o,h=>by
  have h1:=k4y own a x at' 0 o h
  have hl:(z2y own a x 0 at' o).Rows.length≤1048576:=by rw[(j0A own a x at' 0 o).1];exact h
  have ih:=j6r own at' xs (a+1) _ hl
  have e1:z0F own at' a x (o.Rows,o.N)=some ((z2y own a x 0 at' o).Rows,(z2y own a x 0 at' o).N):=by
   unfold z0F;dsimp only;rw[h1.1];rfl
  have e2:z9t own at' a x (o.N,o.Rows)=some ((z2y own a x 0 at' o).N,(z2y own a x 0 at' o).Rows):=by
   unfold z9t;dsimp only;rw[h1.2];rfl
  rw[eachL,eachL,e1,e2,bsS,bsS,z4D]
  exact ih
noncomputable def z9N (g:Gm_) (r:Rule) (o:Rl_) (pos:Int) (own:Rl_):Rl_:=z4D own (posL g r pos) 0 (posL g r pos) o
theorem k4z {g:Gm_}(h:GOk g){r:Rule}(hl:ROk r){o:Rl_}(ho:o.Rows.length≤1048576)(pos:Int)(own:Rl_):z9u g r o pos own=some (z9N g r o pos own):=by
 unfold z9u z9N
 rw[k8J h hl,bsS,(j6r own (posL g r pos) (posL g r pos) 0 o ho).2];rfl
theorem z8K {r:Rule}{k:Nat}{x:ByteArray}(h:r.Right[k]?=some x):q9r r ((k+1:Nat):Int)=x:=by
 have hk:=(List.getElem?_eq_some_iff.1 h).1
 unfold q9r
 rw[ifN (by omega),ifP (by omega),show (((k+1:Nat):Int)-1).toNat=k by omega,List.getD_eq_getElem?_getD,h];rfl
noncomputable def z7O (g:Gm_) (r:Rule):Nat→List Rl_→Rl_→Rl_
 | _,[],o=>o
 | k,own::l,o=>z7O g r (k+1) l (z9N g r o ((k+1:Nat):Int) own)
theorem k2F (g:Gm_)(r:Rule)(o:Rl_)(pos:Int)(own:Rl_):(z9N g r o pos own).Rows.length=o.Rows.length:=(j3B own _ _ 0 o).1
def FitL (g:Gm_)(r:Rule)(list:List Rl_):Prop:=list.length=r.Right.length∧∀ k own,list[k]?=some own→Valid own∧own.N=((q7x g (q9r r ((k+1:Nat):Int))).length:Int)
theorem j8d {g:Gm_}(h:GOk g){r:Rule}(hl:ROk r){list:List Rl_}(hf:FitL g r list):∀ (m k:Nat) (o:Rl_),k+m=list.length→o.Rows.length≤1048576 →
  findL (z0G g r) k (list.drop k) (o.Rows,o.N)=some (.inl ((z7O g r k (list.drop k) o).Rows,(z7O g r k (list.drop k) o).N)) ∧
  findL (z0T g r) k (list.drop k) (o.Rows,o.N)=some (.inl ((z7O g r k (list.drop k) o).Rows,(z7O g r k (list.drop k) o).N))∧(z7O g r k (list.drop k) o).Rows.length=o.Rows.length
 | 0,k,o,hk,_=>by rw[List.drop_eq_nil_of_le (by omega)];exact⟨rfl,rfl,rfl⟩
 | m+1,k,o,hk,ho=>by
  have hk' : k<list.length:=by omega
  rw[List.drop_eq_getElem_cons hk']
  have hv:=hf.2 k list[k] (List.getElem?_eq_getElem hk')
  have hR:k<r.Right.length:=by rw[← hf.1];exact hk'
  have hsym:=z8K (r:=r) (k:=k) (List.getElem?_eq_getElem hR)
  have hpl:=k8K g (r:=r) (k:=k+1) (by omega)
  have e1:z0G g r k list[k] (o.Rows,o.N)=some (.inl ((z9N g r o ((k+1:Nat):Int) list[k]).Rows,(z9N g r o ((k+1:Nat):Int) list[k]).N)):=by
   unfold z0G
   dsimp only
   rw[k8I h hl,bsS,q8W,bsS,decide_eq_true hv.1,ifP rfl,ifP (by rw[hpl];exact hv.2),(j6r list[k] _ _ 0 o ho).1];rfl
  have e2:z0T g r k list[k] (o.Rows,o.N)=some (.inl ((z9N g r o ((k+1:Nat):Int) list[k]).Rows,(z9N g r o ((k+1:Nat):Int) list[k]).N)):=by
   unfold z0T
   dsimp only
   rw[List.getElem?_eq_getElem hR,bsS,j8b h,bsS,ifP (by rw[← hsym];exact hv.2),k4z h hl ho];rfl
  have hlen:=k2F g r o ((k+1:Nat):Int) list[k]
  have ih:=j8d h hl hf m (k+1) (z9N g r o ((k+1:Nat):Int) list[k]) (by omega) (by rw[hlen];exact ho)
  rw[findL,findL,e1,e2,bsS,bsS,z7O]
  exact⟨ih.1,ih.2.1,ih.2.2.trans hlen⟩
noncomputable def locR (g:Gm_) (r:Rule):Rl_:=(q6r g r).getD ⟨0,[]⟩
theorem k9P {g:Gm_}{r:Rule}(h:Sz.szd g≤1048576)(hr:Sz.szd r≤1048576):q6r g r=some (locR g r)∧q7h g r=some (locR g r)∧(locR g r).Rows.length≤16:=by
 obtain⟨x,h1,h2,h3⟩:=k2s h hr
 unfold locR
 rw[h1,h2];exact⟨rfl,rfl,h3⟩
noncomputable def z7P (g:Gm_) (r:Rule) (list:List Rl_):Rl_:=if 16<(occL g r).length then ⟨0,[]⟩ else q8j (z7O g r 0 list (locR g r))
theorem j6s {g:Gm_}{r:Rule}(h:Sz.szd g≤1048576)(hr:Sz.szd r≤1048576){list:List Rl_}(hf:FitL g r list):q8m g r list=some (z7P g r list)∧q8n g r list=some (z7P g r list)∧(z7P g r list).Rows.length≤16:=by
 have hg:=z4C h
 have hl:=q8F hr
 obtain⟨l1,l2,l3⟩:=k9P h hr
 have hn:(list.length:Int)=(r.Right.length:Int):=by rw[hf.1]
 unfold q8m q8n
 rw[k4x hg hl,j9P hg hl]
 simp only[bsS]
 rw[ifP hn,ifP hn]
 simp only[bsS]
 by_cases h16:16<(occL g r).length
 ·have hi:(16:Int)<((occL g r).length:Int):=by omega
  have hc:z7P g r list=⟨0,[]⟩:=ifP h16
  rw[hc,decide_eq_true hi,ifP rfl,ifP hi]
  exact⟨rfl,rfl,by simp⟩
 ·have hi:¬ (16:Int)<((occL g r).length:Int):=by omega
  have hc:z7P g r list=q8j (z7O g r 0 list (locR g r)):=ifN h16
  rw[hc,decide_eq_false hi,ifN (by simp),ifN hi,l1,l2,bsS,bsS]
  have key:=j8d hg hl hf list.length 0 (locR g r) (by omega) (by omega)
  rw[List.drop_zero] at key
  have hlen:(z7O g r 0 list (locR g r)).Rows.length≤16:=by rw[key.2.2];exact l3
  rw[key.1,key.2.1,bsS,bsS,z4q,z4q]
  dsimp only
  rw[j7P (r:=⟨(z7O g r 0 list (locR g r)).N,(z7O g r 0 list (locR g r)).Rows⟩) (by show (z7O g r 0 list (locR g r)).Rows.length≤_;omega),j7Q (r:=⟨(z7O g r 0 list (locR g r)).N,(z7O g r 0 list (locR g r)).Rows⟩) (by show (z7O g r 0 list (locR g r)).Rows.length≤_;omega)]
  exact⟨rfl,rfl,by rw[(j4L _).1];exact hlen⟩
theorem j6t {α β:Type}{p:α→Bool}{g:α→β}{B:Nat}{f:Nat→α→List β→Option (List β)}:∀ (xs:List α) (i:Nat) (s:List β),(∀ k x s,x∈xs→s.length<B→f k x s=some (if p x=true then s++[g x] else s))→s.length+xs.length≤B →
  eachL f i xs s=some (s++(xs.filter p).map g)
 | [],i,s,_,_=>by simp[eachL]
 | x::xs,i,s,hf,h=>by
  simp only[lnC] at h
  by_cases hp:p x=true
  ·have ih:=j6t xs (i+1) (s++[g x]) (fun k y s hy=>hf k y s (by simp[hy])) (by simp;omega)
   simp[eachL,hf i x s (by simp) (by omega),hp,ih]
  ·have ih:=j6t xs (i+1) s (fun k y s hy=>hf k y s (by simp[hy])) (by omega)
   simp[eachL,hf i x s (by simp) (by omega),hp,ih]
theorem z9O {α β:Type}{g:α→β}{B:Nat}{f:Nat→α→List β→Option (List β)}(xs:List α)(i:Nat)(s:List β)(hf:∀ k x s,x∈xs→s.length<B→f k x s=some (s++[g x]))(h:s.length+xs.length≤B) :
  eachL f i xs s=some (s++xs.map g):=by
 have:=j6t (p:=fun _=>true) (g:=g) (B:=B) (f:=f) xs i s (fun k x s hx hs=>by rw[hf k x s hx hs,ifP rfl]) h
 rw[this];congr 2;congr 1;simp
theorem k1c {g:Gm_}{n:ByteArray}(h:(q7v g n).2=true):∃ j y,atS g n=some j∧g.Symbols[j]?=some y∧q7v g n=(y,true)∧y.Name=n:=by
 unfold q7v at h ⊢
 cases hf:g.Symbols.find? fun y=>decide (y.Name=n) with
 | none=>rw[hf] at h;cases h
 | some y=>
  have hn:y.Name=n:=by simpa using List.find?_some (p:=fun y:Symbol=>decide (y.Name=n)) hf
  unfold atS
  cases he:g.Symbols.findIdx? fun y=>decide (y.Name=n) with
  | none=>
   rw[List.findIdx?_eq_none_iff] at he
   have:=he y (List.mem_of_find?_eq_some hf)
   simp[hn] at this
  | some j=>
   refine⟨j,y,rfl,?_,rfl,hn⟩
   rw[List.findIdx?_eq_some_iff_getElem] at he
   obtain⟨hj,h1,h2⟩:=he
   rw[List.find?_eq_some_iff_getElem] at hf
   obtain⟨_,i,hi,hy,h3⟩:=hf
   have:i=j:=by
    rcases Nat.lt_trichotomy i j with hlt|heq|hgt
    ·have:=h2 i hlt;rw[hy] at this;simp[hn] at this
    ·exact heq
    ·have:=h3 j hgt;simp at this;simp at h1;exact absurd h1 this
   subst this
   rw[List.getElem?_eq_getElem hi,hy]
theorem Shape.known {g:Gm_}(h:Shape g){r:Rule}(hr:r∈g.Rules){k:Nat}(hk:k≤r.Right.length):(q7v g (q9r r (k:Int))).2=true:=by
 have h3:=h.brk 3 (by omega) (by omega) r hr
 unfold z5p at h3
 rw[ifP rfl,Bool.not_eq_false'] at h3
 unfold j4O at h3
 rw[List.all_eq_true] at h3
 exact h3 k (by rw[List.mem_range'_1];omega)
theorem Shape.right {g:Gm_}(h:Shape g){r:Rule}(hr:r∈g.Rules){n:ByteArray}(hn:n∈r.Right):(q7v g n).2=true:=by
 obtain⟨k,hk⟩:=List.getElem?_of_mem hn
 have hlt:=(List.getElem?_eq_some_iff.1 hk).1
 have:=h.known hr (k:=k+1) (by omega)
 rwa[z8K hk] at this
theorem Shape.left {g:Gm_}(h:Shape g){r:Rule}(hr:r∈g.Rules):(q7v g r.Left).2=true:=by
 have:=h.known hr (k:=0) (by omega)
 unfold q9r at this
 rwa[ifP (by rfl)] at this
theorem Shape.attrs {g:Gm_}(h:Shape g){y:Symbol}(hy:y∈g.Symbols):y.Attributes.length≤4:=by
 have:=h.symB hy
 unfold Go.Proofs.YtipikecbeganoaaGreat.symB at this
 simp only[Bool.and_eq_true,decide_eq_true_eq] at this
 exact this.2.2.1
theorem Shape.plain {g:Gm_}(h:Shape g)(n:ByteArray):(q7x g n).length≤4:=by
 refine Nat.le_trans (List.length_filter_le _ _) ?_
 unfold q7v
 cases hf:g.Symbols.find? fun y=>decide (y.Name=n) with
 | none=>simp[zS]
 | some y=>exact h.attrs (List.mem_of_find?_eq_some hf)
theorem j1O (g:Gm_)(n:ByteArray):q6j g n=some (atI g n):=by
 unfold q6j q4C atI atS
 rw[z3O (q:=fun y:Symbol=>decide (y.Name=n)) (c:=fun k=>(k:Int)) fun j x hx=>by
  unfold q6d q9J
  rw[bsS,← apply_ite some]]
 cases g.Symbols.findIdx? fun y=>decide (y.Name=n) with
 | none=>rfl
 | some j=>dsimp only;rw[Nat.zero_add];rfl
def Inv (g:Gm_)(all:List Rl_):Prop:=all.length=g.Symbols.length∧∀ (k:Nat) (y:Symbol) (a:Rl_),g.Symbols[k]?=some y→all[k]?=some a→Valid a∧a.N=((q7x g y.Name).length:Int)
def zR:Rl_:=⟨0,[]⟩
def k4A (g:Gm_)(all:List Rl_)(n:ByteArray):Rl_:=all.getD ((atS g n).getD 0) zR
theorem Inv.at_ {g:Gm_}{all:List Rl_}(h:Inv g all){n:ByteArray}(hn:(q7v g n).2=true):∃ j,atS g n=some j∧j<g.Symbols.length∧all[j]?=some (k4A g all n)∧Valid (k4A g all n)∧(k4A g all n).N=((q7x g n).length:Int):=by
 obtain⟨j,y,h1,h2,h3,h4⟩:=k1c hn
 have hj:=(List.getElem?_eq_some_iff.1 h2).1
 have e:all[j]?=some (k4A g all n):=by
  unfold k4A
  rw[h1,Option.getD_some,List.getD_eq_getElem?_getD,List.getElem?_eq_getElem (by rw[h.1];exact hj)];rfl
 have:=h.2 j y _ h2 e
 rw[h4] at this
 exact⟨j,h1,hj,e,this⟩
theorem z2z {g:Gm_}(hS:Shape g){r:Rule}(hr:r∈g.Rules):r.Right.length≤3:=by
 have:=hS.ruleB hr
 unfold Go.Proofs.YtipikecbeganoaaGreat.ruleB at this
 simp only[Bool.and_eq_true,decide_eq_true_eq] at this
 exact this.2.1.1
noncomputable def sumS (g:Gm_) (r:Rule) (c:Rl_):Rl_:=(q7o g r c).getD ⟨0,[]⟩
theorem k4B {g:Gm_}(h:GOk g){r:Rule}(hl:ROk r)(c:Rl_):q7o g r c=some (sumS g r c)∧z0d g r c=some (sumS g r c):=by
 obtain⟨x,h1,h2,_⟩:=j7K (c:=c) h hl
 unfold sumS
 rw[h1,h2];exact⟨rfl,rfl⟩
def sumA (all:List Rl_):Nat:=(all.map sumR).sum
theorem Inv.bound {g:Gm_}{all:List Rl_}(h:Inv g all):sumA all≤all.length*(16*65535):=by
 have key:∀ l:List Rl_,(∀ a∈l,Valid a)→sumA l≤l.length*(16*65535):=by
  intro l
  induction l with
  | nil=>intro _;simp[sumA]
  | cons a l ih=>
   intro hv
   have h1:=k4v (hv a (by simp))
   have h2:=ih fun b hb=>hv b (by simp[hb])
   unfold sumA at h2 ⊢
   simp only[List.map_cons,List.sum_cons,lnC]
   omega
 refine key all fun a ha=>?_
 obtain⟨k,hk⟩:=List.getElem?_of_mem ha
 have hlt:=(List.getElem?_eq_some_iff.1 hk).1
 exact (h.2 k _ a (List.getElem?_eq_getElem (by rw[← h.1];exact hlt)) hk).1
theorem Valid.len {a:Rl_}(h:Valid a):a.Rows.length≤16:=by have:=h.2.2.1;have:=h.2.1;omega
theorem k2G {r:Rl_}(h:Valid r)(i k:Int):Valid (addP r i k):=by
 unfold addP
 by_cases hc:Valid r∧inN r i∧inN r k
 ·rw[ifP hc]
  obtain⟨_,hi,hk⟩:=hc
  unfold j3m
  refine⟨h.1,h.2.1,by dsimp only;rw[List.length_set];exact h.2.2.1,fun x hx=>?_⟩
  rcases List.mem_or_eq_of_mem_set hx with hx|hx
  ·exact h.2.2.2 x hx
  ·rw[hx]
   have h1:=h.1
   have hk1:=hk.1
   have hk2:=hk.2
   refine k9O ?_ ?_
   ·unfold z8b
    rw[List.getD_eq_getElem?_getD]
    cases hq:r.Rows[i.toNat]? with
    | none=>show (0:Int)≤0∧(0:Int)≤((2 ^ r.N.toNat:Nat):Int)-1;have:=Nat.two_pow_pos r.N.toNat;omega
    | some y=>exact h.2.2.2 y (List.mem_of_getElem? hq)
   ·have h2:2 ^ k.toNat<2 ^ r.N.toNat:=Nat.pow_lt_pow_right (by decide) (by omega)
    constructor
    ·exact Int.natCast_nonneg _
    ·dsimp only;omega
 ·rw[ifN hc];exact h
theorem k8L {r:Rl_}(h:Valid r)(i k:Int)(a c:Nat):Rl (addP r i k).Rows a c↔Rl r.Rows a c∨(inN r i∧inN r k∧(a:Int)=i∧(c:Int)=k):=by
 unfold addP
 by_cases hc:Valid r∧inN r i∧inN r k
 ·rw[ifP hc]
  obtain⟨_,hi,hk⟩:=hc
  have hi1:=hi.1
  have hi2:=hi.2
  have hk1:=hk.1
  have hl:=h.2.2.1
  unfold j3m Rl
  dsimp only
  rw[List.getD_eq_getElem?_getD,List.getElem?_set]
  by_cases e:i.toNat=a
  ·rw[ifP e,ifP (by omega),Option.getD_some,j7O,Nat.testBit_or,tnC,Nat.testBit_two_pow]
   unfold z8b
   rw[e]
   simp only[Bool.or_eq_true,decide_eq_true_eq]
   constructor
   ·rintro (h1|h1)
    ·exact .inl h1
    ·exact .inr ⟨hi,hk,by omega,by omega⟩
   ·rintro (h1|⟨_,_,_,h1⟩)
    ·exact .inl h1
    ·exact .inr (by omega)
  ·rw[ifN e,← List.getD_eq_getElem?_getD]
   constructor
   ·exact fun h1=>.inl h1
   ·rintro (h1|⟨_,_,h1,_⟩)
    ·exact h1
    ·omega
 ·rw[ifN hc]
  constructor
  ·exact fun h1=>.inl h1
  ·rintro (h1|⟨h1,h2,_⟩)
   ·exact h1
   ·exact absurd ⟨h,h1,h2⟩ hc
def Sub (a b:Rl_):Prop:=Valid a∧Valid b∧a.N=b.N∧∀ i j:Nat,Rl a.Rows i j→Rl b.Rows i j
theorem Sub.refl {a:Rl_}(h:Valid a):Sub a a:=⟨h,h,rfl,fun _ _ h=>h⟩
theorem Sub.trans {a b c:Rl_}(h:Sub a b)(k:Sub b c):Sub a c:=⟨h.1,k.2.1,h.2.2.1.trans k.2.2.1,fun i j x=>k.2.2.2 i j (h.2.2.2 i j x)⟩
theorem j9Q {n:Int}(h0:0≤n)(h1:n≤16):Valid ⟨n,List.replicate n.toNat 0⟩:=by
 refine⟨h0,h1,by simp;omega,fun x hx=>?_⟩
 have:=(List.mem_replicate.1 hx).2
 have h2:=Nat.two_pow_pos n.toNat
 dsimp only
 omega
end Go.Proofs.YtipikecbeganoaaGreat
set_option maxRecDepth 100000
set_option maxHeartbeats 4000000
namespace Go.Proofs.YtipikecbeganoaaGreat
open Go Go.E
theorem j6u:∀ (n:Nat) (l:List Nat),l.Nodup→(∀ x∈l,x<n)→l.length≤n
 | 0,[],_,_=>Nat.le_refl _
 | 0,x::l,_,h=>absurd (h x List.mem_cons_self) (Nat.not_lt_zero _)
 | n+1,l,hd,h=>by
  by_cases hn:n∈l
  ·have h1:=j6u n (l.erase n) (hd.erase n) fun x hx=>by
    have h2:=(List.Nodup.mem_erase_iff hd).1 hx
    have:=h x h2.2
    have:=h2.1
    omega
   rw[List.length_erase_of_mem hn] at h1
   omega
  ·have:=j6u n l hd fun x hx=>by
    have h2:=h x hx
    have:x≠n:=fun e=>hn (e▸hx)
    omega
   omega
def j8e:List Bool→Nat
 | []=>0
 | b::bs=>(if b=true then 1 else 0)+2*j8e bs
theorem k4C:∀ l:List Bool,j8e l<2 ^ l.length
 | []=>by decide
 | b::bs=>by
  have:=k4C bs
  rw[j8e,lnC,Nat.pow_succ]
  split<;>omega
theorem j6v:∀ {l m:List Bool},l.length=m.length→j8e l=j8e m→l=m
 | [],[],_,_=>rfl
 | [],_::_,h,_=>by simp at h
 | _::_,[],h,_=>by simp at h
 | b::bs,c::cs,h,e=>by
  rw[j8e,j8e] at e
  have h' : bs.length=cs.length:=by simpa using h
  cases b<;>cases c<;>simp at e
  ·rw[j6v h' (by omega)]
  ·omega
  ·omega
  ·rw[j6v h' (by omega)]
theorem k4D {α:Type}{p q:α→Bool}(h:∀ x,p x=true→q x=true→False):∀ l:List α,(l.filter p).length+(l.filter q).length≤l.length
 | []=>Nat.le_refl _
 | x::l=>by
  have:=k4D h l
  rw[List.filter_cons,List.filter_cons,lnC]
  cases hp:p x<;>cases hq:q x
  ·simp;omega
  ·simp;omega
  ·simp;omega
  ·exact absurd hq (fun hq=>h x hp hq)
theorem k8M {a b:Rl_}(ha:Valid a)(hb:Valid b)(hN:a.N=b.N)(h:∀ i j:Nat,Rl a.Rows i j↔Rl b.Rows i j):a=b:=by
 obtain⟨n,xs⟩:=a
 obtain⟨m,ys⟩:=b
 have h1:=ha.2.2.1
 have h2:=hb.2.2.1
 dsimp only at h1 h2 hN
 have e:xs=ys:=by
  apply List.ext_getElem?
  intro i
  by_cases hi:i<xs.length
  ·obtain⟨x,hx⟩:∃ x,xs[i]?=some x:=⟨_,List.getElem?_eq_getElem hi⟩
   obtain⟨y,hy⟩:∃ y,ys[i]?=some y:=⟨_,List.getElem?_eq_getElem (by omega)⟩
   have hx0:=(ha.2.2.2 x (List.mem_of_getElem? hx)).1
   have hy0:=(hb.2.2.2 y (List.mem_of_getElem? hy)).1
   have:x.toNat=y.toNat:=by
    apply Nat.eq_of_testBit_eq
    intro j
    have:=h i j
    unfold Rl at this
    dsimp only at this
    rw[List.getD_eq_getElem?_getD,List.getD_eq_getElem?_getD,hx,hy,Option.getD_some,Option.getD_some] at this
    exact Bool.eq_iff_iff.2 this
   rw[hx,hy]
   congr 1
   omega
  ·rw[List.getElem?_eq_none (by omega),List.getElem?_eq_none (by omega)]
 rw[e,hN]
def j1E (L:List At_)(s:Rl_):Prop:=Valid s∧s.N=(L.length:Int)∧∀ a b:Nat,Rl s.Rows a b→∃ x y,L[a]?=some x∧x.Mode=1∧L[b]?=some y∧y.Mode=2
def z4E (L:List At_)(m:Int)(a:Nat):Bool:=decide ((L[a]?).map (·.Mode)=some m)
def z9P (L:List At_):List (Nat×Nat):=((List.range L.length).filter (z4E L 1)).flatMap fun a=>((List.range L.length).filter (z4E L 2)).map fun b=>(a,b)
theorem j0B {α β:Type}{f:α→List β}{n:Nat}(h:∀ x,(f x).length=n):∀ l:List α,(l.flatMap f).length=l.length*n
 | []=>by simp
 | x::l=>by rw[List.flatMap_cons,List.length_append,h,j0B h l,lnC,Nat.succ_mul];omega
theorem k4E {L:List At_}(h:L.length≤4):(z9P L).length≤4:=by
 unfold z9P
 rw[j0B (n:=((List.range L.length).filter (z4E L 2)).length) fun x=>by rw[lnM]]
 have h1:=k4D (p:=z4E L 1) (q:=z4E L 2) (fun x h1 h2=>by
  unfold z4E at h1 h2
  have h1:=of_decide_eq_true h1
  have h2:=of_decide_eq_true h2
  rw[h1] at h2
  cases h2) (List.range L.length)
 rw[List.length_range] at h1
 generalize ((List.range L.length).filter (z4E L 1)).length=x at h1
 generalize ((List.range L.length).filter (z4E L 2)).length=y at h1
 have:x=0∨x=1∨x=2∨x=3∨x=4:=by omega
 rcases this with e|e|e|e|e<;>subst e<;>omega
noncomputable def k4F (L:List At_) (s:Rl_):Nat:=j8e ((z9P L).map fun p=>s.Rows.getD p.1 0 |>.toNat.testBit p.2)
theorem k8N {L:List At_}(h:L.length≤4)(s:Rl_):k4F L s<16:=by
 have h1:=k4C ((z9P L).map fun p=>s.Rows.getD p.1 0 |>.toNat.testBit p.2)
 have h2:=k4E h
 rw[lnM] at h1
 have h3:2 ^ (z9P L).length≤2 ^ 4:=Nat.pow_le_pow_right (by decide) h2
 unfold k4F
 omega
theorem k6F {L:List At_}{s t:Rl_}(hs:j1E L s)(ht:j1E L t)(h:k4F L s=k4F L t):s=t:=by
 have e:=j6v (by simp) h
 have key:∀ {s t:Rl_},j1E L s→((z9P L).map fun p=>(s.Rows.getD p.1 0).toNat.testBit p.2)=((z9P L).map fun p=>(t.Rows.getD p.1 0).toNat.testBit p.2)→∀ i j:Nat,Rl s.Rows i j→Rl t.Rows i j:=by
  intro s t hs e i j h
  obtain⟨x,y,h1,h2,h3,h4⟩:=hs.2.2 i j h
  have hm:(i,j)∈z9P L:=by
   unfold z9P
   refine List.mem_flatMap.2 ⟨i,List.mem_filter.2 ⟨List.mem_range.2 (List.getElem?_eq_some_iff.1 h1).1,by unfold z4E;rw[h1];simp[h2]⟩,?_⟩
   exact List.mem_map.2 ⟨j,List.mem_filter.2 ⟨List.mem_range.2 (List.getElem?_eq_some_iff.1 h3).1,by unfold z4E;rw[h3];simp[h4]⟩,rfl⟩
  have:=(List.map_inj_left.1 e) (i,j) hm
  unfold Rl at h ⊢
  dsimp only at this
  rw[← this];exact h
 exact k8M hs.1 ht.1 (hs.2.1.trans ht.2.1.symm) fun i j=>⟨key hs e i j,key ht e.symm i j⟩
theorem z8L {L:List At_}(h:L.length≤4){l:List Rl_}(hn:l.Nodup)(hl:∀ s∈l,j1E L s):l.length≤16:=by
 have:=j6u 16 (l.map (k4F L)) (by
  rw[List.Nodup,List.pairwise_map]
  refine List.Pairwise.imp_of_mem ?_ hn
  intro a b ha hb hne hc
  exact hne (k6F (hl a ha) (hl b hb) hc)) fun x hx=>by
  obtain⟨s,_,rfl⟩:=List.mem_map.1 hx
  exact k8N h s
 rwa[lnM] at this
theorem k4G {g:Gm_}(hg:GOk g){r:Rule}(hn:(q7x g r.Left).length≤16)(c:Rl_):∃ s,q7o g r c=some s∧j1E (q7x g r.Left) s:=by
 have hv:=j9Q (n:=((q7x g r.Left).length:Int)) (by omega) (by omega)
 have P0:∀ s:List Int×Int,j1E (q7x g r.Left) ⟨s.2,s.1⟩→s.1.length≤1048576:=fun s h=>by have:=h.1.2.2.1;have:=h.1.2.1;dsimp only at *;omega
 obtain⟨s',e,h3⟩:=z2L (P:=fun _ (s:List Int×Int)=>j1E (q7x g r.Left) ⟨s.2,s.1⟩) (f:=z0H c (q7x g r.Left)) (xs:=q7x g r.Left) (i:=0) (s:=(List.replicate ((q7x g r.Left).length:Int).toNat 0,((q7x g r.Left).length:Int))) ⟨hv,rfl,fun a b h=>by
   exfalso
   unfold Rl at h
   rw[List.getD_eq_getElem?_getD,List.getElem?_replicate] at h
   split at h<;>simp at h⟩ fun k x s hx hs=>by
  rw[Nat.zero_add]
  obtain⟨s1,s2⟩:=s
  obtain⟨s',e,h3⟩:=z2L (P:=fun _ (s:List Int×Int)=>j1E (q7x g r.Left) ⟨s.2,s.1⟩) (f:=q9e c k x) (xs:=q7x g r.Left) (i:=0) (s:=(s1,s2)) hs fun k2 x2 s hx2 hs=>by
   rw[Nat.zero_add]
   obtain⟨t1,t2⟩:=s
   have hl:=P0 _ hs
   dsimp only at hs hl
   unfold q9e
   dsimp only
   rw[z1E,k3N (r:=⟨t2,t1⟩) hl]
   simp only[bsS]
   by_cases p1:hasP c (k:Int) (k2:Int)
   ·by_cases m1:x.Mode=1
    ·by_cases m2:x2.Mode=2
     ·simp only[m1,m2,p1,if_true,decide_true,bsS]
      refine⟨_,rfl,k2G hs.1 _ _,(j6g _ _ _).2.trans hs.2.1,fun a b h=>?_⟩
      rcases (k8L hs.1 _ _ a b).1 h with h|⟨_,_,h1,h2⟩
      ·exact hs.2.2 a b h
      ·have e1:a=k:=by omega
       have e2:b=k2:=by omega
       subst e1;subst e2
       exact⟨x,x2,hx,m1,hx2,m2⟩
     ·simp only[m1,m2,if_true,if_false,decide_false,bsS,Bool.false_eq_true];exact⟨_,rfl,hs⟩
    ·simp only[m1,if_false,bsS,Bool.false_eq_true];exact⟨_,rfl,hs⟩
   ·by_cases m1:x.Mode=1
    ·by_cases m2:x2.Mode=2
     ·simp only[m1,m2,p1,if_true,if_false,decide_true,decide_false,bsS,Bool.false_eq_true];exact⟨_,rfl,hs⟩
     ·simp only[m1,m2,if_true,if_false,decide_false,bsS,Bool.false_eq_true];exact⟨_,rfl,hs⟩
    ·simp only[m1,if_false,bsS,Bool.false_eq_true];exact⟨_,rfl,hs⟩
  exact⟨s',by unfold z0H;dsimp only;rw[e];rfl,h3⟩
 obtain⟨s1,s2⟩:=s'
 refine⟨⟨s2,s1⟩,?_,h3⟩
 unfold q7o
 rw[j8a hg,bsS,k5Y (by omega) (by omega),bsS]
 dsimp only
 rw[e];rfl
def q6U:List Nat→Nat
 | []=>1
 | c::cs=>c*q6U cs
def digL:List Nat→Nat→List Nat
 | [],_=>[]
 | _::cs,n=>(n / q6U cs)::digL cs (n % q6U cs)
def j0C:List Nat→List Nat→Option (List Nat)
 | c::cs,d::ds=>match j0C cs ds with
  | some ds'=>some (d::ds')
  | none=>if d+1<c then some ((d+1)::List.replicate cs.length 0) else none
 | _,_=>none
theorem j3C:∀ (cs:List Nat) (n:Nat),(digL cs n).length=cs.length
 | [],_=>rfl
 | _::cs,n=>by rw[digL,lnC,j3C cs,lnC]
theorem j1P:∀ cs:List Nat,digL cs 0=List.replicate cs.length 0
 | []=>rfl
 | c::cs=>by rw[digL,Nat.zero_div,Nat.zero_mod,j1P cs,lnC,List.replicate_succ]
theorem j6w:∀ (cs:List Nat) (n:Nat),n<q6U cs→j0C cs (digL cs n)=if n+1<q6U cs then some (digL cs (n+1)) else none
 | [],n,h=>by
  rw[q6U] at h
  rw[ifN (by rw[q6U];omega)];rfl
 | c::cs,n,h=>by
  rw[q6U] at h ⊢
  have hP:0<q6U cs:=Nat.pos_of_ne_zero fun e=>by rw[e] at h;omega
  have hr:=Nat.mod_lt n hP
  have hq:n / q6U cs<c:=(Nat.div_lt_iff_lt_mul hP).2 h
  have hn:=Nat.div_add_mod n (q6U cs)
  rw[digL,j0C,j6w cs _ hr]
  generalize hQ:n / q6U cs=q at hq hn ⊢
  generalize hR:n % q6U cs=r at hr hn ⊢
  generalize hPe:q6U cs=P at h hP hr hn ⊢
  by_cases h1:r+1<P
  ·rw[ifP h1]
   have hc:n+1<c*P:=by
    have:(q+1)*P≤c*P:=Nat.mul_le_mul_right _ hq
    rw[Nat.succ_mul,Nat.mul_comm] at this
    omega
   have e1:(n+1) / P=q:=by
    rw[← hn]
    rw[show P*q+r+1=(r+1)+P*q by omega,Nat.add_mul_div_left _ _ hP,Nat.div_eq_of_lt h1,Nat.zero_add]
   have e2:(n+1) % P=r+1:=by
    rw[← hn,show P*q+r+1=(r+1)+P*q by omega,Nat.add_mul_mod_self_left,Nat.mod_eq_of_lt h1]
   rw[ifP hc,digL,hPe,e1,e2]
  ·rw[ifN h1]
   have hr1:r+1=P:=by omega
   have hn1:n+1=P*(q+1):=by rw[Nat.mul_succ];omega
   have e1:(n+1) / P=q+1:=by rw[hn1,Nat.mul_div_cancel_left _ hP]
   have e2:(n+1) % P=0:=by rw[hn1,Nat.mul_mod_right]
   dsimp only
   by_cases h2:q+1<c
   ·have hc:n+1<c*P:=by
     rw[hn1,Nat.mul_comm c P]
     exact (Nat.mul_lt_mul_left hP).2 h2
    rw[ifP h2,ifP hc,digL,hPe,e1,e2,j1P]
   ·have hc:¬ n+1<c*P:=by
     have:c=q+1:=by omega
     rw[hn1,this,Nat.mul_comm P];omega
    rw[ifN h2,ifN hc]
theorem j3D:∀ (cs:List Nat) (n:Nat),q6U (cs++[n])=q6U cs*n
 | [],n=>by simp[q6U]
 | c::cs,n=>by rw[List.cons_append,q6U,q6U,j3D cs,Nat.mul_assoc]
theorem k1d (n:Nat):∀ (cs:List Nat) (m:Nat),m<q6U cs*n→digL (cs++[n]) m=digL cs (m / n)++[m % n]
 | [],m,h=>by
  rw[q6U,Nat.one_mul] at h
  show [m / 1]=[m % n]
  rw[Nat.div_one,Nat.mod_eq_of_lt h]
 | c::cs,m,h=>by
  rw[q6U] at h
  have hP:0<q6U cs*n:=Nat.pos_of_ne_zero fun e=>by rw[Nat.mul_assoc,e] at h;omega
  rw[List.cons_append,digL,digL,j3D,k1d n cs _ (Nat.mod_lt _ hP),Nat.mod_mul_left_div_self,Nat.mod_mul_left_mod,Nat.div_div_eq_div_mul,Nat.mul_comm n]
  rfl
def chL (cs:List Nat):List (List Nat):=(List.range (q6U cs)).map (digL cs)
theorem j8f (n:Nat):∀ p:Nat,List.range (p*n)=(List.range p).flatMap fun i=>(List.range n).map fun j=>i*n+j
 | 0=>by simp
 | p+1=>by
  rw[Nat.succ_mul,List.range_add,j8f n p,List.range_succ,List.flatMap_append]
  simp
theorem j0Z {α β:Type}{f g:α→List β}:∀ {l:List α},(∀ x∈l,f x=g x)→l.flatMap f=l.flatMap g
 | [],_=>rfl
 | x::l,h=>by rw[List.flatMap_cons,List.flatMap_cons,h x List.mem_cons_self,j0Z fun y hy=>h y (List.mem_cons_of_mem _ hy)]
theorem k8O (cs:List Nat)(n:Nat):chL (cs++[n])=(chL cs).flatMap fun c=>(List.range n).map fun j=>c++[j]:=by
 unfold chL
 rw[j3D,j8f,List.map_flatMap,List.flatMap_map]
 refine j0Z fun i hi=>?_
 rw[List.map_map]
 refine List.map_congr_left fun j hj=>?_
 have h1:=List.mem_range.1 hi
 have h2:=List.mem_range.1 hj
 have hlt:i*n+j<q6U cs*n:=by
  have:(i+1)*n≤q6U cs*n:=Nat.mul_le_mul_right _ h1
  rw[Nat.succ_mul] at this
  omega
 show digL (cs++[n]) (i*n+j)=digL cs i++[j]
 have hn:0<n:=by omega
 rw[k1d n cs _ hlt]
 rw[show i*n+j=j+n*i by rw[Nat.mul_comm,Nat.add_comm],Nat.add_mul_div_left _ _ hn,Nat.div_eq_of_lt h2,Nat.zero_add,Nat.add_mul_mod_self_left,Nat.mod_eq_of_lt h2]
theorem j6x:∀ {cs:List Nat},(∀ c∈cs,0<c)→0<q6U cs
 | [],_=>Nat.one_pos
 | c::cs,h=>Nat.mul_pos (h c List.mem_cons_self) (j6x fun x hx=>h x (List.mem_cons_of_mem _ hx))
theorem j8g:∀ {cs:List Nat},0∈cs→q6U cs=0
 | c::cs,h=>by
  rw[q6U]
  rcases List.mem_cons.1 h with e|e
  ·rw[← e,Nat.zero_mul]
  ·rw[j8g e,Nat.mul_zero]
theorem k4H {b:Nat}:∀ {cs:List Nat},(∀ c∈cs,c≤b)→q6U cs≤b ^ cs.length
 | [],_=>Nat.le_refl _
 | c::cs,h=>by
  rw[q6U,lnC,Nat.pow_succ,Nat.mul_comm]
  exact Nat.mul_le_mul (k4H fun x hx=>h x (List.mem_cons_of_mem _ hx)) (h c List.mem_cons_self)
theorem k1e:∀ {cs:List Nat} {n:Nat},n<q6U cs→∀ (i d c:Nat),(digL cs n)[i]?=some d→cs[i]?=some c→d<c
 | [],n,h,i,d,c,h1,h2=>by rw[List.getElem?_nil] at h2;cases h2
 | x::cs,n,h,0,d,c,h1,h2=>by
  cases h1
  cases h2
  rw[q6U] at h
  have hP:0<q6U cs:=Nat.pos_of_ne_zero fun e=>by rw[e] at h;omega
  exact (Nat.div_lt_iff_lt_mul hP).2 h
 | x::cs,n,h,i+1,d,c,h1,h2=>by
  rw[q6U] at h
  have hP:0<q6U cs:=Nat.pos_of_ne_zero fun e=>by rw[e] at h;omega
  exact k1e (Nat.mod_lt _ hP) i d c h1 h2
def nzR:Rl_:=⟨0,[]⟩
def atN (g:Gm_)(n:ByteArray):Nat:=(atS g n).getD 0
def InvS (g:Gm_)(A:List (List Rl_)):Prop:=A.length=g.Symbols.length∧∀ (k:Nat) (y:Symbol) (L:List Rl_),g.Symbols[k]?=some y→A[k]?=some L→L.Nodup∧∀ a∈L,j1E (q7x g y.Name) a
def lsA (g:Gm_)(A:List (List Rl_))(n:ByteArray):List Rl_:=A.getD (atN g n) []
theorem k1f {g:Gm_}{n:ByteArray}(hn:(q7v g n).2=true):∃ y,atI g n=(atN g n:Int)∧g.Symbols[atN g n]?=some y∧y.Name=n:=by
 obtain⟨j,y,h1,h2,h3,h4⟩:=k1c hn
 have e:atN g n=j:=by unfold atN;rw[h1];rfl
 refine⟨y,?_,by rw[e];exact h2,h4⟩
 unfold atI;rw[h1,e]
theorem InvS.at_ {g:Gm_}{A:List (List Rl_)}(h:InvS g A){n:ByteArray}(hn:(q7v g n).2=true):atI g n=(atN g n:Int)∧atN g n<A.length∧A[atN g n]?=some (lsA g A n)∧(lsA g A n).Nodup∧∀ a∈lsA g A n,j1E (q7x g n) a:=by
 obtain⟨y,h1,h2,h3⟩:=k1f hn
 have hj:=(List.getElem?_eq_some_iff.1 h2).1
 have e:A[atN g n]?=some (lsA g A n):=by
  unfold lsA
  rw[List.getD_eq_getElem?_getD,List.getElem?_eq_getElem (by rw[h.1];exact hj)];rfl
 have:=h.2 _ y _ h2 e
 rw[h3] at this
 exact⟨h1,by rw[h.1];exact hj,e,this⟩
theorem InvS.le {g:Gm_}(hS:Shape g){A:List (List Rl_)}(h:InvS g A){n:ByteArray}(hn:(q7v g n).2=true):(lsA g A n).length≤16:=
 z8L (hS.plain n) (h.at_ hn).2.2.2.1 (h.at_ hn).2.2.2.2
def q4R (g:Gm_)(r:Rule)(A:List (List Rl_)):List Nat:=r.Right.map fun n=>(lsA g A n).length
def z1G (g:Gm_)(r:Rule)(A:List (List Rl_))(c:List Nat):List Rl_:=(r.Right.zip c).map fun p=>(lsA g A p.1).getD p.2 nzR
def iL (l:List Nat):List Int:=l.map (fun n:Nat=>((n:Nat):Int))
def Ch (g:Gm_)(r:Rule)(A:List (List Rl_))(c:List Nat):Prop:=c.length=r.Right.length∧∀ (i:Nat) (n:ByteArray) (d:Nat),r.Right[i]?=some n→c[i]?=some d→d<(lsA g A n).length
theorem k4I {g:Gm_}{r:Rule}{A:List (List Rl_)}{c:List Nat}(h:c∈chL (q4R g r A)):Ch g r A c:=by
 unfold chL at h
 obtain⟨m,hm,rfl⟩:=List.mem_map.1 h
 refine⟨by rw[j3C];unfold q4R;rw[lnM],fun i n d h1 h2=>?_⟩
 refine k1e (List.mem_range.1 hm) i d _ h2 ?_
 unfold q4R
 rw[List.getElem?_map,h1];rfl
theorem z9Q {g:Gm_}{r:Rule}{A:List (List Rl_)}{c:List Nat}(h:Ch g r A c):(z1G g r A c).length=r.Right.length:=by
 unfold z1G
 rw[lnM,List.length_zip,h.1,Nat.min_self]
theorem j6y {g:Gm_}{r:Rule}{A:List (List Rl_)}{c:List Nat}(h:Ch g r A c){i:Nat}{n:ByteArray}{d:Nat}(h1:r.Right[i]?=some n)(h2:c[i]?=some d) :
  ∃ own,(z1G g r A c)[i]?=some own∧(lsA g A n)[d]?=some own:=by
 have hd:=h.2 i n d h1 h2
 refine⟨(lsA g A n)[d],?_,List.getElem?_eq_getElem hd⟩
 unfold z1G
 have hz:(r.Right.zip c)[i]?=some (n,d):=List.getElem?_zip_eq_some.2 ⟨h1,h2⟩
 rw[List.getElem?_map,hz]
 simp only[Option.map_some]
 rw[List.getD_eq_getElem?_getD,List.getElem?_eq_getElem hd];rfl
theorem z9R {g:Gm_}(hS:Shape g){r:Rule}(hr:r∈g.Rules){A:List (List Rl_)}(hA:InvS g A){c:List Nat}(h:Ch g r A c):FitL g r (z1G g r A c):=by
 refine⟨z9Q h,fun k own hk=>?_⟩
 have hlt:=(List.getElem?_eq_some_iff.1 hk).1
 rw[z9Q h] at hlt
 obtain⟨n,hn⟩:∃ n,r.Right[k]?=some n:=⟨_,List.getElem?_eq_getElem hlt⟩
 obtain⟨d,hd⟩:∃ d,c[k]?=some d:=⟨_,List.getElem?_eq_getElem (by rw[h.1];exact hlt)⟩
 obtain⟨own',h1,h2⟩:=j6y h hn hd
 rw[hk] at h1;cases h1
 have:=(hA.at_ (hS.right hr (List.mem_of_getElem? hn))).2.2.2.2 own (List.mem_of_getElem? h2)
 rw[z8K hn]
 exact⟨this.1,this.2.1⟩
noncomputable def ownR (g:Gm_) (r:Rule) (A:List (List Rl_)) (c:List Nat):Rl_:=sumS g r (z7P g r (z1G g r A c))
theorem k7A {g:Gm_}(h0:Sz.szd g≤1048576)(hS:Shape g)(r:Rule)(x:Rl_):j1E (q7x g r.Left) (sumS g r x):=by
 obtain⟨s,h1,h2⟩:=k4G (z4C h0) (r:=r) (by have:=hS.plain r.Left;omega) x
 unfold sumS
 rw[h1];exact h2
noncomputable def stA (w:Nat) (s:Rl_) (q:List (List Rl_)×Bool):List (List Rl_)×Bool:=if s∈q.1.getD w [] then q else (q.1.set w (q.1.getD w []++[s]),true)
def Ext (A B:List (List Rl_)):Prop:=B.length=A.length∧∀ (k:Nat) (L:List Rl_),A[k]?=some L→∃ t,B[k]?=some (L++t)
theorem Ext.rfl' (A:List (List Rl_)):Ext A A:=⟨rfl,fun k L h=>⟨[],by rw[List.append_nil];exact h⟩⟩
def tot (A:List (List Rl_)):Nat:=(A.map (·.length)).sum
theorem j9R:∀ (A:List (List Rl_)) (k:Nat) (x a:List Rl_),A[k]?=some a→tot (A.set k x)+a.length=tot A+x.length
 | [],k,x,a,h=>by simp at h
 | b::A,0,x,a,h=>by simp at h;subst h;unfold tot;simp;omega
 | b::A,k+1,x,a,h=>by
  have ih:=j9R A k x a (by simpa using h)
  unfold tot at ih ⊢
  simp only[List.set_cons_succ,List.map_cons,List.sum_cons];omega
theorem InvS.bound {g:Gm_}(hS:Shape g){A:List (List Rl_)}(h:InvS g A):tot A≤g.Symbols.length*16:=by
 have key:∀ l:List (List Rl_),(∀ a∈l,a.length≤16)→tot l≤l.length*16:=by
  intro l
  induction l with
  | nil=>intro _;simp[tot]
  | cons a l ih=>
   intro hv
   have h1:=hv a (by simp)
   have h2:=ih fun b hb=>hv b (by simp[hb])
   unfold tot at h2 ⊢
   simp only[List.map_cons,List.sum_cons,lnC]
   omega
 rw[← h.1]
 refine key A fun L hL=>?_
 obtain⟨k,hk⟩:=List.getElem?_of_mem hL
 have hlt:=(List.getElem?_eq_some_iff.1 hk).1
 obtain⟨y,hy⟩:∃ y,g.Symbols[k]?=some y:=⟨_,List.getElem?_eq_getElem (by rw[← h.1];exact hlt)⟩
 exact z8L (hS.plain y.Name) (h.2 k y L hy hk).1 (h.2 k y L hy hk).2
structure Mv (g:Gm_) (A:List (List Rl_)) (q q' : List (List Rl_)×Bool):Prop where
 inv:InvS g q'.1
 ext:Ext A q'.1
 le:tot q.1≤tot q'.1
 up:q'.2=true→q.2=true∨tot q.1<tot q'.1
 no:q'.2=false→q'=q
theorem Mv.refl {g:Gm_}{A:List (List Rl_)}{q:List (List Rl_)×Bool}(h:InvS g q.1)(he:Ext A q.1):Mv g A q q:=⟨h,he,Nat.le_refl _,fun h=>.inl h,fun _=>rfl⟩
theorem Mv.trans {g:Gm_}{A:List (List Rl_)}{p q s:List (List Rl_)×Bool}(h1:Mv g A p q)(h2:Mv g A q s):Mv g A p s:=
 ⟨h2.inv,h2.ext,Nat.le_trans h1.le h2.le,fun h=>by
  rcases h2.up h with h|h
  ·rcases h1.up h with h|h
   ·exact .inl h
   ·exact .inr (Nat.lt_of_lt_of_le h h2.le)
  ·exact .inr (Nat.lt_of_le_of_lt h1.le h),fun h=>by
  have e:=h2.no h
  rw[e] at h ⊢
  exact h1.no h⟩
theorem k9Q {g:Gm_}(hS:Shape g){r:Rule}(hr:r∈g.Rules){A:List (List Rl_)}{q:List (List Rl_)×Bool}(h:InvS g q.1)(he:Ext A q.1){s:Rl_}(hs:j1E (q7x g r.Left) s):Mv g A q (stA (atN g r.Left) s q):=by
 unfold stA
 have hk:=hS.left hr
 obtain⟨h1,h2,h3,h4,h5⟩:=h.at_ hk
 have hg:q.1.getD (atN g r.Left) []=lsA g q.1 r.Left:=rfl
 rw[hg]
 by_cases hm:s∈lsA g q.1 r.Left
 ·rw[ifP hm];exact .refl h he
 ·rw[ifN hm]
  have ht:=j9R q.1 (atN g r.Left) (lsA g q.1 r.Left++[s]) _ h3
  rw[List.length_append,List.length_singleton] at ht
  refine⟨⟨by rw[List.length_set];exact h.1,fun k y L hy hL=>?_⟩,⟨by rw[List.length_set];exact he.1,fun k L hL=>?_⟩,by dsimp only;omega,fun _=>.inr (by dsimp only;omega),fun h=>by cases h⟩
  ·dsimp only at hL
   by_cases e:atN g r.Left=k
   ·subst e
    rw[List.getElem?_set_self h2] at hL
    cases hL
    obtain⟨y',_,h7,h8⟩:=k1f hk
    rw[hy] at h7;cases h7
    rw[h8]
    refine⟨List.nodup_append.2 ⟨h4,by simp,fun a ha b hb e=>?_⟩,fun a ha=>?_⟩
    ·rw[List.mem_singleton] at hb;subst hb;subst e;exact hm ha
    ·rcases List.mem_append.1 ha with ha|ha
     ·exact h5 a ha
     ·rw[List.mem_singleton] at ha;subst ha;exact hs
   ·rw[List.getElem?_set_ne e] at hL
    exact h.2 k y L hy hL
  ·obtain⟨t,e2⟩:=he.2 k L hL
   by_cases e:atN g r.Left=k
   ·subst e
    rw[h3] at e2
    refine⟨t++[s],?_⟩
    dsimp only
    rw[List.getElem?_set_self h2,Option.some.inj e2,List.append_assoc]
   ·exact⟨t,by dsimp only;rw[List.getElem?_set_ne e];exact e2⟩
theorem Mv.fold {α:Type}{g:Gm_}{A:List (List Rl_)}{f:List (List Rl_)×Bool→α→List (List Rl_)×Bool}:∀ (l:List α) (q:List (List Rl_)×Bool),InvS g q.1→Ext A q.1→(∀ q x,x∈l→InvS g q.1→Ext A q.1→Mv g A q (f q x))→Mv g A q (l.foldl f q)
 | [],q,h,he,_=>.refl h he
 | x::l,q,h,he,hf=>by
  have h1:=hf q x (by simp) h he
  exact h1.trans (Mv.fold l _ h1.inv h1.ext fun q y hy=>hf q y (by simp[hy]))
noncomputable def runR (g:Gm_) (A:List (List Rl_)) (q:List (List Rl_)×Bool) (r:Rule):List (List Rl_)×Bool:=(chL (q4R g r A)).foldl (fun q c=>stA (atN g r.Left) (ownR g r A c) q) q
theorem k7B {g:Gm_}(h0:Sz.szd g≤1048576)(hS:Shape g){r:Rule}(hr:r∈g.Rules){A:List (List Rl_)}{q:List (List Rl_)×Bool}(h:InvS g q.1)(he:Ext A q.1):Mv g A q (runR g A q r):=
 Mv.fold _ q h he fun q c _ h he=>k9Q hS hr h he (k7A h0 hS r _)
end Go.Proofs.YtipikecbeganoaaGreat
