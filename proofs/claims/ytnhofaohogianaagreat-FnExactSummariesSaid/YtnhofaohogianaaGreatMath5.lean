/- What those partial functions come to: plain lemmas on data; each bears its conditions in its statement. -/
import Derived.Test.YtnhofaohogianaaGreatMath4
set_option linter.unusedVariables false
set_option linter.unusedSimpArgs false
set_option linter.ambiguousOpen false
set_option linter.unusedSectionVars false
set_option linter.unnecessarySimpa false
open List renaming map_cons→Bhz,sum_cons→Erz,length_filter_le→Esz,range'→Czz,filter_cons→Aoz,getD_eq_getElem?_getD→Ctz,drop_eq_getElem_cons→Cpz,getElem?_eq_getElem→Ckz,drop_zero→Etz,mem_of_find?_eq_some→Dwz,getElem?_of_mem→Elz,length_set→Cjz,mem_of_getElem?→Bsz,replicate→Bmz,mem_cons_self→Ciz,getElem?_eq_none→Avz,range→Amz,flatMap_cons→Bgz,length_append→Awz,replicate_succ→Ddz,mem_cons_of_mem→Brz,getElem?_map→Cxz,getElem?_set_self→Euz,mem_singleton→Blz,getElem?_set_ne→Evz,append_assoc→Ayz
open Nat renaming le_trans→Bdz,mul_le_mul_right→Cnz,zero_add→Adz,le_refl→Acz,succ_mul→Ewz,pos_of_ne_zero→Exz,mod_lt→Eyz,div_lt_iff_lt_mul→Ezz,mul_comm→Faz,add_mul_div_left→Fbz,add_mul_mod_self_left→Fcz,mod_eq_of_lt→Fdz,sub_self→Fez
open Option renaming getD_some→Byz,map_some→Bvz
open Bool renaming false_eq_true→Dvz
namespace Go.Proofs.YtnhofaohogianaaGreat
open Go Go.E
theorem k6G {n:Nat}{x y:Int}(hx:0≤x∧x≤((2 ^ n:Nat):Int)-1)(hy:0≤y∧y≤((2 ^ n:Nat):Int)-1):0≤orI x y∧orI x y≤((2 ^ n:Nat):Int)-1:=by
 have:=Nat.or_lt_two_pow (n:=n) (x:=x.toNat) (y:=y.toNat) (by omega) (by omega)
 unfold orI;omega
def sumR (a:Rl_):Nat:=(a.Rows.map Int.toNat).sum
theorem k1t {a:Rl_}(ha:Valid a):sumR a≤16*65535:=by
 have key:∀ l:List Int,(∀ x∈l,x.toNat≤65535)→(l.map Int.toNat).sum≤l.length*65535:=by
  intro l
  induction l with
  | nil=>intro _;simp
  | cons x l ih=>
   intro h
   have h1:=h x (by simp)
   have h2:=ih fun y hy=>h y (by simp[hy])
   simp only[Bhz,Erz,lnC]
   omega
 have h1:=key a.Rows fun x hx=>by
  have:=ha.2.2.2 x hx
  have:=k7g ha.2.1
  omega
 have hl:a.Rows.length≤16:=by have:=ha.2.2.1;have:=ha.2.1;omega
 exact Bdz h1 (Cnz 65535 hl)
theorem k1u {b:List Int}{f:Nat→Int→Unit→Option (Unit ⊕ Bool)}(hf:∀ k x,f k x ()=(b[k]?).bind fun x2=>if x=x2 then some (.inl ()) else some (.inr false)) :
  ∀ (xs ys:List Int) (i:Nat),xs.length=ys.length→(∀ j,b[i+j]?=ys[j]?)→findL f i xs ()=some (if xs=ys then .inl () else .inr false)
 | [],ys,i,hl,_=>by obtain rfl:=List.eq_nil_of_length_eq_zero hl.symm;rfl
 | x::xs,[],i,hl,_=>by simp at hl
 | x::xs,y::ys,i,hl,hb=>by
  have h0:b[i]?=some y:=by simpa using hb 0
  rw[findL,hf,h0,bsS]
  by_cases hx:x=y
  ·rw[ifP hx,bsS]
   dsimp only
   rw[k1u hf xs ys (i+1) (by simpa using hl) fun j=>by have:=hb (j+1);rw[show i+1+j=i+(j+1) by omega];simpa using this]
   subst hx
   by_cases he:xs=ys
   ·rw[ifP he,ifP (by rw[he])]
   ·rw[ifN he,ifN (by intro hh;injection hh with _ h2;exact he h2)]
  ·rw[ifN hx,bsS]
   dsimp only
   rw[ifN (by intro hh;injection hh with h2 _;exact hx h2)]
theorem k1v (a b:Rl_):q7F a b=some (decide (a=b)):=by
 obtain⟨n,xs⟩:=a
 obtain⟨m,ys⟩:=b
 unfold q7F z7O
 dsimp only
 by_cases hn:n=m
 ·rw[ifP hn]
  by_cases hl:xs.length=ys.length
  ·rw[ifP (by omega),k1u (b:=ys) (fun k x=>rfl) xs ys 0 hl fun j=>by rw[Adz]]
   by_cases he:xs=ys
   ·rw[ifP he,decide_eq_true (by rw[hn,he])];rfl
   ·rw[ifN he,decide_eq_false (by intro hh;injection hh with _ h2;exact he h2)];rfl
  ·rw[ifN (by omega),decide_eq_false (by intro hh;injection hh with _ h2;exact hl (by rw[h2]))];rfl
 ·rw[ifN hn,decide_eq_false (by intro hh;injection hh with h1 _;exact hn h1)]
theorem k5y (a b:Rl_):q9g a b=some (decide (a=b)):=by
 rw[← k1v];rfl
def q6S (g:Gm_)(s:BA_):List At_:=(q6P g s).1.as_.filter z8V
theorem z9d {g:Gm_}(h:GOk g)(s:BA_):(q6S g s).length≤1048576:=Bdz (Esz _ _) (z2J h s)
theorem j5C {l:List At_}(h:l.length≤1048576):eachL q5r 0 l []=some (l.filter z8V):=by
 have:=z4j (p:=z8V) (g:=fun x:At_=>x) (B:=1048577) (f:=q5r) (fun k x s hs=>by
  have hg:((s.length:Int)+1)*40≤140737488355328∧(s.length:Int)+1≤9223372036854775807:=by constructor<;>omega
  unfold q5r z8V
  rw[q3G hg]
  by_cases m1:x.Mode=1
  ·rw[ifP m1,ifP (by simp[m1])];rfl
  ·rw[ifN m1]
   by_cases m2:x.Mode=2
   ·rw[ifP m2,ifP (by simp[m2])];rfl
   ·rw[ifN m2,ifN (by simp[m1,m2])];rfl) l 0 [] (by simp;omega)
 rw[this];simp
theorem j5D {g:Gm_}(h:GOk g)(s:BA_):q5g g s=some (q6S g s):=by
 unfold q5g q6S
 rw[z4l h,bsS]
 try dsimp only
 rw[j5C (z2J h s)];rfl
theorem j5E {g:Gm_}(h:GOk g)(s:BA_):q4z g s=some (q6S g s):=by
 unfold q4z q6S
 rw[z2I,bsS]
 try dsimp only
 rw[j2F,j5C (z2J h s)];rfl
def occK (g:Gm_)(r:Rule)(k:Nat):List Oc:=(q6S g (q8K r (k:Int))).map fun x=>(⟨(k:Int),x.Name⟩:Oc)
def occL (g:Gm_)(r:Rule):List Oc:=(Czz 0 (r.rt_.length+1)).flatMap (occK g r)
theorem j8d {g:Gm_}(h:GOk g)(r:Rule)(k:Nat):(occK g r k).length≤1048576:=by unfold occK;rw[lnM];exact z9d h _
theorem j7d {g:Gm_}(h:GOk g){r:Rule}(hl:ROk r):q4L g r=some (occL g r):=by
 have hl' : r.rt_.length≤1048576:=hl
 have key:=z8Y (h:=occK g r) (C:=1048576) (n:=r.rt_.length+1) (f:=q4k g r) (fun k s hk hs=>by
  unfold q4k
  rw[j1A hl,bsS,j5E h,bsS,z5P k _ 0 s (by have:=z9d h (q8K r (k:Int));omega)];rfl)
  (fun k _=>j8d h r k) (r.rt_.length+1) 0 [] (by omega) (by simp)
 unfold q4L
 rw[q3G (by constructor<;>omega),key];rfl
theorem k1w {g:Gm_}(h:GOk g){r:Rule}(hl:ROk r):q5m g r=some (occL g r):=by
 have hl' : r.rt_.length≤1048576:=hl
 have key:=j1y (h:=occK g r) (C:=1048576) (n:=r.rt_.length+1) (f:=q4R g r) (fun k s hk hs=>by
  unfold q4R
  dsimp only
  rw[ifP (by omega),z7i hl,bsS,j5D h,bsS,j7P,z5P k _ 0 s (by have:=z9d h (q8K r (k:Int));omega),bsS,q3G (by constructor<;>omega)];rfl) (fun s=>by
  unfold q4R;dsimp only;rw[ifN (by omega)]) (fun k _=>j8d h r k) (r.rt_.length+1) 0 [] (by omega) (by simp)
 unfold q5m
 have e:q4Y (q4R g r) (([]:List Oc),0)=some ([]++(Czz 0 (r.rt_.length+1)).flatMap (occK g r)):=key
 rw[e];rfl
theorem j8e {g:Gm_}(h:GOk g){r:Rule}(hl:ROk r):(occL g r).length≤1099512676352:=by
 obtain⟨l,_,h2,h3⟩:=j0d h hl
 rw[j7d h hl] at h2
 cases h2;exact h3
def posL (g:Gm_)(r:Rule)(k:Int):List Int:=(((occL g r).zipIdx 0).filter fun q=>decide (q.1.Pos=k)).map fun q=>(q.2:Int)
theorem j8f (k:Int){l:List Oc}(h:l.length≤1099512676352):eachL (q5s k) 0 l []=some (((l.zipIdx 0).filter fun q=>decide (q.1.Pos=k)).map fun q=>(q.2:Int)):=by
 have:=j1x (p:=fun x:Oc=>decide (x.Pos=k)) (g:=fun i:Nat=>(i:Int)) (B:=4398046511104) (f:=q5s k) (fun i x s hs=>by
  have hg:((s.length:Int)+1)*8≤140737488355328∧(s.length:Int)+1≤9223372036854775807:=by constructor<;>omega
  unfold q5s
  rw[q3G hg]
  by_cases m1:x.Pos=k
  ·rw[ifP m1,ifP (by simp[m1])];rfl
  ·rw[ifN m1,ifN (by simp[m1])];rfl) l 0 [] (by simp;omega)
 rw[this];simp
theorem k5z {g:Gm_}(h:GOk g){r:Rule}(hl:ROk r)(k:Int):q5C g r k=some (posL g r k):=by
 unfold q5C posL
 rw[k1w h hl,bsS,j8f k (j8e h hl)];rfl
theorem k5A {g:Gm_}(h:GOk g){r:Rule}(hl:ROk r)(k:Int):q4I g r k=some (posL g r k):=by
 unfold q4I posL
 rw[j7d h hl,bsS,z6y,j8f k (j8e h hl)];rfl
theorem j5F {α:Type}(p:α→Bool):∀ (l:List α) (i:Nat),((l.zipIdx i).filter fun q=>p q.1).length=l.countP p
 | [],i=>rfl
 | x::l,i=>by
  rw[List.zipIdx_cons,Aoz,List.countP_cons]
  have ih:=j5F p l (i+1)
  by_cases hp:p x=true
  ·rw[ifP hp,ifP hp,lnC,ih]
  ·rw[ifN hp,ifN hp,ih];rfl
theorem k5B (g:Gm_){r:Rule}{k:Nat}(hk:k≤r.rt_.length):(posL g r (k:Int)).length=(q6S g (q8K r (k:Int))).length:=by
 unfold posL
 rw[lnM,j5F (fun x:Oc=>decide (x.Pos=(k:Int)))]
 unfold occL
 rw[List.countP_flatMap]
 have hK:∀ j:Nat,(occK g r j).countP (fun x=>decide (x.Pos=(k:Int)))=if j=k then (q6S g (q8K r (k:Int))).length else 0:=by
  intro j
  unfold occK
  rw[List.countP_map]
  by_cases hj:j=k
  ·subst hj
   rw[ifP rfl,List.countP_eq_length.2 (by simp)]
  ·rw[ifN hj,List.countP_eq_zero.2]
   intro a _
   simp;omega
 have hsum:∀ m i,((Czz i m).map (List.countP (fun x:Oc=>decide (x.Pos=(k:Int))) ∘ occK g r)).sum=if i≤k∧k<i+m then (q6S g (q8K r (k:Int))).length else 0:=by
  intro m
  induction m with
  | zero=>intro i;rw[ifN (by omega)];rfl
  | succ m ih=>
   intro i
   rw[List.range'_succ,Bhz,Erz,ih (i+1),Function.comp,hK i]
   by_cases h1:i=k
   ·rw[ifP h1,ifN (by omega),ifP (by omega)];rfl
   ·rw[ifN h1,Adz]
    by_cases h2:i+1≤k∧k<i+1+m
    ·rw[ifP h2,ifP (by omega)]
    ·rw[ifN h2,ifN (by omega)]
 rw[hsum,ifP (by omega)]
noncomputable def z1F (own:Rl_) (a:Nat) (x:Int):Nat→List Int→Rl_→Rl_
 | _,[],o=>o
 | i,y::ys,o=>z1F own a x (i+1) ys (if hasP own (a:Int) (i:Int) then addP o x y else o)
noncomputable def z3D (own:Rl_) (at' : List Int):Nat→List Int→Rl_→Rl_
 | _,[],o=>o
 | a,x::xs,o=>z3D own at' (a+1) xs (z1F own a x 0 at' o)
theorem z9e (own:Rl_)(a:Nat)(x:Int):∀ (ys:List Int) (i:Nat) (o:Rl_),(z1F own a x i ys o).Rows.length=o.Rows.length∧(z1F own a x i ys o).N=o.N
 | [],i,o=>⟨rfl,rfl⟩
 | y::ys,i,o=>by
  rw[z1F]
  have ih:=z9e own a x ys (i+1) (if hasP own (a:Int) (i:Int) then addP o x y else o)
  by_cases h:hasP own (a:Int) (i:Int)
  ·rw[ifP h] at ih ⊢
   have:=j3T o x y
   exact⟨ih.1.trans this.1,ih.2.trans this.2⟩
  ·rw[ifN h] at ih ⊢;exact ih
theorem j1J (own:Rl_)(at' : List Int):∀ (xs:List Int) (a:Nat) (o:Rl_),(z3D own at' a xs o).Rows.length=o.Rows.length∧(z3D own at' a xs o).N=o.N
 | [],a,o=>⟨rfl,rfl⟩
 | x::xs,a,o=>by
  rw[z3D]
  have ih:=j1J own at' xs (a+1) (z1F own a x 0 at' o)
  have:=z9e own a x at' 0 o
  exact⟨ih.1.trans this.1,ih.2.trans this.2⟩
theorem k1x (own:Rl_)(a:Nat)(x:Int):∀ (ys:List Int) (i:Nat) (o:Rl_),o.Rows.length≤1048576 →
  eachL (q9R own a x) i ys (o.Rows,o.N)=some ((z1F own a x i ys o).Rows,(z1F own a x i ys o).N)∧eachL (z7T own a x) i ys (o.N,o.Rows)=some ((z1F own a x i ys o).N,(z1F own a x i ys o).Rows)
 | [],i,o,_=>⟨rfl,rfl⟩
 | y::ys,i,o,h=>by
  have e1:q9R own a x i y (o.Rows,o.N)=some ((if hasP own (a:Int) (i:Int) then addP o x y else o).Rows,(if hasP own (a:Int) (i:Int) then addP o x y else o).N):=by
   unfold q9R
   dsimp only
   rw[z2H,bsS]
   by_cases hp:hasP own (a:Int) (i:Int)
   ·rw[decide_eq_true hp,ifP rfl,ifP hp,k0H h];rfl
   ·rw[decide_eq_false hp,ifN (by simp),ifN hp];rfl
  have e2:z7T own a x i y (o.N,o.Rows)=some ((if hasP own (a:Int) (i:Int) then addP o x y else o).N,(if hasP own (a:Int) (i:Int) then addP o x y else o).Rows):=by
   unfold z7T
   dsimp only
   rw[j1v,bsS]
   by_cases hp:hasP own (a:Int) (i:Int)
   ·rw[decide_eq_true hp,ifP rfl,ifP hp,j3R,k0H h];rfl
   ·rw[decide_eq_false hp,ifN (by simp),ifN hp];rfl
  have hl:(if hasP own (a:Int) (i:Int) then addP o x y else o).Rows.length≤1048576:=by
   split
   ·rw[(j3T o x y).1];exact h
   ·exact h
  have ih:=k1x own a x ys (i+1) _ hl
  rw[eachL,eachL,e1,e2,bsS,bsS,z1F]
  exact ih
theorem j4c (own:Rl_)(at' : List Int):∀ (xs:List Int) (a:Nat) (o:Rl_),o.Rows.length≤1048576 →
  eachL (q9S own at') a xs (o.Rows,o.N)=some ((z3D own at' a xs o).Rows,(z3D own at' a xs o).N)∧eachL (z7U own at') a xs (o.N,o.Rows)=some ((z3D own at' a xs o).N,(z3D own at' a xs o).Rows)
 | [],a,o,_=>⟨rfl,rfl⟩
 | x::xs,a,o,h=>by
  have h1:=k1x own a x at' 0 o h
  have hl:(z1F own a x 0 at' o).Rows.length≤1048576:=by rw[(z9e own a x at' 0 o).1];exact h
  have ih:=j4c own at' xs (a+1) _ hl
  have e1:q9S own at' a x (o.Rows,o.N)=some ((z1F own a x 0 at' o).Rows,(z1F own a x 0 at' o).N):=by
   unfold q9S;dsimp only;rw[h1.1];rfl
  have e2:z7U own at' a x (o.N,o.Rows)=some ((z1F own a x 0 at' o).N,(z1F own a x 0 at' o).Rows):=by
   unfold z7U;dsimp only;rw[h1.2];rfl
  rw[eachL,eachL,e1,e2,bsS,bsS,z3D]
  exact ih
noncomputable def z8o (g:Gm_) (r:Rule) (o:Rl_) (pos:Int) (own:Rl_):Rl_:=z3D own (posL g r pos) 0 (posL g r pos) o
theorem k1y {g:Gm_}(h:GOk g){r:Rule}(hl:ROk r){o:Rl_}(ho:o.Rows.length≤1048576)(pos:Int)(own:Rl_):z7V g r o pos own=some (z8o g r o pos own):=by
 unfold z7V z8o
 rw[k5A h hl,bsS,(j4c own (posL g r pos) (posL g r pos) 0 o ho).2];rfl
theorem z7j {r:Rule}{k:Nat}{x:BA_}(h:r.rt_[k]?=some x):q8K r ((k+1:Nat):Int)=x:=by
 have hk:=(List.getElem?_eq_some_iff.1 h).1
 unfold q8K
 rw[ifN (by omega),ifP (by omega),show (((k+1:Nat):Int)-1).toNat=k by omega,Ctz,h];rfl
noncomputable def z6q (g:Gm_) (r:Rule):Nat→List Rl_→Rl_→Rl_
 | _,[],o=>o
 | k,own::l,o=>z6q g r (k+1) l (z8o g r o ((k+1:Nat):Int) own)
theorem j9y (g:Gm_)(r:Rule)(o:Rl_)(pos:Int)(own:Rl_):(z8o g r o pos own).Rows.length=o.Rows.length:=(j1J own _ _ 0 o).1
def FitL (g:Gm_)(r:Rule)(list:List Rl_):Prop:=list.length=r.rt_.length∧∀ k own,list[k]?=some own→Valid own∧own.N=((q6S g (q8K r ((k+1:Nat):Int))).length:Int)
theorem j5G {g:Gm_}(h:GOk g){r:Rule}(hl:ROk r){list:List Rl_}(hf:FitL g r list):∀ (m k:Nat) (o:Rl_),k+m=list.length→o.Rows.length≤1048576 →
  findL (q9T g r) k (list.drop k) (o.Rows,o.N)=some (.inl ((z6q g r k (list.drop k) o).Rows,(z6q g r k (list.drop k) o).N)) ∧
  findL (z0g g r) k (list.drop k) (o.Rows,o.N)=some (.inl ((z6q g r k (list.drop k) o).Rows,(z6q g r k (list.drop k) o).N))∧(z6q g r k (list.drop k) o).Rows.length=o.Rows.length
 | 0,k,o,hk,_=>by rw[List.drop_eq_nil_of_le (by omega)];exact⟨rfl,rfl,rfl⟩
 | m+1,k,o,hk,ho=>by
  have hk' : k<list.length:=by omega
  rw[Cpz hk']
  have hv:=hf.2 k list[k] (Ckz hk')
  have hR:k<r.rt_.length:=by rw[← hf.1];exact hk'
  have hsym:=z7j (r:=r) (k:=k) (Ckz hR)
  have hpl:=k5B g (r:=r) (k:=k+1) (by omega)
  have e1:q9T g r k list[k] (o.Rows,o.N)=some (.inl ((z8o g r o ((k+1:Nat):Int) list[k]).Rows,(z8o g r o ((k+1:Nat):Int) list[k]).N)):=by
   unfold q9T
   dsimp only
   rw[k5z h hl,bsS,q9q,bsS,decide_eq_true hv.1,ifP rfl,ifP (by rw[hpl];exact hv.2),(j4c list[k] _ _ 0 o ho).1];rfl
  have e2:z0g g r k list[k] (o.Rows,o.N)=some (.inl ((z8o g r o ((k+1:Nat):Int) list[k]).Rows,(z8o g r o ((k+1:Nat):Int) list[k]).N)):=by
   unfold z0g
   dsimp only
   rw[Ckz hR,bsS,j5E h,bsS,ifP (by rw[← hsym];exact hv.2),k1y h hl ho];rfl
  have hlen:=j9y g r o ((k+1:Nat):Int) list[k]
  have ih:=j5G h hl hf m (k+1) (z8o g r o ((k+1:Nat):Int) list[k]) (by omega) (by rw[hlen];exact ho)
  rw[findL,findL,e1,e2,bsS,bsS,z6q]
  exact⟨ih.1,ih.2.1,ih.2.2.trans hlen⟩
noncomputable def locR (g:Gm_) (r:Rule):Rl_:=(q6b g r).getD ⟨0,[]⟩
theorem k6H {g:Gm_}{r:Rule}(h:Sz.szd g≤1048576)(hr:Sz.szd r≤1048576):q6b g r=some (locR g r)∧q6I g r=some (locR g r)∧(locR g r).Rows.length≤16:=by
 obtain⟨x,h1,h2,h3⟩:=j9k h hr
 unfold locR
 rw[h1,h2];exact⟨rfl,rfl,h3⟩
noncomputable def j2p (g:Gm_) (r:Rule) (list:List Rl_):Rl_:=if 16<(occL g r).length then ⟨0,[]⟩ else z8k (z6q g r 0 list (locR g r))
theorem k1z {g:Gm_}{r:Rule}(h:Sz.szd g≤1048576)(hr:Sz.szd r≤1048576){list:List Rl_}(hf:FitL g r list):q8T g r list=some (j2p g r list)∧q8Z g r list=some (j2p g r list)∧(j2p g r list).Rows.length≤16:=by
 have hg:=z3C h
 have hl:=q8b hr
 obtain⟨l1,l2,l3⟩:=k6H h hr
 have hn:(list.length:Int)=(r.rt_.length:Int):=by rw[hf.1]
 unfold q8T q8Z
 rw[k1w hg hl,j7d hg hl]
 simp only[bsS]
 rw[ifP hn,ifP hn]
 simp only[bsS]
 by_cases h16:16<(occL g r).length
 ·have hi:(16:Int)<((occL g r).length:Int):=by omega
  have hc:j2p g r list=⟨0,[]⟩:=ifP h16
  rw[hc,decide_eq_true hi,ifP rfl,ifP hi]
  exact⟨rfl,rfl,by simp⟩
 ·have hi:¬ (16:Int)<((occL g r).length:Int):=by omega
  have hc:j2p g r list=z8k (z6q g r 0 list (locR g r)):=ifN h16
  rw[hc,decide_eq_false hi,ifN (by simp),ifN hi,l1,l2,bsS,bsS]
  have key:=j5G hg hl hf list.length 0 (locR g r) (by omega) (by omega)
  rw[Etz] at key
  have hlen:(z6q g r 0 list (locR g r)).Rows.length≤16:=by rw[key.2.2];exact l3
  rw[key.1,key.2.1,bsS,bsS,z3q,z3q]
  dsimp only
  rw[k0I (r:=⟨(z6q g r 0 list (locR g r)).N,(z6q g r 0 list (locR g r)).Rows⟩) (by show (z6q g r 0 list (locR g r)).Rows.length≤_;omega),k0J (r:=⟨(z6q g r 0 list (locR g r)).N,(z6q g r 0 list (locR g r)).Rows⟩) (by show (z6q g r 0 list (locR g r)).Rows.length≤_;omega)]
  exact⟨rfl,rfl,by rw[(j9n _).1];exact hlen⟩
theorem j4d {α β:Type}{p:α→Bool}{g:α→β}{B:Nat}{f:Nat→α→List β→Option (List β)}:∀ (xs:List α) (i:Nat) (s:List β),(∀ k x s,x∈xs→s.length<B→f k x s=some (if p x=true then s++[g x] else s))→s.length+xs.length≤B →
  eachL f i xs s=some (s++(xs.filter p).map g)
 | [],i,s,_,_=>by simp[eachL]
 | x::xs,i,s,hf,h=>by
  simp only[lnC] at h
  by_cases hp:p x=true
  ·have ih:=j4d xs (i+1) (s++[g x]) (fun k y s hy=>hf k y s (by simp[hy])) (by simp;omega)
   simp[eachL,hf i x s (by simp) (by omega),hp,ih]
  ·have ih:=j4d xs (i+1) s (fun k y s hy=>hf k y s (by simp[hy])) (by omega)
   simp[eachL,hf i x s (by simp) (by omega),hp,ih]
theorem z8p {α β:Type}{g:α→β}{B:Nat}{f:Nat→α→List β→Option (List β)}(xs:List α)(i:Nat)(s:List β)(hf:∀ k x s,x∈xs→s.length<B→f k x s=some (s++[g x]))(h:s.length+xs.length≤B) :
  eachL f i xs s=some (s++xs.map g):=by
 have:=j4d (p:=fun _=>true) (g:=g) (B:=B) (f:=f) xs i s (fun k x s hx hs=>by rw[hf k x s hx hs,ifP rfl]) h
 rw[this];congr 2;congr 1;simp
theorem j8g {g:Gm_}{n:BA_}(h:(q6P g n).2=true):∃ j y,atS g n=some j∧g.ss_[j]?=some y∧q6P g n=(y,true)∧y.Name=n:=by
 unfold q6P at h ⊢
 cases hf:g.ss_.find? fun y=>decide (y.Name=n) with
 | none=>rw[hf] at h;cases h
 | some y=>
  have hn:y.Name=n:=by simpa using List.find?_some (p:=fun y:Symbol=>decide (y.Name=n)) hf
  unfold atS
  cases he:g.ss_.findIdx? fun y=>decide (y.Name=n) with
  | none=>
   rw[List.findIdx?_eq_none_iff] at he
   have:=he y (Dwz hf)
   simp[hn] at this
  | some j=>
   refine⟨j,y,rfl,?_,rfl,hn⟩
   rw[List.findIdx?_eq_some_iff_getElem] at he
   obtain⟨hj,h1,h2⟩:=he
   rw[List.find?_eq_some_iff_getElem] at hf
   obtain⟨_,i,hi,hy,h3⟩:=hf
   have:i=j:=by
    rcases Nat.lt_trichotomy i j with hlt|heq|hgt
    ·have:=h2 i hlt;rw[hy] at this;simp[hn] at this
    ·exact heq
    ·have:=h3 j hgt;simp at this;simp at h1;exact absurd h1 this
   subst this
   rw[Ckz hi,hy]
theorem Shape.known {g:Gm_}(h:Shape g){r:Rule}(hr:r∈g.rs_){k:Nat}(hk:k≤r.rt_.length):(q6P g (q8K r (k:Int))).2=true:=by
 have h3:=h.brk 3 (by omega) (by omega) r hr
 unfold z4o at h3
 rw[ifP rfl,Bool.not_eq_false'] at h3
 unfold j2N at h3
 rw[List.all_eq_true] at h3
 exact h3 k (by rw[List.mem_range'_1];omega)
theorem Shape.right {g:Gm_}(h:Shape g){r:Rule}(hr:r∈g.rs_){n:BA_}(hn:n∈r.rt_):(q6P g n).2=true:=by
 obtain⟨k,hk⟩:=Elz hn
 have hlt:=(List.getElem?_eq_some_iff.1 hk).1
 have:=h.known hr (k:=k+1) (by omega)
 rwa[z7j hk] at this
theorem Shape.left {g:Gm_}(h:Shape g){r:Rule}(hr:r∈g.rs_):(q6P g r.Left).2=true:=by
 have:=h.known hr (k:=0) (by omega)
 unfold q8K at this
 rwa[ifP (by rfl)] at this
theorem Shape.attrs {g:Gm_}(h:Shape g){y:Symbol}(hy:y∈g.ss_):y.as_.length≤4:=by
 have:=h.symB hy
 unfold Go.Proofs.YtnhofaohogianaaGreat.symB at this
 simp only[Bool.and_eq_true,decide_eq_true_eq] at this
 exact this.2.2.1
theorem Shape.plain {g:Gm_}(h:Shape g)(n:BA_):(q6S g n).length≤4:=by
 refine Bdz (Esz _ _) ?_
 unfold q6P
 cases hf:g.ss_.find? fun y=>decide (y.Name=n) with
 | none=>simp[zS]
 | some y=>exact h.attrs (Dwz hf)
theorem j8h (g:Gm_)(n:BA_):q7L g n=some (atI g n):=by
 unfold q7L q4u atI atS
 rw[z2K (q:=fun y:Symbol=>decide (y.Name=n)) (c:=fun k=>(k:Int)) fun j x hx=>by
  unfold q5P q9f
  rw[bsS,← apply_ite some]]
 cases g.ss_.findIdx? fun y=>decide (y.Name=n) with
 | none=>rfl
 | some j=>dsimp only;rw[Adz];rfl
def Inv (g:Gm_)(all:List Rl_):Prop:=all.length=g.ss_.length∧∀ (k:Nat) (y:Symbol) (a:Rl_),g.ss_[k]?=some y→all[k]?=some a→Valid a∧a.N=((q6S g y.Name).length:Int)
def zR:Rl_:=⟨0,[]⟩
def k1A (g:Gm_)(all:List Rl_)(n:BA_):Rl_:=all.getD ((atS g n).getD 0) zR
theorem Inv.at_ {g:Gm_}{all:List Rl_}(h:Inv g all){n:BA_}(hn:(q6P g n).2=true):∃ j,atS g n=some j∧j<g.ss_.length∧all[j]?=some (k1A g all n)∧Valid (k1A g all n)∧(k1A g all n).N=((q6S g n).length:Int):=by
 obtain⟨j,y,h1,h2,h3,h4⟩:=j8g hn
 have hj:=(List.getElem?_eq_some_iff.1 h2).1
 have e:all[j]?=some (k1A g all n):=by
  unfold k1A
  rw[h1,Byz,Ctz,Ckz (by rw[h.1];exact hj)];rfl
 have:=h.2 j y _ h2 e
 rw[h4] at this
 exact⟨j,h1,hj,e,this⟩
theorem z6C {g:Gm_}(hS:Shape g){r:Rule}(hr:r∈g.rs_):r.rt_.length≤3:=by
 have:=hS.ruleB hr
 unfold Go.Proofs.YtnhofaohogianaaGreat.ruleB at this
 simp only[Bool.and_eq_true,decide_eq_true_eq] at this
 exact this.2.1.1
noncomputable def sumS (g:Gm_) (r:Rule) (c:Rl_):Rl_:=(q6L g r c).getD ⟨0,[]⟩
theorem k1B {g:Gm_}(h:GOk g){r:Rule}(hl:ROk r)(c:Rl_):q6L g r c=some (sumS g r c)∧q9t g r c=some (sumS g r c):=by
 obtain⟨x,h1,h2,_⟩:=j5o (c:=c) h hl
 unfold sumS
 rw[h1,h2];exact⟨rfl,rfl⟩
def sumA (all:List Rl_):Nat:=(all.map sumR).sum
theorem Inv.bound {g:Gm_}{all:List Rl_}(h:Inv g all):sumA all≤all.length*(16*65535):=by
 have key:∀ l:List Rl_,(∀ a∈l,Valid a)→sumA l≤l.length*(16*65535):=by
  intro l
  induction l with
  | nil=>intro _;simp[sumA]
  | cons a l ih=>
   intro hv
   have h1:=k1t (hv a (by simp))
   have h2:=ih fun b hb=>hv b (by simp[hb])
   unfold sumA at h2 ⊢
   simp only[Bhz,Erz,lnC]
   omega
 refine key all fun a ha=>?_
 obtain⟨k,hk⟩:=Elz ha
 have hlt:=(List.getElem?_eq_some_iff.1 hk).1
 exact (h.2 k _ a (Ckz (by rw[← h.1];exact hlt)) hk).1
theorem Valid.len {a:Rl_}(h:Valid a):a.Rows.length≤16:=by have:=h.2.2.1;have:=h.2.1;omega
theorem j9z {r:Rl_}(h:Valid r)(i k:Int):Valid (addP r i k):=by
 unfold addP
 by_cases hc:Valid r∧inN r i∧inN r k
 ·rw[ifP hc]
  obtain⟨_,hi,hk⟩:=hc
  unfold j1u
  refine⟨h.1,h.2.1,by dsimp only;rw[Cjz];exact h.2.2.1,fun x hx=>?_⟩
  rcases List.mem_or_eq_of_mem_set hx with hx|hx
  ·exact h.2.2.2 x hx
  ·rw[hx]
   have h1:=h.1
   have hk1:=hk.1
   have hk2:=hk.2
   refine k6G ?_ ?_
   ·unfold z6G
    rw[Ctz]
    cases hq:r.Rows[i.toNat]? with
    | none=>show (0:Int)≤0∧(0:Int)≤((2 ^ r.N.toNat:Nat):Int)-1;have:=Nat.two_pow_pos r.N.toNat;omega
    | some y=>exact h.2.2.2 y (Bsz hq)
   ·have h2:2 ^ k.toNat<2 ^ r.N.toNat:=Nat.pow_lt_pow_right (by decide) (by omega)
    constructor
    ·exact Int.natCast_nonneg _
    ·dsimp only;omega
 ·rw[ifN hc];exact h
theorem k5C {r:Rl_}(h:Valid r)(i k:Int)(a c:Nat):Rl (addP r i k).Rows a c↔Rl r.Rows a c∨(inN r i∧inN r k∧(a:Int)=i∧(c:Int)=k):=by
 unfold addP
 by_cases hc:Valid r∧inN r i∧inN r k
 ·rw[ifP hc]
  obtain⟨_,hi,hk⟩:=hc
  have hi1:=hi.1
  have hi2:=hi.2
  have hk1:=hk.1
  have hl:=h.2.2.1
  unfold j1u Rl
  dsimp only
  rw[Ctz,List.getElem?_set]
  by_cases e:i.toNat=a
  ·rw[ifP e,ifP (by omega),Byz,j5s,Nat.testBit_or,tnC,Nat.testBit_two_pow]
   unfold z6G
   rw[e]
   simp only[Bool.or_eq_true,decide_eq_true_eq]
   constructor
   ·rintro (h1|h1)
    ·exact .inl h1
    ·exact .inr ⟨hi,hk,by omega,by omega⟩
   ·rintro (h1|⟨_,_,_,h1⟩)
    ·exact .inl h1
    ·exact .inr (by omega)
  ·rw[ifN e,← Ctz]
   constructor
   ·exact fun h1=>.inl h1
   ·rintro (h1|⟨_,_,h1,_⟩)
    ·exact h1
    ·omega
 ·rw[ifN hc]
  constructor
  ·exact fun h1=>.inl h1
  ·rintro (h1|⟨h1,h2,_⟩)
   ·exact h1
   ·exact absurd ⟨h,h1,h2⟩ hc
def Sub (a b:Rl_):Prop:=Valid a∧Valid b∧a.N=b.N∧∀ i j:Nat,Rl a.Rows i j→Rl b.Rows i j
theorem Sub.refl {a:Rl_}(h:Valid a):Sub a a:=⟨h,h,rfl,fun _ _ h=>h⟩
theorem Sub.trans {a b c:Rl_}(h:Sub a b)(k:Sub b c):Sub a c:=⟨h.1,k.2.1,h.2.2.1.trans k.2.2.1,fun i j x=>k.2.2.2 i j (h.2.2.2 i j x)⟩
theorem j7e {n:Int}(h0:0≤n)(h1:n≤16):Valid ⟨n,Bmz n.toNat 0⟩:=by
 refine⟨h0,h1,by simp;omega,fun x hx=>?_⟩
 have:=(List.mem_replicate.1 hx).2
 have h2:=Nat.two_pow_pos n.toNat
 dsimp only
 omega
end Go.Proofs.YtnhofaohogianaaGreat
set_option maxRecDepth 100000
set_option maxHeartbeats 4000000
namespace Go.Proofs.YtnhofaohogianaaGreat
open Go Go.E
theorem j4e:∀ (n:Nat) (l:List Nat),l.Nodup→(∀ x∈l,x<n)→l.length≤n
 | 0,[],_,_=>Acz _
 | 0,x::l,_,h=>absurd (h x Ciz) (Nat.not_lt_zero _)
 | n+1,l,hd,h=>by
  by_cases hn:n∈l
  ·have h1:=j4e n (l.erase n) (hd.erase n) fun x hx=>by
    have h2:=(List.Nodup.mem_erase_iff hd).1 hx
    have:=h x h2.2
    have:=h2.1
    omega
   rw[List.length_erase_of_mem hn] at h1
   omega
  ·have:=j4e n l hd fun x hx=>by
    have h2:=h x hx
    have:x≠n:=fun e=>hn (e▸hx)
    omega
   omega
def j5H:List Bool→Nat
 | []=>0
 | b::bs=>(if b=true then 1 else 0)+2*j5H bs
theorem k1C:∀ l:List Bool,j5H l<2 ^ l.length
 | []=>by decide
 | b::bs=>by
  have:=k1C bs
  rw[j5H,lnC,Nat.pow_succ]
  split<;>omega
theorem j4f:∀ {l m:List Bool},l.length=m.length→j5H l=j5H m→l=m
 | [],[],_,_=>rfl
 | [],_::_,h,_=>by simp at h
 | _::_,[],h,_=>by simp at h
 | b::bs,c::cs,h,e=>by
  rw[j5H,j5H] at e
  have h' : bs.length=cs.length:=by simpa using h
  cases b<;>cases c<;>simp at e
  ·rw[j4f h' (by omega)]
  ·omega
  ·omega
  ·rw[j4f h' (by omega)]
theorem k1D {α:Type}{p q:α→Bool}(h:∀ x,p x=true→q x=true→False):∀ l:List α,(l.filter p).length+(l.filter q).length≤l.length
 | []=>Acz _
 | x::l=>by
  have:=k1D h l
  rw[Aoz,Aoz,lnC]
  cases hp:p x<;>cases hq:q x
  ·simp;omega
  ·simp;omega
  ·simp;omega
  ·exact absurd hq (fun hq=>h x hp hq)
theorem k5D {a b:Rl_}(ha:Valid a)(hb:Valid b)(hN:a.N=b.N)(h:∀ i j:Nat,Rl a.Rows i j↔Rl b.Rows i j):a=b:=by
 obtain⟨n,xs⟩:=a
 obtain⟨m,ys⟩:=b
 have h1:=ha.2.2.1
 have h2:=hb.2.2.1
 dsimp only at h1 h2 hN
 have e:xs=ys:=by
  apply List.ext_getElem?
  intro i
  by_cases hi:i<xs.length
  ·obtain⟨x,hx⟩:∃ x,xs[i]?=some x:=⟨_,Ckz hi⟩
   obtain⟨y,hy⟩:∃ y,ys[i]?=some y:=⟨_,Ckz (by omega)⟩
   have hx0:=(ha.2.2.2 x (Bsz hx)).1
   have hy0:=(hb.2.2.2 y (Bsz hy)).1
   have:x.toNat=y.toNat:=by
    apply Nat.eq_of_testBit_eq
    intro j
    have:=h i j
    unfold Rl at this
    dsimp only at this
    rw[Ctz,Ctz,hx,hy,Byz,Byz] at this
    exact Bool.eq_iff_iff.2 this
   rw[hx,hy]
   congr 1
   omega
  ·rw[Avz (by omega),Avz (by omega)]
 rw[e,hN]
def z9X (L:List At_)(s:Rl_):Prop:=Valid s∧s.N=(L.length:Int)∧∀ a b:Nat,Rl s.Rows a b→∃ x y,L[a]?=some x∧x.Mode=1∧L[b]?=some y∧y.Mode=2
def z3E (L:List At_)(m:Int)(a:Nat):Bool:=decide ((L[a]?).map (·.Mode)=some m)
def z8q (L:List At_):List (Nat×Nat):=((Amz L.length).filter (z3E L 1)).flatMap fun a=>((Amz L.length).filter (z3E L 2)).map fun b=>(a,b)
theorem z9f {α β:Type}{f:α→List β}{n:Nat}(h:∀ x,(f x).length=n):∀ l:List α,(l.flatMap f).length=l.length*n
 | []=>by simp
 | x::l=>by rw[Bgz,Awz,h,z9f h l,lnC,Ewz];omega
theorem k1E {L:List At_}(h:L.length≤4):(z8q L).length≤4:=by
 unfold z8q
 rw[z9f (n:=((Amz L.length).filter (z3E L 2)).length) fun x=>by rw[lnM]]
 have h1:=k1D (p:=z3E L 1) (q:=z3E L 2) (fun x h1 h2=>by
  unfold z3E at h1 h2
  have h1:=of_decide_eq_true h1
  have h2:=of_decide_eq_true h2
  rw[h1] at h2
  cases h2) (Amz L.length)
 rw[List.length_range] at h1
 generalize ((Amz L.length).filter (z3E L 1)).length=x at h1
 generalize ((Amz L.length).filter (z3E L 2)).length=y at h1
 have:x=0∨x=1∨x=2∨x=3∨x=4:=by omega
 rcases this with e|e|e|e|e<;>subst e<;>omega
noncomputable def k1F (L:List At_) (s:Rl_):Nat:=j5H ((z8q L).map fun p=>s.Rows.getD p.1 0 |>.toNat.testBit p.2)
theorem k5E {L:List At_}(h:L.length≤4)(s:Rl_):k1F L s<16:=by
 have h1:=k1C ((z8q L).map fun p=>s.Rows.getD p.1 0 |>.toNat.testBit p.2)
 have h2:=k1E h
 rw[lnM] at h1
 have h3:2 ^ (z8q L).length≤2 ^ 4:=Nat.pow_le_pow_right (by decide) h2
 unfold k1F
 omega
theorem k3w {L:List At_}{s t:Rl_}(hs:z9X L s)(ht:z9X L t)(h:k1F L s=k1F L t):s=t:=by
 have e:=j4f (by simp) h
 have key:∀ {s t:Rl_},z9X L s→((z8q L).map fun p=>(s.Rows.getD p.1 0).toNat.testBit p.2)=((z8q L).map fun p=>(t.Rows.getD p.1 0).toNat.testBit p.2)→∀ i j:Nat,Rl s.Rows i j→Rl t.Rows i j:=by
  intro s t hs e i j h
  obtain⟨x,y,h1,h2,h3,h4⟩:=hs.2.2 i j h
  have hm:(i,j)∈z8q L:=by
   unfold z8q
   refine List.mem_flatMap.2 ⟨i,List.mem_filter.2 ⟨List.mem_range.2 (List.getElem?_eq_some_iff.1 h1).1,by unfold z3E;rw[h1];simp[h2]⟩,?_⟩
   exact List.mem_map.2 ⟨j,List.mem_filter.2 ⟨List.mem_range.2 (List.getElem?_eq_some_iff.1 h3).1,by unfold z3E;rw[h3];simp[h4]⟩,rfl⟩
  have:=(List.map_inj_left.1 e) (i,j) hm
  unfold Rl at h ⊢
  dsimp only at this
  rw[← this];exact h
 exact k5D hs.1 ht.1 (hs.2.1.trans ht.2.1.symm) fun i j=>⟨key hs e i j,key ht e.symm i j⟩
theorem z2L {L:List At_}(h:L.length≤4){l:List Rl_}(hn:l.Nodup)(hl:∀ s∈l,z9X L s):l.length≤16:=by
 have:=j4e 16 (l.map (k1F L)) (by
  rw[List.Nodup,List.pairwise_map]
  refine List.Pairwise.imp_of_mem ?_ hn
  intro a b ha hb hne hc
  exact hne (k3w (hl a ha) (hl b hb) hc)) fun x hx=>by
  obtain⟨s,_,rfl⟩:=List.mem_map.1 hx
  exact k5E h s
 rwa[lnM] at this
theorem k1G {g:Gm_}(hg:GOk g){r:Rule}(hn:(q6S g r.Left).length≤16)(c:Rl_):∃ s,q6L g r c=some s∧z9X (q6S g r.Left) s:=by
 have hv:=j7e (n:=((q6S g r.Left).length:Int)) (by omega) (by omega)
 have P0:∀ s:List Int×Int,z9X (q6S g r.Left) ⟨s.2,s.1⟩→s.1.length≤1048576:=fun s h=>by have:=h.1.2.2.1;have:=h.1.2.1;dsimp only at *;omega
 obtain⟨s',e,h3⟩:=z3k (P:=fun _ (s:List Int×Int)=>z9X (q6S g r.Left) ⟨s.2,s.1⟩) (f:=q9U c (q6S g r.Left)) (xs:=q6S g r.Left) (i:=0) (s:=(Bmz ((q6S g r.Left).length:Int).toNat 0,((q6S g r.Left).length:Int))) ⟨hv,rfl,fun a b h=>by
   exfalso
   unfold Rl at h
   rw[Ctz,List.getElem?_replicate] at h
   split at h<;>simp at h⟩ fun k x s hx hs=>by
  rw[Adz]
  obtain⟨s1,s2⟩:=s
  obtain⟨s',e,h3⟩:=z3k (P:=fun _ (s:List Int×Int)=>z9X (q6S g r.Left) ⟨s.2,s.1⟩) (f:=q8t c k x) (xs:=q6S g r.Left) (i:=0) (s:=(s1,s2)) hs fun k2 x2 s hx2 hs=>by
   rw[Adz]
   obtain⟨t1,t2⟩:=s
   have hl:=P0 _ hs
   dsimp only at hs hl
   unfold q8t
   dsimp only
   rw[z2H,k0H (r:=⟨t2,t1⟩) hl]
   simp only[bsS]
   by_cases p1:hasP c (k:Int) (k2:Int)
   ·by_cases m1:x.Mode=1
    ·by_cases m2:x2.Mode=2
     ·simp only[m1,m2,p1,if_true,decide_true,bsS]
      refine⟨_,rfl,j9z hs.1 _ _,(j3T _ _ _).2.trans hs.2.1,fun a b h=>?_⟩
      rcases (k5C hs.1 _ _ a b).1 h with h|⟨_,_,h1,h2⟩
      ·exact hs.2.2 a b h
      ·have e1:a=k:=by omega
       have e2:b=k2:=by omega
       subst e1;subst e2
       exact⟨x,x2,hx,m1,hx2,m2⟩
     ·simp only[m1,m2,if_true,if_false,decide_false,bsS,Dvz];exact⟨_,rfl,hs⟩
    ·simp only[m1,if_false,bsS,Dvz];exact⟨_,rfl,hs⟩
   ·by_cases m1:x.Mode=1
    ·by_cases m2:x2.Mode=2
     ·simp only[m1,m2,p1,if_true,if_false,decide_true,decide_false,bsS,Dvz];exact⟨_,rfl,hs⟩
     ·simp only[m1,m2,if_true,if_false,decide_false,bsS,Dvz];exact⟨_,rfl,hs⟩
    ·simp only[m1,if_false,bsS,Dvz];exact⟨_,rfl,hs⟩
  exact⟨s',by unfold q9U;dsimp only;rw[e];rfl,h3⟩
 obtain⟨s1,s2⟩:=s'
 refine⟨⟨s2,s1⟩,?_,h3⟩
 unfold q6L
 rw[j5D hg,bsS,k2P (by omega) (by omega),bsS]
 dsimp only
 rw[e];rfl
def q7h:List Nat→Nat
 | []=>1
 | c::cs=>c*q7h cs
def digL:List Nat→Nat→List Nat
 | [],_=>[]
 | _::cs,n=>(n / q7h cs)::digL cs (n % q7h cs)
def z9g:List Nat→List Nat→Option (List Nat)
 | c::cs,d::ds=>match z9g cs ds with
  | some ds'=>some (d::ds')
  | none=>if d+1<c then some ((d+1)::Bmz cs.length 0) else none
 | _,_=>none
theorem j4g:∀ (cs:List Nat) (n:Nat),(digL cs n).length=cs.length
 | [],_=>rfl
 | _::cs,n=>by rw[digL,lnC,j4g cs,lnC]
theorem j4h:∀ cs:List Nat,digL cs 0=Bmz cs.length 0
 | []=>rfl
 | c::cs=>by rw[digL,Nat.zero_div,Nat.zero_mod,j4h cs,lnC,Ddz]
theorem j8i:∀ (cs:List Nat) (n:Nat),n<q7h cs→z9g cs (digL cs n)=if n+1<q7h cs then some (digL cs (n+1)) else none
 | [],n,h=>by
  rw[q7h] at h
  rw[ifN (by rw[q7h];omega)];rfl
 | c::cs,n,h=>by
  rw[q7h] at h ⊢
  have hP:0<q7h cs:=Exz fun e=>by rw[e] at h;omega
  have hr:=Eyz n hP
  have hq:n / q7h cs<c:=(Ezz hP).2 h
  have hn:=Nat.div_add_mod n (q7h cs)
  rw[digL,z9g,j8i cs _ hr]
  generalize hQ:n / q7h cs=q at hq hn ⊢
  generalize hR:n % q7h cs=r at hr hn ⊢
  generalize hPe:q7h cs=P at h hP hr hn ⊢
  by_cases h1:r+1<P
  ·rw[ifP h1]
   have hc:n+1<c*P:=by
    have:(q+1)*P≤c*P:=Cnz _ hq
    rw[Ewz,Faz] at this
    omega
   have e1:(n+1) / P=q:=by
    rw[← hn]
    rw[show P*q+r+1=(r+1)+P*q by omega,Fbz _ _ hP,Nat.div_eq_of_lt h1,Adz]
   have e2:(n+1) % P=r+1:=by
    rw[← hn,show P*q+r+1=(r+1)+P*q by omega,Fcz,Fdz h1]
   rw[ifP hc,digL,hPe,e1,e2]
  ·rw[ifN h1]
   have hr1:r+1=P:=by omega
   have hn1:n+1=P*(q+1):=by rw[Nat.mul_succ];omega
   have e1:(n+1) / P=q+1:=by rw[hn1,Nat.mul_div_cancel_left _ hP]
   have e2:(n+1) % P=0:=by rw[hn1,Nat.mul_mod_right]
   dsimp only
   by_cases h2:q+1<c
   ·have hc:n+1<c*P:=by
     rw[hn1,Faz c P]
     exact (Nat.mul_lt_mul_left hP).2 h2
    rw[ifP h2,ifP hc,digL,hPe,e1,e2,j4h]
   ·have hc:¬ n+1<c*P:=by
     have:c=q+1:=by omega
     rw[hn1,this,Faz P];omega
    rw[ifN h2,ifN hc]
theorem j1K:∀ (cs:List Nat) (n:Nat),q7h (cs++[n])=q7h cs*n
 | [],n=>by simp[q7h]
 | c::cs,n=>by rw[List.cons_append,q7h,q7h,j1K cs,Nat.mul_assoc]
theorem j8j (n:Nat):∀ (cs:List Nat) (m:Nat),m<q7h cs*n→digL (cs++[n]) m=digL cs (m / n)++[m % n]
 | [],m,h=>by
  rw[q7h,Nat.one_mul] at h
  show [m / 1]=[m % n]
  rw[Nat.div_one,Fdz h]
 | c::cs,m,h=>by
  rw[q7h] at h
  have hP:0<q7h cs*n:=Exz fun e=>by rw[Nat.mul_assoc,e] at h;omega
  rw[List.cons_append,digL,digL,j1K,j8j n cs _ (Eyz _ hP),Nat.mod_mul_left_div_self,Nat.mod_mul_left_mod,Nat.div_div_eq_div_mul,Faz n]
  rfl
def chL (cs:List Nat):List (List Nat):=(Amz (q7h cs)).map (digL cs)
theorem j5I (n:Nat):∀ p:Nat,Amz (p*n)=(Amz p).flatMap fun i=>(Amz n).map fun j=>i*n+j
 | 0=>by simp
 | p+1=>by
  rw[Ewz,List.range_add,j5I n p,List.range_succ,List.flatMap_append]
  simp
theorem z9w {α β:Type}{f g:α→List β}:∀ {l:List α},(∀ x∈l,f x=g x)→l.flatMap f=l.flatMap g
 | [],_=>rfl
 | x::l,h=>by rw[Bgz,Bgz,h x Ciz,z9w fun y hy=>h y (Brz _ hy)]
theorem k5F (cs:List Nat)(n:Nat):chL (cs++[n])=(chL cs).flatMap fun c=>(Amz n).map fun j=>c++[j]:=by
 unfold chL
 rw[j1K,j5I,List.map_flatMap,List.flatMap_map]
 refine z9w fun i hi=>?_
 rw[List.map_map]
 refine List.map_congr_left fun j hj=>?_
 have h1:=List.mem_range.1 hi
 have h2:=List.mem_range.1 hj
 have hlt:i*n+j<q7h cs*n:=by
  have:(i+1)*n≤q7h cs*n:=Cnz _ h1
  rw[Ewz] at this
  omega
 show digL (cs++[n]) (i*n+j)=digL cs i++[j]
 have hn:0<n:=by omega
 rw[j8j n cs _ hlt]
 rw[show i*n+j=j+n*i by rw[Faz,Nat.add_comm],Fbz _ _ hn,Nat.div_eq_of_lt h2,Adz,Fcz,Fdz h2]
theorem j8k:∀ {cs:List Nat},(∀ c∈cs,0<c)→0<q7h cs
 | [],_=>Nat.one_pos
 | c::cs,h=>Nat.mul_pos (h c Ciz) (j8k fun x hx=>h x (Brz _ hx))
theorem j5J:∀ {cs:List Nat},0∈cs→q7h cs=0
 | c::cs,h=>by
  rw[q7h]
  rcases List.mem_cons.1 h with e|e
  ·rw[← e,Nat.zero_mul]
  ·rw[j5J e,Nat.mul_zero]
theorem k1H {b:Nat}:∀ {cs:List Nat},(∀ c∈cs,c≤b)→q7h cs≤b ^ cs.length
 | [],_=>Acz _
 | c::cs,h=>by
  rw[q7h,lnC,Nat.pow_succ,Faz]
  exact Nat.mul_le_mul (k1H fun x hx=>h x (Brz _ hx)) (h c Ciz)
theorem k1I:∀ {cs:List Nat} {n:Nat},n<q7h cs→∀ (i d c:Nat),(digL cs n)[i]?=some d→cs[i]?=some c→d<c
 | [],n,h,i,d,c,h1,h2=>by rw[List.getElem?_nil] at h2;cases h2
 | x::cs,n,h,0,d,c,h1,h2=>by
  cases h1
  cases h2
  rw[q7h] at h
  have hP:0<q7h cs:=Exz fun e=>by rw[e] at h;omega
  exact (Ezz hP).2 h
 | x::cs,n,h,i+1,d,c,h1,h2=>by
  rw[q7h] at h
  have hP:0<q7h cs:=Exz fun e=>by rw[e] at h;omega
  exact k1I (Eyz _ hP) i d c h1 h2
def nzR:Rl_:=⟨0,[]⟩
def atN (g:Gm_)(n:BA_):Nat:=(atS g n).getD 0
def InvS (g:Gm_)(A:List (List Rl_)):Prop:=A.length=g.ss_.length∧∀ (k:Nat) (y:Symbol) (L:List Rl_),g.ss_[k]?=some y→A[k]?=some L→L.Nodup∧∀ a∈L,z9X (q6S g y.Name) a
def lsA (g:Gm_)(A:List (List Rl_))(n:BA_):List Rl_:=A.getD (atN g n) []
theorem j8l {g:Gm_}{n:BA_}(hn:(q6P g n).2=true):∃ y,atI g n=(atN g n:Int)∧g.ss_[atN g n]?=some y∧y.Name=n:=by
 obtain⟨j,y,h1,h2,h3,h4⟩:=j8g hn
 have e:atN g n=j:=by unfold atN;rw[h1];rfl
 refine⟨y,?_,by rw[e];exact h2,h4⟩
 unfold atI;rw[h1,e]
theorem InvS.at_ {g:Gm_}{A:List (List Rl_)}(h:InvS g A){n:BA_}(hn:(q6P g n).2=true):atI g n=(atN g n:Int)∧atN g n<A.length∧A[atN g n]?=some (lsA g A n)∧(lsA g A n).Nodup∧∀ a∈lsA g A n,z9X (q6S g n) a:=by
 obtain⟨y,h1,h2,h3⟩:=j8l hn
 have hj:=(List.getElem?_eq_some_iff.1 h2).1
 have e:A[atN g n]?=some (lsA g A n):=by
  unfold lsA
  rw[Ctz,Ckz (by rw[h.1];exact hj)];rfl
 have:=h.2 _ y _ h2 e
 rw[h3] at this
 exact⟨h1,by rw[h.1];exact hj,e,this⟩
theorem InvS.le {g:Gm_}(hS:Shape g){A:List (List Rl_)}(h:InvS g A){n:BA_}(hn:(q6P g n).2=true):(lsA g A n).length≤16:=
 z2L (hS.plain n) (h.at_ hn).2.2.2.1 (h.at_ hn).2.2.2.2
def q5Q (g:Gm_)(r:Rule)(A:List (List Rl_)):List Nat:=r.rt_.map fun n=>(lsA g A n).length
def z4p (g:Gm_)(r:Rule)(A:List (List Rl_))(c:List Nat):List Rl_:=(r.rt_.zip c).map fun p=>(lsA g A p.1).getD p.2 nzR
def iL (l:List Nat):List Int:=l.map (fun n:Nat=>((n:Nat):Int))
def Ch (g:Gm_)(r:Rule)(A:List (List Rl_))(c:List Nat):Prop:=c.length=r.rt_.length∧∀ (i:Nat) (n:BA_) (d:Nat),r.rt_[i]?=some n→c[i]?=some d→d<(lsA g A n).length
theorem k6I {g:Gm_}{r:Rule}{A:List (List Rl_)}{c:List Nat}(h:c∈chL (q5Q g r A)):Ch g r A c:=by
 unfold chL at h
 obtain⟨m,hm,rfl⟩:=List.mem_map.1 h
 refine⟨by rw[j4g];unfold q5Q;rw[lnM],fun i n d h1 h2=>?_⟩
 refine k1I (List.mem_range.1 hm) i d _ h2 ?_
 unfold q5Q
 rw[Cxz,h1];rfl
theorem z8r {g:Gm_}{r:Rule}{A:List (List Rl_)}{c:List Nat}(h:Ch g r A c):(z4p g r A c).length=r.rt_.length:=by
 unfold z4p
 rw[lnM,List.length_zip,h.1,Nat.min_self]
theorem j4i {g:Gm_}{r:Rule}{A:List (List Rl_)}{c:List Nat}(h:Ch g r A c){i:Nat}{n:BA_}{d:Nat}(h1:r.rt_[i]?=some n)(h2:c[i]?=some d) :
  ∃ own,(z4p g r A c)[i]?=some own∧(lsA g A n)[d]?=some own:=by
 have hd:=h.2 i n d h1 h2
 refine⟨(lsA g A n)[d],?_,Ckz hd⟩
 unfold z4p
 have hz:(r.rt_.zip c)[i]?=some (n,d):=List.getElem?_zip_eq_some.2 ⟨h1,h2⟩
 rw[Cxz,hz]
 simp only[Bvz]
 rw[Ctz,Ckz hd];rfl
theorem j5K {g:Gm_}(hS:Shape g){r:Rule}(hr:r∈g.rs_){A:List (List Rl_)}(hA:InvS g A){c:List Nat}(h:Ch g r A c):FitL g r (z4p g r A c):=by
 refine⟨z8r h,fun k own hk=>?_⟩
 have hlt:=(List.getElem?_eq_some_iff.1 hk).1
 rw[z8r h] at hlt
 obtain⟨n,hn⟩:∃ n,r.rt_[k]?=some n:=⟨_,Ckz hlt⟩
 obtain⟨d,hd⟩:∃ d,c[k]?=some d:=⟨_,Ckz (by rw[h.1];exact hlt)⟩
 obtain⟨own',h1,h2⟩:=j4i h hn hd
 rw[hk] at h1;cases h1
 have:=(hA.at_ (hS.right hr (Bsz hn))).2.2.2.2 own (Bsz h2)
 rw[z7j hn]
 exact⟨this.1,this.2.1⟩
noncomputable def ownR (g:Gm_) (r:Rule) (A:List (List Rl_)) (c:List Nat):Rl_:=sumS g r (j2p g r (z4p g r A c))
theorem k1J {g:Gm_}(h0:Sz.szd g≤1048576)(hS:Shape g)(r:Rule)(x:Rl_):z9X (q6S g r.Left) (sumS g r x):=by
 obtain⟨s,h1,h2⟩:=k1G (z3C h0) (r:=r) (by have:=hS.plain r.Left;omega) x
 unfold sumS
 rw[h1];exact h2
noncomputable def stA (w:Nat) (s:Rl_) (q:List (List Rl_)×Bool):List (List Rl_)×Bool:=if s∈q.1.getD w [] then q else (q.1.set w (q.1.getD w []++[s]),true)
def Ext (A B:List (List Rl_)):Prop:=B.length=A.length∧∀ (k:Nat) (L:List Rl_),A[k]?=some L→∃ t,B[k]?=some (L++t)
theorem Ext.rfl' (A:List (List Rl_)):Ext A A:=⟨rfl,fun k L h=>⟨[],by rw[List.append_nil];exact h⟩⟩
def tot (A:List (List Rl_)):Nat:=(A.map (·.length)).sum
theorem k1K:∀ (A:List (List Rl_)) (k:Nat) (x a:List Rl_),A[k]?=some a→tot (A.set k x)+a.length=tot A+x.length
 | [],k,x,a,h=>by simp at h
 | b::A,0,x,a,h=>by simp at h;subst h;unfold tot;simp;omega
 | b::A,k+1,x,a,h=>by
  have ih:=k1K A k x a (by simpa using h)
  unfold tot at ih ⊢
  simp only[List.set_cons_succ,Bhz,Erz];omega
theorem InvS.bound {g:Gm_}(hS:Shape g){A:List (List Rl_)}(h:InvS g A):tot A≤g.ss_.length*16:=by
 have key:∀ l:List (List Rl_),(∀ a∈l,a.length≤16)→tot l≤l.length*16:=by
  intro l
  induction l with
  | nil=>intro _;simp[tot]
  | cons a l ih=>
   intro hv
   have h1:=hv a (by simp)
   have h2:=ih fun b hb=>hv b (by simp[hb])
   unfold tot at h2 ⊢
   simp only[Bhz,Erz,lnC]
   omega
 rw[← h.1]
 refine key A fun L hL=>?_
 obtain⟨k,hk⟩:=Elz hL
 have hlt:=(List.getElem?_eq_some_iff.1 hk).1
 obtain⟨y,hy⟩:∃ y,g.ss_[k]?=some y:=⟨_,Ckz (by rw[← h.1];exact hlt)⟩
 exact z2L (hS.plain y.Name) (h.2 k y L hy hk).1 (h.2 k y L hy hk).2
structure Mv (g:Gm_) (A:List (List Rl_)) (q q' : List (List Rl_)×Bool):Prop where
 inv:InvS g q'.1
 ext:Ext A q'.1
 le:tot q.1≤tot q'.1
 up:q'.2=true→q.2=true∨tot q.1<tot q'.1
 no:q'.2=false→q'=q
theorem Mv.refl {g:Gm_}{A:List (List Rl_)}{q:List (List Rl_)×Bool}(h:InvS g q.1)(he:Ext A q.1):Mv g A q q:=⟨h,he,Acz _,fun h=>.inl h,fun _=>rfl⟩
theorem Mv.trans {g:Gm_}{A:List (List Rl_)}{p q s:List (List Rl_)×Bool}(h1:Mv g A p q)(h2:Mv g A q s):Mv g A p s:=
 ⟨h2.inv,h2.ext,Bdz h1.le h2.le,fun h=>by
  rcases h2.up h with h|h
  ·rcases h1.up h with h|h
   ·exact .inl h
   ·exact .inr (Nat.lt_of_lt_of_le h h2.le)
  ·exact .inr (Nat.lt_of_le_of_lt h1.le h),fun h=>by
  have e:=h2.no h
  rw[e] at h ⊢
  exact h1.no h⟩
theorem k5G {g:Gm_}(hS:Shape g){r:Rule}(hr:r∈g.rs_){A:List (List Rl_)}{q:List (List Rl_)×Bool}(h:InvS g q.1)(he:Ext A q.1){s:Rl_}(hs:z9X (q6S g r.Left) s):Mv g A q (stA (atN g r.Left) s q):=by
 unfold stA
 have hk:=hS.left hr
 obtain⟨h1,h2,h3,h4,h5⟩:=h.at_ hk
 have hg:q.1.getD (atN g r.Left) []=lsA g q.1 r.Left:=rfl
 rw[hg]
 by_cases hm:s∈lsA g q.1 r.Left
 ·rw[ifP hm];exact .refl h he
 ·rw[ifN hm]
  have ht:=k1K q.1 (atN g r.Left) (lsA g q.1 r.Left++[s]) _ h3
  rw[Awz,List.length_singleton] at ht
  refine⟨⟨by rw[Cjz];exact h.1,fun k y L hy hL=>?_⟩,⟨by rw[Cjz];exact he.1,fun k L hL=>?_⟩,by dsimp only;omega,fun _=>.inr (by dsimp only;omega),fun h=>by cases h⟩
  ·dsimp only at hL
   by_cases e:atN g r.Left=k
   ·subst e
    rw[Euz h2] at hL
    cases hL
    obtain⟨y',_,h7,h8⟩:=j8l hk
    rw[hy] at h7;cases h7
    rw[h8]
    refine⟨List.nodup_append.2 ⟨h4,by simp,fun a ha b hb e=>?_⟩,fun a ha=>?_⟩
    ·rw[Blz] at hb;subst hb;subst e;exact hm ha
    ·rcases List.mem_append.1 ha with ha|ha
     ·exact h5 a ha
     ·rw[Blz] at ha;subst ha;exact hs
   ·rw[Evz e] at hL
    exact h.2 k y L hy hL
  ·obtain⟨t,e2⟩:=he.2 k L hL
   by_cases e:atN g r.Left=k
   ·subst e
    rw[h3] at e2
    refine⟨t++[s],?_⟩
    dsimp only
    rw[Euz h2,Option.some.inj e2,Ayz]
   ·exact⟨t,by dsimp only;rw[Evz e];exact e2⟩
theorem Mv.fold {α:Type}{g:Gm_}{A:List (List Rl_)}{f:List (List Rl_)×Bool→α→List (List Rl_)×Bool}:∀ (l:List α) (q:List (List Rl_)×Bool),InvS g q.1→Ext A q.1→(∀ q x,x∈l→InvS g q.1→Ext A q.1→Mv g A q (f q x))→Mv g A q (l.foldl f q)
 | [],q,h,he,_=>.refl h he
 | x::l,q,h,he,hf=>by
  have h1:=hf q x (by simp) h he
  exact h1.trans (Mv.fold l _ h1.inv h1.ext fun q y hy=>hf q y (by simp[hy]))
noncomputable def runR (g:Gm_) (A:List (List Rl_)) (q:List (List Rl_)×Bool) (r:Rule):List (List Rl_)×Bool:=(chL (q5Q g r A)).foldl (fun q c=>stA (atN g r.Left) (ownR g r A c) q) q
theorem k1L {g:Gm_}(h0:Sz.szd g≤1048576)(hS:Shape g){r:Rule}(hr:r∈g.rs_){A:List (List Rl_)}{q:List (List Rl_)×Bool}(h:InvS g q.1)(he:Ext A q.1):Mv g A q (runR g A q r):=
 Mv.fold _ q h he fun q c _ h he=>k5G hS hr h he (k1J h0 hS r _)
theorem z5Z (l:List Nat)(i:Nat):(iL l)[i]?=(l[i]?).map fun n:Nat=>(n:Int):=by unfold iL;rw[Cxz]
theorem z8s (l:List Nat):(iL l).length=l.length:=by unfold iL;rw[lnM]
theorem k6J (l m:List Nat):iL (l++m)=iL l++iL m:=by unfold iL;rw[List.map_append]
theorem k6K (l:List Nat)(i x:Nat):(iL l).set i (x:Int)=iL (l.set i x):=by unfold iL;rw[List.map_set]
theorem j5L:∀ (m:Nat) (cs ds e:List Nat),ds.length=cs.length→z9g (cs.drop m) (ds.drop m)=some e→z9g cs ds=some (ds.take m++e)
 | 0,cs,ds,e,_,h=>by simpa using h
 | m+1,[],ds,e,hl,h=>by rw[List.drop_nil] at h;simp[z9g] at h
 | m+1,c::cs,[],e,hl,h=>by simp at hl
 | m+1,c::cs,d::ds,e,hl,h=>by
  rw[z9g,j5L m cs ds e (by simpa using hl) (by simpa using h)];rfl
def k1M (cs ds:List Nat)(q:Int×List Int):Prop:=match z9g cs ds with
 | none=>q.1<0
 | some e=>0≤q.1∧∃ x:Nat,q.2[q.1.toNat]?=some (x:Int)∧x≤1048576∧q.2.set q.1.toNat ((x+1:Nat):Int)=iL e
theorem j8m {cs ds:List Nat}{f:(Int×List Int)→Option ((Int×List Int) ⊕ (Int×List Int))}(hf:f=q3J (iL cs))(hl:ds.length=cs.length)(hd:∀ (i d c:Nat),ds[i]?=some d→cs[i]?=some c→d<c∧c≤1048576)(hn:cs.length≤1048576) :
  ∀ m:Nat,m≤cs.length→z9g (cs.drop m) (ds.drop m)=none→∃ q,q4Y f ((m:Int)-1,iL (ds.take m++Bmz (cs.length-m) 0))=some q∧k1M cs ds q
 | 0,_,h=>by
  refine⟨_,q3V (r:=_) (by rw[hf];unfold q3J;dsimp only;rw[ifN (by omega)]),?_⟩
  unfold k1M
  rw[Etz,Etz] at h
  rw[h]
  show (0:Int)-1<0
  omega
 | m+1,hm,h=>by
  have hm1:m<cs.length:=hm
  have hm2:m<ds.length:=by omega
  obtain⟨c,hc⟩:∃ c,cs[m]?=some c:=⟨_,Ckz hm1⟩
  obtain⟨d,hdd⟩:∃ d,ds[m]?=some d:=⟨_,Ckz hm2⟩
  obtain⟨h1,h2⟩:=hd m d c hdd hc
  have ed:ds.drop m=d::ds.drop (m+1):=by rw[Cpz hm2];rw[Ckz hm2] at hdd;rw[Option.some.inj hdd]
  have ec:cs.drop m=c::cs.drop (m+1):=by rw[Cpz hm1];rw[Ckz hm1] at hc;rw[Option.some.inj hc]
  have et:ds.take (m+1)=ds.take m++[d]:=by rw[List.take_add_one,hdd];rfl
  have hlen:(ds.take m).length=m:=by rw[List.length_take];omega
  have hg:(iL (ds.take (m+1)++Bmz (cs.length-(m+1)) 0))[m]?=some (d:Int):=by
   rw[z5Z,et,Ayz,List.getElem?_append_right (by omega),hlen,Fez];rfl
  have hset:∀ x:Nat,(iL (ds.take (m+1)++Bmz (cs.length-(m+1)) 0)).set m (x:Int)=iL (ds.take m++x::Bmz (cs.length-(m+1)) 0):=fun x=>by
   rw[k6K,et,Ayz,List.set_append_right _ _ (by omega),hlen,Fez];rfl
  have hN:(((m+1:Nat):Int)-1)=(m:Int):=by omega
  by_cases e:d=c-1
  ·have hs:f (((m+1:Nat):Int)-1,iL (ds.take (m+1)++Bmz (cs.length-(m+1)) 0))=some (.inl ((m:Int)-1,iL (ds.take m++Bmz (cs.length-m) 0))):=by
    rw[hf]
    unfold q3J
    dsimp only
    rw[hN,ifP (by omega),q3G (by omega),tnC,hg,bsS,q3G (by omega),z5Z,hc,Bvz,bsS,q3G ⟨by omega,by omega⟩,ifP (by omega),q3G ⟨by omega,by omega⟩]
    have:=hset 0
    rw[show ((0:Nat):Int)=0 from rfl] at this
    rw[this,show cs.length-m=(cs.length-(m+1))+1 by omega,Ddz]
   rw[q4Q hs]
   refine j8m hf hl hd hn m (by omega) ?_
   rw[ec,ed,z9g,h]
   dsimp only
   rw[ifN (by omega)]
  ·refine⟨_,q3V (r:=_) (by
    rw[hf]
    unfold q3J
    dsimp only
    rw[hN,ifP (by omega),q3G (by omega),tnC,hg,bsS,q3G (by omega),z5Z,hc,Bvz,bsS,q3G ⟨by omega,by omega⟩,ifN (by omega)]),?_⟩
   have hx:z9g cs ds=some (ds.take m++(d+1)::Bmz (cs.length-(m+1)) 0):=by
    refine j5L m cs ds _ hl ?_
    rw[ec,ed,z9g,h]
    dsimp only
    rw[ifP (by omega),List.length_drop]
   unfold k1M
   rw[hx]
   dsimp only
   refine⟨by omega,d,?_,by omega,?_⟩
   ·rw[tnC];exact hg
   ·rw[tnC];exact hset (d+1)
theorem j9A {cs ds:List Nat}{f:(Int×List Int)→Option ((Int×List Int) ⊕ (Int×List Int))}(hf:f=q3J (iL cs))(hl:ds.length=cs.length)(hd:∀ (i d c:Nat),ds[i]?=some d→cs[i]?=some c→d<c∧c≤1048576)(hn:cs.length≤1048576) :
  ∃ q,q4Y f (((iL cs).length:Int)-1,iL ds)=some q∧k1M cs ds q:=by
 have:=j8m hf hl hd hn cs.length (Acz _) (by rw[List.drop_length,z9g];intro a b c d h;simp at h)
 rw[Fez,List.replicate_zero,List.append_nil,← hl,List.take_length] at this
 rw[z8s,← hl];exact this
end Go.Proofs.YtnhofaohogianaaGreat
